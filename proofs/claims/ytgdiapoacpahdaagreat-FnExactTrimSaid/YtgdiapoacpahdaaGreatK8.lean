import Derived.KernelRfl
import Derived.Test.YtgdiapoacpahdaaGreatK7
set_option linter.unusedVariables false
set_option linter.unusedSimpArgs false
namespace Go.Proofs.X
open Go Go.Va
set_option maxRecDepth 100000
noncomputable section
abbrev E32 : Env := ⟨tab, lookH [(106, c106), (228, c228), (229, c229), (230, c230)], { deep := true, heads := [(2, { live := [0, 2, 4, 7] })], outs := [(2, { live := [0, 4, 6] })], joins := [(7, { live := [0, 4, 63] }), (8, { live := [0, 4, 6] })], ents := [(7, [0, 4]), (8, [0, 4])] }⟩
def AdU (a : (List Ae.V)) (b : Ad.V) : St := sT 109 [(0, dD (.sl Ae) a), (4, .ptr 0 0 [] 0)] [.box (dD Ad b)]
def Aih (a : (List Ae.V)) (b : Ad.V) : (Unit ⊕ Unit) → Ex × St := Sum.elim (fun c => (.ret, sT 109 [(0, dD (.sl Ae) a), (4, .ptr 0 0 [] 0), (6, dB false)] [.box (dD Ad b)])) (fun d => (.normal, sT 109 [(0, dD (.sl Ae) a), (4, .ptr 0 0 [] 0)] [.box (dD Ad b)]))
def Yx (a : (List Ae.V)) (b : Ad.V) : St := sT 109 [(0, dD (.sl Ae) a), (4, .ptr 0 0 [] 0)] [.box (dD Ad b)]
def IH (a : (List Ae.V)) (b : Ad.V) (m0 : Bool) : Ex × St := (.normal, sT 109 [(0, dD (.sl Ae) a), (4, .ptr 0 0 [] 0), (63, dB m0)] [.box (dD Ad b)])
theorem Aej (a : (List Ae.V)) (b : Ad.V) : jnS E32 0 7 (sub (code Tryz.f199) [1, 1, 0]) [0] (Yx a b) = some (IH a b (bif (b.1 != 1) then ((b.2.1 != 0) || (bif (b.1 != 2) then ((!(AG b.2.2.2.2.1)) || (bif (b.1 != 4) then ((b.2.2.2.1 != 0) || ((!(Av b.1)) && (b.2.2.1 != 0))) else ((!(Av b.1)) && (b.2.2.1 != 0)))) else (bif (b.1 != 4) then ((b.2.2.2.1 != 0) || ((!(Av b.1)) && (b.2.2.1 != 0))) else ((!(Av b.1)) && (b.2.2.1 != 0))))) else (bif (b.1 != 2) then ((!(AG b.2.2.2.2.1)) || (bif (b.1 != 4) then ((b.2.2.2.1 != 0) || ((!(Av b.1)) && (b.2.2.1 != 0))) else ((!(Av b.1)) && (b.2.2.1 != 0)))) else (bif (b.1 != 4) then ((b.2.2.2.1 != 0) || ((!(Av b.1)) && (b.2.2.1 != 0))) else ((!(Av b.1)) && (b.2.2.1 != 0)))))) := by
  have h0 : jnS E32 0 7 (sub (code Tryz.f199) [1, 1, 0]) [0] (Yx a b) =
 bif (b.1 != 1) then
 bif (b.2.1 != 0) then
 some (IH a b true)
 else
 bif (b.1 != 2) then
 bif (!(AG b.2.2.2.2.1)) then
 some (IH a b true)
 else
 bif (b.1 != 4) then
 bif (b.2.2.2.1 != 0) then
 some (IH a b true)
 else
 bif (!(Av b.1)) then
 some (IH a b (b.2.2.1 != 0))
 else
 some (IH a b false)
 else
 bif (!(Av b.1)) then
 some (IH a b (b.2.2.1 != 0))
 else
 some (IH a b false)
 else
 bif (b.1 != 4) then
 bif (b.2.2.2.1 != 0) then
 some (IH a b true)
 else
 bif (!(Av b.1)) then
 some (IH a b (b.2.2.1 != 0))
 else
 some (IH a b false)
 else
 bif (!(Av b.1)) then
 some (IH a b (b.2.2.1 != 0))
 else
 some (IH a b false)
 else
 bif (b.1 != 2) then
 bif (!(AG b.2.2.2.2.1)) then
 some (IH a b true)
 else
 bif (b.1 != 4) then
 bif (b.2.2.2.1 != 0) then
 some (IH a b true)
 else
 bif (!(Av b.1)) then
 some (IH a b (b.2.2.1 != 0))
 else
 some (IH a b false)
 else
 bif (!(Av b.1)) then
 some (IH a b (b.2.2.1 != 0))
 else
 some (IH a b false)
 else
 bif (b.1 != 4) then
 bif (b.2.2.2.1 != 0) then
 some (IH a b true)
 else
 bif (!(Av b.1)) then
 some (IH a b (b.2.2.1 != 0))
 else
 some (IH a b false)
 else
 bif (!(Av b.1)) then
 some (IH a b (b.2.2.1 != 0))
 else
 some (IH a b false) := by kernel_rfl
  rw [h0]
  cases h1 : (b.1 != 1)
  · cases h2 : (b.1 != 2)
    · cases h3 : (b.1 != 4)
      · cases h4 : (!(Av b.1))
        · first | rfl | kernel_rfl
        · first | rfl | kernel_rfl
      · cases h4 : (b.2.2.2.1 != 0)
        · cases h5 : (!(Av b.1))
          · first | rfl | kernel_rfl
          · first | rfl | kernel_rfl
        · first | rfl | kernel_rfl
    · cases h3 : (!(AG b.2.2.2.2.1))
      · cases h4 : (b.1 != 4)
        · cases h5 : (!(Av b.1))
          · first | rfl | kernel_rfl
          · first | rfl | kernel_rfl
        · cases h5 : (b.2.2.2.1 != 0)
          · cases h6 : (!(Av b.1))
            · first | rfl | kernel_rfl
            · first | rfl | kernel_rfl
          · first | rfl | kernel_rfl
      · first | rfl | kernel_rfl
  · cases h2 : (b.2.1 != 0)
    · cases h3 : (b.1 != 2)
      · cases h4 : (b.1 != 4)
        · cases h5 : (!(Av b.1))
          · first | rfl | kernel_rfl
          · first | rfl | kernel_rfl
        · cases h5 : (b.2.2.2.1 != 0)
          · cases h6 : (!(Av b.1))
            · first | rfl | kernel_rfl
            · first | rfl | kernel_rfl
          · first | rfl | kernel_rfl
      · cases h4 : (!(AG b.2.2.2.2.1))
        · cases h5 : (b.1 != 4)
          · cases h6 : (!(Av b.1))
            · first | rfl | kernel_rfl
            · first | rfl | kernel_rfl
          · cases h6 : (b.2.2.2.1 != 0)
            · cases h7 : (!(Av b.1))
              · first | rfl | kernel_rfl
              · first | rfl | kernel_rfl
            · first | rfl | kernel_rfl
        · first | rfl | kernel_rfl
    · first | rfl | kernel_rfl
def H8 (a : (List Ae.V)) (b : Ad.V) : Option (Unit ⊕ Unit) :=
 mkr (Yx a b) (
 bif (bif (b.1 != 1) then ((b.2.1 != 0) || (bif (b.1 != 2) then ((!(AG b.2.2.2.2.1)) || (bif (b.1 != 4) then ((b.2.2.2.1 != 0) || ((!(Av b.1)) && (b.2.2.1 != 0))) else ((!(Av b.1)) && (b.2.2.1 != 0)))) else (bif (b.1 != 4) then ((b.2.2.2.1 != 0) || ((!(Av b.1)) && (b.2.2.1 != 0))) else ((!(Av b.1)) && (b.2.2.1 != 0))))) else (bif (b.1 != 2) then ((!(AG b.2.2.2.2.1)) || (bif (b.1 != 4) then ((b.2.2.2.1 != 0) || ((!(Av b.1)) && (b.2.2.1 != 0))) else ((!(Av b.1)) && (b.2.2.1 != 0)))) else (bif (b.1 != 4) then ((b.2.2.2.1 != 0) || ((!(Av b.1)) && (b.2.2.1 != 0))) else ((!(Av b.1)) && (b.2.2.1 != 0))))) then
 some (.inl ())
 else
 some (.inr ()))
theorem Add (a : (List Ae.V)) (b : Ad.V) : JnOk E32 0 8 (code Tryz.f199) [1, 1, 0] (AdU a b) (H8 a b) (Aih a b) := by
  unfold JnOk
  simp only [H8, mC, mI, mN, mB, mE, mM]
  simp (disch := refine sI ?_ <;> (repeat' refine sA ?_ ?_) <;> intro _ <;> kernel_rfl) only [DB (Aej _ _) (K := joinK 0 (E32.jn 8))]
  kernel_rfl
def Ah7 (a : (List Ae.V)) (e : Int) (b : Ad.V) (z_ : Int) : St := sT 109 [(0, dD (.sl Ae) a), (2, dI e), (4, .ptr 0 0 [] 0), (7, dI z_)] [.box (dD Ad b)]
def Ad5 (a : (List Ae.V)) (e : Int) (b : Ad.V) : (Unit ⊕ Unit) → Ex × St := Sum.elim (fun g => (.ret, sT 109 [(0, dD (.sl Ae) a), (4, .ptr 0 0 [] 0), (6, dB false)] [.box (dD Ad b)])) (fun i => ((.exit 0), sT 109 [(0, dD (.sl Ae) a), (4, .ptr 0 0 [] 0)] [.box (dD Ad b)]))
def Gs (a : (List Ae.V)) (e : Int) (b : Ad.V) (j : Int) : Option (Int ⊕ (Unit ⊕ Unit)) :=
 bif (decide (j < (b.2.2.2.2.2.1.length : Int))) then
 if (0 : Int) ≤ j ∧ j < (b.2.2.2.2.2.1.length : Int) then
 bif (!(AA (b.2.2.2.2.2.1.getD j.toNat (Ty.zero (.int .i64))) 0 (IntKind.i64.wrap (e - 1)))) then
 some (.inr (.inl ()))
 else
 some (.inl (IntKind.i64.wrap (j + 1)))
 else none
 else
 some (.inr (.inr ()))
def D3 (a : (List Ae.V)) (e : Int) (b : Ad.V) (z_ : Int) := Gs a e b z_
def JG (a : (List Ae.V)) (e : Int) (b : Ad.V) (j : Int) := fix (D3 a e b) j
theorem Ac9 (a : (List Ae.V)) (e : Int) (b : Ad.V) : LpOk E32 0 2 (code Tryz.f199) [1, 0, 1, 0] (Ah7 a e b) (D3 a e b) (Ad5 a e b) := by
  intro _
  simp only [D3, Gs, mC, mI, mN, mB, mE, mM]
  kernel_rfl
def GC (a : (List Ae.V)) (b : Ad.V) (e : Int) : Option Bool :=
 (JG a e b 0).bind (Sum.elim (fun g =>
 some false) (fun i =>
 (H8 a b).bind (Sum.elim (fun c =>
 some false) (fun d =>
 bif (b.1 == 1) then
 bif ((b.2.2.2.2.2.1.length : Int) == 0) then
 some (AA b.2.1 0 (IntKind.i64.wrap ((a.length : Int) - 1)))
 else
 some false
 else
 bif (b.1 == 2) then
 bif ((b.2.2.2.2.2.1.length : Int) == 0) then
 (DM b.2.2.2.2.1).bind fun k =>
 some k
 else
 some false
 else
 bif (b.1 == 3) then
 some (decide ((b.2.2.2.2.2.1.length : Int) ≥ 2))
 else
 bif (Av b.1) then
 some ((b.2.2.2.2.2.1.length : Int) == 1)
 else
 some false))))
theorem U32 (R : Type) (a : (List Ae.V)) (b : Ad.V) (e : Int) (K : AV → List Blk → Option R) : runF E32 Tryz.f199 R [dD (.sl Ae) a, dD Ad b, dI e] [] K = (GC a b e).bind fun r => K (dB r) [] := by
  simp only [GC, bC, bI, bN, bE, bA, bS, bO, bM]
  simp (disch := refine sI ?_ <;> (repeat' refine sA ?_ ?_) <;> intro _ <;> kernel_rfl) only [JG, AC (Ac9 _ _ _) (K := finK E32 Tryz.f199 0 R K), AX (Add _ _) (K := finK E32 Tryz.f199 0 R K)]
  kernel_rfl
def c199 : Va.Callee := brC [.d (.sl Ae), .d Ad, .d (.int .i64)] [⟨[.dat [] (.sl Ae), .dat [] Ad, .dat [] (.int .i64)], [], Bool, fun p => GC p.1.1 p.1.2.1 p.1.2.2.1, fun r => (dB r, [])⟩]
theorem UZ : SoundC Tryz.prog 199 c199 := Ao (fn := Tryz.f199) (by kernel_rfl) (by kernel_rfl) (by kernel_rfl) ⟨⟨E32, ⟨⟨tabok, Am ⟨IF, RD, Vr, Ra, trivial⟩⟩, mixed⟩, fun p R K => U32 R p.1.1 p.1.2.1 p.1.2.2.1 K⟩, trivial⟩
abbrev E33 : Env := ⟨tab, lookH [(106, c106)], { deep := true, heads := [(3, { live := [0, 2, 4, 7, 8] })], outs := [(3, { live := [0, 4, 7] })], joins := [(13, { live := [4, 59] }), (17, { live := [4, 7, 28, 66] }), (22, { live := [4, 7, 28, 77] }), (28, { live := [6, 7] })], ents := [(13, [4, 7]), (17, [4, 7, 28]), (22, [4, 7, 28]), (28, [0, 4, 7])] }⟩
def AgG (a : (List Ae.V)) (b : Int) (c : Ad.V) : St := sT 95 [(0, dD (.sl Ae) a), (4, .ptr 0 0 [] 0), (7, dI b)] [.box (dD Ad c)]
def AeH (a : (List Ae.V)) (b : Int) (c : Ad.V) : (Int ⊕ (Int ⊕ Unit)) → Ex × St := Sum.elim (fun d => (.ret, sT 95 [(6, dI d), (7, dI b)] [])) (Sum.elim (fun e => (.ret, sT 95 [(6, dI e)] [])) (fun g => (.normal, sT 95 [(7, dI b)] [])))
def Y2 (b : Int) (c : Ad.V) : St := sT 95 [(4, .ptr 0 0 [] 0), (7, dI b), (28, dI c.1)] [.box (dD Ad c)]
def XR (b : Int) (c : Ad.V) (m0 : Bool) : Ex × St := (.normal, sT 95 [(4, .ptr 0 0 [] 0), (7, dI b), (28, dI c.1), (77, dB m0)] [.box (dD Ad c)])
theorem AhJ (b : Int) (c : Ad.V) : jnS E33 0 22 (sub (code Tryz.f200) [1, 1, 1, 0]) [1, 0, 1, 1, 1, 1, 1, 1, 1, 1, 0] (Y2 b c) = some (XR b c (bif (c.1 == 7) then (c.1 == 7) else (c.1 == 8))) := by
  have h0 : jnS E33 0 22 (sub (code Tryz.f200) [1, 1, 1, 0]) [1, 0, 1, 1, 1, 1, 1, 1, 1, 1, 0] (Y2 b c) =
 bif (c.1 == 7) then
 some (XR b c (c.1 == 7))
 else
 some (XR b c (c.1 == 8)) := by kernel_rfl
  rw [h0]
  cases h1 : (c.1 == 7)
  · first | rfl | kernel_rfl
  · first | rfl | kernel_rfl
def Xy (b : Int) (c : Ad.V) : St := sT 95 [(4, .ptr 0 0 [] 0), (7, dI b), (28, dI c.1)] [.box (dD Ad c)]
def Xt (b : Int) (c : Ad.V) (m0 : Bool) : Ex × St := (.normal, sT 95 [(4, .ptr 0 0 [] 0), (7, dI b), (28, dI c.1), (66, dB m0)] [.box (dD Ad c)])
theorem Aei (b : Int) (c : Ad.V) : jnS E33 0 17 (sub (code Tryz.f200) [1, 1, 1, 0]) [1, 0, 1, 1, 1, 1, 1, 1, 0] (Xy b c) = some (Xt b c (bif (c.1 == 5) then (c.1 == 5) else (c.1 == 6))) := by
  have h0 : jnS E33 0 17 (sub (code Tryz.f200) [1, 1, 1, 0]) [1, 0, 1, 1, 1, 1, 1, 1, 0] (Xy b c) =
 bif (c.1 == 5) then
 some (Xt b c (c.1 == 5))
 else
 some (Xt b c (c.1 == 6)) := by kernel_rfl
  rw [h0]
  cases h1 : (c.1 == 5)
  · first | rfl | kernel_rfl
  · first | rfl | kernel_rfl
def Y0 (b : Int) (c : Ad.V) : St := sT 95 [(4, .ptr 0 0 [] 0), (7, dI b)] [.box (dD Ad c)]
def UI (c : Ad.V) (m0 : Bool) : Ex × St := (.normal, sT 95 [(4, .ptr 0 0 [] 0), (59, dB m0)] [.box (dD Ad c)])
theorem Ah3 (b : Int) (c : Ad.V) : jnS E33 0 13 (sub (code Tryz.f200) [1, 1, 1, 0]) [1, 0, 1, 1, 1, 1, 1, 0, 0, 0] (Y0 b c) = some (UI c ((decide (c.2.2.2.1 < 0)) || ((decide (c.2.2.1 < c.2.2.2.1)) || (decide (c.2.2.1 ≥ b))))) := by
  have h0 : jnS E33 0 13 (sub (code Tryz.f200) [1, 1, 1, 0]) [1, 0, 1, 1, 1, 1, 1, 0, 0, 0] (Y0 b c) =
 bif (decide (c.2.2.2.1 < 0)) then
 some (UI c true)
 else
 bif (decide (c.2.2.1 < c.2.2.2.1)) then
 some (UI c true)
 else
 some (UI c (decide (c.2.2.1 ≥ b))) := by kernel_rfl
  rw [h0]
  cases h1 : (decide (c.2.2.2.1 < 0))
  · cases h2 : (decide (c.2.2.1 < c.2.2.2.1))
    · first | rfl | kernel_rfl
    · first | rfl | kernel_rfl
  · first | rfl | kernel_rfl
def H9 (a : (List Ae.V)) (b : Int) (c : Ad.V) : Option (Int ⊕ (Int ⊕ Unit)) :=
 bif (c.1 == 1) then
 if (0 : Int) ≤ c.2.1 ∧ c.2.1 < (a.length : Int) then
 some (.inl (a.getD c.2.1.toNat (Ty.zero Ae)).2.1)
 else none
 else
 bif (c.1 == 2) then
 some (.inl c.2.2.2.2.1.1)
 else
 bif (c.1 == 4) then
 mkr (Y0 b c) (
 bif ((decide (c.2.2.2.1 < 0)) || ((decide (c.2.2.1 < c.2.2.2.1)) || (decide (c.2.2.1 ≥ b)))) then
 some (.inr (.inl (-1)))
 else
 some (.inr (.inl (IntKind.i64.wrap ((IntKind.i64.wrap (c.2.2.1 - c.2.2.2.1)) + 1)))))
 else
 mkr (Xy b c) (
 bif (bif (c.1 == 5) then (c.1 == 5) else (c.1 == 6)) then
 bif (!(AA c.2.2.1 0 4096)) then
 some (.inl (-1))
 else
 some (.inl (IntKind.i64.wrap (b + c.2.2.1)))
 else
 mkr (Y2 b c) (
 bif (bif (c.1 == 7) then (c.1 == 7) else (c.1 == 8)) then
 bif (!(AA c.2.2.1 0 4096)) then
 some (.inl (-1))
 else
 some (.inr (.inr ()))
 else
 bif (c.1 == 9) then
 bif (!(AA c.2.2.1 1 4096)) then
 some (.inl (-1))
 else
 some (.inl (IntKind.i64.wrap (b * c.2.2.1)))
 else
 some (.inr (.inr ()))))
theorem Ah2 (a : (List Ae.V)) (b : Int) (c : Ad.V) : JnOk E33 0 28 (code Tryz.f200) [1, 1, 1, 0] (AgG a b c) (H9 a b c) (AeH a b c) := by
  unfold JnOk
  simp only [H9, mC, mI, mN, mB, mE, mM]
  simp (disch := refine sI ?_ <;> (repeat' refine sA ?_ ?_) <;> intro _ <;> kernel_rfl) only [DB (Ah3 _ _) (K := joinK 0 (E33.jn 28)), DB (Aei _ _) (K := joinK 0 (E33.jn 28)), DB (AhJ _ _) (K := joinK 0 (E33.jn 28))]
  kernel_rfl
def Aik (a : (List Ae.V)) (i : (List Int)) (c : Ad.V) (z_ : (Int × Int)) : St := sT 95 [(0, dD (.sl Ae) a), (2, dD (.sl (.int .i64)) i), (4, .ptr 0 0 [] 0), (7, dI z_.1), (8, dI z_.2)] [.box (dD Ad c)]
def AgA (a : (List Ae.V)) (i : (List Int)) (c : Ad.V) : Int → Ex × St := fun b => ((.exit 0), sT 95 [(0, dD (.sl Ae) a), (4, .ptr 0 0 [] 0), (7, dI b)] [.box (dD Ad c)])
def Gl (a : (List Ae.V)) (i : (List Int)) (c : Ad.V) (j : Int) (k : Int) : Option ((Int × Int) ⊕ Int) :=
 bif (decide (k < (c.2.2.2.2.2.1.length : Int))) then
 if (0 : Int) ≤ k ∧ k < (c.2.2.2.2.2.1.length : Int) then
 if (0 : Int) ≤ (c.2.2.2.2.2.1.getD k.toNat (Ty.zero (.int .i64))) ∧ (c.2.2.2.2.2.1.getD k.toNat (Ty.zero (.int .i64))) < (i.length : Int) then
 some (.inl ((if (IntKind.i64.wrap (j + (i.getD (c.2.2.2.2.2.1.getD k.toNat (Ty.zero (.int .i64))).toNat (Ty.zero (.int .i64))))) < 8192 then (IntKind.i64.wrap (j + (i.getD (c.2.2.2.2.2.1.getD k.toNat (Ty.zero (.int .i64))).toNat (Ty.zero (.int .i64))))) else 8192), (IntKind.i64.wrap (k + 1))))
 else none
 else none
 else
 some (.inr j)
def CH (a : (List Ae.V)) (i : (List Int)) (c : Ad.V) (z_ : (Int × Int)) := Gl a i c z_.1 z_.2
def JE (a : (List Ae.V)) (i : (List Int)) (c : Ad.V) (j : Int) (k : Int) := fix (CH a i c) (j, k)
theorem Aep (a : (List Ae.V)) (i : (List Int)) (c : Ad.V) : LpOk E33 0 3 (code Tryz.f200) [1, 1, 0, 1, 0] (Aik a i c) (CH a i c) (AgA a i c) := by
  intro _
  simp only [CH, Gl, mC, mI, mN, mB, mE, mM]
  kernel_rfl
def Gw (a : (List Ae.V)) (c : Ad.V) (i : (List Int)) : Option Int :=
 (JE a i c 0 0).bind fun b =>
 (H9 a b c).bind (Sum.elim (fun d =>
 some d) (Sum.elim (fun e =>
 some e) (fun g =>
 some b)))
theorem U33 (R : Type) (a : (List Ae.V)) (c : Ad.V) (i : (List Int)) (K : AV → List Blk → Option R) : runF E33 Tryz.f200 R [dD (.sl Ae) a, dD Ad c, dD (.sl (.int .i64)) i] [] K = (Gw a c i).bind fun r => K (dI r) [] := by
  simp only [Gw, bC, bI, bN, bE, bA, bS, bO, bM]
  simp (disch := refine sI ?_ <;> (repeat' refine sA ?_ ?_) <;> intro _ <;> kernel_rfl) only [JE, AC (Aep _ _ _) (K := finK E33 Tryz.f200 0 R K), AX (Ah2 _ _ _) (K := finK E33 Tryz.f200 0 R K)]
  kernel_rfl
def c200 : Va.Callee := brC [.d (.sl Ae), .d Ad, .d (.sl (.int .i64))] [⟨[.dat [] (.sl Ae), .dat [] Ad, .dat [] (.sl (.int .i64))], [], Int, fun p => Gw p.1.1 p.1.2.1 p.1.2.2.1, fun r => (dI r, [])⟩]
theorem Wo : SoundC Tryz.prog 200 c200 := Ao (fn := Tryz.f200) (by kernel_rfl) (by kernel_rfl) (by kernel_rfl) ⟨⟨E33, ⟨⟨tabok, Am ⟨IF, trivial⟩⟩, mixed⟩, fun p R K => U33 R p.1.1 p.1.2.1 p.1.2.2.1 K⟩, trivial⟩
abbrev E34 : Env := ⟨tab, lookH [(105, c105), (106, c106), (199, c199), (200, c200)], { deep := true, heads := [(7, { live := [0, 3, 5, 6, 7, 8], pre := [(6, false, .row [] 2 (.int .i64) true)] }), (16, { live := [0, 3, 5, 6, 7, 8, 10] }), (20, { live := [5, 6, 7, 11] })], outs := [(7, { live := [4, 5, 6, 7], frz := [(7, false, (.sl .bool))] }), (16, { live := [0, 3, 5, 6, 7, 8] }), (20, { live := [4, 6] })], joins := [(3, { live := [0, 3, 5, 27] })], ents := [(3, [0, 3, 5])], res := [(0, .row [] 2 (.int .i64) true)] }⟩
def Afj (a : (List Bool)) (b : (List Int)) (z_ : Int) : St := sT 103 [(5, .zs), (6, .ref 0), (7, dD (.sl .bool) a), (11, dI z_)] [.row 2 .deep (.int .i64) b]
def Agp (a : (List Bool)) (b : (List Int)) : (Unit ⊕ Unit) → Ex × St := Sum.elim (fun c => (.ret, sT 103 [(4, .zs), (6, .ref 0)] [.row 2 .deep (.int .i64) b])) (fun d => ((.exit 4), sT 103 [(6, .ref 0)] [.row 2 .deep (.int .i64) b]))
def EH (a : (List Bool)) (b : (List Int)) (e : Int) : Option (Int ⊕ (Unit ⊕ Unit)) :=
 bif (decide ((IntKind.i64.wrap (e + 1)) < (a.length : Int))) then
 if (0 : Int) ≤ e ∧ e < (a.length : Int) then
 bif (!(a.getD e.toNat (Ty.zero .bool))) then
 some (.inr (.inl ()))
 else
 some (.inl (IntKind.i64.wrap (e + 1)))
 else none
 else
 some (.inr (.inr ()))
def CN (a : (List Bool)) (b : (List Int)) (z_ : Int) := EH a b z_
def Ix (a : (List Bool)) (b : (List Int)) (e : Int) := fix (CN a b) e
theorem AdW (a : (List Bool)) (b : (List Int)) : LpOk E34 0 20 (code Tryz.f163) [1, 1, 1, 1, 1, 1, 0, 1, 0] (Afj a b) (CN a b) (Agp a b) := by
  intro _
  simp only [CN, EH, mC, mI, mN, mB, mE, mM]
  kernel_rfl
def Ae7 (g : (List Ae.V)) (i : Ai.V) (z_ : (Int × (List Int) × (List Bool))) : St := sT 103 [(0, dD (.sl Ae) g), (3, .ptr 0 0 [] 0), (5, .zs), (6, .ref 1), (7, .ref 2), (8, dI z_.1)] [.box (dD Ai i), .row 2 .deep (.int .i64) z_.2.1, .row 4 .deep .bool z_.2.2]
def AgO (g : (List Ae.V)) (i : Ai.V) : (((List Bool) × (List Int)) ⊕ ((List Bool) × (List Int))) → Ex × St := Sum.elim (fun j => (.ret, sT 103 [(4, .zs), (5, .zs), (6, .ref 0), (7, dD (.sl .bool) j.1)] [.row 2 .deep (.int .i64) j.2])) (fun k => ((.exit 0), sT 103 [(5, .zs), (6, .ref 0), (7, dD (.sl .bool) k.1)] [.row 2 .deep (.int .i64) k.2]))
def Aee (g : (List Ae.V)) (l : Int) (i : Ai.V) (n : (List Int)) (z_ : (Int × (List Bool))) : St := sT 103 [(0, dD (.sl Ae) g), (3, .ptr 0 0 [] 0), (5, .zs), (6, .ref 1), (7, .ref 2), (8, dI l), (10, dI z_.1)] [.box (dD Ai i), .row 2 .deep (.int .i64) n, .row 4 .deep .bool z_.2]
def Ahy (g : (List Ae.V)) (l : Int) (i : Ai.V) (n : (List Int)) : (List Bool) → Ex × St := fun o => ((.exit 2), sT 103 [(0, dD (.sl Ae) g), (3, .ptr 0 0 [] 0), (5, .zs), (6, .ref 1), (7, .ref 2), (8, dI l)] [.box (dD Ai i), .row 2 .deep (.int .i64) n, .row 4 .deep .bool o])
def Ep (g : (List Ae.V)) (l : Int) (i : Ai.V) (n : (List Int)) (q : Int) (s : (List Bool)) : Option ((Int × (List Bool)) ⊕ (List Bool)) :=
 if (0 : Int) ≤ l ∧ l < (i.1.length : Int) then
 bif (decide (q < ((i.1.getD l.toNat (Ty.zero Ad)).2.2.2.2.2.1.length : Int))) then
 if (0 : Int) ≤ l ∧ l < (i.1.length : Int) then
 if (0 : Int) ≤ q ∧ q < ((i.1.getD l.toNat (Ty.zero Ad)).2.2.2.2.2.1.length : Int) then
 if (0 : Int) ≤ ((i.1.getD l.toNat (Ty.zero Ad)).2.2.2.2.2.1.getD q.toNat (Ty.zero (.int .i64))) ∧ ((i.1.getD l.toNat (Ty.zero Ad)).2.2.2.2.2.1.getD q.toNat (Ty.zero (.int .i64))) < (s.length : Int) then
 some (.inl ((IntKind.i64.wrap (q + 1)), (s.set ((i.1.getD l.toNat (Ty.zero Ad)).2.2.2.2.2.1.getD q.toNat (Ty.zero (.int .i64))).toNat true)))
 else none
 else none
 else none
 else
 some (.inr s)
 else none
def CV (g : (List Ae.V)) (l : Int) (i : Ai.V) (n : (List Int)) (z_ : (Int × (List Bool))) := Ep g l i n z_.1 z_.2
def Gh (g : (List Ae.V)) (l : Int) (i : Ai.V) (n : (List Int)) (q : Int) (s : (List Bool)) := fix (CV g l i n) (q, s)
theorem Afc (g : (List Ae.V)) (l : Int) (i : Ai.V) (n : (List Int)) : LpOk E34 0 16 (sub (code Tryz.f163) [1, 1, 1, 1, 1, 0, 1, 0, 0]) [1, 0, 0, 1, 1, 1, 1, 1, 0] (Aee g l i n) (CV g l i n) (Ahy g l i n) := by
  intro _
  simp only [CV, Ep, mC, mI, mN, mB, mE, mM]
  kernel_rfl
def Ev (g : (List Ae.V)) (i : Ai.V) (l : Int) (t : (List Int)) (u : (List Bool)) : Option ((Int × (List Int) × (List Bool)) ⊕ (((List Bool) × (List Int)) ⊕ ((List Bool) × (List Int)))) :=
 bif (decide (l < (i.1.length : Int))) then
 if (0 : Int) ≤ l ∧ l < (i.1.length : Int) then
 (GC g (i.1.getD l.toNat (Ty.zero Ad)) l).bind fun v =>
 bif (!v) then
 some (.inr (.inl (u, t)))
 else
 if (0 : Int) ≤ l ∧ l < (i.1.length : Int) then
 (Gw g (i.1.getD l.toNat (Ty.zero Ad)) t).bind fun w =>
 bif (!(AA w 1 4096)) then
 some (.inr (.inl (u, t)))
 else
 if (t.length + ([w] : List Int).length) * 8 ≤ 140737488355328 then
 (Gh g l i (t ++ ([w] : List Int)) 0 u).bind fun o =>
 some (.inl ((IntKind.i64.wrap (l + 1)), (t ++ ([w] : List Int)), o))
 else none
 else none
 else none
 else
 some (.inr (.inr (u, t)))
def CW (g : (List Ae.V)) (i : Ai.V) (z_ : (Int × (List Int) × (List Bool))) := Ev g i z_.1 z_.2.1 z_.2.2
def Gp (g : (List Ae.V)) (i : Ai.V) (l : Int) (t : (List Int)) (u : (List Bool)) := fix (CW g i) (l, t, u)
theorem AdN (g : (List Ae.V)) (i : Ai.V) : LpOk E34 0 7 (code Tryz.f163) [1, 1, 1, 1, 1, 0, 1, 0] (Ae7 g i) (CW g i) (AgO g i) := by
  intro _
  simp only [CW, Ev, mC, mI, mN, mB, mE, mM]
  simp (disch := refine sI ?_ <;> (repeat' refine sA ?_ ?_) <;> intro _ <;> kernel_rfl) only [Gh, AC (Afc _ _ _ _) (K := stepK 0 (E34.hd 7) (E34.ot 7))]
  kernel_rfl
def Ad2 (g : (List Ae.V)) (i : Ai.V) : St := sT 103 [(0, dD (.sl Ae) g), (3, .ptr 0 0 [] 0), (5, .zs)] [.box (dD Ai i)]
def Ah0 (g : (List Ae.V)) (i : Ai.V) : Bool → Ex × St := fun x => (.normal, sT 103 [(0, dD (.sl Ae) g), (3, .ptr 0 0 [] 0), (5, .zs), (27, dB x)] [.box (dD Ai i)])
def Ed (g : (List Ae.V)) (i : Ai.V) : Option Bool :=
 (DC g).bind fun y =>
 bif (!y) then
 some true
 else
 bif (decide ((i.1.length : Int) < 1)) then
 some true
 else
 some (decide ((i.1.length : Int) > 400))
theorem AdD (g : (List Ae.V)) (i : Ai.V) : JnOk E34 0 3 (code Tryz.f163) [1, 1, 0, 0] (Ad2 g i) (Ed g i) (Ah0 g i) := by
  unfold JnOk
  simp only [Ed, mC, mI, mN, mB, mE, mM]
  kernel_rfl
def Fg (g : (List Ae.V)) (i : Ai.V) : Option (List Int) :=
 (Ed g i).bind fun x =>
 bif x then
 some ([] : List Int)
 else
 if Ty.row .bool = true ∧ (0 : Int) ≤ (i.1.length : Int) ∧ (i.1.length : Int) ≤ (i.1.length : Int) ∧ ((1 : Nat) : Int) * (i.1.length : Int) ≤ (281474976710656 : Int) ∧ (i.1.length : Int) ≤ (9223372036854775807 : Int) then
 (Gp g i 0 ([] : List Int) (List.replicate (i.1.length : Int).toNat false)).bind (Sum.elim (fun j =>
 some ([] : List Int)) (fun k =>
 (Ix k.1 k.2 0).bind (Sum.elim (fun c =>
 some ([] : List Int)) (fun d =>
 some k.2))))
 else none
theorem U34 (R : Type) (g : (List Ae.V)) (i : Ai.V) (K : AV → List Blk → Option R) : runF E34 Tryz.f163 R [dD (.sl Ae) g, dD Ai i] [] K = (Fg g i).bind fun r => K (.ref 0) [.row 2 .deep (.int .i64) r] := by
  simp only [Fg, bC, bI, bN, bE, bA, bS, bO, bM]
  simp (disch := refine sI ?_ <;> (repeat' refine sA ?_ ?_) <;> intro _ <;> kernel_rfl) only [AX (AdD _ _) (K := finK E34 Tryz.f163 0 R K), Gp, AC (AdN _ _) (K := finK E34 Tryz.f163 0 R K), Ix, AC (AdW _ _) (K := finK E34 Tryz.f163 0 R K)]
  kernel_rfl
def c163 : Va.Callee := brC [.d (.sl Ae), .d Ai] [⟨[.dat [] (.sl Ae), .dat [] Ai], [], (List Int), fun p => Fg p.1.1 p.1.2.1, fun r => (.ref 0, [.row 2 .deep (.int .i64) r])⟩]
theorem UW : SoundC Tryz.prog 163 c163 := Ao (fn := Tryz.f163) (by kernel_rfl) (by kernel_rfl) (by kernel_rfl) ⟨⟨E34, ⟨⟨tabok, Am ⟨NO, IF, UZ, Wo, trivial⟩⟩, mixed⟩, fun p R K => U34 R p.1.1 p.1.2.1 K⟩, trivial⟩
abbrev E35 : Env := ⟨tab, lookH [(163, c163)], { deep := true }⟩
def BS (a : (List Ae.V)) (b : Ai.V) : Option Int :=
 (Fg a b).bind fun c =>
 bif ((c.length : Int) == 0) then
 some (-1)
 else
 if (0 : Int) ≤ (IntKind.i64.wrap ((c.length : Int) - 1)) ∧ (IntKind.i64.wrap ((c.length : Int) - 1)) < (c.length : Int) then
 some (c.getD (IntKind.i64.wrap ((c.length : Int) - 1)).toNat (Ty.zero (.int .i64)))
 else none
theorem U35 (R : Type) (a : (List Ae.V)) (b : Ai.V) (K : AV → List Blk → Option R) : runF E35 Tryz.f107 R [dD (.sl Ae) a, dD Ai b] [] K = (BS a b).bind fun r => K (dI r) [] := by
  simp only [BS, bC, bI, bN, bE, bA, bS, bO, bM]
  kernel_rfl
def c107 : Va.Callee := brC [.d (.sl Ae), .d Ai] [⟨[.dat [] (.sl Ae), .dat [] Ai], [], Int, fun p => BS p.1.1 p.1.2.1, fun r => (dI r, [])⟩]
theorem Q1 : SoundC Tryz.prog 107 c107 := Ao (fn := Tryz.f107) (by kernel_rfl) (by kernel_rfl) (by kernel_rfl) ⟨⟨E35, ⟨⟨tabok, Am ⟨UW, trivial⟩⟩, mixed⟩, fun p R K => U35 R p.1.1 p.1.2.1 K⟩, trivial⟩
abbrev E36 : Env := ⟨tab, lookH [(105, c105), (106, c106), (107, c107)], { deep := true, heads := [(4, { live := [0, 1, 5] })], outs := [(4, { live := [4] })], joins := [(2, { live := [0, 1, 14] }), (8, { live := [0, 1, 5, 67] })], ents := [(2, [0, 1]), (8, [0, 1, 5, 6])] }⟩
def Ail (a : (List Ae.V)) (b : (List Af.V)) (z_ : Int) : St := sT 68 [(0, dD (.sl Ae) a), (1, dD (.sl Af) b), (5, dI z_)] []
def AhR (a : (List Ae.V)) (b : (List Af.V)) : (Unit ⊕ Unit) → Ex × St := Sum.elim (fun c => (.ret, sT 68 [(4, dB false)] [])) (fun d => ((.exit 0), sT 68 [] []))
def Ac1 (a : (List Ae.V)) (b : (List Af.V)) (e : Int) (g : Int) : St := sT 68 [(0, dD (.sl Ae) a), (1, dD (.sl Af) b), (5, dI e), (6, dI g)] []
def Aib (a : (List Ae.V)) (b : (List Af.V)) (e : Int) (g : Int) : Bool → Ex × St := fun i => (.normal, sT 68 [(0, dD (.sl Ae) a), (1, dD (.sl Af) b), (5, dI e), (67, dB i)] [])
def C3 (a : (List Ae.V)) (b : (List Af.V)) (e : Int) (g : Int) : Option Bool :=
 if (0 : Int) ≤ e ∧ e < (b.length : Int) then
 bif (!(AA (b.getD e.toNat (Ty.zero Af)).1 1 1000000)) then
 some true
 else
 bif (decide (e > 0)) then
 if (0 : Int) ≤ e ∧ e < (b.length : Int) then
 if (0 : Int) ≤ (IntKind.i64.wrap (e - 1)) ∧ (IntKind.i64.wrap (e - 1)) < (b.length : Int) then
 bif (decide ((b.getD e.toNat (Ty.zero Af)).1 ≤ (b.getD (IntKind.i64.wrap (e - 1)).toNat (Ty.zero Af)).1)) then
 some true
 else
 bif (decide (g < 0)) then
 some true
 else
 if (0 : Int) ≤ e ∧ e < (b.length : Int) then
 (BS a (b.getD e.toNat (Ty.zero Af)).2.2.2.1).bind fun j =>
 some (j != g)
 else none
 else none
 else none
 else
 bif (decide (g < 0)) then
 some true
 else
 if (0 : Int) ≤ e ∧ e < (b.length : Int) then
 (BS a (b.getD e.toNat (Ty.zero Af)).2.2.2.1).bind fun k =>
 some (k != g)
 else none
 else none
theorem AgE (a : (List Ae.V)) (b : (List Af.V)) (e : Int) (g : Int) : JnOk E36 0 8 (sub (code Tryz.f58) [1, 1, 0, 1, 0, 0]) [1, 0, 0, 1, 0] (Ac1 a b e g) (C3 a b e g) (Aib a b e g) := by
  unfold JnOk
  simp only [C3, mC, mI, mN, mB, mE, mM]
  kernel_rfl
def Df (a : (List Ae.V)) (b : (List Af.V)) (e : Int) : Option (Int ⊕ (Unit ⊕ Unit)) :=
 bif (decide (e < (b.length : Int))) then
 if (0 : Int) ≤ e ∧ e < (b.length : Int) then
 (BS a (b.getD e.toNat (Ty.zero Af)).2.2.1).bind fun g =>
 (C3 a b e g).bind fun i =>
 bif i then
 some (.inr (.inl ()))
 else
 some (.inl (IntKind.i64.wrap (e + 1)))
 else none
 else
 some (.inr (.inr ()))
def B5 (a : (List Ae.V)) (b : (List Af.V)) (z_ : Int) := Df a b z_
def G6 (a : (List Ae.V)) (b : (List Af.V)) (e : Int) := fix (B5 a b) e
theorem AfV (a : (List Ae.V)) (b : (List Af.V)) : LpOk E36 0 4 (code Tryz.f58) [1, 1, 0, 1, 0] (Ail a b) (B5 a b) (AhR a b) := by
  intro _
  simp only [B5, Df, mC, mI, mN, mB, mE, mM]
  simp (disch := refine sI ?_ <;> (repeat' refine sA ?_ ?_) <;> intro _ <;> kernel_rfl) only [AX (AgE _ _ _ _) (K := stepK 0 (E36.hd 4) (E36.ot 4))]
  kernel_rfl
def Agw (a : (List Ae.V)) (b : (List Af.V)) : St := sT 68 [(0, dD (.sl Ae) a), (1, dD (.sl Af) b)] []
def Afy (a : (List Ae.V)) (b : (List Af.V)) : Bool → Ex × St := fun l => (.normal, sT 68 [(0, dD (.sl Ae) a), (1, dD (.sl Af) b), (14, dB l)] [])
def CK (a : (List Ae.V)) (b : (List Af.V)) : Option Bool :=
 (DC a).bind fun n =>
 bif (!n) then
 some true
 else
 some (decide ((b.length : Int) > 60))
theorem Aha (a : (List Ae.V)) (b : (List Af.V)) : JnOk E36 0 2 (code Tryz.f58) [1, 0, 0] (Agw a b) (CK a b) (Afy a b) := by
  unfold JnOk
  simp only [CK, mC, mI, mN, mB, mE, mM]
  kernel_rfl
def Dz (a : (List Ae.V)) (b : (List Af.V)) : Option Bool :=
 (CK a b).bind fun l =>
 bif l then
 some false
 else
 (G6 a b 0).bind (Sum.elim (fun c =>
 some false) (fun d =>
 some true))
theorem U36 (R : Type) (a : (List Ae.V)) (b : (List Af.V)) (K : AV → List Blk → Option R) : runF E36 Tryz.f58 R [dD (.sl Ae) a, dD (.sl Af) b] [] K = (Dz a b).bind fun r => K (dB r) [] := by
  simp only [Dz, bC, bI, bN, bE, bA, bS, bO, bM]
  simp (disch := refine sI ?_ <;> (repeat' refine sA ?_ ?_) <;> intro _ <;> kernel_rfl) only [AX (Aha _ _) (K := finK E36 Tryz.f58 0 R K), G6, AC (AfV _ _) (K := finK E36 Tryz.f58 0 R K)]
  kernel_rfl
def c58 : Va.Callee := brC [.d (.sl Ae), .d (.sl Af)] [⟨[.dat [] (.sl Ae), .dat [] (.sl Af)], [], Bool, fun p => Dz p.1.1 p.1.2.1, fun r => (dB r, [])⟩]
theorem Xs : SoundC Tryz.prog 58 c58 := Ao (fn := Tryz.f58) (by kernel_rfl) (by kernel_rfl) (by kernel_rfl) ⟨⟨E36, ⟨⟨tabok, Am ⟨NO, IF, Q1, trivial⟩⟩, mixed⟩, fun p R K => U36 R p.1.1 p.1.2.1 K⟩, trivial⟩
abbrev E37 : Env := ⟨tab, lookH [(165, c165)], { deep := true, heads := [(5, { live := [0, 4, 7, 8], pre := [(7, false, .row [] 200 Ag true)] }), (10, { live := [4, 7, 9], pre := [(7, false, .row [] 200 Ag true)] }), (15, { live := [2, 7, 10], pre := [(7, false, .row [] 200 Ag true)] }), (27, { live := [4, 7, 11, 12] }), (40, { live := [2, 4, 7, 15], pre := [(7, false, .row [] 200 Ag true)] })], outs := [(5, { live := [7] }), (10, { live := [7] }), (15, { live := [7] }), (27, { live := [7] }), (40, { live := [7] })], joins := [(22, { live := [2, 4, 7, 18, 84] }), (25, { live := [2, 4, 7, 11] }), (32, { live := [2, 4, 7, 18, 116] }), (36, { live := [2, 7, 13, 14] }), (43, { live := [7], pre := [(7, false, .row [] 200 Ag true)] })], ents := [(22, [2, 4, 7, 18]), (25, [2, 4, 7, 11]), (32, [2, 4, 7, 18]), (36, [2, 4, 7, 13, 14]), (43, [0, 2, 4, 7])] }⟩
def Abb (a : (List Ae.V)) (b : (List (List Ag.V))) (c : Ad.V) : St := sT 167 [(0, dD (.sl Ae) a), (2, dD (.sl (.sl Ag)) b), (4, .ptr 0 0 [] 0), (7, .zs)] [.box (dD Ad c)]
def Abz (a : (List Ae.V)) (b : (List (List Ag.V))) (c : Ad.V) : (List Ag.V) → Ex × St := fun d => (.normal, sT 167 [(7, .ref 0)] [.row 200 .deep Ag d])
def ZJ (b : (List (List Ag.V))) (c : Ad.V) (z_ : (Int × (List Ag.V))) : St := sT 167 [(2, dD (.sl (.sl Ag)) b), (4, .ptr 0 0 [] 0), (7, .ref 1), (15, dI z_.1)] [.box (dD Ad c), .row 200 .deep Ag z_.2]
def Zx (b : (List (List Ag.V))) (c : Ad.V) : (List Ag.V) → Ex × St := fun e => ((.exit 9), sT 167 [(7, .ref 0)] [.row 200 .deep Ag e])
def FD (b : (List (List Ag.V))) (c : Ad.V) (g : Int) (i : (List Ag.V)) : Option ((Int × (List Ag.V)) ⊕ (List Ag.V)) :=
 bif (decide (g < c.2.2.1)) then
 if (0 : Int) ≤ (0 : Int) ∧ (0 : Int) < (b.length : Int) then
 if (i.length + (b.getD 0 (Ty.zero (.sl Ag))).length) * 16 ≤ 140737488355328 then
 some (.inl ((IntKind.i64.wrap (g + 1)), (i ++ (b.getD 0 (Ty.zero (.sl Ag))))))
 else none
 else none
 else
 some (.inr i)
def Cg (b : (List (List Ag.V))) (c : Ad.V) (z_ : (Int × (List Ag.V))) := FD b c z_.1 z_.2
def GR (b : (List (List Ag.V))) (c : Ad.V) (g : Int) (i : (List Ag.V)) := fix (Cg b c) (g, i)
theorem AbU (b : (List (List Ag.V))) (c : Ad.V) : LpOk E37 0 40 (sub (code Tryz.f110) [1, 1, 0]) [1, 0, 1, 1, 1, 1, 1, 1, 1, 1, 1, 1, 1, 1, 1, 0, 1, 0] (ZJ b c) (Cg b c) (Zx b c) := by
  intro _
  simp only [Cg, FD, mC, mI, mN, mB, mE, mM]
  kernel_rfl
def AaA (b : (List (List Ag.V))) (c : Ad.V) (j : Int) (k : Int) : St := sT 167 [(2, dD (.sl (.sl Ag)) b), (4, .ptr 0 0 [] 0), (7, .zs), (13, dI j), (14, dI k)] [.box (dD Ad c)]
def AaI (b : (List (List Ag.V))) (c : Ad.V) (j : Int) (k : Int) : Int → Ex × St := fun l => (.normal, sT 167 [(2, dD (.sl (.sl Ag)) b), (7, .zs), (13, dI j), (14, dI l)] [])
def EL (b : (List (List Ag.V))) (c : Ad.V) (j : Int) (k : Int) : Option Int :=
 bif (c.1 == 8) then
 if j = (0 : Int) then none else
 some (Int.tmod (IntKind.i64.wrap (j - k)) j)
 else
 some k
theorem AcK (b : (List (List Ag.V))) (c : Ad.V) (j : Int) (k : Int) : JnOk E37 0 36 (sub (code Tryz.f110) [1, 1, 0]) [1, 0, 1, 1, 1, 1, 1, 1, 1, 1, 1, 1, 1, 0, 1, 1, 0] (AaA b c j k) (EL b c j k) (AaI b c j k) := by
  unfold JnOk
  simp only [EL, mC, mI, mN, mB, mE, mM]
  kernel_rfl
def SU (b : (List (List Ag.V))) (c : Ad.V) : St := sT 167 [(2, dD (.sl (.sl Ag)) b), (4, .ptr 0 0 [] 0), (7, .zs), (18, dI c.1)] [.box (dD Ad c)]
def SC (b : (List (List Ag.V))) (c : Ad.V) (m0 : Bool) : Ex × St := (.normal, sT 167 [(2, dD (.sl (.sl Ag)) b), (4, .ptr 0 0 [] 0), (7, .zs), (18, dI c.1), (116, dB m0)] [.box (dD Ad c)])
theorem AcG (b : (List (List Ag.V))) (c : Ad.V) : jnS E37 0 32 (sub (code Tryz.f110) [1, 1, 0]) [1, 0, 1, 1, 1, 1, 1, 1, 1, 1, 1, 1, 0] (SU b c) = some (SC b c (bif (c.1 == 7) then (c.1 == 7) else (c.1 == 8))) := by
  have h0 : jnS E37 0 32 (sub (code Tryz.f110) [1, 1, 0]) [1, 0, 1, 1, 1, 1, 1, 1, 1, 1, 1, 1, 0] (SU b c) =
 bif (c.1 == 7) then
 some (SC b c (c.1 == 7))
 else
 some (SC b c (c.1 == 8)) := by kernel_rfl
  rw [h0]
  cases h1 : (c.1 == 7)
  · first | rfl | kernel_rfl
  · first | rfl | kernel_rfl
def Abs (c : Ad.V) (z_ : (Int × (List Ag.V))) : St := sT 167 [(4, .ptr 0 0 [] 0), (7, .ref 1), (11, .ptr 2 0 [] 0), (12, dI z_.1)] [.box (dD Ad c), .row 200 .deep Ag z_.2, .box (.pr (dI (-1)) (.pr (dI 0) .u))]
def AbF (c : Ad.V) : (List Ag.V) → Ex × St := fun n => ((.exit 7), sT 167 [(7, .ref 0)] [.row 200 .deep Ag n])
def Fm (c : Ad.V) (o : Int) (q : (List Ag.V)) : Option ((Int × (List Ag.V)) ⊕ (List Ag.V)) :=
 bif (decide (o < c.2.2.1)) then
 if (q.length + ([((-1), 0, ())] : List Ag.V).length) * 16 ≤ 140737488355328 then
 some (.inl ((IntKind.i64.wrap (o + 1)), (q ++ ([((-1), 0, ())] : List Ag.V))))
 else none
 else
 some (.inr q)
def Ck (c : Ad.V) (z_ : (Int × (List Ag.V))) := Fm c z_.1 z_.2
def GV (c : Ad.V) (o : Int) (q : (List Ag.V)) := fix (Ck c) (o, q)
theorem Aca (c : Ad.V) : LpOk E37 0 27 (sub (code Tryz.f110) [1, 1, 0]) [1, 0, 1, 1, 1, 1, 1, 1, 1, 1, 1, 0, 1, 1, 1, 1, 0] (Abs c) (Ck c) (AbF c) := by
  intro _
  simp only [Ck, Fm, mC, mI, mN, mB, mE, mM]
  kernel_rfl
def Z3 (c : Ad.V) (s : Ag.V) (z_ : (Int × (List Ag.V))) : St := sT 167 [(4, .ptr 0 0 [] 0), (7, .ref 1), (11, .ptr 2 0 [] 0), (12, dI z_.1)] [.box (dD Ad c), .row 200 .deep Ag z_.2, .box (dD Ag s)]
def AcS (c : Ad.V) (s : Ag.V) : (List Ag.V) → Ex × St := fun t => ((.exit 7), sT 167 [(7, .ref 0)] [.row 200 .deep Ag t])
def FJ (c : Ad.V) (s : Ag.V) (u : Int) (v : (List Ag.V)) : Option ((Int × (List Ag.V)) ⊕ (List Ag.V)) :=
 bif (decide (u < c.2.2.1)) then
 if (v.length + ([s] : List Ag.V).length) * 16 ≤ 140737488355328 then
 some (.inl ((IntKind.i64.wrap (u + 1)), (v ++ ([s] : List Ag.V))))
 else none
 else
 some (.inr v)
def Cm (c : Ad.V) (s : Ag.V) (z_ : (Int × (List Ag.V))) := FJ c s z_.1 z_.2
def Hh (c : Ad.V) (s : Ag.V) (u : Int) (v : (List Ag.V)) := fix (Cm c s) (u, v)
theorem Abo (c : Ad.V) (s : Ag.V) : LpOk E37 0 27 (sub (code Tryz.f110) [1, 1, 0]) [1, 0, 1, 1, 1, 1, 1, 1, 1, 1, 1, 0, 1, 1, 1, 1, 0] (Z3 c s) (Cm c s) (AcS c s) := by
  intro _
  simp only [Cm, FJ, mC, mI, mN, mB, mE, mM]
  kernel_rfl
def ZB (b : (List (List Ag.V))) (c : Ad.V) : St := sT 167 [(2, dD (.sl (.sl Ag)) b), (4, .ptr 0 0 [] 0), (7, .zs), (11, .ptr 1 0 [] 0)] [.box (dD Ad c), .box (.pr (dI (-1)) (.pr (dI 0) .u))]
def Aac (b : (List (List Ag.V))) (c : Ad.V) : (Unit ⊕ Unit) → Ex × St := Sum.elim (fun w => (.normal, sT 167 [(2, dD (.sl (.sl Ag)) b), (4, .ptr 0 0 [] 0), (7, .zs), (11, .ptr 1 0 [] 0)] [.box (dD Ad c), .box (dD Ag ((b.getD 0 (Ty.zero (.sl Ag))).getD (IntKind.i64.wrap (((b.getD 0 (Ty.zero (.sl Ag))).length : Int) - 1)).toNat (Ty.zero Ag)))])) (fun x => (.normal, sT 167 [(2, dD (.sl (.sl Ag)) b), (4, .ptr 0 0 [] 0), (7, .zs), (11, .ptr 1 0 [] 0)] [.box (dD Ad c), .box (.pr (dI (-1)) (.pr (dI 0) .u))]))
def Cw (b : (List (List Ag.V))) (c : Ad.V) : Option (Unit ⊕ Unit) :=
 bif (c.1 == 6) then
 if (0 : Int) ≤ (0 : Int) ∧ (0 : Int) < (b.length : Int) then
 if (0 : Int) ≤ (0 : Int) ∧ (0 : Int) < (b.length : Int) then
 if (0 : Int) ≤ (IntKind.i64.wrap (((b.getD 0 (Ty.zero (.sl Ag))).length : Int) - 1)) ∧ (IntKind.i64.wrap (((b.getD 0 (Ty.zero (.sl Ag))).length : Int) - 1)) < ((b.getD 0 (Ty.zero (.sl Ag))).length : Int) then
 some (.inl ())
 else none
 else none
 else none
 else
 some (.inr ())
theorem AcI (b : (List (List Ag.V))) (c : Ad.V) : JnOk E37 0 25 (sub (code Tryz.f110) [1, 1, 0]) [1, 0, 1, 1, 1, 1, 1, 1, 1, 1, 1, 0, 1, 0] (ZB b c) (Cw b c) (Aac b c) := by
  unfold JnOk
  simp only [Cw, mC, mI, mN, mB, mE, mM]
  kernel_rfl
def Sv (b : (List (List Ag.V))) (c : Ad.V) : St := sT 167 [(2, dD (.sl (.sl Ag)) b), (4, .ptr 0 0 [] 0), (7, .zs), (18, dI c.1)] [.box (dD Ad c)]
def Up (b : (List (List Ag.V))) (c : Ad.V) (m0 : Bool) : Ex × St := (.normal, sT 167 [(2, dD (.sl (.sl Ag)) b), (4, .ptr 0 0 [] 0), (7, .zs), (18, dI c.1), (84, dB m0)] [.box (dD Ad c)])
theorem ZZ (b : (List (List Ag.V))) (c : Ad.V) : jnS E37 0 22 (sub (code Tryz.f110) [1, 1, 0]) [1, 0, 1, 1, 1, 1, 1, 1, 1, 1, 0] (Sv b c) = some (Up b c (bif (c.1 == 5) then (c.1 == 5) else (c.1 == 6))) := by
  have h0 : jnS E37 0 22 (sub (code Tryz.f110) [1, 1, 0]) [1, 0, 1, 1, 1, 1, 1, 1, 1, 1, 0] (Sv b c) =
 bif (c.1 == 5) then
 some (Up b c (c.1 == 5))
 else
 some (Up b c (c.1 == 6)) := by kernel_rfl
  rw [h0]
  cases h1 : (c.1 == 5)
  · first | rfl | kernel_rfl
  · first | rfl | kernel_rfl
def AbN (b : (List (List Ag.V))) (z_ : (Int × (List Ag.V))) : St := sT 167 [(2, dD (.sl (.sl Ag)) b), (7, .ref 0), (10, dI z_.1)] [.row 200 .deep Ag z_.2]
def Z1 (b : (List (List Ag.V))) : (List Ag.V) → Ex × St := fun y => ((.exit 5), sT 167 [(7, .ref 0)] [.row 200 .deep Ag y])
def Fw (b : (List (List Ag.V))) (a1 : Int) (b1 : (List Ag.V)) : Option ((Int × (List Ag.V)) ⊕ (List Ag.V)) :=
 bif (decide (a1 ≥ 0)) then
 if (0 : Int) ≤ a1 ∧ a1 < (b.length : Int) then
 if (b1.length + (b.getD a1.toNat (Ty.zero (.sl Ag))).length) * 16 ≤ 140737488355328 then
 some (.inl ((IntKind.i64.wrap (a1 - 1)), (b1 ++ (b.getD a1.toNat (Ty.zero (.sl Ag))))))
 else none
 else none
 else
 some (.inr b1)
def BF (b : (List (List Ag.V))) (z_ : (Int × (List Ag.V))) := Fw b z_.1 z_.2
def G7 (b : (List (List Ag.V))) (a1 : Int) (b1 : (List Ag.V)) := fix (BF b) (a1, b1)
theorem Aci (b : (List (List Ag.V))) : LpOk E37 0 15 (sub (code Tryz.f110) [1, 1, 0]) [1, 0, 1, 1, 1, 1, 1, 0, 1, 0] (AbN b) (BF b) (Z1 b) := by
  intro _
  simp only [BF, Fw, mC, mI, mN, mB, mE, mM]
  kernel_rfl
def Aaa (c : Ad.V) (z_ : (Int × (List Ag.V))) : St := sT 167 [(4, .ptr 0 0 [] 0), (7, .ref 1), (9, dI z_.1)] [.box (dD Ad c), .row 200 .deep Ag z_.2]
def AbX (c : Ad.V) : (List Ag.V) → Ex × St := fun c1 => ((.exit 3), sT 167 [(7, .ref 0)] [.row 200 .deep Ag c1])
def Ft (c : Ad.V) (d1 : Int) (e1 : (List Ag.V)) : Option ((Int × (List Ag.V)) ⊕ (List Ag.V)) :=
 bif (decide (d1 < c.2.2.2.2.1.1)) then
 (Dx c.2.2.2.2.1 d1).bind fun g1 =>
 if (e1.length + ([((-1), (IntKind.i64.wrap g1), ())] : List Ag.V).length) * 16 ≤ 140737488355328 then
 some (.inl ((IntKind.i64.wrap (d1 + 1)), (e1 ++ ([((-1), (IntKind.i64.wrap g1), ())] : List Ag.V))))
 else none
 else
 some (.inr e1)
def Ci (c : Ad.V) (z_ : (Int × (List Ag.V))) := Ft c z_.1 z_.2
def GZ (c : Ad.V) (d1 : Int) (e1 : (List Ag.V)) := fix (Ci c) (d1, e1)
theorem Aab (c : Ad.V) : LpOk E37 0 10 (sub (code Tryz.f110) [1, 1, 0]) [1, 0, 1, 1, 1, 0, 1, 0] (Aaa c) (Ci c) (AbX c) := by
  intro _
  simp only [Ci, Ft, mC, mI, mN, mB, mE, mM]
  kernel_rfl
def Aba (a : (List Ae.V)) (c : Ad.V) (z_ : (Int × (List Ag.V))) : St := sT 167 [(0, dD (.sl Ae) a), (4, .ptr 0 0 [] 0), (7, .ref 1), (8, dI z_.1)] [.box (dD Ad c), .row 200 .deep Ag z_.2]
def Acf (a : (List Ae.V)) (c : Ad.V) : (List Ag.V) → Ex × St := fun i1 => ((.exit 1), sT 167 [(7, .ref 0)] [.row 200 .deep Ag i1])
def Fj (a : (List Ae.V)) (c : Ad.V) (j1 : Int) (k1 : (List Ag.V)) : Option ((Int × (List Ag.V)) ⊕ (List Ag.V)) :=
 if (0 : Int) ≤ c.2.1 ∧ c.2.1 < (a.length : Int) then
 bif (decide (j1 < (a.getD c.2.1.toNat (Ty.zero Ae)).2.1)) then
 if (k1.length + ([(c.2.1, j1, ())] : List Ag.V).length) * 16 ≤ 140737488355328 then
 some (.inl ((IntKind.i64.wrap (j1 + 1)), (k1 ++ ([(c.2.1, j1, ())] : List Ag.V))))
 else none
 else
 some (.inr k1)
 else none
def Cl (a : (List Ae.V)) (c : Ad.V) (z_ : (Int × (List Ag.V))) := Fj a c z_.1 z_.2
def Ht (a : (List Ae.V)) (c : Ad.V) (j1 : Int) (k1 : (List Ag.V)) := fix (Cl a c) (j1, k1)
theorem Abq (a : (List Ae.V)) (c : Ad.V) : LpOk E37 0 5 (sub (code Tryz.f110) [1, 1, 0]) [1, 0, 1, 0, 1, 0] (Aba a c) (Cl a c) (Acf a c) := by
  intro _
  simp only [Cl, Fj, mC, mI, mN, mB, mE, mM]
  kernel_rfl
def G4 (a : (List Ae.V)) (b : (List (List Ag.V))) (c : Ad.V) : Option (List Ag.V) :=
 bif (c.1 == 1) then
 (Ht a c 0 ([] : List Ag.V)).bind fun i1 =>
 some i1
 else
 bif (c.1 == 2) then
 (GZ c 0 ([] : List Ag.V)).bind fun c1 =>
 some c1
 else
 bif (c.1 == 3) then
 (G7 b (IntKind.i64.wrap ((b.length : Int) - 1)) ([] : List Ag.V)).bind fun y =>
 some y
 else
 bif (c.1 == 4) then
 if (0 : Int) ≤ (0 : Int) ∧ (0 : Int) < (b.length : Int) then
 if (0 : Int) ≤ c.2.2.2.1 ∧ c.2.2.2.1 ≤ (IntKind.i64.wrap (c.2.2.1 + 1)) ∧ (IntKind.i64.wrap (c.2.2.1 + 1)) ≤ ((b.getD 0 (Ty.zero (.sl Ag))).length : Int) then
 if (((b.getD 0 (Ty.zero (.sl Ag))).take (IntKind.i64.wrap (c.2.2.1 + 1)).toNat).drop c.2.2.2.1.toNat).length * 16 ≤ 140737488355328 then
 some (((b.getD 0 (Ty.zero (.sl Ag))).take (IntKind.i64.wrap (c.2.2.1 + 1)).toNat).drop c.2.2.2.1.toNat)
 else none
 else none
 else none
 else
 mkr (Sv b c) (
 bif (bif (c.1 == 5) then (c.1 == 5) else (c.1 == 6)) then
 (Cw b c).bind (Sum.elim (fun w =>
 if (0 : Int) ≤ (0 : Int) ∧ (0 : Int) < (b.length : Int) then
 if (b.getD 0 (Ty.zero (.sl Ag))).length * 16 ≤ 140737488355328 then
 (Hh c ((b.getD 0 (Ty.zero (.sl Ag))).getD (IntKind.i64.wrap (((b.getD 0 (Ty.zero (.sl Ag))).length : Int) - 1)).toNat (Ty.zero Ag)) 0 (b.getD 0 (Ty.zero (.sl Ag)))).bind fun t =>
 some t
 else none
 else none) (fun x =>
 if (0 : Int) ≤ (0 : Int) ∧ (0 : Int) < (b.length : Int) then
 if (b.getD 0 (Ty.zero (.sl Ag))).length * 16 ≤ 140737488355328 then
 (GV c 0 (b.getD 0 (Ty.zero (.sl Ag)))).bind fun n =>
 some n
 else none
 else none))
 else
 mkr (SU b c) (
 bif (bif (c.1 == 7) then (c.1 == 7) else (c.1 == 8)) then
 if (0 : Int) ≤ (0 : Int) ∧ (0 : Int) < (b.length : Int) then
 if ((b.getD 0 (Ty.zero (.sl Ag))).length : Int) = (0 : Int) then none else
 (EL b c ((b.getD 0 (Ty.zero (.sl Ag))).length : Int) (Int.tmod c.2.2.1 ((b.getD 0 (Ty.zero (.sl Ag))).length : Int))).bind fun l =>
 if (0 : Int) ≤ (0 : Int) ∧ (0 : Int) < (b.length : Int) then
 if (0 : Int) ≤ (IntKind.i64.wrap (((b.getD 0 (Ty.zero (.sl Ag))).length : Int) - l)) ∧ (IntKind.i64.wrap (((b.getD 0 (Ty.zero (.sl Ag))).length : Int) - l)) ≤ ((b.getD 0 (Ty.zero (.sl Ag))).length : Int) ∧ ((b.getD 0 (Ty.zero (.sl Ag))).length : Int) ≤ ((b.getD 0 (Ty.zero (.sl Ag))).length : Int) then
 if (((b.getD 0 (Ty.zero (.sl Ag))).take ((b.getD 0 (Ty.zero (.sl Ag))).length : Int).toNat).drop (IntKind.i64.wrap (((b.getD 0 (Ty.zero (.sl Ag))).length : Int) - l)).toNat).length * 16 ≤ 140737488355328 then
 if (0 : Int) ≤ (0 : Int) ∧ (0 : Int) < (b.length : Int) then
 if (0 : Int) ≤ (0 : Int) ∧ (0 : Int) ≤ (IntKind.i64.wrap (((b.getD 0 (Ty.zero (.sl Ag))).length : Int) - l)) ∧ (IntKind.i64.wrap (((b.getD 0 (Ty.zero (.sl Ag))).length : Int) - l)) ≤ ((b.getD 0 (Ty.zero (.sl Ag))).length : Int) then
 if ((((b.getD 0 (Ty.zero (.sl Ag))).take ((b.getD 0 (Ty.zero (.sl Ag))).length : Int).toNat).drop (IntKind.i64.wrap (((b.getD 0 (Ty.zero (.sl Ag))).length : Int) - l)).toNat).length + (((b.getD 0 (Ty.zero (.sl Ag))).take (IntKind.i64.wrap (((b.getD 0 (Ty.zero (.sl Ag))).length : Int) - l)).toNat).drop 0).length) * 16 ≤ 140737488355328 then
 some ((((b.getD 0 (Ty.zero (.sl Ag))).take ((b.getD 0 (Ty.zero (.sl Ag))).length : Int).toNat).drop (IntKind.i64.wrap (((b.getD 0 (Ty.zero (.sl Ag))).length : Int) - l)).toNat) ++ (((b.getD 0 (Ty.zero (.sl Ag))).take (IntKind.i64.wrap (((b.getD 0 (Ty.zero (.sl Ag))).length : Int) - l)).toNat).drop 0))
 else none
 else none
 else none
 else none
 else none
 else none
 else none
 else
 bif (c.1 == 9) then
 (GR b c 0 ([] : List Ag.V)).bind fun e =>
 some e
 else
 some ([] : List Ag.V)))
theorem AbC (a : (List Ae.V)) (b : (List (List Ag.V))) (c : Ad.V) : JnOk E37 0 43 (code Tryz.f110) [1, 1, 0] (Abb a b c) (G4 a b c) (Abz a b c) := by
  unfold JnOk
  simp only [G4, mC, mI, mN, mB, mE, mM]
  simp (disch := refine sI ?_ <;> (repeat' refine sA ?_ ?_) <;> intro _ <;> kernel_rfl) only [Ht, AC (Abq _ _) (K := joinK 0 (E37.jn 43)), GZ, AC (Aab _) (K := joinK 0 (E37.jn 43)), G7, AC (Aci _) (K := joinK 0 (E37.jn 43)), DB (ZZ _ _) (K := joinK 0 (E37.jn 43)), AX (AcI _ _) (K := joinK 0 (E37.jn 43)), Hh, AC (Abo _ _) (K := joinK 0 (E37.jn 43)), GV, AC (Aca _) (K := joinK 0 (E37.jn 43)), DB (AcG _ _) (K := joinK 0 (E37.jn 43)), AX (AcK _ _ _ _) (K := joinK 0 (E37.jn 43)), GR, AC (AbU _ _) (K := joinK 0 (E37.jn 43))]
  kernel_rfl
def HI (a : (List Ae.V)) (c : Ad.V) (b : (List (List Ag.V))) : Option (List Ag.V) :=
 (G4 a b c).bind fun d =>
 some d
theorem U37 (R : Type) (a : (List Ae.V)) (c : Ad.V) (b : (List (List Ag.V))) (K : AV → List Blk → Option R) : runF E37 Tryz.f110 R [dD (.sl Ae) a, dD Ad c, dD (.sl (.sl Ag)) b] [] K = (HI a c b).bind fun r => K (.ref 0) [.row 200 .deep Ag r] := by
  simp only [HI, bC, bI, bN, bE, bA, bS, bO, bM]
  simp (disch := refine sI ?_ <;> (repeat' refine sA ?_ ?_) <;> intro _ <;> kernel_rfl) only [AX (AbC _ _ _) (K := finK E37 Tryz.f110 0 R K)]
  kernel_rfl
def c110 : Va.Callee := brC [.d (.sl Ae), .d Ad, .d (.sl (.sl Ag))] [⟨[.dat [] (.sl Ae), .dat [] Ad, .dat [] (.sl (.sl Ag))], [], (List Ag.V), fun p => HI p.1.1 p.1.2.1 p.1.2.2.1, fun r => (.ref 0, [.row 200 .deep Ag r])⟩]
theorem WS : SoundC Tryz.prog 110 c110 := Ao (fn := Tryz.f110) (by kernel_rfl) (by kernel_rfl) (by kernel_rfl) ⟨⟨E37, ⟨⟨tabok, Am ⟨Oj, trivial⟩⟩, mixed⟩, fun p R K => U37 R p.1.1 p.1.2.1 p.1.2.2.1 K⟩, trivial⟩
abbrev E38 : Env := ⟨tab, lookH [], { deep := true, heads := [(5, { live := [0, 2, 4, 5] })], outs := [(5, { live := [2, 4] })], joins := [(2, { live := [0, 2, 13] })], ents := [(2, [0, 2])], res := [(0, .row [1] 221 (.int .u64) true)] }⟩
def Adt (a : (List Int)) (b : Int) (z_ : (Int × (List Int))) : St := sT 51 [(0, dD (.sl (.int .u8)) a), (2, .ptr 0 0 [] 0), (4, .ptr 1 0 [] 0), (5, dI z_.1)] [.box (.pr (dI 0) (.pr .zs .u)), .box (.pr (dI b) (.pr (.ref 2) .u)), .row 221 .deep (.int .u64) z_.2]
def Agl (a : (List Int)) (b : Int) : (List Int) → Ex × St := fun c => ((.exit 0), sT 51 [(2, .ptr 0 0 [] 0), (4, .ptr 1 0 [] 0)] [.box (.pr (dI 0) (.pr .zs .u)), .box (.pr (dI b) (.pr (.ref 2) .u)), .row 221 .deep (.int .u64) c])
def Ga (a : (List Int)) (b : Int) (d : Int) (e : (List Int)) : Option ((Int × (List Int)) ⊕ (List Int)) :=
 bif (decide (d < (a.length : Int))) then
 if (0 : Int) ≤ (IntKind.i64.wrap (Int.tdiv d 64)) ∧ (IntKind.i64.wrap (Int.tdiv d 64)) < (e.length : Int) then
 if (0 : Int) ≤ d ∧ d < (a.length : Int) then
 if (IntKind.u64.wrap (Int.tmod d 64)) < (0 : Int) then none else
 if (0 : Int) ≤ (IntKind.i64.wrap (Int.tdiv d 64)) ∧ (IntKind.i64.wrap (Int.tdiv d 64)) < (e.length : Int) then
 some (.inl ((IntKind.i64.wrap (d + 1)), (e.set (IntKind.i64.wrap (Int.tdiv d 64)).toNat (orI .u64 (e.getD (IntKind.i64.wrap (Int.tdiv d 64)).toNat (Ty.zero (.int .u64))) (shlI .u64 (IntKind.u64.wrap (a.getD d.toNat (Ty.zero (.int .u8)))) (IntKind.u64.wrap (Int.tmod d 64)))))))
 else none
 else none
 else none
 else
 some (.inr e)
def Ea (a : (List Int)) (b : Int) (z_ : (Int × (List Int))) := Ga a b z_.1 z_.2
def JB (a : (List Int)) (b : Int) (d : Int) (e : (List Int)) := fix (Ea a b) (d, e)
theorem Ahi (a : (List Int)) (b : Int) : LpOk E38 0 5 (code Tryz.f113) [1, 1, 1, 0, 1, 0] (Adt a b) (Ea a b) (Agl a b) := by
  intro _
  simp only [Ea, Ga, mC, mI, mN, mB, mE, mM]
  kernel_rfl
def Xz (a : (List Int)) : St := sT 51 [(0, dD (.sl (.int .u8)) a), (2, .ptr 0 0 [] 0)] [.box (.pr (dI 0) (.pr .zs .u))]
def Zm (a : (List Int)) (m0 : Bool) : Ex × St := (.normal, sT 51 [(0, dD (.sl (.int .u8)) a), (2, .ptr 0 0 [] 0), (13, dB m0)] [.box (.pr (dI 0) (.pr .zs .u))])
theorem Ae4 (a : (List Int)) : jnS E38 0 2 (code Tryz.f113) [1, 0, 0] (Xz a) = some (Zm a ((decide ((a.length : Int) < 1)) || (decide ((a.length : Int) > 4096)))) := by
  have h0 : jnS E38 0 2 (code Tryz.f113) [1, 0, 0] (Xz a) =
 bif (decide ((a.length : Int) < 1)) then
 some (Zm a true)
 else
 some (Zm a (decide ((a.length : Int) > 4096))) := by kernel_rfl
  rw [h0]
  cases h1 : (decide ((a.length : Int) < 1))
  · first | rfl | kernel_rfl
  · first | rfl | kernel_rfl
def HR (a : (List Int)) : Option (Int × Bool × (List Int)) :=
 mkr (Xz a) (
 bif ((decide ((a.length : Int) < 1)) || (decide ((a.length : Int) > 4096))) then
 some (0, false, ([] : List Int))
 else
 if Ty.row (.int .u64) = true ∧ (0 : Int) ≤ (IntKind.i64.wrap (Int.tdiv (IntKind.i64.wrap ((a.length : Int) + 63)) 64)) ∧ (IntKind.i64.wrap (Int.tdiv (IntKind.i64.wrap ((a.length : Int) + 63)) 64)) ≤ (IntKind.i64.wrap (Int.tdiv (IntKind.i64.wrap ((a.length : Int) + 63)) 64)) ∧ ((8 : Nat) : Int) * (IntKind.i64.wrap (Int.tdiv (IntKind.i64.wrap ((a.length : Int) + 63)) 64)) ≤ (281474976710656 : Int) ∧ (IntKind.i64.wrap (Int.tdiv (IntKind.i64.wrap ((a.length : Int) + 63)) 64)) ≤ (9223372036854775807 : Int) then
 (JB a (a.length : Int) 0 (List.replicate (IntKind.i64.wrap (Int.tdiv (IntKind.i64.wrap ((a.length : Int) + 63)) 64)).toNat 0)).bind fun c =>
 some ((a.length : Int), true, c)
 else none)
theorem U38 (R : Type) (a : (List Int)) (K : AV → List Blk → Option R) : runF E38 Tryz.f113 R [dD (.sl (.int .u8)) a] [] K = (HR a).bind fun r => K (.cons (.pr (dI r.1) (.pr (.ref 0) .u)) (.cons (dB r.2.1) .nil)) [.row 221 .deep (.int .u64) r.2.2] := by
  simp only [HR, bC, bI, bN, bE, bA, bS, bO, bM]
  simp (disch := refine sI ?_ <;> (repeat' refine sA ?_ ?_) <;> intro _ <;> kernel_rfl) only [DB (Ae4 _) (K := finK E38 Tryz.f113 0 R K), JB, AC (Ahi _ _) (K := finK E38 Tryz.f113 0 R K)]
  kernel_rfl
def c113 : Va.Callee := brC [.d (.sl (.int .u8))] [⟨[.dat [] (.sl (.int .u8))], [], (Int × Bool × (List Int)), fun p => HR p.1.1, fun r => (.cons (.pr (dI r.1) (.pr (.ref 0) .u)) (.cons (dB r.2.1) .nil), [.row 221 .deep (.int .u64) r.2.2])⟩]
theorem Vk : SoundC Tryz.prog 113 c113 := Ao (fn := Tryz.f113) (by kernel_rfl) (by kernel_rfl) (by kernel_rfl) ⟨⟨E38, ⟨⟨tabok, Am trivial⟩, mixed⟩, fun p R K => U38 R p.1.1 K⟩, trivial⟩
abbrev E39 : Env := ⟨tab, lookH [(113, c113)], { deep := true, heads := [(3, { live := [0, 4, 5], pre := [(4, false, .row [] 196 Ab true)] }), (7, { live := [0, 4, 6, 7] }), (12, { live := [0, 4, 5, 6] })], outs := [(3, { live := [4] }), (7, { live := [0, 4, 6, 7], frz := [(7, false, (.sl (.int .u8)))] }), (12, { live := [0, 4, 5, 6] })], joins := [(8, { live := [0, 4, 6, 7] }), (13, { live := [0, 4, 5, 6] }), (15, { live := [0, 4, 6] })], ents := [(8, [0, 4, 6, 7]), (13, [0, 4, 5, 6]), (15, [0, 4, 5, 6])] }⟩
def Acb (a : (List Ag.V)) (z_ : (Int × (List Ab.V))) : St := sT 121 [(0, dD (.sl Ag) a), (4, .ref 0), (5, dI z_.1)] [.row 196 .deep Ab z_.2]
def Acz (a : (List Ag.V)) : (List Ab.V) → Ex × St := fun b => ((.exit 0), sT 121 [(4, .ref 0)] [.row 196 .deep Ab b])
def Ahs (a : (List Ag.V)) (c : Int) (d : (List Ab.V)) (e : Int) : St := sT 121 [(0, dD (.sl Ag) a), (4, .ref 0), (5, dI c), (6, dI e)] [.row 196 .deep Ab d]
def Aen (a : (List Ag.V)) (c : Int) (d : (List Ab.V)) (e : Int) : (Int × (List Ab.V)) → Ex × St := fun g => (.normal, sT 121 [(0, dD (.sl Ag) a), (4, .ref 0), (6, dI g.1)] [.row 196 .deep Ab g.2])
def Ag6 (a : (List Ag.V)) (c : Int) (d : (List Ab.V)) (z_ : Int) : St := sT 121 [(0, dD (.sl Ag) a), (4, .ref 0), (5, dI c), (6, dI z_)] [.row 196 .deep Ab d]
def AhA (a : (List Ag.V)) (c : Int) (d : (List Ab.V)) : Int → Ex × St := fun i => ((.exit 4), sT 121 [(0, dD (.sl Ag) a), (4, .ref 0), (5, dI c), (6, dI i)] [.row 196 .deep Ab d])
def Ahe (a : (List Ag.V)) (c : Int) (j : Int) (d : (List Ab.V)) : St := sT 121 [(0, dD (.sl Ag) a), (4, .ref 0), (5, dI c), (6, dI j)] [.row 196 .deep Ab d]
def Agg (a : (List Ag.V)) (c : Int) (j : Int) (d : (List Ab.V)) : (Unit ⊕ Unit) → Ex × St := Sum.elim (fun k => (.normal, sT 121 [(0, dD (.sl Ag) a), (4, .ref 0), (5, dI c), (6, dI j)] [.row 196 .deep Ab d])) (fun l => ((.exit 4), sT 121 [(0, dD (.sl Ag) a), (4, .ref 0), (5, dI c), (6, dI j)] [.row 196 .deep Ab d]))
def H5 (a : (List Ag.V)) (c : Int) (j : Int) (d : (List Ab.V)) : Option (Unit ⊕ Unit) :=
 bif (decide (j < (a.length : Int))) then
 if (0 : Int) ≤ j ∧ j < (a.length : Int) then
 if (0 : Int) ≤ c ∧ c < (a.length : Int) then
 bif ((a.getD j.toNat (Ty.zero Ag)).1 == (a.getD c.toNat (Ty.zero Ag)).1) then
 if (0 : Int) ≤ j ∧ j < (a.length : Int) then
 if (0 : Int) ≤ (IntKind.i64.wrap (j - 1)) ∧ (IntKind.i64.wrap (j - 1)) < (a.length : Int) then
 bif ((a.getD j.toNat (Ty.zero Ag)).2.1 == (IntKind.i64.wrap ((a.getD (IntKind.i64.wrap (j - 1)).toNat (Ty.zero Ag)).2.1 + 1))) then
 some (.inl ())
 else
 some (.inr ())
 else none
 else none
 else
 some (.inr ())
 else none
 else none
 else
 some (.inr ())
theorem AdX (a : (List Ag.V)) (c : Int) (j : Int) (d : (List Ab.V)) : JnOk E39 0 13 (sub (sub (sub (code Tryz.f111) [1, 1, 1, 0, 0, 0]) [1, 0, 1, 0]) [1, 1, 0, 0, 0]) [0] (Ahe a c j d) (H5 a c j d) (Agg a c j d) := by
  unfold JnOk
  simp only [H5, mC, mI, mN, mB, mE, mM]
  kernel_rfl
def Ip (a : (List Ag.V)) (c : Int) (d : (List Ab.V)) (j : Int) : Option (Int ⊕ Int) :=
 (H5 a c j d).bind (Sum.elim (fun k =>
 some (.inl (IntKind.i64.wrap (j + 1)))) (fun l =>
 some (.inr j)))
def Gg (a : (List Ag.V)) (c : Int) (d : (List Ab.V)) (z_ : Int) := Ip a c d z_
def Ie (a : (List Ag.V)) (c : Int) (d : (List Ab.V)) (j : Int) := fix (Gg a c d) j
theorem AhF (a : (List Ag.V)) (c : Int) (d : (List Ab.V)) : LpOk E39 0 12 (sub (sub (code Tryz.f111) [1, 1, 1, 0, 0, 0]) [1, 0, 1, 0]) [1, 1, 0, 0] (Ag6 a c d) (Gg a c d) (AhA a c d) := by
  intro _
  simp only [Gg, Ip, mC, mI, mN, mB, mE, mM]
  simp (disch := refine sI ?_ <;> (repeat' refine sA ?_ ?_) <;> intro _ <;> kernel_rfl) only [AX (AdX _ _ _ _) (K := stepK 0 (E39.hd 12) (E39.ot 12))]
  kernel_rfl
def Aez (a : (List Ag.V)) (d : (List Ab.V)) (z_ : (Int × (List Int))) : St := sT 121 [(0, dD (.sl Ag) a), (4, .ref 0), (6, dI z_.1), (7, .ref 1)] [.row 196 .deep Ab d, .row 5 .deep (.int .u8) z_.2]
def Aiq (a : (List Ag.V)) (d : (List Ab.V)) : (Int × (List Int)) → Ex × St := fun n => ((.exit 2), sT 121 [(0, dD (.sl Ag) a), (4, .ref 0), (6, dI n.1), (7, dD (.sl (.int .u8)) n.2)] [.row 196 .deep Ab d])
def Afm (a : (List Ag.V)) (o : Int) (d : (List Ab.V)) (q : (List Int)) : St := sT 121 [(0, dD (.sl Ag) a), (4, .ref 0), (6, dI o), (7, .ref 1)] [.row 196 .deep Ab d, .row 5 .deep (.int .u8) q]
def Af0 (a : (List Ag.V)) (o : Int) (d : (List Ab.V)) (q : (List Int)) : (Unit ⊕ Unit) → Ex × St := Sum.elim (fun s => (.normal, sT 121 [(0, dD (.sl Ag) a), (4, .ref 0), (6, dI o), (7, .ref 1)] [.row 196 .deep Ab d, .row 5 .deep (.int .u8) q])) (fun t => ((.exit 2), sT 121 [(0, dD (.sl Ag) a), (4, .ref 0), (6, dI o), (7, .ref 1)] [.row 196 .deep Ab d, .row 5 .deep (.int .u8) q]))
def If (a : (List Ag.V)) (o : Int) (d : (List Ab.V)) (q : (List Int)) : Option (Unit ⊕ Unit) :=
 bif (decide (o < (a.length : Int))) then
 if (0 : Int) ≤ o ∧ o < (a.length : Int) then
 bif (decide ((a.getD o.toNat (Ty.zero Ag)).1 < 0)) then
 some (.inl ())
 else
 some (.inr ())
 else none
 else
 some (.inr ())
theorem Ag0 (a : (List Ag.V)) (o : Int) (d : (List Ab.V)) (q : (List Int)) : JnOk E39 0 8 (sub (sub (sub (code Tryz.f111) [1, 1, 1, 0, 0, 0]) [1, 0, 1, 0]) [1, 0, 1, 0, 0, 0]) [0] (Afm a o d q) (If a o d q) (Af0 a o d q) := by
  unfold JnOk
  simp only [If, mC, mI, mN, mB, mE, mM]
  kernel_rfl
def Iv (a : (List Ag.V)) (d : (List Ab.V)) (o : Int) (q : (List Int)) : Option ((Int × (List Int)) ⊕ (Int × (List Int))) :=
 (If a o d q).bind (Sum.elim (fun s =>
 if (0 : Int) ≤ o ∧ o < (a.length : Int) then
 if (q.length + ([(IntKind.u8.wrap (a.getD o.toNat (Ty.zero Ag)).2.1)] : List Int).length) * 1 ≤ 140737488355328 then
 some (.inl ((IntKind.i64.wrap (o + 1)), (q ++ ([(IntKind.u8.wrap (a.getD o.toNat (Ty.zero Ag)).2.1)] : List Int))))
 else none
 else none) (fun t =>
 some (.inr (o, q))))
def Gk (a : (List Ag.V)) (d : (List Ab.V)) (z_ : (Int × (List Int))) := Iv a d z_.1 z_.2
def HX (a : (List Ag.V)) (d : (List Ab.V)) (o : Int) (q : (List Int)) := fix (Gk a d) (o, q)
theorem Agy (a : (List Ag.V)) (d : (List Ab.V)) : LpOk E39 0 7 (sub (sub (code Tryz.f111) [1, 1, 1, 0, 0, 0]) [1, 0, 1, 0]) [1, 0, 1, 0, 0] (Aez a d) (Gk a d) (Aiq a d) := by
  intro _
  simp only [Gk, Iv, mC, mI, mN, mB, mE, mM]
  simp (disch := refine sI ?_ <;> (repeat' refine sA ?_ ?_) <;> intro _ <;> kernel_rfl) only [AX (Ag0 _ _ _ _) (K := stepK 0 (E39.hd 7) (E39.ot 7))]
  kernel_rfl
def Id (a : (List Ag.V)) (c : Int) (d : (List Ab.V)) (e : Int) : Option (Int × (List Ab.V)) :=
 if (0 : Int) ≤ c ∧ c < (a.length : Int) then
 bif (decide ((a.getD c.toNat (Ty.zero Ag)).1 < 0)) then
 if (0 : Int) ≤ c ∧ c < (a.length : Int) then
 (HX a d e ([(IntKind.u8.wrap (a.getD c.toNat (Ty.zero Ag)).2.1)] : List Int)).bind fun n =>
 (HR n.2).bind fun u =>
 if (d.length + ([((-1), 0, u.1, (u.1, u.2.2, ()), ())] : List Ab.V).length) * 56 ≤ 140737488355328 then
 some (n.1, (d ++ ([((-1), 0, u.1, (u.1, u.2.2, ()), ())] : List Ab.V)))
 else none
 else none
 else
 (Ie a c d e).bind fun i =>
 if (0 : Int) ≤ c ∧ c < (a.length : Int) then
 if (0 : Int) ≤ c ∧ c < (a.length : Int) then
 if (d.length + ([((a.getD c.toNat (Ty.zero Ag)).1, (a.getD c.toNat (Ty.zero Ag)).2.1, (IntKind.i64.wrap (i - c)), (0, ([] : List Int), ()), ())] : List Ab.V).length) * 56 ≤ 140737488355328 then
 some (i, (d ++ ([((a.getD c.toNat (Ty.zero Ag)).1, (a.getD c.toNat (Ty.zero Ag)).2.1, (IntKind.i64.wrap (i - c)), (0, ([] : List Int), ()), ())] : List Ab.V)))
 else none
 else none
 else none
 else none
theorem Agt (a : (List Ag.V)) (c : Int) (d : (List Ab.V)) (e : Int) : JnOk E39 0 15 (sub (code Tryz.f111) [1, 1, 1, 0, 0, 0]) [1, 0, 1, 0] (Ahs a c d e) (Id a c d e) (Aen a c d e) := by
  unfold JnOk
  simp only [Id, mC, mI, mN, mB, mE, mM]
  simp (disch := refine sI ?_ <;> (repeat' refine sA ?_ ?_) <;> intro _ <;> kernel_rfl) only [HX, AC (Agy _ _) (K := joinK 0 (E39.jn 15)), Ie, AC (AhF _ _ _) (K := joinK 0 (E39.jn 15))]
  kernel_rfl
def HP (a : (List Ag.V)) (c : Int) (d : (List Ab.V)) : Option ((Int × (List Ab.V)) ⊕ (List Ab.V)) :=
 bif (decide (c < (a.length : Int))) then
 (Id a c d (IntKind.i64.wrap (c + 1))).bind fun g =>
 some (.inl (g.1, g.2))
 else
 some (.inr d)
def Fq (a : (List Ag.V)) (z_ : (Int × (List Ab.V))) := HP a z_.1 z_.2
def Jd (a : (List Ag.V)) (c : Int) (d : (List Ab.V)) := fix (Fq a) (c, d)
theorem Aae (a : (List Ag.V)) : LpOk E39 0 3 (code Tryz.f111) [1, 1, 1, 0, 0] (Acb a) (Fq a) (Acz a) := by
  intro _
  simp only [Fq, HP, mC, mI, mN, mB, mE, mM]
  simp (disch := refine sI ?_ <;> (repeat' refine sA ?_ ?_) <;> intro _ <;> kernel_rfl) only [AX (Agt _ _ _ _) (K := stepK 0 (E39.hd 3) (E39.ot 3))]
  kernel_rfl
def Fd (a : (List Ag.V)) : Option (Bool × (List Ab.V)) :=
 (Jd a 0 ([] : List Ab.V)).bind fun b =>
 some ((decide ((b.length : Int) ≤ 2000)), b)
theorem U39 (R : Type) (a : (List Ag.V)) (K : AV → List Blk → Option R) : runF E39 Tryz.f111 R [dD (.sl Ag) a] [] K = (Fd a).bind fun r => K (.cons (.ref 0) (.cons (dB r.1) .nil)) [.row 196 .deep Ab r.2] := by
  simp only [Fd, bC, bI, bN, bE, bA, bS, bO, bM]
  simp (disch := refine sI ?_ <;> (repeat' refine sA ?_ ?_) <;> intro _ <;> kernel_rfl) only [Jd, AC (Aae _) (K := finK E39 Tryz.f111 0 R K)]
  kernel_rfl
def c111 : Va.Callee := brC [.d (.sl Ag)] [⟨[.dat [] (.sl Ag)], [], (Bool × (List Ab.V)), fun p => Fd p.1.1, fun r => (.cons (.ref 0) (.cons (dB r.1) .nil), [.row 196 .deep Ab r.2])⟩]
theorem Of : SoundC Tryz.prog 111 c111 := Ao (fn := Tryz.f111) (by kernel_rfl) (by kernel_rfl) (by kernel_rfl) ⟨⟨E39, ⟨⟨tabok, Am ⟨Vk, trivial⟩⟩, mixed⟩, fun p R K => U39 R p.1.1 K⟩, trivial⟩
end
end Go.Proofs.X
namespace Go.Proofs.X
open Go Go.Va
set_option maxRecDepth 100000
noncomputable section
abbrev E40 : Env := ⟨tab, lookH [(107, c107), (110, c110), (111, c111)], { heads := [(6, { live := [0, 3, 6, 7, 8], pre := [(6, false, .row [] 115 (.sl Ag) false), (7, false, .row [] 196 Ab true)] }), (10, { live := [0, 3, 6, 8, 9, 10], pre := [(9, false, .row [] 115 (.sl Ag) false)] })], outs := [(6, { live := [4, 5, 7] }), (10, { live := [0, 3, 6, 8, 9], frz := [(9, false, (.sl (.sl Ag)))] })], res := [(0, .row [] 196 Ab true)] }⟩
def Ac7 (a : (List Ae.V)) (b : Ai.V) (z_ : (Int × (List (List Ag.V)) × (List Ab.V))) : St := sT 77 [(0, dD (.sl Ae) a), (3, .ptr 0 0 [] 0), (6, .ref 1), (7, .ref 2), (8, dI z_.1)] [.box (dD Ai b), .row 115 (.sh []) (.sl Ag) z_.2.1, .row 196 .deep Ab z_.2.2]
def Afv (a : (List Ae.V)) (b : Ai.V) : (Unit ⊕ (List Ab.V)) → Ex × St := Sum.elim (fun c => (.ret, sT 77 [(4, .zs), (5, dB false)] [])) (fun d => ((.exit 0), sT 77 [(7, .ref 0)] [.row 196 .deep Ab d]))
def Ahf (a : (List Ae.V)) (e : Int) (b : Ai.V) (g : (List (List Ag.V))) (z_ : (Int × (List (List Ag.V)))) : St := sT 77 [(0, dD (.sl Ae) a), (3, .ptr 0 0 [] 0), (6, .ref 1), (8, dI e), (9, .ref 2), (10, dI z_.1)] [.box (dD Ai b), .row 115 (.sh []) (.sl Ag) g, .row 115 (.sh []) (.sl Ag) z_.2]
def AfM (a : (List Ae.V)) (e : Int) (b : Ai.V) (g : (List (List Ag.V))) : (List (List Ag.V)) → Ex × St := fun i => ((.exit 2), sT 77 [(0, dD (.sl Ae) a), (3, .ptr 0 0 [] 0), (6, .ref 1), (8, dI e), (9, dD (.sl (.sl Ag)) i)] [.box (dD Ai b), .row 115 (.sh []) (.sl Ag) g])
def Fo (a : (List Ae.V)) (e : Int) (b : Ai.V) (g : (List (List Ag.V))) (j : Int) (k : (List (List Ag.V))) : Option ((Int × (List (List Ag.V))) ⊕ (List (List Ag.V))) :=
 if (0 : Int) ≤ e ∧ e < (b.1.length : Int) then
 bif (decide (j < ((b.1.getD e.toNat (Ty.zero Ad)).2.2.2.2.2.1.length : Int))) then
 if (0 : Int) ≤ e ∧ e < (b.1.length : Int) then
 if (0 : Int) ≤ j ∧ j < ((b.1.getD e.toNat (Ty.zero Ad)).2.2.2.2.2.1.length : Int) then
 if (0 : Int) ≤ ((b.1.getD e.toNat (Ty.zero Ad)).2.2.2.2.2.1.getD j.toNat (Ty.zero (.int .i64))) ∧ ((b.1.getD e.toNat (Ty.zero Ad)).2.2.2.2.2.1.getD j.toNat (Ty.zero (.int .i64))) < (g.length : Int) then
 if (k.length + ([(g.getD ((b.1.getD e.toNat (Ty.zero Ad)).2.2.2.2.2.1.getD j.toNat (Ty.zero (.int .i64))).toNat (Ty.zero (.sl Ag)))] : List (List Ag.V)).length) * 24 ≤ 140737488355328 then
 some (.inl ((IntKind.i64.wrap (j + 1)), (k ++ ([(g.getD ((b.1.getD e.toNat (Ty.zero Ad)).2.2.2.2.2.1.getD j.toNat (Ty.zero (.int .i64))).toNat (Ty.zero (.sl Ag)))] : List (List Ag.V)))))
 else none
 else none
 else none
 else none
 else
 some (.inr k)
 else none
def Cn (a : (List Ae.V)) (e : Int) (b : Ai.V) (g : (List (List Ag.V))) (z_ : (Int × (List (List Ag.V)))) := Fo a e b g z_.1 z_.2
def GX (a : (List Ae.V)) (e : Int) (b : Ai.V) (g : (List (List Ag.V))) (j : Int) (k : (List (List Ag.V))) := fix (Cn a e b g) (j, k)
theorem Aek (a : (List Ae.V)) (e : Int) (b : Ai.V) (g : (List (List Ag.V))) : LpOk E40 0 10 (sub (code Tryz.f61) [1, 1, 1, 1, 0, 1, 0, 0]) [1, 0, 0, 1, 0, 1, 0] (Ahf a e b g) (Cn a e b g) (AfM a e b g) := by
  intro _
  simp only [Cn, Fo, mC, mI, mN, mB, mE, mM]
  kernel_rfl
def HK (a : (List Ae.V)) (b : Ai.V) (e : Int) (g : (List (List Ag.V))) (l : (List Ab.V)) : Option ((Int × (List (List Ag.V)) × (List Ab.V)) ⊕ (Unit ⊕ (List Ab.V))) :=
 bif (decide (e < (b.1.length : Int))) then
 (GX a e b g 0 ([] : List (List Ag.V))).bind fun i =>
 if (0 : Int) ≤ e ∧ e < (b.1.length : Int) then
 (HI a (b.1.getD e.toNat (Ty.zero Ad)) i).bind fun n =>
 (Fd n).bind fun o =>
 bif (!o.1) then
 some (.inr (.inl ()))
 else
 if (g.length + ([n] : List (List Ag.V)).length) * 24 ≤ 140737488355328 then
 some (.inl ((IntKind.i64.wrap (e + 1)), (g ++ ([n] : List (List Ag.V))), o.2))
 else none
 else none
 else
 some (.inr (.inr l))
def FL (a : (List Ae.V)) (b : Ai.V) (z_ : (Int × (List (List Ag.V)) × (List Ab.V))) := HK a b z_.1 z_.2.1 z_.2.2
def IZ (a : (List Ae.V)) (b : Ai.V) (e : Int) (g : (List (List Ag.V))) (l : (List Ab.V)) := fix (FL a b) (e, g, l)
theorem Aev (a : (List Ae.V)) (b : Ai.V) : LpOk E40 0 6 (code Tryz.f61) [1, 1, 1, 1, 0, 1, 0] (Ac7 a b) (FL a b) (Afv a b) := by
  intro _
  simp only [FL, HK, mC, mI, mN, mB, mE, mM]
  simp (disch := refine sI ?_ <;> (repeat' refine sA ?_ ?_) <;> intro _ <;> kernel_rfl) only [GX, AC (Aek _ _ _ _) (K := stepK 0 (E40.hd 6) (E40.ot 6))]
  kernel_rfl
def A0 (a : (List Ae.V)) (b : Ai.V) : Option (Bool × (List Ab.V)) :=
 (BS a b).bind fun q =>
 bif (decide (q < 0)) then
 some (false, ([] : List Ab.V))
 else
 (IZ a b 0 ([] : List (List Ag.V)) ([] : List Ab.V)).bind (Sum.elim (fun c =>
 some (false, ([] : List Ab.V))) (fun d =>
 some (true, d)))
theorem U40 (R : Type) (a : (List Ae.V)) (b : Ai.V) (K : AV → List Blk → Option R) : runF E40 Tryz.f61 R [dD (.sl Ae) a, dD Ai b] [] K = (A0 a b).bind fun r => K (.cons (.ref 0) (.cons (dB r.1) .nil)) [.row 196 .deep Ab r.2] := by
  simp only [A0, bC, bI, bN, bE, bA, bS, bO, bM]
  simp (disch := refine sI ?_ <;> (repeat' refine sA ?_ ?_) <;> intro _ <;> kernel_rfl) only [IZ, AC (Aev _ _) (K := finK E40 Tryz.f61 0 R K)]
  kernel_rfl
def c61 : Va.Callee := brC [.d (.sl Ae), .d Ai] [⟨[.dat [] (.sl Ae), .dat [] Ai], [], (Bool × (List Ab.V)), fun p => A0 p.1.1 p.1.2.1, fun r => (.cons (.ref 0) (.cons (dB r.1) .nil), [.row 196 .deep Ab r.2])⟩]
theorem Su : SoundC Tryz.prog 61 c61 := Ao (fn := Tryz.f61) (by kernel_rfl) (by kernel_rfl) (by kernel_rfl) ⟨⟨E40, ⟨⟨tabok, Am ⟨Q1, WS, Of, trivial⟩⟩, mixed⟩, fun p R K => U40 R p.1.1 p.1.2.1 K⟩, trivial⟩
abbrev E41 : Env := ⟨tab, lookH [(61, c61)], { deep := true, heads := [(3, { live := [0, 1, 6, 7], pre := [(6, false, .row [] 112 (.sl Ab) true)] })], outs := [(3, { live := [4, 5, 6] })], joins := [(8, { live := [0, 1, 6, 7, 8, 10, 44] })], ents := [(8, [0, 1, 6, 7, 8, 9, 10, 11])] }⟩
def AfD (a : (List Ae.V)) (b : (List Af.V)) (z_ : (Int × (List (List Ab.V)))) : St := sT 52 [(0, dD (.sl Ae) a), (1, dD (.sl Af) b), (6, .ref 0), (7, dI z_.1)] [.row 112 .deep (.sl Ab) z_.2]
def AeO (a : (List Ae.V)) (b : (List Af.V)) : ((List (List Ab.V)) ⊕ (List (List Ab.V))) → Ex × St := Sum.elim (fun c => (.ret, sT 52 [(4, .ref 0), (5, dB false), (6, .ref 0)] [.row 112 .deep (.sl Ab) c])) (fun d => ((.exit 0), sT 52 [(6, .ref 0)] [.row 112 .deep (.sl Ab) d]))
def YG (a : (List Ae.V)) (b : (List Af.V)) (e : Int) (g : (Bool × (List Ab.V))) (i : (Bool × (List Ab.V))) (j : (List (List Ab.V))) : St := sT 52 [(0, dD (.sl Ae) a), (1, dD (.sl Af) b), (6, .ref 0), (7, dI e), (8, .ref 1), (9, dB g.1), (10, .ref 2), (11, dB i.1)] [.row 112 .deep (.sl Ab) j, .row 196 .deep Ab g.2, .row 196 .deep Ab i.2]
def Yb (a : (List Ae.V)) (b : (List Af.V)) (e : Int) (g : (Bool × (List Ab.V))) (i : (Bool × (List Ab.V))) (j : (List (List Ab.V))) (m0 : Bool) : Ex × St := (.normal, sT 52 [(0, dD (.sl Ae) a), (1, dD (.sl Af) b), (6, .ref 0), (7, dI e), (8, .ref 1), (10, .ref 2), (44, dB m0)] [.row 112 .deep (.sl Ab) j, .row 196 .deep Ab g.2, .row 196 .deep Ab i.2])
theorem Ac2 (a : (List Ae.V)) (b : (List Af.V)) (e : Int) (g : (Bool × (List Ab.V))) (i : (Bool × (List Ab.V))) (j : (List (List Ab.V))) : jnS E41 0 8 (sub (code Tryz.f96) [1, 1, 0, 1, 0, 0]) [1, 0, 0, 1, 1, 0, 0] (YG a b e g i j) = some (Yb a b e g i j ((!g.1) || (!i.1))) := by
  have h0 : jnS E41 0 8 (sub (code Tryz.f96) [1, 1, 0, 1, 0, 0]) [1, 0, 0, 1, 1, 0, 0] (YG a b e g i j) =
 bif (!g.1) then
 some (Yb a b e g i j true)
 else
 some (Yb a b e g i j (!i.1)) := by kernel_rfl
  rw [h0]
  cases h1 : (!g.1)
  · first | rfl | kernel_rfl
  · first | rfl | kernel_rfl
def HO (a : (List Ae.V)) (b : (List Af.V)) (e : Int) (j : (List (List Ab.V))) : Option ((Int × (List (List Ab.V))) ⊕ ((List (List Ab.V)) ⊕ (List (List Ab.V)))) :=
 bif (decide (e < (b.length : Int))) then
 if (0 : Int) ≤ e ∧ e < (b.length : Int) then
 (A0 a (b.getD e.toNat (Ty.zero Af)).2.2.1).bind fun g =>
 if (0 : Int) ≤ e ∧ e < (b.length : Int) then
 (A0 a (b.getD e.toNat (Ty.zero Af)).2.2.2.1).bind fun i =>
 mkr (YG a b e g i j) (
 bif ((!g.1) || (!i.1)) then
 some (.inr (.inl j))
 else
 if (j.length + ([g.2, i.2] : List (List Ab.V)).length) * 24 ≤ 140737488355328 then
 some (.inl ((IntKind.i64.wrap (e + 1)), (j ++ ([g.2, i.2] : List (List Ab.V)))))
 else none)
 else none
 else none
 else
 some (.inr (.inr j))
def Fh (a : (List Ae.V)) (b : (List Af.V)) (z_ : (Int × (List (List Ab.V)))) := HO a b z_.1 z_.2
def IX (a : (List Ae.V)) (b : (List Af.V)) (e : Int) (j : (List (List Ab.V))) := fix (Fh a b) (e, j)
theorem AeU (a : (List Ae.V)) (b : (List Af.V)) : LpOk E41 0 3 (code Tryz.f96) [1, 1, 0, 1, 0] (AfD a b) (Fh a b) (AeO a b) := by
  intro _
  simp only [Fh, HO, mC, mI, mN, mB, mE, mM]
  simp (disch := refine sI ?_ <;> (repeat' refine sA ?_ ?_) <;> intro _ <;> kernel_rfl) only [DB (Ac2 _ _ _ _ _ _) (K := stepK 0 (E41.hd 3) (E41.ot 3))]
  kernel_rfl
def GJ (a : (List Ae.V)) (b : (List Af.V)) : Option (Bool × (List (List Ab.V))) :=
 (IX a b 0 ([] : List (List Ab.V))).bind (Sum.elim (fun c =>
 some (false, c)) (fun d =>
 some (true, d)))
theorem U41 (R : Type) (a : (List Ae.V)) (b : (List Af.V)) (K : AV → List Blk → Option R) : runF E41 Tryz.f96 R [dD (.sl Ae) a, dD (.sl Af) b] [] K = (GJ a b).bind fun r => K (.cons (.ref 0) (.cons (dB r.1) .nil)) [.row 112 .deep (.sl Ab) r.2] := by
  simp only [GJ, bC, bI, bN, bE, bA, bS, bO, bM]
  simp (disch := refine sI ?_ <;> (repeat' refine sA ?_ ?_) <;> intro _ <;> kernel_rfl) only [IX, AC (AeU _ _) (K := finK E41 Tryz.f96 0 R K)]
  kernel_rfl
def c96 : Va.Callee := brC [.d (.sl Ae), .d (.sl Af)] [⟨[.dat [] (.sl Ae), .dat [] (.sl Af)], [], (Bool × (List (List Ab.V))), fun p => GJ p.1.1 p.1.2.1, fun r => (.cons (.ref 0) (.cons (dB r.1) .nil), [.row 112 .deep (.sl Ab) r.2])⟩]
theorem YY : SoundC Tryz.prog 96 c96 := Ao (fn := Tryz.f96) (by kernel_rfl) (by kernel_rfl) (by kernel_rfl) ⟨⟨E41, ⟨⟨tabok, Am ⟨Su, trivial⟩⟩, mixed⟩, fun p R K => U41 R p.1.1 p.1.2.1 K⟩, trivial⟩
abbrev E42 : Env := ⟨tab, lookH [], { deep := true, joins := [(4, { live := [3, 4] }), (9, { live := [3, 9] })], ents := [(4, [3]), (9, [3])] }⟩
def XK (a : Int) : St := sT 14 [(3, dI a)] []
def Yf (a : Int) (m0 : Bool) : Ex × St := (.normal, sT 14 [(3, dI a), (9, dB m0)] [])
theorem AeC (a : Int) : jnS E42 0 9 (code Tryz.f42) [1, 0, 1, 0, 1, 1, 1, 1, 0] (XK a) = some (Yf a (bif (a == 4) then (a == 4) else (a == 6))) := by
  have h0 : jnS E42 0 9 (code Tryz.f42) [1, 0, 1, 0, 1, 1, 1, 1, 0] (XK a) =
 bif (a == 4) then
 some (Yf a (a == 4))
 else
 some (Yf a (a == 6)) := by kernel_rfl
  rw [h0]
  cases h1 : (a == 4)
  · first | rfl | kernel_rfl
  · first | rfl | kernel_rfl
def Yu (a : Int) : St := sT 14 [(3, dI a)] []
def Xm (a : Int) (m0 : Bool) : Ex × St := (.normal, sT 14 [(3, dI a), (4, dB m0)] [])
theorem Adn (a : Int) : jnS E42 0 4 (code Tryz.f42) [1, 0, 1, 0, 0] (Yu a) = some (Xm a (bif (a == 1) then (a == 1) else (a == 3))) := by
  have h0 : jnS E42 0 4 (code Tryz.f42) [1, 0, 1, 0, 0] (Yu a) =
 bif (a == 1) then
 some (Xm a (a == 1))
 else
 some (Xm a (a == 3)) := by kernel_rfl
  rw [h0]
  cases h1 : (a == 1)
  · first | rfl | kernel_rfl
  · first | rfl | kernel_rfl
def Au (a : Int) : ByteArray := (bif (bif (a == 1) then (a == 1) else (a == 3)) then (⟨#[105]⟩ : ByteArray) else (bif (a == 2) then (⟨#[116]⟩ : ByteArray) else (bif (bif (a == 4) then (a == 4) else (a == 6)) then (⟨#[105, 106]⟩ : ByteArray) else (bif (a == 5) then (⟨#[105, 112]⟩ : ByteArray) else (⟨#[]⟩ : ByteArray)))))
theorem U42 (R : Type) (a : Int) (K : AV → List Blk → Option R) : runF E42 Tryz.f42 R [dI a] [] K = K (dD .str (Au a)) [] := by
  have h : runF E42 Tryz.f42 R [dI a] [] K =
 mkr (Yu a) (
 bif (bif (a == 1) then (a == 1) else (a == 3)) then
 K (dD .str (⟨#[105]⟩ : ByteArray)) []
 else
 bif (a == 2) then
 K (dD .str (⟨#[116]⟩ : ByteArray)) []
 else
 mkr (XK a) (
 bif (bif (a == 4) then (a == 4) else (a == 6)) then
 K (dD .str (⟨#[105, 106]⟩ : ByteArray)) []
 else
 bif (a == 5) then
 K (dD .str (⟨#[105, 112]⟩ : ByteArray)) []
 else
 K (dD .str (⟨#[]⟩ : ByteArray)) [])) := by
    simp (disch := refine sI ?_ <;> (repeat' refine sA ?_ ?_) <;> intro _ <;> kernel_rfl) only [DB (Adn _) (K := finK E42 Tryz.f42 0 R K), DB (AeC _) (K := finK E42 Tryz.f42 0 R K)]
    kernel_rfl
  rw [h]
  unfold Au
  cases h1 : (bif (a == 1) then (a == 1) else (a == 3))
  · cases h2 : (a == 2)
    · cases h3 : (bif (a == 4) then (a == 4) else (a == 6))
      · cases h4 : (a == 5)
        · first | rfl | kernel_rfl
        · first | rfl | kernel_rfl
      · first | rfl | kernel_rfl
    · first | rfl | kernel_rfl
  · first | rfl | kernel_rfl
def c42 : Va.Callee := brC [.d (.int .i64)] [⟨[.dat [] (.int .i64)], [], ByteArray, fun p => some (Au p.1.1), fun r => (dD .str r, [])⟩]
theorem P8 : SoundC Tryz.prog 42 c42 := Ao (fn := Tryz.f42) (by kernel_rfl) (by kernel_rfl) (by kernel_rfl) ⟨⟨E42, ⟨⟨tabok, Am trivial⟩, mixed⟩, fun p R K => U42 R p.1.1 K⟩, trivial⟩
abbrev E43 : Env := ⟨tab, lookH [], { deep := true, heads := [(2, { live := [0, 1, 5] })], outs := [(2, { live := [4] })] }⟩
def AgD (a : ByteArray) (b : Int) (z_ : Int) : St := sT 17 [(0, dD .str a), (1, dD (.int .u8) b), (5, dI z_)] []
def Agn (a : ByteArray) (b : Int) : (Unit ⊕ Unit) → Ex × St := Sum.elim (fun c => (.ret, sT 17 [(4, dB true)] [])) (fun d => ((.exit 0), sT 17 [] []))
def KF (a : ByteArray) (b : Int) (e : Int) : Option (Int ⊕ (Unit ⊕ Unit)) :=
 bif (decide (e < (a.size : Int))) then
 if (0 : Int) ≤ e ∧ e < (a.size : Int) then
 bif ((bgetI a e) == b) then
 some (.inr (.inl ()))
 else
 some (.inl (IntKind.i64.wrap (e + 1)))
 else none
 else
 some (.inr (.inr ()))
def AQ (a : ByteArray) (b : Int) (z_ : Int) := KF a b z_
def Fp (a : ByteArray) (b : Int) (e : Int) := fix (AQ a b) e
theorem Af5 (a : ByteArray) (b : Int) : LpOk E43 0 2 (code Tryz.f43) [1, 0, 1, 0] (AgD a b) (AQ a b) (Agn a b) := by
  intro _
  simp only [AQ, KF, mC, mI, mN, mB, mE, mM]
  kernel_rfl
def As (a : ByteArray) (b : Int) : Option Bool :=
 (Fp a b 0).bind (Sum.elim (fun c =>
 some true) (fun d =>
 some false))
theorem U43 (R : Type) (a : ByteArray) (b : Int) (K : AV → List Blk → Option R) : runF E43 Tryz.f43 R [dD .str a, dD (.int .u8) b] [] K = (As a b).bind fun r => K (dB r) [] := by
  simp only [As, bC, bI, bN, bE, bA, bS, bO, bM]
  simp (disch := refine sI ?_ <;> (repeat' refine sA ?_ ?_) <;> intro _ <;> kernel_rfl) only [Fp, AC (Af5 _ _) (K := finK E43 Tryz.f43 0 R K)]
  kernel_rfl
def c43 : Va.Callee := brC [.d .str, .d (.int .u8)] [⟨[.dat [] .str, .dat [] (.int .u8)], [], Bool, fun p => As p.1.1 p.1.2.1, fun r => (dB r, [])⟩]
theorem PO : SoundC Tryz.prog 43 c43 := Ao (fn := Tryz.f43) (by kernel_rfl) (by kernel_rfl) (by kernel_rfl) ⟨⟨E43, ⟨⟨tabok, Am trivial⟩, mixed⟩, fun p R K => U43 R p.1.1 p.1.2.1 K⟩, trivial⟩
abbrev E44 : Env := ⟨tab, lookH [(42, c42), (43, c43)], { deep := true }⟩
def C7 (a : Aa.V) : Option Bool :=
 bif (!(strEq (Au a.1) (⟨#[]⟩ : ByteArray))) then
 (As (Au a.1) 105).bind fun b =>
 bif b then
 (As (Au a.1) 106).bind fun c =>
 bif c then
 (As (Au a.1) 112).bind fun d =>
 bif d then
 (As (Au a.1) 116).bind fun e =>
 bif e then
 some true
 else
 some ((a.2.2.2.2.2.1.1.length : Int) == 0)
 else
 bif (a.2.2.2.1 == 0) then
 bif (a.2.2.2.2.1 == 0) then
 (As (Au a.1) 116).bind fun g =>
 bif g then
 some true
 else
 some ((a.2.2.2.2.2.1.1.length : Int) == 0)
 else
 some false
 else
 some false
 else
 bif (a.2.2.1 == 0) then
 (As (Au a.1) 112).bind fun i =>
 bif i then
 (As (Au a.1) 116).bind fun j =>
 bif j then
 some true
 else
 some ((a.2.2.2.2.2.1.1.length : Int) == 0)
 else
 bif (a.2.2.2.1 == 0) then
 bif (a.2.2.2.2.1 == 0) then
 (As (Au a.1) 116).bind fun k =>
 bif k then
 some true
 else
 some ((a.2.2.2.2.2.1.1.length : Int) == 0)
 else
 some false
 else
 some false
 else
 some false
 else
 bif (a.2.1 == 0) then
 (As (Au a.1) 106).bind fun l =>
 bif l then
 (As (Au a.1) 112).bind fun n =>
 bif n then
 (As (Au a.1) 116).bind fun o =>
 bif o then
 some true
 else
 some ((a.2.2.2.2.2.1.1.length : Int) == 0)
 else
 bif (a.2.2.2.1 == 0) then
 bif (a.2.2.2.2.1 == 0) then
 (As (Au a.1) 116).bind fun q =>
 bif q then
 some true
 else
 some ((a.2.2.2.2.2.1.1.length : Int) == 0)
 else
 some false
 else
 some false
 else
 bif (a.2.2.1 == 0) then
 (As (Au a.1) 112).bind fun s =>
 bif s then
 (As (Au a.1) 116).bind fun t =>
 bif t then
 some true
 else
 some ((a.2.2.2.2.2.1.1.length : Int) == 0)
 else
 bif (a.2.2.2.1 == 0) then
 bif (a.2.2.2.2.1 == 0) then
 (As (Au a.1) 116).bind fun u =>
 bif u then
 some true
 else
 some ((a.2.2.2.2.2.1.1.length : Int) == 0)
 else
 some false
 else
 some false
 else
 some false
 else
 some false
 else
 some false
theorem U44 (R : Type) (a : Aa.V) (K : AV → List Blk → Option R) : runF E44 Tryz.f146 R [dD Aa a] [] K = (C7 a).bind fun r => K (dB r) [] := by
  simp only [C7, bC, bI, bN, bE, bA, bS, bO, bM]
  kernel_rfl
def c146 : Va.Callee := brC [.d Aa] [⟨[.dat [] Aa], [], Bool, fun p => C7 p.1.1, fun r => (dB r, [])⟩]
theorem UJ : SoundC Tryz.prog 146 c146 := Ao (fn := Tryz.f146) (by kernel_rfl) (by kernel_rfl) (by kernel_rfl) ⟨⟨E44, ⟨⟨tabok, Am ⟨P8, PO, trivial⟩⟩, mixed⟩, fun p R K => U44 R p.1.1 K⟩, trivial⟩
abbrev E45 : Env := ⟨tab, lookH [], { deep := true, heads := [(2, { live := [0, 1, 5] })], outs := [(2, { live := [4] })], joins := [(5, { live := [0, 1, 5, 25] })], ents := [(5, [0, 1, 5])] }⟩
def Ahv (a : (List Af.V)) (b : Int) (z_ : Int) : St := sT 27 [(0, dD (.sl Af) a), (1, dI b), (5, dI z_)] []
def Ain (a : (List Af.V)) (b : Int) : (Int ⊕ Unit) → Ex × St := Sum.elim (fun c => (.ret, sT 27 [(4, dI c)] [])) (fun d => ((.exit 0), sT 27 [] []))
def Ahq (a : (List Af.V)) (b : Int) (e : Int) : St := sT 27 [(0, dD (.sl Af) a), (1, dI b), (5, dI e)] []
def Agj (a : (List Af.V)) (b : Int) (e : Int) : Bool → Ex × St := fun g => (.normal, sT 27 [(0, dD (.sl Af) a), (1, dI b), (5, dI e), (25, dB g)] [])
def Gr (a : (List Af.V)) (b : Int) (e : Int) : Option Bool :=
 if (0 : Int) ≤ e ∧ e < (a.length : Int) then
 bif ((a.getD e.toNat (Ty.zero Af)).1 == b) then
 if (0 : Int) ≤ e ∧ e < (a.length : Int) then
 some (a.getD e.toNat (Ty.zero Af)).2.1
 else none
 else
 some false
 else none
theorem Ad3 (a : (List Af.V)) (b : Int) (e : Int) : JnOk E45 0 5 (sub (code Tryz.f147) [1, 0, 1, 0, 0]) [1, 0, 0, 0] (Ahq a b e) (Gr a b e) (Agj a b e) := by
  unfold JnOk
  simp only [Gr, mC, mI, mN, mB, mE, mM]
  kernel_rfl
def ED (a : (List Af.V)) (b : Int) (e : Int) : Option (Int ⊕ (Int ⊕ Unit)) :=
 bif (decide (e < (a.length : Int))) then
 (Gr a b e).bind fun g =>
 bif g then
 some (.inr (.inl e))
 else
 some (.inl (IntKind.i64.wrap (e + 1)))
 else
 some (.inr (.inr ()))
def C4 (a : (List Af.V)) (b : Int) (z_ : Int) := ED a b z_
def Ir (a : (List Af.V)) (b : Int) (e : Int) := fix (C4 a b) e
theorem AdB (a : (List Af.V)) (b : Int) : LpOk E45 0 2 (code Tryz.f147) [1, 0, 1, 0] (Ahv a b) (C4 a b) (Ain a b) := by
  intro _
  simp only [C4, ED, mC, mI, mN, mB, mE, mM]
  simp (disch := refine sI ?_ <;> (repeat' refine sA ?_ ?_) <;> intro _ <;> kernel_rfl) only [AX (Ad3 _ _ _) (K := stepK 0 (E45.hd 2) (E45.ot 2))]
  kernel_rfl
def Fl (a : (List Af.V)) (b : Int) : Option Int :=
 (Ir a b 0).bind (Sum.elim (fun c =>
 some c) (fun d =>
 some (-1)))
theorem U45 (R : Type) (a : (List Af.V)) (b : Int) (K : AV → List Blk → Option R) : runF E45 Tryz.f147 R [dD (.sl Af) a, dI b] [] K = (Fl a b).bind fun r => K (dI r) [] := by
  simp only [Fl, bC, bI, bN, bE, bA, bS, bO, bM]
  simp (disch := refine sI ?_ <;> (repeat' refine sA ?_ ?_) <;> intro _ <;> kernel_rfl) only [Ir, AC (AdB _ _) (K := finK E45 Tryz.f147 0 R K)]
  kernel_rfl
def c147 : Va.Callee := brC [.d (.sl Af), .d (.int .i64)] [⟨[.dat [] (.sl Af), .dat [] (.int .i64)], [], Int, fun p => Fl p.1.1 p.1.2.1, fun r => (dI r, [])⟩]
theorem Wi : SoundC Tryz.prog 147 c147 := Ao (fn := Tryz.f147) (by kernel_rfl) (by kernel_rfl) (by kernel_rfl) ⟨⟨E45, ⟨⟨tabok, Am trivial⟩, mixed⟩, fun p R K => U45 R p.1.1 p.1.2.1 K⟩, trivial⟩
abbrev E46 : Env := ⟨tab, lookH [], { deep := true }⟩
def Dw (a : Aj.V) : Option (Int × (List Int)) :=
 if a.2.1.length * 8 ≤ 140737488355328 then
 some (a.1, a.2.1)
 else none
theorem U46 (R : Type) (a : Aj.V) (K : AV → List Blk → Option R) : runF E46 Tryz.f86 R [dD Aj a] [] K = (Dw a).bind fun r => K (.pr (dI r.1) (.pr (.ref 0) .u)) [.row 221 .deep (.int .u64) r.2] := by
  simp only [Dw, bC, bI, bN, bE, bA, bS, bO, bM]
  kernel_rfl
def c86 : Va.Callee := brC [.d Aj] [⟨[.dat [] Aj], [], (Int × (List Int)), fun p => Dw p.1.1, fun r => (.pr (dI r.1) (.pr (.ref 0) .u), [.row 221 .deep (.int .u64) r.2])⟩]
theorem X8 : SoundC Tryz.prog 86 c86 := Ao (fn := Tryz.f86) (by kernel_rfl) (by kernel_rfl) (by kernel_rfl) ⟨⟨E46, ⟨⟨tabok, Am trivial⟩, mixed⟩, fun p R K => U46 R p.1.1 K⟩, trivial⟩
abbrev E47 : Env := ⟨tab, lookH [(86, c86)], { deep := true, heads := [(3, { live := [0, 3, 4], pre := [(3, false, .row [] 196 Ab true)] })], outs := [(3, { live := [3] })] }⟩
def AeD (a : (List Ab.V)) (z_ : (Int × (List Ab.V))) : St := sT 26 [(0, dD (.sl Ab) a), (3, .ref 0), (4, dI z_.1)] [.row 196 .deep Ab z_.2]
def Ag2 (a : (List Ab.V)) : (List Ab.V) → Ex × St := fun b => ((.exit 0), sT 26 [(3, .ref 0)] [.row 196 .deep Ab b])
def CO (a : (List Ab.V)) (c : Int) (d : (List Ab.V)) : Option ((Int × (List Ab.V)) ⊕ (List Ab.V)) :=
 bif (decide (c < (a.length : Int))) then
 if (0 : Int) ≤ c ∧ c < (a.length : Int) then
 (Dw (a.getD c.toNat (Ty.zero Ab)).2.2.2.1).bind fun e =>
 if (d.length + ([((a.getD c.toNat (Ty.zero Ab)).1, (a.getD c.toNat (Ty.zero Ab)).2.1, (a.getD c.toNat (Ty.zero Ab)).2.2.1, (e.1, e.2, ()), (a.getD c.toNat (Ty.zero Ab)).2.2.2.2)] : List Ab.V).length) * 56 ≤ 140737488355328 then
 some (.inl ((IntKind.i64.wrap (c + 1)), (d ++ ([((a.getD c.toNat (Ty.zero Ab)).1, (a.getD c.toNat (Ty.zero Ab)).2.1, (a.getD c.toNat (Ty.zero Ab)).2.2.1, (e.1, e.2, ()), (a.getD c.toNat (Ty.zero Ab)).2.2.2.2)] : List Ab.V))))
 else none
 else none
 else
 some (.inr d)
def Bc (a : (List Ab.V)) (z_ : (Int × (List Ab.V))) := CO a z_.1 z_.2
def Gz (a : (List Ab.V)) (c : Int) (d : (List Ab.V)) := fix (Bc a) (c, d)
theorem Afk (a : (List Ab.V)) : LpOk E47 0 3 (code Tryz.f148) [1, 1, 0, 1, 0] (AeD a) (Bc a) (Ag2 a) := by
  intro _
  simp only [Bc, CO, mC, mI, mN, mB, mE, mM]
  kernel_rfl
def AR (a : (List Ab.V)) : Option (List Ab.V) :=
 (Gz a 0 ([] : List Ab.V)).bind fun b =>
 some b
theorem U47 (R : Type) (a : (List Ab.V)) (K : AV → List Blk → Option R) : runF E47 Tryz.f148 R [dD (.sl Ab) a] [] K = (AR a).bind fun r => K (.ref 0) [.row 196 .deep Ab r] := by
  simp only [AR, bC, bI, bN, bE, bA, bS, bO, bM]
  simp (disch := refine sI ?_ <;> (repeat' refine sA ?_ ?_) <;> intro _ <;> kernel_rfl) only [Gz, AC (Afk _) (K := finK E47 Tryz.f148 0 R K)]
  kernel_rfl
def c148 : Va.Callee := brC [.d (.sl Ab)] [⟨[.dat [] (.sl Ab)], [], (List Ab.V), fun p => AR p.1.1, fun r => (.ref 0, [.row 196 .deep Ab r])⟩]
theorem Vb : SoundC Tryz.prog 148 c148 := Ao (fn := Tryz.f148) (by kernel_rfl) (by kernel_rfl) (by kernel_rfl) ⟨⟨E47, ⟨⟨tabok, Am ⟨X8, trivial⟩⟩, mixed⟩, fun p R K => U47 R p.1.1 K⟩, trivial⟩
end
end Go.Proofs.X
