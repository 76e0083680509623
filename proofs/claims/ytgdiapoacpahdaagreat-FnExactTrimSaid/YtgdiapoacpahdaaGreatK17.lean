import Derived.Test.YtgdiapoacpahdaaGreatK16
set_option linter.unusedVariables false
set_option linter.unusedSimpArgs false
namespace Go.Proofs.X
open Go Go.Va
set_option maxRecDepth 100000
theorem Wh {d : List Ae.V} {t : List Ad.V} {ws : List Int} (hd : DeclsP d) (ht : TermB t) (h : TermP d t ws) : BitsIn d (lastB d t) := by
  have := h.1
  exact (SD hd ht h t.length (Nat.le_refl _) (t.length - 1) (by omega)).1
theorem LI {d : List Ae.V} {t : List Ad.V} (hd : DeclsP d) (ht : TermB t) (h : (flatF d t).1 = true) : FormB d (lastB d t) ∧ (flatF d t).2 = fN (lastB d t) := by
  unfold flatF at h ⊢
  split at h
  · rename_i hc
    rw [if_pos hc]
    obtain ⟨⟨ws, hw⟩, hok⟩ := hc
    have := hw.1
    exact ⟨⟨Wh hd ht hw, hok _ (by omega)⟩, rfl⟩
  · cases h
theorem Nm {d : List Ae.V} {t : List Ad.V} (h : 0 ≤ termW d t) : ∃ ws, TermP d t ws :=
  Classical.byContradiction fun h' => by rw [JW h'] at h; omega
def SideOk (d : List Ae.V) (l : List Af.V) (i : Nat) : Prop := (flatF d (lS l i)).1 = true ∧ (flatF d (lT l i)).1 = true
def SidesP (d : List Ae.V) (l : List Af.V) : Prop := ∀ i, i < l.length → SideOk d l i
noncomputable def sideV (d : List Ae.V) (l : List Af.V) (i : Nat) : Ah.V := ((flatF d (lS l i)).2, (flatF d (lT l i)).2, ())
theorem RG {a b : Bool} : (!a || !b) = false ↔ a = true ∧ b = true := by cases a <;> cases b <;> decide
theorem OT {d : List Ae.V} {l : List Af.V} (hd : DeclsP d) (hl : ∀ x ∈ l, LitB x) (hlen : l.length ≤ 60) : Ret (GJ d l) fun r => r.1 = true ↔ SidesP d l := by
  unfold GJ
  refine Ret.bind (P := fun t => (∃ x, t = .inl x ∧ ¬ SidesP d l) ∨ (∃ x, t = .inr x ∧ SidesP d l)) ?_ fun t ht => ?_
  · unfold IX
    refine Gc (fun m (x : Int × List (List Ab.V)) => ∃ k : Nat, k ≤ l.length ∧ m = l.length - k ∧ x.1 = (k : Int) ∧ x.2.length = 2 * k ∧ ∀ i, i < k → SideOk d l i) (fun m x hI => ?_) l.length _ ⟨0, Nat.zero_le _, rfl, rfl, rfl, fun i hi => by omega⟩
    obtain ⟨x1, x2⟩ := x
    obtain ⟨k, hk, rfl, h1, h2, h3⟩ := hI
    simp only at h1 h2
    subst h1
    unfold Fh HO mkr
    simp only
    rcases Nat.lt_or_ge k l.length with h | h
    · have hB := hl _ (Ay (z := Ty.zero Af) h)
      have e1 : A0 d (l.getD k (Ty.zero Af)).2.2.1 = some (flatF d (lS l k)) := FP hd hB.1
      have e2 : A0 d (l.getD k (Ty.zero Af)).2.2.2.1 = some (flatF d (lT l k)) := FP hd hB.2
      rw [dlt h, cond_true, if_pos (rng h), Int.toNat_natCast, e1, Option.bind_some, if_pos (rng h), e2, Option.bind_some]
      cases hc : (!(flatF d (lS l k)).1 || !(flatF d (lT l k)).1) with
      | true =>
        refine Ret.mk (.inl ⟨_, rfl, fun h' => ?_⟩)
        have := RG.2 (h' k h)
        rw [hc] at this; cases this
      | false =>
        rw [cond_false, if_pos (by show (x2.length + 2) * 24 ≤ _; omega), stepN h (by omega)]
        refine Ret.mk ⟨l.length - (k + 1), by omega, k + 1, h, rfl, rfl, by simp [h2]; omega, fun i hi => ?_⟩
        rcases Nat.lt_or_ge i k with h' | h'
        · exact h3 i h'
        · rw [show i = k by omega]; exact RG.1 hc
    · have : k = l.length := by omega
      subst this
      rw [dge, cond_false]
      exact Ret.mk (.inr ⟨_, rfl, h3⟩)
  · rcases ht with ⟨x, rfl, h⟩ | ⟨x, rfl, h⟩
    · exact Ret.mk ⟨fun h' => by (cases h'), fun h' => absurd h' h⟩
    · exact Ret.mk ⟨fun _ => h, fun _ => rfl⟩
theorem Py {d : List Ae.V} {l : List Af.V} (hd : DeclsP d) (hl : ∀ x ∈ l, LitB x) (hp : LitsP d l) : Ret (GN d l) fun r => (r.1 = true ∧ SidesP d l ∧ r.2 = (List.range l.length).map (sideV d l)) ∨ (r.1 = false ∧ ¬ SidesP d l) := by
  unfold GN
  have hlen := hp.1
  rw [if_pos ⟨rfl, by omega, by omega, by omega, by omega⟩, Int.toNat_natCast]
  refine Ret.bind (P := fun t => (∃ x, t = .inl x ∧ ¬ SidesP d l) ∨ (t = .inr ((List.range l.length).map (sideV d l)) ∧ SidesP d l)) ?_ fun t ht => ?_
  · unfold Ke
    have z0 : ∀ n, fillN (sideV d l) (Ty.zero Ah) n 0 = List.replicate n (([] : List Ab.V), ([] : List Ab.V), ()) := fun n => fillN_zero _ _ _
    refine Gc (fun m (x : Int × List Ah.V) => ∃ k : Nat, k ≤ l.length ∧ m = l.length - k ∧ x = ((k : Int), fillN (sideV d l) (Ty.zero Ah) l.length k) ∧ ∀ i, i < k → SideOk d l i) (fun m x hI => ?_) l.length _ ⟨0, Nat.zero_le _, rfl, by rw [z0]; rfl, fun i hi => by omega⟩
    obtain ⟨k, hk, rfl, rfl, h3⟩ := hI
    unfold Hj Ja mkr
    simp only
    rcases Nat.lt_or_ge k l.length with h | h
    · have hB := hl _ (Ay (z := Ty.zero Af) h)
      have hlit := hp.2 k h
      obtain ⟨ws, hw⟩ := Nm hlit.2.2.1
      obtain ⟨ws', hw'⟩ := Nm (show 0 ≤ termW d (lT l k) by rw [hlit.2.2.2]; exact hlit.2.2.1)
      have e1 : Ce d (l.getD k (Ty.zero Af)).2.2.1 = some (flatF d (lS l k)) := JK hd hB.1 hw
      have e2 : Ce d (l.getD k (Ty.zero Af)).2.2.2.1 = some (flatF d (lT l k)) := JK hd hB.2 hw'
      rw [dlt h, cond_true, if_pos (rng h), Int.toNat_natCast, e1, Option.bind_some, e2, Option.bind_some]
      cases hc : (!(flatF d (lS l k)).1 || !(flatF d (lT l k)).1) with
      | true =>
        refine Ret.mk (.inl ⟨_, rfl, fun h' => ?_⟩)
        have := RG.2 (h' k h)
        rw [hc] at this; cases this
      | false =>
        rw [cond_false, fillN_len, if_pos (rng h), stepN h (by omega)]
        refine Ret.mk ⟨l.length - (k + 1), by omega, k + 1, h, rfl, ?_, fun i hi => ?_⟩
        · rw [← fillN_set]; rfl
        · rcases Nat.lt_or_ge i k with h' | h'
          · exact h3 i h'
          · rw [show i = k by omega]; exact RG.1 hc
    · have : k = l.length := by omega
      subst this
      rw [dge, cond_false]
      refine Ret.mk (.inr ⟨?_, h3⟩)
      congr 1
      unfold fillN
      refine List.map_congr_left fun i hi => ?_
      rw [if_pos (List.mem_range.1 hi)]
  · rcases ht with ⟨x, rfl, h⟩ | ⟨rfl, h⟩
    · exact Ret.mk (.inr ⟨rfl, h⟩)
    · exact Ret.mk (.inl ⟨rfl, h, rfl⟩)
def GivenP (l : List Af.V) (id : Int) (i : Nat) : Prop := (li l i).1 = id ∧ (li l i).2.1 = true
def FirstG (l : List Af.V) (id g : Int) : Prop := (g = -1 ∧ ∀ i, i < l.length → ¬ GivenP l id i) ∨ ∃ k : Nat, g = (k : Int) ∧ k < l.length ∧ GivenP l id k ∧ ∀ i, i < k → ¬ GivenP l id i
theorem FirstG.unique {l : List Af.V} {id g h : Int} (hg : FirstG l id g) (hh : FirstG l id h) : g = h := by
  rcases hg with ⟨rfl, h1⟩ | ⟨k, rfl, hk, hp, hn⟩
  · rcases hh with ⟨rfl, _⟩ | ⟨k, rfl, hk, hp, _⟩
    · rfl
    · exact absurd hp (h1 k hk)
  · rcases hh with ⟨rfl, h1⟩ | ⟨j, rfl, hj, hq, hm⟩
    · exact absurd hp (h1 k hk)
    · rcases Nat.lt_trichotomy k j with h | h | h
      · exact absurd hp (hm k h)
      · rw [h]
      · exact absurd hq (hn j h)
theorem Ov {l : List Af.V} (hl : l.length ≤ 60) (id : Int) : Ret (Fl l id) fun g => FirstG l id g := by
  unfold Fl
  refine Ret.bind (P := fun t => match t with | .inl g => FirstG l id g | .inr _ => FirstG l id (-1)) ?_ fun t ht => ?_
  · unfold Ir
    refine Bz (fun j (_ : Unit) => (j : Int)) l.length (fun j _ => ∀ k, k < j → ¬ GivenP l id k) (fun j _ hj hJ => ?_) (fun _ hJ => ?_) (s0 := ()) (fun i h => by omega)
    · unfold C4 ED Gr
      rw [dlt hj, cond_true, if_pos (rng hj), Int.toNat_natCast]
      have e : ((l.getD j (Ty.zero Af)).1 == id) = decide ((li l j).1 = id) := IB
      rw [e]
      by_cases h1 : (li l j).1 = id
      · rw [decide_eq_true h1, cond_true, if_pos (rng hj), Option.bind_some]
        cases h2 : (l.getD j (Ty.zero Af)).2.1 with
        | true => exact Ret.mk (.inr ⟨j, rfl, hj, ⟨h1, h2⟩, hJ⟩)
        | false =>
          rw [cond_false, stepN hj (by omega)]
          refine Ret.mk ⟨(), rfl, fun k hk => ?_⟩
          rcases Nat.lt_or_ge k j with h' | h'
          · exact hJ k h'
          · rw [show k = j by omega]; intro hg; have := hg.2; unfold li at this; rw [h2] at this; cases this
      · rw [decide_eq_false h1, cond_false, Option.bind_some, cond_false, stepN hj (by omega)]
        refine Ret.mk ⟨(), rfl, fun k hk => ?_⟩
        rcases Nat.lt_or_ge k j with h' | h'
        · exact hJ k h'
        · rw [show k = j by omega]; intro hg; exact h1 hg.1
    · unfold C4 ED
      rw [dge, cond_false]
      exact Ret.mk (.inl ⟨rfl, hJ⟩)
  · cases t with
    | inl g => exact Ret.mk ht
    | inr _ => exact Ret.mk ht
theorem O1 {d : List Ae.V} {l : List Af.V} {sd cs : List Ah.V} (hl : l.length ≤ 60) (id : Int) : Ret (BE (d, l, sd, cs, ()) id) fun g => FirstG l id g := by
  unfold BE Bf
  refine Ret.bind (P := fun r => FirstG l id r.1) (Ret.bind (P := fun t => match t with | .inl g => FirstG l id g | .inr _ => FirstG l id (-1)) ?_ fun t ht => ?_) fun r hr => Ret.mk hr
  · unfold Cr
    refine Bz (fun j (_ : Unit) => (j : Int)) l.length (fun j _ => ∀ k, k < j → ¬ GivenP l id k) (fun j _ hj hJ => ?_) (fun _ hJ => ?_) (s0 := ()) (fun i h => by omega)
    · unfold AJ A5
      simp only
      rw [dlt hj, cond_true, if_pos (rng hj), Int.toNat_natCast]
      unfold Cu
      have e : ((l.getD j (Ty.zero Af)).1 == id) = decide ((li l j).1 = id) := IB
      rw [e]
      cases h : ((l.getD j (Ty.zero Af)).2.1 && decide ((li l j).1 = id)) with
      | true =>
        rw [Bool.and_eq_true, decide_eq_true_eq] at h
        exact Ret.mk (.inr ⟨j, rfl, hj, ⟨h.2, h.1⟩, hJ⟩)
      | false =>
        rw [cond_false, stepN hj (by omega)]
        refine Ret.mk ⟨(), rfl, fun k hk => ?_⟩
        rcases Nat.lt_or_ge k j with h' | h'
        · exact hJ k h'
        · rw [show k = j by omega]
          intro hg
          have h1 : (l.getD j (Ty.zero Af)).2.1 = true := hg.2
          rw [h1, decide_eq_true hg.1] at h; cases h
    · unfold AJ A5
      simp only
      rw [dge, cond_false]
      exact Ret.mk (.inl ⟨rfl, hJ⟩)
  · cases t with
    | inl g => exact Ret.mk ht
    | inr _ => exact Ret.mk ht
theorem Om {a : ByteArray} {c : Int} (h0 : AQ a c 0 = some (.inr (.inl ()))) : As a c = some true := by
  unfold As Fp; rw [Fx h0]; rfl
theorem SG {a : ByteArray} {c : Int} (h0 : AQ a c 0 = some (.inl 1)) (h1 : AQ a c 1 = some (.inr (.inl ()))) : As a c = some true := by
  unfold As Fp; rw [G3 h0, Fx h1]; rfl
theorem NE {a : ByteArray} {c : Int} (h0 : AQ a c 0 = some (.inl 1)) (h1 : AQ a c 1 = some (.inr (.inr ()))) : As a c = some false := by
  unfold As Fp; rw [G3 h0, Fx h1]; rfl
theorem RK {a : ByteArray} {c : Int} (h0 : AQ a c 0 = some (.inl 1)) (h1 : AQ a c 1 = some (.inl 2)) (h2 : AQ a c 2 = some (.inr (.inr ()))) : As a c = some false := by
  unfold As Fp; rw [G3 h0, G3 h1, Fx h2]; rfl
theorem i_i : As ⟨#[105]⟩ 105 = some true := Om (by kernel_rfl)
theorem i_j : As ⟨#[105]⟩ 106 = some false := NE (by kernel_rfl) (by kernel_rfl)
theorem i_p : As ⟨#[105]⟩ 112 = some false := NE (by kernel_rfl) (by kernel_rfl)
theorem i_t : As ⟨#[105]⟩ 116 = some false := NE (by kernel_rfl) (by kernel_rfl)
theorem t_i : As ⟨#[116]⟩ 105 = some false := NE (by kernel_rfl) (by kernel_rfl)
theorem t_j : As ⟨#[116]⟩ 106 = some false := NE (by kernel_rfl) (by kernel_rfl)
theorem t_p : As ⟨#[116]⟩ 112 = some false := NE (by kernel_rfl) (by kernel_rfl)
theorem t_t : As ⟨#[116]⟩ 116 = some true := Om (by kernel_rfl)
theorem W5 : As ⟨#[105, 106]⟩ 105 = some true := Om (by kernel_rfl)
theorem WZ : As ⟨#[105, 106]⟩ 106 = some true := SG (by kernel_rfl) (by kernel_rfl)
theorem Aix : As ⟨#[105, 106]⟩ 112 = some false := RK (by kernel_rfl) (by kernel_rfl) (by kernel_rfl)
theorem Aiw : As ⟨#[105, 106]⟩ 116 = some false := RK (by kernel_rfl) (by kernel_rfl) (by kernel_rfl)
theorem AcV : As ⟨#[105, 112]⟩ 105 = some true := Om (by kernel_rfl)
theorem AcY : As ⟨#[105, 112]⟩ 106 = some false := RK (by kernel_rfl) (by kernel_rfl) (by kernel_rfl)
theorem AiF : As ⟨#[105, 112]⟩ 112 = some true := SG (by kernel_rfl) (by kernel_rfl)
theorem AiB : As ⟨#[105, 112]⟩ 116 = some false := RK (by kernel_rfl) (by kernel_rfl) (by kernel_rfl)
theorem u1 : Au 1 = ⟨#[105]⟩ := by kernel_rfl
theorem u2 : Au 2 = ⟨#[116]⟩ := by kernel_rfl
theorem u3 : Au 3 = ⟨#[105]⟩ := by kernel_rfl
theorem u4 : Au 4 = ⟨#[105, 106]⟩ := by kernel_rfl
theorem u5 : Au 5 = ⟨#[105, 112]⟩ := by kernel_rfl
theorem u6 : Au 6 = ⟨#[105, 106]⟩ := by kernel_rfl
theorem n1 : strEq ⟨#[105]⟩ ⟨#[]⟩ = false := by kernel_rfl
theorem n2 : strEq ⟨#[116]⟩ ⟨#[]⟩ = false := by kernel_rfl
theorem n3 : strEq ⟨#[105, 106]⟩ ⟨#[]⟩ = false := by kernel_rfl
theorem n4 : strEq ⟨#[105, 112]⟩ ⟨#[]⟩ = false := by kernel_rfl
theorem LO {a b : Int} : (a != b) = !(a == b) := rfl
theorem n5 : strEq ⟨#[]⟩ ⟨#[]⟩ = true := by kernel_rfl
theorem RV (r i j hi lo : Int) (nodes : List Ad.V) : C7 (r, i, j, hi, lo, (nodes, ()), ()) = some (Aw (r, i, j, hi, lo, (nodes, ()), ())) := by
  unfold C7 Aw
  simp only
  by_cases hr : 1 ≤ r ∧ r ≤ 6
  · have : r = 1 ∨ r = 2 ∨ r = 3 ∨ r = 4 ∨ r = 5 ∨ r = 6 := by omega
    rcases this with rfl | rfl | rfl | rfl | rfl | rfl
    · rw [u1, n1, i_i, i_j, i_p, i_t]
      simp only [Option.bind_some, Bool.not_false, cond_true, cond_false, LO]
      cases j == 0 <;> cases hi == 0 <;> cases lo == 0 <;> rfl
    · rw [u2, n2, t_i, t_j, t_p, t_t]
      simp only [Option.bind_some, Bool.not_false, cond_true, cond_false, LO]
      cases i == 0 <;> cases j == 0 <;> cases hi == 0 <;> cases lo == 0 <;> rfl
    · rw [u3, n1, i_i, i_j, i_p, i_t]
      simp only [Option.bind_some, Bool.not_false, cond_true, cond_false, LO]
      cases j == 0 <;> cases hi == 0 <;> cases lo == 0 <;> rfl
    · rw [u4, n3, W5, WZ, Aix, Aiw]
      simp only [Option.bind_some, Bool.not_false, cond_true, cond_false, LO]
      cases j == 0 <;> cases hi == 0 <;> cases lo == 0 <;> rfl
    · rw [u5, n4, AcV, AcY, AiF, AiB]
      simp only [Option.bind_some, Bool.not_false, cond_true, cond_false, LO]
      cases j == 0 <;> cases hi == 0 <;> cases lo == 0 <;> rfl
    · rw [u6, n3, W5, WZ, Aix, Aiw]
      simp only [Option.bind_some, Bool.not_false, cond_true, cond_false, LO]
      cases j == 0 <;> cases hi == 0 <;> cases lo == 0 <;> rfl
  · have hu : Au r = ⟨#[]⟩ := by
      have e : ∀ x : Int, (r == x) = decide (r = x) := fun x => IB
      unfold Au
      rw [e, e, e, e, e, e, decide_eq_false (by omega : ¬ r = 1), decide_eq_false (by omega : ¬ r = 3), decide_eq_false (by omega : ¬ r = 2), decide_eq_false (by omega : ¬ r = 4), decide_eq_false (by omega : ¬ r = 6), decide_eq_false (by omega : ¬ r = 5)]
      rfl
    rw [hu, n5, DY, decide_eq_false hr]
    rfl
theorem I8 (s : Aa.V) : C7 s = some (Aw s) := RV s.1 s.2.1 s.2.2.1 s.2.2.2.1 s.2.2.2.2.1 s.2.2.2.2.2.1.1
end Go.Proofs.X
namespace Go.Proofs.X
open Go Go.Va
set_option maxRecDepth 100000
def ClaimP (d : List Ae.V) (c : Ah.V) : Prop := ∃ A B, FormB d A ∧ FormB d B ∧ c = (fN A, fN B, ())
theorem J1 {d : List Ae.V} {cs : List Ah.V} (h : ∀ c ∈ cs, ClaimP d c) {i : Int} (h0 : 0 ≤ i) (h1 : i < (cs.length : Int)) : ∃ A B, FormB d A ∧ FormB d B ∧ cs.getD i.toNat (Ty.zero Ah) = (fN A, fN B, ()) :=
  h _ (Ay (by omega))
theorem Ot {d : List Ae.V} {t : List Ad.V} (hd : DeclsP d) (ht : TermB t) : HG d (t, ()) = some (flatF d t) := by
  unfold HG
  have hd60 := hd.1
  rw [JA ht (by omega), Option.bind_some]
  by_cases hw : ∃ ws, TermP d t ws
  · obtain ⟨ws, h⟩ := hw
    have hp := Pn h
    rw [decide_eq_false (by omega), cond_false, JK hd ht h]
    rfl
  · rw [JW hw, decide_eq_true (by omega), cond_true]
    unfold flatF
    rw [if_neg (fun h => hw h.1)]
theorem Um : Small ([] : List Ab.V) := ⟨by simp, fun s hs => by cases hs⟩
theorem Vt {d : List Ae.V} {t : List Ad.V} (h : (flatF d t).1 = false) : (flatF d t).2 = [] := by
  unfold flatF at h ⊢
  split at h
  · cases h
  · rename_i hc; rw [if_neg hc]
theorem Ic {d : List Ae.V} {l : List Af.V} {sd cs : List Ah.V} (hlen : cs.length ≤ 200) (i : Int) : BH (d, l, sd, cs, ()) i = decide (0 ≤ i ∧ i < (cs.length : Int)) := by
  unfold BH
  show Ap i 0 (IntKind.i64.wrap ((cs.length : Int) - 1)) = _
  rw [DY, wrapI (by omega) (by omega), decide_eq_decide]; omega
theorem JT {cs : List Ah.V} (hlen : cs.length ≤ 200) (i : Int) : AA i 0 (IntKind.i64.wrap ((cs.length : Int) - 1)) = decide (0 ≤ i ∧ i < (cs.length : Int)) := by
  rw [HJ, wrapI (by omega) (by omega), decide_eq_decide]; omega
def StepR (d : List Ae.V) (x : Option (Int × List Ab.V × List Ab.V)) (y : Option (Ah.V × Int)) : Prop :=
  (∃ code L R c, code ≠ 0 ∧ x = some (code, L, R) ∧ y = some (c, code)) ∨ ∃ A B, FormB d A ∧ FormB d B ∧ x = some (0, fN A, fN B) ∧ y = some ((fN A, fN B, ()), 0)
section
variable {d : List Ae.V} {l : List Af.V} {sd cs : List Ah.V}
theorem RQ (hd : DeclsP d) (hl : ∀ x ∈ l, LitB x) (hp : LitsP d l) (hs : SidesP d l) (hsd : sd = (List.range l.length).map (sideV d l)) {i j hi lo : Int} {nodes : List Ad.V} (hf : Aw (1, i, j, hi, lo, (nodes, ()), ()) = true) :
    StepR d (AF d l cs (1, i, j, hi, lo, (nodes, ()), ())) (At (d, l, sd, cs, ()) (1, i, j, hi, lo, (nodes, ()), ())) := by
  have hlen := hp.1
  obtain ⟨g, hg, hq⟩ := Ov hlen i
  obtain ⟨g', hg', hq'⟩ := O1 (d := d) (sd := sd) (cs := cs) hlen i
  have := hq'.unique hq
  subst this
  unfold AF At
  rw [I8, hf, Option.bind_some]
  have hstep : Ar (d, l, sd, cs, ()) (1, i, j, hi, lo, (nodes, ()), ()) = some (decide (g' ≥ 0)) := by
    unfold Ar
    rw [show (((1, i, j, hi, lo, (nodes, ()), ()) : Aa.V).1 == (1 : Int)) = true from rfl, cond_true]
    rw [hg', Option.bind_some]
  rw [hstep, Option.bind_some]
  simp only [Bool.not_true, cond_false, Int.reduceBEq, cond_true]
  rw [hg, hg', Option.bind_some, Option.bind_some]
  rcases hq with ⟨rfl, _⟩ | ⟨k, rfl, hk, _, _⟩
  · exact .inl ⟨3, [], [], ([], [], ()), by decide, rfl, rfl⟩
  · rw [decide_eq_false (show ¬ (k : Int) < 0 by omega), decide_eq_true (show (k : Int) ≥ 0 by omega)]
    simp only [Bool.not_true, cond_false]
    have hB := hl _ (Ay (z := Ty.zero Af) hk)
    have e1 : A0 d (l.getD k (Ty.zero Af)).2.2.1 = some (flatF d (lS l k)) := FP hd hB.1
    have e2 : A0 d (l.getD k (Ty.zero Af)).2.2.2.1 = some (flatF d (lT l k)) := FP hd hB.2
    have hso := hs k hk
    obtain ⟨f1, q1⟩ := LI hd hB.1 hso.1
    obtain ⟨f2, q2⟩ := LI hd hB.2 hso.2
    have hsl : sd.length = l.length := by rw [hsd]; simp
    have hsg : sd.getD k (Ty.zero Ah) = sideV d l k := by rw [hsd]; simp [List.getD, hk]
    rw [if_pos (rng hk), Int.toNat_natCast, e1, Option.bind_some, if_pos (rng hk), e2, Option.bind_some, hsl, if_pos (rng hk), hsg]
    refine .inr ⟨_, _, f1, f2, ?_, ?_⟩
    · rw [← q1, ← q2]; rfl
    · rw [← q1, ← q2]; rfl
theorem T7 (hd : DeclsP d) (hlen : cs.length ≤ 200) {i j hi lo : Int} {nodes : List Ad.V} (ht : TermB nodes) (hf : Aw (2, i, j, hi, lo, (nodes, ()), ()) = true) :
    StepR d (AF d l cs (2, i, j, hi, lo, (nodes, ()), ())) (At (d, l, sd, cs, ()) (2, i, j, hi, lo, (nodes, ()), ())) := by
  unfold AF At BO BN mkr
  rw [I8, hf, Option.bind_some]
  have hstep : Ar (d, l, sd, cs, ()) (2, i, j, hi, lo, (nodes, ()), ()) = some true := by
    unfold Ar mkr
    simp only [Int.reduceBEq, cond_true, cond_false]
  rw [hstep, Option.bind_some]
  simp only [Bool.not_true, cond_false, Int.reduceBEq, cond_true]
  rw [u2, t_i, t_j]
  simp only [Option.bind_some, cond_false]
  rw [FP hd ht, Ot hd ht, Option.bind_some, Option.bind_some]
  cases hc : (flatF d nodes).1 with
  | false =>
    rw [Vt hc, HD Um, Option.bind_some, Bool.not_false, cond_true, cond_true, Option.bind_some]
    exact .inl ⟨4, _, _, _, by decide, rfl, rfl⟩
  | true =>
    obtain ⟨f1, q1⟩ := LI hd ht hc
    rw [q1, HD (Fk f1.1), Option.bind_some, Bool.not_true, cond_false, cond_false, Option.bind_some]
    exact .inr ⟨_, _, f1, f1, rfl, rfl⟩
theorem T4 (hcs : ∀ c ∈ cs, ClaimP d c) (hlen : cs.length ≤ 200) {i j hi lo : Int} {nodes : List Ad.V} (hf : Aw (3, i, j, hi, lo, (nodes, ()), ()) = true) :
    StepR d (AF d l cs (3, i, j, hi, lo, (nodes, ()), ())) (At (d, l, sd, cs, ()) (3, i, j, hi, lo, (nodes, ()), ())) := by
  unfold AF At BO BN mkr
  rw [I8, hf, Option.bind_some]
  have hstep : Ar (d, l, sd, cs, ()) (3, i, j, hi, lo, (nodes, ()), ()) = some (decide (0 ≤ i ∧ i < (cs.length : Int))) := by
    unfold Ar mkr
    simp only [Int.reduceBEq, cond_false]
    rw [Ic hlen]
  rw [hstep, Option.bind_some]
  simp only [Bool.not_true, cond_false, Int.reduceBEq, cond_true]
  rw [u3, i_i, i_j, JT hlen]
  simp only [Option.bind_some, cond_true, cond_false]
  by_cases h : 0 ≤ i ∧ i < (cs.length : Int)
  · rw [decide_eq_true h]
    simp only [Bool.not_true, cond_false, Option.bind_some]
    obtain ⟨A, B, fa, fb, e⟩ := J1 hcs h.1 h.2
    simp only [if_pos h, e]
    rw [HD (Fk fb.1), Option.bind_some, HD (Fk fa.1)]
    simp only [Option.bind_some, Sum.elim_inr, Sum.elim_inl, Bool.not_true, Bool.or_self, cond_false]
    exact .inr ⟨_, _, fb, fa, rfl, rfl⟩
  · rw [decide_eq_false h]
    simp only [Bool.not_false, cond_true, Option.bind_some]
    exact .inl ⟨3, _, _, _, by decide, rfl, rfl⟩
theorem Sd (hcs : ∀ c ∈ cs, ClaimP d c) (hlen : cs.length ≤ 200) {i j hi lo : Int} {nodes : List Ad.V} (hf : Aw (4, i, j, hi, lo, (nodes, ()), ()) = true) :
    StepR d (AF d l cs (4, i, j, hi, lo, (nodes, ()), ())) (At (d, l, sd, cs, ()) (4, i, j, hi, lo, (nodes, ()), ())) := by
  unfold AF At BO BN mkr
  rw [I8, hf, Option.bind_some]
  have hstep : Ar (d, l, sd, cs, ()) (4, i, j, hi, lo, (nodes, ()), ()) = some (bif decide (0 ≤ i ∧ i < (cs.length : Int)) then decide (0 ≤ j ∧ j < (cs.length : Int)) else false) := by
    unfold Ar mkr
    simp only [Int.reduceBEq, cond_false, cond_true]
    rw [Ic hlen, Ic hlen]
    cases decide (0 ≤ i ∧ i < (cs.length : Int)) <;> rfl
  rw [hstep, Option.bind_some]
  simp only [Bool.not_true, cond_false, Int.reduceBEq, cond_true]
  rw [u4, W5, WZ, JT hlen, JT hlen]
  simp only [Option.bind_some, cond_true]
  by_cases h : 0 ≤ i ∧ i < (cs.length : Int)
  · rw [decide_eq_true h]
    simp only [Bool.not_true, cond_false, Option.bind_some, cond_true]
    by_cases h' : 0 ≤ j ∧ j < (cs.length : Int)
    · rw [decide_eq_true h']
      simp only [Bool.not_true, cond_false, Option.bind_some]
      obtain ⟨A, B, fa, fb, e⟩ := J1 hcs h.1 h.2
      obtain ⟨A', B', fa', fb', e'⟩ := J1 hcs h'.1 h'.2
      simp only [if_pos h, if_pos h', e, e']
      obtain ⟨r, hr, hq⟩ := QO (Fk fb.1) (fN A')
      obtain ⟨r', hr', hq'⟩ := P1 (Fk fb.1) (fN A')
      have : r = r' := RP hq hq'
      subst this
      rw [hr, hr', Option.bind_some, Option.bind_some]
      cases r with
      | false =>
        simp only [Bool.not_false, cond_true, Option.bind_some, Sum.elim_inr]
        exact .inl ⟨5, _, _, _, by decide, rfl, rfl⟩
      | true =>
        rw [Bool.not_true, cond_false, cond_false, HD (Fk fa.1), Option.bind_some, HD (Fk fb'.1)]
        simp only [Option.bind_some, Sum.elim_inr, Sum.elim_inl, Bool.not_true, Bool.or_self, cond_false]
        exact .inr ⟨_, _, fa, fb', rfl, rfl⟩
    · rw [decide_eq_false h']
      simp only [Bool.not_false, cond_true, Option.bind_some]
      exact .inl ⟨3, _, _, _, by decide, rfl, rfl⟩
  · rw [decide_eq_false h]
    simp only [Bool.not_false, cond_true, Option.bind_some, cond_false]
    exact .inl ⟨3, _, _, _, by decide, rfl, rfl⟩
theorem SI (hd : DeclsP d) (hcs : ∀ c ∈ cs, ClaimP d c) (hlen : cs.length ≤ 200) {i j hi lo : Int} {nodes : List Ad.V} (hf : Aw (5, i, j, hi, lo, (nodes, ()), ()) = true) :
    StepR d (AF d l cs (5, i, j, hi, lo, (nodes, ()), ())) (At (d, l, sd, cs, ()) (5, i, j, hi, lo, (nodes, ()), ())) := by
  unfold AF At BO BN Hw Ho mkr
  rw [I8, hf, Option.bind_some]
  have hstep : Ar (d, l, sd, cs, ()) (5, i, j, hi, lo, (nodes, ()), ()) = some (decide (0 ≤ i ∧ i < (cs.length : Int))) := by
    unfold Ar mkr
    simp only [Int.reduceBEq, cond_false]
    rw [Ic hlen]
  rw [hstep, Option.bind_some]
  simp only [Bool.not_true, cond_false, Int.reduceBEq, cond_true]
  rw [u5, AcV, AcY, JT hlen]
  simp only [Option.bind_some, cond_true, cond_false]
  by_cases h : 0 ≤ i ∧ i < (cs.length : Int)
  · rw [decide_eq_true h]
    simp only [Bool.not_true, cond_false, Option.bind_some]
    obtain ⟨A, B, fa, fb, e⟩ := J1 hcs h.1 h.2
    simp only [if_pos h, e]
    rw [Mx hd fa, MT hd fa, Option.bind_some, Option.bind_some, Option.bind_some, Mx hd fb, MT hd fb]
    simp only [Option.bind_some, Sum.elim_inr, Sum.elim_inl]
    by_cases ha : CutP A hi lo
    · by_cases hb : CutP B hi lo
      · rw [if_pos ha, if_pos hb]
        exact .inr ⟨_, _, Mg fa ha, Mg fb hb, rfl, rfl⟩
      · rw [if_pos ha, if_neg hb]
        exact .inl ⟨6, _, _, _, by decide, rfl, rfl⟩
    · rw [if_neg ha]
      exact .inl ⟨6, _, _, _, by decide, rfl, rfl⟩
  · rw [decide_eq_false h]
    simp only [Bool.not_false, cond_true, Option.bind_some]
    exact .inl ⟨3, _, _, _, by decide, rfl, rfl⟩
theorem Ti (hd : DeclsP d) (hcs : ∀ c ∈ cs, ClaimP d c) (hlen : cs.length ≤ 200) {i j hi lo : Int} {nodes : List Ad.V} (hf : Aw (6, i, j, hi, lo, (nodes, ()), ()) = true) :
    StepR d (AF d l cs (6, i, j, hi, lo, (nodes, ()), ())) (At (d, l, sd, cs, ()) (6, i, j, hi, lo, (nodes, ()), ())) := by
  unfold AF At BO BN GT Hq mkr
  rw [I8, hf, Option.bind_some]
  have hstep : Ar (d, l, sd, cs, ()) (6, i, j, hi, lo, (nodes, ()), ()) = some (bif decide (0 ≤ i ∧ i < (cs.length : Int)) then decide (0 ≤ j ∧ j < (cs.length : Int)) else false) := by
    unfold Ar mkr
    simp only [Int.reduceBEq, cond_false, cond_true]
    rw [Ic hlen, Ic hlen]
    cases decide (0 ≤ i ∧ i < (cs.length : Int)) <;> rfl
  rw [hstep, Option.bind_some]
  simp only [Bool.not_true, cond_false, Int.reduceBEq, cond_true]
  rw [u6, W5, WZ, JT hlen, JT hlen]
  simp only [Option.bind_some, cond_true]
  by_cases h : 0 ≤ i ∧ i < (cs.length : Int)
  · rw [decide_eq_true h]
    simp only [Bool.not_true, cond_false, Option.bind_some, cond_true]
    by_cases h' : 0 ≤ j ∧ j < (cs.length : Int)
    · rw [decide_eq_true h']
      simp only [Bool.not_true, cond_false, Option.bind_some]
      obtain ⟨A, B, fa, fb, e⟩ := J1 hcs h.1 h.2
      obtain ⟨A', B', fa', fb', e'⟩ := J1 hcs h'.1 h'.2
      simp only [if_pos h, if_pos h', e, e']
      rw [M1 hd fa fa', MY hd fa fa', Option.bind_some, Option.bind_some, Option.bind_some, M1 hd fb fb', MY hd fb fb']
      simp only [Option.bind_some, Sum.elim_inr, Sum.elim_inl]
      by_cases ha : JoinP A A'
      · by_cases hb : JoinP B B'
        · rw [if_pos ha, if_pos hb, if_pos ha, if_pos hb]
          exact .inr ⟨_, _, Pk fa fa' ha, Pk fb fb' hb, rfl, rfl⟩
        · rw [if_pos ha, if_neg hb, if_pos ha, if_neg hb]
          exact .inl ⟨6, _, _, _, by decide, rfl, rfl⟩
      · rw [if_neg ha, if_neg ha]
        exact .inl ⟨6, _, _, _, by decide, rfl, rfl⟩
    · rw [decide_eq_false h']
      simp only [Bool.not_false, cond_true, Option.bind_some]
      exact .inl ⟨3, _, _, _, by decide, rfl, rfl⟩
  · rw [decide_eq_false h]
    simp only [Bool.not_false, cond_true, Option.bind_some, cond_false]
    exact .inl ⟨3, _, _, _, by decide, rfl, rfl⟩
theorem PL {r i j hi lo : Int} {nodes : List Ad.V} (h : Aw (r, i, j, hi, lo, (nodes, ()), ()) = true) : r = 1 ∨ r = 2 ∨ r = 3 ∨ r = 4 ∨ r = 5 ∨ r = 6 := by
  by_cases hr : 1 ≤ r ∧ r ≤ 6
  · omega
  · unfold Aw at h
    rw [DY, decide_eq_false hr] at h
    cases h
theorem YM (hd : DeclsP d) (hl : ∀ x ∈ l, LitB x) (hp : LitsP d l) (hs : SidesP d l) (hsd : sd = (List.range l.length).map (sideV d l)) (hcs : ∀ c ∈ cs, ClaimP d c) (hlen : cs.length ≤ 200) (s : Aa.V) (ht : TermB s.2.2.2.2.2.1.1) :
    StepR d (AF d l cs s) (At (d, l, sd, cs, ()) s) := by
  obtain ⟨r, i, j, hi, lo, ⟨nodes, _⟩, _⟩ := s
  cases hf : Aw (r, i, j, hi, lo, (nodes, ()), ()) with
  | false =>
    refine .inl ⟨2, [], [], ([], [], ()), by decide, ?_, ?_⟩
    · unfold AF
      rw [I8, show Aw (r, i, j, hi, lo, (nodes, ()), ()) = false from hf]; rfl
    · unfold At
      rw [show Aw (r, i, j, hi, lo, (nodes, ()), ()) = false from hf]; rfl
  | true =>
    rcases PL hf with rfl | rfl | rfl | rfl | rfl | rfl
    · exact RQ hd hl hp hs hsd hf
    · exact T7 hd hlen ht hf
    · exact T4 hcs hlen hf
    · exact Sd hcs hlen hf
    · exact SI hd hcs hlen hf
    · exact Ti hd hcs hlen hf
end
theorem Qm {d : List Ae.V} {l : List Af.V} {ps : List Aa.V} (hl : ∀ x ∈ l, LitB x) (hps : ps.length ≤ 1048576) (ht : ∀ s ∈ ps, TermB s.2.2.2.2.2.1.1) : ∃ r, Ff d l ps = some r ∧ CP d l ps = some r ∧ (∀ c ∈ r.2.2, ClaimP d c) ∧ (r.2.2 = [] ∨ (DeclsP d ∧ r.2.2.length ≤ 1048576)) := by
  obtain ⟨a, ha, qa⟩ := Qd (d := d) hl
  obtain ⟨b, hb, qb⟩ := Qk (d := d) hl
  have : a = b := RP qa qb
  subst this
  unfold Ff CP F8 D4 Cj
  rw [ha, hb, Option.bind_some, Option.bind_some]
  cases a with
  | false =>
    simp only [Bool.not_false, cond_true, Option.bind_some]
    exact ⟨_, rfl, rfl, fun c hc => (by cases hc), .inl rfl⟩
  | true =>
    obtain ⟨hd, hp⟩ := qa.1 rfl
    have hlen := hp.1
    obtain ⟨x, hx, qx⟩ := OT hd hl hlen
    obtain ⟨y, hy, qy⟩ := Py hd hl hp
    rw [hx, hy]
    simp only [Bool.not_true, cond_false, Option.bind_some]
    by_cases hn : ps.length ≤ 200
    · rw [decide_eq_false (show ¬ (ps.length : Int) > 200 by omega), cond_false]
      rcases qy with ⟨y1, hs, y2⟩ | ⟨y1, hs⟩
      · rw [qx.2 hs, y1, y2]
        simp only [Bool.not_true, cond_false, Option.bind_some]
        have key : ∃ r, Ge d l ps 0 [] = some r ∧ D5 ps d l (ps.length : Int) ((List.range l.length).map (sideV d l)) 0 [] = some r ∧ match r with | .inl _ => True | .inr cs => (∀ c ∈ cs, ClaimP d c) ∧ cs.length = ps.length := by
          unfold Ge D5
          have : ∀ (m k : Nat) (cs : List Ah.V), m = ps.length - k → k ≤ ps.length → cs.length = k → (∀ c ∈ cs, ClaimP d c) → ∃ r, fix (Bi d l ps) ((k : Int), cs) = some r ∧ fix (AB ps d l (ps.length : Int) ((List.range l.length).map (sideV d l))) ((k : Int), cs) = some r ∧ match r with | .inl _ => True | .inr cs => (∀ c ∈ cs, ClaimP d c) ∧ cs.length = ps.length := by
            intro m
            induction m with
            | zero =>
              intro k cs hm hk hc hcs
              have : k = ps.length := by omega
              refine ⟨.inr cs, Fx ?_, Fx ?_, hcs, by omega⟩
              · unfold Bi CR
                simp only
                rw [this, dge, cond_false]
              · unfold AB AZ
                simp only
                rw [this, dge, cond_false]
            | succ m ih =>
              intro k cs hm hk hc hcs
              have hlt : k < ps.length := by omega
              have hst := YM (cs := cs) hd hl hp hs rfl hcs (by omega) (ps.getD k (Ty.zero Aa)) (ht _ (Ay hlt))
              rcases hst with ⟨code, L, R, c, h0, h1, h2⟩ | ⟨A, B, fa, fb, h1, h2⟩
              · refine ⟨.inl (code, (k : Int), cs), Fx ?_, Fx ?_, trivial⟩
                · unfold Bi CR
                  simp only
                  rw [dlt hlt, cond_true, if_pos (rng hlt), Int.toNat_natCast, h1, Option.bind_some]
                  simp only
                  rw [bne_iff_ne.2 h0, cond_true]
                · unfold AB AZ
                  simp only
                  rw [dlt hlt, cond_true, if_pos (rng hlt), Int.toNat_natCast, h2, Option.bind_some]
                  simp only
                  rw [bne_iff_ne.2 h0, cond_true]
              · obtain ⟨r, r1, r2, r3⟩ := ih (k + 1) (cs ++ [(fN A, fN B, ())]) (by omega) hlt (by simp [hc]) (fun c hc' => by
                  rcases List.mem_append.1 hc' with hc' | hc'
                  · exact hcs c hc'
                  · rw [List.mem_singleton] at hc'; exact ⟨A, B, fa, fb, hc'⟩)
                refine ⟨r, (G3 ?_).trans r1, (G3 ?_).trans r2, r3⟩
                · unfold Bi CR
                  simp only
                  rw [dlt hlt, cond_true, if_pos (rng hlt), Int.toNat_natCast, h1, Option.bind_some]
                  simp only [Int.reduceBNe, cond_false]
                  rw [if_pos (by show (cs.length + 1) * 48 ≤ _; omega), stepN hlt (by omega)]
                · unfold AB AZ Bx
                  simp only
                  rw [dlt hlt, cond_true, if_pos (rng hlt), Int.toNat_natCast, h2, Option.bind_some]
                  simp only [Int.reduceBNe, cond_false]
                  rw [GK (Fk fa.1), Option.bind_some, GK (Fk fb.1), Option.bind_some, if_pos (by show (cs.length + 1) * 48 ≤ _; omega), Option.bind_some, stepN hlt (by omega)]
          exact this ps.length 0 [] (by omega) (Nat.zero_le _) rfl (fun c hc => by cases hc)
        obtain ⟨r, r1, r2, r3⟩ := key
        rw [r1, r2, Option.bind_some]
        cases r with
        | inl e => exact ⟨_, rfl, rfl, fun c hc => (by cases hc), .inl rfl⟩
        | inr cs => exact ⟨_, rfl, rfl, r3.1, .inr ⟨hd, by show cs.length ≤ _; omega⟩⟩
      · have hx1 : x.1 = false := by
          cases h : x.1 with
          | true => exact absurd (qx.1 h) hs
          | false => rfl
        rw [y1, hx1]
        simp only [Bool.not_false, cond_true, Option.bind_some]
        exact ⟨_, rfl, rfl, fun c hc => (by cases hc), .inl rfl⟩
    · rw [decide_eq_true (show (ps.length : Int) > 200 by omega), cond_true]
      rcases qy with ⟨y1, hs, y2⟩ | ⟨y1, hs⟩
      · rw [y1]
        simp only [Bool.not_true, cond_true, cond_false, Option.bind_some]
        exact ⟨_, rfl, rfl, fun c hc => (by cases hc), .inl rfl⟩
      · rw [y1]
        simp only [Bool.not_false, cond_true, Option.bind_some]
        exact ⟨_, rfl, rfl, fun c hc => (by cases hc), .inl rfl⟩
end Go.Proofs.X
namespace Go.Va
theorem Aat {A B : Type} {F : A → Int → Option Int} {G : B → Int → Option Int} {x : A} {y : B} {m n : Nat} (hF : ∀ left : Int, 0 ≤ left → left ≤ 1048576 → F x left = some (if (m : Int) ≤ left then left - (m : Int) else -1)) (hG : ∀ left : Int, 0 ≤ left → left ≤ 1048576 → G y left = some (if (n : Int) ≤ left then left - (n : Int) else -1)) {left : Int} (h0 : 0 ≤ left) (h1 : left ≤ 1048576) :
    ((F x left).bind fun c => bif decide (c < 0) then some (-1) else (G y c).bind fun d => bif decide (d < 0) then some (-1) else some d) = some (if ((m + n : Nat) : Int) ≤ left then left - ((m + n : Nat) : Int) else -1) := by
  rw [hF left h0 h1, Option.bind_some]
  split
  · rw [decide_eq_false (by omega), cond_false, hG _ (by omega) (by omega), Option.bind_some]
    split
    · rw [decide_eq_false (by omega), cond_false, if_pos (by omega)]; congr 1; omega
    · rw [if_neg (by omega)]; rfl
  · rw [if_neg (by omega)]; rfl
theorem Xh {A : Type} {F : A → Int → Option Int} {x : A} {m : Nat} (hF : ∀ left : Int, 0 ≤ left → left ≤ 1048576 → F x left = some (if (m : Int) ≤ left then left - (m : Int) else -1)) {left : Int} (h0 : 0 ≤ left) (h1 : left ≤ 1048576) :
    ((F x left).bind fun c => bif decide (c < 0) then some (-1) else some c) = some (if (m : Int) ≤ left then left - (m : Int) else -1) := by
  rw [hF left h0 h1, Option.bind_some]
  split
  · rw [decide_eq_false (by omega), cond_false]
  · rfl
theorem Y1 {m : Nat} {left : Int} (h0 : 0 ≤ left) (h1 : left ≤ 1048576) (hn : m ≤ maxLen) : (bif decide ((IntKind.i64.wrap (left - (m : Int))) < 0) then (-1) else IntKind.i64.wrap (left - (m : Int))) = if (m : Int) ≤ left then left - (m : Int) else -1 := by
  unfold maxLen at hn
  rw [wrap64 (by omega) (by omega)]
  split
  · rw [show decide (left - (m : Int) < 0) = false by simp; omega]; rfl
  · rw [show decide (left - (m : Int) < 0) = true by simp; omega]; rfl
theorem Nk {A E : Type} {F : A → Option E} {mk : E → A} {z : A} {z0 : A} {r : Int × List A → Option ((Int × List A) ⊕ List A)} {a : List A}
    (hr : ∀ x, r x = bif decide (x.1 < (a.length : Int)) then (if (0 : Int) ≤ x.1 ∧ x.1 < (a.length : Int) then (F (a.getD x.1.toNat z)).bind fun e => (if (0 : Int) ≤ x.1 ∧ x.1 < (x.2.length : Int) then some (.inl (IntKind.i64.wrap (x.1 + 1), x.2.set x.1.toNat (mk e))) else none) else none) else some (.inr x.2))
    (hn : a.length ≤ 1048576) (hF : ∀ x ∈ a, ∃ e, F x = some e ∧ mk e = x) : fix r (0, List.replicate a.length z0) = some a := by
  have := BJ (f := r) (fun k => ((k : Int), Go.Proofs.X.fillN (fun i => a.getD i z) z0 a.length k)) (t := a) a.length (fun k hk => by
    rw [hr]
    simp only
    obtain ⟨e, he, hm⟩ := hF (a.getD k z) (by simp [List.getD, hk])
    rw [dlt hk, cond_true, if_pos (rng hk), Int.toNat_natCast, he, Option.bind_some, Go.Proofs.X.fillN_len, if_pos (rng hk), hm]
    rw [show IntKind.i64.wrap ((k : Int) + 1) = ((k + 1 : Nat) : Int) from Go.Proofs.X.stepN hk hn, Go.Proofs.X.fillN_set (fun i => a.getD i z) z0]) (by
    rw [hr]
    simp only
    rw [dge, cond_false, Go.Proofs.X.fillN_full])
  have h : fix r (((0 : Nat) : Int), Go.Proofs.X.fillN (fun i => a.getD i z) z0 a.length 0) = some a := this
  rw [Go.Proofs.X.fillN_zero] at h
  exact h
end Go.Va
namespace Go.Proofs.X
open Go Go.Va
set_option maxRecDepth 100000
theorem Sw {a : Ae.V} (h : Ty.Wf Ae a) : SzOk Ae (fun x l => some (DL x l)) a := fun left h0 h1 => by
  show some (DL a left) = _
  unfold DL
  rw [Y1 h0 h1 h.1]
  rfl
theorem RU {a : List Ae.V} (h : Ty.Wf (.sl Ae) a) : SzOk (.sl Ae) Ii a :=
  Rt (z := Ty.zero Ae) (r := Fi) (fun _ _ => rfl) (fun _ _ => rfl) h.1 fun x hx => Sw (h.2 x hx)
theorem Ur {a : Aj.V} (h : Ty.Wf Aj a) : SzOk Aj (fun x l => some (Ba x l)) a := fun left h0 h1 => by
  have hu := Pl h.2.1.1 left h0 h1
  have e : wt Aj a = wt (.sl (.int .u64)) a.2.1 := by show 0 + (_ + 0) = _; omega
  show some (Ba a left) = _
  unfold Ba
  rw [e]
  have hu' : AS a.2.1 left = _ := Option.some.inj hu
  rw [hu']
  congr 1
  split
  · rw [decide_eq_false (by omega), cond_false]
  · rfl
theorem Si {a : Ad.V} (h : Ty.Wf Ad a) : SzOk Ad (fun x l => some (CI x l)) a := fun left h0 h1 => by
  have hb := Ur h.2.2.2.2.1 left h0 h1
  have hb' : Ba a.2.2.2.2.1 left = _ := Option.some.inj hb
  have hi : ∀ l : Int, 0 ≤ l → l ≤ 1048576 → A6 a.2.2.2.2.2.1 l = _ := fun l h0 h1 => Option.some.inj (QC h.2.2.2.2.2.1.1 l h0 h1)
  have e : wt Ad a = wt Aj a.2.2.2.2.1 + wt (.sl (.int .i64)) a.2.2.2.2.2.1 := by show 0 + (0 + (0 + (0 + (_ + (_ + 0))))) = _; omega
  show some (CI a left) = _
  unfold CI
  rw [hb', e]
  congr 1
  generalize wt Aj a.2.2.2.2.1 = m at *
  by_cases hm : (m : Int) ≤ left
  · rw [if_pos hm, decide_eq_false (by omega), cond_false, hi _ (by omega) (by omega)]
    generalize wt (.sl (.int .i64)) a.2.2.2.2.2.1 = n at *
    by_cases hn : (n : Int) ≤ left - (m : Int)
    · rw [if_pos hn, decide_eq_false (by omega), cond_false, if_pos (by omega)]; omega
    · rw [if_neg hn, if_neg (by omega)]; rfl
  · rw [if_neg hm, if_neg (by omega)]; rfl
theorem QL {a : List Ad.V} (h : Ty.Wf (.sl Ad) a) : SzOk (.sl Ad) FA a :=
  Rt (z := Ty.zero Ad) (r := Eu) (fun _ _ => rfl) (fun _ _ => rfl) h.1 fun x hx => Si (h.2 x hx)
theorem My {a : Ai.V} (h : Ty.Wf Ai a) : SzOk Ai C5 a := fun left h0 h1 =>
  Xh (F := FA) (x := a.1) (QL h.1) h0 h1
theorem Pf {a : Af.V} (h : Ty.Wf Af a) : SzOk Af F0 a := fun left h0 h1 => by
  have e : wt Af a = wt Ai a.2.2.1 + wt Ai a.2.2.2.1 := by show 0 + (0 + (_ + (_ + 0))) = _; omega
  rw [e]
  exact Aat (F := C5) (G := C5) (My h.2.2.1) (My h.2.2.2.1) h0 h1
theorem NM {a : List Af.V} (h : Ty.Wf (.sl Af) a) : SzOk (.sl Af) Fa a :=
  Rt (z := Ty.zero Af) (r := Dk) (fun _ _ => rfl) (fun _ _ => rfl) h.1 fun x hx => Pf (h.2 x hx)
theorem So {a : Aa.V} (h : Ty.Wf Aa a) : SzOk Aa Ih a := fun left h0 h1 => by
  have e : wt Aa a = wt Ai a.2.2.2.2.2.1 := by show 0 + (0 + (0 + (0 + (0 + (_ + 0))))) = _; omega
  rw [e]
  exact Xh (F := C5) (My h.2.2.2.2.2.1) h0 h1
theorem PN {a : List Aa.V} (h : Ty.Wf (.sl Aa) a) : SzOk (.sl Aa) G9 a :=
  Rt (z := Ty.zero Aa) (r := EC) (fun _ _ => rfl) (fun _ _ => rfl) h.1 fun x hx => So (h.2 x hx)
theorem OR {t : Ty} (a : List t.V) : a.length ≤ wt (.sl t) a := Nat.le_add_right _ _
theorem RO {t : Ty} {a : List t.V} {x : t.V} (h : x ∈ a) : wt t x ≤ wt (.sl t) a := by
  show _ ≤ a.length + (a.map (wt t)).sum
  have : ∀ l : List t.V, x ∈ l → wt t x ≤ (l.map (wt t)).sum := fun l hl => by
    induction l with
    | nil => cases hl
    | cons y l ih =>
      simp only [List.map_cons, List.sum_cons]
      rcases List.mem_cons.1 hl with rfl | hl
      · omega
      · have := ih hl; omega
  have := this a h; omega
theorem Abc {n : Ad.V} (hw : Ty.Wf Ad n) (h : wt Ad n ≤ 1048576) : NodeB n := by
  have e : wt Ad n = wt (.sl (.int .u64)) (nWs n) + wt (.sl (.int .i64)) (nKids n) := by show 0 + (0 + (0 + (0 + ((0 + (_ + 0)) + (_ + 0))))) = _; unfold nWs nKids; omega
  rw [e, T5, Uk] at h
  exact ⟨by omega, by omega, VE hw.2.2.2.2.1.2.1.2⟩
theorem Sz {t : Ai.V} (hw : Ty.Wf Ai t) (h : wt Ai t ≤ 1048576) : TermB t.1 := by
  have e : wt Ai t = wt (.sl Ad) t.1 := rfl
  rw [e] at h
  exact ⟨Nat.le_trans (OR t.1) h, fun n hn => Abc (hw.1.2 n hn) (Nat.le_trans (RO hn) h)⟩
theorem Afo {x : Af.V} (hw : Ty.Wf Af x) (h : wt Af x ≤ 1048576) : LitB x := by
  have e : wt Af x = wt Ai x.2.2.1 + wt Ai x.2.2.2.1 := by show 0 + (0 + (_ + (_ + 0))) = _; omega
  rw [e] at h
  exact ⟨Sz hw.2.2.1 (by omega), Sz hw.2.2.2.1 (by omega)⟩
theorem XA {x : Aa.V} (hw : Ty.Wf Aa x) (h : wt Aa x ≤ 1048576) : TermB x.2.2.2.2.2.1.1 := by
  have e : wt Aa x = wt Ai x.2.2.2.2.2.1 := by show 0 + (0 + (0 + (0 + (0 + (_ + 0))))) = _; omega
  rw [e] at h
  exact Sz hw.2.2.2.2.2.1 h
theorem RT {a : List Ae.V} (h : a.length ≤ 1048576) : CS a = some a := by
  unfold CS IP
  rw [if_pos ⟨rfl, by omega, by omega, by omega, by omega⟩, Int.toNat_natCast, Nk (r := FH a) (F := fun x => some (HQ x)) (mk := fun e => (e.1, e.2, ())) (z := Ty.zero Ae) (fun _ => rfl) h (fun x _ => ⟨_, rfl, rfl⟩)]
  rfl
theorem PE {a : List Int} (h : a.length ≤ 1048576) : C6 a = some a := by
  unfold C6 HM
  rw [if_pos ⟨rfl, by omega, by omega, by omega, by omega⟩, Int.toNat_natCast, Nk (r := DO a) (F := fun x => some x) (mk := fun e => e) (z := Ty.zero (.int .u64)) (fun _ => rfl) h (fun x _ => ⟨_, rfl, rfl⟩)]
  rfl
theorem Ql {a : List Int} (h : a.length ≤ 1048576) : DI a = some a := by
  unfold DI Iu
  rw [if_pos ⟨rfl, by omega, by omega, by omega, by omega⟩, Int.toNat_natCast, Nk (r := El a) (F := fun x => some x) (mk := fun e => e) (z := Ty.zero (.int .i64)) (fun _ => rfl) h (fun x _ => ⟨_, rfl, rfl⟩)]
  rfl
theorem Qe {a : List Ad.V} (h : TermB a) : FB a = some a := by
  unfold FB Iw
  have hl := h.1
  rw [if_pos ⟨rfl, by omega, by omega, by omega, by omega⟩, Int.toNat_natCast, Nk (r := Em a) (F := GL) (mk := fun e => (e.1, e.2.1, e.2.2.1, e.2.2.2.1, (e.2.2.2.2.1, e.2.2.2.2.2.1, ()), e.2.2.2.2.2.2, ())) (z := Ty.zero Ad) (fun _ => rfl) hl (fun x hx => by
    have hn := h.2 x hx
    unfold GL I2
    rw [show C6 x.2.2.2.2.1.2.1 = some x.2.2.2.2.1.2.1 from PE hn.2.1, Option.bind_some, Option.bind_some, show DI x.2.2.2.2.2.1 = some x.2.2.2.2.2.1 from Ql hn.1]
    exact ⟨_, rfl, rfl⟩)]
  rfl
theorem Mw {t : Ai.V} (h : TermB t.1) : ET t = some t.1 := by
  unfold ET
  rw [Qe h]; rfl
theorem N9 {a : List Af.V} (hl : a.length ≤ 1048576) (h : ∀ x ∈ a, LitB x) : Bl a = some a := by
  unfold Bl Hl
  rw [if_pos ⟨rfl, by omega, by omega, by omega, by omega⟩, Int.toNat_natCast, Nk (r := Dc a) (F := Eh) (mk := fun e => (e.1, e.2.1, (e.2.2.1, ()), (e.2.2.2, ()), ())) (z := Ty.zero Af) (fun _ => rfl) hl (fun x hx => by
    unfold Eh
    rw [Mw (h x hx).1, Option.bind_some, Mw (h x hx).2]
    exact ⟨_, rfl, rfl⟩)]
  rfl
theorem Qw {a : List Aa.V} (hl : a.length ≤ 1048576) (h : ∀ x ∈ a, TermB x.2.2.2.2.2.1.1) : B9 a = some a := by
  unfold B9 Iy
  rw [if_pos ⟨rfl, by omega, by omega, by omega, by omega⟩, Int.toNat_natCast, Nk (r := EG a) (F := GO) (mk := fun e => (e.1, e.2.1, e.2.2.1, e.2.2.2.1, e.2.2.2.2.1, (e.2.2.2.2.2, ()), ())) (z := Ty.zero Aa) (fun _ => rfl) hl (fun x hx => by
    unfold GO
    rw [Mw (h x hx)]
    exact ⟨_, rfl, rfl⟩)]
  rfl
end Go.Proofs.X
namespace Go.Va
def Ch {A : Type} (H : Int → A → Int → Prop) : List A → Int → Int → Prop
  | [], k, k' => k = k'
  | x :: xs, k, k' => ∃ m, H k x m ∧ Ch H xs m k'
section
variable {A : Type} {H : Int → A → Int → Prop}
theorem T2 {x : A} : ∀ {l : List A} {k k' m : Int}, Ch H l k m → H m x k' → Ch H (l ++ [x]) k k'
  | [], _, _, _, h1, h2 => by cases h1; exact ⟨_, h2, rfl⟩
  | _ :: _, _, _, _, ⟨n, h0, h1⟩, h2 => ⟨n, h0, T2 h1 h2⟩
theorem LP (hH : ∀ b x b', H b x b' → b ≤ b') : ∀ {l : List A} {k k' : Int}, Ch H l k k' → k ≤ k'
  | [], _, _, h => by cases h; omega
  | _ :: _, _, _, ⟨_, h0, h1⟩ => by have := hH _ _ _ h0; have := LP hH h1; omega
theorem gsS {d : List A} {i : Nat} {x z : A} (h : i < d.length) : (d.set i x).getD i z = x := by simp [List.getD, h]
theorem NN {cost : A → Nat} {a : List A} {z : A} {i : Nat} (h : i < a.length) : ((a.take (i + 1)).map cost).sum = ((a.take i).map cost).sum + cost (a.getD i z) := by
  rw [List.take_succ_eq_append_getElem h, List.map_append, List.sum_append]
  simp [List.getD, h]
theorem PR {cost : A → Nat} {a : List A} {i : Nat} : ((a.take i).map cost).sum ≤ (a.map cost).sum := by
  conv => rhs; rw [← List.take_append_drop i a, List.map_append, List.sum_append]
  omega
theorem MZ {c : Nat} (l : List A) : (l.map fun _ => c).sum = c * l.length := by
  induction l with
  | nil => rfl
  | cons x l ih => rw [List.map_cons, List.sum_cons, ih, List.length_cons, Nat.mul_succ]; omega
theorem J3 {f : Int × Int × List A → Option ((Int × Int × List A) ⊕ (Int × List A))} {cost : A → Nat} {z : A} {a : List A} {k : Int} (M : Int)
    (hs : ∀ b i (d : List A), i < a.length → d.length = a.length → d.getD i z = a.getD i z → 0 ≤ b → b + (cost (a.getD i z) : Int) ≤ M →
      Ret (f (b, (i : Int), d)) fun r => ∃ b' x', r = .inl (b', ((i + 1 : Nat) : Int), d.set i x') ∧ b ≤ b' ∧ b' ≤ b + (cost (a.getD i z) : Int) ∧ H b x' b')
    (he : ∀ b (d : List A), d.length = a.length → f (b, (a.length : Int), d) = some (.inr (b, d))) (h0 : 0 ≤ k) (hM : k + (((a.map cost).sum : Nat) : Int) ≤ M) :
    Ret (fix f (k, 0, a)) fun r => k ≤ r.1 ∧ r.1 ≤ k + (((a.map cost).sum : Nat) : Int) ∧ r.2.length = a.length ∧ Ch H r.2 k r.1 := by
  refine Gc (fun m (x : Int × Int × List A) => ∃ i : Nat, i ≤ a.length ∧ m = a.length - i ∧ x.2.1 = (i : Int) ∧ x.2.2.length = a.length ∧ Ch H (x.2.2.take i) k x.1 ∧ (∀ j, i ≤ j → x.2.2.getD j z = a.getD j z) ∧ k ≤ x.1 ∧ x.1 ≤ k + ((((a.take i).map cost).sum : Nat) : Int)) (fun m x hI => ?_) a.length _ ⟨0, Nat.zero_le _, rfl, rfl, rfl, by simp [Ch], fun _ _ => rfl, by simp, by simp⟩
  obtain ⟨b, c, d⟩ := x
  obtain ⟨i, hi, rfl, h1, h2, h3, h4, h5, h6⟩ := hI
  simp only at h1 h2 h3 h4 h5 h6
  subst h1
  rcases Nat.lt_or_ge i a.length with h | h
  · have hsum := NN (cost := cost) (z := z) h
    have hle := PR (cost := cost) (a := a) (i := i + 1)
    refine (hs b i d h h2 (h4 i (Nat.le_refl _)) (by omega) (by omega)).mono fun r hr => ?_
    obtain ⟨b', x', rfl, hb1, hb2, hH⟩ := hr
    refine ⟨a.length - (i + 1), by omega, i + 1, h, rfl, rfl, by rw [List.length_set]; exact h2, ?_, fun j hj => ?_, by show k ≤ b'; omega, by show b' ≤ _; omega⟩
    · show Ch H ((d.set i x').take (i + 1)) k b'
      rw [List.take_succ_eq_append_getElem (by rw [List.length_set]; omega), List.take_set_of_le (Nat.le_refl _)]
      simp only [List.getElem_set_self]
      exact T2 h3 hH
    · show (d.set i x').getD j z = _
      rw [← h4 j (by omega)]
      simp only [List.getD, List.getElem?_set, show ¬ i = j by omega, if_false]
  · have : i = a.length := by omega
    subst this
    rw [he b d h2]
    rw [List.take_of_length_le (by omega)] at h3
    rw [List.take_of_length_le (Nat.le_refl _)] at h6
    exact Ret.mk ⟨h5, h6, h2, h3⟩
theorem Lx {f : Int × Int → Option ((Int × Int) ⊕ (Int ⊕ Int))} {z : A} {a : List A} (hs : ∀ i b b', i < a.length → H b (a.getD i z) b' → f (b, (i : Int)) = some (.inl (b', ((i + 1 : Nat) : Int)))) (he : ∀ b, f (b, (a.length : Int)) = some (.inr (.inr b))) {k k' : Int} (h : Ch H a k k') : fix f (k, 0) = some (.inr k') := by
  have : ∀ (l : List A) (i : Nat) (b : Int), a.drop i = l → i + l.length = a.length → Ch H l b k' → fix f (b, (i : Int)) = some (.inr k') := fun l => by
    induction l with
    | nil =>
      intro i b h1 h2 h3
      have h3 : b = k' := h3
      subst h3
      have : i = a.length := by simpa using h2
      rw [this]
      exact Fx (he b)
    | cons x l ih =>
      intro i b h1 h2 h3
      obtain ⟨m, h3, h4⟩ := h3
      simp only [List.length_cons] at h2
      have hi : i < a.length := by omega
      rw [List.drop_eq_getElem_cons hi] at h1
      injection h1 with h1 h5
      have hx : a.getD i z = x := by rw [← h1]; simp [List.getD, hi]
      rw [G3 (hs i b m hi (by rw [hx]; exact h3))]
      exact ih (i + 1) m h5 (by omega) h4
  exact this a 0 k rfl (by simp) h
end
end Go.Va
namespace Go.Proofs.X
open Go Go.Va
set_option maxRecDepth 100000
theorem w1 {b : Int} (h0 : 0 ≤ b) (h1 : b ≤ 2305843009213693952) : IntKind.i64.wrap (b + 1) = b + 1 := wrap64 (by omega) (by omega)
def Hu (b x b' : Int) : Prop := x = IntKind.u64.wrap b ∧ b' = b + 1 ∧ 0 ≤ b ∧ b' ≤ 2305843009213693952
theorem T9 {b x b' : Int} (h : Hu b x b') : b ≤ b' := by have := h.2.1; omega
def Hi (b x b' : Int) : Prop := x = b ∧ b' = b + 1 ∧ 0 ≤ b ∧ b' ≤ 2305843009213693952
def Hn (b : Int) (n : Ad.V) (b' : Int) : Prop := 0 ≤ b ∧ b + 5 ≤ 2305843009213693952 ∧ n.1 = b ∧ n.2.1 = b + 1 ∧ n.2.2.1 = b + 2 ∧ n.2.2.2.1 = b + 3 ∧ n.2.2.2.2.1.1 = b + 4 ∧ (nWs n).length ≤ 1048576 ∧ (nKids n).length ≤ 1048576 ∧ ∃ m, Ch Hu (nWs n) (b + 5) m ∧ Ch Hi (nKids n) m b'
def Hp (b : Int) (s : Aa.V) (b' : Int) : Prop := 0 ≤ b ∧ b + 5 ≤ 2305843009213693952 ∧ s.1 = b ∧ s.2.1 = b + 1 ∧ s.2.2.1 = b + 2 ∧ s.2.2.2.1 = b + 3 ∧ s.2.2.2.2.1 = b + 4 ∧ s.2.2.2.2.2.1.1.length ≤ 1048576 ∧ Ch Hn s.2.2.2.2.2.1.1 (b + 5) b'
theorem Uh {b x b' : Int} (h : Hi b x b') : b ≤ b' := by have := h.2.1; omega
theorem XI {b : Int} {n : Ad.V} {b' : Int} (h : Hn b n b') : b ≤ b' := by
  obtain ⟨_, _, _, _, _, _, _, _, _, m, h1, h2⟩ := h
  have := LP (fun _ _ _ => T9) h1
  have := LP (fun _ _ _ => Uh) h2
  omega
def MarkR {A : Type} (H : Int → A → Int → Prop) (a : List A) (n : Nat) (k : Int) (r : Int × List A) : Prop := k ≤ r.1 ∧ r.1 ≤ k + (n : Int) ∧ r.2.length = a.length ∧ Ch H r.2 k r.1
theorem M2 {a : List Int} (hn : a.length ≤ 1048576) {k : Int} (h0 : 0 ≤ k) (hk : k + (a.length : Int) ≤ 2305843009213693952) : Ret (CF k a) (MarkR Hu a a.length k) := by
  unfold CF GH
  have hc : (a.map fun _ => 1).sum = a.length := by rw [MZ]; omega
  have := J3 (f := Be) (cost := fun _ => 1) (z := (0 : Int)) (a := a) (H := Hu) (k := k) 2305843009213693952 (fun b i d hi hd hg hb0 hb => by
    unfold Be CL
    try simp only
    try simp only at hb
    rw [hd, dlt hi, cond_true, if_pos (rng hi), Int.toNat_natCast, w1 hb0 (by omega), stepN hi hn]
    exact Ret.mk ⟨b + 1, _, rfl, by omega, by omega, rfl, rfl, hb0, by omega⟩) (fun b d hd => by
    unfold Be CL
    try simp only
    rw [hd, dge, cond_false]) h0 (by rw [hc]; exact hk)
  rw [hc] at this
  exact this.bind fun r hr => Ret.mk hr
theorem M5 {a : List Int} (hn : a.length ≤ 1048576) {k k' : Int} (h : Ch Hu a k k') : BZ a k = some k' := by
  unfold BZ GF
  rw [Lx (f := Bb a) (z := (0 : Int)) (H := Hu) (fun i b b' hi hH => by
    unfold Bb C2
    try simp only
    obtain ⟨h1, h2, h3, h4⟩ := hH
    rw [dlt hi, cond_true, if_pos (rng hi), Int.toNat_natCast, show (Ty.zero (.int .u64) : Int) = 0 from rfl, h1, bne_self_eq_false, cond_false, w1 h3 (by omega), stepN hi hn, h2]) (fun b => by
    unfold Bb C2
    try simp only
    rw [dge, cond_false]) h]
  rfl
theorem N1 {a : List Int} (hn : a.length ≤ 1048576) {k : Int} (h0 : 0 ≤ k) (hk : k + (a.length : Int) ≤ 2305843009213693952) : Ret (Dr k a) (MarkR Hi a a.length k) := by
  unfold Dr GY
  have hc : (a.map fun _ => 1).sum = a.length := by rw [MZ]; omega
  have := J3 (f := Bn) (cost := fun _ => 1) (z := (0 : Int)) (a := a) (H := Hi) (k := k) 2305843009213693952 (fun b i d hi hd hg hb0 hb => by
    unfold Bn Dd
    try simp only
    try simp only at hb
    rw [hd, dlt hi, cond_true, if_pos (rng hi), Int.toNat_natCast, w1 hb0 (by omega), stepN hi hn]
    exact Ret.mk ⟨b + 1, _, rfl, by omega, by omega, rfl, rfl, hb0, by omega⟩) (fun b d hd => by
    unfold Bn Dd
    try simp only
    rw [hd, dge, cond_false]) h0 (by rw [hc]; exact hk)
  rw [hc] at this
  exact this.bind fun r hr => Ret.mk hr
theorem Oh {a : List Int} (hn : a.length ≤ 1048576) {k k' : Int} (h : Ch Hi a k k') : Cy a k = some k' := by
  unfold Cy Hm
  rw [Lx (f := Bs a) (z := (0 : Int)) (H := Hi) (fun i b b' hi hH => by
    unfold Bs Db
    try simp only
    obtain ⟨h1, h2, h3, h4⟩ := hH
    rw [dlt hi, cond_true, if_pos (rng hi), Int.toNat_natCast, show (Ty.zero (.int .i64) : Int) = 0 from rfl, h1, bne_self_eq_false, cond_false, w1 h3 (by omega), stepN hi hn, h2]) (fun b => by
    unfold Bs Db
    try simp only
    rw [dge, cond_false]) h]
  rfl
theorem PP (k : Int) (h1 : k ≤ 2305843009213693952) : Ret (Fu k) fun _ => True := by
  unfold Fu
  refine Ret.cond (fun _ => Ret.mk trivial) fun h => ?_
  have hk : 0 < k := by simpa using h
  refine Ret.bind (P := fun s => s.size ≤ 100) ?_ fun s hs => ?_
  · unfold IA
    refine Gc (fun m (x : Int × ByteArray) => ∃ j n : Nat, j ≤ 70 ∧ m = 70 - j ∧ x.1 = (n : Int) ∧ n * 2 ^ j ≤ 2 ^ 62 ∧ x.2.size = j) (fun m x hI => ?_) 70 _ ⟨0, k.toNat, by omega, rfl, by show k = _; omega, by rw [Nat.pow_zero]; omega, rfl⟩
    obtain ⟨b, c⟩ := x
    obtain ⟨j, n, hj, rfl, hb0, hb1, hc⟩ := hI
    simp only at hb0 hb1 hc
    subst hb0
    unfold Er GQ
    simp only
    refine Ret.cond (fun hb => ?_) fun _ => Ret.mk (by show c.size ≤ 100; omega)
    have hb : (n : Int) > 0 := of_decide_eq_true hb
    have hp : 1 ≤ 2 ^ j := Nat.one_le_two_pow
    have hbig : n * 1 ≤ n * 2 ^ j := Nat.mul_le_mul_left _ hp
    have hj2 : j ≤ 62 := by
      rcases Nat.lt_or_ge 62 j with h | h
      · exfalso
        have h2 : 2 ^ 63 ≤ 2 ^ j := Nat.pow_le_pow_right (by omega) (by omega)
        have h3 : 1 * 2 ^ j ≤ n * 2 ^ j := Nat.mul_le_mul_right _ (by omega)
        omega
      · exact h
    rw [if_pos (by show (1 : Nat) + c.size ≤ _; omega)]
    have hd : Int.tdiv (n : Int) 10 = ((n / 10 : Nat) : Int) := rfl
    rw [hd, wrap64 (by omega) (by omega)]
    refine Ret.mk ⟨70 - (j + 1), by omega, j + 1, n / 10, by omega, rfl, rfl, ?_, ?_⟩
    · have h4 : n / 10 * 2 ≤ n := by omega
      have h5 := Nat.mul_le_mul_right (2 ^ j) h4
      rw [Nat.pow_succ, Nat.mul_comm (2 ^ j) 2, ← Nat.mul_assoc]
      omega
    · show (bytesOf [_] ++ c).size = j + 1
      rw [ByteArray.size_append, hc]
      show 1 + j = _; omega
  · rw [if_pos (by show (1 : Nat) + s.size ≤ _; omega)]
    exact Ret.mk trivial
theorem PJ {a : List Ae.V} (hn : a.length ≤ 1048576) {k : Int} (h0 : 0 ≤ k) (hk : k + ((2 * a.length : Nat) : Int) ≤ 2305843009213693952) : Ret (Ei k a) (MarkR (fun _ _ _ => True) a (2 * a.length) k) := by
  unfold Ei HH
  have hc : (a.map fun _ => 2).sum = 2 * a.length := MZ a
  have := J3 (f := BD) (cost := fun _ => 2) (z := Ty.zero Ae) (a := a) (H := fun _ _ _ => True) (k := k) 2305843009213693952 (fun b i d hi hd hg hb0 hb => by
    unfold BD DP
    try simp only
    try simp only at hb
    rw [hd, dlt hi, cond_true]
    refine (PP b (by omega)).bind fun s _ => ?_
    have hid : i < d.length := by omega
    simp only [List.length_set, hd, Int.toNat_natCast, gsS hid, List.set_set]
    rw [if_pos (rng hi), if_pos (rng hi), w1 hb0 (by omega), w1 (by omega) (by omega), stepN hi hn]
    exact Ret.mk ⟨b + 1 + 1, _, rfl, by omega, by omega, trivial⟩) (fun b d hd => by
    unfold BD DP
    try simp only
    rw [hd, dge, cond_false]) h0 (by rw [hc]; exact hk)
  rw [hc] at this
  exact this.bind fun r hr => Ret.mk hr
def costN (n : Ad.V) : Nat := 5 + (nWs n).length + (nKids n).length
theorem Ki {a : List Ad.V} (hn : TermB a) {k : Int} (h0 : 0 ≤ k) (hk : k + (((a.map costN).sum : Nat) : Int) ≤ 2305843009213693952) : Ret (BT k a) (MarkR Hn a (a.map costN).sum k) := by
  unfold BT Hd
  have hl := hn.1
  have := J3 (f := Bo) (cost := costN) (z := Ty.zero Ad) (a := a) (H := Hn) (k := k) 2305843009213693952 (fun b i d hi hd hg hb0 hb => by
    unfold Bo Di Es En Ew
    simp only
    have hid : i < d.length := by omega
    have hnb : NodeB (a.getD i (Ty.zero Ad)) := hn.2 _ (Ay hi)
    unfold costN at hb
    rw [hd, dlt hi, cond_true]
    simp (disch := omega) only [w1, List.length_set, hd, Int.toNat_natCast, gsS hid, List.set_set, if_pos (rng hi), Option.bind_some, Option.bind_assoc]
    rw [hg]
    refine (M2 (a := nWs (a.getD i (Ty.zero Ad))) hnb.2.1 (by omega) (by omega)).bind fun r hr => ?_
    obtain ⟨r1, r2, r3, r4⟩ := hr
    refine (N1 (a := nKids (a.getD i (Ty.zero Ad))) hnb.1 (by omega) (by omega)).bind fun q hq => ?_
    obtain ⟨q1, q2, q3, q4⟩ := hq
    have n1 := hnb.1
    have n2 := hnb.2.1
    refine Ret.mk ⟨q.1, _, rfl, by omega, by unfold costN; omega, hb0, by omega, rfl, rfl, ?_, ?_, ?_, ?_, ?_, r.1, ?_, q4⟩
    · show b + 1 + 1 = b + 2; omega
    · show b + 1 + 1 + 1 = b + 3; omega
    · show b + 1 + 1 + 1 + 1 = b + 4; omega
    · show r.2.length ≤ _; rw [r3]; exact n2
    · show q.2.length ≤ _; rw [q3]; exact n1
    · rw [show b + 5 = b + 1 + 1 + 1 + 1 + 1 by omega]; exact r4) (fun b d hd => by
    unfold Bo Di
    try simp only
    rw [hd, dge, cond_false]) h0 hk
  exact this.bind fun r hr => Ret.mk hr
theorem NZ {a : List Ad.V} (hn : a.length ≤ 1048576) {k k' : Int} (h : Ch Hn a k k') : Dp a k = some k' := by
  unfold Dp G8
  rw [Lx (f := Bu a) (z := Ty.zero Ad) (H := Hn) (fun i b b' hi hH => by
    unfold Bu Do
    try simp only
    obtain ⟨h1, h2, h3, h4, h5, h6, h7, h8, h9, m, hA, hB⟩ := hH
    have m1 := LP (fun _ _ _ => T9) hA
    have m2 := LP (fun _ _ _ => Uh) hB
    rw [dlt hi, cond_true]
    simp (disch := omega) only [w1, if_pos (rng hi), Int.toNat_natCast, h3, h4, bne_self_eq_false, cond_false]
    rw [show b + 1 + 1 = b + 2 by omega, h5, show b + 2 + 1 = b + 3 by omega, h6, show b + 3 + 1 = b + 4 by omega, h7, show b + 4 + 1 = b + 5 by omega]
    simp only [bne_self_eq_false, cond_false]
    rw [show BZ (a.getD i (Ty.zero Ad)).2.2.2.2.1.2.1 (b + 5) = some m from M5 h8 hA, Option.bind_some, decide_eq_false (by omega), cond_false, show Cy (a.getD i (Ty.zero Ad)).2.2.2.2.2.1 m = some b' from Oh h9 hB, Option.bind_some, decide_eq_false (by omega), cond_false]
    rfl) (fun b => by
    unfold Bu Do
    try simp only
    rw [dge, cond_false]) h]
  rfl
def costT (t : List Ad.V) : Nat := (t.map costN).sum
def costL (x : Af.V) : Nat := 2 + costT x.2.2.1.1 + costT x.2.2.2.1.1
theorem M0 {a : List Af.V} (hl : a.length ≤ 1048576) (hn : ∀ x ∈ a, LitB x) {k : Int} (h0 : 0 ≤ k) (hk : k + (((a.map costL).sum : Nat) : Int) ≤ 2305843009213693952) : Ret (Cp k a) (MarkR (fun _ _ _ => True) a (a.map costL).sum k) := by
  unfold Cp FO
  have := J3 (f := A2) (cost := costL) (z := Ty.zero Af) (a := a) (H := fun _ _ _ => True) (k := k) 2305843009213693952 (fun b i d hi hd hg hb0 hb => by
    unfold A2 CA Dm Dl Dn
    simp only
    have hid : i < d.length := by omega
    have hnb : LitB (a.getD i (Ty.zero Af)) := hn _ (Ay hi)
    unfold costL costT at hb
    rw [hd, dlt hi, cond_true]
    simp (disch := omega) only [w1, List.length_set, hd, Int.toNat_natCast, gsS hid, List.set_set, if_pos (rng hi), Option.bind_some, Option.bind_assoc]
    rw [hg]
    refine (Ki (a := (a.getD i (Ty.zero Af)).2.2.1.1) hnb.1 (by omega) (by omega)).bind fun r hr => ?_
    obtain ⟨r1, r2, _, _⟩ := hr
    refine (Ki (a := (a.getD i (Ty.zero Af)).2.2.2.1.1) hnb.2 (by omega) (by omega)).bind fun q hq => ?_
    obtain ⟨q1, q2, _, _⟩ := hq
    exact Ret.mk ⟨q.1, _, rfl, by omega, by unfold costL costT; omega, trivial⟩) (fun b d hd => by
    unfold A2 CA
    try simp only
    rw [hd, dge, cond_false]) h0 hk
  exact this.bind fun r hr => Ret.mk hr
def costP (x : Aa.V) : Nat := 5 + costT x.2.2.2.2.2.1.1
theorem La {a : List Aa.V} (hl : a.length ≤ 1048576) (hn : ∀ x ∈ a, TermB x.2.2.2.2.2.1.1) {k : Int} (h0 : 0 ≤ k) (hk : k + (((a.map costP).sum : Nat) : Int) ≤ 2305843009213693952) : Ret (Ct k a) (MarkR Hp a (a.map costP).sum k) := by
  unfold Ct Hx
  have := J3 (f := Bq) (cost := costP) (z := Ty.zero Aa) (a := a) (H := Hp) (k := k) 2305843009213693952 (fun b i d hi hd hg hb0 hb => by
    unfold Bq Da EE Eo Ez EK
    simp only
    have hid : i < d.length := by omega
    have hnb := hn _ (Ay (z := Ty.zero Aa) hi)
    unfold costP costT at hb
    rw [hd, dlt hi, cond_true]
    simp (disch := omega) only [w1, List.length_set, hd, Int.toNat_natCast, gsS hid, List.set_set, if_pos (rng hi), Option.bind_some, Option.bind_assoc]
    rw [hg]
    refine (Ki (a := (a.getD i (Ty.zero Aa)).2.2.2.2.2.1.1) hnb (by omega) (by omega)).bind fun r hr => ?_
    obtain ⟨r1, r2, r3, r4⟩ := hr
    have n1 := hnb.1
    refine Ret.mk ⟨r.1, _, rfl, by omega, by unfold costP costT; omega, hb0, by omega, rfl, rfl, ?_, ?_, ?_, ?_, ?_⟩
    · show b + 1 + 1 = b + 2; omega
    · show b + 1 + 1 + 1 = b + 3; omega
    · show b + 1 + 1 + 1 + 1 = b + 4; omega
    · show r.2.length ≤ _; rw [r3]; exact n1
    · rw [show b + 5 = b + 1 + 1 + 1 + 1 + 1 by omega]; exact r4) (fun b d hd => by
    unfold Bq Da
    try simp only
    rw [hd, dge, cond_false]) h0 hk
  exact this.bind fun r hr => Ret.mk hr
theorem Oc {a : List Aa.V} (hn : a.length ≤ 1048576) {k k' : Int} (h : Ch Hp a k k') : Cz a k = some k' := by
  unfold Cz GW
  rw [Lx (f := Bw a) (z := Ty.zero Aa) (H := Hp) (fun i b b' hi hH => by
    unfold Bw Dj
    try simp only
    obtain ⟨h1, h2, h3, h4, h5, h6, h7, h8, h9⟩ := hH
    have m1 := LP (fun _ _ _ => XI) h9
    rw [dlt hi, cond_true]
    simp (disch := omega) only [w1, if_pos (rng hi), Int.toNat_natCast, h3, h4, bne_self_eq_false, cond_false]
    rw [show b + 1 + 1 = b + 2 by omega, h5, show b + 2 + 1 = b + 3 by omega, h6, show b + 3 + 1 = b + 4 by omega, h7, show b + 4 + 1 = b + 5 by omega]
    simp only [bne_self_eq_false, cond_false]
    rw [NZ h8 h9, Option.bind_some, decide_eq_false (by omega), cond_false]
    rfl) (fun b => by
    unfold Bw Dj
    try simp only
    rw [dge, cond_false]) h]
  rfl
end Go.Proofs.X
namespace Go.Proofs.X
open Go Go.Va
set_option maxRecDepth 100000
theorem OM {n : Ad.V} (h : NodeB n) : Ee n = some (n.1, n.2.1, n.2.2.1, n.2.2.2.1, nW n, nWs n, nKids n) := by
  unfold Ee
  have := h.1
  unfold nKids at this
  rw [show Bh n.2.2.2.2.1 = some (nW n, nWs n) from KJ h.2.1, Option.bind_some, if_pos (by omega)]
  rfl
theorem OJ {t : List Ad.V} (h : TermB t) : Ef (t, ()) = some t := by
  unfold Ef HN
  have h1 := h.1
  dsimp only
  rw [if_pos ⟨rfl, by omega, by omega, by omega, by omega⟩, Int.toNat_natCast]
  rw [show fix (A8 t (t.length : Int)) (0, List.replicate t.length (0, 0, 0, 0, (0, ([] : List Int), ()), ([] : List Int), ())) = some t from by
    have := BJ (f := A8 t (t.length : Int)) (fun k => ((k : Int), fillN (fun i => t.getD i (Ty.zero Ad)) (0, 0, 0, 0, (0, ([] : List Int), ()), ([] : List Int), ()) t.length k)) (t := t) t.length (fun k hk => by
      unfold A8 DK
      simp only [dlt hk, cond_true, if_pos (rng hk), Int.toNat_natCast, fillN_len]
      rw [OM (h.2 _ (Ay hk)), Option.bind_some, stepN hk h1, ← fillN_set]
      rfl) (by
      unfold A8 DK
      simp only [dge, cond_false, fillN_full])
    rw [fillN_zero] at this
    exact this]
  rfl
theorem P7 {n : Ad.V} (h : NodeB n) : AK n = some (n.1, n.2.1, n.2.2.1, n.2.2.2.1, nW n, nWs n, nKids n) := by
  unfold AK
  have h1 := h.1
  have h2 := h.2.1
  unfold nKids at h1
  unfold nWs at h2
  rw [if_pos (by omega), if_pos (by omega)]
  rfl
theorem Qv {t : List Ad.V} (h : TermB t) : CD (t, ()) = some t := by
  unfold CD Gx
  have h1 := h.1
  rw [show fix (Bd (t, ())) (0, ([] : List Ad.V)) = some t from BJ (fun k => ((k : Int), t.take k)) t.length (fun k hk => by
    unfold Bd CY DD
    simp only [dlt hk, cond_true, if_pos (rng hk), Int.toNat_natCast]
    rw [P7 (h.2 _ (Ay hk)), Option.bind_some, if_pos (by
      show ((t.take k).length + 1) * 88 ≤ _
      rw [List.length_take]; omega), Option.bind_some, stepN hk h1, AL (z := Ty.zero Ad) hk]
    rfl) (by
    unfold Bd CY
    simp only [dge, cond_false, List.take_length])]
  rfl
def Good (s : Aa.V) (k : Nat) : Prop := (1 ≤ s.1 ∧ s.1 ≤ 6) ∧ (s.1 ≠ 1 → s.1 ≠ 2 → 0 ≤ s.2.1 ∧ s.2.1 < (k : Int)) ∧ (s.1 = 4 ∨ s.1 = 6 → 0 ≤ s.2.2.1 ∧ s.2.2.1 < (k : Int))
theorem Sc {d : List Ae.V} {l : List Af.V} {sd cs : List Ah.V} (hlen : cs.length ≤ 200) {s : Aa.V} {c : Ah.V} (h : At (d, l, sd, cs, ()) s = some (c, 0)) : Good s cs.length := by
  obtain ⟨r, i, j, hi, lo, ⟨nodes, _⟩, _⟩ := s
  unfold At at h
  cases hf : Aw (r, i, j, hi, lo, (nodes, ()), ()) with
  | false =>
    rw [show Aw (r, i, j, hi, lo, (nodes, ()), ()) = false from hf, Bool.not_false, cond_true] at h
    injection h with h; injection h with _ h; cases h
  | true =>
    rw [show Aw (r, i, j, hi, lo, (nodes, ()), ()) = true from hf, Bool.not_true, cond_false] at h
    have hr := PL hf
    cases hq : Ar (d, l, sd, cs, ()) (r, i, j, hi, lo, (nodes, ()), ()) with
    | none => rw [show Ar (d, l, sd, cs, ()) (r, i, j, hi, lo, (nodes, ()), ()) = none from hq] at h; cases h
    | some q =>
      rw [show Ar (d, l, sd, cs, ()) (r, i, j, hi, lo, (nodes, ()), ()) = some q from hq, Option.bind_some] at h
      cases q with
      | false =>
        rw [Bool.not_false, cond_true] at h
        injection h with h; injection h with _ h; cases h
      | true =>
        clear h
        refine ⟨by show (1 : Int) ≤ r ∧ r ≤ 6; rcases hr with rfl | rfl | rfl | rfl | rfl | rfl <;> decide, fun h1 h2 => ?_, fun h3 => ?_⟩
        · have h1 : r ≠ 1 := h1
          have h2 : r ≠ 2 := h2
          show 0 ≤ i ∧ i < (cs.length : Int)
          unfold Ar mkr at hq
          simp only at hq
          rw [Ic hlen, Ic hlen] at hq
          rcases hr with rfl | rfl | rfl | rfl | rfl | rfl
          · exact (h1 rfl).elim
          · exact (h2 rfl).elim
          all_goals
            simp only [Int.reduceBEq, cond_false, cond_true] at hq
            by_cases h : 0 ≤ i ∧ i < (cs.length : Int)
            · exact h
            · rw [decide_eq_false h] at hq
              cases hq
        · have h3 : r = 4 ∨ r = 6 := h3
          show 0 ≤ j ∧ j < (cs.length : Int)
          unfold Ar mkr at hq
          simp only at hq
          rw [Ic hlen, Ic hlen] at hq
          by_cases h : 0 ≤ j ∧ j < (cs.length : Int)
          · exact h
          · rw [decide_eq_false h] at hq
            rcases h3 with rfl | rfl
            all_goals
              simp only [Int.reduceBEq, cond_false, cond_true] at hq
              revert hq
              cases decide (0 ≤ i ∧ i < (cs.length : Int)) <;> intro hq <;> cases hq
theorem NV {d : List Ae.V} {l : List Af.V} {ps : List Aa.V} {r : Int × Int × List Ah.V} (h : CP d l ps = some r) (h0 : r.1 = 0) : ps.length ≤ 200 ∧ ∀ k, k < ps.length → Good (ps.getD k (Ty.zero Aa)) k := by
  unfold CP D4 at h
  cases ha : Cj d l with
  | none => rw [ha] at h; cases h
  | some a =>
    rw [ha, Option.bind_some] at h
    cases a with
    | false =>
      rw [Bool.not_false, cond_true, Option.bind_some, cond_true] at h
      injection h with h; subst h; cases h0
    | true =>
      rw [Bool.not_true, cond_false, Option.bind_some] at h
      by_cases hn : ps.length ≤ 200
      · rw [decide_eq_false (show ¬ (ps.length : Int) > 200 by omega), cond_false] at h
        refine ⟨hn, ?_⟩
        cases hs : GN d l with
        | none => rw [hs] at h; cases h
        | some sd =>
          rw [hs, Option.bind_some] at h
          unfold D5 at h
          cases hx : fix (AB ps d l (ps.length : Int) sd.2) (0, []) with
          | none => rw [hx] at h; cases h
          | some t =>
            rw [hx, Option.bind_some] at h
            cases t with
            | inl e =>
              have h : some (e.1, e.2.1, ([] : List Ah.V)) = some r := h
              injection h with h; subst h
              have key : ∀ (s : Int × List Ah.V) (t : (Int × Int × List Ah.V) ⊕ List Ah.V), To (AB ps d l (ps.length : Int) sd.2) s t → ∀ e, t = .inl e → e.1 ≠ 0 := by
                intro s t hto
                induction hto with
                | @done s t hd =>
                  intro e he
                  subst he
                  unfold AB AZ at hd
                  cases hc : decide (s.1 < (ps.length : Int)) with
                  | false => rw [hc] at hd; cases hd
                  | true =>
                    rw [hc, cond_true] at hd
                    split at hd
                    · cases hcl : At (d, l, sd.2, s.2, ()) (ps.getD s.1.toNat (Ty.zero Aa)) with
                      | none => rw [hcl] at hd; cases hd
                      | some y =>
                        rw [hcl, Option.bind_some] at hd
                        cases hb : (y.2 != 0) with
                        | true =>
                          rw [hb, cond_true] at hd
                          injection hd with hd; injection hd with hd; injection hd with hd; subst hd
                          exact bne_iff_ne.1 hb
                        | false =>
                          rw [hb, cond_false] at hd
                          cases hl2 : Bx ps (ps.length : Int) s.1 d l sd.2 s.2 y.1 with
                          | none => rw [hl2] at hd; cases hd
                          | some n => rw [hl2] at hd; cases hd
                    · cases hd
                | more _ _ ih => exact ih
              exact (key _ _ (Jv.1 hx) e rfl h0).elim
            | inr cs =>
              have key : ∀ (s : Int × List Ah.V) (t : (Int × Int × List Ah.V) ⊕ List Ah.V), To (AB ps d l (ps.length : Int) sd.2) s t → ∀ cs, t = .inr cs → ∀ k : Nat, s.1 = (k : Int) → s.2.length = k → ∀ m, k ≤ m → m < ps.length → Good (ps.getD m (Ty.zero Aa)) m := by
                intro s t hto
                induction hto with
                | @done s t hd =>
                  intro cs he k hk hc m h1 h2
                  subst he
                  unfold AB AZ at hd
                  try simp only at hd
                  rw [hk, dlt (show k < ps.length by omega), cond_true, if_pos (rng (show k < ps.length by omega)), Int.toNat_natCast] at hd
                  cases hcl : At (d, l, sd.2, s.2, ()) (ps.getD k (Ty.zero Aa)) with
                  | none => rw [hcl] at hd; cases hd
                  | some y =>
                    rw [hcl, Option.bind_some] at hd
                    cases hb : (y.2 != 0) with
                    | true =>
                      rw [hb, cond_true] at hd
                      cases hd
                    | false =>
                      rw [hb, cond_false] at hd
                      cases hl2 : Bx ps (ps.length : Int) (k : Int) d l sd.2 s.2 y.1 with
                      | none => rw [hl2] at hd; cases hd
                      | some n => rw [hl2] at hd; cases hd
                | @more s s' t hd _ ih =>
                  intro cs he k hk hc m h1 h2
                  unfold AB AZ at hd
                  try simp only at hd
                  rw [hk, dlt (show k < ps.length by omega), cond_true, if_pos (rng (show k < ps.length by omega)), Int.toNat_natCast] at hd
                  cases hcl : At (d, l, sd.2, s.2, ()) (ps.getD k (Ty.zero Aa)) with
                  | none => rw [hcl] at hd; cases hd
                  | some y =>
                    rw [hcl, Option.bind_some] at hd
                    cases hb : (y.2 != 0) with
                    | true =>
                      rw [hb, cond_true] at hd
                      cases hd
                    | false =>
                      rw [hb, cond_false] at hd
                      cases hl2 : Bx ps (ps.length : Int) (k : Int) d l sd.2 s.2 y.1 with
                      | none => rw [hl2] at hd; cases hd
                      | some n =>
                        rw [hl2, Option.bind_some] at hd
                        injection hd with hd; injection hd with hd
                        have hg : Good (ps.getD k (Ty.zero Aa)) k := by
                          have hy : y = (y.1, 0) := by
                            have : y.2 = 0 := by simpa using hb
                            rw [← this]
                          rw [hy] at hcl
                          have := Sc (cs := s.2) (by omega) hcl
                          rw [hc] at this
                          exact this
                        rcases Nat.eq_or_lt_of_le h1 with rfl | h1
                        · exact hg
                        · have hnl : n.length = k + 1 := by
                            unfold Bx at hl2
                            cases h3 : Ak y.1.1 with
                            | none => rw [h3] at hl2; cases hl2
                            | some a =>
                              rw [h3, Option.bind_some] at hl2
                              cases h4 : Ak y.1.2.1 with
                              | none => rw [h4] at hl2; cases hl2
                              | some b =>
                                rw [h4, Option.bind_some] at hl2
                                split at hl2
                                · injection hl2 with hl2; subst hl2
                                  rw [List.length_append, hc]; rfl
                                · cases hl2
                          subst hd
                          exact ih cs he (k + 1) (stepN (show k < ps.length by omega) (by omega)) hnl m h1 h2
              exact fun k hk => key _ _ (Jv.1 hx) cs rfl 0 rfl rfl k (Nat.zero_le _) hk
      · rw [decide_eq_true (show (ps.length : Int) > 200 by omega), cond_true] at h
        injection h with h; subst h; cases h0
end Go.Proofs.X
namespace Go.Proofs.X
open Go Go.Va
set_option maxRecDepth 100000
theorem six {r : Int} (h : 1 ≤ r ∧ r ≤ 6) : r = 1 ∨ r = 2 ∨ r = 3 ∨ r = 4 ∨ r = 5 ∨ r = 6 := by omega
theorem rngI {i : Int} {k n : Nat} (h : 0 ≤ i ∧ i < (k : Int)) (hk : k ≤ n) : 0 ≤ i ∧ i < (n : Int) := by omega
theorem Nq {A : Type} {l : List A} {x z : A} {i : Int} {k : Nat} (h : 0 ≤ i ∧ i < (k : Int)) : (l.set k x).getD i.toNat z = l.getD i.toNat z := by
  simp only [List.getD, List.getElem?_set, show ¬ k = i.toNat by omega, if_false]
def Ln (s : Aa.V) (n : List Bool) : List Bool :=
  if s.1 = (3 : Int) ∨ s.1 = (5 : Int) then n.set s.2.1.toNat true else if s.1 = (4 : Int) ∨ s.1 = (6 : Int) then (n.set s.2.1.toNat true).set s.2.2.1.toNat true else n
theorem Aa0 (s : Aa.V) (n : List Bool) : (Ln s n).length = n.length := by
  unfold Ln
  split
  · simp
  · split <;> simp
def Nx (b : List Aa.V) (k : Nat) (n : List Bool) : List Bool := bif n.getD k false then Ln (b.getD k (Ty.zero Aa)) n else n
theorem W8 (b : List Aa.V) (k : Nat) (n : List Bool) : (Nx b k n).length = n.length := by
  unfold Nx
  cases n.getD k false
  · rfl
  · exact Aa0 _ _
def Nd (b : List Aa.V) : Nat → List Bool → List Bool
  | 0, n => n
  | k + 1, n => Nd b k (Nx b k n)
theorem Xi (b : List Aa.V) : ∀ (k : Nat) (n : List Bool), (Nd b k n).length = n.length
  | 0, _ => rfl
  | k + 1, n => (Xi b k _).trans (W8 b k n)
section
variable {b : List Aa.V} {k : Nat}
theorem QE (hk : k < b.length) {n : List Bool} (hn : n.length = b.length) (hg : Good (b.getD k (Ty.zero Aa)) k) : In b (k : Int) n = some (Nx b k n) := by
  unfold In Nx Ln
  rw [if_pos (rng (show k < n.length by omega)), Int.toNat_natCast, if_pos (rng hk)]
  generalize b.getD k (Ty.zero Aa) = s at hg ⊢
  obtain ⟨r, i, j, hi, lo, ⟨nodes, _⟩, _⟩ := s
  obtain ⟨g1, g2, g3⟩ := hg
  have hr := six g1
  have gi := fun h1 h2 => rngI (g2 h1 h2) (show k ≤ n.length by omega)
  have gj := fun h => rngI (g3 h) (show k ≤ n.length by omega)
  show (bif n.getD k false then _ else _) = _
  cases n.getD k false with
  | false => rfl
  | true =>
    simp only [cond_true, List.length_set] at gi gj ⊢
    rcases hr with rfl | rfl | rfl | rfl | rfl | rfl
    · rfl
    · rfl
    · simp only [Int.reduceBEq, cond_true, cond_false]
      rw [if_pos (gi (by decide) (by decide))]; rfl
    · simp only [Int.reduceBEq, cond_true, cond_false]
      rw [if_pos (gi (by decide) (by decide)), if_pos (gj (by decide))]; rfl
    · simp only [Int.reduceBEq, cond_true, cond_false]
      rw [if_pos (gi (by decide) (by decide))]; rfl
    · simp only [Int.reduceBEq, cond_true, cond_false]
      rw [if_pos (gi (by decide) (by decide)), if_pos (gj (by decide))]; rfl
theorem QJ (hk : k < b.length) {n : List Bool} (hn : n.length = b.length) (hg : Good (b.getD k (Ty.zero Aa)) k) : Ij b (k : Int) n = some (Nx b k n) := by
  unfold Ij Jm Jy Nx Ln
  rw [if_pos (rng hk), if_pos (rng (show k < n.length by omega)), Int.toNat_natCast]
  generalize b.getD k (Ty.zero Aa) = s at hg ⊢
  obtain ⟨r, i, j, hi, lo, ⟨nodes, _⟩, _⟩ := s
  obtain ⟨g1, g2, g3⟩ := hg
  have hr := six g1
  have gi := fun h1 h2 => rngI (g2 h1 h2) (show k ≤ n.length by omega)
  have gj := fun h => rngI (g3 h) (show k ≤ n.length by omega)
  rw [show n.getD k (Ty.zero .bool) = n.getD k false from rfl]
  cases n.getD k false with
  | false => rfl
  | true =>
    simp only [cond_true, List.length_set, if_pos (rng hk), Option.bind_some] at gi gj ⊢
    rcases hr with rfl | rfl | rfl | rfl | rfl | rfl
    · rfl
    · simp only [Int.reduceBNe, cond_true, u2, t_i, t_j, Option.bind_some, cond_false]; rfl
    · simp only [Int.reduceBNe, cond_true, u3, i_i, i_j, Option.bind_some, cond_false]
      rw [if_pos (gi (by decide) (by decide))]; rfl
    · simp only [Int.reduceBNe, cond_true, u4, W5, WZ, Option.bind_some, cond_false]
      rw [if_pos (gi (by decide) (by decide)), Option.bind_some, List.length_set, if_pos (gj (by decide))]; rfl
    · simp only [Int.reduceBNe, cond_true, u5, AcV, AcY, Option.bind_some, cond_false]
      rw [if_pos (gi (by decide) (by decide))]; rfl
    · simp only [Int.reduceBNe, cond_true, u6, W5, WZ, Option.bind_some, cond_false]
      rw [if_pos (gi (by decide) (by decide)), Option.bind_some, List.length_set, if_pos (gj (by decide))]; rfl
theorem NW {f : Int × List Bool → Option ((Int × List Bool) ⊕ List Bool)} (hs : ∀ (k : Nat) (n : List Bool), k < b.length → n.length = b.length → f ((k : Int), n) = some (.inl (IntKind.i64.wrap ((k : Int) - 1), Nx b k n))) (he : ∀ n, f (-1, n) = some (.inr n)) (hb : b.length ≤ 200) :
    ∀ (k : Nat) (n : List Bool), k ≤ b.length → n.length = b.length → fix f ((k : Int) - 1, n) = some (Nd b k n)
  | 0, n, _, _ => Fx (he n)
  | k + 1, n, hk, hn => by
    rw [show ((k + 1 : Nat) : Int) - 1 = (k : Int) by omega, G3 (hs k n hk hn), wrapI (by omega) (by omega)]
    exact NW hs he hb k _ (by omega) ((W8 b k n).trans hn)
def Tm (s : Aa.V) (g : List Int) : Aa.V :=
  (s.1, (if s.1 = (1 : Int) ∨ s.1 = (2 : Int) then s.2.1 else g.getD s.2.1.toNat 0), (if s.1 = (4 : Int) ∨ s.1 = (6 : Int) then g.getD s.2.2.1.toNat 0 else s.2.2.1), s.2.2.2.1, s.2.2.2.2.1, s.2.2.2.2.2.1, ())
def Ts (b : List Aa.V) (a : List Bool) (k : Nat) (x : List Int × List Aa.V) : List Int × List Aa.V :=
  bif a.getD k false then (x.1.set k (x.2.length : Int), x.2 ++ [Tm (b.getD k (Ty.zero Aa)) x.1]) else x
def Tr (b : List Aa.V) (a : List Bool) : Nat → List Int × List Aa.V
  | 0 => (List.replicate b.length 0, [])
  | k + 1 => Ts b a k (Tr b a k)
theorem Qh (hk : k < b.length) (hb : b.length ≤ 200) {a : List Bool} (ha : a.length = b.length) {g : List Int} (hgl : g.length = b.length) {o : List Aa.V} (ho : o.length ≤ k) (hg : Good (b.getD k (Ty.zero Aa)) k)
    (ht : TermB (b.getD k (Ty.zero Aa)).2.2.2.2.2.1.1) (c : Int) : Ik a b c (k : Int) g o = some (Ts b a k (g, o)) := by
  unfold Ik Ts Tm
  rw [if_pos (rng hk), if_pos (rng (show k < a.length by omega)), Int.toNat_natCast]
  generalize b.getD k (Ty.zero Aa) = s at hg ht ⊢
  obtain ⟨r, i, j, hi, lo, ⟨nodes, _⟩, _⟩ := s
  obtain ⟨g1, g2, g3⟩ := hg
  have hr := six g1
  have gi := fun h1 h2 => rngI (g2 h1 h2) (show k ≤ g.length by omega)
  have gj := fun h => rngI (g3 h) (show k ≤ g.length by omega)
  have si := fun h1 h2 => Nq (l := g) (x := (o.length : Int)) (z := 0) (g2 h1 h2)
  have sj := fun h => Nq (l := g) (x := (o.length : Int)) (z := 0) (g3 h)
  have hf : ∀ x : Aa.V, (o.length + ([x] : List Aa.V).length) * 64 ≤ 140737488355328 := fun x => by show (o.length + 1) * 64 ≤ _; omega
  show (bif !(a.getD k false) then _ else _) = _
  cases a.getD k false with
  | false => rfl
  | true =>
    simp only [Bool.not_true, cond_false, cond_true, List.length_set, if_pos (rng (show k < g.length by omega))] at gi gj si sj ⊢
    rw [OJ ht, Option.bind_some]
    simp only [if_pos (hf _)]
    rcases hr with rfl | rfl | rfl | rfl | rfl | rfl
    · rfl
    · rfl
    · simp only [Int.reduceBEq, cond_true, cond_false]
      rw [if_pos (gi (by decide) (by decide)), show (g.set k (o.length : Int)).getD i.toNat (Ty.zero (.int .i64)) = g.getD i.toNat 0 from si (by decide) (by decide)]; rfl
    · simp only [Int.reduceBEq, cond_true, cond_false]
      rw [if_pos (gi (by decide) (by decide)), if_pos (gj (by decide)), show (g.set k (o.length : Int)).getD i.toNat (Ty.zero (.int .i64)) = g.getD i.toNat 0 from si (by decide) (by decide), show (g.set k (o.length : Int)).getD j.toNat (Ty.zero (.int .i64)) = g.getD j.toNat 0 from sj (by decide)]; rfl
    · simp only [Int.reduceBEq, cond_true, cond_false]
      rw [if_pos (gi (by decide) (by decide)), show (g.set k (o.length : Int)).getD i.toNat (Ty.zero (.int .i64)) = g.getD i.toNat 0 from si (by decide) (by decide)]; rfl
    · simp only [Int.reduceBEq, cond_true, cond_false]
      rw [if_pos (gi (by decide) (by decide)), if_pos (gj (by decide)), show (g.set k (o.length : Int)).getD i.toNat (Ty.zero (.int .i64)) = g.getD i.toNat 0 from si (by decide) (by decide), show (g.set k (o.length : Int)).getD j.toNat (Ty.zero (.int .i64)) = g.getD j.toNat 0 from sj (by decide)]; rfl
theorem Qb (hk : k < b.length) (hb : b.length ≤ 200) {a : List Bool} (ha : a.length = b.length) {g : List Int} (hgl : g.length = b.length) {o : List Aa.V} (ho : o.length ≤ k) (hg : Good (b.getD k (Ty.zero Aa)) k)
    (ht : TermB (b.getD k (Ty.zero Aa)).2.2.2.2.2.1.1) : GS b a (k : Int) o g = some ((Ts b a k (g, o)).2, (Ts b a k (g, o)).1) := by
  unfold GS IG IJ IL Ts Tm
  rw [if_pos (rng (show k < a.length by omega)), if_pos (rng hk), Int.toNat_natCast]
  generalize b.getD k (Ty.zero Aa) = s at hg ht ⊢
  obtain ⟨r, i, j, hi, lo, ⟨nodes, _⟩, _⟩ := s
  obtain ⟨g1, g2, g3⟩ := hg
  have hr := six g1
  have gi := fun h1 h2 => rngI (g2 h1 h2) (show k ≤ g.length by omega)
  have gj := fun h => rngI (g3 h) (show k ≤ g.length by omega)
  have hf : ∀ x : Aa.V, (o.length + ([x] : List Aa.V).length) * 64 ≤ 140737488355328 := fun x => by show (o.length + 1) * 64 ≤ _; omega
  show (bif !(a.getD k false) then _ else _) = _
  cases a.getD k false with
  | false => rfl
  | true =>
    simp only [Bool.not_true, cond_false, cond_true, if_pos (rng (show k < g.length by omega))] at gi gj ⊢
    rw [Qv ht, Option.bind_some]
    simp only [if_pos (hf _)]
    rcases hr with rfl | rfl | rfl | rfl | rfl | rfl
    · simp only [Int.reduceBNe, cond_false, u1, i_j, Option.bind_some]; rfl
    · simp only [Int.reduceBNe, cond_true, cond_false, u2, t_i, t_j, Option.bind_some]; rfl
    · simp only [Int.reduceBNe, cond_true, cond_false, u3, i_i, i_j, Option.bind_some]
      rw [if_pos (gi (by decide) (by decide))]; rfl
    · simp only [Int.reduceBNe, cond_true, cond_false, u4, W5, WZ, Option.bind_some]
      rw [if_pos (gi (by decide) (by decide)), if_pos (gj (by decide))]; rfl
    · simp only [Int.reduceBNe, cond_true, cond_false, u5, AcV, AcY, Option.bind_some]
      rw [if_pos (gi (by decide) (by decide))]; rfl
    · simp only [Int.reduceBNe, cond_true, cond_false, u6, W5, WZ, Option.bind_some]
      rw [if_pos (gi (by decide) (by decide)), if_pos (gj (by decide))]; rfl
theorem Pc {a : List Bool} : ∀ k : Nat, (Tr b a k).1.length = b.length ∧ (Tr b a k).2.length ≤ k
  | 0 => by simp [Tr]
  | k + 1 => by
    obtain ⟨h1, h2⟩ := Pc (a := a) k
    unfold Tr Ts
    cases a.getD k false with
    | false => exact ⟨h1, by simp only [cond_false]; omega⟩
    | true => exact ⟨by simp only [cond_true, List.length_set]; exact h1, by simp only [cond_true, List.length_append, List.length_singleton]; omega⟩
end
end Go.Proofs.X
