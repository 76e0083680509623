import Derived.Test.YtgdiapoacpahdaaGreatK14
set_option linter.unusedVariables false
set_option linter.unusedSimpArgs false
namespace Go.Proofs.X
open Go Go.Va
set_option maxRecDepth 100000
def dig (c : Int) : Prop := 48 ≤ c ∧ c ≤ 57
def lowc (c : Int) : Prop := 97 ≤ c ∧ c ≤ 122
instance (c : Int) : Decidable (dig c) := inferInstanceAs (Decidable (_ ∧ _))
instance (c : Int) : Decidable (lowc c) := inferInstanceAs (Decidable (_ ∧ _))
def NameP (s : ByteArray) : Prop := 1 ≤ s.size ∧ s.size ≤ 12 ∧ ¬ dig (bgetI s 0) ∧ ∀ i : Nat, i < s.size → dig (bgetI s i) ∨ lowc (bgetI s i)
theorem Ng (c : Int) : GP c = decide (dig c) := (Bool.decide_and _ _).symm
theorem Oy {s : ByteArray} {i : Nat} (hi : i < s.size) : FR s (i : Int) = some (decide ¬ (dig (bgetI s i) ∨ lowc (bgetI s i))) := by
  unfold FR
  rw [if_pos (rng hi), if_pos (rng hi), if_pos (rng hi), Ng]
  generalize bgetI s (i : Int) = c
  by_cases h1 : dig c
  · rw [decide_eq_true h1, decide_eq_false (p := ¬ (dig c ∨ lowc c)) (fun h => h (.inl h1))]; rfl
  · rw [decide_eq_false h1]
    by_cases h2 : c < 97
    · rw [decide_eq_true h2, decide_eq_true (p := ¬ (dig c ∨ lowc c)) (by unfold lowc; rintro (h | h); exact h1 h; omega)]; rfl
    · rw [decide_eq_false h2]
      refine congrArg some (decide_eq_decide.2 ?_)
      unfold lowc dig at *; omega
theorem PI {s : ByteArray} {i : Nat} (hi : i < s.size) : F1 s (i : Int) = some (decide ¬ (dig (bgetI s i) ∨ lowc (bgetI s i))) := by
  unfold F1
  simp only [if_pos (rng hi)]
  generalize bgetI s (i : Int) = c
  by_cases h1 : c < 97
  · rw [decide_eq_true h1, cond_true]
    by_cases h2 : c < 48
    · rw [decide_eq_true h2, cond_true]
      exact congrArg some (decide_eq_true (by unfold dig lowc; omega)).symm
    · rw [decide_eq_false h2, cond_false]
      exact congrArg some (decide_eq_decide.2 (by unfold dig lowc; omega))
  · rw [decide_eq_false h1, cond_false]
    by_cases h2 : c > 122
    · rw [decide_eq_true h2, cond_true]
      by_cases h3 : c < 48
      · rw [decide_eq_true h3, cond_true]
        exact congrArg some (decide_eq_true (by unfold dig lowc; omega)).symm
      · rw [decide_eq_false h3, cond_false]
        exact congrArg some (decide_eq_decide.2 (by unfold dig lowc; omega))
    · rw [decide_eq_false h2, cond_false]
      exact congrArg some (decide_eq_false (by unfold dig lowc; omega)).symm
theorem PY (s : ByteArray) : Ret (Gy s) fun r => r = true ↔ NameP s := by
  unfold Gy HV
  by_cases h1 : s.size < 1
  · rw [decide_eq_true (by omega : (s.size : Int) < 1)]
    exact Ret.mk ⟨fun h => by (cases h), fun h => absurd h.1 (by omega)⟩
  · rw [decide_eq_false (by omega : ¬ (s.size : Int) < 1), cond_false]
    by_cases h2 : s.size > 12
    · rw [decide_eq_true (by omega : (s.size : Int) > 12)]
      exact Ret.mk ⟨fun h => by (cases h), fun h => absurd h.2.1 (by omega)⟩
    · rw [decide_eq_false (by omega : ¬ (s.size : Int) > 12), cond_false, if_pos ⟨by omega, by omega⟩, Option.bind_some, Ng]
      by_cases h3 : dig (bgetI s 0)
      · rw [decide_eq_true h3]
        exact Ret.mk ⟨fun h => by (cases h), fun h => absurd h3 h.2.2.1⟩
      · rw [decide_eq_false h3, cond_false]
        refine Ret.bind (P := fun t => (t = .inl () ∧ ¬ ∀ i : Nat, i < s.size → dig (bgetI s i) ∨ lowc (bgetI s i)) ∨ (t = .inr () ∧ ∀ i : Nat, i < s.size → dig (bgetI s i) ∨ lowc (bgetI s i))) ?_ fun t ht => ?_
        · unfold JD
          refine Bz (fun k (_ : Unit) => (k : Int)) s.size (fun k _ => ∀ i : Nat, i < k → dig (bgetI s i) ∨ lowc (bgetI s i)) (fun k _ hk hI => ?_) (fun _ hI => ?_) (s0 := ()) (fun i h => by omega)
          · unfold D7 Gu
            rw [dlt hk, cond_true, Oy hk, Option.bind_some]
            by_cases h : dig (bgetI s k) ∨ lowc (bgetI s k)
            · rw [decide_eq_false (fun hn => hn h), cond_false, stepN hk (by omega)]
              refine Ret.mk ⟨(), rfl, fun i hi => ?_⟩
              rcases Nat.lt_or_ge i k with h' | h'
              · exact hI i h'
              · rw [show i = k by omega]; exact h
            · rw [decide_eq_true h, cond_true]
              exact Ret.mk (.inl ⟨rfl, fun h' => h (h' k hk)⟩)
          · unfold D7 Gu
            rw [dge, cond_false]
            exact Ret.mk (.inr ⟨rfl, hI⟩)
        · rcases ht with ⟨rfl, h⟩ | ⟨rfl, h⟩
          · exact Ret.mk ⟨fun h => by (cases h), fun h' => absurd h'.2.2.2 h⟩
          · exact Ret.mk ⟨fun _ => ⟨by omega, by omega, h3, h⟩, fun _ => rfl⟩
theorem PW (s : ByteArray) : Ret (GE s) fun r => r = true ↔ NameP s := by
  unfold GE H6
  by_cases h1 : s.size < 1
  · rw [decide_eq_true (by omega : (s.size : Int) < 1)]
    exact Ret.mk ⟨fun h => by (cases h), fun h => absurd h.1 (by omega)⟩
  · rw [decide_eq_false (by omega : ¬ (s.size : Int) < 1), cond_false]
    by_cases h2 : s.size > 12
    · rw [decide_eq_true (by omega : (s.size : Int) > 12)]
      exact Ret.mk ⟨fun h => by (cases h), fun h => absurd h.2.1 (by omega)⟩
    · rw [decide_eq_false (by omega : ¬ (s.size : Int) > 12), cond_false, if_pos ⟨by omega, by omega⟩, if_pos ⟨by omega, by omega⟩]
      by_cases h3 : lowc (bgetI s 0)
      · have h4 : (bif decide (bgetI s 0 < 97) then some true else some (decide (bgetI s 0 > 122))) = some false := by
          unfold lowc at h3
          rw [decide_eq_false (by omega), cond_false, decide_eq_false (by omega)]
        rw [h4, Option.bind_some, cond_false]
        refine Ret.bind (P := fun t => (t = .inl () ∧ ¬ ∀ i : Nat, i < s.size → dig (bgetI s i) ∨ lowc (bgetI s i)) ∨ (t = .inr () ∧ ∀ i : Nat, i < s.size → dig (bgetI s i) ∨ lowc (bgetI s i))) ?_ fun t ht => ?_
        · unfold JJ
          refine Bz (fun k (_ : Unit) => (k : Int)) s.size (fun k _ => ∀ i : Nat, i < k → dig (bgetI s i) ∨ lowc (bgetI s i)) (fun k _ hk hI => ?_) (fun _ hI => ?_) (s0 := ()) (fun i h => by omega)
          · unfold D8 Gb
            rw [dlt hk, cond_true, PI hk, Option.bind_some]
            by_cases h : dig (bgetI s k) ∨ lowc (bgetI s k)
            · rw [decide_eq_false (fun hn => hn h), cond_false, stepN hk (by omega)]
              refine Ret.mk ⟨(), rfl, fun i hi => ?_⟩
              rcases Nat.lt_or_ge i k with h' | h'
              · exact hI i h'
              · rw [show i = k by omega]; exact h
            · rw [decide_eq_true h, cond_true]
              exact Ret.mk (.inl ⟨rfl, fun h' => h (h' k hk)⟩)
          · unfold D8 Gb
            rw [dge, cond_false]
            exact Ret.mk (.inr ⟨rfl, hI⟩)
        · rcases ht with ⟨rfl, h⟩ | ⟨rfl, h⟩
          · exact Ret.mk ⟨fun h => by (cases h), fun h' => absurd h'.2.2.2 h⟩
          · refine Ret.mk ⟨fun _ => ⟨by omega, by omega, ?_, h⟩, fun _ => rfl⟩
            unfold lowc at h3; unfold dig; omega
      · have h4 : (bif decide (bgetI s 0 < 97) then some true else some (decide (bgetI s 0 > 122))) = some true := by
          unfold lowc at h3
          by_cases h5 : bgetI s 0 < 97
          · rw [decide_eq_true h5]; rfl
          · rw [decide_eq_false h5, cond_false, decide_eq_true (by omega)]
        rw [h4, Option.bind_some, cond_true]
        refine Ret.mk ⟨fun h => by (cases h), fun h => ?_⟩
        rcases h.2.2.2 0 (by omega) with h' | h'
        · exact absurd h' h.2.2.1
        · exact absurd h' h3
theorem HJ (n a b : Int) : AA n a b = decide (a ≤ n ∧ n ≤ b) := by unfold AA; rw [Bool.decide_and]
theorem DY (n a b : Int) : Ap n a b = decide (a ≤ n ∧ n ≤ b) := by unfold Ap; rw [Bool.decide_and]
def dcl (d : List Ae.V) (i : Nat) : Ae.V := d.getD i (Ty.zero Ae)
def dw (d : List Ae.V) (i : Nat) : Int := (dcl d i).2.1
def dSum (d : List Ae.V) (k : Nat) : Int := ((d.take k).map fun x => x.2.1).sum
theorem ME {d : List Ae.V} {k : Nat} (h : k < d.length) : dSum d (k + 1) = dSum d k + dw d k := by
  unfold dSum
  rw [AL h (z := Ty.zero Ae), List.map_append, List.sum_append]
  simp [dw, dcl]
def DeclP (d : List Ae.V) (i : Nat) : Prop := NameP (dcl d i).1 ∧ (1 ≤ dw d i ∧ dw d i ≤ 4096) ∧ ∀ k, k < i → (dcl d k).1 ≠ (dcl d i).1
def DeclsP (d : List Ae.V) : Prop := d.length ≤ 60 ∧ (∀ i, i < d.length → DeclP d i) ∧ dSum d d.length ≤ 20000
theorem Nf {d : List Ae.V} {k : Nat} (hk : k ≤ d.length) (h : ∀ i, i < k → DeclP d i) : 0 ≤ dSum d k ∧ dSum d k ≤ 4096 * k := by
  induction k with
  | zero => simp [dSum]
  | succ k ih =>
    rw [ME (by omega)]
    have := ih (by omega) fun i hi => h i (by omega)
    have := (h k (by omega)).2.1
    omega
theorem KL (d : List Ae.V) : Ret (DC d) fun r => r = true ↔ DeclsP d := by
  unfold DC
  by_cases hl : d.length ≤ 60
  · rw [decide_eq_false (by omega : ¬ (d.length : Int) > 60), cond_false]
    unfold IY
    refine Ret.bind (P := fun t => (∃ x, t = .inl x ∧ ¬ ∀ i, i < d.length → DeclP d i) ∨ (t = .inr (dSum d d.length) ∧ ∀ i, i < d.length → DeclP d i)) (Bz (fun k (_ : Unit) => (dSum d k, (k : Int))) d.length (fun k _ => ∀ i, i < k → DeclP d i) (fun k _ hk hI => ?_) (fun _ hI => ?_) (s0 := ()) (fun i h => by omega)) fun t ht => ?_
    · unfold Du FE Hv
      simp only
      rw [dlt hk, cond_true, if_pos (rng hk), Int.toNat_natCast]
      show Ret (((Gy (dcl d k).1).bind _).bind _) _
      obtain ⟨r, hr, hq⟩ := PY (dcl d k).1
      rw [hr, Option.bind_some]
      by_cases h1 : NameP (dcl d k).1
      · rw [hq.2 h1]
        simp only [Bool.not_true, cond_false]
        rw [if_pos (rng hk), if_pos (rng hk), Option.bind_some]
        by_cases h2 : 1 ≤ dw d k ∧ dw d k ≤ 4096
        · rw [show AA (d.getD k (Ty.zero Ae)).2.1 1 4096 = true from (HJ _ _ _).trans (decide_eq_true h2)]
          simp only [Bool.not_true, cond_false]
          refine Ret.bind (P := fun t => (t = .inl () ∧ ¬ ∀ j, j < k → (dcl d j).1 ≠ (dcl d k).1) ∨ (t = .inr () ∧ ∀ j, j < k → (dcl d j).1 ≠ (dcl d k).1)) ?_ fun t ht => ?_
          · unfold IV
            refine Bz (fun j (_ : Unit) => (j : Int)) k (fun j _ => ∀ i, i < j → (dcl d i).1 ≠ (dcl d k).1) (fun j _ hj hJ => ?_) (fun _ hJ => ?_) (s0 := ()) (fun i h => by omega)
            · unfold Dt Fs
              rw [dlt hj, cond_true, if_pos (rng (by omega)), if_pos (rng hk), Int.toNat_natCast, Int.toNat_natCast]
              show Ret (bif strEq (dcl d j).1 (dcl d k).1 then _ else _) _
              cases he : strEq (dcl d j).1 (dcl d k).1 with
              | true => exact Ret.mk (.inl ⟨rfl, fun h => h j hj ((KB _ _).1 he)⟩)
              | false =>
                rw [cond_false, stepN hj (by omega)]
                refine Ret.mk ⟨(), rfl, fun i hi => ?_⟩
                rcases Nat.lt_or_ge i j with h' | h'
                · exact hJ i h'
                · rw [show i = j by omega]; intro e; rw [(KB _ _).2 e] at he; cases he
            · unfold Dt Fs
              rw [dge, cond_false]
              exact Ret.mk (.inr ⟨rfl, hJ⟩)
          · rcases ht with ⟨rfl, h⟩ | ⟨rfl, h⟩
            · exact Ret.mk (.inl ⟨_, rfl, fun h' => h (h' k hk).2.2⟩)
            · simp only [Sum.elim_inr]
              rw [stepN hk (by omega)]
              have hb := Nf (by omega) hI
              rw [show IntKind.i64.wrap (dSum d k + (d.getD k (Ty.zero Ae)).2.1) = dSum d (k + 1) by
                rw [ME hk]
                have : (d.getD k (Ty.zero Ae)).2.1 = dw d k := rfl
                rw [this, wrap64 (by omega) (by omega)]]
              refine Ret.mk ⟨(), rfl, fun i hi => ?_⟩
              rcases Nat.lt_or_ge i k with h' | h'
              · exact hI i h'
              · rw [show i = k by omega]; exact ⟨h1, h2, h⟩
        · rw [show AA (d.getD k (Ty.zero Ae)).2.1 1 4096 = false from (HJ _ _ _).trans (decide_eq_false h2)]
          exact Ret.mk (.inl ⟨_, rfl, fun h => h2 (h k hk).2.1⟩)
      · rw [show r = false by cases r; rfl; exact absurd (hq.1 rfl) h1]
        exact Ret.mk (.inl ⟨_, rfl, fun h => h1 (h k hk).1⟩)
    · unfold Du FE
      simp only
      rw [dge, cond_false]
      exact Ret.mk (.inr ⟨rfl, hI⟩)
    · rcases ht with ⟨x, rfl, h⟩ | ⟨rfl, h⟩
      · exact Ret.mk ⟨fun h => by (cases h), fun h' => absurd h'.2.1 h⟩
      · refine Ret.mk ⟨fun h' => ⟨hl, h, of_decide_eq_true h'⟩, fun h' => decide_eq_true h'.2.2⟩
  · rw [decide_eq_true (by omega : (d.length : Int) > 60), cond_true]
    exact Ret.mk ⟨fun h => by (cases h), fun h => absurd h.1 hl⟩
theorem Qq {d : List Ae.V} {i : Nat} {name : ByteArray} (hi : i ≤ d.length) (hl : d.length ≤ 1048576) : Ret (DF ((d.take i).drop 0) name) fun r => 0 ≤ r ↔ ∃ j, j < i ∧ (dcl d j).1 = name := by
  unfold DF BM DA
  have hlen : (d.take i).length = i := by rw [List.length_take]; omega
  rw [List.drop_zero, hlen]
  refine Ret.bind (P := fun r => 0 ≤ r.1 ↔ ∃ j, j < i ∧ (dcl d j).1 = name) (Ret.bind (P := fun t => (∃ j : Nat, t = .inl (j : Int) ∧ j < i ∧ (dcl d j).1 = name) ∨ (t = .inr () ∧ ∀ j, j < i → (dcl d j).1 ≠ name)) ?_ fun t ht => ?_) fun r hr => Ret.mk hr
  · refine Bz (fun j (_ : Unit) => (j : Int)) i (fun j _ => ∀ k, k < j → (dcl d k).1 ≠ name) (fun j _ hj hJ => ?_) (fun _ hJ => ?_) (s0 := ()) (fun i h => by omega)
    · unfold AY By
      have hg : (d.take i).getD j (Ty.zero Ae) = dcl d j := by simp [dcl, List.getD, hj]
      rw [dlt hj, cond_true, hlen, if_pos (rng hj), Int.toNat_natCast, hg]
      unfold Ha
      cases he : strEq (dcl d j).1 name with
      | true => exact Ret.mk (.inl ⟨j, rfl, hj, (KB _ _).1 he⟩)
      | false =>
        rw [cond_false, stepN hj (by omega)]
        refine Ret.mk ⟨(), rfl, fun k hk => ?_⟩
        rcases Nat.lt_or_ge k j with h' | h'
        · exact hJ k h'
        · rw [show k = j by omega]; intro e; rw [(KB _ _).2 e] at he; cases he
    · unfold AY By
      rw [dge, cond_false]
      exact Ret.mk (.inr ⟨rfl, hJ⟩)
  · rcases ht with ⟨j, rfl, h1, h2⟩ | ⟨rfl, h⟩
    · exact Ret.mk ⟨fun _ => ⟨j, h1, h2⟩, fun _ => by show (0 : Int) ≤ (j : Int); omega⟩
    · exact Ret.mk ⟨fun h' => absurd (show (0 : Int) ≤ -1 from h') (by omega), fun ⟨j, h1, h2⟩ => absurd h2 (h j h1)⟩
theorem LW (d : List Ae.V) : Ret (EP d) fun r => r = true ↔ DeclsP d := by
  unfold EP
  by_cases hl : d.length ≤ 60
  · rw [decide_eq_false (by omega : ¬ (d.length : Int) > 60), cond_false]
    unfold IW
    refine Ret.bind (P := fun t => (∃ x, t = .inl x ∧ ¬ ∀ i, i < d.length → DeclP d i) ∨ (t = .inr (dSum d d.length) ∧ ∀ i, i < d.length → DeclP d i)) (Bz (fun k (_ : Unit) => (dSum d k, (k : Int))) d.length (fun k _ => ∀ i, i < k → DeclP d i) (fun k _ hk hI => ?_) (fun _ hI => ?_) (s0 := ()) (fun i h => by omega)) fun t ht => ?_
    · unfold Dq Fn GU
      simp only
      rw [dlt hk, cond_true, if_pos (rng hk), Int.toNat_natCast]
      show Ret (((GE (dcl d k).1).bind _).bind _) _
      obtain ⟨r, hr, hq⟩ := PW (dcl d k).1
      rw [hr, Option.bind_some]
      by_cases h1 : NameP (dcl d k).1
      · rw [hq.2 h1]
        simp only [Bool.not_true, cond_false]
        by_cases h2 : 1 ≤ dw d k ∧ dw d k ≤ 4096
        · rw [show Ap (d.getD k (Ty.zero Ae)).2.1 1 4096 = true from (DY _ _ _).trans (decide_eq_true h2)]
          simp only [Bool.not_true, cond_false]
          rw [if_pos ⟨by omega, by omega, by omega⟩]
          obtain ⟨r', hr', hq'⟩ := Qq (d := d) (i := k) (name := (dcl d k).1) (by omega) (by omega)
          rw [show DF ((d.take k).drop 0) (d.getD k (Ty.zero Ae)).1 = some r' from hr', Option.bind_some, Option.bind_some]
          by_cases h3 : 0 ≤ r'
          · rw [decide_eq_true (show r' ≥ 0 from h3)]
            obtain ⟨j, hj1, hj2⟩ := hq'.1 h3
            exact Ret.mk (.inl ⟨_, rfl, fun h => (h k hk).2.2 j hj1 hj2⟩)
          · rw [decide_eq_false (show ¬ r' ≥ 0 from h3), cond_false, stepN hk (by omega)]
            have hb := Nf (by omega) hI
            rw [show IntKind.i64.wrap (dSum d k + (d.getD k (Ty.zero Ae)).2.1) = dSum d (k + 1) by
              rw [ME hk]
              have : (d.getD k (Ty.zero Ae)).2.1 = dw d k := rfl
              rw [this, wrap64 (by omega) (by omega)]]
            refine Ret.mk ⟨(), rfl, fun i hi => ?_⟩
            rcases Nat.lt_or_ge i k with h' | h'
            · exact hI i h'
            · rw [show i = k by omega]; exact ⟨h1, h2, fun j hj e => h3 (hq'.2 ⟨j, hj, e⟩)⟩
        · rw [show Ap (d.getD k (Ty.zero Ae)).2.1 1 4096 = false from (DY _ _ _).trans (decide_eq_false h2)]
          exact Ret.mk (.inl ⟨_, rfl, fun h => h2 (h k hk).2.1⟩)
      · rw [show r = false by cases r; rfl; exact absurd (hq.1 rfl) h1]
        exact Ret.mk (.inl ⟨_, rfl, fun h => h1 (h k hk).1⟩)
    · unfold Dq Fn
      simp only
      rw [dge, cond_false]
      exact Ret.mk (.inr ⟨rfl, hI⟩)
    · rcases ht with ⟨x, rfl, h⟩ | ⟨rfl, h⟩
      · exact Ret.mk ⟨fun h => by (cases h), fun h' => absurd h'.2.1 h⟩
      · refine Ret.mk ⟨fun h' => ⟨hl, h, of_decide_eq_true h'⟩, fun h' => decide_eq_true h'.2.2⟩
  · rw [decide_eq_true (by omega : (d.length : Int) > 60), cond_true]
    exact Ret.mk ⟨fun h => by (cases h), fun h => absurd h.1 hl⟩
theorem RP {a b : Bool} {P : Prop} (h1 : a = true ↔ P) (h2 : b = true ↔ P) : a = b := by
  cases a <;> cases b <;> simp_all
end Go.Proofs.X
namespace Go.Proofs.X
open Go Go.Va
set_option maxRecDepth 100000
def nOp (n : Ad.V) : Int := n.1
def nVar (n : Ad.V) : Int := n.2.1
def nA (n : Ad.V) : Int := n.2.2.1
def nB (n : Ad.V) : Int := n.2.2.2.1
def nW (n : Ad.V) : Int := n.2.2.2.2.1.1
def nWs (n : Ad.V) : List Int := n.2.2.2.2.1.2.1
def nKids (n : Ad.V) : List Int := n.2.2.2.2.2.1
def NodeB (n : Ad.V) : Prop := (nKids n).length ≤ 1048576 ∧ (nWs n).length ≤ 1048576 ∧ Words (nWs n)
def KidsIn (n : Ad.V) (i : Nat) : Prop := ∀ k ∈ nKids n, 0 ≤ k ∧ k < (i : Int)
def NoB (n : Ad.V) : Prop := nW n = 0 ∧ (nWs n).length = 0
def OneP (n : Ad.V) : Prop := 4 ≤ nOp n ∧ nOp n ≤ 9
instance (n : Ad.V) : Decidable (NoB n) := inferInstanceAs (Decidable (_ ∧ _))
instance (n : Ad.V) : Decidable (OneP n) := inferInstanceAs (Decidable (_ ∧ _))
def PlainP (n : Ad.V) : Prop := (nOp n ≠ 1 → nVar n = 0) ∧ (nOp n ≠ 2 → NoB n) ∧ (nOp n ≠ 4 → nB n = 0) ∧ (¬ OneP n → nA n = 0)
def ValP (n : Ad.V) : Prop := ∃ m : Nat, nW n = (m : Int) ∧ BitsP m (nWs n)
def FormP (d : List Ae.V) (n : Ad.V) : Prop :=
  (nOp n = 1 ∧ (nKids n).length = 0 ∧ 0 ≤ nVar n ∧ nVar n < (d.length : Int)) ∨ (nOp n = 2 ∧ (nKids n).length = 0 ∧ ValP n) ∨ (nOp n = 3 ∧ 2 ≤ (nKids n).length) ∨ (4 ≤ nOp n ∧ nOp n ≤ 9 ∧ (nKids n).length = 1)
def widF (d : List Ae.V) (n : Ad.V) (s : Int) : Int :=
  if nOp n = 1 then dw d (nVar n).toNat else if nOp n = 2 then nW n else
  if nOp n = 4 then (if 0 ≤ nB n ∧ nB n ≤ nA n ∧ nA n < s then nA n - nB n + 1 else -1) else
  if nOp n = 5 ∨ nOp n = 6 then (if 0 ≤ nA n ∧ nA n ≤ 4096 then s + nA n else -1) else
  if nOp n = 7 ∨ nOp n = 8 then (if 0 ≤ nA n ∧ nA n ≤ 4096 then s else -1) else
  if nOp n = 9 then (if 1 ≤ nA n ∧ nA n ≤ 4096 then s * nA n else -1) else s
def kidW (wide : List Int) (n : Ad.V) : List Int := (nKids n).map fun k => wide.getD k.toNat 0
def NodeP (d : List Ae.V) (wide : List Int) (n : Ad.V) (w : Int) : Prop :=
  KidsIn n wide.length ∧ PlainP n ∧ FormP d n ∧ w = widF d n (kidW wide n).sum ∧ 1 ≤ w ∧ w ≤ 4096
theorem P5 {A : Type} (l : List A) : ((l.length : Int) == 0) = decide (l.length = 0) := by
  cases h : decide (l.length = 0) with
  | true => have := of_decide_eq_true h; rw [this]; rfl
  | false => have := of_decide_eq_false h; exact beq_eq_false_iff_ne.2 (by omega)
theorem Kc {a b : Int} : (a != b) = decide (a ≠ b) := by
  cases h : decide (a ≠ b) with
  | true => exact bne_iff_ne.2 (of_decide_eq_true h)
  | false => have := of_decide_eq_false h; simp at this; rw [this]; simp
theorem IB {a b : Int} : (a == b) = decide (a = b) := by
  cases h : decide (a = b) with
  | true => rw [of_decide_eq_true h]; simp
  | false => exact beq_eq_false_iff_ne.2 (of_decide_eq_false h)
theorem OE (n : Ad.V) : AG n.2.2.2.2.1 = decide (NoB n) := by
  have h1 : (nW n == 0) = decide (nW n = 0) := IB
  have h2 := P5 (nWs n)
  show ((nW n == 0) && (((nWs n).length : Int) == 0)) = _
  rw [h1, h2]
  exact (Bool.decide_and _ _).symm
theorem Rk (n : Ad.V) : Av n.1 = decide (OneP n) := by
  unfold Av; exact HJ _ _ _
theorem QB {d : List Ae.V} {n : Ad.V} {i : Nat} (hn : NodeB n) (hi : i ≤ 1048576) (hd : d.length ≤ 1048576) : Ret (GC d n (i : Int)) fun r => r = true ↔ KidsIn n i ∧ PlainP n ∧ FormP d n := by
  unfold GC
  refine Ret.bind (P := fun t => (t = .inl () ∧ ¬ KidsIn n i) ∨ (t = .inr () ∧ KidsIn n i)) ?_ fun t ht => ?_
  · unfold JG
    refine Bz (fun j (_ : Unit) => (j : Int)) (nKids n).length (fun j _ => ∀ k, k < j → 0 ≤ (nKids n).getD k 0 ∧ (nKids n).getD k 0 < (i : Int)) (fun j _ hj hJ => ?_) (fun _ hJ => ?_) (s0 := ()) (fun i h => by omega)
    · unfold D3 Gs
      have hlen := hn.1
      show Ret (bif decide ((j : Int) < ((nKids n).length : Int)) then (if 0 ≤ (j : Int) ∧ (j : Int) < ((nKids n).length : Int) then (bif !AA ((nKids n).getD (j : Int).toNat 0) 0 (IntKind.i64.wrap ((i : Int) - 1)) then _ else _) else none) else _) _
      rw [dlt hj, cond_true, if_pos (rng hj), Int.toNat_natCast, wrap64 (x := (i : Int) - 1) (by omega) (by omega), HJ]
      by_cases h : 0 ≤ (nKids n).getD j 0 ∧ (nKids n).getD j 0 < (i : Int)
      · rw [decide_eq_true (by omega)]
        simp only [Bool.not_true, cond_false]
        rw [stepN hj (by omega)]
        refine Ret.mk ⟨(), rfl, fun k hk => ?_⟩
        rcases Nat.lt_or_ge k j with h' | h'
        · exact hJ k h'
        · rw [show k = j by omega]; exact h
      · rw [decide_eq_false (by omega)]
        exact Ret.mk (.inl ⟨rfl, fun hk => h (hk _ (Ay hj))⟩)
    · unfold D3 Gs
      show Ret (bif decide (((nKids n).length : Int) < ((nKids n).length : Int)) then _ else _) _
      rw [dge, cond_false]
      refine Ret.mk (.inr ⟨rfl, fun k hk => ?_⟩)
      obtain ⟨m, hm, rfl⟩ := List.getElem_of_mem hk
      have := hJ m hm
      rwa [show (nKids n).getD m 0 = (nKids n)[m] by simp [List.getD, hm]] at this
  · rcases ht with ⟨rfl, h⟩ | ⟨rfl, h⟩
    · exact Ret.mk ⟨fun h => by (cases h), fun h' => absurd h'.1 h⟩
    · refine Ret.bind (P := fun t => (t = .inl () ∧ ¬ PlainP n) ∨ (t = .inr () ∧ PlainP n)) ?_ fun t ht => ?_
      · unfold H8 mkr
        have hb := OE n
        have h1 := Rk n
        have e1 : ∀ x : Int, (n.1 != x) = decide (nOp n ≠ x) := fun x => Kc
        have e2 : (n.2.1 != (0 : Int)) = decide (nVar n ≠ 0) := Kc
        have e3 : (n.2.2.2.1 != (0 : Int)) = decide (nB n ≠ 0) := Kc
        have e4 : (n.2.2.1 != (0 : Int)) = decide (nA n ≠ 0) := Kc
        rw [hb, h1, e1, e1, e1, e2, e3, e4]
        unfold PlainP
        by_cases a1 : nOp n = 1 <;> by_cases a2 : nOp n = 2 <;> by_cases a3 : nOp n = 4 <;> by_cases a4 : OneP n <;> by_cases a5 : nVar n = 0 <;> by_cases a6 : NoB n <;> by_cases a7 : nB n = 0 <;> by_cases a8 : nA n = 0 <;>
          first | (exfalso; omega) | (simp [a1, a2, a3, a4, a5, a6, a7, a8, Ji]; done)
      · rcases ht with ⟨rfl, h2⟩ | ⟨rfl, h2⟩
        · exact Ret.mk ⟨fun h => by (cases h), fun h' => absurd h'.2.1 h2⟩
        · have hk := hn.1
          have e1 : ∀ x : Int, (n.1 == x) = decide (nOp n = x) := fun x => IB
          have e2 : ((n.2.2.2.2.2.1.length : Int) == 0) = decide ((nKids n).length = 0) := P5 (nKids n)
          have e3 : ((n.2.2.2.2.2.1.length : Int) == 1) = decide ((nKids n).length = 1) := by
            show (((nKids n).length : Int) == 1) = _
            rw [IB, decide_eq_decide]; omega
          have e4 : decide ((n.2.2.2.2.2.1.length : Int) ≥ 2) = decide (2 ≤ (nKids n).length) := by
            show decide (((nKids n).length : Int) ≥ 2) = _
            rw [decide_eq_decide]; omega
          have e5 : AA n.2.1 0 (IntKind.i64.wrap ((d.length : Int) - 1)) = decide (0 ≤ nVar n ∧ nVar n < (d.length : Int)) := by
            rw [HJ, wrap64 (x := (d.length : Int) - 1) (by omega) (by omega), decide_eq_decide]
            show 0 ≤ nVar n ∧ nVar n ≤ (d.length : Int) - 1 ↔ _
            omega
          obtain ⟨r, hr, hq⟩ := Ly (w := nW n) hn.2.2 hn.2.1
          have e6 : DM n.2.2.2.2.1 = some r := hr
          have hv : ValP n ↔ r = true := hq.symm
          have h1 := Rk n
          simp only [Sum.elim_inr]
          rw [e1, e1, e1, e2, e3, e4, e5, e6, h1]
          unfold FormP
          rw [show (4 ≤ nOp n ∧ nOp n ≤ 9 ∧ (nKids n).length = 1) = (OneP n ∧ (nKids n).length = 1) from propext and_assoc.symm, hv]
          have hone : OneP n ↔ 4 ≤ nOp n ∧ nOp n ≤ 9 := Iff.rfl
          by_cases a1 : nOp n = 1
          · have a4 : ¬ OneP n := by rw [hone]; omega
            by_cases a5 : (nKids n).length = 0
            · simp [a1, a4, a5, h, h2, Ji]
            · simp [a1, a4, a5, h, h2, Ji]
          · by_cases a2 : nOp n = 2
            · have a4 : ¬ OneP n := by rw [hone]; omega
              by_cases a5 : (nKids n).length = 0
              · simp [a2, a4, a5, h, h2, Ji]
              · simp [a2, a4, a5, h, h2, Ji]
            · by_cases a3 : nOp n = 3
              · have a4 : ¬ OneP n := by rw [hone]; omega
                simp [a3, a4, h, h2, Ji]
              · by_cases a4 : OneP n
                · simp [a1, a2, a3, a4, h, h2, Ji]
                · simp [a1, a2, a3, a4, h, h2, Ji]
def sumK (wide : List Int) (n : Ad.V) : Int := (kidW wide n).sum
def WideB (wide : List Int) : Prop := wide.length ≤ 1048576 ∧ ∀ w ∈ wide, 1 ≤ w ∧ w ≤ 4096
theorem Ou {wide : List Int} (h : WideB wide) {k : Int} (hk : 0 ≤ k ∧ k < (wide.length : Int)) : 1 ≤ wide.getD k.toNat 0 ∧ wide.getD k.toNat 0 ≤ 4096 := h.2 _ (Ay (by omega))
theorem Mp {wide : List Int} {n : Ad.V} {k : Nat} (hk : k < (nKids n).length) : ((kidW wide n).take (k + 1)).sum = ((kidW wide n).take k).sum + wide.getD ((nKids n).getD k 0).toNat 0 := by
  have hl : k < (kidW wide n).length := by unfold kidW; rw [List.length_map]; exact hk
  rw [AL hl (z := 0), List.sum_append]
  unfold kidW
  rw [KQ (fun k => wide.getD k.toNat 0) hk (y := 0)]
  simp
theorem LB {wide : List Int} {n : Ad.V} (hw : WideB wide) (hin : KidsIn n wide.length) : ∀ k, k ≤ (nKids n).length → (k : Int) ≤ ((kidW wide n).take k).sum ∧ ((kidW wide n).take k).sum ≤ 4096 * k := by
  intro k
  induction k with
  | zero => simp
  | succ k ih =>
    intro hk
    rw [Mp (by omega)]
    have := ih (by omega)
    have := Ou hw (hin _ (Ay (z := 0) (show k < (nKids n).length by omega)))
    omega
theorem O4 (wide : List Int) (n : Ad.V) : (kidW wide n).take (nKids n).length = kidW wide n := List.take_of_length_le (by unfold kidW; rw [List.length_map]; exact Nat.le_refl _)
theorem KN {wide : List Int} {n : Ad.V} (hw : WideB wide) (hin : KidsIn n wide.length) : ((nKids n).length : Int) ≤ sumK wide n ∧ sumK wide n ≤ 4096 * (nKids n).length := by
  have := LB hw hin _ (Nat.le_refl _)
  rw [O4] at this
  exact this
theorem QN {d : List Ae.V} {wide : List Int} {n : Ad.V} (hn : NodeB n) (hw : WideB wide) (hin : KidsIn n wide.length) (hf : FormP d n) : Ret (Gw d n wide) fun r => r = widF d n (min 8192 (sumK wide n)) := by
  unfold Gw
  have hlen := hn.1
  refine Ret.bind (P := fun t => t = min 8192 (sumK wide n)) ?_ fun t ht => ?_
  · unfold JE
    have h0 : min 8192 (((kidW wide n).take 0).sum) = 0 := rfl
    have := Bz (f := CH d wide n) (fun k (_ : Unit) => (min 8192 (((kidW wide n).take k).sum), (k : Int))) (nKids n).length (fun _ _ => True) (Q := fun t => t = min 8192 (sumK wide n)) (fun k _ hk _ => ?_) (fun _ _ => ?_) (s0 := ()) trivial
    · rw [h0] at this; exact this
    · unfold CH Gl
      have hkin := hin _ (Ay (z := 0) hk)
      have hb := LB hw hin k (by omega)
      have hwk := Ou hw hkin
      show Ret (bif decide ((k : Int) < ((nKids n).length : Int)) then (if 0 ≤ (k : Int) ∧ (k : Int) < ((nKids n).length : Int) then (if 0 ≤ (nKids n).getD (k : Int).toNat 0 ∧ (nKids n).getD (k : Int).toNat 0 < (wide.length : Int) then some (Sum.inl (if IntKind.i64.wrap (min 8192 (((kidW wide n).take k).sum) + wide.getD ((nKids n).getD (k : Int).toNat 0).toNat 0) < 8192 then IntKind.i64.wrap (min 8192 (((kidW wide n).take k).sum) + wide.getD ((nKids n).getD (k : Int).toNat 0).toNat 0) else 8192, IntKind.i64.wrap ((k : Int) + 1))) else none) else none) else _) _
      rw [dlt hk, cond_true, if_pos (rng hk), Int.toNat_natCast, if_pos hkin, stepN hk (by omega)]
      refine Ret.mk ⟨(), ?_, trivial⟩
      rw [wrap64 (by omega) (by omega), Mp hk]
      refine congrArg (·, ((k + 1 : Nat) : Int)) ?_
      split <;> omega
    · unfold CH Gl
      show Ret (bif decide (((nKids n).length : Int) < ((nKids n).length : Int)) then _ else _) _
      rw [dge, cond_false]
      refine Ret.mk ?_
      show min 8192 (((kidW wide n).take (nKids n).length).sum) = _
      rw [O4]; rfl
  · subst ht
    generalize hS : min 8192 (sumK wide n) = S
    have hSb : 0 ≤ S ∧ S ≤ 8192 := by have := KN hw hin; omega
    have e1 : ∀ x : Int, (n.1 == x) = decide (nOp n = x) := fun x => IB
    have e2 : AA n.2.2.1 0 4096 = decide (0 ≤ nA n ∧ nA n ≤ 4096) := HJ _ _ _
    have e3 : AA n.2.2.1 1 4096 = decide (1 ≤ nA n ∧ nA n ≤ 4096) := HJ _ _ _
    have e4 : (decide (n.2.2.2.1 < 0) || (decide (n.2.2.1 < n.2.2.2.1) || decide (n.2.2.1 ≥ S))) = decide (¬ (0 ≤ nB n ∧ nB n ≤ nA n ∧ nA n < S)) := by
      show (decide (nB n < 0) || (decide (nA n < nB n) || decide (nA n ≥ S))) = _
      rw [← Bool.decide_or, ← Bool.decide_or, decide_eq_decide]; omega
    unfold H9 widF mkr
    rw [e1, e1, e1, e1, e1, e1, e1, e1, e2, e3, e4]
    by_cases a1 : nOp n = 1
    · have hv : 0 ≤ nVar n ∧ nVar n < (d.length : Int) := by
        rcases hf with h | h | h | h
        · exact h.2.2
        · omega
        · omega
        · omega
      rw [if_pos a1, decide_eq_true a1, cond_true, if_pos (show 0 ≤ n.2.1 ∧ n.2.1 < (d.length : Int) from hv)]
      exact Ret.mk rfl
    · rw [if_neg a1, decide_eq_false a1, cond_false]
      by_cases a2 : nOp n = 2
      · rw [if_pos a2, decide_eq_true a2, cond_true]
        exact Ret.mk rfl
      · rw [if_neg a2, decide_eq_false a2, cond_false]
        by_cases a4 : nOp n = 4
        · rw [if_pos a4, decide_eq_true a4, cond_true]
          by_cases h : 0 ≤ nB n ∧ nB n ≤ nA n ∧ nA n < S
          · rw [if_pos h, decide_eq_false (fun hh => hh h), cond_false]
            refine Ret.mk ?_
            show IntKind.i64.wrap (IntKind.i64.wrap (nA n - nB n) + 1) = _
            rw [wrap64 (x := nA n - nB n) (by omega) (by omega), wrap64 (by omega) (by omega)]
          · rw [if_neg h, decide_eq_true h, cond_true]
            exact Ret.mk rfl
        · rw [if_neg a4, decide_eq_false a4, cond_false]
          by_cases a5 : nOp n = 5 ∨ nOp n = 6
          · rw [if_pos a5]
            have hc : (bif decide (nOp n = 5) then decide (nOp n = 5) else decide (nOp n = 6)) = true := by
              rcases a5 with h | h
              · simp [h]
              · simp [h]
            rw [hc, cond_true]
            by_cases h : 0 ≤ nA n ∧ nA n ≤ 4096
            · rw [if_pos h, decide_eq_true h]
              refine Ret.mk ?_
              show IntKind.i64.wrap (S + nA n) = _
              rw [wrap64 (by omega) (by omega)]
            · rw [if_neg h, decide_eq_false h]
              exact Ret.mk rfl
          · rw [if_neg a5]
            have hc : (bif decide (nOp n = 5) then decide (nOp n = 5) else decide (nOp n = 6)) = false := by
              simp only [not_or] at a5
              simp [a5]
            rw [hc, cond_false]
            by_cases a7 : nOp n = 7 ∨ nOp n = 8
            · rw [if_pos a7]
              have hc : (bif decide (nOp n = 7) then decide (nOp n = 7) else decide (nOp n = 8)) = true := by
                rcases a7 with h | h
                · simp [h]
                · simp [h]
              rw [hc, cond_true]
              by_cases h : 0 ≤ nA n ∧ nA n ≤ 4096
              · rw [if_pos h, decide_eq_true h]
                exact Ret.mk rfl
              · rw [if_neg h, decide_eq_false h]
                exact Ret.mk rfl
            · rw [if_neg a7]
              have hc : (bif decide (nOp n = 7) then decide (nOp n = 7) else decide (nOp n = 8)) = false := by
                simp only [not_or] at a7
                simp [a7]
              rw [hc, cond_false]
              by_cases a9 : nOp n = 9
              · rw [if_pos a9, decide_eq_true a9, cond_true]
                by_cases h : 1 ≤ nA n ∧ nA n ≤ 4096
                · rw [if_pos h, decide_eq_true h]
                  refine Ret.mk ?_
                  show IntKind.i64.wrap (S * nA n) = _
                  have h1 : 0 ≤ S * nA n := Int.mul_nonneg hSb.1 (by omega)
                  have h2 : S * nA n ≤ 8192 * 4096 := Int.mul_le_mul hSb.2 h.2 (by omega) (by omega)
                  rw [wrap64 (by omega) (by omega)]
                · rw [if_neg h, decide_eq_false h]
                  exact Ret.mk rfl
              · rw [if_neg a9, decide_eq_false a9, cond_false]
                exact Ret.mk rfl
end Go.Proofs.X
namespace Go.Proofs.X
open Go Go.Va
set_option maxRecDepth 100000
theorem UO {d : List Ae.V} {wide : List Int} {n : Ad.V} (hw : WideB wide) (hin : KidsIn n wide.length) (hf : FormP d n) : widF d n (min 8192 (sumK wide n)) = widF d n (sumK wide n) ∨ (4096 < widF d n (min 8192 (sumK wide n)) ∧ 4096 < widF d n (sumK wide n)) := by
  have hb := KN hw hin
  rcases hf with h | h | h | h
  · left; simp [widF, h.1]
  · left; simp [widF, h.1]
  · by_cases hs : sumK wide n ≤ 8192
    · left; rw [show min 8192 (sumK wide n) = sumK wide n by omega]
    · right
      have e : ∀ S, widF d n S = S := fun S => by simp [widF, h.1]
      rw [e, e]; omega
  · left; rw [show min 8192 (sumK wide n) = sumK wide n by omega]
instance (n : Ad.V) : Decidable (PlainP n) := inferInstanceAs (Decidable (_ ∧ _ ∧ _ ∧ _))
theorem Vg (n : Ad.V) : BY n = decide (PlainP n) := by
  have hb : ((n.2.2.2.2.1.1 == (0 : Int)) && ((n.2.2.2.2.1.2.1.length : Int) == 0)) = decide (NoB n) := OE n
  have h1 : (decide (n.1 ≥ 4) && decide (n.1 ≤ 9)) = decide (OneP n) := (Bool.decide_and _ _).symm
  have e1 : ∀ x : Int, (n.1 != x) = decide (nOp n ≠ x) := fun x => Kc
  have e0 : (n.1 == (2 : Int)) = decide (nOp n = 2) := IB
  have e2 : (n.2.1 != (0 : Int)) = decide (nVar n ≠ 0) := Kc
  have e3 : (n.2.2.2.1 != (0 : Int)) = decide (nB n ≠ 0) := Kc
  have e4 : (n.2.2.1 != (0 : Int)) = decide (nA n ≠ 0) := Kc
  have hp : decide (PlainP n) = decide ((nOp n ≠ 1 → nVar n = 0) ∧ (nOp n ≠ 2 → NoB n) ∧ (nOp n ≠ 4 → nB n = 0) ∧ (¬ OneP n → nA n = 0)) := rfl
  rw [hp]
  unfold BY
  rw [hb, h1, e1, e1, e0, e2, e3, e4]
  by_cases a1 : nOp n = 1 <;> by_cases a2 : nOp n = 2 <;> by_cases a3 : nOp n = 4 <;> by_cases a4 : OneP n <;> by_cases a5 : nVar n = 0 <;> by_cases a6 : NoB n <;> by_cases a7 : nB n = 0 <;> by_cases a8 : nA n = 0 <;>
    first | (exfalso; omega) | (simp [a1, a2, a3, a4, a5, a6, a7, a8]; done)
theorem Qg {d : List Ae.V} {wide : List Int} {n : Ad.V} (hn : NodeB n) (hw : WideB wide) (hd : d.length ≤ 1048576) (hin : KidsIn n wide.length) : Ret (B3 n d (kidW wide n)) fun r => (FormP d n → r = widF d n (sumK wide n)) ∧ (¬ FormP d n → r = -1) := by
  have hlen := hn.1
  have hkl : (kidW wide n).length = (nKids n).length := by unfold kidW; rw [List.length_map]
  have hS := KN hw hin
  have e1 : ∀ x : Int, (n.1 == x) = decide (nOp n = x) := fun x => IB
  have e2 : ((((kidW wide n).length : Nat) : Int) == 0) = decide ((nKids n).length = 0) := by rw [P5, hkl]
  have e3 : ((((kidW wide n).length : Nat) : Int) != 1) = decide ((nKids n).length ≠ 1) := by rw [Kc, decide_eq_decide]; omega
  have e4 : decide ((((kidW wide n).length : Nat) : Int) > 1) = decide (2 ≤ (nKids n).length) := by rw [decide_eq_decide]; omega
  have e5 : Ap n.2.1 0 (IntKind.i64.wrap ((d.length : Int) - 1)) = decide (0 ≤ nVar n ∧ nVar n < (d.length : Int)) := by
    rw [DY, wrap64 (x := (d.length : Int) - 1) (by omega) (by omega), decide_eq_decide]
    show 0 ≤ nVar n ∧ nVar n ≤ (d.length : Int) - 1 ↔ _
    omega
  have e6 : Ap n.2.2.1 0 4096 = decide (0 ≤ nA n ∧ nA n ≤ 4096) := DY _ _ _
  have e7 : Ap n.2.2.1 1 4096 = decide (1 ≤ nA n ∧ nA n ≤ 4096) := DY _ _ _
  have hone : OneP n ↔ 4 ≤ nOp n ∧ nOp n ≤ 9 := Iff.rfl
  obtain ⟨f, hf⟩ : ∃ f, f = (bif decide ((((kidW wide n).length : Nat) : Int) > 0) then (kidW wide n).getD 0 0 else 0) := ⟨_, rfl⟩
  have hf1 : (nKids n).length = 1 → f = sumK wide n := fun h => by
    rw [hf, decide_eq_true (by omega), cond_true]
    unfold sumK
    obtain ⟨x, hx⟩ := List.length_eq_one_iff.1 (show (kidW wide n).length = 1 by omega)
    rw [hx]; simp
  unfold B3 mkr
  rw [show Cx n d (kidW wide n) = some f by
    unfold Cx
    rw [hf]
    by_cases h : (nKids n).length = 0
    · rw [decide_eq_false (by omega)]; rfl
    · rw [decide_eq_true (by omega), cond_true, cond_true, if_pos ⟨by omega, by omega⟩]; rfl, Option.bind_some, e5, e6, e7]
  rw [e1, e1, e1, e1, e1, e1, e1, e1, e2, e3, e4]
  have hF : FormP d n ↔ (nOp n = 1 ∧ (nKids n).length = 0 ∧ 0 ≤ nVar n ∧ nVar n < (d.length : Int)) ∨ (nOp n = 2 ∧ (nKids n).length = 0 ∧ ValP n) ∨ (nOp n = 3 ∧ 2 ≤ (nKids n).length) ∨ (4 ≤ nOp n ∧ nOp n ≤ 9 ∧ (nKids n).length = 1) := Iff.rfl
  have neg1 : ¬ FormP d n → Ret (some (-1 : Int)) fun r => (FormP d n → r = widF d n (sumK wide n)) ∧ (¬ FormP d n → r = -1) := fun h => Ret.mk ⟨fun h' => absurd h' h, fun _ => rfl⟩
  have pos : ∀ v : Int, FormP d n → v = widF d n (sumK wide n) → Ret (some v) fun r => (FormP d n → r = widF d n (sumK wide n)) ∧ (¬ FormP d n → r = -1) := fun v h e => Ret.mk ⟨fun _ => e, fun h' => absurd h h'⟩
  by_cases c1 : nOp n = 1 ∧ (nKids n).length = 0 ∧ (0 ≤ nVar n ∧ nVar n < (d.length : Int))
  · rw [← Bool.decide_and, ← Bool.decide_and, decide_eq_true c1, cond_true, if_pos (show 0 ≤ n.2.1 ∧ n.2.1 < (d.length : Int) from c1.2.2)]
    exact pos _ (hF.2 (.inl c1)) (by unfold widF; rw [if_pos c1.1]; rfl)
  · rw [← Bool.decide_and, ← Bool.decide_and, decide_eq_false c1, cond_false]
    obtain ⟨b, hb1, hb2⟩ : ∃ b, Cs n (kidW wide n) f = some b ∧ (b = true ↔ nOp n = 2 ∧ (nKids n).length = 0 ∧ ValP n) := by
      unfold Cs
      rw [e1, e2]
      obtain ⟨r, hr, hq⟩ := Lb (w := nW n) hn.2.2 hn.2.1
      have e6 : DG n.2.2.2.2.1 = some r := hr
      rw [e6]
      have hq : r = true ↔ ValP n := hq
      by_cases a2 : nOp n = 2
      · by_cases a3 : (nKids n).length = 0
        · rw [decide_eq_true a2, decide_eq_true a3]
          exact ⟨r, rfl, by rw [hq]; exact ⟨fun h => ⟨a2, a3, h⟩, fun h => h.2.2⟩⟩
        · rw [decide_eq_true a2, decide_eq_false a3]
          exact ⟨false, rfl, fun h => by (cases h), fun h => absurd h.2.1 a3⟩
      · rw [decide_eq_false a2]
        exact ⟨false, rfl, fun h => by (cases h), fun h => absurd h.1 a2⟩
    rw [hb1, Option.bind_some]
    cases b with
    | true =>
      have c2 := hb2.1 rfl
      exact pos _ (hF.2 (.inr (.inl c2))) (by unfold widF; rw [if_neg (by omega), if_pos c2.1]; rfl)
    | false =>
      have c2 : ¬ (nOp n = 2 ∧ (nKids n).length = 0 ∧ ValP n) := fun h => by have := hb2.2 h; cases this
      rw [cond_false, ← Bool.decide_and]
      by_cases c3 : nOp n = 3 ∧ 2 ≤ (nKids n).length
      · rw [decide_eq_true c3, cond_true]
        unfold GB
        have := BJ (f := AN (kidW wide n) (((kidW wide n).length : Nat) : Int)) (fun k => ((((kidW wide n).take k).sum : Int), (k : Int))) (t := sumK wide n) (kidW wide n).length (fun k hk => by
          unfold AN CQ
          rw [hkl] at hk
          have hb := LB hw hin k (by omega)
          have hwk := Ou hw (hin _ (Ay (z := 0) hk))
          have hg : (kidW wide n).getD k 0 = wide.getD ((nKids n).getD k 0).toNat 0 := by unfold kidW; exact KQ (fun k => wide.getD k.toNat 0) hk
          simp only
          rw [hkl, dlt hk, cond_true, if_pos (rng hk), Int.toNat_natCast, stepN hk (by omega), Mp hk]
          show some (Sum.inl (IntKind.i64.wrap (((kidW wide n).take k).sum + (kidW wide n).getD k 0), _)) = _
          rw [hg, wrap64 (by omega) (by omega)]) (by
          unfold AN CQ
          simp only
          rw [dge, cond_false, List.take_of_length_le (Nat.le_refl _)]; rfl)
        rw [show fix (AN (kidW wide n) (((kidW wide n).length : Nat) : Int)) (0, 0) = some (sumK wide n) from this]
        exact pos _ (hF.2 (.inr (.inr (.inl c3)))) (by unfold widF; simp [c3.1])
      · rw [decide_eq_false c3, cond_false]
        by_cases c4 : (nKids n).length = 1
        · rw [decide_eq_false (fun h => h c4), cond_false]
          have hfS := hf1 c4
          have hSb : 0 ≤ f ∧ f ≤ 4096 := by omega
          have hpos : 4 ≤ nOp n ∧ nOp n ≤ 9 → FormP d n := fun h => hF.2 (.inr (.inr (.inr ⟨h.1, h.2, c4⟩)))
          have e4' : (decide (n.2.2.2.1 ≥ 0) && (decide (n.2.2.2.1 ≤ n.2.2.1) && decide (n.2.2.1 < f))) = decide (0 ≤ nB n ∧ nB n ≤ nA n ∧ nA n < f) := by
            show (decide (nB n ≥ 0) && (decide (nB n ≤ nA n) && decide (nA n < f))) = _
            rw [← Bool.decide_and, ← Bool.decide_and]
          rw [e4', ← Bool.decide_and, ← Bool.decide_and, ← Bool.decide_and, ← Bool.decide_and]
          have ecx : (n.2.2.1 : Int) = nA n := rfl
          have ecb : (n.2.2.2.1 : Int) = nB n := rfl
          have hw0 : ∀ v, v = widF d n f → v = widF d n (sumK wide n) := fun v h => by rw [← hfS]; exact h
          by_cases a4 : nOp n = 4
          · by_cases h : 0 ≤ nB n ∧ nB n ≤ nA n ∧ nA n < f
            · rw [decide_eq_true ⟨a4, h⟩, cond_true]
              refine pos _ (hpos (by omega)) (hw0 _ ?_)
              show IntKind.i64.wrap (IntKind.i64.wrap (nA n - nB n) + 1) = _
              rw [wrap64 (x := nA n - nB n) (by omega) (by omega), wrap64 (by omega) (by omega)]
              unfold widF; simp [a4, h]
            · have : ∀ v : Int, v = -1 → v = widF d n f := fun v hv => by unfold widF; simp [a4, h, hv]
              simp [a4, h]
              exact pos _ (hpos (by omega)) (hw0 _ (this _ rfl))
          · by_cases a5 : nOp n = 5 ∨ nOp n = 6
            · by_cases h : 0 ≤ nA n ∧ nA n ≤ 4096
              · have : (bif decide (nOp n = 5) then decide (0 ≤ nA n ∧ nA n ≤ 4096) else decide (nOp n = 6 ∧ 0 ≤ nA n ∧ nA n ≤ 4096)) = true := by
                  rcases a5 with h' | h' <;> simp [h', h]
                rw [decide_eq_false (by omega), cond_false, this, cond_true]
                refine pos _ (hpos (by omega)) (hw0 _ ?_)
                show IntKind.i64.wrap (f + nA n) = _
                rw [wrap64 (by omega) (by omega)]
                unfold widF; rcases a5 with h' | h' <;> simp [h', h]
              · have : ∀ v : Int, v = -1 → v = widF d n f := fun v hv => by unfold widF; rcases a5 with h' | h' <;> simp [h', h, hv]
                have h2 := pos _ (hpos (by omega)) (hw0 _ (this _ rfl))
                rcases a5 with h' | h' <;> simp [h', h] <;> exact h2
            · by_cases a7 : nOp n = 7 ∨ nOp n = 8
              · by_cases h : 0 ≤ nA n ∧ nA n ≤ 4096
                · have h2 := pos f (hpos (by omega)) (hw0 _ (by unfold widF; rcases a7 with h' | h' <;> simp [h', h]))
                  rcases a7 with h' | h' <;> simp [h', h] <;> exact h2
                · have : ∀ v : Int, v = -1 → v = widF d n f := fun v hv => by unfold widF; rcases a7 with h' | h' <;> simp [h', h, hv]
                  have h2 := pos _ (hpos (by omega)) (hw0 _ (this _ rfl))
                  rcases a7 with h' | h' <;> simp [h', h] <;> exact h2
              · by_cases a9 : nOp n = 9
                · by_cases h : 1 ≤ nA n ∧ nA n ≤ 4096
                  · have h1 : 0 ≤ f * nA n := Int.mul_nonneg hSb.1 (by omega)
                    have h2 : f * nA n ≤ 4096 * 4096 := Int.mul_le_mul hSb.2 h.2 (by omega) (by omega)
                    have h3 := pos (IntKind.i64.wrap (f * nA n)) (hpos (by omega)) (hw0 _ (by rw [wrap64 (by omega) (by omega)]; unfold widF; simp [a9, h]))
                    simp [a9, h]
                    exact h3
                  · have : ∀ v : Int, v = -1 → v = widF d n f := fun v hv => by unfold widF; simp [a9, h, hv]
                    have h2 := pos _ (hpos (by omega)) (hw0 _ (this _ rfl))
                    simp [a9, h]
                    exact h2
                · simp only [not_or] at a5 a7
                  have h2 := neg1 (by rw [hF]; omega)
                  simp [a4, a5, a7, a9]
                  exact h2
        · rw [decide_eq_true c4, cond_true]
          exact neg1 (by rw [hF]; intro h; rcases h with h | h | h | h; exact c1 h; exact c2 h; exact c3 h; exact c4 h.2.2)
end Go.Proofs.X
namespace Go.Proofs.X
open Go Go.Va
set_option maxRecDepth 100000
def nd (t : List Ad.V) (i : Nat) : Ad.V := t.getD i (Ty.zero Ad)
def Pre (d : List Ae.V) (t : List Ad.V) (ws : List Int) : Prop := ws.length ≤ t.length ∧ ∀ j, j < ws.length → NodeP d (ws.take j) (nd t j) (ws.getD j 0)
def UsedBy (t : List Ad.V) (k i : Nat) : Prop := ∃ j, j < i ∧ (k : Int) ∈ nKids (nd t j)
def TermP (d : List Ae.V) (t : List Ad.V) (ws : List Int) : Prop := 1 ≤ t.length ∧ t.length ≤ 400 ∧ ws.length = t.length ∧ Pre d t ws ∧ ∀ k, k + 1 < t.length → UsedBy t k t.length
def TermB (t : List Ad.V) : Prop := t.length ≤ 1048576 ∧ ∀ n ∈ t, NodeB n
theorem Pre.take {d : List Ae.V} {t : List Ad.V} {ws : List Int} (h : Pre d t ws) (i : Nat) : Pre d t (ws.take i) := by
  have hl := h.1
  refine ⟨by rw [List.length_take]; omega, fun j hj => ?_⟩
  rw [List.length_take] at hj
  have := h.2 j (by omega)
  rwa [List.take_take, Nat.min_eq_left (by omega), show (ws.take i).getD j 0 = ws.getD j 0 by simp [List.getD, show j < i by omega]]
theorem Pre.unique {d : List Ae.V} {t : List Ad.V} {a b : List Int} (ha : Pre d t a) (hb : Pre d t b) (hl : a.length = b.length) : a = b := by
  have : ∀ k, k ≤ a.length → a.take k = b.take k := by
    intro k
    induction k with
    | zero => simp
    | succ k ih =>
      intro hk
      have e := ih (by omega)
      have h1 := ha.2 k (by omega)
      have h2 := hb.2 k (by omega)
      rw [AL (show k < a.length by omega) (z := 0), AL (show k < b.length by omega) (z := 0), e]
      rw [e] at h1
      rw [h1.2.2.2.1, h2.2.2.2.1]
  have := this a.length (Nat.le_refl _)
  rwa [List.take_of_length_le (Nat.le_refl _), List.take_of_length_le (by omega)] at this
theorem Pre.wide {d : List Ae.V} {t : List Ad.V} {ws : List Int} (h : Pre d t ws) (hl : t.length ≤ 1048576) : WideB ws := by
  refine ⟨Nat.le_trans h.1 hl, fun w hw => ?_⟩
  obtain ⟨j, hj, rfl⟩ := List.getElem_of_mem hw
  have := (h.2 j hj).2.2.2.2
  rwa [show ws.getD j 0 = ws[j] by simp [List.getD, hj]] at this
theorem Pre.snoc {d : List Ae.V} {t : List Ad.V} {ws : List Int} {w : Int} (h : Pre d t ws) (hl : ws.length < t.length) (hn : NodeP d ws (nd t ws.length) w) : Pre d t (ws ++ [w]) := by
  refine ⟨by rw [List.length_append]; exact hl, fun j hj => ?_⟩
  rw [List.length_append] at hj
  simp only [List.length_cons, List.length_nil] at hj
  rcases Nat.lt_or_ge j ws.length with h' | h'
  · rw [List.take_append_of_le_length (by omega), show (ws ++ [w]).getD j 0 = ws.getD j 0 by simp [List.getD, List.getElem?_append, h']]
    exact h.2 j h'
  · have : j = ws.length := by omega
    subst this
    rw [MR, List.take_append_of_le_length (Nat.le_refl _), List.take_of_length_le (Nat.le_refl _)]
    exact hn
theorem TermP.node {d : List Ae.V} {t : List Ad.V} {ws ws' : List Int} (h : TermP d t ws') (hp : Pre d t ws) (hl : ws.length < t.length) : ∃ w, NodeP d ws (nd t ws.length) w := by
  have e : ws = ws'.take ws.length := hp.unique (h.2.2.2.1.take _) (by rw [List.length_take, h.2.2.1]; omega)
  have := h.2.2.2.1.2 ws.length (by rw [h.2.2.1]; exact hl)
  rw [← e] at this
  exact ⟨_, this⟩
theorem S7 (wide : List Int) (n : Ad.V) : fillN (fun m => wide.getD ((nKids n).getD m 0).toNat 0) 0 (nKids n).length (nKids n).length = kidW wide n := by
  refine List.ext_getElem (by simp [fillN, kidW]) fun i h1 h2 => ?_
  have : i < (nKids n).length := by simpa [fillN] using h1
  simp [fillN, kidW, List.getD, this]
theorem KI {l : List Int} {x : Int} : x ∈ l ↔ ∃ m, m < l.length ∧ l.getD m 0 = x := by
  constructor
  · intro h
    obtain ⟨m, hm, rfl⟩ := List.getElem_of_mem h
    exact ⟨m, hm, by simp [List.getD, hm]⟩
  · rintro ⟨m, hm, rfl⟩
    exact Ay hm
theorem Lw {l : List Bool} {k j : Nat} (hk : k < l.length) : (l.set k true).getD j false = if j = k then true else l.getD j false := by
  by_cases h : j = k
  · subst h; simp [List.getD, hk]
  · simp [List.getD, h, show ¬ k = j from fun e => h e.symm]
theorem QM {D : List Ae.V} {C E : Int} {t : Ai.V} {q : Ad.V} {ws out : List Int} {used : List Bool} {n : Ad.V} {N : Nat} (hn : NodeB n) (hl : ws.length < N) (hN : N ≤ 1048576) (ho : out = ws ++ List.replicate (N - ws.length) 0) (hu : used.length = N) :
    Ret (FX D C (ws.length : Int) E t out q (nKids n) ((nKids n).length : Int) 0 used (List.replicate (nKids n).length 0)) fun r => (∃ x, r = .inl x ∧ ¬ KidsIn n ws.length) ∨ (∃ u, r = .inr (kidW ws n, u) ∧ KidsIn n ws.length ∧ u.length = N ∧ ∀ k : Nat, k < N → (u.getD k false = true ↔ used.getD k false = true ∨ (k : Int) ∈ nKids n)) := by
  unfold FX
  have hlen := hn.1
  have hol : out.length = N := by rw [ho, List.length_append, List.length_replicate]; omega
  have hget : ∀ k : Nat, k < ws.length → out.getD k 0 = ws.getD k 0 := fun k hk => by rw [ho]; simp [List.getD, List.getElem?_append, hk]
  have := Bz (f := CE D C (ws.length : Int) E t out q (nKids n) ((nKids n).length : Int)) (fun j (u : List Bool) => ((j : Int), u, fillN (fun m => ws.getD ((nKids n).getD m 0).toNat 0) 0 (nKids n).length j)) (nKids n).length
    (fun j u => (∀ m, m < j → 0 ≤ (nKids n).getD m 0 ∧ (nKids n).getD m 0 < (ws.length : Int)) ∧ u.length = N ∧ ∀ k : Nat, k < N → (u.getD k false = true ↔ used.getD k false = true ∨ ∃ m, m < j ∧ (nKids n).getD m 0 = (k : Int)))
    (Q := fun r => (∃ x, r = .inl x ∧ ¬ KidsIn n ws.length) ∨ (∃ u, r = .inr (kidW ws n, u) ∧ KidsIn n ws.length ∧ u.length = N ∧ ∀ k : Nat, k < N → (u.getD k false = true ↔ used.getD k false = true ∨ (k : Int) ∈ nKids n))) (fun j u hj hI => ?_) (fun u hI => ?_) (s0 := used) ⟨fun m hm => by omega, hu, fun k _ => ⟨fun h => .inl h, fun h => by rcases h with h | ⟨m, hm, _⟩; exact h; omega⟩⟩
  · rw [fillN_zero] at this; exact this
  · unfold CE Gt
    simp only
    rw [dlt hj, cond_true, if_pos (rng hj), Int.toNat_natCast, DY, wrap64 (x := (ws.length : Int) - 1) (by omega) (by omega)]
    show Ret (bif !decide (0 ≤ (nKids n).getD j 0 ∧ (nKids n).getD j 0 ≤ (ws.length : Int) - 1) then _ else _) _
    by_cases h : 0 ≤ (nKids n).getD j 0 ∧ (nKids n).getD j 0 ≤ (ws.length : Int) - 1
    · rw [decide_eq_true h]
      simp only [Bool.not_true, cond_false]
      obtain ⟨k, hk⟩ : ∃ k : Nat, (nKids n).getD j 0 = (k : Int) := ⟨((nKids n).getD j 0).toNat, by omega⟩
      have hkl : k < ws.length := by omega
      rw [show (nKids n).getD j (Ty.zero (.int .i64)) = (k : Int) from hk, Int.toNat_natCast, if_pos ⟨by omega, by rw [hol]; omega⟩, if_pos ⟨by omega, by rw [hI.2.1]; omega⟩, fillN_len, if_pos (rng hj), stepN hj (by omega)]
      refine Ret.mk ⟨u.set k true, ?_, fun m hm => ?_, by rw [List.length_set]; exact hI.2.1, fun i hi => ?_⟩
      · rw [← fillN_set]
        have hg : out.getD k (Ty.zero (.int .i64)) = ws.getD ((nKids n).getD j 0).toNat 0 := by
          rw [hk, Int.toNat_natCast]; exact hget k hkl
        rw [hg]
      · rcases Nat.lt_or_ge m j with h' | h'
        · exact hI.1 m h'
        · rw [show m = j by omega]; omega
      · rw [Lw (by rw [hI.2.1]; omega)]
        by_cases hik : i = k
        · subst hik
          simp only [if_true, true_iff]
          exact .inr ⟨j, by omega, hk⟩
        · rw [if_neg hik, hI.2.2 i hi]
          constructor
          · rintro (h | ⟨m, h1, h2⟩)
            · exact .inl h
            · exact .inr ⟨m, by omega, h2⟩
          · rintro (h | ⟨m, h1, h2⟩)
            · exact .inl h
            · rcases Nat.lt_or_ge m j with h' | h'
              · exact .inr ⟨m, h', h2⟩
              · have : m = j := by omega
                subst this
                rw [hk] at h2; omega
    · rw [decide_eq_false h]
      exact Ret.mk (.inl ⟨_, rfl, fun hk => h (by have := hk _ (Ay (z := 0) hj); omega)⟩)
  · unfold CE Gt
    simp only
    rw [dge, cond_false]
    refine Ret.mk (.inr ⟨u, by rw [S7], fun k hk => ?_, hI.2.1, fun k hk => ?_⟩)
    · obtain ⟨m, hm, rfl⟩ := KI.1 hk
      exact hI.1 m hm
    · rw [hI.2.2 k hk, KI]
theorem QI {u : List Bool} (hl : u.length ≤ 1048576) : Ret (Bv u false) fun r => r = true ↔ ∃ k, k < u.length ∧ u.getD k false = false := by
  unfold Bv Ds FN
  refine Ret.bind (P := fun r => 0 ≤ r ↔ ∃ k, k < u.length ∧ u.getD k false = false) (Ret.bind (P := fun t => (∃ j : Nat, t = .inl (j : Int) ∧ j < u.length ∧ u.getD j false = false) ∨ (t = .inr () ∧ ∀ j, j < u.length → u.getD j false = true)) ?_ fun t ht => ?_) fun r hr => Ret.mk (by rw [decide_eq_true_iff]; exact hr)
  · refine Bz (fun j (_ : Unit) => (j : Int)) u.length (fun j _ => ∀ k, k < j → u.getD k false = true) (fun j _ hj hJ => ?_) (fun _ hJ => ?_) (s0 := ()) (fun i h => by omega)
    · unfold BA CB
      rw [dlt hj, cond_true, if_pos (rng hj), Int.toNat_natCast]
      show Ret (bif (false == u.getD j false) then _ else _) _
      cases he : u.getD j false with
      | false => exact Ret.mk (.inl ⟨j, rfl, hj, he⟩)
      | true =>
        rw [stepN hj (by omega)]
        refine Ret.mk ⟨(), rfl, fun k hk => ?_⟩
        rcases Nat.lt_or_ge k j with h' | h'
        · exact hJ k h'
        · rw [show k = j by omega]; exact he
    · unfold BA CB
      rw [dge, cond_false]
      exact Ret.mk (.inr ⟨rfl, hJ⟩)
  · rcases ht with ⟨j, rfl, h1, h2⟩ | ⟨rfl, h⟩
    · exact Ret.mk ⟨fun _ => ⟨j, h1, h2⟩, fun _ => by show (0 : Int) ≤ (j : Int); omega⟩
    · exact Ret.mk ⟨fun h' => absurd (show (0 : Int) ≤ -1 from h') (by omega), fun ⟨j, h1, h2⟩ => by rw [h j h1] at h2; cases h2⟩
theorem Oi {d : List Ae.V} {t : List Ad.V} (ht : TermB t) (hd : d.length ≤ 1048576) : Ret (HL d (t, ())) fun r => (r.1 = true ∧ TermP d t r.2) ∨ (r.1 = false ∧ ¬ ∃ ws, TermP d t ws) := by
  unfold HL mkr
  show Ret (bif (decide ((t.length : Int) < 1) || decide ((t.length : Int) > 400)) then _ else _) _
  by_cases hl : 1 ≤ t.length ∧ t.length ≤ 400
  · rw [decide_eq_false (by omega), decide_eq_false (by omega), Bool.or_false, cond_false]
    rw [show FT d (t, ()) (t.length : Int) = some (List.replicate t.length 0, List.replicate t.length false) by
      unfold FT
      rw [if_pos ⟨rfl, by omega, by omega, by omega, by omega⟩, if_pos ⟨rfl, by omega, by omega, by omega, by omega⟩, Int.toNat_natCast], Option.bind_some]
    refine Ret.bind (P := fun r => (∃ x, r = .inl x ∧ ¬ ∃ ws, TermP d t ws) ∨ (∃ ws u, r = .inr (u, ws) ∧ ws.length = t.length ∧ Pre d t ws ∧ u.length = t.length ∧ ∀ k : Nat, k < t.length → (u.getD k false = true ↔ UsedBy t k t.length))) ?_ fun r hr => ?_
    · unfold JO
      have := Bz (f := CC d (t, ()) (t.length : Int) (t.length : Int)) (fun i (s : List Int × List Bool) => ((i : Int), s.1, s.2)) t.length
        (fun i s => ∃ ws : List Int, ws.length = i ∧ Pre d t ws ∧ s.1 = ws ++ List.replicate (t.length - i) 0 ∧ s.2.length = t.length ∧ ∀ k : Nat, k < t.length → (s.2.getD k false = true ↔ UsedBy t k i))
        (Q := fun r => (∃ x, r = .inl x ∧ ¬ ∃ ws, TermP d t ws) ∨ (∃ ws u, r = .inr (u, ws) ∧ ws.length = t.length ∧ Pre d t ws ∧ u.length = t.length ∧ ∀ k : Nat, k < t.length → (u.getD k false = true ↔ UsedBy t k t.length))) (fun i s hi hI => ?_) (fun s hI => ?_) (s0 := (List.replicate t.length 0, List.replicate t.length false)) ⟨[], rfl, ⟨Nat.zero_le _, fun j hj => by simp at hj⟩, rfl, List.length_replicate, fun k hk => by
          have h0 : (List.replicate t.length false).getD k false = false := by simp [List.getD, hk]
          constructor
          · intro h; rw [h0] at h; cases h
          · rintro ⟨j, hj, _⟩; omega⟩
      · exact this
      · obtain ⟨out, used⟩ := s
        obtain ⟨ws, rfl, hp, ho, hul, hu⟩ := hI
        simp only at ho hul hu
        have hn : NodeB (nd t ws.length) := ht.2 _ (Ay hi)
        have hkl := hn.1
        unfold CC F7
        simp only
        rw [show decide ((ws.length : Int) < (t.length : Int)) = true from dlt hi, cond_true, if_pos (rng hi), Int.toNat_natCast]
        show Ret (bif decide (((nKids (nd t ws.length)).length : Int) > 4096) then _ else if Ty.row (.int .i64) = true ∧ (0 : Int) ≤ ((nKids (nd t ws.length)).length : Int) ∧ ((nKids (nd t ws.length)).length : Int) ≤ ((nKids (nd t ws.length)).length : Int) ∧ ((8 : Nat) : Int) * ((nKids (nd t ws.length)).length : Int) ≤ (281474976710656 : Int) ∧ ((nKids (nd t ws.length)).length : Int) ≤ (9223372036854775807 : Int) then (FX d (t.length : Int) (ws.length : Int) (t.length : Int) (t, ()) out (nd t ws.length) (nKids (nd t ws.length)) ((nKids (nd t ws.length)).length : Int) 0 used (List.replicate ((nKids (nd t ws.length)).length : Int).toNat 0)).bind _ else none) _
        by_cases hk4 : (nKids (nd t ws.length)).length > 4096
        · rw [decide_eq_true (by omega)]
          refine Ret.mk (.inl ⟨_, rfl, fun ⟨ws', h'⟩ => ?_⟩)
          obtain ⟨w, hw⟩ := h'.node hp hi
          have hb := KN (hp.wide ht.1) hw.1
          have hform := hw.2.2.1
          have heq := hw.2.2.2.1
          have hw4 := hw.2.2.2.2.2
          rcases hform with h | h | h | h
          · omega
          · omega
          · have : widF d (nd t ws.length) (kidW ws (nd t ws.length)).sum = sumK ws (nd t ws.length) := by unfold sumK widF; simp [h.1]
            omega
          · omega
        · rw [decide_eq_false (by omega), cond_false, if_pos ⟨rfl, by omega, by omega, by omega, by omega⟩, Int.toNat_natCast]
          refine Ret.bind (QM hn hi ht.1 ho hul) fun r hr => ?_
          rcases hr with ⟨x, rfl, h⟩ | ⟨u, rfl, hin, hul', hu'⟩
          · refine Ret.mk (.inl ⟨_, rfl, fun ⟨ws', h'⟩ => ?_⟩)
            obtain ⟨w, hw⟩ := h'.node hp hi
            exact h hw.1
          · simp only [Sum.elim_inr]
            obtain ⟨r, hr, hq⟩ := Qg (d := d) hn (hp.wide ht.1) hd hin
            rw [show B3 (t.getD ws.length (Ty.zero Ad)) d (kidW ws (nd t ws.length)) = some r from hr, Option.bind_some]
            have hol : out.length = t.length := by rw [ho, List.length_append, List.length_replicate]; omega
            rw [if_pos ⟨by omega, by rw [hol]; omega⟩]
            unfold H7
            rw [show BY (t.getD ws.length (Ty.zero Ad)) = _ from Vg (nd t ws.length), List.length_set, if_pos ⟨by omega, by rw [hol]; omega⟩, Int.toNat_natCast]
            have hgs : (out.set ws.length r).getD ws.length (Ty.zero (.int .i64)) = r := by simp [List.getD, hol, hi]
            rw [hgs, DY]
            have hset : out.set ws.length r = (ws ++ [r]) ++ List.replicate (t.length - (ws.length + 1)) 0 := by
              rw [ho, show t.length - ws.length = (t.length - (ws.length + 1)) + 1 by omega, List.replicate_succ]
              simp
            by_cases hpl : PlainP (nd t ws.length)
            · by_cases hrg : 1 ≤ r ∧ r ≤ 4096
              · rw [decide_eq_true hpl, decide_eq_true hrg]
                simp only [Bool.not_true, cond_false, Option.bind_some]
                have hform : FormP d (nd t ws.length) := by
                  by_cases hf : FormP d (nd t ws.length)
                  · exact hf
                  · have := hq.2 hf; omega
                have hnode : NodeP d ws (nd t ws.length) r := ⟨hin, hpl, hform, hq.1 hform, hrg⟩
                refine Ret.mk ⟨(out.set ws.length r, u), by rw [stepN hi ht.1], ws ++ [r], by simp, hp.snoc hi hnode, hset, hul', fun k hk => ?_⟩
                rw [hu' k hk, hu k hk]
                constructor
                · rintro (⟨j, h1, h2⟩ | h)
                  · exact ⟨j, by omega, h2⟩
                  · exact ⟨ws.length, by omega, h⟩
                · rintro ⟨j, h1, h2⟩
                  rcases Nat.lt_or_ge j ws.length with h' | h'
                  · exact .inl ⟨j, h', h2⟩
                  · rw [show j = ws.length by omega] at h2; exact .inr h2
              · rw [decide_eq_true hpl, decide_eq_false hrg]
                refine Ret.mk (.inl ⟨_, rfl, fun ⟨ws', h'⟩ => ?_⟩)
                obtain ⟨w, hw⟩ := h'.node hp hi
                have := hq.1 hw.2.2.1
                have h3 := hw.2.2.2
                unfold sumK at this
                rw [← this] at h3
                exact hrg (by rw [← h3.1]; exact h3.2)
            · rw [decide_eq_false hpl]
              refine Ret.mk (.inl ⟨_, rfl, fun ⟨ws', h'⟩ => ?_⟩)
              obtain ⟨w, hw⟩ := h'.node hp hi
              exact hpl hw.2.1
      · obtain ⟨out, used⟩ := s
        obtain ⟨ws, hwl, hp, ho, hul, hu⟩ := hI
        simp only at ho hul hu
        unfold CC F7
        simp only
        rw [dge, cond_false]
        rw [Nat.sub_self, List.replicate_zero, List.append_nil] at ho
        subst ho
        exact Ret.mk (.inr ⟨out, used, rfl, hwl, hp, hul, hu⟩)
    · rcases hr with ⟨x, rfl, h⟩ | ⟨ws, u, rfl, hwl, hp, hul, hu⟩
      · exact Ret.mk (.inr ⟨rfl, h⟩)
      · simp only [Sum.elim_inr]
        have e1 : IntKind.i64.wrap ((t.length : Int) - 1) = ((t.length - 1 : Nat) : Int) := wrapN (by omega) (by omega)
        rw [e1, if_pos ⟨by omega, by omega, by rw [hul]; omega⟩, Int.toNat_natCast, List.drop_zero]
        have htl : (u.take (t.length - 1)).length = t.length - 1 := by rw [List.length_take]; omega
        have hgt : ∀ k, k < t.length - 1 → (u.take (t.length - 1)).getD k false = u.getD k false := fun k hk => by simp [List.getD, hk]
        refine Ret.bind (QI (by omega)) fun r hr => Ret.mk ?_
        rw [htl] at hr
        cases r with
        | false =>
          refine .inl ⟨rfl, hl.1, hl.2, hwl, hp, fun k hk => (hu k (by omega)).1 ?_⟩
          cases hc : u.getD k false with
          | true => rfl
          | false => have := hr.2 ⟨k, by omega, by rw [hgt k (by omega)]; exact hc⟩; cases this
        | true =>
          obtain ⟨k, hk, hf⟩ := hr.1 rfl
          rw [hgt k hk] at hf
          refine .inr ⟨rfl, fun ⟨ws', h'⟩ => ?_⟩
          have := (hu k (by omega)).2 (h'.2.2.2.2 k (by omega))
          rw [this] at hf; cases hf
  · have hc : (decide ((t.length : Int) < 1) || decide ((t.length : Int) > 400)) = true := by simp; omega
    rw [hc]
    exact Ret.mk (.inr ⟨rfl, fun ⟨ws, h⟩ => hl ⟨h.1, h.2.1⟩⟩)
end Go.Proofs.X
namespace Go.Proofs.X
open Go Go.Va
set_option maxRecDepth 100000
theorem QK {D : List Ae.V} {W : List Int} {t : List Ad.V} {i : Nat} {used : List Bool} (hi : i < t.length) (hn : NodeB (nd t i)) (hin : KidsIn (nd t i) used.length) :
    Ret (Gh D (i : Int) (t, ()) W 0 used) fun u => u.length = used.length ∧ ∀ k : Nat, k < used.length → (u.getD k false = true ↔ used.getD k false = true ∨ (k : Int) ∈ nKids (nd t i)) := by
  unfold Gh
  have hlen := hn.1
  refine Bz (fun j (u : List Bool) => ((j : Int), u)) (nKids (nd t i)).length (fun j u => u.length = used.length ∧ ∀ k : Nat, k < used.length → (u.getD k false = true ↔ used.getD k false = true ∨ ∃ m, m < j ∧ (nKids (nd t i)).getD m 0 = (k : Int))) (fun j u hj hI => ?_) (fun u hI => ?_) (s0 := used) ⟨rfl, fun k _ => ⟨fun h => .inl h, fun h => by rcases h with h | ⟨m, hm, _⟩; exact h; omega⟩⟩
  · unfold CV Ep
    simp only
    rw [if_pos (rng hi), Int.toNat_natCast, if_pos (rng hi), Int.toNat_natCast]
    show Ret (bif decide ((j : Int) < ((nKids (nd t i)).length : Int)) then (if (0 : Int) ≤ (j : Int) ∧ (j : Int) < ((nKids (nd t i)).length : Int) then (if (0 : Int) ≤ (nKids (nd t i)).getD j 0 ∧ (nKids (nd t i)).getD j 0 < (u.length : Int) then some (Sum.inl (IntKind.i64.wrap ((j : Int) + 1), u.set ((nKids (nd t i)).getD j 0).toNat true)) else none) else none) else _) _
    have hkin := hin _ (Ay (z := 0) hj)
    rw [dlt hj, cond_true, if_pos (rng hj), if_pos ⟨hkin.1, by rw [hI.1]; exact hkin.2⟩, stepN hj (by omega)]
    obtain ⟨k, hk⟩ : ∃ k : Nat, (nKids (nd t i)).getD j 0 = (k : Int) := ⟨((nKids (nd t i)).getD j 0).toNat, by omega⟩
    rw [hk, Int.toNat_natCast]
    refine Ret.mk ⟨_, rfl, by rw [List.length_set]; exact hI.1, fun i' hi' => ?_⟩
    rw [Lw (by rw [hI.1]; omega)]
    by_cases hik : i' = k
    · subst hik
      simp only [if_true, true_iff]
      exact .inr ⟨j, by omega, hk⟩
    · rw [if_neg hik, hI.2 i' hi']
      constructor
      · rintro (h | ⟨m, h1, h2⟩)
        · exact .inl h
        · exact .inr ⟨m, by omega, h2⟩
      · rintro (h | ⟨m, h1, h2⟩)
        · exact .inl h
        · rcases Nat.lt_or_ge m j with h' | h'
          · exact .inr ⟨m, h', h2⟩
          · have : m = j := by omega
            subst this
            rw [hk] at h2; omega
  · unfold CV Ep
    simp only
    rw [if_pos (rng hi), Int.toNat_natCast]
    show Ret (bif decide (((nKids (nd t i)).length : Int) < ((nKids (nd t i)).length : Int)) then _ else some (Sum.inr u)) _
    rw [dge, cond_false]
    refine Ret.mk ⟨hI.1, fun k hk => ?_⟩
    rw [hI.2 k hk, KI]
theorem Ob {d : List Ae.V} {t : List Ad.V} (ht : TermB t) (hd : d.length ≤ 1048576) : Ret (Fg d (t, ())) fun r => (DeclsP d ∧ TermP d t r) ∨ (r = [] ∧ ¬ (DeclsP d ∧ ∃ ws, TermP d t ws)) := by
  unfold Fg
  have htb := ht.1
  obtain ⟨b, hb1, hb2⟩ : ∃ b, Ed d (t, ()) = some b ∧ (b = false ↔ DeclsP d ∧ 1 ≤ t.length ∧ t.length ≤ 400) := by
    obtain ⟨r, hr, hq⟩ := KL d
    unfold Ed
    rw [hr, Option.bind_some]
    show ∃ b, (bif !r then some true else bif decide ((t.length : Int) < 1) then some true else some (decide ((t.length : Int) > 400))) = some b ∧ _
    cases r with
    | false => exact ⟨true, rfl, fun h => by (cases h), fun h => by have := hq.2 h.1; cases this⟩
    | true =>
      have hdp := hq.1 rfl
      by_cases h1 : (t.length : Int) < 1
      · rw [decide_eq_true h1]
        exact ⟨true, rfl, fun h => by (cases h), fun h => by omega⟩
      · rw [decide_eq_false h1]
        refine ⟨_, rfl, ?_⟩
        rw [decide_eq_false_iff_not]
        exact ⟨fun h => ⟨hdp, by omega, by omega⟩, fun h => by omega⟩
  rw [hb1, Option.bind_some]
  cases b with
  | true =>
    refine Ret.mk (.inr ⟨rfl, fun h => ?_⟩)
    obtain ⟨h1, ws, h2⟩ := h
    have := hb2.2 ⟨h1, h2.1, h2.2.1⟩
    cases this
  | false =>
    obtain ⟨hdp, hl1, hl2⟩ := hb2.1 rfl
    rw [cond_false]
    show Ret (if Ty.row .bool = true ∧ (0 : Int) ≤ (t.length : Int) ∧ (t.length : Int) ≤ (t.length : Int) ∧ ((1 : Nat) : Int) * (t.length : Int) ≤ (281474976710656 : Int) ∧ (t.length : Int) ≤ (9223372036854775807 : Int) then (Gp d (t, ()) 0 [] (List.replicate (t.length : Int).toNat false)).bind _ else none) _
    rw [if_pos ⟨rfl, by omega, by omega, by omega, by omega⟩, Int.toNat_natCast]
    refine Ret.bind (P := fun r => (∃ x, r = .inl x ∧ ¬ ∃ ws, TermP d t ws) ∨ (∃ ws u, r = .inr (u, ws) ∧ ws.length = t.length ∧ Pre d t ws ∧ u.length = t.length ∧ ∀ k : Nat, k < t.length → (u.getD k false = true ↔ UsedBy t k t.length))) ?_ fun r hr => ?_
    · unfold Gp
      refine Bz (fun i (s : List Int × List Bool) => ((i : Int), s.1, s.2)) t.length
        (fun i s => s.1.length = i ∧ Pre d t s.1 ∧ s.2.length = t.length ∧ ∀ k : Nat, k < t.length → (s.2.getD k false = true ↔ UsedBy t k i))
        (fun i s hi hI => ?_) (fun s hI => ?_) (s0 := (([] : List Int), List.replicate t.length false)) ⟨rfl, ⟨Nat.zero_le _, fun j hj => by simp at hj⟩, List.length_replicate, fun k hk => by
          have h0 : (List.replicate t.length false).getD k false = false := by simp [List.getD, hk]
          constructor
          · intro h; rw [h0] at h; cases h
          · rintro ⟨j, hj, _⟩; omega⟩
      · obtain ⟨ws, used⟩ := s
        obtain ⟨hwl, hp, hul, hu⟩ := hI
        simp only at hwl hp hul hu
        subst hwl
        have hn : NodeB (nd t ws.length) := ht.2 _ (Ay hi)
        unfold CW Ev
        simp only
        rw [show decide ((ws.length : Int) < (t.length : Int)) = true from dlt hi, cond_true, if_pos (rng hi), Int.toNat_natCast]
        obtain ⟨r, hr, hq⟩ := QB (d := d) (i := ws.length) hn (by omega) hd
        rw [show GC d (t.getD ws.length (Ty.zero Ad)) (ws.length : Int) = some r from hr, Option.bind_some]
        cases r with
        | false =>
          refine Ret.mk (.inl ⟨_, rfl, fun ⟨ws', h'⟩ => ?_⟩)
          obtain ⟨w, hw⟩ := h'.node hp hi
          have := hq.2 ⟨hw.1, hw.2.1, hw.2.2.1⟩
          cases this
        | true =>
          obtain ⟨hin, hpl, hform⟩ := hq.1 rfl
          simp only [Bool.not_true, cond_false]
          rw [if_pos (rng hi)]
          have hwb := hp.wide htb
          obtain ⟨w, hw, hwe⟩ := QN (d := d) hn hwb hin hform
          rw [show Gw d (t.getD ws.length (Ty.zero Ad)) ws = some w from hw, Option.bind_some, HJ]
          have hclip := UO hwb hin hform
          by_cases hrg : 1 ≤ w ∧ w ≤ 4096
          · rw [decide_eq_true hrg]
            simp only [Bool.not_true, cond_false]
            have hnode : NodeP d ws (nd t ws.length) w := ⟨hin, hpl, hform, by
              rcases hclip with h | h
              · rw [hwe, h]; rfl
              · omega, hrg⟩
            rw [if_pos (by show (_ + 1) * 8 ≤ _; omega)]
            refine Ret.bind (QK hi hn (by rw [hul]; exact fun k hk => by have := hin k hk; omega)) fun u hu' => Ret.mk ⟨(ws ++ [w], u), by rw [stepN hi htb], by simp, hp.snoc hi hnode, hu'.1.trans hul, fun k hk => ?_⟩
            rw [hu'.2 k (by omega), hu k hk]
            constructor
            · rintro (⟨j, h1, h2⟩ | h)
              · exact ⟨j, by omega, h2⟩
              · exact ⟨ws.length, by omega, h⟩
            · rintro ⟨j, h1, h2⟩
              rcases Nat.lt_or_ge j ws.length with h' | h'
              · exact .inl ⟨j, h', h2⟩
              · rw [show j = ws.length by omega] at h2; exact .inr h2
          · rw [decide_eq_false hrg]
            refine Ret.mk (.inl ⟨_, rfl, fun ⟨ws', h'⟩ => ?_⟩)
            obtain ⟨v, hv⟩ := h'.node hp hi
            have h3 := hv.2.2.2
            have e : (kidW ws (nd t ws.length)).sum = sumK ws (nd t ws.length) := rfl
            rw [e] at h3
            rcases hclip with h | h
            · rw [hwe, h] at hrg
              exact hrg (by rw [← h3.1]; exact h3.2)
            · omega
      · obtain ⟨ws, used⟩ := s
        obtain ⟨hwl, hp, hul, hu⟩ := hI
        unfold CW Ev
        simp only
        rw [dge, cond_false]
        exact Ret.mk (.inr ⟨ws, used, rfl, hwl, hp, hul, hu⟩)
    · rcases hr with ⟨x, rfl, h⟩ | ⟨ws, u, rfl, hwl, hp, hul, hu⟩
      · exact Ret.mk (.inr ⟨rfl, fun hh => h hh.2⟩)
      · simp only [Sum.elim_inr]
        refine Ret.bind (P := fun r => (r = .inl () ∧ ¬ ∀ k, k + 1 < t.length → u.getD k false = true) ∨ (r = .inr () ∧ ∀ k, k + 1 < t.length → u.getD k false = true)) ?_ fun r hr => ?_
        · unfold Ix
          refine Bz (fun j (_ : Unit) => (j : Int)) (t.length - 1) (fun j _ => ∀ k, k < j → u.getD k false = true) (fun j _ hj hJ => ?_) (fun _ hJ => ?_) (s0 := ()) (fun i h => by omega)
          · unfold CN EH
            rw [stepN (show j < t.length by omega) htb, hul, show decide (((j + 1 : Nat) : Int) < (t.length : Int)) = true from decide_eq_true (by omega), cond_true, if_pos (rng (by omega)), Int.toNat_natCast]
            show Ret (bif !(u.getD j false) then _ else _) _
            cases hc : u.getD j false with
            | false => exact Ret.mk (.inl ⟨rfl, fun h => by rw [h j (by omega)] at hc; cases hc⟩)
            | true =>
              refine Ret.mk ⟨(), rfl, fun k hk => ?_⟩
              rcases Nat.lt_or_ge k j with h' | h'
              · exact hJ k h'
              · rw [show k = j by omega]; exact hc
          · unfold CN EH
            rw [show IntKind.i64.wrap (((t.length - 1 : Nat) : Int) + 1) = (t.length : Int) from wrapN (by omega) (by omega), hul, dge, cond_false]
            exact Ret.mk (.inr ⟨rfl, fun k hk => hJ k (by omega)⟩)
        · rcases hr with ⟨rfl, h⟩ | ⟨rfl, h⟩
          · exact Ret.mk (.inr ⟨rfl, fun ⟨_, ws', h'⟩ => h fun k hk => (hu k (by omega)).2 (h'.2.2.2.2 k hk)⟩)
          · exact Ret.mk (.inl ⟨hdp, hl1, hl2, hwl, hp, fun k hk => (hu k (by omega)).1 (h k hk)⟩)
open Classical in
noncomputable def termW (d : List Ae.V) (t : List Ad.V) : Int := if h : ∃ ws, TermP d t ws then h.choose.getD (t.length - 1) 0 else -1
theorem Od {d : List Ae.V} {t : List Ad.V} {ws : List Int} (h : TermP d t ws) : termW d t = ws.getD (t.length - 1) 0 := by
  have he : ∃ ws, TermP d t ws := ⟨ws, h⟩
  unfold termW
  rw [dif_pos he]
  have h1 := he.choose_spec
  rw [h1.2.2.2.1.unique h.2.2.2.1 (by rw [h1.2.2.1, h.2.2.1])]
theorem JW {d : List Ae.V} {t : List Ad.V} (h : ¬ ∃ ws, TermP d t ws) : termW d t = -1 := by
  unfold termW; rw [dif_neg h]
theorem Pn {d : List Ae.V} {t : List Ad.V} {ws : List Int} (h : TermP d t ws) : 1 ≤ termW d t ∧ termW d t ≤ 4096 := by
  rw [Od h]
  have := h.1
  exact (h.2.2.2.1.2 (t.length - 1) (by rw [h.2.2.1]; omega)).2.2.2.2
theorem JA {d : List Ae.V} {t : List Ad.V} (ht : TermB t) (hd : d.length ≤ 1048576) : Cf d (t, ()) = some (termW d t) := by
  unfold Cf
  refine Ret.eq_ (Ret.bind (Oi ht hd) fun r hr => ?_)
  rcases hr with ⟨h1, h2⟩ | ⟨h1, h2⟩
  · rw [h1]
    simp only [Bool.not_true, cond_false]
    have := h2.1
    have hb := ht.1
    rw [h2.2.2.1, show IntKind.i64.wrap ((t.length : Int) - 1) = ((t.length - 1 : Nat) : Int) from wrapN (by omega) (by omega), if_pos ⟨by omega, by omega⟩, Int.toNat_natCast]
    exact Ret.mk (Od h2).symm
  · rw [h1]
    exact Ret.mk (JW h2).symm
theorem JQ {d : List Ae.V} {t : List Ad.V} (ht : TermB t) (hd : d.length ≤ 1048576) (hdp : DeclsP d) : BS d (t, ()) = some (termW d t) := by
  unfold BS
  refine Ret.eq_ (Ret.bind (Ob ht hd) fun r hr => ?_)
  rcases hr with ⟨_, h2⟩ | ⟨rfl, h2⟩
  · have := h2.1
    have hb := ht.1
    rw [h2.2.2.1, IB, decide_eq_false (by omega), cond_false, show IntKind.i64.wrap ((t.length : Int) - 1) = ((t.length - 1 : Nat) : Int) from wrapN (by omega) (by omega), if_pos ⟨by omega, by omega⟩, Int.toNat_natCast]
    exact Ret.mk (Od h2).symm
  · exact Ret.mk (JW fun h => h2 ⟨hdp, h⟩).symm
end Go.Proofs.X
namespace Go.Proofs.X
open Go Go.Va
set_option maxRecDepth 100000
def li (l : List Af.V) (i : Nat) : Af.V := l.getD i (Ty.zero Af)
def lId (l : List Af.V) (i : Nat) : Int := (li l i).1
def lS (l : List Af.V) (i : Nat) : List Ad.V := (li l i).2.2.1.1
def lT (l : List Af.V) (i : Nat) : List Ad.V := (li l i).2.2.2.1.1
def LitP (d : List Ae.V) (l : List Af.V) (i : Nat) : Prop := (1 ≤ lId l i ∧ lId l i ≤ 1000000) ∧ (0 < i → lId l (i - 1) < lId l i) ∧ 0 ≤ termW d (lS l i) ∧ termW d (lT l i) = termW d (lS l i)
def LitsP (d : List Ae.V) (l : List Af.V) : Prop := l.length ≤ 60 ∧ ∀ i, i < l.length → LitP d l i
def LitB (x : Af.V) : Prop := TermB x.2.2.1.1 ∧ TermB x.2.2.2.1.1
theorem Qd {d : List Ae.V} {l : List Af.V} (hl : ∀ x ∈ l, LitB x) : Ret (Dz d l) fun r => r = true ↔ DeclsP d ∧ LitsP d l := by
  unfold Dz
  obtain ⟨b, hb1, hb2⟩ : ∃ b, CK d l = some b ∧ (b = false ↔ DeclsP d ∧ l.length ≤ 60) := by
    obtain ⟨r, hr, hq⟩ := KL d
    unfold CK
    rw [hr, Option.bind_some]
    cases r with
    | false => exact ⟨true, rfl, fun h => by (cases h), fun h => by have := hq.2 h.1; cases this⟩
    | true =>
      have hdp := hq.1 rfl
      refine ⟨decide ((l.length : Int) > 60), rfl, ?_⟩
      rw [decide_eq_false_iff_not]
      exact ⟨fun h => ⟨hdp, by omega⟩, fun h => by omega⟩
  rw [hb1, Option.bind_some]
  cases b with
  | true => exact Ret.mk ⟨fun h => by (cases h), fun h => by have := hb2.2 ⟨h.1, h.2.1⟩; cases this⟩
  | false =>
    obtain ⟨hdp, hlen⟩ := hb2.1 rfl
    have hd := hdp.1
    rw [cond_false]
    refine Ret.bind (P := fun t => (t = .inl () ∧ ¬ ∀ i, i < l.length → LitP d l i) ∨ (t = .inr () ∧ ∀ i, i < l.length → LitP d l i)) ?_ fun t ht => ?_
    · unfold G6
      refine Bz (fun j (_ : Unit) => (j : Int)) l.length (fun j _ => ∀ k, k < j → LitP d l k) (fun j _ hj hJ => ?_) (fun _ hJ => ?_) (s0 := ()) (fun i h => by omega)
      · unfold B5 Df
        have hB := hl _ (Ay (z := Ty.zero Af) hj)
        have e1 : BS d (l.getD j (Ty.zero Af)).2.2.1 = some (termW d (lS l j)) := JQ hB.1 (by omega) hdp
        have e2 : BS d (l.getD j (Ty.zero Af)).2.2.2.1 = some (termW d (lT l j)) := JQ hB.2 (by omega) hdp
        have e3 : (l.getD j (Ty.zero Af)).1 = lId l j := rfl
        rw [dlt hj, cond_true, if_pos (rng hj), Int.toNat_natCast, e1, Option.bind_some]
        obtain ⟨b, hb1, hb2⟩ : ∃ b, C3 d l (j : Int) (termW d (lS l j)) = some b ∧ (b = false ↔ LitP d l j) := by
          unfold C3 LitP
          rw [if_pos (rng hj), if_pos (rng hj), Int.toNat_natCast, e3, HJ, e2, Option.bind_some]
          by_cases h1 : 1 ≤ lId l j ∧ lId l j ≤ 1000000
          · rw [decide_eq_true h1]
            simp only [Bool.not_true, cond_false]
            have last : ∃ b, (bif decide (termW d (lS l j) < 0) then some true else some (termW d (lT l j) != termW d (lS l j))) = some b ∧ (b = false ↔ 0 ≤ termW d (lS l j) ∧ termW d (lT l j) = termW d (lS l j)) := by
              by_cases h2 : termW d (lS l j) < 0
              · rw [decide_eq_true h2]; exact ⟨true, rfl, fun h => by (cases h), fun h => by omega⟩
              · rw [decide_eq_false h2, cond_false]
                refine ⟨_, rfl, ?_⟩
                rw [bne_eq_false_iff_eq]
                exact ⟨fun h => ⟨by omega, h⟩, fun h => h.2⟩
            obtain ⟨b, hb, hq⟩ := last
            by_cases h2 : 0 < j
            · rw [decide_eq_true (show (j : Int) > 0 by omega), cond_true, show IntKind.i64.wrap ((j : Int) - 1) = ((j - 1 : Nat) : Int) from wrapN (by omega) (by omega), if_pos (rng (by omega)), Int.toNat_natCast]
              have e4 : (l.getD (j - 1) (Ty.zero Af)).1 = lId l (j - 1) := rfl
              rw [e4]
              by_cases h3 : lId l j ≤ lId l (j - 1)
              · rw [decide_eq_true h3]
                exact ⟨true, rfl, fun h => by (cases h), fun h => by have := h.2.1 h2; omega⟩
              · rw [decide_eq_false h3, cond_false, if_pos (rng hj), hb]
                exact ⟨b, rfl, hq.trans ⟨fun h => ⟨h1, fun _ => by omega, h⟩, fun h => h.2.2⟩⟩
            · rw [decide_eq_false (show ¬ (j : Int) > 0 by omega), cond_false, if_pos (rng hj), hb]
              exact ⟨b, rfl, hq.trans ⟨fun h => ⟨h1, fun h' => absurd h' h2, h⟩, fun h => h.2.2⟩⟩
          · rw [decide_eq_false h1]
            exact ⟨true, rfl, fun h => by (cases h), fun h => absurd h.1 h1⟩
        rw [hb1, Option.bind_some]
        cases b with
        | true => exact Ret.mk (.inl ⟨rfl, fun h => by have := hb2.2 (h j hj); cases this⟩)
        | false =>
          rw [cond_false, stepN hj (by omega)]
          refine Ret.mk ⟨(), rfl, fun k hk => ?_⟩
          rcases Nat.lt_or_ge k j with h' | h'
          · exact hJ k h'
          · rw [show k = j by omega]; exact hb2.1 rfl
      · unfold B5 Df
        rw [dge, cond_false]
        exact Ret.mk (.inr ⟨rfl, hJ⟩)
    · rcases ht with ⟨rfl, h⟩ | ⟨rfl, h⟩
      · exact Ret.mk ⟨fun h => by (cases h), fun h' => absurd h'.2.2 h⟩
      · exact Ret.mk ⟨fun _ => ⟨hdp, hlen, h⟩, fun _ => rfl⟩
theorem Qk {d : List Ae.V} {l : List Af.V} (hl : ∀ x ∈ l, LitB x) : Ret (Dy d l) fun r => r = true ↔ DeclsP d ∧ LitsP d l := by
  unfold Dy
  obtain ⟨r, hr, hq⟩ := LW d
  rw [hr, Option.bind_some]
  cases r with
  | false => exact Ret.mk ⟨fun h => by (cases h), fun h => by have := hq.2 h.1; cases this⟩
  | true =>
    have hdp := hq.1 rfl
    have hd := hdp.1
    rw [cond_true]
    unfold EQ
    by_cases hlen : l.length ≤ 60
    · rw [decide_eq_false (by omega : ¬ (l.length : Int) > 60), cond_false]
      refine Ret.bind (P := fun r => r = true ↔ DeclsP d ∧ LitsP d l) (Ret.bind (P := fun t => (t = .inl () ∧ ¬ ∀ i, i < l.length → LitP d l i) ∨ (t = .inr () ∧ ∀ i, i < l.length → LitP d l i)) ?_ fun t ht => ?_) fun r h => Ret.mk h
      · unfold G5
        have := Bz (f := Bm d l (l.length : Int)) (fun j (_ : Unit) => ((if j = 0 then 0 else lId l (j - 1) : Int), (j : Int))) l.length (fun j _ => ∀ k, k < j → LitP d l k) (Q := fun t => (t = .inl () ∧ ¬ ∀ i, i < l.length → LitP d l i) ∨ (t = .inr () ∧ ∀ i, i < l.length → LitP d l i)) (fun j _ hj hJ => ?_) (fun _ hJ => ?_) (s0 := ()) (fun i h => by omega)
        · exact this
        · unfold Bm Dg
          have hB := hl _ (Ay (z := Ty.zero Af) hj)
          have e1 : Cf d (l.getD j (Ty.zero Af)).2.2.1 = some (termW d (lS l j)) := JA hB.1 (by omega)
          have e2 : Cf d (l.getD j (Ty.zero Af)).2.2.2.1 = some (termW d (lT l j)) := JA hB.2 (by omega)
          have e3 : (l.getD j (Ty.zero Af)).1 = lId l j := rfl
          simp only
          rw [dlt hj, cond_true, if_pos (rng hj), Int.toNat_natCast, e1, Option.bind_some]
          obtain ⟨c, hc⟩ : ∃ c : Int, c = if j = 0 then 0 else lId l (j - 1) := ⟨_, rfl⟩
          have hcb : 0 ≤ c ∧ c ≤ 1000000 ∧ (0 < j → c = lId l (j - 1)) ∧ (j = 0 → c = 0) := by
            by_cases h0 : j = 0
            · rw [if_pos h0] at hc; exact ⟨by omega, by omega, fun h => by omega, fun _ => hc⟩
            · rw [if_neg h0] at hc
              have := (hJ (j - 1) (by omega)).1
              exact ⟨by omega, by omega, fun _ => hc, fun h => absurd h h0⟩
          rw [← hc]
          obtain ⟨b, hb1, hb2⟩ : ∃ b, C1 d c (termW d (lS l j)) l (l.length : Int) (j : Int) (l.getD j (Ty.zero Af)) = some b ∧ (b = false ↔ LitP d l j) := by
            unfold C1 LitP
            rw [e3, DY, wrap64 (x := c + 1) (by omega) (by omega), e2, Option.bind_some]
            by_cases h1 : c + 1 ≤ lId l j ∧ lId l j ≤ 1000000
            · rw [decide_eq_true h1]
              simp only [Bool.not_true, cond_false]
              by_cases h2 : termW d (lS l j) < 0
              · rw [decide_eq_true h2]; exact ⟨true, rfl, fun h => by (cases h), fun h => by omega⟩
              · rw [decide_eq_false h2, cond_false]
                refine ⟨_, rfl, ?_⟩
                rw [bne_eq_false_iff_eq]
                exact ⟨fun h => ⟨by omega, fun h' => by have := hcb.2.2.1 h'; omega, by omega, h.symm⟩, fun h => h.2.2.2.symm⟩
            · rw [decide_eq_false h1]
              refine ⟨true, rfl, fun h => by (cases h), fun h => ?_⟩
              exfalso
              apply h1
              rcases Nat.eq_zero_or_pos j with h0 | h0
              · have := hcb.2.2.2 h0; omega
              · have := hcb.2.2.1 h0; have := h.2.1 h0; omega
          rw [hb1, Option.bind_some]
          cases b with
          | true => exact Ret.mk (.inl ⟨rfl, fun h => by have := hb2.2 (h j hj); cases this⟩)
          | false =>
            rw [cond_false, stepN hj (by omega)]
            refine Ret.mk ⟨(), rfl, fun k hk => ?_⟩
            rcases Nat.lt_or_ge k j with h' | h'
            · exact hJ k h'
            · rw [show k = j by omega]; exact hb2.1 rfl
        · unfold Bm Dg
          simp only
          rw [dge, cond_false]
          exact Ret.mk (.inr ⟨rfl, hJ⟩)
      · rcases ht with ⟨rfl, h⟩ | ⟨rfl, h⟩
        · exact Ret.mk ⟨fun h => by (cases h), fun h' => absurd h'.2.2 h⟩
        · exact Ret.mk ⟨fun _ => ⟨hdp, hlen, h⟩, fun _ => rfl⟩
    · rw [decide_eq_true (by omega : (l.length : Int) > 60)]
      exact Ret.mk ⟨fun h => by (cases h), fun h => absurd h.2.1 hlen⟩
end Go.Proofs.X
