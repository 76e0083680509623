import Derived.Test.YtgdiapoacpahdaaGreatK15
set_option linter.unusedVariables false
set_option linter.unusedSimpArgs false
namespace Go.Va
theorem Rf {T : Type} {f : Int × List T → Option ((Int × List T) ⊕ List T)} (N : Nat) (it : Nat → List T) (a0 : List T)
    (hs : ∀ k, k < N → f ((k : Int), a0 ++ (List.range k).flatMap it) = some (.inl (((k + 1 : Nat) : Int), a0 ++ (List.range k).flatMap it ++ it k)))
    (he : f ((N : Int), a0 ++ (List.range N).flatMap it) = some (.inr (a0 ++ (List.range N).flatMap it))) : fix f (0, a0) = some (a0 ++ (List.range N).flatMap it) := by
  have := BJ (f := f) (fun k => ((k : Int), a0 ++ (List.range k).flatMap it)) N (fun k hk => by
    rw [hs k hk, List.range_succ, List.flatMap_append, List.append_assoc]; simp) he
  simpa using this
theorem MO {A B : Type} (g : A → B) (l : List A) : l.flatMap (fun x => [g x]) = l.map g := by
  induction l with
  | nil => rfl
  | cons x l ih => simp [ih]
theorem ND {A B : Type} (b : List B) (l : List A) : l.flatMap (fun _ => b) = (List.replicate l.length b).flatten := by
  induction l with
  | nil => rfl
  | cons x l ih => simp [ih, List.replicate_succ]
end Go.Va
namespace Go.Proofs.X
open Go Go.Va
set_option maxRecDepth 100000
def turnBy (n : Ad.V) (w : Nat) : Nat := if nOp n = 8 then (w - (nA n).toNat % w) % w else (nA n).toNat % w
def nodeBits (d : List Ae.V) (n : Ad.V) (kids : List (List Bt)) : List Bt :=
  if nOp n = 1 then (List.range (dw d (nVar n).toNat).toNat).map fun a => .va (nVar n).toNat a
  else if nOp n = 2 then (List.range (nW n).toNat).map fun k => .co (bt (nWs n) k)
  else if nOp n = 3 then kids.reverse.flatten
  else if nOp n = 4 then ((kids.getD 0 []).take ((nA n).toNat + 1)).drop (nB n).toNat
  else if nOp n = 5 then kids.getD 0 [] ++ List.replicate (nA n).toNat (.co false)
  else if nOp n = 6 then kids.getD 0 [] ++ List.replicate (nA n).toNat ((kids.getD 0 []).getD ((kids.getD 0 []).length - 1) (.co false))
  else if nOp n = 9 then (List.replicate (nA n).toNat (kids.getD 0 [])).flatten
  else (kids.getD 0 []).drop ((kids.getD 0 []).length - turnBy n (kids.getD 0 []).length) ++ (kids.getD 0 []).take ((kids.getD 0 []).length - turnBy n (kids.getD 0 []).length)
def BitIn (d : List Ae.V) : Bt → Prop
  | .co _ => True
  | .va v a => v < d.length ∧ ((a : Nat) : Int) < dw d v
def kidS (kids : List (List Bt)) : Int := ((kids.map List.length).sum : Nat)
def BitsIn (d : List Ae.V) (B : List Bt) : Prop := 1 ≤ B.length ∧ B.length ≤ 4096 ∧ ∀ b ∈ B, BitIn d b
structure NB (d : List Ae.V) (n : Ad.V) (kids : List (List Bt)) : Prop where
  hd : DeclsP d
  hf : FormP d n
  hb : NodeB n
  hk : kids.length = (nKids n).length
  hw : 1 ≤ widF d n (kidS kids) ∧ widF d n (kidS kids) ≤ 4096
  hin : ∀ B ∈ kids, BitsIn d B
theorem FU {d : List Ae.V} (hd : DeclsP d) {b : Bt} (h : BitIn d b) : BtB b := by
  cases b with
  | co b => trivial
  | va v a =>
    obtain ⟨h1, h2⟩ := h
    have := (hd.2.1 v h1).2.1
    have := hd.1
    exact ⟨by omega, by omega⟩
theorem NB.one {d : List Ae.V} {n : Ad.V} {kids : List (List Bt)} (h : NB d n kids) (h1 : nOp n ≠ 1) (h2 : nOp n ≠ 2) (h3 : nOp n ≠ 3) : 4 ≤ nOp n ∧ nOp n ≤ 9 ∧ ∃ B, kids = [B] ∧ BitsIn d B ∧ kidS kids = (B.length : Int) := by
  have hf := h.hf
  unfold FormP at hf
  have : 4 ≤ nOp n ∧ nOp n ≤ 9 ∧ (nKids n).length = 1 := by omega
  obtain ⟨h4, h9, hl⟩ := this
  have hk := h.hk
  rw [hl] at hk
  match kids, hk, h.hin with
  | [B], _, hin => exact ⟨h4, h9, B, rfl, hin B List.mem_cons_self, by simp [kidS]⟩
theorem PS {n : Ad.V} {w : Nat} (h : 1 ≤ w) : turnBy n w < w := by
  unfold turnBy; split <;> exact Nat.mod_lt _ (by omega)
theorem MD (l : List Nat) : l.reverse.sum = l.sum := by
  induction l with
  | nil => rfl
  | cons x l ih => simp [ih]; omega
theorem L0 {d : List Ae.V} {n : Ad.V} {kids : List (List Bt)} (h : NB d n kids) : ((nodeBits d n kids).length : Int) = widF d n (kidS kids) := by
  have hw := h.hw
  by_cases h1 : nOp n = 1
  · simp only [nodeBits, widF, if_pos h1, List.length_map, List.length_range] at hw ⊢; omega
  by_cases h2 : nOp n = 2
  · simp only [nodeBits, widF, if_neg h1, if_pos h2, List.length_map, List.length_range] at hw ⊢; omega
  by_cases h3 : nOp n = 3
  · have e : ¬ nOp n = 4 ∧ ¬ (nOp n = 5 ∨ nOp n = 6) ∧ ¬ (nOp n = 7 ∨ nOp n = 8) ∧ ¬ nOp n = 9 := by omega
    simp only [nodeBits, widF, if_neg h1, if_neg h2, if_pos h3, if_neg e.1, if_neg e.2.1, if_neg e.2.2.1, if_neg e.2.2.2, kidS]
    rw [List.length_flatten, List.map_reverse, MD]
  obtain ⟨h4, h9, B, rfl, hB, hs⟩ := h.one h1 h2 h3
  have hl := hB.1
  rw [hs] at hw ⊢
  by_cases h4' : nOp n = 4
  · simp only [nodeBits, widF, if_neg h1, if_neg h2, if_neg h3, if_pos h4', List.getD_cons_zero, List.length_drop, List.length_take] at hw ⊢
    split at hw <;> rename_i hc
    · rw [if_pos hc]; omega
    · omega
  by_cases h5 : nOp n = 5
  · have h56 : nOp n = 5 ∨ nOp n = 6 := .inl h5
    simp only [nodeBits, widF, if_neg h1, if_neg h2, if_neg h3, if_neg h4', if_pos h5, if_pos h56, List.getD_cons_zero, List.length_append, List.length_replicate] at hw ⊢
    split at hw <;> rename_i hc
    · rw [if_pos hc]; omega
    · omega
  by_cases h6 : nOp n = 6
  · have h56 : nOp n = 5 ∨ nOp n = 6 := .inr h6
    simp only [nodeBits, widF, if_neg h1, if_neg h2, if_neg h3, if_neg h4', if_neg h5, if_pos h6, if_pos h56, List.getD_cons_zero, List.length_append, List.length_replicate] at hw ⊢
    split at hw <;> rename_i hc
    · rw [if_pos hc]; omega
    · omega
  have h56 : ¬ (nOp n = 5 ∨ nOp n = 6) := by omega
  by_cases h9' : nOp n = 9
  · have h78 : ¬ (nOp n = 7 ∨ nOp n = 8) := by omega
    simp only [nodeBits, widF, if_neg h1, if_neg h2, if_neg h3, if_neg h4', if_neg h5, if_neg h6, if_neg h56, if_neg h78, if_pos h9', List.getD_cons_zero, List.length_flatten, List.map_replicate, List.sum_replicate_nat] at hw ⊢
    split at hw <;> rename_i hc
    · rw [if_pos hc]
      have : (nA n) = ((nA n).toNat : Int) := by omega
      rw [this, Int.toNat_natCast, Int.natCast_mul, Int.mul_comm]
    · omega
  · have h78 : nOp n = 7 ∨ nOp n = 8 := by omega
    have ht := PS (n := n) hl
    simp only [nodeBits, widF, if_neg h1, if_neg h2, if_neg h3, if_neg h4', if_neg h5, if_neg h6, if_neg h56, if_pos h78, if_neg h9', List.getD_cons_zero, List.length_append, List.length_drop, List.length_take] at hw ⊢
    split at hw <;> rename_i hc
    · rw [if_pos hc]; omega
    · omega
theorem Kn {d : List Ae.V} {n : Ad.V} {kids : List (List Bt)} (h : NB d n kids) : BitsIn d (nodeBits d n kids) := by
  have hl := L0 h
  refine ⟨by have := h.hw; omega, by have := h.hw; omega, fun b hb => ?_⟩
  by_cases h1 : nOp n = 1
  · have hf := h.hf
    unfold FormP at hf
    have hv : 0 ≤ nVar n ∧ nVar n < (d.length : Int) := by omega
    simp only [nodeBits, if_pos h1, List.mem_map, List.mem_range] at hb
    obtain ⟨a, ha, rfl⟩ := hb
    exact ⟨by omega, by omega⟩
  by_cases h2 : nOp n = 2
  · simp only [nodeBits, if_neg h1, if_pos h2, List.mem_map, List.mem_range] at hb
    obtain ⟨a, ha, rfl⟩ := hb
    trivial
  by_cases h3 : nOp n = 3
  · simp only [nodeBits, if_neg h1, if_neg h2, if_pos h3, List.mem_flatten, List.mem_reverse] at hb
    obtain ⟨B, hB, hb⟩ := hb
    exact (h.hin B hB).2.2 b hb
  obtain ⟨h4, h9, B, rfl, hB, hs⟩ := h.one h1 h2 h3
  have hz : B.getD (B.length - 1) (.co false) ∈ B := Ay (by have := hB.1; omega)
  simp only [nodeBits, if_neg h1, if_neg h2, if_neg h3, List.getD_cons_zero] at hb
  split at hb
  · exact hB.2.2 b (List.mem_of_mem_take (List.mem_of_mem_drop hb))
  split at hb
  · rcases List.mem_append.1 hb with hb | hb
    · exact hB.2.2 b hb
    · rw [(List.mem_replicate.1 hb).2]; trivial
  split at hb
  · rcases List.mem_append.1 hb with hb | hb
    · exact hB.2.2 b hb
    · rw [(List.mem_replicate.1 hb).2]; exact hB.2.2 _ hz
  split at hb
  · obtain ⟨C, hC, hb⟩ := List.mem_flatten.1 hb
    rw [(List.mem_replicate.1 hC).2] at hb
    exact hB.2.2 b hb
  · rcases List.mem_append.1 hb with hb | hb
    · exact hB.2.2 b (List.mem_of_mem_drop hb)
    · exact hB.2.2 b (List.mem_of_mem_take hb)
end Go.Proofs.X
namespace Go.Va
theorem Lf {T : Type} {f : Int × List T → Option ((Int × List T) ⊕ List T)} (N : Nat) (g : Nat → T) (a0 : List T)
    (hs : ∀ k acc, k < N → acc.length = a0.length + k → f ((k : Int), acc) = some (.inl (((k + 1 : Nat) : Int), acc ++ [g k]))) (he : ∀ acc, f ((N : Int), acc) = some (.inr acc)) : fix f (0, a0) = some (a0 ++ (List.range N).map g) := by
  have := Rf (f := f) N (fun k => [g k]) a0 (fun k hk => hs k _ hk (by rw [MO]; simp)) (he _)
  rw [MO] at this
  exact this
end Go.Va
namespace Go.Proofs.X
open Go Go.Va
set_option maxRecDepth 100000
theorem kGet (kids : List (List Bt)) (k : Nat) : (kids.map bV).getD k (Ty.zero (.sl Ag)) = bV (kids.getD k []) := by
  simp only [List.getD, List.getElem?_map]
  cases kids[k]? <;> rfl
theorem wrapI {x : Int} (h1 : -4611686018427387904 ≤ x) (h2 : x < 4611686018427387904) : IntKind.i64.wrap x = x := wrap64 (by omega) (by omega)
theorem TD {A : Type} {l : List A} {z : A} {k : Nat} (h : k < l.length) : l.reverse.getD k z = l.getD (l.length - 1 - k) z := by
  simp only [List.getD, List.getElem?_reverse h]
theorem LX (kids : List (List Bt)) (k : Nat) : ((kids.reverse.take k).flatten).length ≤ (kids.map List.length).sum := by
  rw [← MD, ← List.map_reverse, List.length_flatten]
  conv => rhs; rw [← List.take_append_drop k kids.reverse, List.map_append, List.sum_append]
  omega
theorem W4 {a : Nat} : decide ((a : Int) ≥ 0) = true := decide_eq_true (by omega)
theorem Sp {d : List Ae.V} {n : Ad.V} {kids : List (List Bt)} (h : NB d n kids) (h3 : nOp n = 3) : G7 (kids.map bV) (IntKind.i64.wrap (((kids.map bV).length : Int) - 1)) [] = some (bV kids.reverse.flatten) := by
  have hlen : kids.length ≤ 1048576 := by rw [h.hk]; exact h.hb.1
  have hsum : (kids.map List.length).sum ≤ 4096 := by
    have hw := h.hw
    have e : ¬ nOp n = 4 ∧ ¬ (nOp n = 5 ∨ nOp n = 6) ∧ ¬ (nOp n = 7 ∨ nOp n = 8) ∧ ¬ nOp n = 9 ∧ ¬ nOp n = 1 ∧ ¬ nOp n = 2 := by omega
    simp only [widF, if_neg e.1, if_neg e.2.1, if_neg e.2.2.1, if_neg e.2.2.2.1, if_neg e.2.2.2.2.1, if_neg e.2.2.2.2.2, kidS] at hw
    omega
  unfold G7
  rw [List.length_map, wrapI (by omega) (by omega)]
  have := BJ (f := BF (kids.map bV)) (fun k => ((kids.length : Int) - 1 - (k : Int), bV (kids.reverse.take k).flatten)) (t := bV kids.reverse.flatten) kids.length (fun k hk => by
    unfold BF Fw
    simp only
    have e : (kids.length : Int) - 1 - (k : Int) = ((kids.length - 1 - k : Nat) : Int) := by omega
    have hb := LX kids k
    have hin := h.hin (kids.getD (kids.length - 1 - k) []) (Ay (by omega))
    rw [e, W4, cond_true, List.length_map, if_pos ⟨by omega, by omega⟩, Int.toNat_natCast, kGet, D6, D6, if_pos (by have := hin.2.1; omega), wrapI (by omega) (by omega)]
    rw [AL (z := []) (show k < kids.reverse.length by rw [List.length_reverse]; exact hk), TD hk, List.flatten_append, ← J2]
    simp only [List.flatten_cons, List.flatten_nil, List.append_nil]
    rw [show (kids.length : Int) - 1 - ((k + 1 : Nat) : Int) = ((kids.length - 1 - k : Nat) : Int) - 1 by omega]) (by
    unfold BF Fw
    simp only
    rw [decide_eq_false (by omega), cond_false, List.take_of_length_le (by rw [List.length_reverse]; omega)])
  have this' : fix (BF (kids.map bV)) ((kids.length : Int) - 1 - ((0 : Nat) : Int), []) = some (bV kids.reverse.flatten) := this
  rw [show (kids.length : Int) - 1 - ((0 : Nat) : Int) = (kids.length : Int) - 1 by omega] at this'
  exact this'
theorem P3 {d : List Ae.V} {n : Ad.V} {kids : List (List Bt)} (h : NB d n kids) : HI d n (kids.map bV) = some (bV (nodeBits d n kids)) := by
  have e1 : ∀ x : Int, (n.1 == x) = decide (nOp n = x) := fun x => IB
  have hbl := Kn h
  have hbl2 := hbl.2.1
  unfold HI G4 mkr
  simp only [e1]
  by_cases h1 : nOp n = 1
  · rw [decide_eq_true h1, cond_true]
    have hf := h.hf
    unfold FormP at hf
    have hv : 0 ≤ nVar n ∧ nVar n < (d.length : Int) := by omega
    obtain ⟨N, hN⟩ : ∃ N : Nat, dw d (nVar n).toNat = (N : Int) := by
      have := (h.hd.2.1 (nVar n).toNat (by omega)).2.1
      exact ⟨(dw d (nVar n).toNat).toNat, by omega⟩
    have hN4 : N ≤ 4096 := by have := (h.hd.2.1 (nVar n).toNat (by omega)).2.1; omega
    rw [show Ht d n 0 [] = some (bV (nodeBits d n kids)) by
      unfold Ht
      rw [Lf (f := Cl d n) N (fun a => btV (.va (nVar n).toNat a)) [] (fun k acc hk ha => by
        unfold Cl Fj
        simp only
        rw [if_pos (show (0 : Int) ≤ n.2.1 ∧ n.2.1 < (d.length : Int) from hv), show (d.getD n.2.1.toNat (Ty.zero Ae)).2.1 = (N : Int) from hN, dlt hk, cond_true, stepN hk (by omega)]
        simp at ha
        rw [if_pos (by show (_ + 1) * 16 ≤ _; omega)]
        have : n.2.1 = (((nVar n).toNat : Nat) : Int) := by show nVar n = _; omega
        rw [this]; rfl) (fun acc => by
        unfold Cl Fj
        simp only
        rw [if_pos (show (0 : Int) ≤ n.2.1 ∧ n.2.1 < (d.length : Int) from hv), show (d.getD n.2.1.toNat (Ty.zero Ae)).2.1 = (N : Int) from hN, dge, cond_false])]
      simp only [nodeBits, if_pos h1, hN, Int.toNat_natCast, bV, List.nil_append, List.map_map]
      rfl]
    rfl
  rw [decide_eq_false h1, cond_false]
  by_cases h2 : nOp n = 2
  · rw [decide_eq_true h2, cond_true]
    have hf := h.hf
    unfold FormP at hf
    obtain ⟨m, hm1, hm2⟩ : ValP n := by
      rcases hf with h | h | h | h
      · omega
      · exact h.2.2
      · omega
      · omega
    rw [show GZ n 0 [] = some (bV (nodeBits d n kids)) by
      unfold GZ
      rw [Lf (f := Ci n) m (fun k => btV (.co (bt (nWs n) k))) [] (fun k acc hk ha => by
        unfold Ci Ft
        simp only
        have hb : Dx n.2.2.2.2.1 (k : Int) = some (bI (bt (nWs n) k)) := Oo (w := nW n) hm2.2.2.2.1 (by rw [hm2.2.2.1]; unfold nw; omega) h.hb.2.1
        have h4 := hm2.2.1
        rw [show n.2.2.2.2.1.1 = (m : Int) from hm1, dlt hk, cond_true, hb, Option.bind_some, stepN hk (by omega)]
        simp at ha
        rw [if_pos (by show (_ + 1) * 16 ≤ _; omega)]
        rw [show IntKind.i64.wrap (bI (bt (nWs n) k)) = bI (bt (nWs n) k) by cases bt (nWs n) k <;> rfl]; rfl) (fun acc => by
        unfold Ci Ft
        simp only
        rw [show n.2.2.2.2.1.1 = (m : Int) from hm1, dge, cond_false])]
      simp only [nodeBits, if_neg h1, if_pos h2, hm1, Int.toNat_natCast, bV, List.nil_append, List.map_map]
      rfl]
    rfl
  rw [decide_eq_false h2, cond_false]
  by_cases h3 : nOp n = 3
  · rw [decide_eq_true h3, cond_true, Sp h h3]
    simp only [nodeBits, if_neg h1, if_neg h2, if_pos h3]
    rfl
  rw [decide_eq_false h3, cond_false]
  obtain ⟨h4, h9, B, rfl, hB, hs⟩ := h.one h1 h2 h3
  have hl := hB.1
  have hl4 := hB.2.1
  have hw := h.hw
  have g0 : ([B].map bV).getD 0 (Ty.zero (.sl Ag)) = bV B := rfl
  have r0 : (0 : Int) ≤ (0 : Int) ∧ (0 : Int) < (([B].map bV).length : Int) := ⟨by omega, by simp⟩
  rw [hs] at hw
  simp only [nodeBits, if_neg h1, if_neg h2, if_neg h3, List.getD_cons_zero] at hbl2 ⊢
  simp only [widF, if_neg h1, if_neg h2] at hw
  by_cases h4' : nOp n = 4
  · simp only [if_pos h4'] at hw hbl2 ⊢
    split at hw <;> rename_i hc
    · obtain ⟨A, hA⟩ : ∃ A : Nat, nA n = (A : Int) := ⟨(nA n).toNat, by omega⟩
      obtain ⟨L, hL⟩ : ∃ L : Nat, nB n = (L : Int) := ⟨(nB n).toNat, by omega⟩
      have hA' : n.2.2.1 = (A : Int) := hA
      have hL' : n.2.2.2.1 = (L : Int) := hL
      rw [decide_eq_true h4', cond_true, if_pos r0, g0, hA', hL', show IntKind.i64.wrap ((A : Int) + 1) = ((A + 1 : Nat) : Int) from wrapN (by omega) (by omega), D6]
      rw [if_pos (show (0 : Int) ≤ (L : Int) ∧ (L : Int) ≤ ((A + 1 : Nat) : Int) ∧ ((A + 1 : Nat) : Int) ≤ (B.length : Int) from ⟨by omega, by omega, by omega⟩), Int.toNat_natCast, Int.toNat_natCast, hA, hL, Int.toNat_natCast, Int.toNat_natCast]
      rw [show (List.drop L (List.take (A + 1) (bV B))) = bV ((B.take (A + 1)).drop L) by simp [bV, List.map_drop, List.map_take], D6, List.length_drop, List.length_take, if_pos (by omega)]
      rfl
    · omega
  rw [decide_eq_false h4', cond_false]
  simp only [if_neg h4'] at hw hbl2 ⊢
  by_cases h56 : nOp n = 5 ∨ nOp n = 6
  · simp only [if_pos h56] at hw
    split at hw <;> rename_i hc
    · obtain ⟨A, hA⟩ : ∃ A : Nat, nA n = (A : Int) := ⟨(nA n).toNat, by omega⟩
      have hA' : n.2.2.1 = (A : Int) := hA
      have hc0 : (bif decide (nOp n = 5) then decide (nOp n = 5) else decide (nOp n = 6)) = true := by
        rcases h56 with h | h <;> simp [h]
      have hlast : IntKind.i64.wrap (((bV B).length : Int) - 1) = ((B.length - 1 : Nat) : Int) := by rw [D6]; exact wrapN (by omega) (by omega)
      rw [hc0, cond_true]
      by_cases h6 : nOp n = 6
      · have h5 : ¬ nOp n = 5 := by omega
        simp only [if_neg h5, if_pos h6, hA, Int.toNat_natCast, List.length_append, List.length_replicate] at hbl2 ⊢
        rw [show Cw ([B].map bV) n = some (.inl ()) by
          unfold Cw
          rw [e1, decide_eq_true h6, cond_true, if_pos r0, if_pos r0, g0, hlast, D6, if_pos ⟨by omega, by omega⟩], Option.bind_some]
        simp only [Sum.elim_inl]
        rw [if_pos r0, g0, hlast, Int.toNat_natCast, D6, if_pos (by omega), bGet (by omega)]
        rw [show Hh n (btV (B.getD (B.length - 1) (.co false))) 0 (bV B) = some (bV (B ++ List.replicate A (B.getD (B.length - 1) (.co false)))) by
          unfold Hh
          rw [Lf (f := Cm n (btV (B.getD (B.length - 1) (.co false)))) A (fun _ => btV (B.getD (B.length - 1) (.co false))) (bV B) (fun k acc hk ha => by
            unfold Cm FJ
            simp only
            rw [D6] at ha
            rw [hA', dlt hk, cond_true, stepN hk (by omega), if_pos (by show (_ + 1) * 16 ≤ _; omega)]) (fun acc => by
            unfold Cm FJ
            simp only
            rw [hA', dge, cond_false])]
          rw [J2]; simp [bV, List.map_const']]
        rfl
      · have h5 : nOp n = 5 := by omega
        simp only [if_pos h5, hA, Int.toNat_natCast, List.length_append, List.length_replicate] at hbl2 ⊢
        rw [show Cw ([B].map bV) n = some (.inr ()) by
          unfold Cw
          rw [e1, decide_eq_false h6, cond_false], Option.bind_some]
        simp only [Sum.elim_inr]
        rw [if_pos r0, g0, D6, if_pos (by omega)]
        rw [show GV n 0 (bV B) = some (bV (B ++ List.replicate A (.co false))) by
          unfold GV
          rw [Lf (f := Ck n) A (fun _ => btV (.co false)) (bV B) (fun k acc hk ha => by
            unfold Ck Fm
            simp only
            rw [D6] at ha
            rw [hA', dlt hk, cond_true, stepN hk (by omega), if_pos (by show (_ + 1) * 16 ≤ _; omega)]
            rfl) (fun acc => by
            unfold Ck Fm
            simp only
            rw [hA', dge, cond_false])]
          rw [J2]; simp [bV, List.map_const']]
        rfl
    · omega
  have h5 : ¬ nOp n = 5 := by omega
  have h6 : ¬ nOp n = 6 := by omega
  have hc0 : (bif decide (nOp n = 5) then decide (nOp n = 5) else decide (nOp n = 6)) = false := by simp [h5, h6]
  rw [hc0, cond_false]
  simp only [if_neg h5, if_neg h6, if_neg h56] at hw hbl2 ⊢
  by_cases h78 : nOp n = 7 ∨ nOp n = 8
  · simp only [if_pos h78] at hw
    split at hw <;> rename_i hc
    · obtain ⟨A, hA⟩ : ∃ A : Nat, nA n = (A : Int) := ⟨(nA n).toNat, by omega⟩
      have hA' : n.2.2.1 = (A : Int) := hA
      have h9' : ¬ nOp n = 9 := by omega
      have hc1 : (bif decide (nOp n = 7) then decide (nOp n = 7) else decide (nOp n = 8)) = true := by
        rcases h78 with h | h <;> simp [h]
      have ht := PS (n := n) hl
      simp only [if_neg h9', List.length_append, List.length_drop, List.length_take] at hbl2 ⊢
      rw [hc1, cond_true, if_pos r0, g0, hA', D6, if_neg (by omega)]
      have hmod : Int.tmod (A : Int) (B.length : Int) = ((A % B.length : Nat) : Int) := rfl
      have hml : A % B.length < B.length := Nat.mod_lt _ (by omega)
      rw [show EL ([B].map bV) n (B.length : Int) (Int.tmod (A : Int) (B.length : Int)) = some ((turnBy n B.length : Nat) : Int) by
        unfold EL turnBy
        rw [e1, hmod, hA, Int.toNat_natCast]
        by_cases h8 : nOp n = 8
        · rw [decide_eq_true h8, cond_true, if_neg (by omega), if_pos h8, show IntKind.i64.wrap ((B.length : Int) - ((A % B.length : Nat) : Int)) = ((B.length - A % B.length : Nat) : Int) from wrapN (by omega) (by omega)]
          rfl
        · rw [decide_eq_false h8, cond_false, if_neg h8], Option.bind_some]
      have hsub : IntKind.i64.wrap ((B.length : Int) - ((turnBy n B.length : Nat) : Int)) = ((B.length - turnBy n B.length : Nat) : Int) := wrapN (by omega) (by omega)
      rw [if_pos r0, hsub, if_pos ⟨by omega, by omega, by omega⟩, Int.toNat_natCast, Int.toNat_natCast]
      generalize hq : B.length - turnBy n B.length = q at *
      rw [show (List.drop q (List.take B.length (bV B))) = bV (B.drop q) by rw [List.take_of_length_le (by rw [D6]; omega)]; simp [bV, List.map_drop], show (List.drop 0 (List.take q (bV B))) = bV (B.take q) by simp [bV, List.map_take], if_pos (by omega), if_pos r0, if_pos ⟨by omega, by omega, by omega⟩, if_pos (by omega), ← J2]
      rfl
    · omega
  have h9' : nOp n = 9 := by omega
  have hc1 : (bif decide (nOp n = 7) then decide (nOp n = 7) else decide (nOp n = 8)) = false := by
    rw [show ¬ nOp n = 7 ∧ ¬ nOp n = 8 by omega |> fun h => (decide_eq_false h.1 : decide (nOp n = 7) = false), cond_false]
    exact decide_eq_false (by omega)
  simp only [if_neg h78, if_pos h9'] at hw hbl2 ⊢
  split at hw <;> rename_i hc
  · obtain ⟨A, hA⟩ : ∃ A : Nat, nA n = (A : Int) := ⟨(nA n).toNat, by omega⟩
    have hA' : n.2.2.1 = (A : Int) := hA
    rw [hc1, cond_false, decide_eq_true h9', cond_true]
    rw [hA] at hw hbl2
    simp only [Int.toNat_natCast, List.length_flatten, List.map_replicate, List.sum_replicate_nat] at hbl2
    rw [show GR ([B].map bV) n 0 [] = some (bV (List.replicate A B).flatten) by
      unfold GR
      rw [Rf (f := Cg ([B].map bV) n) A (fun _ => bV B) [] (fun k hk => by
        unfold Cg FD
        simp only
        have hkl : k * B.length ≤ A * B.length := Nat.mul_le_mul_right _ (by omega)
        rw [hA', dlt hk, cond_true, if_pos r0, g0, stepN hk (by omega), if_pos (by
          rw [List.nil_append, ND, List.length_flatten, List.map_replicate, List.sum_replicate_nat, List.length_range, D6]; omega)]) (by
        unfold Cg FD
        simp only
        rw [hA', dge, cond_false])]
      rw [List.nil_append, ND, List.length_range]
      simp [bV, List.map_flatten, List.map_replicate]]
    rw [hA]
    rfl
  · omega
end Go.Proofs.X
namespace Go.Proofs.X
open Go Go.Va
set_option maxRecDepth 100000
def fN (B : List Bt) : List Ab.V := fV (norm B)
theorem fGetN (kids : List (List Bt)) (k : Nat) : (kids.map fN).getD k (Ty.zero (.sl Ab)) = fN (kids.getD k []) := by
  simp only [List.getD, List.getElem?_map]
  cases kids[k]? <;> rfl
theorem raiseN {d : List Ae.V} (hd : DeclsP d) {a b : List Bt} (ha : ∀ x ∈ a, BitIn d x) (hb : ∀ x ∈ b, BitIn d x) (hl : a.length + b.length ≤ 4096) : AO (fN b) (fN a) = some (fN (a ++ b)) := by
  unfold fN
  rw [QQ (Ec b) (Ec a) (HS (fun x hx => Nu (FU hd (hb x hx))) (by omega)) (HS (fun x hx => Nu (FU hd (ha x hx))) (by omega)) (by rw [DS, DS]; exact hl), P4]
theorem Ww {s : Sg} (h : 1 ≤ s.w) : norm s.bits = [s] := by
  have := K2 s.w s [] rfl h
  rw [IM] at this
  exact this.symm
theorem Zz (b : Bt) : fN [b] = [sgV b.sg] := rfl
theorem raiseN1 {d : List Ae.V} (hd : DeclsP d) {a : List Bt} {b : Bt} (ha : ∀ x ∈ a, BitIn d x) (hb : BitIn d b) (hl : a.length + 1 ≤ 4096) : AO [sgV b.sg] (fN a) = some (fN (a ++ [b])) :=
  raiseN hd ha (b := [b]) (fun x hx => by rw [List.mem_singleton] at hx; rw [hx]; exact hb) hl
theorem widthN {d : List Ae.V} {B : List Bt} (h : BitsIn d B) : Bg (fN B) = some (B.length : Int) := by
  unfold fN
  rw [OP (Ec B) (by rw [DS]; exact h.2.1), DS]
theorem partN {d : List Ae.V} (hd : DeclsP d) {B : List Bt} (h : BitsIn d B) {lo w : Nat} (hlo : lo + w ≤ 8192) : Bk (fN B) (lo : Int) (w : Int) = some (fN ((B.drop lo).take w)) := by
  have hs : ∀ x ∈ B, SgB x.sg := fun x hx => Nu (FU hd (h.2.2 x hx))
  unfold fN
  rw [Qc (Ec B) (HS hs h.2.1) (by rw [I6]; exact hs) (by rw [DS]; exact h.2.1) hlo, I6]
theorem PC {d : List Ae.V} (hd : DeclsP d) {B : List Bt} {b : Bt} {A : Nat} (hB : BitsIn d B) (hb : BitIn d b) (hl : B.length + A ≤ 4096) {f : Int × List Ab.V → Option ((Int × List Ab.V) ⊕ List Ab.V)}
    (hs : ∀ x : Int × List Ab.V, f x = bif decide (x.1 < (A : Int)) then (AO [sgV b.sg] x.2).bind fun o => some (.inl (IntKind.i64.wrap (x.1 + 1), o)) else some (.inr x.2)) : fix f (0, fN B) = some (fN (B ++ List.replicate A b)) := by
  have := BJ (f := f) (fun k => ((k : Int), fN (B ++ List.replicate k b))) (t := fN (B ++ List.replicate A b)) A (fun k hk => by
    rw [hs]
    simp only
    rw [dlt hk, cond_true, raiseN1 hd (fun x hx => by
      rcases List.mem_append.1 hx with hx | hx
      · exact hB.2.2 x hx
      · rw [(List.mem_replicate.1 hx).2]; exact hb) hb (by rw [List.length_append, List.length_replicate]; omega), Option.bind_some, stepN hk (by omega), List.append_assoc, ← List.replicate_succ']) (by
    rw [hs]
    simp only
    rw [dge, cond_false])
  have h0 : fix f (((0 : Nat) : Int), fN (B ++ List.replicate 0 b)) = some (fN (B ++ List.replicate A b)) := this
  rw [List.replicate_zero, List.append_nil] at h0
  exact h0
theorem Sk {d : List Ae.V} {n : Ad.V} {kids : List (List Bt)} (h : NB d n kids) (h3 : nOp n = 3) : CX (kids.map fN) (IntKind.i64.wrap (((kids.map fN).length : Int) - 1)) [] = some (fN kids.reverse.flatten) := by
  have hlen : kids.length ≤ 1048576 := by rw [h.hk]; exact h.hb.1
  have hsum : (kids.map List.length).sum ≤ 4096 := by
    have hw := h.hw
    have e : ¬ nOp n = 4 ∧ ¬ (nOp n = 5 ∨ nOp n = 6) ∧ ¬ (nOp n = 7 ∨ nOp n = 8) ∧ ¬ nOp n = 9 ∧ ¬ nOp n = 1 ∧ ¬ nOp n = 2 := by omega
    simp only [widF, if_neg e.1, if_neg e.2.1, if_neg e.2.2.1, if_neg e.2.2.2.1, if_neg e.2.2.2.2.1, if_neg e.2.2.2.2.2, kidS] at hw
    omega
  unfold CX
  rw [List.length_map, wrapI (by omega) (by omega)]
  have := BJ (f := AI (kids.map fN)) (fun k => ((kids.length : Int) - 1 - (k : Int), fN (kids.reverse.take k).flatten)) (t := fN kids.reverse.flatten) kids.length (fun k hk => by
    unfold AI Ca
    simp only
    have e : (kids.length : Int) - 1 - (k : Int) = ((kids.length - 1 - k : Nat) : Int) := by omega
    have hb := LX kids (k + 1)
    have hin := h.hin (kids.getD (kids.length - 1 - k) []) (Ay (by omega))
    rw [AL (z := []) (show k < kids.reverse.length by rw [List.length_reverse]; exact hk), TD hk, List.flatten_append] at hb ⊢
    simp only [List.flatten_cons, List.flatten_nil, List.append_nil] at hb ⊢
    rw [List.length_append] at hb
    rw [e, W4, cond_true, List.length_map, if_pos ⟨by omega, by omega⟩, Int.toNat_natCast, fGetN, raiseN h.hd (fun x hx => by
      obtain ⟨C, hC, hx⟩ := List.mem_flatten.1 hx
      exact (h.hin C (List.mem_reverse.1 (List.mem_of_mem_take hC))).2.2 x hx) hin.2.2 (by omega), Option.bind_some, wrapI (by omega) (by omega)]
    rw [show (kids.length : Int) - 1 - ((k + 1 : Nat) : Int) = ((kids.length - 1 - k : Nat) : Int) - 1 by omega]) (by
    unfold AI Ca
    simp only
    rw [decide_eq_false (by omega), cond_false, List.take_of_length_le (by rw [List.length_reverse]; omega)])
  have this' : fix (AI (kids.map fN)) ((kids.length : Int) - 1 - ((0 : Nat) : Int), []) = some (fN kids.reverse.flatten) := this
  rw [show (kids.length : Int) - 1 - ((0 : Nat) : Int) = (kids.length : Int) - 1 by omega] at this'
  exact this'
theorem Nh {s : Sg} {v : Ab.V} (h : 1 ≤ s.w) (e : sgV s = v) : ([v] : List Ab.V) = fN s.bits := by
  unfold fN
  rw [Ww h, ← e]; rfl
theorem PZ {d : List Ae.V} {n : Ad.V} {kids : List (List Bt)} (h : NB d n kids) : BV n d (kids.map fN) = some (fN (nodeBits d n kids)) := by
  have e1 : ∀ x : Int, (n.1 == x) = decide (nOp n = x) := fun x => IB
  have hbl := Kn h
  have hbl2 := hbl.2.1
  unfold BV mkr
  simp only [e1]
  by_cases h1 : nOp n = 1
  · rw [decide_eq_true h1, cond_true]
    have hf := h.hf
    unfold FormP at hf
    have hv : 0 ≤ nVar n ∧ nVar n < (d.length : Int) := by omega
    have hdw := (h.hd.2.1 (nVar n).toNat (by omega)).2.1
    obtain ⟨N, hN⟩ : ∃ N : Nat, dw d (nVar n).toNat = (N : Int) := ⟨(dw d (nVar n).toNat).toNat, by omega⟩
    rw [if_pos (show (0 : Int) ≤ n.2.1 ∧ n.2.1 < (d.length : Int) from hv), show (d.getD n.2.1.toNat (Ty.zero Ae)).2.1 = (N : Int) from hN]
    rw [Nh (s := .va (nVar n).toNat 0 N) (by show 1 ≤ N; omega) (by
      show ((((nVar n).toNat : Nat) : Int), ((0 : Nat) : Int), (N : Int), ((0 : Int), ([] : List Int), ()), ()) = _
      rw [show (((nVar n).toNat : Nat) : Int) = n.2.1 by show _ = nVar n; omega]; rfl)]
    simp only [nodeBits, if_pos h1, hN, Int.toNat_natCast, Sg.bits, Nat.zero_add]
  rw [decide_eq_false h1, cond_false]
  by_cases h2 : nOp n = 2
  · rw [decide_eq_true h2, cond_true]
    have hf := h.hf
    unfold FormP at hf
    obtain ⟨m, hm1, hm2⟩ : ValP n := by
      rcases hf with h | h | h | h
      · omega
      · exact h.2.2
      · omega
      · omega
    have hl : ((List.range m).map fun k => bt (nWs n) k).length = m := by simp
    rw [show Bh n.2.2.2.2.1 = some (nW n, nWs n) from KJ h.hb.2.1, Option.bind_some]
    rw [Nh (s := .co ((List.range m).map fun k => bt (nWs n) k)) (by show 1 ≤ List.length _; rw [hl]; exact hm2.1) (by
      show (-1, 0, ((((List.range m).map fun k => bt (nWs n) k).length : Nat) : Int), mkL ((List.range m).map fun k => bt (nWs n) k), ()) = _
      rw [Te (f := bt (nWs n)) hl (fun i hi => by simp [List.getD, hi]), hl, show mkB m (bt (nWs n)) = ((m : Int), nWs n, ()) by unfold mkB; rw [← hm2.eq]]
      simp only [An]
      rw [hm1])]
    simp only [nodeBits, if_neg h1, if_pos h2, hm1, Int.toNat_natCast, Sg.bits, List.map_map]
    rfl
  rw [decide_eq_false h2, cond_false]
  by_cases h3 : nOp n = 3
  · rw [decide_eq_true h3, cond_true, Sk h h3]
    simp only [nodeBits, if_neg h1, if_neg h2, if_pos h3]
    rfl
  rw [decide_eq_false h3, cond_false]
  obtain ⟨h4, h9, B, rfl, hB, hs⟩ := h.one h1 h2 h3
  have hl := hB.1
  have hl4 := hB.2.1
  have hw := h.hw
  have g0 : ([B].map fN).getD 0 (Ty.zero (.sl Ab)) = fN B := rfl
  have r0 : (0 : Int) ≤ (0 : Int) ∧ (0 : Int) < (([B].map fN).length : Int) := ⟨by omega, by simp⟩
  have hflen : (fN B).length ≤ 4096 := by
    unfold fN; rw [FV]
    have := GI (Ec B)
    rw [DS] at this; omega
  rw [hs] at hw
  rw [if_pos r0, g0, widthN hB, Option.bind_some]
  simp only [nodeBits, if_neg h1, if_neg h2, if_neg h3, List.getD_cons_zero] at hbl2 ⊢
  simp only [widF, if_neg h1, if_neg h2] at hw
  by_cases h4' : nOp n = 4
  · simp only [if_pos h4'] at hw hbl2 ⊢
    split at hw <;> rename_i hc
    · obtain ⟨A, hA⟩ : ∃ A : Nat, nA n = (A : Int) := ⟨(nA n).toNat, by omega⟩
      obtain ⟨L, hL⟩ : ∃ L : Nat, nB n = (L : Int) := ⟨(nB n).toNat, by omega⟩
      have hA' : n.2.2.1 = (A : Int) := hA
      have hL' : n.2.2.2.1 = (L : Int) := hL
      rw [decide_eq_true h4', cond_true, hA', hL', show IntKind.i64.wrap ((A : Int) - (L : Int)) = ((A - L : Nat) : Int) from wrapN (by omega) (by omega), show IntKind.i64.wrap (((A - L : Nat) : Int) + 1) = ((A - L + 1 : Nat) : Int) from wrapN (by omega) (by omega), partN h.hd hB (by omega), hA, hL, Int.toNat_natCast, Int.toNat_natCast]
      rw [List.drop_take, show A + 1 - L = A - L + 1 by omega]
      rfl
    · omega
  rw [decide_eq_false h4', cond_false]
  simp only [if_neg h4'] at hw hbl2 ⊢
  by_cases h78 : nOp n = 7 ∨ nOp n = 8
  · have h56 : ¬ (nOp n = 5 ∨ nOp n = 6) := by omega
    have h5 : ¬ nOp n = 5 := by omega
    have h6 : ¬ nOp n = 6 := by omega
    have h9' : ¬ nOp n = 9 := by omega
    simp only [if_neg h5, if_neg h6, if_neg h9', if_neg h56, if_pos h78] at hw ⊢
    split at hw <;> rename_i hc
    · obtain ⟨A, hA⟩ : ∃ A : Nat, nA n = (A : Int) := ⟨(nA n).toNat, by omega⟩
      have hA' : n.2.2.1 = (A : Int) := hA
      have hc1 : (bif decide (nOp n = 7) then decide (nOp n = 7) else decide (nOp n = 8)) = true := by
        rcases h78 with h | h <;> simp [h]
      have ht := PS (n := n) hl
      rw [hc1, cond_true, if_neg (by omega), hA']
      have hmod : Int.tmod (A : Int) (B.length : Int) = ((A % B.length : Nat) : Int) := rfl
      have hml : A % B.length < B.length := Nat.mod_lt _ (by omega)
      rw [show BQ n (B.length : Int) (fN B) (Int.tmod (A : Int) (B.length : Int)) = some ((turnBy n B.length : Nat) : Int) by
        unfold BQ turnBy
        rw [e1, hmod, hA, Int.toNat_natCast]
        by_cases h8 : nOp n = 8
        · rw [decide_eq_true h8, cond_true, if_neg (by omega), if_pos h8, show IntKind.i64.wrap ((B.length : Int) - ((A % B.length : Nat) : Int)) = ((B.length - A % B.length : Nat) : Int) from wrapN (by omega) (by omega)]
          rfl
        · rw [decide_eq_false h8, cond_false, if_neg h8], Option.bind_some]
      have hsub : IntKind.i64.wrap ((B.length : Int) - ((turnBy n B.length : Nat) : Int)) = ((B.length - turnBy n B.length : Nat) : Int) := wrapN (by omega) (by omega)
      have hz : (0 : Int) = ((0 : Nat) : Int) := rfl
      rw [hsub, partN h.hd hB (by omega), Option.bind_some, hz, partN h.hd hB (by omega), Option.bind_some, List.drop_zero, show List.take (turnBy n B.length) (List.drop (B.length - turnBy n B.length) B) = List.drop (B.length - turnBy n B.length) B from List.take_of_length_le (by rw [List.length_drop]; omega)]
      rw [raiseN h.hd (fun x hx => hB.2.2 x (List.mem_of_mem_drop hx)) (fun x hx => hB.2.2 x (List.mem_of_mem_take hx)) (by rw [List.length_drop, List.length_take]; omega)]
      rfl
    · omega
  have hc1 : (bif decide (nOp n = 7) then decide (nOp n = 7) else decide (nOp n = 8)) = false := by
    rw [show ¬ nOp n = 7 ∧ ¬ nOp n = 8 by omega |> fun h => (decide_eq_false h.1 : decide (nOp n = 7) = false), cond_false]
    exact decide_eq_false (by omega)
  rw [hc1, cond_false]
  by_cases h9' : nOp n = 9
  · have h56 : ¬ (nOp n = 5 ∨ nOp n = 6) := by omega
    have h5 : ¬ nOp n = 5 := by omega
    have h6 : ¬ nOp n = 6 := by omega
    simp only [if_neg h5, if_neg h6, if_pos h9', if_neg h56, if_neg h78] at hw hbl2 ⊢
    split at hw <;> rename_i hc
    · obtain ⟨A, hA⟩ : ∃ A : Nat, nA n = (A : Int) := ⟨(nA n).toNat, by omega⟩
      have hA' : n.2.2.1 = (A : Int) := hA
      rw [hA] at hw hbl2
      simp only [Int.toNat_natCast, List.length_flatten, List.map_replicate, List.sum_replicate_nat] at hbl2
      rw [decide_eq_true h9', cond_true, hA']
      rw [show CT (fN B) (A : Int) 0 [] = some (fN (List.replicate A B).flatten) by
        unfold CT
        have := BJ (f := AU (fN B) (A : Int)) (fun k => ((k : Int), fN (List.replicate k B).flatten)) (t := fN (List.replicate A B).flatten) A (fun k hk => by
          unfold AU B8
          simp only
          have hkl : (k + 1) * B.length ≤ A * B.length := Nat.mul_le_mul_right _ (by omega)
          have hkl2 : (k + 1) * B.length = k * B.length + B.length := Nat.succ_mul _ _
          have hA2 : A ≤ A * B.length := Nat.le_mul_of_pos_right _ (by omega)
          rw [dlt hk, cond_true, raiseN h.hd (fun x hx => by
            obtain ⟨C, hC, hx⟩ := List.mem_flatten.1 hx
            rw [(List.mem_replicate.1 hC).2] at hx
            exact hB.2.2 x hx) hB.2.2 (by rw [List.length_flatten, List.map_replicate, List.sum_replicate_nat]; omega), Option.bind_some, stepN hk (by omega), List.replicate_succ', List.flatten_append]
          simp) (by
          unfold AU B8
          simp only
          rw [dge, cond_false])
        exact this, hA]
      rfl
    · omega
  have h56 : nOp n = 5 ∨ nOp n = 6 := by omega
  rw [decide_eq_false h9', cond_false]
  simp only [if_neg h9', if_pos h56] at hw hbl2 ⊢
  split at hw <;> rename_i hc
  · obtain ⟨A, hA⟩ : ∃ A : Nat, nA n = (A : Int) := ⟨(nA n).toNat, by omega⟩
    have hA' : n.2.2.1 = (A : Int) := hA
    have hz1 : Cb 1 = some (1, [0]) := K5 (n := 1) (by omega)
    rw [hz1, Option.bind_some]
    rw [if_pos (by omega)]
    by_cases h6 : nOp n = 6
    · have h5 : ¬ nOp n = 5 := by omega
      have hlast : BitIn d (B.getD (B.length - 1) (.co false)) := hB.2.2 _ (Ay (by omega))
      rw [show AP n (B.length : Int) (fN B) (fN B) (An 1 [0]).1 (An 1 [0]).2.1 (An 1 [0]).2.2.1 (An 1 [0]).2.2.2.1 (An 1 [0]).2.2.2.2 = some (.inl (sgV (B.getD (B.length - 1) (.co false)).sg)) by
        unfold AP
        rw [e1, decide_eq_true h6, cond_true, show IntKind.i64.wrap ((B.length : Int) - 1) = ((B.length - 1 : Nat) : Int) from wrapN (by omega) (by omega), show (1 : Int) = ((1 : Nat) : Int) from rfl, partN h.hd hB (by omega), Option.bind_some]
        have : (B.drop (B.length - 1)).take 1 = [B.getD (B.length - 1) (.co false)] := by
          rw [List.drop_eq_getElem_cons (by omega), show B.getD (B.length - 1) (.co false) = B[B.length - 1] by simp [List.getD, show B.length - 1 < B.length by omega]]; rfl
        rw [this, Zz, if_pos ⟨by omega, by simp⟩]
        rfl, Option.bind_some]
      simp only [Sum.elim_inl, if_neg h5, if_pos h6, hA, Int.toNat_natCast]
      rw [hA']
      unfold EN
      rw [PC (f := Cd (sgV (B.getD (B.length - 1) (.co false)).sg) (A : Int)) h.hd hB hlast (A := A) (by omega) (fun x => rfl)]
      rfl
    · have h5 : nOp n = 5 := by omega
      rw [show AP n (B.length : Int) (fN B) (fN B) (An 1 [0]).1 (An 1 [0]).2.1 (An 1 [0]).2.2.1 (An 1 [0]).2.2.2.1 (An 1 [0]).2.2.2.2 = some (.inr ()) by
        unfold AP
        rw [e1, decide_eq_false h6, cond_false], Option.bind_some]
      simp only [Sum.elim_inr, if_pos h5, hA, Int.toNat_natCast]
      rw [hA']
      have hco : ((An 1 [0]).1, (An 1 [0]).2.1, (An 1 [0]).2.2.1, ((An 1 [0]).2.2.2.1, (An 1 [0]).2.2.2.2, ()), ()) = sgV (Bt.co false).sg := rfl
      rw [hco]
      unfold ER
      rw [PC (f := Cc (A : Int) (sgV (Bt.co false).sg)) h.hd hB (show BitIn d (.co false) from trivial) (A := A) (by omega) (fun x => rfl)]
      rfl
  · omega
end Go.Proofs.X
namespace Go.Proofs.X
open Go Go.Va
set_option maxRecDepth 100000
def kidB (all : List (List Bt)) (n : Ad.V) : List (List Bt) := (nKids n).map fun k => all.getD k.toNat []
def TB (d : List Ae.V) (t : List Ad.V) : Nat → List (List Bt)
  | 0 => []
  | i + 1 => TB d t i ++ [nodeBits d (nd t i) (kidB (TB d t i) (nd t i))]
theorem J7 (d : List Ae.V) (t : List Ad.V) : ∀ i, (TB d t i).length = i
  | 0 => rfl
  | i + 1 => by simp only [TB, List.length_append, J7 d t i]; rfl
theorem RL (d : List Ae.V) (t : List Ad.V) {i j k : Nat} (h : j < i) (hk : i ≤ k) : (TB d t k).getD j [] = (TB d t i).getD j [] := by
  induction k with
  | zero => omega
  | succ k ih =>
    rcases Nat.lt_or_ge k i with h1 | h1
    · have : i = k + 1 := by omega
      rw [this]
    · rw [← ih h1]
      simp only [TB, List.getD]
      rw [List.getElem?_append_left (by rw [J7]; omega)]
theorem MG (d : List Ae.V) (t : List Ad.V) (i : Nat) : (TB d t (i + 1)).getD i [] = nodeBits d (nd t i) (kidB (TB d t i) (nd t i)) := by
  simp only [TB, List.getD]
  rw [List.getElem?_append_right (by rw [J7]; omega), J7]
  simp
theorem Wn {A : Type} (f : A → Nat) (l : List A) : (((l.map f).sum : Nat) : Int) = (l.map fun x => (f x : Int)).sum := by
  induction l with
  | nil => rfl
  | cons x l ih => simp only [List.map_cons, List.sum_cons]; rw [← ih]; omega
theorem PT {d : List Ae.V} {t : List Ad.V} {ws : List Int} {i : Nat} (hd : DeclsP d) (ht : TermB t) (h : TermP d t ws) (hi : i < t.length) (hp : ∀ j, j < i → BitsIn d ((TB d t i).getD j []) ∧ (((TB d t i).getD j []).length : Int) = ws.getD j 0) :
    NB d (nd t i) (kidB (TB d t i) (nd t i)) ∧ widF d (nd t i) (kidS (kidB (TB d t i) (nd t i))) = ws.getD i 0 ∧ KidsIn (nd t i) i := by
  obtain ⟨_, _, hl, ⟨_, hpre⟩, _⟩ := h
  have hn := hpre i (by omega)
  obtain ⟨hin, _, hf, hw, h1, h2⟩ := hn
  have hwl : (ws.take i).length = i := by rw [List.length_take]; omega
  rw [hwl] at hin
  have hs : kidS (kidB (TB d t i) (nd t i)) = (kidW (ws.take i) (nd t i)).sum := by
    unfold kidS kidB kidW
    rw [List.map_map, Wn]
    congr 1
    refine List.map_congr_left fun k hk => ?_
    have := hin k hk
    show (((TB d t i).getD k.toNat []).length : Int) = _
    rw [(hp k.toNat (by omega)).2]
    simp only [List.getD, List.getElem?_take, show k.toNat < i by omega, if_true]
  refine ⟨⟨hd, hf, ht.2 _ (Ay hi), by simp [kidB], by rw [hs, ← hw]; exact ⟨h1, h2⟩, fun B hB => ?_⟩, by rw [hs, ← hw], hin⟩
  obtain ⟨k, hk, rfl⟩ := List.mem_map.1 hB
  have := hin k hk
  exact (hp k.toNat (by omega)).1
theorem SD {d : List Ae.V} {t : List Ad.V} {ws : List Int} (hd : DeclsP d) (ht : TermB t) (h : TermP d t ws) : ∀ i, i ≤ t.length → ∀ j, j < i → BitsIn d ((TB d t i).getD j []) ∧ (((TB d t i).getD j []).length : Int) = ws.getD j 0
  | 0, _, j, hj => by omega
  | i + 1, hi, j, hj => by
    have ih := SD hd ht h i (by omega)
    rcases Nat.lt_or_ge j i with h1 | h1
    · rw [RL d t h1 (Nat.le_succ i)]; exact ih j h1
    · have : j = i := by omega
      subst this
      obtain ⟨hnb, hw, _⟩ := PT hd ht h (by omega) ih
      rw [MG]
      exact ⟨Kn hnb, by rw [L0 hnb, hw]⟩
def OkF (d : List Ae.V) (t : List Ad.V) (n : Nat) : Prop := ∀ i, i < n → (norm ((TB d t n).getD i [])).length ≤ 2000
def lastB (d : List Ae.V) (t : List Ad.V) : List Bt := (TB d t t.length).getD (t.length - 1) []
open Classical in
noncomputable def flatF (d : List Ae.V) (t : List Ad.V) : Bool × List Ab.V := if (∃ ws, TermP d t ws) ∧ OkF d t t.length then (true, fN (lastB d t)) else (false, [])
theorem OkF.succ {d : List Ae.V} {t : List Ad.V} {n : Nat} : OkF d t (n + 1) ↔ OkF d t n ∧ (norm (nodeBits d (nd t n) (kidB (TB d t n) (nd t n)))).length ≤ 2000 := by
  unfold OkF
  constructor
  · intro h
    refine ⟨fun i hi => ?_, ?_⟩
    · have := h i (by omega); rw [RL d t hi (Nat.le_succ n)] at this; exact this
    · have := h n (by omega); rw [MG] at this; exact this
  · rintro ⟨h1, h2⟩ i hi
    rcases Nat.lt_or_ge i n with h | h
    · rw [RL d t h (Nat.le_succ n)]; exact h1 i h
    · have : i = n := by omega
      subst this; rw [MG]; exact h2
theorem OkF.mono {d : List Ae.V} {t : List Ad.V} {m n : Nat} (h : OkF d t n) (hm : m ≤ n) : OkF d t m := fun i hi => by
  have := h i (by omega); rw [RL d t hi hm] at this; exact this
theorem OV {a : List Ae.V} {g c : Int} {b : Ai.V} {j : Ad.V} {all : List (List Bt)} {pad : List (List Ab.V)} {n : Ad.V} (hn : (nKids n).length ≤ 1048576) (hin : KidsIn n all.length) :
    Hz a g c b (all.map fN ++ pad) j (nKids n) ((nKids n).length : Int) 0 (List.replicate (nKids n).length []) = some ((kidB all n).map fN) := by
  unfold Hz
  have hget : ∀ m, m < (nKids n).length → (all.map fN ++ pad).getD ((nKids n).getD m 0).toNat [] = fN (all.getD ((nKids n).getD m 0).toNat []) := fun m hm => by
    have := hin _ (Ay (z := (0 : Int)) hm)
    rw [← fGetN]
    generalize (nKids n).getD m 0 = q at this ⊢
    simp only [List.getD]
    rw [List.getElem?_append_left (by rw [List.length_map]; omega)]
    rfl
  have := BJ (f := Cq a g c b (all.map fN ++ pad) j (nKids n) ((nKids n).length : Int)) (fun k => ((k : Int), fillN (fun m => (all.map fN ++ pad).getD ((nKids n).getD m 0).toNat []) [] (nKids n).length k)) (t := (kidB all n).map fN) (nKids n).length (fun k hk => by
    unfold Cq Fy
    simp only
    have hk2 := hin _ (Ay (z := (0 : Int)) hk)
    have e0 : (Ty.zero (.int .i64) : Int) = 0 := rfl
    rw [e0, dlt hk, cond_true, if_pos (rng hk), Int.toNat_natCast, if_pos ⟨hk2.1, by rw [List.length_append, List.length_map]; omega⟩, fillN_len, if_pos (rng hk), stepN hk (by omega)]
    rw [show (Ty.zero (.sl Ab)) = ([] : List Ab.V) from rfl, fillN_set (fun m => (all.map fN ++ pad).getD ((nKids n).getD m 0).toNat []) [] (n := (nKids n).length) (k := k)]) (by
    unfold Cq Fy
    simp only
    rw [dge, cond_false]
    congr 2
    unfold fillN kidB
    rw [List.map_map]
    refine List.ext_getElem (by simp) fun i h1 h2 => ?_
    simp only [List.getElem_map, List.getElem_range, Function.comp]
    have hi : i < (nKids n).length := by simpa using h1
    rw [if_pos hi, hget i hi]
    simp [List.getD, hi])
  rw [show fillN (fun m => (all.map fN ++ pad).getD ((nKids n).getD m 0).toNat []) [] (nKids n).length 0 = List.replicate (nKids n).length [] from fillN_zero _ _ _] at this
  exact this
theorem PA (B : List Bt) : (fN B).length = (norm B).length := FV _
theorem Fk {d : List Ae.V} {B : List Bt} (h : BitsIn d B) : Small (fN B) := by
  have hlen := GI (Ec B)
  rw [DS] at hlen
  have h4 := h.2.1
  refine ⟨by rw [PA]; omega, fun s hs => ?_⟩
  obtain ⟨q, hq, rfl⟩ := List.mem_map.1 hs
  cases q with
  | co bs =>
    show (mkL bs).2.1.length ≤ 1048576
    rw [(KK bs).1]
    have : (Sg.co bs).w ≤ widL (norm B) := by
      have : ∀ (l : List Sg) (s : Sg), s ∈ l → s.w ≤ widL l := fun l s hs => by
        induction l with
        | nil => cases hs
        | cons a l ih =>
          simp only [widL, List.map_cons, List.sum_cons]
          rcases List.mem_cons.1 hs with rfl | hs
          · omega
          · have := ih hs; unfold widL at this; omega
      exact this _ _ hq
    rw [DS] at this
    have e : (Sg.co bs).w = bs.length := rfl
    unfold nw; omega
  | va v l n => show ([] : List Int).length ≤ _; simp
theorem JK {d : List Ae.V} {t : List Ad.V} {ws : List Int} (hd : DeclsP d) (ht : TermB t) (h : TermP d t ws) : Ce d (t, ()) = some (flatF d t) := by
  have hl1 := h.1
  have hl2 := h.2.1
  refine Ret.eq_ ?_
  unfold Ce
  rw [if_pos ⟨rfl, by show (0 : Int) ≤ (t.length : Int); omega, by omega, by show ((24 : Nat) : Int) * (t.length : Int) ≤ _; omega, by show (t.length : Int) ≤ _; omega⟩]
  show Ret ((Hg d (t, ()) (t.length : Int) 0 (List.replicate (t.length : Int).toNat [])).bind _) _
  rw [Int.toNat_natCast]
  refine Ret.bind (P := fun r => (∃ x, r = .inl x ∧ ¬ OkF d t t.length) ∨ (r = .inr ((TB d t t.length).map fN) ∧ OkF d t t.length)) ?_ fun r hr => ?_
  · unfold Hg
    refine Gc (fun m (x : Int × List (List Ab.V)) => ∃ i : Nat, i ≤ t.length ∧ m = t.length - i ∧ x = ((i : Int), (TB d t i).map fN ++ List.replicate (t.length - i) []) ∧ OkF d t i) (fun m x hI => ?_) t.length _ ⟨0, Nat.zero_le _, rfl, by simp [TB], fun i hi => by omega⟩
    obtain ⟨i, hi, rfl, rfl, hok⟩ := hI
    unfold Fz HF
    simp only
    rcases Nat.lt_or_ge i t.length with hlt | hge
    · obtain ⟨hnb, hw, hin⟩ := PT hd ht h hlt (SD hd ht h i hi)
      have hkl := hnb.hb.1
      have hnd : t.getD i (Ty.zero Ad) = nd t i := rfl
      have hkk : (nd t i).2.2.2.2.2.1 = nKids (nd t i) := rfl
      rw [dlt hlt, cond_true, if_pos (rng hlt), Int.toNat_natCast, hnd, hkk, if_pos ⟨rfl, by omega, by omega, by omega, by omega⟩, Int.toNat_natCast]
      rw [OV hkl (by rw [J7]; exact hin), Option.bind_some, PZ hnb, Option.bind_some]
      have hlen : ((TB d t i).map fN ++ List.replicate (t.length - i) ([] : List Ab.V)).length = t.length := by rw [List.length_append, List.length_map, J7, List.length_replicate]; omega
      have hset : ((TB d t i).map fN ++ List.replicate (t.length - i) ([] : List Ab.V)).set i (fN (nodeBits d (nd t i) (kidB (TB d t i) (nd t i)))) = (TB d t (i + 1)).map fN ++ List.replicate (t.length - (i + 1)) [] := by
        rw [List.set_append_right _ _ (by rw [List.length_map, J7]; omega), List.length_map, J7, Nat.sub_self, show t.length - i = (t.length - (i + 1)) + 1 by omega, List.replicate_succ, List.set_cons_zero]
        simp only [TB, List.map_append, List.map_cons, List.map_nil, List.append_assoc]
        rfl
      have hget : ((TB d t (i + 1)).map fN ++ List.replicate (t.length - (i + 1)) ([] : List Ab.V)).getD i (Ty.zero (.sl Ab)) = fN (nodeBits d (nd t i) (kidB (TB d t i) (nd t i))) := by
        rw [← MG, ← fGetN]
        simp only [List.getD]
        rw [List.getElem?_append_left (by rw [List.length_map, J7]; omega)]
      rw [hlen, if_pos (rng hlt), List.length_set, hlen, if_pos (rng hlt), hset, hget, PA]
      by_cases hc : (norm (nodeBits d (nd t i) (kidB (TB d t i) (nd t i)))).length ≤ 2000
      · rw [decide_eq_false (by omega), cond_false, stepN hlt (by omega)]
        exact Ret.mk ⟨t.length - (i + 1), by omega, i + 1, hlt, rfl, rfl, OkF.succ.2 ⟨hok, hc⟩⟩
      · rw [decide_eq_true (by omega), cond_true]
        exact Ret.mk (.inl ⟨_, rfl, fun h' => hc (OkF.succ.1 (h'.mono hlt)).2⟩)
    · have : i = t.length := by omega
      subst this
      rw [dge, cond_false]
      exact Ret.mk (.inr ⟨by simp, hok⟩)
  · rcases hr with ⟨x, rfl, hno⟩ | ⟨rfl, hok⟩
    · simp only [Sum.elim_inl]
      refine Ret.mk ?_
      unfold flatF
      rw [if_neg (fun h' => hno h'.2)]
    · simp only [Sum.elim_inr]
      have hlast : IntKind.i64.wrap ((((TB d t t.length).map fN).length : Int) - 1) = ((t.length - 1 : Nat) : Int) := by rw [List.length_map, J7]; exact wrapN (by omega) (by omega)
      rw [hlast, List.length_map, J7, if_pos ⟨by omega, by omega⟩, Int.toNat_natCast, fGetN]
      have hb := (SD hd ht h t.length (Nat.le_refl _) (t.length - 1) (by omega)).1
      rw [GK (Fk hb), Option.bind_some]
      refine Ret.mk ?_
      unfold flatF
      rw [if_pos ⟨⟨ws, h⟩, hok⟩]; rfl
theorem FP {d : List Ae.V} {t : List Ad.V} (hd : DeclsP d) (ht : TermB t) : A0 d (t, ()) = some (flatF d t) := by
  refine Ret.eq_ ?_
  unfold A0
  have hd60 := hd.1
  rw [JQ ht (by omega) hd, Option.bind_some]
  by_cases hw : ∃ ws, TermP d t ws
  · obtain ⟨ws, h⟩ := hw
    have hl1 := h.1
    have hl2 := h.2.1
    have hp := Pn h
    rw [decide_eq_false (by omega), cond_false]
    refine Ret.bind (P := fun r => (r = .inl () ∧ ¬ OkF d t t.length) ∨ (r = .inr (fN (lastB d t)) ∧ OkF d t t.length)) ?_ fun r hr => ?_
    · unfold IZ
      refine Gc (fun m (x : Int × List (List Ag.V) × List Ab.V) => ∃ i : Nat, i ≤ t.length ∧ m = t.length - i ∧ x.1 = (i : Int) ∧ x.2.1 = (TB d t i).map bV ∧ (0 < i → x.2.2 = fN ((TB d t i).getD (i - 1) [])) ∧ OkF d t i) (fun m x hI => ?_) t.length _ ⟨0, Nat.zero_le _, rfl, rfl, rfl, fun h => by omega, fun i hi => by omega⟩
      obtain ⟨x1, x2, x3⟩ := x
      obtain ⟨i, hi, rfl, h1, h2, h3, hok⟩ := hI
      simp only at h1 h2 h3
      subst h1 h2
      unfold FL HK
      simp only
      rcases Nat.lt_or_ge i t.length with hlt | hge
      · obtain ⟨hnb, hw, hin⟩ := PT hd ht h hlt (SD hd ht h i hi)
        have hkl := hnb.hb.1
        have hnd : t.getD i (Ty.zero Ad) = nd t i := rfl
        have hkk : (nd t i).2.2.2.2.2.1 = nKids (nd t i) := rfl
        have hkids : GX d (i : Int) (t, ()) ((TB d t i).map bV) 0 [] = some ((kidB (TB d t i) (nd t i)).map bV) := by
          unfold GX
          rw [Lf (f := Cn d (i : Int) (t, ()) ((TB d t i).map bV)) (nKids (nd t i)).length (fun m => bV ((TB d t i).getD ((nKids (nd t i)).getD m 0).toNat [])) [] (fun k acc hk ha => by
            unfold Cn Fo
            simp only
            have hk2 := hin _ (Ay (z := (0 : Int)) hk)
            simp at ha
            have e0 : (Ty.zero (.int .i64) : Int) = 0 := rfl
            rw [if_pos (rng hlt), Int.toNat_natCast, hnd, hkk, dlt hk, cond_true, if_pos (rng hlt), if_pos (rng hk), Int.toNat_natCast, e0, if_pos ⟨hk2.1, by rw [List.length_map, J7]; exact hk2.2⟩, kGet, stepN hk (by omega), if_pos (by show (_ + 1) * 24 ≤ _; omega)]) (fun acc => by
            unfold Cn Fo
            simp only
            rw [if_pos (rng hlt), Int.toNat_natCast, hnd, hkk, dge, cond_false])]
          rw [List.nil_append]
          congr 1
          unfold kidB
          rw [List.map_map]
          refine List.ext_getElem (by simp) fun q h1 h2 => ?_
          simp only [List.getElem_map, List.getElem_range, Function.comp]
          have hq : q < (nKids (nd t i)).length := by simpa using h1
          simp [List.getD, hq]
        rw [dlt hlt, cond_true, hkids, Option.bind_some, if_pos (rng hlt), Int.toNat_natCast, hnd, P3 hnb, Option.bind_some]
        have hb := Kn hnb
        rw [MN (fun b hb' => FU hd (hb.2.2 b hb')) hb.2.1, Option.bind_some]
        by_cases hc : (norm (nodeBits d (nd t i) (kidB (TB d t i) (nd t i)))).length ≤ 2000
        · simp only [decide_eq_true hc, Bool.not_true, cond_false]
          rw [List.length_map, J7, if_pos (by show (_ + 1) * 24 ≤ _; omega), stepN hlt (by omega)]
          refine Ret.mk ⟨t.length - (i + 1), by omega, i + 1, hlt, rfl, rfl, ?_, fun _ => ?_, OkF.succ.2 ⟨hok, hc⟩⟩
          · simp only [TB, List.map_append, List.map_cons, List.map_nil]
          · simp only [Nat.add_sub_cancel]
            rw [MG]; rfl
        · simp only [decide_eq_false hc, Bool.not_false, cond_true]
          exact Ret.mk (.inl ⟨rfl, fun h' => hc (OkF.succ.1 (h'.mono hlt)).2⟩)
      · have : i = t.length := by omega
        subst this
        rw [dge, cond_false]
        exact Ret.mk (.inr ⟨by rw [h3 (by omega)]; rfl, hok⟩)
    · rcases hr with ⟨rfl, hno⟩ | ⟨rfl, hok⟩
      · simp only [Sum.elim_inl]
        refine Ret.mk ?_
        unfold flatF
        rw [if_neg (fun h' => hno h'.2)]
      · simp only [Sum.elim_inr]
        refine Ret.mk ?_
        unfold flatF
        rw [if_pos ⟨⟨ws, h⟩, hok⟩]
  · rw [JW hw, decide_eq_true (by omega), cond_true]
    refine Ret.mk ?_
    unfold flatF
    rw [if_neg (fun h' => hw h'.1)]
end Go.Proofs.X
namespace Go.Va
def brk : List Bt → Nat
  | a :: b :: r => (if a.sg.join b.sg = none then 1 else 0) + brk (b :: r)
  | _ => 0
theorem Wc (B : List Bt) (c b : Bt) : brk (B ++ [c, b]) = brk (B ++ [c]) + if c.sg.join b.sg = none then 1 else 0 := by
  induction B with
  | nil => simp [brk]
  | cons a B ih =>
    cases B with
    | nil => simp only [List.nil_append, List.cons_append, brk] at *; omega
    | cons x B => simp only [List.cons_append, brk] at *; omega
theorem WA (B : List Bt) (n : Nat) : brk (B.take n) ≤ brk B := by
  induction B generalizing n with
  | nil => simp
  | cons a B ih =>
    cases n with
    | zero => simp [brk]
    | succ n =>
      cases B with
      | nil => simp
      | cons b B =>
        cases n with
        | zero => simp [brk]
        | succ n =>
          have := ih (n + 1)
          simp only [List.take_succ_cons, brk] at *; omega
theorem WF (B : List Bt) (n : Nat) : brk (B.drop n) ≤ brk B := by
  induction n generalizing B with
  | zero => simp
  | succ n ih =>
    cases B with
    | nil => simp
    | cons a B =>
      have := ih B
      simp only [List.drop_succ_cons]
      cases B with
      | nil => simp [brk] at this ⊢
      | cons b B => simp only [brk]; omega
theorem Wt {l s j : Sg} (h : l.join s = some j) (x : Bt) : j.join x.sg = none ↔ s.join x.sg = none := by
  cases l <;> cases s <;> simp only [Sg.join] at h
  · cases h; cases x <;> simp [Sg.join, Bt.sg]
  · cases h
  · cases h
  · split at h
    · rename_i hc
      cases h
      cases x with
      | co b => simp [Sg.join, Bt.sg]
      | va v a =>
        simp only [Sg.join, Bt.sg, hc.1, ← hc.2, Nat.add_assoc]
        split <;> simp
    · cases h
theorem Wg (B : List Bt) (c : Bt) : ∃ g l, norm (B ++ [c]) = g ++ [l] ∧ ∀ x : Bt, l.join x.sg = none ↔ c.sg.join x.sg = none := by
  have e : norm (B ++ [c]) = raise1 (norm B) c.sg := by unfold norm; rw [GG]; rfl
  rw [e]
  rcases List.eq_nil_or_concat (norm B) with h | ⟨g, l, h⟩
  · rw [h]; exact ⟨[], c.sg, rfl, fun x => Iff.rfl⟩
  · rw [h, List.concat_eq_append, B4]
    cases hj : l.join c.sg with
    | none => exact ⟨g ++ [l], c.sg, by simp, fun x => Iff.rfl⟩
    | some j => exact ⟨g, j, rfl, Wt hj⟩
theorem K7 (B : List Bt) (c : Bt) : (norm (B ++ [c])).length = brk (B ++ [c]) + 1 := by
  have key : ∀ (n : Nat) (B : List Bt) (c : Bt), B.length = n → (norm (B ++ [c])).length = brk (B ++ [c]) + 1 := by
    intro n
    induction n with
    | zero => intro B c h; rw [List.length_eq_zero_iff.1 h]; simp [norm, addB, raise1, brk]
    | succ n ih =>
      intro B c h
      rcases List.eq_nil_or_concat B with rfl | ⟨B0, x, rfl⟩
      · simp at h
      · rw [List.concat_eq_append] at h ⊢
        rw [List.append_assoc]
        simp only [List.cons_append, List.nil_append]
        have i := ih B0 x (by simp at h; omega)
        obtain ⟨g, l, hg, hl⟩ := Wg B0 x
        have e : norm (B0 ++ [x, c]) = raise1 (norm (B0 ++ [x])) c.sg := by
          rw [show B0 ++ [x, c] = (B0 ++ [x]) ++ [c] by simp]
          unfold norm; rw [GG]; rfl
        rw [Wc, e, hg, B4]
        rw [hg] at i
        simp only [List.length_append, List.length_cons, List.length_nil] at i
        cases hj : l.join c.sg with
        | none => rw [if_pos ((hl c).1 hj)]; simp; omega
        | some j =>
          rw [if_neg (fun h' => by rw [(hl c).2 h'] at hj; cases hj)]; simp; omega
  exact key _ B c rfl
theorem T3 {B C : List Bt} (hc : 1 ≤ C.length) (hb : 1 ≤ B.length) (h : brk C ≤ brk B) : (norm C).length ≤ (norm B).length := by
  rcases List.eq_nil_or_concat B with rfl | ⟨B0, x, rfl⟩
  · simp at hb
  rcases List.eq_nil_or_concat C with rfl | ⟨C0, y, rfl⟩
  · simp at hc
  rw [List.concat_eq_append] at *
  rw [List.concat_eq_append] at *
  rw [K7, K7]; omega
theorem Pr {f : List Sg} (h : Apart f) {k : Nat} (hk : k + 1 < f.length) : (f.getD k (.co [])).join (f.getD (k + 1) (.co [])) = none := by
  induction f generalizing k with
  | nil => simp at hk
  | cons a f ih =>
    cases f with
    | nil => simp at hk
    | cons b f =>
      cases k with
      | zero => exact h.1
      | succ k => exact ih h.2 (by simpa using hk)
end Go.Va
namespace Go.Proofs.X
open Go Go.Va
set_option maxRecDepth 100000
def FormB (d : List Ae.V) (B : List Bt) : Prop := BitsIn d B ∧ (norm B).length ≤ 2000
theorem FormB.pos {d : List Ae.V} {B : List Bt} (h : FormB d B) : 1 ≤ (norm B).length := by
  rcases List.eq_nil_or_concat B with rfl | ⟨B0, x, rfl⟩
  · have := h.1.1; simp at this
  · rw [List.concat_eq_append, K7]; omega
def SegIn (d : List Ae.V) : Sg → Prop
  | .co bs => 1 ≤ bs.length ∧ bs.length ≤ 4096
  | .va v l n => v < d.length ∧ 1 ≤ n ∧ ((l + n : Nat) : Int) ≤ dw d v
theorem Uz {d : List Ae.V} {B : List Bt} (h : BitsIn d B) {s : Sg} (hs : s ∈ norm B) : SegIn d s ∧ s.w ≤ 4096 := by
  have hw := Ec B s hs
  have hb : ∀ b ∈ s.bits, BitIn d b := fun b hb => h.2.2 b (by
    rw [← I6 B]
    exact List.mem_flatMap.2 ⟨s, hs, hb⟩)
  have hle : s.w ≤ 4096 := by
    have : ∀ (l : List Sg) (s : Sg), s ∈ l → s.w ≤ widL l := fun l s hs => by
      induction l with
      | nil => cases hs
      | cons a l ih =>
        simp only [widL, List.map_cons, List.sum_cons]
        rcases List.mem_cons.1 hs with rfl | hs
        · omega
        · have := ih hs; unfold widL at this; omega
    have := this _ _ hs
    rw [DS] at this
    have := h.2.1; omega
  refine ⟨?_, hle⟩
  cases s with
  | co bs => exact ⟨hw, hle⟩
  | va v l n =>
    have hn : 1 ≤ n := hw
    have h0 := hb (.va v l) (List.mem_map.2 ⟨0, List.mem_range.2 hn, by simp⟩)
    have h1 := hb (.va v (l + (n - 1))) (List.mem_map.2 ⟨n - 1, List.mem_range.2 (by omega), rfl⟩)
    have := h1.2
    exact ⟨h0.1, hn, by omega⟩
theorem RZ {d : List Ae.V} (hd : DeclsP d) {s : Sg} (h : SegIn d s) : IO d (sgV s) = some true := by
  unfold IO mkr
  have hd60 := hd.1
  cases s with
  | co bs =>
    obtain ⟨r, hr, hq⟩ := Ly (w := (bs.length : Int)) (KK bs).2 (by rw [(KK bs).1]; unfold nw; have := h.2; omega)
    have hr' : DM (sgV (.co bs)).2.2.2.1 = some r := hr
    rw [show ((sgV (.co bs)).1 == (-1 : Int)) = true from rfl, cond_true, show ((sgV (.co bs)).2.1 == (0 : Int)) = true from rfl, cond_true, hr', Option.bind_some, hq.2 ⟨bs.length, rfl, Po h.1 h.2⟩, cond_true]
    exact congrArg some (beq_iff_eq.2 rfl)
  | va v l n =>
    obtain ⟨hv, hn, hl⟩ := h
    have hdw := (hd.2.1 v hv).2.1
    rw [show ((sgV (.va v l n)).1 == (-1 : Int)) = false from beq_eq_false_iff_ne.2 (by show (v : Int) ≠ -1; omega), cond_false, HJ]
    rw [show (sgV (.va v l n)).1 = (v : Int) from rfl, wrap64 (x := (d.length : Int) - 1) (by omega) (by omega), decide_eq_true (show (0 : Int) ≤ (v : Int) ∧ (v : Int) ≤ (d.length : Int) - 1 by omega), show AG (sgV (.va v l n)).2.2.2.1 = true from rfl]
    simp only [Bool.not_true, Bool.or_self, cond_false]
    rw [if_pos (rng hv), Int.toNat_natCast, HJ, HJ]
    rw [show (d.getD v (Ty.zero Ae)).2.1 = dw d v from rfl, show (sgV (.va v l n)).2.1 = (l : Int) from rfl, show (sgV (.va v l n)).2.2.1 = (n : Int) from rfl, wrap64 (x := dw d v - 1) (by omega) (by omega), wrap64 (x := dw d v - (l : Int)) (by omega) (by omega), decide_eq_true (show (0 : Int) ≤ (l : Int) ∧ (l : Int) ≤ dw d v - 1 by omega), cond_true, decide_eq_true (show (1 : Int) ≤ (n : Int) ∧ (n : Int) ≤ dw d v - (l : Int) by omega)]
theorem Sn {d : List Ae.V} (hd : DeclsP d) {s : Sg} (h : SegIn d s) (hw : s.w ≤ 4096) : IN d (sgV s) = some true := by
  unfold IN mkr
  have hd60 := hd.1
  have h1 : 1 ≤ s.w := by cases s with
    | co bs => exact h.1
    | va v l n => exact h.2.1
  rw [Sa, decide_eq_false (show ¬ (s.w : Int) < 1 by omega), decide_eq_false (show ¬ (s.w : Int) > 4096 by omega), Bool.or_self, cond_false]
  cases s with
  | co bs =>
    obtain ⟨r, hr, hq⟩ := Lb (w := (bs.length : Int)) (KK bs).2 (by rw [(KK bs).1]; unfold nw; have := h.2; omega)
    have hr' : DG (sgV (.co bs)).2.2.2.1 = some r := hr
    rw [show ((sgV (.co bs)).1 == (-1 : Int)) = true from rfl, cond_true, show ((sgV (.co bs)).2.1 == (0 : Int)) = true from rfl, cond_true, hr', Option.bind_some, hq.2 ⟨bs.length, rfl, Po h.1 h.2⟩, cond_true]
    exact congrArg some (beq_iff_eq.2 rfl)
  | va v l n =>
    obtain ⟨hv, hn, hl⟩ := h
    have hdw := (hd.2.1 v hv).2.1
    rw [show ((sgV (.va v l n)).1 == (-1 : Int)) = false from beq_eq_false_iff_ne.2 (by show (v : Int) ≠ -1; omega), cond_false, DY]
    rw [show (sgV (.va v l n)).1 = (v : Int) from rfl, wrap64 (x := (d.length : Int) - 1) (by omega) (by omega), decide_eq_true (show (0 : Int) ≤ (v : Int) ∧ (v : Int) ≤ (d.length : Int) - 1 by omega), show ((sgV (.va v l n)).2.2.2.1.1 != (0 : Int)) = false from rfl, show (((sgV (.va v l n)).2.2.2.1.2.1.length : Int) != 0) = false from rfl]
    simp only [Bool.not_true, Bool.or_self, cond_false]
    rw [show (sgV (.va v l n)).2.1 = (l : Int) from rfl, decide_eq_true (show (l : Int) ≥ 0 by omega), cond_true, if_pos (rng hv), Int.toNat_natCast]
    rw [show (d.getD v (Ty.zero Ae)).2.1 = dw d v from rfl, show (Sg.va v l n).w = n from rfl, wrap64 (x := dw d v - (n : Int)) (by omega) (by omega), decide_eq_true (show (l : Int) ≤ dw d v - (n : Int) by omega)]
theorem Kd {d : List Ae.V} (hd : DeclsP d) {B : List Bt} (h : FormB d B) : EO d (fN B) = some true := by
  have hpos := h.pos
  have h2000 := h.2
  have hwB : widL (norm B) ≤ 4096 := by rw [DS]; exact h.1.2.1
  have hlen : (fN B).length = (norm B).length := PA B
  unfold EO
  obtain ⟨r, hr, hq⟩ := KL d
  rw [show F2 d (fN B) = some false by
    unfold F2
    rw [hr, Option.bind_some, hq.2 hd, Bool.not_true, cond_false, hlen, decide_eq_false (by omega), cond_false, decide_eq_false (by omega)], Option.bind_some, cond_false]
  have := BJ (f := BX d (fN B)) (fun k => ((widL ((norm B).take k) : Int), (k : Int))) (t := .inr (widL (norm B) : Int)) (norm B).length (fun k hk => by
    unfold BX Gm
    simp only
    have hmem : (norm B).getD k (.co []) ∈ norm B := Ay hk
    have hsi := Uz h.1 hmem
    have hsucc := F5 hk
    have hle := Fe (norm B) (k + 1)
    have hget : (fN B).getD k (Ty.zero Ab) = sgV ((norm B).getD k (.co [])) := fGet hk
    rw [hlen, dlt hk, cond_true, if_pos (rng hk), Int.toNat_natCast, hget, RZ hd hsi.1, Option.bind_some, Bool.not_true, cond_false, if_pos (rng hk)]
    rw [Sa, show IntKind.i64.wrap ((widL ((norm B).take k) : Int) + (((norm B).getD k (.co [])).w : Int)) = ((widL ((norm B).take (k + 1)) : Nat) : Int) from wrapN (by rw [hsucc]; omega) (by omega)]
    rw [show FQ d (fN B) (k : Int) ((widL ((norm B).take (k + 1)) : Nat) : Int) = some false by
      unfold FQ
      rcases Nat.eq_zero_or_pos k with h0 | h0
      · subst h0; rfl
      · obtain ⟨j, rfl⟩ : ∃ j, k = j + 1 := ⟨k - 1, by omega⟩
        have hap := Pr (Nr B) hk
        have hgj : (fN B).getD j (Ty.zero Ab) = sgV ((norm B).getD j (.co [])) := fGet (by omega)
        have hsj := Uz h.1 (Ay (z := Sg.co []) (show j < (norm B).length by omega))
        rw [decide_eq_true (by omega), cond_true, hlen, if_pos (rng hk), show IntKind.i64.wrap (((j + 1 : Nat) : Int) - 1) = (j : Int) from wrapN (by omega) (by omega), if_pos (rng (by omega)), Int.toNat_natCast, Int.toNat_natCast, hget, hgj]
        have hd60 := hd.1
        revert hap hsi hsj
        cases (norm B).getD (j + 1) (.co []) with
        | co x =>
          cases (norm B).getD j (.co []) with
          | co y => intro _ hap _; exact absurd hap (by unfold Sg.join; simp)
          | va v l n =>
            intro _ hap hsj
            rw [show ((sgV (.co x)).1 == (sgV (.va v l n)).1) = false from beq_eq_false_iff_ne.2 (by show (-1 : Int) ≠ (v : Int); omega), cond_false]
        | va v l n =>
          cases (norm B).getD j (.co []) with
          | co y =>
            intro _ hap hsj
            rw [show ((sgV (.va v l n)).1 == (sgV (.co y)).1) = false from beq_eq_false_iff_ne.2 (by show (v : Int) ≠ (-1 : Int); omega), cond_false]
          | va v' l' n' =>
            intro hsi hap hsj
            by_cases hc : v' = v ∧ l' + n' = l
            · exact absurd hap (by show ¬ (if v' = v ∧ l' + n' = l then some (Sg.va v' l' (n' + n)) else none) = none; rw [if_pos hc]; simp)
            · skip
              by_cases hv : v' = v
              · subst hv
                have hdw := (hd.2.1 v' hsj.1.1).2.1
                have := hsj.1.2.2
                rw [show ((sgV (.va v' l n)).1 == (sgV (.va v' l' n')).1) = true from beq_iff_eq.2 rfl, cond_true, if_pos (rng hk), show ((sgV (.va v' l n)).1 == (-1 : Int)) = false from beq_eq_false_iff_ne.2 (by show (v' : Int) ≠ -1; omega), cond_false, if_pos (rng hk), if_pos (rng (by omega)), if_pos (rng (by omega))]
                rw [show IntKind.i64.wrap ((sgV (.va v' l' n')).2.1 + (sgV (.va v' l' n')).2.2.1) = ((l' + n' : Nat) : Int) from wrapN (by show (l' : Int) + (n' : Int) = _; omega) (by omega)]
                refine congrArg some (beq_eq_false_iff_ne.2 ?_)
                show (l : Int) ≠ _
                intro e
                exact hc ⟨rfl, by omega⟩
              · rw [show ((sgV (.va v l n)).1 == (sgV (.va v' l' n')).1) = false from beq_eq_false_iff_ne.2 (by show (v : Int) ≠ (v' : Int); omega), cond_false], Option.bind_some, cond_false, stepN hk (by omega)]) (by
    unfold BX Gm
    simp only
    rw [hlen, dge, cond_false, List.take_of_length_le (Nat.le_refl _)])
  unfold JL
  rw [show fix (BX d (fN B)) ((0 : Int), (0 : Int)) = some (.inr (widL (norm B) : Int)) from this, Option.bind_some]
  simp only [Sum.elim_inr]
  rw [decide_eq_true (by omega)]
theorem KY {d : List Ae.V} (hd : DeclsP d) {B : List Bt} (h : FormB d B) : Gv d (fN B) = some true := by
  have hpos := h.pos
  have h2000 := h.2
  have hwB : widL (norm B) ≤ 4096 := by rw [DS]; exact h.1.2.1
  have hlen : (fN B).length = (norm B).length := PA B
  unfold Gv mkr
  rw [hlen, decide_eq_false (by omega), decide_eq_false (by omega), Bool.or_self, cond_false]
  have := BJ (f := B1 d (fN B) ((norm B).length : Int)) (fun k => ((widL ((norm B).take k) : Int), (k : Int))) (t := .inr (widL (norm B) : Int)) (norm B).length (fun k hk => by
    unfold B1 F9
    simp only
    have hmem : (norm B).getD k (.co []) ∈ norm B := Ay hk
    have hsi := Uz h.1 hmem
    have hsucc := F5 hk
    have hle := Fe (norm B) (k + 1)
    have hget : (fN B).getD k (Ty.zero Ab) = sgV ((norm B).getD k (.co [])) := fGet hk
    rw [hlen, dlt hk, cond_true, if_pos (rng hk), Int.toNat_natCast, hget]
    rw [show FZ d (fN B) (widL ((norm B).take k) : Int) (k : Int) ((norm B).length : Int) (sgV ((norm B).getD k (.co []))) = some false by
      unfold FZ
      rw [Sn hd hsi.1 hsi.2, Option.bind_some, Bool.not_true, cond_false]
      rcases Nat.eq_zero_or_pos k with h0 | h0
      · subst h0; rfl
      · obtain ⟨j, rfl⟩ : ∃ j, k = j + 1 := ⟨k - 1, by omega⟩
        have hap := Pr (Nr B) hk
        have hgj : (fN B).getD j (Ty.zero Ab) = sgV ((norm B).getD j (.co [])) := fGet (by omega)
        have hbj := HS (fun x hx => Nu (FU hd (h.1.2.2 x hx))) h.1.2.1 _ (Ay (z := Sg.co []) (show j < (norm B).length by omega))
        rw [decide_eq_true (by omega), cond_true, hlen, show IntKind.i64.wrap (((j + 1 : Nat) : Int) - 1) = (j : Int) from wrapN (by omega) (by omega), if_pos (rng (by omega)), Int.toNat_natCast, hgj, Rd hbj]
        unfold Sg.meets
        rw [hap]; rfl, Option.bind_some, cond_false, stepN hk (by omega)]
    rw [Sa, show IntKind.i64.wrap ((widL ((norm B).take k) : Int) + (((norm B).getD k (.co [])).w : Int)) = ((widL ((norm B).take (k + 1)) : Nat) : Int) from wrapN (by rw [hsucc]; omega) (by omega)]) (by
    unfold B1 F9
    simp only
    rw [dge, cond_false, List.take_of_length_le (Nat.le_refl _)])
  unfold JF
  rw [show fix (B1 d (fN B) ((norm B).length : Int)) ((0 : Int), (0 : Int)) = some (.inr (widL (norm B) : Int)) from this, Option.bind_some]
  simp only [Sum.elim_inr]
  rw [decide_eq_true (by omega)]
theorem Lu {d : List Ae.V} (hd : DeclsP d) {B : List Bt} (h : FormB d B) : GD d (fN B) = some true := by
  unfold GD
  obtain ⟨r, hr, hq⟩ := LW d
  rw [hr, Option.bind_some, hq.2 hd, cond_true, KY hd h]
  rfl
def cutB (B : List Bt) (lo hi : Int) : List Bt := (B.take (hi.toNat + 1)).drop lo.toNat
def CutP (B : List Bt) (hi lo : Int) : Prop := 0 ≤ lo ∧ lo ≤ hi ∧ hi < (B.length : Int)
instance (B : List Bt) (hi lo : Int) : Decidable (CutP B hi lo) := inferInstanceAs (Decidable (_ ∧ _))
theorem Mg {d : List Ae.V} {B : List Bt} (h : FormB d B) {hi lo : Int} (hc : CutP B hi lo) : FormB d (cutB B lo hi) := by
  obtain ⟨h1, h2, h3⟩ := hc
  have hl : (cutB B lo hi).length = hi.toNat + 1 - lo.toNat := by
    unfold cutB; rw [List.length_drop, List.length_take]; omega
  have h4 := h.1.2.1
  refine ⟨⟨by omega, by omega, fun b hb => h.1.2.2 b (List.mem_of_mem_take (List.mem_of_mem_drop hb))⟩, Nat.le_trans (T3 (by omega) h.1.1 ?_) h.2⟩
  exact Nat.le_trans (WF _ _) (WA _ _)
theorem Mx {d : List Ae.V} (hd : DeclsP d) {B : List Bt} (h : FormB d B) (hi lo : Int) : Aq d (fN B) hi lo = some (if CutP B hi lo then (true, fN (cutB B lo hi)) else (false, [])) := by
  unfold Aq mkr
  have h4 := h.1.2.1
  have hs : ∀ x ∈ B, SgB x.sg := fun x hx => Nu (FU hd (h.1.2.2 x hx))
  have hbits : C8 (fN B) = some (bV B) := by
    unfold fN
    rw [O0 (Ec B) (HS hs h4) (by rw [DS]; exact h4), I6]
  rw [Kd hd h, Option.bind_some, Bool.not_true, cond_false, hbits, Option.bind_some, D6]
  by_cases hc : CutP B hi lo
  · rw [if_pos hc]
    have hf := Mg h hc
    obtain ⟨h1, h2, h3⟩ := hc
    rw [decide_eq_false (by omega), decide_eq_false (by omega), decide_eq_false (by omega)]
    simp only [Bool.or_self, cond_false]
    rw [show IntKind.i64.wrap (hi + 1) = ((hi.toNat + 1 : Nat) : Int) from wrapN (by omega) (by omega), if_pos (show 0 ≤ lo ∧ lo ≤ ((hi.toNat + 1 : Nat) : Int) ∧ ((hi.toNat + 1 : Nat) : Int) ≤ (B.length : Int) from ⟨by omega, by omega, by omega⟩), Int.toNat_natCast]
    rw [show ((bV B).take (hi.toNat + 1)).drop lo.toNat = bV (cutB B lo hi) by simp [bV, cutB, List.map_drop, List.map_take]]
    rw [MN (fun b hb => FU hd (hf.1.2.2 b hb)) hf.1.2.1, Option.bind_some, decide_eq_true hf.2]
    rfl
  · rw [if_neg hc]
    have : (decide (lo < 0) || (decide (hi < lo) || decide (hi ≥ (B.length : Int)))) = true := by
      rw [← Bool.decide_or, ← Bool.decide_or]
      refine decide_eq_true ?_
      unfold CutP at hc; omega
    rw [this, cond_true]
theorem MT {d : List Ae.V} (hd : DeclsP d) {B : List Bt} (h : FormB d B) (hi lo : Int) : DN d (fN B) hi lo = some (if CutP B hi lo then (true, fN (cutB B lo hi)) else (false, [])) := by
  unfold DN
  have h4 := h.1.2.1
  rw [show D2 d (fN B) hi lo = some (decide ¬ CutP B hi lo) by
    unfold D2
    rw [Lu hd h, Option.bind_some, Bool.not_true, cond_false]
    by_cases h1 : lo < 0
    · rw [decide_eq_true h1, cond_true, decide_eq_true (by unfold CutP; omega)]
    · rw [decide_eq_false h1, cond_false]
      by_cases h2 : lo > hi
      · rw [decide_eq_true h2, cond_true, decide_eq_true (by unfold CutP; omega)]
      · rw [decide_eq_false h2, cond_false, widthN h.1, Option.bind_some]
        congr 1
        rw [decide_eq_decide]; unfold CutP; omega, Option.bind_some]
  by_cases hc : CutP B hi lo
  · rw [if_pos hc, decide_eq_false (fun h' => h' hc), cond_false]
    have hf := Mg h hc
    obtain ⟨h1, h2, h3⟩ := hc
    rw [show lo = ((lo.toNat : Nat) : Int) by omega, show IntKind.i64.wrap (IntKind.i64.wrap (hi - ((lo.toNat : Nat) : Int)) + 1) = ((hi.toNat + 1 - lo.toNat : Nat) : Int) by rw [wrapI (x := hi - ((lo.toNat : Nat) : Int)) (by omega) (by omega), wrapI (by omega) (by omega)]; omega, partN hd h.1 (by omega), Option.bind_some]
    have e : (B.drop lo.toNat).take (hi.toNat + 1 - lo.toNat) = cutB B lo hi := by unfold cutB; rw [List.drop_take]
    rw [e, GK (Fk hf.1), Option.bind_some]
    rw [show ((lo.toNat : Nat) : Int) = lo by omega]
  · rw [if_neg hc, decide_eq_true hc, cond_true]
def JoinP (A B : List Bt) : Prop := A.length + B.length ≤ 4096 ∧ (norm (B ++ A)).length ≤ 2000
instance (A B : List Bt) : Decidable (JoinP A B) := inferInstanceAs (Decidable (_ ∧ _))
theorem Pk {d : List Ae.V} {A B : List Bt} (ha : FormB d A) (hb : FormB d B) (h : JoinP A B) : FormB d (B ++ A) := by
  have := ha.1.1
  refine ⟨⟨by rw [List.length_append]; omega, by rw [List.length_append]; have := h.1; omega, fun b hb' => ?_⟩, h.2⟩
  rcases List.mem_append.1 hb' with h' | h'
  · exact hb.1.2.2 b h'
  · exact ha.1.2.2 b h'
theorem M1 {d : List Ae.V} (hd : DeclsP d) {A B : List Bt} (ha : FormB d A) (hb : FormB d B) : Az d (fN A) (fN B) = some (if JoinP A B then (true, fN (B ++ A)) else (false, [])) := by
  unfold Az
  have ha4 := ha.1.2.1
  have hb4 := hb.1.2.1
  have bits : ∀ {C : List Bt}, FormB d C → C8 (fN C) = some (bV C) := fun {C} h => by
    unfold fN
    rw [O0 (Ec C) (HS (fun x hx => Nu (FU hd (h.1.2.2 x hx))) h.1.2.1) (by rw [DS]; exact h.1.2.1), I6]
  rw [show DZ d (fN A) (fN B) = some false by
    unfold DZ
    rw [Kd hd ha, Option.bind_some, Bool.not_true, cond_false, Kd hd hb, Option.bind_some, Bool.not_true], Option.bind_some, cond_false, bits hb, Option.bind_some, bits ha, Option.bind_some, D6, D6, if_pos (by omega), ← J2, D6, List.length_append]
  by_cases hl : A.length + B.length ≤ 4096
  · rw [decide_eq_false (by omega), cond_false, MN (fun b hb' => by
      rcases List.mem_append.1 hb' with h' | h'
      · exact FU hd (hb.1.2.2 b h')
      · exact FU hd (ha.1.2.2 b h')) (by rw [List.length_append]; omega), Option.bind_some]
    by_cases hn : (norm (B ++ A)).length ≤ 2000
    · rw [if_pos ⟨hl, hn⟩]
      simp only [decide_eq_true hn, Bool.not_true, cond_false]
      rfl
    · rw [if_neg (fun h => hn h.2)]
      simp only [decide_eq_false hn, Bool.not_false, cond_true]
  · rw [decide_eq_true (by omega), cond_true, if_neg (fun h => hl h.1)]
theorem MY {d : List Ae.V} (hd : DeclsP d) {A B : List Bt} (ha : FormB d A) (hb : FormB d B) : DT d (fN A) (fN B) = some (if JoinP A B then (fN (B ++ A), true) else ([], false)) := by
  unfold DT
  have ha4 := ha.1.2.1
  have hb4 := hb.1.2.1
  rw [show D0 d (fN A) (fN B) = some (decide ¬ A.length + B.length ≤ 4096) by
    unfold D0
    rw [Lu hd ha, Option.bind_some, Bool.not_true, cond_false, KY hd hb, Option.bind_some, Bool.not_true, cond_false, widthN ha.1, Option.bind_some, widthN hb.1, Option.bind_some, wrapI (by omega) (by omega)]
    congr 1
    rw [decide_eq_decide]; omega, Option.bind_some]
  by_cases hl : A.length + B.length ≤ 4096
  · rw [decide_eq_false (fun h => h hl), cond_false, GK (Fk hb.1), Option.bind_some, GK (Fk ha.1), Option.bind_some, raiseN hd hb.1.2.2 ha.1.2.2 (by omega), Option.bind_some, PA]
    by_cases hn : (norm (B ++ A)).length ≤ 2000
    · rw [if_pos ⟨hl, hn⟩, decide_eq_false (by omega), cond_false]
    · rw [if_neg (fun h => hn h.2), decide_eq_true (by omega), cond_true]
  · rw [decide_eq_true hl, cond_true, if_neg (fun h => hl h.1)]
end Go.Proofs.X
