import Derived.Test.YtgdiapoacpahdaaGreatK17
set_option linter.unusedVariables false
set_option linter.unusedSimpArgs false
namespace Go.Proofs.X
open Go Go.Va
set_option maxRecDepth 100000
theorem Uf {x : Int} (h1 : -1 ≤ x) (h2 : x ≤ 1048576) : Ty.Wf (.int .i64) x := by
  show IntKind.i64.min ≤ x ∧ x ≤ IntKind.i64.max
  have e1 : IntKind.i64.min = -9223372036854775808 := rfl
  have e2 : IntKind.i64.max = 9223372036854775807 := rfl
  rw [e1, e2]; omega
theorem N6 {A : Type} {G : A → A → Option Bool} {a : A} (h : EqOk G a) : G a a = some true := by
  obtain ⟨r, hr, hq⟩ := h a
  rw [hr, hq.2 rfl]
theorem TJ (n : Ad.V) : costN n = 5 + wt Ad n := by
  have e : wt Ad n = wt (.sl (.int .u64)) (nWs n) + wt (.sl (.int .i64)) (nKids n) := by show 0 + (0 + (0 + (0 + ((0 + (_ + 0)) + (_ + 0))))) = _; unfold nWs nKids; omega
  rw [e, T5, Uk]; unfold costN; omega
theorem Lz (t : List Ad.V) : costT t ≤ 5 * wt (.sl Ad) t := by
  show (t.map costN).sum ≤ 5 * (t.length + (t.map (wt Ad)).sum)
  induction t with
  | nil => simp
  | cons n t ih => simp only [List.map_cons, List.sum_cons, List.length_cons, TJ]; omega
theorem Tq (l : List Af.V) : (l.map costL).sum ≤ 5 * wt (.sl Af) l := by
  show _ ≤ 5 * (l.length + (l.map (wt Af)).sum)
  induction l with
  | nil => simp
  | cons x l ih =>
    have h1 := Lz x.2.2.1.1
    have h2 := Lz x.2.2.2.1.1
    have e : wt Af x = wt (.sl Ad) x.2.2.1.1 + wt (.sl Ad) x.2.2.2.1.1 := by show 0 + (0 + ((_ + 0) + ((_ + 0) + 0))) = _; omega
    simp only [List.map_cons, List.sum_cons, List.length_cons, costL]; omega
theorem SP (x : Aa.V) : wt Aa x = wt (.sl Ad) x.2.2.2.2.2.1.1 := by show 0 + (0 + (0 + (0 + (0 + ((_ + 0) + 0))))) = _; omega
theorem R7 (l : List Aa.V) : (l.map costP).sum ≤ 5 * wt (.sl Aa) l := by
  show _ ≤ 5 * (l.length + (l.map (wt Aa)).sum)
  induction l with
  | nil => simp
  | cons x l ih =>
    have h1 := Lz x.2.2.2.2.2.1.1
    have e := SP x
    simp only [List.map_cons, List.sum_cons, List.length_cons, costP]; omega
def OutP (x : Aa.V) : Prop := Ty.Wf Aa x ∧ TermB x.2.2.2.2.2.1.1 ∧ costP x ≤ 5242885
theorem We {A : Type} {P : A → Prop} {l : List A} {z : A} (h : ∀ x ∈ l, P x) (hz : P z) (i : Nat) : P (l.getD i z) := by
  rcases Nat.lt_or_ge i l.length with h1 | h1
  · exact h _ (Ay h1)
  · rw [show l.getD i z = z by simp [List.getD, h1]]; exact hz
theorem W7 {ps : List Aa.V} {a : List Bool} (hb : ps.length ≤ 200) (hp : ∀ s ∈ ps, OutP s) : ∀ k, k ≤ ps.length → (∀ x ∈ (Tr ps a k).1, 0 ≤ x ∧ x ≤ 200) ∧ ∀ s ∈ (Tr ps a k).2, OutP s
  | 0, _ => ⟨fun x hx => by rw [List.eq_of_mem_replicate hx]; omega, fun s hs => by cases hs⟩
  | k + 1, hk => by
    obtain ⟨h1, h2⟩ := W7 (a := a) hb hp k (by omega)
    obtain ⟨l1, l2⟩ := Pc (b := ps) (a := a) k
    unfold Tr Ts
    cases a.getD k false with
    | false => exact ⟨h1, h2⟩
    | true =>
      refine ⟨fun x hx => ?_, fun s hs => ?_⟩
      · rcases List.mem_or_eq_of_mem_set hx with hx | rfl
        · exact h1 x hx
        · omega
      · rcases List.mem_append.1 hs with hs | hs
        · exact h2 s hs
        · rw [List.mem_singleton] at hs
          subst hs
          obtain ⟨⟨w1, w2, w3, w4, w5, w6, _⟩, ht, hc⟩ := hp _ (Ay (z := Ty.zero Aa) (show k < ps.length by omega))
          have hg : ∀ i : Nat, Ty.Wf (.int .i64) ((Tr ps a k).1.getD i 0) := fun i => by
            have := We (P := fun x : Int => 0 ≤ x ∧ x ≤ 200) h1 (z := (0 : Int)) ⟨by decide, by decide⟩ i
            exact Uf (by omega) (by omega)
          refine ⟨⟨w1, ?_, ?_, w4, w5, w6, trivial⟩, ht, hc⟩
          · show Ty.Wf (.int .i64) (if _ then _ else _)
            split
            · exact w2
            · exact hg _
          · show Ty.Wf (.int .i64) (if _ then _ else _)
            split
            · exact hg _
            · exact w3
theorem Y8 {d : List Ae.V} {l : List Af.V} {ps : List Aa.V} (hl : ∀ x ∈ l, LitB x) (hps : ps.length ≤ 1048576) (ht : ∀ s ∈ ps, TermB s.2.2.2.2.2.1.1) :
    ∃ t, JU d l ps = some t ∧ I3 d l ps = some t ∧ (t.2 = [] ∨ ∃ a, ps.length ≤ 200 ∧ t.2 = (Tr ps a ps.length).2) := by
  obtain ⟨r, r1, r2, _, _⟩ := Qm (d := d) hl hps ht
  unfold JU I3 mkr
  rw [r1, r2, Option.bind_some, Option.bind_some]
  cases hc : (r.1 != 0 || (ps.length : Int) == 0) with
  | true => exact ⟨_, rfl, rfl, .inl rfl⟩
  | false =>
    obtain ⟨h0, hne⟩ := Bool.or_eq_false_iff.1 hc
    have h0 : r.1 = 0 := by simpa using h0
    have hne : ps.length ≠ 0 := by
      intro e; rw [e] at hne; cases hne
    obtain ⟨hn, hg⟩ := NV r2 h0
    have ht' : ∀ k, k < ps.length → TermB (ps.getD k (Ty.zero Aa)).2.2.2.2.2.1.1 := fun k hk => ht _ (Ay hk)
    rw [cond_false, cond_false, Int.toNat_natCast, wrapI (by omega) (by omega)]
    have hA : Ty.row .bool = true ∧ (0 : Int) ≤ (ps.length : Int) ∧ (ps.length : Int) ≤ (ps.length : Int) ∧ ((1 : Nat) : Int) * (ps.length : Int) ≤ (281474976710656 : Int) ∧ (ps.length : Int) ≤ (9223372036854775807 : Int) := ⟨rfl, by omega, by omega, by omega, by omega⟩
    have hB : (0 : Int) ≤ (ps.length : Int) - 1 ∧ (ps.length : Int) - 1 < ((List.replicate ps.length false).length : Int) := by rw [List.length_replicate]; omega
    have hC : Ty.row (.int .i64) = true ∧ (0 : Int) ≤ (ps.length : Int) ∧ (ps.length : Int) ≤ (ps.length : Int) ∧ ((8 : Nat) : Int) * (ps.length : Int) ≤ (281474976710656 : Int) ∧ (ps.length : Int) ≤ (9223372036854775807 : Int) := ⟨rfl, by omega, by omega, by omega, by omega⟩
    simp only [if_pos hA, if_pos hB, if_pos hC]
    generalize hi : (List.replicate ps.length false).set ((ps.length : Int) - 1).toNat true = n0
    have hn0 : n0.length = ps.length := by rw [← hi]; simp
    have s1 : Jt ps ((ps.length : Int) - 1) n0 = some (Nd ps ps.length n0) := by
      unfold Jt
      refine NW (fun k n hk hn => ?_) (fun n => rfl) hn _ _ (Nat.le_refl _) hn0
      unfold Ib JH
      try simp only
      rw [decide_eq_true (show (k : Int) ≥ 0 by omega), cond_true, QJ hk hn (hg k hk)]
      rfl
    have s2 : Jq ps ((ps.length : Int) - 1) n0 = some (Nd ps ps.length n0) := by
      unfold Jq
      refine NW (fun k n hk hn => ?_) (fun n => rfl) hn _ _ (Nat.le_refl _) hn0
      unfold Ia JN
      try simp only
      rw [decide_eq_true (show (k : Int) ≥ 0 by omega), cond_true, QE hk hn (hg k hk)]
      rfl
    rw [s1, s2, Option.bind_some, Option.bind_some]
    generalize ha : Nd ps ps.length n0 = a
    have hal : a.length = ps.length := by rw [← ha, Xi, hn0]
    have s3 : IK ps a 0 [] (List.replicate ps.length 0) = some (Tr ps a ps.length).2 := by
      unfold IK
      refine BJ (fun k => ((k : Int), (Tr ps a k).2, (Tr ps a k).1)) ps.length (fun k hk => ?_) ?_
      · obtain ⟨l1, l2⟩ := Pc (b := ps) (a := a) k
        unfold EV G1
        simp only [dlt hk, cond_true]
        rw [Qb hk hn hal l1 l2 (hg k hk) (ht' k hk), Option.bind_some, stepN hk (by omega)]
        rfl
      · unfold EV G1
        simp only [dge, cond_false]
    have s4 : Js a ps (ps.length : Int) 0 (List.replicate ps.length 0) [] = some (Tr ps a ps.length).2 := by
      unfold Js
      refine BJ (fun k => ((k : Int), (Tr ps a k).1, (Tr ps a k).2)) ps.length (fun k hk => ?_) ?_
      · obtain ⟨l1, l2⟩ := Pc (b := ps) (a := a) k
        unfold F3 HY
        simp only [dlt hk, cond_true]
        rw [Qh hk hn hal l1 l2 (hg k hk) (ht' k hk), Option.bind_some, stepN hk (by omega)]
        rfl
      · unfold F3 HY
        simp only [dge, cond_false]
    rw [s3, s4]
    exact ⟨_, rfl, rfl, .inr ⟨a, hn, rfl⟩⟩
theorem law_ok (n : List Ae.V) (o : List Af.V) (q : List Aa.V) (hn : Ty.Wf (.sl Ae) n) (ho : Ty.Wf (.sl Af) o) (hq : Ty.Wf (.sl Aa) q) : Gn n o q = some true := by
  unfold Gn DV DR DW
  rw [RU hn 1048576 (by omega) (by omega), Option.bind_some]
  generalize h1 : wt (.sl Ae) n = w1 at *
  by_cases c1 : (w1 : Int) ≤ 1048576
  case neg => rw [if_neg c1]; rfl
  rw [if_pos c1, decide_eq_false (by omega), cond_false, NM ho _ (by omega) (by omega), Option.bind_some]
  generalize h2 : wt (.sl Af) o = w2 at *
  by_cases c2 : (w2 : Int) ≤ 1048576 - (w1 : Int)
  case neg => rw [if_neg c2]; rfl
  rw [if_pos c2, decide_eq_false (by omega), cond_false, PN hq _ (by omega) (by omega), Option.bind_some]
  generalize h3 : wt (.sl Aa) q = w3 at *
  by_cases c3 : (w3 : Int) ≤ 1048576 - (w1 : Int) - (w2 : Int)
  case neg => rw [if_neg c3]; rfl
  rw [if_pos c3, decide_eq_false (by omega), cond_false]
  have ln : n.length ≤ 1048576 := by have := OR (t := Ae) n; omega
  have lo : o.length ≤ 1048576 := by have := OR (t := Af) o; omega
  have lq : q.length ≤ 1048576 := by have := OR (t := Aa) q; omega
  have bo : ∀ x ∈ o, LitB x := fun x hx => Afo (ho.2 x hx) (by have := RO (t := Af) hx; omega)
  have bq : ∀ x ∈ q, TermB x.2.2.2.2.2.1.1 := fun x hx => XA (hq.2 x hx) (by have := RO (t := Aa) hx; omega)
  have tn := RT ln
  have to' := N9 lo bo
  have tq := Qw lq bq
  obtain ⟨r, r1, r2, hcl⟩ := Y8 (d := n) bo lq bq
  have hout : r.2.length ≤ 200 ∧ ∀ s ∈ r.2, OutP s := by
    rcases hcl with h | ⟨a, hl, h⟩
    · rw [h]; exact ⟨by show 0 ≤ _; omega, fun s hs => by cases hs⟩
    · rw [h]
      have hp : ∀ s ∈ q, OutP s := fun s hs => ⟨hq.2 s hs, bq s hs, by
        have e1 := Lz s.2.2.2.2.2.1.1
        have e2 := SP s
        have e3 := RO (t := Aa) hs
        unfold costP
        omega⟩
      exact ⟨Nat.le_trans (Pc q.length).2 hl, (W7 hl hp q.length (Nat.le_refl _)).2⟩
  obtain ⟨hlen, hps⟩ := hout
  have hwf : Ty.Wf (.sl Aa) r.2 := ⟨Nat.le_trans hlen (by decide), fun x hx => (hps x hx).1⟩
  have htb : ∀ s ∈ r.2, TermB s.2.2.2.2.2.1.1 := fun s hs => (hps s hs).2.1
  have hcost : (r.2.map costP).sum ≤ r.2.length * 5242885 := by
    have : ∀ l : List Aa.V, (∀ s ∈ l, OutP s) → (l.map costP).sum ≤ l.length * 5242885 := fun l hl => by
      induction l with
      | nil => simp
      | cons x l ih =>
        have h1 := (hl x List.mem_cons_self).2.2
        have h2 := ih fun s hs => hl s (List.mem_cons_of_mem _ hs)
        simp only [List.map_cons, List.sum_cons, List.length_cons]; omega
    exact this _ hps
  have heq := N6 (Mr hwf)
  simp only [tn, to', tq, r1, r2, Option.bind_some, heq, Bool.not_true, cond_false, beq_self_eq_true, N6 (RR hn), N6 (Oa ho), N6 (Mr hq)]
  have cl := Tq o
  have cp := R7 q
  have cd : 2 * n.length ≤ 5 * w1 := by have := OR (t := Ae) n; omega
  obtain ⟨m1, e1, q1, q1', _⟩ := PJ ln (k := 1) (by omega) (by omega)
  rw [e1, Option.bind_some]
  obtain ⟨m2, e2, q2, q2', _⟩ := M0 lo bo (k := m1.1) (by omega) (by omega)
  rw [e2, Option.bind_some]
  obtain ⟨m3, e3, q3, q3', _⟩ := La lq bq (k := m2.1) (by omega) (by omega)
  rw [e3, Option.bind_some, decide_eq_false (by omega)]
  simp only [cond_false, Option.bind_some]
  obtain ⟨m4, e4, q4, q4', q5, q6⟩ := La (a := r.2) (by omega) htb (k := 1) (by omega) (by omega)
  have hh := Oc (a := m4.2) (by rw [q5]; omega) q6
  rw [e4, Option.bind_some, hh, Option.bind_some, decide_eq_false (by omega), cond_false, bne_self_eq_false, cond_false]
  simp only [heq, Option.bind_some, Bool.not_true, cond_false, hh, beq_self_eq_true]
  rw [decide_eq_false (by omega), cond_false, bne_self_eq_false, cond_false]
end Go.Proofs.X
