import Derived.Test.YtjbdmijibelnlaaGreatK17
set_option linter.unusedVariables false
set_option linter.unusedSimpArgs false
namespace Go.Va
theorem sz_seq {A B : Type} {F : A → Int → Option Int} {G : B → Int → Option Int} {x : A} {y : B} {m n : Nat} (hF : ∀ left : Int, 0 ≤ left → left ≤ 1048576 → F x left = some (if (m : Int) ≤ left then left - (m : Int) else -1)) (hG : ∀ left : Int, 0 ≤ left → left ≤ 1048576 → G y left = some (if (n : Int) ≤ left then left - (n : Int) else -1)) {left : Int} (h0 : 0 ≤ left) (h1 : left ≤ 1048576) :
    ((F x left).bind fun c => bif decide (c < 0) then some (-1) else (G y c).bind fun d => bif decide (d < 0) then some (-1) else some d) = some (if ((m + n : Nat) : Int) ≤ left then left - ((m + n : Nat) : Int) else -1) := by
  rw [hF left h0 h1, Option.bind_some]
  split
  · rw [decide_eq_false (by omega), cond_false, hG _ (by omega) (by omega), Option.bind_some]
    split
    · rw [decide_eq_false (by omega), cond_false, if_pos (by omega)]; congr 1; omega
    · rw [if_neg (by omega)]; rfl
  · rw [if_neg (by omega)]; rfl
theorem sz_one {A : Type} {F : A → Int → Option Int} {x : A} {m : Nat} (hF : ∀ left : Int, 0 ≤ left → left ≤ 1048576 → F x left = some (if (m : Int) ≤ left then left - (m : Int) else -1)) {left : Int} (h0 : 0 ≤ left) (h1 : left ≤ 1048576) :
    ((F x left).bind fun c => bif decide (c < 0) then some (-1) else some c) = some (if (m : Int) ≤ left then left - (m : Int) else -1) := by
  rw [hF left h0 h1, Option.bind_some]
  split
  · rw [decide_eq_false (by omega), cond_false]
  · rfl
theorem sz_size {m : Nat} {left : Int} (h0 : 0 ≤ left) (h1 : left ≤ 1048576) (hn : m ≤ maxLen) : (bif decide ((IntKind.i64.wrap (left - (m : Int))) < 0) then (-1) else IntKind.i64.wrap (left - (m : Int))) = if (m : Int) ≤ left then left - (m : Int) else -1 := by
  unfold maxLen at hn
  rw [wrap64 (by omega) (by omega)]
  split
  · rw [show decide (left - (m : Int) < 0) = false by simp; omega]; rfl
  · rw [show decide (left - (m : Int) < 0) = true by simp; omega]; rfl
theorem toS_ok {A E : Type} {F : A → Option E} {mk : E → A} {z : A} {z0 : A} {r : Int × List A → Option ((Int × List A) ⊕ List A)} {a : List A}
    (hr : ∀ x, r x = bif decide (x.1 < (a.length : Int)) then (if (0 : Int) ≤ x.1 ∧ x.1 < (a.length : Int) then (F (a.getD x.1.toNat z)).bind fun e => (if (0 : Int) ≤ x.1 ∧ x.1 < (x.2.length : Int) then some (.inl (IntKind.i64.wrap (x.1 + 1), x.2.set x.1.toNat (mk e))) else none) else none) else some (.inr x.2))
    (hn : a.length ≤ 1048576) (hF : ∀ x ∈ a, ∃ e, F x = some e ∧ mk e = x) : fix r (0, List.replicate a.length z0) = some a := by
  have := fix_seq0 (f := r) (fun k => ((k : Int), Go.Proofs.X.fillN (fun i => a.getD i z) z0 a.length k)) (t := a) a.length (fun k hk => by
    rw [hr]
    simp only
    obtain ⟨e, he, hm⟩ := hF (a.getD k z) (by simp [List.getD, hk])
    rw [dlt hk, cond_true, if_pos (rng hk), Int.toNat_natCast, he, Option.bind_some, Go.Proofs.X.fillN_len, if_pos (rng hk), hm]
    rw [show IntKind.i64.wrap ((k : Int) + 1) = ((k + 1 : Nat) : Int) from Go.Proofs.X.stepN hk hn, Go.Proofs.X.fillN_set (fun i => a.getD i z) z0]) (by
    rw [hr]
    simp only
    rw [dge, cond_false, Go.Proofs.X.fillN_full])
  have h : fix r (((0 : Nat) : Int), Go.Proofs.X.fillN (fun i => a.getD i z) z0 a.length 0) = some a := this
  rw [Go.Proofs.X.fillN_zero] at h
  exact h
end Go.Va
namespace Go.Proofs.X
open Go Go.Va
set_option maxRecDepth 100000
theorem szDecl_ok {a : Timpl_Decl.V} (h : Ty.Wf Timpl_Decl a) : SzOk Timpl_Decl (fun x l => some (laws_szDecl x l)) a := fun left h0 h1 => by
  show some (laws_szDecl a left) = _
  unfold laws_szDecl
  rw [sz_size h0 h1 h.1]
  rfl
theorem szDeclS_ok {a : List Timpl_Decl.V} (h : Ty.Wf (.sl Timpl_Decl) a) : SzOk (.sl Timpl_Decl) laws_szDeclS a :=
  szS_ok (z := Ty.zero Timpl_Decl) (r := laws_szDeclS_l0_r) (fun _ _ => rfl) (fun _ _ => rfl) h.1 fun x hx => szDecl_ok (h.2 x hx)
theorem szBits_ok {a : Timpl_Bits.V} (h : Ty.Wf Timpl_Bits a) : SzOk Timpl_Bits (fun x l => some (laws_szBits x l)) a := fun left h0 h1 => by
  have hu := szUint64S_ok h.2.1.1 left h0 h1
  have e : wt Timpl_Bits a = wt (.sl (.int .u64)) a.2.1 := by show 0 + (_ + 0) = _; omega
  show some (laws_szBits a left) = _
  unfold laws_szBits
  rw [e]
  have hu' : laws_szUint64S a.2.1 left = _ := Option.some.inj hu
  rw [hu']
  congr 1
  split
  · rw [decide_eq_false (by omega), cond_false]
  · rfl
theorem szTNode_ok {a : Timpl_TNode.V} (h : Ty.Wf Timpl_TNode a) : SzOk Timpl_TNode (fun x l => some (laws_szTNode x l)) a := fun left h0 h1 => by
  have hb := szBits_ok h.2.2.2.2.1 left h0 h1
  have hb' : laws_szBits a.2.2.2.2.1 left = _ := Option.some.inj hb
  have hi : ∀ l : Int, 0 ≤ l → l ≤ 1048576 → laws_szInt64S a.2.2.2.2.2.1 l = _ := fun l h0 h1 => Option.some.inj (szInt64S_ok h.2.2.2.2.2.1.1 l h0 h1)
  have e : wt Timpl_TNode a = wt Timpl_Bits a.2.2.2.2.1 + wt (.sl (.int .i64)) a.2.2.2.2.2.1 := by show 0 + (0 + (0 + (0 + (_ + (_ + 0))))) = _; omega
  show some (laws_szTNode a left) = _
  unfold laws_szTNode
  rw [hb', e]
  congr 1
  generalize wt Timpl_Bits a.2.2.2.2.1 = m at *
  by_cases hm : (m : Int) ≤ left
  · rw [if_pos hm, decide_eq_false (by omega), cond_false, hi _ (by omega) (by omega)]
    generalize wt (.sl (.int .i64)) a.2.2.2.2.2.1 = n at *
    by_cases hn : (n : Int) ≤ left - (m : Int)
    · rw [if_pos hn, decide_eq_false (by omega), cond_false, if_pos (by omega)]; omega
    · rw [if_neg hn, if_neg (by omega)]; rfl
  · rw [if_neg hm, if_neg (by omega)]; rfl
theorem szTNodeS_ok {a : List Timpl_TNode.V} (h : Ty.Wf (.sl Timpl_TNode) a) : SzOk (.sl Timpl_TNode) laws_szTNodeS a :=
  szS_ok (z := Ty.zero Timpl_TNode) (r := laws_szTNodeS_l0_r) (fun _ _ => rfl) (fun _ _ => rfl) h.1 fun x hx => szTNode_ok (h.2 x hx)
theorem szTerm_ok {a : Timpl_Term.V} (h : Ty.Wf Timpl_Term a) : SzOk Timpl_Term laws_szTerm a := fun left h0 h1 =>
  sz_one (F := laws_szTNodeS) (x := a.1) (szTNodeS_ok h.1) h0 h1
theorem szLiteral_ok {a : Timpl_Literal.V} (h : Ty.Wf Timpl_Literal a) : SzOk Timpl_Literal laws_szLiteral a := fun left h0 h1 => by
  have e : wt Timpl_Literal a = wt Timpl_Term a.2.2.1 + wt Timpl_Term a.2.2.2.1 := by show 0 + (0 + (_ + (_ + 0))) = _; omega
  rw [e]
  exact sz_seq (F := laws_szTerm) (G := laws_szTerm) (szTerm_ok h.2.2.1) (szTerm_ok h.2.2.2.1) h0 h1
theorem szLiteralS_ok {a : List Timpl_Literal.V} (h : Ty.Wf (.sl Timpl_Literal) a) : SzOk (.sl Timpl_Literal) laws_szLiteralS a :=
  szS_ok (z := Ty.zero Timpl_Literal) (r := laws_szLiteralS_l0_r) (fun _ _ => rfl) (fun _ _ => rfl) h.1 fun x hx => szLiteral_ok (h.2 x hx)
theorem szPStep_ok {a : Timpl_PStep.V} (h : Ty.Wf Timpl_PStep a) : SzOk Timpl_PStep laws_szPStep a := fun left h0 h1 => by
  have e : wt Timpl_PStep a = wt Timpl_Term a.2.2.2.2.2.1 := by show 0 + (0 + (0 + (0 + (0 + (_ + 0))))) = _; omega
  rw [e]
  exact sz_one (F := laws_szTerm) (szTerm_ok h.2.2.2.2.2.1) h0 h1
theorem szPStepS_ok {a : List Timpl_PStep.V} (h : Ty.Wf (.sl Timpl_PStep) a) : SzOk (.sl Timpl_PStep) laws_szPStepS a :=
  szS_ok (z := Ty.zero Timpl_PStep) (r := laws_szPStepS_l0_r) (fun _ _ => rfl) (fun _ _ => rfl) h.1 fun x hx => szPStep_ok (h.2 x hx)
theorem wt_len {t : Ty} (a : List t.V) : a.length ≤ wt (.sl t) a := Nat.le_add_right _ _
theorem wt_mem {t : Ty} {a : List t.V} {x : t.V} (h : x ∈ a) : wt t x ≤ wt (.sl t) a := by
  show _ ≤ a.length + (a.map (wt t)).sum
  have : ∀ l : List t.V, x ∈ l → wt t x ≤ (l.map (wt t)).sum := fun l hl => by
    induction l with
    | nil => cases hl
    | cons y l ih =>
      simp only [List.map_cons, List.sum_cons]
      rcases List.mem_cons.1 hl with rfl | hl
      · omega
      · have := ih hl; omega
  have := this a h; omega
theorem node_b {n : Timpl_TNode.V} (hw : Ty.Wf Timpl_TNode n) (h : wt Timpl_TNode n ≤ 1048576) : NodeB n := by
  have e : wt Timpl_TNode n = wt (.sl (.int .u64)) (nWs n) + wt (.sl (.int .i64)) (nKids n) := by show 0 + (0 + (0 + (0 + ((0 + (_ + 0)) + (_ + 0))))) = _; unfold nWs nKids; omega
  rw [e, wt_u64, wt_i64] at h
  exact ⟨by omega, by omega, words_of hw.2.2.2.2.1.2.1.2⟩
theorem term_b {t : Timpl_Term.V} (hw : Ty.Wf Timpl_Term t) (h : wt Timpl_Term t ≤ 1048576) : TermB t.1 := by
  have e : wt Timpl_Term t = wt (.sl Timpl_TNode) t.1 := rfl
  rw [e] at h
  exact ⟨Nat.le_trans (wt_len t.1) h, fun n hn => node_b (hw.1.2 n hn) (Nat.le_trans (wt_mem hn) h)⟩
theorem lit_b {x : Timpl_Literal.V} (hw : Ty.Wf Timpl_Literal x) (h : wt Timpl_Literal x ≤ 1048576) : LitB x := by
  have e : wt Timpl_Literal x = wt Timpl_Term x.2.2.1 + wt Timpl_Term x.2.2.2.1 := by show 0 + (0 + (_ + (_ + 0))) = _; omega
  rw [e] at h
  exact ⟨term_b hw.2.2.1 (by omega), term_b hw.2.2.2.1 (by omega)⟩
theorem pstep_b {x : Timpl_PStep.V} (hw : Ty.Wf Timpl_PStep x) (h : wt Timpl_PStep x ≤ 1048576) : TermB x.2.2.2.2.2.1.1 := by
  have e : wt Timpl_PStep x = wt Timpl_Term x.2.2.2.2.2.1 := by show 0 + (0 + (0 + (0 + (0 + (_ + 0))))) = _; omega
  rw [e] at h
  exact term_b hw.2.2.2.2.2.1 h
theorem toDeclS_ok {a : List Timpl_Decl.V} (h : a.length ≤ 1048576) : laws_toDeclS a = some a := by
  unfold laws_toDeclS laws_toDeclS_l0
  rw [if_pos ⟨rfl, by omega, by omega, by omega, by omega⟩, Int.toNat_natCast, toS_ok (r := laws_toDeclS_l0_r a) (F := fun x => some (laws_toDecl x)) (mk := fun e => (e.1, e.2, ())) (z := Ty.zero Timpl_Decl) (fun _ => rfl) h (fun x _ => ⟨_, rfl, rfl⟩)]
  rfl
theorem toUint64S_ok {a : List Int} (h : a.length ≤ 1048576) : laws_toUint64S a = some a := by
  unfold laws_toUint64S laws_toUint64S_l0
  rw [if_pos ⟨rfl, by omega, by omega, by omega, by omega⟩, Int.toNat_natCast, toS_ok (r := laws_toUint64S_l0_r a) (F := fun x => some x) (mk := fun e => e) (z := Ty.zero (.int .u64)) (fun _ => rfl) h (fun x _ => ⟨_, rfl, rfl⟩)]
  rfl
theorem toInt64S_ok {a : List Int} (h : a.length ≤ 1048576) : laws_toInt64S a = some a := by
  unfold laws_toInt64S laws_toInt64S_l0
  rw [if_pos ⟨rfl, by omega, by omega, by omega, by omega⟩, Int.toNat_natCast, toS_ok (r := laws_toInt64S_l0_r a) (F := fun x => some x) (mk := fun e => e) (z := Ty.zero (.int .i64)) (fun _ => rfl) h (fun x _ => ⟨_, rfl, rfl⟩)]
  rfl
theorem toTNodeS_ok {a : List Timpl_TNode.V} (h : TermB a) : laws_toTNodeS a = some a := by
  unfold laws_toTNodeS laws_toTNodeS_l0
  have hl := h.1
  rw [if_pos ⟨rfl, by omega, by omega, by omega, by omega⟩, Int.toNat_natCast, toS_ok (r := laws_toTNodeS_l0_r a) (F := laws_toTNode) (mk := fun e => (e.1, e.2.1, e.2.2.1, e.2.2.2.1, (e.2.2.2.2.1, e.2.2.2.2.2.1, ()), e.2.2.2.2.2.2, ())) (z := Ty.zero Timpl_TNode) (fun _ => rfl) hl (fun x hx => by
    have hn := h.2 x hx
    unfold laws_toTNode laws_toBits
    rw [show laws_toUint64S x.2.2.2.2.1.2.1 = some x.2.2.2.2.1.2.1 from toUint64S_ok hn.2.1, Option.bind_some, Option.bind_some, show laws_toInt64S x.2.2.2.2.2.1 = some x.2.2.2.2.2.1 from toInt64S_ok hn.1]
    exact ⟨_, rfl, rfl⟩)]
  rfl
theorem toTerm_ok {t : Timpl_Term.V} (h : TermB t.1) : laws_toTerm t = some t.1 := by
  unfold laws_toTerm
  rw [toTNodeS_ok h]; rfl
theorem toLiteralS_ok {a : List Timpl_Literal.V} (hl : a.length ≤ 1048576) (h : ∀ x ∈ a, LitB x) : laws_toLiteralS a = some a := by
  unfold laws_toLiteralS laws_toLiteralS_l0
  rw [if_pos ⟨rfl, by omega, by omega, by omega, by omega⟩, Int.toNat_natCast, toS_ok (r := laws_toLiteralS_l0_r a) (F := laws_toLiteral) (mk := fun e => (e.1, e.2.1, (e.2.2.1, ()), (e.2.2.2, ()), ())) (z := Ty.zero Timpl_Literal) (fun _ => rfl) hl (fun x hx => by
    unfold laws_toLiteral
    rw [toTerm_ok (h x hx).1, Option.bind_some, toTerm_ok (h x hx).2]
    exact ⟨_, rfl, rfl⟩)]
  rfl
theorem toPStepS_ok {a : List Timpl_PStep.V} (hl : a.length ≤ 1048576) (h : ∀ x ∈ a, TermB x.2.2.2.2.2.1.1) : laws_toPStepS a = some a := by
  unfold laws_toPStepS laws_toPStepS_l0
  rw [if_pos ⟨rfl, by omega, by omega, by omega, by omega⟩, Int.toNat_natCast, toS_ok (r := laws_toPStepS_l0_r a) (F := laws_toPStep) (mk := fun e => (e.1, e.2.1, e.2.2.1, e.2.2.2.1, e.2.2.2.2.1, (e.2.2.2.2.2, ()), ())) (z := Ty.zero Timpl_PStep) (fun _ => rfl) hl (fun x hx => by
    unfold laws_toPStep
    rw [toTerm_ok (h x hx)]
    exact ⟨_, rfl, rfl⟩)]
  rfl
end Go.Proofs.X
namespace Go.Va
def Ch {A : Type} (H : Int → A → Int → Prop) : List A → Int → Int → Prop
  | [], k, k' => k = k'
  | x :: xs, k, k' => ∃ m, H k x m ∧ Ch H xs m k'
section
variable {A : Type} {H : Int → A → Int → Prop}
theorem ch_snoc {x : A} : ∀ {l : List A} {k k' m : Int}, Ch H l k m → H m x k' → Ch H (l ++ [x]) k k'
  | [], _, _, _, h1, h2 => by cases h1; exact ⟨_, h2, rfl⟩
  | _ :: _, _, _, _, ⟨n, h0, h1⟩, h2 => ⟨n, h0, ch_snoc h1 h2⟩
theorem ch_mono (hH : ∀ b x b', H b x b' → b ≤ b') : ∀ {l : List A} {k k' : Int}, Ch H l k k' → k ≤ k'
  | [], _, _, h => by cases h; omega
  | _ :: _, _, _, ⟨_, h0, h1⟩ => by have := hH _ _ _ h0; have := ch_mono hH h1; omega
theorem gsS {d : List A} {i : Nat} {x z : A} (h : i < d.length) : (d.set i x).getD i z = x := by simp [List.getD, h]
theorem sum_take_succ {cost : A → Nat} {a : List A} {z : A} {i : Nat} (h : i < a.length) : ((a.take (i + 1)).map cost).sum = ((a.take i).map cost).sum + cost (a.getD i z) := by
  rw [List.take_succ_eq_append_getElem h, List.map_append, List.sum_append]
  simp [List.getD, h]
theorem sum_take_le {cost : A → Nat} {a : List A} {i : Nat} : ((a.take i).map cost).sum ≤ (a.map cost).sum := by
  conv => rhs; rw [← List.take_append_drop i a, List.map_append, List.sum_append]
  omega
theorem sum_const {c : Nat} (l : List A) : (l.map fun _ => c).sum = c * l.length := by
  induction l with
  | nil => rfl
  | cons x l ih => rw [List.map_cons, List.sum_cons, ih, List.length_cons, Nat.mul_succ]; omega
theorem mark_loop {f : Int × Int × List A → Option ((Int × Int × List A) ⊕ (Int × List A))} {cost : A → Nat} {z : A} {a : List A} {k : Int} (M : Int)
    (hs : ∀ b i (d : List A), i < a.length → d.length = a.length → d.getD i z = a.getD i z → 0 ≤ b → b + (cost (a.getD i z) : Int) ≤ M →
      Ret (f (b, (i : Int), d)) fun r => ∃ b' x', r = .inl (b', ((i + 1 : Nat) : Int), d.set i x') ∧ b ≤ b' ∧ b' ≤ b + (cost (a.getD i z) : Int) ∧ H b x' b')
    (he : ∀ b (d : List A), d.length = a.length → f (b, (a.length : Int), d) = some (.inr (b, d))) (h0 : 0 ≤ k) (hM : k + (((a.map cost).sum : Nat) : Int) ≤ M) :
    Ret (fix f (k, 0, a)) fun r => k ≤ r.1 ∧ r.1 ≤ k + (((a.map cost).sum : Nat) : Int) ∧ r.2.length = a.length ∧ Ch H r.2 k r.1 := by
  refine fix_rule (fun m (x : Int × Int × List A) => ∃ i : Nat, i ≤ a.length ∧ m = a.length - i ∧ x.2.1 = (i : Int) ∧ x.2.2.length = a.length ∧ Ch H (x.2.2.take i) k x.1 ∧ (∀ j, i ≤ j → x.2.2.getD j z = a.getD j z) ∧ k ≤ x.1 ∧ x.1 ≤ k + ((((a.take i).map cost).sum : Nat) : Int)) (fun m x hI => ?_) a.length _ ⟨0, Nat.zero_le _, rfl, rfl, rfl, by simp [Ch], fun _ _ => rfl, by simp, by simp⟩
  obtain ⟨b, c, d⟩ := x
  obtain ⟨i, hi, rfl, h1, h2, h3, h4, h5, h6⟩ := hI
  simp only at h1 h2 h3 h4 h5 h6
  subst h1
  rcases Nat.lt_or_ge i a.length with h | h
  · have hsum := sum_take_succ (cost := cost) (z := z) h
    have hle := sum_take_le (cost := cost) (a := a) (i := i + 1)
    refine (hs b i d h h2 (h4 i (Nat.le_refl _)) (by omega) (by omega)).mono fun r hr => ?_
    obtain ⟨b', x', rfl, hb1, hb2, hH⟩ := hr
    refine ⟨a.length - (i + 1), by omega, i + 1, h, rfl, rfl, by rw [List.length_set]; exact h2, ?_, fun j hj => ?_, by show k ≤ b'; omega, by show b' ≤ _; omega⟩
    · show Ch H ((d.set i x').take (i + 1)) k b'
      rw [List.take_succ_eq_append_getElem (by rw [List.length_set]; omega), List.take_set_of_le (Nat.le_refl _)]
      simp only [List.getElem_set_self]
      exact ch_snoc h3 hH
    · show (d.set i x').getD j z = _
      rw [← h4 j (by omega)]
      simp only [List.getD, List.getElem?_set, show ¬ i = j by omega, if_false]
  · have : i = a.length := by omega
    subst this
    rw [he b d h2]
    rw [List.take_of_length_le (by omega)] at h3
    rw [List.take_of_length_le (Nat.le_refl _)] at h6
    exact Ret.mk ⟨h5, h6, h2, h3⟩
theorem held_loop {f : Int × Int → Option ((Int × Int) ⊕ (Int ⊕ Int))} {z : A} {a : List A} (hs : ∀ i b b', i < a.length → H b (a.getD i z) b' → f (b, (i : Int)) = some (.inl (b', ((i + 1 : Nat) : Int)))) (he : ∀ b, f (b, (a.length : Int)) = some (.inr (.inr b))) {k k' : Int} (h : Ch H a k k') : fix f (k, 0) = some (.inr k') := by
  have : ∀ (l : List A) (i : Nat) (b : Int), a.drop i = l → i + l.length = a.length → Ch H l b k' → fix f (b, (i : Int)) = some (.inr k') := fun l => by
    induction l with
    | nil =>
      intro i b h1 h2 h3
      have h3 : b = k' := h3
      subst h3
      have : i = a.length := by simpa using h2
      rw [this]
      exact fix_done (he b)
    | cons x l ih =>
      intro i b h1 h2 h3
      obtain ⟨m, h3, h4⟩ := h3
      simp only [List.length_cons] at h2
      have hi : i < a.length := by omega
      rw [List.drop_eq_getElem_cons hi] at h1
      injection h1 with h1 h5
      have hx : a.getD i z = x := by rw [← h1]; simp [List.getD, hi]
      rw [fix_more (hs i b m hi (by rw [hx]; exact h3))]
      exact ih (i + 1) m h5 (by omega) h4
  exact this a 0 k rfl (by simp) h
end
end Go.Va
namespace Go.Proofs.X
open Go Go.Va
set_option maxRecDepth 100000
theorem w1 {b : Int} (h0 : 0 ≤ b) (h1 : b ≤ 2305843009213693952) : IntKind.i64.wrap (b + 1) = b + 1 := wrap64 (by omega) (by omega)
def Hu (b x b' : Int) : Prop := x = IntKind.u64.wrap b ∧ b' = b + 1 ∧ 0 ≤ b ∧ b' ≤ 2305843009213693952
def Hs (b : Int) (s : Timpl_Seg.V) (b' : Int) : Prop := 0 ≤ b ∧ b + 4 ≤ 2305843009213693952 ∧ s.1 = b ∧ s.2.1 = b + 1 ∧ s.2.2.1 = b + 2 ∧ s.2.2.2.1.1 = b + 3 ∧ s.2.2.2.1.2.1.length ≤ 1048576 ∧ Ch Hu s.2.2.2.1.2.1 (b + 4) b'
def Hc (b : Int) (c : Timpl_Claim.V) (b' : Int) : Prop := 0 ≤ b ∧ c.1.length ≤ 1048576 ∧ c.2.1.length ≤ 1048576 ∧ ∃ m, Ch Hs c.1 b m ∧ Ch Hs c.2.1 m b'
theorem hu_mono {b x b' : Int} (h : Hu b x b') : b ≤ b' := by have := h.2.1; omega
theorem hs_mono {b : Int} {s : Timpl_Seg.V} {b' : Int} (h : Hs b s b') : b ≤ b' := by have := ch_mono (fun _ _ _ => hu_mono) h.2.2.2.2.2.2.2; omega
theorem hc_mono {b : Int} {s : Timpl_Claim.V} {b' : Int} (h : Hc b s b') : b ≤ b' := by
  obtain ⟨_, _, _, m, h1, h2⟩ := h
  have := ch_mono (fun _ _ _ => hs_mono) h1
  have := ch_mono (fun _ _ _ => hs_mono) h2
  omega
def MarkR {A : Type} (H : Int → A → Int → Prop) (a : List A) (n : Nat) (k : Int) (r : Int × List A) : Prop := k ≤ r.1 ∧ r.1 ≤ k + (n : Int) ∧ r.2.length = a.length ∧ Ch H r.2 k r.1
theorem markUint64S_ok {a : List Int} (hn : a.length ≤ 1048576) {k : Int} (h0 : 0 ≤ k) (hk : k + (a.length : Int) ≤ 2305843009213693952) : Ret (laws_markUint64S k a) (MarkR Hu a a.length k) := by
  unfold laws_markUint64S laws_markUint64S_l0
  have hc : (a.map fun _ => 1).sum = a.length := by rw [sum_const]; omega
  have := mark_loop (f := laws_markUint64S_l0_r) (cost := fun _ => 1) (z := (0 : Int)) (a := a) (H := Hu) (k := k) 2305843009213693952 (fun b i d hi hd hg hb0 hb => by
    unfold laws_markUint64S_l0_r laws_markUint64S_l0_g
    try simp only
    try simp only at hb
    rw [hd, dlt hi, cond_true, if_pos (rng hi), Int.toNat_natCast, w1 hb0 (by omega), stepN hi hn]
    exact Ret.mk ⟨b + 1, _, rfl, by omega, by omega, rfl, rfl, hb0, by omega⟩) (fun b d hd => by
    unfold laws_markUint64S_l0_r laws_markUint64S_l0_g
    try simp only
    rw [hd, dge, cond_false]) h0 (by rw [hc]; exact hk)
  rw [hc] at this
  exact this.bind fun r hr => Ret.mk hr
theorem heldUint64S_ok {a : List Int} (hn : a.length ≤ 1048576) {k k' : Int} (h : Ch Hu a k k') : laws_heldUint64S a k = some k' := by
  unfold laws_heldUint64S laws_heldUint64S_l0
  rw [held_loop (f := laws_heldUint64S_l0_r a) (z := (0 : Int)) (H := Hu) (fun i b b' hi hH => by
    unfold laws_heldUint64S_l0_r laws_heldUint64S_l0_g
    try simp only
    obtain ⟨h1, h2, h3, h4⟩ := hH
    rw [dlt hi, cond_true, if_pos (rng hi), Int.toNat_natCast, show (Ty.zero (.int .u64) : Int) = 0 from rfl, h1, bne_self_eq_false, cond_false, w1 h3 (by omega), stepN hi hn, h2]) (fun b => by
    unfold laws_heldUint64S_l0_r laws_heldUint64S_l0_g
    try simp only
    rw [dge, cond_false]) h]
  rfl
theorem markInt64S_ok {a : List Int} (hn : a.length ≤ 1048576) {k : Int} (h0 : 0 ≤ k) (hk : k + (a.length : Int) ≤ 2305843009213693952) : Ret (laws_markInt64S k a) (MarkR (fun _ _ _ => True) a a.length k) := by
  unfold laws_markInt64S laws_markInt64S_l0
  have hc : (a.map fun _ => 1).sum = a.length := by rw [sum_const]; omega
  have := mark_loop (f := laws_markInt64S_l0_r) (cost := fun _ => 1) (z := (0 : Int)) (a := a) (H := fun _ _ _ => True) (k := k) 2305843009213693952 (fun b i d hi hd hg hb0 hb => by
    unfold laws_markInt64S_l0_r laws_markInt64S_l0_g
    try simp only
    try simp only at hb
    rw [hd, dlt hi, cond_true, if_pos (rng hi), Int.toNat_natCast, w1 hb0 (by omega), stepN hi hn]
    exact Ret.mk ⟨b + 1, _, rfl, by omega, by omega, trivial⟩) (fun b d hd => by
    unfold laws_markInt64S_l0_r laws_markInt64S_l0_g
    try simp only
    rw [hd, dge, cond_false]) h0 (by rw [hc]; exact hk)
  rw [hc] at this
  exact this.bind fun r hr => Ret.mk hr
theorem markText_ok (k : Int) (h1 : k ≤ 2305843009213693952) : Ret (laws_markText k) fun _ => True := by
  unfold laws_markText
  refine Ret.cond (fun _ => Ret.mk trivial) fun h => ?_
  have hk : 0 < k := by simpa using h
  refine Ret.bind (P := fun s => s.size ≤ 100) ?_ fun s hs => ?_
  · unfold laws_markText_l0
    refine fix_rule (fun m (x : Int × ByteArray) => ∃ j n : Nat, j ≤ 70 ∧ m = 70 - j ∧ x.1 = (n : Int) ∧ n * 2 ^ j ≤ 2 ^ 62 ∧ x.2.size = j) (fun m x hI => ?_) 70 _ ⟨0, k.toNat, by omega, rfl, by show k = _; omega, by rw [Nat.pow_zero]; omega, rfl⟩
    obtain ⟨b, c⟩ := x
    obtain ⟨j, n, hj, rfl, hb0, hb1, hc⟩ := hI
    simp only at hb0 hb1 hc
    subst hb0
    unfold laws_markText_l0_r laws_markText_l0_g
    simp only
    refine Ret.cond (fun hb => ?_) fun _ => Ret.mk (by show c.size ≤ 100; omega)
    have hb : (n : Int) > 0 := of_decide_eq_true hb
    have hp : 1 ≤ 2 ^ j := Nat.one_le_two_pow
    have hbig : n * 1 ≤ n * 2 ^ j := Nat.mul_le_mul_left _ hp
    have hj2 : j ≤ 62 := by
      rcases Nat.lt_or_ge 62 j with h | h
      · exfalso
        have h2 : 2 ^ 63 ≤ 2 ^ j := Nat.pow_le_pow_right (by omega) (by omega)
        have h3 : 1 * 2 ^ j ≤ n * 2 ^ j := Nat.mul_le_mul_right _ (by omega)
        omega
      · exact h
    rw [if_pos (by show (1 : Nat) + c.size ≤ _; omega)]
    have hd : Int.tdiv (n : Int) 10 = ((n / 10 : Nat) : Int) := rfl
    rw [hd, wrap64 (by omega) (by omega)]
    refine Ret.mk ⟨70 - (j + 1), by omega, j + 1, n / 10, by omega, rfl, rfl, ?_, ?_⟩
    · have h4 : n / 10 * 2 ≤ n := by omega
      have h5 := Nat.mul_le_mul_right (2 ^ j) h4
      rw [Nat.pow_succ, Nat.mul_comm (2 ^ j) 2, ← Nat.mul_assoc]
      omega
    · show (bytesOf [_] ++ c).size = j + 1
      rw [ByteArray.size_append, hc]
      show 1 + j = _; omega
  · rw [if_pos (by show (1 : Nat) + s.size ≤ _; omega)]
    exact Ret.mk trivial
theorem markDeclS_ok {a : List Timpl_Decl.V} (hn : a.length ≤ 1048576) {k : Int} (h0 : 0 ≤ k) (hk : k + ((2 * a.length : Nat) : Int) ≤ 2305843009213693952) : Ret (laws_markDeclS k a) (MarkR (fun _ _ _ => True) a (2 * a.length) k) := by
  unfold laws_markDeclS laws_markDeclS_l0
  have hc : (a.map fun _ => 2).sum = 2 * a.length := sum_const a
  have := mark_loop (f := laws_markDeclS_l0_r) (cost := fun _ => 2) (z := Ty.zero Timpl_Decl) (a := a) (H := fun _ _ _ => True) (k := k) 2305843009213693952 (fun b i d hi hd hg hb0 hb => by
    unfold laws_markDeclS_l0_r laws_markDeclS_l0_g
    try simp only
    try simp only at hb
    rw [hd, dlt hi, cond_true]
    refine (markText_ok b (by omega)).bind fun s _ => ?_
    have hid : i < d.length := by omega
    simp only [List.length_set, hd, Int.toNat_natCast, gsS hid, List.set_set]
    rw [if_pos (rng hi), if_pos (rng hi), w1 hb0 (by omega), w1 (by omega) (by omega), stepN hi hn]
    exact Ret.mk ⟨b + 1 + 1, _, rfl, by omega, by omega, trivial⟩) (fun b d hd => by
    unfold laws_markDeclS_l0_r laws_markDeclS_l0_g
    try simp only
    rw [hd, dge, cond_false]) h0 (by rw [hc]; exact hk)
  rw [hc] at this
  exact this.bind fun r hr => Ret.mk hr
def costN (n : Timpl_TNode.V) : Nat := 5 + (nWs n).length + (nKids n).length
theorem markTNodeS_ok {a : List Timpl_TNode.V} (hn : TermB a) {k : Int} (h0 : 0 ≤ k) (hk : k + (((a.map costN).sum : Nat) : Int) ≤ 2305843009213693952) : Ret (laws_markTNodeS k a) (MarkR (fun _ _ _ => True) a (a.map costN).sum k) := by
  unfold laws_markTNodeS laws_markTNodeS_l3
  have hl := hn.1
  have := mark_loop (f := laws_markTNodeS_l3_r) (cost := costN) (z := Ty.zero Timpl_TNode) (a := a) (H := fun _ _ _ => True) (k := k) 2305843009213693952 (fun b i d hi hd hg hb0 hb => by
    unfold laws_markTNodeS_l3_r laws_markTNodeS_l3_g laws_markTNodeS_l2 laws_markTNodeS_l1 laws_markTNodeS_l0
    simp only
    have hid : i < d.length := by omega
    have hnb : NodeB (a.getD i (Ty.zero Timpl_TNode)) := hn.2 _ (getD_mem hi)
    unfold costN at hb
    rw [hd, dlt hi, cond_true]
    simp (disch := omega) only [w1, List.length_set, hd, Int.toNat_natCast, gsS hid, List.set_set, if_pos (rng hi), Option.bind_some, Option.bind_assoc]
    rw [hg]
    refine (markUint64S_ok (a := nWs (a.getD i (Ty.zero Timpl_TNode))) hnb.2.1 (by omega) (by omega)).bind fun r hr => ?_
    obtain ⟨r1, r2, _, _⟩ := hr
    refine (markInt64S_ok (a := nKids (a.getD i (Ty.zero Timpl_TNode))) hnb.1 (by omega) (by omega)).bind fun q hq => ?_
    obtain ⟨q1, q2, _, _⟩ := hq
    exact Ret.mk ⟨q.1, _, rfl, by omega, by unfold costN; omega, trivial⟩) (fun b d hd => by
    unfold laws_markTNodeS_l3_r laws_markTNodeS_l3_g
    try simp only
    rw [hd, dge, cond_false]) h0 hk
  exact this.bind fun r hr => Ret.mk hr
def costT (t : List Timpl_TNode.V) : Nat := (t.map costN).sum
def costL (x : Timpl_Literal.V) : Nat := 2 + costT x.2.2.1.1 + costT x.2.2.2.1.1
theorem markLiteralS_ok {a : List Timpl_Literal.V} (hl : a.length ≤ 1048576) (hn : ∀ x ∈ a, LitB x) {k : Int} (h0 : 0 ≤ k) (hk : k + (((a.map costL).sum : Nat) : Int) ≤ 2305843009213693952) : Ret (laws_markLiteralS k a) (MarkR (fun _ _ _ => True) a (a.map costL).sum k) := by
  unfold laws_markLiteralS laws_markLiteralS_l3
  have := mark_loop (f := laws_markLiteralS_l3_r) (cost := costL) (z := Ty.zero Timpl_Literal) (a := a) (H := fun _ _ _ => True) (k := k) 2305843009213693952 (fun b i d hi hd hg hb0 hb => by
    unfold laws_markLiteralS_l3_r laws_markLiteralS_l3_g laws_markLiteralS_l2 laws_markLiteralS_l1 laws_markLiteralS_l0
    simp only
    have hid : i < d.length := by omega
    have hnb : LitB (a.getD i (Ty.zero Timpl_Literal)) := hn _ (getD_mem hi)
    unfold costL costT at hb
    rw [hd, dlt hi, cond_true]
    simp (disch := omega) only [w1, List.length_set, hd, Int.toNat_natCast, gsS hid, List.set_set, if_pos (rng hi), Option.bind_some, Option.bind_assoc]
    rw [hg]
    refine (markTNodeS_ok (a := (a.getD i (Ty.zero Timpl_Literal)).2.2.1.1) hnb.1 (by omega) (by omega)).bind fun r hr => ?_
    obtain ⟨r1, r2, _, _⟩ := hr
    refine (markTNodeS_ok (a := (a.getD i (Ty.zero Timpl_Literal)).2.2.2.1.1) hnb.2 (by omega) (by omega)).bind fun q hq => ?_
    obtain ⟨q1, q2, _, _⟩ := hq
    exact Ret.mk ⟨q.1, _, rfl, by omega, by unfold costL costT; omega, trivial⟩) (fun b d hd => by
    unfold laws_markLiteralS_l3_r laws_markLiteralS_l3_g
    try simp only
    rw [hd, dge, cond_false]) h0 hk
  exact this.bind fun r hr => Ret.mk hr
def costP (x : Timpl_PStep.V) : Nat := 5 + costT x.2.2.2.2.2.1.1
theorem markPStepS_ok {a : List Timpl_PStep.V} (hl : a.length ≤ 1048576) (hn : ∀ x ∈ a, TermB x.2.2.2.2.2.1.1) {k : Int} (h0 : 0 ≤ k) (hk : k + (((a.map costP).sum : Nat) : Int) ≤ 2305843009213693952) : Ret (laws_markPStepS k a) (MarkR (fun _ _ _ => True) a (a.map costP).sum k) := by
  unfold laws_markPStepS laws_markPStepS_l4
  have := mark_loop (f := laws_markPStepS_l4_r) (cost := costP) (z := Ty.zero Timpl_PStep) (a := a) (H := fun _ _ _ => True) (k := k) 2305843009213693952 (fun b i d hi hd hg hb0 hb => by
    unfold laws_markPStepS_l4_r laws_markPStepS_l4_g laws_markPStepS_l3 laws_markPStepS_l2 laws_markPStepS_l1 laws_markPStepS_l0
    simp only
    have hid : i < d.length := by omega
    have hnb := hn _ (getD_mem (z := Ty.zero Timpl_PStep) hi)
    unfold costP costT at hb
    rw [hd, dlt hi, cond_true]
    simp (disch := omega) only [w1, List.length_set, hd, Int.toNat_natCast, gsS hid, List.set_set, if_pos (rng hi), Option.bind_some, Option.bind_assoc]
    rw [hg]
    refine (markTNodeS_ok (a := (a.getD i (Ty.zero Timpl_PStep)).2.2.2.2.2.1.1) hnb (by omega) (by omega)).bind fun r hr => ?_
    obtain ⟨r1, r2, _, _⟩ := hr
    exact Ret.mk ⟨r.1, _, rfl, by omega, by unfold costP costT; omega, trivial⟩) (fun b d hd => by
    unfold laws_markPStepS_l4_r laws_markPStepS_l4_g
    try simp only
    rw [hd, dge, cond_false]) h0 hk
  exact this.bind fun r hr => Ret.mk hr
def costS (s : Timpl_Seg.V) : Nat := 4 + s.2.2.2.1.2.1.length
theorem markSegS_ok {a : List Timpl_Seg.V} (hn : Small a) {k : Int} (h0 : 0 ≤ k) (hk : k + (((a.map costS).sum : Nat) : Int) ≤ 2305843009213693952) : Ret (laws_markSegS k a) (MarkR Hs a (a.map costS).sum k) := by
  unfold laws_markSegS laws_markSegS_l2
  have hl := hn.1
  have := mark_loop (f := laws_markSegS_l2_r) (cost := costS) (z := Ty.zero Timpl_Seg) (a := a) (H := Hs) (k := k) 2305843009213693952 (fun b i d hi hd hg hb0 hb => by
    unfold laws_markSegS_l2_r laws_markSegS_l2_g laws_markSegS_l1 laws_markSegS_l0
    simp only
    have hid : i < d.length := by omega
    have hnb := hn.2 _ (getD_mem (z := Ty.zero Timpl_Seg) hi)
    unfold costS at hb
    rw [hd, dlt hi, cond_true]
    simp (disch := omega) only [w1, List.length_set, hd, Int.toNat_natCast, gsS hid, List.set_set, if_pos (rng hi), Option.bind_some, Option.bind_assoc]
    rw [hg]
    refine (markUint64S_ok (a := (a.getD i (Ty.zero Timpl_Seg)).2.2.2.1.2.1) hnb (by omega) (by omega)).bind fun r hr => ?_
    obtain ⟨r1, r2, r3, r4⟩ := hr
    refine Ret.mk ⟨r.1, _, rfl, by omega, by unfold costS; omega, hb0, by omega, rfl, rfl, ?_, ?_, ?_, ?_⟩
    · show b + 1 + 1 = b + 2; omega
    · show b + 1 + 1 + 1 = b + 3; omega
    · show r.2.length ≤ _; omega
    · rw [show b + 4 = b + 1 + 1 + 1 + 1 by omega]; exact r4) (fun b d hd => by
    unfold laws_markSegS_l2_r laws_markSegS_l2_g
    try simp only
    rw [hd, dge, cond_false]) h0 hk
  exact this.bind fun r hr => Ret.mk hr
theorem heldSegS_ok {a : List Timpl_Seg.V} (hn : a.length ≤ 1048576) {k k' : Int} (h : Ch Hs a k k') : laws_heldSegS a k = some k' := by
  unfold laws_heldSegS laws_heldSegS_l0
  rw [held_loop (f := laws_heldSegS_l0_r a) (z := Ty.zero Timpl_Seg) (H := Hs) (fun i b b' hi hH => by
    unfold laws_heldSegS_l0_r laws_heldSegS_l0_g
    try simp only
    have hm := hs_mono hH
    obtain ⟨h1, h2, h3, h4, h5, h6, h7, h8⟩ := hH
    rw [dlt hi, cond_true]
    simp (disch := omega) only [w1, if_pos (rng hi), Int.toNat_natCast, h3, h4, bne_self_eq_false, cond_false]
    rw [show b + 1 + 1 = b + 2 by omega, h5, show b + 2 + 1 = b + 3 by omega, h6, show b + 3 + 1 = b + 4 by omega]
    simp only [bne_self_eq_false, cond_false]
    rw [heldUint64S_ok h7 h8, Option.bind_some, decide_eq_false (by omega), cond_false]
    rfl) (fun b => by
    unfold laws_heldSegS_l0_r laws_heldSegS_l0_g
    try simp only
    rw [dge, cond_false]) h]
  rfl
def costC (c : Timpl_Claim.V) : Nat := (c.1.map costS).sum + (c.2.1.map costS).sum
theorem markClaimS_ok {a : List Timpl_Claim.V} (hl : a.length ≤ 1048576) (hn : ∀ c ∈ a, Small c.1 ∧ Small c.2.1) {k : Int} (h0 : 0 ≤ k) (hk : k + (((a.map costC).sum : Nat) : Int) ≤ 2305843009213693952) : Ret (laws_markClaimS k a) (MarkR Hc a (a.map costC).sum k) := by
  unfold laws_markClaimS laws_markClaimS_l1
  have := mark_loop (f := laws_markClaimS_l1_r) (cost := costC) (z := Ty.zero Timpl_Claim) (a := a) (H := Hc) (k := k) 2305843009213693952 (fun b i d hi hd hg hb0 hb => by
    unfold laws_markClaimS_l1_r laws_markClaimS_l1_g laws_markClaimS_l0
    simp only
    have hid : i < d.length := by omega
    have hnb := hn _ (getD_mem (z := Ty.zero Timpl_Claim) hi)
    unfold costC at hb
    rw [hd, dlt hi, cond_true]
    simp (disch := omega) only [w1, List.length_set, hd, Int.toNat_natCast, gsS hid, List.set_set, if_pos (rng hi), Option.bind_some, Option.bind_assoc]
    rw [hg]
    refine (markSegS_ok (a := (a.getD i (Ty.zero Timpl_Claim)).1) hnb.1 (by omega) (by omega)).bind fun r hr => ?_
    obtain ⟨r1, r2, r3, r4⟩ := hr
    refine (markSegS_ok (a := (a.getD i (Ty.zero Timpl_Claim)).2.1) hnb.2 (by omega) (by omega)).bind fun q hq => ?_
    obtain ⟨q1, q2, q3, q4⟩ := hq
    have s1 := hnb.1.1
    have s2 := hnb.2.1
    exact Ret.mk ⟨q.1, _, rfl, by omega, by unfold costC; omega, hb0, by show r.2.length ≤ _; omega, by show q.2.length ≤ _; omega, r.1, r4, q4⟩) (fun b d hd => by
    unfold laws_markClaimS_l1_r laws_markClaimS_l1_g
    try simp only
    rw [hd, dge, cond_false]) h0 hk
  exact this.bind fun r hr => Ret.mk hr
theorem heldClaimS_ok {a : List Timpl_Claim.V} (hn : a.length ≤ 1048576) {k k' : Int} (h : Ch Hc a k k') : laws_heldClaimS a k = some k' := by
  unfold laws_heldClaimS laws_heldClaimS_l0
  rw [held_loop (f := laws_heldClaimS_l0_r a) (z := Ty.zero Timpl_Claim) (H := Hc) (fun i b b' hi hH => by
    unfold laws_heldClaimS_l0_r laws_heldClaimS_l0_g
    try simp only
    obtain ⟨h1, h2, h3, m, h4, h5⟩ := hH
    have m1 := ch_mono (fun _ _ _ => hs_mono) h4
    have m2 := ch_mono (fun _ _ _ => hs_mono) h5
    rw [dlt hi, cond_true, if_pos (rng hi), Int.toNat_natCast, heldSegS_ok h2 h4, Option.bind_some, decide_eq_false (by omega), cond_false, if_pos (rng hi), heldSegS_ok h3 h5, Option.bind_some, decide_eq_false (by omega), cond_false, stepN hi hn]) (fun b => by
    unfold laws_heldClaimS_l0_r laws_heldClaimS_l0_g
    try simp only
    rw [dge, cond_false]) h]
  rfl
end Go.Proofs.X
namespace Go.Proofs.X
open Go Go.Va
set_option maxRecDepth 100000
theorem i64_small {x : Int} (h1 : -1 ≤ x) (h2 : x ≤ 1048576) : Ty.Wf (.int .i64) x := by
  show IntKind.i64.min ≤ x ∧ x ≤ IntKind.i64.max
  have e1 : IntKind.i64.min = -9223372036854775808 := rfl
  have e2 : IntKind.i64.max = 9223372036854775807 := rfl
  rw [e1, e2]; omega
theorem wf_words {ws : List Int} (h : Words ws) (hl : ws.length ≤ 1048576) : Ty.Wf (.sl (.int .u64)) ws := by
  refine ⟨Nat.le_trans hl small_max, fun x hx => ?_⟩
  have := h x hx
  unfold W64 at this
  exact ⟨this.1, Int.le_of_lt_add_one this.2⟩
theorem wf_seg {s : Sg} (h : SgB s) : Ty.Wf Timpl_Seg (sgV s) := by
  cases s with
  | co bs =>
    have h : bs.length ≤ 4096 := h
    refine ⟨i64_small (x := -1) (by omega) (by omega), i64_small (x := 0) (by omega) (by omega), i64_small (x := (bs.length : Int)) (by omega) (by omega), ⟨i64_small (x := (bs.length : Int)) (by omega) (by omega), wf_words (ws := (mkL bs).2.1) (mkL_words bs).2 (by rw [(mkL_words bs).1]; unfold nw; omega), trivial⟩, trivial⟩
  | va v l n =>
    obtain ⟨h1, h2⟩ := h
    exact ⟨i64_small (x := (v : Int)) (by omega) (by omega), i64_small (x := (l : Int)) (by omega) (by omega), i64_small (x := (n : Int)) (by omega) (by omega), ⟨i64_small (x := 0) (by omega) (by omega), wf_words (ws := []) (fun x hx => by cases hx) (by simp), trivial⟩, trivial⟩
theorem wf_form {d : List Timpl_Decl.V} (hd : DeclsP d) {B : List Bt} (h : BitsIn d B) : Ty.Wf (.sl Timpl_Seg) (fN B) := by
  refine ⟨Nat.le_trans (small_fN h).1 small_max, fun x hx => ?_⟩
  obtain ⟨s, hs, rfl⟩ := List.mem_map.1 hx
  exact wf_seg (norm_small (fun x hx => btB_sg (bitIn_btB hd (h.2.2 x hx))) h.2.1 s hs)
theorem wf_claims {d : List Timpl_Decl.V} (hd : DeclsP d) {cs : List Timpl_Claim.V} (hl : cs.length ≤ 1048576) (h : ∀ c ∈ cs, ClaimP d c) : Ty.Wf (.sl Timpl_Claim) cs := by
  refine ⟨Nat.le_trans hl small_max, fun c hc => ?_⟩
  obtain ⟨A, B, fa, fb, rfl⟩ := h c hc
  exact ⟨wf_form hd fa.1, wf_form hd fb.1, trivial⟩
theorem eq_self {A : Type} {G : A → A → Option Bool} {a : A} (h : EqOk G a) : G a a = some true := by
  obtain ⟨r, hr, hq⟩ := h a
  rw [hr, hq.2 rfl]
theorem cost_node (n : Timpl_TNode.V) : costN n = 5 + wt Timpl_TNode n := by
  have e : wt Timpl_TNode n = wt (.sl (.int .u64)) (nWs n) + wt (.sl (.int .i64)) (nKids n) := by show 0 + (0 + (0 + (0 + ((0 + (_ + 0)) + (_ + 0))))) = _; unfold nWs nKids; omega
  rw [e, wt_u64, wt_i64]; unfold costN; omega
theorem cost_term (t : List Timpl_TNode.V) : costT t ≤ 5 * wt (.sl Timpl_TNode) t := by
  show (t.map costN).sum ≤ 5 * (t.length + (t.map (wt Timpl_TNode)).sum)
  induction t with
  | nil => simp
  | cons n t ih => simp only [List.map_cons, List.sum_cons, List.length_cons, cost_node]; omega
theorem cost_lits (l : List Timpl_Literal.V) : (l.map costL).sum ≤ 5 * wt (.sl Timpl_Literal) l := by
  show _ ≤ 5 * (l.length + (l.map (wt Timpl_Literal)).sum)
  induction l with
  | nil => simp
  | cons x l ih =>
    have h1 := cost_term x.2.2.1.1
    have h2 := cost_term x.2.2.2.1.1
    have e : wt Timpl_Literal x = wt (.sl Timpl_TNode) x.2.2.1.1 + wt (.sl Timpl_TNode) x.2.2.2.1.1 := by show 0 + (0 + ((_ + 0) + ((_ + 0) + 0))) = _; omega
    simp only [List.map_cons, List.sum_cons, List.length_cons, costL]; omega
theorem cost_steps (l : List Timpl_PStep.V) : (l.map costP).sum ≤ 5 * wt (.sl Timpl_PStep) l := by
  show _ ≤ 5 * (l.length + (l.map (wt Timpl_PStep)).sum)
  induction l with
  | nil => simp
  | cons x l ih =>
    have h1 := cost_term x.2.2.2.2.2.1.1
    have e : wt Timpl_PStep x = wt (.sl Timpl_TNode) x.2.2.2.2.2.1.1 := by show 0 + (0 + (0 + (0 + (0 + ((_ + 0) + 0))))) = _; omega
    simp only [List.map_cons, List.sum_cons, List.length_cons, costP]; omega
theorem cost_form {d : List Timpl_Decl.V} {B : List Bt} (h : FormB d B) : ((fN B).map costS).sum ≤ 2000 * 1048580 := by
  have hs := (small_fN h.1).2
  have hl : (fN B).length ≤ 2000 := by rw [fN_len]; exact h.2
  have : ∀ l : List Timpl_Seg.V, (∀ s ∈ l, s.2.2.2.1.2.1.length ≤ 1048576) → (l.map costS).sum ≤ l.length * 1048580 := fun l hl => by
    induction l with
    | nil => simp
    | cons x l ih =>
      have h1 := hl x List.mem_cons_self
      have h2 := ih fun s hs => hl s (List.mem_cons_of_mem _ hs)
      simp only [List.map_cons, List.sum_cons, List.length_cons, costS] at *; omega
  have := this _ hs
  exact Nat.le_trans this (Nat.mul_le_mul_right _ hl)
theorem cost_claims {d : List Timpl_Decl.V} {cs : List Timpl_Claim.V} (h : ∀ c ∈ cs, ClaimP d c) : (cs.map costC).sum ≤ cs.length * 4194320000 := by
  induction cs with
  | nil => simp
  | cons c cs ih =>
    obtain ⟨A, B, fa, fb, rfl⟩ := h c List.mem_cons_self
    have h1 := cost_form fa
    have h2 := cost_form fb
    have h3 := ih fun c hc => h c (List.mem_cons_of_mem _ hc)
    simp only [List.map_cons, List.sum_cons, List.length_cons, costC]; omega
theorem law_ok (n : List Timpl_Decl.V) (o : List Timpl_Literal.V) (q : List Timpl_PStep.V) (hn : Ty.Wf (.sl Timpl_Decl) n) (ho : Ty.Wf (.sl Timpl_Literal) o) (hq : Ty.Wf (.sl Timpl_PStep) q) : laws_FnExactConclude n o q = some true := by
  unfold laws_FnExactConclude laws_FnExactConclude_l0 laws_FnExactConclude_l1 laws_FnExactConclude_l2
  rw [szDeclS_ok hn 1048576 (by omega) (by omega), Option.bind_some]
  generalize h1 : wt (.sl Timpl_Decl) n = w1 at *
  by_cases c1 : (w1 : Int) ≤ 1048576
  case neg => rw [if_neg c1]; rfl
  rw [if_pos c1, decide_eq_false (by omega), cond_false, szLiteralS_ok ho _ (by omega) (by omega), Option.bind_some]
  generalize h2 : wt (.sl Timpl_Literal) o = w2 at *
  by_cases c2 : (w2 : Int) ≤ 1048576 - (w1 : Int)
  case neg => rw [if_neg c2]; rfl
  rw [if_pos c2, decide_eq_false (by omega), cond_false, szPStepS_ok hq _ (by omega) (by omega), Option.bind_some]
  generalize h3 : wt (.sl Timpl_PStep) q = w3 at *
  by_cases c3 : (w3 : Int) ≤ 1048576 - (w1 : Int) - (w2 : Int)
  case neg => rw [if_neg c3]; rfl
  rw [if_pos c3, decide_eq_false (by omega), cond_false]
  have ln : n.length ≤ 1048576 := by have := wt_len (t := Timpl_Decl) n; omega
  have lo : o.length ≤ 1048576 := by have := wt_len (t := Timpl_Literal) o; omega
  have lq : q.length ≤ 1048576 := by have := wt_len (t := Timpl_PStep) q; omega
  have bo : ∀ x ∈ o, LitB x := fun x hx => lit_b (ho.2 x hx) (by have := wt_mem (t := Timpl_Literal) hx; omega)
  have bq : ∀ x ∈ q, TermB x.2.2.2.2.2.1.1 := fun x hx => pstep_b (hq.2 x hx) (by have := wt_mem (t := Timpl_PStep) hx; omega)
  have tn := toDeclS_ok ln
  have to' := toLiteralS_ok lo bo
  have tq := toPStepS_ok lq bq
  obtain ⟨r, r1, r2, r3, hcl⟩ := conclude_ok (d := n) bo lq bq
  have hwf : Ty.Wf (.sl Timpl_Claim) r.2.2 := by
    rcases hcl with h | ⟨hd, hl⟩
    · rw [h]; exact ⟨by show 0 ≤ _; omega, fun x hx => by cases hx⟩
    · exact wf_claims hd hl r3
  have hsm : ∀ c ∈ r.2.2, Small c.1 ∧ Small c.2.1 := fun c hc => by
    obtain ⟨A, B, fa, fb, rfl⟩ := r3 c hc
    exact ⟨small_fN fa.1, small_fN fb.1⟩
  have hlen : r.2.2.length ≤ 1048576 := by
    rcases hcl with h | ⟨_, hl⟩
    · rw [h]; simp
    · exact hl
  have hcost := cost_claims r3
  have heq := eq_self (eqClaimS_ok hwf)
  simp only [tn, to', tq, r1, r2, Option.bind_some, heq, Bool.not_true, cond_false, bne_self_eq_false, eq_self (eqDeclS_ok hn), eq_self (eqLiteralS_ok ho), eq_self (eqPStepS_ok hq)]
  have cl := cost_lits o
  have cp := cost_steps q
  have cd : 2 * n.length ≤ 5 * w1 := by have := wt_len (t := Timpl_Decl) n; omega
  obtain ⟨m1, e1, q1, q1', _⟩ := markDeclS_ok ln (k := 1) (by omega) (by omega)
  rw [e1, Option.bind_some]
  obtain ⟨m2, e2, q2, q2', _⟩ := markLiteralS_ok lo bo (k := m1.1) (by omega) (by omega)
  rw [e2, Option.bind_some]
  obtain ⟨m3, e3, q3, q3', _⟩ := markPStepS_ok lq bq (k := m2.1) (by omega) (by omega)
  rw [e3, Option.bind_some, decide_eq_false (by omega)]
  simp only [cond_false, Option.bind_some]
  obtain ⟨m4, e4, q4, q4', q5, q6⟩ := markClaimS_ok hlen hsm (k := 1) (by omega) (by omega)
  have hh := heldClaimS_ok (by rw [q5]; exact hlen) q6
  rw [e4, Option.bind_some, hh, Option.bind_some, decide_eq_false (by omega), cond_false, bne_self_eq_false, cond_false]
  simp only [heq, Option.bind_some, Bool.not_true, cond_false, bne_self_eq_false, hh]
  rw [decide_eq_false (by omega), cond_false]
end Go.Proofs.X
