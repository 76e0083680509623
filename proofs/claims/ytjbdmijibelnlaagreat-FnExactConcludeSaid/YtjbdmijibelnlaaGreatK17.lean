import Derived.Test.YtjbdmijibelnlaaGreatK16
set_option linter.unusedVariables false
set_option linter.unusedSimpArgs false
namespace Go.Proofs.X
open Go Go.Va
set_option maxRecDepth 100000
def kidB (all : List (List Bt)) (n : Timpl_TNode.V) : List (List Bt) := (nKids n).map fun k => all.getD k.toNat []
def TB (d : List Timpl_Decl.V) (t : List Timpl_TNode.V) : Nat → List (List Bt)
  | 0 => []
  | i + 1 => TB d t i ++ [nodeBits d (nd t i) (kidB (TB d t i) (nd t i))]
theorem TB_len (d : List Timpl_Decl.V) (t : List Timpl_TNode.V) : ∀ i, (TB d t i).length = i
  | 0 => rfl
  | i + 1 => by simp only [TB, List.length_append, TB_len d t i]; rfl
theorem TB_get (d : List Timpl_Decl.V) (t : List Timpl_TNode.V) {i j k : Nat} (h : j < i) (hk : i ≤ k) : (TB d t k).getD j [] = (TB d t i).getD j [] := by
  induction k with
  | zero => omega
  | succ k ih =>
    rcases Nat.lt_or_ge k i with h1 | h1
    · have : i = k + 1 := by omega
      rw [this]
    · rw [← ih h1]
      simp only [TB, List.getD]
      rw [List.getElem?_append_left (by rw [TB_len]; omega)]
theorem TB_last (d : List Timpl_Decl.V) (t : List Timpl_TNode.V) (i : Nat) : (TB d t (i + 1)).getD i [] = nodeBits d (nd t i) (kidB (TB d t i) (nd t i)) := by
  simp only [TB, List.getD]
  rw [List.getElem?_append_right (by rw [TB_len]; omega), TB_len]
  simp
theorem sum_cast {A : Type} (f : A → Nat) (l : List A) : (((l.map f).sum : Nat) : Int) = (l.map fun x => (f x : Int)).sum := by
  induction l with
  | nil => rfl
  | cons x l ih => simp only [List.map_cons, List.sum_cons]; rw [← ih]; omega
theorem node_nb {d : List Timpl_Decl.V} {t : List Timpl_TNode.V} {ws : List Int} {i : Nat} (hd : DeclsP d) (ht : TermB t) (h : TermP d t ws) (hi : i < t.length) (hp : ∀ j, j < i → BitsIn d ((TB d t i).getD j []) ∧ (((TB d t i).getD j []).length : Int) = ws.getD j 0) :
    NB d (nd t i) (kidB (TB d t i) (nd t i)) ∧ widF d (nd t i) (kidS (kidB (TB d t i) (nd t i))) = ws.getD i 0 ∧ KidsIn (nd t i) i := by
  obtain ⟨_, _, hl, ⟨_, hpre⟩, _⟩ := h
  have hn := hpre i (by omega)
  obtain ⟨hin, _, hf, hw, h1, h2⟩ := hn
  have hwl : (ws.take i).length = i := by rw [List.length_take]; omega
  rw [hwl] at hin
  have hs : kidS (kidB (TB d t i) (nd t i)) = (kidW (ws.take i) (nd t i)).sum := by
    unfold kidS kidB kidW
    rw [List.map_map, sum_cast]
    congr 1
    refine List.map_congr_left fun k hk => ?_
    have := hin k hk
    show (((TB d t i).getD k.toNat []).length : Int) = _
    rw [(hp k.toNat (by omega)).2]
    simp only [List.getD, List.getElem?_take, show k.toNat < i by omega, if_true]
  refine ⟨⟨hd, hf, ht.2 _ (getD_mem hi), by simp [kidB], by rw [hs, ← hw]; exact ⟨h1, h2⟩, fun B hB => ?_⟩, by rw [hs, ← hw], hin⟩
  obtain ⟨k, hk, rfl⟩ := List.mem_map.1 hB
  have := hin k hk
  exact (hp k.toNat (by omega)).1
theorem tb_ok {d : List Timpl_Decl.V} {t : List Timpl_TNode.V} {ws : List Int} (hd : DeclsP d) (ht : TermB t) (h : TermP d t ws) : ∀ i, i ≤ t.length → ∀ j, j < i → BitsIn d ((TB d t i).getD j []) ∧ (((TB d t i).getD j []).length : Int) = ws.getD j 0
  | 0, _, j, hj => by omega
  | i + 1, hi, j, hj => by
    have ih := tb_ok hd ht h i (by omega)
    rcases Nat.lt_or_ge j i with h1 | h1
    · rw [TB_get d t h1 (Nat.le_succ i)]; exact ih j h1
    · have : j = i := by omega
      subst this
      obtain ⟨hnb, hw, _⟩ := node_nb hd ht h (by omega) ih
      rw [TB_last]
      exact ⟨nodeBits_in hnb, by rw [nodeBits_len hnb, hw]⟩
def OkF (d : List Timpl_Decl.V) (t : List Timpl_TNode.V) (n : Nat) : Prop := ∀ i, i < n → (norm ((TB d t n).getD i [])).length ≤ 2000
def lastB (d : List Timpl_Decl.V) (t : List Timpl_TNode.V) : List Bt := (TB d t t.length).getD (t.length - 1) []
open Classical in
noncomputable def flatF (d : List Timpl_Decl.V) (t : List Timpl_TNode.V) : Bool × List Timpl_Seg.V := if (∃ ws, TermP d t ws) ∧ OkF d t t.length then (true, fN (lastB d t)) else (false, [])
theorem OkF.succ {d : List Timpl_Decl.V} {t : List Timpl_TNode.V} {n : Nat} : OkF d t (n + 1) ↔ OkF d t n ∧ (norm (nodeBits d (nd t n) (kidB (TB d t n) (nd t n)))).length ≤ 2000 := by
  unfold OkF
  constructor
  · intro h
    refine ⟨fun i hi => ?_, ?_⟩
    · have := h i (by omega); rw [TB_get d t hi (Nat.le_succ n)] at this; exact this
    · have := h n (by omega); rw [TB_last] at this; exact this
  · rintro ⟨h1, h2⟩ i hi
    rcases Nat.lt_or_ge i n with h | h
    · rw [TB_get d t h (Nat.le_succ n)]; exact h1 i h
    · have : i = n := by omega
      subst this; rw [TB_last]; exact h2
theorem OkF.mono {d : List Timpl_Decl.V} {t : List Timpl_TNode.V} {m n : Nat} (h : OkF d t n) (hm : m ≤ n) : OkF d t m := fun i hi => by
  have := h i (by omega); rw [TB_get d t hi hm] at this; exact this
theorem implKidsB_ok {a : List Timpl_Decl.V} {g c : Int} {b : Timpl_Term.V} {j : Timpl_TNode.V} {all : List (List Bt)} {pad : List (List Timpl_Seg.V)} {n : Timpl_TNode.V} (hn : (nKids n).length ≤ 1048576) (hin : KidsIn n all.length) :
    impl_flatten_l0 a g c b (all.map fN ++ pad) j (nKids n) ((nKids n).length : Int) 0 (List.replicate (nKids n).length []) = some ((kidB all n).map fN) := by
  unfold impl_flatten_l0
  have hget : ∀ m, m < (nKids n).length → (all.map fN ++ pad).getD ((nKids n).getD m 0).toNat [] = fN (all.getD ((nKids n).getD m 0).toNat []) := fun m hm => by
    have := hin _ (getD_mem (z := (0 : Int)) hm)
    rw [← fGetN]
    generalize (nKids n).getD m 0 = q at this ⊢
    simp only [List.getD]
    rw [List.getElem?_append_left (by rw [List.length_map]; omega)]
    rfl
  have := fix_seq0 (f := impl_flatten_l0_r a g c b (all.map fN ++ pad) j (nKids n) ((nKids n).length : Int)) (fun k => ((k : Int), fillN (fun m => (all.map fN ++ pad).getD ((nKids n).getD m 0).toNat []) [] (nKids n).length k)) (t := (kidB all n).map fN) (nKids n).length (fun k hk => by
    unfold impl_flatten_l0_r impl_flatten_l0_g
    simp only
    have hk2 := hin _ (getD_mem (z := (0 : Int)) hk)
    have e0 : (Ty.zero (.int .i64) : Int) = 0 := rfl
    rw [e0, dlt hk, cond_true, if_pos (rng hk), Int.toNat_natCast, if_pos ⟨hk2.1, by rw [List.length_append, List.length_map]; omega⟩, fillN_len, if_pos (rng hk), stepN hk (by omega)]
    rw [show (Ty.zero (.sl Timpl_Seg)) = ([] : List Timpl_Seg.V) from rfl, fillN_set (fun m => (all.map fN ++ pad).getD ((nKids n).getD m 0).toNat []) [] (n := (nKids n).length) (k := k)]) (by
    unfold impl_flatten_l0_r impl_flatten_l0_g
    simp only
    rw [dge, cond_false]
    congr 2
    unfold fillN kidB
    rw [List.map_map]
    refine List.ext_getElem (by simp) fun i h1 h2 => ?_
    simp only [List.getElem_map, List.getElem_range, Function.comp]
    have hi : i < (nKids n).length := by simpa using h1
    rw [if_pos hi, hget i hi]
    simp [List.getD, hi])
  rw [show fillN (fun m => (all.map fN ++ pad).getD ((nKids n).getD m 0).toNat []) [] (nKids n).length 0 = List.replicate (nKids n).length [] from fillN_zero _ _ _] at this
  exact this
theorem fN_len (B : List Bt) : (fN B).length = (norm B).length := fV_len _
theorem small_fN {d : List Timpl_Decl.V} {B : List Bt} (h : BitsIn d B) : Small (fN B) := by
  have hlen := len_le_wid (norm_full B)
  rw [norm_wid] at hlen
  have h4 := h.2.1
  refine ⟨by rw [fN_len]; omega, fun s hs => ?_⟩
  obtain ⟨q, hq, rfl⟩ := List.mem_map.1 hs
  cases q with
  | co bs =>
    show (mkL bs).2.1.length ≤ 1048576
    rw [(mkL_words bs).1]
    have : (Sg.co bs).w ≤ widL (norm B) := by
      have : ∀ (l : List Sg) (s : Sg), s ∈ l → s.w ≤ widL l := fun l s hs => by
        induction l with
        | nil => cases hs
        | cons a l ih =>
          simp only [widL, List.map_cons, List.sum_cons]
          rcases List.mem_cons.1 hs with rfl | hs
          · omega
          · have := ih hs; unfold widL at this; omega
      exact this _ _ hq
    rw [norm_wid] at this
    have e : (Sg.co bs).w = bs.length := rfl
    unfold nw; omega
  | va v l n => show ([] : List Int).length ≤ _; simp
theorem implFlatten_ok {d : List Timpl_Decl.V} {t : List Timpl_TNode.V} {ws : List Int} (hd : DeclsP d) (ht : TermB t) (h : TermP d t ws) : impl_flatten d (t, ()) = some (flatF d t) := by
  have hl1 := h.1
  have hl2 := h.2.1
  refine Ret.eq_ ?_
  unfold impl_flatten
  rw [if_pos ⟨rfl, by show (0 : Int) ≤ (t.length : Int); omega, by omega, by show ((24 : Nat) : Int) * (t.length : Int) ≤ _; omega, by show (t.length : Int) ≤ _; omega⟩]
  show Ret ((impl_flatten_l1 d (t, ()) (t.length : Int) 0 (List.replicate (t.length : Int).toNat [])).bind _) _
  rw [Int.toNat_natCast]
  refine Ret.bind (P := fun r => (∃ x, r = .inl x ∧ ¬ OkF d t t.length) ∨ (r = .inr ((TB d t t.length).map fN) ∧ OkF d t t.length)) ?_ fun r hr => ?_
  · unfold impl_flatten_l1
    refine fix_rule (fun m (x : Int × List (List Timpl_Seg.V)) => ∃ i : Nat, i ≤ t.length ∧ m = t.length - i ∧ x = ((i : Int), (TB d t i).map fN ++ List.replicate (t.length - i) []) ∧ OkF d t i) (fun m x hI => ?_) t.length _ ⟨0, Nat.zero_le _, rfl, by simp [TB], fun i hi => by omega⟩
    obtain ⟨i, hi, rfl, rfl, hok⟩ := hI
    unfold impl_flatten_l1_r impl_flatten_l1_g
    simp only
    rcases Nat.lt_or_ge i t.length with hlt | hge
    · obtain ⟨hnb, hw, hin⟩ := node_nb hd ht h hlt (tb_ok hd ht h i hi)
      have hkl := hnb.hb.1
      have hnd : t.getD i (Ty.zero Timpl_TNode) = nd t i := rfl
      have hkk : (nd t i).2.2.2.2.2.1 = nKids (nd t i) := rfl
      rw [dlt hlt, cond_true, if_pos (rng hlt), Int.toNat_natCast, hnd, hkk, if_pos ⟨rfl, by omega, by omega, by omega, by omega⟩, Int.toNat_natCast]
      rw [implKidsB_ok hkl (by rw [TB_len]; exact hin), Option.bind_some, implNode_ok hnb, Option.bind_some]
      have hlen : ((TB d t i).map fN ++ List.replicate (t.length - i) ([] : List Timpl_Seg.V)).length = t.length := by rw [List.length_append, List.length_map, TB_len, List.length_replicate]; omega
      have hset : ((TB d t i).map fN ++ List.replicate (t.length - i) ([] : List Timpl_Seg.V)).set i (fN (nodeBits d (nd t i) (kidB (TB d t i) (nd t i)))) = (TB d t (i + 1)).map fN ++ List.replicate (t.length - (i + 1)) [] := by
        rw [List.set_append_right _ _ (by rw [List.length_map, TB_len]; omega), List.length_map, TB_len, Nat.sub_self, show t.length - i = (t.length - (i + 1)) + 1 by omega, List.replicate_succ, List.set_cons_zero]
        simp only [TB, List.map_append, List.map_cons, List.map_nil, List.append_assoc]
        rfl
      have hget : ((TB d t (i + 1)).map fN ++ List.replicate (t.length - (i + 1)) ([] : List Timpl_Seg.V)).getD i (Ty.zero (.sl Timpl_Seg)) = fN (nodeBits d (nd t i) (kidB (TB d t i) (nd t i))) := by
        rw [← TB_last, ← fGetN]
        simp only [List.getD]
        rw [List.getElem?_append_left (by rw [List.length_map, TB_len]; omega)]
      rw [hlen, if_pos (rng hlt), List.length_set, hlen, if_pos (rng hlt), hset, hget, fN_len]
      by_cases hc : (norm (nodeBits d (nd t i) (kidB (TB d t i) (nd t i)))).length ≤ 2000
      · rw [decide_eq_false (by omega), cond_false, stepN hlt (by omega)]
        exact Ret.mk ⟨t.length - (i + 1), by omega, i + 1, hlt, rfl, rfl, OkF.succ.2 ⟨hok, hc⟩⟩
      · rw [decide_eq_true (by omega), cond_true]
        exact Ret.mk (.inl ⟨_, rfl, fun h' => hc (OkF.succ.1 (h'.mono hlt)).2⟩)
    · have : i = t.length := by omega
      subst this
      rw [dge, cond_false]
      exact Ret.mk (.inr ⟨by simp, hok⟩)
  · rcases hr with ⟨x, rfl, hno⟩ | ⟨rfl, hok⟩
    · simp only [Sum.elim_inl]
      refine Ret.mk ?_
      unfold flatF
      rw [if_neg (fun h' => hno h'.2)]
    · simp only [Sum.elim_inr]
      have hlast : IntKind.i64.wrap ((((TB d t t.length).map fN).length : Int) - 1) = ((t.length - 1 : Nat) : Int) := by rw [List.length_map, TB_len]; exact wrapN (by omega) (by omega)
      rw [hlast, List.length_map, TB_len, if_pos ⟨by omega, by omega⟩, Int.toNat_natCast, fGetN]
      have hb := (tb_ok hd ht h t.length (Nat.le_refl _) (t.length - 1) (by omega)).1
      rw [cloneFlat_ok (small_fN hb), Option.bind_some]
      refine Ret.mk ?_
      unfold flatF
      rw [if_pos ⟨⟨ws, h⟩, hok⟩]; rfl
theorem specFlatten_ok {d : List Timpl_Decl.V} {t : List Timpl_TNode.V} (hd : DeclsP d) (ht : TermB t) : spec_Flatten d (t, ()) = some (flatF d t) := by
  refine Ret.eq_ ?_
  unfold spec_Flatten
  have hd60 := hd.1
  rw [specWidthOf_ok ht (by omega) hd, Option.bind_some]
  by_cases hw : ∃ ws, TermP d t ws
  · obtain ⟨ws, h⟩ := hw
    have hl1 := h.1
    have hl2 := h.2.1
    have hp := termW_pos h
    rw [decide_eq_false (by omega), cond_false]
    refine Ret.bind (P := fun r => (r = .inl () ∧ ¬ OkF d t t.length) ∨ (r = .inr (fN (lastB d t)) ∧ OkF d t t.length)) ?_ fun r hr => ?_
    · unfold spec_Flatten_l3
      refine fix_rule (fun m (x : Int × List (List Tspec_l5Bit.V) × List Timpl_Seg.V) => ∃ i : Nat, i ≤ t.length ∧ m = t.length - i ∧ x.1 = (i : Int) ∧ x.2.1 = (TB d t i).map bV ∧ (0 < i → x.2.2 = fN ((TB d t i).getD (i - 1) [])) ∧ OkF d t i) (fun m x hI => ?_) t.length _ ⟨0, Nat.zero_le _, rfl, rfl, rfl, fun h => by omega, fun i hi => by omega⟩
      obtain ⟨x1, x2, x3⟩ := x
      obtain ⟨i, hi, rfl, h1, h2, h3, hok⟩ := hI
      simp only at h1 h2 h3
      subst h1 h2
      unfold spec_Flatten_l3_r spec_Flatten_l3_g
      simp only
      rcases Nat.lt_or_ge i t.length with hlt | hge
      · obtain ⟨hnb, hw, hin⟩ := node_nb hd ht h hlt (tb_ok hd ht h i hi)
        have hkl := hnb.hb.1
        have hnd : t.getD i (Ty.zero Timpl_TNode) = nd t i := rfl
        have hkk : (nd t i).2.2.2.2.2.1 = nKids (nd t i) := rfl
        have hkids : spec_Flatten_l2 d (i : Int) (t, ()) ((TB d t i).map bV) 0 [] = some ((kidB (TB d t i) (nd t i)).map bV) := by
          unfold spec_Flatten_l2
          rw [grow_map (f := spec_Flatten_l2_r d (i : Int) (t, ()) ((TB d t i).map bV)) (nKids (nd t i)).length (fun m => bV ((TB d t i).getD ((nKids (nd t i)).getD m 0).toNat [])) [] (fun k acc hk ha => by
            unfold spec_Flatten_l2_r spec_Flatten_l2_g
            simp only
            have hk2 := hin _ (getD_mem (z := (0 : Int)) hk)
            simp at ha
            have e0 : (Ty.zero (.int .i64) : Int) = 0 := rfl
            rw [if_pos (rng hlt), Int.toNat_natCast, hnd, hkk, dlt hk, cond_true, if_pos (rng hlt), if_pos (rng hk), Int.toNat_natCast, e0, if_pos ⟨hk2.1, by rw [List.length_map, TB_len]; exact hk2.2⟩, kGet, stepN hk (by omega), if_pos (by show (_ + 1) * 24 ≤ _; omega)]) (fun acc => by
            unfold spec_Flatten_l2_r spec_Flatten_l2_g
            simp only
            rw [if_pos (rng hlt), Int.toNat_natCast, hnd, hkk, dge, cond_false])]
          rw [List.nil_append]
          congr 1
          unfold kidB
          rw [List.map_map]
          refine List.ext_getElem (by simp) fun q h1 h2 => ?_
          simp only [List.getElem_map, List.getElem_range, Function.comp]
          have hq : q < (nKids (nd t i)).length := by simpa using h1
          simp [List.getD, hq]
        rw [dlt hlt, cond_true, hkids, Option.bind_some, if_pos (rng hlt), Int.toNat_natCast, hnd, specNode_ok hnb, Option.bind_some]
        have hb := nodeBits_in hnb
        rw [l5Form_ok (fun b hb' => bitIn_btB hd (hb.2.2 b hb')) hb.2.1, Option.bind_some]
        by_cases hc : (norm (nodeBits d (nd t i) (kidB (TB d t i) (nd t i)))).length ≤ 2000
        · simp only [decide_eq_true hc, Bool.not_true, cond_false]
          rw [List.length_map, TB_len, if_pos (by show (_ + 1) * 24 ≤ _; omega), stepN hlt (by omega)]
          refine Ret.mk ⟨t.length - (i + 1), by omega, i + 1, hlt, rfl, rfl, ?_, fun _ => ?_, OkF.succ.2 ⟨hok, hc⟩⟩
          · simp only [TB, List.map_append, List.map_cons, List.map_nil]
          · simp only [Nat.add_sub_cancel]
            rw [TB_last]; rfl
        · simp only [decide_eq_false hc, Bool.not_false, cond_true]
          exact Ret.mk (.inl ⟨rfl, fun h' => hc (OkF.succ.1 (h'.mono hlt)).2⟩)
      · have : i = t.length := by omega
        subst this
        rw [dge, cond_false]
        exact Ret.mk (.inr ⟨by rw [h3 (by omega)]; rfl, hok⟩)
    · rcases hr with ⟨rfl, hno⟩ | ⟨rfl, hok⟩
      · simp only [Sum.elim_inl]
        refine Ret.mk ?_
        unfold flatF
        rw [if_neg (fun h' => hno h'.2)]
      · simp only [Sum.elim_inr]
        refine Ret.mk ?_
        unfold flatF
        rw [if_pos ⟨⟨ws, h⟩, hok⟩]
  · rw [termW_none hw, decide_eq_true (by omega), cond_true]
    refine Ret.mk ?_
    unfold flatF
    rw [if_neg (fun h' => hw h'.1)]
end Go.Proofs.X
namespace Go.Va
def brk : List Bt → Nat
  | a :: b :: r => (if a.sg.join b.sg = none then 1 else 0) + brk (b :: r)
  | _ => 0
theorem brk_snoc (B : List Bt) (c b : Bt) : brk (B ++ [c, b]) = brk (B ++ [c]) + if c.sg.join b.sg = none then 1 else 0 := by
  induction B with
  | nil => simp [brk]
  | cons a B ih =>
    cases B with
    | nil => simp only [List.nil_append, List.cons_append, brk] at *; omega
    | cons x B => simp only [List.cons_append, brk] at *; omega
theorem brk_take (B : List Bt) (n : Nat) : brk (B.take n) ≤ brk B := by
  induction B generalizing n with
  | nil => simp
  | cons a B ih =>
    cases n with
    | zero => simp [brk]
    | succ n =>
      cases B with
      | nil => simp
      | cons b B =>
        cases n with
        | zero => simp [brk]
        | succ n =>
          have := ih (n + 1)
          simp only [List.take_succ_cons, brk] at *; omega
theorem brk_drop (B : List Bt) (n : Nat) : brk (B.drop n) ≤ brk B := by
  induction n generalizing B with
  | zero => simp
  | succ n ih =>
    cases B with
    | nil => simp
    | cons a B =>
      have := ih B
      simp only [List.drop_succ_cons]
      cases B with
      | nil => simp [brk] at this ⊢
      | cons b B => simp only [brk]; omega
theorem join_end {l s j : Sg} (h : l.join s = some j) (x : Bt) : j.join x.sg = none ↔ s.join x.sg = none := by
  cases l <;> cases s <;> simp only [Sg.join] at h
  · cases h; cases x <;> simp [Sg.join, Bt.sg]
  · cases h
  · cases h
  · split at h
    · rename_i hc
      cases h
      cases x with
      | co b => simp [Sg.join, Bt.sg]
      | va v a =>
        simp only [Sg.join, Bt.sg, hc.1, ← hc.2, Nat.add_assoc]
        split <;> simp
    · cases h
theorem norm_end (B : List Bt) (c : Bt) : ∃ g l, norm (B ++ [c]) = g ++ [l] ∧ ∀ x : Bt, l.join x.sg = none ↔ c.sg.join x.sg = none := by
  have e : norm (B ++ [c]) = raise1 (norm B) c.sg := by unfold norm; rw [addB_append]; rfl
  rw [e]
  rcases List.eq_nil_or_concat (norm B) with h | ⟨g, l, h⟩
  · rw [h]; exact ⟨[], c.sg, rfl, fun x => Iff.rfl⟩
  · rw [h, List.concat_eq_append, raise1_snoc]
    cases hj : l.join c.sg with
    | none => exact ⟨g ++ [l], c.sg, by simp, fun x => Iff.rfl⟩
    | some j => exact ⟨g, j, rfl, join_end hj⟩
theorem norm_length (B : List Bt) (c : Bt) : (norm (B ++ [c])).length = brk (B ++ [c]) + 1 := by
  have key : ∀ (n : Nat) (B : List Bt) (c : Bt), B.length = n → (norm (B ++ [c])).length = brk (B ++ [c]) + 1 := by
    intro n
    induction n with
    | zero => intro B c h; rw [List.length_eq_zero_iff.1 h]; simp [norm, addB, raise1, brk]
    | succ n ih =>
      intro B c h
      rcases List.eq_nil_or_concat B with rfl | ⟨B0, x, rfl⟩
      · simp at h
      · rw [List.concat_eq_append] at h ⊢
        rw [List.append_assoc]
        simp only [List.cons_append, List.nil_append]
        have i := ih B0 x (by simp at h; omega)
        obtain ⟨g, l, hg, hl⟩ := norm_end B0 x
        have e : norm (B0 ++ [x, c]) = raise1 (norm (B0 ++ [x])) c.sg := by
          rw [show B0 ++ [x, c] = (B0 ++ [x]) ++ [c] by simp]
          unfold norm; rw [addB_append]; rfl
        rw [brk_snoc, e, hg, raise1_snoc]
        rw [hg] at i
        simp only [List.length_append, List.length_cons, List.length_nil] at i
        cases hj : l.join c.sg with
        | none => rw [if_pos ((hl c).1 hj)]; simp; omega
        | some j =>
          rw [if_neg (fun h' => by rw [(hl c).2 h'] at hj; cases hj)]; simp; omega
  exact key _ B c rfl
theorem norm_mono {B C : List Bt} (hc : 1 ≤ C.length) (hb : 1 ≤ B.length) (h : brk C ≤ brk B) : (norm C).length ≤ (norm B).length := by
  rcases List.eq_nil_or_concat B with rfl | ⟨B0, x, rfl⟩
  · simp at hb
  rcases List.eq_nil_or_concat C with rfl | ⟨C0, y, rfl⟩
  · simp at hc
  rw [List.concat_eq_append] at *
  rw [List.concat_eq_append] at *
  rw [norm_length, norm_length]; omega
theorem apart_get {f : List Sg} (h : Apart f) {k : Nat} (hk : k + 1 < f.length) : (f.getD k (.co [])).join (f.getD (k + 1) (.co [])) = none := by
  induction f generalizing k with
  | nil => simp at hk
  | cons a f ih =>
    cases f with
    | nil => simp at hk
    | cons b f =>
      cases k with
      | zero => exact h.1
      | succ k => exact ih h.2 (by simpa using hk)
end Go.Va
namespace Go.Proofs.X
open Go Go.Va
set_option maxRecDepth 100000
def FormB (d : List Timpl_Decl.V) (B : List Bt) : Prop := BitsIn d B ∧ (norm B).length ≤ 2000
theorem FormB.pos {d : List Timpl_Decl.V} {B : List Bt} (h : FormB d B) : 1 ≤ (norm B).length := by
  rcases List.eq_nil_or_concat B with rfl | ⟨B0, x, rfl⟩
  · have := h.1.1; simp at this
  · rw [List.concat_eq_append, norm_length]; omega
def SegIn (d : List Timpl_Decl.V) : Sg → Prop
  | .co bs => 1 ≤ bs.length ∧ bs.length ≤ 4096
  | .va v l n => v < d.length ∧ 1 ≤ n ∧ ((l + n : Nat) : Int) ≤ dw d v
theorem seg_in {d : List Timpl_Decl.V} {B : List Bt} (h : BitsIn d B) {s : Sg} (hs : s ∈ norm B) : SegIn d s ∧ s.w ≤ 4096 := by
  have hw := norm_full B s hs
  have hb : ∀ b ∈ s.bits, BitIn d b := fun b hb => h.2.2 b (by
    rw [← norm_bits B]
    exact List.mem_flatMap.2 ⟨s, hs, hb⟩)
  have hle : s.w ≤ 4096 := by
    have : ∀ (l : List Sg) (s : Sg), s ∈ l → s.w ≤ widL l := fun l s hs => by
      induction l with
      | nil => cases hs
      | cons a l ih =>
        simp only [widL, List.map_cons, List.sum_cons]
        rcases List.mem_cons.1 hs with rfl | hs
        · omega
        · have := ih hs; unfold widL at this; omega
    have := this _ _ hs
    rw [norm_wid] at this
    have := h.2.1; omega
  refine ⟨?_, hle⟩
  cases s with
  | co bs => exact ⟨hw, hle⟩
  | va v l n =>
    have hn : 1 ≤ n := hw
    have h0 := hb (.va v l) (List.mem_map.2 ⟨0, List.mem_range.2 hn, by simp⟩)
    have h1 := hb (.va v (l + (n - 1))) (List.mem_map.2 ⟨n - 1, List.mem_range.2 (by omega), rfl⟩)
    have := h1.2
    exact ⟨h0.1, hn, by omega⟩
theorem specSeg_ok {d : List Timpl_Decl.V} (hd : DeclsP d) {s : Sg} (h : SegIn d s) : spec_l5Seg d (sgV s) = some true := by
  unfold spec_l5Seg mkr
  have hd60 := hd.1
  cases s with
  | co bs =>
    obtain ⟨r, hr, hq⟩ := specBitsOk_ok (w := (bs.length : Int)) (mkL_words bs).2 (by rw [(mkL_words bs).1]; unfold nw; have := h.2; omega)
    have hr' : spec_BitsOk (sgV (.co bs)).2.2.2.1 = some r := hr
    rw [show ((sgV (.co bs)).1 == (-1 : Int)) = true from rfl, cond_true, show ((sgV (.co bs)).2.1 == (0 : Int)) = true from rfl, cond_true, hr', Option.bind_some, hq.2 ⟨bs.length, rfl, mkB_right h.1 h.2⟩, cond_true]
    exact congrArg some (beq_iff_eq.2 rfl)
  | va v l n =>
    obtain ⟨hv, hn, hl⟩ := h
    have hdw := (hd.2.1 v hv).2.1
    rw [show ((sgV (.va v l n)).1 == (-1 : Int)) = false from beq_eq_false_iff_ne.2 (by show (v : Int) ≠ -1; omega), cond_false, l1In_ok]
    rw [show (sgV (.va v l n)).1 = (v : Int) from rfl, wrap64 (x := (d.length : Int) - 1) (by omega) (by omega), decide_eq_true (show (0 : Int) ≤ (v : Int) ∧ (v : Int) ≤ (d.length : Int) - 1 by omega), show spec_l3NoBits (sgV (.va v l n)).2.2.2.1 = true from rfl]
    simp only [Bool.not_true, Bool.or_self, cond_false]
    rw [if_pos (rng hv), Int.toNat_natCast, l1In_ok, l1In_ok]
    rw [show (d.getD v (Ty.zero Timpl_Decl)).2.1 = dw d v from rfl, show (sgV (.va v l n)).2.1 = (l : Int) from rfl, show (sgV (.va v l n)).2.2.1 = (n : Int) from rfl, wrap64 (x := dw d v - 1) (by omega) (by omega), wrap64 (x := dw d v - (l : Int)) (by omega) (by omega), decide_eq_true (show (0 : Int) ≤ (l : Int) ∧ (l : Int) ≤ dw d v - 1 by omega), cond_true, decide_eq_true (show (1 : Int) ≤ (n : Int) ∧ (n : Int) ≤ dw d v - (l : Int) by omega)]
theorem implSeg_ok {d : List Timpl_Decl.V} (hd : DeclsP d) {s : Sg} (h : SegIn d s) (hw : s.w ≤ 4096) : impl_segOk d (sgV s) = some true := by
  unfold impl_segOk mkr
  have hd60 := hd.1
  have h1 : 1 ≤ s.w := by cases s with
    | co bs => exact h.1
    | va v l n => exact h.2.1
  rw [sgV_w, decide_eq_false (show ¬ (s.w : Int) < 1 by omega), decide_eq_false (show ¬ (s.w : Int) > 4096 by omega), Bool.or_self, cond_false]
  cases s with
  | co bs =>
    obtain ⟨r, hr, hq⟩ := implBitsOk_ok (w := (bs.length : Int)) (mkL_words bs).2 (by rw [(mkL_words bs).1]; unfold nw; have := h.2; omega)
    have hr' : impl_BitsOk (sgV (.co bs)).2.2.2.1 = some r := hr
    rw [show ((sgV (.co bs)).1 == (-1 : Int)) = true from rfl, cond_true, show ((sgV (.co bs)).2.1 == (0 : Int)) = true from rfl, cond_true, hr', Option.bind_some, hq.2 ⟨bs.length, rfl, mkB_right h.1 h.2⟩, cond_true]
    exact congrArg some (beq_iff_eq.2 rfl)
  | va v l n =>
    obtain ⟨hv, hn, hl⟩ := h
    have hdw := (hd.2.1 v hv).2.1
    rw [show ((sgV (.va v l n)).1 == (-1 : Int)) = false from beq_eq_false_iff_ne.2 (by show (v : Int) ≠ -1; omega), cond_false, inside_ok]
    rw [show (sgV (.va v l n)).1 = (v : Int) from rfl, wrap64 (x := (d.length : Int) - 1) (by omega) (by omega), decide_eq_true (show (0 : Int) ≤ (v : Int) ∧ (v : Int) ≤ (d.length : Int) - 1 by omega), show ((sgV (.va v l n)).2.2.2.1.1 != (0 : Int)) = false from rfl, show (((sgV (.va v l n)).2.2.2.1.2.1.length : Int) != 0) = false from rfl]
    simp only [Bool.not_true, Bool.or_self, cond_false]
    rw [show (sgV (.va v l n)).2.1 = (l : Int) from rfl, decide_eq_true (show (l : Int) ≥ 0 by omega), cond_true, if_pos (rng hv), Int.toNat_natCast]
    rw [show (d.getD v (Ty.zero Timpl_Decl)).2.1 = dw d v from rfl, show (Sg.va v l n).w = n from rfl, wrap64 (x := dw d v - (n : Int)) (by omega) (by omega), decide_eq_true (show (l : Int) ≤ dw d v - (n : Int) by omega)]
theorem specFlatOk_ok {d : List Timpl_Decl.V} (hd : DeclsP d) {B : List Bt} (h : FormB d B) : spec_FlatOk d (fN B) = some true := by
  have hpos := h.pos
  have h2000 := h.2
  have hwB : widL (norm B) ≤ 4096 := by rw [norm_wid]; exact h.1.2.1
  have hlen : (fN B).length = (norm B).length := fN_len B
  unfold spec_FlatOk
  obtain ⟨r, hr, hq⟩ := specDecls_ok d
  rw [show spec_FlatOk_l0 d (fN B) = some false by
    unfold spec_FlatOk_l0
    rw [hr, Option.bind_some, hq.2 hd, Bool.not_true, cond_false, hlen, decide_eq_false (by omega), cond_false, decide_eq_false (by omega)], Option.bind_some, cond_false]
  have := fix_seq0 (f := spec_FlatOk_l2_r d (fN B)) (fun k => ((widL ((norm B).take k) : Int), (k : Int))) (t := .inr (widL (norm B) : Int)) (norm B).length (fun k hk => by
    unfold spec_FlatOk_l2_r spec_FlatOk_l2_g
    simp only
    have hmem : (norm B).getD k (.co []) ∈ norm B := getD_mem hk
    have hsi := seg_in h.1 hmem
    have hsucc := widL_take_succ hk
    have hle := widL_take_le (norm B) (k + 1)
    have hget : (fN B).getD k (Ty.zero Timpl_Seg) = sgV ((norm B).getD k (.co [])) := fGet hk
    rw [hlen, dlt hk, cond_true, if_pos (rng hk), Int.toNat_natCast, hget, specSeg_ok hd hsi.1, Option.bind_some, Bool.not_true, cond_false, if_pos (rng hk)]
    rw [sgV_w, show IntKind.i64.wrap ((widL ((norm B).take k) : Int) + (((norm B).getD k (.co [])).w : Int)) = ((widL ((norm B).take (k + 1)) : Nat) : Int) from wrapN (by rw [hsucc]; omega) (by omega)]
    rw [show spec_FlatOk_l1 d (fN B) (k : Int) ((widL ((norm B).take (k + 1)) : Nat) : Int) = some false by
      unfold spec_FlatOk_l1
      rcases Nat.eq_zero_or_pos k with h0 | h0
      · subst h0; rfl
      · obtain ⟨j, rfl⟩ : ∃ j, k = j + 1 := ⟨k - 1, by omega⟩
        have hap := apart_get (norm_apart B) hk
        have hgj : (fN B).getD j (Ty.zero Timpl_Seg) = sgV ((norm B).getD j (.co [])) := fGet (by omega)
        have hsj := seg_in h.1 (getD_mem (z := Sg.co []) (show j < (norm B).length by omega))
        rw [decide_eq_true (by omega), cond_true, hlen, if_pos (rng hk), show IntKind.i64.wrap (((j + 1 : Nat) : Int) - 1) = (j : Int) from wrapN (by omega) (by omega), if_pos (rng (by omega)), Int.toNat_natCast, Int.toNat_natCast, hget, hgj]
        have hd60 := hd.1
        revert hap hsi hsj
        cases (norm B).getD (j + 1) (.co []) with
        | co x =>
          cases (norm B).getD j (.co []) with
          | co y => intro _ hap _; exact absurd hap (by unfold Sg.join; simp)
          | va v l n =>
            intro _ hap hsj
            rw [show ((sgV (.co x)).1 == (sgV (.va v l n)).1) = false from beq_eq_false_iff_ne.2 (by show (-1 : Int) ≠ (v : Int); omega), cond_false]
        | va v l n =>
          cases (norm B).getD j (.co []) with
          | co y =>
            intro _ hap hsj
            rw [show ((sgV (.va v l n)).1 == (sgV (.co y)).1) = false from beq_eq_false_iff_ne.2 (by show (v : Int) ≠ (-1 : Int); omega), cond_false]
          | va v' l' n' =>
            intro hsi hap hsj
            by_cases hc : v' = v ∧ l' + n' = l
            · exact absurd hap (by show ¬ (if v' = v ∧ l' + n' = l then some (Sg.va v' l' (n' + n)) else none) = none; rw [if_pos hc]; simp)
            · skip
              by_cases hv : v' = v
              · subst hv
                have hdw := (hd.2.1 v' hsj.1.1).2.1
                have := hsj.1.2.2
                rw [show ((sgV (.va v' l n)).1 == (sgV (.va v' l' n')).1) = true from beq_iff_eq.2 rfl, cond_true, if_pos (rng hk), show ((sgV (.va v' l n)).1 == (-1 : Int)) = false from beq_eq_false_iff_ne.2 (by show (v' : Int) ≠ -1; omega), cond_false, if_pos (rng hk), if_pos (rng (by omega)), if_pos (rng (by omega))]
                rw [show IntKind.i64.wrap ((sgV (.va v' l' n')).2.1 + (sgV (.va v' l' n')).2.2.1) = ((l' + n' : Nat) : Int) from wrapN (by show (l' : Int) + (n' : Int) = _; omega) (by omega)]
                refine congrArg some (beq_eq_false_iff_ne.2 ?_)
                show (l : Int) ≠ _
                intro e
                exact hc ⟨rfl, by omega⟩
              · rw [show ((sgV (.va v l n)).1 == (sgV (.va v' l' n')).1) = false from beq_eq_false_iff_ne.2 (by show (v : Int) ≠ (v' : Int); omega), cond_false], Option.bind_some, cond_false, stepN hk (by omega)]) (by
    unfold spec_FlatOk_l2_r spec_FlatOk_l2_g
    simp only
    rw [hlen, dge, cond_false, List.take_of_length_le (Nat.le_refl _)])
  unfold spec_FlatOk_l2
  rw [show fix (spec_FlatOk_l2_r d (fN B)) ((0 : Int), (0 : Int)) = some (.inr (widL (norm B) : Int)) from this, Option.bind_some]
  simp only [Sum.elim_inr]
  rw [decide_eq_true (by omega)]
theorem implFlatOk0_ok {d : List Timpl_Decl.V} (hd : DeclsP d) {B : List Bt} (h : FormB d B) : impl_flatOk d (fN B) = some true := by
  have hpos := h.pos
  have h2000 := h.2
  have hwB : widL (norm B) ≤ 4096 := by rw [norm_wid]; exact h.1.2.1
  have hlen : (fN B).length = (norm B).length := fN_len B
  unfold impl_flatOk mkr
  rw [hlen, decide_eq_false (by omega), decide_eq_false (by omega), Bool.or_self, cond_false]
  have := fix_seq0 (f := impl_flatOk_l2_r d (fN B) ((norm B).length : Int)) (fun k => ((widL ((norm B).take k) : Int), (k : Int))) (t := .inr (widL (norm B) : Int)) (norm B).length (fun k hk => by
    unfold impl_flatOk_l2_r impl_flatOk_l2_g
    simp only
    have hmem : (norm B).getD k (.co []) ∈ norm B := getD_mem hk
    have hsi := seg_in h.1 hmem
    have hsucc := widL_take_succ hk
    have hle := widL_take_le (norm B) (k + 1)
    have hget : (fN B).getD k (Ty.zero Timpl_Seg) = sgV ((norm B).getD k (.co [])) := fGet hk
    rw [hlen, dlt hk, cond_true, if_pos (rng hk), Int.toNat_natCast, hget]
    rw [show impl_flatOk_l1 d (fN B) (widL ((norm B).take k) : Int) (k : Int) ((norm B).length : Int) (sgV ((norm B).getD k (.co []))) = some false by
      unfold impl_flatOk_l1
      rw [implSeg_ok hd hsi.1 hsi.2, Option.bind_some, Bool.not_true, cond_false]
      rcases Nat.eq_zero_or_pos k with h0 | h0
      · subst h0; rfl
      · obtain ⟨j, rfl⟩ : ∃ j, k = j + 1 := ⟨k - 1, by omega⟩
        have hap := apart_get (norm_apart B) hk
        have hgj : (fN B).getD j (Ty.zero Timpl_Seg) = sgV ((norm B).getD j (.co [])) := fGet (by omega)
        have hbj := norm_small (fun x hx => btB_sg (bitIn_btB hd (h.1.2.2 x hx))) h.1.2.1 _ (getD_mem (z := Sg.co []) (show j < (norm B).length by omega))
        rw [decide_eq_true (by omega), cond_true, hlen, show IntKind.i64.wrap (((j + 1 : Nat) : Int) - 1) = (j : Int) from wrapN (by omega) (by omega), if_pos (rng (by omega)), Int.toNat_natCast, hgj, meets_ok hbj]
        unfold Sg.meets
        rw [hap]; rfl, Option.bind_some, cond_false, stepN hk (by omega)]
    rw [sgV_w, show IntKind.i64.wrap ((widL ((norm B).take k) : Int) + (((norm B).getD k (.co [])).w : Int)) = ((widL ((norm B).take (k + 1)) : Nat) : Int) from wrapN (by rw [hsucc]; omega) (by omega)]) (by
    unfold impl_flatOk_l2_r impl_flatOk_l2_g
    simp only
    rw [dge, cond_false, List.take_of_length_le (Nat.le_refl _)])
  unfold impl_flatOk_l2
  rw [show fix (impl_flatOk_l2_r d (fN B) ((norm B).length : Int)) ((0 : Int), (0 : Int)) = some (.inr (widL (norm B) : Int)) from this, Option.bind_some]
  simp only [Sum.elim_inr]
  rw [decide_eq_true (by omega)]
theorem implFlatOk_ok {d : List Timpl_Decl.V} (hd : DeclsP d) {B : List Bt} (h : FormB d B) : impl_FlatOk d (fN B) = some true := by
  unfold impl_FlatOk
  obtain ⟨r, hr, hq⟩ := implDecls_ok d
  rw [hr, Option.bind_some, hq.2 hd, cond_true, implFlatOk0_ok hd h]
  rfl
def cutB (B : List Bt) (lo hi : Int) : List Bt := (B.take (hi.toNat + 1)).drop lo.toNat
def CutP (B : List Bt) (hi lo : Int) : Prop := 0 ≤ lo ∧ lo ≤ hi ∧ hi < (B.length : Int)
instance (B : List Bt) (hi lo : Int) : Decidable (CutP B hi lo) := inferInstanceAs (Decidable (_ ∧ _))
theorem cut_form {d : List Timpl_Decl.V} {B : List Bt} (h : FormB d B) {hi lo : Int} (hc : CutP B hi lo) : FormB d (cutB B lo hi) := by
  obtain ⟨h1, h2, h3⟩ := hc
  have hl : (cutB B lo hi).length = hi.toNat + 1 - lo.toNat := by
    unfold cutB; rw [List.length_drop, List.length_take]; omega
  have h4 := h.1.2.1
  refine ⟨⟨by omega, by omega, fun b hb => h.1.2.2 b (List.mem_of_mem_take (List.mem_of_mem_drop hb))⟩, Nat.le_trans (norm_mono (by omega) h.1.1 ?_) h.2⟩
  exact Nat.le_trans (brk_drop _ _) (brk_take _ _)
theorem specPart_ok {d : List Timpl_Decl.V} (hd : DeclsP d) {B : List Bt} (h : FormB d B) (hi lo : Int) : spec_FlatPart d (fN B) hi lo = some (if CutP B hi lo then (true, fN (cutB B lo hi)) else (false, [])) := by
  unfold spec_FlatPart mkr
  have h4 := h.1.2.1
  have hs : ∀ x ∈ B, SgB x.sg := fun x hx => btB_sg (bitIn_btB hd (h.1.2.2 x hx))
  have hbits : spec_l5Bits (fN B) = some (bV B) := by
    unfold fN
    rw [l5Bits_ok (norm_full B) (norm_small hs h4) (by rw [norm_wid]; exact h4), norm_bits]
  rw [specFlatOk_ok hd h, Option.bind_some, Bool.not_true, cond_false, hbits, Option.bind_some, bV_len]
  by_cases hc : CutP B hi lo
  · rw [if_pos hc]
    have hf := cut_form h hc
    obtain ⟨h1, h2, h3⟩ := hc
    rw [decide_eq_false (by omega), decide_eq_false (by omega), decide_eq_false (by omega)]
    simp only [Bool.or_self, cond_false]
    rw [show IntKind.i64.wrap (hi + 1) = ((hi.toNat + 1 : Nat) : Int) from wrapN (by omega) (by omega), if_pos (show 0 ≤ lo ∧ lo ≤ ((hi.toNat + 1 : Nat) : Int) ∧ ((hi.toNat + 1 : Nat) : Int) ≤ (B.length : Int) from ⟨by omega, by omega, by omega⟩), Int.toNat_natCast]
    rw [show ((bV B).take (hi.toNat + 1)).drop lo.toNat = bV (cutB B lo hi) by simp [bV, cutB, List.map_drop, List.map_take]]
    rw [l5Form_ok (fun b hb => bitIn_btB hd (hf.1.2.2 b hb)) hf.1.2.1, Option.bind_some, decide_eq_true hf.2]
    rfl
  · rw [if_neg hc]
    have : (decide (lo < 0) || (decide (hi < lo) || decide (hi ≥ (B.length : Int)))) = true := by
      rw [← Bool.decide_or, ← Bool.decide_or]
      refine decide_eq_true ?_
      unfold CutP at hc; omega
    rw [this, cond_true]
theorem implPart_ok {d : List Timpl_Decl.V} (hd : DeclsP d) {B : List Bt} (h : FormB d B) (hi lo : Int) : impl_FlatPart d (fN B) hi lo = some (if CutP B hi lo then (true, fN (cutB B lo hi)) else (false, [])) := by
  unfold impl_FlatPart
  have h4 := h.1.2.1
  rw [show impl_FlatPart_l0 d (fN B) hi lo = some (decide ¬ CutP B hi lo) by
    unfold impl_FlatPart_l0
    rw [implFlatOk_ok hd h, Option.bind_some, Bool.not_true, cond_false]
    by_cases h1 : lo < 0
    · rw [decide_eq_true h1, cond_true, decide_eq_true (by unfold CutP; omega)]
    · rw [decide_eq_false h1, cond_false]
      by_cases h2 : lo > hi
      · rw [decide_eq_true h2, cond_true, decide_eq_true (by unfold CutP; omega)]
      · rw [decide_eq_false h2, cond_false, widthN h.1, Option.bind_some]
        congr 1
        rw [decide_eq_decide]; unfold CutP; omega, Option.bind_some]
  by_cases hc : CutP B hi lo
  · rw [if_pos hc, decide_eq_false (fun h' => h' hc), cond_false]
    have hf := cut_form h hc
    obtain ⟨h1, h2, h3⟩ := hc
    rw [show lo = ((lo.toNat : Nat) : Int) by omega, show IntKind.i64.wrap (IntKind.i64.wrap (hi - ((lo.toNat : Nat) : Int)) + 1) = ((hi.toNat + 1 - lo.toNat : Nat) : Int) by rw [wrapI (x := hi - ((lo.toNat : Nat) : Int)) (by omega) (by omega), wrapI (by omega) (by omega)]; omega, partN hd h.1 (by omega), Option.bind_some]
    have e : (B.drop lo.toNat).take (hi.toNat + 1 - lo.toNat) = cutB B lo hi := by unfold cutB; rw [List.drop_take]
    rw [e, cloneFlat_ok (small_fN hf.1), Option.bind_some]
    rw [show ((lo.toNat : Nat) : Int) = lo by omega]
  · rw [if_neg hc, decide_eq_true hc, cond_true]
def JoinP (A B : List Bt) : Prop := A.length + B.length ≤ 4096 ∧ (norm (B ++ A)).length ≤ 2000
instance (A B : List Bt) : Decidable (JoinP A B) := inferInstanceAs (Decidable (_ ∧ _))
theorem join_form {d : List Timpl_Decl.V} {A B : List Bt} (ha : FormB d A) (hb : FormB d B) (h : JoinP A B) : FormB d (B ++ A) := by
  have := ha.1.1
  refine ⟨⟨by rw [List.length_append]; omega, by rw [List.length_append]; have := h.1; omega, fun b hb' => ?_⟩, h.2⟩
  rcases List.mem_append.1 hb' with h' | h'
  · exact hb.1.2.2 b h'
  · exact ha.1.2.2 b h'
theorem specJoin_ok {d : List Timpl_Decl.V} (hd : DeclsP d) {A B : List Bt} (ha : FormB d A) (hb : FormB d B) : spec_FlatJoin d (fN A) (fN B) = some (if JoinP A B then (true, fN (B ++ A)) else (false, [])) := by
  unfold spec_FlatJoin
  have ha4 := ha.1.2.1
  have hb4 := hb.1.2.1
  have bits : ∀ {C : List Bt}, FormB d C → spec_l5Bits (fN C) = some (bV C) := fun {C} h => by
    unfold fN
    rw [l5Bits_ok (norm_full C) (norm_small (fun x hx => btB_sg (bitIn_btB hd (h.1.2.2 x hx))) h.1.2.1) (by rw [norm_wid]; exact h.1.2.1), norm_bits]
  rw [show spec_FlatJoin_l0 d (fN A) (fN B) = some false by
    unfold spec_FlatJoin_l0
    rw [specFlatOk_ok hd ha, Option.bind_some, Bool.not_true, cond_false, specFlatOk_ok hd hb, Option.bind_some, Bool.not_true], Option.bind_some, cond_false, bits hb, Option.bind_some, bits ha, Option.bind_some, bV_len, bV_len, if_pos (by omega), ← bV_append, bV_len, List.length_append]
  by_cases hl : A.length + B.length ≤ 4096
  · rw [decide_eq_false (by omega), cond_false, l5Form_ok (fun b hb' => by
      rcases List.mem_append.1 hb' with h' | h'
      · exact bitIn_btB hd (hb.1.2.2 b h')
      · exact bitIn_btB hd (ha.1.2.2 b h')) (by rw [List.length_append]; omega), Option.bind_some]
    by_cases hn : (norm (B ++ A)).length ≤ 2000
    · rw [if_pos ⟨hl, hn⟩]
      simp only [decide_eq_true hn, Bool.not_true, cond_false]
      rfl
    · rw [if_neg (fun h => hn h.2)]
      simp only [decide_eq_false hn, Bool.not_false, cond_true]
  · rw [decide_eq_true (by omega), cond_true, if_neg (fun h => hl h.1)]
theorem implJoin_ok {d : List Timpl_Decl.V} (hd : DeclsP d) {A B : List Bt} (ha : FormB d A) (hb : FormB d B) : impl_FlatJoin d (fN A) (fN B) = some (if JoinP A B then (fN (B ++ A), true) else ([], false)) := by
  unfold impl_FlatJoin
  have ha4 := ha.1.2.1
  have hb4 := hb.1.2.1
  rw [show impl_FlatJoin_l0 d (fN A) (fN B) = some (decide ¬ A.length + B.length ≤ 4096) by
    unfold impl_FlatJoin_l0
    rw [implFlatOk_ok hd ha, Option.bind_some, Bool.not_true, cond_false, implFlatOk0_ok hd hb, Option.bind_some, Bool.not_true, cond_false, widthN ha.1, Option.bind_some, widthN hb.1, Option.bind_some, wrapI (by omega) (by omega)]
    congr 1
    rw [decide_eq_decide]; omega, Option.bind_some]
  by_cases hl : A.length + B.length ≤ 4096
  · rw [decide_eq_false (fun h => h hl), cond_false, cloneFlat_ok (small_fN hb.1), Option.bind_some, cloneFlat_ok (small_fN ha.1), Option.bind_some, raiseN hd hb.1.2.2 ha.1.2.2 (by omega), Option.bind_some, fN_len]
    by_cases hn : (norm (B ++ A)).length ≤ 2000
    · rw [if_pos ⟨hl, hn⟩, decide_eq_false (by omega), cond_false]
    · rw [if_neg (fun h => hn h.2), decide_eq_true (by omega), cond_true]
  · rw [decide_eq_true hl, cond_true, if_neg (fun h => hl h.1)]
end Go.Proofs.X
namespace Go.Proofs.X
open Go Go.Va
set_option maxRecDepth 100000
theorem lastB_in {d : List Timpl_Decl.V} {t : List Timpl_TNode.V} {ws : List Int} (hd : DeclsP d) (ht : TermB t) (h : TermP d t ws) : BitsIn d (lastB d t) := by
  have := h.1
  exact (tb_ok hd ht h t.length (Nat.le_refl _) (t.length - 1) (by omega)).1
theorem flatF_form {d : List Timpl_Decl.V} {t : List Timpl_TNode.V} (hd : DeclsP d) (ht : TermB t) (h : (flatF d t).1 = true) : FormB d (lastB d t) ∧ (flatF d t).2 = fN (lastB d t) := by
  unfold flatF at h ⊢
  split at h
  · rename_i hc
    rw [if_pos hc]
    obtain ⟨⟨ws, hw⟩, hok⟩ := hc
    have := hw.1
    exact ⟨⟨lastB_in hd ht hw, hok _ (by omega)⟩, rfl⟩
  · cases h
theorem termW_some {d : List Timpl_Decl.V} {t : List Timpl_TNode.V} (h : 0 ≤ termW d t) : ∃ ws, TermP d t ws :=
  Classical.byContradiction fun h' => by rw [termW_none h'] at h; omega
def SideOk (d : List Timpl_Decl.V) (l : List Timpl_Literal.V) (i : Nat) : Prop := (flatF d (lS l i)).1 = true ∧ (flatF d (lT l i)).1 = true
def SidesP (d : List Timpl_Decl.V) (l : List Timpl_Literal.V) : Prop := ∀ i, i < l.length → SideOk d l i
noncomputable def sideV (d : List Timpl_Decl.V) (l : List Timpl_Literal.V) (i : Nat) : Timpl_Claim.V := ((flatF d (lS l i)).2, (flatF d (lT l i)).2, ())
theorem or_not {a b : Bool} : (!a || !b) = false ↔ a = true ∧ b = true := by cases a <;> cases b <;> decide
theorem specSides_ok {d : List Timpl_Decl.V} {l : List Timpl_Literal.V} (hd : DeclsP d) (hl : ∀ x ∈ l, LitB x) (hlen : l.length ≤ 60) : Ret (spec_l6Sides d l) fun r => r.1 = true ↔ SidesP d l := by
  unfold spec_l6Sides
  refine Ret.bind (P := fun t => (∃ x, t = .inl x ∧ ¬ SidesP d l) ∨ (∃ x, t = .inr x ∧ SidesP d l)) ?_ fun t ht => ?_
  · unfold spec_l6Sides_l2
    refine fix_rule (fun m (x : Int × List (List Timpl_Seg.V)) => ∃ k : Nat, k ≤ l.length ∧ m = l.length - k ∧ x.1 = (k : Int) ∧ x.2.length = 2 * k ∧ ∀ i, i < k → SideOk d l i) (fun m x hI => ?_) l.length _ ⟨0, Nat.zero_le _, rfl, rfl, rfl, fun i hi => by omega⟩
    obtain ⟨x1, x2⟩ := x
    obtain ⟨k, hk, rfl, h1, h2, h3⟩ := hI
    simp only at h1 h2
    subst h1
    unfold spec_l6Sides_l2_r spec_l6Sides_l2_g mkr
    simp only
    rcases Nat.lt_or_ge k l.length with h | h
    · have hB := hl _ (getD_mem (z := Ty.zero Timpl_Literal) h)
      have e1 : spec_Flatten d (l.getD k (Ty.zero Timpl_Literal)).2.2.1 = some (flatF d (lS l k)) := specFlatten_ok hd hB.1
      have e2 : spec_Flatten d (l.getD k (Ty.zero Timpl_Literal)).2.2.2.1 = some (flatF d (lT l k)) := specFlatten_ok hd hB.2
      rw [dlt h, cond_true, if_pos (rng h), Int.toNat_natCast, e1, Option.bind_some, if_pos (rng h), e2, Option.bind_some]
      cases hc : (!(flatF d (lS l k)).1 || !(flatF d (lT l k)).1) with
      | true =>
        refine Ret.mk (.inl ⟨_, rfl, fun h' => ?_⟩)
        have := or_not.2 (h' k h)
        rw [hc] at this; cases this
      | false =>
        rw [cond_false, if_pos (by show (x2.length + 2) * 24 ≤ _; omega), stepN h (by omega)]
        refine Ret.mk ⟨l.length - (k + 1), by omega, k + 1, h, rfl, rfl, by simp [h2]; omega, fun i hi => ?_⟩
        rcases Nat.lt_or_ge i k with h' | h'
        · exact h3 i h'
        · rw [show i = k by omega]; exact or_not.1 hc
    · have : k = l.length := by omega
      subst this
      rw [dge, cond_false]
      exact Ret.mk (.inr ⟨_, rfl, h3⟩)
  · rcases ht with ⟨x, rfl, h⟩ | ⟨x, rfl, h⟩
    · exact Ret.mk ⟨fun h' => by (cases h'), fun h' => absurd h' h⟩
    · exact Ret.mk ⟨fun _ => h, fun _ => rfl⟩
theorem implSides_ok {d : List Timpl_Decl.V} {l : List Timpl_Literal.V} (hd : DeclsP d) (hl : ∀ x ∈ l, LitB x) (hp : LitsP d l) : Ret (impl_sides d l) fun r => (r.1 = true ∧ SidesP d l ∧ r.2 = (List.range l.length).map (sideV d l)) ∨ (r.1 = false ∧ ¬ SidesP d l) := by
  unfold impl_sides
  have hlen := hp.1
  rw [if_pos ⟨rfl, by omega, by omega, by omega, by omega⟩, Int.toNat_natCast]
  refine Ret.bind (P := fun t => (∃ x, t = .inl x ∧ ¬ SidesP d l) ∨ (t = .inr ((List.range l.length).map (sideV d l)) ∧ SidesP d l)) ?_ fun t ht => ?_
  · unfold impl_sides_l1
    have z0 : ∀ n, fillN (sideV d l) (Ty.zero Timpl_Claim) n 0 = List.replicate n (([] : List Timpl_Seg.V), ([] : List Timpl_Seg.V), ()) := fun n => fillN_zero _ _ _
    refine fix_rule (fun m (x : Int × List Timpl_Claim.V) => ∃ k : Nat, k ≤ l.length ∧ m = l.length - k ∧ x = ((k : Int), fillN (sideV d l) (Ty.zero Timpl_Claim) l.length k) ∧ ∀ i, i < k → SideOk d l i) (fun m x hI => ?_) l.length _ ⟨0, Nat.zero_le _, rfl, by rw [z0]; rfl, fun i hi => by omega⟩
    obtain ⟨k, hk, rfl, rfl, h3⟩ := hI
    unfold impl_sides_l1_r impl_sides_l1_g mkr
    simp only
    rcases Nat.lt_or_ge k l.length with h | h
    · have hB := hl _ (getD_mem (z := Ty.zero Timpl_Literal) h)
      have hlit := hp.2 k h
      obtain ⟨ws, hw⟩ := termW_some hlit.2.2.1
      obtain ⟨ws', hw'⟩ := termW_some (show 0 ≤ termW d (lT l k) by rw [hlit.2.2.2]; exact hlit.2.2.1)
      have e1 : impl_flatten d (l.getD k (Ty.zero Timpl_Literal)).2.2.1 = some (flatF d (lS l k)) := implFlatten_ok hd hB.1 hw
      have e2 : impl_flatten d (l.getD k (Ty.zero Timpl_Literal)).2.2.2.1 = some (flatF d (lT l k)) := implFlatten_ok hd hB.2 hw'
      rw [dlt h, cond_true, if_pos (rng h), Int.toNat_natCast, e1, Option.bind_some, e2, Option.bind_some]
      cases hc : (!(flatF d (lS l k)).1 || !(flatF d (lT l k)).1) with
      | true =>
        refine Ret.mk (.inl ⟨_, rfl, fun h' => ?_⟩)
        have := or_not.2 (h' k h)
        rw [hc] at this; cases this
      | false =>
        rw [cond_false, fillN_len, if_pos (rng h), stepN h (by omega)]
        refine Ret.mk ⟨l.length - (k + 1), by omega, k + 1, h, rfl, ?_, fun i hi => ?_⟩
        · rw [← fillN_set]; rfl
        · rcases Nat.lt_or_ge i k with h' | h'
          · exact h3 i h'
          · rw [show i = k by omega]; exact or_not.1 hc
    · have : k = l.length := by omega
      subst this
      rw [dge, cond_false]
      refine Ret.mk (.inr ⟨?_, h3⟩)
      congr 1
      unfold fillN
      refine List.map_congr_left fun i hi => ?_
      rw [if_pos (List.mem_range.1 hi)]
  · rcases ht with ⟨x, rfl, h⟩ | ⟨rfl, h⟩
    · exact Ret.mk (.inr ⟨rfl, h⟩)
    · exact Ret.mk (.inl ⟨rfl, h, rfl⟩)
def GivenP (l : List Timpl_Literal.V) (id : Int) (i : Nat) : Prop := (li l i).1 = id ∧ (li l i).2.1 = true
def FirstG (l : List Timpl_Literal.V) (id g : Int) : Prop := (g = -1 ∧ ∀ i, i < l.length → ¬ GivenP l id i) ∨ ∃ k : Nat, g = (k : Int) ∧ k < l.length ∧ GivenP l id k ∧ ∀ i, i < k → ¬ GivenP l id i
theorem FirstG.unique {l : List Timpl_Literal.V} {id g h : Int} (hg : FirstG l id g) (hh : FirstG l id h) : g = h := by
  rcases hg with ⟨rfl, h1⟩ | ⟨k, rfl, hk, hp, hn⟩
  · rcases hh with ⟨rfl, _⟩ | ⟨k, rfl, hk, hp, _⟩
    · rfl
    · exact absurd hp (h1 k hk)
  · rcases hh with ⟨rfl, h1⟩ | ⟨j, rfl, hj, hq, hm⟩
    · exact absurd hp (h1 k hk)
    · rcases Nat.lt_trichotomy k j with h | h | h
      · exact absurd hp (hm k h)
      · rw [h]
      · exact absurd hq (hn j h)
theorem specGiven_ok {l : List Timpl_Literal.V} (hl : l.length ≤ 60) (id : Int) : Ret (spec_l14Given l id) fun g => FirstG l id g := by
  unfold spec_l14Given
  refine Ret.bind (P := fun t => match t with | .inl g => FirstG l id g | .inr _ => FirstG l id (-1)) ?_ fun t ht => ?_
  · unfold spec_l14Given_l1
    refine for_rule (fun j (_ : Unit) => (j : Int)) l.length (fun j _ => ∀ k, k < j → ¬ GivenP l id k) (fun j _ hj hJ => ?_) (fun _ hJ => ?_) (s0 := ()) (fun i h => by omega)
    · unfold spec_l14Given_l1_r spec_l14Given_l1_g spec_l14Given_l0
      rw [dlt hj, cond_true, if_pos (rng hj), Int.toNat_natCast]
      have e : ((l.getD j (Ty.zero Timpl_Literal)).1 == id) = decide ((li l j).1 = id) := beq_dec
      rw [e]
      by_cases h1 : (li l j).1 = id
      · rw [decide_eq_true h1, cond_true, if_pos (rng hj), Option.bind_some]
        cases h2 : (l.getD j (Ty.zero Timpl_Literal)).2.1 with
        | true => exact Ret.mk (.inr ⟨j, rfl, hj, ⟨h1, h2⟩, hJ⟩)
        | false =>
          rw [cond_false, stepN hj (by omega)]
          refine Ret.mk ⟨(), rfl, fun k hk => ?_⟩
          rcases Nat.lt_or_ge k j with h' | h'
          · exact hJ k h'
          · rw [show k = j by omega]; intro hg; have := hg.2; unfold li at this; rw [h2] at this; cases this
      · rw [decide_eq_false h1, cond_false, Option.bind_some, cond_false, stepN hj (by omega)]
        refine Ret.mk ⟨(), rfl, fun k hk => ?_⟩
        rcases Nat.lt_or_ge k j with h' | h'
        · exact hJ k h'
        · rw [show k = j by omega]; intro hg; exact h1 hg.1
    · unfold spec_l14Given_l1_r spec_l14Given_l1_g
      rw [dge, cond_false]
      exact Ret.mk (.inl ⟨rfl, hJ⟩)
  · cases t with
    | inl g => exact Ret.mk ht
    | inr _ => exact Ret.mk ht
theorem implGiven_ok {d : List Timpl_Decl.V} {l : List Timpl_Literal.V} {sd cs : List Timpl_Claim.V} (hl : l.length ≤ 60) (id : Int) : Ret (impl_prover_given (d, l, sd, cs, ()) id) fun g => FirstG l id g := by
  unfold impl_prover_given slices_IndexFunc_Literal
  refine Ret.bind (P := fun r => FirstG l id r.1) (Ret.bind (P := fun t => match t with | .inl g => FirstG l id g | .inr _ => FirstG l id (-1)) ?_ fun t ht => ?_) fun r hr => Ret.mk hr
  · unfold slices_IndexFunc_Literal_l0
    refine for_rule (fun j (_ : Unit) => (j : Int)) l.length (fun j _ => ∀ k, k < j → ¬ GivenP l id k) (fun j _ hj hJ => ?_) (fun _ hJ => ?_) (s0 := ()) (fun i h => by omega)
    · unfold slices_IndexFunc_Literal_l0_r slices_IndexFunc_Literal_l0_g
      simp only
      rw [dlt hj, cond_true, if_pos (rng hj), Int.toNat_natCast]
      unfold impl_prover_given_1
      have e : ((l.getD j (Ty.zero Timpl_Literal)).1 == id) = decide ((li l j).1 = id) := beq_dec
      rw [e]
      cases h : ((l.getD j (Ty.zero Timpl_Literal)).2.1 && decide ((li l j).1 = id)) with
      | true =>
        rw [Bool.and_eq_true, decide_eq_true_eq] at h
        exact Ret.mk (.inr ⟨j, rfl, hj, ⟨h.2, h.1⟩, hJ⟩)
      | false =>
        rw [cond_false, stepN hj (by omega)]
        refine Ret.mk ⟨(), rfl, fun k hk => ?_⟩
        rcases Nat.lt_or_ge k j with h' | h'
        · exact hJ k h'
        · rw [show k = j by omega]
          intro hg
          have h1 : (l.getD j (Ty.zero Timpl_Literal)).2.1 = true := hg.2
          rw [h1, decide_eq_true hg.1] at h; cases h
    · unfold slices_IndexFunc_Literal_l0_r slices_IndexFunc_Literal_l0_g
      simp only
      rw [dge, cond_false]
      exact Ret.mk (.inl ⟨rfl, hJ⟩)
  · cases t with
    | inl g => exact Ret.mk ht
    | inr _ => exact Ret.mk ht
theorem in_hit1 {a : ByteArray} {c : Int} (h0 : spec_l14In_l0_r a c 0 = some (.inr (.inl ()))) : spec_l14In a c = some true := by
  unfold spec_l14In spec_l14In_l0; rw [fix_done h0]; rfl
theorem in_hit2 {a : ByteArray} {c : Int} (h0 : spec_l14In_l0_r a c 0 = some (.inl 1)) (h1 : spec_l14In_l0_r a c 1 = some (.inr (.inl ()))) : spec_l14In a c = some true := by
  unfold spec_l14In spec_l14In_l0; rw [fix_more h0, fix_done h1]; rfl
theorem in_no1 {a : ByteArray} {c : Int} (h0 : spec_l14In_l0_r a c 0 = some (.inl 1)) (h1 : spec_l14In_l0_r a c 1 = some (.inr (.inr ()))) : spec_l14In a c = some false := by
  unfold spec_l14In spec_l14In_l0; rw [fix_more h0, fix_done h1]; rfl
theorem in_no2 {a : ByteArray} {c : Int} (h0 : spec_l14In_l0_r a c 0 = some (.inl 1)) (h1 : spec_l14In_l0_r a c 1 = some (.inl 2)) (h2 : spec_l14In_l0_r a c 2 = some (.inr (.inr ()))) : spec_l14In a c = some false := by
  unfold spec_l14In spec_l14In_l0; rw [fix_more h0, fix_more h1, fix_done h2]; rfl
theorem i_i : spec_l14In ⟨#[105]⟩ 105 = some true := in_hit1 (by kernel_rfl)
theorem i_j : spec_l14In ⟨#[105]⟩ 106 = some false := in_no1 (by kernel_rfl) (by kernel_rfl)
theorem i_p : spec_l14In ⟨#[105]⟩ 112 = some false := in_no1 (by kernel_rfl) (by kernel_rfl)
theorem i_t : spec_l14In ⟨#[105]⟩ 116 = some false := in_no1 (by kernel_rfl) (by kernel_rfl)
theorem t_i : spec_l14In ⟨#[116]⟩ 105 = some false := in_no1 (by kernel_rfl) (by kernel_rfl)
theorem t_j : spec_l14In ⟨#[116]⟩ 106 = some false := in_no1 (by kernel_rfl) (by kernel_rfl)
theorem t_p : spec_l14In ⟨#[116]⟩ 112 = some false := in_no1 (by kernel_rfl) (by kernel_rfl)
theorem t_t : spec_l14In ⟨#[116]⟩ 116 = some true := in_hit1 (by kernel_rfl)
theorem ij_i : spec_l14In ⟨#[105, 106]⟩ 105 = some true := in_hit1 (by kernel_rfl)
theorem ij_j : spec_l14In ⟨#[105, 106]⟩ 106 = some true := in_hit2 (by kernel_rfl) (by kernel_rfl)
theorem ij_p : spec_l14In ⟨#[105, 106]⟩ 112 = some false := in_no2 (by kernel_rfl) (by kernel_rfl) (by kernel_rfl)
theorem ij_t : spec_l14In ⟨#[105, 106]⟩ 116 = some false := in_no2 (by kernel_rfl) (by kernel_rfl) (by kernel_rfl)
theorem ip_i : spec_l14In ⟨#[105, 112]⟩ 105 = some true := in_hit1 (by kernel_rfl)
theorem ip_j : spec_l14In ⟨#[105, 112]⟩ 106 = some false := in_no2 (by kernel_rfl) (by kernel_rfl) (by kernel_rfl)
theorem ip_p : spec_l14In ⟨#[105, 112]⟩ 112 = some true := in_hit2 (by kernel_rfl) (by kernel_rfl)
theorem ip_t : spec_l14In ⟨#[105, 112]⟩ 116 = some false := in_no2 (by kernel_rfl) (by kernel_rfl) (by kernel_rfl)
theorem u1 : spec_l14Uses 1 = ⟨#[105]⟩ := by kernel_rfl
theorem u2 : spec_l14Uses 2 = ⟨#[116]⟩ := by kernel_rfl
theorem u3 : spec_l14Uses 3 = ⟨#[105]⟩ := by kernel_rfl
theorem u4 : spec_l14Uses 4 = ⟨#[105, 106]⟩ := by kernel_rfl
theorem u5 : spec_l14Uses 5 = ⟨#[105, 112]⟩ := by kernel_rfl
theorem u6 : spec_l14Uses 6 = ⟨#[105, 106]⟩ := by kernel_rfl
theorem n1 : strEq ⟨#[105]⟩ ⟨#[]⟩ = false := by kernel_rfl
theorem n2 : strEq ⟨#[116]⟩ ⟨#[]⟩ = false := by kernel_rfl
theorem n3 : strEq ⟨#[105, 106]⟩ ⟨#[]⟩ = false := by kernel_rfl
theorem n4 : strEq ⟨#[105, 112]⟩ ⟨#[]⟩ = false := by kernel_rfl
theorem bne_not {a b : Int} : (a != b) = !(a == b) := rfl
theorem n5 : strEq ⟨#[]⟩ ⟨#[]⟩ = true := by kernel_rfl
theorem fields_ok' (r i j hi lo : Int) (nodes : List Timpl_TNode.V) : spec_l14Fields (r, i, j, hi, lo, (nodes, ()), ()) = some (impl_PStep_fits (r, i, j, hi, lo, (nodes, ()), ())) := by
  unfold spec_l14Fields impl_PStep_fits
  simp only
  by_cases hr : 1 ≤ r ∧ r ≤ 6
  · have : r = 1 ∨ r = 2 ∨ r = 3 ∨ r = 4 ∨ r = 5 ∨ r = 6 := by omega
    rcases this with rfl | rfl | rfl | rfl | rfl | rfl
    · rw [u1, n1, i_i, i_j, i_p, i_t]
      simp only [Option.bind_some, Bool.not_false, cond_true, cond_false, bne_not]
      cases j == 0 <;> cases hi == 0 <;> cases lo == 0 <;> rfl
    · rw [u2, n2, t_i, t_j, t_p, t_t]
      simp only [Option.bind_some, Bool.not_false, cond_true, cond_false, bne_not]
      cases i == 0 <;> cases j == 0 <;> cases hi == 0 <;> cases lo == 0 <;> rfl
    · rw [u3, n1, i_i, i_j, i_p, i_t]
      simp only [Option.bind_some, Bool.not_false, cond_true, cond_false, bne_not]
      cases j == 0 <;> cases hi == 0 <;> cases lo == 0 <;> rfl
    · rw [u4, n3, ij_i, ij_j, ij_p, ij_t]
      simp only [Option.bind_some, Bool.not_false, cond_true, cond_false, bne_not]
      cases j == 0 <;> cases hi == 0 <;> cases lo == 0 <;> rfl
    · rw [u5, n4, ip_i, ip_j, ip_p, ip_t]
      simp only [Option.bind_some, Bool.not_false, cond_true, cond_false, bne_not]
      cases j == 0 <;> cases hi == 0 <;> cases lo == 0 <;> rfl
    · rw [u6, n3, ij_i, ij_j, ij_p, ij_t]
      simp only [Option.bind_some, Bool.not_false, cond_true, cond_false, bne_not]
      cases j == 0 <;> cases hi == 0 <;> cases lo == 0 <;> rfl
  · have hu : spec_l14Uses r = ⟨#[]⟩ := by
      have e : ∀ x : Int, (r == x) = decide (r = x) := fun x => beq_dec
      unfold spec_l14Uses
      rw [e, e, e, e, e, e, decide_eq_false (by omega : ¬ r = 1), decide_eq_false (by omega : ¬ r = 3), decide_eq_false (by omega : ¬ r = 2), decide_eq_false (by omega : ¬ r = 4), decide_eq_false (by omega : ¬ r = 6), decide_eq_false (by omega : ¬ r = 5)]
      rfl
    rw [hu, n5, inside_ok, decide_eq_false hr]
    rfl
theorem fields_ok (s : Timpl_PStep.V) : spec_l14Fields s = some (impl_PStep_fits s) := fields_ok' s.1 s.2.1 s.2.2.1 s.2.2.2.1 s.2.2.2.2.1 s.2.2.2.2.2.1.1
end Go.Proofs.X
namespace Go.Proofs.X
open Go Go.Va
set_option maxRecDepth 100000
def ClaimP (d : List Timpl_Decl.V) (c : Timpl_Claim.V) : Prop := ∃ A B, FormB d A ∧ FormB d B ∧ c = (fN A, fN B, ())
theorem claim_get {d : List Timpl_Decl.V} {cs : List Timpl_Claim.V} (h : ∀ c ∈ cs, ClaimP d c) {i : Int} (h0 : 0 ≤ i) (h1 : i < (cs.length : Int)) : ∃ A B, FormB d A ∧ FormB d B ∧ cs.getD i.toNat (Ty.zero Timpl_Claim) = (fN A, fN B, ()) :=
  h _ (getD_mem (by omega))
theorem implFormOf_ok {d : List Timpl_Decl.V} {t : List Timpl_TNode.V} (hd : DeclsP d) (ht : TermB t) : impl_formOf d (t, ()) = some (flatF d t) := by
  unfold impl_formOf
  have hd60 := hd.1
  rw [implWidthOf_ok ht (by omega), Option.bind_some]
  by_cases hw : ∃ ws, TermP d t ws
  · obtain ⟨ws, h⟩ := hw
    have hp := termW_pos h
    rw [decide_eq_false (by omega), cond_false, implFlatten_ok hd ht h]
    rfl
  · rw [termW_none hw, decide_eq_true (by omega), cond_true]
    unfold flatF
    rw [if_neg (fun h => hw h.1)]
theorem small_nil : Small ([] : List Timpl_Seg.V) := ⟨by simp, fun s hs => by cases hs⟩
theorem flatF_no {d : List Timpl_Decl.V} {t : List Timpl_TNode.V} (h : (flatF d t).1 = false) : (flatF d t).2 = [] := by
  unfold flatF at h ⊢
  split at h
  · cases h
  · rename_i hc; rw [if_neg hc]
theorem ahead_ok {d : List Timpl_Decl.V} {l : List Timpl_Literal.V} {sd cs : List Timpl_Claim.V} (hlen : cs.length ≤ 200) (i : Int) : impl_prover_ahead (d, l, sd, cs, ()) i = decide (0 ≤ i ∧ i < (cs.length : Int)) := by
  unfold impl_prover_ahead
  show impl_inside i 0 (IntKind.i64.wrap ((cs.length : Int) - 1)) = _
  rw [inside_ok, wrapI (by omega) (by omega), decide_eq_decide]; omega
theorem within_ok {cs : List Timpl_Claim.V} (hlen : cs.length ≤ 200) (i : Int) : spec_l1In i 0 (IntKind.i64.wrap ((cs.length : Int) - 1)) = decide (0 ≤ i ∧ i < (cs.length : Int)) := by
  rw [l1In_ok, wrapI (by omega) (by omega), decide_eq_decide]; omega
def StepR (d : List Timpl_Decl.V) (x : Option (Int × List Timpl_Seg.V × List Timpl_Seg.V)) (y : Option (Timpl_Claim.V × Int)) : Prop :=
  (∃ code L R c, code ≠ 0 ∧ x = some (code, L, R) ∧ y = some (c, code)) ∨ ∃ A B, FormB d A ∧ FormB d B ∧ x = some (0, fN A, fN B) ∧ y = some ((fN A, fN B, ()), 0)
section
variable {d : List Timpl_Decl.V} {l : List Timpl_Literal.V} {sd cs : List Timpl_Claim.V}
theorem step_given (hd : DeclsP d) (hl : ∀ x ∈ l, LitB x) (hp : LitsP d l) (hs : SidesP d l) (hsd : sd = (List.range l.length).map (sideV d l)) {i j hi lo : Int} {nodes : List Timpl_TNode.V} (hf : impl_PStep_fits (1, i, j, hi, lo, (nodes, ()), ()) = true) :
    StepR d (spec_l14Step d l cs (1, i, j, hi, lo, (nodes, ()), ())) (impl_prover_claim (d, l, sd, cs, ()) (1, i, j, hi, lo, (nodes, ()), ())) := by
  have hlen := hp.1
  obtain ⟨g, hg, hq⟩ := specGiven_ok hlen i
  obtain ⟨g', hg', hq'⟩ := implGiven_ok (d := d) (sd := sd) (cs := cs) hlen i
  have := hq'.unique hq
  subst this
  unfold spec_l14Step impl_prover_claim
  rw [fields_ok, hf, Option.bind_some]
  have hstep : impl_prover_stepsOk (d, l, sd, cs, ()) (1, i, j, hi, lo, (nodes, ()), ()) = some (decide (g' ≥ 0)) := by
    unfold impl_prover_stepsOk
    rw [show (((1, i, j, hi, lo, (nodes, ()), ()) : Timpl_PStep.V).1 == (1 : Int)) = true from rfl, cond_true]
    rw [hg', Option.bind_some]
  rw [hstep, Option.bind_some]
  simp only [Bool.not_true, cond_false, Int.reduceBEq, cond_true]
  rw [hg, hg', Option.bind_some, Option.bind_some]
  rcases hq with ⟨rfl, _⟩ | ⟨k, rfl, hk, _, _⟩
  · exact .inl ⟨3, [], [], ([], [], ()), by decide, rfl, rfl⟩
  · rw [decide_eq_false (show ¬ (k : Int) < 0 by omega), decide_eq_true (show (k : Int) ≥ 0 by omega)]
    simp only [Bool.not_true, cond_false]
    have hB := hl _ (getD_mem (z := Ty.zero Timpl_Literal) hk)
    have e1 : spec_Flatten d (l.getD k (Ty.zero Timpl_Literal)).2.2.1 = some (flatF d (lS l k)) := specFlatten_ok hd hB.1
    have e2 : spec_Flatten d (l.getD k (Ty.zero Timpl_Literal)).2.2.2.1 = some (flatF d (lT l k)) := specFlatten_ok hd hB.2
    have hso := hs k hk
    obtain ⟨f1, q1⟩ := flatF_form hd hB.1 hso.1
    obtain ⟨f2, q2⟩ := flatF_form hd hB.2 hso.2
    have hsl : sd.length = l.length := by rw [hsd]; simp
    have hsg : sd.getD k (Ty.zero Timpl_Claim) = sideV d l k := by rw [hsd]; simp [List.getD, hk]
    rw [if_pos (rng hk), Int.toNat_natCast, e1, Option.bind_some, if_pos (rng hk), e2, Option.bind_some, hsl, if_pos (rng hk), hsg]
    refine .inr ⟨_, _, f1, f2, ?_, ?_⟩
    · rw [← q1, ← q2]; rfl
    · rw [← q1, ← q2]; rfl
theorem step_term (hd : DeclsP d) (hlen : cs.length ≤ 200) {i j hi lo : Int} {nodes : List Timpl_TNode.V} (ht : TermB nodes) (hf : impl_PStep_fits (2, i, j, hi, lo, (nodes, ()), ()) = true) :
    StepR d (spec_l14Step d l cs (2, i, j, hi, lo, (nodes, ()), ())) (impl_prover_claim (d, l, sd, cs, ()) (2, i, j, hi, lo, (nodes, ()), ())) := by
  unfold spec_l14Step impl_prover_claim spec_l14Step_l0 spec_l14Step_l5 mkr
  rw [fields_ok, hf, Option.bind_some]
  have hstep : impl_prover_stepsOk (d, l, sd, cs, ()) (2, i, j, hi, lo, (nodes, ()), ()) = some true := by
    unfold impl_prover_stepsOk mkr
    simp only [Int.reduceBEq, cond_true, cond_false]
  rw [hstep, Option.bind_some]
  simp only [Bool.not_true, cond_false, Int.reduceBEq, cond_true]
  rw [u2, t_i, t_j]
  simp only [Option.bind_some, cond_false]
  rw [specFlatten_ok hd ht, implFormOf_ok hd ht, Option.bind_some, Option.bind_some]
  cases hc : (flatF d nodes).1 with
  | false =>
    rw [flatF_no hc, copyForm_ok small_nil, Option.bind_some, Bool.not_false, cond_true, cond_true, Option.bind_some]
    exact .inl ⟨4, _, _, _, by decide, rfl, rfl⟩
  | true =>
    obtain ⟨f1, q1⟩ := flatF_form hd ht hc
    rw [q1, copyForm_ok (small_fN f1.1), Option.bind_some, Bool.not_true, cond_false, cond_false, Option.bind_some]
    exact .inr ⟨_, _, f1, f1, rfl, rfl⟩
theorem step_turn (hcs : ∀ c ∈ cs, ClaimP d c) (hlen : cs.length ≤ 200) {i j hi lo : Int} {nodes : List Timpl_TNode.V} (hf : impl_PStep_fits (3, i, j, hi, lo, (nodes, ()), ()) = true) :
    StepR d (spec_l14Step d l cs (3, i, j, hi, lo, (nodes, ()), ())) (impl_prover_claim (d, l, sd, cs, ()) (3, i, j, hi, lo, (nodes, ()), ())) := by
  unfold spec_l14Step impl_prover_claim spec_l14Step_l0 spec_l14Step_l5 mkr
  rw [fields_ok, hf, Option.bind_some]
  have hstep : impl_prover_stepsOk (d, l, sd, cs, ()) (3, i, j, hi, lo, (nodes, ()), ()) = some (decide (0 ≤ i ∧ i < (cs.length : Int))) := by
    unfold impl_prover_stepsOk mkr
    simp only [Int.reduceBEq, cond_false]
    rw [ahead_ok hlen]
  rw [hstep, Option.bind_some]
  simp only [Bool.not_true, cond_false, Int.reduceBEq, cond_true]
  rw [u3, i_i, i_j, within_ok hlen]
  simp only [Option.bind_some, cond_true, cond_false]
  by_cases h : 0 ≤ i ∧ i < (cs.length : Int)
  · rw [decide_eq_true h]
    simp only [Bool.not_true, cond_false, Option.bind_some]
    obtain ⟨A, B, fa, fb, e⟩ := claim_get hcs h.1 h.2
    simp only [if_pos h, e]
    rw [copyForm_ok (small_fN fb.1), Option.bind_some, copyForm_ok (small_fN fa.1)]
    simp only [Option.bind_some, Sum.elim_inr, Sum.elim_inl, Bool.not_true, Bool.or_self, cond_false]
    exact .inr ⟨_, _, fb, fa, rfl, rfl⟩
  · rw [decide_eq_false h]
    simp only [Bool.not_false, cond_true, Option.bind_some]
    exact .inl ⟨3, _, _, _, by decide, rfl, rfl⟩
theorem step_chain (hcs : ∀ c ∈ cs, ClaimP d c) (hlen : cs.length ≤ 200) {i j hi lo : Int} {nodes : List Timpl_TNode.V} (hf : impl_PStep_fits (4, i, j, hi, lo, (nodes, ()), ()) = true) :
    StepR d (spec_l14Step d l cs (4, i, j, hi, lo, (nodes, ()), ())) (impl_prover_claim (d, l, sd, cs, ()) (4, i, j, hi, lo, (nodes, ()), ())) := by
  unfold spec_l14Step impl_prover_claim spec_l14Step_l0 spec_l14Step_l5 mkr
  rw [fields_ok, hf, Option.bind_some]
  have hstep : impl_prover_stepsOk (d, l, sd, cs, ()) (4, i, j, hi, lo, (nodes, ()), ()) = some (bif decide (0 ≤ i ∧ i < (cs.length : Int)) then decide (0 ≤ j ∧ j < (cs.length : Int)) else false) := by
    unfold impl_prover_stepsOk mkr
    simp only [Int.reduceBEq, cond_false, cond_true]
    rw [ahead_ok hlen, ahead_ok hlen]
    cases decide (0 ≤ i ∧ i < (cs.length : Int)) <;> rfl
  rw [hstep, Option.bind_some]
  simp only [Bool.not_true, cond_false, Int.reduceBEq, cond_true]
  rw [u4, ij_i, ij_j, within_ok hlen, within_ok hlen]
  simp only [Option.bind_some, cond_true]
  by_cases h : 0 ≤ i ∧ i < (cs.length : Int)
  · rw [decide_eq_true h]
    simp only [Bool.not_true, cond_false, Option.bind_some, cond_true]
    by_cases h' : 0 ≤ j ∧ j < (cs.length : Int)
    · rw [decide_eq_true h']
      simp only [Bool.not_true, cond_false, Option.bind_some]
      obtain ⟨A, B, fa, fb, e⟩ := claim_get hcs h.1 h.2
      obtain ⟨A', B', fa', fb', e'⟩ := claim_get hcs h'.1 h'.2
      simp only [if_pos h, if_pos h', e, e']
      obtain ⟨r, hr, hq⟩ := sameForm_ok (small_fN fb.1) (fN A')
      obtain ⟨r', hr', hq'⟩ := sameFlat_ok (small_fN fb.1) (fN A')
      have : r = r' := iff_bool hq hq'
      subst this
      rw [hr, hr', Option.bind_some, Option.bind_some]
      cases r with
      | false =>
        simp only [Bool.not_false, cond_true, Option.bind_some, Sum.elim_inr]
        exact .inl ⟨5, _, _, _, by decide, rfl, rfl⟩
      | true =>
        rw [Bool.not_true, cond_false, cond_false, copyForm_ok (small_fN fa.1), Option.bind_some, copyForm_ok (small_fN fb'.1)]
        simp only [Option.bind_some, Sum.elim_inr, Sum.elim_inl, Bool.not_true, Bool.or_self, cond_false]
        exact .inr ⟨_, _, fa, fb', rfl, rfl⟩
    · rw [decide_eq_false h']
      simp only [Bool.not_false, cond_true, Option.bind_some]
      exact .inl ⟨3, _, _, _, by decide, rfl, rfl⟩
  · rw [decide_eq_false h]
    simp only [Bool.not_false, cond_true, Option.bind_some, cond_false]
    exact .inl ⟨3, _, _, _, by decide, rfl, rfl⟩
theorem step_part (hd : DeclsP d) (hcs : ∀ c ∈ cs, ClaimP d c) (hlen : cs.length ≤ 200) {i j hi lo : Int} {nodes : List Timpl_TNode.V} (hf : impl_PStep_fits (5, i, j, hi, lo, (nodes, ()), ()) = true) :
    StepR d (spec_l14Step d l cs (5, i, j, hi, lo, (nodes, ()), ())) (impl_prover_claim (d, l, sd, cs, ()) (5, i, j, hi, lo, (nodes, ()), ())) := by
  unfold spec_l14Step impl_prover_claim spec_l14Step_l0 spec_l14Step_l5 spec_l14Step_l1 spec_l14Step_l2 mkr
  rw [fields_ok, hf, Option.bind_some]
  have hstep : impl_prover_stepsOk (d, l, sd, cs, ()) (5, i, j, hi, lo, (nodes, ()), ()) = some (decide (0 ≤ i ∧ i < (cs.length : Int))) := by
    unfold impl_prover_stepsOk mkr
    simp only [Int.reduceBEq, cond_false]
    rw [ahead_ok hlen]
  rw [hstep, Option.bind_some]
  simp only [Bool.not_true, cond_false, Int.reduceBEq, cond_true]
  rw [u5, ip_i, ip_j, within_ok hlen]
  simp only [Option.bind_some, cond_true, cond_false]
  by_cases h : 0 ≤ i ∧ i < (cs.length : Int)
  · rw [decide_eq_true h]
    simp only [Bool.not_true, cond_false, Option.bind_some]
    obtain ⟨A, B, fa, fb, e⟩ := claim_get hcs h.1 h.2
    simp only [if_pos h, e]
    rw [specPart_ok hd fa, implPart_ok hd fa, Option.bind_some, Option.bind_some, Option.bind_some, specPart_ok hd fb, implPart_ok hd fb]
    simp only [Option.bind_some, Sum.elim_inr, Sum.elim_inl]
    by_cases ha : CutP A hi lo
    · by_cases hb : CutP B hi lo
      · rw [if_pos ha, if_pos hb]
        exact .inr ⟨_, _, cut_form fa ha, cut_form fb hb, rfl, rfl⟩
      · rw [if_pos ha, if_neg hb]
        exact .inl ⟨6, _, _, _, by decide, rfl, rfl⟩
    · rw [if_neg ha]
      exact .inl ⟨6, _, _, _, by decide, rfl, rfl⟩
  · rw [decide_eq_false h]
    simp only [Bool.not_false, cond_true, Option.bind_some]
    exact .inl ⟨3, _, _, _, by decide, rfl, rfl⟩
theorem step_glue (hd : DeclsP d) (hcs : ∀ c ∈ cs, ClaimP d c) (hlen : cs.length ≤ 200) {i j hi lo : Int} {nodes : List Timpl_TNode.V} (hf : impl_PStep_fits (6, i, j, hi, lo, (nodes, ()), ()) = true) :
    StepR d (spec_l14Step d l cs (6, i, j, hi, lo, (nodes, ()), ())) (impl_prover_claim (d, l, sd, cs, ()) (6, i, j, hi, lo, (nodes, ()), ())) := by
  unfold spec_l14Step impl_prover_claim spec_l14Step_l0 spec_l14Step_l5 spec_l14Step_l3 spec_l14Step_l4 mkr
  rw [fields_ok, hf, Option.bind_some]
  have hstep : impl_prover_stepsOk (d, l, sd, cs, ()) (6, i, j, hi, lo, (nodes, ()), ()) = some (bif decide (0 ≤ i ∧ i < (cs.length : Int)) then decide (0 ≤ j ∧ j < (cs.length : Int)) else false) := by
    unfold impl_prover_stepsOk mkr
    simp only [Int.reduceBEq, cond_false, cond_true]
    rw [ahead_ok hlen, ahead_ok hlen]
    cases decide (0 ≤ i ∧ i < (cs.length : Int)) <;> rfl
  rw [hstep, Option.bind_some]
  simp only [Bool.not_true, cond_false, Int.reduceBEq, cond_true]
  rw [u6, ij_i, ij_j, within_ok hlen, within_ok hlen]
  simp only [Option.bind_some, cond_true]
  by_cases h : 0 ≤ i ∧ i < (cs.length : Int)
  · rw [decide_eq_true h]
    simp only [Bool.not_true, cond_false, Option.bind_some, cond_true]
    by_cases h' : 0 ≤ j ∧ j < (cs.length : Int)
    · rw [decide_eq_true h']
      simp only [Bool.not_true, cond_false, Option.bind_some]
      obtain ⟨A, B, fa, fb, e⟩ := claim_get hcs h.1 h.2
      obtain ⟨A', B', fa', fb', e'⟩ := claim_get hcs h'.1 h'.2
      simp only [if_pos h, if_pos h', e, e']
      rw [specJoin_ok hd fa fa', implJoin_ok hd fa fa', Option.bind_some, Option.bind_some, Option.bind_some, specJoin_ok hd fb fb', implJoin_ok hd fb fb']
      simp only [Option.bind_some, Sum.elim_inr, Sum.elim_inl]
      by_cases ha : JoinP A A'
      · by_cases hb : JoinP B B'
        · rw [if_pos ha, if_pos hb, if_pos ha, if_pos hb]
          exact .inr ⟨_, _, join_form fa fa' ha, join_form fb fb' hb, rfl, rfl⟩
        · rw [if_pos ha, if_neg hb, if_pos ha, if_neg hb]
          exact .inl ⟨6, _, _, _, by decide, rfl, rfl⟩
      · rw [if_neg ha, if_neg ha]
        exact .inl ⟨6, _, _, _, by decide, rfl, rfl⟩
    · rw [decide_eq_false h']
      simp only [Bool.not_false, cond_true, Option.bind_some]
      exact .inl ⟨3, _, _, _, by decide, rfl, rfl⟩
  · rw [decide_eq_false h]
    simp only [Bool.not_false, cond_true, Option.bind_some, cond_false]
    exact .inl ⟨3, _, _, _, by decide, rfl, rfl⟩
theorem fits_rule {r i j hi lo : Int} {nodes : List Timpl_TNode.V} (h : impl_PStep_fits (r, i, j, hi, lo, (nodes, ()), ()) = true) : r = 1 ∨ r = 2 ∨ r = 3 ∨ r = 4 ∨ r = 5 ∨ r = 6 := by
  by_cases hr : 1 ≤ r ∧ r ≤ 6
  · omega
  · unfold impl_PStep_fits at h
    rw [inside_ok, decide_eq_false hr] at h
    cases h
theorem step_ok (hd : DeclsP d) (hl : ∀ x ∈ l, LitB x) (hp : LitsP d l) (hs : SidesP d l) (hsd : sd = (List.range l.length).map (sideV d l)) (hcs : ∀ c ∈ cs, ClaimP d c) (hlen : cs.length ≤ 200) (s : Timpl_PStep.V) (ht : TermB s.2.2.2.2.2.1.1) :
    StepR d (spec_l14Step d l cs s) (impl_prover_claim (d, l, sd, cs, ()) s) := by
  obtain ⟨r, i, j, hi, lo, ⟨nodes, _⟩, _⟩ := s
  cases hf : impl_PStep_fits (r, i, j, hi, lo, (nodes, ()), ()) with
  | false =>
    refine .inl ⟨2, [], [], ([], [], ()), by decide, ?_, ?_⟩
    · unfold spec_l14Step
      rw [fields_ok, show impl_PStep_fits (r, i, j, hi, lo, (nodes, ()), ()) = false from hf]; rfl
    · unfold impl_prover_claim
      rw [show impl_PStep_fits (r, i, j, hi, lo, (nodes, ()), ()) = false from hf]; rfl
  | true =>
    rcases fits_rule hf with rfl | rfl | rfl | rfl | rfl | rfl
    · exact step_given hd hl hp hs hsd hf
    · exact step_term hd hlen ht hf
    · exact step_turn hcs hlen hf
    · exact step_chain hcs hlen hf
    · exact step_part hd hcs hlen hf
    · exact step_glue hd hcs hlen hf
end
theorem conclude_ok {d : List Timpl_Decl.V} {l : List Timpl_Literal.V} {ps : List Timpl_PStep.V} (hl : ∀ x ∈ l, LitB x) (hps : ps.length ≤ 1048576) (ht : ∀ s ∈ ps, TermB s.2.2.2.2.2.1.1) : ∃ r, spec_Conclude d l ps = some r ∧ impl_Conclude d l ps = some r ∧ (∀ c ∈ r.2.2, ClaimP d c) ∧ (r.2.2 = [] ∨ (DeclsP d ∧ r.2.2.length ≤ 1048576)) := by
  obtain ⟨a, ha, qa⟩ := specLits_ok (d := d) hl
  obtain ⟨b, hb, qb⟩ := implLits_ok (d := d) hl
  have : a = b := iff_bool qa qb
  subst this
  unfold spec_Conclude impl_Conclude spec_Conclude_l0 impl_Conclude_l0 impl_flatLiterals
  rw [ha, hb, Option.bind_some, Option.bind_some]
  cases a with
  | false =>
    simp only [Bool.not_false, cond_true, Option.bind_some]
    exact ⟨_, rfl, rfl, fun c hc => (by cases hc), .inl rfl⟩
  | true =>
    obtain ⟨hd, hp⟩ := qa.1 rfl
    have hlen := hp.1
    obtain ⟨x, hx, qx⟩ := specSides_ok hd hl hlen
    obtain ⟨y, hy, qy⟩ := implSides_ok hd hl hp
    rw [hx, hy]
    simp only [Bool.not_true, cond_false, Option.bind_some]
    by_cases hn : ps.length ≤ 200
    · rw [decide_eq_false (show ¬ (ps.length : Int) > 200 by omega), cond_false]
      rcases qy with ⟨y1, hs, y2⟩ | ⟨y1, hs⟩
      · rw [qx.2 hs, y1, y2]
        simp only [Bool.not_true, cond_false, Option.bind_some]
        have key : ∃ r, spec_Conclude_l1 d l ps 0 [] = some r ∧ impl_Conclude_l3 ps d l (ps.length : Int) ((List.range l.length).map (sideV d l)) 0 [] = some r ∧ match r with | .inl _ => True | .inr cs => (∀ c ∈ cs, ClaimP d c) ∧ cs.length = ps.length := by
          unfold spec_Conclude_l1 impl_Conclude_l3
          have : ∀ (m k : Nat) (cs : List Timpl_Claim.V), m = ps.length - k → k ≤ ps.length → cs.length = k → (∀ c ∈ cs, ClaimP d c) → ∃ r, fix (spec_Conclude_l1_r d l ps) ((k : Int), cs) = some r ∧ fix (impl_Conclude_l3_r ps d l (ps.length : Int) ((List.range l.length).map (sideV d l))) ((k : Int), cs) = some r ∧ match r with | .inl _ => True | .inr cs => (∀ c ∈ cs, ClaimP d c) ∧ cs.length = ps.length := by
            intro m
            induction m with
            | zero =>
              intro k cs hm hk hc hcs
              have : k = ps.length := by omega
              refine ⟨.inr cs, fix_done ?_, fix_done ?_, hcs, by omega⟩
              · unfold spec_Conclude_l1_r spec_Conclude_l1_g
                simp only
                rw [this, dge, cond_false]
              · unfold impl_Conclude_l3_r impl_Conclude_l3_g
                simp only
                rw [this, dge, cond_false]
            | succ m ih =>
              intro k cs hm hk hc hcs
              have hlt : k < ps.length := by omega
              have hst := step_ok (cs := cs) hd hl hp hs rfl hcs (by omega) (ps.getD k (Ty.zero Timpl_PStep)) (ht _ (getD_mem hlt))
              rcases hst with ⟨code, L, R, c, h0, h1, h2⟩ | ⟨A, B, fa, fb, h1, h2⟩
              · refine ⟨.inl (code, (k : Int), cs), fix_done ?_, fix_done ?_, trivial⟩
                · unfold spec_Conclude_l1_r spec_Conclude_l1_g
                  simp only
                  rw [dlt hlt, cond_true, if_pos (rng hlt), Int.toNat_natCast, h1, Option.bind_some]
                  simp only
                  rw [bne_iff_ne.2 h0, cond_true]
                · unfold impl_Conclude_l3_r impl_Conclude_l3_g
                  simp only
                  rw [dlt hlt, cond_true, if_pos (rng hlt), Int.toNat_natCast, h2, Option.bind_some]
                  simp only
                  rw [bne_iff_ne.2 h0, cond_true]
              · obtain ⟨r, r1, r2, r3⟩ := ih (k + 1) (cs ++ [(fN A, fN B, ())]) (by omega) hlt (by simp [hc]) (fun c hc' => by
                  rcases List.mem_append.1 hc' with hc' | hc'
                  · exact hcs c hc'
                  · rw [List.mem_singleton] at hc'; exact ⟨A, B, fa, fb, hc'⟩)
                refine ⟨r, (fix_more ?_).trans r1, (fix_more ?_).trans r2, r3⟩
                · unfold spec_Conclude_l1_r spec_Conclude_l1_g
                  simp only
                  rw [dlt hlt, cond_true, if_pos (rng hlt), Int.toNat_natCast, h1, Option.bind_some]
                  simp only [Int.reduceBNe, cond_false]
                  rw [if_pos (by show (cs.length + 1) * 48 ≤ _; omega), stepN hlt (by omega)]
                · unfold impl_Conclude_l3_r impl_Conclude_l3_g impl_Conclude_l2
                  simp only
                  rw [dlt hlt, cond_true, if_pos (rng hlt), Int.toNat_natCast, h2, Option.bind_some]
                  simp only [Int.reduceBNe, cond_false]
                  rw [cloneFlat_ok (small_fN fa.1), Option.bind_some, cloneFlat_ok (small_fN fb.1), Option.bind_some, if_pos (by show (cs.length + 1) * 48 ≤ _; omega), Option.bind_some, stepN hlt (by omega)]
          exact this ps.length 0 [] (by omega) (Nat.zero_le _) rfl (fun c hc => by cases hc)
        obtain ⟨r, r1, r2, r3⟩ := key
        rw [r1, r2, Option.bind_some]
        cases r with
        | inl e => exact ⟨_, rfl, rfl, fun c hc => (by cases hc), .inl rfl⟩
        | inr cs => exact ⟨_, rfl, rfl, r3.1, .inr ⟨hd, by show cs.length ≤ _; omega⟩⟩
      · have hx1 : x.1 = false := by
          cases h : x.1 with
          | true => exact absurd (qx.1 h) hs
          | false => rfl
        rw [y1, hx1]
        simp only [Bool.not_false, cond_true, Option.bind_some]
        exact ⟨_, rfl, rfl, fun c hc => (by cases hc), .inl rfl⟩
    · rw [decide_eq_true (show (ps.length : Int) > 200 by omega), cond_true]
      rcases qy with ⟨y1, hs, y2⟩ | ⟨y1, hs⟩
      · rw [y1]
        simp only [Bool.not_true, cond_true, cond_false, Option.bind_some]
        exact ⟨_, rfl, rfl, fun c hc => (by cases hc), .inl rfl⟩
      · rw [y1]
        simp only [Bool.not_false, cond_true, Option.bind_some]
        exact ⟨_, rfl, rfl, fun c hc => (by cases hc), .inl rfl⟩
end Go.Proofs.X
