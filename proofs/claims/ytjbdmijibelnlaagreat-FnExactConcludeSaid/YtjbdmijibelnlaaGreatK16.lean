import Derived.Test.YtjbdmijibelnlaaGreatK15
set_option linter.unusedVariables false
set_option linter.unusedSimpArgs false
namespace Go.Proofs.X
open Go Go.Va
set_option maxRecDepth 100000
def nd (t : List Timpl_TNode.V) (i : Nat) : Timpl_TNode.V := t.getD i (Ty.zero Timpl_TNode)
def Pre (d : List Timpl_Decl.V) (t : List Timpl_TNode.V) (ws : List Int) : Prop := ws.length ≤ t.length ∧ ∀ j, j < ws.length → NodeP d (ws.take j) (nd t j) (ws.getD j 0)
def UsedBy (t : List Timpl_TNode.V) (k i : Nat) : Prop := ∃ j, j < i ∧ (k : Int) ∈ nKids (nd t j)
def TermP (d : List Timpl_Decl.V) (t : List Timpl_TNode.V) (ws : List Int) : Prop := 1 ≤ t.length ∧ t.length ≤ 400 ∧ ws.length = t.length ∧ Pre d t ws ∧ ∀ k, k + 1 < t.length → UsedBy t k t.length
def TermB (t : List Timpl_TNode.V) : Prop := t.length ≤ 1048576 ∧ ∀ n ∈ t, NodeB n
theorem Pre.take {d : List Timpl_Decl.V} {t : List Timpl_TNode.V} {ws : List Int} (h : Pre d t ws) (i : Nat) : Pre d t (ws.take i) := by
  have hl := h.1
  refine ⟨by rw [List.length_take]; omega, fun j hj => ?_⟩
  rw [List.length_take] at hj
  have := h.2 j (by omega)
  rwa [List.take_take, Nat.min_eq_left (by omega), show (ws.take i).getD j 0 = ws.getD j 0 by simp [List.getD, show j < i by omega]]
theorem Pre.unique {d : List Timpl_Decl.V} {t : List Timpl_TNode.V} {a b : List Int} (ha : Pre d t a) (hb : Pre d t b) (hl : a.length = b.length) : a = b := by
  have : ∀ k, k ≤ a.length → a.take k = b.take k := by
    intro k
    induction k with
    | zero => simp
    | succ k ih =>
      intro hk
      have e := ih (by omega)
      have h1 := ha.2 k (by omega)
      have h2 := hb.2 k (by omega)
      rw [take_succ_getD (show k < a.length by omega) (z := 0), take_succ_getD (show k < b.length by omega) (z := 0), e]
      rw [e] at h1
      rw [h1.2.2.2.1, h2.2.2.2.1]
  have := this a.length (Nat.le_refl _)
  rwa [List.take_of_length_le (Nat.le_refl _), List.take_of_length_le (by omega)] at this
theorem Pre.wide {d : List Timpl_Decl.V} {t : List Timpl_TNode.V} {ws : List Int} (h : Pre d t ws) (hl : t.length ≤ 1048576) : WideB ws := by
  refine ⟨Nat.le_trans h.1 hl, fun w hw => ?_⟩
  obtain ⟨j, hj, rfl⟩ := List.getElem_of_mem hw
  have := (h.2 j hj).2.2.2.2
  rwa [show ws.getD j 0 = ws[j] by simp [List.getD, hj]] at this
theorem Pre.snoc {d : List Timpl_Decl.V} {t : List Timpl_TNode.V} {ws : List Int} {w : Int} (h : Pre d t ws) (hl : ws.length < t.length) (hn : NodeP d ws (nd t ws.length) w) : Pre d t (ws ++ [w]) := by
  refine ⟨by rw [List.length_append]; exact hl, fun j hj => ?_⟩
  rw [List.length_append] at hj
  simp only [List.length_cons, List.length_nil] at hj
  rcases Nat.lt_or_ge j ws.length with h' | h'
  · rw [List.take_append_of_le_length (by omega), show (ws ++ [w]).getD j 0 = ws.getD j 0 by simp [List.getD, List.getElem?_append, h']]
    exact h.2 j h'
  · have : j = ws.length := by omega
    subst this
    rw [getD_snoc, List.take_append_of_le_length (Nat.le_refl _), List.take_of_length_le (Nat.le_refl _)]
    exact hn
theorem TermP.node {d : List Timpl_Decl.V} {t : List Timpl_TNode.V} {ws ws' : List Int} (h : TermP d t ws') (hp : Pre d t ws) (hl : ws.length < t.length) : ∃ w, NodeP d ws (nd t ws.length) w := by
  have e : ws = ws'.take ws.length := hp.unique (h.2.2.2.1.take _) (by rw [List.length_take, h.2.2.1]; omega)
  have := h.2.2.2.1.2 ws.length (by rw [h.2.2.1]; exact hl)
  rw [← e] at this
  exact ⟨_, this⟩
theorem kidW_fill (wide : List Int) (n : Timpl_TNode.V) : fillN (fun m => wide.getD ((nKids n).getD m 0).toNat 0) 0 (nKids n).length (nKids n).length = kidW wide n := by
  refine List.ext_getElem (by simp [fillN, kidW]) fun i h1 h2 => ?_
  have : i < (nKids n).length := by simpa [fillN] using h1
  simp [fillN, kidW, List.getD, this]
theorem mem_iff_getD {l : List Int} {x : Int} : x ∈ l ↔ ∃ m, m < l.length ∧ l.getD m 0 = x := by
  constructor
  · intro h
    obtain ⟨m, hm, rfl⟩ := List.getElem_of_mem h
    exact ⟨m, hm, by simp [List.getD, hm]⟩
  · rintro ⟨m, hm, rfl⟩
    exact getD_mem hm
theorem getD_set_bool {l : List Bool} {k j : Nat} (hk : k < l.length) : (l.set k true).getD j false = if j = k then true else l.getD j false := by
  by_cases h : j = k
  · subst h; simp [List.getD, hk]
  · simp [List.getD, h, show ¬ k = j from fun e => h e.symm]
theorem implKids_ok {D : List Timpl_Decl.V} {C E : Int} {t : Timpl_Term.V} {q : Timpl_TNode.V} {ws out : List Int} {used : List Bool} {n : Timpl_TNode.V} {N : Nat} (hn : NodeB n) (hl : ws.length < N) (hN : N ≤ 1048576) (ho : out = ws ++ List.replicate (N - ws.length) 0) (hu : used.length = N) :
    Ret (impl_widths_l2 D C (ws.length : Int) E t out q (nKids n) ((nKids n).length : Int) 0 used (List.replicate (nKids n).length 0)) fun r => (∃ x, r = .inl x ∧ ¬ KidsIn n ws.length) ∨ (∃ u, r = .inr (kidW ws n, u) ∧ KidsIn n ws.length ∧ u.length = N ∧ ∀ k : Nat, k < N → (u.getD k false = true ↔ used.getD k false = true ∨ (k : Int) ∈ nKids n)) := by
  unfold impl_widths_l2
  have hlen := hn.1
  have hol : out.length = N := by rw [ho, List.length_append, List.length_replicate]; omega
  have hget : ∀ k : Nat, k < ws.length → out.getD k 0 = ws.getD k 0 := fun k hk => by rw [ho]; simp [List.getD, List.getElem?_append, hk]
  have := for_rule (f := impl_widths_l2_r D C (ws.length : Int) E t out q (nKids n) ((nKids n).length : Int)) (fun j (u : List Bool) => ((j : Int), u, fillN (fun m => ws.getD ((nKids n).getD m 0).toNat 0) 0 (nKids n).length j)) (nKids n).length
    (fun j u => (∀ m, m < j → 0 ≤ (nKids n).getD m 0 ∧ (nKids n).getD m 0 < (ws.length : Int)) ∧ u.length = N ∧ ∀ k : Nat, k < N → (u.getD k false = true ↔ used.getD k false = true ∨ ∃ m, m < j ∧ (nKids n).getD m 0 = (k : Int)))
    (Q := fun r => (∃ x, r = .inl x ∧ ¬ KidsIn n ws.length) ∨ (∃ u, r = .inr (kidW ws n, u) ∧ KidsIn n ws.length ∧ u.length = N ∧ ∀ k : Nat, k < N → (u.getD k false = true ↔ used.getD k false = true ∨ (k : Int) ∈ nKids n))) (fun j u hj hI => ?_) (fun u hI => ?_) (s0 := used) ⟨fun m hm => by omega, hu, fun k _ => ⟨fun h => .inl h, fun h => by rcases h with h | ⟨m, hm, _⟩; exact h; omega⟩⟩
  · rw [fillN_zero] at this; exact this
  · unfold impl_widths_l2_r impl_widths_l2_g
    simp only
    rw [dlt hj, cond_true, if_pos (rng hj), Int.toNat_natCast, inside_ok, wrap64 (x := (ws.length : Int) - 1) (by omega) (by omega)]
    show Ret (bif !decide (0 ≤ (nKids n).getD j 0 ∧ (nKids n).getD j 0 ≤ (ws.length : Int) - 1) then _ else _) _
    by_cases h : 0 ≤ (nKids n).getD j 0 ∧ (nKids n).getD j 0 ≤ (ws.length : Int) - 1
    · rw [decide_eq_true h]
      simp only [Bool.not_true, cond_false]
      obtain ⟨k, hk⟩ : ∃ k : Nat, (nKids n).getD j 0 = (k : Int) := ⟨((nKids n).getD j 0).toNat, by omega⟩
      have hkl : k < ws.length := by omega
      rw [show (nKids n).getD j (Ty.zero (.int .i64)) = (k : Int) from hk, Int.toNat_natCast, if_pos ⟨by omega, by rw [hol]; omega⟩, if_pos ⟨by omega, by rw [hI.2.1]; omega⟩, fillN_len, if_pos (rng hj), stepN hj (by omega)]
      refine Ret.mk ⟨u.set k true, ?_, fun m hm => ?_, by rw [List.length_set]; exact hI.2.1, fun i hi => ?_⟩
      · rw [← fillN_set]
        have hg : out.getD k (Ty.zero (.int .i64)) = ws.getD ((nKids n).getD j 0).toNat 0 := by
          rw [hk, Int.toNat_natCast]; exact hget k hkl
        rw [hg]
      · rcases Nat.lt_or_ge m j with h' | h'
        · exact hI.1 m h'
        · rw [show m = j by omega]; omega
      · rw [getD_set_bool (by rw [hI.2.1]; omega)]
        by_cases hik : i = k
        · subst hik
          simp only [if_true, true_iff]
          exact .inr ⟨j, by omega, hk⟩
        · rw [if_neg hik, hI.2.2 i hi]
          constructor
          · rintro (h | ⟨m, h1, h2⟩)
            · exact .inl h
            · exact .inr ⟨m, by omega, h2⟩
          · rintro (h | ⟨m, h1, h2⟩)
            · exact .inl h
            · rcases Nat.lt_or_ge m j with h' | h'
              · exact .inr ⟨m, h', h2⟩
              · have : m = j := by omega
                subst this
                rw [hk] at h2; omega
    · rw [decide_eq_false h]
      exact Ret.mk (.inl ⟨_, rfl, fun hk => h (by have := hk _ (getD_mem (z := 0) hj); omega)⟩)
  · unfold impl_widths_l2_r impl_widths_l2_g
    simp only
    rw [dge, cond_false]
    refine Ret.mk (.inr ⟨u, by rw [kidW_fill], fun k hk => ?_, hI.2.1, fun k hk => ?_⟩)
    · obtain ⟨m, hm, rfl⟩ := mem_iff_getD.1 hk
      exact hI.1 m hm
    · rw [hI.2.2 k hk, mem_iff_getD]
theorem contains_ok {u : List Bool} (hl : u.length ≤ 1048576) : Ret (slices_Contains_bool u false) fun r => r = true ↔ ∃ k, k < u.length ∧ u.getD k false = false := by
  unfold slices_Contains_bool slices_Index_bool slices_Index_bool_l0
  refine Ret.bind (P := fun r => 0 ≤ r ↔ ∃ k, k < u.length ∧ u.getD k false = false) (Ret.bind (P := fun t => (∃ j : Nat, t = .inl (j : Int) ∧ j < u.length ∧ u.getD j false = false) ∨ (t = .inr () ∧ ∀ j, j < u.length → u.getD j false = true)) ?_ fun t ht => ?_) fun r hr => Ret.mk (by rw [decide_eq_true_iff]; exact hr)
  · refine for_rule (fun j (_ : Unit) => (j : Int)) u.length (fun j _ => ∀ k, k < j → u.getD k false = true) (fun j _ hj hJ => ?_) (fun _ hJ => ?_) (s0 := ()) (fun i h => by omega)
    · unfold slices_Index_bool_l0_r slices_Index_bool_l0_g
      rw [dlt hj, cond_true, if_pos (rng hj), Int.toNat_natCast]
      show Ret (bif (false == u.getD j false) then _ else _) _
      cases he : u.getD j false with
      | false => exact Ret.mk (.inl ⟨j, rfl, hj, he⟩)
      | true =>
        rw [stepN hj (by omega)]
        refine Ret.mk ⟨(), rfl, fun k hk => ?_⟩
        rcases Nat.lt_or_ge k j with h' | h'
        · exact hJ k h'
        · rw [show k = j by omega]; exact he
    · unfold slices_Index_bool_l0_r slices_Index_bool_l0_g
      rw [dge, cond_false]
      exact Ret.mk (.inr ⟨rfl, hJ⟩)
  · rcases ht with ⟨j, rfl, h1, h2⟩ | ⟨rfl, h⟩
    · exact Ret.mk ⟨fun _ => ⟨j, h1, h2⟩, fun _ => by show (0 : Int) ≤ (j : Int); omega⟩
    · exact Ret.mk ⟨fun h' => absurd (show (0 : Int) ≤ -1 from h') (by omega), fun ⟨j, h1, h2⟩ => by rw [h j h1] at h2; cases h2⟩
theorem implWidths_ok {d : List Timpl_Decl.V} {t : List Timpl_TNode.V} (ht : TermB t) (hd : d.length ≤ 1048576) : Ret (impl_widths d (t, ())) fun r => (r.1 = true ∧ TermP d t r.2) ∨ (r.1 = false ∧ ¬ ∃ ws, TermP d t ws) := by
  unfold impl_widths mkr
  show Ret (bif (decide ((t.length : Int) < 1) || decide ((t.length : Int) > 400)) then _ else _) _
  by_cases hl : 1 ≤ t.length ∧ t.length ≤ 400
  · rw [decide_eq_false (by omega), decide_eq_false (by omega), Bool.or_false, cond_false]
    rw [show impl_widths_l1 d (t, ()) (t.length : Int) = some (List.replicate t.length 0, List.replicate t.length false) by
      unfold impl_widths_l1
      rw [if_pos ⟨rfl, by omega, by omega, by omega, by omega⟩, if_pos ⟨rfl, by omega, by omega, by omega, by omega⟩, Int.toNat_natCast], Option.bind_some]
    refine Ret.bind (P := fun r => (∃ x, r = .inl x ∧ ¬ ∃ ws, TermP d t ws) ∨ (∃ ws u, r = .inr (u, ws) ∧ ws.length = t.length ∧ Pre d t ws ∧ u.length = t.length ∧ ∀ k : Nat, k < t.length → (u.getD k false = true ↔ UsedBy t k t.length))) ?_ fun r hr => ?_
    · unfold impl_widths_l4
      have := for_rule (f := impl_widths_l4_r d (t, ()) (t.length : Int) (t.length : Int)) (fun i (s : List Int × List Bool) => ((i : Int), s.1, s.2)) t.length
        (fun i s => ∃ ws : List Int, ws.length = i ∧ Pre d t ws ∧ s.1 = ws ++ List.replicate (t.length - i) 0 ∧ s.2.length = t.length ∧ ∀ k : Nat, k < t.length → (s.2.getD k false = true ↔ UsedBy t k i))
        (Q := fun r => (∃ x, r = .inl x ∧ ¬ ∃ ws, TermP d t ws) ∨ (∃ ws u, r = .inr (u, ws) ∧ ws.length = t.length ∧ Pre d t ws ∧ u.length = t.length ∧ ∀ k : Nat, k < t.length → (u.getD k false = true ↔ UsedBy t k t.length))) (fun i s hi hI => ?_) (fun s hI => ?_) (s0 := (List.replicate t.length 0, List.replicate t.length false)) ⟨[], rfl, ⟨Nat.zero_le _, fun j hj => by simp at hj⟩, rfl, List.length_replicate, fun k hk => by
          have h0 : (List.replicate t.length false).getD k false = false := by simp [List.getD, hk]
          constructor
          · intro h; rw [h0] at h; cases h
          · rintro ⟨j, hj, _⟩; omega⟩
      · exact this
      · obtain ⟨out, used⟩ := s
        obtain ⟨ws, rfl, hp, ho, hul, hu⟩ := hI
        simp only at ho hul hu
        have hn : NodeB (nd t ws.length) := ht.2 _ (getD_mem hi)
        have hkl := hn.1
        unfold impl_widths_l4_r impl_widths_l4_g
        simp only
        rw [show decide ((ws.length : Int) < (t.length : Int)) = true from dlt hi, cond_true, if_pos (rng hi), Int.toNat_natCast]
        show Ret (bif decide (((nKids (nd t ws.length)).length : Int) > 4096) then _ else if Ty.row (.int .i64) = true ∧ (0 : Int) ≤ ((nKids (nd t ws.length)).length : Int) ∧ ((nKids (nd t ws.length)).length : Int) ≤ ((nKids (nd t ws.length)).length : Int) ∧ ((8 : Nat) : Int) * ((nKids (nd t ws.length)).length : Int) ≤ (281474976710656 : Int) ∧ ((nKids (nd t ws.length)).length : Int) ≤ (9223372036854775807 : Int) then (impl_widths_l2 d (t.length : Int) (ws.length : Int) (t.length : Int) (t, ()) out (nd t ws.length) (nKids (nd t ws.length)) ((nKids (nd t ws.length)).length : Int) 0 used (List.replicate ((nKids (nd t ws.length)).length : Int).toNat 0)).bind _ else none) _
        by_cases hk4 : (nKids (nd t ws.length)).length > 4096
        · rw [decide_eq_true (by omega)]
          refine Ret.mk (.inl ⟨_, rfl, fun ⟨ws', h'⟩ => ?_⟩)
          obtain ⟨w, hw⟩ := h'.node hp hi
          have hb := sumK_bound (hp.wide ht.1) hw.1
          have hform := hw.2.2.1
          have heq := hw.2.2.2.1
          have hw4 := hw.2.2.2.2.2
          rcases hform with h | h | h | h
          · omega
          · omega
          · have : widF d (nd t ws.length) (kidW ws (nd t ws.length)).sum = sumK ws (nd t ws.length) := by unfold sumK widF; simp [h.1]
            omega
          · omega
        · rw [decide_eq_false (by omega), cond_false, if_pos ⟨rfl, by omega, by omega, by omega, by omega⟩, Int.toNat_natCast]
          refine Ret.bind (implKids_ok hn hi ht.1 ho hul) fun r hr => ?_
          rcases hr with ⟨x, rfl, h⟩ | ⟨u, rfl, hin, hul', hu'⟩
          · refine Ret.mk (.inl ⟨_, rfl, fun ⟨ws', h'⟩ => ?_⟩)
            obtain ⟨w, hw⟩ := h'.node hp hi
            exact h hw.1
          · simp only [Sum.elim_inr]
            obtain ⟨r, hr, hq⟩ := implWide_ok (d := d) hn (hp.wide ht.1) hd hin
            rw [show impl_TNode_width (t.getD ws.length (Ty.zero Timpl_TNode)) d (kidW ws (nd t ws.length)) = some r from hr, Option.bind_some]
            have hol : out.length = t.length := by rw [ho, List.length_append, List.length_replicate]; omega
            rw [if_pos ⟨by omega, by rw [hol]; omega⟩]
            unfold impl_widths_l3
            rw [show impl_TNode_plain (t.getD ws.length (Ty.zero Timpl_TNode)) = _ from plain_ok (nd t ws.length), List.length_set, if_pos ⟨by omega, by rw [hol]; omega⟩, Int.toNat_natCast]
            have hgs : (out.set ws.length r).getD ws.length (Ty.zero (.int .i64)) = r := by simp [List.getD, hol, hi]
            rw [hgs, inside_ok]
            have hset : out.set ws.length r = (ws ++ [r]) ++ List.replicate (t.length - (ws.length + 1)) 0 := by
              rw [ho, show t.length - ws.length = (t.length - (ws.length + 1)) + 1 by omega, List.replicate_succ]
              simp
            by_cases hpl : PlainP (nd t ws.length)
            · by_cases hrg : 1 ≤ r ∧ r ≤ 4096
              · rw [decide_eq_true hpl, decide_eq_true hrg]
                simp only [Bool.not_true, cond_false, Option.bind_some]
                have hform : FormP d (nd t ws.length) := by
                  by_cases hf : FormP d (nd t ws.length)
                  · exact hf
                  · have := hq.2 hf; omega
                have hnode : NodeP d ws (nd t ws.length) r := ⟨hin, hpl, hform, hq.1 hform, hrg⟩
                refine Ret.mk ⟨(out.set ws.length r, u), by rw [stepN hi ht.1], ws ++ [r], by simp, hp.snoc hi hnode, hset, hul', fun k hk => ?_⟩
                rw [hu' k hk, hu k hk]
                constructor
                · rintro (⟨j, h1, h2⟩ | h)
                  · exact ⟨j, by omega, h2⟩
                  · exact ⟨ws.length, by omega, h⟩
                · rintro ⟨j, h1, h2⟩
                  rcases Nat.lt_or_ge j ws.length with h' | h'
                  · exact .inl ⟨j, h', h2⟩
                  · rw [show j = ws.length by omega] at h2; exact .inr h2
              · rw [decide_eq_true hpl, decide_eq_false hrg]
                refine Ret.mk (.inl ⟨_, rfl, fun ⟨ws', h'⟩ => ?_⟩)
                obtain ⟨w, hw⟩ := h'.node hp hi
                have := hq.1 hw.2.2.1
                have h3 := hw.2.2.2
                unfold sumK at this
                rw [← this] at h3
                exact hrg (by rw [← h3.1]; exact h3.2)
            · rw [decide_eq_false hpl]
              refine Ret.mk (.inl ⟨_, rfl, fun ⟨ws', h'⟩ => ?_⟩)
              obtain ⟨w, hw⟩ := h'.node hp hi
              exact hpl hw.2.1
      · obtain ⟨out, used⟩ := s
        obtain ⟨ws, hwl, hp, ho, hul, hu⟩ := hI
        simp only at ho hul hu
        unfold impl_widths_l4_r impl_widths_l4_g
        simp only
        rw [dge, cond_false]
        rw [Nat.sub_self, List.replicate_zero, List.append_nil] at ho
        subst ho
        exact Ret.mk (.inr ⟨out, used, rfl, hwl, hp, hul, hu⟩)
    · rcases hr with ⟨x, rfl, h⟩ | ⟨ws, u, rfl, hwl, hp, hul, hu⟩
      · exact Ret.mk (.inr ⟨rfl, h⟩)
      · simp only [Sum.elim_inr]
        have e1 : IntKind.i64.wrap ((t.length : Int) - 1) = ((t.length - 1 : Nat) : Int) := wrapN (by omega) (by omega)
        rw [e1, if_pos ⟨by omega, by omega, by rw [hul]; omega⟩, Int.toNat_natCast, List.drop_zero]
        have htl : (u.take (t.length - 1)).length = t.length - 1 := by rw [List.length_take]; omega
        have hgt : ∀ k, k < t.length - 1 → (u.take (t.length - 1)).getD k false = u.getD k false := fun k hk => by simp [List.getD, hk]
        refine Ret.bind (contains_ok (by omega)) fun r hr => Ret.mk ?_
        rw [htl] at hr
        cases r with
        | false =>
          refine .inl ⟨rfl, hl.1, hl.2, hwl, hp, fun k hk => (hu k (by omega)).1 ?_⟩
          cases hc : u.getD k false with
          | true => rfl
          | false => have := hr.2 ⟨k, by omega, by rw [hgt k (by omega)]; exact hc⟩; cases this
        | true =>
          obtain ⟨k, hk, hf⟩ := hr.1 rfl
          rw [hgt k hk] at hf
          refine .inr ⟨rfl, fun ⟨ws', h'⟩ => ?_⟩
          have := (hu k (by omega)).2 (h'.2.2.2.2 k (by omega))
          rw [this] at hf; cases hf
  · have hc : (decide ((t.length : Int) < 1) || decide ((t.length : Int) > 400)) = true := by simp; omega
    rw [hc]
    exact Ret.mk (.inr ⟨rfl, fun ⟨ws, h⟩ => hl ⟨h.1, h.2.1⟩⟩)
end Go.Proofs.X
namespace Go.Proofs.X
open Go Go.Va
set_option maxRecDepth 100000
theorem specUsed_ok {D : List Timpl_Decl.V} {W : List Int} {t : List Timpl_TNode.V} {i : Nat} {used : List Bool} (hi : i < t.length) (hn : NodeB (nd t i)) (hin : KidsIn (nd t i) used.length) :
    Ret (spec_l3Widths_l2 D (i : Int) (t, ()) W 0 used) fun u => u.length = used.length ∧ ∀ k : Nat, k < used.length → (u.getD k false = true ↔ used.getD k false = true ∨ (k : Int) ∈ nKids (nd t i)) := by
  unfold spec_l3Widths_l2
  have hlen := hn.1
  refine for_rule (fun j (u : List Bool) => ((j : Int), u)) (nKids (nd t i)).length (fun j u => u.length = used.length ∧ ∀ k : Nat, k < used.length → (u.getD k false = true ↔ used.getD k false = true ∨ ∃ m, m < j ∧ (nKids (nd t i)).getD m 0 = (k : Int))) (fun j u hj hI => ?_) (fun u hI => ?_) (s0 := used) ⟨rfl, fun k _ => ⟨fun h => .inl h, fun h => by rcases h with h | ⟨m, hm, _⟩; exact h; omega⟩⟩
  · unfold spec_l3Widths_l2_r spec_l3Widths_l2_g
    simp only
    rw [if_pos (rng hi), Int.toNat_natCast, if_pos (rng hi), Int.toNat_natCast]
    show Ret (bif decide ((j : Int) < ((nKids (nd t i)).length : Int)) then (if (0 : Int) ≤ (j : Int) ∧ (j : Int) < ((nKids (nd t i)).length : Int) then (if (0 : Int) ≤ (nKids (nd t i)).getD j 0 ∧ (nKids (nd t i)).getD j 0 < (u.length : Int) then some (Sum.inl (IntKind.i64.wrap ((j : Int) + 1), u.set ((nKids (nd t i)).getD j 0).toNat true)) else none) else none) else _) _
    have hkin := hin _ (getD_mem (z := 0) hj)
    rw [dlt hj, cond_true, if_pos (rng hj), if_pos ⟨hkin.1, by rw [hI.1]; exact hkin.2⟩, stepN hj (by omega)]
    obtain ⟨k, hk⟩ : ∃ k : Nat, (nKids (nd t i)).getD j 0 = (k : Int) := ⟨((nKids (nd t i)).getD j 0).toNat, by omega⟩
    rw [hk, Int.toNat_natCast]
    refine Ret.mk ⟨_, rfl, by rw [List.length_set]; exact hI.1, fun i' hi' => ?_⟩
    rw [getD_set_bool (by rw [hI.1]; omega)]
    by_cases hik : i' = k
    · subst hik
      simp only [if_true, true_iff]
      exact .inr ⟨j, by omega, hk⟩
    · rw [if_neg hik, hI.2 i' hi']
      constructor
      · rintro (h | ⟨m, h1, h2⟩)
        · exact .inl h
        · exact .inr ⟨m, by omega, h2⟩
      · rintro (h | ⟨m, h1, h2⟩)
        · exact .inl h
        · rcases Nat.lt_or_ge m j with h' | h'
          · exact .inr ⟨m, h', h2⟩
          · have : m = j := by omega
            subst this
            rw [hk] at h2; omega
  · unfold spec_l3Widths_l2_r spec_l3Widths_l2_g
    simp only
    rw [if_pos (rng hi), Int.toNat_natCast]
    show Ret (bif decide (((nKids (nd t i)).length : Int) < ((nKids (nd t i)).length : Int)) then _ else some (Sum.inr u)) _
    rw [dge, cond_false]
    refine Ret.mk ⟨hI.1, fun k hk => ?_⟩
    rw [hI.2 k hk, mem_iff_getD]
theorem specWidths_ok {d : List Timpl_Decl.V} {t : List Timpl_TNode.V} (ht : TermB t) (hd : d.length ≤ 1048576) : Ret (spec_l3Widths d (t, ())) fun r => (DeclsP d ∧ TermP d t r) ∨ (r = [] ∧ ¬ (DeclsP d ∧ ∃ ws, TermP d t ws)) := by
  unfold spec_l3Widths
  have htb := ht.1
  obtain ⟨b, hb1, hb2⟩ : ∃ b, spec_l3Widths_l0 d (t, ()) = some b ∧ (b = false ↔ DeclsP d ∧ 1 ≤ t.length ∧ t.length ≤ 400) := by
    obtain ⟨r, hr, hq⟩ := specDecls_ok d
    unfold spec_l3Widths_l0
    rw [hr, Option.bind_some]
    show ∃ b, (bif !r then some true else bif decide ((t.length : Int) < 1) then some true else some (decide ((t.length : Int) > 400))) = some b ∧ _
    cases r with
    | false => exact ⟨true, rfl, fun h => by (cases h), fun h => by have := hq.2 h.1; cases this⟩
    | true =>
      have hdp := hq.1 rfl
      by_cases h1 : (t.length : Int) < 1
      · rw [decide_eq_true h1]
        exact ⟨true, rfl, fun h => by (cases h), fun h => by omega⟩
      · rw [decide_eq_false h1]
        refine ⟨_, rfl, ?_⟩
        rw [decide_eq_false_iff_not]
        exact ⟨fun h => ⟨hdp, by omega, by omega⟩, fun h => by omega⟩
  rw [hb1, Option.bind_some]
  cases b with
  | true =>
    refine Ret.mk (.inr ⟨rfl, fun h => ?_⟩)
    obtain ⟨h1, ws, h2⟩ := h
    have := hb2.2 ⟨h1, h2.1, h2.2.1⟩
    cases this
  | false =>
    obtain ⟨hdp, hl1, hl2⟩ := hb2.1 rfl
    rw [cond_false]
    show Ret (if Ty.row .bool = true ∧ (0 : Int) ≤ (t.length : Int) ∧ (t.length : Int) ≤ (t.length : Int) ∧ ((1 : Nat) : Int) * (t.length : Int) ≤ (281474976710656 : Int) ∧ (t.length : Int) ≤ (9223372036854775807 : Int) then (spec_l3Widths_l3 d (t, ()) 0 [] (List.replicate (t.length : Int).toNat false)).bind _ else none) _
    rw [if_pos ⟨rfl, by omega, by omega, by omega, by omega⟩, Int.toNat_natCast]
    refine Ret.bind (P := fun r => (∃ x, r = .inl x ∧ ¬ ∃ ws, TermP d t ws) ∨ (∃ ws u, r = .inr (u, ws) ∧ ws.length = t.length ∧ Pre d t ws ∧ u.length = t.length ∧ ∀ k : Nat, k < t.length → (u.getD k false = true ↔ UsedBy t k t.length))) ?_ fun r hr => ?_
    · unfold spec_l3Widths_l3
      refine for_rule (fun i (s : List Int × List Bool) => ((i : Int), s.1, s.2)) t.length
        (fun i s => s.1.length = i ∧ Pre d t s.1 ∧ s.2.length = t.length ∧ ∀ k : Nat, k < t.length → (s.2.getD k false = true ↔ UsedBy t k i))
        (fun i s hi hI => ?_) (fun s hI => ?_) (s0 := (([] : List Int), List.replicate t.length false)) ⟨rfl, ⟨Nat.zero_le _, fun j hj => by simp at hj⟩, List.length_replicate, fun k hk => by
          have h0 : (List.replicate t.length false).getD k false = false := by simp [List.getD, hk]
          constructor
          · intro h; rw [h0] at h; cases h
          · rintro ⟨j, hj, _⟩; omega⟩
      · obtain ⟨ws, used⟩ := s
        obtain ⟨hwl, hp, hul, hu⟩ := hI
        simp only at hwl hp hul hu
        subst hwl
        have hn : NodeB (nd t ws.length) := ht.2 _ (getD_mem hi)
        unfold spec_l3Widths_l3_r spec_l3Widths_l3_g
        simp only
        rw [show decide ((ws.length : Int) < (t.length : Int)) = true from dlt hi, cond_true, if_pos (rng hi), Int.toNat_natCast]
        obtain ⟨r, hr, hq⟩ := specForm_ok (d := d) (i := ws.length) hn (by omega) hd
        rw [show spec_l3Form d (t.getD ws.length (Ty.zero Timpl_TNode)) (ws.length : Int) = some r from hr, Option.bind_some]
        cases r with
        | false =>
          refine Ret.mk (.inl ⟨_, rfl, fun ⟨ws', h'⟩ => ?_⟩)
          obtain ⟨w, hw⟩ := h'.node hp hi
          have := hq.2 ⟨hw.1, hw.2.1, hw.2.2.1⟩
          cases this
        | true =>
          obtain ⟨hin, hpl, hform⟩ := hq.1 rfl
          simp only [Bool.not_true, cond_false]
          rw [if_pos (rng hi)]
          have hwb := hp.wide htb
          obtain ⟨w, hw, hwe⟩ := specWide_ok (d := d) hn hwb hin hform
          rw [show spec_l3Wide d (t.getD ws.length (Ty.zero Timpl_TNode)) ws = some w from hw, Option.bind_some, l1In_ok]
          have hclip := wid_clip hwb hin hform
          by_cases hrg : 1 ≤ w ∧ w ≤ 4096
          · rw [decide_eq_true hrg]
            simp only [Bool.not_true, cond_false]
            have hnode : NodeP d ws (nd t ws.length) w := ⟨hin, hpl, hform, by
              rcases hclip with h | h
              · rw [hwe, h]; rfl
              · omega, hrg⟩
            rw [if_pos (by show (_ + 1) * 8 ≤ _; omega)]
            refine Ret.bind (specUsed_ok hi hn (by rw [hul]; exact fun k hk => by have := hin k hk; omega)) fun u hu' => Ret.mk ⟨(ws ++ [w], u), by rw [stepN hi htb], by simp, hp.snoc hi hnode, hu'.1.trans hul, fun k hk => ?_⟩
            rw [hu'.2 k (by omega), hu k hk]
            constructor
            · rintro (⟨j, h1, h2⟩ | h)
              · exact ⟨j, by omega, h2⟩
              · exact ⟨ws.length, by omega, h⟩
            · rintro ⟨j, h1, h2⟩
              rcases Nat.lt_or_ge j ws.length with h' | h'
              · exact .inl ⟨j, h', h2⟩
              · rw [show j = ws.length by omega] at h2; exact .inr h2
          · rw [decide_eq_false hrg]
            refine Ret.mk (.inl ⟨_, rfl, fun ⟨ws', h'⟩ => ?_⟩)
            obtain ⟨v, hv⟩ := h'.node hp hi
            have h3 := hv.2.2.2
            have e : (kidW ws (nd t ws.length)).sum = sumK ws (nd t ws.length) := rfl
            rw [e] at h3
            rcases hclip with h | h
            · rw [hwe, h] at hrg
              exact hrg (by rw [← h3.1]; exact h3.2)
            · omega
      · obtain ⟨ws, used⟩ := s
        obtain ⟨hwl, hp, hul, hu⟩ := hI
        unfold spec_l3Widths_l3_r spec_l3Widths_l3_g
        simp only
        rw [dge, cond_false]
        exact Ret.mk (.inr ⟨ws, used, rfl, hwl, hp, hul, hu⟩)
    · rcases hr with ⟨x, rfl, h⟩ | ⟨ws, u, rfl, hwl, hp, hul, hu⟩
      · exact Ret.mk (.inr ⟨rfl, fun hh => h hh.2⟩)
      · simp only [Sum.elim_inr]
        refine Ret.bind (P := fun r => (r = .inl () ∧ ¬ ∀ k, k + 1 < t.length → u.getD k false = true) ∨ (r = .inr () ∧ ∀ k, k + 1 < t.length → u.getD k false = true)) ?_ fun r hr => ?_
        · unfold spec_l3Widths_l4
          refine for_rule (fun j (_ : Unit) => (j : Int)) (t.length - 1) (fun j _ => ∀ k, k < j → u.getD k false = true) (fun j _ hj hJ => ?_) (fun _ hJ => ?_) (s0 := ()) (fun i h => by omega)
          · unfold spec_l3Widths_l4_r spec_l3Widths_l4_g
            rw [stepN (show j < t.length by omega) htb, hul, show decide (((j + 1 : Nat) : Int) < (t.length : Int)) = true from decide_eq_true (by omega), cond_true, if_pos (rng (by omega)), Int.toNat_natCast]
            show Ret (bif !(u.getD j false) then _ else _) _
            cases hc : u.getD j false with
            | false => exact Ret.mk (.inl ⟨rfl, fun h => by rw [h j (by omega)] at hc; cases hc⟩)
            | true =>
              refine Ret.mk ⟨(), rfl, fun k hk => ?_⟩
              rcases Nat.lt_or_ge k j with h' | h'
              · exact hJ k h'
              · rw [show k = j by omega]; exact hc
          · unfold spec_l3Widths_l4_r spec_l3Widths_l4_g
            rw [show IntKind.i64.wrap (((t.length - 1 : Nat) : Int) + 1) = (t.length : Int) from wrapN (by omega) (by omega), hul, dge, cond_false]
            exact Ret.mk (.inr ⟨rfl, fun k hk => hJ k (by omega)⟩)
        · rcases hr with ⟨rfl, h⟩ | ⟨rfl, h⟩
          · exact Ret.mk (.inr ⟨rfl, fun ⟨_, ws', h'⟩ => h fun k hk => (hu k (by omega)).2 (h'.2.2.2.2 k hk)⟩)
          · exact Ret.mk (.inl ⟨hdp, hl1, hl2, hwl, hp, fun k hk => (hu k (by omega)).1 (h k hk)⟩)
open Classical in
noncomputable def termW (d : List Timpl_Decl.V) (t : List Timpl_TNode.V) : Int := if h : ∃ ws, TermP d t ws then h.choose.getD (t.length - 1) 0 else -1
theorem termW_of {d : List Timpl_Decl.V} {t : List Timpl_TNode.V} {ws : List Int} (h : TermP d t ws) : termW d t = ws.getD (t.length - 1) 0 := by
  have he : ∃ ws, TermP d t ws := ⟨ws, h⟩
  unfold termW
  rw [dif_pos he]
  have h1 := he.choose_spec
  rw [h1.2.2.2.1.unique h.2.2.2.1 (by rw [h1.2.2.1, h.2.2.1])]
theorem termW_none {d : List Timpl_Decl.V} {t : List Timpl_TNode.V} (h : ¬ ∃ ws, TermP d t ws) : termW d t = -1 := by
  unfold termW; rw [dif_neg h]
theorem termW_pos {d : List Timpl_Decl.V} {t : List Timpl_TNode.V} {ws : List Int} (h : TermP d t ws) : 1 ≤ termW d t ∧ termW d t ≤ 4096 := by
  rw [termW_of h]
  have := h.1
  exact (h.2.2.2.1.2 (t.length - 1) (by rw [h.2.2.1]; omega)).2.2.2.2
theorem implWidthOf_ok {d : List Timpl_Decl.V} {t : List Timpl_TNode.V} (ht : TermB t) (hd : d.length ≤ 1048576) : impl_widthOf d (t, ()) = some (termW d t) := by
  unfold impl_widthOf
  refine Ret.eq_ (Ret.bind (implWidths_ok ht hd) fun r hr => ?_)
  rcases hr with ⟨h1, h2⟩ | ⟨h1, h2⟩
  · rw [h1]
    simp only [Bool.not_true, cond_false]
    have := h2.1
    have hb := ht.1
    rw [h2.2.2.1, show IntKind.i64.wrap ((t.length : Int) - 1) = ((t.length - 1 : Nat) : Int) from wrapN (by omega) (by omega), if_pos ⟨by omega, by omega⟩, Int.toNat_natCast]
    exact Ret.mk (termW_of h2).symm
  · rw [h1]
    exact Ret.mk (termW_none h2).symm
theorem specWidthOf_ok {d : List Timpl_Decl.V} {t : List Timpl_TNode.V} (ht : TermB t) (hd : d.length ≤ 1048576) (hdp : DeclsP d) : spec_WidthOf d (t, ()) = some (termW d t) := by
  unfold spec_WidthOf
  refine Ret.eq_ (Ret.bind (specWidths_ok ht hd) fun r hr => ?_)
  rcases hr with ⟨_, h2⟩ | ⟨rfl, h2⟩
  · have := h2.1
    have hb := ht.1
    rw [h2.2.2.1, beq_dec, decide_eq_false (by omega), cond_false, show IntKind.i64.wrap ((t.length : Int) - 1) = ((t.length - 1 : Nat) : Int) from wrapN (by omega) (by omega), if_pos ⟨by omega, by omega⟩, Int.toNat_natCast]
    exact Ret.mk (termW_of h2).symm
  · exact Ret.mk (termW_none fun h => h2 ⟨hdp, h⟩).symm
end Go.Proofs.X
namespace Go.Proofs.X
open Go Go.Va
set_option maxRecDepth 100000
def li (l : List Timpl_Literal.V) (i : Nat) : Timpl_Literal.V := l.getD i (Ty.zero Timpl_Literal)
def lId (l : List Timpl_Literal.V) (i : Nat) : Int := (li l i).1
def lS (l : List Timpl_Literal.V) (i : Nat) : List Timpl_TNode.V := (li l i).2.2.1.1
def lT (l : List Timpl_Literal.V) (i : Nat) : List Timpl_TNode.V := (li l i).2.2.2.1.1
def LitP (d : List Timpl_Decl.V) (l : List Timpl_Literal.V) (i : Nat) : Prop := (1 ≤ lId l i ∧ lId l i ≤ 1000000) ∧ (0 < i → lId l (i - 1) < lId l i) ∧ 0 ≤ termW d (lS l i) ∧ termW d (lT l i) = termW d (lS l i)
def LitsP (d : List Timpl_Decl.V) (l : List Timpl_Literal.V) : Prop := l.length ≤ 60 ∧ ∀ i, i < l.length → LitP d l i
def LitB (x : Timpl_Literal.V) : Prop := TermB x.2.2.1.1 ∧ TermB x.2.2.2.1.1
theorem specLits_ok {d : List Timpl_Decl.V} {l : List Timpl_Literal.V} (hl : ∀ x ∈ l, LitB x) : Ret (spec_LiteralsOk d l) fun r => r = true ↔ DeclsP d ∧ LitsP d l := by
  unfold spec_LiteralsOk
  obtain ⟨b, hb1, hb2⟩ : ∃ b, spec_LiteralsOk_l0 d l = some b ∧ (b = false ↔ DeclsP d ∧ l.length ≤ 60) := by
    obtain ⟨r, hr, hq⟩ := specDecls_ok d
    unfold spec_LiteralsOk_l0
    rw [hr, Option.bind_some]
    cases r with
    | false => exact ⟨true, rfl, fun h => by (cases h), fun h => by have := hq.2 h.1; cases this⟩
    | true =>
      have hdp := hq.1 rfl
      refine ⟨decide ((l.length : Int) > 60), rfl, ?_⟩
      rw [decide_eq_false_iff_not]
      exact ⟨fun h => ⟨hdp, by omega⟩, fun h => by omega⟩
  rw [hb1, Option.bind_some]
  cases b with
  | true => exact Ret.mk ⟨fun h => by (cases h), fun h => by have := hb2.2 ⟨h.1, h.2.1⟩; cases this⟩
  | false =>
    obtain ⟨hdp, hlen⟩ := hb2.1 rfl
    have hd := hdp.1
    rw [cond_false]
    refine Ret.bind (P := fun t => (t = .inl () ∧ ¬ ∀ i, i < l.length → LitP d l i) ∨ (t = .inr () ∧ ∀ i, i < l.length → LitP d l i)) ?_ fun t ht => ?_
    · unfold spec_LiteralsOk_l2
      refine for_rule (fun j (_ : Unit) => (j : Int)) l.length (fun j _ => ∀ k, k < j → LitP d l k) (fun j _ hj hJ => ?_) (fun _ hJ => ?_) (s0 := ()) (fun i h => by omega)
      · unfold spec_LiteralsOk_l2_r spec_LiteralsOk_l2_g
        have hB := hl _ (getD_mem (z := Ty.zero Timpl_Literal) hj)
        have e1 : spec_WidthOf d (l.getD j (Ty.zero Timpl_Literal)).2.2.1 = some (termW d (lS l j)) := specWidthOf_ok hB.1 (by omega) hdp
        have e2 : spec_WidthOf d (l.getD j (Ty.zero Timpl_Literal)).2.2.2.1 = some (termW d (lT l j)) := specWidthOf_ok hB.2 (by omega) hdp
        have e3 : (l.getD j (Ty.zero Timpl_Literal)).1 = lId l j := rfl
        rw [dlt hj, cond_true, if_pos (rng hj), Int.toNat_natCast, e1, Option.bind_some]
        obtain ⟨b, hb1, hb2⟩ : ∃ b, spec_LiteralsOk_l1 d l (j : Int) (termW d (lS l j)) = some b ∧ (b = false ↔ LitP d l j) := by
          unfold spec_LiteralsOk_l1 LitP
          rw [if_pos (rng hj), if_pos (rng hj), Int.toNat_natCast, e3, l1In_ok, e2, Option.bind_some]
          by_cases h1 : 1 ≤ lId l j ∧ lId l j ≤ 1000000
          · rw [decide_eq_true h1]
            simp only [Bool.not_true, cond_false]
            have last : ∃ b, (bif decide (termW d (lS l j) < 0) then some true else some (termW d (lT l j) != termW d (lS l j))) = some b ∧ (b = false ↔ 0 ≤ termW d (lS l j) ∧ termW d (lT l j) = termW d (lS l j)) := by
              by_cases h2 : termW d (lS l j) < 0
              · rw [decide_eq_true h2]; exact ⟨true, rfl, fun h => by (cases h), fun h => by omega⟩
              · rw [decide_eq_false h2, cond_false]
                refine ⟨_, rfl, ?_⟩
                rw [bne_eq_false_iff_eq]
                exact ⟨fun h => ⟨by omega, h⟩, fun h => h.2⟩
            obtain ⟨b, hb, hq⟩ := last
            by_cases h2 : 0 < j
            · rw [decide_eq_true (show (j : Int) > 0 by omega), cond_true, show IntKind.i64.wrap ((j : Int) - 1) = ((j - 1 : Nat) : Int) from wrapN (by omega) (by omega), if_pos (rng (by omega)), Int.toNat_natCast]
              have e4 : (l.getD (j - 1) (Ty.zero Timpl_Literal)).1 = lId l (j - 1) := rfl
              rw [e4]
              by_cases h3 : lId l j ≤ lId l (j - 1)
              · rw [decide_eq_true h3]
                exact ⟨true, rfl, fun h => by (cases h), fun h => by have := h.2.1 h2; omega⟩
              · rw [decide_eq_false h3, cond_false, if_pos (rng hj), hb]
                exact ⟨b, rfl, hq.trans ⟨fun h => ⟨h1, fun _ => by omega, h⟩, fun h => h.2.2⟩⟩
            · rw [decide_eq_false (show ¬ (j : Int) > 0 by omega), cond_false, if_pos (rng hj), hb]
              exact ⟨b, rfl, hq.trans ⟨fun h => ⟨h1, fun h' => absurd h' h2, h⟩, fun h => h.2.2⟩⟩
          · rw [decide_eq_false h1]
            exact ⟨true, rfl, fun h => by (cases h), fun h => absurd h.1 h1⟩
        rw [hb1, Option.bind_some]
        cases b with
        | true => exact Ret.mk (.inl ⟨rfl, fun h => by have := hb2.2 (h j hj); cases this⟩)
        | false =>
          rw [cond_false, stepN hj (by omega)]
          refine Ret.mk ⟨(), rfl, fun k hk => ?_⟩
          rcases Nat.lt_or_ge k j with h' | h'
          · exact hJ k h'
          · rw [show k = j by omega]; exact hb2.1 rfl
      · unfold spec_LiteralsOk_l2_r spec_LiteralsOk_l2_g
        rw [dge, cond_false]
        exact Ret.mk (.inr ⟨rfl, hJ⟩)
    · rcases ht with ⟨rfl, h⟩ | ⟨rfl, h⟩
      · exact Ret.mk ⟨fun h => by (cases h), fun h' => absurd h'.2.2 h⟩
      · exact Ret.mk ⟨fun _ => ⟨hdp, hlen, h⟩, fun _ => rfl⟩
theorem implLits_ok {d : List Timpl_Decl.V} {l : List Timpl_Literal.V} (hl : ∀ x ∈ l, LitB x) : Ret (impl_LiteralsOk d l) fun r => r = true ↔ DeclsP d ∧ LitsP d l := by
  unfold impl_LiteralsOk
  obtain ⟨r, hr, hq⟩ := implDecls_ok d
  rw [hr, Option.bind_some]
  cases r with
  | false => exact Ret.mk ⟨fun h => by (cases h), fun h => by have := hq.2 h.1; cases this⟩
  | true =>
    have hdp := hq.1 rfl
    have hd := hdp.1
    rw [cond_true]
    unfold impl_literalsOk
    by_cases hlen : l.length ≤ 60
    · rw [decide_eq_false (by omega : ¬ (l.length : Int) > 60), cond_false]
      refine Ret.bind (P := fun r => r = true ↔ DeclsP d ∧ LitsP d l) (Ret.bind (P := fun t => (t = .inl () ∧ ¬ ∀ i, i < l.length → LitP d l i) ∨ (t = .inr () ∧ ∀ i, i < l.length → LitP d l i)) ?_ fun t ht => ?_) fun r h => Ret.mk h
      · unfold impl_literalsOk_l1
        have := for_rule (f := impl_literalsOk_l1_r d l (l.length : Int)) (fun j (_ : Unit) => ((if j = 0 then 0 else lId l (j - 1) : Int), (j : Int))) l.length (fun j _ => ∀ k, k < j → LitP d l k) (Q := fun t => (t = .inl () ∧ ¬ ∀ i, i < l.length → LitP d l i) ∨ (t = .inr () ∧ ∀ i, i < l.length → LitP d l i)) (fun j _ hj hJ => ?_) (fun _ hJ => ?_) (s0 := ()) (fun i h => by omega)
        · exact this
        · unfold impl_literalsOk_l1_r impl_literalsOk_l1_g
          have hB := hl _ (getD_mem (z := Ty.zero Timpl_Literal) hj)
          have e1 : impl_widthOf d (l.getD j (Ty.zero Timpl_Literal)).2.2.1 = some (termW d (lS l j)) := implWidthOf_ok hB.1 (by omega)
          have e2 : impl_widthOf d (l.getD j (Ty.zero Timpl_Literal)).2.2.2.1 = some (termW d (lT l j)) := implWidthOf_ok hB.2 (by omega)
          have e3 : (l.getD j (Ty.zero Timpl_Literal)).1 = lId l j := rfl
          simp only
          rw [dlt hj, cond_true, if_pos (rng hj), Int.toNat_natCast, e1, Option.bind_some]
          obtain ⟨c, hc⟩ : ∃ c : Int, c = if j = 0 then 0 else lId l (j - 1) := ⟨_, rfl⟩
          have hcb : 0 ≤ c ∧ c ≤ 1000000 ∧ (0 < j → c = lId l (j - 1)) ∧ (j = 0 → c = 0) := by
            by_cases h0 : j = 0
            · rw [if_pos h0] at hc; exact ⟨by omega, by omega, fun h => by omega, fun _ => hc⟩
            · rw [if_neg h0] at hc
              have := (hJ (j - 1) (by omega)).1
              exact ⟨by omega, by omega, fun _ => hc, fun h => absurd h h0⟩
          rw [← hc]
          obtain ⟨b, hb1, hb2⟩ : ∃ b, impl_literalsOk_l0 d c (termW d (lS l j)) l (l.length : Int) (j : Int) (l.getD j (Ty.zero Timpl_Literal)) = some b ∧ (b = false ↔ LitP d l j) := by
            unfold impl_literalsOk_l0 LitP
            rw [e3, inside_ok, wrap64 (x := c + 1) (by omega) (by omega), e2, Option.bind_some]
            by_cases h1 : c + 1 ≤ lId l j ∧ lId l j ≤ 1000000
            · rw [decide_eq_true h1]
              simp only [Bool.not_true, cond_false]
              by_cases h2 : termW d (lS l j) < 0
              · rw [decide_eq_true h2]; exact ⟨true, rfl, fun h => by (cases h), fun h => by omega⟩
              · rw [decide_eq_false h2, cond_false]
                refine ⟨_, rfl, ?_⟩
                rw [bne_eq_false_iff_eq]
                exact ⟨fun h => ⟨by omega, fun h' => by have := hcb.2.2.1 h'; omega, by omega, h.symm⟩, fun h => h.2.2.2.symm⟩
            · rw [decide_eq_false h1]
              refine ⟨true, rfl, fun h => by (cases h), fun h => ?_⟩
              exfalso
              apply h1
              rcases Nat.eq_zero_or_pos j with h0 | h0
              · have := hcb.2.2.2 h0; omega
              · have := hcb.2.2.1 h0; have := h.2.1 h0; omega
          rw [hb1, Option.bind_some]
          cases b with
          | true => exact Ret.mk (.inl ⟨rfl, fun h => by have := hb2.2 (h j hj); cases this⟩)
          | false =>
            rw [cond_false, stepN hj (by omega)]
            refine Ret.mk ⟨(), rfl, fun k hk => ?_⟩
            rcases Nat.lt_or_ge k j with h' | h'
            · exact hJ k h'
            · rw [show k = j by omega]; exact hb2.1 rfl
        · unfold impl_literalsOk_l1_r impl_literalsOk_l1_g
          simp only
          rw [dge, cond_false]
          exact Ret.mk (.inr ⟨rfl, hJ⟩)
      · rcases ht with ⟨rfl, h⟩ | ⟨rfl, h⟩
        · exact Ret.mk ⟨fun h => by (cases h), fun h' => absurd h'.2.2 h⟩
        · exact Ret.mk ⟨fun _ => ⟨hdp, hlen, h⟩, fun _ => rfl⟩
    · rw [decide_eq_true (by omega : (l.length : Int) > 60)]
      exact Ret.mk ⟨fun h => by (cases h), fun h => absurd h.2.1 hlen⟩
end Go.Proofs.X
namespace Go.Va
theorem grow_seq {T : Type} {f : Int × List T → Option ((Int × List T) ⊕ List T)} (N : Nat) (it : Nat → List T) (a0 : List T)
    (hs : ∀ k, k < N → f ((k : Int), a0 ++ (List.range k).flatMap it) = some (.inl (((k + 1 : Nat) : Int), a0 ++ (List.range k).flatMap it ++ it k)))
    (he : f ((N : Int), a0 ++ (List.range N).flatMap it) = some (.inr (a0 ++ (List.range N).flatMap it))) : fix f (0, a0) = some (a0 ++ (List.range N).flatMap it) := by
  have := fix_seq0 (f := f) (fun k => ((k : Int), a0 ++ (List.range k).flatMap it)) N (fun k hk => by
    rw [hs k hk, List.range_succ, List.flatMap_append, List.append_assoc]; simp) he
  simpa using this
theorem flat_single {A B : Type} (g : A → B) (l : List A) : l.flatMap (fun x => [g x]) = l.map g := by
  induction l with
  | nil => rfl
  | cons x l ih => simp [ih]
theorem flat_const {A B : Type} (b : List B) (l : List A) : l.flatMap (fun _ => b) = (List.replicate l.length b).flatten := by
  induction l with
  | nil => rfl
  | cons x l ih => simp [ih, List.replicate_succ]
end Go.Va
namespace Go.Proofs.X
open Go Go.Va
set_option maxRecDepth 100000
def turnBy (n : Timpl_TNode.V) (w : Nat) : Nat := if nOp n = 8 then (w - (nA n).toNat % w) % w else (nA n).toNat % w
def nodeBits (d : List Timpl_Decl.V) (n : Timpl_TNode.V) (kids : List (List Bt)) : List Bt :=
  if nOp n = 1 then (List.range (dw d (nVar n).toNat).toNat).map fun a => .va (nVar n).toNat a
  else if nOp n = 2 then (List.range (nW n).toNat).map fun k => .co (bt (nWs n) k)
  else if nOp n = 3 then kids.reverse.flatten
  else if nOp n = 4 then ((kids.getD 0 []).take ((nA n).toNat + 1)).drop (nB n).toNat
  else if nOp n = 5 then kids.getD 0 [] ++ List.replicate (nA n).toNat (.co false)
  else if nOp n = 6 then kids.getD 0 [] ++ List.replicate (nA n).toNat ((kids.getD 0 []).getD ((kids.getD 0 []).length - 1) (.co false))
  else if nOp n = 9 then (List.replicate (nA n).toNat (kids.getD 0 [])).flatten
  else (kids.getD 0 []).drop ((kids.getD 0 []).length - turnBy n (kids.getD 0 []).length) ++ (kids.getD 0 []).take ((kids.getD 0 []).length - turnBy n (kids.getD 0 []).length)
def BitIn (d : List Timpl_Decl.V) : Bt → Prop
  | .co _ => True
  | .va v a => v < d.length ∧ ((a : Nat) : Int) < dw d v
def kidS (kids : List (List Bt)) : Int := ((kids.map List.length).sum : Nat)
def BitsIn (d : List Timpl_Decl.V) (B : List Bt) : Prop := 1 ≤ B.length ∧ B.length ≤ 4096 ∧ ∀ b ∈ B, BitIn d b
structure NB (d : List Timpl_Decl.V) (n : Timpl_TNode.V) (kids : List (List Bt)) : Prop where
  hd : DeclsP d
  hf : FormP d n
  hb : NodeB n
  hk : kids.length = (nKids n).length
  hw : 1 ≤ widF d n (kidS kids) ∧ widF d n (kidS kids) ≤ 4096
  hin : ∀ B ∈ kids, BitsIn d B
theorem bitIn_btB {d : List Timpl_Decl.V} (hd : DeclsP d) {b : Bt} (h : BitIn d b) : BtB b := by
  cases b with
  | co b => trivial
  | va v a =>
    obtain ⟨h1, h2⟩ := h
    have := (hd.2.1 v h1).2.1
    have := hd.1
    exact ⟨by omega, by omega⟩
theorem NB.one {d : List Timpl_Decl.V} {n : Timpl_TNode.V} {kids : List (List Bt)} (h : NB d n kids) (h1 : nOp n ≠ 1) (h2 : nOp n ≠ 2) (h3 : nOp n ≠ 3) : 4 ≤ nOp n ∧ nOp n ≤ 9 ∧ ∃ B, kids = [B] ∧ BitsIn d B ∧ kidS kids = (B.length : Int) := by
  have hf := h.hf
  unfold FormP at hf
  have : 4 ≤ nOp n ∧ nOp n ≤ 9 ∧ (nKids n).length = 1 := by omega
  obtain ⟨h4, h9, hl⟩ := this
  have hk := h.hk
  rw [hl] at hk
  match kids, hk, h.hin with
  | [B], _, hin => exact ⟨h4, h9, B, rfl, hin B List.mem_cons_self, by simp [kidS]⟩
theorem turn_le {n : Timpl_TNode.V} {w : Nat} (h : 1 ≤ w) : turnBy n w < w := by
  unfold turnBy; split <;> exact Nat.mod_lt _ (by omega)
theorem sum_reverse (l : List Nat) : l.reverse.sum = l.sum := by
  induction l with
  | nil => rfl
  | cons x l ih => simp [ih]; omega
theorem nodeBits_len {d : List Timpl_Decl.V} {n : Timpl_TNode.V} {kids : List (List Bt)} (h : NB d n kids) : ((nodeBits d n kids).length : Int) = widF d n (kidS kids) := by
  have hw := h.hw
  by_cases h1 : nOp n = 1
  · simp only [nodeBits, widF, if_pos h1, List.length_map, List.length_range] at hw ⊢; omega
  by_cases h2 : nOp n = 2
  · simp only [nodeBits, widF, if_neg h1, if_pos h2, List.length_map, List.length_range] at hw ⊢; omega
  by_cases h3 : nOp n = 3
  · have e : ¬ nOp n = 4 ∧ ¬ (nOp n = 5 ∨ nOp n = 6) ∧ ¬ (nOp n = 7 ∨ nOp n = 8) ∧ ¬ nOp n = 9 := by omega
    simp only [nodeBits, widF, if_neg h1, if_neg h2, if_pos h3, if_neg e.1, if_neg e.2.1, if_neg e.2.2.1, if_neg e.2.2.2, kidS]
    rw [List.length_flatten, List.map_reverse, sum_reverse]
  obtain ⟨h4, h9, B, rfl, hB, hs⟩ := h.one h1 h2 h3
  have hl := hB.1
  rw [hs] at hw ⊢
  by_cases h4' : nOp n = 4
  · simp only [nodeBits, widF, if_neg h1, if_neg h2, if_neg h3, if_pos h4', List.getD_cons_zero, List.length_drop, List.length_take] at hw ⊢
    split at hw <;> rename_i hc
    · rw [if_pos hc]; omega
    · omega
  by_cases h5 : nOp n = 5
  · have h56 : nOp n = 5 ∨ nOp n = 6 := .inl h5
    simp only [nodeBits, widF, if_neg h1, if_neg h2, if_neg h3, if_neg h4', if_pos h5, if_pos h56, List.getD_cons_zero, List.length_append, List.length_replicate] at hw ⊢
    split at hw <;> rename_i hc
    · rw [if_pos hc]; omega
    · omega
  by_cases h6 : nOp n = 6
  · have h56 : nOp n = 5 ∨ nOp n = 6 := .inr h6
    simp only [nodeBits, widF, if_neg h1, if_neg h2, if_neg h3, if_neg h4', if_neg h5, if_pos h6, if_pos h56, List.getD_cons_zero, List.length_append, List.length_replicate] at hw ⊢
    split at hw <;> rename_i hc
    · rw [if_pos hc]; omega
    · omega
  have h56 : ¬ (nOp n = 5 ∨ nOp n = 6) := by omega
  by_cases h9' : nOp n = 9
  · have h78 : ¬ (nOp n = 7 ∨ nOp n = 8) := by omega
    simp only [nodeBits, widF, if_neg h1, if_neg h2, if_neg h3, if_neg h4', if_neg h5, if_neg h6, if_neg h56, if_neg h78, if_pos h9', List.getD_cons_zero, List.length_flatten, List.map_replicate, List.sum_replicate_nat] at hw ⊢
    split at hw <;> rename_i hc
    · rw [if_pos hc]
      have : (nA n) = ((nA n).toNat : Int) := by omega
      rw [this, Int.toNat_natCast, Int.natCast_mul, Int.mul_comm]
    · omega
  · have h78 : nOp n = 7 ∨ nOp n = 8 := by omega
    have ht := turn_le (n := n) hl
    simp only [nodeBits, widF, if_neg h1, if_neg h2, if_neg h3, if_neg h4', if_neg h5, if_neg h6, if_neg h56, if_pos h78, if_neg h9', List.getD_cons_zero, List.length_append, List.length_drop, List.length_take] at hw ⊢
    split at hw <;> rename_i hc
    · rw [if_pos hc]; omega
    · omega
theorem nodeBits_in {d : List Timpl_Decl.V} {n : Timpl_TNode.V} {kids : List (List Bt)} (h : NB d n kids) : BitsIn d (nodeBits d n kids) := by
  have hl := nodeBits_len h
  refine ⟨by have := h.hw; omega, by have := h.hw; omega, fun b hb => ?_⟩
  by_cases h1 : nOp n = 1
  · have hf := h.hf
    unfold FormP at hf
    have hv : 0 ≤ nVar n ∧ nVar n < (d.length : Int) := by omega
    simp only [nodeBits, if_pos h1, List.mem_map, List.mem_range] at hb
    obtain ⟨a, ha, rfl⟩ := hb
    exact ⟨by omega, by omega⟩
  by_cases h2 : nOp n = 2
  · simp only [nodeBits, if_neg h1, if_pos h2, List.mem_map, List.mem_range] at hb
    obtain ⟨a, ha, rfl⟩ := hb
    trivial
  by_cases h3 : nOp n = 3
  · simp only [nodeBits, if_neg h1, if_neg h2, if_pos h3, List.mem_flatten, List.mem_reverse] at hb
    obtain ⟨B, hB, hb⟩ := hb
    exact (h.hin B hB).2.2 b hb
  obtain ⟨h4, h9, B, rfl, hB, hs⟩ := h.one h1 h2 h3
  have hz : B.getD (B.length - 1) (.co false) ∈ B := getD_mem (by have := hB.1; omega)
  simp only [nodeBits, if_neg h1, if_neg h2, if_neg h3, List.getD_cons_zero] at hb
  split at hb
  · exact hB.2.2 b (List.mem_of_mem_take (List.mem_of_mem_drop hb))
  split at hb
  · rcases List.mem_append.1 hb with hb | hb
    · exact hB.2.2 b hb
    · rw [(List.mem_replicate.1 hb).2]; trivial
  split at hb
  · rcases List.mem_append.1 hb with hb | hb
    · exact hB.2.2 b hb
    · rw [(List.mem_replicate.1 hb).2]; exact hB.2.2 _ hz
  split at hb
  · obtain ⟨C, hC, hb⟩ := List.mem_flatten.1 hb
    rw [(List.mem_replicate.1 hC).2] at hb
    exact hB.2.2 b hb
  · rcases List.mem_append.1 hb with hb | hb
    · exact hB.2.2 b (List.mem_of_mem_drop hb)
    · exact hB.2.2 b (List.mem_of_mem_take hb)
end Go.Proofs.X
namespace Go.Va
theorem grow_map {T : Type} {f : Int × List T → Option ((Int × List T) ⊕ List T)} (N : Nat) (g : Nat → T) (a0 : List T)
    (hs : ∀ k acc, k < N → acc.length = a0.length + k → f ((k : Int), acc) = some (.inl (((k + 1 : Nat) : Int), acc ++ [g k]))) (he : ∀ acc, f ((N : Int), acc) = some (.inr acc)) : fix f (0, a0) = some (a0 ++ (List.range N).map g) := by
  have := grow_seq (f := f) N (fun k => [g k]) a0 (fun k hk => hs k _ hk (by rw [flat_single]; simp)) (he _)
  rw [flat_single] at this
  exact this
end Go.Va
namespace Go.Proofs.X
open Go Go.Va
set_option maxRecDepth 100000
theorem kGet (kids : List (List Bt)) (k : Nat) : (kids.map bV).getD k (Ty.zero (.sl Tspec_l5Bit)) = bV (kids.getD k []) := by
  simp only [List.getD, List.getElem?_map]
  cases kids[k]? <;> rfl
theorem wrapI {x : Int} (h1 : -4611686018427387904 ≤ x) (h2 : x < 4611686018427387904) : IntKind.i64.wrap x = x := wrap64 (by omega) (by omega)
theorem rev_get {A : Type} {l : List A} {z : A} {k : Nat} (h : k < l.length) : l.reverse.getD k z = l.getD (l.length - 1 - k) z := by
  simp only [List.getD, List.getElem?_reverse h]
theorem flat_take_le (kids : List (List Bt)) (k : Nat) : ((kids.reverse.take k).flatten).length ≤ (kids.map List.length).sum := by
  rw [← sum_reverse, ← List.map_reverse, List.length_flatten]
  conv => rhs; rw [← List.take_append_drop k kids.reverse, List.map_append, List.sum_append]
  omega
theorem dec_ge {a : Nat} : decide ((a : Int) ≥ 0) = true := decide_eq_true (by omega)
theorem specCat_ok {d : List Timpl_Decl.V} {n : Timpl_TNode.V} {kids : List (List Bt)} (h : NB d n kids) (h3 : nOp n = 3) : spec_l5Node_l12 (kids.map bV) (IntKind.i64.wrap (((kids.map bV).length : Int) - 1)) [] = some (bV kids.reverse.flatten) := by
  have hlen : kids.length ≤ 1048576 := by rw [h.hk]; exact h.hb.1
  have hsum : (kids.map List.length).sum ≤ 4096 := by
    have hw := h.hw
    have e : ¬ nOp n = 4 ∧ ¬ (nOp n = 5 ∨ nOp n = 6) ∧ ¬ (nOp n = 7 ∨ nOp n = 8) ∧ ¬ nOp n = 9 ∧ ¬ nOp n = 1 ∧ ¬ nOp n = 2 := by omega
    simp only [widF, if_neg e.1, if_neg e.2.1, if_neg e.2.2.1, if_neg e.2.2.2.1, if_neg e.2.2.2.2.1, if_neg e.2.2.2.2.2, kidS] at hw
    omega
  unfold spec_l5Node_l12
  rw [List.length_map, wrapI (by omega) (by omega)]
  have := fix_seq0 (f := spec_l5Node_l12_r (kids.map bV)) (fun k => ((kids.length : Int) - 1 - (k : Int), bV (kids.reverse.take k).flatten)) (t := bV kids.reverse.flatten) kids.length (fun k hk => by
    unfold spec_l5Node_l12_r spec_l5Node_l12_g
    simp only
    have e : (kids.length : Int) - 1 - (k : Int) = ((kids.length - 1 - k : Nat) : Int) := by omega
    have hb := flat_take_le kids k
    have hin := h.hin (kids.getD (kids.length - 1 - k) []) (getD_mem (by omega))
    rw [e, dec_ge, cond_true, List.length_map, if_pos ⟨by omega, by omega⟩, Int.toNat_natCast, kGet, bV_len, bV_len, if_pos (by have := hin.2.1; omega), wrapI (by omega) (by omega)]
    rw [take_succ_getD (z := []) (show k < kids.reverse.length by rw [List.length_reverse]; exact hk), rev_get hk, List.flatten_append, ← bV_append]
    simp only [List.flatten_cons, List.flatten_nil, List.append_nil]
    rw [show (kids.length : Int) - 1 - ((k + 1 : Nat) : Int) = ((kids.length - 1 - k : Nat) : Int) - 1 by omega]) (by
    unfold spec_l5Node_l12_r spec_l5Node_l12_g
    simp only
    rw [decide_eq_false (by omega), cond_false, List.take_of_length_le (by rw [List.length_reverse]; omega)])
  have this' : fix (spec_l5Node_l12_r (kids.map bV)) ((kids.length : Int) - 1 - ((0 : Nat) : Int), []) = some (bV kids.reverse.flatten) := this
  rw [show (kids.length : Int) - 1 - ((0 : Nat) : Int) = (kids.length : Int) - 1 by omega] at this'
  exact this'
theorem specNode_ok {d : List Timpl_Decl.V} {n : Timpl_TNode.V} {kids : List (List Bt)} (h : NB d n kids) : spec_l5Node d n (kids.map bV) = some (bV (nodeBits d n kids)) := by
  have e1 : ∀ x : Int, (n.1 == x) = decide (nOp n = x) := fun x => beq_dec
  have hbl := nodeBits_in h
  have hbl2 := hbl.2.1
  unfold spec_l5Node spec_l5Node_l20 mkr
  simp only [e1]
  by_cases h1 : nOp n = 1
  · rw [decide_eq_true h1, cond_true]
    have hf := h.hf
    unfold FormP at hf
    have hv : 0 ≤ nVar n ∧ nVar n < (d.length : Int) := by omega
    obtain ⟨N, hN⟩ : ∃ N : Nat, dw d (nVar n).toNat = (N : Int) := by
      have := (h.hd.2.1 (nVar n).toNat (by omega)).2.1
      exact ⟨(dw d (nVar n).toNat).toNat, by omega⟩
    have hN4 : N ≤ 4096 := by have := (h.hd.2.1 (nVar n).toNat (by omega)).2.1; omega
    rw [show spec_l5Node_l10 d n 0 [] = some (bV (nodeBits d n kids)) by
      unfold spec_l5Node_l10
      rw [grow_map (f := spec_l5Node_l10_r d n) N (fun a => btV (.va (nVar n).toNat a)) [] (fun k acc hk ha => by
        unfold spec_l5Node_l10_r spec_l5Node_l10_g
        simp only
        rw [if_pos (show (0 : Int) ≤ n.2.1 ∧ n.2.1 < (d.length : Int) from hv), show (d.getD n.2.1.toNat (Ty.zero Timpl_Decl)).2.1 = (N : Int) from hN, dlt hk, cond_true, stepN hk (by omega)]
        simp at ha
        rw [if_pos (by show (_ + 1) * 16 ≤ _; omega)]
        have : n.2.1 = (((nVar n).toNat : Nat) : Int) := by show nVar n = _; omega
        rw [this]; rfl) (fun acc => by
        unfold spec_l5Node_l10_r spec_l5Node_l10_g
        simp only
        rw [if_pos (show (0 : Int) ≤ n.2.1 ∧ n.2.1 < (d.length : Int) from hv), show (d.getD n.2.1.toNat (Ty.zero Timpl_Decl)).2.1 = (N : Int) from hN, dge, cond_false])]
      simp only [nodeBits, if_pos h1, hN, Int.toNat_natCast, bV, List.nil_append, List.map_map]
      rfl]
    rfl
  rw [decide_eq_false h1, cond_false]
  by_cases h2 : nOp n = 2
  · rw [decide_eq_true h2, cond_true]
    have hf := h.hf
    unfold FormP at hf
    obtain ⟨m, hm1, hm2⟩ : ValP n := by
      rcases hf with h | h | h | h
      · omega
      · exact h.2.2
      · omega
      · omega
    rw [show spec_l5Node_l11 n 0 [] = some (bV (nodeBits d n kids)) by
      unfold spec_l5Node_l11
      rw [grow_map (f := spec_l5Node_l11_r n) m (fun k => btV (.co (bt (nWs n) k))) [] (fun k acc hk ha => by
        unfold spec_l5Node_l11_r spec_l5Node_l11_g
        simp only
        have hb : spec_l1Bit n.2.2.2.2.1 (k : Int) = some (bI (bt (nWs n) k)) := l1Bit_ok (w := nW n) hm2.2.2.2.1 (by rw [hm2.2.2.1]; unfold nw; omega) h.hb.2.1
        have h4 := hm2.2.1
        rw [show n.2.2.2.2.1.1 = (m : Int) from hm1, dlt hk, cond_true, hb, Option.bind_some, stepN hk (by omega)]
        simp at ha
        rw [if_pos (by show (_ + 1) * 16 ≤ _; omega)]
        rw [show IntKind.i64.wrap (bI (bt (nWs n) k)) = bI (bt (nWs n) k) by cases bt (nWs n) k <;> rfl]; rfl) (fun acc => by
        unfold spec_l5Node_l11_r spec_l5Node_l11_g
        simp only
        rw [show n.2.2.2.2.1.1 = (m : Int) from hm1, dge, cond_false])]
      simp only [nodeBits, if_neg h1, if_pos h2, hm1, Int.toNat_natCast, bV, List.nil_append, List.map_map]
      rfl]
    rfl
  rw [decide_eq_false h2, cond_false]
  by_cases h3 : nOp n = 3
  · rw [decide_eq_true h3, cond_true, specCat_ok h h3]
    simp only [nodeBits, if_neg h1, if_neg h2, if_pos h3]
    rfl
  rw [decide_eq_false h3, cond_false]
  obtain ⟨h4, h9, B, rfl, hB, hs⟩ := h.one h1 h2 h3
  have hl := hB.1
  have hl4 := hB.2.1
  have hw := h.hw
  have g0 : ([B].map bV).getD 0 (Ty.zero (.sl Tspec_l5Bit)) = bV B := rfl
  have r0 : (0 : Int) ≤ (0 : Int) ∧ (0 : Int) < (([B].map bV).length : Int) := ⟨by omega, by simp⟩
  rw [hs] at hw
  simp only [nodeBits, if_neg h1, if_neg h2, if_neg h3, List.getD_cons_zero] at hbl2 ⊢
  simp only [widF, if_neg h1, if_neg h2] at hw
  by_cases h4' : nOp n = 4
  · simp only [if_pos h4'] at hw hbl2 ⊢
    split at hw <;> rename_i hc
    · obtain ⟨A, hA⟩ : ∃ A : Nat, nA n = (A : Int) := ⟨(nA n).toNat, by omega⟩
      obtain ⟨L, hL⟩ : ∃ L : Nat, nB n = (L : Int) := ⟨(nB n).toNat, by omega⟩
      have hA' : n.2.2.1 = (A : Int) := hA
      have hL' : n.2.2.2.1 = (L : Int) := hL
      rw [decide_eq_true h4', cond_true, if_pos r0, g0, hA', hL', show IntKind.i64.wrap ((A : Int) + 1) = ((A + 1 : Nat) : Int) from wrapN (by omega) (by omega), bV_len]
      rw [if_pos (show (0 : Int) ≤ (L : Int) ∧ (L : Int) ≤ ((A + 1 : Nat) : Int) ∧ ((A + 1 : Nat) : Int) ≤ (B.length : Int) from ⟨by omega, by omega, by omega⟩), Int.toNat_natCast, Int.toNat_natCast, hA, hL, Int.toNat_natCast, Int.toNat_natCast]
      rw [show (List.drop L (List.take (A + 1) (bV B))) = bV ((B.take (A + 1)).drop L) by simp [bV, List.map_drop, List.map_take], bV_len, List.length_drop, List.length_take, if_pos (by omega)]
      rfl
    · omega
  rw [decide_eq_false h4', cond_false]
  simp only [if_neg h4'] at hw hbl2 ⊢
  by_cases h56 : nOp n = 5 ∨ nOp n = 6
  · simp only [if_pos h56] at hw
    split at hw <;> rename_i hc
    · obtain ⟨A, hA⟩ : ∃ A : Nat, nA n = (A : Int) := ⟨(nA n).toNat, by omega⟩
      have hA' : n.2.2.1 = (A : Int) := hA
      have hc0 : (bif decide (nOp n = 5) then decide (nOp n = 5) else decide (nOp n = 6)) = true := by
        rcases h56 with h | h <;> simp [h]
      have hlast : IntKind.i64.wrap (((bV B).length : Int) - 1) = ((B.length - 1 : Nat) : Int) := by rw [bV_len]; exact wrapN (by omega) (by omega)
      rw [hc0, cond_true]
      by_cases h6 : nOp n = 6
      · have h5 : ¬ nOp n = 5 := by omega
        simp only [if_neg h5, if_pos h6, hA, Int.toNat_natCast, List.length_append, List.length_replicate] at hbl2 ⊢
        rw [show spec_l5Node_l14 ([B].map bV) n = some (.inl ()) by
          unfold spec_l5Node_l14
          rw [e1, decide_eq_true h6, cond_true, if_pos r0, if_pos r0, g0, hlast, bV_len, if_pos ⟨by omega, by omega⟩], Option.bind_some]
        simp only [Sum.elim_inl]
        rw [if_pos r0, g0, hlast, Int.toNat_natCast, bV_len, if_pos (by omega), bGet (by omega)]
        rw [show spec_l5Node_l15 n (btV (B.getD (B.length - 1) (.co false))) 0 (bV B) = some (bV (B ++ List.replicate A (B.getD (B.length - 1) (.co false)))) by
          unfold spec_l5Node_l15
          rw [grow_map (f := spec_l5Node_l15_r n (btV (B.getD (B.length - 1) (.co false)))) A (fun _ => btV (B.getD (B.length - 1) (.co false))) (bV B) (fun k acc hk ha => by
            unfold spec_l5Node_l15_r spec_l5Node_l15_g
            simp only
            rw [bV_len] at ha
            rw [hA', dlt hk, cond_true, stepN hk (by omega), if_pos (by show (_ + 1) * 16 ≤ _; omega)]) (fun acc => by
            unfold spec_l5Node_l15_r spec_l5Node_l15_g
            simp only
            rw [hA', dge, cond_false])]
          rw [bV_append]; simp [bV, List.map_const']]
        rfl
      · have h5 : nOp n = 5 := by omega
        simp only [if_pos h5, hA, Int.toNat_natCast, List.length_append, List.length_replicate] at hbl2 ⊢
        rw [show spec_l5Node_l14 ([B].map bV) n = some (.inr ()) by
          unfold spec_l5Node_l14
          rw [e1, decide_eq_false h6, cond_false], Option.bind_some]
        simp only [Sum.elim_inr]
        rw [if_pos r0, g0, bV_len, if_pos (by omega)]
        rw [show spec_l5Node_l16 n 0 (bV B) = some (bV (B ++ List.replicate A (.co false))) by
          unfold spec_l5Node_l16
          rw [grow_map (f := spec_l5Node_l16_r n) A (fun _ => btV (.co false)) (bV B) (fun k acc hk ha => by
            unfold spec_l5Node_l16_r spec_l5Node_l16_g
            simp only
            rw [bV_len] at ha
            rw [hA', dlt hk, cond_true, stepN hk (by omega), if_pos (by show (_ + 1) * 16 ≤ _; omega)]
            rfl) (fun acc => by
            unfold spec_l5Node_l16_r spec_l5Node_l16_g
            simp only
            rw [hA', dge, cond_false])]
          rw [bV_append]; simp [bV, List.map_const']]
        rfl
    · omega
  have h5 : ¬ nOp n = 5 := by omega
  have h6 : ¬ nOp n = 6 := by omega
  have hc0 : (bif decide (nOp n = 5) then decide (nOp n = 5) else decide (nOp n = 6)) = false := by simp [h5, h6]
  rw [hc0, cond_false]
  simp only [if_neg h5, if_neg h6, if_neg h56] at hw hbl2 ⊢
  by_cases h78 : nOp n = 7 ∨ nOp n = 8
  · simp only [if_pos h78] at hw
    split at hw <;> rename_i hc
    · obtain ⟨A, hA⟩ : ∃ A : Nat, nA n = (A : Int) := ⟨(nA n).toNat, by omega⟩
      have hA' : n.2.2.1 = (A : Int) := hA
      have h9' : ¬ nOp n = 9 := by omega
      have hc1 : (bif decide (nOp n = 7) then decide (nOp n = 7) else decide (nOp n = 8)) = true := by
        rcases h78 with h | h <;> simp [h]
      have ht := turn_le (n := n) hl
      simp only [if_neg h9', List.length_append, List.length_drop, List.length_take] at hbl2 ⊢
      rw [hc1, cond_true, if_pos r0, g0, hA', bV_len, if_neg (by omega)]
      have hmod : Int.tmod (A : Int) (B.length : Int) = ((A % B.length : Nat) : Int) := rfl
      have hml : A % B.length < B.length := Nat.mod_lt _ (by omega)
      rw [show spec_l5Node_l18 ([B].map bV) n (B.length : Int) (Int.tmod (A : Int) (B.length : Int)) = some ((turnBy n B.length : Nat) : Int) by
        unfold spec_l5Node_l18 turnBy
        rw [e1, hmod, hA, Int.toNat_natCast]
        by_cases h8 : nOp n = 8
        · rw [decide_eq_true h8, cond_true, if_neg (by omega), if_pos h8, show IntKind.i64.wrap ((B.length : Int) - ((A % B.length : Nat) : Int)) = ((B.length - A % B.length : Nat) : Int) from wrapN (by omega) (by omega)]
          rfl
        · rw [decide_eq_false h8, cond_false, if_neg h8], Option.bind_some]
      have hsub : IntKind.i64.wrap ((B.length : Int) - ((turnBy n B.length : Nat) : Int)) = ((B.length - turnBy n B.length : Nat) : Int) := wrapN (by omega) (by omega)
      rw [if_pos r0, hsub, if_pos ⟨by omega, by omega, by omega⟩, Int.toNat_natCast, Int.toNat_natCast]
      generalize hq : B.length - turnBy n B.length = q at *
      rw [show (List.drop q (List.take B.length (bV B))) = bV (B.drop q) by rw [List.take_of_length_le (by rw [bV_len]; omega)]; simp [bV, List.map_drop], show (List.drop 0 (List.take q (bV B))) = bV (B.take q) by simp [bV, List.map_take], if_pos (by omega), if_pos r0, if_pos ⟨by omega, by omega, by omega⟩, if_pos (by omega), ← bV_append]
      rfl
    · omega
  have h9' : nOp n = 9 := by omega
  have hc1 : (bif decide (nOp n = 7) then decide (nOp n = 7) else decide (nOp n = 8)) = false := by
    rw [show ¬ nOp n = 7 ∧ ¬ nOp n = 8 by omega |> fun h => (decide_eq_false h.1 : decide (nOp n = 7) = false), cond_false]
    exact decide_eq_false (by omega)
  simp only [if_neg h78, if_pos h9'] at hw hbl2 ⊢
  split at hw <;> rename_i hc
  · obtain ⟨A, hA⟩ : ∃ A : Nat, nA n = (A : Int) := ⟨(nA n).toNat, by omega⟩
    have hA' : n.2.2.1 = (A : Int) := hA
    rw [hc1, cond_false, decide_eq_true h9', cond_true]
    rw [hA] at hw hbl2
    simp only [Int.toNat_natCast, List.length_flatten, List.map_replicate, List.sum_replicate_nat] at hbl2
    rw [show spec_l5Node_l19 ([B].map bV) n 0 [] = some (bV (List.replicate A B).flatten) by
      unfold spec_l5Node_l19
      rw [grow_seq (f := spec_l5Node_l19_r ([B].map bV) n) A (fun _ => bV B) [] (fun k hk => by
        unfold spec_l5Node_l19_r spec_l5Node_l19_g
        simp only
        have hkl : k * B.length ≤ A * B.length := Nat.mul_le_mul_right _ (by omega)
        rw [hA', dlt hk, cond_true, if_pos r0, g0, stepN hk (by omega), if_pos (by
          rw [List.nil_append, flat_const, List.length_flatten, List.map_replicate, List.sum_replicate_nat, List.length_range, bV_len]; omega)]) (by
        unfold spec_l5Node_l19_r spec_l5Node_l19_g
        simp only
        rw [hA', dge, cond_false])]
      rw [List.nil_append, flat_const, List.length_range]
      simp [bV, List.map_flatten, List.map_replicate]]
    rw [hA]
    rfl
  · omega
end Go.Proofs.X
namespace Go.Proofs.X
open Go Go.Va
set_option maxRecDepth 100000
def fN (B : List Bt) : List Timpl_Seg.V := fV (norm B)
theorem fGetN (kids : List (List Bt)) (k : Nat) : (kids.map fN).getD k (Ty.zero (.sl Timpl_Seg)) = fN (kids.getD k []) := by
  simp only [List.getD, List.getElem?_map]
  cases kids[k]? <;> rfl
theorem raiseN {d : List Timpl_Decl.V} (hd : DeclsP d) {a b : List Bt} (ha : ∀ x ∈ a, BitIn d x) (hb : ∀ x ∈ b, BitIn d x) (hl : a.length + b.length ≤ 4096) : impl_raise_b (fN b) (fN a) = some (fN (a ++ b)) := by
  unfold fN
  rw [raise_ok (norm_full b) (norm_full a) (norm_small (fun x hx => btB_sg (bitIn_btB hd (hb x hx))) (by omega)) (norm_small (fun x hx => btB_sg (bitIn_btB hd (ha x hx))) (by omega)) (by rw [norm_wid, norm_wid]; exact hl), raises_norm]
theorem norm_one {s : Sg} (h : 1 ≤ s.w) : norm s.bits = [s] := by
  have := raise1_addB s.w s [] rfl h
  rw [raise1_nil] at this
  exact this.symm
theorem fN_one (b : Bt) : fN [b] = [sgV b.sg] := rfl
theorem raiseN1 {d : List Timpl_Decl.V} (hd : DeclsP d) {a : List Bt} {b : Bt} (ha : ∀ x ∈ a, BitIn d x) (hb : BitIn d b) (hl : a.length + 1 ≤ 4096) : impl_raise_b [sgV b.sg] (fN a) = some (fN (a ++ [b])) :=
  raiseN hd ha (b := [b]) (fun x hx => by rw [List.mem_singleton] at hx; rw [hx]; exact hb) hl
theorem widthN {d : List Timpl_Decl.V} {B : List Bt} (h : BitsIn d B) : impl_flatWidth (fN B) = some (B.length : Int) := by
  unfold fN
  rw [flatWidth_ok (norm_full B) (by rw [norm_wid]; exact h.2.1), norm_wid]
theorem partN {d : List Timpl_Decl.V} (hd : DeclsP d) {B : List Bt} (h : BitsIn d B) {lo w : Nat} (hlo : lo + w ≤ 8192) : impl_flatPart (fN B) (lo : Int) (w : Int) = some (fN ((B.drop lo).take w)) := by
  have hs : ∀ x ∈ B, SgB x.sg := fun x hx => btB_sg (bitIn_btB hd (h.2.2 x hx))
  unfold fN
  rw [flatPart_ok (norm_full B) (norm_small hs h.2.1) (by rw [norm_bits]; exact hs) (by rw [norm_wid]; exact h.2.1) hlo, norm_bits]
theorem rep_raise {d : List Timpl_Decl.V} (hd : DeclsP d) {B : List Bt} {b : Bt} {A : Nat} (hB : BitsIn d B) (hb : BitIn d b) (hl : B.length + A ≤ 4096) {f : Int × List Timpl_Seg.V → Option ((Int × List Timpl_Seg.V) ⊕ List Timpl_Seg.V)}
    (hs : ∀ x : Int × List Timpl_Seg.V, f x = bif decide (x.1 < (A : Int)) then (impl_raise_b [sgV b.sg] x.2).bind fun o => some (.inl (IntKind.i64.wrap (x.1 + 1), o)) else some (.inr x.2)) : fix f (0, fN B) = some (fN (B ++ List.replicate A b)) := by
  have := fix_seq0 (f := f) (fun k => ((k : Int), fN (B ++ List.replicate k b))) (t := fN (B ++ List.replicate A b)) A (fun k hk => by
    rw [hs]
    simp only
    rw [dlt hk, cond_true, raiseN1 hd (fun x hx => by
      rcases List.mem_append.1 hx with hx | hx
      · exact hB.2.2 x hx
      · rw [(List.mem_replicate.1 hx).2]; exact hb) hb (by rw [List.length_append, List.length_replicate]; omega), Option.bind_some, stepN hk (by omega), List.append_assoc, ← List.replicate_succ']) (by
    rw [hs]
    simp only
    rw [dge, cond_false])
  have h0 : fix f (((0 : Nat) : Int), fN (B ++ List.replicate 0 b)) = some (fN (B ++ List.replicate A b)) := this
  rw [List.replicate_zero, List.append_nil] at h0
  exact h0
theorem implCat_ok {d : List Timpl_Decl.V} {n : Timpl_TNode.V} {kids : List (List Bt)} (h : NB d n kids) (h3 : nOp n = 3) : impl_TNode_flatten_l0 (kids.map fN) (IntKind.i64.wrap (((kids.map fN).length : Int) - 1)) [] = some (fN kids.reverse.flatten) := by
  have hlen : kids.length ≤ 1048576 := by rw [h.hk]; exact h.hb.1
  have hsum : (kids.map List.length).sum ≤ 4096 := by
    have hw := h.hw
    have e : ¬ nOp n = 4 ∧ ¬ (nOp n = 5 ∨ nOp n = 6) ∧ ¬ (nOp n = 7 ∨ nOp n = 8) ∧ ¬ nOp n = 9 ∧ ¬ nOp n = 1 ∧ ¬ nOp n = 2 := by omega
    simp only [widF, if_neg e.1, if_neg e.2.1, if_neg e.2.2.1, if_neg e.2.2.2.1, if_neg e.2.2.2.2.1, if_neg e.2.2.2.2.2, kidS] at hw
    omega
  unfold impl_TNode_flatten_l0
  rw [List.length_map, wrapI (by omega) (by omega)]
  have := fix_seq0 (f := impl_TNode_flatten_l0_r (kids.map fN)) (fun k => ((kids.length : Int) - 1 - (k : Int), fN (kids.reverse.take k).flatten)) (t := fN kids.reverse.flatten) kids.length (fun k hk => by
    unfold impl_TNode_flatten_l0_r impl_TNode_flatten_l0_g
    simp only
    have e : (kids.length : Int) - 1 - (k : Int) = ((kids.length - 1 - k : Nat) : Int) := by omega
    have hb := flat_take_le kids (k + 1)
    have hin := h.hin (kids.getD (kids.length - 1 - k) []) (getD_mem (by omega))
    rw [take_succ_getD (z := []) (show k < kids.reverse.length by rw [List.length_reverse]; exact hk), rev_get hk, List.flatten_append] at hb ⊢
    simp only [List.flatten_cons, List.flatten_nil, List.append_nil] at hb ⊢
    rw [List.length_append] at hb
    rw [e, dec_ge, cond_true, List.length_map, if_pos ⟨by omega, by omega⟩, Int.toNat_natCast, fGetN, raiseN h.hd (fun x hx => by
      obtain ⟨C, hC, hx⟩ := List.mem_flatten.1 hx
      exact (h.hin C (List.mem_reverse.1 (List.mem_of_mem_take hC))).2.2 x hx) hin.2.2 (by omega), Option.bind_some, wrapI (by omega) (by omega)]
    rw [show (kids.length : Int) - 1 - ((k + 1 : Nat) : Int) = ((kids.length - 1 - k : Nat) : Int) - 1 by omega]) (by
    unfold impl_TNode_flatten_l0_r impl_TNode_flatten_l0_g
    simp only
    rw [decide_eq_false (by omega), cond_false, List.take_of_length_le (by rw [List.length_reverse]; omega)])
  have this' : fix (impl_TNode_flatten_l0_r (kids.map fN)) ((kids.length : Int) - 1 - ((0 : Nat) : Int), []) = some (fN kids.reverse.flatten) := this
  rw [show (kids.length : Int) - 1 - ((0 : Nat) : Int) = (kids.length : Int) - 1 by omega] at this'
  exact this'
theorem single_seg {s : Sg} {v : Timpl_Seg.V} (h : 1 ≤ s.w) (e : sgV s = v) : ([v] : List Timpl_Seg.V) = fN s.bits := by
  unfold fN
  rw [norm_one h, ← e]; rfl
theorem implNode_ok {d : List Timpl_Decl.V} {n : Timpl_TNode.V} {kids : List (List Bt)} (h : NB d n kids) : impl_TNode_flatten n d (kids.map fN) = some (fN (nodeBits d n kids)) := by
  have e1 : ∀ x : Int, (n.1 == x) = decide (nOp n = x) := fun x => beq_dec
  have hbl := nodeBits_in h
  have hbl2 := hbl.2.1
  unfold impl_TNode_flatten mkr
  simp only [e1]
  by_cases h1 : nOp n = 1
  · rw [decide_eq_true h1, cond_true]
    have hf := h.hf
    unfold FormP at hf
    have hv : 0 ≤ nVar n ∧ nVar n < (d.length : Int) := by omega
    have hdw := (h.hd.2.1 (nVar n).toNat (by omega)).2.1
    obtain ⟨N, hN⟩ : ∃ N : Nat, dw d (nVar n).toNat = (N : Int) := ⟨(dw d (nVar n).toNat).toNat, by omega⟩
    rw [if_pos (show (0 : Int) ≤ n.2.1 ∧ n.2.1 < (d.length : Int) from hv), show (d.getD n.2.1.toNat (Ty.zero Timpl_Decl)).2.1 = (N : Int) from hN]
    rw [single_seg (s := .va (nVar n).toNat 0 N) (by show 1 ≤ N; omega) (by
      show ((((nVar n).toNat : Nat) : Int), ((0 : Nat) : Int), (N : Int), ((0 : Int), ([] : List Int), ()), ()) = _
      rw [show (((nVar n).toNat : Nat) : Int) = n.2.1 by show _ = nVar n; omega]; rfl)]
    simp only [nodeBits, if_pos h1, hN, Int.toNat_natCast, Sg.bits, Nat.zero_add]
  rw [decide_eq_false h1, cond_false]
  by_cases h2 : nOp n = 2
  · rw [decide_eq_true h2, cond_true]
    have hf := h.hf
    unfold FormP at hf
    obtain ⟨m, hm1, hm2⟩ : ValP n := by
      rcases hf with h | h | h | h
      · omega
      · exact h.2.2
      · omega
      · omega
    have hl : ((List.range m).map fun k => bt (nWs n) k).length = m := by simp
    rw [show impl_cloneBits n.2.2.2.2.1 = some (nW n, nWs n) from cloneBits_ok h.hb.2.1, Option.bind_some]
    rw [single_seg (s := .co ((List.range m).map fun k => bt (nWs n) k)) (by show 1 ≤ List.length _; rw [hl]; exact hm2.1) (by
      show (-1, 0, ((((List.range m).map fun k => bt (nWs n) k).length : Nat) : Int), mkL ((List.range m).map fun k => bt (nWs n) k), ()) = _
      rw [mkL_eq (f := bt (nWs n)) hl (fun i hi => by simp [List.getD, hi]), hl, show mkB m (bt (nWs n)) = ((m : Int), nWs n, ()) by unfold mkB; rw [← hm2.eq]]
      simp only [impl_constant]
      rw [hm1])]
    simp only [nodeBits, if_neg h1, if_pos h2, hm1, Int.toNat_natCast, Sg.bits, List.map_map]
    rfl
  rw [decide_eq_false h2, cond_false]
  by_cases h3 : nOp n = 3
  · rw [decide_eq_true h3, cond_true, implCat_ok h h3]
    simp only [nodeBits, if_neg h1, if_neg h2, if_pos h3]
    rfl
  rw [decide_eq_false h3, cond_false]
  obtain ⟨h4, h9, B, rfl, hB, hs⟩ := h.one h1 h2 h3
  have hl := hB.1
  have hl4 := hB.2.1
  have hw := h.hw
  have g0 : ([B].map fN).getD 0 (Ty.zero (.sl Timpl_Seg)) = fN B := rfl
  have r0 : (0 : Int) ≤ (0 : Int) ∧ (0 : Int) < (([B].map fN).length : Int) := ⟨by omega, by simp⟩
  have hflen : (fN B).length ≤ 4096 := by
    unfold fN; rw [fV_len]
    have := len_le_wid (norm_full B)
    rw [norm_wid] at this; omega
  rw [hs] at hw
  rw [if_pos r0, g0, widthN hB, Option.bind_some]
  simp only [nodeBits, if_neg h1, if_neg h2, if_neg h3, List.getD_cons_zero] at hbl2 ⊢
  simp only [widF, if_neg h1, if_neg h2] at hw
  by_cases h4' : nOp n = 4
  · simp only [if_pos h4'] at hw hbl2 ⊢
    split at hw <;> rename_i hc
    · obtain ⟨A, hA⟩ : ∃ A : Nat, nA n = (A : Int) := ⟨(nA n).toNat, by omega⟩
      obtain ⟨L, hL⟩ : ∃ L : Nat, nB n = (L : Int) := ⟨(nB n).toNat, by omega⟩
      have hA' : n.2.2.1 = (A : Int) := hA
      have hL' : n.2.2.2.1 = (L : Int) := hL
      rw [decide_eq_true h4', cond_true, hA', hL', show IntKind.i64.wrap ((A : Int) - (L : Int)) = ((A - L : Nat) : Int) from wrapN (by omega) (by omega), show IntKind.i64.wrap (((A - L : Nat) : Int) + 1) = ((A - L + 1 : Nat) : Int) from wrapN (by omega) (by omega), partN h.hd hB (by omega), hA, hL, Int.toNat_natCast, Int.toNat_natCast]
      rw [List.drop_take, show A + 1 - L = A - L + 1 by omega]
      rfl
    · omega
  rw [decide_eq_false h4', cond_false]
  simp only [if_neg h4'] at hw hbl2 ⊢
  by_cases h78 : nOp n = 7 ∨ nOp n = 8
  · have h56 : ¬ (nOp n = 5 ∨ nOp n = 6) := by omega
    have h5 : ¬ nOp n = 5 := by omega
    have h6 : ¬ nOp n = 6 := by omega
    have h9' : ¬ nOp n = 9 := by omega
    simp only [if_neg h5, if_neg h6, if_neg h9', if_neg h56, if_pos h78] at hw ⊢
    split at hw <;> rename_i hc
    · obtain ⟨A, hA⟩ : ∃ A : Nat, nA n = (A : Int) := ⟨(nA n).toNat, by omega⟩
      have hA' : n.2.2.1 = (A : Int) := hA
      have hc1 : (bif decide (nOp n = 7) then decide (nOp n = 7) else decide (nOp n = 8)) = true := by
        rcases h78 with h | h <;> simp [h]
      have ht := turn_le (n := n) hl
      rw [hc1, cond_true, if_neg (by omega), hA']
      have hmod : Int.tmod (A : Int) (B.length : Int) = ((A % B.length : Nat) : Int) := rfl
      have hml : A % B.length < B.length := Nat.mod_lt _ (by omega)
      rw [show impl_TNode_flatten_l2 n (B.length : Int) (fN B) (Int.tmod (A : Int) (B.length : Int)) = some ((turnBy n B.length : Nat) : Int) by
        unfold impl_TNode_flatten_l2 turnBy
        rw [e1, hmod, hA, Int.toNat_natCast]
        by_cases h8 : nOp n = 8
        · rw [decide_eq_true h8, cond_true, if_neg (by omega), if_pos h8, show IntKind.i64.wrap ((B.length : Int) - ((A % B.length : Nat) : Int)) = ((B.length - A % B.length : Nat) : Int) from wrapN (by omega) (by omega)]
          rfl
        · rw [decide_eq_false h8, cond_false, if_neg h8], Option.bind_some]
      have hsub : IntKind.i64.wrap ((B.length : Int) - ((turnBy n B.length : Nat) : Int)) = ((B.length - turnBy n B.length : Nat) : Int) := wrapN (by omega) (by omega)
      have hz : (0 : Int) = ((0 : Nat) : Int) := rfl
      rw [hsub, partN h.hd hB (by omega), Option.bind_some, hz, partN h.hd hB (by omega), Option.bind_some, List.drop_zero, show List.take (turnBy n B.length) (List.drop (B.length - turnBy n B.length) B) = List.drop (B.length - turnBy n B.length) B from List.take_of_length_le (by rw [List.length_drop]; omega)]
      rw [raiseN h.hd (fun x hx => hB.2.2 x (List.mem_of_mem_drop hx)) (fun x hx => hB.2.2 x (List.mem_of_mem_take hx)) (by rw [List.length_drop, List.length_take]; omega)]
      rfl
    · omega
  have hc1 : (bif decide (nOp n = 7) then decide (nOp n = 7) else decide (nOp n = 8)) = false := by
    rw [show ¬ nOp n = 7 ∧ ¬ nOp n = 8 by omega |> fun h => (decide_eq_false h.1 : decide (nOp n = 7) = false), cond_false]
    exact decide_eq_false (by omega)
  rw [hc1, cond_false]
  by_cases h9' : nOp n = 9
  · have h56 : ¬ (nOp n = 5 ∨ nOp n = 6) := by omega
    have h5 : ¬ nOp n = 5 := by omega
    have h6 : ¬ nOp n = 6 := by omega
    simp only [if_neg h5, if_neg h6, if_pos h9', if_neg h56, if_neg h78] at hw hbl2 ⊢
    split at hw <;> rename_i hc
    · obtain ⟨A, hA⟩ : ∃ A : Nat, nA n = (A : Int) := ⟨(nA n).toNat, by omega⟩
      have hA' : n.2.2.1 = (A : Int) := hA
      rw [hA] at hw hbl2
      simp only [Int.toNat_natCast, List.length_flatten, List.map_replicate, List.sum_replicate_nat] at hbl2
      rw [decide_eq_true h9', cond_true, hA']
      rw [show impl_TNode_flatten_l3 (fN B) (A : Int) 0 [] = some (fN (List.replicate A B).flatten) by
        unfold impl_TNode_flatten_l3
        have := fix_seq0 (f := impl_TNode_flatten_l3_r (fN B) (A : Int)) (fun k => ((k : Int), fN (List.replicate k B).flatten)) (t := fN (List.replicate A B).flatten) A (fun k hk => by
          unfold impl_TNode_flatten_l3_r impl_TNode_flatten_l3_g
          simp only
          have hkl : (k + 1) * B.length ≤ A * B.length := Nat.mul_le_mul_right _ (by omega)
          have hkl2 : (k + 1) * B.length = k * B.length + B.length := Nat.succ_mul _ _
          have hA2 : A ≤ A * B.length := Nat.le_mul_of_pos_right _ (by omega)
          rw [dlt hk, cond_true, raiseN h.hd (fun x hx => by
            obtain ⟨C, hC, hx⟩ := List.mem_flatten.1 hx
            rw [(List.mem_replicate.1 hC).2] at hx
            exact hB.2.2 x hx) hB.2.2 (by rw [List.length_flatten, List.map_replicate, List.sum_replicate_nat]; omega), Option.bind_some, stepN hk (by omega), List.replicate_succ', List.flatten_append]
          simp) (by
          unfold impl_TNode_flatten_l3_r impl_TNode_flatten_l3_g
          simp only
          rw [dge, cond_false])
        exact this, hA]
      rfl
    · omega
  have h56 : nOp n = 5 ∨ nOp n = 6 := by omega
  rw [decide_eq_false h9', cond_false]
  simp only [if_neg h9', if_pos h56] at hw hbl2 ⊢
  split at hw <;> rename_i hc
  · obtain ⟨A, hA⟩ : ∃ A : Nat, nA n = (A : Int) := ⟨(nA n).toNat, by omega⟩
    have hA' : n.2.2.1 = (A : Int) := hA
    have hz1 : impl_zeroBits 1 = some (1, [0]) := zeroBits_ok (n := 1) (by omega)
    rw [hz1, Option.bind_some]
    rw [if_pos (by omega)]
    by_cases h6 : nOp n = 6
    · have h5 : ¬ nOp n = 5 := by omega
      have hlast : BitIn d (B.getD (B.length - 1) (.co false)) := hB.2.2 _ (getD_mem (by omega))
      rw [show impl_TNode_flatten_l4 n (B.length : Int) (fN B) (fN B) (impl_constant 1 [0]).1 (impl_constant 1 [0]).2.1 (impl_constant 1 [0]).2.2.1 (impl_constant 1 [0]).2.2.2.1 (impl_constant 1 [0]).2.2.2.2 = some (.inl (sgV (B.getD (B.length - 1) (.co false)).sg)) by
        unfold impl_TNode_flatten_l4
        rw [e1, decide_eq_true h6, cond_true, show IntKind.i64.wrap ((B.length : Int) - 1) = ((B.length - 1 : Nat) : Int) from wrapN (by omega) (by omega), show (1 : Int) = ((1 : Nat) : Int) from rfl, partN h.hd hB (by omega), Option.bind_some]
        have : (B.drop (B.length - 1)).take 1 = [B.getD (B.length - 1) (.co false)] := by
          rw [List.drop_eq_getElem_cons (by omega), show B.getD (B.length - 1) (.co false) = B[B.length - 1] by simp [List.getD, show B.length - 1 < B.length by omega]]; rfl
        rw [this, fN_one, if_pos ⟨by omega, by simp⟩]
        rfl, Option.bind_some]
      simp only [Sum.elim_inl, if_neg h5, if_pos h6, hA, Int.toNat_natCast]
      rw [hA']
      unfold impl_TNode_flatten_l5
      rw [rep_raise (f := impl_TNode_flatten_l5_r (sgV (B.getD (B.length - 1) (.co false)).sg) (A : Int)) h.hd hB hlast (A := A) (by omega) (fun x => rfl)]
      rfl
    · have h5 : nOp n = 5 := by omega
      rw [show impl_TNode_flatten_l4 n (B.length : Int) (fN B) (fN B) (impl_constant 1 [0]).1 (impl_constant 1 [0]).2.1 (impl_constant 1 [0]).2.2.1 (impl_constant 1 [0]).2.2.2.1 (impl_constant 1 [0]).2.2.2.2 = some (.inr ()) by
        unfold impl_TNode_flatten_l4
        rw [e1, decide_eq_false h6, cond_false], Option.bind_some]
      simp only [Sum.elim_inr, if_pos h5, hA, Int.toNat_natCast]
      rw [hA']
      have hco : ((impl_constant 1 [0]).1, (impl_constant 1 [0]).2.1, (impl_constant 1 [0]).2.2.1, ((impl_constant 1 [0]).2.2.2.1, (impl_constant 1 [0]).2.2.2.2, ()), ()) = sgV (Bt.co false).sg := rfl
      rw [hco]
      unfold impl_TNode_flatten_l6
      rw [rep_raise (f := impl_TNode_flatten_l6_r (A : Int) (sgV (Bt.co false).sg)) h.hd hB (show BitIn d (.co false) from trivial) (A := A) (by omega) (fun x => rfl)]
      rfl
  · omega
end Go.Proofs.X
