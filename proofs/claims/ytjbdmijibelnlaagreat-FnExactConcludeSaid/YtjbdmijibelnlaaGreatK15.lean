import Derived.Test.YtjbdmijibelnlaaGreatK14
set_option linter.unusedVariables false
set_option linter.unusedSimpArgs false
namespace Go.Proofs.X
open Go Go.Va
set_option maxRecDepth 100000
def part (s : Sg) (a w : Nat) : Sg :=
  match s with
  | .co bs => .co ((bs.drop a).take w)
  | .va v l _ => .va v (l + a) w
theorem part_bits {s : Sg} {a w : Nat} (h : a + w ≤ s.w) : (part s a w).bits = (s.bits.drop a).take w := by
  cases s with
  | co bs => simp [part, Sg.bits]
  | va v l n =>
    simp only [Sg.w] at h
    simp only [part, Sg.bits]
    refine List.ext_getElem (by simp; omega) fun i h1 h2 => ?_
    simp [Nat.add_assoc]
theorem part_w {s : Sg} {a w : Nat} (h : a + w ≤ s.w) : (part s a w).w = w := by
  rw [← bits_len, part_bits h, List.length_take, List.length_drop, bits_len]; omega
theorem part_small {s : Sg} {a w : Nat} (hs : SgB s) (h : a + w ≤ s.w) : SgB (part s a w) := by
  cases s with
  | co bs => simp only [part, SgB, List.length_take, List.length_drop] at *; omega
  | va v l n => simp only [part, SgB, Sg.w] at *; omega
theorem segPart_ok {s : Sg} {a w : Nat} (hs : SgB s) (h1 : 1 ≤ w) (h : a + w ≤ s.w) : ∃ r, impl_Seg_part (sgV s) (a : Int) (w : Int) = some r ∧ (r.1, r.2.1, r.2.2.1, (r.2.2.2.1, r.2.2.2.2, ()), ()) = sgV (part s a w) := by
  unfold impl_Seg_part
  cases s with
  | co bs =>
    simp only [SgB] at hs
    simp only [Sg.w] at h
    obtain ⟨r, hr1, hr2⟩ := cutL_ok (show bs.length ≤ 8192 by omega) h1 h
    rw [show ((sgV (.co bs)).1 == (-1 : Int)) = true from rfl, cond_true, show impl_Bits_cut (sgV (.co bs)).2.2.2.1 (a : Int) (w : Int) = some r from hr1]
    refine ⟨_, rfl, ?_⟩
    have hw : r.1 = (w : Int) := by
      have := congrArg (fun x : Timpl_Bits.V => x.1) hr2
      have e : r.1 = ((((bs.drop a).take w).length : Nat) : Int) := this
      rw [e, List.length_take, List.length_drop]; congr 1; omega
    show (-1, 0, r.1, (r.1, r.2, ()), ()) = sgV (.co ((bs.drop a).take w))
    rw [hr2]
    rw [show sgV (.co ((bs.drop a).take w)) = (-1, 0, (((bs.drop a).take w).length : Int), mkL ((bs.drop a).take w), ()) from rfl, hw, show ((bs.drop a).take w).length = w by rw [List.length_take, List.length_drop]; omega]
  | va v l n =>
    simp only [SgB] at hs
    simp only [Sg.w] at h
    rw [show ((sgV (.va v l n)).1 == (-1 : Int)) = false by simp [sgV], cond_false]
    refine ⟨_, rfl, ?_⟩
    simp only [part, sgV]
    rw [show IntKind.i64.wrap ((l : Int) + (a : Int)) = ((l + a : Nat) : Int) from wrapN (by omega) (by omega)]
theorem fGet {f : List Sg} {k : Nat} (h : k < f.length) : (fV f).getD k (Ty.zero Timpl_Seg) = sgV (f.getD k (.co [])) := getD_map sgV h
theorem bitsL_take_succ {f : List Sg} {k : Nat} (h : k < f.length) : bitsL (f.take (k + 1)) = bitsL (f.take k) ++ (f.getD k (.co [])).bits := by
  rw [take_succ_getD h (z := .co [])]
  simp [bitsL]
theorem sgV_w (s : Sg) : (sgV s).2.2.1 = (s.w : Int) := by cases s <;> rfl
theorem cut_part {B S : List Bt} {lo w : Nat} : ((B ++ S).drop lo).take w = (B.drop lo).take w ++ (S.drop (max lo B.length - B.length)).take (min (lo + w) (B.length + S.length) - max lo B.length) := by
  rw [List.drop_append, List.take_append, List.length_drop]
  congr 1
  rw [show max lo B.length - B.length = lo - B.length by omega, List.take_eq_take_iff, List.length_drop]
  omega
theorem norm_small {bs : List Bt} (hb : ∀ b ∈ bs, SgB b.sg) (hl : bs.length ≤ 4096) : ∀ s ∈ norm bs, SgB s := by
  have : ∀ (bs : List Bt) (f : List Sg), (∀ b ∈ bs, SgB b.sg) → (∀ s ∈ f, SgB s) → widL f + bs.length ≤ 4096 → ∀ s ∈ addB f bs, SgB s := fun bs => by
    induction bs with
    | nil => exact fun f _ h _ => h
    | cons b bs ih =>
      intro f hb hf hw
      simp only [List.length_cons] at hw
      exact ih _ (fun x hx => hb x (List.mem_cons_of_mem _ hx)) (raise1_small hf (hb b List.mem_cons_self) (by rw [sg_w]; omega)) (by rw [raise1_wid, sg_w]; omega)
  exact this bs [] hb (fun s hs => by cases hs) (by show 0 + _ ≤ _; omega)
theorem flatPart_ok {f : List Sg} {lo w : Nat} (h1 : Full f) (hf : ∀ s ∈ f, SgB s) (hb : ∀ b ∈ bitsL f, SgB b.sg) (hw : widL f ≤ 4096) (hlo : lo + w ≤ 8192) : impl_flatPart (fV f) (lo : Int) (w : Int) = some (fV (norm (((bitsL f).drop lo).take w))) := by
  unfold impl_flatPart impl_flatPart_l2
  have hlen := len_le_wid h1
  have := fix_seq0 (f := impl_flatPart_l2_r (lo : Int) (w : Int) (fV f) ((fV f).length : Int)) (fun k => ((widL (f.take k) : Int), (k : Int), fV (norm (((bitsL (f.take k)).drop lo).take w)))) (t := fV (norm (((bitsL f).drop lo).take w))) f.length (fun k hk => by
    have hwk := widL_take_succ hk
    have hle := widL_take_le f (k + 1)
    have hm : f.getD k (.co []) ∈ f := getD_mem hk
    obtain ⟨s, hs⟩ : ∃ s, s = f.getD k (.co []) := ⟨_, rfl⟩
    have hB : (bitsL (f.take k)).length = widL (f.take k) := bits_len_list _
    have hpre : ∀ b ∈ ((bitsL (f.take k)).drop lo).take w, b ∈ bitsL f := fun b hb => by
      have := List.mem_of_mem_drop (List.mem_of_mem_take hb)
      rw [show bitsL f = bitsL (f.take k) ++ bitsL (f.drop k) by unfold bitsL; rw [← List.flatMap_append, List.take_append_drop]]
      exact List.mem_append_left _ this
    unfold impl_flatPart_l2_r impl_flatPart_l2_g
    simp only
    rw [fV_len, dlt hk, cond_true, if_pos (rng hk), Int.toNat_natCast, fGet hk, stepN hk (by omega), bitsL_take_succ hk, cut_part, hB, bits_len, hwk]
    rw [← hs] at hm hwk ⊢
    rw [sgV_w, show IntKind.i64.wrap ((widL (f.take k) : Int) + (s.w : Int)) = ((widL (f.take k) + s.w : Nat) : Int) from wrapN (by omega) (by omega), show IntKind.i64.wrap ((lo : Int) + (w : Int)) = ((lo + w : Nat) : Int) from wrapN (by omega) (by omega)]
    generalize hA : widL (f.take k) = A at *
    rw [show (if (A : Int) > (lo : Int) then (A : Int) else (lo : Int)) = ((max lo A : Nat) : Int) by split <;> omega]
    rw [show (if ((A + s.w : Nat) : Int) < ((lo + w : Nat) : Int) then ((A + s.w : Nat) : Int) else ((lo + w : Nat) : Int)) = ((min (lo + w) (A + s.w) : Nat) : Int) by split <;> omega]
    unfold impl_flatPart_l1
    by_cases hlt : max lo A < min (lo + w) (A + s.w)
    · rw [show decide (((max lo A : Nat) : Int) < ((min (lo + w) (A + s.w) : Nat) : Int)) = true by simp only [decide_eq_true_eq]; omega, cond_true]
      rw [show IntKind.i64.wrap (((max lo A : Nat) : Int) - (A : Int)) = ((max lo A - A : Nat) : Int) from wrapN (by omega) (by omega), show IntKind.i64.wrap (((min (lo + w) (A + s.w) : Nat) : Int) - ((max lo A : Nat) : Int)) = ((min (lo + w) (A + s.w) - max lo A : Nat) : Int) from wrapN (by omega) (by omega)]
      have hin : max lo A - A + (min (lo + w) (A + s.w) - max lo A) ≤ s.w := by omega
      obtain ⟨r, hr1, hr2⟩ := segPart_ok (a := max lo A - A) (w := min (lo + w) (A + s.w) - max lo A) (hf s hm) (by omega) hin
      rw [hr1, Option.bind_some, hr2]
      rw [show ([sgV (part s (max lo A - A) (min (lo + w) (A + s.w) - max lo A))] : List Timpl_Seg.V) = fV [part s (max lo A - A) (min (lo + w) (A + s.w) - max lo A)] from rfl]
      rw [raise_ok (fun x hx => by rw [List.mem_singleton] at hx; rw [hx, part_w hin]; omega) (norm_full _) (fun x hx => by rw [List.mem_singleton] at hx; rw [hx]; exact part_small (hf s hm) hin)
        (norm_small (fun b hb' => hb b (hpre b hb')) (by rw [List.length_take, List.length_drop, hB]; omega)) (by
          rw [norm_wid, List.length_take, List.length_drop, hB]
          show _ + (widL [part s _ _]) ≤ _
          rw [show widL [part s (max lo A - A) (min (lo + w) (A + s.w) - max lo A)] = min (lo + w) (A + s.w) - max lo A by simp only [widL, List.map_cons, List.map_nil, List.sum_cons, List.sum_nil, part_w hin]; rfl]
          omega)]
      simp only [Option.bind_some]
      rw [raises_addB (fun x hx => by rw [List.mem_singleton] at hx; rw [hx, part_w hin]; omega)]
      rw [show bitsL [part s (max lo A - A) (min (lo + w) (A + s.w) - max lo A)] = (s.bits.drop (max lo A - A)).take (min (lo + w) (A + s.w) - max lo A) by simp [bitsL, part_bits hin]]
      rw [show ∀ a b : List Bt, addB (norm a) b = norm (a ++ b) from fun a b => (addB_append [] a b).symm]
    · rw [show decide (((max lo A : Nat) : Int) < ((min (lo + w) (A + s.w) : Nat) : Int)) = false by simp only [decide_eq_false_iff_not]; omega, cond_false]
      simp only [Option.bind_some]
      rw [show min (lo + w) (A + s.w) - max lo A = 0 by omega, List.take_zero, List.append_nil]) (by
    unfold impl_flatPart_l2_r impl_flatPart_l2_g
    simp only
    rw [fV_len, dge, cond_false, List.take_of_length_le (Nat.le_refl _)])
  have h0 : ((widL (f.take 0) : Int), ((0 : Nat) : Int), fV (norm (((bitsL (f.take 0)).drop lo).take w))) = ((0 : Int), (0 : Int), ([] : List Timpl_Seg.V)) := by
    simp [widL, bitsL, norm, addB, fV]
  rw [h0] at this
  rw [this]
  rfl
def BtB : Bt → Prop
  | .co _ => True
  | .va v a => v ≤ 4096 ∧ a + 1 ≤ 4096
theorem btB_sg {b : Bt} (h : BtB b) : SgB b.sg := by
  cases b with
  | co b => simp [Bt.sg, SgB]
  | va v a => exact h
theorem sg_btB {s : Sg} (h : SgB s) : ∀ b ∈ s.bits, BtB b := fun b hb => by
  cases s with
  | co bs => obtain ⟨x, _, rfl⟩ := List.mem_map.1 hb; trivial
  | va v l n =>
    obtain ⟨k, hk, rfl⟩ := List.mem_map.1 hb
    have := List.mem_range.1 hk
    simp only [SgB] at h
    exact ⟨h.1, by omega⟩
theorem bV_len (f : List Bt) : (bV f).length = f.length := List.length_map _
theorem bV_append (f g : List Bt) : bV (f ++ g) = bV f ++ bV g := List.map_append
theorem bGet {f : List Bt} {k : Nat} (h : k < f.length) : (bV f).getD k (Ty.zero Tspec_l5Bit) = btV (f.getD k (.co false)) := getD_map btV h
theorem take_bits_succ {f : List Bt} {k : Nat} (h : k < f.length) : f.take (k + 1) = f.take k ++ [f.getD k (.co false)] := take_succ_getD h
theorem mkL_words (bs : List Bool) : (mkL bs).2.1.length = nw bs.length ∧ Words (mkL bs).2.1 := ⟨mkW_len _ _, mkW_words _ _⟩
theorem mkL_bit {bs : List Bool} {k : Nat} (h : k < bs.length) (hl : bs.length ≤ 8192) : spec_l1Bit (mkL bs) (k : Int) = some (bI (bs.getD k false)) := by
  have := l1Bit_ok (w := (bs.length : Int)) (mkW_words (low (fun i => bs.getD i false) bs.length) (nw bs.length)) (i := k) (by rw [mkW_len]; unfold nw; omega) (by rw [mkW_len]; unfold nw; omega)
  rw [bt_mkB h] at this
  exact this
theorem l5Bits_seg {f : List Sg} {i : Nat} {B : List Bt} (hi : i < f.length) (hs : SgB (f.getD i (.co []))) (hB : B.length ≤ 8192) : spec_l5Bits_l4 (fV f) (i : Int) 0 (bV B) = some (bV (B ++ (f.getD i (.co [])).bits)) := by
  unfold spec_l5Bits_l4
  obtain ⟨s, hse⟩ : ∃ s, s = f.getD i (.co []) := ⟨_, rfl⟩
  rw [← hse] at hs ⊢
  have hsw : s.w ≤ 4096 := by cases s <;> simp only [SgB, Sg.w] at * <;> omega
  have := fix_seq0 (f := spec_l5Bits_l4_r (fV f) (i : Int)) (fun k => ((k : Int), bV (B ++ s.bits.take k))) (t := bV (B ++ s.bits)) s.w (fun k hk => by
    unfold spec_l5Bits_l4_r spec_l5Bits_l4_g spec_l5Bits_l3
    simp only
    have hrg : (0 : Int) ≤ (i : Int) ∧ (i : Int) < ((fV f).length : Int) := rng (by rw [fV_len]; exact hi)
    rw [if_pos hrg, Int.toNat_natCast, fGet hi, ← hse, sgV_w, dlt hk, cond_true, if_pos hrg]
    have hlen : (bV (B ++ s.bits.take k)).length ≤ 20000 := by rw [bV_len, List.length_append, List.length_take]; omega
    have hk' : k < s.bits.length := by rw [bits_len]; exact hk
    rw [stepN hk (by omega), take_bits_succ hk', ← List.append_assoc, show bV (B ++ s.bits.take k ++ [s.bits.getD k (.co false)]) = bV (B ++ s.bits.take k) ++ [btV (s.bits.getD k (.co false))] from bV_append _ _]
    cases s with
    | co bs =>
      simp only [Sg.w] at hk hsw
      rw [show decide ((sgV (.co bs)).1 < 0) = true from rfl, cond_true, if_pos hrg, show spec_l1Bit (sgV (.co bs)).2.2.2.1 (k : Int) = some (bI (bs.getD k false)) from mkL_bit hk (by omega), Option.bind_some]
      rw [if_pos (by show (_ + 1) * 16 ≤ _; omega), Option.bind_some]
      rw [show IntKind.i64.wrap (bI (bs.getD k false)) = bI (bs.getD k false) by cases bs.getD k false <;> rfl]
      rw [show (Sg.co bs).bits.getD k (.co false) = .co (bs.getD k false) by simp [Sg.bits, List.getD, hk]]
      rfl
    | va v l n =>
      simp only [Sg.w, SgB] at hk hs hsw
      rw [show decide ((sgV (.va v l n)).1 < 0) = false from decide_eq_false (show ¬ ((v : Int) < 0) by omega), cond_false, if_pos hrg, if_pos hrg, if_pos (by show (_ + 1) * 16 ≤ _; omega), Option.bind_some]
      rw [show IntKind.i64.wrap ((sgV (.va v l n)).2.1 + (k : Int)) = ((l + k : Nat) : Int) from wrapN (by show (l : Int) + (k : Int) = _; omega) (by omega)]
      rw [show (Sg.va v l n).bits.getD k (.co false) = .va v (l + k) by simp [Sg.bits, List.getD, hk]]
      rfl) (by
    unfold spec_l5Bits_l4_r spec_l5Bits_l4_g
    simp only
    have hrg : (0 : Int) ≤ (i : Int) ∧ (i : Int) < ((fV f).length : Int) := rng (by rw [fV_len]; exact hi)
    rw [if_pos hrg, Int.toNat_natCast, fGet hi, ← hse, sgV_w, dge, cond_false, ← bits_len, List.take_of_length_le (Nat.le_refl _)])
  rw [List.take_zero, List.append_nil] at this
  exact this
theorem l5Bits_ok {f : List Sg} (h1 : Full f) (hf : ∀ s ∈ f, SgB s) (hw : widL f ≤ 4096) : spec_l5Bits (fV f) = some (bV (bitsL f)) := by
  unfold spec_l5Bits spec_l5Bits_l5
  have hlen := len_le_wid h1
  have := fix_seq0 (f := spec_l5Bits_l5_r (fV f)) (fun k => ((k : Int), bV (bitsL (f.take k)))) (t := bV (bitsL f)) f.length (fun k hk => by
    unfold spec_l5Bits_l5_r spec_l5Bits_l5_g
    simp only
    have := widL_take_le f k
    rw [fV_len, dlt hk, cond_true, l5Bits_seg hk (hf _ (getD_mem hk)) (by rw [bits_len_list]; omega), Option.bind_some, stepN hk (by omega), bitsL_take_succ hk]) (by
    unfold spec_l5Bits_l5_r spec_l5Bits_l5_g
    simp only
    rw [fV_len, dge, cond_false, List.take_of_length_le (Nat.le_refl _)])
  rw [show fix (spec_l5Bits_l5_r (fV f)) (0, ([] : List Tspec_l5Bit.V)) = some (bV (bitsL f)) from this]
  rfl
end Go.Proofs.X
namespace Go.Proofs.X
open Go Go.Va
set_option maxRecDepth 100000
theorem btV_neg (b : Bt) : decide ((btV b).1 < 0) = (match b with | .co _ => true | .va _ _ => false) := by
  cases b with
  | co b => rfl
  | va v a => exact decide_eq_false (show ¬ ((v : Int) < 0) by omega)
theorem run_co {B : List Bt} {D : List Timpl_Seg.V} {i : Nat} {b : Bool} (hi : i < B.length) (hb : B.getD i (.co false) = .co b) (hl : B.length ≤ 4096) :
    Ret (spec_l5Form_l6 (bV B) D ((i + 1 : Nat) : Int) [bI b]) fun r => ∃ bs : List Bool, r = (((i + bs.length : Nat) : Int), bs.map bI) ∧ 1 ≤ bs.length ∧ i + bs.length ≤ B.length ∧ bs.getD 0 false = b ∧ B.take (i + bs.length) = B.take i ++ bs.map .co ∧ (i + bs.length < B.length → ∃ v a, B.getD (i + bs.length) (.co false) = .va v a) := by
  unfold spec_l5Form_l6
  refine fix_rule (fun m (x : Int × List Int) => ∃ bs : List Bool, x = (((i + bs.length : Nat) : Int), bs.map bI) ∧ 1 ≤ bs.length ∧ i + bs.length ≤ B.length ∧ bs.getD 0 false = b ∧ B.take (i + bs.length) = B.take i ++ bs.map .co ∧ m = B.length - (i + bs.length)) (fun m x hI => ?_) (B.length - (i + 1)) _ ⟨[b], rfl, by simp, hi, rfl, by
    show B.take (i + 1) = _; rw [take_bits_succ hi, hb]; rfl, rfl⟩
  obtain ⟨bs, rfl, h1, h2, h3, h4, rfl⟩ := hI
  unfold spec_l5Form_l6_r spec_l5Form_l6_g spec_l5Form_l5
  simp only
  rcases Nat.lt_or_ge (i + bs.length) B.length with h | h
  · rw [bV_len, dlt h, cond_true, if_pos (rng h), Int.toNat_natCast, bGet h, btV_neg]
    cases hx : B.getD (i + bs.length) (.co false) with
    | co y =>
      simp only [cond_true, Option.bind_some, Sum.elim_inl]
      rw [if_pos (rng h), if_pos (by show (_ + 1) * 1 ≤ _; rw [List.length_map]; omega), stepN h (by omega)]
      refine Ret.mk ⟨_, ?_, bs ++ [y], ?_, by simp, by simp; omega, ?_, ?_, rfl⟩
      · simp only [List.length_append, List.length_cons, List.length_nil]; omega
      · rw [show IntKind.u8.wrap (btV (.co y)).2.1 = bI y by cases y <;> rfl]
        simp [Nat.add_assoc]
      · rw [← h3]
        cases bs with
        | nil => simp at h1
        | cons z zs => rfl
      · rw [List.length_append, ← Nat.add_assoc]
        show B.take (i + bs.length + 1) = _
        rw [take_bits_succ h, h4, hx, List.map_append, List.append_assoc]; rfl
    | va v a =>
      simp only [cond_false, Option.bind_some, Sum.elim_inr]
      exact Ret.mk ⟨bs, rfl, h1, h2, h3, h4, fun _ => ⟨v, a, hx⟩⟩
  · rw [bV_len, show decide (((i + bs.length : Nat) : Int) < (B.length : Int)) = false from decide_eq_false (by omega), cond_false, Option.bind_some, Sum.elim_inr]
    exact Ret.mk ⟨bs, rfl, h1, h2, h3, h4, fun h' => absurd h' (by omega)⟩
theorem run_va {B : List Bt} {D : List Timpl_Seg.V} {i v a : Nat} (hi : i < B.length) (hb : B.getD i (.co false) = .va v a) (hB : ∀ b ∈ B, BtB b) (hl : B.length ≤ 4096) :
    Ret (spec_l5Form_l8 (bV B) (i : Int) D ((i + 1 : Nat) : Int)) fun r => ∃ n, r = ((i + n : Nat) : Int) ∧ 1 ≤ n ∧ i + n ≤ B.length ∧ B.take (i + n) = B.take i ++ (Sg.va v a n).bits ∧ (i + n < B.length → (Sg.va v a n).join (B.getD (i + n) (.co false)).sg = none) := by
  unfold spec_l5Form_l8
  refine fix_rule (fun m (x : Int) => ∃ n, x = ((i + n : Nat) : Int) ∧ 1 ≤ n ∧ i + n ≤ B.length ∧ B.take (i + n) = B.take i ++ (Sg.va v a n).bits ∧ m = B.length - (i + n)) (fun m x hI => ?_) (B.length - (i + 1)) _ ⟨1, rfl, by omega, hi, by
    rw [take_bits_succ hi, hb]; rfl, rfl⟩
  obtain ⟨n, rfl, h1, h2, h4, rfl⟩ := hI
  unfold spec_l5Form_l8_r spec_l5Form_l8_g spec_l5Form_l7
  have hprev : B.getD (i + n - 1) (.co false) = .va v (a + n - 1) := by
    have e : (B.take (i + n)).getD (i + n - 1) (.co false) = B.getD (i + n - 1) (.co false) := by
      simp only [List.getD, List.getElem?_take, show i + n - 1 < i + n by omega, if_true]
    rw [← e, h4]
    have hti : (B.take i).length = i := by rw [List.length_take]; omega
    simp only [List.getD, List.getElem?_append, hti, show ¬ i + n - 1 < i by omega, if_false]
    rw [show i + n - 1 - i = n - 1 by omega]
    simp only [Sg.bits, List.getElem?_map, List.getElem?_range, show n - 1 < n by omega, Option.map_some, Option.getD_some]
    congr 1; omega
  have hba := hB (.va v (a + n - 1)) (by rw [← hprev]; exact getD_mem (by omega))
  simp only [BtB] at hba
  rcases Nat.lt_or_ge (i + n) B.length with h | h
  · rw [bV_len, dlt h, cond_true, if_pos (rng h), Int.toNat_natCast, Int.toNat_natCast, bGet h, if_pos (rng hi), bGet hi, hb]
    rw [show IntKind.i64.wrap (((i + n : Nat) : Int) - 1) = ((i + n - 1 : Nat) : Int) from wrapN (by omega) (by omega), Int.toNat_natCast, bGet (by omega), hprev, if_pos (rng h), if_pos (rng (by omega))]
    rw [show IntKind.i64.wrap ((btV (.va v (a + n - 1))).2.1 + 1) = ((a + n : Nat) : Int) from wrapN (by show ((a + n - 1 : Nat) : Int) + 1 = _; omega) (by omega)]
    by_cases hc : B.getD (i + n) (.co false) = .va v (a + n)
    · rw [hc]
      rw [show ((btV (.va v (a + n))).1 == (btV (.va v a)).1) = true from beq_self_eq_true (v : Int), cond_true, show ((btV (.va v (a + n))).2.1 == ((a + n : Nat) : Int)) = true from beq_self_eq_true _, cond_true, Option.bind_some, Sum.elim_inl, stepN h (by omega)]
      refine Ret.mk ⟨_, ?_, n + 1, by rw [Nat.add_assoc], by omega, by omega, ?_, rfl⟩
      · omega
      · rw [← Nat.add_assoc, take_bits_succ h, h4, hc]
        simp [Sg.bits, List.range_succ]
    · have hno : (bif ((btV (B.getD (i + n) (.co false))).1 == (btV (.va v a)).1) then (bif ((btV (B.getD (i + n) (.co false))).2.1 == ((a + n : Nat) : Int)) then some (.inl ()) else some (.inr ())) else some (.inr ()) : Option (Unit ⊕ Unit)) = some (.inr ()) := by
        cases hx : B.getD (i + n) (.co false) with
        | co y => rw [show ((btV (.co y)).1 == (btV (.va v a)).1) = false by simp [btV]]; rfl
        | va v' a' =>
          by_cases hv : v' = v
          · by_cases ha : a' = a + n
            · subst hv ha; exact absurd hx hc
            · rw [show ((btV (.va v' a')).2.1 == ((a + n : Nat) : Int)) = false from beq_eq_false_iff_ne.2 fun e => ha (Int.ofNat.inj e)]
              cases ((btV (.va v' a')).1 == (btV (.va v a)).1) <;> rfl
          · rw [show ((btV (.va v' a')).1 == (btV (.va v a)).1) = false from beq_eq_false_iff_ne.2 fun e => hv (Int.ofNat.inj e)]; rfl
      refine Ret.of (a := .inr ((i + n : Nat) : Int)) (by
        have := congrArg (fun o => o.bind (Sum.elim (fun (_ : Unit) => some (.inl (IntKind.i64.wrap (((i + n : Nat) : Int) + 1)))) (fun (_ : Unit) => some (.inr ((i + n : Nat) : Int) : Int ⊕ Int)))) hno
        exact this) ?_
      refine ⟨n, rfl, h1, h2, h4, fun _ => ?_⟩
      cases hx : B.getD (i + n) (.co false) with
      | co y => rfl
      | va v' a' =>
        simp only [Sg.join, Bt.sg]
        rw [if_neg]
        rintro ⟨rfl, rfl⟩
        exact hc hx
  · rw [bV_len, show decide (((i + n : Nat) : Int) < (B.length : Int)) = false from decide_eq_false (by omega), cond_false, Option.bind_some, Sum.elim_inr]
    exact Ret.mk ⟨n, rfl, h1, h2, h4, fun h' => absurd h' (by omega)⟩
theorem stop_seg {l s : Sg} {b : Bt} {r : List Bt} (hs : s.bits = b :: r) (h : l.join b.sg = none) : l.join s = none := by
  cases s with
  | co bs =>
    cases bs with
    | nil => simp [Sg.bits] at hs
    | cons x xs =>
      simp only [Sg.bits, List.map_cons, List.cons.injEq] at hs
      obtain ⟨rfl, _⟩ := hs
      cases l <;> simp [Sg.join, Bt.sg] at h ⊢
  | va v a n =>
    cases n with
    | zero => simp [Sg.bits] at hs
    | succ n =>
      simp only [Sg.bits, List.range_succ_eq_map, List.map_cons, List.cons.injEq] at hs
      obtain ⟨rfl, _⟩ := hs
      cases l with
      | co y => rfl
      | va v' l' n' =>
        simp only [Sg.join, Bt.sg, Nat.add_zero] at h ⊢
        split at h
        · cases h
        · rename_i hc; rw [if_neg hc]
def Stop (f : List Sg) (b : Bt) : Prop := ∀ l, f.getLast? = some l → l.join b.sg = none
theorem stop_raise {f : List Sg} {s : Sg} {b : Bt} {r : List Bt} (h : Stop f b) (hs : s.bits = b :: r) : raise1 f s = f ++ [s] := by
  unfold raise1
  cases hl : f.getLast? with
  | none => rw [List.getLast?_eq_none_iff] at hl; subst hl; rfl
  | some l => simp only [stop_seg hs (h l hl)]
theorem norm_seg {B : List Bt} {s : Sg} {b : Bt} {r : List Bt} (h : Stop (norm B) b) (hs : s.bits = b :: r) (hw : 1 ≤ s.w) : norm (B ++ s.bits) = norm B ++ [s] := by
  rw [show norm (B ++ s.bits) = addB (norm B) s.bits from addB_append [] B s.bits, ← raise1_addB _ s _ rfl hw, stop_raise h hs]
theorem l5Form_ok {B : List Bt} (hB : ∀ b ∈ B, BtB b) (hl : B.length ≤ 4096) : spec_l5Form (bV B) = some (decide ((norm B).length ≤ 2000), fV (norm B)) := by
  unfold spec_l5Form spec_l5Form_l10
  refine Ret.eq_ (Ret.bind (P := fun r => r = fV (norm B)) ?_ fun r hr => Ret.mk (by
    rw [hr, fV_len]
    congr 1
    rw [decide_eq_decide]; omega))
  refine fix_rule (fun m (x : Int × List Timpl_Seg.V) => ∃ i : Nat, x = ((i : Int), fV (norm (B.take i))) ∧ i ≤ B.length ∧ (i < B.length → Stop (norm (B.take i)) (B.getD i (.co false))) ∧ m = B.length - i) (fun m x hI => ?_) B.length _ ⟨0, rfl, Nat.zero_le _, fun _ l hl => by simp [norm, addB] at hl, rfl⟩
  obtain ⟨i, rfl, hi, hst, rfl⟩ := hI
  unfold spec_l5Form_l10_r spec_l5Form_l10_g
  simp only
  rcases Nat.lt_or_ge i B.length with h | h
  · rw [bV_len, dlt h, cond_true, stepN h (by omega)]
    have hfl : (fV (norm (B.take i))).length ≤ 4096 := by
      have h1 := len_le_wid (norm_full (B.take i))
      rw [norm_wid, List.length_take] at h1
      rw [fV_len]; omega
    have key : ∀ s : Sg, ∀ n, n = s.w → 1 ≤ n → i + n ≤ B.length → B.take (i + n) = B.take i ++ s.bits → (i + n < B.length → s.join (B.getD (i + n) (.co false)).sg = none) → (s.bits.head? = some (B.getD i (.co false))) →
        (fV (norm (B.take i)) ++ [sgV s] = fV (norm (B.take (i + n)))) ∧ (i + n < B.length → Stop (norm (B.take (i + n))) (B.getD (i + n) (.co false))) := by
      rintro s n rfl h1 h2 h3 h4 h5
      obtain ⟨r, hr⟩ : ∃ r, s.bits = B.getD i (.co false) :: r := by
        cases hs : s.bits with
        | nil => rw [hs] at h5; cases h5
        | cons c r => rw [hs] at h5; simp only [List.head?_cons, Option.some.injEq] at h5; exact ⟨r, by rw [h5]⟩
      have hn := norm_seg (hst h) hr h1
      rw [h3, hn]
      refine ⟨by rw [fV_append]; rfl, fun hlt l hl => ?_⟩
      rw [List.getLast?_append] at hl
      simp only [List.getLast?_singleton, Option.some_or, Option.some.injEq] at hl
      subst hl
      exact h4 hlt
    unfold spec_l5Form_l9
    rw [bV_len, if_pos (rng h), Int.toNat_natCast, bGet h, btV_neg]
    cases hx : B.getD i (.co false) with
    | co b =>
      simp only [cond_true]
      rw [if_pos (rng h), show IntKind.u8.wrap (btV (.co b)).2.1 = bI b by cases b <;> rfl]
      have hrun := run_co (D := fV (norm (B.take i))) h hx hl
      refine Ret.bind (P := fun y => ∃ n, y = (((i + n : Nat) : Int), fV (norm (B.take (i + n)))) ∧ 1 ≤ n ∧ i + n ≤ B.length ∧ (i + n < B.length → Stop (norm (B.take (i + n))) (B.getD (i + n) (.co false)))) (hrun.bind fun y hy => ?_) fun y hy => ?_
      · obtain ⟨bs, rfl, h1, h2, h3, h4, h5⟩ := hy
        have hk := key (.co bs) bs.length rfl h1 h2 h4 (fun hlt => by obtain ⟨v, a, e⟩ := h5 hlt; rw [e]; rfl) (by
          rw [hx]
          cases bs with
          | nil => simp at h1
          | cons z zs => simp only [Sg.bits, List.map_cons, List.head?_cons]; rw [← h3]; rfl)
        rw [l1From_ok h1 (by omega), Option.bind_some, if_pos (by show (_ + 1) * 56 ≤ _; omega)]
        exact Ret.mk ⟨bs.length, by rw [← hk.1]; rfl, h1, h2, hk.2⟩
      · obtain ⟨n, rfl, h1, h2, h3⟩ := hy
        exact Ret.mk ⟨B.length - (i + n), by omega, i + n, rfl, h2, h3, rfl⟩
    | va v a =>
      simp only [cond_false]
      have hrun := run_va (D := fV (norm (B.take i))) h hx hB hl
      refine Ret.bind (P := fun y => ∃ n, y = (((i + n : Nat) : Int), fV (norm (B.take (i + n)))) ∧ 1 ≤ n ∧ i + n ≤ B.length ∧ (i + n < B.length → Stop (norm (B.take (i + n))) (B.getD (i + n) (.co false)))) (hrun.bind fun y hy => ?_) fun y hy => ?_
      · obtain ⟨n, rfl, h1, h2, h4, h5⟩ := hy
        have hk := key (.va v a n) n rfl h1 h2 h4 h5 (by
          rw [hx]
          obtain ⟨m, rfl⟩ : ∃ m, n = m + 1 := ⟨n - 1, by omega⟩
          simp [Sg.bits, List.range_succ_eq_map])
        rw [if_pos (rng h), if_pos (rng h), if_pos (by show (_ + 1) * 56 ≤ _; omega), show IntKind.i64.wrap (((i + n : Nat) : Int) - (i : Int)) = (n : Int) from wrapN (by omega) (by omega)]
        exact Ret.mk ⟨n, by rw [← hk.1]; rfl, h1, h2, hk.2⟩
      · obtain ⟨n, rfl, h1, h2, h3⟩ := hy
        exact Ret.mk ⟨B.length - (i + n), by omega, i + n, rfl, h2, h3, rfl⟩
  · have : i = B.length := by omega
    subst this
    rw [bV_len, dge, cond_false, List.take_of_length_le (Nat.le_refl _)]
    exact Ret.mk rfl
end Go.Proofs.X
namespace Go.Proofs.X
open Go Go.Va
set_option maxRecDepth 100000
def dig (c : Int) : Prop := 48 ≤ c ∧ c ≤ 57
def lowc (c : Int) : Prop := 97 ≤ c ∧ c ≤ 122
instance (c : Int) : Decidable (dig c) := inferInstanceAs (Decidable (_ ∧ _))
instance (c : Int) : Decidable (lowc c) := inferInstanceAs (Decidable (_ ∧ _))
def NameP (s : ByteArray) : Prop := 1 ≤ s.size ∧ s.size ≤ 12 ∧ ¬ dig (bgetI s 0) ∧ ∀ i : Nat, i < s.size → dig (bgetI s i) ∨ lowc (bgetI s i)
theorem l1Digit_ok (c : Int) : spec_l1Digit c = decide (dig c) := (Bool.decide_and _ _).symm
theorem specName1_ok {s : ByteArray} {i : Nat} (hi : i < s.size) : spec_l1Name_l1 s (i : Int) = some (decide ¬ (dig (bgetI s i) ∨ lowc (bgetI s i))) := by
  unfold spec_l1Name_l1
  rw [if_pos (rng hi), if_pos (rng hi), if_pos (rng hi), l1Digit_ok]
  generalize bgetI s (i : Int) = c
  by_cases h1 : dig c
  · rw [decide_eq_true h1, decide_eq_false (p := ¬ (dig c ∨ lowc c)) (fun h => h (.inl h1))]; rfl
  · rw [decide_eq_false h1]
    by_cases h2 : c < 97
    · rw [decide_eq_true h2, decide_eq_true (p := ¬ (dig c ∨ lowc c)) (by unfold lowc; rintro (h | h); exact h1 h; omega)]; rfl
    · rw [decide_eq_false h2]
      refine congrArg some (decide_eq_decide.2 ?_)
      unfold lowc dig at *; omega
theorem implName1_ok {s : ByteArray} {i : Nat} (hi : i < s.size) : impl_nameOk_l1 s (i : Int) = some (decide ¬ (dig (bgetI s i) ∨ lowc (bgetI s i))) := by
  unfold impl_nameOk_l1
  simp only [if_pos (rng hi)]
  generalize bgetI s (i : Int) = c
  by_cases h1 : c < 97
  · rw [decide_eq_true h1, cond_true]
    by_cases h2 : c < 48
    · rw [decide_eq_true h2, cond_true]
      exact congrArg some (decide_eq_true (by unfold dig lowc; omega)).symm
    · rw [decide_eq_false h2, cond_false]
      exact congrArg some (decide_eq_decide.2 (by unfold dig lowc; omega))
  · rw [decide_eq_false h1, cond_false]
    by_cases h2 : c > 122
    · rw [decide_eq_true h2, cond_true]
      by_cases h3 : c < 48
      · rw [decide_eq_true h3, cond_true]
        exact congrArg some (decide_eq_true (by unfold dig lowc; omega)).symm
      · rw [decide_eq_false h3, cond_false]
        exact congrArg some (decide_eq_decide.2 (by unfold dig lowc; omega))
    · rw [decide_eq_false h2, cond_false]
      exact congrArg some (decide_eq_false (by unfold dig lowc; omega)).symm
theorem specName_ok (s : ByteArray) : Ret (spec_l1Name s) fun r => r = true ↔ NameP s := by
  unfold spec_l1Name spec_l1Name_l0
  by_cases h1 : s.size < 1
  · rw [decide_eq_true (by omega : (s.size : Int) < 1)]
    exact Ret.mk ⟨fun h => by (cases h), fun h => absurd h.1 (by omega)⟩
  · rw [decide_eq_false (by omega : ¬ (s.size : Int) < 1), cond_false]
    by_cases h2 : s.size > 12
    · rw [decide_eq_true (by omega : (s.size : Int) > 12)]
      exact Ret.mk ⟨fun h => by (cases h), fun h => absurd h.2.1 (by omega)⟩
    · rw [decide_eq_false (by omega : ¬ (s.size : Int) > 12), cond_false, if_pos ⟨by omega, by omega⟩, Option.bind_some, l1Digit_ok]
      by_cases h3 : dig (bgetI s 0)
      · rw [decide_eq_true h3]
        exact Ret.mk ⟨fun h => by (cases h), fun h => absurd h3 h.2.2.1⟩
      · rw [decide_eq_false h3, cond_false]
        refine Ret.bind (P := fun t => (t = .inl () ∧ ¬ ∀ i : Nat, i < s.size → dig (bgetI s i) ∨ lowc (bgetI s i)) ∨ (t = .inr () ∧ ∀ i : Nat, i < s.size → dig (bgetI s i) ∨ lowc (bgetI s i))) ?_ fun t ht => ?_
        · unfold spec_l1Name_l2
          refine for_rule (fun k (_ : Unit) => (k : Int)) s.size (fun k _ => ∀ i : Nat, i < k → dig (bgetI s i) ∨ lowc (bgetI s i)) (fun k _ hk hI => ?_) (fun _ hI => ?_) (s0 := ()) (fun i h => by omega)
          · unfold spec_l1Name_l2_r spec_l1Name_l2_g
            rw [dlt hk, cond_true, specName1_ok hk, Option.bind_some]
            by_cases h : dig (bgetI s k) ∨ lowc (bgetI s k)
            · rw [decide_eq_false (fun hn => hn h), cond_false, stepN hk (by omega)]
              refine Ret.mk ⟨(), rfl, fun i hi => ?_⟩
              rcases Nat.lt_or_ge i k with h' | h'
              · exact hI i h'
              · rw [show i = k by omega]; exact h
            · rw [decide_eq_true h, cond_true]
              exact Ret.mk (.inl ⟨rfl, fun h' => h (h' k hk)⟩)
          · unfold spec_l1Name_l2_r spec_l1Name_l2_g
            rw [dge, cond_false]
            exact Ret.mk (.inr ⟨rfl, hI⟩)
        · rcases ht with ⟨rfl, h⟩ | ⟨rfl, h⟩
          · exact Ret.mk ⟨fun h => by (cases h), fun h' => absurd h'.2.2.2 h⟩
          · exact Ret.mk ⟨fun _ => ⟨by omega, by omega, h3, h⟩, fun _ => rfl⟩
theorem implName_ok (s : ByteArray) : Ret (impl_nameOk s) fun r => r = true ↔ NameP s := by
  unfold impl_nameOk impl_nameOk_l0
  by_cases h1 : s.size < 1
  · rw [decide_eq_true (by omega : (s.size : Int) < 1)]
    exact Ret.mk ⟨fun h => by (cases h), fun h => absurd h.1 (by omega)⟩
  · rw [decide_eq_false (by omega : ¬ (s.size : Int) < 1), cond_false]
    by_cases h2 : s.size > 12
    · rw [decide_eq_true (by omega : (s.size : Int) > 12)]
      exact Ret.mk ⟨fun h => by (cases h), fun h => absurd h.2.1 (by omega)⟩
    · rw [decide_eq_false (by omega : ¬ (s.size : Int) > 12), cond_false, if_pos ⟨by omega, by omega⟩, if_pos ⟨by omega, by omega⟩]
      by_cases h3 : lowc (bgetI s 0)
      · have h4 : (bif decide (bgetI s 0 < 97) then some true else some (decide (bgetI s 0 > 122))) = some false := by
          unfold lowc at h3
          rw [decide_eq_false (by omega), cond_false, decide_eq_false (by omega)]
        rw [h4, Option.bind_some, cond_false]
        refine Ret.bind (P := fun t => (t = .inl () ∧ ¬ ∀ i : Nat, i < s.size → dig (bgetI s i) ∨ lowc (bgetI s i)) ∨ (t = .inr () ∧ ∀ i : Nat, i < s.size → dig (bgetI s i) ∨ lowc (bgetI s i))) ?_ fun t ht => ?_
        · unfold impl_nameOk_l2
          refine for_rule (fun k (_ : Unit) => (k : Int)) s.size (fun k _ => ∀ i : Nat, i < k → dig (bgetI s i) ∨ lowc (bgetI s i)) (fun k _ hk hI => ?_) (fun _ hI => ?_) (s0 := ()) (fun i h => by omega)
          · unfold impl_nameOk_l2_r impl_nameOk_l2_g
            rw [dlt hk, cond_true, implName1_ok hk, Option.bind_some]
            by_cases h : dig (bgetI s k) ∨ lowc (bgetI s k)
            · rw [decide_eq_false (fun hn => hn h), cond_false, stepN hk (by omega)]
              refine Ret.mk ⟨(), rfl, fun i hi => ?_⟩
              rcases Nat.lt_or_ge i k with h' | h'
              · exact hI i h'
              · rw [show i = k by omega]; exact h
            · rw [decide_eq_true h, cond_true]
              exact Ret.mk (.inl ⟨rfl, fun h' => h (h' k hk)⟩)
          · unfold impl_nameOk_l2_r impl_nameOk_l2_g
            rw [dge, cond_false]
            exact Ret.mk (.inr ⟨rfl, hI⟩)
        · rcases ht with ⟨rfl, h⟩ | ⟨rfl, h⟩
          · exact Ret.mk ⟨fun h => by (cases h), fun h' => absurd h'.2.2.2 h⟩
          · refine Ret.mk ⟨fun _ => ⟨by omega, by omega, ?_, h⟩, fun _ => rfl⟩
            unfold lowc at h3; unfold dig; omega
      · have h4 : (bif decide (bgetI s 0 < 97) then some true else some (decide (bgetI s 0 > 122))) = some true := by
          unfold lowc at h3
          by_cases h5 : bgetI s 0 < 97
          · rw [decide_eq_true h5]; rfl
          · rw [decide_eq_false h5, cond_false, decide_eq_true (by omega)]
        rw [h4, Option.bind_some, cond_true]
        refine Ret.mk ⟨fun h => by (cases h), fun h => ?_⟩
        rcases h.2.2.2 0 (by omega) with h' | h'
        · exact absurd h' h.2.2.1
        · exact absurd h' h3
theorem l1In_ok (n a b : Int) : spec_l1In n a b = decide (a ≤ n ∧ n ≤ b) := by unfold spec_l1In; rw [Bool.decide_and]
theorem inside_ok (n a b : Int) : impl_inside n a b = decide (a ≤ n ∧ n ≤ b) := by unfold impl_inside; rw [Bool.decide_and]
def dcl (d : List Timpl_Decl.V) (i : Nat) : Timpl_Decl.V := d.getD i (Ty.zero Timpl_Decl)
def dw (d : List Timpl_Decl.V) (i : Nat) : Int := (dcl d i).2.1
def dSum (d : List Timpl_Decl.V) (k : Nat) : Int := ((d.take k).map fun x => x.2.1).sum
theorem dSum_succ {d : List Timpl_Decl.V} {k : Nat} (h : k < d.length) : dSum d (k + 1) = dSum d k + dw d k := by
  unfold dSum
  rw [take_succ_getD h (z := Ty.zero Timpl_Decl), List.map_append, List.sum_append]
  simp [dw, dcl]
def DeclP (d : List Timpl_Decl.V) (i : Nat) : Prop := NameP (dcl d i).1 ∧ (1 ≤ dw d i ∧ dw d i ≤ 4096) ∧ ∀ k, k < i → (dcl d k).1 ≠ (dcl d i).1
def DeclsP (d : List Timpl_Decl.V) : Prop := d.length ≤ 60 ∧ (∀ i, i < d.length → DeclP d i) ∧ dSum d d.length ≤ 20000
theorem dSum_bound {d : List Timpl_Decl.V} {k : Nat} (hk : k ≤ d.length) (h : ∀ i, i < k → DeclP d i) : 0 ≤ dSum d k ∧ dSum d k ≤ 4096 * k := by
  induction k with
  | zero => simp [dSum]
  | succ k ih =>
    rw [dSum_succ (by omega)]
    have := ih (by omega) fun i hi => h i (by omega)
    have := (h k (by omega)).2.1
    omega
theorem specDecls_ok (d : List Timpl_Decl.V) : Ret (spec_DeclsOk d) fun r => r = true ↔ DeclsP d := by
  unfold spec_DeclsOk
  by_cases hl : d.length ≤ 60
  · rw [decide_eq_false (by omega : ¬ (d.length : Int) > 60), cond_false]
    unfold spec_DeclsOk_l2
    refine Ret.bind (P := fun t => (∃ x, t = .inl x ∧ ¬ ∀ i, i < d.length → DeclP d i) ∨ (t = .inr (dSum d d.length) ∧ ∀ i, i < d.length → DeclP d i)) (for_rule (fun k (_ : Unit) => (dSum d k, (k : Int))) d.length (fun k _ => ∀ i, i < k → DeclP d i) (fun k _ hk hI => ?_) (fun _ hI => ?_) (s0 := ()) (fun i h => by omega)) fun t ht => ?_
    · unfold spec_DeclsOk_l2_r spec_DeclsOk_l2_g spec_DeclsOk_l0
      simp only
      rw [dlt hk, cond_true, if_pos (rng hk), Int.toNat_natCast]
      show Ret (((spec_l1Name (dcl d k).1).bind _).bind _) _
      obtain ⟨r, hr, hq⟩ := specName_ok (dcl d k).1
      rw [hr, Option.bind_some]
      by_cases h1 : NameP (dcl d k).1
      · rw [hq.2 h1]
        simp only [Bool.not_true, cond_false]
        rw [if_pos (rng hk), if_pos (rng hk), Option.bind_some]
        by_cases h2 : 1 ≤ dw d k ∧ dw d k ≤ 4096
        · rw [show spec_l1In (d.getD k (Ty.zero Timpl_Decl)).2.1 1 4096 = true from (l1In_ok _ _ _).trans (decide_eq_true h2)]
          simp only [Bool.not_true, cond_false]
          refine Ret.bind (P := fun t => (t = .inl () ∧ ¬ ∀ j, j < k → (dcl d j).1 ≠ (dcl d k).1) ∨ (t = .inr () ∧ ∀ j, j < k → (dcl d j).1 ≠ (dcl d k).1)) ?_ fun t ht => ?_
          · unfold spec_DeclsOk_l1
            refine for_rule (fun j (_ : Unit) => (j : Int)) k (fun j _ => ∀ i, i < j → (dcl d i).1 ≠ (dcl d k).1) (fun j _ hj hJ => ?_) (fun _ hJ => ?_) (s0 := ()) (fun i h => by omega)
            · unfold spec_DeclsOk_l1_r spec_DeclsOk_l1_g
              rw [dlt hj, cond_true, if_pos (rng (by omega)), if_pos (rng hk), Int.toNat_natCast, Int.toNat_natCast]
              show Ret (bif strEq (dcl d j).1 (dcl d k).1 then _ else _) _
              cases he : strEq (dcl d j).1 (dcl d k).1 with
              | true => exact Ret.mk (.inl ⟨rfl, fun h => h j hj ((strEq_iff _ _).1 he)⟩)
              | false =>
                rw [cond_false, stepN hj (by omega)]
                refine Ret.mk ⟨(), rfl, fun i hi => ?_⟩
                rcases Nat.lt_or_ge i j with h' | h'
                · exact hJ i h'
                · rw [show i = j by omega]; intro e; rw [(strEq_iff _ _).2 e] at he; cases he
            · unfold spec_DeclsOk_l1_r spec_DeclsOk_l1_g
              rw [dge, cond_false]
              exact Ret.mk (.inr ⟨rfl, hJ⟩)
          · rcases ht with ⟨rfl, h⟩ | ⟨rfl, h⟩
            · exact Ret.mk (.inl ⟨_, rfl, fun h' => h (h' k hk).2.2⟩)
            · simp only [Sum.elim_inr]
              rw [stepN hk (by omega)]
              have hb := dSum_bound (by omega) hI
              rw [show IntKind.i64.wrap (dSum d k + (d.getD k (Ty.zero Timpl_Decl)).2.1) = dSum d (k + 1) by
                rw [dSum_succ hk]
                have : (d.getD k (Ty.zero Timpl_Decl)).2.1 = dw d k := rfl
                rw [this, wrap64 (by omega) (by omega)]]
              refine Ret.mk ⟨(), rfl, fun i hi => ?_⟩
              rcases Nat.lt_or_ge i k with h' | h'
              · exact hI i h'
              · rw [show i = k by omega]; exact ⟨h1, h2, h⟩
        · rw [show spec_l1In (d.getD k (Ty.zero Timpl_Decl)).2.1 1 4096 = false from (l1In_ok _ _ _).trans (decide_eq_false h2)]
          exact Ret.mk (.inl ⟨_, rfl, fun h => h2 (h k hk).2.1⟩)
      · rw [show r = false by cases r; rfl; exact absurd (hq.1 rfl) h1]
        exact Ret.mk (.inl ⟨_, rfl, fun h => h1 (h k hk).1⟩)
    · unfold spec_DeclsOk_l2_r spec_DeclsOk_l2_g
      simp only
      rw [dge, cond_false]
      exact Ret.mk (.inr ⟨rfl, hI⟩)
    · rcases ht with ⟨x, rfl, h⟩ | ⟨rfl, h⟩
      · exact Ret.mk ⟨fun h => by (cases h), fun h' => absurd h'.2.1 h⟩
      · refine Ret.mk ⟨fun h' => ⟨hl, h, of_decide_eq_true h'⟩, fun h' => decide_eq_true h'.2.2⟩
  · rw [decide_eq_true (by omega : (d.length : Int) > 60), cond_true]
    exact Ret.mk ⟨fun h => by (cases h), fun h => absurd h.1 hl⟩
theorem declared_ok {d : List Timpl_Decl.V} {i : Nat} {name : ByteArray} (hi : i ≤ d.length) (hl : d.length ≤ 1048576) : Ret (impl_declared ((d.take i).drop 0) name) fun r => 0 ≤ r ↔ ∃ j, j < i ∧ (dcl d j).1 = name := by
  unfold impl_declared slices_IndexFunc_Decl slices_IndexFunc_Decl_l0
  have hlen : (d.take i).length = i := by rw [List.length_take]; omega
  rw [List.drop_zero, hlen]
  refine Ret.bind (P := fun r => 0 ≤ r.1 ↔ ∃ j, j < i ∧ (dcl d j).1 = name) (Ret.bind (P := fun t => (∃ j : Nat, t = .inl (j : Int) ∧ j < i ∧ (dcl d j).1 = name) ∨ (t = .inr () ∧ ∀ j, j < i → (dcl d j).1 ≠ name)) ?_ fun t ht => ?_) fun r hr => Ret.mk hr
  · refine for_rule (fun j (_ : Unit) => (j : Int)) i (fun j _ => ∀ k, k < j → (dcl d k).1 ≠ name) (fun j _ hj hJ => ?_) (fun _ hJ => ?_) (s0 := ()) (fun i h => by omega)
    · unfold slices_IndexFunc_Decl_l0_r slices_IndexFunc_Decl_l0_g
      have hg : (d.take i).getD j (Ty.zero Timpl_Decl) = dcl d j := by simp [dcl, List.getD, hj]
      rw [dlt hj, cond_true, hlen, if_pos (rng hj), Int.toNat_natCast, hg]
      unfold impl_declared_1
      cases he : strEq (dcl d j).1 name with
      | true => exact Ret.mk (.inl ⟨j, rfl, hj, (strEq_iff _ _).1 he⟩)
      | false =>
        rw [cond_false, stepN hj (by omega)]
        refine Ret.mk ⟨(), rfl, fun k hk => ?_⟩
        rcases Nat.lt_or_ge k j with h' | h'
        · exact hJ k h'
        · rw [show k = j by omega]; intro e; rw [(strEq_iff _ _).2 e] at he; cases he
    · unfold slices_IndexFunc_Decl_l0_r slices_IndexFunc_Decl_l0_g
      rw [dge, cond_false]
      exact Ret.mk (.inr ⟨rfl, hJ⟩)
  · rcases ht with ⟨j, rfl, h1, h2⟩ | ⟨rfl, h⟩
    · exact Ret.mk ⟨fun _ => ⟨j, h1, h2⟩, fun _ => by show (0 : Int) ≤ (j : Int); omega⟩
    · exact Ret.mk ⟨fun h' => absurd (show (0 : Int) ≤ -1 from h') (by omega), fun ⟨j, h1, h2⟩ => absurd h2 (h j h1)⟩
theorem implDecls_ok (d : List Timpl_Decl.V) : Ret (impl_DeclsOk d) fun r => r = true ↔ DeclsP d := by
  unfold impl_DeclsOk
  by_cases hl : d.length ≤ 60
  · rw [decide_eq_false (by omega : ¬ (d.length : Int) > 60), cond_false]
    unfold impl_DeclsOk_l1
    refine Ret.bind (P := fun t => (∃ x, t = .inl x ∧ ¬ ∀ i, i < d.length → DeclP d i) ∨ (t = .inr (dSum d d.length) ∧ ∀ i, i < d.length → DeclP d i)) (for_rule (fun k (_ : Unit) => (dSum d k, (k : Int))) d.length (fun k _ => ∀ i, i < k → DeclP d i) (fun k _ hk hI => ?_) (fun _ hI => ?_) (s0 := ()) (fun i h => by omega)) fun t ht => ?_
    · unfold impl_DeclsOk_l1_r impl_DeclsOk_l1_g impl_DeclsOk_l0
      simp only
      rw [dlt hk, cond_true, if_pos (rng hk), Int.toNat_natCast]
      show Ret (((impl_nameOk (dcl d k).1).bind _).bind _) _
      obtain ⟨r, hr, hq⟩ := implName_ok (dcl d k).1
      rw [hr, Option.bind_some]
      by_cases h1 : NameP (dcl d k).1
      · rw [hq.2 h1]
        simp only [Bool.not_true, cond_false]
        by_cases h2 : 1 ≤ dw d k ∧ dw d k ≤ 4096
        · rw [show impl_inside (d.getD k (Ty.zero Timpl_Decl)).2.1 1 4096 = true from (inside_ok _ _ _).trans (decide_eq_true h2)]
          simp only [Bool.not_true, cond_false]
          rw [if_pos ⟨by omega, by omega, by omega⟩]
          obtain ⟨r', hr', hq'⟩ := declared_ok (d := d) (i := k) (name := (dcl d k).1) (by omega) (by omega)
          rw [show impl_declared ((d.take k).drop 0) (d.getD k (Ty.zero Timpl_Decl)).1 = some r' from hr', Option.bind_some, Option.bind_some]
          by_cases h3 : 0 ≤ r'
          · rw [decide_eq_true (show r' ≥ 0 from h3)]
            obtain ⟨j, hj1, hj2⟩ := hq'.1 h3
            exact Ret.mk (.inl ⟨_, rfl, fun h => (h k hk).2.2 j hj1 hj2⟩)
          · rw [decide_eq_false (show ¬ r' ≥ 0 from h3), cond_false, stepN hk (by omega)]
            have hb := dSum_bound (by omega) hI
            rw [show IntKind.i64.wrap (dSum d k + (d.getD k (Ty.zero Timpl_Decl)).2.1) = dSum d (k + 1) by
              rw [dSum_succ hk]
              have : (d.getD k (Ty.zero Timpl_Decl)).2.1 = dw d k := rfl
              rw [this, wrap64 (by omega) (by omega)]]
            refine Ret.mk ⟨(), rfl, fun i hi => ?_⟩
            rcases Nat.lt_or_ge i k with h' | h'
            · exact hI i h'
            · rw [show i = k by omega]; exact ⟨h1, h2, fun j hj e => h3 (hq'.2 ⟨j, hj, e⟩)⟩
        · rw [show impl_inside (d.getD k (Ty.zero Timpl_Decl)).2.1 1 4096 = false from (inside_ok _ _ _).trans (decide_eq_false h2)]
          exact Ret.mk (.inl ⟨_, rfl, fun h => h2 (h k hk).2.1⟩)
      · rw [show r = false by cases r; rfl; exact absurd (hq.1 rfl) h1]
        exact Ret.mk (.inl ⟨_, rfl, fun h => h1 (h k hk).1⟩)
    · unfold impl_DeclsOk_l1_r impl_DeclsOk_l1_g
      simp only
      rw [dge, cond_false]
      exact Ret.mk (.inr ⟨rfl, hI⟩)
    · rcases ht with ⟨x, rfl, h⟩ | ⟨rfl, h⟩
      · exact Ret.mk ⟨fun h => by (cases h), fun h' => absurd h'.2.1 h⟩
      · refine Ret.mk ⟨fun h' => ⟨hl, h, of_decide_eq_true h'⟩, fun h' => decide_eq_true h'.2.2⟩
  · rw [decide_eq_true (by omega : (d.length : Int) > 60), cond_true]
    exact Ret.mk ⟨fun h => by (cases h), fun h => absurd h.1 hl⟩
theorem iff_bool {a b : Bool} {P : Prop} (h1 : a = true ↔ P) (h2 : b = true ↔ P) : a = b := by
  cases a <;> cases b <;> simp_all
end Go.Proofs.X
namespace Go.Proofs.X
open Go Go.Va
set_option maxRecDepth 100000
def nOp (n : Timpl_TNode.V) : Int := n.1
def nVar (n : Timpl_TNode.V) : Int := n.2.1
def nA (n : Timpl_TNode.V) : Int := n.2.2.1
def nB (n : Timpl_TNode.V) : Int := n.2.2.2.1
def nW (n : Timpl_TNode.V) : Int := n.2.2.2.2.1.1
def nWs (n : Timpl_TNode.V) : List Int := n.2.2.2.2.1.2.1
def nKids (n : Timpl_TNode.V) : List Int := n.2.2.2.2.2.1
def NodeB (n : Timpl_TNode.V) : Prop := (nKids n).length ≤ 1048576 ∧ (nWs n).length ≤ 1048576 ∧ Words (nWs n)
def KidsIn (n : Timpl_TNode.V) (i : Nat) : Prop := ∀ k ∈ nKids n, 0 ≤ k ∧ k < (i : Int)
def NoB (n : Timpl_TNode.V) : Prop := nW n = 0 ∧ (nWs n).length = 0
def OneP (n : Timpl_TNode.V) : Prop := 4 ≤ nOp n ∧ nOp n ≤ 9
instance (n : Timpl_TNode.V) : Decidable (NoB n) := inferInstanceAs (Decidable (_ ∧ _))
instance (n : Timpl_TNode.V) : Decidable (OneP n) := inferInstanceAs (Decidable (_ ∧ _))
def PlainP (n : Timpl_TNode.V) : Prop := (nOp n ≠ 1 → nVar n = 0) ∧ (nOp n ≠ 2 → NoB n) ∧ (nOp n ≠ 4 → nB n = 0) ∧ (¬ OneP n → nA n = 0)
def ValP (n : Timpl_TNode.V) : Prop := ∃ m : Nat, nW n = (m : Int) ∧ BitsP m (nWs n)
def FormP (d : List Timpl_Decl.V) (n : Timpl_TNode.V) : Prop :=
  (nOp n = 1 ∧ (nKids n).length = 0 ∧ 0 ≤ nVar n ∧ nVar n < (d.length : Int)) ∨ (nOp n = 2 ∧ (nKids n).length = 0 ∧ ValP n) ∨ (nOp n = 3 ∧ 2 ≤ (nKids n).length) ∨ (4 ≤ nOp n ∧ nOp n ≤ 9 ∧ (nKids n).length = 1)
def widF (d : List Timpl_Decl.V) (n : Timpl_TNode.V) (s : Int) : Int :=
  if nOp n = 1 then dw d (nVar n).toNat else if nOp n = 2 then nW n else
  if nOp n = 4 then (if 0 ≤ nB n ∧ nB n ≤ nA n ∧ nA n < s then nA n - nB n + 1 else -1) else
  if nOp n = 5 ∨ nOp n = 6 then (if 0 ≤ nA n ∧ nA n ≤ 4096 then s + nA n else -1) else
  if nOp n = 7 ∨ nOp n = 8 then (if 0 ≤ nA n ∧ nA n ≤ 4096 then s else -1) else
  if nOp n = 9 then (if 1 ≤ nA n ∧ nA n ≤ 4096 then s * nA n else -1) else s
def kidW (wide : List Int) (n : Timpl_TNode.V) : List Int := (nKids n).map fun k => wide.getD k.toNat 0
def NodeP (d : List Timpl_Decl.V) (wide : List Int) (n : Timpl_TNode.V) (w : Int) : Prop :=
  KidsIn n wide.length ∧ PlainP n ∧ FormP d n ∧ w = widF d n (kidW wide n).sum ∧ 1 ≤ w ∧ w ≤ 4096
theorem beq_len {A : Type} (l : List A) : ((l.length : Int) == 0) = decide (l.length = 0) := by
  cases h : decide (l.length = 0) with
  | true => have := of_decide_eq_true h; rw [this]; rfl
  | false => have := of_decide_eq_false h; exact beq_eq_false_iff_ne.2 (by omega)
theorem bne_dec {a b : Int} : (a != b) = decide (a ≠ b) := by
  cases h : decide (a ≠ b) with
  | true => exact bne_iff_ne.2 (of_decide_eq_true h)
  | false => have := of_decide_eq_false h; simp at this; rw [this]; simp
theorem beq_dec {a b : Int} : (a == b) = decide (a = b) := by
  cases h : decide (a = b) with
  | true => rw [of_decide_eq_true h]; simp
  | false => exact beq_eq_false_iff_ne.2 (of_decide_eq_false h)
theorem noBits_ok (n : Timpl_TNode.V) : spec_l3NoBits n.2.2.2.2.1 = decide (NoB n) := by
  have h1 : (nW n == 0) = decide (nW n = 0) := beq_dec
  have h2 := beq_len (nWs n)
  show ((nW n == 0) && (((nWs n).length : Int) == 0)) = _
  rw [h1, h2]
  exact (Bool.decide_and _ _).symm
theorem l3One_ok (n : Timpl_TNode.V) : spec_l3One n.1 = decide (OneP n) := by
  unfold spec_l3One; exact l1In_ok _ _ _
theorem specForm_ok {d : List Timpl_Decl.V} {n : Timpl_TNode.V} {i : Nat} (hn : NodeB n) (hi : i ≤ 1048576) (hd : d.length ≤ 1048576) : Ret (spec_l3Form d n (i : Int)) fun r => r = true ↔ KidsIn n i ∧ PlainP n ∧ FormP d n := by
  unfold spec_l3Form
  refine Ret.bind (P := fun t => (t = .inl () ∧ ¬ KidsIn n i) ∨ (t = .inr () ∧ KidsIn n i)) ?_ fun t ht => ?_
  · unfold spec_l3Form_l0
    refine for_rule (fun j (_ : Unit) => (j : Int)) (nKids n).length (fun j _ => ∀ k, k < j → 0 ≤ (nKids n).getD k 0 ∧ (nKids n).getD k 0 < (i : Int)) (fun j _ hj hJ => ?_) (fun _ hJ => ?_) (s0 := ()) (fun i h => by omega)
    · unfold spec_l3Form_l0_r spec_l3Form_l0_g
      have hlen := hn.1
      show Ret (bif decide ((j : Int) < ((nKids n).length : Int)) then (if 0 ≤ (j : Int) ∧ (j : Int) < ((nKids n).length : Int) then (bif !spec_l1In ((nKids n).getD (j : Int).toNat 0) 0 (IntKind.i64.wrap ((i : Int) - 1)) then _ else _) else none) else _) _
      rw [dlt hj, cond_true, if_pos (rng hj), Int.toNat_natCast, wrap64 (x := (i : Int) - 1) (by omega) (by omega), l1In_ok]
      by_cases h : 0 ≤ (nKids n).getD j 0 ∧ (nKids n).getD j 0 < (i : Int)
      · rw [decide_eq_true (by omega)]
        simp only [Bool.not_true, cond_false]
        rw [stepN hj (by omega)]
        refine Ret.mk ⟨(), rfl, fun k hk => ?_⟩
        rcases Nat.lt_or_ge k j with h' | h'
        · exact hJ k h'
        · rw [show k = j by omega]; exact h
      · rw [decide_eq_false (by omega)]
        exact Ret.mk (.inl ⟨rfl, fun hk => h (hk _ (getD_mem hj))⟩)
    · unfold spec_l3Form_l0_r spec_l3Form_l0_g
      show Ret (bif decide (((nKids n).length : Int) < ((nKids n).length : Int)) then _ else _) _
      rw [dge, cond_false]
      refine Ret.mk (.inr ⟨rfl, fun k hk => ?_⟩)
      obtain ⟨m, hm, rfl⟩ := List.getElem_of_mem hk
      have := hJ m hm
      rwa [show (nKids n).getD m 0 = (nKids n)[m] by simp [List.getD, hm]] at this
  · rcases ht with ⟨rfl, h⟩ | ⟨rfl, h⟩
    · exact Ret.mk ⟨fun h => by (cases h), fun h' => absurd h'.1 h⟩
    · refine Ret.bind (P := fun t => (t = .inl () ∧ ¬ PlainP n) ∨ (t = .inr () ∧ PlainP n)) ?_ fun t ht => ?_
      · unfold spec_l3Form_l2 mkr
        have hb := noBits_ok n
        have h1 := l3One_ok n
        have e1 : ∀ x : Int, (n.1 != x) = decide (nOp n ≠ x) := fun x => bne_dec
        have e2 : (n.2.1 != (0 : Int)) = decide (nVar n ≠ 0) := bne_dec
        have e3 : (n.2.2.2.1 != (0 : Int)) = decide (nB n ≠ 0) := bne_dec
        have e4 : (n.2.2.1 != (0 : Int)) = decide (nA n ≠ 0) := bne_dec
        rw [hb, h1, e1, e1, e1, e2, e3, e4]
        unfold PlainP
        by_cases a1 : nOp n = 1 <;> by_cases a2 : nOp n = 2 <;> by_cases a3 : nOp n = 4 <;> by_cases a4 : OneP n <;> by_cases a5 : nVar n = 0 <;> by_cases a6 : NoB n <;> by_cases a7 : nB n = 0 <;> by_cases a8 : nA n = 0 <;>
          first | (exfalso; omega) | (simp [a1, a2, a3, a4, a5, a6, a7, a8, ret_some]; done)
      · rcases ht with ⟨rfl, h2⟩ | ⟨rfl, h2⟩
        · exact Ret.mk ⟨fun h => by (cases h), fun h' => absurd h'.2.1 h2⟩
        · have hk := hn.1
          have e1 : ∀ x : Int, (n.1 == x) = decide (nOp n = x) := fun x => beq_dec
          have e2 : ((n.2.2.2.2.2.1.length : Int) == 0) = decide ((nKids n).length = 0) := beq_len (nKids n)
          have e3 : ((n.2.2.2.2.2.1.length : Int) == 1) = decide ((nKids n).length = 1) := by
            show (((nKids n).length : Int) == 1) = _
            rw [beq_dec, decide_eq_decide]; omega
          have e4 : decide ((n.2.2.2.2.2.1.length : Int) ≥ 2) = decide (2 ≤ (nKids n).length) := by
            show decide (((nKids n).length : Int) ≥ 2) = _
            rw [decide_eq_decide]; omega
          have e5 : spec_l1In n.2.1 0 (IntKind.i64.wrap ((d.length : Int) - 1)) = decide (0 ≤ nVar n ∧ nVar n < (d.length : Int)) := by
            rw [l1In_ok, wrap64 (x := (d.length : Int) - 1) (by omega) (by omega), decide_eq_decide]
            show 0 ≤ nVar n ∧ nVar n ≤ (d.length : Int) - 1 ↔ _
            omega
          obtain ⟨r, hr, hq⟩ := specBitsOk_ok (w := nW n) hn.2.2 hn.2.1
          have e6 : spec_BitsOk n.2.2.2.2.1 = some r := hr
          have hv : ValP n ↔ r = true := hq.symm
          have h1 := l3One_ok n
          simp only [Sum.elim_inr]
          rw [e1, e1, e1, e2, e3, e4, e5, e6, h1]
          unfold FormP
          rw [show (4 ≤ nOp n ∧ nOp n ≤ 9 ∧ (nKids n).length = 1) = (OneP n ∧ (nKids n).length = 1) from propext and_assoc.symm, hv]
          have hone : OneP n ↔ 4 ≤ nOp n ∧ nOp n ≤ 9 := Iff.rfl
          by_cases a1 : nOp n = 1
          · have a4 : ¬ OneP n := by rw [hone]; omega
            by_cases a5 : (nKids n).length = 0
            · simp [a1, a4, a5, h, h2, ret_some]
            · simp [a1, a4, a5, h, h2, ret_some]
          · by_cases a2 : nOp n = 2
            · have a4 : ¬ OneP n := by rw [hone]; omega
              by_cases a5 : (nKids n).length = 0
              · simp [a2, a4, a5, h, h2, ret_some]
              · simp [a2, a4, a5, h, h2, ret_some]
            · by_cases a3 : nOp n = 3
              · have a4 : ¬ OneP n := by rw [hone]; omega
                simp [a3, a4, h, h2, ret_some]
              · by_cases a4 : OneP n
                · simp [a1, a2, a3, a4, h, h2, ret_some]
                · simp [a1, a2, a3, a4, h, h2, ret_some]
def sumK (wide : List Int) (n : Timpl_TNode.V) : Int := (kidW wide n).sum
def WideB (wide : List Int) : Prop := wide.length ≤ 1048576 ∧ ∀ w ∈ wide, 1 ≤ w ∧ w ≤ 4096
theorem wide_get {wide : List Int} (h : WideB wide) {k : Int} (hk : 0 ≤ k ∧ k < (wide.length : Int)) : 1 ≤ wide.getD k.toNat 0 ∧ wide.getD k.toNat 0 ≤ 4096 := h.2 _ (getD_mem (by omega))
theorem kidW_take {wide : List Int} {n : Timpl_TNode.V} {k : Nat} (hk : k < (nKids n).length) : ((kidW wide n).take (k + 1)).sum = ((kidW wide n).take k).sum + wide.getD ((nKids n).getD k 0).toNat 0 := by
  have hl : k < (kidW wide n).length := by unfold kidW; rw [List.length_map]; exact hk
  rw [take_succ_getD hl (z := 0), List.sum_append]
  unfold kidW
  rw [getD_map (fun k => wide.getD k.toNat 0) hk (y := 0)]
  simp
theorem kidW_bound {wide : List Int} {n : Timpl_TNode.V} (hw : WideB wide) (hin : KidsIn n wide.length) : ∀ k, k ≤ (nKids n).length → (k : Int) ≤ ((kidW wide n).take k).sum ∧ ((kidW wide n).take k).sum ≤ 4096 * k := by
  intro k
  induction k with
  | zero => simp
  | succ k ih =>
    intro hk
    rw [kidW_take (by omega)]
    have := ih (by omega)
    have := wide_get hw (hin _ (getD_mem (z := 0) (show k < (nKids n).length by omega)))
    omega
theorem kidW_full (wide : List Int) (n : Timpl_TNode.V) : (kidW wide n).take (nKids n).length = kidW wide n := List.take_of_length_le (by unfold kidW; rw [List.length_map]; exact Nat.le_refl _)
theorem sumK_bound {wide : List Int} {n : Timpl_TNode.V} (hw : WideB wide) (hin : KidsIn n wide.length) : ((nKids n).length : Int) ≤ sumK wide n ∧ sumK wide n ≤ 4096 * (nKids n).length := by
  have := kidW_bound hw hin _ (Nat.le_refl _)
  rw [kidW_full] at this
  exact this
theorem specWide_ok {d : List Timpl_Decl.V} {wide : List Int} {n : Timpl_TNode.V} (hn : NodeB n) (hw : WideB wide) (hin : KidsIn n wide.length) (hf : FormP d n) : Ret (spec_l3Wide d n wide) fun r => r = widF d n (min 8192 (sumK wide n)) := by
  unfold spec_l3Wide
  have hlen := hn.1
  refine Ret.bind (P := fun t => t = min 8192 (sumK wide n)) ?_ fun t ht => ?_
  · unfold spec_l3Wide_l0
    have h0 : min 8192 (((kidW wide n).take 0).sum) = 0 := rfl
    have := for_rule (f := spec_l3Wide_l0_r d wide n) (fun k (_ : Unit) => (min 8192 (((kidW wide n).take k).sum), (k : Int))) (nKids n).length (fun _ _ => True) (Q := fun t => t = min 8192 (sumK wide n)) (fun k _ hk _ => ?_) (fun _ _ => ?_) (s0 := ()) trivial
    · rw [h0] at this; exact this
    · unfold spec_l3Wide_l0_r spec_l3Wide_l0_g
      have hkin := hin _ (getD_mem (z := 0) hk)
      have hb := kidW_bound hw hin k (by omega)
      have hwk := wide_get hw hkin
      show Ret (bif decide ((k : Int) < ((nKids n).length : Int)) then (if 0 ≤ (k : Int) ∧ (k : Int) < ((nKids n).length : Int) then (if 0 ≤ (nKids n).getD (k : Int).toNat 0 ∧ (nKids n).getD (k : Int).toNat 0 < (wide.length : Int) then some (Sum.inl (if IntKind.i64.wrap (min 8192 (((kidW wide n).take k).sum) + wide.getD ((nKids n).getD (k : Int).toNat 0).toNat 0) < 8192 then IntKind.i64.wrap (min 8192 (((kidW wide n).take k).sum) + wide.getD ((nKids n).getD (k : Int).toNat 0).toNat 0) else 8192, IntKind.i64.wrap ((k : Int) + 1))) else none) else none) else _) _
      rw [dlt hk, cond_true, if_pos (rng hk), Int.toNat_natCast, if_pos hkin, stepN hk (by omega)]
      refine Ret.mk ⟨(), ?_, trivial⟩
      rw [wrap64 (by omega) (by omega), kidW_take hk]
      refine congrArg (·, ((k + 1 : Nat) : Int)) ?_
      split <;> omega
    · unfold spec_l3Wide_l0_r spec_l3Wide_l0_g
      show Ret (bif decide (((nKids n).length : Int) < ((nKids n).length : Int)) then _ else _) _
      rw [dge, cond_false]
      refine Ret.mk ?_
      show min 8192 (((kidW wide n).take (nKids n).length).sum) = _
      rw [kidW_full]; rfl
  · subst ht
    generalize hS : min 8192 (sumK wide n) = S
    have hSb : 0 ≤ S ∧ S ≤ 8192 := by have := sumK_bound hw hin; omega
    have e1 : ∀ x : Int, (n.1 == x) = decide (nOp n = x) := fun x => beq_dec
    have e2 : spec_l1In n.2.2.1 0 4096 = decide (0 ≤ nA n ∧ nA n ≤ 4096) := l1In_ok _ _ _
    have e3 : spec_l1In n.2.2.1 1 4096 = decide (1 ≤ nA n ∧ nA n ≤ 4096) := l1In_ok _ _ _
    have e4 : (decide (n.2.2.2.1 < 0) || (decide (n.2.2.1 < n.2.2.2.1) || decide (n.2.2.1 ≥ S))) = decide (¬ (0 ≤ nB n ∧ nB n ≤ nA n ∧ nA n < S)) := by
      show (decide (nB n < 0) || (decide (nA n < nB n) || decide (nA n ≥ S))) = _
      rw [← Bool.decide_or, ← Bool.decide_or, decide_eq_decide]; omega
    unfold spec_l3Wide_l4 widF mkr
    rw [e1, e1, e1, e1, e1, e1, e1, e1, e2, e3, e4]
    by_cases a1 : nOp n = 1
    · have hv : 0 ≤ nVar n ∧ nVar n < (d.length : Int) := by
        rcases hf with h | h | h | h
        · exact h.2.2
        · omega
        · omega
        · omega
      rw [if_pos a1, decide_eq_true a1, cond_true, if_pos (show 0 ≤ n.2.1 ∧ n.2.1 < (d.length : Int) from hv)]
      exact Ret.mk rfl
    · rw [if_neg a1, decide_eq_false a1, cond_false]
      by_cases a2 : nOp n = 2
      · rw [if_pos a2, decide_eq_true a2, cond_true]
        exact Ret.mk rfl
      · rw [if_neg a2, decide_eq_false a2, cond_false]
        by_cases a4 : nOp n = 4
        · rw [if_pos a4, decide_eq_true a4, cond_true]
          by_cases h : 0 ≤ nB n ∧ nB n ≤ nA n ∧ nA n < S
          · rw [if_pos h, decide_eq_false (fun hh => hh h), cond_false]
            refine Ret.mk ?_
            show IntKind.i64.wrap (IntKind.i64.wrap (nA n - nB n) + 1) = _
            rw [wrap64 (x := nA n - nB n) (by omega) (by omega), wrap64 (by omega) (by omega)]
          · rw [if_neg h, decide_eq_true h, cond_true]
            exact Ret.mk rfl
        · rw [if_neg a4, decide_eq_false a4, cond_false]
          by_cases a5 : nOp n = 5 ∨ nOp n = 6
          · rw [if_pos a5]
            have hc : (bif decide (nOp n = 5) then decide (nOp n = 5) else decide (nOp n = 6)) = true := by
              rcases a5 with h | h
              · simp [h]
              · simp [h]
            rw [hc, cond_true]
            by_cases h : 0 ≤ nA n ∧ nA n ≤ 4096
            · rw [if_pos h, decide_eq_true h]
              refine Ret.mk ?_
              show IntKind.i64.wrap (S + nA n) = _
              rw [wrap64 (by omega) (by omega)]
            · rw [if_neg h, decide_eq_false h]
              exact Ret.mk rfl
          · rw [if_neg a5]
            have hc : (bif decide (nOp n = 5) then decide (nOp n = 5) else decide (nOp n = 6)) = false := by
              simp only [not_or] at a5
              simp [a5]
            rw [hc, cond_false]
            by_cases a7 : nOp n = 7 ∨ nOp n = 8
            · rw [if_pos a7]
              have hc : (bif decide (nOp n = 7) then decide (nOp n = 7) else decide (nOp n = 8)) = true := by
                rcases a7 with h | h
                · simp [h]
                · simp [h]
              rw [hc, cond_true]
              by_cases h : 0 ≤ nA n ∧ nA n ≤ 4096
              · rw [if_pos h, decide_eq_true h]
                exact Ret.mk rfl
              · rw [if_neg h, decide_eq_false h]
                exact Ret.mk rfl
            · rw [if_neg a7]
              have hc : (bif decide (nOp n = 7) then decide (nOp n = 7) else decide (nOp n = 8)) = false := by
                simp only [not_or] at a7
                simp [a7]
              rw [hc, cond_false]
              by_cases a9 : nOp n = 9
              · rw [if_pos a9, decide_eq_true a9, cond_true]
                by_cases h : 1 ≤ nA n ∧ nA n ≤ 4096
                · rw [if_pos h, decide_eq_true h]
                  refine Ret.mk ?_
                  show IntKind.i64.wrap (S * nA n) = _
                  have h1 : 0 ≤ S * nA n := Int.mul_nonneg hSb.1 (by omega)
                  have h2 : S * nA n ≤ 8192 * 4096 := Int.mul_le_mul hSb.2 h.2 (by omega) (by omega)
                  rw [wrap64 (by omega) (by omega)]
                · rw [if_neg h, decide_eq_false h]
                  exact Ret.mk rfl
              · rw [if_neg a9, decide_eq_false a9, cond_false]
                exact Ret.mk rfl
end Go.Proofs.X
namespace Go.Proofs.X
open Go Go.Va
set_option maxRecDepth 100000
theorem wid_clip {d : List Timpl_Decl.V} {wide : List Int} {n : Timpl_TNode.V} (hw : WideB wide) (hin : KidsIn n wide.length) (hf : FormP d n) : widF d n (min 8192 (sumK wide n)) = widF d n (sumK wide n) ∨ (4096 < widF d n (min 8192 (sumK wide n)) ∧ 4096 < widF d n (sumK wide n)) := by
  have hb := sumK_bound hw hin
  rcases hf with h | h | h | h
  · left; simp [widF, h.1]
  · left; simp [widF, h.1]
  · by_cases hs : sumK wide n ≤ 8192
    · left; rw [show min 8192 (sumK wide n) = sumK wide n by omega]
    · right
      have e : ∀ S, widF d n S = S := fun S => by simp [widF, h.1]
      rw [e, e]; omega
  · left; rw [show min 8192 (sumK wide n) = sumK wide n by omega]
instance (n : Timpl_TNode.V) : Decidable (PlainP n) := inferInstanceAs (Decidable (_ ∧ _ ∧ _ ∧ _))
theorem plain_ok (n : Timpl_TNode.V) : impl_TNode_plain n = decide (PlainP n) := by
  have hb : ((n.2.2.2.2.1.1 == (0 : Int)) && ((n.2.2.2.2.1.2.1.length : Int) == 0)) = decide (NoB n) := noBits_ok n
  have h1 : (decide (n.1 ≥ 4) && decide (n.1 ≤ 9)) = decide (OneP n) := (Bool.decide_and _ _).symm
  have e1 : ∀ x : Int, (n.1 != x) = decide (nOp n ≠ x) := fun x => bne_dec
  have e0 : (n.1 == (2 : Int)) = decide (nOp n = 2) := beq_dec
  have e2 : (n.2.1 != (0 : Int)) = decide (nVar n ≠ 0) := bne_dec
  have e3 : (n.2.2.2.1 != (0 : Int)) = decide (nB n ≠ 0) := bne_dec
  have e4 : (n.2.2.1 != (0 : Int)) = decide (nA n ≠ 0) := bne_dec
  have hp : decide (PlainP n) = decide ((nOp n ≠ 1 → nVar n = 0) ∧ (nOp n ≠ 2 → NoB n) ∧ (nOp n ≠ 4 → nB n = 0) ∧ (¬ OneP n → nA n = 0)) := rfl
  rw [hp]
  unfold impl_TNode_plain
  rw [hb, h1, e1, e1, e0, e2, e3, e4]
  by_cases a1 : nOp n = 1 <;> by_cases a2 : nOp n = 2 <;> by_cases a3 : nOp n = 4 <;> by_cases a4 : OneP n <;> by_cases a5 : nVar n = 0 <;> by_cases a6 : NoB n <;> by_cases a7 : nB n = 0 <;> by_cases a8 : nA n = 0 <;>
    first | (exfalso; omega) | (simp [a1, a2, a3, a4, a5, a6, a7, a8]; done)
theorem implWide_ok {d : List Timpl_Decl.V} {wide : List Int} {n : Timpl_TNode.V} (hn : NodeB n) (hw : WideB wide) (hd : d.length ≤ 1048576) (hin : KidsIn n wide.length) : Ret (impl_TNode_width n d (kidW wide n)) fun r => (FormP d n → r = widF d n (sumK wide n)) ∧ (¬ FormP d n → r = -1) := by
  have hlen := hn.1
  have hkl : (kidW wide n).length = (nKids n).length := by unfold kidW; rw [List.length_map]
  have hS := sumK_bound hw hin
  have e1 : ∀ x : Int, (n.1 == x) = decide (nOp n = x) := fun x => beq_dec
  have e2 : ((((kidW wide n).length : Nat) : Int) == 0) = decide ((nKids n).length = 0) := by rw [beq_len, hkl]
  have e3 : ((((kidW wide n).length : Nat) : Int) != 1) = decide ((nKids n).length ≠ 1) := by rw [bne_dec, decide_eq_decide]; omega
  have e4 : decide ((((kidW wide n).length : Nat) : Int) > 1) = decide (2 ≤ (nKids n).length) := by rw [decide_eq_decide]; omega
  have e5 : impl_inside n.2.1 0 (IntKind.i64.wrap ((d.length : Int) - 1)) = decide (0 ≤ nVar n ∧ nVar n < (d.length : Int)) := by
    rw [inside_ok, wrap64 (x := (d.length : Int) - 1) (by omega) (by omega), decide_eq_decide]
    show 0 ≤ nVar n ∧ nVar n ≤ (d.length : Int) - 1 ↔ _
    omega
  have e6 : impl_inside n.2.2.1 0 4096 = decide (0 ≤ nA n ∧ nA n ≤ 4096) := inside_ok _ _ _
  have e7 : impl_inside n.2.2.1 1 4096 = decide (1 ≤ nA n ∧ nA n ≤ 4096) := inside_ok _ _ _
  have hone : OneP n ↔ 4 ≤ nOp n ∧ nOp n ≤ 9 := Iff.rfl
  obtain ⟨f, hf⟩ : ∃ f, f = (bif decide ((((kidW wide n).length : Nat) : Int) > 0) then (kidW wide n).getD 0 0 else 0) := ⟨_, rfl⟩
  have hf1 : (nKids n).length = 1 → f = sumK wide n := fun h => by
    rw [hf, decide_eq_true (by omega), cond_true]
    unfold sumK
    obtain ⟨x, hx⟩ := List.length_eq_one_iff.1 (show (kidW wide n).length = 1 by omega)
    rw [hx]; simp
  unfold impl_TNode_width mkr
  rw [show impl_TNode_width_l0 n d (kidW wide n) = some f by
    unfold impl_TNode_width_l0
    rw [hf]
    by_cases h : (nKids n).length = 0
    · rw [decide_eq_false (by omega)]; rfl
    · rw [decide_eq_true (by omega), cond_true, cond_true, if_pos ⟨by omega, by omega⟩]; rfl, Option.bind_some, e5, e6, e7]
  rw [e1, e1, e1, e1, e1, e1, e1, e1, e2, e3, e4]
  have hF : FormP d n ↔ (nOp n = 1 ∧ (nKids n).length = 0 ∧ 0 ≤ nVar n ∧ nVar n < (d.length : Int)) ∨ (nOp n = 2 ∧ (nKids n).length = 0 ∧ ValP n) ∨ (nOp n = 3 ∧ 2 ≤ (nKids n).length) ∨ (4 ≤ nOp n ∧ nOp n ≤ 9 ∧ (nKids n).length = 1) := Iff.rfl
  have neg1 : ¬ FormP d n → Ret (some (-1 : Int)) fun r => (FormP d n → r = widF d n (sumK wide n)) ∧ (¬ FormP d n → r = -1) := fun h => Ret.mk ⟨fun h' => absurd h' h, fun _ => rfl⟩
  have pos : ∀ v : Int, FormP d n → v = widF d n (sumK wide n) → Ret (some v) fun r => (FormP d n → r = widF d n (sumK wide n)) ∧ (¬ FormP d n → r = -1) := fun v h e => Ret.mk ⟨fun _ => e, fun h' => absurd h h'⟩
  by_cases c1 : nOp n = 1 ∧ (nKids n).length = 0 ∧ (0 ≤ nVar n ∧ nVar n < (d.length : Int))
  · rw [← Bool.decide_and, ← Bool.decide_and, decide_eq_true c1, cond_true, if_pos (show 0 ≤ n.2.1 ∧ n.2.1 < (d.length : Int) from c1.2.2)]
    exact pos _ (hF.2 (.inl c1)) (by unfold widF; rw [if_pos c1.1]; rfl)
  · rw [← Bool.decide_and, ← Bool.decide_and, decide_eq_false c1, cond_false]
    obtain ⟨b, hb1, hb2⟩ : ∃ b, impl_TNode_width_l2 n (kidW wide n) f = some b ∧ (b = true ↔ nOp n = 2 ∧ (nKids n).length = 0 ∧ ValP n) := by
      unfold impl_TNode_width_l2
      rw [e1, e2]
      obtain ⟨r, hr, hq⟩ := implBitsOk_ok (w := nW n) hn.2.2 hn.2.1
      have e6 : impl_BitsOk n.2.2.2.2.1 = some r := hr
      rw [e6]
      have hq : r = true ↔ ValP n := hq
      by_cases a2 : nOp n = 2
      · by_cases a3 : (nKids n).length = 0
        · rw [decide_eq_true a2, decide_eq_true a3]
          exact ⟨r, rfl, by rw [hq]; exact ⟨fun h => ⟨a2, a3, h⟩, fun h => h.2.2⟩⟩
        · rw [decide_eq_true a2, decide_eq_false a3]
          exact ⟨false, rfl, fun h => by (cases h), fun h => absurd h.2.1 a3⟩
      · rw [decide_eq_false a2]
        exact ⟨false, rfl, fun h => by (cases h), fun h => absurd h.1 a2⟩
    rw [hb1, Option.bind_some]
    cases b with
    | true =>
      have c2 := hb2.1 rfl
      exact pos _ (hF.2 (.inr (.inl c2))) (by unfold widF; rw [if_neg (by omega), if_pos c2.1]; rfl)
    | false =>
      have c2 : ¬ (nOp n = 2 ∧ (nKids n).length = 0 ∧ ValP n) := fun h => by have := hb2.2 h; cases this
      rw [cond_false, ← Bool.decide_and]
      by_cases c3 : nOp n = 3 ∧ 2 ≤ (nKids n).length
      · rw [decide_eq_true c3, cond_true]
        unfold impl_TNode_width_l4
        have := fix_seq0 (f := impl_TNode_width_l4_r (kidW wide n) (((kidW wide n).length : Nat) : Int)) (fun k => ((((kidW wide n).take k).sum : Int), (k : Int))) (t := sumK wide n) (kidW wide n).length (fun k hk => by
          unfold impl_TNode_width_l4_r impl_TNode_width_l4_g
          rw [hkl] at hk
          have hb := kidW_bound hw hin k (by omega)
          have hwk := wide_get hw (hin _ (getD_mem (z := 0) hk))
          have hg : (kidW wide n).getD k 0 = wide.getD ((nKids n).getD k 0).toNat 0 := by unfold kidW; exact getD_map (fun k => wide.getD k.toNat 0) hk
          simp only
          rw [hkl, dlt hk, cond_true, if_pos (rng hk), Int.toNat_natCast, stepN hk (by omega), kidW_take hk]
          show some (Sum.inl (IntKind.i64.wrap (((kidW wide n).take k).sum + (kidW wide n).getD k 0), _)) = _
          rw [hg, wrap64 (by omega) (by omega)]) (by
          unfold impl_TNode_width_l4_r impl_TNode_width_l4_g
          simp only
          rw [dge, cond_false, List.take_of_length_le (Nat.le_refl _)]; rfl)
        rw [show fix (impl_TNode_width_l4_r (kidW wide n) (((kidW wide n).length : Nat) : Int)) (0, 0) = some (sumK wide n) from this]
        exact pos _ (hF.2 (.inr (.inr (.inl c3)))) (by unfold widF; simp [c3.1])
      · rw [decide_eq_false c3, cond_false]
        by_cases c4 : (nKids n).length = 1
        · rw [decide_eq_false (fun h => h c4), cond_false]
          have hfS := hf1 c4
          have hSb : 0 ≤ f ∧ f ≤ 4096 := by omega
          have hpos : 4 ≤ nOp n ∧ nOp n ≤ 9 → FormP d n := fun h => hF.2 (.inr (.inr (.inr ⟨h.1, h.2, c4⟩)))
          have e4' : (decide (n.2.2.2.1 ≥ 0) && (decide (n.2.2.2.1 ≤ n.2.2.1) && decide (n.2.2.1 < f))) = decide (0 ≤ nB n ∧ nB n ≤ nA n ∧ nA n < f) := by
            show (decide (nB n ≥ 0) && (decide (nB n ≤ nA n) && decide (nA n < f))) = _
            rw [← Bool.decide_and, ← Bool.decide_and]
          rw [e4', ← Bool.decide_and, ← Bool.decide_and, ← Bool.decide_and, ← Bool.decide_and]
          have ecx : (n.2.2.1 : Int) = nA n := rfl
          have ecb : (n.2.2.2.1 : Int) = nB n := rfl
          have hw0 : ∀ v, v = widF d n f → v = widF d n (sumK wide n) := fun v h => by rw [← hfS]; exact h
          by_cases a4 : nOp n = 4
          · by_cases h : 0 ≤ nB n ∧ nB n ≤ nA n ∧ nA n < f
            · rw [decide_eq_true ⟨a4, h⟩, cond_true]
              refine pos _ (hpos (by omega)) (hw0 _ ?_)
              show IntKind.i64.wrap (IntKind.i64.wrap (nA n - nB n) + 1) = _
              rw [wrap64 (x := nA n - nB n) (by omega) (by omega), wrap64 (by omega) (by omega)]
              unfold widF; simp [a4, h]
            · have : ∀ v : Int, v = -1 → v = widF d n f := fun v hv => by unfold widF; simp [a4, h, hv]
              simp [a4, h]
              exact pos _ (hpos (by omega)) (hw0 _ (this _ rfl))
          · by_cases a5 : nOp n = 5 ∨ nOp n = 6
            · by_cases h : 0 ≤ nA n ∧ nA n ≤ 4096
              · have : (bif decide (nOp n = 5) then decide (0 ≤ nA n ∧ nA n ≤ 4096) else decide (nOp n = 6 ∧ 0 ≤ nA n ∧ nA n ≤ 4096)) = true := by
                  rcases a5 with h' | h' <;> simp [h', h]
                rw [decide_eq_false (by omega), cond_false, this, cond_true]
                refine pos _ (hpos (by omega)) (hw0 _ ?_)
                show IntKind.i64.wrap (f + nA n) = _
                rw [wrap64 (by omega) (by omega)]
                unfold widF; rcases a5 with h' | h' <;> simp [h', h]
              · have : ∀ v : Int, v = -1 → v = widF d n f := fun v hv => by unfold widF; rcases a5 with h' | h' <;> simp [h', h, hv]
                have h2 := pos _ (hpos (by omega)) (hw0 _ (this _ rfl))
                rcases a5 with h' | h' <;> simp [h', h] <;> exact h2
            · by_cases a7 : nOp n = 7 ∨ nOp n = 8
              · by_cases h : 0 ≤ nA n ∧ nA n ≤ 4096
                · have h2 := pos f (hpos (by omega)) (hw0 _ (by unfold widF; rcases a7 with h' | h' <;> simp [h', h]))
                  rcases a7 with h' | h' <;> simp [h', h] <;> exact h2
                · have : ∀ v : Int, v = -1 → v = widF d n f := fun v hv => by unfold widF; rcases a7 with h' | h' <;> simp [h', h, hv]
                  have h2 := pos _ (hpos (by omega)) (hw0 _ (this _ rfl))
                  rcases a7 with h' | h' <;> simp [h', h] <;> exact h2
              · by_cases a9 : nOp n = 9
                · by_cases h : 1 ≤ nA n ∧ nA n ≤ 4096
                  · have h1 : 0 ≤ f * nA n := Int.mul_nonneg hSb.1 (by omega)
                    have h2 : f * nA n ≤ 4096 * 4096 := Int.mul_le_mul hSb.2 h.2 (by omega) (by omega)
                    have h3 := pos (IntKind.i64.wrap (f * nA n)) (hpos (by omega)) (hw0 _ (by rw [wrap64 (by omega) (by omega)]; unfold widF; simp [a9, h]))
                    simp [a9, h]
                    exact h3
                  · have : ∀ v : Int, v = -1 → v = widF d n f := fun v hv => by unfold widF; simp [a9, h, hv]
                    have h2 := pos _ (hpos (by omega)) (hw0 _ (this _ rfl))
                    simp [a9, h]
                    exact h2
                · simp only [not_or] at a5 a7
                  have h2 := neg1 (by rw [hF]; omega)
                  simp [a4, a5, a7, a9]
                  exact h2
        · rw [decide_eq_true c4, cond_true]
          exact neg1 (by rw [hF]; intro h; rcases h with h | h | h | h; exact c1 h; exact c2 h; exact c3 h; exact c4 h.2.2)
end Go.Proofs.X
