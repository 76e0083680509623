import Derived.Laws.Small
import Derived.Laws.Cells
import Derived.Laws.BytesArg
import Derived.Great.FillDense
import Derived.Test.YtjbdmijibelnlaaGreatK0
set_option linter.unusedVariables false
set_option linter.unusedSimpArgs false
namespace Go.Va
section
variable {w : World} {g : G} {n : Nat}
theorem rd_ks {A A' : Nat → Prop} {w : World} {t : Ty} {x : t.V} {cs : List Value} (h : RdR w A t x cs) (ha : t.flat = false → ∀ b, A b → A' b) : RdR w A' t x cs := by
  cases hf : t.flat with
  | true => exact (RdR.flat hf).2 ((RdR.flat hf).1 h)
  | false => exact h.mono fun b a => ⟨ha hf b a, rfl⟩
theorem ksOf_lt {ks : List Nat} {t : Ty} (h : ∀ k ∈ ks, k < n) : ∀ k ∈ ksOf ks t, k < n := by
  unfold ksOf; split
  · intro k hk; cases hk
  · exact h
theorem rd_ksOf {own : Nat → Tag} {ks : List Nat} {w : World} {t : Ty} {x : t.V} {cs : List Value} (h : RdR w (Al own ks) t x cs) : RdR w (Al own (ksOf ks t)) t x cs :=
  rd_ks h fun hf b a => by unfold ksOf; rw [if_neg (by simp [hf])]; exact a
theorem ksOf_idem (ks : List Nat) (t : Ty) : ksOf (ksOf ks t) t = ksOf ks t := by unfold ksOf; split <;> simp_all
theorem fldD_spec {ks : List Nat} (hk : ∀ k ∈ ks, k < n) : ∀ (f : Nat) (t : Ty) (x : t.V) (cs : List Value) (v : AV), RdR w (Al g.own ks) t x cs → fldD ks t x f = some v →
    ∃ c0 c1 c2, cs = c0 ++ c1 ++ c2 ∧ offD t f = some c0.length ∧ AVX w g n false v c1 ∧ (∃ u y, v = .dat (ksOf ks u) u y ∧ RdR w (Al g.own ks) u y c1) ∧
      ∀ v' a' c1', setD ks t x f v' = some a' → AVX w g n false v' c1' → AVX w g n false a' (c0 ++ c1' ++ c2)
  | 0, .pair a b, x, cs, v, ⟨c, d, e, h1, h2⟩, hv => by
    simp only [fldD, Option.some.injEq] at hv; subst hv
    refine ⟨[], c, d, by simpa using e, rfl, ⟨ksOf_lt hk, rd_ksOf h1⟩, ⟨a, x.1, rfl, h1⟩, ?_⟩
    intro v' a' c1' hs hv'
    simp only [setD, Option.some.injEq] at hs; subst hs
    exact ⟨c1', d, rfl, hv', ksOf_lt hk, rd_ksOf h2⟩
  | f + 1, .pair a b, x, cs, v, ⟨c, d, e, h1, h2⟩, hv => by
    simp only [fldD] at hv
    obtain ⟨c0, c1, c2, e2, ho, hx, hu, hs⟩ := fldD_spec hk f b x.2 d v h2 hv
    refine ⟨c ++ c0, c1, c2, by rw [e, e2]; simp only [List.append_assoc], ?_, hx, hu, ?_⟩
    · simp only [offD, ho, List.length_append, h1.len]
    · intro v' a' c1' hs' hv'
      simp only [setD] at hs'
      split at hs'
      · rename_i r hr
        simp only [Option.some.injEq] at hs'; subst hs'
        exact ⟨c, c0 ++ c1' ++ c2, by simp only [List.append_assoc], ⟨ksOf_lt hk, rd_ksOf h1⟩, hs _ _ _ hr hv'⟩
      · cases hs'
  | f, .int _, _, _, _, _, hv => by simp [fldD] at hv
  | f, .bool, _, _, _, _, hv => by simp [fldD] at hv
  | f, .str, _, _, _, _, hv => by simp [fldD] at hv
  | f, .unit, _, _, _, _, hv => by simp [fldD] at hv
  | f, .sl _, _, _, _, _, hv => by simp [fldD] at hv
  | f, .opq _, _, _, _, _, hv => by simp [fldD] at hv
theorem fld_spec : ∀ (a : AV) (f : Nat) (cs : List Value) (v : AV), AVX w g n false a cs → a.fld f = some v →
    ∃ c0 c1 c2, cs = c0 ++ c1 ++ c2 ∧ a.off f = some c0.length ∧ AVX w g n false v c1 ∧
      ∀ v' a' c1', a.setFld f v' = some a' → AVX w g n false v' c1' → AVX w g n false a' (c0 ++ c1' ++ c2)
  | .dat ks t x, f, cs, v, ⟨hk, h⟩, hv => by
    obtain ⟨c0, c1, c2, e, ho, hx, _, hs⟩ := fldD_spec (g := g) hk f t x cs v h (by simpa [AV.fld] using hv)
    exact ⟨c0, c1, c2, e, by simpa [AV.off] using ho, hx, fun v' a' c1' h1 h2 => hs v' a' c1' (by simpa [AV.setFld] using h1) h2⟩
  | .pr a b, 0, cs, v, ⟨c, d, e, h1, h2⟩, hv => by
    simp only [AV.fld, Option.some.injEq] at hv; subst hv
    refine ⟨[], c, d, by simpa using e, rfl, h1, ?_⟩
    intro v' a' c1' hs hv'
    simp only [AV.setFld, Option.some.injEq] at hs; subst hs
    exact ⟨c1', d, rfl, hv', h2⟩
  | .pr a b, f + 1, cs, v, ⟨c, d, e, h1, h2⟩, hv => by
    simp only [AV.fld] at hv
    obtain ⟨c0, c1, c2, e2, ho, hx, hs⟩ := fld_spec b f d v h2 hv
    refine ⟨c ++ c0, c1, c2, by rw [e, e2]; simp only [List.append_assoc], ?_, hx, ?_⟩
    · simp only [AV.off, ho, List.length_append, h1.len]
    · intro v' a' c1' hs' hv'
      simp only [AV.setFld] at hs'
      split at hs'
      · rename_i r hr
        simp only [Option.some.injEq] at hs'; subst hs'
        exact ⟨c, c0 ++ c1' ++ c2, by simp only [List.append_assoc], h1, hs _ _ _ hr hv'⟩
      · cases hs'
  | .zs, _, _, _, _, hv => by simp [AV.fld] at hv
  | .ref _, _, _, _, _, hv => by simp [AV.fld] at hv
  | .ptr _ _ _ _, _, _, _, _, hv => by simp [AV.fld] at hv
  | .rop _ _ _, _, _, _, _, hv => by simp [AV.fld] at hv
  | .nilp, _, _, _, _, hv => by simp [AV.fld] at hv
  | .fn _ _, _, _, _, _, hv => by simp [AV.fld] at hv
  | .un _, _, _, _, _, hv => by simp [AV.fld] at hv
  | .cons _ _, _, _, _, h, _ => h.elim
  | .nil, _, _, _, h, _ => h.elim
  | .nst _ _ _ _ _, _, _, _, _, hv => by simp [AV.fld] at hv
theorem path_spec : ∀ (p : List Nat) (a : AV) (cs : List Value) (v : AV), AVX w g n false a cs → a.getP p = some v →
    ∃ c0 c1 c2, cs = c0 ++ c1 ++ c2 ∧ a.offP p = some c0.length ∧ AVX w g n false v c1 ∧
      ∀ v' a' c1', a.setP p v' = some a' → AVX w g n false v' c1' → AVX w g n false a' (c0 ++ c1' ++ c2)
  | [], a, cs, v, h, hv => by
    simp only [AV.getP, Option.some.injEq] at hv; subst hv
    refine ⟨[], cs, [], by simp, rfl, h, ?_⟩
    intro v' a' c1' hs hv'
    simp only [AV.setP, Option.some.injEq] at hs; subst hs
    simpa using hv'
  | f :: p, a, cs, v, h, hv => by
    simp only [AV.getP] at hv
    split at hv
    · rename_i b hb
      obtain ⟨c0, c1, c2, e, ho, hx, hs⟩ := fld_spec a f cs b h hb
      obtain ⟨d0, d1, d2, e2, ho2, hx2, hs2⟩ := path_spec p b c1 v hx hv
      refine ⟨c0 ++ d0, d1, d2 ++ c2, by rw [e, e2]; simp only [List.append_assoc], ?_, hx2, ?_⟩
      · simp only [AV.offP, hb, ho, ho2, List.length_append]
      · intro v' a' c1' hs' hv'
        simp only [AV.setP, hb] at hs'
        split at hs'
        · rename_i r hr
          have := hs _ _ _ hs' (hs2 _ _ _ hr hv')
          simpa only [List.append_assoc] using this
        · cases hs'
    · cases hv
end
theorem castV_some {t u : Ty} {x : t.V} {y : u.V} (h : castV t u x = some y) : ∃ e : t = u, e ▸ x = y := by
  unfold castV at h
  split at h
  · rename_i e; injection h with h; exact ⟨e, h⟩
  · cases h
def labF : Nat → List Nat → List Nat
  | 0, L => 0 :: L
  | n + 1, L => labF n (1 :: L)
def labP : List Nat → List Nat → List Nat
  | [], L => L
  | f :: p, L => labP p (labF f L)
structure Rel where
  E : (t : Ty) → List Nat → t.V → List Value → Prop
  pair : ∀ {a b : Ty} {L : List Nat} {x : (Ty.pair a b).V} {cs : List Value}, E (.pair a b) L x cs ↔ ∃ c d, cs = c ++ d ∧ E a (0 :: L) x.1 c ∧ E b (1 :: L) x.2 d
  len : ∀ {t : Ty} {L : List Nat} {x : t.V} {cs : List Value}, E t L x cs → cs.length = t.size
def rdRel (w : World) (A : Nat → Prop) : Rel := ⟨fun t _ x cs => RdR w A t x cs, Iff.rfl, RdR.len⟩
def owRel (w : World) (own : Nat → Tag) (k : Nat) : Rel := ⟨fun t L x cs => OwR w own k t L x cs, Iff.rfl, OwR.len⟩
section
variable (Q : Rel)
theorem setF_spec (F : ∀ u : Ty, u.V → Option u.V) (Pre : Ty → Nat → Prop) (D : List Nat → List Value → Prop) (sz : Nat)
    (hF : ∀ (u : Ty) (L : List Nat) (x y : u.V) (cs : List Value) (o : Nat), F u x = some y → Pre u o → Q.E u L x cs →
      ∃ c0 c1 c2, cs = c0 ++ c1 ++ c2 ∧ c0.length = o ∧ c1.length = sz ∧ ∀ c1', D L c1' → Q.E u L y (c0 ++ c1' ++ c2)) :
    ∀ (f : Nat) (t : Ty) (L : List Nat) (x x' : t.V) (cs : List Value) (u : Ty) (o o' : Nat), setF t x f F = some x' → tyF t f = some u → offD t f = some o → Pre u o' → Q.E t L x cs →
      ∃ c0 c1 c2, cs = c0 ++ c1 ++ c2 ∧ c0.length = o + o' ∧ c1.length = sz ∧ ∀ c1', D (labF f L) c1' → Q.E t L x' (c0 ++ c1' ++ c2)
  | 0, .pair a b, L, x, x', cs, u, o, o', hs, hu, ho, hc, h => by
    obtain ⟨c, d, e, h1, h2⟩ := Q.pair.1 h
    simp only [tyF, Option.some.injEq] at hu; subst hu
    simp only [offD, Option.some.injEq] at ho; subst ho
    simp only [setF] at hs
    split at hs
    · rename_i y hy
      injection hs with hs; subst hs
      obtain ⟨c0, c1, c2, e2, hl, hz, hr⟩ := hF a _ x.1 y c o' hy hc h1
      refine ⟨c0, c1, c2 ++ d, by rw [e, e2]; simp only [List.append_assoc], by omega, hz, fun c1' h => Q.pair.2 ⟨c0 ++ c1' ++ c2, d, by simp only [List.append_assoc], hr c1' h, h2⟩⟩
    · cases hs
  | f + 1, .pair a b, L, x, x', cs, u, o, o', hs, hu, ho, hc, h => by
    obtain ⟨c, d, e, h1, h2⟩ := Q.pair.1 h
    simp only [tyF] at hu
    simp only [offD] at ho
    split at ho
    · rename_i o2 ho2
      injection ho with ho; subst ho
      simp only [setF] at hs
      split at hs
      · rename_i y hy
        injection hs with hs; subst hs
        obtain ⟨c0, c1, c2, e2, hl, hz, hr⟩ := setF_spec F Pre D sz hF f b (1 :: L) x.2 y d u o2 o' hy hu ho2 hc h2
        refine ⟨c ++ c0, c1, c2, by rw [e, e2]; simp only [List.append_assoc], by rw [List.length_append, Q.len h1]; omega, hz, fun c1' h => Q.pair.2 ⟨c, c0 ++ c1' ++ c2, by simp only [List.append_assoc], h1, hr c1' h⟩⟩
      · cases hs
    · cases ho
  | f, .int _, _, _, _, _, _, _, _, hs, _, _, _, _ => by simp [setF] at hs
  | f, .bool, _, _, _, _, _, _, _, hs, _, _, _, _ => by simp [setF] at hs
  | f, .str, _, _, _, _, _, _, _, hs, _, _, _, _ => by simp [setF] at hs
  | f, .unit, _, _, _, _, _, _, _, hs, _, _, _, _ => by simp [setF] at hs
  | f, .sl _, _, _, _, _, _, _, _, hs, _, _, _, _ => by simp [setF] at hs
  | f, .opq _, _, _, _, _, _, _, _, hs, _, _, _, _ => by simp [setF] at hs
theorem setV_spec (u : Ty) (y : u.V) : ∀ (p : List Nat) (t : Ty) (L : List Nat) (x x' : t.V) (cs : List Value) (o : Nat), setV u y p t x = some x' → offTP t p = some o → Q.E t L x cs →
    ∃ c0 c1 c2, cs = c0 ++ c1 ++ c2 ∧ c0.length = o ∧ c1.length = u.size ∧ ∀ c1', Q.E u (labP p L) y c1' → Q.E t L x' (c0 ++ c1' ++ c2)
  | [], t, L, x, x', cs, o, hs, ho, h => by
    simp only [offTP, Option.some.injEq] at ho; subst ho
    obtain ⟨e, he⟩ := castV_some hs
    subst e
    simp only at he; subst he
    exact ⟨[], cs, [], by simp, rfl, Q.len h, fun c1' h' => by simpa [labP] using h'⟩
  | f :: p, t, L, x, x', cs, o, hs, ho, h => by
    simp only [offTP] at ho
    split at ho
    · rename_i t1 o1 h1 h2
      split at ho
      · rename_i o2 h3
        injection ho with ho; subst ho
        exact setF_spec Q (fun t' x' => setV u y p t' x') (fun v o => offTP v p = some o) (fun L c1' => Q.E u (labP p L) y c1') u.size
          (fun v L x1 y1 cs1 o' hs1 hc1 hr1 => setV_spec u y p v L x1 y1 cs1 o' hs1 hc1 hr1) f t L x x' cs t1 o1 o2 hs h1 h2 h3 h
      · cases ho
    · cases ho
end
theorem Al.mem {own : Nat → Tag} {ks : List Nat} {k b : Nat} {p : List Nat} (hk : k ∈ ks) (h : own b = .lab k p) : Al own ks b := .inr ⟨k, hk, p, h⟩
theorem rd_spec {w : World} {g : G} {bs : List Blk} (H : Heap w g bs) : ∀ (t : Ty) (a : AV) (x : t.V) (cs : List Value), rd bs t a = some x → AVX w g bs.length false a cs →
    RdR w (Al g.own (a.lend bs)) t x cs ∧ ∀ k ∈ a.lend bs, k < bs.length := by
  have plain : ∀ (t : Ty) (ks : List Nat) (u : Ty) (y : u.V) (x : t.V) (cs : List Value), castV u t y = some x → AVX w g bs.length false (.dat ks u y) cs → RdR w (Al g.own ks) t x cs ∧ ∀ k ∈ ks, k < bs.length := by
    intro t ks u y x cs h hx
    obtain ⟨e, he⟩ := castV_some h
    subst e; simp only at he; subst he
    exact ⟨hx.2, hx.1⟩
  intro t
  induction t with
  | pair a b iha ihb =>
    intro av x cs h hx
    simp only [rd] at h
    split at h
    · exact plain _ _ _ _ _ _ h hx
    · rename_i u v
      split at h
      · rename_i y z hy hz
        injection h with h; subst h
        obtain ⟨c, d, e, h1, h2⟩ := hx
        have r1 := iha u y c hy h1
        have r2 := ihb v z d hz h2
        refine ⟨⟨c, d, e, r1.1.mono fun q hq => ⟨hq.mono fun k hk => List.mem_append_left _ hk, rfl⟩, r2.1.mono fun q hq => ⟨hq.mono fun k hk => List.mem_append_right _ hk, rfl⟩⟩, ?_⟩
        intro k hk
        rcases List.mem_append.1 hk with hk | hk
        · exact r1.2 k hk
        · exact r2.2 k hk
      · cases h
    · cases h
  | sl t _ =>
    intro av x cs h hx
    simp only [rd] at h
    split at h
    · exact plain _ _ _ _ _ _ h hx
    · injection h with h; subst h
      obtain ⟨ad, e⟩ := hx
      exact ⟨⟨ad, 0, [], e, Nat.le_refl _, rfl, .inl rfl⟩, fun k hk => by cases hk⟩
    · rename_i k
      split at h
      · rename_i e m u ys hb
        obtain ⟨e', he⟩ := castV_some h
        injection e' with e'
        subst e'; simp only at he; subst he
        obtain ⟨hk, hc⟩ := hx
        obtain ⟨hm, hlen, hes, hpos, hr⟩ := H.blk k _ hb
        have hlend : (AV.ref k).lend bs = k :: m.ids := by simp [AV.lend, rowM, hb]
        rw [hlend]
        refine ⟨?_, fun j hj => ?_⟩
        · rcases hr with ⟨hy, hcap⟩ | ⟨b, cur, ds, ha, hown, ⟨el, _, hh⟩, h1, h2, h3, h4, hcon⟩
          · subst hy
            rw [hlen] at hc
            exact ⟨(g.at_ k).a, (g.at_ k).cap, [], hc, by simp, rfl, .inl rfl⟩
          · rw [hlen] at hc
            refine ⟨(g.at_ k).a, (g.at_ k).cap, ds, hc, h1, ?_, .inr ⟨b, 0, ha, .mem (List.mem_cons_self) hown, fun j q hq => ?_⟩⟩
            · cases m with
              | deep => exact hcon.toR fun i y c r => r.rd fun b q hb => .mem (List.mem_cons_self) hb
              | sh ks => exact hcon.mono fun y c r => r.mono fun b a => ⟨a.mono fun j hj => List.mem_cons_of_mem _ hj, rfl⟩
            · rw [cell_of hh, Nat.zero_add, ← Array.getElem?_toList]
              subst h4
              rw [List.getElem?_take] at hq
              split at hq
              · exact hq
              · cases hq
        · rcases List.mem_cons.1 hj with rfl | hj
          · exact hk
          · exact hm j hj
      · cases h
    · cases h
  | _ =>
    intro av x cs h hx
    simp only [rd] at h
    split at h
    · exact plain _ _ _ _ _ _ h hx
    · cases h
end Go.Va
namespace Go.Va
theorem BlkR.step {mods : List Nat} {n n' : Nat} {w w' : World} {g g' : G} (s : Step mods n w g w' g') (hn : n ≤ n') {k : Nat} (hk : k < n) (hm : k ∉ mods) {b : Blk} (h : BlkR w g n k b) :
    BlkR w' g' n' k (b.drop fun j => mods.contains j) := by
  cases b with
  | dead => trivial
  | box a =>
    obtain ⟨h1, b, cs, e, ha, ho, hh, hx⟩ := h
    have hl := s.lab b k [] ho hk hm
    refine ⟨by rw [s.at_ k hk]; exact h1, b, cs, e, by rw [s.at_ k hk]; exact ha, hl.1, hl.2.trans hh, AVX.step s hn a false hx⟩
  | row e m t xs =>
    obtain ⟨hmi, hlen, hes, hpos, hr⟩ := h
    simp only [Blk.drop]
    split
    · trivial
    · rename_i hb
      have hd : ∀ j ∈ m.ids, j ∉ mods := fun j hj hc => hb (List.any_eq_true.2 ⟨j, hj, by simpa using hc⟩)
      refine ⟨fun j hj => Nat.lt_of_lt_of_le (hmi j hj) hn, by rw [s.at_ k hk]; exact hlen, by rw [s.at_ k hk]; exact hes, hpos, ?_⟩
      rw [s.at_ k hk]
      refine hr.imp id fun ⟨b, cur, ds, ha, ho, ⟨el, hel, hh⟩, h1, h2, h3, h4, hc⟩ => ?_
      have hl := s.lab b k [] ho hk hm
      refine ⟨b, cur, ds, ha, hl.1, ⟨el, hel, hl.2.trans hh⟩, h1, h2, h3, h4, ?_⟩
      cases m with
      | deep => exact hc.mono fun i x c r => r.mono fun b q hb => s.lab b k _ hb hk hm
      | sh ks => exact hc.mono fun x c r => r.mono fun b a => a.step s hmi hd
theorem blk_drop_nil (b : Blk) : (b.drop fun _ => false) = b := by
  cases b with
  | box a => simp [Blk.drop, drop_nil]
  | row e m t xs => simp [Blk.drop]
  | dead => rfl
theorem BlkR.step0 {n n' : Nat} {w w' : World} {g g' : G} (s : Step [] n w g w' g') (hn : n ≤ n') {k : Nat} (hk : k < n) {b : Blk} (h : BlkR w g n k b) : BlkR w' g' n' k b := by
  have := h.step s hn hk (by simp)
  rwa [show (fun k => ([] : List Nat).contains k) = fun _ => false from funext fun _ => rfl, blk_drop_nil] at this
theorem lt_of_get {α : Type} {l : List α} {k : Nat} {x : α} (h : l[k]? = some x) : k < l.length := by
  rcases Nat.lt_or_ge k l.length with h' | h'
  · exact h'
  · rw [List.getElem?_eq_none h'] at h; cases h
theorem Heap.step0 {w w' : World} {g g' : G} {bs : List Blk} (H : Heap w g bs) (s : Step [] bs.length w g w' g') (hf : ∀ b, w'.heap.size ≤ b → g'.own b = .no) : Heap w' g' bs :=
  ⟨hf, fun k x hx => (H.blk k x hx).step0 s (Nat.le_refl _) (lt_of_get hx)⟩
theorem Heap.drew {w : World} {g : G} {bs : List Blk} (H : Heap w g bs) : Heap w.drew g bs := H.step0 (Step.drew _ _ _ _) H.fresh
theorem Heap.push {w w' : World} {g g' : G} {bs : List Blk} (H : Heap w g bs) (s : Step [] bs.length w g w' g') (hf : ∀ b, w'.heap.size ≤ b → g'.own b = .no) {b : Blk} (hb : BlkR w' g' (bs.length + 1) bs.length b) :
    Heap w' g' (bs ++ [b]) :=
  ⟨hf, fun k x hx => by
    rw [List.length_append, List.length_singleton]
    rw [List.getElem?_append] at hx
    split at hx
    · exact (H.blk k x hx).step0 s (Nat.le_succ _) (lt_of_get hx)
    · rename_i hk
      have : k - bs.length = 0 := by
        rcases Nat.eq_zero_or_pos (k - bs.length) with h | h
        · exact h
        · rw [List.getElem?_eq_none (by simp; omega)] at hx; cases hx
      rw [this] at hx
      obtain rfl : k = bs.length := by omega
      simp only [List.getElem?_cons_zero, Option.some.injEq] at hx
      subst hx; exact hb⟩
def zeroV : Value → Value → Bool
  | .int k n, .int k' m => k == k' && n == m
  | .bool a, .bool b => a == b
  | .string s, .string t => s.data.toList == t.data.toList
  | .slice none 0 0, .slice none 0 0 => true
  | .pointer none, .pointer none => true
  | .map none, .map none => true
  | .nilFunc, .nilFunc => true
  | _, _ => false
theorem zeroV_eq {a b : Value} (h : zeroV a b = true) : a = b := by
  unfold zeroV at h
  split at h
  · simp at h; rw [h.1, h.2]
  · simp at h; rw [h]
  · rename_i s t
    simp at h
    have : s.data = t.data := by simpa using h
    cases s; cases t; simp at this; rw [this]
  · rfl
  · rfl
  · rfl
  · rfl
  · cases h
def zeroL : List Value → List Value → Bool
  | [], [] => true
  | a :: r, b :: s => zeroV a b && zeroL r s
  | _, _ => false
theorem zeroL_eq : ∀ {a b : List Value}, zeroL a b = true → a = b
  | [], [], _ => rfl
  | a :: r, b :: s, h => by
    simp only [zeroL, Bool.and_eq_true] at h
    rw [zeroV_eq h.1, zeroL_eq h.2]
  | [], _ :: _, h => by cases h
  | _ :: _, [], h => by cases h
def fldsOk (P : Program) (ty : Ty) : Nat → List Field → List Nat → Bool
  | _, [], [] => true
  | i, f :: fs, o :: os => f.offset == o && offD ty i == some o && (match tyF ty i with | some u => (P.info? f.type).map (·.size) == some u.size && u.size != 0 | none => false) && fldsOk P ty (i + 1) fs os
  | _, _, _ => false
def kindOk (P : Program) (ti : TI) : TypeDesc → Bool
  | .int k => ti.ty == .int k
  | .bool => ti.ty == .bool
  | .string => ti.ty == .str
  | .slice e => ti.elem == e && (match ti.ty with | .sl _ => true | _ => false)
  | .struct fs => ti.ty.isAgg && fldsOk P ti.ty 0 fs.toList ti.offs
  | .array _ _ => ti.ty.isAgg
  | .pointer _ => (match ti.ty with | .opq _ => true | _ => false)
  | .map _ _ => (match ti.ty with | .opq _ => true | _ => false)
  | .func _ _ _ => (match ti.ty with | .opq _ => true | _ => false)
  | _ => false
def tiOk (P : Program) (t : Nat) (ti : TI) : Bool :=
  (match P.info? t with
   | some i => i.size == ti.ty.size && i.bytes == ti.bytes && (match i.zero with | some z => zeroL z.cells.toList (zeroC ti.ty) && (match z with | .agg _ => ti.ty.isAgg | _ => !ti.ty.isAgg) | none => false)
   | none => false) &&
  (match P.underlying t with | some d => kindOk P ti d && (match d with | .struct _ => true | _ => ti.offs.isEmpty) && (match d with | .array n e => ti.arr == n && ti.elem == e | _ => ti.arr == 0) | none => false)
def tabOk (P : Program) : Tab → Bool
  | [] => true
  | (t, ti) :: r => tiOk P t ti && tabOk P r
theorem tab_get {P : Program} : ∀ {tab : Tab} {t : Nat} {ti : TI}, tabOk P tab = true → tab.get t = some ti → tiOk P t ti = true
  | [], _, _, _, h => by cases h
  | (k, i) :: r, t, ti, ho, h => by
    simp only [tabOk, Bool.and_eq_true] at ho
    simp only [Tab.get] at h
    split at h
    · rename_i hk
      injection h with h; subst h
      rw [beq_iff_eq] at hk; subst hk; exact ho.1
    · exact tab_get ho.2 h
structure TOk (P : Program) (t : Nat) (ti : TI) : Prop where
  info : ∃ i z, P.info? t = some i ∧ i.size = ti.ty.size ∧ i.bytes = ti.bytes ∧ i.zero = some z ∧ z.cells.toList = zeroC ti.ty ∧ ((∃ c, z = .agg c) ↔ ti.ty.isAgg = true)
  under : ∃ d, P.underlying t = some d ∧ kindOk P ti d = true
  offs : (∃ fs, P.underlying t = some (.struct fs)) ∨ ti.offs = []
  arr : ti.arr ≠ 0 → P.underlying t = some (.array ti.arr ti.elem)
theorem TOk.of {P : Program} {tab : Tab} {t : Nat} {ti : TI} (ho : tabOk P tab = true) (h : tab.get t = some ti) : TOk P t ti := by
  have h1 := tab_get ho h
  unfold tiOk at h1
  rw [Bool.and_eq_true] at h1
  obtain ⟨h1, h2⟩ := h1
  constructor
  · split at h1
    · rename_i i hi
      simp only [Bool.and_eq_true, beq_iff_eq] at h1
      obtain ⟨⟨h3, h4⟩, h5⟩ := h1
      split at h5
      · rename_i z hz
        rw [Bool.and_eq_true] at h5
        refine ⟨i, z, hi, h3, h4, hz, zeroL_eq h5.1, ?_⟩
        have h6 := h5.2
        split at h6
        · rename_i c; simp [h6]
        · rename_i hz'
          simp at h6
          exact ⟨fun ⟨c, hc⟩ => (hz' c hc).elim, fun h => by simp [h6] at h⟩
      · cases h5
    · cases h1
  · split at h2
    · rename_i d hd
      simp only [Bool.and_eq_true] at h2
      exact ⟨d, hd, h2.1.1⟩
    · cases h2
  · split at h2
    · rename_i d hd
      simp only [Bool.and_eq_true] at h2
      have h3 := h2.1.2
      split at h3
      · rename_i fs; exact .inl ⟨fs, hd⟩
      · exact .inr (by simpa using h3)
    · cases h2
  · split at h2
    · rename_i d hd
      simp only [Bool.and_eq_true] at h2
      have h3 := h2.2
      split at h3
      · rename_i n e
        simp only [Bool.and_eq_true, beq_iff_eq] at h3
        intro _
        rw [hd, h3.1, h3.2]
      · intro h; exact (h (by simpa using h3)).elim
    · cases h2
end Go.Va
namespace Go.Va
section
variable {w : World} {g : G} {n : Nat} {v : Value}
theorem avr_get {a : AV} (ht : a.isTup = false) (hu : a.isUn = false) (h : AVR w g n a v) : ∃ cs, AVX w g n false a cs ∧ asVal a.isAgg cs v := by
  rw [AVR.iff ht] at h
  rcases h with h | h
  · rw [hu] at h; cases h
  · exact h
theorem avr_mk {a : AV} (ht : a.isTup = false) {cs : List Value} (h : AVX w g n false a cs) (hv : asVal a.isAgg cs v) : AVR w g n a v := (AVR.iff ht).2 (.inr ⟨cs, h, hv⟩)
theorem avr_int {ks : List Nat} {k : IntKind} {x : Int} (h : AVR w g n (.dat ks (.int k) x) v) : v = .int k x := by
  obtain ⟨cs, h, hv⟩ := avr_get rfl rfl h
  have e : cs = [.int k x] := h.2
  subst e
  simpa [asVal, AV.isAgg, Ty.isAgg] using hv.symm
theorem avr_bool {ks : List Nat} {x : Bool} (h : AVR w g n (.dat ks .bool x) v) : v = .bool x := by
  obtain ⟨cs, h, hv⟩ := avr_get rfl rfl h
  have e : cs = [.bool x] := h.2
  subst e
  simpa [asVal, AV.isAgg, Ty.isAgg] using hv.symm
theorem avr_str {ks : List Nat} {x : ByteArray} (h : AVR w g n (.dat ks .str x) v) : v = .string x := by
  obtain ⟨cs, h, hv⟩ := avr_get rfl rfl h
  have e : cs = [.string x] := h.2
  subst e
  simpa [asVal, AV.isAgg, Ty.isAgg] using hv.symm
theorem avr_sl {ks : List Nat} {t : Ty} {xs : List t.V} (h : AVR w g n (.dat ks (.sl t) xs) v) : (∀ k ∈ ks, k < n) ∧ ∃ ad cap ds, v = .slice ad xs.length cap ∧ xs.length ≤ cap ∧ ListR (RdR w (Al g.own ks) t) xs ds ∧
    (xs = [] ∨ ∃ b off, ad = some ⟨b, off, none⟩ ∧ Al g.own ks b ∧ ∀ j u, ds[j]? = some u → w.cell? ⟨b, off + j, none⟩ = some u) := by
  obtain ⟨cs, ⟨hk, ad, cap, ds, e, h1, h2, h3⟩, hv⟩ := avr_get rfl rfl h
  subst e
  exact ⟨hk, ad, cap, ds, by simpa [asVal, AV.isAgg, Ty.isAgg] using hv.symm, h1, h2, h3⟩
theorem avr_zs (h : AVR w g n .zs v) : ∃ ad, v = .slice ad 0 0 := by
  obtain ⟨cs, ⟨ad, e⟩, hv⟩ := avr_get rfl rfl h
  subst e
  exact ⟨ad, by simpa [asVal, AV.isAgg] using hv.symm⟩
theorem avr_ref {k : Nat} (h : AVR w g n (.ref k) v) : k < n ∧ v = .slice (g.at_ k).a (g.at_ k).len (g.at_ k).cap := by
  obtain ⟨cs, ⟨hk, e⟩, hv⟩ := avr_get rfl rfl h
  subst e
  exact ⟨hk, by simpa [asVal, AV.isAgg] using hv.symm⟩
theorem avr_ptr {k : Nat} {i : Int} {p : List Nat} {o : Nat} (h : AVR w g n (.ptr k i p o) v) : k < n ∧ 0 ≤ i ∧ i.toNat < (g.at_ k).len ∧ ∃ b, (g.at_ k).a = some ⟨b, 0, none⟩ ∧ v = .pointer (some ⟨b, i.toNat * (g.at_ k).esz + o, none⟩) := by
  obtain ⟨cs, ⟨hk, h0, h1, b, hb, e⟩, hv⟩ := avr_get rfl rfl h
  subst e
  exact ⟨hk, h0, h1, b, hb, by simpa [asVal, AV.isAgg] using hv.symm⟩
theorem avr_rop {ks : List Nat} {t : Ty} {x : t.V} (h : AVR w g n (.rop ks t x) v) : (∀ k ∈ ks, k < n) ∧ ∃ b off ds, v = .pointer (some ⟨b, off, none⟩) ∧ Al g.own ks b ∧ RdR w (Al g.own ks) t x ds ∧ ∀ j u, ds[j]? = some u → w.cell? ⟨b, off + j, none⟩ = some u := by
  obtain ⟨cs, ⟨hk, b, off, ds, e, h1, h2, h3⟩, hv⟩ := avr_get rfl rfl h
  subst e
  exact ⟨hk, b, off, ds, by simpa [asVal, AV.isAgg] using hv.symm, h1, h2, h3⟩
theorem mk_int (k : IntKind) (x : Int) : AVR w g n (.int k x) (.int k x) := avr_mk rfl (cs := [.int k x]) ⟨fun _ h => by (cases h), rfl⟩ (by simp [asVal, AV.isAgg, Ty.isAgg])
theorem mk_bool (x : Bool) : AVR w g n (.bool x) (.bool x) := avr_mk rfl (cs := [.bool x]) ⟨fun _ h => by (cases h), rfl⟩ (by simp [asVal, AV.isAgg, Ty.isAgg])
theorem mk_str (x : ByteArray) : AVR w g n (.str x) (.string x) := avr_mk rfl (cs := [.string x]) ⟨fun _ h => by (cases h), rfl⟩ (by simp [asVal, AV.isAgg, Ty.isAgg])
theorem mk_zs (ad : Option Addr) : AVR w g n .zs (.slice ad 0 0) := avr_mk rfl (cs := [.slice ad 0 0]) ⟨ad, rfl⟩ (by simp [asVal, AV.isAgg])
theorem un_any {k : Nat} : AVR w g n (.un k) v := (AVR.iff rfl).2 (.inl rfl)
theorem mk_rop {ks : List Nat} {t : Ty} {x : t.V} {b off : Nat} {ds : List Value} (hk : ∀ k ∈ ks, k < n) (h1 : Al g.own ks b) (h2 : RdR w (Al g.own ks) t x ds) (h3 : ∀ j u, ds[j]? = some u → w.cell? ⟨b, off + j, none⟩ = some u) :
    AVR w g n (.rop ks t x) (.pointer (some ⟨b, off, none⟩)) := avr_mk rfl (cs := [.pointer (some ⟨b, off, none⟩)]) ⟨hk, b, off, ds, rfl, h1, h2, h3⟩ (by simp [asVal, AV.isAgg])
theorem mk_ptr {k : Nat} {i : Int} {p : List Nat} {o b : Nat} (hk : k < n) (h0 : 0 ≤ i) (h1 : i.toNat < (g.at_ k).len) (hb : (g.at_ k).a = some ⟨b, 0, none⟩) :
    AVR w g n (.ptr k i p o) (.pointer (some ⟨b, i.toNat * (g.at_ k).esz + o, none⟩)) := avr_mk rfl (cs := [_]) ⟨hk, h0, h1, b, hb, rfl⟩ (by simp [asVal, AV.isAgg])
end
section
variable {P : Program} {w : World} {g : G} {n : Nat} {R : Type}
def Gives (P : Program) (w : World) (g : G) (n : Nat) (s : Sem Value) (z : AV) : Prop := ∃ c, s.run P w = .ok c w ∧ AVR w g n z c
theorem gives_int {s : Sem Value} {k : IntKind} {x : Int} (h : s.run P w = .ok (.int k x) w) : Gives P w g n s (.int k x) := ⟨_, h, mk_int k x⟩
theorem gives_bool {s : Sem Value} {x : Bool} (h : s.run P w = .ok (.bool x) w) : Gives P w g n s (.bool x) := ⟨_, h, mk_bool x⟩
theorem gives_str {s : Sem Value} {x : ByteArray} (h : s.run P w = .ok (.string x) w) : Gives P w g n s (.str x) := ⟨_, h, mk_str x⟩
theorem binA_ok {op : BinOp} {x y : AV} {u v : Value} {K : AV → Option R} {r : R} {tb : Bool} (t : TypeId) (ox oy : Operand) (htb : tb = true → P.underlying t = some .bool) (h : binA op tb x y K = some r) (hx : AVR w g n x u) (hy : AVR w g n y v) :
    ∃ z, K z = some r ∧ Gives P w g n (do eqGuard op t ox oy u v; binOp op t u v) z := by
  unfold binA at h
  split at h
  · rename_i ks k a ks' k' b
    obtain rfl := avr_int hx
    obtain rfl := avr_int hy
    split at h
    · split at h
      · cases h
      · rename_i hb
        exact ⟨_, h, gives_int (by simp [eqGuard, binOp, Op.shift, hb, shlI])⟩
    · split at h
      · cases h
      · rename_i hb
        exact ⟨_, h, gives_int (by simp [eqGuard, binOp, Op.shift, hb, shrI])⟩
    · split at h
      · rename_i hk; subst hk
        cases op <;> simp only [reduceCtorEq] at h
        case add => exact ⟨_, h, gives_int (by simp [eqGuard, binOp, Op.intArith])⟩
        case sub => exact ⟨_, h, gives_int (by simp [eqGuard, binOp, Op.intArith])⟩
        case mul => exact ⟨_, h, gives_int (by simp [eqGuard, binOp, Op.intArith])⟩
        case quo =>
          split at h
          · cases h
          · rename_i hb; exact ⟨_, h, gives_int (by simp [eqGuard, binOp, Op.intDiv, hb])⟩
        case rem =>
          split at h
          · cases h
          · rename_i hb; exact ⟨_, h, gives_int (by simp [eqGuard, binOp, Op.intDiv, hb])⟩
        case and => exact ⟨_, h, gives_int (by simp [eqGuard, binOp, Op.intBits, andI])⟩
        case or => exact ⟨_, h, gives_int (by simp [eqGuard, binOp, Op.intBits, orI])⟩
        case xor => exact ⟨_, h, gives_int (by simp [eqGuard, binOp, Op.intBits, xorI])⟩
        case andNot => exact ⟨_, h, gives_int (by simp [eqGuard, binOp, Op.intBits, andNotI])⟩
        case eql => exact ⟨_, h, gives_bool (by simp [eqGuard, binOp, Op.intCmp])⟩
        case neq => exact ⟨_, h, gives_bool (by simp [eqGuard, binOp, Op.intCmp])⟩
        case lss => exact ⟨_, h, gives_bool (by simp [eqGuard, binOp, Op.intCmp])⟩
        case leq => exact ⟨_, h, gives_bool (by simp [eqGuard, binOp, Op.intCmp])⟩
        case gtr => exact ⟨_, h, gives_bool (by simp [eqGuard, binOp, Op.intCmp])⟩
        case geq => exact ⟨_, h, gives_bool (by simp [eqGuard, binOp, Op.intCmp])⟩
      · cases h
  · rename_i ks a ks' b
    obtain rfl := avr_str hx
    obtain rfl := avr_str hy
    cases op <;> simp only [reduceCtorEq] at h
    case add =>
      split at h
      · rename_i hb
        refine ⟨_, h, gives_str ?_⟩
        have : ¬ (((a.size + b.size : Nat) : Int) > IntKind.i64.max) := by simp [IntKind.max, IntKind.signed, IntKind.bits]; omega
        simp [eqGuard, binOp, Op.stringOp]
        omega
      · cases h
    case eql => exact ⟨_, h, gives_bool (by simp [eqGuard, binOp, Op.stringOp, strEq])⟩
    case neq => exact ⟨_, h, gives_bool (by simp [eqGuard, binOp, Op.stringOp, strEq])⟩
    case lss => exact ⟨_, h, gives_bool (by simp [eqGuard, binOp, Op.stringOp, strLt])⟩
    case leq => exact ⟨_, h, gives_bool (by simp [eqGuard, binOp, Op.stringOp, strLt, strEq])⟩
    case gtr => exact ⟨_, h, gives_bool (by simp [eqGuard, binOp, Op.stringOp, strLt, strEq])⟩
    case geq => exact ⟨_, h, gives_bool (by simp [eqGuard, binOp, Op.stringOp, strLt])⟩
  · rename_i ks a ks' b
    obtain rfl := avr_bool hx
    obtain rfl := avr_bool hy
    split at h
    · rename_i hb
      have hu := htb hb
      have he : (Op.equal t (.bool a) (.bool b)).run P w = .ok (a == b) w := run_equal_bool w t a b hu
      cases op <;> simp only [reduceCtorEq] at h
      case eql => exact ⟨_, h, gives_bool (by simp [eqGuard, binOp, he])⟩
      case neq => exact ⟨_, h, gives_bool (by simp [eqGuard, binOp, he])⟩
    · cases h
  · cases h
theorem unA_ok {op : UnOp} {x : AV} {u : Value} {K : AV → Option R} {r : R} (h : unA op x K = some r) (hx : AVR w g n x u) :
    ∃ z, K z = some r ∧ Gives P w g n (Op.unary op u) z := by
  unfold unA at h
  split at h
  · obtain rfl := avr_bool hx
    split at h
    · exact ⟨_, h, gives_bool (by simp [Op.unary])⟩
    · cases h
  · obtain rfl := avr_int hx
    split at h
    · exact ⟨_, h, gives_int (by simp [Op.unary, Op.intArith])⟩
    · exact ⟨_, h, gives_int (by simp only [Op.unary, Op.intBits]; rfl)⟩
    · cases h
  · cases h
variable {bs : List Blk}
theorem isSl_under {t : Nat} {ti : TI} (h : TOk P t ti) (hs : ti.isSl = true) : P.underlying t = some (.slice ti.elem) := by
  obtain ⟨d, hd, hk⟩ := h.under
  unfold TI.isSl at hs
  split at hs
  · rename_i u hu
    rw [hd]
    cases d <;> simp [kindOk, hu, Ty.isAgg] at hk
    rename_i e; rw [hk]
  · cases hs
theorem str_under {t : Nat} {ti : TI} (h : TOk P t ti) (hs : ti.ty = .str) : P.underlying t = some .string := by
  obtain ⟨d, hd, hk⟩ := h.under
  rw [hd]
  cases d <;> simp [kindOk, hs, Ty.isAgg] at hk
  rfl
theorem bool_under {t : Nat} {ti : TI} (h : TOk P t ti) (hs : ti.ty = .bool) : P.underlying t = some .bool := by
  obtain ⟨d, hd, hk⟩ := h.under
  rw [hd]
  cases d <;> simp [kindOk, hs, Ty.isAgg] at hk
  rfl
theorem size_run {t : Nat} {ti : TI} (h : TOk P t ti) : (sizeOf t).run P w = .ok ti.ty.size w := by
  obtain ⟨i, z, hi, hs, _⟩ := h.info
  simp [sizeOf, typeInfo, hi, hs]
theorem agg_run {t : Nat} {ti : TI} (h : TOk P t ti) : (isAgg t).run P w = .ok ti.ty.isAgg w := by
  obtain ⟨d, hd, hk⟩ := h.under
  cases d <;> simp [isAgg, underlying, hd, kindOk] at hk ⊢
  case int => rw [hk]; rfl
  case bool => rw [hk]; rfl
  case string => rw [hk]; rfl
  case slice =>
    obtain ⟨_, hk⟩ := hk
    split at hk
    · rename_i u hu; rw [hu]; rfl
    · cases hk
  case array => exact hk
  case struct => exact hk.1
  case pointer =>
    split at hk
    · rename_i u hu; rw [hu]; rfl
    · cases hk
  case map =>
    split at hk
    · rename_i u hu; rw [hu]; rfl
    · cases hk
  case func =>
    split at hk
    · rename_i u hu; rw [hu]; rfl
    · cases hk
theorem lenA_ok (H : Heap w g bs) {t : Nat} {ti : TI} (ht : TOk P t ti) {x : AV} {u : Value} {K : AV → Option R} {r : R} (h : lenA bs ti x K = some r) (hx : AVR w g bs.length x u) (ty : TypeId) (ts : Array TypeId) (hts : ts[0]? = some t) :
    ∃ z, K z = some r ∧ Gives P w g n (Builtin.len_ ts ty #[u]) z := by
  unfold lenA at h
  split at h
  · split at h
    · rename_i hs
      obtain ⟨_, ad, cap, ds, rfl, _⟩ := avr_sl hx
      exact ⟨_, h, gives_int (by simp [Builtin.len_, hts, underlying, isSl_under ht hs, goInt])⟩
    · cases h
  · split at h
    · rename_i hs
      obtain rfl := avr_str hx
      exact ⟨_, h, gives_int (by simp [Builtin.len_, hts, underlying, str_under ht hs, goInt])⟩
    · cases h
  · split at h
    · rename_i hs
      obtain ⟨ad, rfl⟩ := avr_zs hx
      exact ⟨_, h, gives_int (by simp [Builtin.len_, hts, underlying, isSl_under ht hs, goInt])⟩
    · cases h
  · rename_i k
    split at h
    · rename_i e m t' xs hb
      split at h
      · rename_i hs
        obtain ⟨hk, rfl⟩ := avr_ref hx
        have hl := (H.blk k _ hb).2.1
        exact ⟨_, h, gives_int (by simp [Builtin.len_, hts, underlying, isSl_under ht hs, goInt, hl])⟩
      · cases h
    · cases h
  · cases h
theorem mmA_ok {mx : Bool} {x y : AV} {u v : Value} {K : AV → Option R} {r : R} (h : mmA mx x y K = some r) (hx : AVR w g n x u) (hy : AVR w g n y v) (ty : TypeId) (ts : Array TypeId) :
    ∃ z, K z = some r ∧ Gives P w g n (if mx then Builtin.max_ ts ty #[u, v] else Builtin.min_ ts ty #[u, v]) z := by
  unfold mmA at h
  split at h
  · obtain rfl := avr_int hx
    obtain rfl := avr_int hy
    split at h
    · rename_i hk; subst hk
      refine ⟨_, h, gives_int ?_⟩
      cases mx
      · simp [Builtin.min_, Builtin.min2]
      · simp [Builtin.max_, Builtin.max2]
    · cases h
  · cases h
theorem toNat_lt {i : Int} {n : Nat} (h : 0 ≤ i ∧ i < (n : Int)) : i.toNat < n := by omega
theorem addN (b o i : Nat) : (⟨b, o, none⟩ : Addr).add i = ⟨b, o + i, none⟩ := by unfold Addr.add; split <;> simp_all
theorem load_run {t : Nat} {ti : TI} (h : TOk P t ti) {b off : Nat} {cs : List Value} (hl : cs.length = ti.ty.size) (hc : ∀ j u, cs[j]? = some u → w.cell? ⟨b, off + j, none⟩ = some u) (hs : ti.ty.isAgg = false → cs.length = 1) :
    ∃ v, (loadVar t ⟨b, off, none⟩).run P w = .ok v w ∧ asVal ti.ty.isAgg cs v := by
  unfold loadVar
  cases ha : ti.ty.isAgg with
  | true =>
    have hr := run_loadCells_list (P := P) w ⟨b, off, none⟩ cs (fun j u hu => by rw [addN]; exact hc j u hu)
    rw [hl] at hr
    exact ⟨.agg cs.toArray, by simp [agg_run h, ha, size_run h, hr], by simp [asVal]⟩
  | false =>
    have h1 := hs ha
    obtain ⟨c, rfl⟩ : ∃ c, cs = [c] := by
      cases cs with
      | nil => simp at h1
      | cons c r => cases r with
        | nil => exact ⟨c, rfl⟩
        | cons _ _ => simp at h1
    have hc0 := hc 0 c rfl
    rw [Nat.add_zero] at hc0
    exact ⟨c, by simp [agg_run h, ha, load, Sem.run, hc0], by simp [asVal]⟩
theorem size_one {t : Ty} (h : t.isAgg = false) : t.size = 1 := by cases t <;> simp_all [Ty.isAgg, Ty.size]
theorem getD_mem {t : Ty} (xs : List t.V) (i : Nat) (z : t.V) (h : i < xs.length) : xs.getD i z = xs[i] := by simp [List.getD, h]
theorem atB_spec (H : Heap w g bs) {k : Nat} {i : Int} {a : AV} (h : atB bs k i = some a) (hi : i.toNat < (g.at_ k).len) {b : Nat} (hb : (g.at_ k).a = some ⟨b, 0, none⟩) :
    ∃ cs, AVX w g bs.length false a cs ∧ ∀ j u, cs[j]? = some u → w.cell? ⟨b, i.toNat * (g.at_ k).esz + j, none⟩ = some u := by
  unfold atB at h
  split at h
  · rename_i a' hx
    injection h with h; subst h
    obtain ⟨h1, b', cs, e, ha, ho, hh, hr⟩ := H.blk k _ hx
    rw [hb] at ha; injection ha with ha; injection ha with ha; subst ha
    refine ⟨cs.toList, hr, fun j u hu => ?_⟩
    have : i.toNat = 0 := by omega
    rw [this, Nat.zero_mul, Nat.zero_add, cell_of hh, ← Array.getElem?_toList]; exact hu
  · rename_i e m t xs hx
    injection h with h; subst h
    obtain ⟨hmi, hlen, hes, hpos, hr⟩ := H.blk k _ hx
    have hlt := lt_of_get hx
    rw [hlen] at hi
    rcases hr with ⟨hx0, _⟩ | ⟨b', cur, ds, ha, ho, ⟨el, hel, hh⟩, h1, h2, h3, h4, hc⟩
    · subst hx0; simp at hi
    · rw [hb] at ha; injection ha with ha; injection ha with ha; subst ha
      rw [getD_mem _ _ _ hi, hes]
      have hcell : ∀ j u, ds[j]? = some u → w.cell? ⟨b, j, none⟩ = some u := by
        intro j u hu
        rw [cell_of hh, ← Array.getElem?_toList]
        subst h4
        rw [List.getElem?_take] at hu
        split at hu
        · exact hu
        · cases hu
      cases m with
      | deep =>
        obtain ⟨c0, c, d, e1, hl, hr, _, _⟩ := ListI.at_ (fun i x c h => OwR.len h) hc hi
        refine ⟨c, ⟨ksOf_lt (fun j hj => by simp at hj; omega), rd_ksOf (hr.rd fun b q hq => .mem (List.mem_singleton.2 rfl) hq)⟩, fun j u hu => ?_⟩
        refine hcell _ u ?_
        rw [e1, ← hl, List.append_assoc, List.getElem?_append_right (by omega), show c0.length + j - c0.length = j by omega, List.getElem?_append_left (lt_of_get hu)]
        exact hu
      | sh ks =>
        obtain ⟨c0, c, d, e1, hl, hr, _, _⟩ := ListR.at_ (fun x c h => RdR.len h) hc hi
        refine ⟨c, ⟨ksOf_lt hmi, rd_ksOf hr⟩, fun j u hu => ?_⟩
        refine hcell _ u ?_
        rw [e1, ← hl, List.append_assoc, List.getElem?_append_right (by omega), show c0.length + j - c0.length = j by omega, List.getElem?_append_left (lt_of_get hu)]
        exact hu
  · cases h
theorem atP_spec (H : Heap w g bs) {k : Nat} {i : Int} {p : List Nat} {o : Nat} {a : AV} (h : atP bs k i p o = some a) (hi : i.toNat < (g.at_ k).len) {b : Nat} (hb : (g.at_ k).a = some ⟨b, 0, none⟩) :
    ∃ cs, AVX w g bs.length false a cs ∧ ∀ j u, cs[j]? = some u → w.cell? ⟨b, i.toNat * (g.at_ k).esz + o + j, none⟩ = some u := by
  unfold atP at h
  split at h
  · rename_i c hc
    split at h
    · rename_i ho
      obtain ⟨cs, hx, hcell⟩ := atB_spec H hc hi hb
      obtain ⟨c0, c1, c2, e, ho2, hx1, _⟩ := path_spec p c cs a hx h
      rw [ho] at ho2; injection ho2 with ho2; subst ho2
      refine ⟨c1, hx1, fun j u hu => ?_⟩
      rw [Nat.add_assoc]
      refine hcell _ u ?_
      rw [e, List.append_assoc, List.getElem?_append_right (by omega), show c0.length + j - c0.length = j by omega, List.getElem?_append_left (lt_of_get hu)]
      exact hu
    · cases h
  · cases h
theorem notTup {a : AV} {cs : List Value} (h : AVX w g n false a cs) : a.isTup = false := by cases a <;> first | rfl | exact h.elim
theorem loadA_ok (H : Heap w g bs) {t : Nat} {ti : TI} (ht : TOk P t ti) {x : AV} {u : Value} {K : AV → Option R} {r : R} (h : loadA bs ti x K = some r) (hx : AVR w g bs.length x u) :
    ∃ z, K z = some r ∧ Gives P w g bs.length (Instr.loadAt t u) z := by
  unfold loadA at h
  split at h
  · rename_i ks t' y
    split at h
    · rename_i he; subst he
      obtain ⟨hk, b, off, ds, rfl, ha, hr, hc⟩ := avr_rop hx
      obtain ⟨v, hv, hs⟩ := load_run (w := w) ht hr.len hc (fun hg => by rw [hr.len]; exact size_one hg)
      exact ⟨_, h, v, by simp [Instr.loadAt, Instr.sureAddr, hv], avr_mk rfl (cs := ds) ⟨ksOf_lt hk, rd_ksOf hr⟩ hs⟩
    · cases h
  · rename_i k i p o
    split at h
    · rename_i a ha
      split at h
      · rename_i hs
        obtain ⟨hk, h0, h1, b, hb, rfl⟩ := avr_ptr hx
        obtain ⟨cs, hcx, hcell⟩ := atP_spec H ha h1 hb
        obtain ⟨v, hv, hsv⟩ := load_run (w := w) ht (by rw [hcx.len, hs.1]) hcell (fun hg => by rw [hcx.len, hs.1]; exact size_one hg)
        rw [← hs.2] at hsv
        exact ⟨_, h, v, by simp [Instr.loadAt, Instr.sureAddr, hv], avr_mk (notTup hcx) hcx hsv⟩
      · cases h
    · cases h
  · cases h
theorem idxA_ok (H : Heap w g bs) {t : Nat} {ti te : TI} (ht : TOk P t ti) (hte : TOk P ti.elem te) (hs : ti.isSl = true) {x y : AV} {u v : Value} {K : AV → Option R} {r : R} (h : idxA bs te.ty x y K = some r) (hx : AVR w g bs.length x u) (hy : AVR w g bs.length y v) :
    ∃ z, K z = some r ∧ Gives P w g bs.length (Instr.indexAt t u v) z := by
  have hu := isSl_under ht hs
  unfold idxA at h
  split at h
  · rename_i ks t' xs ks' k i
    split at h
    · rename_i he; subst he
      split at h
      · rename_i hi
        obtain rfl := avr_int hy
        obtain ⟨hk, ad, cap, ds, rfl, hl, hr, hm⟩ := avr_sl hx
        have hlt : i.toNat < xs.length := toNat_lt hi
        rcases hm with hm | ⟨b, off, rfl, ha, hc⟩
        · subst hm; simp at hlt
        · obtain ⟨c0, c, d, e1, hl0, hr1, _, _⟩ := ListR.at_ (fun x c h => RdR.len h) hr hlt
          refine ⟨_, h, .pointer (some ⟨b, off + i.toNat * te.ty.size, none⟩), ?_, ?_⟩
          · simp [Instr.indexAt, asIntOf, underlying, hu, hi.1, hi.2, size_run hte, addN]
          · rw [getD_mem _ _ _ hlt]
            refine mk_rop hk ha hr1 fun j q hq => ?_
            rw [← hl0, Nat.add_assoc]
            refine hc _ q ?_
            rw [e1, List.append_assoc, List.getElem?_append_right (by omega), show c0.length + j - c0.length = j by omega, List.getElem?_append_left (lt_of_get hq)]
            exact hq
      · cases h
    · cases h
  · rename_i k ks' kk i
    split at h
    · rename_i e m t' xs hb
      split at h
      · rename_i he; subst he
        split at h
        · rename_i hi
          obtain rfl := avr_int hy
          obtain ⟨hk, rfl⟩ := avr_ref hx
          obtain ⟨hmi, hlen, hes, hpos, hr⟩ := H.blk k _ hb
          have hlt : i.toNat < xs.length := toNat_lt hi
          rcases hr with ⟨hx0, _⟩ | ⟨b, cur, ds, ha, ho, ⟨el, hel, hh⟩, h1, h2, h3, h4, hc⟩
          · subst hx0; simp at hlt
          · refine ⟨_, h, .pointer (some ⟨b, i.toNat * (g.at_ k).esz + 0, none⟩), ?_, mk_ptr hk hi.1 (by rw [hlen]; exact hlt) ha⟩
            simp [Instr.indexAt, asIntOf, underlying, hu, hi.1, hi.2, size_run hte, ha, hlen, hes, addN]
        · cases h
      · cases h
    · cases h
  · cases h
theorem chrA_ok {t : Nat} {ti : TI} (ht : TOk P t ti) (hs : ti.ty = .str) {x y : AV} {u v : Value} {K : AV → Option R} {r : R} (h : chrA x y K = some r) (hx : AVR w g n x u) (hy : AVR w g n y v) :
    ∃ z, K z = some r ∧ Gives P w g n (Instr.index t u v) z := by
  unfold chrA at h
  split at h
  · rename_i ks s ks' k i
    split at h
    · rename_i hi
      obtain rfl := avr_int hy
      obtain rfl := avr_str hx
      refine ⟨_, h, gives_int ?_⟩
      have hlt : i.toNat < s.size := toNat_lt hi
      simp [Instr.index, asIntOf, underlying, str_under ht hs, hi.1, bgetI, hlt]
    · cases h
  · cases h
end
end Go.Va
namespace Go.Va
section
variable {P : Program} {w : World} {g : G} {n : Nat} {R : Type} {bs : List Blk}
theorem flds_at {ty : Ty} : ∀ {fs : List Field} {os : List Nat} {i j o : Nat}, fldsOk P ty i fs os = true → os[j]? = some o →
    ∃ fd u inf, fs[j]? = some fd ∧ fd.offset = o ∧ offD ty (i + j) = some o ∧ tyF ty (i + j) = some u ∧ P.info? fd.type = some inf ∧ inf.size = u.size ∧ u.size ≠ 0
  | [], [], _, _, _, _, h => by simp at h
  | f :: fs, o' :: os, i, 0, o, h, ho => by
    simp only [List.getElem?_cons_zero, Option.some.injEq] at ho; subst ho
    simp only [fldsOk, Bool.and_eq_true, beq_iff_eq] at h
    obtain ⟨⟨⟨h1, h2⟩, h3⟩, _⟩ := h
    split at h3
    · rename_i u hu
      simp only [Bool.and_eq_true, beq_iff_eq, bne_iff_ne] at h3
      cases hi : P.info? f.type with
      | none => simp [hi] at h3
      | some inf => simp [hi] at h3; exact ⟨f, u, inf, rfl, h1, by simpa using h2, by simpa using hu, hi, h3.1, h3.2⟩
    · cases h3
  | f :: fs, o' :: os, i, j + 1, o, h, ho => by
    simp only [fldsOk, Bool.and_eq_true] at h
    obtain ⟨fd, u, inf, h1, h2, h3, h4, h5⟩ := flds_at (i := i + 1) h.2 (by simpa using ho)
    exact ⟨fd, u, inf, by simpa using h1, h2, by rw [show i + (j + 1) = i + 1 + j by omega]; exact h3, by rw [show i + (j + 1) = i + 1 + j by omega]; exact h4, h5⟩
  | [], _ :: _, _, _, _, h, _ => by simp [fldsOk] at h
  | _ :: _, [], _, _, _, h, _ => by simp [fldsOk] at h
theorem struct_under {t : Nat} {ti : TI} (h : TOk P t ti) {f o : Nat} (ho : ti.offs[f]? = some o) :
    ∃ fs, P.underlying t = some (.struct fs) ∧ fldsOk P ti.ty 0 fs.toList ti.offs = true := by
  rcases h.offs with ⟨fs, hfs⟩ | he
  · obtain ⟨d, hd, hk⟩ := h.under
    rw [hfs] at hd; injection hd with hd; subst hd
    simp only [kindOk, Bool.and_eq_true] at hk
    exact ⟨fs, hfs, hk.2⟩
  · rw [he] at ho; simp at ho
theorem fieldAt_run {t : Nat} {ti : TI} (h : TOk P t ti) {f fo : Nat} (ho : ti.offs[f]? = some fo) (b o : Nat) :
    (Instr.fieldAt t (.pointer (some ⟨b, o, none⟩)) f).run P w = .ok (.pointer (some ⟨b, o + fo, none⟩)) w ∧ offD ti.ty f = some fo ∧ ∃ u, tyF ti.ty f = some u := by
  obtain ⟨fs, hu, hf⟩ := struct_under h ho
  obtain ⟨fd, u, inf, h1, h2, h3, h4, h5, h6, h7⟩ := flds_at hf ho
  rw [Nat.zero_add] at h3 h4
  refine ⟨?_, h3, u, h4⟩
  have hfd : fs[f]? = some fd := by rw [← Array.getElem?_toList]; exact h1
  have hsz : (sizeOf fd.type).run P w = .ok u.size w := by simp [sizeOf, typeInfo, h5, h6]
  simp [Instr.fieldAt, underlying, hu, hfd, Instr.sureAddr, fieldPlace, hsz, h7, addN, h2]
theorem fldA_ok {t : Nat} {ti : TI} (ht : TOk P t ti) {f : Nat} {x : AV} {u : Value} {K : AV → Option R} {r : R} (h : fldA ti f x K = some r) (hx : AVR w g n x u) :
    ∃ z, K z = some r ∧ Gives P w g n (Instr.fieldAt t u f) z := by
  unfold fldA at h
  split at h
  · rename_i k i p o
    split at h
    · rename_i fo hfo
      obtain ⟨hk, h0, h1, b, hb, rfl⟩ := avr_ptr hx
      refine ⟨_, h, _, (fieldAt_run ht hfo b _).1, ?_⟩
      rw [Nat.add_assoc]
      exact mk_ptr hk h0 h1 hb
    · cases h
  · rename_i ks t' y
    split at h
    · rename_i he
      obtain ⟨rfl, he⟩ := he
      split at h
      · rename_i ks' v z hz
        obtain ⟨hk, b, off, ds, rfl, ha, hr, hc⟩ := avr_rop hx
        obtain ⟨c0, c1, c2, e, ho, _, ⟨u', y', heq, hr1⟩, _⟩ := fldD_spec (g := g) hk f _ y ds _ hr hz
        injection heq with _ h2 h3
        subst h2
        obtain rfl := eq_of_heq h3
        rw [ho] at he
        refine ⟨_, h, _, (fieldAt_run ht he.symm b off).1, mk_rop hk ha hr1 fun j q hq => ?_⟩
        rw [Nat.add_assoc]
        refine hc _ q ?_
        rw [e, List.append_assoc, List.getElem?_append_right (by omega), show c0.length + j - c0.length = j by omega, List.getElem?_append_left (lt_of_get hq)]
        exact hq
      · cases h
    · cases h
  · cases h
theorem extr_ok : ∀ {x : AV} {i : Nat} {z : AV} {vs : List Value}, extrA x i = some z → AVX w g n true x vs → ∃ v, vs[i]? = some v ∧ (z.isTup = false → AVR w g n z v)
  | .cons a b, 0, z, vs, h, hx => by
    simp only [extrA, Option.some.injEq] at h; subst h
    obtain ⟨v, r, e, h1, _⟩ := hx
    subst e
    exact ⟨v, rfl, fun ht => (AVR.iff ht).2 h1⟩
  | .cons a b, i + 1, z, vs, h, hx => by
    simp only [extrA] at h
    obtain ⟨v, r, e, _, h2⟩ := hx
    subst e
    obtain ⟨u, hu, hz⟩ := extr_ok h h2
    exact ⟨u, by simpa using hu, hz⟩
  | .nil, _, _, _, h, _ => by simp [extrA] at h
  | .dat _ _ _, _, _, _, h, _ => by simp [extrA] at h
  | .zs, _, _, _, h, _ => by simp [extrA] at h
  | .ref _, _, _, _, h, _ => by simp [extrA] at h
  | .ptr _ _ _ _, _, _, _, h, _ => by simp [extrA] at h
  | .rop _ _ _, _, _, _, h, _ => by simp [extrA] at h
  | .nilp, _, _, _, h, _ => by simp [extrA] at h
  | .pr _ _, _, _, _, h, _ => by simp [extrA] at h
  | .fn _ _, _, _, _, h, _ => by simp [extrA] at h
  | .nst _ _ _ _ _, _, _, _, h, _ => by simp [extrA] at h
  | .un _, _, _, _, h, _ => by simp [extrA] at h
def OptR (w : World) (g : G) (n : Nat) : Option AV → Option Value → Prop
  | none, none => True
  | some a, some v => AVR w g n a v
  | _, _ => False
theorem bnd_ok {x : Option AV} {v : Option Value} {d i : Int} (h : bnd x d = some i) (hx : OptR w g n x v) : (v = none ∧ i = d) ∨ ∃ k, v = some (.int k i) := by
  unfold bnd at h
  split at h
  · cases v with
    | none => simp at h; exact .inl ⟨rfl, h.symm⟩
    | some _ => exact hx.elim
  · cases v with
    | none => exact hx.elim
    | some u => simp at h; subst h; exact .inr ⟨_, congrArg some (avr_int hx)⟩
  · cases h
theorem bounds_run {isS : Bool} {len cap : Nat} {lo hi : Option Value} {l h : Int} (hl : (lo = none ∧ l = 0) ∨ ∃ k, lo = some (.int k l)) (hh : (hi = none ∧ h = (len : Int)) ∨ ∃ k, hi = some (.int k h))
    (h0 : 0 ≤ l) (h1 : l ≤ h) (h2 : h ≤ (len : Int)) (hc : len ≤ cap) : (Instr.sliceBounds isS len cap lo hi none).run P w = .ok (l.toNat, h.toNat, cap) w := by
  have e1 : ((h.toNat : Nat) : Int) = h := by omega
  have e2 : h ≤ (cap : Int) := by omega
  have e3 : 0 ≤ h := by omega
  rcases hl with ⟨rfl, rfl⟩ | ⟨k, rfl⟩ <;> rcases hh with ⟨rfl, rfl⟩ | ⟨k', rfl⟩
  · simp [Instr.sliceBounds]
  · simp [Instr.sliceBounds, Instr.sliceBound, asIntOf, e2, e3]
  · simp [Instr.sliceBounds, Instr.sliceBound, asIntOf, h0, h1]
  · simp [Instr.sliceBounds, Instr.sliceBound, asIntOf, e2, e3, h0, h1, e1]
theorem sliceAt_slice {t : Nat} {ti : TI} (h : TOk P t ti) (hs : ti.isSl = true) (a : Option Addr) (len cap : Nat) (lo hi mx : Option Value) (w : World) :
    (Instr.sliceAt t (.slice a len cap) lo hi mx).run P w = (Instr.slice t (.slice a len cap) lo hi mx).run P w := by
  simp [Instr.sliceAt, underlying, isSl_under h hs]
theorem sliceAt_str {t : Nat} {ti : TI} (h : TOk P t ti) (hs : ti.ty = .str) (s : ByteArray) (lo hi mx : Option Value) (w : World) :
    (Instr.sliceAt t (.string s) lo hi mx).run P w = (Instr.slice t (.string s) lo hi mx).run P w := by
  simp [Instr.sliceAt, underlying, str_under h hs]
theorem part_rd {A : Nat → Prop} {t : Ty} {xs : List t.V} {ad : Option Addr} {cap : Nat} {ds : List Value} {l h : Nat} (h1 : l ≤ h) (h2 : h ≤ xs.length) (hc : xs.length ≤ cap)
    (hr : ListR (RdR w A t) xs ds) (hm : xs = [] ∨ ∃ b off, ad = some ⟨b, off, none⟩ ∧ A b ∧ ∀ j u, ds[j]? = some u → w.cell? ⟨b, off + j, none⟩ = some u) :
    RdR w A (.sl t) ((xs.take h).drop l) [.slice (if cap = l then ad else ad.map (·.add (l * t.size))) (h - l) (cap - l)] := by
  have hlen : ((xs.take h).drop l).length = h - l := by simp [List.length_take]; omega
  refine ⟨_, cap - l, ((ds.take (h * t.size)).drop (l * t.size)), by rw [hlen], by rw [hlen]; omega, ?_, ?_⟩
  · exact ListR.dropN (fun x c r => RdR.len r) l (ListR.takeN (fun x c r => RdR.len r) h hr)
  · rcases Nat.eq_or_lt_of_le h1 with e | hlt
    · subst e; exact .inl (by apply List.eq_nil_of_length_eq_zero; rw [hlen]; omega)
    · rcases hm with hx | ⟨b, off, rfl, ha, hcell⟩
      · subst hx; simp at h2; omega
      · refine .inr ⟨b, off + l * t.size, ?_, ha, fun j u hu => ?_⟩
        · rw [if_neg (by omega)]; simp [addN]
        · rw [List.getElem?_drop, List.getElem?_take] at hu
          split at hu
          · rw [Nat.add_assoc]; exact hcell _ u hu
          · cases hu
theorem sliceA_ok (H : Heap w g bs) {t : Nat} {ti : TI} (ht : TOk P t ti) {te : Option Ty} (hte : ∀ u, te = some u → ti.isSl = true ∧ ∃ tie, tie.ty = u ∧ TOk P ti.elem tie) {x : AV} {lo hi mx : Option AV} {u : Value} {vlo vhi vmx : Option Value}
    {K : AV → Option R} {r : R} (h : sliceA bs ti te x lo hi mx K = some r) (hx : AVR w g bs.length x u) (hlo : OptR w g bs.length lo vlo) (hhi : OptR w g bs.length hi vhi) (hmx : OptR w g bs.length mx vmx) :
    ∃ z, K z = some r ∧ Gives P w g bs.length (Instr.sliceAt t u vlo vhi vmx) z := by
  unfold sliceA at h
  split at h
  · rename_i ks k m
    split at h
    · rename_i ks' k' hh
      split at h
      · rename_i hz
        obtain ⟨rfl, rfl, hs⟩ := hz
        obtain ⟨u', hu'⟩ := Option.isSome_iff_exists.1 hs
        obtain ⟨hs, tie, rfl, hto⟩ := hte _ hu'
        obtain rfl : vlo = none := by cases vlo with | none => rfl | some _ => exact hlo.elim
        obtain ⟨vh, rfl, e1⟩ : ∃ v, vhi = some v ∧ v = .int k' 0 := by cases vhi with | none => exact hhi.elim | some v => exact ⟨v, rfl, avr_int hhi⟩
        obtain ⟨vm, rfl, e2⟩ : ∃ v, vmx = some v ∧ v = .int k 0 := by cases vmx with | none => exact hmx.elim | some v => exact ⟨v, rfl, avr_int hmx⟩
        subst e1; subst e2
        have key : ∀ (a : Option Addr) (len cap : Nat), (Instr.sliceAt t (.slice a len cap) none (some (.int k' 0)) (some (.int k 0))).run P w = .ok (.slice a 0 0) w := fun a len cap => by
          rw [sliceAt_slice ht hs]
          simp [Instr.slice, underlying, isSl_under ht hs, Instr.sliceBounds, Instr.sliceBound, asIntOf, size_run hto]
        split at h
        · obtain ⟨_, ad, cap, ds, rfl, _⟩ := avr_sl hx
          exact ⟨_, h, _, key _ _ _, mk_zs _⟩
        · obtain ⟨ad, rfl⟩ := avr_zs hx
          exact ⟨_, h, _, key _ _ _, mk_zs _⟩
        · split at h
          · obtain ⟨_, rfl⟩ := avr_ref hx
            exact ⟨_, h, _, key _ _ _, mk_zs _⟩
          · cases h
        · cases h
      · cases h
    · cases h
  · cases h
  · split at h
    · rename_i ks s
      split at h
      · rename_i l hh hl hhh
        split at h
        · rename_i hc
          obtain ⟨hs, h0, h1, h2⟩ := hc
          obtain rfl := avr_str hx
          obtain rfl : vmx = none := by cases vmx with | none => rfl | some _ => exact hmx.elim
          refine ⟨_, h, gives_str ?_⟩
          rw [sliceAt_str ht hs]
          have hb := bounds_run (P := P) (w := w) (isS := false) (cap := s.size) (bnd_ok hl hlo) (bnd_ok hhh hhi) h0 h1 h2 (Nat.le_refl _)
          simp [Instr.slice, underlying, str_under ht hs, hb]
        · cases h
      · cases h
    · rename_i ks t' xs
      split at h
      · rename_i l hh hl hhh
        split at h
        · rename_i he
          obtain ⟨hs, tie, rfl, hto⟩ := hte _ he
          split at h
          · rename_i hc
            obtain ⟨h0, h1, h2⟩ := hc
            obtain ⟨hk, ad, cap, ds, rfl, hcap, hr, hm⟩ := avr_sl hx
            obtain rfl : vmx = none := by cases vmx with | none => rfl | some _ => exact hmx.elim
            refine ⟨_, h, ?_⟩
            have hb := bounds_run (P := P) (w := w) (isS := true) (cap := cap) (bnd_ok hl hlo) (bnd_ok hhh hhi) h0 h1 h2 hcap
            refine ⟨.slice (if cap = l.toNat then ad else ad.map (·.add (l.toNat * tie.ty.size))) (hh.toNat - l.toNat) (cap - l.toNat), ?_, ?_⟩
            · rw [sliceAt_slice ht hs]
              simp [Instr.slice, underlying, isSl_under ht hs, hb, size_run hto]
            · exact avr_mk rfl (cs := [_]) ⟨hk, part_rd (by omega) (by omega) hcap hr hm⟩ (by simp [asVal, AV.isAgg, Ty.isAgg])
          · cases h
        · cases h
      · cases h
    · rename_i k
      split at h
      · rename_i e m t' xs hb
        split at h
        · rename_i l hh hl hhh
          split at h
          · rename_i he
            obtain ⟨hs, tie, rfl, hto⟩ := hte _ he
            split at h
            · rename_i hc
              obtain ⟨h0, h1, h2⟩ := hc
              obtain ⟨cs, hcx, hv⟩ := avr_get rfl rfl hx
              have hrd := rd_spec H (.sl tie.ty) (.ref k) xs cs (by simp [rd, hb, castV]) hcx
              obtain ⟨⟨ad, cap, ds, e1, hcap, hr, hm⟩, hlend⟩ := hrd
              subst e1
              have hlend' : (AV.ref k).lend bs = k :: m.ids := by simp [AV.lend, rowM, hb]
              rw [hlend'] at hlend hr hm
              obtain rfl : u = .slice ad xs.length cap := by simpa [asVal, AV.isAgg] using hv.symm
              obtain rfl : vmx = none := by cases vmx with | none => rfl | some _ => exact hmx.elim
              refine ⟨_, h, ?_⟩
              have hb := bounds_run (P := P) (w := w) (isS := true) (cap := cap) (bnd_ok hl hlo) (bnd_ok hhh hhi) h0 h1 h2 hcap
              refine ⟨.slice (if cap = l.toNat then ad else ad.map (·.add (l.toNat * tie.ty.size))) (hh.toNat - l.toNat) (cap - l.toNat), ?_, ?_⟩
              · rw [sliceAt_slice ht hs]
                simp [Instr.slice, underlying, isSl_under ht hs, hb, size_run hto]
              · exact avr_mk rfl (cs := [_]) ⟨hlend, part_rd (by omega) (by omega) hcap hr hm⟩ (by simp [asVal, AV.isAgg, Ty.isAgg])
            · cases h
          · cases h
        · cases h
      · cases h
    · split at h
      · rename_i l hh hl hhh
        split at h
        · rename_i hc
          obtain ⟨hs, rfl, rfl⟩ := hc
          obtain ⟨u', hu'⟩ := Option.isSome_iff_exists.1 hs
          obtain ⟨hs, tie, rfl, hto⟩ := hte _ hu'
          obtain ⟨ad, rfl⟩ := avr_zs hx
          obtain rfl : vmx = none := by cases vmx with | none => rfl | some _ => exact hmx.elim
          have hb := bounds_run (P := P) (w := w) (isS := true) (len := 0) (cap := 0) (bnd_ok hl hlo) (bnd_ok hhh hhi) (Int.le_refl _) (Int.le_refl _) (Int.le_refl _) (Nat.le_refl _)
          refine ⟨_, h, .slice ad 0 0, ?_, mk_zs _⟩
          rw [sliceAt_slice ht hs]
          simp [Instr.slice, underlying, isSl_under ht hs, hb, size_run hto]
        · cases h
      · cases h
    · cases h
theorem int_under {t : Nat} {ti : TI} {k : IntKind} (h : TOk P t ti) (hs : ti.ty = .int k) : P.underlying t = some (.int k) := by
  obtain ⟨d, hd, hk⟩ := h.under
  rw [hd]
  cases d <;> simp [kindOk, hs, Ty.isAgg] at hk
  rw [hk]
theorem bytes_cells {A : Nat → Prop} : ∀ {xs : List Int} {ds : List Value}, ListR (RdR w A (.int .u8)) xs ds → ds = xs.map (Value.int .u8)
  | [], _, h => h
  | x :: xs, _, ⟨c, d, e, h1, h2⟩ => by
    have h1' : c = [.int .u8 x] := h1
    rw [e, h1', bytes_cells h2]; rfl
theorem convA_ok (H : Heap w g bs) {s t : Nat} {ts ti : TI} (hs : TOk P s ts) (ht : TOk P t ti) {te : Option Ty} (hte : ∀ u, te = some u → ts.isSl = true ∧ ∃ tie, tie.ty = u ∧ TOk P ts.elem tie) {x : AV} {u : Value}
    {K : AV → Option R} {r : R} (h : convA bs te ti.ty x K = some r) (hx : AVR w g bs.length x u) :
    ∃ z, K z = some r ∧ Gives P w g bs.length (convert s t u) z := by
  obtain ⟨ds, hds, _⟩ := hs.under
  unfold convA at h
  split at h
  · rename_i k hk
    split at h
    · obtain rfl := avr_int hx
      refine ⟨_, h, gives_int ?_⟩
      simp [convert, underlying, hds, int_under ht hk, Conv.intToInt]
    · cases h
  · rename_i hk
    have hut := str_under ht hk
    split at h
    · obtain rfl := avr_str hx
      refine ⟨_, h, gives_str ?_⟩
      simp [convert, underlying, hds, hut]
    · split at h
      · rename_i he
        obtain ⟨hsl, tie, hty, hto⟩ := hte _ he
        split at h
        · rename_i xs hxs
          have hu := int_under hto hty
          have hsu := isSl_under hs hsl
          have hnt : x.isTup = false := by cases x <;> first | rfl | simp [rd] at hxs
          have hun : x.isUn = false := by cases x <;> first | rfl | simp [rd] at hxs
          have hag : x.isAgg = false := by
            cases x with
            | dat ks t' y =>
              simp only [rd] at hxs
              obtain ⟨e, _⟩ := castV_some hxs
              subst e; rfl
            | pr a b => simp [rd] at hxs
            | _ => rfl
          obtain ⟨cs, hcx, hv⟩ := avr_get hnt hun hx
          obtain ⟨⟨ad, cap, dd, e1, hcap, hr, hm⟩, _⟩ := rd_spec H _ _ _ _ hxs hcx
          subst e1
          obtain rfl : u = .slice ad xs.length cap := by
            rw [hag] at hv
            have hv' : [_] = [u] := hv
            simpa using hv'.symm
          refine ⟨_, h, gives_str ?_⟩
          have hdd := bytes_cells hr
          have hrun : ∀ b off, ad = some ⟨b, off, none⟩ → (∀ i, i < xs.length → w.cell? ⟨b, off + i, none⟩ = some (.int .u8 (xs.getD i 0))) → (convert s t (.slice ad xs.length cap)).run P w = .ok (.string (bytesOf xs)) w := by
            intro b off e hc
            subst e
            exact run_convert_bytes_arg w s ts.elem hsu hu b off xs.length cap xs rfl hc t hut
          rcases hm with hx0 | ⟨b, off, rfl, _, hc⟩
          · subst hx0
            cases ad with
            | none => exact run_convert_bytes_nil w s ts.elem hsu hu 0 cap t hut
            | some a0 => simp [convert, underlying, hsu, hut, hu, Conv.bytesToString, loadCells, loadCellsFrom, bytesOf, ByteArray.empty, ByteArray.emptyWithCapacity]; rfl
          · refine hrun b off rfl fun i hi => hc i _ ?_
            rw [hdd]
            simp [List.getD, hi]
        · cases h
      · cases h
  · cases h
end
end Go.Va
namespace Go.Va
section
variable {R : Type}
theorem binA_nat (op : BinOp) (tb : Bool) (x y : AV) (K : AV → Option R) : binA op tb x y K = (binA op tb x y some).bind K := by
  unfold binA
  repeat' split
  all_goals rfl
theorem unA_nat (op : UnOp) (x : AV) (K : AV → Option R) : unA op x K = (unA op x some).bind K := by
  unfold unA
  repeat' split
  all_goals rfl
theorem lenA_nat (bs : List Blk) (ti : TI) (x : AV) (K : AV → Option R) : lenA bs ti x K = (lenA bs ti x some).bind K := by
  unfold lenA
  repeat' split
  all_goals rfl
theorem mmA_nat (mx : Bool) (x y : AV) (K : AV → Option R) : mmA mx x y K = (mmA mx x y some).bind K := by
  unfold mmA
  repeat' split
  all_goals rfl
theorem idxA_nat (bs : List Blk) (te : Ty) (x y : AV) (K : AV → Option R) : idxA bs te x y K = (idxA bs te x y some).bind K := by
  unfold idxA
  repeat' split
  all_goals rfl
theorem chrA_nat (x y : AV) (K : AV → Option R) : chrA x y K = (chrA x y some).bind K := by
  unfold chrA
  repeat' split
  all_goals rfl
theorem fldA_nat (ti : TI) (f : Nat) (x : AV) (K : AV → Option R) : fldA ti f x K = (fldA ti f x some).bind K := by
  unfold fldA
  repeat' split
  all_goals rfl
theorem loadA_nat (bs : List Blk) (ti : TI) (x : AV) (K : AV → Option R) : loadA bs ti x K = (loadA bs ti x some).bind K := by
  unfold loadA
  repeat' split
  all_goals rfl
theorem sliceA_nat (bs : List Blk) (ti : TI) (te : Option Ty) (x : AV) (lo hi mx : Option AV) (K : AV → Option R) : sliceA bs ti te x lo hi mx K = (sliceA bs ti te x lo hi mx some).bind K := by
  unfold sliceA
  repeat' split
  all_goals rfl
theorem convA_nat (bs : List Blk) (te : Option Ty) (td : Ty) (a : AV) (K : AV → Option R) : convA bs te td a K = (convA bs te td a some).bind K := by
  unfold convA
  repeat' split
  all_goals rfl
theorem storeA_nat (bs : List Blk) (ti : TI) (x v : AV) (K : Eff → Option R) : storeA bs ti x v K = (storeA bs ti x v some).bind K := by
  unfold storeA
  repeat' split
  all_goals rfl
theorem appendA_nat (fi : FI) (bs : List Blk) (e : Nat) (ti : TI) (x y : AV) (K : Eff → Option R) : appendA fi bs e ti x y K = (appendA fi bs e ti x y some).bind K := by
  unfold appendA
  repeat' split
  all_goals rfl
theorem makeA_nat (fi : FI) (bs : List Blk) (e : Nat) (ti : TI) (x y : AV) (K : Eff → Option R) : makeA fi bs e ti x y K = (makeA fi bs e ti x y some).bind K := by
  unfold makeA
  repeat' split
  all_goals rfl
theorem cutA_nat (te : Ty) (bs : List Blk) (x : AV) (hi : Option AV) (K : Eff → Option R) : cutA te bs x hi K = (cutA te bs x hi some).bind K := by
  unfold cutA
  repeat' split
  all_goals rfl
def CNat (c : Callee) : Prop := ∀ (R : Type) args E (K : AV → List Blk → Option R), c.run R args E K = (c.run (AV × List Blk) args E fun v b => some (v, b)).bind fun p => K p.1 p.2
theorem callA_nat (c : Callee) (hc : CNat c) (bs : List Blk) (args : List AV) (K : Eff → Option R) : callA c bs args K = (callA c bs args some).bind K := by
  unfold callA
  split
  · rfl
  · dsimp only
    split
    · rw [hc R, hc Eff]
      cases c.run (AV × List Blk) _ _ fun v b => some (v, b) with
      | none => rfl
      | some p => simp only [Option.bind_some]; split <;> rfl
    · rfl
theorem callN_nat (c : Callee) (hc : CNat c) (bs : List Blk) (args : List AV) (K : Eff → Option R) : callN c bs args K = (callN c bs args some).bind K := by
  have via : ∀ (bs : List Blk) (args : List AV) (F : Eff → Option R) (F' : Eff → Option Eff), (∀ e, F e = (F' e).bind K) → callA c bs args F = (callA c bs args F').bind K := fun bs args F F' h => by
    rw [callA_nat c hc bs args F, callA_nat c hc bs args F']
    cases callA c bs args some with
    | none => rfl
    | some e => exact h e
  unfold callN
  split
  · exact callA_nat c hc bs args K
  · split
    · split
      · split
        · split
          · refine via _ _ _ _ fun e => ?_
            split
            · rfl
            · split
              · split
                · split <;> rfl
                · rfl
              · rfl
          · rfl
        · rfl
      · rfl
    · rfl
theorem viaN (f : (R : Type) → (AV → Option R) → Option R) (hf : ∀ (R : Type) (K : AV → Option R), f R K = (f AV some).bind K) (g : AV → Eff) (K : Eff → Option R) :
    f R (fun v => K (g v)) = (f Eff fun v => some (g v)).bind K := by
  rw [hf R, hf Eff]
  cases f AV some <;> rfl
def ENat (en : Env) : Prop := ∀ g c, en.fns g = some c → CNat c
theorem execCall_nat (en : Env) (he : ENat en) (σ : St) (c : Call) (K : Eff → Option R) : execCall en σ c K = (execCall en σ c some).bind K := by
  unfold execCall
  split
  · split
    · split
      · exact viaN (fun R K => lenA _ _ _ K) (fun R K => lenA_nat ..) (fun v => ⟨v, _, _⟩) K
      · rfl
    · rfl
  · split
    · exact viaN (fun R K => mmA _ _ _ K) (fun R K => mmA_nat ..) (fun v => ⟨v, _, _⟩) K
    · rfl
  · split
    · exact viaN (fun R K => mmA _ _ _ K) (fun R K => mmA_nat ..) (fun v => ⟨v, _, _⟩) K
    · rfl
  · split
    · split
      · split
        · split
          · exact appendA_nat ..
          · rfl
        · rfl
      · rfl
    · rfl
  · rfl
  · split
    · split
      · rename_i hg
        exact callN_nat _ (he _ _ hg) ..
      · rfl
    · rfl
  · rfl
theorem execP_nat (en : Env) (he : ENat en) (σ : St) (o : Oper) (K : Eff → Option R) : execP en σ o K = (execP en σ o some).bind K := by
  unfold execP
  dsimp only
  split
  · rfl
  · rfl
  · split
    · rename_i t _; cases t <;> rfl
    · rfl
  · split <;> rfl
  · split <;> rfl
  · split
    · split
      · rfl
      · split <;> rfl
    · rfl
  · split
    · split
      · split
        · split
          · split <;> rfl
          · rfl
        · rfl
      · rfl
    · rfl
  · split
    · exact viaN (fun R K => loadA _ _ _ K) (fun R K => loadA_nat ..) (fun v => ⟨v, _, _⟩) K
    · rfl
  · split
    · exact storeA_nat ..
    · rfl
  · split <;> rfl
  · exact viaN (fun R K => binA _ _ _ _ K) (fun R K => binA_nat ..) (fun v => ⟨v, _, _⟩) K
  · exact viaN (fun R K => unA _ _ K) (fun R K => unA_nat ..) (fun v => ⟨v, _, _⟩) K
  · split
    · exact viaN (fun R K => convA _ _ _ _ K) (fun R K => convA_nat ..) (fun v => ⟨v, _, _⟩) K
    · rfl
  · split
    · split <;> rfl
    · rfl
  · split
    · split
      · split
        · exact makeA_nat ..
        · rfl
      · rfl
    · rfl
  · split
    · split
      · split
        · split
          · split
            · exact cutA_nat ..
            · rfl
          · rfl
        · rfl
      · exact viaN (fun R K => sliceA _ _ _ _ _ _ _ K) (fun R K => sliceA_nat ..) (fun v => ⟨v, _, _⟩) K
    · rfl
  · split
    · exact viaN (fun R K => fldA _ _ _ K) (fun R K => fldA_nat ..) (fun v => ⟨v, _, _⟩) K
    · rfl
  · split
    · split
      · split
        · exact viaN (fun R K => idxA _ _ _ _ K) (fun R K => idxA_nat ..) (fun v => ⟨v, _, _⟩) K
        · rfl
      · rfl
    · rfl
  · split
    · split
      · exact viaN (fun R K => chrA _ _ K) (fun R K => chrA_nat ..) (fun v => ⟨v, _, _⟩) K
      · rfl
    · rfl
  · split
    · split <;> rfl
    · rfl
  · exact execCall_nat en he ..
  · rfl
theorem exec_nat (en : Env) (he : ENat en) (σ : St) (o : Oper) (K : Eff → Option R) : exec en σ o K = (exec en σ o some).bind K := by
  unfold exec
  split
  · rfl
  split
  · cases dstSh en o with
    | false => exact execP_nat en he σ o K
    | true =>
      simp only [cond_true]
      refine (execP_nat en he σ o _).trans (Eq.symm ?_)
      refine (congrArg (fun x => Option.bind x K) (execP_nat en he σ o _)).trans ?_
      rw [Option.bind_assoc]
      congr 1
      funext e
      cases shalE σ.blks.length e <;> rfl
  · rename_i t _
    refine (execP_nat en he σ o _).trans (Eq.symm ?_)
    refine (congrArg (fun x => Option.bind x K) (execP_nat en he σ o _)).trans ?_
    rw [Option.bind_assoc]
    congr 1
    funext e
    cases frzE σ.blks.length t e <;> rfl
end
end Go.Va
namespace Go.Va
structure StR (w : World) (g : G) (σ : St) (a : Act) : Prop where
  heap : Heap w g σ.blks
  len : σ.slots.length = a.tmps.size
  slots : ∀ (i : Nat) (x : AV), σ.slots[i]? = some x → AVR w g σ.blks.length x (a.tmps.getD i undef)
structure Snd (P : Program) (σ : St) (o : Oper) (e : Eff) : Prop where
  grow : σ.blks.length ≤ e.blks.length
  ext : e.mods = [] → ∃ l, e.blks = σ.blks ++ l
  wp : ∀ (a : Act) (w : World) (g : G), StR w g σ a → ∀ (next : Act → World → Prop) (Q : Exit → Act → World → Prop),
    (∀ v w' g', Heap w' g' e.blks → AVR w' g' e.blks.length e.val v → Step e.mods σ.blks.length w g w' g' → next (a.put o.dst v) w') → o.wp P a w next Q
def Qt (P : Program) (σ : St) (o : Oper) (z : AV) : Prop :=
  ∀ (a : Act) (w : World) (g : G), StR w g σ a → ∃ c, (execOp a.eval o).run P w = .ok (.value c) w ∧ AVR w g σ.blks.length z c
theorem dropS_get {mods : List Nat} {sl : List AV} {i : Nat} {x : AV} (h : (dropS mods sl)[i]? = some x) : ∃ y, sl[i]? = some y ∧ x = y.drop fun k => mods.contains k := by
  unfold dropS at h
  split at h
  · exact ⟨x, h, by rw [show (fun k => ([] : List Nat).contains k) = fun _ => false from funext fun _ => rfl, drop_nil]⟩
  · rw [List.getElem?_map] at h
    cases hs : sl[i]? with
    | none => rw [hs] at h; cases h
    | some y => rw [hs] at h; injection h with h; exact ⟨y, rfl, h.symm⟩
theorem dropS_len (mods : List Nat) (sl : List AV) : (dropS mods sl).length = sl.length := by unfold dropS; split <;> simp
theorem putS_len (d : Option Nat) (v : AV) (sl : List AV) : (putS d v sl).length = sl.length := by unfold putS; split <;> simp
theorem put_size (a : Act) (d : Option Tmp) (v : Value) : (a.put d v).tmps.size = a.tmps.size := by cases d <;> simp [Act.put]
theorem slots_put {w : World} {g : G} {n : Nat} {sl : List AV} {a : Act} (hlen : sl.length = a.tmps.size) (h : ∀ (i : Nat) (x : AV), sl[i]? = some x → AVR w g n x (a.tmps.getD i undef)) {d : Option Nat} {x : AV} {v : Value} (hv : AVR w g n x v) :
    ∀ (i : Nat) (y : AV), (putS d x sl)[i]? = some y → AVR w g n y ((a.put d v).tmps.getD i undef) := by
  intro i y hy
  cases d with
  | none => exact h i y hy
  | some d =>
    simp only [putS] at hy
    rw [List.getElem?_set] at hy
    simp only [Act.put]
    split at hy
    · rename_i he; subst he
      split at hy
      · rename_i hd
        injection hy with hy; subst hy
        rw [hlen] at hd
        simpa [hd] using hv
      · cases hy
    · rename_i hne
      have := h i y hy
      simpa [Array.getElem?_setIfInBounds_ne hne] using this
theorem StR.after {w w' : World} {g g' : G} {σ : St} {a : Act} {e : Eff} {d : Option Nat} {v : Value} (h : StR w g σ a) (hg : σ.blks.length ≤ e.blks.length) (hh : Heap w' g' e.blks) (hv : AVR w' g' e.blks.length e.val v)
    (hs : Step e.mods σ.blks.length w g w' g') : StR w' g' (σ.after d e) (a.put d v) where
  heap := hh
  len := by simp only [St.after, putS_len, dropS_len, put_size]; exact h.len
  slots := slots_put (by rw [dropS_len]; exact h.len) (fun i x hx => by
    obtain ⟨y, hy, rfl⟩ := dropS_get hx
    exact (h.slots i y hy).step hs hg) hv
section
variable {P : Program} {σ : St} {o : Oper} {en : Env}
theorem Snd.of_qt {z : AV} (h : Qt P σ o z) : Snd P σ o ⟨z, σ.blks, []⟩ where
  grow := Nat.le_refl _
  ext _ := ⟨[], (List.append_nil _).symm⟩
  wp a w g hs next Q hn := by
    obtain ⟨c, hc, hz⟩ := h a w g hs
    unfold Oper.wp
    rw [hc]
    exact hn c w g hs.heap hz (Step.refl _ _ _ _)
theorem viaN' {f : (R : Type) → (AV → Option R) → Option R} (hf : ∀ (R : Type) (K : AV → Option R), f R K = (f AV some).bind K) {g : AV → Eff} {e : Eff} (h : f Eff (fun v => some (g v)) = some e) :
    ∃ z, f AV some = some z ∧ e = g z := by
  rw [hf Eff] at h
  cases hz : f AV some with
  | none => rw [hz] at h; cases h
  | some z => rw [hz] at h; injection h with h; exact ⟨z, rfl, h.symm⟩
theorem const_ok {w : World} {g : G} {n : Nat} (v : Value) : AVR w g n (constAV v) v := by
  unfold constAV
  split
  · exact mk_int _ _
  · exact mk_bool _
  · exact mk_str _
  · exact mk_zs _
  · exact avr_mk rfl (cs := [_]) rfl (by simp [asVal, AV.isAgg])
  · exact un_any
theorem opd_ok {w : World} {g : G} {a : Act} (h : StR w g σ a) (x : Operand) : AVR w g σ.blks.length (σ.opd x) (a.eval x) := by
  cases x with
  | tmp t =>
    simp only [St.opd, Act.eval]
    cases hx : σ.slots[t]? with
    | none => exact un_any
    | some y => exact h.slots t y hx
  | const v => exact const_ok v
  | func f => exact avr_mk (a := .fn f .nil) rfl (cs := [_]) ⟨[], rfl, rfl⟩ (by simp [asVal, AV.isAgg, Act.eval])
  | global g => exact un_any
theorem optOpd_ok {w : World} {g : G} {a : Act} (h : StR w g σ a) (x : Option Operand) : OptR w g σ.blks.length (x.map σ.opd) (x.map a.eval) := by
  cases x with
  | none => trivial
  | some x => exact opd_ok h x
theorem qt_of {z : AV} {s : (Operand → Value) → Sem Value} (he : ∀ ρ, execOp ρ o = (do pure (.value (← s ρ)))) (h : ∀ (a : Act) (w : World) (g : G), StR w g σ a → Gives P w g σ.blks.length (s a.eval) z) : Qt P σ o z := by
  intro a w g hs
  obtain ⟨c, hc, hz⟩ := h a w g hs
  exact ⟨c, by rw [he]; simp [hc], hz⟩
theorem pure_run {α : Type} {P : Program} (x : α) (w : World) : (pure x : Sem α).run P w = .ok x w := rfl
theorem agg_val {v : Value} {cs : List Value} {b : Bool} (h : asVal b cs v) (h1 : ∀ c ∈ cs, c.oneCell' = true) : v.cells = cs.toArray := by
  cases b with
  | true => simp only [asVal, cond_true] at h; subst h; rfl
  | false =>
    simp only [asVal, cond_false] at h; subst h
    have := h1 v (by simp)
    cases v <;> first | rfl | cases this
theorem setFld_agg : ∀ {a : AV} {f : Nat} {v a' : AV}, a.setFld f v = some a' → a'.isAgg = true := by
  intro a f v a' h
  cases a with
  | dat ks t x =>
    simp only [AV.setFld] at h
    cases t with
    | pair b c =>
      cases f with
      | zero => simp only [setD, Option.some.injEq] at h; subst h; rfl
      | succ f =>
        simp only [setD] at h
        split at h
        · injection h with h; subst h; rfl
        · cases h
    | _ => cases f <;> simp [setD] at h
  | pr b c =>
    cases f with
    | zero => simp only [AV.setFld, Option.some.injEq] at h; subst h; rfl
    | succ f =>
      simp only [AV.setFld] at h
      split at h
      · injection h with h; subst h; rfl
      · cases h
  | _ => cases f <;> simp [AV.setFld] at h
theorem set_mid {c0 c1 c2 vs : List Value} (h : vs.length = c1.length) : (vs.toArray.zipIdx.foldl (fun cs (x : Value × Nat) => cs.setIfInBounds (c0.length + x.2) x.1) (c0 ++ c1 ++ c2).toArray) = (c0 ++ vs ++ c2).toArray := by
  have e : vs.toArray.zipIdx.foldl (fun cs (x : Value × Nat) => cs.setIfInBounds (c0.length + x.2) x.1) (c0 ++ c1 ++ c2).toArray = (vs.zipIdx 0).foldl (fun cs (x : Value × Nat) => cs.setIfInBounds (c0.length + x.2) x.1) (c0 ++ c1 ++ c2).toArray := by
    rw [← Array.foldl_toList, Array.toList_zipIdx]
  rw [e]
  obtain ⟨h1, h2⟩ := Great.foldl_set c0.length vs 0 (c0 ++ c1 ++ c2).toArray
  apply Array.ext_getElem?
  intro k
  rw [h2 k]
  simp only [Nat.add_zero, List.size_toArray, List.length_append, List.getElem?_toArray]
  by_cases hk : c0.length ≤ k ∧ k < c0.length + vs.length ∧ k < c0.length + c1.length + c2.length
  · rw [if_pos hk, List.append_assoc, List.getElem?_append_right hk.1, List.getElem?_append_left (by omega)]
  · rw [if_neg hk]
    rcases Nat.lt_or_ge k c0.length with h' | h'
    · rw [List.append_assoc, List.append_assoc, List.getElem?_append_left h', List.getElem?_append_left h']
    · have : c0.length + vs.length ≤ k := by omega
      rw [List.getElem?_append_right (by simp; omega), List.getElem?_append_right (by simp; omega)]
      simp [h]
theorem places_ok {ty : Ty} : ∀ {fs : List Field} {os : List Nat} {i : Nat}, fldsOk P ty i fs os = true →
    ∃ pl, fs.mapM (fun f => (P.info? f.type).map fun i => (f.offset, i.size)) = some pl ∧ ∀ j o, os[j]? = some o → ∃ u, tyF ty (i + j) = some u ∧ pl[j]? = some (o, u.size)
  | [], [], _, _ => ⟨[], rfl, fun j o h => by simp at h⟩
  | f :: fs, o :: os, i, h => by
    simp only [fldsOk, Bool.and_eq_true, beq_iff_eq] at h
    obtain ⟨⟨⟨h1, _⟩, h3⟩, h4⟩ := h
    obtain ⟨pl, hp, hq⟩ := places_ok h4
    split at h3
    · rename_i u hu
      simp only [Bool.and_eq_true, beq_iff_eq] at h3
      cases hi : P.info? f.type with
      | none => simp [hi] at h3
      | some inf =>
        simp [hi] at h3
        refine ⟨(f.offset, inf.size) :: pl, by simp [List.mapM_cons, hi, hp], fun j o' ho => ?_⟩
        cases j with
        | zero => simp at ho; subst ho; exact ⟨u, by simpa using hu, by simp [h1, h3.1]⟩
        | succ j =>
          obtain ⟨u', h5, h6⟩ := hq j o' (by simpa using ho)
          exact ⟨u', by rw [show i + (j + 1) = i + 1 + j by omega]; exact h5, by simpa using h6⟩
    · cases h3
  | [], _ :: _, _, h => by simp [fldsOk] at h
  | _ :: _, [], _, h => by simp [fldsOk] at h
theorem top_un {v : AV} (h : v.top = true) : v.isUn = false ∧ v.isTup = false := by cases v <;> simp_all [AV.top, AV.isUn, AV.isTup]
theorem build_ok {w : World} {g : G} {n : Nat} {ti : TI} {pl : List (Nat × Nat)} (hpl : ∀ j o, ti.offs[j]? = some o → ∃ u, tyF ti.ty j = some u ∧ pl[j]? = some (o, u.size)) {ρ : Operand → AV} {ε : Operand → Value} (hρ : ∀ x, AVR w g n (ρ x) (ε x)) :
    ∀ {ps : List (Nat × Operand)} {a z : AV} {cs : List Value}, buildA ti a (ps.map fun p => (p.1, ρ p.2)) = some z → AVX w g n false a cs → a.isAgg = true →
      ∃ cs', Instr.fill (pl.toArray[·]?) cs.toArray (ps.map fun p => (p.1, ε p.2)) = some cs'.toArray ∧ AVX w g n false z cs' ∧ z.isAgg = true
  | [], a, z, cs, h, hx, hg => by
    simp only [List.map_nil, buildA, Option.some.injEq] at h; subst h
    exact ⟨cs, rfl, hx, hg⟩
  | (f, x) :: ps, a, z, cs, h, hx, hg => by
    simp only [List.map_cons, buildA] at h
    split at h
    · rename_i old hold
      split at h
      · rename_i hc
        obtain ⟨hsz, htop, hoff, hty⟩ := hc
        split at h
        · rename_i a' ha'
          obtain ⟨c0, c1, c2, e, ho, hx1, hs⟩ := fld_spec a f cs old hx hold
          obtain ⟨hun, htup⟩ := top_un htop
          obtain ⟨cv, hcv, hv⟩ := avr_get htup hun (hρ x)
          have hvc := agg_val hv hcv.one
          obtain ⟨u, hu, hp⟩ := hpl f c0.length (by rw [← hoff]; exact ho)
          rw [hu] at hty
          simp only [Option.map_some, Option.some.injEq] at hty
          have hl1 : cv.length = c1.length := by rw [hcv.len, hx1.len, hsz]
          obtain ⟨cs', hf, hz, hza⟩ := build_ok hpl hρ h (hs _ _ _ ha' hcv) (setFld_agg ha')
          refine ⟨cs', ?_, hz, hza⟩
          simp only [List.map_cons]
          unfold Instr.fill
          have hp' : pl.toArray[f]? = some (c0.length, u.size) := by simpa using hp
          simp only [hp']
          have hcs : (ε x).cells.size = u.size := by rw [hvc]; simp only [List.size_toArray]; rw [hcv.len]; omega
          have hfit : ¬ c0.length + (ε x).cells.size > cs.toArray.size := by
            rw [hvc, e]; simp; omega
          simp only [hcs, ne_eq, not_true_eq_false, decide_false, Bool.false_or]
          rw [hcs] at hfit
          simp only [hfit, decide_false, Bool.false_eq_true, if_false]
          rw [← hf]
          congr 1
          rw [hvc, e]
          exact set_mid hl1
        · cases h
      · cases h
    · cases h
end
end Go.Va
