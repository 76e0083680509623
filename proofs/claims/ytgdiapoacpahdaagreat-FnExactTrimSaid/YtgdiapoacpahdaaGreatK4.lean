import Derived.Test.YtgdiapoacpahdaaGreatK3
set_option linter.unusedVariables false
set_option linter.unusedSimpArgs false
namespace Go.Va
theorem Ud {r q L : List Nat} {a b : Nat} (h : (r ++ a :: L) <:+ (q ++ b :: L)) : a = b := by
  obtain ⟨s, hs⟩ := h
  have : (s ++ r) ++ (a :: L) = q ++ (b :: L) := by simpa using hs
  have := List.append_inj_right' this rfl
  injection this
theorem N7 : ∀ (f : Nat) (L : List Nat), ∃ r, labF f L = r ++ L
  | 0, L => ⟨[0], rfl⟩
  | f + 1, L => by
    obtain ⟨r, h⟩ := N7 f (1 :: L)
    exact ⟨r ++ [1], by rw [labF, h]; simp⟩
theorem L6 : ∀ (p L : List Nat), ∃ r, labP p L = r ++ L
  | [], L => ⟨[], rfl⟩
  | f :: p, L => by
    obtain ⟨r, hr⟩ := L6 p (labF f L)
    obtain ⟨s, hs⟩ := N7 f L
    exact ⟨r ++ s, by rw [labP, hr, hs, List.append_assoc]⟩
def Fr (w : World) (own : Nat → Tag) (w' : World) (own' : Nat → Tag) (k : Nat) (P : List Nat) : Prop := ∀ b q, own b = .lab k q → ¬ P <:+ q → own' b = .lab k q ∧ w'.heap[b]? = w.heap[b]?
def Hole (w : World) (own : Nat → Tag) (k : Nat) (u : Ty) (zs : List u.V) (P : List Nat) (t : Ty) (L : List Nat) (x' : t.V) (ys : List u.V) (cs : List Value) (o : Nat) : Prop :=
  ∃ c0 c1 c2, cs = c0 ++ c1 ++ c2 ∧ c0.length = o ∧ OwR w own k (.sl u) P ys c1 ∧ ∀ w' own', Fr w own w' own' k P → OwR w' own' k (.sl u) P zs c1 → OwR w' own' k t L x' cs
section
variable {w : World} {own : Nat → Tag} {k : Nat} {u : Ty} {zs : List u.V}
theorem sib {w' : World} {own' : Nat → Tag} {P : List Nat} {t : Ty} {L : List Nat} {x : t.V} {cs : List Value} (hfr : Fr w own w' own' k P) (hP : ∀ q, ¬ P <:+ (q ++ L)) (h : OwR w own k t L x cs) : OwR w' own' k t L x cs :=
  h.mono fun b q hb => hfr b _ hb (hP q)
theorem QV (p : List Nat) (ih : ∀ (t : Ty) (L : List Nat) (x x' : t.V) (cs : List Value) (o : Nat) (ys : List u.V), setV (.sl u) zs p t x = some x' → getT (.sl u) p t x = some ys → offTP t p = some o → OwR w own k t L x cs → Hole w own k u zs (labP p L) t L x' ys cs o) :
    ∀ (f : Nat) (t : Ty) (L : List Nat) (x x' : t.V) (cs : List Value) (t1 : Ty) (o1 o2 : Nat) (ys : List u.V), setF t x f (fun t' y => setV (.sl u) zs p t' y) = some x' → getF t x f (fun t' y => getT (.sl u) p t' y) = some ys →
      tyF t f = some t1 → offD t f = some o1 → offTP t1 p = some o2 → OwR w own k t L x cs → Hole w own k u zs (labP p (labF f L)) t L x' ys cs (o1 + o2)
  | 0, .pair a b, L, x, x', cs, t1, o1, o2, ys, hs, hg, ht, ho, ho2, h => by
    obtain ⟨c, d, e, h1, h2⟩ := h
    simp only [tyF, Option.some.injEq] at ht; subst ht
    simp only [offD, Option.some.injEq] at ho; subst ho
    simp only [setF] at hs
    split at hs
    · rename_i y hy
      injection hs with hs; subst hs
      obtain ⟨c0, c1, c2, e2, hl, hr, hk⟩ := ih a (0 :: L) x.1 y c o2 ys hy hg ho2 h1
      refine ⟨c0, c1, c2 ++ d, by rw [e, e2]; simp only [List.append_assoc], by omega, hr, fun w' own' hfr hz => ⟨c, d, e, hk w' own' hfr hz, sib hfr (fun q hq => ?_) h2⟩⟩
      obtain ⟨r, hr⟩ := L6 p (labF 0 L)
      rw [hr] at hq
      have := Ud (r := r) (q := q) (L := L) (a := 0) (b := 1) hq
      cases this
    · cases hs
  | f + 1, .pair a b, L, x, x', cs, t1, o1, o2, ys, hs, hg, ht, ho, ho2, h => by
    obtain ⟨c, d, e, h1, h2⟩ := h
    simp only [tyF] at ht
    simp only [offD] at ho
    split at ho
    · rename_i o3 ho3
      injection ho with ho; subst ho
      simp only [setF] at hs
      split at hs
      · rename_i y hy
        injection hs with hs; subst hs
        obtain ⟨c0, c1, c2, e2, hl, hr, hk⟩ := QV p ih f b (1 :: L) x.2 y d t1 o3 o2 ys hy hg ht ho3 ho2 h2
        refine ⟨c ++ c0, c1, c2, by rw [e, e2]; simp only [List.append_assoc], by rw [List.length_append, h1.len]; omega, hr, fun w' own' hfr hz => ⟨c, d, e, sib hfr (fun q hq => ?_) h1, hk w' own' hfr hz⟩⟩
        obtain ⟨r, hr⟩ := L6 p (labF (f + 1) L)
        obtain ⟨s, hs⟩ := N7 f (1 :: L)
        rw [hr, labF, hs, ← List.append_assoc] at hq
        have := Ud (r := r ++ s) (q := q) (L := L) (a := 1) (b := 0) hq
        cases this
      · cases hs
    · cases ho
  | f, .int _, _, _, _, _, _, _, _, _, hs, _, _, _, _, _ => by simp [setF] at hs
  | f, .bool, _, _, _, _, _, _, _, _, hs, _, _, _, _, _ => by simp [setF] at hs
  | f, .str, _, _, _, _, _, _, _, _, hs, _, _, _, _, _ => by simp [setF] at hs
  | f, .unit, _, _, _, _, _, _, _, _, hs, _, _, _, _, _ => by simp [setF] at hs
  | f, .sl _, _, _, _, _, _, _, _, _, hs, _, _, _, _, _ => by simp [setF] at hs
  | f, .opq _, _, _, _, _, _, _, _, _, hs, _, _, _, _, _ => by simp [setF] at hs
theorem Rh : ∀ (p : List Nat) (t : Ty) (L : List Nat) (x x' : t.V) (cs : List Value) (o : Nat) (ys : List u.V), setV (.sl u) zs p t x = some x' → getT (.sl u) p t x = some ys → offTP t p = some o → OwR w own k t L x cs → Hole w own k u zs (labP p L) t L x' ys cs o
  | [], t, L, x, x', cs, o, ys, hs, hg, ho, h => by
    simp only [offTP, Option.some.injEq] at ho; subst ho
    obtain ⟨e, he⟩ := AW hs
    obtain ⟨e', he'⟩ := AW hg
    subst e
    simp only at he he'; subst he; subst he'
    exact ⟨[], cs, [], by simp, rfl, h, fun w' own' _ hz => hz⟩
  | f :: p, t, L, x, x', cs, o, ys, hs, hg, ho, h => by
    simp only [offTP] at ho
    split at ho
    · rename_i t1 o1 h1 h2
      split at ho
      · rename_i o2 h3
        injection ho with ho; subst ho
        exact QV p (Rh p) f t L x x' cs t1 o1 o2 ys hs hg h1 h2 h3 h
      · cases ho
    · cases ho
end
def G.det (g : G) (n k : Nat) (P : List Nat) (i : BI) : G := ⟨fun b => match g.own b with | .lab j q => if j = k ∧ P <:+ q then .lab n (q.take (q.length - P.length)) else .lab j q | t => t, fun j => if j = n then i else g.at_ j⟩
def G.att (g : G) (n k : Nat) (P : List Nat) : G := ⟨fun b => match g.own b with | .lab j q => if j = n then .lab k (q ++ P) else .lab j q | t => t, g.at_⟩
section
variable {w : World} {g : G} {bs : List Blk}
theorem SR {n k : Nat} {P : List Nat} {i : BI} {b : Nat} {q : List Nat} (h : g.own b = .lab k (q ++ P)) : (g.det n k P i).own b = .lab n q := by
  have : P <:+ (q ++ P) := ⟨q, rfl⟩
  simp [G.det, h, this]
theorem Ui {n k : Nat} {P : List Nat} {i : BI} {b j : Nat} {q : List Nat} (h : g.own b = .lab j q) (hn : ¬ (j = k ∧ P <:+ q)) : (g.det n k P i).own b = .lab j q := by
  simp only [G.det, h, if_neg hn]
theorem SJ {n k : Nat} {P : List Nat} {b : Nat} {q : List Nat} (h : g.own b = .lab n q) : (g.att n k P).own b = .lab k (q ++ P) := by simp [G.att, h]
theorem P2 {n k : Nat} {P : List Nat} {b j : Nat} {q : List Nat} (h : g.own b = .lab j q) (hn : j ≠ n) : (g.att n k P).own b = .lab j q := by simp only [G.att, h, if_neg hn]
theorem VK {k : Nat} {P : List Nat} {i : BI} : Step [k] bs.length w g w (g.det bs.length k P i) where
  os := rfl
  tape := rfl
  output := rfl
  size := Nat.le_refl _
  no b _ h := ⟨by simp [G.det, h], rfl⟩
  imm b h := ⟨by simp [G.det, h], rfl⟩
  lab b j q h hj hm := ⟨Ui h fun hc => hm (by simp [hc.1]), rfl⟩
  at_ j hj := by simp [G.det, Nat.ne_of_lt hj]
theorem WM {n k N : Nat} {P : List Nat} : Step [n, k] N w g w (g.att n k P) where
  os := rfl
  tape := rfl
  output := rfl
  size := Nat.le_refl _
  no b _ h := ⟨by simp [G.att, h], rfl⟩
  imm b h := ⟨by simp [G.att, h], rfl⟩
  lab b j q h hj hm := ⟨P2 h fun hc => hm (by simp [hc]), rfl⟩
  at_ j hj := rfl
theorem QH {A : Type} {l : List A} {k j : Nat} {x y : A} (h : (l.set k x)[j]? = some y) : (j = k ∧ y = x) ∨ (j ≠ k ∧ l[j]? = some y) := by
  rw [List.getElem?_set] at h
  split at h
  · rename_i e; subst e
    split at h
    · injection h with h; exact .inl ⟨rfl, h.symm⟩
    · cases h
  · rename_i e; exact .inr ⟨fun h => e h.symm, h⟩
theorem ListI.monoIx {A : Type} {I J : Nat → A → List Value → Prop} : ∀ {lo : Nat} {xs : List A} {cs : List Value}, (∀ j x c, lo ≤ j → j < lo + xs.length → I j x c → J j x c) → ListI I lo xs cs → ListI J lo xs cs
  | _, [], _, _, h => h
  | lo, _ :: xs, _, h, ⟨c, d, e, r, l⟩ => ⟨c, d, e, h _ _ _ (Nat.le_refl _) (by simp) r, ListI.monoIx (fun j x c h1 h2 => h j x c (by omega) (by simp only [List.length_cons]; omega)) l⟩
theorem Uu (H : Heap w g bs) {k ek : Nat} {t u : Ty} {xs : List t.V} (hb : bs[k]? = some (.row ek .deep t xs)) {i : Int} {p : List Nat} {o : Nat} (hi : i.toNat < (g.at_ k).len) {ys : List u.V}
    (hg : getT (.sl u) p t (xs.getD i.toNat t.zero) = some ys) (ho : offTP t p = some o) (hu : u.size ≠ 0) {b : Nat} (hba : (g.at_ k).a = some ⟨b, 0, none⟩) {v : Value} (hv : w.cell? ⟨b, i.toNat * (g.at_ k).esz + o, none⟩ = some v)
    {zs : List u.V} {x' : t.V} (hs : setV (.sl u) zs p t (xs.getD i.toNat t.zero) = some x') :
    ∃ g1, Heap w g1 ((dropB [k] bs).set k .dead ++ [.row 0 .deep u ys]) ∧ Step [k] bs.length w g w g1 ∧ AVR w g1 (bs.length + 1) (.ref bs.length) v ∧
      ∀ (w' : World) (g2 : G) (N : Nat) (e0 : Nat), (∀ b q, g1.own b = .lab k q → g2.own b = .lab k q ∧ w'.heap[b]? = w.heap[b]?) → (∀ j, j ≤ bs.length → g2.at_ j = g1.at_ j) →
        BlkR w' g2 N bs.length (.row e0 .deep u zs) → BlkR w' (g2.att bs.length k (labP p [i.toNat])) N k (.row ek .deep t (xs.set i.toNat x')) := by
  have hkl := AE hb
  obtain ⟨hmi, hlen, hes, hpos, hr⟩ := H.blk k _ hb
  have hlt : i.toNat < xs.length := by rw [← hlen]; exact hi
  rcases hr with ⟨hx0, _⟩ | ⟨b', cur, ds, ha, hown, ⟨el, hel, hh⟩, hc1, hc2, hc3, hc4, hcon⟩
  · rw [hx0] at hlt; simp at hlt
  rw [hba] at ha; injection ha with ha; injection ha with ha; subst ha
  have hcon : ListI (fun i => OwR w g.own k t [i]) 0 xs ds := hcon
  obtain ⟨c0, c, d, e1, hl0, hrc, hr0, hrd⟩ := ListI.at_ (fun i x c h => OwR.len h) hcon hlt
  rw [Nat.zero_add] at hrc hrd
  have hgd : xs.getD i.toNat t.zero = xs[i.toNat] := by simp [List.getD, hlt]
  let P := labP p [i.toNat]
  obtain ⟨r0, hP⟩ := L6 p [i.toNat]
  obtain ⟨a0, a1, a2, e2, hl2, hys, hput⟩ : Hole w g.own k u zs P t [i.toNat] x' ys c o := Rh p t [i.toNat] (xs.getD i.toNat t.zero) x' c o ys hs hg ho (by rw [hgd]; exact hrc)
  have hys' := hys
  obtain ⟨ad, cap, e3, hrow⟩ := hys'
  have hvh : v = .slice ad ys.length cap := by
    rw [Ky hh, ← Array.getElem?_toList, hes] at hv
    have hq : ds[i.toNat * t.size + o]? = some (.slice ad ys.length cap) := by
      rw [e1, e2, e3, List.append_assoc, List.getElem?_append_right (by omega), hl0]
      rw [show i.toNat * t.size + o - i.toNat * t.size = a0.length by omega]
      simp
    subst hc4
    rw [List.getElem?_take] at hq
    split at hq
    · rw [hv] at hq; injection hq
    · cases hq
  let i1 : BI := ⟨ad, ys.length, cap, u.size⟩
  let n := bs.length
  let g1 := g.det n k P i1
  have st : Step [k] n w g w g1 := VK
  have hat : g1.at_ n = i1 := by simp [g1, G.det]
  have hkn : k ≠ n := by simp only [n]; omega
  have hlenb : ((dropB [k] bs).set k Blk.dead ++ [Blk.row 0 .deep u ys]).length = n + 1 := by simp [AD, n]
  refine ⟨g1, ?_, st, ?_, ?_⟩
  · refine H.turn st (fun b hb => by simp [g1, G.det, H.fresh b hb]) (by rw [hlenb]; omega) fun j x hj => ?_
    rw [List.getElem?_append] at hj
    split at hj
    · rcases QH hj with ⟨rfl, rfl⟩ | ⟨hne, hj⟩
      · exact .inl rfl
      · obtain ⟨y, hy, rfl⟩ := FW hj
        exact .inr (.inl ⟨by simpa using hne, y, hy, rfl⟩)
    · rename_i hge
      simp only [List.length_set, AD] at hj hge
      have hj0 : j - bs.length = 0 := by
        rcases Nat.eq_zero_or_pos (j - bs.length) with h | h
        · exact h
        · rw [List.getElem?_eq_none (by simp; omega)] at hj; cases hj
      rw [hj0] at hj
      obtain rfl : j = n := by simp only [n]; omega
      simp only [List.getElem?_cons_zero, Option.some.injEq] at hj
      subst hj
      refine .inr (.inr ⟨fun j hj => (by cases hj), by rw [hat], by rw [hat], Nat.pos_of_ne_zero hu, ?_⟩)
      rw [hat]
      refine hrow.imp id fun ⟨b, el, cur, ds, q1, q2, q3, q4, q5, q6, q7, q8⟩ => ⟨b, cur, ds, q1, SR (q := []) (by simpa using q2), ⟨el, .inl rfl, q3⟩, q4, q5, q6, q7, ?_⟩
      exact q8.mono fun i x c r => r.mono fun b q hb => ⟨SR (by simpa using hb), rfl⟩
  · rw [hvh]
    exact B7 (cs := [_]) rfl ⟨Nat.lt_succ_self _, by rw [hat]⟩ rfl
  · intro w' g2 N e0 hkeep hat2 hB
    obtain ⟨_, hlen2, _, _, hr2⟩ := hB
    have hat3 : g2.at_ n = i1 := by rw [hat2 n (Nat.le_refl _), hat]
    rw [hat3] at hlen2 hr2
    have hzl : zs.length = ys.length := hlen2.symm
    have hz : OwR w' (g2.att n k P).own k (.sl u) P zs a1 := by
      refine ⟨ad, cap, by rw [e3, hzl], hr2.imp id fun ⟨b, cur, ds, q1, q2, ⟨el, _, q3⟩, q4, q5, q6, q7, q8⟩ => ⟨b, el, cur, ds, q1, by simpa using SJ (P := P) (k := k) q2, q3, q4, q5, q6, q7, ?_⟩⟩
      have q8 : ListI (fun i => OwR w' g2.own n u [i]) 0 zs ds := q8
      exact q8.mono fun i x c r => r.mono fun b q hb => ⟨by simpa using SJ (P := P) (k := k) hb, rfl⟩
    have hfr : Fr w g.own w' (g2.att n k P).own k P := fun b q hb hn => by
      have h1 := hkeep b q (Ui hb fun hc => hn hc.2)
      exact ⟨P2 h1.1 hkn, h1.2⟩
    have helem := hput w' _ hfr hz
    have hfar : ∀ j, j ≠ i.toNat → ∀ {x : t.V} {c : List Value}, OwR w g.own k t [j] x c → OwR w' (g2.att n k P).own k t [j] x c := fun j hj x c h => sib hfr (fun q hq => by
      rw [show P = r0 ++ i.toNat :: [] from hP] at hq
      exact hj (Ud (L := []) hq).symm) h
    have hjoin := ListI.join hlt (ListI.monoIx (fun j x c _ h2 h => hfar j (by rw [List.length_take] at h2; omega) h) hr0) (by rw [Nat.zero_add]; exact helem) (ListI.monoIx (fun j x c h1 _ h => hfar j (by omega) h) (by rw [Nat.zero_add]; exact hrd))
    have hroot := hfr b [] hown (by
      rw [show P = r0 ++ [i.toNat] from hP]
      rintro ⟨s, hs⟩
      simp at hs)
    have hatk : (g2.att n k P).at_ k = g.at_ k := by
      show g2.at_ k = _
      rw [hat2 k (by omega)]
      simp [g1, G.det, hkn]
    refine ⟨fun j hj => (by cases hj), by rw [hatk, List.length_set]; exact hlen, by rw [hatk]; exact hes, hpos, .inr ⟨b, cur, ds, by rw [hatk]; exact hba, hroot.1, ⟨el, hel, hroot.2.trans hh⟩, by rw [hatk, List.length_set]; exact hc1, by rw [hatk]; exact hc2, by rw [hatk]; exact hc3, by rw [List.length_set]; exact hc4, ?_⟩⟩
    show ListI _ 0 _ ds
    rw [e1]
    exact hjoin
end
theorem M9 : ∀ {l : List AV} {j0 j k : Nat} {i : Int} {p : List Nat} {o : Nat}, nstIx j0 l = some (j, k, i, p, o) → ∃ e, j0 ≤ j ∧ l[j - j0]? = some (.nst k i p o e)
  | [], _, _, _, _, _, _, h => by simp [nstIx] at h
  | a :: r, j0, j, k, i, p, o, h => by
    have tail : nstIx (j0 + 1) r = some (j, k, i, p, o) → ∃ e, j0 ≤ j ∧ (a :: r)[j - j0]? = some (.nst k i p o e) := fun h => by
      obtain ⟨e, h1, h2⟩ := M9 h
      refine ⟨e, by omega, ?_⟩
      rw [show j - j0 = (j - (j0 + 1)) + 1 by omega, List.getElem?_cons_succ]
      exact h2
    cases a with
    | nst k' i' p' o' e =>
      simp only [nstIx, Option.some.injEq, Prod.mk.injEq] at h
      obtain ⟨rfl, rfl, rfl, rfl, rfl⟩ := h
      exact ⟨e, Nat.le_refl _, by simp⟩
    | _ => exact tail h
theorem Rw {w : World} {g : G} {n : Nat} : ∀ {l : List AV} {vs : List Value} {j : Nat} {a : AV}, ArgsR w g n l vs → l[j]? = some a → ∃ v, vs[j]? = some v ∧ AVR w g n a v
  | _ :: _, v :: _, 0, _, h, hx => by simp at hx; subst hx; exact ⟨v, rfl, h.1⟩
  | _ :: _, _ :: _, j + 1, _, h, hx => by
    obtain ⟨v, hv, hr⟩ := Rw (j := j) h.2 (by simpa using hx)
    exact ⟨v, by simpa using hv, hr⟩
  | [], [], _, _, _, hx => by simp at hx
  | [], _ :: _, _, _, h, _ => h.elim
  | _ :: _, [], _, _, h, _ => h.elim
theorem O8 {w : World} {g g1 : G} {n n1 : Nat} {a1 : AV} : ∀ {l : List AV} {vs : List Value} {j : Nat} {v : Value}, ArgsR w g n l vs → vs[j]? = some v → AVR w g1 n1 a1 v → (∀ a ∈ l.set j (.un 1), ∀ v, AVR w g n a v → AVR w g1 n1 a v) → ArgsR w g1 n1 (l.set j a1) vs
  | a :: l, v0 :: vs, 0, v, h, hv, hx, ht => by
    simp at hv; subst hv
    refine ⟨hx, ?_⟩
    have key : ∀ {l : List AV} {vs : List Value}, (∀ a ∈ l, ∀ v, AVR w g n a v → AVR w g1 n1 a v) → ArgsR w g n l vs → ArgsR w g1 n1 l vs := by
      intro l
      induction l with
      | nil => intro vs _ h; cases vs with
        | nil => trivial
        | cons _ _ => exact h.elim
      | cons a l ih => intro vs ht h; cases vs with
        | nil => exact h.elim
        | cons v vs => exact ⟨ht a (by simp) v h.1, ih (fun a ha => ht a (by simp [ha])) h.2⟩
    exact key (fun a ha => ht a (by simp [ha])) h.2
  | a :: l, v0 :: vs, j + 1, v, h, hv, hx, ht => ⟨ht a (by simp) v0 h.1, O8 h.2 (by simpa using hv) hx fun a ha => ht a (by simp [ha])⟩
  | [], [], _, _, _, hv, _, _ => by simp at hv
  | [], _ :: _, _, _, h, _, _, _ => h.elim
  | _ :: _, [], _, _, h, _, _, _ => h.elim
theorem SA {P : Program} {f : FuncId} {c : Callee} (hc : SoundC P f c) {bs : List Blk} {args : List AV} {e : Eff} (h : callN c bs args some = some e) :
    bs.length ≤ e.blks.length ∧ (e.mods = [] → ∃ l, e.blks = bs ++ l) ∧ ∀ (w : World) (g : G) (vs : List Value), Heap w g bs → ArgsR w g bs.length args vs → ∀ (o : Oper) (a : Act) (next : Act → World → Prop) (Q : Exit → Act → World → Prop),
      (∀ v w' g', Heap w' g' e.blks → AVR w' g' e.blks.length e.val v → Step e.mods bs.length w g w' g' → next (a.put o.dst v) w') → o.upon P a next Q ((callFunc f vs.toArray).run P w) := by
  unfold callN at h
  split at h
  · exact Pb hc h
  · rename_i j k i p of hix
    split at h
    · rename_i ek t xs hb
      split at h
      · rename_i u hty
        split at h
        · rename_i ys hg
          split at h
          · rename_i hcond
            obtain ⟨hof, hu, hall⟩ := hcond
            rw [Lo c hc.nat] at h
            cases hx : callA c ((dropB [k] bs).set k Blk.dead ++ [Blk.row 0 .deep u ys]) (args.set j (.ref bs.length)) some with
            | none => rw [hx] at h; cases h
            | some e0 =>
              rw [hx] at h
              simp only [Option.bind_some] at h
              split at h
              · cases h
              · rename_i hmk
                split at h
                · rename_i e1 u' zs' hn0
                  split at h
                  · rename_i zs hcast
                    split at h
                    · rename_i x' hset
                      injection h with h; subst h
                      obtain ⟨ec, hec⟩ := AW hcast
                      injection ec with ec; have ec := ec.symm; subst ec; simp only at hec; subst hec
                      obtain ⟨hlen, _, hcall⟩ := Pb hc hx
                      have hkl := AE hb
                      have hlb : ((dropB [k] bs).set k Blk.dead ++ [Blk.row 0 .deep u ys]).length = bs.length + 1 := by simp [AD]
                      rw [hlb] at hlen
                      have hmk' : k ∉ e0.mods := by simpa using hmk
                      refine ⟨by simp only [List.length_set, AD]; omega, fun hm => by simp at hm, fun w g vs H hargs o a next Q hn => ?_⟩
                      obtain ⟨eN, _, hnth⟩ := M9 hix
                      rw [Nat.sub_zero] at hnth
                      obtain ⟨v, hvj, hav⟩ := Rw hargs hnth
                      obtain ⟨cs, hcs, hval⟩ := BG rfl rfl hav
                      obtain ⟨_, h0, hi, b, v', hba, hown, hcs1, hone, hcell⟩ := hcs
                      subst hcs1
                      have hvv : v = v' := by
                        have : [v'] = [v] := hval
                        injection this with h _; exact h.symm
                      subst hvv
                      obtain ⟨g1, H1, st1, hav1, hput⟩ := Uu H hb hi hg hof hu hba hcell hset
                      have hnot : ∀ a ∈ args.set j (.un 1), ∀ q ∈ a.ids, [k].contains q = false := fun a ha q hq => by
                        have := List.all_eq_true.1 hall a ha
                        simp only [Bool.not_eq_true', List.contains_eq_mem, decide_eq_false_iff_not] at this
                        simp only [List.contains_eq_mem, List.mem_singleton, decide_eq_false_iff_not]
                        intro e; subst e; exact this hq
                      have hargs1 : ArgsR w g1 (bs.length + 1) (args.set j (.ref bs.length)) vs := O8 hargs hvj hav1 fun a ha v h => by
                        have := h.step st1 (Nat.le_succ _)
                        rwa [Km (hnot a ha)] at this
                      refine hcall w g1 vs H1 (by rw [hlb]; exact hargs1) o a next Q fun v2 w2 g2 H2 hv2 st2 => ?_
                      rw [hlb] at st2
                      have hkn : k ≠ bs.length := by omega
                      let N := e0.blks.length
                      have hlenF : (((dropB [k, bs.length] e0.blks).set bs.length Blk.dead).set k (.row ek .deep t (xs.set i.toNat x'))).length = N := by simp [AD, N]
                      have stA : Step [bs.length, k] N w2 g2 w2 (g2.att bs.length k (labP p [i.toNat])) := WM
                      have stA' : Step [k, bs.length] N w2 g2 w2 (g2.att bs.length k (labP p [i.toNat])) := stA.weaken (fun q hq => by simp at hq ⊢; exact hq.symm) (Nat.le_refl _)
                      have hrowk : BlkR w2 (g2.att bs.length k (labP p [i.toNat])) N k (.row ek .deep t (xs.set i.toNat x')) := by
                        refine hput w2 g2 N e1 (fun b q hb => st2.lab b k q hb (by omega) hmk') (fun j hj => st2.at_ j (by omega)) (H2.blk bs.length _ hn0)
                      refine hn v2 w2 (g2.att bs.length k (labP p [i.toNat])) ?_ ?_ ?_
                      · refine H2.turn stA' (fun b hb => by simp [G.att, H2.fresh b hb]) (by rw [hlenF]; exact Nat.le_refl _) fun j' y hj' => ?_
                        rw [hlenF]
                        rcases QH hj' with ⟨rfl, rfl⟩ | ⟨hne, hj'⟩
                        · exact .inr (.inr hrowk)
                        · rcases QH hj' with ⟨rfl, rfl⟩ | ⟨hne2, hj'⟩
                          · exact .inl rfl
                          · obtain ⟨y', hy', rfl⟩ := FW hj'
                            exact .inr (.inl ⟨by simp only [List.mem_cons, List.not_mem_nil, or_false, not_or]; exact ⟨hne, hne2⟩, y', hy', rfl⟩)
                      · rw [hlenF]
                        exact hv2.step stA' (Nat.le_refl _)
                      · refine ⟨st2.os.trans st1.os, st2.tape.trans st1.tape, st2.output.trans st1.output, st2.size, fun b hb h => ?_, fun b h => ?_, fun b j' q h hj' hm => ?_, fun j' hj' => ?_⟩
                        · have h1 := st1.no b hb h
                          have h2 := st2.no b hb h1.1
                          exact ⟨by simp [G.att, h2.1], h2.2⟩
                        · have h1 := st1.imm b h
                          have h2 := st2.imm b h1.1
                          exact ⟨by simp [G.att, h2.1], h2.2⟩
                        · simp only [List.mem_append, List.mem_singleton, not_or] at hm
                          have h1 := st1.lab b j' q h hj' (by simpa using hm.2)
                          have h2 := st2.lab b j' q h1.1 (by omega) hm.1
                          exact ⟨P2 h2.1 (by omega), h2.2⟩
                        · show g2.at_ j' = _
                          rw [st2.at_ j' (by omega), st1.at_ j' hj']
                    · cases h
                  · cases h
                · cases h
          · cases h
        · cases h
      · cases h
    · cases h
end Go.Va
namespace Go.Va
section
variable {w : World} {g : G} {n : Nat}
def G.thaw (g : G) (Z : List Nat) : G := ⟨fun b => match g.own b with | .lab k r => if k ∈ Z then .imm else .lab k r | t => t, g.at_⟩
theorem Qz {Z : List Nat} {b : Nat} (h : g.own b = .imm) : (g.thaw Z).own b = .imm := by simp [G.thaw, h]
theorem MJ {Z : List Nat} {b k : Nat} {r : List Nat} (h : g.own b = .lab k r) (hk : k ∉ Z) : (g.thaw Z).own b = .lab k r := by simp [G.thaw, h, hk]
theorem Al.frz {Z ks : List Nat} {b : Nat} (h : Al g.own ks b) : Al (g.thaw Z).own (ks.filter fun k => !decide (k ∈ Z)) b := by
  rcases h with h | ⟨k, hk, r, h⟩
  · exact .inl (Qz h)
  · by_cases hz : k ∈ Z
    · exact .inl (by simp [G.thaw, h, hz])
    · exact .inr ⟨k, by simp [hk, hz], r, MJ h hz⟩
theorem Al.frz' {Z ks : List Nat} {b : Nat} (h : Al g.own ks b) : Al (g.thaw Z).own ks b := h.frz.mono fun k hk => (List.mem_filter.1 hk).1
theorem Un (a : AV) : a.noN.isTup = a.isTup := by cases a <;> rfl
theorem Pi (a : AV) : a.noN.isUn = true ∨ a.noN.isAgg = a.isAgg := by cases a <;> first | exact .inl rfl | exact .inr rfl
theorem W3 {a : AV} (h : a.isUn = true) : a.noN.isUn = true := by cases a <;> simp_all [AV.isUn, AV.noN]
theorem QX : ∀ a : AV, a.noN.size = a.size
  | .pr a b => by simp [AV.noN, AV.size, QX a, QX b]
  | .dat _ _ _ => rfl
  | .zs => rfl
  | .ref _ => rfl
  | .sld _ _ => rfl
  | .ptr _ _ _ _ => rfl
  | .rop _ _ _ => rfl
  | .nilp => rfl
  | .fn _ _ => rfl
  | .cons _ _ => rfl
  | .nil => rfl
  | .nst _ _ _ _ _ => rfl
  | .un _ => rfl
theorem AVX.frz (Z : List Nat) : ∀ (a : AV) (m : Bool) {cs : List Value}, AVX w g n m a cs → AVX w (g.thaw Z) n m a.noN cs
  | .dat ks t x, false, cs, ⟨hk, r⟩ => ⟨hk, r.mono fun b a => ⟨a.frz', rfl⟩⟩
  | .zs, false, _, h => h
  | .ref _, false, _, h => h
  | .sld _ _, false, _, h => h
  | .ptr _ _ _ _, false, _, h => h
  | .rop ks t x, false, cs, ⟨hk, b, off, ds, e, ha, r, hc⟩ => ⟨hk, b, off, ds, e, ha.frz', r.mono fun b a => ⟨a.frz', rfl⟩, hc⟩
  | .nilp, false, _, h => h
  | .nst _ _ _ _ _, false, _, ⟨_, _, _, _, _, _, _, e, h1, _⟩ => by subst e; exact ⟨rfl, by intro u hu; simp at hu; subst hu; exact h1⟩
  | .pr a b, false, _, ⟨c, e, he, h1, h2⟩ => ⟨c, e, he, AVX.frz Z a false h1, AVX.frz Z b false h2⟩
  | .fn f c, false, _, ⟨vs, e, hx⟩ => ⟨vs, e, AVX.frz Z c true hx⟩
  | .un k, false, _, h => h
  | .cons a b, true, _, ⟨v, r, e, h1, h2⟩ => by
    refine ⟨v, r, e, ?_, AVX.frz Z b true h2⟩
    rcases Pi a with hd | hd
    · exact .inl hd
    · exact h1.imp W3 fun ⟨cs, hx, hv⟩ => ⟨cs, AVX.frz Z a false hx, by rw [hd]; exact hv⟩
  | .nil, true, _, h => h
  | .cons _ _, false, _, h => h.elim
  | .nil, false, _, h => h.elim
  | .nst _ _ _ _ _, true, _, h => h.elim
  | .dat _ _ _, true, _, h => h.elim
  | .zs, true, _, h => h.elim
  | .ref _, true, _, h => h.elim
  | .sld _ _, true, _, h => h.elim
  | .ptr _ _ _ _, true, _, h => h.elim
  | .rop _ _ _, true, _, h => h.elim
  | .nilp, true, _, h => h.elim
  | .pr _ _, true, _, h => h.elim
  | .fn _ _, true, _, h => h.elim
  | .un _, true, _, h => h.elim
theorem AVR.frz (Z : List Nat) {a : AV} {v : Value} (h : AVR w g n a v) : AVR w (g.thaw Z) n a.noN v := by
  cases ht : a.isTup with
  | false =>
    rw [AVR.iff ht] at h
    rw [AVR.iff (by rw [Un]; exact ht)]
    rcases Pi a with hd | hd
    · exact .inl hd
    · exact h.imp W3 fun ⟨cs, h, hv⟩ => ⟨cs, AVX.frz Z a false h, by rw [hd]; exact hv⟩
  | true =>
    cases a with
    | cons a b => obtain ⟨vs, e, h⟩ := h; exact ⟨vs, e, AVX.frz Z (.cons a b) true h⟩
    | nil => exact h
    | _ => cases ht
theorem BlkR.frz {Z : List Nat} {k : Nat} (hk : k ∉ Z) {b : Blk} (h : BlkR w g n k b) : BlkR w (g.thaw Z) n k b.noN := by
  cases b with
  | dead => trivial
  | box a =>
    obtain ⟨h1, b, cs, e, ha, ho, hh, hx⟩ := h
    exact ⟨h1, b, cs, e, ha, MJ ho hk, hh, AVX.frz Z a false hx⟩
  | row e m t xs =>
    obtain ⟨hmi, hlen, hes, hpos, hr⟩ := h
    refine ⟨hmi, hlen, hes, hpos, hr.imp id fun ⟨b, cur, ds, ha, ho, hh, h1, h2, h3, h4, hc⟩ => ⟨b, cur, ds, ha, MJ ho hk, hh, h1, h2, h3, h4, ?_⟩⟩
    cases m with
    | deep => exact hc.mono fun i x c r => r.mono fun b q hb => ⟨MJ hb hk, rfl⟩
    | sh ks => exact hc.mono fun x c r => r.mono fun b a => ⟨a.frz', rfl⟩
theorem Q2 {bs : List Blk} (H : Heap w g bs) (Z : List Nat) : Heap w (g.thaw Z) ((Blk.kill bs Z).map Blk.noN) := by
  refine ⟨fun b hb => by simp [G.thaw, H.fresh b hb], fun k x hx => ?_⟩
  rw [List.getElem?_map] at hx
  cases hq : (Blk.kill bs Z)[k]? with
  | none => rw [hq] at hx; cases hx
  | some y =>
    rw [hq] at hx
    injection hx with hx; subst hx
    rw [List.length_map, Bj]
    rcases II hq with rfl | ⟨hn, h⟩
    · trivial
    · exact (H.blk k y h).frz hn
theorem KM : ∀ a : AV, a.hasN = false → a.noN = a
  | .pr a b, h => by
    simp only [AV.hasN, Bool.or_eq_false_iff] at h
    simp [AV.noN, KM a h.1, KM b h.2]
  | .cons a b, h => by
    simp only [AV.hasN, Bool.or_eq_false_iff] at h
    simp [AV.noN, KM a h.1, KM b h.2]
  | .fn f c, h => by simp [AV.noN, KM c h]
  | .dat _ _ _, _ => rfl
  | .zs, _ => rfl
  | .ref _, _ => rfl
  | .sld _ _, _ => rfl
  | .ptr _ _ _ _, _ => rfl
  | .rop _ _ _, _ => rfl
  | .nilp, _ => rfl
  | .nil, _ => rfl
  | .nst _ _ _ _ _, h => by cases h
  | .un _, _ => rfl
theorem WE {b : Blk} (h : b.hasN = false) : b.noN = b := by
  cases b with
  | box a => simp [Blk.noN, KM a h]
  | _ => rfl
theorem Uq {bs : List Blk} (H : Heap w g bs) (hn : bs.all (fun b => !b.hasN) = true) (Z : List Nat) : Heap w (g.thaw Z) (Blk.kill bs Z) := by
  have := Q2 H Z
  rwa [List.map_congr_left (g := id) (fun b hb => ?_), List.map_id] at this
  obtain ⟨j, hj⟩ := List.getElem?_of_mem hb
  rcases II hj with h | ⟨_, h⟩
  · subst h; rfl
  · have := List.all_eq_true.1 hn b (List.mem_of_getElem? h)
    exact WE (by simpa using this)
theorem Ry : ∀ (Z : List Nat) (a b : List Blk), (∀ k ∈ Z, a.length ≤ k) → ∃ l, Blk.kill (a ++ b) Z = a ++ l
  | [], a, b, _ => ⟨b, rfl⟩
  | k :: Z, a, b, h => by
    have hk := h k (by simp)
    simp only [Blk.kill]
    rw [List.set_append_right _ _ hk]
    exact Ry Z a _ fun j hj => h j (by simp [hj])
end
end Go.Va
namespace Go.Va
section
variable {w : World} {g : G} {n : Nat} {v : Value}
theorem SM {k l : Nat} (h : AVR w g n (.sld k l) v) : k < n ∧ v = .slice (g.at_ k).a l l := by
  obtain ⟨cs, ⟨hk, e⟩, hv⟩ := BG rfl rfl h
  subst e
  exact ⟨hk, by simpa [asVal, AV.isAgg] using hv.symm⟩
theorem AbZ {k l : Nat} (hk : k < n) : AVR w g n (.sld k l) (.slice (g.at_ k).a l l) := B7 rfl (cs := [_]) ⟨hk, rfl⟩ (by simp [asVal, AV.isAgg])
theorem Ug {a : AV} (h : a.isPtr = true) (hv : AVR w g n a v) : AVX w g n false a [v] ∧ v.cells = #[v] := by
  unfold AV.isPtr at h
  split at h
  · obtain ⟨cs, hx, hv⟩ := BG rfl rfl hv
    have e : cs = [v] := by simpa [asVal, AV.isAgg] using hv
    subst e
    obtain ⟨_, _, _, b, _, e⟩ := hx
    exact ⟨⟨‹_›, ‹_›, ‹_›, b, ‹_›, e⟩, by injection e with e; subst e; rfl⟩
  · obtain ⟨cs, hx, hv⟩ := BG rfl rfl hv
    have e : cs = [v] := by simpa [asVal, AV.isAgg] using hv
    subst e
    obtain ⟨hk, b, off, ds, e, hr⟩ := hx
    exact ⟨⟨hk, b, off, ds, e, hr⟩, by injection e with e; subst e; rfl⟩
  · cases h
theorem Xa : ∀ {l : List AV} {vs : List Value}, (∀ a ∈ l, a.isPtr = true) → ArgsR w g n l vs → AVX w g n false (prs l) vs ∧ ∀ v ∈ vs, v.cells = #[v]
  | [], [], _, _ => ⟨⟨fun k h => (by cases h), rfl⟩, fun v h => (by cases h)⟩
  | a :: l, v :: vs, h, ⟨h1, h2⟩ => by
    obtain ⟨hx, hc⟩ := Ug (h a (by simp)) h1
    obtain ⟨hy, hd⟩ := Xa (fun b hb => h b (by simp [hb])) h2
    exact ⟨⟨[v], vs, rfl, hx, hy⟩, fun u hu => by rcases List.mem_cons.1 hu with rfl | hu; exact hc; exact hd u hu⟩
  | [], _ :: _, _, h => h.elim
  | _ :: _, [], _, h => h.elim
end
theorem O7 : ∀ (ps : List (Nat × Value)) (pre post : List Value), post.length = ps.length → ps.map (·.1) = List.range' pre.length ps.length → (∀ p ∈ ps, p.2.cells = #[p.2]) →
    Instr.fill (fun i => some (i * 1, 1)) (pre ++ post).toArray ps = some (pre ++ ps.map (·.2)).toArray
  | [], pre, post, hl, _, _ => by
    have : post = [] := List.eq_nil_of_length_eq_zero hl
    subst this; simp [Instr.fill]
  | (i, v) :: ps, pre, q :: post, hl, hr, hc => by
    have hc1 : v.cells = #[v] := hc (i, v) (by simp)
    simp only [List.map_cons, List.length_cons, List.range'_succ, List.cons.injEq] at hr
    obtain ⟨rfl, hr⟩ := hr
    have ih := O7 ps (pre ++ [v]) post (by simpa using hl) (by simpa using hr) (fun p hp => hc p (by simp [hp]))
    unfold Instr.fill
    simp only [hc1]
    have e : (Array.zipIdx #[v]).foldl (fun cs (x : Value × Nat) => cs.setIfInBounds (pre.length * 1 + x.2) x.1) (pre ++ q :: post).toArray = (pre ++ [v] ++ post).toArray := by
      simp
    rw [e, ih]
    simp
  | _ :: _, _, [], hl, _, _ => by simp at hl
section
variable {P : Program} {σ : St} {o : Oper} {en : Env} {e : Eff}
theorem Sl {c : Call} (ho : o.op = .call c) (hc : c.callee = .builtin .len) {k n : Nat} (hx : opds σ c.args = [.sld k n]) {t : TypeId} {r : List TypeId} (hts : c.argTypes.toList = t :: r) {ti : TI} (ht : TOk P t ti) (hs : ti.isSl = true) : Snd P σ o ⟨.int .i64 (n : Int), σ.blks, []⟩ := by
  obtain ⟨a0, ha, hx⟩ := args1 hx
  refine .of_qt <| Ku (s := fun ρ => Builtin.len_ c.argTypes o.type #[ρ a0]) (fun ρ => ?_) fun a w g hst => ?_
  · rw [Jx ho hc, ha]; simp [builtin]
  · have h0 := AH hst a0
    rw [hx] at h0
    obtain ⟨hk, e⟩ := SM h0
    rw [e]
    have hts : c.argTypes[0]? = some t := by rw [← Array.getElem?_toList, hts]; rfl
    exact A4 (by simp [Builtin.len_, hts, underlying, AT ht hs, goInt])
theorem Sh {t : TypeId} {x i : Operand} (ho : o.op = .indexAddr t x i) {ti te : TI} (ht : TOk P t ti) (hte : TOk P ti.elem te) (hs : ti.isSl = true) (hsz : te.ty.size = 1) {k n : Nat} (hx : σ.opd x = .sld k n) {ks : List Nat} {kk : IntKind} {j : Int} (hi : σ.opd i = .dat ks (.int kk) j)
    (h0 : 0 ≤ j) (h1 : j < (n : Int)) {b : AV} (hb : σ.blks[k]? = some (.box b)) : Snd P σ o ⟨.ptr k 0 [j.toNat] j.toNat, σ.blks, []⟩ :=
  .of_qt <| Ku (s := fun ρ => Instr.indexAt t (ρ x) (ρ i)) (fun ρ => by simp [execOp, ho]) fun a w g hst => by
    have hix := AH hst i
    rw [hi] at hix
    have hie := Ej hix
    have hxx := AH hst x
    rw [hx] at hxx
    obtain ⟨hk, e⟩ := SM hxx
    have hu := AT ht hs
    obtain ⟨hl, bb, cs, el, ha, _⟩ := hst.heap.blk k _ hb
    rw [hie, e, ha]
    refine ⟨.pointer (some ⟨bb, (0 : Int).toNat * (g.at_ k).esz + j.toNat, none⟩), ?_, OD hk (Int.le_refl _) (by rw [hl]; decide) ha⟩
    simp [Instr.indexAt, asIntOf, underlying, hu, h0, h1, Et hte, hsz, addN]
end
end Go.Va
namespace Go.Va
structure EnvOk (P : Program) (en : Env) : Prop where
  tab : tabOk P en.tab = true
  fns : ∀ g c, en.fns g = some c → SoundC P g c
theorem EnvOk.nat {P : Program} {en : Env} (h : EnvOk P en) : ENat en := fun g c hc => (h.fns g c hc).nat
section
variable {P : Program} {σ : St} {o : Oper} {en : Env} {e : Eff}
theorem EnvOk.t (he : EnvOk P en) {t : Nat} {ti : TI} (h : en.tab.get t = some ti) : TOk P t ti := TOk.of he.tab h
theorem O9 {w : World} {g : G} {a : Act} (hs : StR w g σ a) : ∀ (l : List Operand), ArgsR w g σ.blks.length (l.map σ.opd) (l.map a.eval)
  | [] => trivial
  | x :: l => ⟨AH hs x, O9 hs l⟩
theorem Ph {w : World} {g : G} {n : Nat} : ∀ {l k : List AV} {xs ys : List Value}, ArgsR w g n l xs → ArgsR w g n k ys → ArgsR w g n (l ++ k) (xs ++ ys)
  | [], _, [], _, _, h => h
  | _ :: _, _, _ :: _, _, h1, h2 => ⟨h1.1, Ph h1.2 h2⟩
  | [], _, _ :: _, _, h, _ => h.elim
  | _ :: _, _, [], _, h, _ => h.elim
theorem capsR {w : World} {g : G} {n : Nat} : ∀ {a : AV} {vs : List Value}, AVX w g n true a vs → ArgsR w g n (capsL a) vs
  | .cons a b, _, ⟨v, r, e, h1, h2⟩ => by
    subst e
    refine ⟨?_, capsR h2⟩
    have ht : a.isTup = false := by
      rcases h1 with h | ⟨cs, h, _⟩
      · cases a <;> first | rfl | simp [AV.isUn] at h
      · exact notTup h
    exact (AVR.iff ht).2 h1
  | .nil, _, h => by cases h; trivial
  | .nst _ _ _ _ _, _, h => h.elim
  | .dat _ _ _, _, h => h.elim
  | .zs, _, h => h.elim
  | .ref _, _, h => h.elim
  | .sld _ _, _, h => h.elim
  | .ptr _ _ _ _, _, h => h.elim
  | .rop _ _ _, _, h => h.elim
  | .nilp, _, h => h.elim
  | .pr _ _, _, h => h.elim
  | .fn _ _, _, h => h.elim
  | .un _, _, h => h.elim
theorem Vw (he : EnvOk P en) {c : Call} (ho : o.op = .call c) {fo : Operand} (hc : c.callee = .value fo) {g0 : Nat} {caps : AV} (hf : σ.opd fo = .fn g0 caps) {ca : Callee} (hg : en.fns g0 = some ca) (h : callN ca σ.blks (opds σ c.args ++ capsL caps) some = some e) : Snd P σ o e := by
  obtain ⟨h1, h2, h3⟩ := SA (he.fns _ _ hg) h
  refine ⟨h1, h2, fun a w g hs next Q hn => ?_⟩
  have hv := AH hs fo
  rw [hf] at hv
  obtain ⟨cs, ⟨vs, e1, hx⟩, hcs⟩ := BG rfl rfl hv
  have e2 : a.eval fo = .func (.func g0) #[] vs.toArray := by
    subst e1
    simpa [asVal, AV.isAgg] using hcs.symm
  have hr : (execOp a.eval o).run P w = (callFunc g0 (c.args.toList.map a.eval ++ vs).toArray).run P w := by
    have : (c.args.toList.map a.eval ++ vs).toArray = #[] ++ c.args.map a.eval ++ vs.toArray := by
      apply Array.toList_inj.1; simp
    rw [this]
    simp [execOp, ho, resolve, hc, e2, Deferred.ofValue, invoke]
  unfold Oper.wp
  rw [hr]
  exact h3 w g _ hs.heap (Ph (O9 hs _) (capsR hx)) o a next Q hn
theorem OS (he : EnvOk P en) {ti : TI} (u : Ty) (h : (match en.tab.get ti.elem with | some te => if ti.isSl = true then some te.ty else none | none => none) = some u) : ti.isSl = true ∧ ∃ tie, tie.ty = u ∧ TOk P ti.elem tie := by
  split at h
  · rename_i te hte
    split at h
    · rename_i hsl
      injection h with h
      exact ⟨hsl, te, h, he.t hte⟩
    · cases h
  · cases h
theorem Mo (he : EnvOk P en) (h : execP en σ o some = some e) : Snd P σ o e := by
  unfold execP at h
  dsimp only at h
  split at h
  · rename_i x ho; injection h with h; subst h; exact RJ (.inl ho)
  · rename_i x ho; injection h with h; subst h; exact RJ (.inr ho)
  · rename_i c a b ho
    split at h
    · rename_i ks t hc
      have := VQ (P := P) ho hc
      cases t
      · injection h with h; subst h; exact this
      · injection h with h; subst h; exact this
    · cases h
  · rename_i el ho
    split at h
    · rename_i ti ht; injection h with h; subst h; exact S3 ho (he.t ht)
    · cases h
  · rename_i el x ho
    split at h
    · rename_i ht; injection h with h; subst h; exact Yo ho ht
    · cases h
  · rename_i t parts ho
    split at h
    · rename_i ti ht
      split at h
      · cases h
      · rename_i hof
        split at h
        · rename_i v hv
          injection h with h; subst h
          exact UG ho (he.t ht) (fun e => hof (by rw [e]; rfl)) hv
        · cases h
    · cases h
  · rename_i t len parts ho
    split at h
    · rename_i ti ht
      split at h
      · rename_i te hte
        split at h
        · rename_i m xs rs hp
          split at h
          · rename_i hc
            obtain ⟨h1, h2⟩ := M3 ho (he.t ht) (he.t hte) hp hc
            split at h
            · rename_i h0; injection h with h; subst h; exact h1 h0
            · rename_i h0; injection h with h; subst h; exact h2 h0
          · cases h
        · cases h
      · cases h
    · cases h
  · rename_i t x ho
    split at h
    · rename_i ti ht
      obtain ⟨z, hz, rfl⟩ := viaN' (f := fun R K => loadA σ.blks ti (σ.opd x) K) (fun R K => OA ..) (g := fun v => ⟨v, σ.blks, []⟩) h
      exact UX ho (he.t ht) hz
    · cases h
  · rename_i t x v ho
    split at h
    · rename_i ti ht; exact TU ho (he.t ht) h
    · cases h
  · rename_i x ho
    split at h
    · rename_i k i p q hx
      injection h with h; subst h
      rw [← hx]
      exact LV ho fun w g n v hv => by rw [hx] at hv; exact Oz hv
    · rename_i ks t y hx
      injection h with h; subst h
      rw [← hx]
      exact LV ho fun w g n v hv => by rw [hx] at hv; exact OK hv
    · cases h
  · rename_i op t x y yt ho
    obtain ⟨z, hz, rfl⟩ := viaN' (f := fun R K => binA op (match en.tab.get t with | some ti => ti.ty == .bool | none => false) (σ.opd x) (σ.opd y) K) (fun R K => Q3 ..) (g := fun v => ⟨v, σ.blks, []⟩) h
    refine T6 ho (fun hb => ?_) hz
    split at hb
    · rename_i ti ht; exact Sj (he.t ht) (by simpa using hb)
    · cases hb
  · rename_i op t x ho
    obtain ⟨z, hz, rfl⟩ := viaN' (f := fun R K => unA op (σ.opd x) K) (fun R K => Ul ..) (g := fun v => ⟨v, σ.blks, []⟩) h
    exact VO ho hz
  · rename_i s t x ho
    split at h
    · rename_i ts ti hts ht
      obtain ⟨z, hz, rfl⟩ := viaN' (f := fun R K => convA σ.blks (match en.tab.get ts.elem with | some te => if ts.isSl = true then some te.ty else none | none => none) ti.ty (σ.opd x) K) (fun R K => Pv ..) (g := fun v => ⟨v, σ.blks, []⟩) h
      exact Qx ho (he.t hts) (he.t ht) (OS he) hz
    · cases h
  · rename_i fn first caps ho
    split at h
    · split at h
      · rename_i h0; injection h with h; subst h; exact OU ho h0
      · cases h
    · cases h
  · rename_i t l c ho
    split at h
    · rename_i ti ht
      split at h
      · rename_i te hte
        split at h
        · rename_i hsl; exact Vi ho (he.t ht) (he.t hte) hsl h
        · cases h
      · cases h
    · cases h
  · rename_i t x lo hi mx ho
    split at h
    · rename_i d ti hd ht
      split at h
      · split at h
        · split at h
          · rename_i hsl
            split at h
            · rename_i te hte; exact Y9 ho (he.t ht) hsl (he.t hte) h
            · cases h
          · cases h
        · cases h
      · obtain ⟨z, hz, rfl⟩ := viaN' (f := fun R K => sliceA σ.blks ti (match en.tab.get ti.elem with | some te => if ti.isSl = true then some te.ty else none | none => none) (σ.opd x) (lo.map σ.opd) (hi.map σ.opd) (mx.map σ.opd) K) (fun R K => Na ..) (g := fun v => ⟨v, σ.blks, []⟩) h
        exact TE ho (he.t ht) (OS he) hz
    · cases h
  · rename_i t x f ho
    split at h
    · rename_i ti ht
      obtain ⟨z, hz, rfl⟩ := viaN' (f := fun R K => fldA ti f (σ.opd x) K) (fun R K => Q8 ..) (g := fun v => ⟨v, σ.blks, []⟩) h
      exact NP ho (he.t ht) hz
    · cases h
  · rename_i t x i ho
    split at h
    · rename_i ti ht
      split at h
      · rename_i te hte
        split at h
        · rename_i hsl
          obtain ⟨z, hz, rfl⟩ := viaN' (f := fun R K => idxA σ.blks te.ty (σ.opd x) (σ.opd i) K) (fun R K => Rq ..) (g := fun v => ⟨v, σ.blks, []⟩) h
          exact N5 ho (he.t ht) (he.t hte) hsl hz
        · cases h
      · cases h
    · cases h
  · rename_i t x i ho
    split at h
    · rename_i ti ht
      split at h
      · rename_i hs
        obtain ⟨z, hz, rfl⟩ := viaN' (f := fun R K => chrA (σ.opd x) (σ.opd i) K) (fun R K => QW ..) (g := fun v => ⟨v, σ.blks, []⟩) h
        exact Ut ho (he.t ht) hs hz
      · cases h
    · cases h
  · rename_i x i ho
    split at h
    · rename_i v hv
      split at h
      · cases h
      · rename_i ht; injection h with h; subst h; exact P6 ho hv (by simpa using ht)
    · cases h
  · rename_i c ho
    unfold execCall at h
    split at h
    · rename_i hc
      split at h
      · rename_i x t r hx hts
        split at h
        · rename_i ti ht
          obtain ⟨z, hz, rfl⟩ := viaN' (f := fun R K => lenA σ.blks ti x K) (fun R K => Rz ..) (g := fun v => ⟨v, σ.blks, []⟩) h
          exact XF ho hc hx hts (he.t ht) hz
        · cases h
      · cases h
    · rename_i hc
      split at h
      · rename_i x y hx
        obtain ⟨z, hz, rfl⟩ := viaN' (f := fun R K => mmA false x y K) (fun R K => NX ..) (g := fun v => ⟨v, σ.blks, []⟩) h
        exact W2 (mx := false) ho hc hx hz
      · cases h
    · rename_i hc
      split at h
      · rename_i x y hx
        obtain ⟨z, hz, rfl⟩ := viaN' (f := fun R K => mmA true x y K) (fun R K => NX ..) (g := fun v => ⟨v, σ.blks, []⟩) h
        exact W2 (mx := true) ho hc hx hz
      · cases h
    · rename_i hc
      split at h
      · rename_i x y t tx hx hts
        split at h
        · rename_i ti tix ht htx
          split at h
          · rename_i te hte
            split at h
            · rename_i hk
              rw [Bool.and_eq_true] at hk
              exact RS ho hc hx hts (he.t ht) (he.t hte) hk.1 (he.t htx) hk.2 h
            · cases h
          · cases h
        · cases h
      · cases h
    · cases h
    · rename_i fo hc
      split at h
      · rename_i g0 caps hf
        split at h
        · rename_i ca hg; exact Vw he ho hc hf hg h
        · cases h
      · cases h
    · cases h
  · cases h
theorem Vh {e' : Eff} {t : Ty} (h : Snd P σ o e) (hf : frzE σ.blks.length t e = some e') : Snd P σ o e' := by
  unfold frzE at hf
  split at hf
  · rename_i x hr
    split at hf
    · rename_i hN
      injection hf with hf; subst hf
      have hZ : ∀ k ∈ (e.val.lend e.blks).filter (fun k => !decide (k < σ.blks.length)), σ.blks.length ≤ k := fun k hk => by
        have := (List.mem_filter.1 hk).2
        simpa using this
      refine ⟨by rw [Bj]; exact h.grow, fun hm => ?_, fun a w g hs next Q hn => h.wp a w g hs next Q fun v w' g' H hv st => ?_⟩
      · obtain ⟨l, hl⟩ := h.ext hm
        simp only
        generalize (e.val.lend e.blks).filter (fun k => !decide (k < σ.blks.length)) = Z at hZ
        rw [hl]
        exact Ry Z _ _ hZ
      · generalize hZe : (e.val.lend e.blks).filter (fun k => !decide (k < σ.blks.length)) = Z at hZ hn
        refine hn v w' (g'.thaw Z) (Uq H hN Z) ?_ ⟨st.os, st.tape, st.output, st.size, fun b hb h => ?_, fun b h => ?_, fun b k p h hk hm => ?_, fun k hk => st.at_ k hk⟩
        · rw [Bj]
          obtain ⟨h1, h2⟩ := Mq hr
          obtain ⟨cs, hcs, hv⟩ := BG h1 h2 hv
          obtain ⟨hrd, hlt⟩ := JM H t e.val x cs hr hcs
          refine B7 (a := .dat _ t x) rfl ⟨fun k hk => hlt k (List.mem_filter.1 hk).1, hrd.mono fun b a => ⟨a.frz.mono fun k hk => ?_, rfl⟩⟩ (by rw [show (AV.dat _ t x).isAgg = e.val.isAgg from (Ro hr).symm]; exact hv)
          subst hZe
          simp only [List.mem_filter, Bool.not_eq_true', decide_eq_false_iff_not, decide_eq_true_eq] at hk ⊢
          refine ⟨hk.1, ?_⟩
          rcases Nat.lt_or_ge k σ.blks.length with h | h
          · exact h
          · exact absurd ⟨hk.1, by omega⟩ hk.2
        · have := st.no b hb h
          exact ⟨by simp [G.thaw, this.1], this.2⟩
        · have := st.imm b h
          exact ⟨Qz this.1, this.2⟩
        · have := st.lab b k p h hk hm
          exact ⟨MJ this.1 fun hz => by have := hZ k hz; omega, this.2⟩
    · cases hf
  · cases hf
def G.sha (g : G) (k : Nat) : G := ⟨fun b => match g.own b with | .lab j r => if j = k ∧ r ≠ [] then .imm else .lab j r | t => t, g.at_⟩
theorem OwR.rdS {w : World} {own : Nat → Tag} {k : Nat} {A : Nat → Prop} (h : ∀ b q, q ≠ [] → own b = .lab k q → A b) : ∀ {t : Ty} {L : List Nat} {x : t.V} {cs : List Value}, L ≠ [] → OwR w own k t L x cs → RdR w A t x cs
  | .int _, _, _, _, _, r => r
  | .bool, _, _, _, _, r => r
  | .str, _, _, _, _, r => r
  | .unit, _, _, _, _, r => r
  | .pair _ _, _, _, _, _, ⟨c, d, e, r1, r2⟩ => ⟨c, d, e, OwR.rdS h (by simp) r1, OwR.rdS h (by simp) r2⟩
  | .sl t, L, xs, cs, hL, ⟨ad, cap, e, r⟩ => by
    rcases r with ⟨hx, hcap⟩ | ⟨b, e1, cur, ds, ha, ho, hh, h1, h2, h3, h4, hc⟩
    · subst hx
      exact ⟨ad, cap, [], e, by simp, rfl, .inl rfl⟩
    · refine ⟨ad, cap, ds, e, h1, hc.toR fun i x c r => OwR.rdS h (by simp) r, .inr ⟨b, 0, ha, h b L hL ho, fun j q hq => ?_⟩⟩
      rw [Ky hh, Nat.zero_add, ← Array.getElem?_toList]
      subst h4
      rw [List.getElem?_take] at hq
      split at hq
      · exact hq
      · cases hq
  | .opq _, _, _, _, _, r => r.elim
theorem TX {e' : Eff} (h : Snd P σ o e) (hf : shalE σ.blks.length e = some e') : Snd P σ o e' := by
  unfold shalE at hf
  split at hf
  · rename_i k hval
    split at hf
    · rename_i hk
      split at hf
      · rename_i el t xs hb
        injection hf with hf; subst hf
        refine ⟨by simpa using h.grow, fun hm => ?_, fun a w g hs next Q hn => h.wp a w g hs next Q fun v w' g' H hv st => ?_⟩
        · obtain ⟨l, hl⟩ := h.ext hm
          simp only
          rw [hl, List.set_append_right _ _ hk]
          exact ⟨_, rfl⟩
        · have hal : ∀ {ks : List Nat} {b : Nat}, Al g'.own ks b → Al (g'.sha k).own ks b := fun {ks b} ha => by
            rcases ha with ha | ⟨j, hj, r, ha⟩
            · exact .inl (by simp [G.sha, ha])
            · by_cases hc : j = k ∧ r ≠ []
              · exact .inl (by simp [G.sha, ha, hc])
              · exact .inr ⟨j, hj, r, by simp only [G.sha, ha, if_neg hc]⟩
          have hroot : ∀ {b j : Nat}, g'.own b = .lab j [] → (g'.sha k).own b = .lab j [] := fun {b j} h => by simp [G.sha, h]
          have hav : ∀ (a : AV) (m : Bool) {cs : List Value}, AVX w' g' e.blks.length m a cs → AVX w' (g'.sha k) e.blks.length m a cs := by
            intro a
            induction a with
            | dat ks t x => intro m cs hx; cases m with
              | false => exact ⟨hx.1, hx.2.mono fun b a => ⟨hal a, rfl⟩⟩
              | true => exact hx.elim
            | rop ks t x => intro m cs hx; cases m with
              | false =>
                obtain ⟨hk, b, off, ds, e, ha, r, hc⟩ := hx
                exact ⟨hk, b, off, ds, e, hal ha, r.mono fun b a => ⟨hal a, rfl⟩, hc⟩
              | true => exact hx.elim
            | nst k i p o e => intro m cs hx; cases m with
              | false =>
                obtain ⟨hk, h0, h1, b, v, ha, ho, e1, e2, hc⟩ := hx
                exact ⟨hk, h0, h1, b, v, ha, hroot ho, e1, e2, hc⟩
              | true => exact hx.elim
            | pr a b iha ihb => intro m cs hx; cases m with
              | false =>
                obtain ⟨c, d, e, h1, h2⟩ := hx
                exact ⟨c, d, e, iha false h1, ihb false h2⟩
              | true => exact hx.elim
            | fn f c ih => intro m cs hx; cases m with
              | false =>
                obtain ⟨vs, e, hx⟩ := hx
                exact ⟨vs, e, ih true hx⟩
              | true => exact hx.elim
            | cons a b iha ihb => intro m cs hx; cases m with
              | true =>
                obtain ⟨v, r, e, h1, h2⟩ := hx
                exact ⟨v, r, e, h1.imp id fun ⟨cs, hx, hv⟩ => ⟨cs, iha false hx, hv⟩, ihb true h2⟩
              | false => exact hx.elim
            | _ => intro m cs hx; cases m <;> exact hx
          refine hn v w' (g'.sha k) ⟨fun b hb => by simp [G.sha, H.fresh b hb], fun j x hx => ?_⟩ ?_ ⟨st.os, st.tape, st.output, st.size, fun b hb h => ?_, fun b h => ?_, fun b j p h hj hm => ?_, fun j hj => st.at_ j hj⟩
          · rw [List.length_set]
            rw [List.getElem?_set] at hx
            split at hx
            · rename_i ek; subst ek
              split at hx
              · injection hx with hx; subst hx
                obtain ⟨hmi, hlen, hes, hpos, hr⟩ := H.blk k _ hb
                refine ⟨fun j hj => (by cases hj), hlen, hes, hpos, hr.imp id fun ⟨b, cur, ds, ha, ho, hh, h1, h2, h3, h4, hc⟩ => ⟨b, cur, ds, ha, hroot ho, hh, h1, h2, h3, h4, ?_⟩⟩
                exact hc.toR fun i x c r => OwR.rdS (fun b q hq hb => .inl (by simp [G.sha, hb, hq])) (by simp) r
              · cases hx
            · rename_i hne
              have hB := H.blk j x hx
              cases x with
              | dead => trivial
              | box a =>
                obtain ⟨h1, b, cs, e, ha, ho, hh, hx⟩ := hB
                exact ⟨h1, b, cs, e, ha, hroot ho, hh, hav a false hx⟩
              | row e2 m t xs =>
                obtain ⟨hmi, hlen, hes, hpos, hr⟩ := hB
                refine ⟨hmi, hlen, hes, hpos, hr.imp id fun ⟨b, cur, ds, ha, ho, hh, h1, h2, h3, h4, hc⟩ => ⟨b, cur, ds, ha, hroot ho, hh, h1, h2, h3, h4, ?_⟩⟩
                cases m with
                | deep =>
                  refine hc.mono fun i x c r => r.mono fun b q hb => ⟨?_, rfl⟩
                  have : ¬ (j = k ∧ q ++ [i] ≠ []) := fun hq => hne hq.1.symm
                  show (match g'.own b with | .lab j r => if j = k ∧ r ≠ [] then Tag.imm else .lab j r | t => t) = _
                  rw [hb]
                  exact if_neg this
                | sh ks => exact hc.mono fun x c r => r.mono fun b a => ⟨hal a, rfl⟩
          · rw [List.length_set]
            rw [hval] at hv
            obtain ⟨hk1, hv1⟩ := KH hv
            rw [hv1]
            exact B7 (cs := [_]) rfl ⟨hk1, rfl⟩ rfl
          · have := st.no b hb h
            exact ⟨by simp [G.sha, this.1], this.2⟩
          · have := st.imm b h
            exact ⟨by simp [G.sha, this.1], this.2⟩
          · have := st.lab b j p h hj hm
            have hne : ¬ (j = k ∧ p ≠ []) := fun hq => by have := hq.1; omega
            exact ⟨by simp only [G.sha, this.1, if_neg hne], this.2⟩
      · cases hf
    · cases hf
  · cases hf
theorem US {t : TypeId} {x : Operand} (ho : o.op = .load t x) {ti : TI} (ht : TOk P t ti) (hsl : ti.isSl = true) {k : Nat} {i : Int} {p : List Nat} {f e0 : Nat} (hx : σ.opd x = .ptr k i p f) {el : Nat} {tr : Ty} {xs : List tr.V} (hb : σ.blks[k]? = some (.row el .deep tr xs)) {v : AV} (hat : atP σ.blks k i p f = some v) (hsz : v.size = 1) : Snd P σ o ⟨.nst k i p f e0, σ.blks, []⟩ :=
  .of_qt <| Ku (s := fun ρ => Instr.loadAt t (ρ x)) (fun ρ => by simp [execOp, ho]) fun a w g hst => by
    have hxx := AH hst x
    rw [hx] at hxx
    obtain ⟨hk, h0, h1, b, hba, hpe⟩ := JP hxx
    obtain ⟨hmi, hlen, hes, hpos, hr⟩ := hst.heap.blk k _ hb
    obtain ⟨cs, hcx, hcell⟩ := Mj hst.heap hat h1 hba
    have hone : ti.ty.size = 1 ∧ ti.ty.isAgg = false := by
      unfold TI.isSl at hsl
      split at hsl
      · rename_i u hu; rw [hu]; exact ⟨rfl, rfl⟩
      · cases hsl
    have hl : cs.length = ti.ty.size := by rw [hcx.len, hsz, hone.1]
    obtain ⟨v1, hv1, hsv⟩ := L4 (w := w) ht hl hcell (fun hg => by rw [hl]; exact hone.1)
    rw [hone.2] at hsv
    have hcs : cs = [v1] := hsv
    subst hcs
    rcases hr with ⟨hx0, _⟩ | ⟨b', cur, ds, ha, hown, _⟩
    · rw [hlen, hx0] at h1; simp at h1
    · rw [hba] at ha; injection ha with ha; injection ha with ha; subst ha
      refine ⟨v1, by rw [hpe]; simp [Instr.loadAt, Instr.sureAddr, hv1], B7 (cs := [v1]) rfl ⟨hk, h0, h1, b, v1, hba, hown, rfl, hcx.one v1 (by simp), ?_⟩ rfl⟩
      have := hcell 0 v1 rfl
      simpa using this
theorem VC (he : EnvOk P en) (h : sldE en σ o = some e) : Snd P σ o e := by
  unfold sldE at h
  split at h
  · rename_i t len parts ho
    split at h
    · rename_i ti ht
      split at h
      · rename_i te hte
        split at h
        · rename_i hc
          injection h with h; subst h
          obtain ⟨hty, hsl, h0, hbig, hrg, hall⟩ := hc
          have hu := AT (he.t ht) hsl
          obtain ⟨ie, z, hie, hsz, _, hz, hzc, _⟩ := (he.t hte).info
          have hsz1 : ie.size = 1 := by rw [hsz, hty]; rfl
          have hpl : parts.toList.length = len := by
            have := congrArg List.length hrg
            simpa using this
          refine ⟨by simp, fun _ => ⟨_, rfl⟩, fun a w g hs next Q hn => ?_⟩
          have hargs : ∀ (ps : List (Nat × Operand)), ArgsR w g σ.blks.length (ps.map fun p => σ.opd p.2) (ps.map fun p => a.eval p.2) := by
            intro ps
            induction ps with
            | nil => trivial
            | cons p ps ih => exact ⟨AH hs p.2, ih⟩
          obtain ⟨hx, hone⟩ := Xa (l := parts.toList.map fun p => σ.opd p.2) (by
            intro b hb
            obtain ⟨p, hp, rfl⟩ := List.mem_map.1 hb
            have := List.all_eq_true.1 hall (p.1, σ.opd p.2) (List.mem_map.2 ⟨p, hp, rfl⟩)
            exact this) (hargs parts.toList)
          have hcells : ∃ l : List Value, (Array.range (len * ie.size)).map (z.cells[· % z.cells.size]!) = l.toArray ∧ l.length = len := by
            exact ⟨((Array.range (len * ie.size)).map (z.cells[· % z.cells.size]!)).toList, (Array.toArray_toList).symm, by simp [hsz1]⟩
          obtain ⟨l0, hl0, hl0n⟩ := hcells
          have hfill := O7 (parts.toList.map fun p => (p.1, a.eval p.2)) [] l0 (by simpa using hl0n.trans hpl.symm) (by
            have : parts.toList.map (·.1) = List.range len := by simpa [Function.comp_def] using hrg
            simp only [List.map_map, List.length_map, List.length_nil, hpl]
            rw [← List.range_eq_range']
            exact this) (by
            intro p hp
            obtain ⟨q, hq, rfl⟩ := List.mem_map.1 hp
            exact hone _ (List.mem_map.2 ⟨q, hq, rfl⟩))
          have hr : (execOp a.eval o).run P w = .ok (.value (.slice (some ⟨w.heap.size, 0, none⟩) len len)) (w.alloc (.cells (parts.toList.map fun p => a.eval p.2).toArray ti.elem)) := by
            have := run_buildSlice (P := P) w t ti.elem len (parts.map fun (i, x) => (i, a.eval x)) (parts.toList.map fun p => a.eval p.2).toArray ie z hu hie hz (by rw [hsz1]; omega) (by rw [hsz1]; omega) (by
              rw [hl0, hsz1]
              simpa [List.map_map, Function.comp_def] using hfill)
            simp [execOp, ho, this]
          unfold Oper.wp
          rw [hr]
          have st := Step.add hs.heap (.cells (parts.toList.map fun p => a.eval p.2).toArray ti.elem) ⟨some ⟨w.heap.size, 0, none⟩, 1, 1, 0⟩
          have hat : (g.add σ.blks.length w.heap.size ⟨some ⟨w.heap.size, 0, none⟩, 1, 1, 0⟩).at_ σ.blks.length = ⟨some ⟨w.heap.size, 0, none⟩, 1, 1, 0⟩ := by simp [G.add]
          refine hn _ _ (g.add σ.blks.length w.heap.size ⟨some ⟨w.heap.size, 0, none⟩, 1, 1, 0⟩) (hs.heap.new ?_) ?_ st
          · refine ⟨by rw [hat], w.heap.size, (parts.toList.map fun p => a.eval p.2).toArray, ti.elem, by rw [hat], by simp [G.add], heap_alloc_new w _, ?_⟩
            have hx' : AVX w g σ.blks.length false (prs ((parts.toList.map fun p => (p.1, σ.opd p.2)).map (·.2))) (parts.toList.map fun p => a.eval p.2) := by
              rw [List.map_map]; exact hx
            exact hx'.step0 st (Nat.le_succ _)
          · have := AbZ (w := w.alloc (.cells (parts.toList.map fun p => a.eval p.2).toArray ti.elem)) (g := g.add σ.blks.length w.heap.size ⟨some ⟨w.heap.size, 0, none⟩, 1, 1, 0⟩) (n := σ.blks.length + 1) (k := σ.blks.length) (l := len) (Nat.lt_succ_self _)
            rw [hat] at this
            simpa using this
        · cases h
      · cases h
    · cases h
  · cases h
theorem Wa (he : EnvOk P en) {v : AV} (h : arrO en σ o = some v) : Snd P σ o ⟨v, σ.blks, []⟩ := by
  unfold arrO at h
  split at h
  · rename_i t x ho
    split at h
    · cases h
    · rename_i d hd
      split at h
      · rename_i e ti k i p f _ ht hxp
        split at h
        · rename_i el tr xs v0 hb hat
          split at h
          · rename_i hc
            injection h with h; subst h
            exact US ho (he.t ht) hc.1 hxp hb hat hc.2
          · cases h
        · cases h
      · cases h
  · rename_i t parts ho
    split at h
    · rename_i ti ht
      split at h
      · cases h
      · rename_i hn
        split at h
        · rename_i te hte
          split at h
          · rename_i hty
            exact Ps ho (he.t ht) (he.t hte) hn hty h
          · cases h
        · cases h
    · cases h
  · rename_i t x i ho
    split at h
    · rename_i ti ht
      split at h
      · cases h
      · rename_i hn
        split at h
        · rename_i te hte
          split at h
          · rename_i ks kk j hi
            split at h
            · rename_i hj
              split at h
              · rename_i v' hv
                split at h
                · rename_i hsz
                  injection h with h; subst h
                  exact Pq ho (he.t ht) (he.t hte) hn hi hj hv hsz
                · cases h
              · cases h
            · cases h
          · cases h
        · cases h
    · cases h
  · rename_i c ho
    split at h
    · rename_i k n t r hc hx hts
      split at h
      · rename_i ti ht
        split at h
        · rename_i hs
          injection h with h; subst h
          exact Sl ho hc hx hts (he.t ht) hs
        · cases h
      · cases h
    · cases h
  · rename_i t x i ho
    split at h
    · rename_i ti ht
      split at h
      · split at h
        · rename_i te k n ks kk j hte hx hi
          split at h
          · rename_i hc
            split at h
            · rename_i b hb
              injection h with h; subst h
              exact Sh ho (he.t ht) (he.t hte) hc.1 hc.2.1 hx hi hc.2.2.1 hc.2.2.2 hb
            · cases h
          · cases h
        · cases h
      · rename_i hn
        split at h
        · rename_i te hte
          split at h
          · rename_i ks kk j hi
            split at h
            · rename_i hj
              exact L1 ho (he.t ht) (he.t hte) hn hi hj.1 hj.2 h
            · cases h
          · cases h
        · cases h
    · cases h
  · cases h
theorem Kb (he : EnvOk P en) (h : exec en σ o some = some e) : Snd P σ o e := by
  unfold exec at h
  split at h
  · rename_i v hv
    injection h with h; subst h
    exact Wa he hv
  split at h
  · rename_i e' hv
    injection h with h; subst h
    exact VC he hv
  split at h
  · cases hd : dstSh en o with
    | false => rw [hd] at h; exact Mo he h
    | true =>
      rw [hd] at h
      simp only [cond_true] at h
      rw [G0 en he.nat] at h
      cases hx : execP en σ o some with
      | none => rw [hx] at h; cases h
      | some e0 =>
        rw [hx] at h
        simp only [Option.bind_some] at h
        split at h
        · rename_i e' hf
          injection h with h; subst h
          exact TX (Mo he hx) hf
        · cases h
  · rename_i t _
    rw [G0 en he.nat] at h
    cases hx : execP en σ o some with
    | none => rw [hx] at h; cases h
    | some e0 =>
      rw [hx] at h
      simp only [Option.bind_some] at h
      split at h
      · rename_i e' hf
        injection h with h; subst h
        exact Vh (Mo he hx) hf
      · cases h
end
end Go.Va
namespace Go.Va
def StepC (m : Nat) (w : World) (g : G) (w' : World) (g' : G) : Prop := Step (List.range m) m w g w' g'
theorem StepC.refl (m : Nat) (w : World) (g : G) : StepC m w g w g := Step.refl _ _ _ _
theorem Step.toC {mods : List Nat} {n m : Nat} {w w' : World} {g g' : G} (s : Step mods n w g w' g') (h : m ≤ n) : StepC m w g w' g' :=
  ⟨s.os, s.tape, s.output, s.size, s.no, s.imm, fun _ k _ _ hk hm => (hm (List.mem_range.2 hk)).elim, fun k hk => s.at_ k (Nat.lt_of_lt_of_le hk h)⟩
theorem StepC.trans {m : Nat} {w w1 w2 : World} {g g1 g2 : G} (s : StepC m w g w1 g1) (t : StepC m w1 g1 w2 g2) : StepC m w g w2 g2 := by
  have h := Step.trans s t (Nat.le_refl _)
  exact ⟨h.os, h.tape, h.output, h.size, h.no, h.imm, fun _ k _ _ hk hm => (hm (List.mem_range.2 hk)).elim, h.at_⟩
theorem VD {l : List AV} {d : Nat} {x : AV} (h : l[d]? = some x) : l.set d x = l := by
  apply List.ext_getElem?
  intro i
  rw [List.getElem?_set]
  split
  · rename_i he; subst he
    split
    · exact h.symm
    · rename_i hl; rw [List.getElem?_eq_none (Nat.le_of_not_lt hl)]
  · rfl
inductive Want (all : List Oper) (σ : St) (o : Oper) : Bool → Prop where
  | plain (h : o.guard = none) : Want all σ o true
  | guard {g : Nat} {want : Bool} {d : Nat} {b : Bool} (h : o.guard = some (g, want)) (hd : (all[g]?).bind (·.dst) = some d) (hb : σ.slots[d]? = some (.bool b)) : Want all σ o (b == want)
  | nil {g : Nat} {want : Bool} {d : Nat} (h : o.guard = some (g, want)) (hd : (all[g]?).bind (·.dst) = some d) (hb : σ.slots[d]? = some .nil) : Want all σ o false
theorem Kg {R : Type} {all : List Oper} {σ : St} {o : Oper} {Kt Kf : St → Option R} {r : R} (h : guardA all σ o Kt Kf = some r) : (Want all σ o true ∧ Kt σ = some r) ∨ (Want all σ o false ∧ Kf σ = some r) := by
  unfold guardA at h
  split at h
  · rename_i hg; exact .inl ⟨.plain hg, h⟩
  · rename_i g want hg
    split at h
    · cases h
    · rename_i d hd
      split at h
      · rename_i b hb
        have e : ({ σ with slots := σ.slots.set d (.bool b) } : St) = σ := by
          have := VD hb
          cases σ; simp only at this ⊢; rw [this]
        cases b
        · simp only [cond_false] at h
          rw [e] at h
          split at h
          · rename_i hw; subst hw; exact .inr ⟨.guard hg hd hb, h⟩
          · rename_i hw
            have : want = false := by simpa using hw
            subst this; exact .inl ⟨.guard hg hd hb, h⟩
        · simp only [cond_true] at h
          rw [e] at h
          split at h
          · rename_i hw; subst hw; exact .inl ⟨.guard hg hd hb, h⟩
          · rename_i hw
            have : want = false := by simpa using hw
            subst this; exact .inr ⟨.guard hg hd hb, h⟩
      · rename_i hb
        exact .inr ⟨.nil hg hd hb, h⟩
      · cases h
theorem M7 {R : Type} {all : List Oper} {σ : St} {o : Oper} {T : Type} {Kt Kf : St → Option R} {Kt' Kf' : St → Option T} {K : T → Option R} (h1 : ∀ σ, Kt σ = (Kt' σ).bind K) (h2 : ∀ σ, Kf σ = (Kf' σ).bind K) : guardA all σ o Kt Kf = (guardA all σ o Kt' Kf').bind K := by
  unfold guardA
  split
  · exact h1 _
  · split
    · rfl
    · split
      · rename_i b _
        cases b <;> simp only [cond_true, cond_false] <;> split <;> first | exact h1 _ | exact h2 _
      · exact h2 _
      · rfl
section
variable {P : Program} {en : Env} {R : Type}
theorem Rg (he : ENat en) (σ : St) (o : Oper) {T : Type} {K : Eff → Option R} {K' : Eff → Option T} {k : T → Option R} (h : ∀ e, K e = (K' e).bind k) : exec en σ o K = (exec en σ o K').bind k := by
  rw [KO en he σ o K, KO en he σ o K']
  cases exec en σ o some with
  | none => rfl
  | some e => exact h e
theorem J0 (he : ENat en) (all : List Oper) : ∀ (is : List Nat) (σ : St) (K : St → Option R), evOps en all is σ K = (evOps en all is σ some).bind K
  | [], _, _ => rfl
  | i :: is, σ, K => by
    simp only [evOps]
    split
    · rfl
    · refine M7 (fun σ => ?_) fun σ => J0 he all is _ K
      exact Rg he σ _ fun e => J0 he all is _ K
theorem JR (he : ENat en) (all : List Oper) (A : List (Nat × List Nat)) : ∀ (is done aff : List Nat) (σ : St) (K : St → Option R), evAny en all A is done aff σ K = (evAny en all A is done aff σ some).bind K
  | [], _, _, _, _ => rfl
  | i :: is, done, aff, σ, K => by
    simp only [evAny]
    split
    · rfl
    · split
      · refine M7 (fun σ => ?_) fun σ => JR he all A is _ _ _ K
        refine Rg he σ _ fun e => ?_
        split
        · exact JR he all A is _ _ _ K
        · split
          · exact JR he all A is _ _ _ K
          · rfl
      · rfl
theorem Ta {w : World} {g : G} {σ : St} {a : Act} (hs : StR w g σ a) {d : Nat} {b : Bool} (h : σ.slots[d]? = some (.bool b)) : a.tmps[d]? = some (.bool b) := by
  have h1 := Jr (hs.slots d _ h)
  have hl : d < a.tmps.size := by rw [← hs.len]; exact AE h
  rw [Array.getElem?_eq_getElem hl]
  rw [Array.getD_eq_getD_getElem?, Array.getElem?_eq_getElem hl] at h1
  exact congrArg some h1
theorem Wr {w : World} {g : G} {σ : St} {a : Act} (hs : StR w g σ a) {d : Nat} (h : σ.slots[d]? = some .nil) : a.tmps[d]? = some (.tuple #[]) := by
  have h1 : a.tmps.getD d undef = .tuple #[] := hs.slots d _ h
  have hl : d < a.tmps.size := by rw [← hs.len]; exact AE h
  rw [Array.getElem?_eq_getElem hl]
  rw [Array.getD_eq_getD_getElem?, Array.getElem?_eq_getElem hl] at h1
  exact congrArg some h1
theorem IU {w : World} {g : G} {σ : St} {a : Act} {ops : Array Oper} {o : Oper} {t : Bool} (hs : StR w g σ a) (h : Want ops.toList σ o t) : Region.wanted o (yielded ops a.tmps) = t := by
  cases h with
  | plain h => simp [Region.wanted, h]
  | guard h hd hb =>
    have h1 := Ta hs hb
    rw [Array.getElem?_toList] at hd
    simp [Region.wanted, h, yielded, hd, h1]
  | nil h hd hb =>
    have h1 := Wr hs hb
    rw [Array.getElem?_toList] at hd
    simp [Region.wanted, h, yielded, hd, h1]
theorem StR.skip {w : World} {g : G} {σ : St} {a : Act} (h : StR w g σ a) (d : Option Nat) : StR w g (σ.skip d) (a.put d undef) where
  heap := h.heap
  len := by simp only [St.skip, Md, KX]; exact h.len
  slots := OI h.len h.slots (show AVR w g _ .nil undef from rfl)
theorem put_defers (a : Act) (d : Option Tmp) (v : Value) : (a.put d v).defers = a.defers := by cases d <;> rfl
theorem L5 (he : EnvOk P en) {ops : Array Oper} {m : Nat} {Q : Exit → Act → World → Prop} : ∀ (is : List Nat) (σ σ' : St), evOps en ops.toList is σ some = some σ' → m ≤ σ.blks.length → m ≤ σ'.blks.length ∧ ∀ (a : Act) (w : World) (g : G), StR w g σ a →
    (∀ a' w' g', StR w' g' σ' a' → StepC m w g w' g' → a'.defers = a.defers → Q .normal a' w') → wpOps P ops Q is a w
  | [], σ, σ', h, hm => by
    simp only [evOps, Option.some.injEq] at h; subst h
    exact ⟨hm, fun a w g hs hq => hq a w g hs (StepC.refl _ _ _) rfl⟩
  | i :: is, σ, σ', h, hm => by
    simp only [evOps] at h
    split at h
    · cases h
    · rename_i o ho
      have ho' : ops[i]? = some o := by rw [← Array.getElem?_toList]; exact ho
      rcases Kg h with ⟨hw, h⟩ | ⟨hw, h⟩
      · rw [KO en he.nat] at h
        cases hx : exec en σ o some with
        | none => rw [hx] at h; cases h
        | some e =>
          rw [hx] at h
          have hsnd := Kb he hx
          have hgrow := hsnd.grow
          obtain ⟨hm', ih⟩ := L5 he (Q := Q) is _ _ h (Nat.le_trans hm hgrow)
          refine ⟨hm', fun a w g hs hq => ?_⟩
          simp only [wpOps, ho']
          rw [if_pos (IU hs hw)]
          refine .inl (hsnd.wp a w g hs _ Q fun v w' g' hH hv hst => ?_)
          exact ih _ _ _ (hs.after hgrow hH hv hst) fun a'' w'' g'' hs'' hst'' hd => hq a'' w'' g'' hs'' ((hst.toC hm).trans hst'') (by rw [hd, put_defers])
      · obtain ⟨hm', ih⟩ := L5 he (Q := Q) is _ _ h hm
        refine ⟨hm', fun a w g hs hq => ?_⟩
        simp only [wpOps, ho']
        rw [IU hs hw]
        simp only [Bool.false_eq_true, if_false]
        exact ih _ _ _ (hs.skip o.dst) fun a'' w'' g'' hs'' hst'' hd => hq a'' w'' g'' hs'' hst'' (by rw [hd, put_defers])
end
end Go.Va
