import Derived.Deep.AppendSrc
import Derived.Test.YtgdiapoacpahdaaGreatK2
set_option linter.unusedVariables false
set_option linter.unusedSimpArgs false
namespace Go.Va
section
variable {P : Program} {w : World} {g : G} {bs : List Blk}
theorem VN (w : World) (t tx ty e : TypeId) (i : TypeInfo) (ht : P.underlying t = some (.slice e)) (hi : P.info? e = some i)
    (b sLen sCap : Nat) (cur : Array Value) (hg : w.heap[b]? = some (.cells cur e (0, 0))) (x : Value) (n : Nat) (news : List Value) (hs : Src P i.size tx x n news w) (hroom : sLen + n ≤ sCap) (hfit : sLen * i.size + news.length ≤ cur.size) :
    (Builtin.append_ #[t, tx] ty #[.slice (some ⟨b, 0, none⟩) sLen sCap, x]).run P w =
      .ok (.slice (some ⟨b, 0, none⟩) (sLen + n) sCap) (w.setRow b (cur.toList.take (sLen * i.size) ++ news ++ cur.toList.drop (sLen * i.size + news.length)).toArray) := by
  have hst := run_storeCells_at P b (sLen * i.size) e news 0 cur w hg (by simpa using hfit) hs.one
  simp only [Nat.add_zero] at hst
  rcases hs.kind with ⟨e', hk⟩ | hk <;> simp [Builtin.append_, run_underlying ht, run_underlying hk, sizeOf, typeInfo, hi, hs.len, hroom, hs.cells, Addr.add_lit, hst]
theorem VM (w : World) (t tx ty e : TypeId) (i : TypeInfo) (ht : P.underlying t = some (.slice e)) (hi : P.info? e = some i) (ad : Option Addr) (x : Value) (news : List Value) (hs : Src P i.size tx x 0 news w) :
    (Builtin.append_ #[t, tx] ty #[.slice ad 0 0, x]).run P w = .ok (.slice ad 0 0) w := by
  have hn : news = [] := by
    have := hs.newsLen
    simpa using this
  subst hn
  cases ad <;> rcases hs.kind with ⟨e', hk⟩ | hk <;> simp [Builtin.append_, run_underlying ht, run_underlying hk, sizeOf, typeInfo, hi, hs.len, hs.cells, storeCells]
theorem Sq (w : World) (t tx ty e : TypeId) (i : TypeInfo) (z : Value) (ht : P.underlying t = some (.slice e)) (hi : P.info? e = some i) (hz : i.zero = some z) (hzs : z.cells.size = i.size) (hpos : 0 < i.size)
    {Pw : Nat → Prop} {ad : Option Addr} {len cap : Nat} {ds : List Value} (hold : (len = 0 ∧ cap = 0 ∧ ds = []) ∨ ∃ b cur, ad = some ⟨b, 0, none⟩ ∧ Pw b ∧ w.heap[b]? = some (.cells cur e (0, 0)) ∧ len ≤ cap ∧ cap ≤ maxLen ∧ cur.size = cap * i.size ∧ cur.toList.take (len * i.size) = ds)
    {x : Value} {n : Nat} {news : List Value} (hs : Src P i.size tx x n news w) (hby : i.bytes ≠ 0) (hfit : (len + n) * i.bytes ≤ 140737488355328) :
    ∃ ad' cap' w', (Builtin.append_ #[t, tx] ty #[.slice ad len cap, x]).run P w = .ok (.slice ad' (len + n) cap') w' ∧ w'.os = w.os ∧ w'.tape = w.tape ∧ w'.output = w.output ∧ w.heap.size ≤ w'.heap.size ∧
      ((len + n = 0 ∧ cap' = 0 ∧ w' = w) ∨ ∃ b' cur', ad' = some ⟨b', 0, none⟩ ∧ w'.heap[b']? = some (.cells cur' e (0, 0)) ∧ len + n ≤ cap' ∧ cap' ≤ maxLen ∧ cur'.size = cap' * i.size ∧ cur'.toList.take ((len + n) * i.size) = ds ++ news ∧
        ((∃ cur, ad = some ⟨b', 0, none⟩ ∧ Pw b' ∧ w.heap[b']? = some (.cells cur e (0, 0)) ∧ w' = w.setRow b' cur') ∨ (b' = w.heap.size ∧ b' < w'.heap.size ∧ ∀ q, q < w.heap.size → w'.heap[q]? = w.heap[q]?))) := by
  have hmax : len + n ≤ 140737488355328 := Nat.le_trans (Nat.le_mul_of_pos_right _ (Nat.pos_of_ne_zero hby)) hfit
  have h63 : ((len + n : Nat) : Int) ≤ 9223372036854775807 := by omega
  have hml : len + n ≤ maxLen := by simp only [maxLen]; omega
  have hdl : ds.length = len * i.size := by
    rcases hold with ⟨h1, h2, h3⟩ | ⟨b, cur, h1, _, h2, h3, h4, h5, h6⟩
    · subst h1; subst h3; simp
    · rw [← h6, List.length_take, Array.length_toList, h5]
      exact Nat.min_eq_left (Nat.mul_le_mul_right _ h3)
  by_cases hroom : len + n ≤ cap
  · rcases hold with ⟨rfl, rfl, rfl⟩ | ⟨b, cur, rfl, hpw, hb, h3, h4, h5, h6⟩
    · obtain rfl : n = 0 := by omega
      exact ⟨ad, 0, w, VM w t tx ty e i ht hi ad x news hs, rfl, rfl, rfl, Nat.le_refl _, .inl ⟨rfl, rfl, rfl⟩⟩
    · have hle : len * i.size + news.length ≤ cur.size := by
        rw [hs.newsLen, h5, ← Nat.add_mul]
        exact Nat.mul_le_mul_right _ hroom
      refine ⟨_, cap, _, VN w t tx ty e i ht hi b len cap cur hb x n news hs hroom hle, rfl, rfl, rfl, by simp, .inr ⟨b, _, rfl, setRow_heap w b cur _ e (0, 0) hb, hroom, h4, ?_, ?_, .inl ⟨cur, rfl, hpw, hb, rfl⟩⟩⟩
      · simp only [List.size_toArray, List.length_append, List.length_take, List.length_drop, Array.length_toList]
        omega
      · rw [List.toList_toArray, h6]
        have : (len + n) * i.size = (ds ++ news).length := by rw [List.length_append, hdl, hs.newsLen, Nat.add_mul]
        rw [this, List.take_left]
  · have hgt : cap < len + n := by omega
    have holds : (Builtin.firstCells i.size len (.slice ad len cap)).run P w.drew = .ok ds.toArray w.drew := by
      rcases hold with ⟨rfl, rfl, rfl⟩ | ⟨b, cur, rfl, hpw, hb, h3, h4, h5, h6⟩
      · cases ad with
        | none => exact run_firstCells_none w.drew i.size 0 0 0
        | some a => exact run_firstCells_some w.drew i.size 0 a 0 0 [] (by simp) (by simp)
      · refine run_firstCells_some w.drew i.size len _ len cap ds hdl fun j u hu => ?_
        rw [addN, Nat.zero_add]
        show w.cell? ⟨b, j, none⟩ = some u
        rw [Ky hb, ← Array.getElem?_toList]
        rw [← h6, List.getElem?_take] at hu
        split at hu
        · exact hu
        · cases hu
    have hr := run_append_grow_src (P := P) w t tx ty e i z ht hi hz ad len cap ds holds x n news hs hgt h63 (growslice_fits hgt hfit)
    refine ⟨_, _, _, hr, rfl, rfl, rfl, by simp, .inr ⟨w.heap.size, _, rfl, heap_alloc_new w.drew _, grownCap_ge w _ cap e, grownCap_le_maxLen w _ cap e hml, ?_, ?_, .inr ⟨rfl, by simp, fun q hq => heap_alloc_old w.drew _ q hq⟩⟩⟩
    · have hge := grownCap_ge w (len + n) cap e
      simp only [Array.size_append, List.size_toArray, List.length_append, size_zeroCells, hzs, hdl, hs.newsLen, ← Nat.add_mul]
      congr 1
      omega
    · have : (len + n) * i.size = (ds ++ news).length := by rw [List.length_append, hdl, hs.newsLen, Nat.add_mul]
      rw [this, Array.toList_append, List.toList_toArray, List.take_left]
end
end Go.Va
namespace Go.Va
def SrcEl (w : World) (g : G) (t : Ty) (m : RM) (rs : List Nat) (i : Nat) (x : t.V) (c : List Value) : Prop :=
  (t.flat = true ∧ c = flatC t x) ∨ (∃ ks, m = .sh ks ∧ RdR w (Al g.own ks) t x c) ∨ ∃ j, rs = [j] ∧ ElR w g.own j m t i x c
theorem SrcEl.len {w : World} {g : G} {t : Ty} {m : RM} {rs : List Nat} {i : Nat} {x : t.V} {c : List Value} (h : SrcEl w g t m rs i x c) : c.length = t.size := by
  rcases h with ⟨hf, rfl⟩ | ⟨ks, _, h⟩ | ⟨j, _, h⟩
  · exact RdR.len (w := default) (A := fun _ => True) ((RdR.flat hf).2 rfl)
  · exact h.len
  · exact h.len
theorem SrcEl.one {w : World} {g : G} {t : Ty} {m : RM} {rs : List Nat} {i : Nat} {x : t.V} {c : List Value} (h : SrcEl w g t m rs i x c) : ∀ v ∈ c, v.oneCell' = true := by
  rcases h with ⟨hf, rfl⟩ | ⟨ks, _, h⟩ | ⟨j, _, h⟩
  · exact RdR.one (w := default) (A := fun _ => True) ((RdR.flat hf).2 rfl)
  · exact h.one
  · cases m with
    | deep => exact OwR.one h
    | sh ks => exact RdR.one h
theorem ElR.flat {w : World} {own : Nat → Tag} {k : Nat} {m : RM} {t : Ty} {i : Nat} {x : t.V} {c : List Value} (hf : t.flat = true) : ElR w own k m t i x c ↔ c = flatC t x := by
  cases m with
  | deep => exact OwR.flat hf
  | sh ks => exact RdR.flat hf
section
variable {P : Program} {w : World} {g : G} {bs : List Blk}
theorem VJ {ds : List Value} {b : Nat} {cur : Array Value} {el : TypeId} {fr : Nat × Nat} {n : Nat} (hh : w.heap[b]? = some (.cells cur el fr)) (h4 : cur.toList.take n = ds) : ∀ j u, ds[j]? = some u → w.cell? ((⟨b, 0, none⟩ : Addr).add j) = some u := by
  intro j u hu
  rw [addN, Nat.zero_add, Ky hh, ← Array.getElem?_toList]
  subst h4
  rw [List.getElem?_take] at hu
  split at hu
  · exact hu
  · cases hu
theorem AdH {size : Nat} {tx e' : TypeId} (hk : P.underlying tx = some (.slice e')) (ad : Option Addr) (c : Nat) : Src P size tx (.slice ad 0 c) 0 [] w := by
  cases ad with
  | none => exact Src.ofNil w hk c
  | some a => exact Src.ofSlice w hk a 0 c [] (by simp) (by simp) (by simp)
theorem ZO (H : Heap w g bs) {t : Ty} {y : AV} {ys : List t.V} {m : RM} {rs : List Nat} (h : srcA bs t y = some (ys, m, rs)) {v : Value} (hv : AVR w g bs.length y v) {tx : TypeId} {tix : TI} (htx : TOk P tx tix) (hk : (tix.isSl || tix.ty == .str) = true) :
    ∃ news, Src P t.size tx v ys.length news w ∧ ListI (SrcEl w g t m rs) 0 ys news ∧ (∀ j ∈ m.ids, j < bs.length) ∧ (∀ j ∈ rs, j < bs.length) ∧ (rs = [] ∨ ∃ j, rs = [j]) := by
  have hkind : (∃ e', P.underlying tx = some (.slice e')) ∨ P.underlying tx = some .string := by
    rw [Bool.or_eq_true] at hk
    rcases hk with hk | hk
    · exact .inl ⟨_, AT htx hk⟩
    · exact .inr (JV htx (by simpa using hk))
  have nilS : ∀ (ad : Option Addr) (c : Nat), Src P t.size tx (.slice ad 0 c) 0 [] w := fun ad c =>
    ⟨hkind, fun _ => rfl, by
      cases ad with
      | none => exact run_firstCells_none w t.size 0 0 c
      | some a => exact run_firstCells_some w t.size 0 a 0 c [] (by simp) (by simp), by
      cases ad with
      | none => exact run_firstCells_none w.drew t.size 0 0 c
      | some a => exact run_firstCells_some w.drew t.size 0 a 0 c [] (by simp) (by simp), by simp, fun _ h => by cases h⟩
  have sliceS : ∀ (a : Addr) (n c : Nat) (news : List Value), news.length = n * t.size → (∀ j u, news[j]? = some u → w.cell? (a.add j) = some u) → (∀ u ∈ news, u.oneCell' = true) → Src P t.size tx (.slice (some a) n c) n news w := fun a n c news hl hn h1 =>
    ⟨hkind, fun _ => rfl, run_firstCells_some w t.size n a n c news hl hn, run_firstCells_some w.drew t.size n a n c news hl (by simpa using hn), hl, h1⟩
  unfold srcA at h
  split at h
  · simp only [Option.some.injEq, Prod.mk.injEq] at h
    obtain ⟨rfl, rfl, rfl⟩ := h
    obtain ⟨ad, rfl⟩ := O5 hv
    exact ⟨[], nilS ad 0, rfl, fun j hj => by (cases hj), fun j hj => by (cases hj), .inl rfl⟩
  · rename_i ks u xs
    split at h
    · rename_i l hl
      obtain ⟨e', he⟩ := AW hl
      injection e' with e'; subst e'; simp only at he; subst he
      simp only [Option.some.injEq, Prod.mk.injEq] at h
      obtain ⟨rfl, rfl, rfl⟩ := h
      obtain ⟨hks, ad, cap, ds, rfl, hcap, hr, hm⟩ := M6 hv
      have hEl : ListI (SrcEl w g u (if u.flat = true then RM.deep else RM.sh ks) []) 0 xs ds := by
        refine hr.toI fun i x c h => ?_
        cases hf : u.flat with
        | true => exact .inl ⟨hf, (RdR.flat hf).1 h⟩
        | false => exact .inr (.inl ⟨ks, by simp, h⟩)
      refine ⟨ds, ?_, hEl, fun j hj => ?_, fun j hj => by (cases hj), .inl rfl⟩
      · rcases hm with rfl | ⟨b, off, rfl, _, hc⟩
        · cases hr; exact nilS ad cap
        · exact sliceS _ _ _ _ (ListR.len (fun x c h => RdR.len h) hr) (fun j u hu => by rw [addN]; exact hc j u hu) (ListR.all (fun x c h => RdR.one h) hr)
      · cases hf : u.flat with
        | true => rw [hf] at hj; cases hj
        | false => rw [hf] at hj; exact hks j hj
    · cases h
  · rename_i ks s
    split at h
    · rename_i l hl
      obtain ⟨e', he⟩ := AW hl
      injection e' with e'; subst e'; simp only at he; subst he
      simp only [Option.some.injEq, Prod.mk.injEq] at h
      obtain ⟨rfl, rfl, rfl⟩ := h
      obtain rfl := K6 hv
      refine ⟨byteCells s, ?_, ?_, fun j hj => by (cases hj), fun j hj => by (cases hj), .inl rfl⟩
      · have e1 : (s.data.toList.map fun b => (b.toNat : Int)).length = s.size := by rw [List.length_map, Array.length_toList]; rfl
        rw [e1]
        exact ⟨hkind, fun _ => rfl, firstCells_string s w, firstCells_string s w.drew, by rw [byteCells_length]; exact (Nat.mul_one _).symm, fun u hu => by
          obtain ⟨_, _, rfl⟩ := List.mem_map.1 hu
          rfl⟩
      · have : ∀ (l : List UInt8) (i : Nat), ListI (SrcEl w g (.int .u8) .deep []) i (l.map fun b => (b.toNat : Int)) (l.map fun b => Value.int .u8 b.toNat) := by
          intro l
          induction l with
          | nil => exact fun _ => rfl
          | cons b l ih => exact fun i => ⟨[_], _, rfl, .inl ⟨rfl, rfl⟩, ih (i + 1)⟩
        exact this _ 0
    · cases h
  · rename_i j
    split at h
    · rename_i el m1 u xs hb
      split at h
      · rename_i l hl
        obtain ⟨e', he⟩ := AW hl
        injection e' with e'; subst e'; simp only at he; subst he
        simp only [Option.some.injEq, Prod.mk.injEq] at h
        obtain ⟨rfl, rfl, rfl⟩ := h
        obtain ⟨hj, rfl⟩ := KH hv
        obtain ⟨hmi, hlen, hes, hpos, hr⟩ := H.blk j _ hb
        rw [hlen]
        have hids : ∀ j' ∈ (if u.flat = true then RM.deep else m1).ids, j' < bs.length := fun j' hj' => by
          split at hj'
          · cases hj'
          · exact hmi j' hj'
        have hrs : ∀ j' ∈ (if u.flat = true then [] else [j]), j' < bs.length := fun j' hj' => by
          split at hj'
          · cases hj'
          · simp at hj'; subst hj'; exact hj
        have hsh : (if u.flat = true then [] else [j]) = [] ∨ ∃ j', (if u.flat = true then [] else [j]) = [j'] := by
          cases u.flat with
          | true => exact .inl rfl
          | false => exact .inr ⟨j, rfl⟩
        rcases hr with ⟨rfl, hc0⟩ | ⟨b, cur, ds, ha, hown, ⟨elq, _, hh⟩, h1, h2, h3, h4, hcon⟩
        · rw [hc0]
          exact ⟨[], nilS _ 0, rfl, hids, hrs, hsh⟩
        · rw [ha]
          have hEl : ListI (SrcEl w g u (if u.flat = true then RM.deep else m1) (if u.flat = true then [] else [j])) 0 xs ds := by
            refine (HW.1 hcon).mono fun i x c h => ?_
            cases hf : u.flat with
            | true => exact .inl ⟨hf, (ElR.flat hf).1 h⟩
            | false => exact .inr (.inr ⟨j, by simp, by simpa using h⟩)
          exact ⟨ds, sliceS _ _ _ _ (ListI.len (fun i x c h => h.len) hEl) (VJ hh h4) (ListI.all (fun i x c h => h.one) hEl), hEl, hids, hrs, hsh⟩
      · cases h
    · cases h
  · cases h
def shiftL (off : Nat) : List Nat → List Nat
  | [] => []
  | [i] => [off + i]
  | a :: b :: r => a :: shiftL off (b :: r)
theorem MW (off i : Nat) : ∀ (q : List Nat), shiftL off (q ++ [i]) = q ++ [off + i]
  | [] => rfl
  | [a] => rfl
  | a :: b :: q => by
    have := MW off i (b :: q)
    simp only [List.cons_append] at this ⊢
    simp only [shiftL, this]
def appF (kk : Option Nat) (n off : Nat) (m : RM) (rs : List Nat) (j : Nat) (r : List Nat) : Tag :=
  if kk = some j then .lab n r else if j ∈ rs then (match m with | .deep => .lab n (shiftL off r) | .sh _ => .imm) else .lab j r
theorem Nn {m m2 m' : RM} (h : joinM m m2 = some m') : (∀ j, j ∈ m'.ids ↔ j ∈ m.ids ∨ j ∈ m2.ids) ∧ (m = .deep ↔ m' = .deep) ∧ (m' = .deep → m2 = .deep) := by
  cases m <;> cases m2 <;> simp only [joinM, Option.some.injEq, reduceCtorEq] at h <;> subst h <;> simp [RM.ids]
end
section
variable {P : Program} {σ : St} {o : Oper} {en : Env} {e : Eff}
theorem LY {w : World} {g : G} {bs : List Blk} (H : Heap w g bs) {t tx ty : TypeId} {ti te tix : TI} (ht : TOk P t ti) (hte : TOk P ti.elem te) (hsl : ti.isSl = true) (htx : TOk P tx tix) (hkx : (tix.isSl || tix.ty == .str) = true) (hrow : te.ty.row = true) (hby : te.bytes ≠ 0)
    {kk : Option Nat} {m m2 m' : RM} {xs ys : List te.ty.V} {rs : List Nat} {y : AV} (hsrc : srcA bs te.ty y = some (ys, m2, rs)) {ad : Option Addr} {cap : Nat}
    (hold : (xs = [] ∧ cap = 0) ∨ ∃ k b cur ds, kk = some k ∧ ad = some ⟨b, 0, none⟩ ∧ g.own b = .lab k [] ∧ w.heap[b]? = some (.cells cur ti.elem (0, 0)) ∧ xs.length ≤ cap ∧ cap ≤ maxLen ∧ cur.size = cap * te.ty.size ∧ cur.toList.take (xs.length * te.ty.size) = ds ∧ RowC w g.own k m te.ty xs ds)
    (hkk : ∀ k, kk = some k → k ∉ rs ∧ k ∉ m'.ids ∧ k < bs.length) (hids : ∀ j ∈ m.ids, j ∈ m'.ids ∧ j < bs.length) (hdp : xs ≠ [] → (m = .deep ↔ m' = .deep)) (hj : (∀ j ∈ m2.ids, j ∈ m'.ids) ∧ (m' = .deep → m2 = .deep)) (hm'n : ∀ j ∈ m'.ids, j < bs.length) (hoff : ∀ j ∈ m'.ids, j ∉ rs)
    (hfit : (xs.length + ys.length) * te.bytes ≤ 140737488355328) {v : Value} (hv : AVR w g bs.length y v) {bs0 : List Blk} (hbs0 : bs0.length = bs.length) (hget : ∀ (j : Nat) (x : Blk), bs0[j]? = some x → x = .dead ∨ (j ∉ kk.toList ++ rs ∧ ∃ y, bs[j]? = some y ∧ x = y.drop fun i => (kk.toList ++ rs).contains i)) :
    ∃ r w' g', (Builtin.append_ #[t, tx] ty #[.slice ad xs.length cap, v]).run P w = .ok r w' ∧ Heap w' g' (bs0 ++ [.row ti.elem m' te.ty (xs ++ ys)]) ∧ AVR w' g' (bs.length + 1) (.ref bs.length) r ∧ Step (kk.toList ++ rs) bs.length w g w' g' := by
  obtain ⟨hdata, hpos⟩ := QS hrow
  obtain ⟨i, z, hi, hsz, hbi, hz, hzc, _⟩ := hte.info
  obtain ⟨news, hs, hel, hm2, hrsn, hrs1⟩ := ZO H hsrc hv htx hkx
  have hu := AT ht hsl
  have hzs : z.cells.size = i.size := by rw [← Array.length_toList, hzc, KC, hsz]
  let n := bs.length
  let f := appF kk n xs.length m' rs
  obtain ⟨ds, hold1, hold2⟩ : ∃ ds, ((xs.length = 0 ∧ cap = 0 ∧ ds = []) ∨ ∃ b cur, ad = some ⟨b, 0, none⟩ ∧ (∃ k, kk = some k ∧ g.own b = .lab k []) ∧ w.heap[b]? = some (.cells cur ti.elem (0, 0)) ∧ xs.length ≤ cap ∧ cap ≤ maxLen ∧ cur.size = cap * i.size ∧ cur.toList.take (xs.length * i.size) = ds) ∧
      ((xs = [] ∧ ds = []) ∨ ∃ k, kk = some k ∧ RowC w g.own k m te.ty xs ds) := by
    rcases hold with ⟨rfl, rfl⟩ | ⟨k, b, cur, ds, h1, h2, h3, h4, h5, h6, h7, h8, h9⟩
    · exact ⟨[], .inl ⟨rfl, rfl, rfl⟩, .inl ⟨rfl, rfl⟩⟩
    · exact ⟨ds, .inr ⟨b, cur, h2, ⟨k, h1, h3⟩, h4, h5, h6, by rw [hsz]; exact h7, by rw [hsz]; exact h8⟩, .inr ⟨k, h1, h9⟩⟩
  obtain ⟨ad', cap', w', hrun, hos, hta, hou, hgrow, hres⟩ := Sq (P := P) w t tx ty ti.elem i z hu hi hz hzs (by rw [hsz]; exact hpos) hold1 (by rw [hsz]; exact hs) (by rw [hbi]; exact hby) (by rw [hbi]; exact hfit)
  let i' : BI := ⟨ad', xs.length + ys.length, cap', te.ty.size⟩
  have lt : ∀ b, g.own b ≠ .no → b < w.heap.size := fun b h => Lr H h
  obtain ⟨ob, hob, hkeep, hh, hroot⟩ : ∃ ob : Option Nat, (∀ q, ob = some q → w.heap.size ≤ q ∧ q < w'.heap.size) ∧
      (∀ q, q < w.heap.size → (∀ k p, g.own q = .lab k p → k ∉ kk.toList ++ rs) → w'.heap[q]? = w.heap[q]?) ∧
      (∀ b, (g.own b = .imm ∨ ∃ j r, g.own b = .lab j r ∧ (kk ≠ some j ∨ r ≠ [])) → w'.heap[b]? = w.heap[b]?) ∧
      ((xs ++ ys = [] ∧ cap' = 0) ∨ ∃ b' cur', ad' = some ⟨b', 0, none⟩ ∧ w'.heap[b']? = some (.cells cur' ti.elem (0, 0)) ∧ xs.length + ys.length ≤ cap' ∧ cap' ≤ maxLen ∧ cur'.size = cap' * te.ty.size ∧ cur'.toList.take ((xs.length + ys.length) * te.ty.size) = ds ++ news ∧ (g.upd f ob n i').own b' = .lab n []) := by
    rcases hres with ⟨h0, hc0, rfl⟩ | ⟨b', cur', h1, h2, h3, h4, h5, h6, h7⟩
    · refine ⟨none, fun q h => by (cases h), fun q _ _ => rfl, fun b _ => rfl, .inl ⟨?_, hc0⟩⟩
      apply List.eq_nil_of_length_eq_zero; rw [List.length_append]; omega
    · rw [hsz] at h5 h6
      rcases h7 with ⟨cur, _, ⟨k, hk, hown⟩, hb, rfl⟩ | ⟨rfl, hlt, hkp⟩
      · have hne : ∀ b, (g.own b = .imm ∨ ∃ j r, g.own b = .lab j r ∧ (kk ≠ some j ∨ r ≠ [])) → b ≠ b' := fun b hq e => by
          subst e
          rcases hq with hq | ⟨j, r, hq, hj⟩
          · rw [hown] at hq; cases hq
          · rw [hown] at hq; injection hq with e1 e2
            subst e1; subst e2
            rcases hj with hj | hj
            · exact hj hk
            · exact hj rfl
        refine ⟨none, fun q h => by (cases h), QR hown (by simp [hk]), fun b hb => setRow_other w b' b cur' (hne b hb), .inr ⟨b', cur', h1, h2, h3, h4, h5, h6, ?_⟩⟩
        rw [It (by simp) hown]
        simp [f, appF, hk]
      · refine ⟨some w.heap.size, fun q h => by injection h with h; subst h; exact ⟨Nat.le_refl _, hlt⟩, fun q hq _ => hkp q hq, fun b hb => hkp b (lt b ?_), .inr ⟨_, cur', h1, h2, h3, h4, h5, h6, by simp [G.upd]⟩⟩
        rcases hb with hb | ⟨j, r, hb, _⟩ <;> rw [hb] <;> simp
  let g' := g.upd f ob n i'
  have own_lab : ∀ b j r, g.own b = .lab j r → g'.own b = f j r := fun b j r h => It (fun e => by
    have h1 := (hob b e).1
    have h2 := lt b (by rw [h]; simp)
    omega) h
  have own_imm : ∀ b, g.own b = .imm → g'.own b = .imm := fun b h => LF (fun e => by
    have h1 := (hob b e).1
    have h2 := lt b (by rw [h]; simp)
    omega) h
  have st : Step (kk.toList ++ rs) n w g w' g' := Step.upd H.fresh hos hta hou hgrow hkeep (fun q h => (hob q h).1) (Nat.le_refl _) fun j r _ hm => by
    have h1 : kk ≠ some j := fun e => hm (by simp [e])
    have h2 : j ∉ rs := fun e => hm (by simp [e])
    simp [f, appF, h1, h2]
  have fkeep : ∀ j r, j ∈ m'.ids → f j r = .lab j r := fun j r hj => by
    have h1 : kk ≠ some j := fun e => (hkk j e).2.1 hj
    simp [f, appF, h1, hoff j hj]
  have hold' : ∀ (k i : Nat) (x : te.ty.V) (c : List Value), kk = some k → xs ≠ [] → ElR w g.own k m te.ty i x c → ElR w' g'.own n m' te.ty i x c := by
    intro k i x c hk hne hel
    refine hel.on ?_
    have hd := hdp hne
    cases m with
    | deep =>
      have : m' = .deep := hd.1 rfl
      subst this
      intro b q hb
      exact ⟨by rw [own_lab b k _ hb]; simp [f, appF, hk], hh b (.inr ⟨k, _, hb, .inr (by simp)⟩)⟩
    | sh ks =>
      cases m' with
      | deep => have := hd.2 rfl; cases this
      | sh ks' =>
        intro b hb
        rcases hb with hb | ⟨j, hj, r, hb⟩
        · exact ⟨.inl (own_imm b hb), hh b (.inl hb)⟩
        · have hjm : j ∈ ks' := (hids j hj).1
          exact ⟨.inr ⟨j, hjm, r, by rw [own_lab b j r hb]; exact fkeep j r hjm⟩, hh b (.inr ⟨j, r, hb, .inl fun e => (hkk j e).2.1 hjm⟩)⟩
  have hnew' : ∀ (i : Nat) (x : te.ty.V) (c : List Value), SrcEl w g te.ty m2 rs i x c → ElR w' g'.own n m' te.ty (xs.length + i) x c := by
    intro i x c hel
    rcases hel with ⟨hf, rfl⟩ | ⟨ks, rfl, hr⟩ | ⟨j, hrj, hr⟩
    · exact (ElR.flat hf).2 rfl
    · cases m' with
      | deep => have := hj.2 rfl; cases this
      | sh ks' =>
        refine RdR.mono (fun b hb => ?_) hr
        rcases hb with hb | ⟨j, hjk, r, hb⟩
        · exact ⟨.inl (own_imm b hb), hh b (.inl hb)⟩
        · have hjm : j ∈ ks' := hj.1 j hjk
          exact ⟨.inr ⟨j, hjm, r, by rw [own_lab b j r hb]; exact fkeep j r hjm⟩, hh b (.inr ⟨j, r, hb, .inl fun e => (hkk j e).2.1 hjm⟩)⟩
    · have hjk : kk ≠ some j := fun e => (hkk j e).1 (by simp [hrj])
      have hjr : j ∈ rs := by simp [hrj]
      refine hr.on ?_
      cases m2 with
      | deep =>
        cases m' with
        | deep =>
          intro b q hb
          refine ⟨?_, hh b (.inr ⟨j, _, hb, .inl hjk⟩)⟩
          rw [own_lab b j _ hb]
          simp only [f, appF, if_neg hjk, if_pos hjr, MW]
        | sh ks' =>
          intro b q hb
          exact ⟨.inl (by rw [own_lab b j _ hb]; simp only [f, appF, if_neg hjk, if_pos hjr]), hh b (.inr ⟨j, _, hb, .inl hjk⟩)⟩
      | sh ks =>
        cases m' with
        | deep => have := hj.2 rfl; cases this
        | sh ks' =>
          intro b hb
          rcases hb with hb | ⟨j', hjk', r, hb⟩
          · exact ⟨.inl (own_imm b hb), hh b (.inl hb)⟩
          · have hjm : j' ∈ ks' := hj.1 j' hjk'
            exact ⟨.inr ⟨j', hjm, r, by rw [own_lab b j' r hb]; exact fkeep j' r hjm⟩, hh b (.inr ⟨j', r, hb, .inl fun e => (hkk j' e).2.1 hjm⟩)⟩
  have hatn : g'.at_ n = i' := by simp [g', G.upd]
  refine ⟨_, w', g', hrun, H.turn st (J8 H.fresh hgrow fun q h => (hob q h).2) (by simp [hbs0]) fun j x hj' => ?_, ?_, st⟩
  · rw [List.getElem?_append] at hj'
    split at hj'
    · rcases hget j x hj' with h | h
      · exact .inl h
      · exact .inr (.inl h)
    · rename_i hlen
      rw [hbs0] at hj' hlen
      have hj0 : j - bs.length = 0 := by
        rcases Nat.eq_zero_or_pos (j - bs.length) with h | h
        · exact h
        · rw [List.getElem?_eq_none (by simp; omega)] at hj'; cases hj'
      rw [hj0] at hj'
      obtain rfl : j = n := by simp only [n]; omega
      simp only [List.getElem?_cons_zero, Option.some.injEq] at hj'
      subst hj'
      refine .inr (.inr ⟨fun j hj => by have := hm'n j hj; simp [hbs0]; omega, by rw [hatn, List.length_append], by rw [hatn], hpos, ?_⟩)
      rw [hatn, List.length_append]
      refine hroot.imp id fun ⟨b', cur', h1, h2, h3, h4, h5, h6, h7⟩ => ⟨b', cur', _, h1, h7, ⟨_, .inr rfl, h2⟩, h3, h4, h5, h6, ?_⟩
      rw [HW]
      refine ListI.append ?_ ?_
      · rcases hold2 with ⟨rfl, rfl⟩ | ⟨k, hk, hcon⟩
        · rfl
        · rcases Classical.em (xs = []) with hx | hx
          · subst hx
            have : ds = [] := by cases m <;> exact hcon
            subst this; rfl
          · exact (HW.1 hcon).mono fun i x c h => hold' k i x c hk hx h
      · rw [Nat.zero_add]
        have shift : ∀ (ys : List te.ty.V) (cs : List Value) (a b : Nat), ListI (SrcEl w g te.ty m2 rs) a ys cs → ListI (ElR w' g'.own n m' te.ty) (xs.length + a) ys cs := by
          intro ys
          induction ys with
          | nil => exact fun cs a _ h => h
          | cons y ys ih =>
            intro cs a b ⟨c, d, e, h1, h2⟩
            exact ⟨c, d, e, hnew' a y c h1, ih d (a + 1) b h2⟩
        exact shift ys news 0 0 hel
  · refine B7 (cs := [_]) rfl ⟨Nat.lt_succ_self _, rfl⟩ ?_
    have : g'.at_ bs.length = i' := hatn
    simp [asVal, AV.isAgg, this, i']
end
end Go.Va
namespace Go.Va
section
variable {P : Program} {σ : St} {o : Oper} {en : Env} {e : Eff} {fi : FI}
theorem args2 {c : Call} {x y : AV} (h : opds σ c.args = [x, y]) : ∃ a b, c.args = #[a, b] ∧ σ.opd a = x ∧ σ.opd b = y := by
  unfold opds at h
  cases hc : c.args with
  | mk l =>
    rw [hc] at h
    match l, h with
    | [a, b], h =>
      simp only [List.map_cons, List.map_nil, List.cons.injEq, and_true] at h
      exact ⟨a, b, rfl, h.1, h.2⟩
    | [], h => simp at h
    | [_], h => simp at h
    | _ :: _ :: _ :: _, h => simp at h
theorem args1 {c : Call} {x : AV} (h : opds σ c.args = [x]) : ∃ a, c.args = #[a] ∧ σ.opd a = x := by
  unfold opds at h
  cases hc : c.args with
  | mk l =>
    rw [hc] at h
    match l, h with
    | [a], h =>
      simp only [List.map_cons, List.map_nil, List.cons.injEq, and_true] at h
      exact ⟨a, rfl, h⟩
    | [], h => simp at h
    | _ :: _ :: _, h => simp at h
theorem types2 {ts : Array TypeId} {t u : TypeId} (h : ts.toList = [t, u]) : ts = #[t, u] := by apply Array.toList_inj.1; rw [h]
theorem Jx {c : Call} (ho : o.op = .call c) {b : Builtin} (hc : c.callee = .builtin b) (ρ : Operand → Value) :
    execOp ρ o = builtin b c.argTypes o.type (c.args.map fun | .const _ => true | _ => false) (c.args.map ρ) := by
  simp only [execOp, ho, resolve, hc]
  rfl
theorem XF {c : Call} (ho : o.op = .call c) (hc : c.callee = .builtin .len) {x : AV} (hx : opds σ c.args = [x]) {t : TypeId} {r : List TypeId} (hts : c.argTypes.toList = t :: r) {ti : TI} (ht : TOk P t ti) {z : AV} (h : lenA σ.blks ti x some = some z) : Snd P σ o ⟨z, σ.blks, []⟩ := by
  obtain ⟨a0, ha, rfl⟩ := args1 hx
  refine .of_qt <| Ku (s := fun ρ => Builtin.len_ c.argTypes o.type #[ρ a0]) (fun ρ => ?_) fun a w g hs => ?_
  · rw [Jx ho hc, ha]; simp [builtin]
  · obtain ⟨z', e, hG⟩ := Zg (n := σ.blks.length) hs.heap ht h (AH hs a0) o.type c.argTypes (by rw [← Array.getElem?_toList, hts]; rfl)
    injection e with e; subst e; exact hG
theorem W2 {c : Call} (ho : o.op = .call c) {mx : Bool} (hc : c.callee = .builtin (if mx then .max else .min)) {x y : AV} (hx : opds σ c.args = [x, y]) {z : AV} (h : mmA mx x y some = some z) : Snd P σ o ⟨z, σ.blks, []⟩ := by
  obtain ⟨a0, a1, ha, rfl, rfl⟩ := args2 hx
  refine .of_qt <| Ku (s := fun ρ => if mx then Builtin.max_ c.argTypes o.type #[ρ a0, ρ a1] else Builtin.min_ c.argTypes o.type #[ρ a0, ρ a1]) (fun ρ => ?_) fun a w g hs => ?_
  · rw [Jx ho hc, ha]; cases mx <;> simp [builtin]
  · obtain ⟨z', e, hG⟩ := ZR (n := σ.blks.length) h (AH hs a0) (AH hs a1) o.type c.argTypes
    injection e with e; subst e; exact hG
theorem W9 {w : World} {g : G} {bs : List Blk} (H : Heap w g bs) {t : Ty} {y : AV} {ys : List t.V} {m : RM} {rs : List Nat} (h : srcA bs t y = some (ys, m, rs)) {v : Value} (hv : AVR w g bs.length y v) : (∀ j ∈ m.ids, j < bs.length) := by
  unfold srcA at h
  split at h
  · simp only [Option.some.injEq, Prod.mk.injEq] at h
    obtain ⟨rfl, rfl, rfl⟩ := h
    intro j hj; cases hj
  · rename_i ks u xs
    split at h
    · simp only [Option.some.injEq, Prod.mk.injEq] at h
      obtain ⟨rfl, rfl, rfl⟩ := h
      intro j hj
      split at hj
      · cases hj
      · exact (M6 hv).1 j hj
    · cases h
  · split at h
    · simp only [Option.some.injEq, Prod.mk.injEq] at h
      obtain ⟨rfl, rfl, rfl⟩ := h
      intro j hj; cases hj
    · cases h
  · rename_i k
    split at h
    · rename_i el m1 u xs hb
      split at h
      · simp only [Option.some.injEq, Prod.mk.injEq] at h
        obtain ⟨rfl, rfl, rfl⟩ := h
        intro j hj
        split at hj
        · cases hj
        · exact (H.blk k _ hb).1 j hj
      · cases h
    · cases h
  · cases h
theorem RS {c : Call} (ho : o.op = .call c) (hc : c.callee = .builtin .append) {x y : AV} (hx : opds σ c.args = [x, y]) {t tx : TypeId} (hts : c.argTypes.toList = [t, tx]) {ti te tix : TI} (ht : TOk P t ti) (hte : TOk P ti.elem te) (hsl : ti.isSl = true) (htx : TOk P tx tix) (hkx : (tix.isSl || tix.ty == .str) = true)
    (h : appendA fi σ.blks ti.elem te x y some = some e) : Snd P σ o e := by
  obtain ⟨a0, a1, ha, rfl, rfl⟩ := args2 hx
  have hrun : ∀ (a : Act) (w : World) (r : Value) (w' : World), (Builtin.append_ #[t, tx] o.type #[a.eval a0, a.eval a1]).run P w = .ok r w' → (execOp a.eval o).run P w = .ok (.value r) w' := by
    intro a w r w' hr
    rw [Jx ho hc, ha, types2 hts]
    simp [builtin, hr]
  have fin : ∀ (bs' : List Blk) (mods : List Nat), σ.blks.length + 1 = bs'.length → (mods = [] → ∃ l, bs' = σ.blks ++ l) →
      (∀ (a : Act) (w : World) (g : G), StR w g σ a → ∃ r w' g', (Builtin.append_ #[t, tx] o.type #[a.eval a0, a.eval a1]).run P w = .ok r w' ∧ Heap w' g' bs' ∧ AVR w' g' (σ.blks.length + 1) (.ref σ.blks.length) r ∧ Step mods σ.blks.length w g w' g') → Snd P σ o ⟨.ref σ.blks.length, bs', mods⟩ := by
    intro bs' mods hl hm hh
    refine ⟨by show σ.blks.length ≤ bs'.length; omega, hm, fun a w g hs next Q hn => ?_⟩
    obtain ⟨r, w', g', hr, hH, hv, hst⟩ := hh a w g hs
    unfold Oper.wp
    rw [hrun a w r w' hr]
    exact hn r w' g' hH (by show AVR w' g' bs'.length _ _; rw [← hl]; exact hv) hst
  have hlen : ∀ (mods l : List Nat), (Blk.kill (dropB mods σ.blks) l).length = σ.blks.length := fun mods l => by rw [Bj, AD]
  unfold appendA at h
  split at h
  · rename_i hzs
    split at h
    · cases h
    · rename_i hr0
      have hr1 : (te.ty.row && te.bytes != 0) = true := by simpa using hr0
      rw [Bool.and_eq_true] at hr1
      have hby : te.bytes ≠ 0 := by simpa using hr1.2
      split at h
      · rename_i ys m2 rs hsrc
        split at h
        · rename_i m' hj
          split at h
          · rename_i hoff
            split at h
            · rename_i hfit
              injection h with h; subst h
              refine fin _ _ (by rw [List.length_append, hlen]; rfl) (fun h => ⟨[.row ti.elem m' te.ty ys], by have h : rs = [] := h; rw [h]; rfl⟩) fun a w g hs => ?_
              have hv0 := AH hs a0
              rw [hzs] at hv0
              obtain ⟨ad, hv0⟩ := O5 hv0
              rw [hv0]
              have hsp : (∀ j ∈ m'.ids, j ∈ m2.ids) ∧ (∀ j ∈ m2.ids, j ∈ m'.ids) ∧ (m' = .deep → m2 = .deep) := by
                obtain ⟨h1, h2, h3⟩ := Nn hj
                refine ⟨fun j hj => ?_, fun j hj => (h1 j).2 (.inr hj), h3⟩
                rcases (h1 j).1 hj with h | h
                · cases m2 with
                  | deep => rw [Me] at h; cases h
                  | sh ks => exact h
                · exact h
              have := LY (kk := none) (m := .deep) (xs := ([] : List te.ty.V)) (cap := 0) (ad := ad) (m' := m') (bs0 := Blk.kill (dropB rs σ.blks) rs) (ty := o.type) hs.heap ht hte hsl htx hkx hr1.1 hby hsrc (.inl ⟨rfl, rfl⟩) (fun k hk => by cases hk) (fun j hj => by cases hj) (fun h => (h rfl).elim) hsp.2
                (fun j hj => W9 hs.heap hsrc (AH hs a1) j (hsp.1 j hj)) (Lh hoff) (by simpa using hfit) (AH hs a1) (hlen rs rs) (fun j x hx => by
                  rcases II hx with h | ⟨hjr, h⟩
                  · exact .inl h
                  · obtain ⟨y', hy', rfl⟩ := FW h
                    exact .inr ⟨by simpa using hjr, y', hy', rfl⟩)
              simpa using this
            · cases h
          · cases h
        · cases h
      · cases h
  · rename_i k hk
    split at h
    · cases h
    · rename_i hr0
      have hr1 : (te.ty.row && te.bytes != 0) = true := by simpa using hr0
      rw [Bool.and_eq_true] at hr1
      have hby : te.bytes ≠ 0 := by simpa using hr1.2
      split at h
      · rename_i e' m t' xs0 ys m2 rs hb hsrc
        split at h
        · rename_i xs m' hcast hj
          split at h
          · rename_i hcond
            split at h
            · rename_i hfit
              injection h with h; subst h
              obtain ⟨he, hne, hrk, hoff⟩ := hcond
              obtain ⟨ec, hec⟩ := AW hcast
              injection ec with ec; subst ec; simp only at hec; subst hec
              subst he
              have hkrs : k ∉ rs := by simpa using hrk
              have hoffm := Lh hoff
              refine fin _ _ (by rw [List.length_append, hlen]; rfl) (fun h => by cases h) fun a w g hs => ?_
              have hv0 := AH hs a0
              rw [hk] at hv0
              obtain ⟨hkn, hv0⟩ := KH hv0
              obtain ⟨hmi, hl, hes, hpos, hrr⟩ := hs.heap.blk k _ hb
              rw [hv0, hl]
              obtain ⟨h1, h2, h3⟩ := Nn hj
              have hm2 := W9 hs.heap hsrc (AH hs a1)
              have := LY (kk := some k) (m := m) (xs := xs0) (ad := (g.at_ k).a) (cap := (g.at_ k).cap) (m' := m') (bs0 := Blk.kill (dropB (k :: rs) σ.blks) (k :: rs)) (ty := o.type) hs.heap ht hte hsl htx hkx hr1.1 hby hsrc
                (hrr.imp id fun ⟨b, cur, ds, p1, p2, ⟨el, hel, p3⟩, p4, p5, p6, p7, p8⟩ => ⟨k, b, cur, ds, rfl, p1, p2, by rw [p3, hel.resolve_left hne], p4, p5, p6, p7, p8⟩)
                (fun k' hk' => by injection hk' with hk'; subst hk'; exact ⟨hkrs, fun h => hoffm k h (by simp), hkn⟩) (fun j hj => ⟨(h1 j).2 (.inl hj), hmi j hj⟩) (fun _ => h2) ⟨fun j hj => (h1 j).2 (.inr hj), h3⟩
                (fun j hj => by rcases (h1 j).1 hj with h | h; exact hmi j h; exact hm2 j h) (fun j hj h => hoffm j hj (List.mem_cons_of_mem _ h)) hfit (AH hs a1) (hlen (k :: rs) (k :: rs)) (fun j x hx => by
                  rcases II hx with h | ⟨hjr, h⟩
                  · exact .inl h
                  · obtain ⟨y', hy', rfl⟩ := FW h
                    exact .inr ⟨by simpa using hjr, y', hy', rfl⟩)
              simpa using this
            · cases h
          · cases h
        · cases h
      · cases h
  · cases h
theorem Y9 {t : TypeId} {x : Operand} {hi : Option Operand} (ho : o.op = .slice t x none hi none) {ti : TI} (ht : TOk P t ti) (hsl : ti.isSl = true) {te : TI} (hte : TOk P ti.elem te)
    (h : cutA te.ty σ.blks (σ.opd x) (hi.map σ.opd) some = some e) : Snd P σ o e := by
  unfold cutA at h
  split at h
  · rename_i k ks kk hv hx hh
    split at h
    · rename_i el m tr xs hb
      split at h
      · rename_i hoff
        obtain ⟨hoff, htt⟩ := hoff
        subst htt
        split at h
        · rename_i hc
          injection h with h; subst h
          obtain ⟨h0, h1⟩ := hc
          refine ⟨by simp [Bj, AD], fun h => by (cases h), fun a w g hs next Q hn => ?_⟩
          have H := hs.heap
          have hxo := AH hs x
          rw [hx] at hxo
          obtain ⟨hk, hxv⟩ := KH hxo
          obtain ⟨hmi, hlen, hes, hpos, hr⟩ := H.blk k _ hb
          have hhi := Lt hs hi
          rw [hh] at hhi
          obtain ⟨hv', hve⟩ : ∃ v, hi.map a.eval = some v ∧ v = .int kk hv := by
            cases hq : hi.map a.eval with
            | none => rw [hq] at hhi; exact hhi.elim
            | some v => rw [hq] at hhi; exact ⟨v, rfl, Ej hhi⟩
          obtain ⟨hveq, hvint⟩ := hve
          subst hvint
          have hcap : (g.at_ k).len ≤ (g.at_ k).cap := by
            rw [hlen]
            rcases hr with ⟨rfl, hc0⟩ | ⟨b, cur, ds, _, _, _, h1, _⟩
            · simp
            · exact h1
          have had : (if (g.at_ k).cap = 0 then (g.at_ k).a else (g.at_ k).a.map (·.add (0 * te.ty.size))) = (g.at_ k).a := by
            split
            · rfl
            · rename_i hc0
              rcases hr with ⟨_, hc1⟩ | ⟨b, cur, ds, ha, _⟩
              · exact (hc0 hc1).elim
              · rw [ha]; simp [addN]
          have hrun : (execOp a.eval o).run P w = .ok (.value (.slice (g.at_ k).a hv.toNat (g.at_ k).cap)) w := by
            have hb2 := J6 (P := P) (w := w) (isS := true) (len := (g.at_ k).len) (cap := (g.at_ k).cap) (lo := none) (hi := some (.int kk hv)) (l := 0) (h := hv) (.inl ⟨rfl, rfl⟩) (.inr ⟨kk, rfl⟩) (Int.le_refl _) h0 (by rw [hlen]; exact h1) hcap
            have : (Instr.sliceAt t (.slice (g.at_ k).a (g.at_ k).len (g.at_ k).cap) none (some (.int kk hv)) none).run P w = .ok (.slice (g.at_ k).a hv.toNat (g.at_ k).cap) w := by
              rw [He ht hsl]
              simp [Instr.slice, underlying, AT ht hsl, hb2, Et hte]
              simpa using had
            simp [execOp, ho, hxv, hveq, this]
          unfold Oper.wp
          rw [hrun]
          let n := σ.blks.length
          let i' : BI := ⟨(g.at_ k).a, hv.toNat, (g.at_ k).cap, te.ty.size⟩
          let f : Nat → List Nat → Tag := fun j r => if j = k then .lab n r else .lab j r
          let g' := g.upd f none n i'
          have st : Step [k] n w g w g' := Step.upd H.fresh rfl rfl rfl (Nat.le_refl _) (fun _ _ _ => rfl) (fun q h => by cases h) (Nat.le_refl _) fun j r _ hm => by
            simp only [List.mem_singleton] at hm
            simp [f, hm]
          have hatn : g'.at_ n = i' := by simp [g', G.upd]
          have hvl : hv.toNat ≤ xs.length := by have h1' : (hv : Int) ≤ (xs.length : Int) := h1; exact Int.toNat_le.2 h1'
          have hoffm := Lh hoff
          refine hn _ w g' (H.turn st (J8 H.fresh (Nat.le_refl _) fun q h => by cases h) (by simp [Bj, AD]) fun j y hj => ?_) ?_ st
          · rw [List.getElem?_append] at hj
            split at hj
            · rcases II hj with h | ⟨hjr, h⟩
              · exact .inl h
              · obtain ⟨y', hy', rfl⟩ := FW h
                exact .inr (.inl ⟨hjr, y', hy', rfl⟩)
            · rename_i hlt
              rw [Bj, AD] at hj hlt
              have hj0 : j - σ.blks.length = 0 := by
                rcases Nat.eq_zero_or_pos (j - σ.blks.length) with h | h
                · exact h
                · rw [List.getElem?_eq_none (by simp; omega)] at hj; cases hj
              rw [hj0] at hj
              obtain rfl : j = n := by simp only [n]; omega
              simp only [List.getElem?_cons_zero, Option.some.injEq] at hj
              subst hj
              refine .inr (.inr ⟨fun j hj => by have := hmi j hj; simp [Bj, AD]; omega, by rw [hatn, List.length_take]; simp only [i']; omega, by rw [hatn], hpos, ?_⟩)
              rw [hatn]
              rcases hr with ⟨rfl, hc0⟩ | ⟨b, cur, ds, ha, hown, hcur, p1, p2, p3, p4, hcon⟩
              · exact .inl ⟨by simp, hc0⟩
              · refine .inr ⟨b, cur, ds.take (hv.toNat * te.ty.size), ha, by rw [It (by simp) hown]; simp [f], hcur, by rw [List.length_take]; simp only [i']; omega, p2, p3, ?_, ?_⟩
                · rw [List.length_take, Nat.min_eq_left hvl, ← p4, List.take_take, Nat.min_eq_left (Nat.mul_le_mul_right _ hvl)]
                · rw [HW]
                  refine (ListI.takeN (fun i x c h => ElR.len h) hv.toNat (HW.1 hcon)).mono fun i x c hel => hel.on ?_
                  cases m with
                  | deep => exact fun b q hb => ⟨by rw [It (by simp) hb]; simp [f], rfl⟩
                  | sh ks =>
                    intro b hb
                    rcases hb with hb | ⟨j, hj, r, hb⟩
                    · exact ⟨.inl (LF (by simp) hb), rfl⟩
                    · refine ⟨.inr ⟨j, hj, r, ?_⟩, rfl⟩
                      have : j ≠ k := fun e => hoffm j hj (by simp [e])
                      rw [It (by simp) hb]; simp [f, this]
          · refine B7 (cs := [_]) rfl ⟨by simp [Bj, AD], rfl⟩ ?_
            have : g'.at_ σ.blks.length = i' := hatn
            simp [asVal, AV.isAgg, this, i']
        · cases h
      · cases h
    · cases h
  · cases h
end
end Go.Va
namespace Go.Va
theorem QU (φ : Nat → Nat) (a : AV) : (a.ren φ).isUn = a.isUn := by cases a <;> rfl
theorem O2 (φ : Nat → Nat) (a : AV) : (a.ren φ).isAgg = a.isAgg := by cases a <;> rfl
theorem Tc (φ : Nat → Nat) (a : AV) : (a.ren φ).isTup = a.isTup := by cases a <;> rfl
theorem Rl (bor : List Nat) (a : AV) : (a.dep bor).isUn = a.isUn := by cases a <;> rfl
theorem O3 (bor : List Nat) (a : AV) : (a.dep bor).isAgg = a.isAgg := by cases a <;> rfl
theorem Uy (bor : List Nat) (a : AV) : (a.dep bor).isTup = a.isTup := by cases a <;> rfl
structure Ren (φ : Nat → Nat) (g g' : G) (n' k : Nat) : Prop where
  lt : φ k < n'
  at_ : g'.at_ (φ k) = g.at_ k
  own : ∀ b r, g.own b = .lab k r → g'.own b = .lab (φ k) r
theorem Al.ren {φ : Nat → Nat} {g g' : G} {n' : Nat} (hi : ∀ b, g.own b = .imm → g'.own b = .imm) {ks : List Nat} (hk : ∀ k ∈ ks, Ren φ g g' n' k) {b : Nat} (h : Al g.own ks b) : Al g'.own (ks.map φ) b := by
  rcases h with h | ⟨k, hks, r, h⟩
  · exact .inl (hi b h)
  · exact .inr ⟨φ k, List.mem_map.2 ⟨k, hks, rfl⟩, r, (hk k hks).own b r h⟩
section
variable {w : World} {g g' : G} {n n' : Nat} {φ : Nat → Nat}
theorem mapLt {ks : List Nat} (hk : ∀ k ∈ ks, Ren φ g g' n' k) : ∀ k ∈ ks.map φ, k < n' := fun k h => by
  obtain ⟨j, hj, rfl⟩ := List.mem_map.1 h
  exact (hk j hj).lt
theorem AVX.ren (hi : ∀ b, g.own b = .imm → g'.own b = .imm) : ∀ (a : AV) (m : Bool) {cs : List Value}, AVX w g n m a cs → (∀ k ∈ a.ids, Ren φ g g' n' k) → AVX w g' n' m (a.ren φ) cs
  | .dat ks t x, false, cs, ⟨hk, r⟩, h => ⟨mapLt h, r.mono fun b a => ⟨a.ren hi h, rfl⟩⟩
  | .zs, false, _, h, _ => h
  | .ref k, false, _, ⟨hk, e⟩, h => by
    have := h k (by simp [AV.ids])
    exact ⟨this.lt, by rw [this.at_]; exact e⟩
  | .ptr k i p o, false, _, ⟨hk, h0, h1, b, hb, e⟩, h => by
    have := h k (by simp [AV.ids])
    exact ⟨this.lt, h0, by rw [this.at_]; exact h1, b, by rw [this.at_]; exact hb, by rw [this.at_]; exact e⟩
  | .rop ks t x, false, cs, ⟨hk, b, off, ds, e, ha, r, hc⟩, h => ⟨mapLt h, b, off, ds, e, ha.ren hi h, r.mono fun b a => ⟨a.ren hi h, rfl⟩, hc⟩
  | .nilp, false, _, h, _ => h
  | .pr a b, false, _, ⟨c, d, e, h1, h2⟩, h => ⟨c, d, e, AVX.ren hi a false h1 fun k hk => h k (by simp [AV.ids, hk]), AVX.ren hi b false h2 fun k hk => h k (by simp [AV.ids, hk])⟩
  | .fn f c, false, _, ⟨vs, e, hx⟩, h => ⟨vs, e, AVX.ren hi c true hx fun k hk => h k (by simpa [AV.ids] using hk)⟩
  | .un k, false, _, h, _ => h
  | .cons a b, true, _, ⟨v, r, e, h1, h2⟩, h => by
    refine ⟨v, r, e, ?_, AVX.ren hi b true h2 fun k hk => h k (by simp [AV.ids, hk])⟩
    rw [QU, O2]
    exact h1.imp id fun ⟨cs, hx, hv⟩ => ⟨cs, AVX.ren hi a false hx fun k hk => h k (by simp [AV.ids, hk]), hv⟩
  | .nil, true, _, h, _ => h
  | .cons _ _, false, _, h, _ => h.elim
  | .nil, false, _, h, _ => h.elim
  | .sld k l, false, _, ⟨hk, e⟩, h => by
    have := h k (by simp [AV.ids])
    exact ⟨this.lt, by rw [this.at_]; exact e⟩
  | .nst k i p o e, false, _, ⟨hk, h0, h1, b, v, ha, ho, e1, e2, hc⟩, h => by
    have := h k (by simp [AV.ids])
    exact ⟨this.lt, h0, by rw [this.at_]; exact h1, b, v, by rw [this.at_]; exact ha, this.own b [] ho, e1, e2, by rw [this.at_]; exact hc⟩
  | .nst _ _ _ _ _, true, _, h, _ => h.elim
  | .dat _ _ _, true, _, h, _ => h.elim
  | .zs, true, _, h, _ => h.elim
  | .ref _, true, _, h, _ => h.elim
  | .sld _ _, true, _, h, _ => h.elim
  | .ptr _ _ _ _, true, _, h, _ => h.elim
  | .rop _ _ _, true, _, h, _ => h.elim
  | .nilp, true, _, h, _ => h.elim
  | .pr _ _, true, _, h, _ => h.elim
  | .fn _ _, true, _, h, _ => h.elim
  | .un _, true, _, h, _ => h.elim
theorem AVX.idsLt : ∀ (a : AV) (m : Bool) {cs : List Value}, AVX w g n m a cs → ∀ k ∈ a.ids, k < n
  | .dat ks t x, false, cs, h, k, hk => h.1 k hk
  | .zs, false, _, _, _, hk => by cases hk
  | .ref j, false, _, h, k, hk => by
    have : k = j := by simpa [AV.ids] using hk
    rw [this]; exact h.1
  | .ptr j i p o, false, _, h, k, hk => by
    have : k = j := by simpa [AV.ids] using hk
    rw [this]; exact h.1
  | .rop ks t x, false, cs, h, k, hk => h.1 k hk
  | .nilp, false, _, _, _, hk => by cases hk
  | .pr a b, false, _, ⟨c, d, e, h1, h2⟩, k, hk => by
    rcases List.mem_append.1 hk with hk | hk
    · exact AVX.idsLt a false h1 k hk
    · exact AVX.idsLt b false h2 k hk
  | .fn f c, false, _, ⟨vs, e, hx⟩, k, hk => AVX.idsLt c true hx k hk
  | .un _, false, _, _, _, hk => by cases hk
  | .cons a b, true, _, ⟨v, r, e, h1, h2⟩, k, hk => by
    rcases List.mem_append.1 hk with hk | hk
    · rcases h1 with h1 | ⟨cs, h1, _⟩
      · cases a <;> simp [AV.isUn] at h1; cases hk
      · exact AVX.idsLt a false h1 k hk
    · exact AVX.idsLt b true h2 k hk
  | .nil, true, _, _, _, hk => by cases hk
  | .cons _ _, false, _, h, _, _ => h.elim
  | .nil, false, _, h, _, _ => h.elim
  | .sld j l, false, _, h, k, hk => by
    have : k = j := by simpa [AV.ids] using hk
    rw [this]; exact h.1
  | .nst j i p o e, false, _, h, k, hk => by
    have : k = j := by simpa [AV.ids] using hk
    rw [this]; exact h.1
  | .nst _ _ _ _ _, true, _, h, _, _ => h.elim
  | .dat _ _ _, true, _, h, _, _ => h.elim
  | .zs, true, _, h, _, _ => h.elim
  | .ref _, true, _, h, _, _ => h.elim
  | .sld _ _, true, _, h, _, _ => h.elim
  | .ptr _ _ _ _, true, _, h, _, _ => h.elim
  | .rop _ _ _, true, _, h, _, _ => h.elim
  | .nilp, true, _, h, _, _ => h.elim
  | .pr _ _, true, _, h, _, _ => h.elim
  | .fn _ _, true, _, h, _, _ => h.elim
  | .un _, true, _, h, _, _ => h.elim
theorem AVR.idsLt {a : AV} {v : Value} (h : AVR w g n a v) : ∀ k ∈ a.ids, k < n := by
  cases ht : a.isTup with
  | false =>
    rcases (AVR.iff ht).1 h with h | ⟨cs, h, _⟩
    · intro k hk; cases a <;> simp [AV.isUn] at h; cases hk
    · exact AVX.idsLt a false h
  | true =>
    cases a with
    | cons a b => obtain ⟨vs, e, h⟩ := h; exact AVX.idsLt _ true h
    | nil => intro k hk; cases hk
    | _ => cases ht
theorem AVR.ren (hi : ∀ b, g.own b = .imm → g'.own b = .imm) {a : AV} {v : Value} (h : AVR w g n a v) (hk : ∀ k ∈ a.ids, Ren φ g g' n' k) : AVR w g' n' (a.ren φ) v := by
  cases ht : a.isTup with
  | false =>
    rw [AVR.iff ht] at h
    rw [AVR.iff (by rw [Tc]; exact ht), QU, O2]
    exact h.imp id fun ⟨cs, h, hv⟩ => ⟨cs, AVX.ren hi a false h hk, hv⟩
  | true =>
    cases a with
    | cons a b => obtain ⟨vs, e, h⟩ := h; exact ⟨vs, e, AVX.ren hi (.cons a b) true h hk⟩
    | nil => exact h
    | _ => cases ht
theorem BlkR.ren (hi : ∀ b, g.own b = .imm → g'.own b = .imm) {k : Nat} {b : Blk} (h : BlkR w g n k b) (hk : Ren φ g g' n' k) (hids : ∀ j ∈ b.ids, Ren φ g g' n' j) : BlkR w g' n' (φ k) (b.ren φ) := by
  cases b with
  | dead => trivial
  | box a =>
    obtain ⟨h1, b, cs, e, ha, ho, hh, hx⟩ := h
    exact ⟨by rw [hk.at_]; exact h1, b, cs, e, by rw [hk.at_]; exact ha, hk.own b [] ho, hh, AVX.ren hi a false hx hids⟩
  | row e m t xs =>
    obtain ⟨hmi, hlen, hes, hpos, hr⟩ := h
    have hm : (m.ren φ).ids = m.ids.map φ := by cases m <;> rfl
    refine ⟨by rw [hm]; exact mapLt hids, by rw [hk.at_]; exact hlen, by rw [hk.at_]; exact hes, hpos, ?_⟩
    rw [hk.at_]
    refine hr.imp id fun ⟨b, cur, ds, ha, ho, hh, h1, h2, h3, h4, hc⟩ => ⟨b, cur, ds, ha, hk.own b [] ho, hh, h1, h2, h3, h4, ?_⟩
    cases m with
    | deep => exact hc.mono fun i x c r => r.mono fun b q hb => ⟨hk.own b _ hb, rfl⟩
    | sh ks => exact hc.mono fun x c r => r.mono fun b a => ⟨a.ren hi hids, rfl⟩
structure Dep (bor : List Nat) (g g' : G) (n : Nat) : Prop where
  imm : ∀ b, g.own b = .imm → Al g'.own bor b
  lab : ∀ b k r, g.own b = .lab k r → k < n → g'.own b = .lab k r
  at_ : ∀ k, k < n → g'.at_ k = g.at_ k
  lt : ∀ k ∈ bor, k < n
theorem Al.dep {bor : List Nat} (d : Dep bor g g' n) {ks : List Nat} (hk : ∀ k ∈ ks, k < n) {b : Nat} (h : Al g.own ks b) : Al g'.own (ks ++ bor) b := by
  rcases h with h | ⟨k, hks, r, h⟩
  · exact (d.imm b h).mono fun k hk => List.mem_append_right _ hk
  · exact .inr ⟨k, List.mem_append_left _ hks, r, d.lab b k r h (hk k hks)⟩
theorem appLt {bor ks : List Nat} (d : Dep bor g g' n) (hk : ∀ k ∈ ks, k < n) : ∀ k ∈ ks ++ bor, k < n := fun k h => by
  rcases List.mem_append.1 h with h | h
  · exact hk k h
  · exact d.lt k h
theorem AVX.dep {bor : List Nat} (d : Dep bor g g' n) : ∀ (a : AV) (m : Bool) {cs : List Value}, AVX w g n m a cs → AVX w g' n m (a.dep bor) cs
  | .dat ks t x, false, cs, ⟨hk, r⟩ => by
    simp only [AV.dep]
    cases hf : t.flat with
    | true => exact ⟨by simpa using hk, (RdR.flat hf).2 ((RdR.flat hf).1 r)⟩
    | false => exact ⟨by simpa using appLt d hk, by simpa using r.mono fun b a => ⟨a.dep d hk, rfl⟩⟩
  | .zs, false, _, h => h
  | .ref k, false, _, ⟨hk, e⟩ => ⟨hk, by rw [d.at_ k hk]; exact e⟩
  | .sld k l_, false, _, ⟨hk, e⟩ => ⟨hk, by rw [d.at_ k hk]; exact e⟩
  | .ptr k i p o, false, _, ⟨hk, h0, h1, b, hb, e⟩ => ⟨hk, h0, by rw [d.at_ k hk]; exact h1, b, by rw [d.at_ k hk]; exact hb, by rw [d.at_ k hk]; exact e⟩
  | .rop ks t x, false, cs, ⟨hk, b, off, ds, e, ha, r, hc⟩ => ⟨appLt d hk, b, off, ds, e, ha.dep d hk, r.mono fun b a => ⟨a.dep d hk, rfl⟩, hc⟩
  | .nilp, false, _, h => h
  | .pr a b, false, _, ⟨c, e, he, h1, h2⟩ => ⟨c, e, he, AVX.dep d a false h1, AVX.dep d b false h2⟩
  | .fn f c, false, _, ⟨vs, e, hx⟩ => ⟨vs, e, AVX.dep d c true hx⟩
  | .un k, false, _, h => h
  | .cons a b, true, _, ⟨v, r, e, h1, h2⟩ => by
    refine ⟨v, r, e, ?_, AVX.dep d b true h2⟩
    rw [Rl, O3]
    exact h1.imp id fun ⟨cs, hx, hv⟩ => ⟨cs, AVX.dep d a false hx, hv⟩
  | .nil, true, _, h => h
  | .cons _ _, false, _, h => h.elim
  | .nil, false, _, h => h.elim
  | .nst k i p o e, false, _, ⟨hk, h0, h1, b, v, ha, ho, e1, e2, hc⟩ => ⟨hk, h0, by rw [d.at_ k hk]; exact h1, b, v, by rw [d.at_ k hk]; exact ha, d.lab b k [] ho hk, e1, e2, by rw [d.at_ k hk]; exact hc⟩
  | .nst _ _ _ _ _, true, _, h => h.elim
  | .dat _ _ _, true, _, h => h.elim
  | .zs, true, _, h => h.elim
  | .ref _, true, _, h => h.elim
  | .sld _ _, true, _, h => h.elim
  | .ptr _ _ _ _, true, _, h => h.elim
  | .rop _ _ _, true, _, h => h.elim
  | .nilp, true, _, h => h.elim
  | .pr _ _, true, _, h => h.elim
  | .fn _ _, true, _, h => h.elim
  | .un _, true, _, h => h.elim
theorem AVR.dep {bor : List Nat} (d : Dep bor g g' n) {a : AV} {v : Value} (h : AVR w g n a v) : AVR w g' n (a.dep bor) v := by
  cases ht : a.isTup with
  | false =>
    rw [AVR.iff ht] at h
    rw [AVR.iff (by rw [Uy]; exact ht), Rl, O3]
    exact h.imp id fun ⟨cs, h, hv⟩ => ⟨cs, AVX.dep d a false h, hv⟩
  | true =>
    cases a with
    | cons a b => obtain ⟨vs, e, h⟩ := h; exact ⟨vs, e, AVX.dep d (.cons a b) true h⟩
    | nil => exact h
    | _ => cases ht
theorem BlkR.dep {bor : List Nat} (d : Dep bor g g' n) {k : Nat} (hk : k < n) {b : Blk} (h : BlkR w g n k b) : BlkR w g' n k (b.dep bor) := by
  cases b with
  | dead => trivial
  | box a =>
    obtain ⟨h1, b, cs, e, ha, ho, hh, hx⟩ := h
    exact ⟨by rw [d.at_ k hk]; exact h1, b, cs, e, by rw [d.at_ k hk]; exact ha, d.lab b k [] ho hk, hh, AVX.dep d a false hx⟩
  | row e m t xs =>
    obtain ⟨hmi, hlen, hes, hpos, hr⟩ := h
    refine ⟨?_, by rw [d.at_ k hk]; exact hlen, by rw [d.at_ k hk]; exact hes, hpos, ?_⟩
    · cases m with
      | deep => exact hmi
      | sh ks => exact appLt d hmi
    · rw [d.at_ k hk]
      refine hr.imp id fun ⟨b, cur, ds, ha, ho, hh, h1, h2, h3, h4, hc⟩ => ⟨b, cur, ds, ha, d.lab b k [] ho hk, hh, h1, h2, h3, h4, ?_⟩
      cases m with
      | deep => exact hc.mono fun i x c r => r.mono fun b q hb => ⟨d.lab b k _ hb hk, rfl⟩
      | sh ks => exact hc.mono fun x c r => r.mono fun b a => ⟨a.dep d hmi, rfl⟩
end
end Go.Va
namespace Go.Va
def ArgsR (w : World) (g : G) (n : Nat) : List AV → List Value → Prop
  | [], [] => True
  | a :: as', v :: vs => AVR w g n a v ∧ ArgsR w g n as' vs
  | _, _ => False
structure SoundC (P : Program) (f : FuncId) (c : Callee) : Prop where
  nat : CNat c
  snd : ∀ (args : List AV) (E : List Blk) (av : AV) (E' : List Blk), c.run (AV × List Blk) args E (fun v b => some (v, b)) = some (av, E') → E.length ≤ E'.length ∧
    ∀ (w : World) (g : G) (vs : List Value), Heap w g E → ArgsR w g E.length args vs → ∀ (o : Oper) (a : Act) (next : Act → World → Prop) (Q : Exit → Act → World → Prop),
      (∀ v w' g', Heap w' g' E' → AVR w' g' E'.length av v → Step (List.range E.length) E.length w g w' g' → next (a.put o.dst v) w') → o.upon P a next Q ((callFunc f vs.toArray).run P w)
theorem SF : ∀ {π : List Nat} {k : Nat}, k ∈ π → idxOf π k < π.length
  | x :: r, k, h => by
    simp only [idxOf]
    split
    · simp
    · rename_i hne
      have : k ∈ r := by
        rcases List.mem_cons.1 h with h | h
        · subst h; simp at hne
        · exact h
      have := SF this
      simp; omega
theorem P9 : ∀ {π : List Nat} {k : Nat}, k ∈ π → π[idxOf π k]? = some k
  | x :: r, k, h => by
    simp only [idxOf]
    split
    · rename_i he; simp at he; simp [he]
    · rename_i hne
      have : k ∈ r := by
        rcases List.mem_cons.1 h with h | h
        · subst h; simp at hne
        · exact h
      simpa using P9 this
theorem MA : ∀ {π : List Nat} {j k : Nat}, nodup π = true → π[j]? = some k → idxOf π k = j
  | x :: r, 0, k, _, h => by simp at h; subst h; simp [idxOf]
  | x :: r, j + 1, k, hn, h => by
    simp only [nodup, Bool.and_eq_true, Bool.not_eq_true'] at hn
    have hr : r[j]? = some k := by simpa using h
    have : x ≠ k := fun e => by
      subst e
      have hm : x ∈ r := List.mem_of_getElem? hr
      have := hn.1
      simp [hm] at this
    simp only [idxOf]
    rw [if_neg (by simpa using this), MA hn.2 hr]
theorem Np : ∀ {π : List Nat} {L bs : List Blk} {k : Nat} {x : Blk}, L.length = π.length → (setAll bs π L)[k]? = some x → (k ∉ π ∧ bs[k]? = some x) ∨ ∃ j : Nat, π[j]? = some k ∧ L[j]? = some x
  | [], [], bs, k, x, _, h => .inl ⟨by simp, h⟩
  | p :: π, b :: L, bs, k, x, hl, h => by
    rcases Np (π := π) (L := L) (by simpa using hl) h with ⟨h1, h2⟩ | ⟨j, h1, h2⟩
    · rw [List.getElem?_set] at h2
      split at h2
      · rename_i he; subst he
        split at h2
        · injection h2 with h2; exact .inr ⟨0, rfl, by rw [← h2]; rfl⟩
        · cases h2
      · rename_i hne
        exact .inl ⟨by simp only [List.mem_cons, not_or]; exact ⟨fun e => hne e.symm, h1⟩, h2⟩
    · exact .inr ⟨j + 1, by simpa using h1, by simpa using h2⟩
  | [], _ :: _, _, _, _, hl, _ => by simp at hl
  | _ :: _, [], _, _, _, hl, _ => by simp at hl
theorem LL : ∀ (π : List Nat) (L bs : List Blk), (setAll bs π L).length = bs.length
  | [], _, _ => by simp [setAll]
  | _ :: _, [], _ => by simp [setAll]
  | p :: π, b :: L, bs => by rw [setAll, LL π L, List.length_set]
def G.call (g : G) (π bor : List Nat) : G := ⟨fun b => match g.own b with | .imm => .imm | .lab k r => if k ∈ π then .lab (idxOf π k) r else if k ∈ bor then .imm else .no | .no => .no, fun j => g.at_ (π.getD j 0)⟩
def G.ret (g gc : G) (n : Nat) (π : List Nat) : G :=
  ⟨fun b => match gc.own b with | .lab j r => .lab (backTo n π j) r | t => match g.own b with | .lab k r => if k ∈ π then t else .lab k r | _ => t, fun k => if k < n then g.at_ k else gc.at_ (k - n + π.length)⟩
def G.back (g gc : G) (n : Nat) (π : List Nat) : G := ⟨fun b => match gc.own b with | .lab j r => .lab (backTo n π j) r | t => t, fun k => if k < n then g.at_ k else gc.at_ (k - n + π.length)⟩
section
variable {w : World} {g : G} {bs : List Blk} {π bor : List Nat}
theorem NQ {k : Nat} (hk : k ∈ π) : Ren (idxOf π) g (g.call π bor) π.length k where
  lt := SF hk
  at_ := by
    have := P9 hk
    simp [G.call, List.getD, this]
  own b r h := by simp [G.call, h, hk]
theorem NR {b : Nat} (h : g.own b = .imm) : (g.call π bor).own b = .imm := by simp [G.call, h]
theorem Kz (hb : ∀ k ∈ bor, k ∉ π) {ks : List Nat} (hk : ∀ k ∈ ks, k ∈ bor) {b : Nat} (h : Al g.own ks b) : Al (g.call π bor).own [] b := by
  rcases h with h | ⟨k, hks, r, h⟩
  · exact .inl (NR h)
  · have h1 := hk k hks
    exact .inl (by simp [G.call, h, hb k h1, h1])
theorem SL (H : Heap w g bs) (hn : nodup π = true) (hcl : ∀ k ∈ π, ∃ b, bs[k]? = some b ∧ ∀ j ∈ b.ids, j ∈ π) : Heap w (g.call π bor) (π.map fun k => ((bs[k]?).getD .dead).ren (idxOf π)) := by
  refine ⟨fun b hb => by simp [G.call, H.fresh b hb], fun j x hx => ?_⟩
  rw [List.getElem?_map] at hx
  cases hj : π[j]? with
  | none => rw [hj] at hx; cases hx
  | some k =>
    rw [hj] at hx
    injection hx with hx; subst hx
    have hk : k ∈ π := List.mem_of_getElem? hj
    obtain ⟨b, hb, hids⟩ := hcl k hk
    have := (H.blk k b hb).ren (φ := idxOf π) (g' := g.call π bor) (n' := π.length) (fun b h => NR h) (NQ hk) (fun j hj => NQ (hids j hj))
    rw [MA hn hj] at this
    simp only [hb, Option.getD_some, List.length_map]
    exact this
theorem Ro {t : Ty} {v : AV} {y : t.V} (h : rd bs t v = some y) : v.isAgg = t.isAgg := by
  have plain : ∀ (t : Ty) (ks : List Nat) (u : Ty) (z : u.V) (y : t.V), castV u t z = some y → (AV.dat ks u z).isAgg = t.isAgg := fun t ks u z y h => by
    obtain ⟨e, _⟩ := AW h
    subst e; rfl
  cases t with
  | pair a b => cases v <;> simp only [rd, reduceCtorEq] at h <;> first | exact plain _ _ _ _ _ h | rfl
  | sl t => cases v <;> simp only [rd, reduceCtorEq] at h <;> first | exact plain _ _ _ _ _ h | rfl
  | int k => cases v <;> simp only [rd, reduceCtorEq] at h <;> exact plain _ _ _ _ _ h
  | bool => cases v <;> simp only [rd, reduceCtorEq] at h <;> exact plain _ _ _ _ _ h
  | str => cases v <;> simp only [rd, reduceCtorEq] at h <;> exact plain _ _ _ _ _ h
  | unit => cases v <;> simp only [rd, reduceCtorEq] at h <;> exact plain _ _ _ _ _ h
  | opq z => cases v <;> simp only [rd, reduceCtorEq] at h <;> exact plain _ _ _ _ _ h
theorem Yp (H : Heap w g bs) {k : Nat} {i : Int} {a : AV} (h : atB bs k i = some a) (hi : i.toNat < (g.at_ k).len) {b : Nat} (hb : (g.at_ k).a = some ⟨b, 0, none⟩) : g.own b = .lab k [] := by
  unfold atB at h
  split at h
  · rename_i a' hx
    obtain ⟨h1, b', cs, e, ha, ho, hh, hr⟩ := H.blk k _ hx
    rw [hb] at ha; injection ha with ha; injection ha with ha; subst ha
    exact ho
  · rename_i e m t xs hx
    obtain ⟨hmi, hlen, hes, hpos, hr⟩ := H.blk k _ hx
    rcases hr with ⟨hx0, _⟩ | ⟨b', cur, ds, ha, ho, _⟩
    · rw [hlen, hx0] at hi; simp at hi
    · rw [hb] at ha; injection ha with ha; injection ha with ha; subst ha
      exact ho
  · cases h
theorem Aa8 (H : Heap w g bs) (hb : ∀ k ∈ bor, k ∉ π) {m : PM} {v a : AV} {l : List Nat} (h : argA bs m v = some (a, l)) (hl : ∀ k ∈ l, k ∈ bor) (hr : ∀ k ∈ argIds m v, k ∈ π) {x : Value} (hx : AVR w g bs.length v x) : AVR w (g.call π bor) π.length (a.ren (idxOf π)) x := by
  cases m with
  | d t =>
    simp only [argA] at h
    split at h
    · rename_i y hy
      simp only [Option.some.injEq, Prod.mk.injEq] at h
      obtain ⟨rfl, rfl⟩ := h
      obtain ⟨htup, hun⟩ := Mq hy
      obtain ⟨cs, hcs, hv⟩ := BG htup hun hx
      refine B7 rfl (cs := cs) ⟨fun k hk => by (cases hk), (JM H t v y cs hy hcs).1.mono fun b hA => ⟨Kz hb hl hA, rfl⟩⟩ ?_
      rw [Ro hy] at hv
      exact hv
    · cases h
  | p t =>
    cases v with
    | rop ks u y =>
      simp only [argA] at h
      split at h
      · rename_i z hz
        simp only [Option.some.injEq, Prod.mk.injEq] at h
        obtain ⟨rfl, rfl⟩ := h
        obtain ⟨e, he⟩ := AW hz
        subst e; simp only at he; subst he
        obtain ⟨hk, b, off, ds, rfl, ha, hrd, hc⟩ := LK hx
        exact OG (fun k hk => by cases hk) (Kz hb hl ha) (hrd.mono fun b hA => ⟨Kz hb hl hA, rfl⟩) hc
      · cases h
    | ptr k i p o =>
      simp only [argA] at h
      split at h
      · rename_i c hc
        split at h
        · rename_i y hy
          simp only [Option.some.injEq, Prod.mk.injEq] at h
          obtain ⟨rfl, rfl⟩ := h
          obtain ⟨hk, h0, h1, b, hba, rfl⟩ := JP hx
          obtain ⟨cs, hcs, hcell⟩ := Mj H hc h1 hba
          have hown : g.own b = .lab k [] := by
            unfold atP at hc
            split at hc
            · rename_i d hd; exact Yp H hd h1 hba
            · cases hc
          exact OG (fun k hk => by cases hk) (Kz hb hl (.mem (List.mem_cons_self) hown)) ((JM H t c y cs hy hcs).1.mono fun b hA => ⟨Kz hb hl (hA.mono fun k hk => List.mem_cons_of_mem _ hk), rfl⟩) hcell
        · cases h
      · cases h
    | _ => simp [argA] at h
  | raw =>
    simp only [argA, Option.some.injEq, Prod.mk.injEq] at h
    obtain ⟨rfl, rfl⟩ := h
    exact hx.ren (fun b h => NR h) fun k hk => NQ (hr k hk)
theorem SV (H : Heap w g bs) (hb : ∀ k ∈ bor, k ∉ π) : ∀ {ms : List PM} {vs as' : List AV} {l roots : List Nat} {xs : List Value}, argsA bs ms vs = some (as', l, roots) → (∀ k ∈ l, k ∈ bor) → (∀ k ∈ roots, k ∈ π) → ArgsR w g bs.length vs xs →
    ArgsR w (g.call π bor) π.length (as'.map (·.ren (idxOf π))) xs
  | [], [], as', l, roots, [], h, _, _, _ => by
    simp only [argsA, Option.some.injEq, Prod.mk.injEq] at h
    obtain ⟨rfl, _, _⟩ := h
    trivial
  | m :: ms, v :: vs, as', l, roots, x :: xs, h, hl, hr, hx => by
    simp only [argsA] at h
    split at h
    · rename_i a l1 as'' ls rs h1 h2
      simp only [Option.some.injEq, Prod.mk.injEq] at h
      obtain ⟨rfl, rfl, rfl⟩ := h
      exact ⟨Aa8 H hb h1 (fun k hk => hl k (List.mem_append_left _ hk)) (fun k hk => hr k (List.mem_append_left _ hk)) hx.1,
        SV H hb h2 (fun k hk => hl k (List.mem_append_right _ hk)) (fun k hk => hr k (List.mem_append_right _ hk)) hx.2⟩
    · cases h
  | [], [], _, _, _, _ :: _, _, _, _, hx => hx.elim
  | [], _ :: _, _, _, _, _, h, _, _, _ => by simp [argsA] at h
  | _ :: _, [], _, _, _, _, h, _, _, _ => by simp [argsA] at h
  | _ :: _, _ :: _, _, _, _, [], _, _, _, hx => hx.elim
end
end Go.Va
namespace Go.Va
theorem PQ {n : Nat} {π : List Nat} {j k : Nat} (h : π[j]? = some k) : backTo n π j = k := by simp [backTo, h]
theorem QG {n : Nat} {π : List Nat} {j : Nat} (h : π.length ≤ j) : backTo n π j = n + (j - π.length) := by
  have : π[j]? = none := List.getElem?_eq_none h
  simp [backTo, this]
theorem TP (bs : List Blk) : dropB [] bs = bs := rfl
theorem Pb {P : Program} {f : FuncId} {c : Callee} (hc : SoundC P f c) {bs : List Blk} {args : List AV} {e : Eff} (h : callA c bs args some = some e) :
    bs.length ≤ e.blks.length ∧ (e.mods = [] → ∃ l, e.blks = bs ++ l) ∧ ∀ (w : World) (g : G) (vs : List Value), Heap w g bs → ArgsR w g bs.length args vs → ∀ (o : Oper) (a : Act) (next : Act → World → Prop) (Q : Exit → Act → World → Prop),
      (∀ v w' g', Heap w' g' e.blks → AVR w' g' e.blks.length e.val v → Step e.mods bs.length w g w' g' → next (a.put o.dst v) w') → o.upon P a next Q ((callFunc f vs.toArray).run P w) := by
  unfold callA at h
  split at h
  · cases h
  · rename_i as' bor roots hargs
    dsimp only at h
    split at h
    · rename_i hck
      simp only [Bool.and_eq_true] at hck
      obtain ⟨⟨⟨hbor, hnd⟩, hroots⟩, hcl⟩ := hck
      generalize hπ : reach bs bs.length (insN [] roots) = π at *
      rw [hc.nat] at h
      cases hrun : c.run (AV × List Blk) (as'.map (·.ren (idxOf π))) (π.map fun k => ((bs[k]?).getD .dead).ren (idxOf π)) fun v b => some (v, b) with
      | none => rw [hrun] at h; cases h
      | some p =>
        obtain ⟨av, E'⟩ := p
        rw [hrun] at h
        simp only [Option.bind_some] at h
        split at h
        · rename_i hle
          injection h with h; subst h
          obtain ⟨hgrow, hsnd⟩ := hc.snd _ _ _ _ hrun
          rw [List.length_map] at hgrow hsnd
          have hbp : ∀ k ∈ bor, k ∉ π ∧ k < bs.length := fun k hk => by
            have := List.all_eq_true.1 hbor k hk
            simpa using this
          have hcl' : ∀ k ∈ π, ∃ b, bs[k]? = some b ∧ ∀ j ∈ b.ids, j ∈ π := fun k hk => by
            have := List.all_eq_true.1 hcl k hk
            split at this
            · rename_i b hb
              exact ⟨b, hb, fun j hj => by have := List.all_eq_true.1 this j hj; simpa using this⟩
            · cases this
          have hr' : ∀ k ∈ roots, k ∈ π := fun k hk => by have := List.all_eq_true.1 hroots k hk; simpa using this
          have hπlt : ∀ k ∈ π, k < bs.length := fun k hk => by obtain ⟨b, hb, _⟩ := hcl' k hk; exact AE hb
          let n := bs.length
          let φ := backTo n π
          let E1 := (E'.take π.length).map fun b => (b.ren φ).dep bor
          let E2 := (E'.drop π.length).map fun b => (b.ren φ).dep bor
          have hE1 : E1.length = π.length := by simp only [E1, List.length_map, List.length_take]; omega
          have hlen : (setAll (dropB π bs) π E1 ++ E2).length = n + (E'.length - π.length) := by
            rw [List.length_append, LL, AD]
            simp [E2, n]
          refine ⟨by show n ≤ (setAll (dropB π bs) π E1 ++ E2).length; rw [hlen]; omega, fun h0 => ?_, fun w g vs H hx o a next Q hn => ?_⟩
          · have h0 : π = [] := h0
            refine ⟨E2, ?_⟩
            show setAll (dropB π bs) π E1 ++ E2 = _
            rw [h0]
            simp [setAll, TP]
          · have Hc := SL (bor := bor) H hnd hcl'
            have Ac := SV (bor := bor) H (fun k hk => (hbp k hk).1) hargs (fun k hk => hk) hr' hx
            refine hsnd w (g.call π bor) vs Hc Ac o a next Q fun v w' gc H' hv st => ?_
            let g1 := g.back gc n π
            let g' := g.ret gc n π
            have hlt : ∀ b, g.own b ≠ .no → b < w.heap.size := fun b h => Lr H h
            have hkeep : ∀ b k r, g.own b = .lab k r → k ∉ π → (gc.own b = .imm ∧ k ∈ bor ∨ gc.own b = .no) ∧ w'.heap[b]? = w.heap[b]? := fun b k r hb hk => by
              by_cases hkb : k ∈ bor
              · have := st.imm b (by simp [G.call, hb, hk, hkb])
                exact ⟨.inl ⟨this.1, hkb⟩, this.2⟩
              · have := st.no b (hlt b (by rw [hb]; simp)) (by simp [G.call, hb, hk, hkb])
                exact ⟨.inr this.1, this.2⟩
            have hst : Step π n w g w' g' := by
              refine ⟨st.os, st.tape, st.output, st.size, fun b hb h => ?_, fun b h => ?_, fun b k r h hk hm => ?_, fun k hk => ?_⟩
              · have := st.no b hb (by simp [G.call, h])
                exact ⟨by simp [g', G.ret, this.1, h], this.2⟩
              · have := st.imm b (by simp [G.call, h])
                exact ⟨by simp [g', G.ret, this.1, h], this.2⟩
              · obtain ⟨h1, h2⟩ := hkeep b k r h hm
                refine ⟨?_, h2⟩
                rcases h1 with ⟨h1, _⟩ | h1 <;> simp [g', G.ret, h1, h, hm]
              · have hk' : k < bs.length := hk
                simp [g', G.ret, n, hk']
            have hren : ∀ j, j < E'.length → Ren φ gc g1 (n + (E'.length - π.length)) j := fun j hj => by
              rcases Nat.lt_or_ge j π.length with hjl | hjl
              · obtain ⟨k, hk⟩ : ∃ k, π[j]? = some k := ⟨_, List.getElem?_eq_getElem hjl⟩
                have hkm : k ∈ π := List.mem_of_getElem? hk
                have hkn : k < bs.length := hπlt k hkm
                refine ⟨by rw [show φ j = k from PQ hk]; omega, ?_, fun b r hb => by simp [g1, G.back, hb, φ]⟩
                rw [show φ j = k from PQ hk]
                have h1 : gc.at_ j = (g.call π bor).at_ j := st.at_ j hjl
                rw [h1]
                simp [g1, G.back, n, hkn, G.call, List.getD, hk]
              · refine ⟨by rw [show φ j = n + (j - π.length) from QG hjl]; omega, ?_, fun b r hb => by simp [g1, G.back, hb, φ]⟩
                rw [show φ j = n + (j - π.length) from QG hjl]
                have : ¬ n + (j - π.length) < n := by omega
                simp only [g1, G.back, if_neg this]
                congr 1
                omega
            have himm : ∀ b, gc.own b = .imm → g1.own b = .imm := fun b hb => by simp [g1, G.back, hb]
            have hdep : Dep bor g1 g' (n + (E'.length - π.length)) := by
              refine ⟨fun b hb => ?_, fun b k r hb hk => ?_, fun k hk => rfl, fun k hk => by have := (hbp k hk).2; omega⟩
              · have hgc : gc.own b = .imm := by
                  simp only [g1, G.back] at hb
                  split at hb
                  · cases hb
                  · exact hb
                cases hg : g.own b with
                | no => exact .inl (by simp [g', G.ret, hgc, hg])
                | imm => exact .inl (by simp [g', G.ret, hgc, hg])
                | lab k r =>
                  by_cases hk : k ∈ π
                  · exact .inl (by simp [g', G.ret, hgc, hg, hk])
                  · obtain ⟨h1, _⟩ := hkeep b k r hg hk
                    rcases h1 with ⟨_, hkb⟩ | h1
                    · exact .inr ⟨k, hkb, r, by simp [g', G.ret, hgc, hg, hk]⟩
                    · rw [hgc] at h1; cases h1
              · simp only [g1, G.back] at hb
                split at hb
                · rename_i j r' hj
                  simp only [g', G.ret, hj]; exact hb
                · rename_i h1
                  exact (h1 k r hb).elim
            refine hn v w' g' ⟨fun b hb => ?_, fun k x hx => ?_⟩ ?_ hst
            · have h1 := H'.fresh b hb
              have h2 := H.fresh b (Nat.le_trans st.size hb)
              simp [g', G.ret, h1, h2]
            · have hx : (setAll (dropB π bs) π E1 ++ E2)[k]? = some x := hx
              show BlkR w' g' (setAll (dropB π bs) π E1 ++ E2).length k x
              rw [hlen]
              have one : ∀ (j : Nat) (b : Blk), E'[j]? = some b → BlkR w' g' (n + (E'.length - π.length)) (φ j) ((b.ren φ).dep bor) := fun j b hj => by
                have hjl := AE hj
                have hb := H'.blk j b hj
                have hbr := hb.ren himm (hren j hjl) fun i hi => hren i (by
                  cases b with
                  | dead => cases hi
                  | box a => obtain ⟨_, _, _, _, _, _, _, hx⟩ := hb; exact AVX.idsLt a false hx i hi
                  | row e m t xs => exact hb.1 i hi)
                exact hbr.dep hdep (hren j hjl).lt
              rw [List.getElem?_append] at hx
              split at hx
              · rcases Np hE1 hx with ⟨hk, h⟩ | ⟨j, hj, h⟩
                · obtain ⟨y, hy, rfl⟩ := FW h
                  exact (H.blk k y hy).step hst (by omega) (AE hy) hk
                · simp only [E1, List.getElem?_map] at h
                  cases hq : (E'.take π.length)[j]? with
                  | none => rw [hq] at h; cases h
                  | some b =>
                    rw [hq] at h
                    injection h with h; subst h
                    have hq' : E'[j]? = some b := by
                      rw [List.getElem?_take] at hq
                      split at hq
                      · exact hq
                      · cases hq
                    have := one j b hq'
                    rwa [show φ j = k from PQ hj] at this
              · rename_i hk
                rw [LL, AD] at hx hk
                simp only [E2, List.getElem?_map, List.getElem?_drop] at hx
                cases hq : E'[π.length + (k - bs.length)]? with
                | none => rw [hq] at hx; cases hx
                | some b =>
                  rw [hq] at hx
                  injection hx with hx; subst hx
                  have := one _ b hq
                  rwa [show φ (π.length + (k - bs.length)) = k from by
                    rw [show φ (π.length + (k - bs.length)) = n + (π.length + (k - bs.length) - π.length) from QG (by omega)]
                    simp only [n]; omega] at this
            · show AVR w' g' (setAll (dropB π bs) π E1 ++ E2).length ((av.ren φ).dep bor) v
              rw [hlen]
              exact (hv.ren himm fun k hk => hren k (hv.idsLt k hk)).dep hdep
        · cases h
    · cases h
end Go.Va
