import Derived.Test.YtjbdmijibelnlaaGreatK13
set_option linter.unusedVariables false
set_option linter.unusedSimpArgs false
namespace Go.Va
def wt : (t : Ty) → t.V → Nat
  | .str, s => s.size
  | .pair a b, x => wt a x.1 + wt b x.2
  | .sl t, xs => xs.length + (xs.map (wt t)).sum
  | .int _, _ => 0
  | .bool, _ => 0
  | .unit, _ => 0
  | .opq _, _ => 0
def SzOk (t : Ty) (F : t.V → Int → Option Int) (x : t.V) : Prop := ∀ left : Int, 0 ≤ left → left ≤ 1048576 → F x left = some (if (wt t x : Int) ≤ left then left - (wt t x : Int) else -1)
theorem szS_ok {t : Ty} {F : t.V → Int → Option Int} {z : t.V} {G : List t.V → Int → Option Int} {r : List t.V → Int × Int → Option ((Int × Int) ⊕ (Int ⊕ Int))}
    (hG : ∀ a left, G a left = bif decide ((IntKind.i64.wrap (left - (a.length : Int))) < 0) then some (-1) else (fix (r a) (IntKind.i64.wrap (left - (a.length : Int)), 0)).bind (Sum.elim (fun _ => some (-1)) fun y => some y))
    (hr : ∀ a x, r a x = bif decide (x.2 < (a.length : Int)) then (if (0 : Int) ≤ x.2 ∧ x.2 < (a.length : Int) then
      (F (a.getD x.2.toNat z) x.1).bind fun q => bif decide (q < 0) then some (.inr (.inl q)) else some (.inl (q, IntKind.i64.wrap (x.2 + 1))) else none) else some (.inr (.inr x.1)))
    {a : List t.V} (hn : a.length ≤ maxLen) (hF : ∀ x ∈ a, SzOk t F x) : SzOk (.sl t) G a := by
  intro left h0 h1
  have hm : maxLen = 140737488355327 ∨ True := .inr trivial
  have hw : IntKind.i64.wrap (left - (a.length : Int)) = left - (a.length : Int) := by unfold maxLen at hn; exact wrap64 (by omega) (by omega)
  rw [hG, hw]
  have hwt : wt (.sl t) a = a.length + (a.map (wt t)).sum := rfl
  rw [hwt]
  by_cases hneg : left - (a.length : Int) < 0
  · rw [show decide (left - (a.length : Int) < 0) = true by simpa using hneg, cond_true, if_neg (by omega)]
  · rw [show decide (left - (a.length : Int) < 0) = false by simpa using hneg, cond_false]
    have key : Ret (fix (r a) (left - (a.length : Int), 0)) fun y => (∃ q, y = .inl q ∧ left < ((a.length + (a.map (wt t)).sum : Nat) : Int)) ∨ y = .inr (left - ((a.length + (a.map (wt t)).sum : Nat) : Int)) ∧ ((a.length + (a.map (wt t)).sum : Nat) : Int) ≤ left := by
      refine fix_rule (fun m (x : Int × Int) => ∃ k : Nat, x.2 = (k : Int) ∧ k ≤ a.length ∧ m = a.length - k ∧ x.1 = left - (a.length : Int) - (((a.take k).map (wt t)).sum : Nat) ∧ 0 ≤ x.1) (fun m x hI => ?_) a.length _ ⟨0, rfl, Nat.zero_le _, rfl, by simp, by show 0 ≤ left - (a.length : Int); omega⟩
      obtain ⟨l, i⟩ := x
      obtain ⟨k, hk1, hk, rfl, hl, hl0⟩ := hI
      simp only at hk1 hl hl0
      subst hk1
      rw [hr]
      simp only
      rcases Nat.lt_or_ge k a.length with h | h
      · rw [dlt h, cond_true, if_pos (rng h)]
        have ha : a.getD k z = a[k] := by simp [List.getD, h]
        have hsum : ((a.take (k + 1)).map (wt t)).sum = ((a.take k).map (wt t)).sum + wt t a[k] := by
          rw [List.take_succ_eq_append_getElem h, List.map_append, List.sum_append]
          simp
        have htot : ((a.take (k + 1)).map (wt t)).sum ≤ (a.map (wt t)).sum := by
          conv => rhs; rw [← List.take_append_drop (k + 1) a, List.map_append, List.sum_append]
          omega
        rw [show (k : Int).toNat = k from Int.toNat_natCast k, ha, hF _ (List.getElem_mem h) l hl0 (by omega), Option.bind_some]
        split
        · rename_i hle
          rw [show decide (l - (wt t a[k] : Int) < 0) = false by simpa using hle, cond_false]
          exact Ret.mk ⟨a.length - (k + 1), by omega, k + 1, wrap_succ h hn, h, rfl, by rw [hsum, hl]; push_cast; omega, by show 0 ≤ l - _; omega⟩
        · rename_i hgt
          refine Ret.mk (.inl ⟨_, rfl, ?_⟩)
          push_cast
          rw [hsum] at htot
          omega
      · have hk' : k = a.length := by omega
        subst hk'
        rw [dge, cond_false]
        rw [List.take_of_length_le (Nat.le_refl _)] at hl
        exact Ret.mk (.inr ⟨by rw [hl]; push_cast; rw [Int.sub_sub], by push_cast; omega⟩)
    obtain ⟨y, hy, hq⟩ := key
    rw [hy]
    rcases hq with ⟨q, rfl, hlt⟩ | ⟨rfl, hle⟩
    · rw [if_neg (by omega)]; rfl
    · rw [if_pos hle]; rfl
end Go.Va
namespace Go.Proofs.X
open Go Go.Va
theorem sz_flat {A : Type} {xs : List A} {left : Int} (h0 : 0 ≤ left) (h1 : left ≤ 1048576) (hn : xs.length ≤ maxLen) : (bif decide ((IntKind.i64.wrap (left - (xs.length : Int))) < 0) then (-1) else IntKind.i64.wrap (left - (xs.length : Int))) = if (xs.length : Int) ≤ left then left - (xs.length : Int) else -1 := by
  unfold maxLen at hn
  rw [wrap64 (by omega) (by omega)]
  split
  · rw [show decide (left - (xs.length : Int) < 0) = false by simp; omega]; rfl
  · rw [show decide (left - (xs.length : Int) < 0) = true by simp; omega]; rfl
theorem sum_zero {A : Type} {f : A → Nat} (h : ∀ x, f x = 0) (xs : List A) : (xs.map f).sum = 0 := by
  induction xs with
  | nil => rfl
  | cons x xs ih => simp [h, ih]
theorem wt_u64 (a : List Int) : wt (.sl (.int .u64)) a = a.length := congrArg (a.length + ·) (sum_zero (fun _ => rfl) a)
theorem wt_i64 (a : List Int) : wt (.sl (.int .i64)) a = a.length := congrArg (a.length + ·) (sum_zero (fun _ => rfl) a)
theorem szUint64S_ok {a : List Int} (hn : a.length ≤ maxLen) : SzOk (.sl (.int .u64)) (fun x l => some (laws_szUint64S x l)) a := fun left h0 h1 => by
  show some (laws_szUint64S a left) = _
  rw [laws_szUint64S, sz_flat h0 h1 hn, wt_u64]
theorem szInt64S_ok {a : List Int} (hn : a.length ≤ maxLen) : SzOk (.sl (.int .i64)) (fun x l => some (laws_szInt64S x l)) a := fun left h0 h1 => by
  show some (laws_szInt64S a left) = _
  rw [laws_szInt64S, sz_flat h0 h1 hn, wt_i64]
end Go.Proofs.X
namespace Go.Va
section
variable {A B : Type} {Q : A → Prop} {x y : Option A}
theorem ret_some {a : A} : Ret (some a) Q ↔ Q a := ⟨fun ⟨_, h, q⟩ => by cases h; exact q, fun h => ⟨a, rfl, h⟩⟩
theorem ret_cond {c : Bool} : Ret (bif c then x else y) Q ↔ (c = true → Ret x Q) ∧ (c = false → Ret y Q) := by cases c <;> simp
theorem ret_ite {c : Prop} [Decidable c] : Ret (if c then x else none) Q ↔ c ∧ Ret x Q := by
  by_cases h : c
  · simp [h]
  · simp [h, Ret]
theorem ret_iteN {c : Prop} [Decidable c] : Ret (if c then none else x) Q ↔ ¬ c ∧ Ret x Q := by
  by_cases h : c
  · simp [h, Ret]
  · simp [h]
theorem Ret.elim' {C D : Type} {f : C → Option A} {g : D → Option A} {z : C ⊕ D} (h : match z with | .inl c => Ret (f c) Q | .inr d => Ret (g d) Q) : Ret (Sum.elim f g z) Q := by
  cases z <;> exact h
end
theorem for_rule {X S T : Type} {f : X → Option (X ⊕ T)} (st : Nat → S → X) (n : Nat) (I : Nat → S → Prop) {Q : T → Prop}
    (h : ∀ k s, k < n → I k s → Ret (f (st k s)) fun r => match r with | .inl x => ∃ s', x = st (k + 1) s' ∧ I (k + 1) s' | .inr t => Q t)
    (he : ∀ s, I n s → Ret (f (st n s)) fun r => match r with | .inl _ => False | .inr t => Q t) {s0 : S} (h0 : I 0 s0) : Ret (fix f (st 0 s0)) Q := by
  refine fix_rule (fun m x => ∃ k s, x = st k s ∧ k ≤ n ∧ m = n - k ∧ I k s) (fun m x hI => ?_) n (st 0 s0) ⟨0, s0, rfl, Nat.zero_le _, rfl, h0⟩
  obtain ⟨k, s, rfl, hk, rfl, hI⟩ := hI
  rcases Nat.lt_or_ge k n with hlt | hge
  · refine (h k s hlt hI).mono fun r hr => ?_
    cases r with
    | inl x =>
      obtain ⟨s', rfl, hI'⟩ := hr
      exact ⟨n - (k + 1), by omega, k + 1, s', rfl, hlt, rfl, hI'⟩
    | inr t => exact hr
  · have : k = n := by omega
    subst this
    refine (he s hI).mono fun r hr => ?_
    cases r with
    | inl x => exact hr.elim
    | inr t => exact hr
def W64 (x : Int) : Prop := 0 ≤ x ∧ x < 18446744073709551616
def tb (x : Int) (j : Nat) : Bool := x.toNat.testBit j
theorem W64.toNat {x : Int} (h : W64 x) : x.toNat < 2 ^ 64 := by unfold W64 at h; omega
theorem W64.of {n : Nat} (h : n < 2 ^ 64) : W64 (n : Int) := by unfold W64; omega
theorem tb_high {x : Int} (h : W64 x) {j : Nat} (hj : 64 ≤ j) : tb x j = false :=
  Nat.testBit_lt_two_pow (Nat.lt_of_lt_of_le h.toNat (Nat.pow_le_pow_right (by decide) hj))
theorem W64.ext {x y : Int} (hx : W64 x) (hy : W64 y) (h : ∀ j, j < 64 → tb x j = tb y j) : x = y := by
  have : x.toNat = y.toNat := Nat.eq_of_testBit_eq fun j => by
    rcases Nat.lt_or_ge j 64 with hj | hj
    · exact h j hj
    · exact (tb_high hx hj).trans (tb_high hy hj).symm
  unfold W64 at hx hy
  omega
theorem wrap_nat {n : Nat} (h : n < 2 ^ 64) : IntKind.u64.wrap (n : Int) = (n : Int) := wrapU64 (by omega) (by omega)
theorem ofInt_toNat {x : Int} (h : W64 x) : (BitVec.ofInt 64 x).toNat = x.toNat := by
  unfold W64 at h
  rw [BitVec.toNat_ofInt]
  simp
  omega
theorem orI_eq {a b : Int} (ha : W64 a) (hb : W64 b) : orI .u64 a b = ((a.toNat ||| b.toNat : Nat) : Int) := by
  show IntKind.u64.wrap (((BitVec.ofInt 64 a ||| BitVec.ofInt 64 b).toNat : Nat) : Int) = _
  rw [wrap_nat (BitVec.isLt _), BitVec.toNat_or, ofInt_toNat ha, ofInt_toNat hb]
theorem andI_eq {a b : Int} (ha : W64 a) (hb : W64 b) : andI .u64 a b = ((a.toNat &&& b.toNat : Nat) : Int) := by
  show IntKind.u64.wrap (((BitVec.ofInt 64 a &&& BitVec.ofInt 64 b).toNat : Nat) : Int) = _
  rw [wrap_nat (BitVec.isLt _), BitVec.toNat_and, ofInt_toNat ha, ofInt_toNat hb]
theorem w64_or {a b : Int} (ha : W64 a) (hb : W64 b) : W64 (orI .u64 a b) := by
  rw [orI_eq ha hb]; exact .of (Nat.or_lt_two_pow ha.toNat hb.toNat)
theorem w64_and {a b : Int} (ha : W64 a) (hb : W64 b) : W64 (andI .u64 a b) := by
  rw [andI_eq ha hb]; exact .of (Nat.and_lt_two_pow _ hb.toNat)
theorem tb_or {a b : Int} (ha : W64 a) (hb : W64 b) (j : Nat) : tb (orI .u64 a b) j = (tb a j || tb b j) := by
  rw [orI_eq ha hb, tb, Int.toNat_natCast, Nat.testBit_or]; rfl
theorem tb_and {a b : Int} (ha : W64 a) (hb : W64 b) (j : Nat) : tb (andI .u64 a b) j = (tb a j && tb b j) := by
  rw [andI_eq ha hb, tb, Int.toNat_natCast, Nat.testBit_and]; rfl
theorem shrI_eq {a : Int} (ha : W64 a) {s : Int} {n : Nat} (hs : s = (n : Int)) (hn : n ≤ 64) : shrI .u64 a s = ((a.toNat / 2 ^ n : Nat) : Int) := by
  subst hs
  unfold W64 at ha
  obtain ⟨m, rfl⟩ : ∃ m : Nat, a = (m : Int) := ⟨a.toNat, by omega⟩
  have h : shrI .u64 (m : Int) (n : Int) = Int.fdiv (m : Int) (2 ^ min ((n : Int).toNat) 64) := rfl
  rw [h, Int.toNat_natCast, Int.toNat_natCast, Nat.min_eq_left hn, Int.fdiv_eq_ediv_of_nonneg _ (by exact Int.le_of_lt (Int.pow_pos (by decide)))]
  norm_cast
theorem w64_shr {a : Int} (ha : W64 a) {s : Int} {n : Nat} (hs : s = (n : Int)) (hn : n ≤ 64) : W64 (shrI .u64 a s) := by
  rw [shrI_eq ha hs hn]; exact .of (Nat.lt_of_le_of_lt (Nat.div_le_self _ _) ha.toNat)
theorem tb_shr {a : Int} (ha : W64 a) {s : Int} {n : Nat} (hs : s = (n : Int)) (hn : n ≤ 64) (j : Nat) : tb (shrI .u64 a s) j = tb a (j + n) := by
  rw [shrI_eq ha hs hn, tb, Int.toNat_natCast, Nat.testBit_div_two_pow, tb, Nat.add_comm]
theorem shlI_eq {a : Int} (ha : W64 a) {s : Int} {n : Nat} (hs : s = (n : Int)) (hn : n ≤ 64) : shlI .u64 a s = ((a.toNat * 2 ^ n % 18446744073709551616 : Nat) : Int) := by
  subst hs
  unfold W64 at ha
  obtain ⟨m, rfl⟩ : ∃ m : Nat, a = (m : Int) := ⟨a.toNat, by omega⟩
  have h : shlI .u64 (m : Int) (n : Int) = IntKind.u64.wrap ((m : Int) * 2 ^ min ((n : Int).toNat) 64) := rfl
  have hw : ∀ x : Int, IntKind.u64.wrap x = x % 18446744073709551616 := fun x => by simp [IntKind.wrap, IntKind.bits, IntKind.signed]
  rw [h, Int.toNat_natCast, Int.toNat_natCast, Nat.min_eq_left hn, hw, Int.natCast_emod, Int.natCast_mul, Int.natCast_pow]
  rfl
theorem w64_shl {a : Int} (ha : W64 a) {s : Int} {n : Nat} (hs : s = (n : Int)) (hn : n ≤ 64) : W64 (shlI .u64 a s) := by
  rw [shlI_eq ha hs hn]; exact .of (Nat.mod_lt _ (by omega))
theorem tb_shl {a : Int} (ha : W64 a) {s : Int} {n : Nat} (hs : s = (n : Int)) (hn : n ≤ 64) (j : Nat) : tb (shlI .u64 a s) j = (decide (j < 64) && (decide (n ≤ j) && tb a (j - n))) := by
  rw [shlI_eq ha hs hn, tb, Int.toNat_natCast, show (18446744073709551616 : Nat) = 2 ^ 64 from by decide, Nat.testBit_mod_two_pow, Nat.testBit_mul_two_pow, tb]
theorem tb_zero (j : Nat) : tb 0 j = false := by simp [tb]
theorem w64_zero : W64 0 := by unfold W64; omega
theorem w64_one : W64 1 := by unfold W64; omega
theorem mask_eq {s : Int} {n : Nat} (hs : s = (n : Int)) (hn : n < 64) : IntKind.u64.wrap (shlI .u64 1 s - 1) = ((2 ^ n - 1 : Nat) : Int) := by
  have h1 : 0 < 2 ^ n := Nat.two_pow_pos n
  have h2 : 2 ^ n < 2 ^ 64 := Nat.pow_lt_pow_right (by decide) hn
  rw [shlI_eq w64_one hs (by omega)]
  rw [show (1 : Int).toNat * 2 ^ n % 18446744073709551616 = 2 ^ n by rw [show (1 : Int).toNat = 1 from rfl, Nat.one_mul]; exact Nat.mod_eq_of_lt h2]
  rw [show ((2 ^ n : Nat) : Int) - 1 = ((2 ^ n - 1 : Nat) : Int) by omega]
  exact wrap_nat (by omega)
theorem w64_mask {s : Int} {n : Nat} (hs : s = (n : Int)) (hn : n < 64) : W64 (IntKind.u64.wrap (shlI .u64 1 s - 1)) := by
  have h2 : 2 ^ n < 2 ^ 64 := Nat.pow_lt_pow_right (by decide) hn
  rw [mask_eq hs hn]; exact .of (by omega)
theorem tb_mask {s : Int} {n : Nat} (hs : s = (n : Int)) (hn : n < 64) (j : Nat) : tb (IntKind.u64.wrap (shlI .u64 1 s - 1)) j = decide (j < n) := by
  rw [mask_eq hs hn, tb, Int.toNat_natCast, Nat.testBit_two_pow_sub_one]
theorem tb_one (j : Nat) : tb 1 j = decide (j = 0) := by
  show Nat.testBit 1 j = _
  cases j with
  | zero => rfl
  | succ j => simp [Nat.testBit_succ]
theorem eq_of_tb0 {a : Int} (ha : W64 a) : andI .u64 a 1 = if tb a 0 then 1 else 0 := by
  refine W64.ext (w64_and ha w64_one) (by split <;> first | exact w64_one | exact w64_zero) fun j _ => ?_
  rw [tb_and ha w64_one, tb_one]
  by_cases h : j = 0
  · subst h; cases h : tb a 0 <;> simp [tb_one, tb_zero]
  · cases h' : tb a 0 <;> simp [tb_one, tb_zero, h]
def Words (ws : List Int) : Prop := ∀ x ∈ ws, W64 x
def bt (ws : List Int) (i : Nat) : Bool := tb (ws.getD (i / 64) 0) (i % 64)
theorem Words.getD {ws : List Int} (h : Words ws) (k : Nat) : W64 (ws.getD k 0) := by
  rcases Nat.lt_or_ge k ws.length with hk | hk
  · rw [show ws.getD k 0 = ws[k] by simp [List.getD, hk]]; exact h _ (List.getElem_mem hk)
  · rw [show ws.getD k 0 = 0 by simp [List.getD, hk]]; exact w64_zero
theorem Words.set {ws : List Int} (h : Words ws) {k : Nat} {x : Int} (hx : W64 x) : Words (ws.set k x) := fun y hy => by
  rcases List.mem_or_eq_of_mem_set hy with h' | rfl
  · exact h y h'
  · exact hx
theorem Words.rep {n : Nat} : Words (List.replicate n 0) := fun x hx => by rw [(List.mem_replicate.1 hx).2]; exact w64_zero
theorem bt_rep (n i : Nat) : bt (List.replicate n 0) i = false := by
  unfold bt
  rw [show (List.replicate n (0 : Int)).getD (i / 64) 0 = 0 by simp [List.getD, List.getElem?_replicate]; split <;> rfl]
  exact tb_zero _
theorem bt_high {ws : List Int} {i : Nat} (h : 64 * ws.length ≤ i) : bt ws i = false := by
  unfold bt
  rw [show ws.getD (i / 64) 0 = 0 by simp [List.getD, show ws.length ≤ i / 64 by omega]]
  exact tb_zero _
theorem bt_set {ws : List Int} {k : Nat} {x : Int} (hk : k < ws.length) (i : Nat) : bt (ws.set k x) i = if i / 64 = k then tb x (i % 64) else bt ws i := by
  unfold bt
  by_cases h : i / 64 = k
  · rw [if_pos h, h, show (ws.set k x).getD k 0 = x by simp [List.getD, hk]]
  · rw [if_neg h, show (ws.set k x).getD (i / 64) 0 = ws.getD (i / 64) 0 by simp [List.getD, List.getElem?_set, show ¬ k = i / 64 from fun e => h e.symm]]
theorem words_ext {a b : List Int} (ha : Words a) (hb : Words b) (hl : a.length = b.length) (h : ∀ i, i < 64 * a.length → bt a i = bt b i) : a = b := by
  refine List.ext_getElem hl fun k h1 h2 => W64.ext (ha _ (List.getElem_mem h1)) (hb _ (List.getElem_mem h2)) fun j hj => ?_
  have := h (64 * k + j) (by omega)
  unfold bt at this
  rw [show (64 * k + j) / 64 = k by omega, show (64 * k + j) % 64 = j by omega] at this
  simpa [List.getD, h1, h2] using this
def pk (f : Nat → Bool) : Nat → Nat
  | 0 => 0
  | n + 1 => (if f n then 2 ^ n else 0) + pk f n
theorem pk_lt (f : Nat → Bool) : ∀ n, pk f n < 2 ^ n
  | 0 => by simp [pk]
  | n + 1 => by
    have := pk_lt f n
    have h2 : 2 ^ (n + 1) = 2 ^ n + 2 ^ n := by rw [Nat.pow_succ]; omega
    unfold pk
    split <;> omega
theorem pk_bit (f : Nat → Bool) : ∀ n j, (pk f n).testBit j = (decide (j < n) && f j)
  | 0, j => by simp [pk]
  | n + 1, j => by
    have hl := pk_lt f n
    unfold pk
    cases hf : f n with
    | false =>
      simp only [Bool.false_eq_true, if_false, Nat.zero_add, pk_bit f n j]
      by_cases h : j = n
      · subst h; simp [hf]
      · rw [show decide (j < n + 1) = decide (j < n) by simp; omega]
    | true =>
      simp only [if_true]
      rcases Nat.lt_trichotomy j n with h | h | h
      · rw [Nat.testBit_two_pow_add_gt h, pk_bit f n j]; simp [h]; omega
      · subst h; rw [Nat.testBit_two_pow_add_eq, Nat.testBit_lt_two_pow hl]; simp [hf]
      · rw [Nat.testBit_lt_two_pow (Nat.lt_of_lt_of_le (show 2 ^ n + pk f n < 2 ^ (n + 1) by rw [Nat.pow_succ]; omega) (Nat.pow_le_pow_right (by decide) h))]
        simp; omega
def mkW (f : Nat → Bool) (m : Nat) : List Int := (List.range m).map fun k => (pk (fun j => f (64 * k + j)) 64 : Int)
theorem mkW_len (f : Nat → Bool) (m : Nat) : (mkW f m).length = m := by simp [mkW]
theorem mkW_words (f : Nat → Bool) (m : Nat) : Words (mkW f m) := fun x hx => by
  obtain ⟨k, _, rfl⟩ := List.mem_map.1 hx
  exact .of (pk_lt _ _)
theorem mkW_bt (f : Nat → Bool) (m i : Nat) : bt (mkW f m) i = (decide (i < 64 * m) && f i) := by
  rcases Nat.lt_or_ge i (64 * m) with h | h
  · unfold bt mkW
    rw [show ((List.range m).map fun k => (pk (fun j => f (64 * k + j)) 64 : Int)).getD (i / 64) 0 = (pk (fun j => f (64 * (i / 64) + j)) 64 : Int) by
      simp [List.getD, show i / 64 < m by omega], tb, Int.toNat_natCast, pk_bit, show 64 * (i / 64) + i % 64 = i by omega]
    simp [h]; omega
  · rw [bt_high (by rw [mkW_len]; exact h)]; simp; omega
theorem words_mk {ws : List Int} (h : Words ws) {f : Nat → Bool} (hf : ∀ i, i < 64 * ws.length → bt ws i = f i) : ws = mkW f ws.length :=
  words_ext h (mkW_words _ _) (mkW_len _ _).symm fun i hi => by rw [hf i hi, mkW_bt]; simp [hi]
theorem mkW_congr {f g : Nat → Bool} {m : Nat} (h : ∀ i, i < 64 * m → f i = g i) : mkW f m = mkW g m :=
  words_ext (mkW_words _ _) (mkW_words _ _) (by rw [mkW_len, mkW_len]) fun i hi => by rw [mkW_len] at hi; rw [mkW_bt, mkW_bt, h i hi]
def low (f : Nat → Bool) (n : Nat) : Nat → Bool := fun i => decide (i < n) && f i
def nw (n : Nat) : Nat := (n + 63) / 64
end Go.Va
namespace Go.Proofs.X
open Go Go.Va
set_option maxRecDepth 100000
theorem tdiv64 {i : Nat} (h : i < 4611686018427387904) : IntKind.i64.wrap (Int.tdiv (i : Int) 64) = ((i / 64 : Nat) : Int) := by
  rw [Int.tdiv_eq_ediv_of_nonneg (by omega), wrap64 (by omega) (by omega)]
  omega
theorem tmod64 (i : Nat) : Int.tmod (i : Int) 64 = ((i % 64 : Nat) : Int) := by
  rw [Int.tmod_eq_emod_of_nonneg (by omega)]
  omega
theorem words64 {n : Nat} (h : n ≤ 1048576) : IntKind.i64.wrap (Int.tdiv (IntKind.i64.wrap ((n : Int) + 63)) 64) = ((nw n : Nat) : Int) := by
  rw [wrap64 (x := (n : Int) + 63) (by omega) (by omega), show (n : Int) + 63 = ((n + 63 : Nat) : Int) by omega, tdiv64 (by omega)]
  rfl
def mkB (n : Nat) (f : Nat → Bool) : Timpl_Bits.V := ((n : Int), mkW (low f n) (nw n), ())
def bI (b : Bool) : Int := if b then 1 else 0
theorem bI_inj {a b : Bool} : bI a = bI b ↔ a = b := by cases a <;> cases b <;> decide
def BitsP (n : Nat) (ws : List Int) : Prop := 1 ≤ n ∧ n ≤ 4096 ∧ ws.length = nw n ∧ Words ws ∧ ∀ i, n ≤ i → bt ws i = false
theorem mkB_right {n : Nat} {f : Nat → Bool} (h1 : 1 ≤ n) (h2 : n ≤ 4096) : BitsP n (mkW (low f n) (nw n)) :=
  ⟨h1, h2, mkW_len _ _, mkW_words _ _, fun i hi => by rw [mkW_bt]; simp [low]; omega⟩
theorem BitsP.eq {n : Nat} {ws : List Int} (h : BitsP n ws) : ws = mkW (low (bt ws) n) (nw n) := by
  obtain ⟨_, _, hl, hw, hz⟩ := h
  conv => lhs; rw [words_mk hw (f := low (bt ws) n) fun i hi => by
    unfold low
    by_cases h : i < n
    · simp [h]
    · rw [hz i (by omega)]; simp]
  rw [hl]
theorem bt_mkB {n : Nat} {f : Nat → Bool} {i : Nat} (hi : i < n) : bt (mkW (low f n) (nw n)) i = f i := by
  rw [mkW_bt]; unfold nw low
  simp [hi]; omega
theorem bt_mkW_low {n : Nat} {f : Nat → Bool} {i : Nat} : bt (mkW (low f n) (nw n)) i = (decide (i < n) && f i) := by
  by_cases h : i < n
  · rw [bt_mkB h]; simp [h]
  · rw [mkW_bt]; unfold low; simp [h]
theorem mkB_congr {n : Nat} {f g : Nat → Bool} (h : ∀ i, i < n → f i = g i) : mkB n f = mkB n g := by
  unfold mkB
  rw [mkW_congr fun i _ => show low f n i = low g n i by
    unfold low
    by_cases hi : i < n
    · simp [hi, h i hi]
    · simp [hi]]
theorem mkB_inj {n : Nat} {f g : Nat → Bool} (h : mkB n f = mkB n g) : ∀ i, i < n → f i = g i := fun i hi => by
  have : mkW (low f n) (nw n) = mkW (low g n) (nw n) := congrArg (fun x : Timpl_Bits.V => x.2.1) h
  rw [← bt_mkB hi (f := f), this, bt_mkB hi]
theorem l1Bit_ok {w : Int} {ws : List Int} (hw : Words ws) {i : Nat} (hi : i < 64 * ws.length) (hn : ws.length ≤ 1048576) : spec_l1Bit (w, ws, ()) (i : Int) = some (bI (bt ws i)) := by
  unfold spec_l1Bit
  rw [tdiv64 (by omega), tmod64, wrapU64 (by omega) (by omega)]
  rw [if_pos ⟨by omega, by show ((i / 64 : Nat) : Int) < (ws.length : Int); omega⟩, if_neg (by omega), Int.toNat_natCast]
  show some (IntKind.u8.wrap (andI .u64 (shrI .u64 (ws.getD (i / 64) 0) ((i % 64 : Nat) : Int)) 1)) = _
  rw [show IntKind.u8.wrap (andI .u64 (shrI .u64 (ws.getD (i / 64) 0) ((i % 64 : Nat) : Int)) 1) = bI (bt ws i) by
    rw [eq_of_tb0 (w64_shr (hw.getD _) rfl (by omega)), tb_shr (hw.getD _) rfl (by omega), Nat.zero_add]
    show IntKind.u8.wrap (bI (bt ws i)) = _
    cases bt ws i <;> rfl]
theorem words_of {ws : List Int} (h : ∀ x ∈ ws, (IntKind.u64).min ≤ x ∧ x ≤ (IntKind.u64).max) : Words ws := fun x hx => by
  have := h x hx
  unfold W64
  simp only [IntKind.min, IntKind.max, IntKind.bits, IntKind.signed] at this
  simp at this
  omega
theorem specBitsOk_ok {w : Int} {ws : List Int} (hw : Words ws) (hn : ws.length ≤ 1048576) : Ret (spec_BitsOk (w, ws, ())) fun r => r = true ↔ ∃ n : Nat, w = (n : Int) ∧ BitsP n ws := by
  unfold spec_BitsOk
  refine Ret.cond (fun h => Ret.mk ?_) fun h => ?_
  · simp only [Bool.false_eq_true, false_iff, not_exists, not_and]
    rintro n rfl ⟨h1, h2, h3, _⟩
    unfold nw at h3
    simp only [spec_l1In, words64 (show n ≤ 1048576 by omega), Bool.or_eq_true, Bool.not_eq_true', Bool.and_eq_false_iff, decide_eq_false_iff_not, bne_iff_ne] at h
    unfold nw at h
    omega
  · have hb : 1 ≤ w ∧ w ≤ 4096 := by
      simp only [spec_l1In, Bool.or_eq_false_iff, Bool.not_eq_false', Bool.and_eq_true, decide_eq_true_eq] at h
      omega
    obtain ⟨n, rfl⟩ : ∃ n : Nat, w = (n : Int) := ⟨w.toNat, by omega⟩
    have hl : ws.length = nw n := by
      simp only [Bool.or_eq_false_iff, bne_eq_false_iff_eq] at h
      have h := h.2
      rw [words64 (by omega)] at h
      omega
    have key : Ret (spec_BitsOk_l1 ((n : Int), ws, ()) (n : Int)) fun t => (t = .inl () ∧ ¬ ∀ i, n ≤ i → bt ws i = false) ∨ (t = .inr () ∧ ∀ i, n ≤ i → bt ws i = false) := by
      have hle : n ≤ 64 * ws.length := by rw [hl]; unfold nw; omega
      have hwr : IntKind.i64.wrap (64 * (ws.length : Int)) = ((64 * ws.length : Nat) : Int) := by
        rw [wrap64 (by omega) (by omega)]; omega
      refine for_rule (fun k (_ : Unit) => ((n + k : Nat) : Int)) (64 * ws.length - n) (fun k _ => ∀ i, n ≤ i → i < n + k → bt ws i = false) (fun k _ hk hI => ?_) (fun _ hI => ?_) (s0 := ()) (fun i h1 h2 => by omega)
      · unfold spec_BitsOk_l1_r spec_BitsOk_l1_g
        rw [show IntKind.i64.wrap (64 * ((((n : Int), ws, ()) : Timpl_Bits.V).2.1.length : Int)) = ((64 * ws.length : Nat) : Int) from hwr, dlt (by omega), cond_true, l1Bit_ok hw (by omega) hn, Option.bind_some]
        cases hb : bt ws (n + k) with
        | true => exact Ret.mk (.inl ⟨rfl, fun h => by rw [h _ (by omega)] at hb; cases hb⟩)
        | false =>
          refine Ret.mk ⟨(), ?_, fun i h1 h2 => ?_⟩
          · rw [wrap64 (by omega) (by omega)]; omega
          · rcases Nat.lt_or_ge i (n + k) with h | h
            · exact hI i h1 h
            · rw [show i = n + k by omega]; exact hb
      · unfold spec_BitsOk_l1_r spec_BitsOk_l1_g
        rw [show IntKind.i64.wrap (64 * ((((n : Int), ws, ()) : Timpl_Bits.V).2.1.length : Int)) = ((64 * ws.length : Nat) : Int) from hwr, show n + (64 * ws.length - n) = 64 * ws.length by omega, dge, cond_false]
        refine Ret.mk (.inr ⟨rfl, fun i h => ?_⟩)
        rcases Nat.lt_or_ge i (64 * ws.length) with h' | h'
        · exact hI i h (by omega)
        · exact bt_high h'
    refine Ret.bind key fun t ht => ?_
    rcases ht with ⟨rfl, h'⟩ | ⟨rfl, h'⟩
    · refine Ret.mk ?_
      simp only [Bool.false_eq_true, false_iff, not_exists, not_and]
      intro m hm hp
      obtain rfl : m = n := by omega
      exact h' hp.2.2.2.2
    · exact Ret.mk ⟨fun _ => ⟨n, rfl, by omega, by omega, hl, hw, h'⟩, fun _ => rfl⟩
theorem implBitsOk_ok {w : Int} {ws : List Int} (hw : Words ws) (hn : ws.length ≤ 1048576) : Ret (impl_BitsOk (w, ws, ())) fun r => r = true ↔ ∃ n : Nat, w = (n : Int) ∧ BitsP n ws := by
  unfold impl_BitsOk
  refine Ret.cond (fun h => Ret.mk ?_) fun h => ?_
  · simp only [Bool.false_eq_true, false_iff, not_exists, not_and]
    rintro n rfl ⟨h1, h2, h3, _⟩
    unfold nw at h3
    simp only [impl_inside, impl_wordsFor, words64 (show n ≤ 1048576 by omega), Bool.or_eq_true, Bool.not_eq_true', Bool.and_eq_false_iff, decide_eq_false_iff_not, bne_iff_ne] at h
    unfold nw at h
    omega
  · have hb : 1 ≤ w ∧ w ≤ 4096 := by
      simp only [impl_inside, Bool.or_eq_false_iff, Bool.not_eq_false', Bool.and_eq_true, decide_eq_true_eq] at h
      omega
    obtain ⟨n, rfl⟩ : ∃ n : Nat, w = (n : Int) := ⟨w.toNat, by omega⟩
    have hl : ws.length = nw n := by
      simp only [Bool.or_eq_false_iff, bne_eq_false_iff_eq] at h
      have h := h.2
      rw [impl_wordsFor, words64 (by omega)] at h
      omega
    have e1 : ((n : Int), ws, ()).1 = (n : Int) := rfl
    have iff : (∃ m : Nat, (n : Int) = (m : Int) ∧ BitsP m ws) ↔ ∀ i, n ≤ i → bt ws i = false := by
      constructor
      · rintro ⟨m, hm, hp⟩
        obtain rfl : n = m := by omega
        exact hp.2.2.2.2
      · exact fun h => ⟨n, rfl, by omega, by omega, hl, hw, h⟩
    rw [iff]
    refine Ret.cond (fun h => Ret.mk ?_) fun h => ?_
    · have h : Int.tmod (n : Int) 64 = 0 := by simpa using h
      rw [tmod64] at h
      refine ⟨fun _ i hi => bt_high (by rw [hl]; unfold nw; omega), fun _ => rfl⟩
    · have h : Int.tmod (n : Int) 64 ≠ 0 := by simpa using h
      rw [tmod64] at h
      have hpos : 0 < ws.length := by rw [hl]; unfold nw; omega
      have hlast : IntKind.i64.wrap ((ws.length : Int) - 1) = ((ws.length - 1 : Nat) : Int) := by rw [wrap64 (by omega) (by omega)]; omega
      have e2 : IntKind.i64.wrap (((((n : Int), ws, ()) : Timpl_Bits.V).2.1.length : Int) - 1) = ((ws.length - 1 : Nat) : Int) := hlast
      rw [e2, if_pos ⟨by omega, by show ((ws.length - 1 : Nat) : Int) < (ws.length : Int); omega⟩]
      rw [show Int.tmod (((n : Int), ws, ()) : Timpl_Bits.V).1 64 = ((n % 64 : Nat) : Int) from tmod64 n, if_neg (by omega), Int.toNat_natCast]
      refine Ret.mk ?_
      rw [beq_iff_eq]
      have hw' := hw.getD (ws.length - 1)
      have h0 : shrI .u64 (ws.getD (ws.length - 1) 0) ((n % 64 : Nat) : Int) = 0 ↔ ∀ j, j < 64 → tb (ws.getD (ws.length - 1) 0) (j + n % 64) = false :=
        ⟨fun e j _ => by rw [← tb_shr hw' rfl (by omega), e, tb_zero], fun e => W64.ext (w64_shr hw' rfl (by omega)) w64_zero fun j hj => by rw [tb_shr hw' rfl (by omega), tb_zero]; exact e j hj⟩
      refine h0.trans ⟨fun e i hi => ?_, fun e j hj => ?_⟩
      · rcases Nat.lt_or_ge i (64 * ws.length) with h' | h'
        · unfold bt
          rw [show i / 64 = ws.length - 1 by rw [hl] at h' ⊢; unfold nw at *; omega]
          have := e (i % 64 - n % 64) (by omega)
          rwa [show i % 64 - n % 64 + n % 64 = i % 64 by rw [hl] at h'; unfold nw at *; omega] at this
        · exact bt_high h'
      · rcases Nat.lt_or_ge (j + n % 64) 64 with h' | h'
        · have := e (64 * (ws.length - 1) + (j + n % 64)) (by rw [hl]; unfold nw; omega)
          unfold bt at this
          rwa [show (64 * (ws.length - 1) + (j + n % 64)) / 64 = ws.length - 1 by omega, show (64 * (ws.length - 1) + (j + n % 64)) % 64 = j + n % 64 by omega] at this
        · exact tb_high hw' h'
end Go.Proofs.X
namespace Go.Proofs.X
open Go Go.Va
set_option maxRecDepth 100000
theorem zeroI (k : IntKind) : (Ty.zero (.int k) : Int) = 0 := rfl
theorem idx64 {a k : Nat} (h : a + 64 * k < 1073741824) : IntKind.i64.wrap ((a : Int) + IntKind.i64.wrap (64 * (k : Int))) = ((a + 64 * k : Nat) : Int) := by
  rw [wrap64 (x := 64 * (k : Int)) (by omega) (by omega), wrap64 (by omega) (by omega)]; omega
theorem wrapN {x : Int} {n : Nat} (h : x = (n : Int)) (hn : n < 4611686018427387904) : IntKind.i64.wrap x = (n : Int) := by rw [wrap64 (by omega) (by omega), h]
theorem zeroBits_ok {n : Nat} (h : n ≤ 1048576) : impl_zeroBits (n : Int) = some ((n : Int), List.replicate (nw n) 0) := by
  have hn : nw n ≤ 1048576 := by unfold nw; omega
  unfold impl_zeroBits impl_wordsFor
  rw [words64 h, if_pos ⟨rfl, by omega, by omega, by omega, by omega⟩, Int.toNat_natCast]
theorem bt_word {ws : List Int} {k j : Nat} (hj : j < 64) : bt ws (64 * k + j) = tb (ws.getD k 0) j := by
  unfold bt
  rw [show (64 * k + j) / 64 = k by omega, show (64 * k + j) % 64 = j by omega]
theorem put_l1 {a k : Nat} {d b : Int} {low row : List Int} (hw : Words low) (hr : Words row) (hk : k < low.length) (hb : a + 64 * k < 1073741824) (hin : (a + 64 * k) / 64 < row.length) :
    Ret (impl_Bits_put_l1 (a : Int) low d (k : Int) row b) fun r => Words r ∧ r.length = row.length ∧ ∀ i, i < 64 * row.length → bt r i = (bt row i || (decide (a + 64 * k ≤ i) && (decide (i < a + 64 * k + 64) && bt low (i - a)))) := by
  unfold impl_Bits_put_l1 mkr
  obtain ⟨q, hq⟩ : ∃ q, q = (a + 64 * k) / 64 := ⟨_, rfl⟩
  obtain ⟨m, hm⟩ : ∃ m, m = (a + 64 * k) % 64 := ⟨_, rfl⟩
  have e1 : IntKind.i64.wrap (Int.tdiv (((a + 64 * k : Nat) : Int)) 64) = (q : Int) := by rw [tdiv64 (by omega), hq]
  have e2 : Int.tmod (((a + 64 * k : Nat) : Int)) 64 = (m : Int) := by rw [tmod64, hm]
  have e3 : IntKind.i64.wrap ((q : Int) + 1) = ((q + 1 : Nat) : Int) := wrapN (by omega) (by omega)
  have e4 : IntKind.i64.wrap (64 - (m : Int)) = ((64 - m : Nat) : Int) := wrapN (by omega) (by omega)
  have hlk : W64 (low.getD k 0) := hw.getD k
  have hlow : ∀ i, a + 64 * k ≤ i → i < a + 64 * k + 64 → bt low (i - a) = tb (low.getD k 0) (i - a - 64 * k) := fun i h1 h2 => by
    rw [← bt_word (ws := low) (k := k) (by omega)]; congr 1; omega
  simp only [idx64 hb, e1, e2, e3, e4, List.length_set, Int.toNat_natCast, zeroI]
  rw [if_pos (rng hk), if_pos ⟨by omega, by omega⟩, if_neg (by omega), if_pos ⟨by omega, by omega⟩]
  have hsh : W64 (shlI .u64 (low.getD k 0) (m : Int)) := w64_shl hlk rfl (by omega)
  have hor : W64 (orI .u64 (row.getD q 0) (shlI .u64 (low.getD k 0) (m : Int))) := w64_or (hr.getD q) hsh
  have hqr : q < row.length := by omega
  have hrow : ∀ i, bt (row.set q (orI .u64 (row.getD q 0) (shlI .u64 (low.getD k 0) (m : Int)))) i = (bt row i || (decide (i / 64 = q) && (decide (a + 64 * k ≤ i) && bt low (i - a)))) := fun i => by
    rw [bt_set hqr]
    by_cases h : i / 64 = q
    · rw [if_pos h, tb_or (hr.getD q) hsh, tb_shl hlk rfl (by omega)]
      have : bt row i = tb (row.getD q 0) (i % 64) := by unfold bt; rw [h]
      rw [this]
      by_cases h2 : a + 64 * k ≤ i
      · rw [hlow i h2 (by omega), show i - a - 64 * k = i % 64 - m by omega]
        simp [h, h2, show i % 64 < 64 by omega, show m ≤ i % 64 by omega]
      · simp [h, h2, show ¬ m ≤ i % 64 by omega]
    · rw [if_neg h]; simp [h]
  have hset : Words (row.set q (orI .u64 (row.getD q 0) (shlI .u64 (low.getD k 0) (m : Int)))) := hr.set hor
  refine Ret.cond (fun h => ?_) fun h => ?_
  · simp only [Bool.and_eq_true, bne_iff_ne, decide_eq_true_eq] at h
    have hm0 : m ≠ 0 := by omega
    have hq1 : q + 1 < row.length := by omega
    rw [if_pos ⟨by omega, by omega⟩, if_neg (by omega), if_pos ⟨by omega, by omega⟩]
    have hsr : W64 (shrI .u64 (low.getD k 0) ((64 - m : Nat) : Int)) := w64_shr hlk rfl (by omega)
    refine Ret.mk ⟨hset.set (w64_or (hset.getD _) hsr), by rw [List.length_set, List.length_set], fun i hi => ?_⟩
    show bt (List.set _ (q + 1) (orI .u64 (List.getD _ (q + 1) 0) (shrI .u64 (low.getD k 0) ((64 - m : Nat) : Int)))) i = _
    rw [bt_set (by rw [List.length_set]; exact hq1)]
    by_cases h1 : i / 64 = q + 1
    · rw [if_pos h1, tb_or (hset.getD _) hsr, tb_shr hlk rfl (by omega)]
      have : tb ((row.set q (orI .u64 (row.getD q 0) (shlI .u64 (low.getD k 0) (m : Int)))).getD (q + 1) 0) (i % 64) = bt (row.set q (orI .u64 (row.getD q 0) (shlI .u64 (low.getD k 0) (m : Int)))) i := by unfold bt; rw [h1]
      rw [this, hrow]
      rw [show decide (i / 64 = q) = false by simp; omega, show decide (a + 64 * k ≤ i) = true by simp; omega]
      by_cases h2 : i < a + 64 * k + 64
      · rw [hlow i (by omega) h2, show i - a - 64 * k = i % 64 + (64 - m) by omega]
        simp [h2]
      · rw [tb_high hlk (by omega)]; simp [h2]
    · rw [if_neg h1, hrow]
      by_cases h2 : i / 64 = q
      · simp only [h2, decide_true, Bool.true_and]
        by_cases h3 : a + 64 * k ≤ i
        · simp [h3, show i < a + 64 * k + 64 by omega]
        · simp [h3]
      · rw [show (decide (a + 64 * k ≤ i) && (decide (i < a + 64 * k + 64) && bt low (i - a))) = false by
          by_cases h3 : a + 64 * k ≤ i
          · simp [show ¬ i < a + 64 * k + 64 by omega]
          · simp [h3]]
        simp [h2]
  · refine Ret.mk ⟨hset, List.length_set, fun i hi => ?_⟩
    have h' : m = 0 ∨ row.length ≤ q + 1 := by
      rcases Nat.eq_zero_or_pos m with h0 | h0
      · exact .inl h0
      · refine .inr ?_
        simp only [Bool.and_eq_false_iff, bne_eq_false_iff_eq, decide_eq_false_iff_not] at h
        omega
    show bt (row.set q (orI .u64 (row.getD q 0) (shlI .u64 (low.getD k 0) (m : Int)))) i = _
    rw [hrow]
    by_cases h2 : i / 64 = q
    · simp only [h2, decide_true, Bool.true_and]
      by_cases h3 : a + 64 * k ≤ i
      · simp [h3, show i < a + 64 * k + 64 by omega]
      · simp [h3]
    · rw [show (decide (a + 64 * k ≤ i) && (decide (i < a + 64 * k + 64) && bt low (i - a))) = false by
        by_cases h3 : a + 64 * k ≤ i
        · simp [show ¬ i < a + 64 * k + 64 by omega]
        · simp [h3]]
      simp [h2]
theorem put_ok {w b : Int} {a : Nat} {low row : List Int} (hw : Words low) (hr : Words row) (hl : low.length ≤ 1048576) (ha : a ≤ 1048576) (hin : ∀ k, k < low.length → (a + 64 * k) / 64 < row.length) :
    Ret (impl_Bits_put b (a : Int) (w, low, ()) row) fun r => Words r ∧ r.length = row.length ∧ ∀ i, i < 64 * row.length → bt r i = (bt row i || (decide (a ≤ i) && bt low (i - a))) := by
  unfold impl_Bits_put impl_Bits_put_l2
  refine Ret.bind (for_rule (fun k (s : List Int) => ((k : Int), s)) low.length (fun k s => Words s ∧ s.length = row.length ∧ ∀ i, i < 64 * row.length → bt s i = (bt row i || (decide (a ≤ i) && (decide (i < a + 64 * k) && bt low (i - a))))) (Q := fun r => Words r ∧ r.length = row.length ∧ ∀ i, i < 64 * row.length → bt r i = (bt row i || (decide (a ≤ i) && bt low (i - a)))) (fun k s hk hI => ?_) (fun s hI => ?_) (s0 := row) ⟨hr, rfl, fun i _ => by
      by_cases h : a ≤ i
      · simp [show ¬ i < a by omega]
      · simp [h]⟩) fun r h => Ret.mk h
  · unfold impl_Bits_put_l2_r impl_Bits_put_l2_g
    simp only
    rw [dlt hk, cond_true]
    refine Ret.bind (put_l1 hw hI.1 hk (by omega) (by rw [hI.2.1]; exact hin k hk)) fun r h => Ret.mk ⟨r, ?_, h.1, h.2.1.trans hI.2.1, fun i hi => ?_⟩
    · rw [show IntKind.i64.wrap ((k : Int) + 1) = ((k + 1 : Nat) : Int) from wrapN (by omega) (by omega)]
    · rw [h.2.2 i (by rw [hI.2.1]; exact hi), hI.2.2 i hi, Bool.or_assoc]
      congr 1
      by_cases h1 : a ≤ i
      · by_cases h2 : i < a + 64 * k
        · simp [h1, h2, show ¬ a + 64 * k ≤ i by omega, show i < a + 64 * (k + 1) by omega]
        · by_cases h3 : i < a + 64 * k + 64
          · simp [h1, h2, h3, show a + 64 * k ≤ i by omega, show i < a + 64 * (k + 1) by omega]
          · simp [h2, h3, show ¬ i < a + 64 * (k + 1) by omega]
      · simp [h1, show ¬ a + 64 * k ≤ i by omega]
  · unfold impl_Bits_put_l2_r impl_Bits_put_l2_g
    simp only
    rw [dge, cond_false]
    refine Ret.mk ⟨hI.1, hI.2.1, fun i hi => ?_⟩
    rw [hI.2.2 i hi]
    by_cases h1 : a ≤ i
    · by_cases h2 : i < a + 64 * low.length
      · simp [h2]
      · rw [bt_high (by omega : 64 * low.length ≤ i - a)]; simp
    · simp [h1]
theorem over_ok {n m : Nat} {f g : Nat → Bool} (hn : n + m ≤ 8192) : impl_Bits_over (mkB n f) (mkB m g) = some (((n + m : Nat) : Int), mkW (low (fun i => if i < m then g i else f (i - m)) (n + m)) (nw (n + m))) := by
  unfold impl_Bits_over mkB
  refine Ret.eq_ ?_
  rw [show IntKind.i64.wrap (((n : Int), mkW (low f n) (nw n), ()).1 + ((m : Int), mkW (low g m) (nw m), ()).1) = ((n + m : Nat) : Int) from wrapN (by show (n : Int) + (m : Int) = _; omega) (by omega), zeroBits_ok (by omega), Option.bind_some]
  refine Ret.bind (put_ok (a := 0) (mkW_words _ _) Words.rep (by rw [mkW_len]; unfold nw; omega) (by omega) fun k hk => by rw [mkW_len] at hk; rw [List.length_replicate]; unfold nw at *; omega) fun r1 h1 => ?_
  rw [List.length_replicate] at h1
  refine Ret.bind (put_ok (a := m) (mkW_words _ _) h1.1 (by rw [mkW_len]; unfold nw; omega) (by omega) fun k hk => by rw [mkW_len] at hk; rw [h1.2.1]; unfold nw at *; omega) fun r2 h2 => Ret.mk ?_
  refine congrArg _ (words_ext h2.1 (mkW_words _ _) (by rw [h2.2.1, h1.2.1, mkW_len]) fun i hi => ?_)
  have hi' : i < 64 * nw (n + m) := by rw [h2.2.1, h1.2.1] at hi; exact hi
  rw [h2.2.2 i (by rw [h1.2.1]; exact hi'), h1.2.2 i hi', bt_rep, bt_mkW_low, bt_mkW_low, bt_mkW_low]
  by_cases h3 : i < m
  · simp [h3, show ¬ m ≤ i by omega, show i < n + m by omega]
  · by_cases h4 : i < n + m
    · simp [h3, h4, show m ≤ i by omega, show i - m < n by omega]
    · simp [h3, h4, show ¬ i - m < n by omega]
end Go.Proofs.X
namespace Go.Proofs.X
open Go Go.Va
set_option maxRecDepth 100000
theorem cut_l1 {a k : Nat} {w w1 w2 j : Int} {ws row : List Int} (hw : Words ws) (hr : Words row) (hk : k < row.length) (hb : a + 64 * k < 1073741824) (hin : (a + 64 * k) / 64 < ws.length) :
    Ret (impl_Bits_cut_l1 (a : Int) w1 w2 (k : Int) (w, ws, ()) j row) fun r => Words r ∧ r.length = row.length ∧ ∀ i, bt r i = if i / 64 = k then bt ws (a + i) else bt row i := by
  unfold impl_Bits_cut_l1 mkr
  obtain ⟨q, hq⟩ : ∃ q, q = (a + 64 * k) / 64 := ⟨_, rfl⟩
  obtain ⟨m, hm⟩ : ∃ m, m = (a + 64 * k) % 64 := ⟨_, rfl⟩
  have e1 : IntKind.i64.wrap (Int.tdiv (((a + 64 * k : Nat) : Int)) 64) = (q : Int) := by rw [tdiv64 (by omega), hq]
  have e2 : Int.tmod (((a + 64 * k : Nat) : Int)) 64 = (m : Int) := by rw [tmod64, hm]
  have e3 : IntKind.i64.wrap ((q : Int) + 1) = ((q + 1 : Nat) : Int) := wrapN (by omega) (by omega)
  have e4 : IntKind.i64.wrap (64 - (m : Int)) = ((64 - m : Nat) : Int) := wrapN (by omega) (by omega)
  simp only [idx64 hb, e1, e2, e3, e4, List.length_set, Int.toNat_natCast, zeroI]
  rw [if_pos ⟨by omega, by omega⟩, if_neg (by omega), if_pos (rng hk)]
  have hsr : W64 (shrI .u64 (ws.getD q 0) (m : Int)) := w64_shr (hw.getD q) rfl (by omega)
  have hset : Words (row.set k (shrI .u64 (ws.getD q 0) (m : Int))) := hr.set hsr
  have hself : (row.set k (shrI .u64 (ws.getD q 0) (m : Int))).getD k 0 = shrI .u64 (ws.getD q 0) (m : Int) := by simp [List.getD, hk]
  refine Ret.cond (fun h => ?_) fun h => ?_
  · simp only [Bool.and_eq_true, bne_iff_ne, decide_eq_true_eq] at h
    rw [if_pos (rng hk), if_pos ⟨by omega, by omega⟩, if_neg (by omega), if_pos (rng hk), hself]
    have hsl : W64 (shlI .u64 (ws.getD (q + 1) 0) ((64 - m : Nat) : Int)) := w64_shl (hw.getD _) rfl (by omega)
    refine Ret.mk ⟨hset.set (w64_or hsr hsl), by rw [List.length_set, List.length_set], fun i => ?_⟩
    rw [bt_set (by rw [List.length_set]; exact hk)]
    by_cases h1 : i / 64 = k
    · rw [if_pos h1, if_pos h1, tb_or hsr hsl, tb_shr (hw.getD _) rfl (by omega), tb_shl (hw.getD _) rfl (by omega)]
      by_cases h2 : i % 64 + m < 64
      · rw [show decide (64 - m ≤ i % 64) = false by simp; omega]
        unfold bt
        rw [show (a + i) / 64 = q by omega, show (a + i) % 64 = i % 64 + m by omega]
        simp
      · rw [tb_high (hw.getD _) (by omega)]
        unfold bt
        rw [show (a + i) / 64 = q + 1 by omega, show (a + i) % 64 = i % 64 - (64 - m) by omega]
        simp [show i % 64 < 64 by omega, show 64 ≤ i % 64 + m by omega]
    · rw [if_neg h1, if_neg h1, bt_set hk, if_neg h1]
  · have h' : m = 0 ∨ ws.length ≤ q + 1 := by
      rcases Nat.eq_zero_or_pos m with h0 | h0
      · exact .inl h0
      · refine .inr ?_
        simp only [Bool.and_eq_false_iff, bne_eq_false_iff_eq, decide_eq_false_iff_not] at h
        omega
    refine Ret.mk ⟨hset, List.length_set, fun i => ?_⟩
    rw [bt_set hk]
    by_cases h1 : i / 64 = k
    · rw [if_pos h1, if_pos h1, tb_shr (hw.getD _) rfl (by omega)]
      by_cases h2 : i % 64 + m < 64
      · unfold bt
        rw [show (a + i) / 64 = q by omega, show (a + i) % 64 = i % 64 + m by omega]
      · rw [tb_high (hw.getD _) (by omega), bt_high (by omega)]
    · rw [if_neg h1, if_neg h1]
theorem cut_ok {n a w : Nat} {f : Nat → Bool} (hn : n ≤ 1048576) (h1 : 1 ≤ w) (h : a + w ≤ n) : impl_Bits_cut (mkB n f) (a : Int) (w : Int) = some ((w : Int), mkW (low (fun i => f (a + i)) w) (nw w)) := by
  unfold impl_Bits_cut mkB
  refine Ret.eq_ ?_
  rw [zeroBits_ok (by omega), Option.bind_some]
  show Ret ((impl_Bits_cut_l2 (a : Int) (w : Int) ((n : Int), mkW (low f n) (nw n), ()) (((List.replicate (nw w) (0 : Int)).length : Nat) : Int) (w : Int) 0 (List.replicate (nw w) 0)).bind _) _
  rw [List.length_replicate]
  have hwl : 1 ≤ nw w := by unfold nw; omega
  refine Ret.bind (P := fun r => Words r ∧ r.length = nw w ∧ ∀ i, i < 64 * nw w → bt r i = bt (mkW (low f n) (nw n)) (a + i)) ?_ fun r hr => ?_
  · unfold impl_Bits_cut_l2
    refine for_rule (fun k (s : List Int) => ((k : Int), s)) (nw w) (fun k s => Words s ∧ s.length = nw w ∧ ∀ i, i < 64 * k → bt s i = bt (mkW (low f n) (nw n)) (a + i)) (fun k s hk hI => ?_) (fun s hI => ?_) (s0 := List.replicate (nw w) 0) ⟨Words.rep, List.length_replicate, fun i hi => by omega⟩
    · unfold impl_Bits_cut_l2_r impl_Bits_cut_l2_g
      simp only
      rw [dlt hk, cond_true]
      refine Ret.bind (cut_l1 (mkW_words _ _) hI.1 (by rw [hI.2.1]; exact hk) (by unfold nw at hk; omega) (by rw [mkW_len]; unfold nw at *; omega)) fun r h => Ret.mk ⟨r, ?_, h.1, h.2.1.trans hI.2.1, fun i hi => ?_⟩
      · rw [show IntKind.i64.wrap ((k : Int) + 1) = ((k + 1 : Nat) : Int) from wrapN (by omega) (by unfold nw at hk; omega)]
      · rw [h.2.2 i]
        by_cases h3 : i / 64 = k
        · rw [if_pos h3]
        · rw [if_neg h3, hI.2.2 i (by omega)]
    · unfold impl_Bits_cut_l2_r impl_Bits_cut_l2_g
      simp only
      rw [dge, cond_false]
      exact Ret.mk hI
  · unfold impl_Bits_cut_l3
    obtain ⟨m, hm⟩ : ∃ m, m = w % 64 := ⟨_, rfl⟩
    have e2 : Int.tmod (w : Int) 64 = (m : Int) := by rw [tmod64, hm]
    have e3 : IntKind.i64.wrap ((r.length : Int) - 1) = ((nw w - 1 : Nat) : Int) := by rw [hr.2.1]; exact wrapN (by omega) (by unfold nw; omega)
    simp only [e2, e3, Int.toNat_natCast, zeroI]
    refine Ret.bind (P := fun x => x = mkW (low (fun i => f (a + i)) w) (nw w)) (Ret.cond (fun h => ?_) fun h => ?_) fun x hx => Ret.mk (by rw [hx])
    · simp only [bne_iff_ne] at h
      rw [if_pos ⟨by omega, by rw [hr.2.1]; omega⟩, if_neg (by omega), if_pos ⟨by omega, by rw [hr.2.1]; omega⟩]
      have hmk : W64 (IntKind.u64.wrap (shlI .u64 1 (m : Int) - 1)) := w64_mask rfl (by omega)
      refine Ret.mk (words_ext (hr.1.set (w64_and (hr.1.getD _) hmk)) (mkW_words _ _) (by rw [List.length_set, hr.2.1, mkW_len]) fun i hi => ?_)
      rw [List.length_set, hr.2.1] at hi
      rw [bt_set (by rw [hr.2.1]; omega), bt_mkW_low]
      by_cases h3 : i / 64 = nw w - 1
      · rw [if_pos h3, tb_and (hr.1.getD _) hmk, tb_mask rfl (by omega)]
        have : tb (r.getD (nw w - 1) 0) (i % 64) = bt r i := by unfold bt; rw [h3]
        rw [this, hr.2.2 i hi, bt_mkW_low]
        unfold nw at h3
        by_cases h4 : i < w
        · simp [h4, show a + i < n by omega, show i % 64 < m by omega]
        · simp [h4, show ¬ i % 64 < m by omega]
      · rw [if_neg h3, hr.2.2 i hi, bt_mkW_low]
        unfold nw at h3 hi
        simp [show i < w by omega, show a + i < n by omega]
    · have h0 : m = 0 := by
        have : (m : Int) = 0 := by simpa using h
        omega
      refine Ret.mk (words_ext hr.1 (mkW_words _ _) (by rw [hr.2.1, mkW_len]) fun i hi => ?_)
      rw [hr.2.1] at hi
      rw [hr.2.2 i hi, bt_mkW_low, bt_mkW_low]
      unfold nw at hi
      simp [show i < w by omega, show a + i < n by omega]
theorem l1From_ok {l : List Bool} (h1 : 1 ≤ l.length) (h2 : l.length ≤ 4096) : spec_l1From (l.map bI) = some ((l.length : Int), true, mkW (low (fun i => l.getD i false) l.length) (nw l.length)) := by
  unfold spec_l1From mkr
  refine Ret.eq_ ?_
  rw [List.length_map]
  have hn : nw l.length ≤ 1048576 := by unfold nw; omega
  rw [show (decide ((l.length : Int) < 1) || decide ((l.length : Int) > 4096)) = false by simp; omega, cond_false, words64 (by omega), if_pos ⟨rfl, by omega, by omega, by omega, by omega⟩, Int.toNat_natCast]
  unfold spec_l1From_l1
  refine Ret.bind (for_rule (fun k (s : List Int) => ((k : Int), s)) l.length (fun k s => Words s ∧ s.length = nw l.length ∧ ∀ i, bt s i = (decide (i < k) && l.getD i false)) (Q := fun r => r = mkW (low (fun i => l.getD i false) l.length) (nw l.length)) (fun k s hk hI => ?_) (fun s hI => ?_) (s0 := List.replicate (nw l.length) 0) ⟨Words.rep, List.length_replicate, fun i => by rw [bt_rep]; simp⟩) fun r hr => Ret.mk (by rw [hr])
  · unfold spec_l1From_l1_r spec_l1From_l1_g
    have hq : k / 64 < s.length := by rw [hI.2.1]; unfold nw; omega
    have hbit : W64 (bI (l.getD k false)) := by unfold bI; split <;> first | exact w64_one | exact w64_zero
    have hu64 : IntKind.u64.wrap (bI (l.getD k false)) = bI (l.getD k false) := by cases l.getD k false <;> rfl
    have hget : (l.map bI).getD k 0 = bI (l.getD k false) := by simp [List.getD, hk]
    simp only [List.length_map, tdiv64 (show k < 4611686018427387904 by omega), tmod64, Int.toNat_natCast, zeroI, hget, hu64, wrapU64 (show (0 : Int) ≤ ((k % 64 : Nat) : Int) by omega) (by omega)]
    rw [dlt hk, cond_true, if_pos ⟨by omega, by omega⟩, if_pos (rng hk), if_neg (by omega), if_pos ⟨by omega, by omega⟩]
    have hsl : W64 (shlI .u64 (bI (l.getD k false)) ((k % 64 : Nat) : Int)) := w64_shl hbit rfl (by omega)
    refine Ret.mk ⟨_, by rw [show IntKind.i64.wrap ((k : Int) + 1) = ((k + 1 : Nat) : Int) from wrapN (by omega) (by omega)], hI.1.set (w64_or (hI.1.getD _) hsl), by rw [List.length_set]; exact hI.2.1, fun i => ?_⟩
    rw [bt_set hq]
    have tbb : ∀ b j, tb (bI b) j = (decide (j = 0) && b) := fun b j => by cases b <;> simp [bI, tb_one, tb_zero]
    by_cases h3 : i / 64 = k / 64
    · rw [if_pos h3, tb_or (hI.1.getD _) hsl, tb_shl hbit rfl (by omega), tbb]
      have : tb (s.getD (k / 64) 0) (i % 64) = bt s i := by unfold bt; rw [h3]
      rw [this, hI.2.2 i]
      rcases Nat.lt_trichotomy i k with h | h | h
      · simp [h, show i < k + 1 by omega, show ¬ k % 64 ≤ i % 64 by omega]
      · subst h; simp [show i % 64 < 64 by omega]
      · simp [show ¬ i < k by omega, show ¬ i < k + 1 by omega]; omega
    · rw [if_neg h3, hI.2.2 i]
      by_cases h : i < k
      · simp [h, show i < k + 1 by omega]
      · simp [h, show ¬ i < k + 1 by omega]
  · unfold spec_l1From_l1_r spec_l1From_l1_g
    rw [List.length_map, dge, cond_false]
    refine Ret.mk (words_ext hI.1 (mkW_words _ _) (by rw [mkW_len]; exact hI.2.1) fun i hi => ?_)
    rw [hI.2.2 i, bt_mkW_low]
theorem cloneBits_ok {w : Int} {ws : List Int} (h : ws.length ≤ 1048576) : impl_cloneBits (w, ws, ()) = some (w, ws) := by
  unfold impl_cloneBits
  rw [if_pos (by show ws.length * 8 ≤ _; omega)]
end Go.Proofs.X
namespace Go.Proofs.X
open Go Go.Va
set_option maxRecDepth 100000
theorem copyBits_ok {w : Int} {ws : List Int} (h : ws.length ≤ 1048576) : spec_l8CopyBits (w, ws, ()) = some (w, ws) := by
  unfold spec_l8CopyBits
  rw [if_pos (by show ws.length * 8 ≤ _; omega)]
def Small (f : List Timpl_Seg.V) : Prop := f.length ≤ 1048576 ∧ ∀ s ∈ f, s.2.2.2.1.2.1.length ≤ 1048576
theorem getD_mem {A : Type} {l : List A} {z : A} {k : Nat} (h : k < l.length) : l.getD k z ∈ l := by
  rw [show l.getD k z = l[k] by simp [List.getD, h]]; exact List.getElem_mem h
theorem take_succ_getD {A : Type} {l : List A} {z : A} {k : Nat} (h : k < l.length) : l.take (k + 1) = l.take k ++ [l.getD k z] := by
  rw [List.take_succ_eq_append_getElem h, show l.getD k z = l[k] by simp [List.getD, h]]
theorem stepN {k n : Nat} (hk : k < n) (hn : n ≤ 1048576) : IntKind.i64.wrap ((k : Int) + 1) = ((k + 1 : Nat) : Int) := wrapN (by omega) (by omega)
theorem copyForm_ok {f : List Timpl_Seg.V} (h : Small f) : spec_l14CopyForm f = some f := by
  unfold spec_l14CopyForm spec_l14CopyForm_l0
  have h1 := h.1
  rw [show fix (spec_l14CopyForm_l0_r f) (0, ([] : List Timpl_Seg.V)) = some f from fix_seq0 (fun k => ((k : Int), f.take k)) f.length (fun k hk => by
    unfold spec_l14CopyForm_l0_r spec_l14CopyForm_l0_g
    simp only [dlt hk, cond_true, if_pos (rng hk), Int.toNat_natCast]
    rw [copyBits_ok (h.2 _ (getD_mem hk)), Option.bind_some, if_pos (by simp only [List.length_take, List.length_cons, List.length_nil]; omega), stepN hk h1, take_succ_getD hk]) (by
    unfold spec_l14CopyForm_l0_r spec_l14CopyForm_l0_g
    simp only [dge, cond_false]
    rw [List.take_of_length_le (Nat.le_refl _)])]
  rfl
def fillN {A : Type} (g : Nat → A) (z : A) (n k : Nat) : List A := (List.range n).map fun i => if i < k then g i else z
theorem fillN_zero {A : Type} (g : Nat → A) (z : A) (n : Nat) : fillN g z n 0 = List.replicate n z := by
  refine List.ext_getElem (by simp [fillN]) fun i h1 h2 => by simp [fillN]
theorem fillN_set {A : Type} (g : Nat → A) (z : A) {n k : Nat} : (fillN g z n k).set k (g k) = fillN g z n (k + 1) := by
  refine List.ext_getElem (by simp [fillN]) fun i h1 h2 => ?_
  simp only [fillN, List.getElem_set, List.getElem_map, List.getElem_range]
  by_cases h : k = i
  · subst h; simp
  · rw [if_neg h]
    by_cases h3 : i < k
    · rw [if_pos h3, if_pos (by omega)]
    · rw [if_neg h3, if_neg (by omega)]
theorem fillN_len {A : Type} (g : Nat → A) (z : A) (n k : Nat) : (fillN g z n k).length = n := by simp [fillN]
theorem fillN_full {A : Type} (l : List A) (y z : A) : fillN (fun i => l.getD i y) z l.length l.length = l := by
  refine List.ext_getElem (by simp [fillN]) fun i h1 h2 => by simp [fillN, List.getD, h2]
theorem cloneFlat_ok {f : List Timpl_Seg.V} (h : Small f) : impl_cloneFlat f = some f := by
  unfold impl_cloneFlat impl_cloneFlat_l0
  have h1 := h.1
  rw [if_pos ⟨rfl, by omega, by omega, by omega, by omega⟩, Int.toNat_natCast]
  rw [show fix (impl_cloneFlat_l0_r f (f.length : Int)) (0, List.replicate f.length (0, 0, 0, (0, ([] : List Int), ()), ())) = some f from by
    have := fix_seq0 (f := impl_cloneFlat_l0_r f (f.length : Int)) (fun k => ((k : Int), fillN (fun i => f.getD i (Ty.zero Timpl_Seg)) (0, 0, 0, (0, ([] : List Int), ()), ()) f.length k)) (t := f) f.length (fun k hk => by
      unfold impl_cloneFlat_l0_r impl_cloneFlat_l0_g
      simp only [dlt hk, cond_true, if_pos (rng hk), Int.toNat_natCast, fillN_len]
      rw [cloneBits_ok (h.2 _ (getD_mem hk)), Option.bind_some, stepN hk h1, ← fillN_set]) (by
      unfold impl_cloneFlat_l0_r impl_cloneFlat_l0_g
      simp only [dge, cond_false, fillN_full])
    rw [fillN_zero] at this
    exact this]
  rfl
theorem slicesEqual_ok {a : List Int} (hn : a.length ≤ maxLen) : EqOk slices_Equal_uint64 a :=
  eqS_ok (F := fun x y => some (x == y)) (z := Ty.zero (.int .u64)) (r := fun a b => slices_Equal_uint64_l0_r a b a.length) (fun _ _ => rfl) (fun _ _ _ => rfl) hn fun x _ y => Ret.mk (by simp)
theorem bitsSame_ok {a : Timpl_Bits.V} (h : a.2.1.length ≤ maxLen) : EqOk impl_Bits_same a := by
  intro b
  obtain ⟨w, ws, _⟩ := a
  obtain ⟨w', ws', _⟩ := b
  unfold impl_Bits_same
  refine Ret.cond (fun h1 => Ret.bind (slicesEqual_ok h ws') fun r hr => Ret.mk (by simp at h1; simp [hr, h1])) fun h1 => Ret.mk (by simp at h1; simp [h1])
theorem sameSeg_ok {a : Timpl_Seg.V} (h : a.2.2.2.1.2.1.length ≤ maxLen) : EqOk impl_sameSeg a := by
  intro b
  obtain ⟨v, l, w, x, _⟩ := a
  obtain ⟨v', l', w', x', _⟩ := b
  unfold impl_sameSeg
  refine Ret.cond (fun h1 => Ret.cond (fun h2 => Ret.cond (fun h3 => Ret.bind (bitsSame_ok h x') fun r hr => Ret.mk (by simp at h1 h2 h3; simp [hr, h1, h2, h3])) fun h3 => Ret.mk (by simp at h3; simp [h3])) fun h2 => Ret.mk (by simp at h2; simp [h2])) fun h1 => Ret.mk (by simp at h1; simp [h1])
theorem small_max : (1048576 : Nat) ≤ maxLen := by decide
theorem sameFlat_ok {f : List Timpl_Seg.V} (h : Small f) : EqOk impl_sameFlat f := by
  have key : EqOk slices_EqualFunc_Seg f := eqS_ok (F := impl_sameSeg) (z := Ty.zero Timpl_Seg) (r := fun a b => slices_EqualFunc_Seg_l0_r b a a.length) (fun _ _ => rfl) (fun _ _ _ => rfl) (Nat.le_trans h.1 small_max) fun x hx => sameSeg_ok (Nat.le_trans (h.2 x hx) small_max)
  intro b
  unfold impl_sameFlat
  exact Ret.bind (key b) fun r hr => Ret.mk hr
theorem sameBits_ok {a : Timpl_Bits.V} (h : a.2.1.length ≤ maxLen) : EqOk spec_l3SameBits a := by
  intro b
  obtain ⟨w, ws, _⟩ := a
  obtain ⟨w', ws', _⟩ := b
  unfold spec_l3SameBits mkr
  refine Ret.cond (fun h1 => Ret.mk ?_) fun h1 => ?_
  · simp only [Bool.or_eq_true, bne_iff_ne] at h1
    simp only [Bool.false_eq_true, false_iff, Prod.mk.injEq, and_true, not_and]
    rintro rfl rfl
    simp at h1
  · simp only [Bool.or_eq_false_iff, bne_eq_false_iff_eq] at h1
    have h1 : w = w' ∧ (ws.length : Int) = (ws'.length : Int) := h1
    refine Ret.bind (fix_eqs (F := fun x y => some (x == y)) (z := Ty.zero (.int .u64)) (a := ws) (b := ws') (f := spec_l3SameBits_l1_r (w, ws, ()) (w', ws', ())) (by omega) h (fun x _ y => Ret.mk (by simp)) (fun k hk => ?_) ?_) fun t ht => ?_
    · unfold spec_l3SameBits_l1_r spec_l3SameBits_l1_g
      simp only [dlt hk, cond_true, if_pos (rng hk), if_pos (rng (show k < ws'.length by omega)), Int.toNat_natCast]
      rfl
    · unfold spec_l3SameBits_l1_r spec_l3SameBits_l1_g
      simp only [dge, cond_false]
    · rcases ht with ⟨rfl, e⟩ | ⟨rfl, e⟩
      · exact Ret.mk ⟨fun _ => by rw [h1.1, e], fun _ => rfl⟩
      · exact Ret.mk ⟨fun h => by (cases h), fun h' => (e (congrArg (fun x => x.2.1) h')).elim⟩
theorem sameForm_ok {f : List Timpl_Seg.V} (h : Small f) : EqOk spec_l14SameForm f := by
  refine eqS_ok (F := fun x y => (bif x.1 != y.1 then some true else bif x.2.1 != y.2.1 then some true else bif x.2.2.1 != y.2.2.1 then some true else (spec_l3SameBits x.2.2.2.1 y.2.2.2.1).bind fun r => some (!r)).bind fun r => some (!r)) (z := Ty.zero Timpl_Seg)
    (r := spec_l14SameForm_l1_r) (fun _ _ => rfl) (fun a b i => ?_) (Nat.le_trans h.1 small_max) fun x hx y => ?_
  · unfold spec_l14SameForm_l1_r spec_l14SameForm_l1_g spec_l14SameForm_l0
    by_cases hA : (0 : Int) ≤ i ∧ i < (a.length : Int)
    · by_cases hB : (0 : Int) ≤ i ∧ i < (b.length : Int)
      · simp only [if_pos hA, if_pos hB]
        congr 1
        generalize ((a.getD i.toNat (Ty.zero Timpl_Seg)).1 != (b.getD i.toNat (Ty.zero Timpl_Seg)).1) = c1
        generalize ((a.getD i.toNat (Ty.zero Timpl_Seg)).2.1 != (b.getD i.toNat (Ty.zero Timpl_Seg)).2.1) = c2
        generalize ((a.getD i.toNat (Ty.zero Timpl_Seg)).2.2.1 != (b.getD i.toNat (Ty.zero Timpl_Seg)).2.2.1) = c3
        generalize spec_l3SameBits (a.getD i.toNat (Ty.zero Timpl_Seg)).2.2.2.1 (b.getD i.toNat (Ty.zero Timpl_Seg)).2.2.2.1 = o
        cases c1 <;> cases c2 <;> cases c3 <;> cases o with
        | none => rfl
        | some r => cases r <;> rfl
      · simp only [if_pos hA, if_neg hB, Option.bind_none]
    · simp only [if_neg hA, Option.bind_none]
  · obtain ⟨v, l, w, x, _⟩ := x
    obtain ⟨v', l', w', x', _⟩ := y
    simp only
    by_cases h1 : v = v'
    · by_cases h2 : l = l'
      · by_cases h3 : w = w'
        · subst h1 h2 h3
          simp only [bne_self_eq_false, cond_false]
          obtain ⟨r, hr, hq⟩ := sameBits_ok (Nat.le_trans (h.2 _ hx) small_max) x'
          simp only at hr
          rw [hr]
          refine Ret.mk ?_
          simp only [Bool.not_not, hq, Prod.mk.injEq, true_and, and_true]
        · simp only [h1, h2, bne_self_eq_false, cond_false, show (w != w') = true by simpa using h3, cond_true]
          exact Ret.mk (by simp [h3])
      · simp only [h1, bne_self_eq_false, cond_false, show (l != l') = true by simpa using h2, cond_true]
        exact Ret.mk (by simp [h2])
    · simp only [show (v != v') = true by simpa using h1, cond_true]
      exact Ret.mk (by simp [h1])
end Go.Proofs.X
namespace Go.Va
inductive Bt
  | co (b : Bool)
  | va (v a : Nat)
inductive Sg
  | co (b : List Bool)
  | va (v l n : Nat)
def Sg.bits : Sg → List Bt
  | .co b => b.map .co
  | .va v l n => (List.range n).map fun k => .va v (l + k)
def Sg.w : Sg → Nat
  | .co b => b.length
  | .va _ _ n => n
def Bt.sg : Bt → Sg
  | .co b => .co [b]
  | .va v a => .va v a 1
def Sg.join : Sg → Sg → Option Sg
  | .co a, .co b => some (.co (a ++ b))
  | .va v l n, .va v' l' n' => if v = v' ∧ l + n = l' then some (.va v l (n + n')) else none
  | _, _ => none
def Sg.meets (a b : Sg) : Bool := (a.join b).isSome
def raise1 (f : List Sg) (s : Sg) : List Sg :=
  match f.getLast? with
  | none => [s]
  | some l => match l.join s with
    | some j => f.dropLast ++ [j]
    | none => f ++ [s]
def raises (f : List Sg) (ss : List Sg) : List Sg := ss.foldl raise1 f
def addB (f : List Sg) (bs : List Bt) : List Sg := bs.foldl (fun f b => raise1 f b.sg) f
def norm (bs : List Bt) : List Sg := addB [] bs
def bitsL (f : List Sg) : List Bt := f.flatMap Sg.bits
def widL (f : List Sg) : Nat := (f.map Sg.w).sum
theorem raise1_nil (s : Sg) : raise1 [] s = [s] := rfl
theorem raise1_snoc (g : List Sg) (l s : Sg) : raise1 (g ++ [l]) s = match l.join s with | some j => g ++ [j] | none => g ++ [l, s] := by
  unfold raise1
  rw [List.getLast?_append]
  simp only [List.getLast?_singleton, Option.some_or, List.dropLast_concat]
  cases l.join s <;> simp
theorem bits_len (s : Sg) : s.bits.length = s.w := by cases s <;> simp [Sg.bits, Sg.w]
theorem bits_len_list (f : List Sg) : (bitsL f).length = widL f := by
  induction f with
  | nil => rfl
  | cons s f ih => simp only [bitsL, widL, List.flatMap_cons, List.length_append, bits_len, List.map_cons, List.sum_cons] at *; rw [ih]
theorem join_bits {a b j : Sg} (h : a.join b = some j) : j.bits = a.bits ++ b.bits := by
  cases a <;> cases b <;> simp only [Sg.join] at h
  · cases h; simp [Sg.bits]
  · cases h
  · cases h
  · rename_i v l n v' l' n'
    split at h
    · rename_i hc
      cases h
      obtain ⟨rfl, rfl⟩ := hc
      simp only [Sg.bits]
      rw [List.range_add, List.map_append, List.map_map]
      congr 1
      refine List.map_congr_left fun k _ => ?_
      simp [Nat.add_assoc]
    · cases h
theorem raise1_bits (f : List Sg) (s : Sg) : bitsL (raise1 f s) = bitsL f ++ s.bits := by
  rcases List.eq_nil_or_concat f with rfl | ⟨g, l, rfl⟩
  · simp [raise1_nil, bitsL]
  · rw [List.concat_eq_append, raise1_snoc]
    cases h : l.join s with
    | none => simp [bitsL]
    | some j => simp [bitsL, join_bits h]
theorem addB_bits (f : List Sg) (bs : List Bt) : bitsL (addB f bs) = bitsL f ++ bs := by
  induction bs generalizing f with
  | nil => simp [addB]
  | cons b bs ih =>
    rw [show addB f (b :: bs) = addB (raise1 f b.sg) bs from rfl, ih, raise1_bits]
    cases b <;> simp [Bt.sg, Sg.bits]
theorem norm_bits (bs : List Bt) : bitsL (norm bs) = bs := addB_bits [] bs
theorem addB_append (f : List Sg) (a b : List Bt) : addB f (a ++ b) = addB (addB f a) b := List.foldl_append
theorem split_last (s : Sg) (h : 2 ≤ s.w) : ∃ (t : Sg) (b : Bt), 1 ≤ t.w ∧ t.w < s.w ∧ s.bits = t.bits ++ [b] ∧ t.join b.sg = some s ∧ (∀ l j : Sg, l.join t = some j → j.join b.sg = l.join s) ∧ (∀ l : Sg, l.join t = none → l.join s = none) := by
  cases s with
  | co bs =>
    simp only [Sg.w] at h
    rcases List.eq_nil_or_concat bs with rfl | ⟨cs, x, rfl⟩
    · simp at h
    · rw [List.concat_eq_append] at h ⊢
      refine ⟨.co cs, .co x, ?_, ?_, ?_, rfl, fun l j hj => ?_, fun l hl => ?_⟩
      · simp [Sg.w] at h ⊢; omega
      · simp [Sg.w]
      · simp [Sg.bits]
      · cases l <;> simp only [Sg.join] at hj
        · cases hj; simp [Sg.join, Bt.sg]
        · cases hj
      · cases l <;> simp [Sg.join] at hl ⊢
  | va v l n =>
    simp only [Sg.w] at h
    obtain ⟨m, rfl⟩ : ∃ m, n = m + 1 := ⟨n - 1, by omega⟩
    refine ⟨.va v l m, .va v (l + m), by simp [Sg.w]; omega, by simp [Sg.w], ?_, by simp [Sg.join, Bt.sg], fun k j hj => ?_, fun k hk => ?_⟩
    · simp [Sg.bits, List.range_succ]
    · cases k <;> simp only [Sg.join] at hj
      · cases hj
      · split at hj
        · rename_i hc
          cases hj
          obtain ⟨rfl, rfl⟩ := hc
          simp [Sg.join, Bt.sg, Nat.add_assoc]
        · cases hj
    · cases k with
      | co b => rfl
      | va v' l' n' =>
        simp only [Sg.join] at hk ⊢
        split at hk
        · cases hk
        · rename_i hc; rw [if_neg hc]
theorem raise1_addB : ∀ (n : Nat) (s : Sg) (f : List Sg), s.w = n → 1 ≤ n → raise1 f s = addB f s.bits := by
  intro n
  induction n using Nat.strongRecOn with
  | _ n ih =>
    intro s f hn h1
    rcases Nat.lt_or_ge 1 n with h | h
    · obtain ⟨t, b, ht1, ht2, hb, hj, hlj, hln⟩ := split_last s (by omega)
      rw [hb, addB_append, ← ih t.w (by omega) t f rfl ht1]
      show _ = raise1 (raise1 f t) b.sg
      rcases List.eq_nil_or_concat f with rfl | ⟨g, l, rfl⟩
      · rw [raise1_nil, raise1_nil, show [t] = [] ++ [t] from rfl, raise1_snoc, hj]; rfl
      · rw [List.concat_eq_append, raise1_snoc, raise1_snoc]
        cases hl : l.join t with
        | none =>
          rw [hln l hl]
          simp only
          rw [show g ++ [l, t] = (g ++ [l]) ++ [t] by simp, raise1_snoc, hj]
          simp
        | some j =>
          simp only
          rw [raise1_snoc, hlj l j hl]
          cases hls : l.join s with
          | some k => rfl
          | none =>
            have := hlj l j hl
            rw [hls] at this
            exfalso
            cases l <;> cases s <;> cases t <;> simp [Sg.join] at hl hls hj
            all_goals first | (cases b <;> simp [Bt.sg, Sg.join] at hj <;> done) | skip
            all_goals (cases b <;> simp [Bt.sg, Sg.join] at hj; try omega)
    · have : n = 1 := by omega
      subst this
      have hs : ∃ b : Bt, s = b.sg ∧ s.bits = [b] := by
        cases s with
        | co bs =>
          simp only [Sg.w] at hn
          obtain ⟨x, rfl⟩ := List.length_eq_one_iff.1 hn
          exact ⟨.co x, rfl, rfl⟩
        | va v l m =>
          simp only [Sg.w] at hn
          subst hn
          exact ⟨.va v l, rfl, by simp [Sg.bits]⟩
      obtain ⟨b, hb, hbits⟩ := hs
      rw [hbits, hb]; rfl
def Full (f : List Sg) : Prop := ∀ s ∈ f, 1 ≤ s.w
theorem raises_addB {f ss : List Sg} (h : Full ss) : raises f ss = addB f (bitsL ss) := by
  induction ss generalizing f with
  | nil => rfl
  | cons s ss ih =>
    rw [show raises f (s :: ss) = raises (raise1 f s) ss from rfl, ih fun x hx => h x (List.mem_cons_of_mem _ hx), raise1_addB _ s f rfl (h s List.mem_cons_self), show bitsL (s :: ss) = s.bits ++ bitsL ss from rfl, addB_append]
theorem join_w {a b j : Sg} (h : a.join b = some j) : j.w = a.w + b.w := by rw [← bits_len, join_bits h, List.length_append, bits_len, bits_len]
theorem raise1_full {f : List Sg} {s : Sg} (hf : Full f) (hs : 1 ≤ s.w) : Full (raise1 f s) := by
  rcases List.eq_nil_or_concat f with rfl | ⟨g, l, rfl⟩
  · intro x hx; rw [raise1_nil, List.mem_singleton] at hx; rw [hx]; exact hs
  · rw [List.concat_eq_append] at hf ⊢
    rw [raise1_snoc]
    have hl := hf l (by simp)
    cases h : l.join s with
    | none =>
      intro x hx
      simp only [List.mem_append, List.mem_cons, List.not_mem_nil, or_false] at hx
      rcases hx with hx | rfl | rfl
      · exact hf x (by simp [hx])
      · exact hl
      · exact hs
    | some j =>
      intro x hx
      simp only [List.mem_append, List.mem_cons, List.not_mem_nil, or_false] at hx
      rcases hx with hx | rfl
      · exact hf x (by simp [hx])
      · rw [join_w h]; omega
theorem sg_w (b : Bt) : b.sg.w = 1 := by cases b <;> rfl
theorem addB_full {f : List Sg} (hf : Full f) (bs : List Bt) : Full (addB f bs) := by
  induction bs generalizing f with
  | nil => exact hf
  | cons b bs ih => exact ih (raise1_full hf (by rw [sg_w]; exact Nat.le_refl _))
theorem norm_full (bs : List Bt) : Full (norm bs) := addB_full (fun x hx => by cases hx) bs
theorem norm_wid (bs : List Bt) : widL (norm bs) = bs.length := by rw [← bits_len_list, norm_bits]
theorem raises_norm (a b : List Bt) : raises (norm a) (norm b) = norm (a ++ b) := by
  rw [raises_addB (norm_full b), norm_bits]; exact (addB_append [] a b).symm
theorem len_le_wid {f : List Sg} (h : Full f) : f.length ≤ widL f := by
  induction f with
  | nil => exact Nat.le_refl _
  | cons s f ih =>
    have := ih fun x hx => h x (List.mem_cons_of_mem _ hx)
    have := h s List.mem_cons_self
    simp only [widL, List.length_cons, List.map_cons, List.sum_cons] at *; omega
def Apart : List Sg → Prop
  | a :: b :: r => a.join b = none ∧ Apart (b :: r)
  | _ => True
theorem apart_snoc {g : List Sg} {l s : Sg} : Apart (g ++ [l, s]) ↔ Apart (g ++ [l]) ∧ l.join s = none := by
  induction g with
  | nil => simp [Apart]
  | cons a g ih =>
    cases g with
    | nil => simp only [List.nil_append, List.cons_append, Apart, and_true] at *
    | cons b g => simp only [List.cons_append, Apart] at *; rw [ih, and_assoc]
theorem apart_last {g : List Sg} {l j : Sg} (h : Apart (g ++ [l])) (hj : ∀ p : Sg, p.join l = none → p.join j = none) : Apart (g ++ [j]) := by
  rcases List.eq_nil_or_concat g with rfl | ⟨k, p, rfl⟩
  · trivial
  · simp only [List.concat_eq_append, List.append_assoc, List.singleton_append, List.cons_append, List.nil_append] at *
    rw [apart_snoc] at h ⊢
    exact ⟨h.1, hj p h.2⟩
theorem join_like {l s j : Sg} (h : l.join s = some j) (p : Sg) (hp : p.join l = none) : p.join j = none := by
  cases l <;> cases s <;> simp only [Sg.join] at h
  · cases h
    cases p <;> simp [Sg.join] at hp ⊢
  · cases h
  · cases h
  · split at h
    · cases h
      cases p <;> simp only [Sg.join] at hp ⊢
      split at hp
      · cases hp
      · rename_i hc; rw [if_neg hc]
    · cases h
theorem raise1_apart {f : List Sg} (hf : Apart f) (s : Sg) : Apart (raise1 f s) := by
  rcases List.eq_nil_or_concat f with rfl | ⟨g, l, rfl⟩
  · trivial
  · rw [List.concat_eq_append] at hf ⊢
    rw [raise1_snoc]
    cases h : l.join s with
    | none => exact apart_snoc.2 ⟨hf, h⟩
    | some j => exact apart_last hf (join_like h)
theorem norm_apart (bs : List Bt) : Apart (norm bs) := by
  have : ∀ (bs : List Bt) (f : List Sg), Apart f → Apart (addB f bs) := fun bs => by
    induction bs with
    | nil => exact fun f h => h
    | cons b bs ih => exact fun f h => ih _ (raise1_apart h _)
  exact this bs [] trivial
end Go.Va
namespace Go.Proofs.X
open Go Go.Va
set_option maxRecDepth 100000
def mkL (bs : List Bool) : Timpl_Bits.V := mkB bs.length fun i => bs.getD i false
def sgV : Sg → Timpl_Seg.V
  | .co bs => (-1, 0, (bs.length : Int), mkL bs, ())
  | .va v l n => ((v : Int), (l : Int), (n : Int), (0, [], ()), ())
def btV : Bt → Tspec_l5Bit.V
  | .co b => (-1, bI b, ())
  | .va v a => ((v : Int), (a : Int), ())
def fV (f : List Sg) : List Timpl_Seg.V := f.map sgV
def bV (f : List Bt) : List Tspec_l5Bit.V := f.map btV
def SgB : Sg → Prop
  | .co bs => bs.length ≤ 4096
  | .va v l n => v ≤ 4096 ∧ l + n ≤ 4096
theorem mkL_eq {bs : List Bool} {n : Nat} {f : Nat → Bool} (hl : bs.length = n) (h : ∀ i, i < n → bs.getD i false = f i) : mkL bs = mkB n f := by
  unfold mkL
  rw [hl]
  exact mkB_congr h
theorem overL_ok {a b : List Bool} (h : a.length + b.length ≤ 8192) : ∃ r, impl_Bits_over (mkL b) (mkL a) = some r ∧ (r.1, r.2, ()) = mkL (a ++ b) := by
  refine ⟨_, over_ok (by omega), (mkL_eq (by rw [List.length_append]; omega) fun i hi => ?_).symm⟩
  by_cases h : i < a.length
  · rw [if_pos h]; simp [List.getD, List.getElem?_append, h]
  · rw [if_neg h]; simp [List.getD, List.getElem?_append, h]
theorem cutL_ok {bs : List Bool} {a w : Nat} (hn : bs.length ≤ 8192) (h1 : 1 ≤ w) (h : a + w ≤ bs.length) : ∃ r, impl_Bits_cut (mkL bs) (a : Int) (w : Int) = some r ∧ (r.1, r.2, ()) = mkL ((bs.drop a).take w) := by
  refine ⟨_, cut_ok (by omega) h1 h, (mkL_eq (by rw [List.length_take, List.length_drop]; omega) fun i hi => ?_).symm⟩
  simp [List.getD, hi]
theorem meets_ok {a b : Sg} (ha : SgB a) : impl_Seg_meets (sgV a) (sgV b) = a.meets b := by
  cases a with
  | co x =>
    cases b with
    | co y => simp [impl_Seg_meets, sgV, Sg.meets, Sg.join]
    | va v l n =>
      simp only [impl_Seg_meets, sgV, Sg.meets, Sg.join, Option.isSome_none, Bool.and_eq_false_iff]
      left; simp
  | va v l n =>
    cases b with
    | co y =>
      simp only [impl_Seg_meets, sgV, Sg.meets, Sg.join, Option.isSome_none, Bool.and_eq_false_iff]
      left; simp
    | va v' l' n' =>
      simp only [SgB] at ha
      simp only [impl_Seg_meets, sgV, Sg.meets, Sg.join]
      rw [show IntKind.i64.wrap ((l : Int) + (n : Int)) = ((l + n : Nat) : Int) from wrapN (by omega) (by omega)]
      by_cases h : v = v' ∧ l + n = l'
      · rw [if_pos h]; obtain ⟨rfl, rfl⟩ := h; simp
      · rw [if_neg h]
        simp only [Option.isSome_none, Bool.and_eq_false_iff, Bool.or_eq_false_iff, beq_eq_false_iff_ne, ne_eq]
        by_cases hv : v = v'
        · exact .inr ⟨show ¬ (v : Int) = -1 by omega, fun e => h ⟨hv, Int.ofNat.inj e⟩⟩
        · exact .inl fun e => hv (Int.ofNat.inj e)
theorem getD_snoc {A : Type} (g : List A) (x z : A) : (g ++ [x]).getD g.length z = x := by simp [List.getD]
theorem set_snoc {A : Type} (g : List A) (x y : A) : (g ++ [x]).set g.length y = g ++ [y] := by simp
theorem fV_append (f g : List Sg) : fV (f ++ g) = fV f ++ fV g := List.map_append
theorem fV_len (f : List Sg) : (fV f).length = f.length := List.length_map _
theorem getD_map {A B : Type} (f : A → B) {l : List A} {k : Nat} {y : A} {z : B} (h : k < l.length) : (l.map f).getD k z = f (l.getD k y) := by simp [List.getD, h]
theorem raise_step {ss f : List Sg} {k : Nat} {b : Int} (hk : k < ss.length) (hs : SgB (ss.getD k (.co []))) (hf : ∀ s ∈ f, SgB s) (hl : f.length ≤ 1048576) : impl_raise_b_l7 (fV ss) b (k : Int) (fV f) = some (fV (raise1 f (ss.getD k (.co [])))) := by
  obtain ⟨s, hse⟩ : ∃ s, s = ss.getD k (.co []) := ⟨_, rfl⟩
  have hget : (fV ss).getD k (Ty.zero Timpl_Seg) = sgV s := by rw [hse]; exact getD_map sgV hk
  rw [← hse] at hs ⊢
  unfold impl_raise_b_l7
  rw [if_pos (rng (by rw [fV_len]; exact hk)), Int.toNat_natCast, hget]
  rcases List.eq_nil_or_concat f with rfl | ⟨g, l, rfl⟩
  · unfold impl_raise_b_l5
    rfl
  · rw [List.concat_eq_append] at hf hl ⊢
    have hbl : SgB l := hf l (by simp)
    have hfl : (fV (g ++ [l])).length = g.length + 1 := by rw [fV_len, List.length_append]; rfl
    have e1 : IntKind.i64.wrap (((fV (g ++ [l])).length : Int) - 1) = (g.length : Int) := by
      rw [List.length_append] at hl
      rw [hfl]; exact wrapN (by omega) (by simp at hl; omega)
    have hgl : (fV (g ++ [l])).getD g.length (Ty.zero Timpl_Seg) = sgV l := by
      rw [fV_append, ← fV_len g]; exact getD_snoc _ _ _
    have e2 : decide ((g.length : Int) < 0) = false := by simp
    have e3 : (0 : Int) ≤ (g.length : Int) ∧ (g.length : Int) < ((fV (g ++ [l])).length : Int) := ⟨by omega, by rw [hfl]; omega⟩
    rw [e1, raise1_snoc]
    unfold impl_raise_b_l5
    rw [e2, cond_false, if_pos e3, Int.toNat_natCast, hgl, meets_ok hbl, Option.bind_some]
    cases hj : l.join s with
    | none =>
      rw [show l.meets s = false by unfold Sg.meets; rw [hj]; rfl]
      show (if (_ + 1) * 56 ≤ _ then _ else none) = _
      rw [if_pos (by rw [hfl]; simp at hl; omega)]
      simp [fV_append, fV]
    | some j =>
      rw [show l.meets s = true by unfold Sg.meets; rw [hj]; rfl]
      show (impl_raise_b_l6 (fV ss) b (k : Int) (fV (g ++ [l])) (g.length : Int) (sgV s)).bind _ = _
      unfold impl_raise_b_l6
      cases l with
      | co x =>
        cases s with
        | va v' l' n' => simp [Sg.join] at hj
        | co y =>
          simp only [Sg.join, Option.some.injEq] at hj
          subst hj
          simp only [SgB] at hbl hs
          obtain ⟨r, hr1, hr2⟩ := overL_ok (a := x) (b := y) (by omega)
          rw [show ((sgV (.co y)).1 == (-1 : Int)) = true from rfl, cond_true, if_pos e3, Int.toNat_natCast, hgl]
          rw [show impl_Bits_over (sgV (.co y)).2.2.2.1 (sgV (.co x)).2.2.2.1 = some r from hr1, Option.bind_some, if_pos e3, hr2, Option.bind_some]
          have e4 : (0 : Int) ≤ (g.length : Int) ∧ (g.length : Int) < (((fV (g ++ [Sg.co x])).set g.length ((sgV (.co x)).1, (sgV (.co x)).2.1, (sgV (.co x)).2.2.1, mkL (x ++ y), (sgV (.co x)).2.2.2.2)).length : Int) := by rw [List.length_set]; exact e3
          rw [if_pos e4, if_pos e4]
          have hset : (fV (g ++ [Sg.co x])).set g.length ((sgV (.co x)).1, (sgV (.co x)).2.1, (sgV (.co x)).2.2.1, mkL (x ++ y), (sgV (.co x)).2.2.2.2) = fV g ++ [(-1, 0, (x.length : Int), mkL (x ++ y), ())] := by
            rw [fV_append, ← fV_len g]; exact set_snoc _ _ _
          rw [hset, show (fV g ++ [((-1, 0, (x.length : Int), mkL (x ++ y), ()) : Timpl_Seg.V)]).getD g.length (Ty.zero Timpl_Seg) = (-1, 0, (x.length : Int), mkL (x ++ y), ()) by rw [← fV_len g]; exact getD_snoc _ _ _]
          simp only
          rw [show IntKind.i64.wrap ((x.length : Int) + (sgV (.co y)).2.2.1) = (((x ++ y).length : Nat) : Int) by
            rw [List.length_append]; exact wrapN (by show (x.length : Int) + (y.length : Int) = _; omega) (by omega)]
          rw [fV_append, ← fV_len g, set_snoc]
          rfl
      | va v l n =>
        cases s with
        | co y => simp [Sg.join] at hj
        | va v' l' n' =>
          simp only [SgB] at hbl hs
          simp only [Sg.join] at hj
          split at hj
          · rename_i hc
            cases hj
            rw [show ((sgV (.va v' l' n')).1 == (-1 : Int)) = false by simp [sgV], cond_false, Option.bind_some, if_pos e3, if_pos e3]
            show some (List.set (fV (g ++ [Sg.va v l n])) g.length (((fV (g ++ [Sg.va v l n])).getD g.length (Ty.zero Timpl_Seg)).1, ((fV (g ++ [Sg.va v l n])).getD g.length (Ty.zero Timpl_Seg)).2.1, IntKind.i64.wrap (((fV (g ++ [Sg.va v l n])).getD g.length (Ty.zero Timpl_Seg)).2.2.1 + (sgV (.va v' l' n')).2.2.1), ((fV (g ++ [Sg.va v l n])).getD g.length (Ty.zero Timpl_Seg)).2.2.2)) = _
            rw [hgl]
            rw [show IntKind.i64.wrap ((sgV (.va v l n)).2.2.1 + (sgV (.va v' l' n')).2.2.1) = ((n + n' : Nat) : Int) from wrapN (by show (n : Int) + (n' : Int) = _; omega) (by omega)]
            rw [fV_append, ← fV_len g]
            show some (List.set (fV g ++ [sgV (.va v l n)]) (fV g).length _) = _
            rw [set_snoc, fV_append]
            rfl
          · cases hj
theorem raise1_small {f : List Sg} {s : Sg} (hf : ∀ x ∈ f, SgB x) (hs : SgB s) (hw : widL f + s.w ≤ 4096) : ∀ x ∈ raise1 f s, SgB x := by
  rcases List.eq_nil_or_concat f with rfl | ⟨g, l, rfl⟩
  · intro x hx; rw [raise1_nil, List.mem_singleton] at hx; rw [hx]; exact hs
  · rw [List.concat_eq_append] at hf hw ⊢
    rw [raise1_snoc]
    have hl := hf l (by simp)
    cases h : l.join s with
    | none =>
      intro x hx
      simp only [List.mem_append, List.mem_cons, List.not_mem_nil, or_false] at hx
      rcases hx with hx | rfl | rfl
      · exact hf x (by simp [hx])
      · exact hl
      · exact hs
    | some j =>
      intro x hx
      simp only [List.mem_append, List.mem_cons, List.not_mem_nil, or_false] at hx
      rcases hx with hx | rfl
      · exact hf x (by simp [hx])
      · cases l <;> cases s <;> simp only [Sg.join] at h
        · cases h
          simp only [widL, List.map_append, List.sum_append, List.map_cons, List.map_nil, List.sum_cons, List.sum_nil, Sg.w] at hw
          simp only [SgB, List.length_append]; omega
        · cases h
        · cases h
        · split at h
          · rename_i hc
            cases h
            simp only [SgB] at hl hs ⊢
            omega
          · cases h
theorem raise1_wid (f : List Sg) (s : Sg) : widL (raise1 f s) = widL f + s.w := by
  rw [← bits_len_list, raise1_bits, List.length_append, bits_len_list, bits_len]
theorem widL_take_succ {f : List Sg} {k : Nat} (h : k < f.length) : widL (f.take (k + 1)) = widL (f.take k) + (f.getD k (.co [])).w := by
  rw [take_succ_getD h (z := .co [])]
  simp [widL]
theorem widL_take_le (f : List Sg) (k : Nat) : widL (f.take k) ≤ widL f := by
  have : widL f = widL (f.take k) + widL (f.drop k) := by
    unfold widL
    rw [← List.sum_append, ← List.map_append, List.take_append_drop]
  omega
theorem raise_ok {ss f : List Sg} (h1 : Full ss) (h2 : Full f) (hs : ∀ s ∈ ss, SgB s) (hf : ∀ s ∈ f, SgB s) (hw : widL f + widL ss ≤ 4096) : impl_raise_b (fV ss) (fV f) = some (fV (raises f ss)) := by
  unfold impl_raise_b impl_raise_b_l8
  have hlen := len_le_wid h1
  have inv : ∀ k, k ≤ ss.length → Full (raises f (ss.take k)) ∧ (∀ s ∈ raises f (ss.take k), SgB s) ∧ widL (raises f (ss.take k)) = widL f + widL (ss.take k) := by
    intro k
    induction k with
    | zero => exact fun _ => ⟨h2, hf, rfl⟩
    | succ k ih =>
      intro hk
      obtain ⟨i1, i2, i3⟩ := ih (by omega)
      have hm : ss.getD k (.co []) ∈ ss := getD_mem (by omega)
      have hwk := widL_take_succ (show k < ss.length by omega)
      have := widL_take_le ss (k + 1)
      have e : raises f (ss.take (k + 1)) = raise1 (raises f (ss.take k)) (ss.getD k (.co [])) := by
        rw [take_succ_getD (show k < ss.length by omega) (z := .co [])]; exact List.foldl_append
      rw [e]
      exact ⟨raise1_full i1 (h1 _ hm), raise1_small i2 (hs _ hm) (by omega), by rw [raise1_wid, i3, hwk]; omega⟩
  have := fix_seq0 (f := impl_raise_b_l8_r (fV ss) ((fV ss).length : Int)) (fun k => ((k : Int), fV (raises f (ss.take k)))) (t := fV (raises f ss)) ss.length (fun k hk => by
    obtain ⟨i1, i2, i3⟩ := inv k (by omega)
    have hm : ss.getD k (.co []) ∈ ss := getD_mem hk
    have := widL_take_le ss k
    unfold impl_raise_b_l8_r impl_raise_b_l8_g
    simp only
    rw [fV_len, dlt hk, cond_true]
    rw [raise_step hk (hs _ hm) i2 (by have := len_le_wid i1; omega), Option.bind_some, stepN hk (by omega), take_succ_getD hk (z := .co [])]
    rw [show raises f (ss.take k ++ [ss.getD k (.co [])]) = raise1 (raises f (ss.take k)) (ss.getD k (.co [])) from List.foldl_append]) (by
    unfold impl_raise_b_l8_r impl_raise_b_l8_g
    simp only
    rw [fV_len, dge, cond_false, List.take_of_length_le (Nat.le_refl _)])
  rw [show fix (impl_raise_b_l8_r (fV ss) ((fV ss).length : Int)) (0, fV f) = some (fV (raises f ss)) from this]
  rfl
theorem flatWidth_ok {f : List Sg} (h1 : Full f) (hw : widL f ≤ 4096) : impl_flatWidth (fV f) = some (widL f : Int) := by
  unfold impl_flatWidth impl_flatWidth_l0
  have hlen := len_le_wid h1
  have := fix_seq0 (f := impl_flatWidth_l0_r (fV f) ((fV f).length : Int)) (fun k => ((widL (f.take k) : Int), (k : Int))) (t := (widL f : Int)) f.length (fun k hk => by
    have h1 := widL_take_succ hk
    have h2 := widL_take_le f (k + 1)
    unfold impl_flatWidth_l0_r impl_flatWidth_l0_g
    simp only
    rw [fV_len, dlt hk, cond_true, if_pos (rng hk), Int.toNat_natCast]
    rw [stepN hk (by omega), show (fV f).getD k (Ty.zero Timpl_Seg) = sgV (f.getD k (.co [])) from getD_map sgV hk]
    rw [show (sgV (f.getD k (.co []))).2.2.1 = ((f.getD k (.co [])).w : Int) by cases f.getD k (.co []) <;> rfl]
    rw [show IntKind.i64.wrap ((widL (f.take k) : Int) + ((f.getD k (.co [])).w : Int)) = (widL (f.take (k + 1)) : Int) from wrapN (by omega) (by omega)]) (by
    unfold impl_flatWidth_l0_r impl_flatWidth_l0_g
    simp only
    rw [fV_len, dge, cond_false, List.take_of_length_le (Nat.le_refl _)])
  rw [show fix (impl_flatWidth_l0_r (fV f) ((fV f).length : Int)) (0, 0) = some (widL f : Int) from this]
  rfl
end Go.Proofs.X
