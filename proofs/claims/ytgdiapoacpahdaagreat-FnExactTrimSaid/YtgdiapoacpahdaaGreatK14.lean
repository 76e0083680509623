import Derived.Test.YtgdiapoacpahdaaGreatK13
set_option linter.unusedVariables false
set_option linter.unusedSimpArgs false
namespace Go.Proofs.X
open Go Go.Va
set_option maxRecDepth 100000
theorem zeroI (k : IntKind) : (Ty.zero (.int k) : Int) = 0 := rfl
theorem idx64 {a k : Nat} (h : a + 64 * k < 1073741824) : IntKind.i64.wrap ((a : Int) + IntKind.i64.wrap (64 * (k : Int))) = ((a + 64 * k : Nat) : Int) := by
  rw [wrap64 (x := 64 * (k : Int)) (by omega) (by omega), wrap64 (by omega) (by omega)]; omega
theorem wrapN {x : Int} {n : Nat} (h : x = (n : Int)) (hn : n < 4611686018427387904) : IntKind.i64.wrap x = (n : Int) := by rw [wrap64 (by omega) (by omega), h]
theorem K5 {n : Nat} (h : n ≤ 1048576) : Cb (n : Int) = some ((n : Int), List.replicate (nw n) 0) := by
  have hn : nw n ≤ 1048576 := by unfold nw; omega
  unfold Cb AM
  rw [words64 h, if_pos ⟨rfl, by omega, by omega, by omega, by omega⟩, Int.toNat_natCast]
theorem XE {ws : List Int} {k j : Nat} (hj : j < 64) : bt ws (64 * k + j) = tb (ws.getD k 0) j := by
  unfold bt
  rw [show (64 * k + j) / 64 = k by omega, show (64 * k + j) % 64 = j by omega]
theorem AaP {a k : Nat} {d b : Int} {low row : List Int} (hw : Words low) (hr : Words row) (hk : k < low.length) (hb : a + 64 * k < 1073741824) (hin : (a + 64 * k) / 64 < row.length) :
    Ret (D9 (a : Int) low d (k : Int) row b) fun r => Words r ∧ r.length = row.length ∧ ∀ i, i < 64 * row.length → bt r i = (bt row i || (decide (a + 64 * k ≤ i) && (decide (i < a + 64 * k + 64) && bt low (i - a)))) := by
  unfold D9 mkr
  obtain ⟨q, hq⟩ : ∃ q, q = (a + 64 * k) / 64 := ⟨_, rfl⟩
  obtain ⟨m, hm⟩ : ∃ m, m = (a + 64 * k) % 64 := ⟨_, rfl⟩
  have e1 : IntKind.i64.wrap (Int.tdiv (((a + 64 * k : Nat) : Int)) 64) = (q : Int) := by rw [tdiv64 (by omega), hq]
  have e2 : Int.tmod (((a + 64 * k : Nat) : Int)) 64 = (m : Int) := by rw [tmod64, hm]
  have e3 : IntKind.i64.wrap ((q : Int) + 1) = ((q + 1 : Nat) : Int) := wrapN (by omega) (by omega)
  have e4 : IntKind.i64.wrap (64 - (m : Int)) = ((64 - m : Nat) : Int) := wrapN (by omega) (by omega)
  have hlk : W64 (low.getD k 0) := hw.getD k
  have hlow : ∀ i, a + 64 * k ≤ i → i < a + 64 * k + 64 → bt low (i - a) = tb (low.getD k 0) (i - a - 64 * k) := fun i h1 h2 => by
    rw [← XE (ws := low) (k := k) (by omega)]; congr 1; omega
  simp only [idx64 hb, e1, e2, e3, e4, List.length_set, Int.toNat_natCast, zeroI]
  rw [if_pos (rng hk), if_pos ⟨by omega, by omega⟩, if_neg (by omega), if_pos ⟨by omega, by omega⟩]
  have hsh : W64 (shlI .u64 (low.getD k 0) (m : Int)) := QD hlk rfl (by omega)
  have hor : W64 (orI .u64 (row.getD q 0) (shlI .u64 (low.getD k 0) (m : Int))) := RI (hr.getD q) hsh
  have hqr : q < row.length := by omega
  have hrow : ∀ i, bt (row.set q (orI .u64 (row.getD q 0) (shlI .u64 (low.getD k 0) (m : Int)))) i = (bt row i || (decide (i / 64 = q) && (decide (a + 64 * k ≤ i) && bt low (i - a)))) := fun i => by
    rw [MP hqr]
    by_cases h : i / 64 = q
    · rw [if_pos h, Wj (hr.getD q) hsh, SW hlk rfl (by omega)]
      have : bt row i = tb (row.getD q 0) (i % 64) := by unfold bt; rw [h]
      rw [this]
      by_cases h2 : a + 64 * k ≤ i
      · rw [hlow i h2 (by omega), show i - a - 64 * k = i % 64 - m by omega]
        simp [h, h2, show i % 64 < 64 by omega, show m ≤ i % 64 by omega]
      · simp [h, h2, show ¬ m ≤ i % 64 by omega]
    · rw [if_neg h]; simp [h]
  have hset : Words (row.set q (orI .u64 (row.getD q 0) (shlI .u64 (low.getD k 0) (m : Int)))) := hr.set hor
  refine Ret.cond (fun h => ?_) fun h => ?_
  · simp only [Bool.and_eq_true, bne_iff_ne, decide_eq_true_eq] at h
    have hm0 : m ≠ 0 := by omega
    have hq1 : q + 1 < row.length := by omega
    rw [if_pos ⟨by omega, by omega⟩, if_neg (by omega), if_pos ⟨by omega, by omega⟩]
    have hsr : W64 (shrI .u64 (low.getD k 0) ((64 - m : Nat) : Int)) := N3 hlk rfl (by omega)
    refine Ret.mk ⟨hset.set (RI (hset.getD _) hsr), by rw [List.length_set, List.length_set], fun i hi => ?_⟩
    show bt (List.set _ (q + 1) (orI .u64 (List.getD _ (q + 1) 0) (shrI .u64 (low.getD k 0) ((64 - m : Nat) : Int)))) i = _
    rw [MP (by rw [List.length_set]; exact hq1)]
    by_cases h1 : i / 64 = q + 1
    · rw [if_pos h1, Wj (hset.getD _) hsr, Ni hlk rfl (by omega)]
      have : tb ((row.set q (orI .u64 (row.getD q 0) (shlI .u64 (low.getD k 0) (m : Int)))).getD (q + 1) 0) (i % 64) = bt (row.set q (orI .u64 (row.getD q 0) (shlI .u64 (low.getD k 0) (m : Int)))) i := by unfold bt; rw [h1]
      rw [this, hrow]
      rw [show decide (i / 64 = q) = false by simp; omega, show decide (a + 64 * k ≤ i) = true by simp; omega]
      by_cases h2 : i < a + 64 * k + 64
      · rw [hlow i (by omega) h2, show i - a - 64 * k = i % 64 + (64 - m) by omega]
        simp [h2]
      · rw [LC hlk (by omega)]; simp [h2]
    · rw [if_neg h1, hrow]
      by_cases h2 : i / 64 = q
      · simp only [h2, decide_true, Bool.true_and]
        by_cases h3 : a + 64 * k ≤ i
        · simp [h3, show i < a + 64 * k + 64 by omega]
        · simp [h3]
      · rw [show (decide (a + 64 * k ≤ i) && (decide (i < a + 64 * k + 64) && bt low (i - a))) = false by
          by_cases h3 : a + 64 * k ≤ i
          · simp [show ¬ i < a + 64 * k + 64 by omega]
          · simp [h3]]
        simp [h2]
  · refine Ret.mk ⟨hset, List.length_set, fun i hi => ?_⟩
    have h' : m = 0 ∨ row.length ≤ q + 1 := by
      rcases Nat.eq_zero_or_pos m with h0 | h0
      · exact .inl h0
      · refine .inr ?_
        simp only [Bool.and_eq_false_iff, bne_eq_false_iff_eq, decide_eq_false_iff_not] at h
        omega
    show bt (row.set q (orI .u64 (row.getD q 0) (shlI .u64 (low.getD k 0) (m : Int)))) i = _
    rw [hrow]
    by_cases h2 : i / 64 = q
    · simp only [h2, decide_true, Bool.true_and]
      by_cases h3 : a + 64 * k ≤ i
      · simp [h3, show i < a + 64 * k + 64 by omega]
      · simp [h3]
    · rw [show (decide (a + 64 * k ≤ i) && (decide (i < a + 64 * k + 64) && bt low (i - a))) = false by
        by_cases h3 : a + 64 * k ≤ i
        · simp [show ¬ i < a + 64 * k + 64 by omega]
        · simp [h3]]
      simp [h2]
theorem W6 {w b : Int} {a : Nat} {low row : List Int} (hw : Words low) (hr : Words row) (hl : low.length ≤ 1048576) (ha : a ≤ 1048576) (hin : ∀ k, k < low.length → (a + 64 * k) / 64 < row.length) :
    Ret (DU b (a : Int) (w, low, ()) row) fun r => Words r ∧ r.length = row.length ∧ ∀ i, i < 64 * row.length → bt r i = (bt row i || (decide (a ≤ i) && bt low (i - a))) := by
  unfold DU Iz
  refine Ret.bind (Bz (fun k (s : List Int) => ((k : Int), s)) low.length (fun k s => Words s ∧ s.length = row.length ∧ ∀ i, i < 64 * row.length → bt s i = (bt row i || (decide (a ≤ i) && (decide (i < a + 64 * k) && bt low (i - a))))) (Q := fun r => Words r ∧ r.length = row.length ∧ ∀ i, i < 64 * row.length → bt r i = (bt row i || (decide (a ≤ i) && bt low (i - a)))) (fun k s hk hI => ?_) (fun s hI => ?_) (s0 := row) ⟨hr, rfl, fun i _ => by
      by_cases h : a ≤ i
      · simp [show ¬ i < a by omega]
      · simp [h]⟩) fun r h => Ret.mk h
  · unfold CJ EF
    simp only
    rw [dlt hk, cond_true]
    refine Ret.bind (AaP hw hI.1 hk (by omega) (by rw [hI.2.1]; exact hin k hk)) fun r h => Ret.mk ⟨r, ?_, h.1, h.2.1.trans hI.2.1, fun i hi => ?_⟩
    · rw [show IntKind.i64.wrap ((k : Int) + 1) = ((k + 1 : Nat) : Int) from wrapN (by omega) (by omega)]
    · rw [h.2.2 i (by rw [hI.2.1]; exact hi), hI.2.2 i hi, Bool.or_assoc]
      congr 1
      by_cases h1 : a ≤ i
      · by_cases h2 : i < a + 64 * k
        · simp [h1, h2, show ¬ a + 64 * k ≤ i by omega, show i < a + 64 * (k + 1) by omega]
        · by_cases h3 : i < a + 64 * k + 64
          · simp [h1, h2, h3, show a + 64 * k ≤ i by omega, show i < a + 64 * (k + 1) by omega]
          · simp [h2, h3, show ¬ i < a + 64 * (k + 1) by omega]
      · simp [h1, show ¬ a + 64 * k ≤ i by omega]
  · unfold CJ EF
    simp only
    rw [dge, cond_false]
    refine Ret.mk ⟨hI.1, hI.2.1, fun i hi => ?_⟩
    rw [hI.2.2 i hi]
    by_cases h1 : a ≤ i
    · by_cases h2 : i < a + 64 * low.length
      · simp [h2]
      · rw [LA (by omega : 64 * low.length ≤ i - a)]; simp
    · simp [h1]
theorem Zj {n m : Nat} {f g : Nat → Bool} (hn : n + m ≤ 8192) : BK (mkB n f) (mkB m g) = some (((n + m : Nat) : Int), mkW (low (fun i => if i < m then g i else f (i - m)) (n + m)) (nw (n + m))) := by
  unfold BK mkB
  refine Ret.eq_ ?_
  rw [show IntKind.i64.wrap (((n : Int), mkW (low f n) (nw n), ()).1 + ((m : Int), mkW (low g m) (nw m), ()).1) = ((n + m : Nat) : Int) from wrapN (by show (n : Int) + (m : Int) = _; omega) (by omega), K5 (by omega), Option.bind_some]
  refine Ret.bind (W6 (a := 0) (Dv _ _) Words.rep (by rw [Ek]; unfold nw; omega) (by omega) fun k hk => by rw [Ek] at hk; rw [List.length_replicate]; unfold nw at *; omega) fun r1 h1 => ?_
  rw [List.length_replicate] at h1
  refine Ret.bind (W6 (a := m) (Dv _ _) h1.1 (by rw [Ek]; unfold nw; omega) (by omega) fun k hk => by rw [Ek] at hk; rw [h1.2.1]; unfold nw at *; omega) fun r2 h2 => Ret.mk ?_
  refine congrArg _ (Ka h2.1 (Dv _ _) (by rw [h2.2.1, h1.2.1, Ek]) fun i hi => ?_)
  have hi' : i < 64 * nw (n + m) := by rw [h2.2.1, h1.2.1] at hi; exact hi
  rw [h2.2.2 i (by rw [h1.2.1]; exact hi'), h1.2.2 i hi', WW, FF, FF, FF]
  by_cases h3 : i < m
  · simp [h3, show ¬ m ≤ i by omega, show i < n + m by omega]
  · by_cases h4 : i < n + m
    · simp [h3, h4, show m ≤ i by omega, show i - m < n by omega]
    · simp [h3, h4, show ¬ i - m < n by omega]
end Go.Proofs.X
namespace Go.Proofs.X
open Go Go.Va
set_option maxRecDepth 100000
theorem Aa3 {a k : Nat} {w w1 w2 j : Int} {ws row : List Int} (hw : Words ws) (hr : Words row) (hk : k < row.length) (hb : a + 64 * k < 1073741824) (hin : (a + 64 * k) / 64 < ws.length) :
    Ret (D1 (a : Int) w1 w2 (k : Int) (w, ws, ()) j row) fun r => Words r ∧ r.length = row.length ∧ ∀ i, bt r i = if i / 64 = k then bt ws (a + i) else bt row i := by
  unfold D1 mkr
  obtain ⟨q, hq⟩ : ∃ q, q = (a + 64 * k) / 64 := ⟨_, rfl⟩
  obtain ⟨m, hm⟩ : ∃ m, m = (a + 64 * k) % 64 := ⟨_, rfl⟩
  have e1 : IntKind.i64.wrap (Int.tdiv (((a + 64 * k : Nat) : Int)) 64) = (q : Int) := by rw [tdiv64 (by omega), hq]
  have e2 : Int.tmod (((a + 64 * k : Nat) : Int)) 64 = (m : Int) := by rw [tmod64, hm]
  have e3 : IntKind.i64.wrap ((q : Int) + 1) = ((q + 1 : Nat) : Int) := wrapN (by omega) (by omega)
  have e4 : IntKind.i64.wrap (64 - (m : Int)) = ((64 - m : Nat) : Int) := wrapN (by omega) (by omega)
  simp only [idx64 hb, e1, e2, e3, e4, List.length_set, Int.toNat_natCast, zeroI]
  rw [if_pos ⟨by omega, by omega⟩, if_neg (by omega), if_pos (rng hk)]
  have hsr : W64 (shrI .u64 (ws.getD q 0) (m : Int)) := N3 (hw.getD q) rfl (by omega)
  have hset : Words (row.set k (shrI .u64 (ws.getD q 0) (m : Int))) := hr.set hsr
  have hself : (row.set k (shrI .u64 (ws.getD q 0) (m : Int))).getD k 0 = shrI .u64 (ws.getD q 0) (m : Int) := by simp [List.getD, hk]
  refine Ret.cond (fun h => ?_) fun h => ?_
  · simp only [Bool.and_eq_true, bne_iff_ne, decide_eq_true_eq] at h
    rw [if_pos (rng hk), if_pos ⟨by omega, by omega⟩, if_neg (by omega), if_pos (rng hk), hself]
    have hsl : W64 (shlI .u64 (ws.getD (q + 1) 0) ((64 - m : Nat) : Int)) := QD (hw.getD _) rfl (by omega)
    refine Ret.mk ⟨hset.set (RI hsr hsl), by rw [List.length_set, List.length_set], fun i => ?_⟩
    rw [MP (by rw [List.length_set]; exact hk)]
    by_cases h1 : i / 64 = k
    · rw [if_pos h1, if_pos h1, Wj hsr hsl, Ni (hw.getD _) rfl (by omega), SW (hw.getD _) rfl (by omega)]
      by_cases h2 : i % 64 + m < 64
      · rw [show decide (64 - m ≤ i % 64) = false by simp; omega]
        unfold bt
        rw [show (a + i) / 64 = q by omega, show (a + i) % 64 = i % 64 + m by omega]
        simp
      · rw [LC (hw.getD _) (by omega)]
        unfold bt
        rw [show (a + i) / 64 = q + 1 by omega, show (a + i) % 64 = i % 64 - (64 - m) by omega]
        simp [show i % 64 < 64 by omega, show 64 ≤ i % 64 + m by omega]
    · rw [if_neg h1, if_neg h1, MP hk, if_neg h1]
  · have h' : m = 0 ∨ ws.length ≤ q + 1 := by
      rcases Nat.eq_zero_or_pos m with h0 | h0
      · exact .inl h0
      · refine .inr ?_
        simp only [Bool.and_eq_false_iff, bne_eq_false_iff_eq, decide_eq_false_iff_not] at h
        omega
    refine Ret.mk ⟨hset, List.length_set, fun i => ?_⟩
    rw [MP hk]
    by_cases h1 : i / 64 = k
    · rw [if_pos h1, if_pos h1, Ni (hw.getD _) rfl (by omega)]
      by_cases h2 : i % 64 + m < 64
      · unfold bt
        rw [show (a + i) / 64 = q by omega, show (a + i) % 64 = i % 64 + m by omega]
      · rw [LC (hw.getD _) (by omega), LA (by omega)]
    · rw [if_neg h1, if_neg h1]
theorem ZP {n a w : Nat} {f : Nat → Bool} (hn : n ≤ 1048576) (h1 : 1 ≤ w) (h : a + w ≤ n) : CZ (mkB n f) (a : Int) (w : Int) = some ((w : Int), mkW (low (fun i => f (a + i)) w) (nw w)) := by
  unfold CZ mkB
  refine Ret.eq_ ?_
  rw [K5 (by omega), Option.bind_some]
  show Ret ((Gf (a : Int) (w : Int) ((n : Int), mkW (low f n) (nw n), ()) (((List.replicate (nw w) (0 : Int)).length : Nat) : Int) (w : Int) 0 (List.replicate (nw w) 0)).bind _) _
  rw [List.length_replicate]
  have hwl : 1 ≤ nw w := by unfold nw; omega
  refine Ret.bind (P := fun r => Words r ∧ r.length = nw w ∧ ∀ i, i < 64 * nw w → bt r i = bt (mkW (low f n) (nw n)) (a + i)) ?_ fun r hr => ?_
  · unfold Gf
    refine Bz (fun k (s : List Int) => ((k : Int), s)) (nw w) (fun k s => Words s ∧ s.length = nw w ∧ ∀ i, i < 64 * k → bt s i = bt (mkW (low f n) (nw n)) (a + i)) (fun k s hk hI => ?_) (fun s hI => ?_) (s0 := List.replicate (nw w) 0) ⟨Words.rep, List.length_replicate, fun i hi => by omega⟩
    · unfold CU EI
      simp only
      rw [dlt hk, cond_true]
      refine Ret.bind (Aa3 (Dv _ _) hI.1 (by rw [hI.2.1]; exact hk) (by unfold nw at hk; omega) (by rw [Ek]; unfold nw at *; omega)) fun r h => Ret.mk ⟨r, ?_, h.1, h.2.1.trans hI.2.1, fun i hi => ?_⟩
      · rw [show IntKind.i64.wrap ((k : Int) + 1) = ((k + 1 : Nat) : Int) from wrapN (by omega) (by unfold nw at hk; omega)]
      · rw [h.2.2 i]
        by_cases h3 : i / 64 = k
        · rw [if_pos h3]
        · rw [if_neg h3, hI.2.2 i (by omega)]
    · unfold CU EI
      simp only
      rw [dge, cond_false]
      exact Ret.mk hI
  · unfold F6
    obtain ⟨m, hm⟩ : ∃ m, m = w % 64 := ⟨_, rfl⟩
    have e2 : Int.tmod (w : Int) 64 = (m : Int) := by rw [tmod64, hm]
    have e3 : IntKind.i64.wrap ((r.length : Int) - 1) = ((nw w - 1 : Nat) : Int) := by rw [hr.2.1]; exact wrapN (by omega) (by unfold nw; omega)
    simp only [e2, e3, Int.toNat_natCast, zeroI]
    refine Ret.bind (P := fun x => x = mkW (low (fun i => f (a + i)) w) (nw w)) (Ret.cond (fun h => ?_) fun h => ?_) fun x hx => Ret.mk (by rw [hx])
    · simp only [bne_iff_ne] at h
      rw [if_pos ⟨by omega, by rw [hr.2.1]; omega⟩, if_neg (by omega), if_pos ⟨by omega, by rw [hr.2.1]; omega⟩]
      have hmk : W64 (IntKind.u64.wrap (shlI .u64 1 (m : Int) - 1)) := Vv rfl (by omega)
      refine Ret.mk (Ka (hr.1.set (TH (hr.1.getD _) hmk)) (Dv _ _) (by rw [List.length_set, hr.2.1, Ek]) fun i hi => ?_)
      rw [List.length_set, hr.2.1] at hi
      rw [MP (by rw [hr.2.1]; omega), FF]
      by_cases h3 : i / 64 = nw w - 1
      · rw [if_pos h3, Xg (hr.1.getD _) hmk, Yi rfl (by omega)]
        have : tb (r.getD (nw w - 1) 0) (i % 64) = bt r i := by unfold bt; rw [h3]
        rw [this, hr.2.2 i hi, FF]
        unfold nw at h3
        by_cases h4 : i < w
        · simp [h4, show a + i < n by omega, show i % 64 < m by omega]
        · simp [h4, show ¬ i % 64 < m by omega]
      · rw [if_neg h3, hr.2.2 i hi, FF]
        unfold nw at h3 hi
        simp [show i < w by omega, show a + i < n by omega]
    · have h0 : m = 0 := by
        have : (m : Int) = 0 := by simpa using h
        omega
      refine Ret.mk (Ka hr.1 (Dv _ _) (by rw [hr.2.1, Ek]) fun i hi => ?_)
      rw [hr.2.1] at hi
      rw [hr.2.2 i hi, FF, FF]
      unfold nw at hi
      simp [show i < w by omega, show a + i < n by omega]
theorem Uv {l : List Bool} (h1 : 1 ≤ l.length) (h2 : l.length ≤ 4096) : HR (l.map bI) = some ((l.length : Int), true, mkW (low (fun i => l.getD i false) l.length) (nw l.length)) := by
  unfold HR mkr
  refine Ret.eq_ ?_
  rw [List.length_map]
  have hn : nw l.length ≤ 1048576 := by unfold nw; omega
  rw [show (decide ((l.length : Int) < 1) || decide ((l.length : Int) > 4096)) = false by simp; omega, cond_false, words64 (by omega), if_pos ⟨rfl, by omega, by omega, by omega, by omega⟩, Int.toNat_natCast]
  unfold JB
  refine Ret.bind (Bz (fun k (s : List Int) => ((k : Int), s)) l.length (fun k s => Words s ∧ s.length = nw l.length ∧ ∀ i, bt s i = (decide (i < k) && l.getD i false)) (Q := fun r => r = mkW (low (fun i => l.getD i false) l.length) (nw l.length)) (fun k s hk hI => ?_) (fun s hI => ?_) (s0 := List.replicate (nw l.length) 0) ⟨Words.rep, List.length_replicate, fun i => by rw [WW]; simp⟩) fun r hr => Ret.mk (by rw [hr])
  · unfold Ea Ga
    have hq : k / 64 < s.length := by rw [hI.2.1]; unfold nw; omega
    have hbit : W64 (bI (l.getD k false)) := by unfold bI; split <;> first | exact MB | exact Ld
    have hu64 : IntKind.u64.wrap (bI (l.getD k false)) = bI (l.getD k false) := by cases l.getD k false <;> rfl
    have hget : (l.map bI).getD k 0 = bI (l.getD k false) := by simp [List.getD, hk]
    simp only [List.length_map, tdiv64 (show k < 4611686018427387904 by omega), tmod64, Int.toNat_natCast, zeroI, hget, hu64, wrapU64 (show (0 : Int) ≤ ((k % 64 : Nat) : Int) by omega) (by omega)]
    rw [dlt hk, cond_true, if_pos ⟨by omega, by omega⟩, if_pos (rng hk), if_neg (by omega), if_pos ⟨by omega, by omega⟩]
    have hsl : W64 (shlI .u64 (bI (l.getD k false)) ((k % 64 : Nat) : Int)) := QD hbit rfl (by omega)
    refine Ret.mk ⟨_, by rw [show IntKind.i64.wrap ((k : Int) + 1) = ((k + 1 : Nat) : Int) from wrapN (by omega) (by omega)], hI.1.set (RI (hI.1.getD _) hsl), by rw [List.length_set]; exact hI.2.1, fun i => ?_⟩
    rw [MP hq]
    have tbb : ∀ b j, tb (bI b) j = (decide (j = 0) && b) := fun b j => by cases b <;> simp [bI, QY, K4]
    by_cases h3 : i / 64 = k / 64
    · rw [if_pos h3, Wj (hI.1.getD _) hsl, SW hbit rfl (by omega), tbb]
      have : tb (s.getD (k / 64) 0) (i % 64) = bt s i := by unfold bt; rw [h3]
      rw [this, hI.2.2 i]
      rcases Nat.lt_trichotomy i k with h | h | h
      · simp [h, show i < k + 1 by omega, show ¬ k % 64 ≤ i % 64 by omega]
      · subst h; simp [show i % 64 < 64 by omega]
      · simp [show ¬ i < k by omega, show ¬ i < k + 1 by omega]; omega
    · rw [if_neg h3, hI.2.2 i]
      by_cases h : i < k
      · simp [h, show i < k + 1 by omega]
      · simp [h, show ¬ i < k + 1 by omega]
  · unfold Ea Ga
    rw [List.length_map, dge, cond_false]
    refine Ret.mk (Ka hI.1 (Dv _ _) (by rw [Ek]; exact hI.2.1) fun i hi => ?_)
    rw [hI.2.2 i, FF]
theorem KJ {w : Int} {ws : List Int} (h : ws.length ≤ 1048576) : Bh (w, ws, ()) = some (w, ws) := by
  unfold Bh
  rw [if_pos (by show ws.length * 8 ≤ _; omega)]
end Go.Proofs.X
namespace Go.Proofs.X
open Go Go.Va
set_option maxRecDepth 100000
theorem PV {w : Int} {ws : List Int} (h : ws.length ≤ 1048576) : Dw (w, ws, ()) = some (w, ws) := by
  unfold Dw
  rw [if_pos (by show ws.length * 8 ≤ _; omega)]
def Small (f : List Ab.V) : Prop := f.length ≤ 1048576 ∧ ∀ s ∈ f, s.2.2.2.1.2.1.length ≤ 1048576
theorem Ay {A : Type} {l : List A} {z : A} {k : Nat} (h : k < l.length) : l.getD k z ∈ l := by
  rw [show l.getD k z = l[k] by simp [List.getD, h]]; exact List.getElem_mem h
theorem AL {A : Type} {l : List A} {z : A} {k : Nat} (h : k < l.length) : l.take (k + 1) = l.take k ++ [l.getD k z] := by
  rw [List.take_succ_eq_append_getElem h, show l.getD k z = l[k] by simp [List.getD, h]]
theorem stepN {k n : Nat} (hk : k < n) (hn : n ≤ 1048576) : IntKind.i64.wrap ((k : Int) + 1) = ((k + 1 : Nat) : Int) := wrapN (by omega) (by omega)
theorem HD {f : List Ab.V} (h : Small f) : AR f = some f := by
  unfold AR Gz
  have h1 := h.1
  rw [show fix (Bc f) (0, ([] : List Ab.V)) = some f from BJ (fun k => ((k : Int), f.take k)) f.length (fun k hk => by
    unfold Bc CO
    simp only [dlt hk, cond_true, if_pos (rng hk), Int.toNat_natCast]
    rw [PV (h.2 _ (Ay hk)), Option.bind_some, if_pos (by simp only [List.length_take, List.length_cons, List.length_nil]; omega), stepN hk h1, AL hk]) (by
    unfold Bc CO
    simp only [dge, cond_false]
    rw [List.take_of_length_le (Nat.le_refl _)])]
  rfl
def fillN {A : Type} (g : Nat → A) (z : A) (n k : Nat) : List A := (List.range n).map fun i => if i < k then g i else z
theorem fillN_zero {A : Type} (g : Nat → A) (z : A) (n : Nat) : fillN g z n 0 = List.replicate n z := by
  refine List.ext_getElem (by simp [fillN]) fun i h1 h2 => by simp [fillN]
theorem fillN_set {A : Type} (g : Nat → A) (z : A) {n k : Nat} : (fillN g z n k).set k (g k) = fillN g z n (k + 1) := by
  refine List.ext_getElem (by simp [fillN]) fun i h1 h2 => ?_
  simp only [fillN, List.getElem_set, List.getElem_map, List.getElem_range]
  by_cases h : k = i
  · subst h; simp
  · rw [if_neg h]
    by_cases h3 : i < k
    · rw [if_pos h3, if_pos (by omega)]
    · rw [if_neg h3, if_neg (by omega)]
theorem fillN_len {A : Type} (g : Nat → A) (z : A) (n k : Nat) : (fillN g z n k).length = n := by simp [fillN]
theorem fillN_full {A : Type} (l : List A) (y z : A) : fillN (fun i => l.getD i y) z l.length l.length = l := by
  refine List.ext_getElem (by simp [fillN]) fun i h1 h2 => by simp [fillN, List.getD, h2]
theorem GK {f : List Ab.V} (h : Small f) : Ak f = some f := by
  unfold Ak HB
  have h1 := h.1
  rw [if_pos ⟨rfl, by omega, by omega, by omega, by omega⟩, Int.toNat_natCast]
  rw [show fix (A9 f (f.length : Int)) (0, List.replicate f.length (0, 0, 0, (0, ([] : List Int), ()), ())) = some f from by
    have := BJ (f := A9 f (f.length : Int)) (fun k => ((k : Int), fillN (fun i => f.getD i (Ty.zero Ab)) (0, 0, 0, (0, ([] : List Int), ()), ()) f.length k)) (t := f) f.length (fun k hk => by
      unfold A9 DQ
      simp only [dlt hk, cond_true, if_pos (rng hk), Int.toNat_natCast, fillN_len]
      rw [KJ (h.2 _ (Ay hk)), Option.bind_some, stepN hk h1, ← fillN_set]) (by
      unfold A9 DQ
      simp only [dge, cond_false, fillN_full])
    rw [fillN_zero] at this
    exact this]
  rfl
theorem M4 {a : List Int} (hn : a.length ≤ maxLen) : EqOk Cv a :=
  Li (F := fun x y => some (x == y)) (z := Ty.zero (.int .u64)) (r := fun a b => BW a b a.length) (fun _ _ => rfl) (fun _ _ _ => rfl) hn fun x _ y => Ret.mk (by simp)
theorem Qj {a : Aj.V} (h : a.2.1.length ≤ maxLen) : EqOk Eg a := by
  intro b
  obtain ⟨w, ws, _⟩ := a
  obtain ⟨w', ws', _⟩ := b
  unfold Eg
  refine Ret.cond (fun h1 => Ret.bind (M4 h ws') fun r hr => Ret.mk (by simp at h1; simp [hr, h1])) fun h1 => Ret.mk (by simp at h1; simp [h1])
theorem RY {a : Ab.V} (h : a.2.2.2.1.2.1.length ≤ maxLen) : EqOk EU a := by
  intro b
  obtain ⟨v, l, w, x, _⟩ := a
  obtain ⟨v', l', w', x', _⟩ := b
  unfold EU
  refine Ret.cond (fun h1 => Ret.cond (fun h2 => Ret.cond (fun h3 => Ret.bind (Qj h x') fun r hr => Ret.mk (by simp at h1 h2 h3; simp [hr, h1, h2, h3])) fun h3 => Ret.mk (by simp at h3; simp [h3])) fun h2 => Ret.mk (by simp at h2; simp [h2])) fun h1 => Ret.mk (by simp at h1; simp [h1])
theorem Lg : (1048576 : Nat) ≤ maxLen := by decide
theorem P1 {f : List Ab.V} (h : Small f) : EqOk FC f := by
  have key : EqOk B6 f := Li (F := EU) (z := Ty.zero Ab) (r := fun a b => BL b a a.length) (fun _ _ => rfl) (fun _ _ _ => rfl) (Nat.le_trans h.1 Lg) fun x hx => RY (Nat.le_trans (h.2 x hx) Lg)
  intro b
  unfold FC
  exact Ret.bind (key b) fun r hr => Ret.mk hr
theorem Qn {a : Aj.V} (h : a.2.1.length ≤ maxLen) : EqOk BP a := by
  intro b
  obtain ⟨w, ws, _⟩ := a
  obtain ⟨w', ws', _⟩ := b
  unfold BP mkr
  refine Ret.cond (fun h1 => Ret.mk ?_) fun h1 => ?_
  · simp only [Bool.or_eq_true, bne_iff_ne] at h1
    simp only [Bool.false_eq_true, false_iff, Prod.mk.injEq, and_true, not_and]
    rintro rfl rfl
    simp at h1
  · simp only [Bool.or_eq_false_iff, bne_eq_false_iff_eq] at h1
    have h1 : w = w' ∧ (ws.length : Int) = (ws'.length : Int) := h1
    refine Ret.bind (Tb (F := fun x y => some (x == y)) (z := Ty.zero (.int .u64)) (a := ws) (b := ws') (f := Bp (w, ws, ()) (w', ws', ())) (by omega) h (fun x _ y => Ret.mk (by simp)) (fun k hk => ?_) ?_) fun t ht => ?_
    · unfold Bp Dh
      simp only [dlt hk, cond_true, if_pos (rng hk), if_pos (rng (show k < ws'.length by omega)), Int.toNat_natCast]
      rfl
    · unfold Bp Dh
      simp only [dge, cond_false]
    · rcases ht with ⟨rfl, e⟩ | ⟨rfl, e⟩
      · exact Ret.mk ⟨fun _ => by rw [h1.1, e], fun _ => rfl⟩
      · exact Ret.mk ⟨fun h => by (cases h), fun h' => (e (congrArg (fun x => x.2.1) h')).elim⟩
theorem QO {f : List Ab.V} (h : Small f) : EqOk Eb f := by
  refine Li (F := fun x y => (bif x.1 != y.1 then some true else bif x.2.1 != y.2.1 then some true else bif x.2.2.1 != y.2.2.1 then some true else (BP x.2.2.2.1 y.2.2.2.1).bind fun r => some (!r)).bind fun r => some (!r)) (z := Ty.zero Ab)
    (r := BR) (fun _ _ => rfl) (fun a b i => ?_) (Nat.le_trans h.1 Lg) fun x hx y => ?_
  · unfold BR ES DJ
    by_cases hA : (0 : Int) ≤ i ∧ i < (a.length : Int)
    · by_cases hB : (0 : Int) ≤ i ∧ i < (b.length : Int)
      · simp only [if_pos hA, if_pos hB]
        congr 1
        generalize ((a.getD i.toNat (Ty.zero Ab)).1 != (b.getD i.toNat (Ty.zero Ab)).1) = c1
        generalize ((a.getD i.toNat (Ty.zero Ab)).2.1 != (b.getD i.toNat (Ty.zero Ab)).2.1) = c2
        generalize ((a.getD i.toNat (Ty.zero Ab)).2.2.1 != (b.getD i.toNat (Ty.zero Ab)).2.2.1) = c3
        generalize BP (a.getD i.toNat (Ty.zero Ab)).2.2.2.1 (b.getD i.toNat (Ty.zero Ab)).2.2.2.1 = o
        cases c1 <;> cases c2 <;> cases c3 <;> cases o with
        | none => rfl
        | some r => cases r <;> rfl
      · simp only [if_pos hA, if_neg hB, Option.bind_none]
    · simp only [if_neg hA, Option.bind_none]
  · obtain ⟨v, l, w, x, _⟩ := x
    obtain ⟨v', l', w', x', _⟩ := y
    simp only
    by_cases h1 : v = v'
    · by_cases h2 : l = l'
      · by_cases h3 : w = w'
        · subst h1 h2 h3
          simp only [bne_self_eq_false, cond_false]
          obtain ⟨r, hr, hq⟩ := Qn (Nat.le_trans (h.2 _ hx) Lg) x'
          simp only at hr
          rw [hr]
          refine Ret.mk ?_
          simp only [Bool.not_not, hq, Prod.mk.injEq, true_and, and_true]
        · simp only [h1, h2, bne_self_eq_false, cond_false, show (w != w') = true by simpa using h3, cond_true]
          exact Ret.mk (by simp [h3])
      · simp only [h1, bne_self_eq_false, cond_false, show (l != l') = true by simpa using h2, cond_true]
        exact Ret.mk (by simp [h2])
    · simp only [show (v != v') = true by simpa using h1, cond_true]
      exact Ret.mk (by simp [h1])
end Go.Proofs.X
namespace Go.Va
inductive Bt
  | co (b : Bool)
  | va (v a : Nat)
inductive Sg
  | co (b : List Bool)
  | va (v l n : Nat)
def Sg.bits : Sg → List Bt
  | .co b => b.map .co
  | .va v l n => (List.range n).map fun k => .va v (l + k)
def Sg.w : Sg → Nat
  | .co b => b.length
  | .va _ _ n => n
def Bt.sg : Bt → Sg
  | .co b => .co [b]
  | .va v a => .va v a 1
def Sg.join : Sg → Sg → Option Sg
  | .co a, .co b => some (.co (a ++ b))
  | .va v l n, .va v' l' n' => if v = v' ∧ l + n = l' then some (.va v l (n + n')) else none
  | _, _ => none
def Sg.meets (a b : Sg) : Bool := (a.join b).isSome
def raise1 (f : List Sg) (s : Sg) : List Sg :=
  match f.getLast? with
  | none => [s]
  | some l => match l.join s with
    | some j => f.dropLast ++ [j]
    | none => f ++ [s]
def raises (f : List Sg) (ss : List Sg) : List Sg := ss.foldl raise1 f
def addB (f : List Sg) (bs : List Bt) : List Sg := bs.foldl (fun f b => raise1 f b.sg) f
def norm (bs : List Bt) : List Sg := addB [] bs
def bitsL (f : List Sg) : List Bt := f.flatMap Sg.bits
def widL (f : List Sg) : Nat := (f.map Sg.w).sum
theorem IM (s : Sg) : raise1 [] s = [s] := rfl
theorem B4 (g : List Sg) (l s : Sg) : raise1 (g ++ [l]) s = match l.join s with | some j => g ++ [j] | none => g ++ [l, s] := by
  unfold raise1
  rw [List.getLast?_append]
  simp only [List.getLast?_singleton, Option.some_or, List.dropLast_concat]
  cases l.join s <;> simp
theorem HZ (s : Sg) : s.bits.length = s.w := by cases s <;> simp [Sg.bits, Sg.w]
theorem Hb (f : List Sg) : (bitsL f).length = widL f := by
  induction f with
  | nil => rfl
  | cons s f ih => simp only [bitsL, widL, List.flatMap_cons, List.length_append, HZ, List.map_cons, List.sum_cons] at *; rw [ih]
theorem PD {a b j : Sg} (h : a.join b = some j) : j.bits = a.bits ++ b.bits := by
  cases a <;> cases b <;> simp only [Sg.join] at h
  · cases h; simp [Sg.bits]
  · cases h
  · cases h
  · rename_i v l n v' l' n'
    split at h
    · rename_i hc
      cases h
      obtain ⟨rfl, rfl⟩ := hc
      simp only [Sg.bits]
      rw [List.range_add, List.map_append, List.map_map]
      congr 1
      refine List.map_congr_left fun k _ => ?_
      simp [Nat.add_assoc]
    · cases h
theorem Mk (f : List Sg) (s : Sg) : bitsL (raise1 f s) = bitsL f ++ s.bits := by
  rcases List.eq_nil_or_concat f with rfl | ⟨g, l, rfl⟩
  · simp [IM, bitsL]
  · rw [List.concat_eq_append, B4]
    cases h : l.join s with
    | none => simp [bitsL]
    | some j => simp [bitsL, PD h]
theorem TK (f : List Sg) (bs : List Bt) : bitsL (addB f bs) = bitsL f ++ bs := by
  induction bs generalizing f with
  | nil => simp [addB]
  | cons b bs ih =>
    rw [show addB f (b :: bs) = addB (raise1 f b.sg) bs from rfl, ih, Mk]
    cases b <;> simp [Bt.sg, Sg.bits]
theorem I6 (bs : List Bt) : bitsL (norm bs) = bs := TK [] bs
theorem GG (f : List Sg) (a b : List Bt) : addB f (a ++ b) = addB (addB f a) b := List.foldl_append
theorem RW (s : Sg) (h : 2 ≤ s.w) : ∃ (t : Sg) (b : Bt), 1 ≤ t.w ∧ t.w < s.w ∧ s.bits = t.bits ++ [b] ∧ t.join b.sg = some s ∧ (∀ l j : Sg, l.join t = some j → j.join b.sg = l.join s) ∧ (∀ l : Sg, l.join t = none → l.join s = none) := by
  cases s with
  | co bs =>
    simp only [Sg.w] at h
    rcases List.eq_nil_or_concat bs with rfl | ⟨cs, x, rfl⟩
    · simp at h
    · rw [List.concat_eq_append] at h ⊢
      refine ⟨.co cs, .co x, ?_, ?_, ?_, rfl, fun l j hj => ?_, fun l hl => ?_⟩
      · simp [Sg.w] at h ⊢; omega
      · simp [Sg.w]
      · simp [Sg.bits]
      · cases l <;> simp only [Sg.join] at hj
        · cases hj; simp [Sg.join, Bt.sg]
        · cases hj
      · cases l <;> simp [Sg.join] at hl ⊢
  | va v l n =>
    simp only [Sg.w] at h
    obtain ⟨m, rfl⟩ : ∃ m, n = m + 1 := ⟨n - 1, by omega⟩
    refine ⟨.va v l m, .va v (l + m), by simp [Sg.w]; omega, by simp [Sg.w], ?_, by simp [Sg.join, Bt.sg], fun k j hj => ?_, fun k hk => ?_⟩
    · simp [Sg.bits, List.range_succ]
    · cases k <;> simp only [Sg.join] at hj
      · cases hj
      · split at hj
        · rename_i hc
          cases hj
          obtain ⟨rfl, rfl⟩ := hc
          simp [Sg.join, Bt.sg, Nat.add_assoc]
        · cases hj
    · cases k with
      | co b => rfl
      | va v' l' n' =>
        simp only [Sg.join] at hk ⊢
        split at hk
        · cases hk
        · rename_i hc; rw [if_neg hc]
theorem K2 : ∀ (n : Nat) (s : Sg) (f : List Sg), s.w = n → 1 ≤ n → raise1 f s = addB f s.bits := by
  intro n
  induction n using Nat.strongRecOn with
  | _ n ih =>
    intro s f hn h1
    rcases Nat.lt_or_ge 1 n with h | h
    · obtain ⟨t, b, ht1, ht2, hb, hj, hlj, hln⟩ := RW s (by omega)
      rw [hb, GG, ← ih t.w (by omega) t f rfl ht1]
      show _ = raise1 (raise1 f t) b.sg
      rcases List.eq_nil_or_concat f with rfl | ⟨g, l, rfl⟩
      · rw [IM, IM, show [t] = [] ++ [t] from rfl, B4, hj]; rfl
      · rw [List.concat_eq_append, B4, B4]
        cases hl : l.join t with
        | none =>
          rw [hln l hl]
          simp only
          rw [show g ++ [l, t] = (g ++ [l]) ++ [t] by simp, B4, hj]
          simp
        | some j =>
          simp only
          rw [B4, hlj l j hl]
          cases hls : l.join s with
          | some k => rfl
          | none =>
            have := hlj l j hl
            rw [hls] at this
            exfalso
            cases l <;> cases s <;> cases t <;> simp [Sg.join] at hl hls hj
            all_goals first | (cases b <;> simp [Bt.sg, Sg.join] at hj <;> done) | skip
            all_goals (cases b <;> simp [Bt.sg, Sg.join] at hj; try omega)
    · have : n = 1 := by omega
      subst this
      have hs : ∃ b : Bt, s = b.sg ∧ s.bits = [b] := by
        cases s with
        | co bs =>
          simp only [Sg.w] at hn
          obtain ⟨x, rfl⟩ := List.length_eq_one_iff.1 hn
          exact ⟨.co x, rfl, rfl⟩
        | va v l m =>
          simp only [Sg.w] at hn
          subst hn
          exact ⟨.va v l, rfl, by simp [Sg.bits]⟩
      obtain ⟨b, hb, hbits⟩ := hs
      rw [hbits, hb]; rfl
def Full (f : List Sg) : Prop := ∀ s ∈ f, 1 ≤ s.w
theorem MM {f ss : List Sg} (h : Full ss) : raises f ss = addB f (bitsL ss) := by
  induction ss generalizing f with
  | nil => rfl
  | cons s ss ih =>
    rw [show raises f (s :: ss) = raises (raise1 f s) ss from rfl, ih fun x hx => h x (List.mem_cons_of_mem _ hx), K2 _ s f rfl (h s List.mem_cons_self), show bitsL (s :: ss) = s.bits ++ bitsL ss from rfl, GG]
theorem Abi {a b j : Sg} (h : a.join b = some j) : j.w = a.w + b.w := by rw [← HZ, PD h, List.length_append, HZ, HZ]
theorem ML {f : List Sg} {s : Sg} (hf : Full f) (hs : 1 ≤ s.w) : Full (raise1 f s) := by
  rcases List.eq_nil_or_concat f with rfl | ⟨g, l, rfl⟩
  · intro x hx; rw [IM, List.mem_singleton] at hx; rw [hx]; exact hs
  · rw [List.concat_eq_append] at hf ⊢
    rw [B4]
    have hl := hf l (by simp)
    cases h : l.join s with
    | none =>
      intro x hx
      simp only [List.mem_append, List.mem_cons, List.not_mem_nil, or_false] at hx
      rcases hx with hx | rfl | rfl
      · exact hf x (by simp [hx])
      · exact hl
      · exact hs
    | some j =>
      intro x hx
      simp only [List.mem_append, List.mem_cons, List.not_mem_nil, or_false] at hx
      rcases hx with hx | rfl
      · exact hf x (by simp [hx])
      · rw [Abi h]; omega
theorem AeF (b : Bt) : b.sg.w = 1 := by cases b <;> rfl
theorem Tx {f : List Sg} (hf : Full f) (bs : List Bt) : Full (addB f bs) := by
  induction bs generalizing f with
  | nil => exact hf
  | cons b bs ih => exact ih (ML hf (by rw [AeF]; exact Nat.le_refl _))
theorem Ec (bs : List Bt) : Full (norm bs) := Tx (fun x hx => by cases hx) bs
theorem DS (bs : List Bt) : widL (norm bs) = bs.length := by rw [← Hb, I6]
theorem P4 (a b : List Bt) : raises (norm a) (norm b) = norm (a ++ b) := by
  rw [MM (Ec b), I6]; exact (GG [] a b).symm
theorem GI {f : List Sg} (h : Full f) : f.length ≤ widL f := by
  induction f with
  | nil => exact Nat.le_refl _
  | cons s f ih =>
    have := ih fun x hx => h x (List.mem_cons_of_mem _ hx)
    have := h s List.mem_cons_self
    simp only [widL, List.length_cons, List.map_cons, List.sum_cons] at *; omega
def Apart : List Sg → Prop
  | a :: b :: r => a.join b = none ∧ Apart (b :: r)
  | _ => True
theorem Nt {g : List Sg} {l s : Sg} : Apart (g ++ [l, s]) ↔ Apart (g ++ [l]) ∧ l.join s = none := by
  induction g with
  | nil => simp [Apart]
  | cons a g ih =>
    cases g with
    | nil => simp only [List.nil_append, List.cons_append, Apart, and_true] at *
    | cons b g => simp only [List.cons_append, Apart] at *; rw [ih, and_assoc]
theorem Se {g : List Sg} {l j : Sg} (h : Apart (g ++ [l])) (hj : ∀ p : Sg, p.join l = none → p.join j = none) : Apart (g ++ [j]) := by
  rcases List.eq_nil_or_concat g with rfl | ⟨k, p, rfl⟩
  · trivial
  · simp only [List.concat_eq_append, List.append_assoc, List.singleton_append, List.cons_append, List.nil_append] at *
    rw [Nt] at h ⊢
    exact ⟨h.1, hj p h.2⟩
theorem S2 {l s j : Sg} (h : l.join s = some j) (p : Sg) (hp : p.join l = none) : p.join j = none := by
  cases l <;> cases s <;> simp only [Sg.join] at h
  · cases h
    cases p <;> simp [Sg.join] at hp ⊢
  · cases h
  · cases h
  · split at h
    · cases h
      cases p <;> simp only [Sg.join] at hp ⊢
      split at hp
      · cases hp
      · rename_i hc; rw [if_neg hc]
    · cases h
theorem OX {f : List Sg} (hf : Apart f) (s : Sg) : Apart (raise1 f s) := by
  rcases List.eq_nil_or_concat f with rfl | ⟨g, l, rfl⟩
  · trivial
  · rw [List.concat_eq_append] at hf ⊢
    rw [B4]
    cases h : l.join s with
    | none => exact Nt.2 ⟨hf, h⟩
    | some j => exact Se hf (S2 h)
theorem Nr (bs : List Bt) : Apart (norm bs) := by
  have : ∀ (bs : List Bt) (f : List Sg), Apart f → Apart (addB f bs) := fun bs => by
    induction bs with
    | nil => exact fun f h => h
    | cons b bs ih => exact fun f h => ih _ (OX h _)
  exact this bs [] trivial
end Go.Va
namespace Go.Proofs.X
open Go Go.Va
set_option maxRecDepth 100000
def mkL (bs : List Bool) : Aj.V := mkB bs.length fun i => bs.getD i false
def sgV : Sg → Ab.V
  | .co bs => (-1, 0, (bs.length : Int), mkL bs, ())
  | .va v l n => ((v : Int), (l : Int), (n : Int), (0, [], ()), ())
def btV : Bt → Ag.V
  | .co b => (-1, bI b, ())
  | .va v a => ((v : Int), (a : Int), ())
def fV (f : List Sg) : List Ab.V := f.map sgV
def bV (f : List Bt) : List Ag.V := f.map btV
def SgB : Sg → Prop
  | .co bs => bs.length ≤ 4096
  | .va v l n => v ≤ 4096 ∧ l + n ≤ 4096
theorem Te {bs : List Bool} {n : Nat} {f : Nat → Bool} (hl : bs.length = n) (h : ∀ i, i < n → bs.getD i false = f i) : mkL bs = mkB n f := by
  unfold mkL
  rw [hl]
  exact TF h
theorem Ws {a b : List Bool} (h : a.length + b.length ≤ 8192) : ∃ r, BK (mkL b) (mkL a) = some r ∧ (r.1, r.2, ()) = mkL (a ++ b) := by
  refine ⟨_, Zj (by omega), (Te (by rw [List.length_append]; omega) fun i hi => ?_).symm⟩
  by_cases h : i < a.length
  · rw [if_pos h]; simp [List.getD, List.getElem?_append, h]
  · rw [if_neg h]; simp [List.getD, List.getElem?_append, h]
theorem Xn {bs : List Bool} {a w : Nat} (hn : bs.length ≤ 8192) (h1 : 1 ≤ w) (h : a + w ≤ bs.length) : ∃ r, CZ (mkL bs) (a : Int) (w : Int) = some r ∧ (r.1, r.2, ()) = mkL ((bs.drop a).take w) := by
  refine ⟨_, ZP (by omega) h1 h, (Te (by rw [List.length_take, List.length_drop]; omega) fun i hi => ?_).symm⟩
  simp [List.getD, hi]
theorem Rd {a b : Sg} (ha : SgB a) : A3 (sgV a) (sgV b) = a.meets b := by
  cases a with
  | co x =>
    cases b with
    | co y => simp [A3, sgV, Sg.meets, Sg.join]
    | va v l n =>
      simp only [A3, sgV, Sg.meets, Sg.join, Option.isSome_none, Bool.and_eq_false_iff]
      left; simp
  | va v l n =>
    cases b with
    | co y =>
      simp only [A3, sgV, Sg.meets, Sg.join, Option.isSome_none, Bool.and_eq_false_iff]
      left; simp
    | va v' l' n' =>
      simp only [SgB] at ha
      simp only [A3, sgV, Sg.meets, Sg.join]
      rw [show IntKind.i64.wrap ((l : Int) + (n : Int)) = ((l + n : Nat) : Int) from wrapN (by omega) (by omega)]
      by_cases h : v = v' ∧ l + n = l'
      · rw [if_pos h]; obtain ⟨rfl, rfl⟩ := h; simp
      · rw [if_neg h]
        simp only [Option.isSome_none, Bool.and_eq_false_iff, Bool.or_eq_false_iff, beq_eq_false_iff_ne, ne_eq]
        by_cases hv : v = v'
        · exact .inr ⟨show ¬ (v : Int) = -1 by omega, fun e => h ⟨hv, Int.ofNat.inj e⟩⟩
        · exact .inl fun e => hv (Int.ofNat.inj e)
theorem MR {A : Type} (g : List A) (x z : A) : (g ++ [x]).getD g.length z = x := by simp [List.getD]
theorem NY {A : Type} (g : List A) (x y : A) : (g ++ [x]).set g.length y = g ++ [y] := by simp
theorem I5 (f g : List Sg) : fV (f ++ g) = fV f ++ fV g := List.map_append
theorem FV (f : List Sg) : (fV f).length = f.length := List.length_map _
theorem KQ {A B : Type} (f : A → B) {l : List A} {k : Nat} {y : A} {z : B} (h : k < l.length) : (l.map f).getD k z = f (l.getD k y) := by simp [List.getD, h]
theorem R6 {ss f : List Sg} {k : Nat} {b : Int} (hk : k < ss.length) (hs : SgB (ss.getD k (.co []))) (hf : ∀ s ∈ f, SgB s) (hl : f.length ≤ 1048576) : EW (fV ss) b (k : Int) (fV f) = some (fV (raise1 f (ss.getD k (.co [])))) := by
  obtain ⟨s, hse⟩ : ∃ s, s = ss.getD k (.co []) := ⟨_, rfl⟩
  have hget : (fV ss).getD k (Ty.zero Ab) = sgV s := by rw [hse]; exact KQ sgV hk
  rw [← hse] at hs ⊢
  unfold EW
  rw [if_pos (rng (by rw [FV]; exact hk)), Int.toNat_natCast, hget]
  rcases List.eq_nil_or_concat f with rfl | ⟨g, l, rfl⟩
  · unfold EZ
    rfl
  · rw [List.concat_eq_append] at hf hl ⊢
    have hbl : SgB l := hf l (by simp)
    have hfl : (fV (g ++ [l])).length = g.length + 1 := by rw [FV, List.length_append]; rfl
    have e1 : IntKind.i64.wrap (((fV (g ++ [l])).length : Int) - 1) = (g.length : Int) := by
      rw [List.length_append] at hl
      rw [hfl]; exact wrapN (by omega) (by simp at hl; omega)
    have hgl : (fV (g ++ [l])).getD g.length (Ty.zero Ab) = sgV l := by
      rw [I5, ← FV g]; exact MR _ _ _
    have e2 : decide ((g.length : Int) < 0) = false := by simp
    have e3 : (0 : Int) ≤ (g.length : Int) ∧ (g.length : Int) < ((fV (g ++ [l])).length : Int) := ⟨by omega, by rw [hfl]; omega⟩
    rw [e1, B4]
    unfold EZ
    rw [e2, cond_false, if_pos e3, Int.toNat_natCast, hgl, Rd hbl, Option.bind_some]
    cases hj : l.join s with
    | none =>
      rw [show l.meets s = false by unfold Sg.meets; rw [hj]; rfl]
      show (if (_ + 1) * 56 ≤ _ then _ else none) = _
      rw [if_pos (by rw [hfl]; simp at hl; omega)]
      simp [I5, fV]
    | some j =>
      rw [show l.meets s = true by unfold Sg.meets; rw [hj]; rfl]
      show (EY (fV ss) b (k : Int) (fV (g ++ [l])) (g.length : Int) (sgV s)).bind _ = _
      unfold EY
      cases l with
      | co x =>
        cases s with
        | va v' l' n' => simp [Sg.join] at hj
        | co y =>
          simp only [Sg.join, Option.some.injEq] at hj
          subst hj
          simp only [SgB] at hbl hs
          obtain ⟨r, hr1, hr2⟩ := Ws (a := x) (b := y) (by omega)
          rw [show ((sgV (.co y)).1 == (-1 : Int)) = true from rfl, cond_true, if_pos e3, Int.toNat_natCast, hgl]
          rw [show BK (sgV (.co y)).2.2.2.1 (sgV (.co x)).2.2.2.1 = some r from hr1, Option.bind_some, if_pos e3, hr2, Option.bind_some]
          have e4 : (0 : Int) ≤ (g.length : Int) ∧ (g.length : Int) < (((fV (g ++ [Sg.co x])).set g.length ((sgV (.co x)).1, (sgV (.co x)).2.1, (sgV (.co x)).2.2.1, mkL (x ++ y), (sgV (.co x)).2.2.2.2)).length : Int) := by rw [List.length_set]; exact e3
          rw [if_pos e4, if_pos e4]
          have hset : (fV (g ++ [Sg.co x])).set g.length ((sgV (.co x)).1, (sgV (.co x)).2.1, (sgV (.co x)).2.2.1, mkL (x ++ y), (sgV (.co x)).2.2.2.2) = fV g ++ [(-1, 0, (x.length : Int), mkL (x ++ y), ())] := by
            rw [I5, ← FV g]; exact NY _ _ _
          rw [hset, show (fV g ++ [((-1, 0, (x.length : Int), mkL (x ++ y), ()) : Ab.V)]).getD g.length (Ty.zero Ab) = (-1, 0, (x.length : Int), mkL (x ++ y), ()) by rw [← FV g]; exact MR _ _ _]
          simp only
          rw [show IntKind.i64.wrap ((x.length : Int) + (sgV (.co y)).2.2.1) = (((x ++ y).length : Nat) : Int) by
            rw [List.length_append]; exact wrapN (by show (x.length : Int) + (y.length : Int) = _; omega) (by omega)]
          rw [I5, ← FV g, NY]
          rfl
      | va v l n =>
        cases s with
        | co y => simp [Sg.join] at hj
        | va v' l' n' =>
          simp only [SgB] at hbl hs
          simp only [Sg.join] at hj
          split at hj
          · rename_i hc
            cases hj
            rw [show ((sgV (.va v' l' n')).1 == (-1 : Int)) = false by simp [sgV], cond_false, Option.bind_some, if_pos e3, if_pos e3]
            show some (List.set (fV (g ++ [Sg.va v l n])) g.length (((fV (g ++ [Sg.va v l n])).getD g.length (Ty.zero Ab)).1, ((fV (g ++ [Sg.va v l n])).getD g.length (Ty.zero Ab)).2.1, IntKind.i64.wrap (((fV (g ++ [Sg.va v l n])).getD g.length (Ty.zero Ab)).2.2.1 + (sgV (.va v' l' n')).2.2.1), ((fV (g ++ [Sg.va v l n])).getD g.length (Ty.zero Ab)).2.2.2)) = _
            rw [hgl]
            rw [show IntKind.i64.wrap ((sgV (.va v l n)).2.2.1 + (sgV (.va v' l' n')).2.2.1) = ((n + n' : Nat) : Int) from wrapN (by show (n : Int) + (n' : Int) = _; omega) (by omega)]
            rw [I5, ← FV g]
            show some (List.set (fV g ++ [sgV (.va v l n)]) (fV g).length _) = _
            rw [NY, I5]
            rfl
          · cases hj
theorem LT {f : List Sg} {s : Sg} (hf : ∀ x ∈ f, SgB x) (hs : SgB s) (hw : widL f + s.w ≤ 4096) : ∀ x ∈ raise1 f s, SgB x := by
  rcases List.eq_nil_or_concat f with rfl | ⟨g, l, rfl⟩
  · intro x hx; rw [IM, List.mem_singleton] at hx; rw [hx]; exact hs
  · rw [List.concat_eq_append] at hf hw ⊢
    rw [B4]
    have hl := hf l (by simp)
    cases h : l.join s with
    | none =>
      intro x hx
      simp only [List.mem_append, List.mem_cons, List.not_mem_nil, or_false] at hx
      rcases hx with hx | rfl | rfl
      · exact hf x (by simp [hx])
      · exact hl
      · exact hs
    | some j =>
      intro x hx
      simp only [List.mem_append, List.mem_cons, List.not_mem_nil, or_false] at hx
      rcases hx with hx | rfl
      · exact hf x (by simp [hx])
      · cases l <;> cases s <;> simp only [Sg.join] at h
        · cases h
          simp only [widL, List.map_append, List.sum_append, List.map_cons, List.map_nil, List.sum_cons, List.sum_nil, Sg.w] at hw
          simp only [SgB, List.length_append]; omega
        · cases h
        · cases h
        · split at h
          · rename_i hc
            cases h
            simp only [SgB] at hl hs ⊢
            omega
          · cases h
theorem NJ (f : List Sg) (s : Sg) : widL (raise1 f s) = widL f + s.w := by
  rw [← Hb, Mk, List.length_append, Hb, HZ]
theorem F5 {f : List Sg} {k : Nat} (h : k < f.length) : widL (f.take (k + 1)) = widL (f.take k) + (f.getD k (.co [])).w := by
  rw [AL h (z := .co [])]
  simp [widL]
theorem Fe (f : List Sg) (k : Nat) : widL (f.take k) ≤ widL f := by
  have : widL f = widL (f.take k) + widL (f.drop k) := by
    unfold widL
    rw [← List.sum_append, ← List.map_append, List.take_append_drop]
  omega
theorem QQ {ss f : List Sg} (h1 : Full ss) (h2 : Full f) (hs : ∀ s ∈ ss, SgB s) (hf : ∀ s ∈ f, SgB s) (hw : widL f + widL ss ≤ 4096) : AO (fV ss) (fV f) = some (fV (raises f ss)) := by
  unfold AO IQ
  have hlen := GI h1
  have inv : ∀ k, k ≤ ss.length → Full (raises f (ss.take k)) ∧ (∀ s ∈ raises f (ss.take k), SgB s) ∧ widL (raises f (ss.take k)) = widL f + widL (ss.take k) := by
    intro k
    induction k with
    | zero => exact fun _ => ⟨h2, hf, rfl⟩
    | succ k ih =>
      intro hk
      obtain ⟨i1, i2, i3⟩ := ih (by omega)
      have hm : ss.getD k (.co []) ∈ ss := Ay (by omega)
      have hwk := F5 (show k < ss.length by omega)
      have := Fe ss (k + 1)
      have e : raises f (ss.take (k + 1)) = raise1 (raises f (ss.take k)) (ss.getD k (.co [])) := by
        rw [AL (show k < ss.length by omega) (z := .co [])]; exact List.foldl_append
      rw [e]
      exact ⟨ML i1 (h1 _ hm), LT i2 (hs _ hm) (by omega), by rw [NJ, i3, hwk]; omega⟩
  have := BJ (f := BB (fV ss) ((fV ss).length : Int)) (fun k => ((k : Int), fV (raises f (ss.take k)))) (t := fV (raises f ss)) ss.length (fun k hk => by
    obtain ⟨i1, i2, i3⟩ := inv k (by omega)
    have hm : ss.getD k (.co []) ∈ ss := Ay hk
    have := Fe ss k
    unfold BB FG
    simp only
    rw [FV, dlt hk, cond_true]
    rw [R6 hk (hs _ hm) i2 (by have := GI i1; omega), Option.bind_some, stepN hk (by omega), AL hk (z := .co [])]
    rw [show raises f (ss.take k ++ [ss.getD k (.co [])]) = raise1 (raises f (ss.take k)) (ss.getD k (.co [])) from List.foldl_append]) (by
    unfold BB FG
    simp only
    rw [FV, dge, cond_false, List.take_of_length_le (Nat.le_refl _)])
  rw [show fix (BB (fV ss) ((fV ss).length : Int)) (0, fV f) = some (fV (raises f ss)) from this]
  rfl
theorem OP {f : List Sg} (h1 : Full f) (hw : widL f ≤ 4096) : Bg (fV f) = some (widL f : Int) := by
  unfold Bg HE
  have hlen := GI h1
  have := BJ (f := A7 (fV f) ((fV f).length : Int)) (fun k => ((widL (f.take k) : Int), (k : Int))) (t := (widL f : Int)) f.length (fun k hk => by
    have h1 := F5 hk
    have h2 := Fe f (k + 1)
    unfold A7 DE
    simp only
    rw [FV, dlt hk, cond_true, if_pos (rng hk), Int.toNat_natCast]
    rw [stepN hk (by omega), show (fV f).getD k (Ty.zero Ab) = sgV (f.getD k (.co [])) from KQ sgV hk]
    rw [show (sgV (f.getD k (.co []))).2.2.1 = ((f.getD k (.co [])).w : Int) by cases f.getD k (.co []) <;> rfl]
    rw [show IntKind.i64.wrap ((widL (f.take k) : Int) + ((f.getD k (.co [])).w : Int)) = (widL (f.take (k + 1)) : Int) from wrapN (by omega) (by omega)]) (by
    unfold A7 DE
    simp only
    rw [FV, dge, cond_false, List.take_of_length_le (Nat.le_refl _)])
  rw [show fix (A7 (fV f) ((fV f).length : Int)) (0, 0) = some (widL f : Int) from this]
  rfl
end Go.Proofs.X
namespace Go.Proofs.X
open Go Go.Va
set_option maxRecDepth 100000
def part (s : Sg) (a w : Nat) : Sg :=
  match s with
  | .co bs => .co ((bs.drop a).take w)
  | .va v l _ => .va v (l + a) w
theorem PG {s : Sg} {a w : Nat} (h : a + w ≤ s.w) : (part s a w).bits = (s.bits.drop a).take w := by
  cases s with
  | co bs => simp [part, Sg.bits]
  | va v l n =>
    simp only [Sg.w] at h
    simp only [part, Sg.bits]
    refine List.ext_getElem (by simp; omega) fun i h1 h2 => ?_
    simp [Nat.add_assoc]
theorem Sx {s : Sg} {a w : Nat} (h : a + w ≤ s.w) : (part s a w).w = w := by
  rw [← HZ, PG h, List.length_take, List.length_drop, HZ]; omega
theorem RX {s : Sg} {a w : Nat} (hs : SgB s) (h : a + w ≤ s.w) : SgB (part s a w) := by
  cases s with
  | co bs => simp only [part, SgB, List.length_take, List.length_drop] at *; omega
  | va v l n => simp only [part, SgB, Sg.w] at *; omega
theorem Ss {s : Sg} {a w : Nat} (hs : SgB s) (h1 : 1 ≤ w) (h : a + w ≤ s.w) : ∃ r, FM (sgV s) (a : Int) (w : Int) = some r ∧ (r.1, r.2.1, r.2.2.1, (r.2.2.2.1, r.2.2.2.2, ()), ()) = sgV (part s a w) := by
  unfold FM
  cases s with
  | co bs =>
    simp only [SgB] at hs
    simp only [Sg.w] at h
    obtain ⟨r, hr1, hr2⟩ := Xn (show bs.length ≤ 8192 by omega) h1 h
    rw [show ((sgV (.co bs)).1 == (-1 : Int)) = true from rfl, cond_true, show CZ (sgV (.co bs)).2.2.2.1 (a : Int) (w : Int) = some r from hr1]
    refine ⟨_, rfl, ?_⟩
    have hw : r.1 = (w : Int) := by
      have := congrArg (fun x : Aj.V => x.1) hr2
      have e : r.1 = ((((bs.drop a).take w).length : Nat) : Int) := this
      rw [e, List.length_take, List.length_drop]; congr 1; omega
    show (-1, 0, r.1, (r.1, r.2, ()), ()) = sgV (.co ((bs.drop a).take w))
    rw [hr2]
    rw [show sgV (.co ((bs.drop a).take w)) = (-1, 0, (((bs.drop a).take w).length : Int), mkL ((bs.drop a).take w), ()) from rfl, hw, show ((bs.drop a).take w).length = w by rw [List.length_take, List.length_drop]; omega]
  | va v l n =>
    simp only [SgB] at hs
    simp only [Sg.w] at h
    rw [show ((sgV (.va v l n)).1 == (-1 : Int)) = false by simp [sgV], cond_false]
    refine ⟨_, rfl, ?_⟩
    simp only [part, sgV]
    rw [show IntKind.i64.wrap ((l : Int) + (a : Int)) = ((l + a : Nat) : Int) from wrapN (by omega) (by omega)]
theorem fGet {f : List Sg} {k : Nat} (h : k < f.length) : (fV f).getD k (Ty.zero Ab) = sgV (f.getD k (.co [])) := KQ sgV h
theorem Kx {f : List Sg} {k : Nat} (h : k < f.length) : bitsL (f.take (k + 1)) = bitsL (f.take k) ++ (f.getD k (.co [])).bits := by
  rw [AL h (z := .co [])]
  simp [bitsL]
theorem Sa (s : Sg) : (sgV s).2.2.1 = (s.w : Int) := by cases s <;> rfl
theorem WU {B S : List Bt} {lo w : Nat} : ((B ++ S).drop lo).take w = (B.drop lo).take w ++ (S.drop (max lo B.length - B.length)).take (min (lo + w) (B.length + S.length) - max lo B.length) := by
  rw [List.drop_append, List.take_append, List.length_drop]
  congr 1
  rw [show max lo B.length - B.length = lo - B.length by omega, List.take_eq_take_iff, List.length_drop]
  omega
theorem HS {bs : List Bt} (hb : ∀ b ∈ bs, SgB b.sg) (hl : bs.length ≤ 4096) : ∀ s ∈ norm bs, SgB s := by
  have : ∀ (bs : List Bt) (f : List Sg), (∀ b ∈ bs, SgB b.sg) → (∀ s ∈ f, SgB s) → widL f + bs.length ≤ 4096 → ∀ s ∈ addB f bs, SgB s := fun bs => by
    induction bs with
    | nil => exact fun f _ h _ => h
    | cons b bs ih =>
      intro f hb hf hw
      simp only [List.length_cons] at hw
      exact ih _ (fun x hx => hb x (List.mem_cons_of_mem _ hx)) (LT hf (hb b List.mem_cons_self) (by rw [AeF]; omega)) (by rw [NJ, AeF]; omega)
  exact this bs [] hb (fun s hs => by cases hs) (by show 0 + _ ≤ _; omega)
theorem Qc {f : List Sg} {lo w : Nat} (h1 : Full f) (hf : ∀ s ∈ f, SgB s) (hb : ∀ b ∈ bitsL f, SgB b.sg) (hw : widL f ≤ 4096) (hlo : lo + w ≤ 8192) : Bk (fV f) (lo : Int) (w : Int) = some (fV (norm (((bitsL f).drop lo).take w))) := by
  unfold Bk Iq
  have hlen := GI h1
  have := BJ (f := BU (lo : Int) (w : Int) (fV f) ((fV f).length : Int)) (fun k => ((widL (f.take k) : Int), (k : Int), fV (norm (((bitsL (f.take k)).drop lo).take w)))) (t := fV (norm (((bitsL f).drop lo).take w))) f.length (fun k hk => by
    have hwk := F5 hk
    have hle := Fe f (k + 1)
    have hm : f.getD k (.co []) ∈ f := Ay hk
    obtain ⟨s, hs⟩ : ∃ s, s = f.getD k (.co []) := ⟨_, rfl⟩
    have hB : (bitsL (f.take k)).length = widL (f.take k) := Hb _
    have hpre : ∀ b ∈ ((bitsL (f.take k)).drop lo).take w, b ∈ bitsL f := fun b hb => by
      have := List.mem_of_mem_drop (List.mem_of_mem_take hb)
      rw [show bitsL f = bitsL (f.take k) ++ bitsL (f.drop k) by unfold bitsL; rw [← List.flatMap_append, List.take_append_drop]]
      exact List.mem_append_left _ this
    unfold BU EA
    simp only
    rw [FV, dlt hk, cond_true, if_pos (rng hk), Int.toNat_natCast, fGet hk, stepN hk (by omega), Kx hk, WU, hB, HZ, hwk]
    rw [← hs] at hm hwk ⊢
    rw [Sa, show IntKind.i64.wrap ((widL (f.take k) : Int) + (s.w : Int)) = ((widL (f.take k) + s.w : Nat) : Int) from wrapN (by omega) (by omega), show IntKind.i64.wrap ((lo : Int) + (w : Int)) = ((lo + w : Nat) : Int) from wrapN (by omega) (by omega)]
    generalize hA : widL (f.take k) = A at *
    rw [show (if (A : Int) > (lo : Int) then (A : Int) else (lo : Int)) = ((max lo A : Nat) : Int) by split <;> omega]
    rw [show (if ((A + s.w : Nat) : Int) < ((lo + w : Nat) : Int) then ((A + s.w : Nat) : Int) else ((lo + w : Nat) : Int)) = ((min (lo + w) (A + s.w) : Nat) : Int) by split <;> omega]
    unfold Gj
    by_cases hlt : max lo A < min (lo + w) (A + s.w)
    · rw [show decide (((max lo A : Nat) : Int) < ((min (lo + w) (A + s.w) : Nat) : Int)) = true by simp only [decide_eq_true_eq]; omega, cond_true]
      rw [show IntKind.i64.wrap (((max lo A : Nat) : Int) - (A : Int)) = ((max lo A - A : Nat) : Int) from wrapN (by omega) (by omega), show IntKind.i64.wrap (((min (lo + w) (A + s.w) : Nat) : Int) - ((max lo A : Nat) : Int)) = ((min (lo + w) (A + s.w) - max lo A : Nat) : Int) from wrapN (by omega) (by omega)]
      have hin : max lo A - A + (min (lo + w) (A + s.w) - max lo A) ≤ s.w := by omega
      obtain ⟨r, hr1, hr2⟩ := Ss (a := max lo A - A) (w := min (lo + w) (A + s.w) - max lo A) (hf s hm) (by omega) hin
      rw [hr1, Option.bind_some, hr2]
      rw [show ([sgV (part s (max lo A - A) (min (lo + w) (A + s.w) - max lo A))] : List Ab.V) = fV [part s (max lo A - A) (min (lo + w) (A + s.w) - max lo A)] from rfl]
      rw [QQ (fun x hx => by rw [List.mem_singleton] at hx; rw [hx, Sx hin]; omega) (Ec _) (fun x hx => by rw [List.mem_singleton] at hx; rw [hx]; exact RX (hf s hm) hin)
        (HS (fun b hb' => hb b (hpre b hb')) (by rw [List.length_take, List.length_drop, hB]; omega)) (by
          rw [DS, List.length_take, List.length_drop, hB]
          show _ + (widL [part s _ _]) ≤ _
          rw [show widL [part s (max lo A - A) (min (lo + w) (A + s.w) - max lo A)] = min (lo + w) (A + s.w) - max lo A by simp only [widL, List.map_cons, List.map_nil, List.sum_cons, List.sum_nil, Sx hin]; rfl]
          omega)]
      simp only [Option.bind_some]
      rw [MM (fun x hx => by rw [List.mem_singleton] at hx; rw [hx, Sx hin]; omega)]
      rw [show bitsL [part s (max lo A - A) (min (lo + w) (A + s.w) - max lo A)] = (s.bits.drop (max lo A - A)).take (min (lo + w) (A + s.w) - max lo A) by simp [bitsL, PG hin]]
      rw [show ∀ a b : List Bt, addB (norm a) b = norm (a ++ b) from fun a b => (GG [] a b).symm]
    · rw [show decide (((max lo A : Nat) : Int) < ((min (lo + w) (A + s.w) : Nat) : Int)) = false by simp only [decide_eq_false_iff_not]; omega, cond_false]
      simp only [Option.bind_some]
      rw [show min (lo + w) (A + s.w) - max lo A = 0 by omega, List.take_zero, List.append_nil]) (by
    unfold BU EA
    simp only
    rw [FV, dge, cond_false, List.take_of_length_le (Nat.le_refl _)])
  have h0 : ((widL (f.take 0) : Int), ((0 : Nat) : Int), fV (norm (((bitsL (f.take 0)).drop lo).take w))) = ((0 : Int), (0 : Int), ([] : List Ab.V)) := by
    simp [widL, bitsL, norm, addB, fV]
  rw [h0] at this
  rw [this]
  rfl
def BtB : Bt → Prop
  | .co _ => True
  | .va v a => v ≤ 4096 ∧ a + 1 ≤ 4096
theorem Nu {b : Bt} (h : BtB b) : SgB b.sg := by
  cases b with
  | co b => simp [Bt.sg, SgB]
  | va v a => exact h
theorem Aiv {s : Sg} (h : SgB s) : ∀ b ∈ s.bits, BtB b := fun b hb => by
  cases s with
  | co bs => obtain ⟨x, _, rfl⟩ := List.mem_map.1 hb; trivial
  | va v l n =>
    obtain ⟨k, hk, rfl⟩ := List.mem_map.1 hb
    have := List.mem_range.1 hk
    simp only [SgB] at h
    exact ⟨h.1, by omega⟩
theorem D6 (f : List Bt) : (bV f).length = f.length := List.length_map _
theorem J2 (f g : List Bt) : bV (f ++ g) = bV f ++ bV g := List.map_append
theorem bGet {f : List Bt} {k : Nat} (h : k < f.length) : (bV f).getD k (Ty.zero Ag) = btV (f.getD k (.co false)) := KQ btV h
theorem FY {f : List Bt} {k : Nat} (h : k < f.length) : f.take (k + 1) = f.take k ++ [f.getD k (.co false)] := AL h
theorem KK (bs : List Bool) : (mkL bs).2.1.length = nw bs.length ∧ Words (mkL bs).2.1 := ⟨Ek _ _, Dv _ _⟩
theorem Ye {bs : List Bool} {k : Nat} (h : k < bs.length) (hl : bs.length ≤ 8192) : Dx (mkL bs) (k : Int) = some (bI (bs.getD k false)) := by
  have := Oo (w := (bs.length : Int)) (Dv (low (fun i => bs.getD i false) bs.length) (nw bs.length)) (i := k) (by rw [Ek]; unfold nw; omega) (by rw [Ek]; unfold nw; omega)
  rw [QZ h] at this
  exact this
theorem R5 {f : List Sg} {i : Nat} {B : List Bt} (hi : i < f.length) (hs : SgB (f.getD i (.co []))) (hB : B.length ≤ 8192) : HU (fV f) (i : Int) 0 (bV B) = some (bV (B ++ (f.getD i (.co [])).bits)) := by
  unfold HU
  obtain ⟨s, hse⟩ : ∃ s, s = f.getD i (.co []) := ⟨_, rfl⟩
  rw [← hse] at hs ⊢
  have hsw : s.w ≤ 4096 := by cases s <;> simp only [SgB, Sg.w] at * <;> omega
  have := BJ (f := CG (fV f) (i : Int)) (fun k => ((k : Int), bV (B ++ s.bits.take k))) (t := bV (B ++ s.bits)) s.w (fun k hk => by
    unfold CG Gi H0
    simp only
    have hrg : (0 : Int) ≤ (i : Int) ∧ (i : Int) < ((fV f).length : Int) := rng (by rw [FV]; exact hi)
    rw [if_pos hrg, Int.toNat_natCast, fGet hi, ← hse, Sa, dlt hk, cond_true, if_pos hrg]
    have hlen : (bV (B ++ s.bits.take k)).length ≤ 20000 := by rw [D6, List.length_append, List.length_take]; omega
    have hk' : k < s.bits.length := by rw [HZ]; exact hk
    rw [stepN hk (by omega), FY hk', ← List.append_assoc, show bV (B ++ s.bits.take k ++ [s.bits.getD k (.co false)]) = bV (B ++ s.bits.take k) ++ [btV (s.bits.getD k (.co false))] from J2 _ _]
    cases s with
    | co bs =>
      simp only [Sg.w] at hk hsw
      rw [show decide ((sgV (.co bs)).1 < 0) = true from rfl, cond_true, if_pos hrg, show Dx (sgV (.co bs)).2.2.2.1 (k : Int) = some (bI (bs.getD k false)) from Ye hk (by omega), Option.bind_some]
      rw [if_pos (by show (_ + 1) * 16 ≤ _; omega), Option.bind_some]
      rw [show IntKind.i64.wrap (bI (bs.getD k false)) = bI (bs.getD k false) by cases bs.getD k false <;> rfl]
      rw [show (Sg.co bs).bits.getD k (.co false) = .co (bs.getD k false) by simp [Sg.bits, List.getD, hk]]
      rfl
    | va v l n =>
      simp only [Sg.w, SgB] at hk hs hsw
      rw [show decide ((sgV (.va v l n)).1 < 0) = false from decide_eq_false (show ¬ ((v : Int) < 0) by omega), cond_false, if_pos hrg, if_pos hrg, if_pos (by show (_ + 1) * 16 ≤ _; omega), Option.bind_some]
      rw [show IntKind.i64.wrap ((sgV (.va v l n)).2.1 + (k : Int)) = ((l + k : Nat) : Int) from wrapN (by show (l : Int) + (k : Int) = _; omega) (by omega)]
      rw [show (Sg.va v l n).bits.getD k (.co false) = .va v (l + k) by simp [Sg.bits, List.getD, hk]]
      rfl) (by
    unfold CG Gi
    simp only
    have hrg : (0 : Int) ≤ (i : Int) ∧ (i : Int) < ((fV f).length : Int) := rng (by rw [FV]; exact hi)
    rw [if_pos hrg, Int.toNat_natCast, fGet hi, ← hse, Sa, dge, cond_false, ← HZ, List.take_of_length_le (Nat.le_refl _)])
  rw [List.take_zero, List.append_nil] at this
  exact this
theorem O0 {f : List Sg} (h1 : Full f) (hf : ∀ s ∈ f, SgB s) (hw : widL f ≤ 4096) : C8 (fV f) = some (bV (bitsL f)) := by
  unfold C8 Jz
  have hlen := GI h1
  have := BJ (f := B2 (fV f)) (fun k => ((k : Int), bV (bitsL (f.take k)))) (t := bV (bitsL f)) f.length (fun k hk => by
    unfold B2 Gd
    simp only
    have := Fe f k
    rw [FV, dlt hk, cond_true, R5 hk (hf _ (Ay hk)) (by rw [Hb]; omega), Option.bind_some, stepN hk (by omega), Kx hk]) (by
    unfold B2 Gd
    simp only
    rw [FV, dge, cond_false, List.take_of_length_le (Nat.le_refl _)])
  rw [show fix (B2 (fV f)) (0, ([] : List Ag.V)) = some (bV (bitsL f)) from this]
  rfl
end Go.Proofs.X
namespace Go.Proofs.X
open Go Go.Va
set_option maxRecDepth 100000
theorem T8 (b : Bt) : decide ((btV b).1 < 0) = (match b with | .co _ => true | .va _ _ => false) := by
  cases b with
  | co b => rfl
  | va v a => exact decide_eq_false (show ¬ ((v : Int) < 0) by omega)
theorem Acx {B : List Bt} {D : List Ab.V} {i : Nat} {b : Bool} (hi : i < B.length) (hb : B.getD i (.co false) = .co b) (hl : B.length ≤ 4096) :
    Ret (HX (bV B) D ((i + 1 : Nat) : Int) [bI b]) fun r => ∃ bs : List Bool, r = (((i + bs.length : Nat) : Int), bs.map bI) ∧ 1 ≤ bs.length ∧ i + bs.length ≤ B.length ∧ bs.getD 0 false = b ∧ B.take (i + bs.length) = B.take i ++ bs.map .co ∧ (i + bs.length < B.length → ∃ v a, B.getD (i + bs.length) (.co false) = .va v a) := by
  unfold HX
  refine Gc (fun m (x : Int × List Int) => ∃ bs : List Bool, x = (((i + bs.length : Nat) : Int), bs.map bI) ∧ 1 ≤ bs.length ∧ i + bs.length ≤ B.length ∧ bs.getD 0 false = b ∧ B.take (i + bs.length) = B.take i ++ bs.map .co ∧ m = B.length - (i + bs.length)) (fun m x hI => ?_) (B.length - (i + 1)) _ ⟨[b], rfl, by simp, hi, rfl, by
    show B.take (i + 1) = _; rw [FY hi, hb]; rfl, rfl⟩
  obtain ⟨bs, rfl, h1, h2, h3, h4, rfl⟩ := hI
  unfold Gk Iv If
  simp only
  rcases Nat.lt_or_ge (i + bs.length) B.length with h | h
  · rw [D6, dlt h, cond_true, if_pos (rng h), Int.toNat_natCast, bGet h, T8]
    cases hx : B.getD (i + bs.length) (.co false) with
    | co y =>
      simp only [cond_true, Option.bind_some, Sum.elim_inl]
      rw [if_pos (rng h), if_pos (by show (_ + 1) * 1 ≤ _; rw [List.length_map]; omega), stepN h (by omega)]
      refine Ret.mk ⟨_, ?_, bs ++ [y], ?_, by simp, by simp; omega, ?_, ?_, rfl⟩
      · simp only [List.length_append, List.length_cons, List.length_nil]; omega
      · rw [show IntKind.u8.wrap (btV (.co y)).2.1 = bI y by cases y <;> rfl]
        simp [Nat.add_assoc]
      · rw [← h3]
        cases bs with
        | nil => simp at h1
        | cons z zs => rfl
      · rw [List.length_append, ← Nat.add_assoc]
        show B.take (i + bs.length + 1) = _
        rw [FY h, h4, hx, List.map_append, List.append_assoc]; rfl
    | va v a =>
      simp only [cond_false, Option.bind_some, Sum.elim_inr]
      exact Ret.mk ⟨bs, rfl, h1, h2, h3, h4, fun _ => ⟨v, a, hx⟩⟩
  · rw [D6, show decide (((i + bs.length : Nat) : Int) < (B.length : Int)) = false from decide_eq_false (by omega), cond_false, Option.bind_some, Sum.elim_inr]
    exact Ret.mk ⟨bs, rfl, h1, h2, h3, h4, fun h' => absurd h' (by omega)⟩
theorem AaL {B : List Bt} {D : List Ab.V} {i v a : Nat} (hi : i < B.length) (hb : B.getD i (.co false) = .va v a) (hB : ∀ b ∈ B, BtB b) (hl : B.length ≤ 4096) :
    Ret (Ie (bV B) (i : Int) D ((i + 1 : Nat) : Int)) fun r => ∃ n, r = ((i + n : Nat) : Int) ∧ 1 ≤ n ∧ i + n ≤ B.length ∧ B.take (i + n) = B.take i ++ (Sg.va v a n).bits ∧ (i + n < B.length → (Sg.va v a n).join (B.getD (i + n) (.co false)).sg = none) := by
  unfold Ie
  refine Gc (fun m (x : Int) => ∃ n, x = ((i + n : Nat) : Int) ∧ 1 ≤ n ∧ i + n ≤ B.length ∧ B.take (i + n) = B.take i ++ (Sg.va v a n).bits ∧ m = B.length - (i + n)) (fun m x hI => ?_) (B.length - (i + 1)) _ ⟨1, rfl, by omega, hi, by
    rw [FY hi, hb]; rfl, rfl⟩
  obtain ⟨n, rfl, h1, h2, h4, rfl⟩ := hI
  unfold Gg Ip H5
  have hprev : B.getD (i + n - 1) (.co false) = .va v (a + n - 1) := by
    have e : (B.take (i + n)).getD (i + n - 1) (.co false) = B.getD (i + n - 1) (.co false) := by
      simp only [List.getD, List.getElem?_take, show i + n - 1 < i + n by omega, if_true]
    rw [← e, h4]
    have hti : (B.take i).length = i := by rw [List.length_take]; omega
    simp only [List.getD, List.getElem?_append, hti, show ¬ i + n - 1 < i by omega, if_false]
    rw [show i + n - 1 - i = n - 1 by omega]
    simp only [Sg.bits, List.getElem?_map, List.getElem?_range, show n - 1 < n by omega, Option.map_some, Option.getD_some]
    congr 1; omega
  have hba := hB (.va v (a + n - 1)) (by rw [← hprev]; exact Ay (by omega))
  simp only [BtB] at hba
  rcases Nat.lt_or_ge (i + n) B.length with h | h
  · rw [D6, dlt h, cond_true, if_pos (rng h), Int.toNat_natCast, Int.toNat_natCast, bGet h, if_pos (rng hi), bGet hi, hb]
    rw [show IntKind.i64.wrap (((i + n : Nat) : Int) - 1) = ((i + n - 1 : Nat) : Int) from wrapN (by omega) (by omega), Int.toNat_natCast, bGet (by omega), hprev, if_pos (rng h), if_pos (rng (by omega))]
    rw [show IntKind.i64.wrap ((btV (.va v (a + n - 1))).2.1 + 1) = ((a + n : Nat) : Int) from wrapN (by show ((a + n - 1 : Nat) : Int) + 1 = _; omega) (by omega)]
    by_cases hc : B.getD (i + n) (.co false) = .va v (a + n)
    · rw [hc]
      rw [show ((btV (.va v (a + n))).1 == (btV (.va v a)).1) = true from beq_self_eq_true (v : Int), cond_true, show ((btV (.va v (a + n))).2.1 == ((a + n : Nat) : Int)) = true from beq_self_eq_true _, cond_true, Option.bind_some, Sum.elim_inl, stepN h (by omega)]
      refine Ret.mk ⟨_, ?_, n + 1, by rw [Nat.add_assoc], by omega, by omega, ?_, rfl⟩
      · omega
      · rw [← Nat.add_assoc, FY h, h4, hc]
        simp [Sg.bits, List.range_succ]
    · have hno : (bif ((btV (B.getD (i + n) (.co false))).1 == (btV (.va v a)).1) then (bif ((btV (B.getD (i + n) (.co false))).2.1 == ((a + n : Nat) : Int)) then some (.inl ()) else some (.inr ())) else some (.inr ()) : Option (Unit ⊕ Unit)) = some (.inr ()) := by
        cases hx : B.getD (i + n) (.co false) with
        | co y => rw [show ((btV (.co y)).1 == (btV (.va v a)).1) = false by simp [btV]]; rfl
        | va v' a' =>
          by_cases hv : v' = v
          · by_cases ha : a' = a + n
            · subst hv ha; exact absurd hx hc
            · rw [show ((btV (.va v' a')).2.1 == ((a + n : Nat) : Int)) = false from beq_eq_false_iff_ne.2 fun e => ha (Int.ofNat.inj e)]
              cases ((btV (.va v' a')).1 == (btV (.va v a)).1) <;> rfl
          · rw [show ((btV (.va v' a')).1 == (btV (.va v a)).1) = false from beq_eq_false_iff_ne.2 fun e => hv (Int.ofNat.inj e)]; rfl
      refine Ret.of (a := .inr ((i + n : Nat) : Int)) (by
        have := congrArg (fun o => o.bind (Sum.elim (fun (_ : Unit) => some (.inl (IntKind.i64.wrap (((i + n : Nat) : Int) + 1)))) (fun (_ : Unit) => some (.inr ((i + n : Nat) : Int) : Int ⊕ Int)))) hno
        exact this) ?_
      refine ⟨n, rfl, h1, h2, h4, fun _ => ?_⟩
      cases hx : B.getD (i + n) (.co false) with
      | co y => rfl
      | va v' a' =>
        simp only [Sg.join, Bt.sg]
        rw [if_neg]
        rintro ⟨rfl, rfl⟩
        exact hc hx
  · rw [D6, show decide (((i + n : Nat) : Int) < (B.length : Int)) = false from decide_eq_false (by omega), cond_false, Option.bind_some, Sum.elim_inr]
    exact Ret.mk ⟨n, rfl, h1, h2, h4, fun h' => absurd h' (by omega)⟩
theorem UL {l s : Sg} {b : Bt} {r : List Bt} (hs : s.bits = b :: r) (h : l.join b.sg = none) : l.join s = none := by
  cases s with
  | co bs =>
    cases bs with
    | nil => simp [Sg.bits] at hs
    | cons x xs =>
      simp only [Sg.bits, List.map_cons, List.cons.injEq] at hs
      obtain ⟨rfl, _⟩ := hs
      cases l <;> simp [Sg.join, Bt.sg] at h ⊢
  | va v a n =>
    cases n with
    | zero => simp [Sg.bits] at hs
    | succ n =>
      simp only [Sg.bits, List.range_succ_eq_map, List.map_cons, List.cons.injEq] at hs
      obtain ⟨rfl, _⟩ := hs
      cases l with
      | co y => rfl
      | va v' l' n' =>
        simp only [Sg.join, Bt.sg, Nat.add_zero] at h ⊢
        split at h
        · cases h
        · rename_i hc; rw [if_neg hc]
def Stop (f : List Sg) (b : Bt) : Prop := ∀ l, f.getLast? = some l → l.join b.sg = none
theorem R8 {f : List Sg} {s : Sg} {b : Bt} {r : List Bt} (h : Stop f b) (hs : s.bits = b :: r) : raise1 f s = f ++ [s] := by
  unfold raise1
  cases hl : f.getLast? with
  | none => rw [List.getLast?_eq_none_iff] at hl; subst hl; rfl
  | some l => simp only [UL hs (h l hl)]
theorem VW {B : List Bt} {s : Sg} {b : Bt} {r : List Bt} (h : Stop (norm B) b) (hs : s.bits = b :: r) (hw : 1 ≤ s.w) : norm (B ++ s.bits) = norm B ++ [s] := by
  rw [show norm (B ++ s.bits) = addB (norm B) s.bits from GG [] B s.bits, ← K2 _ s _ rfl hw, R8 h hs]
theorem MN {B : List Bt} (hB : ∀ b ∈ B, BtB b) (hl : B.length ≤ 4096) : Fd (bV B) = some (decide ((norm B).length ≤ 2000), fV (norm B)) := by
  unfold Fd Jd
  refine Ret.eq_ (Ret.bind (P := fun r => r = fV (norm B)) ?_ fun r hr => Ret.mk (by
    rw [hr, FV]
    congr 1
    rw [decide_eq_decide]; omega))
  refine Gc (fun m (x : Int × List Ab.V) => ∃ i : Nat, x = ((i : Int), fV (norm (B.take i))) ∧ i ≤ B.length ∧ (i < B.length → Stop (norm (B.take i)) (B.getD i (.co false))) ∧ m = B.length - i) (fun m x hI => ?_) B.length _ ⟨0, rfl, Nat.zero_le _, fun _ l hl => by simp [norm, addB] at hl, rfl⟩
  obtain ⟨i, rfl, hi, hst, rfl⟩ := hI
  unfold Fq HP
  simp only
  rcases Nat.lt_or_ge i B.length with h | h
  · rw [D6, dlt h, cond_true, stepN h (by omega)]
    have hfl : (fV (norm (B.take i))).length ≤ 4096 := by
      have h1 := GI (Ec (B.take i))
      rw [DS, List.length_take] at h1
      rw [FV]; omega
    have key : ∀ s : Sg, ∀ n, n = s.w → 1 ≤ n → i + n ≤ B.length → B.take (i + n) = B.take i ++ s.bits → (i + n < B.length → s.join (B.getD (i + n) (.co false)).sg = none) → (s.bits.head? = some (B.getD i (.co false))) →
        (fV (norm (B.take i)) ++ [sgV s] = fV (norm (B.take (i + n)))) ∧ (i + n < B.length → Stop (norm (B.take (i + n))) (B.getD (i + n) (.co false))) := by
      rintro s n rfl h1 h2 h3 h4 h5
      obtain ⟨r, hr⟩ : ∃ r, s.bits = B.getD i (.co false) :: r := by
        cases hs : s.bits with
        | nil => rw [hs] at h5; cases h5
        | cons c r => rw [hs] at h5; simp only [List.head?_cons, Option.some.injEq] at h5; exact ⟨r, by rw [h5]⟩
      have hn := VW (hst h) hr h1
      rw [h3, hn]
      refine ⟨by rw [I5]; rfl, fun hlt l hl => ?_⟩
      rw [List.getLast?_append] at hl
      simp only [List.getLast?_singleton, Option.some_or, Option.some.injEq] at hl
      subst hl
      exact h4 hlt
    unfold Id
    rw [D6, if_pos (rng h), Int.toNat_natCast, bGet h, T8]
    cases hx : B.getD i (.co false) with
    | co b =>
      simp only [cond_true]
      rw [if_pos (rng h), show IntKind.u8.wrap (btV (.co b)).2.1 = bI b by cases b <;> rfl]
      have hrun := Acx (D := fV (norm (B.take i))) h hx hl
      refine Ret.bind (P := fun y => ∃ n, y = (((i + n : Nat) : Int), fV (norm (B.take (i + n)))) ∧ 1 ≤ n ∧ i + n ≤ B.length ∧ (i + n < B.length → Stop (norm (B.take (i + n))) (B.getD (i + n) (.co false)))) (hrun.bind fun y hy => ?_) fun y hy => ?_
      · obtain ⟨bs, rfl, h1, h2, h3, h4, h5⟩ := hy
        have hk := key (.co bs) bs.length rfl h1 h2 h4 (fun hlt => by obtain ⟨v, a, e⟩ := h5 hlt; rw [e]; rfl) (by
          rw [hx]
          cases bs with
          | nil => simp at h1
          | cons z zs => simp only [Sg.bits, List.map_cons, List.head?_cons]; rw [← h3]; rfl)
        rw [Uv h1 (by omega), Option.bind_some, if_pos (by show (_ + 1) * 56 ≤ _; omega)]
        exact Ret.mk ⟨bs.length, by rw [← hk.1]; rfl, h1, h2, hk.2⟩
      · obtain ⟨n, rfl, h1, h2, h3⟩ := hy
        exact Ret.mk ⟨B.length - (i + n), by omega, i + n, rfl, h2, h3, rfl⟩
    | va v a =>
      simp only [cond_false]
      have hrun := AaL (D := fV (norm (B.take i))) h hx hB hl
      refine Ret.bind (P := fun y => ∃ n, y = (((i + n : Nat) : Int), fV (norm (B.take (i + n)))) ∧ 1 ≤ n ∧ i + n ≤ B.length ∧ (i + n < B.length → Stop (norm (B.take (i + n))) (B.getD (i + n) (.co false)))) (hrun.bind fun y hy => ?_) fun y hy => ?_
      · obtain ⟨n, rfl, h1, h2, h4, h5⟩ := hy
        have hk := key (.va v a n) n rfl h1 h2 h4 h5 (by
          rw [hx]
          obtain ⟨m, rfl⟩ : ∃ m, n = m + 1 := ⟨n - 1, by omega⟩
          simp [Sg.bits, List.range_succ_eq_map])
        rw [if_pos (rng h), if_pos (rng h), if_pos (by show (_ + 1) * 56 ≤ _; omega), show IntKind.i64.wrap (((i + n : Nat) : Int) - (i : Int)) = (n : Int) from wrapN (by omega) (by omega)]
        exact Ret.mk ⟨n, by rw [← hk.1]; rfl, h1, h2, hk.2⟩
      · obtain ⟨n, rfl, h1, h2, h3⟩ := hy
        exact Ret.mk ⟨B.length - (i + n), by omega, i + n, rfl, h2, h3, rfl⟩
  · have : i = B.length := by omega
    subst this
    rw [D6, dge, cond_false, List.take_of_length_le (Nat.le_refl _)]
    exact Ret.mk rfl
end Go.Proofs.X
