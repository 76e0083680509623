import Derived.Test.YtjbdmijibelnlaaGreatProg
import Derived.KernelRfl
import Derived.Test.YtjbdmijibelnlaaGreatK6
set_option linter.unusedVariables false
set_option linter.unusedSimpArgs false
namespace Go.Va
theorem SoundC.ofCalls {P : Program} {f : FuncId} {fn : Func} (hf : P.funcs[f]? = some fn) (hn : (fn.name == "runtime.NumGoroutine") = false) (hb : fn.body.isNone = false) {c : Callee} (hc : CNat c)
    (h : ∀ args E av E', c.run (AV × List Blk) args E (fun v b => some (v, b)) = some (av, E') → E.length ≤ E'.length ∧ ∀ (w : World) (g : G) (vs : List Value), Heap w g E → ArgsR w g E.length args vs →
      Calls P f vs.toArray w fun e w' => ∃ v g', e = .returned v ∧ Heap w' g' E' ∧ AVR w' g' E'.length av v ∧ StepC E.length w g w' g') : SoundC P f c where
  nat := hc
  snd args E av E' hr := by
    obtain ⟨h1, h2⟩ := h args E av E' hr
    refine ⟨h1, fun w g vs H hx o a next Q hn' => ?_⟩
    have : (callFunc f vs.toArray).run P w = .ok (.enter f vs.toArray) w := by
      have hn1 : ¬ fn.name = "runtime.NumGoroutine" := by simpa using hn
      have hb1 : ¬ fn.body = none := by
        intro e; rw [e] at hb; cases hb
      simp [callFunc, hf, hn1, hb1]
    rw [this, Oper.upon_enter]
    refine (h2 w g vs H hx).mono fun e w' ⟨v, g', e1, hH, hv, hst⟩ => ?_
    subst e1
    exact hn' v w' g' hH hv hst
theorem eqNil_run {P : Program} {t : TypeId} {ti : TI} (ht : TOk P t ti) (hs : ti.isSl = true) {ad : Option Addr} {n c : Nat} {x y : Operand} (w : World) :
    (do eqGuard .eql t x y (.slice ad n c) (.slice none 0 0); binOp .eql t (.slice ad n c) (.slice none 0 0) : Sem Value).run P w = .ok (.bool ad.isNone) w := by
  have hu := isSl_under ht hs
  have h1 : ∀ d, (Op.equalIn (d + 1) t (.slice ad n c) (.slice none 0 0)).run P w = .ok ad.isNone w := by
    intro d
    unfold Op.equalIn
    cases ad <;> simp [underlying, hu]
  have h2 : (Op.equal t (.slice ad n c) (.slice none 0 0)).run P w = .ok ad.isNone w := h1 (Op.maxDepth - 1)
  show (do pure (.bool (← Op.equal t (.slice ad n c) (.slice none 0 0))) : Sem Value).run P w = _
  rw [Sem.run_bind, h2]
  rfl
section
variable {P : Program} {en : Env}
theorem clone_calls (he : ProgOk P en) {f : FuncId} {fn : Func} (hf : P.funcs[f]? = some fn) {R0 R2 T : Code} {id : Nat} {o3 o4 : Oper} {t t2 e bytes : Nat} {u : Ty} {ti : TI}
    (hb : fn.body = some (R0.seq (((Code.region id #[o3, o4] false).seq (Code.cond (.tmp 4) (R2.seq .ret) .skip)).seq T))) (hnt : fn.ntmps = 8) (hres : fn.results = #[.tmp 2])
    (h3 : o3.op = .move (.tmp 0) ∧ o3.dst = some 3 ∧ o3.guard = none) (h4 : o4.op = .binOp .eql t (.tmp 3) (.const (.slice none 0 0)) t2 ∧ o4.dst = some 4 ∧ o4.guard = none)
    (ht : en.tab.get t = some ti) (hsl : ti.isSl = true) (hu : u.row = true)
    (hR0 : ∀ xs : (Ty.sl u).V, ev en 0 R0 (Ex × St) ⟨[.dat [] (.sl u) xs, .un 0, .un 0, .un 0, .un 0, .un 0, .un 0, .un 0], []⟩ pair2 = some (.normal, ⟨[.dat [] (.sl u) xs, .un 0, .zs, .un 0, .un 0, .un 0, .un 0, .un 0], []⟩))
    (hA : ∀ xs : (Ty.sl u).V, ev en 0 (R2.seq .ret) (Ex × St) ⟨[.dat [] (.sl u) xs, .un 0, .zs, .dat [] (.sl u) xs, .bool true, .un 0, .un 0, .un 0], []⟩ pair2 = some (.ret, ⟨[.dat [] (.sl u) xs, .un 0, .zs, .dat [] (.sl u) xs, .bool true, .un 0, .un 0, .un 0], []⟩))
    (hT : ∀ xs : (Ty.sl u).V, xs.length * bytes ≤ 140737488355328 → ev en 0 T (Ex × St) ⟨[.dat [] (.sl u) xs, .un 0, .zs, .dat [] (.sl u) xs, .bool false, .un 0, .un 0, .un 0], []⟩ pair2 = some (.ret, ⟨[.dat [] (.sl u) xs, .un 0, .ref 0, .dat [] (.sl u) xs, .bool false, .zs, .dat [] (.sl u) xs, .ref 0], [.row e (if u.flat then .deep else .sh []) u xs]⟩))
    {xs : (Ty.sl u).V} (hbig : xs.length * bytes ≤ 140737488355328) (w : World) (g : G) (vs : List Value) (H : Heap w g []) (hx : ArgsR w g 0 [.dat [] (.sl u) xs] vs) :
    Calls P f vs.toArray w fun ee w' => ∃ v g', ee = .returned v ∧ Heap w' g' [.row e (if u.flat then .deep else .sh []) u xs] ∧ AVR w' g' 1 (.ref 0) v ∧ StepC 0 w g w' g' := by
  refine calls_of_wp hf hb ?_
  have hs0 := start_ok H hx (n := fn.ntmps) (by rw [hnt]; simp)
  have hs0' : StR w g ⟨[.dat [] (.sl u) xs, .un 0, .un 0, .un 0, .un 0, .un 0, .un 0, .un 0], []⟩ { tmps := vs.toArray ++ Array.replicate (fn.ntmps - vs.toArray.size) undef, defers := [] } := by
    rw [hnt] at hs0; rw [hnt]; exact hs0
  have fin : ∀ (a' : Act) (w' : World) (g' : G), a'.defers = [] → StepC 0 w g w' g' → (∃ g'', Heap w' g'' [.row e (if u.flat then .deep else .sh []) u xs] ∧ AVR w' g'' 1 (.ref 0) (a'.tmps.getD 2 undef) ∧ StepC 0 w' g' w' g'') →
      a'.defers = [] ∧ ∃ v, (results fn a'.tmps).run P w' = .ok v w' ∧ ∃ v' g', Ending.returned v = .returned v' ∧ Heap w' g' [.row e (if u.flat then .deep else .sh []) u xs] ∧ AVR w' g' 1 (.ref 0) v' ∧ StepC 0 w g w' g' := by
    intro a' w' g' hd hst ⟨g'', H'', hav, hst2⟩
    refine ⟨hd, a'.tmps.getD 2 undef, ?_, _, g'', rfl, H'', hav, hst.trans hst2⟩
    rw [results_eq, hres, Array.mapM_eq_mapM_toList]
    simp [resS]
  refine wp_seq ((code_ok he R0 _ _ _ (hR0 xs) (Nat.le_refl _)).2 _ w g _ hs0' fun a1 w1 g1 hs1 st1 hd1 => ?_)
  simp only [exOf]
  refine wp_seq (wp_seq (wp_region ?_))
  have hx0 := hs1.slots 0 _ rfl
  obtain ⟨cs, hcs, hval⟩ := avr_get rfl rfl hx0
  obtain ⟨_, ad, cap, ds, hcs1, hlen, hlist, hmem⟩ := hcs
  subst hcs1
  have hv0 : a1.tmps.getD 0 undef = .slice ad xs.length cap := by
    have : [Value.slice ad xs.length cap] = [a1.tmps.getD 0 undef] := hval
    injection this with h _; exact h.symm
  have hnil : ad = none → xs = [] := fun h => by
    rcases hmem with h1 | ⟨b, off, h1, _⟩
    · exact h1
    · rw [h] at h1; cases h1
  let a2 := (a1.put (some 3) (.slice ad xs.length cap)).put (some 4) (.bool ad.isNone)
  have hsz : a1.tmps.size = 8 := hs1.len.symm
  have hs2 : StR w1 g1 ⟨[.dat [] (.sl u) xs, .un 0, .zs, .dat [] (.sl u) xs, .bool ad.isNone, .un 0, .un 0, .un 0], []⟩ a2 := by
    refine ⟨hs1.heap, by simp [a2, put_size, hsz], fun i x hx => ?_⟩
    have h5 : ∀ i, i ≠ 3 → i ≠ 4 → a2.tmps.getD i undef = a1.tmps.getD i undef := fun i h3 h4 => by
      simp only [a2]
      rw [put_getD_ne (by simpa using fun h => h4 h.symm), put_getD_ne (by simpa using fun h => h3 h.symm)]
    match i, hx with
    | 0, hx => rw [h5 0 (by decide) (by decide)]; exact hs1.slots 0 x hx
    | 1, hx => rw [h5 1 (by decide) (by decide)]; exact hs1.slots 1 x hx
    | 2, hx => rw [h5 2 (by decide) (by decide)]; exact hs1.slots 2 x hx
    | 3, hx =>
      injection hx with hx; subst hx
      have : a2.tmps.getD 3 undef = .slice ad xs.length cap := by
        simp only [a2]
        rw [put_getD_ne (by decide), put_getD_eq (by omega)]
      rw [this, ← hv0]
      exact hx0
    | 4, hx =>
      injection hx with hx; subst hx
      have : a2.tmps.getD 4 undef = .bool ad.isNone := by
        simp only [a2]
        rw [put_getD_eq (by rw [put_size]; omega)]
      rw [this]
      exact avr_mk (cs := [.bool ad.isNone]) rfl ⟨fun k hk => by (cases hk), rfl⟩ rfl
    | 5, hx => injection hx with hx; subst hx; exact un_any
    | 6, hx => injection hx with hx; subst hx; exact un_any
    | 7, hx => injection hx with hx; subst hx; exact un_any
    | i + 8, hx => simp at hx
  have e3 : a1.eval (.tmp 0) = .slice ad xs.length cap := hv0
  have hev3 : (a1.put (some 3) (.slice ad xs.length cap)).eval (.tmp 3) = .slice ad xs.length cap := by
    show (a1.put (some 3) (.slice ad xs.length cap)).tmps.getD 3 undef = _
    rw [put_getD_eq (by omega)]
  simp only [List.range, wpOps]
  show wpOps P #[o3, o4] _ [0, 1] a1 w1
  simp only [wpOps]
  have g0 : (#[o3, o4] : Array Oper)[0]? = some o3 := rfl
  have g1' : (#[o3, o4] : Array Oper)[1]? = some o4 := rfl
  rw [g0, g1']
  simp only [Region.wanted, h3.2.2, h4.2.2, if_true]
  refine .inl ?_
  unfold Oper.wp
  rw [show (execOp a1.eval o3).run P w1 = .ok (.value (.slice ad xs.length cap)) w1 by simp [execOp, h3.1, e3], Oper.upon_value, h3.2.1]
  have hev3t : (a1.put (some 3) (.slice ad xs.length cap)).tmps.getD 3 undef = .slice ad xs.length cap := hev3
  have hrun4 : (execOp (a1.put (some 3) (.slice ad xs.length cap)).eval o4).run P w1 = .ok (.value (.bool ad.isNone)) w1 := by
    have := eqNil_run (P := P) (t := t) (he.t ht) hsl (ad := ad) (n := xs.length) (c := cap) (x := .tmp 3) (y := .const (.slice none 0 0)) w1
    simp only [execOp, h4.1, Act.eval, hev3t]
    rw [Sem.run_bind, this]
    rfl
  refine .inl ?_
  rw [hrun4, Oper.upon_value, h4.2.1]
  show (Code.cond (.tmp 4) (R2.seq .ret) .skip).wp P _ a2 w1
  have hev4 : a2.eval (.tmp 4) = .bool ad.isNone := by
    show a2.tmps.getD 4 undef = _
    simp only [a2]
    rw [put_getD_eq (by rw [put_size]; omega)]
  have hd2 : a2.defers = [] := by simp only [a2, Go.Va.put_defers]; exact hd1
  cases had : ad with
  | none =>
    have hxs := hnil had
    subst hxs
    rw [had] at hs2 hev4
    refine wp_cond_true hev4 ?_
    refine (code_ok he _ _ _ _ (hA []) (Nat.le_refl _)).2 a2 w1 g1 _ hs2 fun a3 w3 g3 hs3 st3 hd3 => ?_
    have hz := hs3.slots 2 _ rfl
    obtain ⟨g4, H4, hav4, st4⟩ := coR_ok hs3.heap (c := .row [] e u false) (a := .zs) (a' := .ref 0) (nb := [.row e (if (u.flat || false) = true then .deep else .sh []) u []]) (by simp [coV, AV.getP, AV.setP, hu]) hz
    exact fin a3 w3 g3 (hd3.trans hd2) (st1.trans st3) ⟨g4, by simpa using H4, by simpa using hav4, st4.toC (Nat.zero_le _)⟩
  | some ad0 =>
    rw [had] at hs2 hev4
    refine wp_cond_false hev4 (wp_skip ?_)
    refine (code_ok he _ _ _ _ (hT xs hbig) (Nat.le_refl _)).2 a2 w1 g1 _ hs2 fun a3 w3 g3 hs3 st3 hd3 => ?_
    exact fin a3 w3 g3 (hd3.trans hd2) (st1.trans st3) ⟨g3, hs3.heap, hs3.slots 2 _ rfl, StepC.refl _ _ _⟩
theorem clone_nat {e bytes : Nat} {u : Ty} : CNat (cloneC e u bytes) := by
  intro R args E K
  simp only [cloneC]
  split
  · split
    · split <;> rfl
    · rfl
  · rfl
theorem clone_snd (he : ProgOk P en) {f : FuncId} {fn : Func} (hf : P.funcs[f]? = some fn) (hn : (fn.name == "runtime.NumGoroutine") = false) {R0 R2 T : Code} {id : Nat} {o3 o4 : Oper} {t t2 e bytes : Nat} {u : Ty} {ti : TI}
    (hb : fn.body = some (R0.seq (((Code.region id #[o3, o4] false).seq (Code.cond (.tmp 4) (R2.seq .ret) .skip)).seq T))) (hnt : fn.ntmps = 8) (hres : fn.results = #[.tmp 2])
    (h3 : o3.op = .move (.tmp 0) ∧ o3.dst = some 3 ∧ o3.guard = none) (h4 : o4.op = .binOp .eql t (.tmp 3) (.const (.slice none 0 0)) t2 ∧ o4.dst = some 4 ∧ o4.guard = none)
    (ht : en.tab.get t = some ti) (hsl : ti.isSl = true) (hu : u.row = true)
    (hR0 : ∀ xs : (Ty.sl u).V, ev en 0 R0 (Ex × St) ⟨[.dat [] (.sl u) xs, .un 0, .un 0, .un 0, .un 0, .un 0, .un 0, .un 0], []⟩ pair2 = some (.normal, ⟨[.dat [] (.sl u) xs, .un 0, .zs, .un 0, .un 0, .un 0, .un 0, .un 0], []⟩))
    (hA : ∀ xs : (Ty.sl u).V, ev en 0 (R2.seq .ret) (Ex × St) ⟨[.dat [] (.sl u) xs, .un 0, .zs, .dat [] (.sl u) xs, .bool true, .un 0, .un 0, .un 0], []⟩ pair2 = some (.ret, ⟨[.dat [] (.sl u) xs, .un 0, .zs, .dat [] (.sl u) xs, .bool true, .un 0, .un 0, .un 0], []⟩))
    (hT : ∀ xs : (Ty.sl u).V, xs.length * bytes ≤ 140737488355328 → ev en 0 T (Ex × St) ⟨[.dat [] (.sl u) xs, .un 0, .zs, .dat [] (.sl u) xs, .bool false, .un 0, .un 0, .un 0], []⟩ pair2 = some (.ret, ⟨[.dat [] (.sl u) xs, .un 0, .ref 0, .dat [] (.sl u) xs, .bool false, .zs, .dat [] (.sl u) xs, .ref 0], [.row e (if u.flat then .deep else .sh []) u xs]⟩)) :
    SoundC P f (cloneC e u bytes) := by
  refine SoundC.ofCalls hf hn (by rw [hb]; rfl) clone_nat fun args E av E' h => ?_
  simp only [cloneC] at h
  split at h
  · split at h
    · rename_i xs hc
      obtain ⟨e1, q⟩ := castV_some hc
      subst e1; subst q
      split at h
      · rename_i hbig
        simp only [Option.some.injEq, Prod.mk.injEq] at h
        obtain ⟨rfl, rfl⟩ := h
        exact ⟨Nat.zero_le _, fun w g vs H hx => clone_calls he hf hb hnt hres h3 h4 ht hsl hu hR0 hA hT hbig w g vs H hx⟩
      · cases h
    · cases h
  · cases h
end
end Go.Va
namespace Go.Va
section
variable {A B C D : Type}
theorem bC (k : A → Option B) (c : Bool) (x y : Option A) : (bif c then x else y).bind k = bif c then x.bind k else y.bind k := bind_cond k c x y
theorem bI (k : A → Option B) (c : Prop) [Decidable c] (x y : Option A) : (if c then x else y).bind k = if c then x.bind k else y.bind k := bind_ite k c x y
theorem bN (k : A → Option B) (c : Prop) [Decidable c] (x : Option A) : (if c then none else x).bind k = if c then none else x.bind k := bind_iteN k c x
theorem bE (k : C → Option D) (g : A → Option C) (h : B → Option C) (y : A ⊕ B) : (Sum.elim g h y).bind k = Sum.elim (fun a => (g a).bind k) (fun b => (h b).bind k) y := bind_elim k g h y
theorem bA (x : Option A) (f : A → Option B) (g : B → Option C) : (x.bind f).bind g = x.bind fun y => (f y).bind g := Option.bind_assoc x f g
theorem bS (a : A) (f : A → Option B) : (some a).bind f = f a := rfl
theorem bO (f : A → Option B) : (none : Option A).bind f = none := rfl
theorem mC (f : A → B) (c : Bool) (x y : Option A) : (bif c then x else y).map f = bif c then x.map f else y.map f := map_cond f c x y
theorem mI (f : A → B) (c : Prop) [Decidable c] (x y : Option A) : (if c then x else y).map f = if c then x.map f else y.map f := map_ite f c x y
theorem mN (f : A → B) (c : Prop) [Decidable c] (x : Option A) : (if c then none else x).map f = if c then none else x.map f := map_iteN f c x
theorem mB (f : B → C) (x : Option A) (k : A → Option B) : (x.bind k).map f = x.bind fun y => (k y).map f := map_bind f x k
theorem mE (f : C → D) (g : A → Option C) (h : B → Option C) (y : A ⊕ B) : (Sum.elim g h y).map f = Sum.elim (fun a => (g a).map f) (fun b => (h b).map f) y := map_elim f g h y
theorem mS (f : A → B) (a : A) : (some a).map f = some (f a) := rfl
theorem mO (f : A → B) : (none : Option A).map f = none := rfl
theorem sI {P : Prop} (h : P) : P := h
theorem sA {P : A ⊕ B → Prop} (h1 : ∀ a, P (.inl a)) (h2 : ∀ b, P (.inr b)) : ∀ y, P y
  | .inl a => h1 a
  | .inr b => h2 b
end
abbrev dI (x : Int) : AV := .dat [] (.int .i64) x
abbrev dB (b : Bool) : AV := .dat [] .bool b
abbrev dD (t : Ty) (x : t.V) : AV := .dat [] t x
def sT (n : Nat) (l : List (Nat × AV)) (bs : List Blk) : St := ⟨mkS n 0 l, bs⟩
def Env.hd (en : Env) (k : Nat) : SH := (lookH en.fi.heads k).getD { live := [] }
def Env.ot (en : Env) (k : Nat) : SH := (lookH en.fi.outs k).getD { live := [] }
def Env.jn (en : Env) (k : Nat) : SH := (lookH en.fi.joins k).getD { live := [] }
def Env.dr (en : Env) (k : Nat) : SH := (lookH en.fi.draws k).getD { live := [] }
section
variable {X Y R : Type}
noncomputable def lpS (en : Env) (m k : Nat) (fc : Code) (p : List Nat) : St → Option (St ⊕ (Ex × St)) := stepL en m (en.hd k) (en.ot k) (sub fc (p ++ [0]))
noncomputable def jnS (en : Env) (m k : Nat) (fc : Code) (p : List Nat) : St → Option (Ex × St) := joinL en m (en.jn k) (sub fc p)
noncomputable def drS (en : Env) (m k : Nat) (fc : Code) (p : List Nat) : St → Option St := regW en m (en.dr k) (regOps (sub fc p))
noncomputable def kQ (en : Env) (m : Nat) (R : Type) (fc : Code) (p : List Nat) (K : Ex → St → Option R) (q : Ex × St) : Option R := kont en m R fc p K q.1 q.2
noncomputable def lpC (en : Env) (m k : Nat) (fc : Code) (p : List Nat) (R : Type) (K : Ex → St → Option R) (s : St) : Option R := (fix (lpS en m k fc p) s).bind (kQ en m R fc p K)
noncomputable def jnC (en : Env) (m k : Nat) (fc : Code) (p : List Nat) (R : Type) (K : Ex → St → Option R) (s : St) : Option R := (jnS en m k fc p s).bind (kQ en m R fc p K)
noncomputable def drC (en : Env) (m k : Nat) (fc : Code) (p : List Nat) (R : Type) (K : Ex → St → Option R) (s : St) : Option R := (drS en m k fc p s).bind fun q => kQ en m R fc p K (.normal, q)
def LpOk (en : Env) (m k : Nat) (fc : Code) (p : List Nat) (s : X → St) (r : X → Option (X ⊕ Y)) (o : Y → Ex × St) : Prop := ∀ x, lpS en m k fc p (s x) = (r x).map (Sum.map s o)
def JnOk (en : Env) (m k : Nat) (fc : Code) (p : List Nat) (s : St) (x : Option Y) (o : Y → Ex × St) : Prop := jnS en m k fc p s = x.map o
def DrOk (en : Env) (m k : Nat) (fc : Code) (p : List Nat) (s : St) (x : Option Y) (o : Y → St) : Prop := drS en m k fc p s = x.map o
theorem lp_ok {en : Env} {m k : Nat} {fc : Code} {p : List Nat} {s : X → St} {r : X → Option (X ⊕ Y)} {o : Y → Ex × St} (h : LpOk en m k fc p s r o) {K : Ex → St → Option R} {x : X} {F : Y → Option R} (hF : ∀ y, F y = kQ en m R fc p K (o y)) :
    (fix r x).bind F = lpC en m k fc p R K (s x) := by
  unfold lpC
  rw [fix_map s o _ r h x, bind_map]
  exact congrArg _ (funext hF)
theorem jn_ok {en : Env} {m k : Nat} {fc : Code} {p : List Nat} {s : St} {x : Option Y} {o : Y → Ex × St} (h : JnOk en m k fc p s x o) {K : Ex → St → Option R} {F : Y → Option R} (hF : ∀ y, F y = kQ en m R fc p K (o y)) :
    x.bind F = jnC en m k fc p R K s := by
  unfold jnC
  rw [h, bind_map]
  exact congrArg _ (funext hF)
theorem dr_ok {en : Env} {m k : Nat} {fc : Code} {p : List Nat} {s : St} {x : Option Y} {o : Y → St} (h : DrOk en m k fc p s x o) {K : Ex → St → Option R} {F : Y → Option R} (hF : ∀ y, F y = kQ en m R fc p K (.normal, o y)) :
    x.bind F = drC en m k fc p R K s := by
  unfold drC
  rw [h, bind_map]
  exact congrArg _ (funext hF)
def mkr (_ : St) (x : Option R) : Option R := x
theorem bM (s : St) (x : Option X) (k : X → Option Y) : (mkr s x).bind k = mkr s (x.bind k) := rfl
theorem mM (s : St) (x : Option X) (k : X → Y) : (mkr s x).map k = mkr s (x.map k) := rfl
theorem in_ok {en : Env} {m k : Nat} {fc : Code} {p : List Nat} {s : St} {e : Ex × St} (h : jnS en m k fc p s = some e) {K : Ex → St → Option R} {T : Option R} (hT : ∀ _ : Unit, T = kQ en m R fc p K e) : mkr s T = jnC en m k fc p R K s := by
  unfold jnC
  rw [h]
  exact hT ()
end
inductive Pt where
  | k (a : AV) | dat (ks : List Nat) (t : Ty) | rop (ks : List Nat) (t : Ty) | ptr (k : Nat) (p : List Nat) (o : Nat) | pr (a b : Pt) | cons (a b : Pt) | fn (f : Nat) (c : Pt)
def AV.isK : AV → AV → Bool
  | .zs, .zs => true
  | .nilp, .nilp => true
  | .nil, .nil => true
  | .un n, .un m => n == m
  | .ref n, .ref m => n == m
  | .ptr k i p o, .ptr k' i' p' o' => k == k' && i == i' && p == p' && o == o'
  | .dat [] .unit _, .dat [] .unit _ => true
  | _, _ => false
theorem AV.isK_eq {a b : AV} (h : a.isK b = true) : b = a := by
  unfold AV.isK at h
  split at h <;> first | rfl | (simp at h; obtain ⟨⟨⟨rfl, rfl⟩, rfl⟩, rfl⟩ := h; rfl) | (simp at h; subst h; rfl) | cases h
@[reducible] def Pt.T : Pt → Type
  | .k _ => Unit
  | .dat _ t => t.V
  | .rop _ t => t.V
  | .ptr _ _ _ => Int
  | .pr a b => a.T × b.T
  | .cons a b => a.T × b.T
  | .fn _ c => c.T
def Pt.fill : (p : Pt) → p.T → AV
  | .k a, _ => a
  | .dat ks t, x => .dat ks t x
  | .rop ks t, x => .rop ks t x
  | .ptr j p o, i => .ptr j i p o
  | .pr a b, x => .pr (a.fill x.1) (b.fill x.2)
  | .cons a b, x => .cons (a.fill x.1) (b.fill x.2)
  | .fn f c, x => .fn f (c.fill x)
def Pt.mt : (p : Pt) → AV → Option p.T
  | .k a, b => bif a.isK b then some () else none
  | .dat ks t, a => match a with | .dat ks' t' x => if ks' = ks then castV t' t x else none | _ => none
  | .rop ks t, a => match a with | .rop ks' t' x => if ks' = ks then castV t' t x else none | _ => none
  | .ptr j p o, a => match a with | .ptr j' i p' o' => if j' = j ∧ p' = p ∧ o' = o then some i else none | _ => none
  | .pr a b, c => match c with | .pr x y => (match a.mt x, b.mt y with | some u, some v => some (u, v) | _, _ => none) | _ => none
  | .cons a b, c => match c with | .cons x y => (match a.mt x, b.mt y with | some u, some v => some (u, v) | _, _ => none) | _ => none
  | .fn f c, a => match a with | .fn f' x => if f' = f then c.mt x else none | _ => none
theorem Pt.mt_some : ∀ {p : Pt} {a : AV} {x : p.T}, p.mt a = some x → a = p.fill x
  | .k a, b, x, h => by
    unfold Pt.mt at h
    cases e : a.isK b with
    | false => rw [e] at h; cases h
    | true => exact AV.isK_eq e
  | .dat ks t, a, x, h => by
    unfold Pt.mt at h
    cases a with
    | dat ks' t' y =>
      simp only at h
      split at h
      · rename_i e; subst e
        obtain ⟨e, q⟩ := castV_some h
        subst e; subst q; rfl
      · cases h
    | _ => cases h
  | .rop ks t, a, x, h => by
    unfold Pt.mt at h
    cases a with
    | rop ks' t' y =>
      simp only at h
      split at h
      · rename_i e; subst e
        obtain ⟨e, q⟩ := castV_some h
        subst e; subst q; rfl
      · cases h
    | _ => cases h
  | .ptr j p o, a, x, h => by
    unfold Pt.mt at h
    cases a with
    | ptr j' i p' o' =>
      simp only at h
      split at h
      · rename_i e; obtain ⟨rfl, rfl, rfl⟩ := e
        injection h with h; subst h; rfl
      · cases h
    | _ => cases h
  | .pr a b, c, x, h => by
    unfold Pt.mt at h
    cases c with
    | pr y z =>
      simp only at h
      split at h
      · rename_i u v hu hv
        injection h with h; subst h
        rw [Pt.mt_some hu, Pt.mt_some hv]; rfl
      · cases h
    | _ => cases h
  | .cons a b, c, x, h => by
    unfold Pt.mt at h
    cases c with
    | cons y z =>
      simp only at h
      split at h
      · rename_i u v hu hv
        injection h with h; subst h
        rw [Pt.mt_some hu, Pt.mt_some hv]; rfl
      · cases h
    | _ => cases h
  | .fn f c, a, x, h => by
    unfold Pt.mt at h
    cases a with
    | fn f' y =>
      simp only at h
      split at h
      · rename_i e; subst e
        rw [Pt.mt_some h]; rfl
      · cases h
    | _ => cases h
@[reducible] def ptsT : List Pt → Type
  | [] => Unit
  | p :: r => p.T × ptsT r
def ptsF : (l : List Pt) → ptsT l → List AV
  | [], _ => []
  | p :: r, x => p.fill x.1 :: ptsF r x.2
def ptsM : (l : List Pt) → List AV → Option (ptsT l)
  | [], l => match l with | [] => some () | _ => none
  | p :: r, l => match l with | a :: as' => (match p.mt a, ptsM r as' with | some u, some v => some (u, v) | _, _ => none) | _ => none
theorem ptsM_some : ∀ {l : List Pt} {a : List AV} {x : ptsT l}, ptsM l a = some x → a = ptsF l x
  | [], a, x, h => by
    cases a with
    | nil => rfl
    | cons _ _ => cases h
  | p :: r, a, x, h => by
    unfold ptsM at h
    cases a with
    | nil => cases h
    | cons a as' =>
      simp only at h
      split at h
      · rename_i u v hu hv
        injection h with h; subst h
        rw [Pt.mt_some hu, ptsM_some hv]; rfl
      · cases h
inductive BPt where
  | box (p : Pt) | row (e : Nat) (m : RM) (t : Ty) | dead
def RM.eqb : RM → RM → Bool
  | .deep, .deep => true
  | .sh a, .sh b => a == b
  | _, _ => false
theorem RM.eqb_eq {a b : RM} (h : a.eqb b = true) : b = a := by
  cases a <;> cases b <;> simp [RM.eqb] at h
  · rfl
  · subst h; rfl
@[reducible] def BPt.T : BPt → Type
  | .box p => p.T
  | .row _ _ t => List t.V
  | .dead => Unit
def BPt.fill : (p : BPt) → p.T → Blk
  | .box p, x => .box (p.fill x)
  | .row e m t, x => .row e m t x
  | .dead, _ => .dead
def BPt.mt : (p : BPt) → Blk → Option p.T
  | .box p, b => match b with | .box a => p.mt a | _ => none
  | .row e m t, b => match b with | .row e' m' t' xs => if e' = e then bif m.eqb m' then castV (.sl t') (.sl t) xs else none else none | _ => none
  | .dead, b => match b with | .dead => some () | _ => none
theorem BPt.mt_some : ∀ {p : BPt} {a : Blk} {x : p.T}, p.mt a = some x → a = p.fill x
  | .box p, a, x, h => by
    unfold BPt.mt at h
    cases a with
    | box y => rw [Pt.mt_some h]; rfl
    | _ => cases h
  | .row e m t, a, x, h => by
    unfold BPt.mt at h
    cases a with
    | row e' m' t' y =>
      simp only at h
      split at h
      · rename_i e0; subst e0
        cases hm : m.eqb m' with
        | false => rw [hm] at h; cases h
        | true =>
          rw [hm, cond_true] at h
          have := RM.eqb_eq hm; subst this
          obtain ⟨e1, q⟩ := castV_some h
          cases Ty.sl.inj e1; subst q; rfl
      · cases h
    | _ => cases h
  | .dead, a, x, h => by
    unfold BPt.mt at h
    cases a with
    | dead => rfl
    | _ => cases h
@[reducible] def bptsT : List BPt → Type
  | [] => Unit
  | p :: r => p.T × bptsT r
def bptsF : (l : List BPt) → bptsT l → List Blk
  | [], _ => []
  | p :: r, x => p.fill x.1 :: bptsF r x.2
def bptsM : (l : List BPt) → List Blk → Option (bptsT l)
  | [], l => match l with | [] => some () | _ => none
  | p :: r, l => match l with | a :: as' => (match p.mt a, bptsM r as' with | some u, some v => some (u, v) | _, _ => none) | _ => none
theorem bptsM_some : ∀ {l : List BPt} {a : List Blk} {x : bptsT l}, bptsM l a = some x → a = bptsF l x
  | [], a, x, h => by
    cases a with
    | nil => rfl
    | cons _ _ => cases h
  | p :: r, a, x, h => by
    unfold bptsM at h
    cases a with
    | nil => cases h
    | cons a as' =>
      simp only at h
      split at h
      · rename_i u v hu hv
        injection h with h; subst h
        rw [BPt.mt_some hu, bptsM_some hv]; rfl
      · cases h
structure Br where
  pa : List Pt
  pb : List BPt
  U : Type
  F : ptsT pa × bptsT pb → Option U
  out : U → AV × List Blk
def brRun : List Br → (R : Type) → List AV → List Blk → (AV → List Blk → Option R) → Option R
  | [], _, _, _, _ => none
  | b :: r, R, avs, E, K => match ptsM b.pa avs, bptsM b.pb E with
    | some x, some y => (b.F (x, y)).bind fun u => K (b.out u).1 (b.out u).2
    | _, _ => brRun r R avs E K
def brC (ms : List PM) (bs : List Br) : Callee := { modes := ms, run := brRun bs }
theorem brRun_nat : ∀ (bs : List Br) (R : Type) (args : List AV) (E : List Blk) (K : AV → List Blk → Option R), brRun bs R args E K = (brRun bs (AV × List Blk) args E fun v b => some (v, b)).bind fun p => K p.1 p.2
  | [], _, _, _, _ => rfl
  | b :: r, R, args, E, K => by
    unfold brRun
    split
    · rw [Option.bind_assoc]; rfl
    · exact brRun_nat r R args E K
def BrOk (P : Program) (fn : Func) (b : Br) : Prop := ∃ en, ProgOk P en ∧ ∀ p (R : Type) (K : AV → List Blk → Option R), runF en fn R (ptsF b.pa p.1) (bptsF b.pb p.2) K = (b.F p).bind fun u => K (b.out u).1 (b.out u).2
def BrsOk (P : Program) (fn : Func) : List Br → Prop
  | [] => True
  | b :: r => BrOk P fn b ∧ BrsOk P fn r
theorem br_run {P : Program} {fn : Func} : ∀ {bs : List Br}, BrsOk P fn bs → ∀ args E av E', brRun bs (AV × List Blk) args E (fun v b => some (v, b)) = some (av, E') → ∃ en, ProgOk P en ∧ runF en fn (AV × List Blk) args E (fun v b => some (v, b)) = some (av, E')
  | [], _, _, _, _, _, h => by cases h
  | b :: r, ⟨⟨en, he, hb⟩, hr⟩, args, E, av, E', h => by
    unfold brRun at h
    split at h
    · rename_i x y hx hy
      refine ⟨en, he, ?_⟩
      rw [ptsM_some hx, bptsM_some hy]
      exact (hb (x, y) _ _).trans h
    · exact br_run hr args E av E' h
theorem br_snd {P : Program} {f : FuncId} {fn : Func} {ms : List PM} {bs : List Br} (hf : P.funcs[f]? = some fn) (hn : (fn.name == "runtime.NumGoroutine") = false) (hb : fn.body.isNone = false) (h : BrsOk P fn bs) : SoundC P f (brC ms bs) :=
  SoundC.of2 hf hn hb (brRun_nat bs) (br_run h)
end Go.Va
namespace Go.Proofs.X
open Go Go.Va
set_option maxRecDepth 100000
abbrev Tlaws_Decl : Ty := (.pair .str (.pair (.int .i64) .unit))
abbrev Tlaws_Bits : Ty := (.pair (.int .i64) (.pair (.sl (.int .u64)) .unit))
abbrev Tlaws_TNode : Ty := (.pair (.int .i64) (.pair (.int .i64) (.pair (.int .i64) (.pair (.int .i64) (.pair Tlaws_Bits (.pair (.sl (.int .i64)) .unit))))))
abbrev Tlaws_Term : Ty := (.pair (.sl Tlaws_TNode) .unit)
abbrev Tlaws_Literal : Ty := (.pair (.int .i64) (.pair .bool (.pair Tlaws_Term (.pair Tlaws_Term .unit))))
abbrev Tlaws_PStep : Ty := (.pair (.int .i64) (.pair (.int .i64) (.pair (.int .i64) (.pair (.int .i64) (.pair (.int .i64) (.pair Tlaws_Term .unit))))))
abbrev Timpl_Bits : Ty := (.pair (.int .i64) (.pair (.sl (.int .u64)) .unit))
abbrev Timpl_Seg : Ty := (.pair (.int .i64) (.pair (.int .i64) (.pair (.int .i64) (.pair Timpl_Bits .unit))))
abbrev Timpl_Claim : Ty := (.pair (.sl Timpl_Seg) (.pair (.sl Timpl_Seg) .unit))
abbrev Timpl_Decl : Ty := (.pair .str (.pair (.int .i64) .unit))
abbrev Timpl_TNode : Ty := (.pair (.int .i64) (.pair (.int .i64) (.pair (.int .i64) (.pair (.int .i64) (.pair Timpl_Bits (.pair (.sl (.int .i64)) .unit))))))
abbrev Timpl_Term : Ty := (.pair (.sl Timpl_TNode) .unit)
abbrev Timpl_Literal : Ty := (.pair (.int .i64) (.pair .bool (.pair Timpl_Term (.pair Timpl_Term .unit))))
abbrev Timpl_PStep : Ty := (.pair (.int .i64) (.pair (.int .i64) (.pair (.int .i64) (.pair (.int .i64) (.pair (.int .i64) (.pair Timpl_Term .unit))))))
abbrev Timpl_prover : Ty := (.pair (.sl Timpl_Decl) (.pair (.sl Timpl_Literal) (.pair (.sl (.pair (.sl Timpl_Seg) (.pair (.sl Timpl_Seg) .unit))) (.pair (.sl Timpl_Claim) .unit))))
abbrev Tspec_l5Bit : Ty := (.pair (.int .i64) (.pair (.int .i64) .unit))
def tab : Tab := [
  (2, ⟨(.int .i64), [], 0, 8, 0⟩),
  (3, ⟨(.int .i64), [], 0, 8, 0⟩),
  (4, ⟨.bool, [], 0, 1, 0⟩),
  (5, ⟨(.int .u8), [], 0, 1, 0⟩),
  (9, ⟨.str, [], 0, 16, 0⟩),
  (22, ⟨(.sl Tlaws_Decl), [], 55, 24, 0⟩),
  (23, ⟨(.sl Tlaws_Literal), [], 61, 24, 0⟩),
  (24, ⟨(.sl Tlaws_PStep), [], 64, 24, 0⟩),
  (28, ⟨(.sl Timpl_Claim), [], 71, 24, 0⟩),
  (31, ⟨(.sl Timpl_Decl), [], 79, 24, 0⟩),
  (33, ⟨(.sl Timpl_Literal), [], 82, 24, 0⟩),
  (35, ⟨(.sl Timpl_PStep), [], 78, 24, 0⟩),
  (55, ⟨Tlaws_Decl, [0, 1], 0, 24, 0⟩),
  (57, ⟨(.sl Tlaws_TNode), [], 222, 24, 0⟩),
  (59, ⟨Tlaws_Term, [0], 0, 24, 0⟩),
  (61, ⟨Tlaws_Literal, [0, 1, 2, 3], 0, 64, 0⟩),
  (64, ⟨Tlaws_PStep, [0, 1, 2, 3, 4, 5], 0, 64, 0⟩),
  (66, ⟨(.sl (.sl Timpl_Seg)), [], 69, 24, 0⟩),
  (69, ⟨(.sl Timpl_Seg), [], 135, 24, 0⟩),
  (71, ⟨Timpl_Claim, [0, 1], 0, 48, 0⟩),
  (74, ⟨(.sl Timpl_TNode), [], 141, 24, 0⟩),
  (76, ⟨Timpl_Term, [0], 0, 24, 0⟩),
  (78, ⟨Timpl_PStep, [0, 1, 2, 3, 4, 5], 0, 64, 0⟩),
  (79, ⟨Timpl_Decl, [0, 1], 0, 24, 0⟩),
  (82, ⟨Timpl_Literal, [0, 1, 2, 3], 0, 64, 0⟩),
  (85, ⟨(.sl (.pair (.sl Timpl_Seg) (.pair (.sl Timpl_Seg) .unit))), [], 126, 24, 0⟩),
  (87, ⟨Timpl_prover, [0, 1, 2, 3], 0, 96, 0⟩),
  (106, ⟨(.sl .bool), [], 4, 24, 0⟩),
  (126, ⟨(.pair (.sl Timpl_Seg) (.pair (.sl Timpl_Seg) .unit)), [], 69, 48, 2⟩),
  (131, ⟨(.sl (.int .u64)), [], 169, 24, 0⟩),
  (133, ⟨Timpl_Bits, [0, 1], 0, 32, 0⟩),
  (135, ⟨Timpl_Seg, [0, 1, 2, 3], 0, 56, 0⟩),
  (138, ⟨(.sl (.int .u8)), [], 5, 24, 0⟩),
  (139, ⟨(.sl (.int .i64)), [], 2, 24, 0⟩),
  (141, ⟨Timpl_TNode, [0, 1, 2, 3, 4, 6], 0, 88, 0⟩),
  (146, ⟨(.sl Tspec_l5Bit), [], 150, 24, 0⟩),
  (150, ⟨Tspec_l5Bit, [0, 1], 0, 16, 0⟩),
  (169, ⟨(.int .u64), [], 0, 8, 0⟩),
  (187, ⟨(.sl (.sl Tspec_l5Bit)), [], 146, 24, 0⟩),
  (208, ⟨(.int .u64), [], 0, 8, 0⟩),
  (220, ⟨Tlaws_Bits, [0, 1], 0, 32, 0⟩),
  (222, ⟨Tlaws_TNode, [0, 1, 2, 3, 4, 6], 0, 88, 0⟩)]
theorem tabok : tabOk Tryz.prog tab = true := by kernel_rfl
theorem mixed : Tryz.prog.follows .mixedOrders = true := by kernel_rfl
noncomputable section
abbrev E0 : Env := ⟨tab, lookH [], { deep := true }⟩
def laws_szDecl (a : Timpl_Decl.V) (b : Int) : Int := (bif (decide ((IntKind.i64.wrap (b - (a.1.size : Int))) < 0)) then (-1) else (IntKind.i64.wrap (b - (a.1.size : Int))))
theorem U0 (R : Type) (a : Timpl_Decl.V) (b : Int) (K : AV → List Blk → Option R) : runF E0 Tryz.f27 R [dD Timpl_Decl a, dI b] [] K = K (dI (laws_szDecl a b)) [] := by
  have h : runF E0 Tryz.f27 R [dD Timpl_Decl a, dI b] [] K =
 bif (decide ((IntKind.i64.wrap (b - (a.1.size : Int))) < 0)) then
 K (dI (-1)) []
 else
 K (dI (IntKind.i64.wrap (b - (a.1.size : Int)))) [] := by kernel_rfl
  rw [h]
  unfold laws_szDecl
  cases h1 : (decide ((IntKind.i64.wrap (b - (a.1.size : Int))) < 0))
  · first | rfl | kernel_rfl
  · first | rfl | kernel_rfl
def c27 : Va.Callee := brC [.d Timpl_Decl, .d (.int .i64)] [⟨[.dat [] Timpl_Decl, .dat [] (.int .i64)], [], Int, fun p => some (laws_szDecl p.1.1 p.1.2.1), fun r => (dI r, [])⟩]
theorem c27_snd : SoundC Tryz.prog 27 c27 := br_snd (fn := Tryz.f27) (by kernel_rfl) (by kernel_rfl) (by kernel_rfl) ⟨⟨E0, ⟨⟨tabok, fns_ok trivial⟩, mixed⟩, fun p R K => U0 R p.1.1 p.1.2.1 K⟩, trivial⟩
abbrev E1 : Env := ⟨tab, lookH [(27, c27)], { deep := true, heads := [(5, { live := [0, 1, 5] })], outs := [(5, { live := [1, 4] })] }⟩
def S1_0 (a : (List Timpl_Decl.V)) (z_ : (Int × Int)) : St := sT 27 [(0, dD (.sl Timpl_Decl) a), (1, dI z_.1), (5, dI z_.2)] []
def O1_0 (a : (List Timpl_Decl.V)) : (Int ⊕ Int) → Ex × St := Sum.elim (fun b => (.ret, sT 27 [(1, dI b), (4, dI (-1))] [])) (fun c => ((.exit 0), sT 27 [(1, dI c)] []))
def laws_szDeclS_l0_g (a : (List Timpl_Decl.V)) (d : Int) (e : Int) : Option ((Int × Int) ⊕ (Int ⊕ Int)) :=
 bif (decide (e < (a.length : Int))) then
 if (0 : Int) ≤ e ∧ e < (a.length : Int) then
 bif (decide ((laws_szDecl (a.getD e.toNat (Ty.zero Timpl_Decl)) d) < 0)) then
 some (.inr (.inl (laws_szDecl (a.getD e.toNat (Ty.zero Timpl_Decl)) d)))
 else
 some (.inl ((laws_szDecl (a.getD e.toNat (Ty.zero Timpl_Decl)) d), (IntKind.i64.wrap (e + 1))))
 else none
 else
 some (.inr (.inr d))
def laws_szDeclS_l0_r (a : (List Timpl_Decl.V)) (z_ : (Int × Int)) := laws_szDeclS_l0_g a z_.1 z_.2
def laws_szDeclS_l0 (a : (List Timpl_Decl.V)) (d : Int) (e : Int) := fix (laws_szDeclS_l0_r a) (d, e)
theorem T1_0 (a : (List Timpl_Decl.V)) : LpOk E1 0 5 (code Tryz.f5) [1, 1, 1, 0, 1, 0] (S1_0 a) (laws_szDeclS_l0_r a) (O1_0 a) := by
  intro _
  simp only [laws_szDeclS_l0_r, laws_szDeclS_l0_g, mC, mI, mN, mB, mE, mM]
  kernel_rfl
def laws_szDeclS (a : (List Timpl_Decl.V)) (g : Int) : Option Int :=
 bif (decide ((IntKind.i64.wrap (g - (a.length : Int))) < 0)) then
 some (-1)
 else
 (laws_szDeclS_l0 a (IntKind.i64.wrap (g - (a.length : Int))) 0).bind (Sum.elim (fun b =>
 some (-1)) (fun c =>
 some c))
theorem U1 (R : Type) (a : (List Timpl_Decl.V)) (g : Int) (K : AV → List Blk → Option R) : runF E1 Tryz.f5 R [dD (.sl Timpl_Decl) a, dI g] [] K = (laws_szDeclS a g).bind fun r => K (dI r) [] := by
  simp only [laws_szDeclS, bC, bI, bN, bE, bA, bS, bO, bM]
  simp (disch := refine sI ?_ <;> (repeat' refine sA ?_ ?_) <;> intro _ <;> kernel_rfl) only [laws_szDeclS_l0, lp_ok (T1_0 _) (K := finK E1 Tryz.f5 0 R K)]
  kernel_rfl
def c5 : Va.Callee := brC [.d (.sl Timpl_Decl), .d (.int .i64)] [⟨[.dat [] (.sl Timpl_Decl), .dat [] (.int .i64)], [], Int, fun p => laws_szDeclS p.1.1 p.1.2.1, fun r => (dI r, [])⟩]
theorem c5_snd : SoundC Tryz.prog 5 c5 := br_snd (fn := Tryz.f5) (by kernel_rfl) (by kernel_rfl) (by kernel_rfl) ⟨⟨E1, ⟨⟨tabok, fns_ok ⟨c27_snd, trivial⟩⟩, mixed⟩, fun p R K => U1 R p.1.1 p.1.2.1 K⟩, trivial⟩
abbrev E2 : Env := ⟨tab, lookH [], { deep := true }⟩
def laws_szUint64S (a : (List Int)) (b : Int) : Int := (bif (decide ((IntKind.i64.wrap (b - (a.length : Int))) < 0)) then (-1) else (IntKind.i64.wrap (b - (a.length : Int))))
theorem U2 (R : Type) (a : (List Int)) (b : Int) (K : AV → List Blk → Option R) : runF E2 Tryz.f187 R [dD (.sl (.int .u64)) a, dI b] [] K = K (dI (laws_szUint64S a b)) [] := by
  have h : runF E2 Tryz.f187 R [dD (.sl (.int .u64)) a, dI b] [] K =
 bif (decide ((IntKind.i64.wrap (b - (a.length : Int))) < 0)) then
 K (dI (-1)) []
 else
 K (dI (IntKind.i64.wrap (b - (a.length : Int)))) [] := by kernel_rfl
  rw [h]
  unfold laws_szUint64S
  cases h1 : (decide ((IntKind.i64.wrap (b - (a.length : Int))) < 0))
  · first | rfl | kernel_rfl
  · first | rfl | kernel_rfl
def c187 : Va.Callee := brC [.d (.sl (.int .u64)), .d (.int .i64)] [⟨[.dat [] (.sl (.int .u64)), .dat [] (.int .i64)], [], Int, fun p => some (laws_szUint64S p.1.1 p.1.2.1), fun r => (dI r, [])⟩]
theorem c187_snd : SoundC Tryz.prog 187 c187 := br_snd (fn := Tryz.f187) (by kernel_rfl) (by kernel_rfl) (by kernel_rfl) ⟨⟨E2, ⟨⟨tabok, fns_ok trivial⟩, mixed⟩, fun p R K => U2 R p.1.1 p.1.2.1 K⟩, trivial⟩
abbrev E3 : Env := ⟨tab, lookH [(187, c187)], { deep := true }⟩
def laws_szBits (a : Timpl_Bits.V) (b : Int) : Int := (bif (decide ((laws_szUint64S a.2.1 b) < 0)) then (-1) else (laws_szUint64S a.2.1 b))
theorem U3 (R : Type) (a : Timpl_Bits.V) (b : Int) (K : AV → List Blk → Option R) : runF E3 Tryz.f170 R [dD Timpl_Bits a, dI b] [] K = K (dI (laws_szBits a b)) [] := by
  have h : runF E3 Tryz.f170 R [dD Timpl_Bits a, dI b] [] K =
 bif (decide ((laws_szUint64S a.2.1 b) < 0)) then
 K (dI (-1)) []
 else
 K (dI (laws_szUint64S a.2.1 b)) [] := by kernel_rfl
  rw [h]
  unfold laws_szBits
  cases h1 : (decide ((laws_szUint64S a.2.1 b) < 0))
  · first | rfl | kernel_rfl
  · first | rfl | kernel_rfl
def c170 : Va.Callee := brC [.d Timpl_Bits, .d (.int .i64)] [⟨[.dat [] Timpl_Bits, .dat [] (.int .i64)], [], Int, fun p => some (laws_szBits p.1.1 p.1.2.1), fun r => (dI r, [])⟩]
theorem c170_snd : SoundC Tryz.prog 170 c170 := br_snd (fn := Tryz.f170) (by kernel_rfl) (by kernel_rfl) (by kernel_rfl) ⟨⟨E3, ⟨⟨tabok, fns_ok ⟨c187_snd, trivial⟩⟩, mixed⟩, fun p R K => U3 R p.1.1 p.1.2.1 K⟩, trivial⟩
abbrev E4 : Env := ⟨tab, lookH [], { deep := true }⟩
def laws_szInt64S (a : (List Int)) (b : Int) : Int := (bif (decide ((IntKind.i64.wrap (b - (a.length : Int))) < 0)) then (-1) else (IntKind.i64.wrap (b - (a.length : Int))))
theorem U4 (R : Type) (a : (List Int)) (b : Int) (K : AV → List Blk → Option R) : runF E4 Tryz.f171 R [dD (.sl (.int .i64)) a, dI b] [] K = K (dI (laws_szInt64S a b)) [] := by
  have h : runF E4 Tryz.f171 R [dD (.sl (.int .i64)) a, dI b] [] K =
 bif (decide ((IntKind.i64.wrap (b - (a.length : Int))) < 0)) then
 K (dI (-1)) []
 else
 K (dI (IntKind.i64.wrap (b - (a.length : Int)))) [] := by kernel_rfl
  rw [h]
  unfold laws_szInt64S
  cases h1 : (decide ((IntKind.i64.wrap (b - (a.length : Int))) < 0))
  · first | rfl | kernel_rfl
  · first | rfl | kernel_rfl
def c171 : Va.Callee := brC [.d (.sl (.int .i64)), .d (.int .i64)] [⟨[.dat [] (.sl (.int .i64)), .dat [] (.int .i64)], [], Int, fun p => some (laws_szInt64S p.1.1 p.1.2.1), fun r => (dI r, [])⟩]
theorem c171_snd : SoundC Tryz.prog 171 c171 := br_snd (fn := Tryz.f171) (by kernel_rfl) (by kernel_rfl) (by kernel_rfl) ⟨⟨E4, ⟨⟨tabok, fns_ok trivial⟩, mixed⟩, fun p R K => U4 R p.1.1 p.1.2.1 K⟩, trivial⟩
abbrev E5 : Env := ⟨tab, lookH [(170, c170), (171, c171)], { deep := true }⟩
def laws_szTNode (a : Timpl_TNode.V) (b : Int) : Int := (bif (decide ((laws_szBits a.2.2.2.2.1 b) < 0)) then (-1) else (bif (decide ((laws_szInt64S a.2.2.2.2.2.1 (laws_szBits a.2.2.2.2.1 b)) < 0)) then (-1) else (laws_szInt64S a.2.2.2.2.2.1 (laws_szBits a.2.2.2.2.1 b))))
theorem U5 (R : Type) (a : Timpl_TNode.V) (b : Int) (K : AV → List Blk → Option R) : runF E5 Tryz.f150 R [dD Timpl_TNode a, dI b] [] K = K (dI (laws_szTNode a b)) [] := by
  have h : runF E5 Tryz.f150 R [dD Timpl_TNode a, dI b] [] K =
 bif (decide ((laws_szBits a.2.2.2.2.1 b) < 0)) then
 K (dI (-1)) []
 else
 bif (decide ((laws_szInt64S a.2.2.2.2.2.1 (laws_szBits a.2.2.2.2.1 b)) < 0)) then
 K (dI (-1)) []
 else
 K (dI (laws_szInt64S a.2.2.2.2.2.1 (laws_szBits a.2.2.2.2.1 b))) [] := by kernel_rfl
  rw [h]
  unfold laws_szTNode
  cases h1 : (decide ((laws_szBits a.2.2.2.2.1 b) < 0))
  · cases h2 : (decide ((laws_szInt64S a.2.2.2.2.2.1 (laws_szBits a.2.2.2.2.1 b)) < 0))
    · first | rfl | kernel_rfl
    · first | rfl | kernel_rfl
  · first | rfl | kernel_rfl
def c150 : Va.Callee := brC [.d Timpl_TNode, .d (.int .i64)] [⟨[.dat [] Timpl_TNode, .dat [] (.int .i64)], [], Int, fun p => some (laws_szTNode p.1.1 p.1.2.1), fun r => (dI r, [])⟩]
theorem c150_snd : SoundC Tryz.prog 150 c150 := br_snd (fn := Tryz.f150) (by kernel_rfl) (by kernel_rfl) (by kernel_rfl) ⟨⟨E5, ⟨⟨tabok, fns_ok ⟨c170_snd, c171_snd, trivial⟩⟩, mixed⟩, fun p R K => U5 R p.1.1 p.1.2.1 K⟩, trivial⟩
abbrev E6 : Env := ⟨tab, lookH [(150, c150)], { deep := true, heads := [(5, { live := [0, 1, 5] })], outs := [(5, { live := [1, 4] })] }⟩
def S6_0 (a : (List Timpl_TNode.V)) (z_ : (Int × Int)) : St := sT 27 [(0, dD (.sl Timpl_TNode) a), (1, dI z_.1), (5, dI z_.2)] []
def O6_0 (a : (List Timpl_TNode.V)) : (Int ⊕ Int) → Ex × St := Sum.elim (fun b => (.ret, sT 27 [(1, dI b), (4, dI (-1))] [])) (fun c => ((.exit 0), sT 27 [(1, dI c)] []))
def laws_szTNodeS_l0_g (a : (List Timpl_TNode.V)) (d : Int) (e : Int) : Option ((Int × Int) ⊕ (Int ⊕ Int)) :=
 bif (decide (e < (a.length : Int))) then
 if (0 : Int) ≤ e ∧ e < (a.length : Int) then
 bif (decide ((laws_szTNode (a.getD e.toNat (Ty.zero Timpl_TNode)) d) < 0)) then
 some (.inr (.inl (laws_szTNode (a.getD e.toNat (Ty.zero Timpl_TNode)) d)))
 else
 some (.inl ((laws_szTNode (a.getD e.toNat (Ty.zero Timpl_TNode)) d), (IntKind.i64.wrap (e + 1))))
 else none
 else
 some (.inr (.inr d))
def laws_szTNodeS_l0_r (a : (List Timpl_TNode.V)) (z_ : (Int × Int)) := laws_szTNodeS_l0_g a z_.1 z_.2
def laws_szTNodeS_l0 (a : (List Timpl_TNode.V)) (d : Int) (e : Int) := fix (laws_szTNodeS_l0_r a) (d, e)
theorem T6_0 (a : (List Timpl_TNode.V)) : LpOk E6 0 5 (code Tryz.f108) [1, 1, 1, 0, 1, 0] (S6_0 a) (laws_szTNodeS_l0_r a) (O6_0 a) := by
  intro _
  simp only [laws_szTNodeS_l0_r, laws_szTNodeS_l0_g, mC, mI, mN, mB, mE, mM]
  kernel_rfl
def laws_szTNodeS (a : (List Timpl_TNode.V)) (g : Int) : Option Int :=
 bif (decide ((IntKind.i64.wrap (g - (a.length : Int))) < 0)) then
 some (-1)
 else
 (laws_szTNodeS_l0 a (IntKind.i64.wrap (g - (a.length : Int))) 0).bind (Sum.elim (fun b =>
 some (-1)) (fun c =>
 some c))
theorem U6 (R : Type) (a : (List Timpl_TNode.V)) (g : Int) (K : AV → List Blk → Option R) : runF E6 Tryz.f108 R [dD (.sl Timpl_TNode) a, dI g] [] K = (laws_szTNodeS a g).bind fun r => K (dI r) [] := by
  simp only [laws_szTNodeS, bC, bI, bN, bE, bA, bS, bO, bM]
  simp (disch := refine sI ?_ <;> (repeat' refine sA ?_ ?_) <;> intro _ <;> kernel_rfl) only [laws_szTNodeS_l0, lp_ok (T6_0 _) (K := finK E6 Tryz.f108 0 R K)]
  kernel_rfl
def c108 : Va.Callee := brC [.d (.sl Timpl_TNode), .d (.int .i64)] [⟨[.dat [] (.sl Timpl_TNode), .dat [] (.int .i64)], [], Int, fun p => laws_szTNodeS p.1.1 p.1.2.1, fun r => (dI r, [])⟩]
theorem c108_snd : SoundC Tryz.prog 108 c108 := br_snd (fn := Tryz.f108) (by kernel_rfl) (by kernel_rfl) (by kernel_rfl) ⟨⟨E6, ⟨⟨tabok, fns_ok ⟨c150_snd, trivial⟩⟩, mixed⟩, fun p R K => U6 R p.1.1 p.1.2.1 K⟩, trivial⟩
abbrev E7 : Env := ⟨tab, lookH [(108, c108)], { deep := true }⟩
def laws_szTerm (a : Timpl_Term.V) (b : Int) : Option Int :=
 (laws_szTNodeS a.1 b).bind fun c =>
 bif (decide (c < 0)) then
 some (-1)
 else
 some c
theorem U7 (R : Type) (a : Timpl_Term.V) (b : Int) (K : AV → List Blk → Option R) : runF E7 Tryz.f59 R [dD Timpl_Term a, dI b] [] K = (laws_szTerm a b).bind fun r => K (dI r) [] := by
  simp only [laws_szTerm, bC, bI, bN, bE, bA, bS, bO, bM]
  kernel_rfl
def c59 : Va.Callee := brC [.d Timpl_Term, .d (.int .i64)] [⟨[.dat [] Timpl_Term, .dat [] (.int .i64)], [], Int, fun p => laws_szTerm p.1.1 p.1.2.1, fun r => (dI r, [])⟩]
theorem c59_snd : SoundC Tryz.prog 59 c59 := br_snd (fn := Tryz.f59) (by kernel_rfl) (by kernel_rfl) (by kernel_rfl) ⟨⟨E7, ⟨⟨tabok, fns_ok ⟨c108_snd, trivial⟩⟩, mixed⟩, fun p R K => U7 R p.1.1 p.1.2.1 K⟩, trivial⟩
end
end Go.Proofs.X
namespace Go.Proofs.X
open Go Go.Va
set_option maxRecDepth 100000
noncomputable section
abbrev E8 : Env := ⟨tab, lookH [(59, c59)], { deep := true }⟩
def laws_szLiteral (a : Timpl_Literal.V) (b : Int) : Option Int :=
 (laws_szTerm a.2.2.1 b).bind fun c =>
 bif (decide (c < 0)) then
 some (-1)
 else
 (laws_szTerm a.2.2.2.1 c).bind fun d =>
 bif (decide (d < 0)) then
 some (-1)
 else
 some d
theorem U8 (R : Type) (a : Timpl_Literal.V) (b : Int) (K : AV → List Blk → Option R) : runF E8 Tryz.f28 R [dD Timpl_Literal a, dI b] [] K = (laws_szLiteral a b).bind fun r => K (dI r) [] := by
  simp only [laws_szLiteral, bC, bI, bN, bE, bA, bS, bO, bM]
  kernel_rfl
def c28 : Va.Callee := brC [.d Timpl_Literal, .d (.int .i64)] [⟨[.dat [] Timpl_Literal, .dat [] (.int .i64)], [], Int, fun p => laws_szLiteral p.1.1 p.1.2.1, fun r => (dI r, [])⟩]
theorem c28_snd : SoundC Tryz.prog 28 c28 := br_snd (fn := Tryz.f28) (by kernel_rfl) (by kernel_rfl) (by kernel_rfl) ⟨⟨E8, ⟨⟨tabok, fns_ok ⟨c59_snd, trivial⟩⟩, mixed⟩, fun p R K => U8 R p.1.1 p.1.2.1 K⟩, trivial⟩
abbrev E9 : Env := ⟨tab, lookH [(28, c28)], { deep := true, heads := [(5, { live := [0, 1, 5] })], outs := [(5, { live := [1, 4] })] }⟩
def S9_0 (a : (List Timpl_Literal.V)) (z_ : (Int × Int)) : St := sT 27 [(0, dD (.sl Timpl_Literal) a), (1, dI z_.1), (5, dI z_.2)] []
def O9_0 (a : (List Timpl_Literal.V)) : (Int ⊕ Int) → Ex × St := Sum.elim (fun b => (.ret, sT 27 [(1, dI b), (4, dI (-1))] [])) (fun c => ((.exit 0), sT 27 [(1, dI c)] []))
def laws_szLiteralS_l0_g (a : (List Timpl_Literal.V)) (d : Int) (e : Int) : Option ((Int × Int) ⊕ (Int ⊕ Int)) :=
 bif (decide (e < (a.length : Int))) then
 if (0 : Int) ≤ e ∧ e < (a.length : Int) then
 (laws_szLiteral (a.getD e.toNat (Ty.zero Timpl_Literal)) d).bind fun g =>
 bif (decide (g < 0)) then
 some (.inr (.inl g))
 else
 some (.inl (g, (IntKind.i64.wrap (e + 1))))
 else none
 else
 some (.inr (.inr d))
def laws_szLiteralS_l0_r (a : (List Timpl_Literal.V)) (z_ : (Int × Int)) := laws_szLiteralS_l0_g a z_.1 z_.2
def laws_szLiteralS_l0 (a : (List Timpl_Literal.V)) (d : Int) (e : Int) := fix (laws_szLiteralS_l0_r a) (d, e)
theorem T9_0 (a : (List Timpl_Literal.V)) : LpOk E9 0 5 (code Tryz.f6) [1, 1, 1, 0, 1, 0] (S9_0 a) (laws_szLiteralS_l0_r a) (O9_0 a) := by
  intro _
  simp only [laws_szLiteralS_l0_r, laws_szLiteralS_l0_g, mC, mI, mN, mB, mE, mM]
  kernel_rfl
def laws_szLiteralS (a : (List Timpl_Literal.V)) (i : Int) : Option Int :=
 bif (decide ((IntKind.i64.wrap (i - (a.length : Int))) < 0)) then
 some (-1)
 else
 (laws_szLiteralS_l0 a (IntKind.i64.wrap (i - (a.length : Int))) 0).bind (Sum.elim (fun b =>
 some (-1)) (fun c =>
 some c))
theorem U9 (R : Type) (a : (List Timpl_Literal.V)) (i : Int) (K : AV → List Blk → Option R) : runF E9 Tryz.f6 R [dD (.sl Timpl_Literal) a, dI i] [] K = (laws_szLiteralS a i).bind fun r => K (dI r) [] := by
  simp only [laws_szLiteralS, bC, bI, bN, bE, bA, bS, bO, bM]
  simp (disch := refine sI ?_ <;> (repeat' refine sA ?_ ?_) <;> intro _ <;> kernel_rfl) only [laws_szLiteralS_l0, lp_ok (T9_0 _) (K := finK E9 Tryz.f6 0 R K)]
  kernel_rfl
def c6 : Va.Callee := brC [.d (.sl Timpl_Literal), .d (.int .i64)] [⟨[.dat [] (.sl Timpl_Literal), .dat [] (.int .i64)], [], Int, fun p => laws_szLiteralS p.1.1 p.1.2.1, fun r => (dI r, [])⟩]
theorem c6_snd : SoundC Tryz.prog 6 c6 := br_snd (fn := Tryz.f6) (by kernel_rfl) (by kernel_rfl) (by kernel_rfl) ⟨⟨E9, ⟨⟨tabok, fns_ok ⟨c28_snd, trivial⟩⟩, mixed⟩, fun p R K => U9 R p.1.1 p.1.2.1 K⟩, trivial⟩
abbrev E10 : Env := ⟨tab, lookH [(59, c59)], { deep := true }⟩
def laws_szPStep (a : Timpl_PStep.V) (b : Int) : Option Int :=
 (laws_szTerm a.2.2.2.2.2.1 b).bind fun c =>
 bif (decide (c < 0)) then
 some (-1)
 else
 some c
theorem U10 (R : Type) (a : Timpl_PStep.V) (b : Int) (K : AV → List Blk → Option R) : runF E10 Tryz.f29 R [dD Timpl_PStep a, dI b] [] K = (laws_szPStep a b).bind fun r => K (dI r) [] := by
  simp only [laws_szPStep, bC, bI, bN, bE, bA, bS, bO, bM]
  kernel_rfl
def c29 : Va.Callee := brC [.d Timpl_PStep, .d (.int .i64)] [⟨[.dat [] Timpl_PStep, .dat [] (.int .i64)], [], Int, fun p => laws_szPStep p.1.1 p.1.2.1, fun r => (dI r, [])⟩]
theorem c29_snd : SoundC Tryz.prog 29 c29 := br_snd (fn := Tryz.f29) (by kernel_rfl) (by kernel_rfl) (by kernel_rfl) ⟨⟨E10, ⟨⟨tabok, fns_ok ⟨c59_snd, trivial⟩⟩, mixed⟩, fun p R K => U10 R p.1.1 p.1.2.1 K⟩, trivial⟩
abbrev E11 : Env := ⟨tab, lookH [(29, c29)], { deep := true, heads := [(5, { live := [0, 1, 5] })], outs := [(5, { live := [1, 4] })] }⟩
def S11_0 (a : (List Timpl_PStep.V)) (z_ : (Int × Int)) : St := sT 27 [(0, dD (.sl Timpl_PStep) a), (1, dI z_.1), (5, dI z_.2)] []
def O11_0 (a : (List Timpl_PStep.V)) : (Int ⊕ Int) → Ex × St := Sum.elim (fun b => (.ret, sT 27 [(1, dI b), (4, dI (-1))] [])) (fun c => ((.exit 0), sT 27 [(1, dI c)] []))
def laws_szPStepS_l0_g (a : (List Timpl_PStep.V)) (d : Int) (e : Int) : Option ((Int × Int) ⊕ (Int ⊕ Int)) :=
 bif (decide (e < (a.length : Int))) then
 if (0 : Int) ≤ e ∧ e < (a.length : Int) then
 (laws_szPStep (a.getD e.toNat (Ty.zero Timpl_PStep)) d).bind fun g =>
 bif (decide (g < 0)) then
 some (.inr (.inl g))
 else
 some (.inl (g, (IntKind.i64.wrap (e + 1))))
 else none
 else
 some (.inr (.inr d))
def laws_szPStepS_l0_r (a : (List Timpl_PStep.V)) (z_ : (Int × Int)) := laws_szPStepS_l0_g a z_.1 z_.2
def laws_szPStepS_l0 (a : (List Timpl_PStep.V)) (d : Int) (e : Int) := fix (laws_szPStepS_l0_r a) (d, e)
theorem T11_0 (a : (List Timpl_PStep.V)) : LpOk E11 0 5 (code Tryz.f7) [1, 1, 1, 0, 1, 0] (S11_0 a) (laws_szPStepS_l0_r a) (O11_0 a) := by
  intro _
  simp only [laws_szPStepS_l0_r, laws_szPStepS_l0_g, mC, mI, mN, mB, mE, mM]
  kernel_rfl
def laws_szPStepS (a : (List Timpl_PStep.V)) (i : Int) : Option Int :=
 bif (decide ((IntKind.i64.wrap (i - (a.length : Int))) < 0)) then
 some (-1)
 else
 (laws_szPStepS_l0 a (IntKind.i64.wrap (i - (a.length : Int))) 0).bind (Sum.elim (fun b =>
 some (-1)) (fun c =>
 some c))
theorem U11 (R : Type) (a : (List Timpl_PStep.V)) (i : Int) (K : AV → List Blk → Option R) : runF E11 Tryz.f7 R [dD (.sl Timpl_PStep) a, dI i] [] K = (laws_szPStepS a i).bind fun r => K (dI r) [] := by
  simp only [laws_szPStepS, bC, bI, bN, bE, bA, bS, bO, bM]
  simp (disch := refine sI ?_ <;> (repeat' refine sA ?_ ?_) <;> intro _ <;> kernel_rfl) only [laws_szPStepS_l0, lp_ok (T11_0 _) (K := finK E11 Tryz.f7 0 R K)]
  kernel_rfl
def c7 : Va.Callee := brC [.d (.sl Timpl_PStep), .d (.int .i64)] [⟨[.dat [] (.sl Timpl_PStep), .dat [] (.int .i64)], [], Int, fun p => laws_szPStepS p.1.1 p.1.2.1, fun r => (dI r, [])⟩]
theorem c7_snd : SoundC Tryz.prog 7 c7 := br_snd (fn := Tryz.f7) (by kernel_rfl) (by kernel_rfl) (by kernel_rfl) ⟨⟨E11, ⟨⟨tabok, fns_ok ⟨c29_snd, trivial⟩⟩, mixed⟩, fun p R K => U11 R p.1.1 p.1.2.1 K⟩, trivial⟩
abbrev E12 : Env := ⟨tab, lookH [], { deep := true }⟩
def laws_toDecl (a : Timpl_Decl.V) : (ByteArray × Int) := (a.1, a.2.1)
theorem U12 (R : Type) (a : Timpl_Decl.V) (K : AV → List Blk → Option R) : runF E12 Tryz.f33 R [dD Timpl_Decl a] [] K = K (.pr (dD .str (laws_toDecl a).1) (.pr (dI (laws_toDecl a).2) .u)) [] := by
  kernel_rfl
def c33 : Va.Callee := brC [.d Timpl_Decl] [⟨[.dat [] Timpl_Decl], [], (ByteArray × Int), fun p => some (laws_toDecl p.1.1), fun r => (.pr (dD .str r.1) (.pr (dI r.2) .u), [])⟩]
theorem c33_snd : SoundC Tryz.prog 33 c33 := br_snd (fn := Tryz.f33) (by kernel_rfl) (by kernel_rfl) (by kernel_rfl) ⟨⟨E12, ⟨⟨tabok, fns_ok trivial⟩, mixed⟩, fun p R K => U12 R p.1.1 K⟩, trivial⟩
abbrev E13 : Env := ⟨tab, lookH [(33, c33)], { deep := true, heads := [(3, { live := [0, 3, 4] })], outs := [(3, { live := [3] })] }⟩
def S13_0 (a : (List Timpl_Decl.V)) (z_ : (Int × (List Timpl_Decl.V))) : St := sT 23 [(0, dD (.sl Timpl_Decl) a), (3, .ref 0), (4, dI z_.1)] [.row 79 .deep Timpl_Decl z_.2]
def O13_0 (a : (List Timpl_Decl.V)) : (List Timpl_Decl.V) → Ex × St := fun b => ((.exit 0), sT 23 [(3, .ref 0)] [.row 79 .deep Timpl_Decl b])
def laws_toDeclS_l0_g (a : (List Timpl_Decl.V)) (c : Int) (d : (List Timpl_Decl.V)) : Option ((Int × (List Timpl_Decl.V)) ⊕ (List Timpl_Decl.V)) :=
 bif (decide (c < (a.length : Int))) then
 if (0 : Int) ≤ c ∧ c < (a.length : Int) then
 if (0 : Int) ≤ c ∧ c < (d.length : Int) then
 some (.inl ((IntKind.i64.wrap (c + 1)), (d.set c.toNat ((laws_toDecl (a.getD c.toNat (Ty.zero Timpl_Decl))).1, (laws_toDecl (a.getD c.toNat (Ty.zero Timpl_Decl))).2, ()))))
 else none
 else none
 else
 some (.inr d)
def laws_toDeclS_l0_r (a : (List Timpl_Decl.V)) (z_ : (Int × (List Timpl_Decl.V))) := laws_toDeclS_l0_g a z_.1 z_.2
def laws_toDeclS_l0 (a : (List Timpl_Decl.V)) (c : Int) (d : (List Timpl_Decl.V)) := fix (laws_toDeclS_l0_r a) (c, d)
theorem T13_0 (a : (List Timpl_Decl.V)) : LpOk E13 0 3 (code Tryz.f9) [1, 1, 0, 1, 0] (S13_0 a) (laws_toDeclS_l0_r a) (O13_0 a) := by
  intro _
  simp only [laws_toDeclS_l0_r, laws_toDeclS_l0_g, mC, mI, mN, mB, mE, mM]
  kernel_rfl
def laws_toDeclS (a : (List Timpl_Decl.V)) : Option (List Timpl_Decl.V) :=
 if Ty.row Timpl_Decl = true ∧ (0 : Int) ≤ (a.length : Int) ∧ (a.length : Int) ≤ (a.length : Int) ∧ ((24 : Nat) : Int) * (a.length : Int) ≤ (281474976710656 : Int) ∧ (a.length : Int) ≤ (9223372036854775807 : Int) then
 (laws_toDeclS_l0 a 0 (List.replicate (a.length : Int).toNat ((⟨#[]⟩ : ByteArray), 0, ()))).bind fun b =>
 some b
 else none
theorem U13 (R : Type) (a : (List Timpl_Decl.V)) (K : AV → List Blk → Option R) : runF E13 Tryz.f9 R [dD (.sl Timpl_Decl) a] [] K = (laws_toDeclS a).bind fun r => K (.ref 0) [.row 79 .deep Timpl_Decl r] := by
  simp only [laws_toDeclS, bC, bI, bN, bE, bA, bS, bO, bM]
  simp (disch := refine sI ?_ <;> (repeat' refine sA ?_ ?_) <;> intro _ <;> kernel_rfl) only [laws_toDeclS_l0, lp_ok (T13_0 _) (K := finK E13 Tryz.f9 0 R K)]
  kernel_rfl
def c9 : Va.Callee := brC [.d (.sl Timpl_Decl)] [⟨[.dat [] (.sl Timpl_Decl)], [], (List Timpl_Decl.V), fun p => laws_toDeclS p.1.1, fun r => (.ref 0, [.row 79 .deep Timpl_Decl r])⟩]
theorem c9_snd : SoundC Tryz.prog 9 c9 := br_snd (fn := Tryz.f9) (by kernel_rfl) (by kernel_rfl) (by kernel_rfl) ⟨⟨E13, ⟨⟨tabok, fns_ok ⟨c33_snd, trivial⟩⟩, mixed⟩, fun p R K => U13 R p.1.1 K⟩, trivial⟩
abbrev E14 : Env := ⟨tab, lookH [], { deep := true, heads := [(3, { live := [0, 3, 4] })], outs := [(3, { live := [3] })] }⟩
def S14_0 (a : (List Int)) (z_ : (Int × (List Int))) : St := sT 22 [(0, dD (.sl (.int .u64)) a), (3, .ref 0), (4, dI z_.1)] [.row 169 .deep (.int .u64) z_.2]
def O14_0 (a : (List Int)) : (List Int) → Ex × St := fun b => ((.exit 0), sT 22 [(3, .ref 0)] [.row 169 .deep (.int .u64) b])
def laws_toUint64S_l0_g (a : (List Int)) (c : Int) (d : (List Int)) : Option ((Int × (List Int)) ⊕ (List Int)) :=
 bif (decide (c < (a.length : Int))) then
 if (0 : Int) ≤ c ∧ c < (a.length : Int) then
 if (0 : Int) ≤ c ∧ c < (d.length : Int) then
 some (.inl ((IntKind.i64.wrap (c + 1)), (d.set c.toNat (a.getD c.toNat (Ty.zero (.int .u64))))))
 else none
 else none
 else
 some (.inr d)
def laws_toUint64S_l0_r (a : (List Int)) (z_ : (Int × (List Int))) := laws_toUint64S_l0_g a z_.1 z_.2
def laws_toUint64S_l0 (a : (List Int)) (c : Int) (d : (List Int)) := fix (laws_toUint64S_l0_r a) (c, d)
theorem T14_0 (a : (List Int)) : LpOk E14 0 3 (code Tryz.f188) [1, 1, 0, 1, 0] (S14_0 a) (laws_toUint64S_l0_r a) (O14_0 a) := by
  intro _
  simp only [laws_toUint64S_l0_r, laws_toUint64S_l0_g, mC, mI, mN, mB, mE, mM]
  kernel_rfl
def laws_toUint64S (a : (List Int)) : Option (List Int) :=
 if Ty.row (.int .u64) = true ∧ (0 : Int) ≤ (a.length : Int) ∧ (a.length : Int) ≤ (a.length : Int) ∧ ((8 : Nat) : Int) * (a.length : Int) ≤ (281474976710656 : Int) ∧ (a.length : Int) ≤ (9223372036854775807 : Int) then
 (laws_toUint64S_l0 a 0 (List.replicate (a.length : Int).toNat 0)).bind fun b =>
 some b
 else none
theorem U14 (R : Type) (a : (List Int)) (K : AV → List Blk → Option R) : runF E14 Tryz.f188 R [dD (.sl (.int .u64)) a] [] K = (laws_toUint64S a).bind fun r => K (.ref 0) [.row 169 .deep (.int .u64) r] := by
  simp only [laws_toUint64S, bC, bI, bN, bE, bA, bS, bO, bM]
  simp (disch := refine sI ?_ <;> (repeat' refine sA ?_ ?_) <;> intro _ <;> kernel_rfl) only [laws_toUint64S_l0, lp_ok (T14_0 _) (K := finK E14 Tryz.f188 0 R K)]
  kernel_rfl
def c188 : Va.Callee := brC [.d (.sl (.int .u64))] [⟨[.dat [] (.sl (.int .u64))], [], (List Int), fun p => laws_toUint64S p.1.1, fun r => (.ref 0, [.row 169 .deep (.int .u64) r])⟩]
theorem c188_snd : SoundC Tryz.prog 188 c188 := br_snd (fn := Tryz.f188) (by kernel_rfl) (by kernel_rfl) (by kernel_rfl) ⟨⟨E14, ⟨⟨tabok, fns_ok trivial⟩, mixed⟩, fun p R K => U14 R p.1.1 K⟩, trivial⟩
abbrev E15 : Env := ⟨tab, lookH [(188, c188)], { deep := true }⟩
def laws_toBits (a : Timpl_Bits.V) : Option (Int × (List Int)) :=
 (laws_toUint64S a.2.1).bind fun b =>
 some (a.1, b)
theorem U15 (R : Type) (a : Timpl_Bits.V) (K : AV → List Blk → Option R) : runF E15 Tryz.f175 R [dD Timpl_Bits a] [] K = (laws_toBits a).bind fun r => K (.pr (dI r.1) (.pr (.ref 0) .u)) [.row 169 .deep (.int .u64) r.2] := by
  simp only [laws_toBits, bC, bI, bN, bE, bA, bS, bO, bM]
  kernel_rfl
def c175 : Va.Callee := brC [.d Timpl_Bits] [⟨[.dat [] Timpl_Bits], [], (Int × (List Int)), fun p => laws_toBits p.1.1, fun r => (.pr (dI r.1) (.pr (.ref 0) .u), [.row 169 .deep (.int .u64) r.2])⟩]
theorem c175_snd : SoundC Tryz.prog 175 c175 := br_snd (fn := Tryz.f175) (by kernel_rfl) (by kernel_rfl) (by kernel_rfl) ⟨⟨E15, ⟨⟨tabok, fns_ok ⟨c188_snd, trivial⟩⟩, mixed⟩, fun p R K => U15 R p.1.1 K⟩, trivial⟩
end
end Go.Proofs.X
namespace Go.Proofs.X
open Go Go.Va
set_option maxRecDepth 100000
noncomputable section
abbrev E16 : Env := ⟨tab, lookH [], { deep := true, heads := [(3, { live := [0, 3, 4] })], outs := [(3, { live := [3] })] }⟩
def S16_0 (a : (List Int)) (z_ : (Int × (List Int))) : St := sT 22 [(0, dD (.sl (.int .i64)) a), (3, .ref 0), (4, dI z_.1)] [.row 2 .deep (.int .i64) z_.2]
def O16_0 (a : (List Int)) : (List Int) → Ex × St := fun b => ((.exit 0), sT 22 [(3, .ref 0)] [.row 2 .deep (.int .i64) b])
def laws_toInt64S_l0_g (a : (List Int)) (c : Int) (d : (List Int)) : Option ((Int × (List Int)) ⊕ (List Int)) :=
 bif (decide (c < (a.length : Int))) then
 if (0 : Int) ≤ c ∧ c < (a.length : Int) then
 if (0 : Int) ≤ c ∧ c < (d.length : Int) then
 some (.inl ((IntKind.i64.wrap (c + 1)), (d.set c.toNat (a.getD c.toNat (Ty.zero (.int .i64))))))
 else none
 else none
 else
 some (.inr d)
def laws_toInt64S_l0_r (a : (List Int)) (z_ : (Int × (List Int))) := laws_toInt64S_l0_g a z_.1 z_.2
def laws_toInt64S_l0 (a : (List Int)) (c : Int) (d : (List Int)) := fix (laws_toInt64S_l0_r a) (c, d)
theorem T16_0 (a : (List Int)) : LpOk E16 0 3 (code Tryz.f176) [1, 1, 0, 1, 0] (S16_0 a) (laws_toInt64S_l0_r a) (O16_0 a) := by
  intro _
  simp only [laws_toInt64S_l0_r, laws_toInt64S_l0_g, mC, mI, mN, mB, mE, mM]
  kernel_rfl
def laws_toInt64S (a : (List Int)) : Option (List Int) :=
 if Ty.row (.int .i64) = true ∧ (0 : Int) ≤ (a.length : Int) ∧ (a.length : Int) ≤ (a.length : Int) ∧ ((8 : Nat) : Int) * (a.length : Int) ≤ (281474976710656 : Int) ∧ (a.length : Int) ≤ (9223372036854775807 : Int) then
 (laws_toInt64S_l0 a 0 (List.replicate (a.length : Int).toNat 0)).bind fun b =>
 some b
 else none
theorem U16 (R : Type) (a : (List Int)) (K : AV → List Blk → Option R) : runF E16 Tryz.f176 R [dD (.sl (.int .i64)) a] [] K = (laws_toInt64S a).bind fun r => K (.ref 0) [.row 2 .deep (.int .i64) r] := by
  simp only [laws_toInt64S, bC, bI, bN, bE, bA, bS, bO, bM]
  simp (disch := refine sI ?_ <;> (repeat' refine sA ?_ ?_) <;> intro _ <;> kernel_rfl) only [laws_toInt64S_l0, lp_ok (T16_0 _) (K := finK E16 Tryz.f176 0 R K)]
  kernel_rfl
def c176 : Va.Callee := brC [.d (.sl (.int .i64))] [⟨[.dat [] (.sl (.int .i64))], [], (List Int), fun p => laws_toInt64S p.1.1, fun r => (.ref 0, [.row 2 .deep (.int .i64) r])⟩]
theorem c176_snd : SoundC Tryz.prog 176 c176 := br_snd (fn := Tryz.f176) (by kernel_rfl) (by kernel_rfl) (by kernel_rfl) ⟨⟨E16, ⟨⟨tabok, fns_ok trivial⟩, mixed⟩, fun p R K => U16 R p.1.1 K⟩, trivial⟩
abbrev E17 : Env := ⟨tab, lookH [(175, c175), (176, c176)], { deep := true }⟩
def laws_toTNode (a : Timpl_TNode.V) : Option (Int × Int × Int × Int × Int × (List Int) × (List Int)) :=
 (laws_toBits a.2.2.2.2.1).bind fun b =>
 (laws_toInt64S a.2.2.2.2.2.1).bind fun c =>
 some (a.1, a.2.1, a.2.2.1, a.2.2.2.1, b.1, b.2, c)
theorem U17 (R : Type) (a : Timpl_TNode.V) (K : AV → List Blk → Option R) : runF E17 Tryz.f155 R [dD Timpl_TNode a] [] K = (laws_toTNode a).bind fun r => K (.pr (dI r.1) (.pr (dI r.2.1) (.pr (dI r.2.2.1) (.pr (dI r.2.2.2.1) (.pr (.pr (dI r.2.2.2.2.1) (.pr (.ref 0) .u)) (.pr (.ref 1) .u)))))) [.row 169 .deep (.int .u64) r.2.2.2.2.2.1, .row 2 .deep (.int .i64) r.2.2.2.2.2.2] := by
  simp only [laws_toTNode, bC, bI, bN, bE, bA, bS, bO, bM]
  kernel_rfl
def c155 : Va.Callee := brC [.d Timpl_TNode] [⟨[.dat [] Timpl_TNode], [], (Int × Int × Int × Int × Int × (List Int) × (List Int)), fun p => laws_toTNode p.1.1, fun r => (.pr (dI r.1) (.pr (dI r.2.1) (.pr (dI r.2.2.1) (.pr (dI r.2.2.2.1) (.pr (.pr (dI r.2.2.2.2.1) (.pr (.ref 0) .u)) (.pr (.ref 1) .u))))), [.row 169 .deep (.int .u64) r.2.2.2.2.2.1, .row 2 .deep (.int .i64) r.2.2.2.2.2.2])⟩]
theorem c155_snd : SoundC Tryz.prog 155 c155 := br_snd (fn := Tryz.f155) (by kernel_rfl) (by kernel_rfl) (by kernel_rfl) ⟨⟨E17, ⟨⟨tabok, fns_ok ⟨c175_snd, c176_snd, trivial⟩⟩, mixed⟩, fun p R K => U17 R p.1.1 K⟩, trivial⟩
abbrev E18 : Env := ⟨tab, lookH [(155, c155)], { deep := true, heads := [(3, { live := [0, 3, 4] })], outs := [(3, { live := [3] })] }⟩
def S18_0 (a : (List Timpl_TNode.V)) (z_ : (Int × (List Timpl_TNode.V))) : St := sT 23 [(0, dD (.sl Timpl_TNode) a), (3, .ref 0), (4, dI z_.1)] [.row 141 .deep Timpl_TNode z_.2]
def O18_0 (a : (List Timpl_TNode.V)) : (List Timpl_TNode.V) → Ex × St := fun b => ((.exit 0), sT 23 [(3, .ref 0)] [.row 141 .deep Timpl_TNode b])
def laws_toTNodeS_l0_g (a : (List Timpl_TNode.V)) (c : Int) (d : (List Timpl_TNode.V)) : Option ((Int × (List Timpl_TNode.V)) ⊕ (List Timpl_TNode.V)) :=
 bif (decide (c < (a.length : Int))) then
 if (0 : Int) ≤ c ∧ c < (a.length : Int) then
 (laws_toTNode (a.getD c.toNat (Ty.zero Timpl_TNode))).bind fun e =>
 if (0 : Int) ≤ c ∧ c < (d.length : Int) then
 some (.inl ((IntKind.i64.wrap (c + 1)), (d.set c.toNat (e.1, e.2.1, e.2.2.1, e.2.2.2.1, (e.2.2.2.2.1, e.2.2.2.2.2.1, ()), e.2.2.2.2.2.2, ()))))
 else none
 else none
 else
 some (.inr d)
def laws_toTNodeS_l0_r (a : (List Timpl_TNode.V)) (z_ : (Int × (List Timpl_TNode.V))) := laws_toTNodeS_l0_g a z_.1 z_.2
def laws_toTNodeS_l0 (a : (List Timpl_TNode.V)) (c : Int) (d : (List Timpl_TNode.V)) := fix (laws_toTNodeS_l0_r a) (c, d)
theorem T18_0 (a : (List Timpl_TNode.V)) : LpOk E18 0 3 (code Tryz.f116) [1, 1, 0, 1, 0] (S18_0 a) (laws_toTNodeS_l0_r a) (O18_0 a) := by
  intro _
  simp only [laws_toTNodeS_l0_r, laws_toTNodeS_l0_g, mC, mI, mN, mB, mE, mM]
  kernel_rfl
def laws_toTNodeS (a : (List Timpl_TNode.V)) : Option (List Timpl_TNode.V) :=
 if Ty.row Timpl_TNode = true ∧ (0 : Int) ≤ (a.length : Int) ∧ (a.length : Int) ≤ (a.length : Int) ∧ ((88 : Nat) : Int) * (a.length : Int) ≤ (281474976710656 : Int) ∧ (a.length : Int) ≤ (9223372036854775807 : Int) then
 (laws_toTNodeS_l0 a 0 (List.replicate (a.length : Int).toNat (0, 0, 0, 0, (0, ([] : List Int), ()), ([] : List Int), ()))).bind fun b =>
 some b
 else none
theorem U18 (R : Type) (a : (List Timpl_TNode.V)) (K : AV → List Blk → Option R) : runF E18 Tryz.f116 R [dD (.sl Timpl_TNode) a] [] K = (laws_toTNodeS a).bind fun r => K (.ref 0) [.row 141 .deep Timpl_TNode r] := by
  simp only [laws_toTNodeS, bC, bI, bN, bE, bA, bS, bO, bM]
  simp (disch := refine sI ?_ <;> (repeat' refine sA ?_ ?_) <;> intro _ <;> kernel_rfl) only [laws_toTNodeS_l0, lp_ok (T18_0 _) (K := finK E18 Tryz.f116 0 R K)]
  kernel_rfl
def c116 : Va.Callee := brC [.d (.sl Timpl_TNode)] [⟨[.dat [] (.sl Timpl_TNode)], [], (List Timpl_TNode.V), fun p => laws_toTNodeS p.1.1, fun r => (.ref 0, [.row 141 .deep Timpl_TNode r])⟩]
theorem c116_snd : SoundC Tryz.prog 116 c116 := br_snd (fn := Tryz.f116) (by kernel_rfl) (by kernel_rfl) (by kernel_rfl) ⟨⟨E18, ⟨⟨tabok, fns_ok ⟨c155_snd, trivial⟩⟩, mixed⟩, fun p R K => U18 R p.1.1 K⟩, trivial⟩
abbrev E19 : Env := ⟨tab, lookH [(116, c116)], { deep := true }⟩
def laws_toTerm (a : Timpl_Term.V) : Option (List Timpl_TNode.V) :=
 (laws_toTNodeS a.1).bind fun b =>
 some b
theorem U19 (R : Type) (a : Timpl_Term.V) (K : AV → List Blk → Option R) : runF E19 Tryz.f71 R [dD Timpl_Term a] [] K = (laws_toTerm a).bind fun r => K (.pr (.ref 0) .u) [.row 141 .deep Timpl_TNode r] := by
  simp only [laws_toTerm, bC, bI, bN, bE, bA, bS, bO, bM]
  kernel_rfl
def c71 : Va.Callee := brC [.d Timpl_Term] [⟨[.dat [] Timpl_Term], [], (List Timpl_TNode.V), fun p => laws_toTerm p.1.1, fun r => (.pr (.ref 0) .u, [.row 141 .deep Timpl_TNode r])⟩]
theorem c71_snd : SoundC Tryz.prog 71 c71 := br_snd (fn := Tryz.f71) (by kernel_rfl) (by kernel_rfl) (by kernel_rfl) ⟨⟨E19, ⟨⟨tabok, fns_ok ⟨c116_snd, trivial⟩⟩, mixed⟩, fun p R K => U19 R p.1.1 K⟩, trivial⟩
abbrev E20 : Env := ⟨tab, lookH [(71, c71)], { deep := true }⟩
def laws_toLiteral (a : Timpl_Literal.V) : Option (Int × Bool × (List Timpl_TNode.V) × (List Timpl_TNode.V)) :=
 (laws_toTerm a.2.2.1).bind fun b =>
 (laws_toTerm a.2.2.2.1).bind fun c =>
 some (a.1, a.2.1, b, c)
theorem U20 (R : Type) (a : Timpl_Literal.V) (K : AV → List Blk → Option R) : runF E20 Tryz.f34 R [dD Timpl_Literal a] [] K = (laws_toLiteral a).bind fun r => K (.pr (dI r.1) (.pr (dB r.2.1) (.pr (.pr (.ref 0) .u) (.pr (.pr (.ref 1) .u) .u)))) [.row 141 .deep Timpl_TNode r.2.2.1, .row 141 .deep Timpl_TNode r.2.2.2] := by
  simp only [laws_toLiteral, bC, bI, bN, bE, bA, bS, bO, bM]
  kernel_rfl
def c34 : Va.Callee := brC [.d Timpl_Literal] [⟨[.dat [] Timpl_Literal], [], (Int × Bool × (List Timpl_TNode.V) × (List Timpl_TNode.V)), fun p => laws_toLiteral p.1.1, fun r => (.pr (dI r.1) (.pr (dB r.2.1) (.pr (.pr (.ref 0) .u) (.pr (.pr (.ref 1) .u) .u))), [.row 141 .deep Timpl_TNode r.2.2.1, .row 141 .deep Timpl_TNode r.2.2.2])⟩]
theorem c34_snd : SoundC Tryz.prog 34 c34 := br_snd (fn := Tryz.f34) (by kernel_rfl) (by kernel_rfl) (by kernel_rfl) ⟨⟨E20, ⟨⟨tabok, fns_ok ⟨c71_snd, trivial⟩⟩, mixed⟩, fun p R K => U20 R p.1.1 K⟩, trivial⟩
abbrev E21 : Env := ⟨tab, lookH [(34, c34)], { deep := true, heads := [(3, { live := [0, 3, 4] })], outs := [(3, { live := [3] })] }⟩
def S21_0 (a : (List Timpl_Literal.V)) (z_ : (Int × (List Timpl_Literal.V))) : St := sT 23 [(0, dD (.sl Timpl_Literal) a), (3, .ref 0), (4, dI z_.1)] [.row 82 .deep Timpl_Literal z_.2]
def O21_0 (a : (List Timpl_Literal.V)) : (List Timpl_Literal.V) → Ex × St := fun b => ((.exit 0), sT 23 [(3, .ref 0)] [.row 82 .deep Timpl_Literal b])
def laws_toLiteralS_l0_g (a : (List Timpl_Literal.V)) (c : Int) (d : (List Timpl_Literal.V)) : Option ((Int × (List Timpl_Literal.V)) ⊕ (List Timpl_Literal.V)) :=
 bif (decide (c < (a.length : Int))) then
 if (0 : Int) ≤ c ∧ c < (a.length : Int) then
 (laws_toLiteral (a.getD c.toNat (Ty.zero Timpl_Literal))).bind fun e =>
 if (0 : Int) ≤ c ∧ c < (d.length : Int) then
 some (.inl ((IntKind.i64.wrap (c + 1)), (d.set c.toNat (e.1, e.2.1, (e.2.2.1, ()), (e.2.2.2, ()), ()))))
 else none
 else none
 else
 some (.inr d)
def laws_toLiteralS_l0_r (a : (List Timpl_Literal.V)) (z_ : (Int × (List Timpl_Literal.V))) := laws_toLiteralS_l0_g a z_.1 z_.2
def laws_toLiteralS_l0 (a : (List Timpl_Literal.V)) (c : Int) (d : (List Timpl_Literal.V)) := fix (laws_toLiteralS_l0_r a) (c, d)
theorem T21_0 (a : (List Timpl_Literal.V)) : LpOk E21 0 3 (code Tryz.f10) [1, 1, 0, 1, 0] (S21_0 a) (laws_toLiteralS_l0_r a) (O21_0 a) := by
  intro _
  simp only [laws_toLiteralS_l0_r, laws_toLiteralS_l0_g, mC, mI, mN, mB, mE, mM]
  kernel_rfl
def laws_toLiteralS (a : (List Timpl_Literal.V)) : Option (List Timpl_Literal.V) :=
 if Ty.row Timpl_Literal = true ∧ (0 : Int) ≤ (a.length : Int) ∧ (a.length : Int) ≤ (a.length : Int) ∧ ((64 : Nat) : Int) * (a.length : Int) ≤ (281474976710656 : Int) ∧ (a.length : Int) ≤ (9223372036854775807 : Int) then
 (laws_toLiteralS_l0 a 0 (List.replicate (a.length : Int).toNat (0, false, (([] : List Timpl_TNode.V), ()), (([] : List Timpl_TNode.V), ()), ()))).bind fun b =>
 some b
 else none
theorem U21 (R : Type) (a : (List Timpl_Literal.V)) (K : AV → List Blk → Option R) : runF E21 Tryz.f10 R [dD (.sl Timpl_Literal) a] [] K = (laws_toLiteralS a).bind fun r => K (.ref 0) [.row 82 .deep Timpl_Literal r] := by
  simp only [laws_toLiteralS, bC, bI, bN, bE, bA, bS, bO, bM]
  simp (disch := refine sI ?_ <;> (repeat' refine sA ?_ ?_) <;> intro _ <;> kernel_rfl) only [laws_toLiteralS_l0, lp_ok (T21_0 _) (K := finK E21 Tryz.f10 0 R K)]
  kernel_rfl
def c10 : Va.Callee := brC [.d (.sl Timpl_Literal)] [⟨[.dat [] (.sl Timpl_Literal)], [], (List Timpl_Literal.V), fun p => laws_toLiteralS p.1.1, fun r => (.ref 0, [.row 82 .deep Timpl_Literal r])⟩]
theorem c10_snd : SoundC Tryz.prog 10 c10 := br_snd (fn := Tryz.f10) (by kernel_rfl) (by kernel_rfl) (by kernel_rfl) ⟨⟨E21, ⟨⟨tabok, fns_ok ⟨c34_snd, trivial⟩⟩, mixed⟩, fun p R K => U21 R p.1.1 K⟩, trivial⟩
abbrev E22 : Env := ⟨tab, lookH [(71, c71)], { deep := true }⟩
def laws_toPStep (a : Timpl_PStep.V) : Option (Int × Int × Int × Int × Int × (List Timpl_TNode.V)) :=
 (laws_toTerm a.2.2.2.2.2.1).bind fun b =>
 some (a.1, a.2.1, a.2.2.1, a.2.2.2.1, a.2.2.2.2.1, b)
theorem U22 (R : Type) (a : Timpl_PStep.V) (K : AV → List Blk → Option R) : runF E22 Tryz.f35 R [dD Timpl_PStep a] [] K = (laws_toPStep a).bind fun r => K (.pr (dI r.1) (.pr (dI r.2.1) (.pr (dI r.2.2.1) (.pr (dI r.2.2.2.1) (.pr (dI r.2.2.2.2.1) (.pr (.pr (.ref 0) .u) .u)))))) [.row 141 .deep Timpl_TNode r.2.2.2.2.2] := by
  simp only [laws_toPStep, bC, bI, bN, bE, bA, bS, bO, bM]
  kernel_rfl
def c35 : Va.Callee := brC [.d Timpl_PStep] [⟨[.dat [] Timpl_PStep], [], (Int × Int × Int × Int × Int × (List Timpl_TNode.V)), fun p => laws_toPStep p.1.1, fun r => (.pr (dI r.1) (.pr (dI r.2.1) (.pr (dI r.2.2.1) (.pr (dI r.2.2.2.1) (.pr (dI r.2.2.2.2.1) (.pr (.pr (.ref 0) .u) .u))))), [.row 141 .deep Timpl_TNode r.2.2.2.2.2])⟩]
theorem c35_snd : SoundC Tryz.prog 35 c35 := br_snd (fn := Tryz.f35) (by kernel_rfl) (by kernel_rfl) (by kernel_rfl) ⟨⟨E22, ⟨⟨tabok, fns_ok ⟨c71_snd, trivial⟩⟩, mixed⟩, fun p R K => U22 R p.1.1 K⟩, trivial⟩
abbrev E23 : Env := ⟨tab, lookH [(35, c35)], { deep := true, heads := [(3, { live := [0, 3, 4] })], outs := [(3, { live := [3] })] }⟩
def S23_0 (a : (List Timpl_PStep.V)) (z_ : (Int × (List Timpl_PStep.V))) : St := sT 23 [(0, dD (.sl Timpl_PStep) a), (3, .ref 0), (4, dI z_.1)] [.row 78 .deep Timpl_PStep z_.2]
def O23_0 (a : (List Timpl_PStep.V)) : (List Timpl_PStep.V) → Ex × St := fun b => ((.exit 0), sT 23 [(3, .ref 0)] [.row 78 .deep Timpl_PStep b])
def laws_toPStepS_l0_g (a : (List Timpl_PStep.V)) (c : Int) (d : (List Timpl_PStep.V)) : Option ((Int × (List Timpl_PStep.V)) ⊕ (List Timpl_PStep.V)) :=
 bif (decide (c < (a.length : Int))) then
 if (0 : Int) ≤ c ∧ c < (a.length : Int) then
 (laws_toPStep (a.getD c.toNat (Ty.zero Timpl_PStep))).bind fun e =>
 if (0 : Int) ≤ c ∧ c < (d.length : Int) then
 some (.inl ((IntKind.i64.wrap (c + 1)), (d.set c.toNat (e.1, e.2.1, e.2.2.1, e.2.2.2.1, e.2.2.2.2.1, (e.2.2.2.2.2, ()), ()))))
 else none
 else none
 else
 some (.inr d)
def laws_toPStepS_l0_r (a : (List Timpl_PStep.V)) (z_ : (Int × (List Timpl_PStep.V))) := laws_toPStepS_l0_g a z_.1 z_.2
def laws_toPStepS_l0 (a : (List Timpl_PStep.V)) (c : Int) (d : (List Timpl_PStep.V)) := fix (laws_toPStepS_l0_r a) (c, d)
theorem T23_0 (a : (List Timpl_PStep.V)) : LpOk E23 0 3 (code Tryz.f11) [1, 1, 0, 1, 0] (S23_0 a) (laws_toPStepS_l0_r a) (O23_0 a) := by
  intro _
  simp only [laws_toPStepS_l0_r, laws_toPStepS_l0_g, mC, mI, mN, mB, mE, mM]
  kernel_rfl
def laws_toPStepS (a : (List Timpl_PStep.V)) : Option (List Timpl_PStep.V) :=
 if Ty.row Timpl_PStep = true ∧ (0 : Int) ≤ (a.length : Int) ∧ (a.length : Int) ≤ (a.length : Int) ∧ ((64 : Nat) : Int) * (a.length : Int) ≤ (281474976710656 : Int) ∧ (a.length : Int) ≤ (9223372036854775807 : Int) then
 (laws_toPStepS_l0 a 0 (List.replicate (a.length : Int).toNat (0, 0, 0, 0, 0, (([] : List Timpl_TNode.V), ()), ()))).bind fun b =>
 some b
 else none
theorem U23 (R : Type) (a : (List Timpl_PStep.V)) (K : AV → List Blk → Option R) : runF E23 Tryz.f11 R [dD (.sl Timpl_PStep) a] [] K = (laws_toPStepS a).bind fun r => K (.ref 0) [.row 78 .deep Timpl_PStep r] := by
  simp only [laws_toPStepS, bC, bI, bN, bE, bA, bS, bO, bM]
  simp (disch := refine sI ?_ <;> (repeat' refine sA ?_ ?_) <;> intro _ <;> kernel_rfl) only [laws_toPStepS_l0, lp_ok (T23_0 _) (K := finK E23 Tryz.f11 0 R K)]
  kernel_rfl
def c11 : Va.Callee := brC [.d (.sl Timpl_PStep)] [⟨[.dat [] (.sl Timpl_PStep)], [], (List Timpl_PStep.V), fun p => laws_toPStepS p.1.1, fun r => (.ref 0, [.row 78 .deep Timpl_PStep r])⟩]
theorem c11_snd : SoundC Tryz.prog 11 c11 := br_snd (fn := Tryz.f11) (by kernel_rfl) (by kernel_rfl) (by kernel_rfl) ⟨⟨E23, ⟨⟨tabok, fns_ok ⟨c35_snd, trivial⟩⟩, mixed⟩, fun p R K => U23 R p.1.1 K⟩, trivial⟩
end
end Go.Proofs.X
namespace Go.Proofs.X
open Go Go.Va
set_option maxRecDepth 100000
noncomputable section
abbrev E24 : Env := ⟨tab, lookH [], { deep := true }⟩
def spec_l1Digit (a : Int) : Bool := ((decide (a ≥ 48)) && (decide (a ≤ 57)))
theorem U24 (R : Type) (a : Int) (K : AV → List Blk → Option R) : runF E24 Tryz.f151 R [dD (.int .u8) a] [] K = K (dB (spec_l1Digit a)) [] := by
  have h : runF E24 Tryz.f151 R [dD (.int .u8) a] [] K =
 bif (decide (a ≥ 48)) then
 K (dB (decide (a ≤ 57))) []
 else
 K (dB false) [] := by kernel_rfl
  rw [h]
  unfold spec_l1Digit
  cases h1 : (decide (a ≥ 48))
  · first | rfl | kernel_rfl
  · first | rfl | kernel_rfl
def c151 : Va.Callee := brC [.d (.int .u8)] [⟨[.dat [] (.int .u8)], [], Bool, fun p => some (spec_l1Digit p.1.1), fun r => (dB r, [])⟩]
theorem c151_snd : SoundC Tryz.prog 151 c151 := br_snd (fn := Tryz.f151) (by kernel_rfl) (by kernel_rfl) (by kernel_rfl) ⟨⟨E24, ⟨⟨tabok, fns_ok trivial⟩, mixed⟩, fun p R K => U24 R p.1.1 K⟩, trivial⟩
abbrev E25 : Env := ⟨tab, lookH [(151, c151)], { deep := true, heads := [(4, { live := [0, 3] })], outs := [(4, { live := [2] })], joins := [(2, { live := [0, 16] }), (7, { live := [0, 3, 39] })], ents := [(2, [0]), (7, [0, 3])] }⟩
def S25_2 (a : ByteArray) (z_ : Int) : St := sT 40 [(0, dD .str a), (3, dI z_)] []
def O25_2 (a : ByteArray) : (Unit ⊕ Unit) → Ex × St := Sum.elim (fun b => (.ret, sT 40 [(2, dB false)] [])) (fun c => ((.exit 0), sT 40 [] []))
def S25_1 (a : ByteArray) (d : Int) : St := sT 40 [(0, dD .str a), (3, dI d)] []
def O25_1 (a : ByteArray) (d : Int) : Bool → Ex × St := fun e => (.normal, sT 40 [(0, dD .str a), (3, dI d), (39, dB e)] [])
def spec_l1Name_l1 (a : ByteArray) (d : Int) : Option Bool :=
 if (0 : Int) ≤ d ∧ d < (a.size : Int) then
 bif (!(spec_l1Digit (bgetI a d))) then
 if (0 : Int) ≤ d ∧ d < (a.size : Int) then
 bif (decide ((bgetI a d) < 97)) then
 some true
 else
 if (0 : Int) ≤ d ∧ d < (a.size : Int) then
 some (decide ((bgetI a d) > 122))
 else none
 else none
 else
 some false
 else none
theorem T25_1 (a : ByteArray) (d : Int) : JnOk E25 0 7 (sub (code Tryz.f109) [1, 1, 0, 1, 0, 0]) [1, 0, 0, 0] (S25_1 a d) (spec_l1Name_l1 a d) (O25_1 a d) := by
  unfold JnOk
  simp only [spec_l1Name_l1, mC, mI, mN, mB, mE, mM]
  kernel_rfl
def spec_l1Name_l2_g (a : ByteArray) (d : Int) : Option (Int ⊕ (Unit ⊕ Unit)) :=
 bif (decide (d < (a.size : Int))) then
 (spec_l1Name_l1 a d).bind fun e =>
 bif e then
 some (.inr (.inl ()))
 else
 some (.inl (IntKind.i64.wrap (d + 1)))
 else
 some (.inr (.inr ()))
def spec_l1Name_l2_r (a : ByteArray) (z_ : Int) := spec_l1Name_l2_g a z_
def spec_l1Name_l2 (a : ByteArray) (d : Int) := fix (spec_l1Name_l2_r a) d
theorem T25_2 (a : ByteArray) : LpOk E25 0 4 (code Tryz.f109) [1, 1, 0, 1, 0] (S25_2 a) (spec_l1Name_l2_r a) (O25_2 a) := by
  intro _
  simp only [spec_l1Name_l2_r, spec_l1Name_l2_g, mC, mI, mN, mB, mE, mM]
  simp (disch := refine sI ?_ <;> (repeat' refine sA ?_ ?_) <;> intro _ <;> kernel_rfl) only [jn_ok (T25_1 _ _) (K := stepK 0 (E25.hd 4) (E25.ot 4))]
  kernel_rfl
def S25_0 (a : ByteArray) : St := sT 40 [(0, dD .str a)] []
def O25_0 (a : ByteArray) : Bool → Ex × St := fun g => (.normal, sT 40 [(0, dD .str a), (16, dB g)] [])
def spec_l1Name_l0 (a : ByteArray) : Option Bool :=
 bif (decide ((a.size : Int) < 1)) then
 some true
 else
 bif (decide ((a.size : Int) > 12)) then
 some true
 else
 if (0 : Int) ≤ (0 : Int) ∧ (0 : Int) < (a.size : Int) then
 some (spec_l1Digit (bgetI a 0))
 else none
theorem T25_0 (a : ByteArray) : JnOk E25 0 2 (code Tryz.f109) [1, 0, 0] (S25_0 a) (spec_l1Name_l0 a) (O25_0 a) := by
  unfold JnOk
  simp only [spec_l1Name_l0, mC, mI, mN, mB, mE, mM]
  kernel_rfl
def spec_l1Name (a : ByteArray) : Option Bool :=
 (spec_l1Name_l0 a).bind fun g =>
 bif g then
 some false
 else
 (spec_l1Name_l2 a 0).bind (Sum.elim (fun b =>
 some false) (fun c =>
 some true))
theorem U25 (R : Type) (a : ByteArray) (K : AV → List Blk → Option R) : runF E25 Tryz.f109 R [dD .str a] [] K = (spec_l1Name a).bind fun r => K (dB r) [] := by
  simp only [spec_l1Name, bC, bI, bN, bE, bA, bS, bO, bM]
  simp (disch := refine sI ?_ <;> (repeat' refine sA ?_ ?_) <;> intro _ <;> kernel_rfl) only [jn_ok (T25_0 _) (K := finK E25 Tryz.f109 0 R K), spec_l1Name_l2, lp_ok (T25_2 _) (K := finK E25 Tryz.f109 0 R K)]
  kernel_rfl
def c109 : Va.Callee := brC [.d .str] [⟨[.dat [] .str], [], Bool, fun p => spec_l1Name p.1.1, fun r => (dB r, [])⟩]
theorem c109_snd : SoundC Tryz.prog 109 c109 := br_snd (fn := Tryz.f109) (by kernel_rfl) (by kernel_rfl) (by kernel_rfl) ⟨⟨E25, ⟨⟨tabok, fns_ok ⟨c151_snd, trivial⟩⟩, mixed⟩, fun p R K => U25 R p.1.1 K⟩, trivial⟩
abbrev E26 : Env := ⟨tab, lookH [], { deep := true }⟩
def spec_l1In (a : Int) (b : Int) (c : Int) : Bool := ((decide (a ≥ b)) && (decide (a ≤ c)))
theorem U26 (R : Type) (a : Int) (b : Int) (c : Int) (K : AV → List Blk → Option R) : runF E26 Tryz.f48 R [dI a, dI b, dI c] [] K = K (dB (spec_l1In a b c)) [] := by
  have h : runF E26 Tryz.f48 R [dI a, dI b, dI c] [] K =
 bif (decide (a ≥ b)) then
 K (dB (decide (a ≤ c))) []
 else
 K (dB false) [] := by kernel_rfl
  rw [h]
  unfold spec_l1In
  cases h1 : (decide (a ≥ b))
  · first | rfl | kernel_rfl
  · first | rfl | kernel_rfl
def c48 : Va.Callee := brC [.d (.int .i64), .d (.int .i64), .d (.int .i64)] [⟨[.dat [] (.int .i64), .dat [] (.int .i64), .dat [] (.int .i64)], [], Bool, fun p => some (spec_l1In p.1.1 p.1.2.1 p.1.2.2.1), fun r => (dB r, [])⟩]
theorem c48_snd : SoundC Tryz.prog 48 c48 := br_snd (fn := Tryz.f48) (by kernel_rfl) (by kernel_rfl) (by kernel_rfl) ⟨⟨E26, ⟨⟨tabok, fns_ok trivial⟩, mixed⟩, fun p R K => U26 R p.1.1 p.1.2.1 p.1.2.2.1 K⟩, trivial⟩
abbrev E27 : Env := ⟨tab, lookH [(48, c48), (109, c109)], { deep := true, heads := [(5, { live := [0, 3, 4] }), (10, { live := [0, 3, 4, 5] })], outs := [(5, { live := [2, 3] }), (10, { live := [0, 2, 3, 4] })], joins := [(8, { live := [0, 3, 4, 30] })], ents := [(8, [0, 3, 4])] }⟩
def S27_2 (a : (List Timpl_Decl.V)) (z_ : (Int × Int)) : St := sT 56 [(0, dD (.sl Timpl_Decl) a), (3, dI z_.1), (4, dI z_.2)] []
def O27_2 (a : (List Timpl_Decl.V)) : (Int ⊕ Int) → Ex × St := Sum.elim (fun b => (.ret, sT 56 [(2, dB false), (3, dI b)] [])) (fun c => ((.exit 0), sT 56 [(3, dI c)] []))
def S27_1 (a : (List Timpl_Decl.V)) (d : Int) (e : Int) (z_ : Int) : St := sT 56 [(0, dD (.sl Timpl_Decl) a), (3, dI d), (4, dI e), (5, dI z_)] []
def O27_1 (a : (List Timpl_Decl.V)) (d : Int) (e : Int) : (Unit ⊕ Unit) → Ex × St := Sum.elim (fun g => (.ret, sT 56 [(0, dD (.sl Timpl_Decl) a), (2, dB false), (3, dI d), (4, dI e)] [])) (fun i => ((.exit 2), sT 56 [(0, dD (.sl Timpl_Decl) a), (3, dI d), (4, dI e)] []))
def spec_DeclsOk_l1_g (a : (List Timpl_Decl.V)) (d : Int) (e : Int) (j : Int) : Option (Int ⊕ (Unit ⊕ Unit)) :=
 bif (decide (j < e)) then
 if (0 : Int) ≤ j ∧ j < (a.length : Int) then
 if (0 : Int) ≤ e ∧ e < (a.length : Int) then
 bif (strEq (a.getD j.toNat (Ty.zero Timpl_Decl)).1 (a.getD e.toNat (Ty.zero Timpl_Decl)).1) then
 some (.inr (.inl ()))
 else
 some (.inl (IntKind.i64.wrap (j + 1)))
 else none
 else none
 else
 some (.inr (.inr ()))
def spec_DeclsOk_l1_r (a : (List Timpl_Decl.V)) (d : Int) (e : Int) (z_ : Int) := spec_DeclsOk_l1_g a d e z_
def spec_DeclsOk_l1 (a : (List Timpl_Decl.V)) (d : Int) (e : Int) (j : Int) := fix (spec_DeclsOk_l1_r a d e) j
theorem T27_1 (a : (List Timpl_Decl.V)) (d : Int) (e : Int) : LpOk E27 0 10 (sub (code Tryz.f60) [1, 1, 1, 0, 1, 0, 0]) [1, 0, 0, 1, 0, 1, 0] (S27_1 a d e) (spec_DeclsOk_l1_r a d e) (O27_1 a d e) := by
  intro _
  simp only [spec_DeclsOk_l1_r, spec_DeclsOk_l1_g, mC, mI, mN, mB, mE, mM]
  kernel_rfl
def S27_0 (a : (List Timpl_Decl.V)) (d : Int) (e : Int) : St := sT 56 [(0, dD (.sl Timpl_Decl) a), (3, dI d), (4, dI e)] []
def O27_0 (a : (List Timpl_Decl.V)) (d : Int) (e : Int) : Bool → Ex × St := fun k => (.normal, sT 56 [(0, dD (.sl Timpl_Decl) a), (3, dI d), (4, dI e), (30, dB k)] [])
def spec_DeclsOk_l0 (a : (List Timpl_Decl.V)) (d : Int) (e : Int) : Option Bool :=
 if (0 : Int) ≤ e ∧ e < (a.length : Int) then
 (spec_l1Name (a.getD e.toNat (Ty.zero Timpl_Decl)).1).bind fun l =>
 bif (!l) then
 some true
 else
 if (0 : Int) ≤ e ∧ e < (a.length : Int) then
 some (!(spec_l1In (a.getD e.toNat (Ty.zero Timpl_Decl)).2.1 1 4096))
 else none
 else none
theorem T27_0 (a : (List Timpl_Decl.V)) (d : Int) (e : Int) : JnOk E27 0 8 (sub (code Tryz.f60) [1, 1, 1, 0, 1, 0, 0]) [1, 0, 0, 0, 0] (S27_0 a d e) (spec_DeclsOk_l0 a d e) (O27_0 a d e) := by
  unfold JnOk
  simp only [spec_DeclsOk_l0, mC, mI, mN, mB, mE, mM]
  kernel_rfl
def spec_DeclsOk_l2_g (a : (List Timpl_Decl.V)) (d : Int) (e : Int) : Option ((Int × Int) ⊕ (Int ⊕ Int)) :=
 bif (decide (e < (a.length : Int))) then
 (spec_DeclsOk_l0 a d e).bind fun k =>
 bif k then
 some (.inr (.inl d))
 else
 (spec_DeclsOk_l1 a d e 0).bind (Sum.elim (fun g =>
 some (.inr (.inl d))) (fun i =>
 if (0 : Int) ≤ e ∧ e < (a.length : Int) then
 some (.inl ((IntKind.i64.wrap (d + (a.getD e.toNat (Ty.zero Timpl_Decl)).2.1)), (IntKind.i64.wrap (e + 1))))
 else none))
 else
 some (.inr (.inr d))
def spec_DeclsOk_l2_r (a : (List Timpl_Decl.V)) (z_ : (Int × Int)) := spec_DeclsOk_l2_g a z_.1 z_.2
def spec_DeclsOk_l2 (a : (List Timpl_Decl.V)) (d : Int) (e : Int) := fix (spec_DeclsOk_l2_r a) (d, e)
theorem T27_2 (a : (List Timpl_Decl.V)) : LpOk E27 0 5 (code Tryz.f60) [1, 1, 1, 0, 1, 0] (S27_2 a) (spec_DeclsOk_l2_r a) (O27_2 a) := by
  intro _
  simp only [spec_DeclsOk_l2_r, spec_DeclsOk_l2_g, mC, mI, mN, mB, mE, mM]
  simp (disch := refine sI ?_ <;> (repeat' refine sA ?_ ?_) <;> intro _ <;> kernel_rfl) only [jn_ok (T27_0 _ _ _) (K := stepK 0 (E27.hd 5) (E27.ot 5)), spec_DeclsOk_l1, lp_ok (T27_1 _ _ _) (K := stepK 0 (E27.hd 5) (E27.ot 5))]
  kernel_rfl
def spec_DeclsOk (a : (List Timpl_Decl.V)) : Option Bool :=
 bif (decide ((a.length : Int) > 60)) then
 some false
 else
 (spec_DeclsOk_l2 a 0 0).bind (Sum.elim (fun b =>
 some false) (fun c =>
 some (decide (c ≤ 20000))))
theorem U27 (R : Type) (a : (List Timpl_Decl.V)) (K : AV → List Blk → Option R) : runF E27 Tryz.f60 R [dD (.sl Timpl_Decl) a] [] K = (spec_DeclsOk a).bind fun r => K (dB r) [] := by
  simp only [spec_DeclsOk, bC, bI, bN, bE, bA, bS, bO, bM]
  simp (disch := refine sI ?_ <;> (repeat' refine sA ?_ ?_) <;> intro _ <;> kernel_rfl) only [spec_DeclsOk_l2, lp_ok (T27_2 _) (K := finK E27 Tryz.f60 0 R K)]
  kernel_rfl
def c60 : Va.Callee := brC [.d (.sl Timpl_Decl)] [⟨[.dat [] (.sl Timpl_Decl)], [], Bool, fun p => spec_DeclsOk p.1.1, fun r => (dB r, [])⟩]
theorem c60_snd : SoundC Tryz.prog 60 c60 := br_snd (fn := Tryz.f60) (by kernel_rfl) (by kernel_rfl) (by kernel_rfl) ⟨⟨E27, ⟨⟨tabok, fns_ok ⟨c48_snd, c109_snd, trivial⟩⟩, mixed⟩, fun p R K => U27 R p.1.1 K⟩, trivial⟩
abbrev E28 : Env := ⟨tab, lookH [], { deep := true }⟩
def spec_l3NoBits (a : Timpl_Bits.V) : Bool := ((a.1 == 0) && ((a.2.1.length : Int) == 0))
theorem U28 (R : Type) (a : Timpl_Bits.V) (K : AV → List Blk → Option R) : runF E28 Tryz.f172 R [dD Timpl_Bits a] [] K = K (dB (spec_l3NoBits a)) [] := by
  have h : runF E28 Tryz.f172 R [dD Timpl_Bits a] [] K =
 bif (a.1 == 0) then
 K (dB ((a.2.1.length : Int) == 0)) []
 else
 K (dB false) [] := by kernel_rfl
  rw [h]
  unfold spec_l3NoBits
  cases h1 : (a.1 == 0)
  · first | rfl | kernel_rfl
  · first | rfl | kernel_rfl
def c172 : Va.Callee := brC [.d Timpl_Bits] [⟨[.dat [] Timpl_Bits], [], Bool, fun p => some (spec_l3NoBits p.1.1), fun r => (dB r, [])⟩]
theorem c172_snd : SoundC Tryz.prog 172 c172 := br_snd (fn := Tryz.f172) (by kernel_rfl) (by kernel_rfl) (by kernel_rfl) ⟨⟨E28, ⟨⟨tabok, fns_ok trivial⟩, mixed⟩, fun p R K => U28 R p.1.1 K⟩, trivial⟩
abbrev E29 : Env := ⟨tab, lookH [(48, c48)], { deep := true }⟩
def spec_l3One (a : Int) : Bool := (spec_l1In a 4 9)
theorem U29 (R : Type) (a : Int) (K : AV → List Blk → Option R) : runF E29 Tryz.f173 R [dI a] [] K = K (dB (spec_l3One a)) [] := by
  kernel_rfl
def c173 : Va.Callee := brC [.d (.int .i64)] [⟨[.dat [] (.int .i64)], [], Bool, fun p => some (spec_l3One p.1.1), fun r => (dB r, [])⟩]
theorem c173_snd : SoundC Tryz.prog 173 c173 := br_snd (fn := Tryz.f173) (by kernel_rfl) (by kernel_rfl) (by kernel_rfl) ⟨⟨E29, ⟨⟨tabok, fns_ok ⟨c48_snd, trivial⟩⟩, mixed⟩, fun p R K => U29 R p.1.1 K⟩, trivial⟩
abbrev E30 : Env := ⟨tab, lookH [], { deep := true }⟩
def spec_l1Bit (a : Timpl_Bits.V) (b : Int) : Option Int :=
 if (0 : Int) ≤ (IntKind.i64.wrap (Int.tdiv b 64)) ∧ (IntKind.i64.wrap (Int.tdiv b 64)) < (a.2.1.length : Int) then
 if (IntKind.u64.wrap (Int.tmod b 64)) < (0 : Int) then none else
 some (IntKind.u8.wrap (andI .u64 (shrI .u64 (a.2.1.getD (IntKind.i64.wrap (Int.tdiv b 64)).toNat (Ty.zero (.int .u64))) (IntKind.u64.wrap (Int.tmod b 64))) 1))
 else none
theorem U30 (R : Type) (a : Timpl_Bits.V) (b : Int) (K : AV → List Blk → Option R) : runF E30 Tryz.f133 R [dD Timpl_Bits a, dI b] [] K = (spec_l1Bit a b).bind fun r => K (dD (.int .u8) r) [] := by
  simp only [spec_l1Bit, bC, bI, bN, bE, bA, bS, bO, bM]
  kernel_rfl
def c133 : Va.Callee := brC [.d Timpl_Bits, .d (.int .i64)] [⟨[.dat [] Timpl_Bits, .dat [] (.int .i64)], [], Int, fun p => spec_l1Bit p.1.1 p.1.2.1, fun r => (dD (.int .u8) r, [])⟩]
theorem c133_snd : SoundC Tryz.prog 133 c133 := br_snd (fn := Tryz.f133) (by kernel_rfl) (by kernel_rfl) (by kernel_rfl) ⟨⟨E30, ⟨⟨tabok, fns_ok trivial⟩, mixed⟩, fun p R K => U30 R p.1.1 p.1.2.1 K⟩, trivial⟩
abbrev E31 : Env := ⟨tab, lookH [(48, c48), (133, c133)], { deep := true, heads := [(4, { live := [1, 3] })], outs := [(4, { live := [2] })], joins := [(2, { live := [1, 17] })], ents := [(2, [1])] }⟩
def S31_1 (a : Timpl_Bits.V) (z_ : Int) : St := sT 32 [(1, .ptr 0 0 [] 0), (3, dI z_)] [.box (dD Timpl_Bits a)]
def O31_1 (a : Timpl_Bits.V) : (Unit ⊕ Unit) → Ex × St := Sum.elim (fun b => (.ret, sT 32 [(2, dB false)] [])) (fun c => ((.exit 0), sT 32 [] []))
def spec_BitsOk_l1_g (a : Timpl_Bits.V) (d : Int) : Option (Int ⊕ (Unit ⊕ Unit)) :=
 bif (decide (d < (IntKind.i64.wrap (64 * (a.2.1.length : Int))))) then
 (spec_l1Bit a d).bind fun e =>
 bif (e != 0) then
 some (.inr (.inl ()))
 else
 some (.inl (IntKind.i64.wrap (d + 1)))
 else
 some (.inr (.inr ()))
def spec_BitsOk_l1_r (a : Timpl_Bits.V) (z_ : Int) := spec_BitsOk_l1_g a z_
def spec_BitsOk_l1 (a : Timpl_Bits.V) (d : Int) := fix (spec_BitsOk_l1_r a) d
theorem T31_1 (a : Timpl_Bits.V) : LpOk E31 0 4 (code Tryz.f174) [1, 1, 0, 1, 0] (S31_1 a) (spec_BitsOk_l1_r a) (O31_1 a) := by
  intro _
  simp only [spec_BitsOk_l1_r, spec_BitsOk_l1_g, mC, mI, mN, mB, mE, mM]
  kernel_rfl
def S31_0 (a : Timpl_Bits.V) : St := sT 32 [(1, .ptr 0 0 [] 0)] [.box (dD Timpl_Bits a)]
def O31_0 (a : Timpl_Bits.V) (m0 : Bool) : Ex × St := (.normal, sT 32 [(1, .ptr 0 0 [] 0), (17, dB m0)] [.box (dD Timpl_Bits a)])
theorem T31_0 (a : Timpl_Bits.V) : jnS E31 0 2 (code Tryz.f174) [1, 0, 0] (S31_0 a) = some (O31_0 a ((!(spec_l1In a.1 1 4096)) || ((a.2.1.length : Int) != (IntKind.i64.wrap (Int.tdiv (IntKind.i64.wrap (a.1 + 63)) 64))))) := by
  have h0 : jnS E31 0 2 (code Tryz.f174) [1, 0, 0] (S31_0 a) =
 bif (!(spec_l1In a.1 1 4096)) then
 some (O31_0 a true)
 else
 some (O31_0 a ((a.2.1.length : Int) != (IntKind.i64.wrap (Int.tdiv (IntKind.i64.wrap (a.1 + 63)) 64)))) := by kernel_rfl
  rw [h0]
  cases h1 : (!(spec_l1In a.1 1 4096))
  · first | rfl | kernel_rfl
  · first | rfl | kernel_rfl
def spec_BitsOk (a : Timpl_Bits.V) : Option Bool :=
 mkr (S31_0 a) (
 bif ((!(spec_l1In a.1 1 4096)) || ((a.2.1.length : Int) != (IntKind.i64.wrap (Int.tdiv (IntKind.i64.wrap (a.1 + 63)) 64)))) then
 some false
 else
 (spec_BitsOk_l1 a a.1).bind (Sum.elim (fun b =>
 some false) (fun c =>
 some true)))
theorem U31 (R : Type) (a : Timpl_Bits.V) (K : AV → List Blk → Option R) : runF E31 Tryz.f174 R [dD Timpl_Bits a] [] K = (spec_BitsOk a).bind fun r => K (dB r) [] := by
  simp only [spec_BitsOk, bC, bI, bN, bE, bA, bS, bO, bM]
  simp (disch := refine sI ?_ <;> (repeat' refine sA ?_ ?_) <;> intro _ <;> kernel_rfl) only [in_ok (T31_0 _) (K := finK E31 Tryz.f174 0 R K), spec_BitsOk_l1, lp_ok (T31_1 _) (K := finK E31 Tryz.f174 0 R K)]
  kernel_rfl
def c174 : Va.Callee := brC [.d Timpl_Bits] [⟨[.dat [] Timpl_Bits], [], Bool, fun p => spec_BitsOk p.1.1, fun r => (dB r, [])⟩]
theorem c174_snd : SoundC Tryz.prog 174 c174 := br_snd (fn := Tryz.f174) (by kernel_rfl) (by kernel_rfl) (by kernel_rfl) ⟨⟨E31, ⟨⟨tabok, fns_ok ⟨c48_snd, c133_snd, trivial⟩⟩, mixed⟩, fun p R K => U31 R p.1.1 K⟩, trivial⟩
end
end Go.Proofs.X
