import Derived.Test.YtgdiapoacpahdaaGreatProg
import Derived.KernelRfl
import Derived.Test.YtgdiapoacpahdaaGreatK6
set_option linter.unusedVariables false
set_option linter.unusedSimpArgs false
namespace Go.Va
theorem SoundC.ofCalls {P : Program} {f : FuncId} {fn : Func} (hf : P.funcs[f]? = some fn) (hn : (fn.name == "runtime.NumGoroutine") = false) (hb : fn.body.isNone = false) {c : Callee} (hc : CNat c)
    (h : ∀ args E av E', c.run (AV × List Blk) args E (fun v b => some (v, b)) = some (av, E') → E.length ≤ E'.length ∧ ∀ (w : World) (g : G) (vs : List Value), Heap w g E → ArgsR w g E.length args vs →
      Calls P f vs.toArray w fun e w' => ∃ v g', e = .returned v ∧ Heap w' g' E' ∧ AVR w' g' E'.length av v ∧ StepC E.length w g w' g') : SoundC P f c where
  nat := hc
  snd args E av E' hr := by
    obtain ⟨h1, h2⟩ := h args E av E' hr
    refine ⟨h1, fun w g vs H hx o a next Q hn' => ?_⟩
    have : (callFunc f vs.toArray).run P w = .ok (.enter f vs.toArray) w := by
      have hn1 : ¬ fn.name = "runtime.NumGoroutine" := by simpa using hn
      have hb1 : ¬ fn.body = none := by
        intro e; rw [e] at hb; cases hb
      simp [callFunc, hf, hn1, hb1]
    rw [this, Oper.upon_enter]
    refine (h2 w g vs H hx).mono fun e w' ⟨v, g', e1, hH, hv, hst⟩ => ?_
    subst e1
    exact hn' v w' g' hH hv hst
theorem TZ {P : Program} {t : TypeId} {ti : TI} (ht : TOk P t ti) (hs : ti.isSl = true) {ad : Option Addr} {n c : Nat} {x y : Operand} (w : World) :
    (do eqGuard .eql t x y (.slice ad n c) (.slice none 0 0); binOp .eql t (.slice ad n c) (.slice none 0 0) : Sem Value).run P w = .ok (.bool ad.isNone) w := by
  have hu := AT ht hs
  have h1 : ∀ d, (Op.equalIn (d + 1) t (.slice ad n c) (.slice none 0 0)).run P w = .ok ad.isNone w := by
    intro d
    unfold Op.equalIn
    cases ad <;> simp [underlying, hu]
  have h2 : (Op.equal t (.slice ad n c) (.slice none 0 0)).run P w = .ok ad.isNone w := h1 (Op.maxDepth - 1)
  show (do pure (.bool (← Op.equal t (.slice ad n c) (.slice none 0 0))) : Sem Value).run P w = _
  rw [Sem.run_bind, h2]
  rfl
section
variable {P : Program} {en : Env}
theorem Qp (he : ProgOk P en) {f : FuncId} {fn : Func} (hf : P.funcs[f]? = some fn) {R0 R2 T : Code} {id : Nat} {o3 o4 : Oper} {t t2 e bytes : Nat} {u : Ty} {ti : TI}
    (hb : fn.body = some (R0.seq (((Code.region id #[o3, o4] false).seq (Code.cond (.tmp 4) (R2.seq .ret) .skip)).seq T))) (hnt : fn.ntmps = 8) (hres : fn.results = #[.tmp 2])
    (h3 : o3.op = .move (.tmp 0) ∧ o3.dst = some 3 ∧ o3.guard = none) (h4 : o4.op = .binOp .eql t (.tmp 3) (.const (.slice none 0 0)) t2 ∧ o4.dst = some 4 ∧ o4.guard = none)
    (ht : en.tab.get t = some ti) (hsl : ti.isSl = true) (hu : u.row = true)
    (hR0 : ∀ xs : (Ty.sl u).V, ev en 0 R0 (Ex × St) ⟨[.dat [] (.sl u) xs, .un 0, .un 0, .un 0, .un 0, .un 0, .un 0, .un 0], []⟩ pair2 = some (.normal, ⟨[.dat [] (.sl u) xs, .un 0, .zs, .un 0, .un 0, .un 0, .un 0, .un 0], []⟩))
    (hA : ∀ xs : (Ty.sl u).V, ev en 0 (R2.seq .ret) (Ex × St) ⟨[.dat [] (.sl u) xs, .un 0, .zs, .dat [] (.sl u) xs, .bool true, .un 0, .un 0, .un 0], []⟩ pair2 = some (.ret, ⟨[.dat [] (.sl u) xs, .un 0, .zs, .dat [] (.sl u) xs, .bool true, .un 0, .un 0, .un 0], []⟩))
    (hT : ∀ xs : (Ty.sl u).V, xs.length * bytes ≤ 140737488355328 → ev en 0 T (Ex × St) ⟨[.dat [] (.sl u) xs, .un 0, .zs, .dat [] (.sl u) xs, .bool false, .un 0, .un 0, .un 0], []⟩ pair2 = some (.ret, ⟨[.dat [] (.sl u) xs, .un 0, .ref 0, .dat [] (.sl u) xs, .bool false, .zs, .dat [] (.sl u) xs, .ref 0], [.row e (if u.flat then .deep else .sh []) u xs]⟩))
    {xs : (Ty.sl u).V} (hbig : xs.length * bytes ≤ 140737488355328) (w : World) (g : G) (vs : List Value) (H : Heap w g []) (hx : ArgsR w g 0 [.dat [] (.sl u) xs] vs) :
    Calls P f vs.toArray w fun ee w' => ∃ v g', ee = .returned v ∧ Heap w' g' [.row e (if u.flat then .deep else .sh []) u xs] ∧ AVR w' g' 1 (.ref 0) v ∧ StepC 0 w g w' g' := by
  refine calls_of_wp hf hb ?_
  have hs0 := RN H hx (n := fn.ntmps) (by rw [hnt]; simp)
  have hs0' : StR w g ⟨[.dat [] (.sl u) xs, .un 0, .un 0, .un 0, .un 0, .un 0, .un 0, .un 0], []⟩ { tmps := vs.toArray ++ Array.replicate (fn.ntmps - vs.toArray.size) undef, defers := [] } := by
    rw [hnt] at hs0; rw [hnt]; exact hs0
  have fin : ∀ (a' : Act) (w' : World) (g' : G), a'.defers = [] → StepC 0 w g w' g' → (∃ g'', Heap w' g'' [.row e (if u.flat then .deep else .sh []) u xs] ∧ AVR w' g'' 1 (.ref 0) (a'.tmps.getD 2 undef) ∧ StepC 0 w' g' w' g'') →
      a'.defers = [] ∧ ∃ v, (results fn a'.tmps).run P w' = .ok v w' ∧ ∃ v' g', Ending.returned v = .returned v' ∧ Heap w' g' [.row e (if u.flat then .deep else .sh []) u xs] ∧ AVR w' g' 1 (.ref 0) v' ∧ StepC 0 w g w' g' := by
    intro a' w' g' hd hst ⟨g'', H'', hav, hst2⟩
    refine ⟨hd, a'.tmps.getD 2 undef, ?_, _, g'', rfl, H'', hav, hst.trans hst2⟩
    rw [M8, hres, Array.mapM_eq_mapM_toList]
    simp [resS]
  refine wp_seq ((IS he R0 _ _ _ (hR0 xs) (Nat.le_refl _)).2 _ w g _ hs0' fun a1 w1 g1 hs1 st1 hd1 => ?_)
  simp only [exOf]
  refine wp_seq (wp_seq (wp_region ?_))
  have hx0 := hs1.slots 0 _ rfl
  obtain ⟨cs, hcs, hval⟩ := BG rfl rfl hx0
  obtain ⟨_, ad, cap, ds, hcs1, hlen, hlist, hmem⟩ := hcs
  subst hcs1
  have hv0 : a1.tmps.getD 0 undef = .slice ad xs.length cap := by
    have : [Value.slice ad xs.length cap] = [a1.tmps.getD 0 undef] := hval
    injection this with h _; exact h.symm
  have hnil : ad = none → xs = [] := fun h => by
    rcases hmem with h1 | ⟨b, off, h1, _⟩
    · exact h1
    · rw [h] at h1; cases h1
  let a2 := (a1.put (some 3) (.slice ad xs.length cap)).put (some 4) (.bool ad.isNone)
  have hsz : a1.tmps.size = 8 := hs1.len.symm
  have hs2 : StR w1 g1 ⟨[.dat [] (.sl u) xs, .un 0, .zs, .dat [] (.sl u) xs, .bool ad.isNone, .un 0, .un 0, .un 0], []⟩ a2 := by
    refine ⟨hs1.heap, by simp [a2, KX, hsz], fun i x hx => ?_⟩
    have h5 : ∀ i, i ≠ 3 → i ≠ 4 → a2.tmps.getD i undef = a1.tmps.getD i undef := fun i h3 h4 => by
      simp only [a2]
      rw [Kl (by simpa using fun h => h4 h.symm), Kl (by simpa using fun h => h3 h.symm)]
    match i, hx with
    | 0, hx => rw [h5 0 (by decide) (by decide)]; exact hs1.slots 0 x hx
    | 1, hx => rw [h5 1 (by decide) (by decide)]; exact hs1.slots 1 x hx
    | 2, hx => rw [h5 2 (by decide) (by decide)]; exact hs1.slots 2 x hx
    | 3, hx =>
      injection hx with hx; subst hx
      have : a2.tmps.getD 3 undef = .slice ad xs.length cap := by
        simp only [a2]
        rw [Kl (by decide), Jc (by omega)]
      rw [this, ← hv0]
      exact hx0
    | 4, hx =>
      injection hx with hx; subst hx
      have : a2.tmps.getD 4 undef = .bool ad.isNone := by
        simp only [a2]
        rw [Jc (by rw [KX]; omega)]
      rw [this]
      exact B7 (cs := [.bool ad.isNone]) rfl ⟨fun k hk => by (cases hk), rfl⟩ rfl
    | 5, hx => injection hx with hx; subst hx; exact K0
    | 6, hx => injection hx with hx; subst hx; exact K0
    | 7, hx => injection hx with hx; subst hx; exact K0
    | i + 8, hx => simp at hx
  have e3 : a1.eval (.tmp 0) = .slice ad xs.length cap := hv0
  have hev3 : (a1.put (some 3) (.slice ad xs.length cap)).eval (.tmp 3) = .slice ad xs.length cap := by
    show (a1.put (some 3) (.slice ad xs.length cap)).tmps.getD 3 undef = _
    rw [Jc (by omega)]
  simp only [List.range, wpOps]
  show wpOps P #[o3, o4] _ [0, 1] a1 w1
  simp only [wpOps]
  have g0 : (#[o3, o4] : Array Oper)[0]? = some o3 := rfl
  have g1' : (#[o3, o4] : Array Oper)[1]? = some o4 := rfl
  rw [g0, g1']
  simp only [Region.wanted, h3.2.2, h4.2.2, if_true]
  refine .inl ?_
  unfold Oper.wp
  rw [show (execOp a1.eval o3).run P w1 = .ok (.value (.slice ad xs.length cap)) w1 by simp [execOp, h3.1, e3], Oper.upon_value, h3.2.1]
  have hev3t : (a1.put (some 3) (.slice ad xs.length cap)).tmps.getD 3 undef = .slice ad xs.length cap := hev3
  have hrun4 : (execOp (a1.put (some 3) (.slice ad xs.length cap)).eval o4).run P w1 = .ok (.value (.bool ad.isNone)) w1 := by
    have := TZ (P := P) (t := t) (he.t ht) hsl (ad := ad) (n := xs.length) (c := cap) (x := .tmp 3) (y := .const (.slice none 0 0)) w1
    simp only [execOp, h4.1, Act.eval, hev3t]
    rw [Sem.run_bind, this]
    rfl
  refine .inl ?_
  rw [hrun4, Oper.upon_value, h4.2.1]
  show (Code.cond (.tmp 4) (R2.seq .ret) .skip).wp P _ a2 w1
  have hev4 : a2.eval (.tmp 4) = .bool ad.isNone := by
    show a2.tmps.getD 4 undef = _
    simp only [a2]
    rw [Jc (by rw [KX]; omega)]
  have hd2 : a2.defers = [] := by simp only [a2, Go.Va.put_defers]; exact hd1
  cases had : ad with
  | none =>
    have hxs := hnil had
    subst hxs
    rw [had] at hs2 hev4
    refine wp_cond_true hev4 ?_
    refine (IS he _ _ _ _ (hA []) (Nat.le_refl _)).2 a2 w1 g1 _ hs2 fun a3 w3 g3 hs3 st3 hd3 => ?_
    have hz := hs3.slots 2 _ rfl
    obtain ⟨g4, H4, hav4, st4⟩ := UB hs3.heap (c := .row [] e u false) (a := .zs) (a' := .ref 0) (nb := [.row e (if (u.flat || false) = true then .deep else .sh []) u []]) (by simp [coV, AV.getP, AV.setP, hu]) hz
    exact fin a3 w3 g3 (hd3.trans hd2) (st1.trans st3) ⟨g4, by simpa using H4, by simpa using hav4, st4.toC (Nat.zero_le _)⟩
  | some ad0 =>
    rw [had] at hs2 hev4
    refine wp_cond_false hev4 (wp_skip ?_)
    refine (IS he _ _ _ _ (hT xs hbig) (Nat.le_refl _)).2 a2 w1 g1 _ hs2 fun a3 w3 g3 hs3 st3 hd3 => ?_
    exact fin a3 w3 g3 (hd3.trans hd2) (st1.trans st3) ⟨g3, hs3.heap, hs3.slots 2 _ rfl, StepC.refl _ _ _⟩
theorem TN {e bytes : Nat} {u : Ty} : CNat (cloneC e u bytes) := by
  intro R args E K
  simp only [cloneC]
  split
  · split
    · split <;> rfl
    · rfl
  · rfl
theorem Mz (he : ProgOk P en) {f : FuncId} {fn : Func} (hf : P.funcs[f]? = some fn) (hn : (fn.name == "runtime.NumGoroutine") = false) {R0 R2 T : Code} {id : Nat} {o3 o4 : Oper} {t t2 e bytes : Nat} {u : Ty} {ti : TI}
    (hb : fn.body = some (R0.seq (((Code.region id #[o3, o4] false).seq (Code.cond (.tmp 4) (R2.seq .ret) .skip)).seq T))) (hnt : fn.ntmps = 8) (hres : fn.results = #[.tmp 2])
    (h3 : o3.op = .move (.tmp 0) ∧ o3.dst = some 3 ∧ o3.guard = none) (h4 : o4.op = .binOp .eql t (.tmp 3) (.const (.slice none 0 0)) t2 ∧ o4.dst = some 4 ∧ o4.guard = none)
    (ht : en.tab.get t = some ti) (hsl : ti.isSl = true) (hu : u.row = true)
    (hR0 : ∀ xs : (Ty.sl u).V, ev en 0 R0 (Ex × St) ⟨[.dat [] (.sl u) xs, .un 0, .un 0, .un 0, .un 0, .un 0, .un 0, .un 0], []⟩ pair2 = some (.normal, ⟨[.dat [] (.sl u) xs, .un 0, .zs, .un 0, .un 0, .un 0, .un 0, .un 0], []⟩))
    (hA : ∀ xs : (Ty.sl u).V, ev en 0 (R2.seq .ret) (Ex × St) ⟨[.dat [] (.sl u) xs, .un 0, .zs, .dat [] (.sl u) xs, .bool true, .un 0, .un 0, .un 0], []⟩ pair2 = some (.ret, ⟨[.dat [] (.sl u) xs, .un 0, .zs, .dat [] (.sl u) xs, .bool true, .un 0, .un 0, .un 0], []⟩))
    (hT : ∀ xs : (Ty.sl u).V, xs.length * bytes ≤ 140737488355328 → ev en 0 T (Ex × St) ⟨[.dat [] (.sl u) xs, .un 0, .zs, .dat [] (.sl u) xs, .bool false, .un 0, .un 0, .un 0], []⟩ pair2 = some (.ret, ⟨[.dat [] (.sl u) xs, .un 0, .ref 0, .dat [] (.sl u) xs, .bool false, .zs, .dat [] (.sl u) xs, .ref 0], [.row e (if u.flat then .deep else .sh []) u xs]⟩)) :
    SoundC P f (cloneC e u bytes) := by
  refine SoundC.ofCalls hf hn (by rw [hb]; rfl) TN fun args E av E' h => ?_
  simp only [cloneC] at h
  split at h
  · split at h
    · rename_i xs hc
      obtain ⟨e1, q⟩ := AW hc
      subst e1; subst q
      split at h
      · rename_i hbig
        simp only [Option.some.injEq, Prod.mk.injEq] at h
        obtain ⟨rfl, rfl⟩ := h
        exact ⟨Nat.zero_le _, fun w g vs H hx => Qp he hf hb hnt hres h3 h4 ht hsl hu hR0 hA hT hbig w g vs H hx⟩
      · cases h
    · cases h
  · cases h
end
end Go.Va
namespace Go.Va
section
variable {A B C D : Type}
theorem bC (k : A → Option B) (c : Bool) (x y : Option A) : (bif c then x else y).bind k = bif c then x.bind k else y.bind k := SY k c x y
theorem bI (k : A → Option B) (c : Prop) [Decidable c] (x y : Option A) : (if c then x else y).bind k = if c then x.bind k else y.bind k := WB k c x y
theorem bN (k : A → Option B) (c : Prop) [Decidable c] (x : Option A) : (if c then none else x).bind k = if c then none else x.bind k := Uo k c x
theorem bE (k : C → Option D) (g : A → Option C) (h : B → Option C) (y : A ⊕ B) : (Sum.elim g h y).bind k = Sum.elim (fun a => (g a).bind k) (fun b => (h b).bind k) y := Ua k g h y
theorem bA (x : Option A) (f : A → Option B) (g : B → Option C) : (x.bind f).bind g = x.bind fun y => (f y).bind g := Option.bind_assoc x f g
theorem bS (a : A) (f : A → Option B) : (some a).bind f = f a := rfl
theorem bO (f : A → Option B) : (none : Option A).bind f = none := rfl
theorem mC (f : A → B) (c : Bool) (x y : Option A) : (bif c then x else y).map f = bif c then x.map f else y.map f := WH f c x y
theorem mI (f : A → B) (c : Prop) [Decidable c] (x y : Option A) : (if c then x else y).map f = if c then x.map f else y.map f := X0 f c x y
theorem mN (f : A → B) (c : Prop) [Decidable c] (x : Option A) : (if c then none else x).map f = if c then none else x.map f := WD f c x
theorem mB (f : B → C) (x : Option A) (k : A → Option B) : (x.bind k).map f = x.bind fun y => (k y).map f := WQ f x k
theorem mE (f : C → D) (g : A → Option C) (h : B → Option C) (y : A ⊕ B) : (Sum.elim g h y).map f = Sum.elim (fun a => (g a).map f) (fun b => (h b).map f) y := VB f g h y
theorem mS (f : A → B) (a : A) : (some a).map f = some (f a) := rfl
theorem mO (f : A → B) : (none : Option A).map f = none := rfl
theorem sI {P : Prop} (h : P) : P := h
theorem sA {P : A ⊕ B → Prop} (h1 : ∀ a, P (.inl a)) (h2 : ∀ b, P (.inr b)) : ∀ y, P y
  | .inl a => h1 a
  | .inr b => h2 b
end
abbrev dI (x : Int) : AV := .dat [] (.int .i64) x
abbrev dB (b : Bool) : AV := .dat [] .bool b
abbrev dD (t : Ty) (x : t.V) : AV := .dat [] t x
def sT (n : Nat) (l : List (Nat × AV)) (bs : List Blk) : St := ⟨mkS n 0 l, bs⟩
def Env.hd (en : Env) (k : Nat) : SH := (lookH en.fi.heads k).getD { live := [] }
def Env.ot (en : Env) (k : Nat) : SH := (lookH en.fi.outs k).getD { live := [] }
def Env.jn (en : Env) (k : Nat) : SH := (lookH en.fi.joins k).getD { live := [] }
def Env.dr (en : Env) (k : Nat) : SH := (lookH en.fi.draws k).getD { live := [] }
section
variable {X Y R : Type}
noncomputable def lpS (en : Env) (m k : Nat) (fc : Code) (p : List Nat) : St → Option (St ⊕ (Ex × St)) := stepL en m (en.hd k) (en.ot k) (sub fc (p ++ [0]))
noncomputable def jnS (en : Env) (m k : Nat) (fc : Code) (p : List Nat) : St → Option (Ex × St) := joinL en m (en.jn k) (sub fc p)
noncomputable def drS (en : Env) (m k : Nat) (fc : Code) (p : List Nat) : St → Option St := regW en m (en.dr k) (regOps (sub fc p))
noncomputable def kQ (en : Env) (m : Nat) (R : Type) (fc : Code) (p : List Nat) (K : Ex → St → Option R) (q : Ex × St) : Option R := kont en m R fc p K q.1 q.2
noncomputable def lpC (en : Env) (m k : Nat) (fc : Code) (p : List Nat) (R : Type) (K : Ex → St → Option R) (s : St) : Option R := (fix (lpS en m k fc p) s).bind (kQ en m R fc p K)
noncomputable def jnC (en : Env) (m k : Nat) (fc : Code) (p : List Nat) (R : Type) (K : Ex → St → Option R) (s : St) : Option R := (jnS en m k fc p s).bind (kQ en m R fc p K)
noncomputable def drC (en : Env) (m k : Nat) (fc : Code) (p : List Nat) (R : Type) (K : Ex → St → Option R) (s : St) : Option R := (drS en m k fc p s).bind fun q => kQ en m R fc p K (.normal, q)
def LpOk (en : Env) (m k : Nat) (fc : Code) (p : List Nat) (s : X → St) (r : X → Option (X ⊕ Y)) (o : Y → Ex × St) : Prop := ∀ x, lpS en m k fc p (s x) = (r x).map (Sum.map s o)
def JnOk (en : Env) (m k : Nat) (fc : Code) (p : List Nat) (s : St) (x : Option Y) (o : Y → Ex × St) : Prop := jnS en m k fc p s = x.map o
def DrOk (en : Env) (m k : Nat) (fc : Code) (p : List Nat) (s : St) (x : Option Y) (o : Y → St) : Prop := drS en m k fc p s = x.map o
theorem AC {en : Env} {m k : Nat} {fc : Code} {p : List Nat} {s : X → St} {r : X → Option (X ⊕ Y)} {o : Y → Ex × St} (h : LpOk en m k fc p s r o) {K : Ex → St → Option R} {x : X} {F : Y → Option R} (hF : ∀ y, F y = kQ en m R fc p K (o y)) :
    (fix r x).bind F = lpC en m k fc p R K (s x) := by
  unfold lpC
  rw [Yn s o _ r h x, Or]
  exact congrArg _ (funext hF)
theorem AX {en : Env} {m k : Nat} {fc : Code} {p : List Nat} {s : St} {x : Option Y} {o : Y → Ex × St} (h : JnOk en m k fc p s x o) {K : Ex → St → Option R} {F : Y → Option R} (hF : ∀ y, F y = kQ en m R fc p K (o y)) :
    x.bind F = jnC en m k fc p R K s := by
  unfold jnC
  rw [h, Or]
  exact congrArg _ (funext hF)
theorem Qs {en : Env} {m k : Nat} {fc : Code} {p : List Nat} {s : St} {x : Option Y} {o : Y → St} (h : DrOk en m k fc p s x o) {K : Ex → St → Option R} {F : Y → Option R} (hF : ∀ y, F y = kQ en m R fc p K (.normal, o y)) :
    x.bind F = drC en m k fc p R K s := by
  unfold drC
  rw [h, Or]
  exact congrArg _ (funext hF)
def mkr (_ : St) (x : Option R) : Option R := x
theorem bM (s : St) (x : Option X) (k : X → Option Y) : (mkr s x).bind k = mkr s (x.bind k) := rfl
theorem mM (s : St) (x : Option X) (k : X → Y) : (mkr s x).map k = mkr s (x.map k) := rfl
theorem DB {en : Env} {m k : Nat} {fc : Code} {p : List Nat} {s : St} {e : Ex × St} (h : jnS en m k fc p s = some e) {K : Ex → St → Option R} {T : Option R} (hT : ∀ _ : Unit, T = kQ en m R fc p K e) : mkr s T = jnC en m k fc p R K s := by
  unfold jnC
  rw [h]
  exact hT ()
end
noncomputable def inlC (ms : List PM) (en : Env) (fn : Func) : Callee := ⟨ms, fun R args E K => runF en fn R args E K⟩
theorem Yk {ms : List PM} {en : Env} {fn : Func} (he : ENat en) : CNat (inlC ms en fn) := by
  intro R args E K
  show runF en fn R args E K = (runF en fn (AV × List Blk) args E _).bind _
  unfold runF
  split
  · rfl
  · split
    · refine T0 (KZ he _) fun e s => ?_
      cases e with
      | exit n => rfl
      | normal =>
        dsimp only
        cases resA en.tab s fn.results.toList with
        | none => rfl
        | some l =>
          dsimp only
          cases frzR E.length en.fi.frz l s.blks with
          | none => rfl
          | some q =>
            dsimp only
            cases coRes en.fi.res q.1 q.2 with
            | none => rfl
            | some q =>
              dsimp only
              cases leave E.length q.2 (resV q.1) with
              | none => rfl
              | some q => rfl
      | ret =>
        dsimp only
        cases resA en.tab s fn.results.toList with
        | none => rfl
        | some l =>
          dsimp only
          cases frzR E.length en.fi.frz l s.blks with
          | none => rfl
          | some q =>
            dsimp only
            cases coRes en.fi.res q.1 q.2 with
            | none => rfl
            | some q =>
              dsimp only
              cases leave E.length q.2 (resV q.1) with
              | none => rfl
              | some q => rfl
    · rfl
theorem YV {P : Program} {f : FuncId} {fn : Func} {ms : List PM} {en : Env} (hf : P.funcs[f]? = some fn) (hn : (fn.name == "runtime.NumGoroutine") = false) (hb : fn.body.isNone = false) (he : ProgOk P en) : SoundC P f (inlC ms en fn) :=
  SoundC.of he hf hn hb (Yk he.nat) fun _ _ _ _ h => h
inductive Pt where
  | k (a : AV) | dat (ks : List Nat) (t : Ty) | rop (ks : List Nat) (t : Ty) | ptr (k : Nat) (p : List Nat) (o : Nat) | pr (a b : Pt) | cons (a b : Pt) | fn (f : Nat) (c : Pt)
def AV.isK : AV → AV → Bool
  | .zs, .zs => true
  | .nilp, .nilp => true
  | .nil, .nil => true
  | .un n, .un m => n == m
  | .ref n, .ref m => n == m
  | .ptr k i p o, .ptr k' i' p' o' => k == k' && i == i' && p == p' && o == o'
  | .dat [] .unit _, .dat [] .unit _ => true
  | _, _ => false
theorem AV.isK_eq {a b : AV} (h : a.isK b = true) : b = a := by
  unfold AV.isK at h
  split at h <;> first | rfl | (simp at h; obtain ⟨⟨⟨rfl, rfl⟩, rfl⟩, rfl⟩ := h; rfl) | (simp at h; subst h; rfl) | cases h
@[reducible] def Pt.T : Pt → Type
  | .k _ => Unit
  | .dat _ t => t.V
  | .rop _ t => t.V
  | .ptr _ _ _ => Int
  | .pr a b => a.T × b.T
  | .cons a b => a.T × b.T
  | .fn _ c => c.T
def Pt.fill : (p : Pt) → p.T → AV
  | .k a, _ => a
  | .dat ks t, x => .dat ks t x
  | .rop ks t, x => .rop ks t x
  | .ptr j p o, i => .ptr j i p o
  | .pr a b, x => .pr (a.fill x.1) (b.fill x.2)
  | .cons a b, x => .cons (a.fill x.1) (b.fill x.2)
  | .fn f c, x => .fn f (c.fill x)
def Pt.mt : (p : Pt) → AV → Option p.T
  | .k a, b => bif a.isK b then some () else none
  | .dat ks t, a => match a with | .dat ks' t' x => if ks' = ks then castV t' t x else none | _ => none
  | .rop ks t, a => match a with | .rop ks' t' x => if ks' = ks then castV t' t x else none | _ => none
  | .ptr j p o, a => match a with | .ptr j' i p' o' => if j' = j ∧ p' = p ∧ o' = o then some i else none | _ => none
  | .pr a b, c => match c with | .pr x y => (match a.mt x, b.mt y with | some u, some v => some (u, v) | _, _ => none) | _ => none
  | .cons a b, c => match c with | .cons x y => (match a.mt x, b.mt y with | some u, some v => some (u, v) | _, _ => none) | _ => none
  | .fn f c, a => match a with | .fn f' x => if f' = f then c.mt x else none | _ => none
theorem Pt.mt_some : ∀ {p : Pt} {a : AV} {x : p.T}, p.mt a = some x → a = p.fill x
  | .k a, b, x, h => by
    unfold Pt.mt at h
    cases e : a.isK b with
    | false => rw [e] at h; cases h
    | true => exact AV.isK_eq e
  | .dat ks t, a, x, h => by
    unfold Pt.mt at h
    cases a with
    | dat ks' t' y =>
      simp only at h
      split at h
      · rename_i e; subst e
        obtain ⟨e, q⟩ := AW h
        subst e; subst q; rfl
      · cases h
    | _ => cases h
  | .rop ks t, a, x, h => by
    unfold Pt.mt at h
    cases a with
    | rop ks' t' y =>
      simp only at h
      split at h
      · rename_i e; subst e
        obtain ⟨e, q⟩ := AW h
        subst e; subst q; rfl
      · cases h
    | _ => cases h
  | .ptr j p o, a, x, h => by
    unfold Pt.mt at h
    cases a with
    | ptr j' i p' o' =>
      simp only at h
      split at h
      · rename_i e; obtain ⟨rfl, rfl, rfl⟩ := e
        injection h with h; subst h; rfl
      · cases h
    | _ => cases h
  | .pr a b, c, x, h => by
    unfold Pt.mt at h
    cases c with
    | pr y z =>
      simp only at h
      split at h
      · rename_i u v hu hv
        injection h with h; subst h
        rw [Pt.mt_some hu, Pt.mt_some hv]; rfl
      · cases h
    | _ => cases h
  | .cons a b, c, x, h => by
    unfold Pt.mt at h
    cases c with
    | cons y z =>
      simp only at h
      split at h
      · rename_i u v hu hv
        injection h with h; subst h
        rw [Pt.mt_some hu, Pt.mt_some hv]; rfl
      · cases h
    | _ => cases h
  | .fn f c, a, x, h => by
    unfold Pt.mt at h
    cases a with
    | fn f' y =>
      simp only at h
      split at h
      · rename_i e; subst e
        rw [Pt.mt_some h]; rfl
      · cases h
    | _ => cases h
@[reducible] def ptsT : List Pt → Type
  | [] => Unit
  | p :: r => p.T × ptsT r
def ptsF : (l : List Pt) → ptsT l → List AV
  | [], _ => []
  | p :: r, x => p.fill x.1 :: ptsF r x.2
def ptsM : (l : List Pt) → List AV → Option (ptsT l)
  | [], l => match l with | [] => some () | _ => none
  | p :: r, l => match l with | a :: as' => (match p.mt a, ptsM r as' with | some u, some v => some (u, v) | _, _ => none) | _ => none
theorem OB : ∀ {l : List Pt} {a : List AV} {x : ptsT l}, ptsM l a = some x → a = ptsF l x
  | [], a, x, h => by
    cases a with
    | nil => rfl
    | cons _ _ => cases h
  | p :: r, a, x, h => by
    unfold ptsM at h
    cases a with
    | nil => cases h
    | cons a as' =>
      simp only at h
      split at h
      · rename_i u v hu hv
        injection h with h; subst h
        rw [Pt.mt_some hu, OB hv]; rfl
      · cases h
inductive BPt where
  | box (p : Pt) | row (e : Nat) (m : RM) (t : Ty) | dead
def RM.eqb : RM → RM → Bool
  | .deep, .deep => true
  | .sh a, .sh b => a == b
  | _, _ => false
theorem RM.eqb_eq {a b : RM} (h : a.eqb b = true) : b = a := by
  cases a <;> cases b <;> simp [RM.eqb] at h
  · rfl
  · subst h; rfl
@[reducible] def BPt.T : BPt → Type
  | .box p => p.T
  | .row _ _ t => List t.V
  | .dead => Unit
def BPt.fill : (p : BPt) → p.T → Blk
  | .box p, x => .box (p.fill x)
  | .row e m t, x => .row e m t x
  | .dead, _ => .dead
def BPt.mt : (p : BPt) → Blk → Option p.T
  | .box p, b => match b with | .box a => p.mt a | _ => none
  | .row e m t, b => match b with | .row e' m' t' xs => if e' = e then bif m.eqb m' then castV (.sl t') (.sl t) xs else none else none | _ => none
  | .dead, b => match b with | .dead => some () | _ => none
theorem BPt.mt_some : ∀ {p : BPt} {a : Blk} {x : p.T}, p.mt a = some x → a = p.fill x
  | .box p, a, x, h => by
    unfold BPt.mt at h
    cases a with
    | box y => rw [Pt.mt_some h]; rfl
    | _ => cases h
  | .row e m t, a, x, h => by
    unfold BPt.mt at h
    cases a with
    | row e' m' t' y =>
      simp only at h
      split at h
      · rename_i e0; subst e0
        cases hm : m.eqb m' with
        | false => rw [hm] at h; cases h
        | true =>
          rw [hm, cond_true] at h
          have := RM.eqb_eq hm; subst this
          obtain ⟨e1, q⟩ := AW h
          cases Ty.sl.inj e1; subst q; rfl
      · cases h
    | _ => cases h
  | .dead, a, x, h => by
    unfold BPt.mt at h
    cases a with
    | dead => rfl
    | _ => cases h
@[reducible] def bptsT : List BPt → Type
  | [] => Unit
  | p :: r => p.T × bptsT r
def bptsF : (l : List BPt) → bptsT l → List Blk
  | [], _ => []
  | p :: r, x => p.fill x.1 :: bptsF r x.2
def bptsM : (l : List BPt) → List Blk → Option (bptsT l)
  | [], l => match l with | [] => some () | _ => none
  | p :: r, l => match l with | a :: as' => (match p.mt a, bptsM r as' with | some u, some v => some (u, v) | _, _ => none) | _ => none
theorem NF : ∀ {l : List BPt} {a : List Blk} {x : bptsT l}, bptsM l a = some x → a = bptsF l x
  | [], a, x, h => by
    cases a with
    | nil => rfl
    | cons _ _ => cases h
  | p :: r, a, x, h => by
    unfold bptsM at h
    cases a with
    | nil => cases h
    | cons a as' =>
      simp only at h
      split at h
      · rename_i u v hu hv
        injection h with h; subst h
        rw [BPt.mt_some hu, NF hv]; rfl
      · cases h
structure Br where
  pa : List Pt
  pb : List BPt
  U : Type
  F : ptsT pa × bptsT pb → Option U
  out : U → AV × List Blk
def brRun : List Br → (R : Type) → List AV → List Blk → (AV → List Blk → Option R) → Option R
  | [], _, _, _, _ => none
  | b :: r, R, avs, E, K => match ptsM b.pa avs, bptsM b.pb E with
    | some x, some y => (b.F (x, y)).bind fun u => K (b.out u).1 (b.out u).2
    | _, _ => brRun r R avs E K
def brC (ms : List PM) (bs : List Br) : Callee := { modes := ms, run := brRun bs }
theorem Pg : ∀ (bs : List Br) (R : Type) (args : List AV) (E : List Blk) (K : AV → List Blk → Option R), brRun bs R args E K = (brRun bs (AV × List Blk) args E fun v b => some (v, b)).bind fun p => K p.1 p.2
  | [], _, _, _, _ => rfl
  | b :: r, R, args, E, K => by
    unfold brRun
    split
    · rw [Option.bind_assoc]; rfl
    · exact Pg r R args E K
def BrOk (P : Program) (fn : Func) (b : Br) : Prop := ∃ en, ProgOk P en ∧ ∀ p (R : Type) (K : AV → List Blk → Option R), runF en fn R (ptsF b.pa p.1) (bptsF b.pb p.2) K = (b.F p).bind fun u => K (b.out u).1 (b.out u).2
def BrsOk (P : Program) (fn : Func) : List Br → Prop
  | [] => True
  | b :: r => BrOk P fn b ∧ BrsOk P fn r
theorem Xb {P : Program} {fn : Func} : ∀ {bs : List Br}, BrsOk P fn bs → ∀ args E av E', brRun bs (AV × List Blk) args E (fun v b => some (v, b)) = some (av, E') → ∃ en, ProgOk P en ∧ runF en fn (AV × List Blk) args E (fun v b => some (v, b)) = some (av, E')
  | [], _, _, _, _, _, h => by cases h
  | b :: r, ⟨⟨en, he, hb⟩, hr⟩, args, E, av, E', h => by
    unfold brRun at h
    split at h
    · rename_i x y hx hy
      refine ⟨en, he, ?_⟩
      rw [OB hx, NF hy]
      exact (hb (x, y) _ _).trans h
    · exact Xb hr args E av E' h
theorem Ao {P : Program} {f : FuncId} {fn : Func} {ms : List PM} {bs : List Br} (hf : P.funcs[f]? = some fn) (hn : (fn.name == "runtime.NumGoroutine") = false) (hb : fn.body.isNone = false) (h : BrsOk P fn bs) : SoundC P f (brC ms bs) :=
  SoundC.of2 hf hn hb (Pg bs) (Xb h)
end Go.Va
namespace Go.Proofs.X
open Go Go.Va
set_option maxRecDepth 100000
abbrev Tlaws_Decl : Ty := (.pair .str (.pair (.int .i64) .unit))
abbrev Ns : Ty := (.pair (.int .i64) (.pair (.sl (.int .u64)) .unit))
abbrev K1 : Ty := (.pair (.int .i64) (.pair (.int .i64) (.pair (.int .i64) (.pair (.int .i64) (.pair Ns (.pair (.sl (.int .i64)) .unit))))))
abbrev KS : Ty := (.pair (.sl K1) .unit)
abbrev Tlaws_Literal : Ty := (.pair (.int .i64) (.pair .bool (.pair KS (.pair KS .unit))))
abbrev Tlaws_PStep : Ty := (.pair (.int .i64) (.pair (.int .i64) (.pair (.int .i64) (.pair (.int .i64) (.pair (.int .i64) (.pair KS .unit))))))
abbrev Aj : Ty := (.pair (.int .i64) (.pair (.sl (.int .u64)) .unit))
abbrev Ad : Ty := (.pair (.int .i64) (.pair (.int .i64) (.pair (.int .i64) (.pair (.int .i64) (.pair Aj (.pair (.sl (.int .i64)) .unit))))))
abbrev Ai : Ty := (.pair (.sl Ad) .unit)
abbrev Aa : Ty := (.pair (.int .i64) (.pair (.int .i64) (.pair (.int .i64) (.pair (.int .i64) (.pair (.int .i64) (.pair Ai .unit))))))
abbrev Ae : Ty := (.pair .str (.pair (.int .i64) .unit))
abbrev Af : Ty := (.pair (.int .i64) (.pair .bool (.pair Ai (.pair Ai .unit))))
abbrev Ab : Ty := (.pair (.int .i64) (.pair (.int .i64) (.pair (.int .i64) (.pair Aj .unit))))
abbrev Ah : Ty := (.pair (.sl Ab) (.pair (.sl Ab) .unit))
abbrev Ag : Ty := (.pair (.int .i64) (.pair (.int .i64) .unit))
abbrev Ax : Ty := (.pair (.sl Ae) (.pair (.sl Af) (.pair (.sl (.pair (.sl Ab) (.pair (.sl Ab) .unit))) (.pair (.sl Ah) .unit))))
def tab : Tab := [
  (2, ⟨(.int .i64), [], 0, 8, 0⟩),
  (3, ⟨(.int .i64), [], 0, 8, 0⟩),
  (4, ⟨.bool, [], 0, 1, 0⟩),
  (5, ⟨(.int .u8), [], 0, 1, 0⟩),
  (9, ⟨.str, [], 0, 16, 0⟩),
  (22, ⟨(.sl Tlaws_Decl), [], 82, 24, 0⟩),
  (23, ⟨(.sl Tlaws_Literal), [], 47, 24, 0⟩),
  (24, ⟨(.sl Tlaws_PStep), [], 85, 24, 0⟩),
  (28, ⟨(.sl Aa), [], 92, 24, 0⟩),
  (31, ⟨(.sl Ae), [], 95, 24, 0⟩),
  (33, ⟨(.sl Af), [], 60, 24, 0⟩),
  (43, ⟨(.sl K1), [], 247, 24, 0⟩),
  (45, ⟨KS, [0], 0, 24, 0⟩),
  (47, ⟨Tlaws_Literal, [0, 1, 2, 3], 0, 64, 0⟩),
  (56, ⟨(.sl Ad), [], 177, 24, 0⟩),
  (58, ⟨Ai, [0], 0, 24, 0⟩),
  (60, ⟨Af, [0, 1, 2, 3], 0, 64, 0⟩),
  (72, ⟨(.sl (.int .i64)), [], 2, 24, 0⟩),
  (82, ⟨Tlaws_Decl, [0, 1], 0, 24, 0⟩),
  (85, ⟨Tlaws_PStep, [0, 1, 2, 3, 4, 5], 0, 64, 0⟩),
  (86, ⟨(.sl Ah), [], 173, 24, 0⟩),
  (89, ⟨(.sl .bool), [], 4, 24, 0⟩),
  (92, ⟨Aa, [0, 1, 2, 3, 4, 5], 0, 64, 0⟩),
  (95, ⟨Ae, [0, 1], 0, 24, 0⟩),
  (98, ⟨(.sl (.opq 0)), [], 100, 24, 0⟩),
  (100, ⟨(.opq 0), [], 2, 8, 0⟩),
  (112, ⟨(.sl Ab), [], 196, 24, 0⟩),
  (115, ⟨(.sl Ag), [], 200, 24, 0⟩),
  (125, ⟨(.sl (.int .u64)), [], 221, 24, 0⟩),
  (127, ⟨Aj, [0, 1], 0, 32, 0⟩),
  (136, ⟨(.sl (.pair (.sl Ab) (.pair (.sl Ab) .unit))), [], 140, 24, 0⟩),
  (140, ⟨(.pair (.sl Ab) (.pair (.sl Ab) .unit)), [], 112, 48, 2⟩),
  (169, ⟨(.sl (.sl Ab)), [], 112, 24, 0⟩),
  (173, ⟨Ah, [0, 1], 0, 48, 0⟩),
  (177, ⟨Ad, [0, 1, 2, 3, 4, 6], 0, 88, 0⟩),
  (180, ⟨Ax, [0, 1, 2, 3], 0, 96, 0⟩),
  (184, ⟨(.sl (.int .u8)), [], 5, 24, 0⟩),
  (191, ⟨(.sl (.sl Ag)), [], 115, 24, 0⟩),
  (196, ⟨Ab, [0, 1, 2, 3], 0, 56, 0⟩),
  (200, ⟨Ag, [0, 1], 0, 16, 0⟩),
  (221, ⟨(.int .u64), [], 0, 8, 0⟩),
  (245, ⟨Ns, [0, 1], 0, 32, 0⟩),
  (247, ⟨K1, [0, 1, 2, 3, 4, 6], 0, 88, 0⟩),
  (252, ⟨(.int .u64), [], 0, 8, 0⟩)]
theorem tabok : tabOk Tryz.prog tab = true := by kernel_rfl
theorem mixed : Tryz.prog.follows .mixedOrders = true := by kernel_rfl
noncomputable section
abbrev E0 : Env := ⟨tab, lookH [], { deep := true }⟩
def DL (a : Ae.V) (b : Int) : Int := (bif (decide ((IntKind.i64.wrap (b - (a.1.size : Int))) < 0)) then (-1) else (IntKind.i64.wrap (b - (a.1.size : Int))))
theorem U0 (R : Type) (a : Ae.V) (b : Int) (K : AV → List Blk → Option R) : runF E0 Tryz.f39 R [dD Ae a, dI b] [] K = K (dI (DL a b)) [] := by
  have h : runF E0 Tryz.f39 R [dD Ae a, dI b] [] K =
 bif (decide ((IntKind.i64.wrap (b - (a.1.size : Int))) < 0)) then
 K (dI (-1)) []
 else
 K (dI (IntKind.i64.wrap (b - (a.1.size : Int)))) [] := by kernel_rfl
  rw [h]
  unfold DL
  cases h1 : (decide ((IntKind.i64.wrap (b - (a.1.size : Int))) < 0))
  · first | rfl | kernel_rfl
  · first | rfl | kernel_rfl
def c39 : Va.Callee := brC [.d Ae, .d (.int .i64)] [⟨[.dat [] Ae, .dat [] (.int .i64)], [], Int, fun p => some (DL p.1.1 p.1.2.1), fun r => (dI r, [])⟩]
theorem YW : SoundC Tryz.prog 39 c39 := Ao (fn := Tryz.f39) (by kernel_rfl) (by kernel_rfl) (by kernel_rfl) ⟨⟨E0, ⟨⟨tabok, Am trivial⟩, mixed⟩, fun p R K => U0 R p.1.1 p.1.2.1 K⟩, trivial⟩
abbrev E1 : Env := ⟨tab, lookH [(39, c39)], { deep := true, heads := [(5, { live := [0, 1, 5] })], outs := [(5, { live := [1, 4] })] }⟩
def Aiz (a : (List Ae.V)) (z_ : (Int × Int)) : St := sT 27 [(0, dD (.sl Ae) a), (1, dI z_.1), (5, dI z_.2)] []
def AiA (a : (List Ae.V)) : (Int ⊕ Int) → Ex × St := Sum.elim (fun b => (.ret, sT 27 [(1, dI b), (4, dI (-1))] [])) (fun c => ((.exit 0), sT 27 [(1, dI c)] []))
def JY (a : (List Ae.V)) (d : Int) (e : Int) : Option ((Int × Int) ⊕ (Int ⊕ Int)) :=
 bif (decide (e < (a.length : Int))) then
 if (0 : Int) ≤ e ∧ e < (a.length : Int) then
 bif (decide ((DL (a.getD e.toNat (Ty.zero Ae)) d) < 0)) then
 some (.inr (.inl (DL (a.getD e.toNat (Ty.zero Ae)) d)))
 else
 some (.inl ((DL (a.getD e.toNat (Ty.zero Ae)) d), (IntKind.i64.wrap (e + 1))))
 else none
 else
 some (.inr (.inr d))
def Fi (a : (List Ae.V)) (z_ : (Int × Int)) := JY a z_.1 z_.2
def KE (a : (List Ae.V)) (d : Int) (e : Int) := fix (Fi a) (d, e)
theorem AiH (a : (List Ae.V)) : LpOk E1 0 5 (code Tryz.f6) [1, 1, 1, 0, 1, 0] (Aiz a) (Fi a) (AiA a) := by
  intro _
  simp only [Fi, JY, mC, mI, mN, mB, mE, mM]
  kernel_rfl
def Ii (a : (List Ae.V)) (g : Int) : Option Int :=
 bif (decide ((IntKind.i64.wrap (g - (a.length : Int))) < 0)) then
 some (-1)
 else
 (KE a (IntKind.i64.wrap (g - (a.length : Int))) 0).bind (Sum.elim (fun b =>
 some (-1)) (fun c =>
 some c))
theorem U1 (R : Type) (a : (List Ae.V)) (g : Int) (K : AV → List Blk → Option R) : runF E1 Tryz.f6 R [dD (.sl Ae) a, dI g] [] K = (Ii a g).bind fun r => K (dI r) [] := by
  simp only [Ii, bC, bI, bN, bE, bA, bS, bO, bM]
  simp (disch := refine sI ?_ <;> (repeat' refine sA ?_ ?_) <;> intro _ <;> kernel_rfl) only [KE, AC (AiH _) (K := finK E1 Tryz.f6 0 R K)]
  kernel_rfl
def c6 : Va.Callee := brC [.d (.sl Ae), .d (.int .i64)] [⟨[.dat [] (.sl Ae), .dat [] (.int .i64)], [], Int, fun p => Ii p.1.1 p.1.2.1, fun r => (dI r, [])⟩]
theorem AaZ : SoundC Tryz.prog 6 c6 := Ao (fn := Tryz.f6) (by kernel_rfl) (by kernel_rfl) (by kernel_rfl) ⟨⟨E1, ⟨⟨tabok, Am ⟨YW, trivial⟩⟩, mixed⟩, fun p R K => U1 R p.1.1 p.1.2.1 K⟩, trivial⟩
abbrev E2 : Env := ⟨tab, lookH [], { deep := true }⟩
def AS (a : (List Int)) (b : Int) : Int := (bif (decide ((IntKind.i64.wrap (b - (a.length : Int))) < 0)) then (-1) else (IntKind.i64.wrap (b - (a.length : Int))))
theorem U2 (R : Type) (a : (List Int)) (b : Int) (K : AV → List Blk → Option R) : runF E2 Tryz.f227 R [dD (.sl (.int .u64)) a, dI b] [] K = K (dI (AS a b)) [] := by
  have h : runF E2 Tryz.f227 R [dD (.sl (.int .u64)) a, dI b] [] K =
 bif (decide ((IntKind.i64.wrap (b - (a.length : Int))) < 0)) then
 K (dI (-1)) []
 else
 K (dI (IntKind.i64.wrap (b - (a.length : Int)))) [] := by kernel_rfl
  rw [h]
  unfold AS
  cases h1 : (decide ((IntKind.i64.wrap (b - (a.length : Int))) < 0))
  · first | rfl | kernel_rfl
  · first | rfl | kernel_rfl
def c227 : Va.Callee := brC [.d (.sl (.int .u64)), .d (.int .i64)] [⟨[.dat [] (.sl (.int .u64)), .dat [] (.int .i64)], [], Int, fun p => some (AS p.1.1 p.1.2.1), fun r => (dI r, [])⟩]
theorem Wm : SoundC Tryz.prog 227 c227 := Ao (fn := Tryz.f227) (by kernel_rfl) (by kernel_rfl) (by kernel_rfl) ⟨⟨E2, ⟨⟨tabok, Am trivial⟩, mixed⟩, fun p R K => U2 R p.1.1 p.1.2.1 K⟩, trivial⟩
abbrev E3 : Env := ⟨tab, lookH [(227, c227)], { deep := true }⟩
def Ba (a : Aj.V) (b : Int) : Int := (bif (decide ((AS a.2.1 b) < 0)) then (-1) else (AS a.2.1 b))
theorem U3 (R : Type) (a : Aj.V) (b : Int) (K : AV → List Blk → Option R) : runF E3 Tryz.f197 R [dD Aj a, dI b] [] K = K (dI (Ba a b)) [] := by
  have h : runF E3 Tryz.f197 R [dD Aj a, dI b] [] K =
 bif (decide ((AS a.2.1 b) < 0)) then
 K (dI (-1)) []
 else
 K (dI (AS a.2.1 b)) [] := by kernel_rfl
  rw [h]
  unfold Ba
  cases h1 : (decide ((AS a.2.1 b) < 0))
  · first | rfl | kernel_rfl
  · first | rfl | kernel_rfl
def c197 : Va.Callee := brC [.d Aj, .d (.int .i64)] [⟨[.dat [] Aj, .dat [] (.int .i64)], [], Int, fun p => some (Ba p.1.1 p.1.2.1), fun r => (dI r, [])⟩]
theorem Wq : SoundC Tryz.prog 197 c197 := Ao (fn := Tryz.f197) (by kernel_rfl) (by kernel_rfl) (by kernel_rfl) ⟨⟨E3, ⟨⟨tabok, Am ⟨Wm, trivial⟩⟩, mixed⟩, fun p R K => U3 R p.1.1 p.1.2.1 K⟩, trivial⟩
abbrev E4 : Env := ⟨tab, lookH [], { deep := true }⟩
def A6 (a : (List Int)) (b : Int) : Int := (bif (decide ((IntKind.i64.wrap (b - (a.length : Int))) < 0)) then (-1) else (IntKind.i64.wrap (b - (a.length : Int))))
theorem U4 (R : Type) (a : (List Int)) (b : Int) (K : AV → List Blk → Option R) : runF E4 Tryz.f104 R [dD (.sl (.int .i64)) a, dI b] [] K = K (dI (A6 a b)) [] := by
  have h : runF E4 Tryz.f104 R [dD (.sl (.int .i64)) a, dI b] [] K =
 bif (decide ((IntKind.i64.wrap (b - (a.length : Int))) < 0)) then
 K (dI (-1)) []
 else
 K (dI (IntKind.i64.wrap (b - (a.length : Int)))) [] := by kernel_rfl
  rw [h]
  unfold A6
  cases h1 : (decide ((IntKind.i64.wrap (b - (a.length : Int))) < 0))
  · first | rfl | kernel_rfl
  · first | rfl | kernel_rfl
def c104 : Va.Callee := brC [.d (.sl (.int .i64)), .d (.int .i64)] [⟨[.dat [] (.sl (.int .i64)), .dat [] (.int .i64)], [], Int, fun p => some (A6 p.1.1 p.1.2.1), fun r => (dI r, [])⟩]
theorem VV : SoundC Tryz.prog 104 c104 := Ao (fn := Tryz.f104) (by kernel_rfl) (by kernel_rfl) (by kernel_rfl) ⟨⟨E4, ⟨⟨tabok, Am trivial⟩, mixed⟩, fun p R K => U4 R p.1.1 p.1.2.1 K⟩, trivial⟩
abbrev E5 : Env := ⟨tab, lookH [(104, c104), (197, c197)], { deep := true }⟩
def CI (a : Ad.V) (b : Int) : Int := (bif (decide ((Ba a.2.2.2.2.1 b) < 0)) then (-1) else (bif (decide ((A6 a.2.2.2.2.2.1 (Ba a.2.2.2.2.1 b)) < 0)) then (-1) else (A6 a.2.2.2.2.2.1 (Ba a.2.2.2.2.1 b))))
theorem U5 (R : Type) (a : Ad.V) (b : Int) (K : AV → List Blk → Option R) : runF E5 Tryz.f161 R [dD Ad a, dI b] [] K = K (dI (CI a b)) [] := by
  have h : runF E5 Tryz.f161 R [dD Ad a, dI b] [] K =
 bif (decide ((Ba a.2.2.2.2.1 b) < 0)) then
 K (dI (-1)) []
 else
 bif (decide ((A6 a.2.2.2.2.2.1 (Ba a.2.2.2.2.1 b)) < 0)) then
 K (dI (-1)) []
 else
 K (dI (A6 a.2.2.2.2.2.1 (Ba a.2.2.2.2.1 b))) [] := by kernel_rfl
  rw [h]
  unfold CI
  cases h1 : (decide ((Ba a.2.2.2.2.1 b) < 0))
  · cases h2 : (decide ((A6 a.2.2.2.2.2.1 (Ba a.2.2.2.2.1 b)) < 0))
    · first | rfl | kernel_rfl
    · first | rfl | kernel_rfl
  · first | rfl | kernel_rfl
def c161 : Va.Callee := brC [.d Ad, .d (.int .i64)] [⟨[.dat [] Ad, .dat [] (.int .i64)], [], Int, fun p => some (CI p.1.1 p.1.2.1), fun r => (dI r, [])⟩]
theorem WK : SoundC Tryz.prog 161 c161 := Ao (fn := Tryz.f161) (by kernel_rfl) (by kernel_rfl) (by kernel_rfl) ⟨⟨E5, ⟨⟨tabok, Am ⟨VV, Wq, trivial⟩⟩, mixed⟩, fun p R K => U5 R p.1.1 p.1.2.1 K⟩, trivial⟩
abbrev E6 : Env := ⟨tab, lookH [(161, c161)], { deep := true, heads := [(5, { live := [0, 1, 5] })], outs := [(5, { live := [1, 4] })] }⟩
def AiC (a : (List Ad.V)) (z_ : (Int × Int)) : St := sT 27 [(0, dD (.sl Ad) a), (1, dI z_.1), (5, dI z_.2)] []
def AiI (a : (List Ad.V)) : (Int ⊕ Int) → Ex × St := Sum.elim (fun b => (.ret, sT 27 [(1, dI b), (4, dI (-1))] [])) (fun c => ((.exit 0), sT 27 [(1, dI c)] []))
def Ju (a : (List Ad.V)) (d : Int) (e : Int) : Option ((Int × Int) ⊕ (Int ⊕ Int)) :=
 bif (decide (e < (a.length : Int))) then
 if (0 : Int) ≤ e ∧ e < (a.length : Int) then
 bif (decide ((CI (a.getD e.toNat (Ty.zero Ad)) d) < 0)) then
 some (.inr (.inl (CI (a.getD e.toNat (Ty.zero Ad)) d)))
 else
 some (.inl ((CI (a.getD e.toNat (Ty.zero Ad)) d), (IntKind.i64.wrap (e + 1))))
 else none
 else
 some (.inr (.inr d))
def Eu (a : (List Ad.V)) (z_ : (Int × Int)) := Ju a z_.1 z_.2
def Ko (a : (List Ad.V)) (d : Int) (e : Int) := fix (Eu a) (d, e)
theorem AiG (a : (List Ad.V)) : LpOk E6 0 5 (code Tryz.f103) [1, 1, 1, 0, 1, 0] (AiC a) (Eu a) (AiI a) := by
  intro _
  simp only [Eu, Ju, mC, mI, mN, mB, mE, mM]
  kernel_rfl
def FA (a : (List Ad.V)) (g : Int) : Option Int :=
 bif (decide ((IntKind.i64.wrap (g - (a.length : Int))) < 0)) then
 some (-1)
 else
 (Ko a (IntKind.i64.wrap (g - (a.length : Int))) 0).bind (Sum.elim (fun b =>
 some (-1)) (fun c =>
 some c))
theorem U6 (R : Type) (a : (List Ad.V)) (g : Int) (K : AV → List Blk → Option R) : runF E6 Tryz.f103 R [dD (.sl Ad) a, dI g] [] K = (FA a g).bind fun r => K (dI r) [] := by
  simp only [FA, bC, bI, bN, bE, bA, bS, bO, bM]
  simp (disch := refine sI ?_ <;> (repeat' refine sA ?_ ?_) <;> intro _ <;> kernel_rfl) only [Ko, AC (AiG _) (K := finK E6 Tryz.f103 0 R K)]
  kernel_rfl
def c103 : Va.Callee := brC [.d (.sl Ad), .d (.int .i64)] [⟨[.dat [] (.sl Ad), .dat [] (.int .i64)], [], Int, fun p => FA p.1.1 p.1.2.1, fun r => (dI r, [])⟩]
theorem Wz : SoundC Tryz.prog 103 c103 := Ao (fn := Tryz.f103) (by kernel_rfl) (by kernel_rfl) (by kernel_rfl) ⟨⟨E6, ⟨⟨tabok, Am ⟨WK, trivial⟩⟩, mixed⟩, fun p R K => U6 R p.1.1 p.1.2.1 K⟩, trivial⟩
abbrev E7 : Env := ⟨tab, lookH [(103, c103)], { deep := true }⟩
def C5 (a : Ai.V) (b : Int) : Option Int :=
 (FA a.1 b).bind fun c =>
 bif (decide (c < 0)) then
 some (-1)
 else
 some c
theorem U7 (R : Type) (a : Ai.V) (b : Int) (K : AV → List Blk → Option R) : runF E7 Tryz.f55 R [dD Ai a, dI b] [] K = (C5 a b).bind fun r => K (dI r) [] := by
  simp only [C5, bC, bI, bN, bE, bA, bS, bO, bM]
  kernel_rfl
def c55 : Va.Callee := brC [.d Ai, .d (.int .i64)] [⟨[.dat [] Ai, .dat [] (.int .i64)], [], Int, fun p => C5 p.1.1 p.1.2.1, fun r => (dI r, [])⟩]
theorem TC : SoundC Tryz.prog 55 c55 := Ao (fn := Tryz.f55) (by kernel_rfl) (by kernel_rfl) (by kernel_rfl) ⟨⟨E7, ⟨⟨tabok, Am ⟨Wz, trivial⟩⟩, mixed⟩, fun p R K => U7 R p.1.1 p.1.2.1 K⟩, trivial⟩
end
end Go.Proofs.X
namespace Go.Proofs.X
open Go Go.Va
set_option maxRecDepth 100000
noncomputable section
abbrev E8 : Env := ⟨tab, lookH [(55, c55)], { deep := true }⟩
def F0 (a : Af.V) (b : Int) : Option Int :=
 (C5 a.2.2.1 b).bind fun c =>
 bif (decide (c < 0)) then
 some (-1)
 else
 (C5 a.2.2.2.1 c).bind fun d =>
 bif (decide (d < 0)) then
 some (-1)
 else
 some d
theorem U8 (R : Type) (a : Af.V) (b : Int) (K : AV → List Blk → Option R) : runF E8 Tryz.f21 R [dD Af a, dI b] [] K = (F0 a b).bind fun r => K (dI r) [] := by
  simp only [F0, bC, bI, bN, bE, bA, bS, bO, bM]
  kernel_rfl
def c21 : Va.Callee := brC [.d Af, .d (.int .i64)] [⟨[.dat [] Af, .dat [] (.int .i64)], [], Int, fun p => F0 p.1.1 p.1.2.1, fun r => (dI r, [])⟩]
theorem Ze : SoundC Tryz.prog 21 c21 := Ao (fn := Tryz.f21) (by kernel_rfl) (by kernel_rfl) (by kernel_rfl) ⟨⟨E8, ⟨⟨tabok, Am ⟨TC, trivial⟩⟩, mixed⟩, fun p R K => U8 R p.1.1 p.1.2.1 K⟩, trivial⟩
abbrev E9 : Env := ⟨tab, lookH [(21, c21)], { deep := true, heads := [(5, { live := [0, 1, 5] })], outs := [(5, { live := [1, 4] })] }⟩
def AiD (a : (List Af.V)) (z_ : (Int × Int)) : St := sT 27 [(0, dD (.sl Af) a), (1, dI z_.1), (5, dI z_.2)] []
def AiJ (a : (List Af.V)) : (Int ⊕ Int) → Ex × St := Sum.elim (fun b => (.ret, sT 27 [(1, dI b), (4, dI (-1))] [])) (fun c => ((.exit 0), sT 27 [(1, dI c)] []))
def ID (a : (List Af.V)) (d : Int) (e : Int) : Option ((Int × Int) ⊕ (Int ⊕ Int)) :=
 bif (decide (e < (a.length : Int))) then
 if (0 : Int) ≤ e ∧ e < (a.length : Int) then
 (F0 (a.getD e.toNat (Ty.zero Af)) d).bind fun g =>
 bif (decide (g < 0)) then
 some (.inr (.inl g))
 else
 some (.inl (g, (IntKind.i64.wrap (e + 1))))
 else none
 else
 some (.inr (.inr d))
def Dk (a : (List Af.V)) (z_ : (Int × Int)) := ID a z_.1 z_.2
def Je (a : (List Af.V)) (d : Int) (e : Int) := fix (Dk a) (d, e)
theorem AiE (a : (List Af.V)) : LpOk E9 0 5 (code Tryz.f7) [1, 1, 1, 0, 1, 0] (AiD a) (Dk a) (AiJ a) := by
  intro _
  simp only [Dk, ID, mC, mI, mN, mB, mE, mM]
  kernel_rfl
def Fa (a : (List Af.V)) (i : Int) : Option Int :=
 bif (decide ((IntKind.i64.wrap (i - (a.length : Int))) < 0)) then
 some (-1)
 else
 (Je a (IntKind.i64.wrap (i - (a.length : Int))) 0).bind (Sum.elim (fun b =>
 some (-1)) (fun c =>
 some c))
theorem U9 (R : Type) (a : (List Af.V)) (i : Int) (K : AV → List Blk → Option R) : runF E9 Tryz.f7 R [dD (.sl Af) a, dI i] [] K = (Fa a i).bind fun r => K (dI r) [] := by
  simp only [Fa, bC, bI, bN, bE, bA, bS, bO, bM]
  simp (disch := refine sI ?_ <;> (repeat' refine sA ?_ ?_) <;> intro _ <;> kernel_rfl) only [Je, AC (AiE _) (K := finK E9 Tryz.f7 0 R K)]
  kernel_rfl
def c7 : Va.Callee := brC [.d (.sl Af), .d (.int .i64)] [⟨[.dat [] (.sl Af), .dat [] (.int .i64)], [], Int, fun p => Fa p.1.1 p.1.2.1, fun r => (dI r, [])⟩]
theorem AaD : SoundC Tryz.prog 7 c7 := Ao (fn := Tryz.f7) (by kernel_rfl) (by kernel_rfl) (by kernel_rfl) ⟨⟨E9, ⟨⟨tabok, Am ⟨Ze, trivial⟩⟩, mixed⟩, fun p R K => U9 R p.1.1 p.1.2.1 K⟩, trivial⟩
abbrev E10 : Env := ⟨tab, lookH [(55, c55)], { deep := true }⟩
def Ih (a : Aa.V) (b : Int) : Option Int :=
 (C5 a.2.2.2.2.2.1 b).bind fun c =>
 bif (decide (c < 0)) then
 some (-1)
 else
 some c
theorem U10 (R : Type) (a : Aa.V) (b : Int) (K : AV → List Blk → Option R) : runF E10 Tryz.f40 R [dD Aa a, dI b] [] K = (Ih a b).bind fun r => K (dI r) [] := by
  simp only [Ih, bC, bI, bN, bE, bA, bS, bO, bM]
  kernel_rfl
def c40 : Va.Callee := brC [.d Aa, .d (.int .i64)] [⟨[.dat [] Aa, .dat [] (.int .i64)], [], Int, fun p => Ih p.1.1 p.1.2.1, fun r => (dI r, [])⟩]
theorem Xv : SoundC Tryz.prog 40 c40 := Ao (fn := Tryz.f40) (by kernel_rfl) (by kernel_rfl) (by kernel_rfl) ⟨⟨E10, ⟨⟨tabok, Am ⟨TC, trivial⟩⟩, mixed⟩, fun p R K => U10 R p.1.1 p.1.2.1 K⟩, trivial⟩
abbrev E11 : Env := ⟨tab, lookH [(40, c40)], { deep := true, heads := [(5, { live := [0, 1, 5] })], outs := [(5, { live := [1, 4] })] }⟩
def AfT (a : (List Aa.V)) (z_ : (Int × Int)) : St := sT 27 [(0, dD (.sl Aa) a), (1, dI z_.1), (5, dI z_.2)] []
def Aic (a : (List Aa.V)) : (Int ⊕ Int) → Ex × St := Sum.elim (fun b => (.ret, sT 27 [(1, dI b), (4, dI (-1))] [])) (fun c => ((.exit 0), sT 27 [(1, dI c)] []))
def Jo (a : (List Aa.V)) (d : Int) (e : Int) : Option ((Int × Int) ⊕ (Int ⊕ Int)) :=
 bif (decide (e < (a.length : Int))) then
 if (0 : Int) ≤ e ∧ e < (a.length : Int) then
 (Ih (a.getD e.toNat (Ty.zero Aa)) d).bind fun g =>
 bif (decide (g < 0)) then
 some (.inr (.inl g))
 else
 some (.inl (g, (IntKind.i64.wrap (e + 1))))
 else none
 else
 some (.inr (.inr d))
def EC (a : (List Aa.V)) (z_ : (Int × Int)) := Jo a z_.1 z_.2
def Kq (a : (List Aa.V)) (d : Int) (e : Int) := fix (EC a) (d, e)
theorem Ad1 (a : (List Aa.V)) : LpOk E11 0 5 (code Tryz.f8) [1, 1, 1, 0, 1, 0] (AfT a) (EC a) (Aic a) := by
  intro _
  simp only [EC, Jo, mC, mI, mN, mB, mE, mM]
  kernel_rfl
def G9 (a : (List Aa.V)) (i : Int) : Option Int :=
 bif (decide ((IntKind.i64.wrap (i - (a.length : Int))) < 0)) then
 some (-1)
 else
 (Kq a (IntKind.i64.wrap (i - (a.length : Int))) 0).bind (Sum.elim (fun b =>
 some (-1)) (fun c =>
 some c))
theorem U11 (R : Type) (a : (List Aa.V)) (i : Int) (K : AV → List Blk → Option R) : runF E11 Tryz.f8 R [dD (.sl Aa) a, dI i] [] K = (G9 a i).bind fun r => K (dI r) [] := by
  simp only [G9, bC, bI, bN, bE, bA, bS, bO, bM]
  simp (disch := refine sI ?_ <;> (repeat' refine sA ?_ ?_) <;> intro _ <;> kernel_rfl) only [Kq, AC (Ad1 _) (K := finK E11 Tryz.f8 0 R K)]
  kernel_rfl
def c8 : Va.Callee := brC [.d (.sl Aa), .d (.int .i64)] [⟨[.dat [] (.sl Aa), .dat [] (.int .i64)], [], Int, fun p => G9 p.1.1 p.1.2.1, fun r => (dI r, [])⟩]
theorem AaB : SoundC Tryz.prog 8 c8 := Ao (fn := Tryz.f8) (by kernel_rfl) (by kernel_rfl) (by kernel_rfl) ⟨⟨E11, ⟨⟨tabok, Am ⟨Xv, trivial⟩⟩, mixed⟩, fun p R K => U11 R p.1.1 p.1.2.1 K⟩, trivial⟩
abbrev E12 : Env := ⟨tab, lookH [], { deep := true }⟩
def HQ (a : Ae.V) : (ByteArray × Int) := (a.1, a.2.1)
theorem U12 (R : Type) (a : Ae.V) (K : AV → List Blk → Option R) : runF E12 Tryz.f45 R [dD Ae a] [] K = K (.pr (dD .str (HQ a).1) (.pr (dI (HQ a).2) .u)) [] := by
  kernel_rfl
def c45 : Va.Callee := brC [.d Ae] [⟨[.dat [] Ae], [], (ByteArray × Int), fun p => some (HQ p.1.1), fun r => (.pr (dD .str r.1) (.pr (dI r.2) .u), [])⟩]
theorem Y4 : SoundC Tryz.prog 45 c45 := Ao (fn := Tryz.f45) (by kernel_rfl) (by kernel_rfl) (by kernel_rfl) ⟨⟨E12, ⟨⟨tabok, Am trivial⟩, mixed⟩, fun p R K => U12 R p.1.1 K⟩, trivial⟩
abbrev E13 : Env := ⟨tab, lookH [(45, c45)], { deep := true, heads := [(3, { live := [0, 3, 4] })], outs := [(3, { live := [3] })] }⟩
def AhW (a : (List Ae.V)) (z_ : (Int × (List Ae.V))) : St := sT 23 [(0, dD (.sl Ae) a), (3, .ref 0), (4, dI z_.1)] [.row 95 .deep Ae z_.2]
def Ahx (a : (List Ae.V)) : (List Ae.V) → Ex × St := fun b => ((.exit 0), sT 23 [(3, .ref 0)] [.row 95 .deep Ae b])
def JS (a : (List Ae.V)) (c : Int) (d : (List Ae.V)) : Option ((Int × (List Ae.V)) ⊕ (List Ae.V)) :=
 bif (decide (c < (a.length : Int))) then
 if (0 : Int) ≤ c ∧ c < (a.length : Int) then
 if (0 : Int) ≤ c ∧ c < (d.length : Int) then
 some (.inl ((IntKind.i64.wrap (c + 1)), (d.set c.toNat ((HQ (a.getD c.toNat (Ty.zero Ae))).1, (HQ (a.getD c.toNat (Ty.zero Ae))).2, ()))))
 else none
 else none
 else
 some (.inr d)
def FH (a : (List Ae.V)) (z_ : (Int × (List Ae.V))) := JS a z_.1 z_.2
def IP (a : (List Ae.V)) (c : Int) (d : (List Ae.V)) := fix (FH a) (c, d)
theorem Afn (a : (List Ae.V)) : LpOk E13 0 3 (code Tryz.f10) [1, 1, 0, 1, 0] (AhW a) (FH a) (Ahx a) := by
  intro _
  simp only [FH, JS, mC, mI, mN, mB, mE, mM]
  kernel_rfl
def CS (a : (List Ae.V)) : Option (List Ae.V) :=
 if Ty.row Ae = true ∧ (0 : Int) ≤ (a.length : Int) ∧ (a.length : Int) ≤ (a.length : Int) ∧ ((24 : Nat) : Int) * (a.length : Int) ≤ (281474976710656 : Int) ∧ (a.length : Int) ≤ (9223372036854775807 : Int) then
 (IP a 0 (List.replicate (a.length : Int).toNat ((⟨#[]⟩ : ByteArray), 0, ()))).bind fun b =>
 some b
 else none
theorem U13 (R : Type) (a : (List Ae.V)) (K : AV → List Blk → Option R) : runF E13 Tryz.f10 R [dD (.sl Ae) a] [] K = (CS a).bind fun r => K (.ref 0) [.row 95 .deep Ae r] := by
  simp only [CS, bC, bI, bN, bE, bA, bS, bO, bM]
  simp (disch := refine sI ?_ <;> (repeat' refine sA ?_ ?_) <;> intro _ <;> kernel_rfl) only [IP, AC (Afn _) (K := finK E13 Tryz.f10 0 R K)]
  kernel_rfl
def c10 : Va.Callee := brC [.d (.sl Ae)] [⟨[.dat [] (.sl Ae)], [], (List Ae.V), fun p => CS p.1.1, fun r => (.ref 0, [.row 95 .deep Ae r])⟩]
theorem YL : SoundC Tryz.prog 10 c10 := Ao (fn := Tryz.f10) (by kernel_rfl) (by kernel_rfl) (by kernel_rfl) ⟨⟨E13, ⟨⟨tabok, Am ⟨Y4, trivial⟩⟩, mixed⟩, fun p R K => U13 R p.1.1 K⟩, trivial⟩
abbrev E14 : Env := ⟨tab, lookH [], { deep := true, heads := [(3, { live := [0, 3, 4] })], outs := [(3, { live := [3] })] }⟩
def Aey (a : (List Int)) (z_ : (Int × (List Int))) : St := sT 22 [(0, dD (.sl (.int .u64)) a), (3, .ref 0), (4, dI z_.1)] [.row 221 .deep (.int .u64) z_.2]
def Agb (a : (List Int)) : (List Int) → Ex × St := fun b => ((.exit 0), sT 22 [(3, .ref 0)] [.row 221 .deep (.int .u64) b])
def I1 (a : (List Int)) (c : Int) (d : (List Int)) : Option ((Int × (List Int)) ⊕ (List Int)) :=
 bif (decide (c < (a.length : Int))) then
 if (0 : Int) ≤ c ∧ c < (a.length : Int) then
 if (0 : Int) ≤ c ∧ c < (d.length : Int) then
 some (.inl ((IntKind.i64.wrap (c + 1)), (d.set c.toNat (a.getD c.toNat (Ty.zero (.int .u64))))))
 else none
 else none
 else
 some (.inr d)
def DO (a : (List Int)) (z_ : (Int × (List Int))) := I1 a z_.1 z_.2
def HM (a : (List Int)) (c : Int) (d : (List Int)) := fix (DO a) (c, d)
theorem AgT (a : (List Int)) : LpOk E14 0 3 (code Tryz.f231) [1, 1, 0, 1, 0] (Aey a) (DO a) (Agb a) := by
  intro _
  simp only [DO, I1, mC, mI, mN, mB, mE, mM]
  kernel_rfl
def C6 (a : (List Int)) : Option (List Int) :=
 if Ty.row (.int .u64) = true ∧ (0 : Int) ≤ (a.length : Int) ∧ (a.length : Int) ≤ (a.length : Int) ∧ ((8 : Nat) : Int) * (a.length : Int) ≤ (281474976710656 : Int) ∧ (a.length : Int) ≤ (9223372036854775807 : Int) then
 (HM a 0 (List.replicate (a.length : Int).toNat 0)).bind fun b =>
 some b
 else none
theorem U14 (R : Type) (a : (List Int)) (K : AV → List Blk → Option R) : runF E14 Tryz.f231 R [dD (.sl (.int .u64)) a] [] K = (C6 a).bind fun r => K (.ref 0) [.row 221 .deep (.int .u64) r] := by
  simp only [C6, bC, bI, bN, bE, bA, bS, bO, bM]
  simp (disch := refine sI ?_ <;> (repeat' refine sA ?_ ?_) <;> intro _ <;> kernel_rfl) only [HM, AC (AgT _) (K := finK E14 Tryz.f231 0 R K)]
  kernel_rfl
def c231 : Va.Callee := brC [.d (.sl (.int .u64))] [⟨[.dat [] (.sl (.int .u64))], [], (List Int), fun p => C6 p.1.1, fun r => (.ref 0, [.row 221 .deep (.int .u64) r])⟩]
theorem UV : SoundC Tryz.prog 231 c231 := Ao (fn := Tryz.f231) (by kernel_rfl) (by kernel_rfl) (by kernel_rfl) ⟨⟨E14, ⟨⟨tabok, Am trivial⟩, mixed⟩, fun p R K => U14 R p.1.1 K⟩, trivial⟩
abbrev E15 : Env := ⟨tab, lookH [(231, c231)], { deep := true }⟩
def I2 (a : Aj.V) : Option (Int × (List Int)) :=
 (C6 a.2.1).bind fun b =>
 some (a.1, b)
theorem U15 (R : Type) (a : Aj.V) (K : AV → List Blk → Option R) : runF E15 Tryz.f201 R [dD Aj a] [] K = (I2 a).bind fun r => K (.pr (dI r.1) (.pr (.ref 0) .u)) [.row 221 .deep (.int .u64) r.2] := by
  simp only [I2, bC, bI, bN, bE, bA, bS, bO, bM]
  kernel_rfl
def c201 : Va.Callee := brC [.d Aj] [⟨[.dat [] Aj], [], (Int × (List Int)), fun p => I2 p.1.1, fun r => (.pr (dI r.1) (.pr (.ref 0) .u), [.row 221 .deep (.int .u64) r.2])⟩]
theorem Ve : SoundC Tryz.prog 201 c201 := Ao (fn := Tryz.f201) (by kernel_rfl) (by kernel_rfl) (by kernel_rfl) ⟨⟨E15, ⟨⟨tabok, Am ⟨UV, trivial⟩⟩, mixed⟩, fun p R K => U15 R p.1.1 K⟩, trivial⟩
end
end Go.Proofs.X
namespace Go.Proofs.X
open Go Go.Va
set_option maxRecDepth 100000
noncomputable section
abbrev E16 : Env := ⟨tab, lookH [], { deep := true, heads := [(3, { live := [0, 3, 4] })], outs := [(3, { live := [3] })] }⟩
def AdM (a : (List Int)) (z_ : (Int × (List Int))) : St := sT 22 [(0, dD (.sl (.int .i64)) a), (3, .ref 0), (4, dI z_.1)] [.row 2 .deep (.int .i64) z_.2]
def Adz (a : (List Int)) : (List Int) → Ex × St := fun b => ((.exit 0), sT 22 [(3, .ref 0)] [.row 2 .deep (.int .i64) b])
def Jn (a : (List Int)) (c : Int) (d : (List Int)) : Option ((Int × (List Int)) ⊕ (List Int)) :=
 bif (decide (c < (a.length : Int))) then
 if (0 : Int) ≤ c ∧ c < (a.length : Int) then
 if (0 : Int) ≤ c ∧ c < (d.length : Int) then
 some (.inl ((IntKind.i64.wrap (c + 1)), (d.set c.toNat (a.getD c.toNat (Ty.zero (.int .i64))))))
 else none
 else none
 else
 some (.inr d)
def El (a : (List Int)) (z_ : (Int × (List Int))) := Jn a z_.1 z_.2
def Iu (a : (List Int)) (c : Int) (d : (List Int)) := fix (El a) (c, d)
theorem AdY (a : (List Int)) : LpOk E16 0 3 (code Tryz.f115) [1, 1, 0, 1, 0] (AdM a) (El a) (Adz a) := by
  intro _
  simp only [El, Jn, mC, mI, mN, mB, mE, mM]
  kernel_rfl
def DI (a : (List Int)) : Option (List Int) :=
 if Ty.row (.int .i64) = true ∧ (0 : Int) ≤ (a.length : Int) ∧ (a.length : Int) ≤ (a.length : Int) ∧ ((8 : Nat) : Int) * (a.length : Int) ≤ (281474976710656 : Int) ∧ (a.length : Int) ≤ (9223372036854775807 : Int) then
 (Iu a 0 (List.replicate (a.length : Int).toNat 0)).bind fun b =>
 some b
 else none
theorem U16 (R : Type) (a : (List Int)) (K : AV → List Blk → Option R) : runF E16 Tryz.f115 R [dD (.sl (.int .i64)) a] [] K = (DI a).bind fun r => K (.ref 0) [.row 2 .deep (.int .i64) r] := by
  simp only [DI, bC, bI, bN, bE, bA, bS, bO, bM]
  simp (disch := refine sI ?_ <;> (repeat' refine sA ?_ ?_) <;> intro _ <;> kernel_rfl) only [Iu, AC (AdY _) (K := finK E16 Tryz.f115 0 R K)]
  kernel_rfl
def c115 : Va.Callee := brC [.d (.sl (.int .i64))] [⟨[.dat [] (.sl (.int .i64))], [], (List Int), fun p => DI p.1.1, fun r => (.ref 0, [.row 2 .deep (.int .i64) r])⟩]
theorem V3 : SoundC Tryz.prog 115 c115 := Ao (fn := Tryz.f115) (by kernel_rfl) (by kernel_rfl) (by kernel_rfl) ⟨⟨E16, ⟨⟨tabok, Am trivial⟩, mixed⟩, fun p R K => U16 R p.1.1 K⟩, trivial⟩
abbrev E17 : Env := ⟨tab, lookH [(115, c115), (201, c201)], { deep := true }⟩
def GL (a : Ad.V) : Option (Int × Int × Int × Int × Int × (List Int) × (List Int)) :=
 (I2 a.2.2.2.2.1).bind fun b =>
 (DI a.2.2.2.2.2.1).bind fun c =>
 some (a.1, a.2.1, a.2.2.1, a.2.2.2.1, b.1, b.2, c)
theorem U17 (R : Type) (a : Ad.V) (K : AV → List Blk → Option R) : runF E17 Tryz.f166 R [dD Ad a] [] K = (GL a).bind fun r => K (.pr (dI r.1) (.pr (dI r.2.1) (.pr (dI r.2.2.1) (.pr (dI r.2.2.2.1) (.pr (.pr (dI r.2.2.2.2.1) (.pr (.ref 0) .u)) (.pr (.ref 1) .u)))))) [.row 221 .deep (.int .u64) r.2.2.2.2.2.1, .row 2 .deep (.int .i64) r.2.2.2.2.2.2] := by
  simp only [GL, bC, bI, bN, bE, bA, bS, bO, bM]
  kernel_rfl
def c166 : Va.Callee := brC [.d Ad] [⟨[.dat [] Ad], [], (Int × Int × Int × Int × Int × (List Int) × (List Int)), fun p => GL p.1.1, fun r => (.pr (dI r.1) (.pr (dI r.2.1) (.pr (dI r.2.2.1) (.pr (dI r.2.2.2.1) (.pr (.pr (dI r.2.2.2.2.1) (.pr (.ref 0) .u)) (.pr (.ref 1) .u))))), [.row 221 .deep (.int .u64) r.2.2.2.2.2.1, .row 2 .deep (.int .i64) r.2.2.2.2.2.2])⟩]
theorem VL : SoundC Tryz.prog 166 c166 := Ao (fn := Tryz.f166) (by kernel_rfl) (by kernel_rfl) (by kernel_rfl) ⟨⟨E17, ⟨⟨tabok, Am ⟨V3, Ve, trivial⟩⟩, mixed⟩, fun p R K => U17 R p.1.1 K⟩, trivial⟩
abbrev E18 : Env := ⟨tab, lookH [(166, c166)], { deep := true, heads := [(3, { live := [0, 3, 4] })], outs := [(3, { live := [3] })] }⟩
def Afp (a : (List Ad.V)) (z_ : (Int × (List Ad.V))) : St := sT 23 [(0, dD (.sl Ad) a), (3, .ref 0), (4, dI z_.1)] [.row 177 .deep Ad z_.2]
def Aip (a : (List Ad.V)) : (List Ad.V) → Ex × St := fun b => ((.exit 0), sT 23 [(3, .ref 0)] [.row 177 .deep Ad b])
def Jg (a : (List Ad.V)) (c : Int) (d : (List Ad.V)) : Option ((Int × (List Ad.V)) ⊕ (List Ad.V)) :=
 bif (decide (c < (a.length : Int))) then
 if (0 : Int) ≤ c ∧ c < (a.length : Int) then
 (GL (a.getD c.toNat (Ty.zero Ad))).bind fun e =>
 if (0 : Int) ≤ c ∧ c < (d.length : Int) then
 some (.inl ((IntKind.i64.wrap (c + 1)), (d.set c.toNat (e.1, e.2.1, e.2.2.1, e.2.2.2.1, (e.2.2.2.2.1, e.2.2.2.2.2.1, ()), e.2.2.2.2.2.2, ()))))
 else none
 else none
 else
 some (.inr d)
def Em (a : (List Ad.V)) (z_ : (Int × (List Ad.V))) := Jg a z_.1 z_.2
def Iw (a : (List Ad.V)) (c : Int) (d : (List Ad.V)) := fix (Em a) (c, d)
theorem Afg (a : (List Ad.V)) : LpOk E18 0 3 (code Tryz.f114) [1, 1, 0, 1, 0] (Afp a) (Em a) (Aip a) := by
  intro _
  simp only [Em, Jg, mC, mI, mN, mB, mE, mM]
  kernel_rfl
def FB (a : (List Ad.V)) : Option (List Ad.V) :=
 if Ty.row Ad = true ∧ (0 : Int) ≤ (a.length : Int) ∧ (a.length : Int) ≤ (a.length : Int) ∧ ((88 : Nat) : Int) * (a.length : Int) ≤ (281474976710656 : Int) ∧ (a.length : Int) ≤ (9223372036854775807 : Int) then
 (Iw a 0 (List.replicate (a.length : Int).toNat (0, 0, 0, 0, (0, ([] : List Int), ()), ([] : List Int), ()))).bind fun b =>
 some b
 else none
theorem U18 (R : Type) (a : (List Ad.V)) (K : AV → List Blk → Option R) : runF E18 Tryz.f114 R [dD (.sl Ad) a] [] K = (FB a).bind fun r => K (.ref 0) [.row 177 .deep Ad r] := by
  simp only [FB, bC, bI, bN, bE, bA, bS, bO, bM]
  simp (disch := refine sI ?_ <;> (repeat' refine sA ?_ ?_) <;> intro _ <;> kernel_rfl) only [Iw, AC (Afg _) (K := finK E18 Tryz.f114 0 R K)]
  kernel_rfl
def c114 : Va.Callee := brC [.d (.sl Ad)] [⟨[.dat [] (.sl Ad)], [], (List Ad.V), fun p => FB p.1.1, fun r => (.ref 0, [.row 177 .deep Ad r])⟩]
theorem VI : SoundC Tryz.prog 114 c114 := Ao (fn := Tryz.f114) (by kernel_rfl) (by kernel_rfl) (by kernel_rfl) ⟨⟨E18, ⟨⟨tabok, Am ⟨VL, trivial⟩⟩, mixed⟩, fun p R K => U18 R p.1.1 K⟩, trivial⟩
abbrev E19 : Env := ⟨tab, lookH [(114, c114)], { deep := true }⟩
def ET (a : Ai.V) : Option (List Ad.V) :=
 (FB a.1).bind fun b =>
 some b
theorem U19 (R : Type) (a : Ai.V) (K : AV → List Blk → Option R) : runF E19 Tryz.f68 R [dD Ai a] [] K = (ET a).bind fun r => K (.pr (.ref 0) .u) [.row 177 .deep Ad r] := by
  simp only [ET, bC, bI, bN, bE, bA, bS, bO, bM]
  kernel_rfl
def c68 : Va.Callee := brC [.d Ai] [⟨[.dat [] Ai], [], (List Ad.V), fun p => ET p.1.1, fun r => (.pr (.ref 0) .u, [.row 177 .deep Ad r])⟩]
theorem SZ : SoundC Tryz.prog 68 c68 := Ao (fn := Tryz.f68) (by kernel_rfl) (by kernel_rfl) (by kernel_rfl) ⟨⟨E19, ⟨⟨tabok, Am ⟨VI, trivial⟩⟩, mixed⟩, fun p R K => U19 R p.1.1 K⟩, trivial⟩
abbrev E20 : Env := ⟨tab, lookH [(68, c68)], { deep := true }⟩
def Eh (a : Af.V) : Option (Int × Bool × (List Ad.V) × (List Ad.V)) :=
 (ET a.2.2.1).bind fun b =>
 (ET a.2.2.2.1).bind fun c =>
 some (a.1, a.2.1, b, c)
theorem U20 (R : Type) (a : Af.V) (K : AV → List Blk → Option R) : runF E20 Tryz.f24 R [dD Af a] [] K = (Eh a).bind fun r => K (.pr (dI r.1) (.pr (dB r.2.1) (.pr (.pr (.ref 0) .u) (.pr (.pr (.ref 1) .u) .u)))) [.row 177 .deep Ad r.2.2.1, .row 177 .deep Ad r.2.2.2] := by
  simp only [Eh, bC, bI, bN, bE, bA, bS, bO, bM]
  kernel_rfl
def c24 : Va.Callee := brC [.d Af] [⟨[.dat [] Af], [], (Int × Bool × (List Ad.V) × (List Ad.V)), fun p => Eh p.1.1, fun r => (.pr (dI r.1) (.pr (dB r.2.1) (.pr (.pr (.ref 0) .u) (.pr (.pr (.ref 1) .u) .u))), [.row 177 .deep Ad r.2.2.1, .row 177 .deep Ad r.2.2.2])⟩]
theorem XX : SoundC Tryz.prog 24 c24 := Ao (fn := Tryz.f24) (by kernel_rfl) (by kernel_rfl) (by kernel_rfl) ⟨⟨E20, ⟨⟨tabok, Am ⟨SZ, trivial⟩⟩, mixed⟩, fun p R K => U20 R p.1.1 K⟩, trivial⟩
abbrev E21 : Env := ⟨tab, lookH [(24, c24)], { deep := true, heads := [(3, { live := [0, 3, 4] })], outs := [(3, { live := [3] })] }⟩
def AeR (a : (List Af.V)) (z_ : (Int × (List Af.V))) : St := sT 23 [(0, dD (.sl Af) a), (3, .ref 0), (4, dI z_.1)] [.row 60 .deep Af z_.2]
def Air (a : (List Af.V)) : (List Af.V) → Ex × St := fun b => ((.exit 0), sT 23 [(3, .ref 0)] [.row 60 .deep Af b])
def IC (a : (List Af.V)) (c : Int) (d : (List Af.V)) : Option ((Int × (List Af.V)) ⊕ (List Af.V)) :=
 bif (decide (c < (a.length : Int))) then
 if (0 : Int) ≤ c ∧ c < (a.length : Int) then
 (Eh (a.getD c.toNat (Ty.zero Af))).bind fun e =>
 if (0 : Int) ≤ c ∧ c < (d.length : Int) then
 some (.inl ((IntKind.i64.wrap (c + 1)), (d.set c.toNat (e.1, e.2.1, (e.2.2.1, ()), (e.2.2.2, ()), ()))))
 else none
 else none
 else
 some (.inr d)
def Dc (a : (List Af.V)) (z_ : (Int × (List Af.V))) := IC a z_.1 z_.2
def Hl (a : (List Af.V)) (c : Int) (d : (List Af.V)) := fix (Dc a) (c, d)
theorem AfS (a : (List Af.V)) : LpOk E21 0 3 (code Tryz.f11) [1, 1, 0, 1, 0] (AeR a) (Dc a) (Air a) := by
  intro _
  simp only [Dc, IC, mC, mI, mN, mB, mE, mM]
  kernel_rfl
def Bl (a : (List Af.V)) : Option (List Af.V) :=
 if Ty.row Af = true ∧ (0 : Int) ≤ (a.length : Int) ∧ (a.length : Int) ≤ (a.length : Int) ∧ ((64 : Nat) : Int) * (a.length : Int) ≤ (281474976710656 : Int) ∧ (a.length : Int) ≤ (9223372036854775807 : Int) then
 (Hl a 0 (List.replicate (a.length : Int).toNat (0, false, (([] : List Ad.V), ()), (([] : List Ad.V), ()), ()))).bind fun b =>
 some b
 else none
theorem U21 (R : Type) (a : (List Af.V)) (K : AV → List Blk → Option R) : runF E21 Tryz.f11 R [dD (.sl Af) a] [] K = (Bl a).bind fun r => K (.ref 0) [.row 60 .deep Af r] := by
  simp only [Bl, bC, bI, bN, bE, bA, bS, bO, bM]
  simp (disch := refine sI ?_ <;> (repeat' refine sA ?_ ?_) <;> intro _ <;> kernel_rfl) only [Hl, AC (AfS _) (K := finK E21 Tryz.f11 0 R K)]
  kernel_rfl
def c11 : Va.Callee := brC [.d (.sl Af)] [⟨[.dat [] (.sl Af)], [], (List Af.V), fun p => Bl p.1.1, fun r => (.ref 0, [.row 60 .deep Af r])⟩]
theorem Za : SoundC Tryz.prog 11 c11 := Ao (fn := Tryz.f11) (by kernel_rfl) (by kernel_rfl) (by kernel_rfl) ⟨⟨E21, ⟨⟨tabok, Am ⟨XX, trivial⟩⟩, mixed⟩, fun p R K => U21 R p.1.1 K⟩, trivial⟩
abbrev E22 : Env := ⟨tab, lookH [(68, c68)], { deep := true }⟩
def GO (a : Aa.V) : Option (Int × Int × Int × Int × Int × (List Ad.V)) :=
 (ET a.2.2.2.2.2.1).bind fun b =>
 some (a.1, a.2.1, a.2.2.1, a.2.2.2.1, a.2.2.2.2.1, b)
theorem U22 (R : Type) (a : Aa.V) (K : AV → List Blk → Option R) : runF E22 Tryz.f46 R [dD Aa a] [] K = (GO a).bind fun r => K (.pr (dI r.1) (.pr (dI r.2.1) (.pr (dI r.2.2.1) (.pr (dI r.2.2.2.1) (.pr (dI r.2.2.2.2.1) (.pr (.pr (.ref 0) .u) .u)))))) [.row 177 .deep Ad r.2.2.2.2.2] := by
  simp only [GO, bC, bI, bN, bE, bA, bS, bO, bM]
  kernel_rfl
def c46 : Va.Callee := brC [.d Aa] [⟨[.dat [] Aa], [], (Int × Int × Int × Int × Int × (List Ad.V)), fun p => GO p.1.1, fun r => (.pr (dI r.1) (.pr (dI r.2.1) (.pr (dI r.2.2.1) (.pr (dI r.2.2.2.1) (.pr (dI r.2.2.2.2.1) (.pr (.pr (.ref 0) .u) .u))))), [.row 177 .deep Ad r.2.2.2.2.2])⟩]
theorem XY : SoundC Tryz.prog 46 c46 := Ao (fn := Tryz.f46) (by kernel_rfl) (by kernel_rfl) (by kernel_rfl) ⟨⟨E22, ⟨⟨tabok, Am ⟨SZ, trivial⟩⟩, mixed⟩, fun p R K => U22 R p.1.1 K⟩, trivial⟩
abbrev E23 : Env := ⟨tab, lookH [(46, c46)], { deep := true, heads := [(3, { live := [0, 3, 4] })], outs := [(3, { live := [3] })] }⟩
def Aew (a : (List Aa.V)) (z_ : (Int × (List Aa.V))) : St := sT 23 [(0, dD (.sl Aa) a), (3, .ref 0), (4, dI z_.1)] [.row 92 .deep Aa z_.2]
def AeV (a : (List Aa.V)) : (List Aa.V) → Ex × St := fun b => ((.exit 0), sT 23 [(3, .ref 0)] [.row 92 .deep Aa b])
def Jf (a : (List Aa.V)) (c : Int) (d : (List Aa.V)) : Option ((Int × (List Aa.V)) ⊕ (List Aa.V)) :=
 bif (decide (c < (a.length : Int))) then
 if (0 : Int) ≤ c ∧ c < (a.length : Int) then
 (GO (a.getD c.toNat (Ty.zero Aa))).bind fun e =>
 if (0 : Int) ≤ c ∧ c < (d.length : Int) then
 some (.inl ((IntKind.i64.wrap (c + 1)), (d.set c.toNat (e.1, e.2.1, e.2.2.1, e.2.2.2.1, e.2.2.2.2.1, (e.2.2.2.2.2, ()), ()))))
 else none
 else none
 else
 some (.inr d)
def EG (a : (List Aa.V)) (z_ : (Int × (List Aa.V))) := Jf a z_.1 z_.2
def Iy (a : (List Aa.V)) (c : Int) (d : (List Aa.V)) := fix (EG a) (c, d)
theorem Ahm (a : (List Aa.V)) : LpOk E23 0 3 (code Tryz.f12) [1, 1, 0, 1, 0] (Aew a) (EG a) (AeV a) := by
  intro _
  simp only [EG, Jf, mC, mI, mN, mB, mE, mM]
  kernel_rfl
def B9 (a : (List Aa.V)) : Option (List Aa.V) :=
 if Ty.row Aa = true ∧ (0 : Int) ≤ (a.length : Int) ∧ (a.length : Int) ≤ (a.length : Int) ∧ ((64 : Nat) : Int) * (a.length : Int) ≤ (281474976710656 : Int) ∧ (a.length : Int) ≤ (9223372036854775807 : Int) then
 (Iy a 0 (List.replicate (a.length : Int).toNat (0, 0, 0, 0, 0, (([] : List Ad.V), ()), ()))).bind fun b =>
 some b
 else none
theorem U23 (R : Type) (a : (List Aa.V)) (K : AV → List Blk → Option R) : runF E23 Tryz.f12 R [dD (.sl Aa) a] [] K = (B9 a).bind fun r => K (.ref 0) [.row 92 .deep Aa r] := by
  simp only [B9, bC, bI, bN, bE, bA, bS, bO, bM]
  simp (disch := refine sI ?_ <;> (repeat' refine sA ?_ ?_) <;> intro _ <;> kernel_rfl) only [Iy, AC (Ahm _) (K := finK E23 Tryz.f12 0 R K)]
  kernel_rfl
def c12 : Va.Callee := brC [.d (.sl Aa)] [⟨[.dat [] (.sl Aa)], [], (List Aa.V), fun p => B9 p.1.1, fun r => (.ref 0, [.row 92 .deep Aa r])⟩]
theorem X4 : SoundC Tryz.prog 12 c12 := Ao (fn := Tryz.f12) (by kernel_rfl) (by kernel_rfl) (by kernel_rfl) ⟨⟨E23, ⟨⟨tabok, Am ⟨XY, trivial⟩⟩, mixed⟩, fun p R K => U23 R p.1.1 K⟩, trivial⟩
end
end Go.Proofs.X
namespace Go.Proofs.X
open Go Go.Va
set_option maxRecDepth 100000
noncomputable section
abbrev E24 : Env := ⟨tab, lookH [], { deep := true }⟩
def GP (a : Int) : Bool := ((decide (a ≥ 48)) && (decide (a ≤ 57)))
theorem U24 (R : Type) (a : Int) (K : AV → List Blk → Option R) : runF E24 Tryz.f198 R [dD (.int .u8) a] [] K = K (dB (GP a)) [] := by
  have h : runF E24 Tryz.f198 R [dD (.int .u8) a] [] K =
 bif (decide (a ≥ 48)) then
 K (dB (decide (a ≤ 57))) []
 else
 K (dB false) [] := by kernel_rfl
  rw [h]
  unfold GP
  cases h1 : (decide (a ≥ 48))
  · first | rfl | kernel_rfl
  · first | rfl | kernel_rfl
def c198 : Va.Callee := brC [.d (.int .u8)] [⟨[.dat [] (.int .u8)], [], Bool, fun p => some (GP p.1.1), fun r => (dB r, [])⟩]
theorem Wl : SoundC Tryz.prog 198 c198 := Ao (fn := Tryz.f198) (by kernel_rfl) (by kernel_rfl) (by kernel_rfl) ⟨⟨E24, ⟨⟨tabok, Am trivial⟩, mixed⟩, fun p R K => U24 R p.1.1 K⟩, trivial⟩
abbrev E25 : Env := ⟨tab, lookH [(198, c198)], { deep := true, heads := [(4, { live := [0, 3] })], outs := [(4, { live := [2] })], joins := [(2, { live := [0, 16] }), (7, { live := [0, 3, 39] })], ents := [(2, [0]), (7, [0, 3])] }⟩
def Age (a : ByteArray) (z_ : Int) : St := sT 40 [(0, dD .str a), (3, dI z_)] []
def Ado (a : ByteArray) : (Unit ⊕ Unit) → Ex × St := Sum.elim (fun b => (.ret, sT 40 [(2, dB false)] [])) (fun c => ((.exit 0), sT 40 [] []))
def Agh (a : ByteArray) (d : Int) : St := sT 40 [(0, dD .str a), (3, dI d)] []
def AhQ (a : ByteArray) (d : Int) : Bool → Ex × St := fun e => (.normal, sT 40 [(0, dD .str a), (3, dI d), (39, dB e)] [])
def FR (a : ByteArray) (d : Int) : Option Bool :=
 if (0 : Int) ≤ d ∧ d < (a.size : Int) then
 bif (!(GP (bgetI a d))) then
 if (0 : Int) ≤ d ∧ d < (a.size : Int) then
 bif (decide ((bgetI a d) < 97)) then
 some true
 else
 if (0 : Int) ≤ d ∧ d < (a.size : Int) then
 some (decide ((bgetI a d) > 122))
 else none
 else none
 else
 some false
 else none
theorem Ac3 (a : ByteArray) (d : Int) : JnOk E25 0 7 (sub (code Tryz.f162) [1, 1, 0, 1, 0, 0]) [1, 0, 0, 0] (Agh a d) (FR a d) (AhQ a d) := by
  unfold JnOk
  simp only [FR, mC, mI, mN, mB, mE, mM]
  kernel_rfl
def Gu (a : ByteArray) (d : Int) : Option (Int ⊕ (Unit ⊕ Unit)) :=
 bif (decide (d < (a.size : Int))) then
 (FR a d).bind fun e =>
 bif e then
 some (.inr (.inl ()))
 else
 some (.inl (IntKind.i64.wrap (d + 1)))
 else
 some (.inr (.inr ()))
def D7 (a : ByteArray) (z_ : Int) := Gu a z_
def JD (a : ByteArray) (d : Int) := fix (D7 a) d
theorem Aed (a : ByteArray) : LpOk E25 0 4 (code Tryz.f162) [1, 1, 0, 1, 0] (Age a) (D7 a) (Ado a) := by
  intro _
  simp only [D7, Gu, mC, mI, mN, mB, mE, mM]
  simp (disch := refine sI ?_ <;> (repeat' refine sA ?_ ?_) <;> intro _ <;> kernel_rfl) only [AX (Ac3 _ _) (K := stepK 0 (E25.hd 4) (E25.ot 4))]
  kernel_rfl
def Afe (a : ByteArray) : St := sT 40 [(0, dD .str a)] []
def Adh (a : ByteArray) : Bool → Ex × St := fun g => (.normal, sT 40 [(0, dD .str a), (16, dB g)] [])
def HV (a : ByteArray) : Option Bool :=
 bif (decide ((a.size : Int) < 1)) then
 some true
 else
 bif (decide ((a.size : Int) > 12)) then
 some true
 else
 if (0 : Int) ≤ (0 : Int) ∧ (0 : Int) < (a.size : Int) then
 some (GP (bgetI a 0))
 else none
theorem AeT (a : ByteArray) : JnOk E25 0 2 (code Tryz.f162) [1, 0, 0] (Afe a) (HV a) (Adh a) := by
  unfold JnOk
  simp only [HV, mC, mI, mN, mB, mE, mM]
  kernel_rfl
def Gy (a : ByteArray) : Option Bool :=
 (HV a).bind fun g =>
 bif g then
 some false
 else
 (JD a 0).bind (Sum.elim (fun b =>
 some false) (fun c =>
 some true))
theorem U25 (R : Type) (a : ByteArray) (K : AV → List Blk → Option R) : runF E25 Tryz.f162 R [dD .str a] [] K = (Gy a).bind fun r => K (dB r) [] := by
  simp only [Gy, bC, bI, bN, bE, bA, bS, bO, bM]
  simp (disch := refine sI ?_ <;> (repeat' refine sA ?_ ?_) <;> intro _ <;> kernel_rfl) only [AX (AeT _) (K := finK E25 Tryz.f162 0 R K), JD, AC (Aed _) (K := finK E25 Tryz.f162 0 R K)]
  kernel_rfl
def c162 : Va.Callee := brC [.d .str] [⟨[.dat [] .str], [], Bool, fun p => Gy p.1.1, fun r => (dB r, [])⟩]
theorem Wb : SoundC Tryz.prog 162 c162 := Ao (fn := Tryz.f162) (by kernel_rfl) (by kernel_rfl) (by kernel_rfl) ⟨⟨E25, ⟨⟨tabok, Am ⟨Wl, trivial⟩⟩, mixed⟩, fun p R K => U25 R p.1.1 K⟩, trivial⟩
abbrev E26 : Env := ⟨tab, lookH [], { deep := true }⟩
def AA (a : Int) (b : Int) (c : Int) : Bool := ((decide (a ≥ b)) && (decide (a ≤ c)))
theorem U26 (R : Type) (a : Int) (b : Int) (c : Int) (K : AV → List Blk → Option R) : runF E26 Tryz.f106 R [dI a, dI b, dI c] [] K = K (dB (AA a b c)) [] := by
  have h : runF E26 Tryz.f106 R [dI a, dI b, dI c] [] K =
 bif (decide (a ≥ b)) then
 K (dB (decide (a ≤ c))) []
 else
 K (dB false) [] := by kernel_rfl
  rw [h]
  unfold AA
  cases h1 : (decide (a ≥ b))
  · first | rfl | kernel_rfl
  · first | rfl | kernel_rfl
def c106 : Va.Callee := brC [.d (.int .i64), .d (.int .i64), .d (.int .i64)] [⟨[.dat [] (.int .i64), .dat [] (.int .i64), .dat [] (.int .i64)], [], Bool, fun p => some (AA p.1.1 p.1.2.1 p.1.2.2.1), fun r => (dB r, [])⟩]
theorem IF : SoundC Tryz.prog 106 c106 := Ao (fn := Tryz.f106) (by kernel_rfl) (by kernel_rfl) (by kernel_rfl) ⟨⟨E26, ⟨⟨tabok, Am trivial⟩, mixed⟩, fun p R K => U26 R p.1.1 p.1.2.1 p.1.2.2.1 K⟩, trivial⟩
abbrev E27 : Env := ⟨tab, lookH [(106, c106), (162, c162)], { deep := true, heads := [(5, { live := [0, 3, 4] }), (10, { live := [0, 3, 4, 5] })], outs := [(5, { live := [2, 3] }), (10, { live := [0, 2, 3, 4] })], joins := [(8, { live := [0, 3, 4, 30] })], ents := [(8, [0, 3, 4])] }⟩
def Ahr (a : (List Ae.V)) (z_ : (Int × Int)) : St := sT 56 [(0, dD (.sl Ae) a), (3, dI z_.1), (4, dI z_.2)] []
def AhL (a : (List Ae.V)) : (Int ⊕ Int) → Ex × St := Sum.elim (fun b => (.ret, sT 56 [(2, dB false), (3, dI b)] [])) (fun c => ((.exit 0), sT 56 [(3, dI c)] []))
def Agv (a : (List Ae.V)) (d : Int) (e : Int) (z_ : Int) : St := sT 56 [(0, dD (.sl Ae) a), (3, dI d), (4, dI e), (5, dI z_)] []
def Afq (a : (List Ae.V)) (d : Int) (e : Int) : (Unit ⊕ Unit) → Ex × St := Sum.elim (fun g => (.ret, sT 56 [(0, dD (.sl Ae) a), (2, dB false), (3, dI d), (4, dI e)] [])) (fun i => ((.exit 2), sT 56 [(0, dD (.sl Ae) a), (3, dI d), (4, dI e)] []))
def Fs (a : (List Ae.V)) (d : Int) (e : Int) (j : Int) : Option (Int ⊕ (Unit ⊕ Unit)) :=
 bif (decide (j < e)) then
 if (0 : Int) ≤ j ∧ j < (a.length : Int) then
 if (0 : Int) ≤ e ∧ e < (a.length : Int) then
 bif (strEq (a.getD j.toNat (Ty.zero Ae)).1 (a.getD e.toNat (Ty.zero Ae)).1) then
 some (.inr (.inl ()))
 else
 some (.inl (IntKind.i64.wrap (j + 1)))
 else none
 else none
 else
 some (.inr (.inr ()))
def Dt (a : (List Ae.V)) (d : Int) (e : Int) (z_ : Int) := Fs a d e z_
def IV (a : (List Ae.V)) (d : Int) (e : Int) (j : Int) := fix (Dt a d e) j
theorem Adq (a : (List Ae.V)) (d : Int) (e : Int) : LpOk E27 0 10 (sub (code Tryz.f105) [1, 1, 1, 0, 1, 0, 0]) [1, 0, 0, 1, 0, 1, 0] (Agv a d e) (Dt a d e) (Afq a d e) := by
  intro _
  simp only [Dt, Fs, mC, mI, mN, mB, mE, mM]
  kernel_rfl
def AhI (a : (List Ae.V)) (d : Int) (e : Int) : St := sT 56 [(0, dD (.sl Ae) a), (3, dI d), (4, dI e)] []
def Ade (a : (List Ae.V)) (d : Int) (e : Int) : Bool → Ex × St := fun k => (.normal, sT 56 [(0, dD (.sl Ae) a), (3, dI d), (4, dI e), (30, dB k)] [])
def Hv (a : (List Ae.V)) (d : Int) (e : Int) : Option Bool :=
 if (0 : Int) ≤ e ∧ e < (a.length : Int) then
 (Gy (a.getD e.toNat (Ty.zero Ae)).1).bind fun l =>
 bif (!l) then
 some true
 else
 if (0 : Int) ≤ e ∧ e < (a.length : Int) then
 some (!(AA (a.getD e.toNat (Ty.zero Ae)).2.1 1 4096))
 else none
 else none
theorem AeX (a : (List Ae.V)) (d : Int) (e : Int) : JnOk E27 0 8 (sub (code Tryz.f105) [1, 1, 1, 0, 1, 0, 0]) [1, 0, 0, 0, 0] (AhI a d e) (Hv a d e) (Ade a d e) := by
  unfold JnOk
  simp only [Hv, mC, mI, mN, mB, mE, mM]
  kernel_rfl
def FE (a : (List Ae.V)) (d : Int) (e : Int) : Option ((Int × Int) ⊕ (Int ⊕ Int)) :=
 bif (decide (e < (a.length : Int))) then
 (Hv a d e).bind fun k =>
 bif k then
 some (.inr (.inl d))
 else
 (IV a d e 0).bind (Sum.elim (fun g =>
 some (.inr (.inl d))) (fun i =>
 if (0 : Int) ≤ e ∧ e < (a.length : Int) then
 some (.inl ((IntKind.i64.wrap (d + (a.getD e.toNat (Ty.zero Ae)).2.1)), (IntKind.i64.wrap (e + 1))))
 else none))
 else
 some (.inr (.inr d))
def Du (a : (List Ae.V)) (z_ : (Int × Int)) := FE a z_.1 z_.2
def IY (a : (List Ae.V)) (d : Int) (e : Int) := fix (Du a) (d, e)
theorem Ah6 (a : (List Ae.V)) : LpOk E27 0 5 (code Tryz.f105) [1, 1, 1, 0, 1, 0] (Ahr a) (Du a) (AhL a) := by
  intro _
  simp only [Du, FE, mC, mI, mN, mB, mE, mM]
  simp (disch := refine sI ?_ <;> (repeat' refine sA ?_ ?_) <;> intro _ <;> kernel_rfl) only [AX (AeX _ _ _) (K := stepK 0 (E27.hd 5) (E27.ot 5)), IV, AC (Adq _ _ _) (K := stepK 0 (E27.hd 5) (E27.ot 5))]
  kernel_rfl
def DC (a : (List Ae.V)) : Option Bool :=
 bif (decide ((a.length : Int) > 60)) then
 some false
 else
 (IY a 0 0).bind (Sum.elim (fun b =>
 some false) (fun c =>
 some (decide (c ≤ 20000))))
theorem U27 (R : Type) (a : (List Ae.V)) (K : AV → List Blk → Option R) : runF E27 Tryz.f105 R [dD (.sl Ae) a] [] K = (DC a).bind fun r => K (dB r) [] := by
  simp only [DC, bC, bI, bN, bE, bA, bS, bO, bM]
  simp (disch := refine sI ?_ <;> (repeat' refine sA ?_ ?_) <;> intro _ <;> kernel_rfl) only [IY, AC (Ah6 _) (K := finK E27 Tryz.f105 0 R K)]
  kernel_rfl
def c105 : Va.Callee := brC [.d (.sl Ae)] [⟨[.dat [] (.sl Ae)], [], Bool, fun p => DC p.1.1, fun r => (dB r, [])⟩]
theorem NO : SoundC Tryz.prog 105 c105 := Ao (fn := Tryz.f105) (by kernel_rfl) (by kernel_rfl) (by kernel_rfl) ⟨⟨E27, ⟨⟨tabok, Am ⟨IF, Wb, trivial⟩⟩, mixed⟩, fun p R K => U27 R p.1.1 K⟩, trivial⟩
abbrev E28 : Env := ⟨tab, lookH [], { deep := true }⟩
def AG (a : Aj.V) : Bool := ((a.1 == 0) && ((a.2.1.length : Int) == 0))
theorem U28 (R : Type) (a : Aj.V) (K : AV → List Blk → Option R) : runF E28 Tryz.f228 R [dD Aj a] [] K = K (dB (AG a)) [] := by
  have h : runF E28 Tryz.f228 R [dD Aj a] [] K =
 bif (a.1 == 0) then
 K (dB ((a.2.1.length : Int) == 0)) []
 else
 K (dB false) [] := by kernel_rfl
  rw [h]
  unfold AG
  cases h1 : (a.1 == 0)
  · first | rfl | kernel_rfl
  · first | rfl | kernel_rfl
def c228 : Va.Callee := brC [.d Aj] [⟨[.dat [] Aj], [], Bool, fun p => some (AG p.1.1), fun r => (dB r, [])⟩]
theorem RD : SoundC Tryz.prog 228 c228 := Ao (fn := Tryz.f228) (by kernel_rfl) (by kernel_rfl) (by kernel_rfl) ⟨⟨E28, ⟨⟨tabok, Am trivial⟩, mixed⟩, fun p R K => U28 R p.1.1 K⟩, trivial⟩
abbrev E29 : Env := ⟨tab, lookH [(106, c106)], { deep := true }⟩
def Av (a : Int) : Bool := (AA a 4 9)
theorem U29 (R : Type) (a : Int) (K : AV → List Blk → Option R) : runF E29 Tryz.f229 R [dI a] [] K = K (dB (Av a)) [] := by
  kernel_rfl
def c229 : Va.Callee := brC [.d (.int .i64)] [⟨[.dat [] (.int .i64)], [], Bool, fun p => some (Av p.1.1), fun r => (dB r, [])⟩]
theorem Vr : SoundC Tryz.prog 229 c229 := Ao (fn := Tryz.f229) (by kernel_rfl) (by kernel_rfl) (by kernel_rfl) ⟨⟨E29, ⟨⟨tabok, Am ⟨IF, trivial⟩⟩, mixed⟩, fun p R K => U29 R p.1.1 K⟩, trivial⟩
abbrev E30 : Env := ⟨tab, lookH [], { deep := true }⟩
def Dx (a : Aj.V) (b : Int) : Option Int :=
 if (0 : Int) ≤ (IntKind.i64.wrap (Int.tdiv b 64)) ∧ (IntKind.i64.wrap (Int.tdiv b 64)) < (a.2.1.length : Int) then
 if (IntKind.u64.wrap (Int.tmod b 64)) < (0 : Int) then none else
 some (IntKind.u8.wrap (andI .u64 (shrI .u64 (a.2.1.getD (IntKind.i64.wrap (Int.tdiv b 64)).toNat (Ty.zero (.int .u64))) (IntKind.u64.wrap (Int.tmod b 64))) 1))
 else none
theorem U30 (R : Type) (a : Aj.V) (b : Int) (K : AV → List Blk → Option R) : runF E30 Tryz.f165 R [dD Aj a, dI b] [] K = (Dx a b).bind fun r => K (dD (.int .u8) r) [] := by
  simp only [Dx, bC, bI, bN, bE, bA, bS, bO, bM]
  kernel_rfl
def c165 : Va.Callee := brC [.d Aj, .d (.int .i64)] [⟨[.dat [] Aj, .dat [] (.int .i64)], [], Int, fun p => Dx p.1.1 p.1.2.1, fun r => (dD (.int .u8) r, [])⟩]
theorem Oj : SoundC Tryz.prog 165 c165 := Ao (fn := Tryz.f165) (by kernel_rfl) (by kernel_rfl) (by kernel_rfl) ⟨⟨E30, ⟨⟨tabok, Am trivial⟩, mixed⟩, fun p R K => U30 R p.1.1 p.1.2.1 K⟩, trivial⟩
abbrev E31 : Env := ⟨tab, lookH [(106, c106), (165, c165)], { deep := true, heads := [(4, { live := [1, 3] })], outs := [(4, { live := [2] })], joins := [(2, { live := [1, 17] })], ents := [(2, [1])] }⟩
def AhG (a : Aj.V) (z_ : Int) : St := sT 32 [(1, .ptr 0 0 [] 0), (3, dI z_)] [.box (dD Aj a)]
def Ad8 (a : Aj.V) : (Unit ⊕ Unit) → Ex × St := Sum.elim (fun b => (.ret, sT 32 [(2, dB false)] [])) (fun c => ((.exit 0), sT 32 [] []))
def Gq (a : Aj.V) (d : Int) : Option (Int ⊕ (Unit ⊕ Unit)) :=
 bif (decide (d < (IntKind.i64.wrap (64 * (a.2.1.length : Int))))) then
 (Dx a d).bind fun e =>
 bif (e != 0) then
 some (.inr (.inl ()))
 else
 some (.inl (IntKind.i64.wrap (d + 1)))
 else
 some (.inr (.inr ()))
def DX (a : Aj.V) (z_ : Int) := Gq a z_
def JC (a : Aj.V) (d : Int) := fix (DX a) d
theorem Ag7 (a : Aj.V) : LpOk E31 0 4 (code Tryz.f230) [1, 1, 0, 1, 0] (AhG a) (DX a) (Ad8 a) := by
  intro _
  simp only [DX, Gq, mC, mI, mN, mB, mE, mM]
  kernel_rfl
def YK (a : Aj.V) : St := sT 32 [(1, .ptr 0 0 [] 0)] [.box (dD Aj a)]
def X7 (a : Aj.V) (m0 : Bool) : Ex × St := (.normal, sT 32 [(1, .ptr 0 0 [] 0), (17, dB m0)] [.box (dD Aj a)])
theorem Adi (a : Aj.V) : jnS E31 0 2 (code Tryz.f230) [1, 0, 0] (YK a) = some (X7 a ((!(AA a.1 1 4096)) || ((a.2.1.length : Int) != (IntKind.i64.wrap (Int.tdiv (IntKind.i64.wrap (a.1 + 63)) 64))))) := by
  have h0 : jnS E31 0 2 (code Tryz.f230) [1, 0, 0] (YK a) =
 bif (!(AA a.1 1 4096)) then
 some (X7 a true)
 else
 some (X7 a ((a.2.1.length : Int) != (IntKind.i64.wrap (Int.tdiv (IntKind.i64.wrap (a.1 + 63)) 64)))) := by kernel_rfl
  rw [h0]
  cases h1 : (!(AA a.1 1 4096))
  · first | rfl | kernel_rfl
  · first | rfl | kernel_rfl
def DM (a : Aj.V) : Option Bool :=
 mkr (YK a) (
 bif ((!(AA a.1 1 4096)) || ((a.2.1.length : Int) != (IntKind.i64.wrap (Int.tdiv (IntKind.i64.wrap (a.1 + 63)) 64)))) then
 some false
 else
 (JC a a.1).bind (Sum.elim (fun b =>
 some false) (fun c =>
 some true)))
theorem U31 (R : Type) (a : Aj.V) (K : AV → List Blk → Option R) : runF E31 Tryz.f230 R [dD Aj a] [] K = (DM a).bind fun r => K (dB r) [] := by
  simp only [DM, bC, bI, bN, bE, bA, bS, bO, bM]
  simp (disch := refine sI ?_ <;> (repeat' refine sA ?_ ?_) <;> intro _ <;> kernel_rfl) only [DB (Adi _) (K := finK E31 Tryz.f230 0 R K), JC, AC (Ag7 _) (K := finK E31 Tryz.f230 0 R K)]
  kernel_rfl
def c230 : Va.Callee := brC [.d Aj] [⟨[.dat [] Aj], [], Bool, fun p => DM p.1.1, fun r => (dB r, [])⟩]
theorem Ra : SoundC Tryz.prog 230 c230 := Ao (fn := Tryz.f230) (by kernel_rfl) (by kernel_rfl) (by kernel_rfl) ⟨⟨E31, ⟨⟨tabok, Am ⟨IF, Oj, trivial⟩⟩, mixed⟩, fun p R K => U31 R p.1.1 K⟩, trivial⟩
end
end Go.Proofs.X
