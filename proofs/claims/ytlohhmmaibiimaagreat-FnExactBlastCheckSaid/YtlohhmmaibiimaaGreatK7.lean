import Derived.Test.YtlohhmmaibiimaaGreatProg
import Derived.KernelRfl
import Derived.Test.YtlohhmmaibiimaaGreatK6
set_option linter.unusedVariables false
set_option linter.unusedSimpArgs false
namespace Go.Va
theorem SoundC.ofCalls {P:Program} {f:FuncId} {fn:Func} (hf:P.funcs[f]?=some fn) (hn:(fn.name=="runtime.NumGoroutine")=false) (hb:fn.body.isNone=false) {c:Callee} (hc:CNat c)
    (h:∀args E av E',c.run (AV×List Blk) args E (fun v b=>some (v,b))=some (av,E')→E.length≤E'.length∧∀(w:World) (g:G) (vs:List Value),Heap w g E→ArgsR w g E.length args vs →
     Calls P f vs.toArray w fun e w'=>∃v g',e=.returned v∧Heap w' g' E'∧AVR w' g' E'.length av v∧StepC E.length w g w' g'):SoundC P f c where
 nat:=hc
 snd args E av E' hr:=by
  obtain⟨h1,h2⟩:=h args E av E' hr
  refine⟨h1,fun w g vs H hx o a next Q hn'=>?_⟩
  have:(callFunc f vs.toArray).run P w=.ok (.enter f vs.toArray) w:=by
   have hn1:¬fn.name="runtime.NumGoroutine":=by simpa using hn
   have hb1:¬fn.body=none:=by
    intro e; rw[e] at hb; cases hb
   simp[callFunc,hf,hn1,hb1]
  rw[this,Oper.upon_enter]
  refine(h2 w g vs H hx).mono fun e w' ⟨v,g',e1,hH,hv,hst⟩=>?_
  subst e1
  exact hn' v w' g' hH hv hst
theorem Ui {P:Program} {t:TypeId} {ti:TI} (ht:TOk P t ti) (hs:ti.isSl=true) {ad:Option Addr} {n c:Nat} {x y:Operand} (w:World) :
    (do eqGuard .eql t x y (.slice ad n c) (.slice none 0 0); binOp .eql t (.slice ad n c) (.slice none 0 0):Sem Value).run P w=.ok (.bool ad.isNone) w:=by
 have hu:=AU ht hs
 have h1:∀d,(Op.equalIn (d+1) t (.slice ad n c) (.slice none 0 0)).run P w=.ok ad.isNone w:=by
  intro d
  unfold Op.equalIn
  cases ad<;>simp[underlying,hu]
 have h2:(Op.equal t (.slice ad n c) (.slice none 0 0)).run P w=.ok ad.isNone w:=h1 (Op.maxDepth-1)
 show(do pure (.bool (←Op.equal t (.slice ad n c) (.slice none 0 0))):Sem Value).run P w=_
 rw[Sem.run_bind,h2]
 rfl
section
variable {P:Program} {en:Env}
theorem RS (he:ProgOk P en) {f:FuncId} {fn:Func} (hf:P.funcs[f]?=some fn) {R0 R2 T:Code} {id:Nat} {o3 o4:Oper} {t t2 e bytes:Nat} {u:Ty} {ti:TI}
    (hb:fn.body=some (R0.seq (((Code.region id #[o3,o4] false).seq (Code.cond (.tmp 4) (R2.seq .ret) .skip)).seq T))) (hnt:fn.ntmps=8) (hres:fn.results=#[.tmp 2])
    (h3:o3.op=.move (.tmp 0)∧o3.dst=some 3∧o3.guard=none) (h4:o4.op=.binOp .eql t (.tmp 3) (.const (.slice none 0 0)) t2∧o4.dst=some 4∧o4.guard=none)
    (ht:en.tab.get t=some ti) (hsl:ti.isSl=true) (hu:u.row=true)
    (hR0:∀xs:(Ty.sl u).V,ev en 0 R0 (Ex×St) ⟨[.dat [] (.sl u) xs,.un 0,.un 0,.un 0,.un 0,.un 0,.un 0,.un 0],[]⟩ pair2=some (.normal,⟨[.dat [] (.sl u) xs,.un 0,.zs,.un 0,.un 0,.un 0,.un 0,.un 0],[]⟩))
    (hA:∀xs:(Ty.sl u).V,ev en 0 (R2.seq .ret) (Ex×St) ⟨[.dat [] (.sl u) xs,.un 0,.zs,.dat [] (.sl u) xs,.bool true,.un 0,.un 0,.un 0],[]⟩ pair2=some (.ret,⟨[.dat [] (.sl u) xs,.un 0,.zs,.dat [] (.sl u) xs,.bool true,.un 0,.un 0,.un 0],[]⟩))
    (hT:∀xs:(Ty.sl u).V,xs.length*bytes≤140737488355328→ev en 0 T (Ex×St) ⟨[.dat [] (.sl u) xs,.un 0,.zs,.dat [] (.sl u) xs,.bool false,.un 0,.un 0,.un 0],[]⟩ pair2=some (.ret,⟨[.dat [] (.sl u) xs,.un 0,.ref 0,.dat [] (.sl u) xs,.bool false,.zs,.dat [] (.sl u) xs,.ref 0],[.row e (if u.flat then .deep else .sh []) u xs]⟩))
    {xs:(Ty.sl u).V} (hbig:xs.length*bytes≤140737488355328) (w:World) (g:G) (vs:List Value) (H:Heap w g []) (hx:ArgsR w g 0 [.dat [] (.sl u) xs] vs) :
    Calls P f vs.toArray w fun ee w'=>∃v g',ee=.returned v∧Heap w' g' [.row e (if u.flat then .deep else .sh []) u xs]∧AVR w' g' 1 (.ref 0) v∧StepC 0 w g w' g':=by
 refine calls_of_wp hf hb ?_
 have hs0:=SP H hx (n:=fn.ntmps) (by rw[hnt]; simp)
 have hs0':StR w g ⟨[.dat [] (.sl u) xs,.un 0,.un 0,.un 0,.un 0,.un 0,.un 0,.un 0],[]⟩ {tmps:=vs.toArray++Array.replicate (fn.ntmps-vs.toArray.size) undef,defers:=[]}:=by
  rw[hnt] at hs0; rw[hnt]; exact hs0
 have fin:∀(a':Act) (w':World) (g':G),a'.defers=[]→StepC 0 w g w' g'→(∃g'',Heap w' g'' [.row e (if u.flat then .deep else .sh []) u xs]∧AVR w' g'' 1 (.ref 0) (a'.tmps.getD 2 undef)∧StepC 0 w' g' w' g'') →
     a'.defers=[]∧∃v,(results fn a'.tmps).run P w'=.ok v w'∧∃v' g',Ending.returned v=.returned v'∧Heap w' g' [.row e (if u.flat then .deep else .sh []) u xs]∧AVR w' g' 1 (.ref 0) v'∧StepC 0 w g w' g':=by
  intro a' w' g' hd hst ⟨g'',H'',hav,hst2⟩
  refine⟨hd,a'.tmps.getD 2 undef,?_,_,g'',rfl,H'',hav,hst.trans hst2⟩
  rw[Ov,hres,Array.mapM_eq_mapM_toList]
  simp[resS]
 refine wp_seq ((Kb he R0 _ _ _ (hR0 xs) (Nat.le_refl _)).2 _ w g _ hs0' fun a1 w1 g1 hs1 st1 hd1=>?_)
 simp only[exOf]
 refine wp_seq (wp_seq (wp_region ?_))
 have hx0:=hs1.slots 0 _ rfl
 obtain⟨cs,hcs,hval⟩:=A0 rfl rfl hx0
 obtain⟨_,ad,cap,ds,hcs1,hlen,hlist,hmem⟩:=hcs
 subst hcs1
 have hv0:a1.tmps.getD 0 undef=.slice ad xs.length cap:=by
  have:[Value.slice ad xs.length cap]=[a1.tmps.getD 0 undef]:=hval
  injection this with h _; exact h.symm
 have hnil:ad=none→xs=[]:=fun h=>by
  rcases hmem with h1 | ⟨b,off,h1,_⟩
  ·exact h1
  ·rw[h] at h1; cases h1
 let a2:=(a1.put (some 3) (.slice ad xs.length cap)).put (some 4) (.bool ad.isNone)
 have hsz:a1.tmps.size=8:=hs1.len.symm
 have hs2:StR w1 g1 ⟨[.dat [] (.sl u) xs,.un 0,.zs,.dat [] (.sl u) xs,.bool ad.isNone,.un 0,.un 0,.un 0],[]⟩ a2:=by
  refine⟨hs1.heap,by simp[a2,LP,hsz],fun i x hx=>?_⟩
  have h5:∀i,i≠3→i≠4→a2.tmps.getD i undef=a1.tmps.getD i undef:=fun i h3 h4=>by
   simp only[a2]
   rw[Lp (by simpa using fun h=>h4 h.symm),Lp (by simpa using fun h=>h3 h.symm)]
  match i,hx with
  | 0,hx=>rw[h5 0 (by decide) (by decide)]; exact hs1.slots 0 x hx
  | 1,hx=>rw[h5 1 (by decide) (by decide)]; exact hs1.slots 1 x hx
  | 2,hx=>rw[h5 2 (by decide) (by decide)]; exact hs1.slots 2 x hx
  | 3,hx =>
   injection hx with hx; subst hx
   have:a2.tmps.getD 3 undef=.slice ad xs.length cap:=by
    simp only[a2]
    rw[Lp (by decide),Kd (by omega)]
   rw[this,←hv0]
   exact hx0
  | 4,hx =>
   injection hx with hx; subst hx
   have:a2.tmps.getD 4 undef=.bool ad.isNone:=by
    simp only[a2]
    rw[Kd (by rw[LP]; omega)]
   rw[this]
   exact Bg (cs:=[.bool ad.isNone]) rfl ⟨fun k hk=>by(cases hk),rfl⟩ rfl
  | 5,hx=>injection hx with hx; subst hx; exact Lt
  | 6,hx=>injection hx with hx; subst hx; exact Lt
  | 7,hx=>injection hx with hx; subst hx; exact Lt
  | i+8,hx=>simp at hx
 have e3:a1.eval (.tmp 0)=.slice ad xs.length cap:=hv0
 have hev3:(a1.put (some 3) (.slice ad xs.length cap)).eval (.tmp 3)=.slice ad xs.length cap:=by
  show(a1.put (some 3) (.slice ad xs.length cap)).tmps.getD 3 undef=_
  rw[Kd (by omega)]
 simp only[List.range,wpOps]
 show wpOps P #[o3,o4] _ [0,1] a1 w1
 simp only[wpOps]
 have g0:(#[o3,o4]:Array Oper)[0]?=some o3:=rfl
 have g1':(#[o3,o4]:Array Oper)[1]?=some o4:=rfl
 rw[g0,g1']
 simp only[Region.wanted,h3.2.2,h4.2.2,if_true]
 refine .inl ?_
 unfold Oper.wp
 rw[show(execOp a1.eval o3).run P w1=.ok (.value (.slice ad xs.length cap)) w1 by simp[execOp,h3.1,e3],Oper.upon_value,h3.2.1]
 have hev3t:(a1.put (some 3) (.slice ad xs.length cap)).tmps.getD 3 undef=.slice ad xs.length cap:=hev3
 have hrun4:(execOp (a1.put (some 3) (.slice ad xs.length cap)).eval o4).run P w1=.ok (.value (.bool ad.isNone)) w1:=by
  have:=Ui (P:=P) (t:=t) (he.t ht) hsl (ad:=ad) (n:=xs.length) (c:=cap) (x:=.tmp 3) (y:=.const (.slice none 0 0)) w1
  simp only[execOp,h4.1,Act.eval,hev3t]
  rw[Sem.run_bind,this]
  rfl
 refine .inl ?_
 rw[hrun4,Oper.upon_value,h4.2.1]
 show(Code.cond (.tmp 4) (R2.seq .ret) .skip).wp P _ a2 w1
 have hev4:a2.eval (.tmp 4)=.bool ad.isNone:=by
  show a2.tmps.getD 4 undef=_
  simp only[a2]
  rw[Kd (by rw[LP]; omega)]
 have hd2:a2.defers=[]:=by simp only[a2,Go.Va.put_defers]; exact hd1
 cases had:ad with
 | none =>
  have hxs:=hnil had
  subst hxs
  rw[had] at hs2 hev4
  refine wp_cond_true hev4 ?_
  refine(Kb he _ _ _ _ (hA []) (Nat.le_refl _)).2 a2 w1 g1 _ hs2 fun a3 w3 g3 hs3 st3 hd3=>?_
  have hz:=hs3.slots 2 _ rfl
  obtain⟨g4,H4,hav4,st4⟩:=T9 hs3.heap (c:=.row [] e u false) (a:=.zs) (a':=.ref 0) (nb:=[.row e (if(u.flat||false)=true then .deep else .sh []) u []]) (by simp[coV,AV.getP,AV.setP,hu]) hz
  exact fin a3 w3 g3 (hd3.trans hd2) (st1.trans st3) ⟨g4,by simpa using H4,by simpa using hav4,st4.toC (Nat.zero_le _)⟩
 | some ad0 =>
  rw[had] at hs2 hev4
  refine wp_cond_false hev4 (wp_skip ?_)
  refine(Kb he _ _ _ _ (hT xs hbig) (Nat.le_refl _)).2 a2 w1 g1 _ hs2 fun a3 w3 g3 hs3 st3 hd3=>?_
  exact fin a3 w3 g3 (hd3.trans hd2) (st1.trans st3) ⟨g3,hs3.heap,hs3.slots 2 _ rfl,StepC.refl _ _ _⟩
theorem Uk{e bytes:Nat}{u:Ty}:CNat (cloneC e u bytes):=by
 intro R args E K
 simp only[cloneC]
 split
 ·split
  ·split<;>rfl
  ·rfl
 ·rfl
theorem QU (he:ProgOk P en) {f:FuncId} {fn:Func} (hf:P.funcs[f]?=some fn) (hn:(fn.name=="runtime.NumGoroutine")=false) {R0 R2 T:Code} {id:Nat} {o3 o4:Oper} {t t2 e bytes:Nat} {u:Ty} {ti:TI}
    (hb:fn.body=some (R0.seq (((Code.region id #[o3,o4] false).seq (Code.cond (.tmp 4) (R2.seq .ret) .skip)).seq T))) (hnt:fn.ntmps=8) (hres:fn.results=#[.tmp 2])
    (h3:o3.op=.move (.tmp 0)∧o3.dst=some 3∧o3.guard=none) (h4:o4.op=.binOp .eql t (.tmp 3) (.const (.slice none 0 0)) t2∧o4.dst=some 4∧o4.guard=none)
    (ht:en.tab.get t=some ti) (hsl:ti.isSl=true) (hu:u.row=true)
    (hR0:∀xs:(Ty.sl u).V,ev en 0 R0 (Ex×St) ⟨[.dat [] (.sl u) xs,.un 0,.un 0,.un 0,.un 0,.un 0,.un 0,.un 0],[]⟩ pair2=some (.normal,⟨[.dat [] (.sl u) xs,.un 0,.zs,.un 0,.un 0,.un 0,.un 0,.un 0],[]⟩))
    (hA:∀xs:(Ty.sl u).V,ev en 0 (R2.seq .ret) (Ex×St) ⟨[.dat [] (.sl u) xs,.un 0,.zs,.dat [] (.sl u) xs,.bool true,.un 0,.un 0,.un 0],[]⟩ pair2=some (.ret,⟨[.dat [] (.sl u) xs,.un 0,.zs,.dat [] (.sl u) xs,.bool true,.un 0,.un 0,.un 0],[]⟩))
    (hT:∀xs:(Ty.sl u).V,xs.length*bytes≤140737488355328→ev en 0 T (Ex×St) ⟨[.dat [] (.sl u) xs,.un 0,.zs,.dat [] (.sl u) xs,.bool false,.un 0,.un 0,.un 0],[]⟩ pair2=some (.ret,⟨[.dat [] (.sl u) xs,.un 0,.ref 0,.dat [] (.sl u) xs,.bool false,.zs,.dat [] (.sl u) xs,.ref 0],[.row e (if u.flat then .deep else .sh []) u xs]⟩)) :
    SoundC P f (cloneC e u bytes):=by
 refine SoundC.ofCalls hf hn (by rw[hb]; rfl) Uk fun args E av E' h=>?_
 simp only[cloneC] at h
 split at h
 ·split at h
  ·rename_i xs hc
   obtain⟨e1,q⟩:=AQ hc
   subst e1; subst q
   split at h
   ·rename_i hbig
    simp only[Option.some.injEq,Prod.mk.injEq] at h
    obtain⟨rfl,rfl⟩:=h
    exact⟨Nat.zero_le _,fun w g vs H hx=>RS he hf hb hnt hres h3 h4 ht hsl hu hR0 hA hT hbig w g vs H hx⟩
   ·cases h
  ·cases h
 ·cases h
end
end Go.Va
namespace Go.Va
section
variable {A B C D:Type}
theorem bC(k:A→Option B)(c:Bool)(x y:Option A):(bif c then x else y).bind k=bif c then x.bind k else y.bind k:=TS k c x y
theorem bI(k:A→Option B)(c:Prop)[Decidable c](x y:Option A):(if c then x else y).bind k=if c then x.bind k else y.bind k:=Xr k c x y
theorem bN(k:A→Option B)(c:Prop)[Decidable c](x:Option A):(if c then none else x).bind k=if c then none else x.bind k:=Vy k c x
theorem bE(k:C→Option D)(g:A→Option C)(h:B→Option C)(y:A⊕B):(Sum.elim g h y).bind k=Sum.elim (fun a=>(g a).bind k) (fun b=>(h b).bind k) y:=VF k g h y
theorem bA(x:Option A)(f:A→Option B)(g:B→Option C):(x.bind f).bind g=x.bind fun y=>(f y).bind g:=Option.bind_assoc x f g
theorem bS(a:A)(f:A→Option B):(some a).bind f=f a:=rfl
theorem bO(f:A→Option B):(none:Option A).bind f=none:=rfl
theorem mC(f:A→B)(c:Bool)(x y:Option A):(bif c then x else y).map f=bif c then x.map f else y.map f:=Yp f c x y
theorem mI(f:A→B)(c:Prop)[Decidable c](x y:Option A):(if c then x else y).map f=if c then x.map f else y.map f:=ZN f c x y
theorem mN(f:A→B)(c:Prop)[Decidable c](x:Option A):(if c then none else x).map f=if c then none else x.map f:=YS f c x
theorem mB(f:B→C)(x:Option A)(k:A→Option B):(x.bind k).map f=x.bind fun y=>(k y).map f:=Ww f x k
theorem mE(f:C→D)(g:A→Option C)(h:B→Option C)(y:A⊕B):(Sum.elim g h y).map f=Sum.elim (fun a=>(g a).map f) (fun b=>(h b).map f) y:=WL f g h y
theorem mS(f:A→B)(a:A):(some a).map f=some (f a):=rfl
theorem mO(f:A→B):(none:Option A).map f=none:=rfl
theorem sI{P:Prop}(h:P):P:=h
theorem sA{P:A⊕B→Prop}(h1:∀a,P (.inl a))(h2:∀b,P (.inr b)):∀y,P y
 | .inl a=>h1 a
 | .inr b=>h2 b
end
abbrev dI(x:Int):AV:=.dat [] (.int .i64) x
abbrev dB(b:Bool):AV:=.dat [] .bool b
abbrev dD(t:Ty)(x:t.V):AV:=.dat [] t x
def sT(n:Nat)(l:List (Nat×AV))(bs:List Blk):St:=⟨mkS n 0 l,bs⟩
def Env.hd(en:Env)(k:Nat):SH:=(lookH en.fi.heads k).getD {live:=[]}
def Env.ot(en:Env)(k:Nat):SH:=(lookH en.fi.outs k).getD {live:=[]}
def Env.jn(en:Env)(k:Nat):SH:=(lookH en.fi.joins k).getD {live:=[]}
def Env.dr(en:Env)(k:Nat):SH:=(lookH en.fi.draws k).getD {live:=[]}
section
variable {X Y R:Type}
noncomputable def lpS(en:Env)(m k:Nat)(fc:Code)(p:List Nat):St→Option (St⊕(Ex×St)):=stepL en m (en.hd k) (en.ot k) (sub fc (p++[0]))
noncomputable def jnS(en:Env)(m k:Nat)(fc:Code)(p:List Nat):St→Option (Ex×St):=joinL en m (en.jn k) (sub fc p)
noncomputable def drS(en:Env)(m k:Nat)(fc:Code)(p:List Nat):St→Option St:=regW en m (en.dr k) (regOps (sub fc p))
noncomputable def kQ(en:Env)(m:Nat)(R:Type)(fc:Code)(p:List Nat)(K:Ex→St→Option R)(q:Ex×St):Option R:=kont en m R fc p K q.1 q.2
noncomputable def lpC(en:Env)(m k:Nat)(fc:Code)(p:List Nat)(R:Type)(K:Ex→St→Option R)(s:St):Option R:=(fix (lpS en m k fc p) s).bind (kQ en m R fc p K)
noncomputable def jnC(en:Env)(m k:Nat)(fc:Code)(p:List Nat)(R:Type)(K:Ex→St→Option R)(s:St):Option R:=(jnS en m k fc p s).bind (kQ en m R fc p K)
noncomputable def drC(en:Env)(m k:Nat)(fc:Code)(p:List Nat)(R:Type)(K:Ex→St→Option R)(s:St):Option R:=(drS en m k fc p s).bind fun q=>kQ en m R fc p K (.normal,q)
def LpOk(en:Env)(m k:Nat)(fc:Code)(p:List Nat)(s:X→St)(r:X→Option (X⊕Y))(o:Y→Ex×St):Prop:=∀x,lpS en m k fc p (s x)=(r x).map (Sum.map s o)
def JnOk(en:Env)(m k:Nat)(fc:Code)(p:List Nat)(s:St)(x:Option Y)(o:Y→Ex×St):Prop:=jnS en m k fc p s=x.map o
def DrOk(en:Env)(m k:Nat)(fc:Code)(p:List Nat)(s:St)(x:Option Y)(o:Y→St):Prop:=drS en m k fc p s=x.map o
theorem Au {en:Env} {m k:Nat} {fc:Code} {p:List Nat} {s:X→St} {r:X→Option (X⊕Y)} {o:Y→Ex×St} (h:LpOk en m k fc p s r o) {K:Ex→St→Option R} {x:X} {F:Y→Option R} (hF:∀y,F y=kQ en m R fc p K (o y)) :
    (fix r x).bind F=lpC en m k fc p R K (s x):=by
 unfold lpC
 rw[Zw s o _ r h x,Po]
 exact congrArg _ (funext hF)
theorem Bn {en:Env} {m k:Nat} {fc:Code} {p:List Nat} {s:St} {x:Option Y} {o:Y→Ex×St} (h:JnOk en m k fc p s x o) {K:Ex→St→Option R} {F:Y→Option R} (hF:∀y,F y=kQ en m R fc p K (o y)) :
    x.bind F=jnC en m k fc p R K s:=by
 unfold jnC
 rw[h,Po]
 exact congrArg _ (funext hF)
theorem UM {en:Env} {m k:Nat} {fc:Code} {p:List Nat} {s:St} {x:Option Y} {o:Y→St} (h:DrOk en m k fc p s x o) {K:Ex→St→Option R} {F:Y→Option R} (hF:∀y,F y=kQ en m R fc p K (.normal,o y)) :
    x.bind F=drC en m k fc p R K s:=by
 unfold drC
 rw[h,Po]
 exact congrArg _ (funext hF)
def mkr(_:St)(x:Option R):Option R:=x
theorem bM(s:St)(x:Option X)(k:X→Option Y):(mkr s x).bind k=mkr s (x.bind k):=rfl
theorem mM(s:St)(x:Option X)(k:X→Y):(mkr s x).map k=mkr s (x.map k):=rfl
theorem Hs{en:Env}{m k:Nat}{fc:Code}{p:List Nat}{s:St}{e:Ex×St}(h:jnS en m k fc p s=some e){K:Ex→St→Option R}{T:Option R}(hT:∀_:Unit,T=kQ en m R fc p K e):mkr s T=jnC en m k fc p R K s:=by
 unfold jnC
 rw[h]
 exact hT ()
end
inductive Pt where
 | k (a:AV)| dat (ks:List Nat) (t:Ty)| rop (ks:List Nat) (t:Ty)| ptr (k:Nat) (p:List Nat) (o:Nat)| pr (a b:Pt)| cons (a b:Pt)| fn (f:Nat) (c:Pt)
def AV.isK:AV→AV→Bool
 | .zs,.zs=>true
 | .nilp,.nilp=>true
 | .nil,.nil=>true
 | .un n,.un m=>n==m
 | .ref n,.ref m=>n==m
 | .mp n,.mp m=>n==m
 | .ptr k i p o,.ptr k' i' p' o'=>k==k'&&i==i'&&p==p'&&o==o'
 | .dat [] .unit _,.dat [] .unit _=>true
 | _,_=>false
theorem AV.isK_eq{a b:AV}(h:a.isK b=true):b=a:=by
 unfold AV.isK at h
 split at h<;>first | rfl | (simp at h; obtain⟨⟨⟨rfl,rfl⟩,rfl⟩,rfl⟩:=h; rfl)| (simp at h; subst h; rfl)| cases h
@[reducible] def Pt.T:Pt→Type
 | .k _=>Unit
 | .dat _ t=>t.V
 | .rop _ t=>t.V
 | .ptr _ _ _=>Int
 | .pr a b=>a.T×b.T
 | .cons a b=>a.T×b.T
 | .fn _ c=>c.T
def Pt.fill:(p:Pt)→p.T→AV
 | .k a,_=>a
 | .dat ks t,x=>.dat ks t x
 | .rop ks t,x=>.rop ks t x
 | .ptr j p o,i=>.ptr j i p o
 | .pr a b,x=>.pr (a.fill x.1) (b.fill x.2)
 | .cons a b,x=>.cons (a.fill x.1) (b.fill x.2)
 | .fn f c,x=>.fn f (c.fill x)
def Pt.mt:(p:Pt)→AV→Option p.T
 | .k a,b=>bif a.isK b then some () else none
 | .dat ks t,a=>match a with | .dat ks' t' x=>if ks'=ks then castV t' t x else none | _=>none
 | .rop ks t,a=>match a with | .rop ks' t' x=>if ks'=ks then castV t' t x else none | _=>none
 | .ptr j p o,a=>match a with | .ptr j' i p' o'=>if j'=j∧p'=p∧o'=o then some i else none | _=>none
 | .pr a b,c=>match c with | .pr x y=>(match a.mt x,b.mt y with | some u,some v=>some (u,v)| _,_=>none)| _=>none
 | .cons a b,c=>match c with | .cons x y=>(match a.mt x,b.mt y with | some u,some v=>some (u,v)| _,_=>none)| _=>none
 | .fn f c,a=>match a with | .fn f' x=>if f'=f then c.mt x else none | _=>none
theorem Pt.mt_some:∀{p:Pt} {a:AV} {x:p.T},p.mt a=some x→a=p.fill x
 | .k a,b,x,h=>by
  unfold Pt.mt at h
  cases e:a.isK b with
  | false=>rw[e] at h; cases h
  | true=>exact AV.isK_eq e
 | .dat ks t,a,x,h=>by
  unfold Pt.mt at h
  cases a with
  | dat ks' t' y =>
   simp only at h
   split at h
   ·rename_i e; subst e
    obtain⟨e,q⟩:=AQ h
    subst e; subst q; rfl
   ·cases h
  | _=>cases h
 | .rop ks t,a,x,h=>by
  unfold Pt.mt at h
  cases a with
  | rop ks' t' y =>
   simp only at h
   split at h
   ·rename_i e; subst e
    obtain⟨e,q⟩:=AQ h
    subst e; subst q; rfl
   ·cases h
  | _=>cases h
 | .ptr j p o,a,x,h=>by
  unfold Pt.mt at h
  cases a with
  | ptr j' i p' o' =>
   simp only at h
   split at h
   ·rename_i e; obtain⟨rfl,rfl,rfl⟩:=e
    injection h with h; subst h; rfl
   ·cases h
  | _=>cases h
 | .pr a b,c,x,h=>by
  unfold Pt.mt at h
  cases c with
  | pr y z =>
   simp only at h
   split at h
   ·rename_i u v hu hv
    injection h with h; subst h
    rw[Pt.mt_some hu,Pt.mt_some hv]; rfl
   ·cases h
  | _=>cases h
 | .cons a b,c,x,h=>by
  unfold Pt.mt at h
  cases c with
  | cons y z =>
   simp only at h
   split at h
   ·rename_i u v hu hv
    injection h with h; subst h
    rw[Pt.mt_some hu,Pt.mt_some hv]; rfl
   ·cases h
  | _=>cases h
 | .fn f c,a,x,h=>by
  unfold Pt.mt at h
  cases a with
  | fn f' y =>
   simp only at h
   split at h
   ·rename_i e; subst e
    rw[Pt.mt_some h]; rfl
   ·cases h
  | _=>cases h
@[reducible] def ptsT:List Pt→Type
 | []=>Unit
 | p::r=>p.T×ptsT r
def ptsF:(l:List Pt)→ptsT l→List AV
 | [],_=>[]
 | p::r,x=>p.fill x.1::ptsF r x.2
def ptsM:(l:List Pt)→List AV→Option (ptsT l)
 | [],l=>match l with | []=>some ()| _=>none
 | p::r,l=>match l with | a::as'=>(match p.mt a,ptsM r as' with | some u,some v=>some (u,v)| _,_=>none)| _=>none
theorem PP:∀{l:List Pt} {a:List AV} {x:ptsT l},ptsM l a=some x→a=ptsF l x
 | [],a,x,h=>by
  cases a with
  | nil=>rfl
  | cons _ _=>cases h
 | p::r,a,x,h=>by
  unfold ptsM at h
  cases a with
  | nil=>cases h
  | cons a as' =>
   simp only at h
   split at h
   ·rename_i u v hu hv
    injection h with h; subst h
    rw[Pt.mt_some hu,PP hv]; rfl
   ·cases h
inductive BPt where
 | box (p:Pt)| row (e:Nat) (m:RM) (t:Ty)| map (m:RM) (kt vt:Ty)| dead
def RM.eqb:RM→RM→Bool
 | .deep,.deep=>true
 | .sh a,.sh b=>a==b
 | _,_=>false
theorem RM.eqb_eq{a b:RM}(h:a.eqb b=true):b=a:=by
 cases a<;>cases b<;>simp[RM.eqb] at h
 ·rfl
 ·subst h; rfl
@[reducible] def BPt.T:BPt→Type
 | .box p=>p.T
 | .row _ _ t=>List t.V
 | .map _ kt vt=>List (kt.V×vt.V)
 | .dead=>Unit
def BPt.fill:(p:BPt)→p.T→Blk
 | .box p,x=>.box (p.fill x)
 | .row e m t,x=>.row e m t x
 | .map m kt vt,x=>.map m kt vt x none
 | .dead,_=>.dead
def BPt.mt:(p:BPt)→Blk→Option p.T
 | .box p,b=>match b with | .box a=>p.mt a | _=>none
 | .row e m t,b=>match b with | .row e' m' t' xs=>if e'=e then bif m.eqb m' then castV (.sl t') (.sl t) xs else none else none | _=>none
 | .map m kt vt,b=>match b with | .map m' kt' vt' es none=>bif m.eqb m' then castV (.sl (.pair kt' vt')) (.sl (.pair kt vt)) es else none | _=>none
 | .dead,b=>match b with | .dead=>some ()| _=>none
theorem BPt.mt_some:∀{p:BPt} {a:Blk} {x:p.T},p.mt a=some x→a=p.fill x
 | .box p,a,x,h=>by
  unfold BPt.mt at h
  cases a with
  | box y=>rw[Pt.mt_some h]; rfl
  | _=>cases h
 | .row e m t,a,x,h=>by
  unfold BPt.mt at h
  cases a with
  | row e' m' t' y =>
   simp only at h
   split at h
   ·rename_i e0; subst e0
    cases hm:m.eqb m' with
    | false=>rw[hm] at h; cases h
    | true =>
     rw[hm,cond_true] at h
     have:=RM.eqb_eq hm; subst this
     obtain⟨e1,q⟩:=AQ h
     cases Ty.sl.inj e1; subst q; rfl
   ·cases h
  | _=>cases h
 | .map m kt vt,a,x,h=>by
  unfold BPt.mt at h
  cases a with
  | map m' kt' vt' es st =>
   cases st with
   | none =>
    simp only at h
    cases hm:m.eqb m' with
    | false=>rw[hm] at h; cases h
    | true =>
     rw[hm,cond_true] at h
     have:=RM.eqb_eq hm; subst this
     obtain⟨e1,q⟩:=AQ h
     obtain⟨e2,e3⟩:=Ty.pair.inj (Ty.sl.inj e1)
     subst e2; subst e3; subst q; rfl
   | some z=>cases h
  | _=>cases h
 | .dead,a,x,h=>by
  unfold BPt.mt at h
  cases a with
  | dead=>rfl
  | _=>cases h
@[reducible] def bptsT:List BPt→Type
 | []=>Unit
 | p::r=>p.T×bptsT r
def bptsF:(l:List BPt)→bptsT l→List Blk
 | [],_=>[]
 | p::r,x=>p.fill x.1::bptsF r x.2
def bptsM:(l:List BPt)→List Blk→Option (bptsT l)
 | [],l=>match l with | []=>some ()| _=>none
 | p::r,l=>match l with | a::as'=>(match p.mt a,bptsM r as' with | some u,some v=>some (u,v)| _,_=>none)| _=>none
theorem OJ:∀{l:List BPt} {a:List Blk} {x:bptsT l},bptsM l a=some x→a=bptsF l x
 | [],a,x,h=>by
  cases a with
  | nil=>rfl
  | cons _ _=>cases h
 | p::r,a,x,h=>by
  unfold bptsM at h
  cases a with
  | nil=>cases h
  | cons a as' =>
   simp only at h
   split at h
   ·rename_i u v hu hv
    injection h with h; subst h
    rw[BPt.mt_some hu,OJ hv]; rfl
   ·cases h
structure Br where
 pa:List Pt
 pb:List BPt
 U:Type
 F:ptsT pa×bptsT pb→Option U
 out:U→AV×List Blk
def brRun:List Br→(R:Type)→List AV→List Blk→(AV→List Blk→Option R)→Option R
 | [],_,_,_,_=>none
 | b::r,R,avs,E,K=>match ptsM b.pa avs,bptsM b.pb E with
  | some x,some y=>(b.F (x,y)).bind fun u=>K (b.out u).1 (b.out u).2
  | _,_=>brRun r R avs E K
def brC(ms:List PM)(bs:List Br):Callee:={modes:=ms,run:=brRun bs}
theorem NJ:∀(bs:List Br) (R:Type) (args:List AV) (E:List Blk) (K:AV→List Blk→Option R),brRun bs R args E K=(brRun bs (AV×List Blk) args E fun v b=>some (v,b)).bind fun p=>K p.1 p.2
 | [],_,_,_,_=>rfl
 | b::r,R,args,E,K=>by
  unfold brRun
  split
  ·rw[Option.bind_assoc]; rfl
  ·exact NJ r R args E K
def BrOk(P:Program)(fn:Func)(b:Br):Prop:=∃en,ProgOk P en∧∀p (R:Type) (K:AV→List Blk→Option R),runF en fn R (ptsF b.pa p.1) (bptsF b.pb p.2) K=(b.F p).bind fun u=>K (b.out u).1 (b.out u).2
def BrsOk(P:Program)(fn:Func):List Br→Prop
 | []=>True
 | b::r=>BrOk P fn b∧BrsOk P fn r
theorem Y2{P:Program}{fn:Func}:∀{bs:List Br},BrsOk P fn bs→∀args E av E',brRun bs (AV×List Blk) args E (fun v b=>some (v,b))=some (av,E')→∃en,ProgOk P en∧runF en fn (AV×List Blk) args E (fun v b=>some (v,b))=some (av,E')
 | [],_,_,_,_,_,h=>by cases h
 | b::r,⟨⟨en,he,hb⟩,hr⟩,args,E,av,E',h=>by
  unfold brRun at h
  split at h
  ·rename_i x y hx hy
   refine⟨en,he,?_⟩
   rw[PP hx,OJ hy]
   exact(hb (x,y) _ _).trans h
  ·exact Y2 hr args E av E' h
theorem Ap{P:Program}{f:FuncId}{fn:Func}{ms:List PM}{bs:List Br}(hf:P.funcs[f]?=some fn)(hn:(fn.name=="runtime.NumGoroutine")=false)(hb:fn.body.isNone=false)(h:BrsOk P fn bs):SoundC P f (brC ms bs) :=
 SoundC.of2 hf hn hb (NJ bs) (Y2 h)
def BrsNo:List Br→Prop
 | []=>True
 | b::r=>(∀p,b.F p=none)∧BrsNo r
theorem AdK:∀{bs:List Br},BrsNo bs→∀(R:Type) args E K,brRun bs R args E K=none
 | [],_,_,_,_,_=>rfl
 | b::r,h,R,args,E,K=>by
  unfold brRun
  split
  ·rw[h.1]; rfl
  ·exact AdK h.2 R args E K
theorem UY{P:Program}{f:FuncId}{ms:List PM}{bs:List Br}(h:BrsNo bs):SoundC P f (brC ms bs) where
 nat:=NJ bs
 snd args E av E' hr:=by
  rw[show(brC ms bs).run _ args E _=none from AdK h _ _ _ _] at hr
  cases hr
abbrev wI(x:Int):Int:=IntKind.i64.wrap x
end Go.Va
namespace Go.Proofs.X
open Go Go.Va
set_option maxRecDepth 100000
abbrev Tlaws_Decl:Ty:=(.pair .str (.pair (.int .i64) .unit))
abbrev OG:Ty:=(.pair (.int .i64) (.pair (.sl (.int .u64)) .unit))
abbrev Mc:Ty:=(.pair (.int .i64) (.pair (.int .i64) (.pair (.int .i64) (.pair (.int .i64) (.pair OG (.pair (.sl (.int .i64)) .unit))))))
abbrev MT:Ty:=(.pair (.sl Mc) .unit)
abbrev Tlaws_Literal:Ty:=(.pair (.int .i64) (.pair .bool (.pair MT (.pair MT .unit))))
abbrev Ah:Ty:=(.pair (.int .i64) (.pair (.sl (.int .u64)) .unit))
abbrev AC:Ty:=(.pair (.int .i64) (.pair (.int .i64) (.pair (.sl Ah) .unit)))
abbrev Aa:Ty:=(.pair .str (.pair (.int .i64) .unit))
abbrev Ab:Ty:=(.pair (.int .i64) (.pair (.int .i64) (.pair (.int .i64) (.pair (.int .i64) (.pair Ah (.pair (.sl (.int .i64)) .unit))))))
abbrev Aj:Ty:=(.pair (.sl Ab) .unit)
abbrev Ae:Ty:=(.pair (.int .i64) (.pair .bool (.pair Aj (.pair Aj .unit))))
abbrev Ad:Ty:=(.pair (.int .i64) (.pair (.int .i64) (.pair (.int .i64) (.pair Ah .unit))))
abbrev Ag:Ty:=(.pair (.int .i64) (.pair (.sl (.sl (.int .i64))) .unit))
abbrev Af:Ty:=(.pair (.int .i64) (.pair (.int .i64) .unit))
abbrev NM:Ty:=(.pair Ag (.pair (.int .i64) (.pair (.int .i64) (.pair .bool (.pair (.sl (.int .i64)) .unit)))))
abbrev Pf:Ty:=(.pair Ag .unit)
abbrev Ai:Ty:=(.pair (.int .i64) (.pair (.int .u64) .unit))
abbrev Pn:Ty:=(.pair (.opq 0) (.pair (.int .i64) (.pair (.int .i64) .unit)))
abbrev RE:Ty:=(.pair Ag (.pair (.opq 1) (.pair (.sl (.int .i64)) (.pair (.sl (.int .i64)) (.pair (.sl (.int .i64)) (.pair (.sl (.int .i64)) .unit))))))
def tab:Tab:=[
 (2,⟨(.int .i64),[],0,8,0,0,false⟩),
 (3,⟨(.int .i64),[],0,8,0,0,false⟩),
 (4,⟨.bool,[],0,1,0,0,false⟩),
 (5,⟨(.int .u8),[],0,1,0,0,false⟩),
 (9,⟨.str,[],0,16,0,0,false⟩),
 (22,⟨(.sl Tlaws_Decl),[],94,24,0,0,false⟩),
 (23,⟨(.sl Tlaws_Literal),[],45,24,0,0,false⟩),
 (26,⟨(.sl Ah),[],83,24,0,0,false⟩),
 (28,⟨AC,[0,1,2],0,40,0,0,false⟩),
 (30,⟨(.sl Aa),[],109,24,0,0,false⟩),
 (32,⟨(.sl Ae),[],58,24,0,0,false⟩),
 (41,⟨(.sl Mc),[],268,24,0,0,false⟩),
 (43,⟨MT,[0],0,24,0,0,false⟩),
 (45,⟨Tlaws_Literal,[0,1,2,3],0,64,0,0,false⟩),
 (46,⟨(.sl (.sl (.int .i64))),[],72,24,0,0,false⟩),
 (54,⟨(.sl Ab),[],231,24,0,0,false⟩),
 (56,⟨Aj,[0],0,24,0,0,false⟩),
 (58,⟨Ae,[0,1,2,3],0,64,0,0,false⟩),
 (72,⟨(.sl (.int .i64)),[],2,24,0,0,false⟩),
 (81,⟨(.sl (.int .u64)),[],216,24,0,0,false⟩),
 (83,⟨Ah,[0,1],0,32,0,0,false⟩),
 (94,⟨Tlaws_Decl,[0,1],0,24,0,0,false⟩),
 (97,⟨(.sl (.sl Ad)),[],121,24,0,0,false⟩),
 (101,⟨Ag,[0,1],0,32,0,0,false⟩),
 (104,⟨(.sl .bool),[],4,24,0,0,false⟩),
 (109,⟨Aa,[0,1],0,24,0,0,false⟩),
 (121,⟨(.sl Ad),[],238,24,0,0,false⟩),
 (124,⟨(.sl Af),[],199,24,0,0,false⟩),
 (141,⟨(.sl (.pair (.sl Ad) (.pair (.sl Ad) .unit))),[],145,24,0,0,false⟩),
 (145,⟨(.pair (.sl Ad) (.pair (.sl Ad) .unit)),[],121,48,2,0,false⟩),
 (180,⟨(.sl (.int .u8)),[],5,24,0,0,false⟩),
 (199,⟨Af,[0,1],0,16,0,0,false⟩),
 (205,⟨NM,[0,2,3,4,5],0,80,0,0,false⟩),
 (211,⟨Pf,[0],0,32,0,0,false⟩),
 (212,⟨(.sl Ai),[],218,24,0,0,false⟩),
 (216,⟨(.int .u64),[],0,8,0,0,false⟩),
 (218,⟨Ai,[0,1],0,16,0,0,true⟩),
 (219,⟨(.opq 0),[],227,8,0,0,false⟩),
 (222,⟨Pn,[0,1,2],0,24,0,0,false⟩),
 (224,⟨(.opq 1),[],225,8,0,2,false⟩),
 (225,⟨(.sl (.int .i64)),[],3,24,0,0,false⟩),
 (227,⟨RE,[0,2,3,4,5,6],0,136,0,0,false⟩),
 (231,⟨Ab,[0,1,2,3,4,6],0,88,0,0,false⟩),
 (234,⟨(.sl (.sl Af)),[],124,24,0,0,false⟩),
 (238,⟨Ad,[0,1,2,3],0,56,0,0,false⟩),
 (266,⟨OG,[0,1],0,32,0,0,false⟩),
 (268,⟨Mc,[0,1,2,3,4,6],0,88,0,0,false⟩),
 (269,⟨(.int .u64),[],0,8,0,0,false⟩)]
theorem tabok:tabOk Tryz.prog tab=true:=by kernel_rfl
theorem mixed:Tryz.prog.follows .mixedOrders=true:=by kernel_rfl
noncomputable section
abbrev E0:Env:=⟨tab,lookH [],{deep:=true}⟩
def Es(a:Aa.V)(b:Int):Int:=(bif decide ((wI (b-(a.1.size:Int)))<0) then(-1) else(wI (b-(a.1.size:Int))))
theorem U0(R:Type)(a:Aa.V)(b:Int)(K:AV→List Blk→Option R):runF E0 Tryz.f50 R [dD Aa a,dI b] [] K=K (dI (Es a b)) []:=by
 have h:runF E0 Tryz.f50 R [dD Aa a,dI b] [] K =
 bif decide ((wI (b-(a.1.size:Int)))<0) then
 K (dI (-1)) []
 else
 K (dI (wI (b-(a.1.size:Int)))) []:=by kernel_rfl
 rw[h]
 unfold Es
 cases h1:(decide ((wI (b-(a.1.size:Int)))<0))
 ·first | rfl | kernel_rfl
 ·first | rfl | kernel_rfl
def c50:Va.Callee:=brC [.d Aa,.d (.int .i64)] [⟨[.dat [] Aa,.dat [] (.int .i64)],[],Int,fun p=>some (Es p.1.1 p.1.2.1),fun r=>(dI r,[])⟩]
theorem Zo:SoundC Tryz.prog 50 c50:=Ap (fn:=Tryz.f50) (by kernel_rfl) (by kernel_rfl) (by kernel_rfl) ⟨⟨E0,⟨⟨tabok,An trivial⟩,mixed⟩,fun p R K=>U0 R p.1.1 p.1.2.1 K⟩,trivial⟩
abbrev E1:Env:=⟨tab,lookH [(50,c50)],{deep:=true,heads:=[(5,{live:=[0,1,5]})],outs:=[(5,{live:=[1,4]})]}⟩
def AkO(a:List Aa.V)(z_:Int×Int):St:=sT 27 [(0,dD (.sl Aa) a),(1,dI z_.1),(5,dI z_.2)] []
def AkP(a:List Aa.V):(Int⊕Int)→Ex×St:=Sum.elim (fun b=>(.ret,sT 27 [(1,dI b),(4,dI (-1))] [])) (fun c=>((.exit 0),sT 27 [(1,dI c)] []))
def KU(a:List Aa.V)(d e:Int):Option ((Int×Int)⊕(Int⊕Int)) :=
 bif decide (e<(a.length:Int)) then
 if(0:Int)≤e∧e<(a.length:Int) then
 bif decide ((Es (a.getD e.toNat (Ty.zero Aa)) d)<0) then
 some (.inr (.inl (Es (a.getD e.toNat (Ty.zero Aa)) d)))
 else
 some (.inl ((Es (a.getD e.toNat (Ty.zero Aa)) d),(wI (e+1))))
 else none
 else
 some (.inr (.inr d))
def Gv(a:List Aa.V)(z_:Int×Int):=KU a z_.1 z_.2
def LD(a:List Aa.V)(d e:Int):=fix (Gv a) (d,e)
theorem AkM(a:List Aa.V):LpOk E1 0 5 (code Tryz.f8) [1,1,1,0,1,0] (AkO a) (Gv a) (AkP a):=by
 intro _
 simp only[Gv,KU,mC,mI,mN,mB,mE,mM]
 kernel_rfl
def Jp(a:List Aa.V)(g:Int):Option Int :=
 bif decide ((wI (g-(a.length:Int)))<0) then
 some (-1)
 else
 (LD a (wI (g-(a.length:Int))) 0).bind (Sum.elim (fun b =>
 some (-1)) (fun c =>
 some c))
theorem U1(R:Type)(a:List Aa.V)(g:Int)(K:AV→List Blk→Option R):runF E1 Tryz.f8 R [dD (.sl Aa) a,dI g] [] K=(Jp a g).bind fun r=>K (dI r) []:=by
 simp only[Jp,bC,bI,bN,bE,bA,bS,bO,bM]
 simp(disch:=refine sI ?_<;>(repeat' refine sA ?_ ?_)<;>intro _<;>kernel_rfl) only[LD,Au (AkM _) (K:=finK E1 Tryz.f8 0 R K)]
 kernel_rfl
def c8:Va.Callee:=brC [.d (.sl Aa),.d (.int .i64)] [⟨[.dat [] (.sl Aa),.dat [] (.int .i64)],[],Int,fun p=>Jp p.1.1 p.1.2.1,fun r=>(dI r,[])⟩]
theorem Abw:SoundC Tryz.prog 8 c8:=Ap (fn:=Tryz.f8) (by kernel_rfl) (by kernel_rfl) (by kernel_rfl) ⟨⟨E1,⟨⟨tabok,An ⟨Zo,trivial⟩⟩,mixed⟩,fun p R K=>U1 R p.1.1 p.1.2.1 K⟩,trivial⟩
abbrev E2:Env:=⟨tab,lookH [],{deep:=true}⟩
def AT(a:List Int)(b:Int):Int:=(bif decide ((wI (b-(a.length:Int)))<0) then(-1) else(wI (b-(a.length:Int))))
theorem U2(R:Type)(a:List Int)(b:Int)(K:AV→List Blk→Option R):runF E2 Tryz.f246 R [dD (.sl (.int .u64)) a,dI b] [] K=K (dI (AT a b)) []:=by
 have h:runF E2 Tryz.f246 R [dD (.sl (.int .u64)) a,dI b] [] K =
 bif decide ((wI (b-(a.length:Int)))<0) then
 K (dI (-1)) []
 else
 K (dI (wI (b-(a.length:Int)))) []:=by kernel_rfl
 rw[h]
 unfold AT
 cases h1:(decide ((wI (b-(a.length:Int)))<0))
 ·first | rfl | kernel_rfl
 ·first | rfl | kernel_rfl
def c246:Va.Callee:=brC [.d (.sl (.int .u64)),.d (.int .i64)] [⟨[.dat [] (.sl (.int .u64)),.dat [] (.int .i64)],[],Int,fun p=>some (AT p.1.1 p.1.2.1),fun r=>(dI r,[])⟩]
theorem Ws:SoundC Tryz.prog 246 c246:=Ap (fn:=Tryz.f246) (by kernel_rfl) (by kernel_rfl) (by kernel_rfl) ⟨⟨E2,⟨⟨tabok,An trivial⟩,mixed⟩,fun p R K=>U2 R p.1.1 p.1.2.1 K⟩,trivial⟩
abbrev E3:Env:=⟨tab,lookH [(246,c246)],{deep:=true}⟩
def Bc(a:Ah.V)(b:Int):Int:=(bif decide ((AT a.2.1 b)<0) then(-1) else(AT a.2.1 b))
theorem U3(R:Type)(a:Ah.V)(b:Int)(K:AV→List Blk→Option R):runF E3 Tryz.f217 R [dD Ah a,dI b] [] K=K (dI (Bc a b)) []:=by
 have h:runF E3 Tryz.f217 R [dD Ah a,dI b] [] K =
 bif decide ((AT a.2.1 b)<0) then
 K (dI (-1)) []
 else
 K (dI (AT a.2.1 b)) []:=by kernel_rfl
 rw[h]
 unfold Bc
 cases h1:(decide ((AT a.2.1 b)<0))
 ·first | rfl | kernel_rfl
 ·first | rfl | kernel_rfl
def c217:Va.Callee:=brC [.d Ah,.d (.int .i64)] [⟨[.dat [] Ah,.dat [] (.int .i64)],[],Int,fun p=>some (Bc p.1.1 p.1.2.1),fun r=>(dI r,[])⟩]
theorem Yf:SoundC Tryz.prog 217 c217:=Ap (fn:=Tryz.f217) (by kernel_rfl) (by kernel_rfl) (by kernel_rfl) ⟨⟨E3,⟨⟨tabok,An ⟨Ws,trivial⟩⟩,mixed⟩,fun p R K=>U3 R p.1.1 p.1.2.1 K⟩,trivial⟩
abbrev E4:Env:=⟨tab,lookH [],{deep:=true}⟩
def A7(a:List Int)(b:Int):Int:=(bif decide ((wI (b-(a.length:Int)))<0) then(-1) else(wI (b-(a.length:Int))))
theorem U4(R:Type)(a:List Int)(b:Int)(K:AV→List Blk→Option R):runF E4 Tryz.f140 R [dD (.sl (.int .i64)) a,dI b] [] K=K (dI (A7 a b)) []:=by
 have h:runF E4 Tryz.f140 R [dD (.sl (.int .i64)) a,dI b] [] K =
 bif decide ((wI (b-(a.length:Int)))<0) then
 K (dI (-1)) []
 else
 K (dI (wI (b-(a.length:Int)))) []:=by kernel_rfl
 rw[h]
 unfold A7
 cases h1:(decide ((wI (b-(a.length:Int)))<0))
 ·first | rfl | kernel_rfl
 ·first | rfl | kernel_rfl
def c140:Va.Callee:=brC [.d (.sl (.int .i64)),.d (.int .i64)] [⟨[.dat [] (.sl (.int .i64)),.dat [] (.int .i64)],[],Int,fun p=>some (A7 p.1.1 p.1.2.1),fun r=>(dI r,[])⟩]
theorem XY:SoundC Tryz.prog 140 c140:=Ap (fn:=Tryz.f140) (by kernel_rfl) (by kernel_rfl) (by kernel_rfl) ⟨⟨E4,⟨⟨tabok,An trivial⟩,mixed⟩,fun p R K=>U4 R p.1.1 p.1.2.1 K⟩,trivial⟩
abbrev E5:Env:=⟨tab,lookH [(140,c140),(217,c217)],{deep:=true}⟩
def Dr(a:Ab.V)(b:Int):Int:=(bif decide ((Bc a.2.2.2.2.1 b)<0) then(-1) else(bif decide ((A7 a.2.2.2.2.2.1 (Bc a.2.2.2.2.1 b))<0) then(-1) else(A7 a.2.2.2.2.2.1 (Bc a.2.2.2.2.1 b))))
theorem U5(R:Type)(a:Ab.V)(b:Int)(K:AV→List Blk→Option R):runF E5 Tryz.f177 R [dD Ab a,dI b] [] K=K (dI (Dr a b)) []:=by
 have h:runF E5 Tryz.f177 R [dD Ab a,dI b] [] K =
 bif decide ((Bc a.2.2.2.2.1 b)<0) then
 K (dI (-1)) []
 else
 bif decide ((A7 a.2.2.2.2.2.1 (Bc a.2.2.2.2.1 b))<0) then
 K (dI (-1)) []
 else
 K (dI (A7 a.2.2.2.2.2.1 (Bc a.2.2.2.2.1 b))) []:=by kernel_rfl
 rw[h]
 unfold Dr
 cases h1:(decide ((Bc a.2.2.2.2.1 b)<0))
 ·cases h2:(decide ((A7 a.2.2.2.2.2.1 (Bc a.2.2.2.2.1 b))<0))
  ·first | rfl | kernel_rfl
  ·first | rfl | kernel_rfl
 ·first | rfl | kernel_rfl
def c177:Va.Callee:=brC [.d Ab,.d (.int .i64)] [⟨[.dat [] Ab,.dat [] (.int .i64)],[],Int,fun p=>some (Dr p.1.1 p.1.2.1),fun r=>(dI r,[])⟩]
theorem Yr:SoundC Tryz.prog 177 c177:=Ap (fn:=Tryz.f177) (by kernel_rfl) (by kernel_rfl) (by kernel_rfl) ⟨⟨E5,⟨⟨tabok,An ⟨XY,Yf,trivial⟩⟩,mixed⟩,fun p R K=>U5 R p.1.1 p.1.2.1 K⟩,trivial⟩
abbrev E6:Env:=⟨tab,lookH [(177,c177)],{deep:=true,heads:=[(5,{live:=[0,1,5]})],outs:=[(5,{live:=[1,4]})]}⟩
def AkL(a:List Ab.V)(z_:Int×Int):St:=sT 27 [(0,dD (.sl Ab) a),(1,dI z_.1),(5,dI z_.2)] []
def AkK(a:List Ab.V):(Int⊕Int)→Ex×St:=Sum.elim (fun b=>(.ret,sT 27 [(1,dI b),(4,dI (-1))] [])) (fun c=>((.exit 0),sT 27 [(1,dI c)] []))
def Ky(a:List Ab.V)(d e:Int):Option ((Int×Int)⊕(Int⊕Int)) :=
 bif decide (e<(a.length:Int)) then
 if(0:Int)≤e∧e<(a.length:Int) then
 bif decide ((Dr (a.getD e.toNat (Ty.zero Ab)) d)<0) then
 some (.inr (.inl (Dr (a.getD e.toNat (Ty.zero Ab)) d)))
 else
 some (.inl ((Dr (a.getD e.toNat (Ty.zero Ab)) d),(wI (e+1))))
 else none
 else
 some (.inr (.inr d))
def Fq(a:List Ab.V)(z_:Int×Int):=Ky a z_.1 z_.2
def Lq(a:List Ab.V)(d e:Int):=fix (Fq a) (d,e)
theorem AkR(a:List Ab.V):LpOk E6 0 5 (code Tryz.f109) [1,1,1,0,1,0] (AkL a) (Fq a) (AkK a):=by
 intro _
 simp only[Fq,Ky,mC,mI,mN,mB,mE,mM]
 kernel_rfl
def F6(a:List Ab.V)(g:Int):Option Int :=
 bif decide ((wI (g-(a.length:Int)))<0) then
 some (-1)
 else
 (Lq a (wI (g-(a.length:Int))) 0).bind (Sum.elim (fun b =>
 some (-1)) (fun c =>
 some c))
theorem U6(R:Type)(a:List Ab.V)(g:Int)(K:AV→List Blk→Option R):runF E6 Tryz.f109 R [dD (.sl Ab) a,dI g] [] K=(F6 a g).bind fun r=>K (dI r) []:=by
 simp only[F6,bC,bI,bN,bE,bA,bS,bO,bM]
 simp(disch:=refine sI ?_<;>(repeat' refine sA ?_ ?_)<;>intro _<;>kernel_rfl) only[Lq,Au (AkR _) (K:=finK E6 Tryz.f109 0 R K)]
 kernel_rfl
def c109:Va.Callee:=brC [.d (.sl Ab),.d (.int .i64)] [⟨[.dat [] (.sl Ab),.dat [] (.int .i64)],[],Int,fun p=>F6 p.1.1 p.1.2.1,fun r=>(dI r,[])⟩]
theorem W9:SoundC Tryz.prog 109 c109:=Ap (fn:=Tryz.f109) (by kernel_rfl) (by kernel_rfl) (by kernel_rfl) ⟨⟨E6,⟨⟨tabok,An ⟨Yr,trivial⟩⟩,mixed⟩,fun p R K=>U6 R p.1.1 p.1.2.1 K⟩,trivial⟩
abbrev E7:Env:=⟨tab,lookH [(109,c109)],{deep:=true}⟩
def FO(a:Aj.V)(b:Int):Option Int :=
 (F6 a.1 b).bind fun c =>
 bif decide (c<0) then
 some (-1)
 else
 some c
theorem U7(R:Type)(a:Aj.V)(b:Int)(K:AV→List Blk→Option R):runF E7 Tryz.f41 R [dD Aj a,dI b] [] K=(FO a b).bind fun r=>K (dI r) []:=by
 simp only[FO,bC,bI,bN,bE,bA,bS,bO,bM]
 kernel_rfl
def c41:Va.Callee:=brC [.d Aj,.d (.int .i64)] [⟨[.dat [] Aj,.dat [] (.int .i64)],[],Int,fun p=>FO p.1.1 p.1.2.1,fun r=>(dI r,[])⟩]
theorem Zx:SoundC Tryz.prog 41 c41:=Ap (fn:=Tryz.f41) (by kernel_rfl) (by kernel_rfl) (by kernel_rfl) ⟨⟨E7,⟨⟨tabok,An ⟨W9,trivial⟩⟩,mixed⟩,fun p R K=>U7 R p.1.1 p.1.2.1 K⟩,trivial⟩
end
end Go.Proofs.X
namespace Go.Proofs.X
open Go Go.Va
set_option maxRecDepth 100000
noncomputable section
abbrev E8:Env:=⟨tab,lookH [(41,c41)],{deep:=true}⟩
def GC(a:Ae.V)(b:Int):Option Int :=
 (FO a.2.2.1 b).bind fun c =>
 bif decide (c<0) then
 some (-1)
 else
 (FO a.2.2.2.1 c).bind fun d =>
 bif decide (d<0) then
 some (-1)
 else
 some d
theorem U8(R:Type)(a:Ae.V)(b:Int)(K:AV→List Blk→Option R):runF E8 Tryz.f21 R [dD Ae a,dI b] [] K=(GC a b).bind fun r=>K (dI r) []:=by
 simp only[GC,bC,bI,bN,bE,bA,bS,bO,bM]
 kernel_rfl
def c21:Va.Callee:=brC [.d Ae,.d (.int .i64)] [⟨[.dat [] Ae,.dat [] (.int .i64)],[],Int,fun p=>GC p.1.1 p.1.2.1,fun r=>(dI r,[])⟩]
theorem Abp:SoundC Tryz.prog 21 c21:=Ap (fn:=Tryz.f21) (by kernel_rfl) (by kernel_rfl) (by kernel_rfl) ⟨⟨E8,⟨⟨tabok,An ⟨Zx,trivial⟩⟩,mixed⟩,fun p R K=>U8 R p.1.1 p.1.2.1 K⟩,trivial⟩
abbrev E9:Env:=⟨tab,lookH [(21,c21)],{deep:=true,heads:=[(5,{live:=[0,1,5]})],outs:=[(5,{live:=[1,4]})]}⟩
def AkN(a:List Ae.V)(z_:Int×Int):St:=sT 27 [(0,dD (.sl Ae) a),(1,dI z_.1),(5,dI z_.2)] []
def AkJ(a:List Ae.V):(Int⊕Int)→Ex×St:=Sum.elim (fun b=>(.ret,sT 27 [(1,dI b),(4,dI (-1))] [])) (fun c=>((.exit 0),sT 27 [(1,dI c)] []))
def JD(a:List Ae.V)(d e:Int):Option ((Int×Int)⊕(Int⊕Int)) :=
 bif decide (e<(a.length:Int)) then
 if(0:Int)≤e∧e<(a.length:Int) then
 (GC (a.getD e.toNat (Ty.zero Ae)) d).bind fun g =>
 bif decide (g<0) then
 some (.inr (.inl g))
 else
 some (.inl (g,(wI (e+1))))
 else none
 else
 some (.inr (.inr d))
def DS(a:List Ae.V)(z_:Int×Int):=JD a z_.1 z_.2
def KB(a:List Ae.V)(d e:Int):=fix (DS a) (d,e)
theorem AkQ(a:List Ae.V):LpOk E9 0 5 (code Tryz.f9) [1,1,1,0,1,0] (AkN a) (DS a) (AkJ a):=by
 intro _
 simp only[DS,JD,mC,mI,mN,mB,mE,mM]
 kernel_rfl
def FC(a:List Ae.V)(i:Int):Option Int :=
 bif decide ((wI (i-(a.length:Int)))<0) then
 some (-1)
 else
 (KB a (wI (i-(a.length:Int))) 0).bind (Sum.elim (fun b =>
 some (-1)) (fun c =>
 some c))
theorem U9(R:Type)(a:List Ae.V)(i:Int)(K:AV→List Blk→Option R):runF E9 Tryz.f9 R [dD (.sl Ae) a,dI i] [] K=(FC a i).bind fun r=>K (dI r) []:=by
 simp only[FC,bC,bI,bN,bE,bA,bS,bO,bM]
 simp(disch:=refine sI ?_<;>(repeat' refine sA ?_ ?_)<;>intro _<;>kernel_rfl) only[KB,Au (AkQ _) (K:=finK E9 Tryz.f9 0 R K)]
 kernel_rfl
def c9:Va.Callee:=brC [.d (.sl Ae),.d (.int .i64)] [⟨[.dat [] (.sl Ae),.dat [] (.int .i64)],[],Int,fun p=>FC p.1.1 p.1.2.1,fun r=>(dI r,[])⟩]
theorem AdY:SoundC Tryz.prog 9 c9:=Ap (fn:=Tryz.f9) (by kernel_rfl) (by kernel_rfl) (by kernel_rfl) ⟨⟨E9,⟨⟨tabok,An ⟨Abp,trivial⟩⟩,mixed⟩,fun p R K=>U9 R p.1.1 p.1.2.1 K⟩,trivial⟩
abbrev E10:Env:=⟨tab,lookH [],{deep:=true}⟩
def IO(a:Aa.V):(ByteArray×Int):=(a.1,a.2.1)
theorem U10(R:Type)(a:Aa.V)(K:AV→List Blk→Option R):runF E10 Tryz.f57 R [dD Aa a] [] K=K (.pr (dD .str (IO a).1) (.pr (dI (IO a).2) .u)) []:=by
 kernel_rfl
def c57:Va.Callee:=brC [.d Aa] [⟨[.dat [] Aa],[],(ByteArray×Int),fun p=>some (IO p.1.1),fun r=>(.pr (dD .str r.1) (.pr (dI r.2) .u),[])⟩]
theorem Aah:SoundC Tryz.prog 57 c57:=Ap (fn:=Tryz.f57) (by kernel_rfl) (by kernel_rfl) (by kernel_rfl) ⟨⟨E10,⟨⟨tabok,An trivial⟩,mixed⟩,fun p R K=>U10 R p.1.1 K⟩,trivial⟩
abbrev E11:Env:=⟨tab,lookH [(57,c57)],{deep:=true,heads:=[(3,{live:=[0,3,4]})],outs:=[(3,{live:=[3]})]}⟩
def AiO(a:List Aa.V)(z_:Int×(List Aa.V)):St:=sT 23 [(0,dD (.sl Aa) a),(3,.ref 0),(4,dI z_.1)] [.row 109 .deep Aa z_.2]
def Akf(a:List Aa.V):(List Aa.V)→Ex×St:=fun b=>((.exit 0),sT 23 [(3,.ref 0)] [.row 109 .deep Aa b])
def KV(a:List Aa.V)(c:Int)(d:List Aa.V):Option ((Int×(List Aa.V))⊕(List Aa.V)) :=
 bif decide (c<(a.length:Int)) then
 if(0:Int)≤c∧c<(a.length:Int) then
 if(0:Int)≤c∧c<(d.length:Int) then
 some (.inl ((wI (c+1)),(d.set c.toNat ((IO (a.getD c.toNat (Ty.zero Aa))).1,(IO (a.getD c.toNat (Ty.zero Aa))).2,()))))
 else none
 else none
 else
 some (.inr d)
def Gh(a:List Aa.V)(z_:Int×(List Aa.V)):=KV a z_.1 z_.2
def J8(a:List Aa.V)(c:Int)(d:List Aa.V):=fix (Gh a) (c,d)
theorem Aj9(a:List Aa.V):LpOk E11 0 3 (code Tryz.f11) [1,1,0,1,0] (AiO a) (Gh a) (Akf a):=by
 intro _
 simp only[Gh,KV,mC,mI,mN,mB,mE,mM]
 kernel_rfl
def Db(a:List Aa.V):Option (List Aa.V) :=
 if Ty.row Aa=true∧(0:Int)≤(a.length:Int)∧(a.length:Int)≤(a.length:Int)∧((24:Nat):Int)*(a.length:Int)≤(281474976710656:Int)∧(a.length:Int)≤(9223372036854775807:Int) then
 (J8 a 0 (List.replicate (a.length:Int).toNat ((⟨#[]⟩:ByteArray),0,()))).bind fun b =>
 some b
 else none
theorem U11(R:Type)(a:List Aa.V)(K:AV→List Blk→Option R):runF E11 Tryz.f11 R [dD (.sl Aa) a] [] K=(Db a).bind fun r=>K (.ref 0) [.row 109 .deep Aa r]:=by
 simp only[Db,bC,bI,bN,bE,bA,bS,bO,bM]
 simp(disch:=refine sI ?_<;>(repeat' refine sA ?_ ?_)<;>intro _<;>kernel_rfl) only[J8,Au (Aj9 _) (K:=finK E11 Tryz.f11 0 R K)]
 kernel_rfl
def c11:Va.Callee:=brC [.d (.sl Aa)] [⟨[.dat [] (.sl Aa)],[],(List Aa.V),fun p=>Db p.1.1,fun r=>(.ref 0,[.row 109 .deep Aa r])⟩]
theorem ZF:SoundC Tryz.prog 11 c11:=Ap (fn:=Tryz.f11) (by kernel_rfl) (by kernel_rfl) (by kernel_rfl) ⟨⟨E11,⟨⟨tabok,An ⟨Aah,trivial⟩⟩,mixed⟩,fun p R K=>U11 R p.1.1 K⟩,trivial⟩
abbrev E12:Env:=⟨tab,lookH [],{deep:=true,heads:=[(3,{live:=[0,3,4]})],outs:=[(3,{live:=[3]})]}⟩
def AhJ(a:List Int)(z_:Int×(List Int)):St:=sT 22 [(0,dD (.sl (.int .u64)) a),(3,.ref 0),(4,dI z_.1)] [.row 216 .deep (.int .u64) z_.2]
def Ah0(a:List Int):(List Int)→Ex×St:=fun b=>((.exit 0),sT 22 [(3,.ref 0)] [.row 216 .deep (.int .u64) b])
def Kj(a:List Int)(c:Int)(d:List Int):Option ((Int×(List Int))⊕(List Int)) :=
 bif decide (c<(a.length:Int)) then
 if(0:Int)≤c∧c<(a.length:Int) then
 if(0:Int)≤c∧c<(d.length:Int) then
 some (.inl ((wI (c+1)),(d.set c.toNat (a.getD c.toNat (Ty.zero (.int .u64))))))
 else none
 else none
 else
 some (.inr d)
def EB(a:List Int)(z_:Int×(List Int)):=Kj a z_.1 z_.2
def IM(a:List Int)(c:Int)(d:List Int):=fix (EB a) (c,d)
theorem AjQ(a:List Int):LpOk E12 0 3 (code Tryz.f247) [1,1,0,1,0] (AhJ a) (EB a) (Ah0 a):=by
 intro _
 simp only[EB,Kj,mC,mI,mN,mB,mE,mM]
 kernel_rfl
def DC(a:List Int):Option (List Int) :=
 if Ty.row (.int .u64)=true∧(0:Int)≤(a.length:Int)∧(a.length:Int)≤(a.length:Int)∧((8:Nat):Int)*(a.length:Int)≤(281474976710656:Int)∧(a.length:Int)≤(9223372036854775807:Int) then
 (IM a 0 (List.replicate (a.length:Int).toNat 0)).bind fun b =>
 some b
 else none
theorem U12(R:Type)(a:List Int)(K:AV→List Blk→Option R):runF E12 Tryz.f247 R [dD (.sl (.int .u64)) a] [] K=(DC a).bind fun r=>K (.ref 0) [.row 216 .deep (.int .u64) r]:=by
 simp only[DC,bC,bI,bN,bE,bA,bS,bO,bM]
 simp(disch:=refine sI ?_<;>(repeat' refine sA ?_ ?_)<;>intro _<;>kernel_rfl) only[IM,Au (AjQ _) (K:=finK E12 Tryz.f247 0 R K)]
 kernel_rfl
def c247:Va.Callee:=brC [.d (.sl (.int .u64))] [⟨[.dat [] (.sl (.int .u64))],[],(List Int),fun p=>DC p.1.1,fun r=>(.ref 0,[.row 216 .deep (.int .u64) r])⟩]
theorem XB:SoundC Tryz.prog 247 c247:=Ap (fn:=Tryz.f247) (by kernel_rfl) (by kernel_rfl) (by kernel_rfl) ⟨⟨E12,⟨⟨tabok,An trivial⟩,mixed⟩,fun p R K=>U12 R p.1.1 K⟩,trivial⟩
abbrev E13:Env:=⟨tab,lookH [(247,c247)],{deep:=true}⟩
def Kk(a:Ah.V):Option (Int×(List Int)) :=
 (DC a.2.1).bind fun b =>
 some (a.1,b)
theorem U13(R:Type)(a:Ah.V)(K:AV→List Blk→Option R):runF E13 Tryz.f218 R [dD Ah a] [] K=(Kk a).bind fun r=>K (.pr (dI r.1) (.pr (.ref 0) .u)) [.row 216 .deep (.int .u64) r.2]:=by
 simp only[Kk,bC,bI,bN,bE,bA,bS,bO,bM]
 kernel_rfl
def c218:Va.Callee:=brC [.d Ah] [⟨[.dat [] Ah],[],(Int×(List Int)),fun p=>Kk p.1.1,fun r=>(.pr (dI r.1) (.pr (.ref 0) .u),[.row 216 .deep (.int .u64) r.2])⟩]
theorem YI:SoundC Tryz.prog 218 c218:=Ap (fn:=Tryz.f218) (by kernel_rfl) (by kernel_rfl) (by kernel_rfl) ⟨⟨E13,⟨⟨tabok,An ⟨XB,trivial⟩⟩,mixed⟩,fun p R K=>U13 R p.1.1 K⟩,trivial⟩
abbrev E14:Env:=⟨tab,lookH [],{deep:=true,heads:=[(3,{live:=[0,3,4]})],outs:=[(3,{live:=[3]})]}⟩
def AgS(a:List Int)(z_:Int×(List Int)):St:=sT 22 [(0,dD (.sl (.int .i64)) a),(3,.ref 0),(4,dI z_.1)] [.row 2 .deep (.int .i64) z_.2]
def Ajn(a:List Int):(List Int)→Ex×St:=fun b=>((.exit 0),sT 22 [(3,.ref 0)] [.row 2 .deep (.int .i64) b])
def Km(a:List Int)(c:Int)(d:List Int):Option ((Int×(List Int))⊕(List Int)) :=
 bif decide (c<(a.length:Int)) then
 if(0:Int)≤c∧c<(a.length:Int) then
 if(0:Int)≤c∧c<(d.length:Int) then
 some (.inl ((wI (c+1)),(d.set c.toNat (a.getD c.toNat (Ty.zero (.int .i64))))))
 else none
 else none
 else
 some (.inr d)
def Fu(a:List Int)(z_:Int×(List Int)):=Km a z_.1 z_.2
def Jt(a:List Int)(c:Int)(d:List Int):=fix (Fu a) (c,d)
theorem Ah1(a:List Int):LpOk E14 0 3 (code Tryz.f145) [1,1,0,1,0] (AgS a) (Fu a) (Ajn a):=by
 intro _
 simp only[Fu,Km,mC,mI,mN,mB,mE,mM]
 kernel_rfl
def EA(a:List Int):Option (List Int) :=
 if Ty.row (.int .i64)=true∧(0:Int)≤(a.length:Int)∧(a.length:Int)≤(a.length:Int)∧((8:Nat):Int)*(a.length:Int)≤(281474976710656:Int)∧(a.length:Int)≤(9223372036854775807:Int) then
 (Jt a 0 (List.replicate (a.length:Int).toNat 0)).bind fun b =>
 some b
 else none
theorem U14(R:Type)(a:List Int)(K:AV→List Blk→Option R):runF E14 Tryz.f145 R [dD (.sl (.int .i64)) a] [] K=(EA a).bind fun r=>K (.ref 0) [.row 2 .deep (.int .i64) r]:=by
 simp only[EA,bC,bI,bN,bE,bA,bS,bO,bM]
 simp(disch:=refine sI ?_<;>(repeat' refine sA ?_ ?_)<;>intro _<;>kernel_rfl) only[Jt,Au (Ah1 _) (K:=finK E14 Tryz.f145 0 R K)]
 kernel_rfl
def c145:Va.Callee:=brC [.d (.sl (.int .i64))] [⟨[.dat [] (.sl (.int .i64))],[],(List Int),fun p=>EA p.1.1,fun r=>(.ref 0,[.row 2 .deep (.int .i64) r])⟩]
theorem WI:SoundC Tryz.prog 145 c145:=Ap (fn:=Tryz.f145) (by kernel_rfl) (by kernel_rfl) (by kernel_rfl) ⟨⟨E14,⟨⟨tabok,An trivial⟩,mixed⟩,fun p R K=>U14 R p.1.1 K⟩,trivial⟩
abbrev E15:Env:=⟨tab,lookH [(145,c145),(218,c218)],{deep:=true}⟩
def HC(a:Ab.V):Option (Int×Int×Int×Int×Int×(List Int)×(List Int)) :=
 (Kk a.2.2.2.2.1).bind fun b =>
 (EA a.2.2.2.2.2.1).bind fun c =>
 some (a.1,a.2.1,a.2.2.1,a.2.2.2.1,b.1,b.2,c)
theorem U15(R:Type)(a:Ab.V)(K:AV→List Blk→Option R):runF E15 Tryz.f179 R [dD Ab a] [] K=(HC a).bind fun r=>K (.pr (dI r.1) (.pr (dI r.2.1) (.pr (dI r.2.2.1) (.pr (dI r.2.2.2.1) (.pr (.pr (dI r.2.2.2.2.1) (.pr (.ref 0) .u)) (.pr (.ref 1) .u)))))) [.row 216 .deep (.int .u64) r.2.2.2.2.2.1,.row 2 .deep (.int .i64) r.2.2.2.2.2.2]:=by
 simp only[HC,bC,bI,bN,bE,bA,bS,bO,bM]
 kernel_rfl
def c179:Va.Callee:=brC [.d Ab] [⟨[.dat [] Ab],[],(Int×Int×Int×Int×Int×(List Int)×(List Int)),fun p=>HC p.1.1,fun r=>(.pr (dI r.1) (.pr (dI r.2.1) (.pr (dI r.2.2.1) (.pr (dI r.2.2.2.1) (.pr (.pr (dI r.2.2.2.2.1) (.pr (.ref 0) .u)) (.pr (.ref 1) .u))))),[.row 216 .deep (.int .u64) r.2.2.2.2.2.1,.row 2 .deep (.int .i64) r.2.2.2.2.2.2])⟩]
theorem XM:SoundC Tryz.prog 179 c179:=Ap (fn:=Tryz.f179) (by kernel_rfl) (by kernel_rfl) (by kernel_rfl) ⟨⟨E15,⟨⟨tabok,An ⟨WI,YI,trivial⟩⟩,mixed⟩,fun p R K=>U15 R p.1.1 K⟩,trivial⟩
end
end Go.Proofs.X
namespace Go.Proofs.X
open Go Go.Va
set_option maxRecDepth 100000
noncomputable section
abbrev E16:Env:=⟨tab,lookH [(179,c179)],{deep:=true,heads:=[(3,{live:=[0,3,4]})],outs:=[(3,{live:=[3]})]}⟩
def Ajh(a:List Ab.V)(z_:Int×(List Ab.V)):St:=sT 23 [(0,dD (.sl Ab) a),(3,.ref 0),(4,dI z_.1)] [.row 231 .deep Ab z_.2]
def AjP(a:List Ab.V):(List Ab.V)→Ex×St:=fun b=>((.exit 0),sT 23 [(3,.ref 0)] [.row 231 .deep Ab b])
def Kv(a:List Ab.V)(c:Int)(d:List Ab.V):Option ((Int×(List Ab.V))⊕(List Ab.V)) :=
 bif decide (c<(a.length:Int)) then
 if(0:Int)≤c∧c<(a.length:Int) then
 (HC (a.getD c.toNat (Ty.zero Ab))).bind fun e =>
 if(0:Int)≤c∧c<(d.length:Int) then
 some (.inl ((wI (c+1)),(d.set c.toNat (e.1,e.2.1,e.2.2.1,e.2.2.2.1,(e.2.2.2.2.1,e.2.2.2.2.2.1,()),e.2.2.2.2.2.2,()))))
 else none
 else none
 else
 some (.inr d)
def FA(a:List Ab.V)(z_:Int×(List Ab.V)):=Kv a z_.1 z_.2
def Jv(a:List Ab.V)(c:Int)(d:List Ab.V):=fix (FA a) (c,d)
theorem AhV(a:List Ab.V):LpOk E16 0 3 (code Tryz.f112) [1,1,0,1,0] (Ajh a) (FA a) (AjP a):=by
 intro _
 simp only[FA,Kv,mC,mI,mN,mB,mE,mM]
 kernel_rfl
def Gm(a:List Ab.V):Option (List Ab.V) :=
 if Ty.row Ab=true∧(0:Int)≤(a.length:Int)∧(a.length:Int)≤(a.length:Int)∧((88:Nat):Int)*(a.length:Int)≤(281474976710656:Int)∧(a.length:Int)≤(9223372036854775807:Int) then
 (Jv a 0 (List.replicate (a.length:Int).toNat (0,0,0,0,(0,([]:List Int),()),([]:List Int),()))).bind fun b =>
 some b
 else none
theorem U16(R:Type)(a:List Ab.V)(K:AV→List Blk→Option R):runF E16 Tryz.f112 R [dD (.sl Ab) a] [] K=(Gm a).bind fun r=>K (.ref 0) [.row 231 .deep Ab r]:=by
 simp only[Gm,bC,bI,bN,bE,bA,bS,bO,bM]
 simp(disch:=refine sI ?_<;>(repeat' refine sA ?_ ?_)<;>intro _<;>kernel_rfl) only[Jv,Au (AhV _) (K:=finK E16 Tryz.f112 0 R K)]
 kernel_rfl
def c112:Va.Callee:=brC [.d (.sl Ab)] [⟨[.dat [] (.sl Ab)],[],(List Ab.V),fun p=>Gm p.1.1,fun r=>(.ref 0,[.row 231 .deep Ab r])⟩]
theorem W1:SoundC Tryz.prog 112 c112:=Ap (fn:=Tryz.f112) (by kernel_rfl) (by kernel_rfl) (by kernel_rfl) ⟨⟨E16,⟨⟨tabok,An ⟨XM,trivial⟩⟩,mixed⟩,fun p R K=>U16 R p.1.1 K⟩,trivial⟩
abbrev E17:Env:=⟨tab,lookH [(112,c112)],{deep:=true}⟩
def Hn(a:Aj.V):Option (List Ab.V) :=
 (Gm a.1).bind fun b =>
 some b
theorem U17(R:Type)(a:Aj.V)(K:AV→List Blk→Option R):runF E17 Tryz.f43 R [dD Aj a] [] K=(Hn a).bind fun r=>K (.pr (.ref 0) .u) [.row 231 .deep Ab r]:=by
 simp only[Hn,bC,bI,bN,bE,bA,bS,bO,bM]
 kernel_rfl
def c43:Va.Callee:=brC [.d Aj] [⟨[.dat [] Aj],[],(List Ab.V),fun p=>Hn p.1.1,fun r=>(.pr (.ref 0) .u,[.row 231 .deep Ab r])⟩]
theorem Abo:SoundC Tryz.prog 43 c43:=Ap (fn:=Tryz.f43) (by kernel_rfl) (by kernel_rfl) (by kernel_rfl) ⟨⟨E17,⟨⟨tabok,An ⟨W1,trivial⟩⟩,mixed⟩,fun p R K=>U17 R p.1.1 K⟩,trivial⟩
abbrev E18:Env:=⟨tab,lookH [(43,c43)],{deep:=true}⟩
def ER(a:Ae.V):Option (Int×Bool×(List Ab.V)×(List Ab.V)) :=
 (Hn a.2.2.1).bind fun b =>
 (Hn a.2.2.2.1).bind fun c =>
 some (a.1,a.2.1,b,c)
theorem U18(R:Type)(a:Ae.V)(K:AV→List Blk→Option R):runF E18 Tryz.f24 R [dD Ae a] [] K=(ER a).bind fun r=>K (.pr (dI r.1) (.pr (dB r.2.1) (.pr (.pr (.ref 0) .u) (.pr (.pr (.ref 1) .u) .u)))) [.row 231 .deep Ab r.2.2.1,.row 231 .deep Ab r.2.2.2]:=by
 simp only[ER,bC,bI,bN,bE,bA,bS,bO,bM]
 kernel_rfl
def c24:Va.Callee:=brC [.d Ae] [⟨[.dat [] Ae],[],(Int×Bool×(List Ab.V)×(List Ab.V)),fun p=>ER p.1.1,fun r=>(.pr (dI r.1) (.pr (dB r.2.1) (.pr (.pr (.ref 0) .u) (.pr (.pr (.ref 1) .u) .u))),[.row 231 .deep Ab r.2.2.1,.row 231 .deep Ab r.2.2.2])⟩]
theorem Abr:SoundC Tryz.prog 24 c24:=Ap (fn:=Tryz.f24) (by kernel_rfl) (by kernel_rfl) (by kernel_rfl) ⟨⟨E18,⟨⟨tabok,An ⟨Abo,trivial⟩⟩,mixed⟩,fun p R K=>U18 R p.1.1 K⟩,trivial⟩
abbrev E19:Env:=⟨tab,lookH [(24,c24)],{deep:=true,heads:=[(3,{live:=[0,3,4]})],outs:=[(3,{live:=[3]})]}⟩
def Ahq(a:List Ae.V)(z_:Int×(List Ae.V)):St:=sT 23 [(0,dD (.sl Ae) a),(3,.ref 0),(4,dI z_.1)] [.row 58 .deep Ae z_.2]
def AkF(a:List Ae.V):(List Ae.V)→Ex×St:=fun b=>((.exit 0),sT 23 [(3,.ref 0)] [.row 58 .deep Ae b])
def JC(a:List Ae.V)(c:Int)(d:List Ae.V):Option ((Int×(List Ae.V))⊕(List Ae.V)) :=
 bif decide (c<(a.length:Int)) then
 if(0:Int)≤c∧c<(a.length:Int) then
 (ER (a.getD c.toNat (Ty.zero Ae))).bind fun e =>
 if(0:Int)≤c∧c<(d.length:Int) then
 some (.inl ((wI (c+1)),(d.set c.toNat (e.1,e.2.1,(e.2.2.1,()),(e.2.2.2,()),()))))
 else none
 else none
 else
 some (.inr d)
def DN(a:List Ae.V)(z_:Int×(List Ae.V)):=JC a z_.1 z_.2
def HU(a:List Ae.V)(c:Int)(d:List Ae.V):=fix (DN a) (c,d)
theorem Aj7(a:List Ae.V):LpOk E19 0 3 (code Tryz.f12) [1,1,0,1,0] (Ahq a) (DN a) (AkF a):=by
 intro _
 simp only[DN,JC,mC,mI,mN,mB,mE,mM]
 kernel_rfl
def Bi(a:List Ae.V):Option (List Ae.V) :=
 if Ty.row Ae=true∧(0:Int)≤(a.length:Int)∧(a.length:Int)≤(a.length:Int)∧((64:Nat):Int)*(a.length:Int)≤(281474976710656:Int)∧(a.length:Int)≤(9223372036854775807:Int) then
 (HU a 0 (List.replicate (a.length:Int).toNat (0,false,(([]:List Ab.V),()),(([]:List Ab.V),()),()))).bind fun b =>
 some b
 else none
theorem U19(R:Type)(a:List Ae.V)(K:AV→List Blk→Option R):runF E19 Tryz.f12 R [dD (.sl Ae) a] [] K=(Bi a).bind fun r=>K (.ref 0) [.row 58 .deep Ae r]:=by
 simp only[Bi,bC,bI,bN,bE,bA,bS,bO,bM]
 simp(disch:=refine sI ?_<;>(repeat' refine sA ?_ ?_)<;>intro _<;>kernel_rfl) only[HU,Au (Aj7 _) (K:=finK E19 Tryz.f12 0 R K)]
 kernel_rfl
def c12:Va.Callee:=brC [.d (.sl Ae)] [⟨[.dat [] (.sl Ae)],[],(List Ae.V),fun p=>Bi p.1.1,fun r=>(.ref 0,[.row 58 .deep Ae r])⟩]
theorem Aa4:SoundC Tryz.prog 12 c12:=Ap (fn:=Tryz.f12) (by kernel_rfl) (by kernel_rfl) (by kernel_rfl) ⟨⟨E19,⟨⟨tabok,An ⟨Abr,trivial⟩⟩,mixed⟩,fun p R K=>U19 R p.1.1 K⟩,trivial⟩
abbrev E20:Env:=⟨tab,lookH [],{deep:=true}⟩
def HD(a:Int):Bool:=((decide (a≥48))&&(decide (a≤57)))
theorem U20(R:Type)(a:Int)(K:AV→List Blk→Option R):runF E20 Tryz.f222 R [dD (.int .u8) a] [] K=K (dB (HD a)) []:=by
 have h:runF E20 Tryz.f222 R [dD (.int .u8) a] [] K =
 bif decide (a≥48) then
 K (dB (decide (a≤57))) []
 else
 K (dB false) []:=by kernel_rfl
 rw[h]
 unfold HD
 cases h1:(decide (a≥48))
 ·first | rfl | kernel_rfl
 ·first | rfl | kernel_rfl
def c222:Va.Callee:=brC [.d (.int .u8)] [⟨[.dat [] (.int .u8)],[],Bool,fun p=>some (HD p.1.1),fun r=>(dB r,[])⟩]
theorem XL:SoundC Tryz.prog 222 c222:=Ap (fn:=Tryz.f222) (by kernel_rfl) (by kernel_rfl) (by kernel_rfl) ⟨⟨E20,⟨⟨tabok,An trivial⟩,mixed⟩,fun p R K=>U20 R p.1.1 K⟩,trivial⟩
abbrev E21:Env:=⟨tab,lookH [(222,c222)],{deep:=true,heads:=[(4,{live:=[0,3]})],outs:=[(4,{live:=[2]})],joins:=[(2,{live:=[0,16]}),(7,{live:=[0,3,39]})],ents:=[(2,[0]),(7,[0,3])]}⟩
def Ai7(a:ByteArray)(z_:Int):St:=sT 40 [(0,dD .str a),(3,dI z_)] []
def Ajm(a:ByteArray):(Unit⊕Unit)→Ex×St:=Sum.elim (fun b=>(.ret,sT 40 [(2,dB false)] [])) (fun c=>((.exit 0),sT 40 [] []))
def Agb(a:ByteArray)(d:Int):St:=sT 40 [(0,dD .str a),(3,dI d)] []
def Agk(a:ByteArray)(d:Int):Bool→Ex×St:=fun e=>(.normal,sT 40 [(0,dD .str a),(3,dI d),(39,dB e)] [])
def GG(a:ByteArray)(d:Int):Option Bool :=
 if(0:Int)≤d∧d<(a.size:Int) then
 bif !(HD (bgetI a d)) then
 if(0:Int)≤d∧d<(a.size:Int) then
 bif decide ((bgetI a d)<97) then
 some true
 else
 if(0:Int)≤d∧d<(a.size:Int) then
 some (decide ((bgetI a d)>122))
 else none
 else none
 else
 some false
 else none
theorem Afb(a:ByteArray)(d:Int):JnOk E21 0 7 (sub (code Tryz.f186) [1,1,0,1,0,0]) [1,0,0,0] (Agb a d) (GG a d) (Agk a d):=by
 unfold JnOk
 simp only[GG,mC,mI,mN,mB,mE,mM]
 kernel_rfl
def He(a:ByteArray)(d:Int):Option (Int⊕(Unit⊕Unit)) :=
 bif decide (d<(a.size:Int)) then
 (GG a d).bind fun e =>
 bif e then
 some (.inr (.inl ()))
 else
 some (.inl (wI (d+1)))
 else
 some (.inr (.inr ()))
def EK(a:ByteArray)(z_:Int):=He a z_
def KK(a:ByteArray)(d:Int):=fix (EK a) d
theorem Aj2(a:ByteArray):LpOk E21 0 4 (code Tryz.f186) [1,1,0,1,0] (Ai7 a) (EK a) (Ajm a):=by
 intro _
 simp only[EK,He,mC,mI,mN,mB,mE,mM]
 simp(disch:=refine sI ?_<;>(repeat' refine sA ?_ ?_)<;>intro _<;>kernel_rfl) only[Bn (Afb _ _) (K:=stepK 0 (E21.hd 4) (E21.ot 4))]
 kernel_rfl
def AhD(a:ByteArray):St:=sT 40 [(0,dD .str a)] []
def AfS(a:ByteArray):Bool→Ex×St:=fun g=>(.normal,sT 40 [(0,dD .str a),(16,dB g)] [])
def Jg(a:ByteArray):Option Bool :=
 bif decide ((a.size:Int)<1) then
 some true
 else
 bif decide ((a.size:Int)>12) then
 some true
 else
 if(0:Int)≤(0:Int)∧(0:Int)<(a.size:Int) then
 some (HD (bgetI a 0))
 else none
theorem AjL(a:ByteArray):JnOk E21 0 2 (code Tryz.f186) [1,0,0] (AhD a) (Jg a) (AfS a):=by
 unfold JnOk
 simp only[Jg,mC,mI,mN,mB,mE,mM]
 kernel_rfl
def Hp(a:ByteArray):Option Bool :=
 (Jg a).bind fun g =>
 bif g then
 some false
 else
 (KK a 0).bind (Sum.elim (fun b =>
 some false) (fun c =>
 some true))
theorem U21(R:Type)(a:ByteArray)(K:AV→List Blk→Option R):runF E21 Tryz.f186 R [dD .str a] [] K=(Hp a).bind fun r=>K (dB r) []:=by
 simp only[Hp,bC,bI,bN,bE,bA,bS,bO,bM]
 simp(disch:=refine sI ?_<;>(repeat' refine sA ?_ ?_)<;>intro _<;>kernel_rfl) only[Bn (AjL _) (K:=finK E21 Tryz.f186 0 R K),KK,Au (Aj2 _) (K:=finK E21 Tryz.f186 0 R K)]
 kernel_rfl
def c186:Va.Callee:=brC [.d .str] [⟨[.dat [] .str],[],Bool,fun p=>Hp p.1.1,fun r=>(dB r,[])⟩]
theorem YT:SoundC Tryz.prog 186 c186:=Ap (fn:=Tryz.f186) (by kernel_rfl) (by kernel_rfl) (by kernel_rfl) ⟨⟨E21,⟨⟨tabok,An ⟨XL,trivial⟩⟩,mixed⟩,fun p R K=>U21 R p.1.1 K⟩,trivial⟩
abbrev E22:Env:=⟨tab,lookH [],{deep:=true}⟩
def Ay(a b c:Int):Bool:=((decide (a≥b))&&(decide (a≤c)))
theorem U22(R:Type)(a b c:Int)(K:AV→List Blk→Option R):runF E22 Tryz.f52 R [dI a,dI b,dI c] [] K=K (dB (Ay a b c)) []:=by
 have h:runF E22 Tryz.f52 R [dI a,dI b,dI c] [] K =
 bif decide (a≥b) then
 K (dB (decide (a≤c))) []
 else
 K (dB false) []:=by kernel_rfl
 rw[h]
 unfold Ay
 cases h1:(decide (a≥b))
 ·first | rfl | kernel_rfl
 ·first | rfl | kernel_rfl
def c52:Va.Callee:=brC [.d (.int .i64),.d (.int .i64),.d (.int .i64)] [⟨[.dat [] (.int .i64),.dat [] (.int .i64),.dat [] (.int .i64)],[],Bool,fun p=>some (Ay p.1.1 p.1.2.1 p.1.2.2.1),fun r=>(dB r,[])⟩]
theorem KI:SoundC Tryz.prog 52 c52:=Ap (fn:=Tryz.f52) (by kernel_rfl) (by kernel_rfl) (by kernel_rfl) ⟨⟨E22,⟨⟨tabok,An trivial⟩,mixed⟩,fun p R K=>U22 R p.1.1 p.1.2.1 p.1.2.2.1 K⟩,trivial⟩
abbrev E23:Env:=⟨tab,lookH [(52,c52),(186,c186)],{deep:=true,heads:=[(5,{live:=[0,3,4]}),(10,{live:=[0,3,4,5]})],outs:=[(5,{live:=[2,3]}),(10,{live:=[0,2,3,4]})],joins:=[(8,{live:=[0,3,4,30]})],ents:=[(8,[0,3,4])]}⟩
def AgO(a:List Aa.V)(z_:Int×Int):St:=sT 56 [(0,dD (.sl Aa) a),(3,dI z_.1),(4,dI z_.2)] []
def Ai8(a:List Aa.V):(Int⊕Int)→Ex×St:=Sum.elim (fun b=>(.ret,sT 56 [(2,dB false),(3,dI b)] [])) (fun c=>((.exit 0),sT 56 [(3,dI c)] []))
def AfV(a:List Aa.V)(d e z_:Int):St:=sT 56 [(0,dD (.sl Aa) a),(3,dI d),(4,dI e),(5,dI z_)] []
def Ajz(a:List Aa.V)(d e:Int):(Unit⊕Unit)→Ex×St:=Sum.elim (fun g=>(.ret,sT 56 [(0,dD (.sl Aa) a),(2,dB false),(3,dI d),(4,dI e)] [])) (fun i=>((.exit 2),sT 56 [(0,dD (.sl Aa) a),(3,dI d),(4,dI e)] []))
def FX(a:List Aa.V)(d e j:Int):Option (Int⊕(Unit⊕Unit)) :=
 bif decide (j<e) then
 if(0:Int)≤j∧j<(a.length:Int) then
 if(0:Int)≤e∧e<(a.length:Int) then
 bif strEq (a.getD j.toNat (Ty.zero Aa)).1 (a.getD e.toNat (Ty.zero Aa)).1 then
 some (.inr (.inl ()))
 else
 some (.inl (wI (j+1)))
 else none
 else none
 else
 some (.inr (.inr ()))
def Ea(a:List Aa.V)(d e z_:Int):=FX a d e z_
def JZ(a:List Aa.V)(d e j:Int):=fix (Ea a d e) j
theorem Aiv(a:List Aa.V)(d e:Int):LpOk E23 0 10 (sub (code Tryz.f119) [1,1,1,0,1,0,0]) [1,0,0,1,0,1,0] (AfV a d e) (Ea a d e) (Ajz a d e):=by
 intro _
 simp only[Ea,FX,mC,mI,mN,mB,mE,mM]
 kernel_rfl
def Afo(a:List Aa.V)(d e:Int):St:=sT 56 [(0,dD (.sl Aa) a),(3,dI d),(4,dI e)] []
def Afd(a:List Aa.V)(d e:Int):Bool→Ex×St:=fun k=>(.normal,sT 56 [(0,dD (.sl Aa) a),(3,dI d),(4,dI e),(30,dB k)] [])
def Ic(a:List Aa.V)(d e:Int):Option Bool :=
 if(0:Int)≤e∧e<(a.length:Int) then
 (Hp (a.getD e.toNat (Ty.zero Aa)).1).bind fun l =>
 bif !l then
 some true
 else
 if(0:Int)≤e∧e<(a.length:Int) then
 some (!(Ay (a.getD e.toNat (Ty.zero Aa)).2.1 1 4096))
 else none
 else none
theorem Aip(a:List Aa.V)(d e:Int):JnOk E23 0 8 (sub (code Tryz.f119) [1,1,1,0,1,0,0]) [1,0,0,0,0] (Afo a d e) (Ic a d e) (Afd a d e):=by
 unfold JnOk
 simp only[Ic,mC,mI,mN,mB,mE,mM]
 kernel_rfl
def F0(a:List Aa.V)(d e:Int):Option ((Int×Int)⊕(Int⊕Int)) :=
 bif decide (e<(a.length:Int)) then
 (Ic a d e).bind fun k =>
 bif k then
 some (.inr (.inl d))
 else
 (JZ a d e 0).bind (Sum.elim (fun g =>
 some (.inr (.inl d))) (fun i =>
 if(0:Int)≤e∧e<(a.length:Int) then
 some (.inl ((wI (d+(a.getD e.toNat (Ty.zero Aa)).2.1)),(wI (e+1))))
 else none))
 else
 some (.inr (.inr d))
def Eh(a:List Aa.V)(z_:Int×Int):=F0 a z_.1 z_.2
def JY(a:List Aa.V)(d e:Int):=fix (Eh a) (d,e)
theorem AgB(a:List Aa.V):LpOk E23 0 5 (code Tryz.f119) [1,1,1,0,1,0] (AgO a) (Eh a) (Ai8 a):=by
 intro _
 simp only[Eh,F0,mC,mI,mN,mB,mE,mM]
 simp(disch:=refine sI ?_<;>(repeat' refine sA ?_ ?_)<;>intro _<;>kernel_rfl) only[Bn (Aip _ _ _) (K:=stepK 0 (E23.hd 5) (E23.ot 5)),JZ,Au (Aiv _ _ _) (K:=stepK 0 (E23.hd 5) (E23.ot 5))]
 kernel_rfl
def En(a:List Aa.V):Option Bool :=
 bif decide ((a.length:Int)>60) then
 some false
 else
 (JY a 0 0).bind (Sum.elim (fun b =>
 some false) (fun c =>
 some (decide (c≤20000))))
theorem U23(R:Type)(a:List Aa.V)(K:AV→List Blk→Option R):runF E23 Tryz.f119 R [dD (.sl Aa) a] [] K=(En a).bind fun r=>K (dB r) []:=by
 simp only[En,bC,bI,bN,bE,bA,bS,bO,bM]
 simp(disch:=refine sI ?_<;>(repeat' refine sA ?_ ?_)<;>intro _<;>kernel_rfl) only[JY,Au (AgB _) (K:=finK E23 Tryz.f119 0 R K)]
 kernel_rfl
def c119:Va.Callee:=brC [.d (.sl Aa)] [⟨[.dat [] (.sl Aa)],[],Bool,fun p=>En p.1.1,fun r=>(dB r,[])⟩]
theorem OW:SoundC Tryz.prog 119 c119:=Ap (fn:=Tryz.f119) (by kernel_rfl) (by kernel_rfl) (by kernel_rfl) ⟨⟨E23,⟨⟨tabok,An ⟨KI,YT,trivial⟩⟩,mixed⟩,fun p R K=>U23 R p.1.1 K⟩,trivial⟩
end
end Go.Proofs.X
namespace Go.Proofs.X
open Go Go.Va
set_option maxRecDepth 100000
noncomputable section
abbrev E24:Env:=⟨tab,lookH [],{deep:=true}⟩
def A8(a:Ah.V):Bool:=((a.1==0)&&((a.2.1.length:Int)==0))
theorem U24(R:Type)(a:Ah.V)(K:AV→List Blk→Option R):runF E24 Tryz.f251 R [dD Ah a] [] K=K (dB (A8 a)) []:=by
 have h:runF E24 Tryz.f251 R [dD Ah a] [] K =
 bif a.1==0 then
 K (dB ((a.2.1.length:Int)==0)) []
 else
 K (dB false) []:=by kernel_rfl
 rw[h]
 unfold A8
 cases h1:(a.1==0)
 ·first | rfl | kernel_rfl
 ·first | rfl | kernel_rfl
def c251:Va.Callee:=brC [.d Ah] [⟨[.dat [] Ah],[],Bool,fun p=>some (A8 p.1.1),fun r=>(dB r,[])⟩]
theorem YA:SoundC Tryz.prog 251 c251:=Ap (fn:=Tryz.f251) (by kernel_rfl) (by kernel_rfl) (by kernel_rfl) ⟨⟨E24,⟨⟨tabok,An trivial⟩,mixed⟩,fun p R K=>U24 R p.1.1 K⟩,trivial⟩
abbrev E25:Env:=⟨tab,lookH [(52,c52)],{deep:=true}⟩
def As(a:Int):Bool:=(Ay a 4 9)
theorem U25(R:Type)(a:Int)(K:AV→List Blk→Option R):runF E25 Tryz.f252 R [dI a] [] K=K (dB (As a)) []:=by
 kernel_rfl
def c252:Va.Callee:=brC [.d (.int .i64)] [⟨[.dat [] (.int .i64)],[],Bool,fun p=>some (As p.1.1),fun r=>(dB r,[])⟩]
theorem Yl:SoundC Tryz.prog 252 c252:=Ap (fn:=Tryz.f252) (by kernel_rfl) (by kernel_rfl) (by kernel_rfl) ⟨⟨E25,⟨⟨tabok,An ⟨KI,trivial⟩⟩,mixed⟩,fun p R K=>U25 R p.1.1 K⟩,trivial⟩
abbrev E26:Env:=⟨tab,lookH [],{deep:=true}⟩
def D6(a:Ah.V)(b:Int):Option Int :=
 if(0:Int)≤(wI (Int.tdiv b 64))∧(wI (Int.tdiv b 64))<(a.2.1.length:Int) then
 if(IntKind.u64.wrap (Int.tmod b 64))<(0:Int) then none else
 some (IntKind.u8.wrap (andI .u64 (shrI .u64 (a.2.1.getD (wI (Int.tdiv b 64)).toNat (Ty.zero (.int .u64))) (IntKind.u64.wrap (Int.tmod b 64))) 1))
 else none
theorem U26(R:Type)(a:Ah.V)(b:Int)(K:AV→List Blk→Option R):runF E26 Tryz.f188 R [dD Ah a,dI b] [] K=(D6 a b).bind fun r=>K (dD (.int .u8) r) []:=by
 simp only[D6,bC,bI,bN,bE,bA,bS,bO,bM]
 kernel_rfl
def c188:Va.Callee:=brC [.d Ah,.d (.int .i64)] [⟨[.dat [] Ah,.dat [] (.int .i64)],[],Int,fun p=>D6 p.1.1 p.1.2.1,fun r=>(dD (.int .u8) r,[])⟩]
theorem Pz:SoundC Tryz.prog 188 c188:=Ap (fn:=Tryz.f188) (by kernel_rfl) (by kernel_rfl) (by kernel_rfl) ⟨⟨E26,⟨⟨tabok,An trivial⟩,mixed⟩,fun p R K=>U26 R p.1.1 p.1.2.1 K⟩,trivial⟩
abbrev E27:Env:=⟨tab,lookH [(52,c52),(188,c188)],{deep:=true,heads:=[(4,{live:=[1,3]})],outs:=[(4,{live:=[2]})],joins:=[(2,{live:=[1,17]})],ents:=[(2,[1])]}⟩
def AeY(a:Ah.V)(z_:Int):St:=sT 32 [(1,.ptr 0 0 [] 0),(3,dI z_)] [.box (dD Ah a)]
def AeS(a:Ah.V):(Unit⊕Unit)→Ex×St:=Sum.elim (fun b=>(.ret,sT 32 [(2,dB false)] [])) (fun c=>((.exit 0),sT 32 [] []))
def GN(a:Ah.V)(d:Int):Option (Int⊕(Unit⊕Unit)) :=
 bif decide (d<(wI (64*(a.2.1.length:Int)))) then
 (D6 a d).bind fun e =>
 bif e !=0 then
 some (.inr (.inl ()))
 else
 some (.inl (wI (d+1)))
 else
 some (.inr (.inr ()))
def EH(a:Ah.V)(z_:Int):=GN a z_
def KN(a:Ah.V)(d:Int):=fix (EH a) d
theorem AhG(a:Ah.V):LpOk E27 0 4 (code Tryz.f253) [1,1,0,1,0] (AeY a) (EH a) (AeS a):=by
 intro _
 simp only[EH,GN,mC,mI,mN,mB,mE,mM]
 kernel_rfl
def Abm(a:Ah.V):St:=sT 32 [(1,.ptr 0 0 [] 0)] [.box (dD Ah a)]
def Abh(a:Ah.V)(m0:Bool):Ex×St:=(.normal,sT 32 [(1,.ptr 0 0 [] 0),(17,dB m0)] [.box (dD Ah a)])
theorem AiM(a:Ah.V):jnS E27 0 2 (code Tryz.f253) [1,0,0] (Abm a)=some (Abh a ((!(Ay a.1 1 4096))||((a.2.1.length:Int) !=(wI (Int.tdiv (wI (a.1+63)) 64))))):=by
 have h0:jnS E27 0 2 (code Tryz.f253) [1,0,0] (Abm a) =
 bif !(Ay a.1 1 4096) then
 some (Abh a true)
 else
 some (Abh a ((a.2.1.length:Int) !=(wI (Int.tdiv (wI (a.1+63)) 64)))):=by kernel_rfl
 rw[h0]
 cases h1:(!(Ay a.1 1 4096))
 ·first | rfl | kernel_rfl
 ·first | rfl | kernel_rfl
def Hy(a:Ah.V):Option Bool :=
 mkr (Abm a) (
 bif (!(Ay a.1 1 4096))||((a.2.1.length:Int) !=(wI (Int.tdiv (wI (a.1+63)) 64))) then
 some false
 else
 (KN a a.1).bind (Sum.elim (fun b =>
 some false) (fun c =>
 some true)))
theorem U27(R:Type)(a:Ah.V)(K:AV→List Blk→Option R):runF E27 Tryz.f253 R [dD Ah a] [] K=(Hy a).bind fun r=>K (dB r) []:=by
 simp only[Hy,bC,bI,bN,bE,bA,bS,bO,bM]
 simp(disch:=refine sI ?_<;>(repeat' refine sA ?_ ?_)<;>intro _<;>kernel_rfl) only[Hs (AiM _) (K:=finK E27 Tryz.f253 0 R K),KN,Au (AhG _) (K:=finK E27 Tryz.f253 0 R K)]
 kernel_rfl
def c253:Va.Callee:=brC [.d Ah] [⟨[.dat [] Ah],[],Bool,fun p=>Hy p.1.1,fun r=>(dB r,[])⟩]
theorem WS:SoundC Tryz.prog 253 c253:=Ap (fn:=Tryz.f253) (by kernel_rfl) (by kernel_rfl) (by kernel_rfl) ⟨⟨E27,⟨⟨tabok,An ⟨KI,Pz,trivial⟩⟩,mixed⟩,fun p R K=>U27 R p.1.1 K⟩,trivial⟩
abbrev E28:Env:=⟨tab,lookH [(52,c52),(251,c251),(252,c252),(253,c253)],{deep:=true,heads:=[(2,{live:=[0,2,4,7]})],outs:=[(2,{live:=[0,4,6]})],joins:=[(7,{live:=[0,4,63]}),(8,{live:=[0,4,6]})],ents:=[(7,[0,4]),(8,[0,4])]}⟩
def Ah6(a:List Aa.V)(b:Ab.V):St:=sT 109 [(0,dD (.sl Aa) a),(4,.ptr 0 0 [] 0)] [.box (dD Ab b)]
def AeQ(a:List Aa.V)(b:Ab.V):(Unit⊕Unit)→Ex×St:=Sum.elim (fun c=>(.ret,sT 109 [(0,dD (.sl Aa) a),(4,.ptr 0 0 [] 0),(6,dB false)] [.box (dD Ab b)])) (fun d=>(.normal,sT 109 [(0,dD (.sl Aa) a),(4,.ptr 0 0 [] 0)] [.box (dD Ab b)]))
def Z2(a:List Aa.V)(b:Ab.V):St:=sT 109 [(0,dD (.sl Aa) a),(4,.ptr 0 0 [] 0)] [.box (dD Ab b)]
def JJ(a:List Aa.V)(b:Ab.V)(m0:Bool):Ex×St:=(.normal,sT 109 [(0,dD (.sl Aa) a),(4,.ptr 0 0 [] 0),(63,dB m0)] [.box (dD Ab b)])
theorem Afu(a:List Aa.V)(b:Ab.V):jnS E28 0 7 (sub (code Tryz.f223) [1,1,0]) [0] (Z2 a b)=some (JJ a b (bif b.1 !=1 then((b.2.1 !=0)||(bif b.1 !=2 then((!(A8 b.2.2.2.2.1))||(bif b.1 !=4 then((b.2.2.2.1 !=0)||((!(As b.1))&&(b.2.2.1 !=0))) else((!(As b.1))&&(b.2.2.1 !=0)))) else(bif b.1 !=4 then((b.2.2.2.1 !=0)||((!(As b.1))&&(b.2.2.1 !=0))) else((!(As b.1))&&(b.2.2.1 !=0))))) else(bif b.1 !=2 then((!(A8 b.2.2.2.2.1))||(bif b.1 !=4 then((b.2.2.2.1 !=0)||((!(As b.1))&&(b.2.2.1 !=0))) else((!(As b.1))&&(b.2.2.1 !=0)))) else(bif b.1 !=4 then((b.2.2.2.1 !=0)||((!(As b.1))&&(b.2.2.1 !=0))) else((!(As b.1))&&(b.2.2.1 !=0)))))):=by
 have h0:jnS E28 0 7 (sub (code Tryz.f223) [1,1,0]) [0] (Z2 a b) =
 bif b.1 !=1 then
 bif b.2.1 !=0 then
 some (JJ a b true)
 else
 bif b.1 !=2 then
 bif !(A8 b.2.2.2.2.1) then
 some (JJ a b true)
 else
 bif b.1 !=4 then
 bif b.2.2.2.1 !=0 then
 some (JJ a b true)
 else
 bif !(As b.1) then
 some (JJ a b (b.2.2.1 !=0))
 else
 some (JJ a b false)
 else
 bif !(As b.1) then
 some (JJ a b (b.2.2.1 !=0))
 else
 some (JJ a b false)
 else
 bif b.1 !=4 then
 bif b.2.2.2.1 !=0 then
 some (JJ a b true)
 else
 bif !(As b.1) then
 some (JJ a b (b.2.2.1 !=0))
 else
 some (JJ a b false)
 else
 bif !(As b.1) then
 some (JJ a b (b.2.2.1 !=0))
 else
 some (JJ a b false)
 else
 bif b.1 !=2 then
 bif !(A8 b.2.2.2.2.1) then
 some (JJ a b true)
 else
 bif b.1 !=4 then
 bif b.2.2.2.1 !=0 then
 some (JJ a b true)
 else
 bif !(As b.1) then
 some (JJ a b (b.2.2.1 !=0))
 else
 some (JJ a b false)
 else
 bif !(As b.1) then
 some (JJ a b (b.2.2.1 !=0))
 else
 some (JJ a b false)
 else
 bif b.1 !=4 then
 bif b.2.2.2.1 !=0 then
 some (JJ a b true)
 else
 bif !(As b.1) then
 some (JJ a b (b.2.2.1 !=0))
 else
 some (JJ a b false)
 else
 bif !(As b.1) then
 some (JJ a b (b.2.2.1 !=0))
 else
 some (JJ a b false):=by kernel_rfl
 rw[h0]
 cases h1:(b.1 !=1)
 ·cases h2:(b.1 !=2)
  ·cases h3:(b.1 !=4)
   ·cases h4:(!(As b.1))
    ·first | rfl | kernel_rfl
    ·first | rfl | kernel_rfl
   ·cases h4:(b.2.2.2.1 !=0)
    ·cases h5:(!(As b.1))
     ·first | rfl | kernel_rfl
     ·first | rfl | kernel_rfl
    ·first | rfl | kernel_rfl
  ·cases h3:(!(A8 b.2.2.2.2.1))
   ·cases h4:(b.1 !=4)
    ·cases h5:(!(As b.1))
     ·first | rfl | kernel_rfl
     ·first | rfl | kernel_rfl
    ·cases h5:(b.2.2.2.1 !=0)
     ·cases h6:(!(As b.1))
      ·first | rfl | kernel_rfl
      ·first | rfl | kernel_rfl
     ·first | rfl | kernel_rfl
   ·first | rfl | kernel_rfl
 ·cases h2:(b.2.1 !=0)
  ·cases h3:(b.1 !=2)
   ·cases h4:(b.1 !=4)
    ·cases h5:(!(As b.1))
     ·first | rfl | kernel_rfl
     ·first | rfl | kernel_rfl
    ·cases h5:(b.2.2.2.1 !=0)
     ·cases h6:(!(As b.1))
      ·first | rfl | kernel_rfl
      ·first | rfl | kernel_rfl
     ·first | rfl | kernel_rfl
   ·cases h4:(!(A8 b.2.2.2.2.1))
    ·cases h5:(b.1 !=4)
     ·cases h6:(!(As b.1))
      ·first | rfl | kernel_rfl
      ·first | rfl | kernel_rfl
     ·cases h6:(b.2.2.2.1 !=0)
      ·cases h7:(!(As b.1))
       ·first | rfl | kernel_rfl
       ·first | rfl | kernel_rfl
      ·first | rfl | kernel_rfl
    ·first | rfl | kernel_rfl
  ·first | rfl | kernel_rfl
def Jj(a:List Aa.V)(b:Ab.V):Option (Unit⊕Unit) :=
 mkr (Z2 a b) (
 bif bif (b.1 !=1) then((b.2.1 !=0)||(bif (b.1 !=2) then((!(A8 b.2.2.2.2.1))||(bif (b.1 !=4) then((b.2.2.2.1 !=0)||((!(As b.1))&&(b.2.2.1 !=0))) else((!(As b.1))&&(b.2.2.1 !=0)))) else(bif (b.1 !=4) then((b.2.2.2.1 !=0)||((!(As b.1))&&(b.2.2.1 !=0))) else((!(As b.1))&&(b.2.2.1 !=0))))) else(bif (b.1 !=2) then((!(A8 b.2.2.2.2.1))||(bif (b.1 !=4) then((b.2.2.2.1 !=0)||((!(As b.1))&&(b.2.2.1 !=0))) else((!(As b.1))&&(b.2.2.1 !=0)))) else(bif (b.1 !=4) then((b.2.2.2.1 !=0)||((!(As b.1))&&(b.2.2.1 !=0))) else((!(As b.1))&&(b.2.2.1 !=0)))) then
 some (.inl ())
 else
 some (.inr ()))
theorem Aj3(a:List Aa.V)(b:Ab.V):JnOk E28 0 8 (code Tryz.f223) [1,1,0] (Ah6 a b) (Jj a b) (AeQ a b):=by
 unfold JnOk
 simp only[Jj,mC,mI,mN,mB,mE,mM]
 simp(disch:=refine sI ?_<;>(repeat' refine sA ?_ ?_)<;>intro _<;>kernel_rfl) only[Hs (Afu _ _) (K:=joinK 0 (E28.jn 8))]
 kernel_rfl
def AjA(a:List Aa.V)(e:Int)(b:Ab.V)(z_:Int):St:=sT 109 [(0,dD (.sl Aa) a),(2,dI e),(4,.ptr 0 0 [] 0),(7,dI z_)] [.box (dD Ab b)]
def Aj8(a:List Aa.V)(e:Int)(b:Ab.V):(Unit⊕Unit)→Ex×St:=Sum.elim (fun g=>(.ret,sT 109 [(0,dD (.sl Aa) a),(4,.ptr 0 0 [] 0),(6,dB false)] [.box (dD Ab b)])) (fun i=>((.exit 0),sT 109 [(0,dD (.sl Aa) a),(4,.ptr 0 0 [] 0)] [.box (dD Ab b)]))
def Hh(a:List Aa.V)(e:Int)(b:Ab.V)(j:Int):Option (Int⊕(Unit⊕Unit)) :=
 bif decide (j<(b.2.2.2.2.2.1.length:Int)) then
 if(0:Int)≤j∧j<(b.2.2.2.2.2.1.length:Int) then
 bif !(Ay (b.2.2.2.2.2.1.getD j.toNat (Ty.zero (.int .i64))) 0 (wI (e-1))) then
 some (.inr (.inl ()))
 else
 some (.inl (wI (j+1)))
 else none
 else
 some (.inr (.inr ()))
def EI(a:List Aa.V)(e:Int)(b:Ab.V)(z_:Int):=Hh a e b z_
def KH(a:List Aa.V)(e:Int)(b:Ab.V)(j:Int):=fix (EI a e b) j
theorem Ajg(a:List Aa.V)(e:Int)(b:Ab.V):LpOk E28 0 2 (code Tryz.f223) [1,0,1,0] (AjA a e b) (EI a e b) (Aj8 a e b):=by
 intro _
 simp only[EI,Hh,mC,mI,mN,mB,mE,mM]
 kernel_rfl
def Hk(a:List Aa.V)(b:Ab.V)(e:Int):Option Bool :=
 (KH a e b 0).bind (Sum.elim (fun g =>
 some false) (fun i =>
 (Jj a b).bind (Sum.elim (fun c =>
 some false) (fun d =>
 bif b.1==1 then
 bif (b.2.2.2.2.2.1.length:Int)==0 then
 some (Ay b.2.1 0 (wI ((a.length:Int)-1)))
 else
 some false
 else
 bif b.1==2 then
 bif (b.2.2.2.2.2.1.length:Int)==0 then
 (Hy b.2.2.2.2.1).bind fun k =>
 some k
 else
 some false
 else
 bif b.1==3 then
 some (decide ((b.2.2.2.2.2.1.length:Int)≥2))
 else
 bif As b.1 then
 some ((b.2.2.2.2.2.1.length:Int)==1)
 else
 some false))))
theorem U28(R:Type)(a:List Aa.V)(b:Ab.V)(e:Int)(K:AV→List Blk→Option R):runF E28 Tryz.f223 R [dD (.sl Aa) a,dD Ab b,dI e] [] K=(Hk a b e).bind fun r=>K (dB r) []:=by
 simp only[Hk,bC,bI,bN,bE,bA,bS,bO,bM]
 simp(disch:=refine sI ?_<;>(repeat' refine sA ?_ ?_)<;>intro _<;>kernel_rfl) only[KH,Au (Ajg _ _ _) (K:=finK E28 Tryz.f223 0 R K),Bn (Aj3 _ _) (K:=finK E28 Tryz.f223 0 R K)]
 kernel_rfl
def c223:Va.Callee:=brC [.d (.sl Aa),.d Ab,.d (.int .i64)] [⟨[.dat [] (.sl Aa),.dat [] Ab,.dat [] (.int .i64)],[],Bool,fun p=>Hk p.1.1 p.1.2.1 p.1.2.2.1,fun r=>(dB r,[])⟩]
theorem Yk:SoundC Tryz.prog 223 c223:=Ap (fn:=Tryz.f223) (by kernel_rfl) (by kernel_rfl) (by kernel_rfl) ⟨⟨E28,⟨⟨tabok,An ⟨KI,YA,Yl,WS,trivial⟩⟩,mixed⟩,fun p R K=>U28 R p.1.1 p.1.2.1 p.1.2.2.1 K⟩,trivial⟩
abbrev E29:Env:=⟨tab,lookH [(52,c52)],{deep:=true,heads:=[(3,{live:=[0,2,4,7,8]})],outs:=[(3,{live:=[0,4,7]})],joins:=[(13,{live:=[4,59]}),(17,{live:=[4,7,28,66]}),(22,{live:=[4,7,28,77]}),(28,{live:=[6,7]})],ents:=[(13,[4,7]),(17,[4,7,28]),(22,[4,7,28]),(28,[0,4,7])]}⟩
def Akd(a:List Aa.V)(b:Int)(c:Ab.V):St:=sT 95 [(0,dD (.sl Aa) a),(4,.ptr 0 0 [] 0),(7,dI b)] [.box (dD Ab c)]
def AhF(a:List Aa.V)(b:Int)(c:Ab.V):(Int⊕(Int⊕Unit))→Ex×St:=Sum.elim (fun d=>(.ret,sT 95 [(6,dI d),(7,dI b)] [])) (Sum.elim (fun e=>(.ret,sT 95 [(6,dI e)] [])) (fun g=>(.normal,sT 95 [(7,dI b)] [])))
def AaF(b:Int)(c:Ab.V):St:=sT 95 [(4,.ptr 0 0 [] 0),(7,dI b),(28,dI c.1)] [.box (dD Ab c)]
def Z7(b:Int)(c:Ab.V)(m0:Bool):Ex×St:=(.normal,sT 95 [(4,.ptr 0 0 [] 0),(7,dI b),(28,dI c.1),(77,dB m0)] [.box (dD Ab c)])
theorem AgC(b:Int)(c:Ab.V):jnS E29 0 22 (sub (code Tryz.f224) [1,1,1,0]) [1,0,1,1,1,1,1,1,1,1,0] (AaF b c)=some (Z7 b c (bif c.1==7 then(c.1==7) else(c.1==8))):=by
 have h0:jnS E29 0 22 (sub (code Tryz.f224) [1,1,1,0]) [1,0,1,1,1,1,1,1,1,1,0] (AaF b c) =
 bif c.1==7 then
 some (Z7 b c (c.1==7))
 else
 some (Z7 b c (c.1==8)):=by kernel_rfl
 rw[h0]
 cases h1:(c.1==7)
 ·first | rfl | kernel_rfl
 ·first | rfl | kernel_rfl
def AaZ(b:Int)(c:Ab.V):St:=sT 95 [(4,.ptr 0 0 [] 0),(7,dI b),(28,dI c.1)] [.box (dD Ab c)]
def Z4(b:Int)(c:Ab.V)(m0:Bool):Ex×St:=(.normal,sT 95 [(4,.ptr 0 0 [] 0),(7,dI b),(28,dI c.1),(66,dB m0)] [.box (dD Ab c)])
theorem AhL(b:Int)(c:Ab.V):jnS E29 0 17 (sub (code Tryz.f224) [1,1,1,0]) [1,0,1,1,1,1,1,1,0] (AaZ b c)=some (Z4 b c (bif c.1==5 then(c.1==5) else(c.1==6))):=by
 have h0:jnS E29 0 17 (sub (code Tryz.f224) [1,1,1,0]) [1,0,1,1,1,1,1,1,0] (AaZ b c) =
 bif c.1==5 then
 some (Z4 b c (c.1==5))
 else
 some (Z4 b c (c.1==6)):=by kernel_rfl
 rw[h0]
 cases h1:(c.1==5)
 ·first | rfl | kernel_rfl
 ·first | rfl | kernel_rfl
def Aa0(b:Int)(c:Ab.V):St:=sT 95 [(4,.ptr 0 0 [] 0),(7,dI b)] [.box (dD Ab c)]
def YH(c:Ab.V)(m0:Bool):Ex×St:=(.normal,sT 95 [(4,.ptr 0 0 [] 0),(59,dB m0)] [.box (dD Ab c)])
theorem Ahn(b:Int)(c:Ab.V):jnS E29 0 13 (sub (code Tryz.f224) [1,1,1,0]) [1,0,1,1,1,1,1,0,0,0] (Aa0 b c)=some (YH c ((decide (c.2.2.2.1<0))||((decide (c.2.2.1<c.2.2.2.1))||(decide (c.2.2.1≥b))))):=by
 have h0:jnS E29 0 13 (sub (code Tryz.f224) [1,1,1,0]) [1,0,1,1,1,1,1,0,0,0] (Aa0 b c) =
 bif decide (c.2.2.2.1<0) then
 some (YH c true)
 else
 bif decide (c.2.2.1<c.2.2.2.1) then
 some (YH c true)
 else
 some (YH c (decide (c.2.2.1≥b))):=by kernel_rfl
 rw[h0]
 cases h1:(decide (c.2.2.2.1<0))
 ·cases h2:(decide (c.2.2.1<c.2.2.2.1))
  ·first | rfl | kernel_rfl
  ·first | rfl | kernel_rfl
 ·first | rfl | kernel_rfl
def Ja(a:List Aa.V)(b:Int)(c:Ab.V):Option (Int⊕(Int⊕Unit)) :=
 bif c.1==1 then
 if(0:Int)≤c.2.1∧c.2.1<(a.length:Int) then
 some (.inl (a.getD c.2.1.toNat (Ty.zero Aa)).2.1)
 else none
 else
 bif c.1==2 then
 some (.inl c.2.2.2.2.1.1)
 else
 bif c.1==4 then
 mkr (Aa0 b c) (
 bif (decide (c.2.2.2.1<0))||((decide (c.2.2.1<c.2.2.2.1))||(decide (c.2.2.1≥b))) then
 some (.inr (.inl (-1)))
 else
 some (.inr (.inl (wI ((wI (c.2.2.1-c.2.2.2.1))+1)))))
 else
 mkr (AaZ b c) (
 bif bif (c.1==5) then(c.1==5) else(c.1==6) then
 bif !(Ay c.2.2.1 0 4096) then
 some (.inl (-1))
 else
 some (.inl (wI (b+c.2.2.1)))
 else
 mkr (AaF b c) (
 bif bif (c.1==7) then(c.1==7) else(c.1==8) then
 bif !(Ay c.2.2.1 0 4096) then
 some (.inl (-1))
 else
 some (.inr (.inr ()))
 else
 bif c.1==9 then
 bif !(Ay c.2.2.1 1 4096) then
 some (.inl (-1))
 else
 some (.inl (wI (b*c.2.2.1)))
 else
 some (.inr (.inr ()))))
theorem AeH(a:List Aa.V)(b:Int)(c:Ab.V):JnOk E29 0 28 (code Tryz.f224) [1,1,1,0] (Akd a b c) (Ja a b c) (AhF a b c):=by
 unfold JnOk
 simp only[Ja,mC,mI,mN,mB,mE,mM]
 simp(disch:=refine sI ?_<;>(repeat' refine sA ?_ ?_)<;>intro _<;>kernel_rfl) only[Hs (Ahn _ _) (K:=joinK 0 (E29.jn 28)),Hs (AhL _ _) (K:=joinK 0 (E29.jn 28)),Hs (AgC _ _) (K:=joinK 0 (E29.jn 28))]
 kernel_rfl
def Aho(a:List Aa.V)(i:List Int)(c:Ab.V)(z_:Int×Int):St:=sT 95 [(0,dD (.sl Aa) a),(2,dD (.sl (.int .i64)) i),(4,.ptr 0 0 [] 0),(7,dI z_.1),(8,dI z_.2)] [.box (dD Ab c)]
def AeK(a:List Aa.V)(i:List Int)(c:Ab.V):Int→Ex×St:=fun b=>((.exit 0),sT 95 [(0,dD (.sl Aa) a),(4,.ptr 0 0 [] 0),(7,dI b)] [.box (dD Ab c)])
def GV(a:List Aa.V)(i:List Int)(c:Ab.V)(j k:Int):Option ((Int×Int)⊕Int) :=
 bif decide (k<(c.2.2.2.2.2.1.length:Int)) then
 if(0:Int)≤k∧k<(c.2.2.2.2.2.1.length:Int) then
 if(0:Int)≤(c.2.2.2.2.2.1.getD k.toNat (Ty.zero (.int .i64)))∧(c.2.2.2.2.2.1.getD k.toNat (Ty.zero (.int .i64)))<(i.length:Int) then
 some (.inl ((if(wI (j+(i.getD (c.2.2.2.2.2.1.getD k.toNat (Ty.zero (.int .i64))).toNat (Ty.zero (.int .i64)))))<8192 then(wI (j+(i.getD (c.2.2.2.2.2.1.getD k.toNat (Ty.zero (.int .i64))).toNat (Ty.zero (.int .i64))))) else 8192),(wI (k+1))))
 else none
 else none
 else
 some (.inr j)
def C6(a:List Aa.V)(i:List Int)(c:Ab.V)(z_:Int×Int):=GV a i c z_.1 z_.2
def KD(a:List Aa.V)(i:List Int)(c:Ab.V)(j k:Int):=fix (C6 a i c) (j,k)
theorem AiR(a:List Aa.V)(i:List Int)(c:Ab.V):LpOk E29 0 3 (code Tryz.f224) [1,1,0,1,0] (Aho a i c) (C6 a i c) (AeK a i c):=by
 intro _
 simp only[C6,GV,mC,mI,mN,mB,mE,mM]
 kernel_rfl
def Hw(a:List Aa.V)(c:Ab.V)(i:List Int):Option Int :=
 (KD a i c 0 0).bind fun b =>
 (Ja a b c).bind (Sum.elim (fun d =>
 some d) (Sum.elim (fun e =>
 some e) (fun g =>
 some b)))
theorem U29(R:Type)(a:List Aa.V)(c:Ab.V)(i:List Int)(K:AV→List Blk→Option R):runF E29 Tryz.f224 R [dD (.sl Aa) a,dD Ab c,dD (.sl (.int .i64)) i] [] K=(Hw a c i).bind fun r=>K (dI r) []:=by
 simp only[Hw,bC,bI,bN,bE,bA,bS,bO,bM]
 simp(disch:=refine sI ?_<;>(repeat' refine sA ?_ ?_)<;>intro _<;>kernel_rfl) only[KD,Au (AiR _ _ _) (K:=finK E29 Tryz.f224 0 R K),Bn (AeH _ _ _) (K:=finK E29 Tryz.f224 0 R K)]
 kernel_rfl
def c224:Va.Callee:=brC [.d (.sl Aa),.d Ab,.d (.sl (.int .i64))] [⟨[.dat [] (.sl Aa),.dat [] Ab,.dat [] (.sl (.int .i64))],[],Int,fun p=>Hw p.1.1 p.1.2.1 p.1.2.2.1,fun r=>(dI r,[])⟩]
theorem Yb:SoundC Tryz.prog 224 c224:=Ap (fn:=Tryz.f224) (by kernel_rfl) (by kernel_rfl) (by kernel_rfl) ⟨⟨E29,⟨⟨tabok,An ⟨KI,trivial⟩⟩,mixed⟩,fun p R K=>U29 R p.1.1 p.1.2.1 p.1.2.2.1 K⟩,trivial⟩
abbrev E30:Env:=⟨tab,lookH [(52,c52),(119,c119),(223,c223),(224,c224)],{deep:=true,heads:=[(7,{live:=[0,3,5,6,7,8],pre:=[(6,false,.row [] 2 (.int .i64) true)]}),(16,{live:=[0,3,5,6,7,8,10]}),(20,{live:=[5,6,7,11]})],outs:=[(7,{live:=[4,5,6,7],frz:=[(7,false,(.sl .bool))]}),(16,{live:=[0,3,5,6,7,8]}),(20,{live:=[4,6]})],joins:=[(3,{live:=[0,3,5,27]})],ents:=[(3,[0,3,5])],res:=[(0,.row [] 2 (.int .i64) true)]}⟩
def Aha(a:List Bool)(b:List Int)(z_:Int):St:=sT 103 [(5,.zs),(6,.ref 0),(7,dD (.sl .bool) a),(11,dI z_)] [.row 2 .deep (.int .i64) b]
def AjM(a:List Bool)(b:List Int):(Unit⊕Unit)→Ex×St:=Sum.elim (fun c=>(.ret,sT 103 [(4,.zs),(6,.ref 0)] [.row 2 .deep (.int .i64) b])) (fun d=>((.exit 4),sT 103 [(6,.ref 0)] [.row 2 .deep (.int .i64) b]))
def Fc(a:List Bool)(b:List Int)(e:Int):Option (Int⊕(Unit⊕Unit)) :=
 bif decide ((wI (e+1))<(a.length:Int)) then
 if(0:Int)≤e∧e<(a.length:Int) then
 bif !(a.getD e.toNat (Ty.zero .bool)) then
 some (.inr (.inl ()))
 else
 some (.inl (wI (e+1)))
 else none
 else
 some (.inr (.inr ()))
def Dl(a:List Bool)(b:List Int)(z_:Int):=Fc a b z_
def Ju(a:List Bool)(b:List Int)(e:Int):=fix (Dl a b) e
theorem AiL(a:List Bool)(b:List Int):LpOk E30 0 20 (code Tryz.f187) [1,1,1,1,1,1,0,1,0] (Aha a b) (Dl a b) (AjM a b):=by
 intro _
 simp only[Dl,Fc,mC,mI,mN,mB,mE,mM]
 kernel_rfl
def AjH(g:List Aa.V)(i:Aj.V)(z_:Int×(List Int)×(List Bool)):St:=sT 103 [(0,dD (.sl Aa) g),(3,.ptr 0 0 [] 0),(5,.zs),(6,.ref 1),(7,.ref 2),(8,dI z_.1)] [.box (dD Aj i),.row 2 .deep (.int .i64) z_.2.1,.row 4 .deep .bool z_.2.2]
def Aft(g:List Aa.V)(i:Aj.V):(((List Bool)×(List Int))⊕((List Bool)×(List Int)))→Ex×St:=Sum.elim (fun j=>(.ret,sT 103 [(4,.zs),(5,.zs),(6,.ref 0),(7,dD (.sl .bool) j.1)] [.row 2 .deep (.int .i64) j.2])) (fun k=>((.exit 0),sT 103 [(5,.zs),(6,.ref 0),(7,dD (.sl .bool) k.1)] [.row 2 .deep (.int .i64) k.2]))
def Ae4(g:List Aa.V)(l:Int)(i:Aj.V)(n:List Int)(z_:Int×(List Bool)):St:=sT 103 [(0,dD (.sl Aa) g),(3,.ptr 0 0 [] 0),(5,.zs),(6,.ref 1),(7,.ref 2),(8,dI l),(10,dI z_.1)] [.box (dD Aj i),.row 2 .deep (.int .i64) n,.row 4 .deep .bool z_.2]
def AhB(g:List Aa.V)(l:Int)(i:Aj.V)(n:List Int):(List Bool)→Ex×St:=fun o=>((.exit 2),sT 103 [(0,dD (.sl Aa) g),(3,.ptr 0 0 [] 0),(5,.zs),(6,.ref 1),(7,.ref 2),(8,dI l)] [.box (dD Aj i),.row 2 .deep (.int .i64) n,.row 4 .deep .bool o])
def Fd(g:List Aa.V)(l:Int)(i:Aj.V)(n:List Int)(q:Int)(s:List Bool):Option ((Int×(List Bool))⊕(List Bool)) :=
 if(0:Int)≤l∧l<(i.1.length:Int) then
 bif decide (q<((i.1.getD l.toNat (Ty.zero Ab)).2.2.2.2.2.1.length:Int)) then
 if(0:Int)≤l∧l<(i.1.length:Int) then
 if(0:Int)≤q∧q<((i.1.getD l.toNat (Ty.zero Ab)).2.2.2.2.2.1.length:Int) then
 if(0:Int)≤((i.1.getD l.toNat (Ty.zero Ab)).2.2.2.2.2.1.getD q.toNat (Ty.zero (.int .i64)))∧((i.1.getD l.toNat (Ty.zero Ab)).2.2.2.2.2.1.getD q.toNat (Ty.zero (.int .i64)))<(s.length:Int) then
 some (.inl ((wI (q+1)),(s.set ((i.1.getD l.toNat (Ty.zero Ab)).2.2.2.2.2.1.getD q.toNat (Ty.zero (.int .i64))).toNat true)))
 else none
 else none
 else none
 else
 some (.inr s)
 else none
def Dn(g:List Aa.V)(l:Int)(i:Aj.V)(n:List Int)(z_:Int×(List Bool)):=Fd g l i n z_.1 z_.2
def GJ(g:List Aa.V)(l:Int)(i:Aj.V)(n:List Int)(q:Int)(s:List Bool):=fix (Dn g l i n) (q,s)
theorem AgW(g:List Aa.V)(l:Int)(i:Aj.V)(n:List Int):LpOk E30 0 16 (sub (code Tryz.f187) [1,1,1,1,1,0,1,0,0]) [1,0,0,1,1,1,1,1,0] (Ae4 g l i n) (Dn g l i n) (AhB g l i n):=by
 intro _
 simp only[Dn,Fd,mC,mI,mN,mB,mE,mM]
 kernel_rfl
def Fh(g:List Aa.V)(i:Aj.V)(l:Int)(t:List Int)(u:List Bool):Option ((Int×(List Int)×(List Bool))⊕(((List Bool)×(List Int))⊕((List Bool)×(List Int)))) :=
 bif decide (l<(i.1.length:Int)) then
 if(0:Int)≤l∧l<(i.1.length:Int) then
 (Hk g (i.1.getD l.toNat (Ty.zero Ab)) l).bind fun v =>
 bif !v then
 some (.inr (.inl (u,t)))
 else
 if(0:Int)≤l∧l<(i.1.length:Int) then
 (Hw g (i.1.getD l.toNat (Ty.zero Ab)) t).bind fun w =>
 bif !(Ay w 1 4096) then
 some (.inr (.inl (u,t)))
 else
 if(t.length+([w]:List Int).length)*8≤140737488355328 then
 (GJ g l i (t++([w]:List Int)) 0 u).bind fun o =>
 some (.inl ((wI (l+1)),(t++([w]:List Int)),o))
 else none
 else none
 else none
 else
 some (.inr (.inr (u,t)))
def Dt(g:List Aa.V)(i:Aj.V)(z_:Int×(List Int)×(List Bool)):=Fh g i z_.1 z_.2.1 z_.2.2
def G3(g:List Aa.V)(i:Aj.V)(l:Int)(t:List Int)(u:List Bool):=fix (Dt g i) (l,t,u)
theorem Ajy(g:List Aa.V)(i:Aj.V):LpOk E30 0 7 (code Tryz.f187) [1,1,1,1,1,0,1,0] (AjH g i) (Dt g i) (Aft g i):=by
 intro _
 simp only[Dt,Fh,mC,mI,mN,mB,mE,mM]
 simp(disch:=refine sI ?_<;>(repeat' refine sA ?_ ?_)<;>intro _<;>kernel_rfl) only[GJ,Au (AgW _ _ _ _) (K:=stepK 0 (E30.hd 7) (E30.ot 7))]
 kernel_rfl
def AhM(g:List Aa.V)(i:Aj.V):St:=sT 103 [(0,dD (.sl Aa) g),(3,.ptr 0 0 [] 0),(5,.zs)] [.box (dD Aj i)]
def AkG(g:List Aa.V)(i:Aj.V):Bool→Ex×St:=fun x=>(.normal,sT 103 [(0,dD (.sl Aa) g),(3,.ptr 0 0 [] 0),(5,.zs),(27,dB x)] [.box (dD Aj i)])
def EN(g:List Aa.V)(i:Aj.V):Option Bool :=
 (En g).bind fun y =>
 bif !y then
 some true
 else
 bif decide ((i.1.length:Int)<1) then
 some true
 else
 some (decide ((i.1.length:Int)>400))
theorem AhO(g:List Aa.V)(i:Aj.V):JnOk E30 0 3 (code Tryz.f187) [1,1,0,0] (AhM g i) (EN g i) (AkG g i):=by
 unfold JnOk
 simp only[EN,mC,mI,mN,mB,mE,mM]
 kernel_rfl
def Gw(g:List Aa.V)(i:Aj.V):Option (List Int) :=
 (EN g i).bind fun x =>
 bif x then
 some ([]:List Int)
 else
 if Ty.row .bool=true∧(0:Int)≤(i.1.length:Int)∧(i.1.length:Int)≤(i.1.length:Int)∧((1:Nat):Int)*(i.1.length:Int)≤(281474976710656:Int)∧(i.1.length:Int)≤(9223372036854775807:Int) then
 (G3 g i 0 ([]:List Int) (List.replicate (i.1.length:Int).toNat false)).bind (Sum.elim (fun j =>
 some ([]:List Int)) (fun k =>
 (Ju k.1 k.2 0).bind (Sum.elim (fun c =>
 some ([]:List Int)) (fun d =>
 some k.2))))
 else none
theorem U30(R:Type)(g:List Aa.V)(i:Aj.V)(K:AV→List Blk→Option R):runF E30 Tryz.f187 R [dD (.sl Aa) g,dD Aj i] [] K=(Gw g i).bind fun r=>K (.ref 0) [.row 2 .deep (.int .i64) r]:=by
 simp only[Gw,bC,bI,bN,bE,bA,bS,bO,bM]
 simp(disch:=refine sI ?_<;>(repeat' refine sA ?_ ?_)<;>intro _<;>kernel_rfl) only[Bn (AhO _ _) (K:=finK E30 Tryz.f187 0 R K),G3,Au (Ajy _ _) (K:=finK E30 Tryz.f187 0 R K),Ju,Au (AiL _ _) (K:=finK E30 Tryz.f187 0 R K)]
 kernel_rfl
def c187:Va.Callee:=brC [.d (.sl Aa),.d Aj] [⟨[.dat [] (.sl Aa),.dat [] Aj],[],(List Int),fun p=>Gw p.1.1 p.1.2.1,fun r=>(.ref 0,[.row 2 .deep (.int .i64) r])⟩]
theorem Xg:SoundC Tryz.prog 187 c187:=Ap (fn:=Tryz.f187) (by kernel_rfl) (by kernel_rfl) (by kernel_rfl) ⟨⟨E30,⟨⟨tabok,An ⟨KI,OW,Yk,Yb,trivial⟩⟩,mixed⟩,fun p R K=>U30 R p.1.1 p.1.2.1 K⟩,trivial⟩
abbrev E31:Env:=⟨tab,lookH [(187,c187)],{deep:=true}⟩
def BS(a:List Aa.V)(b:Aj.V):Option Int :=
 (Gw a b).bind fun c =>
 bif (c.length:Int)==0 then
 some (-1)
 else
 if(0:Int)≤(wI ((c.length:Int)-1))∧(wI ((c.length:Int)-1))<(c.length:Int) then
 some (c.getD (wI ((c.length:Int)-1)).toNat (Ty.zero (.int .i64)))
 else none
theorem U31(R:Type)(a:List Aa.V)(b:Aj.V)(K:AV→List Blk→Option R):runF E31 Tryz.f120 R [dD (.sl Aa) a,dD Aj b] [] K=(BS a b).bind fun r=>K (dI r) []:=by
 simp only[BS,bC,bI,bN,bE,bA,bS,bO,bM]
 kernel_rfl
def c120:Va.Callee:=brC [.d (.sl Aa),.d Aj] [⟨[.dat [] (.sl Aa),.dat [] Aj],[],Int,fun p=>BS p.1.1 p.1.2.1,fun r=>(dI r,[])⟩]
theorem S8:SoundC Tryz.prog 120 c120:=Ap (fn:=Tryz.f120) (by kernel_rfl) (by kernel_rfl) (by kernel_rfl) ⟨⟨E31,⟨⟨tabok,An ⟨Xg,trivial⟩⟩,mixed⟩,fun p R K=>U31 R p.1.1 p.1.2.1 K⟩,trivial⟩
end
end Go.Proofs.X
