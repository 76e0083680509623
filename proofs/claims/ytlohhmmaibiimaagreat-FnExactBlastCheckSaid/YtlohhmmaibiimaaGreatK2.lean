import Derived.Great.BuildSlice
import Derived.Deep.AppendSrc
import Derived.Test.YtlohhmmaibiimaaGreatK1
set_option linter.unusedVariables false
set_option linter.unusedSimpArgs false
namespace Go.Va
section
variable {P:Program} {σ:St} {o:Oper} {en:Env} {e:Eff}
theorem Sa{x:Operand}(ho:o.op=.move x∨o.op=.assign x):Snd P σ o ⟨σ.opd x,σ.blks,[]⟩ :=
 .of_qt fun a w g hs=>⟨a.eval x,by rcases ho with ho | ho<;>simp[execOp,ho],Av hs x⟩
theorem YR{c x y:Operand}(ho:o.op=.pick c x y){ks:List Nat}{t:Bool}(hc:σ.opd c=.dat ks .bool t):Snd P σ o ⟨bif t then σ.opd x else σ.opd y,σ.blks,[]⟩ :=
 .of_qt fun a w g hs=>by
  have h:=Av hs c
  rw[hc] at h
  have h:=Ks h
  refine⟨if t then a.eval x else a.eval y,by simp[execOp,ho,h,asBool],?_⟩
  cases t
  ·exact Av hs y
  ·exact Av hs x
theorem MX{x:Operand}(ho:o.op=.nilCheck x)(hp:∀(w:World) (g:G) n v,AVR w g n (σ.opd x) v→∃a,v=.pointer (some a)):Snd P σ o ⟨σ.opd x,σ.blks,[]⟩ :=
 .of_qt fun a w g hs=>by
  obtain⟨ad,h⟩:=hp w g _ _ (Av hs x)
  exact⟨a.eval x,by simp[execOp,ho,h],Av hs x⟩
theorem Wm{op:BinOp}{t:TypeId}{x y:Operand}{yt:TypeId}(ho:o.op=.binOp op t x y yt){tb:Bool}(htb:tb=true→P.underlying t=some .bool){z:AV}(h:binA op tb (σ.opd x) (σ.opd y) some=some z):Snd P σ o ⟨z,σ.blks,[]⟩ :=
 .of_qt <| KM (s:=fun ρ=>do eqGuard op t x y (ρ x) (ρ y); binOp op t (ρ x) (ρ y)) (fun ρ=>by simp[execOp,ho]) fun a w g hs=>by
  obtain⟨z',e,hG⟩:=Aav t x y htb h (Av hs x) (Av hs y)
  injection e with e; subst e; exact hG
theorem WR{op:UnOp}{t:TypeId}{x:Operand}(ho:o.op=.unOp op t x){z:AV}(h:unA op (σ.opd x) some=some z):Snd P σ o ⟨z,σ.blks,[]⟩ :=
 .of_qt <| KM (s:=fun ρ=>Op.unary op (ρ x)) (fun ρ=>by simp[execOp,ho]) fun a w g hs=>by
  obtain⟨z',e,hG⟩:=Ach h (Av hs x)
  injection e with e; subst e; exact hG
theorem Rj {s t:TypeId} {x:Operand} (ho:o.op=.convert s t x) {ts ti:TI} (hs:TOk P s ts) (ht:TOk P t ti) {te:Option Ty} (hte:∀u,te=some u→ts.isSl=true∧∃tie,tie.ty=u∧TOk P ts.elem tie) {z:AV}
    (h:convA σ.blks te ti.ty (σ.opd x) some=some z):Snd P σ o ⟨z,σ.blks,[]⟩ :=
 .of_qt <| KM (s:=fun ρ=>convert s t (ρ x)) (fun ρ=>by simp[execOp,ho]) fun a w g hst=>by
  obtain⟨z',e,hG⟩:=WC hst.heap hs ht hte h (Av hst x)
  injection e with e; subst e; exact hG
theorem Xd{t:TypeId}{x:Operand}(ho:o.op=.load t x){ti:TI}(ht:TOk P t ti){z:AV}(h:loadA σ.blks ti (σ.opd x) some=some z):Snd P σ o ⟨z,σ.blks,[]⟩ :=
 .of_qt <| KM (s:=fun ρ=>Instr.loadAt t (ρ x)) (fun ρ=>by simp[execOp,ho]) fun a w g hst=>by
  obtain⟨z',e,hG⟩:=Yi hst.heap ht h (Av hst x)
  injection e with e; subst e; exact hG
theorem O6{t:TypeId}{x:Operand}{f:Nat}(ho:o.op=.fieldAddr t x f){ti:TI}(ht:TOk P t ti){z:AV}(h:fldA ti f (σ.opd x) some=some z):Snd P σ o ⟨z,σ.blks,[]⟩ :=
 .of_qt <| KM (s:=fun ρ=>Instr.fieldAt t (ρ x) f) (fun ρ=>by simp[execOp,ho]) fun a w g hst=>by
  obtain⟨z',e,hG⟩:=ZG (n:=σ.blks.length) ht h (Av hst x)
  injection e with e; subst e; exact hG
theorem O7{t:TypeId}{x i:Operand}(ho:o.op=.indexAddr t x i){ti te:TI}(ht:TOk P t ti)(hte:TOk P ti.elem te)(hsl:ti.isSl=true){z:AV}(h:idxA σ.blks te.ty (σ.opd x) (σ.opd i) some=some z):Snd P σ o ⟨z,σ.blks,[]⟩ :=
 .of_qt <| KM (s:=fun ρ=>Instr.indexAt t (ρ x) (ρ i)) (fun ρ=>by simp[execOp,ho]) fun a w g hst=>by
  obtain⟨z',e,hG⟩:=ZH hst.heap ht hte hsl h (Av hst x) (Av hst i)
  injection e with e; subst e; exact hG
theorem UG{t:TypeId}{x i:Operand}(ho:o.op=.index t x i){ti:TI}(ht:TOk P t ti)(hs:ti.ty=.str){z:AV}(h:chrA (σ.opd x) (σ.opd i) some=some z):Snd P σ o ⟨z,σ.blks,[]⟩ :=
 .of_qt <| KM (s:=fun ρ=>Instr.index t (ρ x) (ρ i)) (fun ρ=>by simp[execOp,ho]) fun a w g hst=>by
  obtain⟨z',e,hG⟩:=ZL (n:=σ.blks.length) ht hs h (Av hst x) (Av hst i)
  injection e with e; subst e; exact hG
theorem Vt {t:TypeId} {x:Operand} {lo hi mx:Option Operand} (ho:o.op=.slice t x lo hi mx) {ti:TI} (ht:TOk P t ti) {te:Option Ty} (hte:∀u,te=some u→ti.isSl=true∧∃tie,tie.ty=u∧TOk P ti.elem tie) {z:AV}
    (h:sliceA σ.blks ti te (σ.opd x) (lo.map σ.opd) (hi.map σ.opd) (mx.map σ.opd) some=some z):Snd P σ o ⟨z,σ.blks,[]⟩ :=
 .of_qt <| KM (s:=fun ρ=>Instr.sliceAt t (ρ x) (lo.map ρ) (hi.map ρ) (mx.map ρ)) (fun ρ=>by simp[execOp,ho]) fun a w g hst=>by
  obtain⟨z',e,hG⟩:=Ve hst.heap ht hte h (Av hst x) (Mj hst lo) (Mj hst hi) (Mj hst mx)
  injection e with e; subst e; exact hG
theorem RF{x:Operand}{i:Nat}(ho:o.op=.extract x i){z:AV}(h:extrA (σ.opd x) i=some z)(hz:z.isTup=false):Snd P σ o ⟨z,σ.blks,[]⟩ :=
 .of_qt <| KM (s:=fun ρ=>Instr.extract (ρ x) i) (fun ρ=>by simp[execOp,ho]) fun a w g hst=>by
  have hx:=Av hst x
  cases hq:σ.opd x with
  | cons b c =>
   rw[hq] at hx h
   obtain⟨vs,e,hx⟩:=hx
   obtain⟨v,hv,hr⟩:=Wg h hx
   exact⟨v,by simp[Instr.extract,e,hv],hr hz⟩
  | _=>rw[hq] at h; simp[extrA] at h
theorem Mu{w:World}{g:G}{n:Nat}:∀{t:Ty},AVX w g n false t.zeroA (zeroC t)
 | .int k=>⟨fun _ h=>by(cases h),rfl⟩
 | .bool=>⟨fun _ h=>by(cases h),rfl⟩
 | .str=>⟨fun _ h=>by(cases h),rfl⟩
 | .unit=>⟨fun _ h=>by(cases h),rfl⟩
 | .pair a b=>⟨_,_,rfl,Mu,Mu⟩
 | .sl _=>⟨none,rfl⟩
 | .opq 0=>rfl
 | .opq 1=>⟨rfl,by simp[zeroC,Value.oneCell']⟩
 | .opq (_+2)=>⟨rfl,by simp[zeroC,Value.oneCell']⟩
theorem Qc:∀{t:Ty},t.zeroA.isAgg=t.isAgg
 | .int _=>rfl
 | .bool=>rfl
 | .str=>rfl
 | .unit=>rfl
 | .pair _ _=>rfl
 | .sl _=>rfl
 | .opq 0=>rfl
 | .opq (_+1)=>rfl
theorem Uy{t:TypeId}{parts:Array (Nat×Operand)}(ho:o.op=.build t parts){ti:TI}(ht:TOk P t ti)(hof:ti.offs≠[]){z:AV}(h:buildA ti ti.ty.zeroA (parts.toList.map fun p=>(p.1,σ.opd p.2))=some z):Snd P σ o ⟨z,σ.blks,[]⟩ :=
 .of_qt <| KM (s:=fun ρ=>Instr.build t (parts.map fun(i,x)=>(i,ρ x))) (fun ρ=>by simp[execOp,ho]) fun a w g hst=>by
  obtain⟨o0,ho0⟩:∃o0,ti.offs[0]?=some o0:=by
   cases hq:ti.offs with
   | nil=>exact(hof hq).elim
   | cons o0 r=>exact⟨o0,rfl⟩
  obtain⟨fs,hu,hf⟩:=MW ht ho0
  obtain⟨pl,hpl,hp⟩:=PR hf
  obtain⟨i,zv,hi,hsz,hby,hz,hcells,hagg⟩:=ht.info
  have ha:ti.ty.isAgg=true:=by
   obtain⟨d,hd,hk⟩:=ht.under
   rw[hu] at hd; injection hd with hd; subst hd
   simp only[kindOk,Bool.and_eq_true] at hk
   exact hk.1
  obtain⟨cs',hfill,hx,hxa⟩:=Pi (n:=σ.blks.length) (fun j o hj=>by simpa using hp j o hj) (Av hst) h Mu (by rw[Qc]; exact ha)
  refine⟨.agg cs'.toArray,run_build w t _ _ ?_,Bg (notTup hx) hx (by rw[hxa]; rfl)⟩
  unfold Program.built
  have hzc:zv.cells=(zeroC ti.ty).toArray:=by rw[←hcells]
  simp only[hi,hu,hz,hpl,hzc]
  simpa using hfill
theorem capsX{w:World}{g:G}{n:Nat}{ρ:Operand→AV}{ε:Operand→Value}(hρ:∀x,AVR w g n (ρ x) (ε x)):∀(l:List Operand),AVX w g n true (consAll (l.map ρ)) (l.map ε)
 | []=>rfl
 | x::l=>by
  refine⟨ε x,l.map ε,rfl,?_,capsX hρ l⟩
  have h:=hρ x
  split
  ·exact .inl rfl
  ·rename_i ht
   exact(AVR.iff (by simpa using ht)).1 h
theorem QT{f:FuncId}{first caps:Array Operand}(ho:o.op=.makeFunc (.func f) first caps)(h0:first.size=0):Snd P σ o ⟨.fn f (consAll (caps.toList.map σ.opd)),σ.blks,[]⟩ :=
 .of_qt fun a w g hs=>by
  have hf:first.map a.eval=#[]:=by
   apply Array.eq_empty_of_size_eq_zero; simp[h0]
  have hr:(execOp a.eval o).run P w=.ok (.value (.func (.func f) #[] (caps.map a.eval))) w:=by simp[execOp,ho,Instr.makeFunc,hf]
  have hv:AVX w g σ.blks.length false (.fn f (consAll (caps.toList.map σ.opd))) [.func (.func f) #[] (caps.map a.eval)]:=⟨caps.toList.map a.eval,by rw[←Array.toList_map,Array.toArray_toList],capsX (Av hs) _⟩
  exact⟨_,hr,Bg rfl hv (by simp[asVal,AV.isAgg])⟩
theorem P5{k:Nat}{i:Int}{p:List Nat}{q:Nat}{w:World}{g:G}{n:Nat}{v:Value}(h:AVR w g n (.ptr k i p q) v):∃a,v=.pointer (some a):=by
 obtain⟨_,_,_,b,_,e⟩:=Im h; exact⟨_,e⟩
theorem QC{ks:List Nat}{t:Ty}{y:t.V}{w:World}{g:G}{n:Nat}{v:Value}(h:AVR w g n (.rop ks t y) v):∃a,v=.pointer (some a):=by
 obtain⟨_,b,off,_,e,_⟩:=MM h; exact⟨_,e⟩
end
end Go.Va
namespace Go.Va
theorem UB{u:Ty}:∀{n i:Nat},i<n→tyF (arrT u n) i=some u∧offD (arrT u n) i=some (i*u.size)
 | n+1,0,_=>by simp[arrT,tyF,offD]
 | n+1,i+1,h=>by
  obtain⟨h1,h2⟩:=UB (u:=u) (n:=n) (i:=i) (by omega)
  refine⟨by simpa [arrT,tyF] using h1,?_⟩
  simp only[arrT,offD,h2]
  rw[Nat.add_mul,Nat.one_mul,Nat.add_comm]
theorem Qq{place place':Nat→Option (Nat×Nat)}(h:∀i p,place i=some p→place' i=some p):∀{parts:List (Nat×Value)} {cs r:Array Value},Instr.fill place cs parts=some r→Instr.fill place' cs parts=some r
 | [],_,_,hf=>hf
 | (i,v)::rest,cs,r,hf=>by
  unfold Instr.fill at hf ⊢
  split at hf
  ·cases hf
  ·rename_i off size hp
   rw[h i _ hp]
   simp only
   split at hf
   ·cases hf
   ·rename_i hc
    rw[if_neg hc]
    exact Qq h hf
section
variable {P:Program} {σ:St} {o:Oper} {en:Env}
theorem QH {t:TypeId} {parts:Array (Nat×Operand)} (ho:o.op=.build t parts) {ti te:TI} (ht:TOk P t ti) (hte:TOk P ti.elem te) (hn:ti.arr≠0) (hty:ti.ty=arrT te.ty ti.arr) {z:AV}
    (h:buildA (ti.plc te) ti.ty.zeroA (parts.toList.map fun p=>(p.1,σ.opd p.2))=some z):Snd P σ o ⟨z,σ.blks,[]⟩ :=
 .of_qt <| KM (s:=fun ρ=>Instr.build t (parts.map fun(i,x)=>(i,ρ x))) (fun ρ=>by simp[execOp,ho]) fun a w g hst=>by
  have hu:=ht.arr hn
  have ha:ti.ty.isAgg=true:=by
   rw[hty]; cases hq:ti.arr with
   | zero=>exact(hn hq).elim
   | succ n=>rfl
  obtain⟨i,zv,hi,hsz,hby,hz,hcells,hagg⟩:=ht.info
  obtain⟨cs',hfill,hx,hxa⟩:=Pi (ti:=ti.plc te) (pl:=(List.range ti.arr).map fun i=>(i*te.ty.size,te.ty.size)) (n:=σ.blks.length) (w:=w) (g:=g) (fun j o hj=>by
   simp only[TI.plc,List.getElem?_map,Option.map_eq_some_iff] at hj
   obtain⟨q,hq,rfl⟩:=hj
   have hjl:j<ti.arr:=by
    have:=At hq
    simpa using this
   rw[List.getElem?_range hjl] at hq
   injection hq with hq; subst hq
   refine⟨te.ty,by show tyF ti.ty j=_; rw[hty]; exact(UB hjl).1,?_⟩
   simp[List.getElem?_range hjl]) (Av hst) h Mu (by rw[Qc]; exact ha)
  refine⟨.agg cs'.toArray,?_,Bg (notTup hx) hx (by rw[hxa]; rfl)⟩
  have hzc:zv.cells=(zeroC ti.ty).toArray:=by rw[←hcells]
  have hfill':Instr.fill (fun i=>some (i*te.ty.size,te.ty.size)) zv.cells (parts.map fun(i,x)=>(i,a.eval x)).toList=some cs'.toArray:=by
   rw[hzc]
   refine Qq (fun i p hp=>?_) (by simpa using hfill)
   simp only[List.getElem?_toArray,List.getElem?_map,Option.map_eq_some_iff] at hp
   obtain⟨q,hq,rfl⟩:=hp
   have hjl:i<ti.arr:=by
    have:=At hq
    simpa using this
   rw[List.getElem?_range hjl] at hq
   injection hq with hq; subst hq
   rfl
  have hfill2:Instr.fill (fun i=>some (i*te.ty.size,te.ty.size)) zv.cells (List.map (fun x=>(x.fst,a.eval x.snd)) parts.toList)=some cs'.toArray:=by simpa using hfill'
  simp[Instr.build,run_underlying hu,zeroValue,typeInfo,hi,hz,DV hte,hfill2]
theorem QJ {t:TypeId} {x i:Operand} (ho:o.op=.index t x i) {ti te:TI} (ht:TOk P t ti) (hte:TOk P ti.elem te) (hn:ti.arr≠0) {ks:List Nat} {kk:IntKind} {j:Int} (hi:σ.opd i=.dat ks (.int kk) j)
    (hj:0≤j∧j<(ti.arr:Int)∧(σ.opd x).off j.toNat=some (j.toNat*te.ty.size)∧(σ.opd x).isAgg=true∧(σ.opd x).isTup=false) {v:AV} (hv:(σ.opd x).fld j.toNat=some v) (hsz:v.size=te.ty.size∧v.isAgg=te.ty.isAgg):Snd P σ o ⟨v,σ.blks,[]⟩ :=
 .of_qt <| KM (s:=fun ρ=>Instr.index t (ρ x) (ρ i)) (fun ρ=>by simp[execOp,ho]) fun a w g hst=>by
  have hu:=ht.arr hn
  obtain⟨h0,h1,hoff,hagg,htup⟩:=hj
  have hix:=Av hst i
  rw[hi] at hix
  have hie:=D4 hix
  have hxx:=Av hst x
  have hun:(σ.opd x).isUn=false:=by
   cases hq:σ.opd x<;>rw[hq] at hv<;>first | rfl | simp[AV.fld] at hv
  obtain⟨cs,hcs,hxv⟩:=A0 htup hun hxx
  rw[hagg] at hxv
  have hxv:a.eval x=.agg cs.toArray:=hxv
  obtain⟨c0,c1,c2,e,ho1,hx1,_⟩:=Nn _ _ cs v hcs hv
  rw[hoff] at ho1
  injection ho1 with ho1
  have hl1:c1.length=te.ty.size:=by rw[hx1.len,hsz.1]
  rw[hie,hxv]
  cases hg:te.ty.isAgg with
  | true =>
   refine⟨.agg c1.toArray,?_,Bg (notTup hx1) hx1 (by rw[hsz.2,hg]; rfl)⟩
   have hex:cs.toArray.extract (j.toNat*te.ty.size) (j.toNat*te.ty.size+te.ty.size)=c1.toArray:=by
    apply Array.ext'
    rw[Array.toList_extract,ho1,e]
    simp only[List.extract]
    rw[show c0.length+te.ty.size-c0.length=c1.length by omega,List.append_assoc,List.drop_left,List.take_left]
   have hex':List.take te.ty.size (List.drop (j.toNat*te.ty.size) cs)=c1:=by
    rw[ho1,e,List.append_assoc,List.drop_left,←hl1,List.take_left]
   simp[Instr.index,asIntOf,run_underlying hu,h0,h1,part,N3 hte,hg,DV hte,hex']
  | false =>
   have hone:te.ty.size=1:=Lo hg
   obtain⟨u,hu1⟩:∃u,c1=[u]:=by
    cases c1 with
    | nil=>rw[hone] at hl1; cases hl1
    | cons u r=>cases r with
     | nil=>exact⟨u,rfl⟩
     | cons _ _=>rw[hone] at hl1; simp at hl1
   subst hu1
   refine⟨u,?_,Bg (notTup hx1) hx1 (by rw[hsz.2,hg]; rfl)⟩
   have hget:cs[j.toNat*te.ty.size]?=some u:=by
    rw[ho1,e,List.append_assoc,List.getElem?_append_right (Nat.le_refl _),Nat.sub_self]; rfl
   simp[Instr.index,asIntOf,run_underlying hu,h0,h1,part,N3 hte,hg,DV hte,hget]
theorem N7 {t:TypeId} {w:World} {ti te:TI} (ht:TOk P t ti) (hte:TOk P ti.elem te) (hn:ti.arr≠0) {kk:IntKind} {j:Int} (h0:0≤j) (h1:j<(ti.arr:Int)) (b f:Nat) :
    (Instr.indexAt t (.pointer (some ⟨b,f,none⟩)) (.int kk j)).run P w=.ok (.pointer (some ⟨b,f+j.toNat*te.ty.size,none⟩)) w:=by
 have hu:=ht.arr hn
 simp[Instr.indexAt,asIntOf,run_underlying hu,Instr.sureAddr,h0,h1,DV hte,addN]
theorem M9 {t:TypeId} {x i:Operand} (ho:o.op=.indexAddr t x i) {ti te:TI} (ht:TOk P t ti) (hte:TOk P ti.elem te) (hn:ti.arr≠0) {ks:List Nat} {kk:IntKind} {j:Int} (hi:σ.opd i=.dat ks (.int kk) j)
    (h0:0≤j) (h1:j<(ti.arr:Int)) {v:AV}
    (hv : (match σ.opd x with
          | .ptr k q p f=>some (.ptr k q (p++[j.toNat]) (f+j.toNat*te.ty.size))
          | .rop ks t' y=>if offD t' j.toNat=some (j.toNat*te.ty.size) then match fldD ks t' y j.toNat with | some (.dat _ u z)=>some (.rop ks u z)| _=>none else none
          | _=>none)=some v):Snd P σ o ⟨v,σ.blks,[]⟩ :=
 .of_qt <| KM (s:=fun ρ=>Instr.indexAt t (ρ x) (ρ i)) (fun ρ=>by simp[execOp,ho]) fun a w g hst=>by
  have hix:=Av hst i
  rw[hi] at hix
  have hie:=D4 hix
  have hxx:=Av hst x
  rw[hie]
  split at hv
  ·rename_i k q p f hq
   injection hv with hv; subst hv
   rw[hq] at hxx
   obtain⟨hk,g0,g1,b,hb,e⟩:=Im hxx
   rw[e]
   refine⟨_,N7 ht hte hn h0 h1 b _,?_⟩
   rw[Nat.add_assoc]
   exact P1 hk g0 g1 hb
  ·rename_i ks t' y hq
   rw[hq] at hxx
   split at hv
   ·rename_i hoff
    split at hv
    ·rename_i ks' u z hz
     injection hv with hv; subst hv
     obtain⟨hk,b,off,ds,e0,ha,hr,hc⟩:=MM hxx
     obtain⟨c0,c1,c2,e,ho1,_,⟨u',y',heq,hr1⟩,_⟩:=Ml (g:=g) hk _ _ y ds _ hr hz
     injection heq with _ h2 h3
     subst h2
     obtain rfl:=eq_of_heq h3
     rw[hoff] at ho1
     injection ho1 with ho1
     rw[e0]
     refine⟨_,N7 ht hte hn h0 h1 b off,QE hk ha hr1 fun q' u hq'=>?_⟩
     rw[Nat.add_assoc]
     refine hc _ u ?_
     rw[e,List.append_assoc,List.getElem?_append_right (by omega),show j.toNat*te.ty.size+q'-c0.length=q' by omega,List.getElem?_append_left (At hq')]
     exact hq'
    ·cases hv
   ·cases hv
  ·cases hv
end
end Go.Va
namespace Go.Va
def G.add(g:G)(n b:Nat)(i:BI):G:=⟨fun q=>if q=b then .lab n [] else g.own q,fun k=>if k=n then i else g.at_ k⟩
def G.frz(g:G)(rs:List Nat):G:=⟨fun q=>match g.own q with | .lab j r=>if j∈rs then .imm else .lab j r | t=>t,g.at_⟩
section
variable {w:World} {g:G} {bs:List Blk}
theorem LY(H:Heap w g bs){b:Nat}(h:g.own b≠.no):b<w.heap.size:=by
 rcases Nat.lt_or_ge b w.heap.size with h' | h'
 ·exact h'
 ·exact(h (H.fresh b h')).elim
theorem Step.add(H:Heap w g bs)(o:Obj)(i:BI):Step [] bs.length w g (w.alloc o) (g.add bs.length w.heap.size i) where
 os:=rfl
 tape:=rfl
 output:=rfl
 size:=by show w.heap.size≤(w.heap.push o).size; simp
 no b hb h:=by
  refine⟨by simp[G.add,h,Nat.ne_of_lt hb],heap_alloc_old w o b hb⟩
 imm b h:=by
  have hb:=LY H (b:=b) (by rw[h]; simp)
  exact⟨by simp[G.add,h,Nat.ne_of_lt hb],heap_alloc_old w o b hb⟩
 lab b k p h hk _:=by
  have hb:=LY H (b:=b) (by rw[h]; simp)
  exact⟨by simp[G.add,h,Nat.ne_of_lt hb],heap_alloc_old w o b hb⟩
 at_ k hk:=by simp[G.add,Nat.ne_of_lt hk]
theorem TW(H:Heap w g bs)(o:Obj)(i:BI):∀b,(w.alloc o).heap.size≤b→(g.add bs.length w.heap.size i).own b=.no:=by
 intro b hb
 have hsz:(w.alloc o).heap.size=w.heap.size+1:=by show(w.heap.push o).size=_; simp
 have hb':w.heap.size+1≤b:=by omega
 have:b≠w.heap.size:=by omega
 simp[G.add,this,H.fresh b (by omega)]
theorem Heap.new(H:Heap w g bs){o:Obj}{i:BI}{b:Blk}(hb:BlkR (w.alloc o) (g.add bs.length w.heap.size i) (bs.length+1) bs.length b):Heap (w.alloc o) (g.add bs.length w.heap.size i) (bs++[b]) :=
 H.push (Step.add H o i) (TW H o i) hb
theorem Step.frz(rs:List Nat)(n:Nat)(w:World)(g:G):Step rs n w g w (g.frz rs) where
 os:=rfl
 tape:=rfl
 output:=rfl
 size:=Nat.le_refl _
 no b _ h:=⟨by simp[G.frz,h],rfl⟩
 imm b h:=⟨by simp[G.frz,h],rfl⟩
 lab b k p h _ hm:=⟨by simp[G.frz,h,hm],rfl⟩
 at_ _ _:=rfl
theorem Heap.turn {w':World} {g':G} {mods:List Nat} {bs':List Blk} (H:Heap w g bs) (s:Step mods bs.length w g w' g') (hf:∀b,w'.heap.size≤b→g'.own b=.no) (hl:bs.length≤bs'.length)
    (hb:∀(j:Nat) (x:Blk),bs'[j]?=some x→x=.dead∨(j∉mods∧∃y,bs[j]?=some y∧x=y.drop fun k=>mods.contains k)∨BlkR w' g' bs'.length j x):Heap w' g' bs' :=
 ⟨hf,fun j x hx=>by
  rcases hb j x hx with h | ⟨hm,y,hy,rfl⟩| h
  ·subst h; trivial
  ·exact(H.blk j y hy).step s hl (At hy) hm
  ·exact h⟩
theorem Ec{mods:List Nat}{bs:List Blk}{i:Nat}{x:Blk}(h:(dropB mods bs)[i]?=some x):∃y,bs[i]?=some y∧x=y.drop fun k=>mods.contains k:=by
 unfold dropB at h
 split at h
 ·exact⟨x,h,by rw[show(fun k=>([]:List Nat).contains k)=fun _=>false from funext fun _=>rfl,M1]⟩
 ·rw[List.getElem?_map] at h
  cases hs:bs[i]? with
  | none=>rw[hs] at h; cases h
  | some y=>rw[hs] at h; injection h with h; exact⟨y,rfl,h.symm⟩
theorem Ar(mods:List Nat)(bs:List Blk):(dropB mods bs).length=bs.length:=by unfold dropB; split<;>simp
theorem AJ:∀(rs:List Nat) (bs:List Blk),(Blk.kill bs rs).length=bs.length
 | [],_=>rfl
 | k::r,bs=>by rw[Blk.kill,AJ r,List.length_set]
theorem Jh:∀{rs:List Nat} {bs:List Blk} {j:Nat} {x:Blk},(Blk.kill bs rs)[j]?=some x→x=.dead∨(j∉rs∧bs[j]?=some x)
 | [],_,_,_,h=>.inr ⟨by simp,h⟩
 | k::r,bs,j,x,h=>by
  rcases Jh (rs:=r) h with h' | ⟨h1,h2⟩
  ·exact .inl h'
  ·rw[List.getElem?_set] at h2
   split at h2
   ·split at h2
    ·injection h2 with h2; exact .inl h2.symm
    ·cases h2
   ·rename_i hne
    exact .inr ⟨by simp; exact⟨fun e=>hne e.symm,h1⟩,h2⟩
end
section
variable {P:Program} {σ:St} {o:Oper} {en:Env} {e:Eff}
theorem Oo {x:AV} {el:TypeId} {f:Act→Value} (ho:∀a:Act,∀w:World,∀g:G,StR w g σ a→(execOp a.eval o).run P w=.ok (.value (.pointer (some ⟨w.heap.size,0,none⟩))) (w.alloc (.cells (f a).cells el))∧∃cs,AVX w g σ.blks.length false x cs∧(f a).cells=cs.toArray) :
    Snd P σ o ⟨.ptr σ.blks.length 0 [] 0,σ.blks++[.box x],[]⟩ where
 grow:=by simp
 ext _:=⟨_,rfl⟩
 wp a w g hs next Q hn:=by
  obtain⟨hr,cs,hcs,hc⟩:=ho a w g hs
  unfold Oper.wp
  rw[hr]
  have st:=Step.add hs.heap (.cells (f a).cells el) ⟨some ⟨w.heap.size,0,none⟩,1,1,0⟩
  refine hn _ _ (g.add σ.blks.length w.heap.size ⟨some ⟨w.heap.size,0,none⟩,1,1,0⟩) (hs.heap.new ?_) ?_ st
  ·refine⟨by simp[G.add],w.heap.size,(f a).cells,el,by simp[G.add],by simp[G.add],heap_alloc_new w _,?_⟩
   have e1:(f a).cells.toList=cs:=by rw[hc]
   rw[e1]
   exact hcs.step0 st (Nat.le_succ _)
  ·have:=P1 (w:=w.alloc (.cells (f a).cells el)) (g:=g.add σ.blks.length w.heap.size ⟨some ⟨w.heap.size,0,none⟩,1,1,0⟩) (n:=(σ.blks++[Blk.box x]).length) (k:=σ.blks.length) (i:=0) (p:=[]) (o:=0) (b:=w.heap.size)
     (by simp) (Int.le_refl _) (by simp[G.add]) (by simp[G.add])
   simpa using this
theorem Aak{el:TypeId}{x:Operand}(ho:o.op=.box el x)(ht:(σ.opd x).top=true):Snd P σ o ⟨.ptr σ.blks.length 0 [] 0,σ.blks++[.box (σ.opd x)],[]⟩ :=
 Oo (el:=el) (f:=fun a=>a.eval x) fun a w g hs=>by
  obtain⟨h1,h2⟩:=Vn ht
  obtain⟨cs,hcs,hv⟩:=A0 h2 h1 (Av hs x)
  exact⟨by simp[execOp,ho,Instr.box,newVar,newRow],cs,hcs,NV hv hcs.one⟩
theorem V2{el:TypeId}(ho:o.op=.alloc el){ti:TI}(ht:TOk P el ti):Snd P σ o ⟨.ptr σ.blks.length 0 [] 0,σ.blks++[.box ti.ty.zeroA],[]⟩:=by
 obtain⟨i,z,hi,_,_,hz,hc,_⟩:=ht.info
 refine Oo (el:=el) (f:=fun _=>z) fun a w g hs=>⟨?_,zeroC ti.ty,Mu,by rw[←hc]⟩
 simp[execOp,ho,Instr.alloc,zeroValue,typeInfo,hi,hz,newVar,newRow]
theorem PK(z:Array Value){s l c:Nat}(hs:z.size=s)(h0:0<s)(hl:l≤c):(madeCells z (c*s)).toList.take (l*s)=(List.replicate l (Value.agg z)).flatMap fun v=>v.cells.toList:=by
 apply List.ext_getElem?
 intro k
 rw[Great.flat_get h0 _ (fun v hv=>by rw[List.eq_of_mem_replicate hv]; exact hs),List.getElem?_take]
 have hm:l*s≤c*s:=Nat.mul_le_mul_right s hl
 by_cases hk:k<l*s
 ·have hd:k/s<l:=(Nat.div_lt_iff_lt_mul h0).2 hk
  have hr:k%s<s:=Nat.mod_lt _ h0
  rw[if_pos hk,List.getElem?_replicate,if_pos hd]
  have hk':k<(madeCells z (c*s)).toList.length:=by simp[madeCells]; omega
  rw[List.getElem?_eq_getElem hk']
  have hr':k%s<z.size:=by omega
  simp only[madeCells,Value.cells,hs]
  simp
  rw[Array.getElem?_eq_getElem hr',getElem!_pos z _ hr']
 ·have hd:¬k/s<l:=fun h=>hk ((Nat.div_lt_iff_lt_mul h0).1 h)
  rw[if_neg hk,List.getElem?_replicate,if_neg hd]
  rfl
theorem Mi{α:Type}{I:Nat→α→List Value→Prop}{x:α}{v:Value}(h:∀i,I i x v.cells.toList):∀(l i:Nat),ListI I i (List.replicate l x) ((List.replicate l v).flatMap fun v=>v.cells.toList)
 | 0,_=>rfl
 | l+1,i=>by
  rw[List.replicate_succ,List.replicate_succ,List.flatMap_cons]
  exact⟨_,_,rfl,h i,Mi h l (i+1)⟩
theorem Sl{t:Ty}(h:t.row=true):t.data=true∧0<t.size:=by
 simp only[Ty.row,Bool.and_eq_true,bne_iff_ne] at h
 exact⟨h.1,Nat.pos_of_ne_zero h.2⟩
theorem Vd {w:World} {own:Nat→Tag} {k:Nat} {t:Ty} (h:t.data=true) {v:Value} (hv:v.cells.toList=zeroC t) (l:Nat) (fi:FI) :
    RowC w own k (fi.mode t) t (List.replicate l t.zero) ((List.replicate l v).flatMap fun v=>v.cells.toList):=by
 unfold FI.mode
 split
 ·exact Mi (fun i=>by rw[hv]; exact OwR.zero h) l 0
 ·exact Js.2 (Mi (I:=fun _=>RdR w (Al own []) t) (fun i=>by rw[hv]; exact RdR.zero h) l 0)
theorem Mn(fi:FI)(t:Ty):(fi.mode t).ids=[]:=by unfold FI.mode; split<;>rfl
theorem natle{l c:Int}(h0:0≤l)(h:l≤c)(hm:c≤9223372036854775807):l.toNat≤c.toNat∧c.toNat≤maxLen:=by
 simp only[maxLen]; omega
theorem XK {t:TypeId} {l c:Operand} (ho:o.op=.makeSlice t l c) {fi:FI} {ti te:TI} (ht:TOk P t ti) (hte:TOk P ti.elem te) (hsl:ti.isSl=true)
    (h:makeA fi σ.blks ti.elem te (σ.opd l) (σ.opd c) some=some e):Snd P σ o e:=by
 unfold makeA at h
 split at h
 ·rename_i x1 x2 ks1 k1 lv ks2 k2 cv hl hc
  split at h
  ·rename_i hg
   obtain⟨hrow,h0,hlc,hby,hmx⟩:=hg
   injection h with h; subst h
   obtain⟨hdata,hpos⟩:=Sl hrow
   obtain⟨i,z,hi,hsz,hbs,hz,hzc,_⟩:=hte.info
   refine⟨by simp,fun _=>⟨_,rfl⟩,fun a w g hs next Q hn=>?_⟩
   have e1:=Av hs l
   rw[hl] at e1
   have e1:=D4 e1
   have e2:=Av hs c
   rw[hc] at e2
   have e2:=D4 e2
   have hr:=run_make (P:=P) w t ti.elem i z (AU ht hsl) hi hz k1 k2 lv cv h0 hlc (by rw[hbs]; exact hby) hmx
   unfold Oper.wp
   simp only[execOp,ho,e1,e2,Sem.run_bind,hr,Result.andThen_ok]
   obtain⟨hcl,hcm⟩:=natle h0 hlc hmx
   have st:=Step.add hs.heap (.cells (madeCells z.cells (cv.toNat*i.size)) ti.elem) ⟨some ⟨w.heap.size,0,none⟩,lv.toNat,cv.toNat,te.ty.size⟩
   refine hn _ _ _ (hs.heap.new ?_) ?_ st
   ·refine⟨(by rw[Mn]; intro j hj; cases hj),by simp[G.add],by simp[G.add],hpos,.inr ⟨w.heap.size,_,_,by simp[G.add],by simp[G.add],⟨_,.inr rfl,heap_alloc_new w _⟩,by simpa [G.add] using hcl,by simpa [G.add] using hcm,by simp[G.add,size_madeCells,hsz],rfl,?_⟩⟩
    rw[List.length_replicate,hsz]
    rw[PK z.cells (by rw[←Array.length_toList,hzc,LA]) hpos hcl]
    exact Vd hdata (by show z.cells.toList=_; exact hzc) _ fi
   ·refine Bg (cs:=[_]) rfl ⟨by simp,rfl⟩ ?_
    simp[asVal,AV.isAgg,G.add]
  ·cases h
 ·cases h
end
end Go.Va
namespace Go.Va
def G.upd(g:G)(f:Nat→List Nat→Tag)(ob:Option Nat)(n:Nat)(i:BI):G :=
 ⟨fun q=>if ob=some q then .lab n [] else match g.own q with | .lab j r=>f j r | t=>t,fun k=>if k=n then i else g.at_ k⟩
section
variable {w w':World} {g:G} {bs:List Blk} {f:Nat→List Nat→Tag} {ob:Option Nat} {n N:Nat} {i:BI} {mods:List Nat}
theorem Step.upd (fr:∀b,w.heap.size≤b→g.own b=.no) (hos:w'.os=w.os) (hta:w'.tape=w.tape) (hou:w'.output=w.output) (hsz:w.heap.size≤w'.heap.size)
    (hkeep:∀q,q<w.heap.size→(∀k p,g.own q=.lab k p→k∉mods)→w'.heap[q]?=w.heap[q]?) (hob:∀q,ob=some q→w.heap.size≤q) (hN:n≤N) (hf:∀j r,j<n→j∉mods→f j r=.lab j r) :
    Step mods n w g w' (g.upd f ob N i):=by
 have lt:∀b,g.own b≠.no→b<w.heap.size:=fun b h=>by
  rcases Nat.lt_or_ge b w.heap.size with h' | h'
  ·exact h'
  ·exact(h (fr b h')).elim
 have nob:∀b,b<w.heap.size→¬(ob=some b):=fun b hb e=>by have:=hob b e; omega
 refine⟨hos,hta,hou,hsz,fun b hb h=>⟨?_,hkeep b hb fun k p e=>?_⟩,fun b h=>⟨?_,hkeep b (lt b (by rw[h]; simp)) fun k p e=>?_⟩,fun b k p h hk hm=>⟨?_,hkeep b (lt b (by rw[h]; simp)) fun k' p' e=>?_⟩,fun k hk=>?_⟩
 ·simp[G.upd,nob b hb,h]
 ·rw[h] at e; cases e
 ·simp[G.upd,nob b (lt b (by rw[h]; simp)),h]
 ·rw[h] at e; cases e
 ·simp[G.upd,nob b (lt b (by rw[h]; simp)),h,hf k p hk hm]
 ·rw[h] at e; injection e with e; subst e; exact hm
 ·have:k≠N:=by omega
  simp[G.upd,this]
theorem J4(fr:∀b,w.heap.size≤b→g.own b=.no)(hsz:w.heap.size≤w'.heap.size)(hob:∀q,ob=some q→q<w'.heap.size):∀b,w'.heap.size≤b→(g.upd f ob N i).own b=.no:=by
 intro b hb
 have h1:¬(ob=some b):=fun e=>by have:=hob b e; omega
 simp[G.upd,h1,fr b (Nat.le_trans hsz hb)]
end
def refPaths:AV→List Nat→List (Nat×List Nat)
 | .ref k,p=>[(k,p)]
 | .pr a b,p=>refPaths a (0::p)++refPaths b (1::p)
 | _,_=>[]
theorem Dy:∀(a:AV) (p:List Nat),(refPaths a p).map (·.1)=a.refs
 | .ref k,_=>rfl
 | .sld _ _,_=>rfl
 | .mp _,_=>rfl
 | .pr a b,p=>by simp[refPaths,AV.refs,Dy a,Dy b]
 | .dat _ _ _,_=>rfl
 | .zs,_=>rfl
 | .ptr _ _ _ _,_=>rfl
 | .rop _ _ _,_=>rfl
 | .nilp,_=>rfl
 | .fn _ _,_=>rfl
 | .cons _ _,_=>rfl
 | .nil,_=>rfl
 | .nst _ _ _ _ _,_=>rfl
 | .un _,_=>rfl
def look:List (Nat×List Nat)→Nat→Option (List Nat)
 | [],_=>none
 | (k,p)::r,j=>if k=j then some p else look r j
theorem Nf:∀{M:List (Nat×List Nat)},nodup (M.map (·.1))=true→∀{j p},(j,p)∈M→look M j=some p
 | (k,q)::r,hn,j,p,h=>by
  simp only[List.map_cons,nodup,Bool.and_eq_true,Bool.not_eq_true'] at hn
  simp only[look]
  rcases List.mem_cons.1 h with h | h
  ·injection h with h1 h2; subst h1; subst h2; simp
  ·split
   ·rename_i e; subst e
    have:k∈r.map (·.1):=List.mem_map.2 ⟨_,h,rfl⟩
    simp at hn this
    obtain⟨x,hx⟩:=this
    exact(hn.1 x hx).elim
   ·exact Nf hn.2 h
theorem K3:∀{M:List (Nat×List Nat)} {j:Nat},j∉M.map (·.1)→look M j=none
 | [],_,_=>rfl
 | (k,q)::r,j,h=>by
  simp only[List.map_cons,List.mem_cons,not_or] at h
  simp only[look,if_neg (Ne.symm h.1)]
  exact K3 h.2
section
variable {w:World} {g:G} {bs:List Blk}
theorem VS (H:Heap w g bs) {own':Nat→Tag} {k:Nat}:∀(t:Ty) (v:AV) (y:t.V) (cs:List Value) (p:List Nat),rd bs t v=some y→v.flatD=true→(∀j∈v.refs,rowM bs j=some .deep) →
    (∀jq∈refPaths v p,∀b q,g.own b=.lab jq.1 q→own' b=.lab k (q++jq.2))→AVX w g bs.length false v cs→OwR w own' k t p y cs:=by
 have plain:∀(t:Ty) (ks:List Nat) (u:Ty) (y:u.V) (x:t.V) (cs:List Value) (p:List Nat),castV u t y=some x→u.flat=true→AVX w g bs.length false (.dat ks u y) cs→OwR w own' k t p x cs:=by
  intro t ks u y x cs p h hf hx
  obtain⟨e,he⟩:=AQ h
  subst e; simp only at he; subst he
  exact(OwR.flat hf).2 ((RdR.flat hf).1 hx.2)
 intro t
 induction t with
 | pair a b iha ihb =>
  intro v y cs p h hf hd hm hx
  simp only[rd] at h
  split at h
  ·exact plain _ _ _ _ _ _ _ h (by simpa [AV.flatD] using hf) hx
  ·rename_i u z
   split at h
   ·rename_i y1 y2 h1 h2
    injection h with h; subst h
    obtain⟨c,d,e,hx1,hx2⟩:=hx
    simp only[AV.flatD,Bool.and_eq_true] at hf
    exact⟨c,d,e,iha u y1 c _ h1 hf.1 (fun j hj=>hd j (by simp[AV.refs,hj])) (fun jq hj=>hm jq (by simp[refPaths,hj])) hx1,
     ihb z y2 d _ h2 hf.2 (fun j hj=>hd j (by simp[AV.refs,hj])) (fun jq hj=>hm jq (by simp[refPaths,hj])) hx2⟩
   ·cases h
  ·cases h
 | sl t _ =>
  intro v y cs p h hf hd hm hx
  simp only[rd] at h
  split at h
  ·exact plain _ _ _ _ _ _ _ h (by simpa [AV.flatD] using hf) hx
  ·injection h with h; subst h
   obtain⟨ad,e⟩:=hx
   exact⟨ad,0,e,.inl ⟨rfl,rfl⟩⟩
  ·rename_i j
   split at h
   ·rename_i el m u ys hb
    obtain⟨e',he⟩:=AQ h
    injection e' with e'
    subst e'; simp only at he; subst he
    obtain⟨hk,hc⟩:=hx
    have hdeep:=hd j (by simp[AV.refs])
    simp only[rowM,hb,Option.some.injEq] at hdeep
    subst hdeep
    obtain⟨_,hlen,hes,hpos,hr⟩:=H.blk j _ hb
    have hmj:=hm (j,p) (by simp[refPaths])
    rw[hlen] at hc
    refine⟨_,_,hc,hr.imp id fun⟨b,cur,ds,ha,hown,⟨el,_,hh⟩,h1,h2,h3,h4,hcon⟩=>⟨b,el,cur,ds,ha,by simpa using hmj b [] hown,hh,h1,h2,h3,h4,?_⟩⟩
    exact ListI.mono (fun i x c r=>r.mono fun b q hb=>⟨by simpa using hmj b _ hb,rfl⟩) hcon
   ·cases h
  ·cases h
 | _ =>
  intro v y cs p h hf hd hm hx
  simp only[rd] at h
  split at h
  ·exact plain _ _ _ _ _ _ _ h (by simpa [AV.flatD] using hf) hx
  ·cases h
theorem MG:∀(v:AV) (j:Nat),j∈v.lend bs→j∈v.refs∨j∈v.deps∨∃r∈v.refs,∃l,rowM bs r=some (.sh l)∧j∈l
 | .dat ks _ _,j,h=>.inr (.inl h)
 | .ref k,j,h=>by
  simp only[AV.lend] at h
  rcases List.mem_cons.1 h with h | h
  ·exact .inl (by simp[AV.refs,h])
  ·cases hm:rowM bs k with
   | none=>rw[hm] at h; cases h
   | some m =>
    rw[hm] at h
    cases m with
    | deep=>cases h
    | sh l=>exact .inr (.inr ⟨k,by simp[AV.refs],l,hm,h⟩)
 | .pr a b,j,h=>by
  simp only[AV.lend] at h
  rcases List.mem_append.1 h with h | h
  ·rcases MG a j h with h | h | ⟨r,h,l,hl⟩
   ·exact .inl (by simp[AV.refs,h])
   ·exact .inr (.inl (by simp[AV.deps,h]))
   ·exact .inr (.inr ⟨r,by simp[AV.refs,h],l,hl⟩)
  ·rcases MG b j h with h | h | ⟨r,h,l,hl⟩
   ·exact .inl (by simp[AV.refs,h])
   ·exact .inr (.inl (by simp[AV.deps,h]))
   ·exact .inr (.inr ⟨r,by simp[AV.refs,h],l,hl⟩)
 | .zs,_,h=>by cases h
 | .ptr _ _ _ _,_,h=>by cases h
 | .rop _ _ _,_,h=>by cases h
 | .nilp,_,h=>by cases h
 | .fn _ _,_,h=>by cases h
 | .cons _ _,_,h=>by cases h
 | .nil,_,h=>by cases h
 | .nst _ _ _ _ _,_,h=>by cases h
 | .sld _ _,_,h=>by cases h
 | .mp _,_,h=>by cases h
 | .un _,_,h=>by cases h
end
end Go.Va
namespace Go.Va
theorem JM{bad:Nat→Bool}:∀{a:AV},(∀k∈a.ids,bad k=false)→a.drop bad=a
 | .dat ks t x,h=>by
  simp only[AV.drop]
  rw[if_neg]
  intro hc
  obtain⟨k,hk,hb⟩:=List.any_eq_true.1 hc
  rw[h k hk] at hb; cases hb
 | .rop ks t x,h=>by
  simp only[AV.drop]
  rw[if_neg]
  intro hc
  obtain⟨k,hk,hb⟩:=List.any_eq_true.1 hc
  rw[h k hk] at hb; cases hb
 | .pr a b,h=>by
  simp only[AV.drop]
  rw[JM fun k hk=>h k (by simp[AV.ids,hk]),JM fun k hk=>h k (by simp[AV.ids,hk])]
 | .fn g c,h=>by
  simp only[AV.drop]
  rw[JM fun k hk=>h k (by simpa [AV.ids] using hk)]
 | .cons a b,h=>by
  simp only[AV.drop]
  rw[JM fun k hk=>h k (by simp[AV.ids,hk]),JM fun k hk=>h k (by simp[AV.ids,hk])]
 | .zs,_=>rfl
 | .ref _,_=>rfl
 | .sld _ _,_=>rfl
 | .mp _,_=>rfl
 | .ptr _ _ _ _,_=>rfl
 | .nilp,_=>rfl
 | .nil,_=>rfl
 | .nst k i p o e,h=>by simp[AV.drop,h k (by simp[AV.ids])]
 | .un _,_=>rfl
theorem Jk{w:World}{own:Nat→Tag}{k:Nat}{m:RM}{t:Ty}{xs:List t.V}{ds:List Value}:RowC w own k m t xs ds↔ListI (ElR w own k m t) 0 xs ds:=by
 cases m with
 | deep=>exact Iff.rfl
 | sh ks=>exact Js
theorem ElR.len{w:World}{own:Nat→Tag}{k:Nat}{m:RM}{t:Ty}{i:Nat}{x:t.V}{cs:List Value}(h:ElR w own k m t i x cs):cs.length=t.size:=by
 cases m with
 | deep=>exact OwR.len h
 | sh ks=>exact RdR.len h
open Classical in
theorem ElR.on {w w':World} {own own':Nat→Tag} {k k':Nat} {m m':RM} {t:Ty} {i i':Nat} {x:t.V} {cs:List Value} (h:ElR w own k m t i x cs)
    (hm:match m,m' with
     | .deep,.deep=>∀b q,own b=.lab k (q++[i])→own' b=.lab k' (q++[i'])∧w'.heap[b]?=w.heap[b]?
     | .sh ks,.sh ks'=>∀b,Al own ks b→Al own' ks' b∧w'.heap[b]?=w.heap[b]?
     | .deep,.sh ks'=>∀b q,own b=.lab k (q++[i])→Al own' ks' b∧w'.heap[b]?=w.heap[b]?
     | .sh _,.deep=>False):ElR w' own' k' m' t i' x cs:=by
 cases m with
 | deep=>cases m' with
  | deep=>exact OwR.mono (p:=[i]) (p':=[i']) hm h
  | sh ks' =>
   have h1:OwR w' (fun b=>if(∃q,own b=.lab k (q++[i])) then own b else .no) k t [i] x cs :=
    OwR.mono (p:=[i]) (p':=[i]) (fun b q hb=>⟨by rw[if_pos ⟨q,hb⟩]; exact hb,(hm b q hb).2⟩) h
   exact OwR.rd (fun b q hb=>by
    split at hb
    ·rename_i hq; obtain⟨q',hq⟩:=hq; exact(hm b q' hq).1
    ·cases hb) h1
 | sh ks=>cases m' with
  | deep=>exact hm.elim
  | sh ks'=>exact RdR.mono hm h
def shIds(bs:List Blk)(v:AV):List Nat:=v.refs.flatMap (fun k=>match rowM bs k with | some (.sh l)=>l | _=>[])
theorem Jm {bs:List Blk} {m m':RM} {t:Ty} {v:AV} {y:t.V} {rs:List Nat} (h:take bs m t v=some (y,m',rs)):rd bs t v=some y∧rs=v.refs∧nodup v.refs=true ∧
    ((m=.deep∧m'=.deep∧v.flatD=true∧∀j∈v.refs,rowM bs j=some .deep)∨∃ks,m=.sh ks∧m'=.sh (ks++v.deps++shIds bs v)):=by
 unfold take at h
 split at h
 ·cases h
 ·rename_i y' hy
  dsimp only at h
  split at h
  ·split at h
   ·rename_i hc
    simp only[Bool.and_eq_true] at hc
    simp only[Option.some.injEq,Prod.mk.injEq] at h
    obtain⟨rfl,rfl,rfl⟩:=h
    refine⟨hy,rfl,hc.1.2,.inl ⟨rfl,rfl,hc.1.1,fun j hj=>?_⟩⟩
    have:=List.all_eq_true.1 hc.2 j hj
    split at this
    ·assumption
    ·cases this
   ·cases h
  ·split at h
   ·rename_i hc
    simp only[Bool.and_eq_true] at hc
    simp only[Option.some.injEq,Prod.mk.injEq] at h
    obtain⟨rfl,rfl,rfl⟩:=h
    exact⟨hy,rfl,hc.1,.inr ⟨_,rfl,rfl⟩⟩
   ·cases h
theorem Yz{w:World}{g:G}{bs:List Blk}(H:Heap w g bs){v:AV}:∀j∈shIds bs v,j<bs.length:=by
 intro j hj
 obtain⟨r,_,hr⟩:=List.mem_flatMap.1 hj
 split at hr
 ·rename_i l hl
  unfold rowM at hl
  split at hl
  ·rename_i e m t xs hb
   injection hl with hl; subst hl
   exact(H.blk r _ hb).1 j hr
  ·cases hl
 ·cases hr
theorem RW{w:World}{g:G}{bs:List Blk}(H:Heap w g bs){m m':RM}{t:Ty}{v:AV}{y:t.V}{rs:List Nat}{cs:List Value}(h:take bs m t v=some (y,m',rs))(hx:AVX w g bs.length false v cs)(hm:∀j∈m.ids,j<bs.length):∀j∈m'.ids,j<bs.length:=by
 obtain⟨_,_,_,hc⟩:=Jm h
 rcases hc with ⟨rfl,rfl,_⟩| ⟨ks,rfl,rfl⟩
 ·exact hm
 ·intro j hj
  rcases List.mem_append.1 hj with hj | hj
  ·rcases List.mem_append.1 hj with hj | hj
   ·exact hm j hj
   ·exact hx.scope j hj
  ·exact Yz H j hj
theorem No{bs:List Blk}{m m':RM}{t:Ty}{v:AV}{y:t.V}{rs:List Nat}(h:take bs m t v=some (y,m',rs)):(∀j∈m.ids,j∈m'.ids)∧(m=.deep↔m'=.deep):=by
 obtain⟨_,_,_,hc⟩:=Jm h
 rcases hc with ⟨rfl,rfl,_⟩| ⟨ks,rfl,rfl⟩
 ·exact⟨fun _ h=>h,Iff.rfl⟩
 ·exact⟨fun j hj=>List.mem_append_left _ (List.mem_append_left _ hj),by simp⟩
theorem LJ{ks:List Nat}{m:RM}(h:offM ks m=true):∀j∈m.ids,j∉ks:=fun j hj=>by
 have:=List.all_eq_true.1 h j hj
 simpa using this
def turnF(m:RM)(k:Nat)(M:List (Nat×List Nat))(j:Nat)(r:List Nat):Tag :=
 match look M j with
 | none=>.lab j r
 | some path=>match m with | .deep=>.lab k (r++path)| .sh _=>.imm
theorem IS{m:RM}{k:Nat}{M:List (Nat×List Nat)}{j:Nat}{r:List Nat}(h:j∉M.map (·.1)):turnF m k M j r=.lab j r:=by simp[turnF,K3 h]
def InR(w:World)(own:Nat→Tag)(k:Nat):RM→(t:Ty)→List Nat→t.V→List Value→Prop
 | .deep,t,L,x,cs=>OwR w own k t L x cs
 | .sh ks,t,_,x,cs=>RdR w (Al own ks) t x cs
theorem Abs {w:World} {own:Nat→Tag} {k:Nat} {m:RM} {u:Ty} {y:u.V} {p:List Nat} {t:Ty} {i:Nat} {x x':t.V} {cs:List Value} {o:Nat} (hs:setV u y p t x=some x') (ho:offTP t p=some o) (h:ElR w own k m t i x cs) :
    ∃c0 c1 c2,cs=c0++c1++c2∧c0.length=o∧c1.length=u.size∧∀c1',InR w own k m u (labP p [i]) y c1'→ElR w own k m t i x' (c0++c1'++c2):=by
 cases m with
 | deep=>exact Mx (owRel w own k) u y p t [i] x x' cs o hs ho h
 | sh ks=>exact Mx (rdRel w (Al own ks)) u y p t [i] x x' cs o hs ho h
theorem Q8 {w w':World} {g:G} {bs:List Blk} (H:Heap w g bs) {m m':RM} {t:Ty} {v:AV} {y:t.V} {rs:List Nat} {cs:List Value} (h:take bs m t v=some (y,m',rs)) (hx:AVX w g bs.length false v cs) {k:Nat} {M:List (Nat×List Nat)} {L:List Nat} {own':Nat→Tag} {m'':RM}
    (hM:∀jq∈refPaths v L,look M jq.1=some jq.2) (hids:∀j∈m'.ids,j∈m''.ids) (hoff:∀j∈m''.ids,look M j=none) (hdp:m=.deep↔m''=.deep)
    (hown:∀b j r,g.own b=.lab j r→(j∈M.map (·.1)∨j∈m''.ids)→own' b=turnF m k M j r) (himm:∀b,g.own b=.imm→own' b=.imm)
    (hheap:∀b,g.own b=.imm∨(∃j r,g.own b=.lab j r∧(j∈M.map (·.1)∨j∈m''.ids))→w'.heap[b]?=w.heap[b]?):InR w' own' k m'' t L y cs:=by
 obtain⟨hy,rfl,hn,hc⟩:=Jm h
 have lookM:∀j p,look M j=some p→j∈M.map (·.1):=fun j p hj=>Classical.byContradiction fun hn=>by rw[K3 hn] at hj; cases hj
 have refM:∀j∈v.refs,∃p,look M j=some p:=fun j hj=>by
  rw[←Dy v L] at hj
  obtain⟨jq,hjq,rfl⟩:=List.mem_map.1 hj
  exact⟨_,hM jq hjq⟩
 rcases hc with ⟨rfl,rfl,hf,hd⟩| ⟨ks,rfl,rfl⟩
 ·obtain rfl:=hdp.1 rfl
  have h1:OwR w (fun b=>match g.own b with | .lab j r=>(match look M j with | some p=>.lab k (r++p)| none=>.no)| _=>.no) k t L y cs :=
   VS H t v y cs L hy hf hd (fun jq hj b q hb=>by simp[hb,hM jq hj]) hx
  refine OwR.mono (p:=L) (p':=L) (fun b q hb=>?_) h1
  split at hb
  ·rename_i j r hj
   split at hb
   ·rename_i p hp
    have hm:=lookM j p hp
    refine⟨?_,hheap b (.inr ⟨j,r,hj,.inl hm⟩)⟩
    rw[hown b j r hj (.inl hm)]
    simp only[turnF,hp]
    exact hb
   ·cases hb
  ·cases hb
 ·obtain ⟨ks'',rfl⟩:∃l,m''=.sh l:=by
    cases m'' with
    | deep=>have:=hdp.2 rfl; cases this
    | sh l=>exact⟨l,rfl⟩
  have key:∀b j q,g.own b=.lab j q→(j∈v.refs∨j∈ks'')→Al own' ks'' b:=by
   intro b j q hb hj
   rcases hj with hj | hj
   ·obtain⟨p,hp⟩:=refM j hj
    exact .inl (by rw[hown b j q hb (.inl (lookM j p hp))]; simp[turnF,hp])
   ·exact .inr ⟨j,hj,q,by rw[hown b j q hb (.inr hj)]; simp[turnF,hoff j hj]⟩
  obtain⟨hr,hl⟩:=J1 H t v y cs hy hx
  refine hr.mono fun b hb=>?_
  rcases hb with hb | ⟨j,hj,q,hq⟩
  ·exact⟨.inl (himm b hb),hheap b (.inl hb)⟩
  ·have hj':j∈v.refs∨j∈ks'':=by
     rcases MG v j hj with h | h | ⟨r,h,l,hm,hjl⟩
     ·exact .inl h
     ·exact .inr (hids j (List.mem_append_left _ (List.mem_append_right _ h)))
     ·exact .inr (hids j (List.mem_append_right _ (List.mem_flatMap.2 ⟨r,h,by rw[hm]; exact hjl⟩)))
   refine⟨key b j q hq hj',hheap b (.inr ⟨j,q,hq,?_⟩)⟩
   rcases hj' with h | h
   ·obtain⟨p,hp⟩:=refM j h; exact .inl (lookM j p hp)
   ·exact .inr h
end Go.Va
namespace Go.Va
section
variable {P:Program} {σ:St} {o:Oper} {en:Env} {e:Eff} {w:World} {g:G}
theorem Kp {t:Nat} {ti:TI} (ht:TOk P t ti) {b off:Nat} {cur:Array Value} {el:TypeId} (hh:w.heap[b]?=some (.cells cur el (0,0))) {v:Value} {cs:List Value} (hv:v.cells=cs.toArray) (hl:cs.length=ti.ty.size)
    (hfit:off+cs.length≤cur.size) (h1:∀c∈cs,c.oneCell'=true) :
    (storeVar t ⟨b,off,none⟩ v).run P w=.ok () (w.setRow b (cur.toList.take off++cs++cur.toList.drop (off+cs.length)).toArray):=by
 have hs:=run_storeCells_at P b off el cs 0 cur w hh (by simpa using hfit) h1
 simp only[Nat.add_zero] at hs
 simp[storeVar,DV ht,hv,hl,hs]
theorem SQ{mods:List Nat}{b k:Nat}{cs:Array Value}(ho:g.own b=.lab k [])(hk:k∈mods):∀q,q<w.heap.size→(∀k p,g.own q=.lab k p→k∉mods)→(w.setRow b cs).heap[q]?=w.heap[q]?:=by
 intro q _ hq
 refine setRow_other w b q cs fun e=>?_
 subst e
 exact hq k [] ho hk
theorem HA{f:Nat→List Nat→Tag}{ob:Option Nat}{n:Nat}{i:BI}{b j:Nat}{r:List Nat}(hob:ob≠some b)(h:g.own b=.lab j r):(g.upd f ob n i).own b=f j r:=by simp[G.upd,hob,h]
theorem Lz{f:Nat→List Nat→Tag}{ob:Option Nat}{n:Nat}{i:BI}{b:Nat}(hob:ob≠some b)(h:g.own b=.imm):(g.upd f ob n i).own b=.imm:=by simp[G.upd,hob,h]
theorem RJ (H:Heap w g σ.blks) {t:Nat} {ti:TI} (ht:TOk P t ti) {k:Nat} {i:Int} {p:List Nat} {of:Nat} {a old a' v:AV} (hb:σ.blks[k]?=some (.box a)) (hg:a.getP p=some old) (hs:a.setP p v=some a')
    (hc:v.top∧a.offP p=some of∧old.size=v.size∧v.size=ti.ty.size∧v.isAgg=ti.ty.isAgg∧a'.ids.contains k=false) {u vv:Value} (hu:AVR w g σ.blks.length (.ptr k i p of) u) (hv:AVR w g σ.blks.length v vv) :
    ∃w' g',(Instr.storeAt t u vv).run P w=.ok () w'∧Heap w' g' ((dropB [k] σ.blks).set k (.box a'))∧Step [k] σ.blks.length w g w' g':=by
 obtain⟨htop,hof,hsz,hst,hagg,hid⟩:=hc
 obtain⟨hk,h0,h1,b,hba,rfl⟩:=Im hu
 obtain⟨hlen,b',cs,el,ha,ho,hh,hx⟩:=H.blk k _ hb
 rw[hba] at ha; injection ha with ha; injection ha with ha; subst ha
 obtain⟨hun,htup⟩:=Vn htop
 obtain⟨cv,hcv,hvv⟩:=A0 htup hun hv
 have hvc:=NV hvv hcv.one
 obtain⟨c0,c1,c2,e1,ho2,hx1,hset⟩:=JT p a cs.toList old hx hg
 rw[hof] at ho2; injection ho2 with ho2
 have hl1:c1.length=cv.length:=by rw[hx1.len,hcv.len,hsz]
 have hi0:i.toNat=0:=by omega
 have hcsz:cs.size=c0.length+c1.length+c2.length:=by rw[←Array.length_toList,e1]; simp only[List.length_append]
 have hrun:=Kp (P:=P) ht (off:=of) hh hvc (by rw[hcv.len,hst]) (by omega) hcv.one
 have hnew:(cs.toList.take of++cv++cs.toList.drop (of+cv.length))=c0++cv++c2:=by
  rw[e1,ho2]
  congr 1
  ·congr 1
   rw[List.append_assoc,List.take_left]
  ·rw[←hl1,←List.length_append,List.drop_left]
 rw[hnew] at hrun
 have st:Step [k] σ.blks.length w g (w.setRow b (c0++cv++c2).toArray) g :=
  ⟨rfl,rfl,rfl,by simp,fun q hq h=>⟨h,setRow_other w b q _ (fun e=>by subst e; rw[ho] at h; cases h)⟩,fun q h=>⟨h,setRow_other w b q _ (fun e=>by subst e; rw[ho] at h; cases h)⟩,
   fun q j r h _ hm=>⟨h,setRow_other w b q _ (fun e=>by subst e; rw[ho] at h; injection h with h; exact hm (by simp[h]))⟩,fun _ _=>rfl⟩
 refine⟨_,g,?_,?_,st⟩
 ·simp only[Instr.storeAt,Instr.sureAddr,Sem.run_bind,Sem.run_pure,Result.andThen_ok,hi0,Nat.zero_mul,Nat.zero_add]
  exact hrun
 ·refine H.turn st (fun q hq=>H.fresh q (by simpa using hq)) (by simp[Ar]) fun j x hj=>?_
  rw[List.getElem?_set] at hj
  split at hj
  ·rename_i hkj; subst hkj
   split at hj
   ·injection hj with hj; subst hj
    refine .inr (.inr ⟨hlen,b,_,el,hba,ho,setRow_heap w b cs _ el (0,0) hh,?_⟩)
    have:=AVX.step st (Nat.le_refl _) a' false (hset v a' cv hs hcv)
    rw[JM (fun j hj=>by
     cases hjk:([k]:List Nat).contains j with
     | false=>rfl
     | true =>
      simp at hjk; subst hjk
      simp at hid; exact(hid hj).elim)] at this
    simpa [Ar] using this
   ·cases hj
  ·rename_i hne
   obtain⟨y,hy,rfl⟩:=Ec hj
   exact .inr (.inl ⟨by simpa using fun e:j=k=>hne e.symm,y,hy,rfl⟩)
theorem LX{bs:List Blk}{t:Ty}{v:AV}{y:t.V}(h:rd bs t v=some y):v.isTup=false∧v.isUn=false:=by
 cases v with
 | cons a b=>cases t<;>simp[rd] at h
 | nil=>cases t<;>simp[rd] at h
 | un n=>cases t<;>simp[rd] at h
 | _=>exact⟨rfl,rfl⟩
theorem TR{α:Type}{l:List α}{i:Nat}(h:i<l.length)(d:α):l.getD i d=l[i]:=by simp[List.getD,h]
theorem NC (H:Heap w g σ.blks) {t:Nat} {ti:TI} (ht:TOk P t ti) {k:Nat} {i:Int} {p:List Nat} {of e:Nat} {m m':RM} {tr:Ty} {xs:List tr.V} {v:AV} {y:ti.ty.V} {x':tr.V} {rs:List Nat} (hb:σ.blks[k]?=some (.row e m tr xs))
    (htk:take σ.blks m ti.ty v=some (y,m',rs)) (hc:offTP tr p=some of∧tyP tr p=some ti.ty∧offM (k::rs) m'=true∧rs.contains k=false) (hset:setV ti.ty y p tr (xs.getD i.toNat tr.zero)=some x')
    {u vv:Value} (hu:AVR w g σ.blks.length (.ptr k i p of) u) (hv:AVR w g σ.blks.length v vv) :
    ∃w' g',(Instr.storeAt t u vv).run P w=.ok () w'∧Heap w' g' ((Blk.kill (dropB (k::rs) σ.blks) rs).set k (.row e m' tr (xs.set i.toNat x')))∧Step (k::rs) σ.blks.length w g w' g':=by
 obtain⟨hof,hty,hoff,hrk⟩:=hc
 obtain⟨hk,h0,h1,b,hba,rfl⟩:=Im hu
 obtain⟨hmi,hlen,hes,hpos,hr⟩:=H.blk k _ hb
 have hlt:i.toNat<xs.length:=by rw[←hlen]; exact h1
 rcases hr with ⟨hx0,_⟩| ⟨b',cur,ds,ha,hown,⟨el,hel,hh⟩,hc1,hc2,hc3,hc4,hcon⟩
 ·rw[hx0] at hlt; simp at hlt
 rw[hba] at ha; injection ha with ha; injection ha with ha; subst ha
 obtain⟨hy,hrs,hnd,hmm⟩:=Jm htk
 obtain⟨htup,hun⟩:=LX hy
 obtain⟨cv,hcv,hvv⟩:=A0 htup hun hv
 have hvc:=NV hvv hcv.one
 have hcl:cv.length=ti.ty.size:=(J1 H _ _ _ _ hy hcv).1.len
 obtain⟨c0,c,d,e1,hl0,hrc,hr0,hrd⟩:=ListI.at_ (fun i x c h=>ElR.len h) (Jk.1 hcon) hlt
 have hcsz:=ElR.len hrc
 obtain⟨hsub,hdp⟩:=No htk
 have hoffm:=LJ hoff
 have hkrs:k∉rs:=by simpa using hrk
 let M:=refPaths v (labP p [i.toNat])
 have hMr:M.map (·.1)=rs:=by rw[hrs]; exact Dy v _
 let f:=turnF m k M
 let g':=g.upd f none σ.blks.length ⟨none,0,0,0⟩
 let off:=i.toNat*tr.size+of
 let new:=cur.toList.take off++cv++cur.toList.drop (off+cv.length)
 let w':=w.setRow b new.toArray
 have hownk:∀b' r,g.own b'=.lab k r→g'.own b'=.lab k r:=fun b' r h=>by
  have:=HA (f:=f) (ob:=none) (n:=σ.blks.length) (i:=⟨none,0,0,0⟩) (by simp) h
  rw[this]; exact IS (by rw[hMr]; exact hkrs)
 have st:Step (k::rs) σ.blks.length w g w' g':=Step.upd H.fresh rfl rfl rfl (by simp[w']) (SQ hown (by simp)) (fun q h=>by cases h) (Nat.le_refl _) fun j r _ hm =>
  IS (by rw[hMr]; exact fun h=>hm (List.mem_cons_of_mem _ h))
 have hneb:∀b' j r,g.own b'=.lab j r→j≠k→w'.heap[b']?=w.heap[b']?:=fun b' j r h hj=>setRow_other w b b' _ fun e=>by subst e; rw[hown] at h; injection h with h; exact hj h.symm
 have hneb2:∀b' q,g.own b'=.lab k q→q≠[]→w'.heap[b']?=w.heap[b']?:=fun b' q h hq=>setRow_other w b b' _ fun e=>by subst e; rw[hown] at h; injection h with _ h; exact hq h.symm
 have hneb3:∀b',g.own b'=.imm→w'.heap[b']?=w.heap[b']?:=fun b' h=>setRow_other w b b' _ fun e=>by subst e; rw[hown] at h; cases h
 have hon:∀(i':Nat) (x:tr.V) (c:List Value),ElR w g.own k m tr i' x c→ElR w' g'.own k m' tr i' x c:=by
  intro i' x c hel
  refine hel.on ?_
  rcases hmm with ⟨rfl,rfl,_⟩| ⟨ks,rfl,rfl⟩
  ·exact fun b' q h=>⟨hownk b' _ h,hneb2 b' _ h (by simp)⟩
  ·intro b' h
   rcases h with h | ⟨j,hj,r,h⟩
   ·exact⟨.inl (Lz (by simp) h),hneb3 b' h⟩
   ·have hjm:=hsub j hj
    have hjk:=hoffm j hjm
    exact⟨.inr ⟨j,hjm,r,by
     have:=HA (f:=f) (ob:=none) (n:=σ.blks.length) (i:=⟨none,0,0,0⟩) (by simp) h
     rw[this]; exact IS (by rw[hMr]; exact fun h=>hjk (List.mem_cons_of_mem _ h))⟩,hneb b' j r h fun e=>hjk (by simp[e])⟩
 rw[Nat.zero_add] at hrc
 rw[TR hlt] at hset
 obtain⟨d0,d1,d2,e2,hd0,hd1,hin⟩:=Abs hset hof (hon _ _ _ hrc)
 have hput:InR w' g'.own k m' ti.ty (labP p [i.toNat]) y cv:=by
  refine Q8 H htk hcv (M:=M) (fun jq hj=>Nf (by rw[Dy]; exact hnd) hj) (fun _ h=>h) (fun j hj=>K3 (by rw[hMr]; exact fun h=>hoffm j hj (List.mem_cons_of_mem _ h))) hdp
   (fun b' j r h _=>HA (by simp) h) (fun b' h=>Lz (by simp) h) fun b' h=>?_
  rcases h with h | ⟨j,r,h,hj⟩
  ·exact hneb3 b' h
  ·refine hneb b' j r h fun e=>?_
   subst e
   rcases hj with hj | hj
   ·rw[hMr] at hj; exact hkrs hj
   ·exact hoffm j hj (by simp)
 have hjoin:=ListI.join hlt (hr0.mono fun i' x c h=>hon i' x c h) (by rw[Nat.zero_add]; exact hin cv hput) (hrd.mono fun i' x c h=>hon i' x c h)
 have hcurl:cur.toList=ds++cur.toList.drop (xs.length*tr.size):=by rw[←hc4,List.take_append_drop]
 have hds:ds.length=xs.length*tr.size:=by
  have hll:cur.toList.length=cur.size:=Array.length_toList
  rw[←hc4,List.length_take,hll,hc3]
  exact Nat.min_eq_left (Nat.mul_le_mul_right _ hc1)
 have hrest:(cur.toList.drop (xs.length*tr.size)).length=cur.size-xs.length*tr.size:=by simp
 have hle:xs.length*tr.size≤cur.size:=by rw[hc3]; exact Nat.mul_le_mul_right _ hc1
 have hdsl:c0.length+c.length+d.length=xs.length*tr.size:=by rw[←hds,e1]; simp only[List.length_append]
 have hcl2:d0.length+d1.length+d2.length=c.length:=by rw[e2]; simp only[List.length_append]
 have hoffl:off=(c0++d0).length:=by simp only[off,List.length_append,hl0,hd0]
 have hcv1:cv.length=d1.length:=by rw[hcl,hd1]
 have hnew:new=(c0++(d0++cv++d2)++d)++cur.toList.drop (xs.length*tr.size):=by
  simp only[new]
  have hsplit:cur.toList=(c0++d0)++(d1++(d2++d++cur.toList.drop (xs.length*tr.size))):=by
   conv=>lhs; rw[hcurl,e1,e2]
   simp only[List.append_assoc]
  generalize cur.toList.drop (xs.length*tr.size)=rest at hsplit ⊢
  rw[hsplit,hoffl,hcv1,List.take_left,←List.length_append,←List.append_assoc (c0++d0) d1,List.drop_left]
  simp only[List.append_assoc]
 have hrun:(storeVar t ⟨b,off,none⟩ vv).run P w=.ok () w':=Kp (P:=P) ht hh hvc hcl (by
  have:off=c0.length+d0.length:=by rw[hoffl,List.length_append]
  omega) hcv.one
 refine⟨w',g',?_,?_,by exact st⟩
 ·simp only[Instr.storeAt,Instr.sureAddr,Sem.run_bind,Sem.run_pure,Result.andThen_ok,hes]
  exact hrun
 ·refine H.turn st (J4 H.fresh (by simp[w']) (fun q h=>by cases h)) (by simp[AJ,Ar]) fun j x hj=>?_
  rw[List.getElem?_set] at hj
  split at hj
  ·rename_i hkj; subst hkj
   split at hj
   ·injection hj with hj; subst hj
    have hatk:g'.at_ k=g.at_ k:=st.at_ k hk
    have hlen':((Blk.kill (dropB (k::rs) σ.blks) rs).set k (.row e m' tr (xs.set i.toNat x'))).length=σ.blks.length:=by simp[AJ,Ar]
    refine .inr (.inr ⟨by rw[hlen']; exact RW H htk hcv hmi,by rw[hatk,List.length_set]; exact hlen,by rw[hatk]; exact hes,hpos,.inr ⟨b,new.toArray,_,by rw[hatk]; exact hba,hownk b [] hown,⟨el,hel,setRow_heap w b cur _ el (0,0) hh⟩,by rw[hatk,List.length_set]; exact hc1,by rw[hatk]; exact hc2,?_,rfl,?_⟩⟩)
    ·rw[hatk,←hc3,hnew]
     simp only[List.size_toArray,List.length_append]
     omega
    ·rw[Jk,List.length_set]
     have:(new.toArray).toList.take (xs.length*tr.size)=c0++(d0++cv++d2)++d:=by
      rw[List.toList_toArray,hnew]
      have hll:(c0++(d0++cv++d2)++d).length=xs.length*tr.size:=by simp only[List.length_append]; omega
      rw[←hll,List.take_left]
     rw[this]
     exact hjoin
   ·cases hj
  ·rename_i hne
   rcases Jh hj with h | ⟨hjr,h⟩
   ·exact .inl h
   ·obtain⟨y',hy',rfl⟩:=Ec h
    exact .inr (.inl ⟨by simp only[List.mem_cons,not_or]; exact⟨fun e=>hne e.symm,hjr⟩,y',hy',rfl⟩)
theorem Tx{f:Nat}{F G:∀u:Ty,u.V→Option u.V}(h:∀(u:Ty) (x x0:u.V),F u x=some x0→G u x0=G u x):∀{t:Ty} {x x0:t.V},setF t x f F=some x0→setF t x0 f G=setF t x f G:=by
 induction f with
 | zero =>
  intro t x x0 hs
  cases t with
  | pair a b =>
   simp only[setF] at hs ⊢
   split at hs
   ·rename_i y hy
    injection hs with hs; subst hs
    rw[h _ _ _ hy]
   ·cases hs
  | _=>simp[setF] at hs
 | succ f ih =>
  intro t x x0 hs
  cases t with
  | pair a b =>
   simp only[setF] at hs ⊢
   split at hs
   ·rename_i y hy
    injection hs with hs; subst hs
    rw[ih hy]
   ·cases hs
  | _=>simp[setF] at hs
theorem OE{u:Ty}{y z:u.V}:∀(p:List Nat) (t:Ty) (x x0:t.V),setV u z p t x=some x0→setV u y p t x0=setV u y p t x
 | [],_,_,_,_=>rfl
 | f::p,_,_,_,h=>Tx (f:=f) (fun u' x x0 hx=>OE p u' x x0 hx) h
theorem YG{A:Type}{l:List A}{i:Nat}(h:i<l.length)(x d:A):(l.set i x).getD i d=x:=by simp[List.getD,h]
theorem Q0 {bs:List Blk} (H:Heap w g bs) {t:Nat} {ti:TI} (ht:TOk P t ti) {k j e ej of:Nat} {i:Int} {p:List Nat} {tr u:Ty} {xs:List tr.V} {ys:List u.V} {x0 x':tr.V} (hb:bs[k]?=some (.hole e tr xs i p)) (hj:bs[j]?=some (.row ej .deep u ys))
    (hx0:setV (.sl u) [] p tr (xs.getD i.toNat tr.zero)=some x0) (hx':setV (.sl u) ys p tr (xs.getD i.toNat tr.zero)=some x') (hc:ti.ty=.sl u∧offTP tr p=some of∧tyP tr p=some (.sl u)∧j≠k)
    {uu vv:Value} (hu:AVR w g bs.length (.ptr k i p of) uu) (hv:AVR w g bs.length (.ref j) vv) :
    ∃w' g',(Instr.storeAt t uu vv).run P w=.ok () w'∧Heap w' g' ((Blk.kill (dropB [k,j] ((dropB [k] bs).set k (.row e .deep tr (xs.set i.toNat x0)))) [j]).set k (.row e .deep tr (xs.set i.toNat x')))∧Step [k,j] bs.length w g w' g':=by
 obtain⟨hty,hof,htp,hjk⟩:=hc
 have hkl:=At hb
 obtain⟨hlen,hes,hpos,h0,hlt,u1,o1,x1,b,cur,ds,q1,q2,q3,hba,hown,⟨el,hel,hh⟩,hc1,hc2,hc3,hc4,hcon⟩:=H.blk k _ hb
 rw[hof] at q1; injection q1 with q1; subst q1
 rw[htp] at q2; injection q2 with q2; injection q2 with q2; subst q2
 rw[hx0] at q3; injection q3 with q3; subst q3
 let q:=i.toNat*tr.size+of
 let cur0:=cur.setIfInBounds q (.slice none 0 0)
 let w0:=w.setRow b cur0
 let bs1:=(dropB [k] bs).set k (Blk.row e .deep tr (xs.set i.toNat x0))
 have hl1:bs1.length=bs.length:=by simp[bs1,Ar]
 have st:Step [k] bs.length w g w0 g :=
  ⟨rfl,rfl,rfl,by simp[w0],fun q hq h=>⟨h,setRow_other w b q _ (fun e=>by subst e; rw[hown] at h; cases h)⟩,fun q h=>⟨h,setRow_other w b q _ (fun e=>by subst e; rw[hown] at h; cases h)⟩,
   fun q j r h _ hm=>⟨h,setRow_other w b q _ (fun e=>by subst e; rw[hown] at h; injection h with h; exact hm (by simp[h]))⟩,fun _ _=>rfl⟩
 have H1:Heap w0 g bs1:=by
  refine H.turn st (fun q hq=>H.fresh q (by simpa [w0] using hq)) (by rw[hl1]; exact Nat.le_refl _) fun m x hm=>?_
  rw[List.getElem?_set] at hm
  split at hm
  ·rename_i hkm; subst hkm
   split at hm
   ·injection hm with hm; subst hm
    exact .inr (.inr ⟨fun j hj=>(by cases hj),by rw[List.length_set]; exact hlen,hes,hpos,.inr ⟨b,cur0,ds,hba,hown,⟨el,hel,setRow_heap w b cur _ el (0,0) hh⟩,by rw[List.length_set]; exact hc1,hc2,by rw[←hc3]; simp[cur0],by rw[List.length_set]; exact hc4,hcon.mono fun i x c r=>r.mono fun b' q hb=>⟨hb,setRow_other w b b' _ fun e=>by subst e; rw[hown] at hb; injection hb with _ hb; simp at hb⟩⟩⟩)
   ·cases hm
  ·rename_i hne
   obtain⟨y,hy,rfl⟩:=Ec hm
   exact .inr (.inl ⟨by simpa using fun e:m=k=>hne e.symm,y,hy,rfl⟩)
 have hj1:bs1[j]?=some (.row ej .deep u ys):=by
  simp only[bs1]
  rw[List.getElem?_set_ne (Ne.symm hjk)]
  simp[dropB,hj,Blk.drop,RM.ids]
 have hk1:bs1[k]?=some (.row e .deep tr (xs.set i.toNat x0)):=by
  simp only[bs1]
  rw[List.getElem?_set_self (by rw[Ar]; exact hkl)]
 obtain⟨ty,offs,elem,bytes,arr,mkey⟩:=ti
 dsimp only at hty
 subst hty
 have htk:take bs1 .deep (.sl u) (.ref j)=some (ys,.deep,[j]):=by
  simp[take,rd,hj1,castV,AV.refs,AV.flatD,nodup,rowM]
 have hset1:setV (.sl u) ys p tr ((xs.set i.toNat x0).getD i.toNat tr.zero)=some x':=by
  rw[YG hlt,OE p tr _ _ hx0,hx']
 have hu1:AVR w0 g bs1.length (.ptr k i p of) uu:=by
  have:=hu.step st (Nat.le_refl _)
  rw[hl1]; exact this
 have hv1:AVR w0 g bs1.length (.ref j) vv:=by
  have:=hv.step st (Nat.le_refl _)
  rw[hl1]; exact this
 obtain⟨w',g',hrun,hH,hst⟩:=NC (σ:=⟨[],bs1⟩) H1 ht hk1 htk ⟨hof,htp,by simp[offM,RM.ids],by simpa using Ne.symm hjk⟩ hset1 hu1 hv1
 obtain⟨_,_,_,b',hb',he⟩:=Im hu
 rw[hba] at hb'; injection hb' with hb'; injection hb' with hb'; subst hb'
 obtain⟨_,hvv⟩:=KF hv
 have hfit:q+1≤cur.size:=by
  obtain⟨c0,c,d,e1,hl0,hrc,hr0,hrd⟩:=ListI.at_ (fun i x c h=>OwR.len h) hcon (by rw[List.length_set]; exact hlt)
  obtain⟨a0,a1,a2,e2,ha0,ha1,_⟩:=Mx (owRel w g.own k) (.sl u) ys p tr _ _ _ _ of (by rw[←hset1]; simp[List.getD,hlt]) hof hrc
  have hcl:=OwR.len hrc
  have h1:c.length=a0.length+a1.length+a2.length:=by rw[e2]; simp only[List.length_append]
  have h2:a1.length=1:=ha1
  have h3:(i.toNat+1)*tr.size≤cur.size:=by rw[hc3]; exact Nat.mul_le_mul_right _ (Nat.le_trans hlt hc1)
  rw[Nat.add_mul,Nat.one_mul] at h3
  simp only[q]; omega
 have one:∀c∈[vv],c.oneCell'=true:=fun c hc=>by simp at hc; subst hc; rw[hvv]; rfl
 have hvc:vv.cells=[vv].toArray:=by rw[hvv]; rfl
 have r1:=Kp (P:=P) ht (off:=q) (setRow_heap w b cur cur0 el (0,0) hh) hvc rfl (by simp[cur0]; exact hfit) one
 have r2:=Kp (P:=P) ht (off:=q) hh hvc rfl (by simpa using hfit) one
 have hX:(cur0.toList.take q++[vv]++cur0.toList.drop (q+[vv].length))=(cur.toList.take q++[vv]++cur.toList.drop (q+[vv].length)):=by
  simp only[cur0,Array.toList_setIfInBounds]
  rw[List.take_set_of_le (Nat.le_refl _),List.drop_set_of_lt (by simp)]
 rw[hX,setRow_setRow] at r1
 have hrun1:(Instr.storeAt t uu vv).run P w0=.ok () (w.setRow b (cur.toList.take q++[vv]++cur.toList.drop (q+[vv].length)).toArray):=by
  rw[he]
  simp only[Instr.storeAt,Instr.sureAddr,Sem.run_bind,Sem.run_pure,Result.andThen_ok,hes]
  exact r1
 have hw':w'=w.setRow b (cur.toList.take q++[vv]++cur.toList.drop (q+[vv].length)).toArray:=by
  rw[hrun] at hrun1
  injection hrun1
 refine⟨w',g',?_,?_,(st.trans hst (by rw[hl1]; exact Nat.le_refl _)).weaken (by simp) (Nat.le_refl _)⟩
 ·rw[he,hw']
  simp only[Instr.storeAt,Instr.sureAddr,Sem.run_bind,Sem.run_pure,Result.andThen_ok,hes]
  exact r2
 ·rw[List.set_set] at hH
  exact hH
theorem VC{t:TypeId}{x v:Operand}(ho:o.op=.store t x v){ti:TI}(ht:TOk P t ti)(h:storeA σ.blks ti (σ.opd x) (σ.opd v) some=some e):Snd P σ o e:=by
 have fin:∀(bs':List Blk) (mods:List Nat),mods≠[]→bs'.length=σ.blks.length →
     (∀(a:Act) (w:World) (g:G),StR w g σ a→∃w' g',(Instr.storeAt t (a.eval x) (a.eval v)).run P w=.ok () w'∧Heap w' g' bs'∧Step mods σ.blks.length w g w' g')→Snd P σ o ⟨.un 0,bs',mods⟩:=by
  intro bs' mods hm hl hh
  refine⟨by simp[hl],fun h=>(hm h).elim,fun a w g hs next Q hn=>?_⟩
  obtain⟨w',g',hr,hH,hst⟩:=hh a w g hs
  unfold Oper.wp
  simp only[execOp,ho,Sem.run_bind,hr,Result.andThen_ok]
  exact hn undef w' g' hH Lt hst
 unfold storeA at h
 split at h
 ·rename_i k i p of vv hx
  split at h
  ·rename_i a hb
   split at h
   ·rename_i old a' hg hset
    split at h
    ·rename_i hc
     injection h with h; subst h
     refine fin _ _ (by simp) (by simp[Ar]) fun ac w g hs=>?_
     have hu:=Av hs x
     rw[hx] at hu
     exact RJ hs.heap ht hb hg hset hc hu (Av hs v)
    ·cases h
   ·cases h
  ·rename_i el m tr xs hb
   split at h
   ·rename_i y m' rs htk
    split at h
    ·rename_i hc
     split at h
     ·rename_i x' hset
      injection h with h; subst h
      refine fin _ _ (by simp) (by simp[Ar,AJ]) fun ac w g hs=>?_
      have hu:=Av hs x
      rw[hx] at hu
      exact NC hs.heap ht hb htk hc hset hu (Av hs v)
     ·cases h
    ·cases h
   ·cases h
  ·rename_i el tr xs i' p' hb
   split at h
   ·rename_i j hj
    split at h
    ·rename_i ej u ys hbj
     split at h
     ·rename_i x0 x' hx0 hx'
      split at h
      ·rename_i hc
       split at h
       ·rename_i hi
        injection h with h; subst h; subst hi
        obtain⟨c1,c2,c3,c4,c5⟩:=hc
        subst c4
        refine fin _ _ (by simp) (by simp[Ar,AJ]) fun ac w g hs=>?_
        have hu:=Av hs x
        rw[hx] at hu
        have hv:=Av hs v
        rw[hj] at hv
        exact Q0 hs.heap ht hb hbj hx0 hx' ⟨c1,c2,c3,c5⟩ hu hv
       ·cases h
      ·cases h
     ·cases h
    ·cases h
   ·cases h
  ·cases h
 ·cases h
end
end Go.Va
namespace Go.Va
section
variable {P:Program} {σ:St} {o:Oper} {en:Env} {e:Eff}
theorem Mb {bs:List Blk} {t:Ty}:∀{ps:List (Nat×AV)} {m m':RM} {xs xs':List t.V} {rs rs':List Nat},partsA bs t m xs rs ps=some (m',xs',rs') →
    (∀j∈m.ids,j∈m'.ids)∧(m=.deep↔m'=.deep)∧rs'=rs++ps.flatMap (fun p=>p.2.refs)∧xs'.length=xs.length
 | [],m,m',xs,xs',rs,rs',h=>by
  simp only[partsA,Option.some.injEq,Prod.mk.injEq] at h
  obtain⟨rfl,rfl,rfl⟩:=h
  exact⟨fun _ h=>h,Iff.rfl,by simp,rfl⟩
 | (i,v)::ps,m,m',xs,xs',rs,rs',h=>by
  simp only[partsA] at h
  split at h
  ·rename_i y m1 l ht
   split at h
   ·obtain⟨h1,h2,h3,h4⟩:=Mb h
    obtain⟨hs,hd⟩:=No ht
    obtain⟨_,hl,_⟩:=Jm ht
    exact⟨fun j hj=>h1 j (hs j hj),hd.trans h2,by rw[h3,hl]; simp,by rw[h4,List.length_set]⟩
   ·cases h
  ·cases h
theorem Oq {t:Ty} {E:Nat→t.V→List Value→Prop} (hE:∀i x c,E i x c→c.length=t.size) {bs:List Blk} {ρ:Operand→AV} {ε:Operand→Value} {m':RM}:∀{ps:List (Nat×Operand)} {m:RM} {xs xs':List t.V} {rs rs':List Nat} {cs:List Value},
    partsA bs t m xs rs (ps.map fun p=>(p.1,ρ p.2))=some (m',xs',rs')→ListI E 0 xs cs →
    (∀p∈ps,∀m m1 y rs,take bs m t (ρ p.2)=some (y,m1,rs)→(m=.deep↔m'=.deep)→(∀j∈m1.ids,j∈m'.ids)→∃cv,(ε p.2).cells=cv.toArray∧E p.1 y cv) →
    ∃cs',Instr.fill (fun i=>some (i*t.size,t.size)) cs.toArray (ps.map fun p=>(p.1,ε p.2))=some cs'.toArray∧ListI E 0 xs' cs'
 | [],m,xs,xs',rs,rs',cs,h,hl,_=>by
  simp only[List.map_nil,partsA,Option.some.injEq,Prod.mk.injEq] at h
  obtain⟨rfl,rfl,rfl⟩:=h
  exact⟨cs,rfl,hl⟩
 | (i,x)::ps,m,xs,xs',rs,rs',cs,h,hl,hp=>by
  simp only[List.map_cons,partsA] at h
  split at h
  ·rename_i y m1 l ht
   split at h
   ·rename_i hi
    obtain⟨h1,h2,_⟩:=Mb h
    obtain⟨hs,hd⟩:=No ht
    obtain⟨cv,hcv,hey⟩:=hp (i,x) (by simp) m m1 y l ht (hd.trans h2) h1
    obtain⟨c0,c,d,e1,hl0,hrc,hr0,hrd⟩:=ListI.at_ hE hl hi
    have hnew:=ListI.join hi hr0 (by rw[Nat.zero_add]; exact hey) hrd
    obtain⟨cs',hf,hl'⟩:=Oq hE h hnew fun p hp'=>hp p (by simp[hp'])
    refine⟨cs',?_,hl'⟩
    simp only[List.map_cons]
    unfold Instr.fill
    have hcs:(ε x).cells.size=t.size:=by
     have hcv':(ε x).cells=cv.toArray:=hcv
     rw[hcv',List.size_toArray,hE _ _ _ hey]
    have hc:=hE _ _ _ hrc
    have hfit:¬i*t.size+t.size>cs.toArray.size:=by
     rw[List.size_toArray,e1,List.length_append,List.length_append,hl0,hc]
     omega
    simp only[hcs,ne_eq,not_true_eq_false,decide_false,Bool.false_or,hfit,Bool.false_eq_true,if_false]
    rw[←hf]
    congr 1
    have hcv':(ε x).cells=cv.toArray:=hcv
    rw[hcv',e1,←hl0]
    exact VX (by rw[hE _ _ _ hey,hc])
   ·cases h
  ·cases h
theorem Rp{m m':RM}(h:m=.deep↔m'=.deep)(k:Nat)(M:List (Nat×List Nat))(j:Nat)(r:List Nat):turnF m k M j r=turnF m' k M j r:=by
 unfold turnF
 split
 ·rfl
 ·cases m with
  | deep=>rw[h.1 rfl]
  | sh _=>cases m' with
   | deep=>have:=h.2 rfl; cases this
   | sh _=>rfl
def partsM(ps:List (Nat×AV)):List (Nat×List Nat):=ps.flatMap fun p=>refPaths p.2 [p.1]
theorem Rf(ps:List (Nat×AV)):(partsM ps).map (·.1)=ps.flatMap fun p=>p.2.refs:=by
 induction ps with
 | nil=>rfl
 | cons p ps ih =>
  simp only[partsM,List.flatMap_cons,List.map_append] at ih ⊢
  rw[Dy,ih]
theorem NL {w:World} {g:G} {bs:List Blk} (H:Heap w g bs) {t:Ty} {ρ:Operand→AV} {ε:Operand→Value} (hρ:∀x,AVR w g bs.length (ρ x) (ε x)):∀{ps:List (Nat×Operand)} {m m':RM} {xs xs':List t.V} {rs rs':List Nat},
    partsA bs t m xs rs (ps.map fun p=>(p.1,ρ p.2))=some (m',xs',rs')→(∀j∈m.ids,j<bs.length)→∀j∈m'.ids,j<bs.length
 | [],m,m',xs,xs',rs,rs',h,hm=>by
  simp only[List.map_nil,partsA,Option.some.injEq,Prod.mk.injEq] at h
  obtain⟨rfl,rfl,rfl⟩:=h
  exact hm
 | (i,x)::ps,m,m',xs,xs',rs,rs',h,hm=>by
  simp only[List.map_cons,partsA] at h
  split at h
  ·rename_i y m1 l ht
   split at h
   ·obtain⟨hy,_⟩:=Jm ht
    obtain⟨htup,hun⟩:=LX hy
    obtain⟨cv,hcv,_⟩:=A0 htup hun (hρ x)
    exact NL H hρ h (RW H ht hcv hm)
   ·cases h
  ·cases h
theorem Oc {t:TypeId} {len:Nat} {parts:Array (Nat×Operand)} (ho:o.op=.buildSlice t len parts) {fi:FI} {ti te:TI} (ht:TOk P t ti) (hte:TOk P ti.elem te) {m:RM} {xs:List te.ty.V} {rs:List Nat}
    (hp:partsA σ.blks te.ty (fi.mode te.ty) (List.replicate len te.ty.zero) [] (parts.toList.map fun p=>(p.1,σ.opd p.2))=some (m,xs,rs))
    (hc:(ti.isSl&&te.ty.row&&offM rs m&&nodup rs&&decide (len*te.ty.size≤16777216))=true) :
    (len=0→Snd P σ o ⟨.zs,σ.blks,[]⟩)∧(len≠0→Snd P σ o ⟨.ref σ.blks.length,Blk.kill (dropB rs σ.blks) rs++[.row ti.elem m te.ty xs],rs⟩):=by
 simp only[Bool.and_eq_true,decide_eq_true_eq] at hc
 obtain⟨⟨⟨⟨hsl,hrow⟩,hoff⟩,hnd⟩,hbig⟩:=hc
 have hu:=AU ht hsl
 obtain⟨hdata,hpos⟩:=Sl hrow
 obtain⟨ie,z,hi,hsz,hby,hz,hzc,_⟩:=hte.info
 obtain⟨_,hdp,hrs,hxl⟩:=Mb hp
 rw[List.length_replicate] at hxl
 rw[List.nil_append] at hrs
 refine⟨fun h0=>?_,fun h0=>?_⟩
 ·subst h0
  have hps:parts.toList=[]:=by
   cases hq:parts.toList with
   | nil=>rfl
   | cons p r =>
    rw[hq] at hp
    simp only[List.map_cons,partsA] at hp
    split at hp
    ·split at hp
     ·rename_i h; simp at h
     ·cases hp
    ·cases hp
  have hps':parts=#[]:=by apply Array.toList_inj.1; rw[hps]
  refine⟨Nat.le_refl _,fun _=>⟨[],(List.append_nil _).symm⟩,fun a w g hs next Q hn=>?_⟩
  have hr:(execOp a.eval o).run P w=.ok (.value (.slice (some ⟨w.heap.size,0,none⟩) 0 0)) (w.alloc (.cells #[] ti.elem)):=by
   simp[execOp,ho,Instr.buildSlice,run_underlying hu,sizeOf,typeInfo,hi,hps',Instr.fill,newRow]
   congr 2
   apply Array.eq_empty_of_size_eq_zero
   simp
  unfold Oper.wp
  rw[hr]
  have st:Step [] σ.blks.length w g (w.alloc (.cells #[] ti.elem)) g:=⟨rfl,rfl,rfl,by show w.heap.size≤(w.heap.push _).size; simp,fun b hb h=>⟨h,heap_alloc_old w _ b hb⟩,fun b h=>⟨h,heap_alloc_old w _ b (LY hs.heap (by rw[h]; simp))⟩,
   fun b k p h _ _=>⟨h,heap_alloc_old w _ b (LY hs.heap (by rw[h]; simp))⟩,fun _ _=>rfl⟩
  refine hn _ _ g (hs.heap.step0 st fun b hb=>hs.heap.fresh b (Nat.le_trans st.size hb)) (Tb _) st
 ·refine⟨by simp[AJ,Ar],fun h=>⟨[.row ti.elem m te.ty xs],?_⟩,fun a w g hs next Q hn=>?_⟩
  ·have h:rs=[]:=h
   rw[h]; rfl
  have H:=hs.heap
  let n:=σ.blks.length
  let M:=partsM (parts.toList.map fun p=>(p.1,σ.opd p.2))
  have hMr:M.map (·.1)=rs:=by rw[hrs]; exact Rf _
  let i:BI:=⟨some ⟨w.heap.size,0,none⟩,len,len,te.ty.size⟩
  let g':=g.upd (turnF m n M) (some w.heap.size) n i
  have hltw:∀b,g.own b≠.no→b≠w.heap.size:=fun b h e=>by have:=LY H h; omega
  have key:∀cells:Array Value,∃w':World,w'=w.alloc (.cells cells ti.elem)∧Step rs n w g w' g':=fun cells=>⟨_,rfl,Step.upd H.fresh rfl rfl rfl (by show w.heap.size≤(w.heap.push _).size; simp) (fun q hq _=>heap_alloc_old w _ q hq)
   (fun q h=>by injection h with h; omega) (Nat.le_refl _) fun j r _ hm=>IS (by rw[hMr]; exact hm)⟩
  have own_lab:∀b j r,g.own b=.lab j r→g'.own b=turnF m n M j r:=fun b j r h=>HA (by
   intro e; injection e with e; exact hltw b (by rw[h]; simp) e.symm) h
  have own_imm:∀b,g.own b=.imm→g'.own b=.imm:=fun b h=>Lz (by
   intro e; injection e with e; exact hltw b (by rw[h]; simp) e.symm) h
  have hzero:ListI (ElR w g'.own n m te.ty) 0 (List.replicate len te.ty.zero) ((List.replicate len (Value.agg z.cells)).flatMap fun v=>v.cells.toList):=by
   refine Mi (fun i=>?_) len 0
   have hzc':(Value.agg z.cells).cells.toList=zeroC te.ty:=hzc
   rw[hzc']
   cases m with
   | deep=>exact OwR.zero hdata
   | sh ks=>exact RdR.zero hdata
  obtain⟨cs',hfill,hlist⟩:=Oq (E:=ElR w g'.own n m te.ty) (ε:=a.eval) (fun i x c h=>h.len) hp hzero (by
   intro p hpm m0 m1 y rs0 htk hd0 hsub
   obtain⟨hy,hr0,hn0,_⟩:=Jm htk
   obtain⟨htup,hun⟩:=LX hy
   obtain⟨cv,hcv,hvv⟩:=A0 htup hun (Av hs p.2)
   refine⟨cv,NV hvv hcv.one,?_⟩
   have hin:InR w g'.own n m te.ty [p.1] y cv:=by
    refine Q8 H htk hcv (M:=M) (fun jq hj=>Nf (by rw[hMr]; exact hnd) ?_) hsub (fun j hj=>K3 (by rw[hMr]; exact LJ hoff j hj)) hd0
     (fun b j r h _=>by rw[own_lab b j r h,Rp hd0]) own_imm fun _ _=>rfl
    exact List.mem_flatMap.2 ⟨(p.1,σ.opd p.2),List.mem_map.2 ⟨p,hpm,rfl⟩,hj⟩
   cases m with
   | deep=>exact hin
   | sh ks=>exact hin)
  have hcl:=ListI.len (fun i x c h=>ElR.len h) hlist
  rw[hxl] at hcl
  have hpc:¬len*te.ty.size=0:=by
   have:0<len*te.ty.size:=Nat.mul_pos (Nat.pos_of_ne_zero h0) hpos
   omega
  have hmade:(Array.range (len*ie.size)).map (z.cells[·%z.cells.size]!)=((List.replicate len (Value.agg z.cells)).flatMap fun v=>v.cells.toList).toArray:=by
   have h1:=PK z.cells (s:=te.ty.size) (l:=len) (c:=len) (by rw[←Array.length_toList,hzc,LA]) hpos (Nat.le_refl _)
   rw[List.take_of_length_le (by rw[Array.length_toList,size_madeCells]; exact Nat.le_refl _)] at h1
   rw[←h1,hsz]
   simp only[madeCells,Array.toArray_toList]
  have hr:(execOp a.eval o).run P w=.ok (.value (.slice (some ⟨w.heap.size,0,none⟩) len len)) (w.alloc (.cells cs'.toArray ti.elem)):=by
   have:=run_buildSlice (P:=P) w t ti.elem len (parts.map fun(i,x)=>(i,a.eval x)) cs'.toArray ie z hu hi hz (by rw[hsz]; omega) (by rw[hsz]; exact hpc) (by
    rw[hmade,hsz]
    simpa using hfill)
   simp[execOp,ho,this]
  unfold Oper.wp
  rw[hr]
  obtain⟨w',hw',st⟩:=key cs'.toArray
  subst hw'
  have hatn:g'.at_ n=i:=by simp[g',G.upd]
  refine hn _ _ g' (H.turn st (J4 H.fresh st.size (fun q h=>by injection h with h; subst h; show w.heap.size<(w.heap.push _).size; simp)) (by simp[AJ,Ar]) fun j x hj=>?_) ?_ st
  ·rw[List.getElem?_append] at hj
   split at hj
   ·rcases Jh hj with h | ⟨hjr,h⟩
    ·exact .inl h
    ·obtain⟨y',hy',rfl⟩:=Ec h
     exact .inr (.inl ⟨hjr,y',hy',rfl⟩)
   ·rename_i hlen
    rw[AJ,Ar] at hj hlen
    have hj0:j-σ.blks.length=0:=by
     rcases Nat.eq_zero_or_pos (j-σ.blks.length) with h | h
     ·exact h
     ·rw[List.getElem?_eq_none (by simp; omega)] at hj; cases hj
    rw[hj0] at hj
    obtain rfl:j=n:=by simp only[n]; omega
    simp only[List.getElem?_cons_zero,Option.some.injEq] at hj
    subst hj
    refine .inr (.inr ⟨fun j hj=>?_,by rw[hatn,hxl],by rw[hatn],hpos,.inr ⟨w.heap.size,cs'.toArray,_,by rw[hatn],by simp[g',G.upd],⟨_,.inr rfl,heap_alloc_new w _⟩,by rw[hatn,hxl]; exact Nat.le_refl _,?_,by rw[hatn,List.size_toArray,hcl],rfl,?_⟩⟩)
    ·have:=NL H (Av hs) hp (by rw[Mn]; intro j hj; cases hj) j hj
     simp[AJ,Ar]; omega
    ·rw[hatn]
     have:len≤len*te.ty.size:=Nat.le_mul_of_pos_right _ hpos
     simp only[maxLen,i]; omega
    ·rw[Jk,List.toList_toArray,List.take_of_length_le (by rw[hcl,hxl]; exact Nat.le_refl _)]
     refine hlist.mono fun i' x c h=>h.on ?_
     have hap:∀b,g.own b≠.no∨g'.own b≠.no∧b≠w.heap.size→(w.alloc (.cells cs'.toArray ti.elem)).heap[b]?=w.heap[b]?:=fun b hb=>by
      refine heap_alloc_old w _ b ?_
      rcases hb with hb | ⟨hb,hne⟩
      ·exact LY H hb
      ·rcases Nat.lt_or_ge b w.heap.size with h' | h'
       ·exact h'
       ·refine(hb ?_).elim
        have:=H.fresh b h'
        simp[g',G.upd,this,Ne.symm hne]
     cases m with
     | deep =>
      intro b q hb
      refine⟨hb,hap b (.inr ⟨by rw[hb]; simp,fun e=>?_⟩)⟩
      subst e
      simp[g',G.upd] at hb
     | sh ks =>
      intro b hb
      refine⟨hb,hap b (.inr ⟨?_,fun e=>?_⟩)⟩
      ·rcases hb with hb | ⟨j,_,p,hb⟩<;>rw[hb]<;>simp
      ·subst e
       rcases hb with hb | ⟨j,hj,p,hb⟩
       ·simp[g',G.upd] at hb
       ·simp[g',G.upd] at hb
        have:=NL H (Av hs) hp (by rw[Mn]; intro j hj; cases hj) j hj
        omega
  ·refine Bg (cs:=[_]) rfl ⟨by simp[AJ,Ar],rfl⟩ ?_
   have:g'.at_ σ.blks.length=i:=hatn
   simp[asVal,AV.isAgg,this,i]
end
end Go.Va
namespace Go.Va
section
variable {P:Program} {w:World} {g:G} {bs:List Blk}
theorem WH (w:World) (t tx ty e:TypeId) (i:TypeInfo) (ht:P.underlying t=some (.slice e)) (hi:P.info? e=some i)
    (b sLen sCap:Nat) (cur:Array Value) {e0:TypeId} (hg:w.heap[b]?=some (.cells cur e0 (0,0))) (x:Value) (n:Nat) (news:List Value) (hs:Src P i.size tx x n news w) (hroom:sLen+n≤sCap) (hfit:sLen*i.size+news.length≤cur.size) :
    (Builtin.append_ #[t,tx] ty #[.slice (some ⟨b,0,none⟩) sLen sCap,x]).run P w =
     .ok (.slice (some ⟨b,0,none⟩) (sLen+n) sCap) (w.setRow b (cur.toList.take (sLen*i.size)++news++cur.toList.drop (sLen*i.size+news.length)).toArray):=by
 have hst:=run_storeCells_at P b (sLen*i.size) e0 news 0 cur w hg (by simpa using hfit) hs.one
 simp only[Nat.add_zero] at hst
 rcases hs.kind with ⟨e',hk⟩| hk<;>simp[Builtin.append_,run_underlying ht,run_underlying hk,sizeOf,typeInfo,hi,hs.len,hroom,hs.cells,Addr.add_lit,hst]
theorem YW (w:World) (t tx ty e:TypeId) (i:TypeInfo) (ht:P.underlying t=some (.slice e)) (hi:P.info? e=some i) (ad:Option Addr) (x:Value) (news:List Value) (hs:Src P i.size tx x 0 news w) :
    (Builtin.append_ #[t,tx] ty #[.slice ad 0 0,x]).run P w=.ok (.slice ad 0 0) w:=by
 have hn:news=[]:=by
  have:=hs.newsLen
  simpa using this
 subst hn
 cases ad<;>rcases hs.kind with ⟨e',hk⟩| hk<;>simp[Builtin.append_,run_underlying ht,run_underlying hk,sizeOf,typeInfo,hi,hs.len,hs.cells,storeCells]
theorem Ti (w:World) (t tx ty e:TypeId) (i:TypeInfo) (z:Value) (ht:P.underlying t=some (.slice e)) (hi:P.info? e=some i) (hz:i.zero=some z) (hzs:z.cells.size=i.size) (hpos:0<i.size)
    {Pw:Nat→Prop} {Ek:Prop} {ad:Option Addr} {len cap:Nat} {ds:List Value} (hold:(len=0∧cap=0∧ds=[])∨∃b cur e0,ad=some ⟨b,0,none⟩∧Pw b∧(w.heap[b]?=some (.cells cur e0 (0,0))∧(Ek∨e0=e))∧len≤cap∧cap≤maxLen∧cur.size=cap*i.size∧cur.toList.take (len*i.size)=ds)
    {x:Value} {n:Nat} {news:List Value} (hs:Src P i.size tx x n news w) (hby:i.bytes≠0) (hfit:(len+n)*i.bytes≤140737488355328) :
    ∃ad' cap' w',(Builtin.append_ #[t,tx] ty #[.slice ad len cap,x]).run P w=.ok (.slice ad' (len+n) cap') w'∧w'.os=w.os∧w'.tape=w.tape∧w'.output=w.output∧w.heap.size≤w'.heap.size ∧
     ((len+n=0∧cap'=0∧w'=w)∨∃b' cur' e1,ad'=some ⟨b',0,none⟩∧(w'.heap[b']?=some (.cells cur' e1 (0,0))∧(Ek∨e1=e))∧len+n≤cap'∧cap'≤maxLen∧cur'.size=cap'*i.size∧cur'.toList.take ((len+n)*i.size)=ds++news ∧
      ((∃cur e0,ad=some ⟨b',0,none⟩∧Pw b'∧w.heap[b']?=some (.cells cur e0 (0,0))∧w'=w.setRow b' cur')∨(b'=w.heap.size∧b'<w'.heap.size∧∀q,q<w.heap.size→w'.heap[q]?=w.heap[q]?))):=by
 have hmax:len+n≤140737488355328:=Nat.le_trans (Nat.le_mul_of_pos_right _ (Nat.pos_of_ne_zero hby)) hfit
 have h63:((len+n:Nat):Int)≤9223372036854775807:=by omega
 have hml:len+n≤maxLen:=by simp only[maxLen]; omega
 have hdl:ds.length=len*i.size:=by
  rcases hold with ⟨h1,h2,h3⟩| ⟨b,cur,e0,h1,_,h2,h3,h4,h5,h6⟩
  ·subst h1; subst h3; simp
  ·rw[←h6,List.length_take,Array.length_toList,h5]
   exact Nat.min_eq_left (Nat.mul_le_mul_right _ h3)
 by_cases hroom:len+n≤cap
 ·rcases hold with ⟨rfl,rfl,rfl⟩| ⟨b,cur,e0,rfl,hpw,⟨hb,hek⟩,h3,h4,h5,h6⟩
  ·obtain rfl:n=0:=by omega
   exact⟨ad,0,w,YW w t tx ty e i ht hi ad x news hs,rfl,rfl,rfl,Nat.le_refl _,.inl ⟨rfl,rfl,rfl⟩⟩
  ·have hle:len*i.size+news.length≤cur.size:=by
     rw[hs.newsLen,h5,←Nat.add_mul]
     exact Nat.mul_le_mul_right _ hroom
   refine⟨_,cap,_,WH w t tx ty e i ht hi b len cap cur hb x n news hs hroom hle,rfl,rfl,rfl,by simp,.inr ⟨b,_,e0,rfl,⟨setRow_heap w b cur _ e0 (0,0) hb,hek⟩,hroom,h4,?_,?_,.inl ⟨cur,e0,rfl,hpw,hb,rfl⟩⟩⟩
   ·simp only[List.size_toArray,List.length_append,List.length_take,List.length_drop,Array.length_toList]
    omega
   ·rw[List.toList_toArray,h6]
    have:(len+n)*i.size=(ds++news).length:=by rw[List.length_append,hdl,hs.newsLen,Nat.add_mul]
    rw[this,List.take_left]
 ·have hgt:cap<len+n:=by omega
  have holds:(Builtin.firstCells i.size len (.slice ad len cap)).run P w.drew=.ok ds.toArray w.drew:=by
   rcases hold with ⟨rfl,rfl,rfl⟩| ⟨b,cur,e0,rfl,hpw,⟨hb,hek⟩,h3,h4,h5,h6⟩
   ·cases ad with
    | none=>exact run_firstCells_none w.drew i.size 0 0 0
    | some a=>exact run_firstCells_some w.drew i.size 0 a 0 0 [] (by simp) (by simp)
   ·refine run_firstCells_some w.drew i.size len _ len cap ds hdl fun j u hu=>?_
    rw[addN,Nat.zero_add]
    show w.cell? ⟨b,j,none⟩=some u
    rw[Lg hb,←Array.getElem?_toList]
    rw[←h6,List.getElem?_take] at hu
    split at hu
    ·exact hu
    ·cases hu
  have hr:=run_append_grow_src (P:=P) w t tx ty e i z ht hi hz ad len cap ds holds x n news hs hgt h63 (growslice_fits hgt hfit)
  refine⟨_,_,_,hr,rfl,rfl,rfl,by simp,.inr ⟨w.heap.size,_,e,rfl,⟨heap_alloc_new w.drew _,.inr rfl⟩,grownCap_ge w _ cap e,grownCap_le_maxLen w _ cap e hml,?_,?_,.inr ⟨rfl,by simp,fun q hq=>heap_alloc_old w.drew _ q hq⟩⟩⟩
  ·have hge:=grownCap_ge w (len+n) cap e
   simp only[Array.size_append,List.size_toArray,List.length_append,size_zeroCells,hzs,hdl,hs.newsLen,←Nat.add_mul]
   congr 1
   omega
  ·have:(len+n)*i.size=(ds++news).length:=by rw[List.length_append,hdl,hs.newsLen,Nat.add_mul]
   rw[this,Array.toList_append,List.toList_toArray,List.take_left]
end
end Go.Va
