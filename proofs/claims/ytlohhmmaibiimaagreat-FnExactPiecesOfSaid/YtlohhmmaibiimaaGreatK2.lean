import Derived.Great.BuildSlice
import Derived.Deep.AppendSrc
import Derived.Test.YtlohhmmaibiimaaGreatK1
set_option linter.unusedVariables false
set_option linter.unusedSimpArgs false
namespace Go.Va
section
variable {P:Program} {σ:St} {o:Oper} {en:Env} {e:Eff}
theorem jf{x:Operand}(ho:o.op=.move x\/o.op=.assign x):Lj P σ o ⟨σ.Bw x,σ.blks,[]⟩ :=
 .He λa w g hs=>⟨a.eval x,by rcases ho with ho | ho<;>simp[execOp,ho],AB hs x⟩
theorem Aa5{c x y:Operand}(ho:o.op=.pick c x y){ks:List Nat}{t:Bool}(hc:σ.Bw c=.dat ks .bool t):Lj P σ o ⟨bif t then σ.Bw x else σ.Bw y,σ.blks,[]⟩ :=
 .He λa w g hs=>by
  have h:=AB hs c;rw[hc] at h;have h:=NP h;refine⟨if t then a.eval x else a.eval y,by simp[execOp,ho,h,asBool],?_⟩;cases t
  ·exact AB hs y
  ·exact AB hs x
theorem Uu{x:Operand}(ho:o.op=.nilCheck x)(hp:∀(w:World) (g:G) n v,Bg w g n (σ.Bw x) v->∃a,v=.pointer (some a)):Lj P σ o ⟨σ.Bw x,σ.blks,[]⟩ :=
 .He λa w g hs=>by
  obtain⟨ad,h⟩:=hp w g _ _ (AB hs x);exact⟨a.eval x,by simp[execOp,ho,h],AB hs x⟩
theorem sQ{op:BinOp}{t:TypeId}{x y:Operand}{yt:TypeId}(ho:o.op=.binOp op t x y yt){tb:Bool}(htb:tb=true->P.underlying t=some .bool){z:AV}(h:ZR op tb (σ.Bw x) (σ.Bw y) some=some z):Lj P σ o ⟨z,σ.blks,[]⟩ :=
 .He <| JI (s:=λρ=>do eqGuard op t x y (ρ x) (ρ y);binOp op t (ρ x) (ρ y)) (λρ=>by simp[execOp,ho]) λa w g hs=>by
  obtain⟨z',e,hG⟩:=Acd t x y htb h (AB hs x) (AB hs y);injection e with e;subst e;exact hG
theorem Aa6{op:UnOp}{t:TypeId}{x:Operand}(ho:o.op=.unOp op t x){z:AV}(h:unA op (σ.Bw x) some=some z):Lj P σ o ⟨z,σ.blks,[]⟩ :=
 .He <| JI (s:=λρ=>Op.unary op (ρ x)) (λρ=>by simp[execOp,ho]) λa w g hs=>by
  obtain⟨z',e,hG⟩:=AhK h (AB hs x);injection e with e;subst e;exact hG
theorem jc {s t:TypeId} {x:Operand} (ho:o.op=.convert s t x) {ts ti:TI} (hs:Eg P s ts) (ht:Eg P t ti) {te:Option Ty} (hte:∀u,te=some u->ts.Ea=true/\∃tie,tie.ty=u/\Eg P ts.elem tie) {z:AV}
    (h:TU σ.blks te ti.ty (σ.Bw x) some=some z):Lj P σ o ⟨z,σ.blks,[]⟩ :=
 .He <| JI (s:=λρ=>convert s t (ρ x)) (λρ=>by simp[execOp,ho]) λa w g hst=>by
  obtain⟨z',e,hG⟩:=y5 hst.heap hs ht hte h (AB hst x);injection e with e;subst e;exact hG
theorem AaZ{t:TypeId}{x:Operand}(ho:o.op=.load t x){ti:TI}(ht:Eg P t ti){z:AV}(h:SS σ.blks ti (σ.Bw x) some=some z):Lj P σ o ⟨z,σ.blks,[]⟩ :=
 .He <| JI (s:=λρ=>Instr.loadAt t (ρ x)) (λρ=>by simp[execOp,ho]) λa w g hst=>by
  obtain⟨z',e,hG⟩:=Aad hst.heap ht h (AB hst x);injection e with e;subst e;exact hG
theorem Yi{t:TypeId}{x:Operand}{f:Nat}(ho:o.op=.fieldAddr t x f){ti:TI}(ht:Eg P t ti){z:AV}(h:X2 ti f (σ.Bw x) some=some z):Lj P σ o ⟨z,σ.blks,[]⟩ :=
 .He <| JI (s:=λρ=>Instr.fieldAt t (ρ x) f) (λρ=>by simp[execOp,ho]) λa w g hst=>by
  obtain⟨z',e,hG⟩:=Ac8 (n:=σ.blks.length) ht h (AB hst x);injection e with e;subst e;exact hG
theorem Yj{t:TypeId}{x i:Operand}(ho:o.op=.indexAddr t x i){ti te:TI}(ht:Eg P t ti)(hte:Eg P ti.elem te)(hsl:ti.Ea=true){z:AV}(h:lF σ.blks te.ty (σ.Bw x) (σ.Bw i) some=some z):Lj P σ o ⟨z,σ.blks,[]⟩ :=
 .He <| JI (s:=λρ=>Instr.indexAt t (ρ x) (ρ i)) (λρ=>by simp[execOp,ho]) λa w g hst=>by
  obtain⟨z',e,hG⟩:=Adj hst.heap ht hte hsl h (AB hst x) (AB hst i);injection e with e;subst e;exact hG
theorem sW{t:TypeId}{x i:Operand}(ho:o.op=.index t x i){ti:TI}(ht:Eg P t ti)(hs:ti.ty=.str){z:AV}(h:ZV (σ.Bw x) (σ.Bw i) some=some z):Lj P σ o ⟨z,σ.blks,[]⟩ :=
 .He <| JI (s:=λρ=>Instr.index t (ρ x) (ρ i)) (λρ=>by simp[execOp,ho]) λa w g hst=>by
  obtain⟨z',e,hG⟩:=AcY (n:=σ.blks.length) ht hs h (AB hst x) (AB hst i);injection e with e;subst e;exact hG
theorem tu {t:TypeId} {x:Operand} {lo hi mx:Option Operand} (ho:o.op=.slice t x lo hi mx) {ti:TI} (ht:Eg P t ti) {te:Option Ty} (hte:∀u,te=some u->ti.Ea=true/\∃tie,tie.ty=u/\Eg P ti.elem tie) {z:AV}
    (h:QT σ.blks ti te (σ.Bw x) (lo.map σ.Bw) (hi.map σ.Bw) (mx.map σ.Bw) some=some z):Lj P σ o ⟨z,σ.blks,[]⟩ :=
 .He <| JI (s:=λρ=>Instr.sliceAt t (ρ x) (lo.map ρ) (hi.map ρ) (mx.map ρ)) (λρ=>by simp[execOp,ho]) λa w g hst=>by
  obtain⟨z',e,hG⟩:=sN hst.heap ht hte h (AB hst x) (Sq hst lo) (Sq hst hi) (Sq hst mx);injection e with e;subst e;exact hG
theorem jd{x:Operand}{i:Nat}(ho:o.op=.extract x i){z:AV}(h:K3 (σ.Bw x) i=some z)(hz:z.Cp=false):Lj P σ o ⟨z,σ.blks,[]⟩ :=
 .He <| JI (s:=λρ=>Instr.extract (ρ x) i) (λρ=>by simp[execOp,ho]) λa w g hst=>by
  have hx:=AB hst x;cases hq:σ.Bw x with
  | cons b c =>
   rw[hq] at hx h;obtain⟨vs,e,hx⟩:=hx;obtain⟨v,hv,hr⟩:=oJ h hx;exact⟨v,by simp[Instr.extract,e,hv],hr hz⟩
  | _=>rw[hq] at h;simp[K3] at h
theorem R1{w:World}{g:G}{n:Nat}:∀{t:Ty},BA w g n false t.S3 (Na t)
 | .int k=>⟨λ_ h=>by(cases h),rfl⟩
 | .bool=>⟨λ_ h=>by(cases h),rfl⟩
 | .str=>⟨λ_ h=>by(cases h),rfl⟩
 | .unit=>⟨λ_ h=>by(cases h),rfl⟩
 | .pair a b=>⟨_,_,rfl,R1,R1⟩
 | .sl _=>⟨none,rfl⟩
 | .opq 0=>rfl
 | .opq 1=>⟨rfl,by simp[Na,Value.oneCell']⟩
 | .opq (_+2)=>⟨rfl,by simp[Na,Value.oneCell']⟩
theorem ZD:∀{t:Ty},t.S3.isAgg=t.isAgg
 | .int _=>rfl
 | .bool=>rfl
 | .str=>rfl
 | .unit=>rfl
 | .pair _ _=>rfl
 | .sl _=>rfl
 | .opq 0=>rfl
 | .opq (_+1)=>rfl
theorem sS{t:TypeId}{parts:Array (Nat×Operand)}(ho:o.op=.build t parts){ti:TI}(ht:Eg P t ti)(hof:ti.Rc≠[]){z:AV}(h:Rr ti ti.ty.S3 (parts.toList.map λp=>(p.1,σ.Bw p.2))=some z):Lj P σ o ⟨z,σ.blks,[]⟩ :=
 .He <| JI (s:=λρ=>Instr.build t (parts.map λ(i,x)=>(i,ρ x))) (λρ=>by simp[execOp,ho]) λa w g hst=>by
  obtain⟨o0,ho0⟩:∃o0,ti.Rc[0]?=some o0:=by
   cases hq:ti.Rc with
   | nil=>exact(hof hq).elim
   | cons o0 r=>exact⟨o0,rfl⟩
  obtain⟨fs,hu,hf⟩:=Ux ht ho0;obtain⟨pl,hpl,hp⟩:=Zo hf;obtain⟨i,zv,hi,hsz,hby,hz,hcells,hagg⟩:=ht.info;have ha:ti.ty.isAgg=true:=by
   obtain⟨d,hd,hk⟩:=ht.under;rw[hu] at hd;injection hd with hd;subst hd;simp only[kindOk,Aw3] at hk;exact hk.1
  obtain⟨cs',Xa,hx,hxa⟩:=WA (n:=σ.blks.length) (λj o hj=>by simpa using hp j o hj) (AB hst) h R1 (by rw[ZD];exact ha);refine⟨.agg cs'.toArray,run_build w t _ _ ?_,A7 (RJ hx) hx (by rw[hxa];rfl)⟩;unfold Program.built;have hzc:zv.cells=(Na ti.ty).toArray:=by rw[<-hcells]
  simp only[hi,hu,hz,hpl,hzc];simpa using Xa
theorem Ad8{w:World}{g:G}{n:Nat}{ρ:Operand->AV}{ε:Operand->Value}(hρ:∀x,Bg w g n (ρ x) (ε x)):∀(l:List Operand),BA w g n true (QE (l.map ρ)) (l.map ε)
 | []=>rfl
 | x::l=>by
  refine⟨ε x,l.map ε,rfl,?_,Ad8 hρ l⟩;have h:=hρ x;split
  ·exact .inl rfl
  ·rename_i ht;exact(Bg.iff (by simpa using ht)).1 h
theorem bL{f:FuncId}{first caps:Array Operand}(ho:o.op=.makeFunc (.func f) first caps)(h0:first.size=0):Lj P σ o ⟨.fn f (QE (caps.toList.map σ.Bw)),σ.blks,[]⟩ :=
 .He λa w g hs=>by
  have hf:first.map a.eval=#[]:=by
   apply Array.eq_empty_of_size_eq_zero;simp[h0]
  have hr:(execOp a.eval o).run P w=.ok (.value (.func (.func f) #[] (caps.map a.eval))) w:=by simp[execOp,ho,Instr.makeFunc,hf]
  have hv:BA w g σ.blks.length false (.fn f (QE (caps.toList.map σ.Bw))) [.func (.func f) #[] (caps.map a.eval)]:=⟨caps.toList.map a.eval,by rw[<-Array.toList_map,Array.toArray_toList],Ad8 (AB hs) _⟩;exact⟨_,hr,A7 rfl hv (by simp[A3,AV.isAgg])⟩
theorem aT{k:Nat}{i:Int}{p:List Nat}{q:Nat}{w:World}{g:G}{n:Nat}{v:Value}(h:Bg w g n (.ptr k i p q) v):∃a,v=.pointer (some a):=by
 obtain⟨_,_,_,b,_,e⟩:=IJ h;exact⟨_,e⟩
theorem aU{ks:List Nat}{t:Ty}{y:t.V}{w:World}{g:G}{n:Nat}{v:Value}(h:Bg w g n (.rop ks t y) v):∃a,v=.pointer (some a):=by
 obtain⟨_,b,off,_,e,_⟩:=R7 h;exact⟨_,e⟩
end
end Go.Va
namespace Go.Va
theorem nV{u:Ty}:∀{n i:Nat},i<n->dn (eu u n) i=some u/\OA (eu u n) i=some (i*u.size)
 | n+1,0,_=>by simp[eu,dn,OA]
 | n+1,i+1,h=>by
  obtain⟨h1,h2⟩:=nV (u:=u) (n:=n) (i:=i) (by omega);refine⟨by simpa [eu,dn] using h1,?_⟩;simp only[eu,OA,h2];rw[Nat.add_mul,Nat.one_mul,Nat.add_comm]
theorem YT{place place':Nat->Option (Nat×Nat)}(h:∀i p,place i=some p->place' i=some p):∀{parts:List (Nat×Value)} {cs r:Array Value},Instr.fill place cs parts=some r->Instr.fill place' cs parts=some r
 | [],_,_,hf=>hf
 | (i,v)::rest,cs,r,hf=>by
  unfold Instr.fill at hf ⊢;split at hf
  ·cases hf
  ·rename_i off size hp;rw[h i _ hp];simp only;split at hf
   ·cases hf
   ·rename_i hc;rw[if_neg hc];exact YT h hf
section
variable {P:Program} {σ:St} {o:Oper} {en:Env}
theorem bJ {t:TypeId} {parts:Array (Nat×Operand)} (ho:o.op=.build t parts) {ti te:TI} (ht:Eg P t ti) (hte:Eg P ti.elem te) (hn:ti.arr≠0) (hty:ti.ty=eu te.ty ti.arr) {z:AV}
    (h:Rr (ti.plc te) ti.ty.S3 (parts.toList.map λp=>(p.1,σ.Bw p.2))=some z):Lj P σ o ⟨z,σ.blks,[]⟩ :=
 .He <| JI (s:=λρ=>Instr.build t (parts.map λ(i,x)=>(i,ρ x))) (λρ=>by simp[execOp,ho]) λa w g hst=>by
  have hu:=ht.arr hn;have ha:ti.ty.isAgg=true:=by
   rw[hty];cases hq:ti.arr with
   | zero=>exact(hn hq).elim
   | succ n=>rfl
  obtain⟨i,zv,hi,hsz,hby,hz,hcells,hagg⟩:=ht.info;obtain⟨cs',Xa,hx,hxa⟩:=WA (ti:=ti.plc te) (pl:=(List.range ti.arr).map λi=>(i*te.ty.size,te.ty.size)) (n:=σ.blks.length) (w:=w) (g:=g) (λj o hj=>by
   simp only[TI.plc,List.getElem?_map,Option.map_eq_some_iff] at hj;obtain⟨q,hq,rfl⟩:=hj;have hjl:j<ti.arr:=by
    have:=AE hq;simpa using this
   rw[List.getElem?_range hjl] at hq;injection hq with hq;subst hq;refine⟨te.ty,by show dn ti.ty j=_;rw[hty];exact(nV hjl).1,?_⟩;simp[List.getElem?_range hjl]) (AB hst) h R1 (by rw[ZD];exact ha)
  refine⟨.agg cs'.toArray,?_,A7 (RJ hx) hx (by rw[hxa];rfl)⟩;have hzc:zv.cells=(Na ti.ty).toArray:=by rw[<-hcells]
  have Ahi:Instr.fill (λi=>some (i*te.ty.size,te.ty.size)) zv.cells (parts.map λ(i,x)=>(i,a.eval x)).toList=some cs'.toArray:=by
   rw[hzc];refine YT (λi p hp=>?_) (by simpa using Xa);simp only[List.getElem?_toArray,List.getElem?_map,Option.map_eq_some_iff] at hp;obtain⟨q,hq,rfl⟩:=hp;have hjl:i<ti.arr:=by
    have:=AE hq;simpa using this
   rw[List.getElem?_range hjl] at hq;injection hq with hq;subst hq;rfl
  have Ahj:Instr.fill (λi=>some (i*te.ty.size,te.ty.size)) zv.cells (List.map (λx=>(x.fst,a.eval x.snd)) parts.toList)=some cs'.toArray:=by simpa using Ahi
  simp[Instr.build,run_underlying hu,zeroValue,typeInfo,hi,hz,CW hte,Ahj]
theorem bK {t:TypeId} {x i:Operand} (ho:o.op=.index t x i) {ti te:TI} (ht:Eg P t ti) (hte:Eg P ti.elem te) (hn:ti.arr≠0) {ks:List Nat} {kk:IntKind} {j:Int} (hi:σ.Bw i=.dat ks (.int kk) j)
    (hj:0<=j/\j<(ti.arr:Int)/\(σ.Bw x).off j.toNat=some (j.toNat*te.ty.size)/\(σ.Bw x).isAgg=true/\(σ.Bw x).Cp=false) {v:AV} (hv:(σ.Bw x).T9 j.toNat=some v) (hsz:v.size=te.ty.size/\v.isAgg=te.ty.isAgg):Lj P σ o ⟨v,σ.blks,[]⟩ :=
 .He <| JI (s:=λρ=>Instr.index t (ρ x) (ρ i)) (λρ=>by simp[execOp,ho]) λa w g hst=>by
  have hu:=ht.arr hn;obtain⟨h0,h1,hoff,hagg,Tk⟩:=hj;have hix:=AB hst i;rw[hi] at hix;have hie:=Cu hix;have QK:=AB hst x;have hun:(σ.Bw x).K9=false:=by
   cases hq:σ.Bw x<;>rw[hq] at hv<;>first | rfl | simp[AV.T9] at hv
  obtain⟨cs,hcs,hxv⟩:=Ba Tk hun QK;rw[hagg] at hxv;have hxv:a.eval x=.agg cs.toArray:=hxv;obtain⟨c0,c1,c2,e,ho1,hx1,_⟩:=Ua _ _ cs v hcs hv;rw[hoff] at ho1;injection ho1 with ho1;have hl1:c1.length=te.ty.size:=by rw[hx1.len,hsz.1]
  rw[hie,hxv];cases hg:te.ty.isAgg with
  | true =>
   refine⟨.agg c1.toArray,?_,A7 (RJ hx1) hx1 (by rw[hsz.2,hg];rfl)⟩;have hex:cs.toArray.extract (j.toNat*te.ty.size) (j.toNat*te.ty.size+te.ty.size)=c1.toArray:=by
    apply Array.ext';rw[Array.toList_extract,ho1,e];simp only[List.extract];rw[show c0.length+te.ty.size-c0.length=c1.length by omega,Aw4,List.drop_left,List.take_left]
   have hex':List.take te.ty.size (List.drop (j.toNat*te.ty.size) cs)=c1:=by
    rw[ho1,e,Aw4,List.drop_left,<-hl1,List.take_left]
   simp[Instr.index,asIntOf,run_underlying hu,h0,h1,part,TL hte,hg,CW hte,hex']
  | false =>
   have hone:te.ty.size=1:=Pk hg;obtain⟨u,hu1⟩:∃u,c1=[u]:=by
    cases c1 with
    | nil=>rw[hone] at hl1;cases hl1
    | cons u r=>cases r with
     | nil=>exact⟨u,rfl⟩
     | cons _ _=>rw[hone] at hl1;simp at hl1
   subst hu1;refine⟨u,?_,A7 (RJ hx1) hx1 (by rw[hsz.2,hg];rfl)⟩;have hget:cs[j.toNat*te.ty.size]?=some u:=by
    rw[ho1,e,Aw4,List.getElem?_append_right (Aw2 _),Nat.sub_self];rfl
   simp[Instr.index,asIntOf,run_underlying hu,h0,h1,part,TL hte,hg,CW hte,hget]
theorem VL {t:TypeId} {w:World} {ti te:TI} (ht:Eg P t ti) (hte:Eg P ti.elem te) (hn:ti.arr≠0) {kk:IntKind} {j:Int} (h0:0<=j) (h1:j<(ti.arr:Int)) (b f:Nat) :
    (Instr.indexAt t (.pointer (some ⟨b,f,none⟩)) (.int kk j)).run P w=.ok (.pointer (some ⟨b,f+j.toNat*te.ty.size,none⟩)) w:=by
 have hu:=ht.arr hn;simp[Instr.indexAt,asIntOf,run_underlying hu,Instr.sureAddr,h0,h1,CW hte,addN]
theorem Vp {t:TypeId} {x i:Operand} (ho:o.op=.indexAddr t x i) {ti te:TI} (ht:Eg P t ti) (hte:Eg P ti.elem te) (hn:ti.arr≠0) {ks:List Nat} {kk:IntKind} {j:Int} (hi:σ.Bw i=.dat ks (.int kk) j)
    (h0:0<=j) (h1:j<(ti.arr:Int)) {v:AV}
    (hv : (match σ.Bw x with
          | .ptr k q p f=>some (.ptr k q (p++[j.toNat]) (f+j.toNat*te.ty.size))
          | .rop ks t' y=>if OA t' j.toNat=some (j.toNat*te.ty.size) then match Ql ks t' y j.toNat with | some (.dat _ u z)=>some (.rop ks u z)| _=>none else none
          | _=>none)=some v):Lj P σ o ⟨v,σ.blks,[]⟩ :=
 .He <| JI (s:=λρ=>Instr.indexAt t (ρ x) (ρ i)) (λρ=>by simp[execOp,ho]) λa w g hst=>by
  have hix:=AB hst i;rw[hi] at hix;have hie:=Cu hix;have QK:=AB hst x;rw[hie];split at hv
  ·rename_i k q p f hq;injection hv with hv;subst hv;rw[hq] at QK;obtain⟨hk,g0,g1,b,hb,e⟩:=IJ QK;rw[e];refine⟨_,VL ht hte hn h0 h1 b _,?_⟩;rw[Nat.add_assoc];exact Tq hk g0 g1 hb
  ·rename_i ks t' y hq;rw[hq] at QK;split at hv
   ·rename_i hoff;split at hv
    ·rename_i ks' u z hz;injection hv with hv;subst hv;obtain⟨hk,b,off,ds,e0,ha,hr,hc⟩:=R7 QK;obtain⟨c0,c1,c2,e,ho1,_,⟨u',y',heq,hr1⟩,_⟩:=Sl (g:=g) hk _ _ y ds _ hr hz;injection heq with _ h2 h3;subst h2;obtain rfl:=eq_of_heq h3;rw[hoff] at ho1;injection ho1 with ho1;rw[e0];refine⟨_,VL ht hte hn h0 h1 b off,Xo hk ha hr1 λq' u hq'=>?_⟩;rw[Nat.add_assoc];refine hc _ u ?_;rw[e,Aw4,List.getElem?_append_right (by omega),show j.toNat*te.ty.size+q'-c0.length=q' by omega,List.getElem?_append_left (AE hq')];exact hq'
    ·cases hv
   ·cases hv
  ·cases hv
end
end Go.Va
namespace Go.Va
def G.add(g:G)(n b:Nat)(i:BI):G:=⟨λq=>if q=b then .lab n [] else g.own q,λk=>if k=n then i else g.at_ k⟩
def G.Ow(g:G)(rs:List Nat):G:=⟨λq=>match g.own q with | .lab j r=>if j∈rs then .Gr else .lab j r | t=>t,g.at_⟩
section
variable {w:World} {g:G} {bs:List Blk}
theorem O1(H:Heap w g bs){b:Nat}(h:g.own b≠.no):b<w.heap.size:=by
 rcases Aw7 b w.heap.size with h' | h'
 ·exact h'
 ·exact(h (H.fresh b h')).elim
theorem Step.add(H:Heap w g bs)(o:Obj)(i:BI):Step [] bs.length w g (w.alloc o) (g.add bs.length w.heap.size i) where
 os:=rfl
 tape:=rfl
 output:=rfl
 size:=by show w.heap.size<=(w.heap.push o).size;simp
 no b hb h:=by
  refine⟨by simp[G.add,h,Nat.ne_of_lt hb],heap_alloc_old w o b hb⟩
 Gr b h:=by
  have hb:=O1 H (b:=b) (by rw[h];simp);exact⟨by simp[G.add,h,Nat.ne_of_lt hb],heap_alloc_old w o b hb⟩
 lab b k p h hk _:=by
  have hb:=O1 H (b:=b) (by rw[h];simp);exact⟨by simp[G.add,h,Nat.ne_of_lt hb],heap_alloc_old w o b hb⟩
 at_ k hk:=by simp[G.add,Nat.ne_of_lt hk]
theorem rC(H:Heap w g bs)(o:Obj)(i:BI):∀b,(w.alloc o).heap.size<=b->(g.add bs.length w.heap.size i).own b=.no:=by
 intro b hb;have hsz:(w.alloc o).heap.size=w.heap.size+1:=by show(w.heap.push o).size=_;simp
 have hb':w.heap.size+1<=b:=by omega
 have:b≠w.heap.size:=by omega
 simp[G.add,this,H.fresh b (by omega)]
theorem Heap.new(H:Heap w g bs){o:Obj}{i:BI}{b:Blk}(hb:JX (w.alloc o) (g.add bs.length w.heap.size i) (bs.length+1) bs.length b):Heap (w.alloc o) (g.add bs.length w.heap.size i) (bs++[b]) :=
 H.push (Step.add H o i) (rC H o i) hb
theorem Step.Ow(rs:List Nat)(n:Nat)(w:World)(g:G):Step rs n w g w (g.Ow rs) where
 os:=rfl
 tape:=rfl
 output:=rfl
 size:=Aw2 _
 no b _ h:=⟨by simp[G.Ow,h],rfl⟩
 Gr b h:=⟨by simp[G.Ow,h],rfl⟩
 lab b k p h _ hm:=⟨by simp[G.Ow,h,hm],rfl⟩
 at_ _ _:=rfl
theorem Heap.turn {w':World} {g':G} {mods:List Nat} {bs':List Blk} (H:Heap w g bs) (s:Step mods bs.length w g w' g') (hf:∀b,w'.heap.size<=b->g'.own b=.no) (hl:bs.length<=bs'.length)
    (hb:∀(j:Nat) (x:Blk),bs'[j]?=some x->x=.dead\/(j∉mods/\∃y,bs[j]?=some y/\x=y.drop λk=>mods.contains k)\/JX w' g' bs'.length j x):Heap w' g' bs' :=
 ⟨hf,λj x hx=>by
  rcases hb j x hx with h | ⟨hm,y,hy,rfl⟩| h
  ·subst h;trivial
  ·exact(H.blk j y hy).step s hl (AE hy) hm
  ·exact h⟩
theorem CY{mods:List Nat}{bs:List Blk}{i:Nat}{x:Blk}(h:(AQ mods bs)[i]?=some x):∃y,bs[i]?=some y/\x=y.drop λk=>mods.contains k:=by
 unfold AQ at h;split at h
 ·exact⟨x,h,by rw[show(λk=>([]:List Nat).contains k)=λ_=>false from funext λ_=>rfl,TQ]⟩
 ·rw[List.getElem?_map] at h;cases hs:bs[i]? with
  | none=>rw[hs] at h;cases h
  | some y=>rw[hs] at h;injection h with h;exact⟨y,rfl,h.symm⟩
theorem Au(mods:List Nat)(bs:List Blk):(AQ mods bs).length=bs.length:=by unfold AQ;split<;>simp
theorem AX:∀(rs:List Nat) (bs:List Blk),(Blk.kill bs rs).length=bs.length
 | [],_=>rfl
 | k::r,bs=>by rw[Blk.kill,AX r,Aw5]
theorem La:∀{rs:List Nat} {bs:List Blk} {j:Nat} {x:Blk},(Blk.kill bs rs)[j]?=some x->x=.dead\/(j∉rs/\bs[j]?=some x)
 | [],_,_,_,h=>.inr ⟨by simp,h⟩
 | k::r,bs,j,x,h=>by
  rcases La (rs:=r) h with h' | ⟨h1,h2⟩
  ·exact .inl h'
  ·rw[List.getElem?_set] at h2;split at h2
   ·split at h2
    ·injection h2 with h2;exact .inl h2.symm
    ·cases h2
   ·rename_i hne;exact .inr ⟨by simp;exact⟨λe=>hne e.symm,h1⟩,h2⟩
end
section
variable {P:Program} {σ:St} {o:Oper} {en:Env} {e:Eff}
theorem XK {x:AV} {el:TypeId} {f:Act->Value} (ho:∀a:Act,∀w:World,∀g:G,Ik w g σ a->(execOp a.eval o).run P w=.ok (.value (.pointer (some ⟨w.heap.size,0,none⟩))) (w.alloc (.cells (f a).cells el))/\∃cs,BA w g σ.blks.length false x cs/\(f a).cells=cs.toArray) :
    Lj P σ o ⟨.ptr σ.blks.length 0 [] 0,σ.blks++[.box x],[]⟩ where
 grow:=by simp
 ext _:=⟨_,rfl⟩
 wp a w g hs next Q hn:=by
  obtain⟨hr,cs,hcs,hc⟩:=ho a w g hs;unfold Oper.wp;rw[hr];have st:=Step.add hs.heap (.cells (f a).cells el) ⟨some ⟨w.heap.size,0,none⟩,1,1,0⟩;refine hn _ _ (g.add σ.blks.length w.heap.size ⟨some ⟨w.heap.size,0,none⟩,1,1,0⟩) (hs.heap.new ?_) ?_ st
  ·refine⟨by simp[G.add],w.heap.size,(f a).cells,el,by simp[G.add],by simp[G.add],heap_alloc_new w _,?_⟩;have e1:(f a).cells.toList=cs:=by rw[hc]
   rw[e1];exact hcs.step0 st (Nat.le_succ _)
  ·have:=Tq (w:=w.alloc (.cells (f a).cells el)) (g:=g.add σ.blks.length w.heap.size ⟨some ⟨w.heap.size,0,none⟩,1,1,0⟩) (n:=(σ.blks++[Blk.box x]).length) (k:=σ.blks.length) (i:=0) (p:=[]) (o:=0) (b:=w.heap.size)
     (by simp) (Int.le_refl _) (by simp[G.add]) (by simp[G.add])
   simpa using this
theorem AdF{el:TypeId}{x:Operand}(ho:o.op=.box el x)(ht:(σ.Bw x).top=true):Lj P σ o ⟨.ptr σ.blks.length 0 [] 0,σ.blks++[.box (σ.Bw x)],[]⟩ :=
 XK (el:=el) (f:=λa=>a.eval x) λa w g hs=>by
  obtain⟨h1,h2⟩:=ni ht;obtain⟨cs,hcs,hv⟩:=Ba h2 h1 (AB hs x);exact⟨by simp[execOp,ho,Instr.box,newVar,newRow],cs,hcs,TM hv hcs.one⟩
theorem sP{el:TypeId}(ho:o.op=.alloc el){ti:TI}(ht:Eg P el ti):Lj P σ o ⟨.ptr σ.blks.length 0 [] 0,σ.blks++[.box ti.ty.S3],[]⟩:=by
 obtain⟨i,z,hi,_,_,hz,hc,_⟩:=ht.info;refine XK (el:=el) (f:=λ_=>z) λa w g hs=>⟨?_,Na ti.ty,R1,by rw[<-hc]⟩;simp[execOp,ho,Instr.alloc,zeroValue,typeInfo,hi,hz,newVar,newRow]
theorem Vf(z:Array Value){s l c:Nat}(hs:z.size=s)(h0:0<s)(hl:l<=c):(madeCells z (c*s)).toList.take (l*s)=(List.replicate l (Value.agg z)).flatMap λv=>v.cells.toList:=by
 apply List.ext_getElem?;intro k;rw[Great.flat_get h0 _ (λv hv=>by rw[List.eq_of_mem_replicate hv];exact hs),List.getElem?_take];have hm:l*s<=c*s:=Nat.mul_le_mul_right s hl;by_cases hk:k<l*s
 ·have hd:k/s<l:=(Nat.div_lt_iff_lt_mul h0).2 hk;have hr:k%s<s:=Nat.mod_lt _ h0;rw[if_pos hk,List.getElem?_replicate,if_pos hd];have hk':k<(madeCells z (c*s)).toList.length:=by simp[madeCells];omega
  rw[List.getElem?_eq_getElem hk'];have hr':k%s<z.size:=by omega
  simp only[madeCells,Value.cells,hs];simp;rw[Array.getElem?_eq_getElem hr',getElem!_pos z _ hr']
 ·have hd:¬k/s<l:=λh=>hk ((Nat.div_lt_iff_lt_mul h0).1 h);rw[if_neg hk,List.getElem?_replicate,if_neg hd];rfl
theorem Sv{α:Type}{I:Nat->α->List Value->Prop}{x:α}{v:Value}(h:∀i,I i x v.cells.toList):∀(l i:Nat),AZ I i (List.replicate l x) ((List.replicate l v).flatMap λv=>v.cells.toList)
 | 0,_=>rfl
 | l+1,i=>by
  rw[List.replicate_succ,List.replicate_succ,List.flatMap_cons];exact⟨_,_,rfl,h i,Sv h l (i+1)⟩
theorem XC{t:Ty}(h:t.row=true):t.data=true/\0<t.size:=by
 simp only[Ty.row,Aw3,bne_iff_ne] at h;exact⟨h.1,Nat.pos_of_ne_zero h.2⟩
theorem ZF {w:World} {own:Nat->Tag} {k:Nat} {t:Ty} (h:t.data=true) {v:Value} (hv:v.cells.toList=Na t) (l:Nat) (fi:FI) :
    ku w own k (fi.mode t) t (List.replicate l t.zero) ((List.replicate l v).flatMap λv=>v.cells.toList):=by
 unfold FI.mode;split
 ·exact Sv (λi=>by rw[hv];exact Hv.zero h) l 0
 ·exact Lu.2 (Sv (I:=λ_=>FL w (Al own []) t) (λi=>by rw[hv];exact FL.zero h) l 0)
theorem Pf(fi:FI)(t:Ty):(fi.mode t).ids=[]:=by unfold FI.mode;split<;>rfl
theorem AqL{l c:Int}(h0:0<=l)(h:l<=c)(hm:c<=9223372036854775807):l.toNat<=c.toNat/\c.toNat<=maxLen:=by
 simp only[maxLen];omega
theorem Aa1 {t:TypeId} {l c:Operand} (ho:o.op=.makeSlice t l c) {fi:FI} {ti te:TI} (ht:Eg P t ti) (hte:Eg P ti.elem te) (hsl:ti.Ea=true)
    (h:Zc fi σ.blks ti.elem te (σ.Bw l) (σ.Bw c) some=some e):Lj P σ o e:=by
 unfold Zc at h;split at h
 ·rename_i x1 x2 ks1 k1 lv ks2 k2 cv hl hc;split at h
  ·rename_i hg;obtain⟨hrow,h0,hlc,hby,hmx⟩:=hg;injection h with h;subst h;obtain⟨hdata,hpos⟩:=XC hrow;obtain⟨i,z,hi,hsz,hbs,hz,hzc,_⟩:=hte.info;refine⟨by simp,λ_=>⟨_,rfl⟩,λa w g hs next Q hn=>?_⟩
   have e1:=AB hs l;rw[hl] at e1;have e1:=Cu e1;have e2:=AB hs c;rw[hc] at e2;have e2:=Cu e2;have hr:=run_make (P:=P) w t ti.elem i z (Bc ht hsl) hi hz k1 k2 lv cv h0 hlc (by rw[hbs];exact hby) hmx;unfold Oper.wp;simp only[execOp,ho,e1,e2,Sem.run_bind,hr,Result.andThen_ok];obtain⟨hcl,hcm⟩:=AqL h0 hlc hmx;have st:=Step.add hs.heap (.cells (madeCells z.cells (cv.toNat*i.size)) ti.elem) ⟨some ⟨w.heap.size,0,none⟩,lv.toNat,cv.toNat,te.ty.size⟩;refine hn _ _ _ (hs.heap.new ?_) ?_ st
   ·refine⟨(by rw[Pf];intro j hj;cases hj),by simp[G.add],by simp[G.add],hpos,.inr ⟨w.heap.size,_,_,by simp[G.add],by simp[G.add],⟨_,.inr rfl,heap_alloc_new w _⟩,by simpa [G.add] using hcl,by simpa [G.add] using hcm,by simp[G.add,size_madeCells,hsz],rfl,?_⟩⟩;rw[List.length_replicate,hsz];rw[Vf z.cells (by rw[<-Array.length_toList,hzc,OM]) hpos hcl];exact ZF hdata (by show z.cells.toList=_;exact hzc) _ fi
   ·refine A7 (cs:=[_]) rfl ⟨by simp,rfl⟩ ?_;simp[A3,AV.isAgg,G.add]
  ·cases h
 ·cases h
end
end Go.Va
namespace Go.Va
def G.upd(g:G)(f:Nat->List Nat->Tag)(ob:Option Nat)(n:Nat)(i:BI):G :=
 ⟨λq=>if ob=some q then .lab n [] else match g.own q with | .lab j r=>f j r | t=>t,λk=>if k=n then i else g.at_ k⟩
section
variable {w w':World} {g:G} {bs:List Blk} {f:Nat->List Nat->Tag} {ob:Option Nat} {n N:Nat} {i:BI} {mods:List Nat}
theorem Step.upd (fr:∀b,w.heap.size<=b->g.own b=.no) (hos:w'.os=w.os) (hta:w'.tape=w.tape) (hou:w'.output=w.output) (hsz:w.heap.size<=w'.heap.size)
    (hkeep:∀q,q<w.heap.size->(∀k p,g.own q=.lab k p->k∉mods)->w'.heap[q]?=w.heap[q]?) (um:∀q,ob=some q->w.heap.size<=q) (hN:n<=N) (hf:∀j r,j<n->j∉mods->f j r=.lab j r) :
    Step mods n w g w' (g.upd f ob N i):=by
 have lt:∀b,g.own b≠.no->b<w.heap.size:=λb h=>by
  rcases Aw7 b w.heap.size with h' | h'
  ·exact h'
  ·exact(h (fr b h')).elim
 have nob:∀b,b<w.heap.size->¬(ob=some b):=λb hb e=>by have:=um b e;omega
 refine⟨hos,hta,hou,hsz,λb hb h=>⟨?_,hkeep b hb λk p e=>?_⟩,λb h=>⟨?_,hkeep b (lt b (by rw[h];simp)) λk p e=>?_⟩,λb k p h hk hm=>⟨?_,hkeep b (lt b (by rw[h];simp)) λk' p' e=>?_⟩,λk hk=>?_⟩
 ·simp[G.upd,nob b hb,h]
 ·rw[h] at e;cases e
 ·simp[G.upd,nob b (lt b (by rw[h];simp)),h]
 ·rw[h] at e;cases e
 ·simp[G.upd,nob b (lt b (by rw[h];simp)),h,hf k p hk hm]
 ·rw[h] at e;injection e with e;subst e;exact hm
 ·have:k≠N:=by omega
  simp[G.upd,this]
theorem Nn(fr:∀b,w.heap.size<=b->g.own b=.no)(hsz:w.heap.size<=w'.heap.size)(um:∀q,ob=some q->q<w'.heap.size):∀b,w'.heap.size<=b->(g.upd f ob N i).own b=.no:=by
 intro b hb;have h1:¬(ob=some b):=λe=>by have:=um b e;omega
 simp[G.upd,h1,fr b (Nat.le_trans hsz hb)]
end
def Ip:AV->List Nat->List (Nat×List Nat)
 | .ref k,p=>[(k,p)]
 | .pr a b,p=>Ip a (0::p)++Ip b (1::p)
 | _,_=>[]
theorem EG:∀(a:AV) (p:List Nat),(Ip a p).map (·.1)=a.refs
 | .ref k,_=>rfl
 | .QS _ _,_=>rfl
 | .mp _,_=>rfl
 | .pr a b,p=>by simp[Ip,AV.refs,EG a,EG b]
 | .dat _ _ _,_=>rfl
 | .zs,_=>rfl
 | .ptr _ _ _ _,_=>rfl
 | .rop _ _ _,_=>rfl
 | .JH,_=>rfl
 | .fn _ _,_=>rfl
 | .cons _ _,_=>rfl
 | .nil,_=>rfl
 | .Oz _ _ _ _ _,_=>rfl
 | .P4 _ _ _ _ _ _,_=>rfl
 | .un _,_=>rfl
def look:List (Nat×List Nat)->Nat->Option (List Nat)
 | [],_=>none
 | (k,p)::r,j=>if k=j then some p else look r j
theorem Ud:∀{M:List (Nat×List Nat)},nodup (M.map (·.1))=true->∀{j p},(j,p)∈M->look M j=some p
 | (k,q)::r,hn,j,p,h=>by
  simp only[List.map_cons,nodup,Aw3,Bool.not_eq_true'] at hn;simp only[look];rcases List.mem_cons.1 h with h | h
  ·injection h with h1 h2;subst h1;subst h2;simp
  ·split
   ·rename_i e;subst e;have:k∈r.map (·.1):=List.mem_map.2 ⟨_,h,rfl⟩;simp at hn this;obtain⟨x,hx⟩:=this;exact(hn.1 x hx).elim
   ·exact Ud hn.2 h
theorem OH:∀{M:List (Nat×List Nat)} {j:Nat},j∉M.map (·.1)->look M j=none
 | [],_,_=>rfl
 | (k,q)::r,j,h=>by
  simp only[List.map_cons,List.mem_cons,not_or] at h;simp only[look,if_neg (Ne.symm h.1)];exact OH h.2
section
variable {w:World} {g:G} {bs:List Blk}
theorem tV (H:Heap w g bs) {own':Nat->Tag} {k:Nat}:∀(t:Ty) (v:AV) (y:t.V) (cs:List Value) (p:List Nat),rd bs t v=some y->v.Rz=true->(∀j∈v.refs,Up bs j=some .deep) ->
    (∀jq∈Ip v p,∀b q,g.own b=.lab jq.1 q->own' b=.lab k (q++jq.2))->BA w g bs.length false v cs->Hv w own' k t p y cs:=by
 have plain:∀(t:Ty) (ks:List Nat) (u:Ty) (y:u.V) (x:t.V) (cs:List Value) (p:List Nat),Hw u t y=some x->u.flat=true->BA w g bs.length false (.dat ks u y) cs->Hv w own' k t p x cs:=by
  intro t ks u y x cs p h hf hx;obtain⟨e,he⟩:=Bb h;subst e;simp only at he;subst he;exact(Hv.flat hf).2 ((FL.flat hf).1 hx.2)
 intro t;induction t with
 | pair a b iha ihb =>
  intro v y cs p h hf hd hm hx;simp only[rd] at h;split at h
  ·exact plain _ _ _ _ _ _ _ h (by simpa [AV.Rz] using hf) hx
  ·rename_i u z;split at h
   ·rename_i y1 y2 h1 h2;injection h with h;subst h;obtain⟨c,d,e,hx1,hx2⟩:=hx;simp only[AV.Rz,Aw3] at hf;exact⟨c,d,e,iha u y1 c _ h1 hf.1 (λj hj=>hd j (by simp[AV.refs,hj])) (λjq hj=>hm jq (by simp[Ip,hj])) hx1,
     ihb z y2 d _ h2 hf.2 (λj hj=>hd j (by simp[AV.refs,hj])) (λjq hj=>hm jq (by simp[Ip,hj])) hx2⟩
   ·cases h
  ·cases h
 | sl t _ =>
  intro v y cs p h hf hd hm hx;simp only[rd] at h;split at h
  ·exact plain _ _ _ _ _ _ _ h (by simpa [AV.Rz] using hf) hx
  ·injection h with h;subst h;obtain⟨ad,e⟩:=hx;exact⟨ad,0,e,.inl ⟨rfl,rfl⟩⟩
  ·rename_i j;split at h
   ·rename_i el m u ys hb;obtain⟨e',he⟩:=Bb h;injection e' with e';subst e';simp only at he;subst he;obtain⟨hk,hc⟩:=hx;have Aeb:=hd j (by simp[AV.refs]);simp only[Up,hb,AwY] at Aeb;subst Aeb;obtain⟨_,hlen,hes,hpos,hr⟩:=H.blk j _ hb;have hmj:=hm (j,p) (by simp[Ip]);rw[hlen] at hc;refine⟨_,_,hc,hr.imp id λ⟨b,cur,ds,ha,hown,⟨el,_,hh⟩,h1,h2,h3,h4,hcon⟩=>⟨b,el,cur,ds,ha,by simpa using hmj b [] hown,hh,h1,h2,h3,h4,?_⟩⟩;exact AZ.mono (λi x c r=>r.mono λb q hb=>⟨by simpa using hmj b _ hb,rfl⟩) hcon
   ·cases h
  ·cases h
 | _ =>
  intro v y cs p h hf hd hm hx;simp only[rd] at h;split at h
  ·exact plain _ _ _ _ _ _ _ h (by simpa [AV.Rz] using hf) hx
  ·cases h
theorem Tn:∀(v:AV) (j:Nat),j∈v.lend bs->j∈v.refs\/j∈v.deps\/∃r∈v.refs,∃l,Up bs r=some (.sh l)/\j∈l
 | .dat ks _ _,j,h=>.inr (.inl h)
 | .ref k,j,h=>by
  simp only[AV.lend] at h;rcases List.mem_cons.1 h with h | h
  ·exact .inl (by simp[AV.refs,h])
  ·cases hm:Up bs k with
   | none=>rw[hm] at h;cases h
   | some m =>
    rw[hm] at h;cases m with
    | deep=>cases h
    | sh l=>exact .inr (.inr ⟨k,by simp[AV.refs],l,hm,h⟩)
 | .pr a b,j,h=>by
  simp only[AV.lend] at h;rcases List.mem_append.1 h with h | h
  ·rcases Tn a j h with h | h | ⟨r,h,l,hl⟩
   ·exact .inl (by simp[AV.refs,h])
   ·exact .inr (.inl (by simp[AV.deps,h]))
   ·exact .inr (.inr ⟨r,by simp[AV.refs,h],l,hl⟩)
  ·rcases Tn b j h with h | h | ⟨r,h,l,hl⟩
   ·exact .inl (by simp[AV.refs,h])
   ·exact .inr (.inl (by simp[AV.deps,h]))
   ·exact .inr (.inr ⟨r,by simp[AV.refs,h],l,hl⟩)
 | .zs,_,h=>by cases h
 | .ptr _ _ _ _,_,h=>by cases h
 | .rop _ _ _,_,h=>by cases h
 | .JH,_,h=>by cases h
 | .fn _ _,_,h=>by cases h
 | .cons _ _,_,h=>by cases h
 | .nil,_,h=>by cases h
 | .Oz _ _ _ _ _,_,h=>by cases h
 | .P4 _ _ _ _ _ _,_,h=>by cases h
 | .QS _ _,_,h=>by cases h
 | .mp _,_,h=>by cases h
 | .un _,_,h=>by cases h
end
end Go.Va
namespace Go.Va
theorem K2{bad:Nat->Bool}:∀{a:AV},(∀k∈a.ids,bad k=false)->a.drop bad=a
 | .dat ks t x,h=>by
  simp only[AV.drop];rw[if_neg];intro hc;obtain⟨k,hk,hb⟩:=List.any_eq_true.1 hc;rw[h k hk] at hb;cases hb
 | .rop ks t x,h=>by
  simp only[AV.drop];rw[if_neg];intro hc;obtain⟨k,hk,hb⟩:=List.any_eq_true.1 hc;rw[h k hk] at hb;cases hb
 | .pr a b,h=>by
  simp only[AV.drop];rw[K2 λk hk=>h k (by simp[AV.ids,hk]),K2 λk hk=>h k (by simp[AV.ids,hk])]
 | .fn g c,h=>by
  simp only[AV.drop];rw[K2 λk hk=>h k (by simpa [AV.ids] using hk)]
 | .cons a b,h=>by
  simp only[AV.drop];rw[K2 λk hk=>h k (by simp[AV.ids,hk]),K2 λk hk=>h k (by simp[AV.ids,hk])]
 | .zs,_=>rfl
 | .ref _,_=>rfl
 | .QS _ _,_=>rfl
 | .mp _,_=>rfl
 | .ptr _ _ _ _,_=>rfl
 | .JH,_=>rfl
 | .nil,_=>rfl
 | .Oz k i p o e,h=>by simp[AV.drop,h k (by simp[AV.ids])]
 | .P4 k i p o j u,h=>by simp[AV.drop,h k (by simp[AV.ids])]
 | .un _,_=>rfl
theorem Le{w:World}{own:Nat->Tag}{k:Nat}{m:RM}{t:Ty}{xs:List t.V}{ds:List Value}:ku w own k m t xs ds↔AZ (Ri w own k m t) 0 xs ds:=by
 cases m with
 | deep=>exact Iff.rfl
 | sh ks=>exact Lu
theorem Ri.len{w:World}{own:Nat->Tag}{k:Nat}{m:RM}{t:Ty}{i:Nat}{x:t.V}{cs:List Value}(h:Ri w own k m t i x cs):cs.length=t.size:=by
 cases m with
 | deep=>exact Hv.len h
 | sh ks=>exact FL.len h
open Classical in
theorem Ri.on {w w':World} {own own':Nat->Tag} {k k':Nat} {m m':RM} {t:Ty} {i i':Nat} {x:t.V} {cs:List Value} (h:Ri w own k m t i x cs)
    (hm:match m,m' with
     | .deep,.deep=>∀b q,own b=.lab k (q++[i])->own' b=.lab k' (q++[i'])/\w'.heap[b]?=w.heap[b]?
     | .sh ks,.sh ks'=>∀b,Al own ks b->Al own' ks' b/\w'.heap[b]?=w.heap[b]?
     | .deep,.sh ks'=>∀b q,own b=.lab k (q++[i])->Al own' ks' b/\w'.heap[b]?=w.heap[b]?
     | .sh _,.deep=>False):Ri w' own' k' m' t i' x cs:=by
 cases m with
 | deep=>cases m' with
  | deep=>exact Hv.mono (p:=[i]) (p':=[i']) hm h
  | sh ks' =>
   have h1:Hv w' (λb=>if(∃q,own b=.lab k (q++[i])) then own b else .no) k t [i] x cs :=
    Hv.mono (p:=[i]) (p':=[i]) (λb q hb=>⟨by rw[if_pos ⟨q,hb⟩];exact hb,(hm b q hb).2⟩) h
   exact Hv.rd (λb q hb=>by
    split at hb
    ·rename_i hq;obtain⟨q',hq⟩:=hq;exact(hm b q' hq).1
    ·cases hb) h1
 | sh ks=>cases m' with
  | deep=>exact hm.elim
  | sh ks'=>exact FL.mono hm h
def Aeo(bs:List Blk)(v:AV):List Nat:=v.refs.flatMap (λk=>match Up bs k with | some (.sh l)=>l | _=>[])
theorem Mm {bs:List Blk} {m m':RM} {t:Ty} {v:AV} {y:t.V} {rs:List Nat} (h:take bs m t v=some (y,m',rs)):rd bs t v=some y/\rs=v.refs/\nodup v.refs=true /\
    ((m=.deep/\m'=.deep/\v.Rz=true/\∀j∈v.refs,Up bs j=some .deep)\/∃ks,m=.sh ks/\m'=.sh (ks++v.deps++Aeo bs v)):=by
 unfold take at h;split at h
 ·cases h
 ·rename_i y' hy
  dsimp only at h
  split at h
  ·split at h
   ·rename_i hc;simp only[Aw3] at hc;simp only[AwY,Aw9] at h;obtain⟨rfl,rfl,rfl⟩:=h;refine⟨hy,rfl,hc.1.2,.inl ⟨rfl,rfl,hc.1.1,λj hj=>?_⟩⟩;have:=List.all_eq_true.1 hc.2 j hj;split at this
    ·assumption
    ·cases this
   ·cases h
  ·split at h
   ·rename_i hc;simp only[Aw3] at hc;simp only[AwY,Aw9] at h;obtain⟨rfl,rfl,rfl⟩:=h;exact⟨hy,rfl,hc.1,.inr ⟨_,rfl,rfl⟩⟩
   ·cases h
theorem AaQ{w:World}{g:G}{bs:List Blk}(H:Heap w g bs){v:AV}:∀j∈Aeo bs v,j<bs.length:=by
 intro j hj;obtain⟨r,_,hr⟩:=List.mem_flatMap.1 hj;split at hr
 ·rename_i l hl;unfold Up at hl;split at hl
  ·rename_i e m t xs hb;injection hl with hl;subst hl;exact(H.blk r _ hb).1 j hr
  ·cases hl
 ·cases hr
theorem cu{w:World}{g:G}{bs:List Blk}(H:Heap w g bs){m m':RM}{t:Ty}{v:AV}{y:t.V}{rs:List Nat}{cs:List Value}(h:take bs m t v=some (y,m',rs))(hx:BA w g bs.length false v cs)(hm:∀j∈m.ids,j<bs.length):∀j∈m'.ids,j<bs.length:=by
 obtain⟨_,_,_,hc⟩:=Mm h;rcases hc with ⟨rfl,rfl,_⟩| ⟨ks,rfl,rfl⟩
 ·exact hm
 ·intro j hj;rcases List.mem_append.1 hj with hj | hj
  ·rcases List.mem_append.1 hj with hj | hj
   ·exact hm j hj
   ·exact hx.scope j hj
  ·exact AaQ H j hj
theorem Uy{bs:List Blk}{m m':RM}{t:Ty}{v:AV}{y:t.V}{rs:List Nat}(h:take bs m t v=some (y,m',rs)):(∀j∈m.ids,j∈m'.ids)/\(m=.deep↔m'=.deep):=by
 obtain⟨_,_,_,hc⟩:=Mm h;rcases hc with ⟨rfl,rfl,_⟩| ⟨ks,rfl,rfl⟩
 ·exact⟨λ_ h=>h,Iff.rfl⟩
 ·exact⟨λj hj=>List.mem_append_left _ (List.mem_append_left _ hj),by simp⟩
theorem Qv{ks:List Nat}{m:RM}(h:Yf ks m=true):∀j∈m.ids,j∉ks:=λj hj=>by
 have:=List.all_eq_true.1 h j hj;simpa using this
def Qz(m:RM)(k:Nat)(M:List (Nat×List Nat))(j:Nat)(r:List Nat):Tag :=
 match look M j with
 | none=>.lab j r
 | some path=>match m with | .deep=>.lab k (r++path)| .sh _=>.Gr
theorem L5{m:RM}{k:Nat}{M:List (Nat×List Nat)}{j:Nat}{r:List Nat}(h:j∉M.map (·.1)):Qz m k M j r=.lab j r:=by simp[Qz,OH h]
def InR(w:World)(own:Nat->Tag)(k:Nat):RM->(t:Ty)->List Nat->t.V->List Value->Prop
 | .deep,t,L,x,cs=>Hv w own k t L x cs
 | .sh ks,t,_,x,cs=>FL w (Al own ks) t x cs
theorem AdE {w:World} {own:Nat->Tag} {k:Nat} {m:RM} {u:Ty} {y:u.V} {p:List Nat} {t:Ty} {i:Nat} {x x':t.V} {cs:List Value} {o:Nat} (hs:N0 u y p t x=some x') (ho:I1 t p=some o) (h:Ri w own k m t i x cs) :
    ∃c0 c1 c2,cs=c0++c1++c2/\c0.length=o/\c1.length=u.size/\∀c1',InR w own k m u (O0 p [i]) y c1'->Ri w own k m t i x' (c0++c1'++c2):=by
 cases m with
 | deep=>exact Sx (Aek w own k) u y p t [i] x x' cs o hs ho h
 | sh ks=>exact Sx (AqN w (Al own ks)) u y p t [i] x x' cs o hs ho h
theorem bZ {w w':World} {g:G} {bs:List Blk} (H:Heap w g bs) {m m':RM} {t:Ty} {v:AV} {y:t.V} {rs:List Nat} {cs:List Value} (h:take bs m t v=some (y,m',rs)) (hx:BA w g bs.length false v cs) {k:Nat} {M:List (Nat×List Nat)} {L:List Nat} {own':Nat->Tag} {m'':RM}
    (hM:∀jq∈Ip v L,look M jq.1=some jq.2) (Nf:∀j∈m'.ids,j∈m''.ids) (hoff:∀j∈m''.ids,look M j=none) (hdp:m=.deep↔m''=.deep)
    (hown:∀b j r,g.own b=.lab j r->(j∈M.map (·.1)\/j∈m''.ids)->own' b=Qz m k M j r) (Xb:∀b,g.own b=.Gr->own' b=.Gr)
    (hheap:∀b,g.own b=.Gr\/(∃j r,g.own b=.lab j r/\(j∈M.map (·.1)\/j∈m''.ids))->w'.heap[b]?=w.heap[b]?):InR w' own' k m'' t L y cs:=by
 obtain⟨hy,rfl,hn,hc⟩:=Mm h;have Aae:∀j p,look M j=some p->j∈M.map (·.1):=λj p hj=>Classical.byContradiction λhn=>by rw[OH hn] at hj;cases hj
 have AqO:∀j∈v.refs,∃p,look M j=some p:=λj hj=>by
  rw[<-EG v L] at hj;obtain⟨jq,hjq,rfl⟩:=List.mem_map.1 hj;exact⟨_,hM jq hjq⟩
 rcases hc with ⟨rfl,rfl,hf,hd⟩| ⟨ks,rfl,rfl⟩
 ·obtain rfl:=hdp.1 rfl;have h1:Hv w (λb=>match g.own b with | .lab j r=>(match look M j with | some p=>.lab k (r++p)| none=>.no)| _=>.no) k t L y cs :=
   tV H t v y cs L hy hf hd (λjq hj b q hb=>by simp[hb,hM jq hj]) hx
  refine Hv.mono (p:=L) (p':=L) (λb q hb=>?_) h1;split at hb
  ·rename_i j r hj;split at hb
   ·rename_i p hp;have hm:=Aae j p hp;refine⟨?_,hheap b (.inr ⟨j,r,hj,.inl hm⟩)⟩;rw[hown b j r hj (.inl hm)];simp only[Qz,hp];exact hb
   ·cases hb
  ·cases hb
 ·obtain ⟨Aht,rfl⟩:∃l,m''=.sh l:=by
    cases m'' with
    | deep=>have:=hdp.2 rfl;cases this
    | sh l=>exact⟨l,rfl⟩
  have key:∀b j q,g.own b=.lab j q->(j∈v.refs\/j∈Aht)->Al own' Aht b:=by
   intro b j q hb hj;rcases hj with hj | hj
   ·obtain⟨p,hp⟩:=AqO j hj;exact .inl (by rw[hown b j q hb (.inl (Aae j p hp))];simp[Qz,hp])
   ·exact .inr ⟨j,hj,q,by rw[hown b j q hb (.inr hj)];simp[Qz,hoff j hj]⟩
  obtain⟨hr,hl⟩:=MI H t v y cs hy hx;refine hr.mono λb hb=>?_;rcases hb with hb | ⟨j,hj,q,hq⟩
  ·exact⟨.inl (Xb b hb),hheap b (.inl hb)⟩
  ·have hj':j∈v.refs\/j∈Aht:=by
     rcases Tn v j hj with h | h | ⟨r,h,l,hm,hjl⟩
     ·exact .inl h
     ·exact .inr (Nf j (List.mem_append_left _ (List.mem_append_right _ h)))
     ·exact .inr (Nf j (List.mem_append_right _ (List.mem_flatMap.2 ⟨r,h,by rw[hm];exact hjl⟩)))
   refine⟨key b j q hq hj',hheap b (.inr ⟨j,q,hq,?_⟩)⟩;rcases hj' with h | h
   ·obtain⟨p,hp⟩:=AqO j h;exact .inl (Aae j p hp)
   ·exact .inr h
end Go.Va
namespace Go.Va
section
variable {P:Program} {σ:St} {o:Oper} {en:Env} {e:Eff} {w:World} {g:G}
theorem OB {t:Nat} {ti:TI} (ht:Eg P t ti) {b off:Nat} {cur:Array Value} {el:TypeId} (hh:w.heap[b]?=some (.cells cur el (0,0))) {v:Value} {cs:List Value} (hv:v.cells=cs.toArray) (hl:cs.length=ti.ty.size)
    (hfit:off+cs.length<=cur.size) (h1:∀c∈cs,c.oneCell'=true) :
    (storeVar t ⟨b,off,none⟩ v).run P w=.ok () (w.setRow b (cur.toList.take off++cs++cur.toList.drop (off+cs.length)).toArray):=by
 have hs:=run_storeCells_at P b off el cs 0 cur w hh (by simpa using hfit) h1;simp only[Nat.add_zero] at hs;simp[storeVar,CW ht,hv,hl,hs]
theorem iw{mods:List Nat}{b k:Nat}{cs:Array Value}(ho:g.own b=.lab k [])(hk:k∈mods):∀q,q<w.heap.size->(∀k p,g.own q=.lab k p->k∉mods)->(w.setRow b cs).heap[q]?=w.heap[q]?:=by
 intro q _ hq;refine setRow_other w b q cs λe=>?_;subst e;exact hq k [] ho hk
theorem Ij{f:Nat->List Nat->Tag}{ob:Option Nat}{n:Nat}{i:BI}{b j:Nat}{r:List Nat}(um:ob≠some b)(h:g.own b=.lab j r):(g.upd f ob n i).own b=f j r:=by simp[G.upd,um,h]
theorem PY{f:Nat->List Nat->Tag}{ob:Option Nat}{n:Nat}{i:BI}{b:Nat}(um:ob≠some b)(h:g.own b=.Gr):(g.upd f ob n i).own b=.Gr:=by simp[G.upd,um,h]
theorem jy (H:Heap w g σ.blks) {t:Nat} {ti:TI} (ht:Eg P t ti) {k:Nat} {i:Int} {p:List Nat} {of:Nat} {a old a' v:AV} (hb:σ.blks[k]?=some (.box a)) (hg:a.P1 p=some old) (hs:a.Tz p v=some a')
    (hc:v.top/\a.sj p=some of/\old.size=v.size/\v.size=ti.ty.size/\v.isAgg=ti.ty.isAgg/\a'.ids.contains k=false) {u vv:Value} (hu:Bg w g σ.blks.length (.ptr k i p of) u) (hv:Bg w g σ.blks.length v vv) :
    ∃w' g',(Instr.storeAt t u vv).run P w=.ok () w'/\Heap w' g' ((AQ [k] σ.blks).set k (.box a'))/\Step [k] σ.blks.length w g w' g':=by
 obtain⟨htop,hof,hsz,hst,hagg,hid⟩:=hc;obtain⟨hk,h0,h1,b,hba,rfl⟩:=IJ hu;obtain⟨hlen,b',cs,el,ha,ho,hh,hx⟩:=H.blk k _ hb;rw[hba] at ha;injection ha with ha;injection ha with ha;subst ha;obtain⟨hun,Tk⟩:=ni htop;obtain⟨cv,hcv,hvv⟩:=Ba Tk hun hv;have hvc:=TM hvv hcv.one;obtain⟨c0,c1,c2,e1,ho2,hx1,hset⟩:=Nx p a cs.toList old hx hg;rw[hof] at ho2;injection ho2 with ho2;have hl1:c1.length=cv.length:=by rw[hx1.len,hcv.len,hsz]
 have hi0:i.toNat=0:=by omega
 have hcsz:cs.size=c0.length+c1.length+c2.length:=by rw[<-Array.length_toList,e1];simp only[Aw0]
 have hrun:=OB (P:=P) ht (off:=of) hh hvc (by rw[hcv.len,hst]) (by omega) hcv.one;have hnew:(cs.toList.take of++cv++cs.toList.drop (of+cv.length))=c0++cv++c2:=by
  rw[e1,ho2];congr 1
  ·congr 1;rw[Aw4,List.take_left]
  ·rw[<-hl1,<-Aw0,List.drop_left]
 rw[hnew] at hrun;have st:Step [k] σ.blks.length w g (w.setRow b (c0++cv++c2).toArray) g :=
  ⟨rfl,rfl,rfl,by simp,λq hq h=>⟨h,setRow_other w b q _ (λe=>by subst e;rw[ho] at h;cases h)⟩,λq h=>⟨h,setRow_other w b q _ (λe=>by subst e;rw[ho] at h;cases h)⟩,
   λq j r h _ hm=>⟨h,setRow_other w b q _ (λe=>by subst e;rw[ho] at h;injection h with h;exact hm (by simp[h]))⟩,λ_ _=>rfl⟩
 refine⟨_,g,?_,?_,st⟩
 ·simp only[Instr.storeAt,Instr.sureAddr,Sem.run_bind,Sem.run_pure,Result.andThen_ok,hi0,Nat.zero_mul,Nat.zero_add];exact hrun
 ·refine H.turn st (λq hq=>H.fresh q (by simpa using hq)) (by simp[Au]) λj x hj=>?_;rw[List.getElem?_set] at hj;split at hj
  ·rename_i hkj;subst hkj;split at hj
   ·injection hj with hj;subst hj;refine .inr (.inr ⟨hlen,b,_,el,hba,ho,setRow_heap w b cs _ el (0,0) hh,?_⟩);have:=BA.step st (Aw2 _) a' false (hset v a' cv hs hcv);rw[K2 (λj hj=>by
     cases hjk:([k]:List Nat).contains j with
     | false=>rfl
     | true =>
      simp at hjk;subst hjk;simp at hid;exact(hid hj).elim)] at this
    simpa [Au] using this
   ·cases hj
  ·rename_i hne;obtain⟨y,hy,rfl⟩:=CY hj;exact .inr (.inl ⟨by simpa using λe:j=k=>hne e.symm,y,hy,rfl⟩)
theorem P5{bs:List Blk}{t:Ty}{v:AV}{y:t.V}(h:rd bs t v=some y):v.Cp=false/\v.K9=false:=by
 cases v with
 | cons a b=>cases t<;>simp[rd] at h
 | nil=>cases t<;>simp[rd] at h
 | un n=>cases t<;>simp[rd] at h
 | _=>exact⟨rfl,rfl⟩
theorem lg{α:Type}{l:List α}{i:Nat}(h:i<l.length)(d:α):l.getD i d=l[i]:=by simp[List.getD,h]
theorem RS (H:Heap w g σ.blks) {t:Nat} {ti:TI} (ht:Eg P t ti) {k:Nat} {i:Int} {p:List Nat} {of e:Nat} {m m':RM} {tr:Ty} {xs:List tr.V} {v:AV} {y:ti.ty.V} {x':tr.V} {rs:List Nat} (hb:σ.blks[k]?=some (.row e m tr xs))
    (htk:take σ.blks m ti.ty v=some (y,m',rs)) (hc:I1 tr p=some of/\tyP tr p=some ti.ty/\Yf (k::rs) m'=true/\rs.contains k=false) (hset:N0 ti.ty y p tr (xs.getD i.toNat tr.zero)=some x')
    {u vv:Value} (hu:Bg w g σ.blks.length (.ptr k i p of) u) (hv:Bg w g σ.blks.length v vv) :
    ∃w' g',(Instr.storeAt t u vv).run P w=.ok () w'/\Heap w' g' ((Blk.kill (AQ (k::rs) σ.blks) rs).set k (.row e m' tr (xs.set i.toNat x')))/\Step (k::rs) σ.blks.length w g w' g':=by
 obtain⟨hof,hty,hoff,hrk⟩:=hc;obtain⟨hk,h0,h1,b,hba,rfl⟩:=IJ hu;obtain⟨Nb,hlen,hes,hpos,hr⟩:=H.blk k _ hb;have hlt:i.toNat<xs.length:=by rw[<-hlen];exact h1
 rcases hr with ⟨hx0,_⟩| ⟨b',cur,ds,ha,hown,⟨el,hel,hh⟩,hc1,hc2,hc3,hc4,hcon⟩
 ·rw[hx0] at hlt;simp at hlt
 rw[hba] at ha;injection ha with ha;injection ha with ha;subst ha;obtain⟨hy,hrs,hnd,hmm⟩:=Mm htk;obtain⟨Tk,hun⟩:=P5 hy;obtain⟨cv,hcv,hvv⟩:=Ba Tk hun hv;have hvc:=TM hvv hcv.one;have hcl:cv.length=ti.ty.size:=(MI H _ _ _ _ hy hcv).1.len;obtain⟨c0,c,d,e1,hl0,hrc,hr0,hrd⟩:=AZ.at_ (λi x c h=>Ri.len h) (Le.1 hcon) hlt;have hcsz:=Ri.len hrc;obtain⟨hsub,hdp⟩:=Uy htk;have Q5:=Qv hoff;have lC:k∉rs:=by simpa using hrk
 let M:=Ip v (O0 p [i.toNat])
 have lq:M.map (·.1)=rs:=by rw[hrs];exact EG v _
 let f:=Qz m k M
 let g':=g.upd f none σ.blks.length ⟨none,0,0,0⟩
 let off:=i.toNat*tr.size+of
 let new:=cur.toList.take off++cv++cur.toList.drop (off+cv.length)
 let w':=w.setRow b new.toArray
 have gQ:∀b' r,g.own b'=.lab k r->g'.own b'=.lab k r:=λb' r h=>by
  have:=Ij (f:=f) (ob:=none) (n:=σ.blks.length) (i:=⟨none,0,0,0⟩) (by simp) h;rw[this];exact L5 (by rw[lq];exact lC)
 have st:Step (k::rs) σ.blks.length w g w' g':=Step.upd H.fresh rfl rfl rfl (by simp[w']) (iw hown (by simp)) (λq h=>by cases h) (Aw2 _) λj r _ hm =>
  L5 (by rw[lq];exact λh=>hm (List.mem_cons_of_mem _ h))
 have hneb:∀b' j r,g.own b'=.lab j r->j≠k->w'.heap[b']?=w.heap[b']?:=λb' j r h hj=>setRow_other w b b' _ λe=>by subst e;rw[hown] at h;injection h with h;exact hj h.symm
 have zM:∀b' q,g.own b'=.lab k q->q≠[]->w'.heap[b']?=w.heap[b']?:=λb' q h hq=>setRow_other w b b' _ λe=>by subst e;rw[hown] at h;injection h with _ h;exact hq h.symm
 have gN:∀b',g.own b'=.Gr->w'.heap[b']?=w.heap[b']?:=λb' h=>setRow_other w b b' _ λe=>by subst e;rw[hown] at h;cases h
 have hon:∀(i':Nat) (x:tr.V) (c:List Value),Ri w g.own k m tr i' x c->Ri w' g'.own k m' tr i' x c:=by
  intro i' x c hel;refine hel.on ?_;rcases hmm with ⟨rfl,rfl,_⟩| ⟨ks,rfl,rfl⟩
  ·exact λb' q h=>⟨gQ b' _ h,zM b' _ h (by simp)⟩
  ·intro b' h;rcases h with h | ⟨j,hj,r,h⟩
   ·exact⟨.inl (PY (by simp) h),gN b' h⟩
   ·have hjm:=hsub j hj;have hjk:=Q5 j hjm;exact⟨.inr ⟨j,hjm,r,by
     have:=Ij (f:=f) (ob:=none) (n:=σ.blks.length) (i:=⟨none,0,0,0⟩) (by simp) h;rw[this];exact L5 (by rw[lq];exact λh=>hjk (List.mem_cons_of_mem _ h))⟩,hneb b' j r h λe=>hjk (by simp[e])⟩
 rw[Nat.zero_add] at hrc;rw[lg hlt] at hset;obtain⟨d0,d1,d2,e2,hd0,hd1,hin⟩:=AdE hset hof (hon _ _ _ hrc);have hput:InR w' g'.own k m' ti.ty (O0 p [i.toNat]) y cv:=by
  refine bZ H htk hcv (M:=M) (λjq hj=>Ud (by rw[EG];exact hnd) hj) (λ_ h=>h) (λj hj=>OH (by rw[lq];exact λh=>Q5 j hj (List.mem_cons_of_mem _ h))) hdp
   (λb' j r h _=>Ij (by simp) h) (λb' h=>PY (by simp) h) λb' h=>?_
  rcases h with h | ⟨j,r,h,hj⟩
  ·exact gN b' h
  ·refine hneb b' j r h λe=>?_;subst e;rcases hj with hj | hj
   ·rw[lq] at hj;exact lC hj
   ·exact Q5 j hj (by simp)
 have gM:=AZ.join hlt (hr0.mono λi' x c h=>hon i' x c h) (by rw[Nat.zero_add];exact hin cv hput) (hrd.mono λi' x c h=>hon i' x c h);have Aqk:cur.toList=ds++cur.toList.drop (xs.length*tr.size):=by rw[<-hc4,List.take_append_drop]
 have hds:ds.length=xs.length*tr.size:=by
  have hll:cur.toList.length=cur.size:=Array.length_toList;rw[<-hc4,List.length_take,hll,hc3];exact Nat.min_eq_left (Nat.mul_le_mul_right _ hc1)
 have hrest:(cur.toList.drop (xs.length*tr.size)).length=cur.size-xs.length*tr.size:=by simp
 have hle:xs.length*tr.size<=cur.size:=by rw[hc3];exact Nat.mul_le_mul_right _ hc1
 have Awe:c0.length+c.length+d.length=xs.length*tr.size:=by rw[<-hds,e1];simp only[Aw0]
 have Awa:d0.length+d1.length+d2.length=c.length:=by rw[e2];simp only[Aw0]
 have Aee:off=(c0++d0).length:=by simp only[off,Aw0,hl0,hd0]
 have AsB:cv.length=d1.length:=by rw[hcl,hd1]
 have hnew:new=(c0++(d0++cv++d2)++d)++cur.toList.drop (xs.length*tr.size):=by
  simp only[new];have hsplit:cur.toList=(c0++d0)++(d1++(d2++d++cur.toList.drop (xs.length*tr.size))):=by
   conv=>lhs;rw[Aqk,e1,e2]
   simp only[Aw4]
  generalize cur.toList.drop (xs.length*tr.size)=rest at hsplit ⊢;rw[hsplit,Aee,AsB,List.take_left,<-Aw0,<-Aw4 (c0++d0) d1,List.drop_left];simp only[Aw4]
 have hrun:(storeVar t ⟨b,off,none⟩ vv).run P w=.ok () w':=OB (P:=P) ht hh hvc hcl (by
  have:off=c0.length+d0.length:=by rw[Aee,Aw0]
  omega) hcv.one
 refine⟨w',g',?_,?_,by exact st⟩
 ·simp only[Instr.storeAt,Instr.sureAddr,Sem.run_bind,Sem.run_pure,Result.andThen_ok,hes];exact hrun
 ·refine H.turn st (Nn H.fresh (by simp[w']) (λq h=>by cases h)) (by simp[AX,Au]) λj x hj=>?_;rw[List.getElem?_set] at hj;split at hj
  ·rename_i hkj;subst hkj;split at hj
   ·injection hj with hj;subst hj;have Np:g'.at_ k=g.at_ k:=st.at_ k hk;have hlen':((Blk.kill (AQ (k::rs) σ.blks) rs).set k (.row e m' tr (xs.set i.toNat x'))).length=σ.blks.length:=by simp[AX,Au]
    refine .inr (.inr ⟨by rw[hlen'];exact cu H htk hcv Nb,by rw[Np,Aw5];exact hlen,by rw[Np];exact hes,hpos,.inr ⟨b,new.toArray,_,by rw[Np];exact hba,gQ b [] hown,⟨el,hel,setRow_heap w b cur _ el (0,0) hh⟩,by rw[Np,Aw5];exact hc1,by rw[Np];exact hc2,?_,rfl,?_⟩⟩)
    ·rw[Np,<-hc3,hnew];simp only[List.size_toArray,Aw0];omega
    ·rw[Le,Aw5];have:(new.toArray).toList.take (xs.length*tr.size)=c0++(d0++cv++d2)++d:=by
      rw[List.toList_toArray,hnew];have hll:(c0++(d0++cv++d2)++d).length=xs.length*tr.size:=by simp only[Aw0];omega
      rw[<-hll,List.take_left]
     rw[this];exact gM
   ·cases hj
  ·rename_i hne;rcases La hj with h | ⟨hjr,h⟩
   ·exact .inl h
   ·obtain⟨y',hy',rfl⟩:=CY h;exact .inr (.inl ⟨by simp only[List.mem_cons,not_or];exact⟨λe=>hne e.symm,hjr⟩,y',hy',rfl⟩)
theorem mo{f:Nat}{F G:∀u:Ty,u.V->Option u.V}(h:∀(u:Ty) (x x0:u.V),F u x=some x0->G u x0=G u x):∀{t:Ty} {x x0:t.V},Nz t x f F=some x0->Nz t x0 f G=Nz t x f G:=by
 induction f with
 | zero =>
  intro t x x0 hs;cases t with
  | pair a b =>
   simp only[Nz] at hs ⊢;split at hs
   ·rename_i y hy;injection hs with hs;subst hs;rw[h _ _ _ hy]
   ·cases hs
  | _=>simp[Nz] at hs
 | succ f ih =>
  intro t x x0 hs;cases t with
  | pair a b =>
   simp only[Nz] at hs ⊢;split at hs
   ·rename_i y hy;injection hs with hs;subst hs;rw[ih hy]
   ·cases hs
  | _=>simp[Nz] at hs
theorem XE{u:Ty}{y z:u.V}:∀(p:List Nat) (t:Ty) (x x0:t.V),N0 u z p t x=some x0->N0 u y p t x0=N0 u y p t x
 | [],_,_,_,_=>rfl
 | f::p,_,_,_,h=>mo (f:=f) (λu' x x0 hx=>XE p u' x x0 hx) h
theorem AaO{A:Type}{l:List A}{i:Nat}(h:i<l.length)(x d:A):(l.set i x).getD i d=x:=by simp[List.getD,h]
theorem bU {bs:List Blk} (H:Heap w g bs) {t:Nat} {ti:TI} (ht:Eg P t ti) {k j e ej of:Nat} {i:Int} {p:List Nat} {tr u:Ty} {xs:List tr.V} {ys:List u.V} {x0 x':tr.V} (hb:bs[k]?=some (.hole e tr xs i p)) (hj:bs[j]?=some (.row ej .deep u ys))
    (hx0:N0 (.sl u) [] p tr (xs.getD i.toNat tr.zero)=some x0) (hx':N0 (.sl u) ys p tr (xs.getD i.toNat tr.zero)=some x') (hc:ti.ty=.sl u/\I1 tr p=some of/\tyP tr p=some (.sl u)/\j≠k)
    {uu vv:Value} (hu:Bg w g bs.length (.ptr k i p of) uu) (hv:Bg w g bs.length (.ref j) vv) :
    ∃w' g',(Instr.storeAt t uu vv).run P w=.ok () w'/\Heap w' g' ((Blk.kill (AQ [k,j] ((AQ [k] bs).set k (.row e .deep tr (xs.set i.toNat x0)))) [j]).set k (.row e .deep tr (xs.set i.toNat x')))/\Step [k,j] bs.length w g w' g':=by
 obtain⟨hty,hof,htp,hjk⟩:=hc;have hkl:=AE hb;obtain⟨hlen,hes,hpos,h0,hlt,u1,o1,x1,b,cur,ds,q1,q2,q3,hba,hown,⟨el,hel,hh⟩,hc1,hc2,hc3,hc4,hcon⟩:=H.blk k _ hb;rw[hof] at q1;injection q1 with q1;subst q1;rw[htp] at q2;injection q2 with q2;injection q2 with q2;subst q2;rw[hx0] at q3;injection q3 with q3;subst q3
 let q:=i.toNat*tr.size+of
 let fI:=cur.setIfInBounds q (.slice none 0 0)
 let w0:=w.setRow b fI
 let wN:=(AQ [k] bs).set k (Blk.row e .deep tr (xs.set i.toNat x0))
 have hl1:wN.length=bs.length:=by simp[wN,Au]
 have st:Step [k] bs.length w g w0 g :=
  ⟨rfl,rfl,rfl,by simp[w0],λq hq h=>⟨h,setRow_other w b q _ (λe=>by subst e;rw[hown] at h;cases h)⟩,λq h=>⟨h,setRow_other w b q _ (λe=>by subst e;rw[hown] at h;cases h)⟩,
   λq j r h _ hm=>⟨h,setRow_other w b q _ (λe=>by subst e;rw[hown] at h;injection h with h;exact hm (by simp[h]))⟩,λ_ _=>rfl⟩
 have H1:Heap w0 g wN:=by
  refine H.turn st (λq hq=>H.fresh q (by simpa [w0] using hq)) (by rw[hl1];exact Aw2 _) λm x hm=>?_;rw[List.getElem?_set] at hm;split at hm
  ·rename_i hkm;subst hkm;split at hm
   ·injection hm with hm;subst hm;exact .inr (.inr ⟨λj hj=>(by cases hj),by rw[Aw5];exact hlen,hes,hpos,.inr ⟨b,fI,ds,hba,hown,⟨el,hel,setRow_heap w b cur _ el (0,0) hh⟩,by rw[Aw5];exact hc1,hc2,by rw[<-hc3];simp[fI],by rw[Aw5];exact hc4,hcon.mono λi x c r=>r.mono λb' q hb=>⟨hb,setRow_other w b b' _ λe=>by subst e;rw[hown] at hb;injection hb with _ hb;simp at hb⟩⟩⟩)
   ·cases hm
  ·rename_i hne;obtain⟨y,hy,rfl⟩:=CY hm;exact .inr (.inl ⟨by simpa using λe:m=k=>hne e.symm,y,hy,rfl⟩)
 have hj1:wN[j]?=some (.row ej .deep u ys):=by
  simp only[wN];rw[List.getElem?_set_ne (Ne.symm hjk)];simp[AQ,hj,Blk.drop,RM.ids]
 have hk1:wN[k]?=some (.row e .deep tr (xs.set i.toNat x0)):=by
  simp only[wN];rw[List.getElem?_set_self (by rw[Au];exact hkl)]
 obtain⟨ty,Rc,elem,bytes,arr,Mp⟩:=ti
 dsimp only at hty
 subst hty;have htk:take wN .deep (.sl u) (.ref j)=some (ys,.deep,[j]):=by
  simp[take,rd,hj1,Hw,AV.refs,AV.Rz,nodup,Up]
 have Aeh:N0 (.sl u) ys p tr ((xs.set i.toNat x0).getD i.toNat tr.zero)=some x':=by
  rw[AaO hlt,XE p tr _ _ hx0,hx']
 have hu1:Bg w0 g wN.length (.ptr k i p of) uu:=by
  have:=hu.step st (Aw2 _);rw[hl1];exact this
 have hv1:Bg w0 g wN.length (.ref j) vv:=by
  have:=hv.step st (Aw2 _);rw[hl1];exact this
 obtain⟨w',g',hrun,hH,hst⟩:=RS (σ:=⟨[],wN⟩) H1 ht hk1 htk ⟨hof,htp,by simp[Yf,RM.ids],by simpa using Ne.symm hjk⟩ Aeh hu1 hv1;obtain⟨_,_,_,b',hb',he⟩:=IJ hu;rw[hba] at hb';injection hb' with hb';injection hb' with hb';subst hb';obtain⟨_,hvv⟩:=HC hv;have hfit:q+1<=cur.size:=by
  obtain⟨c0,c,d,e1,hl0,hrc,hr0,hrd⟩:=AZ.at_ (λi x c h=>Hv.len h) hcon (by rw[Aw5];exact hlt);obtain⟨a0,a1,a2,e2,ha0,ha1,_⟩:=Sx (Aek w g.own k) (.sl u) ys p tr _ _ _ _ of (by rw[<-Aeh];simp[List.getD,hlt]) hof hrc;have hcl:=Hv.len hrc;have h1:c.length=a0.length+a1.length+a2.length:=by rw[e2];simp only[Aw0]
  have h2:a1.length=1:=ha1;have h3:(i.toNat+1)*tr.size<=cur.size:=by rw[hc3];exact Nat.mul_le_mul_right _ (Nat.le_trans hlt hc1)
  rw[Nat.add_mul,Nat.one_mul] at h3;simp only[q];omega
 have one:∀c∈[vv],c.oneCell'=true:=λc hc=>by simp at hc;subst hc;rw[hvv];rfl
 have hvc:vv.cells=[vv].toArray:=by rw[hvv];rfl
 have r1:=OB (P:=P) ht (off:=q) (setRow_heap w b cur fI el (0,0) hh) hvc rfl (by simp[fI];exact hfit) one;have r2:=OB (P:=P) ht (off:=q) hh hvc rfl (by simpa using hfit) one;have hX:(fI.toList.take q++[vv]++fI.toList.drop (q+[vv].length))=(cur.toList.take q++[vv]++cur.toList.drop (q+[vv].length)):=by
  simp only[fI,Array.toList_setIfInBounds];rw[List.take_set_of_le (Aw2 _),List.drop_set_of_lt (by simp)]
 rw[hX,setRow_setRow] at r1;have Aeg:(Instr.storeAt t uu vv).run P w0=.ok () (w.setRow b (cur.toList.take q++[vv]++cur.toList.drop (q+[vv].length)).toArray):=by
  rw[he];simp only[Instr.storeAt,Instr.sureAddr,Sem.run_bind,Sem.run_pure,Result.andThen_ok,hes];exact r1
 have hw':w'=w.setRow b (cur.toList.take q++[vv]++cur.toList.drop (q+[vv].length)).toArray:=by
  rw[hrun] at Aeg;injection Aeg
 refine⟨w',g',?_,?_,(st.trans hst (by rw[hl1];exact Aw2 _)).weaken (by simp) (Aw2 _)⟩
 ·rw[he,hw'];simp only[Instr.storeAt,Instr.sureAddr,Sem.run_bind,Sem.run_pure,Result.andThen_ok,hes];exact r2
 ·rw[List.set_set] at hH;exact hH
theorem tF{t:TypeId}{x v:Operand}(ho:o.op=.store t x v){ti:TI}(ht:Eg P t ti)(h:Vq σ.blks ti (σ.Bw x) (σ.Bw v) some=some e):Lj P σ o e:=by
 have fin:∀(bs':List Blk) (mods:List Nat),mods≠[]->bs'.length=σ.blks.length ->
     (∀(a:Act) (w:World) (g:G),Ik w g σ a->∃w' g',(Instr.storeAt t (a.eval x) (a.eval v)).run P w=.ok () w'/\Heap w' g' bs'/\Step mods σ.blks.length w g w' g')->Lj P σ o ⟨.un 0,bs',mods⟩:=by
  intro bs' mods hm hl hh;refine⟨by simp[hl],λh=>(hm h).elim,λa w g hs next Q hn=>?_⟩
  obtain⟨w',g',hr,hH,hst⟩:=hh a w g hs;unfold Oper.wp;simp only[execOp,ho,Sem.run_bind,hr,Result.andThen_ok];exact hn undef w' g' hH M9 hst
 unfold Vq at h;split at h
 ·rename_i k i p of vv hx;split at h
  ·rename_i a hb;split at h
   ·rename_i old a' hg hset;split at h
    ·rename_i hc;injection h with h;subst h;refine fin _ _ (by simp) (by simp[Au]) λac w g hs=>?_;have hu:=AB hs x;rw[hx] at hu;exact jy hs.heap ht hb hg hset hc hu (AB hs v)
    ·cases h
   ·cases h
  ·rename_i el m tr xs hb;split at h
   ·rename_i y m' rs htk;split at h
    ·rename_i hc;split at h
     ·rename_i x' hset;injection h with h;subst h;refine fin _ _ (by simp) (by simp[Au,AX]) λac w g hs=>?_;have hu:=AB hs x;rw[hx] at hu;exact RS hs.heap ht hb htk hc hset hu (AB hs v)
     ·cases h
    ·cases h
   ·cases h
  ·rename_i el tr xs i' p' hb;split at h
   ·rename_i j hj;split at h
    ·rename_i ej u ys hbj;split at h
     ·rename_i x0 x' hx0 hx';split at h
      ·rename_i hc;split at h
       ·rename_i hi;injection h with h;subst h;subst hi;obtain⟨c1,c2,c3,c4,c5⟩:=hc;subst c4;refine fin _ _ (by simp) (by simp[Au,AX]) λac w g hs=>?_;have hu:=AB hs x;rw[hx] at hu;have hv:=AB hs v;rw[hj] at hv;exact bU hs.heap ht hb hbj hx0 hx' ⟨c1,c2,c3,c5⟩ hu hv
       ·cases h
      ·cases h
     ·cases h
    ·cases h
   ·cases h
  ·cases h
 ·cases h
end
end Go.Va
namespace Go.Va
section
variable {P:Program} {σ:St} {o:Oper} {en:Env} {e:Eff}
theorem RL {bs:List Blk} {t:Ty}:∀{ps:List (Nat×AV)} {m m':RM} {xs xs':List t.V} {rs rs':List Nat},Nw bs t m xs rs ps=some (m',xs',rs') ->
    (∀j∈m.ids,j∈m'.ids)/\(m=.deep↔m'=.deep)/\rs'=rs++ps.flatMap (λp=>p.2.refs)/\xs'.length=xs.length
 | [],m,m',xs,xs',rs,rs',h=>by
  simp only[Nw,AwY,Aw9] at h;obtain⟨rfl,rfl,rfl⟩:=h;exact⟨λ_ h=>h,Iff.rfl,by simp,rfl⟩
 | (i,v)::ps,m,m',xs,xs',rs,rs',h=>by
  simp only[Nw] at h;split at h
  ·rename_i y m1 l ht;split at h
   ·obtain⟨h1,h2,h3,h4⟩:=RL h;obtain⟨hs,hd⟩:=Uy ht;obtain⟨_,hl,_⟩:=Mm ht;exact⟨λj hj=>h1 j (hs j hj),hd.trans h2,by rw[h3,hl];simp,by rw[h4,Aw5]⟩
   ·cases h
  ·cases h
theorem Xw {t:Ty} {E:Nat->t.V->List Value->Prop} (hE:∀i x c,E i x c->c.length=t.size) {bs:List Blk} {ρ:Operand->AV} {ε:Operand->Value} {m':RM}:∀{ps:List (Nat×Operand)} {m:RM} {xs xs':List t.V} {rs rs':List Nat} {cs:List Value},
    Nw bs t m xs rs (ps.map λp=>(p.1,ρ p.2))=some (m',xs',rs')->AZ E 0 xs cs ->
    (∀p∈ps,∀m m1 y rs,take bs m t (ρ p.2)=some (y,m1,rs)->(m=.deep↔m'=.deep)->(∀j∈m1.ids,j∈m'.ids)->∃cv,(ε p.2).cells=cv.toArray/\E p.1 y cv) ->
    ∃cs',Instr.fill (λi=>some (i*t.size,t.size)) cs.toArray (ps.map λp=>(p.1,ε p.2))=some cs'.toArray/\AZ E 0 xs' cs'
 | [],m,xs,xs',rs,rs',cs,h,hl,_=>by
  simp only[List.map_nil,Nw,AwY,Aw9] at h;obtain⟨rfl,rfl,rfl⟩:=h;exact⟨cs,rfl,hl⟩
 | (i,x)::ps,m,xs,xs',rs,rs',cs,h,hl,hp=>by
  simp only[List.map_cons,Nw] at h;split at h
  ·rename_i y m1 l ht;split at h
   ·rename_i hi;obtain⟨h1,h2,_⟩:=RL h;obtain⟨hs,hd⟩:=Uy ht;obtain⟨cv,hcv,hey⟩:=hp (i,x) (by simp) m m1 y l ht (hd.trans h2) h1;obtain⟨c0,c,d,e1,hl0,hrc,hr0,hrd⟩:=AZ.at_ hE hl hi;have hnew:=AZ.join hi hr0 (by rw[Nat.zero_add];exact hey) hrd;obtain⟨cs',hf,hl'⟩:=Xw hE h hnew λp hp'=>hp p (by simp[hp']);refine⟨cs',?_,hl'⟩;simp only[List.map_cons];unfold Instr.fill;have hcs:(ε x).cells.size=t.size:=by
     have Ahh:(ε x).cells=cv.toArray:=hcv;rw[Ahh,List.size_toArray,hE _ _ _ hey]
    have hc:=hE _ _ _ hrc;have hfit:¬i*t.size+t.size>cs.toArray.size:=by
     rw[List.size_toArray,e1,Aw0,Aw0,hl0,hc];omega
    simp only[hcs,ne_eq,not_true_eq_false,decide_false,Bool.false_or,hfit,Bool.false_eq_true,if_false];rw[<-hf];congr 1;have Ahh:(ε x).cells=cv.toArray:=hcv;rw[Ahh,e1,<-hl0];exact pV (by rw[hE _ _ _ hey,hc])
   ·cases h
  ·cases h
theorem jH{m m':RM}(h:m=.deep↔m'=.deep)(k:Nat)(M:List (Nat×List Nat))(j:Nat)(r:List Nat):Qz m k M j r=Qz m' k M j r:=by
 unfold Qz;split
 ·rfl
 ·cases m with
  | deep=>rw[h.1 rfl]
  | sh _=>cases m' with
   | deep=>have:=h.2 rfl;cases this
   | sh _=>rfl
def lY(ps:List (Nat×AV)):List (Nat×List Nat):=ps.flatMap λp=>Ip p.2 [p.1]
theorem iM(ps:List (Nat×AV)):(lY ps).map (·.1)=ps.flatMap λp=>p.2.refs:=by
 induction ps with
 | nil=>rfl
 | cons p ps ih =>
  simp only[lY,List.flatMap_cons,List.map_append] at ih ⊢;rw[EG,ih]
theorem Vj {w:World} {g:G} {bs:List Blk} (H:Heap w g bs) {t:Ty} {ρ:Operand->AV} {ε:Operand->Value} (hρ:∀x,Bg w g bs.length (ρ x) (ε x)):∀{ps:List (Nat×Operand)} {m m':RM} {xs xs':List t.V} {rs rs':List Nat},
    Nw bs t m xs rs (ps.map λp=>(p.1,ρ p.2))=some (m',xs',rs')->(∀j∈m.ids,j<bs.length)->∀j∈m'.ids,j<bs.length
 | [],m,m',xs,xs',rs,rs',h,hm=>by
  simp only[List.map_nil,Nw,AwY,Aw9] at h;obtain⟨rfl,rfl,rfl⟩:=h;exact hm
 | (i,x)::ps,m,m',xs,xs',rs,rs',h,hm=>by
  simp only[List.map_cons,Nw] at h;split at h
  ·rename_i y m1 l ht;split at h
   ·obtain⟨hy,_⟩:=Mm ht;obtain⟨Tk,hun⟩:=P5 hy;obtain⟨cv,hcv,_⟩:=Ba Tk hun (hρ x);exact Vj H hρ h (cu H ht hcv hm)
   ·cases h
  ·cases h
theorem XI {t:TypeId} {len:Nat} {parts:Array (Nat×Operand)} (ho:o.op=.buildSlice t len parts) {fi:FI} {ti te:TI} (ht:Eg P t ti) (hte:Eg P ti.elem te) {m:RM} {xs:List te.ty.V} {rs:List Nat}
    (hp:Nw σ.blks te.ty (fi.mode te.ty) (List.replicate len te.ty.zero) [] (parts.toList.map λp=>(p.1,σ.Bw p.2))=some (m,xs,rs))
    (hc:(ti.Ea&&te.ty.row&&Yf rs m&&nodup rs&&decide (len*te.ty.size<=16777216))=true) :
    (len=0->Lj P σ o ⟨.zs,σ.blks,[]⟩)/\(len≠0->Lj P σ o ⟨.ref σ.blks.length,Blk.kill (AQ rs σ.blks) rs++[.row ti.elem m te.ty xs],rs⟩):=by
 simp only[Aw3,decide_eq_true_eq] at hc;obtain⟨⟨⟨⟨hsl,hrow⟩,hoff⟩,hnd⟩,hbig⟩:=hc;have hu:=Bc ht hsl;obtain⟨hdata,hpos⟩:=XC hrow;obtain⟨ie,z,hi,hsz,hby,hz,hzc,_⟩:=hte.info;obtain⟨_,hdp,hrs,hxl⟩:=RL hp;rw[List.length_replicate] at hxl;rw[List.nil_append] at hrs;refine⟨λh0=>?_,λh0=>?_⟩
 ·subst h0;have hps:parts.toList=[]:=by
   cases hq:parts.toList with
   | nil=>rfl
   | cons p r =>
    rw[hq] at hp;simp only[List.map_cons,Nw] at hp;split at hp
    ·split at hp
     ·rename_i h;simp at h
     ·cases hp
    ·cases hp
  have AsQ:parts=#[]:=by apply Array.toList_inj.1;rw[hps]
  refine⟨Aw2 _,λ_=>⟨[],(List.append_nil _).symm⟩,λa w g hs next Q hn=>?_⟩
  have hr:(execOp a.eval o).run P w=.ok (.value (.slice (some ⟨w.heap.size,0,none⟩) 0 0)) (w.alloc (.cells #[] ti.elem)):=by
   simp[execOp,ho,Instr.buildSlice,run_underlying hu,sizeOf,typeInfo,hi,AsQ,Instr.fill,newRow];congr 2;apply Array.eq_empty_of_size_eq_zero;simp
  unfold Oper.wp;rw[hr];have st:Step [] σ.blks.length w g (w.alloc (.cells #[] ti.elem)) g:=⟨rfl,rfl,rfl,by show w.heap.size<=(w.heap.push _).size;simp,λb hb h=>⟨h,heap_alloc_old w _ b hb⟩,λb h=>⟨h,heap_alloc_old w _ b (O1 hs.heap (by rw[h];simp))⟩,
   λb k p h _ _=>⟨h,heap_alloc_old w _ b (O1 hs.heap (by rw[h];simp))⟩,λ_ _=>rfl⟩
  refine hn _ _ g (hs.heap.step0 st λb hb=>hs.heap.fresh b (Nat.le_trans st.size hb)) (Zh _) st
 ·refine⟨by simp[AX,Au],λh=>⟨[.row ti.elem m te.ty xs],?_⟩,λa w g hs next Q hn=>?_⟩
  ·have h:rs=[]:=h;rw[h];rfl
  have H:=hs.heap
  let n:=σ.blks.length
  let M:=lY (parts.toList.map λp=>(p.1,σ.Bw p.2))
  have lq:M.map (·.1)=rs:=by rw[hrs];exact iM _
  let i:BI:=⟨some ⟨w.heap.size,0,none⟩,len,len,te.ty.size⟩
  let g':=g.upd (Qz m n M) (some w.heap.size) n i
  have Adg:∀b,g.own b≠.no->b≠w.heap.size:=λb h e=>by have:=O1 H h;omega
  have key:∀cells:Array Value,∃w':World,w'=w.alloc (.cells cells ti.elem)/\Step rs n w g w' g':=λcells=>⟨_,rfl,Step.upd H.fresh rfl rfl rfl (by show w.heap.size<=(w.heap.push _).size;simp) (λq hq _=>heap_alloc_old w _ q hq)
   (λq h=>by injection h with h;omega) (Aw2 _) λj r _ hm=>L5 (by rw[lq];exact hm)⟩
  have PR:∀b j r,g.own b=.lab j r->g'.own b=Qz m n M j r:=λb j r h=>Ij (by
   intro e;injection e with e;exact Adg b (by rw[h];simp) e.symm) h
  have Ug:∀b,g.own b=.Gr->g'.own b=.Gr:=λb h=>PY (by
   intro e;injection e with e;exact Adg b (by rw[h];simp) e.symm) h
  have hzero:AZ (Ri w g'.own n m te.ty) 0 (List.replicate len te.ty.zero) ((List.replicate len (Value.agg z.cells)).flatMap λv=>v.cells.toList):=by
   refine Sv (λi=>?_) len 0;have As2:(Value.agg z.cells).cells.toList=Na te.ty:=hzc;rw[As2];cases m with
   | deep=>exact Hv.zero hdata
   | sh ks=>exact FL.zero hdata
  obtain⟨cs',Xa,hlist⟩:=Xw (E:=Ri w g'.own n m te.ty) (ε:=a.eval) (λi x c h=>h.len) hp hzero (by
   intro p hpm m0 m1 y rs0 htk hd0 hsub;obtain⟨hy,hr0,hn0,_⟩:=Mm htk;obtain⟨Tk,hun⟩:=P5 hy;obtain⟨cv,hcv,hvv⟩:=Ba Tk hun (AB hs p.2);refine⟨cv,TM hvv hcv.one,?_⟩;have hin:InR w g'.own n m te.ty [p.1] y cv:=by
    refine bZ H htk hcv (M:=M) (λjq hj=>Ud (by rw[lq];exact hnd) ?_) hsub (λj hj=>OH (by rw[lq];exact Qv hoff j hj)) hd0
     (λb j r h _=>by rw[PR b j r h,jH hd0]) Ug λ_ _=>rfl
    exact List.mem_flatMap.2 ⟨(p.1,σ.Bw p.2),List.mem_map.2 ⟨p,hpm,rfl⟩,hj⟩
   cases m with
   | deep=>exact hin
   | sh ks=>exact hin)
  have hcl:=AZ.len (λi x c h=>Ri.len h) hlist;rw[hxl] at hcl;have hpc:¬len*te.ty.size=0:=by
   have:0<len*te.ty.size:=Nat.mul_pos (Nat.pos_of_ne_zero h0) hpos;omega
  have Aqv:(Array.range (len*ie.size)).map (z.cells[·%z.cells.size]!)=((List.replicate len (Value.agg z.cells)).flatMap λv=>v.cells.toList).toArray:=by
   have h1:=Vf z.cells (s:=te.ty.size) (l:=len) (c:=len) (by rw[<-Array.length_toList,hzc,OM]) hpos (Aw2 _);rw[Aw6 (by rw[Array.length_toList,size_madeCells];exact Aw2 _)] at h1;rw[<-h1,hsz];simp only[madeCells,Array.toArray_toList]
  have hr:(execOp a.eval o).run P w=.ok (.value (.slice (some ⟨w.heap.size,0,none⟩) len len)) (w.alloc (.cells cs'.toArray ti.elem)):=by
   have:=run_buildSlice (P:=P) w t ti.elem len (parts.map λ(i,x)=>(i,a.eval x)) cs'.toArray ie z hu hi hz (by rw[hsz];omega) (by rw[hsz];exact hpc) (by
    rw[Aqv,hsz];simpa using Xa)
   simp[execOp,ho,this]
  unfold Oper.wp;rw[hr];obtain⟨w',hw',st⟩:=key cs'.toArray;subst hw';have Px:g'.at_ n=i:=by simp[g',G.upd]
  refine hn _ _ g' (H.turn st (Nn H.fresh st.size (λq h=>by injection h with h;subst h;show w.heap.size<(w.heap.push _).size;simp)) (by simp[AX,Au]) λj x hj=>?_) ?_ st
  ·rw[List.getElem?_append] at hj;split at hj
   ·rcases La hj with h | ⟨hjr,h⟩
    ·exact .inl h
    ·obtain⟨y',hy',rfl⟩:=CY h;exact .inr (.inl ⟨hjr,y',hy',rfl⟩)
   ·rename_i hlen;rw[AX,Au] at hj hlen;have hj0:j-σ.blks.length=0:=by
     rcases Nat.eq_zero_or_pos (j-σ.blks.length) with h | h
     ·exact h
     ·rw[List.getElem?_eq_none (by simp;omega)] at hj;cases hj
    rw[hj0] at hj;obtain rfl:j=n:=by simp only[n];omega
    simp only[List.getElem?_cons_zero,AwY] at hj;subst hj;refine .inr (.inr ⟨λj hj=>?_,by rw[Px,hxl],by rw[Px],hpos,.inr ⟨w.heap.size,cs'.toArray,_,by rw[Px],by simp[g',G.upd],⟨_,.inr rfl,heap_alloc_new w _⟩,by rw[Px,hxl];exact Aw2 _,?_,by rw[Px,List.size_toArray,hcl],rfl,?_⟩⟩)
    ·have:=Vj H (AB hs) hp (by rw[Pf];intro j hj;cases hj) j hj;simp[AX,Au];omega
    ·rw[Px];have:len<=len*te.ty.size:=Nat.le_mul_of_pos_right _ hpos;simp only[maxLen,i];omega
    ·rw[Le,List.toList_toArray,Aw6 (by rw[hcl,hxl];exact Aw2 _)];refine hlist.mono λi' x c h=>h.on ?_;have hap:∀b,g.own b≠.no\/g'.own b≠.no/\b≠w.heap.size->(w.alloc (.cells cs'.toArray ti.elem)).heap[b]?=w.heap[b]?:=λb hb=>by
      refine heap_alloc_old w _ b ?_;rcases hb with hb | ⟨hb,hne⟩
      ·exact O1 H hb
      ·rcases Aw7 b w.heap.size with h' | h'
       ·exact h'
       ·refine(hb ?_).elim;have:=H.fresh b h';simp[g',G.upd,this,Ne.symm hne]
     cases m with
     | deep =>
      intro b q hb;refine⟨hb,hap b (.inr ⟨by rw[hb];simp,λe=>?_⟩)⟩;subst e;simp[g',G.upd] at hb
     | sh ks =>
      intro b hb;refine⟨hb,hap b (.inr ⟨?_,λe=>?_⟩)⟩
      ·rcases hb with hb | ⟨j,_,p,hb⟩<;>rw[hb]<;>simp
      ·subst e;rcases hb with hb | ⟨j,hj,p,hb⟩
       ·simp[g',G.upd] at hb
       ·simp[g',G.upd] at hb;have:=Vj H (AB hs) hp (by rw[Pf];intro j hj;cases hj) j hj;omega
  ·refine A7 (cs:=[_]) rfl ⟨by simp[AX,Au],rfl⟩ ?_;have:g'.at_ σ.blks.length=i:=Px;simp[A3,AV.isAgg,this,i]
end
end Go.Va
namespace Go.Va
section
variable {P:Program} {w:World} {g:G} {bs:List Blk}
theorem AaK (w:World) (t tx ty e:TypeId) (i:TypeInfo) (ht:P.underlying t=some (.slice e)) (hi:P.info? e=some i)
    (b sLen sCap:Nat) (cur:Array Value) {e0:TypeId} (hg:w.heap[b]?=some (.cells cur e0 (0,0))) (x:Value) (n:Nat) (news:List Value) (hs:Src P i.size tx x n news w) (hroom:sLen+n<=sCap) (hfit:sLen*i.size+news.length<=cur.size) :
    (Builtin.append_ #[t,tx] ty #[.slice (some ⟨b,0,none⟩) sLen sCap,x]).run P w =
     .ok (.slice (some ⟨b,0,none⟩) (sLen+n) sCap) (w.setRow b (cur.toList.take (sLen*i.size)++news++cur.toList.drop (sLen*i.size+news.length)).toArray):=by
 have hst:=run_storeCells_at P b (sLen*i.size) e0 news 0 cur w hg (by simpa using hfit) hs.one;simp only[Nat.add_zero] at hst;rcases hs.kind with ⟨e',hk⟩| hk<;>simp[Builtin.append_,run_underlying ht,run_underlying hk,sizeOf,typeInfo,hi,hs.len,hroom,hs.cells,Addr.add_lit,hst]
theorem Aar (w:World) (t tx ty e:TypeId) (i:TypeInfo) (ht:P.underlying t=some (.slice e)) (hi:P.info? e=some i) (ad:Option Addr) (x:Value) (news:List Value) (hs:Src P i.size tx x 0 news w) :
    (Builtin.append_ #[t,tx] ty #[.slice ad 0 0,x]).run P w=.ok (.slice ad 0 0) w:=by
 have hn:news=[]:=by
  have:=hs.newsLen;simpa using this
 subst hn;cases ad<;>rcases hs.kind with ⟨e',hk⟩| hk<;>simp[Builtin.append_,run_underlying ht,run_underlying hk,sizeOf,typeInfo,hi,hs.len,hs.cells,storeCells]
theorem kI (w:World) (t tx ty e:TypeId) (i:TypeInfo) (z:Value) (ht:P.underlying t=some (.slice e)) (hi:P.info? e=some i) (hz:i.zero=some z) (hzs:z.cells.size=i.size) (hpos:0<i.size)
    {Pw:Nat->Prop} {Ek:Prop} {ad:Option Addr} {len cap:Nat} {ds:List Value} (hold:(len=0/\cap=0/\ds=[])\/∃b cur e0,ad=some ⟨b,0,none⟩/\Pw b/\(w.heap[b]?=some (.cells cur e0 (0,0))/\(Ek\/e0=e))/\len<=cap/\cap<=maxLen/\cur.size=cap*i.size/\cur.toList.take (len*i.size)=ds)
    {x:Value} {n:Nat} {news:List Value} (hs:Src P i.size tx x n news w) (hby:i.bytes≠0) (hfit:(len+n)*i.bytes<=140737488355328) :
    ∃ad' cap' w',(Builtin.append_ #[t,tx] ty #[.slice ad len cap,x]).run P w=.ok (.slice ad' (len+n) cap') w'/\w'.os=w.os/\w'.tape=w.tape/\w'.output=w.output/\w.heap.size<=w'.heap.size /\
     ((len+n=0/\cap'=0/\w'=w)\/∃b' cur' e1,ad'=some ⟨b',0,none⟩/\(w'.heap[b']?=some (.cells cur' e1 (0,0))/\(Ek\/e1=e))/\len+n<=cap'/\cap'<=maxLen/\cur'.size=cap'*i.size/\cur'.toList.take ((len+n)*i.size)=ds++news /\
      ((∃cur e0,ad=some ⟨b',0,none⟩/\Pw b'/\w.heap[b']?=some (.cells cur e0 (0,0))/\w'=w.setRow b' cur')\/(b'=w.heap.size/\b'<w'.heap.size/\∀q,q<w.heap.size->w'.heap[q]?=w.heap[q]?))):=by
 have hmax:len+n<=140737488355328:=Nat.le_trans (Nat.le_mul_of_pos_right _ (Nat.pos_of_ne_zero hby)) hfit;have h63:((len+n:Nat):Int)<=9223372036854775807:=by omega
 have hml:len+n<=maxLen:=by simp only[maxLen];omega
 have hdl:ds.length=len*i.size:=by
  rcases hold with ⟨h1,h2,h3⟩| ⟨b,cur,e0,h1,_,h2,h3,h4,h5,h6⟩
  ·subst h1;subst h3;simp
  ·rw[<-h6,List.length_take,Array.length_toList,h5];exact Nat.min_eq_left (Nat.mul_le_mul_right _ h3)
 by_cases hroom:len+n<=cap
 ·rcases hold with ⟨rfl,rfl,rfl⟩| ⟨b,cur,e0,rfl,hpw,⟨hb,hek⟩,h3,h4,h5,h6⟩
  ·obtain rfl:n=0:=by omega
   exact⟨ad,0,w,Aar w t tx ty e i ht hi ad x news hs,rfl,rfl,rfl,Aw2 _,.inl ⟨rfl,rfl,rfl⟩⟩
  ·have hle:len*i.size+news.length<=cur.size:=by
     rw[hs.newsLen,h5,<-Nat.add_mul];exact Nat.mul_le_mul_right _ hroom
   refine⟨_,cap,_,AaK w t tx ty e i ht hi b len cap cur hb x n news hs hroom hle,rfl,rfl,rfl,by simp,.inr ⟨b,_,e0,rfl,⟨setRow_heap w b cur _ e0 (0,0) hb,hek⟩,hroom,h4,?_,?_,.inl ⟨cur,e0,rfl,hpw,hb,rfl⟩⟩⟩
   ·simp only[List.size_toArray,Aw0,List.length_take,List.length_drop,Array.length_toList];omega
   ·rw[List.toList_toArray,h6];have:(len+n)*i.size=(ds++news).length:=by rw[Aw0,hdl,hs.newsLen,Nat.add_mul]
    rw[this,List.take_left]
 ·have hgt:cap<len+n:=by omega
  have holds:(Builtin.firstCells i.size len (.slice ad len cap)).run P w.drew=.ok ds.toArray w.drew:=by
   rcases hold with ⟨rfl,rfl,rfl⟩| ⟨b,cur,e0,rfl,hpw,⟨hb,hek⟩,h3,h4,h5,h6⟩
   ·cases ad with
    | none=>exact run_firstCells_none w.drew i.size 0 0 0
    | some a=>exact run_firstCells_some w.drew i.size 0 a 0 0 [] (by simp) (by simp)
   ·refine run_firstCells_some w.drew i.size len _ len cap ds hdl λj u hu=>?_;rw[addN,Nat.zero_add];show w.cell? ⟨b,j,none⟩=some u;rw[Ov hb,<-Axa];rw[<-h6,List.getElem?_take] at hu;split at hu
    ·exact hu
    ·cases hu
  have hr:=run_append_grow_src (P:=P) w t tx ty e i z ht hi hz ad len cap ds holds x n news hs hgt h63 (growslice_fits hgt hfit);refine⟨_,_,_,hr,rfl,rfl,rfl,by simp,.inr ⟨w.heap.size,_,e,rfl,⟨heap_alloc_new w.drew _,.inr rfl⟩,grownCap_ge w _ cap e,grownCap_le_maxLen w _ cap e hml,?_,?_,.inr ⟨rfl,by simp,λq hq=>heap_alloc_old w.drew _ q hq⟩⟩⟩
  ·have hge:=grownCap_ge w (len+n) cap e;simp only[Array.size_append,List.size_toArray,Aw0,size_zeroCells,hzs,hdl,hs.newsLen,<-Nat.add_mul];congr 1;omega
  ·have:(len+n)*i.size=(ds++news).length:=by rw[Aw0,hdl,hs.newsLen,Nat.add_mul]
   rw[this,Array.toList_append,List.toList_toArray,List.take_left]
end
end Go.Va
namespace Go.Va
def SJ(w:World)(g:G)(t:Ty)(m:RM)(rs:List Nat)(i:Nat)(x:t.V)(c:List Value):Prop :=
 (t.flat=true/\c=Jr t x)\/(∃ks,m=.sh ks/\FL w (Al g.own ks) t x c)\/∃j,rs=[j]/\Ri w g.own j m t i x c
theorem SJ.len{w:World}{g:G}{t:Ty}{m:RM}{rs:List Nat}{i:Nat}{x:t.V}{c:List Value}(h:SJ w g t m rs i x c):c.length=t.size:=by
 rcases h with ⟨hf,rfl⟩| ⟨ks,_,h⟩| ⟨j,_,h⟩
 ·exact FL.len (w:=default) (A:=λ_=>True) ((FL.flat hf).2 rfl)
 ·exact h.len
 ·exact h.len
theorem SJ.one{w:World}{g:G}{t:Ty}{m:RM}{rs:List Nat}{i:Nat}{x:t.V}{c:List Value}(h:SJ w g t m rs i x c):∀v∈c,v.oneCell'=true:=by
 rcases h with ⟨hf,rfl⟩| ⟨ks,_,h⟩| ⟨j,_,h⟩
 ·exact FL.one (w:=default) (A:=λ_=>True) ((FL.flat hf).2 rfl)
 ·exact h.one
 ·cases m with
  | deep=>exact Hv.one h
  | sh ks=>exact FL.one h
theorem Ri.flat{w:World}{own:Nat->Tag}{k:Nat}{m:RM}{t:Ty}{i:Nat}{x:t.V}{c:List Value}(hf:t.flat=true):Ri w own k m t i x c↔c=Jr t x:=by
 cases m with
 | deep=>exact Hv.flat hf
 | sh ks=>exact FL.flat hf
section
variable {P:Program} {w:World} {g:G} {bs:List Blk}
theorem yV{ds:List Value}{b:Nat}{cur:Array Value}{el:TypeId}{fr:Nat×Nat}{n:Nat}(hh:w.heap[b]?=some (.cells cur el fr))(h4:cur.toList.take n=ds):∀j u,ds[j]?=some u->w.cell? ((⟨b,0,none⟩:Addr).add j)=some u:=by
 intro j u hu;rw[addN,Nat.zero_add,Ov hh,<-Axa];subst h4;rw[List.getElem?_take] at hu;split at hu
 ·exact hu
 ·cases hu
theorem AhH (H:Heap w g bs) {t:Ty} {y:AV} {ys:List t.V} {m:RM} {rs:List Nat} (h:mK bs t y=some (ys,m,rs)) {v:Value} (hv:Bg w g bs.length y v) {tx:TypeId} {Yq:TI} (htx:Eg P tx Yq) (hk:(Yq.Ea||Yq.ty==.str)=true) :
    ∃news,Src P t.size tx v ys.length news w/\AZ (SJ w g t m rs) 0 ys news/\(∀j∈m.ids,j<bs.length)/\(∀j∈rs,j<bs.length)/\(rs=[]\/∃j,rs=[j]):=by
 have hkind:(∃e',P.underlying tx=some (.slice e'))\/P.underlying tx=some .string:=by
  rw[Bool.or_eq_true] at hk;rcases hk with hk | hk
  ·exact .inl ⟨_,Bc htx hk⟩
  ·exact .inr (NG htx (by simpa using hk))
 have Ahy:∀(ad:Option Addr) (c:Nat),Src P t.size tx (.slice ad 0 c) 0 [] w:=λad c =>
  ⟨hkind,λ_=>rfl,by
   cases ad with
   | none=>exact run_firstCells_none w t.size 0 0 c
   | some a=>exact run_firstCells_some w t.size 0 a 0 c [] (by simp) (by simp),by
   cases ad with
   | none=>exact run_firstCells_none w.drew t.size 0 0 c
   | some a=>exact run_firstCells_some w.drew t.size 0 a 0 c [] (by simp) (by simp),by simp,λ_ h=>by cases h⟩
 have AaS:∀(a:Addr) (n c:Nat) (news:List Value),news.length=n*t.size->(∀j u,news[j]?=some u->w.cell? (a.add j)=some u)->(∀u∈news,u.oneCell'=true)->Src P t.size tx (.slice (some a) n c) n news w:=λa n c news hl hn h1 =>
  ⟨hkind,λ_=>rfl,run_firstCells_some w t.size n a n c news hl hn,run_firstCells_some w.drew t.size n a n c news hl (by simpa using hn),hl,h1⟩
 unfold mK at h;split at h
 ·simp only[AwY,Aw9] at h;obtain⟨rfl,rfl,rfl⟩:=h;obtain⟨ad,rfl⟩:=Rp hv;exact⟨[],Ahy ad 0,rfl,λj hj=>by(cases hj),λj hj=>by(cases hj),.inl rfl⟩
 ·rename_i ks u xs;split at h
  ·rename_i l hl;obtain⟨e',he⟩:=Bb hl;injection e' with e';subst e';simp only at he;subst he;simp only[AwY,Aw9] at h;obtain⟨rfl,rfl,rfl⟩:=h;obtain⟨hks,ad,cap,ds,rfl,hcap,hr,hm⟩:=S7 hv;have hEl:AZ (SJ w g u (if u.flat=true then RM.deep else RM.sh ks) []) 0 xs ds:=by
    refine hr.toI λi x c h=>?_;cases hf:u.flat with
    | true=>exact .inl ⟨hf,(FL.flat hf).1 h⟩
    | false=>exact .inr (.inl ⟨ks,by simp,h⟩)
   refine⟨ds,?_,hEl,λj hj=>?_,λj hj=>by(cases hj),.inl rfl⟩
   ·rcases hm with rfl | ⟨b,off,rfl,_,hc⟩
    ·cases hr;exact Ahy ad cap
    ·exact AaS _ _ _ _ (BK.len (λx c h=>FL.len h) hr) (λj u hu=>by rw[addN];exact hc j u hu) (BK.all (λx c h=>FL.one h) hr)
   ·cases hf:u.flat with
    | true=>rw[hf] at hj;cases hj
    | false=>rw[hf] at hj;exact hks j hj
  ·cases h
 ·rename_i ks s;split at h
  ·rename_i l hl;obtain⟨e',he⟩:=Bb hl;injection e' with e';subst e';simp only at he;subst he;simp only[AwY,Aw9] at h;obtain⟨rfl,rfl,rfl⟩:=h;obtain rfl:=QD hv;refine⟨byteCells s,?_,?_,λj hj=>by(cases hj),λj hj=>by(cases hj),.inl rfl⟩
   ·have e1:(s.data.toList.map λb=>(b.toNat:Int)).length=s.size:=by rw[Aw8,Array.length_toList];rfl
    rw[e1];exact⟨hkind,λ_=>rfl,firstCells_string s w,firstCells_string s w.drew,by rw[byteCells_length];exact(Nat.mul_one _).symm,λu hu=>by
     obtain⟨_,_,rfl⟩:=List.mem_map.1 hu;rfl⟩
   ·have:∀(l:List UInt8) (i:Nat),AZ (SJ w g (.int .u8) .deep []) i (l.map λb=>(b.toNat:Int)) (l.map λb=>Value.int .u8 b.toNat):=by
      intro l;induction l with
      | nil=>exact λ_=>rfl
      | cons b l ih=>exact λi=>⟨[_],_,rfl,.inl ⟨rfl,rfl⟩,ih (i+1)⟩
    exact this _ 0
  ·cases h
 ·rename_i j;split at h
  ·rename_i el m1 u xs hb;split at h
   ·rename_i l hl;obtain⟨e',he⟩:=Bb hl;injection e' with e';subst e';simp only at he;subst he;simp only[AwY,Aw9] at h;obtain⟨rfl,rfl,rfl⟩:=h;obtain⟨hj,rfl⟩:=HC hv;obtain⟨Nb,hlen,hes,hpos,hr⟩:=H.blk j _ hb;rw[hlen];have Nf:∀j'∈(if u.flat=true then RM.deep else m1).ids,j'<bs.length:=λj' hj'=>by
     split at hj'
     ·cases hj'
     ·exact Nb j' hj'
    have hrs:∀j'∈(if u.flat=true then[] else[j]),j'<bs.length:=λj' hj'=>by
     split at hj'
     ·cases hj'
     ·simp at hj';subst hj';exact hj
    have hsh:(if u.flat=true then[] else[j])=[]\/∃j',(if u.flat=true then[] else[j])=[j']:=by
     cases u.flat with
     | true=>exact .inl rfl
     | false=>exact .inr ⟨j,rfl⟩
    rcases hr with ⟨rfl,hc0⟩| ⟨b,cur,ds,ha,hown,⟨elq,_,hh⟩,h1,h2,h3,h4,hcon⟩
    ·rw[hc0];exact⟨[],Ahy _ 0,rfl,Nf,hrs,hsh⟩
    ·rw[ha];have hEl:AZ (SJ w g u (if u.flat=true then RM.deep else m1) (if u.flat=true then[] else[j])) 0 xs ds:=by
      refine(Le.1 hcon).mono λi x c h=>?_;cases hf:u.flat with
      | true=>exact .inl ⟨hf,(Ri.flat hf).1 h⟩
      | false=>exact .inr (.inr ⟨j,by simp,by simpa using h⟩)
     exact⟨ds,AaS _ _ _ _ (AZ.len (λi x c h=>h.len) hEl) (yV hh h4) (AZ.all (λi x c h=>h.one) hEl),hEl,Nf,hrs,hsh⟩
   ·cases h
  ·cases h
 ·cases h
def bF(off:Nat):List Nat->List Nat
 | []=>[]
 | [i]=>[off+i]
 | a::b::r=>a::bF off (b::r)
theorem VU(off i:Nat):∀(q:List Nat),bF off (q++[i])=q++[off+i]
 | []=>rfl
 | [a]=>rfl
 | a::b::q=>by
  have:=VU off i (b::q);simp only[List.cons_append] at this ⊢;simp only[bF,this]
def kH(kk:Option Nat)(n off:Nat)(m:RM)(rs:List Nat)(j:Nat)(r:List Nat):Tag :=
 if kk=some j then .lab n r else if j∈rs then(match m with | .deep=>.lab n (bF off r)| .sh _=>.Gr) else .lab j r
theorem Xf{m m2 m':RM}(h:pz m m2=some m'):(∀j,j∈m'.ids↔j∈m.ids\/j∈m2.ids)/\(m=.deep↔m'=.deep)/\(m'=.deep->m2=.deep):=by
 cases m<;>cases m2<;>simp only[pz,AwY,reduceCtorEq] at h<;>subst h<;>simp[RM.ids]
end
section
variable {P:Program} {σ:St} {o:Oper} {en:Env} {e:Eff}
theorem TP {w:World} {g:G} {bs:List Blk} (H:Heap w g bs) {t tx ty:TypeId} {ti te Yq:TI} (ht:Eg P t ti) (hte:Eg P ti.elem te) (hsl:ti.Ea=true) (htx:Eg P tx Yq) (hkx:(Yq.Ea||Yq.ty==.str)=true) (hrow:te.ty.row=true) (hby:te.bytes≠0)
    {er:Nat} (her:er=0\/er=ti.elem) {kk:Option Nat} {m m2 m':RM} {xs ys:List te.ty.V} {rs:List Nat} {y:AV} (hsrc:mK bs te.ty y=some (ys,m2,rs)) {ad:Option Addr} {cap:Nat}
    (hold:(xs=[]/\cap=0)\/∃k b cur ds,kk=some k/\ad=some ⟨b,0,none⟩/\g.own b=.lab k []/\TG w b er cur/\xs.length<=cap/\cap<=maxLen/\cur.size=cap*te.ty.size/\cur.toList.take (xs.length*te.ty.size)=ds/\ku w g.own k m te.ty xs ds)
    (hkk:∀k,kk=some k->k∉rs/\k∉m'.ids/\k<bs.length) (Nf:∀j∈m.ids,j∈m'.ids/\j<bs.length) (hdp:xs≠[]->(m=.deep↔m'=.deep)) (hj:(∀j∈m2.ids,j∈m'.ids)/\(m'=.deep->m2=.deep)) (AsI:∀j∈m'.ids,j<bs.length) (hoff:∀j∈m'.ids,j∉rs)
    (hfit:(xs.length+ys.length)*te.bytes<=140737488355328) {v:Value} (hv:Bg w g bs.length y v) {SG:List Blk} (Ahg:SG.length=bs.length) (hget:∀(j:Nat) (x:Blk),SG[j]?=some x->x=.dead\/(j∉kk.toList++rs/\∃y,bs[j]?=some y/\x=y.drop λi=>(kk.toList++rs).contains i)) :
    ∃r w' g',(Builtin.append_ #[t,tx] ty #[.slice ad xs.length cap,v]).run P w=.ok r w'/\Heap w' g' (SG++[.row er m' te.ty (xs++ys)])/\Bg w' g' (bs.length+1) (.ref bs.length) r/\Step (kk.toList++rs) bs.length w g w' g':=by
 obtain⟨hdata,hpos⟩:=XC hrow;obtain⟨i,z,hi,hsz,hbi,hz,hzc,_⟩:=hte.info;obtain⟨news,hs,hel,hm2,Awp,Awo⟩:=AhH H hsrc hv htx hkx;have hu:=Bc ht hsl;have hzs:z.cells.size=i.size:=by rw[<-Array.length_toList,hzc,OM,hsz]
 let n:=bs.length
 let f:=kH kk n xs.length m' rs
 obtain ⟨ds,Aqy,Aqz⟩:∃ds,((xs.length=0/\cap=0/\ds=[])\/∃b cur e0,ad=some ⟨b,0,none⟩/\(∃k,kk=some k/\g.own b=.lab k [])/\(w.heap[b]?=some (.cells cur e0 (0,0))/\(er=0\/e0=ti.elem))/\xs.length<=cap/\cap<=maxLen/\cur.size=cap*i.size/\cur.toList.take (xs.length*i.size)=ds) /\
     ((xs=[]/\ds=[])\/∃k,kk=some k/\ku w g.own k m te.ty xs ds):=by
  rcases hold with ⟨rfl,rfl⟩| ⟨k,b,cur,ds,h1,h2,h3,⟨e0,he0,h4⟩,h5,h6,h7,h8,h9⟩
  ·exact⟨[],.inl ⟨rfl,rfl,rfl⟩,.inl ⟨rfl,rfl⟩⟩
  ·exact⟨ds,.inr ⟨b,cur,e0,h2,⟨k,h1,h3⟩,⟨h4,by rcases he0 with h | h;exact .inl h;exact her.imp id λh'=>h.trans h'⟩,h5,h6,by rw[hsz];exact h7,by rw[hsz];exact h8⟩,.inr ⟨k,h1,h9⟩⟩
 obtain⟨ad',cap',w',hrun,hos,hta,hou,hgrow,hres⟩:=kI (P:=P) w t tx ty ti.elem i z hu hi hz hzs (by rw[hsz];exact hpos) Aqy (by rw[hsz];exact hs) (by rw[hbi];exact hby) (by rw[hbi];exact hfit)
 let i':BI:=⟨ad',xs.length+ys.length,cap',te.ty.size⟩
 have lt:∀b,g.own b≠.no->b<w.heap.size:=λb h=>O1 H h;obtain ⟨ob,um,hkeep,hh,hroot⟩:∃ob:Option Nat,(∀q,ob=some q->w.heap.size<=q/\q<w'.heap.size) /\
     (∀q,q<w.heap.size->(∀k p,g.own q=.lab k p->k∉kk.toList++rs)->w'.heap[q]?=w.heap[q]?) /\
     (∀b,(g.own b=.Gr\/∃j r,g.own b=.lab j r/\(kk≠some j\/r≠[]))->w'.heap[b]?=w.heap[b]?) /\
     ((xs++ys=[]/\cap'=0)\/∃b' cur',ad'=some ⟨b',0,none⟩/\TG w' b' er cur'/\xs.length+ys.length<=cap'/\cap'<=maxLen/\cur'.size=cap'*te.ty.size/\cur'.toList.take ((xs.length+ys.length)*te.ty.size)=ds++news/\(g.upd f ob n i').own b'=.lab n []):=by
  rcases hres with ⟨h0,hc0,rfl⟩| ⟨b',cur',e1,h1,⟨h2,he1⟩,h3,h4,h5,h6,h7⟩
  ·refine⟨none,λq h=>by(cases h),λq _ _=>rfl,λb _=>rfl,.inl ⟨?_,hc0⟩⟩;apply List.eq_nil_of_length_eq_zero;rw[Aw0];omega
  ·rw[hsz] at h5 h6;have h2:TG w' b' er cur':=⟨e1,by rcases her with h | h;exact .inl h;exact he1.imp id λh'=>h'.trans h.symm,h2⟩;rcases h7 with ⟨cur,e0,_,⟨k,hk,hown⟩,hb,rfl⟩| ⟨rfl,hlt,hkp⟩
   ·have hne:∀b,(g.own b=.Gr\/∃j r,g.own b=.lab j r/\(kk≠some j\/r≠[]))->b≠b':=λb hq e=>by
      subst e;rcases hq with hq | ⟨j,r,hq,hj⟩
      ·rw[hown] at hq;cases hq
      ·rw[hown] at hq;injection hq with e1 e2;subst e1;subst e2;rcases hj with hj | hj
       ·exact hj hk
       ·exact hj rfl
    refine⟨none,λq h=>by(cases h),iw hown (by simp[hk]),λb hb=>setRow_other w b' b cur' (hne b hb),.inr ⟨b',cur',h1,h2,h3,h4,h5,h6,?_⟩⟩;rw[Ij (by simp) hown];simp[f,kH,hk]
   ·refine⟨some w.heap.size,λq h=>by injection h with h;subst h;exact⟨Aw2 _,hlt⟩,λq hq _=>hkp q hq,λb hb=>hkp b (lt b ?_),.inr ⟨_,cur',h1,h2,h3,h4,h5,h6,by simp[G.upd]⟩⟩;rcases hb with hb | ⟨j,r,hb,_⟩<;>rw[hb]<;>simp
 let g':=g.upd f ob n i'
 have PR:∀b j r,g.own b=.lab j r->g'.own b=f j r:=λb j r h=>Ij (λe=>by
  have h1:=(um b e).1;have h2:=lt b (by rw[h];simp);omega) h
 have Ug:∀b,g.own b=.Gr->g'.own b=.Gr:=λb h=>PY (λe=>by
  have h1:=(um b e).1;have h2:=lt b (by rw[h];simp);omega) h
 have st:Step (kk.toList++rs) n w g w' g':=Step.upd H.fresh hos hta hou hgrow hkeep (λq h=>(um q h).1) (Aw2 _) λj r _ hm=>by
  have h1:kk≠some j:=λe=>hm (by simp[e]);have h2:j∉rs:=λe=>hm (by simp[e]);simp[f,kH,h1,h2]
 have zx:∀j r,j∈m'.ids->f j r=.lab j r:=λj r hj=>by
  have h1:kk≠some j:=λe=>(hkk j e).2.1 hj;simp[f,kH,h1,hoff j hj]
 have hold':∀(k i:Nat) (x:te.ty.V) (c:List Value),kk=some k->xs≠[]->Ri w g.own k m te.ty i x c->Ri w' g'.own n m' te.ty i x c:=by
  intro k i x c hk hne hel;refine hel.on ?_;have hd:=hdp hne;cases m with
  | deep =>
   have:m'=.deep:=hd.1 rfl;subst this;intro b q hb;exact⟨by rw[PR b k _ hb];simp[f,kH,hk],hh b (.inr ⟨k,_,hb,.inr (by simp)⟩)⟩
  | sh ks =>
   cases m' with
   | deep=>have:=hd.2 rfl;cases this
   | sh ks' =>
    intro b hb;rcases hb with hb | ⟨j,hj,r,hb⟩
    ·exact⟨.inl (Ug b hb),hh b (.inl hb)⟩
    ·have hjm:j∈ks':=(Nf j hj).1;exact⟨.inr ⟨j,hjm,r,by rw[PR b j r hb];exact zx j r hjm⟩,hh b (.inr ⟨j,r,hb,.inl λe=>(hkk j e).2.1 hjm⟩)⟩
 have Aqx:∀(i:Nat) (x:te.ty.V) (c:List Value),SJ w g te.ty m2 rs i x c->Ri w' g'.own n m' te.ty (xs.length+i) x c:=by
  intro i x c hel;rcases hel with ⟨hf,rfl⟩| ⟨ks,rfl,hr⟩| ⟨j,hrj,hr⟩
  ·exact(Ri.flat hf).2 rfl
  ·cases m' with
   | deep=>have:=hj.2 rfl;cases this
   | sh ks' =>
    refine FL.mono (λb hb=>?_) hr;rcases hb with hb | ⟨j,hjk,r,hb⟩
    ·exact⟨.inl (Ug b hb),hh b (.inl hb)⟩
    ·have hjm:j∈ks':=hj.1 j hjk;exact⟨.inr ⟨j,hjm,r,by rw[PR b j r hb];exact zx j r hjm⟩,hh b (.inr ⟨j,r,hb,.inl λe=>(hkk j e).2.1 hjm⟩)⟩
  ·have hjk:kk≠some j:=λe=>(hkk j e).1 (by simp[hrj]);have hjr:j∈rs:=by simp[hrj]
   refine hr.on ?_;cases m2 with
   | deep =>
    cases m' with
    | deep =>
     intro b q hb;refine⟨?_,hh b (.inr ⟨j,_,hb,.inl hjk⟩)⟩;rw[PR b j _ hb];simp only[f,kH,if_neg hjk,if_pos hjr,VU]
    | sh ks' =>
     intro b q hb;exact⟨.inl (by rw[PR b j _ hb];simp only[f,kH,if_neg hjk,if_pos hjr]),hh b (.inr ⟨j,_,hb,.inl hjk⟩)⟩
   | sh ks =>
    cases m' with
    | deep=>have:=hj.2 rfl;cases this
    | sh ks' =>
     intro b hb;rcases hb with hb | ⟨j',AsF,r,hb⟩
     ·exact⟨.inl (Ug b hb),hh b (.inl hb)⟩
     ·have hjm:j'∈ks':=hj.1 j' AsF;exact⟨.inr ⟨j',hjm,r,by rw[PR b j' r hb];exact zx j' r hjm⟩,hh b (.inr ⟨j',r,hb,.inl λe=>(hkk j' e).2.1 hjm⟩)⟩
 have Px:g'.at_ n=i':=by simp[g',G.upd]
 refine⟨_,w',g',hrun,H.turn st (Nn H.fresh hgrow λq h=>(um q h).2) (by simp[Ahg]) λj x hj'=>?_,?_,st⟩
 ·rw[List.getElem?_append] at hj';split at hj'
  ·rcases hget j x hj' with h | h
   ·exact .inl h
   ·exact .inr (.inl h)
  ·rename_i hlen;rw[Ahg] at hj' hlen;have hj0:j-bs.length=0:=by
    rcases Nat.eq_zero_or_pos (j-bs.length) with h | h
    ·exact h
    ·rw[List.getElem?_eq_none (by simp;omega)] at hj';cases hj'
   rw[hj0] at hj';obtain rfl:j=n:=by simp only[n];omega
   simp only[List.getElem?_cons_zero,AwY] at hj';subst hj';refine .inr (.inr ⟨λj hj=>by have:=AsI j hj;simp[Ahg];omega,by rw[Px,Aw0],by rw[Px],hpos,?_⟩);rw[Px,Aw0];refine hroot.imp id λ⟨b',cur',h1,h2,h3,h4,h5,h6,h7⟩=>⟨b',cur',_,h1,h7,h2,h3,h4,h5,h6,?_⟩;rw[Le];refine AZ.append ?_ ?_
   ·rcases Aqz with ⟨rfl,rfl⟩| ⟨k,hk,hcon⟩
    ·rfl
    ·rcases Classical.em (xs=[]) with hx | hx
     ·subst hx;have:ds=[]:=by cases m<;>exact hcon
      subst this;rfl
     ·exact(Le.1 hcon).mono λi x c h=>hold' k i x c hk hx h
   ·rw[Nat.zero_add];have shift:∀(ys:List te.ty.V) (cs:List Value) (a b:Nat),AZ (SJ w g te.ty m2 rs) a ys cs->AZ (Ri w' g'.own n m' te.ty) (xs.length+a) ys cs:=by
     intro ys;induction ys with
     | nil=>exact λcs a _ h=>h
     | cons y ys ih =>
      intro cs a b ⟨c,d,e,h1,h2⟩;exact⟨c,d,e,Aqx a y c h1,ih d (a+1) b h2⟩
    exact shift ys news 0 0 hel
 ·refine A7 (cs:=[_]) rfl ⟨Nat.lt_succ_self _,rfl⟩ ?_;have:g'.at_ bs.length=i':=Px;simp[A3,AV.isAgg,this,i']
end
end Go.Va
