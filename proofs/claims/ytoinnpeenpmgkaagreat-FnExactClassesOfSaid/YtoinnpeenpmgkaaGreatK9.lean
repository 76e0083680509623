import Derived.Test.YtoinnpeenpmgkaaGreatK8
set_option linter.unusedVariables false
set_option linter.unusedSimpArgs false
namespace Go.Proofs.X
open Go Go.Va
set_option maxRecDepth 100000
theorem qe{d:ALC}:∀(fs:AL7 Sg) (f:Nat->Nat->Bool),(∀x∈fs,Uo d x)->Pz f (fs.foldl YF f)/\(∀x∈fs,QR d (od d (fs.foldl YF f)) x)/\∀h,(∀x∈fs,QR d h x)->Pz (od d f) h->Pz (od d (fs.foldl YF f)) h
 |[],f,_=>⟨λ_ _ h=>h,λx hx=>(by cases hx),λ_ _ h=>h⟩
 |x::fs,f,FA=>by
  obtain⟨i1,i2,i3⟩:=qe fs (YF f x) λy hy=>FA y (AJq _ hy);have k1:Pz f (YF f x):=by
   cases x with
   |co b=>exact λ_ _ h=>h
   |va v l n=>exact λu q h=>EH.2 (.inl (EH.2 (.inl h)))
  refine⟨λu q h=>i1 u q (k1 u q h),λy hy=>?_,λh hh hs=>i3 h (λy hy=>hh y (AJq _ hy)) ?_⟩
  ·rcases List.mem_cons.1 hy with rfl |hy
   ·cases y with
    |co b=>trivial
    |va v l n =>
     have hv:=(FA _ AJt).1;exact⟨λh1 h2=>Oc.2 ⟨⟨hv,h1,h2⟩,i1 v l (EH.2 (.inl (EH.2 (.inr ⟨rfl,rfl⟩))))⟩,λh1 h2=>Oc.2 ⟨⟨hv,h1,h2⟩,i1 v (l+n) (EH.2 (.inr ⟨rfl,rfl⟩))⟩⟩
   ·exact i2 y hy
  ·have hx:=hh x AJt;cases x with
   |co b=>exact hs
   |va v l n =>
    intro u q hq;obtain⟨hr,hq⟩:=Oc.1 hq;rcases EH.1 hq with hq |⟨rfl,rfl⟩
    ·rcases EH.1 hq with hq |⟨rfl,rfl⟩
     ·exact hs u q (Oc.2 ⟨hr,hq⟩)
     ·exact hx.1 hr.2.1 hr.2.2
    ·exact hx.2 hr.2.1 hr.2.2
theorem xq{A B:Type}(f:Nat->Nat->A)(g:A->B)(n:Nat):(cH f n).map g=cH (λi s=>g (f i s)) n:=by
 unfold cH;rw[List.map_flatMap];rfl
theorem dQ{A:Type}{f:Nat->Nat->A}{n:Nat}{x:A}:x∈cH f n↔∃i,i<n/\(x=f i 0\/x=f i 1):=by
 unfold cH;rw[List.mem_flatMap];simp
theorem sd0(d:ALC)(l:ALF)(i:Nat):sd d l i 0=b1 d l i:=rfl
theorem sd1(d:ALC)(l:ALF)(i:Nat):sd d l i 1=b2 d l i:=rfl
theorem AxH{d:ALC}{l:ALF}(hd:AL d)(hl:∀x∈l,Uk x)(hp:RD d l)(hs:Hb d l):WH d l where
 hd:=hd
 len:=hp.1
 zQ i s hi:=by
  obtain⟨h1,h2,_⟩:=UM hd hl hp hs hi;unfold sd;split
  ·exact h1
  ·exact h2
 bB i hi:=(UM hd hl hp hs hi).2.2.1
theorem Apl{d:ALC}{l:ALF}(H:WH d l){f:Nat->Nat->Bool}(h:aj d l f l.length){i:Nat}(hi:i<l.length):SP (b1 d l i) (b2 d l i) (od d f):=by
 intro p YN b7;have e:=H.bB i hi;rw[sd0,sd1]at e;obtain⟨c0,c1⟩:=h i hi p YN b7;have hA:Bj d (b1 d l i):=H.zQ i 0 hi;have hB:Bj d (b2 d l i):=H.zQ i 1 hi;rw[tL hA b7,tL hB (by omega)];have c0:aQ (b1 d l i) (b2 d l i) f p=false:=c0;have c1:aQ (b2 d l i) (b1 d l i) f p=false:=c1;unfold aQ at c0 c1;constructor
 ·intro h1 h2;rw[h1,h2]at c0;simpa using c0
 ·intro h1 h2;rw[h1,h2]at c1;simpa using c1
theorem ou{d:ALC}{l:ALF}{c:ALK}(hc:Uj c)(hl:∀x∈l,Uk x):Aw (EL d l (c,())) λr =>
    (r=(([],()),false)/\¬(AL d/\ED d c/\RD d l/\Hb d l))\/(AL d/\ED d c/\RD d l/\Hb d l/\∃f,r=((AX d f,()),true)/\dX d l c f):=by
 unfold EL K3;obtain⟨r1,e1,q1⟩:=UN (d:=d) hc;rw[e1,AIY];cases r1 with
 |false=>exact Aw.mk (.inl ⟨rfl,λh=>by have:=q1.2 ⟨h.1,h.2.1⟩;cases this⟩)
 |true =>
  obtain⟨hd,iz⟩:=q1.1 rfl;obtain⟨r2,e2,q2⟩:=cB (d:=d) hl;simp only[AJH,AJd,e2,AIY];cases r2 with
  |false=>exact Aw.mk (.inl ⟨rfl,λh=>by have:=q2.2 ⟨h.1,h.2.2.1⟩;cases this⟩)
  |true =>
   have YK:=(q2.1 rfl).2;simp only[AJH,AJd];rw[Z5 hd iz hc,AIY];unfold Tg;obtain⟨r3,e3,q3⟩:=jv hd hl YK.1;rw[e3,AIY];rcases q3 with ⟨f1,hs,f2⟩|⟨f1,hs⟩
   ·rw[f1,f2];simp only[AJH,AJd];have H:=AxH hd hl YK hs;have ef:cH (λi s=>(F5 d (if s=0 then lS l i else lT l i)).2) l.length=(cH (sd d l) l.length).map fN:=by
     rw[xq];unfold cH;rw[List.flatMap_def,List.flatMap_def];congr 1;refine AJQ λi hi=>?_;obtain⟨_,_,_,_,a1,a2⟩:=UM hd hl YK hs (List.mem_range.1 hi);simp only[AJK,show ¬(1:Nat)=0 by omega,AKv,a1,a2];rfl
    have hbs:∀B∈cH (sd d l) l.length,Bj d B:=λB hB=>by
     obtain⟨i,hi,h |h⟩:=dQ.1 hB
     ·rw[h];exact H.zQ i 0 hi
     ·rw[h];exact H.zQ i 1 hi
    have es:(cH (sd d l) l.length).map Yp=VJ d l:=xq _ _ _;have hln:=YK.1;rw[ef,AeK hd hbs (by rw[UO];omega),AIY,es];have qO:∀x∈(cH (sd d l) l.length).flatMap Av,Uo d x:=λx hx=>by
     obtain⟨B,hB,hx⟩:=List.mem_flatMap.1 hx;exact(Xn (hbs B hB) hx).1
    obtain⟨i1,i2,i3⟩:=qe _ (C0 c) qO;obtain⟨r4,e4,f,rfl,j1,j2,j3⟩:=zr H (((cH (sd d l) l.length).flatMap Av).foldl YF (C0 c));simp only[e4,AIY,AJH,AJd];rw[js hd,AIY];have eo:AX d f=AX d (od d f):=mq λv p hv hp h1=>by simp[od,hv,hp,h1]
    have YL:∀{i:Nat} {x:Sg},i<l.length->x∈Av (b1 d l i)++Av (b2 d l i)->x∈(cH (sd d l) l.length).flatMap Av:=λ{i x} hi hx=>by
     rcases List.mem_append.1 hx with hx |hx
     ·exact List.mem_flatMap.2 ⟨_,dQ.2 ⟨i,hi,.inl rfl⟩,hx⟩
     ·exact List.mem_flatMap.2 ⟨_,dQ.2 ⟨i,hi,.inr rfl⟩,hx⟩
    refine Aw.mk (.inr ⟨hd,iz,YK,hs,od d f,by rw[eo],⟨λv p h=>Oc.2 ⟨sK hd iz h,j1 v p (i1 v p h)⟩,λv p h=>(Oc.1 h).1,λi hi=>⟨λx hx=>?_,Apl H j2 hi⟩,λh hh F6=>j3 h hh (i3 h (λx hx=>?_) λu q hq=>F6 u q (Oc.1 hq).2)⟩⟩)
    ·have:=i2 x (YL hi hx);have Ug:Pz (od d (((cH (sd d l) l.length).flatMap Av).foldl YF (C0 c))) (od d f):=λu q hq=>Oc.2 ⟨(Oc.1 hq).1,j1 u q (Oc.1 hq).2⟩;cases x with
     |co b=>trivial
     |va v a n=>exact⟨this.1.mono Ug,this.2.mono Ug⟩
    ·obtain⟨B,hB,hx⟩:=List.mem_flatMap.1 hx;obtain⟨i,hi,e |e⟩:=dQ.1 hB
     ·exact(hh i hi).1 x (AJw _ (by rw[e]at hx;exact hx))
     ·exact(hh i hi).1 x (AJx _ (by rw[e]at hx;exact hx))
   ·simp only[f1,AKT,AJe,AIY];exact Aw.mk (.inl ⟨rfl,λh=>hs h.2.2.2⟩)
theorem pW{d:ALC}{l:ALF}{c:ALK}(hc:Uj c)(hl:∀x∈l,Uk x):Aw (EL d l (c,())) λr=>IW d l (c,())=some (r.2,r.1.1) /\
    ((r=(([],()),false)/\¬(AL d/\ED d c/\RD d l/\Hb d l))\/(AL d/\ED d c/\RD d l/\Hb d l/\∃f,r=((AX d f,()),true)/\dX d l c f)):=by
 obtain⟨r1,e1,q1⟩:=ou (d:=d) hc hl;obtain⟨r2,e2,q2⟩:=nj (d:=d) hc hl;refine Aw.of e1 ⟨?_,q1⟩;rw[e2];rcases q1 with ⟨rfl,n1⟩|⟨a1,a2,a3,a4,f,rfl,hf⟩<;>rcases q2 with ⟨rfl,n2⟩|⟨b1,b2,b3,b4,g,rfl,hg⟩
 ·rfl
 ·exact(n1 ⟨b1,b2,b3,b4⟩).elim
 ·exact(n2 ⟨a1,a2,a3,a4⟩).elim
 ·rw[hf.unique hg]
theorem Y3{R:Int->Int->Prop}(hR:∀a b,R a b->a<b):∀{l m:ALx},l.Pairwise R->m.Pairwise R->(∀x,x∈l↔x∈m)->l=m
 |[],[],_,_,_=>rfl
 |[],y::m,_,_,h=>by have:=(h y).2 AJt;cases this
 |x::l,[],_,_,h=>by have:=(h x).1 AJt;cases this
 |x::l,y::m,hl,hm,h=>by
  rw[List.pairwise_cons]at hl hm;have e:x=y:=by
   rcases List.mem_cons.1 ((h x).1 AJt)with e |e
   ·exact e
   ·rcases List.mem_cons.1 ((h y).2 AJt)with e' |e'
    ·exact e'.symm
    ·have:=hR _ _ (hm.1 x e);have:=hR _ _ (hl.1 y e');omega
  subst e;congr 1;refine Y3 hR hl.2 hm.2 λz=>⟨λhz=>?_,λhz=>?_⟩
  ·rcases List.mem_cons.1 ((h z).1 (AJq _ hz))with e |e
   ·have:=hR _ _ (hl.1 z hz);omega
   ·exact e
  ·rcases List.mem_cons.1 ((h z).2 (AJq _ hz))with e |e
   ·have:=hR _ _ (hm.1 z hz);omega
   ·exact e
theorem gF(w:Nat)(f:Nat->Bool):(AZ w f).Pairwise (·<·):=by
 unfold AZ;rw[List.pairwise_map];refine(List.pairwise_lt_range (n:=w)).filter _ |>.imp λ{a b} h=>?_;show(a:Int)<(b:Int);omega
theorem Xl{w:Nat}{f:Nat->Bool}{x:Int}:x∈AZ w f↔∃p:Nat,x=(p:Int)/\1<=p/\p<w/\f p=true:=by
 unfold AZ;rw[List.mem_map];constructor
 ·rintro⟨p,hp,rfl⟩
  rw[List.mem_filter]at hp;obtain⟨h1,h2⟩:=hp;simp at h1 h2;exact⟨p,rfl,h2.1,h1,h2.2⟩
 ·rintro⟨p,rfl,h1,h2,h3⟩
  exact⟨p,List.mem_filter.2 ⟨List.mem_range.2 h2,by simp[h1,h3]⟩,rfl⟩
def fI(c:ALK)(k:Nat):Nat:=((List.range k).map λv=>(CB c v).length).sum
theorem j8(c:ALK)(k:Nat):fI c (k+1)=fI c k+(CB c k).length:=by
 unfold fI;rw[AKf,AJJ,AKx];simp
theorem wC{c:ALK}(hb:∀v,(CB c v).length<=1048576):∀k,fI c k<=1048576*k
 |0=>by simp[fI]
 |k+1=>by rw[j8];have:=wC hb k;have:=hb k;omega
theorem ow{d:ALC}{c:ALK}(hd:AL d)(hc:ED d c)(hb:Uj c):Rc d (c,())=some ((d.length+fI c d.length:Nat):Int):=by
 unfold Rc;obtain⟨r,hr,hq⟩:=UN (d:=d) hb;have iQ:=hd.1;rw[hr,AIY,hq.2 ⟨hd,hc⟩,AJH,AJd];have:Rz (c,()) (d.length:Int) 0=some ((d.length+fI c d.length:Nat):Int):=by
  unfold Rz;have:=AU (f:=Ho (c,())) (λk=>(((d.length+fI c k:Nat):Int),(k:Int))) (t:=((d.length+fI c d.length:Nat):Int)) d.length (λk hk=>?_) ?_
  ·exact this
  ·unfold Ho Og;have e1:(c.getD k ALT.zero)=CB c k:=rfl;have h1:=wC hb.row k;have h2:=hb.row k;simp only[AIZ,e1];rw[hc.1,Dl hk,AJe,AJg (Bf hk),Bc hk (by omega),j8];rw[A4 (x:=((d.length+fI c k:Nat):Int)+((CB c k).length:Int)) (n:=d.length+(fI c k+(CB c k).length)) (by omega) (by omega)]
  ·unfold Ho Og;simp only;rw[hc.1,D1,AJd]
 rw[this];rfl
theorem jQ{d:ALC}{f:Nat->Nat->Bool}{v:Nat}(hv:v<d.length):CB (AX d f) v=AZ (W d v) (f v):=by unfold CB AX;exact JR hv
theorem WY{d:ALC}(hd:AL d)(f:Nat->Nat->Bool):ED d (AX d f)/\Uj (AX d f):=by
 have iQ:=hd.1;refine⟨⟨by simp[AX],λv hv=>?_⟩,by simp[AX];omega,λx hx=>?_⟩
 ·rw[jQ hv];obtain⟨e0,cW,cX⟩:=QB hd hv;intro i hi;have hg:∀j,j<(AZ (W d v) (f v)).length->Ip (AZ (W d v) (f v)) j=(AZ (W d v) (f v))[j]!:=λj hj=>by simp[Ip,List.getD,hj]
  have hm:Ip (AZ (W d v) (f v)) i∈AZ (W d v) (f v):=by unfold Ip;exact AE hi
  obtain⟨p,e,h1,h2,_⟩:=Xl.1 hm;refine⟨by omega,by omega,λh0=>?_⟩;have:=(List.pairwise_iff_getElem.1 (gF (W d v) (f v))) (i-1) i (by omega) hi (by omega);have e1:Ip (AZ (W d v) (f v)) (i-1)=(AZ (W d v) (f v))[i-1]'(by omega):=by simp[Ip,List.getD,show i-1<(AZ (W d v) (f v)).length by omega]
  have e2:Ip (AZ (W d v) (f v)) i=(AZ (W d v) (f v))[i]:=by simp[Ip,List.getD,hi]
  rw[e1,e2];exact this
 ·obtain⟨v,hv,rfl⟩:=List.mem_map.1 hx;have h1:=UH (W d v) (f v);have:=(QB hd (List.mem_range.1 hv)).2.2;omega
def Wa(v:Nat):Int->ALx->ALB
 |_,[]=>[]
 |low,p::r=>((v:Int),low,p-low,())::Wa v p r
def FF(low:Int)(l:ALx):Int:=l.getLastD low
theorem bz(v:Nat):∀(l:ALx) (low p:Int),Wa v low (l++[p])=Wa v low l++[((v:Int),FF low l,p-FF low l,())]
 |[],low,p=>rfl
 |x::l,low,p=>by
  have e:FF low (x::l)=FF x l:=by cases l<;>rfl
  rw[e];show _::Wa v x (l++[p])=_;rw[bz v l x p];rfl
theorem Z1(v:Nat):∀(l:ALx) (low:Int),(Wa v low l).length=l.length
 |[],_=>rfl
 |_::l,_=>by simp[Wa,Z1 v l]
theorem OM{l:ALx}{i:Nat}(hi:i<l.length)(low:Int):FF low (l.take (i+1))=Ip l i:=by
 rw[AW (z:=(0:Int)) hi];unfold FF Ip;simp
def Cd(d:ALC)(c:ALK)(v:Nat):ALx:=CB c v++[dw d v]
def SL(d:ALC)(c:ALK)(n:Nat):ALB:=(List.range n).flatMap λv=>Wa v 0 (Cd d c v)
theorem vz(d:ALC)(c:ALK)(n:Nat):SL d c (n+1)=SL d c n++Wa n 0 (Cd d c n):=by
 unfold SL;rw[AKf,AKb];simp
theorem PG{d:ALC}{c:ALK}{v i:Nat}(hi:i<=(CB c v).length):Ip (Cd d c v) i=if i<(CB c v).length then Ip (CB c v) i else dw d v:=by
 unfold Cd Ip;simp only[List.getD];split
 ·rename_i h;rw[AJl h]
 ·have:i=(CB c v).length:=by omega
  subst this;simp
section
variable {d:ALC} {c:ALK}
theorem dx(hd:AL d)(hc:ED d c){v:Nat}(hv:v<d.length){i:Nat}(hi:i<(Cd d c v).length):1<=Ip (Cd d c v) i/\Ip (Cd d c v) i<=4096:=by
 obtain⟨e0,cW,cX⟩:=QB hd hv;have hl:i<=(CB c v).length:=by unfold Cd at hi;simp at hi;omega
 rw[PG hl];split
 ·rename_i h;have:=hc.2 v hv i h;exact⟨this.1,by have:=this.2.1;omega⟩
 ·omega
theorem nJ(hd:AL d)(hc:ED d c){v:Nat}(hv:v<d.length)(i:Nat)(hi:i<=(Cd d c v).length):0<=FF 0 ((Cd d c v).take i)/\FF 0 ((Cd d c v).take i)<=4096:=by
 match i with
 |0=>exact⟨by simp[FF],by simp[FF]⟩
 |i+1 =>
  rw[OM (by omega)];have:=dx hd hc hv (i:=i) (by omega);omega
theorem dZ(hd:AL d)(hc:ED d c):∀n,n<=d.length->(SL d c n).length<=4097*n:=λn hn=>VY λv hv=>by
 obtain⟨e0,cW,cX⟩:=QB hd (show v<d.length by omega);have:=UK (hc.2 v (by omega)) (by omega);rw[Z1];unfold Cd;simp;omega
theorem ja(hd:AL d)(hc:ED d c)(hb:Uj c):NA d (c,())=some (SL d c d.length):=by
 unfold NA;have iQ:=hd.1;have:Mj d c (c.length:Int) 0 []=some (SL d c d.length):=by
  unfold Mj;rw[hc.1];have:=AU (f:=Ee d c (d.length:Int)) (λv=>((v:Int),SL d c v)) (t:=SL d c d.length) d.length (λv hv=>?_) ?_
  ·exact this
  ·unfold Ee JA;obtain⟨e0,cW,cX⟩:=QB hd hv;have e1:(c.getD v ALT.zero)=CB c v:=rfl;have e2:(d.getD v Ad.zero).2.1=dw d v:=rfl;have hr:=UK (hc.2 v hv) (by omega);have IR:=dZ hd hc v (by omega);simp only[AIZ,e1];rw[Dl hv,AJe,AJg (Bf (by rw[hc.1];exact hv))];have e3:I2 d (v:Int) c (d.length:Int) (SL d c v) (CB c v)=some (Cd d c v,((Cd d c v).length:Int)):=by
    unfold I2;simp only[AIZ,e2];rw[AJg (by omega),AJg (Bf hv),AJg (by simp;omega)];rfl
   rw[e3,AIY];simp only;have Tx:(Cd d c v).length<=4097:=by unfold Cd;simp;omega
   have e4:Mi d (v:Int) c (d.length:Int) (Cd d c v) ((Cd d c v).length:Int) 0 0 (SL d c v)=some (SL d c (v+1)):=by
    unfold Mi;have:=AU (f:=Ec d (v:Int) c (d.length:Int) (Cd d c v) ((Cd d c v).length:Int)) (λi=>(FF 0 ((Cd d c v).take i),(i:Int),SL d c v++Wa v 0 ((Cd d c v).take i))) (t:=SL d c (v+1)) (Cd d c v).length (λi hi=>?_) ?_
    ·rw[show SL d c v=SL d c v++Wa v 0 ((Cd d c v).take 0) by simp[Wa]];exact this
    ·unfold Ec Jz;have e5:(Cd d c v).getD i ALP.zero=Ip (Cd d c v) i:=rfl;have hbd:=dx hd hc hv hi;have oY:=nJ hd hc hv i (by omega);have hrl:(Wa v 0 ((Cd d c v).take i)).length<=4097:=by rw[Z1,AJj];omega
     simp only[AIZ,e5];rw[Dl hi,AJe,AJg (Bf hi),AJg (by simp only[AI2,AJL,List.length_nil];omega),Bc hi (by omega),BO (x:=Ip (Cd d c v) i-FF 0 ((Cd d c v).take i)) (by omega) (by omega),OM hi,AW (z:=(0:Int)) hi,bz,AI6];rfl
    ·unfold Ec Jz;simp only;rw[D1,AJd,AI8 (AI4 _),vz]
   rw[e4,AIY,Bc hv (by omega)]
  ·unfold Ee JA;simp only;rw[D1,AJd]
 rw[this];rfl
theorem U8(hd:AL d)(hc:ED d c)(hb:Uj c):Ii d (c,())=some (SL d c d.length):=by
 unfold Ii;have iQ:=hd.1;obtain⟨r,hr,hq⟩:=UN (d:=d) hb;rw[hr,AIY,hq.2 ⟨hd,hc⟩,AJH,AJd];have:Mz d (c,()) 0 []=some (SL d c d.length):=by
  unfold Mz;have:=AU (f:=Eh d (c,())) (λv=>((v:Int),SL d c v)) (t:=SL d c d.length) d.length (λv hv=>?_) ?_
  ·exact this
  ·unfold Eh J0;obtain⟨e0,cW,cX⟩:=QB hd hv;have hr:=UK (hc.2 v hv) (by omega);have IR:=dZ hd hc v (by omega);have Tx:(Cd d c v).length=(CB c v).length+1:=by unfold Cd;simp
   simp only;rw[Dl hv,AJe];have e4:My d (v:Int) (c,()) 0 0 (SL d c v)=some (SL d c (v+1)):=by
    unfold My;have:=AU (f:=Eg d (v:Int) (c,())) (λi=>(FF 0 ((Cd d c v).take i),(i:Int),SL d c v++Wa v 0 ((Cd d c v).take i))) (t:=SL d c (v+1)) (Cd d c v).length (λi hi=>?_) ?_
    ·rw[show SL d c v=SL d c v++Wa v 0 ((Cd d c v).take 0) by simp[Wa]];exact this
    ·unfold Eg JZ;have e1:(c.getD v ALT.zero)=CB c v:=rfl;have e2:(d.getD v Ad.zero).2.1=dw d v:=rfl;have hbd:=dx hd hc hv hi;have oY:=nJ hd hc hv i (by omega);have hrl:(Wa v 0 ((Cd d c v).take i)).length<=4097:=by rw[Z1,AJj];omega
     simp only[AIZ,e1,e2];rw[AJg (Bf (by rw[hc.1];exact hv)),show decide ((i:Int)<=((CB c v).length:Int))=true from AI3 (by omega),AJe,AJg (Bf hv)];have e6:Jc d (v:Int) (FF 0 ((Cd d c v).take i)) (i:Int) (c,()) (SL d c v++Wa v 0 ((Cd d c v).take i)) (dw d v)=some (Ip (Cd d c v) i):=by
      unfold Jc;have e3:(CB c v).getD i ALP.zero=Ip (CB c v) i:=rfl;simp only[AIZ,e1,e3];rw[AJg (Bf (by rw[hc.1];exact hv)),PG (by omega)];by_cases h:i<(CB c v).length
      ·rw[Dl h,AJe,AJg (Bf (by rw[hc.1];exact hv)),AJg (Bf h),AJg h]
      ·rw[AI1 (by omega),AJd,AJh h]
     rw[e6,AIY,AJg (by simp only[AI2,AJL,List.length_nil];omega),Bc hi (by omega),BO (x:=Ip (Cd d c v) i-FF 0 ((Cd d c v).take i)) (by omega) (by omega),OM hi,AW (z:=(0:Int)) hi,bz,AI6];rfl
    ·unfold Eg JZ;have e1:(c.getD v ALT.zero)=CB c v:=rfl;simp only[AIZ,e1];rw[AJg (Bf (by rw[hc.1];exact hv)),Tx,show decide ((((CB c v).length+1:Nat):Int)<=((CB c v).length:Int))=false from AI1 (by omega),AJd,<-Tx,AI8 (AI4 _),vz]
   rw[e4,AIY,Bc hv (by omega)]
  ·unfold Eh J0;simp only;rw[D1,AJd]
 rw[this];rfl
end
def slc(L:ALB)(i:Nat):ALl:=L.getD i Ab.zero
def bF(L:ALB)(i:Nat):ALk:=((slc L i).1,(slc L i).2.1,())
def GI(L:ALB)(k:ALk):Nat->AL8 Nat
 |0=>none
 |n+1=>bif A7 Aa k (bF L n)then some n else GI L k n
theorem cj(L:ALB)(k:ALk)(n:Nat):GI L k (n+1)=bif A7 Aa k (bF L n)then some n else GI L k n:=rfl
theorem Xg{L:ALB}{k:ALk}:∀{N n:Nat},GI L k N=some n->n<N/\bF L n=k
 |N+1,n,h=>by
  unfold GI at h;cases hk:A7 Aa k (bF L N)with
  |true =>
   rw[hk,AJe]at h;injection h with h;subst h;exact⟨AJE _,((db _ _).1 hk).symm⟩
  |false =>
   rw[hk,AJd]at h;obtain⟨h1,h2⟩:=Xg h;exact⟨by omega,h2⟩
theorem cg{L:ALB}{k:ALk}:∀{N m:Nat},m<N->bF L m=k->∃n,GI L k N=some n
 |N+1,m,hm,h=>by
  unfold GI;cases hk:A7 Aa k (bF L N)with
  |true=>exact⟨N,rfl⟩
  |false =>
   rcases AI9 m N with h' |h'
   ·obtain⟨n,hn⟩:=cg h' h;exact⟨n,hn⟩
   ·have:m=N:=by omega
    subst this;rw[<-h,(db _ _).2 rfl]at hk;cases hk
abbrev FM:Type:=List (ALk×Int)
def dA(L:ALB):Nat->FM
 |0=>[]
 |n+1=>BV Aa ALP (dA L n) (bF L n) (n:Int)
theorem wz(L:ALB)(k:ALk):∀n,NI Aa ALP (dA L n) k=(GI L k n).map Int.ofNat
 |0=>rfl
 |n+1=>by
  unfold dA GI;rw[V6 db,wz L k n];cases A7 Aa k (bF L n)<;>rfl
theorem yh{L:ALB}(hL:L.length<=1048576):Nw L=some (dA L L.length):=by
 unfold Nw;have:Mb L (L.length:Int) 0 []=some (dA L L.length):=by
  unfold Mb;have:=AU (f:=D6 L (L.length:Int)) (λi=>((i:Int),dA L i)) (t:=dA L L.length) L.length (λi hi=>?_) ?_
  ·exact this
  ·unfold D6 Ju;simp only[AIZ];rw[Dl hi,AJe,AJg (Bf hi),Bc hi hL];rfl
  ·unfold D6 Ju;simp only;rw[D1,AJd]
 rw[this];rfl
theorem Z2{v:Nat}:∀{l:ALx} {low:Int} {x:ALl},x∈Wa v low l↔∃j,j<l.length/\x=((v:Int),FF low (l.take j),Ip l j-FF low (l.take j),())
 |[],low,x=>by simp[Wa]
 |p::l,low,x=>by
  have e:∀j,FF low ((p::l).take (j+1))=FF p (l.take j):=λj=>by
   rw[List.take_succ_cons];cases l.take j<;>rfl
  constructor
  ·intro h;rcases List.mem_cons.1 h with h |h
   ·exact⟨0,by simp,h⟩
   ·obtain⟨j,hj,rfl⟩:=Z2.1 h;refine⟨j+1,by simpa using hj,?_⟩;rw[e];rfl
  ·rintro⟨j,hj,rfl⟩
   match j with
   |0=>exact AJt
   |j+1 =>
    rw[e];exact AJq _ (Z2.2 ⟨j,by simpa using hj,rfl⟩)
section
variable {d:ALC} {c:ALK}
theorem tf{x:ALl}:x∈SL d c d.length↔∃v j,v<d.length/\j<(Cd d c v).length/\x=((v:Int),FF 0 ((Cd d c v).take j),Ip (Cd d c v) j-FF 0 ((Cd d c v).take j),()):=by
 unfold SL;rw[List.mem_flatMap];constructor
 ·rintro⟨v,hv,hx⟩
  obtain⟨j,hj,e⟩:=Z2.1 hx;exact⟨v,j,List.mem_range.1 hv,hj,e⟩
 ·rintro⟨v,j,hv,hj,e⟩
  exact⟨v,List.mem_range.2 hv,Z2.2 ⟨j,hj,e⟩⟩
theorem dy(_hd:AL d)(hc:ED d c){v:Nat}(hv:v<d.length){i j:Nat}(hij:i<j)(hj:j<(Cd d c v).length):Ip (Cd d c v) i<Ip (Cd d c v) j:=by
 have hl:j<=(CB c v).length:=by unfold Cd at hj;simp at hj;omega
 have hp:=hc.2 v hv;rw[PG hl,PG (by omega),AJg (by omega)];split
 ·rename_i h;exact uM hp hij h
 ·have:=(hp i (by omega)).2.1;omega
theorem AdS(hd:AL d)(hc:ED d c){v a e j:Nat}(hv:v<d.length)(hj:j<(Cd d c v).length)(ha:FF 0 ((Cd d c v).take j)=(a:Int))(hae:a<e)(he:e=W d v\/e<W d v/\C0 c v e=true)(X6:∀q,a<q->q<e->C0 c v q=false):Ip (Cd d c v) j=(e:Int):=by
 obtain⟨e0,cW,cX⟩:=QB hd hv;have Tx:(Cd d c v).length=(CB c v).length+1:=by unfold Cd;simp
 have BH:∃j',j'<(Cd d c v).length/\Ip (Cd d c v) j'=(e:Int):=by
  rcases he with rfl |⟨_,h⟩
  ·exact⟨(CB c v).length,by omega,by rw[PG (AI4 _),AJh (by omega),e0]⟩
  ·have hm:(e:Int)∈CB c v:=by simpa [C0]using h
   obtain⟨i,hi,hx⟩:=AKg hm;exact⟨i,by omega,by rw[PG (by omega),AJg hi,<-hx];simp[Ip,List.getD,hi]⟩
 obtain⟨j',QW,hje⟩:=BH;have qH:(a:Int)<Ip (Cd d c v) j:=by
  match j with
  |0 =>
   have:a=0:=by simp[FF]at ha;omega
   have:=(dx hd hc hv hj).1;omega
  |i+1 =>
   rw[OM (by omega)]at ha;rw[<-ha];exact dy hd hc hv (by omega) hj
 have hjj:j<=j':=by
  refine Classical.byContradiction λhn=>?_
  match j with
  |0=>omega
  |i+1 =>
   rw[OM (by omega)]at ha;rcases AI9 j' i with h |h
   ·have:=dy hd hc hv h (by omega);omega
   ·have:j'=i:=by omega
    rw[this]at hje;omega
 rcases AI9 j j' with h |h
 ·exfalso
  have Bh:=dy hd hc hv h QW;rw[PG (by omega)]at qH Bh;by_cases hc':j<(CB c v).length
  ·rw[AJg hc']at qH Bh;have hm:Ip (CB c v) j∈CB c v:=by unfold Ip;exact AE hc'
   have hb:=dN (hc.2 v hv) hm;have:=X6 (Ip (CB c v) j).toNat (by omega) (by omega);simp only[C0]at this;rw[show(((Ip (CB c v) j).toNat:Nat):Int)=Ip (CB c v) j by omega]at this;simp[hm]at this
  ·omega
 ·have:j=j':=by omega
  rw[this];exact hje
theorem Aeo(hd:AL d)(hc:ED d c){v a e:Nat}(hv:v<d.length)(h0:a=0\/C0 c v a=true)(hae:a<e)(he:e=W d v\/e<W d v/\C0 c v e=true)(X6:∀q,a<q->q<e->C0 c v q=false) :
    ∃n,GI (SL d c d.length) (nk v a) (SL d c d.length).length=some n/\n<(SL d c d.length).length/\(slc (SL d c d.length) n).2.2.1=((e-a:Nat):Int):=by
 have Tx:(Cd d c v).length=(CB c v).length+1:=by unfold Cd;simp
 have hj:∃j,j<(Cd d c v).length/\FF 0 ((Cd d c v).take j)=(a:Int):=by
  rcases h0 with rfl |h
  ·exact⟨0,by omega,rfl⟩
  ·have hm:(a:Int)∈CB c v:=by simpa [C0]using h
   obtain⟨i,hi,hx⟩:=AKg hm;have ACU:i+1<(Cd d c v).length:=by
    rw[Tx];omega
   refine⟨i+1,ACU,?_⟩;rw[OM (by omega),PG (by omega),AJg hi,<-hx];simp[Ip,List.getD,hi]
 obtain⟨j,hj1,hj2⟩:=hj;have hm:(((v:Int),FF 0 ((Cd d c v).take j),Ip (Cd d c v) j-FF 0 ((Cd d c v).take j),()):ALl)∈SL d c d.length:=tf.2 ⟨v,j,hv,hj1,rfl⟩;obtain⟨m,SX,RN⟩:=AKg hm;have hsm:slc (SL d c d.length) m=((v:Int),FF 0 ((Cd d c v).take j),Ip (Cd d c v) j-FF 0 ((Cd d c v).take j),()):=by
  unfold slc;simp only[List.getD,AJ6 SX,Option.getD_some];exact RN
 obtain⟨n,hn⟩:=cg (L:=SL d c d.length) (k:=nk v a) SX (by unfold bF nk;rw[hsm,hj2]);obtain⟨uh,hn2⟩:=Xg hn;refine⟨n,hn,uh,?_⟩;obtain⟨v',j',o6,QW,hx⟩:=tf.1 (show slc (SL d c d.length) n∈SL d c d.length from AE uh);unfold bF nk at hn2;rw[hx]at hn2⊢;injection hn2 with h1 h2;injection h2 with h2 _;have h1:(v':Int)=(v:Int):=h1;have yz:v'=v:=by omega
 subst yz;have h2:FF 0 ((Cd d c v').take j')=(a:Int):=h2;have:=AdS hd hc o6 QW h2 hae he X6;show Ip (Cd d c v') j'-FF 0 ((Cd d c v').take j')=_;rw[this,h2];omega
def nm(o:AL8 Nat):Int:=match o with |some n=>(n:Int)|none=>-1
def NM(d:ALC)(L:ALB)(n:Nat):ALK:=(List.range d.length).map λv=>(List.range (W d v)).map λa=>nm (GI L (nk v a) n)
theorem sV{L:ALB}{n v:Nat}{z:ALx}(hv:v<d.length):(NM d L n).getD v z=(List.range (W d v)).map λa=>nm (GI L (nk v a) n):=JR hv
theorem AdR(hd:AL d)(hc:ED d c)(hb:Uj c):Qq d (c,())=some (NM d (SL d c d.length) (SL d c d.length).length):=by
 unfold Qq;have iQ:=hd.1;have h1:OA d (c,()) 0 []=some (NM d (SL d c d.length) 0):=by
  unfold OA;have:=AU (f:=Fu d (c,())) (λv=>((v:Int),(List.range v).map λu=>(List.range (W d u)).map λa=>nm (GI (SL d c d.length) (nk u a) 0))) (t:=NM d (SL d c d.length) 0) d.length (λv hv=>?_) ?_
  ·exact this
  ·unfold Fu Lm;obtain⟨e0,cW,cX⟩:=QB hd hv;have e2:(d.getD v Ad.zero).2.1=(W d v:Int):=e0;simp only[AIZ,e2];rw[Dl hv,AJe,AJg (Bf hv),AJg (show Ty.row ALP=true/\(0:Int)<=(W d v:Int)/\(W d v:Int)<=(W d v:Int)/\((8:Nat):Int)*(W d v:Int)<=281474976710656/\(W d v:Int)<=9223372036854775807 from⟨rfl,by omega,by omega,by omega,by omega⟩)];have e4:∀z,Oz d (v:Int) (c,()) z 0 (List.replicate (W d v) 0)=some ((List.range (W d v)).map λa=>nm (GI (SL d c d.length) (nk v a) 0)):=λz=>by
    unfold Oz;have:=AU (f:=Ft d (v:Int) (c,()) z) (λi=>((i:Int),B8 (λ_=>(-1:Int)) 0 (W d v) i)) (t:=B8 (λ_=>(-1:Int)) 0 (W d v) (W d v)) (W d v) (λi hi=>?_) ?_
    ·rw[Lv]at this;have ef:B8 (λ_=>(-1:Int)) 0 (W d v) (W d v)=(List.range (W d v)).map λa=>nm (GI (SL d c d.length) (nk v a) 0):=AJQ λa ha=>by rw[AJg (List.mem_range.1 ha)];rfl
     rw[<-ef];exact this
    ·unfold Ft Ll;simp only[AIZ];rw[Ge,Dl hi,AJe,AJg (Bf hi),Bc hi (by omega),O4 (λ_=>(-1:Int))]
    ·unfold Ft Ll;simp only;rw[Ge,D1,AJd]
   rw[e4,AIY,AJg (by simp;omega),Bc hv (by omega),GK]
  ·unfold Fu Lm;simp only;rw[D1,AJd];rfl
 rw[h1,AIY,U8 hd hc hb,AIY];have IR:=dZ hd hc d.length (AI4 _);have h2:OB (SL d c d.length) 0 (NM d (SL d c d.length) 0)=some (NM d (SL d c d.length) (SL d c d.length).length):=by
  unfold OB;have:=AU (f:=Fv (SL d c d.length)) (λi=>((i:Int),NM d (SL d c d.length) i)) (t:=NM d (SL d c d.length) (SL d c d.length).length) (SL d c d.length).length (λi hi=>?_) ?_
  ·exact this
  ·unfold Fv Ln;have YL:slc (SL d c d.length) i∈SL d c d.length:=AE hi;obtain⟨v,j,hv,hj,hx⟩:=tf.1 YL;obtain⟨e0,cW,cX⟩:=QB hd hv;have oY:=nJ hd hc hv j (by omega);obtain⟨a,ha⟩:∃a:Nat,FF 0 ((Cd d c v).take j)=(a:Int):=⟨(FF 0 ((Cd d c v).take j)).toNat,by omega⟩;have haw:a<W d v:=by
    match j with
    |0=>simp[FF]at ha;omega
    |j+1 =>
     rw[OM (by omega)]at ha;have h3:=dy hd hc hv (show j<(CB c v).length by unfold Cd at hj;simp at hj;omega) (by unfold Cd;simp);rw[PG (AI4 _),AJh (by omega)]at h3;omega
   have q1:((SL d c d.length).getD i Ab.zero).1=(v:Int):=congrArg (·.1) hx;have q2:((SL d c d.length).getD i Ab.zero).2.1=(a:Int):=(congrArg (·.2.1) hx).trans ha;have hk:bF (SL d c d.length) i=nk v a:=by
    unfold bF nk;rw[show(slc (SL d c d.length) i).1=(v:Int)from q1,show(slc (SL d c d.length) i).2.1=(a:Int)from q2]
   simp only[AIZ,q1,q2];have Fx:(NM d (SL d c d.length) i).set v (((NM d (SL d c d.length) i).getD v ALT.zero).set a (i:Int))=NM d (SL d c d.length) (i+1):=by
    rw[sV hv];apply AKj;intro u;rw[AJn];by_cases hu:u<d.length
    ·have er:∀m,(NM d (SL d c d.length) m)[u]?=some ((List.range (W d u)).map λa=>nm (GI (SL d c d.length) (nk u a) m)):=λm=>by simp[NM,hu]
     rw[er,er];split
     ·rename_i e;subst e;rw[AJg (by simp[NM];exact hu)];congr 1;apply AKj;intro b;rw[AJn];by_cases hbw:b<W d v
      ·simp only[AJa,AJF,AJr,AKQ hbw,Option.map_some];rw[cj,hk];split
       ·rename_i e;subst e;rw[(db _ _).2 rfl];rfl
       ·rename_i e;have:A7 Aa (nk v b) (nk v a)=false:=by
         rw[Bool.eq_false_iff];intro h;exact e (Xi.1 ((db _ _).1 h)).2.symm
        rw[this];rfl
      ·rw[AJh (by omega)];simp[hbw]
     ·rename_i e;congr 1;refine AJQ λb _=>?_;have:A7 Aa (nk u b) (bF (SL d c d.length) i)=false:=by
       rw[hk,Bool.eq_false_iff];intro h;exact e (Xi.1 ((db _ _).1 h)).1.symm
      show _=nm (GI (SL d c d.length) (nk u b) (i+1));rw[cj,this];rfl
    ·have:∀m,(NM d (SL d c d.length) m)[u]?=none:=λm=>by simp[NM];omega
     rw[this,this,AJh (by omega)]
   have hNl:(NM d (SL d c d.length) i).length=d.length:=by simp[NM]
   rw[Dl hi,AJe,AJg (Bf hi),hNl,AJg (Bf hv),AJg (Bf hi),AJg (by rw[sV hv];simp;omega),Fx,Bc hi (by omega)]
  ·unfold Fv Ln;simp only;rw[D1,AJd]
 rw[h2];rfl
end
theorem AhV{xs:ALx}(hs:xs.Pairwise (·<=·)):∀m,m<=xs.length->(Lib.compactUpTo xs.toArray m).Pairwise (·<·)/\(∀x,x∈Lib.compactUpTo xs.toArray m↔∃j,j<m/\x=xs.toArray[j]!):=by
 have Ul:∀j,j<xs.length->xs.toArray[j]! =Ip xs j:=λj hj=>by simp[Ip,List.getD,hj]
 have Ug:∀i j,i<j->j<xs.length->Ip xs i<=Ip xs j:=λi j hij hj=>by
  have:=List.pairwise_iff_getElem.1 hs i j (by omega) hj hij;simpa [Ip,List.getD,hj,show i<xs.length by omega]using this
 intro m;induction m with
 |zero=>intro _;simp[Lib.compactUpTo]
 |succ m ih =>
  intro hm;obtain⟨h1,h2⟩:=ih (by omega);rw[Lib.compactUpTo_succ];cases hk:Lib.keeps xs.toArray m with
  |true =>
   simp only[AJK];refine⟨List.pairwise_append.2 ⟨h1,by simp,λx hx y hy=>?_⟩,λx=>?_⟩
   ·rw[AJp]at hy;subst hy;obtain⟨j,hj,rfl⟩:=(h2 x).1 hx;have Ve:m=0\/xs.toArray[m]!≠xs.toArray[m-1]!:=by simpa [Lib.keeps]using hk
    rcases Ve with Ve |Ve
    ·omega
    ·rw[Ul m (by omega),Ul (m-1) (by omega)]at Ve;rw[Ul j (by omega),Ul m (by omega)];have a1:=Ug (m-1) m (by omega) (by omega);have a2:Ip xs j<=Ip xs (m-1):=by
      rcases AI9 j (m-1)with h |h
      ·exact Ug j (m-1) h (by omega)
      ·rw[show j=m-1 by omega];exact AK3 _
     omega
   ·rw[AJ2,h2,AJp];constructor
    ·rintro(⟨j,hj,rfl⟩|rfl)
     ·exact⟨j,by omega,rfl⟩
     ·exact⟨m,by omega,rfl⟩
    ·rintro⟨j,hj,rfl⟩
     rcases AI9 j m with h |h
     ·exact .inl ⟨j,h,rfl⟩
     ·rw[show j=m by omega];exact .inr rfl
  |false =>
   simp only[AJN,AKv,AJD];refine⟨h1,λx=>?_⟩;rw[h2];have Ve:¬(m=0\/xs.toArray[m]!≠xs.toArray[m-1]!):=by simpa [Lib.keeps]using hk
   have sD:m≠0:=λe=>Ve (.inl e);have he:xs.toArray[m]! =xs.toArray[m-1]!:=Classical.byContradiction λe=>Ve (.inr e);constructor
   ·rintro⟨j,hj,rfl⟩;exact⟨j,by omega,rfl⟩
   ·rintro⟨j,hj,rfl⟩
    rcases AI9 j m with h |h
    ·exact⟨j,h,rfl⟩
    ·rw[show j=m by omega,he];exact⟨m-1,by omega,rfl⟩
theorem cK(xs:ALx):(M0 (NQ xs)).Pairwise (·<·)/\∀x,x∈M0 (NQ xs)↔x∈xs:=by
 have hs:(NQ xs).Pairwise (·<=·):=by
  have:=List.pairwise_mergeSort (le:=leI) (λa b c h1 h2=>by simp[leI]at *;omega) (λa b=>by simp[leI];omega) xs;exact this.imp λ{a b} h=>by simpa [leI]using h
 obtain⟨h1,h2⟩:=AhV hs _ (AI4 _);refine⟨h1,λx=>?_⟩;have h2:=h2 x;unfold M0 Lib.compact;rw[h2];have hm:∀y,y∈NQ xs↔y∈xs:=λy=>(List.mergeSort_perm xs leI).mem_iff;rw[<-hm];constructor
 ·rintro⟨j,hj,rfl⟩
  have:(NQ xs).toArray[j]! =(NQ xs)[j]:=by simp[hj]
  rw[this];exact AJG hj
 ·intro hx;obtain⟨j,hj,rfl⟩:=AKg hx;exact⟨j,hj,by simp[hj]⟩
def Ww(l n:Nat)(p:Int):Bool:=decide ((l:Int)<p)&&decide (p<((l+n:Nat):Int))
def jl(c:ALK)(s:Sg)(k q:Nat):ALx:=match s with
 |.co _=>[]
 |.va v l n=>(((CB c v).take q).filter (Ww l n)).map λp=>(k:Int)+p-(l:Int)
def prt(c:ALK)(s:Sg)(k:Nat):ALx:=(k:Int)::match s with
 |.co _=>[]
 |.va v l n=>((CB c v).filter (Ww l n)).map λp=>(k:Int)+p-(l:Int)
def Jm(c:ALK)(f:AL7 Sg)(m:Nat):ALx:=(List.range m).flatMap λi=>prt c (f.getD i (.co [])) (A5 (f.take i))
theorem uC(c:ALK)(f:AL7 Sg)(m:Nat):Jm c f (m+1)=Jm c f m++prt c (f.getD m (.co [])) (A5 (f.take m)):=by
 unfold Jm;rw[AKf,AKb];simp
section
variable {d:ALC} {c:ALK}
theorem xd(hd:AL d)(hc:ED d c){s:Sg}(hs:Uo d s)(k:Nat):(prt c s k).length<=4097:=by
 cases s with
 |co b=>simp[prt]
 |va v l n =>
  obtain⟨hv,_,_⟩:=hs;obtain⟨e0,cW,cX⟩:=QB hd hv;have h1:=UK (hc.2 v hv) (by omega);have h2:=AKZ (Ww l n) (CB c v);simp only[prt,AJL,AJa];omega
theorem rC(hd:AL d)(hc:ED d c)(hb:Uj c){B:AL7 Bt}(h:Bj d B):Ky (fN B) (c,())=some (Jm c (Av B) (Av B).length):=by
 unfold Ky;obtain⟨n1,n2,n3⟩:=nV hd h;have hlen:=CQ n1;have zK:=h.2.1;have qO:∀i,i<(Av B).length->Uo d ((Av B).getD i (.co [])):=λi hi=>(Xn h (AE hi)).1;have qM:∀m,m<=(Av B).length->(Jm c (Av B) m).length<=4097*m:=λm hm=>VY λi hi=>xd hd hc (qO i (by omega)) _;have:Mg (fN B) (c,()) ((fN B).length:Int) 0 0 []=some (Jm c (Av B) (Av B).length):=by
  unfold Mg;rw[show(fN B).length=(Av B).length from B5 _];have:=AU (f:=Ea (fN B) (c,()) ((Av B).length:Int)) (λk=>((A5 ((Av B).take k):Int),(k:Int),Jm c (Av B) k)) (t:=Jm c (Av B) (Av B).length) (Av B).length (λk hk=>?_) ?_
  ·exact this
  ·unfold Ea Jy;have e1:(fN B).getD k Ae.zero=Hn ((Av B).getD k (.co [])):=fz hk;have hpk:=qM k (by omega);have hwk:=EB (Av B) k;have na:=XU hk;simp only[AIZ,e1];rw[Dl hk,AJe,show(fN B).length=(Av B).length from B5 _,AJg (Bf hk),AJg (by simp only[AI2,AJL,List.length_nil];omega)];have e2:I1 (A5 ((Av B).take k):Int) (fN B) ((Av B).length:Int) (k:Int) (c,()) (Jm c (Av B) k++[(A5 ((Av B).take k):Int)]) (Hn ((Av B).getD k (.co [])))=some (Jm c (Av B) (k+1)):=by
    unfold I1;rw[uC];have FA:=qO k hk;cases hs:(Av B).getD k (.co [])with
    |co b=>rfl
    |va v l n =>
     rw[hs]at FA na;obtain⟨hv,hn,hw⟩:=FA;obtain⟨e0,cW,cX⟩:=QB hd hv;have hrl:=UK (hc.2 v hv) (by omega);have e3:(c.getD v ALT.zero)=CB c v:=rfl;have e4:(Hn (.va v l n)).1=(v:Int):=rfl;simp only[e4,AIZ,e3];rw[show decide ((v:Int)>=0)=true from AI3 (by omega),AJe,AJg (Bf (by rw[hc.1];exact hv))];have e5:Mf (A5 ((Av B).take k):Int) (fN B) ((Av B).length:Int) (k:Int) (c,()) (Hn (.va v l n)) (CB c v) ((CB c v).length:Int) 0 (Jm c (Av B) k++[(A5 ((Av B).take k):Int)])=some (Jm c (Av B) k++prt c (.va v l n) (A5 ((Av B).take k))):=by
      unfold Mf;have:=AU (f:=D9 (A5 ((Av B).take k):Int) (fN B) ((Av B).length:Int) (k:Int) (c,()) (Hn (.va v l n)) (CB c v) ((CB c v).length:Int)) (λq=>((q:Int),Jm c (Av B) k++[(A5 ((Av B).take k):Int)]++jl c (.va v l n) (A5 ((Av B).take k)) q)) (t:=Jm c (Av B) k++prt c (.va v l n) (A5 ((Av B).take k))) (CB c v).length (λq hq=>?_) ?_
      ·rw[show Jm c (Av B) k++[(A5 ((Av B).take k):Int)]=Jm c (Av B) k++[(A5 ((Av B).take k):Int)]++jl c (.va v l n) (A5 ((Av B).take k)) 0 by simp[jl]];exact this
      ·unfold D9 Jx Me QF;have e6:(CB c v).getD q ALP.zero=Ip (CB c v) q:=rfl;have hm:Ip (CB c v) q∈CB c v:=by unfold Ip;exact AE hq
       have hpb:=dN (hc.2 v hv) hm;have hbd:Ip (CB c v) q<=4096:=by omega
       have Bh:(jl c (.va v l n) (A5 ((Av B).take k)) q).length<=4096:=by
        have h2:=AKZ (Ww l n) ((CB c v).take q);simp only[jl,AJa];rw[AJj]at h2;omega
       have e7:(Hn (.va v l n)).2.1=(l:Int):=rfl;have e7b:(Hn (.va v l n)).2.2.1=(n:Int):=rfl;have e8:wI ((l:Int)+(n:Int))=((l+n:Nat):Int):=A4 (by omega) (by omega);have e9:jl c (.va v l n) (A5 ((Av B).take k)) (q+1)=jl c (.va v l n) (A5 ((Av B).take k)) q++if Ww l n (Ip (CB c v) q)then[(A5 ((Av B).take k):Int)+Ip (CB c v) q-(l:Int)]else[]:=by
        simp only[jl];rw[AW (z:=(0:Int)) hq,ALa,AJJ];congr 1;show List.map _ (List.filter (Ww l n) [Ip (CB c v) q])=_;cases hi:Ww l n (Ip (CB c v) q)<;>simp[hi]
       simp only[AIZ,e6,e7,e7b,e8];rw[Dl hq,AJe,AJg (Bf hq),e9];show Option.bind (bif Ww l n (Ip (CB c v) q)then _ else _) _=_;cases hi:Ww l n (Ip (CB c v) q)with
       |true =>
        rw[AJe,AJg (by simp only[AI2,AJL,List.length_nil];omega),AIY,Bc hq (by omega),BO (x:=(A5 ((Av B).take k):Int)+Ip (CB c v) q) (by omega) (by omega),BO (by omega) (by omega)];simp[AI6]
       |false =>
        rw[AJd,AIY,Bc hq (by omega)];simp
      ·unfold D9 Jx;simp only;rw[D1,AJd];have:jl c (.va v l n) (A5 ((Av B).take k)) (CB c v).length=((CB c v).filter (Ww l n)).map λp=>(A5 ((Av B).take k):Int)+p-(l:Int):=by
        simp only[jl];rw[AI8 (AI4 _)]
       rw[this,AI6];rfl
     rw[e5];rfl
   have e10:wI ((A5 ((Av B).take k):Int)+(Hn ((Av B).getD k (.co []))).2.2.1)=(A5 ((Av B).take (k+1)):Int):=by
    rw[Yo,EN hk];exact A4 (by omega) (by omega)
   rw[e2,AIY,Bc hk (by omega),e10]
  ·unfold Ea Jy;simp only;rw[D1,AJd]
 rw[this];rfl
theorem kP(hd:AL d)(hc:ED d c){B:AL7 Bt}(h:Bj d B){x:Int}:x∈Jm c (Av B) (Av B).length↔∃p:Nat,x=(p:Int)/\p<B.length/\Sd B (C0 c) p=true:=by
 obtain⟨n1,n2,n3⟩:=nV hd h;unfold Jm;rw[List.mem_flatMap];constructor
 ·rintro⟨i,hi,hx⟩
  have hi:=List.mem_range.1 hi;have FA:=(Xn h (AE (z:=.co []) hi)).1;have h1:=n1 _ (AE (z:=.co []) hi);have na:=XU hi;rw[n3]at na;rcases List.mem_cons.1 hx with rfl |hx
  ·refine⟨_,rfl,by omega,?_⟩;have:=(RZ hi (k:=0) (by omega)).2.1;unfold Sd fst;rw[show A5 ((Av B).take i)=A5 ((Av B).take i)+0 by omega,this];rfl
  ·cases hs:(Av B).getD i (.co [])with
   |co b=>rw[hs]at hx;cases hx
   |va v l n =>
    rw[hs]at hx na FA;obtain⟨p,hp,rfl⟩:=List.mem_map.1 hx;obtain⟨YN,b7⟩:=List.mem_filter.1 hp;unfold Ww at b7;rw[AI5,AKq,AKq]at b7;simp only[Sg.w]at na;obtain⟨q,rfl⟩:∃q:Nat,p=(q:Int):=⟨p.toNat,by omega⟩;refine⟨A5 ((Av B).take i)+(q-l),by omega,by omega,?_⟩;obtain⟨e1,e2,_⟩:=RZ hi (k:=q-l) (by rw[hs];simp only[Sg.w];omega);unfold Sd S7;rw[Hm,hs,XZ (by omega)]at e1;rw[e1,show l+(q-l)=q by omega];simp only[yp,C0];have:(CB c v).contains (q:Int)=true:=by simpa using YN
    rw[this,Bool.or_true]
 ·rintro⟨p,rfl,hp,bZ⟩
  obtain⟨i,k,h1,h2,h3,h4,h5,h6,_⟩:=eC h hp;refine⟨i,List.mem_range.2 h1,?_⟩;rcases AJm k with h0 |h0
  ·subst h0;rw[h3];exact AJt
  ·unfold Sd at bZ;rw[h6,h5,show(k==0)=false by rw[AKa];omega,AKm]at bZ;cases hs:(Av B).getD i (.co [])with
   |co b =>
    rw[hs]at bZ h2;rw[Zt h2]at bZ;cases bZ
   |va v l n =>
    rw[hs]at bZ h2;simp only[Sg.w]at h2;rw[XZ h2]at bZ;have hm:((l+k:Nat):Int)∈CB c v:=by simpa [yp,C0]using bZ
    refine AJq _ (List.mem_map.2 ⟨((l+k:Nat):Int),List.mem_filter.2 ⟨hm,?_⟩,by omega⟩);unfold Ww;rw[AI5,AKq,AKq];omega
end
def jd(B1 B2:AL7 Bt)(h:Nat->Nat->Bool)(p:Nat):Bool:=Sd B1 h p||Sd B2 h p
structure Gap (B1 B2:List Bt) (h:Nat->Nat->Bool) (a b:Nat):Prop where
 lt:a<b
 le:b<=B1.length
 no:∀q,a<q->q<b->jd B1 B2 h q=false
 fr:a=0\/jd B1 B2 h a=true
 to:b=B1.length\/jd B1 B2 h b=true
def coB:Bt->Bool
 |.co b=>b
 |.va _ _=>false
def jN(B:AL7 Bt)(a w:Nat):ALy:=((B.drop a).take w).map coB
def Zo(L:ALB)(B:AL7 Bt)(a b:Nat):ALw:=match S7 B a with
 |.co _=>(-1,jh (jN B a (b-a)),())
 |.va v x=>(nm (GI L (nk v x) L.length),(0,[],()),())
theorem Acx{A:Type}{F:Sg->AL7 A}(hF:∀s,(F s).length=s.w){f:AL7 Sg}{i k w:Nat}(hi:i<f.length)(hk:k+w<=(f.getD i (.co [])).w):((f.flatMap F).drop (A5 (f.take i)+k)).take w=((F (f.getD i (.co []))).drop k).take w:=by
 have e:f.flatMap F=(f.take i).flatMap F++(F (f.getD i (.co []))++(f.drop (i+1)).flatMap F):=by
  rw[<-AI6,<-XJ F hi,<-AKb,AJ8]
 have hl:=Tw hF (f.take i);have hs:=hF (f.getD i (.co []));rw[e,List.drop_append,List.drop_of_length_le (by omega),AJ7,hl,show A5 (f.take i)+k-A5 (f.take i)=k by omega,List.drop_append,List.take_append];rw[show w-(List.drop k (F (f.getD i (.co [])))).length=0 by rw[AJy,hs];omega,AKS,AJD]
section
variable {d:ALC}
theorem AgV{B B':AL7 Bt}(h:Bj d B){f:Nat->Nat->Bool}{a b:Nat}(hl:b<=B.length)(wF:a<b)(X6:∀q,a<q->q<b->fst B q=false):∃i k,i<(Av B).length/\a=A5 ((Av B).take i)+k/\k+(b-a)<=((Av B).getD i (.co [])).w/\Uo d ((Av B).getD i (.co [])):=by
 obtain⟨i,k,h1,h2,h3,h4,_⟩:=eC h (show a<B.length by omega);refine⟨i,k,h1,h3,Classical.byContradiction λhn=>?_,h4⟩;have na:=EN h1;have hi1:i+1<(Av B).length:=by
  refine Classical.byContradiction λhc=>?_;have e:(Av B).take (i+1)=Av B:=AI8 (by omega);rw[e,Cm]at na;omega
 have cW:=C1 B _ (AE (z:=.co []) hi1);have:=(RZ hi1 (k:=0) (by omega)).2.1;have hq:=X6 (A5 ((Av B).take (i+1))) (by omega) (by omega);unfold fst at hq;rw[show A5 ((Av B).take (i+1))=A5 ((Av B).take (i+1))+0 by omega,this]at hq;cases hq
theorem AaV{B:AL7 Bt}(h:Bj d B){i k:Nat}(hi:i<(Av B).length)(hk:k<((Av B).getD i (.co [])).w):OJ (fN B) ((A5 ((Av B).take i)+k:Nat):Int)=some (Hn ((Av B).getD i (.co [])),(k:Int),()):=by
 unfold OJ;have hlen:=CQ (C1 B);rw[Cm]at hlen;have zK:=h.2.1;have na:=XU hi;rw[Cm]at na;have:Rn (fN B) ((fN B).length:Int) ((A5 ((Av B).take i)+k:Nat):Int) 0=some (.inl (Hn ((Av B).getD i (.co [])),(k:Int))):=by
  unfold Rn;rw[show(fN B).length=(Av B).length from B5 _];have AzJ:∀j,j<=i->A5 ((Av B).take j)<=A5 ((Av B).take i):=λj hj=>by
   have e:(Av B).take j=((Av B).take i).take j:=by rw[List.take_take,AKF hj]
   rw[e];exact EB _ j
  have:=AU (f:=Hg (fN B) ((Av B).length:Int)) (λj=>(((A5 ((Av B).take i)+k-A5 ((Av B).take j):Nat):Int),(j:Int))) (t:=.inl (Hn ((Av B).getD i (.co [])),(k:Int))) i (λj hj=>?_) ?_
  ·rw[AKS,show A5 []=0 from rfl,Nat.sub_zero]at this;exact this
  ·unfold Hg NW;have e1:(fN B).getD j Ae.zero=Hn ((Av B).getD j (.co [])):=fz (by omega);have h1:=AzJ (j+1) hj;rw[EN (show j<(Av B).length by omega)]at h1;simp only[AIZ,e1,Yo];rw[Dl (show j<(Av B).length by omega),AJe,show(fN B).length=(Av B).length from B5 _,AJg (Bf (by omega)),AI1 (by omega),AJd,Bc hj (by omega),EN (show j<(Av B).length by omega)];rw[A4 (n:=A5 ((Av B).take i)+k-(A5 ((Av B).take j)+((Av B).getD j (.co [])).w)) (by omega) (by omega)]
  ·unfold Hg NW;have e1:(fN B).getD i Ae.zero=Hn ((Av B).getD i (.co [])):=fz hi;simp only[AIZ,e1,Yo];rw[Dl hi,AJe,show(fN B).length=(Av B).length from B5 _,AJg (Bf hi),show A5 ((Av B).take i)+k-A5 ((Av B).take i)=k by omega,Dl hk,AJe]
 rw[this];rfl
variable {c:ALK}
structure lN (d:ALC) (c:ALK) (B:List Bt) (a b i k:Nat):Prop where
 hi:i<(Av B).length
 ha:a=A5 ((Av B).take i)+k
 hk:k+(b-a)<=((Av B).getD i (.co [])).w
 hs:Uo d ((Av B).getD i (.co []))
 lt:a<b
 le:b<=B.length
 no:∀q,a<q->q<b->fst B q=false
 va:∀v l n,(Av B).getD i (.co [])=.va v l n->∃m,GI (SL d c d.length) (nk v (l+k)) (SL d c d.length).length=some m/\m<(SL d c d.length).length/\(slc (SL d c d.length) m).2.2.1=((b-a:Nat):Int)
theorem xj(hd:AL d)(hc:ED d c){B B':AL7 Bt}(h:Bj d B)(hl:B.length=B'.length){a b:Nat}(wF:a<b)(Ug:b<=B.length)(X6:∀q,a<q->q<b->Sd B (C0 c) q=false)
    (dE:a=0\/(fY (S7 B a)=true->Sd B (C0 c) a=true)) (qQ:b=B.length\/(fY (S7 B b)=true->Sd B (C0 c) b=true)) (he:∀x∈Av B,QR d (C0 c) x):∃i k,lN d c B a b i k:=by
 have hnf:∀q,a<q->q<b->fst B q=false:=λq h1 h2=>by
  have:=X6 q h1 h2;unfold Sd at this;rw[AJY]at this;exact this.1
 obtain⟨i,k,h1,h2,h3,h4⟩:=AgV (B':=B) (f:=C0 c) h Ug wF hnf;refine⟨i,k,h1,h2,h3,h4,wF,Ug,hnf,λv l n hs=>?_⟩;have FA:=h4;have hk:=h3;rw[hs]at FA hk;obtain⟨hv,hn,hw⟩:=FA;obtain⟨e0,cW,cX⟩:=QB hd hv;simp only[Sg.w]at hk;have AcP:=he _ (AE (z:=.co []) h1);rw[hs]at AcP;have na:=XU h1;rw[Cm,hs]at na;simp only[Sg.w]at na;have bat:∀j,j<n->S7 B (A5 ((Av B).take i)+j)=.va v (l+j)/\fst B (A5 ((Av B).take i)+j)=(j==0):=λj hj=>by
  obtain⟨q1,q2,_⟩:=RZ h1 (k:=j) (by rw[hs];exact hj);rw[Hm,hs,XZ hj]at q1;exact⟨q1,q2⟩
 have iO:1<=b-a:=by omega
 have h5:=Aeo hd hc (v:=v) (a:=l+k) (e:=l+k+(b-a)) hv ?_ (by omega) ?_ ?_
 ·obtain⟨m,m1,m2,m3⟩:=h5;exact⟨m,m1,m2,by rw[m3,show l+k+(b-a)-(l+k)=b-a by omega]⟩
 ·rcases AJm k with hk0 |hk0
  ·subst hk0;rcases AJm l with dF |dF
   ·exact .inl (by omega)
   ·exact .inr (AcP.1 dF (by omega))
  ·obtain⟨q1,q2⟩:=bat k (by omega);rw[<-h2]at q1 q2;rcases dE with dE |dE
   ·omega
   ·have:=dE (by rw[q1];rfl);unfold Sd at this;rw[q2,q1,show(k==0)=false by rw[AKa];omega,AKm]at this;exact .inr this
 ·rcases AI9 (k+(b-a)) n with Bh |ae
  ·obtain⟨q1,q2⟩:=bat (k+(b-a)) Bh;have eb:A5 ((Av B).take i)+(k+(b-a))=b:=by omega
   rw[eb]at q1 q2;have hbb:b≠B.length:=by omega
   have:=qQ.resolve_left hbb (by rw[q1];rfl);unfold Sd at this;rw[q2,q1,show(k+(b-a)==0)=false by rw[AKa];omega,AKm]at this;exact .inr ⟨by omega,by rw[show l+k+(b-a)=l+(k+(b-a)) by omega];exact this⟩
  ·have e:l+k+(b-a)=l+n:=by omega
   rw[e];rcases AI9 (l+n) (W d v)with Bh |AHf
   ·exact .inr ⟨Bh,AcP.2 (by omega) Bh⟩
   ·exact .inl (by omega)
 ·intro q hq1 hq2;obtain⟨q1,q2⟩:=bat (q-l) (by omega);have:=X6 (A5 ((Av B).take i)+(q-l)) (by omega) (by omega);unfold Sd at this;rw[q1,AJY]at this;have:=this.2;rw[show l+(q-l)=q by omega]at this;exact this
theorem za{B:AL7 Bt}{a b i k:Nat}(S:lN d c B a b i k):(B.drop a).take (b-a)=(((Av B).getD i (.co [])).bits.drop k).take (b-a):=by
 have e:=Acx Kh S.hi S.hk;rw[show(Av B).flatMap Sg.bits=C4 (Av B)from rfl,Hm,<-S.ha]at e;exact e
theorem oi{B:AL7 Bt}{a b i k:Nat}(S:lN d c B a b i k):S7 B a=((Av B).getD i (.co [])).bits.getD k (.co false):=by
 have h1:=S.hk;have h2:=S.lt;have:=(RZ S.hi (k:=k) (by omega)).1;rw[Hm,<-S.ha]at this;exact this
theorem tK{B:AL7 Bt}{a b i k:Nat}(S:lN d c B a b i k){x:ALy}(hs:(Av B).getD i (.co [])=.co x):jN B a (b-a)=(x.drop k).take (b-a):=by
 unfold jN;rw[za S,hs];simp only[Sg.bits];rw[<-List.map_drop,<-List.map_take,AKX];exact(AJQ λ_ _=>rfl).trans (List.map_id _)
theorem b9(hd:AL d){B:AL7 Bt}(h:Bj d B){a b i k:Nat}(S:lN d c B a b i k):∃r,(OJ (fN B) (a:Int)).bind (λl=>Kw l ((b-a:Nat):Int) (dA (SL d c d.length) (SL d c d.length).length))=some r/\r.2.2.1=dA (SL d c d.length) (SL d c d.length).length/\(r.1,(r.2.1,r.2.2.2,()),())=Zo (SL d c d.length) B a b:=by
 have hk:=S.hk;have Bh:=S.lt;have Sl:=oi S;rw[S.ha,AaV h S.hi (by omega),<-S.ha,AIY];have zK:=h.2.1;have Ug:=S.le;unfold Kw Zo;rw[Sl];cases hs:(Av B).getD i (.co [])with
 |co x =>
  rw[hs]at hk;simp only[Sg.w]at hk;have FA:=S.hs;rw[hs]at FA;obtain⟨r,hr,wS⟩:=wi (bs:=x) (a:=k) (w:=b-a) (by have:=FA.2;omega) (by omega) hk;rw[show((Hn (.co x)).1==-1)=true from rfl,AJe];have e1:En (Hn (.co x)).2.2.2.1 (k:Int) ((b-a:Nat):Int)=some r:=hr;simp only;rw[e1,AIY,Zt (by omega)];refine⟨_,rfl,rfl,?_⟩;simp only;rw[wS,tK S hs]
 |va v l n =>
  rw[hs]at hk;simp only[Sg.w]at hk;have FA:=S.hs;rw[hs]at FA;obtain⟨hv,hn,hw⟩:=FA;obtain⟨e0,cW,cX⟩:=QB hd hv;obtain⟨m,hm,_⟩:=S.va v l n hs;have e1:(Hn (.va v l n)).1=(v:Int):=rfl;have e2:(Hn (.va v l n)).2.1=(l:Int):=rfl;simp only[e1,e2];rw[show((v:Int)==-1)=false from beq_eq_false_iff_ne.2 (by omega),AJd,XZ (by omega),A4 (x:=(l:Int)+(k:Int)) (n:=l+k) (by omega) (by omega)];refine⟨_,rfl,rfl,?_⟩;simp only;have e3:Bg Aa ALP (dA (SL d c d.length) (SL d c d.length).length) ((v:Int),((l+k:Nat):Int),())=(m:Int):=by
   unfold Bg;rw[wz];have:GI (SL d c d.length) ((v:Int),((l+k:Nat):Int),()) (SL d c d.length).length=some m:=hm;rw[this];rfl
  rw[e3,hm];rfl
theorem cA(hd:AL d){B:AL7 Bt}(h:Bj d B){a b i k:Nat}(S:lN d c B a b i k):∃r,Pp (bV B,Wr (Av B),()) (NM d (SL d c d.length) (SL d c d.length).length) (SL d c d.length) (a:Int) (b:Int)=some r/\r.2.2.1=true/\(r.1,(r.2.1,r.2.2.2,()),())=Zo (SL d c d.length) B a b:=by
 have hk:=S.hk;have Bh:=S.lt;have Sl:=oi S;have zK:=h.2.1;have Ug:=S.le;unfold Pp Zo;have eb:(bV B).getD a Aa.zero=UR (S7 B a):=eE (by omega);simp only[AIZ,eb];rw[C6,AJg (Bf (by omega))];rw[Sl];cases hs:(Av B).getD i (.co [])with
 |co x =>
  rw[hs]at hk;simp only[Sg.w]at hk;rw[Zt (by omega)];rw[show decide ((UR (.co (x.getD k false))).1<0)=true from rfl,AJe];have SU:(jN B a (b-a)).length=b-a:=by rw[tK S hs];simp;omega
  have e1:Qn (b:Int) (bV B,Wr (Av B),()) (a:Int) []=some (.inr ((jN B a (b-a)).map bI)):=by
   unfold Qn;have:=AU (f:=Gq (b:Int) (bV B,Wr (Av B),())) (λj=>(((a+j:Nat):Int),((jN B a (b-a)).take j).map bI)) (t:=.inr ((jN B a (b-a)).map bI)) (b-a) (λj hj=>?_) ?_
   ·exact this
   ·unfold Gq ML;have hq:S7 B (a+j)=.co ((jN B a (b-a)).getD j false):=by
     have:=(RZ S.hi (k:=k+j) (by rw[hs];simp only[Sg.w];omega)).1;rw[Hm,hs,Zt (by omega),<-AJ0,<-S.ha]at this;show B.getD (a+j) (.co false)=_;rw[this,tK S hs];congr 1;simp only[List.getD];rw[AJM,AJg hj,AKW]
    have ec:(bV B).getD (a+j) Aa.zero=UR (S7 B (a+j)):=eE (by omega);simp only[AIZ,ec,hq];rw[show decide (((a+j:Nat):Int)<(b:Int))=true from AI3 (by omega),AJe,C6,AJg (Bf (by omega)),show decide ((UR (.co ((jN B a (b-a)).getD j false))).1>=0)=false from rfl,AJd,AJg (Bf (by omega)),AJg (by simp only[AI2,AJL,List.length_nil,AJa,AJj];omega),A4 (x:=((a+j:Nat):Int)+1) (n:=a+(j+1)) (by omega) (by omega),AW (z:=false) (by omega),AJJ];rw[show IntKind.u8.wrap (UR (.co ((jN B a (b-a)).getD j false))).2.1=bI ((jN B a (b-a)).getD j false) by cases (jN B a (b-a)).getD j false<;>rfl];rfl
   ·unfold Gq ML;simp only;rw[show a+(b-a)=b by omega,D1,AJd,AI8 (by omega)]
  rw[e1,AIY];simp only[AJO];rw[ky (by omega) (by omega),AIY];exact⟨_,rfl,rfl,rfl⟩
 |va v l n =>
  rw[hs]at hk;simp only[Sg.w]at hk;have FA:=S.hs;rw[hs]at FA;obtain⟨hv,hn,hw⟩:=FA;obtain⟨e0,cW,cX⟩:=QB hd hv;obtain⟨m,hm,SX,RN⟩:=S.va v l n hs;rw[XZ (by omega)];have e1:(UR (.va v (l+k))).1=(v:Int):=rfl;have e2:(UR (.va v (l+k))).2.1=((l+k:Nat):Int):=rfl;have e3:(NM d (SL d c d.length) (SL d c d.length).length).getD v ALT.zero=(List.range (W d v)).map λx=>nm (GI (SL d c d.length) (nk v x) (SL d c d.length).length):=sV hv;have e4:((List.range (W d v)).map λx=>nm (GI (SL d c d.length) (nk v x) (SL d c d.length).length)).getD (l+k) ALP.zero=(m:Int):=by
   rw[JR (by omega),hm];rfl
  simp only[e1,e2,AIZ,e3,e4];have hNl:(NM d (SL d c d.length) (SL d c d.length).length).length=d.length:=by simp[NM]
  rw[show decide ((v:Int)<0)=false from AI1 (by omega),AJd,AJg (Bf (by omega)),hNl,AJg (Bf hv),AJg (Bf (by omega)),AJa,AJF,AJg (Bf (by omega))];have e5:LW (SL d c d.length) (a:Int) (b:Int) (bV B,Wr (Av B),()) (m:Int)=some false:=by
   unfold LW;rw[show decide ((m:Int)<0)=false from AI1 (by omega),AJd,AJg (Bf SX),AIZ,show((SL d c d.length).getD m Ab.zero).2.2.1=((b-a:Nat):Int)from RN,A4 (x:=(b:Int)-(a:Int)) (n:=b-a) (by omega) (by omega)];simp
  have e6:Qo (b:Int) (bV B,Wr (Av B),()) (m:Int) (wI ((a:Int)+1))=some (.inr ()):=by
   unfold Qo;rw[A4 (x:=(a:Int)+1) (n:=a+1) (by omega) (by omega)];have:=AU (f:=Gr (b:Int) (bV B,Wr (Av B),()) (m:Int)) (λj=>((a+1+j:Nat):Int)) (t:=.inr ()) (b-(a+1)) (λj hj=>?_) ?_
   ·exact this
   ·unfold Gr MM;have hf:(Wr (Av B)).getD (a+1+j) (Ty.zero .bool)=false:=S.no (a+1+j) (by omega) (by omega);simp only[AIZ,hf];rw[show decide (((a+1+j:Nat):Int)<(b:Int))=true from AI3 (by omega),AJe,wB,AJg (Bf (by omega)),AJd,A4 (x:=((a+1+j:Nat):Int)+1) (n:=a+1+(j+1)) (by omega) (by omega)]
   ·unfold Gr MM;simp only;rw[show a+1+(b-(a+1))=b by omega,D1,AJd]
  rw[e5,AIY,AJd,e6,AIY];simp only[AJO];refine⟨_,rfl,rfl,?_⟩;simp only;rw[hm];rfl
end
def pcV(L:ALB)(B1 B2:AL7 Bt)(a b:Nat):ALu:=(Zo L B1 a b,Zo L B2 a b,((b-a:Nat):Int),())
def PP(L:ALB)(B1 B2:AL7 Bt):Nat->ALz->ALJ
 |_,[]=>[]
 |a,b::r=>pcV L B1 B2 a b::PP L B1 B2 b r
def NC(a:Nat)(l:ALz):Nat:=l.getLastD a
theorem Zg(L:ALB)(B1 B2:AL7 Bt):∀(l:ALz) (a p:Nat),PP L B1 B2 a (l++[p])=PP L B1 B2 a l++[pcV L B1 B2 (NC a l) p]
 |[],a,p=>rfl
 |x::l,a,p=>by
  have e:NC a (x::l)=NC x l:=by cases l<;>rfl
  rw[e];show _::PP L B1 B2 x (l++[p])=_;rw[Zg L B1 B2 l x p];rfl
theorem lM(L:ALB)(B1 B2:AL7 Bt):∀(l:ALz) (a:Nat),(PP L B1 B2 a l).length=l.length
 |[],_=>rfl
 |_::l,_=>by simp[PP,lM L B1 B2 l]
def eL(B1 B2:AL7 Bt)(h:Nat->Nat->Bool)(p:Nat):ALz:=(List.range p).filter λq=>decide (1<=q)&&jd B1 B2 h q
section
variable {B1 B2:AL7 Bt} {h:Nat->Nat->Bool}
theorem dv(p:Nat)(hp:1<=p):eL B1 B2 h (p+1)=if jd B1 B2 h p then eL B1 B2 h p++[p]else eL B1 B2 h p:=by
 unfold eL;rw[AKf,ALa];cases hq:jd B1 B2 h p<;>simp[hp,hq]
theorem tP:eL B1 B2 h 1=[]:=by simp[eL,AKf]
theorem YE{p q:Nat}:q∈eL B1 B2 h p↔q<p/\1<=q/\jd B1 B2 h q=true:=by
 unfold eL;rw[List.mem_filter,List.mem_range];simp
theorem jT(p:Nat):(eL B1 B2 h p).Pairwise (·<·):=(List.pairwise_lt_range (n:=p)).filter _
theorem tO(p:Nat):(eL B1 B2 h p).length<=p:=by
 unfold eL;exact AJs (AKZ _ _) (by simp)
theorem kz:∀{l:ALz} {a:Nat},l.Pairwise (·<·)->(∀q∈l,q<=NC a l)/\(NC a l=a/\l=[]\/NC a l∈l)
 |[],a,_=>⟨λq hq=>(by cases hq),.inl ⟨rfl,rfl⟩⟩
 |x::l,a,hs=>by
  have e:NC a (x::l)=NC x l:=by cases l<;>rfl
  rw[List.pairwise_cons]at hs;obtain⟨h1,h2⟩:=kz (a:=x) hs.2;rw[e];refine⟨λq hq=>?_,?_⟩
  ·rcases List.mem_cons.1 hq with rfl |hq
   ·rcases h2 with ⟨h2,_⟩|h2
    ·omega
    ·have:=hs.1 _ h2;omega
   ·exact h1 q hq
  ·rcases h2 with ⟨h2,_⟩|h2
   ·rw[h2];exact .inr AJt
   ·exact .inr (AJq _ h2)
theorem fG{p:Nat}(hp:1<=p)(Ug:p<=B1.length)(qQ:p=B1.length\/jd B1 B2 h p=true):Gap B1 B2 h (NC 0 (eL B1 B2 h p)) p:=by
 obtain⟨h1,h2⟩:=kz (a:=0) (jT (B1:=B1) (B2:=B2) (h:=h) p);refine⟨?_,Ug,λq hq1 hq2=>?_,?_,qQ⟩
 ·rcases h2 with ⟨h2,_⟩|h2
  ·omega
  ·exact(YE.1 h2).1
 ·cases hq:jd B1 B2 h q with
  |false=>rfl
  |true=>have:=h1 q (YE.2 ⟨hq2,by omega,hq⟩);omega
 ·rcases h2 with ⟨h2,_⟩|h2
  ·exact .inl h2
  ·exact .inr (YE.1 h2).2.2
theorem mr:∀(n:Nat) {i:Nat} (hi:i<(eL B1 B2 h n).length),(eL B1 B2 h n).take i=eL B1 B2 h ((eL B1 B2 h n)[i])
 |0,i,hi=>by simp[eL]at hi
 |1,i,hi=>by rw[tP]at hi;simp at hi
 |n+2,i,hi=>by
  have es:=dv (B1:=B1) (B2:=B2) (h:=h) (n+1) (by omega);cases hq:jd B1 B2 h (n+1)with
  |false =>
   rw[hq]at es;simp only[AJN,AKv]at es;simp only[es]at hi⊢;exact mr (n+1) hi
  |true =>
   rw[hq]at es;simp only[AJK]at es;simp only[es]at hi⊢;rw[AI2,AJi]at hi;rcases AI9 i (eL B1 B2 h (n+1)).length with Bh |ae
   ·rw[AJ4 (by omega),List.getElem_append_left Bh];exact mr (n+1) Bh
   ·have:i=(eL B1 B2 h (n+1)).length:=by omega
    subst this;simp
end
section
variable {d:ALC} {c:ALK} {B1 B2:AL7 Bt}
theorem aM(hd:AL d)(hc:ED d c)(h1:Bj d B1)(h2:Bj d B2)(hl:B1.length=B2.length)(BJ:lQ d B1 B2 (C0 c)){a b:Nat}(g:Gap B1 B2 (C0 c) a b):(∃i k,lN d c B1 a b i k)/\∃i k,lN d c B2 a b i k:=by
 have X6:∀q,a<q->q<b->Sd B1 (C0 c) q=false/\Sd B2 (C0 c) q=false:=λq q1 q2=>by
  have:=g.no q q1 q2;unfold jd at this;rwa [AJY]at this
 have wJ:∀q,1<=q->q<B1.length->jd B1 B2 (C0 c) q=true->(fY (S7 B1 q)=true->Sd B1 (C0 c) q=true)/\(fY (S7 B2 q)=true->Sd B2 (C0 c) q=true):=λq q1 q2 hq=>by
  have hs:=BJ.2 q q1 q2;unfold jd at hq;rw[AKe]at hq;rcases hq with hq |hq
  ·exact⟨λ_=>hq,hs.1 hq⟩
  ·exact⟨hs.2 hq,λ_=>hq⟩
 have Bh:=g.lt;have Ug:=g.le;constructor
 ·refine xj (B':=B2) hd hc h1 hl g.lt g.le (λq q1 q2=>(X6 q q1 q2).1) ?_ ?_ λx hx=>BJ.1 x (AJw _ hx)
  ·rcases AJm a with h0 |h0
   ·exact .inl h0
   ·exact .inr (wJ a h0 (by omega) (g.fr.resolve_left (by omega))).1
  ·rcases g.to with e |e
   ·exact .inl e
   ·rcases AI9 b B1.length with hb |hb
    ·exact .inr (wJ b (by omega) hb e).1
    ·exact .inl (by omega)
 ·refine xj (B':=B1) hd hc h2 hl.symm g.lt (by omega) (λq q1 q2=>(X6 q q1 q2).2) ?_ ?_ λx hx=>BJ.1 x (AJx _ hx)
  ·rcases AJm a with h0 |h0
   ·exact .inl h0
   ·exact .inr (wJ a h0 (by omega) (g.fr.resolve_left (by omega))).2
  ·rcases g.to with e |e
   ·exact .inl (by omega)
   ·rcases AI9 b B1.length with hb |hb
    ·exact .inr (wJ b (by omega) hb e).2
    ·exact .inl (by omega)
theorem ru{B:AL7 Bt}(h:Bj d B):1<=(Av B).length:=by
 rcases AJm (Av B).length with h0 |h0
 ·have e:Av B=[]:=AJT h0;have:=Cm B;rw[e]at this;have:=h.1;simp[A5]at *;omega
 ·exact h0
theorem ACl{B:AL7 Bt}(h:Bj d B):fst B 0=true:=by
 have hp:=ru h;have:=(RZ (f:=Av B) (i:=0) (k:=0) (by omega) (C1 B _ (AE (z:=Sg.co []) (show 0<(Av B).length by omega)))).2.1;rw[AKS]at this;exact this
theorem iZ(hd:AL d)(hc:ED d c)(hb:Uj c)(h1:Bj d B1)(h2:Bj d B2)(hl:B1.length=B2.length)(BJ:lQ d B1 B2 (C0 c)) :
    RQ (fN B1) (fN B2) (c,()) (dA (SL d c d.length) (SL d c d.length).length)=some (dA (SL d c d.length) (SL d c d.length).length,PP (SL d c d.length) B1 B2 0 (eL B1 B2 (C0 c) B1.length++[B1.length])):=by
 unfold RQ;have uh:=h1.1;have hn2:=h1.2.1;have pl:∀{B:AL7 Bt},Bj d B->(Jm c (Av B) (Av B).length).length<=20000000/\1<=(Jm c (Av B) (Av B).length).length:=λ{B} h=>by
  have hlen:=CQ (C1 B);rw[Cm]at hlen;have zK:=h.2.1;have q1:(Jm c (Av B) (Av B).length).length<=4097*(Av B).length:=VY λi hi=>xd hd hc (Xn h (AE hi)).1 _;refine⟨by omega,?_⟩;have hp:=ru h;have:((A5 ((Av B).take 0):Nat):Int)∈Jm c (Av B) (Av B).length:=List.mem_flatMap.2 ⟨0,List.mem_range.2 (by omega),AJt⟩;exact List.length_pos_of_mem this
 have p1:=pl h1;have p2:=pl h2;rw[rC hd hc hb h1,AIY,rC hd hc hb h2,AIY,mj p1.2 (by omega) (by omega),AIY,AJg (by rw[AI2];omega),Ae6 h1,AIY];have hu:M0 (NQ (Jm c (Av B1) (Av B1).length++Jm c (Av B2) (Av B2).length))=(0::eL B1 B2 (C0 c) B1.length).map Int.ofNat:=by
  obtain⟨v1',v2'⟩:=cK (Jm c (Av B1) (Av B1).length++Jm c (Av B2) (Av B2).length);refine Y3 (λ_ _ h=>h) v1' ?_ λx=>?_
  ·rw[List.pairwise_map,List.pairwise_cons];refine⟨λq hq=>?_,(jT _).imp λ{a b} h=>?_⟩
   ·have:=(YE.1 hq).2.1;show((0:Nat):Int)<(q:Int);omega
   ·show(a:Int)<(b:Int);omega
  ·rw[v2',AJ2,kP hd hc h1,kP hd hc h2,List.mem_map];constructor
   ·intro hx;have:∃p:Nat,x=(p:Int)/\p<B1.length/\jd B1 B2 (C0 c) p=true:=by
     rcases hx with ⟨p,e,hp,hq⟩|⟨p,e,hp,hq⟩
     ·exact⟨p,e,hp,by unfold jd;rw[hq];rfl⟩
     ·exact⟨p,e,by omega,by unfold jd;rw[hq];simp⟩
    obtain⟨p,rfl,hp,hq⟩:=this;refine⟨p,?_,rfl⟩;rcases AJm p with h0 |h0
    ·rw[h0];exact AJt
    ·exact AJq _ (YE.2 ⟨hp,h0,hq⟩)
   ·rintro⟨p,hp,rfl⟩
    rcases List.mem_cons.1 hp with rfl |hp
    ·exact .inl ⟨0,rfl,by omega,by unfold Sd;rw[ACl h1];rfl⟩
    ·obtain⟨q1,q2,q3⟩:=YE.1 hp;unfold jd at q3;rw[AKe]at q3;rcases q3 with q3 |q3
     ·exact .inl ⟨p,rfl,q1,q3⟩
     ·exact .inr ⟨p,rfl,by omega,q3⟩
 rw[hu];generalize hE:eL B1 B2 (C0 c) B1.length=E;have zI:E.length<=4096:=by rw[<-hE];have:=tO (B1:=B1) (B2:=B2) (h:=C0 c) B1.length;omega
 have kl:(((0::E).map Int.ofNat)++[(B1.length:Int)]).length=E.length+2:=by simp
 have hw:wI (((((0::E).map Int.ofNat)++[(B1.length:Int)]).length:Int)-1)=((E.length+1:Nat):Int):=A4 (by rw[kl];omega) (by omega);rw[AJg (by simp;omega),hw,AJg ⟨by omega,by omega,by rw[kl];omega⟩,AIZ,ALe];have ht:((((0::E).map Int.ofNat)++[(B1.length:Int)]).take (E.length+1))=(0::E).map Int.ofNat:=by
  rw[AJ4 (by simp)];exact AI8 (by simp)
 rw[ht];have yu:(((0::E).map Int.ofNat).length:Int)=((E.length+1:Nat):Int):=by simp
 rw[yu];have qG:PT (fN B1) (fN B2) (((0::E).map Int.ofNat)++[(B1.length:Int)]) ((0::E).map Int.ofNat) ((E.length+1:Nat):Int) 0 (dA (SL d c d.length) (SL d c d.length).length) []=some (dA (SL d c d.length) (SL d c d.length).length,PP (SL d c d.length) B1 B2 0 (E++[B1.length])):=by
  unfold PT;have:=AU (f:=Gh (fN B1) (fN B2) (((0::E).map Int.ofNat)++[(B1.length:Int)]) ((0::E).map Int.ofNat) ((E.length+1:Nat):Int)) (λi=>((i:Int),dA (SL d c d.length) (SL d c d.length).length,PP (SL d c d.length) B1 B2 0 ((E++[B1.length]).take i))) (t:=(dA (SL d c d.length) (SL d c d.length).length,PP (SL d c d.length) B1 B2 0 (E++[B1.length]))) (E.length+1) (λi hi=>?_) ?_
  ·exact this
  ·unfold Gh Mh;have AGP:(E++[B1.length]).length=E.length+1:=by simp
   obtain⟨p,hp⟩:∃p,p=(E++[B1.length]).getD i 0:=⟨_,rfl⟩;have ka:((0::E).map Int.ofNat).getD i ALP.zero=((NC 0 ((E++[B1.length]).take i):Nat):Int):=by
    match i,hi with
    |0,_=>rfl
    |j+1,hj =>
     have hjE:j<E.length:=by omega
     have e1:((0::E).map Int.ofNat).getD (j+1) ALP.zero=((E.getD j 0:Nat):Int):=by simp[List.getD,hjE]
     rw[e1,AJ4 (by omega),AW (z:=0) hjE];rw[show NC 0 (E.take j++[E.getD j 0])=E.getD j 0 from List.getLastD_concat]
   have kb:(((0::E).map Int.ofNat)++[(B1.length:Int)]).getD (i+1) ALP.zero=(p:Int):=by
    rw[hp];have e1:((0::E).map Int.ofNat)++[(B1.length:Int)]=0::(E++[B1.length]).map Int.ofNat:=by simp
    rw[e1];simp only[List.getD,AK9,AJr];have:(E++[B1.length])[i]?=some ((E++[B1.length])[i]'(by omega)):=AJ6 (by omega);rw[this];rfl
   have gap:Gap B1 B2 (C0 c) (NC 0 ((E++[B1.length]).take i)) p:=by
    rcases AI9 i E.length with Bh |ae
    ·have yw:p=E[i]:=by rw[hp];simp only[List.getD];rw[AJl Bh,AJ6 Bh];rfl
     have hm:p∈E:=by rw[yw];exact AJG Bh
     rw[<-hE]at hm;obtain⟨m1,m2,m3⟩:=YE.1 hm;have ht2:(E++[B1.length]).take i=eL B1 B2 (C0 c) p:=by
      rw[AJ4 (by omega),yw];subst hE;exact mr _ Bh
     rw[ht2];exact fG m2 (by omega) (.inr m3)
    ·have hie:i=E.length:=by omega
     have yw:p=B1.length:=by rw[hp,hie];simp[List.getD]
     have ht2:(E++[B1.length]).take i=eL B1 B2 (C0 c) p:=by
      rw[hie,AJ4 (AI4 _),AI8 (AI4 _),<-hE,yw]
     rw[ht2];exact fG (by omega) (by omega) (.inl yw)
   obtain⟨⟨i1,k1,s1⟩,⟨i2,k2,s2⟩⟩:=aM hd hc h1 h2 hl BJ gap;obtain⟨r1,a1,a2,a3⟩:=b9 hd h1 s1;obtain⟨r2,b1,b2,b3⟩:=b9 hd h2 s2;have hgl:=gap.lt;have AHh:=gap.le;have hwd:wI ((p:Int)-((NC 0 ((E++[B1.length]).take i):Nat):Int))=((p-NC 0 ((E++[B1.length]).take i):Nat):Int):=A4 (by omega) (by omega);have hi1:wI ((i:Int)+1)=((i+1:Nat):Int):=A4 (by omega) (by omega);simp only[hi1,AIZ,ka,kb,hwd];have hPl:(PP (SL d c d.length) B1 B2 0 ((E++[B1.length]).take i)).length<=5000:=by rw[lM,AJj];omega
   rw[show decide ((i:Int)<((E.length+1:Nat):Int))=true from AI3 (by omega),AJe,AJa,AJg (Bf (by simp;omega)),AJg (Bf (by simp;omega))];rw[<-AJf,a1,AIY];simp only[a2];rw[<-AJf,b1,AIY,AJg (by simp only[AI2,AJL,List.length_nil];omega)];simp only[b2,a3,b3];rw[AW (z:=0) (by omega),Zg,<-hp];rfl
  ·unfold Gh Mh;simp only;rw[D1,AJd,AI8 (by simp)]
 rw[qG];rfl
def eX(B1 B2:AL7 Bt)(h:Nat->Nat->Bool)(p:Nat):ALz:=if p<=B1.length then eL B1 B2 h p else eL B1 B2 h B1.length++[B1.length]
theorem ju(hd:AL d)(hc:ED d c)(h1:Bj d B1)(h2:Bj d B2)(hl:B1.length=B2.length)(BJ:lQ d B1 B2 (C0 c)) :
    K8 (M d 1 (C0 c)) (NM d (SL d c d.length) (SL d c d.length).length) (SL d c d.length) (bV B1) (Wr (Av B1)) (bV B2) (Wr (Av B2)) 0 1 []=some (.inr (PP (SL d c d.length) B1 B2 0 (eL B1 B2 (C0 c) B1.length++[B1.length]))):=by
 unfold K8;have uh:=h1.1;have hn2:=h1.2.1;have:=AU (f:=DR (M d 1 (C0 c)) (NM d (SL d c d.length) (SL d c d.length).length) (SL d c d.length) (bV B1) (Wr (Av B1)) (bV B2) (Wr (Av B2))) (λj=>(((NC 0 (eX B1 B2 (C0 c) (j+1)):Nat):Int),((j+1:Nat):Int),PP (SL d c d.length) B1 B2 0 (eX B1 B2 (C0 c) (j+1)))) (t:=.inr (PP (SL d c d.length) B1 B2 0 (eL B1 B2 (C0 c) B1.length++[B1.length]))) B1.length (λj hj=>?_) ?_
 ·have e0:eX B1 B2 (C0 c) (0+1)=[]:=by unfold eX;rw[AJg (by omega)];exact tP
  simp only[e0]at this;exact this
 ·unfold DR IJ;have eX1:eX B1 B2 (C0 c) (j+1)=eL B1 B2 (C0 c) (j+1):=by unfold eX;rw[AJg (by omega)]
  have hPl:(PP (SL d c d.length) B1 B2 0 (eL B1 B2 (C0 c) (j+1))).length<=5000:=by rw[lM];have:=tO (B1:=B1) (B2:=B2) (h:=C0 c) (j+1);omega
  simp only[eX1];rw[C6,show decide (((j+1:Nat):Int)<=(B1.length:Int))=true from AI3 (by omega),AJe];by_cases AcM:j+1=B1.length\/jd B1 B2 (C0 c) (j+1)=true
  ·have e7:Ef (M d 1 (C0 c)) (NM d (SL d c d.length) (SL d c d.length).length) (SL d c d.length) ((NC 0 (eL B1 B2 (C0 c) (j+1)):Nat):Int) ((j+1:Nat):Int) (PP (SL d c d.length) B1 B2 0 (eL B1 B2 (C0 c) (j+1))) (bV B1) (Wr (Av B1)) (bV B2) (Wr (Av B2))=some (.inr ()):=by
     unfold Ef;rw[C6];rcases AI9 (j+1) B1.length with Bh |ae
     ·have hq:=AcM.resolve_left (by omega);unfold jd at hq;rw[show decide (((j+1:Nat):Int)<(B1.length:Int))=true from AI3 (by omega),AJe,Rb hd h1 Bh,AIY];cases hA:Sd B1 (C0 c) (j+1)with
      |true=>rfl
      |false =>
       rw[hA,AKm]at hq;rw[AKT,AJe,Rb hd h2 (by omega),AIY,hq];rfl
     ·rw[show decide (((j+1:Nat):Int)<(B1.length:Int))=false from AI1 (by omega),AJd]
   have gap:=fG (B1:=B1) (B2:=B2) (h:=C0 c) (show 1<=j+1 by omega) (by omega) AcM;obtain⟨⟨i1,k1,s1⟩,⟨i2,k2,s2⟩⟩:=aM hd hc h1 h2 hl BJ gap;obtain⟨r1,a1,a2,a3⟩:=cA hd h1 s1;obtain⟨r2,b1,b2,b3⟩:=cA hd h2 s2;have hgl:=gap.lt;have hwd:wI (((j+1:Nat):Int)-((NC 0 (eL B1 B2 (C0 c) (j+1)):Nat):Int))=((j+1-NC 0 (eL B1 B2 (C0 c) (j+1)):Nat):Int):=A4 (by omega) (by omega);unfold Jb QF;rw[e7,AIY];simp only[AJO];rw[a1,AIY,b1,AIY];simp only[a2,b2,hwd,AJH,Bool.or_false,AJd];rw[AJg (by simp only[AI2,AJL,List.length_nil];omega),AIY];simp only[AKd,a3,b3];have eX2:eX B1 B2 (C0 c) (j+1+1)=eL B1 B2 (C0 c) (j+1)++[j+1]:=by
    unfold eX;rcases AI9 (j+1) B1.length with Bh |ae
    ·rw[AJg (by omega),dv _ (by omega),AJg (AcM.resolve_left (by omega))]
    ·rw[AJh (by omega),show B1.length=j+1 by omega]
   rw[eX2,Zg,A4 (x:=((j+1:Nat):Int)+1) (n:=j+1+1) (by omega) (by omega)];have:NC 0 (eL B1 B2 (C0 c) (j+1)++[j+1])=j+1:=by unfold NC;simp
   rw[this];rfl
  ·have AcN:j+1<B1.length/\jd B1 B2 (C0 c) (j+1)=false:=by
     rw[not_or]at AcM;exact⟨by omega,by simpa using AcM.2⟩
   have hq:=AcN.2;unfold jd at hq;rw[AJY]at hq;have e7:Ef (M d 1 (C0 c)) (NM d (SL d c d.length) (SL d c d.length).length) (SL d c d.length) ((NC 0 (eL B1 B2 (C0 c) (j+1)):Nat):Int) ((j+1:Nat):Int) (PP (SL d c d.length) B1 B2 0 (eL B1 B2 (C0 c) (j+1))) (bV B1) (Wr (Av B1)) (bV B2) (Wr (Av B2))=some (.inl ()):=by
    unfold Ef;rw[C6,show decide (((j+1:Nat):Int)<(B1.length:Int))=true from AI3 (by omega),AJe,Rb hd h1 AcN.1,AIY,hq.1,AKT,AJe,Rb hd h2 (by omega),AIY,hq.2];rfl
   unfold Jb;rw[e7,AIY];simp only[AKd];rw[AIY];simp only[AKd];have eX2:eX B1 B2 (C0 c) (j+1+1)=eL B1 B2 (C0 c) (j+1):=by
    unfold eX;rw[AJg (by omega),dv _ (by omega),AcN.2];rfl
   rw[eX2,A4 (x:=((j+1:Nat):Int)+1) (n:=j+1+1) (by omega) (by omega)]
 ·unfold DR IJ;have eX1:eX B1 B2 (C0 c) (B1.length+1)=eL B1 B2 (C0 c) B1.length++[B1.length]:=by unfold eX;rw[AJh (by omega)]
  simp only[eX1];rw[C6,show decide (((B1.length+1:Nat):Int)<=(B1.length:Int))=false from AI1 (by omega),AJd]
end
section
end
end Go.Proofs.X
namespace Go.Va
open Go.Proofs.X
theorem Ap5{A B:Type}{F:A->Int->AL8 Int}{G:B->Int->AL8 Int}{x:A}{y:B}{m n:Nat}(hF:∀left:Int,0<=left->left<=1048576->F x left=some (if(m:Int)<=left then left-(m:Int)else -1))(hG:∀left:Int,0<=left->left<=1048576->G y left=some (if(n:Int)<=left then left-(n:Int)else -1)){left:Int}(h0:0<=left)(h1:left<=1048576) :
    ((F x left).bind λc=>bif decide (c<0)then some (-1)else(G y c).bind λd=>bif decide (d<0)then some (-1)else some d)=some (if((m+n:Nat):Int)<=left then left-((m+n:Nat):Int)else -1):=by
 rw[hF left h0 h1,AIY];split
 ·rw[AI1 (by omega),AJd,hG _ (by omega) (by omega),AIY];split
  ·rw[AI1 (by omega),AJd,AJg (by omega)];congr 1;omega
  ·rw[AJh (by omega)];rfl
 ·rw[AJh (by omega)];rfl
theorem AeV{A:Type}{F:A->Int->AL8 Int}{x:A}{m:Nat}(hF:∀left:Int,0<=left->left<=1048576->F x left=some (if(m:Int)<=left then left-(m:Int)else -1)){left:Int}(h0:0<=left)(h1:left<=1048576) :
    ((F x left).bind λc=>bif decide (c<0)then some (-1)else some c)=some (if(m:Int)<=left then left-(m:Int)else -1):=by
 rw[hF left h0 h1,AIY];split
 ·rw[AI1 (by omega),AJd]
 ·rfl
theorem AhP{m:Nat}{left:Int}(h0:0<=left)(h1:left<=1048576)(hn:m<=maxLen):(bif decide ((wI (left-(m:Int)))<0)then(-1)else wI (left-(m:Int)))=if(m:Int)<=left then left-(m:Int)else -1:=by
 unfold maxLen at hn;rw[BO (by omega) (by omega)];split
 ·rw[show decide (left-(m:Int)<0)=false by simp;omega];rfl
 ·rw[show decide (left-(m:Int)<0)=true by simp;omega];rfl
theorem bP{A E:Type}{F:A->AL8 E}{mk:E->A}{z z0:A}{r:Int×AL7 A->AL8 ((Int×AL7 A)⊕AL7 A)}{a:AL7 A}
    (hr:∀x,r x=bif decide (x.1<(a.length:Int))then(if(0:Int)<=x.1/\x.1<(a.length:Int)then(F (a.getD x.1.toNat z)).bind λe=>(if(0:Int)<=x.1/\x.1<(x.2.length:Int)then some (.inl (wI (x.1+1),x.2.set x.1.toNat (mk e)))else none)else none)else some (.inr x.2))
    (hn:a.length<=1048576) (hF:∀x∈a,∃e,F x=some e/\mk e=x):fix r (0,List.replicate a.length z0)=some a:=by
 have:=AU (f:=r) (λk=>((k:Int),Go.Proofs.X.B8 (λi=>a.getD i z) z0 a.length k)) (t:=a) a.length (λk hk=>by
  rw[hr];simp only;obtain⟨e,he,hm⟩:=hF (a.getD k z) (by simp[List.getD,hk]);rw[Dl hk,AJe,AJg (Bf hk),AIZ,he,AIY,Go.Proofs.X.Ge,AJg (Bf hk),hm];rw[show wI ((k:Int)+1)=((k+1:Nat):Int)from Go.Proofs.X.Bc hk hn,Go.Proofs.X.O4 (λi=>a.getD i z) z0]) (by
  rw[hr];simp only;rw[D1,AJd,Go.Proofs.X.fA])
 have h:fix r (((0:Nat):Int),Go.Proofs.X.B8 (λi=>a.getD i z) z0 a.length 0)=some a:=this;rw[Go.Proofs.X.Lv]at h;exact h
end Go.Va
namespace Go.Proofs.X
open Go Go.Va
set_option maxRecDepth 100000
theorem zx{a:ALm}(h:Ty.Wf Ad a):Zi Ad (λx l=>some (HP x l)) a:=λleft h0 h1=>by
 show some (HP a left)=_;unfold HP;rw[AhP h0 h1 h.1];rfl
theorem u0{a:ALC}(h:Ty.Wf (.sl Ad) a):Zi (.sl Ad) Tc a :=
 oF (z :=Ad.zero) (r:=KY) (λ_ _=>rfl) (λ_ _=>rfl) h.1 λx hx=>zx (h.2 x hx)
theorem zu{a:ALq}(h:Ty.Wf Ah a):Zi Ah (λx l=>some (Cv x l)) a:=λleft h0 h1=>by
 have hu:=oG h.2.1.1 left h0 h1;have e:wt Ah a=wt (.sl (.int .u64)) a.2.1:=by show 0+(_+0)=_;omega
 show some (Cv a left)=_;unfold Cv;rw[e];have zO:B9 a.2.1 left=_:=Option.some.inj hu;rw[zO];congr 1;split
 ·rw[AI1 (by omega),AJd]
 ·rfl
theorem u4{a:ALo}(h:Ty.Wf Af a):Zi Af (λx l=>some (FV x l)) a:=λleft h0 h1=>by
 have hb:=zu h.2.2.2.2.1 left h0 h1;have sB:Cv a.2.2.2.2.1 left=_:=Option.some.inj hb;have hi:∀l:Int,0<=l->l<=1048576->BG a.2.2.2.2.2.1 l=_:=λl h0 h1=>Option.some.inj (cE h.2.2.2.2.2.1.1 l h0 h1);have e:wt Af a=wt Ah a.2.2.2.2.1+wt (.sl (.int .i64)) a.2.2.2.2.2.1:=by show 0+(0+(0+(0+(_+(_+0)))))=_;omega
 show some (FV a left)=_;unfold FV;rw[sB,e];congr 1;generalize wt Ah a.2.2.2.2.1=m at *;by_cases hm:(m:Int)<=left
 ·rw[AJg hm,AI1 (by omega),AJd,hi _ (by omega) (by omega)];generalize wt (.sl (.int .i64)) a.2.2.2.2.2.1=n at *;by_cases hn:(n:Int)<=left-(m:Int)
  ·rw[AJg hn,AI1 (by omega),AJd,AJg (by omega)];omega
  ·rw[AJh hn,AJh (by omega)];rfl
 ·rw[AJh hm,AJh (by omega)];rfl
theorem sa{a:ALE}(h:Ty.Wf (.sl Af) a):Zi (.sl Af) NF a :=
 oF (z :=Af.zero) (r:=JM) (λ_ _=>rfl) (λ_ _=>rfl) h.1 λx hx=>u4 (h.2 x hx)
theorem lh{a:ALv}(h:Ty.Wf Ar a):Zi Ar LL a:=λleft h0 h1 =>
 AeV (F:=NF) (x:=a.1) (sa h.1) h0 h1
theorem oE{a:ALp}(h:Ty.Wf Ag a):Zi Ag PZ a:=λleft h0 h1=>by
 have e:wt Ag a=wt Ar a.2.2.1+wt Ar a.2.2.2.1:=by show 0+(0+(_+(_+0)))=_;omega
 rw[e];exact Ap5 (F:=LL) (G:=LL) (lh h.2.2.1) (lh h.2.2.2.1) h0 h1
theorem jz{a:ALF}(h:Ty.Wf (.sl Ag) a):Zi (.sl Ag) Ob a :=
 oF (z :=Ag.zero) (r:=HQ) (λ_ _=>rfl) (λ_ _=>rfl) h.1 λx hx=>oE (h.2 x hx)
theorem Y8{t:Ty}(a:AL7 t.V):a.length<=wt (.sl t) a:=Nat.le_add_right _ _
theorem vk{t:Ty}{a:AL7 t.V}{x:t.V}(h:x∈a):wt t x<=wt (.sl t) a:=by
 show _<=a.length+(a.map (wt t)).sum;have:∀l:AL7 t.V,x∈l->wt t x<=(l.map (wt t)).sum:=λl hl=>by
  induction l with
  |nil=>cases hl
  |cons y l ih =>
   simp only[AJI,AKp];rcases List.mem_cons.1 hl with rfl |hl
   ·omega
   ·have:=ih hl;omega
 have:=this a h;omega
theorem ApU{n:ALo}(hw:Ty.Wf Af n)(h:wt Af n<=1048576):WL n:=by
 have e:wt Af n=wt (.sl (.int .u64)) (cu n)+wt (.sl (.int .i64)) (AA n):=by show 0+(0+(0+(0+((0+(_+0))+(_+0)))))=_;unfold cu AA;omega
 rw[e,vn,vj]at h;exact⟨by omega,by omega,Ae8 hw.2.2.2.2.1.2.1.2⟩
theorem AeY{t:ALv}(hw:Ty.Wf Ar t)(h:wt Ar t<=1048576):SS t.1:=by
 have e:wt Ar t=wt (.sl Af) t.1:=rfl;rw[e]at h;exact⟨AJs (Y8 t.1) h,λn hn=>ApU (hw.1.2 n hn) (AJs (vk hn) h)⟩
theorem AAc{x:ALp}(hw:Ty.Wf Ag x)(h:wt Ag x<=1048576):Uk x:=by
 have e:wt Ag x=wt Ar x.2.2.1+wt Ar x.2.2.2.1:=by show 0+(0+(_+(_+0)))=_;omega
 rw[e]at h;exact⟨AeY hw.2.2.1 (by omega),AeY hw.2.2.2.1 (by omega)⟩
theorem vd{a:ALC}(h:a.length<=1048576):BU a=some a:=by
 unfold BU Sy;rw[AJg ⟨rfl,by omega,by omega,by omega,by omega⟩,AIZ,bP (r:=KZ a) (F:=λx=>some (UC x)) (mk:=λe=>(e.1,e.2,())) (z :=Ad.zero) (λ_=>rfl) h (λx _=>⟨_,rfl,rfl⟩)];rfl
theorem oK{a:ALx}(h:a.length<=1048576):I6 a=some a:=by
 unfold I6 P3;rw[AJg ⟨rfl,by omega,by omega,by omega,by omega⟩,AIZ,bP (r:=IH a) (F:=λx=>some x) (mk:=λe=>e) (z:=Ty.zero (.int .u64)) (λ_=>rfl) h (λx _=>⟨_,rfl,rfl⟩)];rfl
theorem cG{a:ALx}(h:a.length<=1048576):Ga a=some a:=by
 unfold Ga Q3;rw[AJg ⟨rfl,by omega,by omega,by omega,by omega⟩,AIZ,bP (r:=JO a) (F:=λx=>some x) (mk:=λe=>e) (z:=Ty.zero (.int .i64)) (λ_=>rfl) h (λx _=>⟨_,rfl,rfl⟩)];rfl
theorem sj{a:ALE}(h:SS a):NG a=some a:=by
 unfold NG Q4;have hl:=h.1;rw[AJg ⟨rfl,by omega,by omega,by omega,by omega⟩,AIZ,bP (r:=JQ a) (F:=P2) (mk:=λe=>(e.1,e.2.1,e.2.2.1,e.2.2.2.1,(e.2.2.2.2.1,e.2.2.2.2.2.1,()),e.2.2.2.2.2.2,())) (z :=Af.zero) (λ_=>rfl) hl (λx hx=>by
  have hn:=h.2 x hx;unfold P2 UB;rw[show I6 x.2.2.2.2.1.2.1=some x.2.2.2.2.1.2.1 from oK hn.2.1,AIY,AIY,show Ga x.2.2.2.2.2.1=some x.2.2.2.2.2.1 from cG hn.1];exact⟨_,rfl,rfl⟩)]
 rfl
theorem lj{t:ALv}(h:SS t.1):Ph t=some t.1:=by
 unfold Ph;rw[sj h];rfl
theorem jA{a:ALF}(hl:a.length<=1048576)(h:∀x∈a,Uk x):A9 a=some a:=by
 unfold A9 OT;rw[AJg ⟨rfl,by omega,by omega,by omega,by omega⟩,AIZ,bP (r:=HR a) (F:=LN) (mk:=λe=>(e.1,e.2.1,(e.2.2.1,()),(e.2.2.2,()),())) (z :=Ag.zero) (λ_=>rfl) hl (λx hx=>by
  unfold LN;rw[lj (h x hx).1,AIY,lj (h x hx).2];exact⟨_,rfl,rfl⟩)]
 rfl
end Go.Proofs.X
namespace Go.Va
open Go.Proofs.X
def Ch{A:Type}(H:Int->A->Int->Prop):AL7 A->Int->Int->Prop
 |[],k,k'=>k=k'
 |x::xs,k,k'=>∃m,H k x m/\Ch H xs m k'
section
variable {A:Type} {H:Int->A->Int->Prop}
theorem wh{x:A}:∀{l:AL7 A} {k k' m:Int},Ch H l k m->H m x k'->Ch H (l++[x]) k k'
 |[],_,_,_,h1,h2=>by cases h1;exact⟨_,h2,rfl⟩
 |_::_,_,_,_,⟨n,h0,h1⟩,h2=>⟨n,h0,wh h1 h2⟩
theorem XC(hH:∀b x b',H b x b'->b<=b'):∀{l:AL7 A} {k k':Int},Ch H l k k'->k<=k'
 |[],_,_,h=>by cases h;omega
 |_::_,_,_,⟨_,h0,h1⟩=>by have:=hH _ _ _ h0;have:=XC hH h1;omega
theorem gsS{d:AL7 A}{i:Nat}{x z:A}(h:i<d.length):(d.set i x).getD i z=x:=by simp[List.getD,h]
theorem jy{cost:A->Nat}{a:AL7 A}{z:A}{i:Nat}(h:i<a.length):((a.take (i+1)).map cost).sum=((a.take i).map cost).sum+cost (a.getD i z):=by
 rw[AJZ h,AJJ,AKx];simp[List.getD,h]
theorem r8{cost:A->Nat}{a:AL7 A}{i:Nat}:((a.take i).map cost).sum<=(a.map cost).sum:=by
 conv=>rhs;rw[<-AJ8 i a,AJJ,AKx]
 omega
theorem bJ{c:Nat}(l:AL7 A):(l.map λ_=>c).sum=c*l.length:=by
 induction l with
 |nil=>rfl
 |cons x l ih=>rw[AJI,AKp,ih,AJL,Nat.mul_succ];omega
theorem Q5{f:Int×Int×AL7 A->AL8 ((Int×Int×AL7 A)⊕(Int×AL7 A))}{cost:A->Nat}{z:A}{a:AL7 A}{k:Int}(M:Int)
    (hs:∀b i (d:AL7 A),i<a.length->d.length=a.length->d.getD i z=a.getD i z->0<=b->b+(cost (a.getD i z):Int)<=M ->
     Aw (f (b,(i:Int),d)) λr=>∃b' x',r=.inl (b',((i+1:Nat):Int),d.set i x')/\b<=b'/\b'<=b+(cost (a.getD i z):Int)/\H b x' b')
    (he:∀b (d:AL7 A),d.length=a.length->f (b,(a.length:Int),d)=some (.inr (b,d))) (h0:0<=k) (hM:k+(((a.map cost).sum:Nat):Int)<=M) :
    Aw (fix f (k,0,a)) λr=>k<=r.1/\r.1<=k+(((a.map cost).sum:Nat):Int)/\r.2.length=a.length/\Ch H r.2 k r.1:=by
 refine BW (λm (x:Int×Int×AL7 A)=>∃i:Nat,i<=a.length/\m=a.length-i/\x.2.1=(i:Int)/\x.2.2.length=a.length/\Ch H (x.2.2.take i) k x.1/\(∀j,i<=j->x.2.2.getD j z=a.getD j z)/\k<=x.1/\x.1<=k+((((a.take i).map cost).sum:Nat):Int)) (λm x hI=>?_) a.length _ ⟨0,AJU _,rfl,rfl,rfl,by simp[Ch],λ_ _=>rfl,by simp,by simp⟩;obtain⟨b,c,d⟩:=x;obtain⟨i,hi,rfl,h1,h2,h3,h4,h5,h6⟩:=hI;simp only at h1 h2 h3 h4 h5 h6;subst h1;rcases AI9 i a.length with h |h
 ·have Adi:=jy (cost:=cost) (z:=z) h;have Ug:=r8 (cost:=cost) (a:=a) (i:=i+1);refine(hs b i d h h2 (h4 i (AI4 _)) (by omega) (by omega)).mono λr hr=>?_;obtain⟨b',x',rfl,dC,mV,hH⟩:=hr;refine⟨a.length-(i+1),by omega,i+1,h,rfl,rfl,by rw[AI7];exact h2,?_,λj hj=>?_,by show k<=b';omega,by show b'<=_;omega⟩
  ·show Ch H ((d.set i x').take (i+1)) k b';rw[AJZ (by rw[AI7];omega),List.take_set_of_le (AI4 _)];simp only[List.getElem_set_self];exact wh h3 hH
  ·show(d.set i x').getD j z=_;rw[<-h4 j (by omega)];simp only[List.getD,AJn,show ¬i=j by omega,AKv]
 ·have:i=a.length:=by omega
  subst this;rw[he b d h2];rw[AI8 (by omega)]at h3;rw[AI8 (AI4 _)]at h6;exact Aw.mk ⟨h5,h6,h2,h3⟩
theorem XM{f:Int×Int->AL8 ((Int×Int)⊕(Int⊕Int))}{z:A}{a:AL7 A}(hs:∀i b b',i<a.length->H b (a.getD i z) b'->f (b,(i:Int))=some (.inl (b',((i+1:Nat):Int))))(he:∀b,f (b,(a.length:Int))=some (.inr (.inr b))){k k':Int}(h:Ch H a k k'):fix f (k,0)=some (.inr k'):=by
 have:∀(l:AL7 A) (i:Nat) (b:Int),a.drop i=l->i+l.length=a.length->Ch H l b k'->fix f (b,(i:Int))=some (.inr k'):=λl=>by
  induction l with
  |nil =>
   intro i b h1 h2 h3;have h3:b=k':=h3;subst h3;have:i=a.length:=by simpa using h2
   rw[this];exact Ki (he b)
  |cons x l ih =>
   intro i b h1 h2 h3;obtain⟨m,h3,h4⟩:=h3;simp only[AJL]at h2;have hi:i<a.length:=by omega
   rw[AKy hi]at h1;injection h1 with h1 h5;have hx:a.getD i z=x:=by rw[<-h1];simp[List.getD,hi]
   rw[Ns (hs i b m hi (by rw[hx];exact h3))];exact ih (i+1) m h5 (by omega) h4
 exact this a 0 k rfl (by simp) h
end
end Go.Va
namespace Go.Proofs.X
open Go Go.Va
set_option maxRecDepth 100000
theorem w1{b:Int}(h0:0<=b)(h1:b<=2305843009213693952):wI (b+1)=b+1:=BO (by omega) (by omega)
def Hu(b x b':Int):Prop:=x=IntKind.u64.wrap b/\b'=b+1/\0<=b/\b'<=2305843009213693952
theorem Ahb{b x b':Int}(h:Hu b x b'):b<=b':=by have:=h.2.1;omega
def dY{A:Type}(H:Int->A->Int->Prop)(a:AL7 A)(n:Nat)(k:Int)(r:Int×AL7 A):Prop:=k<=r.1/\r.1<=k+(n:Int)/\r.2.length=a.length/\Ch H r.2 k r.1
theorem Xh{a:ALx}(hn:a.length<=1048576){k:Int}(h0:0<=k)(hk:k+(a.length:Int)<=2305843009213693952):Aw (Gm k a) (dY Hu a a.length k):=by
 unfold Gm Ni;have hc:(a.map λ_=>1).sum=a.length:=by rw[bJ];omega
 have:=Q5 (f:=CZ) (cost:=λ_=>1) (z:=(0:Int)) (a:=a) (H:=Hu) (k:=k) 2305843009213693952 (λb i d hi hd hg iO hb=>by
  unfold CZ G6
  try simp only
  try simp only at hb
  rw[hd,Dl hi,AJe,AJg (Bf hi),AIZ,w1 iO (by omega),Bc hi hn];exact Aw.mk ⟨b+1,_,rfl,by omega,by omega,rfl,rfl,iO,by omega⟩) (λb d hd=>by
  unfold CZ G6
  try simp only
  rw[hd,D1,AJd]) h0 (by rw[hc];exact hk)
 rw[hc]at this;exact this.bind λr hr=>Aw.mk hr
theorem fP{a:ALx}(hn:a.length<=1048576){k k':Int}(h:Ch Hu a k k'):I5 a k=some k':=by
 unfold I5 Ng;rw[XM (f:=CX a) (z:=(0:Int)) (H:=Hu) (λi b b' hi hH=>by
  unfold CX G4
  try simp only
  obtain⟨h1,h2,h3,h4⟩:=hH;rw[Dl hi,AJe,AJg (Bf hi),AIZ,show(Ty.zero ALQ:Int)=0 from rfl,h1,AKu,AJd,w1 h3 (by omega),Bc hi hn,h2]) (λb=>by
  unfold CX G4
  try simp only
  rw[D1,AJd]) h]
 rfl
def Hi(b x b':Int):Prop:=x=b/\b'=b+1/\0<=b/\b'<=2305843009213693952
theorem mX{b x b':Int}(h:Hi b x b'):b<=b':=by have:=h.2.1;omega
theorem Rx{a:ALx}(hn:a.length<=1048576){k:Int}(h0:0<=k)(hk:k+(a.length:Int)<=2305843009213693952):Aw (Dr k a) (dY Hi a a.length k):=by
 unfold Dr LH;have hc:(a.map λ_=>1).sum=a.length:=by rw[bJ];omega
 have:=Q5 (f:=CK) (cost:=λ_=>1) (z:=(0:Int)) (a:=a) (H:=Hi) (k:=k) 2305843009213693952 (λb i d hi hd hg iO hb=>by
  unfold CK FT
  try simp only
  try simp only at hb
  rw[hd,Dl hi,AJe,AJg (Bf hi),AIZ,w1 iO (by omega),Bc hi hn];exact Aw.mk ⟨b+1,_,rfl,by omega,by omega,rfl,rfl,iO,by omega⟩) (λb d hd=>by
  unfold CK FT
  try simp only
  rw[hd,D1,AJd]) h0 (by rw[hc];exact hk)
 rw[hc]at this;exact this.bind λr hr=>Aw.mk hr
theorem UV{a:ALx}(hn:a.length<=1048576){k k':Int}(h:Ch Hi a k k'):DW a k=some k':=by
 unfold DW OP;rw[XM (f:=Dd a) (z:=(0:Int)) (H:=Hi) (λi b b' hi hH=>by
  unfold Dd HI
  try simp only
  obtain⟨h1,h2,h3,h4⟩:=hH;rw[Dl hi,AJe,AJg (Bf hi),AIZ,show(Ty.zero ALP:Int)=0 from rfl,h1,AKu,AJd,w1 h3 (by omega),Bc hi hn,h2]) (λb=>by
  unfold Dd HI
  try simp only
  rw[D1,AJd]) h]
 rfl
theorem ri(k:Int)(h1:k<=2305843009213693952):Aw (ND k) λ_=>True:=by
 unfold ND;refine Aw.cond (λ_=>Aw.mk trivial) λh=>?_;have hk:0<k:=by simpa using h
 refine Aw.bind (P:=λs=>s.size<=100) ?_ λs hs=>?_
 ·unfold Q2;refine BW (λm (x:Int×ByteArray)=>∃j n:Nat,j<=70/\m=70-j/\x.1=(n:Int)/\n*2^j<=2^62/\x.2.size=j) (λm x hI=>?_) 70 _ ⟨0,k.toNat,by omega,rfl,by show k=_;omega,by rw[Nat.pow_zero];omega,rfl⟩;obtain⟨b,c⟩:=x;obtain⟨j,n,hj,rfl,iO,dC,hc⟩:=hI;simp only at iO dC hc;subst iO;unfold JK OS;simp only;refine Aw.cond (λhb=>?_) λ_=>Aw.mk (by show c.size<=100;omega);have hb:(n:Int)>0:=AKE hb;have hp:1<=2^j:=Nat.one_le_two_pow;have AcJ:n*1<=n*2^j:=Nat.mul_le_mul_left _ hp;have hj2:j<=62:=by
   rcases AI9 62 j with h |h
   ·exfalso
    have h2:2^63<=2^j:=Nat.pow_le_pow_right (by omega) (by omega);have h3:1*2^j<=n*2^j:=AJX _ (by omega);omega
   ·exact h
  rw[AJg (by show(1:Nat)+c.size<=_;omega)];have hd:Int.tdiv (n:Int) 10=((n/10:Nat):Int):=rfl;rw[hd,BO (by omega) (by omega)];refine Aw.mk ⟨70-(j+1),by omega,j+1,n/10,by omega,rfl,rfl,?_,?_⟩
  ·have h4:n/10*2<=n:=by omega
   have h5:=AJX (2^j) h4;rw[Nat.pow_succ,Nat.mul_comm (2^j) 2,<-Nat.mul_assoc];omega
  ·show(bytesOf [_]++c).size=j+1;rw[ByteArray.size_append,hc];show 1+j=_;omega
 ·rw[AJg (by show(1:Nat)+s.size<=_;omega)];exact Aw.mk trivial
theorem nN{a:ALC}(hn:a.length<=1048576){k:Int}(h0:0<=k)(hk:k+((2*a.length:Nat):Int)<=2305843009213693952):Aw (LG k a) (dY (λ_ _ _=>True) a (2*a.length) k):=by
 unfold LG PX;have hc:(a.map λ_=>2).sum=2*a.length:=bJ a;have:=Q5 (f:=DK) (cost:=λ_=>2) (z :=Ad.zero) (a:=a) (H:=λ_ _ _=>True) (k:=k) 2305843009213693952 (λb i d hi hd hg iO hb=>by
  unfold DK ID
  try simp only
  try simp only at hb
  rw[hd,Dl hi,AJe];refine(ri b (by omega)).bind λs _=>?_;have Ut:i<d.length:=by omega
  simp only[AI7,hd,AIZ,gsS Ut,AKJ];rw[AJg (Bf hi),AJg (Bf hi),w1 iO (by omega),w1 (by omega) (by omega),Bc hi hn];exact Aw.mk ⟨b+1+1,_,rfl,by omega,by omega,trivial⟩) (λb d hd=>by
  unfold DK ID
  try simp only
  rw[hd,D1,AJd]) h0 (by rw[hc];exact hk)
 rw[hc]at this;exact this.bind λr hr=>Aw.mk hr
def Zv(n:ALo):Nat:=5+(cu n).length+(AA n).length
theorem Yj{a:ALE}(hn:SS a){k:Int}(h0:0<=k)(hk:k+(((a.map Zv).sum:Nat):Int)<=2305843009213693952):Aw (Hj k a) (dY (λ_ _ _=>True) a (a.map Zv).sum k):=by
 unfold Hj OR;have hl:=hn.1;have:=Q5 (f:=Df) (cost:=Zv) (z :=Af.zero) (a:=a) (H:=λ_ _ _=>True) (k:=k) 2305843009213693952 (λb i d hi hd hg iO hb=>by
  unfold Df HO JJ JI JH;simp only;have Ut:i<d.length:=by omega
  have iB:WL (a.getD i Af.zero):=hn.2 _ (AE hi);unfold Zv at hb;rw[hd,Dl hi,AJe];simp(disch:=omega) only[w1,AI7,hd,AIZ,gsS Ut,AKJ,AJg (Bf hi),AIY,AJf];rw[hg];refine(Xh (a:=cu (a.getD i Af.zero)) iB.2.1 (by omega) (by omega)).bind λr hr=>?_;obtain⟨r1,r2,_,_⟩:=hr;refine(Rx (a:=AA (a.getD i Af.zero)) iB.1 (by omega) (by omega)).bind λq hq=>?_;obtain⟨q1,q2,_,_⟩:=hq;exact Aw.mk ⟨q.1,_,rfl,by omega,by unfold Zv;omega,trivial⟩) (λb d hd=>by
  unfold Df HO
  try simp only
  rw[hd,D1,AJd]) h0 hk
 exact this.bind λr hr=>Aw.mk hr
def pZ(t:ALE):Nat:=(t.map Zv).sum
def fe(x:ALp):Nat:=2+pZ x.2.2.1.1+pZ x.2.2.2.1.1
theorem dc{a:ALF}(hl:a.length<=1048576)(hn:∀x∈a,Uk x){k:Int}(h0:0<=k)(hk:k+(((a.map fe).sum:Nat):Int)<=2305843009213693952):Aw (HK k a) (dY (λ_ _ _=>True) a (a.map fe).sum k):=by
 unfold HK LJ;have:=Q5 (f:=CL) (cost:=fe) (z :=Ag.zero) (a:=a) (H:=λ_ _ _=>True) (k:=k) 2305843009213693952 (λb i d hi hd hg iO hb=>by
  unfold CL FU HN HM HL;simp only;have Ut:i<d.length:=by omega
  have iB:Uk (a.getD i Ag.zero):=hn _ (AE hi);unfold fe pZ at hb;rw[hd,Dl hi,AJe];simp(disch:=omega) only[w1,AI7,hd,AIZ,gsS Ut,AKJ,AJg (Bf hi),AIY,AJf];rw[hg];refine(Yj (a:=(a.getD i Ag.zero).2.2.1.1) iB.1 (by omega) (by omega)).bind λr hr=>?_;obtain⟨r1,r2,_,_⟩:=hr;refine(Yj (a:=(a.getD i Ag.zero).2.2.2.1.1) iB.2 (by omega) (by omega)).bind λq hq=>?_;obtain⟨q1,q2,_,_⟩:=hq;exact Aw.mk ⟨q.1,_,rfl,by omega,by unfold fe pZ;omega,trivial⟩) (λb d hd=>by
  unfold CL FU
  try simp only
  rw[hd,D1,AJd]) h0 hk
 exact this.bind λr hr=>Aw.mk hr
end Go.Proofs.X
namespace Go.Proofs.X
open Go Go.Va
set_option maxRecDepth 100000
theorem kp{x:Int}(h1:-1<=x)(h2:x<=1048576):Ty.Wf (.int .i64) x:=by
 show IntKind.i64.min<=x/\x<=IntKind.i64.max;have e1:IntKind.i64.min=-9223372036854775808:=rfl;have e2:IntKind.i64.max=9223372036854775807:=rfl;rw[e1,e2];omega
theorem Ae4{ws:ALx}(h:Dn ws)(hl:ws.length<=1048576):Ty.Wf (.sl (.int .u64)) ws:=by
 refine⟨AJs hl XW,λx hx=>?_⟩;have:=h x hx;unfold Px at this;exact⟨this.1,Int.le_of_lt_add_one this.2⟩
theorem VW{A:Type}{G:A->A->AL8 Bool}{a:A}(h:VO G a):G a a=some true:=by
 obtain⟨r,hr,hq⟩:=h a;rw[hr,hq.2 rfl]
theorem x7(n:ALo):Zv n=5+wt Af n:=by
 have e:wt Af n=wt (.sl (.int .u64)) (cu n)+wt (.sl (.int .i64)) (AA n):=by show 0+(0+(0+(0+((0+(_+0))+(_+0)))))=_;unfold cu AA;omega
 rw[e,vn,vj];unfold Zv;omega
theorem jP(t:ALE):pZ t<=5*wt (.sl Af) t:=by
 show(t.map Zv).sum<=5*(t.length+(t.map (wt Af)).sum);induction t with
 |nil=>simp
 |cons n t ih=>simp only[AJI,AKp,AJL,x7];omega
theorem xZ(l:ALF):(l.map fe).sum<=5*wt (.sl Ag) l:=by
 show _<=5*(l.length+(l.map (wt Ag)).sum);induction l with
 |nil=>simp
 |cons x l ih =>
  have h1:=jP x.2.2.1.1;have h2:=jP x.2.2.2.1.1;have e:wt Ag x=wt (.sl Af) x.2.2.1.1+wt (.sl Af) x.2.2.2.1.1:=by show 0+(0+((_+0)+((_+0)+0)))=_;omega
  simp only[AJI,AKp,AJL,fe];omega
abbrev gI(l:ALx)(i:Nat):Int:=l.getD i ALP.zero
theorem YI{l:ALx}{i j:Nat}{x:Int}(hi:i<l.length):gI (l.set i x) j=if j=i then x else gI l j:=by
 unfold gI;by_cases h:j=i
 ·subst h;rw[AJg rfl];simp[List.getD,hi]
 ·rw[AJh h];simp[List.getD,AJn,Ne.symm h]
theorem Sk{l:ALx}{x:Int}{j:Nat}:gI (l++[x]) j=if j=l.length then x else gI l j:=by
 unfold gI;by_cases h:j=l.length
 ·subst h;rw[AJg rfl];simp[List.getD]
 ·rw[AJh h];by_cases h2:j<l.length
  ·simp[List.getD,AJo,h2]
  ·simp[List.getD,AJo,h2,show ¬j-l.length=0 by omega]
structure Fo (ld:ALx) (rt dp:Nat->Nat):Prop where
 up:∀a,a<ld.length->∃b,b<ld.length/\gI ld a=(b:Int)/\rt b=rt a/\(b=a/\rt a=a\/dp b<dp a)
 ai:∀a,a<ld.length->rt a<ld.length/\rt (rt a)=rt a/\gI ld (rt a)=(rt a:Int)
 out:∀a,ld.length<=a->rt a=a
theorem Fo.half{ld:ALx}{rt dp:Nat->Nat}(h:Fo ld rt dp){a b c:Nat}(ha:a<ld.length)(hb:b<ld.length)(wF:gI ld a=(b:Int))(Lr:b≠a)(hbc:gI ld b=(c:Int)):Fo (ld.set a (c:Int)) rt dp/\rt c=rt a/\dp c<dp a/\c<ld.length:=by
 obtain⟨b',_,e1,r1,d1⟩:=h.up a ha;have:b'=b:=by omega
 subst this;obtain⟨c',hc,e2,r2,d2⟩:=h.up b' hb;have:c'=c:=by omega
 subst this;have hd:dp b'<dp a:=d1.resolve_left λx=>Lr x.1;have hdc:dp c'<dp a:=by rcases d2 with ⟨rfl,_⟩|d2<;>omega
 refine⟨⟨λx hx=>?_,λx hx=>?_,λx hx=>?_⟩,by rw[r2,r1],hdc,hc⟩
 ·rw[AI7]at hx⊢;rw[YI ha];by_cases e:x=a
  ·subst e;exact⟨c',hc,by rw[AJg rfl],by rw[r2,r1],.inr hdc⟩
  ·rw[AJh e];exact h.up x hx
 ·rw[AI7]at hx⊢;obtain⟨t1,t2,t3⟩:=h.ai x hx;refine⟨t1,t2,?_⟩;rw[YI ha,AJh λe=>?_]
  ·exact t3
  ·rw[e,wF]at t3;omega
 ·rw[AI7]at hx;exact h.out x hx
theorem Fo.root{ld:ALx}{rt dp:Nat->Nat}(h:Fo ld rt dp){a:Nat}(ha:a<ld.length)(e:gI ld a=(a:Int)):rt a=a:=by
 obtain⟨b,hb,e1,r1,d1⟩:=h.up a ha;have:b=a:=by omega
 subst this;rcases d1 with d1 |d1
 ·exact d1.2
 ·omega
theorem Fo.add{ld:ALx}{rt dp:Nat->Nat}(h:Fo ld rt dp):Fo (ld++[(ld.length:Int)]) rt dp:=by
 refine⟨λx hx=>?_,λx hx=>?_,λx hx=>?_⟩
 ·rw[AI2,AJi]at hx⊢;rw[Sk];by_cases e:x=ld.length
  ·subst e;exact⟨ld.length,by omega,by rw[AJg rfl],rfl,.inl ⟨rfl,h.out _ (AI4 _)⟩⟩
  ·rw[AJh e];obtain⟨b,hb,e1,r1,d1⟩:=h.up x (by omega);exact⟨b,by omega,e1,r1,d1⟩
 ·rw[AI2,AJi]at hx⊢;by_cases e:x=ld.length
  ·have:=h.out x (by omega);rw[this,this,Sk,AJg e,e];exact⟨by omega,rfl,rfl⟩
  ·obtain⟨t1,t2,t3⟩:=h.ai x (by omega);refine⟨by omega,t2,?_⟩;rw[Sk,AJh (by omega)];exact t3
 ·rw[AI2,AJi]at hx;exact h.out x (by omega)
def ZL(rt:Nat->Nat)(x y a:Nat):Nat:=if rt a=y then x else rt a
theorem Fo.join{ld:ALx}{rt dp:Nat->Nat}(h:Fo ld rt dp){x y:Nat}(hx:x<ld.length)(hy:y<ld.length)(rx:rt x=x)(ry:rt y=y)(Lr:x≠y):∃dp',Fo (ld.set y (x:Int)) (ZL rt x y) dp':=by
 have gx:gI ld x=(x:Int):=by have:=(h.ai x hx).2.2;rw[rx]at this;exact this
 refine⟨λa=>if rt a=y then dp a+dp x+1 else dp a,⟨λa ha=>?_,λa ha=>?_,λa ha=>?_⟩⟩
 ·rw[AI7]at ha⊢;rw[YI hy];by_cases e:a=y
  ·subst e;refine⟨x,hx,by rw[AJg rfl],?_,.inr ?_⟩
   ·simp only[ZL,rx,ry,AJK];split<;>rfl
   ·simp only[rx,ry,AJK,AJh Lr];omega
  ·rw[AJh e];obtain⟨b,hb,e1,r1,d1⟩:=h.up a ha;refine⟨b,hb,e1,by simp only[ZL,r1],?_⟩;simp only[ZL,r1];rcases d1 with ⟨d1,d2⟩|d1
   ·exact .inl ⟨d1,by rw[d2,AJh e]⟩
   ·refine .inr ?_;split<;>omega
 ·rw[AI7]at ha⊢;obtain⟨t1,t2,t3⟩:=h.ai a ha;by_cases e:rt a=y
  ·have:ZL rt x y a=x:=by simp[ZL,e]
   rw[this];refine⟨hx,by simp[ZL,rx,Lr],?_⟩;rw[YI hy,AJh Lr];exact gx
  ·have:ZL rt x y a=rt a:=by simp[ZL,e]
   rw[this];refine⟨t1,by simp[ZL,t2,e],?_⟩;rw[YI hy,AJh e];exact t3
 ·rw[AI7]at ha;have:=h.out a ha;simp only[ZL,this];rw[AJh (by omega)]
theorem Fo.oL{ld:ALx}{rt dp:Nat->Nat}(h:Fo ld rt dp)(a:Nat):rt (rt a)=rt a:=by
 rcases AI9 a ld.length with ha |ha
 ·exact(h.ai a ha).2.1
 ·rw[h.out a ha,h.out a ha]
theorem nH{rt:Nat->Nat}(hr:∀a,rt (rt a)=rt a){x y:Nat}(rx:rt x=x)(ry:rt y=y)(a b:Nat):ZL rt x y a=ZL rt x y b↔rt a=rt b\/(rt a=x/\rt b=y)\/(rt a=y/\rt b=x):=by
 simp only[ZL];split<;>split<;>omega
def lD(rt:Nat->Nat)(ns n r:Nat)(v:Int):Prop:=(v=-1/\∀j,ns<=j->j<n->rt j≠r)\/∃j:Nat,v=(j:Int)/\ns<=j/\j<n/\rt j=r/\∀i,ns<=i->i<j->rt i≠r
theorem lD.uniq{rt:Nat->Nat}{ns n r:Nat}{v w:Int}(h:lD rt ns n r v)(k:lD rt ns n r w):v=w:=by
 rcases h with ⟨rfl,h⟩|⟨i,rfl,h1,h2,h3,h4⟩<;>rcases k with ⟨rfl,k⟩|⟨j,rfl,k1,k2,k3,k4⟩
 ·rfl
 ·exact(h j k1 k2 k3).elim
 ·exact(k i h1 h2 h3).elim
 ·have a1:¬i<j:=λe=>k4 i h1 e h3;have a2:¬j<i:=λe=>h4 j k1 e k3;omega
theorem lD.ge{rt:Nat->Nat}{ns n r:Nat}{v:Int}(h:lD rt ns n r v):-1<=v/\v<(n:Int):=by
 rcases h with ⟨rfl,h⟩|⟨i,rfl,h1,h2,h3,h4⟩<;>omega
theorem lD.join{rt:Nat->Nat}{ns n x y:Nat}{v w:Int}(Lr:x≠y)(h:lD rt ns n x v)(k:lD rt ns n y w):lD (ZL rt x y) ns n x (if 0<=v/\0<=w then min v w else max v w):=by
 rcases h with ⟨rfl,h⟩|⟨i,rfl,h1,h2,h3,h4⟩<;>rcases k with ⟨rfl,k⟩|⟨j,rfl,k1,k2,k3,k4⟩
 ·rw[AJh (by omega)];refine .inl ⟨rfl,λq q1 q2=>?_⟩;have:=h q q1 q2;have:=k q q1 q2;simp only[ZL];split<;>omega
 ·rw[AJh (by omega)];refine .inr ⟨j,by omega,k1,k2,by simp[ZL,k3],λq q1 q2=>?_⟩;have:=h q q1 (by omega);have:=k4 q q1 q2;simp only[ZL];split<;>omega
 ·rw[AJh (by omega)];refine .inr ⟨i,by omega,h1,h2,by simp only[ZL,h3];split<;>rfl,λq q1 q2=>?_⟩;have:=k q q1 (by omega);have:=h4 q q1 q2;simp only[ZL];split<;>omega
 ·rw[AJg (by omega)];by_cases hij:i<=j
  ·refine .inr ⟨i,by omega,h1,h2,by simp only[ZL,h3];split<;>rfl,λq q1 q2=>?_⟩;have:=k4 q q1 (by omega);have:=h4 q q1 q2;simp only[ZL];split<;>omega
  ·refine .inr ⟨j,by omega,k1,k2,by simp[ZL,k3],λq q1 q2=>?_⟩;have:=k4 q q1 q2;have:=h4 q q1 (by omega);simp only[ZL];split<;>omega
theorem lD.other{rt:Nat->Nat}{ns n x y r:Nat}{v:Int}(hx:r≠x)(hy:r≠y)(h:lD rt ns n r v):lD (ZL rt x y) ns n r v:=by
 have e:∀q,ZL rt x y q=r↔rt q=r:=λq=>by simp only[ZL];split<;>omega
 rcases h with ⟨rfl,h⟩|⟨i,rfl,h1,h2,h3,h4⟩
 ·exact .inl ⟨rfl,λq q1 q2=>by rw[Ne,e];exact h q q1 q2⟩
 ·exact .inr ⟨i,rfl,h1,h2,(e i).2 h3,λq q1 q2=>by rw[Ne,e];exact h4 q q1 q2⟩
theorem lD.add{rt:Nat->Nat}{ns n r:Nat}{v:Int}(hn:rt n=n)(hr:r<n)(h:lD rt ns n r v):lD rt ns (n+1) r v:=by
 rcases h with ⟨rfl,h⟩|⟨i,rfl,h1,h2,h3,h4⟩
 ·refine .inl ⟨rfl,λq q1 q2=>?_⟩;by_cases e:q=n
  ·rw[e,hn];omega
  ·exact h q q1 (by omega)
 ·exact .inr ⟨i,rfl,h1,by omega,h3,h4⟩
inductive Cn (ls:ALB):Int->Int->Prop
 |refl (a:Int):Cn ls a a
 |qs {a:Int} {l:ALl}:l∈ls->Cn ls a l.1->Cn ls a l.2.1
 |bwd {a:Int} {l:ALl}:l∈ls->Cn ls a l.2.1->Cn ls a l.1
theorem Cn.trans{ls:ALB}{a b c:Int}(h:Cn ls a b)(k:Cn ls b c):Cn ls a c:=by
 induction k with
 |refl=>exact h
 |qs m _ ih=>exact .qs m ih
 |bwd m _ ih=>exact .bwd m ih
theorem Cn.symm{ls:ALB}{a b:Int}(h:Cn ls a b):Cn ls b a:=by
 induction h with
 |refl=>exact .refl _
 |qs m _ ih=>exact(Cn.bwd m (.refl _)).trans ih
 |bwd m _ ih=>exact(Cn.qs m (.refl _)).trans ih
theorem Cn.mono{ls ms:ALB}(hm:∀l∈ls,l∈ms){a b:Int}(h:Cn ls a b):Cn ms a b:=by
 induction h with
 |refl=>exact .refl _
 |qs m _ ih=>exact .qs (hm _ m) ih
 |bwd m _ ih=>exact .bwd (hm _ m) ih
theorem mJ{ld:ALx}{rt dp:Nat->Nat}(h:Fo ld rt dp){j:Nat}(hj:j<ld.length)(a:Int)(fx:ALx)(vm:AL7 (Int×ALq))(ls:ALB) :
    Aw (D8 a (j:Int) ld fx vm ls) λr=>∃gl,r=(((rt j:Nat):Int),gl,fx,vm,ls)/\gl.length=ld.length/\Fo gl rt dp:=by
 unfold D8 Nb;refine Aw.bind (P:=λq:Int×ALx=>∃gl,q=(((rt j:Nat):Int),gl)/\gl.length=ld.length/\Fo gl rt dp) ?_ λq hq=>?_
 ·refine BW (λm (s:Int×ALx)=>∃k:Nat,s.1=(k:Int)/\k<s.2.length/\s.2.length=ld.length/\Fo s.2 rt dp/\rt k=rt j/\m=dp k) (λm s hI=>?_) (dp j) ((j:Int),ld) ⟨j,rfl,hj,rfl,h,rfl,rfl⟩;obtain⟨k,e,hk,hl,hf,hr,rfl⟩:=hI;obtain⟨g,l⟩:=s;simp only at e hk hl hf;subst e;unfold G1 KG;simp only[AIZ];obtain⟨b,hb,e1,r1,d1⟩:=hf.up k hk;obtain⟨c,hc,e2,r2,d2⟩:=hf.up b hb;have g1:l.getD k ALP.zero=(b:Int):=e1;have g2:l.getD b ALP.zero=(c:Int):=e2;rw[AJg (Bf hk),g1];by_cases hbk:b=k
  ·subst hbk;rw[AKu,AJd];exact Aw.mk ⟨l,by rw[<-hr,hf.root hk e1],hl,hf⟩
  ·have Lr:(((b:Nat):Int) !=((k:Nat):Int))=true:=by rw[AKC];omega
   obtain⟨f1,f2,f3,f4⟩:=hf.half hk hb e1 hbk e2;have g3:(l.set k (c:Int)).getD k ALP.zero=(c:Int):=by have:=YI (j:=k) (x:=(c:Int)) hk;rw[AJg rfl]at this;exact this
   simp only[AIZ,g2,g3,Lr,AJe,AI7,AJg (Bf hk),AJg (Bf hb)];exact Aw.mk ⟨dp c,f3,c,rfl,by rw[AI7];exact f4,by rw[AI7];exact hl,f1,by rw[f2,hr],rfl⟩
 ·obtain⟨gl,rfl,h1,h2⟩:=hq;exact Aw.mk ⟨gl,rfl,h1,h2⟩
theorem fC{rt:Nat->Nat}{ns:Nat}{vs:ALG}{BF:ALx}(hv:vs.length=BF.length)(hl:∀i j,i<BF.length->j<BF.length->(gI BF i=gI BF j↔rt i=rt j))(hw:∀i,i<BF.length->((vs.getD i Ah.zero).1>0↔ns<=i))(hn:BF.length<=4194304){b:Nat}(hb:b<BF.length)(a:Int)(ls:ALB) :
    Aw (Em a (b:Int) vs ls BF) λr=>∃v,r=(v,vs,ls,BF)/\lD rt ns BF.length (rt b) v:=by
 unfold Em Nk;refine Aw.bind (P:=λq:Int⊕Unit=>(∃v,q=.inl v/\lD rt ns BF.length (rt b) v)\/(q=.inr ()/\lD rt ns BF.length (rt b) (-1))) ?_ λq hq=>?_
 ·refine BW (λm (s:Int)=>∃k:Nat,s=(k:Int)/\k<=BF.length/\m=BF.length-k/\∀i,ns<=i->i<k->rt i≠rt b) (λm s hI=>?_) BF.length 0 ⟨0,rfl,AJU _,rfl,λi _ h=>absurd h (by omega)⟩;obtain⟨k,rfl,hk,rfl,X6⟩:=hI;unfold G8 KH IK;rcases AI9 k BF.length with Bh |ae
  ·rw[Dl Bh,AJe];simp only[AIZ];rw[AJg (Bf Bh),AJg (Bf hb)];have hE:=hl k b Bh hb;have AiG:(∀i,ns<=i->i<k+1->rt i≠rt b)->∃m,m<BF.length-k/\∃k':Nat,wI ((k:Int)+1)=(k':Int)/\k'<=BF.length/\m=BF.length-k'/\∀i,ns<=i->i<k'->rt i≠rt b:=λhn' =>
    ⟨BF.length-(k+1),by omega,k+1,A4 (by omega) (by omega),by omega,rfl,hn'⟩
   by_cases e:gI BF k=gI BF b
   ·have e':(BF.getD k ALP.zero==BF.getD b ALP.zero)=true:=by rw[AJ5];exact e
    rw[e',AJe,AJg (show(0:Int)<=(k:Int)/\(k:Int)<(vs.length:Int) by omega),AIY];by_cases hp:ns<=k
    ·rw[AI3 ((hw k Bh).2 hp),AJe];exact Aw.mk (.inl ⟨k,rfl,.inr ⟨k,rfl,hp,Bh,hE.1 e,λi h1 h2=>X6 i h1 h2⟩⟩)
    ·rw[AI1 λx=>hp ((hw k Bh).1 x),AJd];exact Aw.mk (AiG λi h1 h2=>by
      by_cases h3:i=k
      ·omega
      ·exact X6 i h1 (by omega))
   ·have e':(BF.getD k ALP.zero==BF.getD b ALP.zero)=false:=by rw[AKa];exact e
    rw[e',AJd,AIY,AJd];exact Aw.mk (AiG λi h1 h2=>by
     by_cases h3:i=k
     ·subst h3;exact λx=>e (hE.2 x)
     ·exact X6 i h1 (by omega))
  ·have:k=BF.length:=by omega
   subst this;rw[D1,AJd];exact Aw.mk (.inr ⟨rfl,.inl ⟨rfl,λj h1 h2=>X6 j h1 h2⟩⟩)
 ·rcases hq with ⟨v,rfl,hv⟩|⟨rfl,hv⟩
  ·exact Aw.mk ⟨v,rfl,hv⟩
  ·exact Aw.mk ⟨-1,rfl,hv⟩
theorem AdL{BF:ALx}{i j:Nat}(hi:i<BF.length)(hj:j<BF.length)(hn:BF.length<=4194304) :
    MW (i:Int) (j:Int) BF=some (BF.map λx=>if x=max (gI BF i) (gI BF j)then min (gI BF i) (gI BF j)else x):=by
 unfold MW;simp only[AIZ];rw[AJg (Bf hi),AJg (Bf hj),AJg (Bf hi),AJg (Bf hj)];generalize hx:(if BF.getD j ALP.zero<BF.getD i ALP.zero then BF.getD j ALP.zero else BF.getD i ALP.zero)=x;generalize hy:(if BF.getD j ALP.zero>BF.getD i ALP.zero then BF.getD j ALP.zero else BF.getD i ALP.zero)=y;have qR:x=min (gI BF i) (gI BF j):=by rw[<-hx];unfold gI;split<;>omega
 have cZ:y=max (gI BF i) (gI BF j):=by rw[<-hy];unfold gI;split<;>omega
 rw[<-qR,<-cZ];unfold SQ;have:=AU (f:=Fw x y) (λk=>((k:Int),(BF.take k).map (λz=>if z=y then x else z)++BF.drop k)) (t:=BF.map λz=>if z=y then x else z) BF.length (λk hk=>?_) ?_
 ·simp only[AKS,AKt,AJ7,ALe]at this;exact(congrArg (λo=>Option.bind o λc=>some c) this).trans rfl
 ·unfold Fw Lq OC;have hlen:((BF.take k).map (λz=>if z=y then x else z)++BF.drop k).length=BF.length:=by simp;omega
  have hg:((BF.take k).map (λz=>if z=y then x else z)++BF.drop k).getD k ALP.zero=BF.getD k ALP.zero:=by
   have:((BF.take k).map (λz=>if z=y then x else z)).length=k:=by simp;omega
   rw[List.getD_eq_getElem?_getD,AJk (by omega),this,AKI,AKW,AKV,List.getD_eq_getElem?_getD]
  have hs:∀v,((BF.take k).map (λz=>if z=y then x else z)++BF.drop k).set k v=(BF.take k).map (λz=>if z=y then x else z)++v::BF.drop (k+1):=λv=>by
   have h1:((BF.take k).map (λz=>if z=y then x else z)).length=k:=by simp;omega
   rw[AKy hk,AKz _ _ (by omega),h1,AKI,List.set_cons_zero]
  have ht:∀v,v=(if BF.getD k ALP.zero=y then x else BF.getD k ALP.zero)->(BF.take k).map (λz=>if z=y then x else z)++v::BF.drop (k+1)=(BF.take (k+1)).map (λz=>if z=y then x else z)++BF.drop (k+1):=λv hv=>by
   have e:BF.getD k ALP.zero=BF[k]:=by simp[List.getD,hk]
   rw[AJZ hk,AJJ,hv,e];simp
  simp only[AIZ,hlen];rw[Dl hk,AJe,AJg (Bf hk),hg];by_cases e:BF.getD k ALP.zero=y
  ·have e':(BF.getD k ALP.zero==y)=true:=by rw[AJ5];exact e
   rw[e',AJe,AJg (Bf hk),AIY,hs,ht x (by rw[AJg e])];rw[A4 (n:=k+1) (by omega) (by omega)]
  ·have e':(BF.getD k ALP.zero==y)=false:=by rw[AKa];exact e
   have Xa:(BF.take k).map (λz=>if z=y then x else z)++BF.drop k=(BF.take (k+1)).map (λz=>if z=y then x else z)++BF.drop (k+1):=by
    rw[<-ht (BF.getD k ALP.zero) (by rw[AJh e]),AKy hk];simp[List.getD,hk]
   rw[e',AJd,AIY,Xa,A4 (n:=k+1) (by omega) (by omega)]
 ·unfold Fw Lq;simp only[List.take_length,List.drop_length,AJD,AJa];rw[D1,AJd]
abbrev lk(ls:ALB)(k:Nat):ALl:=ls.getD k Ab.zero
def Ed(ls:ALB)(k:Nat)(x y:Int):Prop:=k<ls.length/\((lk ls k).1=x/\(lk ls k).2.1=y\/(lk ls k).2.1=x/\(lk ls k).1=y)
theorem Ed.cn{ls ms:ALB}{k:Nat}{x y:Int}(h:Ed ls k x y)(hm:lk ls k∈ms):Cn ms x y:=by
 rcases h.2 with ⟨rfl,rfl⟩|⟨rfl,rfl⟩
 ·exact .qs hm (.refl _)
 ·exact .bwd hm (.refl _)
theorem Ed.symm{ls:ALB}{k:Nat}{x y:Int}(h:Ed ls k x y):Ed ls k y x:=⟨h.1,h.2.symm.imp And.symm And.symm⟩
def di(ls:ALB):Int->Int->ALz->Prop
 |x,y,[]=>x=y
 |x,y,k::T=>∃z,Ed ls k x z/\di ls z y T
theorem di.snoc{ls:ALB}{y z:Int}{k:Nat}(he:Ed ls k y z):∀{T:ALz} {x:Int},di ls x y T->di ls x z (T++[k])
 |[],x,h=>by cases h;exact⟨z,he,rfl⟩
 |j::T,x,⟨w,h1,h2⟩=>⟨w,h1,h2.snoc he⟩
theorem AdB{ls:ALB}{i k:Nat}(hi:i<ls.length)(h:i≠k):lk ls i∈ls.eraseIdx k :=
 List.mem_eraseIdx_iff_getElem?.2 ⟨i,h,by simp[lk,List.getD,hi]⟩
theorem AdC{ls:ALB}{i:Nat}(hi:i<ls.length):lk ls i∈ls:=AE hi
theorem dz{ls:ALB}{k:Nat}:∀l∈ls.eraseIdx k,l∈ls:=λl h=>List.mem_of_mem_eraseIdx h
theorem di.off{ls:ALB}{k:Nat}{y:Int}:∀{T:ALz} {x:Int},di ls x y T->k∉T->Cn (ls.eraseIdx k) x y
 |[],x,h,_=>by cases h;exact .refl _
 |j::T,x,⟨z,h1,h2⟩,hk=>by
  rw[AKo,not_or]at hk;exact(h1.cn (AdB h1.1 (Ne.symm hk.1))).trans (h2.off hk.2)
theorem di.mid{ls:ALB}{k:Nat}{y:Int}:∀{T:ALz} {x:Int},di ls x y T->T.Nodup->k∈T->∃u v,Ed ls k u v/\Cn (ls.eraseIdx k) x u/\Cn (ls.eraseIdx k) v y
 |[],x,_,_,hk=>by cases hk
 |j::T,x,⟨z,h1,h2⟩,hn,hk=>by
  obtain⟨n1,n2⟩:=List.nodup_cons.1 hn;by_cases e:k=j
  ·subst e;exact⟨x,z,h1,.refl _,h2.off n1⟩
  ·obtain⟨u,v,h3,h4,h5⟩:=h2.mid n2 ((List.mem_cons.1 hk).resolve_left e);exact⟨u,v,h3,(h1.cn (AdB h1.1 (Ne.symm e))).trans h4,h5⟩
def xF(ls:ALB):Prop:=∀k,k<ls.length->¬Cn (ls.eraseIdx k) (lk ls k).1 (lk ls k).2.1
theorem di.only{ls:ALB}(hf:xF ls){x y:Int}{T:ALz}(h:di ls x y T)(hn:T.Nodup){k:Nat}(hk:k<ls.length):k∈T↔¬Cn (ls.eraseIdx k) x y:=by
 refine⟨λhm hc=>?_,λhc=>Classical.byContradiction λhm=>hc (h.off hm)⟩;obtain⟨u,v,h1,h2,h3⟩:=h.mid hn hm;have h4:Cn (ls.eraseIdx k) u v:=h2.symm.trans (hc.trans h3.symm);rcases h1.2 with ⟨rfl,rfl⟩|⟨rfl,rfl⟩
 ·exact hf k hk h4
 ·exact hf k hk h4.symm
theorem di.lt{ls:ALB}{y:Int}:∀{T:ALz} {x:Int},di ls x y T->∀k∈T,k<ls.length
 |[],_,_,k,hk=>by cases hk
 |j::T,x,⟨z,h1,h2⟩,k,hk=>by
  rcases List.mem_cons.1 hk with rfl |hk
  ·exact h1.1
  ·exact h2.lt k hk
theorem di.bB{ls:ALB}(hf:xF ls){x y:Int}{T U:ALz}(h:di ls x y T)(hn:T.Nodup)(g:di ls y x U)(gn:U.Nodup)(w:Int):w∈T.map (λk=>(lk ls k).2.2.1)↔w∈U.map λk=>(lk ls k).2.2.1:=by
 have key:∀k,k∈T↔k∈U:=λk=>by
  by_cases hk:k<ls.length
  ·rw[h.only hf hn hk,g.only hf gn hk];exact⟨λa b=>a b.symm,λa b=>a b.symm⟩
  ·exact⟨λa=>(hk (h.lt k a)).elim,λa=>(hk (g.lt k a)).elim⟩
 simp only[List.mem_map,key]
theorem AoY{ls:ALB}{l:ALl}{u v:Int}(h:Cn (ls++[l]) u v):Cn ls u v\/(Cn ls u l.1/\Cn ls l.2.1 v)\/(Cn ls u l.2.1/\Cn ls l.1 v):=by
 induction h with
 |refl=>exact .inl (.refl _)
 |qs m _ ih =>
  rcases List.mem_append.1 m with m |m
  ·exact ih.imp (.qs m) (Or.imp (And.imp_right (.qs m)) (And.imp_right (.qs m)))
  ·cases List.mem_singleton.1 m;rcases ih with h |⟨h,_⟩|⟨h,_⟩
   ·exact .inr (.inl ⟨h,.refl _⟩)
   ·exact .inr (.inl ⟨h,.refl _⟩)
   ·exact .inl h
 |bwd m _ ih =>
  rcases List.mem_append.1 m with m |m
  ·exact ih.imp (.bwd m) (Or.imp (And.imp_right (.bwd m)) (And.imp_right (.bwd m)))
  ·cases List.mem_singleton.1 m;rcases ih with h |⟨h,_⟩|⟨h,_⟩
   ·exact .inr (.inr ⟨h,.refl _⟩)
   ·exact .inl h
   ·exact .inr (.inr ⟨h,.refl _⟩)
theorem xF.add{ls:ALB}(hf:xF ls){l:ALl}(hn:¬Cn ls l.1 l.2.1):xF (ls++[l]):=λk hk hc=>by
 rw[AI2,AJi]at hk;by_cases e:k=ls.length
 ·subst e;rw[List.eraseIdx_append_of_length_le (AI4 _),AKI]at hc;simp[lk,List.getD]at hc;exact hn hc
 ·have Bh:k<ls.length:=by omega
  rw[List.eraseIdx_append_of_lt_length Bh,show lk (ls++[l]) k=lk ls k by simp[lk,List.getD,AJo,Bh]]at hc;have hl:Cn ls (lk ls k).1 (lk ls k).2.1:=.qs (AdC Bh) (.refl _);rcases AoY hc with h |⟨h,g⟩|⟨h,g⟩
  ·exact hf k Bh h
  ·exact hn ((h.mono dz).symm.trans (hl.trans (g.mono dz).symm))
  ·exact hn ((g.mono dz).trans (hl.symm.trans (h.mono dz)))
theorem uq(x y:Int):A7 ALP x y=true↔x=y:=by simp[A7]
theorem kv(x:Int):A7 ALP x x=true:=(uq x x).2 rfl
theorem Q6{vt:Ty}(k k':Int)(v:vt.V)(es:AL7 (Int×vt.V)):Bg ALP vt (BV ALP vt es k v) k'=if k'=k then v else Bg ALP vt es k':=by
 have h:=aZ (kt:=.int .i64) (vt:=vt) uq k k' v es;refine h.trans ?_;by_cases e:k'=k
 ·rw[AJg e,(uq _ _).2 e];rfl
 ·rw[AJh e,show A7 ALP k' k=false from Bool.eq_false_iff.2 λx=>e ((uq _ _).1 x)];rfl
theorem VE{vt:Ty}(k k':Int)(v:vt.V)(es:AL7 (Int×vt.V)):SA ALP vt (BV ALP vt es k v) k'=(decide (k'=k)||SA ALP vt es k'):=by
 have h:=V6 (kt:=.int .i64) (vt:=vt) uq k k' v es;unfold SA;rw[h];by_cases e:k'=k
 ·rw[AI3 e,(uq _ _).2 e];rfl
 ·rw[AI1 e,show A7 ALP k' k=false from Bool.eq_false_iff.2 λx=>e ((uq _ _).1 x)];rfl
abbrev LM:Type:=List (Int×ALB)
abbrev kF(c:LM)(x:Int):ALB:=Bg ALP ALX c x
def tv(c:LM)(k:Int)(y:ALl):LM:=BV ALP ALX c k (kF c k++[y])
theorem PD{c:LM}{k x:Int}{y e:ALl}:e∈kF (tv c k y) x↔e∈kF c x\/(x=k/\e=y):=by
 unfold kF tv;rw[Q6 (vt:=.sl Ab)];by_cases h:x=k
 ·subst h;rw[AJg rfl,AJ2,AJp];simp
 ·rw[AJh h];simp[h]
theorem et{c:LM}{k x:Int}{y:ALl}:(kF (tv c k y) x).length<=(kF c x).length+1:=by
 unfold kF tv;rw[Q6 (vt:=.sl Ab)];by_cases h:x=k
 ·subst h;rw[AJg rfl,AI2,AJi];exact AI4 _
 ·rw[AJh h];exact AJz _
structure Bsd (v:ALB) (N k:Nat) (c:LM):Prop where
 AQ:∀x e,e∈kF c x->e.1=x/\(0<=e.2.1/\e.2.1<(N:Int))/\∃q,Ed v q e.1 e.2.1/\e.2.2.1=(lk v q).2.2.1
 all:∀q,q<k->(∃e∈kF c (v.getD q Ab.zero).1,e.2.1=(v.getD q Ab.zero).2.1)/\∃e∈kF c (v.getD q Ab.zero).2.1,e.2.1=(v.getD q Ab.zero).1
 len:∀x,(kF c x).length<=2*k
theorem xM{v:ALB}{N:Nat}(hv:v.length<=4194304)(hb:∀l∈v,(0<=l.1/\l.1<(N:Int))/\0<=l.2.1/\l.2.1<(N:Int))(a g:Int):Aw (Rq a g v (v.length:Int) 0 []) (Bsd v N v.length):=by
 unfold Rq;refine BW (λm (s:Int×LM)=>∃k:Nat,s.1=(k:Int)/\k<=v.length/\m=v.length-k/\Bsd v N k s.2) (λm s hI=>?_) v.length (0,[]) ⟨0,rfl,AJU _,rfl,⟨λx e h=>(by cases h),λq h=>(by omega),λx=>AI4 _⟩⟩;obtain⟨k,e,hk,rfl,hB⟩:=hI;obtain⟨x,c⟩:=s;simp only at e hB;subst e;unfold N6 Sr;simp only[AIZ];rcases AI9 k v.length with Bh |ae
 ·rw[Dl Bh,AJe,AJg (Bf Bh)];generalize hl:v.getD k Ab.zero=l;have hm:l∈v:=by rw[<-hl];exact AE Bh
  obtain⟨hA,hB'⟩:=hb l hm;unfold Ro Rp;have l1:=hB.len l.1;have l2:=et (c:=c) (k:=l.1) (x:=l.2.1) (y:=l);have l3:=hB.len l.2.1;rw[AJg (show((Bg ALP ALX c l.1).length+([l]:ALB).length)*24<=140737488355328 by rw[AJi];have:(Bg ALP ALX c l.1).length<=2*k:=l1;omega),kv,AJe,AIY];rw[AJg (show((Bg ALP ALX (BV ALP ALX c l.1 (Bg ALP ALX c l.1++[l])) l.2.1).length+([(l.2.1,l.1,l.2.2.1,())]:ALB).length)*24<=140737488355328 by
   rw[AJi];have:(Bg ALP ALX (BV ALP ALX c l.1 (Bg ALP ALX c l.1++[l])) l.2.1).length<=(kF c l.2.1).length+1:=l2;omega),kv,AJe,AIY]
  refine Aw.mk ⟨v.length-(k+1),by omega,k+1,A4 (by omega) (by omega),by omega,rfl,?_⟩;show Bsd v N (k+1) (tv (tv c l.1 l) l.2.1 (l.2.1,l.1,l.2.2.1,()));refine⟨λx e h=>?_,λq hq=>?_,λx=>?_⟩
  ·rcases PD.1 h with h |⟨rfl,rfl⟩
   ·rcases PD.1 h with h |⟨rfl,rfl⟩
    ·exact hB.AQ x e h
    ·exact⟨rfl,hB',k,⟨Bh,.inl ⟨congrArg (·.1) hl,congrArg (·.2.1) hl⟩⟩,congrArg (·.2.2.1) hl.symm⟩
   ·exact⟨rfl,hA,k,⟨Bh,.inr ⟨congrArg (·.2.1) hl,congrArg (·.1) hl⟩⟩,congrArg (·.2.2.1) hl.symm⟩
  ·by_cases e:q=k
   ·subst e;rw[hl];exact⟨⟨l,PD.2 (.inl (PD.2 (.inr ⟨rfl,rfl⟩))),rfl⟩,⟨_,PD.2 (.inr ⟨rfl,rfl⟩),rfl⟩⟩
   ·obtain⟨⟨e1,h1,h2⟩,e2,h3,h4⟩:=hB.all q (by omega);exact⟨⟨e1,PD.2 (.inl (PD.2 (.inl h1))),h2⟩,e2,PD.2 (.inl (PD.2 (.inl h3))),h4⟩
  ·have a1:=et (c:=tv c l.1 l) (k:=l.2.1) (x:=x) (y:=(l.2.1,l.1,l.2.2.1,()));have a2:=et (c:=c) (k:=l.1) (x:=x) (y:=l);have a3:=hB.len x;omega
 ·have:k=v.length:=by omega
  subst this;rw[D1,AJd];exact Aw.mk hB
theorem bl:∀(N:Nat) (l:ALx),l.Nodup->(∀x∈l,0<=x/\x<(N:Int))->l.length<=N
 |0,l,_,h=>by
  cases l with
  |nil=>exact AI4 _
  |cons x l=>have:=h x AJt;omega
 |N+1,l,hn,h=>by
  have:=bl N (l.erase (N:Int)) (hn.erase _) λx hx=>by
   obtain⟨h1,h2⟩:=(hn.mem_erase_iff).1 hx;have:=h x h2;omega
  have h2:l.length<=(l.erase (N:Int)).length+1:=by rw[List.length_erase];split<;>omega
  omega
abbrev zH:Type:=List (Int×ALl)
abbrev hsF(t:zH)(x:Int):Bool:=SA ALP Ab t x
abbrev mgF(t:zH)(x:Int):ALl:=Bg ALP Ab t x
structure Met (v:ALB) (N:Nat) (a:Int) (t:zH) (ms:ALx):Prop where
 nd:ms.Nodup
 bd:∀x∈ms,0<=x/\x<(N:Int)
 fst:gI ms 0=a/\0<ms.length
 has:∀x,hsF t x=true↔x∈ms
 back:∀k,1<=k->k<ms.length->∃k',k'<k/\(mgF t (gI ms k)).1=gI ms k'/\∃q,Ed v q (gI ms k') (gI ms k)/\(mgF t (gI ms k)).2.2.1=(lk v q).2.2.1
theorem Met.len{v:ALB}{N:Nat}{a:Int}{t:zH}{ms:ALx}(h:Met v N a t ms):ms.length<=N:=bl N ms h.nd h.bd
theorem Met.add{v:ALB}{N:Nat}{a:Int}{t:zH}{ms:ALx}(h:Met v N a t ms){e:ALl}(he:0<=e.2.1/\e.2.1<(N:Int))(X6:hsF t e.2.1=false){p:Nat}(hp:p<ms.length)(h1:e.1=gI ms p)(h2:∃q,Ed v q e.1 e.2.1/\e.2.2.1=(lk v q).2.2.1):Met v N a (BV ALP Ab t e.2.1 e) (ms++[e.2.1]):=by
 have hnm:e.2.1∉ms:=λx=>by rw[(h.has _).2 x]at X6;cases X6
 have hg:∀k,k<ms.length->gI (ms++[e.2.1]) k=gI ms k:=λk hk=>by rw[Sk,AJh (by omega)]
 refine⟨?_,λx hx=>?_,⟨?_,by simp⟩,λx=>?_,λk k1 k2=>?_⟩
 ·rw[AKO];exact⟨h.nd,by simp,λx hx y hy e'=>by rw[AJp]at hy;subst hy;subst e';exact hnm hx⟩
 ·rcases List.mem_append.1 hx with hx |hx
  ·exact h.bd x hx
  ·rw[AJp]at hx;rw[hx];exact he
 ·rw[hg 0 h.fst.2];exact h.fst.1
 ·unfold hsF;rw[VE (vt:=Ab),AKe,AKq,AJ2,AJp,<-h.has x];exact Or.comm
 ·rw[AI2,AJi]at k2;unfold mgF;by_cases hk:k=ms.length
  ·subst hk;have e1:gI (ms++[e.2.1]) ms.length=e.2.1:=by rw[Sk,AJg rfl]
   rw[h1]at h2;rw[e1,Q6 (vt:=Ab),AJg rfl];exact⟨p,hp,by rw[hg p hp];exact h1,by rw[hg p hp];exact h2⟩
  ·obtain⟨k',h2,h3⟩:=h.back k k1 (by omega);refine⟨k',h2,?_⟩;have Lr:gI ms k≠e.2.1:=λx=>hnm (by rw[<-x];exact AE (by omega));rw[hg k (by omega),hg k' (by omega),Q6 (vt:=Ab),AJh Lr];exact h3
structure Ava (v:ALB) (N:Nat) (a:Int) (c:LM) (p:Nat) (t:zH) (u ms:ALx):Prop where
 met:Met v N a t ms
 le:p<=ms.length
 todo:u=ms.drop p
 done:∀q,q<p->∀e∈kF c (gI ms q),e.2.1∈ms
theorem Adq{N p:Nat}{a g:Int}{c:LM}{v:ALB}(hN:N<=4194304)(hB:Bsd v N v.length c)(hv:v.length<=4194304){t:zH}{ms:ALx}(hM:Met v N a t ms)(hp:p<ms.length)(hd:∀q,q<p->∀e∈kF c (gI ms q),e.2.1∈ms) :
    Aw (Rs a g c (kF c (gI ms p)) ((kF c (gI ms p)).length:Int) 0 t (ms.drop (p+1))) λr=>∃kL,Ava v N a c (p+1) r.1 r.2 kL:=by
 generalize hj:kF c (gI ms p)=j;have X5:j.length<=2*v.length:=by rw[<-hj];exact hB.len _
 unfold Rs;refine BW (λm (s:Int×zH×ALx)=>∃(n:Nat) (kL:ALx),s.1=(n:Int)/\n<=j.length/\m=j.length-n/\Met v N a s.2.1 kL/\p<kL.length/\gI kL p=gI ms p/\s.2.2=kL.drop (p+1)/\(∀q,q<p->∀e∈kF c (gI kL q),e.2.1∈kL)/\∀q,q<n->(j.getD q Ab.zero).2.1∈kL) (λm s hI=>?_) j.length (0,t,ms.drop (p+1)) ⟨0,ms,rfl,AJU _,rfl,hM,hp,rfl,rfl,hd,λq h=>by omega⟩;obtain⟨n,kL,e1,hn,rfl,hM',zN,hgp,e2,hd',mU⟩:=hI;obtain⟨x,t',u'⟩:=s;simp only at e1 e2 hM';subst e1;subst e2;unfold N7 Ss;simp only;have yu:=hM'.len;rcases AI9 n j.length with Bh |ae
 ·rw[Dl Bh,AJe];unfold Rr;simp only[AIZ];rw[AJg (Bf Bh)];generalize he:j.getD n Ab.zero=e;have hm:e∈kF c (gI ms p):=by rw[hj,<-he];exact AE Bh
  obtain⟨b1,b2,b3⟩:=hB.AQ _ _ hm;have hw:wI ((n:Int)+1)=((n+1:Nat):Int):=A4 (by omega) (by omega);cases hh:SA ALP Ab t' e.2.1 with
  |true =>
   simp only[AJH,AJd,AIY];refine Aw.mk ⟨j.length-(n+1),by omega,n+1,kL,hw,by omega,rfl,hM',zN,hgp,rfl,hd',λq hq=>?_⟩;by_cases h:q=n
   ·subst h;rw[he];exact(hM'.has _).1 hh
   ·exact mU q (by omega)
  |false =>
   simp only[AKT,AJe];rw[AI3 (show((kL.drop (p+1)).length+([e.2.1]:ALx).length)*8<=140737488355328 by rw[AJi,AJy];omega),AJe,AIY];have hg:∀k,k<kL.length->gI (kL++[e.2.1]) k=gI kL k:=λk hk=>by rw[Sk,AJh (by omega)]
   refine Aw.mk ⟨j.length-(n+1),by omega,n+1,kL++[e.2.1],hw,by omega,rfl,hM'.add b2 hh zN (by rw[b1,hgp]) b3,by simp;omega,by rw[hg p zN,hgp],?_,λq hq e' he'=>?_,λq hq=>?_⟩
   ·show kL.drop (p+1)++[e.2.1]=_;rw[List.drop_append_of_le_length (by omega)]
   ·rw[hg q (by omega)]at he';exact AJw _ (hd' q hq e' he')
   ·by_cases h:q=n
    ·subst h;rw[he];simp
    ·exact AJw _ (mU q (by omega))
 ·have:n=j.length:=by omega
  subst this;rw[D1,AJd];refine Aw.mk ⟨kL,hM',by omega,rfl,λq hq e he=>?_⟩;by_cases h:q=p
  ·subst h;rw[hgp,hj]at he;obtain⟨i,hi,h2⟩:=List.mem_iff_getElem.1 he;have:=mU i hi;rwa [show j.getD i Ab.zero=e by rw[<-h2];simp[List.getD,hi]]at this
  ·exact hd' q (by omega) e he
theorem y7{N:Nat}{a g:Int}{c:LM}{v:ALB}(hN:N<=4194304)(hB:Bsd v N v.length c)(hv:v.length<=4194304)(ha:0<=a/\a<(N:Int)) :
    Aw (Rt a g c (BV ALP Ab ([]:zH) a (a,a,0,())) [a]) λt=>∃ms,Met v N a t ms/\∀q,q<ms.length->∀e∈kF c (gI ms q),e.2.1∈ms:=by
 unfold Rt;have h0:Met v N a (BV ALP Ab ([]:zH) a (a,a,0,())) [a]:=by
  refine⟨by simp,λx hx=>by rw[AJp]at hx;rw[hx];exact ha,⟨rfl,by simp⟩,λx=>?_,λk k1 k2=>by simp at k2;omega⟩;unfold hsF;rw[VE (vt:=Ab)];simp[SA,NI]
 refine BW (λm (s:zH×ALx)=>∃p ms,Ava v N a c p s.1 s.2 ms/\m=N-p) (λm s hI=>?_) N (BV ALP Ab ([]:zH) a (a,a,0,()),[a]) ⟨0,[a],⟨h0,by simp,rfl,λq h=>by omega⟩,rfl⟩;obtain⟨p,ms,hS,rfl⟩:=hI;obtain⟨t,u⟩:=s;have hl:=hS.met.len;have hu:u=ms.drop p:=hS.todo;subst hu;unfold N8 Sv;simp only;rcases AI9 p ms.length with Bh |ae
 ·have hlen:(ms.drop p).length=ms.length-p:=AJy;rw[AI3 (show((ms.drop p).length:Int)>0 by omega),AJe,AI3 (show(1:Int)<=((ms.drop p).length:Int) by omega)];rw[show(decide ((0:Int)<=0)&&true)=true from rfl,show(decide ((0:Int)<=1)&&true)=true from rfl];simp only[AJe];have e0:(ms.drop p).getD 0 ALP.zero=gI ms p:=by simp[gI,List.getD]
  have e1:(ms.drop p).drop 1=ms.drop (p+1):=by rw[List.drop_drop]
  rw[e0,e1];refine(Adq (g:=g) hN hB hv hS.met Bh hS.done).bind λr hr=>?_;obtain⟨kL,hS'⟩:=hr;have:=hS'.le;have:=hS'.met.len;exact Aw.mk ⟨N-(p+1),by omega,p+1,kL,hS',rfl⟩
 ·have:p=ms.length:=by have:=hS.le;omega
  subst this;rw[AI1 (by simp),AJd];exact Aw.mk ⟨ms,hS.met,hS.done⟩
theorem Aqa{v:ALB}{N:Nat}(hN:N<=4194304)(hv:v.length<=4194304)(hb:∀l∈v,(0<=l.1/\l.1<(N:Int))/\0<=l.2.1/\l.2.1<(N:Int)){a g:Int}(ha:0<=a/\a<(N:Int))(hc:Cn v a g):Aw (TF v a g) λr=>r.Pairwise (·<·)/\∃T,di v g a T/\T.Nodup/\∀w,w∈r↔w∈T.map λk=>(lk v k).2.2.1:=by
 unfold TF;refine(xM hv hb a g).bind λc hB=>?_;refine(y7 (g:=g) hN hB hv ha).bind λt ht=>?_;obtain⟨ms,hM,SU⟩:=ht;have yu:=hM.len;have YL:∀{x},x∈ms->∃k,k<ms.length/\gI ms k=x:=λ{x} hx=>by
  obtain⟨k,hk,e⟩:=List.mem_iff_getElem.1 hx;exact⟨k,hk,by rw[<-e];simp[gI,List.getD,hk]⟩
 have FA:∀{x},Cn v a x->x∈ms:=λ{x} h=>by
  induction h with
  |refl=>rw[<-hM.fst.1];exact AE hM.fst.2
  |qs hl _ ih =>
   obtain⟨k,hk,e⟩:=YL ih;obtain⟨q,hq,e2⟩:=List.mem_iff_getElem.1 hl;obtain⟨⟨x,x1,x2⟩,_⟩:=hB.all q hq;have e3:v.getD q Ab.zero=v[q]:=by simp[List.getD,hq]
   rw[e3,e2]at x1 x2;rw[<-x2];rw[<-e]at x1;exact SU k hk x x1
  |bwd hl _ ih =>
   obtain⟨k,hk,e⟩:=YL ih;obtain⟨q,hq,e2⟩:=List.mem_iff_getElem.1 hl;obtain⟨_,⟨x,x1,x2⟩⟩:=hB.all q hq;have e3:v.getD q Ab.zero=v[q]:=by simp[List.getD,hq]
   rw[e3,e2]at x1 x2;rw[<-x2];rw[<-e]at x1;exact SU k hk x x1
 obtain⟨k0,hk0,e0⟩:=YL (FA hc);refine Aw.bind (P:=λe:ALx=>(∃T,di v g a T/\T.Nodup/\e=T.map λk=>(lk v k).2.2.1)/\e.length<=N) ?_ λe he=>?_
 ·unfold UY;refine BW (λm (s:Int×ALx)=>∃k,k<ms.length/\gI ms k=s.1/\m=k/\s.2.length+k<=k0/\∃T,di v g s.1 T/\T.Nodup/\s.2=T.map (λk=>(lk v k).2.2.1)/\∀q∈T,∃j,k<j/\j<ms.length/\((lk v q).1=gI ms j\/(lk v q).2.1=gI ms j)) (λm s hI=>?_) k0 (g,[]) ⟨k0,hk0,e0,rfl,by simp,[],rfl,List.nodup_nil,rfl,λq h=>by cases h⟩;obtain⟨k,hk,e1,hm,hlen,T,hT,hTn,hTe,hTj⟩:=hI;rw[hm];clear hm;obtain⟨x,e⟩:=s;simp only at e1 hlen hT hTe;unfold N9 Sw;simp only;by_cases hxa:x=a
  ·subst hxa;rw[AKu,AJd];exact Aw.mk ⟨⟨T,hT,hTn,hTe⟩,by omega⟩
  ·rw[show(x !=a)=true by rw[AKC];exact hxa,AJe,AJg (by rw[AJi];omega)];have k1:1<=k:=by
    rcases AJm k with h |h
    ·subst h;rw[hM.fst.1]at e1;exact(hxa e1.symm).elim
    ·exact h
   obtain⟨k',h1,h2,q,h3,h4⟩:=hM.back k k1 hk;rw[e1]at h2 h3 h4;have Ag0:∀{i j},i<ms.length->j<ms.length->gI ms i=gI ms j->i=j:=λ{i j} hi hj h=>by
    have h':ms[i]=ms[j]:=by simpa [gI,List.getD,hi,hj]using h
    have hp:=List.pairwise_iff_getElem.1 hM.nd;rcases AK1 i j with e |e |e
    ·exact(hp i j hi hj e h').elim
    ·exact e
    ·exact(hp j i hj hi e h'.symm).elim
   have hq:q∉T:=λhqT=>by
    obtain⟨j,j1,j2,j3⟩:=hTj q hqT;rcases h3.2 with ⟨g1,g2⟩|⟨g1,g2⟩<;>rcases j3 with j3 |j3
    ·have:=Ag0 j2 (show k'<ms.length by omega) (by rw[<-j3,g1]);omega
    ·have:=Ag0 j2 hk (by rw[<-j3,g2,e1]);omega
    ·have:=Ag0 j2 hk (by rw[<-j3,g2,e1]);omega
    ·have:=Ag0 j2 (show k'<ms.length by omega) (by rw[<-j3,g1]);omega
   refine Aw.mk ⟨k',h1,k',by omega,h2.symm,rfl,by rw[AI2,AJi];omega,T++[q],by rw[h2];exact hT.snoc h3.symm,?_,?_,λq' fU=>?_⟩
   ·rw[AKO];exact⟨hTn,by simp,λy hy z hz e=>by rw[AJp]at hz;subst hz;subst e;exact hq hy⟩
   ·rw[AJJ,<-hTe];exact congrArg (λz=>e++[z]) h4
   ·rcases List.mem_append.1 fU with h |h
    ·obtain⟨j,j1,j2⟩:=hTj q' h;exact⟨j,by omega,j2⟩
    ·rw[AJp]at h;subst h;refine⟨k,h1,hk,?_⟩;rw[e1];rcases h3.2 with ⟨_,g⟩|⟨_,g⟩
     ·exact .inr g
     ·exact .inl g
 ·rw[AJg (by omega)];obtain⟨⟨T,h1,h2,rfl⟩,_⟩:=he;obtain⟨u1,u2⟩:=cK (T.map λk=>(lk v k).2.2.1);exact Aw.mk ⟨u1,T,h1,h2,u2⟩
abbrev us(q:ALy)(k:Nat):Bool:=q.getD k (Ty.zero .bool)
theorem im{q:ALy}{k j:Nat}(hk:k<q.length):us (q.set k true) j=if j=k then true else us q j:=by
 unfold us;by_cases h:j=k
 ·subst h;rw[AJg rfl];simp[List.getD,hk]
 ·rw[AJh h];simp[List.getD,AJn,Ne.symm h]
def Tch(ls:ALB)(k:Nat)(x:Int):Prop:=(lk ls k).1=x\/(lk ls k).2.1=x
def Cl(ls:ALB)(q:ALy)(x:Int):Prop:=∀k,k<ls.length->Tch ls k x->us q k=true
def nu(n:Nat)(q:ALy):Nat:=(List.range n).countP λk=>!us q k
def Mo(q q':ALy):Prop:=∀k,us q k=true->us q' k=true
theorem Mo.nu{n:Nat}{q q':ALy}(h:Mo q q'):nu n q'<=nu n q:=List.countP_mono_left λk _ hk=>by
 cases hq:us q k with
 |false=>simp[hq]
 |true=>rw[h k hq]at hk;cases hk
theorem Cl.mono{ls:ALB}{q q':ALy}(h:Mo q q'){x:Int}(hc:Cl ls q x):Cl ls q' x:=λk h1 h2=>h k (hc k h1 h2)
theorem AdO{q:ALy}{k:Nat}(hk:k<q.length):Mo q (q.set k true):=λj hj=>by rw[im hk];split<;>first |rfl |exact hj
theorem ApV{n:Nat}{q:ALy}{k:Nat}(hk:k<q.length)(hn:k<n)(hu:us q k=false):nu n (q.set k true)+1<=nu n q :=
 aH (λj hj=>by
  cases hq:us q j with
  |false=>rfl
  |true=>rw[AdO hk j hq]at hj;cases hj) (List.mem_range.2 hn) (by rw[hu];rfl) (by rw[im hk,AJg rfl];rfl)
def tg(ls:ALB)(q q':ALy)(P:Int->Prop):Prop:=∀k,k<ls.length->us q' k=true->us q k=false->∀x,Tch ls k x->P x
structure ABU (ls:ALB) (q:ALy) (b c:Int) (r:Bool×ALy×ALx):Prop where
 len:r.2.1.length=q.length
 mo:Mo q r.2.1
 yes:r.1=true->(∃T,di ls b c T/\T.Nodup/\(∀k∈T,us q k=false)/\r.2.2=T.map λk=>(lk ls k).2.2.1)/\r.2.2.length<=nu ls.length q
 no:r.1=false->b≠c/\Cl ls r.2.1 b/\tg ls q r.2.1 λx=>x≠c/\Cl ls r.2.1 x
theorem xx{ls:ALB}(hl:ls.length<=4194304)(hb:∀k,k<ls.length->((0:Int)<=(lk ls k).1/\(4194304:Int)>(lk ls k).1)/\(0:Int)<=(lk ls k).2.1/\(4194304:Int)>(lk ls k).2.1)(c:Int) :
    ∀(n:Nat) (b:Int) (q:ALy),q.length=ls.length->(0<=b/\b<4194304)->nu ls.length q<n->Aw (H9 n ls b c q) (ABU ls q b c)
 |0,b,q,_,_,h=>by omega
 |n+1,b,q,hq,hbb,hn=>by
  show Aw (Qw (H9 n) ls b c q) _;unfold Qw;by_cases hbc:b=c
  ·subst hbc;rw[AKB,AJe];exact Aw.mk ⟨rfl,λ_ h=>h,λ_=>⟨⟨[],rfl,List.nodup_nil,λk h=>(by cases h),rfl⟩,AJU _⟩,λh=>by cases h⟩
  rw[show(b==c)=false by rw[AKa];exact hbc,AJd];refine Aw.bind (P:=λt:(ALy×ALx)⊕ALy=>(∃q' w,t=.inl (q',w)/\q'.length=q.length/\Mo q q'/\(∃T,di ls b c T/\T.Nodup/\(∀k∈T,us q k=false)/\w=T.map λk=>(lk ls k).2.2.1)/\w.length<=nu ls.length q)\/∃q',t=.inr q'/\q'.length=q.length/\Mo q q'/\Cl ls q' b/\tg ls q q' λx=>x≠c/\Cl ls q' x) ?_ λt ht=>?_
  ·unfold Vb;refine BW (λm (s:Int×ALy)=>∃k:Nat,s.1=(k:Int)/\k<=ls.length/\m=ls.length-k/\s.2.length=q.length/\Mo q s.2/\(∀j,j<k->Tch ls j b->us s.2 j=true)/\tg ls q s.2 λx=>x=b\/x≠c/\Cl ls s.2 x) (λm s hI=>?_) ls.length (0,q) ⟨0,rfl,AJU _,rfl,rfl,λ_ h=>h,λj h=>by omega,λk _ h1 h2=>by rw[h1]at h2;cases h2⟩;obtain⟨k,e,hk,rfl,hlen,hmo,b5,wU⟩:=hI;obtain⟨g,u⟩:=s;simp only at e hlen hmo b5 wU;subst e;unfold OD SR;simp only;rcases AI9 k ls.length with Bh |ae
   ·rw[Dl Bh,AJe];have hku:k<u.length:=by omega
    have hw:wI ((k:Int)+1)=((k+1:Nat):Int):=A4 (by omega) (by omega);obtain⟨⟨a1,a2⟩,a3,a4⟩:=hb k Bh;have skip:(us u k=true\/¬Tch ls k b)->∃m,m<ls.length-k/\∃k':Nat,((k+1:Nat):Int)=(k':Int)/\k'<=ls.length/\m=ls.length-k'/\u.length=q.length/\Mo q u/\(∀j,j<k'->Tch ls j b->us u j=true)/\tg ls q u λx=>x=b\/x≠c/\Cl ls u x:=λh =>
     ⟨ls.length-(k+1),by omega,k+1,rfl,by omega,rfl,hlen,hmo,λj hj ht=>by
      by_cases e:j=k
      ·subst e;rcases h with h |h
       ·exact h
       ·exact(h ht).elim
      ·exact b5 j (by omega) ht,wU⟩
    unfold RB RA;simp only[AIZ];rw[AJg (Bf hku)];cases hu:us u k with
    |true =>
     rw[show u.getD k (Ty.zero .bool)=true from hu,AJe,AIY,AKd,AIY,AKd,hw];exact Aw.mk (skip (.inl hu))
    |false =>
     rw[show u.getD k (Ty.zero .bool)=false from hu,AJd];simp only[AJg (Bf Bh)];have take:∀nx:Int,wI (wI ((lk ls k).1+(lk ls k).2.1)-b)=nx->(0<=nx/\nx<4194304)->(∀x,Tch ls k x->x=b\/x=nx)->Ed ls k b nx ->
         Aw ((if(0:Int)<=(k:Int)/\(k:Int)<(u.length:Int)then
          (H9 n ls (wI (wI ((lk ls k).1+(lk ls k).2.1)-b)) c (u.set k true)).bind λo =>
           bif o.1 then
           if(([(lk ls k).2.2.1]:ALx).length+o.2.2.length)*8<=140737488355328 then
           some (Sum.inr (o.2.1,(([(lk ls k).2.2.1]:ALx)++o.2.2)))
           else none
           else some (Sum.inl o.2.1)
          else none:AL8 (ALy⊕(ALy×ALx)))) λt=>(∃q' w,t=.inr (q',w)/\q'.length=q.length/\Mo q q'/\(∃T,di ls b c T/\T.Nodup/\(∀k∈T,us q k=false)/\w=T.map λk=>(lk ls k).2.2.1)/\w.length<=nu ls.length q)\/∃q',t=.inl q'/\q'.length=q.length/\Mo q q'/\(∀j,j<k+1->Tch ls j b->us q' j=true)/\tg ls q q' λx=>x=b\/x≠c/\Cl ls q' x:=λnx hnx iB AcP htb=>by
      rw[AJg (Bf hku),hnx];have h1:=ApV (n:=ls.length) hku Bh hu;have h2:=hmo.nu (n:=ls.length);have SX:=AdO hku;refine(xx hl hb c n nx (u.set k true) (by rw[AI7];omega) iB (by omega)).bind λo ho=>?_;obtain⟨b1,⟨q2,w⟩⟩:=o;obtain⟨o1,o2,o3,o4⟩:=ho;simp only at o1 o2 o3 o4⊢;rw[AI7]at o1;have RN:Mo q q2:=λj hj=>o2 j (SX j (hmo j hj));cases b1 with
      |true =>
       have h3:=(o3 rfl).2;have h4:nu ls.length q<=ls.length:=by unfold nu;exact AJs List.countP_le_length (by rw[AJF];exact AI4 _)
       rw[AJe,AJg (by rw[AJi];omega)];refine Aw.mk (.inl ⟨q2,_,rfl,by omega,RN,?_,by rw[AI2,AJi];omega⟩);obtain⟨⟨T,t1,t2,t3,t4⟩,_⟩:=o3 rfl;refine⟨k::T,⟨nx,htb,t1⟩,List.nodup_cons.2 ⟨λhk=>?_,t2⟩,λj hj=>?_,?_⟩
       ·have:=t3 k hk;rw[im hku,AJg rfl]at this;cases this
       ·cases hqj:us q j with
        |false=>rfl
        |true =>
         have huj:=hmo j hqj;rcases List.mem_cons.1 hj with rfl |hj
         ·rw[hu]at huj;cases huj
         ·have:=t3 j hj;rw[SX j huj]at this;cases this
       ·rw[AJI,<-t4];rfl
      |false =>
       rw[AJd];obtain⟨p1,p2,p3⟩:=o4 rfl;refine Aw.mk (.inr ⟨q2,rfl,by omega,RN,λj hj ht=>?_,λj j1 j2 j3 x hx=>?_⟩)
       ·by_cases e:j=k
        ·subst e;exact o2 j (by rw[im hku,AJg rfl])
        ·exact o2 j (SX j (b5 j (by omega) ht))
       ·by_cases e:j=k
        ·subst e;rcases AcP x hx with h |h
         ·exact .inl h
         ·subst h;exact .inr ⟨p1,p2⟩
        ·cases hj:us u j with
         |true =>
          rcases wU j j1 hj j3 x hx with h |⟨h,h'⟩
          ·exact .inl h
          ·exact .inr ⟨h,h'.mono λi hi=>o2 i (SX i hi)⟩
         |false=>exact .inr (p3 j j1 j2 (by rw[im hku,AJh e];exact hj) x hx)
     have UT:∀{X:AL8 (ALy⊕(ALy×ALx))} {R:((Int×ALy)⊕((ALy×ALx)⊕ALy))->Prop},Aw X (λt=>(∃q' w,t=.inr (q',w)/\q'.length=q.length/\Mo q q'/\(∃T,di ls b c T/\T.Nodup/\(∀k∈T,us q k=false)/\w=T.map λk=>(lk ls k).2.2.1)/\w.length<=nu ls.length q)\/∃q',t=.inl q'/\q'.length=q.length/\Mo q q'/\(∀j,j<k+1->Tch ls j b->us q' j=true)/\tg ls q q' λx=>x=b\/x≠c/\Cl ls q' x) ->
         (∀s':Int×ALy,(∃m,m<ls.length-k/\∃k':Nat,s'.1=(k':Int)/\k'<=ls.length/\m=ls.length-k'/\s'.2.length=q.length/\Mo q s'.2/\(∀j,j<k'->Tch ls j b->us s'.2 j=true)/\tg ls q s'.2 λx=>x=b\/x≠c/\Cl ls s'.2 x)->R (.inl s')) ->
         (∀q' w,q'.length=q.length->Mo q q'->(∃T,di ls b c T/\T.Nodup/\(∀k∈T,us q k=false)/\w=T.map λk=>(lk ls k).2.2.1)->w.length<=nu ls.length q->R (.inr (.inl (q',w)))) ->
         Aw (X.bind (Sum.elim (λj=>some (Sum.inl (wI ((k:Int)+1),j))) λk=>some (Sum.inr (Sum.inl (k.1,k.2))):ALy⊕(ALy×ALx)->AL8 ((Int×ALy)⊕((ALy×ALx)⊕ALy)))) R:=λ{X R} hX hR1 hR2=>hX.bind λt ht=>by
      rcases ht with ⟨q',w,rfl,h1,h2,h3,h4⟩|⟨q',rfl,h1,h2,h3,h4⟩
      ·rw[AJO];exact Aw.mk (hR2 q' w h1 h2 h3 h4)
      ·rw[AKd,hw];exact Aw.mk (hR1 _ ⟨ls.length-(k+1),by omega,k+1,rfl,by omega,rfl,h1,h2,h3,h4⟩)
     by_cases hA:(lk ls k).1=b
     ·have e1:((lk ls k).1 !=b)=false:=by rw[hA,AKu]
      rw[show((ls.getD k Ab.zero).1 !=b)=false from e1,AJd,AIY,AJO];refine UT (take (lk ls k).2.1 ?_ ⟨a3,a4⟩ (λx hx=>?_) ⟨Bh,.inl ⟨hA,rfl⟩⟩) (λ_ h=>h) λq' w h1 h2 h3 h4=>.inl ⟨q',w,rfl,h1,h2,h3,h4⟩
      ·have fK:b=(lk ls k).1:=hA.symm;rw[BO (x:=(lk ls k).1+(lk ls k).2.1) (by omega) (by omega),BO (by omega) (by omega)];omega
      ·rcases hx with h |h
       ·exact .inl (by rw[<-h,hA])
       ·exact .inr h.symm
     ·have e1:((lk ls k).1 !=b)=true:=by rw[AKC];exact hA
      rw[show((ls.getD k Ab.zero).1 !=b)=true from e1,AJe];by_cases hB:(lk ls k).2.1=b
      ·have e2:((lk ls k).2.1 !=b)=false:=by rw[hB,AKu]
       rw[show((ls.getD k Ab.zero).2.1 !=b)=false from e2,AJd,AIY,AJO];refine UT (take (lk ls k).1 ?_ ⟨a1,a2⟩ (λx hx=>?_) ⟨Bh,.inr ⟨hB,rfl⟩⟩) (λ_ h=>h) λq' w h1 h2 h3 h4=>.inl ⟨q',w,rfl,h1,h2,h3,h4⟩
       ·have hB':b=(lk ls k).2.1:=hB.symm;rw[BO (x:=(lk ls k).1+(lk ls k).2.1) (by omega) (by omega),BO (by omega) (by omega)];omega
       ·rcases hx with h |h
        ·exact .inr h.symm
        ·exact .inl (by rw[<-h,hB])
      ·have e2:((lk ls k).2.1 !=b)=true:=by rw[AKC];exact hB
       rw[show((ls.getD k Ab.zero).2.1 !=b)=true from e2,AJe,AIY,AKd,AIY,AKd,hw];exact Aw.mk (skip (.inr λh=>by rcases h with h |h;exact hA h;exact hB h))
   ·have:k=ls.length:=by omega
    subst this;rw[D1,AJd];have SU:Cl ls u b:=λj h1 h2=>b5 j h1 h2;exact Aw.mk (.inr ⟨u,rfl,hlen,hmo,SU,λj j1 j2 j3 x hx=>by
     rcases wU j j1 j2 j3 x hx with h |h
     ·subst h;exact⟨hbc,SU⟩
     ·exact h⟩)
  ·rcases ht with ⟨q',w,rfl,h1,h2,h3,h4⟩|⟨q',rfl,h1,h2,h3,h4⟩
   ·exact Aw.mk ⟨h1,h2,λ_=>⟨h3,h4⟩,λh=>by cases h⟩
   ·exact Aw.mk ⟨h1,h2,λh=>(by cases h),λ_=>⟨hbc,h3,h4⟩⟩
theorem Adv{ls:ALB}(hl:ls.length<=900000)(hb:∀l∈ls,((0:Int)<=l.1/\(4194304:Int)>l.1)/\(0:Int)<=l.2.1/\(4194304:Int)>l.2.1){b c:Int}(hbb:0<=b/\b<4194304)(hc:Cn ls b c) :
    Aw (Y4 ls b c (List.replicate ls.length false)) λr=>(∃T,di ls b c T/\T.Nodup/\r.2.2=T.map λk=>(lk ls k).2.2.1)/\r.2.2.length<=ls.length:=by
 have hz:∀k,us (List.replicate ls.length false) k=false:=λk=>by
  unfold us;by_cases h:k<ls.length
  ·simp[List.getD,h]
  ·simp[List.getD,h];rfl
 have hn:nu ls.length (List.replicate ls.length false)<=ls.length:=by unfold nu;exact AJs List.countP_le_length (by rw[AJF];exact AI4 _)
 refine(xx (by omega) (λk hk=>hb _ (AE hk)) c 1000000 b (List.replicate ls.length false) (AJv) hbb (by omega)).mono λr hr=>?_;obtain⟨r1,r2,r3⟩:=r;cases r1 with
 |true=>obtain⟨⟨T,h1,h3,_,h4⟩,h2⟩:=hr.yes rfl;exact⟨⟨T,h1,h3,h4⟩,AJs h2 hn⟩
 |false =>
  exfalso
  obtain⟨n1,n2,n3⟩:=hr.no rfl;simp only at n2 n3;have key:∀{x},Cn ls b x->x≠c/\Cl ls r2 x:=λ{x} h=>by
   induction h with
   |refl=>exact⟨n1,n2⟩
   |qs ug _ ih =>
    obtain⟨k,hk,e⟩:=List.mem_iff_getElem.1 ug;have e2:lk ls k=_:=show ls.getD k Ab.zero=ls[k] by simp[List.getD,hk]
    rw[<-e,<-e2]at ih⊢;exact n3 k hk (ih.2 k hk (.inl rfl)) (hz k) _ (.inr rfl)
   |bwd ug _ ih =>
    obtain⟨k,hk,e⟩:=List.mem_iff_getElem.1 ug;have e2:lk ls k=_:=show ls.getD k Ab.zero=ls[k] by simp[List.getD,hk]
    rw[<-e,<-e2]at ih⊢;exact n3 k hk (ih.2 k hk (.inr rfl)) (hz k) _ (.inl rfl)
  exact(key hc).1 rfl
theorem Adu{a:ALx}(ha:a.length<=1048576)(b:Int):T7 a b=some (decide (b∈a)):=by
 unfold T7;refine Aw.eq_ (Aw.bind (P:=λt=>(t=.inl ()/\b∈a)\/(t=.inr ()/\b∉a)) ?_ λt ht=>?_)
 ·unfold U9;refine BW (λw (i:Int)=>∃k:Nat,i=(k:Int)/\k<=a.length/\w=a.length-k/\∀j,j<k->a.getD j 0≠b) (λw i hI=>?_) a.length 0 ⟨0,rfl,AJU _,rfl,λ_ h=>by omega⟩;obtain⟨k,rfl,hk,rfl,hE⟩:=hI;unfold Oh SI;rcases AI9 k a.length with h |h
  ·rw[Dl h,AJe,AJg (Bf h),AIZ,show(Ty.zero ALP:Int)=0 from rfl];by_cases hx:a.getD k 0=b
   ·rw[show(a.getD k 0==b)=true from beq_iff_eq.2 hx,AJe];exact Aw.mk (.inl ⟨rfl,by rw[<-hx];exact AE h⟩)
   ·rw[show(a.getD k 0==b)=false from beq_eq_false_iff_ne.2 hx,AJd,Bc h ha];exact Aw.mk ⟨_,by omega,k+1,rfl,h,rfl,λj hj=>by rcases AI9 j k with h' |h';exact hE j h';rw[show j=k by omega];exact hx⟩
  ·have:k=a.length:=by omega
   subst this;rw[D1,AJd];refine Aw.mk (.inr ⟨rfl,λhb=>?_⟩);obtain⟨j,hj,e⟩:=List.mem_iff_getElem.1 hb;exact hE j hj (by rw[<-e];simp[List.getD,hj])
 ·rcases ht with ⟨rfl,h⟩|⟨rfl,h⟩
  ·exact Aw.mk (AI3 h).symm
  ·exact Aw.mk (AI1 h).symm
theorem yX{a:ALx}(hl:a.length<=900000):Aw (NT a) λr=>r.Pairwise (·<·)/\∀x,x∈r↔x∈a:=by
 unfold NT;refine Aw.bind (P:=λr:ALx=>r.Pairwise (·<·)/\∀x,x∈r↔x∈a) ?_ λr hr=>Aw.mk hr;unfold Rj;refine BW (λm (s:Int×ALx)=>∃k:Nat,s.1=(k:Int)/\k<=a.length/\m=a.length-k/\s.2.length<=k/\s.2.Pairwise (·<·)/\∀x,x∈s.2↔x∈a.take k) (λm s hI=>?_) a.length (0,[]) ⟨0,rfl,AJU _,rfl,AI4 _,List.Pairwise.nil,λx=>by simp⟩;obtain⟨k,e,hk,rfl,hd,hup,YL⟩:=hI;obtain⟨g,d⟩:=s;simp only at e hd hup YL;subst e;unfold Kb O0;simp only;rcases AI9 k a.length with Bh |ae
 ·rw[Dl Bh,AJe];have hg:a.getD k ALP.zero=a[k]:=by simp[List.getD,Bh]
  refine Aw.bind (P:=λe:ALx=>e.length<=k+1/\e.Pairwise (·<·)/\∀x,x∈e↔x∈a.take (k+1)) ?_ λe he=>Aw.mk ⟨a.length-(k+1),by omega,k+1,A4 (by omega) (by omega),by omega,rfl,he⟩;unfold MY;simp only[AIZ,AJg (Bf Bh)];rw[Adu (a:=d) (by omega) (a.getD k ALP.zero),AIY,AJZ Bh,hg];generalize hx:a[k]=x;rw[hx]at hg;by_cases hm:x∈d
  ·rw[AI3 hm,AJe];refine Aw.mk ⟨by omega,hup,λy=>?_⟩;rw[AJ2,AJp,<-YL];exact⟨.inl,λh=>h.elim id λh=>h▸hm⟩
  ·rw[AI1 hm,AJd,AJg (by rw[AJi];omega)];refine Aw.bind (P:=λq:Int×ALx=>∃i:Nat,q.1=(i:Int)/\i<=d.length/\q.2.length=d.length+1/\q.2.take i=d.take i/\q.2.drop (i+1)=d.drop i/\(∀y∈d.drop i,x<y)/\(0<i->gI d (i-1)<=x)) ?_ λq hq=>?_
   ·unfold Ri;refine BW (λm (s:Int×ALx)=>∃i:Nat,s.1=(i:Int)/\i<=d.length/\m=i/\s.2.length=d.length+1/\s.2.take i=d.take i/\s.2.drop (i+1)=d.drop i/\∀y∈d.drop i,x<y) (λm s hI=>?_) d.length ((d.length:Int),d++[x]) ⟨d.length,rfl,AI4 _,rfl,by simp,by simp,by simp,by simp⟩;obtain⟨i,e,hi,hm,hj,h1,h2,h3⟩:=hI;rw[hm];clear hm;obtain⟨g,j⟩:=s;simp only at e hj h1 h2;subst e;unfold Ka OZ MX;simp only;cases i with
    |zero =>
     rw[AI1 (by omega),AJd,AIY,AJO];exact Aw.mk ⟨0,rfl,hi,hj,h1,h2,h3,λh=>by omega⟩
    |succ i =>
     have hw:wI (((i+1:Nat):Int)-1)=(i:Int):=A4 (by omega) (by omega);have hji:j.getD i ALP.zero=gI d i:=by
      have:=congrArg (λl:ALx=>l[i]?) h1;simp only[AJM,show i<i+1 by omega,AJK]at this;unfold gI List.getD;rw[this]
     rw[AI3 (by omega),AJe,hw];simp only[AIZ];rw[AJg (Bf (show i<j.length by omega)),AJg (Bf Bh)];have hdi:d.drop i=gI d i::d.drop (i+1):=by
      rw[AKy (show i<d.length by omega)];simp[gI,List.getD,show i<d.length by omega]
     by_cases hc:gI d i>x
     ·rw[show decide (j.getD i ALP.zero>a.getD k ALP.zero)=true from AI3 (by rw[hji,hg];exact hc),AJe,AIY,AKd,AJg (Bf (show i<j.length by omega)),AJg (Bf (show i+1<j.length by omega))];refine Aw.mk ⟨i,by omega,i,rfl,by omega,rfl,by rw[AI7];exact hj,?_,?_,λy hy=>?_⟩
      ·simp only;rw[List.take_set_of_le (by omega)];have:=congrArg (List.take i) h1;rwa [List.take_take,List.take_take,show min i (i+1)=i by omega]at this
      ·simp only;rw[hji,List.drop_set,AJh (by omega),AKI,AKy (show i+1<j.length by omega),List.set_cons_zero,h2,hdi]
      ·rw[hdi]at hy;rcases List.mem_cons.1 hy with rfl |hy
       ·exact hc
       ·exact h3 y hy
     ·rw[show decide (j.getD i ALP.zero>a.getD k ALP.zero)=false from AI1 (by rw[hji,hg];exact hc),AJd,AIY,AJO];exact Aw.mk ⟨i+1,rfl,hi,hj,h1,h2,h3,λ_=>Int.not_lt.1 hc⟩
   ·obtain⟨q1,j⟩:=q;obtain⟨i,e,hi,hj,h1,h2,h3,h4⟩:=hq;simp only at e hj h1 h2;subst e;rw[AJg (Bf (show i<j.length by omega))];have Fx:j.set i x=d.take i++x::d.drop i:=by
     rw[List.set_eq_take_append_cons_drop,AJg (by omega),h1,h2]
    have qH:∀y∈d.take i,y<x:=λy hy=>by
     obtain⟨m,SX,rfl⟩:=AKg hy;rw[AJj]at SX;have Lr:(d.take i)[m]'(by rw[AJj];exact SX)≠x:=λe=>hm (e▸AKn hy);rw[List.getElem_take]at Lr⊢;have h5:=h4 (by omega);rw[show gI d (i-1)=d[i-1] by simp[gI,List.getD,show i-1<d.length by omega]]at h5;by_cases e:m=i-1
     ·subst e;omega
     ·have:=List.pairwise_iff_getElem.1 hup m (i-1) (by omega) (by omega) (by omega);omega
    simp only[AIZ,Fx];refine Aw.mk ⟨by rw[<-Fx,AI7];omega,?_,λy=>?_⟩
    ·rw[List.pairwise_append];refine⟨hup.sublist (List.take_sublist _ _),List.pairwise_cons.2 ⟨h3,hup.sublist (List.drop_sublist _ _)⟩,λy hy z hz=>?_⟩;rcases List.mem_cons.1 hz with rfl |hz
     ·exact qH y hy
     ·exact Int.lt_trans (qH y hy) (h3 z hz)
    ·rw[AJ2,AKo,AJ2,AJp,<-YL,or_left_comm,<-AJ2,AJ8];exact Or.comm
 ·have:k=a.length:=by omega
  subst this;rw[D1,AJd];rw[List.take_length]at YL;exact Aw.mk ⟨hup,YL⟩
def o7(b:ALq):Prop:=b.2.1.length<=64/\(0<=b.1/\b.1<=4096)/\Dn b.2.1
abbrev gB(vs:ALG)(i:Nat):ALq:=vs.getD i Ah.zero
abbrev mgB(vm:List (Int×ALq))(i:Int):ALq:=Bg ALP Ah vm i
structure JN (ns N:Nat) (ld fx:ALx) (vm:List (Int×ALq)) (ks:ALB) (vs:ALG) (BF:ALx) (rt:Nat->Nat):Prop where
 fo:∃dp,Fo ld rt dp
 l1:ld.length=N
 l2:fx.length=N
 l3:vs.length=N
 l4:BF.length=N
 nn:ns<=N
 sm:∀i j,i<N->j<N->(gI BF i=gI BF j↔rt i=rt j)
 lo:∀i,i<N->0<=gI BF i/\gI BF i<=(i:Int)/\gI BF (gI BF i).toNat=gI BF i
 wd:∀i,i<N->((gB vs i).1>0↔ns<=i)
 vl:∀i,i<N->ns<=i->mgB vm (i:Int)=gB vs i
 bw:∀i,i<N->o7 (gB vs i)
 fx_:∀i,i<N->rt i=i->lD rt ns N i (gI fx i)
 lk_:∀l∈ks,((0:Int)<=l.1/\(N:Int)>l.1)/\(0:Int)<=l.2.1/\(N:Int)>l.2.1
 cn:∀i j:Nat,i<N->j<N->rt i=rt j->Cn ks (i:Int) (j:Int)
 fr:xF ks
 bk:∀l∈ks,rt l.1.toNat=rt l.2.1.toNat
 wy:∀l∈ks,0<=l.2.2.1/\l.2.2.1<=1000000
def dT(l:ALx):Prop:=l.length<=1000001/\∀w∈l,0<=w/\w<=1000000
theorem JN.bB{ns N:Nat}{ld fx:ALx}{vm:AL7 (Int×ALq)}{ks:ALB}{vs:ALG}{BF:ALx}{rt:Nat->Nat}(J:JN ns N ld fx vm ks vs BF rt){x y:Int}(h:Cn ks x y):rt x.toNat=rt y.toNat:=by
 induction h with
 |refl=>rfl
 |qs m _ ih=>exact ih.trans (J.bk _ m)
 |bwd m _ ih=>exact ih.trans (J.bk _ m).symm
def Zb(ns:Nat)(a:ALw):Prop:=((0:Int)<=a.1/\(ns:Int)>a.1)\/((0:Int)>a.1/\(0:Int)<a.2.1.1/\o7 a.2.1)
theorem tY{l:ALG}{x:ALq}{j:Nat}:gB (l++[x]) j=if j=l.length then x else gB l j:=by
 unfold gB;by_cases h:j=l.length
 ·subst h;rw[AJg rfl];simp[List.getD]
 ·rw[AJh h];by_cases h2:j<l.length
  ·simp[List.getD,AJo,h2]
  ·simp[List.getD,AJo,h2,show ¬j-l.length=0 by omega]
theorem w7{ns N:Nat}{ld fx:ALx}{vm:AL7 (Int×ALq)}{ks:ALB}{vs:ALG}{BF:ALx}{rt:Nat->Nat}(J:JN ns N ld fx vm ks vs BF rt){a:ALw}(ha:Zb ns a)(hN:N<=2000000)(p q:Int) :
    ∃k N' gl yk zB sr aX,Be p a ld fx vm ks=some (((k:Nat):Int),zB,ks,gl,yk)/\Hs q a vs ks BF=some ((k:Int),ks,sr,aX)/\k<N'/\N<=N'/\N'<=N+1/\JN ns N' gl yk zB ks sr aX rt:=by
 have Tz:=J.l1;have af:=J.l2;have hl3:=J.l3;have wO:=J.l4;have hnn:=J.nn;unfold Be Hs;rcases ha with ⟨h0,h1⟩|⟨h0,h1,h2⟩
 ·refine⟨a.1.toNat,N,ld,fx,vm,vs,BF,?_,?_,by omega,AI4 _,by omega,J⟩
  ·rw[AI3 (by omega),AJe,show((a.1.toNat:Nat):Int)=a.1 by omega]
  ·rw[AI3 (by omega),AJe,show((a.1.toNat:Nat):Int)=a.1 by omega]
 ·obtain⟨dp,hf⟩:=J.fo;have hrN:rt N=N:=hf.out N (by omega);have hd0:decide (a.1>=0)=false:=AI1 λh=>by have h:(0:Int)<=a.1:=h;omega
  have Ada:∀i,i<N->rt i<N:=λi hi=>by have:=(hf.ai i (by omega)).1;omega
  refine⟨N,N+1,ld++[(N:Int)],fx++[(N:Int)],BV ALP Ah vm (N:Int) a.2.1,vs++[a.2.1],BF++[(N:Int)],?_,?_,by omega,by omega,AI4 _,?_⟩
  ·rw[hd0,AJd,AJg (by rw[AJi];omega),AJg (by rw[AJi];omega),Tz]
  ·unfold Kd Ke;rw[hd0,AJd,AJg (by rw[AJi];omega),AIY,AJg (by rw[AJi];omega),AIY,wO,A4 (n:=N) (by rw[AI2,AJi];omega) (by omega)]
  ·have fo':=hf.add;rw[Tz]at fo';refine⟨⟨dp,fo'⟩,by simp[Tz],by simp[af],by simp[hl3],by simp[wO],by omega,λi j hi hj=>?_,λi hi=>?_,λi hi=>?_,λi hi hn=>?_,λi hi=>?_,λi hi hr=>?_,λl hl=>?_,λi j hi hj h=>?_,J.fr,J.bk,J.wy⟩
   ·rw[Sk,Sk,wO];by_cases e1:i=N<;>by_cases e2:j=N
    ·subst e1;subst e2;simp
    ·subst e1;rw[AJg rfl,AJh e2,hrN];have:=(J.lo j (by omega)).2.1;have:=Ada j (by omega);constructor<;>intro h<;>omega
    ·subst e2;rw[AJh e1,AJg rfl,hrN];have:=(J.lo i (by omega)).2.1;have:=Ada i (by omega);constructor<;>intro h<;>omega
    ·rw[AJh e1,AJh e2];exact J.sm i j (by omega) (by omega)
   ·rw[Sk,wO];by_cases e1:i=N
    ·subst e1;rw[AJg rfl,AIZ,Sk,wO,AJg rfl];omega
    ·rw[AJh e1];obtain⟨a1,a2,a3⟩:=J.lo i (by omega);refine⟨a1,a2,?_⟩;rw[Sk,wO,AJh (by omega)];exact a3
   ·rw[tY,hl3];by_cases e1:i=N
    ·subst e1;rw[AJg rfl];exact⟨λ_=>hnn,λ_=>h1⟩
    ·rw[AJh e1];exact J.wd i (by omega)
   ·rw[tY,hl3];unfold mgB;rw[Q6 (vt:=Ah)];by_cases e1:i=N
    ·subst e1;rw[AJg rfl,AJg rfl]
    ·rw[AJh e1,AJh (by omega)];exact J.vl i (by omega) hn
   ·rw[tY,hl3];by_cases e1:i=N
    ·subst e1;rw[AJg rfl];exact h2
    ·rw[AJh e1];exact J.bw i (by omega)
   ·rw[Sk,af];by_cases e1:i=N
    ·subst e1;rw[AJg rfl];exact .inr ⟨i,rfl,hnn,by omega,hrN,λj j1 j2=>by have:=Ada j j2;omega⟩
    ·rw[AJh e1];exact(J.fx_ i (by omega) hr).add hrN (by omega)
   ·have:=J.lk_ l hl;omega
   ·by_cases e1:i=N<;>by_cases e2:j=N
    ·subst e1;subst e2;exact .refl _
    ·subst e1;have:=Ada j (by omega);omega
    ·subst e2;have:=Ada i (by omega);omega
    ·exact J.cn i j (by omega) (by omega) h
theorem JN.link{ns N:Nat}{ld fx:ALx}{vm:AL7 (Int×ALq)}{ks:ALB}{vs:ALG}{BF:ALx}{rt:Nat->Nat}(J:JN ns N ld fx vm ks vs BF rt){a b:Nat}(ha:a<N)(hb:b<N)(Lr:rt a≠rt b){o:Int}(ho:1<=o/\o<=1000000) :
    JN ns N (ld.set (rt b) ((rt a:Nat):Int)) (fx.set (rt a) (if 0<=gI fx (rt a)/\0<=gI fx (rt b)then min (gI fx (rt a)) (gI fx (rt b))else max (gI fx (rt a)) (gI fx (rt b)))) vm (ks++[((a:Int),(b:Int),o,())]) vs
     (BF.map λx=>if x=max (gI BF a) (gI BF b)then min (gI BF a) (gI BF b)else x) (ZL rt (rt a) (rt b)):=by
 have Tz:=J.l1;have af:=J.l2;have wO:=J.l4;obtain⟨dp,hf⟩:=J.fo;have hra:=hf.oL a;have hrb:=hf.oL b;have hxa:rt a<N:=by have:=(hf.ai a (by omega)).1;omega
 have hxb:rt b<N:=by have:=(hf.ai b (by omega)).1;omega
 generalize hm:min (gI BF a) (gI BF b)=m;generalize hM:max (gI BF a) (gI BF b)=M;have hg:∀i,i<N->gI (BF.map λx=>if x=M then m else x) i=if gI BF i=M then m else gI BF i:=λi hi =>
  IQ (λx=>if x=M then m else x) (y :=ALP.zero) (show i<BF.length by omega)
 have ACY:gI BF a≠gI BF b:=λe=>Lr ((J.sm a b ha hb).1 e);obtain⟨a1,a2,a3⟩:=J.lo a ha;obtain⟨b1,b2,b3⟩:=J.lo b hb;refine⟨hf.join (by omega) (by omega) hra hrb Lr,by simp[Tz],by simp[af],J.l3,by rw[AJa];exact wO,J.nn,λi j hi hj=>?_,λi hi=>?_,J.wd,J.vl,J.bw,λi hi hr=>?_,λl hl=>?_,λi j hi hj h=>?_,J.fr.add (l:=((a:Int),(b:Int),o,())) (λh=>Lr (J.bB h)),λl hl=>(nH hf.oL hra hrb _ _).2 ?_,λl hl=>?_⟩
 ·rw[hg i hi,hg j hj,nH hf.oL hra hrb,<-J.sm i j hi hj,<-J.sm i a hi ha,<-J.sm j b hj hb,<-J.sm i b hi hb,<-J.sm j a hj ha];split<;>split<;>omega
 ·obtain⟨c1,c2,c3⟩:=J.lo i hi;rw[hg i hi];by_cases e:gI BF i=M
  ·rw[AJg e];refine⟨by omega,by omega,?_⟩;rcases Int.lt_or_gt_of_ne ACY with h |h
   ·have em:m=gI BF a:=by omega
    rw[em]at hg⊢;rw[hg _ (by omega),a3,AJh (by omega)]
   ·have em:m=gI BF b:=by omega
    rw[em]at hg⊢;rw[hg _ (by omega),b3,AJh (by omega)]
  ·rw[AJh e];refine⟨c1,c2,?_⟩;rw[hg _ (by omega),c3,AJh e]
 ·rw[YI (by omega)];by_cases e:i=rt a
  ·subst e;rw[AJg rfl];exact(J.fx_ _ hxa hra).join Lr (J.fx_ _ hxb hrb)
  ·rw[AJh e];have hj:rt i=i/\i≠rt b:=by
    simp only[ZL]at hr;split at hr
    ·omega
    ·exact⟨hr,by omega⟩
   exact(J.fx_ i hi hj.1).other e hj.2
 ·rcases List.mem_append.1 hl with hl |hl
  ·exact J.lk_ l hl
  ·rw[AJp]at hl;subst hl;simp only;omega
 ·have hm:∀l∈ks,l∈ks++[((a:Int),(b:Int),o,())]:=λl h=>AJw _ h;have wF:Cn (ks++[((a:Int),(b:Int),o,())]) (a:Int) (b:Int):=Cn.qs (l:=((a:Int),(b:Int),o,())) (by simp) (.refl _);rcases(nH hf.oL hra hrb i j).1 h with h |⟨h,h'⟩|⟨h,h'⟩
  ·exact(J.cn i j hi hj h).mono hm
  ·exact((J.cn i a hi ha h).mono hm).trans (wF.trans ((J.cn b j hb hj h'.symm).mono hm))
  ·exact((J.cn i b hi hb h).mono hm).trans (wF.symm.trans ((J.cn a j ha hj h'.symm).mono hm))
 ·rcases List.mem_append.1 hl with hl |hl
  ·exact .inl (J.bk l hl)
  ·rw[AJp]at hl;subst hl;exact .inr (.inl ⟨rfl,rfl⟩)
 ·rcases List.mem_append.1 hl with hl |hl
  ·exact J.wy l hl
  ·rw[AJp]at hl;subst hl;exact⟨Int.le_trans (by decide) ho.1,ho.2⟩
def JnR(ns N:Nat)(ks:ALB)(x:Bool×AL7 (Int×ALq)×ALx×ALx×ALx×ALB)(y:Bool×ALx×ALG×ALB×ALx):Prop :=
 (x.1=false/\y.1=false/\y.2.1=x.2.2.1/\dT x.2.2.1) \/
  (x.1=true/\y.1=true/\∃N' rt,N'<=N+2/\N<=N'/\x.2.2.2.2.2.length<=ks.length+1/\y.2.2.2.1=x.2.2.2.2.2/\JN ns N' x.2.2.2.1 x.2.2.2.2.1 x.2.1 x.2.2.2.2.2 y.2.2.1 y.2.2.2.2 rt)
theorem Ahk{ns N:Nat}{ld fx:ALx}{vm:AL7 (Int×ALq)}{ks:ALB}{vs:ALG}{BF:ALx}{rt:Nat->Nat}(J:JN ns N ld fx vm ks vs BF rt){n:ALu}(ha:Zb ns n.1)(hb:Zb ns n.2.1)(hN:N<=1999990)(hk:ks.length<900000)(p q:Int){o:Int}(ho:1<=o/\o<=1000000) :
    ∃x y,IZ p n o ld fx vm ks=some x/\Ks q n o vs ks BF=some y/\JnR ns N ks x y:=by
 obtain⟨a,N1,ld1,fx1,vm1,vs1,AH7,i1,s1,a1,a2,a3,J1⟩:=w7 J ha (by omega) p q;obtain⟨b,N2,ld2,yl,vm2,xt,jf,i2,s2,b1,b2,b3,J2⟩:=w7 J1 hb (by omega) p q;have Tz:=J2.l1;have af:=J2.l2;have hl3:=J2.l3;have wO:=J2.l4;obtain⟨dp,hf⟩:=J2.fo;obtain⟨r1,e1,l1,rfl,q1,q2⟩:=mJ hf (j:=a) (by omega) p yl vm2 ks;obtain⟨r2,e2,l2,rfl,q3,q4⟩:=mJ q2 (j:=b) (by omega) p yl vm2 ks;have J3:JN ns N2 l2 yl vm2 ks xt jf rt:=⟨⟨dp,q4⟩,by omega,J2.l2,J2.l3,J2.l4,J2.nn,J2.sm,J2.lo,J2.wd,J2.vl,J2.bw,J2.fx_,J2.lk_,J2.cn,J2.fr,J2.bk,J2.wy⟩;have hra:rt a<N2:=by have:=(hf.ai a (by omega)).1;omega
 have hrb:rt b<N2:=by have:=(hf.ai b (by omega)).1;omega
 have hsm:=J2.sm a b (by omega) b1;unfold IZ Iw Ks;rw[i1,AIY,s1,AIY];simp only;rw[i2,AIY,s2,AIY,AIY];simp only;rw[e1,AIY,AJg (show(0:Int)<=(a:Int)/\(a:Int)<(jf.length:Int) by omega),AJg (show(0:Int)<=(b:Int)/\(b:Int)<(jf.length:Int) by omega)];simp only[AIZ];rw[e2,AIY];simp only[AIZ];by_cases wF:rt a=rt b
 ·have g1:(jf.getD a ALP.zero==jf.getD b ALP.zero)=true:=by rw[AJ5];exact hsm.2 wF
  rw[g1,AJe,wF,AKB,AJe];exact⟨_,_,rfl,rfl,.inr ⟨rfl,rfl,N2,rt,by omega,by omega,by simp only;omega,rfl,J3⟩⟩
 ·have g1:(jf.getD a ALP.zero==jf.getD b ALP.zero)=false:=by rw[AKa];exact λe=>wF (hsm.1 e)
  have g2:(((rt a:Nat):Int)==((rt b:Nat):Int))=false:=by rw[AKa];omega
  obtain⟨w1,f1,v1,rfl,F1⟩:=fC (rt:=rt) (ns:=ns) (vs:=xt) (BF:=jf) (by omega) (λi j hi hj=>J2.sm i j (by omega) (by omega)) (λi hi=>J2.wd i (by omega)) (by omega) (b:=a) (by omega) q ks;obtain⟨w2,f2,v2,rfl,F2⟩:=fC (rt:=rt) (ns:=ns) (vs:=xt) (BF:=jf) (by omega) (λi j hi hj=>J2.sm i j (by omega) (by omega)) (λi hi=>J2.wd i (by omega)) (by omega) (b:=b) (by omega) q ks;rw[wO]at F1 F2;rw[g1,AJd,g2,AJd,f1,AIY];simp only;rw[f2,AIY];simp only;have iT:(ks.length+([((a:Int),(b:Int),o,())]:ALB).length)*24<=140737488355328:=by rw[AJi];omega
  have u1:gI yl (rt a)=v1:=(J2.fx_ _ hra (hf.oL a)).uniq F1;have u2:gI yl (rt b)=v2:=(J2.fx_ _ hrb (hf.oL b)).uniq F2;have x1:yl.getD (rt a) ALP.zero=v1:=u1;have x2:yl.getD (rt b) ALP.zero=v2:=u2;have d1:=F1.ge;have d2:=F2.ge;rw[AJg iT,AJg iT,AJg (show(0:Int)<=((rt a:Nat):Int)/\((rt a:Nat):Int)<(yl.length:Int) by omega),AJg (show(0:Int)<=((rt b:Nat):Int)/\((rt b:Nat):Int)<(yl.length:Int) by omega),x1,x2];have JL:=J3.link (a:=a) (b:=b) (by omega) b1 wF ho;rw[u1,u2]at JL;have AHq:(ks++[((a:Int),(b:Int),o,())]).length=ks.length+1:=by rw[AI2,AJi]
  have Ao4:∀c:Int,c=(if 0<=v1/\0<=v2 then min v1 v2 else v1) ->
      ∃ x y,(if(0:Int)<=((rt b:Nat):Int)/\((rt b:Nat):Int)<(l2.length:Int)then
          if(0:Int)<=((rt a:Nat):Int)/\((rt a:Nat):Int)<(yl.length:Int)then
          (DF p c ((rt a:Nat):Int) v2 vm2 (l2.set (rt b) ((rt a:Nat):Int)) (yl.set (rt a) (if v2>c then v2 else c)) (ks++[((a:Int),(b:Int),o,())])).bind λk =>
          some (true,vm2,([]:ALx),l2.set (rt b) ((rt a:Nat):Int),k,ks++[((a:Int),(b:Int),o,())])
          else none else none)=some x /\
       ((MW (a:Int) (b:Int) jf).bind λb1=>some (true,([]:ALx),xt,ks++[((a:Int),(b:Int),o,())],b1))=some y/\JnR ns N ks x y:=λc hc=>by
   rw[AJg (by omega),AJg (by omega),AdL (by omega) (by omega) (by omega),AIY];have e4:DF p c ((rt a:Nat):Int) v2 vm2 (l2.set (rt b) ((rt a:Nat):Int)) (yl.set (rt a) (if v2>c then v2 else c)) (ks++[((a:Int),(b:Int),o,())])=some (yl.set (rt a) (if 0<=v1/\0<=v2 then min v1 v2 else max v1 v2)):=by
    unfold DF QF;by_cases hv:0<=v1/\0<=v2
    ·rw[AJg hv]at hc⊢;rw[AI3 (show c>=0 by omega),AI3 (show v2>=0 by omega),Bool.and_self,AJe,AJg (by rw[AI7];omega),AIZ,AKJ,hc]
    ·rw[AJh hv]at hc⊢;rw[show(decide (c>=0)&&decide (v2>=0))=false by rw[<-Bool.not_eq_true,AI5,AKq,AKq];omega,AJd,hc];congr 2;split<;>omega
   rw[e4,AIY];exact⟨_,_,rfl,rfl,.inr ⟨rfl,rfl,N2,_,by omega,by omega,by simp only;omega,rfl,JL⟩⟩
  unfold Ix QF Kc;by_cases h1:0<=v1
  ·by_cases h2:0<=v2
   ·obtain⟨c1,rfl⟩:∃c:Nat,v1=(c:Int):=⟨v1.toNat,by omega⟩;obtain⟨c2,rfl⟩:∃c:Nat,v2=(c:Int):=⟨v2.toNat,by omega⟩;have t1:c1<N2/\ns<=c1/\rt c1=rt a:=by
     rcases F1 with ⟨h,_⟩|⟨j,h,h3,h4,h5,_⟩
     ·omega
     ·have:j=c1:=by omega
      subst this;exact⟨h4,h3,h5⟩
    have t2:c2<N2/\ns<=c2/\rt c2=rt b:=by
     rcases F2 with ⟨h,_⟩|⟨j,h,h3,h4,h5,_⟩
     ·omega
     ·have:j=c2:=by omega
      subst this;exact⟨h4,h3,h5⟩
    have m1:Bg ALP Ah vm2 (c1:Int)=gB xt c1:=J2.vl c1 t1.1 t1.2.1;have m2:Bg ALP Ah vm2 (c2:Int)=gB xt c2:=J2.vl c2 t2.1 t2.2.1;have bs:=(J2.bw c1 t1.1).1;obtain⟨r,er,hr⟩:=pH (a:=gB xt c1) (AJs bs (by decide)) (gB xt c2);obtain⟨r',er',hr'⟩:=rI (a:=gB xt c1) (AJs bs (by decide)) (gB xt c2);have err:r'=r:=by rw[Bool.eq_iff_iff,hr,hr']
    subst err;rw[AI3 (show(c1:Int)>=0 by omega),AI3 (show(c2:Int)>=0 by omega),Bool.and_self,AJe,AJe,AJe];simp only[AIZ];rw[AJg (show(0:Int)<=(c1:Int)/\(c1:Int)<(xt.length:Int) by omega),AJg (show(0:Int)<=(c2:Int)/\(c2:Int)<(xt.length:Int) by omega),m1,m2,er];rw[show Hq (xt.getD c1 Ah.zero) (xt.getD c2 Ah.zero)=some r' from er'];simp only[AIY];cases r' with
    |false =>
     simp only[AKT,AJe];have hcn:Cn (ks++[((a:Int),(b:Int),o,())]) (c1:Int) (c2:Int):=by
      have hm:∀l∈ks,l∈ks++[((a:Int),(b:Int),o,())]:=λl h=>AJw _ h;exact((J2.cn c1 a t1.1 (by omega) t1.2.2).mono hm).trans ((Cn.qs (l:=((a:Int),(b:Int),o,())) (by simp) (.refl _)).trans ((J2.cn b c2 b1 t2.1 t2.2.2.symm).mono hm))
     have hlk:=JL.lk_;obtain⟨w,ew,hw,T,hT,hTn,hTm⟩:=Aqa (v:=ks++[((a:Int),(b:Int),o,())]) (N:=N2) (by omega) (by omega) hlk (a:=(c1:Int)) (g:=(c2:Int)) (by omega) hcn;obtain⟨y,ey,⟨U,hU,hUn,hUe⟩,hy2⟩:=Adv (ls:=ks++[((a:Int),(b:Int),o,())]) (by omega) (λl h=>by have:=hlk l h;omega) (b:=(c1:Int)) (c:=(c2:Int)) (by omega) hcn;obtain⟨z,ez,hz,hzm⟩:=yX (a:=y.2.2) (by omega);rw[ew,AIY,AIY,AKd,AJg ⟨rfl,by omega,AK3 _,by omega,by omega⟩,ey,AIY,ez,AIY];refine⟨_,_,rfl,rfl,.inl ⟨rfl,rfl,Y3 (R:=(·<·)) (λ_ _ h=>h) hz hw λv=>by rw[hzm,hUe,hTm];exact hU.bB JL.fr hUn hT hTn v,?_⟩⟩;have hwr:∀v∈w,0<=v/\v<=1000000:=λv hv=>by
      obtain⟨k,hk,rfl⟩:=List.mem_map.1 ((hTm v).1 hv);exact JL.wy _ (AdC (hT.lt k hk))
     exact⟨bl 1000001 w (hw.imp λh=>Int.ne_of_lt h) λv hv=>by have:=hwr v hv;omega,hwr⟩
    |true =>
     simp only[AJH,AJd,AIY,AJO];exact Ao4 _ (by have hcc:(0:Int)<=(c1:Int)/\(0:Int)<=(c2:Int):=⟨by omega,by omega⟩;rw[AJg hcc];split<;>omega)
   ·rw[show(decide (v1>=0)&&decide (v2>=0))=false by rw[AI1 (show ¬v2>=0 by omega),Bool.and_false],AJd,AI3 (show v1>=0 by omega),AJe,AI1 (show ¬v2>=0 by omega),AJd];simp only[AIY,AJO,AJd,AIZ];exact Ao4 _ (by rw[AJh (by omega)])
  ·rw[show(decide (v1>=0)&&decide (v2>=0))=false by rw[AI1 (show ¬v1>=0 by omega),Bool.false_and],AJd,AI1 (show ¬v1>=0 by omega),AJd];simp only[AIY,AJO,AJd,AIZ];exact Ao4 _ (by rw[AJh (by omega)])
theorem ak{d:ALC}{f:Nat->Nat->Bool}(ht:∀v p,f v p=true->v<d.length/\1<=p/\p<W d v):C0 (AX d f)=f:=by
 funext v p
 rw[Bool.eq_iff_iff];unfold C0;by_cases hv:v<d.length
 ·rw[jQ hv,List.contains_iff_mem,Xl];constructor
  ·rintro⟨q,e,_,_,h⟩
   have:q=p:=by omega
   rw[<-this];exact h
  ·intro h;obtain⟨_,h1,h2⟩:=ht v p h;exact⟨p,rfl,h1,h2,h⟩
 ·constructor
  ·intro h;have:CB (AX d f) v=[]:=by unfold CB AX;simp[List.getD,hv]
   rw[this]at h;simp at h
  ·intro h;exact(hv (ht v p h).1).elim
def PPi(d:ALC)(l:ALF)(f:Nat->Nat->Bool)(i:Nat):ALJ:=PP (SL d (AX d f) d.length) (b1 d l i) (b2 d l i) 0 (eL (b1 d l i) (b2 d l i) f (b1 d l i).length++[(b1 d l i).length])
section
variable {d:ALC} {l:ALF} {f:Nat->Nat->Bool}
theorem AeN(hd:AL d)(hl:∀x∈l,Uk x)(YK:RD d l)(hs:Hb d l)(SU:L0 d l f)(ht:∀v p,f v p=true->v<d.length/\1<=p/\p<W d v){i:Nat}(hi:i<l.length) :
    NR d (l.getD i Ag.zero) (AX d f,())=some (true,PPi d l f i):=by
 have hC0:=ak ht;obtain⟨iz,hc⟩:=WY hd f;generalize hx:l.getD i Ag.zero=x;have hxl:Uk x:=by rw[<-hx];exact hl _ (AE hi)
 have Tz:∀y∈[x],Uk y:=λy hy=>by rw[AJp]at hy;rw[hy];exact hxl
 have eS:lS [x] 0=lS l i:=by unfold lS li;rw[hx];rfl
 have eT:lT [x] 0=lT l i:=by unfold lT li;rw[hx];rfl
 have eB1:b1 d [x] 0=b1 d l i:=by unfold b1;rw[eS]
 have eB2:b2 d [x] 0=b2 d l i:=by unfold b2;rw[eT]
 have Apt:RD d [x]:=⟨by simp,λj hj=>by
  have:j=0:=by simp at hj;omega
  subst this;obtain⟨h1,_,h3,h4⟩:=YK.2 i hi;have eI:nI [x] 0=nI l i:=by unfold nI li;rw[hx];rfl
  exact⟨by rw[eI];exact h1,λh=>by omega,by rw[eS];exact h3,by rw[eS,eT];exact h4⟩⟩
 have QN:Hb d [x]:=λj hj=>by
  have:j=0:=by simp at hj;omega
  subst this;have:=hs i hi;unfold lO at this⊢;rw[eS,eT];exact this
 have ACG:L0 d [x] f:=λj hj=>by
  have:j=0:=by simp at hj;omega
  subst this;rw[eB1,eB2];exact SU i hi
 obtain⟨rc,ec,himp,SV⟩:=pW (d:=d) hc Tz;obtain⟨q1,e1,h1⟩:=UN (d:=d) hc;obtain⟨q2,e2,h2⟩:=cB (d:=d) Tz;rcases SV with ⟨_,X6⟩|⟨_,_,_,_,f',rfl,hf⟩
 ·exact(X6 ⟨hd,iz,Apt,QN⟩).elim
 have hff:f'=f:=by
  funext v p
  rw[Bool.eq_iff_iff];exact⟨hf.min f ACG (by rw[hC0];exact λ_ _ h=>h) v p,λh=>hf.le v p (by rw[hC0];exact h)⟩
 subst hff;have hB:=Tz _ (List.mem_singleton.2 rfl);obtain⟨s1,s2,s3,s4,s5,s6⟩:=UM hd Tz Apt QN (show 0<[x].length by simp);rw[eB1]at s1 s3 s5;rw[eB2]at s2 s3 s6;have g1:C3 d x.2.2.1=some (F5 d (lS [x] 0)):=P9 hd hB.1;have g2:C3 d x.2.2.2.1=some (F5 d (lT [x] 0)):=P9 hd hB.2;have BJ:lQ d (b1 d l i) (b2 d l i) (C0 (AX d f')):=by rw[hC0];exact SU i hi
 unfold NR Mw Mx;rw[e1,h1.2 ⟨hd,iz⟩,AIY];simp only[AJH,AJd,e2,h2.2 ⟨hd,Apt⟩,AIY];rw[ec,AIY];simp only[AJH,AJd];rw[ow hd iz hc,AIY,AIY,AIY,AKu,AJd];rw[g1,AIY,g2,AIY,s5,s6];simp only;rw[Ad1 hd s1,AIY,Ad1 hd s2,AIY,Z5 hd iz hc,AIY,AdR hd iz hc,AIY,U8 hd iz hc,AIY];simp only;rw[ju hd iz s1 s2 s3 BJ,AIY];simp only[AJO];rw[hC0];rfl
theorem Ado(hd:AL d)(hl:∀x∈l,Uk x)(YK:RD d l)(hs:Hb d l)(SU:L0 d l f)(ht:∀v p,f v p=true->v<d.length/\1<=p/\p<W d v){i:Nat}(hi:i<l.length)(a:Int)(x:ALC)(y:ALF) :
    HC a (i:Int) x y ((List.range l.length).map (MZ d l)) (AX d f) (SL d (AX d f) d.length) (dA (SL d (AX d f) d.length) (SL d (AX d f) d.length).length) =
     some (PPi d l f i,x,y,(List.range l.length).map (MZ d l),AX d f,SL d (AX d f) d.length,dA (SL d (AX d f) d.length) (SL d (AX d f) d.length).length):=by
 have hC0:=ak ht;obtain⟨iz,hc⟩:=WY hd f;obtain⟨s1,s2,s3,s4,s5,s6⟩:=UM hd hl YK hs hi;have BJ:lQ d (b1 d l i) (b2 d l i) (C0 (AX d f)):=by rw[hC0];exact SU i hi
 have hlen:i<((List.range l.length).map (MZ d l)).length:=by rw[AJa,AJF];exact hi
 unfold HC;rw[AJg (Bf hlen),AJg (Bf hlen),AIZ,JR hi,s4];simp only;rw[iZ hd iz hc s1 s2 s3 BJ,AIY,hC0];rfl
theorem AoI{B:AL7 Bt}(h:Bj d B){L:ALB}{a b:Nat}(wF:a<b)(hb:b<=B.length)(hn:∀v x,S7 B a=.va v x->∃n,GI L (nk v x) L.length=some n):Zb L.length (Zo L B a b):=by
 unfold Zo;split
 ·refine .inr ⟨by show(0:Int) > -1;omega,?_,?_⟩
  ·show(0:Int)<((jN B a (b-a)).length:Int);unfold jN;rw[AJa,AJj,AJy];omega
  ·have hl:(jN B a (b-a)).length<=4096:=by
     unfold jN;rw[AJa,AJj,AJy];have:=h.2.1;omega
   obtain⟨h1,h2⟩:=kI (jN B a (b-a));refine⟨?_,?_,h2⟩
   ·show(jh (jN B a (b-a))).2.1.length<=64;rw[h1];unfold nw;omega
   ·show(0:Int)<=((jN B a (b-a)).length:Int)/\((jN B a (b-a)).length:Int)<=4096;omega
 ·rename_i v x hq;obtain⟨n,hn⟩:=hn v x hq;rw[hn];have:=(Xg hn).1;exact .inl ⟨by show(0:Int)<=(n:Int);omega,by show(L.length:Int)>(n:Int);omega⟩
theorem qt{c:ALK}{B:AL7 Bt}(h:Bj d B){a b i k:Nat}(S:lN d c B a b i k):Zb (SL d c d.length).length (Zo (SL d c d.length) B a b):=AoI h S.lt S.le λv x hq=>by
 rw[oi S]at hq;have hk:=S.hk;have Bh:=S.lt;cases hs:(Av B).getD i (.co [])with
 |co y =>
  rw[hs]at hq hk
  exfalso
  simp only[Sg.w]at hk;rw[show(Sg.co y).bits=y.map Bt.co from rfl,IQ Bt.co (y:=false) (by omega)]at hq;cases hq
 |va v' l' n =>
  rw[hs]at hq hk;simp only[Sg.w]at hk;rw[show(Sg.va v' l' n).bits=(List.range n).map λj=>Bt.va v' (l'+j)from rfl,JR (by omega)]at hq;injection hq with e1 e2;subst e1;subst e2;obtain⟨m,hm,_⟩:=S.va _ _ _ hs;exact⟨m,hm⟩
theorem tc{B1 B2:AL7 Bt}{h:Nat->Nat->Bool}{L:ALB}:∀{p:Nat},p<=B1.length->∀x∈PP L B1 B2 0 (eL B1 B2 h p),∃a b,Gap B1 B2 h a b/\x=pcV L B1 B2 a b
 |0,_,x,hx=>by simp[eL,PP]at hx
 |1,_,x,hx=>by rw[tP]at hx;simp[PP]at hx
 |p+2,hp,x,hx=>by
  rw[dv (p+1) (by omega)]at hx;split at hx
  ·rename_i hP;rw[Zg]at hx;rcases List.mem_append.1 hx with hx |hx
   ·exact tc (by omega) x hx
   ·rw[AJp]at hx;exact⟨_,_,fG (by omega) (by omega) (.inr hP),hx⟩
  ·exact tc (by omega) x hx
theorem Ad6(hd:AL d)(hl:∀x∈l,Uk x)(YK:RD d l)(hs:Hb d l)(SU:L0 d l f)(ht:∀v p,f v p=true->v<d.length/\1<=p/\p<W d v){i:Nat}(hi:i<l.length) :
    (PPi d l f i).length<=4097/\∀x∈PPi d l f i,Zb (SL d (AX d f) d.length).length x.1/\Zb (SL d (AX d f) d.length).length x.2.1:=by
 have hC0:=ak ht;obtain⟨iz,hc⟩:=WY hd f;obtain⟨s1,s2,s3,s4,s5,s6⟩:=UM hd hl YK hs hi;have BJ:lQ d (b1 d l i) (b2 d l i) (C0 (AX d f)):=by rw[hC0];exact SU i hi
 have uh:=s1.1;have hn2:=s1.2.1;refine⟨?_,λx hx=>?_⟩
 ·unfold PPi;rw[lM,AI2,AJi];have:=tO (B1:=b1 d l i) (B2:=b2 d l i) (h:=f) (b1 d l i).length;omega
 ·have hg:∃a b,Gap (b1 d l i) (b2 d l i) f a b/\x=pcV (SL d (AX d f) d.length) (b1 d l i) (b2 d l i) a b:=by
    unfold PPi at hx;rw[Zg]at hx;rcases List.mem_append.1 hx with hx |hx
    ·exact tc (AI4 _) x hx
    ·rw[AJp]at hx;exact⟨_,_,fG (by omega) (AI4 _) (.inl rfl),hx⟩
  obtain⟨a,b,g,rfl⟩:=hg;have g':Gap (b1 d l i) (b2 d l i) (C0 (AX d f)) a b:=by rw[hC0];exact g
  obtain⟨⟨i1,k1,S1⟩,i2,k2,S2⟩:=aM hd iz s1 s2 s3 BJ g';exact⟨qt s1 S1,qt s2 S2⟩
end
theorem Ad4{ns:Nat}{P:ALJ}(hP:∀x∈P,Zb ns x.1/\Zb ns x.2.1)(hPl:P.length<=4097){l:ALF}{i:Nat}(hi:i<l.length)(ho:1<=(l.getD i Ag.zero).1/\(l.getD i Ag.zero).1<=1000000)
    (a c d:Int) (b1:ALC) (c1:ALF) (d1:AL7 vx) (e1:ALK) (g1:ALB) (i1:AL7 (ALk×Int)) (sd:ALC) (sn se:Int) (sg si:ALr) :
    ∀(m k N:Nat) (ld fx:ALx) (vm:AL7 (Int×ALq)) (ks:ALB) (vs:ALG) (BF:ALx) (rt:Nat->Nat),k+m=P.length->JN ns N ld fx vm ks vs BF rt->N+2*m<=1999990->ks.length+m<900000 ->
     ∃x y,CU a c l d (i:Int) P (P.length:Int) b1 c1 d1 e1 g1 i1 (l.getD i Ag.zero) (k:Int) ld fx vm ks=some x/\EZ sd l sn se (i:Int) sg si P (k:Int) vs ks BF=some y /\
      ((∃w z,x=.inl w/\y=.inl z/\z.1=w.1/\dT w.1)\/∃gl yk zB Uh sr aX rt' N',x=.inr (gl,yk,zB,Uh)/\y=.inr (sr,Uh,aX)/\JN ns N' gl yk zB Uh sr aX rt'/\N'<=N+2*m/\Uh.length<=ks.length+m)
 |0,k,N,ld,fx,vm,ks,vs,BF,rt,hk,J,h1,h2=>by
  have:k=P.length:=by omega
  subst this;refine⟨.inr (ld,fx,vm,ks),.inr (vs,ks,BF),?_,?_,.inr ⟨ld,fx,vm,ks,vs,BF,rt,N,rfl,rfl,J,by omega,by omega⟩⟩
  ·unfold CU;refine Ki ?_;unfold Cq Da;simp only;rw[D1,AJd]
  ·unfold EZ;refine Ki ?_;unfold DL FH;simp only;rw[D1,AJd]
 |m+1,k,N,ld,fx,vm,ks,vs,BF,rt,hk,J,h1,h2=>by
  have Bh:k<P.length:=by omega
  obtain⟨hA,hB⟩:=hP _ (AE (z :=Aq.zero) Bh);obtain⟨x,y,ex,ey,hR⟩:=Ahk J hA hB (by omega) (by omega) c se ho;have hw:wI ((k:Int)+1)=((k+1:Nat):Int):=A4 (by omega) (by omega);obtain⟨x1,x2,x3,x4,x5,x6⟩:=x;obtain⟨y1,y2,y3,y4,y5⟩:=y;rcases hR with ⟨rfl,rfl,n1,n2⟩|⟨rfl,rfl,N',rt',r1,r2,r3,r4,J'⟩
  ·refine⟨.inl (x3,x4,x5,x2,x6),.inl (y2,y3,y4,y5),?_,?_,.inl ⟨_,_,rfl,rfl,n1,n2⟩⟩
   ·unfold CU;refine Ki ?_;unfold Cq Da;simp only[AIZ];rw[Dl Bh,AJe,AJg (Bf Bh),ex,AIY];rfl
   ·unfold EZ;refine Ki ?_;unfold DL FH;simp only[AIZ];rw[Dl Bh,AJe,AJg (Bf Bh),AJg (Bf hi),ey,AIY];rfl
  ·simp only at r3 r4 J';subst r4;obtain⟨X,Y,eX,eY,hX⟩:=Ad4 hP hPl hi ho a c d b1 c1 d1 e1 g1 i1 sd sn se sg si m (k+1) N' x4 x5 x2 y4 y3 y5 rt' (by omega) J' (by omega) (by omega);refine⟨X,Y,?_,?_,?_⟩
   ·rw[<-eX];unfold CU;refine Ns ?_;unfold Cq Da;simp only[AIZ];rw[Dl Bh,AJe,AJg (Bf Bh),ex,AIY,hw];rfl
   ·rw[<-eY];unfold EZ;refine Ns ?_;unfold DL FH;simp only[AIZ];rw[Dl Bh,AJe,AJg (Bf Bh),AJg (Bf hi),ey,AIY,hw];rfl
   ·rcases hX with h |⟨gl,yk,zB,Uh,sr,aX,ADV,N'',q1,q2,q3,q4,q5⟩
    ·exact .inl h
    ·exact .inr ⟨gl,yk,zB,Uh,sr,aX,ADV,N'',q1,q2,q3,by omega,by omega⟩
section
variable {d:ALC} {l:ALF} {f:Nat->Nat->Bool}
theorem nL(hd:AL d)(hl:∀x∈l,Uk x)(YK:RD d l)(hs:Hb d l)(SU:L0 d l f)(ht:∀v p,f v p=true->v<d.length/\1<=p/\p<W d v)(a c sn se:Int) :
    ∀(m i N:Nat) (ld fx:ALx) (vm:AL7 (Int×ALq)) (ks:ALB) (vs:ALG) (BF:ALx) (rt:Nat->Nat),i+m=l.length->JN (SL d (AX d f) d.length).length N ld fx vm ks vs BF rt->N+8194*m<=1999990->ks.length+4097*m<900000 ->
     ∃x y,Cj a l c (l.length:Int) (i:Int) d l ((List.range l.length).map (MZ d l)) (AX d f) (SL d (AX d f) d.length) (dA (SL d (AX d f) d.length) (SL d (AX d f) d.length).length) ld fx vm ks=some x /\
      Dx d l sn se (AX d f,()) (AX d f,()) (i:Int) vs ks BF=some y /\
      ((∃w z,x=.inl w/\y=.inl z/\z.1=w.2.2.2.2.2.2.1/\dT w.2.2.2.2.2.2.1/\w.2.2.2.1=AX d f)\/∃gl yk zB Uh sr aX rt' N',x=.inr (d,l,(List.range l.length).map (MZ d l),AX d f,SL d (AX d f) d.length,dA (SL d (AX d f) d.length) (SL d (AX d f) d.length).length,gl,yk,zB,Uh)/\y=.inr (sr,Uh,aX)/\JN (SL d (AX d f) d.length).length N' gl yk zB Uh sr aX rt'/\N'<=1999990)
 |0,i,N,ld,fx,vm,ks,vs,BF,rt,hk,J,h1,h2=>by
  have:i=l.length:=by omega
  subst this;refine⟨.inr (d,l,(List.range l.length).map (MZ d l),AX d f,SL d (AX d f) d.length,dA (SL d (AX d f) d.length) (SL d (AX d f) d.length).length,ld,fx,vm,ks),.inr (vs,ks,BF),?_,?_,.inr ⟨ld,fx,vm,ks,vs,BF,rt,N,rfl,rfl,J,by omega⟩⟩
  ·unfold Cj;refine Ki ?_;unfold B3 Cr;simp only;rw[D1,AJd]
  ·unfold Dx;refine Ki ?_;unfold CR DN;simp only;rw[D1,AJd]
 |m+1,i,N,ld,fx,vm,ks,vs,BF,rt,hk,J,h1,h2=>by
  have Bh:i<l.length:=by omega
  have kl:=YK.1;have hw:wI ((i:Int)+1)=((i+1:Nat):Int):=A4 (by omega) (by omega);cases hE:(l.getD i Ag.zero).2.1 with
  |false =>
   obtain⟨X,Y,eX,eY,hX⟩:=nL hd hl YK hs SU ht a c sn se m (i+1) N ld fx vm ks vs BF rt (by omega) J (by omega) (by omega);refine⟨X,Y,?_,?_,hX⟩
   ·rw[<-eX];unfold Cj;refine Ns ?_;unfold B3 Cr CV;simp only[AIZ];rw[Dl Bh,AJe,AJg (Bf Bh),hE,hw];rfl
   ·rw[<-eY];unfold Dx;refine Ns ?_;unfold CR DN Fa;simp only[AIZ];rw[Dl Bh,AJe,AJg (Bf Bh),hE,hw];rfl
  |true =>
   have eP:=Ado hd hl YK hs SU ht Bh a d l;have eS:=AeN hd hl YK hs SU ht Bh;obtain⟨p1,p2⟩:=Ad6 hd hl YK hs SU ht Bh;obtain⟨x,y,ex,ey,hR⟩:=Ad4 p2 p1 Bh (YK.2 i Bh).1 a c (l.length:Int) d l ((List.range l.length).map (MZ d l)) (AX d f) (SL d (AX d f) d.length) (dA (SL d (AX d f) d.length) (SL d (AX d f) d.length).length) d sn se (AX d f,()) (AX d f,()) (PPi d l f i).length 0 N ld fx vm ks vs BF rt (by omega) J (by omega) (by omega);have e0:((0:Nat):Int)=0:=rfl;rw[e0]at ex ey;rcases hR with ⟨w,z,rfl,rfl,n1,n2⟩|⟨gl,yk,zB,Uh,sr,aX,rt',N',rfl,rfl,J',q1,q2⟩
   ·refine⟨.inl (d,l,(List.range l.length).map (MZ d l),AX d f,SL d (AX d f) d.length,dA (SL d (AX d f) d.length) (SL d (AX d f) d.length).length,w.1,w.2.1,w.2.2.1,w.2.2.2.1,w.2.2.2.2),.inl (z.1,z.2.1,z.2.2.1,z.2.2.2),?_,?_,.inl ⟨_,_,rfl,rfl,n1,n2,rfl⟩⟩
    ·unfold Cj;refine Ki ?_;unfold B3 Cr CV;simp only[AIZ];rw[Dl Bh,AJe,AJg (Bf Bh),hE,AJH,AJd,eP,AIY];simp only;rw[ex];rfl
    ·unfold Dx;refine Ki ?_;unfold CR DN Fa;simp only[AIZ];rw[Dl Bh,AJe,AJg (Bf Bh),AJg (Bf Bh),hE,AJH,AJd,eS,AIY];simp only;rw[ey];rfl
   ·obtain⟨X,Y,eX,eY,hX⟩:=nL hd hl YK hs SU ht a c sn se m (i+1) N' gl yk zB Uh sr aX rt' (by omega) J' (by omega) (by omega);refine⟨X,Y,?_,?_,hX⟩
    ·rw[<-eX];unfold Cj;refine Ns ?_;unfold B3 Cr CV;simp only[AIZ];rw[Dl Bh,AJe,AJg (Bf Bh),hE,AJH,AJd,eP,AIY,hw];simp only;rw[ex];rfl
    ·rw[<-eY];unfold Dx;refine Ns ?_;unfold CR DN Fa;simp only[AIZ];rw[Dl Bh,AJe,AJg (Bf Bh),AJg (Bf Bh),hE,AJH,AJd,eS,AIY,hw];simp only;rw[ey];rfl
end
def isR(rt:Nat->Nat)(i:Nat):Bool:=(List.range i).all λj=>rt j !=rt i
def Cy(rt:Nat->Nat):Nat->ALz
 |0=>[]
 |i+1=>if isR rt i=true then Cy rt i++[i]else Cy rt i
def Td(rt:Nat->Nat):Nat->Nat->ALx
 |0,_=>[]
 |i+1,a=>if rt i=rt a then Td rt i a++[(i:Int)]else Td rt i a
theorem nF{rt:Nat->Nat}{i:Nat}:isR rt i=true↔∀j,j<i->rt j≠rt i:=by
 unfold isR;rw[List.all_eq_true];simp
theorem nG{rt:Nat->Nat}{i:Nat}(h:isR rt i=false):∃j,j<i/\rt j=rt i:=by
 unfold isR at h;rw[List.all_eq_false]at h;obtain⟨j,h1,h2⟩:=h;exact⟨j,List.mem_range.1 h1,by simpa using h2⟩
abbrev rp(rt:Nat->Nat)(i k:Nat):Nat:=(Cy rt i).getD k 0
theorem dL(rt:Nat->Nat):∀i,(Cy rt i).length<=i
 |0=>AI4 _
 |i+1=>by
  have:=dL rt i;unfold Cy;split
  ·rw[AI2,AJi];omega
  ·omega
theorem dH(rt:Nat->Nat)(a:Nat):∀i,(Td rt i a).length<=i
 |0=>AI4 _
 |i+1=>by
  have:=dH rt a i;unfold Td;split
  ·rw[AI2,AJi];omega
  ·omega
theorem UL(rt:Nat->Nat):∀(i k:Nat),k<(Cy rt i).length->rp rt i k<i/\isR rt (rp rt i k)=true
 |0,k,h=>by simp[Cy]at h
 |i+1,k,h=>by
  unfold rp Cy at *;by_cases e:isR rt i=true
  ·rw[AJg e]at h⊢;rw[AI2,AJi]at h;by_cases hk:k<(Cy rt i).length
   ·have:=UL rt i k hk;rw[show(Cy rt i++[i]).getD k 0=rp rt i k by simp[List.getD,AJo,hk]];exact⟨Nat.lt_succ_of_lt this.1,this.2⟩
   ·have:k=(Cy rt i).length:=by omega
    rw[show(Cy rt i++[i]).getD k 0=i by subst this;simp[List.getD]];exact⟨by omega,e⟩
  ·rw[AJh e]at h⊢;have:=UL rt i k h;exact⟨Nat.lt_succ_of_lt this.1,this.2⟩
theorem dO(rt:Nat->Nat):∀(i j:Nat),j<i->∃k,k<(Cy rt i).length/\rt (rp rt i k)=rt j
 |0,j,h=>by omega
 |i+1,j,h=>by
  unfold rp Cy;by_cases e:isR rt i=true
  ·rw[AJg e,AI2,AJi];by_cases hj:j=i
   ·subst hj;exact⟨(Cy rt j).length,by omega,by simp[List.getD]⟩
   ·obtain⟨k,hk,h2⟩:=dO rt i j (by omega);exact⟨k,by omega,by rw[show(Cy rt i++[i]).getD k 0=rp rt i k by simp[List.getD,AJo,hk]];exact h2⟩
  ·rw[AJh e];by_cases hj:j=i
   ·subst hj;obtain⟨j',h1,h2⟩:=nG (Bool.eq_false_iff.2 e);obtain⟨k,hk,h3⟩:=dO rt j j' h1;exact⟨k,hk,h3.trans h2⟩
   ·exact dO rt i j (by omega)
theorem Ap0{rt:Nat->Nat}{i k k':Nat}(hk:k<(Cy rt i).length)(Ve:k'<(Cy rt i).length)(h:rt (rp rt i k)=rt (rp rt i k')):rp rt i k=rp rt i k':=by
 obtain⟨_,h1⟩:=UL rt i k hk;obtain⟨_,h2⟩:=UL rt i k' Ve;rw[nF]at h1 h2;rcases AK1 (rp rt i k) (rp rt i k')with e |e |e
 ·exact(h2 _ e h).elim
 ·exact e
 ·exact(h1 _ e h.symm).elim
theorem bp(rt:Nat->Nat):∀i,(Cy rt i).Pairwise (·<·)
 |0=>List.Pairwise.nil
 |i+1=>by
  unfold Cy;split
  ·rw[List.pairwise_append];refine⟨bp rt i,List.pairwise_singleton _ _,λa ha b hb=>?_⟩;rw[AJp]at hb;subst hb;obtain⟨k,hk,e⟩:=List.mem_iff_getElem.1 ha;have:=(UL rt b k hk).1;rwa [show rp rt b k=a by rw[<-e];simp[rp,List.getD,hk]]at this
  ·exact bp rt i
theorem AhE{rt:Nat->Nat}{i k k':Nat}(hk:k<(Cy rt i).length)(Ve:k'<(Cy rt i).length)(h:rp rt i k=rp rt i k'):k=k':=by
 have hp:=List.pairwise_iff_getElem.1 (bp rt i);have e1:rp rt i k=(Cy rt i)[k]:=by simp[rp,List.getD,hk]
 have e2:rp rt i k'=(Cy rt i)[k']:=by simp[rp,List.getD,Ve]
 rcases AK1 k k' with e |e |e
 ·have:=hp k k' hk Ve e;omega
 ·exact e
 ·have:=hp k' k Ve hk e;omega
def cV(rt:Nat->Nat)(fx:ALx)(vs:ALG)(i a:Nat):ALs :=
 (Td rt i a,bif decide (gI fx (rt a)>=0)then(true,((gB vs (gI fx (rt a)).toNat).1,(gB vs (gI fx (rt a)).toNat).2.1,()),())else(false,(0,[],()),()))
abbrev PM:Type:=List (Int×Int)
structure Plc (rt:Nat->Nat) (i:Nat) (g:PM):Prop where
 AQ:∀k,k<(Cy rt i).length->SA ALP ALP g ((rt (rp rt i k):Nat):Int)=true/\Bg ALP ALP g ((rt (rp rt i k):Nat):Int)=(k:Int)
 has:∀r:Nat,SA ALP ALP g (r:Int)=true->∃k,k<(Cy rt i).length/\rt (rp rt i k)=r
theorem nM{A B:Type}{F G:A->B}{l:AL7 A}{k:Nat}{z:A}(hk:k<l.length)(h:∀k',k'<l.length->k'≠k->F (l.getD k' z)=G (l.getD k' z)):(l.map F).set k (G (l.getD k z))=l.map G:=by
 apply AKs
 ·simp
 ·intro n h1 h2;have hn:n<l.length:=by simpa using h2
  by_cases e:k=n
  ·subst e;simp[List.getD,hk]
  ·rw[List.getElem_set_ne e];have:=h n hn (Ne.symm e);simpa [List.getD,hn]using this
theorem mf{ns N:Nat}{ld fx:ALx}{vm:AL7 (Int×ALq)}{ks:ALB}{vs:ALG}{BF:ALx}{rt:Nat->Nat}(J:JN ns N ld fx vm ks vs BF rt)(hN:N<=1999990)(a:Int) :
    Aw (FE a (ns:Int) ld fx vm ks) λr=>r.2.2.2.2=(Cy rt ns).map (cV rt fx vs ns):=by
 have hnn:=J.nn;have af:=J.l2;have hl3:=J.l3;unfold FE;refine Aw.bind (P:=λr:ALx×ALx×AL7 (Int×ALq)×ALB×ALH=>r.2.2.2.2=(Cy rt ns).map (cV rt fx vs ns)) ?_ λr hr=>Aw.mk hr;unfold Jw;refine BW (λm (s:Int×ALx×ALx×AL7 (Int×ALq)×ALB×ALH×PM)=>∃i:Nat,s.1=(i:Int)/\i<=ns/\m=ns-i/\(∃dp,Fo s.2.1 rt dp)/\s.2.1.length=N/\s.2.2.1=fx/\s.2.2.2.1=vm/\s.2.2.2.2.2.1=(Cy rt i).map (cV rt fx vs i)/\Plc rt i s.2.2.2.2.2.2) (λm s hI=>?_) ns (0,ld,fx,vm,ks,[],[]) ⟨0,rfl,AJU _,rfl,J.fo,J.l1,rfl,rfl,rfl,⟨λk h=>by simp[Cy]at h,λr h=>by simp[SA,NI]at h⟩⟩;obtain⟨i,e1,hi,rfl,⟨dp,hf⟩,hl,e2,e3,e4,hP⟩:=hI;obtain⟨g,x,y,v,k0,out,pl⟩:=s;simp only at e1 hf hl e2 e3 e4 hP;subst e1;subst e2;subst e3;subst e4;unfold Ep Ie;simp only;rcases AI9 i ns with Bh |ae
 ·have hri:rt i<N:=by have:=(hf.ai i (by omega)).1;omega
  have hrr:=hf.oL i;obtain⟨c,ec,x',rfl,ug,hf'⟩:=mJ hf (j:=i) (by omega) a y v k0;rw[Dl Bh,AJe,ec,AIY];simp only;have hrl:=dL rt i;have hw:wI ((i:Int)+1)=((i+1:Nat):Int):=A4 (by omega) (by omega);unfold FR;cases hR:isR rt i with
  |false =>
   obtain⟨j,hj,ej⟩:=nG hR;obtain⟨k,hk,ek⟩:=dO rt i j hj;rw[ej]at ek;obtain⟨h1,h2⟩:=hP.AQ k hk;rw[ek]at h1 h2;have sF:Cy rt (i+1)=Cy rt i:=by rw[Cy,AJh (by rw[hR];simp)]
   rw[h1,h2,AJH,AJd,AIY];have hol:((Cy rt i).map (cV rt y vs i)).length=(Cy rt i).length:=AJa _;have hgk:((Cy rt i).map (cV rt y vs i)).getD k Ak.zero=cV rt y vs i (rp rt i k):=IQ (cV rt y vs i) (y:=0) hk;simp only[AIZ,hgk];have yu:=dH rt (rp rt i k) i;rw[AJg (show(0:Int)<=(k:Int)/\(k:Int)<(((Cy rt i).map (cV rt y vs i)).length:Int) by omega),AJg (show((cV rt y vs i (rp rt i k)).1.length+([(i:Int)]:ALx).length)*8<=140737488355328 by rw[AJi];show((Td rt i (rp rt i k)).length+1)*8<=_;omega),AJg (show(0:Int)<=(k:Int)/\(k:Int)<(((Cy rt i).map (cV rt y vs i)).length:Int) by omega),AJg trivial,hw];refine Aw.mk ⟨ns-(i+1),by omega,i+1,rfl,by omega,rfl,⟨dp,hf'⟩,by simp only;omega,rfl,rfl,?_,?_⟩
   ·simp only;rw[sF];have hc:((cV rt y vs i (rp rt i k)).1++[(i:Int)],(cV rt y vs i (rp rt i k)).2)=cV rt y vs (i+1) (rp rt i k):=by
     unfold cV;rw[Td,AJg ek.symm]
    rw[hc];refine nM hk λk' Ve Lr=>?_;unfold cV;rw[Td,AJh λe=>Lr (AhE Ve hk (Ap0 Ve hk (by show rt (rp rt i k')=_;rw[ek];exact e.symm)))]
   ·exact⟨by rw[show rp rt (i+1)=rp rt i by unfold rp;rw[sF],sF];exact hP.AQ,by rw[show rp rt (i+1)=rp rt i by unfold rp;rw[sF],sF];exact hP.has⟩
  |true =>
   have iV:=nF.1 hR;have X6:SA ALP ALP pl ((rt i:Nat):Int)=false:=by
    rw[Bool.eq_false_iff];intro h;obtain⟨k,hk,ek⟩:=hP.has _ h;exact iV _ (UL rt i k hk).1 ek
   have sF:Cy rt (i+1)=Cy rt i++[i]:=by rw[Cy,AJg hR]
   rw[X6,AKT,AJe];have hol:((Cy rt i).map (cV rt y vs i)).length=(Cy rt i).length:=AJa _;have e3:Dq a (i:Int) ((rt i:Nat):Int) (ns:Int) x' y v k0 ((Cy rt i).map (cV rt y vs i)) (((Cy rt i).map (cV rt y vs i)).length:Int) (BV ALP ALP pl ((rt i:Nat):Int) (((Cy rt i).map (cV rt y vs i)).length:Int))=some (bif decide (gI y (rt i)>=0)then(true,(gB vs (gI y (rt i)).toNat).1,(gB vs (gI y (rt i)).toNat).2.1)else(false,0,[])):=by
    unfold Dq;simp only[AIZ];rw[AJg (show(0:Int)<=((rt i:Nat):Int)/\((rt i:Nat):Int)<(y.length:Int) by omega)];show(bif decide (gI y (rt i)>=0)then _ else _)=_;cases hd:decide (gI y (rt i)>=0)with
    |false=>rfl
    |true =>
     have hd:gI y (rt i)>=0:=AKE hd;rw[AJe,AJe];have hF:=J.fx_ _ hri hrr;rcases hF with ⟨h,_⟩|⟨q,h,h3,h4,h5,_⟩
     ·omega
     ·have hb:=J.vl q h4 h3;have hbw:=(J.bw q h4).1;show(C2 (Bg ALP Ah v (gI y (rt i)))).bind _=_;rw[h,AIZ];rw[show Bg ALP Ah v (q:Int)=gB vs q from hb];unfold C2;rw[AJg (by omega)];rfl
   rw[e3,AIY,AJg (by rw[AJi];omega),AIY];simp only;generalize hbv:(bif decide (gI y (rt i)>=0)then(true,(gB vs (gI y (rt i)).toNat).1,(gB vs (gI y (rt i)).toNat).2.1)else(false,0,[]):Bool×Int×ALx)=bv;have YJ:cV rt y vs (i+1) i=([(i:Int)],bv.1,(bv.2.1,bv.2.2,()),()):=by
    have hm:Td rt i i=[]:=by
     have:∀n,n<=i->Td rt n i=[]:=λn=>by
      induction n with
      |zero=>intro _;rfl
      |succ n ih=>intro h;rw[Td,AJh (iV n (by omega))];exact ih (by omega)
     exact this i (AI4 _)
    unfold cV;rw[Td,AJg rfl,hm,<-hbv];cases decide (gI y (rt i)>=0)<;>rfl
   simp only[AIZ];have hgl:(((Cy rt i).map (cV rt y vs i))++[(([]:ALx),bv.1,(bv.2.1,bv.2.2,()),())]).getD ((Cy rt i).map (cV rt y vs i)).length Ak.zero=(([]:ALx),bv.1,(bv.2.1,bv.2.2,()),()):=by simp[List.getD]
   rw[hgl];have hal:(((((Cy rt i).map (cV rt y vs i))++[(([]:ALx),bv.1,(bv.2.1,bv.2.2,()),())]):ALH).length:Int)=(((Cy rt i).map (cV rt y vs i)).length:Int)+1:=by rw[AI2,AJi];omega
   rw[hal,AJg (by omega),AJg (by rw[AJi];simp),AJg (by omega),AJg trivial,hw];refine Aw.mk ⟨ns-(i+1),by omega,i+1,rfl,by omega,rfl,⟨dp,hf'⟩,by simp only;omega,rfl,rfl,?_,?_⟩
   ·simp only;rw[sF,AJJ,AKz _ _ (AI4 _),AKI];have yv:(Cy rt i).map (cV rt y vs (i+1))=(Cy rt i).map (cV rt y vs i):=AJQ λb hb=>by
     obtain⟨k,hk,e⟩:=List.mem_iff_getElem.1 hb;have AzF:=(UL rt i k hk).1;rw[show rp rt i k=b by rw[<-e];simp[rp,List.getD,hk]]at AzF;unfold cV;rw[Td,AJh (Ne.symm (iV b AzF))]
    rw[yv];show _=_++[cV rt y vs (i+1) i];rw[YJ];rfl
   ·have AHI:(Cy rt (i+1)).length=(Cy rt i).length+1:=by rw[sF,AI2,AJi]
    have hg1:∀k,k<(Cy rt i).length->rp rt (i+1) k=rp rt i k:=λk hk=>by unfold rp;rw[sF];simp[List.getD,AJo,hk]
    have hg2:rp rt (i+1) (Cy rt i).length=i:=by unfold rp;rw[sF];simp[List.getD]
    refine⟨λk hk=>?_,λr hr=>?_⟩
    ·by_cases e:k<(Cy rt i).length
     ·have Lr:((rt (rp rt i k):Nat):Int)≠((rt i:Nat):Int):=λh=>iV _ (UL rt i k e).1 (by omega);rw[hg1 k e,VE (vt:=.int .i64),Q6 (vt:=.int .i64),AJh Lr,(hP.AQ k e).1,(hP.AQ k e).2,Bool.or_true];exact⟨rfl,rfl⟩
     ·have:k=(Cy rt i).length:=by omega
      subst this;rw[hg2,VE (vt:=.int .i64),Q6 (vt:=.int .i64),AJg rfl,AI3 rfl,Bool.true_or,hol];exact⟨rfl,rfl⟩
    ·rw[VE (vt:=.int .i64),AKe,AKq]at hr;rcases hr with hr |hr
     ·exact⟨(Cy rt i).length,by omega,by rw[hg2];omega⟩
     ·obtain⟨k,hk,ek⟩:=hP.has r hr;exact⟨k,by omega,by rw[hg1 k hk];exact ek⟩
 ·have:i=ns:=by omega
  subst this;rw[D1,AJd];exact Aw.mk rfl
theorem mg{ns N:Nat}{ld fx:ALx}{vm:AL7 (Int×ALq)}{ks:ALB}{vs:ALG}{BF:ALx}{rt:Nat->Nat}(J:JN ns N ld fx vm ks vs BF rt)(hN:N<=1999990)(b:Int)(c:ALr) :
    Aw (JX (ns:Int) b c 0 [] vs ks BF) (·=(Cy rt ns).map (cV rt fx vs ns)):=by
 have hnn:=J.nn;have af:=J.l2;have hl3:=J.l3;have wO:=J.l4;obtain⟨dp,hf⟩:=J.fo;unfold JX;refine BW (λm (s:Int×ALH×ALG×ALB×ALx)=>∃i:Nat,s.1=(i:Int)/\i<=ns/\m=ns-i/\s.2.1=(Cy rt i).map (cV rt fx vs ns)/\s.2.2.1=vs/\s.2.2.2.1=ks/\s.2.2.2.2=BF) (λm s hI=>?_) ns (0,[],vs,ks,BF) ⟨0,rfl,AJU _,rfl,rfl,rfl,rfl,rfl⟩;obtain⟨i,e1,hi,rfl,e2,e3,e4,e5⟩:=hI;obtain⟨g,out,v,k0,l⟩:=s;simp only at e1 e2 e3 e4 e5;subst e1;subst e2;subst e3;subst e4;subst e5;unfold HZ LS;simp only;rcases AI9 i ns with Bh |ae
 ·have hw:wI ((i:Int)+1)=((i+1:Nat):Int):=A4 (by omega) (by omega);obtain⟨o1,o2,o3⟩:=J.lo i (by omega);have hrl:=dL rt i;have hri:rt i<N:=by have:=(hf.ai i (by have:=J.l1;omega)).1;have:=J.l1;omega
  rw[Dl Bh,AJe];unfold JW;simp only[AIZ];rw[AJg (Bf (show i<l.length by omega))];cases hR:isR rt i with
  |false =>
   obtain⟨j,hj,ej⟩:=nG hR;have h1:=(J.sm j i (by omega) (by omega)).2 ej;have h2:=(J.lo j (by omega)).2.1;have sF:Cy rt (i+1)=Cy rt i:=by rw[Cy,AJh (by rw[hR];simp)]
   rw[show decide (l.getD i ALP.zero<(i:Int))=true from AI3 (show gI l i<(i:Int) by omega),AJe,AIY,hw];exact Aw.mk ⟨ns-(i+1),by omega,i+1,rfl,by omega,rfl,by simp only;rw[sF],rfl,rfl,rfl⟩
  |true =>
   have iV:=nF.1 hR;have Xa:gI l i=(i:Int):=by
    rcases Int.lt_or_eq_of_le o2 with h |h
    ·exfalso
     have h3:=(J.sm (gI l i).toNat i (by omega) (by omega)).1 (by rw[o3]);exact iV _ (by omega) h3
    ·exact h
   have sF:Cy rt (i+1)=Cy rt i++[i]:=by rw[Cy,AJg hR]
   rw[show decide (l.getD i ALP.zero<(i:Int))=false from AI1 (show ¬gI l i<(i:Int) by omega),AJd];have sD:Td rt i i=[]:=by
    have:∀n,n<=i->Td rt n i=[]:=λn=>by
     induction n with
     |zero=>intro _;rfl
     |succ n ih=>intro h;rw[Td,AJh (iV n (by omega))];exact ih (by omega)
    exact this i (AI4 _)
   obtain⟨x,ex,hx⟩:Aw (JV (ns:Int) b (i:Int) c ((Cy rt i).map (cV rt fx v ns)) v k0 l (i:Int) []) (·=Td rt ns i):=by
    unfold JV;refine BW (λm (s:Int×ALx)=>∃k:Nat,s.1=(k:Int)/\i<=k/\k<=ns/\m=ns-k/\s.2=Td rt k i) (λm s hI=>?_) (ns-i) ((i:Int),[]) ⟨i,rfl,AI4 _,hi,rfl,sD.symm⟩;obtain⟨k,q1,q2,q3,rfl,q4⟩:=hI;obtain⟨w,x⟩:=s;simp only at q1 q4;subst q1;subst q4;unfold HY LR JU;simp only;rcases AI9 k ns with hk |hk
    ·have iX:wI ((k:Int)+1)=((k+1:Nat):Int):=A4 (by omega) (by omega);have yu:=dH rt i k;rw[Dl hk,AJe];simp only[AIZ];rw[AJg (Bf (show k<l.length by omega))];have hE:=J.sm k i (by omega) (by omega);rw[Xa]at hE;by_cases e:rt k=rt i
     ·rw[show(l.getD k ALP.zero==(i:Int))=true from beq_iff_eq.2 (hE.2 e),AJe,AJg (by rw[AJi];omega),AIY,iX];exact Aw.mk ⟨ns-(k+1),by omega,k+1,rfl,by omega,by omega,rfl,by rw[Td,AJg e]⟩
     ·rw[show(l.getD k ALP.zero==(i:Int))=false from beq_eq_false_iff_ne.2 λh=>e (hE.1 h),AJd,AIY,iX];exact Aw.mk ⟨ns-(k+1),by omega,k+1,rfl,by omega,by omega,rfl,by rw[Td,AJh e]⟩
    ·have:k=ns:=by omega
     subst this;rw[D1,AJd];exact Aw.mk rfl
   subst hx;obtain⟨w1,f1,v1,rfl,F1⟩:=fC (rt:=rt) (ns:=ns) (vs:=v) (BF:=l) (by omega) (λi j hi hj=>J.sm i j (by omega) (by omega)) (λi hi=>J.wd i (by omega)) (by omega) (b:=i) (by omega) b k0;rw[wO]at F1;have cT:v1=gI fx (rt i):=F1.uniq (J.fx_ _ hri (hf.oL i));rw[ex,AIY,f1,AIY];simp only;have e16:GM (ns:Int) b (i:Int) c ((Cy rt i).map (cV rt fx v ns)) (Td rt ns i) v1 v k0 l=some (bif decide (gI fx (rt i)>=0)then(true,(gB v (gI fx (rt i)).toNat).1,(gB v (gI fx (rt i)).toNat).2.1)else(false,0,[])):=by
    unfold GM;rw[cT];cases hd:decide (gI fx (rt i)>=0)with
    |false=>rfl
    |true =>
     have hd:gI fx (rt i)>=0:=AKE hd;rw[AJe,AJe];rw[cT]at F1;have AHr:=F1.ge;have hbw:=(J.bw (gI fx (rt i)).toNat (by omega)).1;rw[AJg ⟨hd,by omega⟩];unfold OE;rw[AJg (show(gB v (gI fx (rt i)).toNat).2.1.length*8<=140737488355328 by omega)];rfl
   rw[e16,AIY,AJg (by rw[AJa,AJi];omega),AIY,hw];refine Aw.mk ⟨ns-(i+1),by omega,i+1,rfl,by omega,rfl,?_,rfl,rfl,rfl⟩;simp only;rw[sF,AJJ];congr 1;show[_]=[cV rt fx v ns i];unfold cV;cases decide (gI fx (rt i)>=0)<;>rfl
 ·have:i=ns:=by omega
  subst this;rw[D1,AJd];exact Aw.mk rfl
theorem Z6{ns:Nat}(h:ns<=1000000):∃ld fx vs BF,LA (ns:Int)=some (0,ld,fx,[])/\Ue (ns:Int)=some (0,vs,BF)/\JN ns ns ld fx [] [] vs BF (λa=>a):=by
 have hg:∀{i},i<ns->gI ((List.range ns).map Int.ofNat) i=(i:Int):=λ{i} hi=>JR (g:=Int.ofNat) hi;refine⟨(List.range ns).map Int.ofNat,List.replicate ns (-1),List.replicate ns (0,[],()),(List.range ns).map Int.ofNat,?_,?_,?_⟩
 ·unfold LA PS;have:=AU (f:=DJ (ns:Int)) (λk=>((k:Int),(List.range k).map Int.ofNat,List.replicate k (-1))) (t:=((List.range ns).map Int.ofNat,List.replicate ns (-1))) ns (λk hk=>?_) ?_
  ·exact(congrArg (λo=>Option.bind o λb=>some ((0:Int),b.1,b.2,([]:AL7 (Int×ALq)))) this).trans rfl
  ·unfold DJ IA;simp only;rw[Dl hk,AJe,AJg (by simp;omega),AJg (by simp;omega),A4 (n:=k+1) (by omega) (by omega),GK,List.replicate_succ'];rfl
  ·unfold DJ IA;simp only;rw[D1,AJd]
 ·unfold Ue Vd;rw[AJg ⟨rfl,by omega,AK3 _,by omega,by omega⟩,AIZ];have:=AU (f:=Ht (ns:Int) (List.replicate ns (0,[],()))) (λk=>((k:Int),(List.range k).map Int.ofNat)) (t:=(List.range ns).map Int.ofNat) ns (λk hk=>?_) ?_
  ·exact(congrArg (λo=>Option.bind o λc=>some ((0:Int),(List.replicate ns (0,[],()):ALG),c)) this).trans rfl
  ·unfold Ht OG;simp only;rw[Dl hk,AJe,AJg (by simp;omega),A4 (n:=k+1) (by omega) (by omega),GK];rfl
  ·unfold Ht OG;simp only;rw[D1,AJd]
 ·have hB:∀{i},i<ns->gB (List.replicate ns (0,[],())) i=(0,[],()):=λ{i} hi=>by simp[gB,List.getD,hi]
  refine⟨⟨λ_=>0,λa ha=>?_,λa ha=>?_,λ_ _=>rfl⟩,by simp,by simp,by simp,by simp,AI4 _,λi j hi hj=>?_,λi hi=>?_,λi hi=>?_,λi hi hn=>?_,λi hi=>?_,λi hi hr=>?_,λl hl=>?_,λi j hi hj h'=>?_,λk hk=>(by cases hk),λl hl=>(by cases hl),λl hl=>(by cases hl)⟩
  ·have ha:a<ns:=by simpa using ha
   exact⟨a,by simpa using ha,hg ha,rfl,.inl ⟨rfl,rfl⟩⟩
  ·have ha':a<ns:=by simpa using ha
   exact⟨ha,rfl,hg ha'⟩
  ·rw[hg hi,hg hj];omega
  ·rw[hg hi,AIZ,hg hi];omega
  ·rw[hB hi];exact⟨λh'=>by exact absurd h' (by decide),λh'=>by omega⟩
  ·omega
  ·rw[hB hi];exact⟨by decide,by decide,λx hx=>by cases hx⟩
  ·refine .inl ⟨by simp[gI,List.getD,hi],λj h1 h2=>by omega⟩
  ·cases hl
  ·have:i=j:=h';subst this;exact .refl _
def sL(x:ALs):Prop:=(x.1.length<=1000000/\∀w:Int,w∈(x.1:ALx)->0<=w/\w<=1000000)/\o7 x.2.2.1
theorem nO{rt:Nat->Nat}{a:Nat}:∀{n:Nat} {y:Int},y∈Td rt n a->0<=y/\y<(n:Int)
 |0,y,h=>by simp[Td]at h
 |n+1,y,h=>by
  rw[Td]at h;split at h
  ·rcases List.mem_append.1 h with h |h
   ·have:=nO h;omega
   ·rw[AJp]at h;omega
  ·have:=nO h;omega
theorem AoX{ns N:Nat}{ld fx:ALx}{vm:AL7 (Int×ALq)}{ks:ALB}{vs:ALG}{BF:ALx}{rt:Nat->Nat}(hns:ns<=1000000)(J:JN ns N ld fx vm ks vs BF rt){x:ALs}(hx:x∈(Cy rt ns).map (cV rt fx vs ns)):sL x:=by
 obtain⟨a,ha,rfl⟩:=List.mem_map.1 hx;refine⟨⟨AJs (dH rt a ns) hns,λw hw=>by have:=nO hw;omega⟩,?_⟩;have hz:o7 (0,[],()):=⟨by decide,by decide,λx hx=>by cases hx⟩;have hb:∀i,o7 (gB vs i):=λi=>by
  by_cases h:i<N
  ·exact J.bw i h
  ·have hl3:=J.l3;rw[show gB vs i=(0,[],()) by simp[gB,List.getD,show vs.length<=i by omega];rfl];exact hz
 unfold cV;cases decide (gI fx (rt a)>=0)
 ·exact hz
 ·exact hb _
theorem tG{d:ALC}{l:ALF}{c:ALK}{f:Nat->Nat->Bool}(hd:AL d)(hl:∀x∈l,Uk x)(YK:RD d l)(hs:Hb d l)(hf:dX d l c f)(ec:EL d l (c,())=some ((AX d f,()),true)) :
    ∃X Y,GF 0 d l ((List.range l.length).map (MZ d l)) (AX d f) (SL d (AX d f) d.length) (dA (SL d (AX d f) d.length) (SL d (AX d f) d.length).length)=some X/\BN d l (c,())=some (Y,true)/\Y.1=(AX d f,())/\X.2.2.2.1=AX d f/\X.2.2.2.2.2.2.1=Y.2.1/\X.2.2.2.2.2.2.2=Y.2.2.1/\dT Y.2.2.1/\Y.2.1.length<=1000000/\∀x∈Y.2.1,sL x:=by
 obtain⟨iz,hc⟩:=WY hd f;have iQ:=hd.1;have kl:=YK.1;have IR:=dZ hd iz d.length (AI4 _);obtain⟨ld,fx,vs,BF,e1,e2,J⟩:=Z6 (ns:=(SL d (AX d f) d.length).length) (by omega);obtain⟨x,y,ex,ey,hR⟩:=nL hd hl YK hs hf.cl hf.ai 0 0 ((SL d (AX d f) d.length).length:Int) 0 l.length 0 _ ld fx [] [] vs BF _ (by omega) J (by omega) (by simp;omega);have e0:((0:Nat):Int)=0:=rfl;rw[e0]at ex ey;unfold GF BN;rw[e1,AIY,ec,AIY];simp only[AJH,AJd];rw[U8 hd iz hc,AIY,e2,AIY];simp only;rw[ex,ey,AIY,AIY];rcases hR with ⟨w,z,rfl,rfl,n1,n2,n3⟩|⟨gl,yk,zB,Uh,sr,aX,rt',N',rfl,rfl,J',q1⟩
 ·simp only[AKd];exact⟨_,_,rfl,rfl,rfl,n3,rfl,n1.symm,n1▸n2,AJU _,λx hx=>by cases hx⟩
 ·simp only[AJO];obtain⟨r,er,hr⟩:=mf J' q1 0;obtain⟨r',er',rfl⟩:=mg J' q1 0 (AX d f,());rw[er,er',AIY,AIY];exact⟨_,_,rfl,rfl,rfl,rfl,hr,rfl,⟨AJU _,λw hw=>by cases hw⟩,by rw[AJa];have:=dL rt' (SL d (AX d f) d.length).length;omega,λx hx=>AoX (by omega) J' hx⟩
theorem my{a:ALK}(h:Ty.Wf (.sl (.sl (.int .i64))) a):VO PV a :=
 WZ (F:=F9) (z:=Ty.zero (.sl (.int .i64))) (r:=IB) (λ_ _=>rfl) (λ_ _ _=>rfl) h.1 λx hx=>Uq (h.2 x hx).1
theorem bW{a:ALr}(h:Ty.Wf Aj a):LD a a=some true:=by
 unfold LD;rw[VW (my h.1)];rfl
theorem tQ{a:ALs}(h:Ty.Wf Ak a):VO Mn a:=by
 intro b;obtain⟨s,f,v,_⟩:=a;obtain⟨s',f',v',_⟩:=b;unfold Mn;refine Aw.bind (Uq h.1.1 s') λr1 aS=>Aw.cond (λh1=>Aw.mk (by simp at h1;simp_all)) λh1=>Aw.cond (λh2=>Aw.mk (by simp at h1 h2;simp_all)) λh2 =>
  Aw.bind (jV h.2.2.1 v') λr2 wS=>Aw.cond (λh4=>Aw.mk (by simp at h1 h2 h4;simp_all)) λh4=>Aw.mk (by simp at h1 h2 h4;simp_all)
theorem fy{a:ALj}(h:Ty.Wf AG a):GJ a a=some true:=by
 have e:Rv a.2.1 a.2.1=some true:=VW (WZ (F:=Mn) (z :=Ak.zero) (r:=JC) (λ_ _=>rfl) (λ_ _ _=>rfl) h.2.1.1 λx hx=>tQ (h.2.1.2 x hx));unfold GJ;rw[bW h.1,e,VW (Uq h.2.2.1.1)];rfl
theorem oD{a:ALK}(h:Ty.Wf (.sl (.sl (.int .i64))) a):Zi (.sl (.sl (.int .i64))) LK a :=
 oF (t:=.sl (.int .i64)) (z:=Ty.zero (.sl (.int .i64))) (F:=λx l=>some (BG x l)) (r:=IE) (λ_ _=>rfl) (λ_ _=>rfl) h.1 λx hx=>cE (h.2 x hx).1
theorem zw{a:ALr}(h:Ty.Wf Aj a):Zi Aj Uy a:=λleft h0 h1 =>
 AeV (F:=LK) (x:=a.1) (oD h.1) h0 h1
theorem AyU{a:ALr}(h:wt Aj a<=1048576):Uj a.1:=by
 have e:wt Aj a=wt (.sl (.sl (.int .i64))) a.1:=rfl;rw[e]at h;exact⟨AJs (Y8 a.1) h,λx hx=>AJs (AJs (Y8 (t:=.int .i64) x) (vk (t:=.sl (.int .i64)) hx)) h⟩
theorem zA{a:ALr}(h:Uj a.1):BD a=some a.1:=by
 unfold BD P0 P1;have hl:=h.1;rw[AJg ⟨rfl,by omega,by omega,by omega,by omega⟩,AIZ,bP (r:=IG a.1) (F:=Ga) (mk:=λe=>e) (z:=Ty.zero (.sl (.int .i64))) (λ_=>rfl) hl (λx hx=>⟨x,cG (h.2 x hx),rfl⟩)];rfl
def Hr(b:Int)(s:ALx)(b':Int):Prop:=0<=b/\s.length<=1048576/\Ch Hi s b b'
theorem Ag4{b:Int}{s:ALx}{b':Int}(h:Hr b s b'):b<=b':=XC (λ_ _ _=>mX) h.2.2
theorem cr{a:ALK}(h:Uj a){k:Int}(h0:0<=k)(hk:k+(((a.map List.length).sum:Nat):Int)<=2305843009213693952):Aw (KA k a) (dY Hr a (a.map List.length).sum k):=by
 unfold KA Ms Nh;have hl:=h.1;have:=Q5 (f:=CY) (cost:=List.length) (z:=Ty.zero (.sl (.int .i64))) (a:=a) (H:=Hr) (k:=k) 2305843009213693952 (λb i d hi hd hg iO hb=>by
  unfold CY G5;simp only;have Ut:i<d.length:=by omega
  have iB:=h.2 _ (AE (z:=Ty.zero (.sl (.int .i64))) hi);rw[hd,Dl hi,AJe];simp(disch:=omega) only[w1,AI7,hd,AIZ,gsS Ut,AKJ,AJg (Bf hi),AIY,AJf];rw[hg];refine(Rx (a:=a.getD i (Ty.zero (.sl (.int .i64)))) iB (by omega) (by omega)).bind λr hr=>?_;obtain⟨r1,r2,r3,r4⟩:=hr;exact Aw.mk ⟨r.1,_,rfl,by omega,by omega,iO,by omega,r4⟩) (λb d hd=>by
  unfold CY G5
  try simp only
  rw[hd,D1,AJd]) h0 hk
 obtain⟨r,e,hr⟩:=this;rw[e];exact Aw.mk hr
theorem qB{a:ALK}(hn:a.length<=1048576){k k':Int}(h0:0<=k)(h:Ch Hr a k k'):Kz (a,()) k=some k':=by
 have hm:=XC (λ_ _ _=>Ag4) h;unfold Kz Mq Nf;rw[XM (f:=CW a) (z:=Ty.zero (.sl (.int .i64))) (H:=Hr) (λi b b' hi hH=>by
  unfold CW G3
  try simp only
  obtain⟨h1,h2,h3⟩:=hH;have:=XC (λ_ _ _=>mX) h3;rw[Dl hi,AJe,AJg (Bf hi),AIZ,UV h2 h3,AIY,AI1 (by omega),AJd,Bc hi hn]) (λb=>by
  unfold CW G3
  try simp only
  rw[D1,AJd]) h]
 rw[AIY,AJO,AIY,AI1 (by omega)];rfl
def Yz(x:ALs):Nat:=2+x.1.length+x.2.2.1.2.1.length
def Hk(b:Int)(s:ALs)(b':Int):Prop:=0<=b/\b'<=2305843009213693952/\s.1.length<=1048576/\s.2.2.1.2.1.length<=1048576/\∃m,Ch Hi s.1 b m/\s.2.1=((Int.tmod m 3)==0)/\s.2.2.1.1=m+1/\Ch Hu s.2.2.1.2.1 (m+2) b'
theorem jg{a:ALH}(hl:a.length<=1048576)(hn:∀s∈a,s.1.length<=1048576/\s.2.2.1.2.1.length<=1048576){k:Int}(h0:0<=k)(hk:k+(((a.map Yz).sum:Nat):Int)<=2305843009213693952):Aw (Kn k a) (dY Hk a (a.map Yz).sum k):=by
 unfold Kn OQ;have:=Q5 (f:=De) (cost:=Yz) (z :=Ak.zero) (a:=a) (H:=Hk) (k:=k) 2305843009213693952 (λb i d hi hd hg iO hb=>by
  unfold De HJ JF;simp only;have Ut:i<d.length:=by omega
  have iB:=hn _ (AE (z :=Ak.zero) hi);unfold Yz at hb;rw[hd,Dl hi,AJe];simp(disch:=omega) only[w1,AI7,hd,AIZ,gsS Ut,AKJ,AJg (Bf hi),AIY,AJf];rw[hg];refine(Rx (a:=(a.getD i Ak.zero).1) iB.1 (by omega) (by omega)).bind λr hr=>?_;obtain⟨r1,r2,r3,r4⟩:=hr;simp(disch:=omega) only[w1,AI7,hd,AIZ,gsS Ut,AKJ,AJg (Bf hi),AIY,AJf];refine(Xh (a:=(a.getD i Ak.zero).2.2.1.2.1) iB.2 (by omega) (by omega)).bind λq hq=>?_;obtain⟨q1,q2,q3,q4⟩:=hq
  try simp(disch:=omega) only[w1,AI7,hd,AIZ,gsS Ut,AKJ,AJg (Bf hi),AIY,AJf]
  refine Aw.mk ⟨q.1,_,rfl,by omega,by unfold Yz;omega,iO,by omega,?_,?_,r.1,r4,rfl,rfl,?_⟩
  ·show r.2.length<=_;omega
  ·show q.2.length<=_;omega
  ·rw[show r.1+2=r.1+1+1 by omega];exact q4) (λb d hd=>by
  unfold De HJ
  try simp only
  rw[hd,D1,AJd]) h0 hk
 exact this.bind λr hr=>Aw.mk hr
theorem iR{a:ALH}(hn:a.length<=1048576){k k':Int}(h:Ch Hk a k k'):Hh a k=some k':=by
 unfold Hh OO;rw[XM (f:=Dc a) (z :=Ak.zero) (H:=Hk) (λi b b' hi hH=>by
  unfold Dc HH
  try simp only
  obtain⟨h1,h2,h3,h4,m,h5,h6,h7,h8⟩:=hH;have m1:=XC (λ_ _ _=>mX) h5;have m2:=XC (λ_ _ _=>Ahb) h8;have e8:=fP h4 h8;rw[show m+2=m+1+1 by omega]at e8;rw[Dl hi,AJe];simp(disch:=omega) only[w1,AJg (Bf hi),AIZ,UV h3 h5,AIY,h6,h7,e8,AKu,AKB,AJH,AJd];rw[AI1 (by omega),AJd,AI1 (by omega),AJd];rfl) (λb=>by
  unfold Dc HH
  try simp only
  rw[D1,AJd]) h]
 rfl
structure Alb (R:Bool×ALK×ALH×ALx):Prop where
 c1:R.2.1.length<=1048576
 c2:∀x∈R.2.1,x.length<=4096/\∀w∈x,0<=w/\w<=1000000
 k1:R.2.2.1.length<=1000000
 k2:∀x∈R.2.2.1,sL x
 cl:dT R.2.2.2
theorem oQ{l:ALx}(h:l.length<=1048576)(hl:∀w∈l,0<=w/\w<=1000000):Ty.Wf (.sl (.int .i64)) l :=
 ⟨AJs h XW,λx hx=>kp (by have:=hl x hx;omega) (by have:=hl x hx;omega)⟩
theorem Alb.wf{R:Bool×ALK×ALH×ALx}(h:Alb R):Ty.Wf AG ((R.2.1,()),R.2.2.1,R.2.2.2,()) :=
 ⟨⟨⟨AJs h.c1 XW,λx hx=>oQ (by have:=(h.c2 x hx).1;omega) (h.c2 x hx).2⟩,trivial⟩,⟨AJs (AJs h.k1 (by decide)) XW,λx hx=>by
  obtain⟨⟨a1,a2⟩,a3,⟨a4,a4'⟩,a5⟩:=h.k2 x hx;exact⟨oQ (AJs a1 (by decide)) a2,trivial,⟨kp (x:=x.2.2.1.1) (Int.le_trans (by decide) a4) (Int.le_trans a4' (by decide)),Ae4 (ws:=x.2.2.1.2.1) a5 (by omega),trivial⟩,trivial⟩⟩,oQ (AJs h.cl.1 (by decide)) h.cl.2,trivial⟩
theorem me{d:ALC}{l:ALF}{c:ALK}(hl:∀x∈l,Uk x)(hc:Uj c):∃R,BN d l (c,())=some (((R.2.1,()),R.2.2.1,R.2.2.2,()),R.1)/\BM d l (c,())=some R/\Alb R:=by
 obtain⟨rc,ec,himp,SV⟩:=pW (d:=d) (l:=l) hc hl;rcases SV with ⟨rfl,_⟩|⟨hd,_,YK,hs,f,rfl,hf⟩
 ·refine⟨(false,[],[],[]),?_,?_,by decide,λx hx=>(by cases hx),by decide,λx hx=>(by cases hx),by decide,λx hx=>(by cases hx)⟩
  ·unfold BN;rw[ec];rfl
  ·unfold BM;rw[himp];rfl
 ·obtain⟨X,Y,eX,eY,hY,h1,h2,h3,h4,h5,h6⟩:=tG hd hl YK hs hf ec;obtain⟨Azi,ACF⟩:=WY hd f;have IR:=dZ hd Azi d.length (AI4 _);have iQ:=hd.1;obtain⟨v5,ev5,hv5⟩:=Yf hd hl YK;have ADE:v5.2=(List.range l.length).map (MZ d l):=by
   rcases hv5 with ⟨_,_,h⟩|⟨_,h⟩
   ·exact h
   ·exact(h hs).elim
  refine⟨(true,AX d f,Y.2.1,Y.2.2.1),?_,?_,⟨by simp[AX];omega,λx hx=>?_,h5,h6,h4⟩⟩
  ·rw[eY];obtain⟨y1,y2,y3,_⟩:=Y;cases hY;rfl
  ·unfold BM;rw[himp,AIY];simp only[AJH,AJd];rw[ev5,AIY,ja hd Azi ACF,AIY,yh (by omega),AIY,ADE,eX,AIY,h1,h2,h3]
  ·obtain⟨v,hv,rfl⟩:=List.mem_map.1 hx;obtain⟨e0,cW,cX⟩:=QB hd (List.mem_range.1 hv);exact⟨AJs (UH _ _) cX,λw hw=>by obtain⟨p,rfl,h1,h2,_⟩:=Xl.1 hw;omega⟩
theorem uZ{a:ALK}:(a.map List.length).sum<=wt (.sl (.sl (.int .i64))) a:=by
 show _<=a.length+(a.map (wt (.sl (.int .i64)))).sum;have:∀l:ALK,(l.map List.length).sum<=(l.map (wt (.sl (.int .i64)))).sum:=λl=>by
  induction l with
  |nil=>simp
  |cons y l ih=>have:=Y8 (t:=.int .i64) y;simp only[AJI,AKp];omega
 have:=this a;omega
theorem uY{A:Type}{f:A->Nat}{m:Nat}:∀{a:AL7 A},(∀s∈a,f s<=m)->(a.map f).sum<=m*a.length
 |[],_=>by simp
 |s::a,h=>by
  have h1:=h s AJt;have h2:=uY λs hs=>h s (AJq _ hs);simp only[AJI,AKp,AJL,Nat.mul_succ];omega
theorem law_ok(n:ALC)(o:ALF)(q:ALr)(hn:Ty.Wf (.sl Ad) n)(ho:Ty.Wf (.sl Ag) o)(hq:Ty.Wf Aj q):G2 n o q=some true:=by
 unfold G2 Er Es Et Eu Ev;rw[u0 hn 1048576 (by omega) (by omega),AIY];generalize h1:wt (.sl Ad) n=w1 at *;by_cases c1:(w1:Int)<=1048576
 case neg=>rw[AJh c1];rfl
 rw[AJg c1,AI1 (by omega),AJd,jz ho _ (by omega) (by omega),AIY];generalize h2:wt (.sl Ag) o=w2 at *;by_cases c2:(w2:Int)<=1048576-(w1:Int)
 case neg=>rw[AJh c2];rfl
 rw[AJg c2,AI1 (by omega),AJd,zw hq _ (by omega) (by omega),AIY];generalize h3:wt Aj q=w3 at *;by_cases c3:(w3:Int)<=1048576-(w1:Int)-(w2:Int)
 case neg=>rw[AJh c3];rfl
 rw[AJg c3,AI1 (by omega),AJd];have ln:n.length<=1048576:=by have:=Y8 (t:=Ad) n;omega
 have lo:o.length<=1048576:=by have:=Y8 (t:=Ag) o;omega
 have bo:∀x∈o,Uk x:=λx hx=>AAc (ho.2 x hx) (by have:=vk (t:=Ag) hx;omega);have bq:Uj q.1:=AyU (a:=q) (by omega);have tn:=vd ln;have to':=jA lo bo;have tq:=zA bq;obtain⟨R,s1,s2,hR⟩:=me (d:=n) (c:=q.1) bo bq;have heq:=fy hR.wf;have hcu:LD (q.1,()) (q.1,())=some true:=bW hq;simp only[tn,to',tq,s1,s2,AIY,heq,AJH,AJd,AKB,VW (tT hn),VW (iL ho),hcu];have cd:2*n.length<=2*w1:=by have:=Y8 (t:=Ad) n;omega
 have ct:=xZ o;have cq:(q.1.map List.length).sum<=w3:=by
  have:=uZ (a:=q.1);have e:wt Aj q=wt (.sl (.sl (.int .i64))) q.1:=rfl;omega
 obtain⟨m1,e1,q1,q1',_⟩:=nN ln (k:=1) (by omega) (by omega);obtain⟨m2,e2,q2,q2',_⟩:=dc lo bo (k:=m1.1) (by omega) (by omega);obtain⟨m4,e4,q4,q4',_⟩:=cr bq (k:=m2.1) (by omega) (by omega);simp only[e1,e2,e4,AIY];rw[AI1 (by omega)];simp only[AJd,AIY,heq,AJH,AKB];have M7:=hR.c1;have hk1:=hR.k1;have SU:=hR.cl;have b1:(R.2.1.map List.length).sum<=4096*R.2.1.length:=uY λs hs=>(hR.c2 s hs).1;have b2:(R.2.2.1.map Yz).sum<=1000066*R.2.2.1.length:=uY λs hs=>by
  obtain⟨⟨a1,_⟩,a3,_⟩:=hR.k2 s hs;unfold Yz;omega
 unfold Mr I4;obtain⟨m5,e5,q5,q5',q6,q7⟩:=cr (a:=R.2.1) ⟨M7,λx hx=>AJs (hR.c2 x hx).1 (by decide)⟩ (k:=1) (by omega) (by omega);obtain⟨m6,e6,u5,u5',u6,u7⟩:=jg (a:=R.2.2.1) (by omega) (λx hx=>by
  obtain⟨⟨a1,_⟩,a3,_⟩:=hR.k2 x hx;exact⟨AJs a1 (by decide),AJs a3 (by decide)⟩) (k:=m5.1) (by omega) (by omega)
 obtain⟨m7,e7,v5,v5',v6,v7⟩:=Rx (a:=R.2.2.2) (AJs SU.1 (by decide)) (k:=m6.1) (by omega) (by have:=SU.1;omega);have e7':KX m6.1 R.2.2.2=some m7:=e7;have g1:=qB (by omega) (by omega) q7;have g2:=iR (by omega) u7;have g3:=UV (by rw[v6];exact AJs SU.1 (by decide)) v7;have g:(Kz (m5.2,()) 1).bind (λc=>bif decide (c<0)then some (-1)else(Hh m6.2 c).bind λd=>bif decide (d<0)then some (-1)else(DW m7.2 d).bind λe=>bif decide (e<0)then some (-1)else some e)=some m7.1:=by
  rw[g1,AIY,AI1 (by omega),AJd,g2,AIY,AI1 (by omega),AJd,g3,AIY,AI1 (by omega)];rfl
 simp only[e5,e6,e7',AIY,g,AKu,AJd];rw[AI1 (by omega)];simp only[AJd,tn,to',tq,s1,s2,AIY,heq,AJH,AKB]
end Go.Proofs.X
