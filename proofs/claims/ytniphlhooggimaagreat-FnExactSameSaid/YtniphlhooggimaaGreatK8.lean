import Derived.Test.YtniphlhooggimaaGreatK7
set_option linter.unusedVariables false
set_option linter.unusedSimpArgs false
namespace Go.Proofs.X
open Go Go.Va
set_option maxRecDepth 100000
def sd(d:AOE)(l:AOG)(i s:Nat):APH Bt:=if s=0 then b1 d l i else b2 d l i
def eK{A:Type}(f:Nat->Nat->A)(n:Nat):APH A:=(List.range n).flatMap λi=>[f i 0,f i 1]
theorem jR{A:Type}(f:Nat->Nat->A)(n:Nat):eK f (n+1)=eK f n++[f n 0,f n 1]:=by
 unfold eK;rw[ANc];simp
theorem Vf{A:Type}(f:Nat->Nat->A):∀n,(eK f n).length=2*n
 |0=>rfl
 |n+1=>by rw[jR,AMa,Vf f n];simp;omega
theorem zN{A:Type}(f:Nat->Nat->A){z:A}:∀{n i s:Nat},i<n->s<2->(eK f n).getD (2*i+s) z=f i s
 |n+1,i,s,hi,hs=>by
  rw[jR];simp;rcases AMh i n with h |h
  ·rw[AMt (by rw[Vf];omega)];exact zN f h hs
  ·have:i=n:=by omega
   subst this;rw[AMs (by rw[Vf];omega),Vf,show 2*i+s-2*i=s by omega]
   grind
theorem Vv{d:AOE}{l:AOG}(hd:Az d)(hl:∀x∈l,Ht x)(hlen:l.length<=60):Ay (Nc d l) λr=>(r.1=true/\BD d l/\r.2=eK (λi s=>(BK d (if s=0 then lS l i else lT l i)).2) l.length)\/(r.1=false/\¬BD d l):=by
 refine Ay.bind (P:=λt=>(∃x,t=.inl x/\¬BD d l)\/(t=.inr (eK (λi s=>(BK d (if s=0 then lS l i else lT l i)).2) l.length)/\BD d l)) ?_ λt ht=>?_
 ·refine Bu (λm x=>∃k:Nat,k<=l.length/\m=l.length-k/\x.1=(k:Int)/\x.2=eK (λi s=>(BK d (if s=0 then lS l i else lT l i)).2) k/\∀i,i<k->gq d l i) (λm x hI=>?_) _ _ ⟨0,AMS _,rfl,rfl,rfl,λi hi=>by omega⟩;obtain⟨x1,x2⟩:=x;obtain⟨k,hk,rfl,h1,h2,h3⟩:=hI;subst h1;subst h2;unfold LK QH PD;simp only;rcases AMh k _ with h |h
  ·have hB:=hl _ (AJ (z:=Ty.zero _) h);have e1:Di d (l.getD k _).2.2.1=some (BK d (lS l k)):=Qn hd hB.1;have e2:Di d (l.getD k _).2.2.2.1=some (BK d (lT l k)):=Qn hd hB.2;rw[Dy h,AMo (Bl h),AL7,e1,AL6,AMo (Bl h),e2,AL6];cases hc:(!(BK d _).1||!(BK d _).1)with
   |true =>
    refine Ay.mk (.inl ⟨_,rfl,λh'=>?_⟩);have:=p9.2 (h' k h);rw[hc]at this;cases this
   |false =>
    rw[AMo (by rw[Vf];show(2*k+2)*24<=_;omega),Bj h (by omega)];refine Ay.mk ⟨l.length-(k+1),by omega,k+1,h,rfl,rfl,(jR _ k).symm,λi hi=>?_⟩;rcases AMh i k with h' |h'
    ·grind
    ·rw[show i=k by omega];exact p9.1 hc
  ·have:k=l.length:=by omega
   subst this;rw[Fb];exact Ay.mk (.inr ⟨rfl,h3⟩)
 ·rcases ht with ⟨x,rfl,h⟩|⟨rfl,h⟩
  ·exact Ay.mk (.inr ⟨rfl,h⟩)
  ·exact Ay.mk (.inl ⟨rfl,h,rfl⟩)
def ZE(f:Nat->Nat->Bool):Sg->Nat->Nat->Bool
 |.co _=>f
 |.va v l n=>mark (mark f v l) v (l+n)
theorem AgY{d:AOE}(hd:Az d){ks:APH (APH Sg)}{m i:Nat}(hm:m<ks.length)(hi:i<(ks.getD m []).length)(FR:UN d ((ks.getD m []).getD i (.co []))){f:Nat->Nat->Bool}{o:AOM} :
    Ky (m:Int) (i:Int) (M d 1 f) (ks.map fV) o=some (M d 1 (ZE f ((ks.getD m []).getD i (.co [])))):=by
 unfold Ky;have e1:(ks.map fV).getD m (Ty.zero (.sl _))=fV (ks.getD m []):=FZ fV hm;simp only[AL7,e1,fe hi];rw[AMi,AMo (Bl hm),Ce,AMo (Bl hi)];cases hs:(ks.getD m []).getD i _ with
 |co b=>rfl
 |va v a n =>
  rw[hs]at FR;obtain⟨hv,hn,hw⟩:=FR;obtain⟨e0,fj,fP⟩:=NK hd hv;have e2:(HI (.va v a n)).1=v:=rfl;have e3:(HI (.va v a n)).2.1=a:=rfl;have e5:(HI (.va v a n)).2.2.1=n:=rfl;have e4:wI (a+n)=((a+n:Nat)):=A1;simp only[e2,e3,e5,e4,AL7];have q1:(M d 1 f).set v (((M d 1 f).getD v APy.zero).set a true)=M d 1 _:=nL hv;simp only[q1];have q2:(M d 1 _).set v (((M d 1 _).getD v APy.zero).set _ true)=M d 1 (mark (mark f v a) v (a+n)):=nL hv;simp only[q2];rw[show decide ((v:Int)>=0)=true from LO,WY,AMo (Bl hv),Xt hv,Kv,AMo (show 0<=(a:Int)/\a<((W d v+1:Nat):Int)from⟨by omega,by omega⟩),WY,AMo (Bl hv),Xt hv,Kv,AMo (show 0<=((a+n:Nat):Int)/\((a+n:Nat))<((W d v+1:Nat):Int)from⟨by omega,by omega⟩)];rfl
theorem AgZ{d:AOE}(hd:Az d){ks:APH (APH Sg)}{m:Nat}(hm:m<ks.length)(hb:(ks.getD m []).length<=1048576)(FR:∀x∈ks.getD m [],UN d x){f:Nat->Nat->Bool}{o:AOM} :
    Tb (m:Int) (ks.map fV) o 0 (M d 1 f)=some (M d 1 ((ks.getD m []).foldl ZE f)):=by
 have e1:(ks.map fV).getD m (Ty.zero (.sl _))=fV (ks.getD m []):=FZ fV hm;have:=AU (f:=FF m (ks.map fV) o) (λk=>(k,M d 1 (((ks.getD m []).take k).foldl ZE f))) (t:=M d 1 ((ks.getD m []).foldl ZE f)) (ks.getD m []).length (λk hk=>?_) ?_
 ·exact this
 ·unfold FF LA;simp only[AL7,e1];rw[AMi,AMo (Bl hm),Ce,Dy hk,AgY hd hm hk (FR _ (AJ hk)),Bj hk hb,AW  hk,ANW];rfl
 ·unfold FF LA;simp only[AL7,e1];rw[AMi,AMo (Bl hm),Ce,Fb,AMl,AMg (AMc _)]
def Zn(B:APH Bt):AOx:=(bV B,W3 (Ax B),())
theorem Ag0{d:AOE}(hd:Az d){bs:APH (APH Bt)}(hb:∀B∈bs,Bg d B)(hl:bs.length<=1000){f:Nat->Nat->Bool} :
    Tc (bs.map fN) 0 (M d 1 f) []=some (M d 1 ((bs.flatMap Ax).foldl ZE f),bs.map Zn):=by
 have em:bs.map fN=(bs.map Ax).map fV:=by rw[AN2];rfl
 have:=AU (f:=FG (bs.map fN)) (λk=>(k,M d 1 (((bs.take k).flatMap Ax).foldl ZE f),(bs.take k).map Zn)) (t:=(M d 1 ((bs.flatMap Ax).foldl ZE f),bs.map Zn)) bs.length (λk hk=>?_) ?_
 ·exact this
 ·unfold FG LB;have hB:=hb _ (AJ (z:=[]) hk);have e1:(bs.map fN).getD k (Ty.zero (.sl _))=fN (bs.getD k []):=FZ fN hk;have e2:(bs.map Ax).getD k []=Ax (bs.getD k []):=FZ Ax hk;have e3:=AgZ hd (ks:=bs.map Ax) (m:=k) (by grind) (by rw[e2];have:=CM (C1 (bs.getD k []));rw[Cd]at this;have:=hB.2.1;omega) (by rw[e2];exact λx hx=>(X5 hB hx).1) (f:=((bs.take k).flatMap Ax).foldl ZE f) (o:=(bs.take k).map Zn);rw[<-em,e2]at e3;simp only[AL7,e1];rw[AMi,Dy hk,e3,AL6,AMo (Bl hk),Age hd hB,AL6,AMo (by grind),Bj hk (by omega),AW  hk,ANI,ANW,AMQ];simp only[List.flatMap_cons,List.flatMap_nil,AML,AN0];rfl
 ·unfold FG LB
  grind
def tH(f:Nat->Nat->Bool):Bt->Nat->Nat->Bool
 |.co _=>f
 |.va v a=>mark f v a
def ff(A B:APH Bt)(f:Nat->Nat->Bool)(p:Nat):Bool:=SG A f p&&(!SG B f p&&iU (PH B p))
section
variable {d:AOE} {l:AOG}
def Wb(d:AOE)(l:AOG):AOM:=eK (λi s=>Zn (sd d l i s)) l.length
theorem dy{i s:Nat}(hi:i<l.length)(hs:s<2):(Wb d l).getD (2*i+s) As.zero=Zn (sd d l i s):=zN (λi s=>Zn _) hi hs
structure Xq (d:AOE) (l:AOG):Prop where
 hd:Az d
 len:l.length<=60
 inn:∀i s,i<l.length->Bg d (sd d l i s)
 same:∀i,i<l.length->(sd d l i 0).length=(sd d l i 1).length
theorem Xq.eq(h:Xq d l){i:Nat}(hi:i<l.length)(s t:Nat):(sd d l i s).length=(sd d l i t).length:=by
 have:=h.same i hi;unfold sd at this⊢
 grind
theorem Ag1(H:Xq d l){i s p:Nat}(hi:i<l.length)(hs:s<2)(hp:p<(sd d l i 0).length){f:Nat->Nat->Bool}{q:Bool}{e j:Int} :
    Kz q ((2*i:Nat):Int) e j (p:Int) (s:Int) (M d 1 f) (Wb d l)=some (bif ff (sd d l i s) (sd d l i (1-s)) f p then(true,M d 1 (tH f (PH (sd d l i (1-s)) p)))else(q,M d 1 f)):=by
 unfold Kz OL;have hlen:=H.len;have e1:wI (((2*i:Nat))+s)=((2*i+s:Nat)):=A1;have e2:wI (wI (((2*i:Nat))+1)-s)=((2*i+(1-s):Nat)):=by
  rw[A1 (x:=((2*i:Nat))+1) (n:=2*i+1)];exact A1
 have g1:=dy (d:=d) hi hs;have g2:=dy (d:=d) hi (show 1-s<2 by omega);have hA:=H.inn i s hi;have hB:=H.inn i (1-s) hi;have hpA:p<(sd d l i s).length:=by rw[H.eq hi s 0];exact hp
 have hpB:p<(sd d l i (1-s)).length:=by rw[H.eq hi _ 0];exact hp
 have Iw:(Wb d l).length=2*l.length:=Vf _ _;have eb:(bV _).getD p _=VM (PH _ p):=gH hpB;simp only[e1,e2,AL7,g1,g2];rw[AMo (Bl (by omega)),AMo (Bl (by omega))];unfold Zn;simp only[eb];rw[Rp H.hd hA hpA,AL6];unfold ff;cases SG _ f p with
 |false=>rfl
 |true =>
  rw[AMm,uB H.hd hB hpB,AL6,AL6,AN5];cases hw:(!SG _ f p&&iU _)with
  |false=>rfl
  |true =>
   rw[Dk,AMo (Bl hpB)];have hb:=Adk hB hpB;cases hbb:PH _ p with
   |co c=>rw[hbb]at hw;simp[iU]at hw
   |va v a =>
    rw[hbb]at hb;obtain⟨hv,ha⟩:=hb;obtain⟨e0,fj,fP⟩:=NK H.hd hv;have m1:(M d 1 f).set v (((M d 1 f).getD v APy.zero).set a true)=M d 1 _:=nL hv;have c1:(VM (.va v a)).1=v:=rfl;have c2:(VM (.va v a)).2.1=a:=rfl;simp only[c1,c2,AL7,m1];rw[WY,AMo (Bl hv),AMo (Bl hpB),Xt hv,Kv,AMo (show 0<=(a:Int)/\a<((W d v+1:Nat):Int)from⟨by omega,by omega⟩)];rfl
def qU(d:AOE)(f:Nat->Nat->Bool):Nat->Nat->Bool:=λv p=>decide (v<d.length/\1<=p/\p<W d v)&&f v p
theorem Ou{f:Nat->Nat->Bool}{v p:Nat}:qU d f v p=true↔(v<d.length/\1<=p/\p<W d v)/\f v p=true:=by simp[qU]
theorem wy{B:APH Bt}(h:Bg d B){p:Nat}(hp:p<B.length)(f:Nat->Nat->Bool):SG B (qU d f) p=SG B f p:=by
 unfold SG;rcases YM h hp with ⟨q,_⟩|⟨q,⟨⟨b,e⟩,_⟩|⟨v,a,e,h1,h2,h3,_⟩⟩
 ·grind
 ·rw[e];rfl
 ·rw[e];simp[Aa1,qU,h1,h2,h3]
structure SW (d:AOE) (l:AOG) (fs:Nat->Nat->Bool) (ok:Prop) (q:Bool) (f:Nat->Nat->Bool):Prop where
 no:q=false->f=fs/\ok
 yes:q=true->free d f+1<=free d fs
 le:Pv fs f
 min:∀h,B6 d l h->Pv (qU d fs) h->Pv (qU d f) h
theorem SW.imp{fs f:Nat->Nat->Bool}{ok ok':Prop}{q:Bool}(h:SW d l fs ok q f)(hi:ok->ok'):SW d l fs ok' q f:=⟨λe=>⟨(h.no e).1,hi (h.no e).2⟩,h.yes,h.le,h.min⟩
def ve(d:AOE)(l:AOG)(fs:Nat->Nat->Bool)(i p s:Nat):Prop:=ff (sd d l i s) (sd d l i (1-s)) fs p=false
theorem Akt(H:Xq d l){fs f:Nat->Nat->Bool}{ok:Prop}{q:Bool}(h:SW d l fs ok q f){i s p:Nat}(hi:i<l.length)(hs:s<2)(Z8:1<=p)(hp:p<(sd d l i 0).length) :
    SW d l fs (ok/\ve d l fs i p s) (bif ff (sd d l i s) (sd d l i (1-s)) f p then true else q) (bif ff (sd d l i s) (sd d l i (1-s)) f p then tH f (PH (sd d l i (1-s)) p)else f):=by
 cases hh:ff (sd d l i s) (sd d l i (1-s)) f p with
 |false =>
  refine⟨λe=>?_,h.yes,h.le,h.min⟩;obtain⟨e1,e2⟩:=h.no e;exact⟨e1,e2,by rw[e1]at hh;exact hh⟩
 |true =>
  have hA:=H.inn i s hi;have hB:=H.inn i (1-s) hi;have hpA:p<(sd d l i s).length:=by rw[H.eq hi s 0];exact hp
  have hpB:p<(sd d l i (1-s)).length:=by rw[H.eq hi (1-s) 0];exact hp
  unfold ff at hh;rw[AMd,AMd,ANu]at hh;obtain⟨c1,c2,c3⟩:=hh;have key:∃v a,PH (sd d l i (1-s)) p=.va v a/\v<d.length/\1<=a/\a<W d v/\f v a=false:=by
   rcases YM hB hpB with ⟨e,_⟩|⟨e,⟨⟨b,e'⟩,_⟩|⟨v,a,e',h1,h2,h3,_⟩⟩
   ·unfold SG at c2;rw[e]at c2;cases c2
   ·rw[e']at c3;cases c3
   ·refine⟨v,a,e',h1,h2,h3,?_⟩;unfold SG at c2;rw[e,e',AOg]at c2;exact c2
  obtain⟨v,a,e1,h1,h2,h3,h4⟩:=key;have PR:Pv f (tH f (PH (sd d l i (1-s)) p)):=λu b hu=>by rw[e1];exact EW.2 (.inl hu)
  have AIb:free d (tH f (PH (sd d l i (1-s)) p))+1<=free d f:=by rw[e1];exact cP h1 h3 h4
  refine⟨λe=>(by cases e),λ_=>?_,λu b hu=>PR u b (h.le u b hu),λg hg hgs=>?_⟩
  ·rw[AMm];have:free d f<=free d fs:=ANU λx _ hx=>by
    simp only[ANu]at hx⊢;cases hq:fs x.1 x.2 with
    |false=>rfl
    |true=>rw[h.le _ _ hq]at hx;cases hx
   omega
  ·rw[AMm,e1];have hm:=h.min g hg hgs;intro u b hub;obtain⟨hr,hub⟩:=Ou.1 hub;rcases EW.1 hub with hub |⟨rfl,rfl⟩
   ·exact hm u b (Ou.2 ⟨hr,hub⟩)
   ·have AB4:SG (sd d l i s) g p=true:=by
      rw[<-wy hA hpA f]at c1;unfold SG at c1⊢;rw[ANp]at c1⊢;refine c1.imp id λc=>?_;cases hx:PH (sd d l i s) p with
      |co _=>rw[hx]at c;cases c
      |va v' a'=>rw[hx]at c;exact hm v' a' c
    have dO:SG (sd d l i (1-s)) g p=true:=by
     have XO:=(hg i hi).2 p Z8 hp
     match s,hs with
     |0,_=>exact XO.1 AB4 c3
     |1,_=>exact XO.2 AB4 c3
    unfold SG at dO c2;rw[AM8]at c2;rw[c2.1,e1,AOg]at dO;exact dO
theorem Ag2(H:Xq d l){i p:Nat}(hi:i<l.length)(Z8:1<=p)(hp:p<(sd d l i 0).length){fs f:Nat->Nat->Bool}{ok:Prop}{q:Bool}(h:SW d l fs ok q f){e j:Int} :
    Ay (Td ((2*i:Nat):Int) e j (Wb d l) (p:Int) q 0 (M d 1 f)) λr=>∃f',r.2=M d 1 f'/\SW d l fs (ok/\ve d l fs i p 0/\ve d l fs i p 1) r.1 f':=by
 have:=BR (f:=FH ((2*i:Nat)) e j (Wb d l) p) (λk x=>(x.1,k,M d 1 x.2)) 2 (λk x=>SW d l fs (ok/\∀s,s<k->ve d l fs i p s) x.1 x.2) (Q:=λr=>∃f',r.2=M d 1 f'/\SW d l fs (ok/\ve d l fs i p 0/\ve d l fs i p 1) r.1 f') (λk x hk hx=>?_) (λx hx=>?_) (s0:=(q,f)) (h.imp λh=>⟨h,λs hs=>by omega⟩)
 ·exact this
 ·unfold FH LC;rw[show decide ((k:Int)<2)=true from LO,Ag1 H hi hk hp,Bj  hk (by omega)];have:=Akt H hx hi hk Z8 hp;refine Ay.mk ⟨(bif ff _ _ x.2 p then true else x.1,bif ff _ _ x.2 p then tH x.2 _ else x.2),?_,this.imp λ⟨⟨h1,h2⟩,h3⟩=>⟨h1,λs hs=>?_⟩⟩
  ·grind
  grind
 ·unfold FH LC;exact Ay.mk ⟨x.2,rfl,hx.imp λ⟨h1,h2⟩=>⟨h1,h2 0 (by omega),h2 1 (by omega)⟩⟩
theorem AbT(H:Xq d l){i k:Nat}(hi:i<l.length)(hk:1<=k)(hk2:k<2*(sd d l i 0).length){fs f:Nat->Nat->Bool}{ok:Prop}{q:Bool}(h:SW d l fs ok q f) :
    Ay (Jj q ((2*i:Nat):Int) ((sd d l i 0).length:Int) (k:Int) (M d 1 f) (Wb d l)) λr=>∃f',r.2=M d 1 f'/\SW d l fs (ok/\(k<(sd d l i 0).length->ve d l fs i k 0/\ve d l fs i k 1)) r.1 f':=by
 unfold Jj PD OJ;have hb:=(H.inn i 0 hi).2.1;have ep:(bif decide (k>=((sd d l i 0).length:Int))then wI (wI (2*((sd d l i 0).length))-k)else k)=((if(sd d l i 0).length<=k then 2*(sd d l i 0).length-k else k)):=by
  by_cases hc:(sd d l i 0).length<=k
  ·rw[LO,AMo hc,A1 (x:=2*((sd d l i 0).length)) (n:=2*(sd d l i 0).length)];exact A1
  grind
 rw[ep];obtain⟨p,hp⟩:∃p,p=if(sd d l i 0).length<=k then 2*(sd d l i 0).length-k else k:=⟨_,rfl⟩;rw[<-hp];have hpk:k<(sd d l i 0).length->p=k:=λBm=>by grind
 have Z8:1<=p:=by grind
 rw[show decide _=false from IV,AMl];by_cases hc:p<(sd d l i 0).length
 ·rw[show decide _=false from IV,AMl,AL6];refine Ay.bind (Ag2 H hi Z8 hc h) λr hr=>?_;obtain⟨f',e1,e2⟩:=hr;refine Ay.mk ⟨f',e1,e2.imp λ⟨h1,h2⟩=>⟨h1,λBm=>?_⟩⟩;rw[<-hpk Bm];exact h2
 ·rw[show decide _=true from LO,AMm];exact Ay.mk ⟨f,rfl,h.imp λh1=>⟨h1,λBm=>by omega⟩⟩
theorem AbU(H:Xq d l){i:Nat}(hi:i<l.length){fs f:Nat->Nat->Bool}{ok:Prop}{q:Bool}(h:SW d l fs ok q f) :
    Ay (Rx ((2*i:Nat):Int) (Wb d l) ((sd d l i 0).length:Int) q 1 (M d 1 f)) λr=>∃f',r.2=M d 1 f'/\SW d l fs (ok/\∀p,1<=p->p<(sd d l i 0).length->ve d l fs i p 0/\ve d l fs i p 1) r.1 f':=by
 have hb:=(H.inn i 0 hi).2.1;have ki:=(H.inn i 0 hi).1;have ew:wI (2*((sd d l i 0).length))=((2*(sd d l i 0).length:Nat)):=A1;have:=BR (f:=EC ((2*i)) (Wb d l) ((sd d l i 0).length)) (λk x=>(x.1,((k+1:Nat)),M d 1 x.2)) (2*(sd d l i 0).length-1) (λk x=>SW d l fs (ok/\∀p,1<=p->p<k+1->p<(sd d l i 0).length->ve d l fs i p 0/\ve d l fs i p 1) x.1 x.2) (Q:=λr=>∃f',r.2=M d 1 f'/\SW d l fs (ok/\∀p,1<=p->p<(sd d l i 0).length->ve d l fs i p 0/\ve d l fs i p 1) r.1 f') (λk x hk hx=>?_) (λx hx=>?_) (s0:=(q,f)) (h.imp λh=>⟨h,λp h1 h2=>by omega⟩)
 ·exact this
 ·unfold EC Kd;rw[ew,Dy (show k+1<2*(sd d l i 0).length by omega),A1 (x:=((k+1:Nat))+1) (n:=k+1+1)];refine Ay.bind (AbT H hi (by omega) (by omega) hx) λr hr=>?_;obtain⟨f',e1,e2⟩:=hr;refine Ay.mk ⟨(r.1,f'),by grind,e2.imp λ⟨⟨h1,h2⟩,h3⟩=>⟨h1,λp p1 p2 p3=>?_⟩⟩
  grind
 ·unfold EC Kd;rw[ew,show 2*(sd d l i 0).length-1+1=2*(sd d l i 0).length by omega,Fb];exact Ay.mk ⟨x.2,rfl,hx.imp λ⟨h1,h2⟩=>⟨h1,λp p1 p2=>h2 p p1 (by omega) p2⟩⟩
def cy(d:AOE)(l:AOG)(fs:Nat->Nat->Bool)(n:Nat):Prop:=∀i,i<n->∀p,1<=p->p<(sd d l i 0).length->ve d l fs i p 0/\ve d l fs i p 1
theorem AbV(H:Xq d l)(fs:Nat->Nat->Bool):Ay (Ry (Wb d l) false 0 (M d 1 fs)) λr=>∃f',r.2=M d 1 f'/\SW d l fs (cy d l fs l.length) r.1 f':=by
 have hlen:=H.len;have Iw:(Wb d l).length=2*l.length:=Vf _ _;have:=BR (f:=ED (Wb d l)) (λk x=>(x.1,((2*k:Nat)),M d 1 x.2)) l.length (λk x=>SW d l fs (cy d l fs k) x.1 x.2) (Q:=λr=>∃f',r.2=M d 1 f'/\SW d l fs (cy d l fs l.length) r.1 f') (λk x hk hx=>?_) (λx hx=>?_) (s0:=(false,fs)) ⟨λ_=>⟨rfl,λi hi=>by omega⟩,λe=>(by grind),λ_ _ h=>h,λ_ _ h=>h⟩
 ·exact this
 ·unfold ED Ke;have g1:=dy (d:=d) hk (show 0<2 by omega);rw[AOa]at g1;simp only[AL7,g1];have e1:(Zn _).1.length=(sd d l k 0).length:=Dk _;rw[Iw,Dy (show 2*k<2*l.length by omega),AMo (Bl (by omega)),e1,A1  (n:=2*(k+1)) (by omega) (by omega)];refine Ay.bind (AbU H hk hx) λr hr=>?_;obtain⟨f',e1,e2⟩:=hr;refine Ay.mk ⟨(r.1,f'),by grind,e2.imp λ⟨h1,h2⟩ i hi=>?_⟩;rcases AMh i k with h' |h'
  ·exact h1 i h'
  grind
 ·unfold ED Ke;rw[Iw,Fb];exact Ay.mk ⟨x.2,rfl,hx⟩
theorem AbW(H:Xq d l)(f0:Nat->Nat->Bool):Ay (Rz (Wb d l) true (M d 1 f0)) λr=>∃f,r=M d 1 f/\Pv f0 f/\cy d l f l.length/\∀h,B6 d l h->Pv (qU d f0) h->Pv (qU d f) h:=by
 refine Bu (λm x=>∃f,x.2=M d 1 f/\m=free d f+(if x.1 then 1 else 0)/\Pv f0 f/\(x.1=false->cy d l f l.length)/\∀h,B6 d l h->Pv _ h->Pv (qU d f) h) (λm x hx=>?_) _ _ ⟨f0,rfl,rfl,λ_ _ h=>h,λe=>(by grind),λ_ _ h=>h⟩;obtain⟨q,t⟩:=x;obtain⟨f,e1,rfl,PR,dR,Aa2⟩:=hx;subst e1;unfold Kg O4;cases q with
 |false=>exact Ay.mk ⟨f,rfl,PR,dR rfl,Aa2⟩
 |true =>
  refine Ay.bind (AbV H f) λr hr=>?_;obtain⟨f',e1,e2⟩:=hr;refine Ay.mk ⟨free d f'+(if r.1 then 1 else 0),?_,f',e1,rfl,λu b hu=>e2.le u b (PR u b hu),λe=>?_,λh hh hs=>e2.min h hh (Aa2 h hh hs)⟩
  ·cases hq:r.1 with
   |false=>rw[(e2.no hq).1];simp
   |true=>have:=e2.yes hq;simp;omega
  ·obtain⟨q1,q2⟩:=e2.no e;rw[q1];exact q2
end
theorem r6{d:AOE}:∀(fs:APH Sg) (f:Nat->Nat->Bool),(∀x∈fs,UN d x)->Pv f (fs.foldl ZE f)/\(∀x∈fs,Q7 d (qU d (fs.foldl ZE f)) x)/\∀h,(∀x∈fs,Q7 d h x)->Pv (qU d f) h->Pv (qU d (fs.foldl ZE f)) h
 |[],f,_=>⟨λ_ _ h=>h,λx hx=>(by cases hx),λ_ _ h=>h⟩
 |x::fs,f,FR=>by
  obtain⟨i1,i2,i3⟩:=r6 fs (ZE f x) λy hy=>FR y (AMy _ hy);have k1:Pv f (ZE f x):=by
   cases x with
   |co b=>exact λ_ _ h=>h
   |va v l n=>exact λu q h=>EW.2 (.inl (EW.2 (.inl h)))
  refine⟨λu q h=>i1 u q (k1 u q h),λy hy=>?_,λh hh hs=>i3 h (λy hy=>hh y (AMy _ hy)) ?_⟩
  ·rcases List.mem_cons.1 hy with rfl |hy
   ·cases y with
    |co b=>trivial
    |va v l n =>
     have hv:=(FR _ AMB).1;exact⟨λh1 h2=>Ou.2 ⟨⟨hv,h1,h2⟩,i1 v l (EW.2 (.inl (EW.2 (.inr ⟨rfl,rfl⟩))))⟩,λh1 h2=>Ou.2 ⟨⟨hv,h1,h2⟩,i1 v (l+n) (EW.2 (.inr ⟨rfl,rfl⟩))⟩⟩
   ·exact i2 y hy
  ·have hx:=hh x AMB;cases x with
   |co b=>exact hs
   |va v l n =>
    intro u q hq;obtain⟨hr,hq⟩:=Ou.1 hq;rcases EW.1 hq with hq |⟨rfl,rfl⟩
    ·rcases EW.1 hq with hq |⟨rfl,rfl⟩
     ·exact hs u q (Ou.2 ⟨hr,hq⟩)
     ·exact hx.1 hr.2.1 hr.2.2
    ·exact hx.2 hr.2.1 hr.2.2
theorem zO{A B:Type}(f:Nat->Nat->A)(g:A->B)(n:Nat):(eK f n).map g=eK (λi s=>g (f i s)) n:=by
 unfold eK;rw[List.map_flatMap];rfl
theorem fZ{A:Type}{f:Nat->Nat->A}{n:Nat}{x:A}:x∈eK f n↔∃i,i<n/\(x=f i 0\/x=f i 1):=by
 unfold eK;rw[List.mem_flatMap];simp
theorem sd0(d:AOE)(l:AOG)(i:Nat):sd d l i 0=b1 d l i:=rfl
theorem sd1(d:AOE)(l:AOG)(i:Nat):sd d l i 1=b2 d l i:=rfl
theorem AAz{d:AOE}{l:AOG}(hd:Az d)(hl:∀x∈l,Ht x)(hp:CU d l)(hs:BD d l):Xq d l where
 hd:=hd
 len:=hp.1
 inn i s hi:=by
  obtain⟨h1,h2,_⟩:=Qg hd hl hp hs hi;unfold sd;split
  ·exact h1
  ·exact h2
 same i hi:=(Qg hd hl hp hs hi).2.2.1
theorem Ase{d:AOE}{l:AOG}(H:Xq d l){f:Nat->Nat->Bool}(h:cy d l f l.length){i:Nat}(hi:i<l.length):SP (b1 d l i) (b2 d l i) (qU d f):=by
 intro p Z8 dS;have e:=H.same i hi;rw[sd0,sd1]at e;obtain⟨c0,c1⟩:=h i hi p Z8 dS;have hA:Bg d (b1 d l i):=H.inn i 0 hi;have hB:Bg d (b2 d l i):=H.inn i 1 hi;rw[wy hA dS,wy hB (by omega)];have c0:ff (b1 d l i) (b2 d l i) f p=false:=c0;have c1:ff (b2 d l i) (b1 d l i) f p=false:=c1;unfold ff at c0 c1;constructor
 ·intro h1 h2;rw[h1,h2]at c0;simpa using c0
 ·intro h1 h2;rw[h1,h2]at c1;simpa using c1
theorem qn{d:AOE}{l:AOG}{c:AON}(hc:Xi c)(hl:∀x∈l,Ht x):Ay (Cj d l (c,())) λr =>
    (r=(([],()),false)/\¬(Az d/\CS d c/\CU d l/\BD d l))\/(Az d/\CS d c/\CU d l/\BD d l/\∃f,r=((Ai d f,()),true)/\Y5 d l c f):=by
 unfold Cj Lk;obtain⟨r1,e1,q1⟩:=Vd (d:=d) hc;rw[e1,AL6];cases r1 with
 |false=>exact Ay.mk (.inl ⟨rfl,λh=>by have:=q1.2 ⟨h.1,h.2.1⟩;cases this⟩)
 |true =>
  obtain⟨hd,VD⟩:=q1.1 rfl;obtain⟨r2,e2,q2⟩:=Ve (d:=d) hl;simp only[AMP,AMl,e2,AL6];cases r2 with
  |false=>exact Ay.mk (.inl ⟨rfl,λh=>by have:=q2.2 ⟨h.1,h.2.2.1⟩;cases this⟩)
  |true =>
   have Hw:=(q2.1 rfl).2;simp only[AMP,AMl];rw[bZ hd VD hc,AL6];unfold TD;obtain⟨r3,e3,q3⟩:=Vv hd hl Hw.1;rw[e3,AL6];rcases q3 with ⟨f1,hs,f2⟩|⟨f1,hs⟩
   ·rw[f1,f2];simp only[AMP,AMl];have H:=AAz hd hl Hw hs;have ef:eK (λi s=>(BK d (if s=0 then lS l i else lT l i)).2) l.length=(eK (sd d l) l.length).map fN:=by
     rw[zO];unfold eK;rw[List.flatMap_def,List.flatMap_def];congr 1;refine AMV λi hi=>?_;obtain⟨_,_,_,_,a1,a2⟩:=Qg hd hl Hw hs (List.mem_range.1 hi);simp only[AMR,show ¬(1:Nat)=0 by omega,ANz,a1,a2];rfl
    have hbs:∀B∈eK (sd d l) l.length,Bg d B:=λB hB=>by
     obtain⟨i,hi,h |h⟩:=fZ.1 hB
     ·rw[h];exact H.inn i 0 hi
     ·rw[h];exact H.inn i 1 hi
    have es:(eK (sd d l) l.length).map Zn=Wb d l:=zO _ _ _;have hln:=Hw.1;rw[ef,Ag0 hd hbs (by rw[Vf];omega),AL6,es];have s8:∀x∈(eK (sd d l) l.length).flatMap Ax,UN d x:=λx hx=>by
     obtain⟨B,hB,hx⟩:=List.mem_flatMap.1 hx;exact(X5 (hbs B hB) hx).1
    obtain⟨i1,i2,i3⟩:=r6 _ (C0 c) s8;obtain⟨r4,e4,f,rfl,j1,j2,j3⟩:=AbW H (((eK (sd d l) l.length).flatMap Ax).foldl ZE (C0 c));simp only[e4,AL6,AMP,AMl];rw[kX hd,AL6];have eo:Ai d f=Ai d (qU d f):=oG λv p hv hp h1=>by simp[qU,hv,hp,h1]
    have pd:∀{i:Nat} {x:Sg},i<l.length->x∈Ax (b1 d l i)++Ax (b2 d l i)->x∈(eK (sd d l) l.length).flatMap Ax:=λ{i x} hi hx=>by
     rcases List.mem_append.1 hx with hx |hx
     ·exact List.mem_flatMap.2 ⟨_,fZ.2 ⟨i,hi,.inl rfl⟩,hx⟩
     ·exact List.mem_flatMap.2 ⟨_,fZ.2 ⟨i,hi,.inr rfl⟩,hx⟩
    refine Ay.mk (.inr ⟨hd,VD,Hw,hs,qU d f,by rw[eo],⟨λv p h=>Ou.2 ⟨vw hd VD h,j1 v p (i1 v p h)⟩,λv p h=>(Ou.1 h).1,λi hi=>⟨λx hx=>?_,Ase H j2 hi⟩,λh hh Hf=>j3 h hh (i3 h (λx hx=>?_) λu q hq=>Hf u q (Ou.1 hq).2)⟩⟩)
    ·have:=i2 x (pd hi hx);have PR:Pv (qU d (((eK (sd d l) l.length).flatMap Ax).foldl ZE (C0 c))) (qU d f):=λu q hq=>Ou.2 ⟨(Ou.1 hq).1,j1 u q (Ou.1 hq).2⟩;cases x with
     |co b=>trivial
     |va v a n=>exact⟨this.1.mono PR,this.2.mono PR⟩
    ·obtain⟨B,hB,hx⟩:=List.mem_flatMap.1 hx;obtain⟨i,hi,e |e⟩:=fZ.1 hB
     ·exact(hh i hi).1 x (AME _ (by rw[e]at hx;exact hx))
     ·exact(hh i hi).1 x (AMF _ (by rw[e]at hx;exact hx))
   ·simp only[f1,ANo,AMm,AL6];exact Ay.mk (.inl ⟨rfl,λh=>hs h.2.2.2⟩)
theorem aA{d:AOE}{l:AOG}{c:AON}(hc:Xi c)(hl:∀x∈l,Ht x):Ay (Cj d l (c,())) λr=>IZ d l (c,())=some (r.2,r.1.1) /\
    ((r=(([],()),false)/\¬(Az d/\CS d c/\CU d l/\BD d l))\/(Az d/\CS d c/\CU d l/\BD d l/\∃f,r=((Ai d f,()),true)/\Y5 d l c f)):=by
 obtain⟨r1,e1,q1⟩:=qn (d:=d) hc hl;obtain⟨r2,e2,q2⟩:=pB (d:=d) hc hl;refine Ay.of e1 ⟨?_,q1⟩;rw[e2];rcases q1 with ⟨rfl,n1⟩|⟨a1,a2,a3,a4,f,rfl,hf⟩<;>rcases q2 with ⟨rfl,n2⟩|⟨b1,b2,b3,b4,g,rfl,hg⟩
 ·rfl
 ·exact(n1 ⟨b1,b2,b3,b4⟩).elim
 ·exact(n2 ⟨a1,a2,a3,a4⟩).elim
 ·rw[hf.unique hg]
theorem ZY{R:Int->Int->Prop}(hR:∀a b,R a b->a<b):∀{l m:AOz},l.Pairwise R->m.Pairwise R->(∀x,x∈l↔x∈m)->l=m
 |[],[],_,_,_=>rfl
 |[],y::m,_,_,h=>by have:=(h y).2 AMB;cases this
 |x::l,[],_,_,h=>by have:=(h x).1 AMB;cases this
 |x::l,y::m,hl,hm,h=>by
  rw[List.pairwise_cons]at hl hm;have e:x=y:=by
   rcases List.mem_cons.1 ((h x).1 AMB)with e |e
   ·exact e
   ·rcases List.mem_cons.1 ((h y).2 AMB)with e' |e'
    ·exact e'.symm
    ·have:=hR _ _ (hm.1 x e);have:=hR _ _ (hl.1 y e');omega
  subst e;congr 1;refine ZY hR hl.2 hm.2 λz=>⟨λhz=>?_,λhz=>?_⟩
  ·rcases List.mem_cons.1 ((h z).1 (AMy _ hz))with e |e
   ·have:=hR _ _ (hl.1 z hz);omega
   ·exact e
  ·rcases List.mem_cons.1 ((h z).2 (AMy _ hz))with e |e
   ·have:=hR _ _ (hm.1 z hz);omega
   ·exact e
theorem X0(w:Nat)(f:Nat->Bool):(A0 w f).Pairwise (·<·):=by
 unfold A0;rw[List.pairwise_map];refine(List.pairwise_lt_range (n:=w)).filter _ |>.imp λ{a b} h=>?_;show(a:Int)<(b:Int);omega
theorem XZ{w:Nat}{f:Nat->Bool}{x:Int}:x∈A0 w f↔∃p:Nat,x=(p:Int)/\1<=p/\p<w/\f p=true:=by
 unfold A0;rw[List.mem_map];constructor
 ·rintro⟨p,hp,rfl⟩
  rw[List.mem_filter]at hp;obtain⟨h1,h2⟩:=hp;simp at h1 h2;exact⟨p,rfl,h2.1,h1,h2.2⟩
 ·rintro⟨p,rfl,h1,h2,h3⟩
  exact⟨p,List.mem_filter.2 ⟨List.mem_range.2 h2,by simp[h1,h3]⟩,rfl⟩
theorem xu{l:AOz}{w:Int}(h:Zs l w):l.Pairwise (·<·):=by
 rw[List.pairwise_iff_getElem];intro i j hi hj sK;have:=qd h sK hj;have e1:Jp l i=l[i]:=by simp[Jp,List.getD,hi]
 have e2:Jp l j=l[j]:=by simp[Jp,List.getD,hj]
 omega
theorem dt{d:AOE}{c:AON}(hd:Az d)(hc:CS d c){v:Nat}(hv:v<d.length):A0 (W d v) (C0 c v)=Dp c v:=by
 obtain⟨e0,fj,fP⟩:=NK hd hv;refine ZY (λ_ _ h=>h) (X0 _ _) (xu (hc.2 v hv)) λx=>?_;rw[XZ];constructor
 ·rintro⟨p,rfl,_,_,h⟩
  simpa [C0]using h
 ·intro h;have:=fW (hc.2 v hv) h;refine⟨x.toNat,by omega,by omega,by omega,?_⟩;simp only[C0];rw[show((x.toNat:Nat):Int)=x by omega];simpa using h
theorem AaI{d:AOE}{c:AON}(hd:Az d)(hc:CS d c):Ai d (C0 c)=c:=by
 apply AM1
 ·simp[Ai,hc.1]
 ·intro v h1 h2;have hv:v<d.length:=by simpa [Ai]using h1
  have e:c[v]=Dp c v:=by simp[Dp,List.getD,h2]
  rw[e,<-dt hd hc hv];simp[Ai]
def R7(c:AON)(k:Nat):Nat:=((List.range k).map λv=>(Dp c v).length).sum
theorem YB(c:AON)(k:Nat):R7 c (k+1)=R7 c k+(Dp c k).length:=by
 unfold R7;rw[ANc,AMQ];simp
theorem o6{c:AON}(hb:∀v,(Dp c v).length<=1048576):∀k,R7 c k<=1048576*k
 |0=>by simp[R7]
 |k+1=>by rw[YB];have:=o6 hb k;have:=hb k;omega
theorem bY{d:AOE}{c:AON}(hd:Az d)(hc:CS d c)(hb:Xi c):J6 d (c,())=some ((d.length+R7 c d.length:Nat):Int):=by
 unfold J6;obtain⟨r,hr,hq⟩:=Vd  hb;have cX:=hd.1;rw[hr,AL6,hq.2 ⟨hd,hc⟩,AMP];have:Vx (c,()) d.length 0=some ((d.length+R7 c d.length)):=by
  have:=AU (f:=HJ (c,())) (λk=>(((d.length+R7 c k:Nat)),k)) (t:=((d.length+R7 c d.length:Nat))) d.length (λk hk=>?_) ?_
  ·exact this
  ·unfold HJ Oy;have e1:(c.getD k APw.zero)=Dp c k:=rfl;have h1:=o6 hb.row k;have h2:=hb.row k;simp only[AL7,e1];rw[hc.1,Dy hk,AMm,AMo (Bl hk),Bj hk (by omega),YB];rw[A1  (n:=d.length+(R7 c k+(Dp c k).length)) (by omega) (by omega)]
  ·unfold HJ Oy;rw[hc.1,Fb,AMl]
 rw[this];rfl
theorem Aha{g h:Nat->Nat}:∀{n v:Nat},(∀u,u<n->g u<=h u)->v<n->g v<h v->((List.range n).map g).sum<((List.range n).map h).sum
 |n+1,v,PR,hv,Bm=>by
  have AKn:∀m,m<=n->((List.range m).map g).sum<=((List.range m).map h).sum:=by
   intro m;induction m with
   |zero=>simp
   |succ m ih=>intro hm;rw[CN,CN,ANS];have:=PR m (by omega);simp;omega
  rw[CN,CN,ANS];have h1:=PR n (by omega);rcases AMh v n with h2 |h2
  ·have:=Aha (λu hu=>PR u (by omega)) h2 Bm;simp;omega
  grind
theorem TK{d:AOE}{f:Nat->Nat->Bool}{v:Nat}(hv:v<d.length):Dp (Ai d f) v=A0 (W d v) (f v):=by exact Ik hv
theorem ET{d:AOE}(hd:Az d)(f:Nat->Nat->Bool):CS d (Ai d f)/\Xi (Ai d f):=by
 have cX:=hd.1;refine⟨⟨by simp[Ai],λv hv=>?_⟩,by simp[Ai];omega,λx hx=>?_⟩
 ·rw[TK hv];obtain⟨e0,fj,fP⟩:=NK hd hv;intro i hi;have hm:Jp (A0 (W d v) (f v)) i∈A0 (W d v) (f v):=by exact AJ hi
  obtain⟨p,e,h1,h2,_⟩:=XZ.1 hm;refine⟨by omega,by omega,λh0=>?_⟩;have:=(List.pairwise_iff_getElem.1 (X0 _ _)) (i-1) i (by omega) hi (by omega);have e1:Jp (A0 (W d v) (f v)) (i-1)=(A0 (W d v) (f v))[i-1]'(by omega):=by simp[Jp,show i-1<(A0 (W d v) (f v)).length by omega]
  have e2:Jp (A0 (W d v) (f v)) i=(A0 _ _)[i]:=by simp[Jp,hi]
  rw[e1,e2];exact this
 ·obtain⟨v,hv,rfl⟩:=List.mem_map.1 hx;have h1:=XY (W d v) (f v);have:=(NK hd (List.mem_range.1 hv)).2.2;omega
theorem AaW{d:AOE}{l:AOG}{c:AON}(hd:Az d)(hc:CS d c){f:Nat->Nat->Bool}(hf:Y5 d l c f):R7 (Ai d f) d.length=R7 c d.length↔f=C0 c:=by
 constructor
 ·intro h
  funext v p
  rw[ANF];refine⟨λhp=>?_,hf.le v p⟩;refine Classical.byContradiction λhn=>?_;obtain⟨hv,h1,h2⟩:=hf.Xg v p hp;have hlen:∀(u:Nat) (g:Nat->Nat->Bool),(A0 (W d u) (g u)).length=(List.range (W d u)).countP λq=>decide (1<=q)&&g u q:=λu g=>by unfold A0;grind
  have Bm:R7 c d.length<R7 (Ai d f) d.length:=by
   refine Aha  (λu hu=>?_) hv ?_
   ·rw[TK hu,<-dt hd hc hu,hlen,hlen];refine ANU λq _ hq=>?_;rw[AMd]at hq⊢;exact⟨hq.1,hf.le u q hq.2⟩
   ·rw[TK hv,<-dt hd hc hv,hlen,hlen];refine Yo  (λq hq=>?_) (List.mem_range.2 h2) (by grind) (by grind);rw[AMd]at hq⊢;exact⟨hq.1,hf.le v q hq.2⟩
  omega
 ·intro h;rw[h,AaI hd hc]
def Ul(v:Nat):Int->AOz->AOD
 |_,[]=>[]
 |low,p::r=>((v:Int),low,p-low,())::Ul v p r
def Gt(low:Int)(l:AOz):Int:=l.getLastD low
theorem dx(v:Nat):∀(l:AOz) (low p:Int),Ul v low (l++[p])=Ul v low l++[((v:Int),Gt low l,p-Gt low l,())]
 |[],low,p=>rfl
 |x::l,low,p=>by
  have e:Gt low (x::l)=Gt x l:=by cases l<;>rfl
  rw[e];show _::Ul v x (l++[p])=_;rw[dx v l x p];rfl
theorem bT(v:Nat):∀(l:AOz) (low:Int),(Ul v low l).length=l.length
 |[],_=>rfl
 |_::l,_=>by simp[Ul,bT v l]
theorem O0{l:AOz}{i:Nat}(hi:i<l.length)(low:Int):Gt low (l.take (i+1))=Jp l i:=by
 rw[AW (z:=0) hi];unfold Gt Jp;simp
def CJ(d:AOE)(c:AON)(v:Nat):AOz:=Dp c v++[dw d v]
def SL(d:AOE)(c:AON)(n:Nat):AOD:=(List.range n).flatMap λv=>Ul v 0 (CJ d c v)
theorem nS(d:AOE)(c:AON)(n:Nat):SL d c (n+1)=SL d c n++Ul n 0 (CJ d c n):=by
 unfold SL;rw[ANc];simp
theorem PL{d:AOE}{c:AON}{v i:Nat}(hi:i<=(Dp c v).length):Jp (CJ d c v) i=if i<(Dp c v).length then Jp (Dp c v) i else dw d v:=by
 unfold CJ Jp
 grind
section
variable {d:AOE} {c:AON}
theorem aM(hd:Az d)(hc:CS d c){v:Nat}(hv:v<d.length){i:Nat}(hi:i<(CJ d c v).length):1<=Jp (CJ d c v) i/\Jp (CJ d c v) i<=4096:=by
 obtain⟨e0,fj,fP⟩:=NK hd hv;have hl:i<=(Dp c v).length:=by unfold CJ at hi;simp at hi;omega
 rw[PL hl];split
 ·rename_i h;have:=hc.2 v hv i h;exact⟨this.1,by have:=this.2.1;omega⟩
 ·omega
theorem pL(hd:Az d)(hc:CS d c){v:Nat}(hv:v<d.length)(i:Nat)(hi:i<=(CJ d c v).length):0<=Gt 0 ((CJ d c v).take i)/\Gt 0 ((CJ d c v).take i)<=4096:=by
 match i with
 |0=>exact⟨by simp[Gt],by simp[Gt]⟩
 |i+1 =>
  rw[O0 (by omega)];have:=aM hd hc hv (i:=i) (by omega);omega
theorem Zt(hd:Az d)(hc:CS d c):∀n,n<=d.length->(SL d c n).length<=4097*n:=λn hn=>Ws λv hv=>by
 obtain⟨e0,fj,fP⟩:=NK hd (show v<d.length by omega);have:=U9 (hc.2 v (by omega)) (by omega);rw[bT];unfold CJ;simp;omega
theorem kK(hd:Az d)(hc:CS d c)(hb:Xi c):NZ d (c,())=some (SL d c d.length):=by
 unfold NZ;have cX:=hd.1;have:Rh d c c.length 0 []=some (SL d c d.length):=by
  rw[hc.1];have:=AU (f:=Ev d c d.length) (λv=>(v,SL d c v)) (t:=SL d c d.length) d.length (λv hv=>?_) ?_
  ·exact this
  ·unfold Ev JI;obtain⟨e0,fj,fP⟩:=NK hd hv;have e1:(c.getD v APw.zero)=Dp c v:=rfl;have e2:(d.getD v _).2.1=dw d v:=rfl;have hr:=U9 (hc.2 v hv) (by omega);have Iw:=Zt hd hc v (by omega);simp only[AL7,e1];rw[Dy hv,AMm,AMo (Bl (by rw[hc.1];exact hv))];have e3:I6 d v c d.length (SL d c v) (Dp c v)=some (CJ d c v,((CJ d c v).length:Int)):=by
    unfold I6;rw[Vk,AMo (Bl hv),AMo (by grind)];rfl
   rw[e3,AL6];have UF:(CJ d c v).length<=4097:=by unfold CJ;simp;omega
   have e4:Rf d v c d.length (CJ d c v) ((CJ d c v).length) 0 0 (SL d c v)=some (SL d c (v+1)):=by
    have:=AU (f:=Eu d v c d.length (CJ d c v) ((CJ d c v).length)) (λi=>(Gt 0 ((CJ d c v).take i),i,SL d c v++Ul v 0 ((CJ d c v).take i))) (t:=SL d c (v+1)) (CJ d c v).length (λi hi=>?_) ?_
    ·rw[show SL d c v=SL d c v++Ul v 0 ((CJ d c v).take 0) by simp[Ul]];exact this
    ·unfold Eu JH;have e5:(CJ d c v).getD i APr.zero=Jp _ i:=rfl;have hbd:=aM hd hc hv hi;have wO:=pL hd hc hv i (by omega);have hrl:(Ul v 0 ((CJ d c v).take i)).length<=4097:=by rw[bT,AMr];omega
     simp only[AL7,e5];rw[Dy hi,AMo (Bl hi),AMo (by grind),Bj hi (by omega),BX  (by omega) (by omega),O0 hi,AW  hi,dx,AMe];rfl
    ·unfold Eu JH;rw[Fb,AMl,AMg (AMc _),nS]
   rw[e4,AL6,Bj hv (by omega)]
  ·unfold Ev JI;rw[Fb,AMl]
 rw[this];rfl
theorem Vw(hd:Az d)(hc:CS d c)(hb:Xi c):Ip d (c,())=some (SL d c d.length):=by
 unfold Ip;have cX:=hd.1;obtain⟨r,hr,hq⟩:=Vd  hb;rw[hr,AL6,hq.2 ⟨hd,hc⟩,AMP];have:Rr d (c,()) 0 []=some (SL d c d.length):=by
  have:=AU (f:=Ez d (c,())) (λv=>(v,SL d c v)) (t:=SL d c d.length) d.length (λv hv=>?_) ?_
  ·exact this
  ·unfold Ez J8;obtain⟨e0,fj,fP⟩:=NK hd hv;have hr:=U9 (hc.2 v hv) (by omega);have Iw:=Zt hd hc v (by omega);have UF:(CJ d c v).length=(Dp c v).length+1:=by unfold CJ;simp
   rw[Dy hv,AMm];have e4:Rq d v (c,()) 0 0 (SL d c v)=some (SL d c (v+1)):=by
    have:=AU (f:=Ey d v (c,())) (λi=>(Gt 0 ((CJ d c v).take i),i,SL d c v++Ul v 0 ((CJ d c v).take i))) (t:=SL d c (v+1)) (CJ d c v).length (λi hi=>?_) ?_
    ·rw[show SL d c v=SL d c v++Ul v 0 ((CJ d c v).take 0) by simp[Ul]];exact this
    ·unfold Ey J7;have e1:(c.getD v APw.zero)=Dp c v:=rfl;have e2:(d.getD v _).2.1=dw d v:=rfl;have hbd:=aM hd hc hv hi;have wO:=pL hd hc hv i (by omega);have hrl:(Ul v 0 ((CJ d c v).take i)).length<=4097:=by rw[bT,AMr];omega
     simp only[AL7,e1,e2];rw[AMo (Bl (by rw[hc.1];exact hv)),show decide _=true from LO,AMo (Bl hv)];have e6:Je d v (Gt 0 ((CJ d c v).take i)) i (c,()) (SL d c v++Ul v 0 ((CJ d c v).take i)) (dw d v)=some (Jp (CJ d c v) i):=by
      unfold Je;have e3:(Dp c v).getD i APr.zero=Jp _ i:=rfl;simp only[AL7,e1,e3];rw[AMo (Bl (by rw[hc.1];exact hv)),PL (by omega)];by_cases h:i<(Dp c v).length
      ·rw[Dy h,AMm,AMo (Bl (by rw[hc.1];exact hv)),AMo (Bl h),AMo h]
      grind
     rw[e6,AL6,AMo (by grind),Bj hi (by omega),BX  (by omega) (by omega),O0 hi,AW  hi,dx,AMe];rfl
    ·unfold Ey J7;have e1:(c.getD v APw.zero)=Dp c v:=rfl;simp only[AL7,e1];rw[AMo (Bl (by rw[hc.1];exact hv)),UF,show decide ((((Dp c v).length+1:Nat))<=((Dp c v).length:Int))=false from IV,AMl,<-UF,AMg (AMc _),nS]
   rw[e4,AL6,Bj hv (by omega)]
  ·unfold Ez J8;rw[Fb,AMl]
 rw[this];rfl
end
def kT(L:AOD)(i:Nat):AOm:=L.getD i Ab.zero
def kS(L:AOD)(i:Nat):AOl:=((kT L i).1,(kT L i).2.1,())
def G2(L:AOD)(k:AOl):Nat->APJ Nat
 |0=>none
 |n+1=>bif Bd Aa k (kS L n)then some n else G2 L k n
theorem d9(L:AOD)(k:AOl)(n:Nat):G2 L k (n+1)=bif Bd Aa k (kS L n)then some n else G2 L k n:=rfl
theorem UT{L:AOD}{k:AOl}:∀{N n:Nat},G2 L k N=some n->n<N/\kS L n=k
 |N+1,n,h=>by
  unfold G2 at h;cases hk:Bd _ k _ with
  |true =>
   rw[hk]at h;injection h with h;subst h;exact⟨AMM _,((fp _ _).1 hk).symm⟩
  |false =>
   rw[hk]at h;obtain⟨h1,h2⟩:=UT h;exact⟨by omega,h2⟩
theorem dZ{L:AOD}{k:AOl}:∀{N m:Nat},m<N->kS L m=k->∃n,G2 L k N=some n
 |N+1,m,hm,h=>by
  unfold G2;cases hk:Bd _ k _ with
  |true=>grind
  |false =>
   rcases AMh m N with h' |h'
   ·obtain⟨n,hn⟩:=dZ h' h;exact⟨n,hn⟩
   ·have:m=N:=by omega
    subst this;rw[<-h,(fp _ _).2 rfl]at hk;cases hk
abbrev FM:Type:=List AOV
def fH(L:AOD):Nat->FM
 |0=>[]
 |n+1=>Ch Aa APr (fH L n) (kS L n) (n:Int)
theorem yT(L:AOD)(k:AOl):∀n,N4 Aa APr (fH L n) k=(G2 L k n).map Int.ofNat
 |0=>rfl
 |n+1=>by
  unfold fH G2;rw[WB fp,yT L k n];cases Bd _ k _<;>rfl
theorem AaR{L:AOD}(hL:L.length<=1048576):NU L=some (fH L L.length):=by
 unfold NU;have:Rc L L.length 0 []=some (fH L L.length):=by
  have:=AU (f:=En L L.length) (λi=>(i,fH L i)) (t:=fH L L.length) L.length (λi hi=>?_) ?_
  ·exact this
  ·unfold En JC;rw[Dy hi,AMo (Bl hi),Bj hi hL];rfl
  ·unfold En JC;rw[Fb,AMl]
 rw[this];rfl
theorem bU{v:Nat}:∀{l:AOz} {low:Int} {x:AOm},x∈Ul v low l↔∃j,j<l.length/\x=((v:Int),Gt low (l.take j),Jp l j-Gt low (l.take j),())
 |[],low,x=>by simp[Ul]
 |p::l,low,x=>by
  have e:∀j,Gt low ((p::l).take _)=Gt p (l.take j):=λj=>by
   rw[List.take_succ_cons];cases l.take j<;>rfl
  constructor
  ·intro h;rcases List.mem_cons.1 h with h |h
   ·exact⟨0,by simp,h⟩
   ·obtain⟨j,hj,rfl⟩:=bU.1 h;refine⟨j+1,by grind,?_⟩;rw[e];rfl
  ·rintro⟨j,hj,rfl⟩
   match j with
   |0=>exact AMB
   |j+1 =>
    rw[e];exact AMy _ (bU.2 ⟨j,by grind,rfl⟩)
section
variable {d:AOE} {c:AON}
theorem nR{x:AOm}:x∈SL d c d.length↔∃v j,v<d.length/\j<(CJ d c v).length/\x=((v:Int),Gt 0 ((CJ d c v).take j),Jp (CJ d c v) j-Gt 0 ((CJ d c v).take j),()):=by
 unfold SL;rw[List.mem_flatMap];constructor
 ·rintro⟨v,hv,hx⟩
  obtain⟨j,hj,e⟩:=bU.1 hx;exact⟨v,j,List.mem_range.1 hv,hj,e⟩
 ·rintro⟨v,j,hv,hj,e⟩
  exact⟨v,List.mem_range.2 hv,bU.2 ⟨j,hj,e⟩⟩
theorem aN(_hd:Az d)(hc:CS d c){v:Nat}(hv:v<d.length){i j:Nat}(sK:i<j)(hj:j<(CJ d c v).length):Jp (CJ d c v) i<Jp (CJ d c v) j:=by
 have hl:j<=(Dp c v).length:=by unfold CJ at hj;simp at hj;omega
 have hp:=hc.2 v hv;rw[PL hl,PL (by omega),Vk];split
 ·rename_i h;exact qd hp sK h
 ·have:=(hp i (by omega)).2.1;omega
theorem Af5(hd:Az d)(hc:CS d c){v a e j:Nat}(hv:v<d.length)(hj:j<(CJ d c v).length)(ha:Gt 0 ((CJ d c v).take j)=(a:Int))(hae:a<e)(he:e=W d v\/e<W d v/\C0 c v e=true)(VF:∀q,a<q->q<e->C0 c v q=false):Jp (CJ d c v) j=(e:Int):=by
 obtain⟨e0,fj,fP⟩:=NK hd hv;have UF:(CJ d c v).length=(Dp c v).length+1:=by unfold CJ;simp
 have BU:∃j',j'<(CJ d c v).length/\Jp (CJ d c v) j'=e:=by
  rcases he with rfl |⟨_,h⟩
  ·exact⟨(Dp c v).length,by omega,by rw[PL (AMc _),OV,e0]⟩
  ·have hm :=by simpa [C0]using h
   obtain⟨i,hi,hx⟩:=AM5 hm;exact⟨i,by omega,by rw[PL (by omega),<-hx];simp[Jp,hi]⟩
 obtain⟨j',QZ,hje⟩:=BU;have AjH:a<Jp (CJ d c v) j:=by
  match j with
  |0 =>
   have :=by simp[Gt]at ha;omega
   have:=(aM hd hc hv hj).1;omega
  |i+1 =>
   rw[O0 (by omega)]at ha;rw[<-ha];exact aN hd hc hv (by omega) hj
 have hjj:j<=j':=by
  refine Classical.byContradiction λhn=>?_
  match j with
  |0=>omega
  |i+1 =>
   rw[O0 (by omega)]at ha;rcases AMh j' i with h |h
   ·have:=aN hd hc hv h (by omega);omega
   grind
 rcases AMh j j' with h |h
 ·have Bm:=aN hd hc hv h QZ;rw[PL (by omega)]at AjH Bm;by_cases hc':j<(Dp c v).length
  ·have hm:Jp (Dp c v) j∈Dp c v:=by exact AJ hc'
   have:=VF (Jp (Dp c v) j).toNat (by omega) (by omega);simp only[C0]at this
   grind
  ·omega
 grind
theorem AgE(hd:Az d)(hc:CS d c){v a e:Nat}(hv:v<d.length)(h0:a=0\/C0 c v a=true)(hae:a<e)(he:e=W d v\/e<W d v/\C0 c v e=true)(VF:∀q,a<q->q<e->C0 c v q=false) :
    ∃n,G2 (SL d c d.length) (nk v a) (SL d c d.length).length=some n/\n<(SL d c d.length).length/\(kT (SL d c d.length) n).2.2.1=((e-a:Nat):Int):=by
 have UF:(CJ d c v).length=(Dp c v).length+1:=by unfold CJ;simp
 have hj:∃j,j<(CJ d c v).length/\Gt 0 ((CJ d c v).take j)=a:=by
  rcases h0 with rfl |h
  ·exact⟨0,by omega,rfl⟩
  ·have hm :=by simpa [C0]using h
   obtain⟨i,hi,hx⟩:=AM5 hm;have AFP:i+1<(CJ d c v).length:=by
    omega
   refine⟨i+1,AFP,?_⟩;rw[O0 (by omega),PL (by omega),<-hx];simp[Jp,hi]
 obtain⟨j,hj1,hj2⟩:=hj;have hm :=nR.2 ⟨v,j,hv,hj1,rfl⟩;obtain⟨m,Tj,RG⟩:=AM5 hm;have hsm:kT (SL d c d.length) m=((v:Int),Gt 0 ((CJ d c v).take j),Jp (CJ d c v) j-Gt 0 ((CJ d c v).take j),()):=by
  unfold kT;grind
 obtain⟨n,hn⟩:=dZ  (k:=nk v a) Tj (by unfold kS nk;rw[hsm,hj2]);obtain⟨zh,hn2⟩:=UT hn;refine⟨n,hn,zh,?_⟩;obtain⟨v',j',tc,QZ,hx⟩:=nR.1 (show kT _ n∈SL d c _ from AJ zh);unfold kS nk at hn2;rw[hx]at hn2⊢;injection hn2 with h1 h2;injection h2 with h2 _;have h1:v'=(v:Int):=h1;have hvv:v'=v:=by omega
 subst hvv;have h2 :=h2;have:=Af5 hd hc tc QZ h2 hae he VF
 grind
def nm(o:APJ Nat):Int:=match o with |some n=>(n:Int)|none=>-1
def NM(d:AOE)(L:AOD)(n:Nat):AON:=(List.range d.length).map λv=>(List.range (W d v)).map λa=>nm (G2 L (nk v a) n)
theorem vG{L:AOD}{n v:Nat}{z:AOz}(hv:v<d.length):(NM d L n).getD v z=(List.range (W d v)).map λa=>nm (G2 L (nk v a) n):=Ik hv
theorem Af3(hd:Az d)(hc:CS d c)(hb:Xi c):QG d (c,())=some (NM d (SL d c d.length) (SL d c d.length).length):=by
 unfold QG;have cX:=hd.1;have h1:OO d (c,()) 0 []=some (NM d (SL d c d.length) 0):=by
  unfold OO;have:=AU (f:=FN d (c,())) (λv=>((v:Int),(List.range v).map λu=>(List.range (W d u)).map λa=>nm (G2 (SL d c d.length) (nk u a) 0))) (t:=NM d (SL d c d.length) 0) d.length (λv hv=>?_) ?_
  ·exact this
  ·unfold FN LH;obtain⟨e0,fj,fP⟩:=NK hd hv;have e2:(d.getD v Ad.zero).2.1=(W d v:Int):=e0;simp only[AL7,e2];rw[Dy hv,AMm,AMo (Bl hv),AMo (show Ty.row APr=true/\(0:Int)<=(W d v:Int)/\(W d v:Int)<=(W d v:Int)/\((8:Nat):Int)*(W d v:Int)<=281474976710656/\(W d v:Int)<=9223372036854775807 from⟨rfl,by omega,by omega,by omega,by omega⟩)];have e4:∀z,OM d (v:Int) (c,()) z 0 (List.replicate (W d v) 0)=some ((List.range (W d v)).map λa=>nm (G2 (SL d c d.length) (nk v a) 0)):=λz=>by
    unfold OM;have:=AU (f:=FL d (v:Int) (c,()) z) (λi=>((i:Int),CK (λ_=>(-1:Int)) 0 (W d v) i)) (t:=CK (λ_=>(-1:Int)) 0 (W d v) (W d v)) (W d v) (λi hi=>?_) ?_
    ·rw[LU]at this;have ef:CK (λ_=>(-1:Int)) 0 (W d v) (W d v)=(List.range (W d v)).map λa=>nm (G2 (SL d c d.length) (nk v a) 0):=AMV λa ha=>by rw[AMo (List.mem_range.1 ha)];rfl
     rw[<-ef];exact this
    ·unfold FL LG;simp only[AL7];rw[HG,Dy hi,AMm,AMo (Bl hi),Bj hi (by omega),Pb (λ_=>(-1:Int))]
    ·unfold FL LG;simp only;rw[HG,Fb,AMl]
   rw[e4,AL6,AMo (by simp;omega),Bj hv (by omega),CN]
  ·unfold FN LH;simp only;rw[Fb,AMl];rfl
 rw[h1,AL6,Vw hd hc hb,AL6];have Iw:=Zt hd hc d.length (AMc _);have h2:OP (SL d c d.length) 0 (NM d (SL d c d.length) 0)=some (NM d (SL d c d.length) (SL d c d.length).length):=by
  unfold OP;have:=AU (f:=FO (SL d c d.length)) (λi=>((i:Int),NM d (SL d c d.length) i)) (t:=NM d (SL d c d.length) (SL d c d.length).length) (SL d c d.length).length (λi hi=>?_) ?_
  ·exact this
  ·unfold FO LJ;have pd:kT (SL d c d.length) i∈SL d c d.length:=AJ hi;obtain⟨v,j,hv,hj,hx⟩:=nR.1 pd;obtain⟨e0,fj,fP⟩:=NK hd hv;have wO:=pL hd hc hv j (by omega);obtain⟨a,ha⟩:∃a:Nat,Gt 0 ((CJ d c v).take j)=(a:Int):=⟨(Gt 0 ((CJ d c v).take j)).toNat,by omega⟩;have haw:a<W d v:=by
    match j with
    |0=>simp[Gt]at ha;omega
    |j+1 =>
     rw[O0 (by omega)]at ha;have h3:=aN hd hc hv (show j<(Dp c v).length by unfold CJ at hj;simp at hj;omega) (by unfold CJ;simp);rw[PL (AMc _),OV]at h3;omega
   have q1:((SL d c d.length).getD i Ab.zero).1=(v:Int):=congrArg (·.1) hx;have q2:((SL d c d.length).getD i Ab.zero).2.1=(a:Int):=(congrArg (·.2.1) hx).trans ha;have hk:kS (SL d c d.length) i=nk v a:=by
    unfold kS nk;rw[show(kT (SL d c d.length) i).1=(v:Int)from q1,show(kT (SL d c d.length) i).2.1=(a:Int)from q2]
   simp only[AL7,q1,q2];have Hu:(NM d (SL d c d.length) i).set v (((NM d (SL d c d.length) i).getD v APw.zero).set a (i:Int))=NM d (SL d c d.length) (i+1):=by
    rw[vG hv];apply ANi;intro u;rw[AMv];by_cases hu:u<d.length
    ·have er:∀m,(NM d (SL d c d.length) m)[u]?=some ((List.range (W d u)).map λa=>nm (G2 (SL d c d.length) (nk u a) m)):=λm=>by simp[NM,hu]
     rw[er,er];split
     ·rename_i e;subst e;rw[AMo (by simp[NM];exact hu)];congr 1;apply ANi;intro b;rw[AMv];by_cases hbw:b<W d v
      ·simp only[AMi,AMN,AMz,AN3 hbw,Option.map_some];rw[d9,hk];split
       ·rename_i e;subst e;rw[(fp _ _).2 rfl];rfl
       ·rename_i e;have:Bd Aa (nk v b) (nk v a)=false:=by
         rw[Bool.eq_false_iff];intro h;exact e (XV.1 ((fp _ _).1 h)).2.symm
        rw[this];rfl
      ·rw[OV];simp[hbw]
     ·rename_i e;congr 1;refine AMV λb _=>?_;have:Bd Aa (nk u b) (kS (SL d c d.length) i)=false:=by
       rw[hk,Bool.eq_false_iff];intro h;exact e (XV.1 ((fp _ _).1 h)).1.symm
      show _=nm (G2 (SL d c d.length) (nk u b) (i+1));rw[d9,this];rfl
    ·have:∀m,(NM d (SL d c d.length) m)[u]?=none:=λm=>by simp[NM];omega
     rw[this,this,OV]
   have hNl:(NM d (SL d c d.length) i).length=d.length:=by simp[NM]
   rw[Dy hi,AMm,AMo (Bl hi),hNl,AMo (Bl hv),AMo (Bl hi),AMo (by rw[vG hv];simp;omega),Hu,Bj hi (by omega)]
  ·unfold FO LJ;simp only;rw[Fb,AMl]
 rw[h2];rfl
end
theorem AkA{xs:AOz}(hs:xs.Pairwise (·<=·)):∀m,m<=xs.length->(Lib.compactUpTo xs.toArray m).Pairwise (·<·)/\(∀x,x∈Lib.compactUpTo xs.toArray m↔∃j,j<m/\x=xs.toArray[j]!):=by
 have VY:∀j,j<xs.length->xs.toArray[j]! =Jp xs j:=λj hj=>by simp[Jp,hj]
 have PR:∀i j,i<j->j<xs.length->Jp xs i<=Jp xs j:=λi j sK hj=>by
  have:=List.pairwise_iff_getElem.1 hs i j (by omega) hj sK
  grind
 intro m;induction m with
 |zero=>simp[Lib.compactUpTo]
 |succ m ih =>
  intro hm;obtain⟨h1,h2⟩:=ih (by omega);rw[Lib.compactUpTo_succ];cases hk:Lib.keeps xs.toArray m with
  |true =>
   simp only[AMR];refine⟨List.pairwise_append.2 ⟨h1,by simp,λx hx y hy=>?_⟩,λx=>?_⟩
   ·rw[AMx]at hy;subst hy;obtain⟨j,hj,rfl⟩:=(h2 x).1 hx;have Xp:m=0\/xs.toArray[m]!≠xs.toArray[m-1]!:=by simpa [Lib.keeps]using hk
    rcases Xp with Xp |Xp
    ·omega
    ·rw[VY m (by omega),VY (m-1) (by omega)]at Xp;rw[VY j (by omega),VY m (by omega)];have a1:=PR (m-1) m (by omega) (by omega);have a2:Jp xs j<=Jp xs (m-1):=by
      rcases AMh j (m-1)with h |h
      ·grind
      grind
     omega
   grind
  |false =>
   simp only[AMU,ANz,AML];refine⟨h1,λx=>?_⟩;rw[h2];have Xp:¬(m=0\/xs.toArray[m]!≠xs.toArray[m-1]!):=by simpa [Lib.keeps]using hk
   grind
theorem eO(xs:AOz):(Np (Qm xs)).Pairwise (·<·)/\∀x,x∈Np (Qm xs)↔x∈xs:=by
 have hs:(Qm xs).Pairwise (·<=·):=by
  have:=List.pairwise_mergeSort (le:=leI) (λa b c h1 h2=>by simp[leI]at *;omega) (λa b=>by simp[leI];omega) xs;exact this.imp λ{a b} h=>by simpa [leI]using h
 obtain⟨h1,h2⟩:=AkA hs _ (AMc _);refine⟨h1,λx=>?_⟩;unfold Np Lib.compact;rw[h2];have hm:∀y,y∈Qm xs↔y∈xs:=λy=>(List.mergeSort_perm xs leI).mem_iff;rw[<-hm];constructor
 ·grind
 ·intro hx;obtain⟨j,hj,rfl⟩:=AM5 hx;exact⟨j,hj,by grind⟩
def W9(l n:Nat)(p:Int):Bool:=decide ((l:Int)<p)&&decide (p<((l+n:Nat):Int))
def kR(c:AON)(s:Sg)(k q:Nat):AOz:=match s with
 |.co _=>[]
 |.va v l n=>(((Dp c v).take q).filter (W9 l n)).map λp=>(k:Int)+p-(l:Int)
def prt(c:AON)(s:Sg)(k:Nat):AOz:=(k:Int)::match s with
 |.co _=>[]
 |.va v l n=>((Dp c v).filter (W9 l n)).map λp=>(k:Int)+p-(l:Int)
def Js(c:AON)(f:APH Sg)(m:Nat):AOz:=(List.range m).flatMap λi=>prt c (f.getD i (.co [])) (Be (f.take i))
theorem xj(c:AON)(f:APH Sg)(m:Nat):Js c f (m+1)=Js c f m++prt c (f.getD m (.co [])) (Be (f.take m)):=by
 unfold Js;rw[ANc];simp
section
variable {d:AOE} {c:AON}
theorem zA(hd:Az d)(hc:CS d c){s:Sg}(hs:UN d s)(k:Nat):(prt c s k).length<=4097:=by
 cases s with
 |co b=>simp[prt]
 |va v l n =>
  obtain⟨hv,_,_⟩:=hs;obtain⟨e0,fj,fP⟩:=NK hd hv;have h1:=U9 (hc.2 v hv) (by omega);have h2:=ANV (W9 l n) (Dp c v);simp only[prt,ANe,AMi];omega
theorem tW(hd:Az d)(hc:CS d c)(hb:Xi c){B:APH Bt}(h:Bg d B):KG (fN B) (c,())=some (Js c (Ax B) (Ax B).length):=by
 unfold KG;obtain⟨n1,n2,n3⟩:=pX hd h;have hlen:=CM n1;have hbl:=h.2.1;have s8:∀i,i<(Ax B).length->UN d ((Ax B).getD i (.co [])):=λi hi=>(X5 h (AJ hi)).1;have sX:∀m,m<=(Ax B).length->(Js c (Ax B) m).length<=4097*m:=λm hm=>Ws λi hi=>zA hd hc (s8 i (by omega)) _;have:ME (fN B) (c,()) ((fN B).length:Int) 0 0 []=some (Js c (Ax B) (Ax B).length):=by
  unfold ME;rw[show(fN B).length=(Ax B).length from Ce _];have:=AU (f:=Es (fN B) (c,()) ((Ax B).length:Int)) (λk=>((Be ((Ax B).take k):Int),(k:Int),Js c (Ax B) k)) (t:=Js c (Ax B) (Ax B).length) (Ax B).length (λk hk=>?_) ?_
  ·exact this
  ·unfold Es JG;have e1:(fN B).getD k Ae.zero=HI ((Ax B).getD k (.co [])):=fe hk;have hpk:=sX k (by omega);have hwk:=EP (Ax B) k;have dU:=YK hk;simp only[AL7,e1];rw[Dy hk,AMm,show(fN B).length=(Ax B).length from Ce _,AMo (Bl hk),AMo (by simp only[AMa,ANe,ANT];omega)];have e2:I5 (Be ((Ax B).take k):Int) (fN B) ((Ax B).length:Int) (k:Int) (c,()) (Js c (Ax B) k++[(Be ((Ax B).take k):Int)]) (HI ((Ax B).getD k (.co [])))=some (Js c (Ax B) (k+1)):=by
    unfold I5;rw[xj];have FR:=s8 k hk;cases hs:(Ax B).getD k (.co [])with
    |co b=>rfl
    |va v l n =>
     rw[hs]at FR dU;obtain⟨hv,hn,hw⟩:=FR;obtain⟨e0,fj,fP⟩:=NK hd hv;have hrl:=U9 (hc.2 v hv) (by omega);have e3:(c.getD v APw.zero)=Dp c v:=rfl;have e4:(HI (.va v l n)).1=(v:Int):=rfl;simp only[e4,AL7,e3];rw[show decide ((v:Int)>=0)=true from LO,AMm,AMo (Bl (by rw[hc.1];exact hv))];have e5:MD (Be ((Ax B).take k):Int) (fN B) ((Ax B).length:Int) (k:Int) (c,()) (HI (.va v l n)) (Dp c v) ((Dp c v).length:Int) 0 (Js c (Ax B) k++[(Be ((Ax B).take k):Int)])=some (Js c (Ax B) k++prt c (.va v l n) (Be ((Ax B).take k))):=by
      unfold MD;have:=AU (f:=Er (Be ((Ax B).take k):Int) (fN B) ((Ax B).length:Int) (k:Int) (c,()) (HI (.va v l n)) (Dp c v) ((Dp c v).length:Int)) (λq=>((q:Int),Js c (Ax B) k++[(Be ((Ax B).take k):Int)]++kR c (.va v l n) (Be ((Ax B).take k)) q)) (t:=Js c (Ax B) k++prt c (.va v l n) (Be ((Ax B).take k))) (Dp c v).length (λq hq=>?_) ?_
      ·rw[show Js c (Ax B) k++[(Be ((Ax B).take k):Int)]=Js c (Ax B) k++[(Be ((Ax B).take k):Int)]++kR c (.va v l n) (Be ((Ax B).take k)) 0 by simp[kR]];exact this
      ·unfold Er JF MC PD;have e6:(Dp c v).getD q APr.zero=Jp (Dp c v) q:=rfl;have hm:Jp (Dp c v) q∈Dp c v:=by unfold Jp;exact AJ hq
       have hpb:=fW (hc.2 v hv) hm;have hbd:Jp (Dp c v) q<=4096:=by omega
       have Bm:(kR c (.va v l n) (Be ((Ax B).take k)) q).length<=4096:=by
        have h2:=ANV (W9 l n) ((Dp c v).take q);simp only[kR,AMi];rw[AMr]at h2;omega
       have e7:(HI (.va v l n)).2.1=(l:Int):=rfl;have e7b:(HI (.va v l n)).2.2.1=(n:Int):=rfl;have e8:wI ((l:Int)+(n:Int))=((l+n:Nat):Int):=A1;have e9:kR c (.va v l n) (Be ((Ax B).take k)) (q+1)=kR c (.va v l n) (Be ((Ax B).take k)) q++if W9 l n (Jp (Dp c v) q)then[(Be ((Ax B).take k):Int)+Jp (Dp c v) q-(l:Int)]else[]:=by
        simp only[kR];rw[AW (z:=(0:Int)) hq,AN7,AMQ];congr 1;show List.map _ (List.filter (W9 l n) [Jp (Dp c v) q])=_;cases hi:W9 l n (Jp (Dp c v) q)<;>simp[hi]
       simp only[AL7,e6,e7,e7b,e8];rw[Dy hq,AMm,AMo (Bl hq),e9];show Option.bind (bif W9 l n (Jp (Dp c v) q)then _ else _) _=_;cases hi:W9 l n (Jp (Dp c v) q)with
       |true =>
        rw[AMm,AMo (by simp only[AMa,ANe,ANT];omega),AL6,Bj hq (by omega),BX (x:=(Be ((Ax B).take k):Int)+Jp (Dp c v) q) (by omega) (by omega),BX];simp[AMe]
       |false =>
        rw[AMl,AL6,Bj hq (by omega)];simp
      ·unfold Er JF;simp only;rw[Fb,AMl];have:kR c (.va v l n) (Be ((Ax B).take k)) (Dp c v).length=((Dp c v).filter (W9 l n)).map λp=>(Be ((Ax B).take k):Int)+p-(l:Int):=by
        simp only[kR];rw[AMg (AMc _)]
       rw[this,AMe];rfl
     rw[e5];rfl
   have e10:wI ((Be ((Ax B).take k):Int)+(HI ((Ax B).getD k (.co []))).2.2.1)=(Be ((Ax B).take (k+1)):Int):=by
    rw[X6,EZ hk];exact A1
   rw[e2,AL6,Bj hk (by omega),e10]
  ·unfold Es JG;simp only;rw[Fb,AMl]
 rw[this];rfl
theorem mL(hd:Az d)(hc:CS d c){B:APH Bt}(h:Bg d B){x:Int}:x∈Js c (Ax B) (Ax B).length↔∃p:Nat,x=(p:Int)/\p<B.length/\SG B (C0 c) p=true:=by
 obtain⟨n1,n2,n3⟩:=pX hd h;unfold Js;rw[List.mem_flatMap];constructor
 ·rintro⟨i,hi,hx⟩
  have hi:=List.mem_range.1 hi;have FR:=(X5 h (AJ (z:=.co []) hi)).1;have h1:=n1 _ (AJ (z:=.co []) hi);have dU:=YK hi;rcases List.mem_cons.1 hx with rfl |hx
  ·refine⟨_,rfl,by omega,?_⟩;have:=(Sn hi (k:=0) (by omega)).2.1;unfold SG fst
   grind
  ·cases hs:(Ax B).getD i _ with
   |co b=>grind
   |va v l n =>
    rw[hs]at hx dU FR;obtain⟨p,hp,rfl⟩:=List.mem_map.1 hx;obtain⟨Z8,dS⟩:=List.mem_filter.1 hp;unfold W9 at dS;rw[AMd,ANQ,ANQ]at dS;simp only[Sg.w]at dU;obtain⟨q,rfl⟩:∃q:Nat,p=q:=⟨p.toNat,by omega⟩;refine⟨Be ((Ax B).take i)+(q-l),by omega,by omega,?_⟩;obtain⟨e1,e2,_⟩:=Sn hi (k:=q-l) (by rw[hs];simp only[Sg.w];omega);unfold SG PH;rw[Fu,hs,YQ (by omega)]at e1;rw[e1,show l+(q-l)=q by omega];simp only[Aa1,C0]
    grind
 ·rintro⟨p,rfl,hp,dO⟩
  obtain⟨i,k,h1,h2,h3,h4,h5,h6,_⟩:=gF h hp;refine⟨i,List.mem_range.2 h1,?_⟩;rcases AMu k with h0 |h0
  ·subst h0;rw[h3];exact AMB
  ·unfold SG at dO;rw[h6,h5,show(k==0)=false by grind]at dO;cases hs:(Ax B).getD i _ with
   |co b =>
    rw[hs]at dO h2;rw[aD h2]at dO;cases dO
   |va v l n =>
    rw[hs]at dO h2;simp only[Sg.w]at h2;rw[YQ h2]at dO;have hm :=by simpa [Aa1,C0]using dO
    refine AMy _ (List.mem_map.2 ⟨((l+k)),List.mem_filter.2 ⟨hm,?_⟩,by omega⟩);unfold W9
    grind
end
def fS(B1 B2:APH Bt)(h:Nat->Nat->Bool)(p:Nat):Bool:=SG B1 h p||SG B2 h p
structure qX (B1 B2:List Bt) (h:Nat->Nat->Bool) (a b:Nat):Prop where
 lt:a<b
 le:b<=B1.length
 no:∀q,a<q->q<b->fS B1 B2 h q=false
 fr:a=0\/fS B1 B2 h a=true
 to:b=B1.length\/fS B1 B2 h b=true
def coB:Bt->Bool
 |.co b=>b
 |.va _ _=>false
def rT(B:APH Bt)(a w:Nat):AOA:=((B.drop a).take w).map coB
def Nj(L:AOD)(B:APH Bt)(a b:Nat):AOk:=match PH B a with
 |.co _=>(-1,XU (rT B a (b-a)),())
 |.va v x=>(nm (G2 L (nk v x) L.length),(0,[],()),())
theorem AeR{A:Type}{F:Sg->APH A}(hF:∀s,(F s).length=s.w){f:APH Sg}{i k w:Nat}(hi:i<f.length)(hk:k+w<=(f.getD i (.co [])).w):((f.flatMap F).drop (Be (f.take i)+k)).take w=((F (f.getD i (.co []))).drop k).take w:=by
 have e:f.flatMap F=(f.take i).flatMap F++(F (f.getD i (.co []))++(f.drop (i+1)).flatMap F):=by
  rw[<-AMe,<-Yx F hi,<-ANI,ANm]
 have hl:=TX hF (f.take i);have hs:=hF (f.getD i (.co []));rw[e,List.drop_append,List.drop_of_length_le (by omega),ANk,hl,show Be _+k-Be _=k by omega,List.drop_append,List.take_append];rw[show w-(List.drop k _).length=0 by grind,ANZ,AML]
section
variable {d:AOE}
theorem AjA{B B':APH Bt}(h:Bg d B){f:Nat->Nat->Bool}{a b:Nat}(hl:b<=B.length)(wJ:a<b)(VF:∀q,a<q->q<b->fst B q=false):∃i k,i<(Ax B).length/\a=Be ((Ax B).take i)+k/\k+(b-a)<=((Ax B).getD i (.co [])).w/\UN d ((Ax B).getD i (.co [])):=by
 obtain⟨i,k,h1,h2,h3,h4,_⟩:=gF h (show a<B.length by omega);refine⟨i,k,h1,h3,Classical.byContradiction λhn=>?_,h4⟩;have dU:=EZ h1;have hi1:i+1<(Ax B).length:=by
  refine Classical.byContradiction λhc=>?_;have e:(Ax B).take (i+1)=Ax B:=AMg (by omega);rw[e,Cd]at dU;omega
 have fj:=C1 B _ (AJ (z:=.co []) hi1);have:=(Sn hi1 (k:=0) (by omega)).2.1;have hq:=VF (Be ((Ax B).take (i+1))) (by omega) (by omega);unfold fst at hq
 grind
theorem Adm{B:APH Bt}(h:Bg d B){i k:Nat}(hi:i<(Ax B).length)(hk:k<((Ax B).getD i (.co [])).w):OW (fN B) ((Be ((Ax B).take i)+k:Nat):Int)=some (HI ((Ax B).getD i (.co [])),(k:Int),()):=by
 unfold OW;have hlen:=CM (C1 B);rw[Cd]at hlen;have hbl:=h.2.1;have dU:=YK hi;rw[Cd]at dU;have:Vm (fN B) ((fN B).length) ((Be ((Ax B).take i)+k:Nat)) 0=some (.inl (HI ((Ax B).getD i (.co [])),k)):=by
  rw[show(fN B).length=(Ax B).length from Ce _];have ACs:∀j,j<=i->Be ((Ax B).take j)<=Be _:=λj hj=>by
   have e:(Ax B).take j=((Ax B).take i).take j:=by grind
   rw[e];exact EP _ j
  have:=AU (f:=HH (fN B) ((Ax B).length)) (λj=>(((Be ((Ax B).take i)+k-Be ((Ax B).take j):Nat)),j)) (t:=.inl (HI ((Ax B).getD i (.co [])),k)) i (λj hj=>?_) ?_
  ·exact this
  ·unfold HH Od;have e1:(fN B).getD j _=HI _:=fe (by omega);have h1:=ACs _ hj;rw[EZ (show j<(Ax B).length by omega)]at h1;simp only[AL7,e1,X6];rw[Dy (show j<(Ax B).length by omega),AMm,show(fN B).length=(Ax B).length from Ce _,AMo (Bl (by omega)),IV,AMl,Bj hj (by omega),EZ (show j<(Ax B).length by omega)];rw[A1 (n:=Be ((Ax B).take i)+k-(Be ((Ax B).take j)+((Ax B).getD j (.co [])).w)) (by omega) (by omega)]
  ·unfold HH Od;have e1:(fN B).getD i _=HI _:=fe hi;simp only[AL7,e1,X6];rw[Dy hi,AMm,show(fN B).length=(Ax B).length from Ce _,AMo (Bl hi),show Be _+k-Be _=k by omega,Dy hk,AMm]
 rw[this];rfl
variable {c:AON}
structure eW (d:AOE) (c:AON) (B:List Bt) (a b i k:Nat):Prop where
 hi:i<(Ax B).length
 ha:a=Be ((Ax B).take i)+k
 hk:k+(b-a)<=((Ax B).getD i (.co [])).w
 hs:UN d ((Ax B).getD i (.co []))
 lt:a<b
 le:b<=B.length
 no:∀q,a<q->q<b->fst B q=false
 va:∀v l n,(Ax B).getD i (.co [])=.va v l n->∃m,G2 (SL d c d.length) (nk v (l+k)) (SL d c d.length).length=some m/\m<(SL d c d.length).length/\(kT (SL d c d.length) m).2.2.1=((b-a:Nat):Int)
theorem zG(hd:Az d)(hc:CS d c){B B':APH Bt}(h:Bg d B)(hl:B.length=B'.length){a b:Nat}(wJ:a<b)(PR:b<=B.length)(VF:∀q,a<q->q<b->SG B (C0 c) q=false)
    (kj:a=0\/(iU (PH B a)=true->SG B (C0 c) a=true)) (ta:b=B.length\/(iU (PH B b)=true->SG B (C0 c) b=true)) (he:∀x∈Ax B,Q7 d (C0 c) x):∃i k,eW d c B a b i k:=by
 have hnf:∀q,a<q->q<b->fst B q=false:=λq h1 h2=>by
  have:=VF q h1 h2;unfold SG at this
  grind
 obtain⟨i,k,h1,h2,h3,h4⟩:=AjA (B':=B) (f:=C0 c) h PR wJ hnf;refine⟨i,k,h1,h2,h3,h4,wJ,PR,hnf,λv l n hs=>?_⟩;have FR:=h4;have hk:=h3;rw[hs]at FR hk;obtain⟨hv,hn,hw⟩:=FR;obtain⟨e0,fj,fP⟩:=NK hd hv;simp only[Sg.w]at hk;have Afb:=he _ (AJ (z:=.co []) h1);rw[hs]at Afb;have dU:=YK h1;rw[Cd,hs]at dU;simp only[Sg.w]at dU;have bat:∀j,j<n->PH B _=.va v _/\fst B _=(j==0):=λj hj=>by
  obtain⟨q1,q2,_⟩:=Sn h1  (by rw[hs];exact hj);rw[Fu,hs,YQ hj]at q1;exact⟨q1,q2⟩
 have h5:=AgE hd hc  (a:=l+k) (e:=l+k+(b-a)) hv ?_ (by omega) ?_ ?_
 ·grind
 ·rcases AMu k with hk0 |hk0
  ·subst hk0;rcases AMu l with iM |iM
   ·omega
   ·exact .inr (Afb.1 iM (by omega))
  ·obtain⟨q1,q2⟩:=bat k (by omega);rw[<-h2]at q1 q2;rcases kj with kj |kj
   ·omega
   ·have:=kj (by rw[q1];rfl);unfold SG at this;rw[q2,q1,show(k==0)=false by grind]at this;exact .inr this
 ·rcases AMh _ n with Bm |YC
  ·obtain⟨q1,q2⟩:=bat _ Bm;have eb:Be ((Ax B).take i)+(k+(b-a))=b:=by omega
   rw[eb]at q1 q2;have hbb:b≠B.length:=by omega
   have:=ta.resolve_left hbb (by rw[q1];rfl);unfold SG at this;rw[q2,q1,show(k+(b-a)==0)=false by grind]at this;exact .inr ⟨by omega,by rw[show l+k+(b-a)=l+(k+(b-a)) by omega];exact this⟩
  ·have e:l+k+(b-a)=l+n:=by omega
   rw[e];rcases AMh _ _ with Bm |AKc
   ·exact .inr ⟨Bm,Afb.2 (by omega) Bm⟩
   ·grind
 ·intro q hq1 hq2;obtain⟨q1,q2⟩:=bat (q-l) (by omega);have:=VF (Be ((Ax B).take i)+(q-l)) (by omega) (by omega);unfold SG at this;rw[q1,AM8]at this;have:=this.2;rw[show l+(q-l)=q by omega]at this;exact this
theorem nh{B:APH Bt}{a b i k:Nat}(S:eW d c B a b i k):(B.drop a).take (b-a)=(((Ax B).getD i (.co [])).bits.drop k).take (b-a):=by
 have e:=AeR HP S.hi S.hk;rw[show(Ax B).flatMap _=Dn _ from rfl,Fu,<-S.ha]at e;exact e
theorem fX{B:APH Bt}{a b i k:Nat}(S:eW d c B a b i k):PH B a=((Ax B).getD i (.co [])).bits.getD k (.co false):=by
 have h1:=S.hk;have h2:=S.lt;have:=(Sn S.hi (k:=k) (by omega)).1;rw[Fu,<-S.ha]at this;exact this
theorem oC{B:APH Bt}{a b i k:Nat}(S:eW d c B a b i k){x:AOA}(hs:(Ax B).getD i (.co [])=.co x):rT B a (b-a)=(x.drop k).take (b-a):=by
 unfold rT;rw[nh S,hs];simp only[Sg.bits];rw[<-List.map_drop,<-List.map_take,AN2];exact(AMV λ_ _=>rfl).trans (List.map_id _)
theorem dW(hd:Az d){B:APH Bt}(h:Bg d B){a b i k:Nat}(S:eW d c B a b i k):∃r,(OW (fN B) (a:Int)).bind (λl=>KE l ((b-a:Nat):Int) (fH (SL d c d.length) (SL d c d.length).length))=some r/\r.2.2.1=fH (SL d c d.length) (SL d c d.length).length/\(r.1,(r.2.1,r.2.2.2,()),())=Nj (SL d c d.length) B a b:=by
 have hk:=S.hk;have Bm:=S.lt;have UD:=fX S;rw[S.ha,Adm h S.hi (by omega),<-S.ha,AL6];unfold KE Nj;rw[UD];cases hs:(Ax B).getD i _ with
 |co x =>
  rw[hs]at hk;simp only[Sg.w]at hk;have FR:=S.hs;rw[hs]at FR;obtain⟨r,hr,hr2⟩:=yJ    (by have:=FR.2;omega) (by omega) hk;have e1:EH (HI (.co x)).2.2.2.1 k _=some r:=hr;rw[e1,aD (by omega)];refine⟨_,rfl,rfl,?_⟩;rw[hr2,oC S hs]
 |va v l n =>
  rw[hs]at hk;simp only[Sg.w]at hk;have FR:=S.hs;rw[hs]at FR;obtain⟨hv,hn,hw⟩:=FR;obtain⟨e0,fj,fP⟩:=NK hd hv;obtain⟨m,hm,_⟩:=S.va v l n hs;have e1:(HI (.va v l n)).1=v:=rfl;have e2:(HI (.va v l n)).2.1=l:=rfl;simp only[e1,e2];rw[show((v:Int)==-1)=false from beq_eq_false_iff_ne.2 (by omega),YQ (by omega),A1  (n:=l+k) (by omega) (by omega)];refine⟨_,rfl,rfl,?_⟩;simp only;have e3:Bn _ APr (fH (SL d c d.length) (SL d c d.length).length) (v,((l+k:Nat)),())=m:=by
   unfold Bn;rw[yT];have:G2 _ (v,((l+k:Nat)),()) _=some m:=hm;rw[this];rfl
  rw[e3,hm];rfl
theorem eE(hd:Az d){B:APH Bt}(h:Bg d B){a b i k:Nat}(S:eW d c B a b i k):∃r,Pr (bV B,W3 (Ax B),()) (NM d (SL d c d.length) (SL d c d.length).length) (SL d c d.length) (a:Int) (b:Int)=some r/\r.2.2.1=true/\(r.1,(r.2.1,r.2.2.2,()),())=Nj (SL d c d.length) B a b:=by
 have hk:=S.hk;have Bm:=S.lt;have UD:=fX S;have hbl:=h.2.1;have PR:=S.le;unfold Pr Nj;have eb:(bV B).getD a Aa.zero=VM (PH B a):=gH (by omega);simp only[AL7,eb];rw[Dk,AMo (Bl (by omega))];rw[UD];cases hs:(Ax B).getD i (.co [])with
 |co x =>
  rw[hs]at hk;simp only[Sg.w]at hk;rw[aD (by omega)];rw[show decide ((VM (.co (x.getD k false))).1<0)=true from rfl,AMm];have HQ:(rT B a (b-a)).length=b-a:=by rw[oC S hs];simp;omega
  have e1:QE (b:Int) (bV B,W3 (Ax B),()) (a:Int) []=some (.inr ((rT B a (b-a)).map bI)):=by
   unfold QE;have:=AU (f:=GI (b:Int) (bV B,W3 (Ax B),())) (λj=>(((a+j:Nat):Int),((rT B a (b-a)).take j).map bI)) (t:=.inr ((rT B a (b-a)).map bI)) (b-a) (λj hj=>?_) ?_
   ·exact this
   ·unfold GI M4;have hq:PH B (a+j)=.co ((rT B a (b-a)).getD j false):=by
     have:=(Sn S.hi (k:=k+j) (by rw[hs];simp only[Sg.w];omega)).1;rw[Fu,hs,aD (by omega),<-ANa,<-S.ha]at this;show B.getD (a+j) (.co false)=_;rw[this,oC S hs];congr 1;simp only[List.getD];rw[AM9,AMo hj,AN6]
    have ec:(bV B).getD (a+j) Aa.zero=VM (PH B (a+j)):=gH (by omega);simp only[AL7,ec,hq];rw[show decide (((a+j:Nat):Int)<(b:Int))=true from LO,AMm,Dk,AMo (Bl (by omega)),show decide ((VM (.co ((rT B a (b-a)).getD j false))).1>=0)=false from rfl,AMl,AMo (Bl (by omega)),AMo (by simp only[AMa,ANe,ANT,AMi,AMr];omega),A1 (x:=((a+j:Nat):Int)+1) (n:=a+(j+1)),AW (z:=false) (by omega),AMQ];rw[show IntKind.u8.wrap (VM (.co ((rT B a (b-a)).getD j false))).2.1=bI ((rT B a (b-a)).getD j false) by cases (rT B a (b-a)).getD j false<;>rfl];rfl
   ·unfold GI M4;simp only;rw[show a+(b-a)=b by omega,Fb,AMl,AMg (by omega)]
  rw[e1,AL6];simp only[AM4];rw[l9 (by omega) (by omega),AL6];exact⟨_,rfl,rfl,rfl⟩
 |va v l n =>
  rw[hs]at hk;simp only[Sg.w]at hk;have FR:=S.hs;rw[hs]at FR;obtain⟨hv,hn,hw⟩:=FR;obtain⟨e0,fj,fP⟩:=NK hd hv;obtain⟨m,hm,Tj,RG⟩:=S.va v l n hs;rw[YQ (by omega)];have e1:(VM (.va v (l+k))).1=(v:Int):=rfl;have e2:(VM (.va v (l+k))).2.1=((l+k:Nat):Int):=rfl;have e3:(NM d (SL d c d.length) (SL d c d.length).length).getD v APw.zero=(List.range (W d v)).map λx=>nm (G2 (SL d c d.length) (nk v x) (SL d c d.length).length):=vG hv;have e4:((List.range (W d v)).map λx=>nm (G2 (SL d c d.length) (nk v x) (SL d c d.length).length)).getD (l+k) APr.zero=(m:Int):=by
   rw[Ik (by omega),hm];rfl
  simp only[e1,e2,AL7,e3,e4];have hNl:(NM d (SL d c d.length) (SL d c d.length).length).length=d.length:=by simp[NM]
  rw[show decide ((v:Int)<0)=false from IV,AMl,AMo (Bl (by omega)),hNl,AMo (Bl hv),AMo (Bl (by omega)),AMi,AMN,AMo (Bl (by omega))];have e5:Ml (SL d c d.length) (a:Int) (b:Int) (bV B,W3 (Ax B),()) (m:Int)=some false:=by
   unfold Ml;rw[show decide ((m:Int)<0)=false from IV,AMl,AMo (Bl Tj),AL7,show((SL d c d.length).getD m Ab.zero).2.2.1=((b-a:Nat):Int)from RG,A1 (x:=(b:Int)-(a:Int)) (n:=b-a)];simp
  have e6:QF (b:Int) (bV B,W3 (Ax B),()) (m:Int) (wI ((a:Int)+1))=some (.inr ()):=by
   unfold QF;rw[A1 (x:=(a:Int)+1) (n:=a+1)];have:=AU (f:=GJ (b:Int) (bV B,W3 (Ax B),()) (m:Int)) (λj=>((a+1+j:Nat):Int)) (t:=.inr ()) (b-(a+1)) (λj hj=>?_) ?_
   ·exact this
   ·unfold GJ M5;have hf:(W3 (Ax B)).getD (a+1+j) (Ty.zero .bool)=false:=S.no (a+1+j) (by omega) (by omega);simp only[AL7,hf];rw[show decide (((a+1+j:Nat):Int)<(b:Int))=true from LO,AMm,yV,AMo (Bl (by omega)),AMl,A1 (x:=((a+1+j:Nat):Int)+1) (n:=a+1+(j+1))]
   ·unfold GJ M5;simp only;rw[show a+1+(b-(a+1))=b by omega,Fb,AMl]
  rw[e5,AL6,AMl,e6,AL6];simp only[AM4];refine⟨_,rfl,rfl,?_⟩;simp only;rw[hm];rfl
end
def zz(L:AOD)(B1 B2:APH Bt)(a b:Nat):AOw:=(Nj L B1 a b,Nj L B2 a b,((b-a:Nat):Int),())
def PP(L:AOD)(B1 B2:APH Bt):Nat->AOB->AOL
 |_,[]=>[]
 |a,b::r=>zz L B1 B2 a b::PP L B1 B2 b r
def Nm(a:Nat)(l:AOB):Nat:=l.getLastD a
theorem Tp(L:AOD)(B1 B2:APH Bt):∀(l:AOB) (a p:Nat),PP L B1 B2 a (l++[p])=PP L B1 B2 a l++[zz L B1 B2 (Nm a l) p]
 |[],a,p=>rfl
 |x::l,a,p=>by
  have e:Nm a (x::l)=Nm x l:=by cases l<;>rfl
  rw[e];show _::PP L B1 B2 x (l++[p])=_;rw[Tp L B1 B2 l x p];rfl
theorem nP(L:AOD)(B1 B2:APH Bt):∀(l:AOB) (a:Nat),(PP L B1 B2 a l).length=l.length
 |[],_=>rfl
 |_::l,_=>by simp[PP,nP L B1 B2 l]
def eL(B1 B2:APH Bt)(h:Nat->Nat->Bool)(p:Nat):AOB:=(List.range p).filter λq=>decide (1<=q)&&fS B1 B2 h q
section
variable {B1 B2:APH Bt} {h:Nat->Nat->Bool}
theorem aL(p:Nat)(hp:1<=p):eL B1 B2 h (p+1)=if fS B1 B2 h p then eL B1 B2 h p++[p]else eL B1 B2 h p:=by
 unfold eL;rw[ANc]
 grind
theorem wC:eL B1 B2 h 1=[]:=by simp[eL,ANc]
theorem ZD{p q:Nat}:q∈eL B1 B2 h p↔q<p/\1<=q/\fS B1 B2 h q=true:=by
 unfold eL;simp
theorem lK(p:Nat):(eL B1 B2 h p).Pairwise (·<·):=(List.pairwise_lt_range ).filter _
theorem wB(p:Nat):(eL B1 B2 h p).length<=p:=by
 exact AMA (ANV _ _) (by simp)
theorem mb:∀{l:AOB} {a:Nat},l.Pairwise (·<·)->(∀q∈l,q<=Nm a l)/\(Nm a l=a/\l=[]\/Nm a l∈l)
 |[],a,_=>⟨λq hq=>(by grind),.inl ⟨rfl,rfl⟩⟩
 |x::l,a,hs=>by
  have e:Nm a (x::l)=Nm x l:=by cases l<;>rfl
  rw[List.pairwise_cons]at hs;obtain⟨h1,h2⟩:=mb (a:=x) hs.2
  grind
theorem ZI{p:Nat}(hp:1<=p)(PR:p<=B1.length)(ta:p=B1.length\/fS B1 B2 h p=true):qX B1 B2 h (Nm 0 (eL B1 B2 h p)) p:=by
 obtain⟨h1,h2⟩:=mb (a:=0) (lK (B1:=B1) (B2:=B2) (h:=h) p);refine⟨?_,PR,λq hq1 hq2=>?_,?_,ta⟩
 ·rcases h2 with ⟨h2,_⟩|h2
  ·omega
  ·exact(ZD.1 h2).1
 ·cases hq:fS B1 B2 h q with
  |false=>rfl
  |true=>have:=h1 q (ZD.2 ⟨hq2,by omega,hq⟩);omega
 ·rcases h2 with ⟨h2,_⟩|h2
  ·omega
  ·exact .inr (ZD.1 h2).2.2
theorem oH:∀(n:Nat) {i:Nat} (hi:i<(eL B1 B2 h n).length),(eL B1 B2 h n).take i=eL B1 B2 h ((eL B1 B2 h n)[i])
 |0,i,hi=>by simp[eL]at hi
 |1,i,hi=>by rw[wC]at hi;simp at hi
 |n+2,i,hi=>by
  have es:=aL (B1:=B1) (B2:=B2) (h:=h) (n+1) (by omega);cases hq:fS B1 B2 h _ with
  |false =>
   rw[hq]at es;simp only[es]at hi⊢;exact oH _ hi
  |true =>
   rw[hq]at es;simp only[AMR]at es;simp only[es]at hi⊢;rw[AMa,AMq]at hi;rcases AMh i _ with Bm |YC
   ·rw[ANb (by omega),List.getElem_append_left Bm];exact oH _ Bm
   grind
end
section
variable {d:AOE} {c:AON} {B1 B2:APH Bt}
theorem VU(hd:Az d)(hc:CS d c)(h1:Bg d B1)(h2:Bg d B2)(hl:B1.length=B2.length)(BH:cz d B1 B2 (C0 c)){a b:Nat}(g:qX B1 B2 (C0 c) a b):(∃i k,eW d c B1 a b i k)/\∃i k,eW d c B2 a b i k:=by
 have VF:∀q,a<q->q<b->SG B1 (C0 c) q=false/\SG B2 (C0 c) q=false:=λq q1 q2=>by
  have:=g.no q q1 q2;unfold fS at this;rwa [AM8]at this
 have Alj:∀q,1<=q->q<B1.length->fS B1 B2 (C0 c) q=true->(iU (PH B1 q)=true->SG B1 (C0 c) q=true)/\(iU (PH B2 q)=true->SG B2 (C0 c) q=true):=λq q1 q2 hq=>by
  have hs:=BH.2 q q1 q2;unfold fS at hq
  grind
 have Bm:=g.lt;have PR:=g.le;constructor
 ·refine zG (B':=B2) hd hc h1 hl g.lt g.le (λq q1 q2=>(VF q q1 q2).1) ?_ ?_ λx hx=>BH.1 x (AME _ hx)
  ·rcases AMu a with h0 |h0
   ·grind
   ·exact .inr (Alj a h0 (by omega) (g.fr.resolve_left (by omega))).1
  ·rcases g.to with e |e
   ·grind
   grind
 ·refine zG (B':=B1) hd hc h2 hl.symm g.lt (by omega) (λq q1 q2=>(VF q q1 q2).2) ?_ ?_ λx hx=>BH.1 x (AMF _ hx)
  ·rcases AMu a with h0 |h0
   ·grind
   ·exact .inr (Alj a h0 (by omega) (g.fr.resolve_left (by omega))).2
  ·rcases g.to with e |e
   ·grind
   grind
theorem tP{B:APH Bt}(h:Bg d B):1<=(Ax B).length:=by
 rcases AMu _ with h0 |h0
 ·have e:Ax B=[]:=AMZ h0;have:=Cd B;rw[e]at this;have:=h.1;simp[Be]at *;omega
 ·omega
theorem AFh{B:APH Bt}(h:Bg d B):fst B 0=true:=by
 have hp:=tP h;have:=(Sn    (by omega) (C1 B _ (AJ  (show 0<(Ax B).length by omega)))).2.1;exact this
theorem kJ(hd:Az d)(hc:CS d c)(hb:Xi c)(h1:Bg d B1)(h2:Bg d B2)(hl:B1.length=B2.length)(BH:cz d B1 B2 (C0 c)) :
    Se (fN B1) (fN B2) (c,()) (fH (SL d c d.length) (SL d c d.length).length)=some (fH (SL d c d.length) (SL d c d.length).length,PP (SL d c d.length) B1 B2 0 (eL B1 B2 (C0 c) B1.length++[B1.length])):=by
 unfold Se;have zh:=h1.1;have hn2:=h1.2.1;have pl:∀{B:APH Bt},Bg d B->(Js c (Ax B) (Ax B).length).length<=20000000/\1<=(Js c (Ax B) (Ax B).length).length:=λ{B} h=>by
  have hlen:=CM (C1 B);rw[Cd]at hlen;have hbl:=h.2.1;have q1:(Js c (Ax B) (Ax B).length).length<=4097*(Ax B).length:=Ws λi hi=>zA hd hc (X5 h (AJ hi)).1 _;refine⟨by omega,?_⟩;have hp:=tP h;have:((Be ((Ax B).take 0):Nat):Int)∈Js c (Ax B) (Ax B).length:=List.mem_flatMap.2 ⟨0,List.mem_range.2 (by omega),AMB⟩;exact List.length_pos_of_mem this
 have p1:=pl h1;have p2:=pl h2;rw[tW hd hc hb h1,AL6,tW hd hc hb h2,AL6,oD p1.2 (by omega) (by omega),AL6,AMo (by rw[AMa];omega),qG h1,AL6];have hu:Np (Qm (Js c (Ax B1) (Ax B1).length++Js c (Ax B2) (Ax B2).length))=(0::eL B1 B2 (C0 c) B1.length).map Int.ofNat:=by
  obtain⟨v1',v2'⟩:=eO (Js c (Ax B1) (Ax B1).length++Js c (Ax B2) (Ax B2).length);refine ZY (λ_ _ h=>h) v1' ?_ λx=>?_
  ·rw[List.pairwise_map,List.pairwise_cons];refine⟨λq hq=>?_,(lK _).imp λ{a b} h=>?_⟩
   ·have:=(ZD.1 hq).2.1;show((0:Nat):Int)<(q:Int);omega
   ·show(a:Int)<(b:Int);omega
  ·rw[v2',ANr,mL hd hc h1,mL hd hc h2,List.mem_map];constructor
   ·intro hx;have:∃p:Nat,x=(p:Int)/\p<B1.length/\fS B1 B2 (C0 c) p=true:=by
     rcases hx with ⟨p,e,hp,hq⟩|⟨p,e,hp,hq⟩
     ·exact⟨p,e,hp,by unfold fS;rw[hq];rfl⟩
     ·exact⟨p,e,by omega,by unfold fS;rw[hq];simp⟩
    obtain⟨p,rfl,hp,hq⟩:=this;refine⟨p,?_,rfl⟩;rcases AMu p with h0 |h0
    ·rw[h0];exact AMB
    ·exact AMy _ (ZD.2 ⟨hp,h0,hq⟩)
   ·rintro⟨p,hp,rfl⟩
    rcases List.mem_cons.1 hp with rfl |hp
    ·exact .inl ⟨0,rfl,by omega,by unfold SG;rw[AFh h1];rfl⟩
    ·obtain⟨q1,q2,q3⟩:=ZD.1 hp;unfold fS at q3;rw[ANp]at q3;rcases q3 with q3 |q3
     ·exact .inl ⟨p,rfl,q1,q3⟩
     ·exact .inr ⟨p,rfl,by omega,q3⟩
 rw[hu];generalize hE:eL B1 B2 (C0 c) B1.length=E;have hEl:E.length<=4096:=by rw[<-hE];have:=wB (B1:=B1) (B2:=B2) (h:=C0 c) B1.length;omega
 have fK:(((0::E).map Int.ofNat)++[(B1.length:Int)]).length=E.length+2:=by simp
 have hw:wI (((((0::E).map Int.ofNat)++[(B1.length:Int)]).length:Int)-1)=((E.length+1:Nat):Int):=A1 (by rw[fK];omega) (by omega);rw[AMo (by simp;omega),hw,AMo ⟨by omega,by omega,by rw[fK];omega⟩,AL7,AOb];have ht:((((0::E).map Int.ofNat)++[(B1.length:Int)]).take (E.length+1))=(0::E).map Int.ofNat:=by
  rw[ANb (by simp)];exact AMg (by simp)
 rw[ht];have wR:(((0::E).map Int.ofNat).length:Int)=((E.length+1:Nat):Int):=by simp
 rw[wR];have sO:P6 (fN B1) (fN B2) (((0::E).map Int.ofNat)++[(B1.length:Int)]) ((0::E).map Int.ofNat) ((E.length+1:Nat):Int) 0 (fH (SL d c d.length) (SL d c d.length).length) []=some (fH (SL d c d.length) (SL d c d.length).length,PP (SL d c d.length) B1 B2 0 (E++[B1.length])):=by
  unfold P6;have:=AU (f:=GA (fN B1) (fN B2) (((0::E).map Int.ofNat)++[(B1.length:Int)]) ((0::E).map Int.ofNat) ((E.length+1:Nat):Int)) (λi=>((i:Int),fH (SL d c d.length) (SL d c d.length).length,PP (SL d c d.length) B1 B2 0 ((E++[B1.length]).take i))) (t:=(fH (SL d c d.length) (SL d c d.length).length,PP (SL d c d.length) B1 B2 0 (E++[B1.length]))) (E.length+1) (λi hi=>?_) ?_
  ·exact this
  ·unfold GA MF;have AJK:(E++[B1.length]).length=E.length+1:=by simp
   obtain⟨p,hp⟩:∃p,p=(E++[B1.length]).getD i 0:=⟨_,rfl⟩;have ka:((0::E).map Int.ofNat).getD i APr.zero=((Nm 0 ((E++[B1.length]).take i):Nat):Int):=by
    match i,hi with
    |0,_=>rfl
    |j+1,hj =>
     have hjE:j<E.length:=by omega
     have e1:((0::E).map Int.ofNat).getD (j+1) APr.zero=((E.getD j 0:Nat):Int):=by simp[List.getD,hjE]
     rw[e1,ANb (by omega),AW (z:=0) hjE];rw[show Nm 0 (E.take j++[E.getD j 0])=E.getD j 0 from List.getLastD_concat]
   have kb:(((0::E).map Int.ofNat)++[(B1.length:Int)]).getD (i+1) APr.zero=(p:Int):=by
    rw[hp];have e1:((0::E).map Int.ofNat)++[(B1.length:Int)]=0::(E++[B1.length]).map Int.ofNat:=by simp
    rw[e1];simp only[List.getD,List.getElem?_cons_succ,AMz];have:(E++[B1.length])[i]?=some ((E++[B1.length])[i]'(by omega)):=ANd (by omega);rw[this];rfl
   have gap:qX B1 B2 (C0 c) (Nm 0 ((E++[B1.length]).take i)) p:=by
    rcases AMh i E.length with Bm |YC
    ·have hpe:p=E[i]:=by rw[hp];simp only[List.getD];rw[AMt Bm,ANd Bm];rfl
     have hm:p∈E:=by rw[hpe];exact AMO Bm
     rw[<-hE]at hm;obtain⟨m1,m2,m3⟩:=ZD.1 hm;have ht2:(E++[B1.length]).take i=eL B1 B2 (C0 c) p:=by
      rw[ANb (by omega),hpe];subst hE;exact oH _ Bm
     rw[ht2];exact ZI m2 (by omega) (.inr m3)
    ·have hie:i=E.length:=by omega
     have hpe:p=B1.length:=by rw[hp,hie];simp[List.getD]
     have ht2:(E++[B1.length]).take i=eL B1 B2 (C0 c) p:=by
      rw[hie,ANb (AMc _),AMg (AMc _),<-hE,hpe]
     rw[ht2];exact ZI (by omega) (by omega) (.inl hpe)
   obtain⟨⟨i1,k1,s1⟩,⟨i2,k2,s2⟩⟩:=VU hd hc h1 h2 hl BH gap;obtain⟨r1,a1,a2,a3⟩:=dW hd h1 s1;obtain⟨r2,b1,b2,b3⟩:=dW hd h2 s2;have hgl:=gap.lt;have AKe:=gap.le;have hwd:wI ((p:Int)-((Nm 0 ((E++[B1.length]).take i):Nat):Int))=((p-Nm 0 ((E++[B1.length]).take i):Nat):Int):=A1;have hi1:wI ((i:Int)+1)=((i+1:Nat):Int):=A1;simp only[hi1,AL7,ka,kb,hwd];have hPl:(PP (SL d c d.length) B1 B2 0 ((E++[B1.length]).take i)).length<=5000:=by rw[nP,AMr];omega
   rw[show decide ((i:Int)<((E.length+1:Nat):Int))=true from LO,AMm,AMi,AMo (Bl (by simp;omega)),AMo (Bl (by simp;omega))];rw[<-AMn,a1,AL6];simp only[a2];rw[<-AMn,b1,AL6,AMo (by simp only[AMa,ANe,ANT];omega)];simp only[b2,a3,b3];rw[AW (z:=0) (by omega),Tp,<-hp];rfl
  ·unfold GA MF;simp only;rw[Fb,AMl,AMg (by simp)]
 rw[sO];rfl
def eX(B1 B2:APH Bt)(h:Nat->Nat->Bool)(p:Nat):AOB:=if p<=B1.length then eL B1 B2 h p else eL B1 B2 h B1.length++[B1.length]
theorem kY(hd:Az d)(hc:CS d c)(h1:Bg d B1)(h2:Bg d B2)(hl:B1.length=B2.length)(BH:cz d B1 B2 (C0 c)) :
    Lq (M d 1 (C0 c)) (NM d (SL d c d.length) (SL d c d.length).length) (SL d c d.length) (bV B1) (W3 (Ax B1)) (bV B2) (W3 (Ax B2)) 0 1 []=some (.inr (PP (SL d c d.length) B1 B2 0 (eL B1 B2 (C0 c) B1.length++[B1.length]))):=by
 unfold Lq;have zh:=h1.1;have hn2:=h1.2.1;have:=AU (f:=D7 (M d 1 (C0 c)) (NM d (SL d c d.length) (SL d c d.length).length) (SL d c d.length) (bV B1) (W3 (Ax B1)) (bV B2) (W3 (Ax B2))) (λj=>(((Nm 0 (eX B1 B2 (C0 c) (j+1)):Nat):Int),((j+1:Nat):Int),PP (SL d c d.length) B1 B2 0 (eX B1 B2 (C0 c) (j+1)))) (t:=.inr (PP (SL d c d.length) B1 B2 0 (eL B1 B2 (C0 c) B1.length++[B1.length]))) B1.length (λj hj=>?_) ?_
 ·have e0:eX B1 B2 (C0 c) (0+1)=[]:=by unfold eX;rw[Vk];exact wC
  simp only[e0]at this;exact this
 ·unfold D7 IP;have eX1:eX B1 B2 (C0 c) (j+1)=eL B1 B2 (C0 c) (j+1):=by unfold eX;rw[Vk]
  have hPl:(PP (SL d c d.length) B1 B2 0 (eL B1 B2 (C0 c) (j+1))).length<=5000:=by rw[nP];have:=wB (B1:=B1) (B2:=B2) (h:=C0 c) (j+1);omega
  simp only[eX1];rw[Dk,show decide (((j+1:Nat):Int)<=(B1.length:Int))=true from LO,AMm];by_cases Ae9:j+1=B1.length\/fS B1 B2 (C0 c) (j+1)=true
  ·have e7:Ew (M d 1 (C0 c)) (NM d (SL d c d.length) (SL d c d.length).length) (SL d c d.length) ((Nm 0 (eL B1 B2 (C0 c) (j+1)):Nat):Int) ((j+1:Nat):Int) (PP (SL d c d.length) B1 B2 0 (eL B1 B2 (C0 c) (j+1))) (bV B1) (W3 (Ax B1)) (bV B2) (W3 (Ax B2))=some (.inr ()):=by
     unfold Ew;rw[Dk];rcases AMh (j+1) B1.length with Bm |YC
     ·have hq:=Ae9.resolve_left (by omega);unfold fS at hq;rw[show decide (((j+1:Nat):Int)<(B1.length:Int))=true from LO,AMm,Rp hd h1 Bm,AL6];cases hA:SG B1 (C0 c) (j+1)with
      |true=>rfl
      |false =>
       rw[hA,AOg]at hq;rw[ANo,AMm,Rp hd h2 (by omega),AL6,hq];rfl
     ·rw[show decide (((j+1:Nat):Int)<(B1.length:Int))=false from IV,AMl]
   have gap:=ZI (B1:=B1) (B2:=B2) (h:=C0 c) (show 1<=j+1 by omega) (by omega) Ae9;obtain⟨⟨i1,k1,s1⟩,⟨i2,k2,s2⟩⟩:=VU hd hc h1 h2 hl BH gap;obtain⟨r1,a1,a2,a3⟩:=eE hd h1 s1;obtain⟨r2,b1,b2,b3⟩:=eE hd h2 s2;have hgl:=gap.lt;have hwd:wI (((j+1:Nat):Int)-((Nm 0 (eL B1 B2 (C0 c) (j+1)):Nat):Int))=((j+1-Nm 0 (eL B1 B2 (C0 c) (j+1)):Nat):Int):=A1;unfold Jd PD;rw[e7,AL6];simp only[AM4];rw[a1,AL6,b1,AL6];simp only[a2,b2,hwd,AMP,Bool.or_false,AMl];rw[AMo (by simp only[AMa,ANe,ANT];omega),AL6];simp only[ANn,a3,b3];have eX2:eX B1 B2 (C0 c) (j+1+1)=eL B1 B2 (C0 c) (j+1)++[j+1]:=by
    unfold eX;rcases AMh (j+1) B1.length with Bm |YC
    ·rw[Vk,aL _ (by omega),AMo (Ae9.resolve_left (by omega))]
    ·rw[OV,show B1.length=j+1 by omega]
   rw[eX2,Tp,A1 (x:=((j+1:Nat):Int)+1) (n:=j+1+1)];have:Nm 0 (eL B1 B2 (C0 c) (j+1)++[j+1])=j+1:=by unfold Nm;simp
   rw[this];rfl
  ·have Afa:j+1<B1.length/\fS B1 B2 (C0 c) (j+1)=false:=by
     rw[not_or]at Ae9;exact⟨by omega,by simpa using Ae9.2⟩
   have hq:=Afa.2;unfold fS at hq;rw[AM8]at hq;have e7:Ew (M d 1 (C0 c)) (NM d (SL d c d.length) (SL d c d.length).length) (SL d c d.length) ((Nm 0 (eL B1 B2 (C0 c) (j+1)):Nat):Int) ((j+1:Nat):Int) (PP (SL d c d.length) B1 B2 0 (eL B1 B2 (C0 c) (j+1))) (bV B1) (W3 (Ax B1)) (bV B2) (W3 (Ax B2))=some (.inl ()):=by
    unfold Ew;rw[Dk,show decide (((j+1:Nat):Int)<(B1.length:Int))=true from LO,AMm,Rp hd h1 Afa.1,AL6,hq.1,ANo,AMm,Rp hd h2 (by omega),AL6,hq.2];rfl
   unfold Jd;rw[e7,AL6];simp only[ANn];rw[AL6];simp only[ANn];have eX2:eX B1 B2 (C0 c) (j+1+1)=eL B1 B2 (C0 c) (j+1):=by
    unfold eX;rw[Vk,aL _ (by omega),Afa.2];rfl
   rw[eX2,A1 (x:=((j+1:Nat):Int)+1) (n:=j+1+1)]
 ·unfold D7 IP;have eX1:eX B1 B2 (C0 c) (B1.length+1)=eL B1 B2 (C0 c) B1.length++[B1.length]:=by unfold eX;rw[OV]
  simp only[eX1];rw[Dk,show decide (((B1.length+1:Nat):Int)<=(B1.length:Int))=false from IV,AMl]
end
theorem Ze{d:AOE}{t:AOH}(hd:Az d)(ht:Hv t):Pl d (t,())=some (BK d t):=by
 unfold Pl;have AFG:=hd.1;rw[LW ht (by omega),AL6];by_cases hw:∃ws,LQ d t ws
 ·obtain⟨ws,h⟩:=hw;have hp:=dE h;rw[IV,AMl,T0 hd ht h];rfl
 ·rw[UA hw,LO,AMm];unfold BK;rw[AMp (λh=>hw h.1)]
section
end
end Go.Proofs.X
namespace Go.Va
open Go.Proofs.X
theorem AsZ{A B:Type}{F:A->Int->APJ Int}{G:B->Int->APJ Int}{x:A}{y:B}{m n:Nat}(hF:∀left:Int,0<=left->left<=1048576->F x left=some (if(m:Int)<=left then left-(m:Int)else -1))(hG:∀left:Int,0<=left->left<=1048576->G y left=some (if(n:Int)<=left then left-(n:Int)else -1)){left:Int}(h0:0<=left)(h1:left<=1048576) :
    ((F x left).bind λc=>bif decide (c<0)then some (-1)else(G y c).bind λd=>bif decide (d<0)then some (-1)else some d)=some (if((m+n:Nat):Int)<=left then left-((m+n:Nat):Int)else -1):=by
 grind
theorem AsY{A:Type}{F:A->Int->APJ Int}{x:A}{m:Nat}(hF:∀left:Int,0<=left->left<=1048576->F x left=some (if(m:Int)<=left then left-(m:Int)else -1)){left:Int}(h0:0<=left)(h1:left<=1048576) :
    ((F x left).bind λc=>bif decide (c<0)then some (-1)else some c)=some (if(m:Int)<=left then left-(m:Int)else -1):=by
 grind
theorem Aku{m:Nat}{left:Int}(h0:0<=left)(h1:left<=1048576)(hn:m<=maxLen):(bif decide ((wI (left-(m:Int)))<0)then(-1)else wI (left-(m:Int)))=if(m:Int)<=left then left-(m:Int)else -1:=by
 unfold maxLen at hn;rw[BX]
 grind
theorem jP{A E:Type}{F:A->APJ E}{mk:E->A}{z z0:A}{r:Int×APH A->APJ ((Int×APH A)⊕APH A)}{a:APH A}
    (hr:∀x,r x=bif decide (x.1<(a.length:Int))then(if(0:Int)<=x.1/\x.1<(a.length:Int)then(F (a.getD x.1.toNat z)).bind λe=>(if(0:Int)<=x.1/\x.1<(x.2.length:Int)then some (.inl (wI (x.1+1),x.2.set x.1.toNat (mk e)))else none)else none)else some (.inr x.2))
    (hn:a.length<=1048576) (hF:∀x∈a,∃e,F x=some e/\mk e=x):fix r (0,List.replicate a.length z0)=some a:=by
 have:=AU (f:=r) (λk=>(k,Go.Proofs.X.CK (λi=>a.getD i z) z0 _ k))  a.length (λk hk=>by
  rw[hr];obtain⟨e,he,hm⟩:=hF (a.getD k z) (by grind);rw[Dy hk,AMm,AMo (Bl hk),AL7,he,AL6,Go.Proofs.X.HG,AMo (Bl hk),hm];rw[show wI _=((k+1:Nat))from Go.Proofs.X.Bj hk hn,Go.Proofs.X.Pb (λi=>a.getD i z) z0]) (by
  rw[hr];rw[Fb,AMl,Go.Proofs.X.iA])
 have h :=this;rw[Go.Proofs.X.LU]at h;exact h
end Go.Va
namespace Go.Proofs.X
open Go Go.Va
set_option maxRecDepth 100000
theorem AbZ{a:AOn}(h:Ty.Wf Ad a):eZ Ad (λx l=>some (Jr x l)) a:=λleft h0 h1=>by
 show some _=_;unfold Jr;rw[Aku h0 h1 h.1];rfl
theorem xL{a:AOE}(h:Ty.Wf (.sl Ad) a):eZ (.sl Ad) Tx a :=
 xM  (r:=Le) (λ_ _=>rfl) (λ_ _=>rfl) h.1 λx hx=>AbZ (h.2 x hx)
theorem AbY{a:AOr}(h:Ty.Wf Ah a):eZ Ah (λx l=>some (Dv x l)) a:=λleft h0 h1=>by
 have hu:=qv h.2.1.1 left h0 h1;have e:wt _ a=wt _ a.2.1:=by show 0+(_+0)=_;omega
 show some _=_;unfold Dv
 grind
theorem xO{a:AOq}(h:Ty.Wf Ag a):eZ Ag (λx l=>some (HX x l)) a:=λleft h0 h1=>by
 have hb:=AbY h.2.2.2.2.1 left h0 h1;have za :=Option.some.inj hb;have hi :=λl h0 h1=>Option.some.inj (uH h.2.2.2.2.2.1.1 l h0 h1);have e:wt _ a=wt _ a.2.2.2.2.1+wt _ a.2.2.2.2.2.1:=by show 0+(0+(0+(0+(_+(_+0)))))=_;omega
 show some _=_;unfold HX
 grind
theorem uI{a:AOH}(h:Ty.Wf (.sl Ag) a):eZ (.sl Ag) RR a :=
 xM  (r:=JO) (λ_ _=>rfl) (λ_ _=>rfl) h.1 λx hx=>xO (h.2 x hx)
theorem YN{a:AOu}(h:Ty.Wf An a):eZ An Mc a:=λleft h0 h1 =>
 AsY   (uI h.1) h0 h1
theorem qu{a:AOp}(h:Ty.Wf Af a):eZ Af Qa a:=λleft h0 h1=>by
 have e:wt _ a=wt _ a.2.2.1+wt _ a.2.2.2.1:=by show 0+(0+(_+(_+0)))=_;omega
 rw[e];exact AsZ   (YN h.2.2.1) (YN h.2.2.2.1) h0 h1
theorem k8{a:AOG}(h:Ty.Wf (.sl Af) a):eZ (.sl Af) Ot a :=
 xM   (λ_ _=>rfl) (λ_ _=>rfl) h.1 λx hx=>qu (h.2 x hx)
theorem xX{t:Ty}(a:APH t.V):a.length<=wt (.sl t) a:=Nat.le_add_right _ _
theorem Ahp{t:Ty}{a:APH t.V}{x:t.V}(h:x∈a):wt t x<=wt (.sl t) a:=by
 show _<=a.length+(a.map _).sum;have:∀l:APH t.V,x∈l->wt t x<=(l.map (wt t)).sum:=λl hl=>by
  induction l with
  |nil=>grind
  |cons y l ih =>
   grind
 have:=this a h;omega
theorem AsN{n:AOq}(hw:Ty.Wf Ag n)(h:wt Ag n<=1048576):Y6 n:=by
 have e:wt _ n=wt (.sl (.int .u64)) (km n)+wt (.sl (.int .i64)) (AL n):=by show 0+(0+(0+(0+((0+(_+0))+(_+0)))))=_;unfold km AL;omega
 rw[e,Ahq,Aho]at h;exact⟨by omega,by omega,Ahn hw.2.2.2.2.1.2.1.2⟩
theorem qy{t:AOu}(hw:Ty.Wf An t)(h:wt An t<=1048576):Hv t.1:=by
 have e:wt _ t=wt _ t.1:=rfl;exact⟨AMA (xX t.1) h,λn hn=>AsN (hw.1.2 n hn) (AMA (Ahp hn) h)⟩
theorem ACW{x:AOp}(hw:Ty.Wf Af x)(h:wt Af x<=1048576):Ht x:=by
 have e:wt _ x=wt _ x.2.2.1+wt _ x.2.2.2.1:=by show 0+(0+(_+(_+0)))=_;omega
 exact⟨qy hw.2.2.1 (by omega),qy hw.2.2.2.1 (by omega)⟩
theorem xS{a:AOE}(h:a.length<=1048576):JQ a=some a:=by
 unfold JQ S4;rw[AMo ⟨rfl,by omega,by omega,by omega,by omega⟩,AL7,jP (r:=Lf a) (F:=λx=>some (UY x)) (mk:=λe=>(e.1,e.2,()))  (λ_=>rfl) h (λx _=>⟨_,rfl,rfl⟩)];rfl
theorem qz{a:AOz}(h:a.length<=1048576):I8 a=some a:=by
 unfold I8 Qc;rw[AMo ⟨rfl,by omega,by omega,by omega,by omega⟩,AL7,jP (r:=IK a)  (mk:=λe=>e)  (λ_=>rfl) h (λx _=>⟨_,rfl,rfl⟩)];rfl
theorem uL{a:AOz}(h:a.length<=1048576):KI a=some a:=by
 unfold KI Ri;rw[AMo ⟨rfl,by omega,by omega,by omega,by omega⟩,AL7,jP (r:=JR a)  (mk:=λe=>e)  (λ_=>rfl) h (λx _=>⟨_,rfl,rfl⟩)];rfl
theorem uM{a:AOH}(h:Hv a):N0 a=some a:=by
 unfold N0 Rj;have hl:=h.1;rw[AMo ⟨rfl,by omega,by omega,by omega,by omega⟩,AL7,jP (r:=JS a) (F:=Qb)   (λ_=>rfl) hl (λx hx=>by
  have hn:=h.2 x hx;unfold Qb UX;rw[show I8 _=some x.2.2.2.2.1.2.1 from qz hn.2.1,show KI _=some x.2.2.2.2.2.1 from uL hn.1];exact⟨_,rfl,rfl⟩)]
 rfl
theorem YP{t:AOu}(h:Hv t.1):Ed t=some t.1:=by
 unfold Ed;rw[uM h];rfl
theorem k9{a:AOG}(hl:a.length<=1048576)(h:∀x∈a,Ht x):FV a=some a:=by
 unfold FV O1;rw[AMo ⟨rfl,by omega,by omega,by omega,by omega⟩,AL7,jP (r:=HY a) (F:=Md)   (λ_=>rfl) hl (λx hx=>by
  unfold Md;rw[YP (h x hx).1,YP (h x hx).2];exact⟨_,rfl,rfl⟩)]
 rfl
end Go.Proofs.X
namespace Go.Va
section
variable {A:Type} {H:Int->A->Int->Prop}
theorem gsS{d:APH A}{i:Nat}{x z:A}(h:i<d.length):(d.set i x).getD i z=x:=by simp[List.getD,h]
end
end Go.Va
namespace Go.Proofs.X
open Go Go.Va
set_option maxRecDepth 100000
theorem w1{b:Int}(h0:0<=b)(h1:b<=2305843009213693952):wI (b+1)=b+1:=BX
end Go.Proofs.X
namespace Go.Proofs.X
open Go Go.Va
set_option maxRecDepth 100000
theorem aP{A:Type}{G:A->A->APJ Bool}{a:A}(h:Xj G a):G a a=some true:=by
 obtain⟨r,hr,hq⟩:=h a;rw[hr,hq.2 rfl]
abbrev gI(l:AOz)(i:Nat):Int:=l.getD i APr.zero
theorem cS{l:AOz}{i j:Nat}{x:Int}(hi:i<l.length):gI (l.set i x) j=if j=i then x else gI l j:=by
 grind
theorem ZH{l:AOz}{x:Int}{j:Nat}:gI (l++[x]) j=if j=l.length then x else gI l j:=by
 grind
structure Fo (ld:AOz) (rt dp:Nat->Nat):Prop where
 up:∀a,a<ld.length->∃b,b<ld.length/\gI ld a=(b:Int)/\rt b=rt a/\(b=a/\rt a=a\/dp b<dp a)
 Xg:∀a,a<ld.length->rt a<ld.length/\rt (rt a)=rt a/\gI ld (rt a)=(rt a:Int)
 out:∀a,ld.length<=a->rt a=a
theorem Fo.half{ld:AOz}{rt dp:Nat->Nat}(h:Fo ld rt dp){a b c:Nat}(ha:a<ld.length)(hb:b<ld.length)(wJ:gI ld a=(b:Int))(Nk:b≠a)(hbc:gI ld b=(c:Int)):Fo (ld.set a (c:Int)) rt dp/\rt c=rt a/\dp c<dp a/\c<ld.length:=by
 obtain⟨b',_,e1,r1,d1⟩:=h.up a ha;have:b'=b:=by omega
 subst this;obtain⟨c',hc,e2,r2,d2⟩:=h.up b' hb;have:c'=c:=by omega
 subst this;have hdc:dp c'<dp a:=by grind
 refine⟨⟨λx hx=>?_,λx hx=>?_,λx hx=>?_⟩,by grind,hdc,hc⟩
 ·rw[AMf]at hx⊢;rw[cS ha];by_cases e:x=a
  ·grind
  ·rw[AMp e];exact h.up x hx
 ·rw[AMf]at hx⊢;obtain⟨t1,t2,t3⟩:=h.Xg x hx
  grind
 ·rw[AMf]at hx;exact h.out x hx
theorem Fo.root{ld:AOz}{rt dp:Nat->Nat}(h:Fo ld rt dp){a:Nat}(ha:a<ld.length)(e:gI ld a=(a:Int)):rt a=a:=by
 obtain⟨b,hb,e1,r1,d1⟩:=h.up a ha
 grind
theorem Fo.add{ld:AOz}{rt dp:Nat->Nat}(h:Fo ld rt dp):Fo (ld++[(ld.length:Int)]) rt dp:=by
 refine⟨λx hx=>?_,λx hx=>?_,λx hx=>?_⟩
 ·rw[AMa,AMq]at hx⊢;rw[ZH];by_cases e:x=ld.length
  ·subst e;exact⟨ld.length,by omega,by grind,rfl,.inl ⟨rfl,h.out _ (AMc _)⟩⟩
  ·rw[AMp e];obtain⟨b,hb,e1,r1,d1⟩:=h.up x (by omega);exact⟨b,by omega,e1,r1,d1⟩
 ·rw[AMa,AMq]at hx⊢;by_cases e:x=ld.length
  ·have:=h.out x (by omega)
   grind
  ·obtain⟨t1,t2,t3⟩:=h.Xg x (by omega)
   grind
 ·rw[AMa]at hx;exact h.out x (by omega)
def bh(rt:Nat->Nat)(x y a:Nat):Nat:=if rt a=y then x else rt a
theorem Fo.join{ld:AOz}{rt dp:Nat->Nat}(h:Fo ld rt dp){x y:Nat}(hx:x<ld.length)(hy:y<ld.length)(rx:rt x=x)(ry:rt y=y)(Nk:x≠y):∃dp',Fo (ld.set y (x:Int)) (bh rt x y) dp':=by
 have gx :=by have:=(h.Xg x hx).2.2;rw[rx]at this;exact this
 refine⟨λa=>if rt a=y then dp a+dp x+1 else dp a,⟨λa ha=>?_,λa ha=>?_,λa ha=>?_⟩⟩
 ·rw[AMf]at ha⊢;rw[cS hy];by_cases e:a=y
  ·subst e;refine⟨x,hx,by grind,?_,.inr ?_⟩
   ·simp only[bh,rx,AMR];split<;>rfl
   ·grind
  ·rw[AMp e];obtain⟨b,hb,e1,r1,d1⟩:=h.up a ha;refine⟨b,hb,e1,by simp only[bh,r1],?_⟩;simp only[bh,r1]
   grind
 ·rw[AMf]at ha⊢;obtain⟨t1,t2,t3⟩:=h.Xg a ha;by_cases e:rt a=y
  ·have:bh rt x y a=x:=by simp[bh,e]
   rw[this];refine⟨hx,by simp[bh,rx],?_⟩;rw[cS hy,AMp Nk];exact gx
  ·have:bh rt x y a=rt a:=by simp[bh,e]
   rw[this];refine⟨t1,by simp[bh,t2,e],?_⟩;rw[cS hy,AMp e];exact t3
 ·rw[AMf]at ha;have:=h.out a ha;simp only[bh,this];rw[OV]
theorem Fo.Z3{ld:AOz}{rt dp:Nat->Nat}(h:Fo ld rt dp)(a:Nat):rt (rt a)=rt a:=by
 rcases AMh a _ with ha |ha
 ·exact(h.Xg a ha).2.1
 ·rw[h.out a ha,h.out a ha]
theorem bj{rt:Nat->Nat}(hr:∀a,rt (rt a)=rt a){x y:Nat}(rx:rt x=x)(ry:rt y=y)(a b:Nat):bh rt x y a=bh rt x y b↔rt a=rt b\/(rt a=x/\rt b=y)\/(rt a=y/\rt b=x):=by
 simp only[bh];split<;>split<;>omega
def nK(rt:Nat->Nat)(ns n r:Nat)(v:Int):Prop:=(v=-1/\∀j,ns<=j->j<n->rt j≠r)\/∃j:Nat,v=(j:Int)/\ns<=j/\j<n/\rt j=r/\∀i,ns<=i->i<j->rt i≠r
theorem nK.uniq{rt:Nat->Nat}{ns n r:Nat}{v w:Int}(h:nK rt ns n r v)(k:nK rt ns n r w):v=w:=by
 rcases h with ⟨rfl,h⟩|⟨i,rfl,h1,h2,h3,h4⟩<;>rcases k with ⟨rfl,k⟩|⟨j,rfl,k1,k2,k3,k4⟩
 ·rfl
 ·grind
 ·grind
 grind
theorem nK.ge{rt:Nat->Nat}{ns n r:Nat}{v:Int}(h:nK rt ns n r v):-1<=v/\v<(n:Int):=by
 rcases h with ⟨rfl,h⟩|⟨i,rfl,h1,h2,h3,h4⟩<;>omega
theorem nK.join{rt:Nat->Nat}{ns n x y:Nat}{v w:Int}(Nk:x≠y)(h:nK rt ns n x v)(k:nK rt ns n y w):nK (bh rt x y) ns n x (if 0<=v/\0<=w then min v w else max v w):=by
 rcases h with ⟨rfl,h⟩|⟨i,rfl,h1,h2,h3,h4⟩<;>rcases k with ⟨rfl,k⟩|⟨j,rfl,k1,k2,k3,k4⟩
 ·refine .inl ⟨rfl,λq q1 q2=>?_⟩;have:=h q q1 q2;have:=k q q1 q2;simp only[bh];split<;>omega
 ·refine .inr ⟨j,by omega,k1,k2,by simp[bh,k3],λq q1 q2=>?_⟩;have:=h q q1 (by omega);have:=k4 q q1 q2;simp only[bh];split<;>omega
 ·refine .inr ⟨i,by omega,h1,h2,by simp only[bh,h3];split<;>rfl,λq q1 q2=>?_⟩;have:=k q q1 (by omega);have:=h4 q q1 q2;simp only[bh];split<;>omega
 ·by_cases sK:i<=j
  ·refine .inr ⟨i,by omega,h1,h2,by simp only[bh,h3];split<;>rfl,λq q1 q2=>?_⟩;have:=k4 q q1 (by omega);have:=h4 q q1 q2;simp only[bh];split<;>omega
  ·refine .inr ⟨j,by omega,k1,k2,by simp[bh,k3],λq q1 q2=>?_⟩;have:=k4 q q1 q2;have:=h4 q q1 (by omega);simp only[bh];split<;>omega
theorem nK.other{rt:Nat->Nat}{ns n x y r:Nat}{v:Int}(hx:r≠x)(hy:r≠y)(h:nK rt ns n r v):nK (bh rt x y) ns n r v:=by
 have e:∀q,bh rt x y q=r↔rt q=r:=λq=>by simp only[bh];split<;>omega
 rcases h with ⟨rfl,h⟩|⟨i,rfl,h1,h2,h3,h4⟩
 ·exact .inl ⟨rfl,λq q1 q2=>by grind⟩
 ·exact .inr ⟨i,rfl,h1,h2,(e i).2 h3,λq q1 q2=>by grind⟩
theorem nK.add{rt:Nat->Nat}{ns n r:Nat}{v:Int}(hn:rt n=n)(hr:r<n)(h:nK rt ns n r v):nK rt ns (n+1) r v:=by
 rcases h with ⟨rfl,h⟩|⟨i,rfl,h1,h2,h3,h4⟩
 ·refine .inl ⟨rfl,λq q1 q2=>?_⟩
  grind
 ·exact .inr ⟨i,rfl,h1,by omega,h3,h4⟩
inductive Cn (ls:AOD):Int->Int->Prop
 |refl (a:Int):Cn ls a a
 |oY {a:Int} {l:AOm}:l∈ls->Cn ls a l.1->Cn ls a l.2.1
 |bwd {a:Int} {l:AOm}:l∈ls->Cn ls a l.2.1->Cn ls a l.1
theorem Cn.trans{ls:AOD}{a b c:Int}(h:Cn ls a b)(k:Cn ls b c):Cn ls a c:=by
 induction k with
 |refl=>grind
 |oY m _ ih=>exact .oY m ih
 |bwd m _ ih=>exact .bwd m ih
theorem Cn.symm{ls:AOD}{a b:Int}(h:Cn ls a b):Cn ls b a:=by
 induction h with
 |refl=>exact .refl _
 |oY m _ ih=>exact(Cn.bwd m (.refl _)).trans ih
 |bwd m _ ih=>exact(Cn.oY m (.refl _)).trans ih
theorem Cn.mono{ls ms:AOD}(hm:∀l∈ls,l∈ms){a b:Int}(h:Cn ls a b):Cn ms a b:=by
 induction h with
 |refl=>exact .refl _
 |oY m _ ih=>exact .oY (hm _ m) ih
 |bwd m _ ih=>exact .bwd (hm _ m) ih
theorem oQ{ld:AOz}{rt dp:Nat->Nat}(h:Fo ld rt dp){j:Nat}(hj:j<ld.length)(a:Int)(fx:AOz)(vm:APH AOS)(ls:AOD) :
    Ay (Ep a (j:Int) ld fx vm ls) λr=>∃eh,r=(((rt j:Nat):Int),eh,fx,vm,ls)/\eh.length=ld.length/\Fo eh rt dp:=by
 unfold Ep NA;refine Ay.bind (P:=λq:Int×AOz=>∃eh,q=(((rt j:Nat):Int),eh)/\eh.length=ld.length/\Fo eh rt dp) ?_ λq hq=>?_
 ·refine Bu (λm (s:Int×AOz)=>∃k:Nat,s.1=(k:Int)/\k<s.2.length/\s.2.length=ld.length/\Fo s.2 rt dp/\rt k=rt j/\m=dp k) (λm s hI=>?_) (dp j) ((j:Int),ld) ⟨j,rfl,hj,rfl,h,rfl,rfl⟩;obtain⟨k,e,hk,hl,hf,hr,rfl⟩:=hI;obtain⟨g,l⟩:=s;simp only at e hk hl hf;subst e;unfold Ho KX;simp only[AL7];obtain⟨b,hb,e1,r1,d1⟩:=hf.up k hk;obtain⟨c,hc,e2,r2,d2⟩:=hf.up b hb;have g1:l.getD k APr.zero=(b:Int):=e1;have g2:l.getD b APr.zero=(c:Int):=e2;rw[AMo (Bl hk),g1];by_cases hbk:b=k
  ·subst hbk;rw[ANG,AMl];exact Ay.mk ⟨l,by rw[<-hr,hf.root hk e1],hl,hf⟩
  ·have Nk:(((b:Nat):Int) !=((k:Nat):Int))=true:=by rw[ANy];omega
   obtain⟨f1,f2,f3,f4⟩:=hf.half hk hb e1 hbk e2;have g3:(l.set k (c:Int)).getD k APr.zero=(c:Int):=by have:=cS (j:=k) (x:=(c:Int)) hk;rw[AMo rfl]at this;exact this
   simp only[AL7,g2,g3,Nk,AMm,AMf,AMo (Bl hk),AMo (Bl hb)];exact Ay.mk ⟨dp c,f3,c,rfl,by rw[AMf];exact f4,by rw[AMf];exact hl,f1,by rw[f2,hr],rfl⟩
 ·obtain⟨eh,rfl,h1,h2⟩:=hq;exact Ay.mk ⟨eh,rfl,h1,h2⟩
theorem iC{rt:Nat->Nat}{ns:Nat}{vs:AOI}{Bq:AOz}(hv:vs.length=Bq.length)(hl:∀i j,i<Bq.length->j<Bq.length->(gI Bq i=gI Bq j↔rt i=rt j))(hw:∀i,i<Bq.length->((vs.getD i Ah.zero).1>0↔ns<=i))(hn:Bq.length<=4194304){b:Nat}(hb:b<Bq.length)(a:Int)(ls:AOD) :
    Ay (EE a (b:Int) vs ls Bq) λr=>∃v,r=(v,vs,ls,Bq)/\nK rt ns Bq.length (rt b) v:=by
 unfold EE NF;refine Ay.bind (P:=λq:Int⊕Unit=>(∃v,q=.inl v/\nK rt ns Bq.length (rt b) v)\/(q=.inr ()/\nK rt ns Bq.length (rt b) (-1))) ?_ λq hq=>?_
 ·refine Bu (λm (s:Int)=>∃k:Nat,s=(k:Int)/\k<=Bq.length/\m=Bq.length-k/\∀i,ns<=i->i<k->rt i≠rt b) (λm s hI=>?_) Bq.length 0 ⟨0,rfl,AMS _,rfl,λi _ h=>absurd h (by omega)⟩;obtain⟨k,rfl,hk,rfl,VF⟩:=hI;unfold Hs KY IQ;rcases AMh k Bq.length with Bm |YC
  ·rw[Dy Bm,AMm];simp only[AL7];rw[AMo (Bl Bm),AMo (Bl hb)];have hE:=hl k b Bm hb;have Alv:(∀i,ns<=i->i<k+1->rt i≠rt b)->∃m,m<Bq.length-k/\∃k':Nat,wI ((k:Int)+1)=(k':Int)/\k'<=Bq.length/\m=Bq.length-k'/\∀i,ns<=i->i<k'->rt i≠rt b:=λhn' =>
    ⟨Bq.length-(k+1),by omega,k+1,A1,by omega,rfl,hn'⟩
   by_cases e:gI Bq k=gI Bq b
   ·have e':(Bq.getD k APr.zero==Bq.getD b APr.zero)=true:=by rw[ANf];exact e
    rw[e',AMm,AMo (show(0:Int)<=(k:Int)/\(k:Int)<(vs.length:Int) by omega),AL6];by_cases hp:ns<=k
    ·rw[AMb ((hw k Bm).2 hp),AMm];exact Ay.mk (.inl ⟨k,rfl,.inr ⟨k,rfl,hp,Bm,hE.1 e,λi h1 h2=>VF i h1 h2⟩⟩)
    ·rw[AL9 λx=>hp ((hw k Bm).1 x),AMl];exact Ay.mk (Alv λi h1 h2=>by
      by_cases h3:i=k
      ·omega
      ·exact VF i h1 (by omega))
   ·have e':(Bq.getD k APr.zero==Bq.getD b APr.zero)=false:=by rw[ANJ];exact e
    rw[e',AMl,AL6,AMl];exact Ay.mk (Alv λi h1 h2=>by
     by_cases h3:i=k
     ·subst h3;exact λx=>e (hE.2 x)
     ·exact VF i h1 (by omega))
  ·have:k=Bq.length:=by omega
   subst this;rw[Fb,AMl];exact Ay.mk (.inr ⟨rfl,.inl ⟨rfl,λj h1 h2=>VF j h1 h2⟩⟩)
 ·rcases hq with ⟨v,rfl,hv⟩|⟨rfl,hv⟩
  ·exact Ay.mk ⟨v,rfl,hv⟩
  ·exact Ay.mk ⟨-1,rfl,hv⟩
theorem AfY{Bq:AOz}{i j:Nat}(hi:i<Bq.length)(hj:j<Bq.length)(hn:Bq.length<=4194304) :
    Nf (i:Int) (j:Int) Bq=some (Bq.map λx=>if x=max (gI Bq i) (gI Bq j)then min (gI Bq i) (gI Bq j)else x):=by
 unfold Nf;simp only[AL7];rw[AMo (Bl hi),AMo (Bl hj),AMo (Bl hi),AMo (Bl hj)];generalize hx:(if Bq.getD j APr.zero<Bq.getD i APr.zero then Bq.getD j APr.zero else Bq.getD i APr.zero)=x;generalize hy:(if Bq.getD j APr.zero>Bq.getD i APr.zero then Bq.getD j APr.zero else Bq.getD i APr.zero)=y;have tf:x=min (gI Bq i) (gI Bq j):=by rw[<-hx];unfold gI;split<;>omega
 have fQ:y=max (gI Bq i) (gI Bq j):=by rw[<-hy];unfold gI;split<;>omega
 rw[<-tf,<-fQ];unfold Tg;have:=AU (f:=FP x y) (λk=>((k:Int),(Bq.take k).map (λz=>if z=y then x else z)++Bq.drop k)) (t:=Bq.map λz=>if z=y then x else z) Bq.length (λk hk=>?_) ?_
 ·simp only[ANZ,AN0,ANk,AOb]at this;exact(congrArg (λo=>Option.bind o λc=>some c) this).trans rfl
 ·unfold FP LL OQ;have hlen:((Bq.take k).map (λz=>if z=y then x else z)++Bq.drop k).length=Bq.length:=by simp;omega
  have hg:((Bq.take k).map (λz=>if z=y then x else z)++Bq.drop k).getD k APr.zero=Bq.getD k APr.zero:=by
   have:((Bq.take k).map (λz=>if z=y then x else z)).length=k:=by simp;omega
   rw[List.getD_eq_getElem?_getD,AMs (by omega),this,Nat.sub_self,AN6,AOa,List.getD_eq_getElem?_getD]
  have hs:∀v,((Bq.take k).map (λz=>if z=y then x else z)++Bq.drop k).set k v=(Bq.take k).map (λz=>if z=y then x else z)++v::Bq.drop (k+1):=λv=>by
   have h1:((Bq.take k).map (λz=>if z=y then x else z)).length=k:=by simp;omega
   rw[ANX hk,ANs _ _ (by omega),h1,Nat.sub_self,List.set_cons_zero]
  have ht:∀v,v=(if Bq.getD k APr.zero=y then x else Bq.getD k APr.zero)->(Bq.take k).map (λz=>if z=y then x else z)++v::Bq.drop (k+1)=(Bq.take (k+1)).map (λz=>if z=y then x else z)++Bq.drop (k+1):=λv hv=>by
   have e:Bq.getD k APr.zero=Bq[k]:=by simp[List.getD,hk]
   rw[AM6 hk,AMQ,hv,e];simp
  simp only[AL7,hlen];rw[Dy hk,AMm,AMo (Bl hk),hg];by_cases e:Bq.getD k APr.zero=y
  ·have e':(Bq.getD k APr.zero==y)=true:=by rw[ANf];exact e
   rw[e',AMm,AMo (Bl hk),AL6,hs,ht x (by rw[AMo e])];rw[A1 (n:=k+1)]
  ·have e':(Bq.getD k APr.zero==y)=false:=by rw[ANJ];exact e
   have XN:(Bq.take k).map (λz=>if z=y then x else z)++Bq.drop k=(Bq.take (k+1)).map (λz=>if z=y then x else z)++Bq.drop (k+1):=by
    rw[<-ht (Bq.getD k APr.zero) (by rw[AMp e]),ANX hk];simp[List.getD,hk]
   rw[e',AMl,AL6,XN,A1 (n:=k+1)]
 ·unfold FP LL;simp only[ANM,List.drop_length,AML,AMi];rw[Fb,AMl]
theorem w5(x y:Int):Bd APr x y=true↔x=y:=by simp[Bd]
theorem l7(x:Int):Bd APr x x=true:=(w5 x x).2 rfl
theorem Rk{vt:Ty}(k k':Int)(v:vt.V)(es:APH (Int×vt.V)):Bn APr vt (Ch APr vt es k v) k'=if k'=k then v else Bn APr vt es k':=by
 have h:=df (kt:=.int .i64)  w5 k k' v es;refine h.trans ?_;by_cases e:k'=k
 ·rw[AMo e,(w5 _ _).2 e];rfl
 ·rw[AMp e,show Bd APr k' k=false from Bool.eq_false_iff.2 λx=>e ((w5 _ _).1 x)];rfl
theorem V6{vt:Ty}(k k':Int)(v:vt.V)(es:APH (Int×vt.V)):S5 APr vt (Ch APr vt es k v) k'=(decide (k'=k)||S5 APr vt es k'):=by
 have h:=WB (kt:=.int .i64)  w5 k k' v es;unfold S5;rw[h];by_cases e:k'=k
 ·rw[AMb e,(w5 _ _).2 e];rfl
 ·rw[AL9 e,show Bd APr k' k=false from Bool.eq_false_iff.2 λx=>e ((w5 _ _).1 x)];rfl
abbrev LM:Type:=List AOX
abbrev mq(c:LM)(x:Int):AOD:=Bn APr APA c x
def wh(c:LM)(k:Int)(y:AOm):LM:=Ch APr APA c k (mq c k++[y])
theorem PG{c:LM}{k x:Int}{y e:AOm}:e∈mq (wh c k y) x↔e∈mq c x\/(x=k/\e=y):=by
 unfold mq wh;rw[Rk ]
 grind
theorem gC{c:LM}{k x:Int}{y:AOm}:(mq (wh c k y) x).length<=(mq c x).length+1:=by
 unfold mq wh;rw[Rk ]
 grind
structure Bsd (v:AOD) (N k:Nat) (c:LM):Prop where
 AZ:∀x e,e∈mq c x->e.1=x/\0<=e.2.1/\e.2.1<(N:Int)
 all:∀q,q<k->(∃e∈mq c (v.getD q Ab.zero).1,e.2.1=(v.getD q Ab.zero).2.1)/\∃e∈mq c (v.getD q Ab.zero).2.1,e.2.1=(v.getD q Ab.zero).1
 len:∀x,(mq c x).length<=2*k
theorem Aav{v:AOD}{N:Nat}(hv:v.length<=4194304)(hb:∀l∈v,(0<=l.1/\l.1<(N:Int))/\0<=l.2.1/\l.2.1<(N:Int))(a g:Int):Ay (Vo a g v (v.length:Int) 0 []) (Bsd v N v.length):=by
 refine Bu (λm (s:Int×LM)=>∃k:Nat,s.1=(k:Int)/\k<=v.length/\m=v.length-k/\Bsd v N k s.2) (λm s hI=>?_) v.length (0,[]) ⟨0,rfl,AMS _,rfl,⟨λx e h=>(by cases h),λq h=>(by omega),λx=>AMc _⟩⟩;obtain⟨k,e,hk,rfl,hB⟩:=hI;obtain⟨x,c⟩:=s;simp only at e hB;subst e;unfold Ol SY;simp only[AL7];rcases AMh k v.length with Bm |YC
 ·rw[Dy Bm,AMm,AMo (Bl Bm)];generalize hl:v.getD k Ab.zero=l;have hm:l∈v:=by grind
  obtain⟨hA,hB'⟩:=hb l hm;unfold RJ RL;have l1:=hB.len l.1;have l2:=gC (c:=c) (k:=l.1) (x:=l.2.1) (y:=l);have l3:=hB.len l.2.1;rw[AMo (show((Bn APr APA c l.1).length+([l]:AOD).length)*24<=140737488355328 by grind),l7,AMm,AL6];rw[AMo (show((Bn APr APA (Ch APr APA c l.1 (Bn APr APA c l.1++[l])) l.2.1).length+([(l.2.1,l.1,l.2.2.1,())]:AOD).length)*24<=140737488355328 by
   rw[AMq];have:(Bn APr APA (Ch APr APA c l.1 (Bn APr APA c l.1++[l])) l.2.1).length<=(mq c l.2.1).length+1:=l2;omega),l7,AMm]
  refine Ay.mk ⟨v.length-(k+1),by omega,k+1,A1,by omega,rfl,?_⟩;show Bsd v N (k+1) (wh (wh c l.1 l) l.2.1 (l.2.1,l.1,l.2.2.1,()));refine⟨λx e h=>?_,λq hq=>?_,λx=>?_⟩
  ·rcases PG.1 h with h |⟨rfl,rfl⟩
   ·rcases PG.1 h with h |⟨rfl,rfl⟩
    ·exact hB.AZ x e h
    ·grind
   ·grind
  ·by_cases e:q=k
   ·subst e;rw[hl];exact⟨⟨l,PG.2 (.inl (PG.2 (.inr ⟨rfl,rfl⟩))),rfl⟩,⟨_,PG.2 (.inr ⟨rfl,rfl⟩),rfl⟩⟩
   ·obtain⟨⟨e1,h1,h2⟩,e2,h3,h4⟩:=hB.all q (by omega);exact⟨⟨e1,PG.2 (.inl (PG.2 (.inl h1))),h2⟩,e2,PG.2 (.inl (PG.2 (.inl h3))),h4⟩
  ·have a1:=gC (c:=wh c l.1 l) (k:=l.2.1) (x:=x) (y:=(l.2.1,l.1,l.2.2.1,()));have a2:=gC (c:=c) (k:=l.1) (x:=x) (y:=l);have a3:=hB.len x;omega
 ·have:k=v.length:=by omega
  subst this;rw[Fb];exact Ay.mk hB
theorem mG:∀(N:Nat) (l:AOz),l.Nodup->(∀x∈l,0<=x/\x<(N:Int))->l.length<=N
 |0,l,_,h=>by
  cases l with
  |nil=>grind
  |cons x l=>have:=h x AMB;omega
 |N+1,l,hn,h=>by
  have:=mG N (l.erase N) (hn.erase _) λx hx=>by
   grind
  grind
abbrev FMp:Type:=List AO0
abbrev hsF(t:FMp)(x:Int):Bool:=S5 APr Ab t x
abbrev mgF(t:FMp)(x:Int):AOm:=Bn APr Ab t x
structure Met (N:Nat) (a:Int) (t:FMp) (ms:AOz):Prop where
 nd:ms.Nodup
 bd:∀x∈ms,0<=x/\x<(N:Int)
 fst:gI ms 0=a/\0<ms.length
 has:∀x,hsF t x=true↔x∈ms
 back:∀k,1<=k->k<ms.length->∃k',k'<k/\(mgF t (gI ms k)).1=gI ms k'
theorem Met.len{N:Nat}{a:Int}{t:FMp}{ms:AOz}(h:Met N a t ms):ms.length<=N:=mG N ms h.nd h.bd
theorem Met.add{N:Nat}{a:Int}{t:FMp}{ms:AOz}(h:Met N a t ms){e:AOm}(he:0<=e.2.1/\e.2.1<(N:Int))(VF:hsF t e.2.1=false){p:Nat}(hp:p<ms.length)(h1:e.1=gI ms p):Met N a (Ch APr Ab t e.2.1 e) (ms++[e.2.1]):=by
 have hnm:e.2.1∉ms:=λx=>by rw[(h.has _).2 x]at VF;cases VF
 have hg:∀k,k<ms.length->gI (ms++[e.2.1]) k=gI ms k:=λk hk=>by grind
 refine⟨?_,λx hx=>?_,⟨?_,by simp⟩,λx=>?_,λk k1 k2=>?_⟩
 ·rw[AN9];exact⟨h.nd,by simp,λx hx y hy e'=>by grind⟩
 ·rcases List.mem_append.1 hx with hx |hx
  ·exact h.bd x hx
  grind
 ·rw[hg 0 h.fst.2];exact h.fst.1
 ·unfold hsF;rw[V6 (vt:=Ab),ANp,ANQ,ANr,AMx,<-h.has x];exact Or.comm
 ·rw[AMa,AMq]at k2;unfold mgF;by_cases hk:k=ms.length
  ·subst hk;have e1:gI (ms++[e.2.1]) ms.length=e.2.1:=by grind
   exact⟨p,hp,by rw[e1,Rk (vt:=Ab),AMo rfl,hg p hp];exact h1⟩
  ·obtain⟨k',h2,h3⟩:=h.back k k1 (by omega);refine⟨k',h2,?_⟩;have Nk:gI ms k≠e.2.1:=λx=>hnm (by grind);rw[hg k (by omega),hg k' (by omega),Rk (vt:=Ab),AMp Nk];exact h3
structure Ax3 (N:Nat) (a:Int) (c:LM) (p:Nat) (t:FMp) (u ms:AOz):Prop where
 met:Met N a t ms
 le:p<=ms.length
 todo:u=ms.drop p
 done:∀q,q<p->∀e∈mq c (gI ms q),e.2.1∈ms
theorem AfG{N p:Nat}{a g:Int}{c:LM}{v:AOD}(hN:N<=4194304)(hB:Bsd v N v.length c)(hv:v.length<=4194304){t:FMp}{ms:AOz}(hM:Met N a t ms)(hp:p<ms.length)(hd:∀q,q<p->∀e∈mq c (gI ms q),e.2.1∈ms) :
    Ay (Vp a g c (mq c (gI ms p)) ((mq c (gI ms p)).length:Int) 0 t (ms.drop (p+1))) λr=>∃pR,Ax3 N a c (p+1) r.1 r.2 pR:=by
 generalize hj:mq c (gI ms p)=j;have cw:j.length<=2*v.length:=by rw[<-hj];exact hB.len _
 refine Bu (λm (s:Int×FMp×AOz)=>∃(n:Nat) (pR:AOz),s.1=(n:Int)/\n<=j.length/\m=j.length-n/\Met N a s.2.1 pR/\p<pR.length/\gI pR p=gI ms p/\s.2.2=pR.drop (p+1)/\(∀q,q<p->∀e∈mq c (gI pR q),e.2.1∈pR)/\∀q,q<n->(j.getD q Ab.zero).2.1∈pR) (λm s hI=>?_) j.length (0,t,ms.drop (p+1)) ⟨0,ms,rfl,AMS _,rfl,hM,hp,rfl,rfl,hd,λq h=>by omega⟩;obtain⟨n,pR,e1,hn,rfl,hM',hp',hgp,e2,hd',wK⟩:=hI;obtain⟨x,t',u'⟩:=s;subst e1;subst e2;unfold Om SZ;have wR:=hM'.len;rcases AMh n j.length with Bm |YC
 ·rw[Dy Bm];unfold RN;simp only[AL7];rw[AMo (Bl Bm)];generalize he:j.getD n Ab.zero=e;have hm:e∈mq c (gI ms p):=by grind
  obtain⟨b1,b2⟩:=hB.AZ _ _ hm;have hw:wI ((n:Int)+1)=((n+1:Nat):Int):=A1;cases hh:S5 APr Ab t' e.2.1 with
  |true =>
   refine Ay.mk ⟨j.length-(n+1),by omega,n+1,pR,hw,by omega,rfl,hM',hp',hgp,rfl,hd',λq hq=>?_⟩;by_cases h:q=n
   ·subst h;rw[he];exact(hM'.has _).1 hh
   ·grind
  |false =>
   simp only[ANo,AMm];rw[AMb (show((pR.drop (p+1)).length+([e.2.1]:AOz).length)*8<=140737488355328 by grind),AMm];have hg:∀k,k<pR.length->gI (pR++[e.2.1]) k=gI pR k:=λk hk=>by grind
   refine Ay.mk ⟨j.length-(n+1),by omega,n+1,pR++[e.2.1],hw,by omega,rfl,hM'.add b2 hh hp' (by grind),by grind,by grind,?_,λq hq e' he'=>?_,λq hq=>?_⟩
   ·grind
   ·grind
   ·by_cases h:q=n
    ·subst h;rw[he];simp
    ·exact AME _ (wK q (by omega))
 ·have:n=j.length:=by omega
  subst this;rw[Fb];refine Ay.mk ⟨pR,hM',by omega,rfl,λq hq e he=>?_⟩;by_cases h:q=p
  ·subst h;rw[hgp,hj]at he;obtain⟨i,hi,h2⟩:=List.mem_iff_getElem.1 he;have:=wK i hi;rwa [show j.getD i Ab.zero=e by rw[<-h2];simp[hi]]at this
  ·grind
theorem AbC{N:Nat}{a g:Int}{c:LM}{v:AOD}(hN:N<=4194304)(hB:Bsd v N v.length c)(hv:v.length<=4194304)(ha:0<=a/\a<(N:Int)) :
    Ay (Vq a g c (Ch APr Ab ([]:FMp) a (a,a,0,())) [a]) λt=>∃ms,Met N a t ms/\∀q,q<ms.length->∀e∈mq c (gI ms q),e.2.1∈ms:=by
 have h0:Met N a (Ch APr _ [] a (a,a,0,())) [a]:=by
  refine⟨by simp,λx hx=>by grind,⟨rfl,by simp⟩,λx=>?_,λk k1 k2=>by grind⟩;unfold hsF;rw[V6 ];simp[S5,N4]
 refine Bu (λm s=>∃p ms,Ax3 N a c p s.1 s.2 ms/\m=N-p) (λm s hI=>?_) N _ ⟨0,[a],⟨h0,by simp,rfl,λq h=>by omega⟩,rfl⟩;obtain⟨p,ms,hS,rfl⟩:=hI;obtain⟨t,u⟩:=s;have hu :=hS.todo;subst hu;unfold On S0;rcases AMh p ms.length with Bm |YC
 ·have hlen:(ms.drop p).length=ms.length-p:=AMG;rw[AMb (show((ms.drop p).length:Int)>0 by omega),AMb (show 1<=((ms.drop p).length:Int) by omega)];have e0:(ms.drop p).getD 0 APr.zero=gI ms p:=by grind
  have e1:(ms.drop p).drop 1=ms.drop (p+1):=by rw[List.drop_drop]
  rw[e0,e1];refine(AfG  hN hB hv hS.met Bm hS.done).bind λr hr=>?_;obtain⟨pR,hS'⟩:=hr;have:=hS'.le;have:=hS'.met.len;exact Ay.mk ⟨N-(p+1),by omega,p+1,pR,hS',rfl⟩
 ·have:p=ms.length:=by have:=hS.le;omega
  subst this;rw[AL9 (by simp)];exact Ay.mk ⟨ms,hS.met,hS.done⟩
theorem As5{v:AOD}{N:Nat}(hN:N<=4194304)(hv:v.length<=4194304)(hb:∀l∈v,(0<=l.1/\l.1<(N:Int))/\0<=l.2.1/\l.2.1<(N:Int)){a g:Int}(ha:0<=a/\a<(N:Int))(Nk:g≠a)(hc:Cn v a g):Ay (Wy v a g) λr=>r≠[]:=by
 refine(Aav hv hb a g).bind λc hB=>?_;refine(AbC (g:=g) hN hB hv ha).bind λt ht=>?_;obtain⟨ms,hM,HQ⟩:=ht;have wR:=hM.len;have pd:∀{x},x∈ms->∃k,k<ms.length/\gI ms k=x:=λ{x} hx=>by
  obtain⟨k,hk,e⟩:=List.mem_iff_getElem.1 hx;exact⟨k,hk,by grind⟩
 have FR:∀{x},Cn v a x->x∈ms:=λ{x} h=>by
  induction h with
  |refl=>rw[<-hM.fst.1];exact AJ hM.fst.2
  |oY hl _ ih =>
   obtain⟨k,hk,e⟩:=pd ih;obtain⟨q,hq,e2⟩:=List.mem_iff_getElem.1 hl;obtain⟨⟨x,x1,x2⟩,_⟩:=hB.all q hq
   grind
  |bwd hl _ ih =>
   obtain⟨k,hk,e⟩:=pd ih;obtain⟨q,hq,e2⟩:=List.mem_iff_getElem.1 hl;obtain⟨_,⟨x,x1,x2⟩⟩:=hB.all q hq
   grind
 obtain⟨k0,hk0,e0⟩:=pd (FR hc);refine Ay.bind (P:=λe:AOz=>e≠[]/\e.length<=N) ?_ λe he=>?_
 ·refine Bu (λm (s:Int×AOz)=>∃k,k<ms.length/\gI ms k=s.1/\m=k/\s.2.length+k<=k0/\(s.1=g/\s.2=[]\/s.2≠[])) (λm s hI=>?_) k0 (g,[]) ⟨k0,hk0,e0,rfl,by simp,.inl ⟨rfl,rfl⟩⟩;obtain⟨k,hk,e1,hm,hlen,BH⟩:=hI;rw[hm];obtain⟨x,e⟩:=s;simp only at e1 hlen BH;unfold Oo S3;simp only;by_cases hxa:x=a
  ·subst hxa;rw[ANG];rcases BH with ⟨h,_⟩|h
   ·grind
   ·exact Ay.mk ⟨h,by omega⟩
  ·rw[show(x !=a)=true by grind,AMo (by rw[AMq];omega)];have k1:1<=k:=by
    rcases AMu k with h |h
    ·subst h;rw[hM.fst.1]at e1;exact(hxa e1.symm).elim
    ·omega
   obtain⟨k',h1,h2⟩:=hM.back k k1 hk;rw[e1]at h2;exact Ay.mk ⟨k',h1,k',by omega,h2.symm,rfl,by rw[AMa,AMq];omega,.inr (by simp)⟩
 ·rw[Vk];refine Ay.mk λx=>?_;obtain⟨y,hy⟩:=List.exists_mem_of_ne_nil _ he.1;have:=((eO e).2 y).2 hy;rw[x]at this;cases this
abbrev lk(ls:AOD)(k:Nat):AOm:=ls.getD k Ab.zero
abbrev us(q:AOA)(k:Nat):Bool:=q.getD k (Ty.zero .bool)
theorem Ahi{q:AOA}{k j:Nat}(hk:k<q.length):us (q.set k true) j=if j=k then true else us q j:=by
 grind
def Tch(ls:AOD)(k:Nat)(x:Int):Prop:=(lk ls k).1=x\/(lk ls k).2.1=x
def Cl(ls:AOD)(q:AOA)(x:Int):Prop:=∀k,k<ls.length->Tch ls k x->us q k=true
def nu(n:Nat)(q:AOA):Nat:=(List.range n).countP λk=>!us q k
def Mo(q q':AOA):Prop:=∀k,us q k=true->us q' k=true
theorem Mo.nu{n:Nat}{q q':AOA}(h:Mo q q'):nu n q'<=nu n q:=ANU λk _ hk=>by
 cases hq:us q k with
 |false=>grind
 |true=>rw[h k hq]at hk;cases hk
theorem Cl.mono{ls:AOD}{q q':AOA}(h:Mo q q'){x:Int}(hc:Cl ls q x):Cl ls q' x:=λk h1 h2=>h k (hc k h1 h2)
theorem AsK{q:AOA}{k:Nat}(hk:k<q.length):Mo q (q.set k true):=λj hj=>by grind
theorem AsO{n:Nat}{q:AOA}{k:Nat}(hk:k<q.length)(hn:k<n)(hu:us q k=false):nu n (q.set k true)+1<=nu n q :=
 Yo (λj hj=>by
  grind) (List.mem_range.2 hn) (by grind) (by grind)
def vX(ls:AOD)(q q':AOA)(P:Int->Prop):Prop:=∀k,k<ls.length->us q' k=true->us q k=false->∀x,Tch ls k x->P x
structure AEN (ls:AOD) (q:AOA) (b c:Int) (r:Bool×AOA×AOz):Prop where
 len:r.2.1.length=q.length
 mo:Mo q r.2.1
 yes:r.1=true->(b≠c->r.2.2≠[])/\r.2.2.length<=nu ls.length q
 no:r.1=false->b≠c/\Cl ls r.2.1 b/\vX ls q r.2.1 λx=>x≠c/\Cl ls r.2.1 x
theorem zU{ls:AOD}(hl:ls.length<=4194304)(hb:∀k,k<ls.length->((0:Int)<=(lk ls k).1/\(4194304:Int)>(lk ls k).1)/\(0:Int)<=(lk ls k).2.1/\(4194304:Int)>(lk ls k).2.1)(c:Int) :
    ∀(n:Nat) (b:Int) (q:AOA),q.length=ls.length->(0<=b/\b<4194304)->nu ls.length q<n->Ay (Ig n ls b c q) (AEN ls q b c)
 |0,b,q,_,_,h=>by omega
 |n+1,b,q,hq,hbb,hn=>by
  show Ay (QI (Ig n) ls b c q) _;unfold QI;by_cases hbc:b=c
  ·subst hbc;rw[ANK,AMm];exact Ay.mk ⟨rfl,λ_ h=>h,λ_=>⟨λh=>(h rfl).elim,AMS _⟩,λh=>by cases h⟩
  rw[show(b==c)=false by rw[ANJ];exact hbc,AMl];refine Ay.bind (P:=λt:AO1⊕AOA=>(∃q' w,t=.inl (q',w)/\q'.length=q.length/\Mo q q'/\w≠[]/\w.length<=nu ls.length q)\/∃q',t=.inr q'/\q'.length=q.length/\Mo q q'/\Cl ls q' b/\vX ls q q' λx=>x≠c/\Cl ls q' x) ?_ λt ht=>?_
  ·unfold Vy;refine Bu (λm (s:Int×AOA)=>∃k:Nat,s.1=(k:Int)/\k<=ls.length/\m=ls.length-k/\s.2.length=q.length/\Mo q s.2/\(∀j,j<k->Tch ls j b->us s.2 j=true)/\vX ls q s.2 λx=>x=b\/x≠c/\Cl ls s.2 x) (λm s hI=>?_) ls.length (0,q) ⟨0,rfl,AMS _,rfl,rfl,λ_ h=>h,λj h=>by omega,λk _ h1 h2=>by rw[h1]at h2;cases h2⟩;obtain⟨k,e,hk,rfl,hlen,hmo,dP,zl⟩:=hI;obtain⟨g,u⟩:=s;simp only at e hlen hmo dP zl;subst e;unfold OR Ti;simp only;rcases AMh k ls.length with Bm |YC
   ·rw[Dy Bm,AMm];have hku:k<u.length:=by omega
    have hw:wI ((k:Int)+1)=((k+1:Nat):Int):=A1;obtain⟨⟨a1,a2⟩,a3,a4⟩:=hb k Bm;have skip:(us u k=true\/¬Tch ls k b)->∃m,m<ls.length-k/\∃k':Nat,((k+1:Nat):Int)=(k':Int)/\k'<=ls.length/\m=ls.length-k'/\u.length=q.length/\Mo q u/\(∀j,j<k'->Tch ls j b->us u j=true)/\vX ls q u λx=>x=b\/x≠c/\Cl ls u x:=λh =>
     ⟨ls.length-(k+1),by omega,k+1,rfl,by omega,rfl,hlen,hmo,λj hj ht=>by
      by_cases e:j=k
      ·subst e;rcases h with h |h
       ·exact h
       ·exact(h ht).elim
      ·exact dP j (by omega) ht,zl⟩
    unfold RX RV;simp only[AL7];rw[AMo (Bl hku)];cases hu:us u k with
    |true =>
     rw[show u.getD k (Ty.zero .bool)=true from hu,AMm,AL6,ANn,AL6,ANn,hw];exact Ay.mk (skip (.inl hu))
    |false =>
     rw[show u.getD k (Ty.zero .bool)=false from hu,AMl];simp only[AMo (Bl Bm)];have take:∀nx:Int,wI (wI ((lk ls k).1+(lk ls k).2.1)-b)=nx->(0<=nx/\nx<4194304)->(∀x,Tch ls k x->x=b\/x=nx)->Tch ls k b ->
         Ay ((if(0:Int)<=(k:Int)/\(k:Int)<(u.length:Int)then
          (Ig n ls (wI (wI ((lk ls k).1+(lk ls k).2.1)-b)) c (u.set k true)).bind λo =>
           bif o.1 then
           if(([(lk ls k).2.2.1]:AOz).length+o.2.2.length)*8<=140737488355328 then
           some (Sum.inr (o.2.1,(([(lk ls k).2.2.1]:AOz)++o.2.2)))
           else none
           else some (Sum.inl o.2.1)
          else none:APJ (AOA⊕AO1))) λt=>(∃q' w,t=.inr (q',w)/\q'.length=q.length/\Mo q q'/\w≠[]/\w.length<=nu ls.length q)\/∃q',t=.inl q'/\q'.length=q.length/\Mo q q'/\(∀j,j<k+1->Tch ls j b->us q' j=true)/\vX ls q q' λx=>x=b\/x≠c/\Cl ls q' x:=λnx hnx sQ Afb htb=>by
      rw[AMo (Bl hku),hnx];have h1:=AsO (n:=ls.length) hku Bm hu;have h2:=hmo.nu (n:=ls.length);have Tj:=AsK hku;refine(zU hl hb c n nx (u.set k true) (by rw[AMf];omega) sQ (by omega)).bind λo ho=>?_;obtain⟨b1,⟨q2,w⟩⟩:=o;obtain⟨o1,o2,o3,o4⟩:=ho;simp only at o1 o2 o3 o4⊢;rw[AMf]at o1;have RG:Mo q q2:=λj hj=>o2 j (Tj j (hmo j hj));cases b1 with
      |true =>
       have h3:=(o3 rfl).2;have h4:nu ls.length q<=ls.length:=by unfold nu;exact AMA List.countP_le_length (by rw[AMN];exact AMc _)
       rw[AMm,AMo (by rw[AMq];omega)];exact Ay.mk (.inl ⟨q2,_,rfl,by omega,RG,by simp,by rw[AMa,AMq];omega⟩)
      |false =>
       rw[AMl];obtain⟨p1,p2,p3⟩:=o4 rfl;refine Ay.mk (.inr ⟨q2,rfl,by omega,RG,λj hj ht=>?_,λj j1 j2 j3 x hx=>?_⟩)
       ·by_cases e:j=k
        ·subst e;exact o2 j (by rw[Ahi hku,AMo rfl])
        ·exact o2 j (Tj j (dP j (by omega) ht))
       ·by_cases e:j=k
        ·subst e;rcases Afb x hx with h |h
         ·exact .inl h
         ·subst h;exact .inr ⟨p1,p2⟩
        ·cases hj:us u j with
         |true =>
          rcases zl j j1 hj j3 x hx with h |⟨h,h'⟩
          ·exact .inl h
          ·exact .inr ⟨h,h'.mono λi hi=>o2 i (Tj i hi)⟩
         |false=>exact .inr (p3 j j1 j2 (by rw[Ahi hku,AMp e];exact hj) x hx)
     have VC:∀{X:APJ (AOA⊕AO1)} {R:((Int×AOA)⊕(AO1⊕AOA))->Prop},Ay X (λt=>(∃q' w,t=.inr (q',w)/\q'.length=q.length/\Mo q q'/\w≠[]/\w.length<=nu ls.length q)\/∃q',t=.inl q'/\q'.length=q.length/\Mo q q'/\(∀j,j<k+1->Tch ls j b->us q' j=true)/\vX ls q q' λx=>x=b\/x≠c/\Cl ls q' x) ->
         (∀s':Int×AOA,(∃m,m<ls.length-k/\∃k':Nat,s'.1=(k':Int)/\k'<=ls.length/\m=ls.length-k'/\s'.2.length=q.length/\Mo q s'.2/\(∀j,j<k'->Tch ls j b->us s'.2 j=true)/\vX ls q s'.2 λx=>x=b\/x≠c/\Cl ls s'.2 x)->R (.inl s')) ->
         (∀q' w,q'.length=q.length->Mo q q'->w≠[]->w.length<=nu ls.length q->R (.inr (.inl (q',w)))) ->
         Ay (X.bind (Sum.elim (λj=>some (Sum.inl (wI ((k:Int)+1),j))) λk=>some (Sum.inr (Sum.inl (k.1,k.2))):AOA⊕AO1->APJ ((Int×AOA)⊕(AO1⊕AOA)))) R:=λ{X R} hX hR1 hR2=>hX.bind λt ht=>by
      rcases ht with ⟨q',w,rfl,h1,h2,h3,h4⟩|⟨q',rfl,h1,h2,h3,h4⟩
      ·rw[AM4];exact Ay.mk (hR2 q' w h1 h2 h3 h4)
      ·rw[ANn,hw];exact Ay.mk (hR1 _ ⟨ls.length-(k+1),by omega,k+1,rfl,by omega,rfl,h1,h2,h3,h4⟩)
     by_cases hA:(lk ls k).1=b
     ·have e1:((lk ls k).1 !=b)=false:=by rw[hA,ANG]
      rw[show((ls.getD k Ab.zero).1 !=b)=false from e1,AMl,AL6,AM4];refine VC (take (lk ls k).2.1 ?_ ⟨a3,a4⟩ (λx hx=>?_) (.inl hA)) (λ_ h=>h) λq' w h1 h2 h3 h4=>.inl ⟨q',w,rfl,h1,h2,h3,h4⟩
      ·have iI:b=(lk ls k).1:=hA.symm;rw[BX (x:=(lk ls k).1+(lk ls k).2.1),BX];omega
      ·rcases hx with h |h
       ·exact .inl (by rw[<-h,hA])
       ·exact .inr h.symm
     ·have e1:((lk ls k).1 !=b)=true:=by rw[ANy];exact hA
      rw[show((ls.getD k Ab.zero).1 !=b)=true from e1,AMm];by_cases hB:(lk ls k).2.1=b
      ·have e2:((lk ls k).2.1 !=b)=false:=by rw[hB,ANG]
       rw[show((ls.getD k Ab.zero).2.1 !=b)=false from e2,AMl,AL6,AM4];refine VC (take (lk ls k).1 ?_ ⟨a1,a2⟩ (λx hx=>?_) (.inr hB)) (λ_ h=>h) λq' w h1 h2 h3 h4=>.inl ⟨q',w,rfl,h1,h2,h3,h4⟩
       ·have hB':b=(lk ls k).2.1:=hB.symm;rw[BX (x:=(lk ls k).1+(lk ls k).2.1),BX];omega
       ·rcases hx with h |h
        ·exact .inr h.symm
        ·exact .inl (by rw[<-h,hB])
      ·have e2:((lk ls k).2.1 !=b)=true:=by rw[ANy];exact hB
       rw[show((ls.getD k Ab.zero).2.1 !=b)=true from e2,AMm,AL6,ANn,AL6,ANn,hw];exact Ay.mk (skip (.inr λh=>by rcases h with h |h;exact hA h;exact hB h))
   ·have:k=ls.length:=by omega
    subst this;rw[Fb,AMl];have HQ:Cl ls u b:=λj h1 h2=>dP j h1 h2;exact Ay.mk (.inr ⟨u,rfl,hlen,hmo,HQ,λj j1 j2 j3 x hx=>by
     rcases zl j j1 j2 j3 x hx with h |h
     ·subst h;exact⟨hbc,HQ⟩
     ·exact h⟩)
  ·rcases ht with ⟨q',w,rfl,h1,h2,h3,h4⟩|⟨q',rfl,h1,h2,h3,h4⟩
   ·exact Ay.mk ⟨h1,h2,λ_=>⟨λ_=>h3,h4⟩,λh=>by cases h⟩
   ·exact Ay.mk ⟨h1,h2,λh=>(by cases h),λ_=>⟨hbc,h3,h4⟩⟩
theorem AfM{ls:AOD}(hl:ls.length<=900000)(hb:∀l∈ls,((0:Int)<=l.1/\(4194304:Int)>l.1)/\(0:Int)<=l.2.1/\(4194304:Int)>l.2.1){b c:Int}(hbb:0<=b/\b<4194304)(Nk:b≠c)(hc:Cn ls b c) :
    Ay (ZZ ls b c (List.replicate ls.length false)) λr=>r.2.2≠[]/\r.2.2.length<=ls.length:=by
 have hz:∀k,us (List.replicate ls.length false) k=false:=λk=>by
  by_cases h:k<ls.length
  ·grind
  ·simp[h];rfl
 have hn:nu ls.length (List.replicate ls.length false)<=ls.length:=by exact AMA List.countP_le_length (by grind)
 refine(zU (by omega) (λk hk=>hb _ (AJ hk)) c 1000000 b (List.replicate ls.length false) (AMD) hbb (by omega)).mono λr hr=>?_;obtain⟨r1,r2,r3⟩:=r;cases r1 with
 |true=>obtain⟨h1,h2⟩:=hr.yes rfl;grind
 |false =>
  exfalso
  obtain⟨n1,n2,n3⟩:=hr.no rfl;have key:∀{x},Cn ls b x->x≠c/\Cl ls r2 x:=λ{x} h=>by
   induction h with
   |refl=>grind
   |oY wN _ ih =>
    obtain⟨k,hk,e⟩:=List.mem_iff_getElem.1 wN;have e2:lk ls k=_:=show ls.getD k Ab.zero=ls[k] by grind
    rw[<-e,<-e2]at ih⊢;exact n3 k hk (ih.2 k hk (.inl rfl)) (hz k) _ (.inr rfl)
   |bwd wN _ ih =>
    obtain⟨k,hk,e⟩:=List.mem_iff_getElem.1 wN;have e2:lk ls k=_:=show ls.getD k Ab.zero=ls[k] by simp[hk]
    rw[<-e,<-e2]at ih⊢;exact n3 k hk (ih.2 k hk (.inr rfl)) (hz k) _ (.inl rfl)
  exact(key hc).1 rfl
theorem ArX{a:AOz}(ha:a.length<=1048576)(b:Int):∃r,Mj a b=some r/\(a=[]->r=false):=by
 unfold Mj;obtain⟨t,h1,h2⟩:Ay (Oa a b 0) λt=>t=.inl ()->a≠[]:=by
  refine Bu (λw i=>∃k:Nat,i=(k:Int)/\k<=a.length/\w=a.length-k) (λw i hI=>?_) _ 0 ⟨0,rfl,AMS _,rfl⟩;obtain⟨k,rfl,hk,rfl⟩:=hI;unfold Kw OB;rcases AMh k _ with h |h
  ·rw[Dy h,AMm,AMo (Bl h)];refine Ay.cond (λ_=>Ay.mk λ_=>by grind) λ_=>Ay.mk ⟨a.length-(k+1),by omega,k+1,A1,h,rfl⟩
  ·have:k=a.length:=by omega
   subst this;rw[Fb];exact Ay.mk λe=>by grind
 rw[h1];cases t with
 |inl u=>exact⟨true,rfl,λe=>(h2 rfl e).elim⟩
 |inr u=>exact⟨false,rfl,λ_=>rfl⟩
theorem Abx{a:AOz}(ha:a≠[])(hl:a.length<=900000):Ay (RU a) (·≠[]):=by
 refine Ay.bind  ?_ λr hr=>Ay.mk hr;refine Bu (λm s=>∃k:Nat,s.1=(k:Int)/\k<=a.length/\m=a.length-k/\s.2.length<=k/\(0<k->s.2≠[])) (λm s hI=>?_) _ _ ⟨0,rfl,AMS _,rfl,AMc _,λh=>by omega⟩;obtain⟨k,e,hk,rfl,hd,Nk⟩:=hI;obtain⟨g,d⟩:=s;simp only at e hd Nk;subst e;unfold Ki O6;rcases AMh k _ with Bm |YC
 ·rw[Dy Bm];refine Ay.bind (P:=λe =>e≠[]/\e.length<=k+1) ?_ λe he=>Ay.mk ⟨a.length-(k+1),by omega,k+1,A1,by omega,rfl,he.2,λ_=>he.1⟩;unfold Nh;simp only[AL7,AMo (Bl Bm)];obtain⟨r,h1,h2⟩:=ArX (a:=d) (by omega) _;rw[h1,AL6];cases r with
  |true =>
   exact Ay.mk ⟨λe=>(by grind),by omega⟩
  |false =>
   rw[AMo (by grind)];generalize a.getD k _=x;refine Ay.bind (P:=λq =>0<=q.1/\q.1<q.2.length/\q.2.length=d.length+1) ?_ λq hq=>?_
   ·refine Bu (λm s=>∃i:Nat,s.1=(i:Int)/\i<=d.length/\m=i/\s.2.length=d.length+1) (λm s hI=>?_) _ _ ⟨d.length,rfl,AMc _,rfl,by simp⟩;obtain⟨i,e,hi,hm,hj⟩:=hI;rw[hm];obtain⟨g,j⟩:=s;simp only at e hj;subst e;unfold Kh O5 Ng;cases i with
    |zero =>
     exact Ay.mk ⟨by simp,by grind,hj⟩
    |succ i =>
     have hw:wI (((i+1:Nat))-1)=i:=A1;rw[LO,AMm,hw];simp only[AL7];rw[AMo (Bl (show i<j.length by omega)),AMo (Bl Bm)];cases decide (j.getD i _>a.getD k _)with
     |true =>
      rw[AMm,AL6,AMo (Bl (show i<j.length by omega)),AMo (Bl (show i+1<j.length by omega))];exact Ay.mk ⟨i,by omega,i,rfl,by omega,rfl,by grind⟩
     |false =>
      exact Ay.mk ⟨by omega,by grind,hj⟩
   ·rw[AMo ⟨hq.1,hq.2.1⟩];refine Ay.mk ⟨λe=>?_,by grind⟩;have:=congrArg List.length e
    grind
 ·have:k=a.length:=by omega
  subst this;rw[Fb];exact Ay.mk (Nk (by grind))
def AkF(b:AOr):Prop:=b.2.1.length<=64/\b.1<=4096/\Ea b.2.1
abbrev gB(vs:AOI)(i:Nat):AOr:=vs.getD i Ah.zero
abbrev mgB(vm:List AOS)(i:Int):AOr:=Bn APr Ah vm i
def Nd(ns:Nat)(vs:AOI)(A:AOk)(i:Nat):Prop:=((0:Int)<=A.1/\(i:Int)=A.1)\/((0:Int)>A.1/\ns<=i/\i<vs.length/\gB vs i=A.2.1)
def P1(ns:Nat)(rt:Nat->Nat)(vs:AOI)(x:AOw):Prop:=∃i j,Nd ns vs x.1 i/\Nd ns vs x.2.1 j/\rt i=rt j
def Ext(ns:Nat)(rt:Nat->Nat)(vs:AOI)(fv:Nat->Nat)(YR:AOI):Prop:=(∀i j,rt i=rt j->fv i=fv j)/\∀A i,Nd ns vs A i->Nd ns YR A i
theorem Ext.refl{ns:Nat}{rt:Nat->Nat}{vs:AOI}:Ext ns rt vs rt vs:=⟨λ_ _ h=>h,λ_ _ h=>h⟩
theorem Ext.trans{ns:Nat}{rt fv Abz:Nat->Nat}{vs YR AkB:AOI}(h:Ext ns rt vs fv YR)(k:Ext ns fv YR Abz AkB):Ext ns rt vs Abz AkB:=⟨λi j e=>k.1 i j (h.1 i j e),λA i e=>k.2 A i (h.2 A i e)⟩
theorem P1.mono{ns:Nat}{rt fv:Nat->Nat}{vs YR:AOI}(h:Ext ns rt vs fv YR){x:AOw}(p:P1 ns rt vs x):P1 ns fv YR x:=by
 obtain⟨i,j,a,b,e⟩:=p;exact⟨i,j,h.2 _ _ a,h.2 _ _ b,h.1 _ _ e⟩
structure JN (H:AOk->AOk->Prop) (ns N:Nat) (ld fx:AOz) (vm:List AOS) (ks:AOD) (vs:AOI) (Bq:AOz) (rt:Nat->Nat):Prop where
 fo:∃dp,Fo ld rt dp
 l1:ld.length=N
 l2:fx.length=N
 l3:vs.length=N
 l4:Bq.length=N
 nn:ns<=N
 sm:∀i j,i<N->j<N->(gI Bq i=gI Bq j↔rt i=rt j)
 lo:∀i,i<N->0<=gI Bq i/\gI Bq i<=(i:Int)/\gI Bq (gI Bq i).toNat=gI Bq i
 wd:∀i,i<N->((gB vs i).1>0↔ns<=i)
 vl:∀i,i<N->ns<=i->mgB vm (i:Int)=gB vs i
 bw:∀i,i<N->AkF (gB vs i)
 fx_:∀i,i<N->rt i=i->nK rt ns N i (gI fx i)
 lk_:∀l∈ks,((0:Int)<=l.1/\(N:Int)>l.1)/\(0:Int)<=l.2.1/\(N:Int)>l.2.1
 cn:∀i j:Nat,i<N->j<N->rt i=rt j->Cn ks (i:Int) (j:Int)
 eqv:∀i j,ns<=i->i<N->ns<=j->j<N->rt i=rt j->gB vs i=gB vs j
 lkp:∀l∈ks,∃A B,∃i j:Nat,H A B/\Nd ns vs A i/\Nd ns vs B j/\l.1=(i:Int)/\l.2.1=(j:Int)
theorem xg{ns:Nat}{vs:AOI}{x:AOr}{A:AOk}{i:Nat}(h:Nd ns vs A i):Nd ns (vs++[x]) A i:=by
 rcases h with h |⟨h1,h2,h3,h4⟩
 ·exact .inl h
 ·exact .inr ⟨h1,h2,by grind,by grind⟩
variable {H:AOk->AOk->Prop}
def Y4(ns:Nat)(a:AOk):Prop:=((0:Int)<=a.1/\(ns:Int)>a.1)\/((0:Int)>a.1/\(0:Int)<a.2.1.1/\AkF a.2.1)
theorem XI{l:AOI}{x:AOr}{j:Nat}:gB (l++[x]) j=if j=l.length then x else gB l j:=by
 grind
theorem zu{ns N:Nat}{ld fx:AOz}{vm:APH AOS}{ks:AOD}{vs:AOI}{Bq:AOz}{rt:Nat->Nat}(J:JN H ns N ld fx vm ks vs Bq rt){a:AOk}(ha:Y4 ns a)(hN:N<=2000000)(p q:Int) :
    ∃k N' eh vi vu YR Y2,Bh p a ld fx vm ks=some (((k:Nat):Int),vu,ks,eh,vi)/\HM q a vs ks Bq=some ((k:Int),ks,YR,Y2)/\k<N'/\N<=N'/\N'<=N+1/\JN H ns N' eh vi vu ks YR Y2 rt/\Nd ns YR a k/\∀A i,Nd ns vs A i->Nd ns YR A i:=by
 have UG:=J.l1;have fJ:=J.l2;have hl3:=J.l3;have ze:=J.l4;have hnn:=J.nn;unfold Bh HM;rcases ha with ⟨h0,h1⟩|⟨h0,h1,h2⟩
 ·refine⟨a.1.toNat,N,ld,fx,vm,vs,Bq,?_,?_,by omega,AMc _,by omega,J,.inl ⟨h0,by omega⟩,λ_ _ h=>h⟩
  ·rw[LO,AMm,show((a.1.toNat:Nat):Int)=a.1 by omega]
  ·rw[LO,AMm,show((a.1.toNat:Nat):Int)=a.1 by omega]
 ·obtain⟨dp,hf⟩:=J.fo;have hrN:rt N=N:=hf.out N (by omega);have hd0:decide (a.1>=0)=false:=AL9 λh=>by have h:(0:Int)<=a.1:=h;omega
  have wT:∀i,i<N->rt i<N:=λi hi=>by have:=(hf.Xg i (by omega)).1;omega
  refine⟨N,N+1,ld++[(N:Int)],fx++[(N:Int)],Ch APr Ah vm (N:Int) a.2.1,vs++[a.2.1],Bq++[(N:Int)],?_,?_,by omega,by omega,AMc _,?_,.inr ⟨h0,hnn,by simp[hl3],by simp[gB,List.getD,hl3]⟩,λ_ _ h=>xg h⟩
  ·rw[hd0,AMl,AMo (by rw[AMq];omega),AMo (by rw[AMq];omega),UG]
  ·unfold Kk Kl;rw[hd0,AMl,AMo (by rw[AMq];omega),AL6,AMo (by rw[AMq];omega),AL6,ze,A1 (n:=N) (by rw[AMa,AMq];omega) (by omega)]
  ·have fo':=hf.add;rw[UG]at fo';refine⟨⟨dp,fo'⟩,by simp[UG],by simp[fJ],by simp[hl3],by simp[ze],by omega,λi j hi hj=>?_,λi hi=>?_,λi hi=>?_,λi hi hn=>?_,λi hi=>?_,λi hi hr=>?_,λl hl=>?_,λi j hi hj h=>?_,λi j i1 i2 j1 j2 h=>?_,λl hl=>?_⟩
   ·rw[ZH,ZH,ze];by_cases e1:i=N<;>by_cases e2:j=N
    ·subst e1;subst e2;simp
    ·subst e1;rw[AMo rfl,AMp e2,hrN];have:=(J.lo j (by omega)).2.1;have:=wT j (by omega);constructor<;>intro h<;>omega
    ·subst e2;rw[AMp e1,AMo rfl,hrN];have:=(J.lo i (by omega)).2.1;have:=wT i (by omega);constructor<;>intro h<;>omega
    ·rw[AMp e1,AMp e2];exact J.sm i j (by omega) (by omega)
   ·rw[ZH,ze];by_cases e1:i=N
    ·subst e1;rw[AMo rfl,AL7,ZH,ze,AMo rfl];omega
    ·rw[AMp e1];obtain⟨a1,a2,a3⟩:=J.lo i (by omega);refine⟨a1,a2,?_⟩;rw[ZH,ze,OV];exact a3
   ·rw[XI,hl3];by_cases e1:i=N
    ·subst e1;rw[AMo rfl];exact⟨λ_=>hnn,λ_=>h1⟩
    ·rw[AMp e1];exact J.wd i (by omega)
   ·rw[XI,hl3];unfold mgB;rw[Rk (vt:=Ah)];by_cases e1:i=N
    ·subst e1;rw[AMo rfl,AMo rfl]
    ·rw[AMp e1,OV];exact J.vl i (by omega) hn
   ·rw[XI,hl3];by_cases e1:i=N
    ·subst e1;rw[AMo rfl];exact h2
    ·rw[AMp e1];exact J.bw i (by omega)
   ·rw[ZH,fJ];by_cases e1:i=N
    ·subst e1;rw[AMo rfl];exact .inr ⟨i,rfl,hnn,by omega,hrN,λj j1 j2=>by have:=wT j j2;omega⟩
    ·rw[AMp e1];exact(J.fx_ i (by omega) hr).add hrN (by omega)
   ·have:=J.lk_ l hl;omega
   ·by_cases e1:i=N<;>by_cases e2:j=N
    ·subst e1;subst e2;exact .refl _
    ·subst e1;have:=wT j (by omega);omega
    ·subst e2;have:=wT i (by omega);omega
    ·exact J.cn i j (by omega) (by omega) h
   ·rw[XI,XI,hl3];by_cases e1:i=N<;>by_cases e2:j=N
    ·rw[AMo e1,AMo e2]
    ·subst e1;have:=wT j (by omega);omega
    ·subst e2;have:=wT i (by omega);omega
    ·rw[AMp e1,AMp e2];exact J.eqv i j i1 (by omega) j1 (by omega) h
   ·obtain⟨A,B,i,j,h1,h2,h3,h4,h5⟩:=J.lkp l hl;exact⟨A,B,i,j,h1,xg h2,xg h3,h4,h5⟩
theorem JN.link{ns N:Nat}{ld fx:AOz}{vm:APH AOS}{ks:AOD}{vs:AOI}{Bq:AOz}{rt:Nat->Nat}(J:JN H ns N ld fx vm ks vs Bq rt){a b:Nat}(ha:a<N)(hb:b<N)(Nk:rt a≠rt b)(o:Int)(hv:∀i j,ns<=i->i<N->ns<=j->j<N->rt i=rt a->rt j=rt b->gB vs i=gB vs j){A B:AOk}(hH:H A B)(hA:Nd ns vs A a)(hB:Nd ns vs B b) :
    JN H ns N (ld.set (rt b) ((rt a:Nat):Int)) (fx.set (rt a) (if 0<=gI fx (rt a)/\0<=gI fx (rt b)then min (gI fx (rt a)) (gI fx (rt b))else max (gI fx (rt a)) (gI fx (rt b)))) vm (ks++[((a:Int),(b:Int),o,())]) vs
     (Bq.map λx=>if x=max (gI Bq a) (gI Bq b)then min (gI Bq a) (gI Bq b)else x) (bh rt (rt a) (rt b)):=by
 have UG:=J.l1;have fJ:=J.l2;have ze:=J.l4;obtain⟨dp,hf⟩:=J.fo;have hra:=hf.Z3 a;have hrb:=hf.Z3 b;have hxa:rt a<N:=by have:=(hf.Xg a (by omega)).1;omega
 have hxb:rt b<N:=by have:=(hf.Xg b (by omega)).1;omega
 generalize hm:min (gI Bq a) (gI Bq b)=m;generalize hM:max (gI Bq a) (gI Bq b)=M;have hg:∀i,i<N->gI (Bq.map λx=>if x=M then m else x) i=if gI Bq i=M then m else gI Bq i:=λi hi =>
  FZ (λx=>if x=M then m else x) (y :=APr.zero) (show i<Bq.length by omega)
 have AFT:gI Bq a≠gI Bq b:=λe=>Nk ((J.sm a b ha hb).1 e);obtain⟨a1,a2,a3⟩:=J.lo a ha;obtain⟨b1,b2,b3⟩:=J.lo b hb;refine⟨hf.join (by omega) (by omega) hra hrb Nk,by simp[UG],by simp[fJ],J.l3,by rw[AMi];exact ze,J.nn,λi j hi hj=>?_,λi hi=>?_,J.wd,J.vl,J.bw,λi hi hr=>?_,λl hl=>?_,λi j hi hj h=>?_,λi j i1 i2 j1 j2 h=>?_,λl hl=>?_⟩
 ·rw[hg i hi,hg j hj,bj hf.Z3 hra hrb,<-J.sm i j hi hj,<-J.sm i a hi ha,<-J.sm j b hj hb,<-J.sm i b hi hb,<-J.sm j a hj ha];split<;>split<;>omega
 ·obtain⟨c1,c2,c3⟩:=J.lo i hi;rw[hg i hi];by_cases e:gI Bq i=M
  ·rw[AMo e];refine⟨by omega,by omega,?_⟩;rcases Int.lt_or_gt_of_ne AFT with h |h
   ·have em:m=gI Bq a:=by omega
    rw[em]at hg⊢;rw[hg _ (by omega),a3,OV]
   ·have em:m=gI Bq b:=by omega
    rw[em]at hg⊢;rw[hg _ (by omega),b3,OV]
  ·rw[AMp e];refine⟨c1,c2,?_⟩;rw[hg _ (by omega),c3,AMp e]
 ·rw[cS (by omega)];by_cases e:i=rt a
  ·subst e;rw[AMo rfl];exact(J.fx_ _ hxa hra).join Nk (J.fx_ _ hxb hrb)
  ·rw[AMp e];have hj:rt i=i/\i≠rt b:=by
    simp only[bh]at hr;split at hr
    ·omega
    ·exact⟨hr,by omega⟩
   exact(J.fx_ i hi hj.1).other e hj.2
 ·rcases List.mem_append.1 hl with hl |hl
  ·exact J.lk_ l hl
  ·rw[AMx]at hl;subst hl;simp only;omega
 ·have hm:∀l∈ks,l∈ks++[((a:Int),(b:Int),o,())]:=λl h=>AME _ h;have wJ:Cn (ks++[((a:Int),(b:Int),o,())]) (a:Int) (b:Int):=Cn.oY (l:=((a:Int),(b:Int),o,())) (by simp) (.refl _);rcases(bj hf.Z3 hra hrb i j).1 h with h |⟨h,h'⟩|⟨h,h'⟩
  ·exact(J.cn i j hi hj h).mono hm
  ·exact((J.cn i a hi ha h).mono hm).trans (wJ.trans ((J.cn b j hb hj h'.symm).mono hm))
  ·exact((J.cn i b hi hb h).mono hm).trans (wJ.symm.trans ((J.cn a j ha hj h'.symm).mono hm))
 ·rcases(bj hf.Z3 hra hrb i j).1 h with h |⟨h,h'⟩|⟨h,h'⟩
  ·exact J.eqv i j i1 i2 j1 j2 h
  ·exact hv i j i1 i2 j1 j2 h h'
  ·exact(hv j i j1 j2 i1 i2 h' h).symm
 ·rcases List.mem_append.1 hl with hl |hl
  ·exact J.lkp l hl
  ·rw[AMx]at hl;subst hl;exact⟨A,B,a,b,hH,hA,hB,rfl,rfl⟩
variable {H:AOk->AOk->Prop}
def Clh(H:AOk->AOk->Prop)(ns:Nat):Prop:=∃N ld fx vm ks vs Bq rt,JN H ns N ld fx vm ks vs Bq rt/\∃A B,H A B/\∃a b p q:Nat,Nd ns vs A a/\Nd ns vs B b/\Cn ks (a:Int) (p:Int)/\Cn ks (b:Int) (q:Int)/\ns<=p/\ns<=q/\gB vs p≠gB vs q
def JnR(H:AOk->AOk->Prop)(n:AOw)(rt0:Nat->Nat)(vs0:AOI)(ns N:Nat)(ks:AOD)(x:Bool×APH AOS×AOz×AOz×AOz×AOD)(y:Bool×AOz×AOI×AOD×AOz):Prop :=
 (x.1=false/\y.1=false/\x.2.2.1≠[]/\y.2.1≠[]/\Clh H ns) \/
  (x.1=true/\y.1=true/\∃N' rt,N'<=N+2/\N<=N'/\x.2.2.2.2.2.length<=ks.length+1/\y.2.2.2.1=x.2.2.2.2.2/\JN H ns N' x.2.2.2.1 x.2.2.2.2.1 x.2.1 x.2.2.2.2.2 y.2.2.1 y.2.2.2.2 rt/\Ext ns rt0 vs0 rt y.2.2.1/\P1 ns rt y.2.2.1 n)
theorem Aj0{ns N:Nat}{ld fx:AOz}{vm:APH AOS}{ks:AOD}{vs:AOI}{Bq:AOz}{rt:Nat->Nat}(J:JN H ns N ld fx vm ks vs Bq rt){n:AOw}(ha:Y4 ns n.1)(hb:Y4 ns n.2.1)(hN:N<=1999990)(hk:ks.length<900000)(hH:H n.1 n.2.1)(p q o:Int) :
    ∃x y,I3 p n o ld fx vm ks=some x/\KA q n o vs ks Bq=some y/\JnR H n rt vs ns N ks x y:=by
 obtain⟨a,N1,ld1,fx1,vm1,vs1,AK5,i1,s1,a1,a2,a3,J1,na,X1⟩:=zu J ha (by omega) p q;obtain⟨b,N2,ld2,fx2,vm2,uP,kN,i2,s2,b1,b2,b3,J2,nb,X2⟩:=zu J1 hb (by omega) p q;have UG:=J2.l1;have fJ:=J2.l2;have hl3:=J2.l3;have ze:=J2.l4;obtain⟨dp,hf⟩:=J2.fo;obtain⟨r1,e1,l1,rfl,q1,q2⟩:=oQ hf (j:=a) (by omega) p fx2 vm2 ks;obtain⟨r2,e2,l2,rfl,q3,q4⟩:=oQ q2 (j:=b) (by omega) p fx2 vm2 ks;have J3:JN H ns N2 l2 fx2 vm2 ks uP kN rt:=⟨⟨dp,q4⟩,by omega,J2.l2,J2.l3,J2.l4,J2.nn,J2.sm,J2.lo,J2.wd,J2.vl,J2.bw,J2.fx_,J2.lk_,J2.cn,J2.eqv,J2.lkp⟩;have hra:rt a<N2:=by have:=(hf.Xg a (by omega)).1;omega
 have hrb:rt b<N2:=by have:=(hf.Xg b (by omega)).1;omega
 have hsm:=J2.sm a b (by omega) b1;unfold I3 ID KA;rw[i1,AL6,s1,AL6];simp only;rw[i2,AL6,s2,AL6,AL6];simp only;rw[e1,AL6,AMo (show(0:Int)<=(a:Int)/\(a:Int)<(kN.length:Int) by omega),AMo (show(0:Int)<=(b:Int)/\(b:Int)<(kN.length:Int) by omega)];simp only[AL7];rw[e2,AL6];simp only[AL7];by_cases wJ:rt a=rt b
 ·have g1:(kN.getD a APr.zero==kN.getD b APr.zero)=true:=by rw[ANf];exact hsm.2 wJ
  rw[g1,AMm,wJ,ANK,AMm];exact⟨_,_,rfl,rfl,.inr ⟨rfl,rfl,N2,rt,by omega,by omega,by simp only;omega,rfl,J3,⟨λ_ _ h=>h,λA i h=>X2 A i (X1 A i h)⟩,a,b,X2 _ _ na,nb,wJ⟩⟩
 ·have g1:(kN.getD a APr.zero==kN.getD b APr.zero)=false:=by rw[ANJ];exact λe=>wJ (hsm.1 e)
  have g2:(((rt a:Nat):Int)==((rt b:Nat):Int))=false:=by rw[ANJ];omega
  obtain⟨w1,f1,v1,rfl,F1⟩:=iC (rt:=rt) (ns:=ns) (vs:=uP) (Bq:=kN) (by omega) (λi j hi hj=>J2.sm i j (by omega) (by omega)) (λi hi=>J2.wd i (by omega)) (by omega) (b:=a) (by omega) q ks;obtain⟨w2,f2,v2,rfl,F2⟩:=iC (rt:=rt) (ns:=ns) (vs:=uP) (Bq:=kN) (by omega) (λi j hi hj=>J2.sm i j (by omega) (by omega)) (λi hi=>J2.wd i (by omega)) (by omega) (b:=b) (by omega) q ks;rw[ze]at F1 F2;rw[g1,AMl,g2,AMl,f1,AL6];simp only;rw[f2,AL6];simp only;have o9:(ks.length+([((a:Int),(b:Int),o,())]:AOD).length)*24<=140737488355328:=by rw[AMq];omega
  have u1:gI fx2 (rt a)=v1:=(J2.fx_ _ hra (hf.Z3 a)).uniq F1;have u2:gI fx2 (rt b)=v2:=(J2.fx_ _ hrb (hf.Z3 b)).uniq F2;have x1:fx2.getD (rt a) APr.zero=v1:=u1;have x2:fx2.getD (rt b) APr.zero=v2:=u2;have d1:=F1.ge;have d2:=F2.ge;rw[AMo o9,AMo o9,AMo (show(0:Int)<=((rt a:Nat):Int)/\((rt a:Nat):Int)<(fx2.length:Int) by omega),AMo (show(0:Int)<=((rt b:Nat):Int)/\((rt b:Nat):Int)<(fx2.length:Int) by omega),x1,x2];have lkN:∀l∈ks++[((a:Int),(b:Int),o,())],((0:Int)<=l.1/\(N2:Int)>l.1)/\(0:Int)<=l.2.1/\(N2:Int)>l.2.1:=λl hl=>by
   rcases List.mem_append.1 hl with hl |hl
   ·exact J2.lk_ l hl
   ·rw[AMx]at hl;subst hl;simp only;omega
  have AKo:(ks++[((a:Int),(b:Int),o,())]).length=ks.length+1:=by rw[AMa,AMq]
  have ArT:∀c:Int,c=(if 0<=v1/\0<=v2 then min v1 v2 else v1)->(∀i j,ns<=i->i<N2->ns<=j->j<N2->rt i=rt a->rt j=rt b->gB uP i=gB uP j) ->
      ∃ x y,(if(0:Int)<=((rt b:Nat):Int)/\((rt b:Nat):Int)<(l2.length:Int)then
          if(0:Int)<=((rt a:Nat):Int)/\((rt a:Nat):Int)<(fx2.length:Int)then
          (D1 p c ((rt a:Nat):Int) v2 vm2 (l2.set (rt b) ((rt a:Nat):Int)) (fx2.set (rt a) (if v2>c then v2 else c)) (ks++[((a:Int),(b:Int),o,())])).bind λk =>
          some (true,vm2,([]:AOz),l2.set (rt b) ((rt a:Nat):Int),k,ks++[((a:Int),(b:Int),o,())])
          else none else none)=some x /\
       ((Nf (a:Int) (b:Int) kN).bind λb1=>some (true,([]:AOz),uP,ks++[((a:Int),(b:Int),o,())],b1))=some y/\JnR H n rt vs ns N ks x y:=λc hc hv=>by
   have JL:=J3.link (a:=a) (b:=b) (by omega) b1 wJ o hv hH (X2 _ _ na) nb;rw[u1,u2]at JL;rw[Vk,Vk,AfY (by omega) (by omega) (by omega),AL6];have e4:D1 p c ((rt a:Nat):Int) v2 vm2 (l2.set (rt b) ((rt a:Nat):Int)) (fx2.set (rt a) (if v2>c then v2 else c)) (ks++[((a:Int),(b:Int),o,())])=some (fx2.set (rt a) (if 0<=v1/\0<=v2 then min v1 v2 else max v1 v2)):=by
    unfold D1 PD;by_cases hv:0<=v1/\0<=v2
    ·rw[AMo hv]at hc⊢;rw[AMb (show c>=0 by omega),AMb (show v2>=0 by omega),Bool.and_self,AMm,AMo (by rw[AMf];omega),AL7,List.set_set,hc]
    ·rw[AMp hv]at hc⊢;rw[show(decide (c>=0)&&decide (v2>=0))=false by rw[<-Bool.not_eq_true,AMd,ANQ,ANQ];omega,AMl,hc];congr 2;split<;>omega
   rw[e4,AL6];exact⟨_,_,rfl,rfl,.inr ⟨rfl,rfl,N2,_,by omega,by omega,by simp only;omega,rfl,JL,⟨λi j h=>(bj hf.Z3 (hf.Z3 a) (hf.Z3 b) i j).2 (.inl h),λA i h=>X2 A i (X1 A i h)⟩,a,b,X2 _ _ na,nb,(bj hf.Z3 (hf.Z3 a) (hf.Z3 b) a b).2 (.inr (.inl ⟨rfl,rfl⟩))⟩⟩
  unfold IE PD Kj;by_cases h1:0<=v1
  ·by_cases h2:0<=v2
   ·obtain⟨c1,rfl⟩:∃c:Nat,v1=(c:Int):=⟨v1.toNat,by omega⟩;obtain⟨c2,rfl⟩:∃c:Nat,v2=(c:Int):=⟨v2.toNat,by omega⟩;have t1:c1<N2/\ns<=c1/\rt c1=rt a:=by
     rcases F1 with ⟨h,_⟩|⟨j,h,h3,h4,h5,_⟩
     ·omega
     ·have:j=c1:=by omega
      subst this;exact⟨h4,h3,h5⟩
    have t2:c2<N2/\ns<=c2/\rt c2=rt b:=by
     rcases F2 with ⟨h,_⟩|⟨j,h,h3,h4,h5,_⟩
     ·omega
     ·have:j=c2:=by omega
      subst this;exact⟨h4,h3,h5⟩
    have m1:Bn APr Ah vm2 (c1:Int)=gB uP c1:=J2.vl c1 t1.1 t1.2.1;have m2:Bn APr Ah vm2 (c2:Int)=gB uP c2:=J2.vl c2 t2.1 t2.2.1;have bs:=(J2.bw c1 t1.1).1;obtain⟨r,er,hr⟩:=rB (a:=gB uP c1) (AMA bs (by decide)) (gB uP c2);obtain⟨r',er',hr'⟩:=eC (a:=gB uP c1) (AMA bs (by decide)) (gB uP c2);have err:r'=r:=by rw[ANF,hr,hr']
    subst err;rw[AMb (show(c1:Int)>=0 by omega),AMb (show(c2:Int)>=0 by omega),Bool.and_self,AMm,AMm,AMm];simp only[AL7];rw[AMo (show(0:Int)<=(c1:Int)/\(c1:Int)<(uP.length:Int) by omega),AMo (show(0:Int)<=(c2:Int)/\(c2:Int)<(uP.length:Int) by omega),m1,m2,er];rw[show Ef (uP.getD c1 Ah.zero) (uP.getD c2 Ah.zero)=some r' from er'];simp only[AL6];cases r' with
    |false =>
     simp only[ANo,AMm];have hcn:Cn (ks++[((a:Int),(b:Int),o,())]) (c1:Int) (c2:Int):=by
      have hm:∀l∈ks,l∈ks++[((a:Int),(b:Int),o,())]:=λl h=>AME _ h;exact((J2.cn c1 a t1.1 (by omega) t1.2.2).mono hm).trans ((Cn.oY (l:=((a:Int),(b:Int),o,())) (by simp) (.refl _)).trans ((J2.cn b c2 b1 t2.1 t2.2.2.symm).mono hm))
     have Nk:(c1:Int)≠(c2:Int):=λe=>by
      have e:c1=c2:=by omega
      rw[e]at t1;exact wJ (by rw[<-t1.2.2,<-t2.2.2])
     have hlk:=lkN;obtain⟨w,ew,hw⟩:=As5 (v:=ks++[((a:Int),(b:Int),o,())]) (N:=N2) (by omega) (by omega) hlk (a:=(c1:Int)) (g:=(c2:Int)) (by omega) (Ne.symm Nk) hcn;obtain⟨y,ey,hy,hy2⟩:=AfM (ls:=ks++[((a:Int),(b:Int),o,())]) (by omega) (λl h=>by have:=hlk l h;omega) (b:=(c1:Int)) (c:=(c2:Int)) (by omega) Nk hcn;obtain⟨z,ez,hz⟩:=Abx hy (by omega);rw[ew,AL6,AL6,ANn,AMo ⟨rfl,by omega,ANx _,by omega,by omega⟩,ey,AL6,ez,AL6];exact⟨_,_,rfl,rfl,.inl ⟨rfl,rfl,hw,hz,N2,_,_,_,ks,uP,_,rt,J3,n.1,n.2.1,hH,a,b,c1,c2,X2 _ _ na,nb,J2.cn a c1 (by omega) t1.1 t1.2.2.symm,J2.cn b c2 (by omega) t2.1 t2.2.2.symm,t1.2.1,t2.2.1,λe=>Bool.noConfusion (hr.2 e)⟩⟩
    |true =>
     simp only[AMP,AMl,AL6,AM4];exact ArT _ (by have hcc:(0:Int)<=(c1:Int)/\(0:Int)<=(c2:Int):=⟨by omega,by omega⟩;rw[AMo hcc];split<;>omega) λi j i1 i2 j1 j2 hi hj=>by
      rw[J2.eqv i c1 i1 i2 t1.2.1 t1.1 (hi.trans t1.2.2.symm),J2.eqv j c2 j1 j2 t2.2.1 t2.1 (hj.trans t2.2.2.symm)];exact hr.1 rfl
   ·rw[show(decide (v1>=0)&&decide (v2>=0))=false by rw[AL9 (show ¬v2>=0 by omega),Bool.and_false],AMl,AMb (show v1>=0 by omega),AMm,AL9 (show ¬v2>=0 by omega),AMl];simp only[AL6,AM4,AMl,AL7];exact ArT _ (by rw[OV]) λi j i1 i2 j1 j2 hi hj=>by
     rcases F2 with ⟨_,h⟩|⟨j',h,_⟩
     ·exact(h j j1 j2 hj).elim
     ·omega
  ·rw[show(decide (v1>=0)&&decide (v2>=0))=false by rw[AL9 (show ¬v1>=0 by omega),Bool.false_and],AMl,AL9 (show ¬v1>=0 by omega),AMl];simp only[AL6,AM4,AMl,AL7];exact ArT _ (by rw[OV]) λi j i1 i2 j1 j2 hi hj=>by
    rcases F1 with ⟨_,h⟩|⟨j',h,_⟩
    ·exact(h i i1 i2 hi).elim
    ·omega
theorem Mp{d:AOE}{f:Nat->Nat->Bool}(ht:∀v p,f v p=true->v<d.length/\1<=p/\p<W d v):C0 (Ai d f)=f:=by
 funext v p
 rw[ANF];unfold C0;by_cases hv:v<d.length
 ·rw[TK hv,List.contains_iff_mem,XZ]
  grind
 ·constructor
  ·intro h;have:Dp (Ai d f) v=[]:=by unfold Dp Ai;simp[hv]
   rw[this]at h;simp at h
  ·grind
def kg(d:AOE)(l:AOG)(f:Nat->Nat->Bool)(i:Nat):AOL:=PP (SL d (Ai d f) d.length) (b1 d l i) (b2 d l i) 0 (eL (b1 d l i) (b2 d l i) f (b1 d l i).length++[(b1 d l i).length])
section
variable {d:AOE} {l:AOG} {f:Nat->Nat->Bool}
theorem uz(hd:Az d)(hl:∀x∈l,Ht x)(Hw:CU d l)(hs:BD d l)(HQ:B6 d l f)(ht:∀v p,f v p=true->v<d.length/\1<=p/\p<W d v){i:Nat}(hi:i<l.length) :
    KM d (l.getD i Af.zero) (Ai d f,())=some (true,kg d l f i):=by
 have yY:=Mp ht;obtain⟨VD,hc⟩:=ET hd f;generalize hx:l.getD i Af.zero=x;have hxl:Ht x:=by grind
 have UG:∀y∈[x],Ht y:=λy hy=>by grind
 have eS:lS [x] 0=lS l i:=by unfold lS li;rw[hx];rfl
 have eT:lT [x] 0=lT l i:=by unfold lT li;rw[hx];rfl
 have eB1:b1 d [x] 0=b1 d l i:=by unfold b1;rw[eS]
 have eB2:b2 d [x] 0=b2 d l i:=by unfold b2;rw[eT]
 have Asi:CU d [x]:=⟨by simp,λj hj=>by
  have:j=0:=by grind
  subst this;obtain⟨h1,_,h3,h4⟩:=Hw.2 i hi;have eI:Z9 [x] 0=Z9 l i:=by unfold Z9 li;rw[hx];rfl
  exact⟨by grind,λh=>by omega,by grind,by grind⟩⟩
 have Q1:BD d [x]:=λj hj=>by
  have:j=0:=by simp at hj;omega
  subst this;have:=hs i hi;unfold gq at this⊢;rw[eS,eT];exact this
 have AFB:B6 d [x] f:=λj hj=>by
  have:j=0:=by simp at hj;omega
  subst this;rw[eB1,eB2];exact HQ i hi
 obtain⟨rc,ec,himp,SI⟩:=aA (d:=d) hc UG;obtain⟨q1,e1,h1⟩:=Vd (d:=d) hc;obtain⟨q2,e2,h2⟩:=Ve (d:=d) UG;rcases SI with ⟨_,VF⟩|⟨_,_,_,_,f',rfl,hf⟩
 ·exact(VF ⟨hd,VD,Asi,Q1⟩).elim
 have hff:f'=f:=by
  funext v p
  rw[ANF];exact⟨hf.min f AFB (by rw[yY];exact λ_ _ h=>h) v p,λh=>hf.le v p (by rw[yY];exact h)⟩
 subst hff;have hB:=UG _ (List.mem_singleton.2 rfl);obtain⟨s1,s2,s3,s4,s5,s6⟩:=Qg hd UG Asi Q1 (show 0<[x].length by simp);rw[eB1]at s1 s3 s5;rw[eB2]at s2 s3 s6;have g1:Di d x.2.2.1=some (BK d (lS [x] 0)):=Qn hd hB.1;have g2:Di d x.2.2.2.1=some (BK d (lT [x] 0)):=Qn hd hB.2;have BH:cz d (b1 d l i) (b2 d l i) (C0 (Ai d f')):=by rw[yY];exact HQ i hi
 unfold KM MO MP;rw[e1,h1.2 ⟨hd,VD⟩];simp only[AMP,AMl,e2,h2.2 ⟨hd,Asi⟩,AL6];rw[ec,AL6];simp only[AMP,AMl];rw[bY hd VD hc,AL6,AL6,AL6,ANG];rw[g1,AL6,g2,AL6,s5,s6];rw[Age hd s1,AL6,Age hd s2,AL6,bZ hd VD hc,AL6,Af3 hd VD hc,AL6,Vw hd VD hc,AL6];rw[kY hd VD s1 s2 s3 BH];rw[yY];rfl
theorem AfF(hd:Az d)(hl:∀x∈l,Ht x)(Hw:CU d l)(hs:BD d l)(HQ:B6 d l f)(ht:∀v p,f v p=true->v<d.length/\1<=p/\p<W d v){i:Nat}(hi:i<l.length)(a:Int)(x:AOE)(y:AOG) :
    HV a (i:Int) x y ((List.range l.length).map (Nn d l)) (Ai d f) (SL d (Ai d f) d.length) (fH (SL d (Ai d f) d.length) (SL d (Ai d f) d.length).length) =
     some (kg d l f i,x,y,(List.range l.length).map (Nn d l),Ai d f,SL d (Ai d f) d.length,fH (SL d (Ai d f) d.length) (SL d (Ai d f) d.length).length):=by
 have yY:=Mp ht;obtain⟨VD,hc⟩:=ET hd f;obtain⟨s1,s2,s3,s4,s5,s6⟩:=Qg hd hl Hw hs hi;have BH:cz d (b1 d l i) (b2 d l i) (C0 (Ai d f)):=by rw[yY];exact HQ i hi
 have hlen:i<((List.range l.length).map (Nn d l)).length:=by grind
 unfold HV;rw[AMo (Bl hlen),AMo (Bl hlen),AL7,Ik hi,s4];rw[kJ hd VD hc s1 s2 s3 BH,yY];rfl
theorem Aru{B:APH Bt}(h:Bg d B){L:AOD}{a b:Nat}(wJ:a<b)(hb:b<=B.length)(hn:∀v x,PH B a=.va v x->∃n,G2 L (nk v x) L.length=some n):Y4 L.length (Nj L B a b):=by
 unfold Nj;split
 ·refine .inr ⟨by omega,?_,?_⟩
  ·show 0<((rT B a _).length:Int);unfold rT
   grind
  ·have hl:(rT B a (b-a)).length<=4096:=by
     unfold rT;rw[AMi,AMr];have:=h.2.1;omega
   obtain⟨h1,h2⟩:=dh _;refine⟨?_,?_,h2⟩
   ·rw[h1];unfold nw;omega
   ·show((rT B a _).length:Int)<=4096;omega
 ·rename_i v x hq;obtain⟨n,hn⟩:=hn v x hq;rw[hn];have:=(UT hn).1;exact .inl ⟨by show 0<=(n:Int);omega,by show L.length>(n:Int);omega⟩
theorem iF{c:AON}{B:APH Bt}(h:Bg d B){a b i k:Nat}(S:eW d c B a b i k):Y4 (SL d c d.length).length (Nj (SL d c d.length) B a b):=Aru h S.lt S.le λv x hq=>by
 rw[fX S]at hq;have hk:=S.hk;have Bm:=S.lt;cases hs:(Ax B).getD i _ with
 |co y =>
  rw[hs]at hq hk;simp only[Sg.w]at hk;rw[show(Sg.co y).bits=y.map _ from rfl,FZ _ (y:=false) (by omega)]at hq;cases hq
 |va v' l' n =>
  rw[hs]at hq hk;simp only[Sg.w]at hk;rw[show(Sg.va v' l' n).bits=(List.range n).map _ from rfl,Ik (by omega)]at hq;injection hq with e1 e2;subst e1;subst e2;obtain⟨m,hm,_⟩:=S.va _ _ _ hs;exact⟨m,hm⟩
theorem nO{B1 B2:APH Bt}{h:Nat->Nat->Bool}{L:AOD}:∀{p:Nat},p<=B1.length->∀x∈PP L B1 B2 0 (eL B1 B2 h p),∃a b,qX B1 B2 h a b/\x=zz L B1 B2 a b
 |0,_,x,hx=>by simp[eL,PP]at hx
 |1,_,x,hx=>by rw[wC]at hx;simp[PP]at hx
 |p+2,hp,x,hx=>by
  rw[aL _ (by omega)]at hx;split at hx
  ·rename_i hP;rw[Tp]at hx;rcases List.mem_append.1 hx with hx |hx
   ·exact nO (by omega) x hx
   ·rw[AMx]at hx;exact⟨_,_,ZI (by omega) (by omega) (.inr hP),hx⟩
  ·exact nO (by omega) x hx
theorem js(hd:Az d)(hl:∀x∈l,Ht x)(Hw:CU d l)(hs:BD d l)(HQ:B6 d l f)(ht:∀v p,f v p=true->v<d.length/\1<=p/\p<W d v){i:Nat}(hi:i<l.length) :
    (kg d l f i).length<=4097/\∀x∈kg d l f i,Y4 (SL d (Ai d f) d.length).length x.1/\Y4 (SL d (Ai d f) d.length).length x.2.1:=by
 have yY:=Mp ht;obtain⟨VD,hc⟩:=ET hd f;obtain⟨s1,s2,s3,s4,s5,s6⟩:=Qg hd hl Hw hs hi;have BH:cz d (b1 d l i) (b2 d l i) (C0 (Ai d f)):=by rw[yY];exact HQ i hi
 have zh:=s1.1;have hn2:=s1.2.1;refine⟨?_,λx hx=>?_⟩
 ·unfold kg;rw[nP,AMa,AMq];have:=wB (B1:=b1 d l i) (B2:=b2 d l i) (h:=f) (b1 d l i).length;omega
 ·have hg:∃a b,qX (b1 d l i) (b2 d l i) f a b/\x=zz (SL d (Ai d f) d.length) (b1 d l i) (b2 d l i) a b:=by
    unfold kg at hx;rw[Tp]at hx;rcases List.mem_append.1 hx with hx |hx
    ·exact nO (AMc _) x hx
    ·rw[AMx]at hx;exact⟨_,_,ZI (by omega) (AMc _) (.inl rfl),hx⟩
  obtain⟨a,b,g,rfl⟩:=hg;have g':qX (b1 d l i) (b2 d l i) (C0 (Ai d f)) a b:=by grind
  obtain⟨⟨i1,k1,S1⟩,i2,k2,S2⟩:=VU hd VD s1 s2 s3 BH g';exact⟨iF s1 S1,iF s2 S2⟩
end
variable {H:AOk->AOk->Prop}
theorem Agh{ns:Nat}{P:AOL}(hH:∀x∈P,H x.1 x.2.1)(hP:∀x∈P,Y4 ns x.1/\Y4 ns x.2.1)(hPl:P.length<=4097){l:AOG}{i:Nat}(hi:i<l.length)
    (a c d:Int) (b1:AOE) (c1:AOG) (d1:APH rf) (e1:AON) (g1:AOD) (i1:APH AOV) (sd:AOE) (sn se:Int) (sg si:AOt) :
    ∀(m k N:Nat) (ld fx:AOz) (vm:APH AOS) (ks:AOD) (vs:AOI) (Bq:AOz) (rt:Nat->Nat),k+m=P.length->JN H ns N ld fx vm ks vs Bq rt->N+2*m<=1999990->ks.length+m<900000 ->
     ∃x y,Dc a c l d (i:Int) P (P.length:Int) b1 c1 d1 e1 g1 i1 (l.getD i Af.zero) (k:Int) ld fx vm ks=some x/\Fw sd l sn se (i:Int) sg si P (k:Int) vs ks Bq=some y /\
      ((∃w z,x=.inl w/\y=.inl z/\w.1≠[]/\z.1≠[]/\Clh H ns)\/∃eh vi vu Tv YR Y2 fv N',x=.inr (eh,vi,vu,Tv)/\y=.inr (YR,Tv,Y2)/\JN H ns N' eh vi vu Tv YR Y2 fv/\N'<=N+2*m/\Tv.length<=ks.length+m/\Ext ns rt vs fv YR/\∀x∈P.drop k,P1 ns fv YR x)
 |0,k,N,ld,fx,vm,ks,vs,Bq,rt,hk,J,h1,h2=>by
  have:k=P.length:=by omega
  subst this;refine⟨.inr (ld,fx,vm,ks),.inr (vs,ks,Bq),?_,?_,.inr ⟨ld,fx,vm,ks,vs,Bq,rt,N,rfl,rfl,J,by omega,by omega,.refl,λx hx=>by simp at hx⟩⟩
  ·unfold Dc;refine LV ?_;unfold CB Dt;simp only;rw[Fb,AMl]
  ·unfold Fw;refine LV ?_;unfold D5 F7;simp only;rw[Fb,AMl]
 |m+1,k,N,ld,fx,vm,ks,vs,Bq,rt,hk,J,h1,h2=>by
  have Bm:k<P.length:=by omega
  obtain⟨hA,hB⟩:=hP _ (AJ (z :=Ap.zero) Bm);obtain⟨x,y,ex,ey,hR⟩:=Aj0 J hA hB (by omega) (by omega) (hH _ (AJ Bm)) c se (l.getD i Af.zero).1;have hw:wI ((k:Int)+1)=((k+1:Nat):Int):=A1;obtain⟨x1,x2,x3,x4,x5,x6⟩:=x;obtain⟨y1,y2,y3,y4,y5⟩:=y;rcases hR with ⟨rfl,rfl,n1,n2,n3⟩|⟨rfl,rfl,N',fv,r1,r2,r3,r4,J',z1,z2⟩
  ·refine⟨.inl (x3,x4,x5,x2,x6),.inl (y2,y3,y4,y5),?_,?_,.inl ⟨_,_,rfl,rfl,n1,n2,n3⟩⟩
   ·unfold Dc;refine LV ?_;unfold CB Dt;simp only[AL7];rw[Dy Bm,AMm,AMo (Bl Bm),ex,AL6];rfl
   ·unfold Fw;refine LV ?_;unfold D5 F7;simp only[AL7];rw[Dy Bm,AMm,AMo (Bl Bm),AMo (Bl hi),ey,AL6];rfl
  ·simp only at r3 r4 J' z1 z2;subst r4;obtain⟨X,Y,eX,eY,hX⟩:=Agh hH hP hPl hi a c d b1 c1 d1 e1 g1 i1 sd sn se sg si m (k+1) N' x4 x5 x2 y4 y3 y5 fv (by omega) J' (by omega) (by omega);refine⟨X,Y,?_,?_,?_⟩
   ·rw[<-eX];unfold Dc;refine PN ?_;unfold CB Dt;simp only[AL7];rw[Dy Bm,AMm,AMo (Bl Bm),ex,AL6,hw];rfl
   ·rw[<-eY];unfold Fw;refine PN ?_;unfold D5 F7;simp only[AL7];rw[Dy Bm,AMm,AMo (Bl Bm),AMo (Bl hi),ey,AL6,hw];rfl
   ·rcases hX with h |⟨eh,vi,vu,Tv,YR,Y2,Abz,N'',q1,q2,q3,q4,q5,q6,q7⟩
    ·exact .inl h
    ·refine .inr ⟨eh,vi,vu,Tv,YR,Y2,Abz,N'',q1,q2,q3,by omega,by omega,z1.trans q6,λx hx=>?_⟩;rw[ANX Bm]at hx;rcases List.mem_cons.1 hx with rfl |hx
     ·exact(show P1 ns fv y3 P[k] by rw[show P[k]=P.getD k Ap.zero by simp[List.getD,Bm]];exact z2).mono q6
     ·exact q7 x hx
section
variable {d:AOE} {l:AOG} {f:Nat->Nat->Bool}
theorem pO(hH:∀i,i<l.length->∀x∈kg d l f i,H x.1 x.2.1)(hd:Az d)(hl:∀x∈l,Ht x)(Hw:CU d l)(hs:BD d l)(HQ:B6 d l f)(ht:∀v p,f v p=true->v<d.length/\1<=p/\p<W d v)(a c sn se:Int) :
    ∀(m i N:Nat) (ld fx:AOz) (vm:APH AOS) (ks:AOD) (vs:AOI) (Bq:AOz) (rt:Nat->Nat),i+m=l.length->JN H (SL d (Ai d f) d.length).length N ld fx vm ks vs Bq rt->N+8194*m<=1999990->ks.length+4097*m<900000 ->
     ∃x y,Cw a l c (l.length:Int) (i:Int) d l ((List.range l.length).map (Nn d l)) (Ai d f) (SL d (Ai d f) d.length) (fH (SL d (Ai d f) d.length) (SL d (Ai d f) d.length).length) ld fx vm ks=some x /\
      DT d l sn se (Ai d f,()) (Ai d f,()) (i:Int) vs ks Bq=some y /\
      ((∃w z,x=.inl w/\y=.inl z/\w.2.2.2.2.2.2.1≠[]/\z.1≠[]/\Clh H (SL d (Ai d f) d.length).length)\/∃eh vi vu Tv YR Y2 fv N',x=.inr (d,l,(List.range l.length).map (Nn d l),Ai d f,SL d (Ai d f) d.length,fH (SL d (Ai d f) d.length) (SL d (Ai d f) d.length).length,eh,vi,vu,Tv)/\y=.inr (YR,Tv,Y2)/\JN H (SL d (Ai d f) d.length).length N' eh vi vu Tv YR Y2 fv/\N'<=1999990/\Ext (SL d (Ai d f) d.length).length rt vs fv YR/\∀i',i<=i'->i'<l.length->(l.getD i' Af.zero).2.1=true->∀x∈kg d l f i',P1 (SL d (Ai d f) d.length).length fv YR x)
 |0,i,N,ld,fx,vm,ks,vs,Bq,rt,hk,J,h1,h2=>by
  have:i=l.length:=by omega
  subst this;refine⟨.inr (d,l,(List.range l.length).map (Nn d l),Ai d f,SL d (Ai d f) d.length,fH (SL d (Ai d f) d.length) (SL d (Ai d f) d.length).length,ld,fx,vm,ks),.inr (vs,ks,Bq),?_,?_,.inr ⟨ld,fx,vm,ks,vs,Bq,rt,N,rfl,rfl,J,by omega,.refl,λi' h1 h2=>by omega⟩⟩
  ·unfold Cw;refine LV ?_;unfold B8 CF;simp only;rw[Fb,AMl]
  ·unfold DT;refine LV ?_;unfold C9 D6;simp only;rw[Fb,AMl]
 |m+1,i,N,ld,fx,vm,ks,vs,Bq,rt,hk,J,h1,h2=>by
  have Bm:i<l.length:=by omega
  have fK:=Hw.1;have hw:wI ((i:Int)+1)=((i+1:Nat):Int):=A1;cases hE:(l.getD i Af.zero).2.1 with
  |false =>
   obtain⟨X,Y,eX,eY,hX⟩:=pO hH hd hl Hw hs HQ ht a c sn se m (i+1) N ld fx vm ks vs Bq rt (by omega) J (by omega) (by omega);refine⟨X,Y,?_,?_,?_⟩
   rotate_right
   ·rcases hX with h |⟨eh,vi,vu,Tv,YR,Y2,fv,N',q1,q2,q3,q4,q5,q6⟩
    ·exact .inl h
    ·refine .inr ⟨eh,vi,vu,Tv,YR,Y2,fv,N',q1,q2,q3,q4,q5,λi' h1 h2 h3=>?_⟩;by_cases e:i'=i
     ·subst e;rw[hE]at h3;cases h3
     ·exact q6 i' (by omega) h2 h3
   ·rw[<-eX];unfold Cw;refine PN ?_;unfold B8 CF Dd;simp only[AL7];rw[Dy Bm,AMm,AMo (Bl Bm),hE,hw];rfl
   ·rw[<-eY];unfold DT;refine PN ?_;unfold C9 D6 Fx;simp only[AL7];rw[Dy Bm,AMm,AMo (Bl Bm),hE,hw];rfl
  |true =>
   have eP:=AfF hd hl Hw hs HQ ht Bm a d l;have eS:=uz hd hl Hw hs HQ ht Bm;obtain⟨p1,p2⟩:=js hd hl Hw hs HQ ht Bm;obtain⟨x,y,ex,ey,hR⟩:=Agh (hH i Bm) p2 p1 Bm a c (l.length:Int) d l ((List.range l.length).map (Nn d l)) (Ai d f) (SL d (Ai d f) d.length) (fH (SL d (Ai d f) d.length) (SL d (Ai d f) d.length).length) d sn se (Ai d f,()) (Ai d f,()) (kg d l f i).length 0 N ld fx vm ks vs Bq rt (by omega) J (by omega) (by omega);have e0:((0:Nat):Int)=0:=rfl;rw[e0]at ex ey;rcases hR with ⟨w,z,rfl,rfl,n1,n2,n3⟩|⟨eh,vi,vu,Tv,YR,Y2,fv,N',rfl,rfl,J',q1,q2,q3,q4⟩
   ·refine⟨.inl (d,l,(List.range l.length).map (Nn d l),Ai d f,SL d (Ai d f) d.length,fH (SL d (Ai d f) d.length) (SL d (Ai d f) d.length).length,w.1,w.2.1,w.2.2.1,w.2.2.2.1,w.2.2.2.2),.inl (z.1,z.2.1,z.2.2.1,z.2.2.2),?_,?_,.inl ⟨_,_,rfl,rfl,n1,n2,n3⟩⟩
    ·unfold Cw;refine LV ?_;unfold B8 CF Dd;simp only[AL7];rw[Dy Bm,AMm,AMo (Bl Bm),hE,AMP,AMl,eP,AL6];simp only;rw[ex];rfl
    ·unfold DT;refine LV ?_;unfold C9 D6 Fx;simp only[AL7];rw[Dy Bm,AMm,AMo (Bl Bm),AMo (Bl Bm),hE,AMP,AMl,eS,AL6];simp only;rw[ey];rfl
   ·obtain⟨X,Y,eX,eY,hX⟩:=pO hH hd hl Hw hs HQ ht a c sn se m (i+1) N' eh vi vu Tv YR Y2 fv (by omega) J' (by omega) (by omega);refine⟨X,Y,?_,?_,?_⟩
    rotate_right
    ·rcases hX with h |⟨AGI,AFi,AGS,AfK,AkB,ACY,Abz,N'',u1,u2,u3,u4,u5,u6⟩
     ·exact .inl h
     ·refine .inr ⟨AGI,AFi,AGS,AfK,AkB,ACY,Abz,N'',u1,u2,u3,u4,q3.trans u5,λi' h1 h2 h3=>?_⟩;by_cases e:i'=i
      ·subst e;exact λx hx=>(q4 x (by simpa using hx)).mono u5
      ·exact u6 i' (by omega) h2 h3
    ·rw[<-eX];unfold Cw;refine PN ?_;unfold B8 CF Dd;simp only[AL7];rw[Dy Bm,AMm,AMo (Bl Bm),hE,AMP,AMl,eP,AL6,hw];simp only;rw[ex];rfl
    ·rw[<-eY];unfold DT;refine PN ?_;unfold C9 D6 Fx;simp only[AL7];rw[Dy Bm,AMm,AMo (Bl Bm),AMo (Bl Bm),hE,AMP,AMl,eS,AL6,hw];simp only;rw[ey];rfl
end
variable {H:AOk->AOk->Prop}
def isR(rt:Nat->Nat)(i:Nat):Bool:=(List.range i).all λj=>rt j !=rt i
def B5(rt:Nat->Nat):Nat->AOB
 |0=>[]
 |i+1=>if isR rt i=true then B5 rt i++[i]else B5 rt i
def Pz(rt:Nat->Nat):Nat->Nat->AOz
 |0,_=>[]
 |i+1,a=>if rt i=rt a then Pz rt i a++[(i:Int)]else Pz rt i a
theorem pI{rt:Nat->Nat}{i:Nat}:isR rt i=true↔∀j,j<i->rt j≠rt i:=by
 unfold isR;simp
theorem pJ{rt:Nat->Nat}{i:Nat}(h:isR rt i=false):∃j,j<i/\rt j=rt i:=by
 unfold isR at h
 grind
abbrev rp(rt:Nat->Nat)(i k:Nat):Nat:=(B5 rt i).getD k 0
theorem bP(rt:Nat->Nat):∀i,(B5 rt i).length<=i
 |0=>AMc _
 |i+1=>by
  have:=bP rt i;unfold B5
  grind
theorem bn(rt:Nat->Nat)(a:Nat):∀i,(Pz rt i a).length<=i
 |0=>AMc _
 |i+1=>by
  have:=bn rt a i;unfold Pz
  grind
theorem Vb(rt:Nat->Nat):∀(i k:Nat),k<(B5 rt i).length->rp rt i k<i/\isR rt (rp rt i k)=true
 |0,k,h=>by simp[B5]at h
 |i+1,k,h=>by
  unfold rp B5 at *;by_cases e:isR rt i=true
  ·rw[AMo e]at h⊢;rw[AMa,AMq]at h;by_cases hk:k<(B5 rt i).length
   ·have:=Vb rt i k hk
    grind
   grind
  ·rw[AMp e]at h⊢;have:=Vb rt i k h
   grind
theorem YI(rt:Nat->Nat):∀(i j:Nat),j<i->∃k,k<(B5 rt i).length/\rt (rp rt i k)=rt j
 |0,j,h=>by omega
 |i+1,j,h=>by
  unfold rp B5;by_cases e:isR rt i=true
  ·rw[AMo e,AMa,AMq];by_cases hj:j=i
   ·subst hj;exact⟨(B5 rt j).length,by omega,by grind⟩
   ·obtain⟨k,hk,h2⟩:=YI rt i j (by omega);exact⟨k,by omega,by grind⟩
  ·rw[AMp e];by_cases hj:j=i
   ·subst hj;obtain⟨j',h1,h2⟩:=pJ (Bool.eq_false_iff.2 e);obtain⟨k,hk,h3⟩:=YI rt j j' h1;exact⟨k,hk,h3.trans h2⟩
   ·exact YI rt i j (by omega)
theorem xw{rt:Nat->Nat}{i k k':Nat}(hk:k<(B5 rt i).length)(Xp:k'<(B5 rt i).length)(h:rt (rp rt i k)=rt (rp rt i k')):rp rt i k=rp rt i k':=by
 obtain⟨_,h1⟩:=Vb rt i k hk;obtain⟨_,h2⟩:=Vb rt i k' Xp;rw[pI]at h1 h2
 grind
theorem dv(rt:Nat->Nat):∀i,(B5 rt i).Pairwise (·<·)
 |0=>List.Pairwise.nil
 |i+1=>by
  unfold B5;split
  ·rw[List.pairwise_append];refine⟨dv rt i,List.pairwise_singleton _ _,λa ha b hb=>?_⟩;rw[AMx]at hb;subst hb;obtain⟨k,hk,e⟩:=List.mem_iff_getElem.1 ha;have:=(Vb rt b k hk).1
   grind
  ·exact dv rt i
theorem qe{rt:Nat->Nat}{i k k':Nat}(hk:k<(B5 rt i).length)(Xp:k'<(B5 rt i).length)(h:rp rt i k=rp rt i k'):k=k':=by
 have hp:=List.pairwise_iff_getElem.1 (dv rt i)
 grind
def cV(rt:Nat->Nat)(fx:AOz)(vs:AOI)(i a:Nat):AOv :=
 (Pz rt i a,bif decide (gI fx (rt a)>=0)then(true,((gB vs (gI fx (rt a)).toNat).1,(gB vs (gI fx (rt a)).toNat).2.1,()),())else(false,(0,[],()),()))
abbrev PM:Type:=List AOY
structure Plc (rt:Nat->Nat) (i:Nat) (g:PM):Prop where
 AZ:∀k,k<(B5 rt i).length->S5 APr APr g ((rt (rp rt i k):Nat):Int)=true/\Bn APr APr g ((rt (rp rt i k):Nat):Int)=(k:Int)
 has:∀r:Nat,S5 APr APr g (r:Int)=true->∃k,k<(B5 rt i).length/\rt (rp rt i k)=r
theorem pP{A B:Type}{F G:A->B}{l:APH A}{k:Nat}{z:A}(hk:k<l.length)(h:∀k',k'<l.length->k'≠k->F (l.getD k' z)=G (l.getD k' z)):(l.map F).set k (G (l.getD k z))=l.map G:=by
 apply AM1
 ·simp
 grind
theorem ow{ns N:Nat}{ld fx:AOz}{vm:APH AOS}{ks:AOD}{vs:AOI}{Bq:AOz}{rt:Nat->Nat}(J:JN H ns N ld fx vm ks vs Bq rt)(hN:N<=1999990)(a:Int) :
    Ay (F5 a (ns:Int) ld fx vm ks) λr=>r.2.2.2.2=(B5 rt ns).map (cV rt fx vs ns):=by
 have hnn:=J.nn;have fJ:=J.l2;have hl3:=J.l3;unfold F5;refine Ay.bind (P:=λr:AOz×AOz×APH AOS×AOD×AOK=>r.2.2.2.2=(B5 rt ns).map (cV rt fx vs ns)) ?_ λr hr=>Ay.mk hr;unfold JE;refine Bu (λm (s:Int×AOz×AOz×APH AOS×AOD×AOK×PM)=>∃i:Nat,s.1=(i:Int)/\i<=ns/\m=ns-i/\(∃dp,Fo s.2.1 rt dp)/\s.2.1.length=N/\s.2.2.1=fx/\s.2.2.2.1=vm/\s.2.2.2.2.2.1=(B5 rt i).map (cV rt fx vs i)/\Plc rt i s.2.2.2.2.2.2) (λm s hI=>?_) ns (0,ld,fx,vm,ks,[],[]) ⟨0,rfl,AMS _,rfl,J.fo,J.l1,rfl,rfl,rfl,⟨λk h=>by simp[B5]at h,λr h=>by simp[S5,N4]at h⟩⟩;obtain⟨i,e1,hi,rfl,⟨dp,hf⟩,hl,e2,e3,e4,hP⟩:=hI;obtain⟨g,x,y,v,k0,out,pl⟩:=s;simp only at e1 hf hl e2 e3 e4 hP;subst e1;subst e2;subst e3;subst e4;unfold EJ Ij;simp only;rcases AMh i ns with Bm |YC
 ·have hri:rt i<N:=by have:=(hf.Xg i (by omega)).1;omega
  have hrr:=hf.Z3 i;obtain⟨c,ec,x',rfl,wN,hf'⟩:=oQ hf (j:=i) (by omega) a y v k0;rw[Dy Bm,AMm,ec,AL6];simp only;have hrl:=bP rt i;have hw:wI ((i:Int)+1)=((i+1:Nat):Int):=A1;unfold Gi;cases hR:isR rt i with
  |false =>
   obtain⟨j,hj,ej⟩:=pJ hR;obtain⟨k,hk,ek⟩:=YI rt i j hj;rw[ej]at ek;obtain⟨h1,h2⟩:=hP.AZ k hk;rw[ek]at h1 h2;have sZ:B5 rt (i+1)=B5 rt i:=by rw[B5,AMp (by rw[hR];simp)]
   rw[h1,h2,AMP,AMl,AL6];have hol:((B5 rt i).map (cV rt y vs i)).length=(B5 rt i).length:=AMi _;have hgk:((B5 rt i).map (cV rt y vs i)).getD k Ao.zero=cV rt y vs i (rp rt i k):=FZ (cV rt y vs i) (y:=0) hk;simp only[AL7,hgk];have wR:=bn rt (rp rt i k) i;rw[AMo (show(0:Int)<=(k:Int)/\(k:Int)<(((B5 rt i).map (cV rt y vs i)).length:Int) by omega),AMo (show((cV rt y vs i (rp rt i k)).1.length+([(i:Int)]:AOz).length)*8<=140737488355328 by rw[AMq];show((Pz rt i (rp rt i k)).length+1)*8<=_;omega),AMo (show(0:Int)<=(k:Int)/\(k:Int)<(((B5 rt i).map (cV rt y vs i)).length:Int) by omega),AMo trivial,hw];refine Ay.mk ⟨ns-(i+1),by omega,i+1,rfl,by omega,rfl,⟨dp,hf'⟩,by simp only;omega,rfl,rfl,?_,?_⟩
   ·simp only;rw[sZ];have hc:((cV rt y vs i (rp rt i k)).1++[(i:Int)],(cV rt y vs i (rp rt i k)).2)=cV rt y vs (i+1) (rp rt i k):=by
     unfold cV;rw[Pz,AMo ek.symm]
    rw[hc];refine pP hk λk' Xp Nk=>?_;unfold cV;rw[Pz,AMp λe=>Nk (qe Xp hk (xw Xp hk (by show rt (rp rt i k')=_;rw[ek];exact e.symm)))]
   ·exact⟨by rw[show rp rt (i+1)=rp rt i by unfold rp;rw[sZ],sZ];exact hP.AZ,by rw[show rp rt (i+1)=rp rt i by unfold rp;rw[sZ],sZ];exact hP.has⟩
  |true =>
   have po:=pI.1 hR;have VF:S5 APr APr pl ((rt i:Nat):Int)=false:=by
    rw[Bool.eq_false_iff];intro h;obtain⟨k,hk,ek⟩:=hP.has _ h;exact po _ (Vb rt i k hk).1 ek
   have sZ:B5 rt (i+1)=B5 rt i++[i]:=by rw[B5,AMo hR]
   rw[VF,ANo,AMm];have hol:((B5 rt i).map (cV rt y vs i)).length=(B5 rt i).length:=AMi _;have e3:DI a (i:Int) ((rt i:Nat):Int) (ns:Int) x' y v k0 ((B5 rt i).map (cV rt y vs i)) (((B5 rt i).map (cV rt y vs i)).length:Int) (Ch APr APr pl ((rt i:Nat):Int) (((B5 rt i).map (cV rt y vs i)).length:Int))=some (bif decide (gI y (rt i)>=0)then(true,(gB vs (gI y (rt i)).toNat).1,(gB vs (gI y (rt i)).toNat).2.1)else(false,0,[])):=by
    unfold DI;simp only[AL7];rw[AMo (show(0:Int)<=((rt i:Nat):Int)/\((rt i:Nat):Int)<(y.length:Int) by omega)];show(bif decide (gI y (rt i)>=0)then _ else _)=_;cases hd:decide (gI y (rt i)>=0)with
    |false=>rfl
    |true =>
     have hd:gI y (rt i)>=0:=of_decide_eq_true hd;rw[AMm,AMm];have hF:=J.fx_ _ hri hrr;rcases hF with ⟨h,_⟩|⟨q,h,h3,h4,h5,_⟩
     ·omega
     ·have hb:=J.vl q h4 h3;have hbw:=(J.bw q h4).1;show(De (Bn APr Ah v (gI y (rt i)))).bind _=_;rw[h,AL7];rw[show Bn APr Ah v (q:Int)=gB vs q from hb];unfold De;rw[Vk];rfl
   rw[e3,AL6,AMo (by rw[AMq];omega),AL6];simp only;generalize hbv:(bif decide (gI y (rt i)>=0)then(true,(gB vs (gI y (rt i)).toNat).1,(gB vs (gI y (rt i)).toNat).2.1)else(false,0,[]):Bool×Int×AOz)=bv;have XK:cV rt y vs (i+1) i=([(i:Int)],bv.1,(bv.2.1,bv.2.2,()),()):=by
    have hm:Pz rt i i=[]:=by
     have:∀n,n<=i->Pz rt n i=[]:=λn=>by
      induction n with
      |zero=>intro _;rfl
      |succ n ih=>intro h;rw[Pz,AMp (po n (by omega))];exact ih (by omega)
     exact this i (AMc _)
    unfold cV;rw[Pz,AMo rfl,hm,<-hbv];cases decide (gI y (rt i)>=0)<;>rfl
   simp only[AL7];have hgl:(((B5 rt i).map (cV rt y vs i))++[(([]:AOz),bv.1,(bv.2.1,bv.2.2,()),())]).getD ((B5 rt i).map (cV rt y vs i)).length Ao.zero=(([]:AOz),bv.1,(bv.2.1,bv.2.2,()),()):=by simp[List.getD]
   rw[hgl];have hal:(((((B5 rt i).map (cV rt y vs i))++[(([]:AOz),bv.1,(bv.2.1,bv.2.2,()),())]):AOK).length:Int)=(((B5 rt i).map (cV rt y vs i)).length:Int)+1:=by rw[AMa,AMq];omega
   rw[hal,Vk,AMo (by rw[AMq];simp),Vk,AMo trivial,hw];refine Ay.mk ⟨ns-(i+1),by omega,i+1,rfl,by omega,rfl,⟨dp,hf'⟩,by simp only;omega,rfl,rfl,?_,?_⟩
   ·simp only;rw[sZ,AMQ,ANs _ _ (AMc _),Nat.sub_self];have hmm:(B5 rt i).map (cV rt y vs (i+1))=(B5 rt i).map (cV rt y vs i):=AMV λb hb=>by
     obtain⟨k,hk,e⟩:=List.mem_iff_getElem.1 hb;have ACn:=(Vb rt i k hk).1;rw[show rp rt i k=b by rw[<-e];simp[rp,List.getD,hk]]at ACn;unfold cV;rw[Pz,AMp (Ne.symm (po b ACn))]
    rw[hmm];show _=_++[cV rt y vs (i+1) i];rw[XK];rfl
   ·have AKD:(B5 rt (i+1)).length=(B5 rt i).length+1:=by rw[sZ,AMa,AMq]
    have hg1:∀k,k<(B5 rt i).length->rp rt (i+1) k=rp rt i k:=λk hk=>by unfold rp;rw[sZ];simp[List.getD,AMw,hk]
    have hg2:rp rt (i+1) (B5 rt i).length=i:=by unfold rp;rw[sZ];simp[List.getD]
    refine⟨λk hk=>?_,λr hr=>?_⟩
    ·by_cases e:k<(B5 rt i).length
     ·have Nk:((rt (rp rt i k):Nat):Int)≠((rt i:Nat):Int):=λh=>po _ (Vb rt i k e).1 (by omega);rw[hg1 k e,V6 (vt:=.int .i64),Rk (vt:=.int .i64),AMp Nk,(hP.AZ k e).1,(hP.AZ k e).2,Bool.or_true];exact⟨rfl,rfl⟩
     ·have:k=(B5 rt i).length:=by omega
      subst this;rw[hg2,V6 (vt:=.int .i64),Rk (vt:=.int .i64),AMo rfl,AMb rfl,Bool.true_or,hol];exact⟨rfl,rfl⟩
    ·rw[V6 (vt:=.int .i64),ANp,ANQ]at hr;rcases hr with hr |hr
     ·exact⟨(B5 rt i).length,by omega,by rw[hg2];omega⟩
     ·obtain⟨k,hk,ek⟩:=hP.has r hr;exact⟨k,by omega,by rw[hg1 k hk];exact ek⟩
 ·have:i=ns:=by omega
  subst this;rw[Fb,AMl];exact Ay.mk rfl
variable {H:AOk->AOk->Prop}
theorem oz{ns N:Nat}{ld fx:AOz}{vm:APH AOS}{ks:AOD}{vs:AOI}{Bq:AOz}{rt:Nat->Nat}(J:JN H ns N ld fx vm ks vs Bq rt)(hN:N<=1999990)(b:Int)(c:AOt) :
    Ay (J4 (ns:Int) b c 0 [] vs ks Bq) (·=(B5 rt ns).map (cV rt fx vs ns)):=by
 have hnn:=J.nn;have fJ:=J.l2;have hl3:=J.l3;have ze:=J.l4;obtain⟨dp,hf⟩:=J.fo;unfold J4;refine Bu (λm (s:Int×AOK×AOI×AOD×AOz)=>∃i:Nat,s.1=(i:Int)/\i<=ns/\m=ns-i/\s.2.1=(B5 rt i).map (cV rt fx vs ns)/\s.2.2.1=vs/\s.2.2.2.1=ks/\s.2.2.2.2=Bq) (λm s hI=>?_) ns (0,[],vs,ks,Bq) ⟨0,rfl,AMS _,rfl,rfl,rfl,rfl,rfl⟩;obtain⟨i,e1,hi,rfl,e2,e3,e4,e5⟩:=hI;obtain⟨g,out,v,k0,l⟩:=s;simp only at e1 e2 e3 e4 e5;subst e1;subst e2;subst e3;subst e4;subst e5;unfold H9 Mh;simp only;rcases AMh i ns with Bm |YC
 ·have hw:wI ((i:Int)+1)=((i+1:Nat):Int):=A1;obtain⟨o1,o2,o3⟩:=J.lo i (by omega);have hrl:=bP rt i;have hri:rt i<N:=by have:=(hf.Xg i (by have:=J.l1;omega)).1;have:=J.l1;omega
  rw[Dy Bm,AMm];unfold J0;simp only[AL7];rw[AMo (Bl (show i<l.length by omega))];cases hR:isR rt i with
  |false =>
   obtain⟨j,hj,ej⟩:=pJ hR;have h1:=(J.sm j i (by omega) (by omega)).2 ej;have h2:=(J.lo j (by omega)).2.1;have sZ:B5 rt (i+1)=B5 rt i:=by rw[B5,AMp (by rw[hR];simp)]
   rw[show decide (l.getD i APr.zero<(i:Int))=true from AMb (show gI l i<(i:Int) by omega),AMm,AL6,hw];exact Ay.mk ⟨ns-(i+1),by omega,i+1,rfl,by omega,rfl,by simp only;rw[sZ],rfl,rfl,rfl⟩
  |true =>
   have po:=pI.1 hR;have XN:gI l i=(i:Int):=by
    rcases Int.lt_or_eq_of_le o2 with h |h
    ·exfalso
     have h3:=(J.sm (gI l i).toNat i (by omega) (by omega)).1 (by rw[o3]);exact po _ (by omega) h3
    ·exact h
   have sZ:B5 rt (i+1)=B5 rt i++[i]:=by rw[B5,AMo hR]
   rw[show decide (l.getD i APr.zero<(i:Int))=false from AL9 (show ¬gI l i<(i:Int) by omega),AMl];have wQ:Pz rt i i=[]:=by
    have:∀n,n<=i->Pz rt n i=[]:=λn=>by
     induction n with
     |zero=>intro _;rfl
     |succ n ih=>intro h;rw[Pz,AMp (po n (by omega))];exact ih (by omega)
    exact this i (AMc _)
   obtain⟨x,ex,hx⟩:Ay (JZ (ns:Int) b (i:Int) c ((B5 rt i).map (cV rt fx v ns)) v k0 l (i:Int) []) (·=Pz rt ns i):=by
    unfold JZ;refine Bu (λm (s:Int×AOz)=>∃k:Nat,s.1=(k:Int)/\i<=k/\k<=ns/\m=ns-k/\s.2=Pz rt k i) (λm s hI=>?_) (ns-i) ((i:Int),[]) ⟨i,rfl,AMc _,hi,rfl,wQ.symm⟩;obtain⟨k,q1,q2,q3,rfl,q4⟩:=hI;obtain⟨w,x⟩:=s;simp only at q1 q4;subst q1;subst q4;unfold H8 Mg JY;simp only;rcases AMh k ns with hk |hk
    ·have kH:wI ((k:Int)+1)=((k+1:Nat):Int):=A1;have wR:=bn rt i k;rw[Dy hk,AMm];simp only[AL7];rw[AMo (Bl (show k<l.length by omega))];have hE:=J.sm k i (by omega) (by omega);rw[XN]at hE;by_cases e:rt k=rt i
     ·rw[show(l.getD k APr.zero==(i:Int))=true from beq_iff_eq.2 (hE.2 e),AMm,AMo (by rw[AMq];omega),AL6,kH];exact Ay.mk ⟨ns-(k+1),by omega,k+1,rfl,by omega,by omega,rfl,by rw[Pz,AMo e]⟩
     ·rw[show(l.getD k APr.zero==(i:Int))=false from beq_eq_false_iff_ne.2 λh=>e (hE.1 h),AMl,AL6,kH];exact Ay.mk ⟨ns-(k+1),by omega,k+1,rfl,by omega,by omega,rfl,by rw[Pz,AMp e]⟩
    ·have:k=ns:=by omega
     subst this;rw[Fb,AMl];exact Ay.mk rfl
   subst hx;obtain⟨w1,f1,v1,rfl,F1⟩:=iC (rt:=rt) (ns:=ns) (vs:=v) (Bq:=l) (by omega) (λi j hi hj=>J.sm i j (by omega) (by omega)) (λi hi=>J.wd i (by omega)) (by omega) (b:=i) (by omega) b k0;rw[ze]at F1;have fO:v1=gI fx (rt i):=F1.uniq (J.fx_ _ hri (hf.Z3 i));rw[ex,AL6,f1,AL6];simp only;have e16:G5 (ns:Int) b (i:Int) c ((B5 rt i).map (cV rt fx v ns)) (Pz rt ns i) v1 v k0 l=some (bif decide (gI fx (rt i)>=0)then(true,(gB v (gI fx (rt i)).toNat).1,(gB v (gI fx (rt i)).toNat).2.1)else(false,0,[])):=by
    unfold G5;rw[fO];cases hd:decide (gI fx (rt i)>=0)with
    |false=>rfl
    |true =>
     have hd:gI fx (rt i)>=0:=of_decide_eq_true hd;rw[AMm,AMm];rw[fO]at F1;have AKp:=F1.ge;have hbw:=(J.bw (gI fx (rt i)).toNat (by omega)).1;rw[AMo ⟨hd,by omega⟩];unfold OS;rw[AMo (show(gB v (gI fx (rt i)).toNat).2.1.length*8<=140737488355328 by omega)];rfl
   rw[e16,AL6,AMo (by rw[AMi,AMq];omega),AL6,hw];refine Ay.mk ⟨ns-(i+1),by omega,i+1,rfl,by omega,rfl,?_,rfl,rfl,rfl⟩;simp only;rw[sZ,AMQ];congr 1;show[_]=[cV rt fx v ns i];unfold cV;cases decide (gI fx (rt i)>=0)<;>rfl
 ·have:i=ns:=by omega
  subst this;rw[Fb,AMl];exact Ay.mk rfl
theorem b5{ns:Nat}(h:ns<=1000000):∃ld fx vs Bq,L8 (ns:Int)=some (0,ld,fx,[])/\Uz (ns:Int)=some (0,vs,Bq)/\JN H ns ns ld fx [] [] vs Bq (λa=>a):=by
 have hg:∀{i},i<ns->gI ((List.range ns).map Int.ofNat) i=(i:Int):=λ{i} hi=>Ik (g:=Int.ofNat) hi;refine⟨(List.range ns).map Int.ofNat,List.replicate ns (-1),List.replicate ns (0,[],()),(List.range ns).map Int.ofNat,?_,?_,?_⟩
 ·unfold L8 P5;have:=AU (f:=D4 (ns:Int)) (λk=>((k:Int),(List.range k).map Int.ofNat,List.replicate k (-1))) (t:=((List.range ns).map Int.ofNat,List.replicate ns (-1))) ns (λk hk=>?_) ?_
  ·exact(congrArg (λo=>Option.bind o λb=>some ((0:Int),b.1,b.2,([]:APH AOS))) this).trans rfl
  ·unfold D4 II;simp only;rw[Dy hk,AMm,AMo (by simp;omega),AMo (by simp;omega),A1 (n:=k+1),CN,AOf];rfl
  ·unfold D4 II;simp only;rw[Fb,AMl]
 ·unfold Uz Vz;rw[AMo ⟨rfl,by omega,ANx _,by omega,by omega⟩,AL7];have:=AU (f:=HN (ns:Int) (List.replicate ns (0,[],()))) (λk=>((k:Int),(List.range k).map Int.ofNat)) (t:=(List.range ns).map Int.ofNat) ns (λk hk=>?_) ?_
  ·exact(congrArg (λo=>Option.bind o λc=>some ((0:Int),(List.replicate ns (0,[],()):AOI),c)) this).trans rfl
  ·unfold HN OT;simp only;rw[Dy hk,AMm,AMo (by simp;omega),A1 (n:=k+1),CN];rfl
  ·unfold HN OT;simp only;rw[Fb,AMl]
 ·have hB:∀{i},i<ns->gB (List.replicate ns (0,[],())) i=(0,[],()):=λ{i} hi=>by simp[gB,List.getD,hi]
  refine⟨⟨λ_=>0,λa ha=>?_,λa ha=>?_,λ_ _=>rfl⟩,by simp,by simp,by simp,by simp,AMc _,λi j hi hj=>?_,λi hi=>?_,λi hi=>?_,λi hi hn=>?_,λi hi=>?_,λi hi hr=>?_,λl hl=>?_,λi j hi hj h'=>?_,λi j i1 i2=>by omega,λl hl=>(by cases hl)⟩
  ·have ha:a<ns:=by simpa using ha
   exact⟨a,by simpa using ha,hg ha,rfl,.inl ⟨rfl,rfl⟩⟩
  ·have ha':a<ns:=by simpa using ha
   exact⟨ha,rfl,hg ha'⟩
  ·rw[hg hi,hg hj];omega
  ·rw[hg hi,AL7,hg hi];omega
  ·rw[hB hi];exact⟨λh'=>by exact absurd h' (by decide),λh'=>by omega⟩
  ·omega
  ·rw[hB hi];exact⟨by decide,by decide,λx hx=>by cases hx⟩
  ·refine .inl ⟨by simp[gI,List.getD,hi],λj h1 h2=>by omega⟩
  ·cases hl
  ·have:i=j:=h';subst this;exact .refl _
def HL(d:AOE)(l:AOG)(f:Nat->Nat->Bool)(A B:AOk):Prop:=∃i,i<l.length/\∃x∈kg d l f i,x.1=A/\x.2.1=B
def AEB(d:AOE)(l:AOG)(f:Nat->Nat->Bool)(C:AOK):Prop :=
 ∃N ld fx vm ks vs Bq rt,JN (HL d l f) (SL d (Ai d f) d.length).length N ld fx vm ks vs Bq rt/\C=(B5 rt (SL d (Ai d f) d.length).length).map (cV rt fx vs (SL d (Ai d f) d.length).length)/\∀i,i<l.length->(l.getD i Af.zero).2.1=true->∀x∈kg d l f i,P1 (SL d (Ai d f) d.length).length rt vs x
theorem gY{d:AOE}{l:AOG}{c:AON}{f:Nat->Nat->Bool}(hd:Az d)(hl:∀x∈l,Ht x)(Hw:CU d l)(hs:BD d l)(hf:Y5 d l c f)(ec:Cj d l (c,())=some ((Ai d f,()),true)) :
    ∃X Y,G0 0 d l ((List.range l.length).map (Nn d l)) (Ai d f) (SL d (Ai d f) d.length) (fH (SL d (Ai d f) d.length) (SL d (Ai d f) d.length).length)=some X/\Ja d l (c,())=some (Y,true)/\Y.1=(Ai d f,()) /\
     ((X.2.2.2.2.2.2.2≠[]/\Y.2.2.1≠[]/\Clh (HL d l f) (SL d (Ai d f) d.length).length)\/(X.2.2.2.2.2.2.2=[]/\Y.2.2.1=[]/\X.2.2.2.2.1=SL d (Ai d f) d.length/\X.2.2.2.2.2.2.1=Y.2.1/\X.1=d/\AEB d l f Y.2.1)):=by
 obtain⟨VD,hc⟩:=ET hd f;have cX:=hd.1;have fK:=Hw.1;have Iw:=Zt hd VD d.length (AMc _);obtain⟨ld,fx,vs,Bq,e1,e2,J⟩:=b5 (H:=HL d l f) (ns:=(SL d (Ai d f) d.length).length) (by omega);obtain⟨x,y,ex,ey,hR⟩:=pO (λi hi x hx=>⟨i,hi,x,hx,rfl,rfl⟩) hd hl Hw hs hf.cl hf.Xg 0 0 ((SL d (Ai d f) d.length).length:Int) 0 l.length 0 _ ld fx [] [] vs Bq _ (by omega) J (by omega) (by simp;omega);have e0:((0:Nat):Int)=0:=rfl;rw[e0]at ex ey;unfold G0 Ja;rw[e1,AL6,ec,AL6];simp only[AMP,AMl];rw[Vw hd VD hc,AL6,e2,AL6];simp only;rw[ex,ey,AL6,AL6];rcases hR with ⟨w,z,rfl,rfl,n1,n2,n3⟩|⟨eh,vi,vu,Tv,YR,Y2,fv,N',rfl,rfl,J',q1,_,q3⟩
 ·simp only[ANn];exact⟨_,_,rfl,rfl,rfl,.inl ⟨n1,n2,n3⟩⟩
 ·simp only[AM4];obtain⟨r,er,hr⟩:=ow J' q1 0;obtain⟨r',er',rfl⟩:=oz J' q1 0 (Ai d f,());rw[er,er',AL6,AL6];exact⟨_,_,rfl,rfl,rfl,.inr ⟨rfl,rfl,rfl,hr,rfl,N',eh,vi,vu,Tv,YR,Y2,fv,J',rfl,λi hi=>q3 i (AMS _) hi⟩⟩
def Ms(l:AOG):AOG:=l.filter λx=>x.2.1
theorem jO{l:AOG}{k:Nat}(hk:k<l.length):Ms (l.take (k+1))=if(l.getD k Af.zero).2.1=true then Ms (l.take k)++[l.getD k Af.zero]else Ms (l.take k):=by
 have e:l.getD k Af.zero=l[k]:=by simp[List.getD,hk]
 unfold Ms;rw[AM6 hk,AN7,e];cases h:(l[k]).2.1 with
 |true=>rw[AMo rfl];simp[h]
 |false=>rw[AMp (by simp)];simp[h]
theorem yO(l:AOG)(k:Nat):(Ms (l.take k)).length<=k:=AMA (ANV _ _) (by rw[AMr];omega)
theorem wY{l:AOG}(hl:l.length<=1048576):Kq l=some (Ms l):=by
 unfold Kq OX;have:=AU (f:=Dr l (l.length:Int)) (λk=>((k:Int),Ms (l.take k))) (t:=Ms l) l.length (λk hk=>?_) ?_
 ·exact(congrArg (λo=>Option.bind o λc=>some c) this).trans rfl
 ·unfold Dr HU JB;simp only[AL7];have h1:=yO l k;rw[Dy hk,AMm,AMo (Bl hk),A1 (n:=k+1),jO hk];cases h:(l.getD k Af.zero).2.1 with
  |true=>rw[AMm,AMo (by rw[AMq];omega),AMo rfl];rfl
  |false=>rw[AMl,AMp (by simp)];rfl
 ·unfold Dr HU;simp only[ANM];rw[Fb,AMl]
theorem xF{l:AOG}(hl:l.length<=1048576):KN l=some (Ms l):=by
 unfold KN Rs;have:=AU (f:=EA l) (λk=>((k:Int),Ms (l.take k))) (t:=Ms l) l.length (λk hk=>?_) ?_
 ·exact(congrArg (λo=>Option.bind o λc=>some c) this).trans rfl
 ·unfold EA J9 MQ;simp only[AL7];have h1:=yO l k;rw[Dy hk,AMm,AMo (Bl hk),A1 (n:=k+1),jO hk];cases h:(l.getD k Af.zero).2.1 with
  |true=>rw[AMm,AMo (Bl hk),AMo (by rw[AMq];omega),AMo rfl];rfl
  |false=>rw[AMl,AMp (by simp)];rfl
 ·unfold EA J9;simp only[ANM];rw[Fb,AMl]
theorem tz{d:AOE}(hd:d.length<=1048576):Sd d=some (List.replicate d.length []):=by
 unfold Sd;rw[AMo ⟨rfl,by omega,ANx _,by omega,by omega⟩,AL7]
theorem eF{d:AOE}(hd:d.length<=1048576):Ps d=some (List.replicate d.length []):=by
 unfold Ps Uw;have:=AU (f:=GM d) (λk=>((k:Int),List.replicate k [])) (t:=List.replicate d.length []) d.length (λk hk=>?_) ?_
 ·exact(congrArg (λo=>Option.bind o λc=>some c) this).trans rfl
 ·unfold GM M9;simp only;rw[Dy hk,AMm,AMo (by simp;omega),A1 (n:=k+1),AOf]
 ·unfold GM M9;simp only;rw[Fb,AMl]
theorem mH{d:AOE}(hd:Az d):CS d (List.replicate d.length [])/\Xi (List.replicate d.length []):=by
 have cX:=hd.1;refine⟨⟨by simp,λv hv=>?_⟩,by simp;omega,λx hx=>?_⟩
 ·have:Dp (List.replicate d.length []) v=[]:=by unfold Dp;simp[List.getD,hv]
  rw[this];exact λi hi=>by simp at hi
 ·rw[(List.mem_replicate.1 hx).2];simp
theorem AsE{d:AOE}{l:AOG}(h:CU d l):∀{i j:Nat},i<j->j<l.length->Z9 l i<Z9 l j:=λ{i j} sK hj=>by
 induction j with
 |zero=>omega
 |succ j ih =>
  have h1:=(h.2 (j+1) hj).2.1 (by omega);rw[AMJ]at h1;by_cases e:i=j
  ·subst e;exact h1
  ·exact Int.lt_trans (ih (by omega) (by omega)) h1
theorem AeM{l:AOG}:∀(n:Nat),∃g:Nat->Nat,(∀i,i<(Ms (l.take n)).length->g i<n/\g i<l.length/\(Ms (l.take n)).getD i Af.zero=l.getD (g i) Af.zero)/\∀i j,i<j->j<(Ms (l.take n)).length->g i<g j
 |0=>⟨λi=>i,λi h=>by simp[Ms]at h,λi j _ h=>by simp[Ms]at h⟩
 |n+1=>by
  obtain⟨g,h1,h2⟩:=AeM (l:=l) n;by_cases hn:n<l.length
  ·rw[jO hn];split
   ·refine⟨λi=>if i<(Ms (l.take n)).length then g i else n,λi hi=>?_,λi j sK hj=>?_⟩
    ·rw[AMa,AMq]at hi;simp only;by_cases e:i<(Ms (l.take n)).length
     ·obtain⟨a1,a2,a3⟩:=h1 i e;rw[AMo e];exact⟨by omega,a2,by rw[<-a3];simp[List.getD,AMw,e]⟩
     ·have:i=(Ms (l.take n)).length:=by omega
      rw[AMp e];exact⟨by omega,hn,by subst this;simp[List.getD]⟩
    ·rw[AMa,AMq]at hj;simp only;rw[Vk];by_cases e:j<(Ms (l.take n)).length
     ·rw[AMo e];exact h2 i j sK e
     ·rw[AMp e];exact(h1 i (by omega)).1
   ·exact⟨g,λi hi=>by obtain⟨a1,a2,a3⟩:=h1 i hi;exact⟨by omega,a2,a3⟩,h2⟩
  ·rw[AMg (by omega)]at h1 h2⊢;exact⟨g,λi hi=>by obtain⟨a1,a2,a3⟩:=h1 i hi;exact⟨by omega,a2,a3⟩,h2⟩
theorem AeN{d:AOE}{l:AOG}(Hw:CU d l)(hs:BD d l):CU d (Ms l)/\BD d (Ms l):=by
 obtain⟨g,h1,h2⟩:=AeM (l:=l) l.length;rw[ANM]at h1 h2;have fK:=Hw.1;have UF:(Ms l).length<=l.length:=ANV _ _;have eI:∀i,i<(Ms l).length->Z9 (Ms l) i=Z9 l (g i)/\lS (Ms l) i=lS l (g i)/\lT (Ms l) i=lT l (g i):=λi hi=>by
  have:=(h1 i hi).2.2;unfold Z9 lS lT li;rw[this];exact⟨rfl,rfl,rfl⟩
 refine⟨⟨by omega,λi hi=>?_⟩,λi hi=>?_⟩
 ·obtain⟨a1,a2,a3⟩:=eI i hi;obtain⟨b1,b2,b3,b4⟩:=Hw.2 (g i) (h1 i hi).2.1;refine⟨by rw[a1];exact b1,λh0=>?_,by rw[a2];exact b3,by rw[a2,a3];exact b4⟩;rw[a1,(eI (i-1) (by omega)).1];exact AsE Hw (h2 (i-1) i (by omega) hi) (h1 i hi).2.1
 ·obtain⟨a1,a2,a3⟩:=eI i hi;have:=hs (g i) (h1 i hi).2.1;unfold gq at this⊢;rw[a2,a3];exact this
abbrev s1(x:AOm):Int:=x.1
abbrev s2(x:AOm):Int:=x.2.1
abbrev s3(x:AOm):Int:=x.2.2.1
def Bef(x y:AOm):Prop:=s1 x<s1 y\/(s1 x=s1 y/\s2 x+s3 x<=s2 y)
theorem qc(v:Nat):∀(l:AOz) (low:Int),l.Pairwise (·<·)->(∀p∈l,low<p)->(Ul v low l).Pairwise Bef/\∀x∈Ul v low l,s1 x=(v:Int)/\low<=s2 x/\0<s3 x
 |[],_,_,_=>⟨List.Pairwise.nil,λx hx=>by cases hx⟩
 |p::l,low,h,hl=>by
  obtain⟨h1,h2⟩:=List.pairwise_cons.1 h;obtain⟨i1,i2⟩:=qc v l p h2 h1;have hp:=hl p AMB;refine⟨List.pairwise_cons.2 ⟨λy hy=>?_,i1⟩,λx hx=>?_⟩
  ·obtain⟨e1,e2,_⟩:=i2 y hy;refine .inr ⟨e1.symm,?_⟩;show low+(p-low)<=s2 y;omega
  ·rcases List.mem_cons.1 hx with rfl |hx
   ·grind
   grind
theorem jB(v:Nat)(q:Int):∀(l:AOz) (low:Int),low<=q->q<Gt low l->∃x∈Ul v low l,s1 x=(v:Int)/\s2 x<=q/\q<s2 x+s3 x
 |[],low,h1,h2=>by have h2:q<low:=h2;omega
 |p::l,low,h1,h2=>by
  rw[show Gt low _=Gt p l by cases l<;>rfl]at h2;by_cases h:q<p
  ·exact⟨_,AMB,rfl,h1,by grind⟩
  ·obtain⟨x,hx,h3⟩:=jB v q l p (by omega) h2;exact⟨x,AMy _ hx,h3⟩
theorem zD(v:Nat){M:Int}:∀(l:AOz) (low:Int),(∀p∈l,p<=M)->∀x∈Ul v low l,s2 x+s3 x<=M
 |[],_,_,x,hx=>by cases hx
 |p::l,low,h,x,hx=>by
  rcases List.mem_cons.1 hx with rfl |hx
  ·have:=h p AMB;show low+(p-low)<=M;omega
  ·exact zD v l p (λq hq=>h q (AMy _ hq)) x hx
section
variable {d:AOE} {c:AON}
theorem oI(hd:Az d)(hc:CS d c){v:Nat}(hv:v<d.length):(CJ d c v).Pairwise (·<·)/\(∀p∈CJ d c v,0<p)/\Gt 0 (CJ d c v)=(W d v:Int):=by
 refine⟨List.pairwise_iff_getElem.2 λi j hi hj sK=>?_,λp hp=>?_,?_⟩
 ·have:=aN hd hc hv sK hj;simpa [Jp,hi,hj]using this
 ·obtain⟨i,hi,rfl⟩:=AM5 hp;have:=(aM hd hc hv hi).1;simp[Jp,hi]at this;omega
 ·unfold Gt CJ;simp;exact(NK hd hv).1
theorem yf(hd:Az d)(hc:CS d c):∀n,n<=d.length->(SL d c n).Pairwise Bef/\∀x∈SL d c n,s1 x<(n:Int)/\0<=s2 x/\0<s3 x
 |0,_=>⟨List.Pairwise.nil,λx hx=>by cases hx⟩
 |n+1,hn=>by
  obtain⟨h1,h2⟩:=yf hd hc n (by omega);obtain⟨e1,e2,_⟩:=oI hd hc (v:=n) (by omega);obtain⟨r1,r2⟩:=qc n (CJ d c n) 0 e1 e2;rw[nS];refine⟨List.pairwise_append.2 ⟨h1,r1,λx hx y hy=>.inl ?_⟩,λx hx=>?_⟩
  ·grind
  grind
def x8(L:AOD)(m v x w:Nat):Prop:=m<L.length/\kT L m=((v:Int),(x:Int),(w:Int),())
theorem AC7(hd:Az d)(hc:CS d c){v a:Nat}(hv:v<d.length)(ha:a<W d v):∃m x w j,x8 (SL d c d.length) m v x w/\j<w/\a=x+j:=by
 obtain⟨e1,e2,e3⟩:=oI hd hc hv;obtain⟨y,hy,h1,h2,h3⟩:=jB v a (CJ d c v) 0 (by omega) (by omega);have hm:y∈SL d c _:=List.mem_flatMap.2 ⟨v,List.mem_range.2 hv,hy⟩;obtain⟨_,g1,g2⟩:=(yf hd hc _ (AMc _)).2 y hm;obtain⟨m,Tj,RG⟩:=AM5 hm;obtain⟨y1,y2,y3,y4⟩:=y;simp only[s1,s2,s3]at h1 h2 h3 g1 g2;refine⟨m,y2.toNat,y3.toNat,a-y2.toNat,⟨Tj,?_⟩,by omega,by omega⟩;have h5:kT (SL d c d.length) m=(SL d c _)[m]:=by simp[kT,Tj]
 grind
theorem zH(hd:Az d)(hc:CS d c){m m' v x w x' w' j j':Nat}(h:x8 (SL d c d.length) m v x w)(h':x8 (SL d c d.length) m' v x' w')(hj:j<w)(QZ:j'<w')(e:x+j=x'+j'):m=m':=by
 have hp:=List.pairwise_iff_getElem.1 (yf hd hc d.length (AMc _)).1;have g:∀{m v x w},x8 (SL d c d.length) m v x w->(SL d c d.length)[m]?=some ((v:Int),(x:Int),(w:Int),()):=λ{m v x w} h=>by
  rw[<-h.2];simp[kT,h.1]
 have g1:=g h;have g2:=g h';have key:∀{m m' x w x' w' j j':Nat},(SL d c d.length)[m]?=some ((v:Int),(x:Int),(w:Int),())->(SL d c d.length)[m']?=some ((v:Int),(x':Int),(w':Int),())->m<m'->j<w->j'<w'->x+j≠x'+j':=λ{m m' x w x' w' j j'} a b Bm hj QZ e=>by
  obtain⟨a1,a2⟩:=List.getElem?_eq_some_iff.1 a;obtain⟨b1,b2⟩:=List.getElem?_eq_some_iff.1 b;have:=hp m m' a1 b1 Bm;rw[a2,b2]at this;rcases this with h |⟨_,h⟩
  ·grind
  ·grind
 grind
theorem AC8(hd:Az d)(hc:CS d c){m:Nat}(hm:m<(SL d c d.length).length):∃v x w:Nat,x8 (SL d c d.length) m v x w/\v<d.length/\0<w:=by
 have hx:kT _ m∈SL d c _:=AJ hm;obtain⟨g0,g1,g2⟩:=(yf hd hc _ (AMc _)).2 _ hx;obtain⟨v,j,hv,_,e⟩:=nR.1 hx;have e1:(kT (SL d c d.length) m).1=v:=by rw[e]
 generalize hs:kT _ m=s at *;obtain⟨y1,y2,y3,y4⟩:=s;simp only[s2,s3]at g1 g2 e1;exact⟨v,y2.toNat,y3.toNat,⟨hm,by grind⟩,hv,by omega⟩
theorem AlS(hd:Az d)(hc:CS d c){m v x w:Nat}(h:x8 (SL d c d.length) m v x w):v<d.length/\x+w<=W d v:=by
 have hx:kT _ m∈SL d c _:=AJ h.1;obtain⟨u,hu,hy⟩:=List.mem_flatMap.1 hx;have hu:=List.mem_range.1 hu;obtain⟨e1,e2,e3⟩:=oI hd hc hu;have g1:=((qc u _ 0 e1 e2).2 _ hy).1;have hb:∀p∈CJ d c u,p<=(W d u):=λp hp=>by
  obtain⟨k1,_,_⟩:=NK hd hu;rcases List.mem_append.1 hp with hp |hp
  ·obtain⟨i,hi,rfl⟩:=AM5 hp;have:=(hc.2 u hu i hi).2.1;simp[Jp,hi]at this;omega
  ·grind
 have g2:=zD u _ 0 hb _ hy;rw[h.2]at g1 g2
 grind
end
inductive BE (E:Bt->Bt->Prop):Bt->Bt->Prop
 |refl (a:Bt):BE E a a
 |oY {a b c:Bt}:BE E a b->E b c->BE E a c
 |bwd {a b c:Bt}:BE E a b->E c b->BE E a c
theorem BE.trans{E:Bt->Bt->Prop}{a b c:Bt}(h:BE E a b)(k:BE E b c):BE E a c:=by
 induction k with
 |refl=>grind
 |oY _ e ih=>exact .oY ih e
 |bwd _ e ih=>exact .bwd ih e
theorem BE.symm{E:Bt->Bt->Prop}{a b:Bt}(h:BE E a b):BE E b a:=by
 induction h with
 |refl=>exact .refl _
 |oY _ e ih=>exact(BE.bwd (.refl _) e).trans ih
 |bwd _ e ih=>exact(BE.oY (.refl _) e).trans ih
def EL(d:AOE)(l:AOG)(x y:Bt):Prop:=∃i,i<l.length/\∃p,p<(b1 d l i).length/\x=PH (b1 d l i) p/\y=PH (b2 d l i) p
def NBt(L:AOD)(vs:AOI)(y w j:Nat)(t:Bt):Prop:=j<w/\((∃v x,x8 L y v x w/\t=.va v (x+j))\/(L.length<=y/\∃bs:AOA,gB vs y=XU bs/\bs.length=w/\w<=4096/\t=.co (bs.getD j false)))
theorem gM{bs:AOA}{k:Nat}(h:k<bs.length):bt (XU bs).2.1 k=bs.getD k false:=oe h
theorem br{a b:AOA}(h:XU a=XU b):a=b:=by
 have hl:a.length=(b.length:Int):=congrArg (λx =>x.1) h;refine AM1 (by omega) λk h1 h2=>?_;have e1:=gM h1;have e2:=gM h2;rw[h,e2]at e1;simpa [h1,h2]using e1.symm
theorem NBt.uniq{L:AOD}{vs:AOI}{y w w' j j':Nat}{t t':Bt}(h:NBt L vs y w j t)(h':NBt L vs y w' j' t'):w=w'/\(j=j'->t=t'):=by
 rcases h.2 with ⟨v,x,⟨a1,a2⟩,rfl⟩|⟨a1,bs,a2,rfl,_,rfl⟩<;>rcases h'.2 with ⟨v',x',⟨b1,b2⟩,rfl⟩|⟨b1,Ga,b2,rfl,_,rfl⟩
 ·grind
 ·omega
 ·omega
 ·have:=br (a2.symm.trans b2)
  grind
section
variable {d:AOE} {c:AON}
theorem oZ{B:APH Bt}{a b i k:Nat}(S:eW d c B a b i k)(hB:Bg d B){vs:AOI}{n:Nat}(hn:Nd (SL d c d.length).length vs (Nj (SL d c d.length) B a b) n){j:Nat}(hj:j<b-a):NBt (SL d c d.length) vs n (b-a) j (PH B (a+j)):=by
 have hk:=S.hk;have PR:=S.le;have hBl:=hB.2.1;have e0:=fX S;have e1:PH B (a+j)=((Ax B).getD i (.co [])).bits.getD (k+j) (.co false):=by
  have:=congrArg (λl =>l[j]?) (nh S);simp only[AM9,AN6,hj,AMR]at this;show B[a+j]?.getD _=(((Ax B).getD i _).bits)[k+j]?.getD _;rw[this]
 refine⟨hj,?_⟩;cases hs:(Ax B).getD i _ with
 |co x =>
  rw[hs]at e0 e1 hk;simp only[Sg.w]at hk;rw[show(Sg.co x).bits=x.map _ from rfl,FZ _ (y:=false) (by omega)]at e0 e1;have hc:=oC S hs;unfold Nj at hn;rw[e0]at hn;rcases hn with ⟨h,_⟩|⟨_,h1,_,h2⟩
  ·grind
  grind
 |va v l n' =>
  obtain⟨m,hm,Tj,RG⟩:=S.va v l n' hs;rw[hs]at e0 e1 hk;simp only[Sg.w]at hk;rw[show(Sg.va v l n').bits=(List.range n').map _ from rfl,Ik (by omega)]at e0 e1;unfold Nj at hn;rw[e0]at hn;simp only at hn;rw[hm]at hn;have iL:=(UT hm).2;have hnm:n=m:=by
   rcases hn with ⟨_,h⟩|⟨h,_⟩
   ·have h:n=(m:Int):=h;omega
   ·have h:0>(m:Int):=h;omega
  subst hnm;refine .inl ⟨v,l+k,⟨Tj,?_⟩,by grind⟩;injection iL with h1 h2
  grind
end
section
variable {B1 B2:APH Bt} {h:Nat->Nat->Bool}
theorem yM{L:AOD}{p:Nat}(h1:1<=p)(hp:fS B1 B2 h p=true):∀n,p<n->n<=B1.length->zz L B1 B2 (Nm 0 (eL B1 B2 h p)) p∈PP L B1 B2 0 (eL B1 B2 h n)
 |0,h2,_=>by omega
 |n+1,h2,h3=>by
  rw[aL n (by omega)];by_cases e:p=n
  ·subst e;rw[AMo hp,Tp]
   grind
  ·have:=yM (L:=L) h1 hp n (by omega) (by omega);split
   ·rw[Tp];exact AME _ this
   ·grind
theorem tL(B1 B2:APH Bt)(h:Nat->Nat->Bool)(n:Nat):∀m q,q+m=n->0<m->∃p,q<p/\p<=n/\(p=n\/fS B1 B2 h p=true)/\∀r,q<r->r<p->fS B1 B2 h r=false
 |0,q,_,hm=>by omega
 |m+1,q,e,_=>by
  by_cases e1:m=0
  ·exact⟨q+1,by omega,by omega,.inl (by omega),λr h1 h2=>by omega⟩
  ·by_cases e2:fS B1 B2 h (q+1)=true
   ·grind
   ·obtain⟨p,h1,h2,h3,h4⟩:=tL B1 B2 h n m (q+1) (by omega) (by omega)
    grind
theorem cover{L:AOD}{q:Nat}(hq:q<B1.length):∃a b,qX B1 B2 h a b/\a<=q/\q<b/\zz L B1 B2 a b∈PP L B1 B2 0 (eL B1 B2 h B1.length++[B1.length]):=by
 obtain⟨p,h1,h2,h3,h4⟩:=tL B1 B2 h B1.length (B1.length-q) q (by omega) (by omega);have g:=ZI     (by omega) h2 h3;refine⟨_,p,g,?_,h1,?_⟩
 ·rcases AMh q _ with Bm |PR
  ·have:=h4 _ Bm g.lt;rcases g.fr with e |e
   ·omega
   ·grind
  ·grind
 ·rw[Tp];rcases Nat.lt_or_eq_of_le h2 with h5 |h5
  ·exact AME _ (yM (by omega) (h3.resolve_left (by omega)) _ h5 (AMc _))
  grind
end
section
variable {d:AOE} {l:AOG} {f:Nat->Nat->Bool}
theorem nQ(hd:Az d)(hl:∀x∈l,Ht x)(Hw:CU d l)(hs:BD d l){i:Nat}(hi:i<l.length){x:AOw}(hx:x∈kg d l f i):∃a b,qX (b1 d l i) (b2 d l i) f a b/\x=zz (SL d (Ai d f) d.length) (b1 d l i) (b2 d l i) a b:=by
 have hn:=(Qg hd hl Hw hs hi).1.1;unfold kg at hx;rw[Tp]at hx;rcases List.mem_append.1 hx with hx |hx
 ·exact nO (AMc _) x hx
 ·rw[AMx]at hx;exact⟨_,_,ZI hn (AMc _) (.inl rfl),hx⟩
theorem o5(hd:Az d)(hl:∀x∈l,Ht x)(Hw:CU d l)(hs:BD d l)(HQ:B6 d l f)(ht:∀v p,f v p=true->v<d.length/\1<=p/\p<W d v){i:Nat}(hi:i<l.length){a b:Nat}(g:qX (b1 d l i) (b2 d l i) f a b){vs:AOI}{n1 n2:Nat}
    (h1:Nd (SL d (Ai d f) d.length).length vs (Nj (SL d (Ai d f) d.length) (b1 d l i) a b) n1) (h2:Nd (SL d (Ai d f) d.length).length vs (Nj (SL d (Ai d f) d.length) (b2 d l i) a b) n2) {j:Nat} (hj:j<b-a) :
    ∃t t',NBt (SL d (Ai d f) d.length) vs n1 (b-a) j t/\NBt (SL d (Ai d f) d.length) vs n2 (b-a) j t'/\t=PH (b1 d l i) (a+j)/\t'=PH (b2 d l i) (a+j):=by
 have yY:=Mp ht;obtain⟨VD,hc⟩:=ET hd f;obtain⟨s1,s2,s3,_⟩:=Qg hd hl Hw hs hi;have BH:cz d (b1 d l i) (b2 d l i) (C0 (Ai d f)):=by rw[yY];exact HQ i hi
 have g':qX (b1 d l i) (b2 d l i) (C0 (Ai d f)) a b:=by grind
 obtain⟨⟨i1,k1,S1⟩,i2,k2,S2⟩:=VU hd VD s1 s2 s3 BH g';exact⟨_,_,oZ S1 s1 h1 hj,oZ S2 s2 h2 hj,rfl,rfl⟩
end
def CV(fx:AOz)(vs:AOI)(rt:Nat->Nat)(y j:Nat):Bool⊕AO5:=if 0<=gI fx (rt y)then .inl (bt (gB vs (gI fx (rt y)).toNat).2.1 j)else .inr (rt y,j)
def vf(L:AOD)(fx:AOz)(vs:AOI)(rt:Nat->Nat)(t:Bt)(o:Bool⊕AO5):Prop:=(∃b,t=.co b/\o=.inl b)\/∃y v x w j,x8 L y v x w/\j<w/\t=.va v (x+j)/\o=CV fx vs rt y j
section
variable {d:AOE} {l:AOG} {f:Nat->Nat->Bool} {N:Nat} {ld fx:AOz} {vm:APH AOS} {ks:AOD} {vs:AOI} {Bq:AOz} {rt:Nat->Nat}
theorem vf.uniq(hd:Az d){t:Bt}{o o':Bool⊕AO5}(h:vf (SL d (Ai d f) d.length) fx vs rt t o)(h':vf (SL d (Ai d f) d.length) fx vs rt t o'):o=o':=by
 obtain⟨VD,hc⟩:=ET hd f;rcases h with ⟨b,rfl,rfl⟩|⟨y,v,x,w,j,h1,h2,rfl,rfl⟩<;>rcases h' with ⟨b',e,rfl⟩|⟨y',v',x',w',j',sA,h2',e,rfl⟩
 ·injection e with e;rw[e]
 ·cases e
 ·cases e
 ·injection e with e1 e2;subst e1;have:=zH hd VD h1 sA h2 h2' e2;subst this;have hx:=h1.2.symm.trans sA.2;injection hx with _ hx;injection hx with hx _;have hx:(x:Int)=x':=hx;rw[show j=j' by omega]
theorem jj(J:JN (HL d l f) (SL d (Ai d f) d.length).length N ld fx vm ks vs Bq rt){y w j:Nat}{t:Bt}(h:NBt (SL d (Ai d f) d.length) vs y w j t)(hy:y<N):vf (SL d (Ai d f) d.length) fx vs rt t (CV fx vs rt y j):=by
 obtain⟨hj,⟨v,x,hi,rfl⟩|⟨hn,bs,e,hl,hw,rfl⟩⟩:=h
 ·exact .inr ⟨y,v,x,w,j,hi,hj,rfl,rfl⟩
 ·refine .inl ⟨_,rfl,?_⟩;obtain⟨dp,hf⟩:=J.fo;have UG:=J.l1;have hr:=hf.Xg y (by omega);rcases J.fx_ (rt y) (by omega) hr.2.1 with ⟨_,h⟩|⟨k,h1,h2,h3,h4,_⟩
  ·exact(h y hn hy rfl).elim
  ·unfold CV;rw[h1,Vk,AL7,J.eqv k y h2 h3 hn hy h4,e,gM (by omega)]
theorem AlO{ns:Nat}{A:AOk}{i:Nat}(h:Nd ns vs A i)(ha:Y4 ns A)(hn:ns<=vs.length):i<vs.length:=by
 rcases h with ⟨h1,h2⟩|⟨_,_,h,_⟩
 ·rcases ha with ⟨_,h3⟩|⟨h3,_⟩
  ·have h3:(ns:Int)>A.1:=h3;have h2:(i:Int)=A.1:=h2;omega
  ·have h3:(0:Int)>A.1:=h3;have h1:(0:Int)<=A.1:=h1;omega
 ·exact h
theorem rZ(hd:Az d)(hl:∀x∈l,Ht x)(Hw:CU d l)(hs:BD d l)(HQ:B6 d l f)(ht:∀v p,f v p=true->v<d.length/\1<=p/\p<W d v)
    (J:JN (HL d l f) (SL d (Ai d f) d.length).length N ld fx vm ks vs Bq rt) (hP:∀i,i<l.length->∀x∈kg d l f i,P1 (SL d (Ai d f) d.length).length rt vs x) {x y:Bt} (h:EL d l x y):∃o,vf (SL d (Ai d f) d.length) fx vs rt x o/\vf (SL d (Ai d f) d.length) fx vs rt y o:=by
 obtain⟨i,hi,p,hp,rfl,rfl⟩:=h;obtain⟨a,b,g,h1,h2,h3⟩:=cover (B2:=b2 d l i) (h:=f) (L:=SL d (Ai d f) d.length) hp;obtain⟨n1,n2,q1,q2,q3⟩:=hP i hi _ h3;obtain⟨a1,a2⟩:=(js hd hl Hw hs HQ ht hi).2 _ h3;have hnn:=J.nn;have hl3:=J.l3;have l1:=AlO q1 a1 (by omega);have l2:=AlO q2 a2 (by omega);obtain⟨t,t',u1,u2,u3,u4⟩:=o5 hd hl Hw hs HQ ht hi g q1 q2 (j:=p-a) (by omega);rw[show a+(p-a)=p by omega]at u3 u4;rw[<-u3,<-u4];refine⟨_,jj J u1 (by omega),?_⟩;have:=jj J u2 (by omega);unfold CV at this⊢;rw[q3];exact this
theorem oa(hd:Az d)(hl:∀x∈l,Ht x)(Hw:CU d l)(hs:BD d l)(HQ:B6 d l f)(ht:∀v p,f v p=true->v<d.length/\1<=p/\p<W d v)
    (J:JN (HL d l f) (SL d (Ai d f) d.length).length N ld fx vm ks vs Bq rt) (hP:∀i,i<l.length->∀x∈kg d l f i,P1 (SL d (Ai d f) d.length).length rt vs x) {x y:Bt} (h:BE (EL d l) x y) {o:Bool⊕AO5} (hx:vf (SL d (Ai d f) d.length) fx vs rt x o):vf (SL d (Ai d f) d.length) fx vs rt y o:=by
 induction h with
 |refl=>exact hx
 |oY _ e ih =>
  obtain⟨o',h1,h2⟩:=rZ hd hl Hw hs HQ ht J hP e;rw[ih.uniq hd h1];exact h2
 |bwd _ e ih =>
  obtain⟨o',h1,h2⟩:=rZ hd hl Hw hs HQ ht J hP e;rw[ih.uniq hd h2];exact h1
theorem mf(hd:Az d)(hl:∀x∈l,Ht x)(Hw:CU d l)(hs:BD d l)(HQ:B6 d l f)(ht:∀v p,f v p=true->v<d.length/\1<=p/\p<W d v)
    (J:JN (HL d l f) (SL d (Ai d f) d.length).length N ld fx vm ks vs Bq rt) {k:AOm} (hk:k∈ks):∃n1 n2 w:Nat,k.1=(n1:Int)/\k.2.1=(n2:Int)/\0<w/\∀j,j<w->∃t t',NBt (SL d (Ai d f) d.length) vs n1 w j t/\NBt (SL d (Ai d f) d.length) vs n2 w j t'/\EL d l t t':=by
 obtain⟨A,B,n1,n2,⟨i,hi,x,hx,rfl,rfl⟩,h2,h3,h4,h5⟩:=J.lkp k hk;obtain⟨a,b,g,rfl⟩:=nQ hd hl Hw hs hi hx;have Bm:=g.lt;have PR:=g.le;refine⟨n1,n2,b-a,h4,h5,by omega,λj hj=>?_⟩;obtain⟨t,t',u1,u2,u3,u4⟩:=o5 hd hl Hw hs HQ ht hi g h2 h3 hj;exact⟨t,t',u1,u2,i,hi,a+j,by omega,u3,u4⟩
theorem V9(hd:Az d)(hl:∀x∈l,Ht x)(Hw:CU d l)(hs:BD d l)(HQ:B6 d l f)(ht:∀v p,f v p=true->v<d.length/\1<=p/\p<W d v)
    (J:JN (HL d l f) (SL d (Ai d f) d.length).length N ld fx vm ks vs Bq rt) {m w j:Nat} {t:Bt} (h0:NBt (SL d (Ai d f) d.length) vs m w j t) {y:Int} (h:Cn ks (m:Int) y):∃n:Nat,y=(n:Int)/\∃t',NBt (SL d (Ai d f) d.length) vs n w j t'/\BE (EL d l) t t':=by
 induction h with
 |refl=>exact⟨m,rfl,t,h0,.refl _⟩
 |oY hk _ ih =>
  obtain⟨n,e,t',h1,h2⟩:=ih;obtain⟨n1,n2,w',e1,e2,h3,h4⟩:=mf hd hl Hw hs HQ ht J hk;have hn:(n1:Int)=(n:Int):=e1.symm.trans e;have hn:n1=n:=by omega
  subst hn;obtain⟨s,s',g1,_⟩:=h4 0 h3;have hw:=(h1.uniq g1).1;subst hw;obtain⟨s,s',g1,g2,g3⟩:=h4 j h1.1;have:=(h1.uniq g1).2 rfl;subst this;exact⟨n2,e2,s',g2,.oY h2 g3⟩
 |bwd hk _ ih =>
  obtain⟨n,e,t',h1,h2⟩:=ih;obtain⟨n1,n2,w',e1,e2,h3,h4⟩:=mf hd hl Hw hs HQ ht J hk;have hn:(n2:Int)=(n:Int):=e2.symm.trans e;have hn:n2=n:=by omega
  subst hn;obtain⟨s,s',_,g1,_⟩:=h4 0 h3;have hw:=(h1.uniq g1).1;subst hw;obtain⟨s,s',g2,g1,g3⟩:=h4 j h1.1;have:=(h1.uniq g1).2 rfl;subst this;exact⟨n1,e1,s,g2,.bwd h2 g3⟩
theorem ArL(hd:Az d)(hl:∀x∈l,Ht x)(Hw:CU d l)(hs:BD d l)(HQ:B6 d l f)(ht:∀v p,f v p=true->v<d.length/\1<=p/\p<W d v)
    (h:Clh (HL d l f) (SL d (Ai d f) d.length).length):BE (EL d l) (.co false) (.co true):=by
 obtain⟨N,ld,fx,vm,ks,vs,Bq,rt,J,A,B,⟨i,hi,x,hx,rfl,rfl⟩,a,b,p,q,h1,h2,h3,h4,h5,h6,h7⟩:=h;obtain⟨s,e,g,rfl⟩:=nQ hd hl Hw hs hi hx;have Bm:=g.lt;have PR:=g.le;have key:∀j,j<e-s->∃bp bq:AOA,gB vs p=XU bp/\gB vs q=XU bq/\bp.length=e-s/\bq.length=e-s/\BE (EL d l) (.co (bp.getD j false)) (.co (bq.getD j false)):=λj hj=>by
  obtain⟨t,t',u1,u2,u3,u4⟩:=o5 hd hl Hw hs HQ ht hi g h1 h2 hj;obtain⟨n,en,r,r1,r2⟩:=V9 hd hl Hw hs HQ ht J u1 h3;have:n=p:=by omega
  subst this;obtain⟨n',en',r',r1',r2'⟩:=V9 hd hl Hw hs HQ ht J u2 h4;have:n'=q:=by omega
  subst this;rcases r1.2 with ⟨_,_,h,_⟩|⟨_,bp,e1,e2,_,rfl⟩
  ·have:=h.1;omega
  ·rcases r1'.2 with ⟨_,_,h,_⟩|⟨_,bq,e1',e2',_,rfl⟩
   ·have:=h.1;omega
   ·exact⟨bp,bq,e1,e1',e2,e2',r2.symm.trans ((BE.oY (.refl _) ⟨i,hi,s+j,by omega,u3,u4⟩).trans r2')⟩
 obtain⟨bp,bq,e1,e2,l1,l2,_⟩:=key 0 (by omega);have Nk:bp≠bq:=λe=>h7 (by rw[e1,e2,e]);have:∃j,j<e-s/\bp.getD j false≠bq.getD j false:=Classical.byContradiction λhn=>Nk (AM1 (by omega) λj x1 x2=>Classical.byContradiction λhx=>hn ⟨j,by omega,by simpa [List.getD,x1,x2]using hx⟩);obtain⟨j,hj,hb⟩:=this;obtain⟨bp',bq',e1',e2',_,_,qQ⟩:=key j hj;rw[<-br (e1.symm.trans e1'),<-br (e2.symm.trans e2')]at qQ;generalize bp.getD j false=y at hb qQ;generalize bq.getD j false=z at hb qQ;cases y<;>cases z<;>first |exact(hb rfl).elim |exact qQ |exact qQ.symm
theorem sem(hd:Az d)(hl:∀x∈l,Ht x)(Hw:CU d l)(hs:BD d l)(HQ:B6 d l f)(ht:∀v p,f v p=true->v<d.length/\1<=p/\p<W d v)
    (J:JN (HL d l f) (SL d (Ai d f) d.length).length N ld fx vm ks vs Bq rt) (hP:∀i,i<l.length->∀x∈kg d l f i,P1 (SL d (Ai d f) d.length).length rt vs x) :
    ¬BE (EL d l) (.co false) (.co true)/\∀{m v x w j:Nat},x8 (SL d (Ai d f) d.length) m v x w->j<w->∀b,CV fx vs rt m j=.inl b↔BE (EL d l) (.va v (x+j)) (.co b):=by
 refine⟨λh=>?_,λ{m v x w j} hi hj b=>⟨λh=>?_,λh=>?_⟩⟩
 ·have:=oa hd hl Hw hs HQ ht J hP h (o:=.inl false) (.inl ⟨_,rfl,rfl⟩);have:=this.uniq hd (o':=.inl true) (.inl ⟨_,rfl,rfl⟩);cases this
 ·obtain⟨dp,hf⟩:=J.fo;have UG:=J.l1;have hnn:=J.nn;have hm:m<N:=by have:=hi.1;omega
  have hr:=hf.Xg m (by omega);have h':=h;unfold CV at h;split at h
  ·rename_i h0;rcases J.fx_ (rt m) (by omega) hr.2.1 with ⟨h1,_⟩|⟨k,h1,h2,h3,h4,_⟩
   ·omega
   ·have h0:NBt (SL d (Ai d f) d.length) vs m w j (.va v (x+j)):=⟨hj,.inl ⟨v,x,hi,rfl⟩⟩;obtain⟨n,e,t',g1,g2⟩:=V9 hd hl Hw hs HQ ht J h0 (J.cn m k hm h3 h4.symm);have:n=k:=by omega
    subst this;have v1:=oa hd hl Hw hs HQ ht J hP g2 (jj J h0 hm);rw[h']at v1;rcases g1.2 with ⟨_,_,h5,_⟩|⟨_,bs,_,_,_,rfl⟩
    ·have:=h5.1;omega
    ·have:=v1.uniq hd (o':=.inl _) (.inl ⟨_,rfl,rfl⟩);injection this with this;rw[this];exact g2
  ·cases h
 ·have v1:=oa hd hl Hw hs HQ ht J hP h (o:=CV fx vs rt m j) (.inr ⟨m,v,x,w,j,hi,hj,rfl,rfl⟩);exact v1.uniq hd (.inl ⟨b,rfl,rfl⟩)
theorem As4(hd:Az d)(hl:∀x∈l,Ht x)(Hw:CU d l)(hs:BD d l)(HQ:B6 d l f)(ht:∀v p,f v p=true->v<d.length/\1<=p/\p<W d v)
    (J:JN (HL d l f) (SL d (Ai d f) d.length).length N ld fx vm ks vs Bq rt) (hP:∀i,i<l.length->∀x∈kg d l f i,P1 (SL d (Ai d f) d.length).length rt vs x) {s t:Bt} {o:Bool⊕AO5} (h:vf (SL d (Ai d f) d.length) fx vs rt s o) (h':vf (SL d (Ai d f) d.length) fx vs rt t o):BE (EL d l) s t:=by
 obtain⟨_,sm⟩:=sem hd hl Hw hs HQ ht J hP;have UG:=J.l1;have hnn:=J.nn;rcases h with ⟨b,rfl,rfl⟩|⟨y,v,x,w,j,h1,h2,rfl,rfl⟩
 ·rcases h' with ⟨b',rfl,e⟩|⟨y',v',x',w',j',sA,h2',rfl,e⟩
  ·injection e with e;rw[e];exact .refl _
  ·exact((sm sA h2' b).1 e.symm).symm
 ·rcases h' with ⟨b',rfl,e⟩|⟨y',v',x',w',j',sA,h2',rfl,e⟩
  ·exact(sm h1 h2 b').1 e
  ·cases hc:CV fx vs rt y j with
   |inl b=>exact((sm h1 h2 b).1 hc).trans ((sm sA h2' b).1 (e▸hc)).symm
   |inr r =>
    have e':=e;unfold CV at e;have n1:¬0<=gI fx (rt y):=λh=>by unfold CV at hc;rw[AMo h]at hc;cases hc
    have n2:¬0<=gI fx (rt y'):=λh=>by rw[e']at hc;unfold CV at hc;rw[AMo h]at hc;cases hc
    rw[AMp n1,AMp n2]at e;injection e with e;injection e with e1 e2;subst e2;have y1:=h1.1;have y2:=sA.1;obtain⟨n,en,t',g1,g2⟩:=V9 hd hl Hw hs HQ ht J (m:=y) (w:=w) (j:=j) (t:=.va v (x+j)) ⟨h2,.inl ⟨v,x,h1,rfl⟩⟩ (J.cn y y' (by omega) (by omega) e1);have:n=y':=by omega
    subst this;have h0:NBt (SL d (Ai d f) d.length) vs n w' j (.va v' (x'+j)):=⟨h2',.inl ⟨v',x',sA,rfl⟩⟩;rw[<-(g1.uniq h0).2 rfl];exact g2
theorem zQ(hd:Az d)(hl:∀x∈l,Ht x)(Hw:CU d l)(hs:BD d l)(HQ:B6 d l f)(ht:∀v p,f v p=true->v<d.length/\1<=p/\p<W d v)
    (J:JN (HL d l f) (SL d (Ai d f) d.length).length N ld fx vm ks vs Bq rt) (hP:∀i,i<l.length->∀x∈kg d l f i,P1 (SL d (Ai d f) d.length).length rt vs x) {s t:Bt} {o o':Bool⊕AO5} (h:vf (SL d (Ai d f) d.length) fx vs rt s o) (h':vf (SL d (Ai d f) d.length) fx vs rt t o'):o=o'↔BE (EL d l) s t :=
 ⟨λe=>As4 hd hl Hw hs HQ ht J hP h (e▸h'),λe=>(oa hd hl Hw hs HQ ht J hP e h).uniq hd h'⟩
theorem Ahj(hd:Az d){t:Bt}(h:VG d t):∃o,vf (SL d (Ai d f) d.length) fx vs rt t o:=by
 cases t with
 |co b=>exact⟨_,.inl ⟨b,rfl,rfl⟩⟩
 |va v a =>
  obtain⟨hv,ha⟩:=h;obtain⟨m,x,w,j,h1,h2,rfl⟩:=AC7 hd (ET hd f).1 hv (show a<W d v by unfold W;omega);exact⟨_,.inr ⟨m,v,x,w,j,h1,h2,rfl,rfl⟩⟩
theorem sj(hd:Az d)(hl:∀x∈l,Ht x)(Hw:CU d l)(hs:BD d l)(HQ:B6 d l f)(ht:∀v p,f v p=true->v<d.length/\1<=p/\p<W d v)
    (J:JN (HL d l f) (SL d (Ai d f) d.length).length N ld fx vm ks vs Bq rt) {m v x w:Nat} (hi:x8 (SL d (Ai d f) d.length) m v x w) (hw:0<w) (h:0<=gI fx (rt m)):∃bs:AOA,gB vs (gI fx (rt m)).toNat=XU bs/\bs.length=w/\w<=4096:=by
 obtain⟨dp,hf⟩:=J.fo;have UG:=J.l1;have hnn:=J.nn;have hm:m<N:=by have:=hi.1;omega
 have hr:=hf.Xg m (by omega);rcases J.fx_ (rt m) (by omega) hr.2.1 with ⟨h1,_⟩|⟨k,h1,h2,h3,h4,_⟩
 ·omega
 ·obtain⟨n,e,t',g1,_⟩:=V9 hd hl Hw hs HQ ht J (m:=m) (w:=w) (j:=0) (t:=.va v (x+0)) ⟨hw,.inl ⟨v,x,hi,rfl⟩⟩ (J.cn m k hm h3 h4.symm);have:n=k:=by omega
  subst this;rcases g1.2 with ⟨_,_,h5,_⟩|⟨_,bs,h5,h6,h7,_⟩
  ·have:=h5.1;omega
  ·exact⟨bs,by rw[h1,AL7];exact h5,h6,h7⟩
end
theorem iT{bs:AOA}{k:Nat}(h:k<bs.length)(hl:bs.length<=8192):Ii (XU bs) (k:Int)=some (bI (bs.getD k false)):=by
 have hw:=GG (low (λi=>bs.getD i false) bs.length) (nw bs.length);have hlen:=Hp (low (λi=>bs.getD i false) bs.length) (nw bs.length);unfold Ii;rw[dC (by omega),WR,AMo ⟨by omega,by show((k/64:Nat):Int)<((jf (low (λi=>bs.getD i false) bs.length) (nw bs.length)).length:Int);rw[hlen];unfold nw;omega⟩,OV,AL7];show some (fa .u64 (Ro .u64 ((jf (low (λi=>bs.getD i false) bs.length) (nw bs.length)).getD (k/64) 0) ((k%64:Nat):Int)) 1)=_;rw[lN (b9 (hw.getD _) rfl (by omega)),Z2 (hw.getD _) rfl (by omega),AMC];show some (bI (bt (jf (low (λi=>bs.getD i false) bs.length) (nw bs.length)) k))=_;rw[oe h]
abbrev AS:Type:=AOR
abbrev aV(all:AS)(v:Nat):AOJ:=all.getD v APC.zero
abbrev zS:AOs:=Ty.zero Ak
abbrev sV(all:AS)(v a:Nat):AOs:=(aV all v).getD a zS
theorem Ue{rt:Nat->Nat}{a:Nat}:∀{n:Nat} {y:Int},y∈Pz rt n a↔∃j:Nat,j<n/\y=(j:Int)/\rt j=rt a
 |0,y=>⟨λh=>by simp[Pz]at h,λ⟨j,h,_⟩=>by omega⟩
 |n+1,y=>by
  rw[Pz];constructor
  ·intro h;split at h
   ·rename_i e;rcases List.mem_append.1 h with h |h
    ·obtain⟨j,h1,h2⟩:=Ue.1 h;exact⟨j,by omega,h2⟩
    ·rw[AMx]at h;exact⟨n,by omega,h,e⟩
   ·obtain⟨j,h1,h2⟩:=Ue.1 h;exact⟨j,by omega,h2⟩
  ·rintro⟨j,h1,h2,h3⟩
   by_cases e:j=n
   ·subst e;rw[AMo h3];exact AMF _ (List.mem_singleton.2 h2)
   ·have:=(Ue (n:=n)).2 ⟨j,by omega,h2,h3⟩;split
    ·exact AME _ this
    ·exact this
section
variable {d:AOE} {c:AON} {P:Nat->Nat->AOs->Prop}
structure Gd (d:AOE) (L:AOD) (P:Nat->Nat->AOs->Prop) (D:Nat->Nat->Prop) (all:AS):Prop where
 len:all.length=d.length
 row:∀v,v<d.length->(aV all v).length=W d v
 ok:∀{m v x w j:Nat},x8 L m v x w->j<w->D m j->P m j (sV all v (x+j))
theorem Gd.mono{L:AOD}{D D':Nat->Nat->Prop}{all:AS}(h:Gd d L P D all)(hD:∀m j,D' m j->D m j):Gd d L P D' all:=⟨h.len,h.row,λa b e=>h.ok a b (hD _ _ e)⟩
theorem Gd.put(hd:Az d)(hc:CS d c){D:Nat->Nat->Prop}{all:AS}(h:Gd d (SL d c d.length) P D all){m v x w j:Nat}(hi:x8 (SL d c d.length) m v x w)(hj:j<w){one:AOs}(ho:P m j one):Gd d (SL d c d.length) P (λm' j'=>D m' j'\/(m'=m/\j'=j)) (all.set v ((aV all v).set (x+j) one)):=by
 obtain⟨hv,hw⟩:=AlS hd hc hi;have hl:=h.len;have hr:=h.row v hv;have ha:∀u,aV (all.set v ((aV all v).set (x+j) one)) u=if u=v then(aV all v).set (x+j) one else aV all u:=λu=>by
  by_cases e:u=v
  ·subst e;rw[AMo rfl];simp[aV,List.getD,hl,hv]
  ·rw[AMp e];simp[aV,List.getD,AMv,Ne.symm e]
 refine⟨by rw[AMf];exact hl,λu hu=>?_,λ{m' v' x' w' j'} qR QZ hD=>?_⟩
 ·rw[ha];split
  ·rename_i e;subst e;rw[AMf];exact hr
  ·exact h.row u hu
 ·unfold sV;rw[ha];by_cases e:v'=v
  ·subst e;rw[AMo rfl];by_cases e2:x'+j'=x+j
   ·have hm:=zH hd hc qR hi QZ hj e2;subst hm;have hx:=qR.2.symm.trans hi.2;injection hx with _ hx;injection hx with hx _;have hx:(x':Int)=x:=hx;have hjj:j'=j:=by omega
    subst hjj;rw[e2];rw[gsS (show x+j'<(aV all v').length by omega)];exact ho
   ·rw[show((aV all v').set (x+j) one).getD (x'+j') zS=sV all v' (x'+j') by simp[sV,List.getD,AMv,Ne.symm e2]];rcases hD with hD |⟨rfl,rfl⟩
    ·exact h.ok qR QZ hD
    ·exfalso
     have hx:=qR.2.symm.trans hi.2;injection hx with _ hx;injection hx with hx _;have hx:(x':Int)=x:=hx;omega
  ·rw[AMp e];rcases hD with hD |⟨rfl,rfl⟩
   ·exact h.ok qR QZ hD
   ·exfalso
    have hx:=qR.2.symm.trans hi.2;injection hx with hx _;have hx:(v':Int)=v:=hx;omega
end
section
variable {d:AOE} {l:AOG} {f:Nat->Nat->Bool} {N:Nat} {ld fx:AOz} {vm:APH AOS} {ks:AOD} {vs:AOI} {Bq:AOz} {rt:Nat->Nat}
def SgO(rt:Nat->Nat)(ns:Nat)(o:Bool⊕AO5)(s:AOs):Prop:=match o with
 |.inl b=>s=(-1,0,bI b,())
 |.inr (r,j)=>∃k:Nat,k<(B5 rt ns).length/\rt (rp rt ns k)=r/\s=((k:Int),(j:Int),0,())
theorem SgO.iff{rt:Nat->Nat}{ns:Nat}{o o':Bool⊕AO5}{s s':AOs}(h:SgO rt ns o s)(h':SgO rt ns o' s'):s=s'↔o=o':=by
 rcases o with b |⟨r,j⟩<;>rcases o' with b' |⟨r',j'⟩
 ·have h:s=_:=h;have h':s'=_:=h';subst h;subst h';refine⟨λe=>?_,λe=>by injection e with e;rw[e]⟩;injection e with _ e;injection e with _ e;injection e with e _;cases b<;>cases b'<;>first |rfl |cases e
 ·obtain⟨k,_,_,rfl⟩:=h';have h:s=_:=h;subst h;refine⟨λe=>?_,λe=>by cases e⟩;injection e with e _;have e:(-1:Int)=(k:Int):=e;omega
 ·obtain⟨k,_,_,rfl⟩:=h;have h':s'=_:=h';subst h';refine⟨λe=>?_,λe=>by cases e⟩;injection e with e _;have e:(k:Int)=(-1:Int):=e;omega
 ·obtain⟨k,h1,h2,rfl⟩:=h;obtain⟨k',sA,h2',rfl⟩:=h';constructor
  ·intro e;injection e with e1 e;injection e with e2 _;have e1:(k:Int)=(k':Int):=e1;have e2:(j:Int)=(j':Int):=e2;have:k=k':=by omega
   subst this;rw[<-h2,<-h2',show j=j' by omega]
  ·intro e;injection e with e;injection e with e1 e2;rw[qe h1 sA (xw h1 sA (by rw[h2,h2',e1])),e2]
def Sgn(ns:Nat)(fx:AOz)(vs:AOI)(rt:Nat->Nat)(m j:Nat)(s:AOs):Prop:=SgO rt ns (CV fx vs rt m j) s
theorem Agz(hd:Az d)(hl:∀x∈l,Ht x)(Hw:CU d l)(hs:BD d l)(HQ:B6 d l f)(ht:∀v p,f v p=true->v<d.length/\1<=p/\p<W d v)
    (J:JN (HL d l f) (SL d (Ai d f) d.length).length N ld fx vm ks vs Bq rt) {ns r m v x w:Nat} (hi:x8 (SL d (Ai d f) d.length) m v x w) (hr:rt m=rt r) {D:Nat->Nat->Prop} {all:AS} (hG:Gd d (SL d (Ai d f) d.length) (Sgn (SL d (Ai d f) d.length).length fx vs rt) D all)
    (a:Int) (k:Nat) (l0:Int) (q:AOz) (s v0:Int) (b:AOE) (c:AOG) (d0:AON) (e:AOK) (g:AOz) (i:APH rf) (j:AOD) (k0:FM) (hk:k<(B5 rt (SL d (Ai d f) d.length).length).length) (hkr:rt (rp rt (SL d (Ai d f) d.length).length k)=rt r) :
    Ay (IB a (k:Int) l0 q s v0 b c d0 e g i j k0 (cV rt fx vs ns r) (w:Int) (kT (SL d (Ai d f) d.length) m) 0 all) (Gd d (SL d (Ai d f) d.length) (Sgn (SL d (Ai d f) d.length).length fx vs rt) λm' j'=>D m' j'\/m'=m):=by
 obtain⟨VD,_⟩:=ET hd f;obtain⟨hv,hw⟩:=AlS hd VD hi;obtain⟨_,_,hW⟩:=NK hd hv;unfold IB;refine Bu (λn (s:Int×AS)=>∃i:Nat,s.1=(i:Int)/\i<=w/\n=w-i/\Gd d (SL d (Ai d f) d.length) (Sgn (SL d (Ai d f) d.length).length fx vs rt) (λm' j'=>D m' j'\/(m'=m/\j'<i)) s.2) (λn s hI=>?_) w (0,all) ⟨0,rfl,AMS _,rfl,hG.mono λm' j' h=>h.elim id λh=>by omega⟩;obtain⟨i',e1,qR,rfl,hg⟩:=hI;obtain⟨s1,s2⟩:=s;simp only at e1 hg;subst e1;unfold Hl KU IA;simp only;rcases AMh i' w with Bm |YC
 ·have hlen:=hg.len;have NR:=hg.row v hv;rw[Dy Bm,AMm,hi.2];simp only;rw[show wI ((x:Int)+(i':Int))=((x+i':Nat):Int)from A1,show wI ((i':Int)+1)=((i'+1:Nat):Int)from A1];simp only[AL7];have key:∀one:Int×Int×Int,Sgn (SL d (Ai d f) d.length).length fx vs rt m i' (one.1,one.2.1,one.2.2,())->∃T,(if(0:Int)<=(v:Int)/\(v:Int)<(s2.length:Int)then
      if(0:Int)<=((x+i':Nat):Int)/\((x+i':Nat):Int)<((s2.getD v APC.zero).length:Int)then
      some (Sum.inl (((i'+1:Nat):Int),s2.set v ((s2.getD v APC.zero).set (x+i') (one.1,one.2.1,one.2.2,()))))else none else none:APJ ((Int×AS)⊕AS))=some (.inl (((i'+1:Nat):Int),T))/\Gd d (SL d (Ai d f) d.length) (Sgn (SL d (Ai d f) d.length).length fx vs rt) (λm' j'=>D m' j'\/(m'=m/\j'<i'+1)) T:=λone ho=>by
   rw[AMo (Bl (show v<s2.length by omega)),AMo (Bl (show x+i'<(aV s2 v).length by omega))];refine⟨_,rfl,(hg.put hd VD hi Bm ho).mono λm' j' h=>?_⟩;rcases h with h |⟨h1,h2⟩
   ·exact .inl (.inl h)
   ·by_cases e:j'=i'
    ·exact .inr ⟨h1,e⟩
    ·exact .inl (.inr ⟨h1,by omega⟩)
  have XK:CV fx vs rt m i'=if 0<=gI fx (rt r)then .inl (bt (gB vs (gI fx (rt r)).toNat).2.1 i')else .inr (rt r,i'):=by unfold CV;rw[hr]
  unfold cV;by_cases h0:0<=gI fx (rt r)
  ·rw[AMb (show gI fx (rt r)>=0 from h0),AMm];simp only[AMm];obtain⟨bs,u1,u2,u3⟩:=sj hd hl Hw hs HQ ht J hi (by omega) (by rw[hr];exact h0);rw[hr]at u1;rw[show(((gB vs (gI fx (rt r)).toNat).1,(gB vs (gI fx (rt r)).toNat).2.1,()):AOr)=XU bs from u1,iT (by omega) (by omega),AL6,AL6];rw[AMo h0,u1,gM (by omega)]at XK;obtain⟨T,e,hT⟩:=key (-1,0,bI (bs.getD i' false)) (by unfold Sgn;rw[XK];exact rfl);exact Ay.of e ⟨w-(i'+1),by omega,i'+1,rfl,by omega,rfl,hT⟩
  ·rw[AL9 (show ¬gI fx (rt r)>=0 from h0),AMl];simp only[AMl,AL6];rw[AMp h0]at XK;obtain⟨T,e,hT⟩:=key ((k:Int),(i':Int),0) (by unfold Sgn;rw[XK];exact⟨k,hk,hkr,rfl⟩);exact Ay.of e ⟨w-(i'+1),by omega,i'+1,rfl,by omega,rfl,hT⟩
 ·have:i'=w:=by omega
  subst this;rw[Fb,AMl];refine Ay.mk ⟨hg.len,hg.row,λ{m' v' x' w' j'} a1 a2 a3=>hg.ok a1 a2 ?_⟩;rcases a3 with h |rfl
  ·exact .inl h
  ·refine .inr ⟨rfl,?_⟩;have hx:=a1.2.symm.trans hi.2;injection hx with _ hx;injection hx with _ hx;injection hx with hx _;have hx:(w':Int)=i':=hx;omega
theorem AgA(hd:Az d)(hl:∀x∈l,Ht x)(Hw:CU d l)(hs:BD d l)(HQ:B6 d l f)(ht:∀v p,f v p=true->v<d.length/\1<=p/\p<W d v)
    (J:JN (HL d l f) (SL d (Ai d f) d.length).length N ld fx vm ks vs Bq rt) (a:Int) (c:AOG) (d0:AON) (g:AOz) (i:APH rf) (k0:FM) :
    Ay (I2 a d c d0 ((B5 rt (SL d (Ai d f) d.length).length).map (cV rt fx vs (SL d (Ai d f) d.length).length)) g i (SL d (Ai d f) d.length) k0) λr=>Gd d (SL d (Ai d f) d.length) (Sgn (SL d (Ai d f) d.length).length fx vs rt) (λ_ _=>True) r.2.2.2.2.2.2.2.2:=by
 obtain⟨VD,_⟩:=ET hd f;have Iw:=Zt hd VD d.length (AMc _);have cX:=hd.1;have hrl:=bP rt (SL d (Ai d f) d.length).length;unfold I2;rw[AMo ⟨rfl,by omega,ANx _,by omega,by omega⟩,AL7];refine Ay.bind (P:=Gd d (SL d (Ai d f) d.length) (Sgn (SL d (Ai d f) d.length).length fx vs rt) λ_ _=>False) ?_ λall hG=>?_
 ·unfold Nx;refine Bu (λn (s:Int×AS)=>∃k:Nat,s.1=(k:Int)/\k<=d.length/\n=d.length-k/\s.2.length=d.length/\∀v,v<k->(aV s.2 v).length=W d v) (λn s hI=>?_) d.length _ ⟨0,rfl,AMS _,rfl,AMD,λv h=>by omega⟩;obtain⟨k,e1,hk,rfl,h1,h2⟩:=hI;obtain⟨s1,s2⟩:=s;simp only at e1 h1 h2;subst e1;unfold Hk KT;simp only;rcases AMh k d.length with Bm |YC
  ·obtain⟨w0,w1,w2⟩:=NK hd Bm;have w0:(d.getD k Ad.zero).2.1=(W d k:Int):=w0;rw[Dy Bm,AMm,AMo (Bl Bm)];simp only[AL7,w0];rw[AMo (show Ty.row Ak=true/\(0:Int)<=(W d k:Int)/\(W d k:Int)<=(W d k:Int)/\((24:Nat):Int)*(W d k:Int)<=(281474976710656:Int)/\(W d k:Int)<=(9223372036854775807:Int)from⟨rfl,by omega,ANx _,by omega,by omega⟩),AMo (Bl (show k<s2.length by omega)),show wI ((k:Int)+1)=((k+1:Nat):Int)from A1];refine Ay.mk ⟨d.length-(k+1),by omega,k+1,rfl,by omega,rfl,by rw[AMf];exact h1,λv hv=>?_⟩;by_cases e:v=k
   ·subst e;simp[aV,List.getD,h1,Bm]
   ·have:=h2 v (by omega);simp only[aV,List.getD,AMv,Ne.symm e,ANz]at this⊢;exact this
  ·have:k=d.length:=by omega
   subst this;rw[Fb,AMl];exact Ay.mk ⟨h1,h2,λ_ _ h=>h.elim⟩
 ·refine Ay.bind (P:=Gd d (SL d (Ai d f) d.length) (Sgn (SL d (Ai d f) d.length).length fx vs rt) λ_ _=>True) ?_ λr hr=>Ay.mk hr;unfold Nz;generalize hC:(B5 rt (SL d (Ai d f) d.length).length).map (cV rt fx vs (SL d (Ai d f) d.length).length)=C;have hCl:C.length=(B5 rt (SL d (Ai d f) d.length).length).length:=by rw[<-hC,AMi]
  have hCg:∀k,k<C.length->C.getD k Ao.zero=cV rt fx vs (SL d (Ai d f) d.length).length (rp rt (SL d (Ai d f) d.length).length k):=λk hk=>by
   rw[<-hC];exact FZ (cV rt fx vs (SL d (Ai d f) d.length).length) (by omega)
  refine Bu (λn (s:Int×AS)=>∃k:Nat,s.1=(k:Int)/\k<=C.length/\n=C.length-k/\Gd d (SL d (Ai d f) d.length) (Sgn (SL d (Ai d f) d.length).length fx vs rt) (λm _=>∃k',k'<k/\rt m=rt (rp rt (SL d (Ai d f) d.length).length k')) s.2) (λn s hI=>?_) C.length (0,all) ⟨0,rfl,AMS _,rfl,hG.mono λm j h=>by obtain⟨k',h,_⟩:=h;omega⟩;obtain⟨k,e1,hk,rfl,hg⟩:=hI;obtain⟨s1,s2⟩:=s;simp only at e1 hg;subst e1;unfold Hn KW;simp only;rcases AMh k C.length with Bm |YC
  ·rw[Dy Bm,AMm,AMo (Bl Bm)];simp only[AL7,hCg k Bm];generalize hR:rp rt (SL d (Ai d f) d.length).length k=R;have wR:=bn rt R (SL d (Ai d f) d.length).length;rw[show wI ((k:Int)+1)=((k+1:Nat):Int)from A1,show(cV rt fx vs (SL d (Ai d f) d.length).length R).1=Pz rt (SL d (Ai d f) d.length).length R from rfl];refine Ay.bind (P:=Gd d (SL d (Ai d f) d.length) (Sgn (SL d (Ai d f) d.length).length fx vs rt) λm _=>(∃k',k'<k/\rt m=rt (rp rt (SL d (Ai d f) d.length).length k'))\/(m:Int)∈Pz rt (SL d (Ai d f) d.length).length R) ?_ λr hr=>Ay.mk ⟨C.length-(k+1),by omega,k+1,rfl,by omega,rfl,⟨hr.len,hr.row,λ{m v x w j} a1 a2 a3=>hr.ok a1 a2 ?_⟩⟩
   rotate_right
   ·obtain⟨k',b1,b2⟩:=a3;by_cases e:k'=k
    ·subst e;rw[hR]at b2;exact .inr (Ue.2 ⟨m,a1.1,rfl,b2⟩)
    ·exact .inl ⟨k',by omega,b2⟩
   unfold Ny;generalize hM:Pz rt (SL d (Ai d f) d.length).length R=M at *;refine Bu (λn (s:Int×AS)=>∃p:Nat,s.1=(p:Int)/\p<=M.length/\n=M.length-p/\Gd d (SL d (Ai d f) d.length) (Sgn (SL d (Ai d f) d.length).length fx vs rt) (λm _=>(∃k',k'<k/\rt m=rt (rp rt (SL d (Ai d f) d.length).length k'))\/(m:Int)∈M.take p) s.2) (λn s hI=>?_) M.length (0,s2) ⟨0,rfl,AMS _,rfl,hg.mono λm j h=>h.elim id λh=>by simp at h⟩;obtain⟨p,e1,hp,rfl,hg'⟩:=hI;obtain⟨t1,t2⟩:=s;simp only at e1 hg';subst e1;unfold Hm KV;simp only;rcases AMh p M.length with AjL |AKy
   ·have hpm:M.getD p APr.zero∈M:=AJ AjL;obtain⟨m,m1,m2,m3⟩:=Ue.1 (show M.getD p APr.zero∈Pz rt (SL d (Ai d f) d.length).length R by rw[hM];exact hpm);obtain⟨v,x,w,hi,_,_⟩:=AC8 hd VD m1;rw[Dy AjL,AMm,AMo (Bl AjL)];simp only[AL7,m2];rw[AMo (Bl m1),show(SL d (Ai d f) d.length).getD m Ab.zero=kT (SL d (Ai d f) d.length) m from rfl];have hw:(kT (SL d (Ai d f) d.length) m).2.2.1=(w:Int):=by rw[hi.2]
    rw[hw,show wI ((p:Int)+1)=((p+1:Nat):Int)from A1];refine(Agz hd hl Hw hs HQ ht J (ns:=(SL d (Ai d f) d.length).length) hi m3 hg' a k _ _ _ _ _ _ _ _ _ _ _ _ (by omega) (by rw[hR])).bind λr hr=>Ay.mk ⟨M.length-(p+1),by omega,p+1,rfl,by omega,rfl,hr.mono λm' j' h=>?_⟩;rcases h with h |h
    ·exact .inl (.inl h)
    ·rw[AW (z :=APr.zero) AjL]at h;rcases List.mem_append.1 h with h |h
     ·exact .inl (.inr h)
     ·rw[AMx,m2]at h;exact .inr (by omega)
   ·have:p=M.length:=by omega
    subst this;rw[Fb,AMl];rw[ANM]at hg';exact Ay.mk hg'
  ·have:k=C.length:=by omega
   subst this;rw[Fb,AMl];refine Ay.mk ⟨hg.len,hg.row,λ{m v x w j} a1 a2 _=>hg.ok a1 a2 ?_⟩;obtain⟨k',b1,b2⟩:=YI rt (SL d (Ai d f) d.length).length m a1.1;exact⟨k',by omega,b2.symm⟩
end
def sgB(all:AS):Bt->AOs
 |.co b=>(-1,0,bI b,())
 |.va v a=>sV all v a
section
variable {d:AOE} {all:AS}
theorem AbF(hl:all.length=d.length)(hr:∀v,v<d.length->(aV all v).length=W d v){s:Sg}(hs:VB s)(hb:∀x∈s.bits,VG d x){b:AOF}{c e:Int}{q:AOJ}(hq:q.length<=8192):SV all b c e (s.w:Int) (HI s) 0 q=some (q++s.bits.map (sgB all)):=by
 have hsw:s.w<=4096:=by cases s<;>simp only[VB,Sg.w]at *<;>omega
 have:=AU (f:=Fp all b c e s.w (HI s)) (λk=>(k,q++(s.bits.take k).map (sgB all)))  s.w (λk hk=>by
  unfold Fp K9 Oh;simp only;have Xp:k<s.bits.length:=by rw[HP];exact hk
  have hlen:(q++(s.bits.take k).map (sgB all)).length<=20000:=by grind
  rw[Dy hk,AMm,Bj hk (by omega),Jl Xp,AMQ,<-AMe];cases s with
  |co bs =>
   simp only[Sg.w]at hk hsw;rw[show((HI _).1==(-1))=true from rfl,AMm,show Ii (HI (.co bs)).2.2.2.1 _=some _ from iT hk (by omega),AL6,AMo (by grind)];rw[show(Sg.co bs).bits.getD k _=.co (bs.getD k _) by simp[Sg.bits,hk]];rfl
  |va v l n =>
   simp only[Sg.w,VB]at hk hs hsw;have hx:(Sg.va v l n).bits.getD k (.co false)=.va v (l+k):=by simp[Sg.bits,hk]
   have hbi:=hb _ (AJ (z:=.co false) Xp);rw[hx]at hbi⊢;obtain⟨hv,ha⟩:=hbi;have NR:=hr v hv;have haw:l+k<W d v:=by unfold W;omega
   rw[show((HI (.va v l n)).1==(-1))=false from beq_eq_false_iff_ne.2 (show ¬((v:Int)=-1) by omega),AMl];rw[show(HI _).1=v from rfl,AMo (Bl (show v<all.length by omega)),AL7,show wI _=((l+k:Nat))from A1 (by show l+(k:Int)=_;omega) (by omega)];rw[AMo (Bl (show l+k<(aV all v).length by omega)),AMo (by grind)];rfl) (by
  unfold Fp K9;rw[Fb,AMl,<-HP,AMg (AMc _)])
 rw[ANZ,AN0,AML]at this;exact this
theorem jG(hd:Az d)(hl:all.length=d.length)(hr:∀v,v<d.length->(aV all v).length=W d v){B:APH Bt}(h:Bg d B):MG (fN B) all=some (B.map (sgB all)):=by
 unfold MG SX;have hlen:=CM (C1 B);rw[Cd]at hlen;have h4:=h.2.1;have hsb:=Rl (λx hx=>gL (TJ hd (h.2.2 x hx))) h4;have FR :=λs hs x hx=>h.2.2 x (by
  rw[<-Fu B];exact List.mem_flatMap.2 ⟨s,hs,hx⟩)
 have:=AU (f:=DJ all _ ((fN B).length)) (λk=>(k,(Dn ((Ax B).take k)).map _))  _ (λk hk=>by
  unfold DJ La;have hw:=EP (Ax B) k;rw[Cd]at hw;rw[oO,Dy hk,AMm,AMo (Bl hk),AL7,show(fN B).getD k _=HI _ from fe hk,X6,AbF hl hr (hsb _ (AJ hk)) (FR _ (AJ hk)) (by rw[AMi,KD];omega),AL6,Bj hk (by omega),SK hk,AMQ]) (by
  unfold DJ La;rw[oO,Fb,AMl,AMg (AMc _),Fu])
 rw[show fix (DJ all _ _) (0,[])=some _ from this];rfl
end
abbrev pN(s t:AOH):AOp:=(1,true,(s,()),(t,()),())
theorem Yw{d:AOE}(hd:Az d){u:AOH}(hu:Hv u)(h:(BK d u).1=true):((Nl d u).length:Int)=DV d u/\1<=DV d u:=by
 obtain⟨ws,hw⟩:∃ws,LQ d u ws:=by
  unfold BK at h;split at h
  ·rename_i hc;exact hc.1
  ·cases h
 refine⟨?_,(dE hw).1⟩;rw[Wj hw];exact(eJ hd hu hw _ (AMc _) (u.length-1) (by have:=hw.1;omega)).2
theorem lD{d:AOE}(hd:Az d){s t:AOH}(hs:Hv s)(ht:Hv t):(CU d [pN s t]/\BD d [pN s t])↔(BK d s).1=true/\(BK d t).1=true/\(Nl d s).length=(Nl d t).length:=by
 constructor
 ·rintro⟨h1,h2⟩
  obtain⟨a,b⟩:(BK d s).1=true/\(BK d t).1=true:=h2 0 (by simp);have hp:DV d t=DV d s:=(h1.2 0 (by simp)).2.2.2;have g1:=Yw hd hs a;have g2:=Yw hd ht b;exact⟨a,b,by omega⟩
 ·rintro⟨a,b,e⟩
  have g1:=Yw hd hs a;have g2:=Yw hd ht b;refine⟨⟨by simp,λi hi=>?_⟩,λi hi=>?_⟩
  ·have:i=0:=by simp at hi;exact hi
   subst this;exact⟨⟨ANx _,by show(1:Int)<=1000000;decide⟩,λh=>absurd h (by omega),by show 0<=DV d s;omega,by show DV d t=DV d s;omega⟩
  ·have:i=0:=by simp at hi;exact hi
   subst this;exact⟨a,b⟩
section
variable {d:AOE} {l:AOG} {f g:Nat->Nat->Bool}
theorem Ali(hd:Az d)(h:Pv f g):R7 (Ai d f) d.length<=R7 (Ai d g) d.length:=by
 have:∀n,n<=d.length->R7 (Ai d f) n<=R7 (Ai d g) n:=λn=>by
  induction n with
  |zero=>exact λ_=>AMc _
  |succ n ih =>
   intro hn;rw[YB,YB,TK (by omega),TK (by omega)];have hlen:∀(g:Nat->Nat->Bool),(A0 (W d n) (g n)).length=(List.range (W d n)).countP λq=>decide (1<=q)&&g n q:=λg=>by unfold A0;rw[AMi,List.countP_eq_length_filter]
   have:=ih (by omega);have:(A0 (W d n) (f n)).length<=(A0 (W d n) (g n)).length:=by
    rw[hlen,hlen];refine ANU λq _ hq=>?_;rw[AMd]at hq⊢;exact⟨hq.1,h n q hq.2⟩
   omega
 exact this d.length (AMc _)
theorem w8(ht:∀v p,f v p=true->v<d.length/\1<=p/\p<W d v)(HQ:B6 d l f):Y5 d l (Ai d f) f:=⟨by rw[Mp ht];exact λ_ _ h=>h,ht,HQ,λh _ h2=>by rw[Mp ht]at h2;exact h2⟩
theorem oB(hd:Az d)(hl:∀x∈l,Ht x)(Hw:CU d l)(hs:BD d l)(ht:∀v p,f v p=true->v<d.length/\1<=p/\p<W d v):∃f',Cj d l (Ai d f,())=some ((Ai d f',()),true)/\Y5 d l (Ai d f) f'/\Pv f f':=by
 obtain⟨VD,hcb⟩:=ET hd f;obtain⟨rc,ec,_,SI⟩:=aA (d:=d) (l:=l) hcb hl;rcases SI with ⟨_,VF⟩|⟨_,_,_,_,f',rfl,hf⟩
 ·exact(VF ⟨hd,VD,Hw,hs⟩).elim
 ·refine⟨f',ec,hf,?_⟩;have:=hf.le;rw[Mp ht]at this;exact this
theorem yW(hd:Az d)(f:Nat->Nat->Bool):J6 d (Ai d f,())=some ((d.length+R7 (Ai d f) d.length:Nat):Int):=bY hd (ET hd f).1 (ET hd f).2
theorem Alh(hd:Az d)(f:Nat->Nat->Bool):R7 (Ai d f) d.length<=62914560:=by
 have:=o6 (c:=Ai d f) (ET hd f).2.row d.length;have:=hd.1;omega
end
def SdR(rt:Nat->Nat)(ns w:Nat)(O:Nat->Bool⊕AO5)(i:Int)(v:AOr):Prop:=(i=-1/\∃bs:AOA,v=XU bs/\bs.length=w/\w<=4096/\∀j,j<w->O j=.inl (bs.getD j false))\/∃k:Nat,k<(B5 rt ns).length/\i=(k:Int)/\∀j,j<w->O j=.inr (rt (rp rt ns k),j)
theorem SdR.iff{rt:Nat->Nat}{ns w:Nat}(hw:0<w){O O':Nat->Bool⊕AO5}{i i':Int}{v v':AOr}(h:SdR rt ns w O i v)(h':SdR rt ns w O' i' v'):(i=i'/\(i<0->v=v'))↔∀j,j<w->O j=O' j:=by
 rcases h with ⟨rfl,bs,rfl,l1,_,e1⟩|⟨k,k1,rfl,e1⟩<;>rcases h' with ⟨rfl,Ga,rfl,l2,_,e2⟩|⟨k',k2,rfl,e2⟩
 ·constructor
  ·rintro⟨_,h⟩ j hj
   rw[e1 j hj,e2 j hj,br (h (by omega))]
  ·intro h;refine⟨rfl,λ_=>?_⟩;rw[show bs=Ga from AM1 (by omega) λj h1 h2=>by
    have:=h j (by omega);rw[e1 j (by omega),e2 j (by omega)]at this;injection this with this;simpa [List.getD,h1,h2]using this]
 ·refine⟨λh=>by omega,λh=>?_⟩;have:=h 0 hw;rw[e1 0 hw,e2 0 hw]at this;cases this
 ·refine⟨λh=>by omega,λh=>?_⟩;have:=h 0 hw;rw[e1 0 hw,e2 0 hw]at this;cases this
 ·constructor
  ·rintro⟨h,_⟩ j hj
   have:k=k':=by omega
   subst this;rw[e1 j hj,e2 j hj]
  ·intro h;have:=h 0 hw;rw[e1 0 hw,e2 0 hw]at this;injection this with this;injection this with this _;have:=qe k1 k2 (xw k1 k2 this);exact⟨by omega,λh=>by omega⟩
section
variable {d:AOE} {l:AOG} {f:Nat->Nat->Bool} {N:Nat} {ld fx:AOz} {vm:APH AOS} {ks:AOD} {vs:AOI} {Bq:AOz} {rt:Nat->Nat}
theorem Agy(hd:Az d)(hl:∀x∈l,Ht x)(Hw:CU d l)(hs:BD d l)(HQ:B6 d l f)(ht:∀v p,f v p=true->v<d.length/\1<=p/\p<W d v)
    (J:JN (HL d l f) (SL d (Ai d f) d.length).length N ld fx vm ks vs Bq rt) {B:APH Bt} {a b i k:Nat} (S:eW d (Ai d f) B a b i k) (hB:Bg d B) :
    ∃O:Nat->Bool⊕AO5,(∀j,j<b-a->vf (SL d (Ai d f) d.length) fx vs rt (PH B (a+j)) (O j)) /\
     (((Nj (SL d (Ai d f) d.length) B a b).1<0/\SdR rt (SL d (Ai d f) d.length).length (b-a) O (-1) (Nj (SL d (Ai d f) d.length) B a b).2.1) \/
      ∃n:Nat,n<(SL d (Ai d f) d.length).length/\(Nj (SL d (Ai d f) d.length) B a b).1=(n:Int) /\
       (0<=gI fx (rt n)->SdR rt (SL d (Ai d f) d.length).length (b-a) O (-1) (gB vs (gI fx (rt n)).toNat)) /\
       (¬0<=gI fx (rt n)->∀k v,k<(B5 rt (SL d (Ai d f) d.length).length).length->rt (rp rt (SL d (Ai d f) d.length).length k)=rt n->SdR rt (SL d (Ai d f) d.length).length (b-a) O (k:Int) v)):=by
 have Bm:=S.lt;rcases iF hB S with ⟨h1,h2⟩|⟨h1,_⟩
 ·obtain⟨n,hn⟩:∃n:Nat,(Nj (SL d (Ai d f) d.length) B a b).1=(n:Int):=⟨_,(Int.toNat_of_nonneg h1).symm⟩;have sQ:=λ(j:Nat) (hj:j<b-a)=>oZ S hB (vs:=vs) (n:=n) (.inl ⟨h1,hn.symm⟩) hj;have h2:(n:Int)<((SL d (Ai d f) d.length).length:Int):=by rw[<-hn];exact h2
  have hns:n<(SL d (Ai d f) d.length).length:=by omega
  obtain⟨v,x,hi⟩:∃v x,x8 (SL d (Ai d f) d.length) n v x (b-a):=by
   rcases(sQ 0 (by omega)).2 with ⟨v,x,h,_⟩|⟨h,_⟩
   ·exact⟨v,x,h⟩
   ·omega
  refine⟨λj=>CV fx vs rt n j,λj hj=>?_,.inr ⟨n,hns,hn,λh0=>?_,λh0 k v hk hr=>.inr ⟨k,hk,rfl,λj hj=>?_⟩⟩⟩
  ·rcases(sQ j hj).2 with ⟨v,x,h,e⟩|⟨h,_⟩
   ·exact .inr ⟨n,v,x,b-a,j,h,hj,e,rfl⟩
   ·omega
  ·obtain⟨bs,u1,u2,u3⟩:=sj hd hl Hw hs HQ ht J hi (by omega) h0;refine .inl ⟨rfl,bs,u1,u2,u3,λj hj=>?_⟩;show CV fx vs rt n j=_;unfold CV;rw[AMo h0,u1,gM (by omega)]
  ·show CV fx vs rt n j=_;unfold CV;rw[AMp h0,hr]
 ·have sQ:=λ(j:Nat) (hj:j<b-a)=>oZ S hB (vs:=List.replicate (SL d (Ai d f) d.length).length (0,[],())++[(Nj (SL d (Ai d f) d.length) B a b).2.1]) (n:=(SL d (Ai d f) d.length).length) (.inr ⟨h1,AMc _,by simp,by rw[XI,AMD,AMo rfl]⟩) hj;obtain⟨bs,e,el,ew⟩:∃bs:AOA,(Nj (SL d (Ai d f) d.length) B a b).2.1=XU bs/\bs.length=b-a/\b-a<=4096:=by
   rcases(sQ 0 (by omega)).2 with ⟨v,x,h,_⟩|⟨_,bs,e,el,ew,_⟩
   ·have:=h.1;omega
   ·rw[XI,AMD,AMo rfl]at e;exact⟨bs,e,el,ew⟩
  refine⟨λj=>.inl (bs.getD j false),λj hj=>?_,.inl ⟨h1,.inl ⟨rfl,bs,e,el,ew,λj _=>rfl⟩⟩⟩;rcases(sQ j hj).2 with ⟨v,x,h,_⟩|⟨_,Ga,e',_,_,et⟩
  ·have:=h.1;omega
  ·rw[XI,AMD,AMo rfl,e]at e';rw[et,<-br e'];exact .inl ⟨_,rfl,rfl⟩
end
theorem AfL{a:AOz}(ha:a.length<=1048576)(b:Int):Mj a b=some (decide (b∈a)):=by
 unfold Mj;obtain⟨t,h1,h2⟩:Ay (Oa a b 0) λt=>(t=.inl ()/\b∈a)\/(t=.inr ()/\b∉a):=by
  unfold Oa;refine Bu (λm (i:Int)=>∃k:Nat,i=(k:Int)/\k<=a.length/\m=a.length-k/\b∉a.take k) (λm i hI=>?_) a.length 0 ⟨0,rfl,AMS _,rfl,by simp⟩;obtain⟨k,rfl,hk,rfl,hn⟩:=hI;unfold Kw OB;rcases AMh k a.length with h |h
  ·rw[Dy h,AMm,AMo (Bl h),AL7];have he:a.getD k APr.zero=a[k]:=by simp[List.getD,h]
   rw[he];cases hb:(a[k]==b)with
   |true =>
    rw[AMm];rw[ANf]at hb;exact Ay.mk (.inl ⟨rfl,by rw[<-hb];exact AMO h⟩)
   |false =>
    rw[AMl,A1 (n:=k+1)];rw[ANJ]at hb;refine Ay.mk ⟨a.length-(k+1),by omega,k+1,rfl,by omega,rfl,?_⟩;rw[AM6 h];simp only[ANr,AMx]
    rintro(h' |h')
    ·exact hn h'
    ·exact hb h'.symm
  ·have:k=a.length:=by omega
   subst this;rw[Fb,AMl];rw[ANM]at hn;exact Ay.mk (.inr ⟨rfl,hn⟩)
 rw[h1,AL6];rcases h2 with ⟨rfl,h⟩|⟨rfl,h⟩
 ·rw[AMb h];rfl
 ·rw[AL9 h];rfl
section
variable {d:AOE} {l:AOG} {f:Nat->Nat->Bool} {N:Nat} {ld fx:AOz} {vm:APH AOS} {ks:AOD} {vs:AOI} {Bq:AOz} {rt:Nat->Nat}
theorem wu{ns n:Nat}(hns:ns<=1048576)(hn:n<ns)(q:AOt)(c:AOz) :
    ∃k:Nat,k<(B5 rt ns).length/\rt (rp rt ns k)=rt n/\Qo (q,(B5 rt ns).map (cV rt fx vs ns),c,()) (n:Int)=some (k:Int):=by
 have hrl:=bP rt ns;obtain⟨k0,hk0,ek0⟩:=YI rt ns n hn;unfold Qo;obtain⟨t,h1,k,rfl,h2,h3⟩:Ay (Ov (n:Int) (q,(B5 rt ns).map (cV rt fx vs ns),c,()) 0) λt=>∃k:Nat,t=.inl (k:Int)/\k<(B5 rt ns).length/\rt (rp rt ns k)=rt n:=by
  unfold Ov;refine Bu (λm (i:Int)=>∃k:Nat,i=(k:Int)/\k<=(B5 rt ns).length/\m=(B5 rt ns).length-k/\∀k',k'<k->rt (rp rt ns k')≠rt n) (λm i hI=>?_) (B5 rt ns).length 0 ⟨0,rfl,AMS _,rfl,λk' h=>by omega⟩;obtain⟨k,rfl,hk,rfl,VF⟩:=hI;have Bm:k<(B5 rt ns).length:=Classical.byContradiction λh=>VF k0 (by omega) ek0;unfold Lj Qp;simp only[AMi,AL7];rw[Dy Bm,AMm,AMo (Bl Bm),show((B5 rt ns).map (cV rt fx vs ns)).getD k Ao.zero=cV rt fx vs ns (rp rt ns k)from FZ (cV rt fx vs ns) (y:=0) Bm];have wR:=bn rt (rp rt ns k) ns;rw[show(cV rt fx vs ns (rp rt ns k)).1=Pz rt ns (rp rt ns k)from rfl,AfL (by omega),AL6,A1 (n:=k+1)];by_cases hm:(n:Int)∈Pz rt ns (rp rt ns k)
  ·rw[AMb hm,AMm];obtain⟨j,_,e,h⟩:=Ue.1 hm;have:n=j:=by omega
   subst this;exact Ay.mk ⟨k,rfl,Bm,h.symm⟩
  ·rw[AL9 hm,AMl];refine Ay.mk ⟨(B5 rt ns).length-(k+1),by omega,k+1,rfl,by omega,rfl,λk' h'=>?_⟩;by_cases e:k'=k
   ·subst e;exact λh=>hm (Ue.2 ⟨n,hn,rfl,h.symm⟩)
   ·exact VF k' (by omega)
 exact⟨k,h2,h3,by rw[h1];rfl⟩
theorem ma(hd:Az d)(hl:∀x∈l,Ht x)(Hw:CU d l)(hs:BD d l)(HQ:B6 d l f)(ht:∀v p,f v p=true->v<d.length/\1<=p/\p<W d v)
    (J:JN (HL d l f) (SL d (Ai d f) d.length).length N ld fx vm ks vs Bq rt) {B:APH Bt} {a b i k:Nat} (S:eW d (Ai d f) B a b i k) (hB:Bg d B) (q:AOt) (c:AOz) :
    ∃O:Nat->Bool⊕AO5,(∀j,j<b-a->vf (SL d (Ai d f) d.length) fx vs rt (PH B (a+j)) (O j))/\∃r,Gw (q,(B5 rt (SL d (Ai d f) d.length).length).map (cV rt fx vs (SL d (Ai d f) d.length).length),c,()) (Nj (SL d (Ai d f) d.length) B a b)=some r/\SdR rt (SL d (Ai d f) d.length).length (b-a) O r.1 r.2:=by
 obtain⟨VD,_⟩:=ET hd f;have Iw:=Zt hd VD d.length (AMc _);have cX:=hd.1;obtain⟨O,h1,h2⟩:=Agy hd hl Hw hs HQ ht J S hB;refine⟨O,h1,?_⟩;unfold Gw;rcases h2 with ⟨h2,h3⟩|⟨n,hn,h2,h3,h4⟩
 ·rw[AMb h2,AMm];exact⟨(-1,(Nj (SL d (Ai d f) d.length) B a b).2.1),rfl,h3⟩
 ·obtain⟨k,hk,ek,e⟩:=wu (rt:=rt) (fx:=fx) (vs:=vs) (show(SL d (Ai d f) d.length).length<=1048576 by omega) hn q c;rw[h2,AL9 (show ¬((n:Int)<0) by omega),AMl,e,AL6];simp only[AMi,AL7];rw[AMo (Bl hk),show((B5 rt (SL d (Ai d f) d.length).length).map (cV rt fx vs (SL d (Ai d f) d.length).length)).getD k Ao.zero=cV rt fx vs (SL d (Ai d f) d.length).length (rp rt (SL d (Ai d f) d.length).length k)from FZ (cV rt fx vs (SL d (Ai d f) d.length).length) (y:=0) hk];unfold cV;rw[ek];by_cases h0:0<=gI fx (rt n)
  ·rw[AMb (show gI fx (rt n)>=0 from h0)];simp only[AMm];exact⟨(-1,gB vs (gI fx (rt n)).toNat),AMo (Bl hk),h3 h0⟩
  ·rw[AL9 (show ¬gI fx (rt n)>=0 from h0)];simp only[AMl];exact⟨((k:Int),(0,([]:AOz),())),rfl,h4 h0 k _ hk ek⟩
def SmP(d:AOE)(e:AOG)(B1 B2:APH Bt)(a b:Nat):Prop:=∀j,j<b-a->BE (EL d e) (PH B1 (a+j)) (PH B2 (a+j))
theorem qf{a b:AOA}(ha:a.length<=4096):∃r,Ef (XU a) (XU b)=some r/\(r=true↔XU a=XU b):=eC (by
 rw[(dh a).1];unfold nw;exact AMA (show(a.length+63)/64<=1048576 by omega) nj) _
theorem ArM(hd:Az d)(hl:∀x∈l,Ht x)(Hw:CU d l)(hs:BD d l)(HQ:B6 d l f)(ht:∀v p,f v p=true->v<d.length/\1<=p/\p<W d v)
    (J:JN (HL d l f) (SL d (Ai d f) d.length).length N ld fx vm ks vs Bq rt) (hP:∀i,i<l.length->∀x∈kg d l f i,P1 (SL d (Ai d f) d.length).length rt vs x) {B1 B2:APH Bt} (s1:Bg d B1) (s2:Bg d B2) (s3:B1.length=B2.length) (BH:cz d B1 B2 f) {a b:Nat} (g:qX B1 B2 f a b) (q:AOt) (c:AOz) (P:AOL) (e:Int) (cl:AOy) (hc:cl=(q,(B5 rt (SL d (Ai d f) d.length).length).map (cV rt fx vs (SL d (Ai d f) d.length).length),c,())) :
    ∃o o' r,Gw cl (zz (SL d (Ai d f) d.length) B1 B2 a b).1=some o/\Gw cl (zz (SL d (Ai d f) d.length) B1 B2 a b).2.1=some o'/\HK P e cl o.1 o'.1 o.2 o'.2=some r/\(r=false↔SmP d l B1 B2 a b):=by
 subst hc;have yY:=Mp ht;obtain⟨VD,_⟩:=ET hd f;have bg:cz d B1 B2 (C0 (Ai d f)):=by rw[yY];exact BH
 have g':qX B1 B2 (C0 (Ai d f)) a b:=by rw[yY];exact g
 obtain⟨⟨i1,k1,S1⟩,i2,k2,S2⟩:=VU hd VD s1 s2 s3 bg g';obtain⟨O,v1,o,e1,d1⟩:=ma hd hl Hw hs HQ ht J S1 s1 q c;obtain⟨O',v2,o',e2,d2⟩:=ma hd hl Hw hs HQ ht J S2 s2 q c;have Bm:=g.lt;have key:=d1.iff (show 0<b-a by omega) d2;have hsm:SmP d l B1 B2 a b↔∀j,j<b-a->O j=O' j:=forall_congr' λj=>forall_congr' λhj=>(zQ hd hl Hw hs HQ ht J hP (v1 j hj) (v2 j hj)).symm;refine⟨o,o',?_⟩;unfold HK;rw[hsm,<-key];cases Nk:(o.1 !=o'.1)with
 |true =>
  rw[AMm];rw[ANy]at Nk;exact⟨_,e1,e2,rfl,(λh=>by cases h),λh=>(Nk h.1).elim⟩
 |false =>
  have hq:o.1=o'.1:=by simpa using Nk
  rw[AMl];by_cases h0:o.1<0
  ·rw[AMb h0,AMm];rcases d1 with ⟨_,bs,w1,w2,w3,_⟩|⟨k,_,hk,_⟩
   ·rcases d2 with ⟨_,Ga,w1',w2',w3',_⟩|⟨k,_,hk,_⟩
    ·obtain⟨r,er,hr⟩:=qf (a:=bs) (b:=Ga) (by omega);rw[<-w1,<-w1']at er hr;rw[er,AL6];refine⟨_,e1,e2,rfl,?_⟩;rw[Bool.not_eq_eq_eq_not,ANo,hr];exact⟨λh=>⟨hq,λ_=>h⟩,λh=>h.2 h0⟩
    ·omega
   ·omega
  ·rw[AL9 h0,AMl];exact⟨_,e1,e2,rfl,λ_=>⟨hq,λh=>(h0 h).elim⟩,λ_=>rfl⟩
end
theorem Ajo{L:AOD}{B1 B2:APH Bt}{g:Nat->Nat->Bool}{S:Nat->Nat->Prop}{P:AOL}{Y:AOy}
    (hc:∀a b,qX B1 B2 g a b->∀i:Int,∃o o' r,Gw Y (zz L B1 B2 a b).1=some o/\Gw Y (zz L B1 B2 a b).2.1=some o'/\HK P i Y o.1 o'.1 o.2 o'.2=some r/\(r=false↔S a b))
    (hp:∀i,i<P.length->∃a b,qX B1 B2 g a b/\P.getD i Ap.zero=zz L B1 B2 a b) (hl:P.length<=1048576) :
    Ay (OA P Y 0) λt=>(t=.inr ()/\∀a b,qX B1 B2 g a b->zz L B1 B2 a b∈P->S a b)\/(t=.inl ()/\∃a b,qX B1 B2 g a b/\¬S a b):=by
 unfold OA;refine Bu (λm (i:Int)=>∃k:Nat,i=(k:Int)/\k<=P.length/\m=P.length-k/\∀a b,qX B1 B2 g a b->zz L B1 B2 a b∈P.take k->S a b) (λm i hI=>?_) P.length 0 ⟨0,rfl,AMS _,rfl,λa b _ h=>by simp at h⟩;obtain⟨k,rfl,hk,rfl,hI⟩:=hI;unfold Ls Qu;rcases AMh k P.length with h |h
 ·obtain⟨a,b,sJ,hx⟩:=hp k h;obtain⟨o,o',r,q1,q2,q3,q4⟩:=hc a b sJ (k:Int);rw[Dy h,AMm,AMo (Bl h),AL7,hx,q1,AL6,AMo (Bl h),q2,AL6,q3,AL6,A1 (n:=k+1)];cases r with
  |true =>
   rw[AMm];exact Ay.mk (.inr ⟨rfl,a,b,sJ,λh=>by cases q4.2 h⟩)
  |false =>
   rw[AMl];refine Ay.mk ⟨P.length-(k+1),by omega,k+1,rfl,by omega,rfl,λa' b' hg' hm=>?_⟩;rw[AW (z :=Ap.zero) h]at hm;rcases List.mem_append.1 hm with hm |hm
   ·exact hI a' b' hg' hm
   ·rw[AMx,hx]at hm;obtain⟨o2,o2',r2,q1',q2',q3',q4'⟩:=hc a' b' hg' (k:Int);rw[hm,q1]at q1';rw[hm,q2]at q2';injection q1' with q1';injection q2' with q2';subst q1';subst q2';rw[q3]at q3';injection q3' with q3';exact q4'.1 q3'.symm
 ·have:k=P.length:=by omega
  subst this;rw[Fb,AMl];rw[ANM]at hI;exact Ay.mk (.inl ⟨rfl,hI⟩)
theorem Ac9{d:AOE}{e:AOG}{u:AOp}(hd:Az d)(hl:∀x∈e,Ht x)(Hw:CU d e)(hs:BD d e)(hu:Ht u)(hup:CU d [u])(hus:BD d [u]){f:Nat->Nat->Bool}(ht:∀v p,f v p=true->v<d.length/\1<=p/\p<W d v)(HQ:B6 d e f) :
    Ay (Oz d e u (Ai d f,())) λv=>∃g,v=(Ai d g,())/\(∀v p,g v p=true->v<d.length/\1<=p/\p<W d v)/\B6 d e g/\B6 d [u] g:=by
 have iQ:∀x∈[u],Ht x:=λx hx=>by rw[AMx]at hx;rw[hx];exact hu
 unfold Oz;refine Bu (λm (s:AOt)=>∃g,s=(Ai d g,())/\m=62914560-R7 (Ai d g) d.length/\(∀v p,g v p=true->v<d.length/\1<=p/\p<W d v)/\B6 d e g) (λm s hI=>?_) _ _ ⟨f,rfl,rfl,ht,HQ⟩;obtain⟨g,rfl,rfl,hg,hgc⟩:=hI;unfold Lr Qs;obtain⟨g1,e1,L1,le1⟩:=oB hd iQ hup hus hg;obtain⟨g2,e2,L2,le2⟩:=oB hd hl Hw hs L1.Xg;have n1:=Ali hd le1;have n2:=Ali hd le2;have b1:=Alh hd g;have b2:=Alh hd g2;rw[e1,AL6,e2,AL6];simp only;rw[yW hd,AL6,yW hd,AL6];by_cases hq:R7 (Ai d g2) d.length=R7 (Ai d g) d.length
 ·rw[hq,ANK,AMm];have:=(AaW hd (ET hd g).1 L1).1 (by omega);rw[Mp hg]at this;subst this;exact Ay.mk ⟨g1,rfl,hg,hgc,L1.cl⟩
 ·rw[show(((d.length+R7 (Ai d g2) d.length:Nat):Int)==((d.length+R7 (Ai d g) d.length:Nat):Int))=false from beq_eq_false_iff_ne.2 (by omega),AMl];exact Ay.mk ⟨62914560-R7 (Ai d g2) d.length,by omega,g2,rfl,rfl,L2.Xg,L2.cl⟩
theorem w6{d:AOE}{e:AOG}{u:AOp}(hd:Az d)(hl:∀x∈e,Ht x)(heq:∀x∈e,x.2.1=true)(Hw:CU d e)(hs:BD d e)(hu:Ht u)(hup:CU d [u])(hus:BD d [u])(NQ:¬BE (EL d e) (.co false) (.co true)) :
    Ay (MR d e u) λr=>r=true↔∀p,p<(b1 d [u] 0).length->BE (EL d e) (PH (b1 d [u] 0) p) (PH (b2 d [u] 0) p):=by
 have iQ:∀x∈[u],Ht x:=λx hx=>by rw[AMx]at hx;rw[hx];exact hu
 obtain⟨VD,hcb⟩:=mH hd;have cX:=hd.1;obtain⟨rc,ec,_,SI⟩:=aA (d:=d) (l:=e) hcb hl;rcases SI with ⟨_,VF⟩|⟨_,_,_,_,f,rfl,hf⟩
 ·exact(VF ⟨hd,VD,Hw,hs⟩).elim
 obtain⟨v,ev,g,rfl,hg,YC,hgu⟩:=Ac9 hd hl Hw hs hu hup hus hf.Xg hf.cl;have hL:=w8 hg YC;obtain⟨g',e',L',_⟩:=oB hd hl Hw hs hg;have:=hL.unique L';subst this;obtain⟨X,Y,_,eY,hY,hR⟩:=gY hd hl Hw hs hL e';rcases hR with ⟨_,_,h⟩|⟨_,n2,_,_,_,N,ld,fx,vm,ks,vs,Bq,rt,J,hC,hP⟩
 ·exact(NQ (ArL hd hl Hw hs YC hg h)).elim
 have hP':∀i,i<e.length->∀x∈kg d e g i,P1 (SL d (Ai d g) d.length).length rt vs x:=λi hi=>hP i hi (heq _ (AJ (z :=Af.zero) hi));obtain⟨s1,s2,s3,_⟩:=Qg hd iQ hup hus Nat.zero_lt_one;have BH:cz d (b1 d [u] 0) (b2 d [u] 0) g:=hgu 0 (by simp);have eP:=uz hd iQ hup hus hgu hg (i:=0) (Nat.zero_lt_one);rw[ANl]at eP;have hPl:=(js hd iQ hup hus hgu hg Nat.zero_lt_one).1;unfold MR;rw[eF (by omega),AL6,ec,AL6];simp only;rw[ev,AL6,eY,AL6,eP,AL6];simp only;have hYc:Y=(Y.1,(B5 rt (SL d (Ai d g) d.length).length).map (cV rt fx vs (SL d (Ai d g) d.length).length),Y.2.2.1,()):=by rw[<-hC]
 refine Ay.bind (Ajo (λa b sJ i=>ArM hd hl Hw hs YC hg J hP' s1 s2 s3 BH sJ Y.1 Y.2.2.1 (kg d [u] g 0) i Y hYc) (λi hi=>nQ hd iQ hup hus Nat.zero_lt_one (AJ (z :=Ap.zero) hi)) (by omega)) λt hT=>?_
 ·rcases hT with ⟨rfl,h⟩|⟨rfl,a,b,sJ,hn⟩
  ·refine Ay.mk ⟨λ_ p hp=>?_,λ_=>rfl⟩;obtain⟨a,b,sJ,h1,h2,h3⟩:=cover (B1:=b1 d [u] 0) (B2:=b2 d [u] 0) (h:=g) (L:=SL d (Ai d g) d.length) hp;have:=h a b sJ h3 (p-a) (by omega);rw[show a+(p-a)=p by omega]at this;exact this
  ·refine Ay.mk ⟨λh=>by(cases h),λh=>(hn λj hj=>h (a+j) (by have:=sJ.le;omega)).elim⟩
theorem ACX{s t:AOH}(hs:Hv s)(ht:Hv t):∀x∈[pN s t],Ht x:=λx hx=>by
 rw[AMx]at hx;rw[hx];exact⟨hs,ht⟩
theorem Adh{d:AOE}{s t:AOH}(hs:Hv s)(ht:Hv t):∃ak,N9 d (s,()) (t,())=some (1,true,(s,()),(t,()),ak)/\(ak=true↔Az d/\CU d [pN s t]/\BD d [pN s t]):=by
 have hl:=ACX hs ht;obtain⟨r,e,q⟩:=Ve (d:=d) hl;unfold N9;rw[e,AL6];cases r with
 |false=>exact⟨false,rfl,(λh=>by cases h),λh=>(q.2 ⟨h.1,h.2.1⟩)⟩
 |true =>
  obtain⟨hd,hp⟩:=q.1 rfl;obtain⟨v,ev,hv⟩:=Vv hd hl hp.1;rw[AMP,AMl,ev,AL6];rcases hv with ⟨h1,h2,_⟩|⟨h1,h2⟩
  ·exact⟨true,by rw[h1],λ_=>⟨hd,hp,h2⟩,λ_=>rfl⟩
  ·exact⟨false,by rw[h1],(λh=>by cases h),λh=>(h2 h.2.2).elim⟩
theorem Yy{d:AOE}(hd:Az d){t:AOH}(ht:Hv t)(h:(BK d t).1=true):BK d t=(true,fN (Nl d t))/\Bg d (Nl d t):=by
 unfold BK at h⊢;split at h
 ·rename_i hc;obtain⟨ws,hw⟩:=hc.1;rw[AMo hc];exact⟨rfl,tE hd ht hw⟩
 ·cases h
theorem Arv{d:AOE}(hd:Az d){s t:AOH}(hs:Hv s)(ht:Hv t){ak:Bool}(q:ak=true↔Az d/\CU d [pN s t]/\BD d [pN s t]) :
    PU (BK d s).1 (BK d t).1 (BK d s).2 (BK d t).2=some ()/\PV (BK d s).1 (BK d t).1 (BK d s).2 (BK d t).2=some ()/\PW (BK d s).1 (BK d t).1 (BK d s).2 (BK d t).2=some (!ak)/\∀e g i j k l n o,PX (BK d s).1 (BK d t).1 (BK d s).2 (BK d t).2 e g i j k l n o=some (!ak):=by
 have q':ak=true↔(BK d s).1=true/\(BK d t).1=true/\(Nl d s).length=(Nl d t).length:=by
  rw[q,<-lD hd hs ht];exact⟨λh=>h.2,λh=>⟨hd,h⟩⟩
 unfold PU PV PW PX;cases h1:(BK d s).1 with
 |false =>
  have:ak=false:=Bool.eq_false_iff.2 λh=>by rw[h1]at q';cases (q'.1 h).1
  subst this;exact⟨rfl,rfl,rfl,λ_ _ _ _ _ _ _ _=>rfl⟩
 |true =>
  cases h2:(BK d t).1 with
  |false =>
   have:ak=false:=Bool.eq_false_iff.2 λh=>by rw[h2]at q';cases (q'.1 h).2.1
   subst this;exact⟨rfl,rfl,rfl,λ_ _ _ _ _ _ _ _=>rfl⟩
  |true =>
   obtain⟨e1,b1⟩:=Yy hd hs h1;obtain⟨e2,b2⟩:=Yy hd ht h2;rw[h1,h2]at q';simp only[e1,e2,qG b1,qG b2,AL6,AMP,AMl];by_cases hl:(Nl d s).length=(Nl d t).length
   ·have:ak=true:=q'.2 ⟨rfl,rfl,hl⟩;subst this;rw[hl,ANG];exact⟨rfl,rfl,rfl,λ_ _ _ _ _ _ _ _=>rfl⟩
   ·have:ak=false:=Bool.eq_false_iff.2 λh=>hl (q'.1 h).2.2;subst this;rw[show(((Nl d s).length:Int) !=((Nl d t).length:Int))=true from bne_iff_ne.2 (by omega)];exact⟨rfl,rfl,rfl,λ_ _ _ _ _ _ _ _=>rfl⟩
theorem AaQ{a:AOJ}(hn:a.length<=maxLen):Xj Li a :=
 ZF (F:=λx y=>some (Ns Ak x y)) (z :=Ak.zero) (r:=λa b=>Gn a b (a.length:Int)) (λ_ _=>rfl) (λ_ _ _=>rfl) hn λx _ y=>Ay.mk (by
  obtain⟨x1,x2,x3,_⟩:=x;obtain⟨y1,y2,y3,_⟩:=y;show(x1==y1&&(x2==y2&&(x3==y3&&true)))=true↔_;simp)
theorem xd{A B:Type}{F:A->B}{l l':APH A}{z:A}(h:l.length=l'.length):l.map F=l'.map F↔∀p,p<l.length->F (l.getD p z)=F (l'.getD p z):=by
 constructor
 ·intro e p hp;have:=congrArg (λx=>x.getD p (F z)) e;simpa [List.getD,hp,show p<l'.length by omega]using this
 ·intro e;refine AM1 (by simp[h]) λp h1 h2=>?_;have hp:p<l.length:=by simpa using h1
  have:=e p hp;simpa [List.getD,hp,show p<l'.length by omega]using this
theorem AbA{d:AOE}{l:AOG}(cX:d.length<=1048576)(fK:l.length<=1048576)(hl:∀x∈l,Ht x){s t:AOH}(hs:Hv s)(ht:Hv t):∃r,Wc d l (s,()) (t,())=some r/\V0 d l (s,()) (t,())=some r:=by
 have PR:∀x∈Ms l,Ht x:=λx hx=>hl x (List.mem_filter.1 hx).1;obtain⟨r1,e1,q1⟩:=Ve (d:=d) hl;obtain⟨r2,e2,q2⟩:=tu (d:=d) hl;have hr:r1=r2:=by rw[ANF,q1,q2]
 subst hr;obtain⟨r0,e0,q0⟩:=Wx d;obtain⟨ak,ea,qa⟩:=Adh (d:=d) hs ht;unfold Wc V0 TC K6 PD;rw[e0,e1,AL6,AL6];by_cases hd:Az d
 case neg =>
  have h0:r0=false:=Bool.eq_false_iff.2 λx=>hd (q0.1 x);have h1:r1=false:=Bool.eq_false_iff.2 λx=>hd (q1.1 x).1;subst h0;subst h1;simp only[ANo,AMm,AL6,ea];exact⟨_,rfl,rfl⟩
 have h0:r0=true:=q0.2 hd;subst h0;obtain⟨z0,z1,z2,z3⟩:=Arv hd hs ht qa;simp only[AMP,AMl];rw[Ze hd hs,AL6,Ze hd ht,AL6,e2,AL6];cases r1 with
 |false =>
  simp only[ANo,AMm,AL6,ea,z0];exact⟨_,rfl,rfl⟩
 |true =>
  obtain⟨_,Hw⟩:=q1.1 rfl;simp only[AMP,AMl];obtain⟨r3,e3,q3⟩:=Vv hd hl Hw.1;obtain⟨r4,e4,q4⟩:=Vl hd hl Hw;rw[e3,e4,AL6,AL6];rcases q3 with ⟨f1,hsd,_⟩|⟨f1,hns⟩
  ·rcases q4 with ⟨f2,_,_⟩|⟨f2,hns⟩
   ·obtain⟨wP,dU⟩:=AeN Hw hsd;obtain⟨VD,hcb⟩:=mH hd;obtain⟨rc,ec,himp,SI⟩:=aA (d:=d) (l:=Ms l) hcb PR;rcases SI with ⟨_,VF⟩|⟨_,_,_,_,f,rfl,hf⟩
    ·exact(VF ⟨hd,VD,wP,dU⟩).elim
    obtain⟨X,Y,eX,eY,hY,hR⟩:=gY hd PR wP dU hf ec;obtain⟨AB3,AFA⟩:=ET hd f;have Iw:=Zt hd AB3 d.length (AMc _);have AJ6:=hd.1;obtain⟨v5,ev5,hv5⟩:=Vl hd PR wP;have AGy:v5.2=(List.range (Ms l).length).map (Nn d (Ms l)):=by
     rcases hv5 with ⟨_,_,h⟩|⟨_,h⟩
     ·exact h
     ·exact(h dU).elim
    rw[f1,f2];simp only[AMP,AMl,AL6];simp only[xF fK,wY fK,eF cX,tz cX,AL6,eY,himp,ev5,AMP,AMl,kK hd AB3 AFA,AaR (show(SL d (Ai d f) d.length).length<=1048576 by omega),AGy,eX];rcases hR with ⟨n1,n2,_⟩|⟨n1,n2,n3,n4,n5,N,ld,fx,vm,ks,vs,Bq,rt,J,hC,hP⟩
    ·have p1:decide ((X.2.2.2.2.2.2.2.length:Int)>0)=true:=AMb (by
       rcases AMu X.2.2.2.2.2.2.2.length with h |h
       ·exact(n1 (List.length_eq_zero_iff.1 h)).elim
       ·omega)
     have p2:decide ((Y.2.2.1.length:Int)>0)=true:=AMb (by
      rcases AMu Y.2.2.1.length with h |h
      ·exact(n2 (List.length_eq_zero_iff.1 h)).elim
      ·omega)
     rw[p1,p2];simp only[AMm,AL6,ea,z2];cases ak<;>exact⟨_,rfl,rfl⟩
    ·have p1:decide ((X.2.2.2.2.2.2.2.length:Int)>0)=false:=by rw[n1];rfl
     have p2:decide ((Y.2.2.1.length:Int)>0)=false:=by rw[n2];rfl
     rw[p1,p2];simp only[AMl,AL6,ea,z3];cases ak with
     |false=>exact⟨_,rfl,rfl⟩
     |true =>
      obtain⟨_,hup,hus⟩:=qa.1 rfl;obtain⟨k1,k2,k3⟩:=(lD hd hs ht).1 ⟨hup,hus⟩;obtain⟨t1,B1⟩:=Yy hd hs k1;obtain⟨t2,B2⟩:=Yy hd ht k2;have hP':∀i,i<(Ms l).length->∀x∈kg d (Ms l) f i,P1 (SL d (Ai d f) d.length).length rt vs x:=λi hi=>hP i hi (by
       have:=(List.mem_filter.1 (AJ (z :=Af.zero) hi)).2;exact this)
      obtain⟨NQ,AKH⟩:=sem hd PR wP dU hf.cl hf.Xg J hP';obtain⟨rs,es',hrs⟩:=w6 (u:=pN s t) hd PR (λx hx=>(List.mem_filter.1 hx).2) wP dU ⟨hs,ht⟩ hup hus NQ;rw[n3,n4,n5,hC];obtain⟨sg,es,hG⟩:=AgA hd PR wP dU hf.cl hf.Xg J 0 X.2.1 X.2.2.2.1 X.2.2.2.2.2.2.2 X.2.2.1 X.2.2.2.2.2.1;have sgv:∀{b o},vf (SL d (Ai d f) d.length) fx vs rt b o->SgO rt (SL d (Ai d f) d.length).length o (sgB sg.2.2.2.2.2.2.2.2 b):=λ{b o} h=>by
       rcases h with ⟨c,rfl,rfl⟩|⟨y,v,x,w,j,h1,h2,rfl,rfl⟩
       ·exact rfl
       ·exact hG.ok h1 h2 trivial
      have hbl:=B1.2.1;obtain⟨re,ee,sZ⟩:=AaQ (a:=(Nl d s).map (sgB sg.2.2.2.2.2.2.2.2)) (by rw[AMi];exact AMA (show(Nl d s).length<=1048576 by omega) nj) ((Nl d t).map (sgB sg.2.2.2.2.2.2.2.2));have heq:re=rs:=by
       rw[ANF,sZ,hrs,xd (z:=.co false) k3];refine forall_congr' λp=>forall_congr' λhp=>?_;obtain⟨o,ho⟩:=Ahj (f:=f) (fx:=fx) (vs:=vs) (rt:=rt) hd (B1.2.2 _ (AJ (z:=Bt.co false) hp));obtain⟨o',sS⟩:=Ahj (f:=f) (fx:=fx) (vs:=vs) (rt:=rt) hd (B2.2.2 _ (AJ (z:=Bt.co false) (show p<(Nl d t).length by omega)));rw[(sgv ho).iff (sgv sS)];exact zQ hd PR wP dU hf.cl hf.Xg J hP' ho sS
      simp only[AMP,AMl];rw[es,AL6,t1,t2,jG hd hG.len hG.row B1,AL6,jG hd hG.len hG.row B2,AL6,ee,AL6,heq];refine⟨(rs,0),?_,rfl⟩;show(MR d (Ms l) (pN s t)).bind _=_;rw[es'];rfl
   ·exact(hns hsd).elim
  ·rcases q4 with ⟨f2,hsd,_⟩|⟨f2,_⟩
   ·exact(hns hsd).elim
   ·rw[f1,f2];simp only[ANo,AMm,AL6,ea,z0];exact⟨_,rfl,rfl⟩
theorem law_ok(n:AOE)(o:AOG)(p q:AOu)(hn:Ty.Wf (.sl Ad) n)(ho:Ty.Wf (.sl Af) o)(hp:Ty.Wf An p)(hq:Ty.Wf An q):MJ n o p q=some true:=by
 unfold MJ PD;rw[xL hn 1048576 (by omega) (by omega),AL6];generalize h1:wt (.sl Ad) n=w1 at *;by_cases c1:(w1:Int)<=1048576
 case neg=>rw[AMp c1];rfl
 rw[AMo c1,IV,AMl,k8 ho _ (by omega) (by omega),AL6];generalize h2:wt (.sl Af) o=w2 at *;by_cases c2:(w2:Int)<=1048576-(w1:Int)
 case neg=>rw[AMp c2];rfl
 rw[AMo c2,IV,AMl,YN hp _ (by omega) (by omega),AL6];generalize h3:wt An p=w3 at *;by_cases c3:(w3:Int)<=1048576-(w1:Int)-(w2:Int)
 case neg=>rw[AMp c3];rfl
 rw[AMo c3,IV,AMl,YN hq _ (by omega) (by omega),AL6];generalize h4:wt An q=w4 at *;by_cases c4:(w4:Int)<=1048576-(w1:Int)-(w2:Int)-(w3:Int)
 case neg=>rw[AMp c4];rfl
 rw[AMo c4,IV,AMl];have ln:n.length<=1048576:=by have:=xX (t:=Ad) n;omega
 have lo:o.length<=1048576:=by have:=xX (t:=Af) o;omega
 have bo:∀x∈o,Ht x:=λx hx=>ACW (ho.2 x hx) (by have:=Ahp (t:=Af) hx;omega);have bp:Hv p.1:=qy hp (by omega);have bq:Hv q.1:=qy hq (by omega);have tn:=xS ln;have to':=k9 lo bo;have tp:=YP bp;have tq:=YP bq;obtain⟨r,s1,s2⟩:=AbA (d:=n) ln lo bo bp bq;have htp:Gu (p.1,()) (p.1,())=some true:=aP (Yu hp);have D9:Gu (q.1,()) (q.1,())=some true:=aP (Yu hq);simp only[tn,to',tp,tq,s1,s2,AL6,ANK,AMP,AMl,ANG,Bool.or_false,aP (wD hn),aP (kv ho),D9,htp]
end Go.Proofs.X
