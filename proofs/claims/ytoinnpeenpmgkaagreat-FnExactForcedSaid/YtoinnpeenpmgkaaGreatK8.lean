import Derived.Test.YtoinnpeenpmgkaaGreatK7
set_option linter.unusedVariables false
set_option linter.unusedSimpArgs false
namespace Go.Proofs.X
open Go Go.Va
set_option maxRecDepth 100000
def sd(d:ASG)(l:ASK)(i s:Nat):ATO Bt:=if s=0 then b1 d l i else b2 d l i
def gH{A:Type}(f:Nat->Nat->A)(n:Nat):ATO A:=(List.range n).flatMap λi=>[f i 0,f i 1]
theorem me{A:Type}(f:Nat->Nat->A)(n:Nat):gH f (n+1)=gH f n++[f n 0,f n 1]:=by
 unfold gH;rw[ARh];simp
theorem Wu{A:Type}(f:Nat->Nat->A):∀n,(gH f n).length=2*n
 |0=>rfl
 |n+1=>by rw[me,AQd,Wu f n];simp;omega
theorem Ach{A:Type}(f:Nat->Nat->A){z:A}:∀{n i s:Nat},i<n->s<2->(gH f n).getD (2*i+s) z=f i s
 |n+1,i,s,hi,hs=>by
  rw[me];simp;rcases AQk i n with h |h
  ·rw[AQw (by rw[Wu];omega)];exact Ach f h hs
  ·have:i=n:=by omega
   subst this;rw[AQv (by rw[Wu];omega),Wu,show 2*i+s-2*i=s by omega]
   grind
theorem aM{d:ASG}{l:ASK}(hd:AE d)(hl:∀x∈l,MK x)(hlen:l.length<=60):Ay (RJ d l) λr=>(r.1=true/\CF d l/\r.2=gH (λi s=>(D1 d (if s=0 then lS l i else lT l i)).2) l.length)\/(r.1=false/\¬CF d l):=by
 refine Ay.bind (P:=λt=>(∃x,t=.inl x/\¬CF d l)\/(t=.inr (gH (λi s=>(D1 d (if s=0 then lS l i else lT l i)).2) l.length)/\CF d l)) ?_ λt ht=>?_
 ·refine BB (λm x=>∃k:Nat,k<=l.length/\m=l.length-k/\x.1=(k:Int)/\x.2=gH (λi s=>(D1 d (if s=0 then lS l i else lT l i)).2) k/\∀i,i<k->jo d l i) (λm x hI=>?_) _ _ ⟨0,AQW _,rfl,rfl,rfl,λi hi=>by omega⟩;obtain⟨x1,x2⟩:=x;obtain⟨k,hk,rfl,h1,h2,h3⟩:=hI;subst h1;subst h2;unfold MI RL OQ;simp only;rcases AQk k _ with h |h
  ·have hB:=hl _ (AO (z:=Ty.zero _) h);have e1:BK d (l.getD k _).2.2.1=some (D1 d (lS l k)):=Hw hd hB.1;have e2:BK d (l.getD k _).2.2.2.1=some (D1 d (lT l k)):=Hw hd hB.2;rw[Di h,AQr (Bq h),AQa,e1,AP9,AQr (Bq h),e2,AP9];cases hc:(!(D1 d _).1||!(D1 d _).1)with
   |true =>
    refine Ay.mk (.inl ⟨_,rfl,λh'=>?_⟩);have:=sE.2 (h' k h);rw[hc]at this;cases this
   |false =>
    rw[AQr (by rw[Wu];show(2*k+2)*24<=_;omega),Bp h (by omega)];refine Ay.mk ⟨l.length-(k+1),by omega,k+1,h,rfl,rfl,(me _ k).symm,λi hi=>?_⟩;rcases AQk i k with h' |h'
    ·grind
    ·rw[show i=k by omega];exact sE.1 hc
  ·have:k=l.length:=by omega
   subst this;rw[Ew];exact Ay.mk (.inr ⟨rfl,h3⟩)
 ·rcases ht with ⟨x,rfl,h⟩|⟨rfl,h⟩
  ·exact Ay.mk (.inr ⟨rfl,h⟩)
  ·exact Ay.mk (.inl ⟨rfl,h,rfl⟩)
def bg(f:Nat->Nat->Bool):Sg->Nat->Nat->Bool
 |.co _=>f
 |.va v l n=>mark (mark f v l) v (l+n)
theorem Ajy{d:ASG}(hd:AE d){ks:ATO (ATO Sg)}{m i:Nat}(hm:m<ks.length)(hi:i<(ks.getD m []).length)(Gh:V8 d ((ks.getD m []).getD i (.co []))){f:Nat->Nat->Bool}{o:ASP} :
    Lj (m:Int) (i:Int) (M d 1 f) (ks.map fV) o=some (M d 1 (bg f ((ks.getD m []).getD i (.co [])))):=by
 unfold Lj;have e1:(ks.map fV).getD m (Ty.zero (.sl _))=fV (ks.getD m []):=Fq fV hm;simp only[AQa,e1,gW hi];rw[AQl,AQr (Bq hm),Cm,AQr (Bq hi)];cases hs:(ks.getD m []).getD i _ with
 |co b=>rfl
 |va v a n =>
  rw[hs]at Gh;obtain⟨hv,hn,hw⟩:=Gh;obtain⟨e0,iO,kL⟩:=P6 hd hv;have e2:(Ik (.va v a n)).1=v:=rfl;have e3:(Ik (.va v a n)).2.1=a:=rfl;have e5:(Ik (.va v a n)).2.2.1=n:=rfl;have e4:wI (a+n)=((a+n:Nat)):=A6;simp only[e2,e3,e5,e4,AQa];have q1:(M d 1 f).set v (((M d 1 f).getD v ATF.zero).set a true)=M d 1 _:=qs hv;simp only[q1];have q2:(M d 1 _).set v (((M d 1 _).getD v ATF.zero).set _ true)=M d 1 (mark (mark f v a) v (a+n)):=qs hv;simp only[q2];rw[show decide ((v:Int)>=0)=true from MM,Yh,AQr (Bq hv),YK hv,Lh,AQr (show 0<=(a:Int)/\a<((W d v+1:Nat):Int)from⟨by omega,by omega⟩),Yh,AQr (Bq hv),YK hv,Lh,AQr (show 0<=((a+n:Nat):Int)/\((a+n:Nat))<((W d v+1:Nat):Int)from⟨by omega,by omega⟩)];rfl
theorem Ajz{d:ASG}(hd:AE d){ks:ATO (ATO Sg)}{m:Nat}(hm:m<ks.length)(hb:(ks.getD m []).length<=1048576)(Gh:∀x∈ks.getD m [],V8 d x){f:Nat->Nat->Bool}{o:ASP} :
    Ut (m:Int) (ks.map fV) o 0 (M d 1 f)=some (M d 1 ((ks.getD m []).foldl bg f)):=by
 have e1:(ks.map fV).getD m (Ty.zero (.sl _))=fV (ks.getD m []):=Fq fV hm;have:=AW (f:=F6 m (ks.map fV) o) (λk=>(k,M d 1 (((ks.getD m []).take k).foldl bg f))) (t:=M d 1 ((ks.getD m []).foldl bg f)) (ks.getD m []).length (λk hk=>?_) ?_
 ·exact this
 ·unfold F6 MA;simp only[AQa,e1];rw[AQl,AQr (Bq hm),Cm,Di hk,Ajy hd hm hk (Gh _ (AO hk)),Bp hk hb,A3  hk,AR1];rfl
 ·unfold F6 MA;simp only[AQa,e1];rw[AQl,AQr (Bq hm),Cm,Ew,AQo,AQj (AQf _)]
def aL(B:ATO Bt):ASB:=(bV B,Ym (Az B),())
theorem AjA{d:ASG}(hd:AE d){bs:ATO (ATO Bt)}(hb:∀B∈bs,Bv d B)(hl:bs.length<=1000){f:Nat->Nat->Bool} :
    Uu (bs.map fN) 0 (M d 1 f) []=some (M d 1 ((bs.flatMap Az).foldl bg f),bs.map aL):=by
 have em:bs.map fN=(bs.map Az).map fV:=by rw[ARW];rfl
 have:=AW (f:=F7 (bs.map fN)) (λk=>(k,M d 1 (((bs.take k).flatMap Az).foldl bg f),(bs.take k).map aL)) (t:=(M d 1 ((bs.flatMap Az).foldl bg f),bs.map aL)) bs.length (λk hk=>?_) ?_
 ·exact this
 ·unfold F7 MB;have hB:=hb _ (AO (z:=[]) hk);have e1:(bs.map fN).getD k (Ty.zero (.sl _))=fN (bs.getD k []):=Fq fN hk;have e2:(bs.map Az).getD k []=Az (bs.getD k []):=Fq Az hk;have e3:=Ajz hd (ks:=bs.map Az) (m:=k) (by grind) (by rw[e2];have:=CX (CM (bs.getD k []));rw[Ce]at this;have:=hB.2.1;omega) (by rw[e2];exact λx hx=>(Zk hB hx).1) (f:=((bs.take k).flatMap Az).foldl bg f) (o:=(bs.take k).map aL);rw[<-em,e2]at e3;simp only[AQa,e1];rw[AQl,Di hk,e3,AP9,AQr (Bq hk),AiP hd hB,AP9,AQr (by grind),Bp hk (by omega),A3  hk,ARR,AR1,AQT];simp only[List.flatMap_cons,List.flatMap_nil,AQO,ARz];rfl
 ·unfold F7 MB
  grind
def wB(f:Nat->Nat->Bool):Bt->Nat->Nat->Bool
 |.co _=>f
 |.va v a=>mark f v a
def hU(A B:ATO Bt)(f:Nat->Nat->Bool)(p:Nat):Bool:=T5 A f p&&(!T5 B f p&&kP (LC B p))
section
variable {d:ASG} {l:ASK}
def Xv(d:ASG)(l:ASK):ASP:=gH (λi s=>aL (sd d l i s)) l.length
theorem fG{i s:Nat}(hi:i<l.length)(hs:s<2):(Xv d l).getD (2*i+s) Au.zero=aL (sd d l i s):=Ach (λi s=>aL _) hi hs
structure YH (d:ASG) (l:ASK):Prop where
 hd:AE d
 len:l.length<=60
 inn:∀i s,i<l.length->Bv d (sd d l i s)
 sI:∀i,i<l.length->(sd d l i 0).length=(sd d l i 1).length
theorem YH.eq(h:YH d l){i:Nat}(hi:i<l.length)(s t:Nat):(sd d l i s).length=(sd d l i t).length:=by
 have:=h.sI i hi;unfold sd at this⊢
 grind
theorem AjB(H:YH d l){i s p:Nat}(hi:i<l.length)(hs:s<2)(hp:p<(sd d l i 0).length){f:Nat->Nat->Bool}{q:Bool}{e j:Int} :
    Lk q ((2*i:Nat):Int) e j (p:Int) (s:Int) (M d 1 f) (Xv d l)=some (bif hU (sd d l i s) (sd d l i (1-s)) f p then(true,M d 1 (wB f (LC (sd d l i (1-s)) p)))else(q,M d 1 f)):=by
 unfold Lk PX;have hlen:=H.len;have e1:wI (((2*i:Nat))+s)=((2*i+s:Nat)):=A6;have e2:wI (wI (((2*i:Nat))+1)-s)=((2*i+(1-s):Nat)):=by
  rw[A6 (x:=((2*i:Nat))+1) (n:=2*i+1)];exact A6
 have g1:=fG (d:=d) hi hs;have g2:=fG (d:=d) hi (show 1-s<2 by omega);have hA:=H.inn i s hi;have hB:=H.inn i (1-s) hi;have hpA:p<(sd d l i s).length:=by rw[H.eq hi s 0];exact hp
 have hpB:p<(sd d l i (1-s)).length:=by rw[H.eq hi _ 0];exact hp
 have Jc:(Xv d l).length=2*l.length:=Wu _ _;have eb:(bV _).getD p _=Wa (LC _ p):=cC hpB;simp only[e1,e2,AQa,g1,g2];rw[AQr (Bq (by omega)),AQr (Bq (by omega))];unfold aL;simp only[eb];rw[SG H.hd hA hpA,AP9];unfold hU;cases T5 _ f p with
 |false=>rfl
 |true =>
  rw[AQp,xt H.hd hB hpB,AP9,AP9,AR8];cases hw:(!T5 _ f p&&kP _)with
  |false=>rfl
  |true =>
   rw[CR,AQr (Bq hpB)];have hb:=AfQ hB hpB;cases hbb:LC _ p with
   |co c=>rw[hbb]at hw;simp[kP]at hw
   |va v a =>
    rw[hbb]at hb;obtain⟨hv,ha⟩:=hb;obtain⟨e0,iO,kL⟩:=P6 H.hd hv;have m1:(M d 1 f).set v (((M d 1 f).getD v ATF.zero).set a true)=M d 1 _:=qs hv;have c1:(Wa (.va v a)).1=v:=rfl;have c2:(Wa (.va v a)).2.1=a:=rfl;simp only[c1,c2,AQa,m1];rw[Yh,AQr (Bq hv),AQr (Bq hpB),YK hv,Lh,AQr (show 0<=(a:Int)/\a<((W d v+1:Nat):Int)from⟨by omega,by omega⟩)];rfl
def tN(d:ASG)(f:Nat->Nat->Bool):Nat->Nat->Bool:=λv p=>decide (v<d.length/\1<=p/\p<W d v)&&f v p
theorem PD{f:Nat->Nat->Bool}{v p:Nat}:tN d f v p=true↔(v<d.length/\1<=p/\p<W d v)/\f v p=true:=by simp[tN]
theorem zq{B:ATO Bt}(h:Bv d B){p:Nat}(hp:p<B.length)(f:Nat->Nat->Bool):T5 B (tN d f) p=T5 B f p:=by
 unfold T5;rcases Z0 h hp with ⟨q,_⟩|⟨q,⟨⟨b,e⟩,_⟩|⟨v,a,e,h1,h2,h3,_⟩⟩
 ·grind
 ·rw[e];rfl
 ·rw[e];simp[Adr,tN,h1,h2,h3]
structure SW (d:ASG) (l:ASK) (fs:Nat->Nat->Bool) (ok:Prop) (q:Bool) (f:Nat->Nat->Bool):Prop where
 no:q=false->f=fs/\ok
 yes:q=true->free d f+1<=free d fs
 le:QM fs f
 min:∀h,EB d l h->QM (tN d fs) h->QM (tN d f) h
theorem SW.imp{fs f:Nat->Nat->Bool}{ok ok':Prop}{q:Bool}(h:SW d l fs ok q f)(hi:ok->ok'):SW d l fs ok' q f:=⟨λe=>⟨(h.no e).1,hi (h.no e).2⟩,h.yes,h.le,h.min⟩
def yf(d:ASG)(l:ASK)(fs:Nat->Nat->Bool)(i p s:Nat):Prop:=hU (sd d l i s) (sd d l i (1-s)) fs p=false
theorem Am6(H:YH d l){fs f:Nat->Nat->Bool}{ok:Prop}{q:Bool}(h:SW d l fs ok q f){i s p:Nat}(hi:i<l.length)(hs:s<2)(cf:1<=p)(hp:p<(sd d l i 0).length) :
    SW d l fs (ok/\yf d l fs i p s) (bif hU (sd d l i s) (sd d l i (1-s)) f p then true else q) (bif hU (sd d l i s) (sd d l i (1-s)) f p then wB f (LC (sd d l i (1-s)) p)else f):=by
 cases hh:hU (sd d l i s) (sd d l i (1-s)) f p with
 |false =>
  refine⟨λe=>?_,h.yes,h.le,h.min⟩;obtain⟨e1,e2⟩:=h.no e;exact⟨e1,e2,by rw[e1]at hh;exact hh⟩
 |true =>
  have hA:=H.inn i s hi;have hB:=H.inn i (1-s) hi;have hpA:p<(sd d l i s).length:=by rw[H.eq hi s 0];exact hp
  have hpB:p<(sd d l i (1-s)).length:=by rw[H.eq hi (1-s) 0];exact hp
  unfold hU at hh;rw[AQg,AQg,ARv]at hh;obtain⟨c1,c2,c3⟩:=hh;have key:∃v a,LC (sd d l i (1-s)) p=.va v a/\v<d.length/\1<=a/\a<W d v/\f v a=false:=by
   rcases Z0 hB hpB with ⟨e,_⟩|⟨e,⟨⟨b,e'⟩,_⟩|⟨v,a,e',h1,h2,h3,_⟩⟩
   ·unfold T5 at c2;rw[e]at c2;cases c2
   ·rw[e']at c3;cases c3
   ·refine⟨v,a,e',h1,h2,h3,?_⟩;unfold T5 at c2;rw[e,e',ASl]at c2;exact c2
  obtain⟨v,a,e1,h1,h2,h3,h4⟩:=key;have S5:QM f (wB f (LC (sd d l i (1-s)) p)):=λu b hu=>by rw[e1];exact Fw.2 (.inl hu)
  have AMb:free d (wB f (LC (sd d l i (1-s)) p))+1<=free d f:=by rw[e1];exact eZ h1 h3 h4
  refine⟨λe=>(by cases e),λ_=>?_,λu b hu=>S5 u b (h.le u b hu),λg hg hgs=>?_⟩
  ·rw[AQp];have:free d f<=free d fs:=List.countP_mono_left λx _ hx=>by
    simp only[ARv]at hx⊢;cases hq:fs x.1 x.2 with
    |false=>rfl
    |true=>rw[h.le _ _ hq]at hx;cases hx
   omega
  ·rw[AQp,e1];have hm:=h.min g hg hgs;intro u b hub;obtain⟨hr,hub⟩:=PD.1 hub;rcases Fw.1 hub with hub |⟨rfl,rfl⟩
   ·exact hm u b (PD.2 ⟨hr,hub⟩)
   ·have AFZ:T5 (sd d l i s) g p=true:=by
      rw[<-zq hA hpA f]at c1;unfold T5 at c1⊢;rw[ARr]at c1⊢;refine c1.imp id λc=>?_;cases hx:LC (sd d l i s) p with
      |co _=>rw[hx]at c;cases c
      |va v' a'=>rw[hx]at c;exact hm v' a' c
    have fW:T5 (sd d l i (1-s)) g p=true:=by
     have Y7:=(hg i hi).2 p cf hp
     match s,hs with
     |0,_=>exact Y7.1 AFZ c3
     |1,_=>exact Y7.2 AFZ c3
    unfold T5 at fW c2;rw[ARc]at c2;rw[c2.1,e1,ASl]at fW;exact fW
theorem AjC(H:YH d l){i p:Nat}(hi:i<l.length)(cf:1<=p)(hp:p<(sd d l i 0).length){fs f:Nat->Nat->Bool}{ok:Prop}{q:Bool}(h:SW d l fs ok q f){e j:Int} :
    Ay (Uv ((2*i:Nat):Int) e j (Xv d l) (p:Int) q 0 (M d 1 f)) λr=>∃f',r.2=M d 1 f'/\SW d l fs (ok/\yf d l fs i p 0/\yf d l fs i p 1) r.1 f':=by
 have:=B4 (f:=F8 ((2*i:Nat)) e j (Xv d l) p) (λk x=>(x.1,k,M d 1 x.2)) 2 (λk x=>SW d l fs (ok/\∀s,s<k->yf d l fs i p s) x.1 x.2) (Q:=λr=>∃f',r.2=M d 1 f'/\SW d l fs (ok/\yf d l fs i p 0/\yf d l fs i p 1) r.1 f') (λk x hk hx=>?_) (λx hx=>?_) (s0:=(q,f)) (h.imp λh=>⟨h,λs hs=>by omega⟩)
 ·exact this
 ·unfold F8 MC;rw[show decide ((k:Int)<2)=true from MM,AjB H hi hk hp,Bp  hk (by omega)];have:=Am6 H hx hi hk cf hp;refine Ay.mk ⟨(bif hU _ _ x.2 p then true else x.1,bif hU _ _ x.2 p then wB x.2 _ else x.2),?_,this.imp λ⟨⟨h1,h2⟩,h3⟩=>⟨h1,λs hs=>?_⟩⟩
  ·grind
  grind
 ·unfold F8 MC;exact Ay.mk ⟨x.2,rfl,hx.imp λ⟨h1,h2⟩=>⟨h1,h2 0 (by omega),h2 1 (by omega)⟩⟩
theorem Ael(H:YH d l){i k:Nat}(hi:i<l.length)(hk:1<=k)(hk2:k<2*(sd d l i 0).length){fs f:Nat->Nat->Bool}{ok:Prop}{q:Bool}(h:SW d l fs ok q f) :
    Ay (J4 q ((2*i:Nat):Int) ((sd d l i 0).length:Int) (k:Int) (M d 1 f) (Xv d l)) λr=>∃f',r.2=M d 1 f'/\SW d l fs (ok/\(k<(sd d l i 0).length->yf d l fs i k 0/\yf d l fs i k 1)) r.1 f':=by
 unfold J4 OQ PW;have hb:=(H.inn i 0 hi).2.1;have ep:(bif decide (k>=((sd d l i 0).length:Int))then wI (wI (2*((sd d l i 0).length))-k)else k)=((if(sd d l i 0).length<=k then 2*(sd d l i 0).length-k else k)):=by
  by_cases hc:(sd d l i 0).length<=k
  ·rw[MM,AQr hc,A6 (x:=2*((sd d l i 0).length)) (n:=2*(sd d l i 0).length)];exact A6
  grind
 rw[ep];obtain⟨p,hp⟩:∃p,p=if(sd d l i 0).length<=k then 2*(sd d l i 0).length-k else k:=⟨_,rfl⟩;rw[<-hp];have hpk:k<(sd d l i 0).length->p=k:=λBw=>by grind
 have cf:1<=p:=by grind
 rw[show decide _=false from I3,AQo];by_cases hc:p<(sd d l i 0).length
 ·rw[show decide _=false from I3,AQo,AP9];refine Ay.bind (AjC H hi cf hc h) λr hr=>?_;obtain⟨f',e1,e2⟩:=hr;refine Ay.mk ⟨f',e1,e2.imp λ⟨h1,h2⟩=>⟨h1,λBw=>?_⟩⟩;rw[<-hpk Bw];exact h2
 ·rw[show decide _=true from MM,AQp];exact Ay.mk ⟨f,rfl,h.imp λh1=>⟨h1,λBw=>by omega⟩⟩
theorem Aem(H:YH d l){i:Nat}(hi:i<l.length){fs f:Nat->Nat->Bool}{ok:Prop}{q:Bool}(h:SW d l fs ok q f) :
    Ay (SV ((2*i:Nat):Int) (Xv d l) ((sd d l i 0).length:Int) q 1 (M d 1 f)) λr=>∃f',r.2=M d 1 f'/\SW d l fs (ok/\∀p,1<=p->p<(sd d l i 0).length->yf d l fs i p 0/\yf d l fs i p 1) r.1 f':=by
 have hb:=(H.inn i 0 hi).2.1;have gY:=(H.inn i 0 hi).1;have ew:wI (2*((sd d l i 0).length))=((2*(sd d l i 0).length:Nat)):=A6;have:=B4 (f:=EW ((2*i)) (Xv d l) ((sd d l i 0).length)) (λk x=>(x.1,((k+1:Nat)),M d 1 x.2)) (2*(sd d l i 0).length-1) (λk x=>SW d l fs (ok/\∀p,1<=p->p<k+1->p<(sd d l i 0).length->yf d l fs i p 0/\yf d l fs i p 1) x.1 x.2) (Q:=λr=>∃f',r.2=M d 1 f'/\SW d l fs (ok/\∀p,1<=p->p<(sd d l i 0).length->yf d l fs i p 0/\yf d l fs i p 1) r.1 f') (λk x hk hx=>?_) (λx hx=>?_) (s0:=(q,f)) (h.imp λh=>⟨h,λp h1 h2=>by omega⟩)
 ·exact this
 ·unfold EW KX;rw[ew,Di (show k+1<2*(sd d l i 0).length by omega),A6 (x:=((k+1:Nat))+1) (n:=k+1+1)];refine Ay.bind (Ael H hi (by omega) (by omega) hx) λr hr=>?_;obtain⟨f',e1,e2⟩:=hr;refine Ay.mk ⟨(r.1,f'),by grind,e2.imp λ⟨⟨h1,h2⟩,h3⟩=>⟨h1,λp p1 p2 p3=>?_⟩⟩
  grind
 ·unfold EW KX;rw[ew,show 2*(sd d l i 0).length-1+1=2*(sd d l i 0).length by omega,Ew];exact Ay.mk ⟨x.2,rfl,hx.imp λ⟨h1,h2⟩=>⟨h1,λp p1 p2=>h2 p p1 (by omega) p2⟩⟩
def et(d:ASG)(l:ASK)(fs:Nat->Nat->Bool)(n:Nat):Prop:=∀i,i<n->∀p,1<=p->p<(sd d l i 0).length->yf d l fs i p 0/\yf d l fs i p 1
theorem Aen(H:YH d l)(fs:Nat->Nat->Bool):Ay (SX (Xv d l) false 0 (M d 1 fs)) λr=>∃f',r.2=M d 1 f'/\SW d l fs (et d l fs l.length) r.1 f':=by
 have hlen:=H.len;have Jc:(Xv d l).length=2*l.length:=Wu _ _;have:=B4 (f:=EX (Xv d l)) (λk x=>(x.1,((2*k:Nat)),M d 1 x.2)) l.length (λk x=>SW d l fs (et d l fs k) x.1 x.2) (Q:=λr=>∃f',r.2=M d 1 f'/\SW d l fs (et d l fs l.length) r.1 f') (λk x hk hx=>?_) (λx hx=>?_) (s0:=(false,fs)) ⟨λ_=>⟨rfl,λi hi=>by omega⟩,λe=>(by grind),λ_ _ h=>h,λ_ _ h=>h⟩
 ·exact this
 ·unfold EX KY;have g1:=fG (d:=d) hk (show 0<2 by omega);rw[AR3]at g1;simp only[AQa,g1];have e1:(aL _).1.length=(sd d l k 0).length:=CR _;rw[Jc,Di (show 2*k<2*l.length by omega),AQr (Bq (by omega)),e1,A6  (n:=2*(k+1)) (by omega) (by omega)];refine Ay.bind (Aem H hk hx) λr hr=>?_;obtain⟨f',e1,e2⟩:=hr;refine Ay.mk ⟨(r.1,f'),by grind,e2.imp λ⟨h1,h2⟩ i hi=>?_⟩;rcases AQk i k with h' |h'
  ·exact h1 i h'
  grind
 ·unfold EX KY;rw[Jc,Ew];exact Ay.mk ⟨x.2,rfl,hx⟩
theorem Aeo(H:YH d l)(f0:Nat->Nat->Bool):Ay (SY (Xv d l) true (M d 1 f0)) λr=>∃f,r=M d 1 f/\QM f0 f/\et d l f l.length/\∀h,EB d l h->QM (tN d f0) h->QM (tN d f) h:=by
 refine BB (λm x=>∃f,x.2=M d 1 f/\m=free d f+(if x.1 then 1 else 0)/\QM f0 f/\(x.1=false->et d l f l.length)/\∀h,EB d l h->QM _ h->QM (tN d f) h) (λm x hx=>?_) _ _ ⟨f0,rfl,rfl,λ_ _ h=>h,λe=>(by grind),λ_ _ h=>h⟩;obtain⟨q,t⟩:=x;obtain⟨f,e1,rfl,S5,ga,Adt⟩:=hx;subst e1;unfold KZ Qk;cases q with
 |false=>exact Ay.mk ⟨f,rfl,S5,ga rfl,Adt⟩
 |true =>
  refine Ay.bind (Aen H f) λr hr=>?_;obtain⟨f',e1,e2⟩:=hr;refine Ay.mk ⟨free d f'+(if r.1 then 1 else 0),?_,f',e1,rfl,λu b hu=>e2.le u b (S5 u b hu),λe=>?_,λh hh hs=>e2.min h hh (Adt h hh hs)⟩
  ·cases hq:r.1 with
   |false=>rw[(e2.no hq).1];simp
   |true=>have:=e2.yes hq;simp;omega
  ·obtain⟨q1,q2⟩:=e2.no e;rw[q1];exact q2
end
theorem vb{d:ASG}:∀(fs:ATO Sg) (f:Nat->Nat->Bool),(∀x∈fs,V8 d x)->QM f (fs.foldl bg f)/\(∀x∈fs,Sj d (tN d (fs.foldl bg f)) x)/\∀h,(∀x∈fs,Sj d h x)->QM (tN d f) h->QM (tN d (fs.foldl bg f)) h
 |[],f,_=>⟨λ_ _ h=>h,λx hx=>(by cases hx),λ_ _ h=>h⟩
 |x::fs,f,Gh=>by
  obtain⟨i1,i2,i3⟩:=vb fs (bg f x) λy hy=>Gh y (AQB _ hy);have k1:QM f (bg f x):=by
   cases x with
   |co b=>exact λ_ _ h=>h
   |va v l n=>exact λu q h=>Fw.2 (.inl (Fw.2 (.inl h)))
  refine⟨λu q h=>i1 u q (k1 u q h),λy hy=>?_,λh hh hs=>i3 h (λy hy=>hh y (AQB _ hy)) ?_⟩
  ·rcases List.mem_cons.1 hy with rfl |hy
   ·cases y with
    |co b=>trivial
    |va v l n =>
     have hv:=(Gh _ AQE).1;exact⟨λh1 h2=>PD.2 ⟨⟨hv,h1,h2⟩,i1 v l (Fw.2 (.inl (Fw.2 (.inr ⟨rfl,rfl⟩))))⟩,λh1 h2=>PD.2 ⟨⟨hv,h1,h2⟩,i1 v (l+n) (Fw.2 (.inr ⟨rfl,rfl⟩))⟩⟩
   ·exact i2 y hy
  ·have hx:=hh x AQE;cases x with
   |co b=>exact hs
   |va v l n =>
    intro u q hq;obtain⟨hr,hq⟩:=PD.1 hq;rcases Fw.1 hq with hq |⟨rfl,rfl⟩
    ·rcases Fw.1 hq with hq |⟨rfl,rfl⟩
     ·exact hs u q (PD.2 ⟨hr,hq⟩)
     ·exact hx.1 hr.2.1 hr.2.2
    ·exact hx.2 hr.2.1 hr.2.2
theorem Aci{A B:Type}(f:Nat->Nat->A)(g:A->B)(n:Nat):(gH f n).map g=gH (λi s=>g (f i s)) n:=by
 unfold gH;rw[List.map_flatMap];rfl
theorem iZ{A:Type}{f:Nat->Nat->A}{n:Nat}{x:A}:x∈gH f n↔∃i,i<n/\(x=f i 0\/x=f i 1):=by
 unfold gH;rw[List.mem_flatMap];simp
theorem sd0(d:ASG)(l:ASK)(i:Nat):sd d l i 0=b1 d l i:=rfl
theorem sd1(d:ASG)(l:ASK)(i:Nat):sd d l i 1=b2 d l i:=rfl
theorem AEq{d:ASG}{l:ASK}(hd:AE d)(hl:∀x∈l,MK x)(hp:FD d l)(hs:CF d l):YH d l where
 hd:=hd
 len:=hp.1
 inn i s hi:=by
  obtain⟨h1,h2,_⟩:=PE hd hl hp hs hi;unfold sd;split
  ·exact h1
  ·exact h2
 sI i hi:=(PE hd hl hp hs hi).2.2.1
theorem AvT{d:ASG}{l:ASK}(H:YH d l){f:Nat->Nat->Bool}(h:et d l f l.length){i:Nat}(hi:i<l.length):SP (b1 d l i) (b2 d l i) (tN d f):=by
 intro p cf gb;have e:=H.sI i hi;rw[sd0,sd1]at e;obtain⟨c0,c1⟩:=h i hi p cf gb;have hA:Bv d (b1 d l i):=H.inn i 0 hi;have hB:Bv d (b2 d l i):=H.inn i 1 hi;rw[zq hA gb,zq hB (by omega)];have c0:hU (b1 d l i) (b2 d l i) f p=false:=c0;have c1:hU (b2 d l i) (b1 d l i) f p=false:=c1;unfold hU at c0 c1;constructor
 ·intro h1 h2;rw[h1,h2]at c0;simpa using c0
 ·intro h1 h2;rw[h1,h2]at c1;simpa using c1
theorem sP{d:ASG}{l:ASK}{c:ASQ}(hc:YB c)(hl:∀x∈l,MK x):Ay (Fy d l (c,())) λr =>
    (r=(([],()),false)/\¬(AE d/\Dn d c/\FD d l/\CF d l))\/(AE d/\Dn d c/\FD d l/\CF d l/\∃f,r=((Ax d f,()),true)/\jk d l c f):=by
 unfold Fy Mh;obtain⟨r1,e1,q1⟩:=Wt (d:=d) hc;rw[e1,AP9];cases r1 with
 |false=>exact Ay.mk (.inl ⟨rfl,λh=>by have:=q1.2 ⟨h.1,h.2.1⟩;cases this⟩)
 |true =>
  obtain⟨hd,ZN⟩:=q1.1 rfl;obtain⟨r2,e2,q2⟩:=Zm (d:=d) hl;simp only[AQS,AQo,e2,AP9];cases r2 with
  |false=>exact Ay.mk (.inl ⟨rfl,λh=>by have:=q2.2 ⟨h.1,h.2.2.1⟩;cases this⟩)
  |true =>
   have Ov:=(q2.1 rfl).2;simp only[AQS,AQo];rw[dQ hd ZN hc,AP9];unfold UW;obtain⟨r3,e3,q3⟩:=aM hd hl Ov.1;rw[e3,AP9];rcases q3 with ⟨f1,hs,f2⟩|⟨f1,hs⟩
   ·rw[f1,f2];simp only[AQS,AQo];have H:=AEq hd hl Ov hs;have ef:gH (λi s=>(D1 d (if s=0 then lS l i else lT l i)).2) l.length=(gH (sd d l) l.length).map fN:=by
     rw[Aci];unfold gH;rw[List.flatMap_def,List.flatMap_def];congr 1;refine AQY λi hi=>?_;obtain⟨_,_,_,_,a1,a2⟩:=PE hd hl Ov hs (List.mem_range.1 hi);simp only[AQV,show ¬(1:Nat)=0 by omega,ARA,a1,a2];rfl
    have hbs:∀B∈gH (sd d l) l.length,Bv d B:=λB hB=>by
     obtain⟨i,hi,h |h⟩:=iZ.1 hB
     ·rw[h];exact H.inn i 0 hi
     ·rw[h];exact H.inn i 1 hi
    have es:(gH (sd d l) l.length).map aL=Xv d l:=Aci _ _ _;have hln:=Ov.1;rw[ef,AjA hd hbs (by rw[Wu];omega),AP9,es];have vT:∀x∈(gH (sd d l) l.length).flatMap Az,V8 d x:=λx hx=>by
     obtain⟨B,hB,hx⟩:=List.mem_flatMap.1 hx;exact(Zk (hbs B hB) hx).1
    obtain⟨i1,i2,i3⟩:=vb _ (C0 c) vT;obtain⟨r4,e4,f,rfl,j1,j2,j3⟩:=Aeo H (((gH (sd d l) l.length).flatMap Az).foldl bg (C0 c));simp only[e4,AP9,AQS,AQo];rw[nR hd,AP9];have eo:Ax d f=Ax d (tN d f):=rb λv p hv hp h1=>by simp[tN,hv,hp,h1]
    have rJ:∀{i:Nat} {x:Sg},i<l.length->x∈Az (b1 d l i)++Az (b2 d l i)->x∈(gH (sd d l) l.length).flatMap Az:=λ{i x} hi hx=>by
     rcases List.mem_append.1 hx with hx |hx
     ·exact List.mem_flatMap.2 ⟨_,iZ.2 ⟨i,hi,.inl rfl⟩,hx⟩
     ·exact List.mem_flatMap.2 ⟨_,iZ.2 ⟨i,hi,.inr rfl⟩,hx⟩
    refine Ay.mk (.inr ⟨hd,ZN,Ov,hs,tN d f,by rw[eo],⟨λv p h=>PD.2 ⟨yr hd ZN h,j1 v p (i1 v p h)⟩,λv p h=>(PD.1 h).1,λi hi=>⟨λx hx=>?_,AvT H j2 hi⟩,λh hh GM=>j3 h hh (i3 h (λx hx=>?_) λu q hq=>GM u q (PD.1 hq).2)⟩⟩)
    ·have:=i2 x (rJ hi hx);have S5:QM (tN d (((gH (sd d l) l.length).flatMap Az).foldl bg (C0 c))) (tN d f):=λu q hq=>PD.2 ⟨(PD.1 hq).1,j1 u q (PD.1 hq).2⟩;cases x with
     |co b=>trivial
     |va v a n=>exact⟨this.1.mono S5,this.2.mono S5⟩
    ·obtain⟨B,hB,hx⟩:=List.mem_flatMap.1 hx;obtain⟨i,hi,e |e⟩:=iZ.1 hB
     ·exact(hh i hi).1 x (AQH _ (by rw[e]at hx;exact hx))
     ·exact(hh i hi).1 x (AQI _ (by rw[e]at hx;exact hx))
   ·simp only[f1,ARu,AQp,AP9];exact Ay.mk (.inl ⟨rfl,λh=>hs h.2.2.2⟩)
theorem uR{d:ASG}{l:ASK}{c:ASQ}(hc:YB c)(hl:∀x∈l,MK x):Ay (Fy d l (c,())) λr=>JD d l (c,())=some (r.2,r.1.1) /\
    ((r=(([],()),false)/\¬(AE d/\Dn d c/\FD d l/\CF d l))\/(AE d/\Dn d c/\FD d l/\CF d l/\∃f,r=((Ax d f,()),true)/\jk d l c f)):=by
 obtain⟨r1,e1,q1⟩:=sP (d:=d) hc hl;obtain⟨r2,e2,q2⟩:=rU (d:=d) hc hl;refine Ay.of e1 ⟨?_,q1⟩;rw[e2];rcases q1 with ⟨rfl,n1⟩|⟨a1,a2,a3,a4,f,rfl,hf⟩<;>rcases q2 with ⟨rfl,n2⟩|⟨b1,b2,b3,b4,g,rfl,hg⟩
 ·rfl
 ·exact(n1 ⟨b1,b2,b3,b4⟩).elim
 ·exact(n2 ⟨a1,a2,a3,a4⟩).elim
 ·rw[hf.unique hg]
theorem lW{R:Int->Int->Prop}(hR:∀a b,R a b->a<b):∀{l m:ASC},l.Pairwise R->m.Pairwise R->(∀x,x∈l↔x∈m)->l=m
 |[],[],_,_,_=>rfl
 |[],y::m,_,_,h=>by have:=(h y).2 AQE;cases this
 |x::l,[],_,_,h=>by have:=(h x).1 AQE;cases this
 |x::l,y::m,hl,hm,h=>by
  rw[List.pairwise_cons]at hl hm;have e:x=y:=by
   rcases List.mem_cons.1 ((h x).1 AQE)with e |e
   ·exact e
   ·rcases List.mem_cons.1 ((h y).2 AQE)with e' |e'
    ·exact e'.symm
    ·have:=hR _ _ (hm.1 x e);have:=hR _ _ (hl.1 y e');omega
  subst e;congr 1;refine lW hR hl.2 hm.2 λz=>⟨λhz=>?_,λhz=>?_⟩
  ·rcases List.mem_cons.1 ((h z).1 (AQB _ hz))with e |e
   ·have:=hR _ _ (hl.1 z hz);omega
   ·exact e
  ·rcases List.mem_cons.1 ((h z).2 (AQB _ hz))with e |e
   ·have:=hR _ _ (hm.1 z hz);omega
   ·exact e
theorem lB(w:Nat)(f:Nat->Bool):(Bb w f).Pairwise (·<·):=by
 unfold Bb;rw[List.pairwise_map];refine(List.pairwise_lt_range (n:=w)).filter _ |>.imp λ{a b} h=>?_;show(a:Int)<(b:Int);omega
theorem gv{w:Nat}{f:Nat->Bool}{x:Int}:x∈Bb w f↔∃p:Nat,x=(p:Int)/\1<=p/\p<w/\f p=true:=by
 unfold Bb;rw[List.mem_map];constructor
 ·rintro⟨p,hp,rfl⟩
  rw[List.mem_filter]at hp;obtain⟨h1,h2⟩:=hp;simp at h1 h2;exact⟨p,rfl,h2.1,h1,h2.2⟩
 ·rintro⟨p,rfl,h1,h2,h3⟩
  exact⟨p,List.mem_filter.2 ⟨List.mem_range.2 h2,by simp[h1,h3]⟩,rfl⟩
def nh(c:ASQ)(k:Nat):Nat:=((List.range k).map λv=>(DW c v).length).sum
theorem oL(c:ASQ)(k:Nat):nh c (k+1)=nh c k+(DW c k).length:=by
 unfold nh;rw[ARh,AQT];simp
theorem AbB{c:ASQ}(hb:∀v,(DW c v).length<=1048576):∀k,nh c k<=1048576*k
 |0=>by simp[nh]
 |k+1=>by rw[oL];have:=AbB hb k;have:=hb k;omega
theorem sR{d:ASG}{c:ASQ}(hd:AE d)(hc:Dn d c)(hb:YB c):SI d (c,())=some ((d.length+nh c d.length:Nat):Int):=by
 unfold SI;obtain⟨r,hr,hq⟩:=Wt  hb;have fe:=hd.1;rw[hr,AP9,hq.2 ⟨hd,hc⟩,AQS];have:WQ (c,()) d.length 0=some ((d.length+nh c d.length)):=by
  have:=AW (f:=Il (c,())) (λk=>(((d.length+nh c k:Nat)),k)) (t:=((d.length+nh c d.length:Nat))) d.length (λk hk=>?_) ?_
  ·exact this
  ·unfold Il PH;have e1:(c.getD k ATD.zero)=DW c k:=rfl;have h1:=AbB hb.row k;have h2:=hb.row k;simp only[AQa,e1];rw[hc.1,Di hk,AQp,AQr (Bq hk),Bp hk (by omega),oL];rw[A6  (n:=d.length+(nh c k+(DW c k).length)) (by omega) (by omega)]
  ·unfold Il PH;rw[hc.1,Ew,AQo]
 rw[this];rfl
theorem oz{d:ASG}{f:Nat->Nat->Bool}{v:Nat}(hv:v<d.length):DW (Ax d f) v=Bb (W d v) (f v):=by exact Gk hv
theorem QQ{d:ASG}(hd:AE d)(f:Nat->Nat->Bool):Dn d (Ax d f)/\YB (Ax d f):=by
 have fe:=hd.1;refine⟨⟨by simp[Ax],λv hv=>?_⟩,by simp[Ax];omega,λx hx=>?_⟩
 ·rw[oz hv];obtain⟨e0,iO,kL⟩:=P6 hd hv;intro i hi;have hm:Lb (Bb (W d v) (f v)) i∈Bb (W d v) (f v):=by exact AO hi
  obtain⟨p,e,h1,h2,_⟩:=gv.1 hm;refine⟨by omega,by omega,λh0=>?_⟩;have:=(List.pairwise_iff_getElem.1 (lB _ _)) (i-1) i (by omega) hi (by omega);have e1:Lb (Bb (W d v) (f v)) (i-1)=(Bb (W d v) (f v))[i-1]'(by omega):=by simp[Lb,show i-1<(Bb (W d v) (f v)).length by omega]
  have e2:Lb (Bb (W d v) (f v)) i=(Bb _ _)[i]:=by simp[Lb,hi]
  rw[e1,e2];exact this
 ·obtain⟨v,hv,rfl⟩:=List.mem_map.1 hx;have h1:=Zi (W d v) (f v);have:=(P6 hd (List.mem_range.1 hv)).2.2;omega
def VH(v:Nat):Int->ASC->ASH
 |_,[]=>[]
 |low,p::r=>((v:Int),low,p-low,())::VH v p r
def GN(low:Int)(l:ASC):Int:=l.getLastD low
theorem fF(v:Nat):∀(l:ASC) (low p:Int),VH v low (l++[p])=VH v low l++[((v:Int),GN low l,p-GN low l,())]
 |[],low,p=>rfl
 |x::l,low,p=>by
  have e:GN low (x::l)=GN x l:=by cases l<;>rfl
  rw[e];show _::VH v x (l++[p])=_;rw[fF v l x p];rfl
theorem dL(v:Nat):∀(l:ASC) (low:Int),(VH v low l).length=l.length
 |[],_=>rfl
 |_::l,_=>by simp[VH,dL v l]
theorem Qd{l:ASC}{i:Nat}(hi:i<l.length)(low:Int):GN low (l.take (i+1))=Lb l i:=by
 rw[A3 (z:=0) hi];unfold GN Lb;simp
def CS(d:ASG)(c:ASQ)(v:Nat):ASC:=DW c v++[dw d v]
def SL(d:ASG)(c:ASQ)(n:Nat):ASH:=(List.range n).flatMap λv=>VH v 0 (CS d c v)
theorem qy(d:ASG)(c:ASQ)(n:Nat):SL d c (n+1)=SL d c n++VH n 0 (CS d c n):=by
 unfold SL;rw[ARh];simp
theorem QR{d:ASG}{c:ASQ}{v i:Nat}(hi:i<=(DW c v).length):Lb (CS d c v) i=if i<(DW c v).length then Lb (DW c v) i else dw d v:=by
 unfold CS Lb
 grind
section
variable {d:ASG} {c:ASQ}
theorem cX(hd:AE d)(hc:Dn d c){v:Nat}(hv:v<d.length){i:Nat}(hi:i<(CS d c v).length):1<=Lb (CS d c v) i/\Lb (CS d c v) i<=4096:=by
 obtain⟨e0,iO,kL⟩:=P6 hd hv;have hl:i<=(DW c v).length:=by unfold CS at hi;simp at hi;omega
 rw[QR hl];split
 ·rename_i h;have:=hc.2 v hv i h;exact⟨this.1,by have:=this.2.1;omega⟩
 ·omega
theorem sa(hd:AE d)(hc:Dn d c){v:Nat}(hv:v<d.length)(i:Nat)(hi:i<=(CS d c v).length):0<=GN 0 ((CS d c v).take i)/\GN 0 ((CS d c v).take i)<=4096:=by
 match i with
 |0=>exact⟨by simp[GN],by simp[GN]⟩
 |i+1 =>
  rw[Qd (by omega)];have:=cX hd hc hv (i:=i) (by omega);omega
theorem eu(hd:AE d)(hc:Dn d c):∀n,n<=d.length->(SL d c n).length<=4097*n:=λn hn=>XL λv hv=>by
 obtain⟨e0,iO,kL⟩:=P6 hd (show v<d.length by omega);have:=Wr (hc.2 v (by omega)) (by omega);rw[dL];unfold CS;simp;omega
theorem nE(hd:AE d)(hc:Dn d c)(hb:YB c):O4 d (c,())=some (SL d c d.length):=by
 unfold O4;have fe:=hd.1;have:Sw d c c.length 0 []=some (SL d c d.length):=by
  rw[hc.1];have:=AW (f:=EO d c d.length) (λv=>(v,SL d c v)) (t:=SL d c d.length) d.length (λv hv=>?_) ?_
  ·exact this
  ·unfold EO Kv;obtain⟨e0,iO,kL⟩:=P6 hd hv;have e1:(c.getD v ATD.zero)=DW c v:=rfl;have e2:(d.getD v _).2.1=dw d v:=rfl;have hr:=Wr (hc.2 v hv) (by omega);have Jc:=eu hd hc v (by omega);simp only[AQa,e1];rw[Di hv,AQp,AQr (Bq (by rw[hc.1];exact hv))];have e3:JK d v c d.length (SL d c v) (DW c v)=some (CS d c v,((CS d c v).length:Int)):=by
    unfold JK;rw[WA,AQr (Bq hv),AQr (by grind)];rfl
   rw[e3,AP9];have V2:(CS d c v).length<=4097:=by unfold CS;simp;omega
   have e4:Sv d v c d.length (CS d c v) ((CS d c v).length) 0 0 (SL d c v)=some (SL d c (v+1)):=by
    have:=AW (f:=EN d v c d.length (CS d c v) ((CS d c v).length)) (λi=>(GN 0 ((CS d c v).take i),i,SL d c v++VH v 0 ((CS d c v).take i))) (t:=SL d c (v+1)) (CS d c v).length (λi hi=>?_) ?_
    ·rw[show SL d c v=SL d c v++VH v 0 ((CS d c v).take 0) by simp[VH]];exact this
    ·unfold EN Ku;have e5:(CS d c v).getD i ATy.zero=Lb _ i:=rfl;have hbd:=cX hd hc hv hi;have zM:=sa hd hc hv i (by omega);have hrl:(VH v 0 ((CS d c v).take i)).length<=4097:=by rw[dL,AQu];omega
     simp only[AQa,e5];rw[Di hi,AQr (Bq hi),AQr (by grind),Bp hi (by omega),BU  (by omega) (by omega),Qd hi,A3  hi,fF,AQh];rfl
    ·unfold EN Ku;rw[Ew,AQo,AQj (AQf _),qy]
   rw[e4,AP9,Bp hv (by omega)]
  ·unfold EO Kv;rw[Ew,AQo]
 rw[this];rfl
theorem WO(hd:AE d)(hc:Dn d c)(hb:YB c):Ja d (c,())=some (SL d c d.length):=by
 unfold Ja;have fe:=hd.1;obtain⟨r,hr,hq⟩:=Wt  hb;rw[hr,AP9,hq.2 ⟨hd,hc⟩,AQS];have:SK d (c,()) 0 []=some (SL d c d.length):=by
  have:=AW (f:=ET d (c,())) (λv=>(v,SL d c v)) (t:=SL d c d.length) d.length (λv hv=>?_) ?_
  ·exact this
  ·unfold ET KR;obtain⟨e0,iO,kL⟩:=P6 hd hv;have hr:=Wr (hc.2 v hv) (by omega);have Jc:=eu hd hc v (by omega);have V2:(CS d c v).length=(DW c v).length+1:=by unfold CS;simp
   rw[Di hv,AQp];have e4:SJ d v (c,()) 0 0 (SL d c v)=some (SL d c (v+1)):=by
    have:=AW (f:=ES d v (c,())) (λi=>(GN 0 ((CS d c v).take i),i,SL d c v++VH v 0 ((CS d c v).take i))) (t:=SL d c (v+1)) (CS d c v).length (λi hi=>?_) ?_
    ·rw[show SL d c v=SL d c v++VH v 0 ((CS d c v).take 0) by simp[VH]];exact this
    ·unfold ES KQ;have e1:(c.getD v ATD.zero)=DW c v:=rfl;have e2:(d.getD v _).2.1=dw d v:=rfl;have hbd:=cX hd hc hv hi;have zM:=sa hd hc hv i (by omega);have hrl:(VH v 0 ((CS d c v).take i)).length<=4097:=by rw[dL,AQu];omega
     simp only[AQa,e1,e2];rw[AQr (Bq (by rw[hc.1];exact hv)),show decide _=true from MM,AQr (Bq hv)];have e6:JX d v (GN 0 ((CS d c v).take i)) i (c,()) (SL d c v++VH v 0 ((CS d c v).take i)) (dw d v)=some (Lb (CS d c v) i):=by
      unfold JX;have e3:(DW c v).getD i ATy.zero=Lb _ i:=rfl;simp only[AQa,e1,e3];rw[AQr (Bq (by rw[hc.1];exact hv)),QR (by omega)];by_cases h:i<(DW c v).length
      ·rw[Di h,AQp,AQr (Bq (by rw[hc.1];exact hv)),AQr (Bq h),AQr h]
      grind
     rw[e6,AP9,AQr (by grind),Bp hi (by omega),BU  (by omega) (by omega),Qd hi,A3  hi,fF,AQh];rfl
    ·unfold ES KQ;have e1:(c.getD v ATD.zero)=DW c v:=rfl;simp only[AQa,e1];rw[AQr (Bq (by rw[hc.1];exact hv)),V2,show decide ((((DW c v).length+1:Nat))<=((DW c v).length:Int))=false from I3,AQo,<-V2,AQj (AQf _),qy]
   rw[e4,AP9,Bp hv (by omega)]
  ·unfold ET KR;rw[Ew,AQo]
 rw[this];rfl
end
def nN(L:ASH)(i:Nat):ASr:=L.getD i Ae.zero
def nM(L:ASH)(i:Nat):ASp:=((nN L i).1,(nN L i).2.1,())
def Ht(L:ASH)(k:ASp):Nat->ATP Nat
 |0=>none
 |n+1=>bif Bm Aa k (nM L n)then some n else Ht L k n
theorem gm(L:ASH)(k:ASp)(n:Nat):Ht L k (n+1)=bif Bm Aa k (nM L n)then some n else Ht L k n:=rfl
theorem Wg{L:ASH}{k:ASp}:∀{N n:Nat},Ht L k N=some n->n<N/\nM L n=k
 |N+1,n,h=>by
  unfold Ht at h;cases hk:Bm _ k _ with
  |true =>
   rw[hk]at h;injection h with h;subst h;exact⟨AQP _,((il _ _).1 hk).symm⟩
  |false =>
   rw[hk]at h;obtain⟨h1,h2⟩:=Wg h;exact⟨by omega,h2⟩
theorem gl{L:ASH}{k:ASp}:∀{N m:Nat},m<N->nM L m=k->∃n,Ht L k N=some n
 |N+1,m,hm,h=>by
  unfold Ht;cases hk:Bm _ k _ with
  |true=>grind
  |false =>
   rcases AQk m N with h' |h'
   ·obtain⟨n,hn⟩:=gl h' h;exact⟨n,hn⟩
   ·have:m=N:=by omega
    subst this;rw[<-h,(il _ _).2 rfl]at hk;cases hk
abbrev FM:Type:=List ASY
def iJ(L:ASH):Nat->FM
 |0=>[]
 |n+1=>Cs Aa ATy (iJ L n) (nM L n) (n:Int)
theorem Abx(L:ASH)(k:ASp):∀n,O9 Aa ATy (iJ L n) k=(Ht L k n).map Int.ofNat
 |0=>rfl
 |n+1=>by
  unfold iJ Ht;rw[XX il,Abx L k n];cases Bm _ k _<;>rfl
theorem Adh{L:ASH}(hL:L.length<=1048576):O1 L=some (iJ L L.length):=by
 unfold O1;have:Sq L L.length 0 []=some (iJ L L.length):=by
  have:=AW (f:=EH L L.length) (λi=>(i,iJ L i)) (t:=iJ L L.length) L.length (λi hi=>?_) ?_
  ·exact this
  ·unfold EH Ko;rw[Di hi,AQr (Bq hi),Bp hi hL];rfl
  ·unfold EH Ko;rw[Ew,AQo]
 rw[this];rfl
theorem dM{v:Nat}:∀{l:ASC} {low:Int} {x:ASr},x∈VH v low l↔∃j,j<l.length/\x=((v:Int),GN low (l.take j),Lb l j-GN low (l.take j),())
 |[],low,x=>by simp[VH]
 |p::l,low,x=>by
  have e:∀j,GN low ((p::l).take _)=GN p (l.take j):=λj=>by
   rw[List.take_succ_cons];cases l.take j<;>rfl
  constructor
  ·intro h;rcases List.mem_cons.1 h with h |h
   ·exact⟨0,by simp,h⟩
   ·obtain⟨j,hj,rfl⟩:=dM.1 h;refine⟨j+1,by grind,?_⟩;rw[e];rfl
  ·rintro⟨j,hj,rfl⟩
   match j with
   |0=>exact AQE
   |j+1 =>
    rw[e];exact AQB _ (dM.2 ⟨j,by grind,rfl⟩)
section
variable {d:ASG} {c:ASQ}
theorem qx{x:ASr}:x∈SL d c d.length↔∃v j,v<d.length/\j<(CS d c v).length/\x=((v:Int),GN 0 ((CS d c v).take j),Lb (CS d c v) j-GN 0 ((CS d c v).take j),()):=by
 unfold SL;rw[List.mem_flatMap];constructor
 ·rintro⟨v,hv,hx⟩
  obtain⟨j,hj,e⟩:=dM.1 hx;exact⟨v,j,List.mem_range.1 hv,hj,e⟩
 ·rintro⟨v,j,hv,hj,e⟩
  exact⟨v,List.mem_range.2 hv,dM.2 ⟨j,hj,e⟩⟩
theorem cY(_hd:AE d)(hc:Dn d c){v:Nat}(hv:v<d.length){i j:Nat}(zJ:i<j)(hj:j<(CS d c v).length):Lb (CS d c v) i<Lb (CS d c v) j:=by
 have hl:j<=(DW c v).length:=by unfold CS at hj;simp at hj;omega
 have hp:=hc.2 v hv;rw[QR hl,QR (by omega),WA];split
 ·rename_i h;exact Aan hp zJ h
 ·have:=(hp i (by omega)).2.1;omega
theorem AiG(hd:AE d)(hc:Dn d c){v a e j:Nat}(hv:v<d.length)(hj:j<(CS d c v).length)(ha:GN 0 ((CS d c v).take j)=(a:Int))(hae:a<e)(he:e=W d v\/e<W d v/\C0 c v e=true)(ah:∀q,a<q->q<e->C0 c v q=false):Lb (CS d c v) j=(e:Int):=by
 obtain⟨e0,iO,kL⟩:=P6 hd hv;have V2:(CS d c v).length=(DW c v).length+1:=by unfold CS;simp
 have B5:∃j',j'<(CS d c v).length/\Lb (CS d c v) j'=e:=by
  rcases he with rfl |⟨_,h⟩
  ·exact⟨(DW c v).length,by omega,by rw[QR (AQf _),QK,e0]⟩
  ·have hm :=by simpa [C0]using h
   obtain⟨i,hi,hx⟩:=ARb hm;exact⟨i,by omega,by rw[QR (by omega),<-hx];simp[Lb,hi]⟩
 obtain⟨j',R8,hje⟩:=B5;have Amk:a<Lb (CS d c v) j:=by
  match j with
  |0 =>
   have :=by simp[GN]at ha;omega
   have:=(cX hd hc hv hj).1;omega
  |i+1 =>
   rw[Qd (by omega)]at ha;rw[<-ha];exact cY hd hc hv (by omega) hj
 have hjj:j<=j':=by
  refine Classical.byContradiction λhn=>?_
  match j with
  |0=>omega
  |i+1 =>
   rw[Qd (by omega)]at ha;rcases AQk j' i with h |h
   ·have:=cY hd hc hv h (by omega);omega
   grind
 rcases AQk j j' with h |h
 ·have Bw:=cY hd hc hv h R8;rw[QR (by omega)]at Amk Bw;by_cases hc':j<(DW c v).length
  ·have hm:Lb (DW c v) j∈DW c v:=by exact AO hc'
   have:=ah (Lb (DW c v) j).toNat (by omega) (by omega);simp only[C0]at this
   grind
  ·omega
 grind
theorem Aje(hd:AE d)(hc:Dn d c){v a e:Nat}(hv:v<d.length)(h0:a=0\/C0 c v a=true)(hae:a<e)(he:e=W d v\/e<W d v/\C0 c v e=true)(ah:∀q,a<q->q<e->C0 c v q=false) :
    ∃n,Ht (SL d c d.length) (nk v a) (SL d c d.length).length=some n/\n<(SL d c d.length).length/\(nN (SL d c d.length) n).2.2.1=((e-a:Nat):Int):=by
 have V2:(CS d c v).length=(DW c v).length+1:=by unfold CS;simp
 have hj:∃j,j<(CS d c v).length/\GN 0 ((CS d c v).take j)=a:=by
  rcases h0 with rfl |h
  ·exact⟨0,by omega,rfl⟩
  ·have hm :=by simpa [C0]using h
   obtain⟨i,hi,hx⟩:=ARb hm;have AJO:i+1<(CS d c v).length:=by
    omega
   refine⟨i+1,AJO,?_⟩;rw[Qd (by omega),QR (by omega),<-hx];simp[Lb,hi]
 obtain⟨j,hj1,hj2⟩:=hj;have hm :=qx.2 ⟨v,j,hv,hj1,rfl⟩;obtain⟨m,UB,S6⟩:=ARb hm;have hsm:nN (SL d c d.length) m=((v:Int),GN 0 ((CS d c v).take j),Lb (CS d c v) j-GN 0 ((CS d c v).take j),()):=by
  unfold nN;grind
 obtain⟨n,hn⟩:=gl  (k:=nk v a) UB (by unfold nM nk;rw[hsm,hj2]);obtain⟨hn1,hn2⟩:=Wg hn;refine⟨n,hn,hn1,?_⟩;obtain⟨v',j',rQ,R8,hx⟩:=qx.1 (show nN _ n∈SL d c _ from AO hn1);unfold nM nk at hn2;rw[hx]at hn2⊢;injection hn2 with h1 h2;injection h2 with h2 _;have h1:v'=(v:Int):=h1;have hvv:v'=v:=by omega
 subst hvv;have h2 :=h2;have:=AiG hd hc rQ R8 h2 hae he ah
 grind
def nm(o:ATP Nat):Int:=match o with |some n=>(n:Int)|none=>-1
def NM(d:ASG)(L:ASH)(n:Nat):ASQ:=(List.range d.length).map λv=>(List.range (W d v)).map λa=>nm (Ht L (nk v a) n)
theorem yD{L:ASH}{n v:Nat}{z:ASC}(hv:v<d.length):(NM d L n).getD v z=(List.range (W d v)).map λa=>nm (Ht L (nk v a) n):=Gk hv
theorem AiF(hd:AE d)(hc:Dn d c)(hb:YB c):RI d (c,())=some (NM d (SL d c d.length) (SL d c d.length).length):=by
 unfold RI;have fe:=hd.1;have h1:PZ d (c,()) 0 []=some (NM d (SL d c d.length) 0):=by
  unfold PZ;have:=AW (f:=Gc d (c,())) (λv=>((v:Int),(List.range v).map λu=>(List.range (W d u)).map λa=>nm (Ht (SL d c d.length) (nk u a) 0))) (t:=NM d (SL d c d.length) 0) d.length (λv hv=>?_) ?_
  ·exact this
  ·unfold Gc MG;obtain⟨e0,iO,kL⟩:=P6 hd hv;have e2:(d.getD v Ab.zero).2.1=(W d v:Int):=e0;simp only[AQa,e2];rw[Di hv,AQp,AQr (Bq hv),AQr (show Ty.row ATy=true/\(0:Int)<=(W d v:Int)/\(W d v:Int)<=(W d v:Int)/\((8:Nat):Int)*(W d v:Int)<=281474976710656/\(W d v:Int)<=9223372036854775807 from⟨rfl,by omega,by omega,by omega,by omega⟩)];have e4:∀z,PY d (v:Int) (c,()) z 0 (List.replicate (W d v) 0)=some ((List.range (W d v)).map λa=>nm (Ht (SL d c d.length) (nk v a) 0)):=λz=>by
    unfold PY;have:=AW (f:=Gb d (v:Int) (c,()) z) (λi=>((i:Int),CU (λ_=>(-1:Int)) 0 (W d v) i)) (t:=CU (λ_=>(-1:Int)) 0 (W d v) (W d v)) (W d v) (λi hi=>?_) ?_
    ·rw[MU]at this;have ef:CU (λ_=>(-1:Int)) 0 (W d v) (W d v)=(List.range (W d v)).map λa=>nm (Ht (SL d c d.length) (nk v a) 0):=AQY λa ha=>by rw[AQr (List.mem_range.1 ha)];rfl
     rw[<-ef];exact this
    ·unfold Gb MF;simp only[AQa];rw[Ih,Di hi,AQp,AQr (Bq hi),Bp hi (by omega),Qq (λ_=>(-1:Int))]
    ·unfold Gb MF;simp only;rw[Ih,Ew,AQo]
   rw[e4,AP9,AQr (by simp;omega),Bp hv (by omega),D7]
  ·unfold Gc MG;simp only;rw[Ew,AQo];rfl
 rw[h1,AP9,WO hd hc hb,AP9];have Jc:=eu hd hc d.length (AQf _);have h2:P0 (SL d c d.length) 0 (NM d (SL d c d.length) 0)=some (NM d (SL d c d.length) (SL d c d.length).length):=by
  unfold P0;have:=AW (f:=Ge (SL d c d.length)) (λi=>((i:Int),NM d (SL d c d.length) i)) (t:=NM d (SL d c d.length) (SL d c d.length).length) (SL d c d.length).length (λi hi=>?_) ?_
  ·exact this
  ·unfold Ge MH;have rJ:nN (SL d c d.length) i∈SL d c d.length:=AO hi;obtain⟨v,j,hv,hj,hx⟩:=qx.1 rJ;obtain⟨e0,iO,kL⟩:=P6 hd hv;have zM:=sa hd hc hv j (by omega);obtain⟨a,ha⟩:∃a:Nat,GN 0 ((CS d c v).take j)=(a:Int):=⟨(GN 0 ((CS d c v).take j)).toNat,by omega⟩;have haw:a<W d v:=by
    match j with
    |0=>simp[GN]at ha;omega
    |j+1 =>
     rw[Qd (by omega)]at ha;have h3:=cY hd hc hv (show j<(DW c v).length by unfold CS at hj;simp at hj;omega) (by unfold CS;simp);rw[QR (AQf _),QK]at h3;omega
   have q1:((SL d c d.length).getD i Ae.zero).1=(v:Int):=congrArg (·.1) hx;have q2:((SL d c d.length).getD i Ae.zero).2.1=(a:Int):=(congrArg (·.2.1) hx).trans ha;have hk:nM (SL d c d.length) i=nk v a:=by
    unfold nM nk;rw[show(nN (SL d c d.length) i).1=(v:Int)from q1,show(nN (SL d c d.length) i).2.1=(a:Int)from q2]
   simp only[AQa,q1,q2];have H6:(NM d (SL d c d.length) i).set v (((NM d (SL d c d.length) i).getD v ATD.zero).set a (i:Int))=NM d (SL d c d.length) (i+1):=by
    rw[yD hv];apply ARn;intro u;rw[AQy];by_cases hu:u<d.length
    ·have er:∀m,(NM d (SL d c d.length) m)[u]?=some ((List.range (W d u)).map λa=>nm (Ht (SL d c d.length) (nk u a) m)):=λm=>by simp[NM,hu]
     rw[er,er];split
     ·rename_i e;subst e;rw[AQr (by simp[NM];exact hu)];congr 1;apply ARn;intro b;rw[AQy];by_cases hbw:b<W d v
      ·simp only[AQl,AQQ,AQC,ARQ hbw,Option.map_some];rw[gm,hk];split
       ·rename_i e;subst e;rw[(il _ _).2 rfl];rfl
       ·rename_i e;have:Bm Aa (nk v b) (nk v a)=false:=by
         rw[Bool.eq_false_iff];intro h;exact e (Zf.1 ((il _ _).1 h)).2.symm
        rw[this];rfl
      ·rw[QK];simp[hbw]
     ·rename_i e;congr 1;refine AQY λb _=>?_;have:Bm Aa (nk u b) (nM (SL d c d.length) i)=false:=by
       rw[hk,Bool.eq_false_iff];intro h;exact e (Zf.1 ((il _ _).1 h)).1.symm
      show _=nm (Ht (SL d c d.length) (nk u b) (i+1));rw[gm,this];rfl
    ·have:∀m,(NM d (SL d c d.length) m)[u]?=none:=λm=>by simp[NM];omega
     rw[this,this,QK]
   have hNl:(NM d (SL d c d.length) i).length=d.length:=by simp[NM]
   rw[Di hi,AQp,AQr (Bq hi),hNl,AQr (Bq hv),AQr (Bq hi),AQr (by rw[yD hv];simp;omega),H6,Bp hi (by omega)]
  ·unfold Ge MH;simp only;rw[Ew,AQo]
 rw[h2];rfl
end
theorem Ane{xs:ASC}(hs:xs.Pairwise (·<=·)):∀m,m<=xs.length->(Lib.compactUpTo xs.toArray m).Pairwise (·<·)/\(∀x,x∈Lib.compactUpTo xs.toArray m↔∃j,j<m/\x=xs.toArray[j]!):=by
 have Xg:∀j,j<xs.length->xs.toArray[j]! =Lb xs j:=λj hj=>by simp[Lb,hj]
 have S5:∀i j,i<j->j<xs.length->Lb xs i<=Lb xs j:=λi j zJ hj=>by
  have:=List.pairwise_iff_getElem.1 hs i j (by omega) hj zJ
  grind
 intro m;induction m with
 |zero=>simp[Lib.compactUpTo]
 |succ m ih =>
  intro hm;obtain⟨h1,h2⟩:=ih (by omega);rw[Lib.compactUpTo_succ];cases hk:Lib.keeps xs.toArray m with
  |true =>
   simp only[AQV];refine⟨List.pairwise_append.2 ⟨h1,by simp,λx hx y hy=>?_⟩,λx=>?_⟩
   ·rw[AQA]at hy;subst hy;obtain⟨j,hj,rfl⟩:=(h2 x).1 hx;have XC:m=0\/xs.toArray[m]!≠xs.toArray[m-1]!:=by simpa [Lib.keeps]using hk
    rcases XC with XC |XC
    ·omega
    ·rw[Xg m (by omega),Xg (m-1) (by omega)]at XC;rw[Xg j (by omega),Xg m (by omega)];have a1:=S5 (m-1) m (by omega) (by omega);have a2:Lb xs j<=Lb xs (m-1):=by
      rcases AQk j (m-1)with h |h
      ·grind
      grind
     omega
   grind
  |false =>
   simp only[AQX,ARA,AQO];refine⟨h1,λx=>?_⟩;rw[h2];have XC:¬(m=0\/xs.toArray[m]!≠xs.toArray[m-1]!):=by simpa [Lib.keeps]using hk
   grind
theorem gK(xs:ASC):(Oy (Ro xs)).Pairwise (·<·)/\∀x,x∈Oy (Ro xs)↔x∈xs:=by
 have hs:(Ro xs).Pairwise (·<=·):=by
  have:=List.pairwise_mergeSort (le:=leI) (λa b c h1 h2=>by simp[leI]at *;omega) (λa b=>by simp[leI];omega) xs;exact this.imp λ{a b} h=>by simpa [leI]using h
 obtain⟨h1,h2⟩:=Ane hs _ (AQf _);refine⟨h1,λx=>?_⟩;unfold Oy Lib.compact;rw[h2];have hm:∀y,y∈Ro xs↔y∈xs:=λy=>(List.mergeSort_perm xs leI).mem_iff;rw[<-hm];constructor
 ·grind
 ·intro hx;obtain⟨j,hj,rfl⟩:=ARb hx;exact⟨j,hj,by grind⟩
def Ys(l n:Nat)(p:Int):Bool:=decide ((l:Int)<p)&&decide (p<((l+n:Nat):Int))
def nL(c:ASQ)(s:Sg)(k q:Nat):ASC:=match s with
 |.co _=>[]
 |.va v l n=>(((DW c v).take q).filter (Ys l n)).map λp=>(k:Int)+p-(l:Int)
def prt(c:ASQ)(s:Sg)(k:Nat):ASC:=(k:Int)::match s with
 |.co _=>[]
 |.va v l n=>((DW c v).filter (Ys l n)).map λp=>(k:Int)+p-(l:Int)
def Kd(c:ASQ)(f:ATO Sg)(m:Nat):ASC:=(List.range m).flatMap λi=>prt c (f.getD i (.co [])) (Bn (f.take i))
theorem Aad(c:ASQ)(f:ATO Sg)(m:Nat):Kd c f (m+1)=Kd c f m++prt c (f.getD m (.co [])) (Bn (f.take m)):=by
 unfold Kd;rw[ARh];simp
section
variable {d:ASG} {c:ASQ}
theorem Ab3(hd:AE d)(hc:Dn d c){s:Sg}(hs:V8 d s)(k:Nat):(prt c s k).length<=4097:=by
 cases s with
 |co b=>simp[prt]
 |va v l n =>
  obtain⟨hv,_,_⟩:=hs;obtain⟨e0,iO,kL⟩:=P6 hd hv;have h1:=Wr (hc.2 v hv) (by omega);have h2:=ARL (Ys l n) (DW c v);simp only[prt,AQ4,AQl];omega
theorem wR(hd:AE d)(hc:Dn d c)(hb:YB c){B:ATO Bt}(h:Bv d B):Lt (fN B) (c,())=some (Kd c (Az B) (Az B).length):=by
 unfold Lt;obtain⟨n1,n2,n3⟩:=sB hd h;have hlen:=CX n1;have hbl:=h.2.1;have vT:∀i,i<(Az B).length->V8 d ((Az B).getD i (.co [])):=λi hi=>(Zk h (AO hi)).1;have vR:∀m,m<=(Az B).length->(Kd c (Az B) m).length<=4097*m:=λm hm=>XL λi hi=>Ab3 hd hc (vT i (by omega)) _;have:NL (fN B) (c,()) ((fN B).length:Int) 0 0 []=some (Kd c (Az B) (Az B).length):=by
  unfold NL;rw[show(fN B).length=(Az B).length from Cm _];have:=AW (f:=EK (fN B) (c,()) ((Az B).length:Int)) (λk=>((Bn ((Az B).take k):Int),(k:Int),Kd c (Az B) k)) (t:=Kd c (Az B) (Az B).length) (Az B).length (λk hk=>?_) ?_
  ·exact this
  ·unfold EK Ks;have e1:(fN B).getD k Af.zero=Ik ((Az B).getD k (.co [])):=gW hk;have hpk:=vR k (by omega);have hwk:=Fj (Az B) k;have ib:=ZY hk;simp only[AQa,e1];rw[Di hk,AQp,show(fN B).length=(Az B).length from Cm _,AQr (Bq hk),AQr (by simp only[AQd,AQ4,List.length_nil];omega)];have e2:JJ (Bn ((Az B).take k):Int) (fN B) ((Az B).length:Int) (k:Int) (c,()) (Kd c (Az B) k++[(Bn ((Az B).take k):Int)]) (Ik ((Az B).getD k (.co [])))=some (Kd c (Az B) (k+1)):=by
    unfold JJ;rw[Aad];have Gh:=vT k hk;cases hs:(Az B).getD k (.co [])with
    |co b=>rfl
    |va v l n =>
     rw[hs]at Gh ib;obtain⟨hv,hn,hw⟩:=Gh;obtain⟨e0,iO,kL⟩:=P6 hd hv;have hrl:=Wr (hc.2 v hv) (by omega);have e3:(c.getD v ATD.zero)=DW c v:=rfl;have e4:(Ik (.va v l n)).1=(v:Int):=rfl;simp only[e4,AQa,e3];rw[show decide ((v:Int)>=0)=true from MM,AQp,AQr (Bq (by rw[hc.1];exact hv))];have e5:NK (Bn ((Az B).take k):Int) (fN B) ((Az B).length:Int) (k:Int) (c,()) (Ik (.va v l n)) (DW c v) ((DW c v).length:Int) 0 (Kd c (Az B) k++[(Bn ((Az B).take k):Int)])=some (Kd c (Az B) k++prt c (.va v l n) (Bn ((Az B).take k))):=by
      unfold NK;have:=AW (f:=EJ (Bn ((Az B).take k):Int) (fN B) ((Az B).length:Int) (k:Int) (c,()) (Ik (.va v l n)) (DW c v) ((DW c v).length:Int)) (λq=>((q:Int),Kd c (Az B) k++[(Bn ((Az B).take k):Int)]++nL c (.va v l n) (Bn ((Az B).take k)) q)) (t:=Kd c (Az B) k++prt c (.va v l n) (Bn ((Az B).take k))) (DW c v).length (λq hq=>?_) ?_
      ·rw[show Kd c (Az B) k++[(Bn ((Az B).take k):Int)]=Kd c (Az B) k++[(Bn ((Az B).take k):Int)]++nL c (.va v l n) (Bn ((Az B).take k)) 0 by simp[nL]];exact this
      ·unfold EJ Kr NI OQ;have e6:(DW c v).getD q ATy.zero=Lb (DW c v) q:=rfl;have hm:Lb (DW c v) q∈DW c v:=by unfold Lb;exact AO hq
       have hpb:=sH (hc.2 v hv) hm;have hbd:Lb (DW c v) q<=4096:=by omega
       have Bw:(nL c (.va v l n) (Bn ((Az B).take k)) q).length<=4096:=by
        have h2:=ARL (Ys l n) ((DW c v).take q);simp only[nL,AQl];rw[AQu]at h2;omega
       have e7:(Ik (.va v l n)).2.1=(l:Int):=rfl;have e7b:(Ik (.va v l n)).2.2.1=(n:Int):=rfl;have e8:wI ((l:Int)+(n:Int))=((l+n:Nat):Int):=A6;have e9:nL c (.va v l n) (Bn ((Az B).take k)) (q+1)=nL c (.va v l n) (Bn ((Az B).take k)) q++if Ys l n (Lb (DW c v) q)then[(Bn ((Az B).take k):Int)+Lb (DW c v) q-(l:Int)]else[]:=by
        simp only[nL];rw[A3 (z:=(0:Int)) hq,ASb,AQT];congr 1;show List.map _ (List.filter (Ys l n) [Lb (DW c v) q])=_;cases hi:Ys l n (Lb (DW c v) q)<;>simp[hi]
       simp only[AQa,e6,e7,e7b,e8];rw[Di hq,AQp,AQr (Bq hq),e9];show Option.bind (bif Ys l n (Lb (DW c v) q)then _ else _) _=_;cases hi:Ys l n (Lb (DW c v) q)with
       |true =>
        rw[AQp,AQr (by simp only[AQd,AQ4,List.length_nil];omega),AP9,Bp hq (by omega),BU (x:=(Bn ((Az B).take k):Int)+Lb (DW c v) q) (by omega) (by omega),BU];simp[AQh]
       |false =>
        rw[AQo,AP9,Bp hq (by omega)];simp
      ·unfold EJ Kr;simp only;rw[Ew,AQo];have:nL c (.va v l n) (Bn ((Az B).take k)) (DW c v).length=((DW c v).filter (Ys l n)).map λp=>(Bn ((Az B).take k):Int)+p-(l:Int):=by
        simp only[nL];rw[AQj (AQf _)]
       rw[this,AQh];rfl
     rw[e5];rfl
   have e10:wI ((Bn ((Az B).take k):Int)+(Ik ((Az B).getD k (.co []))).2.2.1)=(Bn ((Az B).take (k+1)):Int):=by
    rw[Zl,FA hk];exact A6
   rw[e2,AP9,Bp hk (by omega),e10]
  ·unfold EK Ks;simp only;rw[Ew,AQo]
 rw[this];rfl
theorem pK(hd:AE d)(hc:Dn d c){B:ATO Bt}(h:Bv d B){x:Int}:x∈Kd c (Az B) (Az B).length↔∃p:Nat,x=(p:Int)/\p<B.length/\T5 B (C0 c) p=true:=by
 obtain⟨n1,n2,n3⟩:=sB hd h;unfold Kd;rw[List.mem_flatMap];constructor
 ·rintro⟨i,hi,hx⟩
  have hi:=List.mem_range.1 hi;have Gh:=(Zk h (AO (z:=.co []) hi)).1;have h1:=n1 _ (AO (z:=.co []) hi);have ib:=ZY hi;rcases List.mem_cons.1 hx with rfl |hx
  ·refine⟨_,rfl,by omega,?_⟩;have:=(TQ hi (k:=0) (by omega)).2.1;unfold T5 fst
   grind
  ·cases hs:(Az B).getD i _ with
   |co b=>grind
   |va v l n =>
    rw[hs]at hx ib Gh;obtain⟨p,hp,rfl⟩:=List.mem_map.1 hx;obtain⟨cf,gb⟩:=List.mem_filter.1 hp;unfold Ys at gb;rw[AQg,ARY,ARY]at gb;simp only[Sg.w]at ib;obtain⟨q,rfl⟩:∃q:Nat,p=q:=⟨p.toNat,by omega⟩;refine⟨Bn ((Az B).take i)+(q-l),by omega,by omega,?_⟩;obtain⟨e1,e2,_⟩:=TQ hi (k:=q-l) (by rw[hs];simp only[Sg.w];omega);unfold T5 LC;rw[EP,hs,Z2 (by omega)]at e1;rw[e1,show l+(q-l)=q by omega];simp only[Adr,C0]
    grind
 ·rintro⟨p,rfl,hp,fW⟩
  obtain⟨i,k,h1,h2,h3,h4,h5,h6,_⟩:=jB h hp;refine⟨i,List.mem_range.2 h1,?_⟩;rcases AQx k with h0 |h0
  ·subst h0;rw[h3];exact AQE
  ·unfold T5 at fW;rw[h6,h5,show(k==0)=false by grind]at fW;cases hs:(Az B).getD i _ with
   |co b =>
    rw[hs]at fW h2;rw[cL h2]at fW;cases fW
   |va v l n =>
    rw[hs]at fW h2;simp only[Sg.w]at h2;rw[Z2 h2]at fW;have hm :=by simpa [Adr,C0]using fW
    refine AQB _ (List.mem_map.2 ⟨((l+k)),List.mem_filter.2 ⟨hm,?_⟩,by omega⟩);unfold Ys
    grind
end
def iR(B1 B2:ATO Bt)(h:Nat->Nat->Bool)(p:Nat):Bool:=T5 B1 h p||T5 B2 h p
structure Gap (B1 B2:List Bt) (h:Nat->Nat->Bool) (a b:Nat):Prop where
 lt:a<b
 le:b<=B1.length
 no:∀q,a<q->q<b->iR B1 B2 h q=false
 fr:a=0\/iR B1 B2 h a=true
 to:b=B1.length\/iR B1 B2 h b=true
def coB:Bt->Bool
 |.co b=>b
 |.va _ _=>false
def uT(B:ATO Bt)(a w:Nat):ASD:=((B.drop a).take w).map coB
def V9(L:ASH)(B:ATO Bt)(a b:Nat):ASo:=match LC B a with
 |.co _=>(-1,fu (uT B a (b-a)),())
 |.va v x=>(nm (Ht L (nk v x) L.length),(0,[],()),())
theorem Ahr{A:Type}{F:Sg->ATO A}(hF:∀s,(F s).length=s.w){f:ATO Sg}{i k w:Nat}(hi:i<f.length)(hk:k+w<=(f.getD i (.co [])).w):((f.flatMap F).drop (Bn (f.take i)+k)).take w=((F (f.getD i (.co []))).drop k).take w:=by
 have e:f.flatMap F=(f.take i).flatMap F++(F (f.getD i (.co []))++(f.drop (i+1)).flatMap F):=by
  rw[<-AQh,<-ZJ F hi,<-ARR,ARj]
 have hl:=Vj hF (f.take i);have hs:=hF (f.getD i (.co []));rw[e,List.drop_append,List.drop_of_length_le (by omega),ARg,hl,show Bn _+k-Bn _=k by omega,List.drop_append,List.take_append];rw[show w-(List.drop k _).length=0 by grind,AR2,AQO]
section
variable {d:ASG}
theorem Ame{B B':ATO Bt}(h:Bv d B){f:Nat->Nat->Bool}{a b:Nat}(hl:b<=B.length)(zD:a<b)(ah:∀q,a<q->q<b->fst B q=false):∃i k,i<(Az B).length/\a=Bn ((Az B).take i)+k/\k+(b-a)<=((Az B).getD i (.co [])).w/\V8 d ((Az B).getD i (.co [])):=by
 obtain⟨i,k,h1,h2,h3,h4,_⟩:=jB h (show a<B.length by omega);refine⟨i,k,h1,h3,Classical.byContradiction λhn=>?_,h4⟩;have ib:=FA h1;have hi1:i+1<(Az B).length:=by
  refine Classical.byContradiction λhc=>?_;have e:(Az B).take (i+1)=Az B:=AQj (by omega);rw[e,Ce]at ib;omega
 have iO:=CM B _ (AO (z:=.co []) hi1);have:=(TQ hi1 (k:=0) (by omega)).2.1;have hq:=ah (Bn ((Az B).take (i+1))) (by omega) (by omega);unfold fst at hq
 grind
theorem AfS{B:ATO Bt}(h:Bv d B){i k:Nat}(hi:i<(Az B).length)(hk:k<((Az B).getD i (.co [])).w):P9 (fN B) ((Bn ((Az B).take i)+k:Nat):Int)=some (Ik ((Az B).getD i (.co [])),(k:Int),()):=by
 unfold P9;have hlen:=CX (CM B);rw[Ce]at hlen;have hbl:=h.2.1;have ib:=ZY hi;rw[Ce]at ib;have:WC (fN B) ((fN B).length) ((Bn ((Az B).take i)+k:Nat)) 0=some (.inl (Ik ((Az B).getD i (.co [])),k)):=by
  rw[show(fN B).length=(Az B).length from Cm _];have AGn:∀j,j<=i->Bn ((Az B).take j)<=Bn _:=λj hj=>by
   have e:(Az B).take j=((Az B).take i).take j:=by grind
   rw[e];exact Fj _ j
  have:=AW (f:=Ii (fN B) ((Az B).length)) (λj=>(((Bn ((Az B).take i)+k-Bn ((Az B).take j):Nat)),j)) (t:=.inl (Ik ((Az B).getD i (.co [])),k)) i (λj hj=>?_) ?_
  ·exact this
  ·unfold Ii Pm;have e1:(fN B).getD j _=Ik _:=gW (by omega);have h1:=AGn _ hj;rw[FA (show j<(Az B).length by omega)]at h1;simp only[AQa,e1,Zl];rw[Di (show j<(Az B).length by omega),AQp,show(fN B).length=(Az B).length from Cm _,AQr (Bq (by omega)),I3,AQo,Bp hj (by omega),FA (show j<(Az B).length by omega)];rw[A6 (n:=Bn ((Az B).take i)+k-(Bn ((Az B).take j)+((Az B).getD j (.co [])).w)) (by omega) (by omega)]
  ·unfold Ii Pm;have e1:(fN B).getD i _=Ik _:=gW hi;simp only[AQa,e1,Zl];rw[Di hi,AQp,show(fN B).length=(Az B).length from Cm _,AQr (Bq hi),show Bn _+k-Bn _=k by omega,Di hk,AQp]
 rw[this];rfl
variable {c:ASQ}
structure mR (d:ASG) (c:ASQ) (B:List Bt) (a b i k:Nat):Prop where
 hi:i<(Az B).length
 ha:a=Bn ((Az B).take i)+k
 hk:k+(b-a)<=((Az B).getD i (.co [])).w
 hs:V8 d ((Az B).getD i (.co []))
 lt:a<b
 le:b<=B.length
 no:∀q,a<q->q<b->fst B q=false
 va:∀v l n,(Az B).getD i (.co [])=.va v l n->∃m,Ht (SL d c d.length) (nk v (l+k)) (SL d c d.length).length=some m/\m<(SL d c d.length).length/\(nN (SL d c d.length) m).2.2.1=((b-a:Nat):Int)
theorem Aca(hd:AE d)(hc:Dn d c){B B':ATO Bt}(h:Bv d B)(hl:B.length=B'.length){a b:Nat}(zD:a<b)(S5:b<=B.length)(ah:∀q,a<q->q<b->T5 B (C0 c) q=false)
    (mJ:a=0\/(kP (LC B a)=true->T5 B (C0 c) a=true)) (vV:b=B.length\/(kP (LC B b)=true->T5 B (C0 c) b=true)) (he:∀x∈Az B,Sj d (C0 c) x):∃i k,mR d c B a b i k:=by
 have hnf:∀q,a<q->q<b->fst B q=false:=λq h1 h2=>by
  have:=ah q h1 h2;unfold T5 at this
  grind
 obtain⟨i,k,h1,h2,h3,h4⟩:=Ame (B':=B) (f:=C0 c) h S5 zD hnf;refine⟨i,k,h1,h2,h3,h4,zD,S5,hnf,λv l n hs=>?_⟩;have Gh:=h4;have hk:=h3;rw[hs]at Gh hk;obtain⟨hv,hn,hw⟩:=Gh;obtain⟨e0,iO,kL⟩:=P6 hd hv;simp only[Sg.w]at hk;have AhN:=he _ (AO (z:=.co []) h1);rw[hs]at AhN;have ib:=ZY h1;rw[Ce,hs]at ib;simp only[Sg.w]at ib;have bat:∀j,j<n->LC B _=.va v _/\fst B _=(j==0):=λj hj=>by
  obtain⟨q1,q2,_⟩:=TQ h1  (by rw[hs];exact hj);rw[EP,hs,Z2 hj]at q1;exact⟨q1,q2⟩
 have h5:=Aje hd hc  (a:=l+k) (e:=l+k+(b-a)) hv ?_ (by omega) ?_ ?_
 ·grind
 ·rcases AQx k with hk0 |hk0
  ·subst hk0;rcases AQx l with iK |iK
   ·omega
   ·exact .inr (AhN.1 iK (by omega))
  ·obtain⟨q1,q2⟩:=bat k (by omega);rw[<-h2]at q1 q2;rcases mJ with mJ |mJ
   ·omega
   ·have:=mJ (by rw[q1];rfl);unfold T5 at this;rw[q2,q1,show(k==0)=false by grind]at this;exact .inr this
 ·rcases AQk _ n with Bw |ag
  ·obtain⟨q1,q2⟩:=bat _ Bw;have eb:Bn ((Az B).take i)+(k+(b-a))=b:=by omega
   rw[eb]at q1 q2;have hbb:b≠B.length:=by omega
   have:=vV.resolve_left hbb (by rw[q1];rfl);unfold T5 at this;rw[q2,q1,show(k+(b-a)==0)=false by grind]at this;exact .inr ⟨by omega,by rw[show l+k+(b-a)=l+(k+(b-a)) by omega];exact this⟩
  ·have e:l+k+(b-a)=l+n:=by omega
   rw[e];rcases AQk _ _ with Bw |AOd
   ·exact .inr ⟨Bw,AhN.2 (by omega) Bw⟩
   ·grind
 ·intro q hq1 hq2;obtain⟨q1,q2⟩:=bat (q-l) (by omega);have:=ah (Bn ((Az B).take i)+(q-l)) (by omega) (by omega);unfold T5 at this;rw[q1,ARc]at this;have:=this.2;rw[show l+(q-l)=q by omega]at this;exact this
theorem pY{B:ATO Bt}{a b i k:Nat}(S:mR d c B a b i k):(B.drop a).take (b-a)=(((Az B).getD i (.co [])).bits.drop k).take (b-a):=by
 have e:=Ahr Iq S.hi S.hk;rw[show(Az B).flatMap _=Dz _ from rfl,EP,<-S.ha]at e;exact e
theorem iX{B:ATO Bt}{a b i k:Nat}(S:mR d c B a b i k):LC B a=((Az B).getD i (.co [])).bits.getD k (.co false):=by
 have h1:=S.hk;have h2:=S.lt;have:=(TQ S.hi (k:=k) (by omega)).1;rw[EP,<-S.ha]at this;exact this
theorem qW{B:ATO Bt}{a b i k:Nat}(S:mR d c B a b i k){x:ASD}(hs:(Az B).getD i (.co [])=.co x):uT B a (b-a)=(x.drop k).take (b-a):=by
 unfold uT;rw[pY S,hs];simp only[Sg.bits];rw[<-List.map_drop,<-List.map_take,ARW];exact(AQY λ_ _=>rfl).trans (List.map_id _)
theorem gi(hd:AE d){B:ATO Bt}(h:Bv d B){a b i k:Nat}(S:mR d c B a b i k):∃r,(P9 (fN B) (a:Int)).bind (λl=>Lr l ((b-a:Nat):Int) (iJ (SL d c d.length) (SL d c d.length).length))=some r/\r.2.2.1=iJ (SL d c d.length) (SL d c d.length).length/\(r.1,(r.2.1,r.2.2.2,()),())=V9 (SL d c d.length) B a b:=by
 have hk:=S.hk;have Bw:=S.lt;have U8:=iX S;rw[S.ha,AfS h S.hi (by omega),<-S.ha,AP9];unfold Lr V9;rw[U8];cases hs:(Az B).getD i _ with
 |co x =>
  rw[hs]at hk;simp only[Sg.w]at hk;have Gh:=S.hs;rw[hs]at Gh;obtain⟨r,hr,hr2⟩:=Abo    (by have:=Gh.2;omega) (by omega) hk;have e1:EZ (Ik (.co x)).2.2.2.1 k _=some r:=hr;rw[e1,cL (by omega)];refine⟨_,rfl,rfl,?_⟩;rw[hr2,qW S hs]
 |va v l n =>
  rw[hs]at hk;simp only[Sg.w]at hk;have Gh:=S.hs;rw[hs]at Gh;obtain⟨hv,hn,hw⟩:=Gh;obtain⟨e0,iO,kL⟩:=P6 hd hv;obtain⟨m,hm,_⟩:=S.va v l n hs;have e1:(Ik (.va v l n)).1=v:=rfl;have e2:(Ik (.va v l n)).2.1=l:=rfl;simp only[e1,e2];rw[show((v:Int)==-1)=false from beq_eq_false_iff_ne.2 (by omega),Z2 (by omega),A6  (n:=l+k) (by omega) (by omega)];refine⟨_,rfl,rfl,?_⟩;simp only;have e3:BA _ ATy (iJ (SL d c d.length) (SL d c d.length).length) (v,((l+k:Nat)),())=m:=by
   unfold BA;rw[Abx];have:Ht _ (v,((l+k:Nat)),()) _=some m:=hm;rw[this];rfl
  rw[e3,hm];rfl
theorem gE(hd:AE d){B:ATO Bt}(h:Bv d B){a b i k:Nat}(S:mR d c B a b i k):∃r,QD (bV B,Ym (Az B),()) (NM d (SL d c d.length) (SL d c d.length).length) (SL d c d.length) (a:Int) (b:Int)=some r/\r.2.2.1=true/\(r.1,(r.2.1,r.2.2.2,()),())=V9 (SL d c d.length) B a b:=by
 have hk:=S.hk;have Bw:=S.lt;have U8:=iX S;have hbl:=h.2.1;have S5:=S.le;unfold QD V9;have eb:(bV B).getD a Aa.zero=Wa (LC B a):=cC (by omega);simp only[AQa,eb];rw[CR,AQr (Bq (by omega))];rw[U8];cases hs:(Az B).getD i (.co [])with
 |co x =>
  rw[hs]at hk;simp only[Sg.w]at hk;rw[cL (by omega)];rw[show decide ((Wa (.co (x.getD k false))).1<0)=true from rfl,AQp];have OC:(uT B a (b-a)).length=b-a:=by rw[qW S hs];simp;omega
  have e1:RG (b:Int) (bV B,Ym (Az B),()) (a:Int) []=some (.inr ((uT B a (b-a)).map bI)):=by
   unfold RG;have:=AW (f:=G7 (b:Int) (bV B,Ym (Az B),())) (λj=>(((a+j:Nat):Int),((uT B a (b-a)).take j).map bI)) (t:=.inr ((uT B a (b-a)).map bI)) (b-a) (λj hj=>?_) ?_
   ·exact this
   ·unfold G7 Od;have hq:LC B (a+j)=.co ((uT B a (b-a)).getD j false):=by
     have:=(TQ S.hi (k:=k+j) (by rw[hs];simp only[Sg.w];omega)).1;rw[EP,hs,cL (by omega),<-ARe,<-S.ha]at this;show B.getD (a+j) (.co false)=_;rw[this,qW S hs];congr 1;simp only[List.getD];rw[AQ8,AQr hj,AR9]
    have ec:(bV B).getD (a+j) Aa.zero=Wa (LC B (a+j)):=cC (by omega);simp only[AQa,ec,hq];rw[show decide (((a+j:Nat):Int)<(b:Int))=true from MM,AQp,CR,AQr (Bq (by omega)),show decide ((Wa (.co ((uT B a (b-a)).getD j false))).1>=0)=false from rfl,AQo,AQr (Bq (by omega)),AQr (by simp only[AQd,AQ4,List.length_nil,AQl,AQu];omega),A6 (x:=((a+j:Nat):Int)+1) (n:=a+(j+1)),A3 (z:=false) (by omega),AQT];rw[show IntKind.u8.wrap (Wa (.co ((uT B a (b-a)).getD j false))).2.1=bI ((uT B a (b-a)).getD j false) by cases (uT B a (b-a)).getD j false<;>rfl];rfl
   ·unfold G7 Od;simp only;rw[show a+(b-a)=b by omega,Ew,AQo,AQj (by omega)]
  rw[e1,AP9];simp only[ARa];rw[ZS (by omega) (by omega),AP9];exact⟨_,rfl,rfl,rfl⟩
 |va v l n =>
  rw[hs]at hk;simp only[Sg.w]at hk;have Gh:=S.hs;rw[hs]at Gh;obtain⟨hv,hn,hw⟩:=Gh;obtain⟨e0,iO,kL⟩:=P6 hd hv;obtain⟨m,hm,UB,S6⟩:=S.va v l n hs;rw[Z2 (by omega)];have e1:(Wa (.va v (l+k))).1=(v:Int):=rfl;have e2:(Wa (.va v (l+k))).2.1=((l+k:Nat):Int):=rfl;have e3:(NM d (SL d c d.length) (SL d c d.length).length).getD v ATD.zero=(List.range (W d v)).map λx=>nm (Ht (SL d c d.length) (nk v x) (SL d c d.length).length):=yD hv;have e4:((List.range (W d v)).map λx=>nm (Ht (SL d c d.length) (nk v x) (SL d c d.length).length)).getD (l+k) ATy.zero=(m:Int):=by
   rw[Gk (by omega),hm];rfl
  simp only[e1,e2,AQa,e3,e4];have hNl:(NM d (SL d c d.length) (SL d c d.length).length).length=d.length:=by simp[NM]
  rw[show decide ((v:Int)<0)=false from I3,AQo,AQr (Bq (by omega)),hNl,AQr (Bq hv),AQr (Bq (by omega)),AQl,AQQ,AQr (Bq (by omega))];have e5:Nq (SL d c d.length) (a:Int) (b:Int) (bV B,Ym (Az B),()) (m:Int)=some false:=by
   unfold Nq;rw[show decide ((m:Int)<0)=false from I3,AQo,AQr (Bq UB),AQa,show((SL d c d.length).getD m Ae.zero).2.2.1=((b-a:Nat):Int)from S6,A6 (x:=(b:Int)-(a:Int)) (n:=b-a)];simp
  have e6:RH (b:Int) (bV B,Ym (Az B),()) (m:Int) (wI ((a:Int)+1))=some (.inr ()):=by
   unfold RH;rw[A6 (x:=(a:Int)+1) (n:=a+1)];have:=AW (f:=G8 (b:Int) (bV B,Ym (Az B),()) (m:Int)) (λj=>((a+1+j:Nat):Int)) (t:=.inr ()) (b-(a+1)) (λj hj=>?_) ?_
   ·exact this
   ·unfold G8 Oe;have hf:(Ym (Az B)).getD (a+1+j) (Ty.zero .bool)=false:=S.no (a+1+j) (by omega) (by omega);simp only[AQa,hf];rw[show decide (((a+1+j:Nat):Int)<(b:Int))=true from MM,AQp,Abz,AQr (Bq (by omega)),AQo,A6 (x:=((a+1+j:Nat):Int)+1) (n:=a+1+(j+1))]
   ·unfold G8 Oe;simp only;rw[show a+1+(b-(a+1))=b by omega,Ew,AQo]
  rw[e5,AP9,AQo,e6,AP9];simp only[ARa];refine⟨_,rfl,rfl,?_⟩;simp only;rw[hm];rfl
end
def pcV(L:ASH)(B1 B2:ATO Bt)(a b:Nat):ASA:=(V9 L B1 a b,V9 L B2 a b,((b-a:Nat):Int),())
def PP(L:ASH)(B1 B2:ATO Bt):Nat->ASE->ASO
 |_,[]=>[]
 |a,b::r=>pcV L B1 B2 a b::PP L B1 B2 b r
def Ow(a:Nat)(l:ASE):Nat:=l.getLastD a
theorem UJ(L:ASH)(B1 B2:ATO Bt):∀(l:ASE) (a p:Nat),PP L B1 B2 a (l++[p])=PP L B1 B2 a l++[pcV L B1 B2 (Ow a l) p]
 |[],a,p=>rfl
 |x::l,a,p=>by
  have e:Ow a (x::l)=Ow x l:=by cases l<;>rfl
  rw[e];show _::PP L B1 B2 x (l++[p])=_;rw[UJ L B1 B2 l x p];rfl
theorem qw(L:ASH)(B1 B2:ATO Bt):∀(l:ASE) (a:Nat),(PP L B1 B2 a l).length=l.length
 |[],_=>rfl
 |_::l,_=>by simp[PP,qw L B1 B2 l]
def eL(B1 B2:ATO Bt)(h:Nat->Nat->Bool)(p:Nat):ASE:=(List.range p).filter λq=>decide (1<=q)&&iR B1 B2 h q
section
variable {B1 B2:ATO Bt} {h:Nat->Nat->Bool}
theorem cW(p:Nat)(hp:1<=p):eL B1 B2 h (p+1)=if iR B1 B2 h p then eL B1 B2 h p++[p]else eL B1 B2 h p:=by
 unfold eL;rw[ARh]
 grind
theorem zw:eL B1 B2 h 1=[]:=by simp[eL,ARh]
theorem bf{p q:Nat}:q∈eL B1 B2 h p↔q<p/\1<=q/\iR B1 B2 h q=true:=by
 unfold eL;simp
theorem oD(p:Nat):(eL B1 B2 h p).Pairwise (·<·):=(List.pairwise_lt_range ).filter _
theorem zu(p:Nat):(eL B1 B2 h p).length<=p:=by
 exact AQD (ARL _ _) (by simp)
theorem pd:∀{l:ASE} {a:Nat},l.Pairwise (·<·)->(∀q∈l,q<=Ow a l)/\(Ow a l=a/\l=[]\/Ow a l∈l)
 |[],a,_=>⟨λq hq=>(by grind),.inl ⟨rfl,rfl⟩⟩
 |x::l,a,hs=>by
  have e:Ow a (x::l)=Ow x l:=by cases l<;>rfl
  rw[List.pairwise_cons]at hs;obtain⟨h1,h2⟩:=pd (a:=x) hs.2
  grind
theorem bl{p:Nat}(hp:1<=p)(S5:p<=B1.length)(vV:p=B1.length\/iR B1 B2 h p=true):Gap B1 B2 h (Ow 0 (eL B1 B2 h p)) p:=by
 obtain⟨h1,h2⟩:=pd (a:=0) (oD (B1:=B1) (B2:=B2) (h:=h) p);refine⟨?_,S5,λq hq1 hq2=>?_,?_,vV⟩
 ·rcases h2 with ⟨h2,_⟩|h2
  ·omega
  ·exact(bf.1 h2).1
 ·cases hq:iR B1 B2 h q with
  |false=>rfl
  |true=>have:=h1 q (bf.2 ⟨hq2,by omega,hq⟩);omega
 ·rcases h2 with ⟨h2,_⟩|h2
  ·omega
  ·exact .inr (bf.1 h2).2.2
theorem rf:∀(n:Nat) {i:Nat} (hi:i<(eL B1 B2 h n).length),(eL B1 B2 h n).take i=eL B1 B2 h ((eL B1 B2 h n)[i])
 |0,i,hi=>by simp[eL]at hi
 |1,i,hi=>by rw[zw]at hi;simp at hi
 |n+2,i,hi=>by
  have es:=cW (B1:=B1) (B2:=B2) (h:=h) (n+1) (by omega);cases hq:iR B1 B2 h _ with
  |false =>
   rw[hq]at es;simp only[es]at hi⊢;exact rf _ hi
  |true =>
   rw[hq]at es;simp only[AQV]at es;simp only[es]at hi⊢;rw[AQd,AQt]at hi;rcases AQk i _ with Bw |ag
   ·rw[ARf (by omega),List.getElem_append_left Bw];exact rf _ Bw
   grind
end
section
variable {d:ASG} {c:ASQ} {B1 B2:ATO Bt}
theorem ZL(hd:AE d)(hc:Dn d c)(h1:Bv d B1)(h2:Bv d B2)(hl:B1.length=B2.length)(BX:mT d B1 B2 (C0 c)){a b:Nat}(g:Gap B1 B2 (C0 c) a b):(∃i k,mR d c B1 a b i k)/\∃i k,mR d c B2 a b i k:=by
 have ah:∀q,a<q->q<b->T5 B1 (C0 c) q=false/\T5 B2 (C0 c) q=false:=λq q1 q2=>by
  have:=g.no q q1 q2;unfold iR at this;rwa [ARc]at this
 have AnZ:∀q,1<=q->q<B1.length->iR B1 B2 (C0 c) q=true->(kP (LC B1 q)=true->T5 B1 (C0 c) q=true)/\(kP (LC B2 q)=true->T5 B2 (C0 c) q=true):=λq q1 q2 hq=>by
  have hs:=BX.2 q q1 q2;unfold iR at hq
  grind
 have Bw:=g.lt;have S5:=g.le;constructor
 ·refine Aca (B':=B2) hd hc h1 hl g.lt g.le (λq q1 q2=>(ah q q1 q2).1) ?_ ?_ λx hx=>BX.1 x (AQH _ hx)
  ·rcases AQx a with h0 |h0
   ·grind
   ·exact .inr (AnZ a h0 (by omega) (g.fr.resolve_left (by omega))).1
  ·rcases g.to with e |e
   ·grind
   grind
 ·refine Aca (B':=B1) hd hc h2 hl.symm g.lt (by omega) (λq q1 q2=>(ah q q1 q2).2) ?_ ?_ λx hx=>BX.1 x (AQI _ hx)
  ·rcases AQx a with h0 |h0
   ·grind
   ·exact .inr (AnZ a h0 (by omega) (g.fr.resolve_left (by omega))).2
  ·rcases g.to with e |e
   ·grind
   grind
theorem wN{B:ATO Bt}(h:Bv d B):1<=(Az B).length:=by
 rcases AQx _ with h0 |h0
 ·have e:Az B=[]:=AQ2 h0;have:=Ce B;rw[e]at this;have:=h.1;simp[Bn]at *;omega
 ·omega
theorem AJe{B:ATO Bt}(h:Bv d B):fst B 0=true:=by
 have hp:=wN h;have:=(TQ    (by omega) (CM B _ (AO  (show 0<(Az B).length by omega)))).2.1;exact this
theorem nD(hd:AE d)(hc:Dn d c)(hb:YB c)(h1:Bv d B1)(h2:Bv d B2)(hl:B1.length=B2.length)(BX:mT d B1 B2 (C0 c)) :
    TH (fN B1) (fN B2) (c,()) (iJ (SL d c d.length) (SL d c d.length).length)=some (iJ (SL d c d.length) (SL d c d.length).length,PP (SL d c d.length) B1 B2 0 (eL B1 B2 (C0 c) B1.length++[B1.length])):=by
 unfold TH;have hn1:=h1.1;have hn2:=h1.2.1;have pl:∀{B:ATO Bt},Bv d B->(Kd c (Az B) (Az B).length).length<=20000000/\1<=(Kd c (Az B) (Az B).length).length:=λ{B} h=>by
  have hlen:=CX (CM B);rw[Ce]at hlen;have hbl:=h.2.1;have q1:(Kd c (Az B) (Az B).length).length<=4097*(Az B).length:=XL λi hi=>Ab3 hd hc (Zk h (AO hi)).1 _;refine⟨by omega,?_⟩;have hp:=wN h;have:((Bn ((Az B).take 0):Nat):Int)∈Kd c (Az B) (Az B).length:=List.mem_flatMap.2 ⟨0,List.mem_range.2 (by omega),AQE⟩;exact List.length_pos_of_mem this
 have p1:=pl h1;have p2:=pl h2;rw[wR hd hc hb h1,AP9,wR hd hc hb h2,AP9,qX p1.2 (by omega) (by omega),AP9,AQr (by rw[AQd];omega),AaM h1,AP9];have hu:Oy (Ro (Kd c (Az B1) (Az B1).length++Kd c (Az B2) (Az B2).length))=(0::eL B1 B2 (C0 c) B1.length).map Int.ofNat:=by
  obtain⟨v1',v2'⟩:=gK (Kd c (Az B1) (Az B1).length++Kd c (Az B2) (Az B2).length);refine lW (λ_ _ h=>h) v1' ?_ λx=>?_
  ·rw[List.pairwise_map,List.pairwise_cons];refine⟨λq hq=>?_,(oD _).imp λ{a b} h=>?_⟩
   ·have:=(bf.1 hq).2.1;show((0:Nat):Int)<(q:Int);omega
   ·show(a:Int)<(b:Int);omega
  ·rw[v2',ARD,pK hd hc h1,pK hd hc h2,List.mem_map];constructor
   ·intro hx;have:∃p:Nat,x=(p:Int)/\p<B1.length/\iR B1 B2 (C0 c) p=true:=by
     rcases hx with ⟨p,e,hp,hq⟩|⟨p,e,hp,hq⟩
     ·exact⟨p,e,hp,by unfold iR;rw[hq];rfl⟩
     ·exact⟨p,e,by omega,by unfold iR;rw[hq];simp⟩
    obtain⟨p,rfl,hp,hq⟩:=this;refine⟨p,?_,rfl⟩;rcases AQx p with h0 |h0
    ·rw[h0];exact AQE
    ·exact AQB _ (bf.2 ⟨hp,h0,hq⟩)
   ·rintro⟨p,hp,rfl⟩
    rcases List.mem_cons.1 hp with rfl |hp
    ·exact .inl ⟨0,rfl,by omega,by unfold T5;rw[AJe h1];rfl⟩
    ·obtain⟨q1,q2,q3⟩:=bf.1 hp;unfold iR at q3;rw[ARr]at q3;rcases q3 with q3 |q3
     ·exact .inl ⟨p,rfl,q1,q3⟩
     ·exact .inr ⟨p,rfl,by omega,q3⟩
 rw[hu];generalize hE:eL B1 B2 (C0 c) B1.length=E;have hEl:E.length<=4096:=by rw[<-hE];have:=zu (B1:=B1) (B2:=B2) (h:=C0 c) B1.length;omega
 have ia:(((0::E).map Int.ofNat)++[(B1.length:Int)]).length=E.length+2:=by simp
 have hw:wI (((((0::E).map Int.ofNat)++[(B1.length:Int)]).length:Int)-1)=((E.length+1:Nat):Int):=A6 (by rw[ia];omega) (by omega);rw[AQr (by simp;omega),hw,AQr ⟨by omega,by omega,by rw[ia];omega⟩,AQa,ASf];have ht:((((0::E).map Int.ofNat)++[(B1.length:Int)]).take (E.length+1))=(0::E).map Int.ofNat:=by
  rw[ARf (by simp)];exact AQj (by simp)
 rw[ht];have hml:(((0::E).map Int.ofNat).length:Int)=((E.length+1:Nat):Int):=by simp
 rw[hml];have vL:Q5 (fN B1) (fN B2) (((0::E).map Int.ofNat)++[(B1.length:Int)]) ((0::E).map Int.ofNat) ((E.length+1:Nat):Int) 0 (iJ (SL d c d.length) (SL d c d.length).length) []=some (iJ (SL d c d.length) (SL d c d.length).length,PP (SL d c d.length) B1 B2 0 (E++[B1.length])):=by
  unfold Q5;have:=AW (f:=G1 (fN B1) (fN B2) (((0::E).map Int.ofNat)++[(B1.length:Int)]) ((0::E).map Int.ofNat) ((E.length+1:Nat):Int)) (λi=>((i:Int),iJ (SL d c d.length) (SL d c d.length).length,PP (SL d c d.length) B1 B2 0 ((E++[B1.length]).take i))) (t:=(iJ (SL d c d.length) (SL d c d.length).length,PP (SL d c d.length) B1 B2 0 (E++[B1.length]))) (E.length+1) (λi hi=>?_) ?_
  ·exact this
  ·unfold G1 NN;have ANL:(E++[B1.length]).length=E.length+1:=by simp
   obtain⟨p,hp⟩:∃p,p=(E++[B1.length]).getD i 0:=⟨_,rfl⟩;have ka:((0::E).map Int.ofNat).getD i ATy.zero=((Ow 0 ((E++[B1.length]).take i):Nat):Int):=by
    match i,hi with
    |0,_=>rfl
    |j+1,hj =>
     have hjE:j<E.length:=by omega
     have e1:((0::E).map Int.ofNat).getD (j+1) ATy.zero=((E.getD j 0:Nat):Int):=by simp[List.getD,hjE]
     rw[e1,ARf (by omega),A3 (z:=0) hjE];rw[show Ow 0 (E.take j++[E.getD j 0])=E.getD j 0 from List.getLastD_concat]
   have kb:(((0::E).map Int.ofNat)++[(B1.length:Int)]).getD (i+1) ATy.zero=(p:Int):=by
    rw[hp];have e1:((0::E).map Int.ofNat)++[(B1.length:Int)]=0::(E++[B1.length]).map Int.ofNat:=by simp
    rw[e1];simp only[List.getD,List.getElem?_cons_succ,AQC];have:(E++[B1.length])[i]?=some ((E++[B1.length])[i]'(by omega)):=ARi (by omega);rw[this];rfl
   have gap:Gap B1 B2 (C0 c) (Ow 0 ((E++[B1.length]).take i)) p:=by
    rcases AQk i E.length with Bw |ag
    ·have hpe:p=E[i]:=by rw[hp];simp only[List.getD];rw[AQw Bw,ARi Bw];rfl
     have hm:p∈E:=by rw[hpe];exact AQR Bw
     rw[<-hE]at hm;obtain⟨m1,m2,m3⟩:=bf.1 hm;have ht2:(E++[B1.length]).take i=eL B1 B2 (C0 c) p:=by
      rw[ARf (by omega),hpe];subst hE;exact rf _ Bw
     rw[ht2];exact bl m2 (by omega) (.inr m3)
    ·have hie:i=E.length:=by omega
     have hpe:p=B1.length:=by rw[hp,hie];simp[List.getD]
     have ht2:(E++[B1.length]).take i=eL B1 B2 (C0 c) p:=by
      rw[hie,ARf (AQf _),AQj (AQf _),<-hE,hpe]
     rw[ht2];exact bl (by omega) (by omega) (.inl hpe)
   obtain⟨⟨i1,k1,s1⟩,⟨i2,k2,s2⟩⟩:=ZL hd hc h1 h2 hl BX gap;obtain⟨r1,a1,a2,a3⟩:=gi hd h1 s1;obtain⟨r2,b1,b2,b3⟩:=gi hd h2 s2;have hgl:=gap.lt;have AOf:=gap.le;have hwd:wI ((p:Int)-((Ow 0 ((E++[B1.length]).take i):Nat):Int))=((p-Ow 0 ((E++[B1.length]).take i):Nat):Int):=A6;have hi1:wI ((i:Int)+1)=((i+1:Nat):Int):=A6;simp only[hi1,AQa,ka,kb,hwd];have hPl:(PP (SL d c d.length) B1 B2 0 ((E++[B1.length]).take i)).length<=5000:=by rw[qw,AQu];omega
   rw[show decide ((i:Int)<((E.length+1:Nat):Int))=true from MM,AQp,AQl,AQr (Bq (by simp;omega)),AQr (Bq (by simp;omega))];rw[<-AQq,a1,AP9];simp only[a2];rw[<-AQq,b1,AP9,AQr (by simp only[AQd,AQ4,List.length_nil];omega)];simp only[b2,a3,b3];rw[A3 (z:=0) (by omega),UJ,<-hp];rfl
  ·unfold G1 NN;simp only;rw[Ew,AQo,AQj (by simp)]
 rw[vL];rfl
def eX(B1 B2:ATO Bt)(h:Nat->Nat->Bool)(p:Nat):ASE:=if p<=B1.length then eL B1 B2 h p else eL B1 B2 h B1.length++[B1.length]
theorem nS(hd:AE d)(hc:Dn d c)(h1:Bv d B1)(h2:Bv d B2)(hl:B1.length=B2.length)(BX:mT d B1 B2 (C0 c)) :
    Mm (M d 1 (C0 c)) (NM d (SL d c d.length) (SL d c d.length).length) (SL d c d.length) (bV B1) (Ym (Az B1)) (bV B2) (Ym (Az B2)) 0 1 []=some (.inr (PP (SL d c d.length) B1 B2 0 (eL B1 B2 (C0 c) B1.length++[B1.length]))):=by
 unfold Mm;have hn1:=h1.1;have hn2:=h1.2.1;have:=AW (f:=Er (M d 1 (C0 c)) (NM d (SL d c d.length) (SL d c d.length).length) (SL d c d.length) (bV B1) (Ym (Az B1)) (bV B2) (Ym (Az B2))) (λj=>(((Ow 0 (eX B1 B2 (C0 c) (j+1)):Nat):Int),((j+1:Nat):Int),PP (SL d c d.length) B1 B2 0 (eX B1 B2 (C0 c) (j+1)))) (t:=.inr (PP (SL d c d.length) B1 B2 0 (eL B1 B2 (C0 c) B1.length++[B1.length]))) B1.length (λj hj=>?_) ?_
 ·have e0:eX B1 B2 (C0 c) (0+1)=[]:=by unfold eX;rw[WA];exact zw
  simp only[e0]at this;exact this
 ·unfold Er Jw;have eX1:eX B1 B2 (C0 c) (j+1)=eL B1 B2 (C0 c) (j+1):=by unfold eX;rw[WA]
  have hPl:(PP (SL d c d.length) B1 B2 0 (eL B1 B2 (C0 c) (j+1))).length<=5000:=by rw[qw];have:=zu (B1:=B1) (B2:=B2) (h:=C0 c) (j+1);omega
  simp only[eX1];rw[CR,show decide (((j+1:Nat):Int)<=(B1.length:Int))=true from MM,AQp];by_cases AhL:j+1=B1.length\/iR B1 B2 (C0 c) (j+1)=true
  ·have e7:ER (M d 1 (C0 c)) (NM d (SL d c d.length) (SL d c d.length).length) (SL d c d.length) ((Ow 0 (eL B1 B2 (C0 c) (j+1)):Nat):Int) ((j+1:Nat):Int) (PP (SL d c d.length) B1 B2 0 (eL B1 B2 (C0 c) (j+1))) (bV B1) (Ym (Az B1)) (bV B2) (Ym (Az B2))=some (.inr ()):=by
     unfold ER;rw[CR];rcases AQk (j+1) B1.length with Bw |ag
     ·have hq:=AhL.resolve_left (by omega);unfold iR at hq;rw[show decide (((j+1:Nat):Int)<(B1.length:Int))=true from MM,AQp,SG hd h1 Bw,AP9];cases hA:T5 B1 (C0 c) (j+1)with
      |true=>rfl
      |false =>
       rw[hA,ASl]at hq;rw[ARu,AQp,SG hd h2 (by omega),AP9,hq];rfl
     ·rw[show decide (((j+1:Nat):Int)<(B1.length:Int))=false from I3,AQo]
   have gap:=bl (B1:=B1) (B2:=B2) (h:=C0 c) (show 1<=j+1 by omega) (by omega) AhL;obtain⟨⟨i1,k1,s1⟩,⟨i2,k2,s2⟩⟩:=ZL hd hc h1 h2 hl BX gap;obtain⟨r1,a1,a2,a3⟩:=gE hd h1 s1;obtain⟨r2,b1,b2,b3⟩:=gE hd h2 s2;have hgl:=gap.lt;have hwd:wI (((j+1:Nat):Int)-((Ow 0 (eL B1 B2 (C0 c) (j+1)):Nat):Int))=((j+1-Ow 0 (eL B1 B2 (C0 c) (j+1)):Nat):Int):=A6;unfold JW OQ;rw[e7,AP9];simp only[ARa];rw[a1,AP9,b1,AP9];simp only[a2,b2,hwd,AQS,Bool.or_false,AQo];rw[AQr (by simp only[AQd,AQ4,List.length_nil];omega),AP9];simp only[ARq,a3,b3];have eX2:eX B1 B2 (C0 c) (j+1+1)=eL B1 B2 (C0 c) (j+1)++[j+1]:=by
    unfold eX;rcases AQk (j+1) B1.length with Bw |ag
    ·rw[WA,cW _ (by omega),AQr (AhL.resolve_left (by omega))]
    ·rw[QK,show B1.length=j+1 by omega]
   rw[eX2,UJ,A6 (x:=((j+1:Nat):Int)+1) (n:=j+1+1)];have:Ow 0 (eL B1 B2 (C0 c) (j+1)++[j+1])=j+1:=by unfold Ow;simp
   rw[this];rfl
  ·have AhM:j+1<B1.length/\iR B1 B2 (C0 c) (j+1)=false:=by
     rw[not_or]at AhL;exact⟨by omega,by simpa using AhL.2⟩
   have hq:=AhM.2;unfold iR at hq;rw[ARc]at hq;have e7:ER (M d 1 (C0 c)) (NM d (SL d c d.length) (SL d c d.length).length) (SL d c d.length) ((Ow 0 (eL B1 B2 (C0 c) (j+1)):Nat):Int) ((j+1:Nat):Int) (PP (SL d c d.length) B1 B2 0 (eL B1 B2 (C0 c) (j+1))) (bV B1) (Ym (Az B1)) (bV B2) (Ym (Az B2))=some (.inl ()):=by
    unfold ER;rw[CR,show decide (((j+1:Nat):Int)<(B1.length:Int))=true from MM,AQp,SG hd h1 AhM.1,AP9,hq.1,ARu,AQp,SG hd h2 (by omega),AP9,hq.2];rfl
   unfold JW;rw[e7,AP9];simp only[ARq];rw[AP9];simp only[ARq];have eX2:eX B1 B2 (C0 c) (j+1+1)=eL B1 B2 (C0 c) (j+1):=by
    unfold eX;rw[WA,cW _ (by omega),AhM.2];rfl
   rw[eX2,A6 (x:=((j+1:Nat):Int)+1) (n:=j+1+1)]
 ·unfold Er Jw;have eX1:eX B1 B2 (C0 c) (B1.length+1)=eL B1 B2 (C0 c) B1.length++[B1.length]:=by unfold eX;rw[QK]
  simp only[eX1];rw[CR,show decide (((B1.length+1:Nat):Int)<=(B1.length:Int))=false from I3,AQo]
end
theorem nC{d:ASG}{t:ASJ}(hd:AE d)(ht:OS t):TF d (t,())=some (D1 d t):=by
 unfold TF;have AJE:=hd.1;rw[MV ht (by omega),AP9];by_cases hw:∃ws,Ou d t ws
 ·obtain⟨ws,h⟩:=hw;have hp:=qa h;rw[I3,AQo,Vl hd ht h];rfl
 ·rw[VY hw,MM,AQp];unfold D1;rw[AQs (λh=>hw h.1)]
section
end
end Go.Proofs.X
namespace Go.Va
open Go.Proofs.X
theorem AwF{A B:Type}{F:A->Int->ATP Int}{G:B->Int->ATP Int}{x:A}{y:B}{m n:Nat}(hF:∀left:Int,0<=left->left<=1048576->F x left=some (if(m:Int)<=left then left-(m:Int)else -1))(hG:∀left:Int,0<=left->left<=1048576->G y left=some (if(n:Int)<=left then left-(n:Int)else -1)){left:Int}(h0:0<=left)(h1:left<=1048576) :
    ((F x left).bind λc=>bif decide (c<0)then some (-1)else(G y c).bind λd=>bif decide (d<0)then some (-1)else some d)=some (if((m+n:Nat):Int)<=left then left-((m+n:Nat):Int)else -1):=by
 grind
theorem AwE{A:Type}{F:A->Int->ATP Int}{x:A}{m:Nat}(hF:∀left:Int,0<=left->left<=1048576->F x left=some (if(m:Int)<=left then left-(m:Int)else -1)){left:Int}(h0:0<=left)(h1:left<=1048576) :
    ((F x left).bind λc=>bif decide (c<0)then some (-1)else some c)=some (if(m:Int)<=left then left-(m:Int)else -1):=by
 grind
theorem Am7{m:Nat}{left:Int}(h0:0<=left)(h1:left<=1048576)(hn:m<=maxLen):(bif decide ((wI (left-(m:Int)))<0)then(-1)else wI (left-(m:Int)))=if(m:Int)<=left then left-(m:Int)else -1:=by
 unfold maxLen at hn;rw[BU]
 grind
theorem ma{A E:Type}{F:A->ATP E}{mk:E->A}{z z0:A}{r:Int×ATO A->ATP ((Int×ATO A)⊕ATO A)}{a:ATO A}
    (hr:∀x,r x=bif decide (x.1<(a.length:Int))then(if(0:Int)<=x.1/\x.1<(a.length:Int)then(F (a.getD x.1.toNat z)).bind λe=>(if(0:Int)<=x.1/\x.1<(x.2.length:Int)then some (.inl (wI (x.1+1),x.2.set x.1.toNat (mk e)))else none)else none)else some (.inr x.2))
    (hn:a.length<=1048576) (hF:∀x∈a,∃e,F x=some e/\mk e=x):fix r (0,List.replicate a.length z0)=some a:=by
 have:=AW (f:=r) (λk=>(k,Go.Proofs.X.CU (λi=>a.getD i z) z0 _ k))  a.length (λk hk=>by
  rw[hr];obtain⟨e,he,hm⟩:=hF (a.getD k z) (by grind);rw[Di hk,AQp,AQr (Bq hk),AQa,he,AP9,Go.Proofs.X.Ih,AQr (Bq hk),hm];rw[show wI _=((k+1:Nat))from Go.Proofs.X.Bp hk hn,Go.Proofs.X.Qq (λi=>a.getD i z) z0]) (by
  rw[hr];rw[Ew,AQo,Go.Proofs.X.km])
 have h :=this;rw[Go.Proofs.X.MU]at h;exact h
end Go.Va
namespace Go.Proofs.X
open Go Go.Va
set_option maxRecDepth 100000
theorem Aer{a:ASq}(h:Ty.Wf Ab a):gT Ab (λx l=>some (Kc x l)) a:=λleft h0 h1=>by
 show some _=_;unfold Kc;rw[Am7 h0 h1 h.1];rfl
theorem AaB{a:ASG}(h:Ty.Wf (.sl Ab) a):gT (.sl Ab) UR a :=
 AaC  (r:=Md) (λ_ _=>rfl) (λ_ _=>rfl) h.1 λx hx=>Aer (h.2 x hx)
theorem Aeq{a:ASv}(h:Ty.Wf Ai a):gT Ai (λx l=>some (DK x l)) a:=λleft h0 h1=>by
 have hu:=sZ h.2.1.1 left h0 h1;have e:wt _ a=wt _ a.2.1:=by show 0+(_+0)=_;omega
 show some _=_;unfold DK
 grind
theorem AaD{a:ASt}(h:Ty.Wf Ag a):gT Ag (λx l=>some (IH x l)) a:=λleft h0 h1=>by
 have hb:=Aeq h.2.2.2.2.1 left h0 h1;have zG :=Option.some.inj hb;have hi :=λl h0 h1=>Option.some.inj (xC h.2.2.2.2.2.1.1 l h0 h1);have e:wt _ a=wt _ a.2.2.2.2.1+wt _ a.2.2.2.2.2.1:=by show 0+(0+(0+(0+(_+(_+0)))))=_;omega
 show some _=_;unfold IH
 grind
theorem xD{a:ASJ}(h:Ty.Wf (.sl Ag) a):gT (.sl Ag) Tf a :=
 AaC  (r:=KD) (λ_ _=>rfl) (λ_ _=>rfl) h.1 λx hx=>AaD (h.2 x hx)
theorem fK{a:ASz}(h:Ty.Wf Ap a):gT Ap Qz a:=λleft h0 h1 =>
 AwE   (xD h.1) h0 h1
theorem sY{a:ASu}(h:Ty.Wf Ah a):gT Ah Rc a:=λleft h0 h1=>by
 have e:wt _ a=wt _ a.2.2.1+wt _ a.2.2.2.1:=by show 0+(0+(_+(_+0)))=_;omega
 rw[e];exact AwF   (fK h.2.2.1) (fK h.2.2.2.1) h0 h1
theorem nV{a:ASK}(h:Ty.Wf (.sl Ah) a):gT (.sl Ah) Pz a :=
 AaC   (λ_ _=>rfl) (λ_ _=>rfl) h.1 λx hx=>sY (h.2 x hx)
theorem tw{t:Ty}(a:ATO t.V):a.length<=wt (.sl t) a:=Nat.le_add_right _ _
theorem AjW{t:Ty}{a:ATO t.V}{x:t.V}(h:x∈a):wt t x<=wt (.sl t) a:=by
 show _<=a.length+(a.map _).sum;have:∀l:ATO t.V,x∈l->wt t x<=(l.map (wt t)).sum:=λl hl=>by
  induction l with
  |nil=>grind
  |cons y l ih =>
   grind
 have:=this a h;omega
theorem Aws{n:ASt}(hw:Ty.Wf Ag n)(h:wt Ag n<=1048576):YL n:=by
 have e:wt _ n=wt (.sl (.int .u64)) (gu n)+wt (.sl (.int .i64)) (AP n):=by show 0+(0+(0+(0+((0+(_+0))+(_+0)))))=_;unfold gu AP;omega
 rw[e,AaO,AaN]at h;exact⟨by omega,by omega,AjV hw.2.2.2.2.1.2.1.2⟩
theorem AaF{t:ASz}(hw:Ty.Wf Ap t)(h:wt Ap t<=1048576):OS t.1:=by
 have e:wt _ t=wt _ t.1:=rfl;exact⟨AQD (tw t.1) h,λn hn=>Aws (hw.1.2 n hn) (AQD (AjW hn) h)⟩
theorem AGS{x:ASu}(hw:Ty.Wf Ah x)(h:wt Ah x<=1048576):MK x:=by
 have e:wt _ x=wt _ x.2.2.1+wt _ x.2.2.2.1:=by show 0+(0+(_+(_+0)))=_;omega
 exact⟨AaF hw.2.2.1 (by omega),AaF hw.2.2.2.1 (by omega)⟩
theorem AaH{a:ASG}(h:a.length<=1048576):Bz a=some a:=by
 unfold Bz Uj;rw[AQr ⟨rfl,by omega,by omega,by omega,by omega⟩,AQa,ma (r:=Me a) (F:=λx=>some (Wl x)) (mk:=λe=>(e.1,e.2,()))  (λ_=>rfl) h (λx _=>⟨_,rfl,rfl⟩)];rfl
theorem tg{a:ASC}(h:a.length<=1048576):JR a=some a:=by
 unfold JR Rf;rw[AQr ⟨rfl,by omega,by omega,by omega,by omega⟩,AQa,ma (r:=Ju a)  (mk:=λe=>e)  (λ_=>rfl) h (λx _=>⟨_,rfl,rfl⟩)];rfl
theorem xI{a:ASC}(h:a.length<=1048576):Lw a=some a:=by
 unfold Lw Sy;rw[AQr ⟨rfl,by omega,by omega,by omega,by omega⟩,AQa,ma (r:=KE a)  (mk:=λe=>e)  (λ_=>rfl) h (λx _=>⟨_,rfl,rfl⟩)];rfl
theorem xJ{a:ASJ}(h:OS a):O7 a=some a:=by
 unfold O7 Sz;have hl:=h.1;rw[AQr ⟨rfl,by omega,by omega,by omega,by omega⟩,AQa,ma (r:=KF a) (F:=Re)   (λ_=>rfl) hl (λx hx=>by
  have hn:=h.2 x hx;unfold Re Wk;rw[show JR _=some x.2.2.2.2.1.2.1 from tg hn.2.1,show Lw _=some x.2.2.2.2.2.1 from xI hn.1];exact⟨_,rfl,rfl⟩)]
 rfl
theorem fM{t:ASz}(h:OS t.1):AF t=some t.1:=by
 unfold AF;rw[xJ h];rfl
theorem nX{a:ASK}(hl:a.length<=1048576)(h:∀x∈a,MK x):AL a=some a:=by
 unfold AL Qg;rw[AQr ⟨rfl,by omega,by omega,by omega,by omega⟩,AQa,ma (r:=II a) (F:=Nh)   (λ_=>rfl) hl (λx hx=>by
  unfold Nh;rw[fM (h x hx).1,fM (h x hx).2];exact⟨_,rfl,rfl⟩)]
 rfl
end Go.Proofs.X
namespace Go.Va
open Go.Proofs.X
def Ch{A:Type}(H:Int->A->Int->Prop):ATO A->Int->Int->Prop
 |[],k,k'=>k=k'
 |x::xs,k,k'=>∃m,H k x m/\Ch H xs m k'
section
variable {A:Type} {H:Int->A->Int->Prop}
theorem Abn{x:A}:∀{l:ATO A} {k k' m:Int},Ch H l k m->H m x k'->Ch H (l++[x]) k k'
 |[],_,_,_,h1,h2=>by cases h1;exact⟨_,h2,rfl⟩
 |_::_,_,_,_,⟨n,h0,h1⟩,h2=>⟨n,h0,Abn h1 h2⟩
theorem gsS{d:ATO A}{i:Nat}{x z:A}(h:i<d.length):(d.set i x).getD i z=x:=by simp[List.getD,h]
theorem nU{cost:A->Nat}{a:ATO A}{z:A}{i:Nat}(h:i<a.length):((a.take (i+1)).map cost).sum=((a.take i).map cost).sum+cost (a.getD i z):=by
 rw[AQ5 h,AQT,AR0];simp[List.getD,h]
theorem xA{cost:A->Nat}{a:ATO A}{i:Nat}:((a.take i).map cost).sum<=(a.map cost).sum:=by
 conv=>rhs;rw[<-ARj i a,AQT,AR0]
 omega
theorem fJ{c:Nat}(l:ATO A):(l.map λ_=>c).sum=c*l.length:=by
 induction l with
 |nil=>rfl
 |cons x l ih=>rw[AQU,ARP,ih,AQ4,Nat.mul_succ];omega
theorem Xo{f:Int×Int×ATO A->ATP ((Int×Int×ATO A)⊕(Int×ATO A))}{cost:A->Nat}{z:A}{a:ATO A}{k:Int}(M:Int)
    (hs:∀b i (d:ATO A),i<a.length->d.length=a.length->d.getD i z=a.getD i z->0<=b->b+(cost (a.getD i z):Int)<=M ->
     Ay (f (b,(i:Int),d)) λr=>∃b' x',r=.inl (b',((i+1:Nat):Int),d.set i x')/\b<=b'/\b'<=b+(cost (a.getD i z):Int)/\H b x' b')
    (he:∀b (d:ATO A),d.length=a.length->f (b,(a.length:Int),d)=some (.inr (b,d))) (h0:0<=k) (hM:k+(((a.map cost).sum:Nat):Int)<=M) :
    Ay (fix f (k,0,a)) λr=>k<=r.1/\r.1<=k+(((a.map cost).sum:Nat):Int)/\r.2.length=a.length/\Ch H r.2 k r.1:=by
 refine BB (λm (x:Int×Int×ATO A)=>∃i:Nat,i<=a.length/\m=a.length-i/\x.2.1=(i:Int)/\x.2.2.length=a.length/\Ch H (x.2.2.take i) k x.1/\(∀j,i<=j->x.2.2.getD j z=a.getD j z)/\k<=x.1/\x.1<=k+((((a.take i).map cost).sum:Nat):Int)) (λm x hI=>?_) a.length _ ⟨0,AQW _,rfl,rfl,rfl,by simp[Ch],λ_ _=>rfl,by simp,by simp⟩;obtain⟨b,c,d⟩:=x;obtain⟨i,hi,rfl,h1,h2,h3,h4,h5,h6⟩:=hI;simp only at h1 h2 h3 h4 h5 h6;subst h1;rcases AQk i a.length with h |h
 ·have Aid:=nU (cost:=cost) (z:=z) h;have S5:=xA (cost:=cost) (a:=a) (i:=i+1);refine(hs b i d h h2 (h4 i (AQf _)) (by omega) (by omega)).mono λr hr=>?_;obtain⟨b',x',rfl,gY,oM,hH⟩:=hr;refine⟨a.length-(i+1),by omega,i+1,h,rfl,rfl,by rw[AQi];exact h2,?_,λj hj=>?_,by show k<=b';omega,by show b'<=_;omega⟩
  ·show Ch H ((d.set i x').take (i+1)) k b';rw[AQ5 (by rw[AQi];omega),List.take_set_of_le (AQf _)];simp only[List.getElem_set_self];exact Abn h3 hH
  ·show(d.set i x').getD j z=_;rw[<-h4 j (by omega)];simp only[List.getD,AQy,show ¬i=j by omega,ARA]
 ·have:i=a.length:=by omega
  subst this;rw[he b d h2];rw[AQj (by omega)]at h3;rw[AQj (AQf _)]at h6;exact Ay.mk ⟨h5,h6,h2,h3⟩
theorem Adp{f:Int×Int->ATP (AS1⊕(Int⊕Int))}{z:A}{a:ATO A}(hs:∀i b b',i<a.length->H b (a.getD i z) b'->f (b,(i:Int))=some (.inl (b',((i+1:Nat):Int))))(he:∀b,f (b,(a.length:Int))=some (.inr (.inr b))){k k':Int}(h:Ch H a k k'):fix f (k,0)=some (.inr k'):=by
 have:∀(l:ATO A) (i:Nat) (b:Int),a.drop i=l->i+l.length=a.length->Ch H l b k'->fix f (b,(i:Int))=some (.inr k'):=λl=>by
  induction l with
  |nil =>
   intro i b h1 h2 h3;have h3:b=k':=h3;subst h3;have:i=a.length:=by simpa using h2
   rw[this];exact K9 (he b)
  |cons x l ih =>
   intro i b h1 h2 h3;obtain⟨m,h3,h4⟩:=h3;simp only[AQ4]at h2;have hi:i<a.length:=by omega
   rw[ARN hi]at h1;injection h1 with h1 h5;have hx:a.getD i z=x:=by rw[<-h1];simp[List.getD,hi]
   rw[OW (hs i b m hi (by rw[hx];exact h3))];exact ih (i+1) m h5 (by omega) h4
 exact this a 0 k rfl (by simp) h
end
end Go.Va
namespace Go.Proofs.X
open Go Go.Va
set_option maxRecDepth 100000
theorem w1{b:Int}(h0:0<=b)(h1:b<=2305843009213693952):wI (b+1)=b+1:=BU
def Hu(b x b':Int):Prop:=x=IntKind.u64.wrap b/\b'=b+1/\0<=b/\b'<=2305843009213693952
def tT{A:Type}(H:Int->A->Int->Prop)(a:ATO A)(n:Nat)(k:Int)(r:Int×ATO A):Prop:=k<=r.1/\r.1<=k+(n:Int)/\r.2.length=a.length/\Ch H r.2 k r.1
theorem Zd{a:ASC}(hn:a.length<=1048576){k:Int}(h0:0<=k)(hk:k+(a.length:Int)<=2305843009213693952):Ay (Dy k a) (tT Hu a a.length k):=by
 unfold Dy LP;have hc:(a.map λ_=>1).sum=a.length:=by rw[fJ];omega
 have:=Xo (f:=CL) (cost:=λ_=>1) (z:=(0:Int)) (a:=a) (H:=Hu) (k:=k) 2305843009213693952 (λb i d hi hd hg zH hb=>by
  unfold CL FP
  try simp only
  try simp only at hb
  rw[hd,Di hi,AQp,AQr (Bq hi),AQa,w1 zH (by omega),Bp hi hn];exact Ay.mk ⟨b+1,_,rfl,by omega,by omega,rfl,rfl,zH,by omega⟩) (λb d hd=>by
  unfold CL FP
  try simp only
  rw[hd,Ew,AQo]) h0 (by rw[hc];exact hk)
 rw[hc]at this;exact this.bind λr hr=>Ay.mk hr
theorem kF{a:ASC}(hn:a.length<=1048576){k k':Int}(h:Ch Hu a k k'):JO a k=some k':=by
 unfold JO OM;rw[Adp (f:=Dm a) (z:=(0:Int)) (H:=Hu) (λi b b' hi hH=>by
  unfold Dm HW
  try simp only
  obtain⟨h1,h2,h3,h4⟩:=hH;rw[Di hi,AQp,AQr (Bq hi),AQa,show(Ty.zero ATz:Int)=0 from rfl,h1,ARw,AQo,w1 h3 (by omega),Bp hi hn,h2]) (λb=>by
  unfold Dm HW
  try simp only
  rw[Ew,AQo]) h]
 rfl
theorem nI{a:ASC}(hn:a.length<=1048576){k:Int}(h0:0<=k)(hk:k+(a.length:Int)<=2305843009213693952):Ay (Ij k a) (tT (λ_ _ _=>True) a a.length k):=by
 unfold Ij Qe;have hc:(a.map λ_=>1).sum=a.length:=by rw[fJ];omega
 have:=Xo (f:=DJ) (cost:=λ_=>1) (z:=(0:Int)) (a:=a) (H:=λ_ _ _=>True) (k:=k) 2305843009213693952 (λb i d hi hd hg zH hb=>by
  unfold DJ Iy
  try simp only
  try simp only at hb
  rw[hd,Di hi,AQp,AQr (Bq hi),AQa,w1 zH (by omega),Bp hi hn];exact Ay.mk ⟨b+1,_,rfl,by omega,by omega,trivial⟩) (λb d hd=>by
  unfold DJ Iy
  try simp only
  rw[hd,Ew,AQo]) h0 (by rw[hc];exact hk)
 rw[hc]at this;exact this.bind λr hr=>Ay.mk hr
theorem wD(k:Int)(h1:k<=2305843009213693952):Ay (O6 k) λ_=>True:=by
 unfold O6;refine Ay.cond (λ_=>Ay.mk trivial) λh=>?_;have hk:0<k:=by simpa using h
 refine Ay.bind (P:=λs=>s.size<=100) ?_ λs hs=>?_
 ·unfold Sx;refine BB (λm (x:Int×ByteArray)=>∃j n:Nat,j<=70/\m=70-j/\x.1=(n:Int)/\n*2^j<=2^62/\x.2.size=j) (λm x hI=>?_) 70 _ ⟨0,k.toNat,by omega,rfl,by show k=_;omega,by rw[Nat.pow_zero];omega,rfl⟩;obtain⟨b,c⟩:=x;obtain⟨j,n,hj,rfl,zH,gY,hc⟩:=hI;simp only at zH gY hc;subst zH;unfold KB Qf;simp only;refine Ay.cond (λhb=>?_) λ_=>Ay.mk (by show c.size<=100;omega);have hb:(n:Int)>0:=ASd hb;have hp:1<=2^j:=Nat.one_le_two_pow;have AhG:n*1<=n*2^j:=Nat.mul_le_mul_left _ hp;have hj2:j<=62:=by
   rcases AQk 62 j with h |h
   ·exfalso
    have h2:2^63<=2^j:=Nat.pow_le_pow_right (by omega) (by omega);have h3:1*2^j<=n*2^j:=AQ3 _ (by omega);omega
   ·exact h
  rw[AQr (by show(1:Nat)+c.size<=_;omega)];have hd:Int.tdiv (n:Int) 10=((n/10:Nat):Int):=rfl;rw[hd,BU];refine Ay.mk ⟨70-(j+1),by omega,j+1,n/10,by omega,rfl,rfl,?_,?_⟩
  ·have h4:n/10*2<=n:=by omega
   have h5:=AQ3 (2^j) h4;rw[Nat.pow_succ,Nat.mul_comm (2^j) 2,<-Nat.mul_assoc];omega
  ·show(bytesOf [_]++c).size=j+1;rw[ByteArray.size_append,hc];show 1+j=_;omega
 ·rw[AQr (by show(1:Nat)+s.size<=_;omega)];exact Ay.mk trivial
theorem sk{a:ASG}(hn:a.length<=1048576){k:Int}(h0:0<=k)(hk:k+((2*a.length:Nat):Int)<=2305843009213693952):Ay (M8 k a) (tT (λ_ _ _=>True) a (2*a.length) k):=by
 unfold M8 Ra;have hc:(a.map λ_=>2).sum=2*a.length:=fJ a;have:=Xo (f:=En) (cost:=λ_=>2) (z :=Ab.zero) (a:=a) (H:=λ_ _ _=>True) (k:=k) 2305843009213693952 (λb i d hi hd hg zH hb=>by
  unfold En Jt
  try simp only
  try simp only at hb
  rw[hd,Di hi,AQp];refine(wD b (by omega)).bind λs _=>?_;have YG:i<d.length:=by omega
  simp only[AQi,hd,AQa,gsS YG,ASe];rw[AQr (Bq hi),AQr (Bq hi),w1 zH (by omega),w1 (by omega) (by omega),Bp hi hn];exact Ay.mk ⟨b+1+1,_,rfl,by omega,by omega,trivial⟩) (λb d hd=>by
  unfold En Jt
  try simp only
  rw[hd,Ew,AQo]) h0 (by rw[hc];exact hk)
 rw[hc]at this;exact this.bind λr hr=>Ay.mk hr
def cN(n:ASt):Nat:=5+(gu n).length+(AP n).length
theorem WJ{a:ASJ}(hn:OS a){k:Int}(h0:0<=k)(hk:k+(((a.map cN).sum:Nat):Int)<=2305843009213693952):Ay (D6 k a) (tT (λ_ _ _=>True) a (a.map cN).sum k):=by
 unfold D6 Na;have hl:=hn.1;have:=Xo (f:=C8) (cost:=cN) (z :=Ag.zero) (a:=a) (H:=λ_ _ _=>True) (k:=k) 2305843009213693952 (λb i d hi hd hg zH hb=>by
  unfold C8 GG IG IE ID;simp only;have YG:i<d.length:=by omega
  have vN:YL (a.getD i Ag.zero):=hn.2 _ (AO hi);unfold cN at hb;rw[hd,Di hi,AQp];simp(disch:=omega) only[w1,AQi,hd,AQa,gsS YG,ASe,AQr (Bq hi),AP9,AQq];rw[hg];refine(Zd (a:=gu (a.getD i Ag.zero)) vN.2.1 (by omega) (by omega)).bind λr hr=>?_;obtain⟨r1,r2,_,_⟩:=hr;refine(nI (a:=AP (a.getD i Ag.zero)) vN.1 (by omega) (by omega)).bind λq hq=>?_;obtain⟨q1,q2,_,_⟩:=hq;exact Ay.mk ⟨q.1,_,rfl,by omega,by unfold cN;omega,trivial⟩) (λb d hd=>by
  unfold C8 GG
  try simp only
  rw[hd,Ew,AQo]) h0 hk
 exact this.bind λr hr=>Ay.mk hr
def jT(t:ASJ):Nat:=(t.map cN).sum
def jS(x:ASu):Nat:=2+jT x.2.2.1.1+jT x.2.2.2.1.1
theorem im{a:ASK}(hl:a.length<=1048576)(hn:∀x∈a,MK x){k:Int}(h0:0<=k)(hk:k+(((a.map jS).sum:Nat):Int)<=2305843009213693952):Ay (Iz k a) (tT (λ_ _ _=>True) a (a.map jS).sum k):=by
 unfold Iz M9;have:=Xo (f:=C7) (cost:=jS) (z :=Ah.zero) (a:=a) (H:=λ_ _ _=>True) (k:=k) 2305843009213693952 (λb i d hi hd hg zH hb=>by
  unfold C7 GF IC IB IA;simp only;have YG:i<d.length:=by omega
  have vN:MK (a.getD i Ah.zero):=hn _ (AO hi);unfold jS jT at hb;rw[hd,Di hi,AQp];simp(disch:=omega) only[w1,AQi,hd,AQa,gsS YG,ASe,AQr (Bq hi),AP9,AQq];rw[hg];refine(WJ (a:=(a.getD i Ah.zero).2.2.1.1) vN.1 (by omega) (by omega)).bind λr hr=>?_;obtain⟨r1,r2,_,_⟩:=hr;refine(WJ (a:=(a.getD i Ah.zero).2.2.2.1.1) vN.2 (by omega) (by omega)).bind λq hq=>?_;obtain⟨q1,q2,_,_⟩:=hq;exact Ay.mk ⟨q.1,_,rfl,by omega,by unfold jS jT;omega,trivial⟩) (λb d hd=>by
  unfold C7 GF
  try simp only
  rw[hd,Ew,AQo]) h0 hk
 exact this.bind λr hr=>Ay.mk hr
end Go.Proofs.X
namespace Go.Proofs.X
open Go Go.Va
set_option maxRecDepth 100000
theorem oT{x:Int}(h1:-1<=x)(h2:x<=1048576):Ty.Wf (.int .i64) x:=by
 show IntKind.i64.min<=x/\x<=IntKind.i64.max;have e1:IntKind.i64.min=-9223372036854775808:=rfl;have e2:IntKind.i64.max=9223372036854775807:=rfl;rw[e1,e2];omega
theorem xM{ws:ASC}(h:CQ ws)(hl:ws.length<=1048576):Ty.Wf (.sl (.int .u64)) ws:=by
 refine⟨AQD hl Ad9,λx hx=>?_⟩;have:=h x hx;unfold QG at this;exact⟨this.1,Int.le_of_lt_add_one this.2⟩
theorem XJ{A:Type}{G:A->A->ATP Bool}{a:A}(h:YJ G a):G a a=some true:=by
 obtain⟨r,hr,hq⟩:=h a;rw[hr,hq.2 rfl]
theorem Ac7(n:ASt):cN n=5+wt Ag n:=by
 have e:wt Ag n=wt (.sl (.int .u64)) (gu n)+wt (.sl (.int .i64)) (AP n):=by show 0+(0+(0+(0+((0+(_+0))+(_+0)))))=_;unfold gu AP;omega
 rw[e,AaO,AaN];unfold cN;omega
theorem eM(t:ASJ):jT t<=5*wt (.sl Ag) t:=by
 show(t.map cN).sum<=5*(t.length+(t.map (wt Ag)).sum);induction t with
 |nil=>simp
 |cons n t ih=>simp only[AQU,ARP,AQ4,Ac7];omega
theorem Ac6(l:ASK):(l.map jS).sum<=5*wt (.sl Ah) l:=by
 show _<=5*(l.length+(l.map (wt Ah)).sum);induction l with
 |nil=>simp
 |cons x l ih =>
  have h1:=eM x.2.2.1.1;have h2:=eM x.2.2.2.1.1;have e:wt Ah x=wt (.sl Ag) x.2.2.1.1+wt (.sl Ag) x.2.2.2.1.1:=by show 0+(0+((_+0)+((_+0)+0)))=_;omega
  simp only[AQU,ARP,AQ4,jS];omega
abbrev gI(l:ASC)(i:Nat):Int:=l.getD i ATy.zero
theorem ky{l:ASC}{i j:Nat}{x:Int}(hi:i<l.length):gI (l.set i x) j=if j=i then x else gI l j:=by
 grind
theorem bk{l:ASC}{x:Int}{j:Nat}:gI (l++[x]) j=if j=l.length then x else gI l j:=by
 grind
structure Fo (ld:ASC) (rt dp:Nat->Nat):Prop where
 up:∀a,a<ld.length->∃b,b<ld.length/\gI ld a=(b:Int)/\rt b=rt a/\(b=a/\rt a=a\/dp b<dp a)
 ak:∀a,a<ld.length->rt a<ld.length/\rt (rt a)=rt a/\gI ld (rt a)=(rt a:Int)
 out:∀a,ld.length<=a->rt a=a
theorem Fo.half{ld:ASC}{rt dp:Nat->Nat}(h:Fo ld rt dp){a b c:Nat}(ha:a<ld.length)(hb:b<ld.length)(zD:gI ld a=(b:Int))(MO:b≠a)(hbc:gI ld b=(c:Int)):Fo (ld.set a (c:Int)) rt dp/\rt c=rt a/\dp c<dp a/\c<ld.length:=by
 obtain⟨b',_,e1,r1,d1⟩:=h.up a ha;have:b'=b:=by omega
 subst this;obtain⟨c',hc,e2,r2,d2⟩:=h.up b' hb;have:c'=c:=by omega
 subst this;have hdc:dp c'<dp a:=by grind
 refine⟨⟨λx hx=>?_,λx hx=>?_,λx hx=>?_⟩,by grind,hdc,hc⟩
 ·rw[AQi]at hx⊢;rw[ky ha];by_cases e:x=a
  ·grind
  ·rw[AQs e];exact h.up x hx
 ·rw[AQi]at hx⊢;obtain⟨t1,t2,t3⟩:=h.ak x hx
  grind
 ·rw[AQi]at hx;exact h.out x hx
theorem Fo.add{ld:ASC}{rt dp:Nat->Nat}(h:Fo ld rt dp):Fo (ld++[(ld.length:Int)]) rt dp:=by
 refine⟨λx hx=>?_,λx hx=>?_,λx hx=>?_⟩
 ·rw[AQd,AQt]at hx⊢;rw[bk];by_cases e:x=ld.length
  ·subst e;exact⟨ld.length,by omega,by grind,rfl,.inl ⟨rfl,h.out _ (AQf _)⟩⟩
  ·rw[AQs e];obtain⟨b,hb,e1,r1,d1⟩:=h.up x (by omega);exact⟨b,by omega,e1,r1,d1⟩
 ·rw[AQd,AQt]at hx⊢;by_cases e:x=ld.length
  ·have:=h.out x (by omega)
   grind
  ·obtain⟨t1,t2,t3⟩:=h.ak x (by omega)
   grind
 ·rw[AQd]at hx;exact h.out x (by omega)
def dm(rt:Nat->Nat)(x y a:Nat):Nat:=if rt a=y then x else rt a
theorem Fo.join{ld:ASC}{rt dp:Nat->Nat}(h:Fo ld rt dp){x y:Nat}(hx:x<ld.length)(hy:y<ld.length)(rx:rt x=x)(ry:rt y=y)(MO:x≠y):∃dp',Fo (ld.set y (x:Int)) (dm rt x y) dp':=by
 have gx :=by have:=(h.ak x hx).2.2;rw[rx]at this;exact this
 refine⟨λa=>if rt a=y then dp a+dp x+1 else dp a,⟨λa ha=>?_,λa ha=>?_,λa ha=>?_⟩⟩
 ·rw[AQi]at ha⊢;rw[ky hy];by_cases e:a=y
  ·subst e;refine⟨x,hx,by grind,?_,.inr ?_⟩
   ·simp only[dm,rx,AQV];split<;>rfl
   ·grind
  ·rw[AQs e];obtain⟨b,hb,e1,r1,d1⟩:=h.up a ha;refine⟨b,hb,e1,by simp only[dm,r1],?_⟩;simp only[dm,r1]
   grind
 ·rw[AQi]at ha⊢;obtain⟨t1,t2,t3⟩:=h.ak a ha;by_cases e:rt a=y
  ·have:dm rt x y a=x:=by simp[dm,e]
   rw[this];refine⟨hx,by simp[dm,rx],?_⟩;rw[ky hy,AQs MO];exact gx
  ·have:dm rt x y a=rt a:=by simp[dm,e]
   rw[this];refine⟨t1,by simp[dm,t2,e],?_⟩;rw[ky hy,AQs e];exact t3
 ·rw[AQi]at ha;have:=h.out a ha;simp only[dm,this];rw[QK]
theorem Fo.bY{ld:ASC}{rt dp:Nat->Nat}(h:Fo ld rt dp)(a:Nat):rt (rt a)=rt a:=by
 rcases AQk a _ with ha |ha
 ·exact(h.ak a ha).2.1
 ·rw[h.out a ha,h.out a ha]
theorem dn{rt:Nat->Nat}(hr:∀a,rt (rt a)=rt a){x y:Nat}(rx:rt x=x)(ry:rt y=y)(a b:Nat):dm rt x y a=dm rt x y b↔rt a=rt b\/(rt a=x/\rt b=y)\/(rt a=y/\rt b=x):=by
 simp only[dm];split<;>split<;>omega
def qq(rt:Nat->Nat)(ns n r:Nat)(v:Int):Prop:=(v=-1/\∀j,ns<=j->j<n->rt j≠r)\/∃j:Nat,v=(j:Int)/\ns<=j/\j<n/\rt j=r/\∀i,ns<=i->i<j->rt i≠r
theorem qq.uniq{rt:Nat->Nat}{ns n r:Nat}{v w:Int}(h:qq rt ns n r v)(k:qq rt ns n r w):v=w:=by
 rcases h with ⟨rfl,h⟩|⟨i,rfl,h1,h2,h3,h4⟩<;>rcases k with ⟨rfl,k⟩|⟨j,rfl,k1,k2,k3,k4⟩
 ·rfl
 ·grind
 ·grind
 grind
theorem qq.ge{rt:Nat->Nat}{ns n r:Nat}{v:Int}(h:qq rt ns n r v):-1<=v/\v<(n:Int):=by
 rcases h with ⟨rfl,h⟩|⟨i,rfl,h1,h2,h3,h4⟩<;>omega
theorem qq.join{rt:Nat->Nat}{ns n x y:Nat}{v w:Int}(MO:x≠y)(h:qq rt ns n x v)(k:qq rt ns n y w):qq (dm rt x y) ns n x (if 0<=v/\0<=w then min v w else max v w):=by
 rcases h with ⟨rfl,h⟩|⟨i,rfl,h1,h2,h3,h4⟩<;>rcases k with ⟨rfl,k⟩|⟨j,rfl,k1,k2,k3,k4⟩
 ·refine .inl ⟨rfl,λq q1 q2=>?_⟩;have:=h q q1 q2;have:=k q q1 q2;simp only[dm];split<;>omega
 ·refine .inr ⟨j,by omega,k1,k2,by simp[dm,k3],λq q1 q2=>?_⟩;have:=h q q1 (by omega);have:=k4 q q1 q2;simp only[dm];split<;>omega
 ·refine .inr ⟨i,by omega,h1,h2,by simp only[dm,h3];split<;>rfl,λq q1 q2=>?_⟩;have:=k q q1 (by omega);have:=h4 q q1 q2;simp only[dm];split<;>omega
 ·by_cases zJ:i<=j
  ·refine .inr ⟨i,by omega,h1,h2,by simp only[dm,h3];split<;>rfl,λq q1 q2=>?_⟩;have:=k4 q q1 (by omega);have:=h4 q q1 q2;simp only[dm];split<;>omega
  ·refine .inr ⟨j,by omega,k1,k2,by simp[dm,k3],λq q1 q2=>?_⟩;have:=k4 q q1 q2;have:=h4 q q1 (by omega);simp only[dm];split<;>omega
theorem qq.other{rt:Nat->Nat}{ns n x y r:Nat}{v:Int}(hx:r≠x)(hy:r≠y)(h:qq rt ns n r v):qq (dm rt x y) ns n r v:=by
 have e:∀q,dm rt x y q=r↔rt q=r:=λq=>by simp only[dm];split<;>omega
 rcases h with ⟨rfl,h⟩|⟨i,rfl,h1,h2,h3,h4⟩
 ·exact .inl ⟨rfl,λq q1 q2=>by grind⟩
 ·exact .inr ⟨i,rfl,h1,h2,(e i).2 h3,λq q1 q2=>by grind⟩
theorem qq.add{rt:Nat->Nat}{ns n r:Nat}{v:Int}(hn:rt n=n)(hr:r<n)(h:qq rt ns n r v):qq rt ns (n+1) r v:=by
 rcases h with ⟨rfl,h⟩|⟨i,rfl,h1,h2,h3,h4⟩
 ·refine .inl ⟨rfl,λq q1 q2=>?_⟩
  grind
 ·exact .inr ⟨i,rfl,h1,by omega,h3,h4⟩
inductive Cn (ls:ASH):Int->Int->Prop
 |refl (a:Int):Cn ls a a
 |gX {a:Int} {l:ASr}:l∈ls->Cn ls a l.1->Cn ls a l.2.1
 |bwd {a:Int} {l:ASr}:l∈ls->Cn ls a l.2.1->Cn ls a l.1
theorem Cn.trans{ls:ASH}{a b c:Int}(h:Cn ls a b)(k:Cn ls b c):Cn ls a c:=by
 induction k with
 |refl=>grind
 |gX m _ ih=>exact .gX m ih
 |bwd m _ ih=>exact .bwd m ih
theorem Cn.symm{ls:ASH}{a b:Int}(h:Cn ls a b):Cn ls b a:=by
 induction h with
 |refl=>exact .refl _
 |gX m _ ih=>exact(Cn.bwd m (.refl _)).trans ih
 |bwd m _ ih=>exact(Cn.gX m (.refl _)).trans ih
theorem Cn.mono{ls ms:ASH}(hm:∀l∈ls,l∈ms){a b:Int}(h:Cn ls a b):Cn ms a b:=by
 induction h with
 |refl=>exact .refl _
 |gX m _ ih=>exact .gX (hm _ m) ih
 |bwd m _ ih=>exact .bwd (hm _ m) ih
theorem ru{ld:ASC}{rt dp:Nat->Nat}(h:Fo ld rt dp){j:Nat}(hj:j<ld.length)(a:Int)(fx:ASC)(vm:ATO ASV)(ls:ASH) :
    Ay (G0 a (j:Int) ld fx vm ls) λr=>∃gn,r=(((rt j:Nat):Int),gn,fx,vm,ls)/\gn.length=ld.length/\Fo gn rt dp:=by
 refine Ay.bind (P:=λq =>∃gn,q=(((rt j):Int),gn)/\gn.length=ld.length/\Fo gn rt dp) ?_ λq hq=>?_
 ·refine BB (λm s=>∃k:Nat,s.1=(k:Int)/\k<s.2.length/\s.2.length=ld.length/\Fo s.2 rt dp/\rt k=rt j/\m=dp k) (λm s hI=>?_) _ _ ⟨j,rfl,hj,rfl,h,rfl,rfl⟩;obtain⟨k,e,hk,hl,hf,hr,rfl⟩:=hI;obtain⟨g,l⟩:=s;subst e;unfold HQ LO;simp only[AQa];obtain⟨b,hb,e1,r1,d1⟩:=hf.up k hk;obtain⟨c,hc,e2,r2,d2⟩:=hf.up b hb;have g1:l.getD k _=b:=e1;have g2 :=e2;rw[AQr (Bq hk),g1];by_cases hbk:b=k
  ·subst hbk;rw[ARw];exact Ay.mk ⟨l,by grind,hl,hf⟩
  ·have MO:((b) !=(k:Int))=true:=by grind
   obtain⟨f1,f2,f3,f4⟩:=hf.half hk hb e1 hbk e2;have g3:(l.set k c).getD k ATy.zero=c:=by grind
   simp only[AQa,g2,g3,MO,AQi,AQr (Bq hk),AQr (Bq hb)];exact Ay.mk ⟨dp c,f3,c,rfl,by grind,by grind,f1,by grind,rfl⟩
 ·obtain⟨gn,rfl,h1,h2⟩:=hq;exact Ay.mk ⟨gn,rfl,h1,h2⟩
theorem kp{rt:Nat->Nat}{ns:Nat}{vs:ASL}{Bi:ASC}(hv:vs.length=Bi.length)(hl:∀i j,i<Bi.length->j<Bi.length->(gI Bi i=gI Bi j↔rt i=rt j))(hw:∀i,i<Bi.length->((vs.getD i Ai.zero).1>0↔ns<=i))(hn:Bi.length<=4194304){b:Nat}(hb:b<Bi.length)(a:Int)(ls:ASH) :
    Ay (Hf a (b:Int) vs ls Bi) λr=>∃v,r=(v,vs,ls,Bi)/\qq rt ns Bi.length (rt b) v:=by
 refine Ay.bind (P:=λq:Int⊕Unit=>(∃v,q=.inl v/\qq rt ns Bi.length (rt b) v)\/(q=.inr ()/\qq rt ns Bi.length (rt b) (-1))) ?_ λq hq=>?_
 ·refine BB (λm (s:Int)=>∃k:Nat,s=(k:Int)/\k<=Bi.length/\m=Bi.length-k/\∀i,ns<=i->i<k->rt i≠rt b) (λm s hI=>?_) Bi.length 0 ⟨0,rfl,AQW _,rfl,λi _ h=>absurd h (by omega)⟩;obtain⟨k,rfl,hk,rfl,ah⟩:=hI;unfold HY LQ Jx;rcases AQk k Bi.length with Bw |ag
  ·rw[Di Bw,AQp];simp only[AQa];rw[AQr (Bq Bw),AQr (Bq hb)];have hE:=hl k b Bw hb;have Aoa:(∀i,ns<=i->i<k+1->rt i≠rt b)->∃m,m<Bi.length-k/\∃k':Nat,wI ((k:Int)+1)=(k':Int)/\k'<=Bi.length/\m=Bi.length-k'/\∀i,ns<=i->i<k'->rt i≠rt b:=λhn' =>
    ⟨Bi.length-(k+1),by omega,k+1,A6,by omega,rfl,hn'⟩
   by_cases e:gI Bi k=gI Bi b
   ·have e':(Bi.getD k ATy.zero==Bi.getD b ATy.zero)=true:=by grind
    rw[e',AQp,AQr (show(0:Int)<=(k:Int)/\(k:Int)<(vs.length:Int) by omega),AP9];by_cases hp:ns<=k
    ·rw[AQe ((hw k Bw).2 hp)];exact Ay.mk (.inl ⟨k,rfl,.inr ⟨k,rfl,hp,Bw,hE.1 e,λi h1 h2=>ah i h1 h2⟩⟩)
    ·rw[AQc λx=>hp ((hw k Bw).1 x)];exact Ay.mk (Aoa λi h1 h2=>by
      grind)
   ·have e':(Bi.getD k ATy.zero==Bi.getD b ATy.zero)=false:=by grind
    rw[e',AQo,AP9];exact Ay.mk (Aoa λi h1 h2=>by
     grind)
  ·have:k=Bi.length:=by omega
   subst this;rw[Ew];exact Ay.mk (.inr ⟨rfl,.inl ⟨rfl,λj h1 h2=>ah j h1 h2⟩⟩)
 ·rcases hq with ⟨v,rfl,hv⟩|⟨rfl,hv⟩
  ·exact Ay.mk ⟨v,rfl,hv⟩
  ·exact Ay.mk ⟨-1,rfl,hv⟩
theorem wF{Bi:ASC}{i j:Nat}(hi:i<Bi.length)(hj:j<Bi.length)(hn:Bi.length<=4194304) :
    K0 (i:Int) (j:Int) Bi=some (Bi.map λx=>if x=max (gI Bi i) (gI Bi j)then min (gI Bi i) (gI Bi j)else x):=by
 unfold K0;simp only[AQa];rw[AQr (Bq hi),AQr (Bq hj),AQr (Bq hi),AQr (Bq hj)];generalize hx:(if Bi.getD j ATy.zero<Bi.getD i ATy.zero then Bi.getD j ATy.zero else Bi.getD i ATy.zero)=x;generalize hy:(if Bi.getD j ATy.zero>Bi.getD i ATy.zero then Bi.getD j ATy.zero else Bi.getD i ATy.zero)=y;have vW:x=min (gI Bi i) (gI Bi j):=by rw[<-hx];unfold gI;split<;>omega
 have iP:y=max (gI Bi i) (gI Bi j):=by rw[<-hy];unfold gI;split<;>omega
 rw[<-vW,<-iP];unfold Uy;have:=AW (f:=Gf x y) (λk=>((k:Int),(Bi.take k).map (λz=>if z=y then x else z)++Bi.drop k)) (t:=Bi.map λz=>if z=y then x else z) Bi.length (λk hk=>?_) ?_
 ·simp only[AR2,ARz,ARg,ASf]at this;exact(congrArg (λo=>Option.bind o λc=>some c) this).trans rfl
 ·unfold Gf MJ P2;have hlen:((Bi.take k).map (λz=>if z=y then x else z)++Bi.drop k).length=Bi.length:=by simp;omega
  have hg:((Bi.take k).map (λz=>if z=y then x else z)++Bi.drop k).getD k ATy.zero=Bi.getD k ATy.zero:=by
   have:((Bi.take k).map (λz=>if z=y then x else z)).length=k:=by simp;omega
   rw[List.getD_eq_getElem?_getD,AQv (by omega),this,ARV,AR9,AR3,List.getD_eq_getElem?_getD]
  have hs:∀v,((Bi.take k).map (λz=>if z=y then x else z)++Bi.drop k).set k v=(Bi.take k).map (λz=>if z=y then x else z)++v::Bi.drop (k+1):=λv=>by
   have h1:((Bi.take k).map (λz=>if z=y then x else z)).length=k:=by simp;omega
   rw[ARN hk,ARy _ _ (by omega),h1,ARV,List.set_cons_zero]
  have ht:∀v,v=(if Bi.getD k ATy.zero=y then x else Bi.getD k ATy.zero)->(Bi.take k).map (λz=>if z=y then x else z)++v::Bi.drop (k+1)=(Bi.take (k+1)).map (λz=>if z=y then x else z)++Bi.drop (k+1):=λv hv=>by
   have e:Bi.getD k ATy.zero=Bi[k]:=by simp[List.getD,hk]
   rw[AQ5 hk,AQT,hv,e];simp
  simp only[AQa,hlen];rw[Di hk,AQp,AQr (Bq hk),hg];by_cases e:Bi.getD k ATy.zero=y
  ·have e':(Bi.getD k ATy.zero==y)=true:=by rw[ARd];exact e
   rw[e',AQp,AQr (Bq hk),AP9,hs,ht x (by rw[AQr e])];rw[A6 (n:=k+1)]
  ·have e':(Bi.getD k ATy.zero==y)=false:=by rw[beq_eq_false_iff_ne];exact e
   have Y6:(Bi.take k).map (λz=>if z=y then x else z)++Bi.drop k=(Bi.take (k+1)).map (λz=>if z=y then x else z)++Bi.drop (k+1):=by
    rw[<-ht (Bi.getD k ATy.zero) (by rw[AQs e]),ARN hk];simp[List.getD,hk]
   rw[e',AQo,AP9,Y6,A6 (n:=k+1)]
 ·unfold Gf MJ;simp only[AR5,List.drop_length,AQO,AQl];rw[Ew,AQo]
theorem zX(x y:Int):Bm ATy x y=true↔x=y:=by simp[Bm]
theorem oX(x:Int):Bm ATy x x=true:=(zX x x).2 rfl
theorem SA{vt:Ty}(k k':Int)(v:vt.V)(es:ATO (Int×vt.V)):BA ATy vt (Cs ATy vt es k v) k'=if k'=k then v else BA ATy vt es k':=by
 have h:=ft (kt:=.int .i64)  zX k k' v es;refine h.trans ?_;by_cases e:k'=k
 ·rw[AQr e,(zX _ _).2 e];rfl
 ·rw[AQs e,show Bm ATy k' k=false from Bool.eq_false_iff.2 λx=>e ((zX _ _).1 x)];rfl
theorem Xp{vt:Ty}(k k':Int)(v:vt.V)(es:ATO (Int×vt.V)):Ul ATy vt (Cs ATy vt es k v) k'=(decide (k'=k)||Ul ATy vt es k'):=by
 have h:=XX (kt:=.int .i64)  zX k k' v es;unfold Ul;rw[h];by_cases e:k'=k
 ·rw[AQe e,(zX _ _).2 e];rfl
 ·rw[AQc e,show Bm ATy k' k=false from Bool.eq_false_iff.2 λx=>e ((zX _ _).1 x)];rfl
abbrev LM:Type:=List AS0
abbrev pz(c:LM)(x:Int):ASH:=BA ATy ATH c x
def ze(c:LM)(k:Int)(y:ASr):LM:=Cs ATy ATH c k (pz c k++[y])
theorem QN{c:LM}{k x:Int}{y e:ASr}:e∈pz (ze c k y) x↔e∈pz c x\/(x=k/\e=y):=by
 unfold pz ze;rw[SA ]
 grind
theorem jw{c:LM}{k x:Int}{y:ASr}:(pz (ze c k y) x).length<=(pz c x).length+1:=by
 unfold pz ze;rw[SA ]
 grind
structure Bsd (v:ASH) (N k:Nat) (c:LM):Prop where
 A5:∀x e,e∈pz c x->e.1=x/\0<=e.2.1/\e.2.1<(N:Int)
 all:∀q,q<k->(∃e∈pz c (v.getD q Ae.zero).1,e.2.1=(v.getD q Ae.zero).2.1)/\∃e∈pz c (v.getD q Ae.zero).2.1,e.2.1=(v.getD q Ae.zero).1
 len:∀x,(pz c x).length<=2*k
theorem AcT{v:ASH}{N:Nat}(hv:v.length<=4194304)(hb:∀l∈v,(0<=l.1/\l.1<(N:Int))/\0<=l.2.1/\l.2.1<(N:Int))(a g:Int):Ay (WG a g v (v.length:Int) 0 []) (Bsd v N v.length):=by
 refine BB (λm (s:Int×LM)=>∃k:Nat,s.1=(k:Int)/\k<=v.length/\m=v.length-k/\Bsd v N k s.2) (λm s hI=>?_) v.length (0,[]) ⟨0,rfl,AQW _,rfl,⟨λx e h=>(by cases h),λq h=>(by omega),λx=>AQf _⟩⟩;obtain⟨k,e,hk,rfl,hB⟩:=hI;obtain⟨x,c⟩:=s;simp only at e hB;subst e;unfold Ps Ue;simp only[AQa];rcases AQk k v.length with Bw |ag
 ·rw[Di Bw,AQp,AQr (Bq Bw)];generalize hl:v.getD k Ae.zero=l;have hm:l∈v:=by grind
  obtain⟨hA,hB'⟩:=hb l hm;unfold S9 Ta;have l1:=hB.len l.1;have l2:=jw (c:=c) (k:=l.1) (x:=l.2.1) (y:=l);have l3:=hB.len l.2.1;rw[AQr (show((BA ATy ATH c l.1).length+([l]:ASH).length)*24<=140737488355328 by grind),oX,AQp,AP9];rw[AQr (show((BA ATy ATH (Cs ATy ATH c l.1 (BA ATy ATH c l.1++[l])) l.2.1).length+([(l.2.1,l.1,l.2.2.1,())]:ASH).length)*24<=140737488355328 by
   rw[AQt];have:(BA ATy ATH (Cs ATy ATH c l.1 (BA ATy ATH c l.1++[l])) l.2.1).length<=(pz c l.2.1).length+1:=l2;omega),oX,AQp]
  refine Ay.mk ⟨v.length-(k+1),by omega,k+1,A6,by omega,rfl,?_⟩;show Bsd v N (k+1) (ze (ze c l.1 l) l.2.1 (l.2.1,l.1,l.2.2.1,()));refine⟨λx e h=>?_,λq hq=>?_,λx=>?_⟩
  ·rcases QN.1 h with h |⟨rfl,rfl⟩
   ·rcases QN.1 h with h |⟨rfl,rfl⟩
    ·exact hB.A5 x e h
    ·grind
   ·grind
  ·by_cases e:q=k
   ·subst e;rw[hl];exact⟨⟨l,QN.2 (.inl (QN.2 (.inr ⟨rfl,rfl⟩))),rfl⟩,⟨_,QN.2 (.inr ⟨rfl,rfl⟩),rfl⟩⟩
   ·obtain⟨⟨e1,h1,h2⟩,e2,h3,h4⟩:=hB.all q (by omega);exact⟨⟨e1,QN.2 (.inl (QN.2 (.inl h1))),h2⟩,e2,QN.2 (.inl (QN.2 (.inl h3))),h4⟩
  ·have a1:=jw (c:=ze c l.1 l) (k:=l.2.1) (x:=x) (y:=(l.2.1,l.1,l.2.2.1,()));have a2:=jw (c:=c) (k:=l.1) (x:=x) (y:=l);have a3:=hB.len x;omega
 ·have:k=v.length:=by omega
  subst this;rw[Ew];exact Ay.mk hB
theorem pH:∀(N:Nat) (l:ASC),l.Nodup->(∀x∈l,0<=x/\x<(N:Int))->l.length<=N
 |0,l,_,h=>by
  cases l with
  |nil=>grind
  |cons x l=>have:=h x AQE;omega
 |N+1,l,hn,h=>by
  have:=pH N (l.erase N) (hn.erase _) λx hx=>by
   grind
  grind
abbrev FMp:Type:=List AS4
abbrev hsF(t:FMp)(x:Int):Bool:=Ul ATy Ae t x
abbrev mgF(t:FMp)(x:Int):ASr:=BA ATy Ae t x
structure Met (N:Nat) (a:Int) (t:FMp) (ms:ASC):Prop where
 nd:ms.Nodup
 bd:∀x∈ms,0<=x/\x<(N:Int)
 fst:gI ms 0=a/\0<ms.length
 has:∀x,hsF t x=true↔x∈ms
 back:∀k,1<=k->k<ms.length->∃k',k'<k/\(mgF t (gI ms k)).1=gI ms k'
theorem Met.len{N:Nat}{a:Int}{t:FMp}{ms:ASC}(h:Met N a t ms):ms.length<=N:=pH N ms h.nd h.bd
theorem Met.add{N:Nat}{a:Int}{t:FMp}{ms:ASC}(h:Met N a t ms){e:ASr}(he:0<=e.2.1/\e.2.1<(N:Int))(ah:hsF t e.2.1=false){p:Nat}(hp:p<ms.length)(h1:e.1=gI ms p):Met N a (Cs ATy Ae t e.2.1 e) (ms++[e.2.1]):=by
 have hnm:e.2.1∉ms:=λx=>by rw[(h.has _).2 x]at ah;cases ah
 have hg:∀k,k<ms.length->gI (ms++[e.2.1]) k=gI ms k:=λk hk=>by grind
 refine⟨?_,λx hx=>?_,⟨?_,by simp⟩,λx=>?_,λk k1 k2=>?_⟩
 ·rw[ASc];exact⟨h.nd,by simp,λx hx y hy e'=>by grind⟩
 ·rcases List.mem_append.1 hx with hx |hx
  ·exact h.bd x hx
  grind
 ·rw[hg 0 h.fst.2];exact h.fst.1
 ·unfold hsF;rw[Xp (vt:=Ae),ARr,ARY,ARD,AQA,<-h.has x];exact Or.comm
 ·rw[AQd,AQt]at k2;unfold mgF;by_cases hk:k=ms.length
  ·subst hk;have e1:gI (ms++[e.2.1]) ms.length=e.2.1:=by grind
   exact⟨p,hp,by rw[e1,SA (vt:=Ae),AQr rfl,hg p hp];exact h1⟩
  ·obtain⟨k',h2,h3⟩:=h.back k k1 (by omega);refine⟨k',h2,?_⟩;have MO:gI ms k≠e.2.1:=λx=>hnm (by grind);rw[hg k (by omega),hg k' (by omega),SA (vt:=Ae),AQs MO];exact h3
structure ABN (N:Nat) (a:Int) (c:LM) (p:Nat) (t:FMp) (u ms:ASC):Prop where
 met:Met N a t ms
 le:p<=ms.length
 todo:u=ms.drop p
 done:∀q,q<p->∀e∈pz c (gI ms q),e.2.1∈ms
theorem Aij{N p:Nat}{a g:Int}{c:LM}{v:ASH}(hN:N<=4194304)(hB:Bsd v N v.length c)(hv:v.length<=4194304){t:FMp}{ms:ASC}(hM:Met N a t ms)(hp:p<ms.length)(hd:∀q,q<p->∀e∈pz c (gI ms q),e.2.1∈ms) :
    Ay (WH a g c (pz c (gI ms p)) ((pz c (gI ms p)).length:Int) 0 t (ms.drop (p+1))) λr=>∃sr,ABN N a c (p+1) r.1 r.2 sr:=by
 generalize hj:pz c (gI ms p)=j;have aA:j.length<=2*v.length:=by rw[<-hj];exact hB.len _
 refine BB (λm (s:Int×FMp×ASC)=>∃(n:Nat) (sr:ASC),s.1=(n:Int)/\n<=j.length/\m=j.length-n/\Met N a s.2.1 sr/\p<sr.length/\gI sr p=gI ms p/\s.2.2=sr.drop (p+1)/\(∀q,q<p->∀e∈pz c (gI sr q),e.2.1∈sr)/\∀q,q<n->(j.getD q Ae.zero).2.1∈sr) (λm s hI=>?_) j.length (0,t,ms.drop (p+1)) ⟨0,ms,rfl,AQW _,rfl,hM,hp,rfl,rfl,hd,λq h=>by omega⟩;obtain⟨n,sr,e1,hn,rfl,hM',hp',hgp,e2,hd',zF⟩:=hI;obtain⟨x,t',u'⟩:=s;subst e1;subst e2;unfold Pu Uf;have hml:=hM'.len;rcases AQk n j.length with Bw |ag
 ·rw[Di Bw];unfold Tb;simp only[AQa];rw[AQr (Bq Bw)];generalize he:j.getD n Ae.zero=e;have hm:e∈pz c (gI ms p):=by grind
  obtain⟨b1,b2⟩:=hB.A5 _ _ hm;have hw:wI ((n:Int)+1)=((n+1:Nat):Int):=A6;cases hh:Ul ATy Ae t' e.2.1 with
  |true =>
   refine Ay.mk ⟨j.length-(n+1),by omega,n+1,sr,hw,by omega,rfl,hM',hp',hgp,rfl,hd',λq hq=>?_⟩;by_cases h:q=n
   ·subst h;rw[he];exact(hM'.has _).1 hh
   ·grind
  |false =>
   simp only[ARu,AQp];rw[AQe (show((sr.drop (p+1)).length+([e.2.1]:ASC).length)*8<=140737488355328 by grind),AQp];have hg:∀k,k<sr.length->gI (sr++[e.2.1]) k=gI sr k:=λk hk=>by grind
   refine Ay.mk ⟨j.length-(n+1),by omega,n+1,sr++[e.2.1],hw,by omega,rfl,hM'.add b2 hh hp' (by grind),by grind,by grind,?_,λq hq e' he'=>?_,λq hq=>?_⟩
   ·grind
   ·grind
   ·by_cases h:q=n
    ·subst h;rw[he];simp
    ·exact AQH _ (zF q (by omega))
 ·have:n=j.length:=by omega
  subst this;rw[Ew];refine Ay.mk ⟨sr,hM',by omega,rfl,λq hq e he=>?_⟩;by_cases h:q=p
  ·subst h;rw[hgp,hj]at he;obtain⟨i,hi,h2⟩:=List.mem_iff_getElem.1 he;have:=zF i hi;rwa [show j.getD i Ae.zero=e by rw[<-h2];simp[hi]]at this
  ·grind
theorem Ad2{N:Nat}{a g:Int}{c:LM}{v:ASH}(hN:N<=4194304)(hB:Bsd v N v.length c)(hv:v.length<=4194304)(ha:0<=a/\a<(N:Int)) :
    Ay (WI a g c (Cs ATy Ae ([]:FMp) a (a,a,0,())) [a]) λt=>∃ms,Met N a t ms/\∀q,q<ms.length->∀e∈pz c (gI ms q),e.2.1∈ms:=by
 have h0:Met N a (Cs ATy _ [] a (a,a,0,())) [a]:=by
  refine⟨by simp,λx hx=>by grind,⟨rfl,by simp⟩,λx=>?_,λk k1 k2=>by grind⟩;unfold hsF;rw[Xp ];simp[Ul,O9]
 refine BB (λm s=>∃p ms,ABN N a c p s.1 s.2 ms/\m=N-p) (λm s hI=>?_) N _ ⟨0,[a],⟨h0,by simp,rfl,λq h=>by omega⟩,rfl⟩;obtain⟨p,ms,hS,rfl⟩:=hI;obtain⟨t,u⟩:=s;have hu :=hS.todo;subst hu;unfold Pv Ug;rcases AQk p ms.length with Bw |ag
 ·have hlen:(ms.drop p).length=ms.length-p:=AQJ;rw[AQe (show((ms.drop p).length:Int)>0 by omega),AQe (show 1<=((ms.drop p).length:Int) by omega)];have e0:(ms.drop p).getD 0 ATy.zero=gI ms p:=by grind
  have e1:(ms.drop p).drop 1=ms.drop (p+1):=by rw[List.drop_drop]
  rw[e0,e1];refine(Aij  hN hB hv hS.met Bw hS.done).bind λr hr=>?_;obtain⟨sr,hS'⟩:=hr;have:=hS'.le;have:=hS'.met.len;exact Ay.mk ⟨N-(p+1),by omega,p+1,sr,hS',rfl⟩
 ·have:p=ms.length:=by have:=hS.le;omega
  subst this;rw[AQc (by simp)];exact Ay.mk ⟨ms,hS.met,hS.done⟩
theorem AwK{v:ASH}{N:Nat}(hN:N<=4194304)(hv:v.length<=4194304)(hb:∀l∈v,(0<=l.1/\l.1<(N:Int))/\0<=l.2.1/\l.2.1<(N:Int)){a g:Int}(ha:0<=a/\a<(N:Int))(MO:g≠a)(hc:Cn v a g):Ay (XT v a g) λr=>r≠[]:=by
 refine(AcT hv hb a g).bind λc hB=>?_;refine(Ad2 (g:=g) hN hB hv ha).bind λt ht=>?_;obtain⟨ms,hM,OC⟩:=ht;have hml:=hM.len;have rJ:∀{x},x∈ms->∃k,k<ms.length/\gI ms k=x:=λ{x} hx=>by
  obtain⟨k,hk,e⟩:=List.mem_iff_getElem.1 hx;exact⟨k,hk,by grind⟩
 have Gh:∀{x},Cn v a x->x∈ms:=λ{x} h=>by
  induction h with
  |refl=>rw[<-hM.fst.1];exact AO hM.fst.2
  |gX hl _ ih =>
   obtain⟨k,hk,e⟩:=rJ ih;obtain⟨q,hq,e2⟩:=List.mem_iff_getElem.1 hl;obtain⟨⟨x,x1,x2⟩,_⟩:=hB.all q hq
   grind
  |bwd hl _ ih =>
   obtain⟨k,hk,e⟩:=rJ ih;obtain⟨q,hq,e2⟩:=List.mem_iff_getElem.1 hl;obtain⟨_,⟨x,x1,x2⟩⟩:=hB.all q hq
   grind
 obtain⟨k0,hk0,e0⟩:=rJ (Gh hc);refine Ay.bind (P:=λe:ASC=>e≠[]/\e.length<=N) ?_ λe he=>?_
 ·refine BB (λm (s:Int×ASC)=>∃k,k<ms.length/\gI ms k=s.1/\m=k/\s.2.length+k<=k0/\(s.1=g/\s.2=[]\/s.2≠[])) (λm s hI=>?_) k0 (g,[]) ⟨k0,hk0,e0,rfl,by simp,.inl ⟨rfl,rfl⟩⟩;obtain⟨k,hk,e1,hm,hlen,BX⟩:=hI;rw[hm];obtain⟨x,e⟩:=s;simp only at e1 hlen BX;unfold Px Uh;simp only;by_cases hxa:x=a
  ·subst hxa;rw[ARw];rcases BX with ⟨h,_⟩|h
   ·grind
   ·exact Ay.mk ⟨h,by omega⟩
  ·rw[show(x !=a)=true by grind,AQr (by rw[AQt];omega)];have k1:1<=k:=by
    rcases AQx k with h |h
    ·subst h;rw[hM.fst.1]at e1;exact(hxa e1.symm).elim
    ·omega
   obtain⟨k',h1,h2⟩:=hM.back k k1 hk;rw[e1]at h2;exact Ay.mk ⟨k',h1,k',by omega,h2.symm,rfl,by rw[AQd,AQt];omega,.inr (by simp)⟩
 ·rw[WA];refine Ay.mk λx=>?_;obtain⟨y,hy⟩:=List.exists_mem_of_ne_nil _ he.1;have:=((gK e).2 y).2 hy;rw[x]at this;cases this
abbrev lk(ls:ASH)(k:Nat):ASr:=ls.getD k Ae.zero
abbrev us(q:ASD)(k:Nat):Bool:=q.getD k (Ty.zero .bool)
theorem AjR{q:ASD}{k j:Nat}(hk:k<q.length):us (q.set k true) j=if j=k then true else us q j:=by
 grind
def Tch(ls:ASH)(k:Nat)(x:Int):Prop:=(lk ls k).1=x\/(lk ls k).2.1=x
def Cl(ls:ASH)(q:ASD)(x:Int):Prop:=∀k,k<ls.length->Tch ls k x->us q k=true
def nu(n:Nat)(q:ASD):Nat:=(List.range n).countP λk=>!us q k
def Mo(q q':ASD):Prop:=∀k,us q k=true->us q' k=true
theorem Mo.nu{n:Nat}{q q':ASD}(h:Mo q q'):nu n q'<=nu n q:=List.countP_mono_left λk _ hk=>by
 cases hq:us q k with
 |false=>grind
 |true=>rw[h k hq]at hk;cases hk
theorem Cl.mono{ls:ASH}{q q':ASD}(h:Mo q q'){x:Int}(hc:Cl ls q x):Cl ls q' x:=λk h1 h2=>h k (hc k h1 h2)
theorem Awp{q:ASD}{k:Nat}(hk:k<q.length):Mo q (q.set k true):=λj hj=>by grind
theorem Awt{n:Nat}{q:ASD}{k:Nat}(hk:k<q.length)(hn:k<n)(hu:us q k=false):nu n (q.set k true)+1<=nu n q :=
 eO (λj hj=>by
  grind) (List.mem_range.2 hn) (by grind) (by grind)
def yZ(ls:ASH)(q q':ASD)(P:Int->Prop):Prop:=∀k,k<ls.length->us q' k=true->us q k=false->∀x,Tch ls k x->P x
structure AIO (ls:ASH) (q:ASD) (b c:Int) (r:Bool×ASD×ASC):Prop where
 len:r.2.1.length=q.length
 mo:Mo q r.2.1
 yes:r.1=true->(b≠c->r.2.2≠[])/\r.2.2.length<=nu ls.length q
 no:r.1=false->b≠c/\Cl ls r.2.1 b/\yZ ls q r.2.1 λx=>x≠c/\Cl ls r.2.1 x
theorem Acm{ls:ASH}(hl:ls.length<=4194304)(hb:∀k,k<ls.length->((0:Int)<=(lk ls k).1/\(4194304:Int)>(lk ls k).1)/\(0:Int)<=(lk ls k).2.1/\(4194304:Int)>(lk ls k).2.1)(c:Int) :
    ∀(n:Nat) (b:Int) (q:ASD),q.length=ls.length->(0<=b/\b<4194304)->nu ls.length q<n->Ay (IZ n ls b c q) (AIO ls q b c)
 |0,b,q,_,_,h=>by omega
 |n+1,b,q,hq,hbb,hn=>by
  show Ay (RN (IZ n) ls b c q) _;unfold RN;by_cases hbc:b=c
  ·subst hbc;rw[ASi,AQp];exact Ay.mk ⟨rfl,λ_ h=>h,λ_=>⟨λh=>(h rfl).elim,AQW _⟩,λh=>by cases h⟩
  rw[show(b==c)=false by rw[beq_eq_false_iff_ne];exact hbc,AQo];refine Ay.bind (P:=λt:AS6⊕ASD=>(∃q' w,t=.inl (q',w)/\q'.length=q.length/\Mo q q'/\w≠[]/\w.length<=nu ls.length q)\/∃q',t=.inr q'/\q'.length=q.length/\Mo q q'/\Cl ls q' b/\yZ ls q q' λx=>x≠c/\Cl ls q' x) ?_ λt ht=>?_
  ·unfold WS;refine BB (λm (s:Int×ASD)=>∃k:Nat,s.1=(k:Int)/\k<=ls.length/\m=ls.length-k/\s.2.length=q.length/\Mo q s.2/\(∀j,j<k->Tch ls j b->us s.2 j=true)/\yZ ls q s.2 λx=>x=b\/x≠c/\Cl ls s.2 x) (λm s hI=>?_) ls.length (0,q) ⟨0,rfl,AQW _,rfl,rfl,λ_ h=>h,λj h=>by omega,λk _ h1 h2=>by rw[h1]at h2;cases h2⟩;obtain⟨k,e,hk,rfl,hlen,hmo,fX,AbR⟩:=hI;obtain⟨g,u⟩:=s;simp only at e hlen hmo fX AbR;subst e;unfold P3 Uz;simp only;rcases AQk k ls.length with Bw |ag
   ·rw[Di Bw,AQp];have hku:k<u.length:=by omega
    have hw:wI ((k:Int)+1)=((k+1:Nat):Int):=A6;obtain⟨⟨a1,a2⟩,a3,a4⟩:=hb k Bw;have skip:(us u k=true\/¬Tch ls k b)->∃m,m<ls.length-k/\∃k':Nat,((k+1:Nat):Int)=(k':Int)/\k'<=ls.length/\m=ls.length-k'/\u.length=q.length/\Mo q u/\(∀j,j<k'->Tch ls j b->us u j=true)/\yZ ls q u λx=>x=b\/x≠c/\Cl ls u x:=λh =>
     ⟨ls.length-(k+1),by omega,k+1,rfl,by omega,rfl,hlen,hmo,λj hj ht=>by
      by_cases e:j=k
      ·subst e;rcases h with h |h
       ·exact h
       ·exact(h ht).elim
      ·exact fX j (by omega) ht,AbR⟩
    unfold Tk Tj;simp only[AQa];rw[AQr (Bq hku)];cases hu:us u k with
    |true =>
     rw[show u.getD k (Ty.zero .bool)=true from hu,AQp,AP9,ARq,AP9,ARq,hw];exact Ay.mk (skip (.inl hu))
    |false =>
     rw[show u.getD k (Ty.zero .bool)=false from hu,AQo];simp only[AQr (Bq Bw)];have take:∀nx:Int,wI (wI ((lk ls k).1+(lk ls k).2.1)-b)=nx->(0<=nx/\nx<4194304)->(∀x,Tch ls k x->x=b\/x=nx)->Tch ls k b ->
         Ay ((if(0:Int)<=(k:Int)/\(k:Int)<(u.length:Int)then
          (IZ n ls (wI (wI ((lk ls k).1+(lk ls k).2.1)-b)) c (u.set k true)).bind λo =>
           bif o.1 then
           if(([(lk ls k).2.2.1]:ASC).length+o.2.2.length)*8<=140737488355328 then
           some (Sum.inr (o.2.1,(([(lk ls k).2.2.1]:ASC)++o.2.2)))
           else none
           else some (Sum.inl o.2.1)
          else none:ATP (ASD⊕AS6))) λt=>(∃q' w,t=.inr (q',w)/\q'.length=q.length/\Mo q q'/\w≠[]/\w.length<=nu ls.length q)\/∃q',t=.inl q'/\q'.length=q.length/\Mo q q'/\(∀j,j<k+1->Tch ls j b->us q' j=true)/\yZ ls q q' λx=>x=b\/x≠c/\Cl ls q' x:=λnx hnx vN AhN htb=>by
      rw[AQr (Bq hku),hnx];have h1:=Awt (n:=ls.length) hku Bw hu;have h2:=hmo.nu (n:=ls.length);have UB:=Awp hku;refine(Acm hl hb c n nx (u.set k true) (by rw[AQi];omega) vN (by omega)).bind λo ho=>?_;obtain⟨b1,⟨q2,w⟩⟩:=o;obtain⟨o1,o2,o3,o4⟩:=ho;simp only at o1 o2 o3 o4⊢;rw[AQi]at o1;have S6:Mo q q2:=λj hj=>o2 j (UB j (hmo j hj));cases b1 with
      |true =>
       have h3:=(o3 rfl).2;have h4:nu ls.length q<=ls.length:=by unfold nu;exact AQD List.countP_le_length (by rw[AQQ];exact AQf _)
       rw[AQp,AQr (by rw[AQt];omega)];exact Ay.mk (.inl ⟨q2,_,rfl,by omega,S6,by simp,by rw[AQd,AQt];omega⟩)
      |false =>
       rw[AQo];obtain⟨p1,p2,p3⟩:=o4 rfl;refine Ay.mk (.inr ⟨q2,rfl,by omega,S6,λj hj ht=>?_,λj j1 j2 j3 x hx=>?_⟩)
       ·by_cases e:j=k
        ·subst e;exact o2 j (by rw[AjR hku,AQr rfl])
        ·exact o2 j (UB j (fX j (by omega) ht))
       ·by_cases e:j=k
        ·subst e;rcases AhN x hx with h |h
         ·exact .inl h
         ·subst h;exact .inr ⟨p1,p2⟩
        ·cases hj:us u j with
         |true =>
          rcases AbR j j1 hj j3 x hx with h |⟨h,h'⟩
          ·exact .inl h
          ·exact .inr ⟨h,h'.mono λi hi=>o2 i (UB i hi)⟩
         |false=>exact .inr (p3 j j1 j2 (by rw[AjR hku,AQs e];exact hj) x hx)
     have WX:∀{X:ATP (ASD⊕AS6)} {R:((Int×ASD)⊕(AS6⊕ASD))->Prop},Ay X (λt=>(∃q' w,t=.inr (q',w)/\q'.length=q.length/\Mo q q'/\w≠[]/\w.length<=nu ls.length q)\/∃q',t=.inl q'/\q'.length=q.length/\Mo q q'/\(∀j,j<k+1->Tch ls j b->us q' j=true)/\yZ ls q q' λx=>x=b\/x≠c/\Cl ls q' x) ->
         (∀s':Int×ASD,(∃m,m<ls.length-k/\∃k':Nat,s'.1=(k':Int)/\k'<=ls.length/\m=ls.length-k'/\s'.2.length=q.length/\Mo q s'.2/\(∀j,j<k'->Tch ls j b->us s'.2 j=true)/\yZ ls q s'.2 λx=>x=b\/x≠c/\Cl ls s'.2 x)->R (.inl s')) ->
         (∀q' w,q'.length=q.length->Mo q q'->w≠[]->w.length<=nu ls.length q->R (.inr (.inl (q',w)))) ->
         Ay (X.bind (Sum.elim (λj=>some (Sum.inl (wI ((k:Int)+1),j))) λk=>some (Sum.inr (Sum.inl (k.1,k.2))):ASD⊕AS6->ATP ((Int×ASD)⊕(AS6⊕ASD)))) R:=λ{X R} hX hR1 hR2=>hX.bind λt ht=>by
      rcases ht with ⟨q',w,rfl,h1,h2,h3,h4⟩|⟨q',rfl,h1,h2,h3,h4⟩
      ·rw[ARa];exact Ay.mk (hR2 q' w h1 h2 h3 h4)
      ·rw[ARq,hw];exact Ay.mk (hR1 _ ⟨ls.length-(k+1),by omega,k+1,rfl,by omega,rfl,h1,h2,h3,h4⟩)
     by_cases hA:(lk ls k).1=b
     ·have e1:((lk ls k).1 !=b)=false:=by rw[hA,ARw]
      rw[show((ls.getD k Ae.zero).1 !=b)=false from e1,AQo,AP9,ARa];refine WX (take (lk ls k).2.1 ?_ ⟨a3,a4⟩ (λx hx=>?_) (.inl hA)) (λ_ h=>h) λq' w h1 h2 h3 h4=>.inl ⟨q',w,rfl,h1,h2,h3,h4⟩
      ·have kC:b=(lk ls k).1:=hA.symm;rw[BU (x:=(lk ls k).1+(lk ls k).2.1),BU];omega
      ·rcases hx with h |h
       ·exact .inl (by rw[<-h,hA])
       ·exact .inr h.symm
     ·have e1:((lk ls k).1 !=b)=true:=by rw[ART];exact hA
      rw[show((ls.getD k Ae.zero).1 !=b)=true from e1,AQp];by_cases hB:(lk ls k).2.1=b
      ·have e2:((lk ls k).2.1 !=b)=false:=by rw[hB,ARw]
       rw[show((ls.getD k Ae.zero).2.1 !=b)=false from e2,AQo,AP9,ARa];refine WX (take (lk ls k).1 ?_ ⟨a1,a2⟩ (λx hx=>?_) (.inr hB)) (λ_ h=>h) λq' w h1 h2 h3 h4=>.inl ⟨q',w,rfl,h1,h2,h3,h4⟩
       ·have hB':b=(lk ls k).2.1:=hB.symm;rw[BU (x:=(lk ls k).1+(lk ls k).2.1),BU];omega
       ·rcases hx with h |h
        ·exact .inr h.symm
        ·exact .inl (by rw[<-h,hB])
      ·have e2:((lk ls k).2.1 !=b)=true:=by rw[ART];exact hB
       rw[show((ls.getD k Ae.zero).2.1 !=b)=true from e2,AQp,AP9,ARq,AP9,ARq,hw];exact Ay.mk (skip (.inr λh=>by rcases h with h |h;exact hA h;exact hB h))
   ·have:k=ls.length:=by omega
    subst this;rw[Ew,AQo];have OC:Cl ls u b:=λj h1 h2=>fX j h1 h2;exact Ay.mk (.inr ⟨u,rfl,hlen,hmo,OC,λj j1 j2 j3 x hx=>by
     rcases AbR j j1 j2 j3 x hx with h |h
     ·subst h;exact⟨hbc,OC⟩
     ·exact h⟩)
  ·rcases ht with ⟨q',w,rfl,h1,h2,h3,h4⟩|⟨q',rfl,h1,h2,h3,h4⟩
   ·exact Ay.mk ⟨h1,h2,λ_=>⟨λ_=>h3,h4⟩,λh=>by cases h⟩
   ·exact Ay.mk ⟨h1,h2,λh=>(by cases h),λ_=>⟨hbc,h3,h4⟩⟩
theorem Aio{ls:ASH}(hl:ls.length<=900000)(hb:∀l∈ls,((0:Int)<=l.1/\(4194304:Int)>l.1)/\(0:Int)<=l.2.1/\(4194304:Int)>l.2.1){b c:Int}(hbb:0<=b/\b<4194304)(MO:b≠c)(hc:Cn ls b c) :
    Ay (bR ls b c (List.replicate ls.length false)) λr=>r.2.2≠[]/\r.2.2.length<=ls.length:=by
 have hz:∀k,us (List.replicate ls.length false) k=false:=λk=>by
  by_cases h:k<ls.length
  ·grind
  ·simp[h];rfl
 have hn:nu ls.length (List.replicate ls.length false)<=ls.length:=by exact AQD List.countP_le_length (by grind)
 refine(Acm (by omega) (λk hk=>hb _ (AO hk)) c 1000000 b (List.replicate ls.length false) (AQG) hbb (by omega)).mono λr hr=>?_;obtain⟨r1,r2,r3⟩:=r;cases r1 with
 |true=>obtain⟨h1,h2⟩:=hr.yes rfl;grind
 |false =>
  exfalso
  obtain⟨n1,n2,n3⟩:=hr.no rfl;have key:∀{x},Cn ls b x->x≠c/\Cl ls r2 x:=λ{x} h=>by
   induction h with
   |refl=>grind
   |gX zL _ ih =>
    obtain⟨k,hk,e⟩:=List.mem_iff_getElem.1 zL;have e2:lk ls k=_:=show ls.getD k Ae.zero=ls[k] by grind
    rw[<-e,<-e2]at ih⊢;exact n3 k hk (ih.2 k hk (.inl rfl)) (hz k) _ (.inr rfl)
   |bwd zL _ ih =>
    obtain⟨k,hk,e⟩:=List.mem_iff_getElem.1 zL;have e2:lk ls k=_:=show ls.getD k Ae.zero=ls[k] by simp[hk]
    rw[<-e,<-e2]at ih⊢;exact n3 k hk (ih.2 k hk (.inr rfl)) (hz k) _ (.inl rfl)
  exact(key hc).1 rfl
theorem AvF{a:ASC}(ha:a.length<=1048576)(b:Int):∃r,VL a b=some r/\(a=[]->r=false):=by
 unfold VL;obtain⟨t,h1,h2⟩:Ay (WR a b 0) λt=>t=.inl ()->a≠[]:=by
  refine BB (λw i=>∃k:Nat,i=(k:Int)/\k<=a.length/\w=a.length-k) (λw i hI=>?_) _ 0 ⟨0,rfl,AQW _,rfl⟩;obtain⟨k,rfl,hk,rfl⟩:=hI;unfold PO Uq;rcases AQk k _ with h |h
  ·rw[Di h,AQp,AQr (Bq h)];refine Ay.cond (λ_=>Ay.mk λ_=>by grind) λ_=>Ay.mk ⟨a.length-(k+1),by omega,k+1,A6,h,rfl⟩
  ·have:k=a.length:=by omega
   subst this;rw[Ew];exact Ay.mk λe=>by grind
 rw[h1];cases t with
 |inl u=>exact⟨true,rfl,λe=>(h2 rfl e).elim⟩
 |inr u=>exact⟨false,rfl,λ_=>rfl⟩
theorem AdY{a:ASC}(ha:a≠[])(hl:a.length<=900000):Ay (Ti a) (·≠[]):=by
 refine Ay.bind  ?_ λr hr=>Ay.mk hr;refine BB (λm s=>∃k:Nat,s.1=(k:Int)/\k<=a.length/\m=a.length-k/\s.2.length<=k/\(0<k->s.2≠[])) (λm s hI=>?_) _ _ ⟨0,rfl,AQW _,rfl,AQf _,λh=>by omega⟩;obtain⟨k,e,hk,rfl,hd,MO⟩:=hI;obtain⟨g,d⟩:=s;simp only at e hd MO;subst e;unfold K2 Qm;rcases AQk k _ with Bw |ag
 ·rw[Di Bw];refine Ay.bind (P:=λe =>e≠[]/\e.length<=k+1) ?_ λe he=>Ay.mk ⟨a.length-(k+1),by omega,k+1,A6,by omega,rfl,he.2,λ_=>he.1⟩;unfold Oo;simp only[AQa,AQr (Bq Bw)];obtain⟨r,h1,h2⟩:=AvF (a:=d) (by omega) _;rw[h1,AP9];cases r with
  |true =>
   exact Ay.mk ⟨λe=>(by grind),by omega⟩
  |false =>
   rw[AQr (by grind)];generalize a.getD k _=x;refine Ay.bind (P:=λq =>0<=q.1/\q.1<q.2.length/\q.2.length=d.length+1) ?_ λq hq=>?_
   ·refine BB (λm s=>∃i:Nat,s.1=(i:Int)/\i<=d.length/\m=i/\s.2.length=d.length+1) (λm s hI=>?_) _ _ ⟨d.length,rfl,AQf _,rfl,by simp⟩;obtain⟨i,e,hi,hm,hj⟩:=hI;rw[hm];obtain⟨g,j⟩:=s;simp only at e hj;subst e;unfold K1 Ql On;cases i with
    |zero =>
     exact Ay.mk ⟨by simp,by grind,hj⟩
    |succ i =>
     have hw:wI (((i+1:Nat))-1)=i:=A6;rw[MM,AQp,hw];simp only[AQa];rw[AQr (Bq (show i<j.length by omega)),AQr (Bq Bw)];cases decide (j.getD i _>a.getD k _)with
     |true =>
      rw[AQp,AP9,AQr (Bq (show i<j.length by omega)),AQr (Bq (show i+1<j.length by omega))];exact Ay.mk ⟨i,by omega,i,rfl,by omega,rfl,by grind⟩
     |false =>
      exact Ay.mk ⟨by omega,by grind,hj⟩
   ·rw[AQr ⟨hq.1,hq.2.1⟩];refine Ay.mk ⟨λe=>?_,by grind⟩;have:=congrArg List.length e
    grind
 ·have:k=a.length:=by omega
  subst this;rw[Ew];exact Ay.mk (MO (by grind))
def Anj(b:ASv):Prop:=b.2.1.length<=64/\b.1<=4096/\CQ b.2.1
abbrev gB(vs:ASL)(i:Nat):ASv:=vs.getD i Ai.zero
abbrev mgB(vm:List ASV)(i:Int):ASv:=BA ATy Ai vm i
def Nd(ns:Nat)(vs:ASL)(A:ASo)(i:Nat):Prop:=((0:Int)<=A.1/\(i:Int)=A.1)\/((0:Int)>A.1/\ns<=i/\i<vs.length/\gB vs i=A.2.1)
def P1(ns:Nat)(rt:Nat->Nat)(vs:ASL)(x:ASA):Prop:=∃i j,Nd ns vs x.1 i/\Nd ns vs x.2.1 j/\rt i=rt j
def Ext(ns:Nat)(rt:Nat->Nat)(vs:ASL)(ix:Nat->Nat)(Z3:ASL):Prop:=(∀i j,rt i=rt j->ix i=ix j)/\∀A i,Nd ns vs A i->Nd ns Z3 A i
theorem Ext.refl{ns:Nat}{rt:Nat->Nat}{vs:ASL}:Ext ns rt vs rt vs:=⟨λ_ _ h=>h,λ_ _ h=>h⟩
theorem Ext.trans{ns:Nat}{rt ix Ad0:Nat->Nat}{vs Z3 Anf:ASL}(h:Ext ns rt vs ix Z3)(k:Ext ns ix Z3 Ad0 Anf):Ext ns rt vs Ad0 Anf:=⟨λi j e=>k.1 i j (h.1 i j e),λA i e=>k.2 A i (h.2 A i e)⟩
theorem P1.mono{ns:Nat}{rt ix:Nat->Nat}{vs Z3:ASL}(h:Ext ns rt vs ix Z3){x:ASA}(p:P1 ns rt vs x):P1 ns ix Z3 x:=by
 obtain⟨i,j,a,b,e⟩:=p;exact⟨i,j,h.2 _ _ a,h.2 _ _ b,h.1 _ _ e⟩
structure JN (H:ASo->ASo->Prop) (ns N:Nat) (ld fx:ASC) (vm:List ASV) (ks:ASH) (vs:ASL) (Bi:ASC) (rt:Nat->Nat):Prop where
 fo:∃dp,Fo ld rt dp
 l1:ld.length=N
 l2:fx.length=N
 l3:vs.length=N
 l4:Bi.length=N
 nn:ns<=N
 sm:∀i j,i<N->j<N->(gI Bi i=gI Bi j↔rt i=rt j)
 lo:∀i,i<N->0<=gI Bi i/\gI Bi i<=(i:Int)/\gI Bi (gI Bi i).toNat=gI Bi i
 wd:∀i,i<N->((gB vs i).1>0↔ns<=i)
 vl:∀i,i<N->ns<=i->mgB vm (i:Int)=gB vs i
 bw:∀i,i<N->Anj (gB vs i)
 fx_:∀i,i<N->rt i=i->qq rt ns N i (gI fx i)
 lk_:∀l∈ks,((0:Int)<=l.1/\(N:Int)>l.1)/\(0:Int)<=l.2.1/\(N:Int)>l.2.1
 cn:∀i j:Nat,i<N->j<N->rt i=rt j->Cn ks (i:Int) (j:Int)
 eqv:∀i j,ns<=i->i<N->ns<=j->j<N->rt i=rt j->gB vs i=gB vs j
 lkp:∀l∈ks,∃A B,∃i j:Nat,H A B/\Nd ns vs A i/\Nd ns vs B j/\l.1=(i:Int)/\l.2.1=(j:Int)
theorem Aaa{ns:Nat}{vs:ASL}{x:ASv}{A:ASo}{i:Nat}(h:Nd ns vs A i):Nd ns (vs++[x]) A i:=by
 rcases h with h |⟨h1,h2,h3,h4⟩
 ·exact .inl h
 ·exact .inr ⟨h1,h2,by grind,by grind⟩
variable {H:ASo->ASo->Prop}
def al(ns:Nat)(a:ASo):Prop:=((0:Int)<=a.1/\(ns:Int)>a.1)\/((0:Int)>a.1/\(0:Int)<a.2.1.1/\Anj a.2.1)
theorem kx{l:ASL}{x:ASv}{j:Nat}:gB (l++[x]) j=if j=l.length then x else gB l j:=by
 grind
theorem AbZ{ns N:Nat}{ld fx:ASC}{vm:ATO ASV}{ks:ASH}{vs:ASL}{Bi:ASC}{rt:Nat->Nat}(J:JN H ns N ld fx vm ks vs Bi rt){a:ASo}(ha:al ns a)(hN:N<=2000000)(p q:Int) :
    ∃k N' gn yg yp Z3 ai,Bs p a ld fx vm ks=some (((k:Nat):Int),yp,ks,gn,yg)/\Io q a vs ks Bi=some ((k:Int),ks,Z3,ai)/\k<N'/\N<=N'/\N'<=N+1/\JN H ns N' gn yg yp ks Z3 ai rt/\Nd ns Z3 a k/\∀A i,Nd ns vs A i->Nd ns Z3 A i:=by
 have UN:=J.l1;have iL:=J.l2;have hl3:=J.l3;have hl4:=J.l4;have hnn:=J.nn;unfold Bs Io;rcases ha with ⟨h0,h1⟩|⟨h0,h1,h2⟩
 ·refine⟨a.1.toNat,N,ld,fx,vm,vs,Bi,?_,?_,by omega,AQf _,by omega,J,.inl ⟨h0,by omega⟩,λ_ _ h=>h⟩
  ·rw[MM,AQp,show((a.1.toNat:Nat):Int)=a.1 by omega]
  ·rw[MM,AQp,show((a.1.toNat:Nat):Int)=a.1 by omega]
 ·obtain⟨dp,hf⟩:=J.fo;have hrN:rt N=N:=hf.out N (by omega);have hd0:decide (a.1>=0)=false:=AQc λh=>by have h:(0:Int)<=a.1:=h;omega
  have zQ:∀i,i<N->rt i<N:=λi hi=>by have:=(hf.ak i (by omega)).1;omega
  refine⟨N,N+1,ld++[(N:Int)],fx++[(N:Int)],Cs ATy Ai vm (N:Int) a.2.1,vs++[a.2.1],Bi++[(N:Int)],?_,?_,by omega,by omega,AQf _,?_,.inr ⟨h0,hnn,by simp[hl3],by simp[gB,List.getD,hl3]⟩,λ_ _ h=>Aaa h⟩
  ·rw[hd0,AQo,AQr (by rw[AQt];omega),AQr (by rw[AQt];omega),UN]
  ·unfold K4 K5;rw[hd0,AQo,AQr (by rw[AQt];omega),AP9,AQr (by rw[AQt];omega),AP9,hl4,A6 (n:=N) (by rw[AQd,AQt];omega) (by omega)]
  ·have fo':=hf.add;rw[UN]at fo';refine⟨⟨dp,fo'⟩,by simp[UN],by simp[iL],by simp[hl3],by simp[hl4],by omega,λi j hi hj=>?_,λi hi=>?_,λi hi=>?_,λi hi hn=>?_,λi hi=>?_,λi hi hr=>?_,λl hl=>?_,λi j hi hj h=>?_,λi j i1 i2 j1 j2 h=>?_,λl hl=>?_⟩
   ·rw[bk,bk,hl4];by_cases e1:i=N<;>by_cases e2:j=N
    ·subst e1;subst e2;simp
    ·subst e1;rw[AQr rfl,AQs e2,hrN];have:=(J.lo j (by omega)).2.1;have:=zQ j (by omega);constructor<;>intro h<;>omega
    ·subst e2;rw[AQs e1,AQr rfl,hrN];have:=(J.lo i (by omega)).2.1;have:=zQ i (by omega);constructor<;>intro h<;>omega
    ·rw[AQs e1,AQs e2];exact J.sm i j (by omega) (by omega)
   ·rw[bk,hl4];by_cases e1:i=N
    ·subst e1;rw[AQr rfl,AQa,bk,hl4,AQr rfl];omega
    ·rw[AQs e1];obtain⟨a1,a2,a3⟩:=J.lo i (by omega);refine⟨a1,a2,?_⟩;rw[bk,hl4,QK];exact a3
   ·rw[kx,hl3];by_cases e1:i=N
    ·subst e1;rw[AQr rfl];exact⟨λ_=>hnn,λ_=>h1⟩
    ·rw[AQs e1];exact J.wd i (by omega)
   ·rw[kx,hl3];unfold mgB;rw[SA (vt:=Ai)];by_cases e1:i=N
    ·subst e1;rw[AQr rfl,AQr rfl]
    ·rw[AQs e1,QK];exact J.vl i (by omega) hn
   ·rw[kx,hl3];by_cases e1:i=N
    ·subst e1;rw[AQr rfl];exact h2
    ·rw[AQs e1];exact J.bw i (by omega)
   ·rw[bk,iL];by_cases e1:i=N
    ·subst e1;rw[AQr rfl];exact .inr ⟨i,rfl,hnn,by omega,hrN,λj j1 j2=>by have:=zQ j j2;omega⟩
    ·rw[AQs e1];exact(J.fx_ i (by omega) hr).add hrN (by omega)
   ·have:=J.lk_ l hl;omega
   ·by_cases e1:i=N<;>by_cases e2:j=N
    ·subst e1;subst e2;exact .refl _
    ·subst e1;have:=zQ j (by omega);omega
    ·subst e2;have:=zQ i (by omega);omega
    ·exact J.cn i j (by omega) (by omega) h
   ·rw[kx,kx,hl3];by_cases e1:i=N<;>by_cases e2:j=N
    ·rw[AQr e1,AQr e2]
    ·subst e1;have:=zQ j (by omega);omega
    ·subst e2;have:=zQ i (by omega);omega
    ·rw[AQs e1,AQs e2];exact J.eqv i j i1 (by omega) j1 (by omega) h
   ·obtain⟨A,B,i,j,h1,h2,h3,h4,h5⟩:=J.lkp l hl;exact⟨A,B,i,j,h1,Aaa h2,Aaa h3,h4,h5⟩
theorem JN.link{ns N:Nat}{ld fx:ASC}{vm:ATO ASV}{ks:ASH}{vs:ASL}{Bi:ASC}{rt:Nat->Nat}(J:JN H ns N ld fx vm ks vs Bi rt){a b:Nat}(ha:a<N)(hb:b<N)(MO:rt a≠rt b)(o:Int)(hv:∀i j,ns<=i->i<N->ns<=j->j<N->rt i=rt a->rt j=rt b->gB vs i=gB vs j){A B:ASo}(hH:H A B)(hA:Nd ns vs A a)(hB:Nd ns vs B b) :
    JN H ns N (ld.set (rt b) ((rt a:Nat):Int)) (fx.set (rt a) (if 0<=gI fx (rt a)/\0<=gI fx (rt b)then min (gI fx (rt a)) (gI fx (rt b))else max (gI fx (rt a)) (gI fx (rt b)))) vm (ks++[((a:Int),(b:Int),o,())]) vs
     (Bi.map λx=>if x=max (gI Bi a) (gI Bi b)then min (gI Bi a) (gI Bi b)else x) (dm rt (rt a) (rt b)):=by
 have UN:=J.l1;have iL:=J.l2;have hl4:=J.l4;obtain⟨dp,hf⟩:=J.fo;have hra:=hf.bY a;have hrb:=hf.bY b;have hxa:rt a<N:=by have:=(hf.ak a (by omega)).1;omega
 have hxb:rt b<N:=by have:=(hf.ak b (by omega)).1;omega
 generalize hm:min (gI Bi a) (gI Bi b)=m;generalize hM:max (gI Bi a) (gI Bi b)=M;have hg:∀i,i<N->gI (Bi.map λx=>if x=M then m else x) i=if gI Bi i=M then m else gI Bi i:=λi hi =>
  Fq (λx=>if x=M then m else x) (y :=ATy.zero) (show i<Bi.length by omega)
 have AJR:gI Bi a≠gI Bi b:=λe=>MO ((J.sm a b ha hb).1 e);obtain⟨a1,a2,a3⟩:=J.lo a ha;obtain⟨b1,b2,b3⟩:=J.lo b hb;refine⟨hf.join (by omega) (by omega) hra hrb MO,by simp[UN],by simp[iL],J.l3,by rw[AQl];exact hl4,J.nn,λi j hi hj=>?_,λi hi=>?_,J.wd,J.vl,J.bw,λi hi hr=>?_,λl hl=>?_,λi j hi hj h=>?_,λi j i1 i2 j1 j2 h=>?_,λl hl=>?_⟩
 ·rw[hg i hi,hg j hj,dn hf.bY hra hrb,<-J.sm i j hi hj,<-J.sm i a hi ha,<-J.sm j b hj hb,<-J.sm i b hi hb,<-J.sm j a hj ha];split<;>split<;>omega
 ·obtain⟨c1,c2,c3⟩:=J.lo i hi;rw[hg i hi];by_cases e:gI Bi i=M
  ·rw[AQr e];refine⟨by omega,by omega,?_⟩;rcases Int.lt_or_gt_of_ne AJR with h |h
   ·have em:m=gI Bi a:=by omega
    rw[em]at hg⊢;rw[hg _ (by omega),a3,QK]
   ·have em:m=gI Bi b:=by omega
    rw[em]at hg⊢;rw[hg _ (by omega),b3,QK]
  ·rw[AQs e];refine⟨c1,c2,?_⟩;rw[hg _ (by omega),c3,AQs e]
 ·rw[ky (by omega)];by_cases e:i=rt a
  ·subst e;rw[AQr rfl];exact(J.fx_ _ hxa hra).join MO (J.fx_ _ hxb hrb)
  ·rw[AQs e];have hj:rt i=i/\i≠rt b:=by
    simp only[dm]at hr;split at hr
    ·omega
    ·exact⟨hr,by omega⟩
   exact(J.fx_ i hi hj.1).other e hj.2
 ·rcases List.mem_append.1 hl with hl |hl
  ·exact J.lk_ l hl
  ·rw[AQA]at hl;subst hl;simp only;omega
 ·have hm:∀l∈ks,l∈ks++[((a:Int),(b:Int),o,())]:=λl h=>AQH _ h;have zD:Cn (ks++[((a:Int),(b:Int),o,())]) (a:Int) (b:Int):=Cn.gX (l:=((a:Int),(b:Int),o,())) (by simp) (.refl _);rcases(dn hf.bY hra hrb i j).1 h with h |⟨h,h'⟩|⟨h,h'⟩
  ·exact(J.cn i j hi hj h).mono hm
  ·exact((J.cn i a hi ha h).mono hm).trans (zD.trans ((J.cn b j hb hj h'.symm).mono hm))
  ·exact((J.cn i b hi hb h).mono hm).trans (zD.symm.trans ((J.cn a j ha hj h'.symm).mono hm))
 ·rcases(dn hf.bY hra hrb i j).1 h with h |⟨h,h'⟩|⟨h,h'⟩
  ·exact J.eqv i j i1 i2 j1 j2 h
  ·exact hv i j i1 i2 j1 j2 h h'
  ·exact(hv j i j1 j2 i1 i2 h' h).symm
 ·rcases List.mem_append.1 hl with hl |hl
  ·exact J.lkp l hl
  ·rw[AQA]at hl;subst hl;exact⟨A,B,a,b,hH,hA,hB,rfl,rfl⟩
variable {H:ASo->ASo->Prop}
def JnR(H:ASo->ASo->Prop)(n:ASA)(rt0:Nat->Nat)(vs0:ASL)(ns N:Nat)(ks:ASH)(x:Bool×ATO ASV×ASC×ASC×ASC×ASH)(y:Bool×ASC×ASL×ASH×ASC):Prop :=
 (x.1=false/\y.1=false/\x.2.2.1≠[]/\y.2.1≠[]) \/
  (x.1=true/\y.1=true/\∃N' rt,N'<=N+2/\N<=N'/\x.2.2.2.2.2.length<=ks.length+1/\y.2.2.2.1=x.2.2.2.2.2/\JN H ns N' x.2.2.2.1 x.2.2.2.2.1 x.2.1 x.2.2.2.2.2 y.2.2.1 y.2.2.2.2 rt/\Ext ns rt0 vs0 rt y.2.2.1/\P1 ns rt y.2.2.1 n)
theorem AmA{ns N:Nat}{ld fx:ASC}{vm:ATO ASV}{ks:ASH}{vs:ASL}{Bi:ASC}{rt:Nat->Nat}(J:JN H ns N ld fx vm ks vs Bi rt){n:ASA}(ha:al ns n.1)(hb:al ns n.2.1)(hN:N<=1999990)(hk:ks.length<900000)(hH:H n.1 n.2.1)(p q o:Int) :
    ∃x y,JH p n o ld fx vm ks=some x/\Ll q n o vs ks Bi=some y/\JnR H n rt vs ns N ks x y:=by
 obtain⟨a,N1,ld1,fx1,vm1,vs1,AO6,i1,s1,a1,a2,a3,J1,na,X1⟩:=AbZ J ha (by omega) p q;obtain⟨b,N2,ld2,fx2,vm2,yq,nH,i2,s2,b1,b2,b3,J2,nb,X2⟩:=AbZ J1 hb (by omega) p q;have UN:=J2.l1;have iL:=J2.l2;have hl3:=J2.l3;have hl4:=J2.l4;obtain⟨dp,hf⟩:=J2.fo;obtain⟨r1,e1,l1,rfl,q1,q2⟩:=ru hf (j:=a) (by omega) p fx2 vm2 ks;obtain⟨r2,e2,l2,rfl,q3,q4⟩:=ru q2 (j:=b) (by omega) p fx2 vm2 ks;have J3:JN H ns N2 l2 fx2 vm2 ks yq nH rt:=⟨⟨dp,q4⟩,by omega,J2.l2,J2.l3,J2.l4,J2.nn,J2.sm,J2.lo,J2.wd,J2.vl,J2.bw,J2.fx_,J2.lk_,J2.cn,J2.eqv,J2.lkp⟩;have hra:rt a<N2:=by have:=(hf.ak a (by omega)).1;omega
 have hrb:rt b<N2:=by have:=(hf.ak b (by omega)).1;omega
 have hsm:=J2.sm a b (by omega) b1;unfold JH Jn Ll;rw[i1,AP9,s1,AP9];simp only;rw[i2,AP9,s2,AP9,AP9];simp only;rw[e1,AP9,AQr (show(0:Int)<=(a:Int)/\(a:Int)<(nH.length:Int) by omega),AQr (show(0:Int)<=(b:Int)/\(b:Int)<(nH.length:Int) by omega)];simp only[AQa];rw[e2,AP9];simp only[AQa];by_cases zD:rt a=rt b
 ·have g1:(nH.getD a ATy.zero==nH.getD b ATy.zero)=true:=by rw[ARd];exact hsm.2 zD
  rw[g1,AQp,zD,ASi,AQp];exact⟨_,_,rfl,rfl,.inr ⟨rfl,rfl,N2,rt,by omega,by omega,by simp only;omega,rfl,J3,⟨λ_ _ h=>h,λA i h=>X2 A i (X1 A i h)⟩,a,b,X2 _ _ na,nb,zD⟩⟩
 ·have g1:(nH.getD a ATy.zero==nH.getD b ATy.zero)=false:=by rw[beq_eq_false_iff_ne];exact λe=>zD (hsm.1 e)
  have g2:(((rt a:Nat):Int)==((rt b:Nat):Int))=false:=by rw[beq_eq_false_iff_ne];omega
  obtain⟨w1,f1,v1,rfl,F1⟩:=kp (rt:=rt) (ns:=ns) (vs:=yq) (Bi:=nH) (by omega) (λi j hi hj=>J2.sm i j (by omega) (by omega)) (λi hi=>J2.wd i (by omega)) (by omega) (b:=a) (by omega) q ks;obtain⟨w2,f2,v2,rfl,F2⟩:=kp (rt:=rt) (ns:=ns) (vs:=yq) (Bi:=nH) (by omega) (λi j hi hj=>J2.sm i j (by omega) (by omega)) (λi hi=>J2.wd i (by omega)) (by omega) (b:=b) (by omega) q ks;rw[hl4]at F1 F2;rw[g1,AQo,g2,AQo,f1,AP9];simp only;rw[f2,AP9];simp only;have rI:(ks.length+([((a:Int),(b:Int),o,())]:ASH).length)*24<=140737488355328:=by rw[AQt];omega
  have u1:gI fx2 (rt a)=v1:=(J2.fx_ _ hra (hf.bY a)).uniq F1;have u2:gI fx2 (rt b)=v2:=(J2.fx_ _ hrb (hf.bY b)).uniq F2;have x1:fx2.getD (rt a) ATy.zero=v1:=u1;have x2:fx2.getD (rt b) ATy.zero=v2:=u2;have d1:=F1.ge;have d2:=F2.ge;rw[AQr rI,AQr rI,AQr (show(0:Int)<=((rt a:Nat):Int)/\((rt a:Nat):Int)<(fx2.length:Int) by omega),AQr (show(0:Int)<=((rt b:Nat):Int)/\((rt b:Nat):Int)<(fx2.length:Int) by omega),x1,x2];have lkN:∀l∈ks++[((a:Int),(b:Int),o,())],((0:Int)<=l.1/\(N2:Int)>l.1)/\(0:Int)<=l.2.1/\(N2:Int)>l.2.1:=λl hl=>by
   rcases List.mem_append.1 hl with hl |hl
   ·exact J2.lk_ l hl
   ·rw[AQA]at hl;subst hl;simp only;omega
  have AOn:(ks++[((a:Int),(b:Int),o,())]).length=ks.length+1:=by rw[AQd,AQt]
  have AvB:∀c:Int,c=(if 0<=v1/\0<=v2 then min v1 v2 else v1)->(∀i j,ns<=i->i<N2->ns<=j->j<N2->rt i=rt a->rt j=rt b->gB yq i=gB yq j) ->
      ∃ x y,(if(0:Int)<=((rt b:Nat):Int)/\((rt b:Nat):Int)<(l2.length:Int)then
          if(0:Int)<=((rt a:Nat):Int)/\((rt a:Nat):Int)<(fx2.length:Int)then
          (Ei p c ((rt a:Nat):Int) v2 vm2 (l2.set (rt b) ((rt a:Nat):Int)) (fx2.set (rt a) (if v2>c then v2 else c)) (ks++[((a:Int),(b:Int),o,())])).bind λk =>
          some (true,vm2,([]:ASC),l2.set (rt b) ((rt a:Nat):Int),k,ks++[((a:Int),(b:Int),o,())])
          else none else none)=some x /\
       ((K0 (a:Int) (b:Int) nH).bind λb1=>some (true,([]:ASC),yq,ks++[((a:Int),(b:Int),o,())],b1))=some y/\JnR H n rt vs ns N ks x y:=λc hc hv=>by
   have JL:=J3.link (a:=a) (b:=b) (by omega) b1 zD o hv hH (X2 _ _ na) nb;rw[u1,u2]at JL;rw[WA,WA,wF (by omega) (by omega) (by omega),AP9];have e4:Ei p c ((rt a:Nat):Int) v2 vm2 (l2.set (rt b) ((rt a:Nat):Int)) (fx2.set (rt a) (if v2>c then v2 else c)) (ks++[((a:Int),(b:Int),o,())])=some (fx2.set (rt a) (if 0<=v1/\0<=v2 then min v1 v2 else max v1 v2)):=by
    unfold Ei OQ;by_cases hv:0<=v1/\0<=v2
    ·rw[AQr hv]at hc⊢;rw[AQe (show c>=0 by omega),AQe (show v2>=0 by omega),Bool.and_self,AQp,AQr (by rw[AQi];omega),AQa,ASe,hc]
    ·rw[AQs hv]at hc⊢;rw[show(decide (c>=0)&&decide (v2>=0))=false by rw[<-Bool.not_eq_true,AQg,ARY,ARY];omega,AQo,hc];congr 2;split<;>omega
   rw[e4,AP9];exact⟨_,_,rfl,rfl,.inr ⟨rfl,rfl,N2,_,by omega,by omega,by simp only;omega,rfl,JL,⟨λi j h=>(dn hf.bY (hf.bY a) (hf.bY b) i j).2 (.inl h),λA i h=>X2 A i (X1 A i h)⟩,a,b,X2 _ _ na,nb,(dn hf.bY (hf.bY a) (hf.bY b) a b).2 (.inr (.inl ⟨rfl,rfl⟩))⟩⟩
  unfold Jo OQ K3;by_cases h1:0<=v1
  ·by_cases h2:0<=v2
   ·obtain⟨c1,rfl⟩:∃c:Nat,v1=(c:Int):=⟨v1.toNat,by omega⟩;obtain⟨c2,rfl⟩:∃c:Nat,v2=(c:Int):=⟨v2.toNat,by omega⟩;have t1:c1<N2/\ns<=c1/\rt c1=rt a:=by
     rcases F1 with ⟨h,_⟩|⟨j,h,h3,h4,h5,_⟩
     ·omega
     ·have:j=c1:=by omega
      subst this;exact⟨h4,h3,h5⟩
    have t2:c2<N2/\ns<=c2/\rt c2=rt b:=by
     rcases F2 with ⟨h,_⟩|⟨j,h,h3,h4,h5,_⟩
     ·omega
     ·have:j=c2:=by omega
      subst this;exact⟨h4,h3,h5⟩
    have m1:BA ATy Ai vm2 (c1:Int)=gB yq c1:=J2.vl c1 t1.1 t1.2.1;have m2:BA ATy Ai vm2 (c2:Int)=gB yq c2:=J2.vl c2 t2.1 t2.2.1;have bs:=(J2.bw c1 t1.1).1;obtain⟨r,er,hr⟩:=ux (a:=gB yq c1) (AQD bs (by decide)) (gB yq c2);obtain⟨r',er',hr'⟩:=wZ (a:=gB yq c1) (AQD bs (by decide)) (gB yq c2);have err:r'=r:=by rw[ASa,hr,hr']
    subst err;rw[AQe (show(c1:Int)>=0 by omega),AQe (show(c2:Int)>=0 by omega),Bool.and_self,AQp,AQp,AQp];simp only[AQa];rw[AQr (show(0:Int)<=(c1:Int)/\(c1:Int)<(yq.length:Int) by omega),AQr (show(0:Int)<=(c2:Int)/\(c2:Int)<(yq.length:Int) by omega),m1,m2,er];rw[show Im (yq.getD c1 Ai.zero) (yq.getD c2 Ai.zero)=some r' from er'];simp only[AP9];cases r' with
    |false =>
     simp only[ARu,AQp];have hcn:Cn (ks++[((a:Int),(b:Int),o,())]) (c1:Int) (c2:Int):=by
      have hm:∀l∈ks,l∈ks++[((a:Int),(b:Int),o,())]:=λl h=>AQH _ h;exact((J2.cn c1 a t1.1 (by omega) t1.2.2).mono hm).trans ((Cn.gX (l:=((a:Int),(b:Int),o,())) (by simp) (.refl _)).trans ((J2.cn b c2 b1 t2.1 t2.2.2.symm).mono hm))
     have MO:(c1:Int)≠(c2:Int):=λe=>by
      have e:c1=c2:=by omega
      rw[e]at t1;exact zD (by rw[<-t1.2.2,<-t2.2.2])
     have hlk:=lkN;obtain⟨w,ew,hw⟩:=AwK (v:=ks++[((a:Int),(b:Int),o,())]) (N:=N2) (by omega) (by omega) hlk (a:=(c1:Int)) (g:=(c2:Int)) (by omega) (Ne.symm MO) hcn;obtain⟨y,ey,hy,hy2⟩:=Aio (ls:=ks++[((a:Int),(b:Int),o,())]) (by omega) (λl h=>by have:=hlk l h;omega) (b:=(c1:Int)) (c:=(c2:Int)) (by omega) MO hcn;obtain⟨z,ez,hz⟩:=AdY hy (by omega);rw[ew,AP9,AP9,ARq,AQr ⟨rfl,by omega,ARC _,by omega,by omega⟩,ey,AP9,ez,AP9];exact⟨_,_,rfl,rfl,.inl ⟨rfl,rfl,hw,hz⟩⟩
    |true =>
     simp only[AQS,AQo,AP9,ARa];exact AvB _ (by have hcc:(0:Int)<=(c1:Int)/\(0:Int)<=(c2:Int):=⟨by omega,by omega⟩;rw[AQr hcc];split<;>omega) λi j i1 i2 j1 j2 hi hj=>by
      rw[J2.eqv i c1 i1 i2 t1.2.1 t1.1 (hi.trans t1.2.2.symm),J2.eqv j c2 j1 j2 t2.2.1 t2.1 (hj.trans t2.2.2.symm)];exact hr.1 rfl
   ·rw[show(decide (v1>=0)&&decide (v2>=0))=false by rw[AQc (show ¬v2>=0 by omega),Bool.and_false],AQo,AQe (show v1>=0 by omega),AQp,AQc (show ¬v2>=0 by omega),AQo];simp only[AP9,ARa,AQo,AQa];exact AvB _ (by rw[QK]) λi j i1 i2 j1 j2 hi hj=>by
     rcases F2 with ⟨_,h⟩|⟨j',h,_⟩
     ·exact(h j j1 j2 hj).elim
     ·omega
  ·rw[show(decide (v1>=0)&&decide (v2>=0))=false by rw[AQc (show ¬v1>=0 by omega),Bool.false_and],AQo,AQc (show ¬v1>=0 by omega),AQo];simp only[AP9,ARa,AQo,AQa];exact AvB _ (by rw[QK]) λi j i1 i2 j1 j2 hi hj=>by
    rcases F1 with ⟨_,h⟩|⟨j',h,_⟩
    ·exact(h i i1 i2 hi).elim
    ·omega
theorem Zv{d:ASG}{f:Nat->Nat->Bool}(ht:∀v p,f v p=true->v<d.length/\1<=p/\p<W d v):C0 (Ax d f)=f:=by
 funext v p
 rw[ASa];unfold C0;by_cases hv:v<d.length
 ·rw[oz hv,List.contains_iff_mem,gv]
  grind
 ·constructor
  ·intro h;have:DW (Ax d f) v=[]:=by unfold DW Ax;simp[hv]
   rw[this]at h;simp at h
  ·grind
def ua(d:ASG)(l:ASK)(f:Nat->Nat->Bool)(i:Nat):ASO:=PP (SL d (Ax d f) d.length) (b1 d l i) (b2 d l i) 0 (eL (b1 d l i) (b2 d l i) f (b1 d l i).length++[(b1 d l i).length])
section
variable {d:ASG} {l:ASK} {f:Nat->Nat->Bool}
theorem AjD(hd:AE d)(hl:∀x∈l,MK x)(Ov:FD d l)(hs:CF d l)(OC:EB d l f)(ht:∀v p,f v p=true->v<d.length/\1<=p/\p<W d v){i:Nat}(hi:i<l.length) :
    Ph d (l.getD i Ah.zero) (Ax d f,())=some (true,ua d l f i):=by
 have hC0:=Zv ht;obtain⟨ZN,hc⟩:=QQ hd f;generalize hx:l.getD i Ah.zero=x;have hxl:MK x:=by grind
 have UN:∀y∈[x],MK y:=λy hy=>by grind
 have eS:lS [x] 0=lS l i:=by unfold lS li;rw[hx];rfl
 have eT:lT [x] 0=lT l i:=by unfold lT li;rw[hx];rfl
 have eB1:b1 d [x] 0=b1 d l i:=by unfold b1;rw[eS]
 have eB2:b2 d [x] 0=b2 d l i:=by unfold b2;rw[eT]
 have AvX:FD d [x]:=⟨by simp,λj hj=>by
  have:j=0:=by grind
  subst this;obtain⟨h1,_,h3,h4⟩:=Ov.2 i hi;have eI:cg [x] 0=cg l i:=by unfold cg li;rw[hx];rfl
  exact⟨by grind,λh=>by omega,by grind,by grind⟩⟩
 have Sb:CF d [x]:=λj hj=>by
  have:j=0:=by simp at hj;omega
  subst this;have:=hs i hi;unfold jo at this⊢;rw[eS,eT];exact this
 have AJA:EB d [x] f:=λj hj=>by
  have:j=0:=by simp at hj;omega
  subst this;rw[eB1,eB2];exact OC i hi
 obtain⟨rc,ec,himp,UA⟩:=uR (d:=d) hc UN;obtain⟨q1,e1,h1⟩:=Wt (d:=d) hc;obtain⟨q2,e2,h2⟩:=Zm (d:=d) UN;rcases UA with ⟨_,ah⟩|⟨_,_,_,_,f',rfl,hf⟩
 ·exact(ah ⟨hd,ZN,AvX,Sb⟩).elim
 have hff:f'=f:=by
  funext v p
  rw[ASa];exact⟨hf.min f AJA (by rw[hC0];exact λ_ _ h=>h) v p,λh=>hf.le v p (by rw[hC0];exact h)⟩
 subst hff;have hB:=UN _ (List.mem_singleton.2 rfl);obtain⟨s1,s2,s3,s4,s5,s6⟩:=PE hd UN AvX Sb (show 0<[x].length by simp);rw[eB1]at s1 s3 s5;rw[eB2]at s2 s3 s6;have g1:BK d x.2.2.1=some (D1 d (lS [x] 0)):=Hw hd hB.1;have g2:BK d x.2.2.2.1=some (D1 d (lT [x] 0)):=Hw hd hB.2;have BX:mT d (b1 d l i) (b2 d l i) (C0 (Ax d f')):=by rw[hC0];exact OC i hi
 unfold Ph NY NZ;rw[e1,h1.2 ⟨hd,ZN⟩];simp only[AQS,AQo,e2,h2.2 ⟨hd,AvX⟩,AP9];rw[ec,AP9];simp only[AQS,AQo];rw[sR hd ZN hc,AP9,AP9,AP9,ARw];rw[g1,AP9,g2,AP9,s5,s6];rw[AiP hd s1,AP9,AiP hd s2,AP9,dQ hd ZN hc,AP9,AiF hd ZN hc,AP9,WO hd ZN hc,AP9];rw[nS hd ZN s1 s2 s3 BX];rw[hC0];rfl
theorem Aii(hd:AE d)(hl:∀x∈l,MK x)(Ov:FD d l)(hs:CF d l)(OC:EB d l f)(ht:∀v p,f v p=true->v<d.length/\1<=p/\p<W d v){i:Nat}(hi:i<l.length)(a:Int)(x:ASG)(y:ASK) :
    Iw a (i:Int) x y ((List.range l.length).map (Ox d l)) (Ax d f) (SL d (Ax d f) d.length) (iJ (SL d (Ax d f) d.length) (SL d (Ax d f) d.length).length) =
     some (ua d l f i,x,y,(List.range l.length).map (Ox d l),Ax d f,SL d (Ax d f) d.length,iJ (SL d (Ax d f) d.length) (SL d (Ax d f) d.length).length):=by
 have hC0:=Zv ht;obtain⟨ZN,hc⟩:=QQ hd f;obtain⟨s1,s2,s3,s4,s5,s6⟩:=PE hd hl Ov hs hi;have BX:mT d (b1 d l i) (b2 d l i) (C0 (Ax d f)):=by rw[hC0];exact OC i hi
 have hlen:i<((List.range l.length).map (Ox d l)).length:=by grind
 unfold Iw;rw[AQr (Bq hlen),AQr (Bq hlen),AQa,Gk hi,s4];rw[nD hd ZN hc s1 s2 s3 BX,hC0];rfl
theorem Avc{B:ATO Bt}(h:Bv d B){L:ASH}{a b:Nat}(zD:a<b)(hb:b<=B.length)(hn:∀v x,LC B a=.va v x->∃n,Ht L (nk v x) L.length=some n):al L.length (V9 L B a b):=by
 unfold V9;split
 ·refine .inr ⟨by omega,?_,?_⟩
  ·show 0<((uT B a _).length:Int);unfold uT
   grind
  ·have hl:(uT B a (b-a)).length<=4096:=by
     unfold uT;rw[AQl,AQu];have:=h.2.1;omega
   obtain⟨h1,h2⟩:=pC _;refine⟨?_,?_,h2⟩
   ·rw[h1];unfold nw;omega
   ·show((uT B a _).length:Int)<=4096;omega
 ·rename_i v x hq;obtain⟨n,hn⟩:=hn v x hq;rw[hn];have:=(Wg hn).1;exact .inl ⟨by show 0<=(n:Int);omega,by show L.length>(n:Int);omega⟩
theorem vw{c:ASQ}{B:ATO Bt}(h:Bv d B){a b i k:Nat}(S:mR d c B a b i k):al (SL d c d.length).length (V9 (SL d c d.length) B a b):=Avc h S.lt S.le λv x hq=>by
 rw[iX S]at hq;have hk:=S.hk;have Bw:=S.lt;cases hs:(Az B).getD i _ with
 |co y =>
  rw[hs]at hq hk;simp only[Sg.w]at hk;rw[show(Sg.co y).bits=y.map _ from rfl,Fq _ (y:=false) (by omega)]at hq;cases hq
 |va v' l' n =>
  rw[hs]at hq hk;simp only[Sg.w]at hk;rw[show(Sg.va v' l' n).bits=(List.range n).map _ from rfl,Gk (by omega)]at hq;injection hq with e1 e2;subst e1;subst e2;obtain⟨m,hm,_⟩:=S.va _ _ _ hs;exact⟨m,hm⟩
theorem qv{B1 B2:ATO Bt}{h:Nat->Nat->Bool}{L:ASH}:∀{p:Nat},p<=B1.length->∀x∈PP L B1 B2 0 (eL B1 B2 h p),∃a b,Gap B1 B2 h a b/\x=pcV L B1 B2 a b
 |0,_,x,hx=>by simp[eL,PP]at hx
 |1,_,x,hx=>by rw[zw]at hx;simp[PP]at hx
 |p+2,hp,x,hx=>by
  rw[cW _ (by omega)]at hx;split at hx
  ·rename_i hP;rw[UJ]at hx;rcases List.mem_append.1 hx with hx |hx
   ·exact qv (by omega) x hx
   ·rw[AQA]at hx;exact⟨_,_,bl (by omega) (by omega) (.inr hP),hx⟩
  ·exact qv (by omega) x hx
theorem wS(hd:AE d)(hl:∀x∈l,MK x)(Ov:FD d l)(hs:CF d l)(OC:EB d l f)(ht:∀v p,f v p=true->v<d.length/\1<=p/\p<W d v){i:Nat}(hi:i<l.length) :
    (ua d l f i).length<=4097/\∀x∈ua d l f i,al (SL d (Ax d f) d.length).length x.1/\al (SL d (Ax d f) d.length).length x.2.1:=by
 have hC0:=Zv ht;obtain⟨ZN,hc⟩:=QQ hd f;obtain⟨s1,s2,s3,s4,s5,s6⟩:=PE hd hl Ov hs hi;have BX:mT d (b1 d l i) (b2 d l i) (C0 (Ax d f)):=by rw[hC0];exact OC i hi
 have hn1:=s1.1;have hn2:=s1.2.1;refine⟨?_,λx hx=>?_⟩
 ·unfold ua;rw[qw,AQd,AQt];have:=zu (B1:=b1 d l i) (B2:=b2 d l i) (h:=f) (b1 d l i).length;omega
 ·have hg:∃a b,Gap (b1 d l i) (b2 d l i) f a b/\x=pcV (SL d (Ax d f) d.length) (b1 d l i) (b2 d l i) a b:=by
    unfold ua at hx;rw[UJ]at hx;rcases List.mem_append.1 hx with hx |hx
    ·exact qv (AQf _) x hx
    ·rw[AQA]at hx;exact⟨_,_,bl (by omega) (AQf _) (.inl rfl),hx⟩
  obtain⟨a,b,g,rfl⟩:=hg;have g':Gap (b1 d l i) (b2 d l i) (C0 (Ax d f)) a b:=by rw[hC0];exact g
  obtain⟨⟨i1,k1,S1⟩,i2,k2,S2⟩:=ZL hd ZN s1 s2 s3 BX g';exact⟨vw s1 S1,vw s2 S2⟩
end
variable {H:ASo->ASo->Prop}
theorem AiS{ns:Nat}{P:ASO}(hH:∀x∈P,H x.1 x.2.1)(hP:∀x∈P,al ns x.1/\al ns x.2.1)(hPl:P.length<=4097){l:ASK}{i:Nat}(hi:i<l.length)
    (a c d:Int) (b1:ASG) (c1:ASK) (d1:ATO ub) (e1:ASQ) (g1:ASH) (i1:ATO ASY) (sd:ASG) (sn se:Int) (sg si:ASx) :
    ∀(m k N:Nat) (ld fx:ASC) (vm:ATO ASV) (ks:ASH) (vs:ASL) (Bi:ASC) (rt:Nat->Nat),k+m=P.length->JN H ns N ld fx vm ks vs Bi rt->N+2*m<=1999990->ks.length+m<900000 ->
     ∃x y,Dk a c l d (i:Int) P (P.length:Int) b1 c1 d1 e1 g1 i1 (l.getD i Ah.zero) (k:Int) ld fx vm ks=some x/\FR sd l sn se (i:Int) sg si P (k:Int) vs ks Bi=some y /\
      ((∃w z,x=.inl w/\y=.inl z/\w.1≠[]/\z.1≠[])\/∃gn yg yp UO Z3 ai ix N',x=.inr (gn,yg,yp,UO)/\y=.inr (Z3,UO,ai)/\JN H ns N' gn yg yp UO Z3 ai ix/\N'<=N+2*m/\UO.length<=ks.length+m/\Ext ns rt vs ix Z3/\∀x∈P.drop k,P1 ns ix Z3 x)
 |0,k,N,ld,fx,vm,ks,vs,Bi,rt,hk,J,h1,h2=>by
  have:k=P.length:=by omega
  subst this;refine⟨.inr (ld,fx,vm,ks),.inr (vs,ks,Bi),?_,?_,.inr ⟨ld,fx,vm,ks,vs,Bi,rt,N,rfl,rfl,J,by omega,by omega,.refl,λx hx=>by simp at hx⟩⟩
  ·unfold Dk;refine K9 ?_;unfold CJ DG;simp only;rw[Ew,AQo]
  ·unfold FR;refine K9 ?_;unfold Eo Gu;simp only;rw[Ew,AQo]
 |m+1,k,N,ld,fx,vm,ks,vs,Bi,rt,hk,J,h1,h2=>by
  have Bw:k<P.length:=by omega
  obtain⟨hA,hB⟩:=hP _ (AO (z :=As.zero) Bw);obtain⟨x,y,ex,ey,hR⟩:=AmA J hA hB (by omega) (by omega) (hH _ (AO Bw)) c se (l.getD i Ah.zero).1;have hw:wI ((k:Int)+1)=((k+1:Nat):Int):=A6;obtain⟨x1,x2,x3,x4,x5,x6⟩:=x;obtain⟨y1,y2,y3,y4,y5⟩:=y;rcases hR with ⟨rfl,rfl,n1,n2⟩|⟨rfl,rfl,N',ix,r1,r2,r3,r4,J',z1,z2⟩
  ·refine⟨.inl (x3,x4,x5,x2,x6),.inl (y2,y3,y4,y5),?_,?_,.inl ⟨_,_,rfl,rfl,n1,n2⟩⟩
   ·unfold Dk;refine K9 ?_;unfold CJ DG;simp only[AQa];rw[Di Bw,AQp,AQr (Bq Bw),ex,AP9];rfl
   ·unfold FR;refine K9 ?_;unfold Eo Gu;simp only[AQa];rw[Di Bw,AQp,AQr (Bq Bw),AQr (Bq hi),ey,AP9];rfl
  ·simp only at r3 r4 J' z1 z2;subst r4;obtain⟨X,Y,eX,eY,hX⟩:=AiS hH hP hPl hi a c d b1 c1 d1 e1 g1 i1 sd sn se sg si m (k+1) N' x4 x5 x2 y4 y3 y5 ix (by omega) J' (by omega) (by omega);refine⟨X,Y,?_,?_,?_⟩
   ·rw[<-eX];unfold Dk;refine OW ?_;unfold CJ DG;simp only[AQa];rw[Di Bw,AQp,AQr (Bq Bw),ex,AP9,hw];rfl
   ·rw[<-eY];unfold FR;refine OW ?_;unfold Eo Gu;simp only[AQa];rw[Di Bw,AQp,AQr (Bq Bw),AQr (Bq hi),ey,AP9,hw];rfl
   ·rcases hX with h |⟨gn,yg,yp,UO,Z3,ai,Ad0,N'',q1,q2,q3,q4,q5,q6,q7⟩
    ·exact .inl h
    ·refine .inr ⟨gn,yg,yp,UO,Z3,ai,Ad0,N'',q1,q2,q3,by omega,by omega,z1.trans q6,λx hx=>?_⟩;rw[ARN Bw]at hx;rcases List.mem_cons.1 hx with rfl |hx
     ·exact(show P1 ns ix y3 P[k] by rw[show P[k]=P.getD k As.zero by simp[List.getD,Bw]];exact z2).mono q6
     ·exact q7 x hx
section
variable {d:ASG} {l:ASK} {f:Nat->Nat->Bool}
theorem sf(hH:∀i,i<l.length->∀x∈ua d l f i,H x.1 x.2.1)(hd:AE d)(hl:∀x∈l,MK x)(Ov:FD d l)(hs:CF d l)(OC:EB d l f)(ht:∀v p,f v p=true->v<d.length/\1<=p/\p<W d v)(a c sn se:Int) :
    ∀(m i N:Nat) (ld fx:ASC) (vm:ATO ASV) (ks:ASH) (vs:ASL) (Bi:ASC) (rt:Nat->Nat),i+m=l.length->JN H (SL d (Ax d f) d.length).length N ld fx vm ks vs Bi rt->N+8194*m<=1999990->ks.length+4097*m<900000 ->
     ∃x y,CB a l c (l.length:Int) (i:Int) d l ((List.range l.length).map (Ox d l)) (Ax d f) (SL d (Ax d f) d.length) (iJ (SL d (Ax d f) d.length) (SL d (Ax d f) d.length).length) ld fx vm ks=some x /\
      Ec d l sn se (Ax d f,()) (Ax d f,()) (i:Int) vs ks Bi=some y /\
      ((∃w z,x=.inl w/\y=.inl z/\w.2.2.2.2.2.2.1≠[]/\z.1≠[])\/∃gn yg yp UO Z3 ai ix N',x=.inr (d,l,(List.range l.length).map (Ox d l),Ax d f,SL d (Ax d f) d.length,iJ (SL d (Ax d f) d.length) (SL d (Ax d f) d.length).length,gn,yg,yp,UO)/\y=.inr (Z3,UO,ai)/\JN H (SL d (Ax d f) d.length).length N' gn yg yp UO Z3 ai ix/\N'<=1999990/\Ext (SL d (Ax d f) d.length).length rt vs ix Z3/\∀i',i<=i'->i'<l.length->(l.getD i' Ah.zero).2.1=true->∀x∈ua d l f i',P1 (SL d (Ax d f) d.length).length ix Z3 x)
 |0,i,N,ld,fx,vm,ks,vs,Bi,rt,hk,J,h1,h2=>by
  have:i=l.length:=by omega
  subst this;refine⟨.inr (d,l,(List.range l.length).map (Ox d l),Ax d f,SL d (Ax d f) d.length,iJ (SL d (Ax d f) d.length) (SL d (Ax d f) d.length).length,ld,fx,vm,ks),.inr (vs,ks,Bi),?_,?_,.inr ⟨ld,fx,vm,ks,vs,Bi,rt,N,rfl,rfl,J,by omega,.refl,λi' h1 h2=>by omega⟩⟩
  ·unfold CB;refine K9 ?_;unfold Cd CK;simp only;rw[Ew,AQo]
  ·unfold Ec;refine K9 ?_;unfold Dh Ep;simp only;rw[Ew,AQo]
 |m+1,i,N,ld,fx,vm,ks,vs,Bi,rt,hk,J,h1,h2=>by
  have Bw:i<l.length:=by omega
  have ia:=Ov.1;have hw:wI ((i:Int)+1)=((i+1:Nat):Int):=A6;cases hE:(l.getD i Ah.zero).2.1 with
  |false =>
   obtain⟨X,Y,eX,eY,hX⟩:=sf hH hd hl Ov hs OC ht a c sn se m (i+1) N ld fx vm ks vs Bi rt (by omega) J (by omega) (by omega);refine⟨X,Y,?_,?_,?_⟩
   rotate_right
   ·rcases hX with h |⟨gn,yg,yp,UO,Z3,ai,ix,N',q1,q2,q3,q4,q5,q6⟩
    ·exact .inl h
    ·refine .inr ⟨gn,yg,yp,UO,Z3,ai,ix,N',q1,q2,q3,q4,q5,λi' h1 h2 h3=>?_⟩;by_cases e:i'=i
     ·subst e;rw[hE]at h3;cases h3
     ·exact q6 i' (by omega) h2 h3
   ·rw[<-eX];unfold CB;refine OW ?_;unfold Cd CK Dl;simp only[AQa];rw[Di Bw,AQp,AQr (Bq Bw),hE,hw];rfl
   ·rw[<-eY];unfold Ec;refine OW ?_;unfold Dh Ep FT;simp only[AQa];rw[Di Bw,AQp,AQr (Bq Bw),hE,hw];rfl
  |true =>
   have eP:=Aii hd hl Ov hs OC ht Bw a d l;have eS:=AjD hd hl Ov hs OC ht Bw;obtain⟨p1,p2⟩:=wS hd hl Ov hs OC ht Bw;obtain⟨x,y,ex,ey,hR⟩:=AiS (hH i Bw) p2 p1 Bw a c (l.length:Int) d l ((List.range l.length).map (Ox d l)) (Ax d f) (SL d (Ax d f) d.length) (iJ (SL d (Ax d f) d.length) (SL d (Ax d f) d.length).length) d sn se (Ax d f,()) (Ax d f,()) (ua d l f i).length 0 N ld fx vm ks vs Bi rt (by omega) J (by omega) (by omega);have e0:((0:Nat):Int)=0:=rfl;rw[e0]at ex ey;rcases hR with ⟨w,z,rfl,rfl,n1,n2⟩|⟨gn,yg,yp,UO,Z3,ai,ix,N',rfl,rfl,J',q1,q2,q3,q4⟩
   ·refine⟨.inl (d,l,(List.range l.length).map (Ox d l),Ax d f,SL d (Ax d f) d.length,iJ (SL d (Ax d f) d.length) (SL d (Ax d f) d.length).length,w.1,w.2.1,w.2.2.1,w.2.2.2.1,w.2.2.2.2),.inl (z.1,z.2.1,z.2.2.1,z.2.2.2),?_,?_,.inl ⟨_,_,rfl,rfl,n1,n2⟩⟩
    ·unfold CB;refine K9 ?_;unfold Cd CK Dl;simp only[AQa];rw[Di Bw,AQp,AQr (Bq Bw),hE,AQS,AQo,eP,AP9];simp only;rw[ex];rfl
    ·unfold Ec;refine K9 ?_;unfold Dh Ep FT;simp only[AQa];rw[Di Bw,AQp,AQr (Bq Bw),AQr (Bq Bw),hE,AQS,AQo,eS,AP9];simp only;rw[ey];rfl
   ·obtain⟨X,Y,eX,eY,hX⟩:=sf hH hd hl Ov hs OC ht a c sn se m (i+1) N' gn yg yp UO Z3 ai ix (by omega) J' (by omega) (by omega);refine⟨X,Y,?_,?_,?_⟩
    rotate_right
    ·rcases hX with h |⟨AKF,AJf,AKN,Ain,Anf,AGT,Ad0,N'',u1,u2,u3,u4,u5,u6⟩
     ·exact .inl h
     ·refine .inr ⟨AKF,AJf,AKN,Ain,Anf,AGT,Ad0,N'',u1,u2,u3,u4,q3.trans u5,λi' h1 h2 h3=>?_⟩;by_cases e:i'=i
      ·subst e;exact λx hx=>(q4 x (by simpa using hx)).mono u5
      ·exact u6 i' (by omega) h2 h3
    ·rw[<-eX];unfold CB;refine OW ?_;unfold Cd CK Dl;simp only[AQa];rw[Di Bw,AQp,AQr (Bq Bw),hE,AQS,AQo,eP,AP9,hw];simp only;rw[ex];rfl
    ·rw[<-eY];unfold Ec;refine OW ?_;unfold Dh Ep FT;simp only[AQa];rw[Di Bw,AQp,AQr (Bq Bw),AQr (Bq Bw),hE,AQS,AQo,eS,AP9,hw];simp only;rw[ey];rfl
end
variable {H:ASo->ASo->Prop}
def isR(rt:Nat->Nat)(i:Nat):Bool:=(List.range i).all λj=>rt j !=rt i
def Df(rt:Nat->Nat):Nat->ASE
 |0=>[]
 |i+1=>if isR rt i=true then Df rt i++[i]else Df rt i
def R3(rt:Nat->Nat):Nat->Nat->ASC
 |0,_=>[]
 |i+1,a=>if rt i=rt a then R3 rt i a++[(i:Int)]else R3 rt i a
theorem r6{rt:Nat->Nat}{i:Nat}:isR rt i=true↔∀j,j<i->rt j≠rt i:=by
 unfold isR;simp
theorem r7{rt:Nat->Nat}{i:Nat}(h:isR rt i=false):∃j,j<i/\rt j=rt i:=by
 unfold isR at h
 grind
abbrev rp(rt:Nat->Nat)(i k:Nat):Nat:=(Df rt i).getD k 0
theorem iW(rt:Nat->Nat):∀i,(Df rt i).length<=i
 |0=>AQf _
 |i+1=>by
  have:=iW rt i;unfold Df
  grind
theorem iT(rt:Nat->Nat)(a:Nat):∀i,(R3 rt i a).length<=i
 |0=>AQf _
 |i+1=>by
  have:=iT rt a i;unfold R3
  grind
theorem Ws(rt:Nat->Nat):∀(i k:Nat),k<(Df rt i).length->rp rt i k<i/\isR rt (rp rt i k)=true
 |0,k,h=>by simp[Df]at h
 |i+1,k,h=>by
  unfold rp Df at *;by_cases e:isR rt i=true
  ·rw[AQr e]at h⊢;rw[AQd,AQt]at h;by_cases hk:k<(Df rt i).length
   ·have:=Ws rt i k hk
    grind
   grind
  ·rw[AQs e]at h⊢;have:=Ws rt i k h
   grind
theorem dN(rt:Nat->Nat):∀(i j:Nat),j<i->∃k,k<(Df rt i).length/\rt (rp rt i k)=rt j
 |0,j,h=>by omega
 |i+1,j,h=>by
  unfold rp Df;by_cases e:isR rt i=true
  ·rw[AQr e,AQd,AQt];by_cases hj:j=i
   ·subst hj;exact⟨(Df rt j).length,by omega,by grind⟩
   ·obtain⟨k,hk,h2⟩:=dN rt i j (by omega);exact⟨k,by omega,by grind⟩
  ·rw[AQs e];by_cases hj:j=i
   ·subst hj;obtain⟨j',h1,h2⟩:=r7 (Bool.eq_false_iff.2 e);obtain⟨k,hk,h3⟩:=dN rt j j' h1;exact⟨k,hk,h3.trans h2⟩
   ·exact dN rt i j (by omega)
theorem Awz{rt:Nat->Nat}{i k k':Nat}(hk:k<(Df rt i).length)(XC:k'<(Df rt i).length)(h:rt (rp rt i k)=rt (rp rt i k')):rp rt i k=rp rt i k':=by
 obtain⟨_,h1⟩:=Ws rt i k hk;obtain⟨_,h2⟩:=Ws rt i k' XC;rw[r6]at h1 h2
 grind
theorem fE(rt:Nat->Nat):∀i,(Df rt i).Pairwise (·<·)
 |0=>List.Pairwise.nil
 |i+1=>by
  unfold Df;split
  ·rw[List.pairwise_append];refine⟨fE rt i,List.pairwise_singleton _ _,λa ha b hb=>?_⟩;rw[AQA]at hb;subst hb;obtain⟨k,hk,e⟩:=List.mem_iff_getElem.1 ha;have:=(Ws rt b k hk).1
   grind
  ·exact fE rt i
theorem AmX{rt:Nat->Nat}{i k k':Nat}(hk:k<(Df rt i).length)(XC:k'<(Df rt i).length)(h:rp rt i k=rp rt i k'):k=k':=by
 have hp:=List.pairwise_iff_getElem.1 (fE rt i)
 grind
def cV(rt:Nat->Nat)(fx:ASC)(vs:ASL)(i a:Nat):ASy :=
 (R3 rt i a,bif decide (gI fx (rt a)>=0)then(true,((gB vs (gI fx (rt a)).toNat).1,(gB vs (gI fx (rt a)).toNat).2.1,()),())else(false,(0,[],()),()))
abbrev PM:Type:=List AS1
structure Plc (rt:Nat->Nat) (i:Nat) (g:PM):Prop where
 A5:∀k,k<(Df rt i).length->Ul ATy ATy g ((rt (rp rt i k):Nat):Int)=true/\BA ATy ATy g ((rt (rp rt i k):Nat):Int)=(k:Int)
 has:∀r:Nat,Ul ATy ATy g (r:Int)=true->∃k,k<(Df rt i).length/\rt (rp rt i k)=r
theorem sj{A B:Type}{F G:A->B}{l:ATO A}{k:Nat}{z:A}(hk:k<l.length)(h:∀k',k'<l.length->k'≠k->F (l.getD k' z)=G (l.getD k' z)):(l.map F).set k (G (l.getD k z))=l.map G:=by
 apply ARp
 ·simp
 grind
theorem qT{ns N:Nat}{ld fx:ASC}{vm:ATO ASV}{ks:ASH}{vs:ASL}{Bi:ASC}{rt:Nat->Nat}(J:JN H ns N ld fx vm ks vs Bi rt)(hN:N<=1999990)(a:Int) :
    Ay (Gs a (ns:Int) ld fx vm ks) λr=>r.2.2.2.2=(Df rt ns).map (cV rt fx vs ns):=by
 have hnn:=J.nn;have iL:=J.l2;have hl3:=J.l3;unfold Gs;refine Ay.bind (P:=λr:ASC×ASC×ATO ASV×ASH×ASN=>r.2.2.2.2=(Df rt ns).map (cV rt fx vs ns)) ?_ λr hr=>Ay.mk hr;unfold Kq;refine BB (λm (s:Int×ASC×ASC×ATO ASV×ASH×ASN×PM)=>∃i:Nat,s.1=(i:Int)/\i<=ns/\m=ns-i/\(∃dp,Fo s.2.1 rt dp)/\s.2.1.length=N/\s.2.2.1=fx/\s.2.2.2.1=vm/\s.2.2.2.2.2.1=(Df rt i).map (cV rt fx vs i)/\Plc rt i s.2.2.2.2.2.2) (λm s hI=>?_) ns (0,ld,fx,vm,ks,[],[]) ⟨0,rfl,AQW _,rfl,J.fo,J.l1,rfl,rfl,rfl,⟨λk h=>by simp[Df]at h,λr h=>by simp[Ul,O9]at h⟩⟩;obtain⟨i,e1,hi,rfl,⟨dp,hf⟩,hl,e2,e3,e4,hP⟩:=hI;obtain⟨g,x,y,v,k0,out,pl⟩:=s;simp only at e1 hf hl e2 e3 e4 hP;subst e1;subst e2;subst e3;subst e4;unfold Fb I6;simp only;rcases AQk i ns with Bw |ag
 ·have hri:rt i<N:=by have:=(hf.ak i (by omega)).1;omega
  have hrr:=hf.bY i;obtain⟨c,ec,x',rfl,zL,hf'⟩:=ru hf (j:=i) (by omega) a y v k0;rw[Di Bw,AQp,ec,AP9];simp only;have hrl:=iW rt i;have hw:wI ((i:Int)+1)=((i+1:Nat):Int):=A6;unfold GD;cases hR:isR rt i with
  |false =>
   obtain⟨j,hj,ej⟩:=r7 hR;obtain⟨k,hk,ek⟩:=dN rt i j hj;rw[ej]at ek;obtain⟨h1,h2⟩:=hP.A5 k hk;rw[ek]at h1 h2;have zP:Df rt (i+1)=Df rt i:=by rw[Df,AQs (by rw[hR];simp)]
   rw[h1,h2,AQS,AQo,AP9];have hol:((Df rt i).map (cV rt y vs i)).length=(Df rt i).length:=AQl _;have hgk:((Df rt i).map (cV rt y vs i)).getD k Ao.zero=cV rt y vs i (rp rt i k):=Fq (cV rt y vs i) (y:=0) hk;simp only[AQa,hgk];have hml:=iT rt (rp rt i k) i;rw[AQr (show(0:Int)<=(k:Int)/\(k:Int)<(((Df rt i).map (cV rt y vs i)).length:Int) by omega),AQr (show((cV rt y vs i (rp rt i k)).1.length+([(i:Int)]:ASC).length)*8<=140737488355328 by rw[AQt];show((R3 rt i (rp rt i k)).length+1)*8<=_;omega),AQr (show(0:Int)<=(k:Int)/\(k:Int)<(((Df rt i).map (cV rt y vs i)).length:Int) by omega),AQr trivial,hw];refine Ay.mk ⟨ns-(i+1),by omega,i+1,rfl,by omega,rfl,⟨dp,hf'⟩,by simp only;omega,rfl,rfl,?_,?_⟩
   ·simp only;rw[zP];have hc:((cV rt y vs i (rp rt i k)).1++[(i:Int)],(cV rt y vs i (rp rt i k)).2)=cV rt y vs (i+1) (rp rt i k):=by
     unfold cV;rw[R3,AQr ek.symm]
    rw[hc];refine sj hk λk' XC MO=>?_;unfold cV;rw[R3,AQs λe=>MO (AmX XC hk (Awz XC hk (by show rt (rp rt i k')=_;rw[ek];exact e.symm)))]
   ·exact⟨by rw[show rp rt (i+1)=rp rt i by unfold rp;rw[zP],zP];exact hP.A5,by rw[show rp rt (i+1)=rp rt i by unfold rp;rw[zP],zP];exact hP.has⟩
  |true =>
   have rO:=r6.1 hR;have ah:Ul ATy ATy pl ((rt i:Nat):Int)=false:=by
    rw[Bool.eq_false_iff];intro h;obtain⟨k,hk,ek⟩:=hP.has _ h;exact rO _ (Ws rt i k hk).1 ek
   have zP:Df rt (i+1)=Df rt i++[i]:=by rw[Df,AQr hR]
   rw[ah,ARu,AQp];have hol:((Df rt i).map (cV rt y vs i)).length=(Df rt i).length:=AQl _;have e3:D4 a (i:Int) ((rt i:Nat):Int) (ns:Int) x' y v k0 ((Df rt i).map (cV rt y vs i)) (((Df rt i).map (cV rt y vs i)).length:Int) (Cs ATy ATy pl ((rt i:Nat):Int) (((Df rt i).map (cV rt y vs i)).length:Int))=some (bif decide (gI y (rt i)>=0)then(true,(gB vs (gI y (rt i)).toNat).1,(gB vs (gI y (rt i)).toNat).2.1)else(false,0,[])):=by
    unfold D4;simp only[AQa];rw[AQr (show(0:Int)<=((rt i:Nat):Int)/\((rt i:Nat):Int)<(y.length:Int) by omega)];show(bif decide (gI y (rt i)>=0)then _ else _)=_;cases hd:decide (gI y (rt i)>=0)with
    |false=>rfl
    |true =>
     have hd:gI y (rt i)>=0:=ASd hd;rw[AQp,AQp];have hF:=J.fx_ _ hri hrr;rcases hF with ⟨h,_⟩|⟨q,h,h3,h4,h5,_⟩
     ·omega
     ·have hb:=J.vl q h4 h3;have hbw:=(J.bw q h4).1;show(Dp (BA ATy Ai v (gI y (rt i)))).bind _=_;rw[h,AQa];rw[show BA ATy Ai v (q:Int)=gB vs q from hb];unfold Dp;rw[WA];rfl
   rw[e3,AP9,AQr (by rw[AQt];omega),AP9];simp only;generalize hbv:(bif decide (gI y (rt i)>=0)then(true,(gB vs (gI y (rt i)).toNat).1,(gB vs (gI y (rt i)).toNat).2.1)else(false,0,[]):Bool×Int×ASC)=bv;have YE:cV rt y vs (i+1) i=([(i:Int)],bv.1,(bv.2.1,bv.2.2,()),()):=by
    have hm:R3 rt i i=[]:=by
     have:∀n,n<=i->R3 rt n i=[]:=λn=>by
      induction n with
      |zero=>intro _;rfl
      |succ n ih=>intro h;rw[R3,AQs (rO n (by omega))];exact ih (by omega)
     exact this i (AQf _)
    unfold cV;rw[R3,AQr rfl,hm,<-hbv];cases decide (gI y (rt i)>=0)<;>rfl
   simp only[AQa];have hgl:(((Df rt i).map (cV rt y vs i))++[(([]:ASC),bv.1,(bv.2.1,bv.2.2,()),())]).getD ((Df rt i).map (cV rt y vs i)).length Ao.zero=(([]:ASC),bv.1,(bv.2.1,bv.2.2,()),()):=by simp[List.getD]
   rw[hgl];have hal:(((((Df rt i).map (cV rt y vs i))++[(([]:ASC),bv.1,(bv.2.1,bv.2.2,()),())]):ASN).length:Int)=(((Df rt i).map (cV rt y vs i)).length:Int)+1:=by rw[AQd,AQt];omega
   rw[hal,WA,AQr (by rw[AQt];simp),WA,AQr trivial,hw];refine Ay.mk ⟨ns-(i+1),by omega,i+1,rfl,by omega,rfl,⟨dp,hf'⟩,by simp only;omega,rfl,rfl,?_,?_⟩
   ·simp only;rw[zP,AQT,ARy _ _ (AQf _),ARV];have hmm:(Df rt i).map (cV rt y vs (i+1))=(Df rt i).map (cV rt y vs i):=AQY λb hb=>by
     obtain⟨k,hk,e⟩:=List.mem_iff_getElem.1 hb;have AGi:=(Ws rt i k hk).1;rw[show rp rt i k=b by rw[<-e];simp[rp,List.getD,hk]]at AGi;unfold cV;rw[R3,AQs (Ne.symm (rO b AGi))]
    rw[hmm];show _=_++[cV rt y vs (i+1) i];rw[YE];rfl
   ·have AOC:(Df rt (i+1)).length=(Df rt i).length+1:=by rw[zP,AQd,AQt]
    have hg1:∀k,k<(Df rt i).length->rp rt (i+1) k=rp rt i k:=λk hk=>by unfold rp;rw[zP];simp[List.getD,AQz,hk]
    have hg2:rp rt (i+1) (Df rt i).length=i:=by unfold rp;rw[zP];simp[List.getD]
    refine⟨λk hk=>?_,λr hr=>?_⟩
    ·by_cases e:k<(Df rt i).length
     ·have MO:((rt (rp rt i k):Nat):Int)≠((rt i:Nat):Int):=λh=>rO _ (Ws rt i k e).1 (by omega);rw[hg1 k e,Xp (vt:=.int .i64),SA (vt:=.int .i64),AQs MO,(hP.A5 k e).1,(hP.A5 k e).2,Bool.or_true];exact⟨rfl,rfl⟩
     ·have:k=(Df rt i).length:=by omega
      subst this;rw[hg2,Xp (vt:=.int .i64),SA (vt:=.int .i64),AQr rfl,AQe rfl,Bool.true_or,hol];exact⟨rfl,rfl⟩
    ·rw[Xp (vt:=.int .i64),ARr,ARY]at hr;rcases hr with hr |hr
     ·exact⟨(Df rt i).length,by omega,by rw[hg2];omega⟩
     ·obtain⟨k,hk,ek⟩:=hP.has r hr;exact⟨k,by omega,by rw[hg1 k hk];exact ek⟩
 ·have:i=ns:=by omega
  subst this;rw[Ew,AQo];exact Ay.mk rfl
variable {H:ASo->ASo->Prop}
theorem qU{ns N:Nat}{ld fx:ASC}{vm:ATO ASV}{ks:ASH}{vs:ASL}{Bi:ASC}{rt:Nat->Nat}(J:JN H ns N ld fx vm ks vs Bi rt)(hN:N<=1999990)(b:Int)(c:ASx) :
    Ay (KO (ns:Int) b c 0 [] vs ks Bi) (·=(Df rt ns).map (cV rt fx vs ns)):=by
 have hnn:=J.nn;have iL:=J.l2;have hl3:=J.l3;have hl4:=J.l4;obtain⟨dp,hf⟩:=J.fo;unfold KO;refine BB (λm (s:Int×ASN×ASL×ASH×ASC)=>∃i:Nat,s.1=(i:Int)/\i<=ns/\m=ns-i/\s.2.1=(Df rt i).map (cV rt fx vs ns)/\s.2.2.1=vs/\s.2.2.2.1=ks/\s.2.2.2.2=Bi) (λm s hI=>?_) ns (0,[],vs,ks,Bi) ⟨0,rfl,AQW _,rfl,rfl,rfl,rfl,rfl⟩;obtain⟨i,e1,hi,rfl,e2,e3,e4,e5⟩:=hI;obtain⟨g,out,v,k0,l⟩:=s;simp only at e1 e2 e3 e4 e5;subst e1;subst e2;subst e3;subst e4;subst e5;unfold IR Nm;simp only;rcases AQk i ns with Bw |ag
 ·have hw:wI ((i:Int)+1)=((i+1:Nat):Int):=A6;obtain⟨o1,o2,o3⟩:=J.lo i (by omega);have hrl:=iW rt i;have hri:rt i<N:=by have:=(hf.ak i (by have:=J.l1;omega)).1;have:=J.l1;omega
  rw[Di Bw,AQp];unfold KN;simp only[AQa];rw[AQr (Bq (show i<l.length by omega))];cases hR:isR rt i with
  |false =>
   obtain⟨j,hj,ej⟩:=r7 hR;have h1:=(J.sm j i (by omega) (by omega)).2 ej;have h2:=(J.lo j (by omega)).2.1;have zP:Df rt (i+1)=Df rt i:=by rw[Df,AQs (by rw[hR];simp)]
   rw[show decide (l.getD i ATy.zero<(i:Int))=true from AQe (show gI l i<(i:Int) by omega),AQp,AP9,hw];exact Ay.mk ⟨ns-(i+1),by omega,i+1,rfl,by omega,rfl,by simp only;rw[zP],rfl,rfl,rfl⟩
  |true =>
   have rO:=r6.1 hR;have Y6:gI l i=(i:Int):=by
    rcases Int.lt_or_eq_of_le o2 with h |h
    ·exfalso
     have h3:=(J.sm (gI l i).toNat i (by omega) (by omega)).1 (by rw[o3]);exact rO _ (by omega) h3
    ·exact h
   have zP:Df rt (i+1)=Df rt i++[i]:=by rw[Df,AQr hR]
   rw[show decide (l.getD i ATy.zero<(i:Int))=false from AQc (show ¬gI l i<(i:Int) by omega),AQo];have zN:R3 rt i i=[]:=by
    have:∀n,n<=i->R3 rt n i=[]:=λn=>by
     induction n with
     |zero=>intro _;rfl
     |succ n ih=>intro h;rw[R3,AQs (rO n (by omega))];exact ih (by omega)
    exact this i (AQf _)
   obtain⟨x,ex,hx⟩:Ay (KM (ns:Int) b (i:Int) c ((Df rt i).map (cV rt fx v ns)) v k0 l (i:Int) []) (·=R3 rt ns i):=by
    unfold KM;refine BB (λm (s:Int×ASC)=>∃k:Nat,s.1=(k:Int)/\i<=k/\k<=ns/\m=ns-k/\s.2=R3 rt k i) (λm s hI=>?_) (ns-i) ((i:Int),[]) ⟨i,rfl,AQf _,hi,rfl,zN.symm⟩;obtain⟨k,q1,q2,q3,rfl,q4⟩:=hI;obtain⟨w,x⟩:=s;simp only at q1 q4;subst q1;subst q4;unfold IQ Nl KL;simp only;rcases AQk k ns with hk |hk
    ·have ny:wI ((k:Int)+1)=((k+1:Nat):Int):=A6;have hml:=iT rt i k;rw[Di hk,AQp];simp only[AQa];rw[AQr (Bq (show k<l.length by omega))];have hE:=J.sm k i (by omega) (by omega);rw[Y6]at hE;by_cases e:rt k=rt i
     ·rw[show(l.getD k ATy.zero==(i:Int))=true from beq_iff_eq.2 (hE.2 e),AQp,AQr (by rw[AQt];omega),AP9,ny];exact Ay.mk ⟨ns-(k+1),by omega,k+1,rfl,by omega,by omega,rfl,by rw[R3,AQr e]⟩
     ·rw[show(l.getD k ATy.zero==(i:Int))=false from beq_eq_false_iff_ne.2 λh=>e (hE.1 h),AQo,AP9,ny];exact Ay.mk ⟨ns-(k+1),by omega,k+1,rfl,by omega,by omega,rfl,by rw[R3,AQs e]⟩
    ·have:k=ns:=by omega
     subst this;rw[Ew,AQo];exact Ay.mk rfl
   subst hx;obtain⟨w1,f1,v1,rfl,F1⟩:=kp (rt:=rt) (ns:=ns) (vs:=v) (Bi:=l) (by omega) (λi j hi hj=>J.sm i j (by omega) (by omega)) (λi hi=>J.wd i (by omega)) (by omega) (b:=i) (by omega) b k0;rw[hl4]at F1;have iN:v1=gI fx (rt i):=F1.uniq (J.fx_ _ hri (hf.bY i));rw[ex,AP9,f1,AP9];simp only;have e16:Hy (ns:Int) b (i:Int) c ((Df rt i).map (cV rt fx v ns)) (R3 rt ns i) v1 v k0 l=some (bif decide (gI fx (rt i)>=0)then(true,(gB v (gI fx (rt i)).toNat).1,(gB v (gI fx (rt i)).toNat).2.1)else(false,0,[])):=by
    unfold Hy;rw[iN];cases hd:decide (gI fx (rt i)>=0)with
    |false=>rfl
    |true =>
     have hd:gI fx (rt i)>=0:=ASd hd;rw[AQp,AQp];rw[iN]at F1;have AOo:=F1.ge;have hbw:=(J.bw (gI fx (rt i)).toNat (by omega)).1;rw[AQr ⟨hd,by omega⟩];unfold P4;rw[AQr (show(gB v (gI fx (rt i)).toNat).2.1.length*8<=140737488355328 by omega)];rfl
   rw[e16,AP9,AQr (by rw[AQl,AQt];omega),AP9,hw];refine Ay.mk ⟨ns-(i+1),by omega,i+1,rfl,by omega,rfl,?_,rfl,rfl,rfl⟩;simp only;rw[zP,AQT];congr 1;show[_]=[cV rt fx v ns i];unfold cV;cases decide (gI fx (rt i)>=0)<;>rfl
 ·have:i=ns:=by omega
  subst this;rw[Ew,AQo];exact Ay.mk rfl
theorem dR{ns:Nat}(h:ns<=1000000):∃ld fx vs Bi,M5 (ns:Int)=some (0,ld,fx,[])/\VX (ns:Int)=some (0,vs,Bi)/\JN H ns ns ld fx [] [] vs Bi (λa=>a):=by
 have hg:∀{i},i<ns->gI ((List.range ns).map Int.ofNat) i=(i:Int):=λ{i} hi=>Gk (g:=Int.ofNat) hi;refine⟨(List.range ns).map Int.ofNat,List.replicate ns (-1),List.replicate ns (0,[],()),(List.range ns).map Int.ofNat,?_,?_,?_⟩
 ·unfold M5 Q4;have:=AW (f:=Em (ns:Int)) (λk=>((k:Int),(List.range k).map Int.ofNat,List.replicate k (-1))) (t:=((List.range ns).map Int.ofNat,List.replicate ns (-1))) ns (λk hk=>?_) ?_
  ·exact(congrArg (λo=>Option.bind o λb=>some ((0:Int),b.1,b.2,([]:ATO ASV))) this).trans rfl
  ·unfold Em Jr;simp only;rw[Di hk,AQp,AQr (by simp;omega),AQr (by simp;omega),A6 (n:=k+1),D7,ASk];rfl
  ·unfold Em Jr;simp only;rw[Ew,AQo]
 ·unfold VX WT;rw[AQr ⟨rfl,by omega,ARC _,by omega,by omega⟩,AQa];have:=AW (f:=Ip (ns:Int) (List.replicate ns (0,[],()))) (λk=>((k:Int),(List.range k).map Int.ofNat)) (t:=(List.range ns).map Int.ofNat) ns (λk hk=>?_) ?_
  ·exact(congrArg (λo=>Option.bind o λc=>some ((0:Int),(List.replicate ns (0,[],()):ASL),c)) this).trans rfl
  ·unfold Ip P5;simp only;rw[Di hk,AQp,AQr (by simp;omega),A6 (n:=k+1),D7];rfl
  ·unfold Ip P5;simp only;rw[Ew,AQo]
 ·have hB:∀{i},i<ns->gB (List.replicate ns (0,[],())) i=(0,[],()):=λ{i} hi=>by simp[gB,List.getD,hi]
  refine⟨⟨λ_=>0,λa ha=>?_,λa ha=>?_,λ_ _=>rfl⟩,by simp,by simp,by simp,by simp,AQf _,λi j hi hj=>?_,λi hi=>?_,λi hi=>?_,λi hi hn=>?_,λi hi=>?_,λi hi hr=>?_,λl hl=>?_,λi j hi hj h'=>?_,λi j i1 i2=>by omega,λl hl=>(by cases hl)⟩
  ·have ha:a<ns:=by simpa using ha
   exact⟨a,by simpa using ha,hg ha,rfl,.inl ⟨rfl,rfl⟩⟩
  ·have ha':a<ns:=by simpa using ha
   exact⟨ha,rfl,hg ha'⟩
  ·rw[hg hi,hg hj];omega
  ·rw[hg hi,AQa,hg hi];omega
  ·rw[hB hi];exact⟨λh'=>by exact absurd h' (by decide),λh'=>by omega⟩
  ·omega
  ·rw[hB hi];exact⟨by decide,by decide,λx hx=>by cases hx⟩
  ·refine .inl ⟨by simp[gI,List.getD,hi],λj h1 h2=>by omega⟩
  ·cases hl
  ·have:i=j:=h';subst this;exact .refl _
def HL(d:ASG)(l:ASK)(f:Nat->Nat->Bool)(A B:ASo):Prop:=∃i,i<l.length/\∃x∈ua d l f i,x.1=A/\x.2.1=B
def AIB(d:ASG)(l:ASK)(f:Nat->Nat->Bool)(C:ASN):Prop :=
 ∃N ld fx vm ks vs Bi rt,JN (HL d l f) (SL d (Ax d f) d.length).length N ld fx vm ks vs Bi rt/\C=(Df rt (SL d (Ax d f) d.length).length).map (cV rt fx vs (SL d (Ax d f) d.length).length)/\∀i,i<l.length->(l.getD i Ah.zero).2.1=true->∀x∈ua d l f i,P1 (SL d (Ax d f) d.length).length rt vs x
theorem zn{d:ASG}{l:ASK}{c:ASQ}{f:Nat->Nat->Bool}(hd:AE d)(hl:∀x∈l,MK x)(Ov:FD d l)(hs:CF d l)(hf:jk d l c f)(ec:Fy d l (c,())=some ((Ax d f,()),true)) :
    ∃X Y,Hq 0 d l ((List.range l.length).map (Ox d l)) (Ax d f) (SL d (Ax d f) d.length) (iJ (SL d (Ax d f) d.length) (SL d (Ax d f) d.length).length)=some X/\Nk d l (c,())=some (Y,true)/\Y.1=(Ax d f,()) /\
     ((X.2.2.2.2.2.2.2≠[]/\Y.2.2.1≠[])\/(X.2.2.2.2.2.2.2=[]/\Y.2.2.1=[]/\X.2.2.2.2.1=SL d (Ax d f) d.length/\X.2.2.2.2.2.2.1=Y.2.1/\X.1=d/\AIB d l f Y.2.1)):=by
 obtain⟨ZN,hc⟩:=QQ hd f;have fe:=hd.1;have ia:=Ov.1;have Jc:=eu hd ZN d.length (AQf _);obtain⟨ld,fx,vs,Bi,e1,e2,J⟩:=dR (H:=HL d l f) (ns:=(SL d (Ax d f) d.length).length) (by omega);obtain⟨x,y,ex,ey,hR⟩:=sf (λi hi x hx=>⟨i,hi,x,hx,rfl,rfl⟩) hd hl Ov hs hf.cl hf.ak 0 0 ((SL d (Ax d f) d.length).length:Int) 0 l.length 0 _ ld fx [] [] vs Bi _ (by omega) J (by omega) (by simp;omega);have e0:((0:Nat):Int)=0:=rfl;rw[e0]at ex ey;unfold Hq Nk;rw[e1,AP9,ec,AP9];simp only[AQS,AQo];rw[WO hd ZN hc,AP9,e2,AP9];simp only;rw[ex,ey,AP9,AP9];rcases hR with ⟨w,z,rfl,rfl,n1,n2⟩|⟨gn,yg,yp,UO,Z3,ai,ix,N',rfl,rfl,J',q1,_,q3⟩
 ·simp only[ARq];exact⟨_,_,rfl,rfl,rfl,.inl ⟨n1,n2⟩⟩
 ·simp only[ARa];obtain⟨r,er,hr⟩:=qT J' q1 0;obtain⟨r',er',rfl⟩:=qU J' q1 0 (Ax d f,());rw[er,er',AP9,AP9];exact⟨_,_,rfl,rfl,rfl,.inr ⟨rfl,rfl,rfl,hr,rfl,N',gn,yg,yp,UO,Z3,ai,ix,J',rfl,λi hi=>q3 i (AQW _) hi⟩⟩
def I4(l:ASK):ASK:=l.filter λx=>x.2.1
theorem lY{l:ASK}{k:Nat}(hk:k<l.length):I4 (l.take (k+1))=if(l.getD k Ah.zero).2.1=true then I4 (l.take k)++[l.getD k Ah.zero]else I4 (l.take k):=by
 have e:l.getD k Ah.zero=l[k]:=by simp[List.getD,hk]
 unfold I4;rw[AQ5 hk,ASb,e];cases h:(l[k]).2.1 with
 |true=>rw[AQr rfl];simp[h]
 |false=>rw[AQs (by simp)];simp[h]
theorem Abs(l:ASK)(k:Nat):(I4 (l.take k)).length<=k:=AQD (ARL _ _) (by rw[AQu];omega)
theorem zV{l:ASK}(hl:l.length<=1048576):Ld l=some (I4 l):=by
 unfold Ld Qa;have:=AW (f:=DF l (l.length:Int)) (λk=>((k:Int),I4 (l.take k))) (t:=I4 l) l.length (λk hk=>?_) ?_
 ·exact(congrArg (λo=>Option.bind o λc=>some c) this).trans rfl
 ·unfold DF Iv Kn;simp only[AQa];have h1:=Abs l k;rw[Di hk,AQp,AQr (Bq hk),A6 (n:=k+1),lY hk];cases h:(l.getD k Ah.zero).2.1 with
  |true=>rw[AQp,AQr (by rw[AQt];omega),AQr rfl];rfl
  |false=>rw[AQo,AQs (by simp)];rfl
 ·unfold DF Iv;simp only[AR5];rw[Ew,AQo]
theorem Aav{l:ASK}(hl:l.length<=1048576):Ly l=some (I4 l):=by
 unfold Ly SN;have:=AW (f:=EU l) (λk=>((k:Int),I4 (l.take k))) (t:=I4 l) l.length (λk hk=>?_) ?_
 ·exact(congrArg (λo=>Option.bind o λc=>some c) this).trans rfl
 ·unfold EU KS N0;simp only[AQa];have h1:=Abs l k;rw[Di hk,AQp,AQr (Bq hk),A6 (n:=k+1),lY hk];cases h:(l.getD k Ah.zero).2.1 with
  |true=>rw[AQp,AQr (Bq hk),AQr (by rw[AQt];omega),AQr rfl];rfl
  |false=>rw[AQo,AQs (by simp)];rfl
 ·unfold EU KS;simp only[AR5];rw[Ew,AQo]
theorem wq{d:ASG}(hd:d.length<=1048576):TG d=some (List.replicate d.length []):=by
 unfold TG;rw[AQr ⟨rfl,by omega,ARC _,by omega,by omega⟩,AQa]
theorem xp{d:ASG}(hd:d.length<=1048576):T3 d=some (List.replicate d.length []):=by
 unfold T3 VT;have:=AW (f:=Hb d) (λk=>((k:Int),List.replicate k [])) (t:=List.replicate d.length []) d.length (λk hk=>?_) ?_
 ·exact(congrArg (λo=>Option.bind o λc=>some c) this).trans rfl
 ·unfold Hb Oj;simp only;rw[Di hk,AQp,AQr (by simp;omega),A6 (n:=k+1),ASk]
 ·unfold Hb Oj;simp only;rw[Ew,AQo]
theorem AdR{d:ASG}(hd:AE d):Dn d (List.replicate d.length [])/\YB (List.replicate d.length []):=by
 have fe:=hd.1;refine⟨⟨by simp,λv hv=>?_⟩,by simp;omega,λx hx=>?_⟩
 ·have:DW (List.replicate d.length []) v=[]:=by unfold DW;simp[List.getD,hv]
  rw[this];exact λi hi=>by simp at hi
 ·rw[(List.mem_replicate.1 hx).2];simp
theorem Awi{d:ASG}{l:ASK}(h:FD d l):∀{i j:Nat},i<j->j<l.length->cg l i<cg l j:=λ{i j} zJ hj=>by
 induction j with
 |zero=>omega
 |succ j ih =>
  have h1:=(h.2 (j+1) hj).2.1 (by omega);rw[AQM]at h1;by_cases e:i=j
  ·subst e;exact h1
  ·exact Int.lt_trans (ih (by omega) (by omega)) h1
theorem Ahl{l:ASK}:∀(n:Nat),∃g:Nat->Nat,(∀i,i<(I4 (l.take n)).length->g i<n/\g i<l.length/\(I4 (l.take n)).getD i Ah.zero=l.getD (g i) Ah.zero)/\∀i j,i<j->j<(I4 (l.take n)).length->g i<g j
 |0=>⟨λi=>i,λi h=>by simp[I4]at h,λi j _ h=>by simp[I4]at h⟩
 |n+1=>by
  obtain⟨g,h1,h2⟩:=Ahl (l:=l) n;by_cases hn:n<l.length
  ·rw[lY hn];split
   ·refine⟨λi=>if i<(I4 (l.take n)).length then g i else n,λi hi=>?_,λi j zJ hj=>?_⟩
    ·rw[AQd,AQt]at hi;simp only;by_cases e:i<(I4 (l.take n)).length
     ·obtain⟨a1,a2,a3⟩:=h1 i e;rw[AQr e];exact⟨by omega,a2,by rw[<-a3];simp[List.getD,AQz,e]⟩
     ·have:i=(I4 (l.take n)).length:=by omega
      rw[AQs e];exact⟨by omega,hn,by subst this;simp[List.getD]⟩
    ·rw[AQd,AQt]at hj;simp only;rw[WA];by_cases e:j<(I4 (l.take n)).length
     ·rw[AQr e];exact h2 i j zJ e
     ·rw[AQs e];exact(h1 i (by omega)).1
   ·exact⟨g,λi hi=>by obtain⟨a1,a2,a3⟩:=h1 i hi;exact⟨by omega,a2,a3⟩,h2⟩
  ·rw[AQj (by omega)]at h1 h2⊢;exact⟨g,λi hi=>by obtain⟨a1,a2,a3⟩:=h1 i hi;exact⟨by omega,a2,a3⟩,h2⟩
theorem Ahm{d:ASG}{l:ASK}(Ov:FD d l)(hs:CF d l):FD d (I4 l)/\CF d (I4 l):=by
 obtain⟨g,h1,h2⟩:=Ahl (l:=l) l.length;rw[AR5]at h1 h2;have ia:=Ov.1;have V2:(I4 l).length<=l.length:=ARL _ _;have eI:∀i,i<(I4 l).length->cg (I4 l) i=cg l (g i)/\lS (I4 l) i=lS l (g i)/\lT (I4 l) i=lT l (g i):=λi hi=>by
  have:=(h1 i hi).2.2;unfold cg lS lT li;rw[this];exact⟨rfl,rfl,rfl⟩
 refine⟨⟨by omega,λi hi=>?_⟩,λi hi=>?_⟩
 ·obtain⟨a1,a2,a3⟩:=eI i hi;obtain⟨b1,b2,b3,b4⟩:=Ov.2 (g i) (h1 i hi).2.1;refine⟨by rw[a1];exact b1,λh0=>?_,by rw[a2];exact b3,by rw[a2,a3];exact b4⟩;rw[a1,(eI (i-1) (by omega)).1];exact Awi Ov (h2 (i-1) i (by omega) hi) (h1 i hi).2.1
 ·obtain⟨a1,a2,a3⟩:=eI i hi;have:=hs (g i) (h1 i hi).2.1;unfold jo at this⊢;rw[a2,a3];exact this
abbrev s1(x:ASr):Int:=x.1
abbrev s2(x:ASr):Int:=x.2.1
abbrev s3(x:ASr):Int:=x.2.2.1
def Bef(x y:ASr):Prop:=s1 x<s1 y\/(s1 x=s1 y/\s2 x+s3 x<=s2 y)
theorem sG(v:Nat):∀(l:ASC) (low:Int),l.Pairwise (·<·)->(∀p∈l,low<p)->(VH v low l).Pairwise Bef/\∀x∈VH v low l,s1 x=(v:Int)/\low<=s2 x/\0<s3 x
 |[],_,_,_=>⟨List.Pairwise.nil,λx hx=>by cases hx⟩
 |p::l,low,h,hl=>by
  obtain⟨h1,h2⟩:=List.pairwise_cons.1 h;obtain⟨i1,i2⟩:=sG v l p h2 h1;have hp:=hl p AQE;refine⟨List.pairwise_cons.2 ⟨λy hy=>?_,i1⟩,λx hx=>?_⟩
  ·obtain⟨e1,e2,_⟩:=i2 y hy;refine .inr ⟨e1.symm,?_⟩;show low+(p-low)<=s2 y;omega
  ·rcases List.mem_cons.1 hx with rfl |hx
   ·grind
   grind
theorem lI(v:Nat)(q:Int):∀(l:ASC) (low:Int),low<=q->q<GN low l->∃x∈VH v low l,s1 x=(v:Int)/\s2 x<=q/\q<s2 x+s3 x
 |[],low,h1,h2=>by have h2:q<low:=h2;omega
 |p::l,low,h1,h2=>by
  rw[show GN low _=GN p l by cases l<;>rfl]at h2;by_cases h:q<p
  ·exact⟨_,AQE,rfl,h1,by grind⟩
  ·obtain⟨x,hx,h3⟩:=lI v q l p (by omega) h2;exact⟨x,AQB _ hx,h3⟩
theorem Ab6(v:Nat){M:Int}:∀(l:ASC) (low:Int),(∀p∈l,p<=M)->∀x∈VH v low l,s2 x+s3 x<=M
 |[],_,_,x,hx=>by cases hx
 |p::l,low,h,x,hx=>by
  rcases List.mem_cons.1 hx with rfl |hx
  ·have:=h p AQE;show low+(p-low)<=M;omega
  ·exact Ab6 v l p (λq hq=>h q (AQB _ hq)) x hx
section
variable {d:ASG} {c:ASQ}
theorem rh(hd:AE d)(hc:Dn d c){v:Nat}(hv:v<d.length):(CS d c v).Pairwise (·<·)/\(∀p∈CS d c v,0<p)/\GN 0 (CS d c v)=(W d v:Int):=by
 refine⟨List.pairwise_iff_getElem.2 λi j hi hj zJ=>?_,λp hp=>?_,?_⟩
 ·have:=cY hd hc hv zJ hj;simpa [Lb,hi,hj]using this
 ·obtain⟨i,hi,rfl⟩:=ARb hp;have:=(cX hd hc hv hi).1;simp[Lb,hi]at this;omega
 ·unfold GN CS;simp;exact(P6 hd hv).1
theorem AaY(hd:AE d)(hc:Dn d c):∀n,n<=d.length->(SL d c n).Pairwise Bef/\∀x∈SL d c n,s1 x<(n:Int)/\0<=s2 x/\0<s3 x
 |0,_=>⟨List.Pairwise.nil,λx hx=>by cases hx⟩
 |n+1,hn=>by
  obtain⟨h1,h2⟩:=AaY hd hc n (by omega);obtain⟨e1,e2,_⟩:=rh hd hc (v:=n) (by omega);obtain⟨r1,r2⟩:=sG n (CS d c n) 0 e1 e2;rw[qy];refine⟨List.pairwise_append.2 ⟨h1,r1,λx hx y hy=>.inl ?_⟩,λx hx=>?_⟩
  ·grind
  grind
def InS(L:ASH)(m v x w:Nat):Prop:=m<L.length/\nN L m=((v:Int),(x:Int),(w:Int),())
theorem AG5(hd:AE d)(hc:Dn d c){v a:Nat}(hv:v<d.length)(ha:a<W d v):∃m x w j,InS (SL d c d.length) m v x w/\j<w/\a=x+j:=by
 obtain⟨e1,e2,e3⟩:=rh hd hc hv;obtain⟨y,hy,h1,h2,h3⟩:=lI v a (CS d c v) 0 (by omega) (by omega);have hm:y∈SL d c _:=List.mem_flatMap.2 ⟨v,List.mem_range.2 hv,hy⟩;obtain⟨_,g1,g2⟩:=(AaY hd hc _ (AQf _)).2 y hm;obtain⟨m,UB,S6⟩:=ARb hm;obtain⟨y1,y2,y3,y4⟩:=y;simp only[s1,s2,s3]at h1 h2 h3 g1 g2;refine⟨m,y2.toNat,y3.toNat,a-y2.toNat,⟨UB,?_⟩,by omega,by omega⟩;have h5:nN (SL d c d.length) m=(SL d c _)[m]:=by simp[nN,UB]
 grind
theorem Acb(hd:AE d)(hc:Dn d c){m m' v x w x' w' j j':Nat}(h:InS (SL d c d.length) m v x w)(h':InS (SL d c d.length) m' v x' w')(hj:j<w)(R8:j'<w')(e:x+j=x'+j'):m=m':=by
 have hp:=List.pairwise_iff_getElem.1 (AaY hd hc d.length (AQf _)).1;have g:∀{m v x w},InS (SL d c d.length) m v x w->(SL d c d.length)[m]?=some ((v:Int),(x:Int),(w:Int),()):=λ{m v x w} h=>by
  rw[<-h.2];simp[nN,h.1]
 have g1:=g h;have g2:=g h';have key:∀{m m' x w x' w' j j':Nat},(SL d c d.length)[m]?=some ((v:Int),(x:Int),(w:Int),())->(SL d c d.length)[m']?=some ((v:Int),(x':Int),(w':Int),())->m<m'->j<w->j'<w'->x+j≠x'+j':=λ{m m' x w x' w' j j'} a b Bw hj R8 e=>by
  obtain⟨a1,a2⟩:=List.getElem?_eq_some_iff.1 a;obtain⟨b1,b2⟩:=List.getElem?_eq_some_iff.1 b;have:=hp m m' a1 b1 Bw;rw[a2,b2]at this;rcases this with h |⟨_,h⟩
  ·grind
  ·grind
 grind
theorem AG6(hd:AE d)(hc:Dn d c){m:Nat}(hm:m<(SL d c d.length).length):∃v x w:Nat,InS (SL d c d.length) m v x w/\v<d.length/\0<w:=by
 have hx:nN _ m∈SL d c _:=AO hm;obtain⟨g0,g1,g2⟩:=(AaY hd hc _ (AQf _)).2 _ hx;obtain⟨v,j,hv,_,e⟩:=qx.1 hx;have e1:(nN (SL d c d.length) m).1=v:=by rw[e]
 generalize hs:nN _ m=s at *;obtain⟨y1,y2,y3,y4⟩:=s;simp only[s2,s3]at g1 g2 e1;exact⟨v,y2.toNat,y3.toNat,⟨hm,by grind⟩,hv,by omega⟩
theorem Aoy(hd:AE d)(hc:Dn d c){m v x w:Nat}(h:InS (SL d c d.length) m v x w):v<d.length/\x+w<=W d v:=by
 have hx:nN _ m∈SL d c _:=AO h.1;obtain⟨u,hu,hy⟩:=List.mem_flatMap.1 hx;have hu:=List.mem_range.1 hu;obtain⟨e1,e2,e3⟩:=rh hd hc hu;have g1:=((sG u _ 0 e1 e2).2 _ hy).1;have hb:∀p∈CS d c u,p<=(W d u):=λp hp=>by
  obtain⟨k1,_,_⟩:=P6 hd hu;rcases List.mem_append.1 hp with hp |hp
  ·obtain⟨i,hi,rfl⟩:=ARb hp;have:=(hc.2 u hu i hi).2.1;simp[Lb,hi]at this;omega
  ·grind
 have g2:=Ab6 u _ 0 hb _ hy;rw[h.2]at g1 g2
 grind
end
inductive BE (E:Bt->Bt->Prop):Bt->Bt->Prop
 |refl (a:Bt):BE E a a
 |gX {a b c:Bt}:BE E a b->E b c->BE E a c
 |bwd {a b c:Bt}:BE E a b->E c b->BE E a c
theorem BE.trans{E:Bt->Bt->Prop}{a b c:Bt}(h:BE E a b)(k:BE E b c):BE E a c:=by
 induction k with
 |refl=>grind
 |gX _ e ih=>exact .gX ih e
 |bwd _ e ih=>exact .bwd ih e
theorem BE.symm{E:Bt->Bt->Prop}{a b:Bt}(h:BE E a b):BE E b a:=by
 induction h with
 |refl=>exact .refl _
 |gX _ e ih=>exact(BE.bwd (.refl _) e).trans ih
 |bwd _ e ih=>exact(BE.gX (.refl _) e).trans ih
def EL(d:ASG)(l:ASK)(x y:Bt):Prop:=∃i,i<l.length/\∃p,p<(b1 d l i).length/\x=LC (b1 d l i) p/\y=LC (b2 d l i) p
def NBt(L:ASH)(vs:ASL)(y w j:Nat)(t:Bt):Prop:=j<w/\((∃v x,InS L y v x w/\t=.va v (x+j))\/(L.length<=y/\∃bs:ASD,gB vs y=fu bs/\bs.length=w/\w<=4096/\t=.co (bs.getD j false)))
theorem qI{bs:ASD}{k:Nat}(h:k<bs.length):bt (fu bs).2.1 k=bs.getD k false:=qH h
theorem AmM{a b:ASD}(h:fu a=fu b):a=b:=by
 have hl:a.length=(b.length:Int):=congrArg (λx =>x.1) h;refine ARp (by omega) λk h1 h2=>?_;have e1:=qI h1;have e2:=qI h2;rw[h,e2]at e1;simpa [h1,h2]using e1.symm
theorem NBt.uniq{L:ASH}{vs:ASL}{y w w' j j':Nat}{t t':Bt}(h:NBt L vs y w j t)(h':NBt L vs y w' j' t'):w=w'/\(j=j'->t=t'):=by
 rcases h.2 with ⟨v,x,⟨a1,a2⟩,rfl⟩|⟨a1,bs,a2,rfl,_,rfl⟩<;>rcases h'.2 with ⟨v',x',⟨b1,b2⟩,rfl⟩|⟨b1,HH,b2,rfl,_,rfl⟩
 ·grind
 ·omega
 ·omega
 ·have:=AmM (a2.symm.trans b2)
  grind
section
variable {d:ASG} {c:ASQ}
theorem Ahx{B:ATO Bt}{a b i k:Nat}(S:mR d c B a b i k)(hB:Bv d B){vs:ASL}{n:Nat}(hn:Nd (SL d c d.length).length vs (V9 (SL d c d.length) B a b) n){j:Nat}(hj:j<b-a):NBt (SL d c d.length) vs n (b-a) j (LC B (a+j)):=by
 have hk:=S.hk;have S5:=S.le;have hBl:=hB.2.1;have e0:=iX S;have e1:LC B (a+j)=((Az B).getD i (.co [])).bits.getD (k+j) (.co false):=by
  have:=congrArg (λl =>l[j]?) (pY S);simp only[AQ8,AR9,hj,AQV]at this;show B[a+j]?.getD _=(((Az B).getD i _).bits)[k+j]?.getD _;rw[this]
 refine⟨hj,?_⟩;cases hs:(Az B).getD i _ with
 |co x =>
  rw[hs]at e0 e1 hk;simp only[Sg.w]at hk;rw[show(Sg.co x).bits=x.map _ from rfl,Fq _ (y:=false) (by omega)]at e0 e1;have hc:=qW S hs;unfold V9 at hn;rw[e0]at hn;rcases hn with ⟨h,_⟩|⟨_,h1,_,h2⟩
  ·grind
  grind
 |va v l n' =>
  obtain⟨m,hm,UB,S6⟩:=S.va v l n' hs;rw[hs]at e0 e1 hk;simp only[Sg.w]at hk;rw[show(Sg.va v l n').bits=(List.range n').map _ from rfl,Gk (by omega)]at e0 e1;unfold V9 at hn;rw[e0]at hn;simp only at hn;rw[hm]at hn;have kH:=(Wg hm).2;have hnm:n=m:=by
   rcases hn with ⟨_,h⟩|⟨h,_⟩
   ·have h:n=(m:Int):=h;omega
   ·have h:0>(m:Int):=h;omega
  subst hnm;refine .inl ⟨v,l+k,⟨UB,?_⟩,by grind⟩;injection kH with h1 h2
  grind
end
section
variable {B1 B2:ATO Bt} {h:Nat->Nat->Bool}
theorem Abq{L:ASH}{p:Nat}(h1:1<=p)(hp:iR B1 B2 h p=true):∀n,p<n->n<=B1.length->pcV L B1 B2 (Ow 0 (eL B1 B2 h p)) p∈PP L B1 B2 0 (eL B1 B2 h n)
 |0,h2,_=>by omega
 |n+1,h2,h3=>by
  rw[cW n (by omega)];by_cases e:p=n
  ·subst e;rw[AQr hp,UJ]
   grind
  ·have:=Abq (L:=L) h1 hp n (by omega) (by omega);split
   ·rw[UJ];exact AQH _ this
   ·grind
theorem wJ(B1 B2:ATO Bt)(h:Nat->Nat->Bool)(n:Nat):∀m q,q+m=n->0<m->∃p,q<p/\p<=n/\(p=n\/iR B1 B2 h p=true)/\∀r,q<r->r<p->iR B1 B2 h r=false
 |0,q,_,hm=>by omega
 |m+1,q,e,_=>by
  by_cases e1:m=0
  ·exact⟨q+1,by omega,by omega,.inl (by omega),λr h1 h2=>by omega⟩
  ·by_cases e2:iR B1 B2 h (q+1)=true
   ·grind
   ·obtain⟨p,h1,h2,h3,h4⟩:=wJ B1 B2 h n m (q+1) (by omega) (by omega)
    grind
theorem cover{L:ASH}{q:Nat}(hq:q<B1.length):∃a b,Gap B1 B2 h a b/\a<=q/\q<b/\pcV L B1 B2 a b∈PP L B1 B2 0 (eL B1 B2 h B1.length++[B1.length]):=by
 obtain⟨p,h1,h2,h3,h4⟩:=wJ B1 B2 h B1.length (B1.length-q) q (by omega) (by omega);have g:=bl     (by omega) h2 h3;refine⟨_,p,g,?_,h1,?_⟩
 ·rcases AQk q _ with Bw |S5
  ·have:=h4 _ Bw g.lt;rcases g.fr with e |e
   ·omega
   ·grind
  ·grind
 ·rw[UJ];rcases Nat.lt_or_eq_of_le h2 with h5 |h5
  ·exact AQH _ (Abq (by omega) (h3.resolve_left (by omega)) _ h5 (AQf _))
  grind
end
section
variable {d:ASG} {l:ASK} {f:Nat->Nat->Bool}
theorem AkP(hd:AE d)(hl:∀x∈l,MK x)(Ov:FD d l)(hs:CF d l){i:Nat}(hi:i<l.length){x:ASA}(hx:x∈ua d l f i):∃a b,Gap (b1 d l i) (b2 d l i) f a b/\x=pcV (SL d (Ax d f) d.length) (b1 d l i) (b2 d l i) a b:=by
 have hn:=(PE hd hl Ov hs hi).1.1;unfold ua at hx;rw[UJ]at hx;rcases List.mem_append.1 hx with hx |hx
 ·exact qv (AQf _) x hx
 ·rw[AQA]at hx;exact⟨_,_,bl hn (AQf _) (.inl rfl),hx⟩
theorem AbA(hd:AE d)(hl:∀x∈l,MK x)(Ov:FD d l)(hs:CF d l)(OC:EB d l f)(ht:∀v p,f v p=true->v<d.length/\1<=p/\p<W d v){i:Nat}(hi:i<l.length){a b:Nat}(g:Gap (b1 d l i) (b2 d l i) f a b){vs:ASL}{n1 n2:Nat}
    (h1:Nd (SL d (Ax d f) d.length).length vs (V9 (SL d (Ax d f) d.length) (b1 d l i) a b) n1) (h2:Nd (SL d (Ax d f) d.length).length vs (V9 (SL d (Ax d f) d.length) (b2 d l i) a b) n2) {j:Nat} (hj:j<b-a) :
    ∃t t',NBt (SL d (Ax d f) d.length) vs n1 (b-a) j t/\NBt (SL d (Ax d f) d.length) vs n2 (b-a) j t'/\t=LC (b1 d l i) (a+j)/\t'=LC (b2 d l i) (a+j):=by
 have hC0:=Zv ht;obtain⟨ZN,hc⟩:=QQ hd f;obtain⟨s1,s2,s3,_⟩:=PE hd hl Ov hs hi;have BX:mT d (b1 d l i) (b2 d l i) (C0 (Ax d f)):=by rw[hC0];exact OC i hi
 have g':Gap (b1 d l i) (b2 d l i) (C0 (Ax d f)) a b:=by grind
 obtain⟨⟨i1,k1,S1⟩,i2,k2,S2⟩:=ZL hd ZN s1 s2 s3 BX g';exact⟨_,_,Ahx S1 s1 h1 hj,Ahx S2 s2 h2 hj,rfl,rfl⟩
end
def CV(fx:ASC)(vs:ASL)(rt:Nat->Nat)(y j:Nat):ATP Bool:=if 0<=gI fx (rt y)then some (bt (gB vs (gI fx (rt y)).toNat).2.1 j)else none
def VAL(L:ASH)(fx:ASC)(vs:ASL)(rt:Nat->Nat)(t:Bt)(o:ATP Bool):Prop:=(∃b,t=.co b/\o=some b)\/∃y v x w j,InS L y v x w/\j<w/\t=.va v (x+j)/\o=CV fx vs rt y j
section
variable {d:ASG} {l:ASK} {f:Nat->Nat->Bool} {N:Nat} {ld fx:ASC} {vm:ATO ASV} {ks:ASH} {vs:ASL} {Bi:ASC} {rt:Nat->Nat}
theorem VAL.uniq(hd:AE d){t:Bt}{o o':ATP Bool}(h:VAL (SL d (Ax d f) d.length) fx vs rt t o)(h':VAL (SL d (Ax d f) d.length) fx vs rt t o'):o=o':=by
 obtain⟨ZN,hc⟩:=QQ hd f;rcases h with ⟨b,rfl,rfl⟩|⟨y,v,x,w,j,h1,h2,rfl,rfl⟩<;>rcases h' with ⟨b',e,rfl⟩|⟨y',v',x',w',j',h1',h2',e,rfl⟩
 ·grind
 ·grind
 ·grind
 ·injection e with e1 e2;subst e1;have:=Acb hd ZN h1 h1' h2 h2' e2;subst this;have hx:=h1.2.symm.trans h1'.2
  grind
theorem lq(J:JN (HL d l f) (SL d (Ax d f) d.length).length N ld fx vm ks vs Bi rt){y w j:Nat}{t:Bt}(h:NBt (SL d (Ax d f) d.length) vs y w j t)(hy:y<N):VAL (SL d (Ax d f) d.length) fx vs rt t (CV fx vs rt y j):=by
 obtain⟨hj,⟨v,x,hi,rfl⟩|⟨hn,bs,e,hl,hw,rfl⟩⟩:=h
 ·exact .inr ⟨y,v,x,w,j,hi,hj,rfl,rfl⟩
 ·refine .inl ⟨_,rfl,?_⟩;obtain⟨dp,hf⟩:=J.fo;have UN:=J.l1;have hr:=hf.ak y (by omega);rcases J.fx_ _ (by omega) hr.2.1 with ⟨_,h⟩|⟨k,h1,h2,h3,h4,_⟩
  ·grind
  ·unfold CV;rw[h1,WA,AQa,J.eqv k y h2 h3 hn hy h4,e,qI (by omega)]
theorem Aot{ns:Nat}{A:ASo}{i:Nat}(h:Nd ns vs A i)(ha:al ns A)(hn:ns<=vs.length):i<vs.length:=by
 rcases h with ⟨h1,h2⟩|⟨_,_,h,_⟩
 ·rcases ha with ⟨_,h3⟩|⟨h3,_⟩
  ·omega
  ·omega
 ·grind
theorem uZ(hd:AE d)(hl:∀x∈l,MK x)(Ov:FD d l)(hs:CF d l)(OC:EB d l f)(ht:∀v p,f v p=true->v<d.length/\1<=p/\p<W d v)
    (J:JN (HL d l f) (SL d (Ax d f) d.length).length N ld fx vm ks vs Bi rt) (hP:∀i,i<l.length->∀x∈ua d l f i,P1 (SL d (Ax d f) d.length).length rt vs x) {x y:Bt} (h:EL d l x y):∃o,VAL (SL d (Ax d f) d.length) fx vs rt x o/\VAL (SL d (Ax d f) d.length) fx vs rt y o:=by
 obtain⟨i,hi,p,hp,rfl,rfl⟩:=h;obtain⟨a,b,g,h1,h2,h3⟩:=cover    hp;obtain⟨n1,n2,q1,q2,q3⟩:=hP i hi _ h3;obtain⟨a1,a2⟩:=(wS hd hl Ov hs OC ht hi).2 _ h3;have hnn:=J.nn;have hl3:=J.l3;have l1:=Aot q1 a1 (by omega);have l2:=Aot q2 a2 (by omega);obtain⟨t,t',u1,u2,u3,u4⟩:=AbA hd hl Ov hs OC ht hi g q1 q2 (j:=p-a) (by omega);rw[show a+(p-a)=p by omega]at u3 u4;rw[<-u3,<-u4];refine⟨_,lq J u1 (by omega),?_⟩;have:=lq J u2 (by omega);unfold CV at this⊢;rw[q3];exact this
theorem zj(hd:AE d)(hl:∀x∈l,MK x)(Ov:FD d l)(hs:CF d l)(OC:EB d l f)(ht:∀v p,f v p=true->v<d.length/\1<=p/\p<W d v)
    (J:JN (HL d l f) (SL d (Ax d f) d.length).length N ld fx vm ks vs Bi rt) (hP:∀i,i<l.length->∀x∈ua d l f i,P1 (SL d (Ax d f) d.length).length rt vs x) {x y:Bt} (h:BE (EL d l) x y) {o:ATP Bool} (hx:VAL (SL d (Ax d f) d.length) fx vs rt x o):VAL (SL d (Ax d f) d.length) fx vs rt y o:=by
 induction h with
 |refl=>grind
 |gX _ e ih =>
  obtain⟨o',h1,h2⟩:=uZ hd hl Ov hs OC ht J hP e;rw[ih.uniq hd h1];exact h2
 |bwd _ e ih =>
  obtain⟨o',h1,h2⟩:=uZ hd hl Ov hs OC ht J hP e;rw[ih.uniq hd h2];exact h1
theorem pg(hd:AE d)(hl:∀x∈l,MK x)(Ov:FD d l)(hs:CF d l)(OC:EB d l f)(ht:∀v p,f v p=true->v<d.length/\1<=p/\p<W d v)
    (J:JN (HL d l f) (SL d (Ax d f) d.length).length N ld fx vm ks vs Bi rt) {k:ASr} (hk:k∈ks):∃n1 n2 w:Nat,k.1=(n1:Int)/\k.2.1=(n2:Int)/\0<w/\∀j,j<w->∃t t',NBt (SL d (Ax d f) d.length) vs n1 w j t/\NBt (SL d (Ax d f) d.length) vs n2 w j t'/\EL d l t t':=by
 obtain⟨A,B,n1,n2,⟨i,hi,x,hx,rfl,rfl⟩,h2,h3,h4,h5⟩:=J.lkp k hk;obtain⟨a,b,g,rfl⟩:=AkP hd hl Ov hs hi hx;have Bw:=g.lt;have S5:=g.le;refine⟨n1,n2,b-a,h4,h5,by omega,λj hj=>?_⟩;obtain⟨t,t',u1,u2,u3,u4⟩:=AbA hd hl Ov hs OC ht hi g h2 h3 hj;exact⟨t,t',u1,u2,i,hi,a+j,by omega,u3,u4⟩
theorem pL(hd:AE d)(hl:∀x∈l,MK x)(Ov:FD d l)(hs:CF d l)(OC:EB d l f)(ht:∀v p,f v p=true->v<d.length/\1<=p/\p<W d v)
    (J:JN (HL d l f) (SL d (Ax d f) d.length).length N ld fx vm ks vs Bi rt) {m w j:Nat} {t:Bt} (h0:NBt (SL d (Ax d f) d.length) vs m w j t) {y:Int} (h:Cn ks (m:Int) y):∃n:Nat,y=(n:Int)/\∃t',NBt (SL d (Ax d f) d.length) vs n w j t'/\BE (EL d l) t t':=by
 induction h with
 |refl=>exact⟨m,rfl,t,h0,.refl _⟩
 |gX hk _ ih =>
  obtain⟨n,e,t',h1,h2⟩:=ih;obtain⟨n1,n2,w',e1,e2,h3,h4⟩:=pg hd hl Ov hs OC ht J hk;have hn:n1=(n:Int):=e1.symm.trans e;have hn:n1=n:=by omega
  subst hn;obtain⟨s,s',g1,_⟩:=h4 0 h3;have hw:=(h1.uniq g1).1;subst hw;obtain⟨s,s',g1,g2,g3⟩:=h4 j h1.1;have:=(h1.uniq g1).2 rfl;subst this;exact⟨n2,e2,s',g2,.gX h2 g3⟩
 |bwd hk _ ih =>
  obtain⟨n,e,t',h1,h2⟩:=ih;obtain⟨n1,n2,w',e1,e2,h3,h4⟩:=pg hd hl Ov hs OC ht J hk;have hn:n2=(n:Int):=e2.symm.trans e;have hn:n2=n:=by omega
  subst hn;obtain⟨s,s',_,g1,_⟩:=h4 0 h3;have hw:=(h1.uniq g1).1;subst hw;obtain⟨s,s',g2,g1,g3⟩:=h4 j h1.1;have:=(h1.uniq g1).2 rfl;subst this;exact⟨n1,e1,s,g2,.bwd h2 g3⟩
theorem sem(hd:AE d)(hl:∀x∈l,MK x)(Ov:FD d l)(hs:CF d l)(OC:EB d l f)(ht:∀v p,f v p=true->v<d.length/\1<=p/\p<W d v)
    (J:JN (HL d l f) (SL d (Ax d f) d.length).length N ld fx vm ks vs Bi rt) (hP:∀i,i<l.length->∀x∈ua d l f i,P1 (SL d (Ax d f) d.length).length rt vs x) :
    ¬BE (EL d l) (.co false) (.co true)/\∀{m v x w j:Nat},InS (SL d (Ax d f) d.length) m v x w->j<w->∀b,CV fx vs rt m j=some b↔BE (EL d l) (.va v (x+j)) (.co b):=by
 refine⟨λh=>?_,λ{m v x w j} hi hj b=>⟨λh=>?_,λh=>?_⟩⟩
 ·have:=zj hd hl Ov hs OC ht J hP h  (.inl ⟨_,rfl,rfl⟩);have:=this.uniq hd  (.inl ⟨_,rfl,rfl⟩);cases this
 ·obtain⟨dp,hf⟩:=J.fo;have UN:=J.l1;have hnn:=J.nn;have hm:m<N:=by have:=hi.1;omega
  have hr:=hf.ak m (by omega);have h':=h;unfold CV at h;split at h
  ·rcases J.fx_ _ (by omega) hr.2.1 with ⟨h1,_⟩|⟨k,h1,h2,h3,h4,_⟩
   ·omega
   ·have h0:NBt _ vs m w j _:=⟨hj,.inl ⟨v,x,hi,rfl⟩⟩;obtain⟨n,e,t',g1,g2⟩:=pL hd hl Ov hs OC ht J h0 (J.cn m k hm h3 h4.symm);have :=by omega
    have v1:=zj hd hl Ov hs OC ht J hP g2 (lq J h0 hm);rw[h']at v1;rcases g1.2 with ⟨_,_,h5,_⟩|⟨_,bs,_,_,_,rfl⟩
    ·have:=h5.1;omega
    ·have:=v1.uniq hd  (.inl ⟨_,rfl,rfl⟩)
     grind
  ·grind
 ·have v1:=zj hd hl Ov hs OC ht J hP h  (.inr ⟨m,v,x,w,j,hi,hj,rfl,rfl⟩);exact v1.uniq hd (.inl ⟨b,rfl,rfl⟩)
theorem Ahp(hd:AE d)(hl:∀x∈l,MK x)(Ov:FD d l)(hs:CF d l)(OC:EB d l f)(ht:∀v p,f v p=true->v<d.length/\1<=p/\p<W d v)
    (J:JN (HL d l f) (SL d (Ax d f) d.length).length N ld fx vm ks vs Bi rt) {m v x w:Nat} (hi:InS (SL d (Ax d f) d.length) m v x w) (hw:0<w) (h:0<=gI fx (rt m)):∃bs:ASD,gB vs (gI fx (rt m)).toNat=fu bs/\bs.length=w/\w<=4096:=by
 obtain⟨dp,hf⟩:=J.fo;have UN:=J.l1;have hnn:=J.nn;have hm:m<N:=by have:=hi.1;omega
 have hr:=hf.ak m (by omega);rcases J.fx_ (rt m) (by omega) hr.2.1 with ⟨h1,_⟩|⟨k,h1,h2,h3,h4,_⟩
 ·omega
 ·obtain⟨n,e,t',g1,_⟩:=pL hd hl Ov hs OC ht J (m:=m) (w:=w) (j:=0) (t:=.va v (x+0)) ⟨hw,.inl ⟨v,x,hi,rfl⟩⟩ (J.cn m k hm h3 h4.symm);have:n=k:=by omega
  subst this;rcases g1.2 with ⟨_,_,h5,_⟩|⟨_,bs,h5,h6,h7,_⟩
  ·have:=h5.1;omega
  ·grind
end
theorem kN{bs:ASD}{k:Nat}(h:k<bs.length)(hl:bs.length<=8192):I5 (fu bs) (k:Int)=some (bI (bs.getD k false)):=by
 have hw:=DL (low (λi=>bs.getD i false) bs.length) (nw bs.length);have hlen:=EC (low (λi=>bs.getD i false) bs.length) (nw bs.length);unfold I5;rw[bX (by omega),WU,AQr ⟨by omega,by show((k/64))<((eh _ _).length:Int);rw[hlen];unfold nw;omega⟩,AQa];show some (cA .u64 (SF .u64 ((eh _ _).getD _ 0) _) 1)=_;rw[oG (dU (hw.getD _) rfl (by omega)),bW (hw.getD _) rfl (by omega),AQF];show some (bI (bt _ k))=_;rw[qH h]
abbrev AS:Type:=ASU
abbrev aV(all:AS)(v:Nat):ASM:=all.getD v ATJ.zero
abbrev zS:ASw:=Ty.zero Ak
abbrev sV(all:AS)(v a:Nat):ASw:=(aV all v).getD a zS
theorem Ze{rt:Nat->Nat}{a:Nat}:∀{n:Nat} {y:Int},y∈R3 rt n a↔∃j:Nat,j<n/\y=(j:Int)/\rt j=rt a
 |0,y=>⟨λh=>by simp[R3]at h,λ⟨j,h,_⟩=>by omega⟩
 |n+1,y=>by
  rw[R3];constructor
  ·intro h;split at h
   ·rename_i e;rcases List.mem_append.1 h with h |h
    ·obtain⟨j,h1,h2⟩:=Ze.1 h;exact⟨j,by omega,h2⟩
    grind
   ·obtain⟨j,h1,h2⟩:=Ze.1 h;exact⟨j,by omega,h2⟩
  ·rintro⟨j,h1,h2,h3⟩
   by_cases e:j=n
   ·grind
   ·have:=(Ze (n:=n)).2 ⟨j,by omega,h2,h3⟩
    grind
section
variable {d:ASG} {c:ASQ} {P:Nat->Nat->ASw->Prop}
structure Gd (d:ASG) (L:ASH) (P:Nat->Nat->ASw->Prop) (D:Nat->Nat->Prop) (all:AS):Prop where
 len:all.length=d.length
 row:∀v,v<d.length->(aV all v).length=W d v
 ok:∀{m v x w j:Nat},InS L m v x w->j<w->D m j->P m j (sV all v (x+j))
theorem Gd.mono{L:ASH}{D D':Nat->Nat->Prop}{all:AS}(h:Gd d L P D all)(hD:∀m j,D' m j->D m j):Gd d L P D' all:=⟨h.len,h.row,λa b e=>h.ok a b (hD _ _ e)⟩
theorem Gd.put(hd:AE d)(hc:Dn d c){D:Nat->Nat->Prop}{all:AS}(h:Gd d (SL d c d.length) P D all){m v x w j:Nat}(hi:InS (SL d c d.length) m v x w)(hj:j<w){one:ASw}(ho:P m j one):Gd d (SL d c d.length) P (λm' j'=>D m' j'\/(m'=m/\j'=j)) (all.set v ((aV all v).set (x+j) one)):=by
 obtain⟨hv,hw⟩:=Aoy hd hc hi;have hl:=h.len;have hr:=h.row v hv;have ha:∀u,aV (all.set v ((aV all v).set (x+j) one)) u=if u=v then(aV all v).set (x+j) one else aV all u:=λu=>by
  grind
 refine⟨by grind,λu hu=>?_,λ{m' v' x' w' j'} tK R8 hD=>?_⟩
 ·rw[ha];split
  ·grind
  ·exact h.row u hu
 ·unfold sV;rw[ha];by_cases e:v'=v
  ·subst e;rw[AQr rfl];by_cases e2:x'+j'=x+j
   ·have hm:=Acb hd hc tK hi R8 hj e2;subst hm;have hx:=tK.2.symm.trans hi.2
    grind
   ·rw[show((aV all v').set (x+j) one).getD (x'+j') zS=sV all v' (x'+j') by grind];rcases hD with hD |⟨rfl,rfl⟩
    ·exact h.ok tK R8 hD
    ·have hx:=tK.2.symm.trans hi.2
     grind
  ·rw[AQs e];rcases hD with hD |⟨rfl,rfl⟩
   ·exact h.ok tK R8 hD
   ·have hx:=tK.2.symm.trans hi.2;injection hx with hx _;omega
end
section
variable {d:ASG} {l:ASK} {f:Nat->Nat->Bool} {N:Nat} {ld fx:ASC} {vm:ATO ASV} {ks:ASH} {vs:ASL} {Bi:ASC} {rt:Nat->Nat}
def Sgn(fx:ASC)(vs:ASL)(rt:Nat->Nat)(m j:Nat)(s:ASw):Prop:=(∀b,CV fx vs rt m j=some b->s=(-1,0,bI b,()))/\(CV fx vs rt m j=none->(0:Int)<=s.1)
theorem Ai9(hd:AE d)(hl:∀x∈l,MK x)(Ov:FD d l)(hs:CF d l)(OC:EB d l f)(ht:∀v p,f v p=true->v<d.length/\1<=p/\p<W d v)
    (J:JN (HL d l f) (SL d (Ax d f) d.length).length N ld fx vm ks vs Bi rt) {ns r m v x w:Nat} (hi:InS (SL d (Ax d f) d.length) m v x w) (hr:rt m=rt r) {D:Nat->Nat->Prop} {all:AS} (hG:Gd d (SL d (Ax d f) d.length) (Sgn fx vs rt) D all)
    (a:Int) (k:Nat) (l0:Int) (q:ASC) (s v0:Int) (b:ASG) (c:ASK) (d0:ASQ) (e:ASN) (g:ASC) (i:ATO ub) (j:ASH) (k0:FM) :
    Ay (Jl a (k:Int) l0 q s v0 b c d0 e g i j k0 (cV rt fx vs ns r) (w:Int) (nN (SL d (Ax d f) d.length) m) 0 all) (Gd d (SL d (Ax d f) d.length) (Sgn fx vs rt) λm' j'=>D m' j'\/m'=m):=by
 obtain⟨ZN,_⟩:=QQ hd f;obtain⟨hv,hw⟩:=Aoy hd ZN hi;obtain⟨_,_,hW⟩:=P6 hd hv;unfold Jl;refine BB (λn (s:Int×AS)=>∃i:Nat,s.1=(i:Int)/\i<=w/\n=w-i/\Gd d (SL d (Ax d f) d.length) (Sgn fx vs rt) (λm' j'=>D m' j'\/(m'=m/\j'<i)) s.2) (λn s hI=>?_) w (0,all) ⟨0,rfl,AQW _,rfl,hG.mono λm' j' h=>h.elim id λh=>by omega⟩;obtain⟨i',e1,tK,rfl,hg⟩:=hI;obtain⟨s1,s2⟩:=s;simp only at e1 hg;subst e1;unfold HN LK Jk;simp only;rcases AQk i' w with Bw |ag
 ·have hlen:=hg.len;have OY:=hg.row v hv;rw[Di Bw,AQp,hi.2];simp only;rw[show wI ((x:Int)+(i':Int))=((x+i':Nat):Int)from A6,show wI ((i':Int)+1)=((i'+1:Nat):Int)from A6];simp only[AQa];have key:∀one:Int×Int×Int,Sgn fx vs rt m i' (one.1,one.2.1,one.2.2,())->∃T,(if(0:Int)<=(v:Int)/\(v:Int)<(s2.length:Int)then
      if(0:Int)<=((x+i':Nat):Int)/\((x+i':Nat):Int)<((s2.getD v ATJ.zero).length:Int)then
      some (Sum.inl (((i'+1:Nat):Int),s2.set v ((s2.getD v ATJ.zero).set (x+i') (one.1,one.2.1,one.2.2,()))))else none else none:ATP ((Int×AS)⊕AS))=some (.inl (((i'+1:Nat):Int),T))/\Gd d (SL d (Ax d f) d.length) (Sgn fx vs rt) (λm' j'=>D m' j'\/(m'=m/\j'<i'+1)) T:=λone ho=>by
   rw[AQr (Bq (show v<s2.length by omega)),AQr (Bq (show x+i'<(aV s2 v).length by omega))];refine⟨_,rfl,(hg.put hd ZN hi Bw ho).mono λm' j' h=>?_⟩;rcases h with h |⟨h1,h2⟩
   ·exact .inl (.inl h)
   ·by_cases e:j'=i'
    ·exact .inr ⟨h1,e⟩
    ·exact .inl (.inr ⟨h1,by omega⟩)
  have YE:CV fx vs rt m i'=if 0<=gI fx (rt r)then some (bt (gB vs (gI fx (rt r)).toNat).2.1 i')else none:=by unfold CV;rw[hr]
  unfold cV;by_cases h0:0<=gI fx (rt r)
  ·rw[AQe (show gI fx (rt r)>=0 from h0),AQp];simp only[AQp];obtain⟨bs,u1,u2,u3⟩:=Ahp hd hl Ov hs OC ht J hi (by omega) (by rw[hr];exact h0);rw[hr]at u1;rw[show(((gB vs (gI fx (rt r)).toNat).1,(gB vs (gI fx (rt r)).toNat).2.1,()):ASv)=fu bs from u1,kN (by omega) (by omega),AP9,AP9];rw[AQr h0,u1,qI (by omega)]at YE;obtain⟨T,e,hT⟩:=key (-1,0,bI (bs.getD i' false)) ⟨λb hb=>(by rw[YE]at hb;injection hb with hb;rw[hb]),λh=>(by rw[YE]at h;cases h)⟩;exact Ay.of e ⟨w-(i'+1),by omega,i'+1,rfl,by omega,rfl,hT⟩
  ·rw[AQc (show ¬gI fx (rt r)>=0 from h0),AQo];simp only[AQo,AP9];rw[AQs h0]at YE;obtain⟨T,e,hT⟩:=key ((k:Int),(i':Int),0) ⟨λb hb=>(by rw[YE]at hb;cases hb),λ_=>Int.natCast_nonneg k⟩;exact Ay.of e ⟨w-(i'+1),by omega,i'+1,rfl,by omega,rfl,hT⟩
 ·have:i'=w:=by omega
  subst this;rw[Ew,AQo];refine Ay.mk ⟨hg.len,hg.row,λ{m' v' x' w' j'} a1 a2 a3=>hg.ok a1 a2 ?_⟩;rcases a3 with h |rfl
  ·exact .inl h
  ·refine .inr ⟨rfl,?_⟩;have hx:=a1.2.symm.trans hi.2;injection hx with _ hx;injection hx with _ hx;injection hx with hx _;have hx:(w':Int)=i':=hx;omega
theorem Aja(hd:AE d)(hl:∀x∈l,MK x)(Ov:FD d l)(hs:CF d l)(OC:EB d l f)(ht:∀v p,f v p=true->v<d.length/\1<=p/\p<W d v)
    (J:JN (HL d l f) (SL d (Ax d f) d.length).length N ld fx vm ks vs Bi rt) (a:Int) (c:ASK) (d0:ASQ) (g:ASC) (i:ATO ub) (k0:FM) :
    Ay (JG a d c d0 ((Df rt (SL d (Ax d f) d.length).length).map (cV rt fx vs (SL d (Ax d f) d.length).length)) g i (SL d (Ax d f) d.length) k0) λr=>Gd d (SL d (Ax d f) d.length) (Sgn fx vs rt) (λ_ _=>True) r.2.2.2.2.2.2.2.2:=by
 obtain⟨ZN,_⟩:=QQ hd f;have Jc:=eu hd ZN d.length (AQf _);have fe:=hd.1;have hrl:=iW rt (SL d (Ax d f) d.length).length;unfold JG;rw[AQr ⟨rfl,by omega,ARC _,by omega,by omega⟩,AQa];refine Ay.bind (P:=Gd d (SL d (Ax d f) d.length) (Sgn fx vs rt) λ_ _=>False) ?_ λall hG=>?_
 ·unfold OH;refine BB (λn (s:Int×AS)=>∃k:Nat,s.1=(k:Int)/\k<=d.length/\n=d.length-k/\s.2.length=d.length/\∀v,v<k->(aV s.2 v).length=W d v) (λn s hI=>?_) d.length _ ⟨0,rfl,AQW _,rfl,AQG,λv h=>by omega⟩;obtain⟨k,e1,hk,rfl,h1,h2⟩:=hI;obtain⟨s1,s2⟩:=s;simp only at e1 h1 h2;subst e1;unfold HM LJ;simp only;rcases AQk k d.length with Bw |ag
  ·obtain⟨w0,w1,w2⟩:=P6 hd Bw;have w0:(d.getD k Ab.zero).2.1=(W d k:Int):=w0;rw[Di Bw,AQp,AQr (Bq Bw)];simp only[AQa,w0];rw[AQr (show Ty.row Ak=true/\(0:Int)<=(W d k:Int)/\(W d k:Int)<=(W d k:Int)/\((24:Nat):Int)*(W d k:Int)<=(281474976710656:Int)/\(W d k:Int)<=(9223372036854775807:Int)from⟨rfl,by omega,ARC _,by omega,by omega⟩),AQr (Bq (show k<s2.length by omega)),show wI ((k:Int)+1)=((k+1:Nat):Int)from A6];refine Ay.mk ⟨d.length-(k+1),by omega,k+1,rfl,by omega,rfl,by rw[AQi];exact h1,λv hv=>?_⟩;by_cases e:v=k
   ·subst e;simp[aV,List.getD,h1,Bw]
   ·have:=h2 v (by omega);simp only[aV,List.getD,AQy,Ne.symm e,ARA]at this⊢;exact this
  ·have:k=d.length:=by omega
   subst this;rw[Ew,AQo];exact Ay.mk ⟨h1,h2,λ_ _ h=>h.elim⟩
 ·refine Ay.bind (P:=Gd d (SL d (Ax d f) d.length) (Sgn fx vs rt) λ_ _=>True) ?_ λr hr=>Ay.mk hr;unfold OJ;generalize hC:(Df rt (SL d (Ax d f) d.length).length).map (cV rt fx vs (SL d (Ax d f) d.length).length)=C;have hCl:C.length=(Df rt (SL d (Ax d f) d.length).length).length:=by rw[<-hC,AQl]
  have hCg:∀k,k<C.length->C.getD k Ao.zero=cV rt fx vs (SL d (Ax d f) d.length).length (rp rt (SL d (Ax d f) d.length).length k):=λk hk=>by
   rw[<-hC];exact Fq (cV rt fx vs (SL d (Ax d f) d.length).length) (by omega)
  refine BB (λn (s:Int×AS)=>∃k:Nat,s.1=(k:Int)/\k<=C.length/\n=C.length-k/\Gd d (SL d (Ax d f) d.length) (Sgn fx vs rt) (λm _=>∃k',k'<k/\rt m=rt (rp rt (SL d (Ax d f) d.length).length k')) s.2) (λn s hI=>?_) C.length (0,all) ⟨0,rfl,AQW _,rfl,hG.mono λm j h=>by obtain⟨k',h,_⟩:=h;omega⟩;obtain⟨k,e1,hk,rfl,hg⟩:=hI;obtain⟨s1,s2⟩:=s;simp only at e1 hg;subst e1;unfold HP LN;simp only;rcases AQk k C.length with Bw |ag
  ·rw[Di Bw,AQp,AQr (Bq Bw)];simp only[AQa,hCg k Bw];generalize hR:rp rt (SL d (Ax d f) d.length).length k=R;have hml:=iT rt R (SL d (Ax d f) d.length).length;rw[show wI ((k:Int)+1)=((k+1:Nat):Int)from A6,show(cV rt fx vs (SL d (Ax d f) d.length).length R).1=R3 rt (SL d (Ax d f) d.length).length R from rfl];refine Ay.bind (P:=Gd d (SL d (Ax d f) d.length) (Sgn fx vs rt) λm _=>(∃k',k'<k/\rt m=rt (rp rt (SL d (Ax d f) d.length).length k'))\/(m:Int)∈R3 rt (SL d (Ax d f) d.length).length R) ?_ λr hr=>Ay.mk ⟨C.length-(k+1),by omega,k+1,rfl,by omega,rfl,⟨hr.len,hr.row,λ{m v x w j} a1 a2 a3=>hr.ok a1 a2 ?_⟩⟩
   rotate_right
   ·obtain⟨k',b1,b2⟩:=a3;by_cases e:k'=k
    ·subst e;rw[hR]at b2;exact .inr (Ze.2 ⟨m,a1.1,rfl,b2⟩)
    ·exact .inl ⟨k',by omega,b2⟩
   unfold OI;generalize hM:R3 rt (SL d (Ax d f) d.length).length R=M at *;refine BB (λn (s:Int×AS)=>∃p:Nat,s.1=(p:Int)/\p<=M.length/\n=M.length-p/\Gd d (SL d (Ax d f) d.length) (Sgn fx vs rt) (λm _=>(∃k',k'<k/\rt m=rt (rp rt (SL d (Ax d f) d.length).length k'))\/(m:Int)∈M.take p) s.2) (λn s hI=>?_) M.length (0,s2) ⟨0,rfl,AQW _,rfl,hg.mono λm j h=>h.elim id λh=>by simp at h⟩;obtain⟨p,e1,hp,rfl,hg'⟩:=hI;obtain⟨t1,t2⟩:=s;simp only at e1 hg';subst e1;unfold HO LL;simp only;rcases AQk p M.length with Amn |AOx
   ·have hpm:M.getD p ATy.zero∈M:=AO Amn;obtain⟨m,m1,m2,m3⟩:=Ze.1 (show M.getD p ATy.zero∈R3 rt (SL d (Ax d f) d.length).length R by rw[hM];exact hpm);obtain⟨v,x,w,hi,_,_⟩:=AG6 hd ZN m1;rw[Di Amn,AQp,AQr (Bq Amn)];simp only[AQa,m2];rw[AQr (Bq m1),show(SL d (Ax d f) d.length).getD m Ae.zero=nN (SL d (Ax d f) d.length) m from rfl];have hw:(nN (SL d (Ax d f) d.length) m).2.2.1=(w:Int):=by rw[hi.2]
    rw[hw,show wI ((p:Int)+1)=((p+1:Nat):Int)from A6];refine(Ai9 hd hl Ov hs OC ht J (ns:=(SL d (Ax d f) d.length).length) hi m3 hg' a k _ _ _ _ _ _ _ _ _ _ _ _).bind λr hr=>Ay.mk ⟨M.length-(p+1),by omega,p+1,rfl,by omega,rfl,hr.mono λm' j' h=>?_⟩;rcases h with h |h
    ·exact .inl (.inl h)
    ·rw[A3 (z :=ATy.zero) Amn]at h;rcases List.mem_append.1 h with h |h
     ·exact .inl (.inr h)
     ·rw[AQA,m2]at h;exact .inr (by omega)
   ·have:p=M.length:=by omega
    subst this;rw[Ew,AQo];rw[AR5]at hg';exact Ay.mk hg'
  ·have:k=C.length:=by omega
   subst this;rw[Ew,AQo];refine Ay.mk ⟨hg.len,hg.row,λ{m v x w j} a1 a2 _=>hg.ok a1 a2 ?_⟩;obtain⟨k',b1,b2⟩:=dN rt (SL d (Ax d f) d.length).length m a1.1;exact⟨k',by omega,b2.symm⟩
end
theorem kO{w:Int}{s:ASC}(hs:CQ s){k:Nat}(hk:k<64*s.length)(hl:s.length<=1048576):∃s',Lq w (k:Int) s=some s'/\CQ s'/\s'.length=s.length/\∀i,bt s' i=(bt s i||decide (i=k)):=by
 have hq:k/64<s.length:=by omega
 have Jc:QG (NS .u64 1 ((k%64:Nat))):=ja Yb rfl (by omega);refine⟨s.set (k/64) (fC .u64 (s.getD (k/64) 0) _),?_,hs.set (mj (hs.getD _) Jc),AQi,λi=>?_⟩
 ·unfold Lq;rw[bX (by omega),WU,AQr (Bq hq),AQr (Bq hq)];rfl
 ·rw[YT hq];by_cases h3:i/64=k/64
  ·rw[AQr h3,xG (hs.getD _) Jc,tf Yb rfl (by omega),AaE];have:tb (s.getD (k/64) 0) (i%64)=bt s i:=by unfold bt;rw[h3]
   grind
  grind
def sgB(all:AS):Bt->ASw
 |.co b=>(-1,0,bI b,())
 |.va v a=>sV all v a
section
variable {d:ASG} {all:AS}
theorem Ad6(hl:all.length=d.length)(hr:∀v,v<d.length->(aV all v).length=W d v){s:Sg}(hs:WW s)(hb:∀x∈s.bits,LU d x){b:ASI}{c e:Int}{q:ASM}(hq:q.length<=8192):Uc all b c e (s.w:Int) (Ik s) 0 q=some (q++s.bits.map (sgB all)):=by
 have hsw:s.w<=4096:=by cases s<;>simp only[WW,Sg.w]at *<;>omega
 have:=AW (f:=FL all b c e s.w (Ik s)) (λk=>(k,q++(s.bits.take k).map (sgB all)))  s.w (λk hk=>by
  unfold FL L6 Pp;simp only;have XC:k<s.bits.length:=by rw[Iq];exact hk
  have hlen:(q++(s.bits.take k).map (sgB all)).length<=20000:=by grind
  rw[Di hk,AQp,Bp hk (by omega),HE XC,AQT,<-AQh];cases s with
  |co bs =>
   simp only[Sg.w]at hk hsw;rw[show((Ik _).1==(-1))=true from rfl,AQp,show I5 (Ik (.co bs)).2.2.2.1 _=some _ from kN hk (by omega),AP9,AQr (by grind)];rw[show(Sg.co bs).bits.getD k _=.co (bs.getD k _) by simp[Sg.bits,hk]];rfl
  |va v l n =>
   simp only[Sg.w,WW]at hk hs hsw;have hx:(Sg.va v l n).bits.getD k (.co false)=.va v (l+k):=by simp[Sg.bits,hk]
   have hbi:=hb _ (AO (z:=.co false) XC);rw[hx]at hbi⊢;obtain⟨hv,ha⟩:=hbi;have OY:=hr v hv;have haw:l+k<W d v:=by unfold W;omega
   rw[show((Ik (.va v l n)).1==(-1))=false from beq_eq_false_iff_ne.2 (show ¬((v:Int)=-1) by omega),AQo];rw[show(Ik _).1=v from rfl,AQr (Bq (show v<all.length by omega)),AQa,show wI _=((l+k:Nat))from A6 (by show l+(k:Int)=_;omega) (by omega)];rw[AQr (Bq (show l+k<(aV all v).length by omega)),AQr (by grind)];rfl) (by
  unfold FL L6;rw[Ew,AQo,<-Iq,AQj (AQf _)])
 rw[AR2,ARz,AQO]at this;exact this
theorem Aar(hd:AE d)(hl:all.length=d.length)(hr:∀v,v<d.length->(aV all v).length=W d v){B:ATO Bt}(h:Bv d B):Q6 (fN B) all=some (B.map (sgB all)):=by
 unfold Q6 Ud;have hlen:=CX (CM B);rw[Ce]at hlen;have h4:=h.2.1;have hsb:=Qh (λx hx=>eG (Sk hd (h.2.2 x hx))) h4;have Gh :=λs hs x hx=>h.2.2 x (by
  rw[<-EP B];exact List.mem_flatMap.2 ⟨s,hs,hx⟩)
 have:=AW (f:=D5 all _ ((fN B).length)) (λk=>(k,(Dz ((Az B).take k)).map _))  _ (λk hk=>by
  unfold D5 L8;have hw:=Fj (Az B) k;rw[Ce]at hw;rw[rq,Di hk,AQp,AQr (Bq hk),AQa,show(fN B).getD k _=Ik _ from gW hk,Zl,Ad6 hl hr (hsb _ (AO hk)) (Gh _ (AO hk)) (by rw[AQl,Lp];omega),AP9,Bp hk (by omega),T6 hk,AQT]) (by
  unfold D5 L8;rw[rq,Ew,AQo,AQj (AQf _),EP])
 rw[show fix (D5 all _ _) (0,[])=some _ from this];rfl
theorem Adi(hd:AE d)(hl:all.length=d.length)(hr:∀v,v<d.length->(aV all v).length=W d v){B:ATO Bt}(h:Bv d B){kn:Bt->ATP Bool}
    (hk:∀t∈B,(∀b,kn t=some b->sgB all t=(-1,0,bI b,()))/\(kn t=none->(0:Int)<=(sgB all t).1)) :
    TE (fN B) all=some ((B.length:Int),(B.length:Int),eh (low (λi=>(kn (LC B i)).isSome) B.length) (nw B.length),eh (low (λi=>kn (LC B i)==some true) B.length) (nw B.length)):=by
 have h4:=h.2.1;have hnw:nw B.length<=64:=by unfold nw;omega
 unfold TE;rw[AaM h,AP9,Ww (by omega),AP9,AP9,Aar hd hl hr h,AP9];refine Ay.eq_ ?_;refine Ay.bind (P:=λr:ASC×ASC=>r.1=eh (low (λi=>(kn (LC B i)).isSome) B.length) (nw B.length)/\r.2=eh (low (λi=>kn (LC B i)==some true) B.length) (nw B.length)) ?_ λr hr=>by
  unfold Q0;rw[AP9,hr.1,hr.2];exact Ay.mk rfl
 unfold Vm;rw[AQl];refine BB (λm (s:Int×ASC×ASC)=>∃n:Nat,s.1=(n:Int)/\n<=B.length/\m=B.length-n/\CQ s.2.1/\s.2.1.length=nw B.length/\CQ s.2.2/\s.2.2.length=nw B.length/\(∀i,bt s.2.1 i=(decide (i<n)&&(kn (LC B i)).isSome))/\∀i,bt s.2.2 i=(decide (i<n)&&(kn (LC B i)==some true))) (λm s hI=>?_) B.length _ ⟨0,rfl,AQW _,rfl,CQ.rep,AQG,CQ.rep,AQG,λi=>by rw[qJ];simp,λi=>by rw[qJ];simp⟩;obtain⟨n,e1,hn,rfl,o1,o2,q1,q2,o3,q3⟩:=hI;obtain⟨s1,o,q⟩:=s;simp only at e1 o1 o2 q1 q2 o3 q3;subst e1;unfold NG Ss QZ;simp only;rcases AQk n B.length with Bw |ag
 ·have hbn:B.getD n (.co false)=LC B n:=rfl;have hm:LC B n∈B:=AO Bw;obtain⟨k1,k2⟩:=hk _ hm;have AGo:n<64*nw B.length:=by unfold nw;omega
  rw[Di Bw,AQp,AQr (Bq (show n<(B.map (sgB all)).length by rw[AQl];exact Bw)),AQa,show wI ((n:Int)+1)=((n+1:Nat):Int)from A6];rw[show(B.map (sgB all)).getD n Ak.zero=sgB all (LC B n)from Fq (sgB all) Bw];have stp:∀(g:Nat->Bool) (i:Nat),g n=false->(decide (i<n)&&g i)=(decide (i<n+1)&&g i):=λg i hg=>by
   by_cases e:i=n
   ·subst e;simp[hg]
   ·congr 1;simp only[ARB];omega
  have AG9:∀(g:Nat->Bool) (i:Nat),g n=true->((decide (i<n)&&g i)||decide (i=n))=(decide (i<n+1)&&g i):=λg i hg=>by
   by_cases e:i=n
   ·subst e;simp[hg]
   ·rw[AQc e,Bool.or_false];congr 1;simp only[ARB];omega
  cases hc:kn (LC B n)with
  |none =>
   have:=k2 hc;rw[AQe (show(sgB all (LC B n)).1>=0 from this),AQp,AP9];refine Ay.mk ⟨B.length-(n+1),by omega,n+1,rfl,by omega,rfl,o1,o2,q1,q2,λi=>?_,λi=>?_⟩
   ·rw[o3 i,stp (λi=>(kn (LC B i)).isSome) i (by simp[hc])]
   ·rw[q3 i,stp (λi=>kn (LC B i)==some true) i (by simp[hc])]
  |some b =>
   rw[k1 b hc,show decide ((((-1,0,bI b,()):ASw).1:Int)>=0)=false from rfl,AQo];obtain⟨o',u1,u2,u3,u4⟩:=kO (w:=(B.length:Int)) o1 (k:=n) (by rw[o2];exact AGo) (by omega);rw[u1,AP9];have hA:∀i,bt o' i=(decide (i<n+1)&&(kn (LC B i)).isSome):=λi=>by
    rw[u4 i,o3 i,AG9 (λi=>(kn (LC B i)).isSome) i (by simp[hc])]
   cases b with
   |false =>
    rw[show((((-1,0,bI false,()):ASw).2.2.1:Int)==1)=false from rfl,AQo,AP9];exact Ay.mk ⟨B.length-(n+1),by omega,n+1,rfl,by omega,rfl,u2,u3.trans o2,q1,q2,hA,λi=>by rw[q3 i,stp (λi=>kn (LC B i)==some true) i (by simp[hc])]⟩
   |true =>
    rw[show((((-1,0,bI true,()):ASw).2.2.1:Int)==1)=true from rfl,AQp];obtain⟨q',w1,w2,w3,w4⟩:=kO (w:=(B.length:Int)) q1 (k:=n) (by rw[q2];exact AGo) (by omega);rw[w1,AP9,AP9];exact Ay.mk ⟨B.length-(n+1),by omega,n+1,rfl,by omega,rfl,u2,u3.trans o2,w2,w3.trans q2,hA,λi=>by rw[w4 i,q3 i,AG9 (λi=>kn (LC B i)==some true) i (by simp[hc])]⟩
 ·have:n=B.length:=by omega
  subst this;rw[Ew,AQo];refine Ay.mk ⟨QF o1 (DL _ _) (by rw[o2,EC]) λi _=>?_,QF q1 (DL _ _) (by rw[q2,EC]) λi _=>?_⟩
  ·rw[o3 i,Hj]
  ·rw[q3 i,Hj]
end
theorem BE.mono{E E':Bt->Bt->Prop}(h:∀a b,E a b->E' a b){a b:Bt}(k:BE E a b):BE E' a b:=by
 induction k with
 |refl=>exact .refl _
 |gX _ e ih=>exact .gX ih (h _ _ e)
 |bwd _ e ih=>exact .bwd ih (h _ _ e)
def Ad(E:Bt->Bt->Prop)(x y a b:Bt):Prop:=E a b\/(a=x/\b=y)
theorem Avd{E:Bt->Bt->Prop}{x y a b:Bt}:BE (Ad E x y) a b↔BE E a b\/(BE E a x/\BE E b y)\/(BE E a y/\BE E b x):=by
 constructor
 ·intro h;induction h with
  |refl=>exact .inl (.refl _)
  |@gX b c _ e ih =>
   rcases e with e |⟨rfl,rfl⟩
   ·have hc:BE E c b:=.bwd (.refl _) e;exact ih.imp (.gX · e) (Or.imp (And.imp_right hc.trans) (And.imp_right hc.trans))
   ·rcases ih with h |⟨h,_⟩|⟨h,_⟩
    ·exact .inr (.inl ⟨h,.refl _⟩)
    ·exact .inr (.inl ⟨h,.refl _⟩)
    ·grind
  |@bwd b c _ e ih =>
   rcases e with e |⟨rfl,rfl⟩
   ·have hc:BE E c b:=.gX (.refl _) e;exact ih.imp (.bwd · e) (Or.imp (And.imp_right hc.trans) (And.imp_right hc.trans))
   ·rcases ih with h |⟨h,_⟩|⟨h,_⟩
    ·exact .inr (.inr ⟨h,.refl _⟩)
    ·grind
    ·exact .inr (.inr ⟨h,.refl _⟩)
 ·have hm:∀a b,E a b->Ad E x y a b:=λ_ _ h=>.inl h;have hxy:BE (Ad E x y) x y:=.gX (.refl _) (.inr ⟨rfl,rfl⟩)
  rintro(h |⟨h,k⟩|⟨h,k⟩)
  ·exact h.mono hm
  ·exact(h.mono hm).trans (hxy.trans (k.mono hm).symm)
  ·exact(h.mono hm).trans (hxy.symm.trans (k.mono hm).symm)
def bD(d:ASG):Bt->Nat
 |.co b=>if b then 1 else 0
 |.va v a=>(2+K8 d v).toNat+a
section
variable {d:ASG}
theorem iI(hd:AE d):∀{v u:Nat},v<u->u<=d.length->K8 d v+dw d v<=K8 d u
 |v,0,h,_=>by omega
 |v,u+1,h,hu=>by
  have h1:=oC hd (v:=u) (by omega);rw[W7 (show u<d.length by omega)];by_cases e:v=u
  ·grind
  ·have:=iI hd (show v<u by omega) (by omega);omega
theorem WK(hd:AE d){t:Bt}(h:LU d t):bD d t<(2+K8 d d.length).toNat:=by
 have h0:=Hk  (AQf _) hd.2.1;cases t with
 |co b=>show(if b=true then 1 else 0)<_;split<;>omega
 |va v a =>
  obtain⟨hv,ha⟩:=h;have:=iI hd hv (AQf _);have h1:=Hk  (Nat.le_of_lt hv) λi hi=>hd.2.1 i (by omega);show(2+K8 d v).toNat+a<_;omega
theorem AmN(hd:AE d){s t:Bt}(hs:LU d s)(ht:LU d t)(h:bD d s=bD d t):s=t:=by
 cases s with
 |co b=>cases t with
  |co b'=>cases b<;>cases b'<;>first |rfl |(simp[bD]at h)
  |va v a =>
   have h1:=Hk  (Nat.le_of_lt ht.1) λi hi=>hd.2.1 i (by have:=ht.1;omega);have h:(if b=true then 1 else 0)=(2+K8 d v).toNat+a:=h;split at h<;>omega
 |va v a =>
  have h1:=Hk  (Nat.le_of_lt hs.1) λi hi=>hd.2.1 i (by have:=hs.1;omega);cases t with
  |co b =>
   have h:(2+K8 d v).toNat+a=(if b=true then 1 else 0):=h;split at h<;>omega
  |va v' a' =>
   have h2:=Hk  (Nat.le_of_lt ht.1) λi hi=>hd.2.1 i (by have:=ht.1;omega);obtain⟨hv,ha⟩:=hs;obtain⟨rQ,ha'⟩:=ht;have h:(2+K8 d v).toNat+a=(2+K8 d v').toNat+a':=h;rcases Nat.lt_trichotomy v v' with e |e |e
   ·have:=iI hd e (by omega);omega
   ·grind
   ·have:=iI hd e (by omega);omega
theorem fz(hd:AE d){t:Bt}(h:LU d t):KT ((List.range d.length).map λv=>2+K8 d v) (Wa t)=some ((bD d t:Nat):Int):=by
 unfold KT;cases t with
 |co b =>
  cases b<;>rfl
 |va v a =>
  obtain⟨hv,ha⟩:=h;have h1:=Hk  (Nat.le_of_lt hv) λi hi=>hd.2.1 i (by omega);have h2:=oC hd hv;have fe:=hd.1;rw[show(Wa _).1=v from rfl,show(Wa _).2.1=a from rfl,show decide ((v:Int)<0)=false from I3,AQr (Bq (by grind)),AQa,Gk hv,BU  (by omega) (by omega)];show some _=some (((2+K8 d v).toNat+a):Int);congr 1;omega
structure LB (d:ASG) (E:Bt->Bt->Prop) (Bi:ASC):Prop where
 len:Bi.length=(2+K8 d d.length).toNat
 lo:∀i,i<Bi.length->0<=gI Bi i/\gI Bi i<=(i:Int)/\gI Bi (gI Bi i).toNat=gI Bi i
 eqv:∀{x y},LU d x->LU d y->(gI Bi (bD d x)=gI Bi (bD d y)↔BE E x y)
theorem LB.merge(hd:AE d){E:Bt->Bt->Prop}{Bi:ASC}(h:LB d E Bi){x y:Bt}(hx:LU d x)(hy:LU d y) :
    LB d (Ad E x y) (Bi.map λz=>if z=max (gI Bi (bD d x)) (gI Bi (bD d y))then min (gI Bi (bD d x)) (gI Bi (bD d y))else z):=by
 have hl:=h.len;have bx:=WK hd hx;have b_y:=WK hd hy;generalize hm:min (gI Bi (bD d x)) (gI Bi (bD d y))=m;generalize hM:max (gI Bi (bD d x)) (gI Bi (bD d y))=M;have hg:∀i,i<Bi.length->gI (Bi.map λz=>if z=M then m else z) i=if gI Bi i=M then m else gI Bi i:=λi hi =>
  Fq (λz=>if z=M then m else z) (y :=ATy.zero) hi
 obtain⟨a1,a2,a3⟩:=h.lo _ (show bD d x<Bi.length by omega);obtain⟨b1,b2,b3⟩:=h.lo _ (show bD d y<Bi.length by omega);refine⟨by rw[AQl];exact hl,λi hi=>?_,λ{u w} hu hw=>?_⟩
 ·rw[AQl]at hi;obtain⟨c1,c2,c3⟩:=h.lo i hi;rw[hg i hi];by_cases e:gI Bi i=M
  ·rw[AQr e];refine⟨by omega,by omega,?_⟩;rcases Int.le_total (gI Bi (bD d x)) (gI Bi (bD d y))with h |h
   ·have em:m=gI Bi (bD d x):=by omega
    rw[em]at hg⊢;rw[hg _ (by omega),a3];split<;>rfl
   ·have em:m=gI Bi (bD d y):=by omega
    rw[em]at hg⊢;rw[hg _ (by omega),b3];split<;>rfl
  ·rw[AQs e];refine⟨c1,c2,?_⟩;rw[hg _ (by omega),c3,AQs e]
 ·have bu:=WK hd hu;have bw:=WK hd hw;rw[hg _ (by omega),hg _ (by omega),Avd,<-h.eqv hu hw,<-h.eqv hu hx,<-h.eqv hw hy,<-h.eqv hu hy,<-h.eqv hw hx];split<;>split<;>omega
def Ed(d:ASG)(l:ASK)(i0 p0:Nat)(x y:Bt):Prop:=∃i p,(i<i0\/(i=i0/\p<p0))/\i<l.length/\p<(b1 d l i).length/\x=LC (b1 d l i) p/\y=LC (b2 d l i) p
theorem LB.congr{E E':Bt->Bt->Prop}{Bi:ASC}(h:LB d E Bi)(hE:∀a b,E a b↔E' a b):LB d E' Bi:=⟨h.len,h.lo,λhx hy=>(h.eqv hx hy).trans ⟨BE.mono λa b e=>(hE a b).1 e,BE.mono λa b e=>(hE a b).2 e⟩⟩
variable {l:ASK}
theorem AcX(hd:AE d)(hl:∀x∈l,MK x)(Ov:FD d l)(hs:CF d l){i:Nat}(hi:i<l.length){Bi:ASC}(h:LB d (Ed d l i 0) Bi)(n:ASI) :
    Ay (Up d l n ((List.range d.length).map λv=>2+K8 d v) (i:Int) (bV (b1 d l i)) (bV (b2 d l i)) 0 Bi) (LB d (Ed d l (i+1) 0)):=by
 obtain⟨s1,s2,s3,_⟩:=PE hd hl Ov hs hi;have h4:=s1.2.1;have hS:=hd.2.2;refine BB (λm s=>∃p:Nat,s.1=(p:Int)/\p<=(b1 d l i).length/\m=(b1 d l i).length-p/\LB d (Ed d l i p) s.2) (λm s hI=>?_) _ _ ⟨0,rfl,AQW _,rfl,h⟩;obtain⟨p,e1,hp,rfl,hL⟩:=hI;obtain⟨t1,t2⟩:=s;simp only at e1 hL;subst e1;unfold Mq Rt;simp only;rw[CR];rcases AQk p _ with Bw |ag
 ·have x1:LU d ((b1 d l i).getD p (.co false)):=s1.2.2 _ (AO Bw);have x2:LU d ((b2 d l i).getD p (.co false)):=s2.2.2 _ (AO (by omega));have bx:=WK hd x1;have b_y:=WK hd x2;have hlen:=hL.len;rw[Di Bw,AQr (Bq Bw),AQr (Bq (show p<(bV _).length by rw[CR];omega)),AQa,cC Bw,cC (show p<(b2 d l i).length by omega),fz hd x1,AP9,fz hd x2,AP9,wF (by omega) (by omega) (by omega),show wI _=((p+1:Nat))from A6];refine Ay.mk ⟨(b1 d l i).length-(p+1),by omega,p+1,rfl,by omega,rfl,(hL.merge hd x1 x2).congr λa b=>?_⟩;constructor
  ·rintro(⟨i',p',h1,h2,h3,h5⟩|⟨rfl,rfl⟩)
   ·exact⟨i',p',by omega,h2,h3,h5⟩
   ·exact⟨i,p,.inr ⟨rfl,by omega⟩,hi,Bw,rfl,rfl⟩
  ·rintro⟨i',p',h1,h2,h3,rfl,rfl⟩
   by_cases e:i'=i/\p'=p
   ·obtain⟨rfl,rfl⟩:=e;exact .inr ⟨rfl,rfl⟩
   ·exact .inl ⟨i',p',by omega,h2,h3,rfl,rfl⟩
 ·have:p=(b1 d l i).length:=by omega
  subst this;rw[Ew];refine Ay.mk (hL.congr λa b=>⟨λ⟨i',p',h1,h2,h3,h5⟩=>⟨i',p',by omega,h2,h3,h5⟩,λ⟨i',p',h1,h2,h3,h5⟩=>⟨i',p',?_,h2,h3,h5⟩⟩)
  grind
open Classical in
noncomputable def kV(E:Bt->Bt->Prop)(t:Bt):ATP Bool:=if BE E t (.co true)then some true else if BE E t (.co false)then some false else none
theorem XV{E:Bt->Bt->Prop}(h:¬BE E (.co false) (.co true)){t:Bt}{b:Bool}:kV E t=some b↔BE E t (.co b):=by
 unfold kV;by_cases h1:BE E t (.co true)
 ·rw[AQr h1];cases b with
  |true=>grind
  |false=>simp;exact λh2=>h (h2.symm.trans h1)
 ·rw[AQs h1];by_cases h2:BE E t (.co false)
  ·cases b with
   |true=>grind
   |false=>grind
  ·cases b<;>simp[h1]
theorem Awm(hd:AE d){E:Bt->Bt->Prop}{Bi:ASC}(h:LB d E Bi)(hc:¬BE E (.co false) (.co true)){t:Bt}(ht:LU d t):(kV E t=none/\2<=gI Bi (bD d t))\/∃b,kV E t=some b/\gI Bi (bD d t)=bI b:=by
 have hl:=h.len;have b_t:=WK hd ht;have h0:=Hk  (AQf _) hd.2.1;have z0:gI Bi 0=0:=by have:=h.lo 0 (by omega);omega
 have z1:gI Bi 1=1:=by
  have h1:=h.lo 1 (by omega);rcases Int.lt_or_le (gI Bi 1) 1 with h2 |h2
  ·exact(hc ((h.eqv (x:=.co _) (y:=.co true) trivial trivial).1 (show gI Bi 0=gI Bi 1 by omega))).elim
  ·omega
 have hb:∀b,gI Bi (bD d t)=bI b↔BE E t _:=λb=>by
  rw[<-h.eqv ht (y:=.co b) trivial];cases b with
  |true=>rw[show gI Bi (bD d (.co true))=bI true from z1]
  |false=>rw[show gI Bi (bD d (.co false))=bI false from z0]
 obtain⟨c1,_,_⟩:=h.lo _ (show bD d t<Bi.length by omega);cases hk:kV E t with
 |some b=>exact .inr ⟨b,rfl,(hb b).2 ((XV hc).1 hk)⟩
 |none =>
  refine .inl ⟨rfl,?_⟩;have n0:gI Bi _≠bI false:=λe=>by rw[(XV hc).2 ((hb _).1 e)]at hk;cases hk
  have n1:gI Bi _≠bI true:=λe=>by rw[(XV hc).2 ((hb _).1 e)]at hk;cases hk
  have n0:gI Bi _≠0:=n0;have n1:gI Bi _≠1:=n1;omega
end
section
variable {d:ASG} {l:ASK}
theorem r8(hd:AE d){B:ATO Bt}(h:Bv d B):IY (fN B)=some (bV B):=by
 unfold fN;rw[oZ (CM B) (Qh (λx hx=>eG (Sk hd (h.2.2 x hx))) h.2.1) (by rw[Ce];exact h.2.1),EP]
theorem AcY(hd:AE d)(hl:∀x∈l,MK x)(Ov:FD d l)(hs:CF d l)(hc:¬BE (EL d l) (.co false) (.co true)){B:ATO Bt}(hB:Bv d B) :
    Rs d l (fN B)=some (B.map λt=>bI (kV (EL d l) t).isSome,B.map λt=>bI (kV (EL d l) t==some true)):=by
 have fe:=hd.1;have ia:=Ov.1;have hS:=hd.2.2;have hB4:=hB.2.1;have h0:=Hk (k:=d.length) (AQf _) hd.2.1;unfold Rs;have e0:PI d l (fN B) 2 0 ([]:ASC)=some ((List.range d.length).map λv=>2+K8 d v,2+K8 d d.length):=by
  unfold PI;have:=AW (f:=FV d l (fN B)) (λk=>(2+K8 d k,(k:Int),(List.range k).map λv=>2+K8 d v)) (t:=((List.range d.length).map λv=>2+K8 d v,2+K8 d d.length)) d.length (λk hk=>by
   have h1:=Hk (k:=k) (Nat.le_of_lt hk) λi hi=>hd.2.1 i (by omega);have h2:=oC hd hk;unfold FV Mn;simp only;rw[Di hk,AQp,AQr (by rw[AQl,AQQ,AQt];omega),AQr (Bq hk),AQa,show(d.getD k Ab.zero).2.1=dw d k from rfl,BU (x:=2+K8 d k+dw d k),show wI ((k:Int)+1)=((k+1:Nat):Int)from A6,D7,W7 hk,Int.add_assoc]) (by
   unfold FV Mn;simp only;rw[Ew,AQo])
  exact this
 generalize hT:(2+K8 d d.length).toNat=T;have hT':2+K8 d d.length=(T:Int):=by omega
 rw[e0,AP9];simp only;rw[hT'];have e1:∀x,PK d l (fN B) x (T:Int) 0 ([]:ASC)=some ((List.range T).map Int.ofNat):=λx=>by
  unfold PK;have:=AW (f:=FW d l (fN B) x (T:Int)) (λk=>((k:Int),(List.range k).map Int.ofNat)) (t:=(List.range T).map Int.ofNat) T (λk hk=>by
   unfold FW Mp;simp only;rw[Di hk,AQp,AQr (by rw[AQl,AQQ,AQt];omega),show wI ((k:Int)+1)=((k+1:Nat):Int)from A6,D7];rfl) (by
   unfold FW Mp;simp only;rw[Ew,AQo])
  exact this
 rw[e1,AP9];have hi0:LB d (Ed d l 0 0) ((List.range T).map Int.ofNat):=by
  have hg:∀{i},i<T->gI ((List.range T).map Int.ofNat) i=(i:Int):=λ{i} hi=>Gk (g:=Int.ofNat) hi;refine⟨by rw[AQl,AQQ,hT],λi hi=>?_,λ{x y} hx hy=>?_⟩
  ·rw[AQl,AQQ]at hi;rw[hg hi,AQa,hg hi];omega
  ·have bx:=WK hd hx;have b_y:=WK hd hy;rw[hg (by omega),hg (by omega)];constructor
   ·intro h;rw[AmN hd hx hy (by omega)];exact .refl _
   ·intro h;have:x=y:=by
     induction h with
     |refl=>rfl
     |gX _ e _=>obtain⟨i,p,h,_⟩:=e;omega
     |bwd _ e _=>obtain⟨i,p,h,_⟩:=e;omega
    rw[this]
 obtain⟨Bi,e3,hL⟩:Ay (PL d l (fN B) ((List.range d.length).map λv=>2+K8 d v) 0 ((List.range T).map Int.ofNat)) (LB d (EL d l)):=by
  unfold PL;refine BB (λm (s:Int×ASC)=>∃i:Nat,s.1=(i:Int)/\i<=l.length/\m=l.length-i/\LB d (Ed d l i 0) s.2) (λm s hI=>?_) l.length (0,(List.range T).map Int.ofNat) ⟨0,rfl,AQW _,rfl,hi0⟩;obtain⟨i,e1,hi,rfl,hg⟩:=hI;obtain⟨s1,s2⟩:=s;simp only at e1 hg;subst e1;unfold Mr Ru;simp only;rcases AQk i l.length with Bw |ag
  ·obtain⟨u1,u2,u3,_,u5,u6⟩:=PE hd hl Ov hs Bw;have hb:=hl _ (AO (z :=Ah.zero) Bw);have g1:BK d (l.getD i Ah.zero).2.2.1=some (D1 d (lS l i)):=Hw hd hb.1;have g2:BK d (l.getD i Ah.zero).2.2.2.1=some (D1 d (lT l i)):=Hw hd hb.2;rw[Di Bw,AQp,AQr (Bq Bw)];simp only[AQa];rw[g1,AP9,AQr (Bq Bw),g2,AP9,u5,u6];simp only;rw[r8 hd u1,AP9,r8 hd u2,AP9,show wI ((i:Int)+1)=((i+1:Nat):Int)from A6];exact(AcX hd hl Ov hs Bw hg (fN B)).bind λr hr=>Ay.mk ⟨l.length-(i+1),by omega,i+1,rfl,by omega,rfl,hr⟩
  ·have:i=l.length:=by omega
   subst this;rw[Ew,AQo];exact Ay.mk (hg.congr λa b=>⟨λ⟨i,p,_,h2,h3,h4⟩=>⟨i,h2,p,h3,h4⟩,λ⟨i,h2,p,h3,h4⟩=>⟨i,p,.inl h2,h2,h3,h4⟩⟩)
 rw[e3,AP9,r8 hd hB,AP9];have hlen:=hL.len;have e7:PN Bi (bV B) ((List.range d.length).map λv=>2+K8 d v) 0 ([]:ASC) ([]:ASC)=some (B.map λt=>bI (kV (EL d l) t).isSome,B.map λt=>bI (kV (EL d l) t==some true)):=by
  unfold PN;have:=AW (f:=FX Bi (bV B) ((List.range d.length).map λv=>2+K8 d v)) (λk=>((k:Int),(B.take k).map λt=>bI (kV (EL d l) t).isSome,(B.take k).map λt=>bI (kV (EL d l) t==some true))) (t:=(B.map λt=>bI (kV (EL d l) t).isSome,B.map λt=>bI (kV (EL d l) t==some true))) B.length (λk hk=>by
   have hb:LU d (B.getD k (.co false)):=hB.2.2 _ (AO hk);have bd:=WK hd hb;have fY:=Awm hd hL hc hb;unfold FX Ms OQ;simp only;rw[CR,Di hk,AQp,AQr (Bq hk),AQa,cC hk,fz hd hb,AP9,AQr (Bq (show bD d (B.getD k (.co false))<Bi.length by omega)),AQa];rw[AQr (by rw[AQl,AQu,AQt];omega),AQr (by rw[AQl,AQu,AQt];omega),show wI ((k:Int)+1)=((k+1:Nat):Int)from A6,HE hk,AQT,AQT];generalize B.getD k (.co false)=t at *;rw[show Bi.getD (bD d t) ATy.zero=gI Bi (bD d t)from rfl];rcases fY with ⟨h1,h2⟩|⟨b,h1,h2⟩
   ·rw[AQc (show ¬gI Bi (bD d t)<2 by omega),AQo,Int.zero_mul];simp only[AQU,ARz,h1];rfl
   ·rw[h2];simp only[AQU,ARz,h1];cases b<;>rfl) (by
   unfold FX Ms OQ;simp only;rw[CR,Ew,AQo,AR5])
  exact this
 rw[e7,AP9]
theorem Al9(hd:¬AE d){t:ASJ}:BK d (t,())=some (false,[]):=by
 obtain⟨r,e,h⟩:=UU d;have hr :=Bool.eq_false_iff.2 λx=>hd (h.1 x);subst hr;unfold BK Fh Lz G5;rw[e];rfl
end
abbrev RF:Type:=Int×Int×Int×ASC×ASC
structure AcO (r:RF):Prop where
 w1:0<=r.1/\r.1<=4096
 w2:0<=r.2.1/\r.2.1<=4096
 l1:r.2.2.2.1.length<=64
 l2:r.2.2.2.2.length<=64
 h1:CQ r.2.2.2.1
 h2:CQ r.2.2.2.2
theorem Ai0(c:Int):AcO (0,0,c,[],[]):=⟨⟨ARC _,by grind⟩,⟨ARC _,by grind⟩,AQW _,AQW _,(λx hx=>by grind),(λx hx=>by grind)⟩
theorem kr{d:ASG}(hd:AE d){t:ASJ}(ht:OS t):D1 d t=(false,[])\/∃B,Bv d B/\D1 d t=(true,fN B):=by
 unfold D1;split
 ·rename_i h;obtain⟨ws,hw⟩:=h.1;exact .inr ⟨_,wy hd ht hw,rfl⟩
 ·grind
theorem vq{d:ASG}{l:ASK}(fe:d.length<=1048576)(ia:l.length<=1048576)(hl:∀x∈l,MK x){t:ASJ}(ht:OS t):∃r,A4 d l (t,())=some r/\A1 d l (t,())=some r/\AcO r:=by
 have S5:∀x∈I4 l,MK x:=λx hx=>hl x (List.mem_filter.1 hx).1;obtain⟨r1,e1,q1⟩:=Zm (d:=d) hl;obtain⟨r2,e2,q2⟩:=wj (d:=d) hl;have hr:r1=r2:=by rw[ASa,q1,q2]
 subst hr;obtain⟨r0,e0,q0⟩:=XS d;unfold A4 A1 UV L3 OQ;rw[e0,e1,AP9,AP9];by_cases hd:AE d
 case neg =>
  have h0:r0=false:=Bool.eq_false_iff.2 λx=>hd (q0.1 x);have h1:r1=false:=Bool.eq_false_iff.2 λx=>hd (q1.1 x).1;subst h0;subst h1;simp only[ARu,AQp,AP9,Al9 hd];exact⟨_,rfl,rfl,Ai0 _⟩
 have h0:r0=true:=q0.2 hd;subst h0;simp only[AQS,AQo];rw[nC hd ht,AP9,Hw hd ht,e2,AP9];cases r1 with
 |false =>
  simp only[ARu,AQp,AP9];exact⟨_,rfl,rfl,Ai0 _⟩
 |true =>
  obtain⟨_,Ov⟩:=q1.1 rfl;simp only[AQS,AQo];obtain⟨r3,e3,q3⟩:=aM hd hl Ov.1;obtain⟨r4,e4,q4⟩:=WB hd hl Ov;rw[e3,e4,AP9,AP9];rcases q3 with ⟨f1,hs,_⟩|⟨f1,hns⟩
  ·rcases q4 with ⟨f2,_,_⟩|⟨f2,hns⟩
   ·obtain⟨Ads,ib⟩:=Ahm Ov hs;obtain⟨ZN,hcb⟩:=AdR hd;obtain⟨rc,ec,himp,UA⟩:=uR (d:=d) (l:=I4 l) hcb S5;rcases UA with ⟨_,ah⟩|⟨_,_,_,_,f,rfl,hf⟩
    ·exact(ah ⟨hd,ZN,Ads,ib⟩).elim
    obtain⟨X,Y,eX,eY,hY,hR⟩:=zn hd S5 Ads ib hf ec;obtain⟨AvH,AJz⟩:=QQ hd f;have Jc:=eu hd AvH d.length (AQf _);have AN8:=hd.1;obtain⟨v5,ev5,hv5⟩:=WB hd S5 Ads;have AKw:v5.2=(List.range (I4 l).length).map (Ox d (I4 l)):=by
     rcases hv5 with ⟨_,_,h⟩|⟨_,h⟩
     ·exact h
     ·exact(h ib).elim
    rw[f1,f2];simp only[AQS,AQo,AP9];simp only[Aav ia,zV ia,xp fe,wq fe,AP9,eY,himp,ev5,AQS,AQo,nE hd AvH AJz,Adh (show(SL d (Ax d f) d.length).length<=1048576 by omega),AKw,eX];rcases hR with ⟨n1,n2⟩|⟨n1,n2,n3,n4,n5,N,ld,fx,vm,ks,vs,Bi,rt,J,hC,hP⟩
    ·have p1:decide ((X.2.2.2.2.2.2.2.length:Int)>0)=true:=AQe (by
       rcases AQx X.2.2.2.2.2.2.2.length with h |h
       ·exact(n1 (List.length_eq_zero_iff.1 h)).elim
       ·omega)
     have p2:decide ((Y.2.2.1.length:Int)>0)=true:=AQe (by
      rcases AQx Y.2.2.1.length with h |h
      ·exact(n2 (List.length_eq_zero_iff.1 h)).elim
      ·omega)
     rw[p1,p2];simp only[AQp,AP9];rcases kr hd ht with h |⟨B,_,h⟩<;>rw[h]<;>exact⟨_,rfl,rfl,Ai0 _⟩
    ·have p1:decide ((X.2.2.2.2.2.2.2.length:Int)>0)=false:=by rw[n1];rfl
     have p2:decide ((Y.2.2.1.length:Int)>0)=false:=by rw[n2];rfl
     rw[p1,p2];simp only[AQo,AP9];rcases kr hd ht with h |⟨B,hB,h⟩<;>rw[h]
     ·exact⟨_,rfl,rfl,Ai0 _⟩
     ·have hP':∀i,i<(I4 l).length->∀x∈ua d (I4 l) f i,P1 (SL d (Ax d f) d.length).length rt vs x:=λi hi=>hP i hi (by
        have:=(List.mem_filter.1 (AO (z :=Ah.zero) hi)).2;exact this)
      obtain⟨MN,AGE⟩:=sem hd S5 Ads ib hf.cl hf.ak J hP';rw[n3,n4,n5,hC];obtain⟨sg,es,hG⟩:=Aja hd S5 Ads ib hf.cl hf.ak J 0 X.2.1 X.2.2.2.1 X.2.2.2.2.2.2.2 X.2.2.1 X.2.2.2.2.2.1;have fY:∀b∈B,(∀c,kV (EL d (I4 l)) b=some c->sgB sg.2.2.2.2.2.2.2.2 b=(-1,0,bI c,()))/\(kV (EL d (I4 l)) b=none->(0:Int)<=(sgB sg.2.2.2.2.2.2.2.2 b).1):=λb hb=>by
       cases b with
       |co c =>
        refine⟨λc' h=>?_,λh=>?_⟩
        ·have h:=(XV MN).1 h;have:c=c':=by
          cases c<;>cases c'<;>first |rfl |exact(MN h).elim |exact(MN h.symm).elim
         rw[this];rfl
        ·rw[(XV MN (b:=c)).2 (.refl _)]at h;cases h
       |va v a =>
        obtain⟨hv,ha⟩:=hB.2.2 _ hb;obtain⟨m,x,w,j,h1,h2,rfl⟩:=AG5 hd AvH hv (show a<W d v by unfold W;omega);obtain⟨g1,g2⟩:=hG.ok h1 h2 trivial;refine⟨λc' h=>g1 c' ((AGE h1 h2 c').2 ((XV MN).1 h)),λh=>g2 ?_⟩;cases hc:CV fx vs rt m j with
        |none=>rfl
        |some c=>rw[(XV MN).2 ((AGE h1 h2 c).1 hc)]at h;cases h
      have hB1:=hB.1;have hB4:=hB.2.1;have eF:=Adi hd hG.len hG.row hB fY;have hnw:nw B.length<=64:=by unfold nw;omega
      have eS:=AcY hd S5 Ads ib MN hB;have f1:=ZS (l:=B.map λt=>(kV (EL d (I4 l)) t).isSome) (by rw[AQl];exact hB1) (by rw[AQl];exact hB4);have f2:=ZS (l:=B.map λt=>kV (EL d (I4 l)) t==some true) (by rw[AQl];exact hB1) (by rw[AQl];exact hB4);rw[ARW,AQl]at f1 f2;have Uk:∀(g:Bt->Bool),low (λi=>(B.map g).getD i false) B.length=low (λi=>g (LC B i)) B.length:=λg=>by
       funext i
       unfold low;by_cases hi:i<B.length
       ·show(decide (i<B.length)&&(B.map g).getD i false)=_;rw[Fq g (y:=.co false) hi];rfl
       ·simp[hi]
      rw[Uk]at f1 f2;simp only[AQS,Bool.or_false,AQo];rw[es,AP9,eF,AP9];have hwd:(0:Int)<=(B.length:Int)/\(B.length:Int)<=4096:=by omega
      unfold QV Rr;simp only[AP9];refine⟨((B.length:Int),(B.length:Int),0,eh (low (λi=>(kV (EL d (I4 l)) (LC B i)).isSome) B.length) (nw B.length),eh (low (λi=>kV (EL d (I4 l)) (LC B i)==some true) B.length) (nw B.length)),?_,rfl,hwd,hwd,by simp only[EC];exact hnw,by simp only[EC];exact hnw,DL _ _,DL _ _⟩;rw[show((0:Int)==1)=false from rfl,show((0:Int) !=0)=false from rfl];simp only[AQo];rw[eS,AP9];simp only;rw[show(B.map λt=>bI (kV (EL d (I4 l)) t).isSome)=B.map (bI∘λt=>(kV (EL d (I4 l)) t).isSome)from rfl,show(B.map λt=>bI (kV (EL d (I4 l)) t==some true))=B.map (bI∘λt=>kV (EL d (I4 l)) t==some true)from rfl,f1,f2,AP9,AP9]
   ·exact(hns hs).elim
  ·rcases q4 with ⟨f2,hs,_⟩|⟨f2,_⟩
   ·exact(hns hs).elim
   ·rw[f1,f2];simp only[ARu,AQp,AP9];exact⟨_,rfl,rfl,Ai0 _⟩
theorem wC{a:ASJ}(hn:OS a){k:Int}(h0:0<=k)(hk:k+((jT a:Nat):Int)<=2305843009213693952):Ay (O5 k a) λr=>k<=r.1/\r.1<=k+((jT a:Nat):Int):=by
 have e:Mc k a=D6 k a:=rfl;unfold O5;rw[e];exact(WJ hn h0 hk).bind λr hr=>Ay.mk ⟨hr.1,hr.2.1⟩
theorem gq{a:ASC}(hn:a.length<=64)(w:Int){k:Int}(h0:0<=k)(hk:k<=1000):Ay (Lv w k a) λr=>k<=r.1/\r.1<=k+64/\∀v,GQ (v,r.2,()) k=some r.1:=by
 have e:KC k a=Dy k a:=rfl;unfold Lv;rw[e];refine(Zd (a:=a) (by omega) h0 (by omega)).bind λr hr=>?_;obtain⟨r1,r2,r3,r4⟩:=hr;refine Ay.mk ⟨r1,by show r.1<=_;omega,λv=>?_⟩;unfold GQ;rw[kF (by omega) r4,AP9,I3];rfl
theorem AcO.wf1{r:RF}(h:AcO r):Ty.Wf Ai (r.1,r.2.2.2.1,()):=⟨oT (x:=r.1) (Int.le_trans (by decide) h.w1.1) (Int.le_trans h.w1.2 (by decide)),xM h.h1 (AQD h.l1 (by decide)),trivial⟩
theorem AcO.wf2{r:RF}(h:AcO r):Ty.Wf Ai (r.2.1,r.2.2.2.2,()):=⟨oT (x:=r.2.1) (Int.le_trans (by decide) h.w2.1) (Int.le_trans h.w2.2 (by decide)),xM h.h2 (AQD h.l2 (by decide)),trivial⟩
theorem law_ok(n:ASG)(o:ASK)(q:ASz)(hn:Ty.Wf (.sl Ab) n)(ho:Ty.Wf (.sl Ah) o)(hq:Ty.Wf Ap q):Kx n o q=some true:=by
 unfold Kx HR HS HT HU HV;rw[AaB hn 1048576 (by omega) (by omega),AP9];generalize h1:wt (.sl Ab) n=w1 at *;by_cases c1:(w1:Int)<=1048576
 case neg=>rw[AQs c1];rfl
 rw[AQr c1,I3,AQo,nV ho _ (by omega) (by omega),AP9];generalize h2:wt (.sl Ah) o=w2 at *;by_cases c2:(w2:Int)<=1048576-(w1:Int)
 case neg=>rw[AQs c2];rfl
 rw[AQr c2,I3,AQo,fK hq _ (by omega) (by omega),AP9];generalize h3:wt Ap q=w3 at *;by_cases c3:(w3:Int)<=1048576-(w1:Int)-(w2:Int)
 case neg=>rw[AQs c3];rfl
 rw[AQr c3,I3,AQo];have ln:n.length<=1048576:=by have:=tw (t:=Ab) n;omega
 have lo:o.length<=1048576:=by have:=tw (t:=Ah) o;omega
 have bo:∀x∈o,MK x:=λx hx=>AGS (ho.2 x hx) (by have:=AjW (t:=Ah) hx;omega);have bq:OS q.1:=AaF hq (by omega);have tn:=AaH ln;have to':=nX lo bo;have tq:=fM bq;obtain⟨r,s1,s2,hR⟩:=vq (d:=n) ln lo bo bq;have g1:=XJ (eQ hR.wf1);have g2:=XJ (eQ hR.wf2);have Et:Kb (q.1,()) (q.1,())=some true:=XJ (eU hq);simp only[tn,to',tq,s1,s2,AP9,g1,g2,AQS,AQo,ARw,XJ (zx hn),XJ (mZ ho),Et];have cd:2*n.length<=2*w1:=by have:=tw (t:=Ab) n;omega
 have ct:=Ac6 o;have cq:=eM q.1;have eq3:wt Ap q=wt (.sl Ag) q.1:=rfl;obtain⟨m1,e1,q1,q1',_⟩:=sk ln (k:=1) (by omega) (by omega);obtain⟨m2,e2,q2,q2',_⟩:=im lo bo (k:=m1.1) (by omega) (by omega);obtain⟨m3,e3,q3,q3'⟩:=wC bq (k:=m2.1) (by omega) (by omega);simp only[e1,e2,e3,AP9];rw[I3];simp only[AQo,AP9,g1,g2,AQS,ARw];obtain⟨m4,e4,q4,q4',k4⟩:=gq hR.l1 r.1 (k:=1) (by omega) (by omega);obtain⟨m5,e5,q5,q5',k5⟩:=gq hR.l2 r.2.1 (k:=m4.1) (by omega) (by omega);simp only[e4,e5,k4,k5,AP9];rw[AQc (show ¬m4.1<0 by omega),AQc (show ¬m5.1<0 by omega)];simp only[AQo,ARw,tn,to',tq,s2,AP9]
end Go.Proofs.X
