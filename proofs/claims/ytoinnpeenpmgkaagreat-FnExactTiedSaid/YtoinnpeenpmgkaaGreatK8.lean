import Derived.Test.YtoinnpeenpmgkaaGreatK7
set_option linter.unusedVariables false
set_option linter.unusedSimpArgs false
namespace Go.Proofs.X
open Go Go.Va
set_option maxRecDepth 100000
def sd(d:ASL)(l:ASN)(i s:Nat):ATU Bt:=if s=0 then b1 d l i else b2 d l i
def iW{A:Type}(f:Nat->Nat->A)(n:Nat):ATU A:=(List.range n).flatMap λi=>[f i 0,f i 1]
theorem mr{A:Type}(f:Nat->Nat->A)(n:Nat):iW f (n+1)=iW f n++[f n 0,f n 1]:=by
 unfold iW;rw[ARn];simp
theorem WW{A:Type}(f:Nat->Nat->A):∀n,(iW f n).length=2*n
 |0=>rfl
 |n+1=>by rw[mr,AQj,WW f n];simp;omega
theorem AbW{A:Type}(f:Nat->Nat->A){z:A}:∀{n i s:Nat},i<n->s<2->(iW f n).getD (2*i+s) z=f i s
 |n+1,i,s,hi,hs=>by
  rw[mr];simp;rcases AQq i n with h |h
  ·rw[AQC (by rw[WW];omega)];exact AbW f h hs
  ·have:i=n:=by omega
   subst this;rw[AQB (by rw[WW];omega),WW,show 2*i+s-2*i=s by omega]
   grind
theorem bH{d:ASL}{l:ASN}(hd:AE d)(hl:∀x∈l,Kr x)(hlen:l.length<=60):Az (R7 d l) λr=>(r.1=true/\Cz d l/\r.2=iW (λi s=>(DV d (if s=0 then lS l i else lT l i)).2) l.length)\/(r.1=false/\¬Cz d l):=by
 refine Az.bind (P:=λt=>(∃x,t=.inl x/\¬Cz d l)\/(t=.inr (iW (λi s=>(DV d (if s=0 then lS l i else lT l i)).2) l.length)/\Cz d l)) ?_ λt ht=>?_
 ·refine Bu (λm x=>∃k:Nat,k<=l.length/\m=l.length-k/\x.1=(k:Int)/\x.2=iW (λi s=>(DV d (if s=0 then lS l i else lT l i)).2) k/\∀i,i<k->jO d l i) (λm x hI=>?_) _ _ ⟨0,AQ1 _,rfl,rfl,rfl,λi hi=>by omega⟩;obtain⟨x1,x2⟩:=x;obtain⟨k,hk,rfl,h1,h2,h3⟩:=hI;subst h1;subst h2;unfold MN R8 Po;simp only;rcases AQq k _ with h |h
  ·have hB:=hl _ (AK (z:=Ty.zero _) h);have e1:BG d (l.getD k _).2.2.1=some (DV d (lS l k)):=HH hd hB.1;have e2:BG d (l.getD k _).2.2.2.1=some (DV d (lT l k)):=HH hd hB.2;rw[C9 h,AQx (Bj h),AQg,e1,AQf,AQx (Bj h),e2,AQf];cases hc:(!(DV d _).1||!(DV d _).1)with
   |true =>
    refine Az.mk (.inl ⟨_,rfl,λh'=>?_⟩);have:=sI.2 (h' k h);rw[hc]at this;cases this
   |false =>
    rw[AQx (by rw[WW];show(2*k+2)*24<=_;omega),Bl h (by omega)];refine Az.mk ⟨l.length-(k+1),by omega,k+1,h,rfl,rfl,(mr _ k).symm,λi hi=>?_⟩;rcases AQq i k with h' |h'
    ·grind
    ·rw[show i=k by omega];exact sI.1 hc
  ·have:k=l.length:=by omega
   subst this;rw[DU];exact Az.mk (.inr ⟨rfl,h3⟩)
 ·rcases ht with ⟨x,rfl,h⟩|⟨rfl,h⟩
  ·exact Az.mk (.inr ⟨rfl,h⟩)
  ·exact Az.mk (.inl ⟨rfl,h,rfl⟩)
def fE(f:Nat->Nat->Bool):Sg->Nat->Nat->Bool
 |.co _=>f
 |.va v l n=>mark (mark f v l) v (l+n)
theorem Ajb{d:ASL}(hd:AE d){ks:ATU (ATU Sg)}{m i:Nat}(hm:m<ks.length)(hi:i<(ks.getD m []).length)(Gq:Wy d ((ks.getD m []).getD i (.co []))){f:Nat->Nat->Bool}{o:ASU} :
    Ls (m:Int) (i:Int) (M d 1 f) (ks.map fV) o=some (M d 1 (fE f ((ks.getD m []).getD i (.co [])))):=by
 unfold Ls;have e1:(ks.map fV).getD m (Ty.zero (.sl _))=fV (ks.getD m []):=FA fV hm;simp only[AQg,e1,iH hi];rw[AQr,AQx (Bj hm),Cj,AQx (Bj hi)];cases hs:(ks.getD m []).getD i _ with
 |co b=>rfl
 |va v a n =>
  rw[hs]at Gq;obtain⟨hv,hn,hw⟩:=Gq;obtain⟨e0,fO,gT⟩:=Qg hd hv;have e2:(Ir (.va v a n)).1=v:=rfl;have e3:(Ir (.va v a n)).2.1=a:=rfl;have e5:(Ir (.va v a n)).2.2.1=n:=rfl;have e4:wI (a+n)=((a+n:Nat)):=AZ;simp only[e2,e3,e5,e4,AQg];have q1:(M d 1 f).set v (((M d 1 f).getD v ATM.zero).set a true)=M d 1 _:=qv hv;simp only[q1];have q2:(M d 1 _).set v (((M d 1 _).getD v ATM.zero).set _ true)=M d 1 (mark (mark f v a) v (a+n)):=qv hv;simp only[q2];rw[show decide ((v:Int)>=0)=true from LL,YD,AQx (Bj hv),Y8 hv,Lq,AQx (show 0<=(a:Int)/\a<((W d v+1:Nat):Int)from⟨by omega,by omega⟩),YD,AQx (Bj hv),Y8 hv,Lq,AQx (show 0<=((a+n:Nat):Int)/\((a+n:Nat))<((W d v+1:Nat):Int)from⟨by omega,by omega⟩)];rfl
theorem Ajc{d:ASL}(hd:AE d){ks:ATU (ATU Sg)}{m:Nat}(hm:m<ks.length)(hb:(ks.getD m []).length<=1048576)(Gq:∀x∈ks.getD m [],Wy d x){f:Nat->Nat->Bool}{o:ASU} :
    UH (m:Int) (ks.map fV) o 0 (M d 1 f)=some (M d 1 ((ks.getD m []).foldl fE f)):=by
 have e1:(ks.map fV).getD m (Ty.zero (.sl _))=fV (ks.getD m []):=FA fV hm;have:=AP (f:=Gf m (ks.map fV) o) (λk=>(k,M d 1 (((ks.getD m []).take k).foldl fE f))) (t:=M d 1 ((ks.getD m []).foldl fE f)) (ks.getD m []).length (λk hk=>?_) ?_
 ·exact this
 ·unfold Gf MF;simp only[AQg,e1];rw[AQr,AQx (Bj hm),Cj,C9 hk,Ajb hd hm hk (Gq _ (AK hk)),Bl hk hb,AY  hk,AR5];rfl
 ·unfold Gf MF;simp only[AQg,e1];rw[AQr,AQx (Bj hm),Cj,DU,AQu,AQp (AQl _)]
def eH(B:ATU Bt):ASG:=(bV B,YI (AA B),())
theorem Ajd{d:ASL}(hd:AE d){bs:ATU (ATU Bt)}(hb:∀B∈bs,Bm d B)(hl:bs.length<=1000){f:Nat->Nat->Bool} :
    UI (bs.map fN) 0 (M d 1 f) []=some (M d 1 ((bs.flatMap AA).foldl fE f),bs.map eH):=by
 have em:bs.map fN=(bs.map AA).map fV:=by rw[ASb];rfl
 have:=AP (f:=Gg (bs.map fN)) (λk=>(k,M d 1 (((bs.take k).flatMap AA).foldl fE f),(bs.take k).map eH)) (t:=(M d 1 ((bs.flatMap AA).foldl fE f),bs.map eH)) bs.length (λk hk=>?_) ?_
 ·exact this
 ·unfold Gg MG;have hB:=hb _ (AK (z:=[]) hk);have e1:(bs.map fN).getD k (Ty.zero (.sl _))=fN (bs.getD k []):=FA fN hk;have e2:(bs.map AA).getD k []=AA (bs.getD k []):=FA AA hk;have e3:=Ajc hd (ks:=bs.map AA) (m:=k) (by grind) (by rw[e2];have:=CQ (CJ (bs.getD k []));rw[B9]at this;have:=hB.2.1;omega) (by rw[e2];exact λx hx=>(ZL hB hx).1) (f:=((bs.take k).flatMap AA).foldl fE f) (o:=(bs.take k).map eH);rw[<-em,e2]at e3;simp only[AQg,e1];rw[AQr,C9 hk,e3,AQf,AQx (Bj hk),Ais hd hB,AQf,AQx (by grind),Bl hk (by omega),AY  hk,ASd,AR5,AQY];simp only[List.flatMap_cons,List.flatMap_nil,AQU,ARN];rfl
 ·unfold Gg MG
  grind
def wx(f:Nat->Nat->Bool):Bt->Nat->Nat->Bool
 |.co _=>f
 |.va v a=>mark f v a
def iL(A B:ATU Bt)(f:Nat->Nat->Bool)(p:Nat):Bool:=Uj A f p&&(!Uj B f p&&lh (JO B p))
section
variable {d:ASL} {l:ASN}
def XS(d:ASL)(l:ASN):ASU:=iW (λi s=>eH (sd d l i s)) l.length
theorem gm{i s:Nat}(hi:i<l.length)(hs:s<2):(XS d l).getD (2*i+s) Au.zero=eH (sd d l i s):=AbW (λi s=>eH _) hi hs
structure Y5 (d:ASL) (l:ASN):Prop where
 hd:AE d
 len:l.length<=60
 inn:∀i s,i<l.length->Bm d (sd d l i s)
 sM:∀i,i<l.length->(sd d l i 0).length=(sd d l i 1).length
theorem Y5.eq(h:Y5 d l){i:Nat}(hi:i<l.length)(s t:Nat):(sd d l i s).length=(sd d l i t).length:=by
 have:=h.sM i hi;unfold sd at this⊢
 grind
theorem Aje(H:Y5 d l){i s p:Nat}(hi:i<l.length)(hs:s<2)(hp:p<(sd d l i 0).length){f:Nat->Nat->Bool}{q:Bool}{e j:Int} :
    Lt q ((2*i:Nat):Int) e j (p:Int) (s:Int) (M d 1 f) (XS d l)=some (bif iL (sd d l i s) (sd d l i (1-s)) f p then(true,M d 1 (wx f (JO (sd d l i (1-s)) p)))else(q,M d 1 f)):=by
 unfold Lt P7;have hlen:=H.len;have e1:wI (((2*i:Nat))+s)=((2*i+s:Nat)):=AZ;have e2:wI (wI (((2*i:Nat))+1)-s)=((2*i+(1-s):Nat)):=by
  rw[AZ (x:=((2*i:Nat))+1) (n:=2*i+1)];exact AZ
 have g1:=gm (d:=d) hi hs;have g2:=gm (d:=d) hi (show 1-s<2 by omega);have hA:=H.inn i s hi;have hB:=H.inn i (1-s) hi;have hpA:p<(sd d l i s).length:=by rw[H.eq hi s 0];exact hp
 have hpB:p<(sd d l i (1-s)).length:=by rw[H.eq hi _ 0];exact hp
 have Jk:(XS d l).length=2*l.length:=WW _ _;have eb:(bV _).getD p _=WA (JO _ p):=db hpB;simp only[e1,e2,AQg,g1,g2];rw[AQx (Bj (by omega)),AQx (Bj (by omega))];unfold eH;simp only[eb];rw[S4 H.hd hA hpA,AQf];unfold iL;cases Uj _ f p with
 |false=>rfl
 |true =>
  rw[AQv,xj H.hd hB hpB,AQf,AQf,ARU];cases hw:(!Uj _ f p&&lh _)with
  |false=>rfl
  |true =>
   rw[CM,AQx (Bj hpB)];have hb:=Afq hB hpB;cases hbb:JO _ p with
   |co c=>rw[hbb]at hw;simp[lh]at hw
   |va v a =>
    rw[hbb]at hb;obtain⟨hv,ha⟩:=hb;obtain⟨e0,fO,gT⟩:=Qg H.hd hv;have m1:(M d 1 f).set v (((M d 1 f).getD v ATM.zero).set a true)=M d 1 _:=qv hv;have c1:(WA (.va v a)).1=v:=rfl;have c2:(WA (.va v a)).2.1=a:=rfl;simp only[c1,c2,AQg,m1];rw[YD,AQx (Bj hv),AQx (Bj hpB),Y8 hv,Lq,AQx (show 0<=(a:Int)/\a<((W d v+1:Nat):Int)from⟨by omega,by omega⟩)];rfl
def wV(d:ASL)(f:Nat->Nat->Bool):Nat->Nat->Bool:=λv p=>decide (v<d.length/\1<=p/\p<W d v)&&f v p
theorem PO{f:Nat->Nat->Bool}{v p:Nat}:wV d f v p=true↔(v<d.length/\1<=p/\p<W d v)/\f v p=true:=by simp[wV]
theorem zb{B:ATU Bt}(h:Bm d B){p:Nat}(hp:p<B.length)(f:Nat->Nat->Bool):Uj B (wV d f) p=Uj B f p:=by
 unfold Uj;rcases aG h hp with ⟨q,_⟩|⟨q,⟨⟨b,e⟩,_⟩|⟨v,a,e,h1,h2,h3,_⟩⟩
 ·grind
 ·rw[e];rfl
 ·rw[e];simp[Ac4,wV,h1,h2,h3]
structure SW (d:ASL) (l:ASN) (fs:Nat->Nat->Bool) (ok:Prop) (q:Bool) (f:Nat->Nat->Bool):Prop where
 no:q=false->f=fs/\ok
 yes:q=true->free d f+1<=free d fs
 le:QU fs f
 min:∀h,EC d l h->QU (wV d fs) h->QU (wV d f) h
theorem SW.imp{fs f:Nat->Nat->Bool}{ok ok':Prop}{q:Bool}(h:SW d l fs ok q f)(hi:ok->ok'):SW d l fs ok' q f:=⟨λe=>⟨(h.no e).1,hi (h.no e).2⟩,h.yes,h.le,h.min⟩
def xV(d:ASL)(l:ASN)(fs:Nat->Nat->Bool)(i p s:Nat):Prop:=iL (sd d l i s) (sd d l i (1-s)) fs p=false
theorem AmO(H:Y5 d l){fs f:Nat->Nat->Bool}{ok:Prop}{q:Bool}(h:SW d l fs ok q f){i s p:Nat}(hi:i<l.length)(hs:s<2)(cO:1<=p)(hp:p<(sd d l i 0).length) :
    SW d l fs (ok/\xV d l fs i p s) (bif iL (sd d l i s) (sd d l i (1-s)) f p then true else q) (bif iL (sd d l i s) (sd d l i (1-s)) f p then wx f (JO (sd d l i (1-s)) p)else f):=by
 cases hh:iL (sd d l i s) (sd d l i (1-s)) f p with
 |false =>
  refine⟨λe=>?_,h.yes,h.le,h.min⟩;obtain⟨e1,e2⟩:=h.no e;exact⟨e1,e2,by rw[e1]at hh;exact hh⟩
 |true =>
  have hA:=H.inn i s hi;have hB:=H.inn i (1-s) hi;have hpA:p<(sd d l i s).length:=by rw[H.eq hi s 0];exact hp
  have hpB:p<(sd d l i (1-s)).length:=by rw[H.eq hi (1-s) 0];exact hp
  unfold iL at hh;rw[AQm,AQm,ARC]at hh;obtain⟨c1,c2,c3⟩:=hh;have key:∃v a,JO (sd d l i (1-s)) p=.va v a/\v<d.length/\1<=a/\a<W d v/\f v a=false:=by
   rcases aG hB hpB with ⟨e,_⟩|⟨e,⟨⟨b,e'⟩,_⟩|⟨v,a,e',h1,h2,h3,_⟩⟩
   ·unfold Uj at c2;rw[e]at c2;cases c2
   ·rw[e']at c3;cases c3
   ·refine⟨v,a,e',h1,h2,h3,?_⟩;unfold Uj at c2;rw[e,e',ASq]at c2;exact c2
  obtain⟨v,a,e1,h1,h2,h3,h4⟩:=key;have Tl:QU f (wx f (JO (sd d l i (1-s)) p)):=λu b hu=>by rw[e1];exact FE.2 (.inl hu)
  have AMu:free d (wx f (JO (sd d l i (1-s)) p))+1<=free d f:=by rw[e1];exact fJ h1 h3 h4
  refine⟨λe=>(by cases e),λ_=>?_,λu b hu=>Tl u b (h.le u b hu),λg hg hgs=>?_⟩
  ·rw[AQv];have:free d f<=free d fs:=List.countP_mono_left λx _ hx=>by
    simp only[ARC]at hx⊢;cases hq:fs x.1 x.2 with
    |false=>rfl
    |true=>rw[h.le _ _ hq]at hx;cases hx
   omega
  ·rw[AQv,e1];have hm:=h.min g hg hgs;intro u b hub;obtain⟨hr,hub⟩:=PO.1 hub;rcases FE.1 hub with hub |⟨rfl,rfl⟩
   ·exact hm u b (PO.2 ⟨hr,hub⟩)
   ·have AGf:Uj (sd d l i s) g p=true:=by
      rw[<-zb hA hpA f]at c1;unfold Uj at c1⊢;rw[ARA]at c1⊢;refine c1.imp id λc=>?_;cases hx:JO (sd d l i s) p with
      |co _=>rw[hx]at c;cases c
      |va v' a'=>rw[hx]at c;exact hm v' a' c
    have gK:Uj (sd d l i (1-s)) g p=true:=by
     have Zx:=(hg i hi).2 p cO hp
     match s,hs with
     |0,_=>exact Zx.1 AGf c3
     |1,_=>exact Zx.2 AGf c3
    unfold Uj at gK c2;rw[ARj]at c2;rw[c2.1,e1,ASq]at gK;exact gK
theorem Ajf(H:Y5 d l){i p:Nat}(hi:i<l.length)(cO:1<=p)(hp:p<(sd d l i 0).length){fs f:Nat->Nat->Bool}{ok:Prop}{q:Bool}(h:SW d l fs ok q f){e j:Int} :
    Az (UJ ((2*i:Nat):Int) e j (XS d l) (p:Int) q 0 (M d 1 f)) λr=>∃f',r.2=M d 1 f'/\SW d l fs (ok/\xV d l fs i p 0/\xV d l fs i p 1) r.1 f':=by
 have:=BW (f:=Gh ((2*i:Nat)) e j (XS d l) p) (λk x=>(x.1,k,M d 1 x.2)) 2 (λk x=>SW d l fs (ok/\∀s,s<k->xV d l fs i p s) x.1 x.2) (Q:=λr=>∃f',r.2=M d 1 f'/\SW d l fs (ok/\xV d l fs i p 0/\xV d l fs i p 1) r.1 f') (λk x hk hx=>?_) (λx hx=>?_) (s0:=(q,f)) (h.imp λh=>⟨h,λs hs=>by omega⟩)
 ·exact this
 ·unfold Gh MH;rw[show decide ((k:Int)<2)=true from LL,Aje H hi hk hp,Bl  hk (by omega)];have:=AmO H hx hi hk cO hp;refine Az.mk ⟨(bif iL _ _ x.2 p then true else x.1,bif iL _ _ x.2 p then wx x.2 _ else x.2),?_,this.imp λ⟨⟨h1,h2⟩,h3⟩=>⟨h1,λs hs=>?_⟩⟩
  ·grind
  grind
 ·unfold Gh MH;exact Az.mk ⟨x.2,rfl,hx.imp λ⟨h1,h2⟩=>⟨h1,h2 0 (by omega),h2 1 (by omega)⟩⟩
theorem AdZ(H:Y5 d l){i k:Nat}(hi:i<l.length)(hk:1<=k)(hk2:k<2*(sd d l i 0).length){fs f:Nat->Nat->Bool}{ok:Prop}{q:Bool}(h:SW d l fs ok q f) :
    Az (Kh q ((2*i:Nat):Int) ((sd d l i 0).length:Int) (k:Int) (M d 1 f) (XS d l)) λr=>∃f',r.2=M d 1 f'/\SW d l fs (ok/\(k<(sd d l i 0).length->xV d l fs i k 0/\xV d l fs i k 1)) r.1 f':=by
 unfold Kh Po P6;have hb:=(H.inn i 0 hi).2.1;have ep:(bif decide (k>=((sd d l i 0).length:Int))then wI (wI (2*((sd d l i 0).length))-k)else k)=((if(sd d l i 0).length<=k then 2*(sd d l i 0).length-k else k)):=by
  by_cases hc:(sd d l i 0).length<=k
  ·rw[LL,AQx hc,AZ (x:=2*((sd d l i 0).length)) (n:=2*(sd d l i 0).length)];exact AZ
  grind
 rw[ep];obtain⟨p,hp⟩:∃p,p=if(sd d l i 0).length<=k then 2*(sd d l i 0).length-k else k:=⟨_,rfl⟩;rw[<-hp];have hpk:k<(sd d l i 0).length->p=k:=λBp=>by grind
 have cO:1<=p:=by grind
 rw[show decide _=false from Ic,AQu];by_cases hc:p<(sd d l i 0).length
 ·rw[show decide _=false from Ic,AQu,AQf];refine Az.bind (Ajf H hi cO hc h) λr hr=>?_;obtain⟨f',e1,e2⟩:=hr;refine Az.mk ⟨f',e1,e2.imp λ⟨h1,h2⟩=>⟨h1,λBp=>?_⟩⟩;rw[<-hpk Bp];exact h2
 ·rw[show decide _=true from LL,AQv];exact Az.mk ⟨f,rfl,h.imp λh1=>⟨h1,λBp=>by omega⟩⟩
theorem Ad0(H:Y5 d l){i:Nat}(hi:i<l.length){fs f:Nat->Nat->Bool}{ok:Prop}{q:Bool}(h:SW d l fs ok q f) :
    Az (Td ((2*i:Nat):Int) (XS d l) ((sd d l i 0).length:Int) q 1 (M d 1 f)) λr=>∃f',r.2=M d 1 f'/\SW d l fs (ok/\∀p,1<=p->p<(sd d l i 0).length->xV d l fs i p 0/\xV d l fs i p 1) r.1 f':=by
 have hb:=(H.inn i 0 hi).2.1;have iK:=(H.inn i 0 hi).1;have ew:wI (2*((sd d l i 0).length))=((2*(sd d l i 0).length:Nat)):=AZ;have:=BW (f:=Fa ((2*i)) (XS d l) ((sd d l i 0).length)) (λk x=>(x.1,((k+1:Nat)),M d 1 x.2)) (2*(sd d l i 0).length-1) (λk x=>SW d l fs (ok/\∀p,1<=p->p<k+1->p<(sd d l i 0).length->xV d l fs i p 0/\xV d l fs i p 1) x.1 x.2) (Q:=λr=>∃f',r.2=M d 1 f'/\SW d l fs (ok/\∀p,1<=p->p<(sd d l i 0).length->xV d l fs i p 0/\xV d l fs i p 1) r.1 f') (λk x hk hx=>?_) (λx hx=>?_) (s0:=(q,f)) (h.imp λh=>⟨h,λp h1 h2=>by omega⟩)
 ·exact this
 ·unfold Fa K6;rw[ew,C9 (show k+1<2*(sd d l i 0).length by omega),AZ (x:=((k+1:Nat))+1) (n:=k+1+1)];refine Az.bind (AdZ H hi (by omega) (by omega) hx) λr hr=>?_;obtain⟨f',e1,e2⟩:=hr;refine Az.mk ⟨(r.1,f'),by grind,e2.imp λ⟨⟨h1,h2⟩,h3⟩=>⟨h1,λp p1 p2 p3=>?_⟩⟩
  grind
 ·unfold Fa K6;rw[ew,show 2*(sd d l i 0).length-1+1=2*(sd d l i 0).length by omega,DU];exact Az.mk ⟨x.2,rfl,hx.imp λ⟨h1,h2⟩=>⟨h1,λp p1 p2=>h2 p p1 (by omega) p2⟩⟩
def fj(d:ASL)(l:ASN)(fs:Nat->Nat->Bool)(n:Nat):Prop:=∀i,i<n->∀p,1<=p->p<(sd d l i 0).length->xV d l fs i p 0/\xV d l fs i p 1
theorem Ad1(H:Y5 d l)(fs:Nat->Nat->Bool):Az (Te (XS d l) false 0 (M d 1 fs)) λr=>∃f',r.2=M d 1 f'/\SW d l fs (fj d l fs l.length) r.1 f':=by
 have hlen:=H.len;have Jk:(XS d l).length=2*l.length:=WW _ _;have:=BW (f:=Fb (XS d l)) (λk x=>(x.1,((2*k:Nat)),M d 1 x.2)) l.length (λk x=>SW d l fs (fj d l fs k) x.1 x.2) (Q:=λr=>∃f',r.2=M d 1 f'/\SW d l fs (fj d l fs l.length) r.1 f') (λk x hk hx=>?_) (λx hx=>?_) (s0:=(false,fs)) ⟨λ_=>⟨rfl,λi hi=>by omega⟩,λe=>(by grind),λ_ _ h=>h,λ_ _ h=>h⟩
 ·exact this
 ·unfold Fb K7;have g1:=gm (d:=d) hk (show 0<2 by omega);rw[ASj]at g1;simp only[AQg,g1];have e1:(eH _).1.length=(sd d l k 0).length:=CM _;rw[Jk,C9 (show 2*k<2*l.length by omega),AQx (Bj (by omega)),e1,AZ  (n:=2*(k+1)) (by omega) (by omega)];refine Az.bind (Ad0 H hk hx) λr hr=>?_;obtain⟨f',e1,e2⟩:=hr;refine Az.mk ⟨(r.1,f'),by grind,e2.imp λ⟨h1,h2⟩ i hi=>?_⟩;rcases AQq i k with h' |h'
  ·exact h1 i h'
  grind
 ·unfold Fb K7;rw[Jk,DU];exact Az.mk ⟨x.2,rfl,hx⟩
theorem Ad2(H:Y5 d l)(f0:Nat->Nat->Bool):Az (Tf (XS d l) true (M d 1 f0)) λr=>∃f,r=M d 1 f/\QU f0 f/\fj d l f l.length/\∀h,EC d l h->QU (wV d f0) h->QU (wV d f) h:=by
 refine Bu (λm x=>∃f,x.2=M d 1 f/\m=free d f+(if x.1 then 1 else 0)/\QU f0 f/\(x.1=false->fj d l f l.length)/\∀h,EC d l h->QU _ h->QU (wV d f) h) (λm x hx=>?_) _ _ ⟨f0,rfl,rfl,λ_ _ h=>h,λe=>(by grind),λ_ _ h=>h⟩;obtain⟨q,t⟩:=x;obtain⟨f,e1,rfl,Tl,gO,Ac6⟩:=hx;subst e1;unfold K8 Qs;cases q with
 |false=>exact Az.mk ⟨f,rfl,Tl,gO rfl,Ac6⟩
 |true =>
  refine Az.bind (Ad1 H f) λr hr=>?_;obtain⟨f',e1,e2⟩:=hr;refine Az.mk ⟨free d f'+(if r.1 then 1 else 0),?_,f',e1,rfl,λu b hu=>e2.le u b (Tl u b hu),λe=>?_,λh hh hs=>e2.min h hh (Ac6 h hh hs)⟩
  ·cases hq:r.1 with
   |false=>rw[(e2.no hq).1];simp
   |true=>have:=e2.yes hq;simp;omega
  ·obtain⟨q1,q2⟩:=e2.no e;rw[q1];exact q2
end
end Go.Proofs.X
namespace Go.Proofs.X
open Go Go.Va
set_option maxRecDepth 100000
theorem vb{d:ASL}:∀(fs:ATU Sg) (f:Nat->Nat->Bool),(∀x∈fs,Wy d x)->QU f (fs.foldl fE f)/\(∀x∈fs,SD d (wV d (fs.foldl fE f)) x)/\∀h,(∀x∈fs,SD d h x)->QU (wV d f) h->QU (wV d (fs.foldl fE f)) h
 |[],f,_=>⟨λ_ _ h=>h,λx hx=>(by grind),λ_ _ h=>h⟩
 |x::fs,f,Gq=>by
  obtain⟨i1,i2,i3⟩:=vb fs _ λy hy=>Gq y (AQH _ hy);have k1:QU f (fE f x):=by
   cases x with
   |co b=>exact λ_ _ h=>h
   |va v l n=>exact λu q h=>FE.2 (.inl (FE.2 (.inl h)))
  refine⟨λu q h=>i1 u q (k1 u q h),λy hy=>?_,λh hh hs=>i3 h (λy hy=>hh y (AQH _ hy)) ?_⟩
  ·rcases List.mem_cons.1 hy with rfl |hy
   ·cases y with
    |co b=>trivial
    |va v l n =>
     have hv:=(Gq _ AQK).1;exact⟨λh1 h2=>PO.2 ⟨⟨hv,h1,h2⟩,i1 v l (FE.2 (.inl (FE.2 (.inr ⟨rfl,rfl⟩))))⟩,λh1 h2=>PO.2 ⟨⟨hv,h1,h2⟩,i1 v _ (FE.2 (.inr ⟨rfl,rfl⟩))⟩⟩
   ·grind
  ·have hx:=hh x AQK;cases x with
   |co b=>exact hs
   |va v l n =>
    intro u q hq;obtain⟨hr,hq⟩:=PO.1 hq;rcases FE.1 hq with hq |⟨rfl,rfl⟩
    ·rcases FE.1 hq with hq |⟨rfl,rfl⟩
     ·exact hs u q (PO.2 ⟨hr,hq⟩)
     ·exact hx.1 hr.2.1 hr.2.2
    ·exact hx.2 hr.2.1 hr.2.2
theorem AbX{A B:Type}(f:Nat->Nat->A)(g:A->B)(n:Nat):(iW f n).map g=iW (λi s=>g (f i s)) n:=by
 unfold iW;rw[List.map_flatMap];rfl
theorem jA{A:Type}{f:Nat->Nat->A}{n:Nat}{x:A}:x∈iW f n↔∃i,i<n/\(x=f i 0\/x=f i 1):=by
 unfold iW;simp
theorem sd0(d:ASL)(l:ASN)(i:Nat):sd d l i 0=b1 d l i:=rfl
theorem sd1(d:ASL)(l:ASN)(i:Nat):sd d l i 1=b2 d l i:=rfl
theorem AEF{d:ASL}{l:ASN}(hd:AE d)(hl:∀x∈l,Kr x)(hp:Fz d l)(hs:Cz d l):Y5 d l where
 hd:=hd
 len:=hp.1
 inn i s hi:=by
  obtain⟨h1,h2,_⟩:=PQ hd hl hp hs hi;unfold sd;split
  ·grind
  ·grind
 sM i hi:=(PQ hd hl hp hs hi).2.2.1
theorem Av0{d:ASL}{l:ASN}(H:Y5 d l){f:Nat->Nat->Bool}(h:fj d l f l.length){i:Nat}(hi:i<l.length):SP (b1 d l i) (b2 d l i) (wV d f):=by
 intro p cO gP;have e:=H.sM i hi;rw[sd0,sd1]at e;obtain⟨c0,c1⟩:=h i hi p cO gP;have hA:Bm d (b1 d l i):=H.inn i 0 hi;have hB:Bm d (b2 d l i):=H.inn i 1 hi;rw[zb hA gP,zb hB (by omega)];have c0:iL (b1 d l i) (b2 d l i) f p=false:=c0;have c1:iL (b2 d l i) (b1 d l i) f p=false:=c1;unfold iL at c0 c1
 grind
theorem sU{d:ASL}{l:ASN}{c:ASV}(hc:YY c)(hl:∀x∈l,Kr x):Az (FG d l (c,())) λr =>
    (r=(([],()),false)/\¬(AE d/\Dk d c/\Fz d l/\Cz d l))\/(AE d/\Dk d c/\Fz d l/\Cz d l/\∃f,r=((Ax d f,()),true)/\jL d l c f):=by
 unfold FG Mm;obtain⟨r1,e1,q1⟩:=WV  hc;rw[e1];cases r1 with
 |false=>exact Az.mk (.inl ⟨rfl,λh=>by grind⟩)
 |true =>
  obtain⟨hd,aj⟩:=q1.1 rfl;obtain⟨r2,e2,q2⟩:=ZN (d:=d) hl;simp only[e2,AQf];cases r2 with
  |false=>exact Az.mk (.inl ⟨rfl,λh=>by grind⟩)
  |true =>
   have NA:=(q2.1 rfl).2;rw[eM hd aj hc,AQf];unfold Vm;obtain⟨r3,e3,q3⟩:=bH hd hl NA.1;rw[e3,AQf];rcases q3 with ⟨f1,hs,f2⟩|⟨f1,hs⟩
   ·rw[f1,f2];have H:=AEF hd hl NA hs;have ef:iW (λi s=>(DV d (if s=0 then lS l i else lT l i)).2) l.length=(iW (sd d l) l.length).map fN:=by
     rw[AbX];unfold iW;rw[List.flatMap_def];congr 1;refine AQ4 λi hi=>?_;obtain⟨_,_,_,_,a1,a2⟩:=PQ hd hl NA hs (List.mem_range.1 hi);simp only[AQ2,show ¬1=0 by omega,ARH,a1,a2];rfl
    have hbs:∀B∈iW _ _,Bm d B:=λB hB=>by
     obtain⟨i,hi,h |h⟩:=jA.1 hB
     ·rw[h];exact H.inn i 0 hi
     ·rw[h];exact H.inn i 1 hi
    have es:(iW _ _).map _=XS d l:=AbX _ _ _;have hln:=NA.1;rw[ef,Ajd hd hbs (by rw[WW];omega),es];have vR:∀x∈(iW _ _).flatMap AA,Wy d x:=λx hx=>by
     obtain⟨B,hB,hx⟩:=List.mem_flatMap.1 hx;exact(ZL (hbs B hB) hx).1
    obtain⟨i1,i2,i3⟩:=vb _ _ vR;obtain⟨r4,e4,f,rfl,j1,j2,j3⟩:=Ad2 H (((iW (sd d l) l.length).flatMap AA).foldl fE (C0 c));simp only[e4,AQf,AQZ,AQu];rw[oa hd];have eo:Ax d f=Ax d (wV d f):=ri λv p hv hp h1=>by simp[wV,hv,hp,h1]
    have rM:∀{i:Nat} {x:Sg},i<l.length->x∈AA _++AA _->x∈(iW (sd d l) _).flatMap AA:=λ{i x} hi hx=>by
     rcases List.mem_append.1 hx with hx |hx
     ·exact List.mem_flatMap.2 ⟨_,jA.2 ⟨i,hi,.inl rfl⟩,hx⟩
     ·exact List.mem_flatMap.2 ⟨_,jA.2 ⟨i,hi,.inr rfl⟩,hx⟩
    refine Az.mk (.inr ⟨hd,aj,NA,hs,wV d f,by grind,⟨λv p h=>PO.2 ⟨yh hd aj h,j1 v p (i1 v p h)⟩,λv p h=>(PO.1 h).1,λi hi=>⟨λx hx=>?_,Av0 H j2 hi⟩,λh hh Hs=>j3 h hh (i3 h (λx hx=>?_) λu q hq=>Hs u q (PO.1 hq).2)⟩⟩)
    ·have:=i2 x (rM hi hx);have Tl:QU _ (wV d f):=λu q hq=>PO.2 ⟨(PO.1 hq).1,j1 u q (PO.1 hq).2⟩;cases x with
     |co b=>trivial
     |va v a n=>exact⟨this.1.mono Tl,this.2.mono Tl⟩
    ·obtain⟨B,hB,hx⟩:=List.mem_flatMap.1 hx;obtain⟨i,hi,e |e⟩:=jA.1 hB
     ·exact(hh i hi).1 x (AQN _ (by rw[e]at hx;exact hx))
     ·exact(hh i hi).1 x (AQO _ (by rw[e]at hx;exact hx))
   ·simp only[f1,AQf];exact Az.mk (.inl ⟨rfl,λh=>hs h.2.2.2⟩)
theorem uS{d:ASL}{l:ASN}{c:ASV}(hc:YY c)(hl:∀x∈l,Kr x):Az (FG d l (c,())) λr=>JU d l (c,())=some (r.2,r.1.1) /\
    ((r=(([],()),false)/\¬(AE d/\Dk d c/\Fz d l/\Cz d l))\/(AE d/\Dk d c/\Fz d l/\Cz d l/\∃f,r=((Ax d f,()),true)/\jL d l c f)):=by
 obtain⟨r1,e1,q1⟩:=sU  hc hl;obtain⟨r2,e2,q2⟩:=rY  hc hl;refine Az.of e1 ⟨?_,q1⟩;rw[e2];rcases q1 with ⟨rfl,n1⟩|⟨a1,a2,a3,a4,f,rfl,hf⟩<;>rcases q2 with ⟨rfl,n2⟩|⟨b1,b2,b3,b4,g,rfl,hg⟩
 ·rfl
 ·grind
 ·grind
 ·rw[hf.unique hg]
theorem mf{R:Int->Int->Prop}(hR:∀a b,R a b->a<b):∀{l m:ASH},l.Pairwise R->m.Pairwise R->(∀x,x∈l↔x∈m)->l=m
 |[],[],_,_,_=>rfl
 |[],y::m,_,_,h=>by have:=(h y).2 AQK;cases this
 |x::l,[],_,_,h=>by have:=(h x).1 AQK;cases this
 |x::l,y::m,hl,hm,h=>by
  rw[List.pairwise_cons]at hl hm;have e:x=y:=by
   rcases List.mem_cons.1 ((h x).1 AQK)with e |e
   ·grind
   ·rcases List.mem_cons.1 ((h y).2 AQK)with e' |e'
    ·grind
    grind
  congr 1;refine mf hR hl.2 hm.2 λz=>⟨λhz=>?_,λhz=>?_⟩
  ·grind
  grind
theorem lO(w:Nat)(f:Nat->Bool):(A8 w f).Pairwise (·<·):=by
 unfold A8;rw[List.pairwise_map];refine(List.pairwise_lt_range ).filter _ |>.imp λ{a b} h=>?_;show a<(b:Int);omega
theorem ic{w:Nat}{f:Nat->Bool}{x:Int}:x∈A8 w f↔∃p:Nat,x=(p:Int)/\1<=p/\p<w/\f p=true:=by
 unfold A8
 grind
end Go.Proofs.X
namespace Go.Proofs.X
open Go Go.Va
set_option maxRecDepth 100000
def nC(c:ASV)(k:Nat):Nat:=((List.range k).map λv=>(DJ c v).length).sum
theorem oT(c:ASV)(k:Nat):nC c (k+1)=nC c k+(DJ c k).length:=by
 unfold nC;rw[ARn,AQY];simp
theorem Abk{c:ASV}(hb:∀v,(DJ c v).length<=1048576):∀k,nC c k<=1048576*k
 |0=>by simp[nC]
 |k+1=>by rw[oT];have:=Abk hb k;have:=hb k;omega
theorem sX{d:ASL}{c:ASV}(hd:AE d)(hc:Dk d c)(hb:YY c):S5 d (c,())=some ((d.length+nC c d.length:Nat):Int):=by
 unfold S5;obtain⟨r,hr,hq⟩:=WV  hb;have Zs:=hd.1;rw[hr,AQf,hq.2 ⟨hd,hc⟩,AQZ];have:Xf (c,()) d.length 0=some ((d.length+nC c d.length)):=by
  have:=AP (f:=Is (c,())) (λk=>(((d.length+nC c k:Nat)),k)) (t:=((d.length+nC c d.length:Nat))) d.length (λk hk=>?_) ?_
  ·exact this
  ·unfold Is PT;have e1:(c.getD k ATJ.zero)=DJ c k:=rfl;have h1:=Abk hb.row k;have h2:=hb.row k;simp only[AQg,e1];rw[hc.1,C9 hk,AQv,AQx (Bj hk),Bl hk (by omega),oT];rw[AZ  (n:=d.length+(nC c k+(DJ c k).length)) (by omega) (by omega)]
  ·unfold Is PT;rw[hc.1,DU,AQu]
 rw[this];rfl
theorem oH{d:ASL}{f:Nat->Nat->Bool}{v:Nat}(hv:v<d.length):DJ (Ax d f) v=A8 (W d v) (f v):=by exact Gt hv
theorem QY{d:ASL}(hd:AE d)(f:Nat->Nat->Bool):Dk d (Ax d f)/\YY (Ax d f):=by
 have Zs:=hd.1;refine⟨⟨by simp[Ax],λv hv=>?_⟩,by simp[Ax];omega,λx hx=>?_⟩
 ·rw[oH hv];obtain⟨e0,fO,gT⟩:=Qg hd hv;intro i hi;have hm:Lk (A8 (W d v) (f v)) i∈A8 (W d v) (f v):=by exact AK hi
  obtain⟨p,e,h1,h2,_⟩:=ic.1 hm;refine⟨by omega,by omega,λh0=>?_⟩;have:=(List.pairwise_iff_getElem.1 (lO _ _)) (i-1) i (by omega) hi (by omega);have e1:Lk (A8 (W d v) (f v)) (i-1)=(A8 (W d v) (f v))[i-1]'(by omega):=by simp[Lk,show i-1<(A8 (W d v) (f v)).length by omega]
  have e2:Lk (A8 (W d v) (f v)) i=(A8 _ _)[i]:=by simp[Lk,hi]
  rw[e1,e2];exact this
 ·obtain⟨v,hv,rfl⟩:=List.mem_map.1 hx;have h1:=ZI (W d v) (f v);have:=(Qg hd (List.mem_range.1 hv)).2.2;omega
def V7(v:Nat):Int->ASH->ASM
 |_,[]=>[]
 |low,p::r=>((v:Int),low,p-low,())::V7 v p r
def G1(low:Int)(l:ASH):Int:=l.getLastD low
theorem gl(v:Nat):∀(l:ASH) (low p:Int),V7 v low (l++[p])=V7 v low l++[((v:Int),G1 low l,p-G1 low l,())]
 |[],low,p=>rfl
 |x::l,low,p=>by
  have e:G1 low (x::l)=G1 x l:=by cases l<;>rfl
  rw[e];show _::V7 v x (l++[p])=_;rw[gl v l x p];rfl
theorem eD(v:Nat):∀(l:ASH) (low:Int),(V7 v low l).length=l.length
 |[],_=>rfl
 |_::l,_=>by simp[V7,eD v l]
theorem Ql{l:ASH}{i:Nat}(hi:i<l.length)(low:Int):G1 low (l.take (i+1))=Lk l i:=by
 rw[AY (z:=0) hi];unfold G1 Lk;simp
def CN(d:ASL)(c:ASV)(v:Nat):ASH:=DJ c v++[dw d v]
def SL(d:ASL)(c:ASV)(n:Nat):ASM:=(List.range n).flatMap λv=>V7 v 0 (CN d c v)
theorem qB(d:ASL)(c:ASV)(n:Nat):SL d c (n+1)=SL d c n++V7 n 0 (CN d c n):=by
 unfold SL;rw[ARn];simp
theorem QZ{d:ASL}{c:ASV}{v i:Nat}(hi:i<=(DJ c v).length):Lk (CN d c v) i=if i<(DJ c v).length then Lk (DJ c v) i else dw d v:=by
 unfold CN Lk
 grind
section
variable {d:ASL} {c:ASV}
theorem dz(hd:AE d)(hc:Dk d c){v:Nat}(hv:v<d.length){i:Nat}(hi:i<(CN d c v).length):1<=Lk (CN d c v) i/\Lk (CN d c v) i<=4096:=by
 obtain⟨e0,fO,gT⟩:=Qg hd hv;have hl:i<=(DJ c v).length:=by unfold CN at hi;simp at hi;omega
 rw[QZ hl];split
 ·rename_i h;have:=hc.2 v hv i h;exact⟨this.1,by have:=this.2.1;omega⟩
 ·omega
theorem sk(hd:AE d)(hc:Dk d c){v:Nat}(hv:v<d.length)(i:Nat)(hi:i<=(CN d c v).length):0<=G1 0 ((CN d c v).take i)/\G1 0 ((CN d c v).take i)<=4096:=by
 match i with
 |0=>exact⟨by simp[G1],by simp[G1]⟩
 |i+1 =>
  rw[Ql (by omega)];have:=dz hd hc hv (i:=i) (by omega);omega
theorem fl(hd:AE d)(hc:Dk d c):∀n,n<=d.length->(SL d c n).length<=4097*n:=λn hn=>Ya λv hv=>by
 obtain⟨e0,fO,gT⟩:=Qg hd (show v<d.length by omega);have:=WT (hc.2 v (by omega)) (by omega);rw[eD];unfold CN;simp;omega
theorem nN(hd:AE d)(hc:Dk d c)(hb:YY c):Pg d (c,())=some (SL d c d.length):=by
 unfold Pg;have Zs:=hd.1;have:SS d c c.length 0 []=some (SL d c d.length):=by
  rw[hc.1];have:=AP (f:=ET d c d.length) (λv=>(v,SL d c v)) (t:=SL d c d.length) d.length (λv hv=>?_) ?_
  ·exact this
  ·unfold ET KG;obtain⟨e0,fO,gT⟩:=Qg hd hv;have e1:(c.getD v ATJ.zero)=DJ c v:=rfl;have e2:(d.getD v _).2.1=dw d v:=rfl;have hr:=WT (hc.2 v hv) (by omega);have Jk:=fl hd hc v (by omega);simp only[AQg,e1];rw[C9 hv,AQv,AQx (Bj (by rw[hc.1];exact hv))];have e3:J5 d v c d.length (SL d c v) (DJ c v)=some (CN d c v,((CN d c v).length:Int)):=by
    unfold J5;rw[VI,AQx (Bj hv),AQx (by grind)];rfl
   rw[e3,AQf];have Ws:(CN d c v).length<=4097:=by unfold CN;simp;omega
   have e4:SR d v c d.length (CN d c v) ((CN d c v).length) 0 0 (SL d c v)=some (SL d c (v+1)):=by
    have:=AP (f:=ES d v c d.length (CN d c v) ((CN d c v).length)) (λi=>(G1 0 ((CN d c v).take i),i,SL d c v++V7 v 0 ((CN d c v).take i))) (t:=SL d c (v+1)) (CN d c v).length (λi hi=>?_) ?_
    ·rw[show SL d c v=SL d c v++V7 v 0 ((CN d c v).take 0) by simp[V7]];exact this
    ·unfold ES KF;have e5:(CN d c v).getD i ATE.zero=Lk _ i:=rfl;have hbd:=dz hd hc hv hi;have zu:=sk hd hc hv i (by omega);have hrl:(V7 v 0 ((CN d c v).take i)).length<=4097:=by rw[eD,AQA];omega
     simp only[AQg,e5];rw[C9 hi,AQx (Bj hi),AQx (by grind),Bl hi (by omega),BH  (by omega) (by omega),Ql hi,AY  hi,gl,AQn];rfl
    ·unfold ES KF;rw[DU,AQu,AQp (AQl _),qB]
   rw[e4,AQf,Bl hv (by omega)]
  ·unfold ET KG;rw[DU,AQu]
 rw[this];rfl
theorem Xe(hd:AE d)(hc:Dk d c)(hb:YY c):Jh d (c,())=some (SL d c d.length):=by
 unfold Jh;have Zs:=hd.1;obtain⟨r,hr,hq⟩:=WV  hb;rw[hr,AQf,hq.2 ⟨hd,hc⟩,AQZ];have:S7 d (c,()) 0 []=some (SL d c d.length):=by
  have:=AP (f:=EX d (c,())) (λv=>(v,SL d c v)) (t:=SL d c d.length) d.length (λv hv=>?_) ?_
  ·exact this
  ·unfold EX K0;obtain⟨e0,fO,gT⟩:=Qg hd hv;have hr:=WT (hc.2 v hv) (by omega);have Jk:=fl hd hc v (by omega);have Ws:(CN d c v).length=(DJ c v).length+1:=by unfold CN;simp
   rw[C9 hv,AQv];have e4:S6 d v (c,()) 0 0 (SL d c v)=some (SL d c (v+1)):=by
    have:=AP (f:=EW d v (c,())) (λi=>(G1 0 ((CN d c v).take i),i,SL d c v++V7 v 0 ((CN d c v).take i))) (t:=SL d c (v+1)) (CN d c v).length (λi hi=>?_) ?_
    ·rw[show SL d c v=SL d c v++V7 v 0 ((CN d c v).take 0) by simp[V7]];exact this
    ·unfold EW KZ;have e1:(c.getD v ATJ.zero)=DJ c v:=rfl;have e2:(d.getD v _).2.1=dw d v:=rfl;have hbd:=dz hd hc hv hi;have zu:=sk hd hc hv i (by omega);have hrl:(V7 v 0 ((CN d c v).take i)).length<=4097:=by rw[eD,AQA];omega
     simp only[AQg,e1,e2];rw[AQx (Bj (by rw[hc.1];exact hv)),show decide _=true from LL,AQx (Bj hv)];have e6:Kb d v (G1 0 ((CN d c v).take i)) i (c,()) (SL d c v++V7 v 0 ((CN d c v).take i)) (dw d v)=some (Lk (CN d c v) i):=by
      unfold Kb;have e3:(DJ c v).getD i ATE.zero=Lk _ i:=rfl;simp only[AQg,e1,e3];rw[AQx (Bj (by rw[hc.1];exact hv)),QZ (by omega)];by_cases h:i<(DJ c v).length
      ·rw[C9 h,AQv,AQx (Bj (by rw[hc.1];exact hv)),AQx (Bj h),AQx h]
      grind
     rw[e6,AQf,AQx (by grind),Bl hi (by omega),BH  (by omega) (by omega),Ql hi,AY  hi,gl,AQn];rfl
    ·unfold EW KZ;have e1:(c.getD v ATJ.zero)=DJ c v:=rfl;simp only[AQg,e1];rw[AQx (Bj (by rw[hc.1];exact hv)),Ws,show decide ((((DJ c v).length+1:Nat))<=((DJ c v).length:Int))=false from Ic,AQu,<-Ws,AQp (AQl _),qB]
   rw[e4,AQf,Bl hv (by omega)]
  ·unfold EX K0;rw[DU,AQu]
 rw[this];rfl
end
end Go.Proofs.X
namespace Go.Proofs.X
open Go Go.Va
set_option maxRecDepth 100000
def nV(L:ASM)(i:Nat):ASw:=L.getD i Ae.zero
def nU(L:ASM)(i:Nat):ASu:=((nV L i).1,(nV L i).2.1,())
def HF(L:ASM)(k:ASu):Nat->ATV Nat
 |0=>none
 |n+1=>bif Bg Aa k (nU L n)then some n else HF L k n
theorem gZ(L:ASM)(k:ASu)(n:Nat):HF L k (n+1)=bif Bg Aa k (nU L n)then some n else HF L k n:=rfl
theorem WG{L:ASM}{k:ASu}:∀{N n:Nat},HF L k N=some n->n<N/\nU L n=k
 |N+1,n,h=>by
  unfold HF at h;cases hk:Bg _ k _ with
  |true =>
   rw[hk]at h;injection h with h;subst h;exact⟨AQV _,((iQ _ _).1 hk).symm⟩
  |false =>
   rw[hk]at h;obtain⟨h1,h2⟩:=WG h;exact⟨by omega,h2⟩
theorem gY{L:ASM}{k:ASu}:∀{N m:Nat},m<N->nU L m=k->∃n,HF L k N=some n
 |N+1,m,hm,h=>by
  unfold HF;cases hk:Bg _ k _ with
  |true=>grind
  |false =>
   rcases AQq m N with h' |h'
   ·obtain⟨n,hn⟩:=gY h' h;exact⟨n,hn⟩
   ·have:m=N:=by omega
    subst this;rw[<-h,(iQ _ _).2 rfl]at hk;cases hk
abbrev FM:Type:=List AS4
def ji(L:ASM):Nat->FM
 |0=>[]
 |n+1=>Cr Aa ATE (ji L n) (nU L n) (n:Int)
theorem Abg(L:ASM)(k:ASu):∀n,Pm Aa ATE (ji L n) k=(HF L k n).map Int.ofNat
 |0=>rfl
 |n+1=>by
  unfold ji HF;rw[Yl iQ,Abg L k n];cases Bg _ k _<;>rfl
theorem AcU{L:ASM}(hL:L.length<=1048576):O9 L=some (ji L L.length):=by
 unfold O9;have:SK L L.length 0 []=some (ji L L.length):=by
  have:=AP (f:=EM L L.length) (λi=>(i,ji L i)) (t:=ji L L.length) L.length (λi hi=>?_) ?_
  ·exact this
  ·unfold EM KA;rw[C9 hi,AQx (Bj hi),Bl hi hL];rfl
  ·unfold EM KA;rw[DU,AQu]
 rw[this];rfl
theorem eE{v:Nat}:∀{l:ASH} {low:Int} {x:ASw},x∈V7 v low l↔∃j,j<l.length/\x=((v:Int),G1 low (l.take j),Lk l j-G1 low (l.take j),())
 |[],low,x=>by simp[V7]
 |p::l,low,x=>by
  have e:∀j,G1 low ((p::l).take _)=G1 p (l.take j):=λj=>by
   rw[List.take_succ_cons];cases l.take j<;>rfl
  constructor
  ·intro h;rcases List.mem_cons.1 h with h |h
   ·exact⟨0,by simp,h⟩
   ·obtain⟨j,hj,rfl⟩:=eE.1 h;refine⟨j+1,by grind,?_⟩;rw[e];rfl
  ·rintro⟨j,hj,rfl⟩
   match j with
   |0=>exact AQK
   |j+1 =>
    rw[e];exact AQH _ (eE.2 ⟨j,by grind,rfl⟩)
section
variable {d:ASL} {c:ASV}
theorem qA{x:ASw}:x∈SL d c d.length↔∃v j,v<d.length/\j<(CN d c v).length/\x=((v:Int),G1 0 ((CN d c v).take j),Lk (CN d c v) j-G1 0 ((CN d c v).take j),()):=by
 unfold SL;rw[List.mem_flatMap];constructor
 ·rintro⟨v,hv,hx⟩
  obtain⟨j,hj,e⟩:=eE.1 hx;exact⟨v,j,List.mem_range.1 hv,hj,e⟩
 ·rintro⟨v,j,hv,hj,e⟩
  exact⟨v,List.mem_range.2 hv,eE.2 ⟨j,hj,e⟩⟩
theorem dA(_hd:AE d)(hc:Dk d c){v:Nat}(hv:v<d.length){i j:Nat}(zq:i<j)(hj:j<(CN d c v).length):Lk (CN d c v) i<Lk (CN d c v) j:=by
 have hl:j<=(DJ c v).length:=by unfold CN at hj;simp at hj;omega
 have hp:=hc.2 v hv;rw[QZ hl,QZ (by omega),VI];split
 ·rename_i h;exact zZ hp zq h
 ·have:=(hp i (by omega)).2.1;omega
theorem Aij(hd:AE d)(hc:Dk d c){v a e j:Nat}(hv:v<d.length)(hj:j<(CN d c v).length)(ha:G1 0 ((CN d c v).take j)=(a:Int))(hae:a<e)(he:e=W d v\/e<W d v/\C0 c v e=true)(aT:∀q,a<q->q<e->C0 c v q=false):Lk (CN d c v) j=(e:Int):=by
 obtain⟨e0,fO,gT⟩:=Qg hd hv;have Ws:(CN d c v).length=(DJ c v).length+1:=by unfold CN;simp
 have BX:∃j',j'<(CN d c v).length/\Lk (CN d c v) j'=e:=by
  rcases he with rfl |⟨_,h⟩
  ·exact⟨(DJ c v).length,by omega,by rw[QZ (AQl _),Q4,e0]⟩
  ·have hm :=by simpa [C0]using h
   obtain⟨i,hi,hx⟩:=ARb hm;exact⟨i,by omega,by rw[QZ (by omega),<-hx];simp[Lk,hi]⟩
 obtain⟨j',Sv,hje⟩:=BX;have Al1:a<Lk (CN d c v) j:=by
  match j with
  |0 =>
   have :=by simp[G1]at ha;omega
   have:=(dz hd hc hv hj).1;omega
  |i+1 =>
   rw[Ql (by omega)]at ha;rw[<-ha];exact dA hd hc hv (by omega) hj
 have hjj:j<=j':=by
  refine Classical.byContradiction λhn=>?_
  match j with
  |0=>omega
  |i+1 =>
   rw[Ql (by omega)]at ha;rcases AQq j' i with h |h
   ·have:=dA hd hc hv h (by omega);omega
   grind
 rcases AQq j j' with h |h
 ·have Bp:=dA hd hc hv h Sv;rw[QZ (by omega)]at Al1 Bp;by_cases hc':j<(DJ c v).length
  ·have hm:Lk (DJ c v) j∈DJ c v:=by exact AK hc'
   have:=aT (Lk (DJ c v) j).toNat (by omega) (by omega);simp only[C0]at this
   grind
  ·omega
 grind
theorem AiR(hd:AE d)(hc:Dk d c){v a e:Nat}(hv:v<d.length)(h0:a=0\/C0 c v a=true)(hae:a<e)(he:e=W d v\/e<W d v/\C0 c v e=true)(aT:∀q,a<q->q<e->C0 c v q=false) :
    ∃n,HF (SL d c d.length) (nk v a) (SL d c d.length).length=some n/\n<(SL d c d.length).length/\(nV (SL d c d.length) n).2.2.1=((e-a:Nat):Int):=by
 have Ws:(CN d c v).length=(DJ c v).length+1:=by unfold CN;simp
 have hj:∃j,j<(CN d c v).length/\G1 0 ((CN d c v).take j)=a:=by
  rcases h0 with rfl |h
  ·exact⟨0,by omega,rfl⟩
  ·have hm :=by simpa [C0]using h
   obtain⟨i,hi,hx⟩:=ARb hm;have AJ9:i+1<(CN d c v).length:=by
    omega
   refine⟨i+1,AJ9,?_⟩;rw[Ql (by omega),QZ (by omega),<-hx];simp[Lk,hi]
 obtain⟨j,hj1,hj2⟩:=hj;have hm :=qA.2 ⟨v,j,hv,hj1,rfl⟩;obtain⟨m,UO,Tm⟩:=ARb hm;have hsm:nV (SL d c d.length) m=((v:Int),G1 0 ((CN d c v).take j),Lk (CN d c v) j-G1 0 ((CN d c v).take j),()):=by
  unfold nV;grind
 obtain⟨n,hn⟩:=gY  (k:=nk v a) UO (by unfold nU nk;rw[hsm,hj2]);obtain⟨x7,hn2⟩:=WG hn;refine⟨n,hn,x7,?_⟩;obtain⟨v',j',rU,Sv,hx⟩:=qA.1 (show nV _ n∈SL d c _ from AK x7);unfold nU nk at hn2;rw[hx]at hn2⊢;injection hn2 with h1 h2;injection h2 with h2 _;have h1:v'=(v:Int):=h1;have hvv:v'=v:=by omega
 subst hvv;have h2 :=h2;have:=Aij hd hc rU Sv h2 hae he aT
 grind
def nm(o:ATV Nat):Int:=match o with |some n=>(n:Int)|none=>-1
def NM(d:ASL)(L:ASM)(n:Nat):ASV:=(List.range d.length).map λv=>(List.range (W d v)).map λa=>nm (HF L (nk v a) n)
theorem yr{L:ASM}{n v:Nat}{z:ASH}(hv:v<d.length):(NM d L n).getD v z=(List.range (W d v)).map λa=>nm (HF L (nk v a) n):=Gt hv
theorem Aii(hd:AE d)(hc:Dk d c)(hb:YY c):R6 d (c,())=some (NM d (SL d c d.length) (SL d c d.length).length):=by
 unfold R6;have Zs:=hd.1;have h1:P9 d (c,()) 0 []=some (NM d (SL d c d.length) 0):=by
  unfold P9;have:=AP (f:=Gl d (c,())) (λv=>((v:Int),(List.range v).map λu=>(List.range (W d u)).map λa=>nm (HF (SL d c d.length) (nk u a) 0))) (t:=NM d (SL d c d.length) 0) d.length (λv hv=>?_) ?_
  ·exact this
  ·unfold Gl ML;obtain⟨e0,fO,gT⟩:=Qg hd hv;have e2:(d.getD v Ab.zero).2.1=(W d v:Int):=e0;simp only[AQg,e2];rw[C9 hv,AQv,AQx (Bj hv),AQx (show Ty.row ATE=true/\(0:Int)<=(W d v:Int)/\(W d v:Int)<=(W d v:Int)/\((8:Nat):Int)*(W d v:Int)<=281474976710656/\(W d v:Int)<=9223372036854775807 from⟨rfl,by omega,by omega,by omega,by omega⟩)];have e4:∀z,P8 d (v:Int) (c,()) z 0 (List.replicate (W d v) 0)=some ((List.range (W d v)).map λa=>nm (HF (SL d c d.length) (nk v a) 0)):=λz=>by
    unfold P8;have:=AP (f:=Gk d (v:Int) (c,()) z) (λi=>((i:Int),CO (λ_=>(-1:Int)) 0 (W d v) i)) (t:=CO (λ_=>(-1:Int)) 0 (W d v) (W d v)) (W d v) (λi hi=>?_) ?_
    ·rw[MW]at this;have ef:CO (λ_=>(-1:Int)) 0 (W d v) (W d v)=(List.range (W d v)).map λa=>nm (HF (SL d c d.length) (nk v a) 0):=AQ4 λa ha=>by rw[AQx (List.mem_range.1 ha)];rfl
     rw[<-ef];exact this
    ·unfold Gk MK;simp only[AQg];rw[Im,C9 hi,AQv,AQx (Bj hi),Bl hi (by omega),QA (λ_=>(-1:Int))]
    ·unfold Gk MK;simp only;rw[Im,DU,AQu]
   rw[e4,AQf,AQx (by simp;omega),Bl hv (by omega),D2]
  ·unfold Gl ML;simp only;rw[DU,AQu];rfl
 rw[h1,AQf,Xe hd hc hb,AQf];have Jk:=fl hd hc d.length (AQl _);have h2:Qa (SL d c d.length) 0 (NM d (SL d c d.length) 0)=some (NM d (SL d c d.length) (SL d c d.length).length):=by
  unfold Qa;have:=AP (f:=Gm (SL d c d.length)) (λi=>((i:Int),NM d (SL d c d.length) i)) (t:=NM d (SL d c d.length) (SL d c d.length).length) (SL d c d.length).length (λi hi=>?_) ?_
  ·exact this
  ·unfold Gm MM;have rM:nV (SL d c d.length) i∈SL d c d.length:=AK hi;obtain⟨v,j,hv,hj,hx⟩:=qA.1 rM;obtain⟨e0,fO,gT⟩:=Qg hd hv;have zu:=sk hd hc hv j (by omega);obtain⟨a,ha⟩:∃a:Nat,G1 0 ((CN d c v).take j)=(a:Int):=⟨(G1 0 ((CN d c v).take j)).toNat,by omega⟩;have haw:a<W d v:=by
    match j with
    |0=>simp[G1]at ha;omega
    |j+1 =>
     rw[Ql (by omega)]at ha;have h3:=dA hd hc hv (show j<(DJ c v).length by unfold CN at hj;simp at hj;omega) (by unfold CN;simp);rw[QZ (AQl _),Q4]at h3;omega
   have q1:((SL d c d.length).getD i Ae.zero).1=(v:Int):=congrArg (·.1) hx;have q2:((SL d c d.length).getD i Ae.zero).2.1=(a:Int):=(congrArg (·.2.1) hx).trans ha;have hk:nU (SL d c d.length) i=nk v a:=by
    unfold nU nk;rw[show(nV (SL d c d.length) i).1=(v:Int)from q1,show(nV (SL d c d.length) i).2.1=(a:Int)from q2]
   simp only[AQg,q1,q2];have Ie:(NM d (SL d c d.length) i).set v (((NM d (SL d c d.length) i).getD v ATJ.zero).set a (i:Int))=NM d (SL d c d.length) (i+1):=by
    rw[yr hv];apply ARu;intro u;rw[AQE];by_cases hu:u<d.length
    ·have er:∀m,(NM d (SL d c d.length) m)[u]?=some ((List.range (W d u)).map λa=>nm (HF (SL d c d.length) (nk u a) m)):=λm=>by simp[NM,hu]
     rw[er,er];split
     ·rename_i e;subst e;rw[AQx (by simp[NM];exact hu)];congr 1;apply ARu;intro b;rw[AQE];by_cases hbw:b<W d v
      ·simp only[AQr,AQW,AQI,ARW hbw,Option.map_some];rw[gZ,hk];split
       ·rename_i e;subst e;rw[(iQ _ _).2 rfl];rfl
       ·rename_i e;have:Bg Aa (nk v b) (nk v a)=false:=by
         rw[Bool.eq_false_iff];intro h;exact e (ZF.1 ((iQ _ _).1 h)).2.symm
        rw[this];rfl
      ·rw[Q4];simp[hbw]
     ·rename_i e;congr 1;refine AQ4 λb _=>?_;have:Bg Aa (nk u b) (nU (SL d c d.length) i)=false:=by
       rw[hk,Bool.eq_false_iff];intro h;exact e (ZF.1 ((iQ _ _).1 h)).1.symm
      show _=nm (HF (SL d c d.length) (nk u b) (i+1));rw[gZ,this];rfl
    ·have:∀m,(NM d (SL d c d.length) m)[u]?=none:=λm=>by simp[NM];omega
     rw[this,this,Q4]
   have hNl:(NM d (SL d c d.length) i).length=d.length:=by simp[NM]
   rw[C9 hi,AQv,AQx (Bj hi),hNl,AQx (Bj hv),AQx (Bj hi),AQx (by rw[yr hv];simp;omega),Ie,Bl hi (by omega)]
  ·unfold Gm MM;simp only;rw[DU,AQu]
 rw[h2];rfl
end
end Go.Proofs.X
namespace Go.Proofs.X
open Go Go.Va
set_option maxRecDepth 100000
theorem AmW{xs:ASH}(hs:xs.Pairwise (·<=·)):∀m,m<=xs.length->(Lib.compactUpTo xs.toArray m).Pairwise (·<·)/\(∀x,x∈Lib.compactUpTo xs.toArray m↔∃j,j<m/\x=xs.toArray[j]!):=by
 have XF:∀j,j<xs.length->xs.toArray[j]! =Lk xs j:=λj hj=>by simp[Lk,hj]
 have Tl:∀i j,i<j->j<xs.length->Lk xs i<=Lk xs j:=λi j zq hj=>by
  have:=List.pairwise_iff_getElem.1 hs i j (by omega) hj zq
  grind
 intro m;induction m with
 |zero=>simp[Lib.compactUpTo]
 |succ m ih =>
  intro hm;obtain⟨h1,h2⟩:=ih (by omega);rw[Lib.compactUpTo_succ];cases hk:Lib.keeps xs.toArray m with
  |true =>
   simp only[AQ2];refine⟨List.pairwise_append.2 ⟨h1,by simp,λx hx y hy=>?_⟩,λx=>?_⟩
   ·rw[AQG]at hy;subst hy;obtain⟨j,hj,rfl⟩:=(h2 x).1 hx;have X0:m=0\/xs.toArray[m]!≠xs.toArray[m-1]!:=by simpa [Lib.keeps]using hk
    rcases X0 with X0 |X0
    ·omega
    ·rw[XF m (by omega),XF (m-1) (by omega)]at X0;rw[XF j (by omega),XF m (by omega)];have a1:=Tl (m-1) m (by omega) (by omega);have a2:Lk xs j<=Lk xs (m-1):=by
      rcases AQq j (m-1)with h |h
      ·grind
      grind
     omega
   grind
  |false =>
   simp only[AQ6,ARH,AQU];refine⟨h1,λx=>?_⟩;rw[h2];have X0:¬(m=0\/xs.toArray[m]!≠xs.toArray[m-1]!):=by simpa [Lib.keeps]using hk
   grind
theorem iz(xs:ASH):(OI (RE xs)).Pairwise (·<·)/\∀x,x∈OI (RE xs)↔x∈xs:=by
 have hs:(RE xs).Pairwise (·<=·):=by
  have:=List.pairwise_mergeSort (le:=leI) (λa b c h1 h2=>by simp[leI]at *;omega) (λa b=>by simp[leI];omega) xs;exact this.imp λ{a b} h=>by simpa [leI]using h
 obtain⟨h1,h2⟩:=AmW hs _ (AQl _);refine⟨h1,λx=>?_⟩;unfold OI Lib.compact;rw[h2];have hm:∀y,y∈RE xs↔y∈xs:=λy=>(List.mergeSort_perm xs leI).mem_iff;rw[<-hm];constructor
 ·grind
 ·intro hx;obtain⟨j,hj,rfl⟩:=ARb hx;exact⟨j,hj,by grind⟩
def YO(l n:Nat)(p:Int):Bool:=decide ((l:Int)<p)&&decide (p<((l+n:Nat):Int))
def nT(c:ASV)(s:Sg)(k q:Nat):ASH:=match s with
 |.co _=>[]
 |.va v l n=>(((DJ c v).take q).filter (YO l n)).map λp=>(k:Int)+p-(l:Int)
def prt(c:ASV)(s:Sg)(k:Nat):ASH:=(k:Int)::match s with
 |.co _=>[]
 |.va v l n=>((DJ c v).filter (YO l n)).map λp=>(k:Int)+p-(l:Int)
def Kn(c:ASV)(f:ATU Sg)(m:Nat):ASH:=(List.range m).flatMap λi=>prt c (f.getD i (.co [])) (Bh (f.take i))
theorem zO(c:ASV)(f:ATU Sg)(m:Nat):Kn c f (m+1)=Kn c f m++prt c (f.getD m (.co [])) (Bh (f.take m)):=by
 unfold Kn;rw[ARn];simp
section
variable {d:ASL} {c:ASV}
theorem AbJ(hd:AE d)(hc:Dk d c){s:Sg}(hs:Wy d s)(k:Nat):(prt c s k).length<=4097:=by
 cases s with
 |co b=>simp[prt]
 |va v l n =>
  obtain⟨hv,_,_⟩:=hs;obtain⟨e0,fO,gT⟩:=Qg hd hv;have h1:=WT (hc.2 v hv) (by omega);have h2:=ARG (YO l n) (DJ c v);simp only[prt,ARe,AQr];omega
theorem wN(hd:AE d)(hc:Dk d c)(hb:YY c){B:ATU Bt}(h:Bm d B):LC (fN B) (c,())=some (Kn c (AA B) (AA B).length):=by
 unfold LC;obtain⟨n1,n2,n3⟩:=sF hd h;have hlen:=CQ n1;have hbl:=h.2.1;have vR:∀i,i<(AA B).length->Wy d ((AA B).getD i (.co [])):=λi hi=>(ZL h (AK hi)).1;have vP:∀m,m<=(AA B).length->(Kn c (AA B) m).length<=4097*m:=λm hm=>Ya λi hi=>AbJ hd hc (vR i (by omega)) _;have:NY (fN B) (c,()) ((fN B).length:Int) 0 0 []=some (Kn c (AA B) (AA B).length):=by
  unfold NY;rw[show(fN B).length=(AA B).length from Cj _];have:=AP (f:=EP (fN B) (c,()) ((AA B).length:Int)) (λk=>((Bh ((AA B).take k):Int),(k:Int),Kn c (AA B) k)) (t:=Kn c (AA B) (AA B).length) (AA B).length (λk hk=>?_) ?_
  ·exact this
  ·unfold EP KE;have e1:(fN B).getD k Ag.zero=Ir ((AA B).getD k (.co [])):=iH hk;have hpk:=vP k (by omega);have hwk:=Fw (AA B) k;have iM:=aE hk;simp only[AQg,e1];rw[C9 hk,AQv,show(fN B).length=(AA B).length from Cj _,AQx (Bj hk),AQx (by simp only[AQj,ARe,ASg];omega)];have e2:J4 (Bh ((AA B).take k):Int) (fN B) ((AA B).length:Int) (k:Int) (c,()) (Kn c (AA B) k++[(Bh ((AA B).take k):Int)]) (Ir ((AA B).getD k (.co [])))=some (Kn c (AA B) (k+1)):=by
    unfold J4;rw[zO];have Gq:=vR k hk;cases hs:(AA B).getD k (.co [])with
    |co b=>rfl
    |va v l n =>
     rw[hs]at Gq iM;obtain⟨hv,hn,hw⟩:=Gq;obtain⟨e0,fO,gT⟩:=Qg hd hv;have hrl:=WT (hc.2 v hv) (by omega);have e3:(c.getD v ATJ.zero)=DJ c v:=rfl;have e4:(Ir (.va v l n)).1=(v:Int):=rfl;simp only[e4,AQg,e3];rw[show decide ((v:Int)>=0)=true from LL,AQv,AQx (Bj (by rw[hc.1];exact hv))];have e5:NW (Bh ((AA B).take k):Int) (fN B) ((AA B).length:Int) (k:Int) (c,()) (Ir (.va v l n)) (DJ c v) ((DJ c v).length:Int) 0 (Kn c (AA B) k++[(Bh ((AA B).take k):Int)])=some (Kn c (AA B) k++prt c (.va v l n) (Bh ((AA B).take k))):=by
      unfold NW;have:=AP (f:=EO (Bh ((AA B).take k):Int) (fN B) ((AA B).length:Int) (k:Int) (c,()) (Ir (.va v l n)) (DJ c v) ((DJ c v).length:Int)) (λq=>((q:Int),Kn c (AA B) k++[(Bh ((AA B).take k):Int)]++nT c (.va v l n) (Bh ((AA B).take k)) q)) (t:=Kn c (AA B) k++prt c (.va v l n) (Bh ((AA B).take k))) (DJ c v).length (λq hq=>?_) ?_
      ·rw[show Kn c (AA B) k++[(Bh ((AA B).take k):Int)]=Kn c (AA B) k++[(Bh ((AA B).take k):Int)]++nT c (.va v l n) (Bh ((AA B).take k)) 0 by simp[nT]];exact this
      ·unfold EO KD NU Po;have e6:(DJ c v).getD q ATE.zero=Lk (DJ c v) q:=rfl;have hm:Lk (DJ c v) q∈DJ c v:=by unfold Lk;exact AK hq
       have hpb:=sL (hc.2 v hv) hm;have hbd:Lk (DJ c v) q<=4096:=by omega
       have Bp:(nT c (.va v l n) (Bh ((AA B).take k)) q).length<=4096:=by
        have h2:=ARG (YO l n) ((DJ c v).take q);simp only[nT,AQr];rw[AQA]at h2;omega
       have e7:(Ir (.va v l n)).2.1=(l:Int):=rfl;have e7b:(Ir (.va v l n)).2.2.1=(n:Int):=rfl;have e8:wI ((l:Int)+(n:Int))=((l+n:Nat):Int):=AZ;have e9:nT c (.va v l n) (Bh ((AA B).take k)) (q+1)=nT c (.va v l n) (Bh ((AA B).take k)) q++if YO l n (Lk (DJ c v) q)then[(Bh ((AA B).take k):Int)+Lk (DJ c v) q-(l:Int)]else[]:=by
        simp only[nT];rw[AY (z:=(0:Int)) hq,ASf,AQY];congr 1;show List.map _ (List.filter (YO l n) [Lk (DJ c v) q])=_;cases hi:YO l n (Lk (DJ c v) q)<;>simp[hi]
       simp only[AQg,e6,e7,e7b,e8];rw[C9 hq,AQv,AQx (Bj hq),e9];show Option.bind (bif YO l n (Lk (DJ c v) q)then _ else _) _=_;cases hi:YO l n (Lk (DJ c v) q)with
       |true =>
        rw[AQv,AQx (by simp only[AQj,ARe,ASg];omega),AQf,Bl hq (by omega),BH (x:=(Bh ((AA B).take k):Int)+Lk (DJ c v) q) (by omega) (by omega),BH];simp[AQn]
       |false =>
        rw[AQu,AQf,Bl hq (by omega)];simp
      ·unfold EO KD;simp only;rw[DU,AQu];have:nT c (.va v l n) (Bh ((AA B).take k)) (DJ c v).length=((DJ c v).filter (YO l n)).map λp=>(Bh ((AA B).take k):Int)+p-(l:Int):=by
        simp only[nT];rw[AQp (AQl _)]
       rw[this,AQn];rfl
     rw[e5];rfl
   have e10:wI ((Bh ((AA B).take k):Int)+(Ir ((AA B).getD k (.co []))).2.2.1)=(Bh ((AA B).take (k+1)):Int):=by
    rw[ZM,FJ hk];exact AZ
   rw[e2,AQf,Bl hk (by omega),e10]
  ·unfold EP KE;simp only;rw[DU,AQu]
 rw[this];rfl
theorem pJ(hd:AE d)(hc:Dk d c){B:ATU Bt}(h:Bm d B){x:Int}:x∈Kn c (AA B) (AA B).length↔∃p:Nat,x=(p:Int)/\p<B.length/\Uj B (C0 c) p=true:=by
 obtain⟨n1,n2,n3⟩:=sF hd h;unfold Kn;rw[List.mem_flatMap];constructor
 ·rintro⟨i,hi,hx⟩
  have hi:=List.mem_range.1 hi;have Gq:=(ZL h (AK (z:=.co []) hi)).1;have h1:=n1 _ (AK (z:=.co []) hi);have iM:=aE hi;rcases List.mem_cons.1 hx with rfl |hx
  ·refine⟨_,rfl,by omega,?_⟩;have:=(T3 hi (k:=0) (by omega)).2.1;unfold Uj fst
   grind
  ·cases hs:(AA B).getD i _ with
   |co b=>grind
   |va v l n =>
    rw[hs]at hx iM Gq;obtain⟨p,hp,rfl⟩:=List.mem_map.1 hx;obtain⟨cO,gP⟩:=List.mem_filter.1 hp;unfold YO at gP;rw[AQm,AR1,AR1]at gP;simp only[Sg.w]at iM;obtain⟨q,rfl⟩:∃q:Nat,p=q:=⟨p.toNat,by omega⟩;refine⟨Bh ((AA B).take i)+(q-l),by omega,by omega,?_⟩;obtain⟨e1,e2,_⟩:=T3 hi (k:=q-l) (by rw[hs];simp only[Sg.w];omega);unfold Uj JO;rw[EU,hs,aI (by omega)]at e1;rw[e1,show l+(q-l)=q by omega];simp only[Ac4,C0]
    grind
 ·rintro⟨p,rfl,hp,gK⟩
  obtain⟨i,k,h1,h2,h3,h4,h5,h6,_⟩:=jX h hp;refine⟨i,List.mem_range.2 h1,?_⟩;rcases AQD k with h0 |h0
  ·subst h0;rw[h3];exact AQK
  ·unfold Uj at gK;rw[h6,h5,show(k==0)=false by grind]at gK;cases hs:(AA B).getD i _ with
   |co b =>
    rw[hs]at gK h2;rw[dk h2]at gK;cases gK
   |va v l n =>
    rw[hs]at gK h2;simp only[Sg.w]at h2;rw[aI h2]at gK;have hm :=by simpa [Ac4,C0]using gK
    refine AQH _ (List.mem_map.2 ⟨((l+k)),List.mem_filter.2 ⟨hm,?_⟩,by omega⟩);unfold YO
    grind
end
end Go.Proofs.X
namespace Go.Proofs.X
open Go Go.Va
set_option maxRecDepth 100000
def jr(B1 B2:ATU Bt)(h:Nat->Nat->Bool)(p:Nat):Bool:=Uj B1 h p||Uj B2 h p
structure Gap (B1 B2:List Bt) (h:Nat->Nat->Bool) (a b:Nat):Prop where
 lt:a<b
 le:b<=B1.length
 no:∀q,a<q->q<b->jr B1 B2 h q=false
 fr:a=0\/jr B1 B2 h a=true
 to:b=B1.length\/jr B1 B2 h b=true
def coB:Bt->Bool
 |.co b=>b
 |.va _ _=>false
def uU(B:ATU Bt)(a w:Nat):ASI:=((B.drop a).take w).map coB
def Wz(L:ASM)(B:ATU Bt)(a b:Nat):ASt:=match JO B a with
 |.co _=>(-1,fW (uU B a (b-a)),())
 |.va v x=>(nm (HF L (nk v x) L.length),(0,[],()),())
theorem Ag2{A:Type}{F:Sg->ATU A}(hF:∀s,(F s).length=s.w){f:ATU Sg}{i k w:Nat}(hi:i<f.length)(hk:k+w<=(f.getD i (.co [])).w):((f.flatMap F).drop (Bh (f.take i)+k)).take w=((F (f.getD i (.co []))).drop k).take w:=by
 have e:f.flatMap F=(f.take i).flatMap F++(F (f.getD i (.co []))++(f.drop (i+1)).flatMap F):=by
  rw[<-AQn,<-af F hi,<-ASd,ARp]
 have hl:=VH hF (f.take i);have hs:=hF (f.getD i (.co []));rw[e,List.drop_append,List.drop_of_length_le (by omega),ARz,hl,show Bh _+k-Bh _=k by omega,List.drop_append,List.take_append];rw[show w-(List.drop k _).length=0 by grind,AR9,AQU]
section
variable {d:ASL}
theorem AlV{B B':ATU Bt}(h:Bm d B){f:Nat->Nat->Bool}{a b:Nat}(hl:b<=B.length)(zl:a<b)(aT:∀q,a<q->q<b->fst B q=false):∃i k,i<(AA B).length/\a=Bh ((AA B).take i)+k/\k+(b-a)<=((AA B).getD i (.co [])).w/\Wy d ((AA B).getD i (.co [])):=by
 obtain⟨i,k,h1,h2,h3,h4,_⟩:=jX h (show a<B.length by omega);refine⟨i,k,h1,h3,Classical.byContradiction λhn=>?_,h4⟩;have iM:=FJ h1;have hi1:i+1<(AA B).length:=by
  refine Classical.byContradiction λhc=>?_;have e:(AA B).take (i+1)=AA B:=AQp (by omega);rw[e,B9]at iM;omega
 have fO:=CJ B _ (AK (z:=.co []) hi1);have:=(T3 hi1 (k:=0) (by omega)).2.1;have hq:=aT (Bh ((AA B).take (i+1))) (by omega) (by omega);unfold fst at hq
 grind
theorem Afs{B:ATU Bt}(h:Bm d B){i k:Nat}(hi:i<(AA B).length)(hk:k<((AA B).getD i (.co [])).w):Qi (fN B) ((Bh ((AA B).take i)+k:Nat):Int)=some (Ir ((AA B).getD i (.co [])),(k:Int),()):=by
 unfold Qi;have hlen:=CQ (CJ B);rw[B9]at hlen;have hbl:=h.2.1;have iM:=aE hi;rw[B9]at iM;have:W4 (fN B) ((fN B).length) ((Bh ((AA B).take i)+k:Nat)) 0=some (.inl (Ir ((AA B).getD i (.co [])),k)):=by
  rw[show(fN B).length=(AA B).length from Cj _];have AGD:∀j,j<=i->Bh ((AA B).take j)<=Bh _:=λj hj=>by
   have e:(AA B).take j=((AA B).take i).take j:=by grind
   rw[e];exact Fw _ j
  have:=AP (f:=Io (fN B) ((AA B).length)) (λj=>(((Bh ((AA B).take i)+k-Bh ((AA B).take j):Nat)),j)) (t:=.inl (Ir ((AA B).getD i (.co [])),k)) i (λj hj=>?_) ?_
  ·exact this
  ·unfold Io Px;have e1:(fN B).getD j _=Ir _:=iH (by omega);have h1:=AGD _ hj;rw[FJ (show j<(AA B).length by omega)]at h1;simp only[AQg,e1,ZM];rw[C9 (show j<(AA B).length by omega),AQv,show(fN B).length=(AA B).length from Cj _,AQx (Bj (by omega)),Ic,AQu,Bl hj (by omega),FJ (show j<(AA B).length by omega)];rw[AZ (n:=Bh ((AA B).take i)+k-(Bh ((AA B).take j)+((AA B).getD j (.co [])).w)) (by omega) (by omega)]
  ·unfold Io Px;have e1:(fN B).getD i _=Ir _:=iH hi;simp only[AQg,e1,ZM];rw[C9 hi,AQv,show(fN B).length=(AA B).length from Cj _,AQx (Bj hi),show Bh _+k-Bh _=k by omega,C9 hk,AQv]
 rw[this];rfl
variable {c:ASV}
structure mZ (d:ASL) (c:ASV) (B:List Bt) (a b i k:Nat):Prop where
 hi:i<(AA B).length
 ha:a=Bh ((AA B).take i)+k
 hk:k+(b-a)<=((AA B).getD i (.co [])).w
 hs:Wy d ((AA B).getD i (.co []))
 lt:a<b
 le:b<=B.length
 no:∀q,a<q->q<b->fst B q=false
 va:∀v l n,(AA B).getD i (.co [])=.va v l n->∃m,HF (SL d c d.length) (nk v (l+k)) (SL d c d.length).length=some m/\m<(SL d c d.length).length/\(nV (SL d c d.length) m).2.2.1=((b-a:Nat):Int)
theorem AbQ(hd:AE d)(hc:Dk d c){B B':ATU Bt}(h:Bm d B)(hl:B.length=B'.length){a b:Nat}(zl:a<b)(Tl:b<=B.length)(aT:∀q,a<q->q<b->Uj B (C0 c) q=false)
    (mU:a=0\/(lh (JO B a)=true->Uj B (C0 c) a=true)) (vT:b=B.length\/(lh (JO B b)=true->Uj B (C0 c) b=true)) (he:∀x∈AA B,SD d (C0 c) x):∃i k,mZ d c B a b i k:=by
 have hnf:∀q,a<q->q<b->fst B q=false:=λq h1 h2=>by
  have:=aT q h1 h2;unfold Uj at this
  grind
 obtain⟨i,k,h1,h2,h3,h4⟩:=AlV (B':=B) (f:=C0 c) h Tl zl hnf;refine⟨i,k,h1,h2,h3,h4,zl,Tl,hnf,λv l n hs=>?_⟩;have Gq:=h4;have hk:=h3;rw[hs]at Gq hk;obtain⟨hv,hn,hw⟩:=Gq;obtain⟨e0,fO,gT⟩:=Qg hd hv;simp only[Sg.w]at hk;have Ahq:=he _ (AK (z:=.co []) h1);rw[hs]at Ahq;have iM:=aE h1;rw[B9,hs]at iM;simp only[Sg.w]at iM;have bat:∀j,j<n->JO B _=.va v _/\fst B _=(j==0):=λj hj=>by
  obtain⟨q1,q2,_⟩:=T3 h1  (by rw[hs];exact hj);rw[EU,hs,aI hj]at q1;exact⟨q1,q2⟩
 have h5:=AiR hd hc  (a:=l+k) (e:=l+k+(b-a)) hv ?_ (by omega) ?_ ?_
 ·grind
 ·rcases AQD k with hk0 |hk0
  ·subst hk0;rcases AQD l with jk |jk
   ·omega
   ·exact .inr (Ahq.1 jk (by omega))
  ·obtain⟨q1,q2⟩:=bat k (by omega);rw[<-h2]at q1 q2;rcases mU with mU |mU
   ·omega
   ·have:=mU (by rw[q1];rfl);unfold Uj at this;rw[q2,q1,show(k==0)=false by grind]at this;exact .inr this
 ·rcases AQq _ n with Bp |aS
  ·obtain⟨q1,q2⟩:=bat _ Bp;have eb:Bh ((AA B).take i)+(k+(b-a))=b:=by omega
   rw[eb]at q1 q2;have hbb:b≠B.length:=by omega
   have:=vT.resolve_left hbb (by rw[q1];rfl);unfold Uj at this;rw[q2,q1,show(k+(b-a)==0)=false by grind]at this;exact .inr ⟨by omega,by rw[show l+k+(b-a)=l+(k+(b-a)) by omega];exact this⟩
  ·have e:l+k+(b-a)=l+n:=by omega
   rw[e];rcases AQq _ _ with Bp |AOs
   ·exact .inr ⟨Bp,Ahq.2 (by omega) Bp⟩
   ·grind
 ·intro q hq1 hq2;obtain⟨q1,q2⟩:=bat (q-l) (by omega);have:=aT (Bh ((AA B).take i)+(q-l)) (by omega) (by omega);unfold Uj at this;rw[q1,ARj]at this;have:=this.2;rw[show l+(q-l)=q by omega]at this;exact this
theorem pX{B:ATU Bt}{a b i k:Nat}(S:mZ d c B a b i k):(B.drop a).take (b-a)=(((AA B).getD i (.co [])).bits.drop k).take (b-a):=by
 have e:=Ag2 Iw S.hi S.hk;rw[show(AA B).flatMap _=Dt _ from rfl,EU,<-S.ha]at e;exact e
theorem jy{B:ATU Bt}{a b i k:Nat}(S:mZ d c B a b i k):JO B a=((AA B).getD i (.co [])).bits.getD k (.co false):=by
 have h1:=S.hk;have h2:=S.lt;have:=(T3 S.hi (k:=k) (by omega)).1;rw[EU,<-S.ha]at this;exact this
theorem q9{B:ATU Bt}{a b i k:Nat}(S:mZ d c B a b i k){x:ASI}(hs:(AA B).getD i (.co [])=.co x):uU B a (b-a)=(x.drop k).take (b-a):=by
 unfold uU;rw[pX S,hs];simp only[Sg.bits];rw[<-List.map_drop,<-List.map_take,ASb];exact(AQ4 λ_ _=>rfl).trans (List.map_id _)
theorem gU(hd:AE d){B:ATU Bt}(h:Bm d B){a b i k:Nat}(S:mZ d c B a b i k):∃r,(Qi (fN B) (a:Int)).bind (λl=>Lz l ((b-a:Nat):Int) (ji (SL d c d.length) (SL d c d.length).length))=some r/\r.2.2.1=ji (SL d c d.length) (SL d c d.length).length/\(r.1,(r.2.1,r.2.2.2,()),())=Wz (SL d c d.length) B a b:=by
 have hk:=S.hk;have Bp:=S.lt;have Vv:=jy S;rw[S.ha,Afs h S.hi (by omega),<-S.ha,AQf];unfold Lz Wz;rw[Vv];cases hs:(AA B).getD i _ with
 |co x =>
  rw[hs]at hk;simp only[Sg.w]at hk;have Gq:=S.hs;rw[hs]at Gq;obtain⟨r,hr,hr2⟩:=Aa7    (by have:=Gq.2;omega) (by omega) hk;have e1:Fe (Ir (.co x)).2.2.2.1 k _=some r:=hr;rw[e1,dk (by omega)];refine⟨_,rfl,rfl,?_⟩;rw[hr2,q9 S hs]
 |va v l n =>
  rw[hs]at hk;simp only[Sg.w]at hk;have Gq:=S.hs;rw[hs]at Gq;obtain⟨hv,hn,hw⟩:=Gq;obtain⟨e0,fO,gT⟩:=Qg hd hv;obtain⟨m,hm,_⟩:=S.va v l n hs;have e1:(Ir (.va v l n)).1=v:=rfl;have e2:(Ir (.va v l n)).2.1=l:=rfl;simp only[e1,e2];rw[show((v:Int)==-1)=false from beq_eq_false_iff_ne.2 (by omega),aI (by omega),AZ  (n:=l+k) (by omega) (by omega)];refine⟨_,rfl,rfl,?_⟩;simp only;have e3:Bs _ ATE (ji (SL d c d.length) (SL d c d.length).length) (v,((l+k:Nat)),())=m:=by
   unfold Bs;rw[Abg];have:HF _ (v,((l+k:Nat)),()) _=some m:=hm;rw[this];rfl
  rw[e3,hm];rfl
theorem iu(hd:AE d){B:ATU Bt}(h:Bm d B){a b i k:Nat}(S:mZ d c B a b i k):∃r,QL (bV B,YI (AA B),()) (NM d (SL d c d.length) (SL d c d.length).length) (SL d c d.length) (a:Int) (b:Int)=some r/\r.2.2.1=true/\(r.1,(r.2.1,r.2.2.2,()),())=Wz (SL d c d.length) B a b:=by
 have hk:=S.hk;have Bp:=S.lt;have Vv:=jy S;have hbl:=h.2.1;have Tl:=S.le;unfold QL Wz;have eb:(bV B).getD a Aa.zero=WA (JO B a):=db (by omega);simp only[AQg,eb];rw[CM,AQx (Bj (by omega))];rw[Vv];cases hs:(AA B).getD i (.co [])with
 |co x =>
  rw[hs]at hk;simp only[Sg.w]at hk;rw[dk (by omega)];rw[show decide ((WA (.co (x.getD k false))).1<0)=true from rfl,AQv];have OO:(uU B a (b-a)).length=b-a:=by rw[q9 S hs];simp;omega
  have e1:R4 (b:Int) (bV B,YI (AA B),()) (a:Int) []=some (.inr ((uU B a (b-a)).map bI)):=by
   unfold R4;have:=AP (f:=Hh (b:Int) (bV B,YI (AA B),())) (λj=>(((a+j:Nat):Int),((uU B a (b-a)).take j).map bI)) (t:=.inr ((uU B a (b-a)).map bI)) (b-a) (λj hj=>?_) ?_
   ·exact this
   ·unfold Hh Oo;have hq:JO B (a+j)=.co ((uU B a (b-a)).getD j false):=by
     have:=(T3 S.hi (k:=k+j) (by rw[hs];simp only[Sg.w];omega)).1;rw[EU,hs,dk (by omega),<-ARk,<-S.ha]at this;show B.getD (a+j) (.co false)=_;rw[this,q9 S hs];congr 1;simp only[List.getD];rw[ARg,AQx hj,List.getElem?_drop]
    have ec:(bV B).getD (a+j) Aa.zero=WA (JO B (a+j)):=db (by omega);simp only[AQg,ec,hq];rw[show decide (((a+j:Nat):Int)<(b:Int))=true from LL,AQv,CM,AQx (Bj (by omega)),show decide ((WA (.co ((uU B a (b-a)).getD j false))).1>=0)=false from rfl,AQu,AQx (Bj (by omega)),AQx (by simp only[AQj,ARe,ASg,AQr,AQA];omega),AZ (x:=((a+j:Nat):Int)+1) (n:=a+(j+1)),AY (z:=false) (by omega),AQY];rw[show IntKind.u8.wrap (WA (.co ((uU B a (b-a)).getD j false))).2.1=bI ((uU B a (b-a)).getD j false) by cases (uU B a (b-a)).getD j false<;>rfl];rfl
   ·unfold Hh Oo;simp only;rw[show a+(b-a)=b by omega,DU,AQu,AQp (by omega)]
  rw[e1,AQf];simp only[ARi];rw[ay (by omega) (by omega),AQf];exact⟨_,rfl,rfl,rfl⟩
 |va v l n =>
  rw[hs]at hk;simp only[Sg.w]at hk;have Gq:=S.hs;rw[hs]at Gq;obtain⟨hv,hn,hw⟩:=Gq;obtain⟨e0,fO,gT⟩:=Qg hd hv;obtain⟨m,hm,UO,Tm⟩:=S.va v l n hs;rw[aI (by omega)];have e1:(WA (.va v (l+k))).1=(v:Int):=rfl;have e2:(WA (.va v (l+k))).2.1=((l+k:Nat):Int):=rfl;have e3:(NM d (SL d c d.length) (SL d c d.length).length).getD v ATJ.zero=(List.range (W d v)).map λx=>nm (HF (SL d c d.length) (nk v x) (SL d c d.length).length):=yr hv;have e4:((List.range (W d v)).map λx=>nm (HF (SL d c d.length) (nk v x) (SL d c d.length).length)).getD (l+k) ATE.zero=(m:Int):=by
   rw[Gt (by omega),hm];rfl
  simp only[e1,e2,AQg,e3,e4];have hNl:(NM d (SL d c d.length) (SL d c d.length).length).length=d.length:=by simp[NM]
  rw[show decide ((v:Int)<0)=false from Ic,AQu,AQx (Bj (by omega)),hNl,AQx (Bj hv),AQx (Bj (by omega)),AQr,AQW,AQx (Bj (by omega))];have e5:Nx (SL d c d.length) (a:Int) (b:Int) (bV B,YI (AA B),()) (m:Int)=some false:=by
   unfold Nx;rw[show decide ((m:Int)<0)=false from Ic,AQu,AQx (Bj UO),AQg,show((SL d c d.length).getD m Ae.zero).2.2.1=((b-a:Nat):Int)from Tm,AZ (x:=(b:Int)-(a:Int)) (n:=b-a)];simp
  have e6:R5 (b:Int) (bV B,YI (AA B),()) (m:Int) (wI ((a:Int)+1))=some (.inr ()):=by
   unfold R5;rw[AZ (x:=(a:Int)+1) (n:=a+1)];have:=AP (f:=Hj (b:Int) (bV B,YI (AA B),()) (m:Int)) (λj=>((a+1+j:Nat):Int)) (t:=.inr ()) (b-(a+1)) (λj hj=>?_) ?_
   ·exact this
   ·unfold Hj Oq;have hf:(YI (AA B)).getD (a+1+j) (Ty.zero .bool)=false:=S.no (a+1+j) (by omega) (by omega);simp only[AQg,hf];rw[show decide (((a+1+j:Nat):Int)<(b:Int))=true from LL,AQv,Abi,AQx (Bj (by omega)),AQu,AZ (x:=((a+1+j:Nat):Int)+1) (n:=a+1+(j+1))]
   ·unfold Hj Oq;simp only;rw[show a+1+(b-(a+1))=b by omega,DU,AQu]
  rw[e5,AQf,AQu,e6,AQf];simp only[ARi];refine⟨_,rfl,rfl,?_⟩;simp only;rw[hm];rfl
end
end Go.Proofs.X
namespace Go.Proofs.X
open Go Go.Va
set_option maxRecDepth 100000
def pcV(L:ASM)(B1 B2:ATU Bt)(a b:Nat):ASF:=(Wz L B1 a b,Wz L B2 a b,((b-a:Nat):Int),())
def PP(L:ASM)(B1 B2:ATU Bt):Nat->ASJ->AST
 |_,[]=>[]
 |a,b::r=>pcV L B1 B2 a b::PP L B1 B2 b r
def OG(a:Nat)(l:ASJ):Nat:=l.getLastD a
theorem UX(L:ASM)(B1 B2:ATU Bt):∀(l:ASJ) (a p:Nat),PP L B1 B2 a (l++[p])=PP L B1 B2 a l++[pcV L B1 B2 (OG a l) p]
 |[],a,p=>rfl
 |x::l,a,p=>by
  have e:OG a (x::l)=OG x l:=by cases l<;>rfl
  rw[e];show _::PP L B1 B2 x (l++[p])=_;rw[UX L B1 B2 l x p];rfl
theorem qz(L:ASM)(B1 B2:ATU Bt):∀(l:ASJ) (a:Nat),(PP L B1 B2 a l).length=l.length
 |[],_=>rfl
 |_::l,_=>by simp[PP,qz L B1 B2 l]
def eL(B1 B2:ATU Bt)(h:Nat->Nat->Bool)(p:Nat):ASJ:=(List.range p).filter λq=>decide (1<=q)&&jr B1 B2 h q
section
variable {B1 B2:ATU Bt} {h:Nat->Nat->Bool}
theorem dy(p:Nat)(hp:1<=p):eL B1 B2 h (p+1)=if jr B1 B2 h p then eL B1 B2 h p++[p]else eL B1 B2 h p:=by
 unfold eL;rw[ARn]
 grind
theorem zf:eL B1 B2 h 1=[]:=by simp[eL,ARn]
theorem bZ{p q:Nat}:q∈eL B1 B2 h p↔q<p/\1<=q/\jr B1 B2 h q=true:=by
 unfold eL;simp
theorem oL(p:Nat):(eL B1 B2 h p).Pairwise (·<·):=(List.pairwise_lt_range ).filter _
theorem ze(p:Nat):(eL B1 B2 h p).length<=p:=by
 exact AQJ (ARG _ _) (by simp)
theorem pe:∀{l:ASJ} {a:Nat},l.Pairwise (·<·)->(∀q∈l,q<=OG a l)/\(OG a l=a/\l=[]\/OG a l∈l)
 |[],a,_=>⟨λq hq=>(by grind),.inl ⟨rfl,rfl⟩⟩
 |x::l,a,hs=>by
  have e:OG a (x::l)=OG x l:=by cases l<;>rfl
  rw[List.pairwise_cons]at hs;obtain⟨h1,h2⟩:=pe (a:=x) hs.2
  grind
theorem b8{p:Nat}(hp:1<=p)(Tl:p<=B1.length)(vT:p=B1.length\/jr B1 B2 h p=true):Gap B1 B2 h (OG 0 (eL B1 B2 h p)) p:=by
 obtain⟨h1,h2⟩:=pe (a:=0) (oL (B1:=B1) (B2:=B2) (h:=h) p);refine⟨?_,Tl,λq hq1 hq2=>?_,?_,vT⟩
 ·rcases h2 with ⟨h2,_⟩|h2
  ·omega
  ·exact(bZ.1 h2).1
 ·cases hq:jr B1 B2 h q with
  |false=>rfl
  |true=>have:=h1 q (bZ.2 ⟨hq2,by omega,hq⟩);omega
 ·rcases h2 with ⟨h2,_⟩|h2
  ·omega
  ·exact .inr (bZ.1 h2).2.2
theorem rj:∀(n:Nat) {i:Nat} (hi:i<(eL B1 B2 h n).length),(eL B1 B2 h n).take i=eL B1 B2 h ((eL B1 B2 h n)[i])
 |0,i,hi=>by simp[eL]at hi
 |1,i,hi=>by rw[zf]at hi;simp at hi
 |n+2,i,hi=>by
  have es:=dy (B1:=B1) (B2:=B2) (h:=h) (n+1) (by omega);cases hq:jr B1 B2 h _ with
  |false =>
   rw[hq]at es;simp only[es]at hi⊢;exact rj _ hi
  |true =>
   rw[hq]at es;simp only[AQ2]at es;simp only[es]at hi⊢;rw[AQj,AQz]at hi;rcases AQq i _ with Bp |aS
   ·rw[ARl (by omega),List.getElem_append_left Bp];exact rj _ Bp
   grind
end
section
variable {d:ASL} {c:ASV} {B1 B2:ATU Bt}
theorem ah(hd:AE d)(hc:Dk d c)(h1:Bm d B1)(h2:Bm d B2)(hl:B1.length=B2.length)(BS:nc d B1 B2 (C0 c)){a b:Nat}(g:Gap B1 B2 (C0 c) a b):(∃i k,mZ d c B1 a b i k)/\∃i k,mZ d c B2 a b i k:=by
 have aT:∀q,a<q->q<b->Uj B1 (C0 c) q=false/\Uj B2 (C0 c) q=false:=λq q1 q2=>by
  have:=g.no q q1 q2;unfold jr at this;rwa [ARj]at this
 have AnI:∀q,1<=q->q<B1.length->jr B1 B2 (C0 c) q=true->(lh (JO B1 q)=true->Uj B1 (C0 c) q=true)/\(lh (JO B2 q)=true->Uj B2 (C0 c) q=true):=λq q1 q2 hq=>by
  have hs:=BS.2 q q1 q2;unfold jr at hq
  grind
 have Bp:=g.lt;have Tl:=g.le;constructor
 ·refine AbQ (B':=B2) hd hc h1 hl g.lt g.le (λq q1 q2=>(aT q q1 q2).1) ?_ ?_ λx hx=>BS.1 x (AQN _ hx)
  ·rcases AQD a with h0 |h0
   ·grind
   ·exact .inr (AnI a h0 (by omega) (g.fr.resolve_left (by omega))).1
  ·rcases g.to with e |e
   ·grind
   grind
 ·refine AbQ (B':=B1) hd hc h2 hl.symm g.lt (by omega) (λq q1 q2=>(aT q q1 q2).2) ?_ ?_ λx hx=>BS.1 x (AQO _ hx)
  ·rcases AQD a with h0 |h0
   ·grind
   ·exact .inr (AnI a h0 (by omega) (g.fr.resolve_left (by omega))).2
  ·rcases g.to with e |e
   ·grind
   grind
theorem wJ{B:ATU Bt}(h:Bm d B):1<=(AA B).length:=by
 rcases AQD _ with h0 |h0
 ·have e:AA B=[]:=AQ7 h0;have:=B9 B;rw[e]at this;have:=h.1;simp[Bh]at *;omega
 ·omega
theorem AJx{B:ATU Bt}(h:Bm d B):fst B 0=true:=by
 have hp:=wJ h;have:=(T3    (by omega) (CJ B _ (AK  (show 0<(AA B).length by omega)))).2.1;exact this
theorem nM(hd:AE d)(hc:Dk d c)(hb:YY c)(h1:Bm d B1)(h2:Bm d B2)(hl:B1.length=B2.length)(BS:nc d B1 B2 (C0 c)) :
    TU (fN B1) (fN B2) (c,()) (ji (SL d c d.length) (SL d c d.length).length)=some (ji (SL d c d.length) (SL d c d.length).length,PP (SL d c d.length) B1 B2 0 (eL B1 B2 (C0 c) B1.length++[B1.length])):=by
 unfold TU;have x7:=h1.1;have hn2:=h1.2.1;have pl:∀{B:ATU Bt},Bm d B->(Kn c (AA B) (AA B).length).length<=20000000/\1<=(Kn c (AA B) (AA B).length).length:=λ{B} h=>by
  have hlen:=CQ (CJ B);rw[B9]at hlen;have hbl:=h.2.1;have q1:(Kn c (AA B) (AA B).length).length<=4097*(AA B).length:=Ya λi hi=>AbJ hd hc (ZL h (AK hi)).1 _;refine⟨by omega,?_⟩;have hp:=wJ h;have:((Bh ((AA B).take 0):Nat):Int)∈Kn c (AA B) (AA B).length:=List.mem_flatMap.2 ⟨0,List.mem_range.2 (by omega),AQK⟩;exact List.length_pos_of_mem this
 have p1:=pl h1;have p2:=pl h2;rw[wN hd hc hb h1,AQf,wN hd hc hb h2,AQf,rb p1.2 (by omega) (by omega),AQf,AQx (by rw[AQj];omega),Aau h1,AQf];have hu:OI (RE (Kn c (AA B1) (AA B1).length++Kn c (AA B2) (AA B2).length))=(0::eL B1 B2 (C0 c) B1.length).map Int.ofNat:=by
  obtain⟨v1',v2'⟩:=iz (Kn c (AA B1) (AA B1).length++Kn c (AA B2) (AA B2).length);refine mf (λ_ _ h=>h) v1' ?_ λx=>?_
  ·rw[List.pairwise_map,List.pairwise_cons];refine⟨λq hq=>?_,(oL _).imp λ{a b} h=>?_⟩
   ·have:=(bZ.1 hq).2.1;show((0:Nat):Int)<(q:Int);omega
   ·show(a:Int)<(b:Int);omega
  ·rw[v2',ARL,pJ hd hc h1,pJ hd hc h2,List.mem_map];constructor
   ·intro hx;have:∃p:Nat,x=(p:Int)/\p<B1.length/\jr B1 B2 (C0 c) p=true:=by
     rcases hx with ⟨p,e,hp,hq⟩|⟨p,e,hp,hq⟩
     ·exact⟨p,e,hp,by unfold jr;rw[hq];rfl⟩
     ·exact⟨p,e,by omega,by unfold jr;rw[hq];simp⟩
    obtain⟨p,rfl,hp,hq⟩:=this;refine⟨p,?_,rfl⟩;rcases AQD p with h0 |h0
    ·rw[h0];exact AQK
    ·exact AQH _ (bZ.2 ⟨hp,h0,hq⟩)
   ·rintro⟨p,hp,rfl⟩
    rcases List.mem_cons.1 hp with rfl |hp
    ·exact .inl ⟨0,rfl,by omega,by unfold Uj;rw[AJx h1];rfl⟩
    ·obtain⟨q1,q2,q3⟩:=bZ.1 hp;unfold jr at q3;rw[ARA]at q3;rcases q3 with q3 |q3
     ·exact .inl ⟨p,rfl,q1,q3⟩
     ·exact .inr ⟨p,rfl,by omega,q3⟩
 rw[hu];generalize hE:eL B1 B2 (C0 c) B1.length=E;have hEl:E.length<=4096:=by rw[<-hE];have:=ze (B1:=B1) (B2:=B2) (h:=C0 c) B1.length;omega
 have dO:(((0::E).map Int.ofNat)++[(B1.length:Int)]).length=E.length+2:=by simp
 have hw:wI (((((0::E).map Int.ofNat)++[(B1.length:Int)]).length:Int)-1)=((E.length+1:Nat):Int):=AZ (by rw[dO];omega) (by omega);rw[AQx (by simp;omega),hw,AQx ⟨by omega,by omega,by rw[dO];omega⟩,AQg,AR8];have ht:((((0::E).map Int.ofNat)++[(B1.length:Int)]).take (E.length+1))=(0::E).map Int.ofNat:=by
  rw[ARl (by simp)];exact AQp (by simp)
 rw[ht];have rO:(((0::E).map Int.ofNat).length:Int)=((E.length+1:Nat):Int):=by simp
 rw[rO];have vJ:Rk (fN B1) (fN B2) (((0::E).map Int.ofNat)++[(B1.length:Int)]) ((0::E).map Int.ofNat) ((E.length+1:Nat):Int) 0 (ji (SL d c d.length) (SL d c d.length).length) []=some (ji (SL d c d.length) (SL d c d.length).length,PP (SL d c d.length) B1 B2 0 (E++[B1.length])):=by
  unfold Rk;have:=AP (f:=G9 (fN B1) (fN B2) (((0::E).map Int.ofNat)++[(B1.length:Int)]) ((0::E).map Int.ofNat) ((E.length+1:Nat):Int)) (λi=>((i:Int),ji (SL d c d.length) (SL d c d.length).length,PP (SL d c d.length) B1 B2 0 ((E++[B1.length]).take i))) (t:=(ji (SL d c d.length) (SL d c d.length).length,PP (SL d c d.length) B1 B2 0 (E++[B1.length]))) (E.length+1) (λi hi=>?_) ?_
  ·exact this
  ·unfold G9 NZ;have AN0:(E++[B1.length]).length=E.length+1:=by simp
   obtain⟨p,hp⟩:∃p,p=(E++[B1.length]).getD i 0:=⟨_,rfl⟩;have ka:((0::E).map Int.ofNat).getD i ATE.zero=((OG 0 ((E++[B1.length]).take i):Nat):Int):=by
    match i,hi with
    |0,_=>rfl
    |j+1,hj =>
     have hjE:j<E.length:=by omega
     have e1:((0::E).map Int.ofNat).getD (j+1) ATE.zero=((E.getD j 0:Nat):Int):=by simp[List.getD,hjE]
     rw[e1,ARl (by omega),AY (z:=0) hjE];rw[show OG 0 (E.take j++[E.getD j 0])=E.getD j 0 from List.getLastD_concat]
   have kb:(((0::E).map Int.ofNat)++[(B1.length:Int)]).getD (i+1) ATE.zero=(p:Int):=by
    rw[hp];have e1:((0::E).map Int.ofNat)++[(B1.length:Int)]=0::(E++[B1.length]).map Int.ofNat:=by simp
    rw[e1];simp only[List.getD,List.getElem?_cons_succ,AQI];have:(E++[B1.length])[i]?=some ((E++[B1.length])[i]'(by omega)):=ARo (by omega);rw[this];rfl
   have gap:Gap B1 B2 (C0 c) (OG 0 ((E++[B1.length]).take i)) p:=by
    rcases AQq i E.length with Bp |aS
    ·have hpe:p=E[i]:=by rw[hp];simp only[List.getD];rw[AQC Bp,ARo Bp];rfl
     have hm:p∈E:=by rw[hpe];exact AQX Bp
     rw[<-hE]at hm;obtain⟨m1,m2,m3⟩:=bZ.1 hm;have ht2:(E++[B1.length]).take i=eL B1 B2 (C0 c) p:=by
      rw[ARl (by omega),hpe];subst hE;exact rj _ Bp
     rw[ht2];exact b8 m2 (by omega) (.inr m3)
    ·have hie:i=E.length:=by omega
     have hpe:p=B1.length:=by rw[hp,hie];simp[List.getD]
     have ht2:(E++[B1.length]).take i=eL B1 B2 (C0 c) p:=by
      rw[hie,ARl (AQl _),AQp (AQl _),<-hE,hpe]
     rw[ht2];exact b8 (by omega) (by omega) (.inl hpe)
   obtain⟨⟨i1,k1,s1⟩,⟨i2,k2,s2⟩⟩:=ah hd hc h1 h2 hl BS gap;obtain⟨r1,a1,a2,a3⟩:=gU hd h1 s1;obtain⟨r2,b1,b2,b3⟩:=gU hd h2 s2;have hgl:=gap.lt;have AOu:=gap.le;have hwd:wI ((p:Int)-((OG 0 ((E++[B1.length]).take i):Nat):Int))=((p-OG 0 ((E++[B1.length]).take i):Nat):Int):=AZ;have hi1:wI ((i:Int)+1)=((i+1:Nat):Int):=AZ;simp only[hi1,AQg,ka,kb,hwd];have hPl:(PP (SL d c d.length) B1 B2 0 ((E++[B1.length]).take i)).length<=5000:=by rw[qz,AQA];omega
   rw[show decide ((i:Int)<((E.length+1:Nat):Int))=true from LL,AQv,AQr,AQx (Bj (by simp;omega)),AQx (Bj (by simp;omega))];rw[<-AQw,a1,AQf];simp only[a2];rw[<-AQw,b1,AQf,AQx (by simp only[AQj,ARe,ASg];omega)];simp only[b2,a3,b3];rw[AY (z:=0) (by omega),UX,<-hp];rfl
  ·unfold G9 NZ;simp only;rw[DU,AQu,AQp (by simp)]
 rw[vJ];rfl
def eX(B1 B2:ATU Bt)(h:Nat->Nat->Bool)(p:Nat):ASJ:=if p<=B1.length then eL B1 B2 h p else eL B1 B2 h B1.length++[B1.length]
theorem oc(hd:AE d)(hc:Dk d c)(h1:Bm d B1)(h2:Bm d B2)(hl:B1.length=B2.length)(BS:nc d B1 B2 (C0 c)) :
    Ms (M d 1 (C0 c)) (NM d (SL d c d.length) (SL d c d.length).length) (SL d c d.length) (bV B1) (YI (AA B1)) (bV B2) (YI (AA B2)) 0 1 []=some (.inr (PP (SL d c d.length) B1 B2 0 (eL B1 B2 (C0 c) B1.length++[B1.length]))):=by
 unfold Ms;have x7:=h1.1;have hn2:=h1.2.1;have:=AP (f:=Eo (M d 1 (C0 c)) (NM d (SL d c d.length) (SL d c d.length).length) (SL d c d.length) (bV B1) (YI (AA B1)) (bV B2) (YI (AA B2))) (λj=>(((OG 0 (eX B1 B2 (C0 c) (j+1)):Nat):Int),((j+1:Nat):Int),PP (SL d c d.length) B1 B2 0 (eX B1 B2 (C0 c) (j+1)))) (t:=.inr (PP (SL d c d.length) B1 B2 0 (eL B1 B2 (C0 c) B1.length++[B1.length]))) B1.length (λj hj=>?_) ?_
 ·have e0:eX B1 B2 (C0 c) (0+1)=[]:=by unfold eX;rw[VI];exact zf
  simp only[e0]at this;exact this
 ·unfold Eo JI;have eX1:eX B1 B2 (C0 c) (j+1)=eL B1 B2 (C0 c) (j+1):=by unfold eX;rw[VI]
  have hPl:(PP (SL d c d.length) B1 B2 0 (eL B1 B2 (C0 c) (j+1))).length<=5000:=by rw[qz];have:=ze (B1:=B1) (B2:=B2) (h:=C0 c) (j+1);omega
  simp only[eX1];rw[CM,show decide (((j+1:Nat):Int)<=(B1.length:Int))=true from LL,AQv];by_cases Aho:j+1=B1.length\/jr B1 B2 (C0 c) (j+1)=true
  ·have e7:EV (M d 1 (C0 c)) (NM d (SL d c d.length) (SL d c d.length).length) (SL d c d.length) ((OG 0 (eL B1 B2 (C0 c) (j+1)):Nat):Int) ((j+1:Nat):Int) (PP (SL d c d.length) B1 B2 0 (eL B1 B2 (C0 c) (j+1))) (bV B1) (YI (AA B1)) (bV B2) (YI (AA B2))=some (.inr ()):=by
     unfold EV;rw[CM];rcases AQq (j+1) B1.length with Bp |aS
     ·have hq:=Aho.resolve_left (by omega);unfold jr at hq;rw[show decide (((j+1:Nat):Int)<(B1.length:Int))=true from LL,AQv,S4 hd h1 Bp,AQf];cases hA:Uj B1 (C0 c) (j+1)with
      |true=>rfl
      |false =>
       rw[hA,ASq]at hq;rw[ARK,AQv,S4 hd h2 (by omega),AQf,hq];rfl
     ·rw[show decide (((j+1:Nat):Int)<(B1.length:Int))=false from Ic,AQu]
   have gap:=b8 (B1:=B1) (B2:=B2) (h:=C0 c) (show 1<=j+1 by omega) (by omega) Aho;obtain⟨⟨i1,k1,s1⟩,⟨i2,k2,s2⟩⟩:=ah hd hc h1 h2 hl BS gap;obtain⟨r1,a1,a2,a3⟩:=iu hd h1 s1;obtain⟨r2,b1,b2,b3⟩:=iu hd h2 s2;have hgl:=gap.lt;have hwd:wI (((j+1:Nat):Int)-((OG 0 (eL B1 B2 (C0 c) (j+1)):Nat):Int))=((j+1-OG 0 (eL B1 B2 (C0 c) (j+1)):Nat):Int):=AZ;unfold Ka Po;rw[e7,AQf];simp only[ARi];rw[a1,AQf,b1,AQf];simp only[a2,b2,hwd,AQZ,Bool.or_false,AQu];rw[AQx (by simp only[AQj,ARe,ASg];omega),AQf];simp only[ARy,a3,b3];have eX2:eX B1 B2 (C0 c) (j+1+1)=eL B1 B2 (C0 c) (j+1)++[j+1]:=by
    unfold eX;rcases AQq (j+1) B1.length with Bp |aS
    ·rw[VI,dy _ (by omega),AQx (Aho.resolve_left (by omega))]
    ·rw[Q4,show B1.length=j+1 by omega]
   rw[eX2,UX,AZ (x:=((j+1:Nat):Int)+1) (n:=j+1+1)];have:OG 0 (eL B1 B2 (C0 c) (j+1)++[j+1])=j+1:=by unfold OG;simp
   rw[this];rfl
  ·have Ahp:j+1<B1.length/\jr B1 B2 (C0 c) (j+1)=false:=by
     rw[not_or]at Aho;exact⟨by omega,by simpa using Aho.2⟩
   have hq:=Ahp.2;unfold jr at hq;rw[ARj]at hq;have e7:EV (M d 1 (C0 c)) (NM d (SL d c d.length) (SL d c d.length).length) (SL d c d.length) ((OG 0 (eL B1 B2 (C0 c) (j+1)):Nat):Int) ((j+1:Nat):Int) (PP (SL d c d.length) B1 B2 0 (eL B1 B2 (C0 c) (j+1))) (bV B1) (YI (AA B1)) (bV B2) (YI (AA B2))=some (.inl ()):=by
    unfold EV;rw[CM,show decide (((j+1:Nat):Int)<(B1.length:Int))=true from LL,AQv,S4 hd h1 Ahp.1,AQf,hq.1,ARK,AQv,S4 hd h2 (by omega),AQf,hq.2];rfl
   unfold Ka;rw[e7,AQf];simp only[ARy];rw[AQf];simp only[ARy];have eX2:eX B1 B2 (C0 c) (j+1+1)=eL B1 B2 (C0 c) (j+1):=by
    unfold eX;rw[VI,dy _ (by omega),Ahp.2];rfl
   rw[eX2,AZ (x:=((j+1:Nat):Int)+1) (n:=j+1+1)]
 ·unfold Eo JI;have eX1:eX B1 B2 (C0 c) (B1.length+1)=eL B1 B2 (C0 c) B1.length++[B1.length]:=by unfold eX;rw[Q4]
  simp only[eX1];rw[CM,show decide (((B1.length+1:Nat):Int)<=(B1.length:Int))=false from Ic,AQu]
end
end Go.Proofs.X
namespace Go.Proofs.X
open Go Go.Va
set_option maxRecDepth 100000
theorem nL{d:ASL}{t:ASP}(hd:AE d)(ht:L0 t):TS d (t,())=some (DV d t):=by
 unfold TS;have AJZ:=hd.1;rw[MX ht (by omega),AQf];by_cases hw:∃ws,OD d t ws
 ·obtain⟨ws,h⟩:=hw;have hp:=p9 h;rw[Ic,AQu,VK hd ht h];rfl
 ·rw[Wq hw,LL,AQv];unfold DV;rw[AQy (λh=>hw h.1)]
section
end
end Go.Proofs.X
namespace Go.Va
open Go.Proofs.X
theorem AwN{A B:Type}{F:A->Int->ATV Int}{G:B->Int->ATV Int}{x:A}{y:B}{m n:Nat}(hF:∀left:Int,0<=left->left<=1048576->F x left=some (if(m:Int)<=left then left-(m:Int)else -1))(hG:∀left:Int,0<=left->left<=1048576->G y left=some (if(n:Int)<=left then left-(n:Int)else -1)){left:Int}(h0:0<=left)(h1:left<=1048576) :
    ((F x left).bind λc=>bif decide (c<0)then some (-1)else(G y c).bind λd=>bif decide (d<0)then some (-1)else some d)=some (if((m+n:Nat):Int)<=left then left-((m+n:Nat):Int)else -1):=by
 grind
theorem AwM{A:Type}{F:A->Int->ATV Int}{x:A}{m:Nat}(hF:∀left:Int,0<=left->left<=1048576->F x left=some (if(m:Int)<=left then left-(m:Int)else -1)){left:Int}(h0:0<=left)(h1:left<=1048576) :
    ((F x left).bind λc=>bif decide (c<0)then some (-1)else some c)=some (if(m:Int)<=left then left-(m:Int)else -1):=by
 grind
theorem AmP{m:Nat}{left:Int}(h0:0<=left)(h1:left<=1048576)(hn:m<=maxLen):(bif decide ((wI (left-(m:Int)))<0)then(-1)else wI (left-(m:Int)))=if(m:Int)<=left then left-(m:Int)else -1:=by
 unfold maxLen at hn;rw[BH]
 grind
theorem mn{A E:Type}{F:A->ATV E}{mk:E->A}{z z0:A}{r:Int×ATU A->ATV ((Int×ATU A)⊕ATU A)}{a:ATU A}
    (hr:∀x,r x=bif decide (x.1<(a.length:Int))then(if(0:Int)<=x.1/\x.1<(a.length:Int)then(F (a.getD x.1.toNat z)).bind λe=>(if(0:Int)<=x.1/\x.1<(x.2.length:Int)then some (.inl (wI (x.1+1),x.2.set x.1.toNat (mk e)))else none)else none)else some (.inr x.2))
    (hn:a.length<=1048576) (hF:∀x∈a,∃e,F x=some e/\mk e=x):fix r (0,List.replicate a.length z0)=some a:=by
 have:=AP (f:=r) (λk=>(k,Go.Proofs.X.CO (λi=>a.getD i z) z0 _ k))  a.length (λk hk=>by
  rw[hr];obtain⟨e,he,hm⟩:=hF (a.getD k z) (by grind);rw[C9 hk,AQv,AQx (Bj hk),AQg,he,AQf,Go.Proofs.X.Im,AQx (Bj hk),hm];rw[show wI _=((k+1:Nat))from Go.Proofs.X.Bl hk hn,Go.Proofs.X.QA (λi=>a.getD i z) z0]) (by
  rw[hr];rw[DU,AQu,Go.Proofs.X.kI])
 have h :=this;rw[Go.Proofs.X.MW]at h;exact h
end Go.Va
namespace Go.Proofs.X
open Go Go.Va
set_option maxRecDepth 100000
theorem Ad5{a:ASv}(h:Ty.Wf Ab a):iF Ab (λx l=>some (Km x l)) a:=λleft h0 h1=>by
 show some _=_;unfold Km;rw[AmP h0 h1 h.1];rfl
theorem Aaj{a:ASL}(h:Ty.Wf (.sl Ab) a):iF (.sl Ab) Vf a :=
 Aak  (r:=Mi) (λ_ _=>rfl) (λ_ _=>rfl) h.1 λx hx=>Ad5 (h.2 x hx)
theorem Ad4{a:ASA}(h:Ty.Wf Ai a):iF Ai (λx l=>some (Dz x l)) a:=λleft h0 h1=>by
 have hu:=ta h.2.1.1 left h0 h1;have e:wt _ a=wt _ a.2.1:=by show 0+(_+0)=_;omega
 show some _=_;unfold Dz
 grind
theorem Aal{a:ASz}(h:Ty.Wf Ah a):iF Ah (λx l=>some (IQ x l)) a:=λleft h0 h1=>by
 have hb:=Ad4 h.2.2.2.2.1 left h0 h1;have zo :=Option.some.inj hb;have hi :=λl h0 h1=>Option.some.inj (xq h.2.2.2.2.2.1.1 l h0 h1);have e:wt _ a=wt _ a.2.2.2.2.1+wt _ a.2.2.2.2.2.1:=by show 0+(0+(0+(0+(_+(_+0)))))=_;omega
 show some _=_;unfold IQ
 grind
theorem xr{a:ASP}(h:Ty.Wf (.sl Ah) a):iF (.sl Ah) Tx a :=
 Aak  (r:=KN) (λ_ _=>rfl) (λ_ _=>rfl) h.1 λx hx=>Aal (h.2 x hx)
theorem gu{a:ASD}(h:Ty.Wf An a):iF An QI a:=λleft h0 h1 =>
 AwM   (xr h.1) h0 h1
theorem s9{a:ASx}(h:Ty.Wf Af a):iF Af Rt a:=λleft h0 h1=>by
 have e:wt _ a=wt _ a.2.2.1+wt _ a.2.2.2.1:=by show 0+(0+(_+(_+0)))=_;omega
 rw[e];exact AwN   (gu h.2.2.1) (gu h.2.2.2.1) h0 h1
theorem og{a:ASN}(h:Ty.Wf (.sl Af) a):iF (.sl Af) PN a :=
 Aak   (λ_ _=>rfl) (λ_ _=>rfl) h.1 λx hx=>s9 (h.2 x hx)
theorem tz{t:Ty}(a:ATU t.V):a.length<=wt (.sl t) a:=Nat.le_add_right _ _
theorem Ajz{t:Ty}{a:ATU t.V}{x:t.V}(h:x∈a):wt t x<=wt (.sl t) a:=by
 show _<=a.length+(a.map _).sum;have:∀l:ATU t.V,x∈l->wt t x<=(l.map (wt t)).sum:=λl hl=>by
  induction l with
  |nil=>grind
  |cons y l ih =>
   grind
 have:=this a h;omega
theorem AwA{n:ASz}(hw:Ty.Wf Ah n)(h:wt Ah n<=1048576):Y9 n:=by
 have e:wt _ n=wt (.sl (.int .u64)) (ib n)+wt (.sl (.int .i64)) (AL n):=by show 0+(0+(0+(0+((0+(_+0))+(_+0)))))=_;unfold ib AL;omega
 rw[e,Aaw,Aav]at h;exact⟨by omega,by omega,Ajy hw.2.2.2.2.1.2.1.2⟩
theorem Aan{t:ASD}(hw:Ty.Wf An t)(h:wt An t<=1048576):L0 t.1:=by
 have e:wt _ t=wt _ t.1:=rfl;exact⟨AQJ (tz t.1) h,λn hn=>AwA (hw.1.2 n hn) (AQJ (Ajz hn) h)⟩
theorem AG9{x:ASx}(hw:Ty.Wf Af x)(h:wt Af x<=1048576):Kr x:=by
 have e:wt _ x=wt _ x.2.2.1+wt _ x.2.2.2.1:=by show 0+(0+(_+(_+0)))=_;omega
 exact⟨Aan hw.2.2.1 (by omega),Aan hw.2.2.2.1 (by omega)⟩
theorem Aap{a:ASL}(h:a.length<=1048576):IR a=some a:=by
 unfold IR Ux;rw[AQx ⟨rfl,by omega,by omega,by omega,by omega⟩,AQg,mn (r:=Mj a) (F:=λx=>some (WM x)) (mk:=λe=>(e.1,e.2,()))  (λ_=>rfl) h (λx _=>⟨_,rfl,rfl⟩)];rfl
theorem tj{a:ASH}(h:a.length<=1048576):J6 a=some a:=by
 unfold J6 Rv;rw[AQx ⟨rfl,by omega,by omega,by omega,by omega⟩,AQg,mn (r:=JF a)  (mk:=λe=>e)  (λ_=>rfl) h (λx _=>⟨_,rfl,rfl⟩)];rfl
theorem xy{a:ASH}(h:a.length<=1048576):LF a=some a:=by
 unfold LF SV;rw[AQx ⟨rfl,by omega,by omega,by omega,by omega⟩,AQg,mn (r:=KO a)  (mk:=λe=>e)  (λ_=>rfl) h (λx _=>⟨_,rfl,rfl⟩)];rfl
theorem xA{a:ASP}(h:L0 a):Pk a=some a:=by
 unfold Pk SX;have hl:=h.1;rw[AQx ⟨rfl,by omega,by omega,by omega,by omega⟩,AQg,mn (r:=KP a) (F:=Ru)   (λ_=>rfl) hl (λx hx=>by
  have hn:=h.2 x hx;unfold Ru WL;rw[show J6 _=some x.2.2.2.2.1.2.1 from tj hn.2.1,show LF _=some x.2.2.2.2.2.1 from xy hn.1];exact⟨_,rfl,rfl⟩)]
 rfl
theorem gw{t:ASD}(h:L0 t.1):G2 t=some t.1:=by
 unfold G2;rw[xA h];rfl
theorem oh{a:ASN}(hl:a.length<=1048576)(h:∀x∈a,Kr x):Ew a=some a:=by
 unfold Ew Qp;rw[AQx ⟨rfl,by omega,by omega,by omega,by omega⟩,AQg,mn (r:=IU a) (F:=Nm)   (λ_=>rfl) hl (λx hx=>by
  unfold Nm;rw[gw (h x hx).1,gw (h x hx).2];exact⟨_,rfl,rfl⟩)]
 rfl
end Go.Proofs.X
namespace Go.Va
open Go.Proofs.X
def Ch{A:Type}(H:Int->A->Int->Prop):ATU A->Int->Int->Prop
 |[],k,k'=>k=k'
 |x::xs,k,k'=>∃m,H k x m/\Ch H xs m k'
section
variable {A:Type} {H:Int->A->Int->Prop}
theorem Aa6{x:A}:∀{l:ATU A} {k k' m:Int},Ch H l k m->H m x k'->Ch H (l++[x]) k k'
 |[],_,_,_,h1,h2=>by cases h1;exact⟨_,h2,rfl⟩
 |_::_,_,_,_,⟨n,h0,h1⟩,h2=>⟨n,h0,Aa6 h1 h2⟩
theorem gsS{d:ATU A}{i:Nat}{x z:A}(h:i<d.length):(d.set i x).getD i z=x:=by simp[List.getD,h]
theorem oe{cost:A->Nat}{a:ATU A}{z:A}{i:Nat}(h:i<a.length):((a.take (i+1)).map cost).sum=((a.take i).map cost).sum+cost (a.getD i z):=by
 rw[AQ9 h,AQY,AR4];simp[List.getD,h]
theorem xo{cost:A->Nat}{a:ATU A}{i:Nat}:((a.take i).map cost).sum<=(a.map cost).sum:=by
 conv=>rhs;rw[<-ARp i a,AQY,AR4]
 omega
theorem gq{c:Nat}(l:ATU A):(l.map λ_=>c).sum=c*l.length:=by
 induction l with
 |nil=>rfl
 |cons x l ih=>rw[AQ0,ARV,ih,ARe,Nat.mul_succ];omega
theorem XN{f:Int×Int×ATU A->ATV ((Int×Int×ATU A)⊕(Int×ATU A))}{cost:A->Nat}{z:A}{a:ATU A}{k:Int}(M:Int)
    (hs:∀b i (d:ATU A),i<a.length->d.length=a.length->d.getD i z=a.getD i z->0<=b->b+(cost (a.getD i z):Int)<=M ->
     Az (f (b,(i:Int),d)) λr=>∃b' x',r=.inl (b',((i+1:Nat):Int),d.set i x')/\b<=b'/\b'<=b+(cost (a.getD i z):Int)/\H b x' b')
    (he:∀b (d:ATU A),d.length=a.length->f (b,(a.length:Int),d)=some (.inr (b,d))) (h0:0<=k) (hM:k+(((a.map cost).sum:Nat):Int)<=M) :
    Az (fix f (k,0,a)) λr=>k<=r.1/\r.1<=k+(((a.map cost).sum:Nat):Int)/\r.2.length=a.length/\Ch H r.2 k r.1:=by
 refine Bu (λm (x:Int×Int×ATU A)=>∃i:Nat,i<=a.length/\m=a.length-i/\x.2.1=(i:Int)/\x.2.2.length=a.length/\Ch H (x.2.2.take i) k x.1/\(∀j,i<=j->x.2.2.getD j z=a.getD j z)/\k<=x.1/\x.1<=k+((((a.take i).map cost).sum:Nat):Int)) (λm x hI=>?_) a.length _ ⟨0,AQ1 _,rfl,rfl,rfl,by simp[Ch],λ_ _=>rfl,by simp,by simp⟩;obtain⟨b,c,d⟩:=x;obtain⟨i,hi,rfl,h1,h2,h3,h4,h5,h6⟩:=hI;simp only at h1 h2 h3 h4 h5 h6;subst h1;rcases AQq i a.length with h |h
 ·have AhQ:=oe (cost:=cost) (z:=z) h;have Tl:=xo (cost:=cost) (a:=a) (i:=i+1);refine(hs b i d h h2 (h4 i (AQl _)) (by omega) (by omega)).mono λr hr=>?_;obtain⟨b',x',rfl,iK,vA,hH⟩:=hr;refine⟨a.length-(i+1),by omega,i+1,h,rfl,rfl,by rw[AQo];exact h2,?_,λj hj=>?_,by show k<=b';omega,by show b'<=_;omega⟩
  ·show Ch H ((d.set i x').take (i+1)) k b';rw[AQ9 (by rw[AQo];omega),List.take_set_of_le (AQl _)];simp only[List.getElem_set_self];exact Aa6 h3 hH
  ·show(d.set i x').getD j z=_;rw[<-h4 j (by omega)];simp only[List.getD,AQE,show ¬i=j by omega,ARH]
 ·have:i=a.length:=by omega
  subst this;rw[he b d h2];rw[AQp (by omega)]at h3;rw[AQp (AQl _)]at h6;exact Az.mk ⟨h5,h6,h2,h3⟩
theorem Ac2{f:Int×Int->ATV (AS7⊕(Int⊕Int))}{z:A}{a:ATU A}(hs:∀i b b',i<a.length->H b (a.getD i z) b'->f (b,(i:Int))=some (.inl (b',((i+1:Nat):Int))))(he:∀b,f (b,(a.length:Int))=some (.inr (.inr b))){k k':Int}(h:Ch H a k k'):fix f (k,0)=some (.inr k'):=by
 have:∀(l:ATU A) (i:Nat) (b:Int),a.drop i=l->i+l.length=a.length->Ch H l b k'->fix f (b,(i:Int))=some (.inr k'):=λl=>by
  induction l with
  |nil =>
   intro i b h1 h2 h3;have h3:b=k':=h3;subst h3;have:i=a.length:=by simpa using h2
   rw[this];exact Ix (he b)
  |cons x l ih =>
   intro i b h1 h2 h3;obtain⟨m,h3,h4⟩:=h3;simp only[ARe]at h2;have hi:i<a.length:=by omega
   rw[AR7 hi]at h1;injection h1 with h1 h5;have hx:a.getD i z=x:=by rw[<-h1];simp[List.getD,hi]
   rw[Li (hs i b m hi (by rw[hx];exact h3))];exact ih (i+1) m h5 (by omega) h4
 exact this a 0 k rfl (by simp) h
end
end Go.Va
namespace Go.Proofs.X
open Go Go.Va
set_option maxRecDepth 100000
theorem w1{b:Int}(h0:0<=b)(h1:b<=2305843009213693952):wI (b+1)=b+1:=BH
def Hu(b x b':Int):Prop:=x=IntKind.u64.wrap b/\b'=b+1/\0<=b/\b'<=2305843009213693952
def tW{A:Type}(H:Int->A->Int->Prop)(a:ATU A)(n:Nat)(k:Int)(r:Int×ATU A):Prop:=k<=r.1/\r.1<=k+(n:Int)/\r.2.length=a.length/\Ch H r.2 k r.1
theorem lC{a:ASH}(hn:a.length<=1048576){k:Int}(h0:0<=k)(hk:k+(a.length:Int)<=2305843009213693952):Az (He k a) (tW Hu a a.length k):=by
 unfold He OW;have hc:(a.map λ_=>1).sum=a.length:=by rw[gq];omega
 have:=XN (f:=Dj) (cost:=λ_=>1) (z:=(0:Int)) (a:=a) (H:=Hu) (k:=k) 2305843009213693952 (λb i d hi hd hg xY hb=>by
  unfold Dj H7
  try simp only
  try simp only at hb
  rw[hd,C9 hi,AQv,AQx (Bj hi),AQg,w1 xY (by omega),Bl hi hn];exact Az.mk ⟨b+1,_,rfl,by omega,by omega,rfl,rfl,xY,by omega⟩) (λb d hd=>by
  unfold Dj H7
  try simp only
  rw[hd,DU,AQu]) h0 (by rw[hc];exact hk)
 rw[hc]at this;exact this.bind λr hr=>Az.mk hr
def Hi(b x b':Int):Prop:=x=b/\b'=b+1/\0<=b/\b'<=2305843009213693952
theorem bz{a:ASH}(hn:a.length<=1048576){k:Int}(h0:0<=k)(hk:k+(a.length:Int)<=2305843009213693952):Az (FY k a) (tW Hi a a.length k):=by
 unfold FY Nf;have hc:(a.map λ_=>1).sum=a.length:=by rw[gq];omega
 have:=XN (f:=C2) (cost:=λ_=>1) (z:=(0:Int)) (a:=a) (H:=Hi) (k:=k) 2305843009213693952 (λb i d hi hd hg xY hb=>by
  unfold C2 GN
  try simp only
  try simp only at hb
  rw[hd,C9 hi,AQv,AQx (Bj hi),AQg,w1 xY (by omega),Bl hi hn];exact Az.mk ⟨b+1,_,rfl,by omega,by omega,rfl,rfl,xY,by omega⟩) (λb d hd=>by
  unfold C2 GN
  try simp only
  rw[hd,DU,AQu]) h0 (by rw[hc];exact hk)
 rw[hc]at this;exact this.bind λr hr=>Az.mk hr
theorem nG{a:ASH}(hn:a.length<=1048576){k k':Int}(h:Ch Hi a k k'):Iq a k=some k':=by
 unfold Iq Qn;rw[Ac2 (f:=Dy a) (z:=(0:Int)) (H:=Hi) (λi b b' hi hH=>by
  unfold Dy IE
  try simp only
  obtain⟨h1,h2,h3,h4⟩:=hH;rw[C9 hi,AQv,AQx (Bj hi),AQg,show(Ty.zero ATE:Int)=0 from rfl,h1,ARD,AQu,w1 h3 (by omega),Bl hi hn,h2]) (λb=>by
  unfold Dy IE
  try simp only
  rw[DU,AQu]) h]
 rfl
theorem wz(k:Int)(h1:k<=2305843009213693952):Az (Pj k) λ_=>True:=by
 unfold Pj;refine Az.cond (λ_=>Az.mk trivial) λh=>?_;have hk:0<k:=by simpa using h
 refine Az.bind (P:=λs=>s.size<=100) ?_ λs hs=>?_
 ·unfold SU;refine Bu (λm (x:Int×ByteArray)=>∃j n:Nat,j<=70/\m=70-j/\x.1=(n:Int)/\n*2^j<=2^62/\x.2.size=j) (λm x hI=>?_) 70 _ ⟨0,k.toNat,by omega,rfl,by show k=_;omega,by rw[Nat.pow_zero];omega,rfl⟩;obtain⟨b,c⟩:=x;obtain⟨j,n,hj,rfl,xY,iK,hc⟩:=hI;simp only at xY iK hc;subst xY;unfold KM Qo;simp only;refine Az.cond (λhb=>?_) λ_=>Az.mk (by show c.size<=100;omega);have hb:(n:Int)>0:=ASi hb;have hp:1<=2^j:=Nat.one_le_two_pow;have Ahj:n*1<=n*2^j:=Nat.mul_le_mul_left _ hp;have hj2:j<=62:=by
   rcases AQq 62 j with h |h
   ·exfalso
    have h2:2^63<=2^j:=Nat.pow_le_pow_right (by omega) (by omega);have h3:1*2^j<=n*2^j:=AQ8 _ (by omega);omega
   ·exact h
  rw[AQx (by show(1:Nat)+c.size<=_;omega)];have hd:Int.tdiv (n:Int) 10=((n/10:Nat):Int):=rfl;rw[hd,BH];refine Az.mk ⟨70-(j+1),by omega,j+1,n/10,by omega,rfl,rfl,?_,?_⟩
  ·have h4:n/10*2<=n:=by omega
   have h5:=AQ8 (2^j) h4;rw[Nat.pow_succ,Nat.mul_comm (2^j) 2,<-Nat.mul_assoc];omega
  ·show(bytesOf [_]++c).size=j+1;rw[ByteArray.size_append,hc];show 1+j=_;omega
 ·rw[AQx (by show(1:Nat)+s.size<=_;omega)];exact Az.mk trivial
theorem sw{a:ASL}(hn:a.length<=1048576){k:Int}(h0:0<=k)(hk:k+((2*a.length:Nat):Int)<=2305843009213693952):Az (Nc k a) (tW (λ_ _ _=>True) a (2*a.length) k):=by
 unfold Nc Rq;have hc:(a.map λ_=>2).sum=2*a.length:=gq a;have:=XN (f:=El) (cost:=λ_=>2) (z :=Ab.zero) (a:=a) (H:=λ_ _ _=>True) (k:=k) 2305843009213693952 (λb i d hi hd hg xY hb=>by
  unfold El JE
  try simp only
  try simp only at hb
  rw[hd,C9 hi,AQv];refine(wz b (by omega)).bind λs _=>?_;have Y4:i<d.length:=by omega
  simp only[AQo,hd,AQg,gsS Y4,ASk];rw[AQx (Bj hi),AQx (Bj hi),w1 xY (by omega),w1 (by omega) (by omega),Bl hi hn];exact Az.mk ⟨b+1+1,_,rfl,by omega,by omega,trivial⟩) (λb d hd=>by
  unfold El JE
  try simp only
  rw[hd,DU,AQu]) h0 (by rw[hc];exact hk)
 rw[hc]at this;exact this.bind λr hr=>Az.mk hr
def dn(n:ASz):Nat:=5+(ib n).length+(AL n).length
theorem W9{a:ASP}(hn:L0 a){k:Int}(h0:0<=k)(hk:k+(((a.map dn).sum:Nat):Int)<=2305843009213693952):Az (D1 k a) (tW (λ_ _ _=>True) a (a.map dn).sum k):=by
 unfold D1 Nh;have hl:=hn.1;have:=XN (f:=C4) (cost:=dn) (z :=Ah.zero) (a:=a) (H:=λ_ _ _=>True) (k:=k) 2305843009213693952 (λb i d hi hd hg xY hb=>by
  unfold C4 GR IP IL IK;simp only;have Y4:i<d.length:=by omega
  have vL:Y9 (a.getD i Ah.zero):=hn.2 _ (AK hi);unfold dn at hb;rw[hd,C9 hi,AQv];simp(disch:=omega) only[w1,AQo,hd,AQg,gsS Y4,ASk,AQx (Bj hi),AQf,AQw];rw[hg];refine(lC (a:=ib (a.getD i Ah.zero)) vL.2.1 (by omega) (by omega)).bind λr hr=>?_;obtain⟨r1,r2,_,_⟩:=hr;refine(bz (a:=AL (a.getD i Ah.zero)) vL.1 (by omega) (by omega)).bind λq hq=>?_;obtain⟨q1,q2,_,_⟩:=hq;exact Az.mk ⟨q.1,_,rfl,by omega,by unfold dn;omega,trivial⟩) (λb d hd=>by
  unfold C4 GR
  try simp only
  rw[hd,DU,AQu]) h0 hk
 exact this.bind λr hr=>Az.mk hr
def kv(t:ASP):Nat:=(t.map dn).sum
def ku(x:ASx):Nat:=2+kv x.2.2.1.1+kv x.2.2.2.1.1
theorem iR{a:ASN}(hl:a.length<=1048576)(hn:∀x∈a,Kr x){k:Int}(h0:0<=k)(hk:k+(((a.map ku).sum:Nat):Int)<=2305843009213693952):Az (IG k a) (tW (λ_ _ _=>True) a (a.map ku).sum k):=by
 unfold IG Ng;have:=XN (f:=C3) (cost:=ku) (z :=Af.zero) (a:=a) (H:=λ_ _ _=>True) (k:=k) 2305843009213693952 (λb i d hi hd hg xY hb=>by
  unfold C3 GQ IJ II IH;simp only;have Y4:i<d.length:=by omega
  have vL:Kr (a.getD i Af.zero):=hn _ (AK hi);unfold ku kv at hb;rw[hd,C9 hi,AQv];simp(disch:=omega) only[w1,AQo,hd,AQg,gsS Y4,ASk,AQx (Bj hi),AQf,AQw];rw[hg];refine(W9 (a:=(a.getD i Af.zero).2.2.1.1) vL.1 (by omega) (by omega)).bind λr hr=>?_;obtain⟨r1,r2,_,_⟩:=hr;refine(W9 (a:=(a.getD i Af.zero).2.2.2.1.1) vL.2 (by omega) (by omega)).bind λq hq=>?_;obtain⟨q1,q2,_,_⟩:=hq;exact Az.mk ⟨q.1,_,rfl,by omega,by unfold ku kv;omega,trivial⟩) (λb d hd=>by
  unfold C3 GQ
  try simp only
  rw[hd,DU,AQu]) h0 hk
 exact this.bind λr hr=>Az.mk hr
end Go.Proofs.X
namespace Go.Proofs.X
open Go Go.Va
set_option maxRecDepth 100000
theorem dE{A:Type}{G:A->A->ATV Bool}{a:A}(h:Y7 G a):G a a=some true:=by
 obtain⟨r,hr,hq⟩:=h a;rw[hr,hq.2 rfl]
theorem AcK(n:ASz):dn n=5+wt Ah n:=by
 have e:wt Ah n=wt (.sl (.int .u64)) (ib n)+wt (.sl (.int .i64)) (AL n):=by show 0+(0+(0+(0+((0+(_+0))+(_+0)))))=_;unfold ib AL;omega
 rw[e,Aaw,Aav];unfold dn;omega
theorem fC(t:ASP):kv t<=5*wt (.sl Ah) t:=by
 show(t.map dn).sum<=5*(t.length+(t.map (wt Ah)).sum);induction t with
 |nil=>simp
 |cons n t ih=>simp only[AQ0,ARV,ARe,AcK];omega
theorem AcJ(l:ASN):(l.map ku).sum<=5*wt (.sl Af) l:=by
 show _<=5*(l.length+(l.map (wt Af)).sum);induction l with
 |nil=>simp
 |cons x l ih =>
  have h1:=fC x.2.2.1.1;have h2:=fC x.2.2.2.1.1;have e:wt Af x=wt (.sl Ah) x.2.2.1.1+wt (.sl Ah) x.2.2.2.1.1:=by show 0+(0+((_+0)+((_+0)+0)))=_;omega
  simp only[AQ0,ARV,ARe,ku];omega
end Go.Proofs.X
namespace Go.Proofs.X
open Go Go.Va
set_option maxRecDepth 100000
abbrev gI(l:ASH)(i:Nat):Int:=l.getD i ATE.zero
theorem kP{l:ASH}{i j:Nat}{x:Int}(hi:i<l.length):gI (l.set i x) j=if j=i then x else gI l j:=by
 grind
theorem b7{l:ASH}{x:Int}{j:Nat}:gI (l++[x]) j=if j=l.length then x else gI l j:=by
 grind
structure Fo (ld:ASH) (rt dp:Nat->Nat):Prop where
 up:∀a,a<ld.length->∃b,b<ld.length/\gI ld a=(b:Int)/\rt b=rt a/\(b=a/\rt a=a\/dp b<dp a)
 aX:∀a,a<ld.length->rt a<ld.length/\rt (rt a)=rt a/\gI ld (rt a)=(rt a:Int)
 out:∀a,ld.length<=a->rt a=a
theorem Fo.half{ld:ASH}{rt dp:Nat->Nat}(h:Fo ld rt dp){a b c:Nat}(ha:a<ld.length)(hb:b<ld.length)(zl:gI ld a=(b:Int))(LN:b≠a)(hbc:gI ld b=(c:Int)):Fo (ld.set a (c:Int)) rt dp/\rt c=rt a/\dp c<dp a/\c<ld.length:=by
 obtain⟨b',_,e1,r1,d1⟩:=h.up a ha;have:b'=b:=by omega
 subst this;obtain⟨c',hc,e2,r2,d2⟩:=h.up b' hb;have:c'=c:=by omega
 subst this;have hdc:dp c'<dp a:=by grind
 refine⟨⟨λx hx=>?_,λx hx=>?_,λx hx=>?_⟩,by grind,hdc,hc⟩
 ·rw[AQo]at hx⊢;rw[kP ha];by_cases e:x=a
  ·grind
  ·rw[AQy e];exact h.up x hx
 ·rw[AQo]at hx⊢;obtain⟨t1,t2,t3⟩:=h.aX x hx
  grind
 ·rw[AQo]at hx;exact h.out x hx
theorem Fo.add{ld:ASH}{rt dp:Nat->Nat}(h:Fo ld rt dp):Fo (ld++[(ld.length:Int)]) rt dp:=by
 refine⟨λx hx=>?_,λx hx=>?_,λx hx=>?_⟩
 ·rw[AQj,AQz]at hx⊢;rw[b7];by_cases e:x=ld.length
  ·subst e;exact⟨ld.length,by omega,by grind,rfl,.inl ⟨rfl,h.out _ (AQl _)⟩⟩
  ·rw[AQy e];obtain⟨b,hb,e1,r1,d1⟩:=h.up x (by omega);exact⟨b,by omega,e1,r1,d1⟩
 ·rw[AQj,AQz]at hx⊢;by_cases e:x=ld.length
  ·have:=h.out x (by omega)
   grind
  ·obtain⟨t1,t2,t3⟩:=h.aX x (by omega)
   grind
 ·rw[AQj]at hx;exact h.out x (by omega)
def dS(rt:Nat->Nat)(x y a:Nat):Nat:=if rt a=y then x else rt a
theorem Fo.join{ld:ASH}{rt dp:Nat->Nat}(h:Fo ld rt dp){x y:Nat}(hx:x<ld.length)(hy:y<ld.length)(rx:rt x=x)(ry:rt y=y)(LN:x≠y):∃dp',Fo (ld.set y (x:Int)) (dS rt x y) dp':=by
 have gx :=by have:=(h.aX x hx).2.2;rw[rx]at this;exact this
 refine⟨λa=>if rt a=y then dp a+dp x+1 else dp a,⟨λa ha=>?_,λa ha=>?_,λa ha=>?_⟩⟩
 ·rw[AQo]at ha⊢;rw[kP hy];by_cases e:a=y
  ·subst e;refine⟨x,hx,by grind,?_,.inr ?_⟩
   ·simp only[dS,rx,AQ2];split<;>rfl
   ·grind
  ·rw[AQy e];obtain⟨b,hb,e1,r1,d1⟩:=h.up a ha;refine⟨b,hb,e1,by simp only[dS,r1],?_⟩;simp only[dS,r1]
   grind
 ·rw[AQo]at ha⊢;obtain⟨t1,t2,t3⟩:=h.aX a ha;by_cases e:rt a=y
  ·have:dS rt x y a=x:=by simp[dS,e]
   rw[this];refine⟨hx,by simp[dS,rx],?_⟩;rw[kP hy,AQy LN];exact gx
  ·have:dS rt x y a=rt a:=by simp[dS,e]
   rw[this];refine⟨t1,by simp[dS,t2,e],?_⟩;rw[kP hy,AQy e];exact t3
 ·rw[AQo]at ha;have:=h.out a ha;simp only[dS,this];rw[Q4]
theorem Fo.cK{ld:ASH}{rt dp:Nat->Nat}(h:Fo ld rt dp)(a:Nat):rt (rt a)=rt a:=by
 rcases AQq a _ with ha |ha
 ·exact(h.aX a ha).2.1
 ·rw[h.out a ha,h.out a ha]
theorem dT{rt:Nat->Nat}(hr:∀a,rt (rt a)=rt a){x y:Nat}(rx:rt x=x)(ry:rt y=y)(a b:Nat):dS rt x y a=dS rt x y b↔rt a=rt b\/(rt a=x/\rt b=y)\/(rt a=y/\rt b=x):=by
 simp only[dS];split<;>split<;>omega
def qu(rt:Nat->Nat)(ns n r:Nat)(v:Int):Prop:=(v=-1/\∀j,ns<=j->j<n->rt j≠r)\/∃j:Nat,v=(j:Int)/\ns<=j/\j<n/\rt j=r/\∀i,ns<=i->i<j->rt i≠r
theorem qu.uniq{rt:Nat->Nat}{ns n r:Nat}{v w:Int}(h:qu rt ns n r v)(k:qu rt ns n r w):v=w:=by
 rcases h with ⟨rfl,h⟩|⟨i,rfl,h1,h2,h3,h4⟩<;>rcases k with ⟨rfl,k⟩|⟨j,rfl,k1,k2,k3,k4⟩
 ·rfl
 ·grind
 ·grind
 grind
theorem qu.ge{rt:Nat->Nat}{ns n r:Nat}{v:Int}(h:qu rt ns n r v):-1<=v/\v<(n:Int):=by
 rcases h with ⟨rfl,h⟩|⟨i,rfl,h1,h2,h3,h4⟩<;>omega
theorem qu.join{rt:Nat->Nat}{ns n x y:Nat}{v w:Int}(LN:x≠y)(h:qu rt ns n x v)(k:qu rt ns n y w):qu (dS rt x y) ns n x (if 0<=v/\0<=w then min v w else max v w):=by
 rcases h with ⟨rfl,h⟩|⟨i,rfl,h1,h2,h3,h4⟩<;>rcases k with ⟨rfl,k⟩|⟨j,rfl,k1,k2,k3,k4⟩
 ·refine .inl ⟨rfl,λq q1 q2=>?_⟩;have:=h q q1 q2;have:=k q q1 q2;simp only[dS];split<;>omega
 ·refine .inr ⟨j,by omega,k1,k2,by simp[dS,k3],λq q1 q2=>?_⟩;have:=h q q1 (by omega);have:=k4 q q1 q2;simp only[dS];split<;>omega
 ·refine .inr ⟨i,by omega,h1,h2,by simp only[dS,h3];split<;>rfl,λq q1 q2=>?_⟩;have:=k q q1 (by omega);have:=h4 q q1 q2;simp only[dS];split<;>omega
 ·by_cases zq:i<=j
  ·refine .inr ⟨i,by omega,h1,h2,by simp only[dS,h3];split<;>rfl,λq q1 q2=>?_⟩;have:=k4 q q1 (by omega);have:=h4 q q1 q2;simp only[dS];split<;>omega
  ·refine .inr ⟨j,by omega,k1,k2,by simp[dS,k3],λq q1 q2=>?_⟩;have:=k4 q q1 q2;have:=h4 q q1 (by omega);simp only[dS];split<;>omega
theorem qu.other{rt:Nat->Nat}{ns n x y r:Nat}{v:Int}(hx:r≠x)(hy:r≠y)(h:qu rt ns n r v):qu (dS rt x y) ns n r v:=by
 have e:∀q,dS rt x y q=r↔rt q=r:=λq=>by simp only[dS];split<;>omega
 rcases h with ⟨rfl,h⟩|⟨i,rfl,h1,h2,h3,h4⟩
 ·exact .inl ⟨rfl,λq q1 q2=>by grind⟩
 ·exact .inr ⟨i,rfl,h1,h2,(e i).2 h3,λq q1 q2=>by grind⟩
theorem qu.add{rt:Nat->Nat}{ns n r:Nat}{v:Int}(hn:rt n=n)(hr:r<n)(h:qu rt ns n r v):qu rt ns (n+1) r v:=by
 rcases h with ⟨rfl,h⟩|⟨i,rfl,h1,h2,h3,h4⟩
 ·refine .inl ⟨rfl,λq q1 q2=>?_⟩
  grind
 ·exact .inr ⟨i,rfl,h1,by omega,h3,h4⟩
inductive Cn (ls:ASM):Int->Int->Prop
 |refl (a:Int):Cn ls a a
 |iJ {a:Int} {l:ASw}:l∈ls->Cn ls a l.1->Cn ls a l.2.1
 |bwd {a:Int} {l:ASw}:l∈ls->Cn ls a l.2.1->Cn ls a l.1
theorem Cn.trans{ls:ASM}{a b c:Int}(h:Cn ls a b)(k:Cn ls b c):Cn ls a c:=by
 induction k with
 |refl=>grind
 |iJ m _ ih=>exact .iJ m ih
 |bwd m _ ih=>exact .bwd m ih
theorem Cn.symm{ls:ASM}{a b:Int}(h:Cn ls a b):Cn ls b a:=by
 induction h with
 |refl=>exact .refl _
 |iJ m _ ih=>exact(Cn.bwd m (.refl _)).trans ih
 |bwd m _ ih=>exact(Cn.iJ m (.refl _)).trans ih
theorem Cn.mono{ls ms:ASM}(hm:∀l∈ls,l∈ms){a b:Int}(h:Cn ls a b):Cn ms a b:=by
 induction h with
 |refl=>exact .refl _
 |iJ m _ ih=>exact .iJ (hm _ m) ih
 |bwd m _ ih=>exact .bwd (hm _ m) ih
end Go.Proofs.X
namespace Go.Proofs.X
open Go Go.Va
set_option maxRecDepth 100000
theorem rB{ld:ASH}{rt dp:Nat->Nat}(h:Fo ld rt dp){j:Nat}(hj:j<ld.length)(a:Int)(fx:ASH)(vm:ATU AS1)(ls:ASM) :
    Az (G8 a (j:Int) ld fx vm ls) λr=>∃hU,r=(((rt j:Nat):Int),hU,fx,vm,ls)/\hU.length=ld.length/\Fo hU rt dp:=by
 refine Az.bind (P:=λq =>∃hU,q=(((rt j):Int),hU)/\hU.length=ld.length/\Fo hU rt dp) ?_ λq hq=>?_
 ·refine Bu (λm s=>∃k:Nat,s.1=(k:Int)/\k<s.2.length/\s.2.length=ld.length/\Fo s.2 rt dp/\rt k=rt j/\m=dp k) (λm s hI=>?_) _ _ ⟨j,rfl,hj,rfl,h,rfl,rfl⟩;obtain⟨k,e,hk,hl,hf,hr,rfl⟩:=hI;obtain⟨g,l⟩:=s;subst e;unfold H6 LW;simp only[AQg];obtain⟨b,hb,e1,r1,d1⟩:=hf.up k hk;obtain⟨c,hc,e2,r2,d2⟩:=hf.up b hb;have g1:l.getD k _=b:=e1;have g2 :=e2;rw[AQx (Bj hk),g1];by_cases hbk:b=k
  ·subst hbk;rw[ARD];exact Az.mk ⟨l,by grind,hl,hf⟩
  ·have LN:((b) !=(k:Int))=true:=by grind
   obtain⟨f1,f2,f3,f4⟩:=hf.half hk hb e1 hbk e2;have g3:(l.set k c).getD k ATE.zero=c:=by grind
   simp only[AQg,g2,g3,LN,AQo,AQx (Bj hk),AQx (Bj hb)];exact Az.mk ⟨dp c,f3,c,rfl,by grind,by grind,f1,by grind,rfl⟩
 ·obtain⟨hU,rfl,h1,h2⟩:=hq;exact Az.mk ⟨hU,rfl,h1,h2⟩
theorem kK{rt:Nat->Nat}{ns:Nat}{vs:ASQ}{Bf:ASH}(hv:vs.length=Bf.length)(hl:∀i j,i<Bf.length->j<Bf.length->(gI Bf i=gI Bf j↔rt i=rt j))(hw:∀i,i<Bf.length->((vs.getD i Ai.zero).1>0↔ns<=i))(hn:Bf.length<=4194304){b:Nat}(hb:b<Bf.length)(a:Int)(ls:ASM) :
    Az (Hp a (b:Int) vs ls Bf) λr=>∃v,r=(v,vs,ls,Bf)/\qu rt ns Bf.length (rt b) v:=by
 refine Az.bind (P:=λq:Int⊕Unit=>(∃v,q=.inl v/\qu rt ns Bf.length (rt b) v)\/(q=.inr ()/\qu rt ns Bf.length (rt b) (-1))) ?_ λq hq=>?_
 ·refine Bu (λm (s:Int)=>∃k:Nat,s=(k:Int)/\k<=Bf.length/\m=Bf.length-k/\∀i,ns<=i->i<k->rt i≠rt b) (λm s hI=>?_) Bf.length 0 ⟨0,rfl,AQ1 _,rfl,λi _ h=>absurd h (by omega)⟩;obtain⟨k,rfl,hk,rfl,aT⟩:=hI;unfold H9 LX JJ;rcases AQq k Bf.length with Bp |aS
  ·rw[C9 Bp,AQv];simp only[AQg];rw[AQx (Bj Bp),AQx (Bj hb)];have hE:=hl k b Bp hb;have AnU:(∀i,ns<=i->i<k+1->rt i≠rt b)->∃m,m<Bf.length-k/\∃k':Nat,wI ((k:Int)+1)=(k':Int)/\k'<=Bf.length/\m=Bf.length-k'/\∀i,ns<=i->i<k'->rt i≠rt b:=λhn' =>
    ⟨Bf.length-(k+1),by omega,k+1,AZ,by omega,rfl,hn'⟩
   by_cases e:gI Bf k=gI Bf b
   ·have e':(Bf.getD k ATE.zero==Bf.getD b ATE.zero)=true:=by grind
    rw[e',AQv,AQx (show(0:Int)<=(k:Int)/\(k:Int)<(vs.length:Int) by omega),AQf];by_cases hp:ns<=k
    ·rw[AQk ((hw k Bp).2 hp)];exact Az.mk (.inl ⟨k,rfl,.inr ⟨k,rfl,hp,Bp,hE.1 e,λi h1 h2=>aT i h1 h2⟩⟩)
    ·rw[AQi λx=>hp ((hw k Bp).1 x)];exact Az.mk (AnU λi h1 h2=>by
      grind)
   ·have e':(Bf.getD k ATE.zero==Bf.getD b ATE.zero)=false:=by grind
    rw[e',AQu,AQf];exact Az.mk (AnU λi h1 h2=>by
     grind)
  ·have:k=Bf.length:=by omega
   subst this;rw[DU];exact Az.mk (.inr ⟨rfl,.inl ⟨rfl,λj h1 h2=>aT j h1 h2⟩⟩)
 ·rcases hq with ⟨v,rfl,hv⟩|⟨rfl,hv⟩
  ·exact Az.mk ⟨v,rfl,hv⟩
  ·exact Az.mk ⟨-1,rfl,hv⟩
theorem wB{Bf:ASH}{i j:Nat}(hi:i<Bf.length)(hj:j<Bf.length)(hn:Bf.length<=4194304) :
    K9 (i:Int) (j:Int) Bf=some (Bf.map λx=>if x=max (gI Bf i) (gI Bf j)then min (gI Bf i) (gI Bf j)else x):=by
 unfold K9;simp only[AQg];rw[AQx (Bj hi),AQx (Bj hj),AQx (Bj hi),AQx (Bj hj)];generalize hx:(if Bf.getD j ATE.zero<Bf.getD i ATE.zero then Bf.getD j ATE.zero else Bf.getD i ATE.zero)=x;generalize hy:(if Bf.getD j ATE.zero>Bf.getD i ATE.zero then Bf.getD j ATE.zero else Bf.getD i ATE.zero)=y;have vU:x=min (gI Bf i) (gI Bf j):=by grind
 have jo:y=max (gI Bf i) (gI Bf j):=by grind
 rw[<-vU,<-jo];have:=AP (f:=Gn x y) (λk=>((k:Int),(Bf.take k).map (λz=>if z=y then x else z)++Bf.drop k)) (t:=Bf.map λz=>if z=y then x else z) Bf.length (λk hk=>?_) ?_
 ·exact(congrArg (λo=>Option.bind o λc=>some c) this).trans rfl
 ·unfold Gn MO Qb;have hlen:((Bf.take k).map (λz=>if z=y then x else z)++Bf.drop k).length=Bf.length:=by grind
  have hg:((Bf.take k).map (λz=>if z=y then x else z)++Bf.drop k).getD k ATE.zero=Bf.getD k ATE.zero:=by
   grind
  have hs:∀v,((Bf.take k).map (λz=>if z=y then x else z)++Bf.drop k).set k v=(Bf.take k).map (λz=>if z=y then x else z)++v::Bf.drop (k+1):=λv=>by
   have h1:((Bf.take k).map (λz=>if z=y then x else z)).length=k:=by grind
   rw[AR7 hk,ARF _ _ (by omega),h1,ASa,List.set_cons_zero]
  have ht:∀v,v=(if Bf.getD k ATE.zero=y then x else Bf.getD k ATE.zero)->(Bf.take k).map (λz=>if z=y then x else z)++v::Bf.drop (k+1)=(Bf.take (k+1)).map (λz=>if z=y then x else z)++Bf.drop (k+1):=λv hv=>by
   have e:Bf.getD k ATE.zero=Bf[k]:=by grind
   rw[AQ9 hk,AQY,hv,e];simp
  simp only[AQg,hlen];rw[C9 hk,AQv,AQx (Bj hk),hg];by_cases e:Bf.getD k ATE.zero=y
  ·have e':(Bf.getD k ATE.zero==y)=true:=by grind
   rw[e',AQv,AQx (Bj hk),AQf,hs,ht x (by grind)];rw[AZ (n:=k+1)]
  ·have e':(Bf.getD k ATE.zero==y)=false:=by grind
   have Zw:(Bf.take k).map (λz=>if z=y then x else z)++Bf.drop k=(Bf.take (k+1)).map (λz=>if z=y then x else z)++Bf.drop (k+1):=by
    rw[<-ht (Bf.getD k ATE.zero) (by grind)];simp[hk]
   rw[e',AQu,AQf,Zw,AZ (n:=k+1)]
 ·unfold Gn MO
  grind
end Go.Proofs.X
namespace Go.Proofs.X
open Go Go.Va
set_option maxRecDepth 100000
theorem zF(x y:Int):Bg ATE x y=true↔x=y:=by simp[Bg]
theorem o8(x:Int):Bg ATE x x=true:=(zF x x).2 rfl
theorem SY{vt:Ty}(k k':Int)(v:vt.V)(es:ATU (Int×vt.V)):Bs ATE vt (Cr ATE vt es k v) k'=if k'=k then v else Bs ATE vt es k':=by
 have h:=fU (kt:=.int .i64)  zF k k' v es;refine h.trans ?_;by_cases e:k'=k
 ·rw[AQx e,(zF _ _).2 e];rfl
 ·rw[AQy e,show Bg ATE k' k=false from Bool.eq_false_iff.2 λx=>e ((zF _ _).1 x)];rfl
theorem XO{vt:Ty}(k k':Int)(v:vt.V)(es:ATU (Int×vt.V)):Uz ATE vt (Cr ATE vt es k v) k'=(decide (k'=k)||Uz ATE vt es k'):=by
 have h:=Yl (kt:=.int .i64)  zF k k' v es;unfold Uz;rw[h];by_cases e:k'=k
 ·rw[AQk e,(zF _ _).2 e];rfl
 ·rw[AQi e,show Bg ATE k' k=false from Bool.eq_false_iff.2 λx=>e ((zF _ _).1 x)];rfl
abbrev LM:Type:=List AS6
abbrev pw(c:LM)(x:Int):ASM:=Bs ATE ATN c x
def yS(c:LM)(k:Int)(y:ASw):LM:=Cr ATE ATN c k (pw c k++[y])
theorem QV{c:LM}{k x:Int}{y e:ASw}:e∈pw (yS c k y) x↔e∈pw c x\/(x=k/\e=y):=by
 unfold pw yS;rw[SY ]
 grind
theorem jT{c:LM}{k x:Int}{y:ASw}:(pw (yS c k y) x).length<=(pw c x).length+1:=by
 unfold pw yS;rw[SY ]
 grind
structure Bsd (v:ASM) (N k:Nat) (c:LM):Prop where
 A2:∀x e,e∈pw c x->e.1=x/\0<=e.2.1/\e.2.1<(N:Int)
 all:∀q,q<k->(∃e∈pw c (v.getD q Ae.zero).1,e.2.1=(v.getD q Ae.zero).2.1)/\∃e∈pw c (v.getD q Ae.zero).2.1,e.2.1=(v.getD q Ae.zero).1
 len:∀x,(pw c x).length<=2*k
theorem Acw{v:ASM}{N:Nat}(hv:v.length<=4194304)(hb:∀l∈v,(0<=l.1/\l.1<(N:Int))/\0<=l.2.1/\l.2.1<(N:Int))(a g:Int):Az (W6 a g v (v.length:Int) 0 []) (Bsd v N v.length):=by
 refine Bu (λm (s:Int×LM)=>∃k:Nat,s.1=(k:Int)/\k<=v.length/\m=v.length-k/\Bsd v N k s.2) (λm s hI=>?_) v.length (0,[]) ⟨0,rfl,AQ1 _,rfl,⟨λx e h=>(by cases h),λq h=>(by omega),λx=>AQl _⟩⟩;obtain⟨k,e,hk,rfl,hB⟩:=hI;obtain⟨x,c⟩:=s;simp only at e hB;subst e;unfold PG Ut;simp only[AQg];rcases AQq k v.length with Bp |aS
 ·rw[C9 Bp,AQv,AQx (Bj Bp)];generalize hl:v.getD k Ae.zero=l;have hm:l∈v:=by grind
  obtain⟨hA,hB'⟩:=hb l hm;unfold Tq Ts;have l1:=hB.len l.1;have l2:=jT (c:=c) (k:=l.1) (x:=l.2.1) (y:=l);have l3:=hB.len l.2.1;rw[AQx (show((Bs ATE ATN c l.1).length+([l]:ASM).length)*24<=140737488355328 by grind),o8,AQv,AQf];rw[AQx (show((Bs ATE ATN (Cr ATE ATN c l.1 (Bs ATE ATN c l.1++[l])) l.2.1).length+([(l.2.1,l.1,l.2.2.1,())]:ASM).length)*24<=140737488355328 by
   rw[AQz];have:(Bs ATE ATN (Cr ATE ATN c l.1 (Bs ATE ATN c l.1++[l])) l.2.1).length<=(pw c l.2.1).length+1:=l2;omega),o8,AQv]
  refine Az.mk ⟨v.length-(k+1),by omega,k+1,AZ,by omega,rfl,?_⟩;show Bsd v N (k+1) (yS (yS c l.1 l) l.2.1 (l.2.1,l.1,l.2.2.1,()));refine⟨λx e h=>?_,λq hq=>?_,λx=>?_⟩
  ·rcases QV.1 h with h |⟨rfl,rfl⟩
   ·rcases QV.1 h with h |⟨rfl,rfl⟩
    ·exact hB.A2 x e h
    ·grind
   ·grind
  ·by_cases e:q=k
   ·subst e;rw[hl];exact⟨⟨l,QV.2 (.inl (QV.2 (.inr ⟨rfl,rfl⟩))),rfl⟩,⟨_,QV.2 (.inr ⟨rfl,rfl⟩),rfl⟩⟩
   ·obtain⟨⟨e1,h1,h2⟩,e2,h3,h4⟩:=hB.all q (by omega);exact⟨⟨e1,QV.2 (.inl (QV.2 (.inl h1))),h2⟩,e2,QV.2 (.inl (QV.2 (.inl h3))),h4⟩
  ·have a1:=jT (c:=yS c l.1 l) (k:=l.2.1) (x:=x) (y:=(l.2.1,l.1,l.2.2.1,()));have a2:=jT (c:=c) (k:=l.1) (x:=x) (y:=l);have a3:=hB.len x;omega
 ·have:k=v.length:=by omega
  subst this;rw[DU];exact Az.mk hB
theorem pG:∀(N:Nat) (l:ASH),l.Nodup->(∀x∈l,0<=x/\x<(N:Int))->l.length<=N
 |0,l,_,h=>by
  cases l with
  |nil=>grind
  |cons x l=>have:=h x AQK;omega
 |N+1,l,hn,h=>by
  have:=pG N (l.erase N) (hn.erase _) λx hx=>by
   grind
  grind
abbrev FMp:Type:=List ATa
abbrev hsF(t:FMp)(x:Int):Bool:=Uz ATE Ae t x
abbrev mgF(t:FMp)(x:Int):ASw:=Bs ATE Ae t x
structure Met (N:Nat) (a:Int) (t:FMp) (ms:ASH):Prop where
 nd:ms.Nodup
 bd:∀x∈ms,0<=x/\x<(N:Int)
 fst:gI ms 0=a/\0<ms.length
 has:∀x,hsF t x=true↔x∈ms
 back:∀k,1<=k->k<ms.length->∃k',k'<k/\(mgF t (gI ms k)).1=gI ms k'
theorem Met.len{N:Nat}{a:Int}{t:FMp}{ms:ASH}(h:Met N a t ms):ms.length<=N:=pG N ms h.nd h.bd
theorem Met.add{N:Nat}{a:Int}{t:FMp}{ms:ASH}(h:Met N a t ms){e:ASw}(he:0<=e.2.1/\e.2.1<(N:Int))(aT:hsF t e.2.1=false){p:Nat}(hp:p<ms.length)(h1:e.1=gI ms p):Met N a (Cr ATE Ae t e.2.1 e) (ms++[e.2.1]):=by
 have hnm:e.2.1∉ms:=λx=>by rw[(h.has _).2 x]at aT;cases aT
 have hg:∀k,k<ms.length->gI (ms++[e.2.1]) k=gI ms k:=λk hk=>by grind
 refine⟨?_,λx hx=>?_,⟨?_,by simp⟩,λx=>?_,λk k1 k2=>?_⟩
 ·rw[ASh];exact⟨h.nd,by simp,λx hx y hy e'=>by grind⟩
 ·rcases List.mem_append.1 hx with hx |hx
  ·exact h.bd x hx
  grind
 ·rw[hg 0 h.fst.2];exact h.fst.1
 ·unfold hsF;rw[XO (vt:=Ae),ARA,AR1,ARL,AQG,<-h.has x];exact Or.comm
 ·rw[AQj,AQz]at k2;unfold mgF;by_cases hk:k=ms.length
  ·subst hk;have e1:gI (ms++[e.2.1]) ms.length=e.2.1:=by grind
   exact⟨p,hp,by rw[e1,SY (vt:=Ae),AQx rfl,hg p hp];exact h1⟩
  ·obtain⟨k',h2,h3⟩:=h.back k k1 (by omega);refine⟨k',h2,?_⟩;have LN:gI ms k≠e.2.1:=λx=>hnm (by grind);rw[hg k (by omega),hg k' (by omega),SY (vt:=Ae),AQy LN];exact h3
structure ABZ (N:Nat) (a:Int) (c:LM) (p:Nat) (t:FMp) (u ms:ASH):Prop where
 met:Met N a t ms
 le:p<=ms.length
 todo:u=ms.drop p
 done:∀q,q<p->∀e∈pw c (gI ms q),e.2.1∈ms
theorem AhW{N p:Nat}{a g:Int}{c:LM}{v:ASM}(hN:N<=4194304)(hB:Bsd v N v.length c)(hv:v.length<=4194304){t:FMp}{ms:ASH}(hM:Met N a t ms)(hp:p<ms.length)(hd:∀q,q<p->∀e∈pw c (gI ms q),e.2.1∈ms) :
    Az (W7 a g c (pw c (gI ms p)) ((pw c (gI ms p)).length:Int) 0 t (ms.drop (p+1))) λr=>∃sy,ABZ N a c (p+1) r.1 r.2 sy:=by
 generalize hj:pw c (gI ms p)=j;have bj:j.length<=2*v.length:=by rw[<-hj];exact hB.len _
 refine Bu (λm (s:Int×FMp×ASH)=>∃(n:Nat) (sy:ASH),s.1=(n:Int)/\n<=j.length/\m=j.length-n/\Met N a s.2.1 sy/\p<sy.length/\gI sy p=gI ms p/\s.2.2=sy.drop (p+1)/\(∀q,q<p->∀e∈pw c (gI sy q),e.2.1∈sy)/\∀q,q<n->(j.getD q Ae.zero).2.1∈sy) (λm s hI=>?_) j.length (0,t,ms.drop (p+1)) ⟨0,ms,rfl,AQ1 _,rfl,hM,hp,rfl,rfl,hd,λq h=>by omega⟩;obtain⟨n,sy,e1,hn,rfl,hM',hp',hgp,e2,hd',zn⟩:=hI;obtain⟨x,t',u'⟩:=s;subst e1;subst e2;unfold PH Uu;have rO:=hM'.len;rcases AQq n j.length with Bp |aS
 ·rw[C9 Bp];unfold Tt;simp only[AQg];rw[AQx (Bj Bp)];generalize he:j.getD n Ae.zero=e;have hm:e∈pw c (gI ms p):=by grind
  obtain⟨b1,b2⟩:=hB.A2 _ _ hm;have hw:wI ((n:Int)+1)=((n+1:Nat):Int):=AZ;cases hh:Uz ATE Ae t' e.2.1 with
  |true =>
   refine Az.mk ⟨j.length-(n+1),by omega,n+1,sy,hw,by omega,rfl,hM',hp',hgp,rfl,hd',λq hq=>?_⟩;by_cases h:q=n
   ·subst h;rw[he];exact(hM'.has _).1 hh
   ·grind
  |false =>
   simp only[ARK,AQv];rw[AQk (show((sy.drop (p+1)).length+([e.2.1]:ASH).length)*8<=140737488355328 by grind),AQv];have hg:∀k,k<sy.length->gI (sy++[e.2.1]) k=gI sy k:=λk hk=>by grind
   refine Az.mk ⟨j.length-(n+1),by omega,n+1,sy++[e.2.1],hw,by omega,rfl,hM'.add b2 hh hp' (by grind),by grind,by grind,?_,λq hq e' he'=>?_,λq hq=>?_⟩
   ·grind
   ·grind
   ·by_cases h:q=n
    ·subst h;rw[he];simp
    ·exact AQN _ (zn q (by omega))
 ·have:n=j.length:=by omega
  subst this;rw[DU];refine Az.mk ⟨sy,hM',by omega,rfl,λq hq e he=>?_⟩;by_cases h:q=p
  ·subst h;rw[hgp,hj]at he;obtain⟨i,hi,h2⟩:=List.mem_iff_getElem.1 he;have:=zn i hi;rwa [show j.getD i Ae.zero=e by rw[<-h2];simp[hi]]at this
  ·grind
theorem AdG{N:Nat}{a g:Int}{c:LM}{v:ASM}(hN:N<=4194304)(hB:Bsd v N v.length c)(hv:v.length<=4194304)(ha:0<=a/\a<(N:Int)) :
    Az (W8 a g c (Cr ATE Ae ([]:FMp) a (a,a,0,())) [a]) λt=>∃ms,Met N a t ms/\∀q,q<ms.length->∀e∈pw c (gI ms q),e.2.1∈ms:=by
 have h0:Met N a (Cr ATE _ [] a (a,a,0,())) [a]:=by
  refine⟨by simp,λx hx=>by grind,⟨rfl,by simp⟩,λx=>?_,λk k1 k2=>by grind⟩;unfold hsF;rw[XO ];simp[Uz,Pm]
 refine Bu (λm s=>∃p ms,ABZ N a c p s.1 s.2 ms/\m=N-p) (λm s hI=>?_) N _ ⟨0,[a],⟨h0,by simp,rfl,λq h=>by omega⟩,rfl⟩;obtain⟨p,ms,hS,rfl⟩:=hI;obtain⟨t,u⟩:=s;have hu :=hS.todo;subst hu;unfold PI Uv;rcases AQq p ms.length with Bp |aS
 ·have hlen:(ms.drop p).length=ms.length-p:=AQP;rw[AQk (show((ms.drop p).length:Int)>0 by omega),AQk (show 1<=((ms.drop p).length:Int) by omega)];have e0:(ms.drop p).getD 0 ATE.zero=gI ms p:=by grind
  have e1:(ms.drop p).drop 1=ms.drop (p+1):=by rw[List.drop_drop]
  rw[e0,e1];refine(AhW  hN hB hv hS.met Bp hS.done).bind λr hr=>?_;obtain⟨sy,hS'⟩:=hr;have:=hS'.le;have:=hS'.met.len;exact Az.mk ⟨N-(p+1),by omega,p+1,sy,hS',rfl⟩
 ·have:p=ms.length:=by have:=hS.le;omega
  subst this;rw[AQi (by simp)];exact Az.mk ⟨ms,hS.met,hS.done⟩
theorem AwS{v:ASM}{N:Nat}(hN:N<=4194304)(hv:v.length<=4194304)(hb:∀l∈v,(0<=l.1/\l.1<(N:Int))/\0<=l.2.1/\l.2.1<(N:Int)){a g:Int}(ha:0<=a/\a<(N:Int))(LN:g≠a)(hc:Cn v a g):Az (Yi v a g) λr=>r≠[]:=by
 refine(Acw hv hb a g).bind λc hB=>?_;refine(AdG (g:=g) hN hB hv ha).bind λt ht=>?_;obtain⟨ms,hM,OO⟩:=ht;have rO:=hM.len;have rM:∀{x},x∈ms->∃k,k<ms.length/\gI ms k=x:=λ{x} hx=>by
  obtain⟨k,hk,e⟩:=List.mem_iff_getElem.1 hx;exact⟨k,hk,by grind⟩
 have Gq:∀{x},Cn v a x->x∈ms:=λ{x} h=>by
  induction h with
  |refl=>rw[<-hM.fst.1];exact AK hM.fst.2
  |iJ hl _ ih =>
   obtain⟨k,hk,e⟩:=rM ih;obtain⟨q,hq,e2⟩:=List.mem_iff_getElem.1 hl;obtain⟨⟨x,x1,x2⟩,_⟩:=hB.all q hq
   grind
  |bwd hl _ ih =>
   obtain⟨k,hk,e⟩:=rM ih;obtain⟨q,hq,e2⟩:=List.mem_iff_getElem.1 hl;obtain⟨_,⟨x,x1,x2⟩⟩:=hB.all q hq
   grind
 obtain⟨k0,hk0,e0⟩:=rM (Gq hc);refine Az.bind (P:=λe:ASH=>e≠[]/\e.length<=N) ?_ λe he=>?_
 ·refine Bu (λm (s:Int×ASH)=>∃k,k<ms.length/\gI ms k=s.1/\m=k/\s.2.length+k<=k0/\(s.1=g/\s.2=[]\/s.2≠[])) (λm s hI=>?_) k0 (g,[]) ⟨k0,hk0,e0,rfl,by simp,.inl ⟨rfl,rfl⟩⟩;obtain⟨k,hk,e1,hm,hlen,BS⟩:=hI;rw[hm];obtain⟨x,e⟩:=s;simp only at e1 hlen BS;unfold PK Uw;simp only;by_cases hxa:x=a
  ·subst hxa;rw[ARD];rcases BS with ⟨h,_⟩|h
   ·grind
   ·exact Az.mk ⟨h,by omega⟩
  ·rw[show(x !=a)=true by grind,AQx (by rw[AQz];omega)];have k1:1<=k:=by
    rcases AQD k with h |h
    ·subst h;rw[hM.fst.1]at e1;exact(hxa e1.symm).elim
    ·omega
   obtain⟨k',h1,h2⟩:=hM.back k k1 hk;rw[e1]at h2;exact Az.mk ⟨k',h1,k',by omega,h2.symm,rfl,by rw[AQj,AQz];omega,.inr (by simp)⟩
 ·rw[VI];refine Az.mk λx=>?_;obtain⟨y,hy⟩:=List.exists_mem_of_ne_nil _ he.1;have:=((iz e).2 y).2 hy;rw[x]at this;cases this
end Go.Proofs.X
namespace Go.Proofs.X
open Go Go.Va
set_option maxRecDepth 100000
abbrev lk(ls:ASM)(k:Nat):ASw:=ls.getD k Ae.zero
abbrev us(q:ASI)(k:Nat):Bool:=q.getD k (Ty.zero .bool)
theorem Aju{q:ASI}{k j:Nat}(hk:k<q.length):us (q.set k true) j=if j=k then true else us q j:=by
 grind
def Tch(ls:ASM)(k:Nat)(x:Int):Prop:=(lk ls k).1=x\/(lk ls k).2.1=x
def Cl(ls:ASM)(q:ASI)(x:Int):Prop:=∀k,k<ls.length->Tch ls k x->us q k=true
def nu(n:Nat)(q:ASI):Nat:=(List.range n).countP λk=>!us q k
def Mo(q q':ASI):Prop:=∀k,us q k=true->us q' k=true
theorem Mo.nu{n:Nat}{q q':ASI}(h:Mo q q'):nu n q'<=nu n q:=List.countP_mono_left λk _ hk=>by
 cases hq:us q k with
 |false=>grind
 |true=>rw[h k hq]at hk;cases hk
theorem Cl.mono{ls:ASM}{q q':ASI}(h:Mo q q'){x:Int}(hc:Cl ls q x):Cl ls q' x:=λk h1 h2=>h k (hc k h1 h2)
theorem Awx{q:ASI}{k:Nat}(hk:k<q.length):Mo q (q.set k true):=λj hj=>by grind
theorem AwB{n:Nat}{q:ASI}{k:Nat}(hk:k<q.length)(hn:k<n)(hu:us q k=false):nu n (q.set k true)+1<=nu n q :=
 fD (λj hj=>by
  grind) (List.mem_range.2 hn) (by grind) (by grind)
def yN(ls:ASM)(q q':ASI)(P:Int->Prop):Prop:=∀k,k<ls.length->us q' k=true->us q k=false->∀x,Tch ls k x->P x
structure AI4 (ls:ASM) (q:ASI) (b c:Int) (r:Bool×ASI×ASH):Prop where
 len:r.2.1.length=q.length
 mo:Mo q r.2.1
 yes:r.1=true->(b≠c->r.2.2≠[])/\r.2.2.length<=nu ls.length q
 no:r.1=false->b≠c/\Cl ls r.2.1 b/\yN ls q r.2.1 λx=>x≠c/\Cl ls r.2.1 x
theorem Ab1{ls:ASM}(hl:ls.length<=4194304)(hb:∀k,k<ls.length->((0:Int)<=(lk ls k).1/\(4194304:Int)>(lk ls k).1)/\(0:Int)<=(lk ls k).2.1/\(4194304:Int)>(lk ls k).2.1)(c:Int) :
    ∀(n:Nat) (b:Int) (q:ASI),q.length=ls.length->(0<=b/\b<4194304)->nu ls.length q<n->Az (I6 n ls b c q) (AI4 ls q b c)
 |0,b,q,_,_,h=>by omega
 |n+1,b,q,hq,hbb,hn=>by
  show Az (R9 (I6 n) ls b c q) _;unfold R9;by_cases hbc:b=c
  ·subst hbc;rw[ASo,AQv];exact Az.mk ⟨rfl,λ_ h=>h,λ_=>⟨λh=>(h rfl).elim,AQ1 _⟩,λh=>by cases h⟩
  rw[show(b==c)=false by rw[beq_eq_false_iff_ne];exact hbc,AQu];refine Az.bind (P:=λt:ATb⊕ASI=>(∃q' w,t=.inl (q',w)/\q'.length=q.length/\Mo q q'/\w≠[]/\w.length<=nu ls.length q)\/∃q',t=.inr q'/\q'.length=q.length/\Mo q q'/\Cl ls q' b/\yN ls q q' λx=>x≠c/\Cl ls q' x) ?_ λt ht=>?_
  ·unfold Xh;refine Bu (λm (s:Int×ASI)=>∃k:Nat,s.1=(k:Int)/\k<=ls.length/\m=ls.length-k/\s.2.length=q.length/\Mo q s.2/\(∀j,j<k->Tch ls j b->us s.2 j=true)/\yN ls q s.2 λx=>x=b\/x≠c/\Cl ls s.2 x) (λm s hI=>?_) ls.length (0,q) ⟨0,rfl,AQ1 _,rfl,rfl,λ_ h=>h,λj h=>by omega,λk _ h1 h2=>by rw[h1]at h2;cases h2⟩;obtain⟨k,e,hk,rfl,hlen,hmo,gL,Abx⟩:=hI;obtain⟨g,u⟩:=s;simp only at e hlen hmo gL Abx;subst e;unfold Qc UM;simp only;rcases AQq k ls.length with Bp |aS
   ·rw[C9 Bp,AQv];have hku:k<u.length:=by omega
    have hw:wI ((k:Int)+1)=((k+1:Nat):Int):=AZ;obtain⟨⟨a1,a2⟩,a3,a4⟩:=hb k Bp;have skip:(us u k=true\/¬Tch ls k b)->∃m,m<ls.length-k/\∃k':Nat,((k+1:Nat):Int)=(k':Int)/\k'<=ls.length/\m=ls.length-k'/\u.length=q.length/\Mo q u/\(∀j,j<k'->Tch ls j b->us u j=true)/\yN ls q u λx=>x=b\/x≠c/\Cl ls u x:=λh =>
     ⟨ls.length-(k+1),by omega,k+1,rfl,by omega,rfl,hlen,hmo,λj hj ht=>by
      by_cases e:j=k
      ·subst e;rcases h with h |h
       ·exact h
       ·exact(h ht).elim
      ·exact gL j (by omega) ht,Abx⟩
    unfold TD TC;simp only[AQg];rw[AQx (Bj hku)];cases hu:us u k with
    |true =>
     rw[show u.getD k (Ty.zero .bool)=true from hu,AQv,AQf,ARy,AQf,ARy,hw];exact Az.mk (skip (.inl hu))
    |false =>
     rw[show u.getD k (Ty.zero .bool)=false from hu,AQu];simp only[AQx (Bj Bp)];have take:∀nx:Int,wI (wI ((lk ls k).1+(lk ls k).2.1)-b)=nx->(0<=nx/\nx<4194304)->(∀x,Tch ls k x->x=b\/x=nx)->Tch ls k b ->
         Az ((if(0:Int)<=(k:Int)/\(k:Int)<(u.length:Int)then
          (I6 n ls (wI (wI ((lk ls k).1+(lk ls k).2.1)-b)) c (u.set k true)).bind λo =>
           bif o.1 then
           if(([(lk ls k).2.2.1]:ASH).length+o.2.2.length)*8<=140737488355328 then
           some (Sum.inr (o.2.1,(([(lk ls k).2.2.1]:ASH)++o.2.2)))
           else none
           else some (Sum.inl o.2.1)
          else none:ATV (ASI⊕ATb))) λt=>(∃q' w,t=.inr (q',w)/\q'.length=q.length/\Mo q q'/\w≠[]/\w.length<=nu ls.length q)\/∃q',t=.inl q'/\q'.length=q.length/\Mo q q'/\(∀j,j<k+1->Tch ls j b->us q' j=true)/\yN ls q q' λx=>x=b\/x≠c/\Cl ls q' x:=λnx hnx vL Ahq htb=>by
      rw[AQx (Bj hku),hnx];have h1:=AwB (n:=ls.length) hku Bp hu;have h2:=hmo.nu (n:=ls.length);have UO:=Awx hku;refine(Ab1 hl hb c n nx (u.set k true) (by rw[AQo];omega) vL (by omega)).bind λo ho=>?_;obtain⟨b1,⟨q2,w⟩⟩:=o;obtain⟨o1,o2,o3,o4⟩:=ho;simp only at o1 o2 o3 o4⊢;rw[AQo]at o1;have Tm:Mo q q2:=λj hj=>o2 j (UO j (hmo j hj));cases b1 with
      |true =>
       have h3:=(o3 rfl).2;have h4:nu ls.length q<=ls.length:=by unfold nu;exact AQJ List.countP_le_length (by rw[AQW];exact AQl _)
       rw[AQv,AQx (by rw[AQz];omega)];exact Az.mk (.inl ⟨q2,_,rfl,by omega,Tm,by simp,by rw[AQj,AQz];omega⟩)
      |false =>
       rw[AQu];obtain⟨p1,p2,p3⟩:=o4 rfl;refine Az.mk (.inr ⟨q2,rfl,by omega,Tm,λj hj ht=>?_,λj j1 j2 j3 x hx=>?_⟩)
       ·by_cases e:j=k
        ·subst e;exact o2 j (by rw[Aju hku,AQx rfl])
        ·exact o2 j (UO j (gL j (by omega) ht))
       ·by_cases e:j=k
        ·subst e;rcases Ahq x hx with h |h
         ·exact .inl h
         ·subst h;exact .inr ⟨p1,p2⟩
        ·cases hj:us u j with
         |true =>
          rcases Abx j j1 hj j3 x hx with h |⟨h,h'⟩
          ·exact .inl h
          ·exact .inr ⟨h,h'.mono λi hi=>o2 i (UO i hi)⟩
         |false=>exact .inr (p3 j j1 j2 (by rw[Aju hku,AQy e];exact hj) x hx)
     have Xm:∀{X:ATV (ASI⊕ATb)} {R:((Int×ASI)⊕(ATb⊕ASI))->Prop},Az X (λt=>(∃q' w,t=.inr (q',w)/\q'.length=q.length/\Mo q q'/\w≠[]/\w.length<=nu ls.length q)\/∃q',t=.inl q'/\q'.length=q.length/\Mo q q'/\(∀j,j<k+1->Tch ls j b->us q' j=true)/\yN ls q q' λx=>x=b\/x≠c/\Cl ls q' x) ->
         (∀s':Int×ASI,(∃m,m<ls.length-k/\∃k':Nat,s'.1=(k':Int)/\k'<=ls.length/\m=ls.length-k'/\s'.2.length=q.length/\Mo q s'.2/\(∀j,j<k'->Tch ls j b->us s'.2 j=true)/\yN ls q s'.2 λx=>x=b\/x≠c/\Cl ls s'.2 x)->R (.inl s')) ->
         (∀q' w,q'.length=q.length->Mo q q'->w≠[]->w.length<=nu ls.length q->R (.inr (.inl (q',w)))) ->
         Az (X.bind (Sum.elim (λj=>some (Sum.inl (wI ((k:Int)+1),j))) λk=>some (Sum.inr (Sum.inl (k.1,k.2))):ASI⊕ATb->ATV ((Int×ASI)⊕(ATb⊕ASI)))) R:=λ{X R} hX hR1 hR2=>hX.bind λt ht=>by
      rcases ht with ⟨q',w,rfl,h1,h2,h3,h4⟩|⟨q',rfl,h1,h2,h3,h4⟩
      ·rw[ARi];exact Az.mk (hR2 q' w h1 h2 h3 h4)
      ·rw[ARy,hw];exact Az.mk (hR1 _ ⟨ls.length-(k+1),by omega,k+1,rfl,by omega,rfl,h1,h2,h3,h4⟩)
     by_cases hA:(lk ls k).1=b
     ·have e1:((lk ls k).1 !=b)=false:=by rw[hA,ARD]
      rw[show((ls.getD k Ae.zero).1 !=b)=false from e1,AQu,AQf,ARi];refine Xm (take (lk ls k).2.1 ?_ ⟨a3,a4⟩ (λx hx=>?_) (.inl hA)) (λ_ h=>h) λq' w h1 h2 h3 h4=>.inl ⟨q',w,rfl,h1,h2,h3,h4⟩
      ·have kT:b=(lk ls k).1:=hA.symm;rw[BH (x:=(lk ls k).1+(lk ls k).2.1),BH];omega
      ·rcases hx with h |h
       ·exact .inl (by rw[<-h,hA])
       ·exact .inr h.symm
     ·have e1:((lk ls k).1 !=b)=true:=by rw[ARY];exact hA
      rw[show((ls.getD k Ae.zero).1 !=b)=true from e1,AQv];by_cases hB:(lk ls k).2.1=b
      ·have e2:((lk ls k).2.1 !=b)=false:=by rw[hB,ARD]
       rw[show((ls.getD k Ae.zero).2.1 !=b)=false from e2,AQu,AQf,ARi];refine Xm (take (lk ls k).1 ?_ ⟨a1,a2⟩ (λx hx=>?_) (.inr hB)) (λ_ h=>h) λq' w h1 h2 h3 h4=>.inl ⟨q',w,rfl,h1,h2,h3,h4⟩
       ·have hB':b=(lk ls k).2.1:=hB.symm;rw[BH (x:=(lk ls k).1+(lk ls k).2.1),BH];omega
       ·rcases hx with h |h
        ·exact .inr h.symm
        ·exact .inl (by rw[<-h,hB])
      ·have e2:((lk ls k).2.1 !=b)=true:=by rw[ARY];exact hB
       rw[show((ls.getD k Ae.zero).2.1 !=b)=true from e2,AQv,AQf,ARy,AQf,ARy,hw];exact Az.mk (skip (.inr λh=>by rcases h with h |h;exact hA h;exact hB h))
   ·have:k=ls.length:=by omega
    subst this;rw[DU,AQu];have OO:Cl ls u b:=λj h1 h2=>gL j h1 h2;exact Az.mk (.inr ⟨u,rfl,hlen,hmo,OO,λj j1 j2 j3 x hx=>by
     rcases Abx j j1 j2 j3 x hx with h |h
     ·subst h;exact⟨hbc,OO⟩
     ·exact h⟩)
  ·rcases ht with ⟨q',w,rfl,h1,h2,h3,h4⟩|⟨q',rfl,h1,h2,h3,h4⟩
   ·exact Az.mk ⟨h1,h2,λ_=>⟨λ_=>h3,h4⟩,λh=>by cases h⟩
   ·exact Az.mk ⟨h1,h2,λh=>(by cases h),λ_=>⟨hbc,h3,h4⟩⟩
theorem Ah1{ls:ASM}(hl:ls.length<=900000)(hb:∀l∈ls,((0:Int)<=l.1/\(4194304:Int)>l.1)/\(0:Int)<=l.2.1/\(4194304:Int)>l.2.1){b c:Int}(hbb:0<=b/\b<4194304)(LN:b≠c)(hc:Cn ls b c) :
    Az (cE ls b c (List.replicate ls.length false)) λr=>r.2.2≠[]/\r.2.2.length<=ls.length:=by
 have hz:∀k,us (List.replicate ls.length false) k=false:=λk=>by
  by_cases h:k<ls.length
  ·grind
  ·simp[h];rfl
 have hn:nu ls.length (List.replicate ls.length false)<=ls.length:=by exact AQJ List.countP_le_length (by grind)
 refine(Ab1 (by omega) (λk hk=>hb _ (AK hk)) c 1000000 b (List.replicate ls.length false) (AQM) hbb (by omega)).mono λr hr=>?_;obtain⟨r1,r2,r3⟩:=r;cases r1 with
 |true=>obtain⟨h1,h2⟩:=hr.yes rfl;grind
 |false =>
  exfalso
  obtain⟨n1,n2,n3⟩:=hr.no rfl;have key:∀{x},Cn ls b x->x≠c/\Cl ls r2 x:=λ{x} h=>by
   induction h with
   |refl=>grind
   |iJ zt _ ih =>
    obtain⟨k,hk,e⟩:=List.mem_iff_getElem.1 zt;have e2:lk ls k=_:=show ls.getD k Ae.zero=ls[k] by grind
    rw[<-e,<-e2]at ih⊢;exact n3 k hk (ih.2 k hk (.inl rfl)) (hz k) _ (.inr rfl)
   |bwd zt _ ih =>
    obtain⟨k,hk,e⟩:=List.mem_iff_getElem.1 zt;have e2:lk ls k=_:=show ls.getD k Ae.zero=ls[k] by simp[hk]
    rw[<-e,<-e2]at ih⊢;exact n3 k hk (ih.2 k hk (.inr rfl)) (hz k) _ (.inl rfl)
  exact(key hc).1 rfl
end Go.Proofs.X
namespace Go.Proofs.X
open Go Go.Va
set_option maxRecDepth 100000
theorem AvM{a:ASH}(ha:a.length<=1048576)(b:Int):∃r,Wc a b=some r/\(a=[]->r=false):=by
 unfold Wc;obtain⟨t,h1,h2⟩:Az (Xg a b 0) λt=>t=.inl ()->a≠[]:=by
  refine Bu (λw i=>∃k:Nat,i=(k:Int)/\k<=a.length/\w=a.length-k) (λw i hI=>?_) _ 0 ⟨0,rfl,AQ1 _,rfl⟩;obtain⟨k,rfl,hk,rfl⟩:=hI;unfold PY UE;rcases AQq k _ with h |h
  ·rw[C9 h,AQv,AQx (Bj h)];refine Az.cond (λ_=>Az.mk λ_=>by grind) λ_=>Az.mk ⟨a.length-(k+1),by omega,k+1,AZ,h,rfl⟩
  ·have:k=a.length:=by omega
   subst this;rw[DU];exact Az.mk λe=>by grind
 rw[h1];cases t with
 |inl u=>exact⟨true,rfl,λe=>(h2 rfl e).elim⟩
 |inr u=>exact⟨false,rfl,λ_=>rfl⟩
theorem AdB{a:ASH}(ha:a≠[])(hl:a.length<=900000):Az (TA a) (·≠[]):=by
 refine Az.bind  ?_ λr hr=>Az.mk hr;refine Bu (λm s=>∃k:Nat,s.1=(k:Int)/\k<=a.length/\m=a.length-k/\s.2.length<=k/\(0<k->s.2≠[])) (λm s hI=>?_) _ _ ⟨0,rfl,AQ1 _,rfl,AQl _,λh=>by omega⟩;obtain⟨k,e,hk,rfl,hd,LN⟩:=hI;obtain⟨g,d⟩:=s;simp only at e hd LN;subst e;unfold Lb Qv;rcases AQq k _ with Bp |aS
 ·rw[C9 Bp];refine Az.bind (P:=λe =>e≠[]/\e.length<=k+1) ?_ λe he=>Az.mk ⟨a.length-(k+1),by omega,k+1,AZ,by omega,rfl,he.2,λ_=>he.1⟩;unfold OA;simp only[AQg,AQx (Bj Bp)];obtain⟨r,h1,h2⟩:=AvM (a:=d) (by omega) _;rw[h1,AQf];cases r with
  |true =>
   exact Az.mk ⟨λe=>(by grind),by omega⟩
  |false =>
   rw[AQx (by grind)];generalize a.getD k _=x;refine Az.bind (P:=λq =>0<=q.1/\q.1<q.2.length/\q.2.length=d.length+1) ?_ λq hq=>?_
   ·refine Bu (λm s=>∃i:Nat,s.1=(i:Int)/\i<=d.length/\m=i/\s.2.length=d.length+1) (λm s hI=>?_) _ _ ⟨d.length,rfl,AQl _,rfl,by simp⟩;obtain⟨i,e,hi,hm,hj⟩:=hI;rw[hm];obtain⟨g,j⟩:=s;simp only at e hj;subst e;unfold La Qu Oz;cases i with
    |zero =>
     exact Az.mk ⟨by simp,by grind,hj⟩
    |succ i =>
     have hw:wI (((i+1:Nat))-1)=i:=AZ;rw[LL,AQv,hw];simp only[AQg];rw[AQx (Bj (show i<j.length by omega)),AQx (Bj Bp)];cases decide (j.getD i _>a.getD k _)with
     |true =>
      rw[AQv,AQf,AQx (Bj (show i<j.length by omega)),AQx (Bj (show i+1<j.length by omega))];exact Az.mk ⟨i,by omega,i,rfl,by omega,rfl,by grind⟩
     |false =>
      exact Az.mk ⟨by omega,by grind,hj⟩
   ·rw[AQx ⟨hq.1,hq.2.1⟩];refine Az.mk ⟨λe=>?_,by grind⟩;have:=congrArg List.length e
    grind
 ·have:k=a.length:=by omega
  subst this;rw[DU];exact Az.mk (LN (by grind))
def Am1(b:ASA):Prop:=b.2.1.length<=64/\b.1<=4096/\CW b.2.1
abbrev gB(vs:ASQ)(i:Nat):ASA:=vs.getD i Ai.zero
abbrev mgB(vm:List AS1)(i:Int):ASA:=Bs ATE Ai vm i
def Nd(ns:Nat)(vs:ASQ)(A:ASt)(i:Nat):Prop:=((0:Int)<=A.1/\(i:Int)=A.1)\/((0:Int)>A.1/\ns<=i/\i<vs.length/\gB vs i=A.2.1)
def P1(ns:Nat)(rt:Nat->Nat)(vs:ASQ)(x:ASF):Prop:=∃i j,Nd ns vs x.1 i/\Nd ns vs x.2.1 j/\rt i=rt j
def Ext(ns:Nat)(rt:Nat->Nat)(vs:ASQ)(iV:Nat->Nat)(aJ:ASQ):Prop:=(∀i j,rt i=rt j->iV i=iV j)/\∀A i,Nd ns vs A i->Nd ns aJ A i
theorem Ext.refl{ns:Nat}{rt:Nat->Nat}{vs:ASQ}:Ext ns rt vs rt vs:=⟨λ_ _ h=>h,λ_ _ h=>h⟩
theorem Ext.trans{ns:Nat}{rt iV AdD:Nat->Nat}{vs aJ AmX:ASQ}(h:Ext ns rt vs iV aJ)(k:Ext ns iV aJ AdD AmX):Ext ns rt vs AdD AmX:=⟨λi j e=>k.1 i j (h.1 i j e),λA i e=>k.2 A i (h.2 A i e)⟩
theorem P1.mono{ns:Nat}{rt iV:Nat->Nat}{vs aJ:ASQ}(h:Ext ns rt vs iV aJ){x:ASF}(p:P1 ns rt vs x):P1 ns iV aJ x:=by
 obtain⟨i,j,a,b,e⟩:=p;exact⟨i,j,h.2 _ _ a,h.2 _ _ b,h.1 _ _ e⟩
structure JN (H:ASt->ASt->Prop) (ns N:Nat) (ld fx:ASH) (vm:List AS1) (ks:ASM) (vs:ASQ) (Bf:ASH) (rt:Nat->Nat):Prop where
 fo:∃dp,Fo ld rt dp
 l1:ld.length=N
 l2:fx.length=N
 l3:vs.length=N
 l4:Bf.length=N
 nn:ns<=N
 sm:∀i j,i<N->j<N->(gI Bf i=gI Bf j↔rt i=rt j)
 lo:∀i,i<N->0<=gI Bf i/\gI Bf i<=(i:Int)/\gI Bf (gI Bf i).toNat=gI Bf i
 wd:∀i,i<N->((gB vs i).1>0↔ns<=i)
 vl:∀i,i<N->ns<=i->mgB vm (i:Int)=gB vs i
 bw:∀i,i<N->Am1 (gB vs i)
 fx_:∀i,i<N->rt i=i->qu rt ns N i (gI fx i)
 lk_:∀l∈ks,((0:Int)<=l.1/\(N:Int)>l.1)/\(0:Int)<=l.2.1/\(N:Int)>l.2.1
 cn:∀i j:Nat,i<N->j<N->rt i=rt j->Cn ks (i:Int) (j:Int)
 eqv:∀i j,ns<=i->i<N->ns<=j->j<N->rt i=rt j->gB vs i=gB vs j
 lkp:∀l∈ks,∃A B,∃i j:Nat,H A B/\Nd ns vs A i/\Nd ns vs B j/\l.1=(i:Int)/\l.2.1=(j:Int)
theorem zL{ns:Nat}{vs:ASQ}{x:ASA}{A:ASt}{i:Nat}(h:Nd ns vs A i):Nd ns (vs++[x]) A i:=by
 rcases h with h |⟨h1,h2,h3,h4⟩
 ·exact .inl h
 ·exact .inr ⟨h1,h2,by grind,by grind⟩
variable {H:ASt->ASt->Prop}
def aY(ns:Nat)(a:ASt):Prop:=((0:Int)<=a.1/\(ns:Int)>a.1)\/((0:Int)>a.1/\(0:Int)<a.2.1.1/\Am1 a.2.1)
theorem kO{l:ASQ}{x:ASA}{j:Nat}:gB (l++[x]) j=if j=l.length then x else gB l j:=by
 grind
theorem AbF{ns N:Nat}{ld fx:ASH}{vm:ATU AS1}{ks:ASM}{vs:ASQ}{Bf:ASH}{rt:Nat->Nat}(J:JN H ns N ld fx vm ks vs Bf rt){a:ASt}(ha:aY ns a)(hN:N<=2000000)(p q:Int) :
    ∃k N' hU xW yf aJ aU,Bn p a ld fx vm ks=some (((k:Nat):Int),yf,ks,hU,xW)/\Iu q a vs ks Bf=some ((k:Int),ks,aJ,aU)/\k<N'/\N<=N'/\N'<=N+1/\JN H ns N' hU xW yf ks aJ aU rt/\Nd ns aJ a k/\∀A i,Nd ns vs A i->Nd ns aJ A i:=by
 have U6:=J.l1;have b9:=J.l2;have hl3:=J.l3;have hl4:=J.l4;have hnn:=J.nn;unfold Bn Iu;rcases ha with ⟨h0,h1⟩|⟨h0,h1,h2⟩
 ·refine⟨a.1.toNat,N,ld,fx,vm,vs,Bf,?_,?_,by omega,AQl _,by omega,J,.inl ⟨h0,by omega⟩,λ_ _ h=>h⟩
  ·rw[LL,AQv,show((a.1.toNat:Nat):Int)=a.1 by omega]
  ·rw[LL,AQv,show((a.1.toNat:Nat):Int)=a.1 by omega]
 ·obtain⟨dp,hf⟩:=J.fo;have hrN:rt N=N:=hf.out N (by omega);have hd0:decide (a.1>=0)=false:=AQi λh=>by have h:(0:Int)<=a.1:=h;omega
  have zz:∀i,i<N->rt i<N:=λi hi=>by have:=(hf.aX i (by omega)).1;omega
  refine⟨N,N+1,ld++[(N:Int)],fx++[(N:Int)],Cr ATE Ai vm (N:Int) a.2.1,vs++[a.2.1],Bf++[(N:Int)],?_,?_,by omega,by omega,AQl _,?_,.inr ⟨h0,hnn,by simp[hl3],by simp[gB,List.getD,hl3]⟩,λ_ _ h=>zL h⟩
  ·rw[hd0,AQu,AQx (by rw[AQz];omega),AQx (by rw[AQz];omega),U6]
  ·unfold Ld Le;rw[hd0,AQu,AQx (by rw[AQz];omega),AQf,AQx (by rw[AQz];omega),AQf,hl4,AZ (n:=N) (by rw[AQj,AQz];omega) (by omega)]
  ·have fo':=hf.add;rw[U6]at fo';refine⟨⟨dp,fo'⟩,by simp[U6],by simp[b9],by simp[hl3],by simp[hl4],by omega,λi j hi hj=>?_,λi hi=>?_,λi hi=>?_,λi hi hn=>?_,λi hi=>?_,λi hi hr=>?_,λl hl=>?_,λi j hi hj h=>?_,λi j i1 i2 j1 j2 h=>?_,λl hl=>?_⟩
   ·rw[b7,b7,hl4];by_cases e1:i=N<;>by_cases e2:j=N
    ·subst e1;subst e2;simp
    ·subst e1;rw[AQx rfl,AQy e2,hrN];have:=(J.lo j (by omega)).2.1;have:=zz j (by omega);constructor<;>intro h<;>omega
    ·subst e2;rw[AQy e1,AQx rfl,hrN];have:=(J.lo i (by omega)).2.1;have:=zz i (by omega);constructor<;>intro h<;>omega
    ·rw[AQy e1,AQy e2];exact J.sm i j (by omega) (by omega)
   ·rw[b7,hl4];by_cases e1:i=N
    ·subst e1;rw[AQx rfl,AQg,b7,hl4,AQx rfl];omega
    ·rw[AQy e1];obtain⟨a1,a2,a3⟩:=J.lo i (by omega);refine⟨a1,a2,?_⟩;rw[b7,hl4,Q4];exact a3
   ·rw[kO,hl3];by_cases e1:i=N
    ·subst e1;rw[AQx rfl];exact⟨λ_=>hnn,λ_=>h1⟩
    ·rw[AQy e1];exact J.wd i (by omega)
   ·rw[kO,hl3];unfold mgB;rw[SY (vt:=Ai)];by_cases e1:i=N
    ·subst e1;rw[AQx rfl,AQx rfl]
    ·rw[AQy e1,Q4];exact J.vl i (by omega) hn
   ·rw[kO,hl3];by_cases e1:i=N
    ·subst e1;rw[AQx rfl];exact h2
    ·rw[AQy e1];exact J.bw i (by omega)
   ·rw[b7,b9];by_cases e1:i=N
    ·subst e1;rw[AQx rfl];exact .inr ⟨i,rfl,hnn,by omega,hrN,λj j1 j2=>by have:=zz j j2;omega⟩
    ·rw[AQy e1];exact(J.fx_ i (by omega) hr).add hrN (by omega)
   ·have:=J.lk_ l hl;omega
   ·by_cases e1:i=N<;>by_cases e2:j=N
    ·subst e1;subst e2;exact .refl _
    ·subst e1;have:=zz j (by omega);omega
    ·subst e2;have:=zz i (by omega);omega
    ·exact J.cn i j (by omega) (by omega) h
   ·rw[kO,kO,hl3];by_cases e1:i=N<;>by_cases e2:j=N
    ·rw[AQx e1,AQx e2]
    ·subst e1;have:=zz j (by omega);omega
    ·subst e2;have:=zz i (by omega);omega
    ·rw[AQy e1,AQy e2];exact J.eqv i j i1 (by omega) j1 (by omega) h
   ·obtain⟨A,B,i,j,h1,h2,h3,h4,h5⟩:=J.lkp l hl;exact⟨A,B,i,j,h1,zL h2,zL h3,h4,h5⟩
theorem JN.link{ns N:Nat}{ld fx:ASH}{vm:ATU AS1}{ks:ASM}{vs:ASQ}{Bf:ASH}{rt:Nat->Nat}(J:JN H ns N ld fx vm ks vs Bf rt){a b:Nat}(ha:a<N)(hb:b<N)(LN:rt a≠rt b)(o:Int)(hv:∀i j,ns<=i->i<N->ns<=j->j<N->rt i=rt a->rt j=rt b->gB vs i=gB vs j){A B:ASt}(hH:H A B)(hA:Nd ns vs A a)(hB:Nd ns vs B b) :
    JN H ns N (ld.set (rt b) ((rt a:Nat):Int)) (fx.set (rt a) (if 0<=gI fx (rt a)/\0<=gI fx (rt b)then min (gI fx (rt a)) (gI fx (rt b))else max (gI fx (rt a)) (gI fx (rt b)))) vm (ks++[((a:Int),(b:Int),o,())]) vs
     (Bf.map λx=>if x=max (gI Bf a) (gI Bf b)then min (gI Bf a) (gI Bf b)else x) (dS rt (rt a) (rt b)):=by
 have U6:=J.l1;have b9:=J.l2;have hl4:=J.l4;obtain⟨dp,hf⟩:=J.fo;have hra:=hf.cK a;have hrb:=hf.cK b;have hxa:rt a<N:=by have:=(hf.aX a (by omega)).1;omega
 have hxb:rt b<N:=by have:=(hf.aX b (by omega)).1;omega
 generalize hm:min (gI Bf a) (gI Bf b)=m;generalize hM:max (gI Bf a) (gI Bf b)=M;have hg:∀i,i<N->gI (Bf.map λx=>if x=M then m else x) i=if gI Bf i=M then m else gI Bf i:=λi hi =>
  FA (λx=>if x=M then m else x) (y :=ATE.zero) (show i<Bf.length by omega)
 have AKc:gI Bf a≠gI Bf b:=λe=>LN ((J.sm a b ha hb).1 e);obtain⟨a1,a2,a3⟩:=J.lo a ha;obtain⟨b1,b2,b3⟩:=J.lo b hb;refine⟨hf.join (by omega) (by omega) hra hrb LN,by simp[U6],by simp[b9],J.l3,by rw[AQr];exact hl4,J.nn,λi j hi hj=>?_,λi hi=>?_,J.wd,J.vl,J.bw,λi hi hr=>?_,λl hl=>?_,λi j hi hj h=>?_,λi j i1 i2 j1 j2 h=>?_,λl hl=>?_⟩
 ·rw[hg i hi,hg j hj,dT hf.cK hra hrb,<-J.sm i j hi hj,<-J.sm i a hi ha,<-J.sm j b hj hb,<-J.sm i b hi hb,<-J.sm j a hj ha];split<;>split<;>omega
 ·obtain⟨c1,c2,c3⟩:=J.lo i hi;rw[hg i hi];by_cases e:gI Bf i=M
  ·rw[AQx e];refine⟨by omega,by omega,?_⟩;rcases Int.lt_or_gt_of_ne AKc with h |h
   ·have em:m=gI Bf a:=by omega
    rw[em]at hg⊢;rw[hg _ (by omega),a3,Q4]
   ·have em:m=gI Bf b:=by omega
    rw[em]at hg⊢;rw[hg _ (by omega),b3,Q4]
  ·rw[AQy e];refine⟨c1,c2,?_⟩;rw[hg _ (by omega),c3,AQy e]
 ·rw[kP (by omega)];by_cases e:i=rt a
  ·subst e;rw[AQx rfl];exact(J.fx_ _ hxa hra).join LN (J.fx_ _ hxb hrb)
  ·rw[AQy e];have hj:rt i=i/\i≠rt b:=by
    simp only[dS]at hr;split at hr
    ·omega
    ·exact⟨hr,by omega⟩
   exact(J.fx_ i hi hj.1).other e hj.2
 ·rcases List.mem_append.1 hl with hl |hl
  ·exact J.lk_ l hl
  ·rw[AQG]at hl;subst hl;simp only;omega
 ·have hm:∀l∈ks,l∈ks++[((a:Int),(b:Int),o,())]:=λl h=>AQN _ h;have zl:Cn (ks++[((a:Int),(b:Int),o,())]) (a:Int) (b:Int):=Cn.iJ (l:=((a:Int),(b:Int),o,())) (by simp) (.refl _);rcases(dT hf.cK hra hrb i j).1 h with h |⟨h,h'⟩|⟨h,h'⟩
  ·exact(J.cn i j hi hj h).mono hm
  ·exact((J.cn i a hi ha h).mono hm).trans (zl.trans ((J.cn b j hb hj h'.symm).mono hm))
  ·exact((J.cn i b hi hb h).mono hm).trans (zl.symm.trans ((J.cn a j ha hj h'.symm).mono hm))
 ·rcases(dT hf.cK hra hrb i j).1 h with h |⟨h,h'⟩|⟨h,h'⟩
  ·exact J.eqv i j i1 i2 j1 j2 h
  ·exact hv i j i1 i2 j1 j2 h h'
  ·exact(hv j i j1 j2 i1 i2 h' h).symm
 ·rcases List.mem_append.1 hl with hl |hl
  ·exact J.lkp l hl
  ·rw[AQG]at hl;subst hl;exact⟨A,B,a,b,hH,hA,hB,rfl,rfl⟩
end Go.Proofs.X
namespace Go.Proofs.X
open Go Go.Va
set_option maxRecDepth 100000
variable {H:ASt->ASt->Prop}
def JnR(H:ASt->ASt->Prop)(n:ASF)(rt0:Nat->Nat)(vs0:ASQ)(ns N:Nat)(ks:ASM)(x:Bool×ATU AS1×ASH×ASH×ASH×ASM)(y:Bool×ASH×ASQ×ASM×ASH):Prop :=
 (x.1=false/\y.1=false/\x.2.2.1≠[]/\y.2.1≠[]) \/
  (x.1=true/\y.1=true/\∃N' rt,N'<=N+2/\N<=N'/\x.2.2.2.2.2.length<=ks.length+1/\y.2.2.2.1=x.2.2.2.2.2/\JN H ns N' x.2.2.2.1 x.2.2.2.2.1 x.2.1 x.2.2.2.2.2 y.2.2.1 y.2.2.2.2 rt/\Ext ns rt0 vs0 rt y.2.2.1/\P1 ns rt y.2.2.1 n)
theorem Amh{ns N:Nat}{ld fx:ASH}{vm:ATU AS1}{ks:ASM}{vs:ASQ}{Bf:ASH}{rt:Nat->Nat}(J:JN H ns N ld fx vm ks vs Bf rt){n:ASF}(ha:aY ns n.1)(hb:aY ns n.2.1)(hN:N<=1999990)(hk:ks.length<900000)(hH:H n.1 n.2.1)(p q o:Int) :
    ∃x y,JZ p n o ld fx vm ks=some x/\Lu q n o vs ks Bf=some y/\JnR H n rt vs ns N ks x y:=by
 obtain⟨a,N1,ld1,fx1,vm1,vs1,APh,i1,s1,a1,a2,a3,J1,na,X1⟩:=AbF J ha (by omega) p q;obtain⟨b,N2,ld2,fx2,vm2,yg,nQ,i2,s2,b1,b2,b3,J2,nb,X2⟩:=AbF J1 hb (by omega) p q;have U6:=J2.l1;have b9:=J2.l2;have hl3:=J2.l3;have hl4:=J2.l4;obtain⟨dp,hf⟩:=J2.fo;obtain⟨r1,e1,l1,rfl,q1,q2⟩:=rB hf (j:=a) (by omega) p fx2 vm2 ks;obtain⟨r2,e2,l2,rfl,q3,q4⟩:=rB q2 (j:=b) (by omega) p fx2 vm2 ks;have J3:JN H ns N2 l2 fx2 vm2 ks yg nQ rt:=⟨⟨dp,q4⟩,by omega,J2.l2,J2.l3,J2.l4,J2.nn,J2.sm,J2.lo,J2.wd,J2.vl,J2.bw,J2.fx_,J2.lk_,J2.cn,J2.eqv,J2.lkp⟩;have hra:rt a<N2:=by have:=(hf.aX a (by omega)).1;omega
 have hrb:rt b<N2:=by have:=(hf.aX b (by omega)).1;omega
 have hsm:=J2.sm a b (by omega) b1;unfold JZ Jv Lu;rw[i1,AQf,s1,AQf];simp only;rw[i2,AQf,s2,AQf,AQf];simp only;rw[e1,AQf,AQx (show(0:Int)<=(a:Int)/\(a:Int)<(nQ.length:Int) by omega),AQx (show(0:Int)<=(b:Int)/\(b:Int)<(nQ.length:Int) by omega)];simp only[AQg];rw[e2,AQf];simp only[AQg];by_cases zl:rt a=rt b
 ·have g1:(nQ.getD a ATE.zero==nQ.getD b ATE.zero)=true:=by rw[ARm];exact hsm.2 zl
  rw[g1,AQv,zl,ASo,AQv];exact⟨_,_,rfl,rfl,.inr ⟨rfl,rfl,N2,rt,by omega,by omega,by simp only;omega,rfl,J3,⟨λ_ _ h=>h,λA i h=>X2 A i (X1 A i h)⟩,a,b,X2 _ _ na,nb,zl⟩⟩
 ·have g1:(nQ.getD a ATE.zero==nQ.getD b ATE.zero)=false:=by rw[beq_eq_false_iff_ne];exact λe=>zl (hsm.1 e)
  have g2:(((rt a:Nat):Int)==((rt b:Nat):Int))=false:=by rw[beq_eq_false_iff_ne];omega
  obtain⟨w1,f1,v1,rfl,F1⟩:=kK (rt:=rt) (ns:=ns) (vs:=yg) (Bf:=nQ) (by omega) (λi j hi hj=>J2.sm i j (by omega) (by omega)) (λi hi=>J2.wd i (by omega)) (by omega) (b:=a) (by omega) q ks;obtain⟨w2,f2,v2,rfl,F2⟩:=kK (rt:=rt) (ns:=ns) (vs:=yg) (Bf:=nQ) (by omega) (λi j hi hj=>J2.sm i j (by omega) (by omega)) (λi hi=>J2.wd i (by omega)) (by omega) (b:=b) (by omega) q ks;rw[hl4]at F1 F2;rw[g1,AQu,g2,AQu,f1,AQf];simp only;rw[f2,AQf];simp only;have rL:(ks.length+([((a:Int),(b:Int),o,())]:ASM).length)*24<=140737488355328:=by rw[AQz];omega
  have u1:gI fx2 (rt a)=v1:=(J2.fx_ _ hra (hf.cK a)).uniq F1;have u2:gI fx2 (rt b)=v2:=(J2.fx_ _ hrb (hf.cK b)).uniq F2;have x1:fx2.getD (rt a) ATE.zero=v1:=u1;have x2:fx2.getD (rt b) ATE.zero=v2:=u2;have d1:=F1.ge;have d2:=F2.ge;rw[AQx rL,AQx rL,AQx (show(0:Int)<=((rt a:Nat):Int)/\((rt a:Nat):Int)<(fx2.length:Int) by omega),AQx (show(0:Int)<=((rt b:Nat):Int)/\((rt b:Nat):Int)<(fx2.length:Int) by omega),x1,x2];have lkN:∀l∈ks++[((a:Int),(b:Int),o,())],((0:Int)<=l.1/\(N2:Int)>l.1)/\(0:Int)<=l.2.1/\(N2:Int)>l.2.1:=λl hl=>by
   rcases List.mem_append.1 hl with hl |hl
   ·exact J2.lk_ l hl
   ·rw[AQG]at hl;subst hl;simp only;omega
  have AOC:(ks++[((a:Int),(b:Int),o,())]).length=ks.length+1:=by rw[AQj,AQz]
  have AvH:∀c:Int,c=(if 0<=v1/\0<=v2 then min v1 v2 else v1)->(∀i j,ns<=i->i<N2->ns<=j->j<N2->rt i=rt a->rt j=rt b->gB yg i=gB yg j) ->
      ∃ x y,(if(0:Int)<=((rt b:Nat):Int)/\((rt b:Nat):Int)<(l2.length:Int)then
          if(0:Int)<=((rt a:Nat):Int)/\((rt a:Nat):Int)<(fx2.length:Int)then
          (Eg p c ((rt a:Nat):Int) v2 vm2 (l2.set (rt b) ((rt a:Nat):Int)) (fx2.set (rt a) (if v2>c then v2 else c)) (ks++[((a:Int),(b:Int),o,())])).bind λk =>
          some (true,vm2,([]:ASH),l2.set (rt b) ((rt a:Nat):Int),k,ks++[((a:Int),(b:Int),o,())])
          else none else none)=some x /\
       ((K9 (a:Int) (b:Int) nQ).bind λb1=>some (true,([]:ASH),yg,ks++[((a:Int),(b:Int),o,())],b1))=some y/\JnR H n rt vs ns N ks x y:=λc hc hv=>by
   have JL:=J3.link (a:=a) (b:=b) (by omega) b1 zl o hv hH (X2 _ _ na) nb;rw[u1,u2]at JL;rw[VI,VI,wB (by omega) (by omega) (by omega),AQf];have e4:Eg p c ((rt a:Nat):Int) v2 vm2 (l2.set (rt b) ((rt a:Nat):Int)) (fx2.set (rt a) (if v2>c then v2 else c)) (ks++[((a:Int),(b:Int),o,())])=some (fx2.set (rt a) (if 0<=v1/\0<=v2 then min v1 v2 else max v1 v2)):=by
    unfold Eg Po;by_cases hv:0<=v1/\0<=v2
    ·rw[AQx hv]at hc⊢;rw[AQk (show c>=0 by omega),AQk (show v2>=0 by omega),Bool.and_self,AQv,AQx (by rw[AQo];omega),AQg,ASk,hc]
    ·rw[AQy hv]at hc⊢;rw[show(decide (c>=0)&&decide (v2>=0))=false by rw[<-Bool.not_eq_true,AQm,AR1,AR1];omega,AQu,hc];congr 2;split<;>omega
   rw[e4,AQf];exact⟨_,_,rfl,rfl,.inr ⟨rfl,rfl,N2,_,by omega,by omega,by simp only;omega,rfl,JL,⟨λi j h=>(dT hf.cK (hf.cK a) (hf.cK b) i j).2 (.inl h),λA i h=>X2 A i (X1 A i h)⟩,a,b,X2 _ _ na,nb,(dT hf.cK (hf.cK a) (hf.cK b) a b).2 (.inr (.inl ⟨rfl,rfl⟩))⟩⟩
  unfold Jw Po Lc;by_cases h1:0<=v1
  ·by_cases h2:0<=v2
   ·obtain⟨c1,rfl⟩:∃c:Nat,v1=(c:Int):=⟨v1.toNat,by omega⟩;obtain⟨c2,rfl⟩:∃c:Nat,v2=(c:Int):=⟨v2.toNat,by omega⟩;have t1:c1<N2/\ns<=c1/\rt c1=rt a:=by
     rcases F1 with ⟨h,_⟩|⟨j,h,h3,h4,h5,_⟩
     ·omega
     ·have:j=c1:=by omega
      subst this;exact⟨h4,h3,h5⟩
    have t2:c2<N2/\ns<=c2/\rt c2=rt b:=by
     rcases F2 with ⟨h,_⟩|⟨j,h,h3,h4,h5,_⟩
     ·omega
     ·have:j=c2:=by omega
      subst this;exact⟨h4,h3,h5⟩
    have m1:Bs ATE Ai vm2 (c1:Int)=gB yg c1:=J2.vl c1 t1.1 t1.2.1;have m2:Bs ATE Ai vm2 (c2:Int)=gB yg c2:=J2.vl c2 t2.1 t2.2.1;have bs:=(J2.bw c1 t1.1).1;obtain⟨r,er,hr⟩:=Zg (a:=gB yg c1) (AQJ bs (by decide)) (gB yg c2);obtain⟨r',er',hr'⟩:=im (a:=gB yg c1) (AQJ bs (by decide)) (gB yg c2);have err:r'=r:=by rw[AR2,hr,hr']
    subst err;rw[AQk (show(c1:Int)>=0 by omega),AQk (show(c2:Int)>=0 by omega),Bool.and_self,AQv,AQv,AQv];simp only[AQg];rw[AQx (show(0:Int)<=(c1:Int)/\(c1:Int)<(yg.length:Int) by omega),AQx (show(0:Int)<=(c2:Int)/\(c2:Int)<(yg.length:Int) by omega),m1,m2,er];rw[show Ey (yg.getD c1 Ai.zero) (yg.getD c2 Ai.zero)=some r' from er'];simp only[AQf];cases r' with
    |false =>
     simp only[ARK,AQv];have hcn:Cn (ks++[((a:Int),(b:Int),o,())]) (c1:Int) (c2:Int):=by
      have hm:∀l∈ks,l∈ks++[((a:Int),(b:Int),o,())]:=λl h=>AQN _ h;exact((J2.cn c1 a t1.1 (by omega) t1.2.2).mono hm).trans ((Cn.iJ (l:=((a:Int),(b:Int),o,())) (by simp) (.refl _)).trans ((J2.cn b c2 b1 t2.1 t2.2.2.symm).mono hm))
     have LN:(c1:Int)≠(c2:Int):=λe=>by
      have e:c1=c2:=by omega
      rw[e]at t1;exact zl (by rw[<-t1.2.2,<-t2.2.2])
     have hlk:=lkN;obtain⟨w,ew,hw⟩:=AwS (v:=ks++[((a:Int),(b:Int),o,())]) (N:=N2) (by omega) (by omega) hlk (a:=(c1:Int)) (g:=(c2:Int)) (by omega) (Ne.symm LN) hcn;obtain⟨y,ey,hy,hy2⟩:=Ah1 (ls:=ks++[((a:Int),(b:Int),o,())]) (by omega) (λl h=>by have:=hlk l h;omega) (b:=(c1:Int)) (c:=(c2:Int)) (by omega) LN hcn;obtain⟨z,ez,hz⟩:=AdB hy (by omega);rw[ew,AQf,AQf,ARy,AQx ⟨rfl,by omega,ARs _,by omega,by omega⟩,ey,AQf,ez,AQf];exact⟨_,_,rfl,rfl,.inl ⟨rfl,rfl,hw,hz⟩⟩
    |true =>
     simp only[AQZ,AQu,AQf,ARi];exact AvH _ (by have hcc:(0:Int)<=(c1:Int)/\(0:Int)<=(c2:Int):=⟨by omega,by omega⟩;rw[AQx hcc];split<;>omega) λi j i1 i2 j1 j2 hi hj=>by
      rw[J2.eqv i c1 i1 i2 t1.2.1 t1.1 (hi.trans t1.2.2.symm),J2.eqv j c2 j1 j2 t2.2.1 t2.1 (hj.trans t2.2.2.symm)];exact hr.1 rfl
   ·rw[show(decide (v1>=0)&&decide (v2>=0))=false by rw[AQi (show ¬v2>=0 by omega),Bool.and_false],AQu,AQk (show v1>=0 by omega),AQv,AQi (show ¬v2>=0 by omega),AQu];simp only[AQf,ARi,AQu,AQg];exact AvH _ (by rw[Q4]) λi j i1 i2 j1 j2 hi hj=>by
     rcases F2 with ⟨_,h⟩|⟨j',h,_⟩
     ·exact(h j j1 j2 hj).elim
     ·omega
  ·rw[show(decide (v1>=0)&&decide (v2>=0))=false by rw[AQi (show ¬v1>=0 by omega),Bool.false_and],AQu,AQi (show ¬v1>=0 by omega),AQu];simp only[AQf,ARi,AQu,AQg];exact AvH _ (by rw[Q4]) λi j i1 i2 j1 j2 hi hj=>by
    rcases F1 with ⟨_,h⟩|⟨j',h,_⟩
    ·exact(h i i1 i2 hi).elim
    ·omega
end Go.Proofs.X
namespace Go.Proofs.X
open Go Go.Va
set_option maxRecDepth 100000
theorem ZX{d:ASL}{f:Nat->Nat->Bool}(ht:∀v p,f v p=true->v<d.length/\1<=p/\p<W d v):C0 (Ax d f)=f:=by
 funext v p
 rw[AR2];unfold C0;by_cases hv:v<d.length
 ·rw[oH hv,List.contains_iff_mem,ic]
  grind
 ·constructor
  ·intro h;have:DJ (Ax d f) v=[]:=by unfold DJ Ax;simp[hv]
   rw[this]at h;simp at h
  ·grind
def uc(d:ASL)(l:ASN)(f:Nat->Nat->Bool)(i:Nat):AST:=PP (SL d (Ax d f) d.length) (b1 d l i) (b2 d l i) 0 (eL (b1 d l i) (b2 d l i) f (b1 d l i).length++[(b1 d l i).length])
section
variable {d:ASL} {l:ASN} {f:Nat->Nat->Bool}
theorem Ajg(hd:AE d)(hl:∀x∈l,Kr x)(NA:Fz d l)(hs:Cz d l)(OO:EC d l f)(ht:∀v p,f v p=true->v<d.length/\1<=p/\p<W d v){i:Nat}(hi:i<l.length) :
    Pr d (l.getD i Af.zero) (Ax d f,())=some (true,uc d l f i):=by
 have hC0:=ZX ht;obtain⟨aj,hc⟩:=QY hd f;generalize hx:l.getD i Af.zero=x;have hxl:Kr x:=by grind
 have U6:∀y∈[x],Kr y:=λy hy=>by grind
 have eS:lS [x] 0=lS l i:=by unfold lS li;rw[hx];rfl
 have eT:lT [x] 0=lT l i:=by unfold lT li;rw[hx];rfl
 have eB1:b1 d [x] 0=b1 d l i:=by unfold b1;rw[eS]
 have eB2:b2 d [x] 0=b2 d l i:=by unfold b2;rw[eT]
 have Av5:Fz d [x]:=⟨by simp,λj hj=>by
  have:j=0:=by grind
  subst this;obtain⟨h1,_,h3,h4⟩:=NA.2 i hi;have eI:gX [x] 0=gX l i:=by unfold gX li;rw[hx];rfl
  exact⟨by grind,λh=>by omega,by grind,by grind⟩⟩
 have Sx:Cz d [x]:=λj hj=>by
  have:j=0:=by simp at hj;omega
  subst this;have:=hs i hi;unfold jO at this⊢;rw[eS,eT];exact this
 have AJV:EC d [x] f:=λj hj=>by
  have:j=0:=by simp at hj;omega
  subst this;rw[eB1,eB2];exact OO i hi
 obtain⟨rc,ec,himp,UN⟩:=uS (d:=d) hc U6;obtain⟨q1,e1,h1⟩:=WV (d:=d) hc;obtain⟨q2,e2,h2⟩:=ZN (d:=d) U6;rcases UN with ⟨_,aT⟩|⟨_,_,_,_,f',rfl,hf⟩
 ·exact(aT ⟨hd,aj,Av5,Sx⟩).elim
 have hff:f'=f:=by
  funext v p
  rw[AR2];exact⟨hf.min f AJV (by rw[hC0];exact λ_ _ h=>h) v p,λh=>hf.le v p (by rw[hC0];exact h)⟩
 subst hff;have hB:=U6 _ (List.mem_singleton.2 rfl);obtain⟨s1,s2,s3,s4,s5,s6⟩:=PQ hd U6 Av5 Sx (show 0<[x].length by simp);rw[eB1]at s1 s3 s5;rw[eB2]at s2 s3 s6;have g1:BG d x.2.2.1=some (DV d (lS [x] 0)):=HH hd hB.1;have g2:BG d x.2.2.2.1=some (DV d (lT [x] 0)):=HH hd hB.2;have BS:nc d (b1 d l i) (b2 d l i) (C0 (Ax d f')):=by rw[hC0];exact OO i hi
 unfold Pr N9 Oa;rw[e1,h1.2 ⟨hd,aj⟩];simp only[AQZ,AQu,e2,h2.2 ⟨hd,Av5⟩,AQf];rw[ec,AQf];simp only[AQZ,AQu];rw[sX hd aj hc,AQf,AQf,AQf,ARD];rw[g1,AQf,g2,AQf,s5,s6];rw[Ais hd s1,AQf,Ais hd s2,AQf,eM hd aj hc,AQf,Aii hd aj hc,AQf,Xe hd aj hc,AQf];rw[oc hd aj s1 s2 s3 BS];rw[hC0];rfl
theorem AhV(hd:AE d)(hl:∀x∈l,Kr x)(NA:Fz d l)(hs:Cz d l)(OO:EC d l f)(ht:∀v p,f v p=true->v<d.length/\1<=p/\p<W d v){i:Nat}(hi:i<l.length)(a:Int)(x:ASL)(y:ASN) :
    ID a (i:Int) x y ((List.range l.length).map (OH d l)) (Ax d f) (SL d (Ax d f) d.length) (ji (SL d (Ax d f) d.length) (SL d (Ax d f) d.length).length) =
     some (uc d l f i,x,y,(List.range l.length).map (OH d l),Ax d f,SL d (Ax d f) d.length,ji (SL d (Ax d f) d.length) (SL d (Ax d f) d.length).length):=by
 have hC0:=ZX ht;obtain⟨aj,hc⟩:=QY hd f;obtain⟨s1,s2,s3,s4,s5,s6⟩:=PQ hd hl NA hs hi;have BS:nc d (b1 d l i) (b2 d l i) (C0 (Ax d f)):=by rw[hC0];exact OO i hi
 have hlen:i<((List.range l.length).map (OH d l)).length:=by grind
 unfold ID;rw[AQx (Bj hlen),AQx (Bj hlen),AQg,Gt hi,s4];rw[nM hd aj hc s1 s2 s3 BS,hC0];rfl
theorem Avi{B:ATU Bt}(h:Bm d B){L:ASM}{a b:Nat}(zl:a<b)(hb:b<=B.length)(hn:∀v x,JO B a=.va v x->∃n,HF L (nk v x) L.length=some n):aY L.length (Wz L B a b):=by
 unfold Wz;split
 ·refine .inr ⟨by omega,?_,?_⟩
  ·show 0<((uU B a _).length:Int);unfold uU
   grind
  ·have hl:(uU B a (b-a)).length<=4096:=by
     unfold uU;rw[AQr,AQA];have:=h.2.1;omega
   obtain⟨h1,h2⟩:=pB _;refine⟨?_,?_,h2⟩
   ·rw[h1];unfold nw;omega
   ·show((uU B a _).length:Int)<=4096;omega
 ·rename_i v x hq;obtain⟨n,hn⟩:=hn v x hq;rw[hn];have:=(WG hn).1;exact .inl ⟨by show 0<=(n:Int);omega,by show L.length>(n:Int);omega⟩
theorem vr{c:ASV}{B:ATU Bt}(h:Bm d B){a b i k:Nat}(S:mZ d c B a b i k):aY (SL d c d.length).length (Wz (SL d c d.length) B a b):=Avi h S.lt S.le λv x hq=>by
 rw[jy S]at hq;have hk:=S.hk;have Bp:=S.lt;cases hs:(AA B).getD i _ with
 |co y =>
  rw[hs]at hq hk;simp only[Sg.w]at hk;rw[show(Sg.co y).bits=y.map _ from rfl,FA _ (y:=false) (by omega)]at hq;cases hq
 |va v' l' n =>
  rw[hs]at hq hk;simp only[Sg.w]at hk;rw[show(Sg.va v' l' n).bits=(List.range n).map _ from rfl,Gt (by omega)]at hq;injection hq with e1 e2;subst e1;subst e2;obtain⟨m,hm,_⟩:=S.va _ _ _ hs;exact⟨m,hm⟩
theorem qy{B1 B2:ATU Bt}{h:Nat->Nat->Bool}{L:ASM}:∀{p:Nat},p<=B1.length->∀x∈PP L B1 B2 0 (eL B1 B2 h p),∃a b,Gap B1 B2 h a b/\x=pcV L B1 B2 a b
 |0,_,x,hx=>by simp[eL,PP]at hx
 |1,_,x,hx=>by rw[zf]at hx;simp[PP]at hx
 |p+2,hp,x,hx=>by
  rw[dy _ (by omega)]at hx;split at hx
  ·rename_i hP;rw[UX]at hx;rcases List.mem_append.1 hx with hx |hx
   ·exact qy (by omega) x hx
   ·rw[AQG]at hx;exact⟨_,_,b8 (by omega) (by omega) (.inr hP),hx⟩
  ·exact qy (by omega) x hx
theorem wO(hd:AE d)(hl:∀x∈l,Kr x)(NA:Fz d l)(hs:Cz d l)(OO:EC d l f)(ht:∀v p,f v p=true->v<d.length/\1<=p/\p<W d v){i:Nat}(hi:i<l.length) :
    (uc d l f i).length<=4097/\∀x∈uc d l f i,aY (SL d (Ax d f) d.length).length x.1/\aY (SL d (Ax d f) d.length).length x.2.1:=by
 have hC0:=ZX ht;obtain⟨aj,hc⟩:=QY hd f;obtain⟨s1,s2,s3,s4,s5,s6⟩:=PQ hd hl NA hs hi;have BS:nc d (b1 d l i) (b2 d l i) (C0 (Ax d f)):=by rw[hC0];exact OO i hi
 have x7:=s1.1;have hn2:=s1.2.1;refine⟨?_,λx hx=>?_⟩
 ·unfold uc;rw[qz,AQj,AQz];have:=ze (B1:=b1 d l i) (B2:=b2 d l i) (h:=f) (b1 d l i).length;omega
 ·have hg:∃a b,Gap (b1 d l i) (b2 d l i) f a b/\x=pcV (SL d (Ax d f) d.length) (b1 d l i) (b2 d l i) a b:=by
    unfold uc at hx;rw[UX]at hx;rcases List.mem_append.1 hx with hx |hx
    ·exact qy (AQl _) x hx
    ·rw[AQG]at hx;exact⟨_,_,b8 (by omega) (AQl _) (.inl rfl),hx⟩
  obtain⟨a,b,g,rfl⟩:=hg;have g':Gap (b1 d l i) (b2 d l i) (C0 (Ax d f)) a b:=by grind
  obtain⟨⟨i1,k1,S1⟩,i2,k2,S2⟩:=ah hd aj s1 s2 s3 BS g';exact⟨vr s1 S1,vr s2 S2⟩
end
end Go.Proofs.X
namespace Go.Proofs.X
open Go Go.Va
set_option maxRecDepth 100000
variable {H:ASt->ASt->Prop}
theorem Aiv{ns:Nat}{P:AST}(hH:∀x∈P,H x.1 x.2.1)(hP:∀x∈P,aY ns x.1/\aY ns x.2.1)(hPl:P.length<=4097){l:ASN}{i:Nat}(hi:i<l.length)
    (a c d:Int) (b1:ASL) (c1:ASN) (d1:ATU ud) (e1:ASV) (g1:ASM) (i1:ATU AS4) (sd:ASL) (sn se:Int) (sg si:ASC) :
    ∀(m k N:Nat) (ld fx:ASH) (vm:ATU AS1) (ks:ASM) (vs:ASQ) (Bf:ASH) (rt:Nat->Nat),k+m=P.length->JN H ns N ld fx vm ks vs Bf rt->N+2*m<=1999990->ks.length+m<900000 ->
     ∃x y,Dh a c l d (i:Int) P (P.length:Int) b1 c1 d1 e1 g1 i1 (l.getD i Af.zero) (k:Int) ld fx vm ks=some x/\F0 sd l sn se (i:Int) sg si P (k:Int) vs ks Bf=some y /\
      ((∃w z,x=.inl w/\y=.inl z/\w.1≠[]/\z.1≠[])\/∃hU xW yf Vb aJ aU iV N',x=.inr (hU,xW,yf,Vb)/\y=.inr (aJ,Vb,aU)/\JN H ns N' hU xW yf Vb aJ aU iV/\N'<=N+2*m/\Vb.length<=ks.length+m/\Ext ns rt vs iV aJ/\∀x∈P.drop k,P1 ns iV aJ x)
 |0,k,N,ld,fx,vm,ks,vs,Bf,rt,hk,J,h1,h2=>by
  have:k=P.length:=by omega
  subst this;refine⟨.inr (ld,fx,vm,ks),.inr (vs,ks,Bf),?_,?_,.inr ⟨ld,fx,vm,ks,vs,Bf,rt,N,rfl,rfl,J,by omega,by omega,.refl,λx hx=>by simp at hx⟩⟩
  ·unfold Dh;refine Ix ?_;unfold CG Dw;simp only;rw[DU,AQu]
  ·unfold F0;refine Ix ?_;unfold Em GD;simp only;rw[DU,AQu]
 |m+1,k,N,ld,fx,vm,ks,vs,Bf,rt,hk,J,h1,h2=>by
  have Bp:k<P.length:=by omega
  obtain⟨hA,hB⟩:=hP _ (AK (z :=As.zero) Bp);obtain⟨x,y,ex,ey,hR⟩:=Amh J hA hB (by omega) (by omega) (hH _ (AK Bp)) c se (l.getD i Af.zero).1;have hw:wI ((k:Int)+1)=((k+1:Nat):Int):=AZ;obtain⟨x1,x2,x3,x4,x5,x6⟩:=x;obtain⟨y1,y2,y3,y4,y5⟩:=y;rcases hR with ⟨rfl,rfl,n1,n2⟩|⟨rfl,rfl,N',iV,r1,r2,r3,r4,J',z1,z2⟩
  ·refine⟨.inl (x3,x4,x5,x2,x6),.inl (y2,y3,y4,y5),?_,?_,.inl ⟨_,_,rfl,rfl,n1,n2⟩⟩
   ·unfold Dh;refine Ix ?_;unfold CG Dw;simp only[AQg];rw[C9 Bp,AQv,AQx (Bj Bp),ex,AQf];rfl
   ·unfold F0;refine Ix ?_;unfold Em GD;simp only[AQg];rw[C9 Bp,AQv,AQx (Bj Bp),AQx (Bj hi),ey,AQf];rfl
  ·simp only at r3 r4 J' z1 z2;subst r4;obtain⟨X,Y,eX,eY,hX⟩:=Aiv hH hP hPl hi a c d b1 c1 d1 e1 g1 i1 sd sn se sg si m (k+1) N' x4 x5 x2 y4 y3 y5 iV (by omega) J' (by omega) (by omega);refine⟨X,Y,?_,?_,?_⟩
   ·rw[<-eX];unfold Dh;refine Li ?_;unfold CG Dw;simp only[AQg];rw[C9 Bp,AQv,AQx (Bj Bp),ex,AQf,hw];rfl
   ·rw[<-eY];unfold F0;refine Li ?_;unfold Em GD;simp only[AQg];rw[C9 Bp,AQv,AQx (Bj Bp),AQx (Bj hi),ey,AQf,hw];rfl
   ·rcases hX with h |⟨hU,xW,yf,Vb,aJ,aU,AdD,N'',q1,q2,q3,q4,q5,q6,q7⟩
    ·exact .inl h
    ·refine .inr ⟨hU,xW,yf,Vb,aJ,aU,AdD,N'',q1,q2,q3,by omega,by omega,z1.trans q6,λx hx=>?_⟩;rw[AR7 Bp]at hx;rcases List.mem_cons.1 hx with rfl |hx
     ·exact(show P1 ns iV y3 P[k] by rw[show P[k]=P.getD k As.zero by simp[List.getD,Bp]];exact z2).mono q6
     ·exact q7 x hx
section
variable {d:ASL} {l:ASN} {f:Nat->Nat->Bool}
theorem sr(hH:∀i,i<l.length->∀x∈uc d l f i,H x.1 x.2.1)(hd:AE d)(hl:∀x∈l,Kr x)(NA:Fz d l)(hs:Cz d l)(OO:EC d l f)(ht:∀v p,f v p=true->v<d.length/\1<=p/\p<W d v)(a c sn se:Int) :
    ∀(m i N:Nat) (ld fx:ASH) (vm:ATU AS1) (ks:ASM) (vs:ASQ) (Bf:ASH) (rt:Nat->Nat),i+m=l.length->JN H (SL d (Ax d f) d.length).length N ld fx vm ks vs Bf rt->N+8194*m<=1999990->ks.length+4097*m<900000 ->
     ∃x y,Cy a l c (l.length:Int) (i:Int) d l ((List.range l.length).map (OH d l)) (Ax d f) (SL d (Ax d f) d.length) (ji (SL d (Ax d f) d.length) (SL d (Ax d f) d.length).length) ld fx vm ks=some x /\
      Ea d l sn se (Ax d f,()) (Ax d f,()) (i:Int) vs ks Bf=some y /\
      ((∃w z,x=.inl w/\y=.inl z/\w.2.2.2.2.2.2.1≠[]/\z.1≠[])\/∃hU xW yf Vb aJ aU iV N',x=.inr (d,l,(List.range l.length).map (OH d l),Ax d f,SL d (Ax d f) d.length,ji (SL d (Ax d f) d.length) (SL d (Ax d f) d.length).length,hU,xW,yf,Vb)/\y=.inr (aJ,Vb,aU)/\JN H (SL d (Ax d f) d.length).length N' hU xW yf Vb aJ aU iV/\N'<=1999990/\Ext (SL d (Ax d f) d.length).length rt vs iV aJ/\∀i',i<=i'->i'<l.length->(l.getD i' Af.zero).2.1=true->∀x∈uc d l f i',P1 (SL d (Ax d f) d.length).length iV aJ x)
 |0,i,N,ld,fx,vm,ks,vs,Bf,rt,hk,J,h1,h2=>by
  have:i=l.length:=by omega
  subst this;refine⟨.inr (d,l,(List.range l.length).map (OH d l),Ax d f,SL d (Ax d f) d.length,ji (SL d (Ax d f) d.length) (SL d (Ax d f) d.length).length,ld,fx,vm,ks),.inr (vs,ks,Bf),?_,?_,.inr ⟨ld,fx,vm,ks,vs,Bf,rt,N,rfl,rfl,J,by omega,.refl,λi' h1 h2=>by omega⟩⟩
  ·unfold Cy;refine Ix ?_;unfold B8 CH;simp only;rw[DU,AQu]
  ·unfold Ea;refine Ix ?_;unfold De En;simp only;rw[DU,AQu]
 |m+1,i,N,ld,fx,vm,ks,vs,Bf,rt,hk,J,h1,h2=>by
  have Bp:i<l.length:=by omega
  have dO:=NA.1;have hw:wI ((i:Int)+1)=((i+1:Nat):Int):=AZ;cases hE:(l.getD i Af.zero).2.1 with
  |false =>
   obtain⟨X,Y,eX,eY,hX⟩:=sr hH hd hl NA hs OO ht a c sn se m (i+1) N ld fx vm ks vs Bf rt (by omega) J (by omega) (by omega);refine⟨X,Y,?_,?_,?_⟩
   rotate_right
   ·rcases hX with h |⟨hU,xW,yf,Vb,aJ,aU,iV,N',q1,q2,q3,q4,q5,q6⟩
    ·exact .inl h
    ·refine .inr ⟨hU,xW,yf,Vb,aJ,aU,iV,N',q1,q2,q3,q4,q5,λi' h1 h2 h3=>?_⟩;by_cases e:i'=i
     ·subst e;rw[hE]at h3;cases h3
     ·exact q6 i' (by omega) h2 h3
   ·rw[<-eX];unfold Cy;refine Li ?_;unfold B8 CH Di;simp only[AQg];rw[C9 Bp,AQv,AQx (Bj Bp),hE,hw];rfl
   ·rw[<-eY];unfold Ea;refine Li ?_;unfold De En F3;simp only[AQg];rw[C9 Bp,AQv,AQx (Bj Bp),hE,hw];rfl
  |true =>
   have eP:=AhV hd hl NA hs OO ht Bp a d l;have eS:=Ajg hd hl NA hs OO ht Bp;obtain⟨p1,p2⟩:=wO hd hl NA hs OO ht Bp;obtain⟨x,y,ex,ey,hR⟩:=Aiv (hH i Bp) p2 p1 Bp a c (l.length:Int) d l ((List.range l.length).map (OH d l)) (Ax d f) (SL d (Ax d f) d.length) (ji (SL d (Ax d f) d.length) (SL d (Ax d f) d.length).length) d sn se (Ax d f,()) (Ax d f,()) (uc d l f i).length 0 N ld fx vm ks vs Bf rt (by omega) J (by omega) (by omega);have e0:((0:Nat):Int)=0:=rfl;rw[e0]at ex ey;rcases hR with ⟨w,z,rfl,rfl,n1,n2⟩|⟨hU,xW,yf,Vb,aJ,aU,iV,N',rfl,rfl,J',q1,q2,q3,q4⟩
   ·refine⟨.inl (d,l,(List.range l.length).map (OH d l),Ax d f,SL d (Ax d f) d.length,ji (SL d (Ax d f) d.length) (SL d (Ax d f) d.length).length,w.1,w.2.1,w.2.2.1,w.2.2.2.1,w.2.2.2.2),.inl (z.1,z.2.1,z.2.2.1,z.2.2.2),?_,?_,.inl ⟨_,_,rfl,rfl,n1,n2⟩⟩
    ·unfold Cy;refine Ix ?_;unfold B8 CH Di;simp only[AQg];rw[C9 Bp,AQv,AQx (Bj Bp),hE,AQZ,AQu,eP,AQf];simp only;rw[ex];rfl
    ·unfold Ea;refine Ix ?_;unfold De En F3;simp only[AQg];rw[C9 Bp,AQv,AQx (Bj Bp),AQx (Bj Bp),hE,AQZ,AQu,eS,AQf];simp only;rw[ey];rfl
   ·obtain⟨X,Y,eX,eY,hX⟩:=sr hH hd hl NA hs OO ht a c sn se m (i+1) N' hU xW yf Vb aJ aU iV (by omega) J' (by omega) (by omega);refine⟨X,Y,?_,?_,?_⟩
    rotate_right
    ·rcases hX with h |⟨AK0,AJy,AK8,Ah0,AmX,AHa,AdD,N'',u1,u2,u3,u4,u5,u6⟩
     ·exact .inl h
     ·refine .inr ⟨AK0,AJy,AK8,Ah0,AmX,AHa,AdD,N'',u1,u2,u3,u4,q3.trans u5,λi' h1 h2 h3=>?_⟩;by_cases e:i'=i
      ·subst e;exact λx hx=>(q4 x (by simpa using hx)).mono u5
      ·exact u6 i' (by omega) h2 h3
    ·rw[<-eX];unfold Cy;refine Li ?_;unfold B8 CH Di;simp only[AQg];rw[C9 Bp,AQv,AQx (Bj Bp),hE,AQZ,AQu,eP,AQf,hw];simp only;rw[ex];rfl
    ·rw[<-eY];unfold Ea;refine Li ?_;unfold De En F3;simp only[AQg];rw[C9 Bp,AQv,AQx (Bj Bp),AQx (Bj Bp),hE,AQZ,AQu,eS,AQf,hw];simp only;rw[ey];rfl
end
end Go.Proofs.X
namespace Go.Proofs.X
open Go Go.Va
set_option maxRecDepth 100000
variable {H:ASt->ASt->Prop}
def isR(rt:Nat->Nat)(i:Nat):Bool:=(List.range i).all λj=>rt j !=rt i
def Dd(rt:Nat->Nat):Nat->ASJ
 |0=>[]
 |i+1=>if isR rt i=true then Dd rt i++[i]else Dd rt i
def Sn(rt:Nat->Nat):Nat->Nat->ASH
 |0,_=>[]
 |i+1,a=>if rt i=rt a then Sn rt i a++[(i:Int)]else Sn rt i a
theorem sa{rt:Nat->Nat}{i:Nat}:isR rt i=true↔∀j,j<i->rt j≠rt i:=by
 unfold isR;simp
theorem sc{rt:Nat->Nat}{i:Nat}(h:isR rt i=false):∃j,j<i/\rt j=rt i:=by
 unfold isR at h
 grind
abbrev rp(rt:Nat->Nat)(i k:Nat):Nat:=(Dd rt i).getD k 0
theorem jw(rt:Nat->Nat):∀i,(Dd rt i).length<=i
 |0=>AQl _
 |i+1=>by
  have:=jw rt i;unfold Dd
  grind
theorem js(rt:Nat->Nat)(a:Nat):∀i,(Sn rt i a).length<=i
 |0=>AQl _
 |i+1=>by
  have:=js rt a i;unfold Sn
  grind
theorem WU(rt:Nat->Nat):∀(i k:Nat),k<(Dd rt i).length->rp rt i k<i/\isR rt (rp rt i k)=true
 |0,k,h=>by simp[Dd]at h
 |i+1,k,h=>by
  unfold rp Dd at *;by_cases e:isR rt i=true
  ·rw[AQx e]at h⊢;rw[AQj,AQz]at h;by_cases hk:k<(Dd rt i).length
   ·have:=WU rt i k hk
    grind
   grind
  ·rw[AQy e]at h⊢;have:=WU rt i k h
   grind
theorem eG(rt:Nat->Nat):∀(i j:Nat),j<i->∃k,k<(Dd rt i).length/\rt (rp rt i k)=rt j
 |0,j,h=>by omega
 |i+1,j,h=>by
  unfold rp Dd;by_cases e:isR rt i=true
  ·rw[AQx e,AQj,AQz];by_cases hj:j=i
   ·subst hj;exact⟨(Dd rt j).length,by omega,by grind⟩
   ·obtain⟨k,hk,h2⟩:=eG rt i j (by omega);exact⟨k,by omega,by grind⟩
  ·rw[AQy e];by_cases hj:j=i
   ·subst hj;obtain⟨j',h1,h2⟩:=sc (Bool.eq_false_iff.2 e);obtain⟨k,hk,h3⟩:=eG rt j j' h1;exact⟨k,hk,h3.trans h2⟩
   ·exact eG rt i j (by omega)
theorem AwH{rt:Nat->Nat}{i k k':Nat}(hk:k<(Dd rt i).length)(X0:k'<(Dd rt i).length)(h:rt (rp rt i k)=rt (rp rt i k')):rp rt i k=rp rt i k':=by
 obtain⟨_,h1⟩:=WU rt i k hk;obtain⟨_,h2⟩:=WU rt i k' X0;rw[sa]at h1 h2
 grind
theorem gj(rt:Nat->Nat):∀i,(Dd rt i).Pairwise (·<·)
 |0=>List.Pairwise.nil
 |i+1=>by
  unfold Dd;split
  ·rw[List.pairwise_append];refine⟨gj rt i,List.pairwise_singleton _ _,λa ha b hb=>?_⟩;rw[AQG]at hb;subst hb;obtain⟨k,hk,e⟩:=List.mem_iff_getElem.1 ha;have:=(WU rt b k hk).1
   grind
  ·exact gj rt i
theorem AmF{rt:Nat->Nat}{i k k':Nat}(hk:k<(Dd rt i).length)(X0:k'<(Dd rt i).length)(h:rp rt i k=rp rt i k'):k=k':=by
 have hp:=List.pairwise_iff_getElem.1 (gj rt i)
 grind
def cV(rt:Nat->Nat)(fx:ASH)(vs:ASQ)(i a:Nat):ASE :=
 (Sn rt i a,bif decide (gI fx (rt a)>=0)then(true,((gB vs (gI fx (rt a)).toNat).1,(gB vs (gI fx (rt a)).toNat).2.1,()),())else(false,(0,[],()),()))
abbrev PM:Type:=List AS7
structure Plc (rt:Nat->Nat) (i:Nat) (g:PM):Prop where
 A2:∀k,k<(Dd rt i).length->Uz ATE ATE g ((rt (rp rt i k):Nat):Int)=true/\Bs ATE ATE g ((rt (rp rt i k):Nat):Int)=(k:Int)
 has:∀r:Nat,Uz ATE ATE g (r:Int)=true->∃k,k<(Dd rt i).length/\rt (rp rt i k)=r
theorem su{A B:Type}{F G:A->B}{l:ATU A}{k:Nat}{z:A}(hk:k<l.length)(h:∀k',k'<l.length->k'≠k->F (l.getD k' z)=G (l.getD k' z)):(l.map F).set k (G (l.getD k z))=l.map G:=by
 apply ARx
 ·simp
 grind
theorem qX{ns N:Nat}{ld fx:ASH}{vm:ATU AS1}{ks:ASM}{vs:ASQ}{Bf:ASH}{rt:Nat->Nat}(J:JN H ns N ld fx vm ks vs Bf rt)(hN:N<=1999990)(a:Int) :
    Az (GA a (ns:Int) ld fx vm ks) λr=>r.2.2.2.2=(Dd rt ns).map (cV rt fx vs ns):=by
 have hnn:=J.nn;have b9:=J.l2;have hl3:=J.l3;unfold GA;refine Az.bind (P:=λr:ASH×ASH×ATU AS1×ASM×ASS=>r.2.2.2.2=(Dd rt ns).map (cV rt fx vs ns)) ?_ λr hr=>Az.mk hr;unfold KC;refine Bu (λm (s:Int×ASH×ASH×ATU AS1×ASM×ASS×PM)=>∃i:Nat,s.1=(i:Int)/\i<=ns/\m=ns-i/\(∃dp,Fo s.2.1 rt dp)/\s.2.1.length=N/\s.2.2.1=fx/\s.2.2.2.1=vm/\s.2.2.2.2.2.1=(Dd rt i).map (cV rt fx vs i)/\Plc rt i s.2.2.2.2.2.2) (λm s hI=>?_) ns (0,ld,fx,vm,ks,[],[]) ⟨0,rfl,AQ1 _,rfl,J.fo,J.l1,rfl,rfl,rfl,⟨λk h=>by simp[Dd]at h,λr h=>by simp[Uz,Pm]at h⟩⟩;obtain⟨i,e1,hi,rfl,⟨dp,hf⟩,hl,e2,e3,e4,hP⟩:=hI;obtain⟨g,x,y,v,k0,out,pl⟩:=s;simp only at e1 hf hl e2 e3 e4 hP;subst e1;subst e2;subst e3;subst e4;unfold Fg Ja;simp only;rcases AQq i ns with Bp |aS
 ·have hri:rt i<N:=by have:=(hf.aX i (by omega)).1;omega
  have hrr:=hf.cK i;obtain⟨c,ec,x',rfl,zt,hf'⟩:=rB hf (j:=i) (by omega) a y v k0;rw[C9 Bp,AQv,ec,AQf];simp only;have hrl:=jw rt i;have hw:wI ((i:Int)+1)=((i+1:Nat):Int):=AZ;unfold GM;cases hR:isR rt i with
  |false =>
   obtain⟨j,hj,ej⟩:=sc hR;obtain⟨k,hk,ek⟩:=eG rt i j hj;rw[ej]at ek;obtain⟨h1,h2⟩:=hP.A2 k hk;rw[ek]at h1 h2;have zy:Dd rt (i+1)=Dd rt i:=by rw[Dd,AQy (by rw[hR];simp)]
   rw[h1,h2,AQZ,AQu,AQf];have hol:((Dd rt i).map (cV rt y vs i)).length=(Dd rt i).length:=AQr _;have hgk:((Dd rt i).map (cV rt y vs i)).getD k Ap.zero=cV rt y vs i (rp rt i k):=FA (cV rt y vs i) (y:=0) hk;simp only[AQg,hgk];have rO:=js rt (rp rt i k) i;rw[AQx (show(0:Int)<=(k:Int)/\(k:Int)<(((Dd rt i).map (cV rt y vs i)).length:Int) by omega),AQx (show((cV rt y vs i (rp rt i k)).1.length+([(i:Int)]:ASH).length)*8<=140737488355328 by rw[AQz];show((Sn rt i (rp rt i k)).length+1)*8<=_;omega),AQx (show(0:Int)<=(k:Int)/\(k:Int)<(((Dd rt i).map (cV rt y vs i)).length:Int) by omega),AQx trivial,hw];refine Az.mk ⟨ns-(i+1),by omega,i+1,rfl,by omega,rfl,⟨dp,hf'⟩,by simp only;omega,rfl,rfl,?_,?_⟩
   ·simp only;rw[zy];have hc:((cV rt y vs i (rp rt i k)).1++[(i:Int)],(cV rt y vs i (rp rt i k)).2)=cV rt y vs (i+1) (rp rt i k):=by
     unfold cV;rw[Sn,AQx ek.symm]
    rw[hc];refine su hk λk' X0 LN=>?_;unfold cV;rw[Sn,AQy λe=>LN (AmF X0 hk (AwH X0 hk (by show rt (rp rt i k')=_;rw[ek];exact e.symm)))]
   ·exact⟨by rw[show rp rt (i+1)=rp rt i by unfold rp;rw[zy],zy];exact hP.A2,by rw[show rp rt (i+1)=rp rt i by unfold rp;rw[zy],zy];exact hP.has⟩
  |true =>
   have rS:=sa.1 hR;have aT:Uz ATE ATE pl ((rt i:Nat):Int)=false:=by
    rw[Bool.eq_false_iff];intro h;obtain⟨k,hk,ek⟩:=hP.has _ h;exact rS _ (WU rt i k hk).1 ek
   have zy:Dd rt (i+1)=Dd rt i++[i]:=by rw[Dd,AQx hR]
   rw[aT,ARK,AQv];have hol:((Dd rt i).map (cV rt y vs i)).length=(Dd rt i).length:=AQr _;have e3:DY a (i:Int) ((rt i:Nat):Int) (ns:Int) x' y v k0 ((Dd rt i).map (cV rt y vs i)) (((Dd rt i).map (cV rt y vs i)).length:Int) (Cr ATE ATE pl ((rt i:Nat):Int) (((Dd rt i).map (cV rt y vs i)).length:Int))=some (bif decide (gI y (rt i)>=0)then(true,(gB vs (gI y (rt i)).toNat).1,(gB vs (gI y (rt i)).toNat).2.1)else(false,0,[])):=by
    unfold DY;simp only[AQg];rw[AQx (show(0:Int)<=((rt i:Nat):Int)/\((rt i:Nat):Int)<(y.length:Int) by omega)];show(bif decide (gI y (rt i)>=0)then _ else _)=_;cases hd:decide (gI y (rt i)>=0)with
    |false=>rfl
    |true =>
     have hd:gI y (rt i)>=0:=ASi hd;rw[AQv,AQv];have hF:=J.fx_ _ hri hrr;rcases hF with ⟨h,_⟩|⟨q,h,h3,h4,h5,_⟩
     ·omega
     ·have hb:=J.vl q h4 h3;have hbw:=(J.bw q h4).1;show(Dl (Bs ATE Ai v (gI y (rt i)))).bind _=_;rw[h,AQg];rw[show Bs ATE Ai v (q:Int)=gB vs q from hb];unfold Dl;rw[VI];rfl
   rw[e3,AQf,AQx (by rw[AQz];omega),AQf];simp only;generalize hbv:(bif decide (gI y (rt i)>=0)then(true,(gB vs (gI y (rt i)).toNat).1,(gB vs (gI y (rt i)).toNat).2.1)else(false,0,[]):Bool×Int×ASH)=bv;have Y1:cV rt y vs (i+1) i=([(i:Int)],bv.1,(bv.2.1,bv.2.2,()),()):=by
    have hm:Sn rt i i=[]:=by
     have:∀n,n<=i->Sn rt n i=[]:=λn=>by
      induction n with
      |zero=>intro _;rfl
      |succ n ih=>intro h;rw[Sn,AQy (rS n (by omega))];exact ih (by omega)
     exact this i (AQl _)
    unfold cV;rw[Sn,AQx rfl,hm,<-hbv];cases decide (gI y (rt i)>=0)<;>rfl
   simp only[AQg];have hgl:(((Dd rt i).map (cV rt y vs i))++[(([]:ASH),bv.1,(bv.2.1,bv.2.2,()),())]).getD ((Dd rt i).map (cV rt y vs i)).length Ap.zero=(([]:ASH),bv.1,(bv.2.1,bv.2.2,()),()):=by simp[List.getD]
   rw[hgl];have hal:(((((Dd rt i).map (cV rt y vs i))++[(([]:ASH),bv.1,(bv.2.1,bv.2.2,()),())]):ASS).length:Int)=(((Dd rt i).map (cV rt y vs i)).length:Int)+1:=by rw[AQj,AQz];omega
   rw[hal,VI,AQx (by rw[AQz];simp),VI,AQx trivial,hw];refine Az.mk ⟨ns-(i+1),by omega,i+1,rfl,by omega,rfl,⟨dp,hf'⟩,by simp only;omega,rfl,rfl,?_,?_⟩
   ·simp only;rw[zy,AQY,ARF _ _ (AQl _),ASa];have hmm:(Dd rt i).map (cV rt y vs (i+1))=(Dd rt i).map (cV rt y vs i):=AQ4 λb hb=>by
     obtain⟨k,hk,e⟩:=List.mem_iff_getElem.1 hb;have AGy:=(WU rt i k hk).1;rw[show rp rt i k=b by rw[<-e];simp[rp,List.getD,hk]]at AGy;unfold cV;rw[Sn,AQy (Ne.symm (rS b AGy))]
    rw[hmm];show _=_++[cV rt y vs (i+1) i];rw[Y1];rfl
   ·have AOR:(Dd rt (i+1)).length=(Dd rt i).length+1:=by rw[zy,AQj,AQz]
    have hg1:∀k,k<(Dd rt i).length->rp rt (i+1) k=rp rt i k:=λk hk=>by unfold rp;rw[zy];simp[List.getD,AQF,hk]
    have hg2:rp rt (i+1) (Dd rt i).length=i:=by unfold rp;rw[zy];simp[List.getD]
    refine⟨λk hk=>?_,λr hr=>?_⟩
    ·by_cases e:k<(Dd rt i).length
     ·have LN:((rt (rp rt i k):Nat):Int)≠((rt i:Nat):Int):=λh=>rS _ (WU rt i k e).1 (by omega);rw[hg1 k e,XO (vt:=.int .i64),SY (vt:=.int .i64),AQy LN,(hP.A2 k e).1,(hP.A2 k e).2,Bool.or_true];exact⟨rfl,rfl⟩
     ·have:k=(Dd rt i).length:=by omega
      subst this;rw[hg2,XO (vt:=.int .i64),SY (vt:=.int .i64),AQx rfl,AQk rfl,Bool.true_or,hol];exact⟨rfl,rfl⟩
    ·rw[XO (vt:=.int .i64),ARA,AR1]at hr;rcases hr with hr |hr
     ·exact⟨(Dd rt i).length,by omega,by rw[hg2];omega⟩
     ·obtain⟨k,hk,ek⟩:=hP.has r hr;exact⟨k,by omega,by rw[hg1 k hk];exact ek⟩
 ·have:i=ns:=by omega
  subst this;rw[DU,AQu];exact Az.mk rfl
end Go.Proofs.X
namespace Go.Proofs.X
open Go Go.Va
set_option maxRecDepth 100000
variable {H:ASt->ASt->Prop}
theorem qY{ns N:Nat}{ld fx:ASH}{vm:ATU AS1}{ks:ASM}{vs:ASQ}{Bf:ASH}{rt:Nat->Nat}(J:JN H ns N ld fx vm ks vs Bf rt)(hN:N<=1999990)(b:Int)(c:ASC) :
    Az (KX (ns:Int) b c 0 [] vs ks Bf) (·=(Dd rt ns).map (cV rt fx vs ns)):=by
 have hnn:=J.nn;have b9:=J.l2;have hl3:=J.l3;have hl4:=J.l4;obtain⟨dp,hf⟩:=J.fo;unfold KX;refine Bu (λm (s:Int×ASS×ASQ×ASM×ASH)=>∃i:Nat,s.1=(i:Int)/\i<=ns/\m=ns-i/\s.2.1=(Dd rt i).map (cV rt fx vs ns)/\s.2.2.1=vs/\s.2.2.2.1=ks/\s.2.2.2.2=Bf) (λm s hI=>?_) ns (0,[],vs,ks,Bf) ⟨0,rfl,AQ1 _,rfl,rfl,rfl,rfl,rfl⟩;obtain⟨i,e1,hi,rfl,e2,e3,e4,e5⟩:=hI;obtain⟨g,out,v,k0,l⟩:=s;simp only at e1 e2 e3 e4 e5;subst e1;subst e2;subst e3;subst e4;subst e5;unfold I0 Ns;simp only;rcases AQq i ns with Bp |aS
 ·have hw:wI ((i:Int)+1)=((i+1:Nat):Int):=AZ;obtain⟨o1,o2,o3⟩:=J.lo i (by omega);have hrl:=jw rt i;have hri:rt i<N:=by have:=(hf.aX i (by have:=J.l1;omega)).1;have:=J.l1;omega
  rw[C9 Bp,AQv];unfold KW;simp only[AQg];rw[AQx (Bj (show i<l.length by omega))];cases hR:isR rt i with
  |false =>
   obtain⟨j,hj,ej⟩:=sc hR;have h1:=(J.sm j i (by omega) (by omega)).2 ej;have h2:=(J.lo j (by omega)).2.1;have zy:Dd rt (i+1)=Dd rt i:=by rw[Dd,AQy (by rw[hR];simp)]
   rw[show decide (l.getD i ATE.zero<(i:Int))=true from AQk (show gI l i<(i:Int) by omega),AQv,AQf,hw];exact Az.mk ⟨ns-(i+1),by omega,i+1,rfl,by omega,rfl,by simp only;rw[zy],rfl,rfl,rfl⟩
  |true =>
   have rS:=sa.1 hR;have Zw:gI l i=(i:Int):=by
    rcases Int.lt_or_eq_of_le o2 with h |h
    ·exfalso
     have h3:=(J.sm (gI l i).toNat i (by omega) (by omega)).1 (by rw[o3]);exact rS _ (by omega) h3
    ·exact h
   have zy:Dd rt (i+1)=Dd rt i++[i]:=by rw[Dd,AQx hR]
   rw[show decide (l.getD i ATE.zero<(i:Int))=false from AQi (show ¬gI l i<(i:Int) by omega),AQu];have zw:Sn rt i i=[]:=by
    have:∀n,n<=i->Sn rt n i=[]:=λn=>by
     induction n with
     |zero=>intro _;rfl
     |succ n ih=>intro h;rw[Sn,AQy (rS n (by omega))];exact ih (by omega)
    exact this i (AQl _)
   obtain⟨x,ex,hx⟩:Az (KV (ns:Int) b (i:Int) c ((Dd rt i).map (cV rt fx v ns)) v k0 l (i:Int) []) (·=Sn rt ns i):=by
    unfold KV;refine Bu (λm (s:Int×ASH)=>∃k:Nat,s.1=(k:Int)/\i<=k/\k<=ns/\m=ns-k/\s.2=Sn rt k i) (λm s hI=>?_) (ns-i) ((i:Int),[]) ⟨i,rfl,AQl _,hi,rfl,zw.symm⟩;obtain⟨k,q1,q2,q3,rfl,q4⟩:=hI;obtain⟨w,x⟩:=s;simp only at q1 q4;subst q1;subst q4;unfold IZ Nr KU;simp only;rcases AQq k ns with hk |hk
    ·have nJ:wI ((k:Int)+1)=((k+1:Nat):Int):=AZ;have rO:=js rt i k;rw[C9 hk,AQv];simp only[AQg];rw[AQx (Bj (show k<l.length by omega))];have hE:=J.sm k i (by omega) (by omega);rw[Zw]at hE;by_cases e:rt k=rt i
     ·rw[show(l.getD k ATE.zero==(i:Int))=true from beq_iff_eq.2 (hE.2 e),AQv,AQx (by rw[AQz];omega),AQf,nJ];exact Az.mk ⟨ns-(k+1),by omega,k+1,rfl,by omega,by omega,rfl,by rw[Sn,AQx e]⟩
     ·rw[show(l.getD k ATE.zero==(i:Int))=false from beq_eq_false_iff_ne.2 λh=>e (hE.1 h),AQu,AQf,nJ];exact Az.mk ⟨ns-(k+1),by omega,k+1,rfl,by omega,by omega,rfl,by rw[Sn,AQy e]⟩
    ·have:k=ns:=by omega
     subst this;rw[DU,AQu];exact Az.mk rfl
   subst hx;obtain⟨w1,f1,v1,rfl,F1⟩:=kK (rt:=rt) (ns:=ns) (vs:=v) (Bf:=l) (by omega) (λi j hi hj=>J.sm i j (by omega) (by omega)) (λi hi=>J.wd i (by omega)) (by omega) (b:=i) (by omega) b k0;rw[hl4]at F1;have jm:v1=gI fx (rt i):=F1.uniq (J.fx_ _ hri (hf.cK i));rw[ex,AQf,f1,AQf];simp only;have e16:HI (ns:Int) b (i:Int) c ((Dd rt i).map (cV rt fx v ns)) (Sn rt ns i) v1 v k0 l=some (bif decide (gI fx (rt i)>=0)then(true,(gB v (gI fx (rt i)).toNat).1,(gB v (gI fx (rt i)).toNat).2.1)else(false,0,[])):=by
    unfold HI;rw[jm];cases hd:decide (gI fx (rt i)>=0)with
    |false=>rfl
    |true =>
     have hd:gI fx (rt i)>=0:=ASi hd;rw[AQv,AQv];rw[jm]at F1;have AOD:=F1.ge;have hbw:=(J.bw (gI fx (rt i)).toNat (by omega)).1;rw[AQx ⟨hd,by omega⟩];unfold Qd;rw[AQx (show(gB v (gI fx (rt i)).toNat).2.1.length*8<=140737488355328 by omega)];rfl
   rw[e16,AQf,AQx (by rw[AQr,AQz];omega),AQf,hw];refine Az.mk ⟨ns-(i+1),by omega,i+1,rfl,by omega,rfl,?_,rfl,rfl,rfl⟩;simp only;rw[zy,AQY];congr 1;show[_]=[cV rt fx v ns i];unfold cV;cases decide (gI fx (rt i)>=0)<;>rfl
 ·have:i=ns:=by omega
  subst this;rw[DU,AQu];exact Az.mk rfl
theorem eO{ns:Nat}(h:ns<=1000000):∃ld fx vs Bf,M8 (ns:Int)=some (0,ld,fx,[])/\Wp (ns:Int)=some (0,vs,Bf)/\JN H ns ns ld fx [] [] vs Bf (λa=>a):=by
 have hg:∀{i},i<ns->gI ((List.range ns).map Int.ofNat) i=(i:Int):=λ{i} hi=>Gt (g:=Int.ofNat) hi;refine⟨(List.range ns).map Int.ofNat,List.replicate ns (-1),List.replicate ns (0,[],()),(List.range ns).map Int.ofNat,?_,?_,?_⟩
 ·unfold M8 Rj;have:=AP (f:=Ej (ns:Int)) (λk=>((k:Int),(List.range k).map Int.ofNat,List.replicate k (-1))) (t:=((List.range ns).map Int.ofNat,List.replicate ns (-1))) ns (λk hk=>?_) ?_
  ·exact(congrArg (λo=>Option.bind o λb=>some ((0:Int),b.1,b.2,([]:ATU AS1))) this).trans rfl
  ·unfold Ej Jz;simp only;rw[C9 hk,AQv,AQx (by simp;omega),AQx (by simp;omega),AZ (n:=k+1),D2,ASp];rfl
  ·unfold Ej Jz;simp only;rw[DU,AQu]
 ·unfold Wp Xi;rw[AQx ⟨rfl,by omega,ARs _,by omega,by omega⟩,AQg];have:=AP (f:=Iv (ns:Int) (List.replicate ns (0,[],()))) (λk=>((k:Int),(List.range k).map Int.ofNat)) (t:=(List.range ns).map Int.ofNat) ns (λk hk=>?_) ?_
  ·exact(congrArg (λo=>Option.bind o λc=>some ((0:Int),(List.replicate ns (0,[],()):ASQ),c)) this).trans rfl
  ·unfold Iv Qe;simp only;rw[C9 hk,AQv,AQx (by simp;omega),AZ (n:=k+1),D2];rfl
  ·unfold Iv Qe;simp only;rw[DU,AQu]
 ·have hB:∀{i},i<ns->gB (List.replicate ns (0,[],())) i=(0,[],()):=λ{i} hi=>by simp[gB,List.getD,hi]
  refine⟨⟨λ_=>0,λa ha=>?_,λa ha=>?_,λ_ _=>rfl⟩,by simp,by simp,by simp,by simp,AQl _,λi j hi hj=>?_,λi hi=>?_,λi hi=>?_,λi hi hn=>?_,λi hi=>?_,λi hi hr=>?_,λl hl=>?_,λi j hi hj h'=>?_,λi j i1 i2=>by omega,λl hl=>(by cases hl)⟩
  ·have ha:a<ns:=by simpa using ha
   exact⟨a,by simpa using ha,hg ha,rfl,.inl ⟨rfl,rfl⟩⟩
  ·have ha':a<ns:=by simpa using ha
   exact⟨ha,rfl,hg ha'⟩
  ·rw[hg hi,hg hj];omega
  ·rw[hg hi,AQg,hg hi];omega
  ·rw[hB hi];exact⟨λh'=>by exact absurd h' (by decide),λh'=>by omega⟩
  ·omega
  ·rw[hB hi];exact⟨by decide,by decide,λx hx=>by cases hx⟩
  ·refine .inl ⟨by simp[gI,List.getD,hi],λj h1 h2=>by omega⟩
  ·cases hl
  ·have:i=j:=h';subst this;exact .refl _
def HL(d:ASL)(l:ASN)(f:Nat->Nat->Bool)(A B:ASt):Prop:=∃i,i<l.length/\∃x∈uc d l f i,x.1=A/\x.2.1=B
def AIS(d:ASL)(l:ASN)(f:Nat->Nat->Bool)(C:ASS):Prop :=
 ∃N ld fx vm ks vs Bf rt,JN (HL d l f) (SL d (Ax d f) d.length).length N ld fx vm ks vs Bf rt/\C=(Dd rt (SL d (Ax d f) d.length).length).map (cV rt fx vs (SL d (Ax d f) d.length).length)/\∀i,i<l.length->(l.getD i Af.zero).2.1=true->∀x∈uc d l f i,P1 (SL d (Ax d f) d.length).length rt vs x
theorem y8{d:ASL}{l:ASN}{c:ASV}{f:Nat->Nat->Bool}(hd:AE d)(hl:∀x∈l,Kr x)(NA:Fz d l)(hs:Cz d l)(hf:jL d l c f)(ec:FG d l (c,())=some ((Ax d f,()),true)) :
    ∃X Y,HD 0 d l ((List.range l.length).map (OH d l)) (Ax d f) (SL d (Ax d f) d.length) (ji (SL d (Ax d f) d.length) (SL d (Ax d f) d.length).length)=some X/\Nq d l (c,())=some (Y,true)/\Y.1=(Ax d f,()) /\
     ((X.2.2.2.2.2.2.2≠[]/\Y.2.2.1≠[])\/(X.2.2.2.2.2.2.2=[]/\Y.2.2.1=[]/\X.2.2.2.2.1=SL d (Ax d f) d.length/\X.2.2.2.2.2.2.1=Y.2.1/\X.1=d/\AIS d l f Y.2.1)):=by
 obtain⟨aj,hc⟩:=QY hd f;have Zs:=hd.1;have dO:=NA.1;have Jk:=fl hd aj d.length (AQl _);obtain⟨ld,fx,vs,Bf,e1,e2,J⟩:=eO (H:=HL d l f) (ns:=(SL d (Ax d f) d.length).length) (by omega);obtain⟨x,y,ex,ey,hR⟩:=sr (λi hi x hx=>⟨i,hi,x,hx,rfl,rfl⟩) hd hl NA hs hf.cl hf.aX 0 0 ((SL d (Ax d f) d.length).length:Int) 0 l.length 0 _ ld fx [] [] vs Bf _ (by omega) J (by omega) (by simp;omega);have e0:((0:Nat):Int)=0:=rfl;rw[e0]at ex ey;unfold HD Nq;rw[e1,AQf,ec,AQf];simp only[AQZ,AQu];rw[Xe hd aj hc,AQf,e2,AQf];simp only;rw[ex,ey,AQf,AQf];rcases hR with ⟨w,z,rfl,rfl,n1,n2⟩|⟨hU,xW,yf,Vb,aJ,aU,iV,N',rfl,rfl,J',q1,_,q3⟩
 ·simp only[ARy];exact⟨_,_,rfl,rfl,rfl,.inl ⟨n1,n2⟩⟩
 ·simp only[ARi];obtain⟨r,er,hr⟩:=qX J' q1 0;obtain⟨r',er',rfl⟩:=qY J' q1 0 (Ax d f,());rw[er,er',AQf,AQf];exact⟨_,_,rfl,rfl,rfl,.inr ⟨rfl,rfl,rfl,hr,rfl,N',hU,xW,yf,Vb,aJ,aU,iV,J',rfl,λi hi=>q3 i (AQ1 _) hi⟩⟩
end Go.Proofs.X
namespace Go.Proofs.X
open Go Go.Va
set_option maxRecDepth 100000
def DL(l:ASN):ASN:=l.filter λx=>x.2.1
theorem mj{l:ASN}{k:Nat}(hk:k<l.length):DL (l.take (k+1))=if(l.getD k Af.zero).2.1=true then DL (l.take k)++[l.getD k Af.zero]else DL (l.take k):=by
 have e:l.getD k Af.zero=l[k]:=by simp[List.getD,hk]
 unfold DL;rw[AQ9 hk,ASf,e];cases h:(l[k]).2.1 with
 |true=>rw[AQx rfl];simp[h]
 |false=>rw[AQy (by simp)];simp[h]
theorem Abb(l:ASN)(k:Nat):(DL (l.take k)).length<=k:=AQJ (ARG _ _) (by rw[AQA];omega)
theorem lf{l:ASN}(hl:l.length<=1048576):Ip l=some (DL l):=by
 unfold Ip Qj;have:=AP (f:=Dv l (l.length:Int)) (λk=>((k:Int),DL (l.take k))) (t:=DL l) l.length (λk hk=>?_) ?_
 ·exact(congrArg (λo=>Option.bind o λc=>some c) this).trans rfl
 ·unfold Dv IC Kz;simp only[AQg];have h1:=Abb l k;rw[C9 hk,AQv,AQx (Bj hk),AZ (n:=k+1),mj hk];cases h:(l.getD k Af.zero).2.1 with
  |true=>rw[AQv,AQx (by rw[AQz];omega),AQx rfl];rfl
  |false=>rw[AQu,AQy (by simp)];rfl
 ·unfold Dv IC;simp only[ARJ];rw[DU,AQu]
theorem mg{l:ASN}(hl:l.length<=1048576):Ji l=some (DL l):=by
 unfold Ji S8;have:=AP (f:=EY l) (λk=>((k:Int),DL (l.take k))) (t:=DL l) l.length (λk hk=>?_) ?_
 ·exact(congrArg (λo=>Option.bind o λc=>some c) this).trans rfl
 ·unfold EY K1 Ob;simp only[AQg];have h1:=Abb l k;rw[C9 hk,AQv,AQx (Bj hk),AZ (n:=k+1),mj hk];cases h:(l.getD k Af.zero).2.1 with
  |true=>rw[AQv,AQx (Bj hk),AQx (by rw[AQz];omega),AQx rfl];rfl
  |false=>rw[AQu,AQy (by simp)];rfl
 ·unfold EY K1;simp only[ARJ];rw[DU,AQu]
theorem wi{d:ASL}(hd:d.length<=1048576):TT d=some (List.replicate d.length []):=by
 unfold TT;rw[AQx ⟨rfl,by omega,ARs _,by omega,by omega⟩,AQg]
theorem xg{d:ASL}(hd:d.length<=1048576):Uh d=some (List.replicate d.length []):=by
 unfold Uh Wm;have:=AP (f:=Hm d) (λk=>((k:Int),List.replicate k [])) (t:=List.replicate d.length []) d.length (λk hk=>?_) ?_
 ·exact(congrArg (λo=>Option.bind o λc=>some c) this).trans rfl
 ·unfold Hm Ow;simp only;rw[C9 hk,AQv,AQx (by simp;omega),AZ (n:=k+1),ASp]
 ·unfold Hm Ow;simp only;rw[DU,AQu]
theorem Adu{d:ASL}(hd:AE d):Dk d (List.replicate d.length [])/\YY (List.replicate d.length []):=by
 have Zs:=hd.1;refine⟨⟨by simp,λv hv=>?_⟩,by simp;omega,λx hx=>?_⟩
 ·have:DJ (List.replicate d.length []) v=[]:=by unfold DJ;simp[List.getD,hv]
  rw[this];exact λi hi=>by simp at hi
 ·rw[(List.mem_replicate.1 hx).2];simp
theorem Awq{d:ASL}{l:ASN}(h:Fz d l):∀{i j:Nat},i<j->j<l.length->gX l i<gX l j:=λ{i j} zq hj=>by
 induction j with
 |zero=>omega
 |succ j ih =>
  have h1:=(h.2 (j+1) hj).2.1 (by omega);rw[AQS]at h1;by_cases e:i=j
  ·subst e;exact h1
  ·exact Int.lt_trans (ih (by omega) (by omega)) h1
theorem AgW{l:ASN}:∀(n:Nat),∃g:Nat->Nat,(∀i,i<(DL (l.take n)).length->g i<n/\g i<l.length/\(DL (l.take n)).getD i Af.zero=l.getD (g i) Af.zero)/\∀i j,i<j->j<(DL (l.take n)).length->g i<g j
 |0=>⟨λi=>i,λi h=>by simp[DL]at h,λi j _ h=>by simp[DL]at h⟩
 |n+1=>by
  obtain⟨g,h1,h2⟩:=AgW (l:=l) n;by_cases hn:n<l.length
  ·rw[mj hn];split
   ·refine⟨λi=>if i<(DL (l.take n)).length then g i else n,λi hi=>?_,λi j zq hj=>?_⟩
    ·rw[AQj,AQz]at hi;simp only;by_cases e:i<(DL (l.take n)).length
     ·obtain⟨a1,a2,a3⟩:=h1 i e;rw[AQx e];exact⟨by omega,a2,by rw[<-a3];simp[List.getD,AQF,e]⟩
     ·have:i=(DL (l.take n)).length:=by omega
      rw[AQy e];exact⟨by omega,hn,by subst this;simp[List.getD]⟩
    ·rw[AQj,AQz]at hj;simp only;rw[VI];by_cases e:j<(DL (l.take n)).length
     ·rw[AQx e];exact h2 i j zq e
     ·rw[AQy e];exact(h1 i (by omega)).1
   ·exact⟨g,λi hi=>by obtain⟨a1,a2,a3⟩:=h1 i hi;exact⟨by omega,a2,a3⟩,h2⟩
  ·rw[AQp (by omega)]at h1 h2⊢;exact⟨g,λi hi=>by obtain⟨a1,a2,a3⟩:=h1 i hi;exact⟨by omega,a2,a3⟩,h2⟩
theorem AgX{d:ASL}{l:ASN}(NA:Fz d l)(hs:Cz d l):Fz d (DL l)/\Cz d (DL l):=by
 obtain⟨g,h1,h2⟩:=AgW (l:=l) l.length;rw[ARJ]at h1 h2;have dO:=NA.1;have Ws:(DL l).length<=l.length:=ARG _ _;have eI:∀i,i<(DL l).length->gX (DL l) i=gX l (g i)/\lS (DL l) i=lS l (g i)/\lT (DL l) i=lT l (g i):=λi hi=>by
  have:=(h1 i hi).2.2;unfold gX lS lT li;rw[this];exact⟨rfl,rfl,rfl⟩
 refine⟨⟨by omega,λi hi=>?_⟩,λi hi=>?_⟩
 ·obtain⟨a1,a2,a3⟩:=eI i hi;obtain⟨b1,b2,b3,b4⟩:=NA.2 (g i) (h1 i hi).2.1;refine⟨by rw[a1];exact b1,λh0=>?_,by rw[a2];exact b3,by rw[a2,a3];exact b4⟩;rw[a1,(eI (i-1) (by omega)).1];exact Awq NA (h2 (i-1) i (by omega) hi) (h1 i hi).2.1
 ·obtain⟨a1,a2,a3⟩:=eI i hi;have:=hs (g i) (h1 i hi).2.1;unfold jO at this⊢;rw[a2,a3];exact this
end Go.Proofs.X
namespace Go.Proofs.X
open Go Go.Va
set_option maxRecDepth 100000
abbrev s1(x:ASw):Int:=x.1
abbrev s2(x:ASw):Int:=x.2.1
abbrev s3(x:ASw):Int:=x.2.2.1
def Bef(x y:ASw):Prop:=s1 x<s1 y\/(s1 x=s1 y/\s2 x+s3 x<=s2 y)
theorem sK(v:Nat):∀(l:ASH) (low:Int),l.Pairwise (·<·)->(∀p∈l,low<p)->(V7 v low l).Pairwise Bef/\∀x∈V7 v low l,s1 x=(v:Int)/\low<=s2 x/\0<s3 x
 |[],_,_,_=>⟨List.Pairwise.nil,λx hx=>by cases hx⟩
 |p::l,low,h,hl=>by
  obtain⟨h1,h2⟩:=List.pairwise_cons.1 h;obtain⟨i1,i2⟩:=sK v l p h2 h1;have hp:=hl p AQK;refine⟨List.pairwise_cons.2 ⟨λy hy=>?_,i1⟩,λx hx=>?_⟩
  ·obtain⟨e1,e2,_⟩:=i2 y hy;refine .inr ⟨e1.symm,?_⟩;show low+(p-low)<=s2 y;omega
  ·rcases List.mem_cons.1 hx with rfl |hx
   ·grind
   grind
theorem lX(v:Nat)(q:Int):∀(l:ASH) (low:Int),low<=q->q<G1 low l->∃x∈V7 v low l,s1 x=(v:Int)/\s2 x<=q/\q<s2 x+s3 x
 |[],low,h1,h2=>by have h2:q<low:=h2;omega
 |p::l,low,h1,h2=>by
  rw[show G1 low _=G1 p l by cases l<;>rfl]at h2;by_cases h:q<p
  ·exact⟨_,AQK,rfl,h1,by grind⟩
  ·obtain⟨x,hx,h3⟩:=lX v q l p (by omega) h2;exact⟨x,AQH _ hx,h3⟩
theorem AbM(v:Nat){M:Int}:∀(l:ASH) (low:Int),(∀p∈l,p<=M)->∀x∈V7 v low l,s2 x+s3 x<=M
 |[],_,_,x,hx=>by cases hx
 |p::l,low,h,x,hx=>by
  rcases List.mem_cons.1 hx with rfl |hx
  ·have:=h p AQK;show low+(p-low)<=M;omega
  ·exact AbM v l p (λq hq=>h q (AQH _ hq)) x hx
section
variable {d:ASL} {c:ASV}
theorem rk(hd:AE d)(hc:Dk d c){v:Nat}(hv:v<d.length):(CN d c v).Pairwise (·<·)/\(∀p∈CN d c v,0<p)/\G1 0 (CN d c v)=(W d v:Int):=by
 refine⟨List.pairwise_iff_getElem.2 λi j hi hj zq=>?_,λp hp=>?_,?_⟩
 ·have:=dA hd hc hv zq hj;simpa [Lk,hi,hj]using this
 ·obtain⟨i,hi,rfl⟩:=ARb hp;have:=(dz hd hc hv hi).1;simp[Lk,hi]at this;omega
 ·unfold G1 CN;simp;exact(Qg hd hv).1
theorem AaF(hd:AE d)(hc:Dk d c):∀n,n<=d.length->(SL d c n).Pairwise Bef/\∀x∈SL d c n,s1 x<(n:Int)/\0<=s2 x/\0<s3 x
 |0,_=>⟨List.Pairwise.nil,λx hx=>by cases hx⟩
 |n+1,hn=>by
  obtain⟨h1,h2⟩:=AaF hd hc n (by omega);obtain⟨e1,e2,_⟩:=rk hd hc (v:=n) (by omega);obtain⟨r1,r2⟩:=sK n (CN d c n) 0 e1 e2;rw[qB];refine⟨List.pairwise_append.2 ⟨h1,r1,λx hx y hy=>.inl ?_⟩,λx hx=>?_⟩
  ·grind
  grind
def InS(L:ASM)(m v x w:Nat):Prop:=m<L.length/\nV L m=((v:Int),(x:Int),(w:Int),())
theorem AHl(hd:AE d)(hc:Dk d c){v a:Nat}(hv:v<d.length)(ha:a<W d v):∃m x w j,InS (SL d c d.length) m v x w/\j<w/\a=x+j:=by
 obtain⟨e1,e2,e3⟩:=rk hd hc hv;obtain⟨y,hy,h1,h2,h3⟩:=lX v a (CN d c v) 0 (by omega) (by omega);have hm:y∈SL d c _:=List.mem_flatMap.2 ⟨v,List.mem_range.2 hv,hy⟩;obtain⟨_,g1,g2⟩:=(AaF hd hc _ (AQl _)).2 y hm;obtain⟨m,UO,Tm⟩:=ARb hm;obtain⟨y1,y2,y3,y4⟩:=y;simp only[s1,s2,s3]at h1 h2 h3 g1 g2;refine⟨m,y2.toNat,y3.toNat,a-y2.toNat,⟨UO,?_⟩,by omega,by omega⟩;have h5:nV (SL d c d.length) m=(SL d c _)[m]:=by simp[nV,UO]
 grind
theorem AbR(hd:AE d)(hc:Dk d c){m m' v x w x' w' j j':Nat}(h:InS (SL d c d.length) m v x w)(h':InS (SL d c d.length) m' v x' w')(hj:j<w)(Sv:j'<w')(e:x+j=x'+j'):m=m':=by
 have hp:=List.pairwise_iff_getElem.1 (AaF hd hc d.length (AQl _)).1;have g:∀{m v x w},InS (SL d c d.length) m v x w->(SL d c d.length)[m]?=some ((v:Int),(x:Int),(w:Int),()):=λ{m v x w} h=>by
  rw[<-h.2];simp[nV,h.1]
 have g1:=g h;have g2:=g h';have key:∀{m m' x w x' w' j j':Nat},(SL d c d.length)[m]?=some ((v:Int),(x:Int),(w:Int),())->(SL d c d.length)[m']?=some ((v:Int),(x':Int),(w':Int),())->m<m'->j<w->j'<w'->x+j≠x'+j':=λ{m m' x w x' w' j j'} a b Bp hj Sv e=>by
  obtain⟨a1,a2⟩:=List.getElem?_eq_some_iff.1 a;obtain⟨b1,b2⟩:=List.getElem?_eq_some_iff.1 b;have:=hp m m' a1 b1 Bp;rw[a2,b2]at this;rcases this with h |⟨_,h⟩
  ·grind
  ·grind
 grind
theorem AHm(hd:AE d)(hc:Dk d c){m:Nat}(hm:m<(SL d c d.length).length):∃v x w:Nat,InS (SL d c d.length) m v x w/\v<d.length/\0<w:=by
 have hx:nV _ m∈SL d c _:=AK hm;obtain⟨g0,g1,g2⟩:=(AaF hd hc _ (AQl _)).2 _ hx;obtain⟨v,j,hv,_,e⟩:=qA.1 hx;have e1:(nV (SL d c d.length) m).1=v:=by rw[e]
 generalize hs:nV _ m=s at *;obtain⟨y1,y2,y3,y4⟩:=s;simp only[s2,s3]at g1 g2 e1;exact⟨v,y2.toNat,y3.toNat,⟨hm,by grind⟩,hv,by omega⟩
theorem Aoj(hd:AE d)(hc:Dk d c){m v x w:Nat}(h:InS (SL d c d.length) m v x w):v<d.length/\x+w<=W d v:=by
 have hx:nV _ m∈SL d c _:=AK h.1;obtain⟨u,hu,hy⟩:=List.mem_flatMap.1 hx;have hu:=List.mem_range.1 hu;obtain⟨e1,e2,e3⟩:=rk hd hc hu;have g1:=((sK u _ 0 e1 e2).2 _ hy).1;have hb:∀p∈CN d c u,p<=(W d u):=λp hp=>by
  obtain⟨k1,_,_⟩:=Qg hd hu;rcases List.mem_append.1 hp with hp |hp
  ·obtain⟨i,hi,rfl⟩:=ARb hp;have:=(hc.2 u hu i hi).2.1;simp[Lk,hi]at this;omega
  ·grind
 have g2:=AbM u _ 0 hb _ hy;rw[h.2]at g1 g2
 grind
end
end Go.Proofs.X
namespace Go.Proofs.X
open Go Go.Va
set_option maxRecDepth 100000
inductive BE (E:Bt->Bt->Prop):Bt->Bt->Prop
 |refl (a:Bt):BE E a a
 |iJ {a b c:Bt}:BE E a b->E b c->BE E a c
 |bwd {a b c:Bt}:BE E a b->E c b->BE E a c
theorem BE.trans{E:Bt->Bt->Prop}{a b c:Bt}(h:BE E a b)(k:BE E b c):BE E a c:=by
 induction k with
 |refl=>grind
 |iJ _ e ih=>exact .iJ ih e
 |bwd _ e ih=>exact .bwd ih e
theorem BE.symm{E:Bt->Bt->Prop}{a b:Bt}(h:BE E a b):BE E b a:=by
 induction h with
 |refl=>exact .refl _
 |iJ _ e ih=>exact(BE.bwd (.refl _) e).trans ih
 |bwd _ e ih=>exact(BE.iJ (.refl _) e).trans ih
def EL(d:ASL)(l:ASN)(x y:Bt):Prop:=∃i,i<l.length/\∃p,p<(b1 d l i).length/\x=JO (b1 d l i) p/\y=JO (b2 d l i) p
def NBt(L:ASM)(vs:ASQ)(y w j:Nat)(t:Bt):Prop:=j<w/\((∃v x,InS L y v x w/\t=.va v (x+j))\/(L.length<=y/\∃bs:ASI,gB vs y=fW bs/\bs.length=w/\w<=4096/\t=.co (bs.getD j false)))
theorem qL{bs:ASI}{k:Nat}(h:k<bs.length):bt (fW bs).2.1 k=bs.getD k false:=qK h
theorem Amu{a b:ASI}(h:fW a=fW b):a=b:=by
 have hl:a.length=(b.length:Int):=congrArg (λx =>x.1) h;refine ARx (by omega) λk h1 h2=>?_;have e1:=qL h1;have e2:=qL h2;rw[h,e2]at e1;simpa [h1,h2]using e1.symm
theorem NBt.uniq{L:ASM}{vs:ASQ}{y w w' j j':Nat}{t t':Bt}(h:NBt L vs y w j t)(h':NBt L vs y w' j' t'):w=w'/\(j=j'->t=t'):=by
 rcases h.2 with ⟨v,x,⟨a1,a2⟩,rfl⟩|⟨a1,bs,a2,rfl,_,rfl⟩<;>rcases h'.2 with ⟨v',x',⟨b1,b2⟩,rfl⟩|⟨b1,HT,b2,rfl,_,rfl⟩
 ·grind
 ·omega
 ·omega
 ·have:=Amu (a2.symm.trans b2)
  grind
section
variable {d:ASL} {c:ASV}
theorem Ag8{B:ATU Bt}{a b i k:Nat}(S:mZ d c B a b i k)(hB:Bm d B){vs:ASQ}{n:Nat}(hn:Nd (SL d c d.length).length vs (Wz (SL d c d.length) B a b) n){j:Nat}(hj:j<b-a):NBt (SL d c d.length) vs n (b-a) j (JO B (a+j)):=by
 have hk:=S.hk;have Tl:=S.le;have hBl:=hB.2.1;have e0:=jy S;have e1:JO B (a+j)=((AA B).getD i (.co [])).bits.getD (k+j) (.co false):=by
  have:=congrArg (λl =>l[j]?) (pX S);simp only[ARg,List.getElem?_drop,hj,AQ2]at this;show B[a+j]?.getD _=(((AA B).getD i _).bits)[k+j]?.getD _;rw[this]
 refine⟨hj,?_⟩;cases hs:(AA B).getD i _ with
 |co x =>
  rw[hs]at e0 e1 hk;simp only[Sg.w]at hk;rw[show(Sg.co x).bits=x.map _ from rfl,FA _ (y:=false) (by omega)]at e0 e1;have hc:=q9 S hs;unfold Wz at hn;rw[e0]at hn;rcases hn with ⟨h,_⟩|⟨_,h1,_,h2⟩
  ·grind
  grind
 |va v l n' =>
  obtain⟨m,hm,UO,Tm⟩:=S.va v l n' hs;rw[hs]at e0 e1 hk;simp only[Sg.w]at hk;rw[show(Sg.va v l n').bits=(List.range n').map _ from rfl,Gt (by omega)]at e0 e1;unfold Wz at hn;rw[e0]at hn;simp only at hn;rw[hm]at hn;have kX:=(WG hm).2;have hnm:n=m:=by
   rcases hn with ⟨_,h⟩|⟨h,_⟩
   ·have h:n=(m:Int):=h;omega
   ·have h:0>(m:Int):=h;omega
  subst hnm;refine .inl ⟨v,l+k,⟨UO,?_⟩,by grind⟩;injection kX with h1 h2
  grind
end
section
variable {B1 B2:ATU Bt} {h:Nat->Nat->Bool}
theorem Aa9{L:ASM}{p:Nat}(h1:1<=p)(hp:jr B1 B2 h p=true):∀n,p<n->n<=B1.length->pcV L B1 B2 (OG 0 (eL B1 B2 h p)) p∈PP L B1 B2 0 (eL B1 B2 h n)
 |0,h2,_=>by omega
 |n+1,h2,h3=>by
  rw[dy n (by omega)];by_cases e:p=n
  ·subst e;rw[AQx hp,UX]
   grind
  ·have:=Aa9 (L:=L) h1 hp n (by omega) (by omega);split
   ·rw[UX];exact AQN _ this
   ·grind
theorem wE(B1 B2:ATU Bt)(h:Nat->Nat->Bool)(n:Nat):∀m q,q+m=n->0<m->∃p,q<p/\p<=n/\(p=n\/jr B1 B2 h p=true)/\∀r,q<r->r<p->jr B1 B2 h r=false
 |0,q,_,hm=>by omega
 |m+1,q,e,_=>by
  by_cases e1:m=0
  ·exact⟨q+1,by omega,by omega,.inl (by omega),λr h1 h2=>by omega⟩
  ·by_cases e2:jr B1 B2 h (q+1)=true
   ·grind
   ·obtain⟨p,h1,h2,h3,h4⟩:=wE B1 B2 h n m (q+1) (by omega) (by omega)
    grind
theorem cover{L:ASM}{q:Nat}(hq:q<B1.length):∃a b,Gap B1 B2 h a b/\a<=q/\q<b/\pcV L B1 B2 a b∈PP L B1 B2 0 (eL B1 B2 h B1.length++[B1.length]):=by
 obtain⟨p,h1,h2,h3,h4⟩:=wE B1 B2 h B1.length (B1.length-q) q (by omega) (by omega);have g:=b8     (by omega) h2 h3;refine⟨_,p,g,?_,h1,?_⟩
 ·rcases AQq q _ with Bp |Tl
  ·have:=h4 _ Bp g.lt;rcases g.fr with e |e
   ·omega
   ·grind
  ·grind
 ·rw[UX];rcases Nat.lt_or_eq_of_le h2 with h5 |h5
  ·exact AQN _ (Aa9 (by omega) (h3.resolve_left (by omega)) _ h5 (AQl _))
  grind
end
section
variable {d:ASL} {l:ASN} {f:Nat->Nat->Bool}
theorem Akx(hd:AE d)(hl:∀x∈l,Kr x)(NA:Fz d l)(hs:Cz d l){i:Nat}(hi:i<l.length){x:ASF}(hx:x∈uc d l f i):∃a b,Gap (b1 d l i) (b2 d l i) f a b/\x=pcV (SL d (Ax d f) d.length) (b1 d l i) (b2 d l i) a b:=by
 have hn:=(PQ hd hl NA hs hi).1.1;unfold uc at hx;rw[UX]at hx;rcases List.mem_append.1 hx with hx |hx
 ·exact qy (AQl _) x hx
 ·rw[AQG]at hx;exact⟨_,_,b8 hn (AQl _) (.inl rfl),hx⟩
theorem Abj(hd:AE d)(hl:∀x∈l,Kr x)(NA:Fz d l)(hs:Cz d l)(OO:EC d l f)(ht:∀v p,f v p=true->v<d.length/\1<=p/\p<W d v){i:Nat}(hi:i<l.length){a b:Nat}(g:Gap (b1 d l i) (b2 d l i) f a b){vs:ASQ}{n1 n2:Nat}
    (h1:Nd (SL d (Ax d f) d.length).length vs (Wz (SL d (Ax d f) d.length) (b1 d l i) a b) n1) (h2:Nd (SL d (Ax d f) d.length).length vs (Wz (SL d (Ax d f) d.length) (b2 d l i) a b) n2) {j:Nat} (hj:j<b-a) :
    ∃t t',NBt (SL d (Ax d f) d.length) vs n1 (b-a) j t/\NBt (SL d (Ax d f) d.length) vs n2 (b-a) j t'/\t=JO (b1 d l i) (a+j)/\t'=JO (b2 d l i) (a+j):=by
 have hC0:=ZX ht;obtain⟨aj,hc⟩:=QY hd f;obtain⟨s1,s2,s3,_⟩:=PQ hd hl NA hs hi;have BS:nc d (b1 d l i) (b2 d l i) (C0 (Ax d f)):=by rw[hC0];exact OO i hi
 have g':Gap (b1 d l i) (b2 d l i) (C0 (Ax d f)) a b:=by grind
 obtain⟨⟨i1,k1,S1⟩,i2,k2,S2⟩:=ah hd aj s1 s2 s3 BS g';exact⟨_,_,Ag8 S1 s1 h1 hj,Ag8 S2 s2 h2 hj,rfl,rfl⟩
end
end Go.Proofs.X
namespace Go.Proofs.X
open Go Go.Va
set_option maxRecDepth 100000
def CV(fx:ASH)(vs:ASQ)(rt:Nat->Nat)(y j:Nat):ATV Bool:=if 0<=gI fx (rt y)then some (bt (gB vs (gI fx (rt y)).toNat).2.1 j)else none
def VAL(L:ASM)(fx:ASH)(vs:ASQ)(rt:Nat->Nat)(t:Bt)(o:ATV Bool):Prop:=(∃b,t=.co b/\o=some b)\/∃y v x w j,InS L y v x w/\j<w/\t=.va v (x+j)/\o=CV fx vs rt y j
section
variable {d:ASL} {l:ASN} {f:Nat->Nat->Bool} {N:Nat} {ld fx:ASH} {vm:ATU AS1} {ks:ASM} {vs:ASQ} {Bf:ASH} {rt:Nat->Nat}
theorem VAL.uniq(hd:AE d){t:Bt}{o o':ATV Bool}(h:VAL (SL d (Ax d f) d.length) fx vs rt t o)(h':VAL (SL d (Ax d f) d.length) fx vs rt t o'):o=o':=by
 obtain⟨aj,hc⟩:=QY hd f;rcases h with ⟨b,rfl,rfl⟩|⟨y,v,x,w,j,h1,h2,rfl,rfl⟩<;>rcases h' with ⟨b',e,rfl⟩|⟨y',v',x',w',j',h1',h2',e,rfl⟩
 ·grind
 ·grind
 ·grind
 ·injection e with e1 e2;subst e1;have:=AbR hd aj h1 h1' h2 h2' e2;subst this;have hx:=h1.2.symm.trans h1'.2
  grind
theorem lI(J:JN (HL d l f) (SL d (Ax d f) d.length).length N ld fx vm ks vs Bf rt){y w j:Nat}{t:Bt}(h:NBt (SL d (Ax d f) d.length) vs y w j t)(hy:y<N):VAL (SL d (Ax d f) d.length) fx vs rt t (CV fx vs rt y j):=by
 obtain⟨hj,⟨v,x,hi,rfl⟩|⟨hn,bs,e,hl,hw,rfl⟩⟩:=h
 ·exact .inr ⟨y,v,x,w,j,hi,hj,rfl,rfl⟩
 ·refine .inl ⟨_,rfl,?_⟩;obtain⟨dp,hf⟩:=J.fo;have U6:=J.l1;have hr:=hf.aX y (by omega);rcases J.fx_ _ (by omega) hr.2.1 with ⟨_,h⟩|⟨k,h1,h2,h3,h4,_⟩
  ·grind
  ·unfold CV;rw[h1,VI,AQg,J.eqv k y h2 h3 hn hy h4,e,qL (by omega)]
theorem Aof{ns:Nat}{A:ASt}{i:Nat}(h:Nd ns vs A i)(ha:aY ns A)(hn:ns<=vs.length):i<vs.length:=by
 rcases h with ⟨h1,h2⟩|⟨_,_,h,_⟩
 ·rcases ha with ⟨_,h3⟩|⟨h3,_⟩
  ·omega
  ·omega
 ·grind
theorem u7(hd:AE d)(hl:∀x∈l,Kr x)(NA:Fz d l)(hs:Cz d l)(OO:EC d l f)(ht:∀v p,f v p=true->v<d.length/\1<=p/\p<W d v)
    (J:JN (HL d l f) (SL d (Ax d f) d.length).length N ld fx vm ks vs Bf rt) (hP:∀i,i<l.length->∀x∈uc d l f i,P1 (SL d (Ax d f) d.length).length rt vs x) {x y:Bt} (h:EL d l x y):∃o,VAL (SL d (Ax d f) d.length) fx vs rt x o/\VAL (SL d (Ax d f) d.length) fx vs rt y o:=by
 obtain⟨i,hi,p,hp,rfl,rfl⟩:=h;obtain⟨a,b,g,h1,h2,h3⟩:=cover    hp;obtain⟨n1,n2,q1,q2,q3⟩:=hP i hi _ h3;obtain⟨a1,a2⟩:=(wO hd hl NA hs OO ht hi).2 _ h3;have hnn:=J.nn;have hl3:=J.l3;have l1:=Aof q1 a1 (by omega);have l2:=Aof q2 a2 (by omega);obtain⟨t,t',u1,u2,u3,u4⟩:=Abj hd hl NA hs OO ht hi g q1 q2 (j:=p-a) (by omega);rw[show a+(p-a)=p by omega]at u3 u4;rw[<-u3,<-u4];refine⟨_,lI J u1 (by omega),?_⟩;have:=lI J u2 (by omega);unfold CV at this⊢;rw[q3];exact this
theorem yX(hd:AE d)(hl:∀x∈l,Kr x)(NA:Fz d l)(hs:Cz d l)(OO:EC d l f)(ht:∀v p,f v p=true->v<d.length/\1<=p/\p<W d v)
    (J:JN (HL d l f) (SL d (Ax d f) d.length).length N ld fx vm ks vs Bf rt) (hP:∀i,i<l.length->∀x∈uc d l f i,P1 (SL d (Ax d f) d.length).length rt vs x) {x y:Bt} (h:BE (EL d l) x y) {o:ATV Bool} (hx:VAL (SL d (Ax d f) d.length) fx vs rt x o):VAL (SL d (Ax d f) d.length) fx vs rt y o:=by
 induction h with
 |refl=>grind
 |iJ _ e ih =>
  obtain⟨o',h1,h2⟩:=u7 hd hl NA hs OO ht J hP e;rw[ih.uniq hd h1];exact h2
 |bwd _ e ih =>
  obtain⟨o',h1,h2⟩:=u7 hd hl NA hs OO ht J hP e;rw[ih.uniq hd h2];exact h1
theorem pg(hd:AE d)(hl:∀x∈l,Kr x)(NA:Fz d l)(hs:Cz d l)(OO:EC d l f)(ht:∀v p,f v p=true->v<d.length/\1<=p/\p<W d v)
    (J:JN (HL d l f) (SL d (Ax d f) d.length).length N ld fx vm ks vs Bf rt) {k:ASw} (hk:k∈ks):∃n1 n2 w:Nat,k.1=(n1:Int)/\k.2.1=(n2:Int)/\0<w/\∀j,j<w->∃t t',NBt (SL d (Ax d f) d.length) vs n1 w j t/\NBt (SL d (Ax d f) d.length) vs n2 w j t'/\EL d l t t':=by
 obtain⟨A,B,n1,n2,⟨i,hi,x,hx,rfl,rfl⟩,h2,h3,h4,h5⟩:=J.lkp k hk;obtain⟨a,b,g,rfl⟩:=Akx hd hl NA hs hi hx;have Bp:=g.lt;have Tl:=g.le;refine⟨n1,n2,b-a,h4,h5,by omega,λj hj=>?_⟩;obtain⟨t,t',u1,u2,u3,u4⟩:=Abj hd hl NA hs OO ht hi g h2 h3 hj;exact⟨t,t',u1,u2,i,hi,a+j,by omega,u3,u4⟩
theorem pK(hd:AE d)(hl:∀x∈l,Kr x)(NA:Fz d l)(hs:Cz d l)(OO:EC d l f)(ht:∀v p,f v p=true->v<d.length/\1<=p/\p<W d v)
    (J:JN (HL d l f) (SL d (Ax d f) d.length).length N ld fx vm ks vs Bf rt) {m w j:Nat} {t:Bt} (h0:NBt (SL d (Ax d f) d.length) vs m w j t) {y:Int} (h:Cn ks (m:Int) y):∃n:Nat,y=(n:Int)/\∃t',NBt (SL d (Ax d f) d.length) vs n w j t'/\BE (EL d l) t t':=by
 induction h with
 |refl=>exact⟨m,rfl,t,h0,.refl _⟩
 |iJ hk _ ih =>
  obtain⟨n,e,t',h1,h2⟩:=ih;obtain⟨n1,n2,w',e1,e2,h3,h4⟩:=pg hd hl NA hs OO ht J hk;have hn:n1=(n:Int):=e1.symm.trans e;have hn:n1=n:=by omega
  subst hn;obtain⟨s,s',g1,_⟩:=h4 0 h3;have hw:=(h1.uniq g1).1;subst hw;obtain⟨s,s',g1,g2,g3⟩:=h4 j h1.1;have:=(h1.uniq g1).2 rfl;subst this;exact⟨n2,e2,s',g2,.iJ h2 g3⟩
 |bwd hk _ ih =>
  obtain⟨n,e,t',h1,h2⟩:=ih;obtain⟨n1,n2,w',e1,e2,h3,h4⟩:=pg hd hl NA hs OO ht J hk;have hn:n2=(n:Int):=e2.symm.trans e;have hn:n2=n:=by omega
  subst hn;obtain⟨s,s',_,g1,_⟩:=h4 0 h3;have hw:=(h1.uniq g1).1;subst hw;obtain⟨s,s',g2,g1,g3⟩:=h4 j h1.1;have:=(h1.uniq g1).2 rfl;subst this;exact⟨n1,e1,s,g2,.bwd h2 g3⟩
theorem sem(hd:AE d)(hl:∀x∈l,Kr x)(NA:Fz d l)(hs:Cz d l)(OO:EC d l f)(ht:∀v p,f v p=true->v<d.length/\1<=p/\p<W d v)
    (J:JN (HL d l f) (SL d (Ax d f) d.length).length N ld fx vm ks vs Bf rt) (hP:∀i,i<l.length->∀x∈uc d l f i,P1 (SL d (Ax d f) d.length).length rt vs x) :
    ¬BE (EL d l) (.co false) (.co true)/\∀{m v x w j:Nat},InS (SL d (Ax d f) d.length) m v x w->j<w->∀b,CV fx vs rt m j=some b↔BE (EL d l) (.va v (x+j)) (.co b):=by
 refine⟨λh=>?_,λ{m v x w j} hi hj b=>⟨λh=>?_,λh=>?_⟩⟩
 ·have:=yX hd hl NA hs OO ht J hP h  (.inl ⟨_,rfl,rfl⟩);have:=this.uniq hd  (.inl ⟨_,rfl,rfl⟩);cases this
 ·obtain⟨dp,hf⟩:=J.fo;have U6:=J.l1;have hnn:=J.nn;have hm:m<N:=by have:=hi.1;omega
  have hr:=hf.aX m (by omega);have h':=h;unfold CV at h;split at h
  ·rcases J.fx_ _ (by omega) hr.2.1 with ⟨h1,_⟩|⟨k,h1,h2,h3,h4,_⟩
   ·omega
   ·have h0:NBt _ vs m w j _:=⟨hj,.inl ⟨v,x,hi,rfl⟩⟩;obtain⟨n,e,t',g1,g2⟩:=pK hd hl NA hs OO ht J h0 (J.cn m k hm h3 h4.symm);have :=by omega
    have v1:=yX hd hl NA hs OO ht J hP g2 (lI J h0 hm);rw[h']at v1;rcases g1.2 with ⟨_,_,h5,_⟩|⟨_,bs,_,_,_,rfl⟩
    ·have:=h5.1;omega
    ·have:=v1.uniq hd  (.inl ⟨_,rfl,rfl⟩)
     grind
  ·grind
 ·have v1:=yX hd hl NA hs OO ht J hP h  (.inr ⟨m,v,x,w,j,hi,hj,rfl,rfl⟩);exact v1.uniq hd (.inl ⟨b,rfl,rfl⟩)
theorem Ag0(hd:AE d)(hl:∀x∈l,Kr x)(NA:Fz d l)(hs:Cz d l)(OO:EC d l f)(ht:∀v p,f v p=true->v<d.length/\1<=p/\p<W d v)
    (J:JN (HL d l f) (SL d (Ax d f) d.length).length N ld fx vm ks vs Bf rt) {m v x w:Nat} (hi:InS (SL d (Ax d f) d.length) m v x w) (hw:0<w) (h:0<=gI fx (rt m)):∃bs:ASI,gB vs (gI fx (rt m)).toNat=fW bs/\bs.length=w/\w<=4096:=by
 obtain⟨dp,hf⟩:=J.fo;have U6:=J.l1;have hnn:=J.nn;have hm:m<N:=by have:=hi.1;omega
 have hr:=hf.aX m (by omega);rcases J.fx_ (rt m) (by omega) hr.2.1 with ⟨h1,_⟩|⟨k,h1,h2,h3,h4,_⟩
 ·omega
 ·obtain⟨n,e,t',g1,_⟩:=pK hd hl NA hs OO ht J (m:=m) (w:=w) (j:=0) (t:=.va v (x+0)) ⟨hw,.inl ⟨v,x,hi,rfl⟩⟩ (J.cn m k hm h3 h4.symm);have:n=k:=by omega
  subst this;rcases g1.2 with ⟨_,_,h5,_⟩|⟨_,bs,h5,h6,h7,_⟩
  ·have:=h5.1;omega
  ·grind
end
end Go.Proofs.X
namespace Go.Proofs.X
open Go Go.Va
set_option maxRecDepth 100000
theorem lb{bs:ASI}{k:Nat}(h:k<bs.length)(hl:bs.length<=8192):I9 (fW bs) (k:Int)=some (bI (bs.getD k false)):=by
 have hw:=DC (low (λi=>bs.getD i false) bs.length) (nw bs.length);have hlen:=ED (low (λi=>bs.getD i false) bs.length) (nw bs.length);unfold I9;rw[cJ (by omega),Xj,AQx ⟨by omega,by show((k/64))<((cP _ _).length:Int);rw[hlen];unfold nw;omega⟩,AQg];show some (fq .u64 (T8 .u64 ((cP _ _).getD _ 0) _) 1)=_;rw[oO (eU (hw.getD _) rfl (by omega)),cH (hw.getD _) rfl (by omega),AQL];show some (bI (bt _ k))=_;rw[qK h]
abbrev AS:Type:=AS0
abbrev aV(all:AS)(v:Nat):ASR:=all.getD v ATP.zero
abbrev zS:ASB:=Ty.zero Ak
abbrev sV(all:AS)(v a:Nat):ASB:=(aV all v).getD a zS
theorem ZE{rt:Nat->Nat}{a:Nat}:∀{n:Nat} {y:Int},y∈Sn rt n a↔∃j:Nat,j<n/\y=(j:Int)/\rt j=rt a
 |0,y=>⟨λh=>by simp[Sn]at h,λ⟨j,h,_⟩=>by omega⟩
 |n+1,y=>by
  rw[Sn];constructor
  ·intro h;split at h
   ·rename_i e;rcases List.mem_append.1 h with h |h
    ·obtain⟨j,h1,h2⟩:=ZE.1 h;exact⟨j,by omega,h2⟩
    grind
   ·obtain⟨j,h1,h2⟩:=ZE.1 h;exact⟨j,by omega,h2⟩
  ·rintro⟨j,h1,h2,h3⟩
   by_cases e:j=n
   ·grind
   ·have:=(ZE (n:=n)).2 ⟨j,by omega,h2,h3⟩
    grind
section
variable {d:ASL} {c:ASV} {P:Nat->Nat->ASB->Prop}
structure Gd (d:ASL) (L:ASM) (P:Nat->Nat->ASB->Prop) (D:Nat->Nat->Prop) (all:AS):Prop where
 len:all.length=d.length
 row:∀v,v<d.length->(aV all v).length=W d v
 ok:∀{m v x w j:Nat},InS L m v x w->j<w->D m j->P m j (sV all v (x+j))
theorem Gd.mono{L:ASM}{D D':Nat->Nat->Prop}{all:AS}(h:Gd d L P D all)(hD:∀m j,D' m j->D m j):Gd d L P D' all:=⟨h.len,h.row,λa b e=>h.ok a b (hD _ _ e)⟩
theorem Gd.put(hd:AE d)(hc:Dk d c){D:Nat->Nat->Prop}{all:AS}(h:Gd d (SL d c d.length) P D all){m v x w j:Nat}(hi:InS (SL d c d.length) m v x w)(hj:j<w){one:ASB}(ho:P m j one):Gd d (SL d c d.length) P (λm' j'=>D m' j'\/(m'=m/\j'=j)) (all.set v ((aV all v).set (x+j) one)):=by
 obtain⟨hv,hw⟩:=Aoj hd hc hi;have hl:=h.len;have hr:=h.row v hv;have ha:∀u,aV (all.set v ((aV all v).set (x+j) one)) u=if u=v then(aV all v).set (x+j) one else aV all u:=λu=>by
  grind
 refine⟨by grind,λu hu=>?_,λ{m' v' x' w' j'} tN Sv hD=>?_⟩
 ·rw[ha];split
  ·grind
  ·exact h.row u hu
 ·unfold sV;rw[ha];by_cases e:v'=v
  ·subst e;rw[AQx rfl];by_cases e2:x'+j'=x+j
   ·have hm:=AbR hd hc tN hi Sv hj e2;subst hm;have hx:=tN.2.symm.trans hi.2
    grind
   ·rw[show((aV all v').set (x+j) one).getD (x'+j') zS=sV all v' (x'+j') by grind];rcases hD with hD |⟨rfl,rfl⟩
    ·exact h.ok tN Sv hD
    ·have hx:=tN.2.symm.trans hi.2
     grind
  ·rw[AQy e];rcases hD with hD |⟨rfl,rfl⟩
   ·exact h.ok tN Sv hD
   ·have hx:=tN.2.symm.trans hi.2;injection hx with hx _;omega
end
section
variable {d:ASL} {l:ASN} {f:Nat->Nat->Bool} {N:Nat} {ld fx:ASH} {vm:ATU AS1} {ks:ASM} {vs:ASQ} {Bf:ASH} {rt:Nat->Nat}
def Sgn(fx:ASH)(vs:ASQ)(rt:Nat->Nat)(m j:Nat)(s:ASB):Prop:=(∀b,CV fx vs rt m j=some b->s=(-1,0,bI b,()))/\(CV fx vs rt m j=none->(0:Int)<=s.1)
theorem AiM(hd:AE d)(hl:∀x∈l,Kr x)(NA:Fz d l)(hs:Cz d l)(OO:EC d l f)(ht:∀v p,f v p=true->v<d.length/\1<=p/\p<W d v)
    (J:JN (HL d l f) (SL d (Ax d f) d.length).length N ld fx vm ks vs Bf rt) {ns r m v x w:Nat} (hi:InS (SL d (Ax d f) d.length) m v x w) (hr:rt m=rt r) {D:Nat->Nat->Prop} {all:AS} (hG:Gd d (SL d (Ax d f) d.length) (Sgn fx vs rt) D all)
    (a:Int) (k:Nat) (l0:Int) (q:ASH) (s v0:Int) (b:ASL) (c:ASN) (d0:ASV) (e:ASS) (g:ASH) (i:ATU ud) (j:ASM) (k0:FM) :
    Az (Jt a (k:Int) l0 q s v0 b c d0 e g i j k0 (cV rt fx vs ns r) (w:Int) (nV (SL d (Ax d f) d.length) m) 0 all) (Gd d (SL d (Ax d f) d.length) (Sgn fx vs rt) λm' j'=>D m' j'\/m'=m):=by
 obtain⟨aj,_⟩:=QY hd f;obtain⟨hv,hw⟩:=Aoj hd aj hi;obtain⟨_,_,hW⟩:=Qg hd hv;unfold Jt;refine Bu (λn (s:Int×AS)=>∃i:Nat,s.1=(i:Int)/\i<=w/\n=w-i/\Gd d (SL d (Ax d f) d.length) (Sgn fx vs rt) (λm' j'=>D m' j'\/(m'=m/\j'<i)) s.2) (λn s hI=>?_) w (0,all) ⟨0,rfl,AQ1 _,rfl,hG.mono λm' j' h=>h.elim id λh=>by omega⟩;obtain⟨i',e1,tN,rfl,hg⟩:=hI;obtain⟨s1,s2⟩:=s;simp only at e1 hg;subst e1;unfold HY LS Js;simp only;rcases AQq i' w with Bp |aS
 ·have hlen:=hg.len;have O6:=hg.row v hv;rw[C9 Bp,AQv,hi.2];simp only;rw[show wI ((x:Int)+(i':Int))=((x+i':Nat):Int)from AZ,show wI ((i':Int)+1)=((i'+1:Nat):Int)from AZ];simp only[AQg];have key:∀one:Int×Int×Int,Sgn fx vs rt m i' (one.1,one.2.1,one.2.2,())->∃T,(if(0:Int)<=(v:Int)/\(v:Int)<(s2.length:Int)then
      if(0:Int)<=((x+i':Nat):Int)/\((x+i':Nat):Int)<((s2.getD v ATP.zero).length:Int)then
      some (Sum.inl (((i'+1:Nat):Int),s2.set v ((s2.getD v ATP.zero).set (x+i') (one.1,one.2.1,one.2.2,()))))else none else none:ATV ((Int×AS)⊕AS))=some (.inl (((i'+1:Nat):Int),T))/\Gd d (SL d (Ax d f) d.length) (Sgn fx vs rt) (λm' j'=>D m' j'\/(m'=m/\j'<i'+1)) T:=λone ho=>by
   rw[AQx (Bj (show v<s2.length by omega)),AQx (Bj (show x+i'<(aV s2 v).length by omega))];refine⟨_,rfl,(hg.put hd aj hi Bp ho).mono λm' j' h=>?_⟩;rcases h with h |⟨h1,h2⟩
   ·exact .inl (.inl h)
   ·by_cases e:j'=i'
    ·exact .inr ⟨h1,e⟩
    ·exact .inl (.inr ⟨h1,by omega⟩)
  have Y1:CV fx vs rt m i'=if 0<=gI fx (rt r)then some (bt (gB vs (gI fx (rt r)).toNat).2.1 i')else none:=by unfold CV;rw[hr]
  unfold cV;by_cases h0:0<=gI fx (rt r)
  ·rw[AQk (show gI fx (rt r)>=0 from h0),AQv];simp only[AQv];obtain⟨bs,u1,u2,u3⟩:=Ag0 hd hl NA hs OO ht J hi (by omega) (by rw[hr];exact h0);rw[hr]at u1;rw[show(((gB vs (gI fx (rt r)).toNat).1,(gB vs (gI fx (rt r)).toNat).2.1,()):ASA)=fW bs from u1,lb (by omega) (by omega),AQf,AQf];rw[AQx h0,u1,qL (by omega)]at Y1;obtain⟨T,e,hT⟩:=key (-1,0,bI (bs.getD i' false)) ⟨λb hb=>(by rw[Y1]at hb;injection hb with hb;rw[hb]),λh=>(by rw[Y1]at h;cases h)⟩;exact Az.of e ⟨w-(i'+1),by omega,i'+1,rfl,by omega,rfl,hT⟩
  ·rw[AQi (show ¬gI fx (rt r)>=0 from h0),AQu];simp only[AQu,AQf];rw[AQy h0]at Y1;obtain⟨T,e,hT⟩:=key ((k:Int),(i':Int),0) ⟨λb hb=>(by rw[Y1]at hb;cases hb),λ_=>Int.natCast_nonneg k⟩;exact Az.of e ⟨w-(i'+1),by omega,i'+1,rfl,by omega,rfl,hT⟩
 ·have:i'=w:=by omega
  subst this;rw[DU,AQu];refine Az.mk ⟨hg.len,hg.row,λ{m' v' x' w' j'} a1 a2 a3=>hg.ok a1 a2 ?_⟩;rcases a3 with h |rfl
  ·exact .inl h
  ·refine .inr ⟨rfl,?_⟩;have hx:=a1.2.symm.trans hi.2;injection hx with _ hx;injection hx with _ hx;injection hx with hx _;have hx:(w':Int)=i':=hx;omega
theorem AiN(hd:AE d)(hl:∀x∈l,Kr x)(NA:Fz d l)(hs:Cz d l)(OO:EC d l f)(ht:∀v p,f v p=true->v<d.length/\1<=p/\p<W d v)
    (J:JN (HL d l f) (SL d (Ax d f) d.length).length N ld fx vm ks vs Bf rt) (a:Int) (c:ASN) (d0:ASV) (g:ASH) (i:ATU ud) (k0:FM) :
    Az (JY a d c d0 ((Dd rt (SL d (Ax d f) d.length).length).map (cV rt fx vs (SL d (Ax d f) d.length).length)) g i (SL d (Ax d f) d.length) k0) λr=>Gd d (SL d (Ax d f) d.length) (Sgn fx vs rt) (λ_ _=>True) r.2.2.2.2.2.2.2.2:=by
 obtain⟨aj,_⟩:=QY hd f;have Jk:=fl hd aj d.length (AQl _);have Zs:=hd.1;have hrl:=jw rt (SL d (Ax d f) d.length).length;unfold JY;rw[AQx ⟨rfl,by omega,ARs _,by omega,by omega⟩,AQg];refine Az.bind (P:=Gd d (SL d (Ax d f) d.length) (Sgn fx vs rt) λ_ _=>False) ?_ λall hG=>?_
 ·unfold OS;refine Bu (λn (s:Int×AS)=>∃k:Nat,s.1=(k:Int)/\k<=d.length/\n=d.length-k/\s.2.length=d.length/\∀v,v<k->(aV s.2 v).length=W d v) (λn s hI=>?_) d.length _ ⟨0,rfl,AQ1 _,rfl,AQM,λv h=>by omega⟩;obtain⟨k,e1,hk,rfl,h1,h2⟩:=hI;obtain⟨s1,s2⟩:=s;simp only at e1 h1 h2;subst e1;unfold HX LR;simp only;rcases AQq k d.length with Bp |aS
  ·obtain⟨w0,w1,w2⟩:=Qg hd Bp;have w0:(d.getD k Ab.zero).2.1=(W d k:Int):=w0;rw[C9 Bp,AQv,AQx (Bj Bp)];simp only[AQg,w0];rw[AQx (show Ty.row Ak=true/\(0:Int)<=(W d k:Int)/\(W d k:Int)<=(W d k:Int)/\((24:Nat):Int)*(W d k:Int)<=(281474976710656:Int)/\(W d k:Int)<=(9223372036854775807:Int)from⟨rfl,by omega,ARs _,by omega,by omega⟩),AQx (Bj (show k<s2.length by omega)),show wI ((k:Int)+1)=((k+1:Nat):Int)from AZ];refine Az.mk ⟨d.length-(k+1),by omega,k+1,rfl,by omega,rfl,by rw[AQo];exact h1,λv hv=>?_⟩;by_cases e:v=k
   ·subst e;simp[aV,List.getD,h1,Bp]
   ·have:=h2 v (by omega);simp only[aV,List.getD,AQE,Ne.symm e,ARH]at this⊢;exact this
  ·have:k=d.length:=by omega
   subst this;rw[DU,AQu];exact Az.mk ⟨h1,h2,λ_ _ h=>h.elim⟩
 ·refine Az.bind (P:=Gd d (SL d (Ax d f) d.length) (Sgn fx vs rt) λ_ _=>True) ?_ λr hr=>Az.mk hr;unfold OU;generalize hC:(Dd rt (SL d (Ax d f) d.length).length).map (cV rt fx vs (SL d (Ax d f) d.length).length)=C;have hCl:C.length=(Dd rt (SL d (Ax d f) d.length).length).length:=by rw[<-hC,AQr]
  have hCg:∀k,k<C.length->C.getD k Ap.zero=cV rt fx vs (SL d (Ax d f) d.length).length (rp rt (SL d (Ax d f) d.length).length k):=λk hk=>by
   rw[<-hC];exact FA (cV rt fx vs (SL d (Ax d f) d.length).length) (by omega)
  refine Bu (λn (s:Int×AS)=>∃k:Nat,s.1=(k:Int)/\k<=C.length/\n=C.length-k/\Gd d (SL d (Ax d f) d.length) (Sgn fx vs rt) (λm _=>∃k',k'<k/\rt m=rt (rp rt (SL d (Ax d f) d.length).length k')) s.2) (λn s hI=>?_) C.length (0,all) ⟨0,rfl,AQ1 _,rfl,hG.mono λm j h=>by obtain⟨k',h,_⟩:=h;omega⟩;obtain⟨k,e1,hk,rfl,hg⟩:=hI;obtain⟨s1,s2⟩:=s;simp only at e1 hg;subst e1;unfold H5 LV;simp only;rcases AQq k C.length with Bp |aS
  ·rw[C9 Bp,AQv,AQx (Bj Bp)];simp only[AQg,hCg k Bp];generalize hR:rp rt (SL d (Ax d f) d.length).length k=R;have rO:=js rt R (SL d (Ax d f) d.length).length;rw[show wI ((k:Int)+1)=((k+1:Nat):Int)from AZ,show(cV rt fx vs (SL d (Ax d f) d.length).length R).1=Sn rt (SL d (Ax d f) d.length).length R from rfl];refine Az.bind (P:=Gd d (SL d (Ax d f) d.length) (Sgn fx vs rt) λm _=>(∃k',k'<k/\rt m=rt (rp rt (SL d (Ax d f) d.length).length k'))\/(m:Int)∈Sn rt (SL d (Ax d f) d.length).length R) ?_ λr hr=>Az.mk ⟨C.length-(k+1),by omega,k+1,rfl,by omega,rfl,⟨hr.len,hr.row,λ{m v x w j} a1 a2 a3=>hr.ok a1 a2 ?_⟩⟩
   rotate_right
   ·obtain⟨k',b1,b2⟩:=a3;by_cases e:k'=k
    ·subst e;rw[hR]at b2;exact .inr (ZE.2 ⟨m,a1.1,rfl,b2⟩)
    ·exact .inl ⟨k',by omega,b2⟩
   unfold OT;generalize hM:Sn rt (SL d (Ax d f) d.length).length R=M at *;refine Bu (λn (s:Int×AS)=>∃p:Nat,s.1=(p:Int)/\p<=M.length/\n=M.length-p/\Gd d (SL d (Ax d f) d.length) (Sgn fx vs rt) (λm _=>(∃k',k'<k/\rt m=rt (rp rt (SL d (Ax d f) d.length).length k'))\/(m:Int)∈M.take p) s.2) (λn s hI=>?_) M.length (0,s2) ⟨0,rfl,AQ1 _,rfl,hg.mono λm j h=>h.elim id λh=>by simp at h⟩;obtain⟨p,e1,hp,rfl,hg'⟩:=hI;obtain⟨t1,t2⟩:=s;simp only at e1 hg';subst e1;unfold HZ LU;simp only;rcases AQq p M.length with Al4 |AOM
   ·have hpm:M.getD p ATE.zero∈M:=AK Al4;obtain⟨m,m1,m2,m3⟩:=ZE.1 (show M.getD p ATE.zero∈Sn rt (SL d (Ax d f) d.length).length R by rw[hM];exact hpm);obtain⟨v,x,w,hi,_,_⟩:=AHm hd aj m1;rw[C9 Al4,AQv,AQx (Bj Al4)];simp only[AQg,m2];rw[AQx (Bj m1),show(SL d (Ax d f) d.length).getD m Ae.zero=nV (SL d (Ax d f) d.length) m from rfl];have hw:(nV (SL d (Ax d f) d.length) m).2.2.1=(w:Int):=by rw[hi.2]
    rw[hw,show wI ((p:Int)+1)=((p+1:Nat):Int)from AZ];refine(AiM hd hl NA hs OO ht J (ns:=(SL d (Ax d f) d.length).length) hi m3 hg' a k _ _ _ _ _ _ _ _ _ _ _ _).bind λr hr=>Az.mk ⟨M.length-(p+1),by omega,p+1,rfl,by omega,rfl,hr.mono λm' j' h=>?_⟩;rcases h with h |h
    ·exact .inl (.inl h)
    ·rw[AY (z :=ATE.zero) Al4]at h;rcases List.mem_append.1 h with h |h
     ·exact .inl (.inr h)
     ·rw[AQG,m2]at h;exact .inr (by omega)
   ·have:p=M.length:=by omega
    subst this;rw[DU,AQu];rw[ARJ]at hg';exact Az.mk hg'
  ·have:k=C.length:=by omega
   subst this;rw[DU,AQu];refine Az.mk ⟨hg.len,hg.row,λ{m v x w j} a1 a2 _=>hg.ok a1 a2 ?_⟩;obtain⟨k',b1,b2⟩:=eG rt (SL d (Ax d f) d.length).length m a1.1;exact⟨k',by omega,b2.symm⟩
end
end Go.Proofs.X
namespace Go.Proofs.X
open Go Go.Va
set_option maxRecDepth 100000
theorem lg{w:Int}{s:ASH}(hs:CW s){k:Nat}(hk:k<64*s.length)(hl:s.length<=1048576):∃s',Ly w (k:Int) s=some s'/\CW s'/\s'.length=s.length/\∀i,bt s' i=(bt s i||decide (i=k)):=by
 have hq:k/64<s.length:=by omega
 have Jk:QR (N5 .u64 1 ((k%64:Nat))):=jB Yx rfl (by omega);refine⟨s.set (k/64) (gg .u64 (s.getD (k/64) 0) _),?_,hs.set (mD (hs.getD _) Jk),AQo,λi=>?_⟩
 ·unfold Ly;rw[cJ (by omega),Xj,AQx (Bj hq),AQx (Bj hq)];rfl
 ·rw[Zi hq];by_cases h3:i/64=k/64
  ·rw[AQx h3,xu (hs.getD _) Jk,tg Yx rfl (by omega),Aam];have:tb (s.getD (k/64) 0) (i%64)=bt s i:=by unfold bt;rw[h3]
   grind
  grind
def sgB(all:AS):Bt->ASB
 |.co b=>(-1,0,bI b,())
 |.va v a=>sV all v a
section
variable {d:ASL} {all:AS}
theorem AdK(hl:all.length=d.length)(hr:∀v,v<d.length->(aV all v).length=W d v){s:Sg}(hs:Xl s)(hb:∀x∈s.bits,MS d x){b:ASO}{c e:Int}{q:ASR}(hq:q.length<=8192):Ur all b c e (s.w:Int) (Ir s) 0 q=some (q++s.bits.map (sgB all)):=by
 have hsw:s.w<=4096:=by cases s<;>simp only[Xl,Sg.w]at *<;>omega
 have:=AP (f:=FV all b c e s.w (Ir s)) (λk=>(k,q++(s.bits.take k).map (sgB all)))  s.w (λk hk=>by
  unfold FV Mb PD;simp only;have X0:k<s.bits.length:=by rw[Iw];exact hk
  have hlen:(q++(s.bits.take k).map (sgB all)).length<=20000:=by grind
  rw[C9 hk,AQv,Bl hk (by omega),HP X0,AQY,<-AQn];cases s with
  |co bs =>
   simp only[Sg.w]at hk hsw;rw[show((Ir _).1==(-1))=true from rfl,AQv,show I9 (Ir (.co bs)).2.2.2.1 _=some _ from lb hk (by omega),AQf,AQx (by grind)];rw[show(Sg.co bs).bits.getD k _=.co (bs.getD k _) by simp[Sg.bits,hk]];rfl
  |va v l n =>
   simp only[Sg.w,Xl]at hk hs hsw;have hx:(Sg.va v l n).bits.getD k (.co false)=.va v (l+k):=by simp[Sg.bits,hk]
   have hbi:=hb _ (AK (z:=.co false) X0);rw[hx]at hbi⊢;obtain⟨hv,ha⟩:=hbi;have O6:=hr v hv;have haw:l+k<W d v:=by unfold W;omega
   rw[show((Ir (.va v l n)).1==(-1))=false from beq_eq_false_iff_ne.2 (show ¬((v:Int)=-1) by omega),AQu];rw[show(Ir _).1=v from rfl,AQx (Bj (show v<all.length by omega)),AQg,show wI _=((l+k:Nat))from AZ (by show l+(k:Int)=_;omega) (by omega)];rw[AQx (Bj (show l+k<(aV all v).length by omega)),AQx (by grind)];rfl) (by
  unfold FV Mb;rw[DU,AQu,<-Iw,AQp (AQl _)])
 rw[AR9,ARN,AQU]at this;exact this
theorem Aaa(hd:AE d)(hl:all.length=d.length)(hr:∀v,v<d.length->(aV all v).length=W d v){B:ATU Bt}(h:Bm d B):Rl (fN B) all=some (B.map (sgB all)):=by
 unfold Rl Us;have hlen:=CQ (CJ B);rw[B9]at hlen;have h4:=h.2.1;have hsb:=Qq (λx hx=>fy (SE hd (h.2.2 x hx))) h4;have Gq :=λs hs x hx=>h.2.2 x (by
  rw[<-EU B];exact List.mem_flatMap.2 ⟨s,hs,hx⟩)
 have:=AP (f:=DZ all _ ((fN B).length)) (λk=>(k,(Dt ((AA B).take k)).map _))  _ (λk hk=>by
  unfold DZ Mc;have hw:=Fw (AA B) k;rw[B9]at hw;rw[rz,C9 hk,AQv,AQx (Bj hk),AQg,show(fN B).getD k _=Ir _ from iH hk,ZM,AdK hl hr (hsb _ (AK hk)) (Gq _ (AK hk)) (by rw[AQr,Lx];omega),AQf,Bl hk (by omega),Ul hk,AQY]) (by
  unfold DZ Mc;rw[rz,DU,AQu,AQp (AQl _),EU])
 rw[show fix (DZ all _ _) (0,[])=some _ from this];rfl
theorem AcV(hd:AE d)(hl:all.length=d.length)(hr:∀v,v<d.length->(aV all v).length=W d v){B:ATU Bt}(h:Bm d B){kn:Bt->ATV Bool}
    (hk:∀t∈B,(∀b,kn t=some b->sgB all t=(-1,0,bI b,()))/\(kn t=none->(0:Int)<=(sgB all t).1)) :
    TR (fN B) all=some ((B.length:Int),(B.length:Int),cP (low (λi=>(kn (JO B i)).isSome) B.length) (nw B.length),cP (low (λi=>kn (JO B i)==some true) B.length) (nw B.length)):=by
 have h4:=h.2.1;have hnw:nw B.length<=64:=by unfold nw;omega
 unfold TR;rw[Aau h,AQf,WY (by omega),AQf,AQf,Aaa hd hl hr h,AQf];refine Az.eq_ ?_;refine Az.bind (P:=λr:ASH×ASH=>r.1=cP (low (λi=>(kn (JO B i)).isSome) B.length) (nw B.length)/\r.2=cP (low (λi=>kn (JO B i)==some true) B.length) (nw B.length)) ?_ λr hr=>by
  unfold Re;rw[AQf,hr.1,hr.2];exact Az.mk rfl
 unfold VL;rw[AQr];refine Bu (λm (s:Int×ASH×ASH)=>∃n:Nat,s.1=(n:Int)/\n<=B.length/\m=B.length-n/\CW s.2.1/\s.2.1.length=nw B.length/\CW s.2.2/\s.2.2.length=nw B.length/\(∀i,bt s.2.1 i=(decide (i<n)&&(kn (JO B i)).isSome))/\∀i,bt s.2.2 i=(decide (i<n)&&(kn (JO B i)==some true))) (λm s hI=>?_) B.length _ ⟨0,rfl,AQ1 _,rfl,CW.rep,AQM,CW.rep,AQM,λi=>by rw[qM];simp,λi=>by rw[qM];simp⟩;obtain⟨n,e1,hn,rfl,o1,o2,q1,q2,o3,q3⟩:=hI;obtain⟨s1,o,q⟩:=s;simp only at e1 o1 o2 q1 q2 o3 q3;subst e1;unfold NS SQ Rc;simp only;rcases AQq n B.length with Bp |aS
 ·have hbn:B.getD n (.co false)=JO B n:=rfl;have hm:JO B n∈B:=AK Bp;obtain⟨k1,k2⟩:=hk _ hm;have AGE:n<64*nw B.length:=by unfold nw;omega
  rw[C9 Bp,AQv,AQx (Bj (show n<(B.map (sgB all)).length by rw[AQr];exact Bp)),AQg,show wI ((n:Int)+1)=((n+1:Nat):Int)from AZ];rw[show(B.map (sgB all)).getD n Ak.zero=sgB all (JO B n)from FA (sgB all) Bp];have stp:∀(g:Nat->Bool) (i:Nat),g n=false->(decide (i<n)&&g i)=(decide (i<n+1)&&g i):=λg i hg=>by
   by_cases e:i=n
   ·subst e;simp[hg]
   ·congr 1;simp only[ARI];omega
  have AHp:∀(g:Nat->Bool) (i:Nat),g n=true->((decide (i<n)&&g i)||decide (i=n))=(decide (i<n+1)&&g i):=λg i hg=>by
   by_cases e:i=n
   ·subst e;simp[hg]
   ·rw[AQi e,Bool.or_false];congr 1;simp only[ARI];omega
  cases hc:kn (JO B n)with
  |none =>
   have:=k2 hc;rw[AQk (show(sgB all (JO B n)).1>=0 from this),AQv,AQf];refine Az.mk ⟨B.length-(n+1),by omega,n+1,rfl,by omega,rfl,o1,o2,q1,q2,λi=>?_,λi=>?_⟩
   ·rw[o3 i,stp (λi=>(kn (JO B i)).isSome) i (by simp[hc])]
   ·rw[q3 i,stp (λi=>kn (JO B i)==some true) i (by simp[hc])]
  |some b =>
   rw[k1 b hc,show decide ((((-1,0,bI b,()):ASB).1:Int)>=0)=false from rfl,AQu];obtain⟨o',u1,u2,u3,u4⟩:=lg (w:=(B.length:Int)) o1 (k:=n) (by rw[o2];exact AGE) (by omega);rw[u1,AQf];have hA:∀i,bt o' i=(decide (i<n+1)&&(kn (JO B i)).isSome):=λi=>by
    rw[u4 i,o3 i,AHp (λi=>(kn (JO B i)).isSome) i (by simp[hc])]
   cases b with
   |false =>
    rw[show((((-1,0,bI false,()):ASB).2.2.1:Int)==1)=false from rfl,AQu,AQf];exact Az.mk ⟨B.length-(n+1),by omega,n+1,rfl,by omega,rfl,u2,u3.trans o2,q1,q2,hA,λi=>by rw[q3 i,stp (λi=>kn (JO B i)==some true) i (by simp[hc])]⟩
   |true =>
    rw[show((((-1,0,bI true,()):ASB).2.2.1:Int)==1)=true from rfl,AQv];obtain⟨q',w1,w2,w3,w4⟩:=lg (w:=(B.length:Int)) q1 (k:=n) (by rw[q2];exact AGE) (by omega);rw[w1,AQf,AQf];exact Az.mk ⟨B.length-(n+1),by omega,n+1,rfl,by omega,rfl,u2,u3.trans o2,w2,w3.trans q2,hA,λi=>by rw[w4 i,q3 i,AHp (λi=>kn (JO B i)==some true) i (by simp[hc])]⟩
 ·have:n=B.length:=by omega
  subst this;rw[DU,AQu];refine Az.mk ⟨QN o1 (DC _ _) (by rw[o2,ED]) λi _=>?_,QN q1 (DC _ _) (by rw[q2,ED]) λi _=>?_⟩
  ·rw[o3 i,EI]
  ·rw[q3 i,EI]
end
end Go.Proofs.X
namespace Go.Proofs.X
open Go Go.Va
set_option maxRecDepth 100000
theorem BE.mono{E E':Bt->Bt->Prop}(h:∀a b,E a b->E' a b){a b:Bt}(k:BE E a b):BE E' a b:=by
 induction k with
 |refl=>exact .refl _
 |iJ _ e ih=>exact .iJ ih (h _ _ e)
 |bwd _ e ih=>exact .bwd ih (h _ _ e)
def Ad(E:Bt->Bt->Prop)(x y a b:Bt):Prop:=E a b\/(a=x/\b=y)
theorem Avj{E:Bt->Bt->Prop}{x y a b:Bt}:BE (Ad E x y) a b↔BE E a b\/(BE E a x/\BE E b y)\/(BE E a y/\BE E b x):=by
 constructor
 ·intro h;induction h with
  |refl=>exact .inl (.refl _)
  |@iJ b c _ e ih =>
   rcases e with e |⟨rfl,rfl⟩
   ·have hc:BE E c b:=.bwd (.refl _) e;exact ih.imp (.iJ · e) (Or.imp (And.imp_right hc.trans) (And.imp_right hc.trans))
   ·rcases ih with h |⟨h,_⟩|⟨h,_⟩
    ·exact .inr (.inl ⟨h,.refl _⟩)
    ·exact .inr (.inl ⟨h,.refl _⟩)
    ·grind
  |@bwd b c _ e ih =>
   rcases e with e |⟨rfl,rfl⟩
   ·have hc:BE E c b:=.iJ (.refl _) e;exact ih.imp (.bwd · e) (Or.imp (And.imp_right hc.trans) (And.imp_right hc.trans))
   ·rcases ih with h |⟨h,_⟩|⟨h,_⟩
    ·exact .inr (.inr ⟨h,.refl _⟩)
    ·grind
    ·exact .inr (.inr ⟨h,.refl _⟩)
 ·have hm:∀a b,E a b->Ad E x y a b:=λ_ _ h=>.inl h;have hxy:BE (Ad E x y) x y:=.iJ (.refl _) (.inr ⟨rfl,rfl⟩)
  rintro(h |⟨h,k⟩|⟨h,k⟩)
  ·exact h.mono hm
  ·exact(h.mono hm).trans (hxy.trans (k.mono hm).symm)
  ·exact(h.mono hm).trans (hxy.symm.trans (k.mono hm).symm)
def cr(d:ASL):Bt->Nat
 |.co b=>if b then 1 else 0
 |.va v a=>(2+Lh d v).toNat+a
section
variable {d:ASL}
theorem jh(hd:AE d):∀{v u:Nat},v<u->u<=d.length->Lh d v+dw d v<=Lh d u
 |v,0,h,_=>by omega
 |v,u+1,h,hu=>by
  have h1:=oK hd (v:=u) (by omega);rw[Xx (show u<d.length by omega)];by_cases e:v=u
  ·grind
  ·have:=jh hd (show v<u by omega) (by omega);omega
theorem Xa(hd:AE d){t:Bt}(h:MS d t):cr d t<(2+Lh d d.length).toNat:=by
 have h0:=Hv  (AQl _) hd.2.1;cases t with
 |co b=>show(if b=true then 1 else 0)<_;split<;>omega
 |va v a =>
  obtain⟨hv,ha⟩:=h;have:=jh hd hv (AQl _);have h1:=Hv  (Nat.le_of_lt hv) λi hi=>hd.2.1 i (by omega);show(2+Lh d v).toNat+a<_;omega
theorem Amv(hd:AE d){s t:Bt}(hs:MS d s)(ht:MS d t)(h:cr d s=cr d t):s=t:=by
 cases s with
 |co b=>cases t with
  |co b'=>cases b<;>cases b'<;>first |rfl |(simp[cr]at h)
  |va v a =>
   have h1:=Hv  (Nat.le_of_lt ht.1) λi hi=>hd.2.1 i (by have:=ht.1;omega);have h:(if b=true then 1 else 0)=(2+Lh d v).toNat+a:=h;split at h<;>omega
 |va v a =>
  have h1:=Hv  (Nat.le_of_lt hs.1) λi hi=>hd.2.1 i (by have:=hs.1;omega);cases t with
  |co b =>
   have h:(2+Lh d v).toNat+a=(if b=true then 1 else 0):=h;split at h<;>omega
  |va v' a' =>
   have h2:=Hv  (Nat.le_of_lt ht.1) λi hi=>hd.2.1 i (by have:=ht.1;omega);obtain⟨hv,ha⟩:=hs;obtain⟨rU,ha'⟩:=ht;have h:(2+Lh d v).toNat+a=(2+Lh d v').toNat+a':=h;rcases Nat.lt_trichotomy v v' with e |e |e
   ·have:=jh hd e (by omega);omega
   ·grind
   ·have:=jh hd e (by omega);omega
theorem ga(hd:AE d){t:Bt}(h:MS d t):K2 ((List.range d.length).map λv=>2+Lh d v) (WA t)=some ((cr d t:Nat):Int):=by
 unfold K2;cases t with
 |co b =>
  cases b<;>rfl
 |va v a =>
  obtain⟨hv,ha⟩:=h;have h1:=Hv  (Nat.le_of_lt hv) λi hi=>hd.2.1 i (by omega);have h2:=oK hd hv;have Zs:=hd.1;rw[show(WA _).1=v from rfl,show(WA _).2.1=a from rfl,show decide ((v:Int)<0)=false from Ic,AQx (Bj (by grind)),AQg,Gt hv,BH  (by omega) (by omega)];show some _=some (((2+Lh d v).toNat+a):Int);congr 1;omega
structure LB (d:ASL) (E:Bt->Bt->Prop) (Bf:ASH):Prop where
 len:Bf.length=(2+Lh d d.length).toNat
 lo:∀i,i<Bf.length->0<=gI Bf i/\gI Bf i<=(i:Int)/\gI Bf (gI Bf i).toNat=gI Bf i
 eqv:∀{x y},MS d x->MS d y->(gI Bf (cr d x)=gI Bf (cr d y)↔BE E x y)
theorem LB.merge(hd:AE d){E:Bt->Bt->Prop}{Bf:ASH}(h:LB d E Bf){x y:Bt}(hx:MS d x)(hy:MS d y) :
    LB d (Ad E x y) (Bf.map λz=>if z=max (gI Bf (cr d x)) (gI Bf (cr d y))then min (gI Bf (cr d x)) (gI Bf (cr d y))else z):=by
 have hl:=h.len;have bx:=Xa hd hx;have b_y:=Xa hd hy;generalize hm:min (gI Bf (cr d x)) (gI Bf (cr d y))=m;generalize hM:max (gI Bf (cr d x)) (gI Bf (cr d y))=M;have hg:∀i,i<Bf.length->gI (Bf.map λz=>if z=M then m else z) i=if gI Bf i=M then m else gI Bf i:=λi hi =>
  FA (λz=>if z=M then m else z) (y :=ATE.zero) hi
 obtain⟨a1,a2,a3⟩:=h.lo _ (show cr d x<Bf.length by omega);obtain⟨b1,b2,b3⟩:=h.lo _ (show cr d y<Bf.length by omega);refine⟨by rw[AQr];exact hl,λi hi=>?_,λ{u w} hu hw=>?_⟩
 ·rw[AQr]at hi;obtain⟨c1,c2,c3⟩:=h.lo i hi;rw[hg i hi];by_cases e:gI Bf i=M
  ·rw[AQx e];refine⟨by omega,by omega,?_⟩;rcases Int.le_total (gI Bf (cr d x)) (gI Bf (cr d y))with h |h
   ·have em:m=gI Bf (cr d x):=by omega
    rw[em]at hg⊢;rw[hg _ (by omega),a3];split<;>rfl
   ·have em:m=gI Bf (cr d y):=by omega
    rw[em]at hg⊢;rw[hg _ (by omega),b3];split<;>rfl
  ·rw[AQy e];refine⟨c1,c2,?_⟩;rw[hg _ (by omega),c3,AQy e]
 ·have bu:=Xa hd hu;have bw:=Xa hd hw;rw[hg _ (by omega),hg _ (by omega),Avj,<-h.eqv hu hw,<-h.eqv hu hx,<-h.eqv hw hy,<-h.eqv hu hy,<-h.eqv hw hx];split<;>split<;>omega
def Ed(d:ASL)(l:ASN)(i0 p0:Nat)(x y:Bt):Prop:=∃i p,(i<i0\/(i=i0/\p<p0))/\i<l.length/\p<(b1 d l i).length/\x=JO (b1 d l i) p/\y=JO (b2 d l i) p
theorem LB.congr{E E':Bt->Bt->Prop}{Bf:ASH}(h:LB d E Bf)(hE:∀a b,E a b↔E' a b):LB d E' Bf:=⟨h.len,h.lo,λhx hy=>(h.eqv hx hy).trans ⟨BE.mono λa b e=>(hE a b).1 e,BE.mono λa b e=>(hE a b).2 e⟩⟩
variable {l:ASN}
theorem AcA(hd:AE d)(hl:∀x∈l,Kr x)(NA:Fz d l)(hs:Cz d l){i:Nat}(hi:i<l.length){Bf:ASH}(h:LB d (Ed d l i 0) Bf)(n:ASO) :
    Az (UD d l n ((List.range d.length).map λv=>2+Lh d v) (i:Int) (bV (b1 d l i)) (bV (b2 d l i)) 0 Bf) (LB d (Ed d l (i+1) 0)):=by
 obtain⟨s1,s2,s3,_⟩:=PQ hd hl NA hs hi;have h4:=s1.2.1;have hS:=hd.2.2;refine Bu (λm s=>∃p:Nat,s.1=(p:Int)/\p<=(b1 d l i).length/\m=(b1 d l i).length-p/\LB d (Ed d l i p) s.2) (λm s hI=>?_) _ _ ⟨0,rfl,AQ1 _,rfl,h⟩;obtain⟨p,e1,hp,rfl,hL⟩:=hI;obtain⟨t1,t2⟩:=s;simp only at e1 hL;subst e1;unfold Mv RP;simp only;rw[CM];rcases AQq p _ with Bp |aS
 ·have x1:MS d ((b1 d l i).getD p (.co false)):=s1.2.2 _ (AK Bp);have x2:MS d ((b2 d l i).getD p (.co false)):=s2.2.2 _ (AK (by omega));have bx:=Xa hd x1;have b_y:=Xa hd x2;have hlen:=hL.len;rw[C9 Bp,AQx (Bj Bp),AQx (Bj (show p<(bV _).length by rw[CM];omega)),AQg,db Bp,db (show p<(b2 d l i).length by omega),ga hd x1,AQf,ga hd x2,AQf,wB (by omega) (by omega) (by omega),show wI _=((p+1:Nat))from AZ];refine Az.mk ⟨(b1 d l i).length-(p+1),by omega,p+1,rfl,by omega,rfl,(hL.merge hd x1 x2).congr λa b=>?_⟩;constructor
  ·rintro(⟨i',p',h1,h2,h3,h5⟩|⟨rfl,rfl⟩)
   ·exact⟨i',p',by omega,h2,h3,h5⟩
   ·exact⟨i,p,.inr ⟨rfl,by omega⟩,hi,Bp,rfl,rfl⟩
  ·rintro⟨i',p',h1,h2,h3,rfl,rfl⟩
   by_cases e:i'=i/\p'=p
   ·obtain⟨rfl,rfl⟩:=e;exact .inr ⟨rfl,rfl⟩
   ·exact .inl ⟨i',p',by omega,h2,h3,rfl,rfl⟩
 ·have:p=(b1 d l i).length:=by omega
  subst this;rw[DU];refine Az.mk (hL.congr λa b=>⟨λ⟨i',p',h1,h2,h3,h5⟩=>⟨i',p',by omega,h2,h3,h5⟩,λ⟨i',p',h1,h2,h3,h5⟩=>⟨i',p',?_,h2,h3,h5⟩⟩)
  grind
open Classical in
noncomputable def cj(E:Bt->Bt->Prop)(t:Bt):ATV Bool:=if BE E t (.co true)then some true else if BE E t (.co false)then some false else none
theorem U9{E:Bt->Bt->Prop}(h:¬BE E (.co false) (.co true)){t:Bt}{b:Bool}:cj E t=some b↔BE E t (.co b):=by
 unfold cj;by_cases h1:BE E t (.co true)
 ·rw[AQx h1];cases b with
  |true=>grind
  |false=>simp;exact λh2=>h (h2.symm.trans h1)
 ·rw[AQy h1];by_cases h2:BE E t (.co false)
  ·cases b with
   |true=>grind
   |false=>grind
  ·cases b<;>simp[h1]
theorem Awu(hd:AE d){E:Bt->Bt->Prop}{Bf:ASH}(h:LB d E Bf)(hc:¬BE E (.co false) (.co true)){t:Bt}(ht:MS d t):(cj E t=none/\2<=gI Bf (cr d t))\/∃b,cj E t=some b/\gI Bf (cr d t)=bI b:=by
 have hl:=h.len;have b_t:=Xa hd ht;have h0:=Hv  (AQl _) hd.2.1;have z0:gI Bf 0=0:=by have:=h.lo 0 (by omega);omega
 have z1:gI Bf 1=1:=by
  have h1:=h.lo 1 (by omega);rcases Int.lt_or_le (gI Bf 1) 1 with h2 |h2
  ·exact(hc ((h.eqv (x:=.co _) (y:=.co true) trivial trivial).1 (show gI Bf 0=gI Bf 1 by omega))).elim
  ·omega
 have hb:∀b,gI Bf (cr d t)=bI b↔BE E t _:=λb=>by
  rw[<-h.eqv ht (y:=.co b) trivial];cases b with
  |true=>rw[show gI Bf (cr d (.co true))=bI true from z1]
  |false=>rw[show gI Bf (cr d (.co false))=bI false from z0]
 obtain⟨c1,_,_⟩:=h.lo _ (show cr d t<Bf.length by omega);cases hk:cj E t with
 |some b=>exact .inr ⟨b,rfl,(hb b).2 ((U9 hc).1 hk)⟩
 |none =>
  refine .inl ⟨rfl,?_⟩;have n0:gI Bf _≠bI false:=λe=>by rw[(U9 hc).2 ((hb _).1 e)]at hk;cases hk
  have n1:gI Bf _≠bI true:=λe=>by rw[(U9 hc).2 ((hb _).1 e)]at hk;cases hk
  have n0:gI Bf _≠0:=n0;have n1:gI Bf _≠1:=n1;omega
end
end Go.Proofs.X
namespace Go.Proofs.X
open Go Go.Va
set_option maxRecDepth 100000
section
variable {d:ASL} {l:ASN}
theorem sf(hd:AE d){B:ATU Bt}(h:Bm d B):I5 (fN B)=some (bV B):=by
 unfold fN;rw[pd (CJ B) (Qq (λx hx=>fy (SE hd (h.2.2 x hx))) h.2.1) (by rw[B9];exact h.2.1),EU]
theorem AcB(hd:AE d)(hl:∀x∈l,Kr x)(NA:Fz d l)(hs:Cz d l)(hc:¬BE (EL d l) (.co false) (.co true)){B:ATU Bt}(hB:Bm d B) :
    RO d l (fN B)=some (B.map λt=>bI (cj (EL d l) t).isSome,B.map λt=>bI (cj (EL d l) t==some true)):=by
 have Zs:=hd.1;have dO:=NA.1;have hS:=hd.2.2;have hB4:=hB.2.1;have h0:=Hv (k:=d.length) (AQl _) hd.2.1;unfold RO;have e0:PU d l (fN B) 2 0 ([]:ASH)=some ((List.range d.length).map λv=>2+Lh d v,2+Lh d d.length):=by
  unfold PU;have:=AP (f:=F5 d l (fN B)) (λk=>(2+Lh d k,(k:Int),(List.range k).map λv=>2+Lh d v)) (t:=((List.range d.length).map λv=>2+Lh d v,2+Lh d d.length)) d.length (λk hk=>by
   have h1:=Hv (k:=k) (Nat.le_of_lt hk) λi hi=>hd.2.1 i (by omega);have h2:=oK hd hk;unfold F5 Mt;simp only;rw[C9 hk,AQv,AQx (by rw[AQr,AQW,AQz];omega),AQx (Bj hk),AQg,show(d.getD k Ab.zero).2.1=dw d k from rfl,BH (x:=2+Lh d k+dw d k),show wI ((k:Int)+1)=((k+1:Nat):Int)from AZ,D2,Xx hk,Int.add_assoc]) (by
   unfold F5 Mt;simp only;rw[DU,AQu])
  exact this
 generalize hT:(2+Lh d d.length).toNat=T;have hT':2+Lh d d.length=(T:Int):=by omega
 rw[e0,AQf];simp only;rw[hT'];have e1:∀x,PV d l (fN B) x (T:Int) 0 ([]:ASH)=some ((List.range T).map Int.ofNat):=λx=>by
  unfold PV;have:=AP (f:=F6 d l (fN B) x (T:Int)) (λk=>((k:Int),(List.range k).map Int.ofNat)) (t:=(List.range T).map Int.ofNat) T (λk hk=>by
   unfold F6 Mu;simp only;rw[C9 hk,AQv,AQx (by rw[AQr,AQW,AQz];omega),show wI ((k:Int)+1)=((k+1:Nat):Int)from AZ,D2];rfl) (by
   unfold F6 Mu;simp only;rw[DU,AQu])
  exact this
 rw[e1,AQf];have hi0:LB d (Ed d l 0 0) ((List.range T).map Int.ofNat):=by
  have hg:∀{i},i<T->gI ((List.range T).map Int.ofNat) i=(i:Int):=λ{i} hi=>Gt (g:=Int.ofNat) hi;refine⟨by rw[AQr,AQW,hT],λi hi=>?_,λ{x y} hx hy=>?_⟩
  ·rw[AQr,AQW]at hi;rw[hg hi,AQg,hg hi];omega
  ·have bx:=Xa hd hx;have b_y:=Xa hd hy;rw[hg (by omega),hg (by omega)];constructor
   ·intro h;rw[Amv hd hx hy (by omega)];exact .refl _
   ·intro h;have:x=y:=by
     induction h with
     |refl=>rfl
     |iJ _ e _=>obtain⟨i,p,h,_⟩:=e;omega
     |bwd _ e _=>obtain⟨i,p,h,_⟩:=e;omega
    rw[this]
 obtain⟨Bf,e3,hL⟩:Az (PW d l (fN B) ((List.range d.length).map λv=>2+Lh d v) 0 ((List.range T).map Int.ofNat)) (LB d (EL d l)):=by
  unfold PW;refine Bu (λm (s:Int×ASH)=>∃i:Nat,s.1=(i:Int)/\i<=l.length/\m=l.length-i/\LB d (Ed d l i 0) s.2) (λm s hI=>?_) l.length (0,(List.range T).map Int.ofNat) ⟨0,rfl,AQ1 _,rfl,hi0⟩;obtain⟨i,e1,hi,rfl,hg⟩:=hI;obtain⟨s1,s2⟩:=s;simp only at e1 hg;subst e1;unfold Mw RQ;simp only;rcases AQq i l.length with Bp |aS
  ·obtain⟨u1,u2,u3,_,u5,u6⟩:=PQ hd hl NA hs Bp;have hb:=hl _ (AK (z :=Af.zero) Bp);have g1:BG d (l.getD i Af.zero).2.2.1=some (DV d (lS l i)):=HH hd hb.1;have g2:BG d (l.getD i Af.zero).2.2.2.1=some (DV d (lT l i)):=HH hd hb.2;rw[C9 Bp,AQv,AQx (Bj Bp)];simp only[AQg];rw[g1,AQf,AQx (Bj Bp),g2,AQf,u5,u6];simp only;rw[sf hd u1,AQf,sf hd u2,AQf,show wI ((i:Int)+1)=((i+1:Nat):Int)from AZ];exact(AcA hd hl NA hs Bp hg (fN B)).bind λr hr=>Az.mk ⟨l.length-(i+1),by omega,i+1,rfl,by omega,rfl,hr⟩
  ·have:i=l.length:=by omega
   subst this;rw[DU,AQu];exact Az.mk (hg.congr λa b=>⟨λ⟨i,p,_,h2,h3,h4⟩=>⟨i,h2,p,h3,h4⟩,λ⟨i,h2,p,h3,h4⟩=>⟨i,p,.inl h2,h2,h3,h4⟩⟩)
 rw[e3,AQf,sf hd hB,AQf];have hlen:=hL.len;have e7:PX Bf (bV B) ((List.range d.length).map λv=>2+Lh d v) 0 ([]:ASH) ([]:ASH)=some (B.map λt=>bI (cj (EL d l) t).isSome,B.map λt=>bI (cj (EL d l) t==some true)):=by
  unfold PX;have:=AP (f:=F7 Bf (bV B) ((List.range d.length).map λv=>2+Lh d v)) (λk=>((k:Int),(B.take k).map λt=>bI (cj (EL d l) t).isSome,(B.take k).map λt=>bI (cj (EL d l) t==some true))) (t:=(B.map λt=>bI (cj (EL d l) t).isSome,B.map λt=>bI (cj (EL d l) t==some true))) B.length (λk hk=>by
   have hb:MS d (B.getD k (.co false)):=hB.2.2 _ (AK hk);have bd:=Xa hd hb;have gM:=Awu hd hL hc hb;unfold F7 Mx Po;simp only;rw[CM,C9 hk,AQv,AQx (Bj hk),AQg,db hk,ga hd hb,AQf,AQx (Bj (show cr d (B.getD k (.co false))<Bf.length by omega)),AQg];rw[AQx (by rw[AQr,AQA,AQz];omega),AQx (by rw[AQr,AQA,AQz];omega),show wI ((k:Int)+1)=((k+1:Nat):Int)from AZ,HP hk,AQY,AQY];generalize B.getD k (.co false)=t at *;rw[show Bf.getD (cr d t) ATE.zero=gI Bf (cr d t)from rfl];rcases gM with ⟨h1,h2⟩|⟨b,h1,h2⟩
   ·rw[AQi (show ¬gI Bf (cr d t)<2 by omega),AQu,Int.zero_mul];simp only[AQ0,ARN,h1];rfl
   ·rw[h2];simp only[AQ0,ARN,h1];cases b<;>rfl) (by
   unfold F7 Mx Po;simp only;rw[CM,DU,AQu,ARJ])
  exact this
 rw[e7,AQf]
theorem AlQ(hd:¬AE d){t:ASP}:BG d (t,())=some (false,[]):=by
 obtain⟨r,e,h⟩:=Vi d;have hr :=Bool.eq_false_iff.2 λx=>hd (h.1 x);subst hr;unfold BG Fv LH Hf;rw[e];rfl
end
end Go.Proofs.X
namespace Go.Proofs.X
open Go Go.Va
set_option maxRecDepth 100000
abbrev RF:Type:=Int×Int×Int×ASH×ASH
structure Aky (r:RF):Prop where
 w1:0<=r.1/\r.1<=4096
 w2:0<=r.2.1/\r.2.1<=4096
 l1:r.2.2.2.1.length<=64
 l2:r.2.2.2.2.length<=64
 h1:CW r.2.2.2.1
 h2:CW r.2.2.2.2
theorem AiD(c:Int):Aky (0,0,c,[],[]):=⟨⟨ARs _,by show(0:Int)<=4096;decide⟩,⟨ARs _,by show(0:Int)<=4096;decide⟩,AQ1 _,AQ1 _,(λx hx=>by cases hx),(λx hx=>by cases hx)⟩
theorem kM{d:ASL}(hd:AE d){t:ASP}(ht:L0 t):DV d t=(false,[])\/∃B,Bm d B/\DV d t=(true,fN B)/\B=OE d t:=by
 unfold DV;split
 ·rename_i h;obtain⟨ws,hw⟩:=h.1;exact .inr ⟨_,wq hd ht hw,rfl,rfl⟩
 ·exact .inl rfl
noncomputable def mkM(E:Bt->Bt->Prop)(B:ATU Bt):ASH:=cP (low (λi=>(cj E (JO B i)).isSome) B.length) (nw B.length)
noncomputable def mkV(E:Bt->Bt->Prop)(B:ATU Bt):ASH:=cP (low (λi=>cj E (JO B i)==some true) B.length) (nw B.length)
def FR(d:ASL)(l:ASN)(t:ASP)(r:RF):Prop:=(r.2.2.1=0->AE d/\Fz d l/\¬BE (EL d (DL l)) (.co false) (.co true)/\Bm d (OE d t)/\r=(((OE d t).length:Int),((OE d t).length:Int),0,mkM (EL d (DL l)) (OE d t),mkV (EL d (DL l)) (OE d t)))/\(r.2.2.1≠0->r.1=0)
theorem gJ{d:ASL}{l:ASN}(Zs:d.length<=1048576)(dO:l.length<=1048576)(hl:∀x∈l,Kr x){t:ASP}(ht:L0 t):∃r,Nu d l (t,())=some r/\MY d l (t,())=some r/\Aky r/\FR d l t r:=by
 have Tl:∀x∈DL l,Kr x:=λx hx=>hl x (List.mem_filter.1 hx).1;obtain⟨r1,e1,q1⟩:=ZN (d:=d) hl;obtain⟨r2,e2,q2⟩:=v7 (d:=d) hl;have hr:r1=r2:=by rw[AR2,q1,q2]
 subst hr;obtain⟨r0,e0,q0⟩:=Yh d;unfold Nu MY Vl L8 Po;rw[e0,e1,AQf,AQf];by_cases hd:AE d
 case neg =>
  have h0:r0=false:=Bool.eq_false_iff.2 λx=>hd (q0.1 x);have h1:r1=false:=Bool.eq_false_iff.2 λx=>hd (q1.1 x).1;subst h0;subst h1;simp only[ARK,AQv,AQf,AlQ hd];exact⟨_,rfl,rfl,AiD _,λh=>absurd h (by decide),λ_=>rfl⟩
 have h0:r0=true:=q0.2 hd;subst h0;simp only[AQZ,AQu];rw[nL hd ht,AQf,HH hd ht,e2,AQf];cases r1 with
 |false =>
  simp only[ARK,AQv,AQf];exact⟨_,rfl,rfl,AiD _,λh=>absurd h (by decide),λ_=>rfl⟩
 |true =>
  obtain⟨_,NA⟩:=q1.1 rfl;simp only[AQZ,AQu];obtain⟨r3,e3,q3⟩:=bH hd hl NA.1;obtain⟨r4,e4,q4⟩:=W3 hd hl NA;rw[e3,e4,AQf,AQf];rcases q3 with ⟨f1,hs,_⟩|⟨f1,hns⟩
  ·rcases q4 with ⟨f2,_,_⟩|⟨f2,hns⟩
   ·obtain⟨Ac5,iM⟩:=AgX NA hs;obtain⟨aj,hcb⟩:=Adu hd;obtain⟨rc,ec,himp,UN⟩:=uS (d:=d) (l:=DL l) hcb Tl;rcases UN with ⟨_,aT⟩|⟨_,_,_,_,f,rfl,hf⟩
    ·exact(aT ⟨hd,aj,Ac5,iM⟩).elim
    obtain⟨X,Y,eX,eY,hY,hR⟩:=y8 hd Tl Ac5 iM hf ec;obtain⟨AvO,AJU⟩:=QY hd f;have Jk:=fl hd AvO d.length (AQl _);have AOn:=hd.1;obtain⟨v5,ev5,hv5⟩:=W3 hd Tl Ac5;have AKR:v5.2=(List.range (DL l).length).map (OH d (DL l)):=by
     rcases hv5 with ⟨_,_,h⟩|⟨_,h⟩
     ·exact h
     ·exact(h iM).elim
    rw[f1,f2];simp only[AQZ,AQu,AQf];simp only[mg dO,lf dO,xg Zs,wi Zs,AQf,eY,himp,ev5,AQZ,AQu,nN hd AvO AJU,AcU (show(SL d (Ax d f) d.length).length<=1048576 by omega),AKR,eX];rcases hR with ⟨n1,n2⟩|⟨n1,n2,n3,n4,n5,N,ld,fx,vm,ks,vs,Bf,rt,J,hC,hP⟩
    ·have p1:decide ((X.2.2.2.2.2.2.2.length:Int)>0)=true:=AQk (by
       rcases AQD X.2.2.2.2.2.2.2.length with h |h
       ·exact(n1 (List.length_eq_zero_iff.1 h)).elim
       ·omega)
     have p2:decide ((Y.2.2.1.length:Int)>0)=true:=AQk (by
      rcases AQD Y.2.2.1.length with h |h
      ·exact(n2 (List.length_eq_zero_iff.1 h)).elim
      ·omega)
     rw[p1,p2];simp only[AQv,AQf];rcases kM hd ht with h |⟨B,_,h,_⟩<;>rw[h]<;>exact⟨_,rfl,rfl,AiD _,λh=>absurd h (by decide),λ_=>rfl⟩
    ·have p1:decide ((X.2.2.2.2.2.2.2.length:Int)>0)=false:=by rw[n1];rfl
     have p2:decide ((Y.2.2.1.length:Int)>0)=false:=by rw[n2];rfl
     rw[p1,p2];simp only[AQu,AQf];rcases kM hd ht with h |⟨B,hB,h,hBe⟩<;>rw[h]
     ·exact⟨_,rfl,rfl,AiD _,λh=>absurd h (by decide),λ_=>rfl⟩
     ·have hP':∀i,i<(DL l).length->∀x∈uc d (DL l) f i,P1 (SL d (Ax d f) d.length).length rt vs x:=λi hi=>hP i hi (by
        have:=(List.mem_filter.1 (AK (z :=Af.zero) hi)).2;exact this)
      obtain⟨Ku,AGU⟩:=sem hd Tl Ac5 iM hf.cl hf.aX J hP';rw[n3,n4,n5,hC];obtain⟨sg,es,hG⟩:=AiN hd Tl Ac5 iM hf.cl hf.aX J 0 X.2.1 X.2.2.2.1 X.2.2.2.2.2.2.2 X.2.2.1 X.2.2.2.2.2.1;have gM:∀b∈B,(∀c,cj (EL d (DL l)) b=some c->sgB sg.2.2.2.2.2.2.2.2 b=(-1,0,bI c,()))/\(cj (EL d (DL l)) b=none->(0:Int)<=(sgB sg.2.2.2.2.2.2.2.2 b).1):=λb hb=>by
       cases b with
       |co c =>
        refine⟨λc' h=>?_,λh=>?_⟩
        ·have h:=(U9 Ku).1 h;have:c=c':=by
          cases c<;>cases c'<;>first |rfl |exact(Ku h).elim |exact(Ku h.symm).elim
         rw[this];rfl
        ·rw[(U9 Ku (b:=c)).2 (.refl _)]at h;cases h
       |va v a =>
        obtain⟨hv,ha⟩:=hB.2.2 _ hb;obtain⟨m,x,w,j,h1,h2,rfl⟩:=AHl hd AvO hv (show a<W d v by unfold W;omega);obtain⟨g1,g2⟩:=hG.ok h1 h2 trivial;refine⟨λc' h=>g1 c' ((AGU h1 h2 c').2 ((U9 Ku).1 h)),λh=>g2 ?_⟩;cases hc:CV fx vs rt m j with
        |none=>rfl
        |some c=>rw[(U9 Ku).2 ((AGU h1 h2 c).1 hc)]at h;cases h
      have hB1:=hB.1;have hB4:=hB.2.1;have eF:=AcV hd hG.len hG.row hB gM;have hnw:nw B.length<=64:=by unfold nw;omega
      have eS:=AcB hd Tl Ac5 iM Ku hB;have f1:=ay (l:=B.map λt=>(cj (EL d (DL l)) t).isSome) (by rw[AQr];exact hB1) (by rw[AQr];exact hB4);have f2:=ay (l:=B.map λt=>cj (EL d (DL l)) t==some true) (by rw[AQr];exact hB1) (by rw[AQr];exact hB4);rw[ASb,AQr]at f1 f2;have Uy:∀(g:Bt->Bool),low (λi=>(B.map g).getD i false) B.length=low (λi=>g (JO B i)) B.length:=λg=>by
       funext i
       unfold low;by_cases hi:i<B.length
       ·show(decide (i<B.length)&&(B.map g).getD i false)=_;rw[FA g (y:=.co false) hi];rfl
       ·simp[hi]
      rw[Uy]at f1 f2;simp only[AQZ,Bool.or_false,AQu];rw[es,AQf,eF,AQf];have hwd:(0:Int)<=(B.length:Int)/\(B.length:Int)<=4096:=by omega
      unfold Q5 RI;simp only[AQf];refine⟨((B.length:Int),(B.length:Int),0,cP (low (λi=>(cj (EL d (DL l)) (JO B i)).isSome) B.length) (nw B.length),cP (low (λi=>cj (EL d (DL l)) (JO B i)==some true) B.length) (nw B.length)),?_,rfl,⟨hwd,hwd,by simp only[ED];exact hnw,by simp only[ED];exact hnw,DC _ _,DC _ _⟩,λ_=>⟨hd,NA,Ku,hBe▸hB,by rw[<-hBe];rfl⟩,λh=>absurd rfl h⟩;rw[show((0:Int)==1)=false from rfl,show((0:Int) !=0)=false from rfl];simp only[AQu];rw[eS,AQf];simp only;rw[show(B.map λt=>bI (cj (EL d (DL l)) t).isSome)=B.map (bI∘λt=>(cj (EL d (DL l)) t).isSome)from rfl,show(B.map λt=>bI (cj (EL d (DL l)) t==some true))=B.map (bI∘λt=>cj (EL d (DL l)) t==some true)from rfl,f1,f2,AQf,AQf]
   ·exact(hns hs).elim
  ·rcases q4 with ⟨f2,hs,_⟩|⟨f2,_⟩
   ·exact(hns hs).elim
   ·rw[f1,f2];simp only[ARK,AQv,AQf];exact⟨_,rfl,rfl,AiD _,λh=>absurd h (by decide),λ_=>rfl⟩
end Go.Proofs.X
namespace Go.Proofs.X
open Go Go.Va
set_option maxRecDepth 100000
theorem re{a b:ASN}(ha:a.length<=100000000)(hb:b.length<=100000000):EH [a,b]=some (a++b):=by
 unfold EH;have b9:([a,b]:ASY).length=2:=rfl;have h1:Fl [a,b] (([a,b]:ASY).length:Int) 0 0=some (((a.length+b.length:Nat):Int)):=by
  unfold Fl;have:=AP (f:=Cb [a,b] (([a,b]:ASY).length:Int)) (λk=>((ZD a.length b.length k:Int),(k:Int))) (t:=(((a.length+b.length:Nat):Int))) 2 (λk hk=>?_) ?_
  ·exact this
  ·unfold Cb D5 Fj;simp only[AQg];rw[b9,C9 hk,AQv,AQx (Bj hk)]
   match k,hk with
   |0,_ =>
    simp only[ARc];rw[show wI ((ZD a.length b.length 0:Int)+(a.length:Int))=(a.length:Int)from AZ (by simp[ZD]) (by omega),Ic,AQu];rfl
   |1,_ =>
    simp only[List.getD_cons_succ,ARc];rw[show wI ((ZD a.length b.length 1:Int)+(b.length:Int))=((a.length+b.length:Nat):Int)from AZ (by simp[ZD]) (by omega),Ic,AQu];rfl
  ·unfold Cb D5;simp only;rw[b9,DU,AQu];rfl
 have h2:Fp [a,b] (([a,b]:ASY).length:Int) 0 []=some (a++b):=by
  unfold Fp;have:=AP (f:=Cc [a,b] (([a,b]:ASY).length:Int)) (λk=>((k:Int),YR a b k)) (t:=a++b) 2 (λk hk=>?_) ?_
  ·exact this
  ·unfold Cc D6;simp only[AQg];rw[b9,C9 hk,AQv,AQx (Bj hk)]
   match k,hk with
   |0,_ =>
    simp only[ARc];rw[AQx (by simp[YR];omega),show wI (((0:Nat):Int)+1)=((1:Nat):Int)from rfl];rfl
   |1,_ =>
    simp only[List.getD_cons_succ,ARc];rw[AQx (by simp[YR];omega),show wI (((1:Nat):Int)+1)=((2:Nat):Int)from rfl];rfl
  ·unfold Cc D6;simp only;rw[b9,DU,AQu];rfl
 have h3:Fq [a,b] (([a,b]:ASY).length:Int) 0 []=some (a++b):=by
  unfold Fq;have:=AP (f:=Cd [a,b] (([a,b]:ASY).length:Int)) (λk=>((k:Int),YR a b k)) (t:=a++b) 2 (λk hk=>?_) ?_
  ·exact this
  ·unfold Cd D7;simp only[AQg];rw[b9,C9 hk,AQv,AQx (Bj hk)]
   match k,hk with
   |0,_ =>
    simp only[ARc];rw[AQx (by simp[YR];omega),show wI (((0:Nat):Int)+1)=((1:Nat):Int)from rfl];rfl
   |1,_ =>
    simp only[List.getD_cons_succ,ARc];rw[AQx (by simp[YR];omega),show wI (((1:Nat):Int)+1)=((2:Nat):Int)from rfl];rfl
  ·unfold Cd D7;simp only;rw[b9,DU,AQu];rfl
 rw[h1,AQf,Ic,AQu,show wI (((a.length+b.length:Nat):Int)-0)=((a.length+b.length:Nat):Int)from AZ];by_cases h0:1<=a.length+b.length
 ·rw[show decide (((a.length+b.length:Nat):Int)>0)=true from LL,AQv,AQx ⟨by omega,by omega⟩,AQx ⟨by omega,by omega⟩,AR9,h2];rfl
 ·rw[show decide (((a.length+b.length:Nat):Int)>0)=false from Ic,AQu,h3];rfl
theorem Ao3{d:ASL}{l l':ASN}(h:∀x∈l',x∈l){x y:Bt}(k:EL d l' x y):EL d l x y:=by
 obtain⟨i,hi,p,h1,h2,h3⟩:=k;obtain⟨j,hj,e⟩:=ARb (h _ (AK (z :=Af.zero) hi));have e':l.getD j Af.zero=l'.getD i Af.zero:=by rw[<-e];simp[List.getD,hj]
 have e1:b1 d l j=b1 d l' i:=by unfold b1 lS li;rw[e']
 have e2:b2 d l j=b2 d l' i:=by unfold b2 lT li;rw[e']
 exact⟨j,hj,p,by rw[e1];exact h1,by rw[e1];exact h2,by rw[e2];exact h3⟩
theorem AdE{E E':Bt->Bt->Prop}(hE:∀a b,E' a b->E a b)(hc:¬BE E (.co false) (.co true)){B:ATU Bt}(h:mkM E' B=mkM E B):mkV E' B=mkV E B:=by
 have hc':¬BE E' (.co false) (.co true):=λx=>hc (x.mono hE);have key:∀i,i<B.length->cj E' (JO B i)=cj E (JO B i):=λi hi=>by
  have h1:bt (mkM E' B) i=bt (mkM E B) i:=by rw[h]
  unfold mkM at h1;rw[EI,EI,AQk hi,ARU,ARU]at h1;cases h2:cj E' (JO B i)with
  |some b=>exact((U9 hc).2 (((U9 hc').1 h2).mono hE)).symm
  |none =>
   rw[h2]at h1;cases h3:cj E (JO B i)with
   |none=>rfl
   |some b=>rw[h3]at h1;cases h1
 unfold mkV;congr 1
 funext i
 unfold low;by_cases hi:i<B.length
 ·show(decide (i<B.length)&&(cj E' (JO B i)==some true))=(decide (i<B.length)&&(cj E (JO B i)==some true));rw[key i hi]
 ·simp[hi]
section
variable {d:ASL} {l:ASN} {t:ASP} {r:RF}
theorem Amp(Zs:d.length<=1048576)(ht:L0 t)(hl:∀x∈l,Kr x)(hr:FR d l t r)(h0:r.2.2.1=0)(hR:Aky r){m:ASN}(hm:∀x∈m,x∈DL l)(rO:m.length<=1048576) :
    ∃o,Nu d m (t,())=some o/\MY d m (t,())=some o/\∃b,Ey (o.1,o.2.2.2.1,()) (r.1,r.2.2.2.1,())=some b/\NN d l 0 (t,()) r.1 r.2.1 m r.2.2.2.1 r.2.2.2.2 o.1 o.2.1 o.2.2.2.1 o.2.2.2.2=some b:=by
 obtain⟨o,e1,e2,hO,hF⟩:=gJ Zs rO (l:=m) (λx hx=>hl x (List.mem_filter.1 (hm x hx)).1) ht;refine⟨o,e1,e2,?_⟩;have s1:(o.2.2.2.1:ASH).length<=maxLen:=AQJ hO.l1 (by decide);have s2:(o.2.2.2.2:ASH).length<=maxLen:=AQJ hO.l2 (by decide);obtain⟨b1',k1,q1⟩:=im (a:=(o.1,o.2.2.2.1,())) s1 (r.1,r.2.2.2.1,());obtain⟨b2',k2,q2⟩:=Zg (a:=(o.1,o.2.2.2.1,())) s1 (r.1,r.2.2.2.1,());obtain⟨b3',k3,q3⟩:=Zg (a:=(o.2.1,o.2.2.2.2,())) s2 (r.2.1,r.2.2.2.2,());have hb:b1'=b2':=by rw[AR2,q1,q2]
 subst hb;refine⟨b1',k1,?_⟩;unfold NN;rw[k2,AQf];cases b1' with
 |false=>rfl
 |true =>
  rw[AQv,k3,AQf];have hq:=q1.1 rfl;obtain⟨hd,NA,Ku,hB,er⟩:=hr.1 h0;have hB1:=hB.1;have w1:(o.1:Int)=r.1:=congrArg (λx:ASA=>(x.1:Int)) hq;have w2:(o.2.2.2.1:ASH)=r.2.2.2.1:=congrArg (λx:ASA=>(x.2.1:ASH)) hq;have Hs:o.2.2.1=0:=Classical.byContradiction λLN=>by
   have:=hF.2 LN;rw[this,er]at w1;have w1:(0:Int)=((OE d t).length:Int):=w1;omega
  obtain⟨_,_,_,_,eo⟩:=hF.1 Hs;rw[er,eo]at w2;have w2:mkM (EL d (DL m)) (OE d t)=mkM (EL d (DL l)) (OE d t):=w2;have oY:mkV (EL d (DL m)) (OE d t)=mkV (EL d (DL l)) (OE d t):=AdE (E:=EL d (DL l)) (E':=EL d (DL m)) (λa b h=>Ao3 (λx hx=>hm x (List.mem_filter.1 hx).1) h) Ku w2;rw[eo,er]at q3;have:b3'=true:=q3.2 (by show(((OE d t).length:Int),mkV (EL d (DL m)) (OE d t),())=(((OE d t).length:Int),mkV (EL d (DL l)) (OE d t),());rw[oY]);rw[this]
theorem qa(Zs:d.length<=1048576)(ht:L0 t)(hl:∀x∈l,Kr x)(hr:FR d l t r)(h0:r.2.2.1=0)(hR:Aky r):∀(n:Nat) (m:ASN),n<=m.length->(∀x∈m,x∈DL l)->m.length<=1048576 ->
    ∃m',RJ d (t,()) r.1 r.2.2.2.1 m ((n:Int)-1)=some m'/\Q6 d (t,()) r.1 r.2.1 r.2.2.2.1 r.2.2.2.2 m ((n:Int)-1)=some m'/\m'.length<=1048576
 |0,m,_,_,rO=>by
  refine⟨m,?_,?_,rO⟩
  ·unfold RJ;refine Ix ?_;unfold Nv RL;rfl
  ·unfold Q6;refine Ix ?_;unfold MZ Q7;rfl
 |n+1,m,hn,hm,rO=>by
  have Y2:∀x∈m.take n++m.drop (n+1),x∈m:=λx hx=>by
   rcases List.mem_append.1 hx with hx |hx
   ·exact ARw hx
   ·exact AR6 hx
  have hlen:(m.take n++m.drop (n+1)).length+1=m.length:=by rw[AQj,AQA,AQP];omega
  have ht1:=AQA (i:=n) (l:=m);have jj:=AQP (i:=n+1) (l:=m);obtain⟨o,e1,e2,b,k1,k2⟩:=Amp Zs ht hl hr h0 hR (m:=m.take n++m.drop (n+1)) (λx hx=>hm x (Y2 x hx)) (by omega);obtain⟨m',i1,i2,i3⟩:=qa Zs ht hl hr h0 hR n (if b=true then m.take n++m.drop (n+1)else m) (by split<;>omega) (λx hx=>by
   split at hx
   ·exact hm x (Y2 x hx)
   ·exact hm x hx) (by split<;>omega)
  have x7:((n+1:Nat):Int)-1=(n:Int):=by omega
  have fO:wI ((n:Int)-1)=(n:Int)-1:=BH;have gT:wI ((n:Int)+1)=((n+1:Nat):Int):=AZ;have hk2:∀q,NN d m q (t,()) r.1 r.2.1 (m.take n++m.drop (n+1)) r.2.2.2.1 r.2.2.2.2 o.1 o.2.1 o.2.2.2.1 o.2.2.2.2=some b:=λq=>k2;rw[x7];refine⟨m',?_,?_,i3⟩
  ·rw[<-i1];unfold RJ;refine Li ?_;unfold Nv RL Vj;simp only;rw[AQk (show(n:Int)>=0 by omega),AQv,AQx ⟨ARs _,by omega,by omega⟩,gT,AQx ⟨by omega,by omega,ARs _⟩];simp only[AQg,AR8,ARJ];rw[VI,VI,e1,AQf,k1,AQf,fO];cases b<;>rfl
  ·rw[<-i2];unfold Q6;refine Li ?_;unfold MZ Q7 U7;simp only;rw[AQk (show(n:Int)>=0 by omega),AQv,AQx ⟨ARs _,by omega,by omega⟩,gT,AQx ⟨by omega,by omega,ARs _⟩];simp only[AQg,AR8,ARJ];rw[re (by omega) (by omega),AQf,e2,AQf,hk2,AQf,fO];cases b<;>rfl
theorem xx{m:ASN}(hm:m.length<=1048576):Vk m 0 []=some (m.map λx=>(x.1:Int))/\U8 m (m.length:Int) 0 []=some (m.map λx=>(x.1:Int)):=by
 have step:∀k,k<m.length->(m.take (k+1)).map (λx=>(x.1:Int))=(m.take k).map (λx=>(x.1:Int))++[(m.getD k Af.zero).1]:=λk hk=>by
  rw[AY (z :=Af.zero) hk,AQY];rfl
 refine⟨?_,?_⟩
 ·unfold Vk;have:=AP (f:=Kc m) (λk=>((k:Int),(m.take k).map λx=>(x.1:Int))) (t:=m.map λx=>(x.1:Int)) m.length (λk hk=>by
   unfold Kc RN;simp only;rw[C9 hk,AQv,AQx (Bj hk),AQg,AQx (by rw[AQr,AQA,AQz];omega),AZ (n:=k+1),step k hk]) (by
   unfold Kc RN;simp only;rw[DU,AQu,ARJ])
  exact this
 ·unfold U8;have:=AP (f:=JV m (m.length:Int)) (λk=>((k:Int),(m.take k).map λx=>(x.1:Int))) (t:=m.map λx=>(x.1:Int)) m.length (λk hk=>by
   unfold JV Q8;simp only;rw[C9 hk,AQv,AQx (Bj hk),AQg,AQx (by rw[AQr,AQA,AQz];omega),AZ (n:=k+1),step k hk]) (by
   unfold JV Q8;simp only;rw[DU,AQu,ARJ])
  exact this
theorem AmR(Zs:d.length<=1048576)(dO:l.length<=1048576)(hl:∀x∈l,Kr x)(ht:L0 t):∃c Ck,XT d l (t,())=some (c,Ck)/\Vw d l (t,())=some (c,Ck)/\Ck.length<=1048576:=by
 obtain⟨r,e1,e2,hR,hF⟩:=gJ Zs dO hl ht;unfold XT Vw;rw[e1,e2,AQf,AQf];by_cases h0:r.2.2.1=0
 ·rw[show(r.2.2.1 !=0)=false by rw[h0];rfl,AQu,AQu,mg dO,lf dO,AQf,AQf];have Ws:(DL l).length<=l.length:=ARG _ _;obtain⟨m,i1,i2,i3⟩:=qa Zs ht hl hF h0 hR (DL l).length (DL l) (AQl _) (λx hx=>hx) (by omega);rw[BH (x:=((DL l).length:Int)-1),i1,i2,AQf,AQf,(xx i3).1,(xx i3).2];exact⟨0,_,rfl,rfl,by rw[AQr];exact i3⟩
 ·rw[show(r.2.2.1 !=0)=true from bne_iff_ne.2 h0,AQv,AQv];exact⟨_,[],rfl,rfl,by decide⟩
end
theorem wy{a:ASP}(hn:L0 a){k:Int}(h0:0<=k)(hk:k+((kv a:Nat):Int)<=2305843009213693952):Az (Ph k a) λr=>k<=r.1/\r.1<=k+((kv a:Nat):Int):=by
 have e:Mh k a=D1 k a:=rfl;unfold Ph;rw[e];exact(W9 hn h0 hk).bind λr hr=>Az.mk ⟨hr.1,hr.2.1⟩
theorem law_ok(n:ASL)(o:ASN)(q:ASD)(hn:Ty.Wf (.sl Ab) n)(ho:Ty.Wf (.sl Af) o)(hq:Ty.Wf An q):N4 n o q=some true:=by
 unfold N4 JA JB JC;rw[Aaj hn 1048576 (by omega) (by omega),AQf];generalize h1:wt (.sl Ab) n=w1 at *;by_cases c1:(w1:Int)<=1048576
 case neg=>rw[AQy c1];rfl
 rw[AQx c1,Ic,AQu,og ho _ (by omega) (by omega),AQf];generalize h2:wt (.sl Af) o=w2 at *;by_cases c2:(w2:Int)<=1048576-(w1:Int)
 case neg=>rw[AQy c2];rfl
 rw[AQx c2,Ic,AQu,gu hq _ (by omega) (by omega),AQf];generalize h3:wt An q=w3 at *;by_cases c3:(w3:Int)<=1048576-(w1:Int)-(w2:Int)
 case neg=>rw[AQy c3];rfl
 rw[AQx c3,Ic,AQu];have ln:n.length<=1048576:=by have:=tz (t:=Ab) n;omega
 have lo:o.length<=1048576:=by have:=tz (t:=Af) o;omega
 have bo:∀x∈o,Kr x:=λx hx=>AG9 (ho.2 x hx) (by have:=Ajz (t:=Af) hx;omega);have bq:L0 q.1:=Aan hq (by omega);have tn:=Aap ln;have to':=oh lo bo;have tq:=gw bq;obtain⟨c,Ck,s1,s2,hi⟩:=AmR (d:=n) ln lo bo bq;have g1:=dE (gF (a:=Ck) (AQJ hi AdN));have Er:Nb (q.1,()) (q.1,())=some true:=dE (fG hq);simp only[tn,to',tq,s1,s2,AQf,g1,AQZ,AQu,ARD,dE (zg hn),dE (nq ho),Er];have cd:2*n.length<=2*w1:=by have:=tz (t:=Ab) n;omega
 have ct:=AcJ o;have cq:=fC q.1;have eq3:wt An q=wt (.sl Ah) q.1:=rfl;obtain⟨m1,e1,q1,q1',_⟩:=sw ln (k:=1) (by omega) (by omega);obtain⟨m2,e2,q2,q2',_⟩:=iR lo bo (k:=m1.1) (by omega) (by omega);obtain⟨m3,e3,q3,q3'⟩:=wy bq (k:=m2.1) (by omega) (by omega);simp only[e1,e2,e3,AQf];rw[Ic];simp only[AQu,AQf,g1,AQZ,ARD];obtain⟨m4,e4,q4,q4',q5,q6⟩:=bz (a:=Ck) hi (k:=1) (by omega) (by omega);have e4':Mg 1 Ck=some m4:=e4;have hh:=nG (by omega) q6;simp only[e4',AQf,hh];rw[AQi (show ¬m4.1<0 by omega)];simp only[AQu,ARD,tn,to',tq,s2,AQf]
end Go.Proofs.X
