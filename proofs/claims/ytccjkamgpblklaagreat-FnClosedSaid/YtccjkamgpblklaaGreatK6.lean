import Derived.Test.YtccjkamgpblklaaGreatK5
set_option linter.unusedVariables false
set_option linter.unusedSimpArgs false
namespace Go.Proofs.X
open Go Go.Va
set_option maxRecDepth 100000
noncomputable def Sf(d:Ayg)(s:SC):Sg->SC
 |.co _=>s
 |.va v l n=>Jt d (Jt d s v l) v (l+n)
theorem Yq{d:Ayg}{f0:Nat->Nat->Bool}:∀(fs:AyZ Sg) (s:SC),(∀x∈fs,Sr d x)->CI d f0 s->eW s->CI d f0 (fs.foldl (Sf d) s)/\eW (fs.foldl (Sf d) s)/\LL s.1 (fs.foldl (Sf d) s).1/\(∀x∈fs,Oy d (fs.foldl (Sf d) s).1 x) /\
    ∀h,(∀x∈fs,Oy d h x)->LL s.1 h->LL (fs.foldl (Sf d) s).1 h
 |[],s,_,h1,h2=>⟨h1,h2,λ_ _ h=>h,λx hx=>(by grind),λ_ _ h=>h⟩
 |x::fs,s,Hs,h1,h2=>by
  have key:CI d f0 (Sf d s x)/\eW (Sf d s x)/\LL s.1 (Sf d s x).1/\Oy d (Sf d s x).1 x/\∀h,Oy d h x->LL s.1 h->LL (Sf d s x).1 h:=by
   cases x with
   |co b=>exact⟨h1,h2,λ_ _ h=>h,trivial,λ_ _ h=>h⟩
   |va v l n =>
    have hv:=(Hs _ AwE).1;exact⟨(h1.cut hv).cut hv,h2.cut.cut,λu q h=>UG _ v _ u q (UG s v l u q h),⟨(Vt s v l).mono (UG _ v _),Vt _ v _⟩,λh hh hs=>Vu (Vu hs hh.1) hh.2⟩
  obtain⟨k1,k2,k3,k4,k5⟩:=key;obtain⟨i1,i2,i3,i4,i5⟩:=Yq fs _ (λy hy=>Hs y (AwB _ hy)) k1 k2;refine⟨i1,i2,λu q h=>i3 u q (k3 u q h),λy hy=>?_,λh hh hs=>i5 h (λy hy=>hh y (AwB _ hy)) (k5 h (hh x AwE) hs)⟩;rcases List.mem_cons.1 hy with rfl |hy
  ·cases y with
   |co b=>trivial
   |va v l n=>exact⟨k4.1.mono i3,k4.2.mono i3⟩
  ·grind
theorem uk{d:Ayg}(hd:AZ d){fs:AyZ Sg}{i:Nat}(hi:i<fs.length)(Hs:Sr d (fs.getD i (.co []))){s:SC}(h1:s.2.length<=900000){a o1:Int}{x y:Ayi}{dd:AyZ AyG}{o:NX} :
    Et a x y o1 (i:Int) d dd (M d 0 s.1) o (fV fs) s.2=some (d,M d 0 (Sf d s (fs.getD i (.co []))).1,(Sf d s (fs.getD i (.co []))).2):=by
 unfold Et;simp only[Awa,fJ hi];rw[Cf,Awr (BS hi)];cases hs:fs.getD i _ with
 |co b=>rfl
 |va v l n =>
  rw[hs]at Hs;obtain⟨hv,hn,hw⟩:=Hs;obtain⟨e0,qm,qn⟩:=T3 hd hv;have TK:(Jt d s v l).2.length<=s.2.length+1:=by unfold Jt;split<;>simp
  have e1:Bm a (KV (.va v l n)).1 (KV (.va v l n)).2.1 d _ s.2=some _:=Pu hd hv s (by omega);have e2:wI ((KV (.va v l n)).2.1+(KV (.va v l n)).2.2.1)=((l+n:Nat)):=A3 (show l+(n:Int)=_ by omega) (by omega);have e3:Bm a (KV (.va v l n)).1 _ d _ _=some (d,M d 0 _,(Jt d (Jt d s v l) v (l+n)).2):=Pu hd hv _ (by omega);rw[e1,Av9,e2,e3];rfl
theorem y7{d:Ayg}(hd:AZ d){B1 B2:AyZ Bt}(h1:Ce d B1)(h2:Ce d B2)(hl:B1.length=B2.length){f0:Nat->Nat->Bool}{s:SC}{o:NX}{N:Nat}(hI:LI d f0 s o N)(hN:N<=800000){a:Int}{dd:AyZ AyG} :
    ∃s' o',G6 a (fN B1) (fN B2) d dd (M d 0 s.1) o s.2=some (d,dd,M d 0 s'.1,o',s'.2)/\LI d f0 s' o' (N+8192)/\LL s.1 s'.1/\(∀v p x,x∈nx o v p->x∈nx o' v p)/\(∀x∈AY B1++AY B2,Oy d s'.1 x)/\(∀p,1<=p->p<B1.length->RS B1 B2 s'.1 o' p) /\
     ∀h,Ab6 d B1 B2 h->LL s.1 h->NJ d h o->LL s'.1 h/\NJ d h o':=by
 unfold G6;have hn1:(fN B1).length<=4096/\(fN B2).length<=4096/\1<=(fN B1).length:=by
  unfold fN;rw[Cf,Cf];have a1:=Dn (D6 B1);have a2:=Dn (D6 B2);rw[Dd]at a1 a2;have:=h1.1;have:=h2.2.1;rcases Awx _ with h0 |h0
  ·have e:AY B1=[]:=Aw3 h0;have:=Dd B1;rw[e]at this;simp[BO]at this;omega
  ·omega
 rw[cx hn1.2.2 (by omega) (by omega),Av9];have efs:fN B1++fN B2=fV _:=(Ns _ _).symm;rw[efs];have tP:∀x∈AY B1++AY B2,Sr d x:=λx hx=>by
  rcases List.mem_append.1 hx with hx |hx
  ·exact(Zc h1 hx).1
  ·exact(Zc h2 hx).1
 have oH:(AY B1++AY B2).length<=8192:=by
  have:=hn1.2.1;unfold fN at *;rw[Cf]at *;rw[Awd];omega
 have oI:KR a (fN B1) (fN B2) dd o (fV (AY B1++AY B2)) ((fV (AY B1++AY B2)).length) 0 d (M d 0 s.1) s.2=some (d,M d 0 ((AY B1++AY B2).foldl (Sf d) s).1,((AY B1++AY B2).foldl (Sf d) s).2):=by
  generalize AY B1++AY B2=fs at *;rw[Cf];have:=A2 (f:=Cr a (fN B1) (fN B2) dd o (fV fs) fs.length) (λk=>(k,d,M d 0 ((fs.take k).foldl (Sf d) s).1,((fs.take k).foldl (Sf d) s).2)) (t:=(d,M d 0 (fs.foldl (Sf d) s).1,(fs.foldl (Sf d) s).2)) fs.length (λk hk=>?_) ?_
  ·exact this
  ·unfold Cr FN;have wO:=(Yq (fs.take k) s (λx hx=>tP x (Aw8 hx)) hI.ci hI.todo).1;rw[Hq hk,uk hd hk (tP _ (AG hk)) (by have:=wO.len;omega),BA hk (by omega),A4  hk,AxN];rfl
  ·unfold Cr FN
   grind
 rw[oI,Av9,vO hd h1,Av9,vO hd h2,Av9];obtain⟨i1,i2,i3,i4,i5⟩:=Yq _ s tP hI.ci hI.todo;generalize (AY B1++AY B2).foldl _ s=s1 at *;have tA:As (JD a (Wg (AY B1)) (Wg (AY B2)) dd 1 d (M d 0 s1.1) o s1.2) λr=>∃s' o',r=(d,M d 0 s'.1,o',s'.2)/\LI d f0 s' o' (N+2*(B1.length-1))/\LL s1.1 s'.1/\(∀v p x,x∈nx o v p->x∈nx o' v p)/\(∀p,1<=p->p<B1.length-1+1->RS B1 B2 s'.1 o' p) /\
     ∀h,SP B1 B2 h->LL s1.1 h->NJ d h o->LL s'.1 h/\NJ d h o':=by
  have:=Bw (f:=Cj a (Wg (AY B1)) (Wg (AY B2)) dd) (λk x=>(((k+1:Nat)),d,M d 0 x.1.1,x.2,x.1.2)) (B1.length-1)
   (λk x=>LI d f0 x.1 x.2 (N+2*k)/\LL s1.1 x.1.1/\(∀v p y,y∈nx o v p->y∈nx x.2 v p)/\(∀p,1<=p->p<k+1->RS B1 B2 x.1.1 x.2 p)/\∀h,SP B1 B2 h->LL s1.1 h->NJ d h o->LL x.1.1 h/\NJ d h x.2)
   (Q:=λr=>∃s' o',r=(d,M d 0 s'.1,o',s'.2)/\LI d f0 s' o' (N+2*(B1.length-1))/\LL s1.1 s'.1/\(∀v p x,x∈nx o v p->x∈nx o' v p)/\(∀p,1<=p->p<B1.length-1+1->RS B1 B2 s'.1 o' p)/\∀h,SP B1 B2 h->LL s1.1 h->NJ d h o->LL s'.1 h/\NJ d h o')
   (λk x hk hx=>?_) (λx hx=>?_) (s0:=(s1,o)) ⟨⟨i1,i2,hI.nv,λv p=>hI.nl v p⟩,λ_ _ h=>h,λ_ _ _ h=>h,λp h1 h2=>by omega,λh _ hu hj=>⟨hu,hj⟩⟩
  ·exact this
  ·obtain⟨j1,j2,j3,j4,j5⟩:=hx;have hb:=h1.2.1;unfold Cj EA;obtain⟨s',o',e1,st⟩:=AdF hd h1 h2 hl (show k+1<B1.length by omega) (s:=x.1) (o:=x.2) (by have:=j1.ci.len;omega) (λv p=>by have:=j1.nl v p;omega);obtain⟨k1,k2,k3,k4,k5⟩:=zi (by omega) (show k+1<B1.length by omega) j1 st;rw[XS,Hq (show k+1<B1.length by omega),e1,A3  (n:=k+1+1) (by omega) (by omega)];refine As.mk ⟨(s',o'),rfl,k1,λu q h=>k2 u q (j2 u q h),λv p y hy=>k3 v p y (j3 v p y hy),λp VG YF=>?_,λh hs hu hj=>?_⟩
   ·rcases Awk p _ with Cw |jV
    ·exact(j4 p VG Cw).mono k2 k3
    grind
   grind
  ·unfold Cj EA;have:=h1.1;rw[XS,show B1.length-1+1=B1.length by omega,IB];refine As.mk ⟨x.1,x.2,rfl,hx.1,hx.2.1,hx.2.2.1,?_,hx.2.2.2.2⟩
   grind
 obtain⟨r,hr,s',o',rfl,j1,j2,j3,j4,j5⟩:=tA;rw[hr];have hb:=h1.2.1;refine⟨s',o',rfl,⟨j1.ci,j1.todo,j1.nv,λv p=>by have:=j1.nl v p;omega⟩,λu q h=>j2 u q (i3 u q h),j3,λx hx=>?_,λp VG YF=>j4 p VG (by omega),λh hs hu hj=>j5 h hs.2 (i5 h hs.1 hu) hj⟩;cases x with
 |co b=>trivial
 |va v l n=>exact⟨(i4 _ hx).1.mono j2,(i4 _ hx).2.mono j2⟩
abbrev zR:Type:=Ayi×Ayi×Unit
abbrev AgY:zR:=([],[],())
noncomputable def R7(d:Ayg)(l:Ayj)(i:Nat):zR:=((FT d (lS l i)).2,(FT d (lT l i)).2,())
theorem ZY{d:Ayg}{l:Ayj}(hd:AZ d)(hl:∀x∈l,QM x)(hp:Qe d l):As (Px d l) λr=>(r.1=true/\Hz d l/\r.2=(List.range l.length).map (R7 d l))\/(r.1=false/\¬Hz d l):=by
 unfold Px;have hlen:=hp.1;rw[Awr ⟨rfl,by omega,by omega,by omega,by omega⟩];refine As.bind (P:=λt=>(∃x,t=.inl x/\¬Hz d l)\/(t=.inr ((List.range l.length).map (R7 d l))/\Hz d l)) ?_ λt ht=>?_
 ·have z0:∀n,Cs (R7 d l) _ n 0=List.replicate n ([],[],()):=λn=>Nt _ _ _;refine BJ (λm x=>∃k:Nat,k<=l.length/\m=l.length-k/\x=((k:Int),Cs (R7 d l) (AgY) l.length k)/\∀i,i<k->b6 d l i) (λm x hI=>?_) _ _ ⟨0,AwW _,rfl,by grind,λi hi=>by omega⟩;obtain⟨k,hk,rfl,rfl,h3⟩:=hI;unfold Ln OE Np;rcases Awk k _ with h |h
  ·have hB:=hl _ (AG (z:=Ty.zero _) h);have gn:=hp.2 k h;obtain⟨ws,hw⟩:=RJ gn.2.2.1;obtain⟨qa,ZW⟩:=RJ (show 0<=GJ d _ by rw[gn.2.2.2];exact gn.2.2.1);have e1:F6 d (l.getD k _).2.2.1=some (FT d (lS l k)):=SV hd hB.1 hw;have e2:F6 d (l.getD k _).2.2.2.1=some (FT d (lT l k)):=SV hd hB.2 ZW;rw[Hq h,Awr (BS h),Awa,e1,Av9,e2,Av9];cases hc:(!(FT d _).1||!(FT d _).1)with
   |true =>
    refine As.mk (.inl ⟨_,rfl,λh'=>?_⟩);have:=dF.2 (h' k h);rw[hc]at this;cases this
   |false =>
    rw[J7,Awr (BS h),BA h (by omega)];refine As.mk ⟨l.length-(k+1),by omega,k+1,h,rfl,?_,λi hi=>?_⟩
    ·rw[<-Pg];rfl
    ·rcases Awk i k with h' |h'
     ·grind
     ·rw[show i=k by omega];exact dF.1 hc
  ·have:k=l.length:=by omega
   subst this;rw[IB];refine As.mk (.inr ⟨?_,h3⟩);congr 1;refine Aw5 λi hi=>?_;rw[Awr (List.mem_range.1 hi)]
 ·rcases ht with ⟨x,rfl,h⟩|⟨rfl,h⟩
  ·exact As.mk (.inr ⟨rfl,h⟩)
  ·exact As.mk (.inl ⟨rfl,h,rfl⟩)
def b1(d:Ayg)(l:Ayj)(i:Nat):AyZ Bt:=YQ d (lS l i)
def b2(d:Ayg)(l:Ayj)(i:Nat):AyZ Bt:=YQ d (lT l i)
theorem V1{d:Ayg}{l:Ayj}(hd:AZ d)(hl:∀x∈l,QM x)(hp:Qe d l)(hs:Hz d l){i:Nat}(hi:i<l.length) :
    Ce d (b1 d l i)/\Ce d (b2 d l i)/\(b1 d l i).length=(b2 d l i).length/\R7 d l i=(fN (b1 d l i),fN (b2 d l i),())/\(FT d (lS l i))=(true,fN (b1 d l i))/\(FT d (lT l i))=(true,fN (b2 d l i)):=by
 have hB:=hl _ (AG (z:=Ty.zero _) hi);obtain⟨h1,h2⟩:=hs i hi;have gn:=hp.2 i hi;obtain⟨ws,hw⟩:=RJ gn.2.2.1;obtain⟨qa,ZW⟩:=RJ (show 0<=GJ d _ by rw[gn.2.2.2];exact gn.2.2.1);obtain⟨a1,a2⟩:=Yv hd hB.1 h1;obtain⟨c1,c2⟩:=Yv hd hB.2 h2;have t1:=(Zo (t:=lS l i) hd hB.1 hw _ (Awf _) ((lS l i).length-1) (by have:=hw.1;omega)).2;have t2:=(Zo (t:=lT l i) hd hB.2 ZW _ (Awf _) ((lT l i).length-1) (by have:=ZW.1;omega)).2;have e:=gn.2.2.2;rw[Te hw,Te ZW]at e;refine⟨a1.1,c1.1,?_,?_,Prod.ext h1 a2,Prod.ext h2 c2⟩
 ·have e1:((b1 d l i).length)=ws.getD _ 0:=t1;have e2:((b2 d l i).length)=qa.getD _ 0:=t2;omega
 ·unfold R7;rw[show(FT d (lS l i)).2=fN (b1 d l i)from a2,show(FT d (lT l i)).2=fN (b2 d l i)from c2]
end Go.Proofs.X
namespace Go.Proofs.X
open Go Go.Va
set_option maxRecDepth 100000
def Mh(d:Ayg)(l:Ayj)(h:Nat->Nat->Bool):Prop:=∀i,i<l.length->Ab6 d (b1 d l i) (b2 d l i) h
structure Ua (d:Ayg) (l:Ayj) (c:Aym) (f:Nat->Nat->Bool):Prop where
 le:LL (C0 c) f
 WY:∀v p,f v p=true->v<d.length/\1<=p/\p<W d v
 cl:Mh d l f
 min:∀h,Mh d l h->LL (C0 c) h->LL f h
theorem Ua.unique{d:Ayg}{l:Ayj}{c:Aym}{f g:Nat->Nat->Bool}(hf:Ua d l c f)(hg:Ua d l c g):f=g:=by
 funext v p
 rw[Bool.eq_iff_iff];exact⟨hf.min g hg.cl hg.le v p,hg.min f hf.cl hf.le v p⟩
theorem zA{d:Ayg}{B1 B2:AyZ Bt}(h1:Ce d B1)(h2:Ce d B2)(hl:B1.length=B2.length){f:Nat->Nat->Bool}{o:NX}(he:∀x∈AY B1++AY B2,Oy d f x)(hp:∀p,1<=p->p<B1.length->RS B1 B2 f o p)
    (hc:∀v p u q:Nat,f v p=true->nk u q∈nx o v p->nN d f u q):Ab6 d B1 B2 f:=by
 have vac:∀{b:Bt},ki b=true->∃v a,b=.va v a:=λ{b} h=>by
  cases b with
  |co _=>cases h
  |va v a=>grind
 refine⟨he,λp VG YF=>⟨λgd hva=>?_,λgd hva=>?_⟩⟩
 ·obtain⟨u,b,e2⟩:=vac hva;unfold SD;cases f2:fst B2 p with
  |true=>rfl
  |false =>
   rw[e2];have hb:1<=b/\b<W d u:=by
    rcases TU h2 (show p<B2.length by omega)with ⟨q,_⟩|⟨_,⟨⟨_,q⟩,_⟩|⟨v,a,q,_,q1,q2,_⟩⟩
    ·grind
    ·grind
    grind
   cases f1:fst B1 p with
   |true=>exact(hp p VG YF).1 f1 f2 u b e2
   |false =>
    unfold SD at gd;rw[f1]at gd;cases e1:Sx B1 p with
    |co c=>rw[e1]at gd;cases gd
    |va v a =>
     rw[e1]at gd;exact hc v a u b gd ((hp p VG YF).2.2 f1 f2 v a u b e1 e2).1 hb.1 hb.2
 ·obtain⟨u,b,e1⟩:=vac hva;unfold SD;cases f1:fst B1 p with
  |true=>rfl
  |false =>
   rw[e1];have hb:1<=b/\b<W d u:=by
    rcases TU h1 YF with ⟨q,_⟩|⟨_,⟨⟨_,q⟩,_⟩|⟨v,a,q,_,q1,q2,_⟩⟩
    ·grind
    ·grind
    grind
   cases f2:fst B2 p with
   |true=>exact(hp p VG YF).2.1 f2 f1 u b e1
   |false =>
    unfold SD at gd;rw[f2]at gd;cases e2:Sx B2 p with
    |co c=>rw[e2]at gd;cases gd
    |va v a =>
     rw[e2]at gd;exact hc v a u b gd ((hp p VG YF).2.2 f1 f2 u b v a e1 e2).2 hb.1 hb.2
noncomputable def cuts(d:Ayg)(s:SC)(w:Ayf):SC:=w.foldl (λs x=>Jt d s x.1.toNat x.2.1.toNat) s
theorem om{d:Ayg}{s:SC}{v p:Nat}(hv:v<d.length):(∀x∈s.2,x∈(Jt d s v p).2)/\(∀u q,(Jt d s v p).1 u q=true->s.1 u q=true\/nk u q∈(Jt d s v p).2)/\(Jt d s v p).2.length+free d (Jt d s v p).1<=s.2.length+free d s.1:=by
 unfold Jt;split
 ·rename_i hc;refine⟨λx hx=>AwH _ hx,λu q h=>?_,?_⟩
  ·rcases DF.1 h with h |⟨rfl,rfl⟩
   ·grind
   ·exact .inr (AwI _ (List.mem_singleton.2 rfl))
  ·have:=Wx hv hc.2.1 hc.2.2
   grind
 grind
theorem Yj{d:Ayg}{f0:Nat->Nat->Bool}:∀(w:Ayf) (s:SC),(∀x∈w,∃u q:Nat,x=nk u q/\u<d.length)->CI d f0 s->CI d f0 (cuts d s w)/\LL s.1 (cuts d s w).1/\(∀u q,nk u q∈w->nN d (cuts d s w).1 u q) /\
    (∀x∈s.2,x∈(cuts d s w).2)/\(∀u q,(cuts d s w).1 u q=true->s.1 u q=true\/nk u q∈(cuts d s w).2)/\(cuts d s w).2.length+free d (cuts d s w).1<=s.2.length+free d s.1/\∀h,(∀u q,nk u q∈w->nN d h u q)->LL s.1 h->LL (cuts d s w).1 h
 |[],s,_,h1=>⟨h1,λ_ _ h=>h,λ_ _ h=>(by grind),λ_ h=>h,λ_ _ h=>.inl h,Awf _,λ_ _ h=>h⟩
 |x::w,s,hv,h1=>by
  obtain⟨u,q,rfl,hu⟩:=hv x AwE;have e:cuts d s (nk u q::w)=cuts d (Jt d s u q) w:=by simp[cuts,nk]
  obtain⟨k1,k2,k3⟩:=om (s:=s) (p:=q) hu;obtain⟨i1,i2,i3,i4,i5,i6,i7⟩:=Yj w (Jt d s u q) (λy hy=>hv y (AwB _ hy)) (h1.cut hu);refine⟨i1,λa b h=>i2 a b (UG s u q a b h),λa b h=>?_,λy hy=>i4 y (k1 y hy),λa b h=>?_,AwD i6 k3,λh hh hs=>i7 h (λa b hm=>hh a b (AwB _ hm)) (Vu hs (hh u q AwE))⟩
  ·rcases List.mem_cons.1 h with h |h
   ·obtain⟨rfl,rfl⟩:=WN.1 h;exact(Vt s a b).mono i2
   ·grind
  grind
theorem oe{d:Ayg}(hd:AZ d){f0:Nat->Nat->Bool}{w:Ayf}{s:SC}(hv:∀x∈w,∃u q:Nat,x=nk u q/\u<d.length)(hw:w.length<=1000000)(hs:CI d f0 s){a:Int}{o:NX} :
    F4 a o w (w.length:Int) 0 d (M d 0 s.1) s.2=some (d,M d 0 (cuts d s w).1,(cuts d s w).2):=by
 have:=A2 (f:=Cg a o w w.length) (λk=>(k,d,M d 0 (cuts d s (w.take k)).1,(cuts d s (w.take k)).2)) (t:=(d,M d 0 (cuts d s w).1,(cuts d s w).2)) w.length (λk hk=>?_) ?_
 ·exact this
 ·unfold Cg Ev;obtain⟨u,q,e,hu⟩:=hv _ (AG (z:=Ty.zero _) hk);have wO:=(Yj (w.take k) s (λx hx=>hv x (Aw8 hx)) hs).1;simp only[Awa,e];have e1:Bm a (nk u q).1 (nk u q).2.1 d _ _=some (d,M d 0 _,(Jt d (cuts d s (w.take k)) u q).2):=Pu hd hu _ (by have:=wO.len;omega);have e2:cuts d s (w.take (k+1))=Jt d (cuts d s (w.take k)) u q:=by
   rw[A4  hk,e];simp[cuts,nk]
  rw[Hq hk,Awp,Awr (BS hk),e1,Av9,BA hk (by omega),e2]
 ·unfold Cg Ev
  grind
theorem og{d:Ayg}(hd:AZ d){f0:Nat->Nat->Bool}{s1:SC}{o:NX}{N:Nat}(hI:LI d f0 s1 o N)(hN:N<=1000000){a:Int} :
    As (JA a o d (M d 0 s1.1) s1.2) λr=>∃s:SC,r=(d,M d 0 s.1,s.2)/\CI d f0 s/\LL s1.1 s.1/\(∀v p u q:Nat,s.1 v p=true->nk u q∈nx o v p->nN d s.1 u q)/\∀h,LL s1.1 h->NJ d h o->LL s.1 h:=by
 refine BJ (λm (x:Ayg×Ayn×Ayf)=>∃s:SC,x=(d,M d 0 s.1,s.2)/\m=s.2.length+free d s.1/\CI d f0 s/\LL s1.1 s.1/\(∀v p,s.1 v p=true->nk v p∈s.2\/∀u q,nk u q∈nx o v p->nN d s.1 u q)/\∀h,LL s1.1 h->NJ d h o->LL s.1 h) (λm x hx=>?_) _ _ ⟨s1,rfl,rfl,hI.ci,λ_ _ h=>h,λv p h=>.inl (hI.todo v p h),λh hh _=>hh⟩;obtain⟨s,rfl,rfl,wO,TK,U7,oJ⟩:=hx;unfold Ew HE;simp only;rcases Awx s.2.length with h0 |h0
 ·have e0:s.2=[]:=Aw3 h0;rw[show decide ((s.2.length:Int)>0)=false from GL];refine As.mk ⟨s,rfl,wO,TK,λv p u q h hm=>?_,oJ⟩
  grind
 ·have hlen:=wO.len;obtain⟨v,p,ev,hvp⟩:=wO.Ul _ (AG (z :=Aa.zero) (show s.2.length-1<s.2.length by omega));have ev:s.2.getD (s.2.length-1) Aa.zero=nk v p:=ev;rw[show decide ((s.2.length:Int)>0)=true from Jy,A3 (x:=(s.2.length:Int)-1) (n:=s.2.length-1),Awr (BS (by omega)),Awr ⟨by omega,by omega⟩];simp only[Awa,ev];have cX:s.2=s.2.take (s.2.length-1)++[nk v p]:=by
   have:=A4 (z :=Aa.zero) (l:=s.2) (k:=s.2.length-1) (by omega)
   grind
  have Anr:CI d f0 (s.1,s.2.take (s.2.length-1)):=⟨wO.le,wO.WY,λx hx=>wO.Ul x (Aw8 hx),by grind⟩;obtain⟨i1,i2,i3,i4,i5,i6,i7⟩:=Yj (nx o v p) (s.1,s.2.take (s.2.length-1)) (λx hx=>hI.nv v p x hx) Anr;have e1:=oe hd (s:=(s.1,s.2.take (s.2.length-1))) (w:=nx o v p) (a:=a) (o:=o) (λx hx=>hI.nv v p x hx) (by have:=hI.nl v p;omega) Anr;have e1':F4 a o (Cx Aa AyQ o (nk v p)) ((Cx Aa AyQ o (nk v p)).length:Int) 0 d (M d 0 s.1) (s.2.take (s.2.length-1))=_:=e1;rw[e1'];simp only[Awu]at i6;refine As.mk ⟨(cuts d (s.1,s.2.take (s.2.length-1)) (nx o v p)).2.length+free d (cuts d (s.1,s.2.take (s.2.length-1)) (nx o v p)).1,by omega,_,rfl,rfl,i1,λu q h=>i2 u q (TK u q h),λu q h=>?_,λh h1 h2=>?_⟩
  ·rcases i5 u q h with h |h
   ·rcases U7 u q h with h |h
    ·rw[cX]at h;rcases List.mem_append.1 h with h |h
     ·grind
     ·obtain⟨rfl,rfl⟩:=WN.1 (List.mem_singleton.1 h);exact .inr λa b hm=>i3 a b hm
    ·exact .inr λa b hm=>(h a b hm).mono i2
   ·grind
  ·exact i7 h (λu q hm=>h2 v p u q hm (oJ h h1 h2 v p hvp)) (oJ h h1 h2)
theorem dh{d:Ayg}{l:Ayj}(hd:AZ d)(hl:∀x∈l,QM x):As (H8 d l) λr=>r=true↔Qe d l:=by
 have hdd:=hd.1;unfold H8;by_cases hlen:l.length<=60
 ·rw[Awc (by omega:¬(l.length:Int)>60)];refine As.bind (P:=λt=>(t=.inl ()/\¬∀i,i<l.length->Vf d l i)\/(t=.inr ()/\∀i,i<l.length->Vf d l i)) ?_ λt ht=>?_
  ·have:=Bw (f:=CG d l (l.length:Int)) (λj (_:Unit)=>((if j=0 then 0 else dm l (j-1):Int),(j:Int))) l.length (λj _=>∀k,k<j->Vf d l k) (Q:=λt=>(t=.inl ()/\¬∀i,i<l.length->Vf d l i)\/(t=.inr ()/\∀i,i<l.length->Vf d l i)) (λj _ hj hJ=>?_) (λ_ hJ=>?_) (s0:=()) (λi h=>by omega)
   ·exact this
   ·unfold CG F7;have hB:=hl _ (AG (z :=Af.zero) hj);have e1:HH d (l.getD j Af.zero).2.2.1=some (GJ d (lS l j)):=SX hB.1 (by omega);have e2:HH d (l.getD j Af.zero).2.2.2.1=some (GJ d (lT l j)):=SX hB.2 (by omega);have e3:(l.getD j Af.zero).1=dm l j:=rfl;rw[Hq hj,Awr (BS hj),Awa,e1,Av9];obtain⟨c,hc⟩:∃c:Int,c=if j=0 then 0 else dm l (j-1):=⟨_,rfl⟩;have qh:0<=c/\c<=1000000/\(0<j->c=dm l (j-1))/\(j=0->c=0):=by
     by_cases h0:j=0
     ·omega
     ·rw[Aws h0]at hc;have:=(hJ (j-1) (by omega)).1;omega
    rw[<-hc];obtain⟨b,aO,fY⟩:∃b,Fq d c (GJ d (lS l j)) l (l.length:Int) (j:Int) (l.getD j Af.zero)=some b/\(b=false↔Vf d l j):=by
     unfold Fq Vf;rw[e3,Kj,AW (x:=c+1),e2];by_cases h1:c+1<=dm l j/\dm l j<=1000000
     ·rw[Awe h1];by_cases h2:GJ d (lS l j)<0
      ·rw[Awe h2];exact⟨true,rfl,λh=>by grind,λh=>by omega⟩
      ·rw[Awc h2];refine⟨_,rfl,?_⟩
       grind
     ·rw[Awc h1];refine⟨true,rfl,λh=>by grind,λh=>?_⟩;omega
    rw[aO,Av9];cases b with
    |true=>exact As.mk (.inl ⟨rfl,λh=>by grind⟩)
    |false =>
     rw[BA hj (by omega)];refine As.mk ⟨(),rfl,λk hk=>?_⟩
     grind
   ·unfold CG F7;rw[IB];exact As.mk (.inr ⟨rfl,hJ⟩)
  ·rcases ht with ⟨rfl,h⟩|⟨rfl,h⟩
   ·exact As.mk ⟨λh=>by grind,λh'=>absurd h'.2 h⟩
   ·exact As.mk ⟨λ_=>⟨hlen,h⟩,λ_=>rfl⟩
 ·rw[Awe (by omega:(l.length:Int)>60)];exact As.mk ⟨λh=>by grind,λh=>absurd h.1 hlen⟩
theorem dc{d:Ayg}{l:Ayj}{c:Aym}(hc:Rj c)(hl:∀x∈l,QM x):As (Dz d l (c,())) λr =>
    (r=(false,[])/\¬(AZ d/\Iw d c/\Qe d l/\Hz d l))\/(AZ d/\Iw d c/\Qe d l/\Hz d l/\∃f,r=(true,Ba d f)/\Ua d l c f):=by
 unfold Dz ID;obtain⟨r1,e1,q1⟩:=Ql (d:=d) hc;rw[e1,Av9];cases r1 with
 |false=>exact As.mk (.inl ⟨rfl,λh=>by have:=q1.2 ⟨h.1,h.2.1⟩;cases this⟩)
 |true =>
  obtain⟨hd,jg⟩:=q1.1 rfl;obtain⟨r2,e2,q2⟩:=dh (d:=d) hd hl;simp only[AwT,Awo,e2,Av9];cases r2 with
  |false=>exact As.mk (.inl ⟨rfl,λh=>by have:=q2.2 h.2.2.1;cases this⟩)
  |true =>
   have gp:=q2.1 rfl;simp only[AwT,Awo];refine As.bind (ZY hd hl gp) λv hv=>?_;rcases hv with ⟨f1,hs,f2⟩|⟨f1,hs⟩
   ·rw[f1,f2];simp only[AwT,Awo];rw[dv hd jg hc,Av9];simp only;have hln:=gp.1;obtain⟨Nq,LS⟩:=vR hd jg;have n0:∀v p,nx ([]:NX) v p=[]:=λv p=>rfl;have tA:As (IE 0 (((List.range l.length).map (R7 d l)).length:Int) 0 d ((List.range l.length).map (R7 d l)) (M d 0 (C0 c)) [] (g0 c d.length)) λr=>∃s o,r=(d,M d 0 s.1,o,s.2)/\LI d (C0 c) s o (8192*l.length)/\(∀i,i<l.length->(∀x∈AY (b1 d l i)++AY (b2 d l i),Oy d s.1 x)/\∀p,1<=p->p<(b1 d l i).length->RS (b1 d l i) (b2 d l i) s.1 o p)/\∀h,Mh d l h->LL (C0 c) h->LL s.1 h/\NJ d h o:=by
     unfold IE;have:=Bw (f:=CY 0 (((List.range l.length).map (R7 d l)).length:Int)) (λk (x:SC×NX)=>((k:Int),d,(List.range l.length).map (R7 d l),M d 0 x.1.1,x.2,x.1.2)) l.length
      (λk x=>LI d (C0 c) x.1 x.2 (8192*k)/\(∀i,i<k->(∀y∈AY (b1 d l i)++AY (b2 d l i),Oy d x.1.1 y)/\∀p,1<=p->p<(b1 d l i).length->RS (b1 d l i) (b2 d l i) x.1.1 x.2 p)/\∀h,Mh d l h->LL (C0 c) h->LL x.1.1 h/\NJ d h x.2)
      (Q:=λr=>∃s o,r=(d,M d 0 s.1,o,s.2)/\LI d (C0 c) s o (8192*l.length)/\(∀i,i<l.length->(∀x∈AY (b1 d l i)++AY (b2 d l i),Oy d s.1 x)/\∀p,1<=p->p<(b1 d l i).length->RS (b1 d l i) (b2 d l i) s.1 o p)/\∀h,Mh d l h->LL (C0 c) h->LL s.1 h/\NJ d h o)
      (λk x hk hx=>?_) (λx hx=>?_) (s0:=((C0 c,g0 c d.length),[])) ⟨⟨Nq,LS,λv p x hx=>(by rw[n0]at hx;cases hx),λv p=>(by rw[n0];simp)⟩,λi hi=>by omega,λh _ hh=>⟨hh,λv p u q hm=>(by rw[n0]at hm;cases hm)⟩⟩
     ·exact this
     ·obtain⟨j1,j2,j3⟩:=hx;obtain⟨s1,s2,s3,s4,_,_⟩:=V1 hd hl gp hs hk;have eg:((List.range l.length).map (R7 d l)).getD k (Ty.zero (.AH AyS (.AH AyS .unit)))=(fN (b1 d l k),fN (b2 d l k),()):=by
       rw[<-s4];exact Rz hk
      unfold CY GM;simp only[Awa,eg];obtain⟨s',o',k1,k2,k3,k4,k5,k6,k7⟩:=y7 hd s1 s2 s3 j1 (by omega) (a:=0) (dd:=(List.range l.length).map (R7 d l));rw[Awl,AwQ,Hq hk,Awp,Awr (BS hk),k1,Av9,BA hk (by omega)];refine As.mk ⟨(s',o'),rfl,by rw[show 8192*(k+1)=8192*k+8192 by omega];exact k2,λi hi=>?_,λh hh DT=>?_⟩
      ·rcases Awk i k with Cw |jV
       ·obtain⟨a1,a2⟩:=j2 i Cw;refine⟨λy hy=>?_,λp p1 p2=>(a2 p p1 p2).mono k3 k4⟩;have:=a1 y hy;cases y with
        |co b=>trivial
        |va v l n=>exact⟨this.1.mono k3,this.2.mono k3⟩
       ·rw[show i=k by omega];exact⟨k5,k6⟩
      ·obtain⟨a1,a2⟩:=j3 h hh DT;exact k7 h (hh k hk) a1 a2
     ·unfold CY GM;simp only;rw[Awl,AwQ,IB,Awo];exact As.mk ⟨x.1,x.2,rfl,hx⟩
    obtain⟨r,hr,s,o,rfl,j1,j2,j3⟩:=tA;rw[hr,Av9];unfold IH;simp only;obtain⟨r,hr,s',rfl,k1,k2,k3,k4⟩:=og hd j1 (by omega) (a:=0);have aP:=hd.1;rw[hr,Av9];simp only;rw[Awr (show Ty.row AyR=true/\(0:Int)<=(d.length:Int)/\(d.length:Int)<=(d.length:Int)/\((24:Nat):Int)*(d.length:Int)<=281474976710656/\(d.length:Int)<=9223372036854775807 from⟨rfl,by omega,by omega,by omega,by omega⟩),RQ,Awa,
     kh hd (λv=>by cases hv:s'.1 v 0 with |false=>rfl |true=>have:=(k1.WY v 0 hv).2.1;omega),Av9,Av9]
    refine As.mk (.inr ⟨hd,jg,gp,hs,s'.1,rfl,k1.le,k1.WY,λi hi=>?_,λh h1 h2=>?_⟩)
    ·obtain⟨s1,s2,s3,_,_,_⟩:=V1 hd hl gp hs hi;obtain⟨a1,a2⟩:=j2 i hi;refine zA s1 s2 s3 (o:=o) (λy hy=>?_) (λp p1 p2=>(a2 p p1 p2).mono k2 λ_ _ _ h=>h) k3;have:=a1 y hy;cases y with
     |co b=>trivial
     |va v l n=>exact⟨this.1.mono k2,this.2.mono k2⟩
    ·obtain⟨a1,a2⟩:=j3 h h1 h2;exact k4 h a1 a2
   ·rw[f1];exact As.mk (.inl ⟨rfl,λh=>hs h.2.2.2⟩)
end Go.Proofs.X
namespace Go.Proofs.X
open Go Go.Va
set_option maxRecDepth 100000
def sd(d:Ayg)(l:Ayj)(i s:Nat):AyZ Bt:=if s=0 then b1 d l i else b2 d l i
def Xm{A:Type}(f:Nat->Nat->A)(n:Nat):AyZ A:=(List.range n).flatMap λi=>[f i 0,f i 1]
theorem Zs{A:Type}(f:Nat->Nat->A)(n:Nat):Xm f (n+1)=Xm f n++[f n 0,f n 1]:=by
 unfold Xm;rw[Axq];simp
theorem Qr{A:Type}(f:Nat->Nat->A):∀n,(Xm f n).length=2*n
 |0=>rfl
 |n+1=>by rw[Zs,Awd,Qr f n];simp;omega
theorem na{A:Type}(f:Nat->Nat->A){z:A}:∀{n i s:Nat},i<n->s<2->(Xm f n).getD (2*i+s) z=f i s
 |n+1,i,s,hi,hs=>by
  rw[Zs];simp;rcases Awk i n with h |h
  ·rw[Aww (by rw[Qr];omega)];exact na f h hs
  ·have:i=n:=by omega
   subst this;rw[Awv (by rw[Qr];omega),Qr,show 2*i+s-2*i=s by omega]
   grind
theorem Z7{d:Ayg}{l:Ayj}(hd:AZ d)(hl:∀x∈l,QM x)(hlen:l.length<=60):As (O5 d l) λr=>(r.1=true/\Hz d l/\r.2=Xm (λi s=>(FT d (if s=0 then lS l i else lT l i)).2) l.length)\/(r.1=false/\¬Hz d l):=by
 refine As.bind (P:=λt=>(∃x,t=.inl x/\¬Hz d l)\/(t=.inr (Xm (λi s=>(FT d (if s=0 then lS l i else lT l i)).2) l.length)/\Hz d l)) ?_ λt ht=>?_
 ·refine BJ (λm x=>∃k:Nat,k<=l.length/\m=l.length-k/\x.1=(k:Int)/\x.2=Xm (λi s=>(FT d (if s=0 then lS l i else lT l i)).2) k/\∀i,i<k->b6 d l i) (λm x hI=>?_) _ _ ⟨0,AwW _,rfl,rfl,rfl,λi hi=>by omega⟩;obtain⟨x1,x2⟩:=x;obtain⟨k,hk,rfl,h1,h2,h3⟩:=hI;subst h1;subst h2;unfold Jo M1 Np;simp only;rcases Awk k _ with h |h
  ·have hB:=hl _ (AG (z:=Ty.zero _) h);have e1:Gf d (l.getD k _).2.2.1=some (FT d (lS l k)):=S8 hd hB.1;have e2:Gf d (l.getD k _).2.2.2.1=some (FT d (lT l k)):=S8 hd hB.2;rw[Hq h,Awr (BS h),Awa,e1,Av9,Awr (BS h),e2,Av9];cases hc:(!(FT d _).1||!(FT d _).1)with
   |true =>
    refine As.mk (.inl ⟨_,rfl,λh'=>?_⟩);have:=dF.2 (h' k h);rw[hc]at this;cases this
   |false =>
    rw[Awr (by rw[Qr];show(2*k+2)*24<=_;omega),BA h (by omega)];refine As.mk ⟨l.length-(k+1),by omega,k+1,h,rfl,rfl,(Zs _ k).symm,λi hi=>?_⟩;rcases Awk i k with h' |h'
    ·grind
    ·rw[show i=k by omega];exact dF.1 hc
  ·have:k=l.length:=by omega
   subst this;rw[IB];exact As.mk (.inr ⟨rfl,h3⟩)
 ·rcases ht with ⟨x,rfl,h⟩|⟨rfl,h⟩
  ·exact As.mk (.inr ⟨rfl,h⟩)
  ·exact As.mk (.inl ⟨rfl,h,rfl⟩)
def UH(f:Nat->Nat->Bool):Sg->Nat->Nat->Bool
 |.co _=>f
 |.va v l n=>mark (mark f v l) v (l+n)
theorem vI{d:Ayg}(hd:AZ d){ks:AyZ (AyZ Sg)}{m i:Nat}(hm:m<ks.length)(hi:i<(ks.getD m []).length)(Hs:Sr d ((ks.getD m []).getD i (.co []))){f:Nat->Nat->Bool}{o:Ayl} :
    Ij (m:Int) (i:Int) (M d 1 f) (ks.map fV) o=some (M d 1 (UH f ((ks.getD m []).getD i (.co [])))):=by
 unfold Ij;have e1:(ks.map fV).getD m (Ty.zero (.sl _))=fV (ks.getD m []):=Mm fV hm;simp only[Awa,e1,fJ hi];rw[Awl,Awr (BS hm),Cf,Awr (BS hi)];cases hs:(ks.getD m []).getD i _ with
 |co b=>rfl
 |va v a n =>
  rw[hs]at Hs;obtain⟨hv,hn,hw⟩:=Hs;obtain⟨e0,qm,qn⟩:=T3 hd hv;have e2:(KV (.va v a n)).1=v:=rfl;have e3:(KV (.va v a n)).2.1=a:=rfl;have e5:(KV (.va v a n)).2.2.1=n:=rfl;have e4:wI (a+n)=((a+n:Nat)):=A3;simp only[e2,e3,e5,e4,Awa];have q1:(M d 1 f).set v (((M d 1 f).getD v AyU.zero).set a true)=M d 1 _:=b5 hv;simp only[q1];have q2:(M d 1 _).set v (((M d 1 _).getD v AyU.zero).set _ true)=M d 1 (mark (mark f v a) v (a+n)):=b5 hv;simp only[q2];rw[show decide ((v:Int)>=0)=true from Jy,RQ,Awr (BS hv),Sq hv,Ib,Awr (show 0<=(a:Int)/\a<((W d v+1:Nat):Int)from⟨by omega,by omega⟩),RQ,Awr (BS hv),Sq hv,Ib,Awr (show 0<=((a+n:Nat):Int)/\((a+n:Nat))<((W d v+1:Nat):Int)from⟨by omega,by omega⟩)];rfl
theorem vJ{d:Ayg}(hd:AZ d){ks:AyZ (AyZ Sg)}{m:Nat}(hm:m<ks.length)(hb:(ks.getD m []).length<=1048576)(Hs:∀x∈ks.getD m [],Sr d x){f:Nat->Nat->Bool}{o:Ayl} :
    OM (m:Int) (ks.map fV) o 0 (M d 1 f)=some (M d 1 ((ks.getD m []).foldl UH f)):=by
 have e1:(ks.map fV).getD m (Ty.zero (.sl _))=fV (ks.getD m []):=Mm fV hm;have:=A2 (f:=Eg m (ks.map fV) o) (λk=>(k,M d 1 (((ks.getD m []).take k).foldl UH f))) (t:=M d 1 ((ks.getD m []).foldl UH f)) (ks.getD m []).length (λk hk=>?_) ?_
 ·exact this
 ·unfold Eg Jj;simp only[Awa,e1];rw[Awl,Awr (BS hm),Cf,Hq hk,vI hd hm hk (Hs _ (AG hk)),BA hk hb,A4  hk,AxN];rfl
 ·unfold Eg Jj;simp only[Awa,e1];rw[Awl,Awr (BS hm),Cf,IB,Awo,Awj (Awf _)]
def Uq(B:AyZ Bt):Ayc:=(bV B,Yx (AY B),())
theorem vK{d:Ayg}(hd:AZ d){bs:AyZ (AyZ Bt)}(hb:∀B∈bs,Ce d B)(hl:bs.length<=1000){f:Nat->Nat->Bool} :
    OO (bs.map fN) 0 (M d 1 f) []=some (M d 1 ((bs.flatMap AY).foldl UH f),bs.map Uq):=by
 have em:bs.map fN=(bs.map AY).map fV:=by rw[AxY];rfl
 have:=A2 (f:=Eh (bs.map fN)) (λk=>(k,M d 1 (((bs.take k).flatMap AY).foldl UH f),(bs.take k).map Uq)) (t:=(M d 1 ((bs.flatMap AY).foldl UH f),bs.map Uq)) bs.length (λk hk=>?_) ?_
 ·exact this
 ·unfold Eh Jk;have hB:=hb _ (AG (z:=[]) hk);have e1:(bs.map fN).getD k (Ty.zero (.sl _))=fN (bs.getD k []):=Mm fN hk;have e2:(bs.map AY).getD k []=AY (bs.getD k []):=Mm AY hk;have e3:=vJ hd (ks:=bs.map AY) (m:=k) (by grind) (by rw[e2];have:=Dn (D6 (bs.getD k []));rw[Dd]at this;have:=hB.2.1;omega) (by rw[e2];exact λx hx=>(Zc hB hx).1) (f:=((bs.take k).flatMap AY).foldl UH f) (o:=(bs.take k).map Uq);rw[<-em,e2]at e3;simp only[Awa,e1];rw[Awl,Hq hk,e3,Av9,Awr (BS hk),Aon hd hB,Av9,Awr (by grind),BA hk (by omega),A4  hk,AxT,AxN,AwY];simp only[List.flatMap_cons,List.flatMap_nil,AwO,List.map_nil];rfl
 ·unfold Eh Jk
  grind
def gO(f:Nat->Nat->Bool):Bt->Nat->Nat->Bool
 |.co _=>f
 |.va v a=>mark f v a
def Xv(A B:AyZ Bt)(f:Nat->Nat->Bool)(p:Nat):Bool:=SD A f p&&(!SD B f p&&ki (Sx B p))
section
variable {d:Ayg} {l:Ayj}
def Re(d:Ayg)(l:Ayj):Ayl:=Xm (λi s=>Uq (sd d l i s)) l.length
theorem WT{i s:Nat}(hi:i<l.length)(hs:s<2):(Re d l).getD (2*i+s) Ak.zero=Uq (sd d l i s):=na (λi s=>Uq _) hi hs
structure Sn (d:Ayg) (l:Ayj):Prop where
 hd:AZ d
 len:l.length<=60
 qo:∀i s,i<l.length->Ce d (sd d l i s)
 dK:∀i,i<l.length->(sd d l i 0).length=(sd d l i 1).length
theorem Sn.eq(h:Sn d l){i:Nat}(hi:i<l.length)(s t:Nat):(sd d l i s).length=(sd d l i t).length:=by
 have:=h.dK i hi;unfold sd at this⊢
 grind
theorem vL(H:Sn d l){i s p:Nat}(hi:i<l.length)(hs:s<2)(hp:p<(sd d l i 0).length){f:Nat->Nat->Bool}{q:Bool}{e j:Int} :
    Ik q ((2*i:Nat):Int) e j (p:Int) (s:Int) (M d 1 f) (Re d l)=some (bif Xv (sd d l i s) (sd d l i (1-s)) f p then(true,M d 1 (gO f (Sx (sd d l i (1-s)) p)))else(q,M d 1 f)):=by
 unfold Ik LJ;have hlen:=H.len;have e1:wI (((2*i:Nat))+s)=((2*i+s:Nat)):=A3;have e2:wI (wI (((2*i:Nat))+1)-s)=((2*i+(1-s):Nat)):=by
  rw[A3 (x:=((2*i:Nat))+1) (n:=2*i+1)];exact A3
 have g1:=WT (d:=d) hi hs;have g2:=WT (d:=d) hi (show 1-s<2 by omega);have hA:=H.qo i s hi;have hB:=H.qo i (1-s) hi;have hpA:p<(sd d l i s).length:=by rw[H.eq hi s 0];exact hp
 have hpB:p<(sd d l i (1-s)).length:=by rw[H.eq hi _ 0];exact hp
 have H7:(Re d l).length=2*l.length:=Qr _ _;have eb:(bV _).getD p _=Ts (Sx _ p):=b9 hpB;simp only[e1,e2,Awa,g1,g2];rw[Awr (BS (by omega)),Awr (BS (by omega))];unfold Uq;simp only[eb];rw[Zm H.hd hA hpA,Av9];unfold Xv;cases SD _ f p with
 |false=>rfl
 |true =>
  rw[Awp,iI H.hd hB hpB,Av9,Av9,AxV];cases hw:(!SD _ f p&&ki _)with
  |false=>rfl
  |true =>
   rw[Em,Awr (BS hpB)];have hb:=rC hB hpB;cases hbb:Sx _ p with
   |co c=>rw[hbb]at hw;simp[ki]at hw
   |va v a =>
    rw[hbb]at hb;obtain⟨hv,ha⟩:=hb;obtain⟨e0,qm,qn⟩:=T3 H.hd hv;have m1:(M d 1 f).set v (((M d 1 f).getD v AyU.zero).set a true)=M d 1 _:=b5 hv;have c1:(Ts (.va v a)).1=v:=rfl;have c2:(Ts (.va v a)).2.1=a:=rfl;simp only[c1,c2,Awa,m1];rw[RQ,Awr (BS hv),Awr (BS hpB),Sq hv,Ib,Awr (show 0<=(a:Int)/\a<((W d v+1:Nat):Int)from⟨by omega,by omega⟩)];rfl
def eQ(d:Ayg)(f:Nat->Nat->Bool):Nat->Nat->Bool:=λv p=>decide (v<d.length/\1<=p/\p<W d v)&&f v p
theorem Lr{f:Nat->Nat->Bool}{v p:Nat}:eQ d f v p=true↔(v<d.length/\1<=p/\p<W d v)/\f v p=true:=by simp[eQ]
theorem jL{B:AyZ Bt}(h:Ce d B){p:Nat}(hp:p<B.length)(f:Nat->Nat->Bool):SD B (eQ d f) p=SD B f p:=by
 unfold SD;rcases TU h hp with ⟨q,_⟩|⟨q,⟨⟨b,e⟩,_⟩|⟨v,a,e,h1,h2,h3,_⟩⟩
 ·grind
 ·rw[e];rfl
 ·rw[e];simp[yE,eQ,h1,h2,h3]
structure SW (d:Ayg) (l:Ayj) (fs:Nat->Nat->Bool) (ok:Prop) (q:Bool) (f:Nat->Nat->Bool):Prop where
 no:q=false->f=fs/\ok
 yes:q=true->free d f+1<=free d fs
 le:LL fs f
 min:∀h,Mh d l h->LL (eQ d fs) h->LL (eQ d f) h
theorem SW.imp{fs f:Nat->Nat->Bool}{ok ok':Prop}{q:Bool}(h:SW d l fs ok q f)(hi:ok->ok'):SW d l fs ok' q f:=⟨λe=>⟨(h.no e).1,hi (h.no e).2⟩,h.yes,h.le,h.min⟩
def jc(d:Ayg)(l:Ayj)(fs:Nat->Nat->Bool)(i p s:Nat):Prop:=Xv (sd d l i s) (sd d l i (1-s)) fs p=false
theorem zC(H:Sn d l){fs f:Nat->Nat->Bool}{ok:Prop}{q:Bool}(h:SW d l fs ok q f){i s p:Nat}(hi:i<l.length)(hs:s<2)(VG:1<=p)(hp:p<(sd d l i 0).length) :
    SW d l fs (ok/\jc d l fs i p s) (bif Xv (sd d l i s) (sd d l i (1-s)) f p then true else q) (bif Xv (sd d l i s) (sd d l i (1-s)) f p then gO f (Sx (sd d l i (1-s)) p)else f):=by
 cases hh:Xv (sd d l i s) (sd d l i (1-s)) f p with
 |false =>
  refine⟨λe=>?_,h.yes,h.le,h.min⟩;obtain⟨e1,e2⟩:=h.no e;exact⟨e1,e2,by rw[e1]at hh;exact hh⟩
 |true =>
  have hA:=H.qo i s hi;have hB:=H.qo i (1-s) hi;have hpA:p<(sd d l i s).length:=by rw[H.eq hi s 0];exact hp
  have hpB:p<(sd d l i (1-s)).length:=by rw[H.eq hi (1-s) 0];exact hp
  unfold Xv at hh;rw[Awg,Awg,Axp]at hh;obtain⟨c1,c2,c3⟩:=hh;have key:∃v a,Sx (sd d l i (1-s)) p=.va v a/\v<d.length/\1<=a/\a<W d v/\f v a=false:=by
   rcases TU hB hpB with ⟨e,_⟩|⟨e,⟨⟨b,e'⟩,_⟩|⟨v,a,e',h1,h2,h3,_⟩⟩
   ·unfold SD at c2;rw[e]at c2;cases c2
   ·rw[e']at c3;cases c3
   ·refine⟨v,a,e',h1,h2,h3,?_⟩;unfold SD at c2;rw[e,e',Bool.false_or]at c2;exact c2
  obtain⟨v,a,e1,h1,h2,h3,h4⟩:=key;have TK:LL f (gO f (Sx (sd d l i (1-s)) p)):=λu b hu=>by rw[e1];exact DF.2 (.inl hu)
  have AsN:free d (gO f (Sx (sd d l i (1-s)) p))+1<=free d f:=by rw[e1];exact Wx h1 h3 h4
  refine⟨λe=>(by cases e),λ_=>?_,λu b hu=>TK u b (h.le u b hu),λg hg hgs=>?_⟩
  ·rw[Awp];have:free d f<=free d fs:=List.countP_mono_left λx _ hx=>by
    simp only[Axp]at hx⊢;cases hq:fs x.1 x.2 with
    |false=>rfl
    |true=>rw[h.le _ _ hq]at hx;cases hx
   omega
  ·rw[Awp,e1];have hm:=h.min g hg hgs;intro u b yM;obtain⟨hr,yM⟩:=Lr.1 yM;rcases DF.1 yM with yM |⟨rfl,rfl⟩
   ·exact hm u b (Lr.2 ⟨hr,yM⟩)
   ·have Ans:SD (sd d l i s) g p=true:=by
      rw[<-jL hA hpA f]at c1;unfold SD at c1⊢;rw[AxJ]at c1⊢;refine c1.imp id λc=>?_;cases hx:Sx (sd d l i s) p with
      |co _=>rw[hx]at c;cases c
      |va v' a'=>rw[hx]at c;exact hm v' a' c
    have gd:SD (sd d l i (1-s)) g p=true:=by
     have SS:=(hg i hi).2 p VG hp
     match s,hs with
     |0,_=>exact SS.1 Ans c3
     |1,_=>exact SS.2 Ans c3
    unfold SD at gd c2;rw[Axf]at c2;rw[c2.1,e1,Bool.false_or]at gd;exact gd
theorem vM(H:Sn d l){i p:Nat}(hi:i<l.length)(VG:1<=p)(hp:p<(sd d l i 0).length){fs f:Nat->Nat->Bool}{ok:Prop}{q:Bool}(h:SW d l fs ok q f){e j:Int} :
    As (OP ((2*i:Nat):Int) e j (Re d l) (p:Int) q 0 (M d 1 f)) λr=>∃f',r.2=M d 1 f'/\SW d l fs (ok/\jc d l fs i p 0/\jc d l fs i p 1) r.1 f':=by
 have:=Bw (f:=Ei ((2*i:Nat)) e j (Re d l) p) (λk x=>(x.1,k,M d 1 x.2)) 2 (λk x=>SW d l fs (ok/\∀s,s<k->jc d l fs i p s) x.1 x.2) (Q:=λr=>∃f',r.2=M d 1 f'/\SW d l fs (ok/\jc d l fs i p 0/\jc d l fs i p 1) r.1 f') (λk x hk hx=>?_) (λx hx=>?_) (s0:=(q,f)) (h.imp λh=>⟨h,λs hs=>by omega⟩)
 ·exact this
 ·unfold Ei Jl;rw[show decide ((k:Int)<2)=true from Jy,vL H hi hk hp,BA  hk (by omega)];have:=zC H hx hi hk VG hp;refine As.mk ⟨(bif Xv _ _ x.2 p then true else x.1,bif Xv _ _ x.2 p then gO x.2 _ else x.2),?_,this.imp λ⟨⟨h1,h2⟩,h3⟩=>⟨h1,λs hs=>?_⟩⟩
  ·grind
  grind
 ·unfold Ei Jl;exact As.mk ⟨x.2,rfl,hx.imp λ⟨h1,h2⟩=>⟨h1,h2 0 (by omega),h2 1 (by omega)⟩⟩
theorem pT(H:Sn d l){i k:Nat}(hi:i<l.length)(hk:1<=k)(hk2:k<2*(sd d l i 0).length){fs f:Nat->Nat->Bool}{ok:Prop}{q:Bool}(h:SW d l fs ok q f) :
    As (Hn q ((2*i:Nat):Int) ((sd d l i 0).length:Int) (k:Int) (M d 1 f) (Re d l)) λr=>∃f',r.2=M d 1 f'/\SW d l fs (ok/\(k<(sd d l i 0).length->jc d l fs i k 0/\jc d l fs i k 1)) r.1 f':=by
 unfold Hn Np LH;have hb:=(H.qo i 0 hi).2.1;have ep:(bif decide (k>=((sd d l i 0).length:Int))then wI (wI (2*((sd d l i 0).length))-k)else k)=((if(sd d l i 0).length<=k then 2*(sd d l i 0).length-k else k)):=by
  by_cases hc:(sd d l i 0).length<=k
  ·rw[Jy,Awr hc,A3 (x:=2*((sd d l i 0).length)) (n:=2*(sd d l i 0).length)];exact A3
  grind
 rw[ep];obtain⟨p,hp⟩:∃p,p=if(sd d l i 0).length<=k then 2*(sd d l i 0).length-k else k:=⟨_,rfl⟩;rw[<-hp];have hpk:k<(sd d l i 0).length->p=k:=λCw=>by grind
 have VG:1<=p:=by grind
 rw[show decide _=false from GL,Awo];by_cases hc:p<(sd d l i 0).length
 ·rw[show decide _=false from GL,Awo,Av9];refine As.bind (vM H hi VG hc h) λr hr=>?_;obtain⟨f',e1,e2⟩:=hr;refine As.mk ⟨f',e1,e2.imp λ⟨h1,h2⟩=>⟨h1,λCw=>?_⟩⟩;rw[<-hpk Cw];exact h2
 ·rw[show decide _=true from Jy,Awp];exact As.mk ⟨f,rfl,h.imp λh1=>⟨h1,λCw=>by omega⟩⟩
theorem pU(H:Sn d l){i:Nat}(hi:i<l.length){fs f:Nat->Nat->Bool}{ok:Prop}{q:Bool}(h:SW d l fs ok q f) :
    As (NK ((2*i:Nat):Int) (Re d l) ((sd d l i 0).length:Int) q 1 (M d 1 f)) λr=>∃f',r.2=M d 1 f'/\SW d l fs (ok/\∀p,1<=p->p<(sd d l i 0).length->jc d l fs i p 0/\jc d l fs i p 1) r.1 f':=by
 have hb:=(H.qo i 0 hi).2.1;have aO:=(H.qo i 0 hi).1;have ew:wI (2*((sd d l i 0).length))=((2*(sd d l i 0).length:Nat)):=A3;have:=Bw (f:=Dq ((2*i)) (Re d l) ((sd d l i 0).length)) (λk x=>(x.1,((k+1:Nat)),M d 1 x.2)) (2*(sd d l i 0).length-1) (λk x=>SW d l fs (ok/\∀p,1<=p->p<k+1->p<(sd d l i 0).length->jc d l fs i p 0/\jc d l fs i p 1) x.1 x.2) (Q:=λr=>∃f',r.2=M d 1 f'/\SW d l fs (ok/\∀p,1<=p->p<(sd d l i 0).length->jc d l fs i p 0/\jc d l fs i p 1) r.1 f') (λk x hk hx=>?_) (λx hx=>?_) (s0:=(q,f)) (h.imp λh=>⟨h,λp h1 h2=>by omega⟩)
 ·exact this
 ·unfold Dq HU;rw[ew,Hq (show k+1<2*(sd d l i 0).length by omega),A3 (x:=((k+1:Nat))+1) (n:=k+1+1)];refine As.bind (pT H hi (by omega) (by omega) hx) λr hr=>?_;obtain⟨f',e1,e2⟩:=hr;refine As.mk ⟨(r.1,f'),by grind,e2.imp λ⟨⟨h1,h2⟩,h3⟩=>⟨h1,λp p1 p2 p3=>?_⟩⟩
  grind
 ·unfold Dq HU;rw[ew,show 2*(sd d l i 0).length-1+1=2*(sd d l i 0).length by omega,IB];exact As.mk ⟨x.2,rfl,hx.imp λ⟨h1,h2⟩=>⟨h1,λp p1 p2=>h2 p p1 (by omega) p2⟩⟩
def Wh(d:Ayg)(l:Ayj)(fs:Nat->Nat->Bool)(n:Nat):Prop:=∀i,i<n->∀p,1<=p->p<(sd d l i 0).length->jc d l fs i p 0/\jc d l fs i p 1
theorem pV(H:Sn d l)(fs:Nat->Nat->Bool):As (NL (Re d l) false 0 (M d 1 fs)) λr=>∃f',r.2=M d 1 f'/\SW d l fs (Wh d l fs l.length) r.1 f':=by
 have hlen:=H.len;have H7:(Re d l).length=2*l.length:=Qr _ _;have:=Bw (f:=Dr (Re d l)) (λk x=>(x.1,((2*k:Nat)),M d 1 x.2)) l.length (λk x=>SW d l fs (Wh d l fs k) x.1 x.2) (Q:=λr=>∃f',r.2=M d 1 f'/\SW d l fs (Wh d l fs l.length) r.1 f') (λk x hk hx=>?_) (λx hx=>?_) (s0:=(false,fs)) ⟨λ_=>⟨rfl,λi hi=>by omega⟩,λe=>(by grind),λ_ _ h=>h,λ_ _ h=>h⟩
 ·exact this
 ·unfold Dr HV;have g1:=WT (d:=d) hk (show 0<2 by omega);rw[Nat.add_zero]at g1;simp only[Awa,g1];have e1:(Uq _).1.length=(sd d l k 0).length:=Em _;rw[H7,Hq (show 2*k<2*l.length by omega),Awr (BS (by omega)),e1,A3  (n:=2*(k+1)) (by omega) (by omega)];refine As.bind (pU H hk hx) λr hr=>?_;obtain⟨f',e1,e2⟩:=hr;refine As.mk ⟨(r.1,f'),by grind,e2.imp λ⟨h1,h2⟩ i hi=>?_⟩;rcases Awk i k with h' |h'
  ·exact h1 i h'
  grind
 ·unfold Dr HV;rw[H7,IB];exact As.mk ⟨x.2,rfl,hx⟩
theorem pW(H:Sn d l)(f0:Nat->Nat->Bool):As (NM (Re d l) true (M d 1 f0)) λr=>∃f,r=M d 1 f/\LL f0 f/\Wh d l f l.length/\∀h,Mh d l h->LL (eQ d f0) h->LL (eQ d f) h:=by
 refine BJ (λm x=>∃f,x.2=M d 1 f/\m=free d f+(if x.1 then 1 else 0)/\LL f0 f/\(x.1=false->Wh d l f l.length)/\∀h,Mh d l h->LL _ h->LL (eQ d f) h) (λm x hx=>?_) _ _ ⟨f0,rfl,rfl,λ_ _ h=>h,λe=>(by grind),λ_ _ h=>h⟩;obtain⟨q,t⟩:=x;obtain⟨f,e1,rfl,TK,W9,oJ⟩:=hx;subst e1;unfold HW LR;cases q with
 |false=>exact As.mk ⟨f,rfl,TK,W9 rfl,oJ⟩
 |true =>
  refine As.bind (pV H f) λr hr=>?_;obtain⟨f',e1,e2⟩:=hr;refine As.mk ⟨free d f'+(if r.1 then 1 else 0),?_,f',e1,rfl,λu b hu=>e2.le u b (TK u b hu),λe=>?_,λh hh hs=>e2.min h hh (oJ h hh hs)⟩
  ·cases hq:r.1 with
   |false=>rw[(e2.no hq).1];simp
   |true=>have:=e2.yes hq;simp;omega
  ·obtain⟨q1,q2⟩:=e2.no e;rw[q1];exact q2
end
end Go.Proofs.X
namespace Go.Proofs.X
open Go Go.Va
set_option maxRecDepth 100000
theorem fG{d:Ayg}:∀(fs:AyZ Sg) (f:Nat->Nat->Bool),(∀x∈fs,Sr d x)->LL f (fs.foldl UH f)/\(∀x∈fs,Oy d (eQ d (fs.foldl UH f)) x)/\∀h,(∀x∈fs,Oy d h x)->LL (eQ d f) h->LL (eQ d (fs.foldl UH f)) h
 |[],f,_=>⟨λ_ _ h=>h,λx hx=>(by cases hx),λ_ _ h=>h⟩
 |x::fs,f,Hs=>by
  obtain⟨i1,i2,i3⟩:=fG fs (UH f x) λy hy=>Hs y (AwB _ hy);have k1:LL f (UH f x):=by
   cases x with
   |co b=>exact λ_ _ h=>h
   |va v l n=>exact λu q h=>DF.2 (.inl (DF.2 (.inl h)))
  refine⟨λu q h=>i1 u q (k1 u q h),λy hy=>?_,λh hh hs=>i3 h (λy hy=>hh y (AwB _ hy)) ?_⟩
  ·rcases List.mem_cons.1 hy with rfl |hy
   ·cases y with
    |co b=>trivial
    |va v l n =>
     have hv:=(Hs _ AwE).1;exact⟨λh1 h2=>Lr.2 ⟨⟨hv,h1,h2⟩,i1 v l (DF.2 (.inl (DF.2 (.inr ⟨rfl,rfl⟩))))⟩,λh1 h2=>Lr.2 ⟨⟨hv,h1,h2⟩,i1 v (l+n) (DF.2 (.inr ⟨rfl,rfl⟩))⟩⟩
   ·exact i2 y hy
  ·have hx:=hh x AwE;cases x with
   |co b=>exact hs
   |va v l n =>
    intro u q hq;obtain⟨hr,hq⟩:=Lr.1 hq;rcases DF.1 hq with hq |⟨rfl,rfl⟩
    ·rcases DF.1 hq with hq |⟨rfl,rfl⟩
     ·exact hs u q (Lr.2 ⟨hr,hq⟩)
     ·exact hx.1 hr.2.1 hr.2.2
    ·exact hx.2 hr.2.1 hr.2.2
theorem nc{A B:Type}(f:Nat->Nat->A)(g:A->B)(n:Nat):(Xm f n).map g=Xm (λi s=>g (f i s)) n:=by
 unfold Xm;rw[List.map_flatMap];rfl
theorem XT{A:Type}{f:Nat->Nat->A}{n:Nat}{x:A}:x∈Xm f n↔∃i,i<n/\(x=f i 0\/x=f i 1):=by
 unfold Xm;rw[List.mem_flatMap];simp
theorem sd0(d:Ayg)(l:Ayj)(i:Nat):sd d l i 0=b1 d l i:=rfl
theorem sd1(d:Ayg)(l:Ayj)(i:Nat):sd d l i 1=b2 d l i:=rfl
theorem AmC{d:Ayg}{l:Ayj}(hd:AZ d)(hl:∀x∈l,QM x)(hp:Qe d l)(hs:Hz d l):Sn d l where
 hd:=hd
 len:=hp.1
 qo i s hi:=by
  obtain⟨h1,h2,_⟩:=V1 hd hl hp hs hi;unfold sd;split
  ·exact h1
  ·exact h2
 dK i hi:=(V1 hd hl hp hs hi).2.2.1
theorem Ac4{d:Ayg}{l:Ayj}(H:Sn d l){f:Nat->Nat->Bool}(h:Wh d l f l.length){i:Nat}(hi:i<l.length):SP (b1 d l i) (b2 d l i) (eQ d f):=by
 intro p VG YF;have e:=H.dK i hi;rw[sd0,sd1]at e;obtain⟨c0,c1⟩:=h i hi p VG YF;have hA:Ce d (b1 d l i):=H.qo i 0 hi;have hB:Ce d (b2 d l i):=H.qo i 1 hi;rw[jL hA YF,jL hB (by omega)];have c0:Xv (b1 d l i) (b2 d l i) f p=false:=c0;have c1:Xv (b2 d l i) (b1 d l i) f p=false:=c1;unfold Xv at c0 c1;constructor
 ·intro h1 h2;rw[h1,h2]at c0;simpa using c0
 ·intro h1 h2;rw[h1,h2]at c1;simpa using c1
theorem dR{d:Ayg}{l:Ayj}{c:Aym}(hc:Rj c)(hl:∀x∈l,QM x):As (Hd d l (c,())) λr =>
    (r=(false,[])/\¬(AZ d/\Iw d c/\Qe d l/\Hz d l))\/(AZ d/\Iw d c/\Qe d l/\Hz d l/\∃f,r=(true,Ba d f)/\Ua d l c f):=by
 unfold Hd IR;obtain⟨r1,e1,q1⟩:=iB (d:=d) hc;rw[e1,Av9];cases r1 with
 |false=>exact As.mk (.inl ⟨rfl,λh=>by have:=q1.2 ⟨h.1,h.2.1⟩;cases this⟩)
 |true =>
  obtain⟨hd,jg⟩:=q1.1 rfl;obtain⟨r2,e2,q2⟩:=iD (d:=d) hl;simp only[AwT,Awo,e2,Av9];cases r2 with
  |false=>exact As.mk (.inl ⟨rfl,λh=>by have:=q2.2 ⟨h.1,h.2.2.1⟩;cases this⟩)
  |true =>
   have gp:=(q2.1 rfl).2;simp only[AwT,Awo];rw[dT hd jg hc,Av9];unfold O4;obtain⟨r3,e3,q3⟩:=Z7 hd hl gp.1;rw[e3,Av9];rcases q3 with ⟨f1,hs,f2⟩|⟨f1,hs⟩
   ·rw[f1,f2];simp only[AwT,Awo];have H:=AmC hd hl gp hs;have ef:Xm (λi s=>(FT d (if s=0 then lS l i else lT l i)).2) l.length=(Xm (sd d l) l.length).map fN:=by
     rw[nc];unfold Xm;rw[List.flatMap_def,List.flatMap_def];congr 1;refine Aw5 λi hi=>?_;obtain⟨_,_,_,_,a1,a2⟩:=V1 hd hl gp hs (List.mem_range.1 hi);simp only[AwS,show ¬(1:Nat)=0 by omega,Axo,a1,a2];rfl
    have hbs:∀B∈Xm (sd d l) l.length,Ce d B:=λB hB=>by
     obtain⟨i,hi,h |h⟩:=XT.1 hB
     ·rw[h];exact H.qo i 0 hi
     ·rw[h];exact H.qo i 1 hi
    have es:(Xm (sd d l) l.length).map Uq=Re d l:=nc _ _ _;have hln:=gp.1;rw[ef,vK hd hbs (by rw[Qr];omega),Av9,es];have tP:∀x∈(Xm (sd d l) l.length).flatMap AY,Sr d x:=λx hx=>by
     obtain⟨B,hB,hx⟩:=List.mem_flatMap.1 hx;exact(Zc (hbs B hB) hx).1
    obtain⟨i1,i2,i3⟩:=fG _ (C0 c) tP;obtain⟨r4,e4,f,rfl,j1,j2,j3⟩:=pW H (((Xm (sd d l) l.length).flatMap AY).foldl UH (C0 c));simp only[e4,Av9,AwT,Awo];rw[Z6 hd,Av9];have eo:Ba d f=Ba d (eQ d f):=cz λv p hv hp h1=>by simp[eQ,hv,hp,h1]
    have Ac9:∀{i:Nat} {x:Sg},i<l.length->x∈AY (b1 d l i)++AY (b2 d l i)->x∈(Xm (sd d l) l.length).flatMap AY:=λ{i x} hi hx=>by
     rcases List.mem_append.1 hx with hx |hx
     ·exact List.mem_flatMap.2 ⟨_,XT.2 ⟨i,hi,.inl rfl⟩,hx⟩
     ·exact List.mem_flatMap.2 ⟨_,XT.2 ⟨i,hi,.inr rfl⟩,hx⟩
    refine As.mk (.inr ⟨hd,jg,gp,hs,eQ d f,by rw[eo],⟨λv p h=>Lr.2 ⟨jr hd jg h,j1 v p (i1 v p h)⟩,λv p h=>(Lr.1 h).1,λi hi=>⟨λx hx=>?_,Ac4 H j2 hi⟩,λh hh DT=>j3 h hh (i3 h (λx hx=>?_) λu q hq=>DT u q (Lr.1 hq).2)⟩⟩)
    ·have:=i2 x (Ac9 hi hx);have TK:LL (eQ d (((Xm (sd d l) l.length).flatMap AY).foldl UH (C0 c))) (eQ d f):=λu q hq=>Lr.2 ⟨(Lr.1 hq).1,j1 u q (Lr.1 hq).2⟩;cases x with
     |co b=>trivial
     |va v a n=>exact⟨this.1.mono TK,this.2.mono TK⟩
    ·obtain⟨B,hB,hx⟩:=List.mem_flatMap.1 hx;obtain⟨i,hi,e |e⟩:=XT.1 hB
     ·exact(hh i hi).1 x (AwH _ (by rw[e]at hx;exact hx))
     ·exact(hh i hi).1 x (AwI _ (by rw[e]at hx;exact hx))
   ·simp only[f1,Bool.not_false,Awp,Av9];exact As.mk (.inl ⟨rfl,λh=>hs h.2.2.2⟩)
theorem Yd{d:Ayg}{l:Ayj}{c:Aym}(hc:Rj c)(hl:∀x∈l,QM x):As (Hd d l (c,())) λr=>Dz d l (c,())=some r /\
    ((r=(false,[])/\¬(AZ d/\Iw d c/\Qe d l/\Hz d l))\/(AZ d/\Iw d c/\Qe d l/\Hz d l/\∃f,r=(true,Ba d f)/\Ua d l c f)):=by
 obtain⟨r1,e1,q1⟩:=dR (d:=d) hc hl;obtain⟨r2,e2,q2⟩:=dc (d:=d) hc hl;refine As.of e1 ⟨?_,q1⟩;rw[e2];rcases q1 with ⟨rfl,n1⟩|⟨a1,a2,a3,a4,f,rfl,hf⟩<;>rcases q2 with ⟨rfl,n2⟩|⟨b1,b2,b3,b4,g,rfl,hg⟩
 ·rfl
 ·exact(n1 ⟨b1,b2,b3,b4⟩).elim
 ·exact(n2 ⟨a1,a2,a3,a4⟩).elim
 ·rw[hf.unique hg]
theorem U2{R:Int->Int->Prop}(hR:∀a b,R a b->a<b):∀{l m:Ayd},l.Pairwise R->m.Pairwise R->(∀x,x∈l↔x∈m)->l=m
 |[],[],_,_,_=>rfl
 |[],y::m,_,_,h=>by have:=(h y).2 AwE;cases this
 |x::l,[],_,_,h=>by have:=(h x).1 AwE;cases this
 |x::l,y::m,hl,hm,h=>by
  rw[List.pairwise_cons]at hl hm;have e:x=y:=by
   rcases List.mem_cons.1 ((h x).1 AwE)with e |e
   ·exact e
   ·rcases List.mem_cons.1 ((h y).2 AwE)with e' |e'
    ·exact e'.symm
    ·have:=hR _ _ (hm.1 x e);have:=hR _ _ (hl.1 y e');omega
  subst e;congr 1;refine U2 hR hl.2 hm.2 λz=>⟨λhz=>?_,λhz=>?_⟩
  ·rcases List.mem_cons.1 ((h z).1 (AwB _ hz))with e |e
   ·have:=hR _ _ (hl.1 z hz);omega
   ·exact e
  ·rcases List.mem_cons.1 ((h z).2 (AwB _ hz))with e |e
   ·have:=hR _ _ (hm.1 z hz);omega
   ·exact e
theorem PN(w:Nat)(f:Nat->Bool):(AL w f).Pairwise (·<·):=by
 unfold AL;rw[List.pairwise_map];refine(List.pairwise_lt_range (n:=w)).filter _ |>.imp λ{a b} h=>?_;show(a:Int)<(b:Int);omega
theorem Og{w:Nat}{f:Nat->Bool}{x:Int}:x∈AL w f↔∃p:Nat,x=(p:Int)/\1<=p/\p<w/\f p=true:=by
 unfold AL;rw[List.mem_map];constructor
 ·rintro⟨p,hp,rfl⟩
  rw[List.mem_filter]at hp;obtain⟨h1,h2⟩:=hp;simp at h1 h2;exact⟨p,rfl,h2.1,h1,h2.2⟩
 ·rintro⟨p,rfl,h1,h2,h3⟩
  exact⟨p,List.mem_filter.2 ⟨List.mem_range.2 h2,by simp[h1,h3]⟩,rfl⟩
theorem kL{l:Ayd}{w:Int}(h:Uy l w):l.Pairwise (·<·):=by
 rw[List.pairwise_iff_getElem];intro i j hi hj yD;have:=kK h yD hj;have e1:P8 l i=l[i]:=by simp[P8,List.getD,hi]
 have e2:P8 l j=l[j]:=by simp[P8,List.getD,hj]
 omega
theorem pA{d:Ayg}{c:Aym}(hd:AZ d)(hc:Iw d c){v:Nat}(hv:v<d.length):AL (W d v) (C0 c v)=FR c v:=by
 obtain⟨e0,qm,qn⟩:=T3 hd hv;refine U2 (λ_ _ h=>h) (PN _ _) (kL (hc.2 v hv)) λx=>?_;rw[Og];constructor
 ·rintro⟨p,rfl,_,_,h⟩
  simpa [C0]using h
 ·intro h;have:=dJ (hc.2 v hv) h;refine⟨x.toNat,by omega,by omega,by omega,?_⟩;simp only[C0];rw[show((x.toNat:Nat):Int)=x by omega];simpa using h
end Go.Proofs.X
namespace Go.Proofs.X
open Go Go.Va
set_option maxRecDepth 100000
def T6(c:Aym)(k:Nat):Nat:=((List.range k).map λv=>(FR c v).length).sum
theorem TJ(c:Aym)(k:Nat):T6 c (k+1)=T6 c k+(FR c k).length:=by
 unfold T6;rw[Axq,AwY];simp
theorem l4{c:Aym}(hb:∀v,(FR c v).length<=1048576):∀k,T6 c k<=1048576*k
 |0=>by simp[T6]
 |k+1=>by rw[TJ];have:=l4 hb k;have:=hb k;omega
theorem O9{d:Ayg}{f:Nat->Nat->Bool}{v:Nat}(hv:v<d.length):FR (Ba d f) v=AL (W d v) (f v):=by exact Rz hv
theorem SF{d:Ayg}(hd:AZ d)(f:Nat->Nat->Bool):Iw d (Ba d f)/\Rj (Ba d f):=by
 have aP:=hd.1;refine⟨⟨by simp[Ba],λv hv=>?_⟩,by simp[Ba];omega,λx hx=>?_⟩
 ·rw[O9 hv];obtain⟨e0,qm,qn⟩:=T3 hd hv;intro i hi;have hm:P8 (AL (W d v) (f v)) i∈AL (W d v) (f v):=by exact AG hi
  obtain⟨p,e,h1,h2,_⟩:=Og.1 hm;refine⟨by omega,by omega,λh0=>?_⟩;have:=(List.pairwise_iff_getElem.1 (PN _ _)) (i-1) i (by omega) hi (by omega);have e1:P8 (AL (W d v) (f v)) (i-1)=(AL (W d v) (f v))[i-1]'(by omega):=by simp[P8,show i-1<(AL (W d v) (f v)).length by omega]
  have e2:P8 (AL (W d v) (f v)) i=(AL _ _)[i]:=by simp[P8,hi]
  rw[e1,e2];exact this
 ·obtain⟨v,hv,rfl⟩:=List.mem_map.1 hx;have h1:=S6 (W d v) (f v);have:=(T3 hd (List.mem_range.1 hv)).2.2;omega
def Aor(v:Nat):Int->Ayd->AyZ BN.V
 |_,[]=>[]
 |low,p::r=>((v:Int),low,p-low,())::Aor v p r
def Ap0(d:Ayg)(c:Aym)(v:Nat):Ayd:=FR c v++[dw d v]
def SL(d:Ayg)(c:Aym)(n:Nat):AyZ BN.V:=(List.range n).flatMap λv=>Aor v 0 (Ap0 d c v)
section
variable {d:Ayg} {c:Aym}
end
end Go.Proofs.X
namespace Go.Proofs.X
open Go Go.Va
set_option maxRecDepth 100000
def slc(L:AyZ BN.V)(i:Nat):BN.V:=L.getD i BN.zero
def Arz(L:AyZ BN.V)(i:Nat):Ax5:=((slc L i).1,(slc L i).2.1,())
def ui(L:AyZ BN.V)(k:Ax5):Nat->Ay0 Nat
 |0=>none
 |n+1=>bif Bq Aa k (Arz L n)then some n else ui L k n
section
variable {d:Ayg} {c:Aym}
end
end Go.Proofs.X
namespace Go.Proofs.X
open Go Go.Va
set_option maxRecDepth 100000
theorem zJ{xs:Ayd}(hs:xs.Pairwise (·<=·)):∀m,m<=xs.length->(Lib.compactUpTo xs.toArray m).Pairwise (·<·)/\(∀x,x∈Lib.compactUpTo xs.toArray m↔∃j,j<m/\x=xs.toArray[j]!):=by
 have Q3:∀j,j<xs.length->xs.toArray[j]! =P8 xs j:=λj hj=>by simp[P8,hj]
 have TK:∀i j,i<j->j<xs.length->P8 xs i<=P8 xs j:=λi j yD hj=>by
  have:=List.pairwise_iff_getElem.1 hs i j (by omega) hj yD
  grind
 intro m;induction m with
 |zero=>simp[Lib.compactUpTo]
 |succ m ih =>
  intro hm;obtain⟨h1,h2⟩:=ih (by omega);rw[Lib.compactUpTo_succ];cases hk:Lib.keeps xs.toArray m with
  |true =>
   simp only[AwS];refine⟨List.pairwise_append.2 ⟨h1,by simp,λx hx y hy=>?_⟩,λx=>?_⟩
   ·rw[AwA]at hy;subst hy;obtain⟨j,hj,rfl⟩:=(h2 x).1 hx;have YC:m=0\/xs.toArray[m]!≠xs.toArray[m-1]!:=by simpa [Lib.keeps]using hk
    rcases YC with YC |YC
    ·omega
    ·rw[Q3 m (by omega),Q3 (m-1) (by omega)]at YC;rw[Q3 j (by omega),Q3 m (by omega)];have a1:=TK (m-1) m (by omega) (by omega);have a2:P8 xs j<=P8 xs (m-1):=by
      rcases Awk j (m-1)with h |h
      ·grind
      grind
     omega
   grind
  |false =>
   simp only[AwX,Axo,AwO];refine⟨h1,λx=>?_⟩;rw[h2];have YC:¬(m=0\/xs.toArray[m]!≠xs.toArray[m-1]!):=by simpa [Lib.keeps]using hk
   grind
theorem iT(xs:Ayd):(P3 (Ur xs)).Pairwise (·<·)/\∀x,x∈P3 (Ur xs)↔x∈xs:=by
 have hs:(Ur xs).Pairwise (·<=·):=by
  have:=List.pairwise_mergeSort (le:=leI) (λa b c h1 h2=>by simp[leI]at *;omega) (λa b=>by simp[leI];omega) xs;exact this.imp λ{a b} h=>by simpa [leI]using h
 obtain⟨h1,h2⟩:=zJ hs _ (Awf _);refine⟨h1,λx=>?_⟩;unfold P3 Lib.compact;rw[h2];have hm:∀y,y∈Ur xs↔y∈xs:=λy=>(List.mergeSort_perm xs leI).mem_iff;rw[<-hm];constructor
 ·grind
 ·intro hx;obtain⟨j,hj,rfl⟩:=AxC hx;exact⟨j,hj,by grind⟩
section
variable {d:Ayg} {c:Aym}
end
end Go.Proofs.X
namespace Go.Proofs.X
open Go Go.Va
set_option maxRecDepth 100000
def isP(B1 B2:AyZ Bt)(h:Nat->Nat->Bool)(p:Nat):Bool:=SD B1 h p||SD B2 h p
structure Gap (B1 B2:List Bt) (h:Nat->Nat->Bool) (a b:Nat):Prop where
 lt:a<b
 le:b<=B1.length
 no:∀q,a<q->q<b->isP B1 B2 h q=false
 fr:a=0\/isP B1 B2 h a=true
 to:b=B1.length\/isP B1 B2 h b=true
def coB:Bt->Bool
 |.co b=>b
 |.va _ _=>false
section
variable {d:Ayg}
variable {c:Aym}
structure AtJ (d:Ayg) (c:Aym) (B:List Bt) (a b i k:Nat):Prop where
 hi:i<(AY B).length
 ha:a=BO ((AY B).take i)+k
 hk:k+(b-a)<=((AY B).getD i (.co [])).w
 hs:Sr d ((AY B).getD i (.co []))
 lt:a<b
 le:b<=B.length
 no:∀q,a<q->q<b->fst B q=false
 va:∀v l n,(AY B).getD i (.co [])=.va v l n->∃m,ui (SL d c d.length) (nk v (l+k)) (SL d c d.length).length=some m/\m<(SL d c d.length).length/\(slc (SL d c d.length) m).2.2.1=((b-a:Nat):Int)
end
end Go.Proofs.X
namespace Go.Proofs.X
open Go Go.Va
set_option maxRecDepth 100000
section
variable {B1 B2:AyZ Bt} {h:Nat->Nat->Bool}
end
section
variable {d:Ayg} {c:Aym} {B1 B2:AyZ Bt}
end
end Go.Proofs.X
namespace Go.Proofs.X
open Go Go.Va
set_option maxRecDepth 100000
theorem af{d:Ayg}{f:Nat->Nat->Bool}(ht:∀v p,f v p=true->v<d.length/\1<=p/\p<W d v):C0 (Ba d f)=f:=by
 funext v p
 rw[Bool.eq_iff_iff];unfold C0;by_cases hv:v<d.length
 ·rw[O9 hv,List.contains_iff_mem,Og]
  grind
 ·constructor
  ·intro h;have:FR (Ba d f) v=[]:=by unfold FR Ba;simp[hv]
   rw[this]at h;simp at h
  ·grind
theorem Ana{d:Ayg}{f g:Nat->Nat->Bool}(h:LL f g):T6 (Ba d f) d.length<=T6 (Ba d g) d.length:=by
 have:∀n,n<=d.length->T6 (Ba d f) n<=T6 (Ba d g) n:=λn=>by
  induction n with
  |zero=>exact λ_=>Awf _
  |succ n ih =>
   intro hn;rw[TJ,TJ,O9 (by omega),O9 (by omega)];have hlen:∀(g:Nat->Nat->Bool),(AL (W d n) (g n)).length=(List.range (W d n)).countP λq=>decide (1<=q)&&g n q:=λg=>by unfold AL;rw[Awl,List.countP_eq_length_filter]
   have:=ih (by omega);have:(AL (W d n) (f n)).length<=(AL (W d n) (g n)).length:=by
    rw[hlen,hlen];refine List.countP_mono_left λq _ hq=>?_;rw[Awg]at hq⊢;exact⟨hq.1,h n q hq.2⟩
   omega
 exact this d.length (Awf _)
def S3(l:Ayj)(i:Nat):Ayj:=l.take i++l.drop (i+1)
theorem VL{l:Ayj}{i:Nat}(hi:i<l.length):(S3 l i).length=l.length-1:=by
 unfold S3;rw[Awd,Awu,AwJ];omega
theorem XO{l:Ayj}{i:Nat}(hi:i<l.length)(j:Nat):li (S3 l i) j=li l (if j<i then j else j+1):=by
 unfold li S3;rw[List.getD_eq_getElem?_getD,List.getD_eq_getElem?_getD];congr 1;rw[Awz,Awu];split
 ·rename_i h;rw[Mq,Aw9,Mq]
 ·rename_i h;rw[OB,List.getElem?_drop];congr 1;omega
theorem oZ{d:Ayg}{l:Ayj}{i:Nat}(hi:i<l.length)(h:Qe d l):Qe d (S3 l i):=by
 have hl:=h.1;have up:∀{a b:Nat},a<b->b<l.length->dm l a<dm l b:=λ{a b} hab hb=>by
  induction b with
  |zero=>omega
  |succ b ih =>
   have h1:=(h.2 (b+1) hb).2.1 (by omega);rw[AwM]at h1;by_cases e:a=b
   ·subst e;exact h1
   ·have:=ih (by omega) (by omega);omega
 refine⟨by rw[VL hi];omega,λj hj=>?_⟩;rw[VL hi]at hj;unfold Vf dm lS lT;rw[XO hi,XO hi];obtain⟨a1,a2,a3⟩:=h.2 (if j<i then j else j+1) (by split<;>omega);exact⟨a1,λh0=>up (by split<;>split<;>omega) (by split<;>omega),a3⟩
theorem kp{d:Ayg}{l:Ayj}{i:Nat}(hi:i<l.length)(h:Hz d l):Hz d (S3 l i):=λj hj=>by
 rw[VL hi]at hj;have:=h (if j<i then j else j+1) (by split<;>omega);unfold b6 lS lT at this⊢;rw[XO hi];exact this
theorem gL{d:Ayg}{l:Ayj}{i:Nat}{f:Nat->Nat->Bool}(hi:i<l.length)(h:Mh d l f):Mh d (S3 l i) f:=λj hj=>by
 rw[VL hi]at hj;have:=h (if j<i then j else j+1) (by split<;>omega);unfold b1 b2 lS lT at this⊢;rw[XO hi];exact this
theorem uo{l:Ayj}{i:Nat}{x:Ax9}(h:x∈S3 l i):x∈l:=by
 rcases List.mem_append.1 h with h |h
 ·exact Aw8 h
 ·exact AxA h
theorem ko{d:Ayg}{l:Ayj}{c:Aym}{i:Nat}{f g:Nat->Nat->Bool}(hi:i<l.length)(hf:Ua d l c f)(hg:Ua d (S3 l i) c g):T6 (Ba d g) d.length<=T6 (Ba d f) d.length :=
 Ana (hg.min f (gL hi hf.cl) hf.le)
theorem km{d:Ayg}{l:Ayj}{f:Nat->Nat->Bool}(ht:∀v p,f v p=true->v<d.length/\1<=p/\p<W d v)(U7:Mh d l f):Ua d l (Ba d f) f:=⟨by rw[af ht];exact λ_ _ h=>h,ht,U7,λh _ h2=>by rw[af ht]at h2;exact h2⟩
end Go.Proofs.X
namespace Go.Proofs.X
open Go Go.Va
set_option maxRecDepth 100000
structure Rd (s:Ayd) (p:Int):Prop where
 p0:0<=p
 p1:p<=(s.length:Int)
 len:s.length<=1048576
 by_:∀x∈s,0<=x/\x<256
section
variable {s:Ayd} {p:Int}
theorem dx(a:Int)(h:Rd s p):∃v p',DK a s p=some (v,s,p')/\(0<=v/\v<256)/\Rd s p':=by
 obtain⟨h1,h2,h3,h4⟩:=h;unfold DK;by_cases hp:p>=(s.length:Int)
 ·rw[Awe hp,Awp];exact⟨0,p,rfl,by omega,h1,h2,h3,h4⟩
 ·rw[Awc hp,Awo];have e1:wI (p+1)=p+1:=AW;have e2:wI (p+1-1)=p:=by rw[show p+1-1=p by omega];exact AW
  rw[e1,e2,Mq];have hx:=h4 _ (AG (z :=AyP.zero) (show p.toNat<s.length by omega));rw[AW];exact⟨_,_,rfl,hx,by omega,by omega,h3,h4⟩
theorem d9{x b:Int}(h0:0<=x)(hb:0<b):0<=Int.tmod x b/\Int.tmod x b<b/\Int.tmod x b<=x:=by
 rw[AxM h0];exact⟨Int.emod_nonneg _ (by omega),Int.emod_lt_of_pos _ hb,by have:=Int.emod_add_mul_ediv x b;have:=Int.ediv_nonneg h0 (Int.le_of_lt hb);have:=Int.mul_nonneg (Int.le_of_lt hb) this;omega⟩
theorem BH(a b:Int)(h:Rd s p):∃v p',An a b s p=some (v,s,p')/\(0<=v/\v<65536/\(1<=b->v<b))/\Rd s p':=by
 unfold An;by_cases h1:b<=1
 ·rw[Awe h1,Awp];exact⟨0,p,rfl,⟨by omega,by omega,λ_=>by omega⟩,h⟩
 ·rw[Awc h1,Awo];obtain⟨v,p',e,hv,h'⟩:=dx a h;by_cases h2:b<=256
  ·rw[Awe h2,Awp,e,Av9,Aws (show ¬b=0 by omega)];obtain⟨t1,t2,t3⟩:=d9 hv.1 (show 0<b by omega);exact⟨_,p',rfl,⟨t1,by simp only;omega,λ_=>t2⟩,h'⟩
  ·obtain⟨v',p'',e',cY,h''⟩:=dx a h';rw[Awc h2,Awo,e,Av9,e',Av9,Aws (show ¬b=0 by omega)];simp only;rw[AW (x:=v*256),AW (x:=v*256+v')];obtain⟨t1,t2,t3⟩:=d9 (x:=v*256+v') (by omega) (show 0<b by omega);exact⟨_,p'',rfl,⟨t1,by omega,λ_=>t2⟩,h''⟩
theorem O2(a b:Int)(h:Rd s p):∃v p',Bd a b s p=some (v,s,p')/\Rd s p':=by
 obtain⟨v,p',e,_,h'⟩:=BH a b h;unfold Bd;rw[e,Av9];exact⟨_,p',rfl,h'⟩
theorem Aow{v:Int}(h0:0<=v)(h1:v<7):1<=([63,64,65,127,128,129,200]:Ayd).getD v.toNat AyN.zero/\([63,64,65,127,128,129,200]:Ayd).getD v.toNat AyN.zero<=200:=by
 have:v=0\/v=1\/v=2\/v=3\/v=4\/v=5\/v=6:=by omega
 rcases this with rfl |rfl |rfl |rfl |rfl |rfl |rfl<;>decide
theorem zL(a:Int)(h:Rd s p):∃v p',JS a s p=some (v,s,p')/\(1<=v/\v<=200)/\Rd s p':=by
 obtain⟨v,p1,e,_,h1⟩:=BH a 10 h;unfold JS;rw[e,Av9];simp only;cases v==0 with
 |true =>
  obtain⟨v,p2,e,⟨v1,_,v2⟩,h2⟩:=BH a 7 h1;have v2:=v2 (by omega);rw[Awp,e,Av9,Awr ⟨v1,v2⟩];exact⟨_,p2,rfl,Aow v1 v2,h2⟩
 |false =>
  rw[Awo];cases v==1 with
  |true =>
   obtain⟨v,p2,e,⟨v1,_,v2⟩,h2⟩:=BH a 40 h1;have v2:=v2 (by omega);rw[Awp,e,Av9];simp only;rw[AW];exact⟨_,p2,rfl,by omega,h2⟩
  |false =>
   obtain⟨v,p2,e,⟨v1,_,v2⟩,h2⟩:=BH a 12 h1;have v2:=v2 (by omega);rw[Awo,e,Av9];simp only;rw[AW];exact⟨_,p2,rfl,by omega,h2⟩
theorem nj(a:Int)(h:Rd s p):∃v p',Hk a s p=some (v,s,p')/\Md v/\Rd s p':=by
 obtain⟨r,e,Vb,mq,hr3⟩:As (I6 a 0 0 s p) λr=>r.2.1=s/\Md r.1/\Rd s r.2.2:=by
  unfold I6;refine BJ (λm (x:Int×Int×Ayd×Int)=>∃k:Nat,x.2.1=(k:Int)/\k<=8/\m=8-k/\Md x.1/\x.2.2.1=s/\Rd s x.2.2.2) (λm x hI=>?_) 8 _ ⟨0,rfl,by omega,rfl,⟨by show(0:Int)<=0;omega,by show(0:Int)<18446744073709551616;omega⟩,rfl,h⟩;obtain⟨c,d,e,g⟩:=x;obtain⟨k,rfl,hk,rfl,hc,rfl,hg⟩:=hI;unfold G1 K0;simp only;by_cases h8:k<8
  ·obtain⟨v,p',ev,hv,hp⟩:=dx a hg;rw[Jy,Awp,ev,Av9];simp only;rw[Qu (x:=v) (by omega) (by omega),A3 (n:=k+1)];exact As.mk ⟨8-(k+1),by omega,k+1,rfl,by omega,rfl,WZ (V7 hc (n:=8) rfl (by omega)) ⟨by omega,by omega⟩,rfl,hp⟩
  ·rw[GL,Awo];exact As.mk ⟨rfl,hc,hg⟩
 obtain⟨r1,r2,r3⟩:=r;simp only at Vb mq hr3;subst Vb;unfold Hk;rw[e];exact⟨_,_,rfl,mq,hr3⟩
theorem XQ(a:Int){b c:Int}(hb:-1000000000000<=b)(hc:c<=1000000000000)(hbc:b<=c)(h:Rd s p):∃v p',DJ a b c s p=some (v,s,p')/\(b<=v/\v<=c)/\Rd s p':=by
 obtain⟨v,p1,e,_,h1⟩:=BH a 8 h;unfold DJ;rw[e,Av9];simp only;cases v==0 with
 |true=>exact⟨_,_,rfl,by omega,h1⟩
 |false =>
  rw[Awo];cases v==1 with
  |true=>exact⟨_,_,rfl,by omega,h1⟩
  |false =>
   obtain⟨w,p2,e,hw,h2⟩:=nj a h1;rw[Awo,GL,Awo,e,Av9];simp only;rw[AW (x:=c-b),AW (x:=c-b+1),Qu (x:=c-b+1) (by omega) (by omega),OB];have hs:=V8 hw (s:=1) (n:=1) rfl (by omega);obtain⟨t1,t2,t3⟩:=d9 (x:=Ju .u64 w 1) hs.1 (show 0<c-b+1 by omega);generalize Int.tmod (Ju .u64 w 1) (c-b+1)=t at *;rw[AW (x:=t),AW (x:=b+t)];exact⟨_,_,rfl,by omega,h2⟩
theorem UU(a:Int){b c:Int}(hb:-1000000000000<=b)(hc:c<=1000000000000)(hbc:b<=c)(h:Rd s p):∃v p',Av a b c s p=some (v,s,p')/\Rd s p':=by
 obtain⟨v,p1,e,h1⟩:=O2 a 24 h;unfold Av;rw[e,Av9];simp only;cases v with
 |true =>
  obtain⟨v,p2,e,⟨v1,_,v2⟩,h2⟩:=BH a 4 h1;rw[Awp,e,Av9,Awr ⟨v1,v2 (by omega)⟩];exact⟨_,_,rfl,h2⟩
 |false =>
  obtain⟨v,p2,e,_,h2⟩:=XQ a hb hc hbc h1;rw[Awo,e,Av9];exact⟨_,_,rfl,h2⟩
structure DW (d:Ayg):Prop where
 n1:1<=d.length
 n2:d.length<=6
 w:∀x∈d,1<=x.2.1/\x.2.1<=200
theorem sD(a:Int)(h:Rd s p):∃d p',Ie a s p=some (d,s,p')/\DW d/\Rd s p':=by
 unfold Ie;generalize hm:(if wI (2+wI (Int.tdiv (s.length:Int) 10))<6 then wI (2+wI (Int.tdiv (s.length:Int) 10))else 6)=m;have hm6:m<=6:=by subst hm;split<;>omega
 obtain⟨u,p1,e,⟨u1,u2,u3⟩,h1⟩:=BH a m h;have hu:u<=5:=by
  by_cases QA:1<=m
  ·have:=u3 QA;omega
  ·unfold An at e;rw[Awe (show m<=1 by omega),Awp]at e;injection e with e;injection e with e _;omega
 rw[e,Av9];simp only;rw[AW (x:=1+u)];obtain⟨r,er,r1,r2,r3⟩:As (HO a (1+u) s p1 []) λr=>r.2.1=s/\DW r.1/\Rd s r.2.2:=by
  unfold HO;refine BJ (λk (x:Int×Ayd×Int×Ayg)=>x.1=(k:Int)/\x.2.1=s/\Rd s x.2.2.1/\(k+x.2.2.2.length=(1+u).toNat)/\∀y∈x.2.2.2,1<=y.2.1/\y.2.1<=200) (λk x hI=>?_) (1+u).toNat _ ⟨by show 1+u=(((1+u).toNat:Nat):Int);omega,rfl,h1,by simp,λy hy=>by cases hy⟩;obtain⟨c,n,o,d⟩:=x;obtain⟨e1,e2,ho,hn,hw⟩:=hI;simp only at e1 e2 ho hn hw;subst e1;subst e2;unfold Gh JQ;simp only;by_cases hk:0<k
  ·obtain⟨q,p2,e,⟨q1,_,q2⟩,h2⟩:=BH a 8 ho;have q2:=q2 (by omega);rw[Jy,Awp,e,Av9];simp only;rw[AW (x:=1+q)];obtain⟨z,ez,z1,z2,z3⟩:∃z,Fz a (k:Int) d (1+q) n p2=some z/\z.2.1=n/\(1<=z.1/\z.1<=200)/\Rd n z.2.2:=by
    unfold Fz;obtain⟨v,p3,e,h3⟩:=O2 a 6 h2;rw[e,Av9];simp only;cases v with
    |true =>
     obtain⟨v,p4,e,hv,h4⟩:=zL a h3;rw[Awp,e,Av9];exact⟨_,rfl,rfl,hv,h4⟩
    |false=>exact⟨_,rfl,rfl,by simp only;omega,h3⟩
   obtain⟨z0,zs,zp⟩:=z;simp only at z1 z2 z3;subst z1;rw[ez,Av9,Awr (by rw[Awt];omega),AW (x:=(k:Int)-1)];refine As.mk ⟨k-1,by omega,by show(k:Int)-1=((k-1:Nat):Int);omega,rfl,z3,by simp only[Awd,Awt];omega,λy hy=>?_⟩;rcases List.mem_append.1 hy with hy |hy
   ·exact hw y hy
   ·rw[AwA]at hy;subst hy;exact z2
  ·rw[GL,Awo];exact As.mk ⟨rfl,⟨by simp only;omega,by simp only;omega,hw⟩,ho⟩
 obtain⟨r1',r2',r3'⟩:=r;simp only at r1 r2 r3;subst r1;rw[er];exact⟨_,_,rfl,r2,r3⟩
theorem zq(a:Int){d b:Int}(hd:0<d)(hb:1<=b)(fY:b<=100)(h:Rd s p):∃v p',JR a d b s p=some (v,s,p')/\(1<=v/\v<=b)/\Rd s p':=by
 have hlen:=h.len;have ht:0<=Int.tdiv (s.length:Int) d/\Int.tdiv (s.length:Int) d<=1048576:=by
  rw[AxL (by omega)];exact⟨Int.ediv_nonneg (by omega) (by omega),Int.le_trans (Int.ediv_le_self _ (by omega)) (by omega)⟩
 unfold JR Np;rw[OB,AW (x:=Int.tdiv (s.length:Int) d),AW (x:=1+Int.tdiv (s.length:Int) d)];generalize hm:(bif decide (1+Int.tdiv (s.length:Int) d>b)then b else 1+Int.tdiv (s.length:Int) d)=m;have QA:1<=m/\m<=b:=by
  subst hm;by_cases hx:1+Int.tdiv (s.length:Int) d>b
  ·rw[Awe hx,Awp];omega
  ·rw[Awc hx,Awo];omega
 obtain⟨v,p1,e,⟨v1,_,v2⟩,h1⟩:=BH a m h;have v2:=v2 QA.1;rw[e,Av9];simp only;rw[AW];exact⟨_,_,rfl,by omega,h1⟩
theorem yw{g:Ayd}(hg:g.length<=8192)(hb:∀x∈g,0<=x/\x<256):∃w b ws,Hv g=some (w,b,ws)/\Cq ws/\ws.length<=64:=by
 unfold Hv Np;cases hq:(decide ((g.length:Int)<1)||decide ((g.length:Int)>4096))with
 |true=>exact⟨0,false,[],rfl,λx hx=>(by cases hx),AwW _⟩
 |false =>
  rw[Axf,AwV,AwV]at hq;have e1:wI (Int.tdiv (wI ((g.length:Int)+63)) 64)=(((g.length+63)/64:Nat):Int):=by
   rw[AW (x:=(g.length:Int)+63),AxL (by omega)];exact AW
  rw[Awo,e1,Awr ⟨rfl,by omega,by omega,by omega,by omega⟩,Awa];obtain⟨r,er,Vb,mq⟩:As (JL g (g.length:Int) 0 (List.replicate ((g.length+63)/64) 0)) λr=>Cq r/\r.length<=64:=by
   unfold JL;refine BJ (λm (x:Int×Ayd)=>∃k:Nat,x.1=(k:Int)/\k<=g.length/\m=g.length-k/\Cq x.2/\x.2.length=(g.length+63)/64) (λm x hI=>?_) g.length _ ⟨0,rfl,AwW _,rfl,λx hx=>by rw[AxQ hx];exact⟨by omega,by omega⟩,AwG⟩;obtain⟨x1,x2⟩:=x;obtain⟨k,e1,hk,rfl,hw,hl⟩:=hI;simp only at e1 hw hl;subst e1;unfold EV Hg;simp only;rcases Awk k g.length with h |h
   ·have e2:wI (Int.tdiv (k:Int) 64)=((k/64:Nat):Int):=by
      rw[AxL (by omega)];exact AW
    have e3:IntKind.u64.wrap (Int.tmod (k:Int) 64)=((k%64:Nat):Int):=by
     rw[AxM (by omega)];exact Qu (by omega) (by omega)
    have hx:=hb _ (AG (z :=AyP.zero) h);rw[Hq h,Awp,e2,e3,Awr (BS (by omega)),Awr (BS h),OB,Awr (BS (by omega)),Awa,Awa,A3 (n:=k+1)];refine As.mk ⟨g.length-(k+1),by omega,k+1,rfl,h,rfl,hw.set (WZ (hw.getD _) (V7 ?_ rfl (by omega))),by rw[Awi];exact hl⟩;rw[Qu (by omega) (by omega)];exact⟨hx.1,by omega⟩
   ·have:k=g.length:=by omega
    subst this;rw[IB,Awo];exact As.mk ⟨hw,by rw[hl];omega⟩
  rw[er];exact⟨_,_,_,rfl,Vb,mq⟩
theorem zH(x:Int):0<=IntKind.u8.wrap x/\IntKind.u8.wrap x<256:=by
 simp only[wI,IntKind.wrap,IntKind.bits,IntKind.signed];simp;omega
theorem xc(k:Int){a:Int}(h0:0<=a)(h1:a<=4096)(h:Rd s p):∃w p' ws,JN k a s p=some (w,s,p',ws)/\Cq ws/\ws.length<=64/\Rd s p':=by
 obtain⟨x,p1,e1,hx,r1⟩:=nj k h;obtain⟨m,p2,e2,hm,r2⟩:=BH k 4 r1;unfold JN;rw[e1,Av9];simp only;rw[e2,Av9];simp only;obtain⟨g,eg,hg1,hg2⟩:As (IY a x m s p2 0 []) λg=>g.length<=8192/\∀y∈g,0<=y/\y<256:=by
  unfold IY;refine BJ (λq (z:Int×Ayd)=>∃i:Nat,z.1=(i:Int)/\(i:Int)<=a/\q=a.toNat-i/\z.2.length=i/\∀y∈z.2,0<=y/\y<256) (λq z hI=>?_) a.toNat _ ⟨0,rfl,h0,rfl,rfl,λy hy=>by cases hy⟩;obtain⟨z1,z2⟩:=z;obtain⟨i,ei,hi,rfl,hl,hy⟩:=hI;simp only at ei hl hy;subst ei;unfold GY KX Np;simp only;by_cases Cw:(i:Int)<a
  ·have e3:IntKind.u64.wrap (Int.tmod (wI ((i:Int)*7)) 64)=((i*7%64:Nat):Int):=by
     rw[AW (x:=(i:Int)*7),AxM (by omega)];exact Qu (by omega) (by omega)
   rw[Awe Cw,Awp,e3,OB,Awr (by rw[Awt];omega),A3 (n:=i+1)];refine As.mk ⟨a.toNat-(i+1),by omega,i+1,rfl,by omega,rfl,by simp only[Awd,Awt];omega,λy QB=>?_⟩;rcases List.mem_append.1 QB with QB |QB
   ·exact hy y QB
   ·rw[AwA]at QB;subst QB;cases m==1 with
    |true=>exact⟨by show(0:Int)<=1;omega,by show(1:Int)<256;omega⟩
    |false =>
     rw[Awo];cases m==0 with
     |true=>exact⟨by show(0:Int)<=0;omega,by show(0:Int)<256;omega⟩
     |false =>
      rw[Awo];exact zH _
  ·rw[Awc Cw,Awo];exact As.mk ⟨by omega,hy⟩
 rw[eg,Av9];obtain⟨w,b,ws,ef,f1,f2⟩:=yw hg1 hg2;rw[ef];exact⟨_,_,_,rfl,f1,f2,r2⟩
end
end Go.Proofs.X
namespace Go.Proofs.X
open Go Go.Va
set_option maxRecDepth 100000
def wK(n:Ax7):Prop:=(Ap n).length<=3/\(YZ n).length<=64/\Cq (YZ n)
theorem wK.Aom{n:Ax7}(h:wK n):QO n:=⟨by have:=h.1;omega,by have:=h.2.1;omega,h.2.2⟩
theorem W0:Cq []:=λx hx=>by cases hx
structure GN (l:Ayh) (WY:Int) (n:Nat):Prop where
 len:l.length<=n
 nb:∀x∈l,wK x/\∀k∈Ap x,0<=k/\k<(l.length:Int)
 WY:(WY=-1/\l=[])\/(0<=WY/\WY<(l.length:Int))
theorem sZ{l:Ayh}{m:Nat}(h:∀x∈l,wK x/\∀k∈Ap x,0<=k/\k<(m:Int)){x:Ax7}(hx:wK x/\∀k∈Ap x,0<=k/\k<((m+1:Nat):Int)):∀y∈l++[x],wK y/\∀k∈Ap y,0<=k/\k<((m+1:Nat):Int):=λy hy=>by
 rcases List.mem_append.1 hy with hy |hy
 ·exact⟨(h y hy).1,λk hk=>by have:=(h y hy).2 k hk;omega⟩
 ·rw[AwA]at hy;subst hy;exact hx
section
variable {s:Ayd} {p:Int}
theorem yZ(k:Int){d:Ayg}(b n o q:Int)(u:Ayh){e j:Int}(he:1<=e/\e<=200)(h:Rd s p):∃w p' t v m ws,JU k d b n o q u e s p j=some (w,s,p',t,v,m,ws)/\(1<=w/\w<=200)/\Cq ws/\ws.length<=64/\Rd s p':=by
 obtain⟨x,p1,e1,h1⟩:=O2 k 5 h;unfold JU;rw[e1,Av9];simp only;cases x with
 |true =>
  obtain⟨y,p2,e2,⟨y1,_,y2⟩,h2⟩:=BH k 6 h1;have y2:=y2 (by omega);rw[Awp,e2,Av9];simp only;rw[AW (x:=1+y)];obtain⟨w,p3,ws,e3,f1,f2,h3⟩:=xc k (a:=1+y) (by omega) (by omega) h2;rw[e3,Av9];exact⟨_,_,_,_,_,_,rfl,by omega,f1,f2,h3⟩
 |false=>exact⟨_,_,_,_,_,_,rfl,he,W0,AwW _,h1⟩
theorem zB(k:Int){d:Ayg}(b:Int){n o:Int}(q:Int){u:Ayh}{m:Nat}(hu:GN u n m)(hm:m<=100)(hn:0<=n)(ho:1<=o/\o<=200){w b1 c1 d1 e1:Int}{ws:Ayd}(hw:1<=w/\w<=200)(hws:Cq ws)(eP:ws.length<=64)(he:3<=e1/\e1<=9)(h:Rd s p) :
    ∃o' p' u' A B ks,JX k d b n o q u w s p b1 c1 d1 e1 ws [n]=some (o',s,p',u',A,B,ks)/\1<=o'/\o'<=10000/\u'.length<=m+1/\u.length<=u'.length/\(∀x∈u',wK x/\∀k∈Ap x,0<=k/\k<(u'.length:Int))/\ks.length<=3/\(∀k∈ks,0<=k/\k<(u'.length:Int))/\Rd s p':=by
 have hl:=hu.len;have ht:0<=n/\n<(u.length:Int):=by
  rcases hu.WY with ⟨h,_⟩|h
  ·omega
  ·exact h
 have k1:∀x∈[n],0<=x/\x<(u.length:Int):=λx hx=>by rw[AwA]at hx;subst hx;exact ht
 unfold JX Np;cases h3:e1==3 with
 |true =>
  rw[Awp,Awr (by rw[Awt];omega)];have XN:(u++[((b1,c1,0,0,(d1,ws,()),([]:Ayd),()):Ax7)]).length=u.length+1:=by rw[Awd,Awt]
  have oL:=sZ (m:=u.length) hu.nb (x:=((b1,c1,0,0,(d1,ws,()),([]:Ayd),()):Ax7)) ⟨⟨AwW _,eP,hws⟩,λk hk=>by cases hk⟩;generalize u++[((b1,c1,0,0,(d1,ws,()),([]:Ayd),()):Ax7)]=u1 at *;rw[XN,AW (x:=((u.length+1:Nat):Int)-1)];obtain⟨z,ez,z1,z2,z3,z4⟩:∃z,JV k d b n o q w s p e1 (((u.length+1:Nat):Int)-1) u1 [n,((u.length+1:Nat):Int)-1]=some z/\z.1=s/\Rd s z.2.1/\z.2.2.length<=2/\∀k∈z.2.2,0<=k/\k<(u1.length:Int):=by
   unfold JV;obtain⟨x,p1,e1,h1⟩:=O2 k 2 h;rw[e1,Av9];simp only;cases x with
   |true =>
    refine⟨_,rfl,rfl,h1,Awf _,λk hk=>?_⟩;simp only[Axm,AxD,or_false]at hk;rcases hk with rfl |rfl<;>omega
   |false =>
    refine⟨_,rfl,rfl,h1,Awf _,λk hk=>?_⟩;simp only[Axm,AxD,or_false]at hk;rcases hk with rfl |rfl<;>omega
  obtain⟨zs,zp,zk⟩:=z;simp only at z1 z2 z3 z4;subst z1;rw[ez,Av9];simp only;obtain⟨y,ey,y1,y2,y3,y4,y5⟩:∃y,JW k d b n o q w e1 zs zp u1 zk=some y/\(1<=y.1/\y.1<=400)/\y.2.1=zs/\Rd zs y.2.2.1/\y.2.2.2.length<=3/\∀k∈y.2.2.2,0<=k/\k<(u1.length:Int):=by
   unfold JW;obtain⟨x,p1,e1,h1⟩:=O2 k 6 z2;rw[e1,Av9];simp only;cases x with
   |true =>
    rw[Awp,Awr (by rw[Awt];omega),AW (x:=w+o)];refine⟨_,rfl,by simp only;omega,rfl,h1,by simp only[Awd,Awt];omega,λk hk=>?_⟩;rcases List.mem_append.1 hk with hk |hk
    ·exact z4 k hk
    ·have:=k1 k hk;omega
   |false=>exact⟨_,rfl,by simp only;omega,rfl,h1,by simp only;omega,z4⟩
  obtain⟨y0,ys,yp,yk⟩:=y;simp only at y1 y2 y3 y4 y5;subst y2;rw[ey,Av9];simp only;rw[AW (x:=o+y0)];exact⟨_,_,_,_,_,_,rfl,by omega,by omega,by omega,by omega,by rw[XN];exact oL,y4,y5,y3⟩
 |false =>
  rw[Awo];cases h4:e1==4 with
  |true =>
   rw[Awp,AW (x:=o-1)];obtain⟨v,p1,e1,hv,h1⟩:=XQ k (b:=0) (c:=o-1) (by omega) (by omega) (by omega) h;rw[e1,Av9];simp only;obtain⟨v',p2,e2,cY,h2⟩:=XQ k (b:=0) (c:=v) (by omega) (by omega) (by omega) h1;rw[e2,Av9];simp only;rw[AW (x:=v-v'),AW (x:=v-v'+1)];exact⟨_,_,_,_,_,_,rfl,by omega,by omega,by omega,Awf _,hu.nb,by simp,k1,h2⟩
  |false =>
   rw[Awo];cases h5:(bif e1==5 then e1==5 else e1==6)with
   |true =>
    obtain⟨v,p1,e1,⟨v1,_,v2⟩,h1⟩:=BH k 5 h;have v2:=v2 (by omega);rw[Awp,e1,Av9];simp only;rw[AW (x:=o+v)];exact⟨_,_,_,_,_,_,rfl,by omega,by omega,by omega,Awf _,hu.nb,by simp,k1,h1⟩
   |false =>
    rw[Awo];cases h7:(bif e1==7 then e1==7 else e1==8)with
    |true =>
     obtain⟨v,p1,e1,_,h1⟩:=BH k 9 h;rw[Awp,e1,Av9];exact⟨_,_,_,_,_,_,rfl,by omega,by omega,by omega,Awf _,hu.nb,by simp,k1,h1⟩
    |false =>
     rw[Awo];cases h9:e1==9 with
     |true =>
      obtain⟨v,p1,e1,⟨v1,_,v2⟩,h1⟩:=BH k 3 h;have v2:=v2 (by omega);rw[Awp,e1,Av9];simp only;rw[AW (x:=1+v)];have m1:1<=o*(1+v):=by
       have:o*1<=o*(1+v):=AxB (by omega) (by omega);omega
      have m2:o*(1+v)<=600:=by
       have:o*(1+v)<=o*3:=AxB (by omega) (by omega);omega
      rw[AW (x:=o*(1+v))];exact⟨_,_,_,_,_,_,rfl,m1,by omega,by omega,Awf _,hu.nb,by simp,k1,h1⟩
     |false=>exact⟨_,_,_,_,_,_,rfl,by omega,by omega,by omega,Awf _,hu.nb,by simp,k1,h⟩
theorem oE(k:Int){d:Ayg}(hd:DW d)(b:Int){q:Int}(hq:1<=q/\q<=7)(h:Rd s p) :
    As (MM k d b (-1) 0 q s p []) λr=>GN r.1 r.2.1 20/\0<=r.2.1/\r.2.2.1=s/\Rd s r.2.2.2:=by
 unfold MM;refine BJ (λm (x:Int×Int×Int×Ayd×Int×Ayh)=>x.2.2.1=(m:Int)/\m<=7/\GN x.2.2.2.2.2 x.1 (2*(7-m))/\(x.1=-1->1<=m)/\(0<=x.1->1<=x.2.1/\x.2.1<=200)/\x.2.2.2.1=s/\Rd s x.2.2.2.2.1) (λm x hI=>?_) q.toNat _ ⟨by show q=((q.toNat:Nat):Int);omega,by omega,⟨AwW _,λx hx=>(by cases hx),.inl ⟨rfl,rfl⟩⟩,λ_=>by omega,λh=>absurd h (by show ¬(0:Int)<=-1;omega),rfl,h⟩;obtain⟨n,o,q',s',t,u⟩:=x;obtain⟨e1,hm,hg,hn,ho,e2,hr⟩:=hI;simp only at e1 hg hn ho e2 hr;subst e1;subst e2;unfold Kx ND;simp only;have XK:=hd.n1;have hgl:=hg.len;by_cases h0:0<m
 ·rw[Jy,Awp];unfold ML;obtain⟨v,p1,ev,⟨v1,_,v2⟩,h1⟩:=BH k (d.length:Int) hr;have v2:=v2 (by omega);rw[ev,Av9];simp only;rw[Awr ⟨v1,v2⟩];have hw:=hd.w _ (AG (z :=Ab.zero) (show v.toNat<d.length by omega));obtain⟨w,p2,c1,c2,c3,ws,el,ZW,hws,eP,h2⟩:=yZ k (d:=d) b n o (m:Int) u (j:=v) hw h1;rw[el,Av9];simp only;rw[AW (x:=(m:Int)-1)];by_cases hn0:n<0
  ·rw[Awe hn0,Awp,Awr (by rw[Awt];omega),Av9];simp only[AxH];have hu0:u=[]:=by
    rcases hg.WY with ⟨_,h⟩|h
    ·exact h
    ·omega
   subst hu0;refine As.mk ⟨m-1,by omega,by show(m:Int)-1=((m-1:Nat):Int);omega,by omega,⟨by simp;omega,?_,.inr ⟨AxO _,by simp⟩⟩,λh=>absurd h (by show ¬(0:Int)=-1;omega),λ_=>ZW,rfl,h2⟩;intro x hx;have hx:x∈[((c1,c2,0,0,(c3,ws,()),([]:Ayd),()):Ax7)]:=hx;rw[AwA]at hx;subst hx;exact⟨⟨AwW _,eP,hws⟩,λk hk=>by cases hk⟩
  ·rw[Awc hn0,Awo];obtain⟨v',p3,e3,cY,h3⟩:=XQ k (b:=3) (c:=9) (by omega) (by omega) (by omega) h2;rw[e3,Av9];simp only;obtain⟨o',p4,u',A,B,ks,e4,o1,o2,ul,ul2,un,kl,kn,h4⟩:=zB k (d:=d) b (m:Int) (b1:=c1) (c1:=c2) (d1:=c3) (e1:=v') hg (by omega) (by omega) (ho (by omega)) ZW hws eP cY h3;rw[e4,Av9];simp only;have ht:0<=n/\n<(u.length:Int):=by
    rcases hg.WY with ⟨h,_⟩|h
    ·omega
    ·exact h
   by_cases s5:o'>200
   ·rw[Awe s5,Awp,Av9];simp only[Axh];exact As.mk ⟨⟨by simp only;omega,un,.inr ⟨by simp only;omega,by simp only;omega⟩⟩,by simp only;omega,rfl,h4⟩
   ·rw[Awc s5,Awo,Awr (by rw[Awt];omega),Av9];simp only[AxH];have XN:(u'++[((v',0,A,B,(0,([]:Ayd),()),ks,()):Ax7)]).length=u'.length+1:=by rw[Awd,Awt]
    have oL:=sZ (m:=u'.length) un (x:=((v',0,A,B,(0,([]:Ayd),()),ks,()):Ax7)) ⟨⟨kl,AwW _,W0⟩,λk hk=>by have:=kn k hk;omega⟩;rw[XN,AW (x:=((u'.length+1:Nat):Int)-1)];refine As.mk ⟨m-1,by omega,by show(m:Int)-1=((m-1:Nat):Int);omega,by omega,⟨by rw[XN];omega,by rw[XN];exact oL,.inr ⟨by simp only;omega,by rw[XN];simp only;omega⟩⟩,λh=>by simp only at h;omega,λ_=>⟨o1,by simp only;omega⟩,rfl,h4⟩
 ·rw[GL,Awo];have yH:0<=n:=by
   rcases hg.WY with ⟨h,_⟩|h
   ·have:=hn h;omega
   ·exact h.1
  exact As.mk ⟨⟨by simp only;omega,hg.nb,hg.WY⟩,yH,rfl,hr⟩
end
end Go.Proofs.X
namespace Go.Proofs.X
open Go Go.Va
set_option maxRecDepth 100000
theorem Ti{d:Ayg}{t:Ayh}(ht:N3 t)(hd:d.length<=1048576):∃w,B6 d (t,())=some w:=by
 obtain⟨r,e,hr⟩:=Us ht hd;unfold B6;rw[e,Av9];by_cases h:r.length=0
 ·rw[h];exact⟨_,rfl⟩
 ·have hl:r.length<=1048576:=by
    rcases hr with ⟨_,h⟩|h
    ·have:=h.2.2.1;have:=h.2.1;omega
    ·obtain⟨rfl,_⟩:=h;simp at *
  rw[show((r.length:Int)==0)=false from beq_eq_false_iff_ne.2 (by omega),Awo,AW (x:=(r.length:Int)-1),Mq];exact⟨_,rfl⟩
def NS(x:Ax7):Prop:=QO x/\(Ap x).length<=3
structure TS (t:Ayh) (n:Nat):Prop where
 n1:1<=t.length
 n2:t.length<=n
 nb:∀x∈t,NS x
theorem TS.Zq{t:Ayh}{n:Nat}(h:TS t n)(hn:n<=1048576):N3 t:=⟨by have:=h.n2;omega,λx hx=>(h.nb x hx).1⟩
theorem TS.app{t:Ayh}{n:Nat}(h:TS t n){x:Ax7}(hx:NS x):TS (t++[x]) (n+1):=⟨by rw[Awd,Awt];omega,by rw[Awd,Awt];have:=h.n2;omega,λy hy=>by
 rcases List.mem_append.1 hy with hy |hy
 ·exact h.nb y hy
 ·rw[AwA]at hy;subst hy;exact hx⟩
def TW(t:Ayh):Prop:=t.length<=1000/\∀x∈t,QO x
theorem TS.tw{t:Ayh}{n:Nat}(h:TS t n)(hn:n<=1000):TW t:=⟨AwD h.n2 hn,λx hx=>(h.nb x hx).1⟩
theorem TW.set{t:Ayh}(h:TW t){i:Nat}{x:Ax7}(hx:QO x):TW (t.set i x):=⟨by rw[Awi];exact h.1,λy hy=>by
 rcases Axw hy with hy |rfl
 ·exact h.2 y hy
 ·exact hx⟩
theorem TS.mono{t:Ayh}{n m:Nat}(h:TS t n)(hm:n<=m):TS t m:=⟨h.n1,AwD h.n2 hm,h.nb⟩
theorem US(op v a b:Int)(k:Ayd)(hk:k.length<=3):NS (op,v,a,b,(0,([]:Ayd),()),k,()):=⟨⟨by show k.length<=1048576;omega,AwW _,W0⟩,hk⟩
def Um(n r:Nat)(b:Aye):Prop:=b.length=n/\b.getD r false=true
theorem Um.set{n r:Nat}{b:Aye}(h:Um n r b)(i:Nat):Um n r (b.set i true):=by
 refine⟨by rw[Awi];exact h.1,?_⟩;by_cases e:i=r
 ·subst e;by_cases hi:i<b.length
  ·simp[List.getD,hi]
  ·have:=h.2;simp[List.getD,hi]at this
 ·rw[<-h.2];simp[List.getD,Awy,e]
theorem uY{a:Ayh}{g1:Int}(hg:GN a g1 20)(h0:0<=g1):∃r,MN a g1=some r/\1<=r.length/\r.length<=20/\∀x∈r,wK x:=by
 have hal:=hg.len;have ht:g1<(a.length:Int):=by
  rcases hg.WY with ⟨h,_⟩|h
  ·omega
  ·exact h.2
 obtain⟨r0,jZ⟩:∃r0:Nat,g1=(r0:Int):=⟨g1.toNat,by omega⟩;subst jZ;unfold MN;rw[Awr ⟨rfl,by omega,by omega,by omega,by omega⟩,Awa,Awa,AwG,Awr ⟨h0,ht⟩,Awr ⟨rfl,by omega,by omega,by omega,by omega⟩,AW (x:=(a.length:Int)-1)];obtain⟨b,eb,hb⟩:As (Lw a (List.replicate a.length 0) ((a.length:Int)-1) ((List.replicate a.length false).set r0 true)) λb=>Um a.length r0 b:=by
  unfold Lw;refine BJ (λm (x:Int×Aye)=>x.1=(m:Int)-1/\m<=a.length/\Um a.length r0 x.2) (λm x hI=>?_) a.length _ ⟨rfl,Awf _,by rw[Awi,AwG],by simp[List.getD,show r0<a.length by omega]⟩
  obtain⟨x1,x2⟩:=x;obtain⟨e1,hm,hu⟩:=hI;simp only at e1 hu;subst e1;unfold I8 MP;simp only;by_cases mh:0<m
  ·obtain ⟨c,ec,hc⟩:As (Lv a ((m:Int)-1) (List.replicate a.length 0) 0 x2) λc=>Um a.length r0 c:=by
     have hx:=hg.nb _ (AG (z :=Ad.zero) (show m-1<a.length by omega));have gl:=hx.1.1;have oK:((m:Int)-1).toNat=m-1:=by omega
     unfold Lv;refine BJ (λq (y:Int×Aye)=>∃j:Nat,y.1=(j:Int)/\j<=(Ap (a.getD (m-1) Ad.zero)).length/\q=(Ap (a.getD (m-1) Ad.zero)).length-j/\Um a.length r0 y.2) (λq y hI=>?_) (Ap (a.getD (m-1) Ad.zero)).length _ ⟨0,rfl,AwW _,rfl,hu⟩;obtain⟨y1,y2⟩:=y;obtain⟨j,e1,hj,rfl,hy⟩:=hI;simp only at e1 hy;subst e1;unfold I7 MO Lu;simp only;rw[oK,Awr (by rw[hy.1];omega)];cases hus:y2.getD (m-1) (Ty.zero .bool)with
     |false=>rw[Awo];exact As.mk hy
     |true =>
      rw[Awp,Mq];rw[show(a.getD (m-1) Ad.zero).2.2.2.2.2.1=Ap (a.getD (m-1) Ad.zero)from rfl];rcases Awk j (Ap (a.getD (m-1) Ad.zero)).length with h |h
      ·have hk:=hx.2 _ (AG (z :=AyN.zero) h);rw[Hq h,Awp,Av9];simp only[AxH,Awa];rw[Mq,Awr (BS h),Awr (by rw[hy.1];exact hk),A3 (n:=j+1)];exact As.mk ⟨_,by omega,j+1,rfl,h,rfl,hy.set _⟩
      ·have:j=(Ap (a.getD (m-1) Ad.zero)).length:=by omega
       subst this;rw[IB,Awo];exact As.mk hy
   rw[Jy,Awp,ec,Av9,AW (x:=(m:Int)-1-1)];exact As.mk ⟨m-1,by omega,by show(m:Int)-1-1=((m-1:Nat):Int)-1;omega,by omega,hc⟩
  ·rw[GL,Awo];exact As.mk hu
 rw[eb,Av9];obtain⟨c,ec,c1,c2,c3⟩:As (Lz a b 0 (List.replicate a.length 0) []) λr=>1<=r.length/\r.length<=20/\∀x∈r,wK x:=by
  unfold Lz;refine BJ (λm (x:Int×Ayd×Ayh)=>∃i:Nat,x.1=(i:Int)/\i<=a.length/\m=a.length-i/\x.2.1.length=a.length/\x.2.2.length<=i/\(r0<i->1<=x.2.2.length)/\∀y∈x.2.2,wK y) (λm x hI=>?_) a.length _ ⟨0,rfl,AwW _,rfl,AwG,AwW _,λh=>by omega,λy hy=>by cases hy⟩;obtain⟨x1,x2,x3⟩:=x;obtain⟨i,e1,hi,rfl,hl,hg3,hr,hy⟩:=hI;simp only at e1 hl hg3 hr hy;subst e1;unfold Ja MR;simp only;rcases Awk i a.length with h |h
  ·have hx:=hg.nb _ (AG (z :=Ad.zero) h);rw[Hq h,Awp,A3 (n:=i+1)];unfold Ly;rw[Awr (BS (by rw[hb.1];exact h)),Awa];cases hus:b.getD i (Ty.zero .bool)with
   |false =>
    refine As.mk ⟨a.length-(i+1),by omega,i+1,rfl,h,rfl,hl,by simp only;omega,λh'=>?_,hy⟩;by_cases e:r0=i
    ·subst e;have:=hb.2;rw[show b.getD r0 false=b.getD r0 (Ty.zero .bool)from rfl,hus]at this;cases this
    ·exact hr (by omega)
   |true =>
    rw[AwT,Awo,Awr (BS h)];generalize a.getD i Ad.zero=n at *;obtain⟨⟨k1,k2,k3⟩,k4⟩:=hx;have ecn:Ig n=some (n.1,n.2.1,n.2.2.1,n.2.2.2.1,n.2.2.2.2.1.1,n.2.2.2.2.1.2.1,n.2.2.2.2.2.1):=by
     unfold Ig;rw[Awr (by show(Ap n).length*8<=_;omega),Awr (by show(YZ n).length*8<=_;omega)]
    rw[ecn,Av9];simp only;obtain⟨u,eu,hu⟩:As (Lx a b (i:Int) x2 x3 n.1 n.2.1 n.2.2.1 n.2.2.2.1 n.2.2.2.2.1.1 n.2.2.2.2.1.2.1 0 n.2.2.2.2.2.1) λu=>u.length=(Ap n).length:=by
     unfold Lx;refine BJ (λm (y:Int×Ayd)=>∃j:Nat,y.1=(j:Int)/\j<=(Ap n).length/\m=(Ap n).length-j/\y.2.length=(Ap n).length/\∀q,j<=q->y.2.getD q 0=(Ap n).getD q 0) (λm y hI=>?_) (Ap n).length _ ⟨0,rfl,AwW _,rfl,rfl,λ_ _=>rfl⟩;obtain⟨y1,y2⟩:=y;obtain⟨j,e1,hj,rfl,hyl,hyq⟩:=hI;simp only at e1 hyl hyq;subst e1;unfold I9 MQ;simp only;rw[hyl];rcases Awk j (Ap n).length with h |h
     ·have e2:y2.getD j AyN.zero=(Ap n).getD j 0:=hyq j (Awf _);have hk:=k4 _ (AG (z:=(0:Int)) h);rw[Hq h,Awp,Awr (BS h),Awa,e2,Awr (by rw[hl];exact hk),Awr (BS h),A3 (n:=j+1)];refine As.mk ⟨_,by omega,j+1,rfl,h,rfl,by simp only[Awi];exact hyl,λq hq=>?_⟩;rw[<-hyq q (by omega)];simp only[List.getD,Awy,show ¬j=q by omega,Axo]
     ·have:j=(Ap n).length:=by omega
      subst this;rw[IB,Awo];exact As.mk hyl
    rw[eu,Av9,Awr (BS (by rw[hl];exact h)),Awr (by rw[Awt];omega)];refine As.mk ⟨a.length-(i+1),by omega,i+1,rfl,h,rfl,by simp only[Awi];exact hl,by simp only[Awd,Awt];omega,λ_=>by simp only[Awd,Awt];omega,λy QB=>?_⟩;rcases List.mem_append.1 QB with QB |QB
    ·exact hy y QB
    ·rw[AwA]at QB;subst QB;exact⟨by show u.length<=3;omega,k2,k3⟩
  ·have:i=a.length:=by omega
   subst this;rw[IB,Awo];exact As.mk ⟨hr (by omega),by omega,hy⟩
 rw[ec];exact⟨_,rfl,c1,c2,c3⟩
theorem sP{t:Ayh}{n:Nat}(h:TS t n)(hn:n<=1000)(a b c:Int):∃r,NC a b c t=some r/\TS r (n+1):=by
 have:=h.n2;unfold NC;by_cases h1:b>c
 ·rw[Awe h1,Awp,Awr (by rw[Awt];omega)];exact⟨_,rfl,h.app (US _ _ _ _ _ (by simp))⟩
 ·rw[Awc h1,Awo];by_cases h2:b<c
  ·rw[Awe h2,Awp,Awr (by rw[Awt];omega)];exact⟨_,rfl,h.app (US _ _ _ _ _ (by simp))⟩
  ·rw[Awc h2,Awo];exact⟨_,rfl,h.mono (by omega)⟩
section
variable {s:Ayd} {p:Int}
theorem cN(k:Int){d:Ayg}(hd:DW d)(b:Int)(h:Rd s p):∃p' t,DN k d b s p=some (s,p',t)/\TS t 21/\Rd s p':=by
 unfold DN;generalize hm:(if wI (2+wI (Int.tdiv (s.length:Int) 12))<7 then wI (2+wI (Int.tdiv (s.length:Int) 12))else 7)=m;have hm6:m<=7:=by subst hm;split<;>omega
 obtain⟨u,p1,e,⟨u1,u2,u3⟩,h1⟩:=BH k m h;have hu:u<=6:=by
  by_cases QA:1<=m
  ·have:=u3 QA;omega
  ·unfold An at e;rw[Awe (show m<=1 by omega),Awp]at e;injection e with e;injection e with e _;omega
 rw[e,Av9];simp only;rw[AW (x:=1+u)];obtain⟨r,er,r1,r2,r3,r4⟩:=oE k hd b (q:=1+u) (by omega) h1;obtain⟨t,WY,s',p2⟩:=r;simp only at r1 r2 r3 r4;subst r3;rw[er,Av9];simp only;obtain⟨c,ec,c1,c2,c3⟩:=uY r1 r2;have hc:TS c 20:=⟨c1,c2,λx hx=>⟨(c3 x hx).Aom,(c3 x hx).1⟩⟩;rw[ec,Av9];obtain⟨z,ez,hz⟩:∃z,Ih d b c s' p2=some z/\TS z 21:=by
  unfold Ih;by_cases hb:b>0
  ·obtain⟨w,ew⟩:=Ti (d:=d) (hc.Zq (by omega)) (by have:=hd.n2;omega);obtain⟨z,ez,hz⟩:=sP hc (by omega) (wI ((c.length:Int)-1)) w b;rw[Awe hb,Awp,ew,Av9,ez];exact⟨_,rfl,hz⟩
  ·rw[Awc hb,Awo];exact⟨_,rfl,hc.mono (by omega)⟩
 rw[ez];exact⟨_,_,rfl,hz,r4⟩
theorem pj{t:Ayh}{n:Nat}(h:TS t n){i:Nat}(hi:i<t.length):NS (t.getD i Ad.zero):=h.nb _ (AG hi)
theorem kA(k:Int){d:Ayg}(hd:DW d)(b:Int)(h:Rd s p):∃p' t,Gi k d b s p=some (s,p',t)/\TW t/\Rd s p':=by
 obtain⟨p1,t,e,ht,h1⟩:=cN k hd b h;have hl:=ht.n2;have U9:=ht.n1;unfold Gi;rw[e,Av9];simp only;obtain⟨i,p2,e2,⟨i0,_,i1⟩,h2⟩:=BH k (t.length:Int) h1;have i1:=i1 (by omega);rw[e2,Av9];simp only;have hi:0<=i/\i<(t.length:Int):=⟨i0,i1⟩;obtain⟨hN,hN3⟩:=pj ht (i:=i.toNat) (by omega);suffices hs:∃z,DL k d i s p2 t=some z/\z.1=s/\TW z.2.2/\Rd s z.2.1 by
  obtain⟨⟨z1,z2,z3⟩,ez,rfl,z5,z6⟩:=hs;rw[ez];exact⟨_,_,rfl,z5,z6⟩
 unfold DL;obtain⟨c,p3,e3,_,h3⟩:=BH k 40 h2;rw[e3,Av9];simp only;have ht':=ht.tw (show 21<=1000 by omega);cases c==0 with
 |true =>
  obtain⟨v,p4,e4,h4⟩:=UU k (b:=1) (c:=9) (by omega) (by omega) (by omega) h3;unfold Gj;rw[Awp,e4,Av9,Awr hi,Av9];exact⟨_,rfl,rfl,ht'.set hN,h4⟩
 |false =>
 rw[Awo];cases c==1 with
 |true =>
  obtain⟨v,p4,e4,h4⟩:=UU k (b:=0) (c:=9) (by omega) (by omega) (by omega) h3;unfold Gk;rw[Awp,e4,Av9,Awr hi,Av9];exact⟨_,rfl,rfl,ht'.set hN,h4⟩
 |false =>
 rw[Awo];cases c==2 with
 |true =>
  obtain⟨v,p4,e4,h4⟩:=UU k (b:=0) (c:=9) (by omega) (by omega) (by omega) h3;unfold Gl;rw[Awp,e4,Av9,Awr hi,Av9];exact⟨_,rfl,rfl,ht'.set hN,h4⟩
 |false =>
 rw[Awo];cases c==3 with
 |true =>
  have aP:=hd.n2;obtain⟨v,p4,e4,h4⟩:=UU k (b:=0) (c:=(d.length:Int)) (by omega) (by omega) (by omega) h3;unfold Gm;rw[Awp,e4,Av9,Awr hi,Av9];exact⟨_,rfl,rfl,ht'.set hN,h4⟩
 |false =>
 rw[Awo];cases c==4 with
 |true =>
  obtain⟨v,p4,e4,h4⟩:=UU k (b:=0) (c:=(t.length:Int)) (by omega) (by omega) (by omega) h3;unfold Gn;rw[Awp,Awr hi,e4,Av9];simp only;rw[Awr (by rw[Awt];show((Ap (t.getD i.toNat Ad.zero)).length+1)*8<=_;omega),Awr hi,Awr trivial,Av9];refine⟨_,rfl,rfl,ht'.set ⟨?_,hN.2.1,hN.2.2⟩,h4⟩;show(Ap (t.getD i.toNat Ad.zero)++[v]).length<=1048576;rw[Awd,Awt];omega
 |false =>
 rw[Awo];cases c==5 with
 |true =>
  rw[Awp,Awr (by rw[Awt];omega)];exact⟨_,rfl,rfl,(ht.app (US _ _ _ _ _ (by simp))).tw (by omega),h3⟩
 |false =>
 rw[Awo];cases c==6 with
 |true =>
  obtain⟨r,er,r1,r2,r3⟩:As (Gq k s p3 t) λr=>r.1=s/\TW r.2.2/\Rd s r.2.1:=by
   unfold Gq;refine BJ (λm (x:Ayd×Int×Ayh)=>x.1=s/\Rd s x.2.1/\TS x.2.2 401/\m=401-x.2.2.length) (λm x hI=>?_) (401-t.length) _ ⟨rfl,h3,ht.mono (by omega),rfl⟩;obtain⟨x1,x2,x3⟩:=x;obtain⟨e1,hx,Qk,rfl⟩:=hI;simp only at e1 hx Qk;subst e1;have hn2:=Qk.n2;unfold EJ HP Gp;obtain⟨v,p5,e5,⟨v0,_,v1⟩,h5⟩:=BH k 2 hx;have v1:=v1 (by omega);simp only;rw[e5,Av9,Av9];simp only;rw[AW (x:=400+v)];by_cases Cw:(x3.length:Int)<400+v
   ·rw[Awe Cw,Awp,Awr (by rw[Awt];omega)];have hap:=Qk.app (US 7 0 1 0 [wI ((x3.length:Int)-1)] (by simp));exact As.mk ⟨401-(x3.length+1),by omega,rfl,h5,⟨hap.n1,by simp only[Awd,Awt];omega,hap.nb⟩,by simp only[Awd,Awt]⟩
   ·rw[Awc Cw,Awo];exact As.mk ⟨rfl,Qk.tw (by omega),h5⟩
  rw[Awp,er,Av9];exact⟨_,rfl,r1,r2,r3⟩
 |false =>
 rw[Awo];cases c==7 with
 |true =>
  obtain⟨r,er,hr⟩:As (Gs d s p3 0 t) λr=>TW r:=by
   unfold Gs;refine BJ (λm (x:Int×Ayh)=>∃j:Nat,x.1=(j:Int)/\j<=40/\m=40-j/\TS x.2 (21+2*j)) (λm x hI=>?_) 40 _ ⟨0,rfl,by omega,rfl,ht⟩;obtain⟨x1,x2⟩:=x;obtain⟨j,e1,hj,rfl,Qk⟩:=hI;simp only at e1 Qk;subst e1;have hn2:=Qk.n2;unfold EK HQ;simp only;by_cases Cw:j<40
   ·obtain⟨w,ew⟩:=Ti (d:=d) (Qk.Zq (by omega)) (by have:=hd.n2;omega);rw[Jy,Awp,ew,Av9];unfold Gr;have stop:TW x2:=Qk.tw (by omega);by_cases w1:w<1
    ·rw[Awe w1,Awp];exact As.mk stop
    ·rw[Awc w1,Awo];by_cases w2:wI (2*w)>4096
     ·rw[Awe w2,Awp];exact As.mk stop
     ·rw[Awc w2,Awo,Av9];simp only[Axh];have hap:=(Qk.app (US 3 0 0 0 [wI ((x2.length:Int)-1),wI ((x2.length:Int)-1)] (by simp))).app (US 4 0 (wI (w-1)) 0 [wI (wI ((x2.length:Int)-1)+1)] (by simp));rw[Awh]at hap;rw[Awr (by simp only[Axg,AxW];omega),A3 (n:=j+1)];exact As.mk ⟨40-(j+1),by omega,j+1,rfl,by omega,rfl,hap.mono (by omega)⟩
   ·rw[GL,Awo];exact As.mk (Qk.tw (by omega))
  rw[Awp,er,Av9];exact⟨_,rfl,rfl,hr,h3⟩
 |false=>exact⟨_,rfl,rfl,ht',h3⟩
end
end Go.Proofs.X
namespace Go.Proofs.X
open Go Go.Va
set_option maxRecDepth 100000
theorem Xj{d:Ayg}(hd:d.length<=1048576):Ma d=some (List.replicate d.length []):=by
 unfold Ma P0;have:=A2 (f:=EZ d) (λk=>((k:Int),List.replicate k [])) (t:=List.replicate d.length []) d.length (λk hk=>?_) ?_
 ·exact(congrArg (λo=>Option.bind o λc=>some c) this).trans rfl
 ·unfold EZ KG;simp only;rw[Hq hk,Awp,Awr (by rw[AwG,Awt];omega),A3 (n:=k+1),List.replicate_succ']
 ·unfold EZ KG;simp only;rw[IB,Awo]
theorem TW.Zq{t:Ayh}(h:TW t):N3 t:=⟨by have:=h.1;omega,h.2⟩
section
variable {s:Ayd} {p:Int}
theorem kq(k:Int){d:Ayg}(hd:DW d)(c:Int)(h:Rd s p):∃e p' t u,JY k d c s p=some (c,e,s,p',t,u)/\N3 t/\N3 u/\Rd s p':=by
 have aP:=hd.n2;obtain⟨p1,t,e1,ht,h1⟩:=cN k hd 0 h;obtain⟨w,ew⟩:=Ti (d:=d) (ht.Zq (by omega)) (by omega);unfold JY;rw[e1,Av9];simp only;rw[ew,Av9];obtain⟨z,ez,z1,z2,z3⟩:∃z,Gt k d c w s p1 t=some z/\z.2.1=s/\Rd s z.2.2.1/\TS z.2.2.2 21:=by
  unfold Gt;obtain⟨x,p2,e2,h2⟩:=O2 k 2 h1;rw[e2,Av9];simp only;cases x with
  |true =>
   have XK:=hd.n1;obtain⟨v,p3,e3,⟨v1,_,v2⟩,h3⟩:=BH k (d.length:Int) h2;have v2:=v2 (by omega);rw[Awp,e3,Av9,Awr ⟨v1,v2⟩];refine⟨_,rfl,rfl,h3,⟨Awf _,by show 1<=21;omega,λx hx=>?_⟩⟩;rw[AwA]at hx;subst hx;exact US _ _ _ _ _ (by simp)
  |false=>exact⟨_,rfl,rfl,h2,ht⟩
 obtain⟨z0,zs,zp,zt⟩:=z;simp only at z1 z2 z3;subst z1;rw[ez,Av9];simp only;obtain⟨y,ey,hy⟩:∃y,Gu k d c z0 zs zp zt=some y/\TS y.2 22:=by
  unfold Gu;by_cases h40:z0>40
  ·obtain⟨r,er,hr⟩:=sP z3 (by omega) (wI ((zt.length:Int)-1)) z0 12;rw[Awe h40,Awp,er];exact⟨_,rfl,hr⟩
  ·rw[Awc h40,Awo];exact⟨_,rfl,z3.mono (by omega)⟩
 rw[ey,Av9];unfold Jb;obtain⟨x,p4,e4,h4⟩:=O2 k 3 z2;obtain⟨p5,u,e5,hu,h5⟩:=cN k hd y.1 h4;rw[e4,Av9];simp only;rw[e5,Av9,Av9];exact⟨_,_,_,_,rfl,hy.Zq (by omega),hu.Zq (by omega),h5⟩
theorem gM(k:Int){d:Ayg}(hd:DW d){n:Int}(hn:1<=n)(hn2:n<=50)(h:Rd s p):∃p' l,FA k d n s p=some (s,p',l)/\1<=l.length/\l.length<=50/\(∀x∈l,QM x)/\Rd s p':=by
 obtain⟨v,p1,e1,hv,h1⟩:=zq k (d:=14) (by omega) hn (by omega) h;unfold FA;rw[e1,Av9];simp only;obtain⟨r,er,r1,r2,r3,r4,r5⟩:As (FP k d 0 v s p1 []) λr=>r.1=s/\Rd s r.2.1/\1<=r.2.2.length/\r.2.2.length<=50/\∀x∈r.2.2,QM x:=by
  unfold FP;refine BJ (λm (x:Int×Int×Ayd×Int×Ayj)=>x.2.1=(m:Int)/\x.2.2.1=s/\Rd s x.2.2.2.1/\m+x.2.2.2.2.length=v.toNat/\∀y∈x.2.2.2.2,QM y) (λm x hI=>?_) v.toNat _ ⟨by show v=((v.toNat:Nat):Int);omega,rfl,h1,rfl,λy hy=>by cases hy⟩;obtain⟨i,e,g,q,j⟩:=x;obtain⟨e1,e2,hq,hl,hj⟩:=hI;simp only at e1 e2 hq hl hj;subst e1;subst e2;unfold D9 Hj;simp only;by_cases hm:0<m
  ·obtain⟨y,p2,e2,_,h2⟩:=BH k 3 hq;rw[Jy,Awp,e2,Av9];simp only;obtain⟨eq,p3,t,u,e3,ht,hu,h3⟩:=kq k hd (wI (wI (i+1)+y)) h2;rw[e3,Av9];simp only;rw[Awr (by rw[Awt];omega),AW (x:=(m:Int)-1)];refine As.mk ⟨m-1,by omega,by show(m:Int)-1=((m-1:Nat):Int);omega,rfl,h3,by simp only[Awd,Awt];omega,λx hx=>?_⟩;rcases List.mem_append.1 hx with hx |hx
   ·exact hj x hx
   ·rw[AwA]at hx;subst hx;exact⟨ht,hu⟩
  ·rw[GL,Awo];exact As.mk ⟨rfl,hq,by simp only;omega,by simp only;omega,hj⟩
 obtain⟨z1,z2,z3⟩:=r;simp only at r1 r2 r3 r4 r5;subst r1;rw[er];exact⟨_,_,rfl,r3,r4,r5,r2⟩
theorem Y2(k:Int){d:Ayg}(hd:DW d){n:Int}(hn:1<=n)(hn2:n<=50)(h:Rd s p):∃l p',De k d n s p=some (l,s,p')/\l.length<=100/\(∀x∈l,QM x)/\Rd s p':=by
 obtain⟨p1,l,e1,l1,l2,hl,h1⟩:=gM k hd hn hn2 h;unfold De;rw[e1,Av9];simp only;obtain⟨i,p2,e2,⟨i0,_,i1⟩,h2⟩:=BH k (l.length:Int) h1;have i1:=i1 (by omega);rw[e2,Av9];simp only;suffices hs:∃z,Ct k d i s p2 l=some z/\z.2.1=s/\z.1.length<=100/\(∀x∈z.1,QM x)/\Rd s z.2.2 by
  obtain⟨⟨z1,z2,z3⟩,ez,rfl,z4,z5,z6⟩:=hs;rw[ez];exact⟨_,_,rfl,z4,z5,z6⟩
 unfold Ct;obtain⟨c,p3,e3,_,h3⟩:=BH k 40 h2;rw[e3,Av9];simp only;have hi:=hl _ (AG (z :=Af.zero) (show i.toNat<l.length by omega));have put:∀x,QM x->∀y∈l.set i.toNat x,QM y:=λx hx y hy=>by
  rcases Axw hy with hy |rfl
  ·exact hl y hy
  ·exact hx
 cases c==0 with
 |true =>
  obtain⟨v,p4,e4,h4⟩:=UU k (b:=1) (c:=1000000) (by omega) (by omega) (by omega) h3;rw[Awp,e4,Av9,Awr ⟨i0,i1⟩];exact⟨_,rfl,rfl,by simp only[Awi];omega,put _ hi,h4⟩
 |false =>
 rw[Awo];cases c==1 with
 |true =>
  obtain⟨p4,t,e4,ht,h4⟩:=kA k hd 0 h3;rw[Awp,e4,Av9,Awr ⟨i0,i1⟩];exact⟨_,rfl,rfl,by simp only[Awi];omega,put _ ⟨ht.Zq,hi.2⟩,h4⟩
 |false =>
 rw[Awo];cases c==2 with
 |true =>
  obtain⟨r,er,r1,r2,r3,r4⟩:As (Dx k s p3 l) λr=>r.1=s/\Rd s r.2.1/\r.2.2.length<=100/\∀x∈r.2.2,QM x:=by
   unfold Dx;refine BJ (λm (x:Ayd×Int×Ayj)=>x.1=s/\Rd s x.2.1/\1<=x.2.2.length/\x.2.2.length<=61/\m=61-x.2.2.length/\∀y∈x.2.2,QM y) (λm x hI=>?_) (61-l.length) _ ⟨rfl,h3,l1,by simp only;omega,rfl,hl⟩;obtain⟨x1,x2,x3⟩:=x;obtain⟨e1,hx,g1,g2,rfl,hy⟩:=hI;simp only at e1 hx g1 g2 hy;subst e1;unfold CV FB;obtain⟨v,p5,e5,⟨v0,_,v1⟩,h5⟩:=BH k 2 hx;have v1:=v1 (by omega);simp only;rw[e5,Av9];simp only;rw[AW (x:=60+v)];by_cases Cw:(x3.length:Int)<60+v
   ·rw[Awe Cw,Awp,Mq,AW (x:=(x3.length:Int)-1),Mq,Awr (by rw[Awt];omega)];refine As.mk ⟨61-(x3.length+1),by omega,rfl,h5,by simp only[Awd,Awt];omega,by simp only[Awd,Awt];omega,by simp only[Awd,Awt],λy QB=>?_⟩;rcases List.mem_append.1 QB with QB |QB
    ·exact hy y QB
    ·rw[AwA]at QB;subst QB;exact hy (x3.getD 0 Af.zero) (AG (show 0<x3.length by omega))
   ·rw[Awc Cw,Awo];exact As.mk ⟨rfl,h5,by simp only;omega,hy⟩
  rw[Awp,er,Av9];exact⟨_,rfl,r1,r3,r4,r2⟩
 |false =>
 rw[Awo];cases c==3 with
 |true =>
  rw[Awp,Mq];exact⟨_,rfl,rfl,by simp,λx hx=>by simp at hx,h3⟩
 |false=>exact⟨_,rfl,rfl,by simp only;omega,hl,h3⟩
def CW(d:Ayg)(n:Nat)(c:Aym):Prop:=c.length=d.length/\∀x∈c,x.length<=n
theorem CW.put{d:Ayg}{n:Nat}{c:Aym}(h:CW d n c){i:Nat}(hi:i<c.length)(x:Int)(hx:(c.getD i AyR.zero).length+1<=n):CW d n (c.set i (c.getD i AyR.zero++[x])):=⟨by rw[Awi];exact h.1,λy hy=>by
 rcases Axw hy with hy |rfl
 ·exact h.2 y hy
 ·rw[Awd,Awt];exact hx⟩
theorem yg(k:Int){d:Ayg}(hd:DW d)(h:Rd s p):∃c p',JO k d s p=some ((c,()),s,p')/\Rj c/\Rd s p':=by
 have XK:=hd.n1;have qj:=hd.n2;unfold JO;rw[Xj (by omega),Av9];obtain⟨r,er,r1,r2,r3⟩:As (I3 k d 0 s p (List.replicate d.length [])) λr=>r.1=s/\Rd s r.2.1/\CW d 300 r.2.2:=by
  unfold I3;refine BJ (λm (x:Int×Ayd×Int×Aym)=>∃v:Nat,x.1=(v:Int)/\v<=d.length/\m=d.length-v/\x.2.1=s/\Rd s x.2.2.1/\CW d 300 x.2.2.2/\∀u,v<=u->(x.2.2.2.getD u AyR.zero).length=0) (λm x hI=>?_) d.length _ ⟨0,rfl,AwW _,rfl,rfl,h,⟨AwG,λx hx=>by rw[AxQ hx];exact AwW _⟩,λu _=>by
   by_cases hu:u<d.length
   ·simp[List.getD,hu]
   ·simp[List.getD,hu];rfl⟩
  obtain⟨x1,x2,x3,x4⟩:=x;obtain⟨v,e1,hv,rfl,e2,hx,hc,hz⟩:=hI;simp only at e1 e2 hx hc hz;subst e1;subst e2;unfold G0 KZ;simp only;rcases Awk v d.length with Cw |jV
  ·obtain ⟨q,eq,q1,q2,q3,q4⟩:As (I2 k d (v:Int) 1 x2 x3 x4) λr=>r.1=x2/\Rd x2 r.2.1/\CW d 300 r.2.2/\∀u,v+1<=u->(r.2.2.getD u AyR.zero).length=0:=by
     unfold I2;refine BJ (λm (y:Int×Ayd×Int×Aym)=>∃j:Nat,y.1=(j:Int)/\1<=j/\j<=200/\m=200-j/\y.2.1=x2/\Rd x2 y.2.2.1/\CW d 300 y.2.2.2/\(y.2.2.2.getD v AyR.zero).length<=j/\∀u,v+1<=u->(y.2.2.2.getD u AyR.zero).length=0) (λm y hI=>?_) 199 _ ⟨1,rfl,Awf _,by omega,rfl,rfl,hx,hc,by simp only;have:=hz v (Awf _);omega,λu hu=>hz u (by omega)⟩;obtain⟨y1,y2,y3,y4⟩:=y;obtain⟨j,e1,hj1,hj2,rfl,e2,hy,hcy,hjv,hzu⟩:=hI;simp only at e1 e2 hy hcy hjv hzu;subst e1;subst e2;have hl4:=hcy.1;unfold GZ KY IZ;simp only;rw[Awr (BS Cw)];cases decide ((j:Int)<(d.getD (v:Int).toNat Ab.zero).2.1)with
     |false=>exact As.mk ⟨rfl,hy,hcy,hzu⟩
     |true =>
      rw[Awp];by_cases s5:j<200
      ·rw[Jy,Awp,Av9];simp only[AxH];unfold I1;obtain⟨x,p2,e2,h2⟩:=O2 k 6 hy;rw[e2,Av9,A3 (n:=j+1)];simp only;cases x with
       |true =>
        unfold I0;rw[Awp,Awr (BS (by omega)),Awa,Awr (by rw[Awt];omega),Awr (BS (by omega)),Awr rfl,Av9,Av9];refine As.mk ⟨200-(j+1),by omega,j+1,rfl,by omega,s5,rfl,rfl,h2,hcy.put (by omega) _ (by omega),?_,λu hu=>?_⟩
        ·simp only[List.getD,Awy,show v<y4.length by omega,AwS,Option.getD_some];rw[Awd,Awt];have:(y4[v]?.getD AyR.zero).length<=j:=hjv;omega
        ·rw[<-hzu u hu];simp only[List.getD,Awy,show ¬v=u by omega,Axo]
       |false =>
        rw[Awo,Av9];exact As.mk ⟨200-(j+1),by omega,j+1,rfl,by omega,s5,rfl,rfl,h2,hcy,by simp only;omega,hzu⟩
      ·rw[GL,Awo];exact As.mk ⟨rfl,hy,hcy,hzu⟩
   obtain⟨z1,z2,z3⟩:=q;simp only at q1 q2 q3 q4;subst q1;rw[Hq Cw,Awp,eq,Av9,A3 (n:=v+1)];exact As.mk ⟨d.length-(v+1),by omega,v+1,rfl,Cw,rfl,rfl,q2,q3,q4⟩
  ·have:v=d.length:=by omega
   subst this;rw[IB,Awo];exact As.mk ⟨rfl,hx,hc⟩
 obtain⟨zs,z2,z3⟩:=r;simp only at r1 r2 r3;subst r1;rw[er,Av9];simp only;have cb:Rj z3:=⟨by have:=r3.1;omega,λx hx=>by have:=r3.2 x hx;omega⟩;unfold I5;obtain⟨c,p3,e3,_,h3⟩:=BH k 30 r2;rw[e3,Av9];simp only;cases c==0 with
 |true =>
  obtain⟨v,p4,e4,⟨v1,_,v2⟩,h4⟩:=BH k (d.length:Int) h3;have v2:=v2 (by omega);have hw:=hd.w _ (AG (z :=Ab.zero) (show v.toNat<d.length by omega));rw[Awp,e4,Av9];simp only;unfold I4;obtain⟨x,p5,e5,h5⟩:∃x p',Av k 0 (d.getD v.toNat Ab.zero).2.1 zs p4=some (x,zs,p')/\Rd zs p':=by
   generalize (d.getD v.toNat Ab.zero).2.1=w at hw⊢;have w1:(1:Int)<=w:=hw.1;have w2:(200:Int)>=w:=hw.2;exact UU k (b:=0) (c:=w) (by omega) (by omega) (by omega) h4
  have hl3:=r3.1;have LN:=r3.2 _ (AG (z :=AyR.zero) (show v.toNat<z3.length by omega));rw[Mq,Mq,e5,Av9,Awr (by rw[Awt];omega),Mq,Awr rfl,Av9,Av9];refine⟨_,_,rfl,⟨by simp only[Awi];omega,λy hy=>?_⟩,h5⟩;rcases Axw hy with hy |rfl
  ·exact cb.2 y hy
  ·rw[Awd,Awt];omega
 |false =>
  rw[Awo];cases c==1 with
  |true =>
   have hl3:=r3.1;rw[Awp,Mq,Av9];refine⟨_,_,rfl,⟨?_,λy hy=>cb.2 y (Aw8 (AxA hy))⟩,h3⟩;rw[AwJ,Awu];omega
  |false =>
   rw[Awo,Av9];exact⟨_,_,rfl,cb,h3⟩
end
theorem yh{s:Ayd}(hl:s.length<=1048576)(hb:∀x∈s,0<=x/\x<256):∃d l c,Fw s=some (d,l,(c,()))/\d.length<=6/\l.length<=100/\(∀x∈l,QM x)/\Rj c:=by
 have h:Rd s 0:=⟨AxO _,by omega,hl,hb⟩;unfold Fw Hw;simp only;obtain⟨d,p1,e1,hd,h1⟩:=sD 0 h;rw[e1,Av9];simp only;obtain⟨l,p2,e2,l1,l2,h2⟩:=Y2 0 hd (n:=6) (by omega) (by omega) h1;rw[e2,Av9];simp only;obtain⟨x,p3,e3,h3⟩:=O2 0 2 h2;have qj:=hd.n2;rw[e3,Av9];simp only;cases x with
 |true =>
  rw[Awp,Xj (by omega),Av9];exact⟨_,_,_,rfl,qj,l1,l2,⟨by rw[AwG];omega,λx hx=>by rw[AxQ hx];exact AwW _⟩⟩
 |false =>
  obtain⟨c,p4,e4,hc,_⟩:=yg 0 hd h3;rw[Awo,e4,Av9];exact⟨_,_,_,rfl,qj,l1,l2,hc⟩
end Go.Proofs.X
namespace Go.Proofs.X
open Go Go.Va
set_option maxRecDepth 100000
theorem ArD{x:Int}(h:Ty.Wf AyP x):0<=x/\x<256:=by
 have h1:IntKind.u8.min<=x:=h.1;have h2:x<=IntKind.u8.max:=h.2;have e1:IntKind.u8.min=0:=by decide
 have e2:IntKind.u8.max=255:=by decide
 omega
theorem AcQ{a:Ayd}(ha:a.length<=1048576){b:Int}(hb:b∈a):Q7 a b=some true:=by
 unfold Q7;obtain⟨t,h1,h2⟩:As (Qm a b 0) λt=>t=.inl ():=by
  unfold Qm;refine BJ (λm (i:Int)=>∃k:Nat,i=(k:Int)/\k<=a.length/\m=a.length-k/\b∈a.drop k) (λm i hI=>?_) a.length 0 ⟨0,rfl,AwW _,rfl,hb⟩;obtain⟨k,rfl,hk,rfl,hn⟩:=hI;unfold NZ QD;rcases Awk k a.length with h |h
  ·rw[Hq h,Awp,Awr (BS h),Awa];have he:a.getD k AyN.zero=a[k]:=by simp[List.getD,h]
   rw[he];cases hb:(a[k]==b)with
   |true=>exact As.mk rfl
   |false =>
    rw[Awo,A3 (n:=k+1)];rw[beq_eq_false_iff_ne]at hb;refine As.mk ⟨a.length-(k+1),by omega,k+1,rfl,by omega,rfl,?_⟩;rw[List.drop_eq_getElem_cons h]at hn;rcases List.mem_cons.1 hn with hn |hn
    ·exact(hb hn.symm).elim
    ·exact hn
  ·rw[List.drop_eq_nil_of_le h]at hn;cases hn
 subst h2;rw[h1];rfl
theorem ic{a:Ayd}(ha:a.length<=1048576):Le a a=some true:=by
 unfold Le;rw[bne_self_eq_false,Awo];have:=A2 (f:=Dm a a) (λk=>(k:Int)) (t:=.inr ()) a.length (λk hk=>?_) ?_
 ·exact(congrArg (λo=>Option.bind o (Sum.elim (λ_=>some false) λ_=>some true)) this).trans rfl
 ·unfold Dm HL;rw[Hq hk,Awp,Awr (BS hk),Awr (BS hk),bne_self_eq_false,Awo,A3 (n:=k+1)]
 ·unfold Dm HL;rw[IB,Awo]
theorem ig{a:Aym}(ha:Rj a):Im (a,()) (a,())=some true:=by
 unfold Im;rw[bne_self_eq_false,Awo];have hl:=ha.1;have:=A2 (f:=Dl (a,()) (a,())) (λk=>(k:Int)) (t:=.inr ()) a.length (λk hk=>?_) ?_
 ·exact(congrArg (λo=>Option.bind o (Sum.elim (λ_=>some false) λ_=>some true)) this).trans rfl
 ·unfold Dl HK;rw[Hq hk,Awp,Awr (BS hk),Awr (BS hk),Awa,ic (ha.2 _ (AG hk)),Av9,AwT,Awo,A3 (n:=k+1)]
 ·unfold Dl HK;rw[IB,Awo]
theorem VJ{d:Ayg}{c:Aym}(hd:AZ d)(hc:Iw d c)(hb:Rj c):Nw d (c,())=some ((d.length+T6 c d.length:Nat):Int):=by
 unfold Nw;obtain⟨r,hr,hq⟩:=Ql hb;have aP:=hd.1;rw[hr,Av9,hq.2 ⟨hd,hc⟩,AwT,Awo];have:La c c.length d.length 0=some ((d.length+T6 c d.length:Nat):Int):=by
  unfold La;rw[hc.1];have:=A2 (f:=FY c (d.length:Int)) (λk=>(((d.length+T6 c k:Nat):Int),(k:Int))) (t:=((d.length+T6 c d.length:Nat):Int)) d.length (λk hk=>?_) ?_
  ·exact this
  ·unfold FY Ll;simp only;have e1:(c.getD k AyR.zero)=FR c k:=rfl;have g1:=l4 hb.row k;have g2:=hb.row k;rw[Hq hk,Awp,hc.1,Awr (BS hk),Awa,e1,TJ,A3 (n:=d.length+T6 c k+(FR c k).length),A3 (n:=k+1),Aw7]
  ·unfold FY Ll;simp only;rw[IB,Awo]
 show(La c c.length d.length 0).bind _=_;rw[this];rfl
theorem jK{a b:Ayd}(ha:a.length<=1048576)(hb:b.length<=1048576):C4 [a,b]=some (a++b):=by
 unfold C4;have h1:EF [a,b] (([a,b]:Aym).length:Int) 0 0=some ((a.length+b.length:Nat):Int):=by
  unfold EF;have:=A2 (f:=BU [a,b] (([a,b]:Aym).length:Int)) (λk=>(((if k=0 then 0 else if k=1 then a.length else a.length+b.length:Nat):Int),(k:Int))) (t:=((a.length+b.length:Nat):Int)) 2 (λk hk=>?_) ?_
  ·exact this
  ·unfold BU Dw EE;have:k=0\/k=1:=by omega
   rcases this with rfl |rfl
   ·simp only[Axg,AxW];rw[Jy,Awp,Mq];simp only[Axd,Awa,AwS];rw[A3 (n:=a.length),GL,Awo];rfl
   ·simp only[Axg,AxW];rw[Jy,Awp,Mq];have e1:(([a,b]:Aym).getD ((1:Nat):Int).toNat AyR.zero)=b:=rfl;rw[e1,OB,Awr trivial,OB,OB,A3 (n:=a.length+b.length),GL,Awo];rfl
  ·unfold BU Dw;simp only[Axg,AxW];rw[GL,Awo,OB,OB]
 have h2:∀(f:Int->Ayd->Ay0 (Ayv⊕Ayd)),(∀j k,f j k=bif decide (j<2)then(if(0:Int)<=j/\j<2 then(if(k.length+(([a,b]:Aym).getD j.toNat AyR.zero).length)*8<=140737488355328 then some (.inl (wI (j+1),k++([a,b]:Aym).getD j.toNat AyR.zero))else none)else none)else some (.inr k))->fix (λz:Int×Ayd=>f z.1 z.2) (0,[])=some (a++b):=λf hf=>by
  have:=A2 (f:=λz:Int×Ayd=>f z.1 z.2) (λk=>((k:Int),if k=0 then[]else if k=1 then a else a++b)) (t:=a++b) 2 (λk hk=>?_) ?_
  ·exact this
  ·have:k=0\/k=1:=by omega
   rcases this with rfl |rfl
   ·simp only[hf];rw[Jy,Awp,Mq];show(if((([]:Ayd)).length+a.length)*8<=140737488355328 then _ else _)=_;rw[Awr (by simp;omega)];rfl
   ·simp only[hf];rw[Jy,Awp,Mq];show(if(a.length+b.length)*8<=140737488355328 then _ else _)=_;rw[Mq];rfl
  ·simp only[hf];rw[GL,Awo];rfl
 rw[h1,Av9,GL,Awo,show wI (((a.length+b.length:Nat):Int)-0)=((a.length+b.length:Nat):Int)from A3];by_cases h0:1<=a.length+b.length
 ·rw[Jy,Awp,Mq,Mq,List.take_zero];have:EG [a,b] (([a,b]:Aym).length:Int) 0 []=some (a++b):=by
   unfold EG;exact h2 (λj k=>Gy [a,b] 2 j k) λj k=>rfl
  rw[this];rfl
 ·rw[GL,Awo];have:EH [a,b] (([a,b]:Aym).length:Int) 0 []=some (a++b):=by
   unfold EH;exact h2 (λj k=>GA [a,b] 2 j k) λj k=>rfl
  rw[this];rfl
section
variable {d:Ayg} {c:Aym} {f:Nat->Nat->Bool}
theorem sA(hd:AZ d)(hc:Iw d c)(hf:LL (C0 c) f){v:Nat}(hv:v<d.length){x:Int}(hx:x∈FR c v):x∈FR (Ba d f) v:=by
 rw[<-pA hd hc hv]at hx;obtain⟨p,rfl,h1,h2,h3⟩:=Og.1 hx;rw[O9 hv];exact Og.2 ⟨p,rfl,h1,h2,hf v p h3⟩
theorem jC(hd:AZ d)(hc:Iw d c)(qh:Rj c)(hf:LL (C0 c) f):Mr d (Ba d f,()) (c,())=some (true,Ba d f):=by
 obtain⟨jg,hb⟩:=SF hd f;have aP:=hd.1;unfold Mr Lh;obtain⟨r1,e1,q1⟩:=Ql (d:=d) hb;obtain⟨r2,e2,q2⟩:=VI qh hd;rw[e1,q1.2 ⟨hd,jg⟩,Av9,AwT,Awo,e2,q2.2 hc,Av9,AwT,Av9,Awo,Awr ⟨rfl,by omega,AxO _,by omega,by omega⟩,Awa];have hlen:(Ba d f).length=d.length:=jg.1;have:Lj (Ba d f,()) (c,()) (d.length:Int) 0 (List.replicate d.length [])=some (Ba d f):=by
  unfold Lj;have:=A2 (f:=DX (Ba d f,()) (c,()) (d.length:Int)) (λk=>((k:Int),(Ba d f).take k++List.replicate (d.length-k) [])) (t:=Ba d f) d.length (λk hk=>?_) ?_
  ·rw[List.take_zero,Axe,Nat.sub_zero]at this;exact this
  ·unfold DX IC Li;simp only;have r1:=hb.row k;have r2:=qh.row k;have es:P3 (Ur (FR (Ba d f) k++FR c k))=FR (Ba d f) k:=by
    obtain⟨u1,u2⟩:=iT (FR (Ba d f) k++FR c k);refine U2 (R:=(·<·)) (λ_ _ h=>h) u1 (by rw[O9 hk];exact PN _ _) λx=>?_;rw[u2,Axz];exact⟨λh=>h.elim id λh=>sA hd hc hf hk h,.inl⟩
   rw[Hq hk,Awp,hlen,Awr (BS hk),hc.1,Awr (BS hk),Awa];rw[show C4 [(Ba d f).getD k AyR.zero,c.getD k AyR.zero]=some (FR (Ba d f) k++FR c k)from jK r1 r2,Av9,Awr (by rw[Awd];omega),es,A3 (n:=k+1)];have hl:((Ba d f).take k).length=k:=by rw[Awu];omega
   rw[Awr (by rw[Awd,AwG,hl];omega),Av9];congr 3;rw[Axt _ _ (by omega),hl,Nat.sub_self,show d.length-k=(d.length-(k+1))+1 by omega,List.replicate_succ,List.set_cons_zero,List.take_succ_eq_append_getElem (by omega),Awh];congr 2;simp[FR,List.getD,show k<(Ba d f).length by omega]
  ·unfold DX IC;simp only;rw[IB,Awo,Nat.sub_self,List.replicate_zero,AwO,Awj (by omega)]
 rw[this];rfl
theorem Acs(hd:AZ d)(hc:Iw d c)(qh:Rj c)(hf:LL (C0 c) f)(l:Ayj):Kl d l (c,()) (Ba d f) 0=some (.inr ()):=by
 obtain⟨jg,hb⟩:=SF hd f;have hlen:(Ba d f).length=d.length:=jg.1;have aP:=hd.1;have U7:c.length=d.length:=hc.1;unfold Kl;refine A2 (f:=Dk d l (c,()) (Ba d f)) (λk=>(k:Int)) (t:=.inr ()) d.length (λk hk=>?_) ?_
 ·unfold Dk HJ;have hr:=qh.row k;have:Kk d l (k:Int) (c,()) (Ba d f) 0=some (.inr ()):=by
   unfold Kk;refine A2 (f:=Dj d l (k:Int) (c,()) (Ba d f)) (λi=>(i:Int)) (t:=.inr ()) (FR c k).length (λi hi=>?_) ?_
   ·unfold Dj HI;simp only[Awa];rw[Awr (BS (by omega))];show(bif decide ((i:Int)<((FR c k).length:Int))then _ else _)=_;rw[Hq hi,Awp,Awr (BS (by omega)),Awr (BS (by omega))];show(if(0:Int)<=(i:Int)/\(i:Int)<((FR c k).length:Int)then(Q7 (FR (Ba d f) k) ((FR c k).getD i 0)).bind _ else none)=_;rw[Awr (BS hi),AcQ (hb.row k) (sA hd hc hf hk (AG hi)),Av9,AwT,Awo,A3 (n:=i+1)]
   ·unfold Dj HI;simp only[Awa];rw[Awr (BS (by omega))];show(bif decide (((FR c k).length:Int)<((FR c k).length:Int))then _ else _)=_;rw[IB,Awo]
  simp only[U7];rw[Hq hk,Awp,this,Av9];simp only[Axh];rw[A3 (n:=k+1)]
 ·unfold Dk HJ;simp only[U7];rw[IB,Awo]
theorem y9{l:Ayj}(hd:AZ d)(hc:Iw d c)(qh:Rj c)(hl:∀x∈l,QM x)(gp:Qe d l)(hs:Hz d l)(hf:Ua d l c f):Kp d l (c,()) (Ba d f) 0=some (.inr ()):=by
 have ji:=gp.1;unfold Kp;obtain⟨t,h1,h2⟩:As (fix (Ft d l (c,()) (Ba d f)) 0) λt=>t=.inr ():=by
  refine BJ (λm (i:Int)=>∃k:Nat,i=(k:Int)/\k<=l.length/\m=l.length-k) (λm i hI=>?_) l.length 0 ⟨0,rfl,AwW _,rfl⟩;obtain⟨k,rfl,hk,rfl⟩:=hI;unfold Ft LO Kn;rcases Awk k l.length with h |h
  ·rw[Hq h,Awp];by_cases h3:(k:Int)<3
   ·rw[Awe h3,Awp,Av9];simp only[AxH];rw[A3 (n:=k+1),Mq,Mq];simp only[Awa,List.drop_zero,List.take_length];have TK:(l.take k++l.drop (k+1))=S3 l k:=rfl;rw[Awr (by rw[Awu];omega),Awr (by rw[Awu,AwJ];omega),TK];obtain⟨rc,ec,himp,Pj⟩:=Yd (d:=d) (l:=S3 l k) qh λx hx=>hl x (uo hx);rcases Pj with ⟨_,mj⟩|⟨_,_,_,_,g,rfl,hg⟩
    ·exact(mj ⟨hd,hc,oZ h gp,kp h hs⟩).elim
    ·obtain⟨g1,g2⟩:=SF hd g;obtain⟨f1,f2⟩:=SF hd f;have:=ko h hf hg;rw[himp,Av9];unfold Ko;simp only[AwT,Awo];rw[VJ hd g1 g2,Av9,VJ hd f1 f2,Av9,Av9,GL,Awo];exact As.mk ⟨l.length-(k+1),by omega,k+1,rfl,h,rfl⟩
   ·rw[Awc h3,Awo];exact As.mk rfl
  ·have:k=l.length:=by omega
   subst this;rw[IB,Awo];exact As.mk rfl
 rw[<-h2];exact h1
end
theorem law_ok(n:Ayd)(hn:Ty.Wf AyV n):NY n=some true:=by
 unfold NY YR;by_cases hl:(n.length:Int)>1048576
 ·rw[Awe hl,Awp]
 rw[Awc hl,Awo];obtain⟨d,l,c,e,hd6,AsR,jh,qh⟩:=yh (s:=n) (by omega) λx hx=>ArD (hn.2 x hx);rw[e,Av9];simp only;obtain⟨rc,ec,himp,Pj⟩:=Yd (d:=d) (l:=l) qh jh;rw[ec,Av9,himp,Av9];rcases Pj with ⟨rfl,mj⟩|⟨hd,jg,gp,hs,f,rfl,hf⟩
 ·rfl
 ·simp only[beq_self_eq_true,AwT,Awo];rw[Acs hd jg qh hf.le,Av9];simp only[Axh];obtain⟨f1,f2⟩:=SF hd f;obtain⟨rc2,ec2,AnF,Aqn⟩:=Yd (d:=d) (l:=l) f2 jh;rcases Aqn with ⟨_,mj⟩|⟨_,_,_,_,g,rfl,hg⟩
  ·exact(mj ⟨hd,f1,gp,hs⟩).elim
  have:=hg.unique (km hf.WY hf.cl);subst this;rw[AnF,Av9,jC hd jg qh hf.le,Av9];obtain⟨r1,e1,q1⟩:=Ql (d:=d) f2;unfold Km;simp only;rw[e1,q1.2 ⟨hd,f1⟩,Av9];simp only[AwT,Awo,ig f2,Av9];rw[y9 hd jg qh jh gp hs hf];rfl
end Go.Proofs.X
