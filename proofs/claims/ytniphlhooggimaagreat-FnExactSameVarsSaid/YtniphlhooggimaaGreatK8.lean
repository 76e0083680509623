import Derived.Test.YtniphlhooggimaaGreatK7
set_option linter.unusedVariables false
set_option linter.unusedSimpArgs false
namespace Go.Proofs.X
open Go Go.Va
set_option maxRecDepth 100000
noncomputable def Yw(d:ASw)(s:SC):Sg->SC
 |.co _=>s
 |.va v l n=>MH d (MH d s v l) v (l+n)
theorem km{d:ASw}{f0:Nat->Nat->Bool}:∀(fs:ATB Sg) (s:SC),(∀x∈fs,V0 d x)->CI d f0 s->tN s->CI d f0 (fs.foldl (Yw d) s)/\tN (fs.foldl (Yw d) s)/\QL s.1 (fs.foldl (Yw d) s).1/\(∀x∈fs,Sl d (fs.foldl (Yw d) s).1 x) /\
    ∀h,(∀x∈fs,Sl d h x)->QL s.1 h->QL (fs.foldl (Yw d) s).1 h
 |[],s,_,h1,h2=>⟨h1,h2,λ_ _ h=>h,λx hx=>(by grind),λ_ _ h=>h⟩
 |x::fs,s,Ge,h1,h2=>by
  have key:CI d f0 (Yw d s x)/\tN (Yw d s x)/\QL s.1 (Yw d s x).1/\Sl d (Yw d s x).1 x/\∀h,Sl d h x->QL s.1 h->QL (Yw d s x).1 h:=by
   cases x with
   |co b=>exact⟨h1,h2,λ_ _ h=>h,trivial,λ_ _ h=>h⟩
   |va v l n =>
    have hv:=(Ge _ AQr).1;exact⟨(h1.cut hv).cut hv,h2.cut.cut,λu q h=>bk _ v _ u q (bk s v l u q h),⟨(cM s v l).mono (bk _ v _),cM _ v _⟩,λh hh hs=>cN (cN hs hh.1) hh.2⟩
  obtain⟨k1,k2,k3,k4,k5⟩:=key;obtain⟨i1,i2,i3,i4,i5⟩:=km fs _ (λy hy=>Ge y (AQo _ hy)) k1 k2;refine⟨i1,i2,λu q h=>i3 u q (k3 u q h),λy hy=>?_,λh hh hs=>i5 h (λy hy=>hh y (AQo _ hy)) (k5 h (hh x AQr) hs)⟩;rcases List.mem_cons.1 hy with rfl |hy
  ·cases y with
   |co b=>trivial
   |va v l n=>exact⟨k4.1.mono i3,k4.2.mono i3⟩
  ·grind
theorem AhS{d:ASw}(hd:AB d){fs:ATB Sg}{i:Nat}(hi:i<fs.length)(Ge:V0 d (fs.getD i (.co []))){s:SC}(h1:s.2.length<=900000){a o1:Int}{x y:ASz}{dd:ATB AS7}{o:NX} :
    Gh a x y o1 (i:Int) d dd (M d 0 s.1) o (fV fs) s.2=some (d,M d 0 (Yw d s (fs.getD i (.co []))).1,(Yw d s (fs.getD i (.co []))).2):=by
 unfold Gh;simp only[APX,ko hi];rw[Cd,AQe (Bg hi)];cases hs:fs.getD i _ with
 |co b=>rfl
 |va v l n =>
  rw[hs]at Ge;obtain⟨hv,hn,hw⟩:=Ge;obtain⟨e0,iq,iU⟩:=MF hd hv;have QP:(MH d s v l).2.length<=s.2.length+1:=by unfold MH;split<;>simp
  have e1:BN a (JU (.va v l n)).1 (JU (.va v l n)).2.1 d _ s.2=some _:=Vb hd hv s (by omega);have e2:wI ((JU (.va v l n)).2.1+(JU (.va v l n)).2.2.1)=((l+n:Nat)):=A0 (show l+(n:Int)=_ by omega) (by omega);have e3:BN a (JU (.va v l n)).1 _ d _ _=some (d,M d 0 _,(MH d (MH d s v l) v (l+n)).2):=Vb hd hv _ (by omega);rw[e1,APW,e2,e3];rfl
theorem Ams{d:ASw}(hd:AB d){B1 B2:ATB Bt}(h1:Bo d B1)(h2:Bo d B2)(hl:B1.length=B2.length){f0:Nat->Nat->Bool}{s:SC}{o:NX}{N:Nat}(hI:LI d f0 s o N)(hN:N<=800000){a:Int}{dd:ATB AS7} :
    ∃s' o',JE a (fN B1) (fN B2) d dd (M d 0 s.1) o s.2=some (d,dd,M d 0 s'.1,o',s'.2)/\LI d f0 s' o' (N+8192)/\QL s.1 s'.1/\(∀v p x,x∈nx o v p->x∈nx o' v p)/\(∀x∈Ay B1++Ay B2,Sl d s'.1 x)/\(∀p,1<=p->p<B1.length->Yb B1 B2 s'.1 o' p) /\
     ∀h,eF d B1 B2 h->QL s.1 h->NJ d h o->QL s'.1 h/\NJ d h o':=by
 unfold JE;have hn1:(fN B1).length<=4096/\(fN B2).length<=4096/\1<=(fN B1).length:=by
  unfold fN;rw[Cd,Cd];have a1:=C6 (Dj B1);have a2:=C6 (Dj B2);rw[Cw]at a1 a2;have:=h1.1;have:=h2.2.1;rcases AQk _ with h0 |h0
  ·have e:Ay B1=[]:=AQR h0;have:=Cw B1;rw[e]at this;simp[Bh]at this;omega
  ·omega
 rw[qM hn1.2.2 (by omega) (by omega),APW];have efs:fN B1++fN B2=fV _:=(Sn _ _).symm;rw[efs];have vy:∀x∈Ay B1++Ay B2,V0 d x:=λx hx=>by
  rcases List.mem_append.1 hx with hx |hx
  ·exact(Zk h1 hx).1
  ·exact(Zk h2 hx).1
 have hfl:(Ay B1++Ay B2).length<=8192:=by
  have:=hn1.2.1;unfold fN at *;rw[Cd]at *;rw[AP0];omega
 have iP:OD a (fN B1) (fN B2) dd o (fV (Ay B1++Ay B2)) ((fV (Ay B1++Ay B2)).length) 0 d (M d 0 s.1) s.2=some (d,M d 0 ((Ay B1++Ay B2).foldl (Yw d) s).1,((Ay B1++Ay B2).foldl (Yw d) s).2):=by
  generalize Ay B1++Ay B2=fs at *;rw[Cd];have:=AW (f:=Dc a (fN B1) (fN B2) dd o (fV fs) fs.length) (λk=>(k,d,M d 0 ((fs.take k).foldl (Yw d) s).1,((fs.take k).foldl (Yw d) s).2)) (t:=(d,M d 0 (fs.foldl (Yw d) s).1,(fs.foldl (Yw d) s).2)) fs.length (λk hk=>?_) ?_
  ·exact this
  ·unfold Dc HJ;have hci:=(km (fs.take k) s (λx hx=>vy x (ARi hx)) hI.ci hI.todo).1;rw[Da hk,AhS hd hk (vy _ (AL hk)) (by have:=hci.len;omega),Bj hk (by omega),AX  hk,ARR];rfl
  ·unfold Dc HJ
   grind
 rw[iP,APW,Ai7 hd h1,APW,Ai7 hd h2,APW];obtain⟨i1,i2,i3,i4,i5⟩:=km _ s vy hI.ci hI.todo;generalize (Ay B1++Ay B2).foldl _ s=s1 at *;have vn:Ax (MX a (eD (Ay B1)) (eD (Ay B2)) dd 1 d (M d 0 s1.1) o s1.2) λr=>∃s' o',r=(d,M d 0 s'.1,o',s'.2)/\LI d f0 s' o' (N+2*(B1.length-1))/\QL s1.1 s'.1/\(∀v p x,x∈nx o v p->x∈nx o' v p)/\(∀p,1<=p->p<B1.length-1+1->Yb B1 B2 s'.1 o' p) /\
     ∀h,SP B1 B2 h->QL s1.1 h->NJ d h o->QL s'.1 h/\NJ d h o':=by
  have:=BW (f:=CW a (eD (Ay B1)) (eD (Ay B2)) dd) (λk x=>(((k+1:Nat)),d,M d 0 x.1.1,x.2,x.1.2)) (B1.length-1)
   (λk x=>LI d f0 x.1 x.2 (N+2*k)/\QL s1.1 x.1.1/\(∀v p y,y∈nx o v p->y∈nx x.2 v p)/\(∀p,1<=p->p<k+1->Yb B1 B2 x.1.1 x.2 p)/\∀h,SP B1 B2 h->QL s1.1 h->NJ d h o->QL x.1.1 h/\NJ d h x.2)
   (Q:=λr=>∃s' o',r=(d,M d 0 s'.1,o',s'.2)/\LI d f0 s' o' (N+2*(B1.length-1))/\QL s1.1 s'.1/\(∀v p x,x∈nx o v p->x∈nx o' v p)/\(∀p,1<=p->p<B1.length-1+1->Yb B1 B2 s'.1 o' p)/\∀h,SP B1 B2 h->QL s1.1 h->NJ d h o->QL s'.1 h/\NJ d h o')
   (λk x hk hx=>?_) (λx hx=>?_) (s0:=(s1,o)) ⟨⟨i1,i2,hI.nv,λv p=>hI.nl v p⟩,λ_ _ h=>h,λ_ _ _ h=>h,λp h1 h2=>by omega,λh _ hu hj=>⟨hu,hj⟩⟩
  ·exact this
  ·obtain⟨j1,j2,j3,j4,j5⟩:=hx;have hb:=h1.2.1;unfold CW Gu;obtain⟨s',o',e1,st⟩:=Awi hd h1 h2 hl (show k+1<B1.length by omega) (s:=x.1) (o:=x.2) (by have:=j1.ci.len;omega) (λv p=>by have:=j1.nl v p;omega);obtain⟨k1,k2,k3,k4,k5⟩:=AmC (by omega) (show k+1<B1.length by omega) j1 st;rw[jg,Da (show k+1<B1.length by omega),e1,A0  (n:=k+1+1) (by omega) (by omega)];refine Ax.mk ⟨(s',o'),rfl,k1,λu q h=>k2 u q (j2 u q h),λv p y hy=>k3 v p y (j3 v p y hy),λp cg gn=>?_,λh hs hu hj=>?_⟩
   ·rcases AP7 p _ with Bp |ZO
    ·exact(j4 p cg Bp).mono k2 k3
    grind
   grind
  ·unfold CW Gu;have:=h1.1;rw[jg,show B1.length-1+1=B1.length by omega,Ep];refine Ax.mk ⟨x.1,x.2,rfl,hx.1,hx.2.1,hx.2.2.1,?_,hx.2.2.2.2⟩
   grind
 obtain⟨r,hr,s',o',rfl,j1,j2,j3,j4,j5⟩:=vn;rw[hr];have hb:=h1.2.1;refine⟨s',o',rfl,⟨j1.ci,j1.todo,j1.nv,λv p=>by have:=j1.nl v p;omega⟩,λu q h=>j2 u q (i3 u q h),j3,λx hx=>?_,λp cg gn=>j4 p cg (by omega),λh hs hu hj=>j5 h hs.2 (i5 h hs.1 hu) hj⟩;cases x with
 |co b=>trivial
 |va v l n=>exact⟨(i4 _ hx).1.mono j2,(i4 _ hx).2.mono j2⟩
abbrev tL:Type:=ASz×ASz×Unit
abbrev Azp:tL:=([],[],())
noncomputable def Ov(d:ASw)(l:ASy)(i:Nat):tL:=((DX d (lS l i)).2,(DX d (lT l i)).2,())
theorem Ww{d:ASw}{l:ASy}(hd:AB d)(hl:∀x∈l,Gm x)(hp:CJ d l):Ax (Qd d l) λr=>(r.1=true/\BF d l/\r.2=(List.range l.length).map (Ov d l))\/(r.1=false/\¬BF d l):=by
 unfold Qd;have hlen:=hp.1;rw[AQe ⟨rfl,by omega,by omega,by omega,by omega⟩];refine Ax.bind (P:=λt=>(∃x,t=.inl x/\¬BF d l)\/(t=.inr ((List.range l.length).map (Ov d l))/\BF d l)) ?_ λt ht=>?_
 ·have z0:∀n,CL (Ov d l) _ n 0=List.replicate n ([],[],()):=λn=>MO _ _ _;refine Bn (λm x=>∃k:Nat,k<=l.length/\m=l.length-k/\x=((k:Int),CL (Ov d l) (Azp) l.length k)/\∀i,i<k->ju d l i) (λm x hI=>?_) _ _ ⟨0,AQH _,rfl,by grind,λi hi=>by omega⟩;obtain⟨k,hk,rfl,rfl,h3⟩:=hI;unfold Pu T8 R3;rcases AP7 k _ with h |h
  ·have hB:=hl _ (AL (z:=Ty.zero _) h);have vk:=hp.2 k h;obtain⟨ws,hw⟩:=XZ vk.2.2.1;obtain⟨my,mX⟩:=XZ (show 0<=D8 d _ by rw[vk.2.2.2];exact vk.2.2.1);have e1:Iu d (l.getD k _).2.2.1=some (DX d (lS l k)):=Y6 hd hB.1 hw;have e2:Iu d (l.getD k _).2.2.2.1=some (DX d (lT l k)):=Y6 hd hB.2 mX;rw[Da h,AQe (Bg h),APX,e1,APW,e2,APW];cases hc:(!(DX d _).1||!(DX d _).1)with
   |true =>
    refine Ax.mk (.inl ⟨_,rfl,λh'=>?_⟩);have:=sa.2 (h' k h);rw[hc]at this;cases this
   |false =>
    rw[H8,AQe (Bg h),Bj h (by omega)];refine Ax.mk ⟨l.length-(k+1),by omega,k+1,h,rfl,?_,λi hi=>?_⟩
    ·rw[<-Qw];rfl
    ·rcases AP7 i k with h' |h'
     ·grind
     ·rw[show i=k by omega];exact sa.1 hc
  ·have:k=l.length:=by omega
   subst this;rw[Ep];refine Ax.mk (.inr ⟨?_,h3⟩);congr 1;refine AQK λi hi=>?_;rw[AQe (List.mem_range.1 hi)]
 ·rcases ht with ⟨x,rfl,h⟩|⟨rfl,h⟩
  ·exact Ax.mk (.inr ⟨rfl,h⟩)
  ·exact Ax.mk (.inl ⟨rfl,h,rfl⟩)
def b1(d:ASw)(l:ASy)(i:Nat):ATB Bt:=Yl d (lS l i)
def b2(d:ASw)(l:ASy)(i:Nat):ATB Bt:=Yl d (lT l i)
theorem Rk{d:ASw}{l:ASy}(hd:AB d)(hl:∀x∈l,Gm x)(hp:CJ d l)(hs:BF d l){i:Nat}(hi:i<l.length) :
    Bo d (b1 d l i)/\Bo d (b2 d l i)/\(b1 d l i).length=(b2 d l i).length/\Ov d l i=(fN (b1 d l i),fN (b2 d l i),())/\(DX d (lS l i))=(true,fN (b1 d l i))/\(DX d (lT l i))=(true,fN (b2 d l i)):=by
 have hB:=hl _ (AL (z:=Ty.zero _) hi);obtain⟨h1,h2⟩:=hs i hi;have vk:=hp.2 i hi;obtain⟨ws,hw⟩:=XZ vk.2.2.1;obtain⟨my,mX⟩:=XZ (show 0<=D8 d _ by rw[vk.2.2.2];exact vk.2.2.1);obtain⟨a1,a2⟩:=ku hd hB.1 h1;obtain⟨c1,c2⟩:=ku hd hB.2 h2;have t1:=(gQ (t:=lS l i) hd hB.1 hw _ (AP2 _) ((lS l i).length-1) (by have:=hw.1;omega)).2;have t2:=(gQ (t:=lT l i) hd hB.2 mX _ (AP2 _) ((lT l i).length-1) (by have:=mX.1;omega)).2;have e:=vk.2.2.2;rw[Xt hw,Xt mX]at e;refine⟨a1.1,c1.1,?_,?_,Prod.ext h1 a2,Prod.ext h2 c2⟩
 ·have e1:((b1 d l i).length)=ws.getD _ 0:=t1;have e2:((b2 d l i).length)=my.getD _ 0:=t2;omega
 ·unfold Ov;rw[show(DX d (lS l i)).2=fN (b1 d l i)from a2,show(DX d (lT l i)).2=fN (b2 d l i)from c2]
def B6(d:ASw)(l:ASy)(h:Nat->Nat->Bool):Prop:=∀i,i<l.length->eF d (b1 d l i) (b2 d l i) h
structure aj (d:ASw) (l:ASy) (c:ASG) (f:Nat->Nat->Bool):Prop where
 le:QL (C0 c) f
 Yt:∀v p,f v p=true->v<d.length/\1<=p/\p<W d v
 cl:B6 d l f
 min:∀h,B6 d l h->QL (C0 c) h->QL f h
theorem aj.unique{d:ASw}{l:ASy}{c:ASG}{f g:Nat->Nat->Bool}(hf:aj d l c f)(hg:aj d l c g):f=g:=by
 funext v p
 rw[ARA];exact⟨hf.min g hg.cl hg.le v p,hg.min f hf.cl hf.le v p⟩
theorem AmO{d:ASw}{B1 B2:ATB Bt}(h1:Bo d B1)(h2:Bo d B2)(hl:B1.length=B2.length){f:Nat->Nat->Bool}{o:NX}(he:∀x∈Ay B1++Ay B2,Sl d f x)(hp:∀p,1<=p->p<B1.length->Yb B1 B2 f o p)
    (hc:∀v p u q:Nat,f v p=true->nk u q∈nx o v p->Hit d f u q):eF d B1 B2 f:=by
 have vac:∀{b:Bt},kN b=true->∃v a,b=.va v a:=λ{b} h=>by
  cases b with
  |co _=>cases h
  |va v a=>grind
 refine⟨he,λp cg gn=>⟨λgj hva=>?_,λgj hva=>?_⟩⟩
 ·obtain⟨u,b,e2⟩:=vac hva;unfold T3;cases f2:fst B2 p with
  |true=>rfl
  |false =>
   rw[e2];have hb:1<=b/\b<W d u:=by
    rcases ZZ h2 (show p<B2.length by omega)with ⟨q,_⟩|⟨_,⟨⟨_,q⟩,_⟩|⟨v,a,q,_,q1,q2,_⟩⟩
    ·grind
    ·grind
    grind
   cases f1:fst B1 p with
   |true=>exact(hp p cg gn).1 f1 f2 u b e2
   |false =>
    unfold T3 at gj;rw[f1]at gj;cases e1:QO B1 p with
    |co c=>rw[e1]at gj;cases gj
    |va v a =>
     rw[e1]at gj;exact hc v a u b gj ((hp p cg gn).2.2 f1 f2 v a u b e1 e2).1 hb.1 hb.2
 ·obtain⟨u,b,e1⟩:=vac hva;unfold T3;cases f1:fst B1 p with
  |true=>rfl
  |false =>
   rw[e1];have hb:1<=b/\b<W d u:=by
    rcases ZZ h1 gn with ⟨q,_⟩|⟨_,⟨⟨_,q⟩,_⟩|⟨v,a,q,_,q1,q2,_⟩⟩
    ·grind
    ·grind
    grind
   cases f2:fst B2 p with
   |true=>exact(hp p cg gn).2.1 f2 f1 u b e1
   |false =>
    unfold T3 at gj;rw[f2]at gj;cases e2:QO B2 p with
    |co c=>rw[e2]at gj;cases gj
    |va v a =>
     rw[e2]at gj;exact hc v a u b gj ((hp p cg gn).2.2 f1 f2 u b v a e1 e2).2 hb.1 hb.2
noncomputable def UC(d:ASw)(s:SC)(w:ASv):SC:=w.foldl (λs x=>MH d s x.1.toNat x.2.1.toNat) s
theorem AcB{d:ASw}{s:SC}{v p:Nat}(hv:v<d.length):(∀x∈s.2,x∈(MH d s v p).2)/\(∀u q,(MH d s v p).1 u q=true->s.1 u q=true\/nk u q∈(MH d s v p).2)/\(MH d s v p).2.length+free d (MH d s v p).1<=s.2.length+free d s.1:=by
 unfold MH;split
 ·rename_i hc;refine⟨λx hx=>AQu _ hx,λu q h=>?_,?_⟩
  ·rcases Fq.1 h with h |⟨rfl,rfl⟩
   ·grind
   ·exact .inr (AQv _ (List.mem_singleton.2 rfl))
  ·have:=fb hv hc.2.1 hc.2.2
   grind
 grind
theorem j7{d:ASw}{f0:Nat->Nat->Bool}:∀(w:ASv) (s:SC),(∀x∈w,∃u q:Nat,x=nk u q/\u<d.length)->CI d f0 s->CI d f0 (UC d s w)/\QL s.1 (UC d s w).1/\(∀u q,nk u q∈w->Hit d (UC d s w).1 u q) /\
    (∀x∈s.2,x∈(UC d s w).2)/\(∀u q,(UC d s w).1 u q=true->s.1 u q=true\/nk u q∈(UC d s w).2)/\(UC d s w).2.length+free d (UC d s w).1<=s.2.length+free d s.1/\∀h,(∀u q,nk u q∈w->Hit d h u q)->QL s.1 h->QL (UC d s w).1 h
 |[],s,_,h1=>⟨h1,λ_ _ h=>h,λ_ _ h=>(by grind),λ_ h=>h,λ_ _ h=>.inl h,AP2 _,λ_ _ h=>h⟩
 |x::w,s,hv,h1=>by
  obtain⟨u,q,rfl,hu⟩:=hv x AQr;have e:UC d s (nk u q::w)=UC d (MH d s u q) w:=by simp[UC,nk]
  obtain⟨k1,k2,k3⟩:=AcB (s:=s) (p:=q) hu;obtain⟨i1,i2,i3,i4,i5,i6,i7⟩:=j7 w (MH d s u q) (λy hy=>hv y (AQo _ hy)) (h1.cut hu);refine⟨i1,λa b h=>i2 a b (bk s u q a b h),λa b h=>?_,λy hy=>i4 y (k1 y hy),λa b h=>?_,AQq i6 k3,λh hh hs=>i7 h (λa b hm=>hh a b (AQo _ hm)) (cN hs (hh u q AQr))⟩
  ·rcases List.mem_cons.1 h with h |h
   ·obtain⟨rfl,rfl⟩:=Zd.1 h;exact(cM s a b).mono i2
   ·grind
  grind
theorem Acv{d:ASw}(hd:AB d){f0:Nat->Nat->Bool}{w:ASv}{s:SC}(hv:∀x∈w,∃u q:Nat,x=nk u q/\u<d.length)(hw:w.length<=1000000)(hs:CI d f0 s){a:Int}{o:NX} :
    Ip a o w (w.length:Int) 0 d (M d 0 s.1) s.2=some (d,M d 0 (UC d s w).1,(UC d s w).2):=by
 have:=AW (f:=CR a o w w.length) (λk=>(k,d,M d 0 (UC d s (w.take k)).1,(UC d s (w.take k)).2)) (t:=(d,M d 0 (UC d s w).1,(UC d s w).2)) w.length (λk hk=>?_) ?_
 ·exact this
 ·unfold CR Gq;obtain⟨u,q,e,hu⟩:=hv _ (AL (z:=Ty.zero _) hk);have hci:=(j7 (w.take k) s (λx hx=>hv x (ARi hx)) hs).1;simp only[APX,e];have e1:BN a (nk u q).1 (nk u q).2.1 d _ _=some (d,M d 0 _,(MH d (UC d s (w.take k)) u q).2):=Vb hd hu _ (by have:=hci.len;omega);have e2:UC d s (w.take (k+1))=MH d (UC d s (w.take k)) u q:=by
   rw[AX  hk,e];simp[UC,nk]
  rw[Da hk,AQc,AQe (Bg hk),e1,APW,Bj hk (by omega),e2]
 ·unfold CR Gq
  grind
theorem Acw{d:ASw}(hd:AB d){f0:Nat->Nat->Bool}{s1:SC}{o:NX}{N:Nat}(hI:LI d f0 s1 o N)(hN:N<=1000000){a:Int} :
    Ax (MU a o d (M d 0 s1.1) s1.2) λr=>∃s:SC,r=(d,M d 0 s.1,s.2)/\CI d f0 s/\QL s1.1 s.1/\(∀v p u q:Nat,s.1 v p=true->nk u q∈nx o v p->Hit d s.1 u q)/\∀h,QL s1.1 h->NJ d h o->QL s.1 h:=by
 refine Bn (λm (x:ASw×ASH×ASv)=>∃s:SC,x=(d,M d 0 s.1,s.2)/\m=s.2.length+free d s.1/\CI d f0 s/\QL s1.1 s.1/\(∀v p,s.1 v p=true->nk v p∈s.2\/∀u q,nk u q∈nx o v p->Hit d s.1 u q)/\∀h,QL s1.1 h->NJ d h o->QL s.1 h) (λm x hx=>?_) _ _ ⟨s1,rfl,rfl,hI.ci,λ_ _ h=>h,λv p h=>.inl (hI.todo v p h),λh hh _=>hh⟩;obtain⟨s,rfl,rfl,hci,QP,Il,AcX⟩:=hx;unfold Gr Ks;simp only;rcases AQk s.2.length with h0 |h0
 ·have e0:s.2=[]:=AQR h0;rw[show decide ((s.2.length:Int)>0)=false from Kg];refine Ax.mk ⟨s,rfl,hci,QP,λv p u q h hm=>?_,AcX⟩
  grind
 ·have hlen:=hci.len;obtain⟨v,p,ev,hvp⟩:=hci.BA _ (AL (z :=Aa.zero) (show s.2.length-1<s.2.length by omega));have ev:s.2.getD (s.2.length-1) Aa.zero=nk v p:=ev;rw[show decide ((s.2.length:Int)>0)=true from MN,A0 (x:=(s.2.length:Int)-1) (n:=s.2.length-1),AQe (Bg (by omega)),AQe ⟨by omega,by omega⟩];simp only[APX,ev];have rF:s.2=s.2.take (s.2.length-1)++[nk v p]:=by
   have:=AX (z :=Aa.zero) (l:=s.2) (k:=s.2.length-1) (by omega)
   grind
  have AFB:CI d f0 (s.1,s.2.take (s.2.length-1)):=⟨hci.le,hci.Yt,λx hx=>hci.BA x (ARi hx),by grind⟩;obtain⟨i1,i2,i3,i4,i5,i6,i7⟩:=j7 (nx o v p) (s.1,s.2.take (s.2.length-1)) (λx hx=>hI.nv v p x hx) AFB;have e1:=Acv hd (s:=(s.1,s.2.take (s.2.length-1))) (w:=nx o v p) (a:=a) (o:=o) (λx hx=>hI.nv v p x hx) (by have:=hI.nl v p;omega) AFB;have e1':Ip a o (Bv Aa ATp o (nk v p)) ((Bv Aa ATp o (nk v p)).length:Int) 0 d (M d 0 s.1) (s.2.take (s.2.length-1))=_:=e1;rw[e1'];simp only[AQh]at i6;refine Ax.mk ⟨(UC d (s.1,s.2.take (s.2.length-1)) (nx o v p)).2.length+free d (UC d (s.1,s.2.take (s.2.length-1)) (nx o v p)).1,by omega,_,rfl,rfl,i1,λu q h=>i2 u q (QP u q h),λu q h=>?_,λh h1 h2=>?_⟩
  ·rcases i5 u q h with h |h
   ·rcases Il u q h with h |h
    ·rw[rF]at h;rcases List.mem_append.1 h with h |h
     ·grind
     ·obtain⟨rfl,rfl⟩:=Zd.1 (List.mem_singleton.1 h);exact .inr λa b hm=>i3 a b hm
    ·exact .inr λa b hm=>(h a b hm).mono i2
   ·grind
  ·exact i7 h (λu q hm=>h2 v p u q hm (AcX h h1 h2 v p hvp)) (AcX h h1 h2)
theorem rM{d:ASw}{l:ASy}(hd:AB d)(hl:∀x∈l,Gm x):Ax (F7 d l) λr=>r=true↔CJ d l:=by
 have hdd:=hd.1;unfold F7;by_cases hlen:l.length<=60
 ·rw[APZ (by omega:¬(l.length:Int)>60)];refine Ax.bind (P:=λt=>(t=.inl ()/\¬∀i,i<l.length->WS d l i)\/(t=.inr ()/\∀i,i<l.length->WS d l i)) ?_ λt ht=>?_
  ·have:=BW (f:=B4 d l (l.length:Int)) (λj (_:Unit)=>((if j=0 then 0 else cj l (j-1):Int),(j:Int))) l.length (λj _=>∀k,k<j->WS d l k) (Q:=λt=>(t=.inl ()/\¬∀i,i<l.length->WS d l i)\/(t=.inr ()/\∀i,i<l.length->WS d l i)) (λj _ hj hJ=>?_) (λ_ hJ=>?_) (s0:=()) (λi h=>by omega)
   ·exact this
   ·unfold B4 DD;have hB:=hl _ (AL (z :=Ae.zero) hj);have e1:Gw d (l.getD j Ae.zero).2.2.1=some (D8 d (lS l j)):=QY hB.1 (by omega);have e2:Gw d (l.getD j Ae.zero).2.2.2.1=some (D8 d (lT l j)):=QY hB.2 (by omega);have e3:(l.getD j Ae.zero).1=cj l j:=rfl;rw[Da hj,AQe (Bg hj),APX,e1,APW];obtain⟨c,hc⟩:∃c:Int,c=if j=0 then 0 else cj l (j-1):=⟨_,rfl⟩;have hcb:0<=c/\c<=1000000/\(0<j->c=cj l (j-1))/\(j=0->c=0):=by
     by_cases h0:j=0
     ·omega
     ·rw[AQf h0]at hc;have:=(hJ (j-1) (by omega)).1;omega
    rw[<-hc];obtain⟨b,ik,oA⟩:∃b,Du d c (D8 d (lS l j)) l (l.length:Int) (j:Int) (l.getD j Ae.zero)=some b/\(b=false↔WS d l j):=by
     unfold Du WS;rw[e3,Lw,BX (x:=c+1),e2];by_cases h1:c+1<=cj l j/\cj l j<=1000000
     ·rw[AP1 h1];by_cases h2:D8 d (lS l j)<0
      ·rw[AP1 h2];exact⟨true,rfl,λh=>by grind,λh=>by omega⟩
      ·rw[APZ h2];refine⟨_,rfl,?_⟩
       grind
     ·rw[APZ h1];refine⟨true,rfl,λh=>by grind,λh=>?_⟩;omega
    rw[ik,APW];cases b with
    |true=>exact Ax.mk (.inl ⟨rfl,λh=>by grind⟩)
    |false =>
     rw[Bj hj (by omega)];refine Ax.mk ⟨(),rfl,λk hk=>?_⟩
     grind
   ·unfold B4 DD;rw[Ep];exact Ax.mk (.inr ⟨rfl,hJ⟩)
  ·rcases ht with ⟨rfl,h⟩|⟨rfl,h⟩
   ·exact Ax.mk ⟨λh=>by grind,λh'=>absurd h'.2 h⟩
   ·exact Ax.mk ⟨λ_=>⟨hlen,h⟩,λ_=>rfl⟩
 ·rw[AP1 (by omega:(l.length:Int)>60)];exact Ax.mk ⟨λh=>by grind,λh=>absurd h.1 hlen⟩
theorem rJ{d:ASw}{l:ASy}{c:ASG}(hc:Yv c)(hl:∀x∈l,Gm x):Ax (JD d l (c,())) λr =>
    (r=(false,[])/\¬(AB d/\CQ d c/\CJ d l/\BF d l))\/(AB d/\CQ d c/\CJ d l/\BF d l/\∃f,r=(true,Ai d f)/\aj d l c f):=by
 unfold JD LV;obtain⟨r1,e1,q1⟩:=vF (d:=d) hc;rw[e1,APW];cases r1 with
 |false=>exact Ax.mk (.inl ⟨rfl,λh=>by have:=q1.2 ⟨h.1,h.2.1⟩;cases this⟩)
 |true =>
  obtain⟨hd,WQ⟩:=q1.1 rfl;obtain⟨r2,e2,q2⟩:=rM (d:=d) hd hl;simp only[AQF,AQb,e2,APW];cases r2 with
  |false=>exact Ax.mk (.inl ⟨rfl,λh=>by have:=q2.2 h.2.2.1;cases this⟩)
  |true =>
   have HG:=q2.1 rfl;simp only[AQF,AQb];refine Ax.bind (Ww hd hl HG) λv hv=>?_;rcases hv with ⟨f1,hs,f2⟩|⟨f1,hs⟩
   ·rw[f1,f2];simp only[AQF,AQb];rw[rZ hd WQ hc,APW];simp only;have hln:=HG.1;obtain⟨Se,Qp⟩:=Aja hd WQ;have n0:∀v p,nx ([]:NX) v p=[]:=λv p=>rfl;have vn:Ax (LW 0 (((List.range l.length).map (Ov d l)).length:Int) 0 d ((List.range l.length).map (Ov d l)) (M d 0 (C0 c)) [] (g0 c d.length)) λr=>∃s o,r=(d,M d 0 s.1,o,s.2)/\LI d (C0 c) s o (8192*l.length)/\(∀i,i<l.length->(∀x∈Ay (b1 d l i)++Ay (b2 d l i),Sl d s.1 x)/\∀p,1<=p->p<(b1 d l i).length->Yb (b1 d l i) (b2 d l i) s.1 o p)/\∀h,B6 d l h->QL (C0 c) h->QL s.1 h/\NJ d h o:=by
     unfold LW;have:=BW (f:=D9 0 (((List.range l.length).map (Ov d l)).length:Int)) (λk (x:SC×NX)=>((k:Int),d,(List.range l.length).map (Ov d l),M d 0 x.1.1,x.2,x.1.2)) l.length
      (λk x=>LI d (C0 c) x.1 x.2 (8192*k)/\(∀i,i<k->(∀y∈Ay (b1 d l i)++Ay (b2 d l i),Sl d x.1.1 y)/\∀p,1<=p->p<(b1 d l i).length->Yb (b1 d l i) (b2 d l i) x.1.1 x.2 p)/\∀h,B6 d l h->QL (C0 c) h->QL x.1.1 h/\NJ d h x.2)
      (Q:=λr=>∃s o,r=(d,M d 0 s.1,o,s.2)/\LI d (C0 c) s o (8192*l.length)/\(∀i,i<l.length->(∀x∈Ay (b1 d l i)++Ay (b2 d l i),Sl d s.1 x)/\∀p,1<=p->p<(b1 d l i).length->Yb (b1 d l i) (b2 d l i) s.1 o p)/\∀h,B6 d l h->QL (C0 c) h->QL s.1 h/\NJ d h o)
      (λk x hk hx=>?_) (λx hx=>?_) (s0:=((C0 c,g0 c d.length),[])) ⟨⟨Se,Qp,λv p x hx=>(by rw[n0]at hx;cases hx),λv p=>(by rw[n0];simp)⟩,λi hi=>by omega,λh _ hh=>⟨hh,λv p u q hm=>(by rw[n0]at hm;cases hm)⟩⟩
     ·exact this
     ·obtain⟨j1,j2,j3⟩:=hx;obtain⟨s1,s2,s3,s4,_,_⟩:=Rk hd hl HG hs hk;have eg:((List.range l.length).map (Ov d l)).getD k (Ty.zero (.AE ATq (.AE ATq .unit)))=(fN (b1 d l k),fN (b2 d l k),()):=by
       rw[<-s4];exact I2 hk
      unfold D9 Jf;simp only[APX,eg];obtain⟨s',o',k1,k2,k3,k4,k5,k6,k7⟩:=Ams hd s1 s2 s3 j1 (by omega) (a:=0) (dd:=(List.range l.length).map (Ov d l));rw[AP8,AQD,Da hk,AQc,AQe (Bg hk),k1,APW,Bj hk (by omega)];refine Ax.mk ⟨(s',o'),rfl,by rw[show 8192*(k+1)=8192*k+8192 by omega];exact k2,λi hi=>?_,λh hh Gb=>?_⟩
      ·rcases AP7 i k with Bp |ZO
       ·obtain⟨a1,a2⟩:=j2 i Bp;refine⟨λy hy=>?_,λp p1 p2=>(a2 p p1 p2).mono k3 k4⟩;have:=a1 y hy;cases y with
        |co b=>trivial
        |va v l n=>exact⟨this.1.mono k3,this.2.mono k3⟩
       ·rw[show i=k by omega];exact⟨k5,k6⟩
      ·obtain⟨a1,a2⟩:=j3 h hh Gb;exact k7 h (hh k hk) a1 a2
     ·unfold D9 Jf;simp only;rw[AP8,AQD,Ep,AQb];exact Ax.mk ⟨x.1,x.2,rfl,hx⟩
    obtain⟨r,hr,s,o,rfl,j1,j2,j3⟩:=vn;rw[hr,APW];unfold LY;simp only;obtain⟨r,hr,s',rfl,k1,k2,k3,k4⟩:=Acw hd j1 (by omega) (a:=0);have de:=hd.1;rw[hr,APW];simp only;rw[AQe (show Ty.row ATo=true/\(0:Int)<=(d.length:Int)/\(d.length:Int)<=(d.length:Int)/\((24:Nat):Int)*(d.length:Int)<=281474976710656/\(d.length:Int)<=9223372036854775807 from⟨rfl,by omega,by omega,by omega,by omega⟩),X9,APX,
     ze hd (λv=>by cases hv:s'.1 v 0 with |false=>rfl |true=>have:=(k1.Yt v 0 hv).2.1;omega),APW,APW]
    refine Ax.mk (.inr ⟨hd,WQ,HG,hs,s'.1,rfl,k1.le,k1.Yt,λi hi=>?_,λh h1 h2=>?_⟩)
    ·obtain⟨s1,s2,s3,_,_,_⟩:=Rk hd hl HG hs hi;obtain⟨a1,a2⟩:=j2 i hi;refine AmO s1 s2 s3 (o:=o) (λy hy=>?_) (λp p1 p2=>(a2 p p1 p2).mono k2 λ_ _ _ h=>h) k3;have:=a1 y hy;cases y with
     |co b=>trivial
     |va v l n=>exact⟨this.1.mono k2,this.2.mono k2⟩
    ·obtain⟨a1,a2⟩:=j3 h h1 h2;exact k4 h a1 a2
   ·rw[f1];exact Ax.mk (.inl ⟨rfl,λh=>hs h.2.2.2⟩)
def sd(d:ASw)(l:ASy)(i s:Nat):ATB Bt:=if s=0 then b1 d l i else b2 d l i
def gR{A:Type}(f:Nat->Nat->A)(n:Nat):ATB A:=(List.range n).flatMap λi=>[f i 0,f i 1]
theorem lZ{A:Type}(f:Nat->Nat->A)(n:Nat):gR f (n+1)=gR f n++[f n 0,f n 1]:=by
 unfold gR;rw[AQ6];simp
theorem Wp{A:Type}(f:Nat->Nat->A):∀n,(gR f n).length=2*n
 |0=>rfl
 |n+1=>by rw[lZ,AP0,Wp f n];simp;omega
theorem AbH{A:Type}(f:Nat->Nat->A){z:A}:∀{n i s:Nat},i<n->s<2->(gR f n).getD (2*i+s) z=f i s
 |n+1,i,s,hi,hs=>by
  rw[lZ];simp;rcases AP7 i n with h |h
  ·rw[AQj (by rw[Wp];omega)];exact AbH f h hs
  ·have:i=n:=by omega
   subst this;rw[AQi (by rw[Wp];omega),Wp,show 2*i+s-2*i=s by omega]
   grind
theorem WI{d:ASw}{l:ASy}(hd:AB d)(hl:∀x∈l,Gm x)(hlen:l.length<=60):Ax (Oj d l) λr=>(r.1=true/\BF d l/\r.2=gR (λi s=>(DX d (if s=0 then lS l i else lT l i)).2) l.length)\/(r.1=false/\¬BF d l):=by
 refine Ax.bind (P:=λt=>(∃x,t=.inl x/\¬BF d l)\/(t=.inr (gR (λi s=>(DX d (if s=0 then lS l i else lT l i)).2) l.length)/\BF d l)) ?_ λt ht=>?_
 ·refine Bn (λm x=>∃k:Nat,k<=l.length/\m=l.length-k/\x.1=(k:Int)/\x.2=gR (λi s=>(DX d (if s=0 then lS l i else lT l i)).2) k/\∀i,i<k->ju d l i) (λm x hI=>?_) _ _ ⟨0,AQH _,rfl,rfl,rfl,λi hi=>by omega⟩;obtain⟨x1,x2⟩:=x;obtain⟨k,hk,rfl,h1,h2,h3⟩:=hI;subst h1;subst h2;unfold MC RN R3;simp only;rcases AP7 k _ with h |h
  ·have hB:=hl _ (AL (z:=Ty.zero _) h);have e1:Dn d (l.getD k _).2.2.1=some (DX d (lS l k)):=Rr hd hB.1;have e2:Dn d (l.getD k _).2.2.2.1=some (DX d (lT l k)):=Rr hd hB.2;rw[Da h,AQe (Bg h),APX,e1,APW,AQe (Bg h),e2,APW];cases hc:(!(DX d _).1||!(DX d _).1)with
   |true =>
    refine Ax.mk (.inl ⟨_,rfl,λh'=>?_⟩);have:=sa.2 (h' k h);rw[hc]at this;cases this
   |false =>
    rw[AQe (by rw[Wp];show(2*k+2)*24<=_;omega),Bj h (by omega)];refine Ax.mk ⟨l.length-(k+1),by omega,k+1,h,rfl,rfl,(lZ _ k).symm,λi hi=>?_⟩;rcases AP7 i k with h' |h'
    ·grind
    ·rw[show i=k by omega];exact sa.1 hc
  ·have:k=l.length:=by omega
   subst this;rw[Ep];exact Ax.mk (.inr ⟨rfl,h3⟩)
 ·rcases ht with ⟨x,rfl,h⟩|⟨rfl,h⟩
  ·exact Ax.mk (.inr ⟨rfl,h⟩)
  ·exact Ax.mk (.inl ⟨rfl,h,rfl⟩)
def bm(f:Nat->Nat->Bool):Sg->Nat->Nat->Bool
 |.co _=>f
 |.va v l n=>mark (mark f v l) v (l+n)
theorem Ai1{d:ASw}(hd:AB d){ks:ATB (ATB Sg)}{m i:Nat}(hm:m<ks.length)(hi:i<(ks.getD m []).length)(Ge:V0 d ((ks.getD m []).getD i (.co []))){f:Nat->Nat->Bool}{o:ASF} :
    Ln (m:Int) (i:Int) (M d 1 f) (ks.map fV) o=some (M d 1 (bm f ((ks.getD m []).getD i (.co [])))):=by
 unfold Ln;have e1:(ks.map fV).getD m (Ty.zero (.sl _))=fV (ks.getD m []):=Fj fV hm;simp only[APX,e1,ko hi];rw[AP8,AQe (Bg hm),Cd,AQe (Bg hi)];cases hs:(ks.getD m []).getD i _ with
 |co b=>rfl
 |va v a n =>
  rw[hs]at Ge;obtain⟨hv,hn,hw⟩:=Ge;obtain⟨e0,iq,iU⟩:=MF hd hv;have e2:(JU (.va v a n)).1=v:=rfl;have e3:(JU (.va v a n)).2.1=a:=rfl;have e5:(JU (.va v a n)).2.2.1=n:=rfl;have e4:wI (a+n)=((a+n:Nat)):=A0;simp only[e2,e3,e5,e4,APX];have q1:(M d 1 f).set v (((M d 1 f).getD v ATs.zero).set a true)=M d 1 _:=qe hv;simp only[q1];have q2:(M d 1 _).set v (((M d 1 _).getD v ATs.zero).set _ true)=M d 1 (mark (mark f v a) v (a+n)):=qe hv;simp only[q2];rw[show decide ((v:Int)>=0)=true from MN,X9,AQe (Bg hv),YG hv,Lk,AQe (show 0<=(a:Int)/\a<((W d v+1:Nat):Int)from⟨by omega,by omega⟩),X9,AQe (Bg hv),YG hv,Lk,AQe (show 0<=((a+n:Nat):Int)/\((a+n:Nat))<((W d v+1:Nat):Int)from⟨by omega,by omega⟩)];rfl
theorem Ai2{d:ASw}(hd:AB d){ks:ATB (ATB Sg)}{m:Nat}(hm:m<ks.length)(hb:(ks.getD m []).length<=1048576)(Ge:∀x∈ks.getD m [],V0 d x){f:Nat->Nat->Bool}{o:ASF} :
    Ul (m:Int) (ks.map fV) o 0 (M d 1 f)=some (M d 1 ((ks.getD m []).foldl bm f)):=by
 have e1:(ks.map fV).getD m (Ty.zero (.sl _))=fV (ks.getD m []):=Fj fV hm;have:=AW (f:=FV m (ks.map fV) o) (λk=>(k,M d 1 (((ks.getD m []).take k).foldl bm f))) (t:=M d 1 ((ks.getD m []).foldl bm f)) (ks.getD m []).length (λk hk=>?_) ?_
 ·exact this
 ·unfold FV Mu;simp only[APX,e1];rw[AP8,AQe (Bg hm),Cd,Da hk,Ai1 hd hm hk (Ge _ (AL hk)),Bj hk hb,AX  hk,ARR];rfl
 ·unfold FV Mu;simp only[APX,e1];rw[AP8,AQe (Bg hm),Cd,Ep,AQb,AP6 (AP2 _)]
def aN(B:ATB Bt):ASp:=(bV B,Ye (Ay B),())
theorem Ai3{d:ASw}(hd:AB d){bs:ATB (ATB Bt)}(hb:∀B∈bs,Bo d B)(hl:bs.length<=1000){f:Nat->Nat->Bool} :
    Um (bs.map fN) 0 (M d 1 f) []=some (M d 1 ((bs.flatMap Ay).foldl bm f),bs.map aN):=by
 have em:bs.map fN=(bs.map Ay).map fV:=by rw[ARV];rfl
 have:=AW (f:=FW (bs.map fN)) (λk=>(k,M d 1 (((bs.take k).flatMap Ay).foldl bm f),(bs.take k).map aN)) (t:=(M d 1 ((bs.flatMap Ay).foldl bm f),bs.map aN)) bs.length (λk hk=>?_) ?_
 ·exact this
 ·unfold FW Mv;have hB:=hb _ (AL (z:=[]) hk);have e1:(bs.map fN).getD k (Ty.zero (.sl _))=fN (bs.getD k []):=Fj fN hk;have e2:(bs.map Ay).getD k []=Ay (bs.getD k []):=Fj Ay hk;have e3:=Ai2 hd (ks:=bs.map Ay) (m:=k) (by grind) (by rw[e2];have:=C6 (Dj (bs.getD k []));rw[Cw]at this;have:=hB.2.1;omega) (by rw[e2];exact λx hx=>(Zk hB hx).1) (f:=((bs.take k).flatMap Ay).foldl bm f) (o:=(bs.take k).map aN);rw[<-em,e2]at e3;simp only[APX,e1];rw[AP8,Da hk,e3,APW,AQe (Bg hk),Aih hd hB,APW,AQe (by grind),Bj hk (by omega),AX  hk,ARD,ARR,AQG];simp only[List.flatMap_cons,List.flatMap_nil,AQB,ARK];rfl
 ·unfold FW Mv
  grind
def vR(f:Nat->Nat->Bool):Bt->Nat->Nat->Bool
 |.co _=>f
 |.va v a=>mark f v a
def il(A B:ATB Bt)(f:Nat->Nat->Bool)(p:Nat):Bool:=T3 A f p&&(!T3 B f p&&kN (QO B p))
section
variable {d:ASw} {l:ASy}
def Xn(d:ASw)(l:ASy):ASF:=gR (λi s=>aN (sd d l i s)) l.length
theorem fO{i s:Nat}(hi:i<l.length)(hs:s<2):(Xn d l).getD (2*i+s) Aq.zero=aN (sd d l i s):=AbH (λi s=>aN _) hi hs
structure YD (d:ASw) (l:ASy):Prop where
 hd:AB d
 len:l.length<=60
 inn:∀i s,i<l.length->Bo d (sd d l i s)
 sq:∀i,i<l.length->(sd d l i 0).length=(sd d l i 1).length
theorem YD.eq(h:YD d l){i:Nat}(hi:i<l.length)(s t:Nat):(sd d l i s).length=(sd d l i t).length:=by
 have:=h.sq i hi;unfold sd at this⊢
 grind
theorem Ai4(H:YD d l){i s p:Nat}(hi:i<l.length)(hs:s<2)(hp:p<(sd d l i 0).length){f:Nat->Nat->Bool}{q:Bool}{e j:Int} :
    Lp q ((2*i:Nat):Int) e j (p:Int) (s:Int) (M d 1 f) (Xn d l)=some (bif il (sd d l i s) (sd d l i (1-s)) f p then(true,M d 1 (vR f (QO (sd d l i (1-s)) p)))else(q,M d 1 f)):=by
 unfold Lp PZ;have hlen:=H.len;have e1:wI (((2*i:Nat))+s)=((2*i+s:Nat)):=A0;have e2:wI (wI (((2*i:Nat))+1)-s)=((2*i+(1-s):Nat)):=by
  rw[A0 (x:=((2*i:Nat))+1) (n:=2*i+1)];exact A0
 have g1:=fO (d:=d) hi hs;have g2:=fO (d:=d) hi (show 1-s<2 by omega);have hA:=H.inn i s hi;have hB:=H.inn i (1-s) hi;have hpA:p<(sd d l i s).length:=by rw[H.eq hi s 0];exact hp
 have hpB:p<(sd d l i (1-s)).length:=by rw[H.eq hi _ 0];exact hp
 have Im:(Xn d l).length=2*l.length:=Wp _ _;have eb:(bV _).getD p _=WY (QO _ p):=jF hpB;simp only[e1,e2,APX,g1,g2];rw[AQe (Bg (by omega)),AQe (Bg (by omega))];unfold aN;simp only[eb];rw[SI H.hd hA hpA,APW];unfold il;cases T3 _ f p with
 |false=>rfl
 |true =>
  rw[AQc,wR H.hd hB hpB,APW,APW,ARY];cases hw:(!T3 _ f p&&kN _)with
  |false=>rfl
  |true =>
   rw[Dr,AQe (Bg hpB)];have hb:=Afi hB hpB;cases hbb:QO _ p with
   |co c=>rw[hbb]at hw;simp[kN]at hw
   |va v a =>
    rw[hbb]at hb;obtain⟨hv,ha⟩:=hb;obtain⟨e0,iq,iU⟩:=MF H.hd hv;have m1:(M d 1 f).set v (((M d 1 f).getD v ATs.zero).set a true)=M d 1 _:=qe hv;have c1:(WY (.va v a)).1=v:=rfl;have c2:(WY (.va v a)).2.1=a:=rfl;simp only[c1,c2,APX,m1];rw[X9,AQe (Bg hv),AQe (Bg hpB),YG hv,Lk,AQe (show 0<=(a:Int)/\a<((W d v+1:Nat):Int)from⟨by omega,by omega⟩)];rfl
def tw(d:ASw)(f:Nat->Nat->Bool):Nat->Nat->Bool:=λv p=>decide (v<d.length/\1<=p/\p<W d v)&&f v p
theorem PH{f:Nat->Nat->Bool}{v p:Nat}:tw d f v p=true↔(v<d.length/\1<=p/\p<W d v)/\f v p=true:=by simp[tw]
theorem yF{B:ATB Bt}(h:Bo d B){p:Nat}(hp:p<B.length)(f:Nat->Nat->Bool):T3 B (tw d f) p=T3 B f p:=by
 unfold T3;rcases ZZ h hp with ⟨q,_⟩|⟨q,⟨⟨b,e⟩,_⟩|⟨v,a,e,h1,h2,h3,_⟩⟩
 ·grind
 ·rw[e];rfl
 ·rw[e];simp[AcW,tw,h1,h2,h3]
structure SW (d:ASw) (l:ASy) (fs:Nat->Nat->Bool) (ok:Prop) (q:Bool) (f:Nat->Nat->Bool):Prop where
 no:q=false->f=fs/\ok
 yes:q=true->free d f+1<=free d fs
 le:QL fs f
 min:∀h,B6 d l h->QL (tw d fs) h->QL (tw d f) h
theorem SW.imp{fs f:Nat->Nat->Bool}{ok ok':Prop}{q:Bool}(h:SW d l fs ok q f)(hi:ok->ok'):SW d l fs ok' q f:=⟨λe=>⟨(h.no e).1,hi (h.no e).2⟩,h.yes,h.le,h.min⟩
def xA(d:ASw)(l:ASy)(fs:Nat->Nat->Bool)(i p s:Nat):Prop:=il (sd d l i s) (sd d l i (1-s)) fs p=false
theorem AmQ(H:YD d l){fs f:Nat->Nat->Bool}{ok:Prop}{q:Bool}(h:SW d l fs ok q f){i s p:Nat}(hi:i<l.length)(hs:s<2)(cg:1<=p)(hp:p<(sd d l i 0).length) :
    SW d l fs (ok/\xA d l fs i p s) (bif il (sd d l i s) (sd d l i (1-s)) f p then true else q) (bif il (sd d l i s) (sd d l i (1-s)) f p then vR f (QO (sd d l i (1-s)) p)else f):=by
 cases hh:il (sd d l i s) (sd d l i (1-s)) f p with
 |false =>
  refine⟨λe=>?_,h.yes,h.le,h.min⟩;obtain⟨e1,e2⟩:=h.no e;exact⟨e1,e2,by rw[e1]at hh;exact hh⟩
 |true =>
  have hA:=H.inn i s hi;have hB:=H.inn i (1-s) hi;have hpA:p<(sd d l i s).length:=by rw[H.eq hi s 0];exact hp
  have hpB:p<(sd d l i (1-s)).length:=by rw[H.eq hi (1-s) 0];exact hp
  unfold il at hh;rw[AP3,AP3,ARk]at hh;obtain⟨c1,c2,c3⟩:=hh;have key:∃v a,QO (sd d l i (1-s)) p=.va v a/\v<d.length/\1<=a/\a<W d v/\f v a=false:=by
   rcases ZZ hB hpB with ⟨e,_⟩|⟨e,⟨⟨b,e'⟩,_⟩|⟨v,a,e',h1,h2,h3,_⟩⟩
   ·unfold T3 at c2;rw[e]at c2;cases c2
   ·rw[e']at c3;cases c3
   ·refine⟨v,a,e',h1,h2,h3,?_⟩;unfold T3 at c2;rw[e,e',ASa]at c2;exact c2
  obtain⟨v,a,e1,h1,h2,h3,h4⟩:=key;have QP:QL f (vR f (QO (sd d l i (1-s)) p)):=λu b hu=>by rw[e1];exact Fq.2 (.inl hu)
  have ALW:free d (vR f (QO (sd d l i (1-s)) p))+1<=free d f:=by rw[e1];exact fb h1 h3 h4
  refine⟨λe=>(by cases e),λ_=>?_,λu b hu=>QP u b (h.le u b hu),λg hg hgs=>?_⟩
  ·rw[AQc];have:free d f<=free d fs:=ARQ λx _ hx=>by
    simp only[ARk]at hx⊢;cases hq:fs x.1 x.2 with
    |false=>rfl
    |true=>rw[h.le _ _ hq]at hx;cases hx
   omega
  ·rw[AQc,e1];have hm:=h.min g hg hgs;intro u b hub;obtain⟨hr,hub⟩:=PH.1 hub;rcases Fq.1 hub with hub |⟨rfl,rfl⟩
   ·exact hm u b (PH.2 ⟨hr,hub⟩)
   ·have AFC:T3 (sd d l i s) g p=true:=by
      rw[<-yF hA hpA f]at c1;unfold T3 at c1⊢;rw[ARh]at c1⊢;refine c1.imp id λc=>?_;cases hx:QO (sd d l i s) p with
      |co _=>rw[hx]at c;cases c
      |va v' a'=>rw[hx]at c;exact hm v' a' c
    have gj:T3 (sd d l i (1-s)) g p=true:=by
     have Y4:=(hg i hi).2 p cg hp
     match s,hs with
     |0,_=>exact Y4.1 AFC c3
     |1,_=>exact Y4.2 AFC c3
    unfold T3 at gj c2;rw[AQ0]at c2;rw[c2.1,e1,ASa]at gj;exact gj
theorem Ai5(H:YD d l){i p:Nat}(hi:i<l.length)(cg:1<=p)(hp:p<(sd d l i 0).length){fs f:Nat->Nat->Bool}{ok:Prop}{q:Bool}(h:SW d l fs ok q f){e j:Int} :
    Ax (Un ((2*i:Nat):Int) e j (Xn d l) (p:Int) q 0 (M d 1 f)) λr=>∃f',r.2=M d 1 f'/\SW d l fs (ok/\xA d l fs i p 0/\xA d l fs i p 1) r.1 f':=by
 have:=BW (f:=FX ((2*i:Nat)) e j (Xn d l) p) (λk x=>(x.1,k,M d 1 x.2)) 2 (λk x=>SW d l fs (ok/\∀s,s<k->xA d l fs i p s) x.1 x.2) (Q:=λr=>∃f',r.2=M d 1 f'/\SW d l fs (ok/\xA d l fs i p 0/\xA d l fs i p 1) r.1 f') (λk x hk hx=>?_) (λx hx=>?_) (s0:=(q,f)) (h.imp λh=>⟨h,λs hs=>by omega⟩)
 ·exact this
 ·unfold FX Mw;rw[show decide ((k:Int)<2)=true from MN,Ai4 H hi hk hp,Bj  hk (by omega)];have:=AmQ H hx hi hk cg hp;refine Ax.mk ⟨(bif il _ _ x.2 p then true else x.1,bif il _ _ x.2 p then vR x.2 _ else x.2),?_,this.imp λ⟨⟨h1,h2⟩,h3⟩=>⟨h1,λs hs=>?_⟩⟩
  ·grind
  grind
 ·unfold FX Mw;exact Ax.mk ⟨x.2,rfl,hx.imp λ⟨h1,h2⟩=>⟨h1,h2 0 (by omega),h2 1 (by omega)⟩⟩
theorem AdW(H:YD d l){i k:Nat}(hi:i<l.length)(hk:1<=k)(hk2:k<2*(sd d l i 0).length){fs f:Nat->Nat->Bool}{ok:Prop}{q:Bool}(h:SW d l fs ok q f) :
    Ax (J9 q ((2*i:Nat):Int) ((sd d l i 0).length:Int) (k:Int) (M d 1 f) (Xn d l)) λr=>∃f',r.2=M d 1 f'/\SW d l fs (ok/\(k<(sd d l i 0).length->xA d l fs i k 0/\xA d l fs i k 1)) r.1 f':=by
 unfold J9 R3 PY;have hb:=(H.inn i 0 hi).2.1;have ep:(bif decide (k>=((sd d l i 0).length:Int))then wI (wI (2*((sd d l i 0).length))-k)else k)=((if(sd d l i 0).length<=k then 2*(sd d l i 0).length-k else k)):=by
  by_cases hc:(sd d l i 0).length<=k
  ·rw[MN,AQe hc,A0 (x:=2*((sd d l i 0).length)) (n:=2*(sd d l i 0).length)];exact A0
  grind
 rw[ep];obtain⟨p,hp⟩:∃p,p=if(sd d l i 0).length<=k then 2*(sd d l i 0).length-k else k:=⟨_,rfl⟩;rw[<-hp];have hpk:k<(sd d l i 0).length->p=k:=λBp=>by grind
 have cg:1<=p:=by grind
 rw[show decide _=false from Kg,AQb];by_cases hc:p<(sd d l i 0).length
 ·rw[show decide _=false from Kg,AQb,APW];refine Ax.bind (Ai5 H hi cg hc h) λr hr=>?_;obtain⟨f',e1,e2⟩:=hr;refine Ax.mk ⟨f',e1,e2.imp λ⟨h1,h2⟩=>⟨h1,λBp=>?_⟩⟩;rw[<-hpk Bp];exact h2
 ·rw[show decide _=true from MN,AQc];exact Ax.mk ⟨f,rfl,h.imp λh1=>⟨h1,λBp=>by omega⟩⟩
theorem AdX(H:YD d l){i:Nat}(hi:i<l.length){fs f:Nat->Nat->Bool}{ok:Prop}{q:Bool}(h:SW d l fs ok q f) :
    Ax (SX ((2*i:Nat):Int) (Xn d l) ((sd d l i 0).length:Int) q 1 (M d 1 f)) λr=>∃f',r.2=M d 1 f'/\SW d l fs (ok/\∀p,1<=p->p<(sd d l i 0).length->xA d l fs i p 0/\xA d l fs i p 1) r.1 f':=by
 have hb:=(H.inn i 0 hi).2.1;have ik:=(H.inn i 0 hi).1;have ew:wI (2*((sd d l i 0).length))=((2*(sd d l i 0).length:Nat)):=A0;have:=BW (f:=EV ((2*i)) (Xn d l) ((sd d l i 0).length)) (λk x=>(x.1,((k+1:Nat)),M d 1 x.2)) (2*(sd d l i 0).length-1) (λk x=>SW d l fs (ok/\∀p,1<=p->p<k+1->p<(sd d l i 0).length->xA d l fs i p 0/\xA d l fs i p 1) x.1 x.2) (Q:=λr=>∃f',r.2=M d 1 f'/\SW d l fs (ok/\∀p,1<=p->p<(sd d l i 0).length->xA d l fs i p 0/\xA d l fs i p 1) r.1 f') (λk x hk hx=>?_) (λx hx=>?_) (s0:=(q,f)) (h.imp λh=>⟨h,λp h1 h2=>by omega⟩)
 ·exact this
 ·unfold EV K3;rw[ew,Da (show k+1<2*(sd d l i 0).length by omega),A0 (x:=((k+1:Nat))+1) (n:=k+1+1)];refine Ax.bind (AdW H hi (by omega) (by omega) hx) λr hr=>?_;obtain⟨f',e1,e2⟩:=hr;refine Ax.mk ⟨(r.1,f'),by grind,e2.imp λ⟨⟨h1,h2⟩,h3⟩=>⟨h1,λp p1 p2 p3=>?_⟩⟩
  grind
 ·unfold EV K3;rw[ew,show 2*(sd d l i 0).length-1+1=2*(sd d l i 0).length by omega,Ep];exact Ax.mk ⟨x.2,rfl,hx.imp λ⟨h1,h2⟩=>⟨h1,λp p1 p2=>h2 p p1 (by omega) p2⟩⟩
def eE(d:ASw)(l:ASy)(fs:Nat->Nat->Bool)(n:Nat):Prop:=∀i,i<n->∀p,1<=p->p<(sd d l i 0).length->xA d l fs i p 0/\xA d l fs i p 1
theorem AdY(H:YD d l)(fs:Nat->Nat->Bool):Ax (SY (Xn d l) false 0 (M d 1 fs)) λr=>∃f',r.2=M d 1 f'/\SW d l fs (eE d l fs l.length) r.1 f':=by
 have hlen:=H.len;have Im:(Xn d l).length=2*l.length:=Wp _ _;have:=BW (f:=EW (Xn d l)) (λk x=>(x.1,((2*k:Nat)),M d 1 x.2)) l.length (λk x=>SW d l fs (eE d l fs k) x.1 x.2) (Q:=λr=>∃f',r.2=M d 1 f'/\SW d l fs (eE d l fs l.length) r.1 f') (λk x hk hx=>?_) (λx hx=>?_) (s0:=(false,fs)) ⟨λ_=>⟨rfl,λi hi=>by omega⟩,λe=>(by grind),λ_ _ h=>h,λ_ _ h=>h⟩
 ·exact this
 ·unfold EW K4;have g1:=fO (d:=d) hk (show 0<2 by omega);rw[AR2]at g1;simp only[APX,g1];have e1:(aN _).1.length=(sd d l k 0).length:=Dr _;rw[Im,Da (show 2*k<2*l.length by omega),AQe (Bg (by omega)),e1,A0  (n:=2*(k+1)) (by omega) (by omega)];refine Ax.bind (AdX H hk hx) λr hr=>?_;obtain⟨f',e1,e2⟩:=hr;refine Ax.mk ⟨(r.1,f'),by grind,e2.imp λ⟨h1,h2⟩ i hi=>?_⟩;rcases AP7 i k with h' |h'
  ·exact h1 i h'
  grind
 ·unfold EW K4;rw[Im,Ep];exact Ax.mk ⟨x.2,rfl,hx⟩
theorem AdZ(H:YD d l)(f0:Nat->Nat->Bool):Ax (SZ (Xn d l) true (M d 1 f0)) λr=>∃f,r=M d 1 f/\QL f0 f/\eE d l f l.length/\∀h,B6 d l h->QL (tw d f0) h->QL (tw d f) h:=by
 refine Bn (λm x=>∃f,x.2=M d 1 f/\m=free d f+(if x.1 then 1 else 0)/\QL f0 f/\(x.1=false->eE d l f l.length)/\∀h,B6 d l h->QL _ h->QL (tw d f) h) (λm x hx=>?_) _ _ ⟨f0,rfl,rfl,λ_ _ h=>h,λe=>(by grind),λ_ _ h=>h⟩;obtain⟨q,t⟩:=x;obtain⟨f,e1,rfl,QP,gm,AcX⟩:=hx;subst e1;unfold K5 Qm;cases q with
 |false=>exact Ax.mk ⟨f,rfl,QP,gm rfl,AcX⟩
 |true =>
  refine Ax.bind (AdY H f) λr hr=>?_;obtain⟨f',e1,e2⟩:=hr;refine Ax.mk ⟨free d f'+(if r.1 then 1 else 0),?_,f',e1,rfl,λu b hu=>e2.le u b (QP u b hu),λe=>?_,λh hh hs=>e2.min h hh (AcX h hh hs)⟩
  ·cases hq:r.1 with
   |false=>rw[(e2.no hq).1];simp
   |true=>have:=e2.yes hq;simp;omega
  ·obtain⟨q1,q2⟩:=e2.no e;rw[q1];exact q2
end
theorem uJ{d:ASw}:∀(fs:ATB Sg) (f:Nat->Nat->Bool),(∀x∈fs,V0 d x)->QL f (fs.foldl bm f)/\(∀x∈fs,Sl d (tw d (fs.foldl bm f)) x)/\∀h,(∀x∈fs,Sl d h x)->QL (tw d f) h->QL (tw d (fs.foldl bm f)) h
 |[],f,_=>⟨λ_ _ h=>h,λx hx=>(by cases hx),λ_ _ h=>h⟩
 |x::fs,f,Ge=>by
  obtain⟨i1,i2,i3⟩:=uJ fs (bm f x) λy hy=>Ge y (AQo _ hy);have k1:QL f (bm f x):=by
   cases x with
   |co b=>exact λ_ _ h=>h
   |va v l n=>exact λu q h=>Fq.2 (.inl (Fq.2 (.inl h)))
  refine⟨λu q h=>i1 u q (k1 u q h),λy hy=>?_,λh hh hs=>i3 h (λy hy=>hh y (AQo _ hy)) ?_⟩
  ·rcases List.mem_cons.1 hy with rfl |hy
   ·cases y with
    |co b=>trivial
    |va v l n =>
     have hv:=(Ge _ AQr).1;exact⟨λh1 h2=>PH.2 ⟨⟨hv,h1,h2⟩,i1 v l (Fq.2 (.inl (Fq.2 (.inr ⟨rfl,rfl⟩))))⟩,λh1 h2=>PH.2 ⟨⟨hv,h1,h2⟩,i1 v (l+n) (Fq.2 (.inr ⟨rfl,rfl⟩))⟩⟩
   ·exact i2 y hy
  ·have hx:=hh x AQr;cases x with
   |co b=>exact hs
   |va v l n =>
    intro u q hq;obtain⟨hr,hq⟩:=PH.1 hq;rcases Fq.1 hq with hq |⟨rfl,rfl⟩
    ·rcases Fq.1 hq with hq |⟨rfl,rfl⟩
     ·exact hs u q (PH.2 ⟨hr,hq⟩)
     ·exact hx.1 hr.2.1 hr.2.2
    ·exact hx.2 hr.2.1 hr.2.2
theorem AbI{A B:Type}(f:Nat->Nat->A)(g:A->B)(n:Nat):(gR f n).map g=gR (λi s=>g (f i s)) n:=by
 unfold gR;rw[List.map_flatMap];rfl
theorem jh{A:Type}{f:Nat->Nat->A}{n:Nat}{x:A}:x∈gR f n↔∃i,i<n/\(x=f i 0\/x=f i 1):=by
 unfold gR;rw[List.mem_flatMap];simp
theorem sd0(d:ASw)(l:ASy)(i:Nat):sd d l i 0=b1 d l i:=rfl
theorem sd1(d:ASw)(l:ASy)(i:Nat):sd d l i 1=b2 d l i:=rfl
theorem AD6{d:ASw}{l:ASy}(hd:AB d)(hl:∀x∈l,Gm x)(hp:CJ d l)(hs:BF d l):YD d l where
 hd:=hd
 len:=hp.1
 inn i s hi:=by
  obtain⟨h1,h2,_⟩:=Rk hd hl hp hs hi;unfold sd;split
  ·exact h1
  ·exact h2
 sq i hi:=(Rk hd hl hp hs hi).2.2.1
theorem AvG{d:ASw}{l:ASy}(H:YD d l){f:Nat->Nat->Bool}(h:eE d l f l.length){i:Nat}(hi:i<l.length):SP (b1 d l i) (b2 d l i) (tw d f):=by
 intro p cg gn;have e:=H.sq i hi;rw[sd0,sd1]at e;obtain⟨c0,c1⟩:=h i hi p cg gn;have hA:Bo d (b1 d l i):=H.inn i 0 hi;have hB:Bo d (b2 d l i):=H.inn i 1 hi;rw[yF hA gn,yF hB (by omega)];have c0:il (b1 d l i) (b2 d l i) f p=false:=c0;have c1:il (b2 d l i) (b1 d l i) f p=false:=c1;unfold il at c0 c1;constructor
 ·intro h1 h2;rw[h1,h2]at c0;simpa using c0
 ·intro h1 h2;rw[h1,h2]at c1;simpa using c1
theorem sC{d:ASw}{l:ASy}{c:ASG}(hc:Yv c)(hl:∀x∈l,Gm x):Ax (Ci d l (c,())) λr =>
    (r=(([],()),false)/\¬(AB d/\CQ d c/\CJ d l/\BF d l))\/(AB d/\CQ d c/\CJ d l/\BF d l/\∃f,r=((Ai d f,()),true)/\aj d l c f):=by
 unfold Ci Md;obtain⟨r1,e1,q1⟩:=Wn (d:=d) hc;rw[e1,APW];cases r1 with
 |false=>exact Ax.mk (.inl ⟨rfl,λh=>by have:=q1.2 ⟨h.1,h.2.1⟩;cases this⟩)
 |true =>
  obtain⟨hd,WQ⟩:=q1.1 rfl;obtain⟨r2,e2,q2⟩:=Wo (d:=d) hl;simp only[AQF,AQb,e2,APW];cases r2 with
  |false=>exact Ax.mk (.inl ⟨rfl,λh=>by have:=q2.2 ⟨h.1,h.2.2.1⟩;cases this⟩)
  |true =>
   have HG:=(q2.1 rfl).2;simp only[AQF,AQb];rw[dS hd WQ hc,APW];unfold UL;obtain⟨r3,e3,q3⟩:=WI hd hl HG.1;rw[e3,APW];rcases q3 with ⟨f1,hs,f2⟩|⟨f1,hs⟩
   ·rw[f1,f2];simp only[AQF,AQb];have H:=AD6 hd hl HG hs;have ef:gR (λi s=>(DX d (if s=0 then lS l i else lT l i)).2) l.length=(gR (sd d l) l.length).map fN:=by
     rw[AbI];unfold gR;rw[List.flatMap_def,List.flatMap_def];congr 1;refine AQK λi hi=>?_;obtain⟨_,_,_,_,a1,a2⟩:=Rk hd hl HG hs (List.mem_range.1 hi);simp only[AQJ,show ¬(1:Nat)=0 by omega,ARo,a1,a2];rfl
    have hbs:∀B∈gR (sd d l) l.length,Bo d B:=λB hB=>by
     obtain⟨i,hi,h |h⟩:=jh.1 hB
     ·rw[h];exact H.inn i 0 hi
     ·rw[h];exact H.inn i 1 hi
    have es:(gR (sd d l) l.length).map aN=Xn d l:=AbI _ _ _;have hln:=HG.1;rw[ef,Ai3 hd hbs (by rw[Wp];omega),APW,es];have vy:∀x∈(gR (sd d l) l.length).flatMap Ay,V0 d x:=λx hx=>by
     obtain⟨B,hB,hx⟩:=List.mem_flatMap.1 hx;exact(Zk (hbs B hB) hx).1
    obtain⟨i1,i2,i3⟩:=uJ _ (C0 c) vy;obtain⟨r4,e4,f,rfl,j1,j2,j3⟩:=AdZ H (((gR (sd d l) l.length).flatMap Ay).foldl bm (C0 c));simp only[e4,APW,AQF,AQb];rw[nF hd,APW];have eo:Ai d f=Ai d (tw d f):=qO λv p hv hp h1=>by simp[tw,hv,hp,h1]
    have rz:∀{i:Nat} {x:Sg},i<l.length->x∈Ay (b1 d l i)++Ay (b2 d l i)->x∈(gR (sd d l) l.length).flatMap Ay:=λ{i x} hi hx=>by
     rcases List.mem_append.1 hx with hx |hx
     ·exact List.mem_flatMap.2 ⟨_,jh.2 ⟨i,hi,.inl rfl⟩,hx⟩
     ·exact List.mem_flatMap.2 ⟨_,jh.2 ⟨i,hi,.inr rfl⟩,hx⟩
    refine Ax.mk (.inr ⟨hd,WQ,HG,hs,tw d f,by rw[eo],⟨λv p h=>PH.2 ⟨xO hd WQ h,j1 v p (i1 v p h)⟩,λv p h=>(PH.1 h).1,λi hi=>⟨λx hx=>?_,AvG H j2 hi⟩,λh hh Gb=>j3 h hh (i3 h (λx hx=>?_) λu q hq=>Gb u q (PH.1 hq).2)⟩⟩)
    ·have:=i2 x (rz hi hx);have QP:QL (tw d (((gR (sd d l) l.length).flatMap Ay).foldl bm (C0 c))) (tw d f):=λu q hq=>PH.2 ⟨(PH.1 hq).1,j1 u q (PH.1 hq).2⟩;cases x with
     |co b=>trivial
     |va v a n=>exact⟨this.1.mono QP,this.2.mono QP⟩
    ·obtain⟨B,hB,hx⟩:=List.mem_flatMap.1 hx;obtain⟨i,hi,e |e⟩:=jh.1 hB
     ·exact(hh i hi).1 x (AQu _ (by rw[e]at hx;exact hx))
     ·exact(hh i hi).1 x (AQv _ (by rw[e]at hx;exact hx))
   ·simp only[f1,ARg,AQc,APW];exact Ax.mk (.inl ⟨rfl,λh=>hs h.2.2.2⟩)
theorem cC{d:ASw}{l:ASy}{c:ASG}(hc:Yv c)(hl:∀x∈l,Gm x):Ax (Ci d l (c,())) λr=>JD d l (c,())=some (r.2,r.1.1) /\
    ((r=(([],()),false)/\¬(AB d/\CQ d c/\CJ d l/\BF d l))\/(AB d/\CQ d c/\CJ d l/\BF d l/\∃f,r=((Ai d f,()),true)/\aj d l c f)):=by
 obtain⟨r1,e1,q1⟩:=sC (d:=d) hc hl;obtain⟨r2,e2,q2⟩:=rJ (d:=d) hc hl;refine Ax.of e1 ⟨?_,q1⟩;rw[e2];rcases q1 with ⟨rfl,n1⟩|⟨a1,a2,a3,a4,f,rfl,hf⟩<;>rcases q2 with ⟨rfl,n2⟩|⟨b1,b2,b3,b4,g,rfl,hg⟩
 ·rfl
 ·exact(n1 ⟨b1,b2,b3,b4⟩).elim
 ·exact(n2 ⟨a1,a2,a3,a4⟩).elim
 ·rw[hf.unique hg]
theorem bX{R:Int->Int->Prop}(hR:∀a b,R a b->a<b):∀{l m:ASs},l.Pairwise R->m.Pairwise R->(∀x,x∈l↔x∈m)->l=m
 |[],[],_,_,_=>rfl
 |[],y::m,_,_,h=>by have:=(h y).2 AQr;cases this
 |x::l,[],_,_,h=>by have:=(h x).1 AQr;cases this
 |x::l,y::m,hl,hm,h=>by
  rw[List.pairwise_cons]at hl hm;have e:x=y:=by
   rcases List.mem_cons.1 ((h x).1 AQr)with e |e
   ·exact e
   ·rcases List.mem_cons.1 ((h y).2 AQr)with e' |e'
    ·exact e'.symm
    ·have:=hR _ _ (hm.1 x e);have:=hR _ _ (hl.1 y e');omega
  subst e;congr 1;refine bX hR hl.2 hm.2 λz=>⟨λhz=>?_,λhz=>?_⟩
  ·rcases List.mem_cons.1 ((h z).1 (AQo _ hz))with e |e
   ·have:=hR _ _ (hl.1 z hz);omega
   ·exact e
  ·rcases List.mem_cons.1 ((h z).2 (AQo _ hz))with e |e
   ·have:=hR _ _ (hm.1 z hz);omega
   ·exact e
theorem Zi(w:Nat)(f:Nat->Bool):(A1 w f).Pairwise (·<·):=by
 unfold A1;rw[List.pairwise_map];refine(List.pairwise_lt_range (n:=w)).filter _ |>.imp λ{a b} h=>?_;show(a:Int)<(b:Int);omega
theorem Zh{w:Nat}{f:Nat->Bool}{x:Int}:x∈A1 w f↔∃p:Nat,x=(p:Int)/\1<=p/\p<w/\f p=true:=by
 unfold A1;rw[List.mem_map];constructor
 ·rintro⟨p,hp,rfl⟩
  rw[List.mem_filter]at hp;obtain⟨h1,h2⟩:=hp;simp at h1 h2;exact⟨p,rfl,h2.1,h1,h2.2⟩
 ·rintro⟨p,rfl,h1,h2,h3⟩
  exact⟨p,List.mem_filter.2 ⟨List.mem_range.2 h2,by simp[h1,h3]⟩,rfl⟩
theorem zC{l:ASs}{w:Int}(h:aS l w):l.Pairwise (·<·):=by
 rw[List.pairwise_iff_getElem];intro i j hi hj vg;have:=sj h vg hj;have e1:Kh l i=l[i]:=by simp[Kh,List.getD,hi]
 have e2:Kh l j=l[j]:=by simp[Kh,List.getD,hj]
 omega
theorem fI{d:ASw}{c:ASG}(hd:AB d)(hc:CQ d c){v:Nat}(hv:v<d.length):A1 (W d v) (C0 c v)=Dx c v:=by
 obtain⟨e0,iq,iU⟩:=MF hd hv;refine bX (λ_ _ h=>h) (Zi _ _) (zC (hc.2 v hv)) λx=>?_;rw[Zh];constructor
 ·rintro⟨p,rfl,_,_,h⟩
  simpa [C0]using h
 ·intro h;have:=jd (hc.2 v hv) h;refine⟨x.toNat,by omega,by omega,by omega,?_⟩;simp only[C0];rw[show((x.toNat:Nat):Int)=x by omega];simpa using h
theorem AcC{d:ASw}{c:ASG}(hd:AB d)(hc:CQ d c):Ai d (C0 c)=c:=by
 apply AQV
 ·simp[Ai,hc.1]
 ·intro v h1 h2;have hv:v<d.length:=by simpa [Ai]using h1
  have e:c[v]=Dx c v:=by simp[Dx,List.getD,h2]
  rw[e,<-fI hd hc hv];simp[Ai]
def Tt(c:ASG)(k:Nat):Nat:=((List.range k).map λv=>(Dx c v).length).sum
theorem ZN(c:ASG)(k:Nat):Tt c (k+1)=Tt c k+(Dx c k).length:=by
 unfold Tt;rw[AQ6,AQG];simp
theorem rm{c:ASG}(hb:∀v,(Dx c v).length<=1048576):∀k,Tt c k<=1048576*k
 |0=>by simp[Tt]
 |k+1=>by rw[ZN];have:=rm hb k;have:=hb k;omega
theorem dR{d:ASw}{c:ASG}(hd:AB d)(hc:CQ d c)(hb:Yv c):KV d (c,())=some ((d.length+Tt c d.length:Nat):Int):=by
 unfold KV;obtain⟨r,hr,hq⟩:=Wn  hb;have de:=hd.1;rw[hr,APW,hq.2 ⟨hd,hc⟩,AQF];have:WK (c,()) d.length 0=some ((d.length+Tt c d.length)):=by
  have:=AW (f:=Ie (c,())) (λk=>(((d.length+Tt c k:Nat)),k)) (t:=((d.length+Tt c d.length:Nat))) d.length (λk hk=>?_) ?_
  ·exact this
  ·unfold Ie PN;have e1:(c.getD k ATo.zero)=Dx c k:=rfl;have h1:=rm hb.row k;have h2:=hb.row k;simp only[APX,e1];rw[hc.1,Da hk,AQc,AQe (Bg hk),Bj hk (by omega),ZN];rw[A0  (n:=d.length+(Tt c k+(Dx c k).length)) (by omega) (by omega)]
  ·unfold Ie PN;rw[hc.1,Ep,AQb]
 rw[this];rfl
theorem Ajd{g h:Nat->Nat}:∀{n v:Nat},(∀u,u<n->g u<=h u)->v<n->g v<h v->((List.range n).map g).sum<((List.range n).map h).sum
 |n+1,v,QP,hv,Bp=>by
  have AOc:∀m,m<=n->((List.range m).map g).sum<=((List.range m).map h).sum:=by
   intro m;induction m with
   |zero=>simp
   |succ m ih=>intro hm;rw[CN,CN,ARq];have:=QP m (by omega);simp;omega
  rw[CN,CN,ARq];have h1:=QP n (by omega);rcases AP7 v n with h2 |h2
  ·have:=Ajd (λu hu=>QP u (by omega)) h2 Bp;simp;omega
  grind
theorem UR{d:ASw}{f:Nat->Nat->Bool}{v:Nat}(hv:v<d.length):Dx (Ai d f) v=A1 (W d v) (f v):=by exact I2 hv
theorem Gc{d:ASw}(hd:AB d)(f:Nat->Nat->Bool):CQ d (Ai d f)/\Yv (Ai d f):=by
 have de:=hd.1;refine⟨⟨by simp[Ai],λv hv=>?_⟩,by simp[Ai];omega,λx hx=>?_⟩
 ·rw[UR hv];obtain⟨e0,iq,iU⟩:=MF hd hv;intro i hi;have hm:Kh (A1 (W d v) (f v)) i∈A1 (W d v) (f v):=by exact AL hi
  obtain⟨p,e,h1,h2,_⟩:=Zh.1 hm;refine⟨by omega,by omega,λh0=>?_⟩;have:=(List.pairwise_iff_getElem.1 (Zi _ _)) (i-1) i (by omega) hi (by omega);have e1:Kh (A1 (W d v) (f v)) (i-1)=(A1 (W d v) (f v))[i-1]'(by omega):=by simp[Kh,show i-1<(A1 (W d v) (f v)).length by omega]
  have e2:Kh (A1 (W d v) (f v)) i=(A1 _ _)[i]:=by simp[Kh,hi]
  rw[e1,e2];exact this
 ·obtain⟨v,hv,rfl⟩:=List.mem_map.1 hx;have h1:=Zg (W d v) (f v);have:=(MF hd (List.mem_range.1 hv)).2.2;omega
theorem AcR{d:ASw}{l:ASy}{c:ASG}(hd:AB d)(hc:CQ d c){f:Nat->Nat->Bool}(hf:aj d l c f):Tt (Ai d f) d.length=Tt c d.length↔f=C0 c:=by
 constructor
 ·intro h
  funext v p
  rw[ARA];refine⟨λhp=>?_,hf.le v p⟩;refine Classical.byContradiction λhn=>?_;obtain⟨hv,h1,h2⟩:=hf.Yt v p hp;have hlen:∀(u:Nat) (g:Nat->Nat->Bool),(A1 (W d u) (g u)).length=(List.range (W d u)).countP λq=>decide (1<=q)&&g u q:=λu g=>by unfold A1;grind
  have Bp:Tt c d.length<Tt (Ai d f) d.length:=by
   refine Ajd  (λu hu=>?_) hv ?_
   ·rw[UR hu,<-fI hd hc hu,hlen,hlen];refine ARQ λq _ hq=>?_;rw[AP3]at hq⊢;exact⟨hq.1,hf.le u q hq.2⟩
   ·rw[UR hv,<-fI hd hc hv,hlen,hlen];refine ZC  (λq hq=>?_) (List.mem_range.2 h2) (by grind) (by grind);rw[AP3]at hq⊢;exact⟨hq.1,hf.le v q hq.2⟩
  omega
 ·intro h;rw[h,AcC hd hc]
def Vy(v:Nat):Int->ASs->ASx
 |_,[]=>[]
 |low,p::r=>((v:Int),low,p-low,())::Vy v p r
def GQ(low:Int)(l:ASs):Int:=l.getLastD low
theorem fL(v:Nat):∀(l:ASs) (low p:Int),Vy v low (l++[p])=Vy v low l++[((v:Int),GQ low l,p-GQ low l,())]
 |[],low,p=>rfl
 |x::l,low,p=>by
  have e:GQ low (x::l)=GQ x l:=by cases l<;>rfl
  rw[e];show _::Vy v x (l++[p])=_;rw[fL v l x p];rfl
theorem dN(v:Nat):∀(l:ASs) (low:Int),(Vy v low l).length=l.length
 |[],_=>rfl
 |_::l,_=>by simp[Vy,dN v l]
theorem Qe{l:ASs}{i:Nat}(hi:i<l.length)(low:Int):GQ low (l.take (i+1))=Kh l i:=by
 rw[AX (z:=0) hi];unfold GQ Kh;simp
def CK(d:ASw)(c:ASG)(v:Nat):ASs:=Dx c v++[dw d v]
def SL(d:ASw)(c:ASG)(n:Nat):ASx:=(List.range n).flatMap λv=>Vy v 0 (CK d c v)
theorem qm(d:ASw)(c:ASG)(n:Nat):SL d c (n+1)=SL d c n++Vy n 0 (CK d c n):=by
 unfold SL;rw[AQ6];simp
theorem QU{d:ASw}{c:ASG}{v i:Nat}(hi:i<=(Dx c v).length):Kh (CK d c v) i=if i<(Dx c v).length then Kh (Dx c v) i else dw d v:=by
 unfold CK Kh
 grind
section
variable {d:ASw} {c:ASG}
theorem cS(hd:AB d)(hc:CQ d c){v:Nat}(hv:v<d.length){i:Nat}(hi:i<(CK d c v).length):1<=Kh (CK d c v) i/\Kh (CK d c v) i<=4096:=by
 obtain⟨e0,iq,iU⟩:=MF hd hv;have hl:i<=(Dx c v).length:=by unfold CK at hi;simp at hi;omega
 rw[QU hl];split
 ·rename_i h;have:=hc.2 v hv i h;exact⟨this.1,by have:=this.2.1;omega⟩
 ·omega
theorem rR(hd:AB d)(hc:CQ d c){v:Nat}(hv:v<d.length)(i:Nat)(hi:i<=(CK d c v).length):0<=GQ 0 ((CK d c v).take i)/\GQ 0 ((CK d c v).take i)<=4096:=by
 match i with
 |0=>exact⟨by simp[GQ],by simp[GQ]⟩
 |i+1 =>
  rw[Qe (by omega)];have:=cS hd hc hv (i:=i) (by omega);omega
theorem aT(hd:AB d)(hc:CQ d c):∀n,n<=d.length->(SL d c n).length<=4097*n:=λn hn=>XF λv hv=>by
 obtain⟨e0,iq,iU⟩:=MF hd (show v<d.length by omega);have:=Wm (hc.2 v (by omega)) (by omega);rw[dN];unfold CK;simp;omega
theorem nc(hd:AB d)(hc:CQ d c)(hb:Yv c):O7 d (c,())=some (SL d c d.length):=by
 unfold O7;have de:=hd.1;have:Sy d c c.length 0 []=some (SL d c d.length):=by
  rw[hc.1];have:=AW (f:=EO d c d.length) (λv=>(v,SL d c v)) (t:=SL d c d.length) d.length (λv hv=>?_) ?_
  ·exact this
  ·unfold EO KB;obtain⟨e0,iq,iU⟩:=MF hd hv;have e1:(c.getD v ATo.zero)=Dx c v:=rfl;have e2:(d.getD v _).2.1=dw d v:=rfl;have hr:=Wm (hc.2 v hv) (by omega);have Im:=aT hd hc v (by omega);simp only[APX,e1];rw[Da hv,AQc,AQe (Bg (by rw[hc.1];exact hv))];have e3:JK d v c d.length (SL d c v) (Dx c v)=some (CK d c v,((CK d c v).length:Int)):=by
    unfold JK;rw[Wv,AQe (Bg hv),AQe (by grind)];rfl
   rw[e3,APW];have VR:(CK d c v).length<=4097:=by unfold CK;simp;omega
   have e4:Sx d v c d.length (CK d c v) ((CK d c v).length) 0 0 (SL d c v)=some (SL d c (v+1)):=by
    have:=AW (f:=EN d v c d.length (CK d c v) ((CK d c v).length)) (λi=>(GQ 0 ((CK d c v).take i),i,SL d c v++Vy v 0 ((CK d c v).take i))) (t:=SL d c (v+1)) (CK d c v).length (λi hi=>?_) ?_
    ·rw[show SL d c v=SL d c v++Vy v 0 ((CK d c v).take 0) by simp[Vy]];exact this
    ·unfold EN KA;have e5:(CK d c v).getD i ATl.zero=Kh _ i:=rfl;have hbd:=cS hd hc hv hi;have oE:=rR hd hc hv i (by omega);have hrl:(Vy v 0 ((CK d c v).take i)).length<=4097:=by rw[dN,AQh];omega
     simp only[APX,e5];rw[Da hi,AQe (Bg hi),AQe (by grind),Bj hi (by omega),BX  (by omega) (by omega),Qe hi,AX  hi,fL,AP4];rfl
    ·unfold EN KA;rw[Ep,AQb,AP6 (AP2 _),qm]
   rw[e4,APW,Bj hv (by omega)]
  ·unfold EO KB;rw[Ep,AQb]
 rw[this];rfl
theorem WJ(hd:AB d)(hc:CQ d c)(hb:Yv c):I6 d (c,())=some (SL d c d.length):=by
 unfold I6;have de:=hd.1;obtain⟨r,hr,hq⟩:=Wn  hb;rw[hr,APW,hq.2 ⟨hd,hc⟩,AQF];have:SK d (c,()) 0 []=some (SL d c d.length):=by
  have:=AW (f:=ES d (c,())) (λv=>(v,SL d c v)) (t:=SL d c d.length) d.length (λv hv=>?_) ?_
  ·exact this
  ·unfold ES KY;obtain⟨e0,iq,iU⟩:=MF hd hv;have hr:=Wm (hc.2 v hv) (by omega);have Im:=aT hd hc v (by omega);have VR:(CK d c v).length=(Dx c v).length+1:=by unfold CK;simp
   rw[Da hv,AQc];have e4:SJ d v (c,()) 0 0 (SL d c v)=some (SL d c (v+1)):=by
    have:=AW (f:=ER d v (c,())) (λi=>(GQ 0 ((CK d c v).take i),i,SL d c v++Vy v 0 ((CK d c v).take i))) (t:=SL d c (v+1)) (CK d c v).length (λi hi=>?_) ?_
    ·rw[show SL d c v=SL d c v++Vy v 0 ((CK d c v).take 0) by simp[Vy]];exact this
    ·unfold ER KX;have e1:(c.getD v ATo.zero)=Dx c v:=rfl;have e2:(d.getD v _).2.1=dw d v:=rfl;have hbd:=cS hd hc hv hi;have oE:=rR hd hc hv i (by omega);have hrl:(Vy v 0 ((CK d c v).take i)).length<=4097:=by rw[dN,AQh];omega
     simp only[APX,e1,e2];rw[AQe (Bg (by rw[hc.1];exact hv)),show decide _=true from MN,AQe (Bg hv)];have e6:J4 d v (GQ 0 ((CK d c v).take i)) i (c,()) (SL d c v++Vy v 0 ((CK d c v).take i)) (dw d v)=some (Kh (CK d c v) i):=by
      unfold J4;have e3:(Dx c v).getD i ATl.zero=Kh _ i:=rfl;simp only[APX,e1,e3];rw[AQe (Bg (by rw[hc.1];exact hv)),QU (by omega)];by_cases h:i<(Dx c v).length
      ·rw[Da h,AQc,AQe (Bg (by rw[hc.1];exact hv)),AQe (Bg h),AQe h]
      grind
     rw[e6,APW,AQe (by grind),Bj hi (by omega),BX  (by omega) (by omega),Qe hi,AX  hi,fL,AP4];rfl
    ·unfold ER KX;have e1:(c.getD v ATo.zero)=Dx c v:=rfl;simp only[APX,e1];rw[AQe (Bg (by rw[hc.1];exact hv)),VR,show decide ((((Dx c v).length+1:Nat))<=((Dx c v).length:Int))=false from Kg,AQb,<-VR,AP6 (AP2 _),qm]
   rw[e4,APW,Bj hv (by omega)]
  ·unfold ES KY;rw[Ep,AQb]
 rw[this];rfl
end
def nz(L:ASx)(i:Nat):ASg:=L.getD i Ad.zero
def ny(L:ASx)(i:Nat):ASe:=((nz L i).1,(nz L i).2.1,())
def Hs(L:ASx)(k:ASe):Nat->ATC Nat
 |0=>none
 |n+1=>bif Bf Aa k (ny L n)then some n else Hs L k n
theorem gC(L:ASx)(k:ASe)(n:Nat):Hs L k (n+1)=bif Bf Aa k (ny L n)then some n else Hs L k n:=rfl
theorem V8{L:ASx}{k:ASe}:∀{N n:Nat},Hs L k N=some n->n<N/\ny L n=k
 |N+1,n,h=>by
  unfold Hs at h;cases hk:Bf _ k _ with
  |true =>
   rw[hk]at h;injection h with h;subst h;exact⟨AQC _,((iw _ _).1 hk).symm⟩
  |false =>
   rw[hk]at h;obtain⟨h1,h2⟩:=V8 h;exact⟨by omega,h2⟩
theorem gA{L:ASx}{k:ASe}:∀{N m:Nat},m<N->ny L m=k->∃n,Hs L k N=some n
 |N+1,m,hm,h=>by
  unfold Hs;cases hk:Bf _ k _ with
  |true=>grind
  |false =>
   rcases AP7 m N with h' |h'
   ·obtain⟨n,hn⟩:=gA h' h;exact⟨n,hn⟩
   ·have:m=N:=by omega
    subst this;rw[<-h,(iw _ _).2 rfl]at hk;cases hk
abbrev FM:Type:=List ASO
def iN(L:ASx):Nat->FM
 |0=>[]
 |n+1=>Cf Aa ATl (iN L n) (ny L n) (n:Int)
theorem AaU(L:ASx)(k:ASe):∀n,Pf Aa ATl (iN L n) k=(Hs L k n).map Int.ofNat
 |0=>rfl
 |n+1=>by
  unfold iN Hs;rw[XN iw,AaU L k n];cases Bf _ k _<;>rfl
theorem AcM{L:ASx}(hL:L.length<=1048576):O4 L=some (iN L L.length):=by
 unfold O4;have:Sv L L.length 0 []=some (iN L L.length):=by
  have:=AW (f:=EG L L.length) (λi=>(i,iN L i)) (t:=iN L L.length) L.length (λi hi=>?_) ?_
  ·exact this
  ·unfold EG Kv;rw[Da hi,AQe (Bg hi),Bj hi hL];rfl
  ·unfold EG Kv;rw[Ep,AQb]
 rw[this];rfl
theorem dO{v:Nat}:∀{l:ASs} {low:Int} {x:ASg},x∈Vy v low l↔∃j,j<l.length/\x=((v:Int),GQ low (l.take j),Kh l j-GQ low (l.take j),())
 |[],low,x=>by simp[Vy]
 |p::l,low,x=>by
  have e:∀j,GQ low ((p::l).take _)=GQ p (l.take j):=λj=>by
   rw[List.take_succ_cons];cases l.take j<;>rfl
  constructor
  ·intro h;rcases List.mem_cons.1 h with h |h
   ·exact⟨0,by simp,h⟩
   ·obtain⟨j,hj,rfl⟩:=dO.1 h;refine⟨j+1,by grind,?_⟩;rw[e];rfl
  ·rintro⟨j,hj,rfl⟩
   match j with
   |0=>exact AQr
   |j+1 =>
    rw[e];exact AQo _ (dO.2 ⟨j,by grind,rfl⟩)
section
variable {d:ASw} {c:ASG}
theorem ql{x:ASg}:x∈SL d c d.length↔∃v j,v<d.length/\j<(CK d c v).length/\x=((v:Int),GQ 0 ((CK d c v).take j),Kh (CK d c v) j-GQ 0 ((CK d c v).take j),()):=by
 unfold SL;rw[List.mem_flatMap];constructor
 ·rintro⟨v,hv,hx⟩
  obtain⟨j,hj,e⟩:=dO.1 hx;exact⟨v,j,List.mem_range.1 hv,hj,e⟩
 ·rintro⟨v,j,hv,hj,e⟩
  exact⟨v,List.mem_range.2 hv,dO.2 ⟨j,hj,e⟩⟩
theorem cT(_hd:AB d)(hc:CQ d c){v:Nat}(hv:v<d.length){i j:Nat}(vg:i<j)(hj:j<(CK d c v).length):Kh (CK d c v) i<Kh (CK d c v) j:=by
 have hl:j<=(Dx c v).length:=by unfold CK at hj;simp at hj;omega
 have hp:=hc.2 v hv;rw[QU hl,QU (by omega),Wv];split
 ·rename_i h;exact sj hp vg h
 ·have:=(hp i (by omega)).2.1;omega
theorem Ah9(hd:AB d)(hc:CQ d c){v a e j:Nat}(hv:v<d.length)(hj:j<(CK d c v).length)(ha:GQ 0 ((CK d c v).take j)=(a:Int))(hae:a<e)(he:e=W d v\/e<W d v/\C0 c v e=true)(VT:∀q,a<q->q<e->C0 c v q=false):Kh (CK d c v) j=(e:Int):=by
 obtain⟨e0,iq,iU⟩:=MF hd hv;have VR:(CK d c v).length=(Dx c v).length+1:=by unfold CK;simp
 have BU:∃j',j'<(CK d c v).length/\Kh (CK d c v) j'=e:=by
  rcases he with rfl |⟨_,h⟩
  ·exact⟨(Dx c v).length,by omega,by rw[QU (AP2 _),P9,e0]⟩
  ·have hm :=by simpa [C0]using h
   obtain⟨i,hi,hx⟩:=AQZ hm;exact⟨i,by omega,by rw[QU (by omega),<-hx];simp[Kh,hi]⟩
 obtain⟨j',R8,hje⟩:=BU;have Al1:a<Kh (CK d c v) j:=by
  match j with
  |0 =>
   have :=by simp[GQ]at ha;omega
   have:=(cS hd hc hv hj).1;omega
  |i+1 =>
   rw[Qe (by omega)]at ha;rw[<-ha];exact cT hd hc hv (by omega) hj
 have hjj:j<=j':=by
  refine Classical.byContradiction λhn=>?_
  match j with
  |0=>omega
  |i+1 =>
   rw[Qe (by omega)]at ha;rcases AP7 j' i with h |h
   ·have:=cT hd hc hv h (by omega);omega
   grind
 rcases AP7 j j' with h |h
 ·have Bp:=cT hd hc hv h R8;rw[QU (by omega)]at Al1 Bp;by_cases hc':j<(Dx c v).length
  ·have hm:Kh (Dx c v) j∈Dx c v:=by exact AL hc'
   have:=VT (Kh (Dx c v) j).toNat (by omega) (by omega);simp only[C0]at this
   grind
  ·omega
 grind
theorem AiH(hd:AB d)(hc:CQ d c){v a e:Nat}(hv:v<d.length)(h0:a=0\/C0 c v a=true)(hae:a<e)(he:e=W d v\/e<W d v/\C0 c v e=true)(VT:∀q,a<q->q<e->C0 c v q=false) :
    ∃n,Hs (SL d c d.length) (nk v a) (SL d c d.length).length=some n/\n<(SL d c d.length).length/\(nz (SL d c d.length) n).2.2.1=((e-a:Nat):Int):=by
 have VR:(CK d c v).length=(Dx c v).length+1:=by unfold CK;simp
 have hj:∃j,j<(CK d c v).length/\GQ 0 ((CK d c v).take j)=a:=by
  rcases h0 with rfl |h
  ·exact⟨0,by omega,rfl⟩
  ·have hm :=by simpa [C0]using h
   obtain⟨i,hi,hx⟩:=AQZ hm;have AJj:i+1<(CK d c v).length:=by
    omega
   refine⟨i+1,AJj,?_⟩;rw[Qe (by omega),QU (by omega),<-hx];simp[Kh,hi]
 obtain⟨j,hj1,hj2⟩:=hj;have hm :=ql.2 ⟨v,j,hv,hj1,rfl⟩;obtain⟨m,Ut,S7⟩:=AQZ hm;have hsm:nz (SL d c d.length) m=((v:Int),GQ 0 ((CK d c v).take j),Kh (CK d c v) j-GQ 0 ((CK d c v).take j),()):=by
  unfold nz;grind
 obtain⟨n,hn⟩:=gA  (k:=nk v a) Ut (by unfold ny nk;rw[hsm,hj2]);obtain⟨hn1,hn2⟩:=V8 hn;refine⟨n,hn,hn1,?_⟩;obtain⟨v',j',vB,R8,hx⟩:=ql.1 (show nz _ n∈SL d c _ from AL hn1);unfold ny nk at hn2;rw[hx]at hn2⊢;injection hn2 with h1 h2;injection h2 with h2 _;have h1:v'=(v:Int):=h1;have hvv:v'=v:=by omega
 subst hvv;have h2 :=h2;have:=Ah9 hd hc vB R8 h2 hae he VT
 grind
def nm(o:ATC Nat):Int:=match o with |some n=>(n:Int)|none=>-1
def NM(d:ASw)(L:ASx)(n:Nat):ASG:=(List.range d.length).map λv=>(List.range (W d v)).map λa=>nm (Hs L (nk v a) n)
theorem xY{L:ASx}{n v:Nat}{z:ASs}(hv:v<d.length):(NM d L n).getD v z=(List.range (W d v)).map λa=>nm (Hs L (nk v a) n):=I2 hv
theorem Ah8(hd:AB d)(hc:CQ d c)(hb:Yv c):RL d (c,())=some (NM d (SL d c d.length) (SL d c d.length).length):=by
 unfold RL;have de:=hd.1;have h1:P2 d (c,()) 0 []=some (NM d (SL d c d.length) 0):=by
  unfold P2;have:=AW (f:=F3 d (c,())) (λv=>((v:Int),(List.range v).map λu=>(List.range (W d u)).map λa=>nm (Hs (SL d c d.length) (nk u a) 0))) (t:=NM d (SL d c d.length) 0) d.length (λv hv=>?_) ?_
  ·exact this
  ·unfold F3 MA;obtain⟨e0,iq,iU⟩:=MF hd hv;have e2:(d.getD v Ab.zero).2.1=(W d v:Int):=e0;simp only[APX,e2];rw[Da hv,AQc,AQe (Bg hv),AQe (show Ty.row ATl=true/\(0:Int)<=(W d v:Int)/\(W d v:Int)<=(W d v:Int)/\((8:Nat):Int)*(W d v:Int)<=281474976710656/\(W d v:Int)<=9223372036854775807 from⟨rfl,by omega,by omega,by omega,by omega⟩)];have e4:∀z,P0 d (v:Int) (c,()) z 0 (List.replicate (W d v) 0)=some ((List.range (W d v)).map λa=>nm (Hs (SL d c d.length) (nk v a) 0)):=λz=>by
    unfold P0;have:=AW (f:=F0 d (v:Int) (c,()) z) (λi=>((i:Int),CL (λ_=>(-1:Int)) 0 (W d v) i)) (t:=CL (λ_=>(-1:Int)) 0 (W d v) (W d v)) (W d v) (λi hi=>?_) ?_
    ·rw[MO]at this;have ef:CL (λ_=>(-1:Int)) 0 (W d v) (W d v)=(List.range (W d v)).map λa=>nm (Hs (SL d c d.length) (nk v a) 0):=AQK λa ha=>by rw[AQe (List.mem_range.1 ha)];rfl
     rw[<-ef];exact this
    ·unfold F0 Mz;simp only[APX];rw[H8,Da hi,AQc,AQe (Bg hi),Bj hi (by omega),Qw (λ_=>(-1:Int))]
    ·unfold F0 Mz;simp only;rw[H8,Ep,AQb]
   rw[e4,APW,AQe (by simp;omega),Bj hv (by omega),CN]
  ·unfold F3 MA;simp only;rw[Ep,AQb];rfl
 rw[h1,APW,WJ hd hc hb,APW];have Im:=aT hd hc d.length (AP2 _);have h2:P3 (SL d c d.length) 0 (NM d (SL d c d.length) 0)=some (NM d (SL d c d.length) (SL d c d.length).length):=by
  unfold P3;have:=AW (f:=F4 (SL d c d.length)) (λi=>((i:Int),NM d (SL d c d.length) i)) (t:=NM d (SL d c d.length) (SL d c d.length).length) (SL d c d.length).length (λi hi=>?_) ?_
  ·exact this
  ·unfold F4 MB;have rz:nz (SL d c d.length) i∈SL d c d.length:=AL hi;obtain⟨v,j,hv,hj,hx⟩:=ql.1 rz;obtain⟨e0,iq,iU⟩:=MF hd hv;have oE:=rR hd hc hv j (by omega);obtain⟨a,ha⟩:∃a:Nat,GQ 0 ((CK d c v).take j)=(a:Int):=⟨(GQ 0 ((CK d c v).take j)).toNat,by omega⟩;have haw:a<W d v:=by
    match j with
    |0=>simp[GQ]at ha;omega
    |j+1 =>
     rw[Qe (by omega)]at ha;have h3:=cT hd hc hv (show j<(Dx c v).length by unfold CK at hj;simp at hj;omega) (by unfold CK;simp);rw[QU (AP2 _),P9]at h3;omega
   have q1:((SL d c d.length).getD i Ad.zero).1=(v:Int):=congrArg (·.1) hx;have q2:((SL d c d.length).getD i Ad.zero).2.1=(a:Int):=(congrArg (·.2.1) hx).trans ha;have hk:ny (SL d c d.length) i=nk v a:=by
    unfold ny nk;rw[show(nz (SL d c d.length) i).1=(v:Int)from q1,show(nz (SL d c d.length) i).2.1=(a:Int)from q2]
   simp only[APX,q1,q2];have HY:(NM d (SL d c d.length) i).set v (((NM d (SL d c d.length) i).getD v ATo.zero).set a (i:Int))=NM d (SL d c d.length) (i+1):=by
    rw[xY hv];apply AQ2;intro u;rw[AQl];by_cases hu:u<d.length
    ·have er:∀m,(NM d (SL d c d.length) m)[u]?=some ((List.range (W d u)).map λa=>nm (Hs (SL d c d.length) (nk u a) m)):=λm=>by simp[NM,hu]
     rw[er,er];split
     ·rename_i e;subst e;rw[AQe (by simp[NM];exact hu)];congr 1;apply AQ2;intro b;rw[AQl];by_cases hbw:b<W d v
      ·simp only[AP8,AQD,AQp,ARW hbw,Option.map_some];rw[gC,hk];split
       ·rename_i e;subst e;rw[(iw _ _).2 rfl];rfl
       ·rename_i e;have:Bf Aa (nk v b) (nk v a)=false:=by
         rw[Bool.eq_false_iff];intro h;exact e (Zd.1 ((iw _ _).1 h)).2.symm
        rw[this];rfl
      ·rw[P9];simp[hbw]
     ·rename_i e;congr 1;refine AQK λb _=>?_;have:Bf Aa (nk u b) (ny (SL d c d.length) i)=false:=by
       rw[hk,Bool.eq_false_iff];intro h;exact e (Zd.1 ((iw _ _).1 h)).1.symm
      show _=nm (Hs (SL d c d.length) (nk u b) (i+1));rw[gC,this];rfl
    ·have:∀m,(NM d (SL d c d.length) m)[u]?=none:=λm=>by simp[NM];omega
     rw[this,this,P9]
   have hNl:(NM d (SL d c d.length) i).length=d.length:=by simp[NM]
   rw[Da hi,AQc,AQe (Bg hi),hNl,AQe (Bg hv),AQe (Bg hi),AQe (by rw[xY hv];simp;omega),HY,Bj hi (by omega)]
  ·unfold F4 MB;simp only;rw[Ep,AQb]
 rw[h2];rfl
end
theorem AmX{xs:ASs}(hs:xs.Pairwise (·<=·)):∀m,m<=xs.length->(Lib.compactUpTo xs.toArray m).Pairwise (·<·)/\(∀x,x∈Lib.compactUpTo xs.toArray m↔∃j,j<m/\x=xs.toArray[j]!):=by
 have Xa:∀j,j<xs.length->xs.toArray[j]! =Kh xs j:=λj hj=>by simp[Kh,hj]
 have QP:∀i j,i<j->j<xs.length->Kh xs i<=Kh xs j:=λi j vg hj=>by
  have:=List.pairwise_iff_getElem.1 hs i j (by omega) hj vg
  grind
 intro m;induction m with
 |zero=>simp[Lib.compactUpTo]
 |succ m ih =>
  intro hm;obtain⟨h1,h2⟩:=ih (by omega);rw[Lib.compactUpTo_succ];cases hk:Lib.keeps xs.toArray m with
  |true =>
   simp only[AQJ];refine⟨List.pairwise_append.2 ⟨h1,by simp,λx hx y hy=>?_⟩,λx=>?_⟩
   ·rw[AQn]at hy;subst hy;obtain⟨j,hj,rfl⟩:=(h2 x).1 hx;have YB:m=0\/xs.toArray[m]!≠xs.toArray[m-1]!:=by simpa [Lib.keeps]using hk
    rcases YB with YB |YB
    ·omega
    ·rw[Xa m (by omega),Xa (m-1) (by omega)]at YB;rw[Xa j (by omega),Xa m (by omega)];have a1:=QP (m-1) m (by omega) (by omega);have a2:Kh xs j<=Kh xs (m-1):=by
      rcases AP7 j (m-1)with h |h
      ·grind
      grind
     omega
   grind
  |false =>
   simp only[AQM,ARo,AQB];refine⟨h1,λx=>?_⟩;rw[h2];have YB:¬(m=0\/xs.toArray[m]!≠xs.toArray[m-1]!):=by simpa [Lib.keeps]using hk
   grind
theorem gU(xs:ASs):(Ow (Rq xs)).Pairwise (·<·)/\∀x,x∈Ow (Rq xs)↔x∈xs:=by
 have hs:(Rq xs).Pairwise (·<=·):=by
  have:=List.pairwise_mergeSort (le:=leI) (λa b c h1 h2=>by simp[leI]at *;omega) (λa b=>by simp[leI];omega) xs;exact this.imp λ{a b} h=>by simpa [leI]using h
 obtain⟨h1,h2⟩:=AmX hs _ (AP2 _);refine⟨h1,λx=>?_⟩;unfold Ow Lib.compact;rw[h2];have hm:∀y,y∈Rq xs↔y∈xs:=λy=>(List.mergeSort_perm xs leI).mem_iff;rw[<-hm];constructor
 ·grind
 ·intro hx;obtain⟨j,hj,rfl⟩:=AQZ hx;exact⟨j,hj,by grind⟩
def Yk(l n:Nat)(p:Int):Bool:=decide ((l:Int)<p)&&decide (p<((l+n:Nat):Int))
def nq(c:ASG)(s:Sg)(k q:Nat):ASs:=match s with
 |.co _=>[]
 |.va v l n=>(((Dx c v).take q).filter (Yk l n)).map λp=>(k:Int)+p-(l:Int)
def prt(c:ASG)(s:Sg)(k:Nat):ASs:=(k:Int)::match s with
 |.co _=>[]
 |.va v l n=>((Dx c v).filter (Yk l n)).map λp=>(k:Int)+p-(l:Int)
def Kj(c:ASG)(f:ATB Sg)(m:Nat):ASs:=(List.range m).flatMap λi=>prt c (f.getD i (.co [])) (Bh (f.take i))
theorem zp(c:ASG)(f:ATB Sg)(m:Nat):Kj c f (m+1)=Kj c f m++prt c (f.getD m (.co [])) (Bh (f.take m)):=by
 unfold Kj;rw[AQ6];simp
section
variable {d:ASw} {c:ASG}
theorem Abu(hd:AB d)(hc:CQ d c){s:Sg}(hs:V0 d s)(k:Nat):(prt c s k).length<=4097:=by
 cases s with
 |co b=>simp[prt]
 |va v l n =>
  obtain⟨hv,_,_⟩:=hs;obtain⟨e0,iq,iU⟩:=MF hd hv;have h1:=Wm (hc.2 v hv) (by omega);have h2:=ARn (Yk l n) (Dx c v);simp only[prt,AQL,AP8];omega
theorem wm(hd:AB d)(hc:CQ d c)(hb:Yv c){B:ATB Bt}(h:Bo d B):Lv (fN B) (c,())=some (Kj c (Ay B) (Ay B).length):=by
 unfold Lv;obtain⟨n1,n2,n3⟩:=r8 hd h;have hlen:=C6 n1;have hbl:=h.2.1;have vy:∀i,i<(Ay B).length->V0 d ((Ay B).getD i (.co [])):=λi hi=>(Zk h (AL hi)).1;have vu:∀m,m<=(Ay B).length->(Kj c (Ay B) m).length<=4097*m:=λm hm=>XF λi hi=>Abu hd hc (vy i (by omega)) _;have:NH (fN B) (c,()) ((fN B).length:Int) 0 0 []=some (Kj c (Ay B) (Ay B).length):=by
  unfold NH;rw[show(fN B).length=(Ay B).length from Cd _];have:=AW (f:=EK (fN B) (c,()) ((Ay B).length:Int)) (λk=>((Bh ((Ay B).take k):Int),(k:Int),Kj c (Ay B) k)) (t:=Kj c (Ay B) (Ay B).length) (Ay B).length (λk hk=>?_) ?_
  ·exact this
  ·unfold EK Kz;have e1:(fN B).getD k Af.zero=JU ((Ay B).getD k (.co [])):=ko hk;have hpk:=vu k (by omega);have hwk:=GJ (Ay B) k;have af:=ZW hk;simp only[APX,e1];rw[Da hk,AQc,show(fN B).length=(Ay B).length from Cd _,AQe (Bg hk),AQe (by simp only[AP0,AQL,ARP];omega)];have e2:JJ (Bh ((Ay B).take k):Int) (fN B) ((Ay B).length:Int) (k:Int) (c,()) (Kj c (Ay B) k++[(Bh ((Ay B).take k):Int)]) (JU ((Ay B).getD k (.co [])))=some (Kj c (Ay B) (k+1)):=by
    unfold JJ;rw[zp];have Ge:=vy k hk;cases hs:(Ay B).getD k (.co [])with
    |co b=>rfl
    |va v l n =>
     rw[hs]at Ge af;obtain⟨hv,hn,hw⟩:=Ge;obtain⟨e0,iq,iU⟩:=MF hd hv;have hrl:=Wm (hc.2 v hv) (by omega);have e3:(c.getD v ATo.zero)=Dx c v:=rfl;have e4:(JU (.va v l n)).1=(v:Int):=rfl;simp only[e4,APX,e3];rw[show decide ((v:Int)>=0)=true from MN,AQc,AQe (Bg (by rw[hc.1];exact hv))];have e5:NG (Bh ((Ay B).take k):Int) (fN B) ((Ay B).length:Int) (k:Int) (c,()) (JU (.va v l n)) (Dx c v) ((Dx c v).length:Int) 0 (Kj c (Ay B) k++[(Bh ((Ay B).take k):Int)])=some (Kj c (Ay B) k++prt c (.va v l n) (Bh ((Ay B).take k))):=by
      unfold NG;have:=AW (f:=EJ (Bh ((Ay B).take k):Int) (fN B) ((Ay B).length:Int) (k:Int) (c,()) (JU (.va v l n)) (Dx c v) ((Dx c v).length:Int)) (λq=>((q:Int),Kj c (Ay B) k++[(Bh ((Ay B).take k):Int)]++nq c (.va v l n) (Bh ((Ay B).take k)) q)) (t:=Kj c (Ay B) k++prt c (.va v l n) (Bh ((Ay B).take k))) (Dx c v).length (λq hq=>?_) ?_
      ·rw[show Kj c (Ay B) k++[(Bh ((Ay B).take k):Int)]=Kj c (Ay B) k++[(Bh ((Ay B).take k):Int)]++nq c (.va v l n) (Bh ((Ay B).take k)) 0 by simp[nq]];exact this
      ·unfold EJ Ky NF R3;have e6:(Dx c v).getD q ATl.zero=Kh (Dx c v) q:=rfl;have hm:Kh (Dx c v) q∈Dx c v:=by unfold Kh;exact AL hq
       have hpb:=jd (hc.2 v hv) hm;have hbd:Kh (Dx c v) q<=4096:=by omega
       have Bp:(nq c (.va v l n) (Bh ((Ay B).take k)) q).length<=4096:=by
        have h2:=ARn (Yk l n) ((Dx c v).take q);simp only[nq,AP8];rw[AQh]at h2;omega
       have e7:(JU (.va v l n)).2.1=(l:Int):=rfl;have e7b:(JU (.va v l n)).2.2.1=(n:Int):=rfl;have e8:wI ((l:Int)+(n:Int))=((l+n:Nat):Int):=A0;have e9:nq c (.va v l n) (Bh ((Ay B).take k)) (q+1)=nq c (.va v l n) (Bh ((Ay B).take k)) q++if Yk l n (Kh (Dx c v) q)then[(Bh ((Ay B).take k):Int)+Kh (Dx c v) q-(l:Int)]else[]:=by
        simp only[nq];rw[AX (z:=(0:Int)) hq,ARM,AQG];congr 1;show List.map _ (List.filter (Yk l n) [Kh (Dx c v) q])=_;cases hi:Yk l n (Kh (Dx c v) q)<;>simp[hi]
       simp only[APX,e6,e7,e7b,e8];rw[Da hq,AQc,AQe (Bg hq),e9];show Option.bind (bif Yk l n (Kh (Dx c v) q)then _ else _) _=_;cases hi:Yk l n (Kh (Dx c v) q)with
       |true =>
        rw[AQc,AQe (by simp only[AP0,AQL,ARP];omega),APW,Bj hq (by omega),BX (x:=(Bh ((Ay B).take k):Int)+Kh (Dx c v) q) (by omega) (by omega),BX];simp[AP4]
       |false =>
        rw[AQb,APW,Bj hq (by omega)];simp
      ·unfold EJ Ky;simp only;rw[Ep,AQb];have:nq c (.va v l n) (Bh ((Ay B).take k)) (Dx c v).length=((Dx c v).filter (Yk l n)).map λp=>(Bh ((Ay B).take k):Int)+p-(l:Int):=by
        simp only[nq];rw[AP6 (AP2 _)]
       rw[this,AP4];rfl
     rw[e5];rfl
   have e10:wI ((Bh ((Ay B).take k):Int)+(JU ((Ay B).getD k (.co []))).2.2.1)=(Bh ((Ay B).take (k+1)):Int):=by
    rw[aM,Fu hk];exact A0
   rw[e2,APW,Bj hk (by omega),e10]
  ·unfold EK Kz;simp only;rw[Ep,AQb]
 rw[this];rfl
theorem pj(hd:AB d)(hc:CQ d c){B:ATB Bt}(h:Bo d B){x:Int}:x∈Kj c (Ay B) (Ay B).length↔∃p:Nat,x=(p:Int)/\p<B.length/\T3 B (C0 c) p=true:=by
 obtain⟨n1,n2,n3⟩:=r8 hd h;unfold Kj;rw[List.mem_flatMap];constructor
 ·rintro⟨i,hi,hx⟩
  have hi:=List.mem_range.1 hi;have Ge:=(Zk h (AL (z:=.co []) hi)).1;have h1:=n1 _ (AL (z:=.co []) hi);have af:=ZW hi;rcases List.mem_cons.1 hx with rfl |hx
  ·refine⟨_,rfl,by omega,?_⟩;have:=(TL hi (k:=0) (by omega)).2.1;unfold T3 fst
   grind
  ·cases hs:(Ay B).getD i _ with
   |co b=>grind
   |va v l n =>
    rw[hs]at hx af Ge;obtain⟨p,hp,rfl⟩:=List.mem_map.1 hx;obtain⟨cg,gn⟩:=List.mem_filter.1 hp;unfold Yk at gn;rw[AP3,ARw,ARw]at gn;simp only[Sg.w]at af;obtain⟨q,rfl⟩:∃q:Nat,p=q:=⟨p.toNat,by omega⟩;refine⟨Bh ((Ay B).take i)+(q-l),by omega,by omega,?_⟩;obtain⟨e1,e2,_⟩:=TL hi (k:=q-l) (by rw[hs];simp only[Sg.w];omega);unfold T3 QO;rw[Ic,hs,Z1 (by omega)]at e1;rw[e1,show l+(q-l)=q by omega];simp only[AcW,C0]
    grind
 ·rintro⟨p,rfl,hp,gj⟩
  obtain⟨i,k,h1,h2,h3,h4,h5,h6,_⟩:=jD h hp;refine⟨i,List.mem_range.2 h1,?_⟩;rcases AQk k with h0 |h0
  ·subst h0;rw[h3];exact AQr
  ·unfold T3 at gj;rw[h6,h5,show(k==0)=false by grind]at gj;cases hs:(Ay B).getD i _ with
   |co b =>
    rw[hs]at gj h2;rw[cG h2]at gj;cases gj
   |va v l n =>
    rw[hs]at gj h2;simp only[Sg.w]at h2;rw[Z1 h2]at gj;have hm :=by simpa [AcW,C0]using gj
    refine AQo _ (List.mem_map.2 ⟨((l+k)),List.mem_filter.2 ⟨hm,?_⟩,by omega⟩);unfold Yk
    grind
end
def iX(B1 B2:ATB Bt)(h:Nat->Nat->Bool)(p:Nat):Bool:=T3 B1 h p||T3 B2 h p
structure tE (B1 B2:List Bt) (h:Nat->Nat->Bool) (a b:Nat):Prop where
 lt:a<b
 le:b<=B1.length
 no:∀q,a<q->q<b->iX B1 B2 h q=false
 fr:a=0\/iX B1 B2 h a=true
 to:b=B1.length\/iX B1 B2 h b=true
def coB:Bt->Bool
 |.co b=>b
 |.va _ _=>false
def uA(B:ATB Bt)(a w:Nat):ASt:=((B.drop a).take w).map coB
def Oq(L:ASx)(B:ATB Bt)(a b:Nat):ASd:=match QO B a with
 |.co _=>(-1,Zc (uA B a (b-a)),())
 |.va v x=>(nm (Hs L (nk v x) L.length),(0,[],()),())
theorem AgR{A:Type}{F:Sg->ATB A}(hF:∀s,(F s).length=s.w){f:ATB Sg}{i k w:Nat}(hi:i<f.length)(hk:k+w<=(f.getD i (.co [])).w):((f.flatMap F).drop (Bh (f.take i)+k)).take w=((F (f.getD i (.co []))).drop k).take w:=by
 have e:f.flatMap F=(f.take i).flatMap F++(F (f.getD i (.co []))++(f.drop (i+1)).flatMap F):=by
  rw[<-AP4,<-ZK F hi,<-ARD,ARa]
 have hl:=U9 hF (f.take i);have hs:=hF (f.getD i (.co []));rw[e,List.drop_append,List.drop_of_length_le (by omega),AQ5,hl,show Bh _+k-Bh _=k by omega,List.drop_append,List.take_append];rw[show w-(List.drop k _).length=0 by grind,AR5,AQB]
section
variable {d:ASw}
theorem AlV{B B':ATB Bt}(h:Bo d B){f:Nat->Nat->Bool}{a b:Nat}(hl:b<=B.length)(yQ:a<b)(VT:∀q,a<q->q<b->fst B q=false):∃i k,i<(Ay B).length/\a=Bh ((Ay B).take i)+k/\k+(b-a)<=((Ay B).getD i (.co [])).w/\V0 d ((Ay B).getD i (.co [])):=by
 obtain⟨i,k,h1,h2,h3,h4,_⟩:=jD h (show a<B.length by omega);refine⟨i,k,h1,h3,Classical.byContradiction λhn=>?_,h4⟩;have af:=Fu h1;have hi1:i+1<(Ay B).length:=by
  refine Classical.byContradiction λhc=>?_;have e:(Ay B).take (i+1)=Ay B:=AP6 (by omega);rw[e,Cw]at af;omega
 have iq:=Dj B _ (AL (z:=.co []) hi1);have:=(TL hi1 (k:=0) (by omega)).2.1;have hq:=VT (Bh ((Ay B).take (i+1))) (by omega) (by omega);unfold fst at hq
 grind
theorem Afk{B:ATB Bt}(h:Bo d B){i k:Nat}(hi:i<(Ay B).length)(hk:k<((Ay B).getD i (.co [])).w):Qa (fN B) ((Bh ((Ay B).take i)+k:Nat):Int)=some (JU ((Ay B).getD i (.co [])),(k:Int),()):=by
 unfold Qa;have hlen:=C6 (Dj B);rw[Cw]at hlen;have hbl:=h.2.1;have af:=ZW hi;rw[Cw]at af;have:Wx (fN B) ((fN B).length) ((Bh ((Ay B).take i)+k:Nat)) 0=some (.inl (JU ((Ay B).getD i (.co [])),k)):=by
  rw[show(fN B).length=(Ay B).length from Cd _];have AF1:∀j,j<=i->Bh ((Ay B).take j)<=Bh _:=λj hj=>by
   have e:(Ay B).take j=((Ay B).take i).take j:=by grind
   rw[e];exact GJ _ j
  have:=AW (f:=H9 (fN B) ((Ay B).length)) (λj=>(((Bh ((Ay B).take i)+k-Bh ((Ay B).take j):Nat)),j)) (t:=.inl (JU ((Ay B).getD i (.co [])),k)) i (λj hj=>?_) ?_
  ·exact this
  ·unfold H9 Pr;have e1:(fN B).getD j _=JU _:=ko (by omega);have h1:=AF1 _ hj;rw[Fu (show j<(Ay B).length by omega)]at h1;simp only[APX,e1,aM];rw[Da (show j<(Ay B).length by omega),AQc,show(fN B).length=(Ay B).length from Cd _,AQe (Bg (by omega)),Kg,AQb,Bj hj (by omega),Fu (show j<(Ay B).length by omega)];rw[A0 (n:=Bh ((Ay B).take i)+k-(Bh ((Ay B).take j)+((Ay B).getD j (.co [])).w)) (by omega) (by omega)]
  ·unfold H9 Pr;have e1:(fN B).getD i _=JU _:=ko hi;simp only[APX,e1,aM];rw[Da hi,AQc,show(fN B).length=(Ay B).length from Cd _,AQe (Bg hi),show Bh _+k-Bh _=k by omega,Da hk,AQc]
 rw[this];rfl
variable {c:ASG}
structure hU (d:ASw) (c:ASG) (B:List Bt) (a b i k:Nat):Prop where
 hi:i<(Ay B).length
 ha:a=Bh ((Ay B).take i)+k
 hk:k+(b-a)<=((Ay B).getD i (.co [])).w
 hs:V0 d ((Ay B).getD i (.co []))
 lt:a<b
 le:b<=B.length
 no:∀q,a<q->q<b->fst B q=false
 va:∀v l n,(Ay B).getD i (.co [])=.va v l n->∃m,Hs (SL d c d.length) (nk v (l+k)) (SL d c d.length).length=some m/\m<(SL d c d.length).length/\(nz (SL d c d.length) m).2.2.1=((b-a:Nat):Int)
theorem AbA(hd:AB d)(hc:CQ d c){B B':ATB Bt}(h:Bo d B)(hl:B.length=B'.length){a b:Nat}(yQ:a<b)(QP:b<=B.length)(VT:∀q,a<q->q<b->T3 B (C0 c) q=false)
    (mn:a=0\/(kN (QO B a)=true->T3 B (C0 c) a=true)) (vA:b=B.length\/(kN (QO B b)=true->T3 B (C0 c) b=true)) (he:∀x∈Ay B,Sl d (C0 c) x):∃i k,hU d c B a b i k:=by
 have hnf:∀q,a<q->q<b->fst B q=false:=λq h1 h2=>by
  have:=VT q h1 h2;unfold T3 at this
  grind
 obtain⟨i,k,h1,h2,h3,h4⟩:=AlV (B':=B) (f:=C0 c) h QP yQ hnf;refine⟨i,k,h1,h2,h3,h4,yQ,QP,hnf,λv l n hs=>?_⟩;have Ge:=h4;have hk:=h3;rw[hs]at Ge hk;obtain⟨hv,hn,hw⟩:=Ge;obtain⟨e0,iq,iU⟩:=MF hd hv;simp only[Sg.w]at hk;have Ahd:=he _ (AL (z:=.co []) h1);rw[hs]at Ahd;have af:=ZW h1;rw[Cw,hs]at af;simp only[Sg.w]at af;have bat:∀j,j<n->QO B _=.va v _/\fst B _=(j==0):=λj hj=>by
  obtain⟨q1,q2,_⟩:=TL h1  (by rw[hs];exact hj);rw[Ic,hs,Z1 hj]at q1;exact⟨q1,q2⟩
 have h5:=AiH hd hc  (a:=l+k) (e:=l+k+(b-a)) hv ?_ (by omega) ?_ ?_
 ·grind
 ·rcases AQk k with hk0 |hk0
  ·subst hk0;rcases AQk l with kG |kG
   ·omega
   ·exact .inr (Ahd.1 kG (by omega))
  ·obtain⟨q1,q2⟩:=bat k (by omega);rw[<-h2]at q1 q2;rcases mn with mn |mn
   ·omega
   ·have:=mn (by rw[q1];rfl);unfold T3 at this;rw[q2,q1,show(k==0)=false by grind]at this;exact .inr this
 ·rcases AP7 _ n with Bp |ZO
  ·obtain⟨q1,q2⟩:=bat _ Bp;have eb:Bh ((Ay B).take i)+(k+(b-a))=b:=by omega
   rw[eb]at q1 q2;have hbb:b≠B.length:=by omega
   have:=vA.resolve_left hbb (by rw[q1];rfl);unfold T3 at this;rw[q2,q1,show(k+(b-a)==0)=false by grind]at this;exact .inr ⟨by omega,by rw[show l+k+(b-a)=l+(k+(b-a)) by omega];exact this⟩
  ·have e:l+k+(b-a)=l+n:=by omega
   rw[e];rcases AP7 _ _ with Bp |AN0
   ·exact .inr ⟨Bp,Ahd.2 (by omega) Bp⟩
   ·grind
 ·intro q hq1 hq2;obtain⟨q1,q2⟩:=bat (q-l) (by omega);have:=VT (Bh ((Ay B).take i)+(q-l)) (by omega) (by omega);unfold T3 at this;rw[q1,AQ0]at this;have:=this.2;rw[show l+(q-l)=q by omega]at this;exact this
theorem pI{B:ATB Bt}{a b i k:Nat}(S:hU d c B a b i k):(B.drop a).take (b-a)=(((Ay B).getD i (.co [])).bits.drop k).take (b-a):=by
 have e:=AgR Hh S.hi S.hk;rw[show(Ay B).flatMap _=DV _ from rfl,Ic,<-S.ha]at e;exact e
theorem jf{B:ATB Bt}{a b i k:Nat}(S:hU d c B a b i k):QO B a=((Ay B).getD i (.co [])).bits.getD k (.co false):=by
 have h1:=S.hk;have h2:=S.lt;have:=(TL S.hi (k:=k) (by omega)).1;rw[Ic,<-S.ha]at this;exact this
theorem qK{B:ATB Bt}{a b i k:Nat}(S:hU d c B a b i k){x:ASt}(hs:(Ay B).getD i (.co [])=.co x):uA B a (b-a)=(x.drop k).take (b-a):=by
 unfold uA;rw[pI S,hs];simp only[Sg.bits];rw[<-List.map_drop,<-List.map_take,ARV];exact(AQK λ_ _=>rfl).trans (List.map_id _)
theorem gu(hd:AB d){B:ATB Bt}(h:Bo d B){a b i k:Nat}(S:hU d c B a b i k):∃r,(Qa (fN B) (a:Int)).bind (λl=>Lt l ((b-a:Nat):Int) (iN (SL d c d.length) (SL d c d.length).length))=some r/\r.2.2.1=iN (SL d c d.length) (SL d c d.length).length/\(r.1,(r.2.1,r.2.2.2,()),())=Oq (SL d c d.length) B a b:=by
 have hk:=S.hk;have Bp:=S.lt;have VP:=jf S;rw[S.ha,Afk h S.hi (by omega),<-S.ha,APW];unfold Lt Oq;rw[VP];cases hs:(Ay B).getD i _ with
 |co x =>
  rw[hs]at hk;simp only[Sg.w]at hk;have Ge:=S.hs;rw[hs]at Ge;obtain⟨r,hr,hr2⟩:=AaL    (by have:=Ge.2;omega) (by omega) hk;have e1:Fa (JU (.co x)).2.2.2.1 k _=some r:=hr;rw[e1,cG (by omega)];refine⟨_,rfl,rfl,?_⟩;rw[hr2,qK S hs]
 |va v l n =>
  rw[hs]at hk;simp only[Sg.w]at hk;have Ge:=S.hs;rw[hs]at Ge;obtain⟨hv,hn,hw⟩:=Ge;obtain⟨e0,iq,iU⟩:=MF hd hv;obtain⟨m,hm,_⟩:=S.va v l n hs;have e1:(JU (.va v l n)).1=v:=rfl;have e2:(JU (.va v l n)).2.1=l:=rfl;simp only[e1,e2];rw[show((v:Int)==-1)=false from beq_eq_false_iff_ne.2 (by omega),Z1 (by omega),A0  (n:=l+k) (by omega) (by omega)];refine⟨_,rfl,rfl,?_⟩;simp only;have e3:Bv _ ATl (iN (SL d c d.length) (SL d c d.length).length) (v,((l+k:Nat)),())=m:=by
   unfold Bv;rw[AaU];have:Hs _ (v,((l+k:Nat)),()) _=some m:=hm;rw[this];rfl
  rw[e3,hm];rfl
theorem gM(hd:AB d){B:ATB Bt}(h:Bo d B){a b i k:Nat}(S:hU d c B a b i k):∃r,QI (bV B,Ye (Ay B),()) (NM d (SL d c d.length) (SL d c d.length).length) (SL d c d.length) (a:Int) (b:Int)=some r/\r.2.2.1=true/\(r.1,(r.2.1,r.2.2.2,()),())=Oq (SL d c d.length) B a b:=by
 have hk:=S.hk;have Bp:=S.lt;have VP:=jf S;have hbl:=h.2.1;have QP:=S.le;unfold QI Oq;have eb:(bV B).getD a Aa.zero=WY (QO B a):=jF (by omega);simp only[APX,eb];rw[Dr,AQe (Bg (by omega))];rw[VP];cases hs:(Ay B).getD i (.co [])with
 |co x =>
  rw[hs]at hk;simp only[Sg.w]at hk;rw[cG (by omega)];rw[show decide ((WY (.co (x.getD k false))).1<0)=true from rfl,AQc];have Il:(uA B a (b-a)).length=b-a:=by rw[qK S hs];simp;omega
  have e1:RI (b:Int) (bV B,Ye (Ay B),()) (a:Int) []=some (.inr ((uA B a (b-a)).map bI)):=by
   unfold RI;have:=AW (f:=G8 (b:Int) (bV B,Ye (Ay B),())) (λj=>(((a+j:Nat):Int),((uA B a (b-a)).take j).map bI)) (t:=.inr ((uA B a (b-a)).map bI)) (b-a) (λj hj=>?_) ?_
   ·exact this
   ·unfold G8 Oa;have hq:QO B (a+j)=.co ((uA B a (b-a)).getD j false):=by
     have:=(TL S.hi (k:=k+j) (by rw[hs];simp only[Sg.w];omega)).1;rw[Ic,hs,cG (by omega),<-AQ1,<-S.ha]at this;show B.getD (a+j) (.co false)=_;rw[this,qK S hs];congr 1;simp only[List.getD];rw[AQT,AQe hj,ARZ]
    have ec:(bV B).getD (a+j) Aa.zero=WY (QO B (a+j)):=jF (by omega);simp only[APX,ec,hq];rw[show decide (((a+j:Nat):Int)<(b:Int))=true from MN,AQc,Dr,AQe (Bg (by omega)),show decide ((WY (.co ((uA B a (b-a)).getD j false))).1>=0)=false from rfl,AQb,AQe (Bg (by omega)),AQe (by simp only[AP0,AQL,ARP,AP8,AQh];omega),A0 (x:=((a+j:Nat):Int)+1) (n:=a+(j+1)),AX (z:=false) (by omega),AQG];rw[show IntKind.u8.wrap (WY (.co ((uA B a (b-a)).getD j false))).2.1=bI ((uA B a (b-a)).getD j false) by cases (uA B a (b-a)).getD j false<;>rfl];rfl
   ·unfold G8 Oa;simp only;rw[show a+(b-a)=b by omega,Ep,AQb,AP6 (by omega)]
  rw[e1,APW];simp only[AQW];rw[oN (by omega) (by omega),APW];exact⟨_,rfl,rfl,rfl⟩
 |va v l n =>
  rw[hs]at hk;simp only[Sg.w]at hk;have Ge:=S.hs;rw[hs]at Ge;obtain⟨hv,hn,hw⟩:=Ge;obtain⟨e0,iq,iU⟩:=MF hd hv;obtain⟨m,hm,Ut,S7⟩:=S.va v l n hs;rw[Z1 (by omega)];have e1:(WY (.va v (l+k))).1=(v:Int):=rfl;have e2:(WY (.va v (l+k))).2.1=((l+k:Nat):Int):=rfl;have e3:(NM d (SL d c d.length) (SL d c d.length).length).getD v ATo.zero=(List.range (W d v)).map λx=>nm (Hs (SL d c d.length) (nk v x) (SL d c d.length).length):=xY hv;have e4:((List.range (W d v)).map λx=>nm (Hs (SL d c d.length) (nk v x) (SL d c d.length).length)).getD (l+k) ATl.zero=(m:Int):=by
   rw[I2 (by omega),hm];rfl
  simp only[e1,e2,APX,e3,e4];have hNl:(NM d (SL d c d.length) (SL d c d.length).length).length=d.length:=by simp[NM]
  rw[show decide ((v:Int)<0)=false from Kg,AQb,AQe (Bg (by omega)),hNl,AQe (Bg hv),AQe (Bg (by omega)),AP8,AQD,AQe (Bg (by omega))];have e5:Ni (SL d c d.length) (a:Int) (b:Int) (bV B,Ye (Ay B),()) (m:Int)=some false:=by
   unfold Ni;rw[show decide ((m:Int)<0)=false from Kg,AQb,AQe (Bg Ut),APX,show((SL d c d.length).getD m Ad.zero).2.2.1=((b-a:Nat):Int)from S7,A0 (x:=(b:Int)-(a:Int)) (n:=b-a)];simp
  have e6:RJ (b:Int) (bV B,Ye (Ay B),()) (m:Int) (wI ((a:Int)+1))=some (.inr ()):=by
   unfold RJ;rw[A0 (x:=(a:Int)+1) (n:=a+1)];have:=AW (f:=G9 (b:Int) (bV B,Ye (Ay B),()) (m:Int)) (λj=>((a+1+j:Nat):Int)) (t:=.inr ()) (b-(a+1)) (λj hj=>?_) ?_
   ·exact this
   ·unfold G9 Ob;have hf:(Ye (Ay B)).getD (a+1+j) (Ty.zero .bool)=false:=S.no (a+1+j) (by omega) (by omega);simp only[APX,hf];rw[show decide (((a+1+j:Nat):Int)<(b:Int))=true from MN,AQc,AaW,AQe (Bg (by omega)),AQb,A0 (x:=((a+1+j:Nat):Int)+1) (n:=a+1+(j+1))]
   ·unfold G9 Ob;simp only;rw[show a+1+(b-(a+1))=b by omega,Ep,AQb]
  rw[e5,APW,AQb,e6,APW];simp only[AQW];refine⟨_,rfl,rfl,?_⟩;simp only;rw[hm];rfl
end
def pcV(L:ASx)(B1 B2:ATB Bt)(a b:Nat):ASn:=(Oq L B1 a b,Oq L B2 a b,((b-a:Nat):Int),())
def PP(L:ASx)(B1 B2:ATB Bt):Nat->ASu->ASD
 |_,[]=>[]
 |a,b::r=>pcV L B1 B2 a b::PP L B1 B2 b r
def Ou(a:Nat)(l:ASu):Nat:=l.getLastD a
theorem Uz(L:ASx)(B1 B2:ATB Bt):∀(l:ASu) (a p:Nat),PP L B1 B2 a (l++[p])=PP L B1 B2 a l++[pcV L B1 B2 (Ou a l) p]
 |[],a,p=>rfl
 |x::l,a,p=>by
  have e:Ou a (x::l)=Ou x l:=by cases l<;>rfl
  rw[e];show _::PP L B1 B2 x (l++[p])=_;rw[Uz L B1 B2 l x p];rfl
theorem qj(L:ASx)(B1 B2:ATB Bt):∀(l:ASu) (a:Nat),(PP L B1 B2 a l).length=l.length
 |[],_=>rfl
 |_::l,_=>by simp[PP,qj L B1 B2 l]
def eL(B1 B2:ATB Bt)(h:Nat->Nat->Bool)(p:Nat):ASu:=(List.range p).filter λq=>decide (1<=q)&&iX B1 B2 h q
section
variable {B1 B2:ATB Bt} {h:Nat->Nat->Bool}
theorem cQ(p:Nat)(hp:1<=p):eL B1 B2 h (p+1)=if iX B1 B2 h p then eL B1 B2 h p++[p]else eL B1 B2 h p:=by
 unfold eL;rw[AQ6]
 grind
theorem yK:eL B1 B2 h 1=[]:=by simp[eL,AQ6]
theorem bl{p q:Nat}:q∈eL B1 B2 h p↔q<p/\1<=q/\iX B1 B2 h q=true:=by
 unfold eL;simp
theorem oh(p:Nat):(eL B1 B2 h p).Pairwise (·<·):=(List.pairwise_lt_range ).filter _
theorem yJ(p:Nat):(eL B1 B2 h p).length<=p:=by
 exact AQq (ARn _ _) (by simp)
theorem oP:∀{l:ASu} {a:Nat},l.Pairwise (·<·)->(∀q∈l,q<=Ou a l)/\(Ou a l=a/\l=[]\/Ou a l∈l)
 |[],a,_=>⟨λq hq=>(by grind),.inl ⟨rfl,rfl⟩⟩
 |x::l,a,hs=>by
  have e:Ou a (x::l)=Ou x l:=by cases l<;>rfl
  rw[List.pairwise_cons]at hs;obtain⟨h1,h2⟩:=oP (a:=x) hs.2
  grind
theorem bu{p:Nat}(hp:1<=p)(QP:p<=B1.length)(vA:p=B1.length\/iX B1 B2 h p=true):tE B1 B2 h (Ou 0 (eL B1 B2 h p)) p:=by
 obtain⟨h1,h2⟩:=oP (a:=0) (oh (B1:=B1) (B2:=B2) (h:=h) p);refine⟨?_,QP,λq hq1 hq2=>?_,?_,vA⟩
 ·rcases h2 with ⟨h2,_⟩|h2
  ·omega
  ·exact(bl.1 h2).1
 ·cases hq:iX B1 B2 h q with
  |false=>rfl
  |true=>have:=h1 q (bl.2 ⟨hq2,by omega,hq⟩);omega
 ·rcases h2 with ⟨h2,_⟩|h2
  ·omega
  ·exact .inr (bl.1 h2).2.2
theorem qP:∀(n:Nat) {i:Nat} (hi:i<(eL B1 B2 h n).length),(eL B1 B2 h n).take i=eL B1 B2 h ((eL B1 B2 h n)[i])
 |0,i,hi=>by simp[eL]at hi
 |1,i,hi=>by rw[yK]at hi;simp at hi
 |n+2,i,hi=>by
  have es:=cQ (B1:=B1) (B2:=B2) (h:=h) (n+1) (by omega);cases hq:iX B1 B2 h _ with
  |false =>
   rw[hq]at es;simp only[es]at hi⊢;exact qP _ hi
  |true =>
   rw[hq]at es;simp only[AQJ]at es;simp only[es]at hi⊢;rw[AP0,AQg]at hi;rcases AP7 i _ with Bp |ZO
   ·rw[AQ4 (by omega),List.getElem_append_left Bp];exact qP _ Bp
   grind
end
section
variable {d:ASw} {c:ASG} {B1 B2:ATB Bt}
theorem W7(hd:AB d)(hc:CQ d c)(h1:Bo d B1)(h2:Bo d B2)(hl:B1.length=B2.length)(BO:eF d B1 B2 (C0 c)){a b:Nat}(g:tE B1 B2 (C0 c) a b):(∃i k,hU d c B1 a b i k)/\∃i k,hU d c B2 a b i k:=by
 have VT:∀q,a<q->q<b->T3 B1 (C0 c) q=false/\T3 B2 (C0 c) q=false:=λq q1 q2=>by
  have:=g.no q q1 q2;unfold iX at this;rwa [AQ0]at this
 have AnG:∀q,1<=q->q<B1.length->iX B1 B2 (C0 c) q=true->(kN (QO B1 q)=true->T3 B1 (C0 c) q=true)/\(kN (QO B2 q)=true->T3 B2 (C0 c) q=true):=λq q1 q2 hq=>by
  have hs:=BO.2 q q1 q2;unfold iX at hq
  grind
 have Bp:=g.lt;have QP:=g.le;constructor
 ·refine AbA (B':=B2) hd hc h1 hl g.lt g.le (λq q1 q2=>(VT q q1 q2).1) ?_ ?_ λx hx=>BO.1 x (AQu _ hx)
  ·rcases AQk a with h0 |h0
   ·grind
   ·exact .inr (AnG a h0 (by omega) (g.fr.resolve_left (by omega))).1
  ·rcases g.to with e |e
   ·grind
   grind
 ·refine AbA (B':=B1) hd hc h2 hl.symm g.lt (by omega) (λq q1 q2=>(VT q q1 q2).2) ?_ ?_ λx hx=>BO.1 x (AQv _ hx)
  ·rcases AQk a with h0 |h0
   ·grind
   ·exact .inr (AnG a h0 (by omega) (g.fr.resolve_left (by omega))).2
  ·rcases g.to with e |e
   ·grind
   grind
theorem v8{B:ATB Bt}(h:Bo d B):1<=(Ay B).length:=by
 rcases AQk _ with h0 |h0
 ·have e:Ay B=[]:=AQR h0;have:=Cw B;rw[e]at this;have:=h.1;simp[Bh]at *;omega
 ·omega
theorem AIM{B:ATB Bt}(h:Bo d B):fst B 0=true:=by
 have hp:=v8 h;have:=(TL    (by omega) (Dj B _ (AL  (show 0<(Ay B).length by omega)))).2.1;exact this
theorem mZ(hd:AB d)(hc:CQ d c)(hb:Yv c)(h1:Bo d B1)(h2:Bo d B2)(hl:B1.length=B2.length)(BO:eF d B1 B2 (C0 c)) :
    TC (fN B1) (fN B2) (c,()) (iN (SL d c d.length) (SL d c d.length).length)=some (iN (SL d c d.length) (SL d c d.length).length,PP (SL d c d.length) B1 B2 0 (eL B1 B2 (C0 c) B1.length++[B1.length])):=by
 unfold TC;have hn1:=h1.1;have hn2:=h1.2.1;have pl:∀{B:ATB Bt},Bo d B->(Kj c (Ay B) (Ay B).length).length<=20000000/\1<=(Kj c (Ay B) (Ay B).length).length:=λ{B} h=>by
  have hlen:=C6 (Dj B);rw[Cw]at hlen;have hbl:=h.2.1;have q1:(Kj c (Ay B) (Ay B).length).length<=4097*(Ay B).length:=XF λi hi=>Abu hd hc (Zk h (AL hi)).1 _;refine⟨by omega,?_⟩;have hp:=v8 h;have:((Bh ((Ay B).take 0):Nat):Int)∈Kj c (Ay B) (Ay B).length:=List.mem_flatMap.2 ⟨0,List.mem_range.2 (by omega),AQr⟩;exact List.length_pos_of_mem this
 have p1:=pl h1;have p2:=pl h2;rw[wm hd hc hb h1,APW,wm hd hc hb h2,APW,qL p1.2 (by omega) (by omega),APW,AQe (by rw[AP0];omega),Ajp h1,APW];have hu:Ow (Rq (Kj c (Ay B1) (Ay B1).length++Kj c (Ay B2) (Ay B2).length))=(0::eL B1 B2 (C0 c) B1.length).map Int.ofNat:=by
  obtain⟨v1',v2'⟩:=gU (Kj c (Ay B1) (Ay B1).length++Kj c (Ay B2) (Ay B2).length);refine bX (λ_ _ h=>h) v1' ?_ λx=>?_
  ·rw[List.pairwise_map,List.pairwise_cons];refine⟨λq hq=>?_,(oh _).imp λ{a b} h=>?_⟩
   ·have:=(bl.1 hq).2.1;show((0:Nat):Int)<(q:Int);omega
   ·show(a:Int)<(b:Int);omega
  ·rw[v2',ARl,pj hd hc h1,pj hd hc h2,List.mem_map];constructor
   ·intro hx;have:∃p:Nat,x=(p:Int)/\p<B1.length/\iX B1 B2 (C0 c) p=true:=by
     rcases hx with ⟨p,e,hp,hq⟩|⟨p,e,hp,hq⟩
     ·exact⟨p,e,hp,by unfold iX;rw[hq];rfl⟩
     ·exact⟨p,e,by omega,by unfold iX;rw[hq];simp⟩
    obtain⟨p,rfl,hp,hq⟩:=this;refine⟨p,?_,rfl⟩;rcases AQk p with h0 |h0
    ·rw[h0];exact AQr
    ·exact AQo _ (bl.2 ⟨hp,h0,hq⟩)
   ·rintro⟨p,hp,rfl⟩
    rcases List.mem_cons.1 hp with rfl |hp
    ·exact .inl ⟨0,rfl,by omega,by unfold T3;rw[AIM h1];rfl⟩
    ·obtain⟨q1,q2,q3⟩:=bl.1 hp;unfold iX at q3;rw[ARh]at q3;rcases q3 with q3 |q3
     ·exact .inl ⟨p,rfl,q1,q3⟩
     ·exact .inr ⟨p,rfl,by omega,q3⟩
 rw[hu];generalize hE:eL B1 B2 (C0 c) B1.length=E;have hEl:E.length<=4096:=by rw[<-hE];have:=yJ (B1:=B1) (B2:=B2) (h:=C0 c) B1.length;omega
 have fp:(((0::E).map Int.ofNat)++[(B1.length:Int)]).length=E.length+2:=by simp
 have hw:wI (((((0::E).map Int.ofNat)++[(B1.length:Int)]).length:Int)-1)=((E.length+1:Nat):Int):=A0 (by rw[fp];omega) (by omega);rw[AQe (by simp;omega),hw,AQe ⟨by omega,by omega,by rw[fp];omega⟩,APX,AR4];have ht:((((0::E).map Int.ofNat)++[(B1.length:Int)]).take (E.length+1))=(0::E).map Int.ofNat:=by
  rw[AQ4 (by simp)];exact AP6 (by simp)
 rw[ht];have tq:(((0::E).map Int.ofNat).length:Int)=((E.length+1:Nat):Int):=by simp
 rw[tq];have vn:Q6 (fN B1) (fN B2) (((0::E).map Int.ofNat)++[(B1.length:Int)]) ((0::E).map Int.ofNat) ((E.length+1:Nat):Int) 0 (iN (SL d c d.length) (SL d c d.length).length) []=some (iN (SL d c d.length) (SL d c d.length).length,PP (SL d c d.length) B1 B2 0 (E++[B1.length])):=by
  unfold Q6;have:=AW (f:=G0 (fN B1) (fN B2) (((0::E).map Int.ofNat)++[(B1.length:Int)]) ((0::E).map Int.ofNat) ((E.length+1:Nat):Int)) (λi=>((i:Int),iN (SL d c d.length) (SL d c d.length).length,PP (SL d c d.length) B1 B2 0 ((E++[B1.length]).take i))) (t:=(iN (SL d c d.length) (SL d c d.length).length,PP (SL d c d.length) B1 B2 0 (E++[B1.length]))) (E.length+1) (λi hi=>?_) ?_
  ·exact this
  ·unfold G0 NI;have ANx:(E++[B1.length]).length=E.length+1:=by simp
   obtain⟨p,hp⟩:∃p,p=(E++[B1.length]).getD i 0:=⟨_,rfl⟩;have ka:((0::E).map Int.ofNat).getD i ATl.zero=((Ou 0 ((E++[B1.length]).take i):Nat):Int):=by
    match i,hi with
    |0,_=>rfl
    |j+1,hj =>
     have hjE:j<E.length:=by omega
     have e1:((0::E).map Int.ofNat).getD (j+1) ATl.zero=((E.getD j 0:Nat):Int):=by simp[List.getD,hjE]
     rw[e1,AQ4 (by omega),AX (z:=0) hjE];rw[show Ou 0 (E.take j++[E.getD j 0])=E.getD j 0 from List.getLastD_concat]
   have kb:(((0::E).map Int.ofNat)++[(B1.length:Int)]).getD (i+1) ATl.zero=(p:Int):=by
    rw[hp];have e1:((0::E).map Int.ofNat)++[(B1.length:Int)]=0::(E++[B1.length]).map Int.ofNat:=by simp
    rw[e1];simp only[List.getD,List.getElem?_cons_succ,AQp];have:(E++[B1.length])[i]?=some ((E++[B1.length])[i]'(by omega)):=AQ7 (by omega);rw[this];rfl
   have gap:tE B1 B2 (C0 c) (Ou 0 ((E++[B1.length]).take i)) p:=by
    rcases AP7 i E.length with Bp |ZO
    ·have hpe:p=E[i]:=by rw[hp];simp only[List.getD];rw[AQj Bp,AQ7 Bp];rfl
     have hm:p∈E:=by rw[hpe];exact AQE Bp
     rw[<-hE]at hm;obtain⟨m1,m2,m3⟩:=bl.1 hm;have ht2:(E++[B1.length]).take i=eL B1 B2 (C0 c) p:=by
      rw[AQ4 (by omega),hpe];subst hE;exact qP _ Bp
     rw[ht2];exact bu m2 (by omega) (.inr m3)
    ·have hie:i=E.length:=by omega
     have hpe:p=B1.length:=by rw[hp,hie];simp[List.getD]
     have ht2:(E++[B1.length]).take i=eL B1 B2 (C0 c) p:=by
      rw[hie,AQ4 (AP2 _),AP6 (AP2 _),<-hE,hpe]
     rw[ht2];exact bu (by omega) (by omega) (.inl hpe)
   obtain⟨⟨i1,k1,s1⟩,⟨i2,k2,s2⟩⟩:=W7 hd hc h1 h2 hl BO gap;obtain⟨r1,a1,a2,a3⟩:=gu hd h1 s1;obtain⟨r2,b1,b2,b3⟩:=gu hd h2 s2;have hgl:=gap.lt;have AN2:=gap.le;have hwd:wI ((p:Int)-((Ou 0 ((E++[B1.length]).take i):Nat):Int))=((p-Ou 0 ((E++[B1.length]).take i):Nat):Int):=A0;have hi1:wI ((i:Int)+1)=((i+1:Nat):Int):=A0;simp only[hi1,APX,ka,kb,hwd];have hPl:(PP (SL d c d.length) B1 B2 0 ((E++[B1.length]).take i)).length<=5000:=by rw[qj,AQh];omega
   rw[show decide ((i:Int)<((E.length+1:Nat):Int))=true from MN,AQc,AP8,AQe (Bg (by simp;omega)),AQe (Bg (by simp;omega))];rw[<-AQd,a1,APW];simp only[a2];rw[<-AQd,b1,APW,AQe (by simp only[AP0,AQL,ARP];omega)];simp only[b2,a3,b3];rw[AX (z:=0) (by omega),Uz,<-hp];rfl
  ·unfold G0 NI;simp only;rw[Ep,AQb,AP6 (by simp)]
 rw[vn];rfl
def eX(B1 B2:ATB Bt)(h:Nat->Nat->Bool)(p:Nat):ASu:=if p<=B1.length then eL B1 B2 h p else eL B1 B2 h B1.length++[B1.length]
theorem nG(hd:AB d)(hc:CQ d c)(h1:Bo d B1)(h2:Bo d B2)(hl:B1.length=B2.length)(BO:eF d B1 B2 (C0 c)) :
    Mi (M d 1 (C0 c)) (NM d (SL d c d.length) (SL d c d.length).length) (SL d c d.length) (bV B1) (Ye (Ay B1)) (bV B2) (Ye (Ay B2)) 0 1 []=some (.inr (PP (SL d c d.length) B1 B2 0 (eL B1 B2 (C0 c) B1.length++[B1.length]))):=by
 unfold Mi;have hn1:=h1.1;have hn2:=h1.2.1;have:=AW (f:=Ej (M d 1 (C0 c)) (NM d (SL d c d.length) (SL d c d.length).length) (SL d c d.length) (bV B1) (Ye (Ay B1)) (bV B2) (Ye (Ay B2))) (λj=>(((Ou 0 (eX B1 B2 (C0 c) (j+1)):Nat):Int),((j+1:Nat):Int),PP (SL d c d.length) B1 B2 0 (eX B1 B2 (C0 c) (j+1)))) (t:=.inr (PP (SL d c d.length) B1 B2 0 (eL B1 B2 (C0 c) B1.length++[B1.length]))) B1.length (λj hj=>?_) ?_
 ·have e0:eX B1 B2 (C0 c) (0+1)=[]:=by unfold eX;rw[Wv];exact yK
  simp only[e0]at this;exact this
 ·unfold Ej Jv;have eX1:eX B1 B2 (C0 c) (j+1)=eL B1 B2 (C0 c) (j+1):=by unfold eX;rw[Wv]
  have hPl:(PP (SL d c d.length) B1 B2 0 (eL B1 B2 (C0 c) (j+1))).length<=5000:=by rw[qj];have:=yJ (B1:=B1) (B2:=B2) (h:=C0 c) (j+1);omega
  simp only[eX1];rw[Dr,show decide (((j+1:Nat):Int)<=(B1.length:Int))=true from MN,AQc];by_cases Ahb:j+1=B1.length\/iX B1 B2 (C0 c) (j+1)=true
  ·have e7:EP (M d 1 (C0 c)) (NM d (SL d c d.length) (SL d c d.length).length) (SL d c d.length) ((Ou 0 (eL B1 B2 (C0 c) (j+1)):Nat):Int) ((j+1:Nat):Int) (PP (SL d c d.length) B1 B2 0 (eL B1 B2 (C0 c) (j+1))) (bV B1) (Ye (Ay B1)) (bV B2) (Ye (Ay B2))=some (.inr ()):=by
     unfold EP;rw[Dr];rcases AP7 (j+1) B1.length with Bp |ZO
     ·have hq:=Ahb.resolve_left (by omega);unfold iX at hq;rw[show decide (((j+1:Nat):Int)<(B1.length:Int))=true from MN,AQc,SI hd h1 Bp,APW];cases hA:T3 B1 (C0 c) (j+1)with
      |true=>rfl
      |false =>
       rw[hA,ASa]at hq;rw[ARg,AQc,SI hd h2 (by omega),APW,hq];rfl
     ·rw[show decide (((j+1:Nat):Int)<(B1.length:Int))=false from Kg,AQb]
   have gap:=bu (B1:=B1) (B2:=B2) (h:=C0 c) (show 1<=j+1 by omega) (by omega) Ahb;obtain⟨⟨i1,k1,s1⟩,⟨i2,k2,s2⟩⟩:=W7 hd hc h1 h2 hl BO gap;obtain⟨r1,a1,a2,a3⟩:=gM hd h1 s1;obtain⟨r2,b1,b2,b3⟩:=gM hd h2 s2;have hgl:=gap.lt;have hwd:wI (((j+1:Nat):Int)-((Ou 0 (eL B1 B2 (C0 c) (j+1)):Nat):Int))=((j+1-Ou 0 (eL B1 B2 (C0 c) (j+1)):Nat):Int):=A0;unfold JZ R3;rw[e7,APW];simp only[AQW];rw[a1,APW,b1,APW];simp only[a2,b2,hwd,AQF,Bool.or_false,AQb];rw[AQe (by simp only[AP0,AQL,ARP];omega),APW];simp only[ARd,a3,b3];have eX2:eX B1 B2 (C0 c) (j+1+1)=eL B1 B2 (C0 c) (j+1)++[j+1]:=by
    unfold eX;rcases AP7 (j+1) B1.length with Bp |ZO
    ·rw[Wv,cQ _ (by omega),AQe (Ahb.resolve_left (by omega))]
    ·rw[P9,show B1.length=j+1 by omega]
   rw[eX2,Uz,A0 (x:=((j+1:Nat):Int)+1) (n:=j+1+1)];have:Ou 0 (eL B1 B2 (C0 c) (j+1)++[j+1])=j+1:=by unfold Ou;simp
   rw[this];rfl
  ·have Ahc:j+1<B1.length/\iX B1 B2 (C0 c) (j+1)=false:=by
     rw[not_or]at Ahb;exact⟨by omega,by simpa using Ahb.2⟩
   have hq:=Ahc.2;unfold iX at hq;rw[AQ0]at hq;have e7:EP (M d 1 (C0 c)) (NM d (SL d c d.length) (SL d c d.length).length) (SL d c d.length) ((Ou 0 (eL B1 B2 (C0 c) (j+1)):Nat):Int) ((j+1:Nat):Int) (PP (SL d c d.length) B1 B2 0 (eL B1 B2 (C0 c) (j+1))) (bV B1) (Ye (Ay B1)) (bV B2) (Ye (Ay B2))=some (.inl ()):=by
    unfold EP;rw[Dr,show decide (((j+1:Nat):Int)<(B1.length:Int))=true from MN,AQc,SI hd h1 Ahc.1,APW,hq.1,ARg,AQc,SI hd h2 (by omega),APW,hq.2];rfl
   unfold JZ;rw[e7,APW];simp only[ARd];rw[APW];simp only[ARd];have eX2:eX B1 B2 (C0 c) (j+1+1)=eL B1 B2 (C0 c) (j+1):=by
    unfold eX;rw[Wv,cQ _ (by omega),Ahc.2];rfl
   rw[eX2,A0 (x:=((j+1:Nat):Int)+1) (n:=j+1+1)]
 ·unfold Ej Jv;have eX1:eX B1 B2 (C0 c) (B1.length+1)=eL B1 B2 (C0 c) B1.length++[B1.length]:=by unfold eX;rw[P9]
  simp only[eX1];rw[Dr,show decide (((B1.length+1:Nat):Int)<=(B1.length:Int))=false from Kg,AQb]
end
section
end
end Go.Proofs.X
namespace Go.Va
open Go.Proofs.X
theorem Aws{A B:Type}{F:A->Int->ATC Int}{G:B->Int->ATC Int}{x:A}{y:B}{m n:Nat}(hF:∀left:Int,0<=left->left<=1048576->F x left=some (if(m:Int)<=left then left-(m:Int)else -1))(hG:∀left:Int,0<=left->left<=1048576->G y left=some (if(n:Int)<=left then left-(n:Int)else -1)){left:Int}(h0:0<=left)(h1:left<=1048576) :
    ((F x left).bind λc=>bif decide (c<0)then some (-1)else(G y c).bind λd=>bif decide (d<0)then some (-1)else some d)=some (if((m+n:Nat):Int)<=left then left-((m+n:Nat):Int)else -1):=by
 grind
theorem Awr{A:Type}{F:A->Int->ATC Int}{x:A}{m:Nat}(hF:∀left:Int,0<=left->left<=1048576->F x left=some (if(m:Int)<=left then left-(m:Int)else -1)){left:Int}(h0:0<=left)(h1:left<=1048576) :
    ((F x left).bind λc=>bif decide (c<0)then some (-1)else some c)=some (if(m:Int)<=left then left-(m:Int)else -1):=by
 grind
theorem AmR{m:Nat}{left:Int}(h0:0<=left)(h1:left<=1048576)(hn:m<=maxLen):(bif decide ((wI (left-(m:Int)))<0)then(-1)else wI (left-(m:Int)))=if(m:Int)<=left then left-(m:Int)else -1:=by
 unfold maxLen at hn;rw[BX]
 grind
theorem lX{A E:Type}{F:A->ATC E}{mk:E->A}{z z0:A}{r:Int×ATB A->ATC ((Int×ATB A)⊕ATB A)}{a:ATB A}
    (hr:∀x,r x=bif decide (x.1<(a.length:Int))then(if(0:Int)<=x.1/\x.1<(a.length:Int)then(F (a.getD x.1.toNat z)).bind λe=>(if(0:Int)<=x.1/\x.1<(x.2.length:Int)then some (.inl (wI (x.1+1),x.2.set x.1.toNat (mk e)))else none)else none)else some (.inr x.2))
    (hn:a.length<=1048576) (hF:∀x∈a,∃e,F x=some e/\mk e=x):fix r (0,List.replicate a.length z0)=some a:=by
 have:=AW (f:=r) (λk=>(k,Go.Proofs.X.CL (λi=>a.getD i z) z0 _ k))  a.length (λk hk=>by
  rw[hr];obtain⟨e,he,hm⟩:=hF (a.getD k z) (by grind);rw[Da hk,AQc,AQe (Bg hk),APX,he,APW,Go.Proofs.X.H8,AQe (Bg hk),hm];rw[show wI _=((k+1:Nat))from Go.Proofs.X.Bj hk hn,Go.Proofs.X.Qw (λi=>a.getD i z) z0]) (by
  rw[hr];rw[Ep,AQb,Go.Proofs.X.kp])
 have h :=this;rw[Go.Proofs.X.MO]at h;exact h
end Go.Va
namespace Go.Proofs.X
open Go Go.Va
set_option maxRecDepth 100000
theorem Ad2{a:ASf}(h:Ty.Wf Ab a):ia Ab (λx l=>some (Ki x l)) a:=λleft h0 h1=>by
 show some _=_;unfold Ki;rw[AmR h0 h1 h.1];rfl
theorem zP{a:ASw}(h:Ty.Wf (.sl Ab) a):ia (.sl Ab) UF a :=
 zQ  (r:=L8) (λ_ _=>rfl) (λ_ _=>rfl) h.1 λx hx=>Ad2 (h.2 x hx)
theorem Ad1{a:ASk}(h:Ty.Wf Ah a):ia Ah (λx l=>some (DJ x l)) a:=λleft h0 h1=>by
 have hu:=sJ h.2.1.1 left h0 h1;have e:wt _ a=wt _ a.2.1:=by show 0+(_+0)=_;omega
 show some _=_;unfold DJ
 grind
theorem zR{a:ASj}(h:Ty.Wf Ag a):ia Ag (λx l=>some (IE x l)) a:=λleft h0 h1=>by
 have hb:=Ad1 h.2.2.2.2.1 left h0 h1;have hb' :=Option.some.inj hb;have hi :=λl h0 h1=>Option.some.inj (wY h.2.2.2.2.2.1.1 l h0 h1);have e:wt _ a=wt _ a.2.2.2.2.1+wt _ a.2.2.2.2.2.1:=by show 0+(0+(0+(0+(_+(_+0)))))=_;omega
 show some _=_;unfold IE
 grind
theorem wZ{a:ASA}(h:Ty.Wf (.sl Ag) a):ia (.sl Ag) Tf a :=
 zQ  (r:=KJ) (λ_ _=>rfl) (λ_ _=>rfl) h.1 λx hx=>zR (h.2 x hx)
theorem pL{a:ASq}(h:Ty.Wf Aw a):ia Aw TH a:=λleft h0 h1 =>
 Awr   (wZ h.1) h0 h1
theorem sI{a:ASh}(h:Ty.Wf Ae a):ia Ae Rb a:=λleft h0 h1=>by
 have e:wt _ a=wt _ a.2.2.1+wt _ a.2.2.2.1:=by show 0+(0+(_+(_+0)))=_;omega
 rw[e];exact Aws   (pL h.2.2.1) (pL h.2.2.2.1) h0 h1
theorem nJ{a:ASy}(h:Ty.Wf (.sl Ae) a):ia (.sl Ae) PG a :=
 zQ   (λ_ _=>rfl) (λ_ _=>rfl) h.1 λx hx=>sI (h.2 x hx)
theorem sW{t:Ty}(a:ATB t.V):a.length<=wt (.sl t) a:=Nat.le_add_right _ _
theorem Ajs{t:Ty}{a:ATB t.V}{x:t.V}(h:x∈a):wt t x<=wt (.sl t) a:=by
 show _<=a.length+(a.map _).sum;have:∀l:ATB t.V,x∈l->wt t x<=(l.map (wt t)).sum:=λl hl=>by
  induction l with
  |nil=>grind
  |cons y l ih =>
   grind
 have:=this a h;omega
theorem Awg{n:ASj}(hw:Ty.Wf Ag n)(h:wt Ag n<=1048576):YH n:=by
 have e:wt _ n=wt (.sl (.int .u64)) (gF n)+wt (.sl (.int .i64)) (AJ n):=by show 0+(0+(0+(0+((0+(_+0))+(_+0)))))=_;unfold gF AJ;omega
 rw[e,z8,z7]at h;exact⟨by omega,by omega,Ajr hw.2.2.2.2.1.2.1.2⟩
theorem Ajh{t:ASq}(hw:Ty.Wf Aw t)(h:wt Aw t<=1048576):LS t.1:=by
 have e:wt _ t=wt _ t.1:=rfl;exact⟨AQq (sW t.1) h,λn hn=>Awg (hw.1.2 n hn) (AQq (Ajs hn) h)⟩
theorem AGs{x:ASh}(hw:Ty.Wf Ae x)(h:wt Ae x<=1048576):Gm x:=by
 have e:wt _ x=wt _ x.2.2.1+wt _ x.2.2.2.1:=by show 0+(0+(_+(_+0)))=_;omega
 exact⟨Ajh hw.2.2.1 (by omega),Ajh hw.2.2.2.1 (by omega)⟩
theorem zV{a:ASw}(h:a.length<=1048576):IG a=some a:=by
 unfold IG Ue;rw[AQe ⟨rfl,by omega,by omega,by omega,by omega⟩,APX,lX (r:=L9 a) (F:=λx=>some (Wg x)) (mk:=λe=>(e.1,e.2,()))  (λ_=>rfl) h (λx _=>⟨_,rfl,rfl⟩)];rfl
theorem sM{a:ASs}(h:a.length<=1048576):JS a=some a:=by
 unfold JS Re;rw[AQe ⟨rfl,by omega,by omega,by omega,by omega⟩,APX,lX (r:=Jt a)  (mk:=λe=>e)  (λ_=>rfl) h (λx _=>⟨_,rfl,rfl⟩)];rfl
theorem w7{a:ASs}(h:a.length<=1048576):Ly a=some a:=by
 unfold Ly SA;rw[AQe ⟨rfl,by omega,by omega,by omega,by omega⟩,APX,lX (r:=KL a)  (mk:=λe=>e)  (λ_=>rfl) h (λx _=>⟨_,rfl,rfl⟩)];rfl
theorem w8{a:ASA}(h:LS a):O9 a=some a:=by
 unfold O9 SB;have hl:=h.1;rw[AQe ⟨rfl,by omega,by omega,by omega,by omega⟩,APX,lX (r:=KM a) (F:=Rc)   (λ_=>rfl) hl (λx hx=>by
  have hn:=h.2 x hx;unfold Rc Wd;rw[show JS _=some x.2.2.2.2.1.2.1 from sM hn.2.1,show Ly _=some x.2.2.2.2.2.1 from w7 hn.1];exact⟨_,rfl,rfl⟩)]
 rfl
theorem pN{t:ASq}(h:LS t.1):QD t=some t.1:=by
 unfold QD;rw[w8 h];rfl
theorem nK{a:ASy}(hl:a.length<=1048576)(h:∀x∈a,Gm x):Er a=some a:=by
 unfold Er Qj;rw[AQe ⟨rfl,by omega,by omega,by omega,by omega⟩,APX,lX (r:=IH a) (F:=M7)   (λ_=>rfl) hl (λx hx=>by
  unfold M7;rw[pN (h x hx).1,pN (h x hx).2];exact⟨_,rfl,rfl⟩)]
 rfl
end Go.Proofs.X
namespace Go.Va
open Go.Proofs.X
def Ch{A:Type}(H:Int->A->Int->Prop):ATB A->Int->Int->Prop
 |[],k,k'=>k=k'
 |x::xs,k,k'=>∃m,H k x m/\Ch H xs m k'
section
variable {A:Type} {H:Int->A->Int->Prop}
theorem AaK{x:A}:∀{l:ATB A} {k k' m:Int},Ch H l k m->H m x k'->Ch H (l++[x]) k k'
 |[],_,_,_,h1,h2=>by cases h1;exact⟨_,h2,rfl⟩
 |_::_,_,_,_,⟨n,h0,h1⟩,h2=>⟨n,h0,AaK h1 h2⟩
theorem gsS{d:ATB A}{i:Nat}{x z:A}(h:i<d.length):(d.set i x).getD i z=x:=by simp[List.getD,h]
theorem nI{cost:A->Nat}{a:ATB A}{z:A}{i:Nat}(h:i<a.length):((a.take (i+1)).map cost).sum=((a.take i).map cost).sum+cost (a.getD i z):=by
 rw[AQO h,AQG,ARq];simp[List.getD,h]
theorem wW{cost:A->Nat}{a:ATB A}{i:Nat}:((a.take i).map cost).sum<=(a.map cost).sum:=by
 conv=>rhs;rw[<-ARa i a,AQG,ARq]
 omega
theorem fR{c:Nat}(l:ATB A):(l.map λ_=>c).sum=c*l.length:=by
 induction l with
 |nil=>rfl
 |cons x l ih=>rw[AQI,ARu,ih,AQL,Nat.mul_succ];omega
theorem UW{f:Int×Int×ATB A->ATC ((Int×Int×ATB A)⊕(Int×ATB A))}{cost:A->Nat}{z:A}{a:ATB A}{k:Int}(M:Int)
    (hs:∀b i (d:ATB A),i<a.length->d.length=a.length->d.getD i z=a.getD i z->0<=b->b+(cost (a.getD i z):Int)<=M ->
     Ax (f (b,(i:Int),d)) λr=>∃b' x',r=.inl (b',((i+1:Nat):Int),d.set i x')/\b<=b'/\b'<=b+(cost (a.getD i z):Int)/\H b x' b')
    (he:∀b (d:ATB A),d.length=a.length->f (b,(a.length:Int),d)=some (.inr (b,d))) (h0:0<=k) (hM:k+(((a.map cost).sum:Nat):Int)<=M) :
    Ax (fix f (k,0,a)) λr=>k<=r.1/\r.1<=k+(((a.map cost).sum:Nat):Int)/\r.2.length=a.length/\Ch H r.2 k r.1:=by
 refine Bn (λm (x:Int×Int×ATB A)=>∃i:Nat,i<=a.length/\m=a.length-i/\x.2.1=(i:Int)/\x.2.2.length=a.length/\Ch H (x.2.2.take i) k x.1/\(∀j,i<=j->x.2.2.getD j z=a.getD j z)/\k<=x.1/\x.1<=k+((((a.take i).map cost).sum:Nat):Int)) (λm x hI=>?_) a.length _ ⟨0,AQH _,rfl,rfl,rfl,by simp[Ch],λ_ _=>rfl,by simp,by simp⟩;obtain⟨b,c,d⟩:=x;obtain⟨i,hi,rfl,h1,h2,h3,h4,h5,h6⟩:=hI;simp only at h1 h2 h3 h4 h5 h6;subst h1;rcases AP7 i a.length with h |h
 ·have Ac2:=nI (cost:=cost) (z:=z) h;have QP:=wW (cost:=cost) (a:=a) (i:=i+1);refine(hs b i d h h2 (h4 i (AP2 _)) (by omega) (by omega)).mono λr hr=>?_;obtain⟨b',x',rfl,ik,oA,hH⟩:=hr;refine⟨a.length-(i+1),by omega,i+1,h,rfl,rfl,by rw[AP5];exact h2,?_,λj hj=>?_,by show k<=b';omega,by show b'<=_;omega⟩
  ·show Ch H ((d.set i x').take (i+1)) k b';rw[AQO (by rw[AP5];omega),List.take_set_of_le (AP2 _)];simp only[List.getElem_set_self];exact AaK h3 hH
  ·show(d.set i x').getD j z=_;rw[<-h4 j (by omega)];simp only[List.getD,AQl,show ¬i=j by omega,ARo]
 ·have:i=a.length:=by omega
  subst this;rw[he b d h2];rw[AP6 (by omega)]at h3;rw[AP6 (AP2 _)]at h6;exact Ax.mk ⟨h5,h6,h2,h3⟩
theorem oC{f:Int×Int->ATC (ASR⊕(Int⊕Int))}{z:A}{a:ATB A}(hs:∀i b b',i<a.length->H b (a.getD i z) b'->f (b,(i:Int))=some (.inl (b',((i+1:Nat):Int))))(he:∀b,f (b,(a.length:Int))=some (.inr (.inr b))){k k':Int}(h:Ch H a k k'):fix f (k,0)=some (.inr k'):=by
 have:∀(l:ATB A) (i:Nat) (b:Int),a.drop i=l->i+l.length=a.length->Ch H l b k'->fix f (b,(i:Int))=some (.inr k'):=λl=>by
  induction l with
  |nil =>
   intro i b h1 h2 h3;have h3:b=k':=h3;subst h3;have:i=a.length:=by simpa using h2
   rw[this];exact Jz (he b)
  |cons x l ih =>
   intro i b h1 h2 h3;obtain⟨m,h3,h4⟩:=h3;simp only[AQL]at h2;have hi:i<a.length:=by omega
   rw[ARx hi]at h1;injection h1 with h1 h5;have hx:a.getD i z=x:=by rw[<-h1];simp[List.getD,hi]
   rw[OZ (hs i b m hi (by rw[hx];exact h3))];exact ih (i+1) m h5 (by omega) h4
 exact this a 0 k rfl (by simp) h
end
end Go.Va
namespace Go.Proofs.X
open Go Go.Va
set_option maxRecDepth 100000
theorem w1{b:Int}(h0:0<=b)(h1:b<=2305843009213693952):wI (b+1)=b+1:=BX
def Hu(b x b':Int):Prop:=x=IntKind.u64.wrap b/\b'=b+1/\0<=b/\b'<=2305843009213693952
def tG{A:Type}(H:Int->A->Int->Prop)(a:ATB A)(n:Nat)(k:Int)(r:Int×ATB A):Prop:=k<=r.1/\r.1<=k+(n:Int)/\r.2.length=a.length/\Ch H r.2 k r.1
theorem kY{a:ASs}(hn:a.length<=1048576){k:Int}(h0:0<=k)(hk:k+(a.length:Int)<=2305843009213693952):Ax (JR k a) (tG Hu a a.length k):=by
 unfold JR OP;have hc:(a.map λ_=>1).sum=a.length:=by rw[fR];omega
 have:=UW (f:=Di) (cost:=λ_=>1) (z:=(0:Int)) (a:=a) (H:=Hu) (k:=k) 2305843009213693952 (λb i d hi hd hg rq hb=>by
  unfold Di HS
  try simp only
  try simp only at hb
  rw[hd,Da hi,AQc,AQe (Bg hi),APX,w1 rq (by omega),Bj hi hn];exact Ax.mk ⟨b+1,_,rfl,by omega,by omega,rfl,rfl,rq,by omega⟩) (λb d hd=>by
  unfold Di HS
  try simp only
  rw[hd,Ep,AQb]) h0 (by rw[hc];exact hk)
 rw[hc]at this;exact this.bind λr hr=>Ax.mk hr
def Hi(b x b':Int):Prop:=x=b/\b'=b+1/\0<=b/\b'<=2305843009213693952
theorem aG{a:ASs}(hn:a.length<=1048576){k:Int}(h0:0<=k)(hk:k+(a.length:Int)<=2305843009213693952):Ax (Ia k a) (tG Hi a a.length k):=by
 unfold Ia Qg;have hc:(a.map λ_=>1).sum=a.length:=by rw[fR];omega
 have:=UW (f:=DG) (cost:=λ_=>1) (z:=(0:Int)) (a:=a) (H:=Hi) (k:=k) 2305843009213693952 (λb i d hi hd hg rq hb=>by
  unfold DG Iy
  try simp only
  try simp only at hb
  rw[hd,Da hi,AQc,AQe (Bg hi),APX,w1 rq (by omega),Bj hi hn];exact Ax.mk ⟨b+1,_,rfl,by omega,by omega,rfl,rfl,rq,by omega⟩) (λb d hd=>by
  unfold DG Iy
  try simp only
  rw[hd,Ep,AQb]) h0 (by rw[hc];exact hk)
 rw[hc]at this;exact this.bind λr hr=>Ax.mk hr
theorem mT{a:ASs}(hn:a.length<=1048576){k k':Int}(h:Ch Hi a k k'):Li a k=some k':=by
 unfold Li Qf;rw[oC (f:=DF a) (z:=(0:Int)) (H:=Hi) (λi b b' hi hH=>by
  unfold DF Ix
  try simp only
  obtain⟨h1,h2,h3,h4⟩:=hH;rw[Da hi,AQc,AQe (Bg hi),APX,show(Ty.zero ATl:Int)=0 from rfl,h1,ARe,AQb,w1 h3 (by omega),Bj hi hn,h2]) (λb=>by
  unfold DF Ix
  try simp only
  rw[Ep,AQb]) h]
 rfl
theorem vS(k:Int)(h1:k<=2305843009213693952):Ax (O8 k) λ_=>True:=by
 unfold O8;refine Ax.cond (λ_=>Ax.mk trivial) λh=>?_;have hk:0<k:=by simpa using h
 refine Ax.bind (P:=λs=>s.size<=100) ?_ λs hs=>?_
 ·unfold Sz;refine Bn (λm (x:Int×ByteArray)=>∃j n:Nat,j<=70/\m=70-j/\x.1=(n:Int)/\n*2^j<=2^62/\x.2.size=j) (λm x hI=>?_) 70 _ ⟨0,k.toNat,by omega,rfl,by show k=_;omega,by rw[Nat.pow_zero];omega,rfl⟩;obtain⟨b,c⟩:=x;obtain⟨j,n,hj,rfl,rq,ik,hc⟩:=hI;simp only at rq ik hc;subst rq;unfold KI Qi;simp only;refine Ax.cond (λhb=>?_) λ_=>Ax.mk (by show c.size<=100;omega);have hb:(n:Int)>0:=AR1 hb;have hp:1<=2^j:=Nat.one_le_two_pow;have Ag6:n*1<=n*2^j:=Nat.mul_le_mul_left _ hp;have hj2:j<=62:=by
   rcases AP7 62 j with h |h
   ·exfalso
    have h2:2^63<=2^j:=Nat.pow_le_pow_right (by omega) (by omega);have h3:1*2^j<=n*2^j:=AQS _ (by omega);omega
   ·exact h
  rw[AQe (by show(1:Nat)+c.size<=_;omega)];have hd:Int.tdiv (n:Int) 10=((n/10:Nat):Int):=rfl;rw[hd,BX];refine Ax.mk ⟨70-(j+1),by omega,j+1,n/10,by omega,rfl,rfl,?_,?_⟩
  ·have h4:n/10*2<=n:=by omega
   have h5:=AQS (2^j) h4;rw[Nat.pow_succ,Nat.mul_comm (2^j) 2,<-Nat.mul_assoc];omega
  ·show(bytesOf [_]++c).size=j+1;rw[ByteArray.size_append,hc];show 1+j=_;omega
 ·rw[AQe (by show(1:Nat)+s.size<=_;omega)];exact Ax.mk trivial
theorem rV{a:ASw}(hn:a.length<=1048576){k:Int}(h0:0<=k)(hk:k+((2*a.length:Nat):Int)<=2305843009213693952):Ax (M4 k a) (tG (λ_ _ _=>True) a (2*a.length) k):=by
 unfold M4 Ra;have hc:(a.map λ_=>2).sum=2*a.length:=fR a;have:=UW (f:=Eg) (cost:=λ_=>2) (z :=Ab.zero) (a:=a) (H:=λ_ _ _=>True) (k:=k) 2305843009213693952 (λb i d hi hd hg rq hb=>by
  unfold Eg Js
  try simp only
  try simp only at hb
  rw[hd,Da hi,AQc];refine(vS b (by omega)).bind λs _=>?_;have YA:i<d.length:=by omega
  simp only[AP5,hd,APX,gsS YA,AR3];rw[AQe (Bg hi),AQe (Bg hi),w1 rq (by omega),w1 (by omega) (by omega),Bj hi hn];exact Ax.mk ⟨b+1+1,_,rfl,by omega,by omega,trivial⟩) (λb d hd=>by
  unfold Eg Js
  try simp only
  rw[hd,Ep,AQb]) h0 (by rw[hc];exact hk)
 rw[hc]at this;exact this.bind λr hr=>Ax.mk hr
def cJ(n:ASj):Nat:=5+(gF n).length+(AJ n).length
theorem aH{a:ASA}(hn:LS a){k:Int}(h0:0<=k)(hk:k+(((a.map cJ).sum:Nat):Int)<=2305843009213693952):Ax (Ib k a) (tG (λ_ _ _=>True) a (a.map cJ).sum k):=by
 unfold Ib Qh;have hl:=hn.1;have:=UW (f:=DI) (cost:=cJ) (z :=Ag.zero) (a:=a) (H:=λ_ _ _=>True) (k:=k) 2305843009213693952 (λb i d hi hd hg rq hb=>by
  unfold DI ID KH KG KF;simp only;have YA:i<d.length:=by omega
  have kI:YH (a.getD i Ag.zero):=hn.2 _ (AL hi);unfold cJ at hb;rw[hd,Da hi,AQc];simp(disch:=omega) only[w1,AP5,hd,APX,gsS YA,AR3,AQe (Bg hi),APW,AQd];rw[hg];refine(kY (a:=gF (a.getD i Ag.zero)) kI.2.1 (by omega) (by omega)).bind λr hr=>?_;obtain⟨r1,r2,_,_⟩:=hr;refine(aG (a:=AJ (a.getD i Ag.zero)) kI.1 (by omega) (by omega)).bind λq hq=>?_;obtain⟨q1,q2,_,_⟩:=hq;exact Ax.mk ⟨q.1,_,rfl,by omega,by unfold cJ;omega,trivial⟩) (λb d hd=>by
  unfold DI ID
  try simp only
  rw[hd,Ep,AQb]) h0 hk
 exact this.bind λr hr=>Ax.mk hr
def uC(t:ASA):Nat:=(t.map cJ).sum
def jX(x:ASh):Nat:=2+uC x.2.2.1.1+uC x.2.2.2.1.1
theorem iy{a:ASy}(hl:a.length<=1048576)(hn:∀x∈a,Gm x){k:Int}(h0:0<=k)(hk:k+(((a.map jX).sum:Nat):Int)<=2305843009213693952):Ax (Iz k a) (tG (λ_ _ _=>True) a (a.map jX).sum k):=by
 unfold Iz M5;have:=UW (f:=CX) (cost:=jX) (z :=Ae.zero) (a:=a) (H:=λ_ _ _=>True) (k:=k) 2305843009213693952 (λb i d hi hd hg rq hb=>by
  unfold CX Gx IC IB IA;simp only;have YA:i<d.length:=by omega
  have kI:Gm (a.getD i Ae.zero):=hn _ (AL hi);unfold jX uC at hb;rw[hd,Da hi,AQc];simp(disch:=omega) only[w1,AP5,hd,APX,gsS YA,AR3,AQe (Bg hi),APW,AQd];rw[hg];refine(aH (a:=(a.getD i Ae.zero).2.2.1.1) kI.1 (by omega) (by omega)).bind λr hr=>?_;obtain⟨r1,r2,_,_⟩:=hr;refine(aH (a:=(a.getD i Ae.zero).2.2.2.1.1) kI.2 (by omega) (by omega)).bind λq hq=>?_;obtain⟨q1,q2,_,_⟩:=hq;exact Ax.mk ⟨q.1,_,rfl,by omega,by unfold jX uC;omega,trivial⟩) (λb d hd=>by
  unfold CX Gx
  try simp only
  rw[hd,Ep,AQb]) h0 hk
 exact this.bind λr hr=>Ax.mk hr
end Go.Proofs.X
namespace Go.Proofs.X
open Go Go.Va
set_option maxRecDepth 100000
theorem iM{A:Type}{G:A->A->ATC Bool}{a:A}(h:Xx G a):G a a=some true:=by
 obtain⟨r,hr,hq⟩:=h a;rw[hr,hq.2 rfl]
theorem Acz(n:ASj):cJ n=5+wt Ag n:=by
 have e:wt Ag n=wt (.sl (.int .u64)) (gF n)+wt (.sl (.int .i64)) (AJ n):=by show 0+(0+(0+(0+((0+(_+0))+(_+0)))))=_;unfold gF AJ;omega
 rw[e,z8,z7];unfold cJ;omega
theorem od(t:ASA):uC t<=5*wt (.sl Ag) t:=by
 show(t.map cJ).sum<=5*(t.length+(t.map (wt Ag)).sum);induction t with
 |nil=>simp
 |cons n t ih=>simp only[AQI,ARu,AQL,Acz];omega
theorem Acy(l:ASy):(l.map jX).sum<=5*wt (.sl Ae) l:=by
 show _<=5*(l.length+(l.map (wt Ae)).sum);induction l with
 |nil=>simp
 |cons x l ih =>
  have h1:=od x.2.2.1.1;have h2:=od x.2.2.2.1.1;have e:wt Ae x=wt (.sl Ag) x.2.2.1.1+wt (.sl Ag) x.2.2.2.1.1:=by show 0+(0+((_+0)+((_+0)+0)))=_;omega
  simp only[AQI,ARu,AQL,jX];omega
abbrev gI(l:ASs)(i:Nat):Int:=l.getD i ATl.zero
theorem fe{l:ASs}{i j:Nat}{x:Int}(hi:i<l.length):gI (l.set i x) j=if j=i then x else gI l j:=by
 grind
theorem br{l:ASs}{x:Int}{j:Nat}:gI (l++[x]) j=if j=l.length then x else gI l j:=by
 grind
structure Fo (ld:ASs) (rt dp:Nat->Nat):Prop where
 up:∀a,a<ld.length->∃b,b<ld.length/\gI ld a=(b:Int)/\rt b=rt a/\(b=a/\rt a=a\/dp b<dp a)
 Yt:∀a,a<ld.length->rt a<ld.length/\rt (rt a)=rt a/\gI ld (rt a)=(rt a:Int)
 out:∀a,ld.length<=a->rt a=a
theorem Fo.half{ld:ASs}{rt dp:Nat->Nat}(h:Fo ld rt dp){a b c:Nat}(ha:a<ld.length)(hb:b<ld.length)(yQ:gI ld a=(b:Int))(Ke:b≠a)(hbc:gI ld b=(c:Int)):Fo (ld.set a (c:Int)) rt dp/\rt c=rt a/\dp c<dp a/\c<ld.length:=by
 obtain⟨b',_,e1,r1,d1⟩:=h.up a ha;have:b'=b:=by omega
 subst this;obtain⟨c',hc,e2,r2,d2⟩:=h.up b' hb;have:c'=c:=by omega
 subst this;have hdc:dp c'<dp a:=by grind
 refine⟨⟨λx hx=>?_,λx hx=>?_,λx hx=>?_⟩,by grind,hdc,hc⟩
 ·rw[AP5]at hx⊢;rw[fe ha];by_cases e:x=a
  ·grind
  ·rw[AQf e];exact h.up x hx
 ·rw[AP5]at hx⊢;obtain⟨t1,t2,t3⟩:=h.Yt x hx
  grind
 ·rw[AP5]at hx;exact h.out x hx
theorem Fo.root{ld:ASs}{rt dp:Nat->Nat}(h:Fo ld rt dp){a:Nat}(ha:a<ld.length)(e:gI ld a=(a:Int)):rt a=a:=by
 obtain⟨b,hb,e1,r1,d1⟩:=h.up a ha
 grind
theorem Fo.add{ld:ASs}{rt dp:Nat->Nat}(h:Fo ld rt dp):Fo (ld++[(ld.length:Int)]) rt dp:=by
 refine⟨λx hx=>?_,λx hx=>?_,λx hx=>?_⟩
 ·rw[AP0,AQg]at hx⊢;rw[br];by_cases e:x=ld.length
  ·subst e;exact⟨ld.length,by omega,by grind,rfl,.inl ⟨rfl,h.out _ (AP2 _)⟩⟩
  ·rw[AQf e];obtain⟨b,hb,e1,r1,d1⟩:=h.up x (by omega);exact⟨b,by omega,e1,r1,d1⟩
 ·rw[AP0,AQg]at hx⊢;by_cases e:x=ld.length
  ·have:=h.out x (by omega)
   grind
  ·obtain⟨t1,t2,t3⟩:=h.Yt x (by omega)
   grind
 ·rw[AP0]at hx;exact h.out x (by omega)
def dj(rt:Nat->Nat)(x y a:Nat):Nat:=if rt a=y then x else rt a
theorem Fo.join{ld:ASs}{rt dp:Nat->Nat}(h:Fo ld rt dp){x y:Nat}(hx:x<ld.length)(hy:y<ld.length)(rx:rt x=x)(ry:rt y=y)(Ke:x≠y):∃dp',Fo (ld.set y (x:Int)) (dj rt x y) dp':=by
 have gx :=by have:=(h.Yt x hx).2.2;rw[rx]at this;exact this
 refine⟨λa=>if rt a=y then dp a+dp x+1 else dp a,⟨λa ha=>?_,λa ha=>?_,λa ha=>?_⟩⟩
 ·rw[AP5]at ha⊢;rw[fe hy];by_cases e:a=y
  ·subst e;refine⟨x,hx,by grind,?_,.inr ?_⟩
   ·simp only[dj,rx,AQJ];split<;>rfl
   ·grind
  ·rw[AQf e];obtain⟨b,hb,e1,r1,d1⟩:=h.up a ha;refine⟨b,hb,e1,by simp only[dj,r1],?_⟩;simp only[dj,r1]
   grind
 ·rw[AP5]at ha⊢;obtain⟨t1,t2,t3⟩:=h.Yt a ha;by_cases e:rt a=y
  ·have:dj rt x y a=x:=by simp[dj,e]
   rw[this];refine⟨hx,by simp[dj,rx],?_⟩;rw[fe hy,AQf Ke];exact gx
  ·have:dj rt x y a=rt a:=by simp[dj,e]
   rw[this];refine⟨t1,by simp[dj,t2,e],?_⟩;rw[fe hy,AQf e];exact t3
 ·rw[AP5]at ha;have:=h.out a ha;simp only[dj,this];rw[P9]
theorem Fo.b7{ld:ASs}{rt dp:Nat->Nat}(h:Fo ld rt dp)(a:Nat):rt (rt a)=rt a:=by
 rcases AP7 a _ with ha |ha
 ·exact(h.Yt a ha).2.1
 ·rw[h.out a ha,h.out a ha]
theorem dk{rt:Nat->Nat}(hr:∀a,rt (rt a)=rt a){x y:Nat}(rx:rt x=x)(ry:rt y=y)(a b:Nat):dj rt x y a=dj rt x y b↔rt a=rt b\/(rt a=x/\rt b=y)\/(rt a=y/\rt b=x):=by
 simp only[dj];split<;>split<;>omega
def qd(rt:Nat->Nat)(ns n r:Nat)(v:Int):Prop:=(v=-1/\∀j,ns<=j->j<n->rt j≠r)\/∃j:Nat,v=(j:Int)/\ns<=j/\j<n/\rt j=r/\∀i,ns<=i->i<j->rt i≠r
theorem qd.uniq{rt:Nat->Nat}{ns n r:Nat}{v w:Int}(h:qd rt ns n r v)(k:qd rt ns n r w):v=w:=by
 rcases h with ⟨rfl,h⟩|⟨i,rfl,h1,h2,h3,h4⟩<;>rcases k with ⟨rfl,k⟩|⟨j,rfl,k1,k2,k3,k4⟩
 ·rfl
 ·grind
 ·grind
 grind
theorem qd.ge{rt:Nat->Nat}{ns n r:Nat}{v:Int}(h:qd rt ns n r v):-1<=v/\v<(n:Int):=by
 rcases h with ⟨rfl,h⟩|⟨i,rfl,h1,h2,h3,h4⟩<;>omega
theorem qd.join{rt:Nat->Nat}{ns n x y:Nat}{v w:Int}(Ke:x≠y)(h:qd rt ns n x v)(k:qd rt ns n y w):qd (dj rt x y) ns n x (if 0<=v/\0<=w then min v w else max v w):=by
 rcases h with ⟨rfl,h⟩|⟨i,rfl,h1,h2,h3,h4⟩<;>rcases k with ⟨rfl,k⟩|⟨j,rfl,k1,k2,k3,k4⟩
 ·refine .inl ⟨rfl,λq q1 q2=>?_⟩;have:=h q q1 q2;have:=k q q1 q2;simp only[dj];split<;>omega
 ·refine .inr ⟨j,by omega,k1,k2,by simp[dj,k3],λq q1 q2=>?_⟩;have:=h q q1 (by omega);have:=k4 q q1 q2;simp only[dj];split<;>omega
 ·refine .inr ⟨i,by omega,h1,h2,by simp only[dj,h3];split<;>rfl,λq q1 q2=>?_⟩;have:=k q q1 (by omega);have:=h4 q q1 q2;simp only[dj];split<;>omega
 ·by_cases vg:i<=j
  ·refine .inr ⟨i,by omega,h1,h2,by simp only[dj,h3];split<;>rfl,λq q1 q2=>?_⟩;have:=k4 q q1 (by omega);have:=h4 q q1 q2;simp only[dj];split<;>omega
  ·refine .inr ⟨j,by omega,k1,k2,by simp[dj,k3],λq q1 q2=>?_⟩;have:=k4 q q1 q2;have:=h4 q q1 (by omega);simp only[dj];split<;>omega
theorem qd.other{rt:Nat->Nat}{ns n x y r:Nat}{v:Int}(hx:r≠x)(hy:r≠y)(h:qd rt ns n r v):qd (dj rt x y) ns n r v:=by
 have e:∀q,dj rt x y q=r↔rt q=r:=λq=>by simp only[dj];split<;>omega
 rcases h with ⟨rfl,h⟩|⟨i,rfl,h1,h2,h3,h4⟩
 ·exact .inl ⟨rfl,λq q1 q2=>by grind⟩
 ·exact .inr ⟨i,rfl,h1,h2,(e i).2 h3,λq q1 q2=>by grind⟩
theorem qd.add{rt:Nat->Nat}{ns n r:Nat}{v:Int}(hn:rt n=n)(hr:r<n)(h:qd rt ns n r v):qd rt ns (n+1) r v:=by
 rcases h with ⟨rfl,h⟩|⟨i,rfl,h1,h2,h3,h4⟩
 ·refine .inl ⟨rfl,λq q1 q2=>?_⟩
  grind
 ·exact .inr ⟨i,rfl,h1,by omega,h3,h4⟩
inductive Cn (ls:ASx):Int->Int->Prop
 |refl (a:Int):Cn ls a a
 |rj {a:Int} {l:ASg}:l∈ls->Cn ls a l.1->Cn ls a l.2.1
 |bwd {a:Int} {l:ASg}:l∈ls->Cn ls a l.2.1->Cn ls a l.1
theorem Cn.trans{ls:ASx}{a b c:Int}(h:Cn ls a b)(k:Cn ls b c):Cn ls a c:=by
 induction k with
 |refl=>grind
 |rj m _ ih=>exact .rj m ih
 |bwd m _ ih=>exact .bwd m ih
theorem Cn.symm{ls:ASx}{a b:Int}(h:Cn ls a b):Cn ls b a:=by
 induction h with
 |refl=>exact .refl _
 |rj m _ ih=>exact(Cn.bwd m (.refl _)).trans ih
 |bwd m _ ih=>exact(Cn.rj m (.refl _)).trans ih
theorem Cn.mono{ls ms:ASx}(hm:∀l∈ls,l∈ms){a b:Int}(h:Cn ls a b):Cn ms a b:=by
 induction h with
 |refl=>exact .refl _
 |rj m _ ih=>exact .rj (hm _ m) ih
 |bwd m _ ih=>exact .bwd (hm _ m) ih
theorem qY{ld:ASs}{rt dp:Nat->Nat}(h:Fo ld rt dp){j:Nat}(hj:j<ld.length)(a:Int)(fx:ASs)(vm:ATB ASL)(ls:ASx) :
    Ax (EI a (j:Int) ld fx vm ls) λr=>∃gD,r=(((rt j:Nat):Int),gD,fx,vm,ls)/\gD.length=ld.length/\Fo gD rt dp:=by
 unfold EI OJ;refine Ax.bind (P:=λq:Int×ASs=>∃gD,q=(((rt j:Nat):Int),gD)/\gD.length=ld.length/\Fo gD rt dp) ?_ λq hq=>?_
 ·refine Bn (λm (s:Int×ASs)=>∃k:Nat,s.1=(k:Int)/\k<s.2.length/\s.2.length=ld.length/\Fo s.2 rt dp/\rt k=rt j/\m=dp k) (λm s hI=>?_) (dp j) ((j:Int),ld) ⟨j,rfl,hj,rfl,h,rfl,rfl⟩;obtain⟨k,e,hk,hl,hf,hr,rfl⟩:=hI;obtain⟨g,l⟩:=s;simp only at e hk hl hf;subst e;unfold HP LO;simp only[APX];obtain⟨b,hb,e1,r1,d1⟩:=hf.up k hk;obtain⟨c,hc,e2,r2,d2⟩:=hf.up b hb;have g1:l.getD k ATl.zero=(b:Int):=e1;have g2:l.getD b ATl.zero=(c:Int):=e2;rw[AQe (Bg hk),g1];by_cases hbk:b=k
  ·subst hbk;rw[ARe,AQb];exact Ax.mk ⟨l,by rw[<-hr,hf.root hk e1],hl,hf⟩
  ·have Ke:(((b:Nat):Int) !=((k:Nat):Int))=true:=by rw[ARt];omega
   obtain⟨f1,f2,f3,f4⟩:=hf.half hk hb e1 hbk e2;have g3:(l.set k (c:Int)).getD k ATl.zero=(c:Int):=by have:=fe (j:=k) (x:=(c:Int)) hk;rw[AQe rfl]at this;exact this
   simp only[APX,g2,g3,Ke,AQc,AP5,AQe (Bg hk),AQe (Bg hb)];exact Ax.mk ⟨dp c,f3,c,rfl,by rw[AP5];exact f4,by rw[AP5];exact hl,f1,by rw[f2,hr],rfl⟩
 ·obtain⟨gD,rfl,h1,h2⟩:=hq;exact Ax.mk ⟨gD,rfl,h1,h2⟩
theorem kr{rt:Nat->Nat}{ns:Nat}{vs:ASB}{BA:ASs}(hv:vs.length=BA.length)(hl:∀i j,i<BA.length->j<BA.length->(gI BA i=gI BA j↔rt i=rt j))(hw:∀i,i<BA.length->((vs.getD i Ah.zero).1>0↔ns<=i))(hn:BA.length<=4194304){b:Nat}(hb:b<BA.length)(a:Int)(ls:ASx) :
    Ax (EX a (b:Int) vs ls BA) λr=>∃v,r=(v,vs,ls,BA)/\qd rt ns BA.length (rt b) v:=by
 unfold EX OR;refine Ax.bind (P:=λq:Int⊕Unit=>(∃v,q=.inl v/\qd rt ns BA.length (rt b) v)\/(q=.inr ()/\qd rt ns BA.length (rt b) (-1))) ?_ λq hq=>?_
 ·refine Bn (λm (s:Int)=>∃k:Nat,s=(k:Int)/\k<=BA.length/\m=BA.length-k/\∀i,ns<=i->i<k->rt i≠rt b) (λm s hI=>?_) BA.length 0 ⟨0,rfl,AQH _,rfl,λi _ h=>absurd h (by omega)⟩;obtain⟨k,rfl,hk,rfl,VT⟩:=hI;unfold HV LP Jx;rcases AP7 k BA.length with Bp |ZO
  ·rw[Da Bp,AQc];simp only[APX];rw[AQe (Bg Bp),AQe (Bg hb)];have hE:=hl k b Bp hb;have AnS:(∀i,ns<=i->i<k+1->rt i≠rt b)->∃m,m<BA.length-k/\∃k':Nat,wI ((k:Int)+1)=(k':Int)/\k'<=BA.length/\m=BA.length-k'/\∀i,ns<=i->i<k'->rt i≠rt b:=λhn' =>
    ⟨BA.length-(k+1),by omega,k+1,A0,by omega,rfl,hn'⟩
   by_cases e:gI BA k=gI BA b
   ·have e':(BA.getD k ATl.zero==BA.getD b ATl.zero)=true:=by rw[AQ8];exact e
    rw[e',AQc,AQe (show(0:Int)<=(k:Int)/\(k:Int)<(vs.length:Int) by omega),APW];by_cases hp:ns<=k
    ·rw[AP1 ((hw k Bp).2 hp),AQc];exact Ax.mk (.inl ⟨k,rfl,.inr ⟨k,rfl,hp,Bp,hE.1 e,λi h1 h2=>VT i h1 h2⟩⟩)
    ·rw[APZ λx=>hp ((hw k Bp).1 x),AQb];exact Ax.mk (AnS λi h1 h2=>by
      by_cases h3:i=k
      ·omega
      ·exact VT i h1 (by omega))
   ·have e':(BA.getD k ATl.zero==BA.getD b ATl.zero)=false:=by rw[ARF];exact e
    rw[e',AQb,APW,AQb];exact Ax.mk (AnS λi h1 h2=>by
     by_cases h3:i=k
     ·subst h3;exact λx=>e (hE.2 x)
     ·exact VT i h1 (by omega))
  ·have:k=BA.length:=by omega
   subst this;rw[Ep,AQb];exact Ax.mk (.inr ⟨rfl,.inl ⟨rfl,λj h1 h2=>VT j h1 h2⟩⟩)
 ·rcases hq with ⟨v,rfl,hv⟩|⟨rfl,hv⟩
  ·exact Ax.mk ⟨v,rfl,hv⟩
  ·exact Ax.mk ⟨-1,rfl,hv⟩
theorem Ah3{BA:ASs}{i j:Nat}(hi:i<BA.length)(hj:j<BA.length)(hn:BA.length<=4194304) :
    Ol (i:Int) (j:Int) BA=some (BA.map λx=>if x=max (gI BA i) (gI BA j)then min (gI BA i) (gI BA j)else x):=by
 unfold Ol;simp only[APX];rw[AQe (Bg hi),AQe (Bg hj),AQe (Bg hi),AQe (Bg hj)];generalize hx:(if BA.getD j ATl.zero<BA.getD i ATl.zero then BA.getD j ATl.zero else BA.getD i ATl.zero)=x;generalize hy:(if BA.getD j ATl.zero>BA.getD i ATl.zero then BA.getD j ATl.zero else BA.getD i ATl.zero)=y;have vC:x=min (gI BA i) (gI BA j):=by rw[<-hx];unfold gI;split<;>omega
 have iV:y=max (gI BA i) (gI BA j):=by rw[<-hy];unfold gI;split<;>omega
 rw[<-vC,<-iV];unfold Uq;have:=AW (f:=F5 x y) (λk=>((k:Int),(BA.take k).map (λz=>if z=y then x else z)++BA.drop k)) (t:=BA.map λz=>if z=y then x else z) BA.length (λk hk=>?_) ?_
 ·simp only[AR5,ARK,AQ5,AR4]at this;exact(congrArg (λo=>Option.bind o λc=>some c) this).trans rfl
 ·unfold F5 MD P4;have hlen:((BA.take k).map (λz=>if z=y then x else z)++BA.drop k).length=BA.length:=by simp;omega
  have hg:((BA.take k).map (λz=>if z=y then x else z)++BA.drop k).getD k ATl.zero=BA.getD k ATl.zero:=by
   have:((BA.take k).map (λz=>if z=y then x else z)).length=k:=by simp;omega
   rw[List.getD_eq_getElem?_getD,AQi (by omega),this,Nat.sub_self,ARZ,AR2,List.getD_eq_getElem?_getD]
  have hs:∀v,((BA.take k).map (λz=>if z=y then x else z)++BA.drop k).set k v=(BA.take k).map (λz=>if z=y then x else z)++v::BA.drop (k+1):=λv=>by
   have h1:((BA.take k).map (λz=>if z=y then x else z)).length=k:=by simp;omega
   rw[ARx hk,ARm _ _ (by omega),h1,Nat.sub_self,List.set_cons_zero]
  have ht:∀v,v=(if BA.getD k ATl.zero=y then x else BA.getD k ATl.zero)->(BA.take k).map (λz=>if z=y then x else z)++v::BA.drop (k+1)=(BA.take (k+1)).map (λz=>if z=y then x else z)++BA.drop (k+1):=λv hv=>by
   have e:BA.getD k ATl.zero=BA[k]:=by simp[List.getD,hk]
   rw[AQO hk,AQG,hv,e];simp
  simp only[APX,hlen];rw[Da hk,AQc,AQe (Bg hk),hg];by_cases e:BA.getD k ATl.zero=y
  ·have e':(BA.getD k ATl.zero==y)=true:=by rw[AQ8];exact e
   rw[e',AQc,AQe (Bg hk),APW,hs,ht x (by rw[AQe e])];rw[A0 (n:=k+1)]
  ·have e':(BA.getD k ATl.zero==y)=false:=by rw[ARF];exact e
   have Y3:(BA.take k).map (λz=>if z=y then x else z)++BA.drop k=(BA.take (k+1)).map (λz=>if z=y then x else z)++BA.drop (k+1):=by
    rw[<-ht (BA.getD k ATl.zero) (by rw[AQf e]),ARx hk];simp[List.getD,hk]
   rw[e',AQb,APW,Y3,A0 (n:=k+1)]
 ·unfold F5 MD;simp only[ARI,List.drop_length,AQB,AP8];rw[Ep,AQb]
theorem zf(x y:Int):Bf ATl x y=true↔x=y:=by simp[Bf]
theorem oL(x:Int):Bf ATl x x=true:=(zf x x).2 rfl
theorem SD{vt:Ty}(k k':Int)(v:vt.V)(es:ATB (Int×vt.V)):Bv ATl vt (Cf ATl vt es k v) k'=if k'=k then v else Bv ATl vt es k':=by
 have h:=fA (kt:=.int .i64)  zf k k' v es;refine h.trans ?_;by_cases e:k'=k
 ·rw[AQe e,(zf _ _).2 e];rfl
 ·rw[AQf e,show Bf ATl k' k=false from Bool.eq_false_iff.2 λx=>e ((zf _ _).1 x)];rfl
theorem Xi{vt:Ty}(k k':Int)(v:vt.V)(es:ATB (Int×vt.V)):Uf ATl vt (Cf ATl vt es k v) k'=(decide (k'=k)||Uf ATl vt es k'):=by
 have h:=XN (kt:=.int .i64)  zf k k' v es;unfold Uf;rw[h];by_cases e:k'=k
 ·rw[AP1 e,(zf _ _).2 e];rfl
 ·rw[APZ e,show Bf ATl k' k=false from Bool.eq_false_iff.2 λx=>e ((zf _ _).1 x)];rfl
abbrev LM:Type:=List ASQ
abbrev oY(c:LM)(x:Int):ASx:=Bv ATl ATu c x
def yv(c:LM)(k:Int)(y:ASg):LM:=Cf ATl ATu c k (oY c k++[y])
theorem QR{c:LM}{k x:Int}{y e:ASg}:e∈oY (yv c k y) x↔e∈oY c x\/(x=k/\e=y):=by
 unfold oY yv;rw[SD ]
 grind
theorem jA{c:LM}{k x:Int}{y:ASg}:(oY (yv c k y) x).length<=(oY c x).length+1:=by
 unfold oY yv;rw[SD ]
 grind
structure Bsd (v:ASx) (N k:Nat) (c:LM):Prop where
 AY:∀x e,e∈oY c x->e.1=x/\0<=e.2.1/\e.2.1<(N:Int)
 all:∀q,q<k->(∃e∈oY c (v.getD q Ad.zero).1,e.2.1=(v.getD q Ad.zero).2.1)/\∃e∈oY c (v.getD q Ad.zero).2.1,e.2.1=(v.getD q Ad.zero).1
 len:∀x,(oY c x).length<=2*k
theorem Ack{v:ASx}{N:Nat}(hv:v.length<=4194304)(hb:∀l∈v,(0<=l.1/\l.1<(N:Int))/\0<=l.2.1/\l.2.1<(N:Int))(a g:Int):Ax (Wz a g v (v.length:Int) 0 []) (Bsd v N v.length):=by
 refine Bn (λm (s:Int×LM)=>∃k:Nat,s.1=(k:Int)/\k<=v.length/\m=v.length-k/\Bsd v N k s.2) (λm s hI=>?_) v.length (0,[]) ⟨0,rfl,AQH _,rfl,⟨λx e h=>(by cases h),λq h=>(by omega),λx=>AP2 _⟩⟩;obtain⟨k,e,hk,rfl,hB⟩:=hI;obtain⟨x,c⟩:=s;simp only at e hB;subst e;unfold Py T9;simp only[APX];rcases AP7 k v.length with Bp |ZO
 ·rw[Da Bp,AQc,AQe (Bg Bp)];generalize hl:v.getD k Ad.zero=l;have hm:l∈v:=by grind
  obtain⟨hA,hB'⟩:=hb l hm;unfold Ta Tb;have l1:=hB.len l.1;have l2:=jA (c:=c) (k:=l.1) (x:=l.2.1) (y:=l);have l3:=hB.len l.2.1;rw[AQe (show((Bv ATl ATu c l.1).length+([l]:ASx).length)*24<=140737488355328 by grind),oL,AQc,APW];rw[AQe (show((Bv ATl ATu (Cf ATl ATu c l.1 (Bv ATl ATu c l.1++[l])) l.2.1).length+([(l.2.1,l.1,l.2.2.1,())]:ASx).length)*24<=140737488355328 by
   rw[AQg];have:(Bv ATl ATu (Cf ATl ATu c l.1 (Bv ATl ATu c l.1++[l])) l.2.1).length<=(oY c l.2.1).length+1:=l2;omega),oL,AQc]
  refine Ax.mk ⟨v.length-(k+1),by omega,k+1,A0,by omega,rfl,?_⟩;show Bsd v N (k+1) (yv (yv c l.1 l) l.2.1 (l.2.1,l.1,l.2.2.1,()));refine⟨λx e h=>?_,λq hq=>?_,λx=>?_⟩
  ·rcases QR.1 h with h |⟨rfl,rfl⟩
   ·rcases QR.1 h with h |⟨rfl,rfl⟩
    ·exact hB.AY x e h
    ·grind
   ·grind
  ·by_cases e:q=k
   ·subst e;rw[hl];exact⟨⟨l,QR.2 (.inl (QR.2 (.inr ⟨rfl,rfl⟩))),rfl⟩,⟨_,QR.2 (.inr ⟨rfl,rfl⟩),rfl⟩⟩
   ·obtain⟨⟨e1,h1,h2⟩,e2,h3,h4⟩:=hB.all q (by omega);exact⟨⟨e1,QR.2 (.inl (QR.2 (.inl h1))),h2⟩,e2,QR.2 (.inl (QR.2 (.inl h3))),h4⟩
  ·have a1:=jA (c:=yv c l.1 l) (k:=l.2.1) (x:=x) (y:=(l.2.1,l.1,l.2.2.1,()));have a2:=jA (c:=c) (k:=l.1) (x:=x) (y:=l);have a3:=hB.len x;omega
 ·have:k=v.length:=by omega
  subst this;rw[Ep];exact Ax.mk hB
theorem o9:∀(N:Nat) (l:ASs),l.Nodup->(∀x∈l,0<=x/\x<(N:Int))->l.length<=N
 |0,l,_,h=>by
  cases l with
  |nil=>grind
  |cons x l=>have:=h x AQr;omega
 |N+1,l,hn,h=>by
  have:=o9 N (l.erase N) (hn.erase _) λx hx=>by
   grind
  grind
abbrev FMp:Type:=List ASU
abbrev hsF(t:FMp)(x:Int):Bool:=Uf ATl Ad t x
abbrev mgF(t:FMp)(x:Int):ASg:=Bv ATl Ad t x
structure Met (N:Nat) (a:Int) (t:FMp) (ms:ASs):Prop where
 nd:ms.Nodup
 bd:∀x∈ms,0<=x/\x<(N:Int)
 fst:gI ms 0=a/\0<ms.length
 has:∀x,hsF t x=true↔x∈ms
 back:∀k,1<=k->k<ms.length->∃k',k'<k/\(mgF t (gI ms k)).1=gI ms k'
theorem Met.len{N:Nat}{a:Int}{t:FMp}{ms:ASs}(h:Met N a t ms):ms.length<=N:=o9 N ms h.nd h.bd
theorem Met.add{N:Nat}{a:Int}{t:FMp}{ms:ASs}(h:Met N a t ms){e:ASg}(he:0<=e.2.1/\e.2.1<(N:Int))(VT:hsF t e.2.1=false){p:Nat}(hp:p<ms.length)(h1:e.1=gI ms p):Met N a (Cf ATl Ad t e.2.1 e) (ms++[e.2.1]):=by
 have hnm:e.2.1∉ms:=λx=>by rw[(h.has _).2 x]at VT;cases VT
 have hg:∀k,k<ms.length->gI (ms++[e.2.1]) k=gI ms k:=λk hk=>by grind
 refine⟨?_,λx hx=>?_,⟨?_,by simp⟩,λx=>?_,λk k1 k2=>?_⟩
 ·rw[AR0];exact⟨h.nd,by simp,λx hx y hy e'=>by grind⟩
 ·rcases List.mem_append.1 hx with hx |hx
  ·exact h.bd x hx
  grind
 ·rw[hg 0 h.fst.2];exact h.fst.1
 ·unfold hsF;rw[Xi (vt:=Ad),ARh,ARw,ARl,AQn,<-h.has x];exact Or.comm
 ·rw[AP0,AQg]at k2;unfold mgF;by_cases hk:k=ms.length
  ·subst hk;have e1:gI (ms++[e.2.1]) ms.length=e.2.1:=by grind
   exact⟨p,hp,by rw[e1,SD (vt:=Ad),AQe rfl,hg p hp];exact h1⟩
  ·obtain⟨k',h2,h3⟩:=h.back k k1 (by omega);refine⟨k',h2,?_⟩;have Ke:gI ms k≠e.2.1:=λx=>hnm (by grind);rw[hg k (by omega),hg k' (by omega),SD (vt:=Ad),AQf Ke];exact h3
structure ABx (N:Nat) (a:Int) (c:LM) (p:Nat) (t:FMp) (u ms:ASs):Prop where
 met:Met N a t ms
 le:p<=ms.length
 todo:u=ms.drop p
 done:∀q,q<p->∀e∈oY c (gI ms q),e.2.1∈ms
theorem AhJ{N p:Nat}{a g:Int}{c:LM}{v:ASx}(hN:N<=4194304)(hB:Bsd v N v.length c)(hv:v.length<=4194304){t:FMp}{ms:ASs}(hM:Met N a t ms)(hp:p<ms.length)(hd:∀q,q<p->∀e∈oY c (gI ms q),e.2.1∈ms) :
    Ax (WA a g c (oY c (gI ms p)) ((oY c (gI ms p)).length:Int) 0 t (ms.drop (p+1))) λr=>∃rX,ABx N a c (p+1) r.1 r.2 rX:=by
 generalize hj:oY c (gI ms p)=j;have eC:j.length<=2*v.length:=by rw[<-hj];exact hB.len _
 refine Bn (λm (s:Int×FMp×ASs)=>∃(n:Nat) (rX:ASs),s.1=(n:Int)/\n<=j.length/\m=j.length-n/\Met N a s.2.1 rX/\p<rX.length/\gI rX p=gI ms p/\s.2.2=rX.drop (p+1)/\(∀q,q<p->∀e∈oY c (gI rX q),e.2.1∈rX)/\∀q,q<n->(j.getD q Ad.zero).2.1∈rX) (λm s hI=>?_) j.length (0,t,ms.drop (p+1)) ⟨0,ms,rfl,AQH _,rfl,hM,hp,rfl,rfl,hd,λq h=>by omega⟩;obtain⟨n,rX,e1,hn,rfl,hM',hp',hgp,e2,hd',yR⟩:=hI;obtain⟨x,t',u'⟩:=s;subst e1;subst e2;unfold Pz Ua;have tq:=hM'.len;rcases AP7 n j.length with Bp |ZO
 ·rw[Da Bp];unfold Tc;simp only[APX];rw[AQe (Bg Bp)];generalize he:j.getD n Ad.zero=e;have hm:e∈oY c (gI ms p):=by grind
  obtain⟨b1,b2⟩:=hB.AY _ _ hm;have hw:wI ((n:Int)+1)=((n+1:Nat):Int):=A0;cases hh:Uf ATl Ad t' e.2.1 with
  |true =>
   refine Ax.mk ⟨j.length-(n+1),by omega,n+1,rX,hw,by omega,rfl,hM',hp',hgp,rfl,hd',λq hq=>?_⟩;by_cases h:q=n
   ·subst h;rw[he];exact(hM'.has _).1 hh
   ·grind
  |false =>
   simp only[ARg,AQc];rw[AP1 (show((rX.drop (p+1)).length+([e.2.1]:ASs).length)*8<=140737488355328 by grind),AQc];have hg:∀k,k<rX.length->gI (rX++[e.2.1]) k=gI rX k:=λk hk=>by grind
   refine Ax.mk ⟨j.length-(n+1),by omega,n+1,rX++[e.2.1],hw,by omega,rfl,hM'.add b2 hh hp' (by grind),by grind,by grind,?_,λq hq e' he'=>?_,λq hq=>?_⟩
   ·grind
   ·grind
   ·by_cases h:q=n
    ·subst h;rw[he];simp
    ·exact AQu _ (yR q (by omega))
 ·have:n=j.length:=by omega
  subst this;rw[Ep];refine Ax.mk ⟨rX,hM',by omega,rfl,λq hq e he=>?_⟩;by_cases h:q=p
  ·subst h;rw[hgp,hj]at he;obtain⟨i,hi,h2⟩:=List.mem_iff_getElem.1 he;have:=yR i hi;rwa [show j.getD i Ad.zero=e by rw[<-h2];simp[hi]]at this
  ·grind
theorem AdE{N:Nat}{a g:Int}{c:LM}{v:ASx}(hN:N<=4194304)(hB:Bsd v N v.length c)(hv:v.length<=4194304)(ha:0<=a/\a<(N:Int)) :
    Ax (WB a g c (Cf ATl Ad ([]:FMp) a (a,a,0,())) [a]) λt=>∃ms,Met N a t ms/\∀q,q<ms.length->∀e∈oY c (gI ms q),e.2.1∈ms:=by
 have h0:Met N a (Cf ATl _ [] a (a,a,0,())) [a]:=by
  refine⟨by simp,λx hx=>by grind,⟨rfl,by simp⟩,λx=>?_,λk k1 k2=>by grind⟩;unfold hsF;rw[Xi ];simp[Uf,Pf]
 refine Bn (λm s=>∃p ms,ABx N a c p s.1 s.2 ms/\m=N-p) (λm s hI=>?_) N _ ⟨0,[a],⟨h0,by simp,rfl,λq h=>by omega⟩,rfl⟩;obtain⟨p,ms,hS,rfl⟩:=hI;obtain⟨t,u⟩:=s;have hu :=hS.todo;subst hu;unfold PD Ub;rcases AP7 p ms.length with Bp |ZO
 ·have hlen:(ms.drop p).length=ms.length-p:=AQw;rw[AP1 (show((ms.drop p).length:Int)>0 by omega),AP1 (show 1<=((ms.drop p).length:Int) by omega)];have e0:(ms.drop p).getD 0 ATl.zero=gI ms p:=by grind
  have e1:(ms.drop p).drop 1=ms.drop (p+1):=by rw[List.drop_drop]
  rw[e0,e1];refine(AhJ  hN hB hv hS.met Bp hS.done).bind λr hr=>?_;obtain⟨rX,hS'⟩:=hr;have:=hS'.le;have:=hS'.met.len;exact Ax.mk ⟨N-(p+1),by omega,p+1,rX,hS',rfl⟩
 ·have:p=ms.length:=by have:=hS.le;omega
  subst this;rw[APZ (by simp)];exact Ax.mk ⟨ms,hS.met,hS.done⟩
theorem Awy{v:ASx}{N:Nat}(hN:N<=4194304)(hv:v.length<=4194304)(hb:∀l∈v,(0<=l.1/\l.1<(N:Int))/\0<=l.2.1/\l.2.1<(N:Int)){a g:Int}(ha:0<=a/\a<(N:Int))(Ke:g≠a)(hc:Cn v a g):Ax (XK v a g) λr=>r≠[]:=by
 refine(Ack hv hb a g).bind λc hB=>?_;refine(AdE (g:=g) hN hB hv ha).bind λt ht=>?_;obtain⟨ms,hM,Il⟩:=ht;have tq:=hM.len;have rz:∀{x},x∈ms->∃k,k<ms.length/\gI ms k=x:=λ{x} hx=>by
  obtain⟨k,hk,e⟩:=List.mem_iff_getElem.1 hx;exact⟨k,hk,by grind⟩
 have Ge:∀{x},Cn v a x->x∈ms:=λ{x} h=>by
  induction h with
  |refl=>rw[<-hM.fst.1];exact AL hM.fst.2
  |rj hl _ ih =>
   obtain⟨k,hk,e⟩:=rz ih;obtain⟨q,hq,e2⟩:=List.mem_iff_getElem.1 hl;obtain⟨⟨x,x1,x2⟩,_⟩:=hB.all q hq
   grind
  |bwd hl _ ih =>
   obtain⟨k,hk,e⟩:=rz ih;obtain⟨q,hq,e2⟩:=List.mem_iff_getElem.1 hl;obtain⟨_,⟨x,x1,x2⟩⟩:=hB.all q hq
   grind
 obtain⟨k0,hk0,e0⟩:=rz (Ge hc);refine Ax.bind (P:=λe:ASs=>e≠[]/\e.length<=N) ?_ λe he=>?_
 ·refine Bn (λm (s:Int×ASs)=>∃k,k<ms.length/\gI ms k=s.1/\m=k/\s.2.length+k<=k0/\(s.1=g/\s.2=[]\/s.2≠[])) (λm s hI=>?_) k0 (g,[]) ⟨k0,hk0,e0,rfl,by simp,.inl ⟨rfl,rfl⟩⟩;obtain⟨k,hk,e1,hm,hlen,BO⟩:=hI;rw[hm];obtain⟨x,e⟩:=s;simp only at e1 hlen BO;unfold PE Uc;simp only;by_cases hxa:x=a
  ·subst hxa;rw[ARe];rcases BO with ⟨h,_⟩|h
   ·grind
   ·exact Ax.mk ⟨h,by omega⟩
  ·rw[show(x !=a)=true by grind,AQe (by rw[AQg];omega)];have k1:1<=k:=by
    rcases AQk k with h |h
    ·subst h;rw[hM.fst.1]at e1;exact(hxa e1.symm).elim
    ·omega
   obtain⟨k',h1,h2⟩:=hM.back k k1 hk;rw[e1]at h2;exact Ax.mk ⟨k',h1,k',by omega,h2.symm,rfl,by rw[AP0,AQg];omega,.inr (by simp)⟩
 ·rw[Wv];refine Ax.mk λx=>?_;obtain⟨y,hy⟩:=List.exists_mem_of_ne_nil _ he.1;have:=((gU e).2 y).2 hy;rw[x]at this;cases this
abbrev lk(ls:ASx)(k:Nat):ASg:=ls.getD k Ad.zero
abbrev us(q:ASt)(k:Nat):Bool:=q.getD k (Ty.zero .bool)
theorem Ajm{q:ASt}{k j:Nat}(hk:k<q.length):us (q.set k true) j=if j=k then true else us q j:=by
 grind
def Tch(ls:ASx)(k:Nat)(x:Int):Prop:=(lk ls k).1=x\/(lk ls k).2.1=x
def Cl(ls:ASx)(q:ASt)(x:Int):Prop:=∀k,k<ls.length->Tch ls k x->us q k=true
def nu(n:Nat)(q:ASt):Nat:=(List.range n).countP λk=>!us q k
def Mo(q q':ASt):Prop:=∀k,us q k=true->us q' k=true
theorem Mo.nu{n:Nat}{q q':ASt}(h:Mo q q'):nu n q'<=nu n q:=ARQ λk _ hk=>by
 cases hq:us q k with
 |false=>grind
 |true=>rw[h k hq]at hk;cases hk
theorem Cl.mono{ls:ASx}{q q':ASt}(h:Mo q q'){x:Int}(hc:Cl ls q x):Cl ls q' x:=λk h1 h2=>h k (hc k h1 h2)
theorem Awd{q:ASt}{k:Nat}(hk:k<q.length):Mo q (q.set k true):=λj hj=>by grind
theorem Awh{n:Nat}{q:ASt}{k:Nat}(hk:k<q.length)(hn:k<n)(hu:us q k=false):nu n (q.set k true)+1<=nu n q :=
 ZC (λj hj=>by
  grind) (List.mem_range.2 hn) (by grind) (by grind)
def ym(ls:ASx)(q q':ASt)(P:Int->Prop):Prop:=∀k,k<ls.length->us q' k=true->us q k=false->∀x,Tch ls k x->P x
structure AIj (ls:ASx) (q:ASt) (b c:Int) (r:Bool×ASt×ASs):Prop where
 len:r.2.1.length=q.length
 mo:Mo q r.2.1
 yes:r.1=true->(b≠c->r.2.2≠[])/\r.2.2.length<=nu ls.length q
 no:r.1=false->b≠c/\Cl ls r.2.1 b/\ym ls q r.2.1 λx=>x≠c/\Cl ls r.2.1 x
theorem AbN{ls:ASx}(hl:ls.length<=4194304)(hb:∀k,k<ls.length->((0:Int)<=(lk ls k).1/\(4194304:Int)>(lk ls k).1)/\(0:Int)<=(lk ls k).2.1/\(4194304:Int)>(lk ls k).2.1)(c:Int) :
    ∀(n:Nat) (b:Int) (q:ASt),q.length=ls.length->(0<=b/\b<4194304)->nu ls.length q<n->Ax (IZ n ls b c q) (AIj ls q b c)
 |0,b,q,_,_,h=>by omega
 |n+1,b,q,hq,hbb,hn=>by
  show Ax (RO (IZ n) ls b c q) _;unfold RO;by_cases hbc:b=c
  ·subst hbc;rw[ARU,AQc];exact Ax.mk ⟨rfl,λ_ h=>h,λ_=>⟨λh=>(h rfl).elim,AQH _⟩,λh=>by cases h⟩
  rw[show(b==c)=false by rw[ARF];exact hbc,AQb];refine Ax.bind (P:=λt:AST⊕ASt=>(∃q' w,t=.inl (q',w)/\q'.length=q.length/\Mo q q'/\w≠[]/\w.length<=nu ls.length q)\/∃q',t=.inr q'/\q'.length=q.length/\Mo q q'/\Cl ls q' b/\ym ls q q' λx=>x≠c/\Cl ls q' x) ?_ λt ht=>?_
  ·unfold WL;refine Bn (λm (s:Int×ASt)=>∃k:Nat,s.1=(k:Int)/\k<=ls.length/\m=ls.length-k/\s.2.length=q.length/\Mo q s.2/\(∀j,j<k->Tch ls j b->us s.2 j=true)/\ym ls q s.2 λx=>x=b\/x≠c/\Cl ls s.2 x) (λm s hI=>?_) ls.length (0,q) ⟨0,rfl,AQH _,rfl,rfl,λ_ h=>h,λj h=>by omega,λk _ h1 h2=>by rw[h1]at h2;cases h2⟩;obtain⟨k,e,hk,rfl,hlen,hmo,gk,Abg⟩:=hI;obtain⟨g,u⟩:=s;simp only at e hlen hmo gk Abg;subst e;unfold P5 Ur;simp only;rcases AP7 k ls.length with Bp |ZO
   ·rw[Da Bp,AQc];have hku:k<u.length:=by omega
    have hw:wI ((k:Int)+1)=((k+1:Nat):Int):=A0;obtain⟨⟨a1,a2⟩,a3,a4⟩:=hb k Bp;have skip:(us u k=true\/¬Tch ls k b)->∃m,m<ls.length-k/\∃k':Nat,((k+1:Nat):Int)=(k':Int)/\k'<=ls.length/\m=ls.length-k'/\u.length=q.length/\Mo q u/\(∀j,j<k'->Tch ls j b->us u j=true)/\ym ls q u λx=>x=b\/x≠c/\Cl ls u x:=λh =>
     ⟨ls.length-(k+1),by omega,k+1,rfl,by omega,rfl,hlen,hmo,λj hj ht=>by
      by_cases e:j=k
      ·subst e;rcases h with h |h
       ·exact h
       ·exact(h ht).elim
      ·exact gk j (by omega) ht,Abg⟩
    unfold Tk Tj;simp only[APX];rw[AQe (Bg hku)];cases hu:us u k with
    |true =>
     rw[show u.getD k (Ty.zero .bool)=true from hu,AQc,APW,ARd,APW,ARd,hw];exact Ax.mk (skip (.inl hu))
    |false =>
     rw[show u.getD k (Ty.zero .bool)=false from hu,AQb];simp only[AQe (Bg Bp)];have take:∀nx:Int,wI (wI ((lk ls k).1+(lk ls k).2.1)-b)=nx->(0<=nx/\nx<4194304)->(∀x,Tch ls k x->x=b\/x=nx)->Tch ls k b ->
         Ax ((if(0:Int)<=(k:Int)/\(k:Int)<(u.length:Int)then
          (IZ n ls (wI (wI ((lk ls k).1+(lk ls k).2.1)-b)) c (u.set k true)).bind λo =>
           bif o.1 then
           if(([(lk ls k).2.2.1]:ASs).length+o.2.2.length)*8<=140737488355328 then
           some (Sum.inr (o.2.1,(([(lk ls k).2.2.1]:ASs)++o.2.2)))
           else none
           else some (Sum.inl o.2.1)
          else none:ATC (ASt⊕AST))) λt=>(∃q' w,t=.inr (q',w)/\q'.length=q.length/\Mo q q'/\w≠[]/\w.length<=nu ls.length q)\/∃q',t=.inl q'/\q'.length=q.length/\Mo q q'/\(∀j,j<k+1->Tch ls j b->us q' j=true)/\ym ls q q' λx=>x=b\/x≠c/\Cl ls q' x:=λnx hnx kI Ahd htb=>by
      rw[AQe (Bg hku),hnx];have h1:=Awh (n:=ls.length) hku Bp hu;have h2:=hmo.nu (n:=ls.length);have Ut:=Awd hku;refine(AbN hl hb c n nx (u.set k true) (by rw[AP5];omega) kI (by omega)).bind λo ho=>?_;obtain⟨b1,⟨q2,w⟩⟩:=o;obtain⟨o1,o2,o3,o4⟩:=ho;simp only at o1 o2 o3 o4⊢;rw[AP5]at o1;have S7:Mo q q2:=λj hj=>o2 j (Ut j (hmo j hj));cases b1 with
      |true =>
       have h3:=(o3 rfl).2;have h4:nu ls.length q<=ls.length:=by unfold nu;exact AQq List.countP_le_length (by rw[AQD];exact AP2 _)
       rw[AQc,AQe (by rw[AQg];omega)];exact Ax.mk (.inl ⟨q2,_,rfl,by omega,S7,by simp,by rw[AP0,AQg];omega⟩)
      |false =>
       rw[AQb];obtain⟨p1,p2,p3⟩:=o4 rfl;refine Ax.mk (.inr ⟨q2,rfl,by omega,S7,λj hj ht=>?_,λj j1 j2 j3 x hx=>?_⟩)
       ·by_cases e:j=k
        ·subst e;exact o2 j (by rw[Ajm hku,AQe rfl])
        ·exact o2 j (Ut j (gk j (by omega) ht))
       ·by_cases e:j=k
        ·subst e;rcases Ahd x hx with h |h
         ·exact .inl h
         ·subst h;exact .inr ⟨p1,p2⟩
        ·cases hj:us u j with
         |true =>
          rcases Abg j j1 hj j3 x hx with h |⟨h,h'⟩
          ·exact .inl h
          ·exact .inr ⟨h,h'.mono λi hi=>o2 i (Ut i hi)⟩
         |false=>exact .inr (p3 j j1 j2 (by rw[Ajm hku,AQf e];exact hj) x hx)
     have WO:∀{X:ATC (ASt⊕AST)} {R:((Int×ASt)⊕(AST⊕ASt))->Prop},Ax X (λt=>(∃q' w,t=.inr (q',w)/\q'.length=q.length/\Mo q q'/\w≠[]/\w.length<=nu ls.length q)\/∃q',t=.inl q'/\q'.length=q.length/\Mo q q'/\(∀j,j<k+1->Tch ls j b->us q' j=true)/\ym ls q q' λx=>x=b\/x≠c/\Cl ls q' x) ->
         (∀s':Int×ASt,(∃m,m<ls.length-k/\∃k':Nat,s'.1=(k':Int)/\k'<=ls.length/\m=ls.length-k'/\s'.2.length=q.length/\Mo q s'.2/\(∀j,j<k'->Tch ls j b->us s'.2 j=true)/\ym ls q s'.2 λx=>x=b\/x≠c/\Cl ls s'.2 x)->R (.inl s')) ->
         (∀q' w,q'.length=q.length->Mo q q'->w≠[]->w.length<=nu ls.length q->R (.inr (.inl (q',w)))) ->
         Ax (X.bind (Sum.elim (λj=>some (Sum.inl (wI ((k:Int)+1),j))) λk=>some (Sum.inr (Sum.inl (k.1,k.2))):ASt⊕AST->ATC ((Int×ASt)⊕(AST⊕ASt)))) R:=λ{X R} hX hR1 hR2=>hX.bind λt ht=>by
      rcases ht with ⟨q',w,rfl,h1,h2,h3,h4⟩|⟨q',rfl,h1,h2,h3,h4⟩
      ·rw[AQW];exact Ax.mk (hR2 q' w h1 h2 h3 h4)
      ·rw[ARd,hw];exact Ax.mk (hR1 _ ⟨ls.length-(k+1),by omega,k+1,rfl,by omega,rfl,h1,h2,h3,h4⟩)
     by_cases hA:(lk ls k).1=b
     ·have e1:((lk ls k).1 !=b)=false:=by rw[hA,ARe]
      rw[show((ls.getD k Ad.zero).1 !=b)=false from e1,AQb,APW,AQW];refine WO (take (lk ls k).2.1 ?_ ⟨a3,a4⟩ (λx hx=>?_) (.inl hA)) (λ_ h=>h) λq' w h1 h2 h3 h4=>.inl ⟨q',w,rfl,h1,h2,h3,h4⟩
      ·have kC:b=(lk ls k).1:=hA.symm;rw[BX (x:=(lk ls k).1+(lk ls k).2.1),BX];omega
      ·rcases hx with h |h
       ·exact .inl (by rw[<-h,hA])
       ·exact .inr h.symm
     ·have e1:((lk ls k).1 !=b)=true:=by rw[ARt];exact hA
      rw[show((ls.getD k Ad.zero).1 !=b)=true from e1,AQc];by_cases hB:(lk ls k).2.1=b
      ·have e2:((lk ls k).2.1 !=b)=false:=by rw[hB,ARe]
       rw[show((ls.getD k Ad.zero).2.1 !=b)=false from e2,AQb,APW,AQW];refine WO (take (lk ls k).1 ?_ ⟨a1,a2⟩ (λx hx=>?_) (.inr hB)) (λ_ h=>h) λq' w h1 h2 h3 h4=>.inl ⟨q',w,rfl,h1,h2,h3,h4⟩
       ·have hB':b=(lk ls k).2.1:=hB.symm;rw[BX (x:=(lk ls k).1+(lk ls k).2.1),BX];omega
       ·rcases hx with h |h
        ·exact .inr h.symm
        ·exact .inl (by rw[<-h,hB])
      ·have e2:((lk ls k).2.1 !=b)=true:=by rw[ARt];exact hB
       rw[show((ls.getD k Ad.zero).2.1 !=b)=true from e2,AQc,APW,ARd,APW,ARd,hw];exact Ax.mk (skip (.inr λh=>by rcases h with h |h;exact hA h;exact hB h))
   ·have:k=ls.length:=by omega
    subst this;rw[Ep,AQb];have Il:Cl ls u b:=λj h1 h2=>gk j h1 h2;exact Ax.mk (.inr ⟨u,rfl,hlen,hmo,Il,λj j1 j2 j3 x hx=>by
     rcases Abg j j1 j2 j3 x hx with h |h
     ·subst h;exact⟨hbc,Il⟩
     ·exact h⟩)
  ·rcases ht with ⟨q',w,rfl,h1,h2,h3,h4⟩|⟨q',rfl,h1,h2,h3,h4⟩
   ·exact Ax.mk ⟨h1,h2,λ_=>⟨λ_=>h3,h4⟩,λh=>by cases h⟩
   ·exact Ax.mk ⟨h1,h2,λh=>(by cases h),λ_=>⟨hbc,h3,h4⟩⟩
theorem AhP{ls:ASx}(hl:ls.length<=900000)(hb:∀l∈ls,((0:Int)<=l.1/\(4194304:Int)>l.1)/\(0:Int)<=l.2.1/\(4194304:Int)>l.2.1){b c:Int}(hbb:0<=b/\b<4194304)(Ke:b≠c)(hc:Cn ls b c) :
    Ax (bY ls b c (List.replicate ls.length false)) λr=>r.2.2≠[]/\r.2.2.length<=ls.length:=by
 have hz:∀k,us (List.replicate ls.length false) k=false:=λk=>by
  by_cases h:k<ls.length
  ·grind
  ·simp[h];rfl
 have hn:nu ls.length (List.replicate ls.length false)<=ls.length:=by exact AQq List.countP_le_length (by grind)
 refine(AbN (by omega) (λk hk=>hb _ (AL hk)) c 1000000 b (List.replicate ls.length false) (AQt) hbb (by omega)).mono λr hr=>?_;obtain⟨r1,r2,r3⟩:=r;cases r1 with
 |true=>obtain⟨h1,h2⟩:=hr.yes rfl;grind
 |false =>
  exfalso
  obtain⟨n1,n2,n3⟩:=hr.no rfl;have key:∀{x},Cn ls b x->x≠c/\Cl ls r2 x:=λ{x} h=>by
   induction h with
   |refl=>grind
   |rj yU _ ih =>
    obtain⟨k,hk,e⟩:=List.mem_iff_getElem.1 yU;have e2:lk ls k=_:=show ls.getD k Ad.zero=ls[k] by grind
    rw[<-e,<-e2]at ih⊢;exact n3 k hk (ih.2 k hk (.inl rfl)) (hz k) _ (.inr rfl)
   |bwd yU _ ih =>
    obtain⟨k,hk,e⟩:=List.mem_iff_getElem.1 yU;have e2:lk ls k=_:=show ls.getD k Ad.zero=ls[k] by simp[hk]
    rw[<-e,<-e2]at ih⊢;exact n3 k hk (ih.2 k hk (.inr rfl)) (hz k) _ (.inl rfl)
  exact(key hc).1 rfl
theorem Avp{a:ASs}(ha:a.length<=1048576)(b:Int):∃r,Ng a b=some r/\(a=[]->r=false):=by
 unfold Ng;obtain⟨t,h1,h2⟩:Ax (Pn a b 0) λt=>t=.inl ()->a≠[]:=by
  refine Bn (λw i=>∃k:Nat,i=(k:Int)/\k<=a.length/\w=a.length-k) (λw i hI=>?_) _ 0 ⟨0,rfl,AQH _,rfl⟩;obtain⟨k,rfl,hk,rfl⟩:=hI;unfold Ll PR;rcases AP7 k _ with h |h
  ·rw[Da h,AQc,AQe (Bg h)];refine Ax.cond (λ_=>Ax.mk λ_=>by grind) λ_=>Ax.mk ⟨a.length-(k+1),by omega,k+1,A0,h,rfl⟩
  ·have:k=a.length:=by omega
   subst this;rw[Ep];exact Ax.mk λe=>by grind
 rw[h1];cases t with
 |inl u=>exact⟨true,rfl,λe=>(h2 rfl e).elim⟩
 |inr u=>exact⟨false,rfl,λ_=>rfl⟩
theorem AdA{a:ASs}(ha:a≠[])(hl:a.length<=900000):Ax (Ti a) (·≠[]):=by
 refine Ax.bind  ?_ λr hr=>Ax.mk hr;refine Bn (λm s=>∃k:Nat,s.1=(k:Int)/\k<=a.length/\m=a.length-k/\s.2.length<=k/\(0<k->s.2≠[])) (λm s hI=>?_) _ _ ⟨0,rfl,AQH _,rfl,AP2 _,λh=>by omega⟩;obtain⟨k,e,hk,rfl,hd,Ke⟩:=hI;obtain⟨g,d⟩:=s;simp only at e hd Ke;subst e;unfold K7 Qo;rcases AP7 k _ with Bp |ZO
 ·rw[Da Bp];refine Ax.bind (P:=λe =>e≠[]/\e.length<=k+1) ?_ λe he=>Ax.mk ⟨a.length-(k+1),by omega,k+1,A0,by omega,rfl,he.2,λ_=>he.1⟩;unfold On;simp only[APX,AQe (Bg Bp)];obtain⟨r,h1,h2⟩:=Avp (a:=d) (by omega) _;rw[h1,APW];cases r with
  |true =>
   exact Ax.mk ⟨λe=>(by grind),by omega⟩
  |false =>
   rw[AQe (by grind)];generalize a.getD k _=x;refine Ax.bind (P:=λq =>0<=q.1/\q.1<q.2.length/\q.2.length=d.length+1) ?_ λq hq=>?_
   ·refine Bn (λm s=>∃i:Nat,s.1=(i:Int)/\i<=d.length/\m=i/\s.2.length=d.length+1) (λm s hI=>?_) _ _ ⟨d.length,rfl,AP2 _,rfl,by simp⟩;obtain⟨i,e,hi,hm,hj⟩:=hI;rw[hm];obtain⟨g,j⟩:=s;simp only at e hj;subst e;unfold K6 Qn Om;cases i with
    |zero =>
     exact Ax.mk ⟨by simp,by grind,hj⟩
    |succ i =>
     have hw:wI (((i+1:Nat))-1)=i:=A0;rw[MN,AQc,hw];simp only[APX];rw[AQe (Bg (show i<j.length by omega)),AQe (Bg Bp)];cases decide (j.getD i _>a.getD k _)with
     |true =>
      rw[AQc,APW,AQe (Bg (show i<j.length by omega)),AQe (Bg (show i+1<j.length by omega))];exact Ax.mk ⟨i,by omega,i,rfl,by omega,rfl,by grind⟩
     |false =>
      exact Ax.mk ⟨by omega,by grind,hj⟩
   ·rw[AQe ⟨hq.1,hq.2.1⟩];refine Ax.mk ⟨λe=>?_,by grind⟩;have:=congrArg List.length e
    grind
 ·have:k=a.length:=by omega
  subst this;rw[Ep];exact Ax.mk (Ke (by grind))
def Am2(b:ASk):Prop:=b.2.1.length<=64/\b.1<=4096/\Em b.2.1
abbrev gB(vs:ASB)(i:Nat):ASk:=vs.getD i Ah.zero
abbrev mgB(vm:List ASL)(i:Int):ASk:=Bv ATl Ah vm i
def Nd(ns:Nat)(vs:ASB)(A:ASd)(i:Nat):Prop:=((0:Int)<=A.1/\(i:Int)=A.1)\/((0:Int)>A.1/\ns<=i/\i<vs.length/\gB vs i=A.2.1)
def P1(ns:Nat)(rt:Nat->Nat)(vs:ASB)(x:ASn):Prop:=∃i j,Nd ns vs x.1 i/\Nd ns vs x.2.1 j/\rt i=rt j
def Ext(ns:Nat)(rt:Nat->Nat)(vs:ASB)(iC:Nat->Nat)(Z2:ASB):Prop:=(∀i j,rt i=rt j->iC i=iC j)/\∀A i,Nd ns vs A i->Nd ns Z2 A i
theorem Ext.refl{ns:Nat}{rt:Nat->Nat}{vs:ASB}:Ext ns rt vs rt vs:=⟨λ_ _ h=>h,λ_ _ h=>h⟩
theorem Ext.trans{ns:Nat}{rt iC AdC:Nat->Nat}{vs Z2 AmY:ASB}(h:Ext ns rt vs iC Z2)(k:Ext ns iC Z2 AdC AmY):Ext ns rt vs AdC AmY:=⟨λi j e=>k.1 i j (h.1 i j e),λA i e=>k.2 A i (h.2 A i e)⟩
theorem P1.mono{ns:Nat}{rt iC:Nat->Nat}{vs Z2:ASB}(h:Ext ns rt vs iC Z2){x:ASn}(p:P1 ns rt vs x):P1 ns iC Z2 x:=by
 obtain⟨i,j,a,b,e⟩:=p;exact⟨i,j,h.2 _ _ a,h.2 _ _ b,h.1 _ _ e⟩
structure JN (H:ASd->ASd->Prop) (ns N:Nat) (ld fx:ASs) (vm:List ASL) (ks:ASx) (vs:ASB) (BA:ASs) (rt:Nat->Nat):Prop where
 fo:∃dp,Fo ld rt dp
 l1:ld.length=N
 l2:fx.length=N
 l3:vs.length=N
 l4:BA.length=N
 nn:ns<=N
 sm:∀i j,i<N->j<N->(gI BA i=gI BA j↔rt i=rt j)
 lo:∀i,i<N->0<=gI BA i/\gI BA i<=(i:Int)/\gI BA (gI BA i).toNat=gI BA i
 wd:∀i,i<N->((gB vs i).1>0↔ns<=i)
 vl:∀i,i<N->ns<=i->mgB vm (i:Int)=gB vs i
 bw:∀i,i<N->Am2 (gB vs i)
 fx_:∀i,i<N->rt i=i->qd rt ns N i (gI fx i)
 lk_:∀l∈ks,((0:Int)<=l.1/\(N:Int)>l.1)/\(0:Int)<=l.2.1/\(N:Int)>l.2.1
 cn:∀i j:Nat,i<N->j<N->rt i=rt j->Cn ks (i:Int) (j:Int)
 eqv:∀i j,ns<=i->i<N->ns<=j->j<N->rt i=rt j->gB vs i=gB vs j
 lkp:∀l∈ks,∃A B,∃i j:Nat,H A B/\Nd ns vs A i/\Nd ns vs B j/\l.1=(i:Int)/\l.2.1=(j:Int)
theorem zm{ns:Nat}{vs:ASB}{x:ASk}{A:ASd}{i:Nat}(h:Nd ns vs A i):Nd ns (vs++[x]) A i:=by
 rcases h with h |⟨h1,h2,h3,h4⟩
 ·exact .inl h
 ·exact .inr ⟨h1,h2,by grind,by grind⟩
variable {H:ASd->ASd->Prop}
def ai(ns:Nat)(a:ASd):Prop:=((0:Int)<=a.1/\(ns:Int)>a.1)\/((0:Int)>a.1/\(0:Int)<a.2.1.1/\Am2 a.2.1)
theorem YX{l:ASB}{x:ASk}{j:Nat}:gB (l++[x]) j=if j=l.length then x else gB l j:=by
 grind
theorem Abp{ns N:Nat}{ld fx:ASs}{vm:ATB ASL}{ks:ASx}{vs:ASB}{BA:ASs}{rt:Nat->Nat}(J:JN H ns N ld fx vm ks vs BA rt){a:ASd}(ha:ai ns a)(hN:N<=2000000)(p q:Int) :
    ∃k N' gD xC xM Z2 ag,Bm p a ld fx vm ks=some (((k:Nat):Int),xM,ks,gD,xC)/\Ih q a vs ks BA=some ((k:Int),ks,Z2,ag)/\k<N'/\N<=N'/\N'<=N+1/\JN H ns N' gD xC xM ks Z2 ag rt/\Nd ns Z2 a k/\∀A i,Nd ns vs A i->Nd ns Z2 A i:=by
 have VS:=J.l1;have iP:=J.l2;have hl3:=J.l3;have hl4:=J.l4;have hnn:=J.nn;unfold Bm Ih;rcases ha with ⟨h0,h1⟩|⟨h0,h1,h2⟩
 ·refine⟨a.1.toNat,N,ld,fx,vm,vs,BA,?_,?_,by omega,AP2 _,by omega,J,.inl ⟨h0,by omega⟩,λ_ _ h=>h⟩
  ·rw[MN,AQc,show((a.1.toNat:Nat):Int)=a.1 by omega]
  ·rw[MN,AQc,show((a.1.toNat:Nat):Int)=a.1 by omega]
 ·obtain⟨dp,hf⟩:=J.fo;have hrN:rt N=N:=hf.out N (by omega);have hd0:decide (a.1>=0)=false:=APZ λh=>by have h:(0:Int)<=a.1:=h;omega
  have y7:∀i,i<N->rt i<N:=λi hi=>by have:=(hf.Yt i (by omega)).1;omega
  refine⟨N,N+1,ld++[(N:Int)],fx++[(N:Int)],Cf ATl Ah vm (N:Int) a.2.1,vs++[a.2.1],BA++[(N:Int)],?_,?_,by omega,by omega,AP2 _,?_,.inr ⟨h0,hnn,by simp[hl3],by simp[gB,List.getD,hl3]⟩,λ_ _ h=>zm h⟩
  ·rw[hd0,AQb,AQe (by rw[AQg];omega),AQe (by rw[AQg];omega),VS]
  ·unfold K9 La;rw[hd0,AQb,AQe (by rw[AQg];omega),APW,AQe (by rw[AQg];omega),APW,hl4,A0 (n:=N) (by rw[AP0,AQg];omega) (by omega)]
  ·have fo':=hf.add;rw[VS]at fo';refine⟨⟨dp,fo'⟩,by simp[VS],by simp[iP],by simp[hl3],by simp[hl4],by omega,λi j hi hj=>?_,λi hi=>?_,λi hi=>?_,λi hi hn=>?_,λi hi=>?_,λi hi hr=>?_,λl hl=>?_,λi j hi hj h=>?_,λi j i1 i2 j1 j2 h=>?_,λl hl=>?_⟩
   ·rw[br,br,hl4];by_cases e1:i=N<;>by_cases e2:j=N
    ·subst e1;subst e2;simp
    ·subst e1;rw[AQe rfl,AQf e2,hrN];have:=(J.lo j (by omega)).2.1;have:=y7 j (by omega);constructor<;>intro h<;>omega
    ·subst e2;rw[AQf e1,AQe rfl,hrN];have:=(J.lo i (by omega)).2.1;have:=y7 i (by omega);constructor<;>intro h<;>omega
    ·rw[AQf e1,AQf e2];exact J.sm i j (by omega) (by omega)
   ·rw[br,hl4];by_cases e1:i=N
    ·subst e1;rw[AQe rfl,APX,br,hl4,AQe rfl];omega
    ·rw[AQf e1];obtain⟨a1,a2,a3⟩:=J.lo i (by omega);refine⟨a1,a2,?_⟩;rw[br,hl4,P9];exact a3
   ·rw[YX,hl3];by_cases e1:i=N
    ·subst e1;rw[AQe rfl];exact⟨λ_=>hnn,λ_=>h1⟩
    ·rw[AQf e1];exact J.wd i (by omega)
   ·rw[YX,hl3];unfold mgB;rw[SD (vt:=Ah)];by_cases e1:i=N
    ·subst e1;rw[AQe rfl,AQe rfl]
    ·rw[AQf e1,P9];exact J.vl i (by omega) hn
   ·rw[YX,hl3];by_cases e1:i=N
    ·subst e1;rw[AQe rfl];exact h2
    ·rw[AQf e1];exact J.bw i (by omega)
   ·rw[br,iP];by_cases e1:i=N
    ·subst e1;rw[AQe rfl];exact .inr ⟨i,rfl,hnn,by omega,hrN,λj j1 j2=>by have:=y7 j j2;omega⟩
    ·rw[AQf e1];exact(J.fx_ i (by omega) hr).add hrN (by omega)
   ·have:=J.lk_ l hl;omega
   ·by_cases e1:i=N<;>by_cases e2:j=N
    ·subst e1;subst e2;exact .refl _
    ·subst e1;have:=y7 j (by omega);omega
    ·subst e2;have:=y7 i (by omega);omega
    ·exact J.cn i j (by omega) (by omega) h
   ·rw[YX,YX,hl3];by_cases e1:i=N<;>by_cases e2:j=N
    ·rw[AQe e1,AQe e2]
    ·subst e1;have:=y7 j (by omega);omega
    ·subst e2;have:=y7 i (by omega);omega
    ·rw[AQf e1,AQf e2];exact J.eqv i j i1 (by omega) j1 (by omega) h
   ·obtain⟨A,B,i,j,h1,h2,h3,h4,h5⟩:=J.lkp l hl;exact⟨A,B,i,j,h1,zm h2,zm h3,h4,h5⟩
theorem JN.link{ns N:Nat}{ld fx:ASs}{vm:ATB ASL}{ks:ASx}{vs:ASB}{BA:ASs}{rt:Nat->Nat}(J:JN H ns N ld fx vm ks vs BA rt){a b:Nat}(ha:a<N)(hb:b<N)(Ke:rt a≠rt b)(o:Int)(hv:∀i j,ns<=i->i<N->ns<=j->j<N->rt i=rt a->rt j=rt b->gB vs i=gB vs j){A B:ASd}(hH:H A B)(hA:Nd ns vs A a)(hB:Nd ns vs B b) :
    JN H ns N (ld.set (rt b) ((rt a:Nat):Int)) (fx.set (rt a) (if 0<=gI fx (rt a)/\0<=gI fx (rt b)then min (gI fx (rt a)) (gI fx (rt b))else max (gI fx (rt a)) (gI fx (rt b)))) vm (ks++[((a:Int),(b:Int),o,())]) vs
     (BA.map λx=>if x=max (gI BA a) (gI BA b)then min (gI BA a) (gI BA b)else x) (dj rt (rt a) (rt b)):=by
 have VS:=J.l1;have iP:=J.l2;have hl4:=J.l4;obtain⟨dp,hf⟩:=J.fo;have hra:=hf.b7 a;have hrb:=hf.b7 b;have hxa:rt a<N:=by have:=(hf.Yt a (by omega)).1;omega
 have hxb:rt b<N:=by have:=(hf.Yt b (by omega)).1;omega
 generalize hm:min (gI BA a) (gI BA b)=m;generalize hM:max (gI BA a) (gI BA b)=M;have hg:∀i,i<N->gI (BA.map λx=>if x=M then m else x) i=if gI BA i=M then m else gI BA i:=λi hi =>
  Fj (λx=>if x=M then m else x) (y :=ATl.zero) (show i<BA.length by omega)
 have AJm:gI BA a≠gI BA b:=λe=>Ke ((J.sm a b ha hb).1 e);obtain⟨a1,a2,a3⟩:=J.lo a ha;obtain⟨b1,b2,b3⟩:=J.lo b hb;refine⟨hf.join (by omega) (by omega) hra hrb Ke,by simp[VS],by simp[iP],J.l3,by rw[AP8];exact hl4,J.nn,λi j hi hj=>?_,λi hi=>?_,J.wd,J.vl,J.bw,λi hi hr=>?_,λl hl=>?_,λi j hi hj h=>?_,λi j i1 i2 j1 j2 h=>?_,λl hl=>?_⟩
 ·rw[hg i hi,hg j hj,dk hf.b7 hra hrb,<-J.sm i j hi hj,<-J.sm i a hi ha,<-J.sm j b hj hb,<-J.sm i b hi hb,<-J.sm j a hj ha];split<;>split<;>omega
 ·obtain⟨c1,c2,c3⟩:=J.lo i hi;rw[hg i hi];by_cases e:gI BA i=M
  ·rw[AQe e];refine⟨by omega,by omega,?_⟩;rcases Int.lt_or_gt_of_ne AJm with h |h
   ·have em:m=gI BA a:=by omega
    rw[em]at hg⊢;rw[hg _ (by omega),a3,P9]
   ·have em:m=gI BA b:=by omega
    rw[em]at hg⊢;rw[hg _ (by omega),b3,P9]
  ·rw[AQf e];refine⟨c1,c2,?_⟩;rw[hg _ (by omega),c3,AQf e]
 ·rw[fe (by omega)];by_cases e:i=rt a
  ·subst e;rw[AQe rfl];exact(J.fx_ _ hxa hra).join Ke (J.fx_ _ hxb hrb)
  ·rw[AQf e];have hj:rt i=i/\i≠rt b:=by
    simp only[dj]at hr;split at hr
    ·omega
    ·exact⟨hr,by omega⟩
   exact(J.fx_ i hi hj.1).other e hj.2
 ·rcases List.mem_append.1 hl with hl |hl
  ·exact J.lk_ l hl
  ·rw[AQn]at hl;subst hl;simp only;omega
 ·have hm:∀l∈ks,l∈ks++[((a:Int),(b:Int),o,())]:=λl h=>AQu _ h;have yQ:Cn (ks++[((a:Int),(b:Int),o,())]) (a:Int) (b:Int):=Cn.rj (l:=((a:Int),(b:Int),o,())) (by simp) (.refl _);rcases(dk hf.b7 hra hrb i j).1 h with h |⟨h,h'⟩|⟨h,h'⟩
  ·exact(J.cn i j hi hj h).mono hm
  ·exact((J.cn i a hi ha h).mono hm).trans (yQ.trans ((J.cn b j hb hj h'.symm).mono hm))
  ·exact((J.cn i b hi hb h).mono hm).trans (yQ.symm.trans ((J.cn a j ha hj h'.symm).mono hm))
 ·rcases(dk hf.b7 hra hrb i j).1 h with h |⟨h,h'⟩|⟨h,h'⟩
  ·exact J.eqv i j i1 i2 j1 j2 h
  ·exact hv i j i1 i2 j1 j2 h h'
  ·exact(hv j i j1 j2 i1 i2 h' h).symm
 ·rcases List.mem_append.1 hl with hl |hl
  ·exact J.lkp l hl
  ·rw[AQn]at hl;subst hl;exact⟨A,B,a,b,hH,hA,hB,rfl,rfl⟩
variable {H:ASd->ASd->Prop}
def Clh(H:ASd->ASd->Prop)(ns:Nat):Prop:=∃N ld fx vm ks vs BA rt,JN H ns N ld fx vm ks vs BA rt/\∃A B,H A B/\∃a b p q:Nat,Nd ns vs A a/\Nd ns vs B b/\Cn ks (a:Int) (p:Int)/\Cn ks (b:Int) (q:Int)/\ns<=p/\ns<=q/\gB vs p≠gB vs q
def JnR(H:ASd->ASd->Prop)(n:ASn)(rt0:Nat->Nat)(vs0:ASB)(ns N:Nat)(ks:ASx)(x:Bool×ATB ASL×ASs×ASs×ASs×ASx)(y:Bool×ASs×ASB×ASx×ASs):Prop :=
 (x.1=false/\y.1=false/\x.2.2.1≠[]/\y.2.1≠[]/\Clh H ns) \/
  (x.1=true/\y.1=true/\∃N' rt,N'<=N+2/\N<=N'/\x.2.2.2.2.2.length<=ks.length+1/\y.2.2.2.1=x.2.2.2.2.2/\JN H ns N' x.2.2.2.1 x.2.2.2.2.1 x.2.1 x.2.2.2.2.2 y.2.2.1 y.2.2.2.2 rt/\Ext ns rt0 vs0 rt y.2.2.1/\P1 ns rt y.2.2.1 n)
theorem Amm{ns N:Nat}{ld fx:ASs}{vm:ATB ASL}{ks:ASx}{vs:ASB}{BA:ASs}{rt:Nat->Nat}(J:JN H ns N ld fx vm ks vs BA rt){n:ASn}(ha:ai ns n.1)(hb:ai ns n.2.1)(hN:N<=1999990)(hk:ks.length<900000)(hH:H n.1 n.2.1)(p q o:Int) :
    ∃x y,JH p n o ld fx vm ks=some x/\Lq q n o vs ks BA=some y/\JnR H n rt vs ns N ks x y:=by
 obtain⟨a,N1,ld1,fx1,vm1,vs1,AOU,i1,s1,a1,a2,a3,J1,na,X1⟩:=Abp J ha (by omega) p q;obtain⟨b,N2,ld2,fx2,vm2,xd,ni,i2,s2,b1,b2,b3,J2,nb,X2⟩:=Abp J1 hb (by omega) p q;have VS:=J2.l1;have iP:=J2.l2;have hl3:=J2.l3;have hl4:=J2.l4;obtain⟨dp,hf⟩:=J2.fo;obtain⟨r1,e1,l1,rfl,q1,q2⟩:=qY hf (j:=a) (by omega) p fx2 vm2 ks;obtain⟨r2,e2,l2,rfl,q3,q4⟩:=qY q2 (j:=b) (by omega) p fx2 vm2 ks;have J3:JN H ns N2 l2 fx2 vm2 ks xd ni rt:=⟨⟨dp,q4⟩,by omega,J2.l2,J2.l3,J2.l4,J2.nn,J2.sm,J2.lo,J2.wd,J2.vl,J2.bw,J2.fx_,J2.lk_,J2.cn,J2.eqv,J2.lkp⟩;have hra:rt a<N2:=by have:=(hf.Yt a (by omega)).1;omega
 have hrb:rt b<N2:=by have:=(hf.Yt b (by omega)).1;omega
 have hsm:=J2.sm a b (by omega) b1;unfold JH Jl Lq;rw[i1,APW,s1,APW];simp only;rw[i2,APW,s2,APW,APW];simp only;rw[e1,APW,AQe (show(0:Int)<=(a:Int)/\(a:Int)<(ni.length:Int) by omega),AQe (show(0:Int)<=(b:Int)/\(b:Int)<(ni.length:Int) by omega)];simp only[APX];rw[e2,APW];simp only[APX];by_cases yQ:rt a=rt b
 ·have g1:(ni.getD a ATl.zero==ni.getD b ATl.zero)=true:=by rw[AQ8];exact hsm.2 yQ
  rw[g1,AQc,yQ,ARU,AQc];exact⟨_,_,rfl,rfl,.inr ⟨rfl,rfl,N2,rt,by omega,by omega,by simp only;omega,rfl,J3,⟨λ_ _ h=>h,λA i h=>X2 A i (X1 A i h)⟩,a,b,X2 _ _ na,nb,yQ⟩⟩
 ·have g1:(ni.getD a ATl.zero==ni.getD b ATl.zero)=false:=by rw[ARF];exact λe=>yQ (hsm.1 e)
  have g2:(((rt a:Nat):Int)==((rt b:Nat):Int))=false:=by rw[ARF];omega
  obtain⟨w1,f1,v1,rfl,F1⟩:=kr (rt:=rt) (ns:=ns) (vs:=xd) (BA:=ni) (by omega) (λi j hi hj=>J2.sm i j (by omega) (by omega)) (λi hi=>J2.wd i (by omega)) (by omega) (b:=a) (by omega) q ks;obtain⟨w2,f2,v2,rfl,F2⟩:=kr (rt:=rt) (ns:=ns) (vs:=xd) (BA:=ni) (by omega) (λi j hi hj=>J2.sm i j (by omega) (by omega)) (λi hi=>J2.wd i (by omega)) (by omega) (b:=b) (by omega) q ks;rw[hl4]at F1 F2;rw[g1,AQb,g2,AQb,f1,APW];simp only;rw[f2,APW];simp only;have ru:(ks.length+([((a:Int),(b:Int),o,())]:ASx).length)*24<=140737488355328:=by rw[AQg];omega
  have u1:gI fx2 (rt a)=v1:=(J2.fx_ _ hra (hf.b7 a)).uniq F1;have u2:gI fx2 (rt b)=v2:=(J2.fx_ _ hrb (hf.b7 b)).uniq F2;have x1:fx2.getD (rt a) ATl.zero=v1:=u1;have x2:fx2.getD (rt b) ATl.zero=v2:=u2;have d1:=F1.ge;have d2:=F2.ge;rw[AQe ru,AQe ru,AQe (show(0:Int)<=((rt a:Nat):Int)/\((rt a:Nat):Int)<(fx2.length:Int) by omega),AQe (show(0:Int)<=((rt b:Nat):Int)/\((rt b:Nat):Int)<(fx2.length:Int) by omega),x1,x2];have lkN:∀l∈ks++[((a:Int),(b:Int),o,())],((0:Int)<=l.1/\(N2:Int)>l.1)/\(0:Int)<=l.2.1/\(N2:Int)>l.2.1:=λl hl=>by
   rcases List.mem_append.1 hl with hl |hl
   ·exact J2.lk_ l hl
   ·rw[AQn]at hl;subst hl;simp only;omega
  have AOd:(ks++[((a:Int),(b:Int),o,())]).length=ks.length+1:=by rw[AP0,AQg]
  have Avl:∀c:Int,c=(if 0<=v1/\0<=v2 then min v1 v2 else v1)->(∀i j,ns<=i->i<N2->ns<=j->j<N2->rt i=rt a->rt j=rt b->gB xd i=gB xd j) ->
      ∃ x y,(if(0:Int)<=((rt b:Nat):Int)/\((rt b:Nat):Int)<(l2.length:Int)then
          if(0:Int)<=((rt a:Nat):Int)/\((rt a:Nat):Int)<(fx2.length:Int)then
          (Ec p c ((rt a:Nat):Int) v2 vm2 (l2.set (rt b) ((rt a:Nat):Int)) (fx2.set (rt a) (if v2>c then v2 else c)) (ks++[((a:Int),(b:Int),o,())])).bind λk =>
          some (true,vm2,([]:ASs),l2.set (rt b) ((rt a:Nat):Int),k,ks++[((a:Int),(b:Int),o,())])
          else none else none)=some x /\
       ((Ol (a:Int) (b:Int) ni).bind λb1=>some (true,([]:ASs),xd,ks++[((a:Int),(b:Int),o,())],b1))=some y/\JnR H n rt vs ns N ks x y:=λc hc hv=>by
   have JL:=J3.link (a:=a) (b:=b) (by omega) b1 yQ o hv hH (X2 _ _ na) nb;rw[u1,u2]at JL;rw[Wv,Wv,Ah3 (by omega) (by omega) (by omega),APW];have e4:Ec p c ((rt a:Nat):Int) v2 vm2 (l2.set (rt b) ((rt a:Nat):Int)) (fx2.set (rt a) (if v2>c then v2 else c)) (ks++[((a:Int),(b:Int),o,())])=some (fx2.set (rt a) (if 0<=v1/\0<=v2 then min v1 v2 else max v1 v2)):=by
    unfold Ec R3;by_cases hv:0<=v1/\0<=v2
    ·rw[AQe hv]at hc⊢;rw[AP1 (show c>=0 by omega),AP1 (show v2>=0 by omega),Bool.and_self,AQc,AQe (by rw[AP5];omega),APX,AR3,hc]
    ·rw[AQf hv]at hc⊢;rw[show(decide (c>=0)&&decide (v2>=0))=false by rw[<-Bool.not_eq_true,AP3,ARw,ARw];omega,AQb,hc];congr 2;split<;>omega
   rw[e4,APW];exact⟨_,_,rfl,rfl,.inr ⟨rfl,rfl,N2,_,by omega,by omega,by simp only;omega,rfl,JL,⟨λi j h=>(dk hf.b7 (hf.b7 a) (hf.b7 b) i j).2 (.inl h),λA i h=>X2 A i (X1 A i h)⟩,a,b,X2 _ _ na,nb,(dk hf.b7 (hf.b7 a) (hf.b7 b) a b).2 (.inr (.inl ⟨rfl,rfl⟩))⟩⟩
  unfold Jm R3 K8;by_cases h1:0<=v1
  ·by_cases h2:0<=v2
   ·obtain⟨c1,rfl⟩:∃c:Nat,v1=(c:Int):=⟨v1.toNat,by omega⟩;obtain⟨c2,rfl⟩:∃c:Nat,v2=(c:Int):=⟨v2.toNat,by omega⟩;have t1:c1<N2/\ns<=c1/\rt c1=rt a:=by
     rcases F1 with ⟨h,_⟩|⟨j,h,h3,h4,h5,_⟩
     ·omega
     ·have:j=c1:=by omega
      subst this;exact⟨h4,h3,h5⟩
    have t2:c2<N2/\ns<=c2/\rt c2=rt b:=by
     rcases F2 with ⟨h,_⟩|⟨j,h,h3,h4,h5,_⟩
     ·omega
     ·have:j=c2:=by omega
      subst this;exact⟨h4,h3,h5⟩
    have m1:Bv ATl Ah vm2 (c1:Int)=gB xd c1:=J2.vl c1 t1.1 t1.2.1;have m2:Bv ATl Ah vm2 (c2:Int)=gB xd c2:=J2.vl c2 t2.1 t2.2.1;have bs:=(J2.bw c1 t1.1).1;obtain⟨r,er,hr⟩:=ua (a:=gB xd c1) (AQq bs (by decide)) (gB xd c2);obtain⟨r',er',hr'⟩:=gK (a:=gB xd c1) (AQq bs (by decide)) (gB xd c2);have err:r'=r:=by rw[ARA,hr,hr']
    subst err;rw[AP1 (show(c1:Int)>=0 by omega),AP1 (show(c2:Int)>=0 by omega),Bool.and_self,AQc,AQc,AQc];simp only[APX];rw[AQe (show(0:Int)<=(c1:Int)/\(c1:Int)<(xd.length:Int) by omega),AQe (show(0:Int)<=(c2:Int)/\(c2:Int)<(xd.length:Int) by omega),m1,m2,er];rw[show Et (xd.getD c1 Ah.zero) (xd.getD c2 Ah.zero)=some r' from er'];simp only[APW];cases r' with
    |false =>
     simp only[ARg,AQc];have hcn:Cn (ks++[((a:Int),(b:Int),o,())]) (c1:Int) (c2:Int):=by
      have hm:∀l∈ks,l∈ks++[((a:Int),(b:Int),o,())]:=λl h=>AQu _ h;exact((J2.cn c1 a t1.1 (by omega) t1.2.2).mono hm).trans ((Cn.rj (l:=((a:Int),(b:Int),o,())) (by simp) (.refl _)).trans ((J2.cn b c2 b1 t2.1 t2.2.2.symm).mono hm))
     have Ke:(c1:Int)≠(c2:Int):=λe=>by
      have e:c1=c2:=by omega
      rw[e]at t1;exact yQ (by rw[<-t1.2.2,<-t2.2.2])
     have hlk:=lkN;obtain⟨w,ew,hw⟩:=Awy (v:=ks++[((a:Int),(b:Int),o,())]) (N:=N2) (by omega) (by omega) hlk (a:=(c1:Int)) (g:=(c2:Int)) (by omega) (Ne.symm Ke) hcn;obtain⟨y,ey,hy,hy2⟩:=AhP (ls:=ks++[((a:Int),(b:Int),o,())]) (by omega) (λl h=>by have:=hlk l h;omega) (b:=(c1:Int)) (c:=(c2:Int)) (by omega) Ke hcn;obtain⟨z,ez,hz⟩:=AdA hy (by omega);rw[ew,APW,APW,ARd,AQe ⟨rfl,by omega,ARj _,by omega,by omega⟩,ey,APW,ez,APW];exact⟨_,_,rfl,rfl,.inl ⟨rfl,rfl,hw,hz,N2,_,_,_,ks,xd,_,rt,J3,n.1,n.2.1,hH,a,b,c1,c2,X2 _ _ na,nb,J2.cn a c1 (by omega) t1.1 t1.2.2.symm,J2.cn b c2 (by omega) t2.1 t2.2.2.symm,t1.2.1,t2.2.1,λe=>Bool.noConfusion (hr.2 e)⟩⟩
    |true =>
     simp only[AQF,AQb,APW,AQW];exact Avl _ (by have hcc:(0:Int)<=(c1:Int)/\(0:Int)<=(c2:Int):=⟨by omega,by omega⟩;rw[AQe hcc];split<;>omega) λi j i1 i2 j1 j2 hi hj=>by
      rw[J2.eqv i c1 i1 i2 t1.2.1 t1.1 (hi.trans t1.2.2.symm),J2.eqv j c2 j1 j2 t2.2.1 t2.1 (hj.trans t2.2.2.symm)];exact hr.1 rfl
   ·rw[show(decide (v1>=0)&&decide (v2>=0))=false by rw[APZ (show ¬v2>=0 by omega),Bool.and_false],AQb,AP1 (show v1>=0 by omega),AQc,APZ (show ¬v2>=0 by omega),AQb];simp only[APW,AQW,AQb,APX];exact Avl _ (by rw[P9]) λi j i1 i2 j1 j2 hi hj=>by
     rcases F2 with ⟨_,h⟩|⟨j',h,_⟩
     ·exact(h j j1 j2 hj).elim
     ·omega
  ·rw[show(decide (v1>=0)&&decide (v2>=0))=false by rw[APZ (show ¬v1>=0 by omega),Bool.false_and],AQb,APZ (show ¬v1>=0 by omega),AQb];simp only[APW,AQW,AQb,APX];exact Avl _ (by rw[P9]) λi j i1 i2 j1 j2 hi hj=>by
    rcases F1 with ⟨_,h⟩|⟨j',h,_⟩
    ·exact(h i i1 i2 hi).elim
    ·omega
theorem Nm{d:ASw}{f:Nat->Nat->Bool}(ht:∀v p,f v p=true->v<d.length/\1<=p/\p<W d v):C0 (Ai d f)=f:=by
 funext v p
 rw[ARA];unfold C0;by_cases hv:v<d.length
 ·rw[UR hv,List.contains_iff_mem,Zh]
  grind
 ·constructor
  ·intro h;have:Dx (Ai d f) v=[]:=by unfold Dx Ai;simp[hv]
   rw[this]at h;simp at h
  ·grind
def mj(d:ASw)(l:ASy)(f:Nat->Nat->Bool)(i:Nat):ASD:=PP (SL d (Ai d f) d.length) (b1 d l i) (b2 d l i) 0 (eL (b1 d l i) (b2 d l i) f (b1 d l i).length++[(b1 d l i).length])
section
variable {d:ASw} {l:ASy} {f:Nat->Nat->Bool}
theorem wO(hd:AB d)(hl:∀x∈l,Gm x)(HG:CJ d l)(hs:BF d l)(Il:B6 d l f)(ht:∀v p,f v p=true->v<d.length/\1<=p/\p<W d v){i:Nat}(hi:i<l.length) :
    LA d (l.getD i Ae.zero) (Ai d f,())=some (true,mj d l f i):=by
 have hC0:=Nm ht;obtain⟨WQ,hc⟩:=Gc hd f;generalize hx:l.getD i Ae.zero=x;have hxl:Gm x:=by grind
 have VS:∀y∈[x],Gm y:=λy hy=>by grind
 have eS:lS [x] 0=lS l i:=by unfold lS li;rw[hx];rfl
 have eT:lT [x] 0=lT l i:=by unfold lT li;rw[hx];rfl
 have eB1:b1 d [x] 0=b1 d l i:=by unfold b1;rw[eS]
 have eB2:b2 d [x] 0=b2 d l i:=by unfold b2;rw[eT]
 have AvK:CJ d [x]:=⟨by simp,λj hj=>by
  have:j=0:=by grind
  subst this;obtain⟨h1,_,h3,h4⟩:=HG.2 i hi;have eI:cj [x] 0=cj l i:=by unfold cj li;rw[hx];rfl
  exact⟨by grind,λh=>by omega,by grind,by grind⟩⟩
 have Sb:BF d [x]:=λj hj=>by
  have:j=0:=by simp at hj;omega
  subst this;have:=hs i hi;unfold ju at this⊢;rw[eS,eT];exact this
 have AI6:B6 d [x] f:=λj hj=>by
  have:j=0:=by simp at hj;omega
  subst this;rw[eB1,eB2];exact Il i hi
 obtain⟨rc,ec,himp,S6⟩:=cC (d:=d) hc VS;obtain⟨q1,e1,h1⟩:=Wn (d:=d) hc;obtain⟨q2,e2,h2⟩:=Wo (d:=d) VS;rcases S6 with ⟨_,VT⟩|⟨_,_,_,_,f',rfl,hf⟩
 ·exact(VT ⟨hd,WQ,AvK,Sb⟩).elim
 have hff:f'=f:=by
  funext v p
  rw[ARA];exact⟨hf.min f AI6 (by rw[hC0];exact λ_ _ h=>h) v p,λh=>hf.le v p (by rw[hC0];exact h)⟩
 subst hff;have hB:=VS _ (List.mem_singleton.2 rfl);obtain⟨s1,s2,s3,s4,s5,s6⟩:=Rk hd VS AvK Sb (show 0<[x].length by simp);rw[eB1]at s1 s3 s5;rw[eB2]at s2 s3 s6;have g1:Dn d x.2.2.1=some (DX d (lS [x] 0)):=Rr hd hB.1;have g2:Dn d x.2.2.2.1=some (DX d (lT [x] 0)):=Rr hd hB.2;have BO:eF d (b1 d l i) (b2 d l i) (C0 (Ai d f')):=by rw[hC0];exact Il i hi
 unfold LA NS NT;rw[e1,h1.2 ⟨hd,WQ⟩];simp only[AQF,AQb,e2,h2.2 ⟨hd,AvK⟩,APW];rw[ec,APW];simp only[AQF,AQb];rw[dR hd WQ hc,APW,APW,APW,ARe];rw[g1,APW,g2,APW,s5,s6];rw[Aih hd s1,APW,Aih hd s2,APW,dS hd WQ hc,APW,Ah8 hd WQ hc,APW,WJ hd WQ hc,APW];rw[nG hd WQ s1 s2 s3 BO];rw[hC0];rfl
theorem AhH(hd:AB d)(hl:∀x∈l,Gm x)(HG:CJ d l)(hs:BF d l)(Il:B6 d l f)(ht:∀v p,f v p=true->v<d.length/\1<=p/\p<W d v){i:Nat}(hi:i<l.length)(a:Int)(x:ASw)(y:ASy) :
    Is a (i:Int) x y ((List.range l.length).map (Ov d l)) (Ai d f) (SL d (Ai d f) d.length) (iN (SL d (Ai d f) d.length) (SL d (Ai d f) d.length).length) =
     some (mj d l f i,x,y,(List.range l.length).map (Ov d l),Ai d f,SL d (Ai d f) d.length,iN (SL d (Ai d f) d.length) (SL d (Ai d f) d.length).length):=by
 have hC0:=Nm ht;obtain⟨WQ,hc⟩:=Gc hd f;obtain⟨s1,s2,s3,s4,s5,s6⟩:=Rk hd hl HG hs hi;have BO:eF d (b1 d l i) (b2 d l i) (C0 (Ai d f)):=by rw[hC0];exact Il i hi
 have hlen:i<((List.range l.length).map (Ov d l)).length:=by grind
 unfold Is;rw[AQe (Bg hlen),AQe (Bg hlen),APX,I2 hi,s4];rw[mZ hd WQ hc s1 s2 s3 BO,hC0];rfl
theorem AuW{B:ATB Bt}(h:Bo d B){L:ASx}{a b:Nat}(yQ:a<b)(hb:b<=B.length)(hn:∀v x,QO B a=.va v x->∃n,Hs L (nk v x) L.length=some n):ai L.length (Oq L B a b):=by
 unfold Oq;split
 ·refine .inr ⟨by omega,?_,?_⟩
  ·show 0<((uA B a _).length:Int);unfold uA
   grind
  ·have hl:(uA B a (b-a)).length<=4096:=by
     unfold uA;rw[AP8,AQh];have:=h.2.1;omega
   obtain⟨h1,h2⟩:=fB _;refine⟨?_,?_,h2⟩
   ·rw[h1];unfold nw;omega
   ·show((uA B a _).length:Int)<=4096;omega
 ·rename_i v x hq;obtain⟨n,hn⟩:=hn v x hq;rw[hn];have:=(V8 hn).1;exact .inl ⟨by show 0<=(n:Int);omega,by show L.length>(n:Int);omega⟩
theorem kz{c:ASG}{B:ATB Bt}(h:Bo d B){a b i k:Nat}(S:hU d c B a b i k):ai (SL d c d.length).length (Oq (SL d c d.length) B a b):=AuW h S.lt S.le λv x hq=>by
 rw[jf S]at hq;have hk:=S.hk;have Bp:=S.lt;cases hs:(Ay B).getD i _ with
 |co y =>
  rw[hs]at hq hk;simp only[Sg.w]at hk;rw[show(Sg.co y).bits=y.map _ from rfl,Fj _ (y:=false) (by omega)]at hq;cases hq
 |va v' l' n =>
  rw[hs]at hq hk;simp only[Sg.w]at hk;rw[show(Sg.va v' l' n).bits=(List.range n).map _ from rfl,I2 (by omega)]at hq;injection hq with e1 e2;subst e1;subst e2;obtain⟨m,hm,_⟩:=S.va _ _ _ hs;exact⟨m,hm⟩
theorem qh{B1 B2:ATB Bt}{h:Nat->Nat->Bool}{L:ASx}:∀{p:Nat},p<=B1.length->∀x∈PP L B1 B2 0 (eL B1 B2 h p),∃a b,tE B1 B2 h a b/\x=pcV L B1 B2 a b
 |0,_,x,hx=>by simp[eL,PP]at hx
 |1,_,x,hx=>by rw[yK]at hx;simp[PP]at hx
 |p+2,hp,x,hx=>by
  rw[cQ _ (by omega)]at hx;split at hx
  ·rename_i hP;rw[Uz]at hx;rcases List.mem_append.1 hx with hx |hx
   ·exact qh (by omega) x hx
   ·rw[AQn]at hx;exact⟨_,_,bu (by omega) (by omega) (.inr hP),hx⟩
  ·exact qh (by omega) x hx
theorem lz(hd:AB d)(hl:∀x∈l,Gm x)(HG:CJ d l)(hs:BF d l)(Il:B6 d l f)(ht:∀v p,f v p=true->v<d.length/\1<=p/\p<W d v){i:Nat}(hi:i<l.length) :
    (mj d l f i).length<=4097/\∀x∈mj d l f i,ai (SL d (Ai d f) d.length).length x.1/\ai (SL d (Ai d f) d.length).length x.2.1:=by
 have hC0:=Nm ht;obtain⟨WQ,hc⟩:=Gc hd f;obtain⟨s1,s2,s3,s4,s5,s6⟩:=Rk hd hl HG hs hi;have BO:eF d (b1 d l i) (b2 d l i) (C0 (Ai d f)):=by rw[hC0];exact Il i hi
 have hn1:=s1.1;have hn2:=s1.2.1;refine⟨?_,λx hx=>?_⟩
 ·unfold mj;rw[qj,AP0,AQg];have:=yJ (B1:=b1 d l i) (B2:=b2 d l i) (h:=f) (b1 d l i).length;omega
 ·have hg:∃a b,tE (b1 d l i) (b2 d l i) f a b/\x=pcV (SL d (Ai d f) d.length) (b1 d l i) (b2 d l i) a b:=by
    unfold mj at hx;rw[Uz]at hx;rcases List.mem_append.1 hx with hx |hx
    ·exact qh (AP2 _) x hx
    ·rw[AQn]at hx;exact⟨_,_,bu (by omega) (AP2 _) (.inl rfl),hx⟩
  obtain⟨a,b,g,rfl⟩:=hg;have g':tE (b1 d l i) (b2 d l i) (C0 (Ai d f)) a b:=by grind
  obtain⟨⟨i1,k1,S1⟩,i2,k2,S2⟩:=W7 hd WQ s1 s2 s3 BO g';exact⟨kz s1 S1,kz s2 S2⟩
end
variable {H:ASd->ASd->Prop}
theorem Aik{ns:Nat}{P:ASD}(hH:∀x∈P,H x.1 x.2.1)(hP:∀x∈P,ai ns x.1/\ai ns x.2.1)(hPl:P.length<=4097){l:ASy}{i:Nat}(hi:i<l.length)
    (a c d:Int) (b1:ASw) (c1:ASy) (d1:ATB tL) (e1:ASG) (g1:ASx) (i1:ATB ASO) (sd:ASw) (sn se:Int) (sg si:ASl) :
    ∀(m k N:Nat) (ld fx:ASs) (vm:ATB ASL) (ks:ASx) (vs:ASB) (BA:ASs) (rt:Nat->Nat),k+m=P.length->JN H ns N ld fx vm ks vs BA rt->N+2*m<=1999990->ks.length+m<900000 ->
     ∃x y,Dd a c l d (i:Int) P (P.length:Int) b1 c1 d1 e1 g1 i1 (l.getD i Ae.zero) (k:Int) ld fx vm ks=some x/\FK sd l sn se (i:Int) sg si P (k:Int) vs ks BA=some y /\
      ((∃w z,x=.inl w/\y=.inl z/\w.1≠[]/\z.1≠[]/\Clh H ns)\/∃gD xC xM UD Z2 ag iC N',x=.inr (gD,xC,xM,UD)/\y=.inr (Z2,UD,ag)/\JN H ns N' gD xC xM UD Z2 ag iC/\N'<=N+2*m/\UD.length<=ks.length+m/\Ext ns rt vs iC Z2/\∀x∈P.drop k,P1 ns iC Z2 x)
 |0,k,N,ld,fx,vm,ks,vs,BA,rt,hk,J,h1,h2=>by
  have:k=P.length:=by omega
  subst this;refine⟨.inr (ld,fx,vm,ks),.inr (vs,ks,BA),?_,?_,.inr ⟨ld,fx,vm,ks,vs,BA,rt,N,rfl,rfl,J,by omega,by omega,.refl,λx hx=>by simp at hx⟩⟩
  ·unfold Dd;refine Jz ?_;unfold Cz DC;simp only;rw[Ep,AQb]
  ·unfold FK;refine Jz ?_;unfold Eh Gk;simp only;rw[Ep,AQb]
 |m+1,k,N,ld,fx,vm,ks,vs,BA,rt,hk,J,h1,h2=>by
  have Bp:k<P.length:=by omega
  obtain⟨hA,hB⟩:=hP _ (AL (z :=Ao.zero) Bp);obtain⟨x,y,ex,ey,hR⟩:=Amm J hA hB (by omega) (by omega) (hH _ (AL Bp)) c se (l.getD i Ae.zero).1;have hw:wI ((k:Int)+1)=((k+1:Nat):Int):=A0;obtain⟨x1,x2,x3,x4,x5,x6⟩:=x;obtain⟨y1,y2,y3,y4,y5⟩:=y;rcases hR with ⟨rfl,rfl,n1,n2,n3⟩|⟨rfl,rfl,N',iC,r1,r2,r3,r4,J',z1,z2⟩
  ·refine⟨.inl (x3,x4,x5,x2,x6),.inl (y2,y3,y4,y5),?_,?_,.inl ⟨_,_,rfl,rfl,n1,n2,n3⟩⟩
   ·unfold Dd;refine Jz ?_;unfold Cz DC;simp only[APX];rw[Da Bp,AQc,AQe (Bg Bp),ex,APW];rfl
   ·unfold FK;refine Jz ?_;unfold Eh Gk;simp only[APX];rw[Da Bp,AQc,AQe (Bg Bp),AQe (Bg hi),ey,APW];rfl
  ·simp only at r3 r4 J' z1 z2;subst r4;obtain⟨X,Y,eX,eY,hX⟩:=Aik hH hP hPl hi a c d b1 c1 d1 e1 g1 i1 sd sn se sg si m (k+1) N' x4 x5 x2 y4 y3 y5 iC (by omega) J' (by omega) (by omega);refine⟨X,Y,?_,?_,?_⟩
   ·rw[<-eX];unfold Dd;refine OZ ?_;unfold Cz DC;simp only[APX];rw[Da Bp,AQc,AQe (Bg Bp),ex,APW,hw];rfl
   ·rw[<-eY];unfold FK;refine OZ ?_;unfold Eh Gk;simp only[APX];rw[Da Bp,AQc,AQe (Bg Bp),AQe (Bg hi),ey,APW,hw];rfl
   ·rcases hX with h |⟨gD,xC,xM,UD,Z2,ag,AdC,N'',q1,q2,q3,q4,q5,q6,q7⟩
    ·exact .inl h
    ·refine .inr ⟨gD,xC,xM,UD,Z2,ag,AdC,N'',q1,q2,q3,by omega,by omega,z1.trans q6,λx hx=>?_⟩;rw[ARx Bp]at hx;rcases List.mem_cons.1 hx with rfl |hx
     ·exact(show P1 ns iC y3 P[k] by rw[show P[k]=P.getD k Ao.zero by simp[List.getD,Bp]];exact z2).mono q6
     ·exact q7 x hx
section
variable {d:ASw} {l:ASy} {f:Nat->Nat->Bool}
theorem rT(hH:∀i,i<l.length->∀x∈mj d l f i,H x.1 x.2.1)(hd:AB d)(hl:∀x∈l,Gm x)(HG:CJ d l)(hs:BF d l)(Il:B6 d l f)(ht:∀v p,f v p=true->v<d.length/\1<=p/\p<W d v)(a c sn se:Int) :
    ∀(m i N:Nat) (ld fx:ASs) (vm:ATB ASL) (ks:ASx) (vs:ASB) (BA:ASs) (rt:Nat->Nat),i+m=l.length->JN H (SL d (Ai d f) d.length).length N ld fx vm ks vs BA rt->N+8194*m<=1999990->ks.length+4097*m<900000 ->
     ∃x y,Cv a l c (l.length:Int) (i:Int) d l ((List.range l.length).map (Ov d l)) (Ai d f) (SL d (Ai d f) d.length) (iN (SL d (Ai d f) d.length) (SL d (Ai d f) d.length).length) ld fx vm ks=some x /\
      D6 d l sn se (Ai d f,()) (Ai d f,()) (i:Int) vs ks BA=some y /\
      ((∃w z,x=.inl w/\y=.inl z/\w.2.2.2.2.2.2.1≠[]/\z.1≠[]/\Clh H (SL d (Ai d f) d.length).length)\/∃gD xC xM UD Z2 ag iC N',x=.inr (d,l,(List.range l.length).map (Ov d l),Ai d f,SL d (Ai d f) d.length,iN (SL d (Ai d f) d.length) (SL d (Ai d f) d.length).length,gD,xC,xM,UD)/\y=.inr (Z2,UD,ag)/\JN H (SL d (Ai d f) d.length).length N' gD xC xM UD Z2 ag iC/\N'<=1999990/\Ext (SL d (Ai d f) d.length).length rt vs iC Z2/\∀i',i<=i'->i'<l.length->(l.getD i' Ae.zero).2.1=true->∀x∈mj d l f i',P1 (SL d (Ai d f) d.length).length iC Z2 x)
 |0,i,N,ld,fx,vm,ks,vs,BA,rt,hk,J,h1,h2=>by
  have:i=l.length:=by omega
  subst this;refine⟨.inr (d,l,(List.range l.length).map (Ov d l),Ai d f,SL d (Ai d f) d.length,iN (SL d (Ai d f) d.length) (SL d (Ai d f) d.length).length,ld,fx,vm,ks),.inr (vs,ks,BA),?_,?_,.inr ⟨ld,fx,vm,ks,vs,BA,rt,N,rfl,rfl,J,by omega,.refl,λi' h1 h2=>by omega⟩⟩
  ·unfold Cv;refine Jz ?_;unfold B8 CB;simp only;rw[Ep,AQb]
  ·unfold D6;refine Jz ?_;unfold C7 Ei;simp only;rw[Ep,AQb]
 |m+1,i,N,ld,fx,vm,ks,vs,BA,rt,hk,J,h1,h2=>by
  have Bp:i<l.length:=by omega
  have fp:=HG.1;have hw:wI ((i:Int)+1)=((i+1:Nat):Int):=A0;cases hE:(l.getD i Ae.zero).2.1 with
  |false =>
   obtain⟨X,Y,eX,eY,hX⟩:=rT hH hd hl HG hs Il ht a c sn se m (i+1) N ld fx vm ks vs BA rt (by omega) J (by omega) (by omega);refine⟨X,Y,?_,?_,?_⟩
   rotate_right
   ·rcases hX with h |⟨gD,xC,xM,UD,Z2,ag,iC,N',q1,q2,q3,q4,q5,q6⟩
    ·exact .inl h
    ·refine .inr ⟨gD,xC,xM,UD,Z2,ag,iC,N',q1,q2,q3,q4,q5,λi' h1 h2 h3=>?_⟩;by_cases e:i'=i
     ·subst e;rw[hE]at h3;cases h3
     ·exact q6 i' (by omega) h2 h3
   ·rw[<-eX];unfold Cv;refine OZ ?_;unfold B8 CB De;simp only[APX];rw[Da Bp,AQc,AQe (Bg Bp),hE,hw];rfl
   ·rw[<-eY];unfold D6;refine OZ ?_;unfold C7 Ei FL;simp only[APX];rw[Da Bp,AQc,AQe (Bg Bp),hE,hw];rfl
  |true =>
   have eP:=AhH hd hl HG hs Il ht Bp a d l;have eS:=wO hd hl HG hs Il ht Bp;obtain⟨p1,p2⟩:=lz hd hl HG hs Il ht Bp;obtain⟨x,y,ex,ey,hR⟩:=Aik (hH i Bp) p2 p1 Bp a c (l.length:Int) d l ((List.range l.length).map (Ov d l)) (Ai d f) (SL d (Ai d f) d.length) (iN (SL d (Ai d f) d.length) (SL d (Ai d f) d.length).length) d sn se (Ai d f,()) (Ai d f,()) (mj d l f i).length 0 N ld fx vm ks vs BA rt (by omega) J (by omega) (by omega);have e0:((0:Nat):Int)=0:=rfl;rw[e0]at ex ey;rcases hR with ⟨w,z,rfl,rfl,n1,n2,n3⟩|⟨gD,xC,xM,UD,Z2,ag,iC,N',rfl,rfl,J',q1,q2,q3,q4⟩
   ·refine⟨.inl (d,l,(List.range l.length).map (Ov d l),Ai d f,SL d (Ai d f) d.length,iN (SL d (Ai d f) d.length) (SL d (Ai d f) d.length).length,w.1,w.2.1,w.2.2.1,w.2.2.2.1,w.2.2.2.2),.inl (z.1,z.2.1,z.2.2.1,z.2.2.2),?_,?_,.inl ⟨_,_,rfl,rfl,n1,n2,n3⟩⟩
    ·unfold Cv;refine Jz ?_;unfold B8 CB De;simp only[APX];rw[Da Bp,AQc,AQe (Bg Bp),hE,AQF,AQb,eP,APW];simp only;rw[ex];rfl
    ·unfold D6;refine Jz ?_;unfold C7 Ei FL;simp only[APX];rw[Da Bp,AQc,AQe (Bg Bp),AQe (Bg Bp),hE,AQF,AQb,eS,APW];simp only;rw[ey];rfl
   ·obtain⟨X,Y,eX,eY,hX⟩:=rT hH hd hl HG hs Il ht a c sn se m (i+1) N' gD xC xM UD Z2 ag iC (by omega) J' (by omega) (by omega);refine⟨X,Y,?_,?_,?_⟩
    rotate_right
    ·rcases hX with h |⟨AKa,AIN,AKk,AhN,AmY,AGu,AdC,N'',u1,u2,u3,u4,u5,u6⟩
     ·exact .inl h
     ·refine .inr ⟨AKa,AIN,AKk,AhN,AmY,AGu,AdC,N'',u1,u2,u3,u4,q3.trans u5,λi' h1 h2 h3=>?_⟩;by_cases e:i'=i
      ·subst e;exact λx hx=>(q4 x (by simpa using hx)).mono u5
      ·exact u6 i' (by omega) h2 h3
    ·rw[<-eX];unfold Cv;refine OZ ?_;unfold B8 CB De;simp only[APX];rw[Da Bp,AQc,AQe (Bg Bp),hE,AQF,AQb,eP,APW,hw];simp only;rw[ex];rfl
    ·rw[<-eY];unfold D6;refine OZ ?_;unfold C7 Ei FL;simp only[APX];rw[Da Bp,AQc,AQe (Bg Bp),AQe (Bg Bp),hE,AQF,AQb,eS,APW,hw];simp only;rw[ey];rfl
end
variable {H:ASd->ASd->Prop}
def tv(rt:Nat->Nat)(i:Nat):Bool:=(List.range i).all λj=>rt j !=rt i
def Bu(rt:Nat->Nat):Nat->ASu
 |0=>[]
 |i+1=>if tv rt i=true then Bu rt i++[i]else Bu rt i
def Db(rt:Nat->Nat):Nat->Nat->ASs
 |0,_=>[]
 |i+1,a=>if rt i=rt a then Db rt i a++[(i:Int)]else Db rt i a
theorem V5{rt:Nat->Nat}{i:Nat}:tv rt i=true↔∀j,j<i->rt j≠rt i:=by
 unfold tv;simp
theorem iY{rt:Nat->Nat}{i:Nat}(h:tv rt i=false):∃j,j<i/\rt j=rt i:=by
 unfold tv at h
 grind
abbrev rp(rt:Nat->Nat)(i k:Nat):Nat:=(Bu rt i).getD k 0
theorem UJ(rt:Nat->Nat):∀i,(Bu rt i).length<=i
 |0=>AP2 _
 |i+1=>by
  have:=UJ rt i;unfold Bu
  grind
theorem UG(rt:Nat->Nat)(a:Nat):∀i,(Db rt i a).length<=i
 |0=>AP2 _
 |i+1=>by
  have:=UG rt a i;unfold Db
  grind
theorem Ri(rt:Nat->Nat):∀(i k:Nat),k<(Bu rt i).length->rp rt i k<i/\tv rt (rp rt i k)=true
 |0,k,h=>by simp[Bu]at h
 |i+1,k,h=>by
  unfold rp Bu at *;by_cases e:tv rt i=true
  ·rw[AQe e]at h⊢;rw[AP0,AQg]at h;by_cases hk:k<(Bu rt i).length
   ·have:=Ri rt i k hk
    grind
   grind
  ·rw[AQf e]at h⊢;have:=Ri rt i k h
   grind
theorem XR(rt:Nat->Nat):∀(i j:Nat),j<i->∃k,k<(Bu rt i).length/\rt (rp rt i k)=rt j
 |0,j,h=>by omega
 |i+1,j,h=>by
  unfold rp Bu;by_cases e:tv rt i=true
  ·rw[AQe e,AP0,AQg];by_cases hj:j=i
   ·subst hj;exact⟨(Bu rt j).length,by omega,by grind⟩
   ·obtain⟨k,hk,h2⟩:=XR rt i j (by omega);exact⟨k,by omega,by grind⟩
  ·rw[AQf e];by_cases hj:j=i
   ·subst hj;obtain⟨j',h1,h2⟩:=iY (Bool.eq_false_iff.2 e);obtain⟨k,hk,h3⟩:=XR rt j j' h1;exact⟨k,hk,h3.trans h2⟩
   ·exact XR rt i j (by omega)
theorem sk{rt:Nat->Nat}{i k k':Nat}(hk:k<(Bu rt i).length)(YB:k'<(Bu rt i).length)(h:rt (rp rt i k)=rt (rp rt i k')):rp rt i k=rp rt i k':=by
 obtain⟨_,h1⟩:=Ri rt i k hk;obtain⟨_,h2⟩:=Ri rt i k' YB;rw[V5]at h1 h2
 grind
theorem fK(rt:Nat->Nat):∀i,(Bu rt i).Pairwise (·<·)
 |0=>List.Pairwise.nil
 |i+1=>by
  unfold Bu;split
  ·rw[List.pairwise_append];refine⟨fK rt i,List.pairwise_singleton _ _,λa ha b hb=>?_⟩;rw[AQn]at hb;subst hb;obtain⟨k,hk,e⟩:=List.mem_iff_getElem.1 ha;have:=(Ri rt b k hk).1
   grind
  ·exact fK rt i
theorem je{rt:Nat->Nat}{i k k':Nat}(hk:k<(Bu rt i).length)(YB:k'<(Bu rt i).length)(h:rp rt i k=rp rt i k'):k=k':=by
 have hp:=List.pairwise_iff_getElem.1 (fK rt i)
 grind
def cV(rt:Nat->Nat)(fx:ASs)(vs:ASB)(i a:Nat):ASm :=
 (Db rt i a,bif decide (gI fx (rt a)>=0)then(true,((gB vs (gI fx (rt a)).toNat).1,(gB vs (gI fx (rt a)).toNat).2.1,()),())else(false,(0,[],()),()))
abbrev PM:Type:=List ASR
structure Plc (rt:Nat->Nat) (i:Nat) (g:PM):Prop where
 AY:∀k,k<(Bu rt i).length->Uf ATl ATl g ((rt (rp rt i k):Nat):Int)=true/\Bv ATl ATl g ((rt (rp rt i k):Nat):Int)=(k:Int)
 has:∀r:Nat,Uf ATl ATl g (r:Int)=true->∃k,k<(Bu rt i).length/\rt (rp rt i k)=r
theorem dt{A B:Type}{F G:A->B}{l:ATB A}{k:Nat}{z:A}(hk:k<l.length)(h:∀k',k'<l.length->k'≠k->F (l.getD k' z)=G (l.getD k' z)):(l.map F).set k (G (l.getD k z))=l.map G:=by
 apply AQV
 ·simp
 grind
theorem qG{ns N:Nat}{ld fx:ASs}{vm:ATB ASL}{ks:ASx}{vs:ASB}{BA:ASs}{rt:Nat->Nat}(J:JN H ns N ld fx vm ks vs BA rt)(hN:N<=1999990)(a:Int) :
    Ax (Gi a (ns:Int) ld fx vm ks) λr=>r.2.2.2.2=(Bu rt ns).map (cV rt fx vs ns):=by
 have hnn:=J.nn;have iP:=J.l2;have hl3:=J.l3;unfold Gi;refine Ax.bind (P:=λr:ASs×ASs×ATB ASL×ASx×ASC=>r.2.2.2.2=(Bu rt ns).map (cV rt fx vs ns)) ?_ λr hr=>Ax.mk hr;unfold Kx;refine Bn (λm (s:Int×ASs×ASs×ATB ASL×ASx×ASC×PM)=>∃i:Nat,s.1=(i:Int)/\i<=ns/\m=ns-i/\(∃dp,Fo s.2.1 rt dp)/\s.2.1.length=N/\s.2.2.1=fx/\s.2.2.2.1=vm/\s.2.2.2.2.2.1=(Bu rt i).map (cV rt fx vs i)/\Plc rt i s.2.2.2.2.2.2) (λm s hI=>?_) ns (0,ld,fx,vm,ks,[],[]) ⟨0,rfl,AQH _,rfl,J.fo,J.l1,rfl,rfl,rfl,⟨λk h=>by simp[Bu]at h,λr h=>by simp[Uf,Pf]at h⟩⟩;obtain⟨i,e1,hi,rfl,⟨dp,hf⟩,hl,e2,e3,e4,hP⟩:=hI;obtain⟨g,x,y,v,k0,out,pl⟩:=s;simp only at e1 hf hl e2 e3 e4 hP;subst e1;subst e2;subst e3;subst e4;unfold Fc I1;simp only;rcases AP7 i ns with Bp |ZO
 ·have hri:rt i<N:=by have:=(hf.Yt i (by omega)).1;omega
  have hrr:=hf.b7 i;obtain⟨c,ec,x',rfl,yU,hf'⟩:=qY hf (j:=i) (by omega) a y v k0;rw[Da Bp,AQc,ec,APW];simp only;have hrl:=UJ rt i;have hw:wI ((i:Int)+1)=((i+1:Nat):Int):=A0;unfold Gv;cases hR:tv rt i with
  |false =>
   obtain⟨j,hj,ej⟩:=iY hR;obtain⟨k,hk,ek⟩:=XR rt i j hj;rw[ej]at ek;obtain⟨h1,h2⟩:=hP.AY k hk;rw[ek]at h1 h2;have yZ:Bu rt (i+1)=Bu rt i:=by rw[Bu,AQf (by rw[hR];simp)]
   rw[h1,h2,AQF,AQb,APW];have hol:((Bu rt i).map (cV rt y vs i)).length=(Bu rt i).length:=AP8 _;have hgk:((Bu rt i).map (cV rt y vs i)).getD k An.zero=cV rt y vs i (rp rt i k):=Fj (cV rt y vs i) (y:=0) hk;simp only[APX,hgk];have tq:=UG rt (rp rt i k) i;rw[AQe (show(0:Int)<=(k:Int)/\(k:Int)<(((Bu rt i).map (cV rt y vs i)).length:Int) by omega),AQe (show((cV rt y vs i (rp rt i k)).1.length+([(i:Int)]:ASs).length)*8<=140737488355328 by rw[AQg];show((Db rt i (rp rt i k)).length+1)*8<=_;omega),AQe (show(0:Int)<=(k:Int)/\(k:Int)<(((Bu rt i).map (cV rt y vs i)).length:Int) by omega),AQe trivial,hw];refine Ax.mk ⟨ns-(i+1),by omega,i+1,rfl,by omega,rfl,⟨dp,hf'⟩,by simp only;omega,rfl,rfl,?_,?_⟩
   ·simp only;rw[yZ];have hc:((cV rt y vs i (rp rt i k)).1++[(i:Int)],(cV rt y vs i (rp rt i k)).2)=cV rt y vs (i+1) (rp rt i k):=by
     unfold cV;rw[Db,AQe ek.symm]
    rw[hc];refine dt hk λk' YB Ke=>?_;unfold cV;rw[Db,AQf λe=>Ke (je YB hk (sk YB hk (by show rt (rp rt i k')=_;rw[ek];exact e.symm)))]
   ·exact⟨by rw[show rp rt (i+1)=rp rt i by unfold rp;rw[yZ],yZ];exact hP.AY,by rw[show rp rt (i+1)=rp rt i by unfold rp;rw[yZ],yZ];exact hP.has⟩
  |true =>
   have rE:=V5.1 hR;have VT:Uf ATl ATl pl ((rt i:Nat):Int)=false:=by
    rw[Bool.eq_false_iff];intro h;obtain⟨k,hk,ek⟩:=hP.has _ h;exact rE _ (Ri rt i k hk).1 ek
   have yZ:Bu rt (i+1)=Bu rt i++[i]:=by rw[Bu,AQe hR]
   rw[VT,ARg,AQc];have hol:((Bu rt i).map (cV rt y vs i)).length=(Bu rt i).length:=AP8 _;have e3:DZ a (i:Int) ((rt i:Nat):Int) (ns:Int) x' y v k0 ((Bu rt i).map (cV rt y vs i)) (((Bu rt i).map (cV rt y vs i)).length:Int) (Cf ATl ATl pl ((rt i:Nat):Int) (((Bu rt i).map (cV rt y vs i)).length:Int))=some (bif decide (gI y (rt i)>=0)then(true,(gB vs (gI y (rt i)).toNat).1,(gB vs (gI y (rt i)).toNat).2.1)else(false,0,[])):=by
    unfold DZ;simp only[APX];rw[AQe (show(0:Int)<=((rt i:Nat):Int)/\((rt i:Nat):Int)<(y.length:Int) by omega)];show(bif decide (gI y (rt i)>=0)then _ else _)=_;cases hd:decide (gI y (rt i)>=0)with
    |false=>rfl
    |true =>
     have hd:gI y (rt i)>=0:=AR1 hd;rw[AQc,AQc];have hF:=J.fx_ _ hri hrr;rcases hF with ⟨h,_⟩|⟨q,h,h3,h4,h5,_⟩
     ·omega
     ·have hb:=J.vl q h4 h3;have hbw:=(J.bw q h4).1;show(Dk (Bv ATl Ah v (gI y (rt i)))).bind _=_;rw[h,APX];rw[show Bv ATl Ah v (q:Int)=gB vs q from hb];unfold Dk;rw[Wv];rfl
   rw[e3,APW,AQe (by rw[AQg];omega),APW];simp only;generalize hbv:(bif decide (gI y (rt i)>=0)then(true,(gB vs (gI y (rt i)).toNat).1,(gB vs (gI y (rt i)).toNat).2.1)else(false,0,[]):Bool×Int×ASs)=bv;have YZ:cV rt y vs (i+1) i=([(i:Int)],bv.1,(bv.2.1,bv.2.2,()),()):=by
    have hm:Db rt i i=[]:=by
     have:∀n,n<=i->Db rt n i=[]:=λn=>by
      induction n with
      |zero=>intro _;rfl
      |succ n ih=>intro h;rw[Db,AQf (rE n (by omega))];exact ih (by omega)
     exact this i (AP2 _)
    unfold cV;rw[Db,AQe rfl,hm,<-hbv];cases decide (gI y (rt i)>=0)<;>rfl
   simp only[APX];have hgl:(((Bu rt i).map (cV rt y vs i))++[(([]:ASs),bv.1,(bv.2.1,bv.2.2,()),())]).getD ((Bu rt i).map (cV rt y vs i)).length An.zero=(([]:ASs),bv.1,(bv.2.1,bv.2.2,()),()):=by simp[List.getD]
   rw[hgl];have hal:(((((Bu rt i).map (cV rt y vs i))++[(([]:ASs),bv.1,(bv.2.1,bv.2.2,()),())]):ASC).length:Int)=(((Bu rt i).map (cV rt y vs i)).length:Int)+1:=by rw[AP0,AQg];omega
   rw[hal,Wv,AQe (by rw[AQg];simp),Wv,AQe trivial,hw];refine Ax.mk ⟨ns-(i+1),by omega,i+1,rfl,by omega,rfl,⟨dp,hf'⟩,by simp only;omega,rfl,rfl,?_,?_⟩
   ·simp only;rw[yZ,AQG,ARm _ _ (AP2 _),Nat.sub_self];have hmm:(Bu rt i).map (cV rt y vs (i+1))=(Bu rt i).map (cV rt y vs i):=AQK λb hb=>by
     obtain⟨k,hk,e⟩:=List.mem_iff_getElem.1 hb;have AFV:=(Ri rt i k hk).1;rw[show rp rt i k=b by rw[<-e];simp[rp,List.getD,hk]]at AFV;unfold cV;rw[Db,AQf (Ne.symm (rE b AFV))]
    rw[hmm];show _=_++[cV rt y vs (i+1) i];rw[YZ];rfl
   ·have AOs:(Bu rt (i+1)).length=(Bu rt i).length+1:=by rw[yZ,AP0,AQg]
    have hg1:∀k,k<(Bu rt i).length->rp rt (i+1) k=rp rt i k:=λk hk=>by unfold rp;rw[yZ];simp[List.getD,AQm,hk]
    have hg2:rp rt (i+1) (Bu rt i).length=i:=by unfold rp;rw[yZ];simp[List.getD]
    refine⟨λk hk=>?_,λr hr=>?_⟩
    ·by_cases e:k<(Bu rt i).length
     ·have Ke:((rt (rp rt i k):Nat):Int)≠((rt i:Nat):Int):=λh=>rE _ (Ri rt i k e).1 (by omega);rw[hg1 k e,Xi (vt:=.int .i64),SD (vt:=.int .i64),AQf Ke,(hP.AY k e).1,(hP.AY k e).2,Bool.or_true];exact⟨rfl,rfl⟩
     ·have:k=(Bu rt i).length:=by omega
      subst this;rw[hg2,Xi (vt:=.int .i64),SD (vt:=.int .i64),AQe rfl,AP1 rfl,Bool.true_or,hol];exact⟨rfl,rfl⟩
    ·rw[Xi (vt:=.int .i64),ARh,ARw]at hr;rcases hr with hr |hr
     ·exact⟨(Bu rt i).length,by omega,by rw[hg2];omega⟩
     ·obtain⟨k,hk,ek⟩:=hP.has r hr;exact⟨k,by omega,by rw[hg1 k hk];exact ek⟩
 ·have:i=ns:=by omega
  subst this;rw[Ep,AQb];exact Ax.mk rfl
variable {H:ASd->ASd->Prop}
theorem qH{ns N:Nat}{ld fx:ASs}{vm:ATB ASL}{ks:ASx}{vs:ASB}{BA:ASs}{rt:Nat->Nat}(J:JN H ns N ld fx vm ks vs BA rt)(hN:N<=1999990)(b:Int)(c:ASl) :
    Ax (KT (ns:Int) b c 0 [] vs ks BA) (·=(Bu rt ns).map (cV rt fx vs ns)):=by
 have hnn:=J.nn;have iP:=J.l2;have hl3:=J.l3;have hl4:=J.l4;obtain⟨dp,hf⟩:=J.fo;unfold KT;refine Bn (λm (s:Int×ASC×ASB×ASx×ASs)=>∃i:Nat,s.1=(i:Int)/\i<=ns/\m=ns-i/\s.2.1=(Bu rt i).map (cV rt fx vs ns)/\s.2.2.1=vs/\s.2.2.2.1=ks/\s.2.2.2.2=BA) (λm s hI=>?_) ns (0,[],vs,ks,BA) ⟨0,rfl,AQH _,rfl,rfl,rfl,rfl,rfl⟩;obtain⟨i,e1,hi,rfl,e2,e3,e4,e5⟩:=hI;obtain⟨g,out,v,k0,l⟩:=s;simp only at e1 e2 e3 e4 e5;subst e1;subst e2;subst e3;subst e4;subst e5;unfold IR Nc;simp only;rcases AP7 i ns with Bp |ZO
 ·have hw:wI ((i:Int)+1)=((i+1:Nat):Int):=A0;obtain⟨o1,o2,o3⟩:=J.lo i (by omega);have hrl:=UJ rt i;have hri:rt i<N:=by have:=(hf.Yt i (by have:=J.l1;omega)).1;have:=J.l1;omega
  rw[Da Bp,AQc];unfold KS;simp only[APX];rw[AQe (Bg (show i<l.length by omega))];cases hR:tv rt i with
  |false =>
   obtain⟨j,hj,ej⟩:=iY hR;have h1:=(J.sm j i (by omega) (by omega)).2 ej;have h2:=(J.lo j (by omega)).2.1;have yZ:Bu rt (i+1)=Bu rt i:=by rw[Bu,AQf (by rw[hR];simp)]
   rw[show decide (l.getD i ATl.zero<(i:Int))=true from AP1 (show gI l i<(i:Int) by omega),AQc,APW,hw];exact Ax.mk ⟨ns-(i+1),by omega,i+1,rfl,by omega,rfl,by simp only;rw[yZ],rfl,rfl,rfl⟩
  |true =>
   have rE:=V5.1 hR;have Y3:gI l i=(i:Int):=by
    rcases Int.lt_or_eq_of_le o2 with h |h
    ·exfalso
     have h3:=(J.sm (gI l i).toNat i (by omega) (by omega)).1 (by rw[o3]);exact rE _ (by omega) h3
    ·exact h
   have yZ:Bu rt (i+1)=Bu rt i++[i]:=by rw[Bu,AQe hR]
   rw[show decide (l.getD i ATl.zero<(i:Int))=false from APZ (show ¬gI l i<(i:Int) by omega),AQb];have yX:Db rt i i=[]:=by
    have:∀n,n<=i->Db rt n i=[]:=λn=>by
     induction n with
     |zero=>intro _;rfl
     |succ n ih=>intro h;rw[Db,AQf (rE n (by omega))];exact ih (by omega)
    exact this i (AP2 _)
   obtain⟨x,ex,hx⟩:Ax (KR (ns:Int) b (i:Int) c ((Bu rt i).map (cV rt fx v ns)) v k0 l (i:Int) []) (·=Db rt ns i):=by
    unfold KR;refine Bn (λm (s:Int×ASs)=>∃k:Nat,s.1=(k:Int)/\i<=k/\k<=ns/\m=ns-k/\s.2=Db rt k i) (λm s hI=>?_) (ns-i) ((i:Int),[]) ⟨i,rfl,AP2 _,hi,rfl,yX.symm⟩;obtain⟨k,q1,q2,q3,rfl,q4⟩:=hI;obtain⟨w,x⟩:=s;simp only at q1 q4;subst q1;subst q4;unfold IQ Nb KQ;simp only;rcases AP7 k ns with hk |hk
    ·have mX:wI ((k:Int)+1)=((k+1:Nat):Int):=A0;have tq:=UG rt i k;rw[Da hk,AQc];simp only[APX];rw[AQe (Bg (show k<l.length by omega))];have hE:=J.sm k i (by omega) (by omega);rw[Y3]at hE;by_cases e:rt k=rt i
     ·rw[show(l.getD k ATl.zero==(i:Int))=true from beq_iff_eq.2 (hE.2 e),AQc,AQe (by rw[AQg];omega),APW,mX];exact Ax.mk ⟨ns-(k+1),by omega,k+1,rfl,by omega,by omega,rfl,by rw[Db,AQe e]⟩
     ·rw[show(l.getD k ATl.zero==(i:Int))=false from beq_eq_false_iff_ne.2 λh=>e (hE.1 h),AQb,APW,mX];exact Ax.mk ⟨ns-(k+1),by omega,k+1,rfl,by omega,by omega,rfl,by rw[Db,AQf e]⟩
    ·have:k=ns:=by omega
     subst this;rw[Ep,AQb];exact Ax.mk rfl
   subst hx;obtain⟨w1,f1,v1,rfl,F1⟩:=kr (rt:=rt) (ns:=ns) (vs:=v) (BA:=l) (by omega) (λi j hi hj=>J.sm i j (by omega) (by omega)) (λi hi=>J.wd i (by omega)) (by omega) (b:=i) (by omega) b k0;rw[hl4]at F1;have iT:v1=gI fx (rt i):=F1.uniq (J.fx_ _ hri (hf.b7 i));rw[ex,APW,f1,APW];simp only;have e16:Hw (ns:Int) b (i:Int) c ((Bu rt i).map (cV rt fx v ns)) (Db rt ns i) v1 v k0 l=some (bif decide (gI fx (rt i)>=0)then(true,(gB v (gI fx (rt i)).toNat).1,(gB v (gI fx (rt i)).toNat).2.1)else(false,0,[])):=by
    unfold Hw;rw[iT];cases hd:decide (gI fx (rt i)>=0)with
    |false=>rfl
    |true =>
     have hd:gI fx (rt i)>=0:=AR1 hd;rw[AQc,AQc];rw[iT]at F1;have AOe:=F1.ge;have hbw:=(J.bw (gI fx (rt i)).toNat (by omega)).1;rw[AQe ⟨hd,by omega⟩];unfold P6;rw[AQe (show(gB v (gI fx (rt i)).toNat).2.1.length*8<=140737488355328 by omega)];rfl
   rw[e16,APW,AQe (by rw[AP8,AQg];omega),APW,hw];refine Ax.mk ⟨ns-(i+1),by omega,i+1,rfl,by omega,rfl,?_,rfl,rfl,rfl⟩;simp only;rw[yZ,AQG];congr 1;show[_]=[cV rt fx v ns i];unfold cV;cases decide (gI fx (rt i)>=0)<;>rfl
 ·have:i=ns:=by omega
  subst this;rw[Ep,AQb];exact Ax.mk rfl
theorem dT{ns:Nat}(h:ns<=1000000):∃ld fx vs BA,M0 (ns:Int)=some (0,ld,fx,[])/\VN (ns:Int)=some (0,vs,BA)/\JN H ns ns ld fx [] [] vs BA (λa=>a):=by
 have hg:∀{i},i<ns->gI ((List.range ns).map Int.ofNat) i=(i:Int):=λ{i} hi=>I2 (g:=Int.ofNat) hi;refine⟨(List.range ns).map Int.ofNat,List.replicate ns (-1),List.replicate ns (0,[],()),(List.range ns).map Int.ofNat,?_,?_,?_⟩
 ·unfold M0 Q5;have:=AW (f:=Ef (ns:Int)) (λk=>((k:Int),(List.range k).map Int.ofNat,List.replicate k (-1))) (t:=((List.range ns).map Int.ofNat,List.replicate ns (-1))) ns (λk hk=>?_) ?_
  ·exact(congrArg (λo=>Option.bind o λb=>some ((0:Int),b.1,b.2,([]:ATB ASL))) this).trans rfl
  ·unfold Ef Jp;simp only;rw[Da hk,AQc,AQe (by simp;omega),AQe (by simp;omega),A0 (n:=k+1),CN,AR9];rfl
  ·unfold Ef Jp;simp only;rw[Ep,AQb]
 ·unfold VN WM;rw[AQe ⟨rfl,by omega,ARj _,by omega,by omega⟩,APX];have:=AW (f:=Ii (ns:Int) (List.replicate ns (0,[],()))) (λk=>((k:Int),(List.range k).map Int.ofNat)) (t:=(List.range ns).map Int.ofNat) ns (λk hk=>?_) ?_
  ·exact(congrArg (λo=>Option.bind o λc=>some ((0:Int),(List.replicate ns (0,[],()):ASB),c)) this).trans rfl
  ·unfold Ii P7;simp only;rw[Da hk,AQc,AQe (by simp;omega),A0 (n:=k+1),CN];rfl
  ·unfold Ii P7;simp only;rw[Ep,AQb]
 ·have hB:∀{i},i<ns->gB (List.replicate ns (0,[],())) i=(0,[],()):=λ{i} hi=>by simp[gB,List.getD,hi]
  refine⟨⟨λ_=>0,λa ha=>?_,λa ha=>?_,λ_ _=>rfl⟩,by simp,by simp,by simp,by simp,AP2 _,λi j hi hj=>?_,λi hi=>?_,λi hi=>?_,λi hi hn=>?_,λi hi=>?_,λi hi hr=>?_,λl hl=>?_,λi j hi hj h'=>?_,λi j i1 i2=>by omega,λl hl=>(by cases hl)⟩
  ·have ha:a<ns:=by simpa using ha
   exact⟨a,by simpa using ha,hg ha,rfl,.inl ⟨rfl,rfl⟩⟩
  ·have ha':a<ns:=by simpa using ha
   exact⟨ha,rfl,hg ha'⟩
  ·rw[hg hi,hg hj];omega
  ·rw[hg hi,APX,hg hi];omega
  ·rw[hB hi];exact⟨λh'=>by exact absurd h' (by decide),λh'=>by omega⟩
  ·omega
  ·rw[hB hi];exact⟨by decide,by decide,λx hx=>by cases hx⟩
  ·refine .inl ⟨by simp[gI,List.getD,hi],λj h1 h2=>by omega⟩
  ·cases hl
  ·have:i=j:=h';subst this;exact .refl _
def HL(d:ASw)(l:ASy)(f:Nat->Nat->Bool)(A B:ASd):Prop:=∃i,i<l.length/\∃x∈mj d l f i,x.1=A/\x.2.1=B
def AH7(d:ASw)(l:ASy)(f:Nat->Nat->Bool)(C:ASC):Prop :=
 ∃N ld fx vm ks vs BA rt,JN (HL d l f) (SL d (Ai d f) d.length).length N ld fx vm ks vs BA rt/\C=(Bu rt (SL d (Ai d f) d.length).length).map (cV rt fx vs (SL d (Ai d f) d.length).length)/\∀i,i<l.length->(l.getD i Ae.zero).2.1=true->∀x∈mj d l f i,P1 (SL d (Ai d f) d.length).length rt vs x
theorem jT{d:ASw}{l:ASy}{c:ASG}{f:Nat->Nat->Bool}(hd:AB d)(hl:∀x∈l,Gm x)(HG:CJ d l)(hs:BF d l)(hf:aj d l c f)(ec:Ci d l (c,())=some ((Ai d f,()),true)) :
    ∃X Y,Ho 0 d l ((List.range l.length).map (Ov d l)) (Ai d f) (SL d (Ai d f) d.length) (iN (SL d (Ai d f) d.length) (SL d (Ai d f) d.length).length)=some X/\JW d l (c,())=some (Y,true)/\Y.1=(Ai d f,()) /\
     ((X.2.2.2.2.2.2.2≠[]/\Y.2.2.1≠[]/\Clh (HL d l f) (SL d (Ai d f) d.length).length)\/(X.2.2.2.2.2.2.2=[]/\Y.2.2.1=[]/\X.2.2.2.2.1=SL d (Ai d f) d.length/\X.2.2.2.2.2.2.1=Y.2.1/\X.1=d/\AH7 d l f Y.2.1)):=by
 obtain⟨WQ,hc⟩:=Gc hd f;have de:=hd.1;have fp:=HG.1;have Im:=aT hd WQ d.length (AP2 _);obtain⟨ld,fx,vs,BA,e1,e2,J⟩:=dT (H:=HL d l f) (ns:=(SL d (Ai d f) d.length).length) (by omega);obtain⟨x,y,ex,ey,hR⟩:=rT (λi hi x hx=>⟨i,hi,x,hx,rfl,rfl⟩) hd hl HG hs hf.cl hf.Yt 0 0 ((SL d (Ai d f) d.length).length:Int) 0 l.length 0 _ ld fx [] [] vs BA _ (by omega) J (by omega) (by simp;omega);have e0:((0:Nat):Int)=0:=rfl;rw[e0]at ex ey;unfold Ho JW;rw[e1,APW,ec,APW];simp only[AQF,AQb];rw[WJ hd WQ hc,APW,e2,APW];simp only;rw[ex,ey,APW,APW];rcases hR with ⟨w,z,rfl,rfl,n1,n2,n3⟩|⟨gD,xC,xM,UD,Z2,ag,iC,N',rfl,rfl,J',q1,_,q3⟩
 ·simp only[ARd];exact⟨_,_,rfl,rfl,rfl,.inl ⟨n1,n2,n3⟩⟩
 ·simp only[AQW];obtain⟨r,er,hr⟩:=qG J' q1 0;obtain⟨r',er',rfl⟩:=qH J' q1 0 (Ai d f,());rw[er,er',APW,APW];exact⟨_,_,rfl,rfl,rfl,.inr ⟨rfl,rfl,rfl,hr,rfl,N',gD,xC,xM,UD,Z2,ag,iC,J',rfl,λi hi=>q3 i (AQH _) hi⟩⟩
def MI(l:ASy):ASy:=l.filter λx=>x.2.1
theorem lW{l:ASy}{k:Nat}(hk:k<l.length):MI (l.take (k+1))=if(l.getD k Ae.zero).2.1=true then MI (l.take k)++[l.getD k Ae.zero]else MI (l.take k):=by
 have e:l.getD k Ae.zero=l[k]:=by simp[List.getD,hk]
 unfold MI;rw[AQO hk,ARM,e];cases h:(l[k]).2.1 with
 |true=>rw[AQe rfl];simp[h]
 |false=>rw[AQf (by simp)];simp[h]
theorem AaP(l:ASy)(k:Nat):(MI (l.take k)).length<=k:=AQq (ARn _ _) (by rw[AQh];omega)
theorem zd{l:ASy}(hl:l.length<=1048576):Lf l=some (MI l):=by
 unfold Lf Qb;have:=AW (f:=Dz l (l.length:Int)) (λk=>((k:Int),MI (l.take k))) (t:=MI l) l.length (λk hk=>?_) ?_
 ·exact(congrArg (λo=>Option.bind o λc=>some c) this).trans rfl
 ·unfold Dz Ir Ku;simp only[APX];have h1:=AaP l k;rw[Da hk,AQc,AQe (Bg hk),A0 (n:=k+1),lW hk];cases h:(l.getD k Ae.zero).2.1 with
  |true=>rw[AQc,AQe (by rw[AQg];omega),AQe rfl];rfl
  |false=>rw[AQb,AQf (by simp)];rfl
 ·unfold Dz Ir;simp only[ARI];rw[Ep,AQb]
theorem zJ{l:ASy}(hl:l.length<=1048576):LB l=some (MI l):=by
 unfold LB SN;have:=AW (f:=ET l) (λk=>((k:Int),MI (l.take k))) (t:=MI l) l.length (λk hk=>?_) ?_
 ·exact(congrArg (λo=>Option.bind o λc=>some c) this).trans rfl
 ·unfold ET KZ NW;simp only[APX];have h1:=AaP l k;rw[Da hk,AQc,AQe (Bg hk),A0 (n:=k+1),lW hk];cases h:(l.getD k Ae.zero).2.1 with
  |true=>rw[AQc,AQe (Bg hk),AQe (by rw[AQg];omega),AQe rfl];rfl
  |false=>rw[AQb,AQf (by simp)];rfl
 ·unfold ET KZ;simp only[ARI];rw[Ep,AQb]
theorem vK{d:ASw}(hd:d.length<=1048576):TA d=some (List.replicate d.length []):=by
 unfold TA;rw[AQe ⟨rfl,by omega,ARj _,by omega,by omega⟩,APX]
theorem gN{d:ASw}(hd:d.length<=1048576):QJ d=some (List.replicate d.length []):=by
 unfold QJ VK;have:=AW (f:=Hd d) (λk=>((k:Int),List.replicate k [])) (t:=List.replicate d.length []) d.length (λk hk=>?_) ?_
 ·exact(congrArg (λo=>Option.bind o λc=>some c) this).trans rfl
 ·unfold Hd Og;simp only;rw[Da hk,AQc,AQe (by simp;omega),A0 (n:=k+1),AR9]
 ·unfold Hd Og;simp only;rw[Ep,AQb]
theorem pd{d:ASw}(hd:AB d):CQ d (List.replicate d.length [])/\Yv (List.replicate d.length []):=by
 have de:=hd.1;refine⟨⟨by simp,λv hv=>?_⟩,by simp;omega,λx hx=>?_⟩
 ·have:Dx (List.replicate d.length []) v=[]:=by unfold Dx;simp[List.getD,hv]
  rw[this];exact λi hi=>by simp at hi
 ·rw[(List.mem_replicate.1 hx).2];simp
theorem Av5{d:ASw}{l:ASy}(h:CJ d l):∀{i j:Nat},i<j->j<l.length->cj l i<cj l j:=λ{i j} vg hj=>by
 induction j with
 |zero=>omega
 |succ j ih =>
  have h1:=(h.2 (j+1) hj).2.1 (by omega);rw[AQz]at h1;by_cases e:i=j
  ·subst e;exact h1
  ·exact Int.lt_trans (ih (by omega) (by omega)) h1
theorem AgK{l:ASy}:∀(n:Nat),∃g:Nat->Nat,(∀i,i<(MI (l.take n)).length->g i<n/\g i<l.length/\(MI (l.take n)).getD i Ae.zero=l.getD (g i) Ae.zero)/\∀i j,i<j->j<(MI (l.take n)).length->g i<g j
 |0=>⟨λi=>i,λi h=>by simp[MI]at h,λi j _ h=>by simp[MI]at h⟩
 |n+1=>by
  obtain⟨g,h1,h2⟩:=AgK (l:=l) n;by_cases hn:n<l.length
  ·rw[lW hn];split
   ·refine⟨λi=>if i<(MI (l.take n)).length then g i else n,λi hi=>?_,λi j vg hj=>?_⟩
    ·rw[AP0,AQg]at hi;simp only;by_cases e:i<(MI (l.take n)).length
     ·obtain⟨a1,a2,a3⟩:=h1 i e;rw[AQe e];exact⟨by omega,a2,by rw[<-a3];simp[List.getD,AQm,e]⟩
     ·have:i=(MI (l.take n)).length:=by omega
      rw[AQf e];exact⟨by omega,hn,by subst this;simp[List.getD]⟩
    ·rw[AP0,AQg]at hj;simp only;rw[Wv];by_cases e:j<(MI (l.take n)).length
     ·rw[AQe e];exact h2 i j vg e
     ·rw[AQf e];exact(h1 i (by omega)).1
   ·exact⟨g,λi hi=>by obtain⟨a1,a2,a3⟩:=h1 i hi;exact⟨by omega,a2,a3⟩,h2⟩
  ·rw[AP6 (by omega)]at h1 h2⊢;exact⟨g,λi hi=>by obtain⟨a1,a2,a3⟩:=h1 i hi;exact⟨by omega,a2,a3⟩,h2⟩
theorem AgL{d:ASw}{l:ASy}(HG:CJ d l)(hs:BF d l):CJ d (MI l)/\BF d (MI l):=by
 obtain⟨g,h1,h2⟩:=AgK (l:=l) l.length;rw[ARI]at h1 h2;have fp:=HG.1;have VR:(MI l).length<=l.length:=ARn _ _;have eI:∀i,i<(MI l).length->cj (MI l) i=cj l (g i)/\lS (MI l) i=lS l (g i)/\lT (MI l) i=lT l (g i):=λi hi=>by
  have:=(h1 i hi).2.2;unfold cj lS lT li;rw[this];exact⟨rfl,rfl,rfl⟩
 refine⟨⟨by omega,λi hi=>?_⟩,λi hi=>?_⟩
 ·obtain⟨a1,a2,a3⟩:=eI i hi;obtain⟨b1,b2,b3,b4⟩:=HG.2 (g i) (h1 i hi).2.1;refine⟨by rw[a1];exact b1,λh0=>?_,by rw[a2];exact b3,by rw[a2,a3];exact b4⟩;rw[a1,(eI (i-1) (by omega)).1];exact Av5 HG (h2 (i-1) i (by omega) hi) (h1 i hi).2.1
 ·obtain⟨a1,a2,a3⟩:=eI i hi;have:=hs (g i) (h1 i hi).2.1;unfold ju at this⊢;rw[a2,a3];exact this
abbrev s1(x:ASg):Int:=x.1
abbrev s2(x:ASg):Int:=x.2.1
abbrev s3(x:ASg):Int:=x.2.2.1
def Bef(x y:ASg):Prop:=s1 x<s1 y\/(s1 x=s1 y/\s2 x+s3 x<=s2 y)
theorem sf(v:Nat):∀(l:ASs) (low:Int),l.Pairwise (·<·)->(∀p∈l,low<p)->(Vy v low l).Pairwise Bef/\∀x∈Vy v low l,s1 x=(v:Int)/\low<=s2 x/\0<s3 x
 |[],_,_,_=>⟨List.Pairwise.nil,λx hx=>by cases hx⟩
 |p::l,low,h,hl=>by
  obtain⟨h1,h2⟩:=List.pairwise_cons.1 h;obtain⟨i1,i2⟩:=sf v l p h2 h1;have hp:=hl p AQr;refine⟨List.pairwise_cons.2 ⟨λy hy=>?_,i1⟩,λx hx=>?_⟩
  ·obtain⟨e1,e2,_⟩:=i2 y hy;refine .inr ⟨e1.symm,?_⟩;show low+(p-low)<=s2 y;omega
  ·rcases List.mem_cons.1 hx with rfl |hx
   ·grind
   grind
theorem lG(v:Nat)(q:Int):∀(l:ASs) (low:Int),low<=q->q<GQ low l->∃x∈Vy v low l,s1 x=(v:Int)/\s2 x<=q/\q<s2 x+s3 x
 |[],low,h1,h2=>by have h2:q<low:=h2;omega
 |p::l,low,h1,h2=>by
  rw[show GQ low _=GQ p l by cases l<;>rfl]at h2;by_cases h:q<p
  ·exact⟨_,AQr,rfl,h1,by grind⟩
  ·obtain⟨x,hx,h3⟩:=lG v q l p (by omega) h2;exact⟨x,AQo _ hx,h3⟩
theorem Abx(v:Nat){M:Int}:∀(l:ASs) (low:Int),(∀p∈l,p<=M)->∀x∈Vy v low l,s2 x+s3 x<=M
 |[],_,_,x,hx=>by cases hx
 |p::l,low,h,x,hx=>by
  rcases List.mem_cons.1 hx with rfl |hx
  ·have:=h p AQr;show low+(p-low)<=M;omega
  ·exact Abx v l p (λq hq=>h q (AQo _ hq)) x hx
section
variable {d:ASw} {c:ASG}
theorem qQ(hd:AB d)(hc:CQ d c){v:Nat}(hv:v<d.length):(CK d c v).Pairwise (·<·)/\(∀p∈CK d c v,0<p)/\GQ 0 (CK d c v)=(W d v:Int):=by
 refine⟨List.pairwise_iff_getElem.2 λi j hi hj vg=>?_,λp hp=>?_,?_⟩
 ·have:=cT hd hc hv vg hj;simpa [Kh,hi,hj]using this
 ·obtain⟨i,hi,rfl⟩:=AQZ hp;have:=(cS hd hc hv hi).1;simp[Kh,hi]at this;omega
 ·unfold GQ CK;simp;exact(MF hd hv).1
theorem Aaj(hd:AB d)(hc:CQ d c):∀n,n<=d.length->(SL d c n).Pairwise Bef/\∀x∈SL d c n,s1 x<(n:Int)/\0<=s2 x/\0<s3 x
 |0,_=>⟨List.Pairwise.nil,λx hx=>by cases hx⟩
 |n+1,hn=>by
  obtain⟨h1,h2⟩:=Aaj hd hc n (by omega);obtain⟨e1,e2,_⟩:=qQ hd hc (v:=n) (by omega);obtain⟨r1,r2⟩:=sf n (CK d c n) 0 e1 e2;rw[qm];refine⟨List.pairwise_append.2 ⟨h1,r1,λx hx y hy=>.inl ?_⟩,λx hx=>?_⟩
  ·grind
  grind
def InS(L:ASx)(m v x w:Nat):Prop:=m<L.length/\nz L m=((v:Int),(x:Int),(w:Int),())
theorem AGF(hd:AB d)(hc:CQ d c){v a:Nat}(hv:v<d.length)(ha:a<W d v):∃m x w j,InS (SL d c d.length) m v x w/\j<w/\a=x+j:=by
 obtain⟨e1,e2,e3⟩:=qQ hd hc hv;obtain⟨y,hy,h1,h2,h3⟩:=lG v a (CK d c v) 0 (by omega) (by omega);have hm:y∈SL d c _:=List.mem_flatMap.2 ⟨v,List.mem_range.2 hv,hy⟩;obtain⟨_,g1,g2⟩:=(Aaj hd hc _ (AP2 _)).2 y hm;obtain⟨m,Ut,S7⟩:=AQZ hm;obtain⟨y1,y2,y3,y4⟩:=y;simp only[s1,s2,s3]at h1 h2 h3 g1 g2;refine⟨m,y2.toNat,y3.toNat,a-y2.toNat,⟨Ut,?_⟩,by omega,by omega⟩;have h5:nz (SL d c d.length) m=(SL d c _)[m]:=by simp[nz,Ut]
 grind
theorem AbB(hd:AB d)(hc:CQ d c){m m' v x w x' w' j j':Nat}(h:InS (SL d c d.length) m v x w)(h':InS (SL d c d.length) m' v x' w')(hj:j<w)(R8:j'<w')(e:x+j=x'+j'):m=m':=by
 have hp:=List.pairwise_iff_getElem.1 (Aaj hd hc d.length (AP2 _)).1;have g:∀{m v x w},InS (SL d c d.length) m v x w->(SL d c d.length)[m]?=some ((v:Int),(x:Int),(w:Int),()):=λ{m v x w} h=>by
  rw[<-h.2];simp[nz,h.1]
 have g1:=g h;have g2:=g h';have key:∀{m m' x w x' w' j j':Nat},(SL d c d.length)[m]?=some ((v:Int),(x:Int),(w:Int),())->(SL d c d.length)[m']?=some ((v:Int),(x':Int),(w':Int),())->m<m'->j<w->j'<w'->x+j≠x'+j':=λ{m m' x w x' w' j j'} a b Bp hj R8 e=>by
  obtain⟨a1,a2⟩:=List.getElem?_eq_some_iff.1 a;obtain⟨b1,b2⟩:=List.getElem?_eq_some_iff.1 b;have:=hp m m' a1 b1 Bp;rw[a2,b2]at this;rcases this with h |⟨_,h⟩
  ·grind
  ·grind
 grind
theorem AGG(hd:AB d)(hc:CQ d c){m:Nat}(hm:m<(SL d c d.length).length):∃v x w:Nat,InS (SL d c d.length) m v x w/\v<d.length/\0<w:=by
 have hx:nz _ m∈SL d c _:=AL hm;obtain⟨g0,g1,g2⟩:=(Aaj hd hc _ (AP2 _)).2 _ hx;obtain⟨v,j,hv,_,e⟩:=ql.1 hx;have e1:(nz (SL d c d.length) m).1=v:=by rw[e]
 generalize hs:nz _ m=s at *;obtain⟨y1,y2,y3,y4⟩:=s;simp only[s2,s3]at g1 g2 e1;exact⟨v,y2.toNat,y3.toNat,⟨hm,by grind⟩,hv,by omega⟩
theorem Aof(hd:AB d)(hc:CQ d c){m v x w:Nat}(h:InS (SL d c d.length) m v x w):v<d.length/\x+w<=W d v:=by
 have hx:nz _ m∈SL d c _:=AL h.1;obtain⟨u,hu,hy⟩:=List.mem_flatMap.1 hx;have hu:=List.mem_range.1 hu;obtain⟨e1,e2,e3⟩:=qQ hd hc hu;have g1:=((sf u _ 0 e1 e2).2 _ hy).1;have hb:∀p∈CK d c u,p<=(W d u):=λp hp=>by
  obtain⟨k1,_,_⟩:=MF hd hu;rcases List.mem_append.1 hp with hp |hp
  ·obtain⟨i,hi,rfl⟩:=AQZ hp;have:=(hc.2 u hu i hi).2.1;simp[Kh,hi]at this;omega
  ·grind
 have g2:=Abx u _ 0 hb _ hy;rw[h.2]at g1 g2
 grind
end
inductive BE (E:Bt->Bt->Prop):Bt->Bt->Prop
 |refl (a:Bt):BE E a a
 |rj {a b c:Bt}:BE E a b->E b c->BE E a c
 |bwd {a b c:Bt}:BE E a b->E c b->BE E a c
theorem BE.trans{E:Bt->Bt->Prop}{a b c:Bt}(h:BE E a b)(k:BE E b c):BE E a c:=by
 induction k with
 |refl=>grind
 |rj _ e ih=>exact .rj ih e
 |bwd _ e ih=>exact .bwd ih e
theorem BE.symm{E:Bt->Bt->Prop}{a b:Bt}(h:BE E a b):BE E b a:=by
 induction h with
 |refl=>exact .refl _
 |rj _ e ih=>exact(BE.bwd (.refl _) e).trans ih
 |bwd _ e ih=>exact(BE.rj (.refl _) e).trans ih
def EL(d:ASw)(l:ASy)(x y:Bt):Prop:=∃i,i<l.length/\∃p,p<(b1 d l i).length/\x=QO (b1 d l i) p/\y=QO (b2 d l i) p
def NBt(L:ASx)(vs:ASB)(y w j:Nat)(t:Bt):Prop:=j<w/\((∃v x,InS L y v x w/\t=.va v (x+j))\/(L.length<=y/\∃bs:ASt,gB vs y=Zc bs/\bs.length=w/\w<=4096/\t=.co (bs.getD j false)))
theorem jI{bs:ASt}{k:Nat}(h:k<bs.length):bt (Zc bs).2.1 k=bs.getD k false:=qz h
theorem dx{a b:ASt}(h:Zc a=Zc b):a=b:=by
 have hl:a.length=(b.length:Int):=congrArg (λx =>x.1) h;refine AQV (by omega) λk h1 h2=>?_;have e1:=jI h1;have e2:=jI h2;rw[h,e2]at e1;simpa [h1,h2]using e1.symm
theorem NBt.uniq{L:ASx}{vs:ASB}{y w w' j j':Nat}{t t':Bt}(h:NBt L vs y w j t)(h':NBt L vs y w' j' t'):w=w'/\(j=j'->t=t'):=by
 rcases h.2 with ⟨v,x,⟨a1,a2⟩,rfl⟩|⟨a1,bs,a2,rfl,_,rfl⟩<;>rcases h'.2 with ⟨v',x',⟨b1,b2⟩,rfl⟩|⟨b1,Gp,b2,rfl,_,rfl⟩
 ·grind
 ·omega
 ·omega
 ·have:=dx (a2.symm.trans b2)
  grind
section
variable {d:ASw} {c:ASG}
theorem rk{B:ATB Bt}{a b i k:Nat}(S:hU d c B a b i k)(hB:Bo d B){vs:ASB}{n:Nat}(hn:Nd (SL d c d.length).length vs (Oq (SL d c d.length) B a b) n){j:Nat}(hj:j<b-a):NBt (SL d c d.length) vs n (b-a) j (QO B (a+j)):=by
 have hk:=S.hk;have QP:=S.le;have hBl:=hB.2.1;have e0:=jf S;have e1:QO B (a+j)=((Ay B).getD i (.co [])).bits.getD (k+j) (.co false):=by
  have:=congrArg (λl =>l[j]?) (pI S);simp only[AQT,ARZ,hj,AQJ]at this;show B[a+j]?.getD _=(((Ay B).getD i _).bits)[k+j]?.getD _;rw[this]
 refine⟨hj,?_⟩;cases hs:(Ay B).getD i _ with
 |co x =>
  rw[hs]at e0 e1 hk;simp only[Sg.w]at hk;rw[show(Sg.co x).bits=x.map _ from rfl,Fj _ (y:=false) (by omega)]at e0 e1;have hc:=qK S hs;unfold Oq at hn;rw[e0]at hn;rcases hn with ⟨h,_⟩|⟨_,h1,_,h2⟩
  ·grind
  grind
 |va v l n' =>
  obtain⟨m,hm,Ut,S7⟩:=S.va v l n' hs;rw[hs]at e0 e1 hk;simp only[Sg.w]at hk;rw[show(Sg.va v l n').bits=(List.range n').map _ from rfl,I2 (by omega)]at e0 e1;unfold Oq at hn;rw[e0]at hn;simp only at hn;rw[hm]at hn;have kF:=(V8 hm).2;have hnm:n=m:=by
   rcases hn with ⟨_,h⟩|⟨h,_⟩
   ·have h:n=(m:Int):=h;omega
   ·have h:0>(m:Int):=h;omega
  subst hnm;refine .inl ⟨v,l+k,⟨Ut,?_⟩,by grind⟩;injection kF with h1 h2
  grind
end
section
variable {B1 B2:ATB Bt} {h:Nat->Nat->Bool}
theorem AaN{L:ASx}{p:Nat}(h1:1<=p)(hp:iX B1 B2 h p=true):∀n,p<n->n<=B1.length->pcV L B1 B2 (Ou 0 (eL B1 B2 h p)) p∈PP L B1 B2 0 (eL B1 B2 h n)
 |0,h2,_=>by omega
 |n+1,h2,h3=>by
  rw[cQ n (by omega)];by_cases e:p=n
  ·subst e;rw[AQe hp,Uz]
   grind
  ·have:=AaN (L:=L) h1 hp n (by omega) (by omega);split
   ·rw[Uz];exact AQu _ this
   ·grind
theorem vW(B1 B2:ATB Bt)(h:Nat->Nat->Bool)(n:Nat):∀m q,q+m=n->0<m->∃p,q<p/\p<=n/\(p=n\/iX B1 B2 h p=true)/\∀r,q<r->r<p->iX B1 B2 h r=false
 |0,q,_,hm=>by omega
 |m+1,q,e,_=>by
  by_cases e1:m=0
  ·exact⟨q+1,by omega,by omega,.inl (by omega),λr h1 h2=>by omega⟩
  ·by_cases e2:iX B1 B2 h (q+1)=true
   ·grind
   ·obtain⟨p,h1,h2,h3,h4⟩:=vW B1 B2 h n m (q+1) (by omega) (by omega)
    grind
theorem cover{L:ASx}{q:Nat}(hq:q<B1.length):∃a b,tE B1 B2 h a b/\a<=q/\q<b/\pcV L B1 B2 a b∈PP L B1 B2 0 (eL B1 B2 h B1.length++[B1.length]):=by
 obtain⟨p,h1,h2,h3,h4⟩:=vW B1 B2 h B1.length (B1.length-q) q (by omega) (by omega);have g:=bu     (by omega) h2 h3;refine⟨_,p,g,?_,h1,?_⟩
 ·rcases AP7 q _ with Bp |QP
  ·have:=h4 _ Bp g.lt;rcases g.fr with e |e
   ·omega
   ·grind
  ·grind
 ·rw[Uz];rcases Nat.lt_or_eq_of_le h2 with h5 |h5
  ·exact AQu _ (AaN (by omega) (h3.resolve_left (by omega)) _ h5 (AP2 _))
  grind
end
section
variable {d:ASw} {l:ASy} {f:Nat->Nat->Bool}
theorem qk(hd:AB d)(hl:∀x∈l,Gm x)(HG:CJ d l)(hs:BF d l){i:Nat}(hi:i<l.length){x:ASn}(hx:x∈mj d l f i):∃a b,tE (b1 d l i) (b2 d l i) f a b/\x=pcV (SL d (Ai d f) d.length) (b1 d l i) (b2 d l i) a b:=by
 have hn:=(Rk hd hl HG hs hi).1.1;unfold mj at hx;rw[Uz]at hx;rcases List.mem_append.1 hx with hx |hx
 ·exact qh (AP2 _) x hx
 ·rw[AQn]at hx;exact⟨_,_,bu hn (AP2 _) (.inl rfl),hx⟩
theorem rl(hd:AB d)(hl:∀x∈l,Gm x)(HG:CJ d l)(hs:BF d l)(Il:B6 d l f)(ht:∀v p,f v p=true->v<d.length/\1<=p/\p<W d v){i:Nat}(hi:i<l.length){a b:Nat}(g:tE (b1 d l i) (b2 d l i) f a b){vs:ASB}{n1 n2:Nat}
    (h1:Nd (SL d (Ai d f) d.length).length vs (Oq (SL d (Ai d f) d.length) (b1 d l i) a b) n1) (h2:Nd (SL d (Ai d f) d.length).length vs (Oq (SL d (Ai d f) d.length) (b2 d l i) a b) n2) {j:Nat} (hj:j<b-a) :
    ∃t t',NBt (SL d (Ai d f) d.length) vs n1 (b-a) j t/\NBt (SL d (Ai d f) d.length) vs n2 (b-a) j t'/\t=QO (b1 d l i) (a+j)/\t'=QO (b2 d l i) (a+j):=by
 have hC0:=Nm ht;obtain⟨WQ,hc⟩:=Gc hd f;obtain⟨s1,s2,s3,_⟩:=Rk hd hl HG hs hi;have BO:eF d (b1 d l i) (b2 d l i) (C0 (Ai d f)):=by rw[hC0];exact Il i hi
 have g':tE (b1 d l i) (b2 d l i) (C0 (Ai d f)) a b:=by grind
 obtain⟨⟨i1,k1,S1⟩,i2,k2,S2⟩:=W7 hd WQ s1 s2 s3 BO g';exact⟨_,_,rk S1 s1 h1 hj,rk S2 s2 h2 hj,rfl,rfl⟩
end
def CV(fx:ASs)(vs:ASB)(rt:Nat->Nat)(y j:Nat):Bool⊕ASZ:=if 0<=gI fx (rt y)then .inl (bt (gB vs (gI fx (rt y)).toNat).2.1 j)else .inr (rt y,j)
def yn(L:ASx)(fx:ASs)(vs:ASB)(rt:Nat->Nat)(t:Bt)(o:Bool⊕ASZ):Prop:=(∃b,t=.co b/\o=.inl b)\/∃y v x w j,InS L y v x w/\j<w/\t=.va v (x+j)/\o=CV fx vs rt y j
section
variable {d:ASw} {l:ASy} {f:Nat->Nat->Bool} {N:Nat} {ld fx:ASs} {vm:ATB ASL} {ks:ASx} {vs:ASB} {BA:ASs} {rt:Nat->Nat}
theorem yn.uniq(hd:AB d){t:Bt}{o o':Bool⊕ASZ}(h:yn (SL d (Ai d f) d.length) fx vs rt t o)(h':yn (SL d (Ai d f) d.length) fx vs rt t o'):o=o':=by
 obtain⟨WQ,hc⟩:=Gc hd f;rcases h with ⟨b,rfl,rfl⟩|⟨y,v,x,w,j,h1,h2,rfl,rfl⟩<;>rcases h' with ⟨b',e,rfl⟩|⟨y',v',x',w',j',uX,h2',e,rfl⟩
 ·injection e with e;rw[e]
 ·cases e
 ·cases e
 ·injection e with e1 e2;subst e1;have:=AbB hd WQ h1 uX h2 h2' e2;subst this;have hx:=h1.2.symm.trans uX.2;injection hx with _ hx;injection hx with hx _;have hx:(x:Int)=x':=hx;rw[show j=j' by omega]
theorem lj(J:JN (HL d l f) (SL d (Ai d f) d.length).length N ld fx vm ks vs BA rt){y w j:Nat}{t:Bt}(h:NBt (SL d (Ai d f) d.length) vs y w j t)(hy:y<N):yn (SL d (Ai d f) d.length) fx vs rt t (CV fx vs rt y j):=by
 obtain⟨hj,⟨v,x,hi,rfl⟩|⟨hn,bs,e,hl,hw,rfl⟩⟩:=h
 ·exact .inr ⟨y,v,x,w,j,hi,hj,rfl,rfl⟩
 ·refine .inl ⟨_,rfl,?_⟩;obtain⟨dp,hf⟩:=J.fo;have VS:=J.l1;have hr:=hf.Yt y (by omega);rcases J.fx_ (rt y) (by omega) hr.2.1 with ⟨_,h⟩|⟨k,h1,h2,h3,h4,_⟩
  ·exact(h y hn hy rfl).elim
  ·unfold CV;rw[h1,Wv,APX,J.eqv k y h2 h3 hn hy h4,e,jI (by omega)]
theorem Aob{ns:Nat}{A:ASd}{i:Nat}(h:Nd ns vs A i)(ha:ai ns A)(hn:ns<=vs.length):i<vs.length:=by
 rcases h with ⟨h1,h2⟩|⟨_,_,h,_⟩
 ·rcases ha with ⟨_,h3⟩|⟨h3,_⟩
  ·have h3:(ns:Int)>A.1:=h3;have h2:(i:Int)=A.1:=h2;omega
  ·have h3:(0:Int)>A.1:=h3;have h1:(0:Int)<=A.1:=h1;omega
 ·exact h
theorem uH(hd:AB d)(hl:∀x∈l,Gm x)(HG:CJ d l)(hs:BF d l)(Il:B6 d l f)(ht:∀v p,f v p=true->v<d.length/\1<=p/\p<W d v)
    (J:JN (HL d l f) (SL d (Ai d f) d.length).length N ld fx vm ks vs BA rt) (hP:∀i,i<l.length->∀x∈mj d l f i,P1 (SL d (Ai d f) d.length).length rt vs x) {x y:Bt} (h:EL d l x y):∃o,yn (SL d (Ai d f) d.length) fx vs rt x o/\yn (SL d (Ai d f) d.length) fx vs rt y o:=by
 obtain⟨i,hi,p,hp,rfl,rfl⟩:=h;obtain⟨a,b,g,h1,h2,h3⟩:=cover (B2:=b2 d l i) (h:=f) (L:=SL d (Ai d f) d.length) hp;obtain⟨n1,n2,q1,q2,q3⟩:=hP i hi _ h3;obtain⟨a1,a2⟩:=(lz hd hl HG hs Il ht hi).2 _ h3;have hnn:=J.nn;have hl3:=J.l3;have l1:=Aob q1 a1 (by omega);have l2:=Aob q2 a2 (by omega);obtain⟨t,t',u1,u2,u3,u4⟩:=rl hd hl HG hs Il ht hi g q1 q2 (j:=p-a) (by omega);rw[show a+(p-a)=p by omega]at u3 u4;rw[<-u3,<-u4];refine⟨_,lj J u1 (by omega),?_⟩;have:=lj J u2 (by omega);unfold CV at this⊢;rw[q3];exact this
theorem qv(hd:AB d)(hl:∀x∈l,Gm x)(HG:CJ d l)(hs:BF d l)(Il:B6 d l f)(ht:∀v p,f v p=true->v<d.length/\1<=p/\p<W d v)
    (J:JN (HL d l f) (SL d (Ai d f) d.length).length N ld fx vm ks vs BA rt) (hP:∀i,i<l.length->∀x∈mj d l f i,P1 (SL d (Ai d f) d.length).length rt vs x) {x y:Bt} (h:BE (EL d l) x y) {o:Bool⊕ASZ} (hx:yn (SL d (Ai d f) d.length) fx vs rt x o):yn (SL d (Ai d f) d.length) fx vs rt y o:=by
 induction h with
 |refl=>exact hx
 |rj _ e ih =>
  obtain⟨o',h1,h2⟩:=uH hd hl HG hs Il ht J hP e;rw[ih.uniq hd h1];exact h2
 |bwd _ e ih =>
  obtain⟨o',h1,h2⟩:=uH hd hl HG hs Il ht J hP e;rw[ih.uniq hd h2];exact h1
theorem oR(hd:AB d)(hl:∀x∈l,Gm x)(HG:CJ d l)(hs:BF d l)(Il:B6 d l f)(ht:∀v p,f v p=true->v<d.length/\1<=p/\p<W d v)
    (J:JN (HL d l f) (SL d (Ai d f) d.length).length N ld fx vm ks vs BA rt) {k:ASg} (hk:k∈ks):∃n1 n2 w:Nat,k.1=(n1:Int)/\k.2.1=(n2:Int)/\0<w/\∀j,j<w->∃t t',NBt (SL d (Ai d f) d.length) vs n1 w j t/\NBt (SL d (Ai d f) d.length) vs n2 w j t'/\EL d l t t':=by
 obtain⟨A,B,n1,n2,⟨i,hi,x,hx,rfl,rfl⟩,h2,h3,h4,h5⟩:=J.lkp k hk;obtain⟨a,b,g,rfl⟩:=qk hd hl HG hs hi hx;have Bp:=g.lt;have QP:=g.le;refine⟨n1,n2,b-a,h4,h5,by omega,λj hj=>?_⟩;obtain⟨t,t',u1,u2,u3,u4⟩:=rl hd hl HG hs Il ht hi g h2 h3 hj;exact⟨t,t',u1,u2,i,hi,a+j,by omega,u3,u4⟩
theorem Xl(hd:AB d)(hl:∀x∈l,Gm x)(HG:CJ d l)(hs:BF d l)(Il:B6 d l f)(ht:∀v p,f v p=true->v<d.length/\1<=p/\p<W d v)
    (J:JN (HL d l f) (SL d (Ai d f) d.length).length N ld fx vm ks vs BA rt) {m w j:Nat} {t:Bt} (h0:NBt (SL d (Ai d f) d.length) vs m w j t) {y:Int} (h:Cn ks (m:Int) y):∃n:Nat,y=(n:Int)/\∃t',NBt (SL d (Ai d f) d.length) vs n w j t'/\BE (EL d l) t t':=by
 induction h with
 |refl=>exact⟨m,rfl,t,h0,.refl _⟩
 |rj hk _ ih =>
  obtain⟨n,e,t',h1,h2⟩:=ih;obtain⟨n1,n2,w',e1,e2,h3,h4⟩:=oR hd hl HG hs Il ht J hk;have hn:(n1:Int)=(n:Int):=e1.symm.trans e;have hn:n1=n:=by omega
  subst hn;obtain⟨s,s',g1,_⟩:=h4 0 h3;have hw:=(h1.uniq g1).1;subst hw;obtain⟨s,s',g1,g2,g3⟩:=h4 j h1.1;have:=(h1.uniq g1).2 rfl;subst this;exact⟨n2,e2,s',g2,.rj h2 g3⟩
 |bwd hk _ ih =>
  obtain⟨n,e,t',h1,h2⟩:=ih;obtain⟨n1,n2,w',e1,e2,h3,h4⟩:=oR hd hl HG hs Il ht J hk;have hn:(n2:Int)=(n:Int):=e2.symm.trans e;have hn:n2=n:=by omega
  subst hn;obtain⟨s,s',_,g1,_⟩:=h4 0 h3;have hw:=(h1.uniq g1).1;subst hw;obtain⟨s,s',g2,g1,g3⟩:=h4 j h1.1;have:=(h1.uniq g1).2 rfl;subst this;exact⟨n1,e1,s,g2,.bwd h2 g3⟩
theorem Avd(hd:AB d)(hl:∀x∈l,Gm x)(HG:CJ d l)(hs:BF d l)(Il:B6 d l f)(ht:∀v p,f v p=true->v<d.length/\1<=p/\p<W d v)
    (h:Clh (HL d l f) (SL d (Ai d f) d.length).length):BE (EL d l) (.co false) (.co true):=by
 obtain⟨N,ld,fx,vm,ks,vs,BA,rt,J,A,B,⟨i,hi,x,hx,rfl,rfl⟩,a,b,p,q,h1,h2,h3,h4,h5,h6,h7⟩:=h;obtain⟨s,e,g,rfl⟩:=qk hd hl HG hs hi hx;have Bp:=g.lt;have QP:=g.le;have key:∀j,j<e-s->∃bp bq:ASt,gB vs p=Zc bp/\gB vs q=Zc bq/\bp.length=e-s/\bq.length=e-s/\BE (EL d l) (.co (bp.getD j false)) (.co (bq.getD j false)):=λj hj=>by
  obtain⟨t,t',u1,u2,u3,u4⟩:=rl hd hl HG hs Il ht hi g h1 h2 hj;obtain⟨n,en,r,r1,r2⟩:=Xl hd hl HG hs Il ht J u1 h3;have:n=p:=by omega
  subst this;obtain⟨n',en',r',r1',r2'⟩:=Xl hd hl HG hs Il ht J u2 h4;have:n'=q:=by omega
  subst this;rcases r1.2 with ⟨_,_,h,_⟩|⟨_,bp,e1,e2,_,rfl⟩
  ·have:=h.1;omega
  ·rcases r1'.2 with ⟨_,_,h,_⟩|⟨_,bq,e1',e2',_,rfl⟩
   ·have:=h.1;omega
   ·exact⟨bp,bq,e1,e1',e2,e2',r2.symm.trans ((BE.rj (.refl _) ⟨i,hi,s+j,by omega,u3,u4⟩).trans r2')⟩
 obtain⟨bp,bq,e1,e2,l1,l2,_⟩:=key 0 (by omega);have Ke:bp≠bq:=λe=>h7 (by rw[e1,e2,e]);have:∃j,j<e-s/\bp.getD j false≠bq.getD j false:=Classical.byContradiction λhn=>Ke (AQV (by omega) λj x1 x2=>Classical.byContradiction λhx=>hn ⟨j,by omega,by simpa [List.getD,x1,x2]using hx⟩);obtain⟨j,hj,hb⟩:=this;obtain⟨bp',bq',e1',e2',_,_,tj⟩:=key j hj;rw[<-dx (e1.symm.trans e1'),<-dx (e2.symm.trans e2')]at tj;generalize bp.getD j false=y at hb tj;generalize bq.getD j false=z at hb tj;cases y<;>cases z<;>first |exact(hb rfl).elim |exact tj |exact tj.symm
theorem sem(hd:AB d)(hl:∀x∈l,Gm x)(HG:CJ d l)(hs:BF d l)(Il:B6 d l f)(ht:∀v p,f v p=true->v<d.length/\1<=p/\p<W d v)
    (J:JN (HL d l f) (SL d (Ai d f) d.length).length N ld fx vm ks vs BA rt) (hP:∀i,i<l.length->∀x∈mj d l f i,P1 (SL d (Ai d f) d.length).length rt vs x) :
    ¬BE (EL d l) (.co false) (.co true)/\∀{m v x w j:Nat},InS (SL d (Ai d f) d.length) m v x w->j<w->∀b,CV fx vs rt m j=.inl b↔BE (EL d l) (.va v (x+j)) (.co b):=by
 refine⟨λh=>?_,λ{m v x w j} hi hj b=>⟨λh=>?_,λh=>?_⟩⟩
 ·have:=qv hd hl HG hs Il ht J hP h (o:=.inl false) (.inl ⟨_,rfl,rfl⟩);have:=this.uniq hd (o':=.inl true) (.inl ⟨_,rfl,rfl⟩);cases this
 ·obtain⟨dp,hf⟩:=J.fo;have VS:=J.l1;have hnn:=J.nn;have hm:m<N:=by have:=hi.1;omega
  have hr:=hf.Yt m (by omega);have h':=h;unfold CV at h;split at h
  ·rename_i h0;rcases J.fx_ (rt m) (by omega) hr.2.1 with ⟨h1,_⟩|⟨k,h1,h2,h3,h4,_⟩
   ·omega
   ·have h0:NBt (SL d (Ai d f) d.length) vs m w j (.va v (x+j)):=⟨hj,.inl ⟨v,x,hi,rfl⟩⟩;obtain⟨n,e,t',g1,g2⟩:=Xl hd hl HG hs Il ht J h0 (J.cn m k hm h3 h4.symm);have:n=k:=by omega
    subst this;have v1:=qv hd hl HG hs Il ht J hP g2 (lj J h0 hm);rw[h']at v1;rcases g1.2 with ⟨_,_,h5,_⟩|⟨_,bs,_,_,_,rfl⟩
    ·have:=h5.1;omega
    ·have:=v1.uniq hd (o':=.inl _) (.inl ⟨_,rfl,rfl⟩);injection this with this;rw[this];exact g2
  ·cases h
 ·have v1:=qv hd hl HG hs Il ht J hP h (o:=CV fx vs rt m j) (.inr ⟨m,v,x,w,j,hi,hj,rfl,rfl⟩);exact v1.uniq hd (.inl ⟨b,rfl,rfl⟩)
theorem Awx(hd:AB d)(hl:∀x∈l,Gm x)(HG:CJ d l)(hs:BF d l)(Il:B6 d l f)(ht:∀v p,f v p=true->v<d.length/\1<=p/\p<W d v)
    (J:JN (HL d l f) (SL d (Ai d f) d.length).length N ld fx vm ks vs BA rt) (hP:∀i,i<l.length->∀x∈mj d l f i,P1 (SL d (Ai d f) d.length).length rt vs x) {s t:Bt} {o:Bool⊕ASZ} (h:yn (SL d (Ai d f) d.length) fx vs rt s o) (h':yn (SL d (Ai d f) d.length) fx vs rt t o):BE (EL d l) s t:=by
 obtain⟨_,sm⟩:=sem hd hl HG hs Il ht J hP;have VS:=J.l1;have hnn:=J.nn;rcases h with ⟨b,rfl,rfl⟩|⟨y,v,x,w,j,h1,h2,rfl,rfl⟩
 ·rcases h' with ⟨b',rfl,e⟩|⟨y',v',x',w',j',uX,h2',rfl,e⟩
  ·injection e with e;rw[e];exact .refl _
  ·exact((sm uX h2' b).1 e.symm).symm
 ·rcases h' with ⟨b',rfl,e⟩|⟨y',v',x',w',j',uX,h2',rfl,e⟩
  ·exact(sm h1 h2 b').1 e
  ·cases hc:CV fx vs rt y j with
   |inl b=>exact((sm h1 h2 b).1 hc).trans ((sm uX h2' b).1 (e▸hc)).symm
   |inr r =>
    have e':=e;unfold CV at e;have n1:¬0<=gI fx (rt y):=λh=>by unfold CV at hc;rw[AQe h]at hc;cases hc
    have n2:¬0<=gI fx (rt y'):=λh=>by rw[e']at hc;unfold CV at hc;rw[AQe h]at hc;cases hc
    rw[AQf n1,AQf n2]at e;injection e with e;injection e with e1 e2;subst e2;have y1:=h1.1;have y2:=uX.1;obtain⟨n,en,t',g1,g2⟩:=Xl hd hl HG hs Il ht J (m:=y) (w:=w) (j:=j) (t:=.va v (x+j)) ⟨h2,.inl ⟨v,x,h1,rfl⟩⟩ (J.cn y y' (by omega) (by omega) e1);have:n=y':=by omega
    subst this;have h0:NBt (SL d (Ai d f) d.length) vs n w' j (.va v' (x'+j)):=⟨h2',.inl ⟨v',x',uX,rfl⟩⟩;rw[<-(g1.uniq h0).2 rfl];exact g2
theorem AbK(hd:AB d)(hl:∀x∈l,Gm x)(HG:CJ d l)(hs:BF d l)(Il:B6 d l f)(ht:∀v p,f v p=true->v<d.length/\1<=p/\p<W d v)
    (J:JN (HL d l f) (SL d (Ai d f) d.length).length N ld fx vm ks vs BA rt) (hP:∀i,i<l.length->∀x∈mj d l f i,P1 (SL d (Ai d f) d.length).length rt vs x) {s t:Bt} {o o':Bool⊕ASZ} (h:yn (SL d (Ai d f) d.length) fx vs rt s o) (h':yn (SL d (Ai d f) d.length) fx vs rt t o'):o=o'↔BE (EL d l) s t :=
 ⟨λe=>Awx hd hl HG hs Il ht J hP h (e▸h'),λe=>(qv hd hl HG hs Il ht J hP e h).uniq hd h'⟩
theorem uP(hd:AB d)(hl:∀x∈l,Gm x)(HG:CJ d l)(hs:BF d l)(Il:B6 d l f)(ht:∀v p,f v p=true->v<d.length/\1<=p/\p<W d v)
    (J:JN (HL d l f) (SL d (Ai d f) d.length).length N ld fx vm ks vs BA rt) {m v x w:Nat} (hi:InS (SL d (Ai d f) d.length) m v x w) (hw:0<w) (h:0<=gI fx (rt m)):∃bs:ASt,gB vs (gI fx (rt m)).toNat=Zc bs/\bs.length=w/\w<=4096:=by
 obtain⟨dp,hf⟩:=J.fo;have VS:=J.l1;have hnn:=J.nn;have hm:m<N:=by have:=hi.1;omega
 have hr:=hf.Yt m (by omega);rcases J.fx_ (rt m) (by omega) hr.2.1 with ⟨h1,_⟩|⟨k,h1,h2,h3,h4,_⟩
 ·omega
 ·obtain⟨n,e,t',g1,_⟩:=Xl hd hl HG hs Il ht J (m:=m) (w:=w) (j:=0) (t:=.va v (x+0)) ⟨hw,.inl ⟨v,x,hi,rfl⟩⟩ (J.cn m k hm h3 h4.symm);have:n=k:=by omega
  subst this;rcases g1.2 with ⟨_,_,h5,_⟩|⟨_,bs,h5,h6,h7,_⟩
  ·have:=h5.1;omega
  ·exact⟨bs,by rw[h1,APX];exact h5,h6,h7⟩
end
theorem zb{bs:ASt}{k:Nat}(h:k<bs.length)(hl:bs.length<=8192):O1 (Zc bs) (k:Int)=some (bI (bs.getD k false)):=by
 have hw:=G5 (low (λi=>bs.getD i false) bs.length) (nw bs.length);have hlen:=HT (low (λi=>bs.getD i false) bs.length) (nw bs.length);unfold O1;rw[fS (by omega),X3,AQe ⟨by omega,by show((k/64:Nat):Int)<((k8 (low (λi=>bs.getD i false) bs.length) (nw bs.length)).length:Int);rw[hlen];unfold nw;omega⟩,P9,APX];show some (ib .u64 (SG .u64 ((k8 (low (λi=>bs.getD i false) bs.length) (nw bs.length)).getD (k/64) 0) ((k%64:Nat):Int)) 1)=_;rw[oq (dX (hw.getD _) rfl (by omega)),b6 (hw.getD _) rfl (by omega),AQs];show some (bI (bt (k8 (low (λi=>bs.getD i false) bs.length) (nw bs.length)) k))=_;rw[qz h]
abbrev AS:Type:=ASK
abbrev aV(all:AS)(v:Nat):ASE:=all.getD v ATw.zero
abbrev zS:ASo:=Ty.zero Ap
abbrev sV(all:AS)(v a:Nat):ASo:=(aV all v).getD a zS
theorem Vq{rt:Nat->Nat}{a:Nat}:∀{n:Nat} {y:Int},y∈Db rt n a↔∃j:Nat,j<n/\y=(j:Int)/\rt j=rt a
 |0,y=>⟨λh=>by simp[Db]at h,λ⟨j,h,_⟩=>by omega⟩
 |n+1,y=>by
  rw[Db];constructor
  ·intro h;split at h
   ·rename_i e;rcases List.mem_append.1 h with h |h
    ·obtain⟨j,h1,h2⟩:=Vq.1 h;exact⟨j,by omega,h2⟩
    ·rw[AQn]at h;exact⟨n,by omega,h,e⟩
   ·obtain⟨j,h1,h2⟩:=Vq.1 h;exact⟨j,by omega,h2⟩
  ·rintro⟨j,h1,h2,h3⟩
   by_cases e:j=n
   ·subst e;rw[AQe h3];exact AQv _ (List.mem_singleton.2 h2)
   ·have:=(Vq (n:=n)).2 ⟨j,by omega,h2,h3⟩;split
    ·exact AQu _ this
    ·exact this
section
variable {d:ASw} {c:ASG} {P:Nat->Nat->ASo->Prop}
structure Gd (d:ASw) (L:ASx) (P:Nat->Nat->ASo->Prop) (D:Nat->Nat->Prop) (all:AS):Prop where
 len:all.length=d.length
 row:∀v,v<d.length->(aV all v).length=W d v
 ok:∀{m v x w j:Nat},InS L m v x w->j<w->D m j->P m j (sV all v (x+j))
theorem Gd.mono{L:ASx}{D D':Nat->Nat->Prop}{all:AS}(h:Gd d L P D all)(hD:∀m j,D' m j->D m j):Gd d L P D' all:=⟨h.len,h.row,λa b e=>h.ok a b (hD _ _ e)⟩
theorem Gd.put(hd:AB d)(hc:CQ d c){D:Nat->Nat->Prop}{all:AS}(h:Gd d (SL d c d.length) P D all){m v x w j:Nat}(hi:InS (SL d c d.length) m v x w)(hj:j<w){one:ASo}(ho:P m j one):Gd d (SL d c d.length) P (λm' j'=>D m' j'\/(m'=m/\j'=j)) (all.set v ((aV all v).set (x+j) one)):=by
 obtain⟨hv,hw⟩:=Aof hd hc hi;have hl:=h.len;have hr:=h.row v hv;have ha:∀u,aV (all.set v ((aV all v).set (x+j) one)) u=if u=v then(aV all v).set (x+j) one else aV all u:=λu=>by
  by_cases e:u=v
  ·subst e;rw[AQe rfl];simp[aV,List.getD,hl,hv]
  ·rw[AQf e];simp[aV,List.getD,AQl,Ne.symm e]
 refine⟨by rw[AP5];exact hl,λu hu=>?_,λ{m' v' x' w' j'} tm R8 hD=>?_⟩
 ·rw[ha];split
  ·rename_i e;subst e;rw[AP5];exact hr
  ·exact h.row u hu
 ·unfold sV;rw[ha];by_cases e:v'=v
  ·subst e;rw[AQe rfl];by_cases e2:x'+j'=x+j
   ·have hm:=AbB hd hc tm hi R8 hj e2;subst hm;have hx:=tm.2.symm.trans hi.2;injection hx with _ hx;injection hx with hx _;have hx:(x':Int)=x:=hx;have hjj:j'=j:=by omega
    subst hjj;rw[e2];rw[gsS (show x+j'<(aV all v').length by omega)];exact ho
   ·rw[show((aV all v').set (x+j) one).getD (x'+j') zS=sV all v' (x'+j') by simp[sV,List.getD,AQl,Ne.symm e2]];rcases hD with hD |⟨rfl,rfl⟩
    ·exact h.ok tm R8 hD
    ·exfalso
     have hx:=tm.2.symm.trans hi.2;injection hx with _ hx;injection hx with hx _;have hx:(x':Int)=x:=hx;omega
  ·rw[AQf e];rcases hD with hD |⟨rfl,rfl⟩
   ·exact h.ok tm R8 hD
   ·exfalso
    have hx:=tm.2.symm.trans hi.2;injection hx with hx _;have hx:(v':Int)=v:=hx;omega
end
section
variable {d:ASw} {l:ASy} {f:Nat->Nat->Bool} {N:Nat} {ld fx:ASs} {vm:ATB ASL} {ks:ASx} {vs:ASB} {BA:ASs} {rt:Nat->Nat}
def SgO(rt:Nat->Nat)(ns:Nat)(o:Bool⊕ASZ)(s:ASo):Prop:=match o with
 |.inl b=>s=(-1,0,bI b,())
 |.inr (r,j)=>∃k:Nat,k<(Bu rt ns).length/\rt (rp rt ns k)=r/\s=((k:Int),(j:Int),0,())
theorem SgO.iff{rt:Nat->Nat}{ns:Nat}{o o':Bool⊕ASZ}{s s':ASo}(h:SgO rt ns o s)(h':SgO rt ns o' s'):s=s'↔o=o':=by
 rcases o with b |⟨r,j⟩<;>rcases o' with b' |⟨r',j'⟩
 ·have h:s=_:=h;have h':s'=_:=h';subst h;subst h';refine⟨λe=>?_,λe=>by injection e with e;rw[e]⟩;injection e with _ e;injection e with _ e;injection e with e _;cases b<;>cases b'<;>first |rfl |cases e
 ·obtain⟨k,_,_,rfl⟩:=h';have h:s=_:=h;subst h;refine⟨λe=>?_,λe=>by cases e⟩;injection e with e _;have e:(-1:Int)=(k:Int):=e;omega
 ·obtain⟨k,_,_,rfl⟩:=h;have h':s'=_:=h';subst h';refine⟨λe=>?_,λe=>by cases e⟩;injection e with e _;have e:(k:Int)=(-1:Int):=e;omega
 ·obtain⟨k,h1,h2,rfl⟩:=h;obtain⟨k',uX,h2',rfl⟩:=h';constructor
  ·intro e;injection e with e1 e;injection e with e2 _;have e1:(k:Int)=(k':Int):=e1;have e2:(j:Int)=(j':Int):=e2;have:k=k':=by omega
   subst this;rw[<-h2,<-h2',show j=j' by omega]
  ·intro e;injection e with e;injection e with e1 e2;rw[je h1 uX (sk h1 uX (by rw[h2,h2',e1])),e2]
def Sgn(ns:Nat)(fx:ASs)(vs:ASB)(rt:Nat->Nat)(m j:Nat)(s:ASo):Prop:=SgO rt ns (CV fx vs rt m j) s
theorem AiC(hd:AB d)(hl:∀x∈l,Gm x)(HG:CJ d l)(hs:BF d l)(Il:B6 d l f)(ht:∀v p,f v p=true->v<d.length/\1<=p/\p<W d v)
    (J:JN (HL d l f) (SL d (Ai d f) d.length).length N ld fx vm ks vs BA rt) {ns r m v x w:Nat} (hi:InS (SL d (Ai d f) d.length) m v x w) (hr:rt m=rt r) {D:Nat->Nat->Prop} {all:AS} (hG:Gd d (SL d (Ai d f) d.length) (Sgn (SL d (Ai d f) d.length).length fx vs rt) D all)
    (a:Int) (k:Nat) (l0:Int) (q:ASs) (s v0:Int) (b:ASw) (c:ASy) (d0:ASG) (e:ASC) (g:ASs) (i:ATB tL) (j:ASx) (k0:FM) (hk:k<(Bu rt (SL d (Ai d f) d.length).length).length) (hkr:rt (rp rt (SL d (Ai d f) d.length).length k)=rt r) :
    Ax (Jj a (k:Int) l0 q s v0 b c d0 e g i j k0 (cV rt fx vs ns r) (w:Int) (nz (SL d (Ai d f) d.length) m) 0 all) (Gd d (SL d (Ai d f) d.length) (Sgn (SL d (Ai d f) d.length).length fx vs rt) λm' j'=>D m' j'\/m'=m):=by
 obtain⟨WQ,_⟩:=Gc hd f;obtain⟨hv,hw⟩:=Aof hd WQ hi;obtain⟨_,_,hW⟩:=MF hd hv;unfold Jj;refine Bn (λn (s:Int×AS)=>∃i:Nat,s.1=(i:Int)/\i<=w/\n=w-i/\Gd d (SL d (Ai d f) d.length) (Sgn (SL d (Ai d f) d.length).length fx vs rt) (λm' j'=>D m' j'\/(m'=m/\j'<i)) s.2) (λn s hI=>?_) w (0,all) ⟨0,rfl,AQH _,rfl,hG.mono λm' j' h=>h.elim id λh=>by omega⟩;obtain⟨i',e1,tm,rfl,hg⟩:=hI;obtain⟨s1,s2⟩:=s;simp only at e1 hg;subst e1;unfold HM LK Ji;simp only;rcases AP7 i' w with Bp |ZO
 ·have hlen:=hg.len;have MP:=hg.row v hv;rw[Da Bp,AQc,hi.2];simp only;rw[show wI ((x:Int)+(i':Int))=((x+i':Nat):Int)from A0,show wI ((i':Int)+1)=((i'+1:Nat):Int)from A0];simp only[APX];have key:∀one:Int×Int×Int,Sgn (SL d (Ai d f) d.length).length fx vs rt m i' (one.1,one.2.1,one.2.2,())->∃T,(if(0:Int)<=(v:Int)/\(v:Int)<(s2.length:Int)then
      if(0:Int)<=((x+i':Nat):Int)/\((x+i':Nat):Int)<((s2.getD v ATw.zero).length:Int)then
      some (Sum.inl (((i'+1:Nat):Int),s2.set v ((s2.getD v ATw.zero).set (x+i') (one.1,one.2.1,one.2.2,()))))else none else none:ATC ((Int×AS)⊕AS))=some (.inl (((i'+1:Nat):Int),T))/\Gd d (SL d (Ai d f) d.length) (Sgn (SL d (Ai d f) d.length).length fx vs rt) (λm' j'=>D m' j'\/(m'=m/\j'<i'+1)) T:=λone ho=>by
   rw[AQe (Bg (show v<s2.length by omega)),AQe (Bg (show x+i'<(aV s2 v).length by omega))];refine⟨_,rfl,(hg.put hd WQ hi Bp ho).mono λm' j' h=>?_⟩;rcases h with h |⟨h1,h2⟩
   ·exact .inl (.inl h)
   ·by_cases e:j'=i'
    ·exact .inr ⟨h1,e⟩
    ·exact .inl (.inr ⟨h1,by omega⟩)
  have YZ:CV fx vs rt m i'=if 0<=gI fx (rt r)then .inl (bt (gB vs (gI fx (rt r)).toNat).2.1 i')else .inr (rt r,i'):=by unfold CV;rw[hr]
  unfold cV;by_cases h0:0<=gI fx (rt r)
  ·rw[AP1 (show gI fx (rt r)>=0 from h0),AQc];simp only[AQc];obtain⟨bs,u1,u2,u3⟩:=uP hd hl HG hs Il ht J hi (by omega) (by rw[hr];exact h0);rw[hr]at u1;rw[show(((gB vs (gI fx (rt r)).toNat).1,(gB vs (gI fx (rt r)).toNat).2.1,()):ASk)=Zc bs from u1,zb (by omega) (by omega),APW,APW];rw[AQe h0,u1,jI (by omega)]at YZ;obtain⟨T,e,hT⟩:=key (-1,0,bI (bs.getD i' false)) (by unfold Sgn;rw[YZ];exact rfl);exact Ax.of e ⟨w-(i'+1),by omega,i'+1,rfl,by omega,rfl,hT⟩
  ·rw[APZ (show ¬gI fx (rt r)>=0 from h0),AQb];simp only[AQb,APW];rw[AQf h0]at YZ;obtain⟨T,e,hT⟩:=key ((k:Int),(i':Int),0) (by unfold Sgn;rw[YZ];exact⟨k,hk,hkr,rfl⟩);exact Ax.of e ⟨w-(i'+1),by omega,i'+1,rfl,by omega,rfl,hT⟩
 ·have:i'=w:=by omega
  subst this;rw[Ep,AQb];refine Ax.mk ⟨hg.len,hg.row,λ{m' v' x' w' j'} a1 a2 a3=>hg.ok a1 a2 ?_⟩;rcases a3 with h |rfl
  ·exact .inl h
  ·refine .inr ⟨rfl,?_⟩;have hx:=a1.2.symm.trans hi.2;injection hx with _ hx;injection hx with _ hx;injection hx with hx _;have hx:(w':Int)=i':=hx;omega
theorem AiD(hd:AB d)(hl:∀x∈l,Gm x)(HG:CJ d l)(hs:BF d l)(Il:B6 d l f)(ht:∀v p,f v p=true->v<d.length/\1<=p/\p<W d v)
    (J:JN (HL d l f) (SL d (Ai d f) d.length).length N ld fx vm ks vs BA rt) (a:Int) (c:ASy) (d0:ASG) (g:ASs) (i:ATB tL) (k0:FM) :
    Ax (JG a d c d0 ((Bu rt (SL d (Ai d f) d.length).length).map (cV rt fx vs (SL d (Ai d f) d.length).length)) g i (SL d (Ai d f) d.length) k0) λr=>Gd d (SL d (Ai d f) d.length) (Sgn (SL d (Ai d f) d.length).length fx vs rt) (λ_ _=>True) r.2.2.2.2.2.2.2.2:=by
 obtain⟨WQ,_⟩:=Gc hd f;have Im:=aT hd WQ d.length (AP2 _);have de:=hd.1;have hrl:=UJ rt (SL d (Ai d f) d.length).length;unfold JG;rw[AQe ⟨rfl,by omega,ARj _,by omega,by omega⟩,APX];refine Ax.bind (P:=Gd d (SL d (Ai d f) d.length) (Sgn (SL d (Ai d f) d.length).length fx vs rt) λ_ _=>False) ?_ λall hG=>?_
 ·unfold OG;refine Bn (λn (s:Int×AS)=>∃k:Nat,s.1=(k:Int)/\k<=d.length/\n=d.length-k/\s.2.length=d.length/\∀v,v<k->(aV s.2 v).length=W d v) (λn s hI=>?_) d.length _ ⟨0,rfl,AQH _,rfl,AQt,λv h=>by omega⟩;obtain⟨k,e1,hk,rfl,h1,h2⟩:=hI;obtain⟨s1,s2⟩:=s;simp only at e1 h1 h2;subst e1;unfold HK LJ;simp only;rcases AP7 k d.length with Bp |ZO
  ·obtain⟨w0,w1,w2⟩:=MF hd Bp;have w0:(d.getD k Ab.zero).2.1=(W d k:Int):=w0;rw[Da Bp,AQc,AQe (Bg Bp)];simp only[APX,w0];rw[AQe (show Ty.row Ap=true/\(0:Int)<=(W d k:Int)/\(W d k:Int)<=(W d k:Int)/\((24:Nat):Int)*(W d k:Int)<=(281474976710656:Int)/\(W d k:Int)<=(9223372036854775807:Int)from⟨rfl,by omega,ARj _,by omega,by omega⟩),AQe (Bg (show k<s2.length by omega)),show wI ((k:Int)+1)=((k+1:Nat):Int)from A0];refine Ax.mk ⟨d.length-(k+1),by omega,k+1,rfl,by omega,rfl,by rw[AP5];exact h1,λv hv=>?_⟩;by_cases e:v=k
   ·subst e;simp[aV,List.getD,h1,Bp]
   ·have:=h2 v (by omega);simp only[aV,List.getD,AQl,Ne.symm e,ARo]at this⊢;exact this
  ·have:k=d.length:=by omega
   subst this;rw[Ep,AQb];exact Ax.mk ⟨h1,h2,λ_ _ h=>h.elim⟩
 ·refine Ax.bind (P:=Gd d (SL d (Ai d f) d.length) (Sgn (SL d (Ai d f) d.length).length fx vs rt) λ_ _=>True) ?_ λr hr=>Ax.mk hr;unfold OI;generalize hC:(Bu rt (SL d (Ai d f) d.length).length).map (cV rt fx vs (SL d (Ai d f) d.length).length)=C;have hCl:C.length=(Bu rt (SL d (Ai d f) d.length).length).length:=by rw[<-hC,AP8]
  have hCg:∀k,k<C.length->C.getD k An.zero=cV rt fx vs (SL d (Ai d f) d.length).length (rp rt (SL d (Ai d f) d.length).length k):=λk hk=>by
   rw[<-hC];exact Fj (cV rt fx vs (SL d (Ai d f) d.length).length) (by omega)
  refine Bn (λn (s:Int×AS)=>∃k:Nat,s.1=(k:Int)/\k<=C.length/\n=C.length-k/\Gd d (SL d (Ai d f) d.length) (Sgn (SL d (Ai d f) d.length).length fx vs rt) (λm _=>∃k',k'<k/\rt m=rt (rp rt (SL d (Ai d f) d.length).length k')) s.2) (λn s hI=>?_) C.length (0,all) ⟨0,rfl,AQH _,rfl,hG.mono λm j h=>by obtain⟨k',h,_⟩:=h;omega⟩;obtain⟨k,e1,hk,rfl,hg⟩:=hI;obtain⟨s1,s2⟩:=s;simp only at e1 hg;subst e1;unfold HO LN;simp only;rcases AP7 k C.length with Bp |ZO
  ·rw[Da Bp,AQc,AQe (Bg Bp)];simp only[APX,hCg k Bp];generalize hR:rp rt (SL d (Ai d f) d.length).length k=R;have tq:=UG rt R (SL d (Ai d f) d.length).length;rw[show wI ((k:Int)+1)=((k+1:Nat):Int)from A0,show(cV rt fx vs (SL d (Ai d f) d.length).length R).1=Db rt (SL d (Ai d f) d.length).length R from rfl];refine Ax.bind (P:=Gd d (SL d (Ai d f) d.length) (Sgn (SL d (Ai d f) d.length).length fx vs rt) λm _=>(∃k',k'<k/\rt m=rt (rp rt (SL d (Ai d f) d.length).length k'))\/(m:Int)∈Db rt (SL d (Ai d f) d.length).length R) ?_ λr hr=>Ax.mk ⟨C.length-(k+1),by omega,k+1,rfl,by omega,rfl,⟨hr.len,hr.row,λ{m v x w j} a1 a2 a3=>hr.ok a1 a2 ?_⟩⟩
   rotate_right
   ·obtain⟨k',b1,b2⟩:=a3;by_cases e:k'=k
    ·subst e;rw[hR]at b2;exact .inr (Vq.2 ⟨m,a1.1,rfl,b2⟩)
    ·exact .inl ⟨k',by omega,b2⟩
   unfold OH;generalize hM:Db rt (SL d (Ai d f) d.length).length R=M at *;refine Bn (λn (s:Int×AS)=>∃p:Nat,s.1=(p:Int)/\p<=M.length/\n=M.length-p/\Gd d (SL d (Ai d f) d.length) (Sgn (SL d (Ai d f) d.length).length fx vs rt) (λm _=>(∃k',k'<k/\rt m=rt (rp rt (SL d (Ai d f) d.length).length k'))\/(m:Int)∈M.take p) s.2) (λn s hI=>?_) M.length (0,s2) ⟨0,rfl,AQH _,rfl,hg.mono λm j h=>h.elim id λh=>by simp at h⟩;obtain⟨p,e1,hp,rfl,hg'⟩:=hI;obtain⟨t1,t2⟩:=s;simp only at e1 hg';subst e1;unfold HN LL;simp only;rcases AP7 p M.length with Al6 |AOn
   ·have hpm:M.getD p ATl.zero∈M:=AL Al6;obtain⟨m,m1,m2,m3⟩:=Vq.1 (show M.getD p ATl.zero∈Db rt (SL d (Ai d f) d.length).length R by rw[hM];exact hpm);obtain⟨v,x,w,hi,_,_⟩:=AGG hd WQ m1;rw[Da Al6,AQc,AQe (Bg Al6)];simp only[APX,m2];rw[AQe (Bg m1),show(SL d (Ai d f) d.length).getD m Ad.zero=nz (SL d (Ai d f) d.length) m from rfl];have hw:(nz (SL d (Ai d f) d.length) m).2.2.1=(w:Int):=by rw[hi.2]
    rw[hw,show wI ((p:Int)+1)=((p+1:Nat):Int)from A0];refine(AiC hd hl HG hs Il ht J (ns:=(SL d (Ai d f) d.length).length) hi m3 hg' a k _ _ _ _ _ _ _ _ _ _ _ _ (by omega) (by rw[hR])).bind λr hr=>Ax.mk ⟨M.length-(p+1),by omega,p+1,rfl,by omega,rfl,hr.mono λm' j' h=>?_⟩;rcases h with h |h
    ·exact .inl (.inl h)
    ·rw[AX (z :=ATl.zero) Al6]at h;rcases List.mem_append.1 h with h |h
     ·exact .inl (.inr h)
     ·rw[AQn,m2]at h;exact .inr (by omega)
   ·have:p=M.length:=by omega
    subst this;rw[Ep,AQb];rw[ARI]at hg';exact Ax.mk hg'
  ·have:k=C.length:=by omega
   subst this;rw[Ep,AQb];refine Ax.mk ⟨hg.len,hg.row,λ{m v x w j} a1 a2 _=>hg.ok a1 a2 ?_⟩;obtain⟨k',b1,b2⟩:=XR rt (SL d (Ai d f) d.length).length m a1.1;exact⟨k',by omega,b2.symm⟩
end
section
variable {d:ASw} {all:AS}
end
abbrev ix(s t:ASA):ASh:=(1,true,(s,()),(t,()),())
theorem ZJ{d:ASw}(hd:AB d){u:ASA}(hu:LS u)(h:(DX d u).1=true):((Yl d u).length:Int)=D8 d u/\1<=D8 d u:=by
 obtain⟨ws,hw⟩:∃ws,MK d u ws:=by
  unfold DX at h;split at h
  ·rename_i hc;exact hc.1
  ·cases h
 refine⟨?_,(pM hw).1⟩;rw[Xt hw];exact(gQ hd hu hw _ (AP2 _) (u.length-1) (by have:=hw.1;omega)).2
theorem Acj{d:ASw}(hd:AB d){s t:ASA}(hs:LS s)(ht:LS t):(CJ d [ix s t]/\BF d [ix s t])↔(DX d s).1=true/\(DX d t).1=true/\(Yl d s).length=(Yl d t).length:=by
 constructor
 ·rintro⟨h1,h2⟩
  obtain⟨a,b⟩:(DX d s).1=true/\(DX d t).1=true:=h2 0 (by simp);have hp:D8 d t=D8 d s:=(h1.2 0 (by simp)).2.2.2;have g1:=ZJ hd hs a;have g2:=ZJ hd ht b;exact⟨a,b,by omega⟩
 ·rintro⟨a,b,e⟩
  have g1:=ZJ hd hs a;have g2:=ZJ hd ht b;refine⟨⟨by simp,λi hi=>?_⟩,λi hi=>?_⟩
  ·have:i=0:=by simp at hi;exact hi
   subst this;exact⟨⟨ARj _,by show(1:Int)<=1000000;decide⟩,λh=>absurd h (by omega),by show 0<=D8 d s;omega,by show D8 d t=D8 d s;omega⟩
  ·have:i=0:=by simp at hi;exact hi
   subst this;exact⟨a,b⟩
section
variable {d:ASw} {l:ASy} {f g:Nat->Nat->Bool}
theorem AnF(hd:AB d)(h:QL f g):Tt (Ai d f) d.length<=Tt (Ai d g) d.length:=by
 have:∀n,n<=d.length->Tt (Ai d f) n<=Tt (Ai d g) n:=λn=>by
  induction n with
  |zero=>exact λ_=>AP2 _
  |succ n ih =>
   intro hn;rw[ZN,ZN,UR (by omega),UR (by omega)];have hlen:∀(g:Nat->Nat->Bool),(A1 (W d n) (g n)).length=(List.range (W d n)).countP λq=>decide (1<=q)&&g n q:=λg=>by unfold A1;rw[AP8,List.countP_eq_length_filter]
   have:=ih (by omega);have:(A1 (W d n) (f n)).length<=(A1 (W d n) (g n)).length:=by
    rw[hlen,hlen];refine ARQ λq _ hq=>?_;rw[AP3]at hq⊢;exact⟨hq.1,h n q hq.2⟩
   omega
 exact this d.length (AP2 _)
theorem zi(ht:∀v p,f v p=true->v<d.length/\1<=p/\p<W d v)(Il:B6 d l f):aj d l (Ai d f) f:=⟨by rw[Nm ht];exact λ_ _ h=>h,ht,Il,λh _ h2=>by rw[Nm ht]at h2;exact h2⟩
theorem qJ(hd:AB d)(hl:∀x∈l,Gm x)(HG:CJ d l)(hs:BF d l)(ht:∀v p,f v p=true->v<d.length/\1<=p/\p<W d v):∃f',Ci d l (Ai d f,())=some ((Ai d f',()),true)/\aj d l (Ai d f) f'/\QL f f':=by
 obtain⟨WQ,hcb⟩:=Gc hd f;obtain⟨rc,ec,_,S6⟩:=cC (d:=d) (l:=l) hcb hl;rcases S6 with ⟨_,VT⟩|⟨_,_,_,_,f',rfl,hf⟩
 ·exact(VT ⟨hd,WQ,HG,hs⟩).elim
 ·refine⟨f',ec,hf,?_⟩;have:=hf.le;rw[Nm ht]at this;exact this
theorem AaX(hd:AB d)(f:Nat->Nat->Bool):KV d (Ai d f,())=some ((d.length+Tt (Ai d f) d.length:Nat):Int):=dR hd (Gc hd f).1 (Gc hd f).2
theorem AnE(hd:AB d)(f:Nat->Nat->Bool):Tt (Ai d f) d.length<=62914560:=by
 have:=rm (c:=Ai d f) (Gc hd f).2.row d.length;have:=hd.1;omega
end
def SdR(rt:Nat->Nat)(ns w:Nat)(O:Nat->Bool⊕ASZ)(i:Int)(v:ASk):Prop:=(i=-1/\∃bs:ASt,v=Zc bs/\bs.length=w/\w<=4096/\∀j,j<w->O j=.inl (bs.getD j false))\/∃k:Nat,k<(Bu rt ns).length/\i=(k:Int)/\∀j,j<w->O j=.inr (rt (rp rt ns k),j)
theorem SdR.iff{rt:Nat->Nat}{ns w:Nat}(hw:0<w){O O':Nat->Bool⊕ASZ}{i i':Int}{v v':ASk}(h:SdR rt ns w O i v)(h':SdR rt ns w O' i' v'):(i=i'/\(i<0->v=v'))↔∀j,j<w->O j=O' j:=by
 rcases h with ⟨rfl,bs,rfl,l1,_,e1⟩|⟨k,k1,rfl,e1⟩<;>rcases h' with ⟨rfl,Gp,rfl,l2,_,e2⟩|⟨k',k2,rfl,e2⟩
 ·constructor
  ·rintro⟨_,h⟩ j hj
   rw[e1 j hj,e2 j hj,dx (h (by omega))]
  ·intro h;refine⟨rfl,λ_=>?_⟩;rw[show bs=Gp from AQV (by omega) λj h1 h2=>by
    have:=h j (by omega);rw[e1 j (by omega),e2 j (by omega)]at this;injection this with this;simpa [List.getD,h1,h2]using this]
 ·refine⟨λh=>by omega,λh=>?_⟩;have:=h 0 hw;rw[e1 0 hw,e2 0 hw]at this;cases this
 ·refine⟨λh=>by omega,λh=>?_⟩;have:=h 0 hw;rw[e1 0 hw,e2 0 hw]at this;cases this
 ·constructor
  ·rintro⟨h,_⟩ j hj
   have:k=k':=by omega
   subst this;rw[e1 j hj,e2 j hj]
  ·intro h;have:=h 0 hw;rw[e1 0 hw,e2 0 hw]at this;injection this with this;injection this with this _;have:=je k1 k2 (sk k1 k2 this);exact⟨by omega,λh=>by omega⟩
section
variable {d:ASw} {l:ASy} {f:Nat->Nat->Bool} {N:Nat} {ld fx:ASs} {vm:ATB ASL} {ks:ASx} {vs:ASB} {BA:ASs} {rt:Nat->Nat}
theorem AiB(hd:AB d)(hl:∀x∈l,Gm x)(HG:CJ d l)(hs:BF d l)(Il:B6 d l f)(ht:∀v p,f v p=true->v<d.length/\1<=p/\p<W d v)
    (J:JN (HL d l f) (SL d (Ai d f) d.length).length N ld fx vm ks vs BA rt) {B:ATB Bt} {a b i k:Nat} (S:hU d (Ai d f) B a b i k) (hB:Bo d B) :
    ∃O:Nat->Bool⊕ASZ,(∀j,j<b-a->yn (SL d (Ai d f) d.length) fx vs rt (QO B (a+j)) (O j)) /\
     (((Oq (SL d (Ai d f) d.length) B a b).1<0/\SdR rt (SL d (Ai d f) d.length).length (b-a) O (-1) (Oq (SL d (Ai d f) d.length) B a b).2.1) \/
      ∃n:Nat,n<(SL d (Ai d f) d.length).length/\(Oq (SL d (Ai d f) d.length) B a b).1=(n:Int) /\
       (0<=gI fx (rt n)->SdR rt (SL d (Ai d f) d.length).length (b-a) O (-1) (gB vs (gI fx (rt n)).toNat)) /\
       (¬0<=gI fx (rt n)->∀k v,k<(Bu rt (SL d (Ai d f) d.length).length).length->rt (rp rt (SL d (Ai d f) d.length).length k)=rt n->SdR rt (SL d (Ai d f) d.length).length (b-a) O (k:Int) v)):=by
 have Bp:=S.lt;rcases kz hB S with ⟨h1,h2⟩|⟨h1,_⟩
 ·obtain⟨n,hn⟩:∃n:Nat,(Oq (SL d (Ai d f) d.length) B a b).1=(n:Int):=⟨_,(Int.toNat_of_nonneg h1).symm⟩;have kI:=λ(j:Nat) (hj:j<b-a)=>rk S hB (vs:=vs) (n:=n) (.inl ⟨h1,hn.symm⟩) hj;have h2:(n:Int)<((SL d (Ai d f) d.length).length:Int):=by rw[<-hn];exact h2
  have hns:n<(SL d (Ai d f) d.length).length:=by omega
  obtain⟨v,x,hi⟩:∃v x,InS (SL d (Ai d f) d.length) n v x (b-a):=by
   rcases(kI 0 (by omega)).2 with ⟨v,x,h,_⟩|⟨h,_⟩
   ·exact⟨v,x,h⟩
   ·omega
  refine⟨λj=>CV fx vs rt n j,λj hj=>?_,.inr ⟨n,hns,hn,λh0=>?_,λh0 k v hk hr=>.inr ⟨k,hk,rfl,λj hj=>?_⟩⟩⟩
  ·rcases(kI j hj).2 with ⟨v,x,h,e⟩|⟨h,_⟩
   ·exact .inr ⟨n,v,x,b-a,j,h,hj,e,rfl⟩
   ·omega
  ·obtain⟨bs,u1,u2,u3⟩:=uP hd hl HG hs Il ht J hi (by omega) h0;refine .inl ⟨rfl,bs,u1,u2,u3,λj hj=>?_⟩;show CV fx vs rt n j=_;unfold CV;rw[AQe h0,u1,jI (by omega)]
  ·show CV fx vs rt n j=_;unfold CV;rw[AQf h0,hr]
 ·have kI:=λ(j:Nat) (hj:j<b-a)=>rk S hB (vs:=List.replicate (SL d (Ai d f) d.length).length (0,[],())++[(Oq (SL d (Ai d f) d.length) B a b).2.1]) (n:=(SL d (Ai d f) d.length).length) (.inr ⟨h1,AP2 _,by simp,by rw[YX,AQt,AQe rfl]⟩) hj;obtain⟨bs,e,el,ew⟩:∃bs:ASt,(Oq (SL d (Ai d f) d.length) B a b).2.1=Zc bs/\bs.length=b-a/\b-a<=4096:=by
   rcases(kI 0 (by omega)).2 with ⟨v,x,h,_⟩|⟨_,bs,e,el,ew,_⟩
   ·have:=h.1;omega
   ·rw[YX,AQt,AQe rfl]at e;exact⟨bs,e,el,ew⟩
  refine⟨λj=>.inl (bs.getD j false),λj hj=>?_,.inl ⟨h1,.inl ⟨rfl,bs,e,el,ew,λj _=>rfl⟩⟩⟩;rcases(kI j hj).2 with ⟨v,x,h,_⟩|⟨_,Gp,e',_,_,et⟩
  ·have:=h.1;omega
  ·rw[YX,AQt,AQe rfl,e]at e';rw[et,<-dx e'];exact .inl ⟨_,rfl,rfl⟩
end
theorem AhO{a:ASs}(ha:a.length<=1048576)(b:Int):Ng a b=some (decide (b∈a)):=by
 unfold Ng;obtain⟨t,h1,h2⟩:Ax (Pn a b 0) λt=>(t=.inl ()/\b∈a)\/(t=.inr ()/\b∉a):=by
  unfold Pn;refine Bn (λm (i:Int)=>∃k:Nat,i=(k:Int)/\k<=a.length/\m=a.length-k/\b∉a.take k) (λm i hI=>?_) a.length 0 ⟨0,rfl,AQH _,rfl,by simp⟩;obtain⟨k,rfl,hk,rfl,hn⟩:=hI;unfold Ll PR;rcases AP7 k a.length with h |h
  ·rw[Da h,AQc,AQe (Bg h),APX];have he:a.getD k ATl.zero=a[k]:=by simp[List.getD,h]
   rw[he];cases hb:(a[k]==b)with
   |true =>
    rw[AQc];rw[AQ8]at hb;exact Ax.mk (.inl ⟨rfl,by rw[<-hb];exact AQE h⟩)
   |false =>
    rw[AQb,A0 (n:=k+1)];rw[ARF]at hb;refine Ax.mk ⟨a.length-(k+1),by omega,k+1,rfl,by omega,rfl,?_⟩;rw[AQO h];simp only[ARl,AQn]
    rintro(h' |h')
    ·exact hn h'
    ·exact hb h'.symm
  ·have:k=a.length:=by omega
   subst this;rw[Ep,AQb];rw[ARI]at hn;exact Ax.mk (.inr ⟨rfl,hn⟩)
 rw[h1,APW];rcases h2 with ⟨rfl,h⟩|⟨rfl,h⟩
 ·rw[AP1 h];rfl
 ·rw[APZ h];rfl
section
variable {d:ASw} {l:ASy} {f:Nat->Nat->Bool} {N:Nat} {ld fx:ASs} {vm:ATB ASL} {ks:ASx} {vs:ASB} {BA:ASs} {rt:Nat->Nat}
theorem yC{ns n:Nat}(hns:ns<=1048576)(hn:n<ns)(q:ASl)(c:ASs) :
    ∃k:Nat,k<(Bu rt ns).length/\rt (rp rt ns k)=rt n/\Rs (q,(Bu rt ns).map (cV rt fx vs ns),c,()) (n:Int)=some (k:Int):=by
 have hrl:=UJ rt ns;obtain⟨k0,hk0,ek0⟩:=XR rt ns n hn;unfold Rs;obtain⟨t,h1,k,rfl,h2,h3⟩:Ax (PI (n:Int) (q,(Bu rt ns).map (cV rt fx vs ns),c,()) 0) λt=>∃k:Nat,t=.inl (k:Int)/\k<(Bu rt ns).length/\rt (rp rt ns k)=rt n:=by
  unfold PI;refine Bn (λm (i:Int)=>∃k:Nat,i=(k:Int)/\k<=(Bu rt ns).length/\m=(Bu rt ns).length-k/\∀k',k'<k->rt (rp rt ns k')≠rt n) (λm i hI=>?_) (Bu rt ns).length 0 ⟨0,rfl,AQH _,rfl,λk' h=>by omega⟩;obtain⟨k,rfl,hk,rfl,VT⟩:=hI;have Bp:k<(Bu rt ns).length:=Classical.byContradiction λh=>VT k0 (by omega) ek0;unfold Mc Rt;simp only[AP8,APX];rw[Da Bp,AQc,AQe (Bg Bp),show((Bu rt ns).map (cV rt fx vs ns)).getD k An.zero=cV rt fx vs ns (rp rt ns k)from Fj (cV rt fx vs ns) (y:=0) Bp];have tq:=UG rt (rp rt ns k) ns;rw[show(cV rt fx vs ns (rp rt ns k)).1=Db rt ns (rp rt ns k)from rfl,AhO (by omega),APW,A0 (n:=k+1)];by_cases hm:(n:Int)∈Db rt ns (rp rt ns k)
  ·rw[AP1 hm,AQc];obtain⟨j,_,e,h⟩:=Vq.1 hm;have:n=j:=by omega
   subst this;exact Ax.mk ⟨k,rfl,Bp,h.symm⟩
  ·rw[APZ hm,AQb];refine Ax.mk ⟨(Bu rt ns).length-(k+1),by omega,k+1,rfl,by omega,rfl,λk' h'=>?_⟩;by_cases e:k'=k
   ·subst e;exact λh=>hm (Vq.2 ⟨n,hn,rfl,h.symm⟩)
   ·exact VT k' (by omega)
 exact⟨k,h2,h3,by rw[h1];rfl⟩
theorem oO(hd:AB d)(hl:∀x∈l,Gm x)(HG:CJ d l)(hs:BF d l)(Il:B6 d l f)(ht:∀v p,f v p=true->v<d.length/\1<=p/\p<W d v)
    (J:JN (HL d l f) (SL d (Ai d f) d.length).length N ld fx vm ks vs BA rt) {B:ATB Bt} {a b i k:Nat} (S:hU d (Ai d f) B a b i k) (hB:Bo d B) (q:ASl) (c:ASs) :
    ∃O:Nat->Bool⊕ASZ,(∀j,j<b-a->yn (SL d (Ai d f) d.length) fx vs rt (QO B (a+j)) (O j))/\∃r,GU (q,(Bu rt (SL d (Ai d f) d.length).length).map (cV rt fx vs (SL d (Ai d f) d.length).length),c,()) (Oq (SL d (Ai d f) d.length) B a b)=some r/\SdR rt (SL d (Ai d f) d.length).length (b-a) O r.1 r.2:=by
 obtain⟨WQ,_⟩:=Gc hd f;have Im:=aT hd WQ d.length (AP2 _);have de:=hd.1;obtain⟨O,h1,h2⟩:=AiB hd hl HG hs Il ht J S hB;refine⟨O,h1,?_⟩;unfold GU;rcases h2 with ⟨h2,h3⟩|⟨n,hn,h2,h3,h4⟩
 ·rw[AP1 h2,AQc];exact⟨(-1,(Oq (SL d (Ai d f) d.length) B a b).2.1),rfl,h3⟩
 ·obtain⟨k,hk,ek,e⟩:=yC (rt:=rt) (fx:=fx) (vs:=vs) (show(SL d (Ai d f) d.length).length<=1048576 by omega) hn q c;rw[h2,APZ (show ¬((n:Int)<0) by omega),AQb,e,APW];simp only[AP8,APX];rw[AQe (Bg hk),show((Bu rt (SL d (Ai d f) d.length).length).map (cV rt fx vs (SL d (Ai d f) d.length).length)).getD k An.zero=cV rt fx vs (SL d (Ai d f) d.length).length (rp rt (SL d (Ai d f) d.length).length k)from Fj (cV rt fx vs (SL d (Ai d f) d.length).length) (y:=0) hk];unfold cV;rw[ek];by_cases h0:0<=gI fx (rt n)
  ·rw[AP1 (show gI fx (rt n)>=0 from h0)];simp only[AQc];exact⟨(-1,gB vs (gI fx (rt n)).toNat),AQe (Bg hk),h3 h0⟩
  ·rw[APZ (show ¬gI fx (rt n)>=0 from h0)];simp only[AQb];exact⟨((k:Int),(0,([]:ASs),())),rfl,h4 h0 k _ hk ek⟩
def SmP(d:ASw)(e:ASy)(B1 B2:ATB Bt)(a b:Nat):Prop:=∀j,j<b-a->BE (EL d e) (QO B1 (a+j)) (QO B2 (a+j))
theorem sr{a b:ASt}(ha:a.length<=4096):∃r,Et (Zc a) (Zc b)=some r/\(r=true↔Zc a=Zc b):=gK (by
 rw[(fB a).1];unfold nw;exact AQq (show(a.length+63)/64<=1048576 by omega) ZY) _
theorem Ave(hd:AB d)(hl:∀x∈l,Gm x)(HG:CJ d l)(hs:BF d l)(Il:B6 d l f)(ht:∀v p,f v p=true->v<d.length/\1<=p/\p<W d v)
    (J:JN (HL d l f) (SL d (Ai d f) d.length).length N ld fx vm ks vs BA rt) (hP:∀i,i<l.length->∀x∈mj d l f i,P1 (SL d (Ai d f) d.length).length rt vs x) {B1 B2:ATB Bt} (s1:Bo d B1) (s2:Bo d B2) (s3:B1.length=B2.length) (BO:eF d B1 B2 f) {a b:Nat} (g:tE B1 B2 f a b) (q:ASl) (c:ASs) (P:ASD) (e:Int) (cl:ASr) (hc:cl=(q,(Bu rt (SL d (Ai d f) d.length).length).map (cV rt fx vs (SL d (Ai d f) d.length).length),c,())) :
    ∃o o' r,GU cl (pcV (SL d (Ai d f) d.length) B1 B2 a b).1=some o/\GU cl (pcV (SL d (Ai d f) d.length) B1 B2 a b).2.1=some o'/\Ig P e cl o.1 o'.1 o.2 o'.2=some r/\(r=false↔SmP d l B1 B2 a b):=by
 subst hc;have hC0:=Nm ht;obtain⟨WQ,_⟩:=Gc hd f;have dh:eF d B1 B2 (C0 (Ai d f)):=by rw[hC0];exact BO
 have g':tE B1 B2 (C0 (Ai d f)) a b:=by rw[hC0];exact g
 obtain⟨⟨i1,k1,S1⟩,i2,k2,S2⟩:=W7 hd WQ s1 s2 s3 dh g';obtain⟨O,v1,o,e1,d1⟩:=oO hd hl HG hs Il ht J S1 s1 q c;obtain⟨O',v2,o',e2,d2⟩:=oO hd hl HG hs Il ht J S2 s2 q c;have Bp:=g.lt;have key:=d1.iff (show 0<b-a by omega) d2;have hsm:SmP d l B1 B2 a b↔∀j,j<b-a->O j=O' j:=forall_congr' λj=>forall_congr' λhj=>(AbK hd hl HG hs Il ht J hP (v1 j hj) (v2 j hj)).symm;refine⟨o,o',?_⟩;unfold Ig;rw[hsm,<-key];cases Ke:(o.1 !=o'.1)with
 |true =>
  rw[AQc];rw[ARt]at Ke;exact⟨_,e1,e2,rfl,(λh=>by cases h),λh=>(Ke h.1).elim⟩
 |false =>
  have hq:o.1=o'.1:=by simpa using Ke
  rw[AQb];by_cases h0:o.1<0
  ·rw[AP1 h0,AQc];rcases d1 with ⟨_,bs,w1,w2,w3,_⟩|⟨k,_,hk,_⟩
   ·rcases d2 with ⟨_,Gp,w1',w2',w3',_⟩|⟨k,_,hk,_⟩
    ·obtain⟨r,er,hr⟩:=sr (a:=bs) (b:=Gp) (by omega);rw[<-w1,<-w1']at er hr;rw[er,APW];refine⟨_,e1,e2,rfl,?_⟩;rw[Bool.not_eq_eq_eq_not,ARg,hr];exact⟨λh=>⟨hq,λ_=>h⟩,λh=>h.2 h0⟩
    ·omega
   ·omega
  ·rw[APZ h0,AQb];exact⟨_,e1,e2,rfl,λ_=>⟨hq,λh=>(h0 h).elim⟩,λ_=>rfl⟩
end
theorem AlH{L:ASx}{B1 B2:ATB Bt}{g:Nat->Nat->Bool}{S:Nat->Nat->Prop}{P:ASD}{Y:ASr}
    (hc:∀a b,tE B1 B2 g a b->∀i:Int,∃o o' r,GU Y (pcV L B1 B2 a b).1=some o/\GU Y (pcV L B1 B2 a b).2.1=some o'/\Ig P i Y o.1 o'.1 o.2 o'.2=some r/\(r=false↔S a b))
    (hp:∀i,i<P.length->∃a b,tE B1 B2 g a b/\P.getD i Ao.zero=pcV L B1 B2 a b) (hl:P.length<=1048576) :
    Ax (PQ P Y 0) λt=>(t=.inr ()/\∀a b,tE B1 B2 g a b->pcV L B1 B2 a b∈P->S a b)\/(t=.inl ()/\∃a b,tE B1 B2 g a b/\¬S a b):=by
 unfold PQ;refine Bn (λm (i:Int)=>∃k:Nat,i=(k:Int)/\k<=P.length/\m=P.length-k/\∀a b,tE B1 B2 g a b->pcV L B1 B2 a b∈P.take k->S a b) (λm i hI=>?_) P.length 0 ⟨0,rfl,AQH _,rfl,λa b _ h=>by simp at h⟩;obtain⟨k,rfl,hk,rfl,hI⟩:=hI;unfold Ml Rx;rcases AP7 k P.length with h |h
 ·obtain⟨a,b,vf,hx⟩:=hp k h;obtain⟨o,o',r,q1,q2,q3,q4⟩:=hc a b vf (k:Int);rw[Da h,AQc,AQe (Bg h),APX,hx,q1,APW,AQe (Bg h),q2,APW,q3,APW,A0 (n:=k+1)];cases r with
  |true =>
   rw[AQc];exact Ax.mk (.inr ⟨rfl,a,b,vf,λh=>by cases q4.2 h⟩)
  |false =>
   rw[AQb];refine Ax.mk ⟨P.length-(k+1),by omega,k+1,rfl,by omega,rfl,λa' b' hg' hm=>?_⟩;rw[AX (z :=Ao.zero) h]at hm;rcases List.mem_append.1 hm with hm |hm
   ·exact hI a' b' hg' hm
   ·rw[AQn,hx]at hm;obtain⟨o2,o2',r2,q1',q2',q3',q4'⟩:=hc a' b' hg' (k:Int);rw[hm,q1]at q1';rw[hm,q2]at q2';injection q1' with q1';injection q2' with q2';subst q1';subst q2';rw[q3]at q3';injection q3' with q3';exact q4'.1 q3'.symm
 ·have:k=P.length:=by omega
  subst this;rw[Ep,AQb];rw[ARI]at hI;exact Ax.mk (.inl ⟨rfl,hI⟩)
theorem Ae8{d:ASw}{e:ASy}{u:ASh}(hd:AB d)(hl:∀x∈e,Gm x)(HG:CJ d e)(hs:BF d e)(hu:Gm u)(hup:CJ d [u])(hus:BF d [u]){f:Nat->Nat->Bool}(ht:∀v p,f v p=true->v<d.length/\1<=p/\p<W d v)(Il:B6 d e f) :
    Ax (PO d e u (Ai d f,())) λv=>∃g,v=(Ai d g,())/\(∀v p,g v p=true->v<d.length/\1<=p/\p<W d v)/\B6 d e g/\B6 d [u] g:=by
 have kL:∀x∈[u],Gm x:=λx hx=>by rw[AQn]at hx;rw[hx];exact hu
 unfold PO;refine Bn (λm (s:ASl)=>∃g,s=(Ai d g,())/\m=62914560-Tt (Ai d g) d.length/\(∀v p,g v p=true->v<d.length/\1<=p/\p<W d v)/\B6 d e g) (λm s hI=>?_) _ _ ⟨f,rfl,rfl,ht,Il⟩;obtain⟨g,rfl,rfl,hg,hgc⟩:=hI;unfold Mk Rw;obtain⟨g1,e1,L1,le1⟩:=qJ hd kL hup hus hg;obtain⟨g2,e2,L2,le2⟩:=qJ hd hl HG hs L1.Yt;have n1:=AnF hd le1;have n2:=AnF hd le2;have b1:=AnE hd g;have b2:=AnE hd g2;rw[e1,APW,e2,APW];simp only;rw[AaX hd,APW,AaX hd,APW];by_cases hq:Tt (Ai d g2) d.length=Tt (Ai d g) d.length
 ·rw[hq,ARU,AQc];have:=(AcR hd (Gc hd g).1 L1).1 (by omega);rw[Nm hg]at this;subst this;exact Ax.mk ⟨g1,rfl,hg,hgc,L1.cl⟩
 ·rw[show(((d.length+Tt (Ai d g2) d.length:Nat):Int)==((d.length+Tt (Ai d g) d.length:Nat):Int))=false from beq_eq_false_iff_ne.2 (by omega),AQb];exact Ax.mk ⟨62914560-Tt (Ai d g2) d.length,by omega,g2,rfl,rfl,L2.Yt,L2.cl⟩
theorem zg{d:ASw}{e:ASy}{u:ASh}(hd:AB d)(hl:∀x∈e,Gm x)(heq:∀x∈e,x.2.1=true)(HG:CJ d e)(hs:BF d e)(hu:Gm u)(hup:CJ d [u])(hus:BF d [u])(Ns:¬BE (EL d e) (.co false) (.co true)) :
    Ax (GI d e u) λr=>r=true↔∀p,p<(b1 d [u] 0).length->BE (EL d e) (QO (b1 d [u] 0) p) (QO (b2 d [u] 0) p):=by
 have kL:∀x∈[u],Gm x:=λx hx=>by rw[AQn]at hx;rw[hx];exact hu
 obtain⟨WQ,hcb⟩:=pd hd;have de:=hd.1;obtain⟨rc,ec,_,S6⟩:=cC (d:=d) (l:=e) hcb hl;rcases S6 with ⟨_,VT⟩|⟨_,_,_,_,f,rfl,hf⟩
 ·exact(VT ⟨hd,WQ,HG,hs⟩).elim
 obtain⟨v,ev,g,rfl,hg,ZO,hgu⟩:=Ae8 hd hl HG hs hu hup hus hf.Yt hf.cl;have hL:=zi hg ZO;obtain⟨g',e',L',_⟩:=qJ hd hl HG hs hg;have:=hL.unique L';subst this;obtain⟨X,Y,_,eY,hY,hR⟩:=jT hd hl HG hs hL e';rcases hR with ⟨_,_,h⟩|⟨_,n2,_,_,_,N,ld,fx,vm,ks,vs,BA,rt,J,hC,hP⟩
 ·exact(Ns (Avd hd hl HG hs ZO hg h)).elim
 have hP':∀i,i<e.length->∀x∈mj d e g i,P1 (SL d (Ai d g) d.length).length rt vs x:=λi hi=>hP i hi (heq _ (AL (z :=Ae.zero) hi));obtain⟨s1,s2,s3,_⟩:=Rk hd kL hup hus Nat.zero_lt_one;have BO:eF d (b1 d [u] 0) (b2 d [u] 0) g:=hgu 0 (by simp);have eP:=wO hd kL hup hus hgu hg (i:=0) (Nat.zero_lt_one);rw[AQ9]at eP;have hPl:=(lz hd kL hup hus hgu hg Nat.zero_lt_one).1;unfold GI;rw[gN (by omega),APW,ec,APW];simp only;rw[ev,APW,eY,APW,eP,APW];simp only;have hYc:Y=(Y.1,(Bu rt (SL d (Ai d g) d.length).length).map (cV rt fx vs (SL d (Ai d g) d.length).length),Y.2.2.1,()):=by rw[<-hC]
 refine Ax.bind (AlH (λa b vf i=>Ave hd hl HG hs ZO hg J hP' s1 s2 s3 BO vf Y.1 Y.2.2.1 (mj d [u] g 0) i Y hYc) (λi hi=>qk hd kL hup hus Nat.zero_lt_one (AL (z :=Ao.zero) hi)) (by omega)) λt hT=>?_
 ·rcases hT with ⟨rfl,h⟩|⟨rfl,a,b,vf,hn⟩
  ·refine Ax.mk ⟨λ_ p hp=>?_,λ_=>rfl⟩;obtain⟨a,b,vf,h1,h2,h3⟩:=cover (B1:=b1 d [u] 0) (B2:=b2 d [u] 0) (h:=g) (L:=SL d (Ai d g) d.length) hp;have:=h a b vf h3 (p-a) (by omega);rw[show a+(p-a)=p by omega]at this;exact this
  ·refine Ax.mk ⟨λh=>by(cases h),λh=>(hn λj hj=>h (a+j) (by have:=vf.le;omega)).elim⟩
theorem AGt{s t:ASA}(hs:LS s)(ht:LS t):∀x∈[ix s t],Gm x:=λx hx=>by
 rw[AQn]at hx;rw[hx];exact⟨hs,ht⟩
theorem Aff{d:ASw}{s t:ASA}(hs:LS s)(ht:LS t):∃ak,Pm d (s,()) (t,())=some (1,true,(s,()),(t,()),ak)/\(ak=true↔AB d/\CJ d [ix s t]/\BF d [ix s t]):=by
 have hl:=AGt hs ht;obtain⟨r,e,q⟩:=Wo (d:=d) hl;unfold Pm;rw[e,APW];cases r with
 |false=>exact⟨false,rfl,(λh=>by cases h),λh=>(q.2 ⟨h.1,h.2.1⟩)⟩
 |true =>
  obtain⟨hd,hp⟩:=q.1 rfl;obtain⟨v,ev,hv⟩:=WI hd hl hp.1;rw[AQF,AQb,ev,APW];rcases hv with ⟨h1,h2,_⟩|⟨h1,h2⟩
  ·exact⟨true,by rw[h1],λ_=>⟨hd,hp,h2⟩,λ_=>rfl⟩
  ·exact⟨false,by rw[h1],(λh=>by cases h),λh=>(h2 h.2.2).elim⟩
theorem AcL{a:ASE}(hn:a.length<=maxLen):Xx IP a :=
 YS (F:=λx y=>some (OA Ap x y)) (z :=Ap.zero) (r:=λa b=>GD a b (a.length:Int)) (λ_ _=>rfl) (λ_ _ _=>rfl) hn λx _ y=>Ax.mk (by
  obtain⟨x1,x2,x3,_⟩:=x;obtain⟨y1,y2,y3,_⟩:=y;show(x1==y1&&(x2==y2&&(x3==y3&&true)))=true↔_;simp)
theorem fU(v:Nat):LS (Bb (v:Int)):=by
 refine⟨by show 1<=1048576;decide,λn hn=>?_⟩;rw[show Bb (v:Int)=[(1,(v:Int),0,0,(0,([]:ASs),()),([]:ASs),())]from rfl,AQn]at hn;subst hn;exact⟨AQH _,AQH _,λx hx=>by cases hx⟩
theorem Xw{d:ASw}(hd:AB d){v:Nat}(hv:v<d.length):Yl d (Bb (v:Int))=(Sg.va v 0 (W d v)).bits:=by
 obtain⟨w0,_,_⟩:=MF hd hv;show(List.range (dw d v).toNat).map (λa=>Bt.va v a)=_;unfold Sg.bits;rw[show(dw d v).toNat=W d v from rfl];exact AQK λa _=>by rw[AQs]
theorem pO{d:ASw}(hd:AB d){v:Nat}(hv:v<d.length):(DX d (Bb (v:Int))).1=true:=by
 obtain⟨w0,w1,w2⟩:=MF hd hv;have w0:dw d v=(W d v:Int):=w0;have ht:MK d (Bb (v:Int)) [(W d v:Int)]:=by
  refine⟨AP2 _,by show 1<=400;decide,rfl,⟨AP2 _,λj hj=>?_⟩,λk hk=>?_⟩
  ·have:j=0:=by simpa using hj
   subst this;refine⟨λk hk=>(by cases hk),⟨λh=>(h rfl).elim,λ_=>⟨rfl,rfl⟩,λ_=>rfl,λ_=>rfl⟩,.inl ⟨rfl,rfl,by show(0:Int)<=(v:Int);omega,by show(v:Int)<(d.length:Int);omega⟩,?_,by show(1:Int)<=(W d v:Int);omega,by show(W d v:Int)<=4096;omega⟩;show(W d v:Int)=dw d v;exact w0.symm
  ·have hk:k+1<1:=hk;omega
 have ho:tf d (Bb (v:Int)) (Bb (v:Int)).length:=λi hi=>by
  have hi:i<1:=hi;have:i=0:=by omega
  subst this;rw[show(TB d (Bb (v:Int)) (Bb (v:Int)).length).getD 0 []=Yl d (Bb (v:Int))from rfl,Xw hd hv,v7 (by exact w1)];show 1<=2000;decide
 unfold DX;rw[AQe ⟨⟨_,ht⟩,ho⟩]
theorem zY{d:ASw}(hd:AB d){a b:Nat}(ha:a<d.length)(hb:b<d.length)(hw:W d a=W d b):CJ d [ix (Bb (a:Int)) (Bb (b:Int))]/\BF d [ix (Bb (a:Int)) (Bb (b:Int))] :=
 (Acj hd (fU a) (fU b)).2 ⟨pO hd ha,pO hd hb,by rw[Xw hd ha,Xw hd hb,Hh,Hh];exact hw⟩
def SV(d:ASw)(e:ASy)(a b:Nat):Prop:=W d a=W d b/\∀p,p<W d a->BE (EL d e) (.va a p) (.va b p)
theorem qs{v w p:Nat}(h:p<w):QO (Sg.va v 0 w).bits p=.va v p:=by
 show(Sg.va v 0 w).bits.getD p (.co false)=_;simp[Sg.bits,List.getD,h]
theorem Ad4{d:ASw}{e:ASy}(hd:AB d)(hl:∀x∈e,Gm x)(heq:∀x∈e,x.2.1=true)(HG:CJ d e)(hs:BF d e)(Ns:¬BE (EL d e) (.co false) (.co true)){a b:Nat}(ha:a<d.length)(hb:b<d.length)(hw:W d a=W d b) :
    Ax (GI d e (ix (Bb (a:Int)) (Bb (b:Int)))) λr=>r=true↔SV d e a b:=by
 obtain⟨hup,hus⟩:=zY hd ha hb hw;refine(zg hd hl heq HG hs ⟨fU a,fU b⟩ hup hus Ns).mono λr hr=>?_;have e1:b1 d [ix (Bb (a:Int)) (Bb (b:Int))] 0=(Sg.va a 0 (W d a)).bits:=Xw hd ha;have e2:b2 d [ix (Bb (a:Int)) (Bb (b:Int))] 0=(Sg.va b 0 (W d b)).bits:=Xw hd hb;rw[e1,e2,Hh]at hr;rw[hr];constructor
 ·intro h;refine⟨hw,λp hp=>?_⟩;have:=h p hp;rw[qs hp,qs (by omega)]at this;exact this
 ·intro h p hp;have hp:p<W d a:=hp;rw[qs hp,qs (by omega)];exact h.2 p hp
open Classical in
theorem Awa{A:Type}(F:Nat->A)(n:Nat):∃rt:Nat->Nat,∀a b,a<n->b<n->(rt a=rt b↔F a=F b):=by
 refine⟨λv=>(List.range n).findIdx λj=>decide (F j=F v),λa b ha hb=>⟨λh=>?_,λh=>by simp only[h]⟩⟩;have k1:(List.range n).findIdx (λj=>decide (F j=F a))<(List.range n).length:=List.findIdx_lt_length_of_exists ⟨a,List.mem_range.2 ha,by simp⟩;have k2:(List.range n).findIdx (λj=>decide (F j=F b))<(List.range n).length:=List.findIdx_lt_length_of_exists ⟨b,List.mem_range.2 hb,by simp⟩;have g1:=List.findIdx_getElem (w:=k1);have g2:=List.findIdx_getElem (w:=k2);simp only[List.getElem_range,AQ3]at g1 g2;have h:(List.range n).findIdx (λj=>decide (F j=F a))=(List.range n).findIdx (λj=>decide (F j=F b)):=h;rw[<-h]at g2;exact g1.symm.trans g2
section
variable {rt:Nat->Nat}
theorem dv{a:Nat}(h:tv rt a=true):∀{k},k<=a->Db rt k a=[]
 |0,_=>rfl
 |k+1,hk=>by
  rw[Db,AQf (V5.1 h k (by omega)),dv h (by omega)]
theorem oX{a:Nat}(h:tv rt a=true):∀{k},a<k->∃r,Db rt k a=(a:Int)::r
 |k+1,hk=>by
  rw[Db];by_cases e:a=k
  ·subst e;rw[AQe rfl,dv h (AP2 _)];exact⟨[],rfl⟩
  ·obtain⟨r,hr⟩:=oX h (k:=k) (by omega);rw[hr];split
   ·exact⟨_,rfl⟩
   ·exact⟨_,rfl⟩
def TR(rt:Nat->Nat)(k:Nat):ASG:=(Bu rt k).map (Db rt k)
theorem fM(rt:Nat->Nat)(k:Nat):(TR rt k).length=(Bu rt k).length:=AP8 _
theorem lL{k j:Nat}(h:j<(Bu rt k).length):(TR rt k).getD j ATo.zero=Db rt k (rp rt k j):=Fj (Db rt k) (y:=0) h
theorem AdF{k:Nat}(h:tv rt k=true):TR rt (k+1)=TR rt k++[[(k:Int)]]:=by
 unfold TR;rw[Bu,AQe h,AQG,AQI,ARK,Db,AQe rfl,dv h (AP2 _),AQ5];congr 1;refine AQK λa ha=>?_;obtain⟨j,hj,rfl⟩:=List.mem_iff_getElem.1 ha;have hs:=Ri rt k j hj;have e:rp rt k j=(Bu rt k)[j]:=by simp[rp,List.getD,hj]
 rw[Db,AQf λe'=>V5.1 h _ hs.1 (by rw[e];exact e'.symm)]
theorem AdG{k j:Nat}(hj:j<(Bu rt k).length)(h:rt (rp rt k j)=rt k):TR rt (k+1)=(TR rt k).set j ((TR rt k).getD j ATo.zero++[(k:Int)]):=by
 have hn:tv rt k≠true:=λh'=>V5.1 h' _ (Ri rt k j hj).1 h;rw[lL hj];unfold TR;rw[Bu,AQf hn];have:=dt (F:=Db rt k) (G:=Db rt (k+1)) (l:=Bu rt k) (k:=j) (z:=0) hj λk' YB Ke=>by
  rw[Db,AQf λe=>Ke (je YB hj (sk YB hj (by show rt (rp rt k k')=_;rw[h];exact e.symm)))]
 rw[<-this];congr 1;show Db rt (k+1) (rp rt k j)=_;rw[Db,AQe h.symm]
theorem Ah2(rt:Nat->Nat)(k j:Nat):((TR rt k).getD j ATo.zero).length<=k:=by
 by_cases h:j<(Bu rt k).length
 ·rw[lL h];exact UG rt _ _
 ·rw[show(TR rt k).getD j ATo.zero=[] by simp[List.getD,fM,h];rfl];exact AQH _
end
theorem AgO{all:AS}{n k:Nat}(hl:all.length=n)(hn:n<=1048576)(hw:∀v,v<n->(aV all v).length<=1048576){rt:Nat->Nat}(hrt:∀a b,a<n->b<n->(rt a=rt b↔aV all a=aV all b))(hk:k<n) :
    ∃r,D4 (TR rt k) 0 0 (k:Int) all=some (r,(k:Int),all)/\((r=-1/\tv rt k=true)\/∃j:Nat,r=(j:Int)/\j<(Bu rt k).length/\rt (rp rt k j)=rt k):=by
 have hrl:=UJ rt k;have Im:=fM rt k;unfold D4;obtain⟨t,h1,h2⟩:Ax (Ez (TR rt k) 0 0 (k:Int) all ((TR rt k).length:Int) 0) λt=>(t=.inr ()/\tv rt k=true)\/∃j:Nat,t=.inl (j:Int)/\j<(Bu rt k).length/\rt (rp rt k j)=rt k:=by
  unfold Ez;refine Bn (λm (i:Int)=>∃j:Nat,i=(j:Int)/\j<=(Bu rt k).length/\m=(Bu rt k).length-j/\∀j',j'<j->rt (rp rt k j')≠rt k) (λm i hI=>?_) (Bu rt k).length 0 ⟨0,rfl,AQH _,rfl,λj' h=>by omega⟩;obtain⟨j,rfl,hj,rfl,VT⟩:=hI;unfold DN GF;rw[Im];rcases AP7 j (Bu rt k).length with h |h
  ·obtain⟨s1,s2⟩:=Ri rt k j h;obtain⟨q,eq⟩:=oX s2 s1;have tq:=UG rt (rp rt k j) k;rw[Da h,AQc,AQe (Bg h),APX,lL h];obtain⟨r,er,hr⟩:=AcL (a:=aV all (rp rt k j)) (AQq (hw _ (by omega)) ZY) (aV all k);have e1:Le (Db rt k (rp rt k j)) all (k:Int)=some r:=by
    unfold Le;rw[eq,AQ9,AQe ⟨ARj _,by simp⟩,AQe (Bg (by omega)),AQe (Bg (by omega)),APX,APX];show(IP (aV all (rp rt k j)) (aV all k)).bind _=_;rw[er];rfl
   rw[e1,APW,A0 (n:=j+1)];rw[<-hrt _ _ (by omega) hk]at hr;cases r with
   |true=>rw[AQc];exact Ax.mk (.inr ⟨j,rfl,h,hr.1 rfl⟩)
   |false =>
    rw[AQb];refine Ax.mk ⟨(Bu rt k).length-(j+1),by omega,j+1,rfl,by omega,rfl,λj' h'=>?_⟩;by_cases e:j'=j
    ·subst e;exact λh=>by cases hr.2 h
    ·exact VT j' (by omega)
  ·have:j=(Bu rt k).length:=by omega
   subst this;rw[Ep,AQb];refine Ax.mk (.inl ⟨rfl,V5.2 λv hv he=>?_⟩);obtain⟨j',h1,h2⟩:=XR rt k v hv;exact VT j' h1 (h2.trans he)
 rw[h1,APW];rcases h2 with ⟨rfl,h⟩|⟨j,rfl,h,h'⟩
 ·exact⟨-1,rfl,.inl ⟨rfl,h⟩⟩
 ·exact⟨(j:Int),rfl,.inr ⟨j,rfl,h,h'⟩⟩
theorem vL{all:AS}{n:Nat}(hl:all.length=n)(hn:n<=1048576)(hw:∀v,v<n->(aV all v).length<=1048576){rt:Nat->Nat}(hrt:∀a b,a<n->b<n->(rt a=rt b↔aV all a=aV all b)) :
    Ny (n:Int) 0 [] all=some (TR rt n):=by
 unfold Ny;have:=AW (f:=EE (n:Int)) (λk=>((k:Int),TR rt k,all)) (t:=TR rt n) n (λk hk=>?_) ?_
 ·exact this
 ·unfold EE Kr Nx;simp only;have hrl:=UJ rt k;have Im:=fM rt k;obtain⟨r,er,hr⟩:=AgO hl hn hw hrt hk;rw[Da hk,AQc,er,APW,A0 (n:=k+1)];simp only;rcases hr with ⟨rfl,h⟩|⟨j,rfl,h1,h2⟩
  ·rw[AP1 (show(-1:Int)<0 by decide),AQc,AQe (by rw[AQg];omega),AdF h];rfl
  ·rw[APZ (show ¬((j:Int)<0) by omega),AQb];unfold Nw;have tq:=Ah2 rt k j;rw[Im,AQe (Bg h1),APX,AQe (by rw[AQg];omega),AQe (Bg h1),AQe rfl,AdG h1 h2];rfl
 ·unfold EE Kr;simp only;rw[Ep,AQb]
def yz(x:ASs):Bool:=decide ((x.length:Int)>1)
theorem Acl(xs:ASG):xs.filter yz=dn xs:=by
 unfold dn;congr 1
 funext x
 unfold yz V6;rw[ARA,ARw,ARk,AQN];omega
def Vz(rt:Nat->Nat)(n a:Nat):ASG:=((Bu rt a).map (Db rt n)).filter yz
theorem pH(rt:Nat->Nat)(n a:Nat):(Vz rt n a).length<=a:=by
 have:=UJ rt a;have:=ARn yz ((Bu rt a).map (Db rt n));rw[AP8]at this;unfold Vz;omega
def DnP(rt:Nat->Nat)(n:Nat)(P:Nat->Prop)(l:ASt):Prop:=l.length=n/\∀b,b<n->(l.getD b false=true↔P b)
section
variable {d:ASw} {e:ASy} {n:Nat} {rt:Nat->Nat}
theorem Ac8(hdn:d.length=n)(hn:n<=1048576)(hW:∀v,v<n->(d.getD v Ab.zero).2.1=(W d v:Int))(hw:∀a b,a<n->b<n->rt a=rt b->W d a=W d b)
    (hS:∀a b,a<n->b<n->W d a=W d b->Ax (GI d e (ix (Bb (a:Int)) (Bb (b:Int)))) λr=>r=true↔rt a=rt b) {a:Nat} (ha:a<n) (hr:tv rt a=true) (ex:ASG) {l:ASt} (hl:DnP rt n (λb=>∃a',a'<a/\a'<b/\rt a'=rt b) l) :
    Ax (G6 d e (a:Int) ex ((a+1:Nat):Int) l [(a:Int)]) λr=>r.2=Db rt n a/\DnP rt n (λb=>∃a',a'<a+1/\a'<b/\rt a'=rt b) r.1:=by
 have hm:Db rt (a+1) a=[(a:Int)]:=by rw[Db,AQe rfl,dv hr (AP2 _)];rfl
 unfold G6;refine Bn (λm (s:Int×ASt×ASs)=>∃k:Nat,s.1=(k:Int)/\a+1<=k/\k<=n/\m=n-k/\s.2.2=Db rt k a/\DnP rt n (λb=>(∃a',a'<a/\a'<b/\rt a'=rt b)\/(a<b/\b<k/\rt a=rt b)) s.2.1) (λm s hI=>?_) (n-(a+1)) _ ⟨a+1,rfl,AP2 _,ha,rfl,hm.symm,hl.1,λb hb=>by
  rw[hl.2 b hb];exact⟨.inl,λh=>h.elim id λh=>by omega⟩⟩
 obtain⟨k,e1,hk1,hk2,rfl,e2,hd⟩:=hI;obtain⟨s1,s2,s3⟩:=s;simp only at e1 e2 hd;subst e1;subst e2;unfold HA KW J0;simp only;rw[hdn];rcases AP7 k n with h |h
 ·have hda:s2.getD a (Ty.zero .bool)=false:=Bool.eq_false_iff.2 λh'=>by
    rcases(hd.2 a ha).1 h' with ⟨a',h1,_,h3⟩|⟨h1,_⟩
    ·exact V5.1 hr a' h1 h3
    ·omega
  rw[Da h,AQc,AQe (Bg (by rw[hd.1];exact ha)),APX,hda,ARg,AQc,APW];simp only[ARd];unfold NU;simp only[APX];rw[hdn,AQe (Bg ha),AQe (Bg h),hW a ha,hW k h,A0 (n:=k+1)];have next:∀t2,DnP rt n (λb=>(∃a',a'<a/\a'<b/\rt a'=rt b)\/(a<b/\b<k+1/\rt a=rt b)) t2->∃m,m<n-k/\∃k':Nat,((((k+1:Nat):Int),t2,Db rt (k+1) a):Int×ASt×ASs).1=(k':Int)/\a+1<=k'/\k'<=n/\m=n-k'/\((((k+1:Nat):Int),t2,Db rt (k+1) a):Int×ASt×ASs).2.2=Db rt k' a/\DnP rt n (λb=>(∃a',a'<a/\a'<b/\rt a'=rt b)\/(a<b/\b<k'/\rt a=rt b)) t2:=λt2 ht=>⟨n-(k+1),by omega,k+1,rfl,by omega,h,rfl,rfl,ht⟩
  have no:rt a≠rt k->Db rt (k+1) a=Db rt k a/\DnP rt n (λb=>(∃a',a'<a/\a'<b/\rt a'=rt b)\/(a<b/\b<k+1/\rt a=rt b)) s2:=λKe=>by
   refine⟨by rw[Db,AQf λh=>Ke h.symm],hd.1,λb hb=>?_⟩;rw[hd.2 b hb];constructor
   ·rintro(h |⟨h1,h2,h3⟩)
    ·exact .inl h
    ·exact .inr ⟨h1,by omega,h3⟩
   ·rintro(h |⟨h1,h2,h3⟩)
    ·exact .inl h
    ·by_cases e:b=k
     ·subst e;exact(Ke h3).elim
     ·exact .inr ⟨h1,by omega,h3⟩
  by_cases hww:W d a=W d k
  ·rw[show((W d a:Int) !=(W d k:Int))=false from by rw[hww];exact ARe _,AQb];obtain⟨ak,ea,_⟩:=Aff (d:=d) (fU a) (fU k);obtain⟨r,er,hr'⟩:=hS a k ha h hww;rw[ea,APW];simp only;have er':GI d e (1,true,(Bb (a:Int),()),(Bb (k:Int),()),())=some r:=er;rw[er',APW];cases r with
   |true =>
    have hk:=hr'.1 rfl;have tq:=UG rt a k;rw[AQc,AQe (by rw[AQg];omega),AQe (Bg (by rw[hd.1];exact h)),APW];have hme:Db rt (k+1) a=Db rt k a++[(k:Int)]:=by rw[Db,AQe hk.symm]
    rw[<-hme];refine Ax.mk (next _ ⟨by rw[AP5];exact hd.1,λb hb=>?_⟩)
    by_cases e:b=k
    ·subst e;rw[show(s2.set b true).getD b false=true by simp[List.getD,hd.1,hb]];exact⟨λ_=>.inr ⟨by omega,by omega,hk⟩,λ_=>rfl⟩
    ·rw[show(s2.set k true).getD b false=s2.getD b false by simp[List.getD,AQl,Ne.symm e],hd.2 b hb];constructor
     ·rintro(h |⟨h1,h2,h3⟩)
      ·exact .inl h
      ·exact .inr ⟨h1,by omega,h3⟩
     ·rintro(h |⟨h1,h2,h3⟩)
      ·exact .inl h
      ·exact .inr ⟨h1,by omega,h3⟩
   |false =>
    rw[AQb,APW];obtain⟨n1,n2⟩:=no λh=>by cases hr'.2 h
    rw[<-n1];exact Ax.mk (next _ n2)
  ·rw[show((W d a:Int) !=(W d k:Int))=true from bne_iff_ne.2 (by omega),AQc,APW];obtain⟨n1,n2⟩:=no λh'=>hww (hw a k ha h h');rw[<-n1];exact Ax.mk (next _ n2)
 ·have:k=n:=by omega
  subst this;rw[Ep,AQb,APW];simp only[AQW];refine Ax.mk ⟨rfl,hd.1,λb hb=>?_⟩;rw[hd.2 b hb];constructor
  ·rintro(⟨a',h1,h2,h3⟩|⟨h1,h2,h3⟩)
   ·exact⟨a',by omega,h2,h3⟩
   ·exact⟨a,by omega,h1,h3⟩
  ·rintro⟨a',h1,h2,h3⟩
   by_cases e:a'=a
   ·subst e;exact .inr ⟨h2,hb,h3⟩
   ·exact .inl ⟨a',by omega,h2,h3⟩
theorem wP(hdn:d.length=n)(hn:n<=1048576)(hW:∀v,v<n->(d.getD v Ab.zero).2.1=(W d v:Int))(hw:∀a b,a<n->b<n->rt a=rt b->W d a=W d b)
    (hS:∀a b,a<n->b<n->W d a=W d b->Ax (GI d e (ix (Bb (a:Int)) (Bb (b:Int)))) λr=>r=true↔rt a=rt b) :
    IX d e 0 [] (List.replicate n false)=some (Vz rt n n):=by
 obtain⟨r,hr,rfl⟩:Ax (IX d e 0 [] (List.replicate n false)) λr=>r=Vz rt n n:=by
  unfold IX;refine Bn (λm (s:Int×ASG×ASt)=>∃a:Nat,s.1=(a:Int)/\a<=n/\m=n-a/\s.2.1=Vz rt n a/\DnP rt n (λb=>∃a',a'<a/\a'<b/\rt a'=rt b) s.2.2) (λm s hI=>?_) n _ ⟨0,rfl,AQH _,rfl,rfl,AQt,λb hb=>⟨λh=>by simp[List.getD,hb]at h,λ⟨a',h,_⟩=>by omega⟩⟩;obtain⟨a,e1,ha,rfl,e2,hd⟩:=hI;obtain⟨s1,s2,s3⟩:=s;simp only at e1 e2 hd;subst e1;subst e2;unfold Jw OQ;simp only;rw[hdn];rcases AP7 a n with h |h
  ·have Im:=pH rt n a;rw[Da h,AQc];unfold Mj;rw[A0 (n:=a+1)];cases hR:tv rt a with
   |true =>
    obtain⟨r,er,r1,r2⟩:=Ac8 hdn hn hW hw hS h hR (Vz rt n a) hd;have af:Vz rt n (a+1)=Vz rt n a++if yz (Db rt n a)=true then[Db rt n a]else[]:=by
     unfold Vz;rw[Bu,AQe hR,AQG,ARM,AQI,ARK,ARG,List.filter_nil]
    rw[er,APW,r1];cases hb:yz (Db rt n a)with
    |true =>
     rw[show decide (((Db rt n a).length:Int)>1)=true from hb,AQc,AQe (by rw[AQg];omega),APW];rw[hb,AQe rfl]at af;refine Ax.mk ⟨n-(a+1),by omega,a+1,rfl,h,rfl,af.symm,r2⟩
    |false =>
     rw[show decide (((Db rt n a).length:Int)>1)=false from hb,AQb,APW];rw[hb,AQf (by simp),AQB]at af;exact Ax.mk ⟨n-(a+1),by omega,a+1,rfl,h,rfl,af.symm,r2⟩
   |false =>
    obtain⟨j,hj,ej⟩:=iY hR;have hda:s3.getD a (Ty.zero .bool)=true:=(hd.2 a h).2 ⟨j,hj,hj,ej⟩;have af:Vz rt n (a+1)=Vz rt n a:=by
     unfold Vz;rw[Bu,AQf (by rw[hR];simp)]
    have el:G6 d e (a:Int) (Vz rt n a) ((a+1:Nat):Int) s3 [(a:Int)]=some (s3,[(a:Int)]):=by
     unfold G6;refine Jz ?_;unfold HA KW J0;simp only;rw[hdn];by_cases h':a+1<n
     ·rw[Da h',AQc,AQe (Bg (by rw[hd.1];exact h)),APX,hda];rfl
     ·rw[Kg,AQb];rfl
    rw[el,APW];simp only;rw[AQg,show decide (((1:Nat):Int)>1)=false from rfl,AQb,APW];refine Ax.mk ⟨n-(a+1),by omega,a+1,rfl,h,rfl,af.symm,hd.1,λb hb=>?_⟩;rw[hd.2 b hb];constructor
    ·rintro⟨a',h1,h2,h3⟩;exact⟨a',by omega,h2,h3⟩
    ·rintro⟨a',h1,h2,h3⟩
     by_cases e:a'=a
     ·subst e;exact⟨j,hj,by omega,ej.trans h3⟩
     ·exact⟨a',by omega,h2,h3⟩
  ·have:a=n:=by omega
   subst this;rw[Ep,AQb];exact Ax.mk rfl
 exact hr
end
structure Azq (r:Int×ASG):Prop where
 n:r.2.length<=60
 m:∀x∈r.2,x.length<=60
theorem nt{d:ASw}{l:ASy}(de:d.length<=1048576)(fp:l.length<=1048576)(hl:∀x∈l,Gm x):∃r,Pl d l=some r/\Ls d l=some r/\Azq r:=by
 have QP:∀x∈MI l,Gm x:=λx hx=>hl x (List.mem_filter.1 hx).1;have r0:∀c:Int,Azq (c,[]):=λc=>⟨AQH _,λx hx=>by cases hx⟩;obtain⟨r1,e1,q1⟩:=Wo (d:=d) hl;obtain⟨r2,e2,q2⟩:=vH (d:=d) hl;have hr:r1=r2:=by rw[ARA,q1,q2]
 subst hr;unfold Pl Ls UK LZ;rw[e1,e2,APW,APW];cases r1 with
 |false =>
  simp only[ARg,AQc,APW];exact⟨_,rfl,rfl,r0 _⟩
 |true =>
  obtain⟨hd,HG⟩:=q1.1 rfl;simp only[AQF,AQb];obtain⟨r3,e3,q3⟩:=WI hd hl HG.1;obtain⟨r4,e4,q4⟩:=Ww hd hl HG;rw[e3,e4,APW,APW];rcases q3 with ⟨f1,hsd,_⟩|⟨f1,hns⟩
  ·rcases q4 with ⟨f2,_,_⟩|⟨f2,hns⟩
   ·obtain⟨yW,af⟩:=AgL HG hsd;obtain⟨WQ,hcb⟩:=pd hd;obtain⟨rc,ec,himp,S6⟩:=cC (d:=d) (l:=MI l) hcb QP;rcases S6 with ⟨_,VT⟩|⟨_,_,_,_,f,rfl,hf⟩
    ·exact(VT ⟨hd,WQ,yW,af⟩).elim
    obtain⟨X,Y,eX,eY,hY,hR⟩:=jT hd QP yW af hf ec;obtain⟨Avt,AI5⟩:=Gc hd f;have Im:=aT hd Avt d.length (AP2 _);have ANT:=hd.1;obtain⟨v5,ev5,hv5⟩:=Ww hd QP yW;have AJZ:v5.2=(List.range (MI l).length).map (Ov d (MI l)):=by
     rcases hv5 with ⟨_,_,h⟩|⟨_,h⟩
     ·exact h
     ·exact(h af).elim
    rw[f1,f2];simp only[AQF,AQb,APW];simp only[zJ fp,zd fp,gN de,vK de,APW,eY,himp,ev5,AQF,AQb,nc hd Avt AI5,AcM (show(SL d (Ai d f) d.length).length<=1048576 by omega),AJZ,eX];rcases hR with ⟨n1,n2,_⟩|⟨n1,n2,n3,n4,n5,N,ld,fx,vm,ks,vs,BA,rt,J,hC,hP⟩
    ·have p1:decide ((X.2.2.2.2.2.2.2.length:Int)>0)=true:=AP1 (by
       rcases AQk X.2.2.2.2.2.2.2.length with h |h
       ·exact(n1 (List.length_eq_zero_iff.1 h)).elim
       ·omega)
     have p2:decide ((Y.2.2.1.length:Int)>0)=true:=AP1 (by
      rcases AQk Y.2.2.1.length with h |h
      ·exact(n2 (List.length_eq_zero_iff.1 h)).elim
      ·omega)
     rw[p1,p2];simp only[AQc,APW];exact⟨_,rfl,rfl,r0 _⟩
    ·have p1:decide ((X.2.2.2.2.2.2.2.length:Int)>0)=false:=by rw[n1];rfl
     have p2:decide ((Y.2.2.1.length:Int)>0)=false:=by rw[n2];rfl
     rw[p1,p2];simp only[AQb,APW];have hP':∀i,i<(MI l).length->∀x∈mj d (MI l) f i,P1 (SL d (Ai d f) d.length).length rt vs x:=λi hi=>hP i hi (by
      have:=(List.mem_filter.1 (AL (z :=Ae.zero) hi)).2;exact this)
     obtain⟨Ns,AOv⟩:=sem hd QP yW af hf.cl hf.Yt J hP';rw[n3,n4,n5,hC];obtain⟨sg,es,hG⟩:=AiD hd QP yW af hf.cl hf.Yt J 0 X.2.1 X.2.2.2.1 X.2.2.2.2.2.2.2 X.2.2.1 X.2.2.2.2.2.1;rw[es,APW];generalize hA:sg.2.2.2.2.2.2.2.2=all at hG;obtain⟨kt,hkt⟩:=Awa (aV all) d.length;have MP:∀v,v<d.length->(aV all v).length=W d v/\W d v<=4096:=λv hv=>⟨hG.row v hv,(MF hd hv).2.2⟩;have sgv:∀{v p},v<d.length->p<W d v->∃o,yn (SL d (Ai d f) d.length) fx vs rt (.va v p) o/\SgO rt (SL d (Ai d f) d.length).length o (sV all v p):=λ{v p} hv hp=>by
      obtain⟨m,x,w,j,h1,h2,rfl⟩:=AGF hd Avt hv hp;exact⟨_,.inr ⟨m,v,x,w,j,h1,h2,rfl,rfl⟩,hG.ok h1 h2 trivial⟩
     have hSV:∀a b,a<d.length->b<d.length->(kt a=kt b↔SV d (MI l) a b):=λa b ha hb=>by
      rw[hkt a b ha hb];obtain⟨ra,wa⟩:=MP a ha;obtain⟨rb,wb⟩:=MP b hb;have bit:∀p,p<W d a->p<W d b->(sV all a p=sV all b p↔BE (EL d (MI l)) (.va a p) (.va b p)):=λp pa pb=>by
       obtain⟨o,ho,so⟩:=sgv ha pa;obtain⟨o',xH,so'⟩:=sgv hb pb;rw[so.iff so'];exact AbK hd QP yW af hf.cl hf.Yt J hP' ho xH
      constructor
      ·intro h;have hw:W d a=W d b:=by rw[<-ra,<-rb,h]
       refine⟨hw,λp hp=>(bit p hp (by omega)).1 ?_⟩;unfold sV;rw[h]
      ·rintro⟨hw,h⟩
       refine AQV (by omega) λp h1 h2=>?_;have h3:(aV all a).getD p zS=(aV all b).getD p zS:=(bit p (by omega) (by omega)).2 (h p (by omega));have gg:∀(l:ASE) (hp:p<l.length),l.getD p zS=l[p]:=λl hp=>by simp[List.getD,hp]
       have g1:=gg _ h1;have g2:=gg _ h2;exact g1.symm.trans (h3.trans g2)
     have eI:=vL hG.len de (λv hv=>by obtain⟨h1,h2⟩:=MP v hv;omega) hkt;have eS:=wP (e:=MI l) (rt:=kt) rfl de (λv hv=>(MF hd hv).1) (λa b ha hb h=>((hSV a b ha hb).1 h).1) (λa b ha hb hw=>(Ad4 hd QP (λx hx=>(List.mem_filter.1 hx).2) yW af Ns ha hb hw).mono λr hr=>by rw[hr,hSV a b ha hb]);rw[eI,APW];have hrl:=UJ kt d.length;rw[AQe ⟨rfl,by omega,ARj _,by omega,by omega⟩,APX,eS,APW];refine⟨(0,Vz kt d.length d.length),rfl,by rw[<-Acl];rfl,?_,λx hx=>?_⟩
     ·have:=pH kt d.length d.length;show(Vz kt d.length d.length).length<=60;omega
     ·have hx:x∈((Bu kt d.length).map (Db kt d.length)).filter yz:=hx;obtain⟨a,_,rfl⟩:=List.mem_map.1 (List.mem_filter.1 hx).1;have:=UG kt a d.length;omega
   ·exact(hns hsd).elim
  ·rcases q4 with ⟨f2,hsd,_⟩|⟨f2,_⟩
   ·exact(hns hsd).elim
   ·rw[f1,f2];simp only[ARg,AQc,APW];exact⟨_,rfl,rfl,r0 _⟩
theorem qR{a:ASG}(hn:a.length<=maxLen)(hm:∀x∈a,x.length<=maxLen):Xx JM a :=
 YS (F:=Lx) (z:=Ty.zero (.sl (.int .i64))) (r:=Jq) (λ_ _=>rfl) (λ_ _ _=>rfl) hn λx hx=>gb (hm x hx)
def Hii(b:Int)(x:ASs)(b':Int):Prop:=x.length<=1048576/\0<=b/\b<=b'/\Ch Hi x b b'
theorem Adl{a:ASG}(hn:a.length<=1048576)(hm:∀x∈a,x.length<=1048576){k:Int}(h0:0<=k)(hk:k+(((a.map List.length).sum:Nat):Int)<=2305843009213693952):Ax (JQ k a) λr=>k<=r.1/\r.1<=k+(((a.map List.length).sum:Nat):Int)/\r.2.length=a.length/\Ch Hii r.2 k r.1:=by
 unfold JQ OO;refine(UW (f:=Dh) (cost:=List.length) (z:=Ty.zero (.sl (.int .i64))) (a:=a) (H:=Hii) (k:=k) 2305843009213693952 (λb i d hi hd hg rq hb=>?_) (λb d hd=>?_) h0 hk).bind λr hr=>Ax.mk hr
 ·unfold Dh HR;simp only;have hx:=hm _ (AL (z:=Ty.zero (.sl (.int .i64))) hi);obtain⟨m,em,m1,m2,m3,m4⟩:=aG (a:=d.getD i (Ty.zero (.sl (.int .i64)))) (by rw[hg];exact hx) rq (by rw[hg];exact hb);rw[hg]at em m2 m3;rw[hd,Da hi,AQc,AQe (Bg hi),APX,hg,em,APW,Bj hi hn];exact Ax.mk ⟨m.1,m.2,rfl,m1,m2,by rw[m3];exact hx,rq,m1,m4⟩
 ·unfold Dh HR;simp only;rw[hd,Ep,AQb]
theorem AcV{a:ASG}(hn:a.length<=1048576){k k':Int}(h0:0<=k')(h:Ch Hii a k k'):G4 a k=some k':=by
 unfold G4 OM;rw[oC (f:=Df a) (z:=Ty.zero (.sl (.int .i64))) (H:=Hii) (λi b b' hi hH=>by
  unfold Df HQ;simp only;obtain⟨h1,h2,h3,h4⟩:=hH;rw[Da hi,AQc,AQe (Bg hi),APX,mT h1 h4,APW,APZ (show ¬b'<0 by omega),AQb,Bj hi hn]) (λb=>by
  unfold Df HQ;simp only;rw[Ep,AQb]) h]
 rfl
theorem AmP{a:ASG}(h:∀x∈a,x.length<=60):(a.map List.length).sum<=60*a.length:=by
 induction a with
 |nil=>exact AP2 _
 |cons x r ih =>
  have:=ih λy hy=>h y (AQo _ hy);have:=h x (AQr ..);rw[AQI,ARu,AQL];omega
theorem law_ok(n:ASw)(o:ASy)(hn:Ty.Wf (.sl Ab) n)(ho:Ty.Wf (.sl Ae) o):Iv n o=some true:=by
 unfold Iv FF FH FJ;rw[zP hn 1048576 (by omega) (by omega),APW];generalize h1:wt (.sl Ab) n=w1 at *;by_cases c1:(w1:Int)<=1048576
 case neg=>rw[AQf c1];rfl
 rw[AQe c1,Kg,AQb,nJ ho _ (by omega) (by omega),APW];generalize h2:wt (.sl Ae) o=w2 at *;by_cases c2:(w2:Int)<=1048576-(w1:Int)
 case neg=>rw[AQf c2];rfl
 rw[AQe c2,Kg,AQb];have ln:n.length<=1048576:=by have:=sW (t:=Ab) n;omega
 have lo:o.length<=1048576:=by have:=sW (t:=Ae) o;omega
 have bo:∀x∈o,Gm x:=λx hx=>AGs (ho.2 x hx) (by have:=Ajs (t:=Ae) hx;omega);have tn:=zV ln;have to':=nK lo bo;obtain⟨r,s1,s2,hR⟩:=nt (d:=n) ln lo bo;have hRn:=hR.n;have g1:=iM (qR (a:=r.2) (AQq (show r.2.length<=1048576 by omega) ZY) λx hx=>AQq (show x.length<=1048576 by have:=hR.m x hx;omega) ZY);simp only[tn,to',s1,s2,APW,g1,AQF,AQb,ARe,iM (yL hn),iM (mG ho)];have cd:2*n.length<=2*w1:=by have:=sW (t:=Ab) n;omega
 have ct:=Acy o;have Ac2:=AmP hR.m;obtain⟨m1,e1,q1,q1',_⟩:=rV ln (k:=1) (by omega) (by omega);obtain⟨m2,e2,q2,q2',_⟩:=iy lo bo (k:=m1.1) (by omega) (by omega);simp only[e1,e2,APW];rw[Kg];simp only[AQb,APW,g1,AQF,ARe];obtain⟨m4,e4,q4,q4',q5,q6⟩:=Adl (a:=r.2) (by omega) (λx hx=>by have:=hR.m x hx;omega) (k:=1) (by omega) (by omega);have hh:=AcV (by omega) (by omega) q6;simp only[e4,APW,hh];rw[APZ (show ¬m4.1<0 by omega)];simp only[AQb,ARe,tn,to',s2,APW,g1,AQF]
end Go.Proofs.X
