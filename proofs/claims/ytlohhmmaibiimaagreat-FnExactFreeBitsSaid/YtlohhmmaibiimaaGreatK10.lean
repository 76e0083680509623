import Derived.Test.YtlohhmmaibiimaaGreatK9
set_option linter.unusedVariables false
set_option linter.unusedSimpArgs false
namespace Go.Proofs.X
open Go Go.Va
set_option maxRecDepth 100000
def LQ(d:AHY)(l:AH0)(h:Nat->Nat->Bool):Prop:=∀i,i<l.length->jw d (b1 d l i) (b2 d l i) h
structure bK (d:AHY) (l:AH0) (c:AH6) (f:Nat->Nat->Bool):Prop where
 le:OW (C0 c) f
 Y0:∀v p,f v p=true->v<d.length/\1<=p/\p<W d v
 cl:LQ d l f
 min:∀h,LQ d l h->OW (C0 c) h->OW f h
theorem bK.unique{d:AHY}{l:AH0}{c:AH6}{f g:Nat->Nat->Bool}(hf:bK d l c f)(hg:bK d l c g):f=g:=by
 funext v p
 rw[Bool.eq_iff_iff];exact⟨hf.min g hg.cl hg.le v p,hg.min f hf.cl hf.le v p⟩
theorem Af5{d:AHY}{B1 B2:List Bt}(h1:Bm d B1)(h2:Bm d B2)(hl:B1.length=B2.length){f:Nat->Nat->Bool}{o:NX}(he:∀x∈Av B1++Av B2,Qd d f x)(hp:∀p,1<=p->p<B1.length->Vb B1 B2 f o p)
    (hc:∀v p u q:Nat,f v p=true->nk u q∈nx o v p->vb d f u q):jw d B1 B2 f:=by
 have vac:∀{b:Bt},dq b=true->∃v a,b=.va v a:=λ{b} h=>by
  cases b with
  |co _=>cases h
  |va v a=>exact⟨v,a,rfl⟩
 refine⟨he,λp XD Z2=>⟨λZZ hva=>?_,λZZ hva=>?_⟩⟩
 ·obtain⟨u,b,e2⟩:=vac hva;unfold Ri;cases f2:fst B2 p with
  |true=>rfl
  |false =>
   rw[Bool.false_or,e2];show f u b=true;have hb:1<=b/\b<W d u:=by
    rcases WO h2 (show p<B2.length by omega)with ⟨q,_⟩|⟨_,⟨⟨_,q⟩,_⟩|⟨v,a,q,_,q1,q2,_⟩⟩
    ·rw[f2]at q;cases q
    ·rw[e2]at q;cases q
    ·rw[e2]at q;injection q with q3 q4;subst q3;subst q4;exact⟨q1,q2⟩
   cases f1:fst B1 p with
   |true=>exact(hp p XD Z2).1 f1 f2 u b e2
   |false =>
    unfold Ri at ZZ;rw[f1,Bool.false_or]at ZZ;cases e1:RS B1 p with
    |co c=>rw[e1]at ZZ;cases ZZ
    |va v a =>
     rw[e1]at ZZ;exact hc v a u b ZZ ((hp p XD Z2).2.2 f1 f2 v a u b e1 e2).1 hb.1 hb.2
 ·obtain⟨u,b,e1⟩:=vac hva;unfold Ri;cases f1:fst B1 p with
  |true=>rfl
  |false =>
   rw[Bool.false_or,e1];show f u b=true;have hb:1<=b/\b<W d u:=by
    rcases WO h1 Z2 with ⟨q,_⟩|⟨_,⟨⟨_,q⟩,_⟩|⟨v,a,q,_,q1,q2,_⟩⟩
    ·rw[f1]at q;cases q
    ·rw[e1]at q;cases q
    ·rw[e1]at q;injection q with q3 q4;subst q3;subst q4;exact⟨q1,q2⟩
   cases f2:fst B2 p with
   |true=>exact(hp p XD Z2).2.1 f2 f1 u b e1
   |false =>
    unfold Ri at ZZ;rw[f2,Bool.false_or]at ZZ;cases e2:RS B2 p with
    |co c=>rw[e2]at ZZ;cases ZZ
    |va v a =>
     rw[e2]at ZZ;exact hc v a u b ZZ ((hp p XD Z2).2.2 f1 f2 u b v a e1 e2).2 hb.1 hb.2
noncomputable def Qh(d:AHY)(s:SC)(w:AHW):SC:=w.foldl (λs x=>HT d s x.1.toNat x.2.1.toNat) s
theorem vA{d:AHY}{s:SC}{v p:Nat}(hv:v<d.length):(∀x∈s.2,x∈(HT d s v p).2)/\(∀u q,(HT d s v p).1 u q=true->s.1 u q=true\/nk u q∈(HT d s v p).2)/\(HT d s v p).2.length+free d (HT d s v p).1<=s.2.length+free d s.1:=by
 unfold HT;split
 ·rename_i hc;refine⟨λx hx=>AHt _ hx,λu q h=>?_,?_⟩
  ·rcases EH.1 h with h |⟨rfl,rfl⟩
   ·exact .inl h
   ·exact .inr (AHu _ (List.mem_singleton.2 rfl))
  ·have:=Zl hv hc.2.1 hc.2.2;simp only[AGZ,AHf];omega
 ·exact⟨λx h=>h,λu q h=>.inl h,AG1 _⟩
theorem cE{d:AHY}{f0:Nat->Nat->Bool}:∀(w:AHW) (s:SC),(∀x∈w,∃u q:Nat,x=nk u q/\u<d.length)->CI d f0 s->CI d f0 (Qh d s w)/\OW s.1 (Qh d s w).1/\(∀u q,nk u q∈w->vb d (Qh d s w).1 u q) /\
    (∀x∈s.2,x∈(Qh d s w).2)/\(∀u q,(Qh d s w).1 u q=true->s.1 u q=true\/nk u q∈(Qh d s w).2)/\(Qh d s w).2.length+free d (Qh d s w).1<=s.2.length+free d s.1/\∀h,(∀u q,nk u q∈w->vb d h u q)->OW s.1 h->OW (Qh d s w).1 h
 |[],s,_,h1=>⟨h1,λ_ _ h=>h,λ_ _ h=>(by cases h),λ_ h=>h,λ_ _ h=>.inl h,AG1 _,λ_ _ h=>h⟩
 |x::w,s,hv,h1=>by
  obtain⟨u,q,rfl,hu⟩:=hv x AHq;have e:Qh d s (nk u q::w)=Qh d (HT d s u q) w:=by simp[Qh,nk]
  rw[e];obtain⟨k1,k2,k3⟩:=vA (s:=s) (p:=q) hu;obtain⟨i1,i2,i3,i4,i5,i6,i7⟩:=cE w (HT d s u q) (λy hy=>hv y (AHn _ hy)) (h1.cut hu);refine⟨i1,λa b h=>i2 a b (Xu s u q a b h),λa b h=>?_,λy hy=>i4 y (k1 y hy),λa b h=>?_,AHp i6 k3,λh hh hs=>i7 h (λa b hm=>hh a b (AHn _ hm)) (Yk hs (hh u q AHq))⟩
  ·rcases List.mem_cons.1 h with h |h
   ·obtain⟨rfl,rfl⟩:=V6.1 h;exact(Yj s a b).mono i2
   ·exact i3 a b h
  ·rcases i5 a b h with h |h
   ·rcases k2 a b h with h |h
    ·exact .inl h
    ·exact .inr (i4 _ h)
   ·exact .inr h
theorem vw{d:AHY}(hd:AL d){f0:Nat->Nat->Bool}{w:AHW}{s:SC}(hv:∀x∈w,∃u q:Nat,x=nk u q/\u<d.length)(hw:w.length<=1000000)(hs:CI d f0 s){a:Int}{o:NX} :
    ED a o w (w.length:Int) 0 d (M d 0 s.1) s.2=some (d,M d 0 (Qh d s w).1,(Qh d s w).2):=by
 unfold ED;have:=AQ (f:=CF a o w (w.length:Int)) (λk=>((k:Int),d,M d 0 (Qh d s (w.take k)).1,(Qh d s (w.take k)).2)) (t:=(d,M d 0 (Qh d s w).1,(Qh d s w).2)) w.length (λk hk=>?_) ?_
 ·exact this
 ·unfold CF FK;obtain⟨u,q,e,hu⟩:=hv _ (AG (z :=Aa.zero) hk);have hci:=(cE (w.take k) s (λx hx=>hv x (List.mem_of_mem_take hx)) hs).1;simp only[AGW,e];have e1:Bf a (nk u q).1 (nk u q).2.1 d (M d 0 (Qh d s (w.take k)).1) (Qh d s (w.take k)).2=some (d,M d 0 (HT d (Qh d s (w.take k)) u q).1,(HT d (Qh d s (w.take k)) u q).2):=Sp hd hu _ (by have:=hci.len;omega);have e2:Qh d s (w.take (k+1))=HT d (Qh d s (w.take k)) u q:=by
   rw[AX (z :=Aa.zero) hk,e];simp[Qh,List.foldl_append,nk]
  rw[DN hk,AHb,AHd (Bl hk),e1,AGV,Bi hk (by omega),e2]
 ·unfold CF FK;simp only;rw[EB,AHa,AG5 (AG1 _)]
theorem vx{d:AHY}(hd:AL d){f0:Nat->Nat->Bool}{s1:SC}{o:NX}{N:Nat}(hI:LI d f0 s1 o N)(hN:N<=1000000){a:Int} :
    Ax (Hl a o d (M d 0 s1.1) s1.2) λr=>∃s:SC,r=(d,M d 0 s.1,s.2)/\CI d f0 s/\OW s1.1 s.1/\(∀v p u q:Nat,s.1 v p=true->nk u q∈nx o v p->vb d s.1 u q)/\∀h,OW s1.1 h->NJ d h o->OW s.1 h:=by
 unfold Hl;refine B8 (λm (x:AHY×AH7×AHW)=>∃s:SC,x=(d,M d 0 s.1,s.2)/\m=s.2.length+free d s.1/\CI d f0 s/\OW s1.1 s.1/\(∀v p,s.1 v p=true->nk v p∈s.2\/∀u q,nk u q∈nx o v p->vb d s.1 u q)/\∀h,OW s1.1 h->NJ d h o->OW s.1 h) (λm x hx=>?_) _ _ ⟨s1,rfl,rfl,hI.ci,λ_ _ h=>h,λv p h=>.inl (hI.todo v p h),λh hh _=>hh⟩;obtain⟨s,rfl,rfl,hci,RX,S8,vT⟩:=hx;unfold FL Jh;simp only;rcases AHj s.2.length with h0 |h0
 ·have e0:s.2=[]:=List.eq_nil_of_length_eq_zero h0;rw[show decide ((s.2.length:Int)>0)=false from AGY (by omega),AHa];refine Ax.mk ⟨s,rfl,hci,RX,λv p u q h hm=>?_,vT⟩;rcases S8 v p h with h |h
  ·rw[e0]at h;cases h
  ·exact h u q hm
 ·have hlen:=hci.len;obtain⟨v,p,ev,hvp⟩:=hci.BK _ (AG (z :=Aa.zero) (show s.2.length-1<s.2.length by omega));have ev:s.2.getD (s.2.length-1) Aa.zero=nk v p:=ev;rw[show decide ((s.2.length:Int)>0)=true from AG0 (by omega),AHb,A2 (x:=(s.2.length:Int)-1) (n:=s.2.length-1) (by omega) (by omega),AHd (Bl (by omega)),AHd ⟨by omega,by omega⟩];simp only[AGW,ev];have ko:s.2=s.2.take (s.2.length-1)++[nk v p]:=by
   have:=AX (z :=Aa.zero) (l:=s.2) (k:=s.2.length-1) (by omega);rw[show s.2.length-1+1=s.2.length by omega,AG5 (AG1 _),ev]at this;exact this
  have Awr:CI d f0 (s.1,s.2.take (s.2.length-1)):=⟨hci.le,hci.Y0,λx hx=>hci.BK x (List.mem_of_mem_take hx),by simp only[AHg];omega⟩;obtain⟨i1,i2,i3,i4,i5,i6,i7⟩:=cE (nx o v p) (s.1,s.2.take (s.2.length-1)) (λx hx=>hI.nv v p x hx) Awr;have e1:=vw hd (s:=(s.1,s.2.take (s.2.length-1))) (w:=nx o v p) (a:=a) (o:=o) (λx hx=>hI.nv v p x hx) (by have:=hI.nl v p;omega) Awr;have e1':ED a o (Bh Aa AIh o (nk v p)) ((Bh Aa AIh o (nk v p)).length:Int) 0 d (M d 0 s.1) (s.2.take (s.2.length-1))=_:=e1;rw[e1',AGV];simp only[AHg]at i6;refine Ax.mk ⟨(Qh d (s.1,s.2.take (s.2.length-1)) (nx o v p)).2.length+free d (Qh d (s.1,s.2.take (s.2.length-1)) (nx o v p)).1,by omega,_,rfl,rfl,i1,λu q h=>i2 u q (RX u q h),λu q h=>?_,λh h1 h2=>?_⟩
  ·rcases i5 u q h with h |h
   ·rcases S8 u q h with h |h
    ·rw[ko]at h;rcases List.mem_append.1 h with h |h
     ·exact .inl (i4 _ h)
     ·obtain⟨rfl,rfl⟩:=V6.1 (List.mem_singleton.1 h);exact .inr λa b hm=>i3 a b hm
    ·exact .inr λa b hm=>(h a b hm).mono i2
   ·exact .inl h
  ·exact i7 h (λu q hm=>h2 v p u q hm (vT h h1 h2 v p hvp)) (vT h h1 h2)
theorem ky{d:AHY}{l:AH0}(hd:AL d)(hl:∀x∈l,Tc x):Ax (DX d l) λr=>r=true↔ML d l:=by
 have hdd:=hd.1;unfold DX;by_cases hlen:l.length<=60
 ·rw[AGY (by omega:¬(l.length:Int)>60),AHa];refine Ax.bind (P:=λt=>(t=.inl ()/\¬∀i,i<l.length->TX d l i)\/(t=.inr ()/\∀i,i<l.length->TX d l i)) ?_ λt ht=>?_
  ·unfold Jm;have:=BJ (f:=BL d l (l.length:Int)) (λj (_:Unit)=>((if j=0 then 0 else XY l (j-1):Int),(j:Int))) l.length (λj _=>∀k,k<j->TX d l k) (Q:=λt=>(t=.inl ()/\¬∀i,i<l.length->TX d l i)\/(t=.inr ()/\∀i,i<l.length->TX d l i)) (λj _ hj hJ=>?_) (λ_ hJ=>?_) (s0:=()) (λi h=>by omega)
   ·exact this
   ·unfold BL C8;have hB:=hl _ (AG (z :=Af.zero) hj);have e1:Dl d (l.getD j Af.zero).2.2.1=some (F6 d (lS l j)):=O5 hB.1 (by omega);have e2:Dl d (l.getD j Af.zero).2.2.2.1=some (F6 d (lT l j)):=O5 hB.2 (by omega);have e3:(l.getD j Af.zero).1=XY l j:=rfl;simp only;rw[DN hj,AHb,AHd (Bl hj),AGW,e1,AGV];obtain⟨c,hc⟩:∃c:Int,c=if j=0 then 0 else XY l (j-1):=⟨_,rfl⟩;have hcb:0<=c/\c<=1000000/\(0<j->c=XY l (j-1))/\(j=0->c=0):=by
     by_cases h0:j=0
     ·rw[AHd h0]at hc;exact⟨by omega,by omega,λh=>by omega,λ_=>hc⟩
     ·rw[AHe h0]at hc;have:=(hJ (j-1) (by omega)).1;exact⟨by omega,by omega,λ_=>hc,λh=>absurd h h0⟩
    rw[<-hc];obtain⟨b,c7,fC⟩:∃b,C3 d c (F6 d (lS l j)) l (l.length:Int) (j:Int) (l.getD j Af.zero)=some b/\(b=false↔TX d l j):=by
     unfold C3 TX;rw[e3,Kj,BM (x:=c+1) (by omega) (by omega),e2,AGV];by_cases h1:c+1<=XY l j/\XY l j<=1000000
     ·rw[AG0 h1];simp only[Bool.not_true,AHa];by_cases h2:F6 d (lS l j)<0
      ·rw[AG0 h2];exact⟨true,rfl,λh=>by(cases h),λh=>by omega⟩
      ·rw[AGY h2,AHa];refine⟨_,rfl,?_⟩;rw[bne_eq_false_iff_eq];exact⟨λh=>⟨by omega,λh'=>by have:=hcb.2.2.1 h';omega,by omega,h.symm⟩,λh=>h.2.2.2.symm⟩
     ·rw[AGY h1];refine⟨true,rfl,λh=>by(cases h),λh=>?_⟩
      exfalso
      apply h1;rcases AHj j with h0 |h0
      ·have:=hcb.2.2.2 h0;omega
      ·have:=hcb.2.2.1 h0;have:=h.2.1 h0;omega
    rw[c7,AGV];cases b with
    |true=>exact Ax.mk (.inl ⟨rfl,λh=>by have:=fC.2 (h j hj);cases this⟩)
    |false =>
     rw[AHa,Bi hj (by omega)];refine Ax.mk ⟨(),rfl,λk hk=>?_⟩;rcases AG6 k j with h' |h'
     ·exact hJ k h'
     ·rw[show k=j by omega];exact fC.1 rfl
   ·unfold BL C8;simp only;rw[EB,AHa];exact Ax.mk (.inr ⟨rfl,hJ⟩)
  ·rcases ht with ⟨rfl,h⟩|⟨rfl,h⟩
   ·exact Ax.mk ⟨λh=>by(cases h),λh'=>absurd h'.2 h⟩
   ·exact Ax.mk ⟨λ_=>⟨hlen,h⟩,λ_=>rfl⟩
 ·rw[AG0 (by omega:(l.length:Int)>60)];exact Ax.mk ⟨λh=>by(cases h),λh=>absurd h.1 hlen⟩
theorem ku{d:AHY}{l:AH0}{c:AH6}(hc:Vr c)(hl:∀x∈l,Tc x):Ax (Gw d l (c,())) λr =>
    (r=(false,[])/\¬(AL d/\Er d c/\ML d l/\FG d l))\/(AL d/\Er d c/\ML d l/\FG d l/\∃f,r=(true,AY d f)/\bK d l c f):=by
 unfold Gw KB;obtain⟨r1,e1,q1⟩:=oC (d:=d) hc;rw[e1,AGV];cases r1 with
 |false=>exact Ax.mk (.inl ⟨rfl,λh=>by have:=q1.2 ⟨h.1,h.2.1⟩;cases this⟩)
 |true =>
  obtain⟨hd,bh⟩:=q1.1 rfl;obtain⟨r2,e2,q2⟩:=ky (d:=d) hd hl;simp only[Bool.not_true,AHa,e2,AGV];cases r2 with
  |false=>exact Ax.mk (.inl ⟨rfl,λh=>by have:=q2.2 h.2.2.1;cases this⟩)
  |true =>
   have Vw:=q2.1 rfl;simp only[Bool.not_true,AHa];refine Ax.bind (TK hd hl Vw) λv hv=>?_;rcases hv with ⟨f1,hs,f2⟩|⟨f1,hs⟩
   ·rw[f1,f2];simp only[Bool.not_true,AHa];rw[kL hd bh hc,AGV];simp only;have hln:=Vw.1;obtain⟨Qc,Oa⟩:=Adk hd bh;have n0:∀v p,nx ([]:NX) v p=[]:=λv p=>rfl;have od:Ax (KC 0 (((List.range l.length).map (MM d l)).length:Int) 0 d ((List.range l.length).map (MM d l)) (M d 0 (C0 c)) [] (g0 c d.length)) λr=>∃s o,r=(d,M d 0 s.1,o,s.2)/\LI d (C0 c) s o (8192*l.length)/\(∀i,i<l.length->(∀x∈Av (b1 d l i)++Av (b2 d l i),Qd d s.1 x)/\∀p,1<=p->p<(b1 d l i).length->Vb (b1 d l i) (b2 d l i) s.1 o p)/\∀h,LQ d l h->OW (C0 c) h->OW s.1 h/\NJ d h o:=by
     unfold KC;have:=BJ (f:=Dw 0 (((List.range l.length).map (MM d l)).length:Int)) (λk (x:SC×NX)=>((k:Int),d,(List.range l.length).map (MM d l),M d 0 x.1.1,x.2,x.1.2)) l.length
      (λk x=>LI d (C0 c) x.1 x.2 (8192*k)/\(∀i,i<k->(∀y∈Av (b1 d l i)++Av (b2 d l i),Qd d x.1.1 y)/\∀p,1<=p->p<(b1 d l i).length->Vb (b1 d l i) (b2 d l i) x.1.1 x.2 p)/\∀h,LQ d l h->OW (C0 c) h->OW x.1.1 h/\NJ d h x.2)
      (Q:=λr=>∃s o,r=(d,M d 0 s.1,o,s.2)/\LI d (C0 c) s o (8192*l.length)/\(∀i,i<l.length->(∀x∈Av (b1 d l i)++Av (b2 d l i),Qd d s.1 x)/\∀p,1<=p->p<(b1 d l i).length->Vb (b1 d l i) (b2 d l i) s.1 o p)/\∀h,LQ d l h->OW (C0 c) h->OW s.1 h/\NJ d h o)
      (λk x hk hx=>?_) (λx hx=>?_) (s0:=((C0 c,g0 c d.length),[])) ⟨⟨Qc,Oa,λv p x hx=>(by rw[n0]at hx;cases hx),λv p=>(by rw[n0];simp)⟩,λi hi=>by omega,λh _ hh=>⟨hh,λv p u q hm=>(by rw[n0]at hm;cases hm)⟩⟩
     ·exact this
     ·obtain⟨j1,j2,j3⟩:=hx;obtain⟨s1,s2,s3,s4,_,_⟩:=TA hd hl Vw hs hk;have eg:((List.range l.length).map (MM d l)).getD k (Ty.zero (.Au AIe (.Au AIe .unit)))=(fN (b1 d l k),fN (b2 d l k),()):=by
       rw[<-s4];exact Jx hk
      unfold Dw Ie;simp only[AGW,eg];obtain⟨s',o',k1,k2,k3,k4,k5,k6,k7⟩:=AfI hd s1 s2 s3 j1 (by omega) (a:=0) (dd:=(List.range l.length).map (MM d l));rw[AG7,AHC,DN hk,AHb,AHd (Bl hk),k1,AGV,Bi hk (by omega)];refine Ax.mk ⟨(s',o'),rfl,by rw[show 8192*(k+1)=8192*k+8192 by omega];exact k2,λi hi=>?_,λh hh GR=>?_⟩
      ·rcases AG6 i k with Bj |YW
       ·obtain⟨a1,a2⟩:=j2 i Bj;refine⟨λy hy=>?_,λp p1 p2=>(a2 p p1 p2).mono k3 k4⟩;have:=a1 y hy;cases y with
        |co b=>trivial
        |va v l n=>exact⟨this.1.mono k3,this.2.mono k3⟩
       ·rw[show i=k by omega];exact⟨k5,k6⟩
      ·obtain⟨a1,a2⟩:=j3 h hh GR;exact k7 h (hh k hk) a1 a2
     ·unfold Dw Ie;simp only;rw[AG7,AHC,EB,AHa];exact Ax.mk ⟨x.1,x.2,rfl,hx⟩
    obtain⟨r,hr,s,o,rfl,j1,j2,j3⟩:=od;rw[hr,AGV];unfold Hk;simp only;obtain⟨r,hr,s',rfl,k1,k2,k3,k4⟩:=vx hd j1 (by omega) (a:=0);have bj:=hd.1;rw[hr,AGV];simp only;rw[AHd (show Ty.row AIf=true/\(0:Int)<=(d.length:Int)/\(d.length:Int)<=(d.length:Int)/\((24:Nat):Int)*(d.length:Int)<=281474976710656/\(d.length:Int)<=9223372036854775807 from⟨rfl,by omega,by omega,by omega,by omega⟩),TY,AGW,
     rL hd (λv=>by cases hv:s'.1 v 0 with |false=>rfl |true=>have:=(k1.Y0 v 0 hv).2.1;omega),AGV,AGV]
    refine Ax.mk (.inr ⟨hd,bh,Vw,hs,s'.1,rfl,k1.le,k1.Y0,λi hi=>?_,λh h1 h2=>?_⟩)
    ·obtain⟨s1,s2,s3,_,_,_⟩:=TA hd hl Vw hs hi;obtain⟨a1,a2⟩:=j2 i hi;refine Af5 s1 s2 s3 (o:=o) (λy hy=>?_) (λp p1 p2=>(a2 p p1 p2).mono k2 λ_ _ _ h=>h) k3;have:=a1 y hy;cases y with
     |co b=>trivial
     |va v l n=>exact⟨this.1.mono k2,this.2.mono k2⟩
    ·obtain⟨a1,a2⟩:=j3 h h1 h2;exact k4 h a1 a2
   ·rw[f1];exact Ax.mk (.inl ⟨rfl,λh=>hs h.2.2.2⟩)
def sd(d:AHY)(l:AH0)(i s:Nat):List Bt:=if s=0 then b1 d l i else b2 d l i
def ay{A:Type}(f:Nat->Nat->A)(n:Nat):List A:=(List.range n).flatMap λi=>[f i 0,f i 1]
theorem eM{A:Type}(f:Nat->Nat->A)(n:Nat):ay f (n+1)=ay f n++[f n 0,f n 1]:=by
 unfold ay;rw[List.range_succ,List.flatMap_append];simp
theorem TD{A:Type}(f:Nat->Nat->A):∀n,(ay f n).length=2*n
 |0=>rfl
 |n+1=>by rw[eM,AGZ,TD f n];simp;omega
theorem uT{A:Type}(f:Nat->Nat->A){z:A}:∀{n i s:Nat},i<n->s<2->(ay f n).getD (2*i+s) z=f i s
 |n+1,i,s,hi,hs=>by
  rw[eM];simp only[List.getD];rcases AG6 i n with h |h
  ·rw[AHi (by rw[TD];omega)];exact uT f h hs
  ·have:i=n:=by omega
   subst this;rw[AHh (by rw[TD];omega),TD,show 2*i+s-2*i=s by omega]
   match s,hs with
   |0,_=>rfl
   |1,_=>rfl
theorem Xf{d:AHY}{l:AH0}(hd:AL d)(hl:∀x∈l,Tc x)(hlen:l.length<=60):Ax (JR d l) λr=>(r.1=true/\FG d l/\r.2=ay (λi s=>(F3 d (if s=0 then lS l i else lT l i)).2) l.length)\/(r.1=false/\¬FG d l):=by
 unfold JR;refine Ax.bind (P:=λt=>(∃x,t=.inl x/\¬FG d l)\/(t=.inr (ay (λi s=>(F3 d (if s=0 then lS l i else lT l i)).2) l.length)/\FG d l)) ?_ λt ht=>?_
 ·unfold RI;refine B8 (λm (x:Int×AH9)=>∃k:Nat,k<=l.length/\m=l.length-k/\x.1=(k:Int)/\x.2=ay (λi s=>(F3 d (if s=0 then lS l i else lT l i)).2) k/\∀i,i<k->bP d l i) (λm x hI=>?_) l.length _ ⟨0,Nat.zero_le _,rfl,rfl,rfl,λi hi=>by omega⟩;obtain⟨x1,x2⟩:=x;obtain⟨k,hk,rfl,h1,h2,h3⟩:=hI;simp only at h1 h2;subst h1;subst h2;unfold Lb PU P2;simp only;rcases AG6 k l.length with h |h
  ·have hB:=hl _ (AG (z :=Af.zero) h);have e1:CM d (l.getD k Af.zero).2.2.1=some (F3 d (lS l k)):=Pr hd hB.1;have e2:CM d (l.getD k Af.zero).2.2.2.1=some (F3 d (lT l k)):=Pr hd hB.2;rw[DN h,AHb,AHd (Bl h),AGW,e1,AGV,AHd (Bl h),e2,AGV];cases hc:(!(F3 d (lS l k)).1||!(F3 d (lT l k)).1)with
   |true =>
    refine Ax.mk (.inl ⟨_,rfl,λh'=>?_⟩);have:=kT.2 (h' k h);rw[hc]at this;cases this
   |false =>
    rw[AHa,AHd (by rw[TD];show(2*k+2)*24<=_;omega),Bi h (by omega)];refine Ax.mk ⟨l.length-(k+1),by omega,k+1,h,rfl,rfl,(eM _ k).symm,λi hi=>?_⟩;rcases AG6 i k with h' |h'
    ·exact h3 i h'
    ·rw[show i=k by omega];exact kT.1 hc
  ·have:k=l.length:=by omega
   subst this;rw[EB,AHa];exact Ax.mk (.inr ⟨rfl,h3⟩)
 ·rcases ht with ⟨x,rfl,h⟩|⟨rfl,h⟩
  ·exact Ax.mk (.inr ⟨rfl,h⟩)
  ·exact Ax.mk (.inl ⟨rfl,h,rfl⟩)
def Xx(f:Nat->Nat->Bool):Sg->Nat->Nat->Bool
 |.co _=>f
 |.va v l n=>mark (mark f v l) v (l+n)
theorem Ac9{d:AHY}(hd:AL d){ks:List (List Sg)}{m i:Nat}(hm:m<ks.length)(hi:i<(ks.getD m []).length)(Fx:Ti d ((ks.getD m []).getD i (.co []))){f:Nat->Nat->Bool}{o:AH3} :
    Kb (m:Int) (i:Int) (M d 1 f) (ks.map fV) o=some (M d 1 (Xx f ((ks.getD m []).getD i (.co [])))):=by
 unfold Kb;have e1:(ks.map fV).getD m AIe.zero=fV (ks.getD m []):=Iy fV hm;simp only[AGW,e1,cM hi];rw[AG7,AHd (Bl hm),BZ,AHd (Bl hi)];cases hs:(ks.getD m []).getD i (.co [])with
 |co b=>rfl
 |va v a n =>
  rw[hs]at Fx;obtain⟨hv,hn,hw⟩:=Fx;obtain⟨e0,bn,dn⟩:=Qf hd hv;have e2:(He (.va v a n)).1=(v:Int):=rfl;have e3:(He (.va v a n)).2.1=(a:Int):=rfl;have e5:(He (.va v a n)).2.2.1=(n:Int):=rfl;have e4:wI ((a:Int)+(n:Int))=((a+n:Nat):Int):=A2 (by omega) (by omega);simp only[e2,e3,e5,e4,AGW];have q1:(M d 1 f).set v (((M d 1 f).getD v AIg.zero).set a true)=M d 1 (mark f v a):=jj hv;simp only[q1];have q2:(M d 1 (mark f v a)).set v (((M d 1 (mark f v a)).getD v AIg.zero).set (a+n) true)=M d 1 (mark (mark f v a) v (a+n)):=jj hv;simp only[q2];rw[show decide ((v:Int)>=0)=true from AG0 (by omega),AHb,TY,AHd (Bl hv),VB hv,IR,AHd (show(0:Int)<=(a:Int)/\(a:Int)<((W d v+1:Nat):Int)from⟨by omega,by omega⟩),TY,AHd (Bl hv),VB hv,IR,AHd (show(0:Int)<=((a+n:Nat):Int)/\((a+n:Nat):Int)<((W d v+1:Nat):Int)from⟨by omega,by omega⟩)];rfl
theorem Ada{d:AHY}(hd:AL d){ks:List (List Sg)}{m:Nat}(hm:m<ks.length)(hb:(ks.getD m []).length<=1048576)(Fx:∀x∈ks.getD m [],Ti d x){f:Nat->Nat->Bool}{o:AH3} :
    NU (m:Int) (ks.map fV) o 0 (M d 1 f)=some (M d 1 ((ks.getD m []).foldl Xx f)):=by
 unfold NU;have e1:(ks.map fV).getD m AIe.zero=fV (ks.getD m []):=Iy fV hm;have:=AQ (f:=Fe (m:Int) (ks.map fV) o) (λk=>((k:Int),M d 1 (((ks.getD m []).take k).foldl Xx f))) (t:=M d 1 ((ks.getD m []).foldl Xx f)) (ks.getD m []).length (λk hk=>?_) ?_
 ·exact this
 ·unfold Fe K3;simp only[AGW,e1];rw[AG7,AHd (Bl hm),BZ,DN hk,AHb,Ac9 hd hm hk (Fx _ (AG hk)),AGV,Bi hk hb,AX (z:=.co []) hk,List.foldl_append];rfl
 ·unfold Fe K3;simp only[AGW,e1];rw[AG7,AHd (Bl hm),BZ,EB,AHa,AG5 (AG1 _)]
def Xe(B:List Bt):AHO:=(bV B,Vg (Av B),())
theorem Adb{d:AHY}(hd:AL d){bs:List (List Bt)}(hb:∀B∈bs,Bm d B)(hl:bs.length<=1000){f:Nat->Nat->Bool} :
    NW (bs.map fN) 0 (M d 1 f) []=some (M d 1 ((bs.flatMap Av).foldl Xx f),bs.map Xe):=by
 unfold NW;have em:bs.map fN=(bs.map Av).map fV:=by rw[List.map_map];rfl
 have:=AQ (f:=Ff (bs.map fN)) (λk=>((k:Int),M d 1 (((bs.take k).flatMap Av).foldl Xx f),(bs.take k).map Xe)) (t:=(M d 1 ((bs.flatMap Av).foldl Xx f),bs.map Xe)) bs.length (λk hk=>?_) ?_
 ·exact this
 ·unfold Ff K4;have hB:=hb _ (AG (z:=[]) hk);have e1:(bs.map fN).getD k AIe.zero=fN (bs.getD k []):=Iy fN hk;have e2:(bs.map Av).getD k []=Av (bs.getD k []):=Iy Av hk;have e3:=Ada hd (ks:=bs.map Av) (m:=k) (by rw[AG7];exact hk) (by rw[e2];have:=CP (CV (bs.getD k []));rw[Cj]at this;have:=hB.2.1;omega) (by rw[e2];exact λx hx=>(Wc hB hx).1) (f:=((bs.take k).flatMap Av).foldl Xx f) (o:=(bs.take k).map Xe);rw[<-em,e2]at e3;simp only[AGW,e1];rw[AG7,DN hk,AHb,e3,AGV,AHd (Bl hk),Acr hd hB,AGV,AHd (by simp;omega),Bi hk (by omega),AX (z:=[]) hk,List.flatMap_append,List.foldl_append,List.map_append];simp only[List.flatMap_cons,List.flatMap_nil,AHA,List.map_cons,List.map_nil];rfl
 ·unfold Ff K4;simp only;rw[AG7,EB,AHa,AG5 (AG1 _)]
def oN(f:Nat->Nat->Bool):Bt->Nat->Nat->Bool
 |.co _=>f
 |.va v a=>mark f v a
def Zq(A B:List Bt)(f:Nat->Nat->Bool)(p:Nat):Bool:=Ri A f p&&(!Ri B f p&&dq (RS B p))
section
variable {d:AHY} {l:AH0}
def Uq(d:AHY)(l:AH0):AH3:=ay (λi s=>Xe (sd d l i s)) l.length
theorem ZK{i s:Nat}(hi:i<l.length)(hs:s<2):(Uq d l).getD (2*i+s) An.zero=Xe (sd d l i s):=uT (λi s=>Xe (sd d l i s)) hi hs
structure Vy (d:AHY) (l:AH0):Prop where
 hd:AL d
 len:l.length<=60
 xE:∀i s,i<l.length->Bm d (sd d l i s)
 dY:∀i,i<l.length->(sd d l i 0).length=(sd d l i 1).length
theorem Vy.eq(h:Vy d l){i:Nat}(hi:i<l.length)(s t:Nat):(sd d l i s).length=(sd d l i t).length:=by
 have:=h.dY i hi;unfold sd at this⊢;rw[AHd rfl,AHe (by omega)]at this;split<;>split<;>first |rfl |exact this |exact this.symm
theorem Adc(H:Vy d l){i s p:Nat}(hi:i<l.length)(hs:s<2)(hp:p<(sd d l i 0).length){f:Nat->Nat->Bool}{q:Bool}{e j:Int} :
    Kc q ((2*i:Nat):Int) e j (p:Int) (s:Int) (M d 1 f) (Uq d l)=some (bif Zq (sd d l i s) (sd d l i (1-s)) f p then(true,M d 1 (oN f (RS (sd d l i (1-s)) p)))else(q,M d 1 f)):=by
 unfold Kc NZ;have hlen:=H.len;have e1:wI (((2*i:Nat):Int)+(s:Int))=((2*i+s:Nat):Int):=A2 (by omega) (by omega);have e2:wI (wI (((2*i:Nat):Int)+1)-(s:Int))=((2*i+(1-s):Nat):Int):=by
  rw[A2 (x:=((2*i:Nat):Int)+1) (n:=2*i+1) (by omega) (by omega)];exact A2 (by omega) (by omega)
 have g1:=ZK (d:=d) hi hs;have g2:=ZK (d:=d) hi (show 1-s<2 by omega);have hA:=H.xE i s hi;have hB:=H.xE i (1-s) hi;have hpA:p<(sd d l i s).length:=by rw[H.eq hi s 0];exact hp
 have hpB:p<(sd d l i (1-s)).length:=by rw[H.eq hi (1-s) 0];exact hp
 have Iz:(Uq d l).length=2*l.length:=TD _ _;have eb:(bV (sd d l i (1-s))).getD p Aa.zero=TF (RS (sd d l i (1-s)) p):=b7 hpB;simp only[e1,e2,AGW,g1,g2];rw[Iz,AHd (Bl (by omega)),AHd (Bl (by omega))];unfold Xe;simp only[eb];rw[Qy H.hd hA hpA,AGV];unfold Zq;cases Ri (sd d l i s) f p with
 |false=>rfl
 |true =>
  rw[AHb,pG H.hd hB hpB,AGV,AGV,Bool.true_and];cases hw:(!Ri (sd d l i (1-s)) f p&&dq (RS (sd d l i (1-s)) p))with
  |false=>rfl
  |true =>
   rw[AHb,AHb,C1,AHd (Bl hpB)];have hb:=yV hB hpB;cases hbb:RS (sd d l i (1-s)) p with
   |co c=>rw[hbb]at hw;simp[dq]at hw
   |va v a =>
    rw[hbb]at hb;obtain⟨hv,ha⟩:=hb;obtain⟨e0,bn,dn⟩:=Qf H.hd hv;have m1:(M d 1 f).set v (((M d 1 f).getD v AIg.zero).set a true)=M d 1 (mark f v a):=jj hv;have c1:(TF (.va v a)).1=(v:Int):=rfl;have c2:(TF (.va v a)).2.1=(a:Int):=rfl;simp only[c1,c2,AGW,m1];rw[TY,AHd (Bl hv),AHd (Bl hpB),VB hv,IR,AHd (show(0:Int)<=(a:Int)/\(a:Int)<((W d v+1:Nat):Int)from⟨by omega,by omega⟩)];rfl
def kW(d:AHY)(f:Nat->Nat->Bool):Nat->Nat->Bool:=λv p=>decide (v<d.length/\1<=p/\p<W d v)&&f v p
theorem NF{f:Nat->Nat->Bool}{v p:Nat}:kW d f v p=true↔(v<d.length/\1<=p/\p<W d v)/\f v p=true:=by simp[kW]
theorem q9{B:List Bt}(h:Bm d B){p:Nat}(hp:p<B.length)(f:Nat->Nat->Bool):Ri B (kW d f) p=Ri B f p:=by
 unfold Ri;rcases WO h hp with ⟨q,_⟩|⟨q,⟨⟨b,e⟩,_⟩|⟨v,a,e,h1,h2,h3,_⟩⟩
 ·rw[q];rfl
 ·rw[e];rfl
 ·rw[e,q];simp[vR,kW,h1,h2,h3]
structure SW (d:AHY) (l:AH0) (fs:Nat->Nat->Bool) (ok:Prop) (q:Bool) (f:Nat->Nat->Bool):Prop where
 no:q=false->f=fs/\ok
 yes:q=true->free d f+1<=free d fs
 le:OW fs f
 min:∀h,LQ d l h->OW (kW d fs) h->OW (kW d f) h
theorem SW.imp{fs f:Nat->Nat->Bool}{ok ok':Prop}{q:Bool}(h:SW d l fs ok q f)(hi:ok->ok'):SW d l fs ok' q f:=⟨λe=>⟨(h.no e).1,hi (h.no e).2⟩,h.yes,h.le,h.min⟩
def pY(d:AHY)(l:AH0)(fs:Nat->Nat->Bool)(i p s:Nat):Prop:=Zq (sd d l i s) (sd d l i (1-s)) fs p=false
theorem Af6(H:Vy d l){fs f:Nat->Nat->Bool}{ok:Prop}{q:Bool}(h:SW d l fs ok q f){i s p:Nat}(hi:i<l.length)(hs:s<2)(XD:1<=p)(hp:p<(sd d l i 0).length) :
    SW d l fs (ok/\pY d l fs i p s) (bif Zq (sd d l i s) (sd d l i (1-s)) f p then true else q) (bif Zq (sd d l i s) (sd d l i (1-s)) f p then oN f (RS (sd d l i (1-s)) p)else f):=by
 cases hh:Zq (sd d l i s) (sd d l i (1-s)) f p with
 |false =>
  refine⟨λe=>?_,h.yes,h.le,h.min⟩;obtain⟨e1,e2⟩:=h.no e;exact⟨e1,e2,by rw[e1]at hh;exact hh⟩
 |true =>
  have hA:=H.xE i s hi;have hB:=H.xE i (1-s) hi;have hpA:p<(sd d l i s).length:=by rw[H.eq hi s 0];exact hp
  have hpB:p<(sd d l i (1-s)).length:=by rw[H.eq hi (1-s) 0];exact hp
  unfold Zq at hh;rw[AG2,AG2,Bool.not_eq_true']at hh;obtain⟨c1,c2,c3⟩:=hh;have key:∃v a,RS (sd d l i (1-s)) p=.va v a/\v<d.length/\1<=a/\a<W d v/\f v a=false:=by
   rcases WO hB hpB with ⟨e,_⟩|⟨e,⟨⟨b,e'⟩,_⟩|⟨v,a,e',h1,h2,h3,_⟩⟩
   ·unfold Ri at c2;rw[e]at c2;cases c2
   ·rw[e']at c3;cases c3
   ·refine⟨v,a,e',h1,h2,h3,?_⟩;unfold Ri at c2;rw[e,e',Bool.false_or]at c2;exact c2
  obtain⟨v,a,e1,h1,h2,h3,h4⟩:=key;have RX:OW f (oN f (RS (sd d l i (1-s)) p)):=λu b hu=>by rw[e1];exact EH.2 (.inl hu)
  have ACw:free d (oN f (RS (sd d l i (1-s)) p))+1<=free d f:=by rw[e1];exact Zl h1 h3 h4
  refine⟨λe=>(by cases e),λ_=>?_,λu b hu=>RX u b (h.le u b hu),λg hg hgs=>?_⟩
  ·rw[AHb];have:free d f<=free d fs:=List.countP_mono_left λx _ hx=>by
    simp only[Bool.not_eq_true']at hx⊢;cases hq:fs x.1 x.2 with
    |false=>rfl
    |true=>rw[h.le _ _ hq]at hx;cases hx
   omega
  ·rw[AHb,e1];have hm:=h.min g hg hgs;intro u b hub;obtain⟨hr,hub⟩:=NF.1 hub;rcases EH.1 hub with hub |⟨rfl,rfl⟩
   ·exact hm u b (NF.2 ⟨hr,hub⟩)
   ·have Aws:Ri (sd d l i s) g p=true:=by
      rw[<-q9 hA hpA f]at c1;unfold Ri at c1⊢;rw[Bool.or_eq_true]at c1⊢;refine c1.imp id λc=>?_;cases hx:RS (sd d l i s) p with
      |co _=>rw[hx]at c;cases c
      |va v' a'=>rw[hx]at c;exact hm v' a' c
    have ZZ:Ri (sd d l i (1-s)) g p=true:=by
     have Vj:=(hg i hi).2 p XD hp
     match s,hs with
     |0,_=>exact Vj.1 Aws c3
     |1,_=>exact Vj.2 Aws c3
    unfold Ri at ZZ c2;rw[Bool.or_eq_false_iff]at c2;rw[c2.1,e1,Bool.false_or]at ZZ;exact ZZ
theorem Ade(H:Vy d l){i p:Nat}(hi:i<l.length)(XD:1<=p)(hp:p<(sd d l i 0).length){fs f:Nat->Nat->Bool}{ok:Prop}{q:Bool}(h:SW d l fs ok q f){e j:Int} :
    Ax (N0 ((2*i:Nat):Int) e j (Uq d l) (p:Int) q 0 (M d 1 f)) λr=>∃f',r.2=M d 1 f'/\SW d l fs (ok/\pY d l fs i p 0/\pY d l fs i p 1) r.1 f':=by
 unfold N0;have:=BJ (f:=Fg ((2*i:Nat):Int) e j (Uq d l) (p:Int)) (λk (x:Bool×(Nat->Nat->Bool))=>(x.1,(k:Int),M d 1 x.2)) 2 (λk x=>SW d l fs (ok/\∀s,s<k->pY d l fs i p s) x.1 x.2) (Q:=λr=>∃f',r.2=M d 1 f'/\SW d l fs (ok/\pY d l fs i p 0/\pY d l fs i p 1) r.1 f') (λk x hk hx=>?_) (λx hx=>?_) (s0:=(q,f)) (h.imp λh=>⟨h,λs hs=>by omega⟩)
 ·exact this
 ·unfold Fg K5;simp only;rw[show decide ((k:Int)<2)=true from AG0 (by omega),AHb,Adc H hi hk hp,AGV,Bi (n:=2) hk (by omega)];have:=Af6 H hx hi hk XD hp;refine Ax.mk ⟨(bif Zq (sd d l i k) (sd d l i (1-k)) x.2 p then true else x.1,bif Zq (sd d l i k) (sd d l i (1-k)) x.2 p then oN x.2 (RS (sd d l i (1-k)) p)else x.2),?_,this.imp λ⟨⟨h1,h2⟩,h3⟩=>⟨h1,λs hs=>?_⟩⟩
  ·cases Zq (sd d l i k) (sd d l i (1-k)) x.2 p<;>rfl
  ·rcases AG6 s k with h' |h'
   ·exact h2 s h'
   ·rw[show s=k by omega];exact h3
 ·unfold Fg K5;simp only;rw[show decide (((2:Nat):Int)<2)=false from rfl,AHa];exact Ax.mk ⟨x.2,rfl,hx.imp λ⟨h1,h2⟩=>⟨h1,h2 0 (by omega),h2 1 (by omega)⟩⟩
theorem xg(H:Vy d l){i k:Nat}(hi:i<l.length)(hk:1<=k)(hk2:k<2*(sd d l i 0).length){fs f:Nat->Nat->Bool}{ok:Prop}{q:Bool}(h:SW d l fs ok q f) :
    Ax (I5 q ((2*i:Nat):Int) ((sd d l i 0).length:Int) (k:Int) (M d 1 f) (Uq d l)) λr=>∃f',r.2=M d 1 f'/\SW d l fs (ok/\(k<(sd d l i 0).length->pY d l fs i k 0/\pY d l fs i k 1)) r.1 f':=by
 unfold I5 P2 NY;have hb:=(H.xE i 0 hi).2.1;have ep:(bif decide ((k:Int)>=((sd d l i 0).length:Int))then wI (wI (2*((sd d l i 0).length:Int))-(k:Int))else(k:Int))=((if(sd d l i 0).length<=k then 2*(sd d l i 0).length-k else k:Nat):Int):=by
  by_cases hc:(sd d l i 0).length<=k
  ·rw[AG0 (by omega),AHb,AHd hc,A2 (x:=2*((sd d l i 0).length:Int)) (n:=2*(sd d l i 0).length) (by omega) (by omega)];exact A2 (by omega) (by omega)
  ·rw[AGY (by omega),AHa,AHe hc]
 rw[ep];obtain⟨p,hp⟩:∃p,p=if(sd d l i 0).length<=k then 2*(sd d l i 0).length-k else k:=⟨_,rfl⟩;rw[<-hp];have hpk:k<(sd d l i 0).length->p=k:=λBj=>by rw[hp,AHe (by omega)]
 have XD:1<=p:=by rw[hp];split<;>omega
 rw[show decide ((p:Int)<1)=false from AGY (by omega),AHa];by_cases hc:p<(sd d l i 0).length
 ·rw[show decide ((p:Int)>=((sd d l i 0).length:Int))=false from AGY (by omega),AHa,AGV];refine Ax.bind (Ade H hi XD hc h) λr hr=>?_;obtain⟨f',e1,e2⟩:=hr;refine Ax.mk ⟨f',e1,e2.imp λ⟨h1,h2⟩=>⟨h1,λBj=>?_⟩⟩;rw[<-hpk Bj];exact h2
 ·rw[show decide ((p:Int)>=((sd d l i 0).length:Int))=true from AG0 (by omega),AHb,AGV];exact Ax.mk ⟨f,rfl,h.imp λh1=>⟨h1,λBj=>by have:=hpk Bj;omega⟩⟩
theorem xh(H:Vy d l){i:Nat}(hi:i<l.length){fs f:Nat->Nat->Bool}{ok:Prop}{q:Bool}(h:SW d l fs ok q f) :
    Ax (MA ((2*i:Nat):Int) (Uq d l) ((sd d l i 0).length:Int) q 1 (M d 1 f)) λr=>∃f',r.2=M d 1 f'/\SW d l fs (ok/\∀p,1<=p->p<(sd d l i 0).length->pY d l fs i p 0/\pY d l fs i p 1) r.1 f':=by
 unfold MA;have hb:=(H.xE i 0 hi).2.1;have c7:=(H.xE i 0 hi).1;have ew:wI (2*((sd d l i 0).length:Int))=((2*(sd d l i 0).length:Nat):Int):=A2 (by omega) (by omega);have:=BJ (f:=Eo ((2*i:Nat):Int) (Uq d l) ((sd d l i 0).length:Int)) (λk (x:Bool×(Nat->Nat->Bool))=>(x.1,((k+1:Nat):Int),M d 1 x.2)) (2*(sd d l i 0).length-1) (λk x=>SW d l fs (ok/\∀p,1<=p->p<k+1->p<(sd d l i 0).length->pY d l fs i p 0/\pY d l fs i p 1) x.1 x.2) (Q:=λr=>∃f',r.2=M d 1 f'/\SW d l fs (ok/\∀p,1<=p->p<(sd d l i 0).length->pY d l fs i p 0/\pY d l fs i p 1) r.1 f') (λk x hk hx=>?_) (λx hx=>?_) (s0:=(q,f)) (h.imp λh=>⟨h,λp h1 h2=>by omega⟩)
 ·exact this
 ·unfold Eo JK;simp only;rw[ew,DN (show k+1<2*(sd d l i 0).length by omega),AHb,A2 (x:=((k+1:Nat):Int)+1) (n:=k+1+1) (by omega) (by omega)];refine Ax.bind (xg H hi (by omega) (by omega) hx) λr hr=>?_;obtain⟨f',e1,e2⟩:=hr;refine Ax.mk ⟨(r.1,f'),by rw[e1],e2.imp λ⟨⟨h1,h2⟩,h3⟩=>⟨h1,λp p1 p2 p3=>?_⟩⟩;rcases AG6 p (k+1)with h' |h'
  ·exact h2 p p1 h' p3
  ·have:p=k+1:=by omega
   rw[this];exact h3 (by omega)
 ·unfold Eo JK;simp only;rw[ew,show 2*(sd d l i 0).length-1+1=2*(sd d l i 0).length by omega,EB,AHa];exact Ax.mk ⟨x.2,rfl,hx.imp λ⟨h1,h2⟩=>⟨h1,λp p1 p2=>h2 p p1 (by omega) p2⟩⟩
def Y1(d:AHY)(l:AH0)(fs:Nat->Nat->Bool)(n:Nat):Prop:=∀i,i<n->∀p,1<=p->p<(sd d l i 0).length->pY d l fs i p 0/\pY d l fs i p 1
theorem xi(H:Vy d l)(fs:Nat->Nat->Bool):Ax (MB (Uq d l) false 0 (M d 1 fs)) λr=>∃f',r.2=M d 1 f'/\SW d l fs (Y1 d l fs l.length) r.1 f':=by
 unfold MB;have hlen:=H.len;have Iz:(Uq d l).length=2*l.length:=TD _ _;have:=BJ (f:=Ep (Uq d l)) (λk (x:Bool×(Nat->Nat->Bool))=>(x.1,((2*k:Nat):Int),M d 1 x.2)) l.length (λk x=>SW d l fs (Y1 d l fs k) x.1 x.2) (Q:=λr=>∃f',r.2=M d 1 f'/\SW d l fs (Y1 d l fs l.length) r.1 f') (λk x hk hx=>?_) (λx hx=>?_) (s0:=(false,fs)) ⟨λ_=>⟨rfl,λi hi=>by omega⟩,λe=>(by cases e),λ_ _ h=>h,λ_ _ h=>h⟩
 ·exact this
 ·unfold Ep JM;have g1:=ZK (d:=d) hk (show 0<2 by omega);rw[Nat.add_zero]at g1;simp only[AGW,g1];have e1:(Xe (sd d l k 0)).1.length=(sd d l k 0).length:=C1 _;rw[Iz,DN (show 2*k<2*l.length by omega),AHb,AHd (Bl (by omega)),e1,A2 (x:=((2*k:Nat):Int)+2) (n:=2*(k+1)) (by omega) (by omega)];refine Ax.bind (xh H hk hx) λr hr=>?_;obtain⟨f',e1,e2⟩:=hr;refine Ax.mk ⟨(r.1,f'),by rw[e1],e2.imp λ⟨h1,h2⟩ i hi=>?_⟩;rcases AG6 i k with h' |h'
  ·exact h1 i h'
  ·rw[show i=k by omega];exact h2
 ·unfold Ep JM;simp only;rw[Iz,EB,AHa];exact Ax.mk ⟨x.2,rfl,hx⟩
theorem xj(H:Vy d l)(f0:Nat->Nat->Bool):Ax (MC (Uq d l) true (M d 1 f0)) λr=>∃f,r=M d 1 f/\OW f0 f/\Y1 d l f l.length/\∀h,LQ d l h->OW (kW d f0) h->OW (kW d f) h:=by
 unfold MC;refine B8 (λm (x:Bool×AH7)=>∃f,x.2=M d 1 f/\m=free d f+(if x.1 then 1 else 0)/\OW f0 f/\(x.1=false->Y1 d l f l.length)/\∀h,LQ d l h->OW (kW d f0) h->OW (kW d f) h) (λm x hx=>?_) _ _ ⟨f0,rfl,rfl,λ_ _ h=>h,λe=>(by cases e),λ_ _ h=>h⟩;obtain⟨q,t⟩:=x;obtain⟨f,e1,rfl,RX,Zs,vT⟩:=hx;simp only at e1 Zs;subst e1;unfold JO Oo;simp only;cases q with
 |false=>exact Ax.mk ⟨f,rfl,RX,Zs rfl,vT⟩
 |true =>
  rw[AHb];refine Ax.bind (xi H f) λr hr=>?_;obtain⟨f',e1,e2⟩:=hr;refine Ax.mk ⟨free d f'+(if r.1 then 1 else 0),?_,f',e1,rfl,λu b hu=>e2.le u b (RX u b hu),λe=>?_,λh hh hs=>e2.min h hh (vT h hh hs)⟩
  ·cases hq:r.1 with
   |false=>rw[(e2.no hq).1];simp
   |true=>have:=e2.yes hq;simp;omega
  ·obtain⟨q1,q2⟩:=e2.no e;rw[q1];exact q2
end
theorem nz{d:AHY}:∀(fs:List Sg) (f:Nat->Nat->Bool),(∀x∈fs,Ti d x)->OW f (fs.foldl Xx f)/\(∀x∈fs,Qd d (kW d (fs.foldl Xx f)) x)/\∀h,(∀x∈fs,Qd d h x)->OW (kW d f) h->OW (kW d (fs.foldl Xx f)) h
 |[],f,_=>⟨λ_ _ h=>h,λx hx=>(by cases hx),λ_ _ h=>h⟩
 |x::fs,f,Fx=>by
  obtain⟨i1,i2,i3⟩:=nz fs (Xx f x) λy hy=>Fx y (AHn _ hy);have k1:OW f (Xx f x):=by
   cases x with
   |co b=>exact λ_ _ h=>h
   |va v l n=>exact λu q h=>EH.2 (.inl (EH.2 (.inl h)))
  refine⟨λu q h=>i1 u q (k1 u q h),λy hy=>?_,λh hh hs=>i3 h (λy hy=>hh y (AHn _ hy)) ?_⟩
  ·rcases List.mem_cons.1 hy with rfl |hy
   ·cases y with
    |co b=>trivial
    |va v l n =>
     have hv:=(Fx _ AHq).1;exact⟨λh1 h2=>NF.2 ⟨⟨hv,h1,h2⟩,i1 v l (EH.2 (.inl (EH.2 (.inr ⟨rfl,rfl⟩))))⟩,λh1 h2=>NF.2 ⟨⟨hv,h1,h2⟩,i1 v (l+n) (EH.2 (.inr ⟨rfl,rfl⟩))⟩⟩
   ·exact i2 y hy
  ·have hx:=hh x AHq;cases x with
   |co b=>exact hs
   |va v l n =>
    intro u q hq;obtain⟨hr,hq⟩:=NF.1 hq;rcases EH.1 hq with hq |⟨rfl,rfl⟩
    ·rcases EH.1 hq with hq |⟨rfl,rfl⟩
     ·exact hs u q (NF.2 ⟨hr,hq⟩)
     ·exact hx.1 hr.2.1 hr.2.2
    ·exact hx.2 hr.2.1 hr.2.2
theorem uU{A B:Type}(f:Nat->Nat->A)(g:A->B)(n:Nat):(ay f n).map g=ay (λi s=>g (f i s)) n:=by
 unfold ay;rw[List.map_flatMap];rfl
theorem bF{A:Type}{f:Nat->Nat->A}{n:Nat}{x:A}:x∈ay f n↔∃i,i<n/\(x=f i 0\/x=f i 1):=by
 unfold ay;rw[List.mem_flatMap];simp
theorem sd0(d:AHY)(l:AH0)(i:Nat):sd d l i 0=b1 d l i:=rfl
theorem sd1(d:AHY)(l:AH0)(i:Nat):sd d l i 1=b2 d l i:=rfl
theorem AuE{d:AHY}{l:AH0}(hd:AL d)(hl:∀x∈l,Tc x)(hp:ML d l)(hs:FG d l):Vy d l where
 hd:=hd
 len:=hp.1
 xE i s hi:=by
  obtain⟨h1,h2,_⟩:=TA hd hl hp hs hi;unfold sd;split
  ·exact h1
  ·exact h2
 dY i hi:=(TA hd hl hp hs hi).2.2.1
theorem Al0{d:AHY}{l:AH0}(H:Vy d l){f:Nat->Nat->Bool}(h:Y1 d l f l.length){i:Nat}(hi:i<l.length):SP (b1 d l i) (b2 d l i) (kW d f):=by
 intro p XD Z2;have e:=H.dY i hi;rw[sd0,sd1]at e;obtain⟨c0,c1⟩:=h i hi p XD Z2;have hA:Bm d (b1 d l i):=H.xE i 0 hi;have hB:Bm d (b2 d l i):=H.xE i 1 hi;rw[q9 hA Z2,q9 hB (by omega)];have c0:Zq (b1 d l i) (b2 d l i) f p=false:=c0;have c1:Zq (b2 d l i) (b1 d l i) f p=false:=c1;unfold Zq at c0 c1;constructor
 ·intro h1 h2;rw[h1,h2]at c0;simpa using c0
 ·intro h1 h2;rw[h1,h2]at c1;simpa using c1
theorem lg{d:AHY}{l:AH0}{c:AH6}(hc:Vr c)(hl:∀x∈l,Tc x):Ax (Dt d l (c,())) λr =>
    (r=(([],()),false)/\¬(AL d/\Er d c/\ML d l/\FG d l))\/(AL d/\Er d c/\ML d l/\FG d l/\∃f,r=((AY d f,()),true)/\bK d l c f):=by
 unfold Dt KQ;obtain⟨r1,e1,q1⟩:=TC (d:=d) hc;rw[e1,AGV];cases r1 with
 |false=>exact Ax.mk (.inl ⟨rfl,λh=>by have:=q1.2 ⟨h.1,h.2.1⟩;cases this⟩)
 |true =>
  obtain⟨hd,bh⟩:=q1.1 rfl;obtain⟨r2,e2,q2⟩:=Wd (d:=d) hl;simp only[Bool.not_true,AHa,e2,AGV];cases r2 with
  |false=>exact Ax.mk (.inl ⟨rfl,λh=>by have:=q2.2 ⟨h.1,h.2.2.1⟩;cases this⟩)
  |true =>
   have Vw:=(q2.1 rfl).2;simp only[Bool.not_true,AHa];rw[YR hd bh hc,AGV];unfold PQ;obtain⟨r3,e3,q3⟩:=Xf hd hl Vw.1;rw[e3,AGV];rcases q3 with ⟨f1,hs,f2⟩|⟨f1,hs⟩
   ·rw[f1,f2];simp only[Bool.not_true,AHa];have H:=AuE hd hl Vw hs;have ef:ay (λi s=>(F3 d (if s=0 then lS l i else lT l i)).2) l.length=(ay (sd d l) l.length).map fN:=by
     rw[uU];unfold ay;rw[List.flatMap_def,List.flatMap_def];congr 1;refine List.map_congr_left λi hi=>?_;obtain⟨_,_,_,_,a1,a2⟩:=TA hd hl Vw hs (List.mem_range.1 hi);simp only[if_true,show ¬(1:Nat)=0 by omega,if_false,a1,a2];rfl
    have hbs:∀B∈ay (sd d l) l.length,Bm d B:=λB hB=>by
     obtain⟨i,hi,h |h⟩:=bF.1 hB
     ·rw[h];exact H.xE i 0 hi
     ·rw[h];exact H.xE i 1 hi
    have es:(ay (sd d l) l.length).map Xe=Uq d l:=uU _ _ _;have hln:=Vw.1;rw[ef,Adb hd hbs (by rw[TD];omega),AGV,es];have oq:∀x∈(ay (sd d l) l.length).flatMap Av,Ti d x:=λx hx=>by
     obtain⟨B,hB,hx⟩:=List.mem_flatMap.1 hx;exact(Wc (hbs B hB) hx).1
    obtain⟨i1,i2,i3⟩:=nz _ (C0 c) oq;obtain⟨r4,e4,f,rfl,j1,j2,j3⟩:=xj H (((ay (sd d l) l.length).flatMap Av).foldl Xx (C0 c));simp only[e4,AGV,Bool.not_true,AHa];rw[gd hd,AGV];have eo:AY d f=AY d (kW d f):=jS λv p hv hp h1=>by simp[kW,hv,hp,h1]
    have km:∀{i:Nat} {x:Sg},i<l.length->x∈Av (b1 d l i)++Av (b2 d l i)->x∈(ay (sd d l) l.length).flatMap Av:=λ{i x} hi hx=>by
     rcases List.mem_append.1 hx with hx |hx
     ·exact List.mem_flatMap.2 ⟨_,bF.2 ⟨i,hi,.inl rfl⟩,hx⟩
     ·exact List.mem_flatMap.2 ⟨_,bF.2 ⟨i,hi,.inr rfl⟩,hx⟩
    refine Ax.mk (.inr ⟨hd,bh,Vw,hs,kW d f,by rw[eo],⟨λv p h=>NF.2 ⟨qk hd bh h,j1 v p (i1 v p h)⟩,λv p h=>(NF.1 h).1,λi hi=>⟨λx hx=>?_,Al0 H j2 hi⟩,λh hh GR=>j3 h hh (i3 h (λx hx=>?_) λu q hq=>GR u q (NF.1 hq).2)⟩⟩)
    ·have:=i2 x (km hi hx);have RX:OW (kW d (((ay (sd d l) l.length).flatMap Av).foldl Xx (C0 c))) (kW d f):=λu q hq=>NF.2 ⟨(NF.1 hq).1,j1 u q (NF.1 hq).2⟩;cases x with
     |co b=>trivial
     |va v a n=>exact⟨this.1.mono RX,this.2.mono RX⟩
    ·obtain⟨B,hB,hx⟩:=List.mem_flatMap.1 hx;obtain⟨i,hi,e |e⟩:=bF.1 hB
     ·exact(hh i hi).1 x (AHt _ (by rw[e]at hx;exact hx))
     ·exact(hh i hi).1 x (AHu _ (by rw[e]at hx;exact hx))
   ·simp only[f1,Bool.not_false,AHb,AGV];exact Ax.mk (.inl ⟨rfl,λh=>hs h.2.2.2⟩)
theorem ng{d:AHY}{l:AH0}{c:AH6}(hc:Vr c)(hl:∀x∈l,Tc x):Ax (Dt d l (c,())) λr=>Gw d l (c,())=some (r.2,r.1.1) /\
    ((r=(([],()),false)/\¬(AL d/\Er d c/\ML d l/\FG d l))\/(AL d/\Er d c/\ML d l/\FG d l/\∃f,r=((AY d f,()),true)/\bK d l c f)):=by
 obtain⟨r1,e1,q1⟩:=lg (d:=d) hc hl;obtain⟨r2,e2,q2⟩:=ku (d:=d) hc hl;refine Ax.of e1 ⟨?_,q1⟩;rw[e2];rcases q1 with ⟨rfl,n1⟩|⟨a1,a2,a3,a4,f,rfl,hf⟩<;>rcases q2 with ⟨rfl,n2⟩|⟨b1,b2,b3,b4,g,rfl,hg⟩
 ·rfl
 ·exact(n1 ⟨b1,b2,b3,b4⟩).elim
 ·exact(n2 ⟨a1,a2,a3,a4⟩).elim
 ·rw[hf.unique hg]
theorem eC{R:Int->Int->Prop}(hR:∀a b,R a b->a<b):∀{l m:AHT},l.Pairwise R->m.Pairwise R->(∀x,x∈l↔x∈m)->l=m
 |[],[],_,_,_=>rfl
 |[],y::m,_,_,h=>by have:=(h y).2 AHq;cases this
 |x::l,[],_,_,h=>by have:=(h x).1 AHq;cases this
 |x::l,y::m,hl,hm,h=>by
  rw[List.pairwise_cons]at hl hm;have e:x=y:=by
   rcases List.mem_cons.1 ((h x).1 AHq)with e |e
   ·exact e
   ·rcases List.mem_cons.1 ((h y).2 AHq)with e' |e'
    ·exact e'.symm
    ·have:=hR _ _ (hm.1 x e);have:=hR _ _ (hl.1 y e');omega
  subst e;congr 1;refine eC hR hl.2 hm.2 λz=>⟨λhz=>?_,λhz=>?_⟩
  ·rcases List.mem_cons.1 ((h z).1 (AHn _ hz))with e |e
   ·have:=hR _ _ (hl.1 z hz);omega
   ·exact e
  ·rcases List.mem_cons.1 ((h z).2 (AHn _ hz))with e |e
   ·have:=hR _ _ (hm.1 z hz);omega
   ·exact e
theorem dQ(w:Nat)(f:Nat->Bool):(A0 w f).Pairwise (·<·):=by
 unfold A0;rw[List.pairwise_map];refine(List.pairwise_lt_range (n:=w)).filter _ |>.imp λ{a b} h=>?_;show(a:Int)<(b:Int);omega
theorem ag{w:Nat}{f:Nat->Bool}{x:Int}:x∈A0 w f↔∃p:Nat,x=(p:Int)/\1<=p/\p<w/\f p=true:=by
 unfold A0;rw[List.mem_map];constructor
 ·rintro⟨p,hp,rfl⟩
  rw[List.mem_filter]at hp;obtain⟨h1,h2⟩:=hp;simp at h1 h2;exact⟨p,rfl,h2.1,h1,h2.2⟩
 ·rintro⟨p,rfl,h1,h2,h3⟩
  exact⟨p,List.mem_filter.2 ⟨List.mem_range.2 h2,by simp[h1,h3]⟩,rfl⟩
def cY(c:AH6)(k:Nat):Nat:=((List.range k).map λv=>(Cy c v).length).sum
theorem gT(c:AH6)(k:Nat):cY c (k+1)=cY c k+(Cy c k).length:=by
 unfold cY;rw[List.range_succ,List.map_append,List.sum_append];simp
theorem tX{c:AH6}(hb:∀v,(Cy c v).length<=1048576):∀k,cY c k<=1048576*k
 |0=>by simp[cY]
 |k+1=>by rw[gT];have:=tX hb k;have:=hb k;omega
theorem lj{d:AHY}{c:AH6}(hd:AL d)(hc:Er d c)(hb:Vr c):Om d (c,())=some ((d.length+cY c d.length:Nat):Int):=by
 unfold Om;obtain⟨r,hr,hq⟩:=TC (d:=d) hb;have bj:=hd.1;rw[hr,AGV,hq.2 ⟨hd,hc⟩,Bool.not_true,AHa];have:QU (c,()) (d.length:Int) 0=some ((d.length+cY c d.length:Nat):Int):=by
  unfold QU;have:=AQ (f:=Hf (c,())) (λk=>(((d.length+cY c k:Nat):Int),(k:Int))) (t:=((d.length+cY c d.length:Nat):Int)) d.length (λk hk=>?_) ?_
  ·exact this
  ·unfold Hf NI;have e1:(c.getD k AIf.zero)=Cy c k:=rfl;have h1:=tX hb.row k;have h2:=hb.row k;simp only[AGW,e1];rw[hc.1,DN hk,AHb,AHd (Bl hk),Bi hk (by omega),gT];rw[A2 (x:=((d.length+cY c k:Nat):Int)+((Cy c k).length:Int)) (n:=d.length+(cY c k+(Cy c k).length)) (by omega) (by omega)]
  ·unfold Hf NI;simp only;rw[hc.1,EB,AHa]
 rw[this];rfl
theorem gG{d:AHY}{f:Nat->Nat->Bool}{v:Nat}(hv:v<d.length):Cy (AY d f) v=A0 (W d v) (f v):=by unfold Cy AY;exact Jx hv
theorem VN{d:AHY}(hd:AL d)(f:Nat->Nat->Bool):Er d (AY d f)/\Vr (AY d f):=by
 have bj:=hd.1;refine⟨⟨by simp[AY],λv hv=>?_⟩,by simp[AY];omega,λx hx=>?_⟩
 ·rw[gG hv];obtain⟨e0,bn,dn⟩:=Qf hd hv;intro i hi;have hg:∀j,j<(A0 (W d v) (f v)).length->Ic (A0 (W d v) (f v)) j=(A0 (W d v) (f v))[j]!:=λj hj=>by simp[Ic,List.getD,hj]
  have hm:Ic (A0 (W d v) (f v)) i∈A0 (W d v) (f v):=by unfold Ic;exact AG hi
  obtain⟨p,e,h1,h2,_⟩:=ag.1 hm;refine⟨by omega,by omega,λh0=>?_⟩;have:=(List.pairwise_iff_getElem.1 (dQ (W d v) (f v))) (i-1) i (by omega) hi (by omega);have e1:Ic (A0 (W d v) (f v)) (i-1)=(A0 (W d v) (f v))[i-1]'(by omega):=by simp[Ic,List.getD,show i-1<(A0 (W d v) (f v)).length by omega]
  have e2:Ic (A0 (W d v) (f v)) i=(A0 (W d v) (f v))[i]:=by simp[Ic,List.getD,hi]
  rw[e1,e2];exact this
 ·obtain⟨v,hv,rfl⟩:=List.mem_map.1 hx;have h1:=V9 (W d v) (f v);have:=(Qf hd (List.mem_range.1 hv)).2.2;omega
def UN(v:Nat):Int->AHT->AHX
 |_,[]=>[]
 |low,p::r=>((v:Int),low,p-low,())::UN v p r
def FB(low:Int)(l:AHT):Int:=l.getLastD low
theorem ZJ(v:Nat):∀(l:AHT) (low p:Int),UN v low (l++[p])=UN v low l++[((v:Int),FB low l,p-FB low l,())]
 |[],low,p=>rfl
 |x::l,low,p=>by
  have e:FB low (x::l)=FB x l:=by cases l<;>rfl
  rw[e];show _::UN v x (l++[p])=_;rw[ZJ v l x p];rfl
theorem YN(v:Nat):∀(l:AHT) (low:Int),(UN v low l).length=l.length
 |[],_=>rfl
 |_::l,_=>by simp[UN,YN v l]
theorem Og{l:AHT}{i:Nat}(hi:i<l.length)(low:Int):FB low (l.take (i+1))=Ic l i:=by
 rw[AX (z:=(0:Int)) hi];unfold FB Ic;simp
def Cd(d:AHY)(c:AH6)(v:Nat):AHT:=Cy c v++[dw d v]
def SL(d:AHY)(c:AH6)(n:Nat):AHX:=(List.range n).flatMap λv=>UN v 0 (Cd d c v)
theorem sY(d:AHY)(c:AH6)(n:Nat):SL d c (n+1)=SL d c n++UN n 0 (Cd d c n):=by
 unfold SL;rw[List.range_succ,List.flatMap_append];simp
theorem O1{d:AHY}{c:AH6}{v i:Nat}(hi:i<=(Cy c v).length):Ic (Cd d c v) i=if i<(Cy c v).length then Ic (Cy c v) i else dw d v:=by
 unfold Cd Ic;simp only[List.getD];split
 ·rename_i h;rw[AHi h]
 ·have:i=(Cy c v).length:=by omega
  subst this;simp
section
variable {d:AHY} {c:AH6}
theorem aY(hd:AL d)(hc:Er d c){v:Nat}(hv:v<d.length){i:Nat}(hi:i<(Cd d c v).length):1<=Ic (Cd d c v) i/\Ic (Cd d c v) i<=4096:=by
 obtain⟨e0,bn,dn⟩:=Qf hd hv;have hl:i<=(Cy c v).length:=by unfold Cd at hi;simp at hi;omega
 rw[O1 hl];split
 ·rename_i h;have:=hc.2 v hv i h;exact⟨this.1,by have:=this.2.1;omega⟩
 ·omega
theorem kE(hd:AL d)(hc:Er d c){v:Nat}(hv:v<d.length)(i:Nat)(hi:i<=(Cd d c v).length):0<=FB 0 ((Cd d c v).take i)/\FB 0 ((Cd d c v).take i)<=4096:=by
 match i with
 |0=>exact⟨by simp[FB],by simp[FB]⟩
 |i+1 =>
  rw[Og (by omega)];have:=aY hd hc hv (i:=i) (by omega);omega
theorem bL(hd:AL d)(hc:Er d c):∀n,n<=d.length->(SL d c n).length<=4097*n:=λn hn=>UC λv hv=>by
 obtain⟨e0,bn,dn⟩:=Qf hd (show v<d.length by omega);have:=Tz (hc.2 v (by omega)) (by omega);rw[YN];unfold Cd;simp;omega
theorem fM(hd:AL d)(hc:Er d c)(hb:Vr c):Ki d (c,())=some (SL d c d.length):=by
 unfold Ki;have bj:=hd.1;have:Ma d c (c.length:Int) 0 []=some (SL d c d.length):=by
  unfold Ma;rw[hc.1];have:=AQ (f:=Eg d c (d.length:Int)) (λv=>((v:Int),SL d c v)) (t:=SL d c d.length) d.length (λv hv=>?_) ?_
  ·exact this
  ·unfold Eg Jq;obtain⟨e0,bn,dn⟩:=Qf hd hv;have e1:(c.getD v AIf.zero)=Cy c v:=rfl;have e2:(d.getD v Ad.zero).2.1=dw d v:=rfl;have hr:=Tz (hc.2 v hv) (by omega);have Iz:=bL hd hc v (by omega);simp only[AGW,e1];rw[DN hv,AHb,AHd (Bl (by rw[hc.1];exact hv))];have e3:IP d (v:Int) c (d.length:Int) (SL d c v) (Cy c v)=some (Cd d c v,((Cd d c v).length:Int)):=by
    unfold IP;simp only[AGW,e2];rw[AHd (by omega),AHd (Bl hv),AHd (by simp;omega)];rfl
   rw[e3,AGV];simp only;have R8:(Cd d c v).length<=4097:=by unfold Cd;simp;omega
   have e4:L9 d (v:Int) c (d.length:Int) (Cd d c v) ((Cd d c v).length:Int) 0 0 (SL d c v)=some (SL d c (v+1)):=by
    unfold L9;have:=AQ (f:=Ef d (v:Int) c (d.length:Int) (Cd d c v) ((Cd d c v).length:Int)) (λi=>(FB 0 ((Cd d c v).take i),(i:Int),SL d c v++UN v 0 ((Cd d c v).take i))) (t:=SL d c (v+1)) (Cd d c v).length (λi hi=>?_) ?_
    ·rw[show SL d c v=SL d c v++UN v 0 ((Cd d c v).take 0) by simp[UN]];exact this
    ·unfold Ef Jp;have e5:(Cd d c v).getD i AIa.zero=Ic (Cd d c v) i:=rfl;have hbd:=aY hd hc hv hi;have lV:=kE hd hc hv i (by omega);have hrl:(UN v 0 ((Cd d c v).take i)).length<=4097:=by rw[YN,AHg];omega
     simp only[AGW,e5];rw[DN hi,AHb,AHd (Bl hi),AHd (by simp only[AGZ,List.length_cons,List.length_nil];omega),Bi hi (by omega),BM (x:=Ic (Cd d c v) i-FB 0 ((Cd d c v).take i)) (by omega) (by omega),Og hi,AX (z:=(0:Int)) hi,ZJ,AG3];rfl
    ·unfold Ef Jp;simp only;rw[EB,AHa,AG5 (AG1 _),sY]
   rw[e4,AGV,Bi hv (by omega)]
  ·unfold Eg Jq;simp only;rw[EB,AHa]
 rw[this];rfl
theorem QT(hd:AL d)(hc:Er d c)(hb:Vr c):Ey d (c,())=some (SL d c d.length):=by
 unfold Ey;have bj:=hd.1;obtain⟨r,hr,hq⟩:=TC (d:=d) hb;rw[hr,AGV,hq.2 ⟨hd,hc⟩,Bool.not_true,AHa];have:Mk d (c,()) 0 []=some (SL d c d.length):=by
  unfold Mk;have:=AQ (f:=El d (c,())) (λv=>((v:Int),SL d c v)) (t:=SL d c d.length) d.length (λv hv=>?_) ?_
  ·exact this
  ·unfold El JF;obtain⟨e0,bn,dn⟩:=Qf hd hv;have hr:=Tz (hc.2 v hv) (by omega);have Iz:=bL hd hc v (by omega);have R8:(Cd d c v).length=(Cy c v).length+1:=by unfold Cd;simp
   simp only;rw[DN hv,AHb];have e4:Mj d (v:Int) (c,()) 0 0 (SL d c v)=some (SL d c (v+1)):=by
    unfold Mj;have:=AQ (f:=Ej d (v:Int) (c,())) (λi=>(FB 0 ((Cd d c v).take i),(i:Int),SL d c v++UN v 0 ((Cd d c v).take i))) (t:=SL d c (v+1)) (Cd d c v).length (λi hi=>?_) ?_
    ·rw[show SL d c v=SL d c v++UN v 0 ((Cd d c v).take 0) by simp[UN]];exact this
    ·unfold Ej JE;have e1:(c.getD v AIf.zero)=Cy c v:=rfl;have e2:(d.getD v Ad.zero).2.1=dw d v:=rfl;have hbd:=aY hd hc hv hi;have lV:=kE hd hc hv i (by omega);have hrl:(UN v 0 ((Cd d c v).take i)).length<=4097:=by rw[YN,AHg];omega
     simp only[AGW,e1,e2];rw[AHd (Bl (by rw[hc.1];exact hv)),show decide ((i:Int)<=((Cy c v).length:Int))=true from AG0 (by omega),AHb,AHd (Bl hv)];have e6:I0 d (v:Int) (FB 0 ((Cd d c v).take i)) (i:Int) (c,()) (SL d c v++UN v 0 ((Cd d c v).take i)) (dw d v)=some (Ic (Cd d c v) i):=by
      unfold I0;have e3:(Cy c v).getD i AIa.zero=Ic (Cy c v) i:=rfl;simp only[AGW,e1,e3];rw[AHd (Bl (by rw[hc.1];exact hv)),O1 (by omega)];by_cases h:i<(Cy c v).length
      ·rw[DN h,AHb,AHd (Bl (by rw[hc.1];exact hv)),AHd (Bl h),AHd h]
      ·rw[AGY (by omega),AHa,AHe h]
     rw[e6,AGV,AHd (by simp only[AGZ,List.length_cons,List.length_nil];omega),Bi hi (by omega),BM (x:=Ic (Cd d c v) i-FB 0 ((Cd d c v).take i)) (by omega) (by omega),Og hi,AX (z:=(0:Int)) hi,ZJ,AG3];rfl
    ·unfold Ej JE;have e1:(c.getD v AIf.zero)=Cy c v:=rfl;simp only[AGW,e1];rw[AHd (Bl (by rw[hc.1];exact hv)),R8,show decide ((((Cy c v).length+1:Nat):Int)<=((Cy c v).length:Int))=false from AGY (by omega),AHa,<-R8,AG5 (AG1 _),sY]
   rw[e4,AGV,Bi hv (by omega)]
  ·unfold El JF;simp only;rw[EB,AHa]
 rw[this];rfl
end
def slc(L:AHX)(i:Nat):AHH:=L.getD i Ab.zero
def ZL(L:AHX)(i:Nat):AHG:=((slc L i).1,(slc L i).2.1,())
def Gz(L:AHX)(k:AHG):Nat->Option Nat
 |0=>none
 |n+1=>bif Ba Aa k (ZL L n)then some n else Gz L k n
theorem Z9(L:AHX)(k:AHG)(n:Nat):Gz L k (n+1)=bif Ba Aa k (ZL L n)then some n else Gz L k n:=rfl
theorem V5{L:AHX}{k:AHG}:∀{N n:Nat},Gz L k N=some n->n<N/\ZL L n=k
 |N+1,n,h=>by
  unfold Gz at h;cases hk:Ba Aa k (ZL L N)with
  |true =>
   rw[hk,AHb]at h;injection h with h;subst h;exact⟨AHB _,((aN _ _).1 hk).symm⟩
  |false =>
   rw[hk,AHa]at h;obtain⟨h1,h2⟩:=V5 h;exact⟨by omega,h2⟩
theorem Z8{L:AHX}{k:AHG}:∀{N m:Nat},m<N->ZL L m=k->∃n,Gz L k N=some n
 |N+1,m,hm,h=>by
  unfold Gz;cases hk:Ba Aa k (ZL L N)with
  |true=>exact⟨N,rfl⟩
  |false =>
   rcases AG6 m N with h' |h'
   ·obtain⟨n,hn⟩:=Z8 h' h;exact⟨n,hn⟩
   ·have:m=N:=by omega
    subst this;rw[<-h,(aN _ _).2 rfl]at hk;cases hk
abbrev FM:Type:=List (AHG×Int)
def bg(L:AHX):Nat->FM
 |0=>[]
 |n+1=>BS Aa AIa (bg L n) (ZL L n) (n:Int)
theorem tT(L:AHX)(k:AHG):∀n,Ni Aa AIa (bg L n) k=(Gz L k n).map Int.ofNat
 |0=>rfl
 |n+1=>by
  unfold bg Gz;rw[UJ aN,tT L k n];cases Ba Aa k (ZL L n)<;>rfl
theorem vJ{L:AHX}(hL:L.length<=1048576):Kh L=some (bg L L.length):=by
 unfold Kh;have:L0 L (L.length:Int) 0 []=some (bg L L.length):=by
  unfold L0;have:=AQ (f:=Eb L (L.length:Int)) (λi=>((i:Int),bg L i)) (t:=bg L L.length) L.length (λi hi=>?_) ?_
  ·exact this
  ·unfold Eb Jj;simp only[AGW];rw[DN hi,AHb,AHd (Bl hi),Bi hi hL];rfl
  ·unfold Eb Jj;simp only;rw[EB,AHa]
 rw[this];rfl
theorem YO{v:Nat}:∀{l:AHT} {low:Int} {x:AHH},x∈UN v low l↔∃j,j<l.length/\x=((v:Int),FB low (l.take j),Ic l j-FB low (l.take j),())
 |[],low,x=>by simp[UN]
 |p::l,low,x=>by
  have e:∀j,FB low ((p::l).take (j+1))=FB p (l.take j):=λj=>by
   rw[List.take_succ_cons];cases l.take j<;>rfl
  constructor
  ·intro h;rcases List.mem_cons.1 h with h |h
   ·exact⟨0,by simp,h⟩
   ·obtain⟨j,hj,rfl⟩:=YO.1 h;refine⟨j+1,by simpa using hj,?_⟩;rw[e];rfl
  ·rintro⟨j,hj,rfl⟩
   match j with
   |0=>exact AHq
   |j+1 =>
    rw[e];exact AHn _ (YO.2 ⟨j,by simpa using hj,rfl⟩)
section
variable {d:AHY} {c:AH6}
theorem qK{x:AHH}:x∈SL d c d.length↔∃v j,v<d.length/\j<(Cd d c v).length/\x=((v:Int),FB 0 ((Cd d c v).take j),Ic (Cd d c v) j-FB 0 ((Cd d c v).take j),()):=by
 unfold SL;rw[List.mem_flatMap];constructor
 ·rintro⟨v,hv,hx⟩
  obtain⟨j,hj,e⟩:=YO.1 hx;exact⟨v,j,List.mem_range.1 hv,hj,e⟩
 ·rintro⟨v,j,hv,hj,e⟩
  exact⟨v,List.mem_range.2 hv,YO.2 ⟨j,hj,e⟩⟩
theorem aZ(_hd:AL d)(hc:Er d c){v:Nat}(hv:v<d.length){i j:Nat}(vQ:i<j)(hj:j<(Cd d c v).length):Ic (Cd d c v) i<Ic (Cd d c v) j:=by
 have hl:j<=(Cy c v).length:=by unfold Cd at hj;simp at hj;omega
 have hp:=hc.2 v hv;rw[O1 hl,O1 (by omega),AHd (by omega)];split
 ·rename_i h;exact sc hp vQ h
 ·have:=(hp i (by omega)).2.1;omega
theorem Ach(hd:AL d)(hc:Er d c){v a e j:Nat}(hv:v<d.length)(hj:j<(Cd d c v).length)(ha:FB 0 ((Cd d c v).take j)=(a:Int))(hae:a<e)(he:e=W d v\/e<W d v/\C0 c v e=true)(Vx:∀q,a<q->q<e->C0 c v q=false):Ic (Cd d c v) j=(e:Int):=by
 obtain⟨e0,bn,dn⟩:=Qf hd hv;have R8:(Cd d c v).length=(Cy c v).length+1:=by unfold Cd;simp
 have BF:∃j',j'<(Cd d c v).length/\Ic (Cd d c v) j'=(e:Int):=by
  rcases he with rfl |⟨_,h⟩
  ·exact⟨(Cy c v).length,by omega,by rw[O1 (AG1 _),AHe (by omega),e0]⟩
  ·have hm:(e:Int)∈Cy c v:=by simpa [C0]using h
   obtain⟨i,hi,hx⟩:=List.getElem_of_mem hm;exact⟨i,by omega,by rw[O1 (by omega),AHd hi,<-hx];simp[Ic,List.getD,hi]⟩
 obtain⟨j',Qj,hje⟩:=BF;have Abr:(a:Int)<Ic (Cd d c v) j:=by
  match j with
  |0 =>
   have:a=0:=by simp[FB]at ha;omega
   have:=(aY hd hc hv hj).1;omega
  |i+1 =>
   rw[Og (by omega)]at ha;rw[<-ha];exact aZ hd hc hv (by omega) hj
 have hjj:j<=j':=by
  refine Classical.byContradiction λhn=>?_
  match j with
  |0=>omega
  |i+1 =>
   rw[Og (by omega)]at ha;rcases AG6 j' i with h |h
   ·have:=aZ hd hc hv h (by omega);omega
   ·have:j'=i:=by omega
    rw[this]at hje;omega
 rcases AG6 j j' with h |h
 ·exfalso
  have Bj:=aZ hd hc hv h Qj;rw[O1 (by omega)]at Abr Bj;by_cases hc':j<(Cy c v).length
  ·rw[AHd hc']at Abr Bj;have hm:Ic (Cy c v) j∈Cy c v:=by unfold Ic;exact AG hc'
   have hb:=bz (hc.2 v hv) hm;have:=Vx (Ic (Cy c v) j).toNat (by omega) (by omega);simp only[C0]at this;rw[show(((Ic (Cy c v) j).toNat:Nat):Int)=Ic (Cy c v) j by omega]at this;simp[hm]at this
  ·omega
 ·have:j=j':=by omega
  rw[this];exact hje
theorem AcP(hd:AL d)(hc:Er d c){v a e:Nat}(hv:v<d.length)(h0:a=0\/C0 c v a=true)(hae:a<e)(he:e=W d v\/e<W d v/\C0 c v e=true)(Vx:∀q,a<q->q<e->C0 c v q=false) :
    ∃n,Gz (SL d c d.length) (nk v a) (SL d c d.length).length=some n/\n<(SL d c d.length).length/\(slc (SL d c d.length) n).2.2.1=((e-a:Nat):Int):=by
 have R8:(Cd d c v).length=(Cy c v).length+1:=by unfold Cd;simp
 have hj:∃j,j<(Cd d c v).length/\FB 0 ((Cd d c v).take j)=(a:Int):=by
  rcases h0 with rfl |h
  ·exact⟨0,by omega,rfl⟩
  ·have hm:(a:Int)∈Cy c v:=by simpa [C0]using h
   obtain⟨i,hi,hx⟩:=List.getElem_of_mem hm;have AAf:i+1<(Cd d c v).length:=by
    rw[R8];omega
   refine⟨i+1,AAf,?_⟩;rw[Og (by omega),O1 (by omega),AHd hi,<-hx];simp[Ic,List.getD,hi]
 obtain⟨j,hj1,hj2⟩:=hj;have hm:(((v:Int),FB 0 ((Cd d c v).take j),Ic (Cd d c v) j-FB 0 ((Cd d c v).take j),()):AHH)∈SL d c d.length:=qK.2 ⟨v,j,hv,hj1,rfl⟩;obtain⟨m,S9,Q4⟩:=List.getElem_of_mem hm;have hsm:slc (SL d c d.length) m=((v:Int),FB 0 ((Cd d c v).take j),Ic (Cd d c v) j-FB 0 ((Cd d c v).take j),()):=by
  unfold slc;simp only[List.getD,List.getElem?_eq_getElem S9,Option.getD_some];exact Q4
 obtain⟨n,hn⟩:=Z8 (L:=SL d c d.length) (k:=nk v a) S9 (by unfold ZL nk;rw[hsm,hj2]);obtain⟨rE,hn2⟩:=V5 hn;refine⟨n,hn,rE,?_⟩;obtain⟨v',j',lX,Qj,hx⟩:=qK.1 (show slc (SL d c d.length) n∈SL d c d.length from AG rE);unfold ZL nk at hn2;rw[hx]at hn2⊢;injection hn2 with h1 h2;injection h2 with h2 _;have h1:(v':Int)=(v:Int):=h1;have v8:v'=v:=by omega
 subst v8;have h2:FB 0 ((Cd d c v').take j')=(a:Int):=h2;have:=Ach hd hc lX Qj h2 hae he Vx;show Ic (Cd d c v') j'-FB 0 ((Cd d c v').take j')=_;rw[this,h2];omega
def nm(o:Option Nat):Int:=match o with |some n=>(n:Int)|none=>-1
def NM(d:AHY)(L:AHX)(n:Nat):AH6:=(List.range d.length).map λv=>(List.range (W d v)).map λa=>nm (Gz L (nk v a) n)
theorem qs{L:AHX}{n v:Nat}{z:AHT}(hv:v<d.length):(NM d L n).getD v z=(List.range (W d v)).map λa=>nm (Gz L (nk v a) n):=Jx hv
theorem Acg(hd:AL d)(hc:Er d c)(hb:Vr c):MF d (c,())=some (NM d (SL d c d.length) (SL d c d.length).length):=by
 unfold MF;have bj:=hd.1;have h1:N5 d (c,()) 0 []=some (NM d (SL d c d.length) 0):=by
  unfold N5;have:=AQ (f:=Fp d (c,())) (λv=>((v:Int),(List.range v).map λu=>(List.range (W d u)).map λa=>nm (Gz (SL d c d.length) (nk u a) 0))) (t:=NM d (SL d c d.length) 0) d.length (λv hv=>?_) ?_
  ·exact this
  ·unfold Fp K9;obtain⟨e0,bn,dn⟩:=Qf hd hv;have e2:(d.getD v Ad.zero).2.1=(W d v:Int):=e0;simp only[AGW,e2];rw[DN hv,AHb,AHd (Bl hv),AHd (show Ty.row AIa=true/\(0:Int)<=(W d v:Int)/\(W d v:Int)<=(W d v:Int)/\((8:Nat):Int)*(W d v:Int)<=281474976710656/\(W d v:Int)<=9223372036854775807 from⟨rfl,by omega,by omega,by omega,by omega⟩)];have e4:∀z,N4 d (v:Int) (c,()) z 0 (List.replicate (W d v) 0)=some ((List.range (W d v)).map λa=>nm (Gz (SL d c d.length) (nk v a) 0)):=λz=>by
    unfold N4;have:=AQ (f:=Fl d (v:Int) (c,()) z) (λi=>((i:Int),B7 (λ_=>(-1:Int)) 0 (W d v) i)) (t:=B7 (λ_=>(-1:Int)) 0 (W d v) (W d v)) (W d v) (λi hi=>?_) ?_
    ·rw[Lh]at this;have ef:B7 (λ_=>(-1:Int)) 0 (W d v) (W d v)=(List.range (W d v)).map λa=>nm (Gz (SL d c d.length) (nk v a) 0):=List.map_congr_left λa ha=>by rw[AHd (List.mem_range.1 ha)];rfl
     rw[<-ef];exact this
    ·unfold Fl K8;simp only[AGW];rw[F7,DN hi,AHb,AHd (Bl hi),Bi hi (by omega),Ox (λ_=>(-1:Int))]
    ·unfold Fl K8;simp only;rw[F7,EB,AHa]
   rw[e4,AGV,AHd (by simp;omega),Bi hv (by omega),GD]
  ·unfold Fp K9;simp only;rw[EB,AHa];rfl
 rw[h1,AGV,QT hd hc hb,AGV];have Iz:=bL hd hc d.length (AG1 _);have h2:N6 (SL d c d.length) 0 (NM d (SL d c d.length) 0)=some (NM d (SL d c d.length) (SL d c d.length).length):=by
  unfold N6;have:=AQ (f:=Fq (SL d c d.length)) (λi=>((i:Int),NM d (SL d c d.length) i)) (t:=NM d (SL d c d.length) (SL d c d.length).length) (SL d c d.length).length (λi hi=>?_) ?_
  ·exact this
  ·unfold Fq La;have km:slc (SL d c d.length) i∈SL d c d.length:=AG hi;obtain⟨v,j,hv,hj,hx⟩:=qK.1 km;obtain⟨e0,bn,dn⟩:=Qf hd hv;have lV:=kE hd hc hv j (by omega);obtain⟨a,ha⟩:∃a:Nat,FB 0 ((Cd d c v).take j)=(a:Int):=⟨(FB 0 ((Cd d c v).take j)).toNat,by omega⟩;have haw:a<W d v:=by
    match j with
    |0=>simp[FB]at ha;omega
    |j+1 =>
     rw[Og (by omega)]at ha;have h3:=aZ hd hc hv (show j<(Cy c v).length by unfold Cd at hj;simp at hj;omega) (by unfold Cd;simp);rw[O1 (AG1 _),AHe (by omega)]at h3;omega
   have q1:((SL d c d.length).getD i Ab.zero).1=(v:Int):=congrArg (·.1) hx;have q2:((SL d c d.length).getD i Ab.zero).2.1=(a:Int):=(congrArg (·.2.1) hx).trans ha;have hk:ZL (SL d c d.length) i=nk v a:=by
    unfold ZL nk;rw[show(slc (SL d c d.length) i).1=(v:Int)from q1,show(slc (SL d c d.length) i).2.1=(a:Int)from q2]
   simp only[AGW,q1,q2];have F8:(NM d (SL d c d.length) i).set v (((NM d (SL d c d.length) i).getD v AIf.zero).set a (i:Int))=NM d (SL d c d.length) (i+1):=by
    rw[qs hv];apply List.ext_getElem?;intro u;rw[AHk];by_cases hu:u<d.length
    ·have er:∀m,(NM d (SL d c d.length) m)[u]?=some ((List.range (W d u)).map λa=>nm (Gz (SL d c d.length) (nk u a) m)):=λm=>by simp[NM,hu]
     rw[er,er];split
     ·rename_i e;subst e;rw[AHd (by simp[NM];exact hu)];congr 1;apply List.ext_getElem?;intro b;rw[AHk];by_cases hbw:b<W d v
      ·simp only[AG7,AHC,AHo,List.getElem?_range hbw,Option.map_some];rw[Z9,hk];split
       ·rename_i e;subst e;rw[(aN _ _).2 rfl];rfl
       ·rename_i e;have:Ba Aa (nk v b) (nk v a)=false:=by
         rw[Bool.eq_false_iff];intro h;exact e (V6.1 ((aN _ _).1 h)).2.symm
        rw[this];rfl
      ·rw[AHe (by omega)];simp[hbw]
     ·rename_i e;congr 1;refine List.map_congr_left λb _=>?_;have:Ba Aa (nk u b) (ZL (SL d c d.length) i)=false:=by
       rw[hk,Bool.eq_false_iff];intro h;exact e (V6.1 ((aN _ _).1 h)).1.symm
      show _=nm (Gz (SL d c d.length) (nk u b) (i+1));rw[Z9,this];rfl
    ·have:∀m,(NM d (SL d c d.length) m)[u]?=none:=λm=>by simp[NM];omega
     rw[this,this,AHe (by omega)]
   have hNl:(NM d (SL d c d.length) i).length=d.length:=by simp[NM]
   rw[DN hi,AHb,AHd (Bl hi),hNl,AHd (Bl hv),AHd (Bl hi),AHd (by rw[qs hv];simp;omega),F8,Bi hi (by omega)]
  ·unfold Fq La;simp only;rw[EB,AHa]
 rw[h2];rfl
end
theorem Agd{xs:AHT}(hs:xs.Pairwise (·<=·)):∀m,m<=xs.length->(Lib.compactUpTo xs.toArray m).Pairwise (·<·)/\(∀x,x∈Lib.compactUpTo xs.toArray m↔∃j,j<m/\x=xs.toArray[j]!):=by
 have Td:∀j,j<xs.length->xs.toArray[j]! =Ic xs j:=λj hj=>by simp[Ic,List.getD,hj]
 have RX:∀i j,i<j->j<xs.length->Ic xs i<=Ic xs j:=λi j vQ hj=>by
  have:=List.pairwise_iff_getElem.1 hs i j (by omega) hj vQ;simpa [Ic,List.getD,hj,show i<xs.length by omega]using this
 intro m;induction m with
 |zero=>intro _;simp[Lib.compactUpTo]
 |succ m ih =>
  intro hm;obtain⟨h1,h2⟩:=ih (by omega);rw[Lib.compactUpTo_succ];cases hk:Lib.keeps xs.toArray m with
  |true =>
   simp only[if_true];refine⟨List.pairwise_append.2 ⟨h1,by simp,λx hx y hy=>?_⟩,λx=>?_⟩
   ·rw[AHm]at hy;subst hy;obtain⟨j,hj,rfl⟩:=(h2 x).1 hx;have TV:m=0\/xs.toArray[m]!≠xs.toArray[m-1]!:=by simpa [Lib.keeps]using hk
    rcases TV with TV |TV
    ·omega
    ·rw[Td m (by omega),Td (m-1) (by omega)]at TV;rw[Td j (by omega),Td m (by omega)];have a1:=RX (m-1) m (by omega) (by omega);have a2:Ic xs j<=Ic xs (m-1):=by
      rcases AG6 j (m-1)with h |h
      ·exact RX j (m-1) h (by omega)
      ·rw[show j=m-1 by omega];exact Int.le_refl _
     omega
   ·rw[List.mem_append,h2,AHm];constructor
    ·rintro(⟨j,hj,rfl⟩|rfl)
     ·exact⟨j,by omega,rfl⟩
     ·exact⟨m,by omega,rfl⟩
    ·rintro⟨j,hj,rfl⟩
     rcases AG6 j m with h |h
     ·exact .inl ⟨j,h,rfl⟩
     ·rw[show j=m by omega];exact .inr rfl
  |false =>
   simp only[Bool.false_eq_true,if_false,AHA];refine⟨h1,λx=>?_⟩;rw[h2];have TV:¬(m=0\/xs.toArray[m]!≠xs.toArray[m-1]!):=by simpa [Lib.keeps]using hk
   have qc:m≠0:=λe=>TV (.inl e);have he:xs.toArray[m]! =xs.toArray[m-1]!:=Classical.byContradiction λe=>TV (.inr e);constructor
   ·rintro⟨j,hj,rfl⟩;exact⟨j,by omega,rfl⟩
   ·rintro⟨j,hj,rfl⟩
    rcases AG6 j m with h |h
    ·exact⟨j,h,rfl⟩
    ·rw[show j=m by omega,he];exact⟨m-1,by omega,rfl⟩
theorem aA(xs:AHT):(MN (Np xs)).Pairwise (·<·)/\∀x,x∈MN (Np xs)↔x∈xs:=by
 have hs:(Np xs).Pairwise (·<=·):=by
  have:=List.pairwise_mergeSort (le:=leI) (λa b c h1 h2=>by simp[leI]at *;omega) (λa b=>by simp[leI];omega) xs;exact this.imp λ{a b} h=>by simpa [leI]using h
 obtain⟨h1,h2⟩:=Agd hs _ (AG1 _);refine⟨h1,λx=>?_⟩;have h2:=h2 x;unfold MN Lib.compact;rw[h2];have hm:∀y,y∈Np xs↔y∈xs:=λy=>(List.mergeSort_perm xs leI).mem_iff;rw[<-hm];constructor
 ·rintro⟨j,hj,rfl⟩
  have:(Np xs).toArray[j]! =(Np xs)[j]:=by simp[hj]
  rw[this];exact AHD hj
 ·intro hx;obtain⟨j,hj,rfl⟩:=List.getElem_of_mem hx;exact⟨j,hj,by simp[hj]⟩
def Vm(l n:Nat)(p:Int):Bool:=decide ((l:Int)<p)&&decide (p<((l+n:Nat):Int))
def fY(c:AH6)(s:Sg)(k q:Nat):AHT:=match s with
 |.co _=>[]
 |.va v l n=>(((Cy c v).take q).filter (Vm l n)).map λp=>(k:Int)+p-(l:Int)
def prt(c:AH6)(s:Sg)(k:Nat):AHT:=(k:Int)::match s with
 |.co _=>[]
 |.va v l n=>((Cy c v).filter (Vm l n)).map λp=>(k:Int)+p-(l:Int)
def Ja(c:AH6)(f:List Sg)(m:Nat):AHT:=(List.range m).flatMap λi=>prt c (f.getD i (.co [])) (A6 (f.take i))
theorem rU(c:AH6)(f:List Sg)(m:Nat):Ja c f (m+1)=Ja c f m++prt c (f.getD m (.co [])) (A6 (f.take m)):=by
 unfold Ja;rw[List.range_succ,List.flatMap_append];simp
section
variable {d:AHY} {c:AH6}
theorem uH(hd:AL d)(hc:Er d c){s:Sg}(hs:Ti d s)(k:Nat):(prt c s k).length<=4097:=by
 cases s with
 |co b=>simp[prt]
 |va v l n =>
  obtain⟨hv,_,_⟩:=hs;obtain⟨e0,bn,dn⟩:=Qf hd hv;have h1:=Tz (hc.2 v hv) (by omega);have h2:=List.length_filter_le (Vm l n) (Cy c v);simp only[prt,List.length_cons,AG7];omega
theorem oX(hd:AL d)(hc:Er d c)(hb:Vr c){B:List Bt}(h:Bm d B):HY (fN B) (c,())=some (Ja c (Av B) (Av B).length):=by
 unfold HY;obtain⟨n1,n2,n3⟩:=kP hd h;have hlen:=CP n1;have xy:=h.2.1;have oq:∀i,i<(Av B).length->Ti d ((Av B).getD i (.co [])):=λi hi=>(Wc h (AG hi)).1;have om:∀m,m<=(Av B).length->(Ja c (Av B) m).length<=4097*m:=λm hm=>UC λi hi=>uH hd hc (oq i (by omega)) _;have:L6 (fN B) (c,()) ((fN B).length:Int) 0 0 []=some (Ja c (Av B) (Av B).length):=by
  unfold L6;rw[show(fN B).length=(Av B).length from BZ _];have:=AQ (f:=Ee (fN B) (c,()) ((Av B).length:Int)) (λk=>((A6 ((Av B).take k):Int),(k:Int),Ja c (Av B) k)) (t:=Ja c (Av B) (Av B).length) (Av B).length (λk hk=>?_) ?_
  ·exact this
  ·unfold Ee Jo;have e1:(fN B).getD k Ae.zero=He ((Av B).getD k (.co [])):=cM hk;have hpk:=om k (by omega);have hwk:=Ez (Av B) k;have dk:=WM hk;simp only[AGW,e1];rw[DN hk,AHb,show(fN B).length=(Av B).length from BZ _,AHd (Bl hk),AHd (by simp only[AGZ,List.length_cons,List.length_nil];omega)];have e2:IL (A6 ((Av B).take k):Int) (fN B) ((Av B).length:Int) (k:Int) (c,()) (Ja c (Av B) k++[(A6 ((Av B).take k):Int)]) (He ((Av B).getD k (.co [])))=some (Ja c (Av B) (k+1)):=by
    unfold IL;rw[rU];have Fx:=oq k hk;cases hs:(Av B).getD k (.co [])with
    |co b=>rfl
    |va v l n =>
     rw[hs]at Fx dk;obtain⟨hv,hn,hw⟩:=Fx;obtain⟨e0,bn,dn⟩:=Qf hd hv;have hrl:=Tz (hc.2 v hv) (by omega);have e3:(c.getD v AIf.zero)=Cy c v:=rfl;have e4:(He (.va v l n)).1=(v:Int):=rfl;simp only[e4,AGW,e3];rw[show decide ((v:Int)>=0)=true from AG0 (by omega),AHb,AHd (Bl (by rw[hc.1];exact hv))];have e5:L5 (A6 ((Av B).take k):Int) (fN B) ((Av B).length:Int) (k:Int) (c,()) (He (.va v l n)) (Cy c v) ((Cy c v).length:Int) 0 (Ja c (Av B) k++[(A6 ((Av B).take k):Int)])=some (Ja c (Av B) k++prt c (.va v l n) (A6 ((Av B).take k))):=by
      unfold L5;have:=AQ (f:=Ed (A6 ((Av B).take k):Int) (fN B) ((Av B).length:Int) (k:Int) (c,()) (He (.va v l n)) (Cy c v) ((Cy c v).length:Int)) (λq=>((q:Int),Ja c (Av B) k++[(A6 ((Av B).take k):Int)]++fY c (.va v l n) (A6 ((Av B).take k)) q)) (t:=Ja c (Av B) k++prt c (.va v l n) (A6 ((Av B).take k))) (Cy c v).length (λq hq=>?_) ?_
      ·rw[show Ja c (Av B) k++[(A6 ((Av B).take k):Int)]=Ja c (Av B) k++[(A6 ((Av B).take k):Int)]++fY c (.va v l n) (A6 ((Av B).take k)) 0 by simp[fY]];exact this
      ·unfold Ed Jn L4 P2;have e6:(Cy c v).getD q AIa.zero=Ic (Cy c v) q:=rfl;have hm:Ic (Cy c v) q∈Cy c v:=by unfold Ic;exact AG hq
       have hpb:=bz (hc.2 v hv) hm;have hbd:Ic (Cy c v) q<=4096:=by omega
       have Bj:(fY c (.va v l n) (A6 ((Av B).take k)) q).length<=4096:=by
        have h2:=List.length_filter_le (Vm l n) ((Cy c v).take q);simp only[fY,AG7];rw[AHg]at h2;omega
       have e7:(He (.va v l n)).2.1=(l:Int):=rfl;have e7b:(He (.va v l n)).2.2.1=(n:Int):=rfl;have e8:wI ((l:Int)+(n:Int))=((l+n:Nat):Int):=A2 (by omega) (by omega);have e9:fY c (.va v l n) (A6 ((Av B).take k)) (q+1)=fY c (.va v l n) (A6 ((Av B).take k)) q++if Vm l n (Ic (Cy c v) q)then[(A6 ((Av B).take k):Int)+Ic (Cy c v) q-(l:Int)]else[]:=by
        simp only[fY];rw[AX (z:=(0:Int)) hq,List.filter_append,List.map_append];congr 1;show List.map _ (List.filter (Vm l n) [Ic (Cy c v) q])=_;cases hi:Vm l n (Ic (Cy c v) q)<;>simp[hi]
       simp only[AGW,e6,e7,e7b,e8];rw[DN hq,AHb,AHd (Bl hq),e9];show Option.bind (bif Vm l n (Ic (Cy c v) q)then _ else _) _=_;cases hi:Vm l n (Ic (Cy c v) q)with
       |true =>
        rw[AHb,AHd (by simp only[AGZ,List.length_cons,List.length_nil];omega),AGV,Bi hq (by omega),BM (x:=(A6 ((Av B).take k):Int)+Ic (Cy c v) q) (by omega) (by omega),BM (by omega) (by omega)];simp[AG3]
       |false =>
        rw[AHa,AGV,Bi hq (by omega)];simp
      ·unfold Ed Jn;simp only;rw[EB,AHa];have:fY c (.va v l n) (A6 ((Av B).take k)) (Cy c v).length=((Cy c v).filter (Vm l n)).map λp=>(A6 ((Av B).take k):Int)+p-(l:Int):=by
        simp only[fY];rw[AG5 (AG1 _)]
       rw[this,AG3];rfl
     rw[e5];rfl
   have e10:wI ((A6 ((Av B).take k):Int)+(He ((Av B).getD k (.co []))).2.2.1)=(A6 ((Av B).take (k+1)):Int):=by
    rw[Xd,EK hk];exact A2 (by omega) (by omega)
   rw[e2,AGV,Bi hk (by omega),e10]
  ·unfold Ee Jo;simp only;rw[EB,AHa]
 rw[this];rfl
theorem iM(hd:AL d)(hc:Er d c){B:List Bt}(h:Bm d B){x:Int}:x∈Ja c (Av B) (Av B).length↔∃p:Nat,x=(p:Int)/\p<B.length/\Ri B (C0 c) p=true:=by
 obtain⟨n1,n2,n3⟩:=kP hd h;unfold Ja;rw[List.mem_flatMap];constructor
 ·rintro⟨i,hi,hx⟩
  have hi:=List.mem_range.1 hi;have Fx:=(Wc h (AG (z:=.co []) hi)).1;have h1:=n1 _ (AG (z:=.co []) hi);have dk:=WM hi;rw[n3]at dk;rcases List.mem_cons.1 hx with rfl |hx
  ·refine⟨_,rfl,by omega,?_⟩;have:=(Ra hi (k:=0) (by omega)).2.1;unfold Ri fst;rw[show A6 ((Av B).take i)=A6 ((Av B).take i)+0 by omega,this];rfl
  ·cases hs:(Av B).getD i (.co [])with
   |co b=>rw[hs]at hx;cases hx
   |va v l n =>
    rw[hs]at hx dk Fx;obtain⟨p,hp,rfl⟩:=List.mem_map.1 hx;obtain⟨XD,Z2⟩:=List.mem_filter.1 hp;unfold Vm at Z2;rw[AG2,decide_eq_true_iff,decide_eq_true_iff]at Z2;simp only[Sg.w]at dk;obtain⟨q,rfl⟩:∃q:Nat,p=(q:Int):=⟨p.toNat,by omega⟩;refine⟨A6 ((Av B).take i)+(q-l),by omega,by omega,?_⟩;obtain⟨e1,e2,_⟩:=Ra hi (k:=q-l) (by rw[hs];simp only[Sg.w];omega);unfold Ri RS;rw[Hd,hs,WR (by omega)]at e1;rw[e1,show l+(q-l)=q by omega];simp only[vR,C0];have:(Cy c v).contains (q:Int)=true:=by simpa using XD
    rw[this,Bool.or_true]
 ·rintro⟨p,rfl,hp,ZZ⟩
  obtain⟨i,k,h1,h2,h3,h4,h5,h6,_⟩:=b5 h hp;refine⟨i,List.mem_range.2 h1,?_⟩;rcases AHj k with h0 |h0
  ·subst h0;rw[h3];exact AHq
  ·unfold Ri at ZZ;rw[h6,h5,show(k==0)=false by rw[beq_eq_false_iff_ne];omega,Bool.false_or]at ZZ;cases hs:(Av B).getD i (.co [])with
   |co b =>
    rw[hs]at ZZ h2;rw[Yf h2]at ZZ;cases ZZ
   |va v l n =>
    rw[hs]at ZZ h2;simp only[Sg.w]at h2;rw[WR h2]at ZZ;have hm:((l+k:Nat):Int)∈Cy c v:=by simpa [vR,C0]using ZZ
    refine AHn _ (List.mem_map.2 ⟨((l+k:Nat):Int),List.mem_filter.2 ⟨hm,?_⟩,by omega⟩);unfold Vm;rw[AG2,decide_eq_true_iff,decide_eq_true_iff];omega
end
def fQ(B1 B2:List Bt)(h:Nat->Nat->Bool)(p:Nat):Bool:=Ri B1 h p||Ri B2 h p
structure Gap (B1 B2:List Bt) (h:Nat->Nat->Bool) (a b:Nat):Prop where
 lt:a<b
 le:b<=B1.length
 no:∀q,a<q->q<b->fQ B1 B2 h q=false
 fr:a=0\/fQ B1 B2 h a=true
 to:b=B1.length\/fQ B1 B2 h b=true
def coB:Bt->Bool
 |.co b=>b
 |.va _ _=>false
def jO(B:List Bt)(a w:Nat):AHU:=((B.drop a).take w).map coB
def Ya(L:AHX)(B:List Bt)(a b:Nat):AHS:=match RS B a with
 |.co _=>(-1,fT (jO B a (b-a)),())
 |.va v x=>(nm (Gz L (nk v x) L.length),(0,[],()),())
theorem Aa1{A:Type}{F:Sg->List A}(hF:∀s,(F s).length=s.w){f:List Sg}{i k w:Nat}(hi:i<f.length)(hk:k+w<=(f.getD i (.co [])).w):((f.flatMap F).drop (A6 (f.take i)+k)).take w=((F (f.getD i (.co []))).drop k).take w:=by
 have e:f.flatMap F=(f.take i).flatMap F++(F (f.getD i (.co []))++(f.drop (i+1)).flatMap F):=by
  rw[<-AG3,<-WA F hi,<-List.flatMap_append,List.take_append_drop]
 have hl:=Sn hF (f.take i);have hs:=hF (f.getD i (.co []));rw[e,List.drop_append,List.drop_of_length_le (by omega),List.nil_append,hl,show A6 (f.take i)+k-A6 (f.take i)=k by omega,List.drop_append,List.take_append];rw[show w-(List.drop k (F (f.getD i (.co [])))).length=0 by rw[AHv,hs];omega,List.take_zero,AHA]
section
variable {d:AHY}
theorem Afg{B B':List Bt}(h:Bm d B){f:Nat->Nat->Bool}{a b:Nat}(hl:b<=B.length)(rr:a<b)(Vx:∀q,a<q->q<b->fst B q=false):∃i k,i<(Av B).length/\a=A6 ((Av B).take i)+k/\k+(b-a)<=((Av B).getD i (.co [])).w/\Ti d ((Av B).getD i (.co [])):=by
 obtain⟨i,k,h1,h2,h3,h4,_⟩:=b5 h (show a<B.length by omega);refine⟨i,k,h1,h3,Classical.byContradiction λhn=>?_,h4⟩;have dk:=EK h1;have hi1:i+1<(Av B).length:=by
  refine Classical.byContradiction λhc=>?_;have e:(Av B).take (i+1)=Av B:=AG5 (by omega);rw[e,Cj]at dk;omega
 have bn:=CV B _ (AG (z:=.co []) hi1);have:=(Ra hi1 (k:=0) (by omega)).2.1;have hq:=Vx (A6 ((Av B).take (i+1))) (by omega) (by omega);unfold fst at hq;rw[show A6 ((Av B).take (i+1))=A6 ((Av B).take (i+1))+0 by omega,this]at hq;cases hq
theorem yX{B:List Bt}(h:Bm d B){i k:Nat}(hi:i<(Av B).length)(hk:k<((Av B).getD i (.co [])).w):Lk (fN B) ((A6 ((Av B).take i)+k:Nat):Int)=some (He ((Av B).getD i (.co [])),(k:Int),()):=by
 unfold Lk;have hlen:=CP (CV B);rw[Cj]at hlen;have xy:=h.2.1;have dk:=WM hi;rw[Cj]at dk;have:QK (fN B) ((fN B).length:Int) ((A6 ((Av B).take i)+k:Nat):Int) 0=some (.inl (He ((Av B).getD i (.co [])),(k:Int))):=by
  unfold QK;rw[show(fN B).length=(Av B).length from BZ _];have AwU:∀j,j<=i->A6 ((Av B).take j)<=A6 ((Av B).take i):=λj hj=>by
   have e:(Av B).take j=((Av B).take i).take j:=by rw[List.take_take,Nat.min_eq_left hj]
   rw[e];exact Ez _ j
  have:=AQ (f:=G9 (fN B) ((Av B).length:Int)) (λj=>(((A6 ((Av B).take i)+k-A6 ((Av B).take j):Nat):Int),(j:Int))) (t:=.inl (He ((Av B).getD i (.co [])),(k:Int))) i (λj hj=>?_) ?_
  ·rw[List.take_zero,show A6 []=0 from rfl,Nat.sub_zero]at this;exact this
  ·unfold G9 Nr;have e1:(fN B).getD j Ae.zero=He ((Av B).getD j (.co [])):=cM (by omega);have h1:=AwU (j+1) hj;rw[EK (show j<(Av B).length by omega)]at h1;simp only[AGW,e1,Xd];rw[DN (show j<(Av B).length by omega),AHb,show(fN B).length=(Av B).length from BZ _,AHd (Bl (by omega)),AGY (by omega),AHa,Bi hj (by omega),EK (show j<(Av B).length by omega)];rw[A2 (n:=A6 ((Av B).take i)+k-(A6 ((Av B).take j)+((Av B).getD j (.co [])).w)) (by omega) (by omega)]
  ·unfold G9 Nr;have e1:(fN B).getD i Ae.zero=He ((Av B).getD i (.co [])):=cM hi;simp only[AGW,e1,Xd];rw[DN hi,AHb,show(fN B).length=(Av B).length from BZ _,AHd (Bl hi),show A6 ((Av B).take i)+k-A6 ((Av B).take i)=k by omega,DN hk,AHb]
 rw[this];rfl
variable {c:AH6}
structure jv (d:AHY) (c:AH6) (B:List Bt) (a b i k:Nat):Prop where
 hi:i<(Av B).length
 ha:a=A6 ((Av B).take i)+k
 hk:k+(b-a)<=((Av B).getD i (.co [])).w
 hs:Ti d ((Av B).getD i (.co []))
 lt:a<b
 le:b<=B.length
 no:∀q,a<q->q<b->fst B q=false
 va:∀v l n,(Av B).getD i (.co [])=.va v l n->∃m,Gz (SL d c d.length) (nk v (l+k)) (SL d c d.length).length=some m/\m<(SL d c d.length).length/\(slc (SL d c d.length) m).2.2.1=((b-a:Nat):Int)
theorem uN(hd:AL d)(hc:Er d c){B B':List Bt}(h:Bm d B)(hl:B.length=B'.length){a b:Nat}(rr:a<b)(RX:b<=B.length)(Vx:∀q,a<q->q<b->Ri B (C0 c) q=false)
    (bk:a=0\/(dq (RS B a)=true->Ri B (C0 c) a=true)) (ov:b=B.length\/(dq (RS B b)=true->Ri B (C0 c) b=true)) (he:∀x∈Av B,Qd d (C0 c) x):∃i k,jv d c B a b i k:=by
 have hnf:∀q,a<q->q<b->fst B q=false:=λq h1 h2=>by
  have:=Vx q h1 h2;unfold Ri at this;rw[Bool.or_eq_false_iff]at this;exact this.1
 obtain⟨i,k,h1,h2,h3,h4⟩:=Afg (B':=B) (f:=C0 c) h RX rr hnf;refine⟨i,k,h1,h2,h3,h4,rr,RX,hnf,λv l n hs=>?_⟩;have Fx:=h4;have hk:=h3;rw[hs]at Fx hk;obtain⟨hv,hn,hw⟩:=Fx;obtain⟨e0,bn,dn⟩:=Qf hd hv;simp only[Sg.w]at hk;have Abi:=he _ (AG (z:=.co []) h1);rw[hs]at Abi;have dk:=WM h1;rw[Cj,hs]at dk;simp only[Sg.w]at dk;have bat:∀j,j<n->RS B (A6 ((Av B).take i)+j)=.va v (l+j)/\fst B (A6 ((Av B).take i)+j)=(j==0):=λj hj=>by
  obtain⟨q1,q2,_⟩:=Ra h1 (k:=j) (by rw[hs];exact hj);rw[Hd,hs,WR hj]at q1;exact⟨q1,q2⟩
 have hb0:1<=b-a:=by omega
 have h5:=AcP hd hc (v:=v) (a:=l+k) (e:=l+k+(b-a)) hv ?_ (by omega) ?_ ?_
 ·obtain⟨m,m1,m2,m3⟩:=h5;exact⟨m,m1,m2,by rw[m3,show l+k+(b-a)-(l+k)=b-a by omega]⟩
 ·rcases AHj k with hk0 |hk0
  ·subst hk0;rcases AHj l with bl |bl
   ·exact .inl (by omega)
   ·exact .inr (Abi.1 bl (by omega))
  ·obtain⟨q1,q2⟩:=bat k (by omega);rw[<-h2]at q1 q2;rcases bk with bk |bk
   ·omega
   ·have:=bk (by rw[q1];rfl);unfold Ri at this;rw[q2,q1,show(k==0)=false by rw[beq_eq_false_iff_ne];omega,Bool.false_or]at this;exact .inr this
 ·rcases AG6 (k+(b-a)) n with Bj |YW
  ·obtain⟨q1,q2⟩:=bat (k+(b-a)) Bj;have eb:A6 ((Av B).take i)+(k+(b-a))=b:=by omega
   rw[eb]at q1 q2;have hbb:b≠B.length:=by omega
   have:=ov.resolve_left hbb (by rw[q1];rfl);unfold Ri at this;rw[q2,q1,show(k+(b-a)==0)=false by rw[beq_eq_false_iff_ne];omega,Bool.false_or]at this;exact .inr ⟨by omega,by rw[show l+k+(b-a)=l+(k+(b-a)) by omega];exact this⟩
  ·have e:l+k+(b-a)=l+n:=by omega
   rw[e];rcases AG6 (l+n) (W d v)with Bj |AFm
   ·exact .inr ⟨Bj,Abi.2 (by omega) Bj⟩
   ·exact .inl (by omega)
 ·intro q hq1 hq2;obtain⟨q1,q2⟩:=bat (q-l) (by omega);have:=Vx (A6 ((Av B).take i)+(q-l)) (by omega) (by omega);unfold Ri at this;rw[q1,Bool.or_eq_false_iff]at this;have:=this.2;rw[show l+(q-l)=q by omega]at this;exact this
theorem wV{B:List Bt}{a b i k:Nat}(S:jv d c B a b i k):(B.drop a).take (b-a)=(((Av B).getD i (.co [])).bits.drop k).take (b-a):=by
 have e:=Aa1 J0 S.hi S.hk;rw[show(Av B).flatMap Sg.bits=CX (Av B)from rfl,Hd,<-S.ha]at e;exact e
theorem k8{B:List Bt}{a b i k:Nat}(S:jv d c B a b i k):RS B a=((Av B).getD i (.co [])).bits.getD k (.co false):=by
 have h1:=S.hk;have h2:=S.lt;have:=(Ra S.hi (k:=k) (by omega)).1;rw[Hd,<-S.ha]at this;exact this
theorem q0{B:List Bt}{a b i k:Nat}(S:jv d c B a b i k){x:AHU}(hs:(Av B).getD i (.co [])=.co x):jO B a (b-a)=(x.drop k).take (b-a):=by
 unfold jO;rw[wV S,hs];simp only[Sg.bits];rw[<-List.map_drop,<-List.map_take,List.map_map];exact(List.map_congr_left λ_ _=>rfl).trans (List.map_id _)
theorem Z5(hd:AL d){B:List Bt}(h:Bm d B){a b i k:Nat}(S:jv d c B a b i k):∃r,(Lk (fN B) (a:Int)).bind (λl=>HV l ((b-a:Nat):Int) (bg (SL d c d.length) (SL d c d.length).length))=some r/\r.2.2.1=bg (SL d c d.length) (SL d c d.length).length/\(r.1,(r.2.1,r.2.2.2,()),())=Ya (SL d c d.length) B a b:=by
 have hk:=S.hk;have Bj:=S.lt;have Rn:=k8 S;rw[S.ha,yX h S.hi (by omega),<-S.ha,AGV];have xy:=h.2.1;have RX:=S.le;unfold HV Ya;rw[Rn];cases hs:(Av B).getD i (.co [])with
 |co x =>
  rw[hs]at hk;simp only[Sg.w]at hk;have Fx:=S.hs;rw[hs]at Fx;obtain⟨r,hr,vZ⟩:=tG (bs:=x) (a:=k) (w:=b-a) (by have:=Fx.2;omega) (by omega) hk;rw[show((He (.co x)).1==-1)=true from rfl,AHb];have e1:Df (He (.co x)).2.2.2.1 (k:Int) ((b-a:Nat):Int)=some r:=hr;simp only;rw[e1,AGV,Yf (by omega)];refine⟨_,rfl,rfl,?_⟩;simp only;rw[vZ,q0 S hs]
 |va v l n =>
  rw[hs]at hk;simp only[Sg.w]at hk;have Fx:=S.hs;rw[hs]at Fx;obtain⟨hv,hn,hw⟩:=Fx;obtain⟨e0,bn,dn⟩:=Qf hd hv;obtain⟨m,hm,_⟩:=S.va v l n hs;have e1:(He (.va v l n)).1=(v:Int):=rfl;have e2:(He (.va v l n)).2.1=(l:Int):=rfl;simp only[e1,e2];rw[show((v:Int)==-1)=false from beq_eq_false_iff_ne.2 (by omega),AHa,WR (by omega),A2 (x:=(l:Int)+(k:Int)) (n:=l+k) (by omega) (by omega)];refine⟨_,rfl,rfl,?_⟩;simp only;have e3:Bh Aa AIa (bg (SL d c d.length) (SL d c d.length).length) ((v:Int),((l+k:Nat):Int),())=(m:Int):=by
   unfold Bh;rw[tT];have:Gz (SL d c d.length) ((v:Int),((l+k:Nat):Int),()) (SL d c d.length).length=some m:=hm;rw[this];rfl
  rw[e3,hm];rfl
theorem al(hd:AL d){B:List Bt}(h:Bm d B){a b i k:Nat}(S:jv d c B a b i k):∃r,LJ (bV B,Vg (Av B),()) (NM d (SL d c d.length) (SL d c d.length).length) (SL d c d.length) (a:Int) (b:Int)=some r/\r.2.2.1=true/\(r.1,(r.2.1,r.2.2.2,()),())=Ya (SL d c d.length) B a b:=by
 have hk:=S.hk;have Bj:=S.lt;have Rn:=k8 S;have xy:=h.2.1;have RX:=S.le;unfold LJ Ya;have eb:(bV B).getD a Aa.zero=TF (RS B a):=b7 (by omega);simp only[AGW,eb];rw[C1,AHd (Bl (by omega))];rw[Rn];cases hs:(Av B).getD i (.co [])with
 |co x =>
  rw[hs]at hk;simp only[Sg.w]at hk;rw[Yf (by omega)];rw[show decide ((TF (.co (x.getD k false))).1<0)=true from rfl,AHb];have S8:(jO B a (b-a)).length=b-a:=by rw[q0 S hs];simp;omega
  have e1:PN (b:Int) (bV B,Vg (Av B),()) (a:Int) []=some (.inr ((jO B a (b-a)).map bI)):=by
   unfold PN;have:=AQ (f:=Gj (b:Int) (bV B,Vg (Av B),())) (λj=>(((a+j:Nat):Int),((jO B a (b-a)).take j).map bI)) (t:=.inr ((jO B a (b-a)).map bI)) (b-a) (λj hj=>?_) ?_
   ·exact this
   ·unfold Gj My;have hq:RS B (a+j)=.co ((jO B a (b-a)).getD j false):=by
     have:=(Ra S.hi (k:=k+j) (by rw[hs];simp only[Sg.w];omega)).1;rw[Hd,hs,Yf (by omega),<-Nat.add_assoc,<-S.ha]at this;show B.getD (a+j) (.co false)=_;rw[this,q0 S hs];congr 1;simp only[List.getD];rw[List.getElem?_take,AHd hj,List.getElem?_drop]
    have ec:(bV B).getD (a+j) Aa.zero=TF (RS B (a+j)):=b7 (by omega);simp only[AGW,ec,hq];rw[show decide (((a+j:Nat):Int)<(b:Int))=true from AG0 (by omega),AHb,C1,AHd (Bl (by omega)),show decide ((TF (.co ((jO B a (b-a)).getD j false))).1>=0)=false from rfl,AHa,AHd (Bl (by omega)),AHd (by simp only[AGZ,List.length_cons,List.length_nil,AG7,AHg];omega),A2 (x:=((a+j:Nat):Int)+1) (n:=a+(j+1)) (by omega) (by omega),AX (z:=false) (by omega),List.map_append];rw[show IntKind.u8.wrap (TF (.co ((jO B a (b-a)).getD j false))).2.1=bI ((jO B a (b-a)).getD j false) by cases (jO B a (b-a)).getD j false<;>rfl];rfl
   ·unfold Gj My;simp only;rw[show a+(b-a)=b by omega,EB,AHa,AG5 (by omega)]
  rw[e1,AGV];simp only[Sum.elim_inr];rw[iq (by omega) (by omega),AGV];exact⟨_,rfl,rfl,rfl⟩
 |va v l n =>
  rw[hs]at hk;simp only[Sg.w]at hk;have Fx:=S.hs;rw[hs]at Fx;obtain⟨hv,hn,hw⟩:=Fx;obtain⟨e0,bn,dn⟩:=Qf hd hv;obtain⟨m,hm,S9,Q4⟩:=S.va v l n hs;rw[WR (by omega)];have e1:(TF (.va v (l+k))).1=(v:Int):=rfl;have e2:(TF (.va v (l+k))).2.1=((l+k:Nat):Int):=rfl;have e3:(NM d (SL d c d.length) (SL d c d.length).length).getD v AIf.zero=(List.range (W d v)).map λx=>nm (Gz (SL d c d.length) (nk v x) (SL d c d.length).length):=qs hv;have e4:((List.range (W d v)).map λx=>nm (Gz (SL d c d.length) (nk v x) (SL d c d.length).length)).getD (l+k) AIa.zero=(m:Int):=by
   rw[Jx (by omega),hm];rfl
  simp only[e1,e2,AGW,e3,e4];have hNl:(NM d (SL d c d.length) (SL d c d.length).length).length=d.length:=by simp[NM]
  rw[show decide ((v:Int)<0)=false from AGY (by omega),AHa,AHd (Bl (by omega)),hNl,AHd (Bl hv),AHd (Bl (by omega)),AG7,AHC,AHd (Bl (by omega))];have e5:LK (SL d c d.length) (a:Int) (b:Int) (bV B,Vg (Av B),()) (m:Int)=some false:=by
   unfold LK;rw[show decide ((m:Int)<0)=false from AGY (by omega),AHa,AHd (Bl S9),AGW,show((SL d c d.length).getD m Ab.zero).2.2.1=((b-a:Nat):Int)from Q4,A2 (x:=(b:Int)-(a:Int)) (n:=b-a) (by omega) (by omega)];simp
  have e6:PO (b:Int) (bV B,Vg (Av B),()) (m:Int) (wI ((a:Int)+1))=some (.inr ()):=by
   unfold PO;rw[A2 (x:=(a:Int)+1) (n:=a+1) (by omega) (by omega)];have:=AQ (f:=Gk (b:Int) (bV B,Vg (Av B),()) (m:Int)) (λj=>((a+1+j:Nat):Int)) (t:=.inr ()) (b-(a+1)) (λj hj=>?_) ?_
   ·exact this
   ·unfold Gk Mz;have hf:(Vg (Av B)).getD (a+1+j) (Ty.zero .bool)=false:=S.no (a+1+j) (by omega) (by omega);simp only[AGW,hf];rw[show decide (((a+1+j:Nat):Int)<(b:Int))=true from AG0 (by omega),AHb,tW,AHd (Bl (by omega)),AHa,A2 (x:=((a+1+j:Nat):Int)+1) (n:=a+1+(j+1)) (by omega) (by omega)]
   ·unfold Gk Mz;simp only;rw[show a+1+(b-(a+1))=b by omega,EB,AHa]
  rw[e5,AGV,AHa,e6,AGV];simp only[Sum.elim_inr];refine⟨_,rfl,rfl,?_⟩;simp only;rw[hm];rfl
end
def pcV(L:AHX)(B1 B2:List Bt)(a b:Nat):AHQ:=(Ya L B1 a b,Ya L B2 a b,((b-a:Nat):Int),())
def PP(L:AHX)(B1 B2:List Bt):Nat->AHV->AH5
 |_,[]=>[]
 |a,b::r=>pcV L B1 B2 a b::PP L B1 B2 b r
def Nf(a:Nat)(l:AHV):Nat:=l.getLastD a
theorem X3(L:AHX)(B1 B2:List Bt):∀(l:AHV) (a p:Nat),PP L B1 B2 a (l++[p])=PP L B1 B2 a l++[pcV L B1 B2 (Nf a l) p]
 |[],a,p=>rfl
 |x::l,a,p=>by
  have e:Nf a (x::l)=Nf x l:=by cases l<;>rfl
  rw[e];show _::PP L B1 B2 x (l++[p])=_;rw[X3 L B1 B2 l x p];rfl
theorem ju(L:AHX)(B1 B2:List Bt):∀(l:AHV) (a:Nat),(PP L B1 B2 a l).length=l.length
 |[],_=>rfl
 |_::l,_=>by simp[PP,ju L B1 B2 l]
def eL(B1 B2:List Bt)(h:Nat->Nat->Bool)(p:Nat):AHV:=(List.range p).filter λq=>decide (1<=q)&&fQ B1 B2 h q
section
variable {B1 B2:List Bt} {h:Nat->Nat->Bool}
theorem aX(p:Nat)(hp:1<=p):eL B1 B2 h (p+1)=if fQ B1 B2 h p then eL B1 B2 h p++[p]else eL B1 B2 h p:=by
 unfold eL;rw[List.range_succ,List.filter_append];cases hq:fQ B1 B2 h p<;>simp[hp,hq]
theorem rh:eL B1 B2 h 1=[]:=by simp[eL,List.range_succ]
theorem Xw{p q:Nat}:q∈eL B1 B2 h p↔q<p/\1<=q/\fQ B1 B2 h q=true:=by
 unfold eL;rw[List.mem_filter,List.mem_range];simp
theorem gK(p:Nat):(eL B1 B2 h p).Pairwise (·<·):=(List.pairwise_lt_range (n:=p)).filter _
theorem rf(p:Nat):(eL B1 B2 h p).length<=p:=by
 unfold eL;exact AHp (List.length_filter_le _ _) (by simp)
theorem iu:∀{l:AHV} {a:Nat},l.Pairwise (·<·)->(∀q∈l,q<=Nf a l)/\(Nf a l=a/\l=[]\/Nf a l∈l)
 |[],a,_=>⟨λq hq=>(by cases hq),.inl ⟨rfl,rfl⟩⟩
 |x::l,a,hs=>by
  have e:Nf a (x::l)=Nf x l:=by cases l<;>rfl
  rw[List.pairwise_cons]at hs;obtain⟨h1,h2⟩:=iu (a:=x) hs.2;rw[e];refine⟨λq hq=>?_,?_⟩
  ·rcases List.mem_cons.1 hq with rfl |hq
   ·rcases h2 with ⟨h2,_⟩|h2
    ·omega
    ·have:=hs.1 _ h2;omega
   ·exact h1 q hq
  ·rcases h2 with ⟨h2,_⟩|h2
   ·rw[h2];exact .inr AHq
   ·exact .inr (AHn _ h2)
theorem cW{p:Nat}(hp:1<=p)(RX:p<=B1.length)(ov:p=B1.length\/fQ B1 B2 h p=true):Gap B1 B2 h (Nf 0 (eL B1 B2 h p)) p:=by
 obtain⟨h1,h2⟩:=iu (a:=0) (gK (B1:=B1) (B2:=B2) (h:=h) p);refine⟨?_,RX,λq hq1 hq2=>?_,?_,ov⟩
 ·rcases h2 with ⟨h2,_⟩|h2
  ·omega
  ·exact(Xw.1 h2).1
 ·cases hq:fQ B1 B2 h q with
  |false=>rfl
  |true=>have:=h1 q (Xw.2 ⟨hq2,by omega,hq⟩);omega
 ·rcases h2 with ⟨h2,_⟩|h2
  ·exact .inl h2
  ·exact .inr (Xw.1 h2).2.2
theorem jT:∀(n:Nat) {i:Nat} (hi:i<(eL B1 B2 h n).length),(eL B1 B2 h n).take i=eL B1 B2 h ((eL B1 B2 h n)[i])
 |0,i,hi=>by simp[eL]at hi
 |1,i,hi=>by rw[rh]at hi;simp at hi
 |n+2,i,hi=>by
  have es:=aX (B1:=B1) (B2:=B2) (h:=h) (n+1) (by omega);cases hq:fQ B1 B2 h (n+1)with
  |false =>
   rw[hq]at es;simp only[Bool.false_eq_true,if_false]at es;simp only[es]at hi⊢;exact jT (n+1) hi
  |true =>
   rw[hq]at es;simp only[if_true]at es;simp only[es]at hi⊢;rw[AGZ,AHf]at hi;rcases AG6 i (eL B1 B2 h (n+1)).length with Bj |YW
   ·rw[List.take_append_of_le_length (by omega),List.getElem_append_left Bj];exact jT (n+1) Bj
   ·have:i=(eL B1 B2 h (n+1)).length:=by omega
    subst this;simp
end
section
variable {d:AHY} {c:AH6} {B1 B2:List Bt}
theorem Zm(hd:AL d)(hc:Er d c)(h1:Bm d B1)(h2:Bm d B2)(hl:B1.length=B2.length)(BH:jw d B1 B2 (C0 c)){a b:Nat}(g:Gap B1 B2 (C0 c) a b):(∃i k,jv d c B1 a b i k)/\∃i k,jv d c B2 a b i k:=by
 have Vx:∀q,a<q->q<b->Ri B1 (C0 c) q=false/\Ri B2 (C0 c) q=false:=λq q1 q2=>by
  have:=g.no q q1 q2;unfold fQ at this;rwa [Bool.or_eq_false_iff]at this
 have ud:∀q,1<=q->q<B1.length->fQ B1 B2 (C0 c) q=true->(dq (RS B1 q)=true->Ri B1 (C0 c) q=true)/\(dq (RS B2 q)=true->Ri B2 (C0 c) q=true):=λq q1 q2 hq=>by
  have hs:=BH.2 q q1 q2;unfold fQ at hq;rw[Bool.or_eq_true]at hq;rcases hq with hq |hq
  ·exact⟨λ_=>hq,hs.1 hq⟩
  ·exact⟨hs.2 hq,λ_=>hq⟩
 have Bj:=g.lt;have RX:=g.le;constructor
 ·refine uN (B':=B2) hd hc h1 hl g.lt g.le (λq q1 q2=>(Vx q q1 q2).1) ?_ ?_ λx hx=>BH.1 x (AHt _ hx)
  ·rcases AHj a with h0 |h0
   ·exact .inl h0
   ·exact .inr (ud a h0 (by omega) (g.fr.resolve_left (by omega))).1
  ·rcases g.to with e |e
   ·exact .inl e
   ·rcases AG6 b B1.length with hb |hb
    ·exact .inr (ud b (by omega) hb e).1
    ·exact .inl (by omega)
 ·refine uN (B':=B1) hd hc h2 hl.symm g.lt (by omega) (λq q1 q2=>(Vx q q1 q2).2) ?_ ?_ λx hx=>BH.1 x (AHu _ hx)
  ·rcases AHj a with h0 |h0
   ·exact .inl h0
   ·exact .inr (ud a h0 (by omega) (g.fr.resolve_left (by omega))).2
  ·rcases g.to with e |e
   ·exact .inl (by omega)
   ·rcases AG6 b B1.length with hb |hb
    ·exact .inr (ud b (by omega) hb e).2
    ·exact .inl (by omega)
theorem oT{B:List Bt}(h:Bm d B):1<=(Av B).length:=by
 rcases AHj (Av B).length with h0 |h0
 ·have e:Av B=[]:=List.eq_nil_of_length_eq_zero h0;have:=Cj B;rw[e]at this;have:=h.1;simp[A6]at *;omega
 ·exact h0
theorem AzM{B:List Bt}(h:Bm d B):fst B 0=true:=by
 have hp:=oT h;have:=(Ra (f:=Av B) (i:=0) (k:=0) (by omega) (CV B _ (AG (z:=Sg.co []) (show 0<(Av B).length by omega)))).2.1;rw[List.take_zero]at this;exact this
theorem fL(hd:AL d)(hc:Er d c)(hb:Vr c)(h1:Bm d B1)(h2:Bm d B2)(hl:B1.length=B2.length)(BH:jw d B1 B2 (C0 c)) :
    OG (fN B1) (fN B2) (c,()) (bg (SL d c d.length) (SL d c d.length).length)=some (bg (SL d c d.length) (SL d c d.length).length,PP (SL d c d.length) B1 B2 0 (eL B1 B2 (C0 c) B1.length++[B1.length])):=by
 unfold OG;have rE:=h1.1;have hn2:=h1.2.1;have pl:∀{B:List Bt},Bm d B->(Ja c (Av B) (Av B).length).length<=20000000/\1<=(Ja c (Av B) (Av B).length).length:=λ{B} h=>by
  have hlen:=CP (CV B);rw[Cj]at hlen;have xy:=h.2.1;have q1:(Ja c (Av B) (Av B).length).length<=4097*(Av B).length:=UC λi hi=>uH hd hc (Wc h (AG hi)).1 _;refine⟨by omega,?_⟩;have hp:=oT h;have:((A6 ((Av B).take 0):Nat):Int)∈Ja c (Av B) (Av B).length:=List.mem_flatMap.2 ⟨0,List.mem_range.2 (by omega),AHq⟩;exact List.length_pos_of_mem this
 have p1:=pl h1;have p2:=pl h2;rw[oX hd hc hb h1,AGV,oX hd hc hb h2,AGV,jP p1.2 (by omega) (by omega),AGV,AHd (by rw[AGZ];omega),Adx h1,AGV];have hu:MN (Np (Ja c (Av B1) (Av B1).length++Ja c (Av B2) (Av B2).length))=(0::eL B1 B2 (C0 c) B1.length).map Int.ofNat:=by
  obtain⟨v1',v2'⟩:=aA (Ja c (Av B1) (Av B1).length++Ja c (Av B2) (Av B2).length);refine eC (λ_ _ h=>h) v1' ?_ λx=>?_
  ·rw[List.pairwise_map,List.pairwise_cons];refine⟨λq hq=>?_,(gK _).imp λ{a b} h=>?_⟩
   ·have:=(Xw.1 hq).2.1;show((0:Nat):Int)<(q:Int);omega
   ·show(a:Int)<(b:Int);omega
  ·rw[v2',List.mem_append,iM hd hc h1,iM hd hc h2,List.mem_map];constructor
   ·intro hx;have:∃p:Nat,x=(p:Int)/\p<B1.length/\fQ B1 B2 (C0 c) p=true:=by
     rcases hx with ⟨p,e,hp,hq⟩|⟨p,e,hp,hq⟩
     ·exact⟨p,e,hp,by unfold fQ;rw[hq];rfl⟩
     ·exact⟨p,e,by omega,by unfold fQ;rw[hq];simp⟩
    obtain⟨p,rfl,hp,hq⟩:=this;refine⟨p,?_,rfl⟩;rcases AHj p with h0 |h0
    ·rw[h0];exact AHq
    ·exact AHn _ (Xw.2 ⟨hp,h0,hq⟩)
   ·rintro⟨p,hp,rfl⟩
    rcases List.mem_cons.1 hp with rfl |hp
    ·exact .inl ⟨0,rfl,by omega,by unfold Ri;rw[AzM h1];rfl⟩
    ·obtain⟨q1,q2,q3⟩:=Xw.1 hp;unfold fQ at q3;rw[Bool.or_eq_true]at q3;rcases q3 with q3 |q3
     ·exact .inl ⟨p,rfl,q1,q3⟩
     ·exact .inr ⟨p,rfl,by omega,q3⟩
 rw[hu];generalize hE:eL B1 B2 (C0 c) B1.length=E;have xx:E.length<=4096:=by rw[<-hE];have:=rf (B1:=B1) (B2:=B2) (h:=C0 c) B1.length;omega
 have bm:(((0::E).map Int.ofNat)++[(B1.length:Int)]).length=E.length+2:=by simp
 have hw:wI (((((0::E).map Int.ofNat)++[(B1.length:Int)]).length:Int)-1)=((E.length+1:Nat):Int):=A2 (by rw[bm];omega) (by omega);rw[AHd (by simp;omega),hw,AHd ⟨by omega,by omega,by rw[bm];omega⟩,AGW,List.drop_zero];have ht:((((0::E).map Int.ofNat)++[(B1.length:Int)]).take (E.length+1))=(0::E).map Int.ofNat:=by
  rw[List.take_append_of_le_length (by simp)];exact AG5 (by simp)
 rw[ht];have vU:(((0::E).map Int.ofNat).length:Int)=((E.length+1:Nat):Int):=by simp
 rw[vU];have od:Pf (fN B1) (fN B2) (((0::E).map Int.ofNat)++[(B1.length:Int)]) ((0::E).map Int.ofNat) ((E.length+1:Nat):Int) 0 (bg (SL d c d.length) (SL d c d.length).length) []=some (bg (SL d c d.length) (SL d c d.length).length,PP (SL d c d.length) B1 B2 0 (E++[B1.length])):=by
  unfold Pf;have:=AQ (f:=Gc (fN B1) (fN B2) (((0::E).map Int.ofNat)++[(B1.length:Int)]) ((0::E).map Int.ofNat) ((E.length+1:Nat):Int)) (λi=>((i:Int),bg (SL d c d.length) (SL d c d.length).length,PP (SL d c d.length) B1 B2 0 ((E++[B1.length]).take i))) (t:=(bg (SL d c d.length) (SL d c d.length).length,PP (SL d c d.length) B1 B2 0 (E++[B1.length]))) (E.length+1) (λi hi=>?_) ?_
  ·exact this
  ·unfold Gc L8;have AEX:(E++[B1.length]).length=E.length+1:=by simp
   obtain⟨p,hp⟩:∃p,p=(E++[B1.length]).getD i 0:=⟨_,rfl⟩;have ka:((0::E).map Int.ofNat).getD i AIa.zero=((Nf 0 ((E++[B1.length]).take i):Nat):Int):=by
    match i,hi with
    |0,_=>rfl
    |j+1,hj =>
     have hjE:j<E.length:=by omega
     have e1:((0::E).map Int.ofNat).getD (j+1) AIa.zero=((E.getD j 0:Nat):Int):=by simp[List.getD,hjE]
     rw[e1,List.take_append_of_le_length (by omega),AX (z:=0) hjE];rw[show Nf 0 (E.take j++[E.getD j 0])=E.getD j 0 from List.getLastD_concat]
   have kb:(((0::E).map Int.ofNat)++[(B1.length:Int)]).getD (i+1) AIa.zero=(p:Int):=by
    rw[hp];have e1:((0::E).map Int.ofNat)++[(B1.length:Int)]=0::(E++[B1.length]).map Int.ofNat:=by simp
    rw[e1];simp only[List.getD,List.getElem?_cons_succ,AHo];have:(E++[B1.length])[i]?=some ((E++[B1.length])[i]'(by omega)):=List.getElem?_eq_getElem (by omega);rw[this];rfl
   have gap:Gap B1 B2 (C0 c) (Nf 0 ((E++[B1.length]).take i)) p:=by
    rcases AG6 i E.length with Bj |YW
    ·have vX:p=E[i]:=by rw[hp];simp only[List.getD];rw[AHi Bj,List.getElem?_eq_getElem Bj];rfl
     have hm:p∈E:=by rw[vX];exact AHD Bj
     rw[<-hE]at hm;obtain⟨m1,m2,m3⟩:=Xw.1 hm;have ht2:(E++[B1.length]).take i=eL B1 B2 (C0 c) p:=by
      rw[List.take_append_of_le_length (by omega),vX];subst hE;exact jT _ Bj
     rw[ht2];exact cW m2 (by omega) (.inr m3)
    ·have hie:i=E.length:=by omega
     have vX:p=B1.length:=by rw[hp,hie];simp[List.getD]
     have ht2:(E++[B1.length]).take i=eL B1 B2 (C0 c) p:=by
      rw[hie,List.take_append_of_le_length (AG1 _),AG5 (AG1 _),<-hE,vX]
     rw[ht2];exact cW (by omega) (by omega) (.inl vX)
   obtain⟨⟨i1,k1,s1⟩,⟨i2,k2,s2⟩⟩:=Zm hd hc h1 h2 hl BH gap;obtain⟨r1,a1,a2,a3⟩:=Z5 hd h1 s1;obtain⟨r2,b1,b2,b3⟩:=Z5 hd h2 s2;have hgl:=gap.lt;have AFo:=gap.le;have hwd:wI ((p:Int)-((Nf 0 ((E++[B1.length]).take i):Nat):Int))=((p-Nf 0 ((E++[B1.length]).take i):Nat):Int):=A2 (by omega) (by omega);have hi1:wI ((i:Int)+1)=((i+1:Nat):Int):=A2 (by omega) (by omega);simp only[hi1,AGW,ka,kb,hwd];have hPl:(PP (SL d c d.length) B1 B2 0 ((E++[B1.length]).take i)).length<=5000:=by rw[ju,AHg];omega
   rw[show decide ((i:Int)<((E.length+1:Nat):Int))=true from AG0 (by omega),AHb,AG7,AHd (Bl (by simp;omega)),AHd (Bl (by simp;omega))];rw[<-AHc,a1,AGV];simp only[a2];rw[<-AHc,b1,AGV,AHd (by simp only[AGZ,List.length_cons,List.length_nil];omega)];simp only[b2,a3,b3];rw[AX (z:=0) (by omega),X3,<-hp];rfl
  ·unfold Gc L8;simp only;rw[EB,AHa,AG5 (by simp)]
 rw[od];rfl
def eX(B1 B2:List Bt)(h:Nat->Nat->Bool)(p:Nat):AHV:=if p<=B1.length then eL B1 B2 h p else eL B1 B2 h B1.length++[B1.length]
theorem gg(hd:AL d)(hc:Er d c)(h1:Bm d B1)(h2:Bm d B2)(hl:B1.length=B2.length)(BH:jw d B1 B2 (C0 c)) :
    KV (M d 1 (C0 c)) (NM d (SL d c d.length) (SL d c d.length).length) (SL d c d.length) (bV B1) (Vg (Av B1)) (bV B2) (Vg (Av B2)) 0 1 []=some (.inr (PP (SL d c d.length) B1 B2 0 (eL B1 B2 (C0 c) B1.length++[B1.length]))):=by
 unfold KV;have rE:=h1.1;have hn2:=h1.2.1;have:=AQ (f:=DL (M d 1 (C0 c)) (NM d (SL d c d.length) (SL d c d.length).length) (SL d c d.length) (bV B1) (Vg (Av B1)) (bV B2) (Vg (Av B2))) (λj=>(((Nf 0 (eX B1 B2 (C0 c) (j+1)):Nat):Int),((j+1:Nat):Int),PP (SL d c d.length) B1 B2 0 (eX B1 B2 (C0 c) (j+1)))) (t:=.inr (PP (SL d c d.length) B1 B2 0 (eL B1 B2 (C0 c) B1.length++[B1.length]))) B1.length (λj hj=>?_) ?_
 ·have e0:eX B1 B2 (C0 c) (0+1)=[]:=by unfold eX;rw[AHd (by omega)];exact rh
  simp only[e0]at this;exact this
 ·unfold DL Is;have eX1:eX B1 B2 (C0 c) (j+1)=eL B1 B2 (C0 c) (j+1):=by unfold eX;rw[AHd (by omega)]
  have hPl:(PP (SL d c d.length) B1 B2 0 (eL B1 B2 (C0 c) (j+1))).length<=5000:=by rw[ju];have:=rf (B1:=B1) (B2:=B2) (h:=C0 c) (j+1);omega
  simp only[eX1];rw[C1,show decide (((j+1:Nat):Int)<=(B1.length:Int))=true from AG0 (by omega),AHb];by_cases Abf:j+1=B1.length\/fQ B1 B2 (C0 c) (j+1)=true
  ·have e7:Ei (M d 1 (C0 c)) (NM d (SL d c d.length) (SL d c d.length).length) (SL d c d.length) ((Nf 0 (eL B1 B2 (C0 c) (j+1)):Nat):Int) ((j+1:Nat):Int) (PP (SL d c d.length) B1 B2 0 (eL B1 B2 (C0 c) (j+1))) (bV B1) (Vg (Av B1)) (bV B2) (Vg (Av B2))=some (.inr ()):=by
     unfold Ei;rw[C1];rcases AG6 (j+1) B1.length with Bj |YW
     ·have hq:=Abf.resolve_left (by omega);unfold fQ at hq;rw[show decide (((j+1:Nat):Int)<(B1.length:Int))=true from AG0 (by omega),AHb,Qy hd h1 Bj,AGV];cases hA:Ri B1 (C0 c) (j+1)with
      |true=>rfl
      |false =>
       rw[hA,Bool.false_or]at hq;rw[Bool.not_false,AHb,Qy hd h2 (by omega),AGV,hq];rfl
     ·rw[show decide (((j+1:Nat):Int)<(B1.length:Int))=false from AGY (by omega),AHa]
   have gap:=cW (B1:=B1) (B2:=B2) (h:=C0 c) (show 1<=j+1 by omega) (by omega) Abf;obtain⟨⟨i1,k1,s1⟩,⟨i2,k2,s2⟩⟩:=Zm hd hc h1 h2 hl BH gap;obtain⟨r1,a1,a2,a3⟩:=al hd h1 s1;obtain⟨r2,b1,b2,b3⟩:=al hd h2 s2;have hgl:=gap.lt;have hwd:wI (((j+1:Nat):Int)-((Nf 0 (eL B1 B2 (C0 c) (j+1)):Nat):Int))=((j+1-Nf 0 (eL B1 B2 (C0 c) (j+1)):Nat):Int):=A2 (by omega) (by omega);unfold IZ P2;rw[e7,AGV];simp only[Sum.elim_inr];rw[a1,AGV,b1,AGV];simp only[a2,b2,hwd,Bool.not_true,Bool.or_false,AHa];rw[AHd (by simp only[AGZ,List.length_cons,List.length_nil];omega),AGV];simp only[Sum.elim_inl,a3,b3];have eX2:eX B1 B2 (C0 c) (j+1+1)=eL B1 B2 (C0 c) (j+1)++[j+1]:=by
    unfold eX;rcases AG6 (j+1) B1.length with Bj |YW
    ·rw[AHd (by omega),aX _ (by omega),AHd (Abf.resolve_left (by omega))]
    ·rw[AHe (by omega),show B1.length=j+1 by omega]
   rw[eX2,X3,A2 (x:=((j+1:Nat):Int)+1) (n:=j+1+1) (by omega) (by omega)];have:Nf 0 (eL B1 B2 (C0 c) (j+1)++[j+1])=j+1:=by unfold Nf;simp
   rw[this];rfl
  ·have Abg:j+1<B1.length/\fQ B1 B2 (C0 c) (j+1)=false:=by
     rw[not_or]at Abf;exact⟨by omega,by simpa using Abf.2⟩
   have hq:=Abg.2;unfold fQ at hq;rw[Bool.or_eq_false_iff]at hq;have e7:Ei (M d 1 (C0 c)) (NM d (SL d c d.length) (SL d c d.length).length) (SL d c d.length) ((Nf 0 (eL B1 B2 (C0 c) (j+1)):Nat):Int) ((j+1:Nat):Int) (PP (SL d c d.length) B1 B2 0 (eL B1 B2 (C0 c) (j+1))) (bV B1) (Vg (Av B1)) (bV B2) (Vg (Av B2))=some (.inl ()):=by
    unfold Ei;rw[C1,show decide (((j+1:Nat):Int)<(B1.length:Int))=true from AG0 (by omega),AHb,Qy hd h1 Abg.1,AGV,hq.1,Bool.not_false,AHb,Qy hd h2 (by omega),AGV,hq.2];rfl
   unfold IZ;rw[e7,AGV];simp only[Sum.elim_inl];rw[AGV];simp only[Sum.elim_inl];have eX2:eX B1 B2 (C0 c) (j+1+1)=eL B1 B2 (C0 c) (j+1):=by
    unfold eX;rw[AHd (by omega),aX _ (by omega),Abg.2];rfl
   rw[eX2,A2 (x:=((j+1:Nat):Int)+1) (n:=j+1+1) (by omega) (by omega)]
 ·unfold DL Is;have eX1:eX B1 B2 (C0 c) (B1.length+1)=eL B1 B2 (C0 c) B1.length++[B1.length]:=by unfold eX;rw[AHe (by omega)]
  simp only[eX1];rw[C1,show decide (((B1.length+1:Nat):Int)<=(B1.length:Int))=false from AGY (by omega),AHa]
end
section
end
end Go.Proofs.X
namespace Go.Va
open Go.Proofs.X
theorem AmK{A B:Type}{F:A->Int->Option Int}{G:B->Int->Option Int}{x:A}{y:B}{m n:Nat}(hF:∀left:Int,0<=left->left<=1048576->F x left=some (if(m:Int)<=left then left-(m:Int)else -1))(hG:∀left:Int,0<=left->left<=1048576->G y left=some (if(n:Int)<=left then left-(n:Int)else -1)){left:Int}(h0:0<=left)(h1:left<=1048576) :
    ((F x left).bind λc=>bif decide (c<0)then some (-1)else(G y c).bind λd=>bif decide (d<0)then some (-1)else some d)=some (if((m+n:Nat):Int)<=left then left-((m+n:Nat):Int)else -1):=by
 rw[hF left h0 h1,AGV];split
 ·rw[AGY (by omega),AHa,hG _ (by omega) (by omega),AGV];split
  ·rw[AGY (by omega),AHa,AHd (by omega)];congr 1;omega
  ·rw[AHe (by omega)];rfl
 ·rw[AHe (by omega)];rfl
theorem AmJ{A:Type}{F:A->Int->Option Int}{x:A}{m:Nat}(hF:∀left:Int,0<=left->left<=1048576->F x left=some (if(m:Int)<=left then left-(m:Int)else -1)){left:Int}(h0:0<=left)(h1:left<=1048576) :
    ((F x left).bind λc=>bif decide (c<0)then some (-1)else some c)=some (if(m:Int)<=left then left-(m:Int)else -1):=by
 rw[hF left h0 h1,AGV];split
 ·rw[AGY (by omega),AHa]
 ·rfl
theorem Af7{m:Nat}{left:Int}(h0:0<=left)(h1:left<=1048576)(hn:m<=maxLen):(bif decide ((wI (left-(m:Int)))<0)then(-1)else wI (left-(m:Int)))=if(m:Int)<=left then left-(m:Int)else -1:=by
 unfold maxLen at hn;rw[BM (by omega) (by omega)];split
 ·rw[show decide (left-(m:Int)<0)=false by simp;omega];rfl
 ·rw[show decide (left-(m:Int)<0)=true by simp;omega];rfl
theorem eJ{A E:Type}{F:A->Option E}{mk:E->A}{z z0:A}{r:Int×List A->Option ((Int×List A)⊕List A)}{a:List A}
    (hr:∀x,r x=bif decide (x.1<(a.length:Int))then(if(0:Int)<=x.1/\x.1<(a.length:Int)then(F (a.getD x.1.toNat z)).bind λe=>(if(0:Int)<=x.1/\x.1<(x.2.length:Int)then some (.inl (wI (x.1+1),x.2.set x.1.toNat (mk e)))else none)else none)else some (.inr x.2))
    (hn:a.length<=1048576) (hF:∀x∈a,∃e,F x=some e/\mk e=x):fix r (0,List.replicate a.length z0)=some a:=by
 have:=AQ (f:=r) (λk=>((k:Int),Go.Proofs.X.B7 (λi=>a.getD i z) z0 a.length k)) (t:=a) a.length (λk hk=>by
  rw[hr];simp only;obtain⟨e,he,hm⟩:=hF (a.getD k z) (by simp[List.getD,hk]);rw[DN hk,AHb,AHd (Bl hk),AGW,he,AGV,Go.Proofs.X.F7,AHd (Bl hk),hm];rw[show wI ((k:Int)+1)=((k+1:Nat):Int)from Go.Proofs.X.Bi hk hn,Go.Proofs.X.Ox (λi=>a.getD i z) z0]) (by
  rw[hr];simp only;rw[EB,AHa,Go.Proofs.X.cN])
 have h:fix r (((0:Nat):Int),Go.Proofs.X.B7 (λi=>a.getD i z) z0 a.length 0)=some a:=this;rw[Go.Proofs.X.Lh]at h;exact h
end Go.Va
namespace Go.Proofs.X
open Go Go.Va
set_option maxRecDepth 100000
theorem xm{a:AHI}(h:Ty.Wf Ad a):aB Ad (λx l=>some (Hw x l)) a:=λleft h0 h1=>by
 show some (Hw a left)=_;unfold Hw;rw[Af7 h0 h1 h.1];rfl
theorem sD{a:AHY}(h:Ty.Wf (.sl Ad) a):aB (.sl Ad) Pj a :=
 sE (z :=Ad.zero) (r:=KM) (λ_ _=>rfl) (λ_ _=>rfl) h.1 λx hx=>xm (h.2 x hx)
theorem xl{a:AHM}(h:Ty.Wf Ah a):aB Ah (λx l=>some (Ct x l)) a:=λleft h0 h1=>by
 have hu:=lz h.2.1.1 left h0 h1;have e:wt Ah a=wt (.sl (.int .u64)) a.2.1:=by show 0+(_+0)=_;omega
 show some (Ct a left)=_;unfold Ct;rw[e];have xC:B9 a.2.1 left=_:=Option.some.inj hu;rw[xC];congr 1;split
 ·rw[AGY (by omega),AHa]
 ·rfl
theorem sF{a:AHL}(h:Ty.Wf Ag a):aB Ag (λx l=>some (FT x l)) a:=λleft h0 h1=>by
 have hb:=xl h.2.2.2.2.1 left h0 h1;have p9:Ct a.2.2.2.2.1 left=_:=Option.some.inj hb;have hi:∀l:Int,0<=l->l<=1048576->Cv a.2.2.2.2.2.1 l=_:=λl h0 h1=>Option.some.inj (pM h.2.2.2.2.2.1.1 l h0 h1);have e:wt Ag a=wt Ah a.2.2.2.2.1+wt (.sl (.int .i64)) a.2.2.2.2.2.1:=by show 0+(0+(0+(0+(_+(_+0)))))=_;omega
 show some (FT a left)=_;unfold FT;rw[p9,e];congr 1;generalize wt Ah a.2.2.2.2.1=m at *;by_cases hm:(m:Int)<=left
 ·rw[AHd hm,AGY (by omega),AHa,hi _ (by omega) (by omega)];generalize wt (.sl (.int .i64)) a.2.2.2.2.2.1=n at *;by_cases hn:(n:Int)<=left-(m:Int)
  ·rw[AHd hn,AGY (by omega),AHa,AHd (by omega)];omega
  ·rw[AHe hn,AHe (by omega)];rfl
 ·rw[AHe hm,AHe (by omega)];rfl
theorem pN{a:AH1}(h:Ty.Wf (.sl Ag) a):aB (.sl Ag) Kk a :=
 sE (z :=Ag.zero) (r:=Ju) (λ_ _=>rfl) (λ_ _=>rfl) h.1 λx hx=>sF (h.2 x hx)
theorem jb{a:AHR}(h:Ty.Wf Ar a):aB Ar I9 a:=λleft h0 h1 =>
 AmJ (F:=Kk) (x:=a.1) (pN h.1) h0 h1
theorem ly{a:AHK}(h:Ty.Wf Af a):aB Af Lu a:=λleft h0 h1=>by
 have e:wt Af a=wt Ar a.2.2.1+wt Ar a.2.2.2.1:=by show 0+(0+(_+(_+0)))=_;omega
 rw[e];exact AmK (F:=I9) (G:=I9) (jb h.2.2.1) (jb h.2.2.2.1) h0 h1
theorem gj{a:AH0}(h:Ty.Wf (.sl Af) a):aB (.sl Af) J8 a :=
 sE (z :=Af.zero) (r:=Hy) (λ_ _=>rfl) (λ_ _=>rfl) h.1 λx hx=>ly (h.2 x hx)
theorem sN{t:Ty}(a:List t.V):a.length<=wt (.sl t) a:=Nat.le_add_right _ _
theorem AdB{t:Ty}{a:List t.V}{x:t.V}(h:x∈a):wt t x<=wt (.sl t) a:=by
 show _<=a.length+(a.map (wt t)).sum;have:∀l:List t.V,x∈l->wt t x<=(l.map (wt t)).sum:=λl hl=>by
  induction l with
  |nil=>cases hl
  |cons y l ih =>
   simp only[List.map_cons,List.sum_cons];rcases List.mem_cons.1 hl with rfl |hl
   ·omega
   ·have:=ih hl;omega
 have:=this a h;omega
theorem Amy{n:AHL}(hw:Ty.Wf Ag n)(h:wt Ag n<=1048576):WY n:=by
 have e:wt Ag n=wt (.sl (.int .u64)) (fe n)+wt (.sl (.int .i64)) (AE n):=by show 0+(0+(0+(0+((0+(_+0))+(_+0)))))=_;unfold fe AE;omega
 rw[e,AdC,AdA]at h;exact⟨by omega,by omega,Adz hw.2.2.2.2.1.2.1.2⟩
theorem Adq{t:AHR}(hw:Ty.Wf Ar t)(h:wt Ar t<=1048576):Si t.1:=by
 have e:wt Ar t=wt (.sl Ag) t.1:=rfl;rw[e]at h;exact⟨AHp (sN t.1) h,λn hn=>Amy (hw.1.2 n hn) (AHp (AdB hn) h)⟩
theorem Axn{x:AHK}(hw:Ty.Wf Af x)(h:wt Af x<=1048576):Tc x:=by
 have e:wt Af x=wt Ar x.2.2.1+wt Ar x.2.2.2.1:=by show 0+(0+(_+(_+0)))=_;omega
 rw[e]at h;exact⟨Adq hw.2.2.1 (by omega),Adq hw.2.2.2.1 (by omega)⟩
theorem sI{a:AHY}(h:a.length<=1048576):Hz a=some a:=by
 unfold Hz Rw;rw[AHd ⟨rfl,by omega,by omega,by omega,by omega⟩,AGW,eJ (r:=KN a) (F:=λx=>some (OJ x)) (mk:=λe=>(e.1,e.2,())) (z :=Ad.zero) (λ_=>rfl) h (λx _=>⟨_,rfl,rfl⟩)];rfl
theorem lD{a:AHT}(h:a.length<=1048576):GC a=some a:=by
 unfold GC Pk;rw[AHd ⟨rfl,by omega,by omega,by omega,by omega⟩,AGW,eJ (r:=Ir a) (F:=λx=>some x) (mk:=λe=>e) (z:=Ty.zero (.int .u64)) (λ_=>rfl) h (λx _=>⟨_,rfl,rfl⟩)];rfl
theorem pQ{a:AHT}(h:a.length<=1048576):HZ a=some a:=by
 unfold HZ Qq;rw[AHd ⟨rfl,by omega,by omega,by omega,by omega⟩,AGW,eJ (r:=Jv a) (F:=λx=>some x) (mk:=λe=>e) (z:=Ty.zero (.int .i64)) (λ_=>rfl) h (λx _=>⟨_,rfl,rfl⟩)];rfl
theorem pR{a:AH1}(h:Si a):Kl a=some a:=by
 unfold Kl Qr;have hl:=h.1;rw[AHd ⟨rfl,by omega,by omega,by omega,by omega⟩,AGW,eJ (r:=Jw a) (F:=Md) (mk:=λe=>(e.1,e.2.1,e.2.2.1,e.2.2.2.1,(e.2.2.2.2.1,e.2.2.2.2.2.1,()),e.2.2.2.2.2.2,())) (z :=Ag.zero) (λ_=>rfl) hl (λx hx=>by
  have hn:=h.2 x hx;unfold Md Q7;rw[show GC x.2.2.2.2.1.2.1=some x.2.2.2.2.1.2.1 from lD hn.2.1,AGV,AGV,show HZ x.2.2.2.2.2.1=some x.2.2.2.2.2.1 from pQ hn.1];exact⟨_,rfl,rfl⟩)]
 rfl
theorem jc{t:AHR}(h:Si t.1):Lv t=some t.1:=by
 unfold Lv;rw[pR h];rfl
theorem gk{a:AH0}(hl:a.length<=1048576)(h:∀x∈a,Tc x):DY a=some a:=by
 unfold DY Oh;rw[AHd ⟨rfl,by omega,by omega,by omega,by omega⟩,AGW,eJ (r:=HA a) (F:=IQ) (mk:=λe=>(e.1,e.2.1,(e.2.2.1,()),(e.2.2.2,()),())) (z :=Af.zero) (λ_=>rfl) hl (λx hx=>by
  unfold IQ;rw[jc (h x hx).1,AGV,jc (h x hx).2];exact⟨_,rfl,rfl⟩)]
 rfl
end Go.Proofs.X
namespace Go.Va
section
variable {A:Type} {H:Int->A->Int->Prop}
end
end Go.Va
namespace Go.Proofs.X
open Go Go.Va
set_option maxRecDepth 100000
theorem w1{b:Int}(h0:0<=b)(h1:b<=2305843009213693952):wI (b+1)=b+1:=BM (by omega) (by omega)
end Go.Proofs.X
namespace Go.Proofs.X
open Go Go.Va
set_option maxRecDepth 100000
theorem bf{A:Type}{G:A->A->Option Bool}{a:A}(h:VA G a):G a a=some true:=by
 obtain⟨r,hr,hq⟩:=h a;rw[hr,hq.2 rfl]
abbrev gI(l:AHT)(i:Nat):Int:=l.getD i AIa.zero
theorem XA{l:AHT}{i j:Nat}{x:Int}(hi:i<l.length):gI (l.set i x) j=if j=i then x else gI l j:=by
 unfold gI;by_cases h:j=i
 ·subst h;rw[AHd rfl];simp[List.getD,hi]
 ·rw[AHe h];simp[List.getD,AHk,Ne.symm h]
theorem Rm{l:AHT}{x:Int}{j:Nat}:gI (l++[x]) j=if j=l.length then x else gI l j:=by
 unfold gI;by_cases h:j=l.length
 ·subst h;rw[AHd rfl];simp[List.getD]
 ·rw[AHe h];by_cases h2:j<l.length
  ·simp[List.getD,AHl,h2]
  ·simp[List.getD,AHl,h2,show ¬j-l.length=0 by omega]
structure Fo (ld:AHT) (rt dp:Nat->Nat):Prop where
 up:∀a,a<ld.length->∃b,b<ld.length/\gI ld a=(b:Int)/\rt b=rt a/\(b=a/\rt a=a\/dp b<dp a)
 Y0:∀a,a<ld.length->rt a<ld.length/\rt (rt a)=rt a/\gI ld (rt a)=(rt a:Int)
 out:∀a,ld.length<=a->rt a=a
theorem Fo.half{ld:AHT}{rt dp:Nat->Nat}(h:Fo ld rt dp){a b c:Nat}(ha:a<ld.length)(hb:b<ld.length)(rr:gI ld a=(b:Int))(I8:b≠a)(hbc:gI ld b=(c:Int)):Fo (ld.set a (c:Int)) rt dp/\rt c=rt a/\dp c<dp a/\c<ld.length:=by
 obtain⟨b',_,e1,r1,d1⟩:=h.up a ha;have:b'=b:=by omega
 subst this;obtain⟨c',hc,e2,r2,d2⟩:=h.up b' hb;have:c'=c:=by omega
 subst this;have hd:dp b'<dp a:=d1.resolve_left λx=>I8 x.1;have hdc:dp c'<dp a:=by rcases d2 with ⟨rfl,_⟩|d2<;>omega
 refine⟨⟨λx hx=>?_,λx hx=>?_,λx hx=>?_⟩,by rw[r2,r1],hdc,hc⟩
 ·rw[AG4]at hx⊢;rw[XA ha];by_cases e:x=a
  ·subst e;exact⟨c',hc,by rw[AHd rfl],by rw[r2,r1],.inr hdc⟩
  ·rw[AHe e];exact h.up x hx
 ·rw[AG4]at hx⊢;obtain⟨t1,t2,t3⟩:=h.Y0 x hx;refine⟨t1,t2,?_⟩;rw[XA ha,AHe λe=>?_]
  ·exact t3
  ·rw[e,rr]at t3;omega
 ·rw[AG4]at hx;exact h.out x hx
theorem Fo.root{ld:AHT}{rt dp:Nat->Nat}(h:Fo ld rt dp){a:Nat}(ha:a<ld.length)(e:gI ld a=(a:Int)):rt a=a:=by
 obtain⟨b,hb,e1,r1,d1⟩:=h.up a ha;have:b=a:=by omega
 subst this;rcases d1 with d1 |d1
 ·exact d1.2
 ·omega
theorem Fo.add{ld:AHT}{rt dp:Nat->Nat}(h:Fo ld rt dp):Fo (ld++[(ld.length:Int)]) rt dp:=by
 refine⟨λx hx=>?_,λx hx=>?_,λx hx=>?_⟩
 ·rw[AGZ,AHf]at hx⊢;rw[Rm];by_cases e:x=ld.length
  ·subst e;exact⟨ld.length,by omega,by rw[AHd rfl],rfl,.inl ⟨rfl,h.out _ (AG1 _)⟩⟩
  ·rw[AHe e];obtain⟨b,hb,e1,r1,d1⟩:=h.up x (by omega);exact⟨b,by omega,e1,r1,d1⟩
 ·rw[AGZ,AHf]at hx⊢;by_cases e:x=ld.length
  ·have:=h.out x (by omega);rw[this,this,Rm,AHd e,e];exact⟨by omega,rfl,rfl⟩
  ·obtain⟨t1,t2,t3⟩:=h.Y0 x (by omega);refine⟨by omega,t2,?_⟩;rw[Rm,AHe (by omega)];exact t3
 ·rw[AGZ,AHf]at hx;exact h.out x (by omega)
def Yx(rt:Nat->Nat)(x y a:Nat):Nat:=if rt a=y then x else rt a
theorem Fo.join{ld:AHT}{rt dp:Nat->Nat}(h:Fo ld rt dp){x y:Nat}(hx:x<ld.length)(hy:y<ld.length)(rx:rt x=x)(ry:rt y=y)(I8:x≠y):∃dp',Fo (ld.set y (x:Int)) (Yx rt x y) dp':=by
 have gx:gI ld x=(x:Int):=by have:=(h.Y0 x hx).2.2;rw[rx]at this;exact this
 refine⟨λa=>if rt a=y then dp a+dp x+1 else dp a,⟨λa ha=>?_,λa ha=>?_,λa ha=>?_⟩⟩
 ·rw[AG4]at ha⊢;rw[XA hy];by_cases e:a=y
  ·subst e;refine⟨x,hx,by rw[AHd rfl],?_,.inr ?_⟩
   ·simp only[Yx,rx,ry,if_true];split<;>rfl
   ·simp only[rx,ry,if_true,AHe I8];omega
  ·rw[AHe e];obtain⟨b,hb,e1,r1,d1⟩:=h.up a ha;refine⟨b,hb,e1,by simp only[Yx,r1],?_⟩;simp only[Yx,r1];rcases d1 with ⟨d1,d2⟩|d1
   ·exact .inl ⟨d1,by rw[d2,AHe e]⟩
   ·refine .inr ?_;split<;>omega
 ·rw[AG4]at ha⊢;obtain⟨t1,t2,t3⟩:=h.Y0 a ha;by_cases e:rt a=y
  ·have:Yx rt x y a=x:=by simp[Yx,e]
   rw[this];refine⟨hx,by simp[Yx,rx,I8],?_⟩;rw[XA hy,AHe I8];exact gx
  ·have:Yx rt x y a=rt a:=by simp[Yx,e]
   rw[this];refine⟨t1,by simp[Yx,t2,e],?_⟩;rw[XA hy,AHe e];exact t3
 ·rw[AG4]at ha;have:=h.out a ha;simp only[Yx,this];rw[AHe (by omega)]
theorem Fo.pS{ld:AHT}{rt dp:Nat->Nat}(h:Fo ld rt dp)(a:Nat):rt (rt a)=rt a:=by
 rcases AG6 a ld.length with ha |ha
 ·exact(h.Y0 a ha).2.1
 ·rw[h.out a ha,h.out a ha]
theorem uw{rt:Nat->Nat}(hr:∀a,rt (rt a)=rt a){x y:Nat}(rx:rt x=x)(ry:rt y=y)(a b:Nat):Yx rt x y a=Yx rt x y b↔rt a=rt b\/(rt a=x/\rt b=y)\/(rt a=y/\rt b=x):=by
 simp only[Yx];split<;>split<;>omega
def ji(rt:Nat->Nat)(ns n r:Nat)(v:Int):Prop:=(v=-1/\∀j,ns<=j->j<n->rt j≠r)\/∃j:Nat,v=(j:Int)/\ns<=j/\j<n/\rt j=r/\∀i,ns<=i->i<j->rt i≠r
theorem ji.uniq{rt:Nat->Nat}{ns n r:Nat}{v w:Int}(h:ji rt ns n r v)(k:ji rt ns n r w):v=w:=by
 rcases h with ⟨rfl,h⟩|⟨i,rfl,h1,h2,h3,h4⟩<;>rcases k with ⟨rfl,k⟩|⟨j,rfl,k1,k2,k3,k4⟩
 ·rfl
 ·exact(h j k1 k2 k3).elim
 ·exact(k i h1 h2 h3).elim
 ·have a1:¬i<j:=λe=>k4 i h1 e h3;have a2:¬j<i:=λe=>h4 j k1 e k3;omega
theorem ji.ge{rt:Nat->Nat}{ns n r:Nat}{v:Int}(h:ji rt ns n r v):-1<=v/\v<(n:Int):=by
 rcases h with ⟨rfl,h⟩|⟨i,rfl,h1,h2,h3,h4⟩<;>omega
theorem ji.join{rt:Nat->Nat}{ns n x y:Nat}{v w:Int}(I8:x≠y)(h:ji rt ns n x v)(k:ji rt ns n y w):ji (Yx rt x y) ns n x (if 0<=v/\0<=w then min v w else max v w):=by
 rcases h with ⟨rfl,h⟩|⟨i,rfl,h1,h2,h3,h4⟩<;>rcases k with ⟨rfl,k⟩|⟨j,rfl,k1,k2,k3,k4⟩
 ·rw[AHe (by omega)];refine .inl ⟨rfl,λq q1 q2=>?_⟩;have:=h q q1 q2;have:=k q q1 q2;simp only[Yx];split<;>omega
 ·rw[AHe (by omega)];refine .inr ⟨j,by omega,k1,k2,by simp[Yx,k3],λq q1 q2=>?_⟩;have:=h q q1 (by omega);have:=k4 q q1 q2;simp only[Yx];split<;>omega
 ·rw[AHe (by omega)];refine .inr ⟨i,by omega,h1,h2,by simp only[Yx,h3];split<;>rfl,λq q1 q2=>?_⟩;have:=k q q1 (by omega);have:=h4 q q1 q2;simp only[Yx];split<;>omega
 ·rw[AHd (by omega)];by_cases vQ:i<=j
  ·refine .inr ⟨i,by omega,h1,h2,by simp only[Yx,h3];split<;>rfl,λq q1 q2=>?_⟩;have:=k4 q q1 (by omega);have:=h4 q q1 q2;simp only[Yx];split<;>omega
  ·refine .inr ⟨j,by omega,k1,k2,by simp[Yx,k3],λq q1 q2=>?_⟩;have:=k4 q q1 q2;have:=h4 q q1 (by omega);simp only[Yx];split<;>omega
theorem ji.other{rt:Nat->Nat}{ns n x y r:Nat}{v:Int}(hx:r≠x)(hy:r≠y)(h:ji rt ns n r v):ji (Yx rt x y) ns n r v:=by
 have e:∀q,Yx rt x y q=r↔rt q=r:=λq=>by simp only[Yx];split<;>omega
 rcases h with ⟨rfl,h⟩|⟨i,rfl,h1,h2,h3,h4⟩
 ·exact .inl ⟨rfl,λq q1 q2=>by rw[Ne,e];exact h q q1 q2⟩
 ·exact .inr ⟨i,rfl,h1,h2,(e i).2 h3,λq q1 q2=>by rw[Ne,e];exact h4 q q1 q2⟩
theorem ji.add{rt:Nat->Nat}{ns n r:Nat}{v:Int}(hn:rt n=n)(hr:r<n)(h:ji rt ns n r v):ji rt ns (n+1) r v:=by
 rcases h with ⟨rfl,h⟩|⟨i,rfl,h1,h2,h3,h4⟩
 ·refine .inl ⟨rfl,λq q1 q2=>?_⟩;by_cases e:q=n
  ·rw[e,hn];omega
  ·exact h q q1 (by omega)
 ·exact .inr ⟨i,rfl,h1,by omega,h3,h4⟩
inductive Cn (ls:AHX):Int->Int->Prop
 |refl (a:Int):Cn ls a a
 |fwd {a:Int} {l:AHH}:l∈ls->Cn ls a l.1->Cn ls a l.2.1
 |bwd {a:Int} {l:AHH}:l∈ls->Cn ls a l.2.1->Cn ls a l.1
theorem Cn.trans{ls:AHX}{a b c:Int}(h:Cn ls a b)(k:Cn ls b c):Cn ls a c:=by
 induction k with
 |refl=>exact h
 |fwd m _ ih=>exact .fwd m ih
 |bwd m _ ih=>exact .bwd m ih
theorem Cn.symm{ls:AHX}{a b:Int}(h:Cn ls a b):Cn ls b a:=by
 induction h with
 |refl=>exact .refl _
 |fwd m _ ih=>exact(Cn.bwd m (.refl _)).trans ih
 |bwd m _ ih=>exact(Cn.fwd m (.refl _)).trans ih
theorem Cn.mono{ls ms:AHX}(hm:∀l∈ls,l∈ms){a b:Int}(h:Cn ls a b):Cn ms a b:=by
 induction h with
 |refl=>exact .refl _
 |fwd m _ ih=>exact .fwd (hm _ m) ih
 |bwd m _ ih=>exact .bwd (hm _ m) ih
theorem j6{ld:AHT}{rt dp:Nat->Nat}(h:Fo ld rt dp){j:Nat}(hj:j<ld.length)(a:Int)(fx:AHT)(vm:List (Int×AHM))(ls:AHX) :
    Ax (C7 a (j:Int) ld fx vm ls) λr=>∃dE,r=(((rt j:Nat):Int),dE,fx,vm,ls)/\dE.length=ld.length/\Fo dE rt dp:=by
 unfold C7 MW;refine Ax.bind (P:=λq:Int×AHT=>∃dE,q=(((rt j:Nat):Int),dE)/\dE.length=ld.length/\Fo dE rt dp) ?_ λq hq=>?_
 ·refine B8 (λm (s:Int×AHT)=>∃k:Nat,s.1=(k:Int)/\k<s.2.length/\s.2.length=ld.length/\Fo s.2 rt dp/\rt k=rt j/\m=dp k) (λm s hI=>?_) (dp j) ((j:Int),ld) ⟨j,rfl,hj,rfl,h,rfl,rfl⟩;obtain⟨k,e,hk,hl,hf,hr,rfl⟩:=hI;obtain⟨g,l⟩:=s;simp only at e hk hl hf;subst e;unfold GZ Kw;simp only[AGW];obtain⟨b,hb,e1,r1,d1⟩:=hf.up k hk;obtain⟨c,hc,e2,r2,d2⟩:=hf.up b hb;have g1:l.getD k AIa.zero=(b:Int):=e1;have g2:l.getD b AIa.zero=(c:Int):=e2;rw[AHd (Bl hk),g1];by_cases hbk:b=k
  ·subst hbk;rw[bne_self_eq_false,AHa];exact Ax.mk ⟨l,by rw[<-hr,hf.root hk e1],hl,hf⟩
  ·have I8:(((b:Nat):Int) !=((k:Nat):Int))=true:=by rw[bne_iff_ne];omega
   obtain⟨f1,f2,f3,f4⟩:=hf.half hk hb e1 hbk e2;have g3:(l.set k (c:Int)).getD k AIa.zero=(c:Int):=by have:=XA (j:=k) (x:=(c:Int)) hk;rw[AHd rfl]at this;exact this
   simp only[AGW,g2,g3,I8,AHb,AG4,AHd (Bl hk),AHd (Bl hb)];exact Ax.mk ⟨dp c,f3,c,rfl,by rw[AG4];exact f4,by rw[AG4];exact hl,f1,by rw[f2,hr],rfl⟩
 ·obtain⟨dE,rfl,h1,h2⟩:=hq;exact Ax.mk ⟨dE,rfl,h1,h2⟩
theorem cP{rt:Nat->Nat}{ns:Nat}{vs:AH2}{BK:AHT}(hv:vs.length=BK.length)(hl:∀i j,i<BK.length->j<BK.length->(gI BK i=gI BK j↔rt i=rt j))(hw:∀i,i<BK.length->((vs.getD i Ah.zero).1>0↔ns<=i))(hn:BK.length<=4194304){b:Nat}(hb:b<BK.length)(a:Int)(ls:AHX) :
    Ax (Db a (b:Int) vs ls BK) λr=>∃v,r=(v,vs,ls,BK)/\ji rt ns BK.length (rt b) v:=by
 unfold Db M0;refine Ax.bind (P:=λq:Int⊕Unit=>(∃v,q=.inl v/\ji rt ns BK.length (rt b) v)\/(q=.inr ()/\ji rt ns BK.length (rt b) (-1))) ?_ λq hq=>?_
 ·refine B8 (λm (s:Int)=>∃k:Nat,s=(k:Int)/\k<=BK.length/\m=BK.length-k/\∀i,ns<=i->i<k->rt i≠rt b) (λm s hI=>?_) BK.length 0 ⟨0,rfl,Nat.zero_le _,rfl,λi _ h=>absurd h (by omega)⟩;obtain⟨k,rfl,hk,rfl,Vx⟩:=hI;unfold G0 Kx Iu;rcases AG6 k BK.length with Bj |YW
  ·rw[DN Bj,AHb];simp only[AGW];rw[AHd (Bl Bj),AHd (Bl hb)];have hE:=hl k b Bj hb;have AgL:(∀i,ns<=i->i<k+1->rt i≠rt b)->∃m,m<BK.length-k/\∃k':Nat,wI ((k:Int)+1)=(k':Int)/\k'<=BK.length/\m=BK.length-k'/\∀i,ns<=i->i<k'->rt i≠rt b:=λhn' =>
    ⟨BK.length-(k+1),by omega,k+1,A2 (by omega) (by omega),by omega,rfl,hn'⟩
   by_cases e:gI BK k=gI BK b
   ·have e':(BK.getD k AIa.zero==BK.getD b AIa.zero)=true:=by rw[beq_iff_eq];exact e
    rw[e',AHb,AHd (show(0:Int)<=(k:Int)/\(k:Int)<(vs.length:Int) by omega),AGV];by_cases hp:ns<=k
    ·rw[AG0 ((hw k Bj).2 hp),AHb];exact Ax.mk (.inl ⟨k,rfl,.inr ⟨k,rfl,hp,Bj,hE.1 e,λi h1 h2=>Vx i h1 h2⟩⟩)
    ·rw[AGY λx=>hp ((hw k Bj).1 x),AHa];exact Ax.mk (AgL λi h1 h2=>by
      by_cases h3:i=k
      ·omega
      ·exact Vx i h1 (by omega))
   ·have e':(BK.getD k AIa.zero==BK.getD b AIa.zero)=false:=by rw[beq_eq_false_iff_ne];exact e
    rw[e',AHa,AGV,AHa];exact Ax.mk (AgL λi h1 h2=>by
     by_cases h3:i=k
     ·subst h3;exact λx=>e (hE.2 x)
     ·exact Vx i h1 (by omega))
  ·have:k=BK.length:=by omega
   subst this;rw[EB,AHa];exact Ax.mk (.inr ⟨rfl,.inl ⟨rfl,λj h1 h2=>Vx j h1 h2⟩⟩)
 ·rcases hq with ⟨v,rfl,hv⟩|⟨rfl,hv⟩
  ·exact Ax.mk ⟨v,rfl,hv⟩
  ·exact Ax.mk ⟨-1,rfl,hv⟩
theorem Ab9{BK:AHT}{i j:Nat}(hi:i<BK.length)(hj:j<BK.length)(hn:BK.length<=4194304) :
    JS (i:Int) (j:Int) BK=some (BK.map λx=>if x=max (gI BK i) (gI BK j)then min (gI BK i) (gI BK j)else x):=by
 unfold JS;simp only[AGW];rw[AHd (Bl hi),AHd (Bl hj),AHd (Bl hi),AHd (Bl hj)];generalize hx:(if BK.getD j AIa.zero<BK.getD i AIa.zero then BK.getD j AIa.zero else BK.getD i AIa.zero)=x;generalize hy:(if BK.getD j AIa.zero>BK.getD i AIa.zero then BK.getD j AIa.zero else BK.getD i AIa.zero)=y;have ia:x=min (gI BK i) (gI BK j):=by rw[<-hx];unfold gI;split<;>omega
 have aL:y=max (gI BK i) (gI BK j):=by rw[<-hy];unfold gI;split<;>omega
 rw[<-ia,<-aL];unfold RJ;have:=AQ (f:=Fs x y) (λk=>((k:Int),(BK.take k).map (λz=>if z=y then x else z)++BK.drop k)) (t:=BK.map λz=>if z=y then x else z) BK.length (λk hk=>?_) ?_
 ·simp only[List.take_zero,List.map_nil,List.nil_append,List.drop_zero]at this;exact(congrArg (λo=>Option.bind o λc=>some c) this).trans rfl
 ·unfold Fs Lc N7;have hlen:((BK.take k).map (λz=>if z=y then x else z)++BK.drop k).length=BK.length:=by simp;omega
  have hg:((BK.take k).map (λz=>if z=y then x else z)++BK.drop k).getD k AIa.zero=BK.getD k AIa.zero:=by
   have:((BK.take k).map (λz=>if z=y then x else z)).length=k:=by simp;omega
   rw[List.getD_eq_getElem?_getD,AHh (by omega),this,Nat.sub_self,List.getElem?_drop,Nat.add_zero,List.getD_eq_getElem?_getD]
  have hs:∀v,((BK.take k).map (λz=>if z=y then x else z)++BK.drop k).set k v=(BK.take k).map (λz=>if z=y then x else z)++v::BK.drop (k+1):=λv=>by
   have h1:((BK.take k).map (λz=>if z=y then x else z)).length=k:=by simp;omega
   rw[List.drop_eq_getElem_cons hk,List.set_append_right _ _ (by omega),h1,Nat.sub_self,List.set_cons_zero]
  have ht:∀v,v=(if BK.getD k AIa.zero=y then x else BK.getD k AIa.zero)->(BK.take k).map (λz=>if z=y then x else z)++v::BK.drop (k+1)=(BK.take (k+1)).map (λz=>if z=y then x else z)++BK.drop (k+1):=λv hv=>by
   have e:BK.getD k AIa.zero=BK[k]:=by simp[List.getD,hk]
   rw[List.take_succ_eq_append_getElem hk,List.map_append,hv,e];simp
  simp only[AGW,hlen];rw[DN hk,AHb,AHd (Bl hk),hg];by_cases e:BK.getD k AIa.zero=y
  ·have e':(BK.getD k AIa.zero==y)=true:=by rw[beq_iff_eq];exact e
   rw[e',AHb,AHd (Bl hk),AGV,hs,ht x (by rw[AHd e])];rw[A2 (n:=k+1) (by omega) (by omega)]
  ·have e':(BK.getD k AIa.zero==y)=false:=by rw[beq_eq_false_iff_ne];exact e
   have V0:(BK.take k).map (λz=>if z=y then x else z)++BK.drop k=(BK.take (k+1)).map (λz=>if z=y then x else z)++BK.drop (k+1):=by
    rw[<-ht (BK.getD k AIa.zero) (by rw[AHe e]),List.drop_eq_getElem_cons hk];simp[List.getD,hk]
   rw[e',AHa,AGV,V0,A2 (n:=k+1) (by omega) (by omega)]
 ·unfold Fs Lc;simp only[List.take_length,List.drop_length,AHA,AG7];rw[EB,AHa]
theorem rM(x y:Int):Ba AIa x y=true↔x=y:=by simp[Ba]
theorem il(x:Int):Ba AIa x x=true:=(rM x x).2 rfl
theorem Qs{vt:Ty}(k k':Int)(v:vt.V)(es:List (Int×vt.V)):Bh AIa vt (BS AIa vt es k v) k'=if k'=k then v else Bh AIa vt es k':=by
 have h:=Zz (kt:=.int .i64) (vt:=vt) rM k k' v es;refine h.trans ?_;by_cases e:k'=k
 ·rw[AHd e,(rM _ _).2 e];rfl
 ·rw[AHe e,show Ba AIa k' k=false from Bool.eq_false_iff.2 λx=>e ((rM _ _).1 x)];rfl
theorem Um{vt:Ty}(k k':Int)(v:vt.V)(es:List (Int×vt.V)):Ry AIa vt (BS AIa vt es k v) k'=(decide (k'=k)||Ry AIa vt es k'):=by
 have h:=UJ (kt:=.int .i64) (vt:=vt) rM k k' v es;unfold Ry;rw[h];by_cases e:k'=k
 ·rw[AG0 e,(rM _ _).2 e];rfl
 ·rw[AGY e,show Ba AIa k' k=false from Bool.eq_false_iff.2 λx=>e ((rM _ _).1 x)];rfl
abbrev LM:Type:=List (Int×AHX)
abbrev iB(c:LM)(x:Int):AHX:=Bh AIa AIj c x
def qQ(c:LM)(k:Int)(y:AHH):LM:=BS AIa AIj c k (iB c k++[y])
theorem OY{c:LM}{k x:Int}{y e:AHH}:e∈iB (qQ c k y) x↔e∈iB c x\/(x=k/\e=y):=by
 unfold iB qQ;rw[Qs (vt:=.sl Ab)];by_cases h:x=k
 ·subst h;rw[AHd rfl,List.mem_append,AHm];simp
 ·rw[AHe h];simp[h]
theorem bW{c:LM}{k x:Int}{y:AHH}:(iB (qQ c k y) x).length<=(iB c x).length+1:=by
 unfold iB qQ;rw[Qs (vt:=.sl Ab)];by_cases h:x=k
 ·subst h;rw[AHd rfl,AGZ,AHf];exact AG1 _
 ·rw[AHe h];exact AHw _
structure Bsd (v:AHX) (N k:Nat) (c:LM):Prop where
 AU:∀x e,e∈iB c x->e.1=x/\0<=e.2.1/\e.2.1<(N:Int)
 all:∀q,q<k->(∃e∈iB c (v.getD q Ab.zero).1,e.2.1=(v.getD q Ab.zero).2.1)/\∃e∈iB c (v.getD q Ab.zero).2.1,e.2.1=(v.getD q Ab.zero).1
 len:∀x,(iB c x).length<=2*k
theorem vj{v:AHX}{N:Nat}(hv:v.length<=4194304)(hb:∀l∈v,(0<=l.1/\l.1<(N:Int))/\0<=l.2.1/\l.2.1<(N:Int))(a g:Int):Ax (QN a g v (v.length:Int) 0 []) (Bsd v N v.length):=by
 unfold QN;refine B8 (λm (s:Int×LM)=>∃k:Nat,s.1=(k:Int)/\k<=v.length/\m=v.length-k/\Bsd v N k s.2) (λm s hI=>?_) v.length (0,[]) ⟨0,rfl,Nat.zero_le _,rfl,⟨λx e h=>(by cases h),λq h=>(by omega),λx=>AG1 _⟩⟩;obtain⟨k,e,hk,rfl,hB⟩:=hI;obtain⟨x,c⟩:=s;simp only at e hB;subst e;unfold Nz Rr;simp only[AGW];rcases AG6 k v.length with Bj |YW
 ·rw[DN Bj,AHb,AHd (Bl Bj)];generalize hl:v.getD k Ab.zero=l;have hm:l∈v:=by rw[<-hl];exact AG Bj
  obtain⟨hA,hB'⟩:=hb l hm;unfold QL QM;have l1:=hB.len l.1;have l2:=bW (c:=c) (k:=l.1) (x:=l.2.1) (y:=l);have l3:=hB.len l.2.1;rw[AHd (show((Bh AIa AIj c l.1).length+([l]:AHX).length)*24<=140737488355328 by rw[AHf];have:(Bh AIa AIj c l.1).length<=2*k:=l1;omega),il,AHb,AGV];rw[AHd (show((Bh AIa AIj (BS AIa AIj c l.1 (Bh AIa AIj c l.1++[l])) l.2.1).length+([(l.2.1,l.1,l.2.2.1,())]:AHX).length)*24<=140737488355328 by
   rw[AHf];have:(Bh AIa AIj (BS AIa AIj c l.1 (Bh AIa AIj c l.1++[l])) l.2.1).length<=(iB c l.2.1).length+1:=l2;omega),il,AHb,AGV]
  refine Ax.mk ⟨v.length-(k+1),by omega,k+1,A2 (by omega) (by omega),by omega,rfl,?_⟩;show Bsd v N (k+1) (qQ (qQ c l.1 l) l.2.1 (l.2.1,l.1,l.2.2.1,()));refine⟨λx e h=>?_,λq hq=>?_,λx=>?_⟩
  ·rcases OY.1 h with h |⟨rfl,rfl⟩
   ·rcases OY.1 h with h |⟨rfl,rfl⟩
    ·exact hB.AU x e h
    ·exact⟨rfl,hB'⟩
   ·exact⟨rfl,hA⟩
  ·by_cases e:q=k
   ·subst e;rw[hl];exact⟨⟨l,OY.2 (.inl (OY.2 (.inr ⟨rfl,rfl⟩))),rfl⟩,⟨_,OY.2 (.inr ⟨rfl,rfl⟩),rfl⟩⟩
   ·obtain⟨⟨e1,h1,h2⟩,e2,h3,h4⟩:=hB.all q (by omega);exact⟨⟨e1,OY.2 (.inl (OY.2 (.inl h1))),h2⟩,e2,OY.2 (.inl (OY.2 (.inl h3))),h4⟩
  ·have a1:=bW (c:=qQ c l.1 l) (k:=l.2.1) (x:=x) (y:=(l.2.1,l.1,l.2.2.1,()));have a2:=bW (c:=c) (k:=l.1) (x:=x) (y:=l);have a3:=hB.len x;omega
 ·have:k=v.length:=by omega
  subst this;rw[EB,AHa];exact Ax.mk hB
theorem iK:∀(N:Nat) (l:AHT),l.Nodup->(∀x∈l,0<=x/\x<(N:Int))->l.length<=N
 |0,l,_,h=>by
  cases l with
  |nil=>exact AG1 _
  |cons x l=>have:=h x AHq;omega
 |N+1,l,hn,h=>by
  have:=iK N (l.erase (N:Int)) (hn.erase _) λx hx=>by
   obtain⟨h1,h2⟩:=(hn.mem_erase_iff).1 hx;have:=h x h2;omega
  have h2:l.length<=(l.erase (N:Int)).length+1:=by rw[List.length_erase];split<;>omega
  omega
abbrev xw:Type:=List (Int×AHH)
abbrev hsF(t:xw)(x:Int):Bool:=Ry AIa Ab t x
abbrev mgF(t:xw)(x:Int):AHH:=Bh AIa Ab t x
structure Met (N:Nat) (a:Int) (t:xw) (ms:AHT):Prop where
 nd:ms.Nodup
 bd:∀x∈ms,0<=x/\x<(N:Int)
 fst:gI ms 0=a/\0<ms.length
 has:∀x,hsF t x=true↔x∈ms
 back:∀k,1<=k->k<ms.length->∃k',k'<k/\(mgF t (gI ms k)).1=gI ms k'
theorem Met.len{N:Nat}{a:Int}{t:xw}{ms:AHT}(h:Met N a t ms):ms.length<=N:=iK N ms h.nd h.bd
theorem Met.add{N:Nat}{a:Int}{t:xw}{ms:AHT}(h:Met N a t ms){e:AHH}(he:0<=e.2.1/\e.2.1<(N:Int))(Vx:hsF t e.2.1=false){p:Nat}(hp:p<ms.length)(h1:e.1=gI ms p):Met N a (BS AIa Ab t e.2.1 e) (ms++[e.2.1]):=by
 have hnm:e.2.1∉ms:=λx=>by rw[(h.has _).2 x]at Vx;cases Vx
 have hg:∀k,k<ms.length->gI (ms++[e.2.1]) k=gI ms k:=λk hk=>by rw[Rm,AHe (by omega)]
 refine⟨?_,λx hx=>?_,⟨?_,by simp⟩,λx=>?_,λk k1 k2=>?_⟩
 ·rw[List.nodup_append];exact⟨h.nd,by simp,λx hx y hy e'=>by rw[AHm]at hy;subst hy;subst e';exact hnm hx⟩
 ·rcases List.mem_append.1 hx with hx |hx
  ·exact h.bd x hx
  ·rw[AHm]at hx;rw[hx];exact he
 ·rw[hg 0 h.fst.2];exact h.fst.1
 ·unfold hsF;rw[Um (vt:=Ab),Bool.or_eq_true,decide_eq_true_iff,List.mem_append,AHm,<-h.has x];exact Or.comm
 ·rw[AGZ,AHf]at k2;unfold mgF;by_cases hk:k=ms.length
  ·subst hk;have e1:gI (ms++[e.2.1]) ms.length=e.2.1:=by rw[Rm,AHd rfl]
   exact⟨p,hp,by rw[e1,Qs (vt:=Ab),AHd rfl,hg p hp];exact h1⟩
  ·obtain⟨k',h2,h3⟩:=h.back k k1 (by omega);refine⟨k',h2,?_⟩;have I8:gI ms k≠e.2.1:=λx=>hnm (by rw[<-x];exact AG (by omega));rw[hg k (by omega),hg k' (by omega),Qs (vt:=Ab),AHe I8];exact h3
structure Ar0 (N:Nat) (a:Int) (c:LM) (p:Nat) (t:xw) (u ms:AHT):Prop where
 met:Met N a t ms
 le:p<=ms.length
 todo:u=ms.drop p
 done:∀q,q<p->∀e∈iB c (gI ms q),e.2.1∈ms
theorem AbR{N p:Nat}{a g:Int}{c:LM}{v:AHX}(hN:N<=4194304)(hB:Bsd v N v.length c)(hv:v.length<=4194304){t:xw}{ms:AHT}(hM:Met N a t ms)(hp:p<ms.length)(hd:∀q,q<p->∀e∈iB c (gI ms q),e.2.1∈ms) :
    Ax (QP a g c (iB c (gI ms p)) ((iB c (gI ms p)).length:Int) 0 t (ms.drop (p+1))) λr=>∃iH,Ar0 N a c (p+1) r.1 r.2 iH:=by
 generalize hj:iB c (gI ms p)=j;have VU:j.length<=2*v.length:=by rw[<-hj];exact hB.len _
 unfold QP;refine B8 (λm (s:Int×xw×AHT)=>∃(n:Nat) (iH:AHT),s.1=(n:Int)/\n<=j.length/\m=j.length-n/\Met N a s.2.1 iH/\p<iH.length/\gI iH p=gI ms p/\s.2.2=iH.drop (p+1)/\(∀q,q<p->∀e∈iB c (gI iH q),e.2.1∈iH)/\∀q,q<n->(j.getD q Ab.zero).2.1∈iH) (λm s hI=>?_) j.length (0,t,ms.drop (p+1)) ⟨0,ms,rfl,Nat.zero_le _,rfl,hM,hp,rfl,rfl,hd,λq h=>by omega⟩;obtain⟨n,iH,e1,hn,rfl,hM',vW,hgp,e2,hd',kj⟩:=hI;obtain⟨x,t',u'⟩:=s;simp only at e1 e2 hM';subst e1;subst e2;unfold NA Rs;simp only;have vU:=hM'.len;rcases AG6 n j.length with Bj |YW
 ·rw[DN Bj,AHb];unfold QO;simp only[AGW];rw[AHd (Bl Bj)];generalize he:j.getD n Ab.zero=e;have hm:e∈iB c (gI ms p):=by rw[hj,<-he];exact AG Bj
  obtain⟨b1,b2⟩:=hB.AU _ _ hm;have hw:wI ((n:Int)+1)=((n+1:Nat):Int):=A2 (by omega) (by omega);cases hh:Ry AIa Ab t' e.2.1 with
  |true =>
   simp only[Bool.not_true,AHa,AGV];refine Ax.mk ⟨j.length-(n+1),by omega,n+1,iH,hw,by omega,rfl,hM',vW,hgp,rfl,hd',λq hq=>?_⟩;by_cases h:q=n
   ·subst h;rw[he];exact(hM'.has _).1 hh
   ·exact kj q (by omega)
  |false =>
   simp only[Bool.not_false,AHb];rw[AG0 (show((iH.drop (p+1)).length+([e.2.1]:AHT).length)*8<=140737488355328 by rw[AHf,AHv];omega),AHb,AGV];have hg:∀k,k<iH.length->gI (iH++[e.2.1]) k=gI iH k:=λk hk=>by rw[Rm,AHe (by omega)]
   refine Ax.mk ⟨j.length-(n+1),by omega,n+1,iH++[e.2.1],hw,by omega,rfl,hM'.add b2 hh vW (by rw[b1,hgp]),by simp;omega,by rw[hg p vW,hgp],?_,λq hq e' he'=>?_,λq hq=>?_⟩
   ·show iH.drop (p+1)++[e.2.1]=_;rw[List.drop_append_of_le_length (by omega)]
   ·rw[hg q (by omega)]at he';exact AHt _ (hd' q hq e' he')
   ·by_cases h:q=n
    ·subst h;rw[he];simp
    ·exact AHt _ (kj q (by omega))
 ·have:n=j.length:=by omega
  subst this;rw[EB,AHa];refine Ax.mk ⟨iH,hM',by omega,rfl,λq hq e he=>?_⟩;by_cases h:q=p
  ·subst h;rw[hgp,hj]at he;obtain⟨i,hi,h2⟩:=List.mem_iff_getElem.1 he;have:=kj i hi;rwa [show j.getD i Ab.zero=e by rw[<-h2];simp[List.getD,hi]]at this
  ·exact hd' q (by omega) e he
theorem wS{N:Nat}{a g:Int}{c:LM}{v:AHX}(hN:N<=4194304)(hB:Bsd v N v.length c)(hv:v.length<=4194304)(ha:0<=a/\a<(N:Int)) :
    Ax (QQ a g c (BS AIa Ab ([]:xw) a (a,a,0,())) [a]) λt=>∃ms,Met N a t ms/\∀q,q<ms.length->∀e∈iB c (gI ms q),e.2.1∈ms:=by
 unfold QQ;have h0:Met N a (BS AIa Ab ([]:xw) a (a,a,0,())) [a]:=by
  refine⟨by simp,λx hx=>by rw[AHm]at hx;rw[hx];exact ha,⟨rfl,by simp⟩,λx=>?_,λk k1 k2=>by simp at k2;omega⟩;unfold hsF;rw[Um (vt:=Ab)];simp[Ry,Ni]
 refine B8 (λm (s:xw×AHT)=>∃p ms,Ar0 N a c p s.1 s.2 ms/\m=N-p) (λm s hI=>?_) N (BS AIa Ab ([]:xw) a (a,a,0,()),[a]) ⟨0,[a],⟨h0,by simp,rfl,λq h=>by omega⟩,rfl⟩;obtain⟨p,ms,hS,rfl⟩:=hI;obtain⟨t,u⟩:=s;have hl:=hS.met.len;have hu:u=ms.drop p:=hS.todo;subst hu;unfold NC Rt;simp only;rcases AG6 p ms.length with Bj |YW
 ·have hlen:(ms.drop p).length=ms.length-p:=AHv;rw[AG0 (show((ms.drop p).length:Int)>0 by omega),AHb,AG0 (show(1:Int)<=((ms.drop p).length:Int) by omega)];rw[show(decide ((0:Int)<=0)&&true)=true from rfl,show(decide ((0:Int)<=1)&&true)=true from rfl];simp only[AHb];have e0:(ms.drop p).getD 0 AIa.zero=gI ms p:=by simp[gI,List.getD]
  have e1:(ms.drop p).drop 1=ms.drop (p+1):=by rw[List.drop_drop]
  rw[e0,e1];refine(AbR (g:=g) hN hB hv hS.met Bj hS.done).bind λr hr=>?_;obtain⟨iH,hS'⟩:=hr;have:=hS'.le;have:=hS'.met.len;exact Ax.mk ⟨N-(p+1),by omega,p+1,iH,hS',rfl⟩
 ·have:p=ms.length:=by have:=hS.le;omega
  subst this;rw[AGY (by simp),AHa];exact Ax.mk ⟨ms,hS.met,hS.done⟩
theorem AmP{v:AHX}{N:Nat}(hN:N<=4194304)(hv:v.length<=4194304)(hb:∀l∈v,(0<=l.1/\l.1<(N:Int))/\0<=l.2.1/\l.2.1<(N:Int)){a g:Int}(ha:0<=a/\a<(N:Int))(I8:g≠a)(hc:Cn v a g):Ax (Qp v a g) λr=>r≠[]:=by
 unfold Qp;refine(vj hv hb a g).bind λc hB=>?_;refine(wS (g:=g) hN hB hv ha).bind λt ht=>?_;obtain⟨ms,hM,S8⟩:=ht;have vU:=hM.len;have km:∀{x},x∈ms->∃k,k<ms.length/\gI ms k=x:=λ{x} hx=>by
  obtain⟨k,hk,e⟩:=List.mem_iff_getElem.1 hx;exact⟨k,hk,by rw[<-e];simp[gI,List.getD,hk]⟩
 have Fx:∀{x},Cn v a x->x∈ms:=λ{x} h=>by
  induction h with
  |refl=>rw[<-hM.fst.1];exact AG hM.fst.2
  |fwd hl _ ih =>
   obtain⟨k,hk,e⟩:=km ih;obtain⟨q,hq,e2⟩:=List.mem_iff_getElem.1 hl;obtain⟨⟨x,x1,x2⟩,_⟩:=hB.all q hq;have e3:v.getD q Ab.zero=v[q]:=by simp[List.getD,hq]
   rw[e3,e2]at x1 x2;rw[<-x2];rw[<-e]at x1;exact S8 k hk x x1
  |bwd hl _ ih =>
   obtain⟨k,hk,e⟩:=km ih;obtain⟨q,hq,e2⟩:=List.mem_iff_getElem.1 hl;obtain⟨_,⟨x,x1,x2⟩⟩:=hB.all q hq;have e3:v.getD q Ab.zero=v[q]:=by simp[List.getD,hq]
   rw[e3,e2]at x1 x2;rw[<-x2];rw[<-e]at x1;exact S8 k hk x x1
 obtain⟨k0,hk0,e0⟩:=km (Fx hc);refine Ax.bind (P:=λe:AHT=>e≠[]/\e.length<=N) ?_ λe he=>?_
 ·unfold TN;refine B8 (λm (s:Int×AHT)=>∃k,k<ms.length/\gI ms k=s.1/\m=k/\s.2.length+k<=k0/\(s.1=g/\s.2=[]\/s.2≠[])) (λm s hI=>?_) k0 (g,[]) ⟨k0,hk0,e0,rfl,by simp,.inl ⟨rfl,rfl⟩⟩;obtain⟨k,hk,e1,hm,hlen,BH⟩:=hI;rw[hm];clear hm;obtain⟨x,e⟩:=s;simp only at e1 hlen BH;unfold ND Ru;simp only;by_cases hxa:x=a
  ·subst hxa;rw[bne_self_eq_false,AHa];rcases BH with ⟨h,_⟩|h
   ·exact(I8 h.symm).elim
   ·exact Ax.mk ⟨h,by omega⟩
  ·rw[show(x !=a)=true by rw[bne_iff_ne];exact hxa,AHb,AHd (by rw[AHf];omega)];have k1:1<=k:=by
    rcases AHj k with h |h
    ·subst h;rw[hM.fst.1]at e1;exact(hxa e1.symm).elim
    ·exact h
   obtain⟨k',h1,h2⟩:=hM.back k k1 hk;rw[e1]at h2;exact Ax.mk ⟨k',h1,k',by omega,h2.symm,rfl,by rw[AGZ,AHf];omega,.inr (by simp)⟩
 ·rw[AHd (by omega)];refine Ax.mk λx=>?_;obtain⟨y,hy⟩:=List.exists_mem_of_ne_nil _ he.1;have:=((aA e).2 y).2 hy;rw[x]at this;cases this
abbrev lk(ls:AHX)(k:Nat):AHH:=ls.getD k Ab.zero
abbrev us(q:AHU)(k:Nat):Bool:=q.getD k (Ty.zero .bool)
theorem lH{q:AHU}{k j:Nat}(hk:k<q.length):us (q.set k true) j=if j=k then true else us q j:=by
 unfold us;by_cases h:j=k
 ·subst h;rw[AHd rfl];simp[List.getD,hk]
 ·rw[AHe h];simp[List.getD,AHk,Ne.symm h]
def Tch(ls:AHX)(k:Nat)(x:Int):Prop:=(lk ls k).1=x\/(lk ls k).2.1=x
def Cl(ls:AHX)(q:AHU)(x:Int):Prop:=∀k,k<ls.length->Tch ls k x->us q k=true
def nu(n:Nat)(q:AHU):Nat:=(List.range n).countP λk=>!us q k
def Mo(q q':AHU):Prop:=∀k,us q k=true->us q' k=true
theorem Mo.nu{n:Nat}{q q':AHU}(h:Mo q q'):nu n q'<=nu n q:=List.countP_mono_left λk _ hk=>by
 cases hq:us q k with
 |false=>simp[hq]
 |true=>rw[h k hq]at hk;cases hk
theorem Cl.mono{ls:AHX}{q q':AHU}(h:Mo q q'){x:Int}(hc:Cl ls q x):Cl ls q' x:=λk h1 h2=>h k (hc k h1 h2)
theorem Acd{q:AHU}{k:Nat}(hk:k<q.length):Mo q (q.set k true):=λj hj=>by rw[lH hk];split<;>first |rfl |exact hj
theorem Amz{n:Nat}{q:AHU}{k:Nat}(hk:k<q.length)(hn:k<n)(hu:us q k=false):nu n (q.set k true)+1<=nu n q :=
 Zg (λj hj=>by
  cases hq:us q j with
  |false=>rfl
  |true=>rw[Acd hk j hq]at hj;cases hj) (List.mem_range.2 hn) (by rw[hu];rfl) (by rw[lH hk,AHd rfl];rfl)
def qL(ls:AHX)(q q':AHU)(P:Int->Prop):Prop:=∀k,k<ls.length->us q' k=true->us q k=false->∀x,Tch ls k x->P x
structure Azp (ls:AHX) (q:AHU) (b c:Int) (r:Bool×AHU×AHT):Prop where
 len:r.2.1.length=q.length
 mo:Mo q r.2.1
 yes:r.1=true->(b≠c->r.2.2≠[])/\r.2.2.length<=nu ls.length q
 no:r.1=false->b≠c/\Cl ls r.2.1 b/\qL ls q r.2.1 λx=>x≠c/\Cl ls r.2.1 x
theorem uZ{ls:AHX}(hl:ls.length<=4194304)(hb:∀k,k<ls.length->((0:Int)<=(lk ls k).1/\(4194304:Int)>(lk ls k).1)/\(0:Int)<=(lk ls k).2.1/\(4194304:Int)>(lk ls k).2.1)(c:Int) :
    ∀(n:Nat) (b:Int) (q:AHU),q.length=ls.length->(0<=b/\b<4194304)->nu ls.length q<n->Ax (HQ n ls b c q) (Azp ls q b c)
 |0,b,q,_,_,h=>by omega
 |n+1,b,q,hq,hbb,hn=>by
  show Ax (PV (HQ n) ls b c q) _;unfold PV;by_cases hbc:b=c
  ·subst hbc;rw[beq_self_eq_true,AHb];exact Ax.mk ⟨rfl,λ_ h=>h,λ_=>⟨λh=>(h rfl).elim,Nat.zero_le _⟩,λh=>by cases h⟩
  rw[show(b==c)=false by rw[beq_eq_false_iff_ne];exact hbc,AHa];refine Ax.bind (P:=λt:(AHU×AHT)⊕AHU=>(∃q' w,t=.inl (q',w)/\q'.length=q.length/\Mo q q'/\w≠[]/\w.length<=nu ls.length q)\/∃q',t=.inr q'/\q'.length=q.length/\Mo q q'/\Cl ls q' b/\qL ls q q' λx=>x≠c/\Cl ls q' x) ?_ λt ht=>?_
  ·unfold TT;refine B8 (λm (s:Int×AHU)=>∃k:Nat,s.1=(k:Int)/\k<=ls.length/\m=ls.length-k/\s.2.length=q.length/\Mo q s.2/\(∀j,j<k->Tch ls j b->us s.2 j=true)/\qL ls q s.2 λx=>x=b\/x≠c/\Cl ls s.2 x) (λm s hI=>?_) ls.length (0,q) ⟨0,rfl,Nat.zero_le _,rfl,rfl,λ_ h=>h,λj h=>by omega,λk _ h1 h2=>by rw[h1]at h2;cases h2⟩;obtain⟨k,e,hk,rfl,hlen,hmo,Z0,uq⟩:=hI;obtain⟨g,u⟩:=s;simp only at e hlen hmo Z0 uq;subst e;unfold N8 RL;simp only;rcases AG6 k ls.length with Bj |YW
   ·rw[DN Bj,AHb];have hku:k<u.length:=by omega
    have hw:wI ((k:Int)+1)=((k+1:Nat):Int):=A2 (by omega) (by omega);obtain⟨⟨a1,a2⟩,a3,a4⟩:=hb k Bj;have skip:(us u k=true\/¬Tch ls k b)->∃m,m<ls.length-k/\∃k':Nat,((k+1:Nat):Int)=(k':Int)/\k'<=ls.length/\m=ls.length-k'/\u.length=q.length/\Mo q u/\(∀j,j<k'->Tch ls j b->us u j=true)/\qL ls q u λx=>x=b\/x≠c/\Cl ls u x:=λh =>
     ⟨ls.length-(k+1),by omega,k+1,rfl,by omega,rfl,hlen,hmo,λj hj ht=>by
      by_cases e:j=k
      ·subst e;rcases h with h |h
       ·exact h
       ·exact(h ht).elim
      ·exact Z0 j (by omega) ht,uq⟩
    unfold QX QW;simp only[AGW];rw[AHd (Bl hku)];cases hu:us u k with
    |true =>
     rw[show u.getD k (Ty.zero .bool)=true from hu,AHb,AGV,Sum.elim_inl,AGV,Sum.elim_inl,hw];exact Ax.mk (skip (.inl hu))
    |false =>
     rw[show u.getD k (Ty.zero .bool)=false from hu,AHa];simp only[AHd (Bl Bj)];have take:∀nx:Int,wI (wI ((lk ls k).1+(lk ls k).2.1)-b)=nx->(0<=nx/\nx<4194304)->(∀x,Tch ls k x->x=b\/x=nx)->Tch ls k b ->
         Ax ((if(0:Int)<=(k:Int)/\(k:Int)<(u.length:Int)then
          (HQ n ls (wI (wI ((lk ls k).1+(lk ls k).2.1)-b)) c (u.set k true)).bind λo =>
           bif o.1 then
           if(([(lk ls k).2.2.1]:AHT).length+o.2.2.length)*8<=140737488355328 then
           some (Sum.inr (o.2.1,(([(lk ls k).2.2.1]:AHT)++o.2.2)))
           else none
           else some (Sum.inl o.2.1)
          else none:Option (AHU⊕(AHU×AHT)))) λt=>(∃q' w,t=.inr (q',w)/\q'.length=q.length/\Mo q q'/\w≠[]/\w.length<=nu ls.length q)\/∃q',t=.inl q'/\q'.length=q.length/\Mo q q'/\(∀j,j<k+1->Tch ls j b->us q' j=true)/\qL ls q q' λx=>x=b\/x≠c/\Cl ls q' x:=λnx hnx hnb Abi htb=>by
      rw[AHd (Bl hku),hnx];have h1:=Amz (n:=ls.length) hku Bj hu;have h2:=hmo.nu (n:=ls.length);have S9:=Acd hku;refine(uZ hl hb c n nx (u.set k true) (by rw[AG4];omega) hnb (by omega)).bind λo ho=>?_;obtain⟨b1,⟨q2,w⟩⟩:=o;obtain⟨o1,o2,o3,o4⟩:=ho;simp only at o1 o2 o3 o4⊢;rw[AG4]at o1;have Q4:Mo q q2:=λj hj=>o2 j (S9 j (hmo j hj));cases b1 with
      |true =>
       have h3:=(o3 rfl).2;have h4:nu ls.length q<=ls.length:=by unfold nu;exact AHp List.countP_le_length (by rw[AHC];exact AG1 _)
       rw[AHb,AHd (by rw[AHf];omega)];exact Ax.mk (.inl ⟨q2,_,rfl,by omega,Q4,by simp,by rw[AGZ,AHf];omega⟩)
      |false =>
       rw[AHa];obtain⟨p1,p2,p3⟩:=o4 rfl;refine Ax.mk (.inr ⟨q2,rfl,by omega,Q4,λj hj ht=>?_,λj j1 j2 j3 x hx=>?_⟩)
       ·by_cases e:j=k
        ·subst e;exact o2 j (by rw[lH hku,AHd rfl])
        ·exact o2 j (S9 j (Z0 j (by omega) ht))
       ·by_cases e:j=k
        ·subst e;rcases Abi x hx with h |h
         ·exact .inl h
         ·subst h;exact .inr ⟨p1,p2⟩
        ·cases hj:us u j with
         |true =>
          rcases uq j j1 hj j3 x hx with h |⟨h,h'⟩
          ·exact .inl h
          ·exact .inr ⟨h,h'.mono λi hi=>o2 i (S9 i hi)⟩
         |false=>exact .inr (p3 j j1 j2 (by rw[lH hku,AHe e];exact hj) x hx)
     have TH:∀{X:Option (AHU⊕(AHU×AHT))} {R:((Int×AHU)⊕((AHU×AHT)⊕AHU))->Prop},Ax X (λt=>(∃q' w,t=.inr (q',w)/\q'.length=q.length/\Mo q q'/\w≠[]/\w.length<=nu ls.length q)\/∃q',t=.inl q'/\q'.length=q.length/\Mo q q'/\(∀j,j<k+1->Tch ls j b->us q' j=true)/\qL ls q q' λx=>x=b\/x≠c/\Cl ls q' x) ->
         (∀s':Int×AHU,(∃m,m<ls.length-k/\∃k':Nat,s'.1=(k':Int)/\k'<=ls.length/\m=ls.length-k'/\s'.2.length=q.length/\Mo q s'.2/\(∀j,j<k'->Tch ls j b->us s'.2 j=true)/\qL ls q s'.2 λx=>x=b\/x≠c/\Cl ls s'.2 x)->R (.inl s')) ->
         (∀q' w,q'.length=q.length->Mo q q'->w≠[]->w.length<=nu ls.length q->R (.inr (.inl (q',w)))) ->
         Ax (X.bind (Sum.elim (λj=>some (Sum.inl (wI ((k:Int)+1),j))) λk=>some (Sum.inr (Sum.inl (k.1,k.2))):AHU⊕(AHU×AHT)->Option ((Int×AHU)⊕((AHU×AHT)⊕AHU)))) R:=λ{X R} hX hR1 hR2=>hX.bind λt ht=>by
      rcases ht with ⟨q',w,rfl,h1,h2,h3,h4⟩|⟨q',rfl,h1,h2,h3,h4⟩
      ·rw[Sum.elim_inr];exact Ax.mk (hR2 q' w h1 h2 h3 h4)
      ·rw[Sum.elim_inl,hw];exact Ax.mk (hR1 _ ⟨ls.length-(k+1),by omega,k+1,rfl,by omega,rfl,h1,h2,h3,h4⟩)
     by_cases hA:(lk ls k).1=b
     ·have e1:((lk ls k).1 !=b)=false:=by rw[hA,bne_self_eq_false]
      rw[show((ls.getD k Ab.zero).1 !=b)=false from e1,AHa,AGV,Sum.elim_inr];refine TH (take (lk ls k).2.1 ?_ ⟨a3,a4⟩ (λx hx=>?_) (.inl hA)) (λ_ h=>h) λq' w h1 h2 h3 h4=>.inl ⟨q',w,rfl,h1,h2,h3,h4⟩
      ·have c6:b=(lk ls k).1:=hA.symm;rw[BM (x:=(lk ls k).1+(lk ls k).2.1) (by omega) (by omega),BM (by omega) (by omega)];omega
      ·rcases hx with h |h
       ·exact .inl (by rw[<-h,hA])
       ·exact .inr h.symm
     ·have e1:((lk ls k).1 !=b)=true:=by rw[bne_iff_ne];exact hA
      rw[show((ls.getD k Ab.zero).1 !=b)=true from e1,AHb];by_cases hB:(lk ls k).2.1=b
      ·have e2:((lk ls k).2.1 !=b)=false:=by rw[hB,bne_self_eq_false]
       rw[show((ls.getD k Ab.zero).2.1 !=b)=false from e2,AHa,AGV,Sum.elim_inr];refine TH (take (lk ls k).1 ?_ ⟨a1,a2⟩ (λx hx=>?_) (.inr hB)) (λ_ h=>h) λq' w h1 h2 h3 h4=>.inl ⟨q',w,rfl,h1,h2,h3,h4⟩
       ·have hB':b=(lk ls k).2.1:=hB.symm;rw[BM (x:=(lk ls k).1+(lk ls k).2.1) (by omega) (by omega),BM (by omega) (by omega)];omega
       ·rcases hx with h |h
        ·exact .inr h.symm
        ·exact .inl (by rw[<-h,hB])
      ·have e2:((lk ls k).2.1 !=b)=true:=by rw[bne_iff_ne];exact hB
       rw[show((ls.getD k Ab.zero).2.1 !=b)=true from e2,AHb,AGV,Sum.elim_inl,AGV,Sum.elim_inl,hw];exact Ax.mk (skip (.inr λh=>by rcases h with h |h;exact hA h;exact hB h))
   ·have:k=ls.length:=by omega
    subst this;rw[EB,AHa];have S8:Cl ls u b:=λj h1 h2=>Z0 j h1 h2;exact Ax.mk (.inr ⟨u,rfl,hlen,hmo,S8,λj j1 j2 j3 x hx=>by
     rcases uq j j1 j2 j3 x hx with h |h
     ·subst h;exact⟨hbc,S8⟩
     ·exact h⟩)
  ·rcases ht with ⟨q',w,rfl,h1,h2,h3,h4⟩|⟨q',rfl,h1,h2,h3,h4⟩
   ·exact Ax.mk ⟨h1,h2,λ_=>⟨λ_=>h3,h4⟩,λh=>by cases h⟩
   ·exact Ax.mk ⟨h1,h2,λh=>(by cases h),λ_=>⟨hbc,h3,h4⟩⟩
theorem AbV{ls:AHX}(hl:ls.length<=900000)(hb:∀l∈ls,((0:Int)<=l.1/\(4194304:Int)>l.1)/\(0:Int)<=l.2.1/\(4194304:Int)>l.2.1){b c:Int}(hbb:0<=b/\b<4194304)(I8:b≠c)(hc:Cn ls b c) :
    Ax (XT ls b c (List.replicate ls.length false)) λr=>r.2.2≠[]/\r.2.2.length<=ls.length:=by
 have hz:∀k,us (List.replicate ls.length false) k=false:=λk=>by
  unfold us;by_cases h:k<ls.length
  ·simp[List.getD,h]
  ·simp[List.getD,h];rfl
 have hn:nu ls.length (List.replicate ls.length false)<=ls.length:=by unfold nu;exact AHp List.countP_le_length (by rw[AHC];exact AG1 _)
 refine(uZ (by omega) (λk hk=>hb _ (AG hk)) c 1000000 b (List.replicate ls.length false) (AHs) hbb (by omega)).mono λr hr=>?_;obtain⟨r1,r2,r3⟩:=r;cases r1 with
 |true=>obtain⟨h1,h2⟩:=hr.yes rfl;exact⟨h1 I8,AHp h2 hn⟩
 |false =>
  exfalso
  obtain⟨n1,n2,n3⟩:=hr.no rfl;simp only at n2 n3;have key:∀{x},Cn ls b x->x≠c/\Cl ls r2 x:=λ{x} h=>by
   induction h with
   |refl=>exact⟨n1,n2⟩
   |fwd rD _ ih =>
    obtain⟨k,hk,e⟩:=List.mem_iff_getElem.1 rD;have e2:lk ls k=_:=show ls.getD k Ab.zero=ls[k] by simp[List.getD,hk]
    rw[<-e,<-e2]at ih⊢;exact n3 k hk (ih.2 k hk (.inl rfl)) (hz k) _ (.inr rfl)
   |bwd rD _ ih =>
    obtain⟨k,hk,e⟩:=List.mem_iff_getElem.1 rD;have e2:lk ls k=_:=show ls.getD k Ab.zero=ls[k] by simp[List.getD,hk]
    rw[<-e,<-e2]at ih⊢;exact n3 k hk (ih.2 k hk (.inr rfl)) (hz k) _ (.inl rfl)
  exact(key hc).1 rfl
theorem AlM{a:AHT}(ha:a.length<=1048576)(b:Int):∃r,QA a b=some r/\(a=[]->r=false):=by
 unfold QA;obtain⟨t,h1,h2⟩:Ax (QV a b 0) λt=>t=.inl ()->a≠[]:=by
  unfold QV;refine B8 (λw (i:Int)=>∃k:Nat,i=(k:Int)/\k<=a.length/\w=a.length-k) (λw i hI=>?_) a.length 0 ⟨0,rfl,Nat.zero_le _,rfl⟩;obtain⟨k,rfl,hk,rfl⟩:=hI;unfold NK RF;rcases AG6 k a.length with h |h
  ·rw[DN h,AHb,AHd (Bl h)];refine Ax.cond (λ_=>Ax.mk λ_=>by intro e;rw[e]at h;simp at h) λ_=>Ax.mk ⟨a.length-(k+1),by omega,k+1,A2 (by omega) (by omega),h,rfl⟩
  ·have:k=a.length:=by omega
   subst this;rw[EB,AHa];exact Ax.mk λe=>by cases e
 rw[h1,AGV];cases t with
 |inl u=>exact⟨true,rfl,λe=>(h2 rfl e).elim⟩
 |inr u=>exact⟨false,rfl,λ_=>rfl⟩
theorem wP{a:AHT}(ha:a≠[])(hl:a.length<=900000):Ax (Kq a) (·≠[]):=by
 unfold Kq;refine Ax.bind (P:=(·≠[])) ?_ λr hr=>Ax.mk hr;unfold QF;refine B8 (λm (s:Int×AHT)=>∃k:Nat,s.1=(k:Int)/\k<=a.length/\m=a.length-k/\s.2.length<=k/\(0<k->s.2≠[])) (λm s hI=>?_) a.length (0,[]) ⟨0,rfl,Nat.zero_le _,rfl,AG1 _,λh=>by omega⟩;obtain⟨k,e,hk,rfl,hd,I8⟩:=hI;obtain⟨g,d⟩:=s;simp only at e hd I8;subst e;unfold JV Ot;simp only;rcases AG6 k a.length with Bj |YW
 ·rw[DN Bj,AHb];refine Ax.bind (P:=λe:AHT=>e≠[]/\e.length<=k+1) ?_ λe he=>Ax.mk ⟨a.length-(k+1),by omega,k+1,A2 (by omega) (by omega),by omega,rfl,he.2,λ_=>he.1⟩;unfold MK;simp only[AGW,AHd (Bl Bj)];obtain⟨r,h1,h2⟩:=AlM (a:=d) (by omega) (a.getD k AIa.zero);rw[h1,AGV];cases r with
  |true =>
   rw[AHb];exact Ax.mk ⟨λe=>(by have:=h2 e;cases this),by omega⟩
  |false =>
   rw[AHa,AHd (by rw[AHf];omega)];generalize a.getD k AIa.zero=x;refine Ax.bind (P:=λq:Int×AHT=>0<=q.1/\q.1<(q.2.length:Int)/\q.2.length=d.length+1) ?_ λq hq=>?_
   ·unfold QE;refine B8 (λm (s:Int×AHT)=>∃i:Nat,s.1=(i:Int)/\i<=d.length/\m=i/\s.2.length=d.length+1) (λm s hI=>?_) d.length ((d.length:Int),d++[x]) ⟨d.length,rfl,AG1 _,rfl,by simp⟩;obtain⟨i,e,hi,hm,hj⟩:=hI;rw[hm];clear hm;obtain⟨g,j⟩:=s;simp only at e hj;subst e;unfold JU Oq MJ;simp only;cases i with
    |zero =>
     rw[AGY (by omega),AHa,AGV,Sum.elim_inr];exact Ax.mk ⟨by simp,by simp only;omega,hj⟩
    |succ i =>
     have hw:wI (((i+1:Nat):Int)-1)=(i:Int):=A2 (by omega) (by omega);rw[AG0 (by omega),AHb,hw];simp only[AGW];rw[AHd (Bl (show i<j.length by omega)),AHd (Bl Bj)];cases decide (j.getD i AIa.zero>a.getD k AIa.zero)with
     |true =>
      rw[AHb,AGV,Sum.elim_inl,AHd (Bl (show i<j.length by omega)),AHd (Bl (show i+1<j.length by omega))];exact Ax.mk ⟨i,by omega,i,rfl,by omega,rfl,by rw[AG4];exact hj⟩
     |false =>
      rw[AHa,AGV,Sum.elim_inr];exact Ax.mk ⟨by omega,by simp only;omega,hj⟩
   ·rw[AHd ⟨hq.1,hq.2.1⟩];refine Ax.mk ⟨λe=>?_,by rw[AG4];omega⟩;have:=congrArg List.length e;rw[AG4,hq.2.2]at this;simp at this
 ·have:k=a.length:=by omega
  subst this;rw[EB,AHa];exact Ax.mk (I8 (by cases a with |nil=>exact(ha rfl).elim |cons _ _=>simp))
def Age(b:AHM):Prop:=b.2.1.length<=64/\b.1<=4096/\DU b.2.1
abbrev gB(vs:AH2)(i:Nat):AHM:=vs.getD i Ah.zero
abbrev mgB(vm:List (Int×AHM))(i:Int):AHM:=Bh AIa Ah vm i
structure JN (ns N:Nat) (ld fx:AHT) (vm:List (Int×AHM)) (ks:AHX) (vs:AH2) (BK:AHT) (rt:Nat->Nat):Prop where
 fo:∃dp,Fo ld rt dp
 l1:ld.length=N
 l2:fx.length=N
 l3:vs.length=N
 l4:BK.length=N
 nn:ns<=N
 sm:∀i j,i<N->j<N->(gI BK i=gI BK j↔rt i=rt j)
 lo:∀i,i<N->0<=gI BK i/\gI BK i<=(i:Int)/\gI BK (gI BK i).toNat=gI BK i
 wd:∀i,i<N->((gB vs i).1>0↔ns<=i)
 vl:∀i,i<N->ns<=i->mgB vm (i:Int)=gB vs i
 bw:∀i,i<N->Age (gB vs i)
 fx_:∀i,i<N->rt i=i->ji rt ns N i (gI fx i)
 lk_:∀l∈ks,((0:Int)<=l.1/\(N:Int)>l.1)/\(0:Int)<=l.2.1/\(N:Int)>l.2.1
 cn:∀i j:Nat,i<N->j<N->rt i=rt j->Cn ks (i:Int) (j:Int)
def X0(ns:Nat)(a:AHS):Prop:=((0:Int)<=a.1/\(ns:Int)>a.1)\/((0:Int)>a.1/\(0:Int)<a.2.1.1/\Age a.2.1)
theorem rl{l:AH2}{x:AHM}{j:Nat}:gB (l++[x]) j=if j=l.length then x else gB l j:=by
 unfold gB;by_cases h:j=l.length
 ·subst h;rw[AHd rfl];simp[List.getD]
 ·rw[AHe h];by_cases h2:j<l.length
  ·simp[List.getD,AHl,h2]
  ·simp[List.getD,AHl,h2,show ¬j-l.length=0 by omega]
theorem uD{ns N:Nat}{ld fx:AHT}{vm:List (Int×AHM)}{ks:AHX}{vs:AH2}{BK:AHT}{rt:Nat->Nat}(J:JN ns N ld fx vm ks vs BK rt){a:AHS}(ha:X0 ns a)(hN:N<=2000000)(p q:Int) :
    ∃k N' dE vM xp pV Zx,Bb p a ld fx vm ks=some (((k:Nat):Int),xp,ks,dE,vM)/\Fw q a vs ks BK=some ((k:Int),ks,pV,Zx)/\k<N'/\N<=N'/\N'<=N+1/\JN ns N' dE vM xp ks pV Zx rt:=by
 have R9:=J.l1;have YX:=J.l2;have hl3:=J.l3;have ui:=J.l4;have hnn:=J.nn;unfold Bb Fw;rcases ha with ⟨h0,h1⟩|⟨h0,h1,h2⟩
 ·refine⟨a.1.toNat,N,ld,fx,vm,vs,BK,?_,?_,by omega,AG1 _,by omega,J⟩
  ·rw[AG0 (by omega),AHb,show((a.1.toNat:Nat):Int)=a.1 by omega]
  ·rw[AG0 (by omega),AHb,show((a.1.toNat:Nat):Int)=a.1 by omega]
 ·obtain⟨dp,hf⟩:=J.fo;have hrN:rt N=N:=hf.out N (by omega);have hd0:decide (a.1>=0)=false:=AGY λh=>by have h:(0:Int)<=a.1:=h;omega
  have AbF:∀i,i<N->rt i<N:=λi hi=>by have:=(hf.Y0 i (by omega)).1;omega
  refine⟨N,N+1,ld++[(N:Int)],fx++[(N:Int)],BS AIa Ah vm (N:Int) a.2.1,vs++[a.2.1],BK++[(N:Int)],?_,?_,by omega,by omega,AG1 _,?_⟩
  ·rw[hd0,AHa,AHd (by rw[AHf];omega),AHd (by rw[AHf];omega),R9]
  ·unfold JX JY;rw[hd0,AHa,AHd (by rw[AHf];omega),AGV,AHd (by rw[AHf];omega),AGV,ui,A2 (n:=N) (by rw[AGZ,AHf];omega) (by omega)]
  ·have fo':=hf.add;rw[R9]at fo';refine⟨⟨dp,fo'⟩,by simp[R9],by simp[YX],by simp[hl3],by simp[ui],by omega,λi j hi hj=>?_,λi hi=>?_,λi hi=>?_,λi hi hn=>?_,λi hi=>?_,λi hi hr=>?_,λl hl=>?_,λi j hi hj h=>?_⟩
   ·rw[Rm,Rm,ui];by_cases e1:i=N<;>by_cases e2:j=N
    ·subst e1;subst e2;simp
    ·subst e1;rw[AHd rfl,AHe e2,hrN];have:=(J.lo j (by omega)).2.1;have:=AbF j (by omega);constructor<;>intro h<;>omega
    ·subst e2;rw[AHe e1,AHd rfl,hrN];have:=(J.lo i (by omega)).2.1;have:=AbF i (by omega);constructor<;>intro h<;>omega
    ·rw[AHe e1,AHe e2];exact J.sm i j (by omega) (by omega)
   ·rw[Rm,ui];by_cases e1:i=N
    ·subst e1;rw[AHd rfl,AGW,Rm,ui,AHd rfl];omega
    ·rw[AHe e1];obtain⟨a1,a2,a3⟩:=J.lo i (by omega);refine⟨a1,a2,?_⟩;rw[Rm,ui,AHe (by omega)];exact a3
   ·rw[rl,hl3];by_cases e1:i=N
    ·subst e1;rw[AHd rfl];exact⟨λ_=>hnn,λ_=>h1⟩
    ·rw[AHe e1];exact J.wd i (by omega)
   ·rw[rl,hl3];unfold mgB;rw[Qs (vt:=Ah)];by_cases e1:i=N
    ·subst e1;rw[AHd rfl,AHd rfl]
    ·rw[AHe e1,AHe (by omega)];exact J.vl i (by omega) hn
   ·rw[rl,hl3];by_cases e1:i=N
    ·subst e1;rw[AHd rfl];exact h2
    ·rw[AHe e1];exact J.bw i (by omega)
   ·rw[Rm,YX];by_cases e1:i=N
    ·subst e1;rw[AHd rfl];exact .inr ⟨i,rfl,hnn,by omega,hrN,λj j1 j2=>by have:=AbF j j2;omega⟩
    ·rw[AHe e1];exact(J.fx_ i (by omega) hr).add hrN (by omega)
   ·have:=J.lk_ l hl;omega
   ·by_cases e1:i=N<;>by_cases e2:j=N
    ·subst e1;subst e2;exact .refl _
    ·subst e1;have:=AbF j (by omega);omega
    ·subst e2;have:=AbF i (by omega);omega
    ·exact J.cn i j (by omega) (by omega) h
theorem JN.link{ns N:Nat}{ld fx:AHT}{vm:List (Int×AHM)}{ks:AHX}{vs:AH2}{BK:AHT}{rt:Nat->Nat}(J:JN ns N ld fx vm ks vs BK rt){a b:Nat}(ha:a<N)(hb:b<N)(I8:rt a≠rt b)(o:Int) :
    JN ns N (ld.set (rt b) ((rt a:Nat):Int)) (fx.set (rt a) (if 0<=gI fx (rt a)/\0<=gI fx (rt b)then min (gI fx (rt a)) (gI fx (rt b))else max (gI fx (rt a)) (gI fx (rt b)))) vm (ks++[((a:Int),(b:Int),o,())]) vs
     (BK.map λx=>if x=max (gI BK a) (gI BK b)then min (gI BK a) (gI BK b)else x) (Yx rt (rt a) (rt b)):=by
 have R9:=J.l1;have YX:=J.l2;have ui:=J.l4;obtain⟨dp,hf⟩:=J.fo;have hra:=hf.pS a;have hrb:=hf.pS b;have hxa:rt a<N:=by have:=(hf.Y0 a (by omega)).1;omega
 have hxb:rt b<N:=by have:=(hf.Y0 b (by omega)).1;omega
 generalize hm:min (gI BK a) (gI BK b)=m;generalize hM:max (gI BK a) (gI BK b)=M;have hg:∀i,i<N->gI (BK.map λx=>if x=M then m else x) i=if gI BK i=M then m else gI BK i:=λi hi =>
  Iy (λx=>if x=M then m else x) (y :=AIa.zero) (show i<BK.length by omega)
 have AAj:gI BK a≠gI BK b:=λe=>I8 ((J.sm a b ha hb).1 e);obtain⟨a1,a2,a3⟩:=J.lo a ha;obtain⟨b1,b2,b3⟩:=J.lo b hb;refine⟨hf.join (by omega) (by omega) hra hrb I8,by simp[R9],by simp[YX],J.l3,by rw[AG7];exact ui,J.nn,λi j hi hj=>?_,λi hi=>?_,J.wd,J.vl,J.bw,λi hi hr=>?_,λl hl=>?_,λi j hi hj h=>?_⟩
 ·rw[hg i hi,hg j hj,uw hf.pS hra hrb,<-J.sm i j hi hj,<-J.sm i a hi ha,<-J.sm j b hj hb,<-J.sm i b hi hb,<-J.sm j a hj ha];split<;>split<;>omega
 ·obtain⟨c1,c2,c3⟩:=J.lo i hi;rw[hg i hi];by_cases e:gI BK i=M
  ·rw[AHd e];refine⟨by omega,by omega,?_⟩;rcases Int.lt_or_gt_of_ne AAj with h |h
   ·have em:m=gI BK a:=by omega
    rw[em]at hg⊢;rw[hg _ (by omega),a3,AHe (by omega)]
   ·have em:m=gI BK b:=by omega
    rw[em]at hg⊢;rw[hg _ (by omega),b3,AHe (by omega)]
  ·rw[AHe e];refine⟨c1,c2,?_⟩;rw[hg _ (by omega),c3,AHe e]
 ·rw[XA (by omega)];by_cases e:i=rt a
  ·subst e;rw[AHd rfl];exact(J.fx_ _ hxa hra).join I8 (J.fx_ _ hxb hrb)
  ·rw[AHe e];have hj:rt i=i/\i≠rt b:=by
    simp only[Yx]at hr;split at hr
    ·omega
    ·exact⟨hr,by omega⟩
   exact(J.fx_ i hi hj.1).other e hj.2
 ·rcases List.mem_append.1 hl with hl |hl
  ·exact J.lk_ l hl
  ·rw[AHm]at hl;subst hl;simp only;omega
 ·have hm:∀l∈ks,l∈ks++[((a:Int),(b:Int),o,())]:=λl h=>AHt _ h;have rr:Cn (ks++[((a:Int),(b:Int),o,())]) (a:Int) (b:Int):=Cn.fwd (l:=((a:Int),(b:Int),o,())) (by simp) (.refl _);rcases(uw hf.pS hra hrb i j).1 h with h |⟨h,h'⟩|⟨h,h'⟩
  ·exact(J.cn i j hi hj h).mono hm
  ·exact((J.cn i a hi ha h).mono hm).trans (rr.trans ((J.cn b j hb hj h'.symm).mono hm))
  ·exact((J.cn i b hi hb h).mono hm).trans (rr.symm.trans ((J.cn a j ha hj h'.symm).mono hm))
def JnR(ns N:Nat)(ks:AHX)(x:Bool×List (Int×AHM)×AHT×AHT×AHT×AHX)(y:Bool×AHT×AH2×AHX×AHT):Prop :=
 (x.1=false/\y.1=false/\x.2.2.1≠[]/\y.2.1≠[]) \/
  (x.1=true/\y.1=true/\∃N' rt,N'<=N+2/\N<=N'/\x.2.2.2.2.2.length<=ks.length+1/\y.2.2.2.1=x.2.2.2.2.2/\JN ns N' x.2.2.2.1 x.2.2.2.2.1 x.2.1 x.2.2.2.2.2 y.2.2.1 y.2.2.2.2 rt)
theorem AfC{ns N:Nat}{ld fx:AHT}{vm:List (Int×AHM)}{ks:AHX}{vs:AH2}{BK:AHT}{rt:Nat->Nat}(J:JN ns N ld fx vm ks vs BK rt){n:AHQ}(ha:X0 ns n.1)(hb:X0 ns n.2.1)(hN:N<=1999990)(hk:ks.length<900000)(p q o:Int) :
    ∃x y,Gb p n o ld fx vm ks=some x/\Hg q n o vs ks BK=some y/\JnR ns N ks x y:=by
 obtain⟨a,N1,ld1,fx1,vm1,vs1,AGc,i1,s1,a1,a2,a3,J1⟩:=uD J ha (by omega) p q;obtain⟨b,N2,ld2,vN,vm2,uW,fS,i2,s2,b1,b2,b3,J2⟩:=uD J1 hb (by omega) p q;have R9:=J2.l1;have YX:=J2.l2;have hl3:=J2.l3;have ui:=J2.l4;obtain⟨dp,hf⟩:=J2.fo;obtain⟨r1,e1,l1,rfl,q1,q2⟩:=j6 hf (j:=a) (by omega) p vN vm2 ks;obtain⟨r2,e2,l2,rfl,q3,q4⟩:=j6 q2 (j:=b) (by omega) p vN vm2 ks;have J3:JN ns N2 l2 vN vm2 ks uW fS rt:=⟨⟨dp,q4⟩,by omega,J2.l2,J2.l3,J2.l4,J2.nn,J2.sm,J2.lo,J2.wd,J2.vl,J2.bw,J2.fx_,J2.lk_,J2.cn⟩;have hra:rt a<N2:=by have:=(hf.Y0 a (by omega)).1;omega
 have hrb:rt b<N2:=by have:=(hf.Y0 b (by omega)).1;omega
 have hsm:=J2.sm a b (by omega) b1;unfold Gb Ik Hg;rw[i1,AGV,s1,AGV];simp only;rw[i2,AGV,s2,AGV,AGV];simp only;rw[e1,AGV,AHd (show(0:Int)<=(a:Int)/\(a:Int)<(fS.length:Int) by omega),AHd (show(0:Int)<=(b:Int)/\(b:Int)<(fS.length:Int) by omega)];simp only[AGW];rw[e2,AGV];simp only[AGW];by_cases rr:rt a=rt b
 ·have g1:(fS.getD a AIa.zero==fS.getD b AIa.zero)=true:=by rw[beq_iff_eq];exact hsm.2 rr
  rw[g1,AHb,rr,beq_self_eq_true,AHb];exact⟨_,_,rfl,rfl,.inr ⟨rfl,rfl,N2,rt,by omega,by omega,by simp only;omega,rfl,J3⟩⟩
 ·have g1:(fS.getD a AIa.zero==fS.getD b AIa.zero)=false:=by rw[beq_eq_false_iff_ne];exact λe=>rr (hsm.1 e)
  have g2:(((rt a:Nat):Int)==((rt b:Nat):Int))=false:=by rw[beq_eq_false_iff_ne];omega
  obtain⟨w1,f1,v1,rfl,F1⟩:=cP (rt:=rt) (ns:=ns) (vs:=uW) (BK:=fS) (by omega) (λi j hi hj=>J2.sm i j (by omega) (by omega)) (λi hi=>J2.wd i (by omega)) (by omega) (b:=a) (by omega) q ks;obtain⟨w2,f2,v2,rfl,F2⟩:=cP (rt:=rt) (ns:=ns) (vs:=uW) (BK:=fS) (by omega) (λi j hi hj=>J2.sm i j (by omega) (by omega)) (λi hi=>J2.wd i (by omega)) (by omega) (b:=b) (by omega) q ks;rw[ui]at F1 F2;rw[g1,AHa,g2,AHa,f1,AGV];simp only;rw[f2,AGV];simp only;have fE:(ks.length+([((a:Int),(b:Int),o,())]:AHX).length)*24<=140737488355328:=by rw[AHf];omega
  have u1:gI vN (rt a)=v1:=(J2.fx_ _ hra (hf.pS a)).uniq F1;have u2:gI vN (rt b)=v2:=(J2.fx_ _ hrb (hf.pS b)).uniq F2;have x1:vN.getD (rt a) AIa.zero=v1:=u1;have x2:vN.getD (rt b) AIa.zero=v2:=u2;have d1:=F1.ge;have d2:=F2.ge;rw[AHd fE,AHd fE,AHd (show(0:Int)<=((rt a:Nat):Int)/\((rt a:Nat):Int)<(vN.length:Int) by omega),AHd (show(0:Int)<=((rt b:Nat):Int)/\((rt b:Nat):Int)<(vN.length:Int) by omega),x1,x2];have JL:=J3.link (a:=a) (b:=b) (by omega) b1 rr o;rw[u1,u2]at JL;have AFx:(ks++[((a:Int),(b:Int),o,())]).length=ks.length+1:=by rw[AGZ,AHf]
  have AlI:∀c:Int,c=(if 0<=v1/\0<=v2 then min v1 v2 else v1) ->
      ∃ x y,(if(0:Int)<=((rt b:Nat):Int)/\((rt b:Nat):Int)<(l2.length:Int)then
          if(0:Int)<=((rt a:Nat):Int)/\((rt a:Nat):Int)<(vN.length:Int)then
          (DC p c ((rt a:Nat):Int) v2 vm2 (l2.set (rt b) ((rt a:Nat):Int)) (vN.set (rt a) (if v2>c then v2 else c)) (ks++[((a:Int),(b:Int),o,())])).bind λk =>
          some (true,vm2,([]:AHT),l2.set (rt b) ((rt a:Nat):Int),k,ks++[((a:Int),(b:Int),o,())])
          else none else none)=some x /\
       ((JS (a:Int) (b:Int) fS).bind λb1=>some (true,([]:AHT),uW,ks++[((a:Int),(b:Int),o,())],b1))=some y/\JnR ns N ks x y:=λc hc=>by
   rw[AHd (by omega),AHd (by omega),Ab9 (by omega) (by omega) (by omega),AGV];have e4:DC p c ((rt a:Nat):Int) v2 vm2 (l2.set (rt b) ((rt a:Nat):Int)) (vN.set (rt a) (if v2>c then v2 else c)) (ks++[((a:Int),(b:Int),o,())])=some (vN.set (rt a) (if 0<=v1/\0<=v2 then min v1 v2 else max v1 v2)):=by
    unfold DC P2;by_cases hv:0<=v1/\0<=v2
    ·rw[AHd hv]at hc⊢;rw[AG0 (show c>=0 by omega),AG0 (show v2>=0 by omega),Bool.and_self,AHb,AHd (by rw[AG4];omega),AGW,List.set_set,hc]
    ·rw[AHe hv]at hc⊢;rw[show(decide (c>=0)&&decide (v2>=0))=false by rw[<-Bool.not_eq_true,AG2,decide_eq_true_iff,decide_eq_true_iff];omega,AHa,hc];congr 2;split<;>omega
   rw[e4,AGV];exact⟨_,_,rfl,rfl,.inr ⟨rfl,rfl,N2,_,by omega,by omega,by simp only;omega,rfl,JL⟩⟩
  unfold Il P2 JW;by_cases h1:0<=v1
  ·by_cases h2:0<=v2
   ·obtain⟨c1,rfl⟩:∃c:Nat,v1=(c:Int):=⟨v1.toNat,by omega⟩;obtain⟨c2,rfl⟩:∃c:Nat,v2=(c:Int):=⟨v2.toNat,by omega⟩;have t1:c1<N2/\ns<=c1/\rt c1=rt a:=by
     rcases F1 with ⟨h,_⟩|⟨j,h,h3,h4,h5,_⟩
     ·omega
     ·have:j=c1:=by omega
      subst this;exact⟨h4,h3,h5⟩
    have t2:c2<N2/\ns<=c2/\rt c2=rt b:=by
     rcases F2 with ⟨h,_⟩|⟨j,h,h3,h4,h5,_⟩
     ·omega
     ·have:j=c2:=by omega
      subst this;exact⟨h4,h3,h5⟩
    have m1:Bh AIa Ah vm2 (c1:Int)=gB uW c1:=J2.vl c1 t1.1 t1.2.1;have m2:Bh AIa Ah vm2 (c2:Int)=gB uW c2:=J2.vl c2 t2.1 t2.2.1;have bs:=(J2.bw c1 t1.1).1;obtain⟨r,er,hr⟩:=mD (a:=gB uW c1) (AHp bs (by decide)) (gB uW c2);obtain⟨r',er',hr'⟩:=o8 (a:=gB uW c1) (AHp bs (by decide)) (gB uW c2);have err:r'=r:=by rw[Bool.eq_iff_iff,hr,hr']
    subst err;rw[AG0 (show(c1:Int)>=0 by omega),AG0 (show(c2:Int)>=0 by omega),Bool.and_self,AHb,AHb,AHb];simp only[AGW];rw[AHd (show(0:Int)<=(c1:Int)/\(c1:Int)<(uW.length:Int) by omega),AHd (show(0:Int)<=(c2:Int)/\(c2:Int)<(uW.length:Int) by omega),m1,m2,er];rw[show Fu (uW.getD c1 Ah.zero) (uW.getD c2 Ah.zero)=some r' from er'];simp only[AGV];cases r' with
    |false =>
     simp only[Bool.not_false,AHb];have hcn:Cn (ks++[((a:Int),(b:Int),o,())]) (c1:Int) (c2:Int):=by
      have hm:∀l∈ks,l∈ks++[((a:Int),(b:Int),o,())]:=λl h=>AHt _ h;exact((J2.cn c1 a t1.1 (by omega) t1.2.2).mono hm).trans ((Cn.fwd (l:=((a:Int),(b:Int),o,())) (by simp) (.refl _)).trans ((J2.cn b c2 b1 t2.1 t2.2.2.symm).mono hm))
     have I8:(c1:Int)≠(c2:Int):=λe=>by
      have e:c1=c2:=by omega
      rw[e]at t1;exact rr (by rw[<-t1.2.2,<-t2.2.2])
     have hlk:=JL.lk_;obtain⟨w,ew,hw⟩:=AmP (v:=ks++[((a:Int),(b:Int),o,())]) (N:=N2) (by omega) (by omega) hlk (a:=(c1:Int)) (g:=(c2:Int)) (by omega) (Ne.symm I8) hcn;obtain⟨y,ey,hy,hy2⟩:=AbV (ls:=ks++[((a:Int),(b:Int),o,())]) (by omega) (λl h=>by have:=hlk l h;omega) (b:=(c1:Int)) (c:=(c2:Int)) (by omega) I8 hcn;obtain⟨z,ez,hz⟩:=wP hy (by omega);rw[ew,AGV,AGV,Sum.elim_inl,AHd ⟨rfl,by omega,Int.le_refl _,by omega,by omega⟩,ey,AGV,ez,AGV];exact⟨_,_,rfl,rfl,.inl ⟨rfl,rfl,hw,hz⟩⟩
    |true =>
     simp only[Bool.not_true,AHa,AGV,Sum.elim_inr];exact AlI _ (by have hcc:(0:Int)<=(c1:Int)/\(0:Int)<=(c2:Int):=⟨by omega,by omega⟩;rw[AHd hcc];split<;>omega)
   ·rw[show(decide (v1>=0)&&decide (v2>=0))=false by rw[AGY (show ¬v2>=0 by omega),Bool.and_false],AHa,AG0 (show v1>=0 by omega),AHb,AGY (show ¬v2>=0 by omega),AHa];simp only[AGV,Sum.elim_inr,AHa,AGW];exact AlI _ (by rw[AHe (by omega)])
  ·rw[show(decide (v1>=0)&&decide (v2>=0))=false by rw[AGY (show ¬v1>=0 by omega),Bool.false_and],AHa,AGY (show ¬v1>=0 by omega),AHa];simp only[AGV,Sum.elim_inr,AHa,AGW];exact AlI _ (by rw[AHe (by omega)])
theorem Y2{d:AHY}{f:Nat->Nat->Bool}(ht:∀v p,f v p=true->v<d.length/\1<=p/\p<W d v):C0 (AY d f)=f:=by
 funext v p
 rw[Bool.eq_iff_iff];unfold C0;by_cases hv:v<d.length
 ·rw[gG hv,List.contains_iff_mem,ag];constructor
  ·rintro⟨q,e,_,_,h⟩
   have:q=p:=by omega
   rw[<-this];exact h
  ·intro h;obtain⟨_,h1,h2⟩:=ht v p h;exact⟨p,rfl,h1,h2,h⟩
 ·constructor
  ·intro h;have:Cy (AY d f) v=[]:=by unfold Cy AY;simp[List.getD,hv]
   rw[this]at h;simp at h
  ·intro h;exact(hv (ht v p h).1).elim
def PPi(d:AHY)(l:AH0)(f:Nat->Nat->Bool)(i:Nat):AH5:=PP (SL d (AY d f) d.length) (b1 d l i) (b2 d l i) 0 (eL (b1 d l i) (b2 d l i) f (b1 d l i).length++[(b1 d l i).length])
section
variable {d:AHY} {l:AH0} {f:Nat->Nat->Bool}
theorem Adf(hd:AL d)(hl:∀x∈l,Tc x)(Vw:ML d l)(hs:FG d l)(S8:LQ d l f)(ht:∀v p,f v p=true->v<d.length/\1<=p/\p<W d v){i:Nat}(hi:i<l.length) :
    Ko d (l.getD i Af.zero) (AY d f,())=some (true,PPi d l f i):=by
 have hC0:=Y2 ht;obtain⟨bh,hc⟩:=VN hd f;generalize hx:l.getD i Af.zero=x;have hxl:Tc x:=by rw[<-hx];exact hl _ (AG hi)
 have R9:∀y∈[x],Tc y:=λy hy=>by rw[AHm]at hy;rw[hy];exact hxl
 have eS:lS [x] 0=lS l i:=by unfold lS li;rw[hx];rfl
 have eT:lT [x] 0=lT l i:=by unfold lT li;rw[hx];rfl
 have eB1:b1 d [x] 0=b1 d l i:=by unfold b1;rw[eS]
 have eB2:b2 d [x] 0=b2 d l i:=by unfold b2;rw[eT]
 have Al5:ML d [x]:=⟨by simp,λj hj=>by
  have:j=0:=by simp at hj;omega
  subst this;obtain⟨h1,_,h3,h4⟩:=Vw.2 i hi;have eI:XY [x] 0=XY l i:=by unfold XY li;rw[hx];rfl
  exact⟨by rw[eI];exact h1,λh=>by omega,by rw[eS];exact h3,by rw[eS,eT];exact h4⟩⟩
 have Qa:FG d [x]:=λj hj=>by
  have:j=0:=by simp at hj;omega
  subst this;have:=hs i hi;unfold bP at this⊢;rw[eS,eT];exact this
 have Az3:LQ d [x] f:=λj hj=>by
  have:j=0:=by simp at hj;omega
  subst this;rw[eB1,eB2];exact S8 i hi
 obtain⟨rc,ec,himp,RN⟩:=ng (d:=d) hc R9;obtain⟨q1,e1,h1⟩:=TC (d:=d) hc;obtain⟨q2,e2,h2⟩:=Wd (d:=d) R9;rcases RN with ⟨_,Vx⟩|⟨_,_,_,_,f',rfl,hf⟩
 ·exact(Vx ⟨hd,bh,Al5,Qa⟩).elim
 have hff:f'=f:=by
  funext v p
  rw[Bool.eq_iff_iff];exact⟨hf.min f Az3 (by rw[hC0];exact λ_ _ h=>h) v p,λh=>hf.le v p (by rw[hC0];exact h)⟩
 subst hff;have hB:=R9 _ (List.mem_singleton.2 rfl);obtain⟨s1,s2,s3,s4,s5,s6⟩:=TA hd R9 Al5 Qa (show 0<[x].length by simp);rw[eB1]at s1 s3 s5;rw[eB2]at s2 s3 s6;have g1:CM d x.2.2.1=some (F3 d (lS [x] 0)):=Pr hd hB.1;have g2:CM d x.2.2.2.1=some (F3 d (lT [x] 0)):=Pr hd hB.2;have BH:jw d (b1 d l i) (b2 d l i) (C0 (AY d f')):=by rw[hC0];exact S8 i hi
 unfold Ko Mh Mi;rw[e1,h1.2 ⟨hd,bh⟩,AGV];simp only[Bool.not_true,AHa,e2,h2.2 ⟨hd,Al5⟩,AGV];rw[ec,AGV];simp only[Bool.not_true,AHa];rw[lj hd bh hc,AGV,AGV,AGV,bne_self_eq_false,AHa];rw[g1,AGV,g2,AGV,s5,s6];simp only;rw[Acr hd s1,AGV,Acr hd s2,AGV,YR hd bh hc,AGV,Acg hd bh hc,AGV,QT hd bh hc,AGV];simp only;rw[gg hd bh s1 s2 s3 BH,AGV];simp only[Sum.elim_inr];rw[hC0];rfl
theorem AbQ(hd:AL d)(hl:∀x∈l,Tc x)(Vw:ML d l)(hs:FG d l)(S8:LQ d l f)(ht:∀v p,f v p=true->v<d.length/\1<=p/\p<W d v){i:Nat}(hi:i<l.length)(a:Int)(x:AHY)(y:AH0) :
    EP a (i:Int) x y ((List.range l.length).map (MM d l)) (AY d f) (SL d (AY d f) d.length) (bg (SL d (AY d f) d.length) (SL d (AY d f) d.length).length) =
     some (PPi d l f i,x,y,(List.range l.length).map (MM d l),AY d f,SL d (AY d f) d.length,bg (SL d (AY d f) d.length) (SL d (AY d f) d.length).length):=by
 have hC0:=Y2 ht;obtain⟨bh,hc⟩:=VN hd f;obtain⟨s1,s2,s3,s4,s5,s6⟩:=TA hd hl Vw hs hi;have BH:jw d (b1 d l i) (b2 d l i) (C0 (AY d f)):=by rw[hC0];exact S8 i hi
 have hlen:i<((List.range l.length).map (MM d l)).length:=by rw[AG7,AHC];exact hi
 unfold EP;rw[AHd (Bl hlen),AHd (Bl hlen),AGW,Jx hi,s4];simp only;rw[fL hd bh hc s1 s2 s3 BH,AGV,hC0];rfl
theorem Alk{B:List Bt}(h:Bm d B){L:AHX}{a b:Nat}(rr:a<b)(hb:b<=B.length)(hn:∀v x,RS B a=.va v x->∃n,Gz L (nk v x) L.length=some n):X0 L.length (Ya L B a b):=by
 unfold Ya;split
 ·refine .inr ⟨by show(0:Int) > -1;omega,?_,?_⟩
  ·show(0:Int)<((jO B a (b-a)).length:Int);unfold jO;rw[AG7,AHg,AHv];omega
  ·have hl:(jO B a (b-a)).length<=4096:=by
     unfold jO;rw[AG7,AHg,AHv];have:=h.2.1;omega
   obtain⟨h1,h2⟩:=iE (jO B a (b-a));refine⟨?_,?_,h2⟩
   ·show(fT (jO B a (b-a))).2.1.length<=64;rw[h1];unfold nw;omega
   ·show((jO B a (b-a)).length:Int)<=4096;omega
 ·rename_i v x hq;obtain⟨n,hn⟩:=hn v x hq;rw[hn];have:=(V5 hn).1;exact .inl ⟨by show(0:Int)<=(n:Int);omega,by show(L.length:Int)>(n:Int);omega⟩
theorem nP{c:AH6}{B:List Bt}(h:Bm d B){a b i k:Nat}(S:jv d c B a b i k):X0 (SL d c d.length).length (Ya (SL d c d.length) B a b):=Alk h S.lt S.le λv x hq=>by
 rw[k8 S]at hq;have hk:=S.hk;have Bj:=S.lt;cases hs:(Av B).getD i (.co [])with
 |co y =>
  rw[hs]at hq hk
  exfalso
  simp only[Sg.w]at hk;rw[show(Sg.co y).bits=y.map Bt.co from rfl,Iy Bt.co (y:=false) (by omega)]at hq;cases hq
 |va v' l' n =>
  rw[hs]at hq hk;simp only[Sg.w]at hk;rw[show(Sg.va v' l' n).bits=(List.range n).map λj=>Bt.va v' (l'+j)from rfl,Jx (by omega)]at hq;injection hq with e1 e2;subst e1;subst e2;obtain⟨m,hm,_⟩:=S.va _ _ _ hs;exact⟨m,hm⟩
theorem qB{B1 B2:List Bt}{h:Nat->Nat->Bool}{L:AHX}:∀{p:Nat},p<=B1.length->∀x∈PP L B1 B2 0 (eL B1 B2 h p),∃a b,Gap B1 B2 h a b/\x=pcV L B1 B2 a b
 |0,_,x,hx=>by simp[eL,PP]at hx
 |1,_,x,hx=>by rw[rh]at hx;simp[PP]at hx
 |p+2,hp,x,hx=>by
  rw[aX (p+1) (by omega)]at hx;split at hx
  ·rename_i hP;rw[X3]at hx;rcases List.mem_append.1 hx with hx |hx
   ·exact qB (by omega) x hx
   ·rw[AHm]at hx;exact⟨_,_,cW (by omega) (by omega) (.inr hP),hx⟩
  ·exact qB (by omega) x hx
theorem Acx(hd:AL d)(hl:∀x∈l,Tc x)(Vw:ML d l)(hs:FG d l)(S8:LQ d l f)(ht:∀v p,f v p=true->v<d.length/\1<=p/\p<W d v){i:Nat}(hi:i<l.length) :
    (PPi d l f i).length<=4097/\∀x∈PPi d l f i,X0 (SL d (AY d f) d.length).length x.1/\X0 (SL d (AY d f) d.length).length x.2.1:=by
 have hC0:=Y2 ht;obtain⟨bh,hc⟩:=VN hd f;obtain⟨s1,s2,s3,s4,s5,s6⟩:=TA hd hl Vw hs hi;have BH:jw d (b1 d l i) (b2 d l i) (C0 (AY d f)):=by rw[hC0];exact S8 i hi
 have rE:=s1.1;have hn2:=s1.2.1;refine⟨?_,λx hx=>?_⟩
 ·unfold PPi;rw[ju,AGZ,AHf];have:=rf (B1:=b1 d l i) (B2:=b2 d l i) (h:=f) (b1 d l i).length;omega
 ·have hg:∃a b,Gap (b1 d l i) (b2 d l i) f a b/\x=pcV (SL d (AY d f) d.length) (b1 d l i) (b2 d l i) a b:=by
    unfold PPi at hx;rw[X3]at hx;rcases List.mem_append.1 hx with hx |hx
    ·exact qB (AG1 _) x hx
    ·rw[AHm]at hx;exact⟨_,_,cW (by omega) (AG1 _) (.inl rfl),hx⟩
  obtain⟨a,b,g,rfl⟩:=hg;have g':Gap (b1 d l i) (b2 d l i) (C0 (AY d f)) a b:=by rw[hC0];exact g
  obtain⟨⟨i1,k1,S1⟩,i2,k2,S2⟩:=Zm hd bh s1 s2 s3 BH g';exact⟨nP s1 S1,nP s2 S2⟩
end
end Go.Proofs.X
