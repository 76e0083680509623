import Derived.Test.YtlohhmmaibiimaaGreatK10
set_option linter.unusedVariables false
set_option linter.unusedSimpArgs false
namespace Go.Proofs.X
open Go Go.Va
set_option maxRecDepth 100000
theorem Acv{ns:Nat}{P:AH5}(hP:∀x∈P,X0 ns x.1/\X0 ns x.2.1)(hPl:P.length<=4097){l:AH0}{i:Nat}(hi:i<l.length)
    (a c d:Int) (b1:AHY) (c1:AH0) (d1:List ma) (e1:AH6) (g1:AHX) (i1:List (AHG×Int)) (sd:AHY) (sn se:Int) (sg si:AHN) :
    ∀(m k N:Nat) (ld fx:AHT) (vm:List (Int×AHM)) (ks:AHX) (vs:AH2) (BK:AHT) (rt:Nat->Nat),k+m=P.length->JN ns N ld fx vm ks vs BK rt->N+2*m<=1999990->ks.length+m<900000 ->
     ∃x y,CS a c l d (i:Int) P (P.length:Int) b1 c1 d1 e1 g1 i1 (l.getD i Af.zero) (k:Int) ld fx vm ks=some x/\EV sd l sn se (i:Int) sg si P (k:Int) vs ks BK=some y /\
      ((∃w z,x=.inl w/\y=.inl z/\w.1≠[]/\z.1≠[])\/∃dE vM xp Ta pV Zx rt' N',x=.inr (dE,vM,xp,Ta)/\y=.inr (pV,Ta,Zx)/\JN ns N' dE vM xp Ta pV Zx rt'/\N'<=N+2*m/\Ta.length<=ks.length+m)
 |0,k,N,ld,fx,vm,ks,vs,BK,rt,hk,J,h1,h2=>by
  have:k=P.length:=by omega
  subst this;refine⟨.inr (ld,fx,vm,ks),.inr (vs,ks,BK),?_,?_,.inr ⟨ld,fx,vm,ks,vs,BK,rt,N,rfl,rfl,J,by omega,by omega⟩⟩
  ·unfold CS;refine Ix ?_;unfold Cm C6;simp only;rw[EB,AHa]
  ·unfold EV;refine Ix ?_;unfold DJ FE;simp only;rw[EB,AHa]
 |m+1,k,N,ld,fx,vm,ks,vs,BK,rt,hk,J,h1,h2=>by
  have Bj:k<P.length:=by omega
  obtain⟨hA,hB⟩:=hP _ (AG (z :=Aq.zero) Bj);obtain⟨x,y,ex,ey,hR⟩:=AfC J hA hB (by omega) (by omega) c se (l.getD i Af.zero).1;have hw:wI ((k:Int)+1)=((k+1:Nat):Int):=A2 (by omega) (by omega);obtain⟨x1,x2,x3,x4,x5,x6⟩:=x;obtain⟨y1,y2,y3,y4,y5⟩:=y;rcases hR with ⟨rfl,rfl,n1,n2⟩|⟨rfl,rfl,N',rt',r1,r2,r3,r4,J'⟩
  ·refine⟨.inl (x3,x4,x5,x2,x6),.inl (y2,y3,y4,y5),?_,?_,.inl ⟨_,_,rfl,rfl,n1,n2⟩⟩
   ·unfold CS;refine Ix ?_;unfold Cm C6;simp only[AGW];rw[DN Bj,AHb,AHd (Bl Bj),ex,AGV];rfl
   ·unfold EV;refine Ix ?_;unfold DJ FE;simp only[AGW];rw[DN Bj,AHb,AHd (Bl Bj),AHd (Bl hi),ey,AGV];rfl
  ·simp only at r3 r4 J';subst r4;obtain⟨X,Y,eX,eY,hX⟩:=Acv hP hPl hi a c d b1 c1 d1 e1 g1 i1 sd sn se sg si m (k+1) N' x4 x5 x2 y4 y3 y5 rt' (by omega) J' (by omega) (by omega);refine⟨X,Y,?_,?_,?_⟩
   ·rw[<-eX];unfold CS;refine Li ?_;unfold Cm C6;simp only[AGW];rw[DN Bj,AHb,AHd (Bl Bj),ex,AGV,hw];rfl
   ·rw[<-eY];unfold EV;refine Li ?_;unfold DJ FE;simp only[AGW];rw[DN Bj,AHb,AHd (Bl Bj),AHd (Bl hi),ey,AGV,hw];rfl
   ·rcases hX with h |⟨dE,vM,xp,Ta,pV,Zx,ABd,N'',q1,q2,q3,q4,q5⟩
    ·exact .inl h
    ·exact .inr ⟨dE,vM,xp,Ta,pV,Zx,ABd,N'',q1,q2,q3,by omega,by omega⟩
section
variable {d:AHY} {l:AH0} {f:Nat->Nat->Bool}
theorem kG(hd:AL d)(hl:∀x∈l,Tc x)(Vw:ML d l)(hs:FG d l)(S8:LQ d l f)(ht:∀v p,f v p=true->v<d.length/\1<=p/\p<W d v)(a c sn se:Int) :
    ∀(m i N:Nat) (ld fx:AHT) (vm:List (Int×AHM)) (ks:AHX) (vs:AH2) (BK:AHT) (rt:Nat->Nat),i+m=l.length->JN (SL d (AY d f) d.length).length N ld fx vm ks vs BK rt->N+8194*m<=1999990->ks.length+4097*m<900000 ->
     ∃x y,Ci a l c (l.length:Int) (i:Int) d l ((List.range l.length).map (MM d l)) (AY d f) (SL d (AY d f) d.length) (bg (SL d (AY d f) d.length) (SL d (AY d f) d.length).length) ld fx vm ks=some x /\
      Dr d l sn se (AY d f,()) (AY d f,()) (i:Int) vs ks BK=some y /\
      ((∃w z,x=.inl w/\y=.inl z/\w.2.2.2.2.2.2.1≠[]/\z.1≠[])\/∃dE vM xp Ta pV Zx rt' N',x=.inr (d,l,(List.range l.length).map (MM d l),AY d f,SL d (AY d f) d.length,bg (SL d (AY d f) d.length) (SL d (AY d f) d.length).length,dE,vM,xp,Ta)/\y=.inr (pV,Ta,Zx)/\JN (SL d (AY d f) d.length).length N' dE vM xp Ta pV Zx rt'/\N'<=1999990)
 |0,i,N,ld,fx,vm,ks,vs,BK,rt,hk,J,h1,h2=>by
  have:i=l.length:=by omega
  subst this;refine⟨.inr (d,l,(List.range l.length).map (MM d l),AY d f,SL d (AY d f) d.length,bg (SL d (AY d f) d.length) (SL d (AY d f) d.length).length,ld,fx,vm,ks),.inr (vs,ks,BK),?_,?_,.inr ⟨ld,fx,vm,ks,vs,BK,rt,N,rfl,rfl,J,by omega⟩⟩
  ·unfold Ci;refine Ix ?_;unfold BV Cp;simp only;rw[EB,AHa]
  ·unfold Dr;refine Ix ?_;unfold CQ DK;simp only;rw[EB,AHa]
 |m+1,i,N,ld,fx,vm,ks,vs,BK,rt,hk,J,h1,h2=>by
  have Bj:i<l.length:=by omega
  have bm:=Vw.1;have hw:wI ((i:Int)+1)=((i+1:Nat):Int):=A2 (by omega) (by omega);cases hE:(l.getD i Af.zero).2.1 with
  |false =>
   obtain⟨X,Y,eX,eY,hX⟩:=kG hd hl Vw hs S8 ht a c sn se m (i+1) N ld fx vm ks vs BK rt (by omega) J (by omega) (by omega);refine⟨X,Y,?_,?_,hX⟩
   ·rw[<-eX];unfold Ci;refine Li ?_;unfold BV Cp CU;simp only[AGW];rw[DN Bj,AHb,AHd (Bl Bj),hE,hw];rfl
   ·rw[<-eY];unfold Dr;refine Li ?_;unfold CQ DK EW;simp only[AGW];rw[DN Bj,AHb,AHd (Bl Bj),hE,hw];rfl
  |true =>
   have eP:=AbQ hd hl Vw hs S8 ht Bj a d l;have eS:=Adf hd hl Vw hs S8 ht Bj;obtain⟨p1,p2⟩:=Acx hd hl Vw hs S8 ht Bj;obtain⟨x,y,ex,ey,hR⟩:=Acv p2 p1 Bj a c (l.length:Int) d l ((List.range l.length).map (MM d l)) (AY d f) (SL d (AY d f) d.length) (bg (SL d (AY d f) d.length) (SL d (AY d f) d.length).length) d sn se (AY d f,()) (AY d f,()) (PPi d l f i).length 0 N ld fx vm ks vs BK rt (by omega) J (by omega) (by omega);have e0:((0:Nat):Int)=0:=rfl;rw[e0]at ex ey;rcases hR with ⟨w,z,rfl,rfl,n1,n2⟩|⟨dE,vM,xp,Ta,pV,Zx,rt',N',rfl,rfl,J',q1,q2⟩
   ·refine⟨.inl (d,l,(List.range l.length).map (MM d l),AY d f,SL d (AY d f) d.length,bg (SL d (AY d f) d.length) (SL d (AY d f) d.length).length,w.1,w.2.1,w.2.2.1,w.2.2.2.1,w.2.2.2.2),.inl (z.1,z.2.1,z.2.2.1,z.2.2.2),?_,?_,.inl ⟨_,_,rfl,rfl,n1,n2⟩⟩
    ·unfold Ci;refine Ix ?_;unfold BV Cp CU;simp only[AGW];rw[DN Bj,AHb,AHd (Bl Bj),hE,Bool.not_true,AHa,eP,AGV];simp only;rw[ex];rfl
    ·unfold Dr;refine Ix ?_;unfold CQ DK EW;simp only[AGW];rw[DN Bj,AHb,AHd (Bl Bj),AHd (Bl Bj),hE,Bool.not_true,AHa,eS,AGV];simp only;rw[ey];rfl
   ·obtain⟨X,Y,eX,eY,hX⟩:=kG hd hl Vw hs S8 ht a c sn se m (i+1) N' dE vM xp Ta pV Zx rt' (by omega) J' (by omega) (by omega);refine⟨X,Y,?_,?_,hX⟩
    ·rw[<-eX];unfold Ci;refine Li ?_;unfold BV Cp CU;simp only[AGW];rw[DN Bj,AHb,AHd (Bl Bj),hE,Bool.not_true,AHa,eP,AGV,hw];simp only;rw[ex];rfl
    ·rw[<-eY];unfold Dr;refine Li ?_;unfold CQ DK EW;simp only[AGW];rw[DN Bj,AHb,AHd (Bl Bj),AHd (Bl Bj),hE,Bool.not_true,AHa,eS,AGV,hw];simp only;rw[ey];rfl
end
def isR(rt:Nat->Nat)(i:Nat):Bool:=(List.range i).all λj=>rt j !=rt i
def Cz(rt:Nat->Nat):Nat->AHV
 |0=>[]
 |i+1=>if isR rt i=true then Cz rt i++[i]else Cz rt i
def Pl(rt:Nat->Nat):Nat->Nat->AHT
 |0,_=>[]
 |i+1,a=>if rt i=rt a then Pl rt i a++[(i:Int)]else Pl rt i a
theorem kC{rt:Nat->Nat}{i:Nat}:isR rt i=true↔∀j,j<i->rt j≠rt i:=by
 unfold isR;rw[List.all_eq_true];simp
theorem kD{rt:Nat->Nat}{i:Nat}(h:isR rt i=false):∃j,j<i/\rt j=rt i:=by
 unfold isR at h;rw[List.all_eq_false]at h;obtain⟨j,h1,h2⟩:=h;exact⟨j,List.mem_range.1 h1,by simpa using h2⟩
abbrev rp(rt:Nat->Nat)(i k:Nat):Nat:=(Cz rt i).getD k 0
theorem bu(rt:Nat->Nat):∀i,(Cz rt i).length<=i
 |0=>AG1 _
 |i+1=>by
  have:=bu rt i;unfold Cz;split
  ·rw[AGZ,AHf];omega
  ·omega
theorem kI(rt:Nat->Nat)(a:Nat):∀i,(Pl rt i a).length<=i
 |0=>AG1 _
 |i+1=>by
  have:=kI rt a i;unfold Pl;split
  ·rw[AGZ,AHf];omega
  ·omega
theorem R4(rt:Nat->Nat):∀(i k:Nat),k<(Cz rt i).length->rp rt i k<i/\isR rt (rp rt i k)=true
 |0,k,h=>by simp[Cz]at h
 |i+1,k,h=>by
  unfold rp Cz at *;by_cases e:isR rt i=true
  ·rw[AHd e]at h⊢;rw[AGZ,AHf]at h;by_cases hk:k<(Cz rt i).length
   ·have:=R4 rt i k hk;rw[show(Cz rt i++[i]).getD k 0=rp rt i k by simp[List.getD,AHl,hk]];exact⟨Nat.lt_succ_of_lt this.1,this.2⟩
   ·have:k=(Cz rt i).length:=by omega
    rw[show(Cz rt i++[i]).getD k 0=i by subst this;simp[List.getD]];exact⟨by omega,e⟩
  ·rw[AHe e]at h⊢;have:=R4 rt i k h;exact⟨Nat.lt_succ_of_lt this.1,this.2⟩
theorem bB(rt:Nat->Nat):∀(i j:Nat),j<i->∃k,k<(Cz rt i).length/\rt (rp rt i k)=rt j
 |0,j,h=>by omega
 |i+1,j,h=>by
  unfold rp Cz;by_cases e:isR rt i=true
  ·rw[AHd e,AGZ,AHf];by_cases hj:j=i
   ·subst hj;exact⟨(Cz rt j).length,by omega,by simp[List.getD]⟩
   ·obtain⟨k,hk,h2⟩:=bB rt i j (by omega);exact⟨k,by omega,by rw[show(Cz rt i++[i]).getD k 0=rp rt i k by simp[List.getD,AHl,hk]];exact h2⟩
  ·rw[AHe e];by_cases hj:j=i
   ·subst hj;obtain⟨j',h1,h2⟩:=kD (Bool.eq_false_iff.2 e);obtain⟨k,hk,h3⟩:=bB rt j j' h1;exact⟨k,hk,h3.trans h2⟩
   ·exact bB rt i j (by omega)
theorem AmE{rt:Nat->Nat}{i k k':Nat}(hk:k<(Cz rt i).length)(TV:k'<(Cz rt i).length)(h:rt (rp rt i k)=rt (rp rt i k')):rp rt i k=rp rt i k':=by
 obtain⟨_,h1⟩:=R4 rt i k hk;obtain⟨_,h2⟩:=R4 rt i k' TV;rw[kC]at h1 h2;rcases Nat.lt_trichotomy (rp rt i k) (rp rt i k')with e |e |e
 ·exact(h2 _ e h).elim
 ·exact e
 ·exact(h1 _ e h.symm).elim
theorem ZG(rt:Nat->Nat):∀i,(Cz rt i).Pairwise (·<·)
 |0=>List.Pairwise.nil
 |i+1=>by
  unfold Cz;split
  ·rw[List.pairwise_append];refine⟨ZG rt i,List.pairwise_singleton _ _,λa ha b hb=>?_⟩;rw[AHm]at hb;subst hb;obtain⟨k,hk,e⟩:=List.mem_iff_getElem.1 ha;have:=(R4 rt b k hk).1;rwa [show rp rt b k=a by rw[<-e];simp[rp,List.getD,hk]]at this
  ·exact ZG rt i
theorem AfX{rt:Nat->Nat}{i k k':Nat}(hk:k<(Cz rt i).length)(TV:k'<(Cz rt i).length)(h:rp rt i k=rp rt i k'):k=k':=by
 have hp:=List.pairwise_iff_getElem.1 (ZG rt i);have e1:rp rt i k=(Cz rt i)[k]:=by simp[rp,List.getD,hk]
 have e2:rp rt i k'=(Cz rt i)[k']:=by simp[rp,List.getD,TV]
 rcases Nat.lt_trichotomy k k' with e |e |e
 ·have:=hp k k' hk TV e;omega
 ·exact e
 ·have:=hp k' k TV hk e;omega
def cV(rt:Nat->Nat)(fx:AHT)(vs:AH2)(i a:Nat):AHP :=
 (Pl rt i a,bif decide (gI fx (rt a)>=0)then(true,((gB vs (gI fx (rt a)).toNat).1,(gB vs (gI fx (rt a)).toNat).2.1,()),())else(false,(0,[],()),()))
abbrev PM:Type:=List (Int×Int)
structure Plc (rt:Nat->Nat) (i:Nat) (g:PM):Prop where
 AU:∀k,k<(Cz rt i).length->Ry AIa AIa g ((rt (rp rt i k):Nat):Int)=true/\Bh AIa AIa g ((rt (rp rt i k):Nat):Int)=(k:Int)
 has:∀r:Nat,Ry AIa AIa g (r:Int)=true->∃k,k<(Cz rt i).length/\rt (rp rt i k)=r
theorem kH{A B:Type}{F G:A->B}{l:List A}{k:Nat}{z:A}(hk:k<l.length)(h:∀k',k'<l.length->k'≠k->F (l.getD k' z)=G (l.getD k' z)):(l.map F).set k (G (l.getD k z))=l.map G:=by
 apply List.ext_getElem
 ·simp
 ·intro n h1 h2;have hn:n<l.length:=by simpa using h2
  by_cases e:k=n
  ·subst e;simp[List.getD,hk]
  ·rw[List.getElem_set_ne e];have:=h n hn (Ne.symm e);simpa [List.getD,hn]using this
theorem jL{ns N:Nat}{ld fx:AHT}{vm:List (Int×AHM)}{ks:AHX}{vs:AH2}{BK:AHT}{rt:Nat->Nat}(J:JN ns N ld fx vm ks vs BK rt)(hN:N<=1999990)(a:Int) :
    Ax (Dz a (ns:Int) ld fx vm ks) λr=>r.2.2.2.2=(Cz rt ns).map (cV rt fx vs ns):=by
 have hnn:=J.nn;have YX:=J.l2;have hl3:=J.l3;unfold Dz;refine Ax.bind (P:=λr:AHT×AHT×List (Int×AHM)×AHX×AH4=>r.2.2.2.2=(Cz rt ns).map (cV rt fx vs ns)) ?_ λr hr=>Ax.mk hr;unfold Jl;refine B8 (λm (s:Int×AHT×AHT×List (Int×AHM)×AHX×AH4×PM)=>∃i:Nat,s.1=(i:Int)/\i<=ns/\m=ns-i/\(∃dp,Fo s.2.1 rt dp)/\s.2.1.length=N/\s.2.2.1=fx/\s.2.2.2.1=vm/\s.2.2.2.2.2.1=(Cz rt i).map (cV rt fx vs i)/\Plc rt i s.2.2.2.2.2.2) (λm s hI=>?_) ns (0,ld,fx,vm,ks,[],[]) ⟨0,rfl,Nat.zero_le _,rfl,J.fo,J.l1,rfl,rfl,rfl,⟨λk h=>by simp[Cz]at h,λr h=>by simp[Ry,Ni]at h⟩⟩;obtain⟨i,e1,hi,rfl,⟨dp,hf⟩,hl,e2,e3,e4,hP⟩:=hI;obtain⟨g,x,y,v,k0,out,pl⟩:=s;simp only at e1 hf hl e2 e3 e4 hP;subst e1;subst e2;subst e3;subst e4;unfold Es HX;simp only;rcases AG6 i ns with Bj |YW
 ·have hri:rt i<N:=by have:=(hf.Y0 i (by omega)).1;omega
  have hrr:=hf.pS i;obtain⟨c,ec,x',rfl,rD,hf'⟩:=j6 hf (j:=i) (by omega) a y v k0;rw[DN Bj,AHb,ec,AGV];simp only;have hrl:=bu rt i;have hw:wI ((i:Int)+1)=((i+1:Nat):Int):=A2 (by omega) (by omega);unfold FR;cases hR:isR rt i with
  |false =>
   obtain⟨j,hj,ej⟩:=kD hR;obtain⟨k,hk,ek⟩:=bB rt i j hj;rw[ej]at ek;obtain⟨h1,h2⟩:=hP.AU k hk;rw[ek]at h1 h2;have qe:Cz rt (i+1)=Cz rt i:=by rw[Cz,AHe (by rw[hR];simp)]
   rw[h1,h2,Bool.not_true,AHa,AGV];have hol:((Cz rt i).map (cV rt y vs i)).length=(Cz rt i).length:=AG7 _;have hgk:((Cz rt i).map (cV rt y vs i)).getD k Ao.zero=cV rt y vs i (rp rt i k):=Iy (cV rt y vs i) (y:=0) hk;simp only[AGW,hgk];have vU:=kI rt (rp rt i k) i;rw[AHd (show(0:Int)<=(k:Int)/\(k:Int)<(((Cz rt i).map (cV rt y vs i)).length:Int) by omega),AHd (show((cV rt y vs i (rp rt i k)).1.length+([(i:Int)]:AHT).length)*8<=140737488355328 by rw[AHf];show((Pl rt i (rp rt i k)).length+1)*8<=_;omega),AHd (show(0:Int)<=(k:Int)/\(k:Int)<(((Cz rt i).map (cV rt y vs i)).length:Int) by omega),AHd trivial,hw];refine Ax.mk ⟨ns-(i+1),by omega,i+1,rfl,by omega,rfl,⟨dp,hf'⟩,by simp only;omega,rfl,rfl,?_,?_⟩
   ·simp only;rw[qe];have hc:((cV rt y vs i (rp rt i k)).1++[(i:Int)],(cV rt y vs i (rp rt i k)).2)=cV rt y vs (i+1) (rp rt i k):=by
     unfold cV;rw[Pl,AHd ek.symm]
    rw[hc];refine kH hk λk' TV I8=>?_;unfold cV;rw[Pl,AHe λe=>I8 (AfX TV hk (AmE TV hk (by show rt (rp rt i k')=_;rw[ek];exact e.symm)))]
   ·exact⟨by rw[show rp rt (i+1)=rp rt i by unfold rp;rw[qe],qe];exact hP.AU,by rw[show rp rt (i+1)=rp rt i by unfold rp;rw[qe],qe];exact hP.has⟩
  |true =>
   have fH:=kC.1 hR;have Vx:Ry AIa AIa pl ((rt i:Nat):Int)=false:=by
    rw[Bool.eq_false_iff];intro h;obtain⟨k,hk,ek⟩:=hP.has _ h;exact fH _ (R4 rt i k hk).1 ek
   have qe:Cz rt (i+1)=Cz rt i++[i]:=by rw[Cz,AHd hR]
   rw[Vx,Bool.not_false,AHb];have hol:((Cz rt i).map (cV rt y vs i)).length=(Cz rt i).length:=AG7 _;have e3:Dj a (i:Int) ((rt i:Nat):Int) (ns:Int) x' y v k0 ((Cz rt i).map (cV rt y vs i)) (((Cz rt i).map (cV rt y vs i)).length:Int) (BS AIa AIa pl ((rt i:Nat):Int) (((Cz rt i).map (cV rt y vs i)).length:Int))=some (bif decide (gI y (rt i)>=0)then(true,(gB vs (gI y (rt i)).toNat).1,(gB vs (gI y (rt i)).toNat).2.1)else(false,0,[])):=by
    unfold Dj;simp only[AGW];rw[AHd (show(0:Int)<=((rt i:Nat):Int)/\((rt i:Nat):Int)<(y.length:Int) by omega)];show(bif decide (gI y (rt i)>=0)then _ else _)=_;cases hd:decide (gI y (rt i)>=0)with
    |false=>rfl
    |true =>
     have hd:gI y (rt i)>=0:=of_decide_eq_true hd;rw[AHb,AHb];have hF:=J.fx_ _ hri hrr;rcases hF with ⟨h,_⟩|⟨q,h,h3,h4,h5,_⟩
     ·omega
     ·have hb:=J.vl q h4 h3;have hbw:=(J.bw q h4).1;show(Cs (Bh AIa Ah v (gI y (rt i)))).bind _=_;rw[h,AGW];rw[show Bh AIa Ah v (q:Int)=gB vs q from hb];unfold Cs;rw[AHd (by omega)];rfl
   rw[e3,AGV,AHd (by rw[AHf];omega),AGV];simp only;generalize hbv:(bif decide (gI y (rt i)>=0)then(true,(gB vs (gI y (rt i)).toNat).1,(gB vs (gI y (rt i)).toNat).2.1)else(false,0,[]):Bool×Int×AHT)=bv;have XB:cV rt y vs (i+1) i=([(i:Int)],bv.1,(bv.2.1,bv.2.2,()),()):=by
    have hm:Pl rt i i=[]:=by
     have:∀n,n<=i->Pl rt n i=[]:=λn=>by
      induction n with
      |zero=>intro _;rfl
      |succ n ih=>intro h;rw[Pl,AHe (fH n (by omega))];exact ih (by omega)
     exact this i (AG1 _)
    unfold cV;rw[Pl,AHd rfl,hm,<-hbv];cases decide (gI y (rt i)>=0)<;>rfl
   simp only[AGW];have hgl:(((Cz rt i).map (cV rt y vs i))++[(([]:AHT),bv.1,(bv.2.1,bv.2.2,()),())]).getD ((Cz rt i).map (cV rt y vs i)).length Ao.zero=(([]:AHT),bv.1,(bv.2.1,bv.2.2,()),()):=by simp[List.getD]
   rw[hgl];have hal:(((((Cz rt i).map (cV rt y vs i))++[(([]:AHT),bv.1,(bv.2.1,bv.2.2,()),())]):AH4).length:Int)=(((Cz rt i).map (cV rt y vs i)).length:Int)+1:=by rw[AGZ,AHf];omega
   rw[hal,AHd (by omega),AHd (by rw[AHf];simp),AHd (by omega),AHd trivial,hw];refine Ax.mk ⟨ns-(i+1),by omega,i+1,rfl,by omega,rfl,⟨dp,hf'⟩,by simp only;omega,rfl,rfl,?_,?_⟩
   ·simp only;rw[qe,List.map_append,List.set_append_right _ _ (AG1 _),Nat.sub_self];have vV:(Cz rt i).map (cV rt y vs (i+1))=(Cz rt i).map (cV rt y vs i):=List.map_congr_left λb hb=>by
     obtain⟨k,hk,e⟩:=List.mem_iff_getElem.1 hb;have AwP:=(R4 rt i k hk).1;rw[show rp rt i k=b by rw[<-e];simp[rp,List.getD,hk]]at AwP;unfold cV;rw[Pl,AHe (Ne.symm (fH b AwP))]
    rw[vV];show _=_++[cV rt y vs (i+1) i];rw[XB];rfl
   ·have AFO:(Cz rt (i+1)).length=(Cz rt i).length+1:=by rw[qe,AGZ,AHf]
    have hg1:∀k,k<(Cz rt i).length->rp rt (i+1) k=rp rt i k:=λk hk=>by unfold rp;rw[qe];simp[List.getD,AHl,hk]
    have hg2:rp rt (i+1) (Cz rt i).length=i:=by unfold rp;rw[qe];simp[List.getD]
    refine⟨λk hk=>?_,λr hr=>?_⟩
    ·by_cases e:k<(Cz rt i).length
     ·have I8:((rt (rp rt i k):Nat):Int)≠((rt i:Nat):Int):=λh=>fH _ (R4 rt i k e).1 (by omega);rw[hg1 k e,Um (vt:=.int .i64),Qs (vt:=.int .i64),AHe I8,(hP.AU k e).1,(hP.AU k e).2,Bool.or_true];exact⟨rfl,rfl⟩
     ·have:k=(Cz rt i).length:=by omega
      subst this;rw[hg2,Um (vt:=.int .i64),Qs (vt:=.int .i64),AHd rfl,AG0 rfl,Bool.true_or,hol];exact⟨rfl,rfl⟩
    ·rw[Um (vt:=.int .i64),Bool.or_eq_true,decide_eq_true_iff]at hr;rcases hr with hr |hr
     ·exact⟨(Cz rt i).length,by omega,by rw[hg2];omega⟩
     ·obtain⟨k,hk,ek⟩:=hP.has r hr;exact⟨k,by omega,by rw[hg1 k hk];exact ek⟩
 ·have:i=ns:=by omega
  subst this;rw[EB,AHa];exact Ax.mk rfl
theorem jM{ns N:Nat}{ld fx:AHT}{vm:List (Int×AHM)}{ks:AHX}{vs:AH2}{BK:AHT}{rt:Nat->Nat}(J:JN ns N ld fx vm ks vs BK rt)(hN:N<=1999990)(b:Int)(c:AHN) :
    Ax (JC (ns:Int) b c 0 [] vs ks BK) (·=(Cz rt ns).map (cV rt fx vs ns)):=by
 have hnn:=J.nn;have YX:=J.l2;have hl3:=J.l3;have ui:=J.l4;obtain⟨dp,hf⟩:=J.fo;unfold JC;refine B8 (λm (s:Int×AH4×AH2×AHX×AHT)=>∃i:Nat,s.1=(i:Int)/\i<=ns/\m=ns-i/\s.2.1=(Cz rt i).map (cV rt fx vs ns)/\s.2.2.1=vs/\s.2.2.2.1=ks/\s.2.2.2.2=BK) (λm s hI=>?_) ns (0,[],vs,ks,BK) ⟨0,rfl,Nat.zero_le _,rfl,rfl,rfl,rfl,rfl⟩;obtain⟨i,e1,hi,rfl,e2,e3,e4,e5⟩:=hI;obtain⟨g,out,v,k0,l⟩:=s;simp only at e1 e2 e3 e4 e5;subst e1;subst e2;subst e3;subst e4;subst e5;unfold HI LA;simp only;rcases AG6 i ns with Bj |YW
 ·have hw:wI ((i:Int)+1)=((i+1:Nat):Int):=A2 (by omega) (by omega);obtain⟨o1,o2,o3⟩:=J.lo i (by omega);have hrl:=bu rt i;have hri:rt i<N:=by have:=(hf.Y0 i (by have:=J.l1;omega)).1;have:=J.l1;omega
  rw[DN Bj,AHb];unfold JB;simp only[AGW];rw[AHd (Bl (show i<l.length by omega))];cases hR:isR rt i with
  |false =>
   obtain⟨j,hj,ej⟩:=kD hR;have h1:=(J.sm j i (by omega) (by omega)).2 ej;have h2:=(J.lo j (by omega)).2.1;have qe:Cz rt (i+1)=Cz rt i:=by rw[Cz,AHe (by rw[hR];simp)]
   rw[show decide (l.getD i AIa.zero<(i:Int))=true from AG0 (show gI l i<(i:Int) by omega),AHb,AGV,hw];exact Ax.mk ⟨ns-(i+1),by omega,i+1,rfl,by omega,rfl,by simp only;rw[qe],rfl,rfl,rfl⟩
  |true =>
   have fH:=kC.1 hR;have V0:gI l i=(i:Int):=by
    rcases Int.lt_or_eq_of_le o2 with h |h
    ·exfalso
     have h3:=(J.sm (gI l i).toNat i (by omega) (by omega)).1 (by rw[o3]);exact fH _ (by omega) h3
    ·exact h
   have qe:Cz rt (i+1)=Cz rt i++[i]:=by rw[Cz,AHd hR]
   rw[show decide (l.getD i AIa.zero<(i:Int))=false from AGY (show ¬gI l i<(i:Int) by omega),AHa];have qc:Pl rt i i=[]:=by
    have:∀n,n<=i->Pl rt n i=[]:=λn=>by
     induction n with
     |zero=>intro _;rfl
     |succ n ih=>intro h;rw[Pl,AHe (fH n (by omega))];exact ih (by omega)
    exact this i (AG1 _)
   obtain⟨x,ex,hx⟩:Ax (JA (ns:Int) b (i:Int) c ((Cz rt i).map (cV rt fx v ns)) v k0 l (i:Int) []) (·=Pl rt ns i):=by
    unfold JA;refine B8 (λm (s:Int×AHT)=>∃k:Nat,s.1=(k:Int)/\i<=k/\k<=ns/\m=ns-k/\s.2=Pl rt k i) (λm s hI=>?_) (ns-i) ((i:Int),[]) ⟨i,rfl,AG1 _,hi,rfl,qc.symm⟩;obtain⟨k,q1,q2,q3,rfl,q4⟩:=hI;obtain⟨w,x⟩:=s;simp only at q1 q4;subst q1;subst q4;unfold HH Lz Jz;simp only;rcases AG6 k ns with hk |hk
    ·have fJ:wI ((k:Int)+1)=((k+1:Nat):Int):=A2 (by omega) (by omega);have vU:=kI rt i k;rw[DN hk,AHb];simp only[AGW];rw[AHd (Bl (show k<l.length by omega))];have hE:=J.sm k i (by omega) (by omega);rw[V0]at hE;by_cases e:rt k=rt i
     ·rw[show(l.getD k AIa.zero==(i:Int))=true from beq_iff_eq.2 (hE.2 e),AHb,AHd (by rw[AHf];omega),AGV,fJ];exact Ax.mk ⟨ns-(k+1),by omega,k+1,rfl,by omega,by omega,rfl,by rw[Pl,AHd e]⟩
     ·rw[show(l.getD k AIa.zero==(i:Int))=false from beq_eq_false_iff_ne.2 λh=>e (hE.1 h),AHa,AGV,fJ];exact Ax.mk ⟨ns-(k+1),by omega,k+1,rfl,by omega,by omega,rfl,by rw[Pl,AHe e]⟩
    ·have:k=ns:=by omega
     subst this;rw[EB,AHa];exact Ax.mk rfl
   subst hx;obtain⟨w1,f1,v1,rfl,F1⟩:=cP (rt:=rt) (ns:=ns) (vs:=v) (BK:=l) (by omega) (λi j hi hj=>J.sm i j (by omega) (by omega)) (λi hi=>J.wd i (by omega)) (by omega) (b:=i) (by omega) b k0;rw[ui]at F1;have aJ:v1=gI fx (rt i):=F1.uniq (J.fx_ _ hri (hf.pS i));rw[ex,AGV,f1,AGV];simp only;have e16:GH (ns:Int) b (i:Int) c ((Cz rt i).map (cV rt fx v ns)) (Pl rt ns i) v1 v k0 l=some (bif decide (gI fx (rt i)>=0)then(true,(gB v (gI fx (rt i)).toNat).1,(gB v (gI fx (rt i)).toNat).2.1)else(false,0,[])):=by
    unfold GH;rw[aJ];cases hd:decide (gI fx (rt i)>=0)with
    |false=>rfl
    |true =>
     have hd:gI fx (rt i)>=0:=of_decide_eq_true hd;rw[AHb,AHb];rw[aJ]at F1;have AFz:=F1.ge;have hbw:=(J.bw (gI fx (rt i)).toNat (by omega)).1;rw[AHd ⟨hd,by omega⟩];unfold Kd;rw[AHd (show(gB v (gI fx (rt i)).toNat).2.1.length*8<=140737488355328 by omega)];rfl
   rw[e16,AGV,AHd (by rw[AG7,AHf];omega),AGV,hw];refine Ax.mk ⟨ns-(i+1),by omega,i+1,rfl,by omega,rfl,?_,rfl,rfl,rfl⟩;simp only;rw[qe,List.map_append];congr 1;show[_]=[cV rt fx v ns i];unfold cV;cases decide (gI fx (rt i)>=0)<;>rfl
 ·have:i=ns:=by omega
  subst this;rw[EB,AHa];exact Ax.mk rfl
theorem YS{ns:Nat}(h:ns<=1000000):∃ld fx vs BK,IK (ns:Int)=some (0,ld,fx,[])/\QG (ns:Int)=some (0,vs,BK)/\JN ns ns ld fx [] [] vs BK (λa=>a):=by
 have hg:∀{i},i<ns->gI ((List.range ns).map Int.ofNat) i=(i:Int):=λ{i} hi=>Jx (g:=Int.ofNat) hi;refine⟨(List.range ns).map Int.ofNat,List.replicate ns (-1),List.replicate ns (0,[],()),(List.range ns).map Int.ofNat,?_,?_,?_⟩
 ·unfold IK Pb;have:=AQ (f:=DG (ns:Int)) (λk=>((k:Int),(List.range k).map Int.ofNat,List.replicate k (-1))) (t:=((List.range ns).map Int.ofNat,List.replicate ns (-1))) ns (λk hk=>?_) ?_
  ·exact(congrArg (λo=>Option.bind o λb=>some ((0:Int),b.1,b.2,([]:List (Int×AHM)))) this).trans rfl
  ·unfold DG Ip;simp only;rw[DN hk,AHb,AHd (by simp;omega),AHd (by simp;omega),A2 (n:=k+1) (by omega) (by omega),GD,List.replicate_succ'];rfl
  ·unfold DG Ip;simp only;rw[EB,AHa]
 ·unfold QG TU;rw[AHd ⟨rfl,by omega,Int.le_refl _,by omega,by omega⟩,AGW];have:=AQ (f:=Hh (ns:Int) (List.replicate ns (0,[],()))) (λk=>((k:Int),(List.range k).map Int.ofNat)) (t:=(List.range ns).map Int.ofNat) ns (λk hk=>?_) ?_
  ·exact(congrArg (λo=>Option.bind o λc=>some ((0:Int),(List.replicate ns (0,[],()):AH2),c)) this).trans rfl
  ·unfold Hh N9;simp only;rw[DN hk,AHb,AHd (by simp;omega),A2 (n:=k+1) (by omega) (by omega),GD];rfl
  ·unfold Hh N9;simp only;rw[EB,AHa]
 ·have hB:∀{i},i<ns->gB (List.replicate ns (0,[],())) i=(0,[],()):=λ{i} hi=>by simp[gB,List.getD,hi]
  refine⟨⟨λ_=>0,λa ha=>?_,λa ha=>?_,λ_ _=>rfl⟩,by simp,by simp,by simp,by simp,AG1 _,λi j hi hj=>?_,λi hi=>?_,λi hi=>?_,λi hi hn=>?_,λi hi=>?_,λi hi hr=>?_,λl hl=>?_,λi j hi hj h'=>?_⟩
  ·have ha:a<ns:=by simpa using ha
   exact⟨a,by simpa using ha,hg ha,rfl,.inl ⟨rfl,rfl⟩⟩
  ·have ha':a<ns:=by simpa using ha
   exact⟨ha,rfl,hg ha'⟩
  ·rw[hg hi,hg hj];omega
  ·rw[hg hi,AGW,hg hi];omega
  ·rw[hB hi];exact⟨λh'=>by exact absurd h' (by decide),λh'=>by omega⟩
  ·omega
  ·rw[hB hi];exact⟨by decide,by decide,λx hx=>by cases hx⟩
  ·refine .inl ⟨by simp[gI,List.getD,hi],λj h1 h2=>by omega⟩
  ·cases hl
  ·have:i=j:=h';subst this;exact .refl _
theorem AlC{rt:Nat->Nat}{fx:AHT}{vs:AH2}{ns:Nat}{x:AHP}(hx:x∈(Cz rt ns).map (cV rt fx vs ns)):∃j:Nat,j<ns/\gI x.1 0=(j:Int)/\0<x.1.length:=by
 obtain⟨a,ha,rfl⟩:=List.mem_map.1 hx;obtain⟨k,hk,e⟩:=List.mem_iff_getElem.1 ha;have Bj:=(R4 rt ns k hk).1;rw[show rp rt ns k=a by rw[<-e];simp[rp,List.getD,hk]]at Bj;have key:∀n,(∀y∈Pl rt n a,∃j:Nat,j<n/\y=(j:Int))/\(a<n->Pl rt n a≠[]):=λn=>by
  induction n with
  |zero=>exact⟨λy hy=>by simp[Pl]at hy,λh=>by omega⟩
  |succ n ih =>
   rw[Pl];by_cases e:rt n=rt a
   ·rw[AHd e];refine⟨λy hy=>?_,λ_=>by simp⟩;rcases List.mem_append.1 hy with hy |hy
    ·obtain⟨j,h1,h2⟩:=ih.1 y hy;exact⟨j,by omega,h2⟩
    ·rw[AHm]at hy;exact⟨n,by omega,hy⟩
   ·rw[AHe e];refine⟨λy hy=>?_,λh=>ih.2 ?_⟩
    ·obtain⟨j,h1,h2⟩:=ih.1 y hy;exact⟨j,by omega,h2⟩
    ·rcases AG6 a n with h' |h'
     ·exact h'
     ·exact(e (by rw[show a=n by omega])).elim
 have h1:=(key ns).2 Bj;show ∃j:Nat,j<ns/\gI (Pl rt ns a) 0=(j:Int)/\0<(Pl rt ns a).length;have BF:0<(Pl rt ns a).length:=by
  rcases AHj (Pl rt ns a).length with h |h
  ·exact(h1 (List.length_eq_zero_iff.1 h)).elim
  ·exact h
 obtain⟨j,h2,h3⟩:=(key ns).1 _ (AG (z :=AIa.zero) BF);exact⟨j,h2,h3,BF⟩
theorem qX{d:AHY}{l:AH0}{c:AH6}{f:Nat->Nat->Bool}(hd:AL d)(hl:∀x∈l,Tc x)(Vw:ML d l)(hs:FG d l)(hf:bK d l c f)(ec:Dt d l (c,())=some ((AY d f,()),true)) :
    ∃X Y,Ea 0 d l ((List.range l.length).map (MM d l)) (AY d f) (SL d (AY d f) d.length) (bg (SL d (AY d f) d.length) (SL d (AY d f) d.length).length)=some X/\GG d l (c,())=some (Y,true)/\Y.1=(AY d f,()) /\
     ((X.2.2.2.2.2.2.2≠[]/\Y.2.2.1≠[])\/(X.2.2.2.2.2.2.2=[]/\Y.2.2.1=[]/\X.2.2.2.2.1=SL d (AY d f) d.length/\X.2.2.2.2.2.2.1=Y.2.1/\Y.2.1.length<=(SL d (AY d f) d.length).length/\∀x∈Y.2.1,∃j:Nat,j<(SL d (AY d f) d.length).length/\gI x.1 0=(j:Int)/\0<x.1.length)):=by
 obtain⟨bh,hc⟩:=VN hd f;have bj:=hd.1;have bm:=Vw.1;have Iz:=bL hd bh d.length (AG1 _);obtain⟨ld,fx,vs,BK,e1,e2,J⟩:=YS (ns:=(SL d (AY d f) d.length).length) (by omega);obtain⟨x,y,ex,ey,hR⟩:=kG hd hl Vw hs hf.cl hf.Y0 0 0 ((SL d (AY d f) d.length).length:Int) 0 l.length 0 _ ld fx [] [] vs BK _ (by omega) J (by omega) (by simp;omega);have e0:((0:Nat):Int)=0:=rfl;rw[e0]at ex ey;unfold Ea GG;rw[e1,AGV,ec,AGV];simp only[Bool.not_true,AHa];rw[QT hd bh hc,AGV,e2,AGV];simp only;rw[ex,ey,AGV,AGV];rcases hR with ⟨w,z,rfl,rfl,n1,n2⟩|⟨dE,vM,xp,Ta,pV,Zx,rt',N',rfl,rfl,J',q1⟩
 ·simp only[Sum.elim_inl];exact⟨_,_,rfl,rfl,rfl,.inl ⟨n1,n2⟩⟩
 ·simp only[Sum.elim_inr];obtain⟨r,er,hr⟩:=jL J' q1 0;obtain⟨r',er',rfl⟩:=jM J' q1 0 (AY d f,());rw[er,er',AGV,AGV];exact⟨_,_,rfl,rfl,rfl,.inr ⟨rfl,rfl,rfl,hr,by rw[AG7];exact bu _ _,λx hx=>AlC hx⟩⟩
def Oc(l:AH0):AH0:=l.filter λx=>x.2.1
theorem eF{l:AH0}{k:Nat}(hk:k<l.length):Oc (l.take (k+1))=if(l.getD k Af.zero).2.1=true then Oc (l.take k)++[l.getD k Af.zero]else Oc (l.take k):=by
 have e:l.getD k Af.zero=l[k]:=by simp[List.getD,hk]
 unfold Oc;rw[List.take_succ_eq_append_getElem hk,List.filter_append,e];cases h:(l[k]).2.1 with
 |true=>rw[AHd rfl];simp[h]
 |false=>rw[AHe (by simp)];simp[h]
theorem tL(l:AH0)(k:Nat):(Oc (l.take k)).length<=k:=AHp (List.length_filter_le _ _) (by rw[AHg];omega)
theorem rK{l:AH0}(hl:l.length<=1048576):Ha l=some (Oc l):=by
 unfold Ha Oe;have:=AQ (f:=C5 l (l.length:Int)) (λk=>((k:Int),Oc (l.take k))) (t:=Oc l) l.length (λk hk=>?_) ?_
 ·exact(congrArg (λo=>Option.bind o λc=>some c) this).trans rfl
 ·unfold C5 Hq Ji;simp only[AGW];have h1:=tL l k;rw[DN hk,AHb,AHd (Bl hk),A2 (n:=k+1) (by omega) (by omega),eF hk];cases h:(l.getD k Af.zero).2.1 with
  |true=>rw[AHb,AHd (by rw[AHf];omega),AHd rfl];rfl
  |false=>rw[AHa,AHe (by simp)];rfl
 ·unfold C5 Hq;simp only[List.take_length];rw[EB,AHa]
theorem sw{l:AH0}(hl:l.length<=1048576):H7 l=some (Oc l):=by
 unfold H7 Qz;have:=AQ (f:=Em l) (λk=>((k:Int),Oc (l.take k))) (t:=Oc l) l.length (λk hk=>?_) ?_
 ·exact(congrArg (λo=>Option.bind o λc=>some c) this).trans rfl
 ·unfold Em JG Ml;simp only[AGW];have h1:=tL l k;rw[DN hk,AHb,AHd (Bl hk),A2 (n:=k+1) (by omega) (by omega),eF hk];cases h:(l.getD k Af.zero).2.1 with
  |true=>rw[AHb,AHd (Bl hk),AHd (by rw[AHf];omega),AHd rfl];rfl
  |false=>rw[AHa,AHe (by simp)];rfl
 ·unfold Em JG;simp only[List.take_length];rw[EB,AHa]
theorem oH{d:AHY}(hd:d.length<=1048576):OE d=some (List.replicate d.length []):=by
 unfold OE;rw[AHd ⟨rfl,by omega,Int.le_refl _,by omega,by omega⟩,AGW]
theorem pD{d:AHY}(hd:d.length<=1048576):LN d=some (List.replicate d.length []):=by
 unfold LN S6;have:=AQ (f:=Gn d) (λk=>((k:Int),List.replicate k [])) (t:=List.replicate d.length []) d.length (λk hk=>?_) ?_
 ·exact(congrArg (λo=>Option.bind o λc=>some c) this).trans rfl
 ·unfold Gn MG;simp only;rw[DN hk,AHb,AHd (by simp;omega),A2 (n:=k+1) (by omega) (by omega),List.replicate_succ']
 ·unfold Gn MG;simp only;rw[EB,AHa]
theorem wH{d:AHY}(hd:AL d):Er d (List.replicate d.length [])/\Vr (List.replicate d.length []):=by
 have bj:=hd.1;refine⟨⟨by simp,λv hv=>?_⟩,by simp;omega,λx hx=>?_⟩
 ·have:Cy (List.replicate d.length []) v=[]:=by unfold Cy;simp[List.getD,hv]
  rw[this];exact λi hi=>by simp at hi
 ·rw[(List.mem_replicate.1 hx).2];simp
theorem Amp{d:AHY}{l:AH0}(h:ML d l):∀{i j:Nat},i<j->j<l.length->XY l i<XY l j:=λ{i j} vQ hj=>by
 induction j with
 |zero=>omega
 |succ j ih =>
  have h1:=(h.2 (j+1) hj).2.1 (by omega);rw[AHy]at h1;by_cases e:i=j
  ·subst e;exact h1
  ·exact Int.lt_trans (ih (by omega) (by omega)) h1
theorem AaV{l:AH0}:∀(n:Nat),∃g:Nat->Nat,(∀i,i<(Oc (l.take n)).length->g i<n/\g i<l.length/\(Oc (l.take n)).getD i Af.zero=l.getD (g i) Af.zero)/\∀i j,i<j->j<(Oc (l.take n)).length->g i<g j
 |0=>⟨λi=>i,λi h=>by simp[Oc]at h,λi j _ h=>by simp[Oc]at h⟩
 |n+1=>by
  obtain⟨g,h1,h2⟩:=AaV (l:=l) n;by_cases hn:n<l.length
  ·rw[eF hn];split
   ·refine⟨λi=>if i<(Oc (l.take n)).length then g i else n,λi hi=>?_,λi j vQ hj=>?_⟩
    ·rw[AGZ,AHf]at hi;simp only;by_cases e:i<(Oc (l.take n)).length
     ·obtain⟨a1,a2,a3⟩:=h1 i e;rw[AHd e];exact⟨by omega,a2,by rw[<-a3];simp[List.getD,AHl,e]⟩
     ·have:i=(Oc (l.take n)).length:=by omega
      rw[AHe e];exact⟨by omega,hn,by subst this;simp[List.getD]⟩
    ·rw[AGZ,AHf]at hj;simp only;rw[AHd (by omega)];by_cases e:j<(Oc (l.take n)).length
     ·rw[AHd e];exact h2 i j vQ e
     ·rw[AHe e];exact(h1 i (by omega)).1
   ·exact⟨g,λi hi=>by obtain⟨a1,a2,a3⟩:=h1 i hi;exact⟨by omega,a2,a3⟩,h2⟩
  ·rw[AG5 (by omega)]at h1 h2⊢;exact⟨g,λi hi=>by obtain⟨a1,a2,a3⟩:=h1 i hi;exact⟨by omega,a2,a3⟩,h2⟩
theorem AaW{d:AHY}{l:AH0}(Vw:ML d l)(hs:FG d l):ML d (Oc l)/\FG d (Oc l):=by
 obtain⟨g,h1,h2⟩:=AaV (l:=l) l.length;rw[List.take_length]at h1 h2;have bm:=Vw.1;have R8:(Oc l).length<=l.length:=List.length_filter_le _ _;have eI:∀i,i<(Oc l).length->XY (Oc l) i=XY l (g i)/\lS (Oc l) i=lS l (g i)/\lT (Oc l) i=lT l (g i):=λi hi=>by
  have:=(h1 i hi).2.2;unfold XY lS lT li;rw[this];exact⟨rfl,rfl,rfl⟩
 refine⟨⟨by omega,λi hi=>?_⟩,λi hi=>?_⟩
 ·obtain⟨a1,a2,a3⟩:=eI i hi;obtain⟨b1,b2,b3,b4⟩:=Vw.2 (g i) (h1 i hi).2.1;refine⟨by rw[a1];exact b1,λh0=>?_,by rw[a2];exact b3,by rw[a2,a3];exact b4⟩;rw[a1,(eI (i-1) (by omega)).1];exact Amp Vw (h2 (i-1) i (by omega) hi) (h1 i hi).2.1
 ·obtain⟨a1,a2,a3⟩:=eI i hi;have:=hs (g i) (h1 i hi).2.1;unfold bP at this⊢;rw[a2,a3];exact this
theorem Adn{L:AH4}{S:AHX}(hL:L.length<=1048576)(h:∀x∈L,∃j:Nat,j<S.length/\gI x.1 0=(j:Int)/\0<x.1.length)(b:AHY)(c:AH0)(e:List ma)(g:AH6)(q:List (AHG×Int))(B:Ca.V)(hB:B.2.1=L) :
    ∀(m k:Nat) (s:Int),k+m=L.length->∃r,IE (L.length:Int) b c L e g S q s (k:Int)=some r/\IY S B s (k:Int)=some r
 |0,k,s,hk=>by
  have:k=L.length:=by omega
  subst this;refine⟨s,?_,?_⟩
  ·unfold IE;refine Ix ?_;unfold Gx Jg;simp only;rw[EB,AHa]
  ·unfold IY;refine Ix ?_;unfold GI JD;simp only;rw[hB,EB,AHa]
 |m+1,k,s,hk=>by
  have Bj:k<L.length:=by omega
  have hw:wI ((k:Int)+1)=((k+1:Nat):Int):=A2 (by omega) (by omega);obtain⟨j,h1,h2,h3⟩:=h _ (AG (z :=Ao.zero) Bj);have h2':(L.getD k Ao.zero).1.getD 0 AIa.zero=(j:Int):=h2;obtain⟨s',e1,e2⟩:∃s',ID s (L.length:Int) (k:Int) b c L e g S q=some s'/\IX S s (k:Int) B=some s':=by
   unfold ID IX;rw[hB];simp only[AGW];rw[AHd (Bl Bj),AHd (Bl Bj),h2',AHd (Bl Bj)];cases (L.getD k Ao.zero).2.1 with
   |true=>exact⟨s,rfl,rfl⟩
   |false =>
    simp only[Bool.not_false,AHb,AGW];rw[AHd (show(0:Int)<=0/\(0:Int)<((L.getD k Ao.zero).1.length:Int) by omega),AHd (Bl h1)];exact⟨_,rfl,rfl⟩
  obtain⟨r,r1,r2⟩:=Adn hL h b c e g q B hB m (k+1) s' (by omega);refine⟨r,?_,?_⟩
  ·rw[<-r1];unfold IE;refine Li ?_;unfold Gx Jg;simp only;rw[DN Bj,AHb,e1,AGV,hw]
  ·rw[<-r2];unfold IY;refine Li ?_;unfold GI JD;simp only;rw[show decide ((k:Int)<(B.2.1.length:Int))=true by rw[hB];exact DN Bj,AHb,e2,AGV,hw]
theorem nN{d:AHY}{l:AH0}(bj:d.length<=1048576)(bm:l.length<=1048576)(hl:∀x∈l,Tc x):∃r,Kn d l=some r/\Ke d l=some r:=by
 have RX:∀x∈Oc l,Tc x:=λx hx=>hl x (List.mem_filter.1 hx).1;obtain⟨r1,e1,q1⟩:=Wd (d:=d) hl;obtain⟨r2,e2,q2⟩:=oE (d:=d) hl;have hr:r1=r2:=by rw[Bool.eq_iff_iff,q1,q2]
 subst hr;unfold Kn Ke Pv Hs;rw[e1,e2,AGV,AGV];cases r1 with
 |false=>exact⟨-1,rfl,rfl⟩
 |true =>
  obtain⟨hd,Vw⟩:=q1.1 rfl;have AFy:=Vw.1;simp only[Bool.not_true,AHa];obtain⟨r3,e3,q3⟩:=Xf hd hl Vw.1;obtain⟨r4,e4,q4⟩:=TK hd hl Vw;rw[e3,e4,AGV,AGV];rcases q3 with ⟨f1,hs,_⟩|⟨f1,hns⟩
  ·rcases q4 with ⟨f2,_,_⟩|⟨f2,hns⟩
   ·obtain⟨Al6,dk⟩:=AaW Vw hs;obtain⟨bh,hcb⟩:=wH hd;obtain⟨rc,ec,himp,RN⟩:=ng (d:=d) (l:=Oc l) hcb RX;rcases RN with ⟨_,Vx⟩|⟨_,_,_,_,f,rfl,hf⟩
    ·exact(Vx ⟨hd,bh,Al6,dk⟩).elim
    obtain⟨X,Y,eX,eY,hY,hR⟩:=qX hd RX Al6 dk hf ec;obtain⟨AlP,Awq⟩:=VN hd f;have Iz:=bL hd AlP d.length (AG1 _);have AFh:=hd.1;obtain⟨v5,ev5,hv5⟩:=TK hd RX Al6;have AAX:v5.2=(List.range (Oc l).length).map (MM d (Oc l)):=by
     rcases hv5 with ⟨_,_,h⟩|⟨_,h⟩
     ·exact h
     ·exact(h dk).elim
    rw[f1,f2];simp only[Bool.not_true,AHa,AGV];rw[sw bm,rK bm,AGV,AGV,AGV,pD bj,oH bj,AGV,AGV,AGV];rw[eY,himp,ev5,AGV,AGV,AGV];simp only[Bool.not_true,AHa];rw[AGV,fM hd AlP Awq,AGV,vJ (by omega),AGV,AAX,eX,AGV];rw[hY];rw[QT hd AlP Awq];rcases hR with ⟨n1,n2⟩|⟨n1,n2,n3,n4,n5,n6⟩
    ·have p1:decide ((X.2.2.2.2.2.2.2.length:Int)>0)=true:=AG0 (by
       rcases AHj X.2.2.2.2.2.2.2.length with h |h
       ·exact(n1 (List.length_eq_zero_iff.1 h)).elim
       ·omega)
     have p2:decide ((Y.2.2.1.length:Int)>0)=true:=AG0 (by
      rcases AHj Y.2.2.1.length with h |h
      ·exact(n2 (List.length_eq_zero_iff.1 h)).elim
      ·omega)
     rw[p1,p2];exact⟨-1,rfl,rfl⟩
    ·rw[n1,n2,n3,n4];have p1:decide ((([]:AHT).length:Int)>0)=false:=rfl;rw[p1];obtain⟨r,r5,r6⟩:=Adn (L:=Y.2.1) (S:=SL d (AY d f) d.length) (by omega) n6 X.1 X.2.1 X.2.2.1 X.2.2.2.1 X.2.2.2.2.2.1 Y rfl Y.2.1.length 0 0 (by omega);have e0:((0:Nat):Int)=0:=rfl;rw[e0]at r5 r6;simp only[AHa,AGV,bne_self_eq_false];rw[r5,r6];exact⟨r,rfl,rfl⟩
   ·exact(hns hs).elim
  ·rcases q4 with ⟨f2,hs,_⟩|⟨f2,_⟩
   ·exact(hns hs).elim
   ·rw[f1,f2];exact⟨-1,rfl,rfl⟩
theorem law_ok(n:AHY)(o:AH0)(hn:Ty.Wf (.sl Ad) n)(ho:Ty.Wf (.sl Af) o):Hu n o=some true:=by
 unfold Hu;rw[sD hn 1048576 (by omega) (by omega),AGV];generalize h1:wt (.sl Ad) n=w1 at *;by_cases c1:(w1:Int)<=1048576
 case neg=>rw[AHe c1];rfl
 rw[AHd c1,AGY (by omega),AHa,gj ho _ (by omega) (by omega),AGV];generalize h2:wt (.sl Af) o=w2 at *;by_cases c2:(w2:Int)<=1048576-(w1:Int)
 case neg=>rw[AHe c2];rfl
 rw[AHd c2,AGY (by omega),AHa];have ln:n.length<=1048576:=by have:=sN (t:=Ad) n;omega
 have lo:o.length<=1048576:=by have:=sN (t:=Af) o;omega
 have bo:∀x∈o,Tc x:=λx hx=>Axn (ho.2 x hx) (by have:=AdB (t:=Af) hx;omega);have tn:=sI ln;have to':=gk lo bo;obtain⟨r,r1,r2⟩:=nN (d:=n) (l:=o) ln lo bo;simp only[tn,to',r1,r2,AGV,Bool.not_true,AHa,bne_self_eq_false,bf (ri hn),bf (fy ho)]
end Go.Proofs.X
