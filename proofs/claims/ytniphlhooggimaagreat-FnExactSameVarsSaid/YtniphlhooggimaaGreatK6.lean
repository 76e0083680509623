import Derived.KernelRfl
import Derived.Test.YtniphlhooggimaaGreatK5
set_option linter.unusedVariables false
set_option linter.unusedSimpArgs false
namespace Go.Proofs.X
open Go Go.Va Go.Proofs.Tryz
set_option maxRecDepth 100000
noncomputable section
abbrev Sk:=eN [(161,AkH),(162,AEW),(163,AEX)] {Av:=false,A4:=[(1,{Bc:=[0,1,2,18,19,20],mvp:=[(0,[3])]}),(9,{Bc:=[0,8,9,10],Sp:=[(8,false,ATu),(9,false,ATu)]})],BD:=[(1,[0,1,2]),(9,{Bc:=[]})],BR:=[(6,{Bc:=[0,1,2,18,19,20],mvp:=[(0,[3])]}),(10,[0,8,9,10]),(13,[0,8,9,10,11,12,61]),(15,[0,8,9,10,11,12,76]),(17,[0,8,9,10,11,12,91])],ao:=[(11,{Bc:=[0,8,9,10,11,12],Yp:=true}),(17,{Bc:=[0,8,9,10,13,14],Yp:=true}),(18,{Bc:=[0,8,9,10,13,14],Yp:=true}),(19,{Bc:=[0,8,9,10],Yp:=true})],DR:=[(6,[0,1,2,18,19,20]),(10,[0,8,9,10]),(13,[0,8,9,10,11,12]),(15,[0,8,9,10,11,12]),(17,[0,8,9,10,11,12])],cO:=[(11,[0,8,9,10]),(17,[0,8,9,10,11,12]),(18,[0,8,9,10,13,14]),(19,[0,8,9,10,13,14])],ig:=[(17,ATz)]}
def Akm(a:Int) b c d (z_:Int×ASw×ASH×AS9×ASv):=sT 132 (xo a b c z_.1) (mf z_.2.1 d z_.2.2.1 z_.2.2.2.1 z_.2.2.2.2)
def Akk(a:Int)(b c:ASx) d:=λ(e:ATh)=>xE 2 132 [] (mf e.1 d e.2.1 e.2.2.1 e.2.2.2)
def Akl(a:Int) b c g i d j (k:AS9) l:=sT 132 (xo a b c g) (mf i d j k l)
def Akj(a:Int) b c g (i:ASw) d (j:ASH) (k:AS9) (l:ASv):=λ(n:ATh)=>xN 132 (xo a b c g) (mf n.1 d n.2.1 n.2.2.1 n.2.2.2)
def AeV(a:Int) b c g i d j (o:AS9) l q s t u:=sT 132 (AbZ a b c g) (Ab0 i d j o q s t u l)
def yc(a:Int) b c g i d j (o:AS9) l (q:Int) (s:Int) (t:Int) (u:Int):=λ(v:AS9)=>sT 132 (xo a b c g) (mf i d j v l)
def Eb(a:Int)(b c:ASx)(g:Int)(i:ASw)(d:ATg)(j:ASH)(o:AS9)(l:ASv)(q s t u:Int):ATC AS9:=
 if((Bv Aa ATp o (t,u,())).length+([(q,s,())]:ASv).length)*16<=140737488355328 then
 bif W2 Aa ATp (Cf Aa ATp o (t,u,()) (Bv Aa ATp o (t,u,()))) (t,u,()) (Yo Aa ATp o (t,u,()))then
 bif Bf Aa (t,u,()) (t,u,())then
 some (Cf Aa ATp (Cf Aa ATp o (t,u,()) (Bv Aa ATp o (t,u,()))) (t,u,()) ((Bv Aa ATp o (t,u,()))++([(q,s,())]:ASv)))
 else
 none
 else
 none
 else none
noncomputable def yp(a:Int)(b c:ASx)(g:Int)(i:ASw)(d:ATg)(j:ASH)(o:AS9)(l:ASv)(q s t u:Int):ATC Unit:=if((Bv Aa ATp o (t,u,())).length+([(q,s,())]:ASv).length)*16<=140737488355328 then bif W2 Aa ATp (Cf Aa ATp o (t,u,()) (Bv Aa ATp o (t,u,()))) (t,u,()) (Yo Aa ATp o (t,u,()))then bif Bf Aa (t,u,()) (t,u,())then Ja (yc a b c g i d j o l q s t u (Cf Aa ATp (Cf Aa ATp o (t,u,()) (Bv Aa ATp o (t,u,()))) (t,u,()) ((Bv Aa ATp o (t,u,()))++([(q,s,())]:ASv))))else none else none else none
theorem Atd(a:Int)(b c:ASx)(g:Int)(i:ASw)(d:ATg)(j:ASH)(o:AS9)(l:ASv)(q s t u:Int):Sj Sk 5 19 (sb (cd f140 60) 6) 2811 (AeV a b c g i d j o l q s t u) (Eb a b c g i d j o l q s t u) (yc a b c g i d j o l q s t u):=by
 unfold Sj;have h:yI Sk 5 19 (sb (cd f140 60) 6) (pt 2811) (AeV a b c g i d j o l q s t u) =
 if((Bv Aa ATp o (t,u,())).length+([(q,s,())]:ASv).length)*16<=140737488355328 then bif W2 Aa ATp (Cf Aa ATp o (t,u,()) (Bv Aa ATp o (t,u,()))) (t,u,()) (Yo Aa ATp o (t,u,()))then bif Bf Aa (t,u,()) (t,u,())then(((yp a b c g i d j o l q s t u).bind λ_=>yp a b c g i d j o l q s t u).bind λ_=>some (yc a b c g i d j o l q s t u (Cf Aa ATp (Cf Aa ATp o (t,u,()) (Bv Aa ATp o (t,u,()))) (t,u,()) ((Bv Aa ATp o (t,u,()))++([(q,s,())]:ASv)))))else none else none else none:=by kernel_rfl
 rw[h];unfold Eb;simp only[ASb,mS,mO];clear h;by_cases Gb:((Bv Aa ATp o (t,u,())).length+([(q,s,())]:ASv).length)*16<=140737488355328
 ·rw[AQe Gb,AQe Gb];cases Pp:(W2 Aa ATp (Cf Aa ATp o (t,u,()) (Bv Aa ATp o (t,u,()))) (t,u,()) (Yo Aa ATp o (t,u,())))with
  |true =>
   simp only[AQc];cases xG:(Bf Aa (t,u,()) (t,u,()))with
   |true =>
    simp only[AQc];simp only[yp,AQc,AQe Gb,Pp,xG,AQJ,APW,Ja,GX]
   |false =>
    simp only[AQb]
    all_goals first |rfl |simp
  |false =>
   simp only[AQb]
   all_goals first |rfl |simp
 ·simp only[AQJ,AQf Gb]
def AeU(a:Int) b c g i d j (k:AS9) l w x y a1:=sT 132 (AbZ a b c g) (Ab0 i d j k w x y a1 l)
def yb(a:Int) b c g i d j (k:AS9) l w x y a1:=λ(o:AS9)=>sT 132 (AbZ a b c g) (Ab0 i d j o w x y a1 l)
def Ea(a:Int)(b c:ASx)(g:Int)(i:ASw)(d:ATg)(j:ASH)(k:AS9)(l:ASv)(w x y a1:Int):ATC AS9:=
 if((Bv Aa ATp k (w,x,())).length+([(y,a1,())]:ASv).length)*16<=140737488355328 then
 bif W2 Aa ATp (Cf Aa ATp k (w,x,()) (Bv Aa ATp k (w,x,()))) (w,x,()) (Yo Aa ATp k (w,x,()))then
 bif Bf Aa (w,x,()) (w,x,())then
 some (Cf Aa ATp (Cf Aa ATp k (w,x,()) (Bv Aa ATp k (w,x,()))) (w,x,()) ((Bv Aa ATp k (w,x,()))++([(y,a1,())]:ASv)))
 else
 none
 else
 none
 else none
noncomputable def yo(a:Int)(b c:ASx)(g:Int)(i:ASw)(d:ATg)(j:ASH)(k:AS9)(l:ASv)(w x y a1:Int):ATC Unit:=if((Bv Aa ATp k (w,x,())).length+([(y,a1,())]:ASv).length)*16<=140737488355328 then bif W2 Aa ATp (Cf Aa ATp k (w,x,()) (Bv Aa ATp k (w,x,()))) (w,x,()) (Yo Aa ATp k (w,x,()))then bif Bf Aa (w,x,()) (w,x,())then Ja (yb a b c g i d j k l w x y a1 (Cf Aa ATp (Cf Aa ATp k (w,x,()) (Bv Aa ATp k (w,x,()))) (w,x,()) ((Bv Aa ATp k (w,x,()))++([(y,a1,())]:ASv))))else none else none else none
theorem Atc(a:Int)(b c:ASx)(g:Int)(i:ASw)(d:ATg)(j:ASH)(k:AS9)(l:ASv)(w x y a1:Int):Sj Sk 5 18 (sb (cd f140 60) 6) 2810 (AeU a b c g i d j k l w x y a1) (Ea a b c g i d j k l w x y a1) (yb a b c g i d j k l w x y a1):=by
 unfold Sj;have h:yI Sk 5 18 (sb (cd f140 60) 6) (pt 2810) (AeU a b c g i d j k l w x y a1) =
 if((Bv Aa ATp k (w,x,())).length+([(y,a1,())]:ASv).length)*16<=140737488355328 then bif W2 Aa ATp (Cf Aa ATp k (w,x,()) (Bv Aa ATp k (w,x,()))) (w,x,()) (Yo Aa ATp k (w,x,()))then bif Bf Aa (w,x,()) (w,x,())then(((yo a b c g i d j k l w x y a1).bind λ_=>yo a b c g i d j k l w x y a1).bind λ_=>some (yb a b c g i d j k l w x y a1 (Cf Aa ATp (Cf Aa ATp k (w,x,()) (Bv Aa ATp k (w,x,()))) (w,x,()) ((Bv Aa ATp k (w,x,()))++([(y,a1,())]:ASv)))))else none else none else none:=by kernel_rfl
 rw[h];unfold Ea;simp only[ASb,mS,mO];clear h;by_cases Gb:((Bv Aa ATp k (w,x,())).length+([(y,a1,())]:ASv).length)*16<=140737488355328
 ·rw[AQe Gb,AQe Gb];cases Pp:(W2 Aa ATp (Cf Aa ATp k (w,x,()) (Bv Aa ATp k (w,x,()))) (w,x,()) (Yo Aa ATp k (w,x,())))with
  |true =>
   simp only[AQc];cases xG:(Bf Aa (w,x,()) (w,x,()))with
   |true =>
    simp only[AQc];simp only[yo,AQc,AQe Gb,Pp,xG,AQJ,APW,Ja,GX]
   |false =>
    simp only[AQb]
    all_goals first |rfl |simp
  |false =>
   simp only[AQb]
   all_goals first |rfl |simp
 ·simp only[AQJ,AQf Gb]
def AeT(a:Int) b c g i d j (k:AS9) l b1 c1:=sT 132 (xp a b c g) [.box (.pr (Ar i) eA),C8 d,Ca j,HE k none,.Ba,.box (EA b1),.box (EA c1),Fv l]
def qf(a:Int) b c g i d j (k:AS9) l (b1:ASg) (c1:ASg):=λ(d1:(Int×Int×Int×Int))=>sT 132 (AbZ a b c g) (Ab0 i d j k d1.1 d1.2.1 d1.2.2.1 d1.2.2.2 l)
def OE(a:Int)(b c:ASx)(g:Int)(i:ASw)(d:ATg)(j:ASH)(k:AS9)(l:ASv)(b1 c1:ASg):ATC (Int×Int×Int×Int):=
 some (b1.2.1,b1.2.2.1,c1.2.1,c1.2.2.1)
theorem Atb(a:Int)(b c:ASx)(g:Int)(i:ASw)(d:ATg)(j:ASH)(k:AS9)(l:ASv)(b1 c1:ASg):Sj Sk 5 17 (sb (cd f140 60) 6) 1404 (AeT a b c g i d j k l b1 c1) (OE a b c g i d j k l b1 c1) (qf a b c g i d j k l b1 c1):=by
 unfold Sj;have h:yI Sk 5 17 (sb (cd f140 60) 6) (pt 1404) (AeT a b c g i d j k l b1 c1) =
 (((Ja (qf a b c g i d j k l b1 c1 (b1.2.1,b1.2.2.1,c1.2.1,c1.2.2.1))).bind λ_=>Ja (qf a b c g i d j k l b1 c1 (b1.2.1,b1.2.2.1,c1.2.1,c1.2.2.1))).bind λ_=>some (qf a b c g i d j k l b1 c1 (b1.2.1,b1.2.2.1,c1.2.1,c1.2.2.1))):=by kernel_rfl
 rw[h];unfold OE;simp only[ASb,mS,mO];clear h;simp only[AQJ,APW,Ja,GX]
def AeS(a:Int) b c g i d j (k:AS9) l:=sT 132 (xp a b c g) [.box (.pr (Ar i) eA),C8 d,Ca j,HE k none,.Ba,.box (EA (b.getD g.toNat Ad.zero)),.box (EA (c.getD g.toNat Ad.zero)),Fv l]
def ya(a:Int)(b c:ASx)(g:Int)(i:ASw)(d:ATg)(j:ASH)(k:AS9)(l:ASv)(m0:Bool):Ex×St:=xN 132 [(0,.ptr 0 a [] 0),(8,Ga b),(9,Ga c),(10,dI g),(11,Qs),(12,X6),(91,dB m0)] [.box (.pr (Ar i) eA),C8 d,Ca j,HE k none,.Ba,.box (EA (b.getD g.toNat Ad.zero)),.box (EA (c.getD g.toNat Ad.zero)),Fv l]
theorem Ata a b c g i d j k l:Za Sk 5 17 (sb (cd f140 60) 6) (pt 350) (AeS a b c g i d j k l)=some (ya a b c g i d j k l (((b.getD g.toNat Ad.zero).1==1)&&((c.getD g.toNat Ad.zero).1==1))):=by
 refine .trans (b:=
 bif (b.getD g.toNat Ad.zero).1==1 then
 some (ya a b c g i d j k l ((c.getD g.toNat Ad.zero).1==1))
 else
 some (ya a b c g i d j k l false)) (by kernel_rfl) ?_
 cases ((b.getD g.toNat Ad.zero).1==1);rfl;rfl
def AeR(a:Int) b c g i d j (k:AS9) l:=sT 132 (xp a b c g) [.box (.pr (Ar i) eA),C8 d,Ca j,HE k none,.Ba,.box (EA (b.getD g.toNat Ad.zero)),.box (EA (c.getD g.toNat Ad.zero)),Fv l]
def x9(a:Int)(b c:ASx)(g:Int)(i:ASw)(d:ATg)(j:ASH)(k:AS9)(l:ASv)(m0:Bool):Ex×St:=xN 132 [(0,.ptr 0 a [] 0),(8,Ga b),(9,Ga c),(10,dI g),(11,Qs),(12,X6),(76,dB m0)] [.box (.pr (Ar i) eA),C8 d,Ca j,HE k none,.Ba,.box (EA (b.getD g.toNat Ad.zero)),.box (EA (c.getD g.toNat Ad.zero)),Fv l]
theorem As9 a b c g i d j k l:Za Sk 5 15 (sb (cd f140 60) 6) (pt 86) (AeR a b c g i d j k l)=some (x9 a b c g i d j k l (((b.getD g.toNat Ad.zero).1==1)&&((c.getD g.toNat Ad.zero).1==0))):=by
 refine .trans (b:=
 bif (b.getD g.toNat Ad.zero).1==1 then
 some (x9 a b c g i d j k l ((c.getD g.toNat Ad.zero).1==0))
 else
 some (x9 a b c g i d j k l false)) (by kernel_rfl) ?_
 cases ((b.getD g.toNat Ad.zero).1==1);rfl;rfl
def AeQ(a:Int) b c g i d j (k:AS9) l:=sT 132 (xp a b c g) [.box (.pr (Ar i) eA),C8 d,Ca j,HE k none,.Ba,.box (EA (b.getD g.toNat Ad.zero)),.box (EA (c.getD g.toNat Ad.zero)),Fv l]
def x8(a:Int)(b c:ASx)(g:Int)(i:ASw)(d:ATg)(j:ASH)(k:AS9)(l:ASv)(m0:Bool):Ex×St:=xN 132 [(0,.ptr 0 a [] 0),(8,Ga b),(9,Ga c),(10,dI g),(11,Qs),(12,X6),(61,dB m0)] [.box (.pr (Ar i) eA),C8 d,Ca j,HE k none,.Ba,.box (EA (b.getD g.toNat Ad.zero)),.box (EA (c.getD g.toNat Ad.zero)),Fv l]
theorem As8 a b c g i d j k l:Za Sk 5 13 (sb (cd f140 60) 6) (pt 20) (AeQ a b c g i d j k l)=some (x8 a b c g i d j k l (((b.getD g.toNat Ad.zero).1==0)&&((c.getD g.toNat Ad.zero).1==1))):=by
 refine .trans (b:=
 bif (b.getD g.toNat Ad.zero).1==0 then
 some (x8 a b c g i d j k l ((c.getD g.toNat Ad.zero).1==1))
 else
 some (x8 a b c g i d j k l false)) (by kernel_rfl) ?_
 cases ((b.getD g.toNat Ad.zero).1==0);rfl;rfl
def AeP(a:Int) b c g i d j (k:AS9) l:=sT 132 (xo a b c g) (mf i d j k l)
def x7(a:Int) b c g i d j (k:AS9) l:=λ(e1:Unit)=>sT 132 (xp a b c g) [.box (.pr (Ar i) eA),C8 d,Ca j,HE k none,.Ba,.box (EA (b.getD g.toNat Ad.zero)),.box (EA (c.getD g.toNat Ad.zero)),Fv l]
def Jh(a:Int)(b c:ASx)(g:Int)(i:ASw)(d:ATg)(j:ASH)(k:AS9)(l:ASv):ATC Unit:=
 if 0<=g/\g<b.length then
 if 0<=g/\g<c.length then
 some ()
 else none
 else none
noncomputable def Gn(a:Int)(b c:ASx)(g:Int)(i:ASw)(d:ATg)(j:ASH)(k:AS9)(l:ASv):ATC Unit:=Ja (x7 a b c g i d j k l ())
def Tm(w:ATC Unit):ATC Unit:=cc w w
theorem As7(a:Int)(b c:ASx)(g:Int)(i:ASw)(d:ATg)(j:ASH)(k:AS9)(l:ASv):Sj Sk 5 11 (sb (cd f140 60) 6) 4 (AeP a b c g i d j k l) (Jh a b c g i d j k l) (x7 a b c g i d j k l):=by
 unfold Sj;have h:yI Sk 5 11 (sb (cd f140 60) 6) (pt 4) (AeP a b c g i d j k l) =
 if 0<=g/\g<b.length then if 0<=g/\g<c.length then((if 0<=g/\g<b.length then if 0<=g/\g<c.length then((Tm (Gn a b c g i d j k l)).bind λ_=>((Gn a b c g i d j k l).bind λ_=>(Gn a b c g i d j k l).bind λ_=>(Gn a b c g i d j k l)).bind λ_=>(Gn a b c g i d j k l).bind λ_=>(Gn a b c g i d j k l).bind λ_=>(Gn a b c g i d j k l)).bind λ_=>((Tm (Gn a b c g i d j k l)).bind λ_=>(Tm (Gn a b c g i d j k l)).bind λ_=>(Gn a b c g i d j k l).bind λ_=>(Gn a b c g i d j k l)).bind λ_=>(((Gn a b c g i d j k l).bind λ_=>(Gn a b c g i d j k l).bind λ_=>(Gn a b c g i d j k l)).bind λ_=>(Tm (Gn a b c g i d j k l)).bind λ_=>(Tm (Gn a b c g i d j k l)).bind λ_=>(Gn a b c g i d j k l)).bind λ_=>((Gn a b c g i d j k l).bind λ_=>(Gn a b c g i d j k l).bind λ_=>(Gn a b c g i d j k l)).bind λ_=>(Tm (Gn a b c g i d j k l)).bind λ_=>(Tm (Gn a b c g i d j k l)).bind λ_=>(Gn a b c g i d j k l)else none else none).bind λ_=>some (x7 a b c g i d j k l ()))else none else none:=by kernel_rfl
 rw[h];unfold Jh;simp only[ASb,mS,mO];clear h;by_cases Gb:(0:Int)<=g/\g<(b.length:Int)
 ·rw[AQe Gb,AQe Gb];by_cases Pp:(0:Int)<=g/\g<(c.length:Int)
  ·rw[AQe Pp,AQe Pp];simp only[Tm,cc,Gn,AQc,AQe Gb,AQe Pp,AQJ,APW,Ja,GX]
  ·simp only[AQe Gb,AQJ,AQf Pp]
 ·simp only[AQJ,AQf Gb]
def Fp(a:Int)(b c:ASx)(g:Int)(i:ASw)(d:ATg)(j:ASH)(k:AS9)(l:ASv):ATC ATh:=
 (Jh a b c g i d j k l).bind λe1=>R3 (AeQ a b c g i d j k l) (
 bif ((b.getD g.toNat Ad.zero).1==0)&&((c.getD g.toNat Ad.zero).1==1)then
 (BN a (c.getD g.toNat Ad.zero).2.1 (c.getD g.toNat Ad.zero).2.2.1 i j l).bind λg1=>some (g1.1,g1.2.1,k,g1.2.2)
 else
 R3 (AeR a b c g i d j k l) (
 bif ((b.getD g.toNat Ad.zero).1==1)&&((c.getD g.toNat Ad.zero).1==0)then
 (BN a (b.getD g.toNat Ad.zero).2.1 (b.getD g.toNat Ad.zero).2.2.1 i j l).bind λi1=>some (i1.1,i1.2.1,k,i1.2.2)
 else
 R3 (AeS a b c g i d j k l) (
 bif ((b.getD g.toNat Ad.zero).1==1)&&((c.getD g.toNat Ad.zero).1==1)then
 (OE a b c g i d j k l (b.getD g.toNat Ad.zero) (c.getD g.toNat Ad.zero)).bind λd1=>(Ea a b c g i d j k l d1.1 d1.2.1 d1.2.2.1 d1.2.2.2).bind λo=>(Eb a b c g i d j o l d1.1 d1.2.1 d1.2.2.1 d1.2.2.2).bind λv=>some (i,j,v,l)
 else
 some (i,j,k,l))))
theorem Akn a b c g i d j k l:AP Sk 5 10 (cd f140 60) 6 (Akl a b c g i d j k l) (Fp a b c g i d j k l) (Akj a b c g i d j k l):=by
 unfold AP;simp(disch:=refine id ?_;kernel_rfl) only[Fp,ASb,W1 (As7 ..) (K:=Ud Sk 5 10),GN (As8 ..) (K:=Ud Sk 5 10),GN (As9 ..) (K:=Ud Sk 5 10),GN (Ata ..) (K:=Ud Sk 5 10),W1 (Atb ..) (K:=Ud Sk 5 10),W1 (Atc ..) (K:=Ud Sk 5 10),W1 (Atd ..) (K:=Ud Sk 5 10)];kernel_rfl
def Gu(a:Int)(b c:ASx)(d:ATg)(g:Int)(i:ASw)(j:ASH)(k:AS9)(l:ASv):ATC ((Int×ASw×ASH×AS9×ASv)⊕ATh):=
 bif decide (g<(b.length:Int))then
 (Fp a b c g i d j k l).bind λn=>some (.inl (wI (g+1),n.1,n.2.1,n.2.2.1,n.2.2.2))
 else
 some (.inr (i,j,k,l))
def CW a b c d (z_:Int×ASw×ASH×AS9×ASv):=Gu a b c d z_.1 z_.2.1 z_.2.2.1 z_.2.2.2.1 z_.2.2.2.2
def MX a b c d g i j k l:=fix (CW a b c d) (g,i,j,k,l)
theorem Ako a b c d:A3 Sk 5 9 (code f140) 30 (Akm a b c d) (CW a b c d) (Akk a b c d):=by
 intro _;simp(disch:=refine id ?_;kernel_rfl) only[CW,Gu,ASb,A8 (Akn ..) (K:=Kk Sk 5 9)];kernel_rfl
def Are(a:Int) j1 k1 d (l1:AS9) n1 o1 (z_:Int×ASw×ASH×ASv):=sT 132 (AjL a j1 k1 o1 z_.1) (AjM z_.2.1 d z_.2.2.1 l1 n1 z_.2.2.2)
def Apo(a:Int) j1 k1 d (l1:AS9) (n1:ASz) (o1:Int):=λ(q1:ASS)=>xE 0 132 [(0,.ptr 0 a [] 0),(1,.AA [1] ATq j1),(2,.AA [1] ATq k1)] (mf q1.1 d q1.2.1 l1 q1.2.2)
def Ard(a:Int) j1 k1 o1 s1 t1 d u1 (l1:AS9) n1 v1:=sT 132 (AjL a j1 k1 o1 s1) (AjM t1 d u1 l1 n1 v1)
def Apn(a:Int) j1 k1 o1 s1 (t1:ASw) d (u1:ASH) (l1:AS9) n1 (v1:ASv):=λ(w1:ASS)=>xN 132 (AjL a j1 k1 o1 s1) (AjM w1.1 d w1.2.1 l1 n1 w1.2.2)
def Gh(a:Int)(j1 k1:ASz)(o1 s1:Int)(t1:ASw)(d:ATg)(u1:ASH)(l1:AS9)(n1:ASz)(v1:ASv):ATC ASS:=
 if 0<=s1/\s1<n1.length then
 bif decide ((n1.getD s1.toNat Af.zero).1>=0)then
 (BN a (n1.getD s1.toNat Af.zero).1 (n1.getD s1.toNat Af.zero).2.1 t1 u1 v1).bind λx1=>(BN a (n1.getD s1.toNat Af.zero).1 (wI ((n1.getD s1.toNat Af.zero).2.1+(n1.getD s1.toNat Af.zero).2.2.1)) x1.1 x1.2.1 x1.2.2).bind λy1=>some (y1.1,y1.2.1,y1.2.2)
 else
 some (t1,u1,v1)
 else none
theorem As5 a j1 k1 o1 s1 t1 d u1 l1 n1 v1:AP Sk 5 6 (cd f140 20) 14 (Ard a j1 k1 o1 s1 t1 d u1 l1 n1 v1) (Gh a j1 k1 o1 s1 t1 d u1 l1 n1 v1) (Apn a j1 k1 o1 s1 t1 d u1 l1 n1 v1):=by
 unfold AP;simp only[Gh,ASb];kernel_rfl
def HJ(a:Int)(j1 k1:ASz)(d:ATg)(l1:AS9)(n1:ASz)(o1 s1:Int)(t1:ASw)(u1:ASH)(v1:ASv):ATC (AS6⊕ASS):=
 bif decide (s1<o1)then
 (Gh a j1 k1 o1 s1 t1 d u1 l1 n1 v1).bind λw1=>some (.inl (wI (s1+1),w1.1,w1.2.1,w1.2.2))
 else
 some (.inr (t1,u1,v1))
def Dc a j1 k1 d l1 n1 o1 (z_:Int×ASw×ASH×ASv):=HJ a j1 k1 d l1 n1 o1 z_.1 z_.2.1 z_.2.2.1 z_.2.2.2
def OD a j1 k1 d l1 n1 o1 s1 t1 u1 v1:=fix (Dc a j1 k1 d l1 n1 o1) (s1,t1,u1,v1)
theorem As6 a j1 k1 d l1 n1 o1:A3 Sk 5 1 (code f140) 10 (Are a j1 k1 d l1 n1 o1) (Dc a j1 k1 d l1 n1 o1) (Apo a j1 k1 d l1 n1 o1):=by
 intro _;simp(disch:=refine id ?_;kernel_rfl) only[Dc,HJ,ASb,A8 (As5 ..) (K:=Kk Sk 5 1)];kernel_rfl
def JE(a:Int)(j1 k1:ASz)(a2:ASw)(d:ATg)(b2:ASH)(l1:AS9)(c2:ASv):ATC (ASw×ATg×ASH×AS9×ASv):=
 (IJ ([j1,k1]:ASJ)).bind λn1=>(OD a j1 k1 d l1 n1 (n1.length:Int) 0 a2 b2 c2).bind λq1=>(KC j1).bind λb=>(KC k1).bind λc=>(MX a b c d 1 q1.1 q1.2.1 l1 q1.2.2).bind λe=>some (e.1,d,e.2.1,e.2.2.1,e.2.2.2)
def AEE:=Cc [.UY,.UY,.UY] [⟨[.ptr 0 [] 0,.AA [1] ATq,.AA [1] ATq],[.box (.pr (.AA [] ATr) (.pr (.k Qu) (.pr (.k (.mp 3)) (.pr (.k Ox) (.k .u))))),.row 222 .Av (.AE ATq (.AE ATq .unit)),.row 95 .Av ATs,.map .Av Aa ATp,.row 227 .Av Aa],ASw×ATg×ASH×AS9×ASv,λp=>JE p.1.1 p.1.2.1 p.1.2.2.1 p.2.1.1 p.2.2.1 p.2.2.2.1 p.2.2.2.2.1 p.2.2.2.2.2.1,λr=>(.nil,[.box (.pr (Ar r.1) Aoo),C8 r.2.1,Ca r.2.2.1,HE r.2.2.2.1 none,.Ba,Fv r.2.2.2.2])⟩]
theorem AfY:Am prog 140 AEE:=As (fn:=f140) ⟨⟨Sk,pk ⟨jO,Agg,Agh,trivial⟩,λ_ R K=>by
 simp(disch:=refine id ?_;kernel_rfl) only[JE,ASc,OD,AG (As6 _ _ _ _ _ _ _) (K:=A2 Sk f140 5 R K),MX,AG (Ako _ _ _ _) (K:=A2 Sk f140 5 R K)];kernel_rfl⟩,trivial⟩
abbrev cq:=eN [(161,AkH)] {take:=[37],A4:=[(1,{Bc:=[0,2],mvp:=[(0,[3])]}),(6,[0,2,45,46,47]),(12,[2,7,68,69,70]),(15,[2,7,8,68,69,70,75,76,77])],BD:=[(1,[0,2]),(6,[0,2]),(12,[2,7]),(15,[2,7,68,69,70])],BR:=[(19,[2,7,8,68,69,70,75,76,77])],ao:=[(18,{Bc:=[2,7,8,68,69,70,75,76,77],Yp:=true})],DR:=[(19,[2,7,8,68,69,70,75,76,77])],cO:=[(18,[2,7,8,10,68,69,70,75,76,77])],stl:=[90]}
def Ark(a:AS9) b c d e (z_:Int×ASG):=sT 98 [(2,Us),(7,Qs),(68,.AH 1),(69,dI b),(70,dI z_.1)] (mg c d a e z_.2)
def Apv(a:AS9)(b:Int) c d e:=λ(g:ASG)=>xE 4 98 [(2,Us),(7,Qs)] (mg c d a e g)
def Arj i b c d (a:AS9) e j k (z_:Int×ASG):=sT 98 (Ab1 i b i j k z_.1) (mg c d a e z_.2)
def Apu i b c d (a:AS9) e (j:ASt) (k:Int):=λ(l:ASG)=>xE 6 98 [(2,Us),(7,Qs),(68,.AH 1),(69,dI b),(70,dI i)] (mg c d a e l)
def Ari i b j k n c d (a:AS9) e o:=sT 98 (Ab1 i b i j k n) (mg c d a e o)
def Apt i b j k n c d (a:AS9) e (o:ASG):=λ(q:ASG)=>xN 98 (Ab1 i b i j k n) (mg c d a e q)
def AeW i n b j k c d (a:AS9) e o:=sT 98 [(2,Us),(7,Qs),(8,dI i),(10,dI n),(68,.AH 1),(69,dI b),(70,dI i),(75,.AA [1] ATs j),(76,dI k),(77,dI n)] (mg c d a e o)
def qg i n b j k c d (a:AS9) e (o:ASG):=λ(s:Unit)=>sT 98 (Ab1 i b i j k n) [.box (.pr (Ar c) Aon),Ca d,HE a none,.Ba,.box VX,.box Aos,Fv e,Bl (o.set i.toNat ((o.getD i.toNat ATo.zero)++([n]:ASs)))]
def Iq(i n b:Int)(j:ASt)(k:Int)(c:ASw)(d:ASH)(a:AS9)(e:ASv)(o:ASG):ATC Unit:=
 if 0<=i/\i<o.length then
 if((o.getD i.toNat ATo.zero).length+([n]:ASs).length)*8<=140737488355328 then
 if 0<=i/\i<o.length then
 if i=i then
 some ()
 else none
 else none
 else none
 else none
theorem Atg(i n b:Int)(j:ASt)(k:Int)(c:ASw)(d:ASH)(a:AS9)(e:ASv)(o:ASG):Sj cq 4 18 (sb (sb (cd f141 244) 460) 14) 22 (AeW i n b j k c d a e o) (Iq i n b j k c d a e o) (qg i n b j k c d a e o):=by
 unfold Sj;have h:yI cq 4 18 (sb (sb (cd f141 244) 460) 14) (pt 22) (AeW i n b j k c d a e o) =
 if 0<=i/\i<o.length then
 if((o.getD i.toNat ATo.zero).length+([n]:ASs).length)*8<=140737488355328 then
 if 0<=i/\i<o.length then
 if i=i then
 ((if 0<=i/\i<o.length then
 (if((o.getD i.toNat ATo.zero).length+([n]:ASs).length)*8<=140737488355328 then
 if 0<=i/\i<o.length then
 if i=i then
 Ja (qg i n b j k c d a e o ())
 else none
 else none
 else none).bind λ_=>if((o.getD i.toNat ATo.zero).length+([n]:ASs).length)*8<=140737488355328 then
 if 0<=i/\i<o.length then
 if i=i then
 Ja (qg i n b j k c d a e o ())
 else none
 else none
 else none
 else none).bind λ_=>some (qg i n b j k c d a e o ()))
 else none
 else none
 else none
 else none:=by kernel_rfl
 rw[h];unfold Iq;simp only[ASb,mS,mO];clear h;by_cases Gb:(0:Int)<=i/\i<(o.length:Int)
 ·rw[AQe Gb,AQe Gb];by_cases Pp:((o.getD i.toNat ATo.zero).length+([n]:ASs).length)*8<=140737488355328
  ·rw[AQe Pp,AQe Pp];simp only[AQe Gb,AQe Pp,AQJ,APW,Ja,GX]
  ·simp only[AQe Gb,AQJ,AQf Pp]
 ·simp only[AQJ,AQf Gb]
def Fl(i b:Int)(j:ASt)(k n:Int)(c:ASw)(d:ASH)(a:AS9)(e:ASv)(o:ASG):ATC ASG:=
 if 0<=n/\n<j.length then
 bif j.getD n.toNat (Ty.zero .bool)then
 (Iq i n b j k c d a e o).bind λs=>some (o.set i.toNat ((o.getD i.toNat ATo.zero)++([n]:ASs)))
 else
 some o
 else none
theorem Ath i b j k n c d a e o:AP cq 4 19 (sb (cd f141 244) 460) 14 (Ari i b j k n c d a e o) (Fl i b j k n c d a e o) (Apt i b j k n c d a e o):=by
 unfold AP;simp(disch:=refine id ?_;kernel_rfl) only[Fl,ASb,W1 (Atg ..) (K:=Ud cq 4 19)];kernel_rfl
def Gs(i b:Int)(c:ASw)(d:ASH)(a:AS9)(e:ASv)(j:ASt)(k n:Int)(o:ASG):ATC (ASX⊕ASG):=
 bif decide (n<k)then
 (Fl i b j k n c d a e o).bind λq=>some (.inl (wI (n+1),q))
 else
 some (.inr o)
def CS i b c d a e j k (z_:Int×ASG):=Gs i b c d a e j k z_.1 z_.2
def MV i b c d a e j k n o:=fix (CS i b c d a e j k) (n,o)
theorem Ati i b c d a e j k:A3 cq 4 15 (cd f141 244) 230 (Arj i b c d a e j k) (CS i b c d a e j k) (Apu i b c d a e j k):=by
 intro _;simp(disch:=refine id ?_;kernel_rfl) only[CS,Gs,ASb,A8 (Ath ..) (K:=Kk cq 4 15)];kernel_rfl
def Gt(a:AS9)(b:Int)(c:ASw)(d:ASH)(e:ASv)(i:Int)(t:ASG):ATC (ASX⊕ASG):=
 bif decide (i<b)then
 if 0<=i/\i<d.length then
 (MV i b c d a e (d.getD i.toNat ATs.zero) ((d.getD i.toNat ATs.zero).length:Int) 0 t).bind λl=>some (.inl (wI (i+1),l))
 else none
 else
 some (.inr t)
def CU a b c d e (z_:Int×ASG):=Gt a b c d e z_.1 z_.2
def MW a b c d e i t:=fix (CU a b c d e) (i,t)
theorem Atj a b c d e:A3 cq 4 12 (code f141) 122 (Ark a b c d e) (CU a b c d e) (Apv a b c d e):=by
 intro _;simp(disch:=refine id ?_;kernel_rfl) only[CU,Gt,ASb,MV,AG (Ati _ _ _ _ _ _ _ _) (K:=Kk cq 4 12)];kernel_rfl
def Arh(u:Int)(a:AS9)(z_:ASw×ASH×ASv):=sT 98 [(0,.ptr 0 u [] 0),(2,Us)] (Ab2 z_.1 z_.2.1 a z_.2.2)
def Aps(u:Int)(a:AS9):=λ(v:ASS)=>xE 0 98 [(0,.ptr 0 u [] 0),(2,Us)] (Ab2 v.1 v.2.1 a v.2.2)
def Arf(u:Int)(a:AS9) w x (z_:Int×ASw×ASH×ASv):=sT 98 [(0,.ptr 0 u [] 0),(2,Us),(45,.AA [2] ATp w),(46,dI x),(47,dI z_.1)] (Ab2 z_.2.1 z_.2.2.1 a z_.2.2.2)
def Apq(u:Int)(a:AS9)(w:ASv)(x:Int):=λ(y:ASS)=>xE 2 98 [(0,.ptr 0 u [] 0),(2,Us)] (Ab2 y.1 y.2.1 a y.2.2)
def Gq(u:Int)(a:AS9)(w:ASv)(x a1:Int)(b1:ASw)(c1:ASH)(d1:ASv):ATC (AS6⊕ASS):=
 bif decide (a1<x)then
 if 0<=a1/\a1<w.length then
 (BN u (w.getD a1.toNat Aa.zero).1 (w.getD a1.toNat Aa.zero).2.1 b1 c1 d1).bind λe1=>some (.inl (wI (a1+1),e1.1,e1.2.1,e1.2.2))
 else none
 else
 some (.inr (b1,c1,d1))
def CR u a w x (z_:Int×ASw×ASH×ASv):=Gq u a w x z_.1 z_.2.1 z_.2.2.1 z_.2.2.2
def Ip u a w x a1 b1 c1 d1:=fix (CR u a w x) (a1,b1,c1,d1)
theorem Ate u a w x:A3 cq 4 6 (cd f141 24) 222 (Arf u a w x) (CR u a w x) (Apq u a w x):=by
 intro _;simp only[CR,Gq,ASb];kernel_rfl
def Ks(u:Int)(a:AS9)(g1:ASw)(i1:ASH)(j1:ASv):ATC (ASS⊕ASS):=
 bif decide ((j1.length:Int)>0)then
 if 0<=(wI ((j1.length:Int)-1))/\(wI ((j1.length:Int)-1))<j1.length then
 if(0:Int)<=(wI ((j1.length:Int)-1))/\(wI ((j1.length:Int)-1))<=(j1.length:Int)then
 (Ip u a (Bv Aa ATp a (j1.getD (wI ((j1.length:Int)-1)).toNat Aa.zero)) ((Bv Aa ATp a (j1.getD (wI ((j1.length:Int)-1)).toNat Aa.zero)).length:Int) 0 g1 i1 (j1.take (wI ((j1.length:Int)-1)).toNat)).bind λy=>some (.inl (y.1,y.2.1,y.2.2))
 else none
 else none
 else
 some (.inr (g1,i1,j1))
def Gr u a (z_:ASw×ASH×ASv):=Ks u a z_.1 z_.2.1 z_.2.2
def MU u a g1 i1 j1:=fix (Gr u a) (g1,i1,j1)
theorem Atf u a:A3 cq 4 1 (code f141) 12 (Arh u a) (Gr u a) (Aps u a):=by
 intro _;simp(disch:=refine id ?_;kernel_rfl) only[Gr,Ks,ASb,Ip,AG (Ate _ _ _ _) (K:=Kk cq 4 1)];kernel_rfl
def LY(u:Int)(k1:ASw)(l1:ASH)(a:AS9)(n1:ASv):ATC (ASw×ASH×AS9×ASG×ASv):=
 (MU u a k1 l1 n1).bind λv=>if Ty.row ATo=true/\(0:Int)<=(v.1.length:Int)/\(v.1.length:Int)<=(v.1.length:Int)/\((24:Nat):Int)*(v.1.length:Int)<=(281474976710656:Int)/\(v.1.length:Int)<=(9223372036854775807:Int)then
 (MW a (v.2.1.length:Int) v.1 v.2.1 v.2.2 0 (List.replicate (v.1.length:Int).toNat ([]:ASs))).bind λg=>some (v.1,v.2.1,a,g,v.2.2)
 else none
def AEF:=Cc [.UY] [⟨[.ptr 0 [] 0],[.box (.pr (.AA [] ATr) (.pr (.k Gl) (.pr (.k (.mp 2)) (.pr (.k (.AH 3)) (.k .u))))),.row 95 .Av ATs,.map .Av Aa ATp,.row 227 .Av Aa],ASw×ASH×AS9×ASG×ASv,λp=>LY p.1.1 p.2.1.1 p.2.2.1 p.2.2.2.1 p.2.2.2.2.1,λr=>(.pr Ox .u,[.box (.pr (Ar r.1) Aor),Ca r.2.1,HE r.2.2.1 none,.Ba,Bl r.2.2.2.1,Fv r.2.2.2.2])⟩]
theorem AfZ:Am prog 141 AEF:=As (fn:=f141) ⟨⟨cq,pk ⟨jO,trivial⟩,λ_ R K=>by
 simp(disch:=refine id ?_;kernel_rfl) only[LY,ASc,MU,AG (Atf _ _) (K:=A2 cq f141 4 R K),MW,AG (Atj _ _ _ _ _) (K:=A2 cq f141 4 R K)];kernel_rfl⟩,trivial⟩
abbrev Aeq:=eN [(105,Aky),(137,Au1),(138,AEC),(139,AED),(140,AEE),(141,AEF)] {A4:=[(8,[6,10,36,37,38])],BD:=[(8,[6,10])],BR:=[(2,[0,1,5,6,22])],DR:=[(2,[0,1,5,6])],jc:=[(0,.row [0] 78 ATo true)]}
def Arm(a:Int) b (z_:Int×ASw×ATg×ASH×AS9×ASv):=sT 51 [(6,Au),(10,.ptr 1 a [] 0),(36,.AH 2),(37,dI b),(38,dI z_.1)] [.box VX,.box (.pr (Ar z_.2.1) (.pr (.AH 3) (.pr (.mp 4) (.pr (.AH 5) .u)))),C8 z_.2.2.1,Ca z_.2.2.2.1,HE z_.2.2.2.2.1 none,Fv z_.2.2.2.2.2]
def Apx(a b:Int):=λ(c:ATh)=>xE 0 51 [(6,Au),(10,.ptr 1 a [] 0)] [.box VX,.box (.pr (Ar c.1) AjW),Ca c.2.1,HE c.2.2.1 none,Fv c.2.2.2]
def Jf(a b d:Int)(e:ASw)(g:ATg)(i:ASH)(j:AS9)(k:ASv):ATC ((Int×ASw×ATg×ASH×AS9×ASv)⊕ATh):=
 bif decide (d<b)then
 if 0<=d/\d<g.length then
 (JE a (g.getD d.toNat (Ty.zero (.AE ATq (.AE ATq .unit)))).1 (g.getD d.toNat (Ty.zero (.AE ATq (.AE ATq .unit)))).2.1 e g i j k).bind λl=>some (.inl (wI (d+1),l.1,l.2.1,l.2.2.1,l.2.2.2.1,l.2.2.2.2))
 else none
 else
 some (.inr (e,i,j,k))
def D9 a b (z_:Int×ASw×ATg×ASH×AS9×ASv):=Jf a b z_.1 z_.2.1 z_.2.2.1 z_.2.2.2.1 z_.2.2.2.2.1 z_.2.2.2.2.2
def LW a b d e g i j k:=fix (D9 a b) (d,e,g,i,j,k)
theorem Atl a b:A3 Aeq 0 8 (code f106) 506 (Arm a b) (D9 a b) (Apx a b):=by
 intro _;simp only[D9,Jf,ASb];kernel_rfl
def Arl n o q:=sT 51 [(0,Ar n),(1,Bw o),(5,Au),(6,A9)] [.box (BV q),.box VX]
def Apw n o q:=λ(s:Bool)=>xN 51 [(0,Ar n),(1,Bw o),(5,Au),(6,A9),(22,dB s)] [.box (BV q),.box VX]
def LV(n:ASw)(o:ASy)(q:ASl):ATC Bool:=
 (Tx n q).bind λt=>bif !t then
 some true
 else
 (F7 n o).bind λu=>some (!u)
theorem Atk n o q:AP Aeq 0 2 (code f106) 12 (Arl n o q) (LV n o q) (Apw n o q):=by
 unfold AP;simp only[LV,ASb];kernel_rfl
def JD(n:ASw)(o:ASy)(q:ASl):ATC (Bool×ASG):=
 (LV n o q).bind λs=>bif s then
 some (false,([]:ASG))
 else
 (Qd n o).bind λv=>bif !v.1 then
 some (false,([]:ASG))
 else
 (MZ n q).bind λw=>(LW w.1 (v.2.length:Int) 0 w.2.1 v.2 w.2.2.1 w.2.2.2.1 w.2.2.2.2).bind λc=>(LY w.1 c.1 c.2.1 c.2.2.1 c.2.2.2).bind λx=>some (true,x.2.2.2.1)
def AEd:=Cc [.d ATr,.d ATt,.d Ak] [⟨[.AA [] ATr,.AA [] ATt,.AA [] Ak],[],Bool×ASG,λp=>JD p.1.1 p.1.2.1 p.1.2.2.1,λr=>(.cons Si (.cons (dB r.1) .nil),[Bl r.2])⟩]
theorem Afw:Am prog 106 AEd:=As (fn:=f106) ⟨⟨Aeq,pk ⟨jK,uj,AfW,AfX,AfY,AfZ,trivial⟩,λ_ R K=>by
 simp(disch:=refine id ?_;kernel_rfl) only[JD,ASc,A8 (Atk ..) (K:=A2 Aeq f106 0 R K),LW,AG (Atl _ _) (K:=A2 Aeq f106 0 R K)];kernel_rfl⟩,trivial⟩
noncomputable def AEG:Va.Callee:=bg 2 ATl 8
noncomputable abbrev AFe:GV:={D7:=D7,fns:=Pb [],fi:={}}
theorem AlN:Jy Tryz.prog AFe:=(pk (l:=[]) trivial)
theorem Af0:Am Tryz.prog 142 AEG:=
 eU (fn:=Tryz.f142) AlN (by kernel_rfl) (by kernel_rfl) rfl rfl rfl ⟨rfl,rfl,rfl⟩ ⟨rfl,rfl,rfl⟩ (ti:=⟨.sl ATl,[],2,24,0,0,false⟩) (by kernel_rfl) rfl (by kernel_rfl) (λxs=>by kernel_rfl) (λxs=>by kernel_rfl)
  λxs h=>by
   have h0:ev AFe 0 (sub (code Tryz.f142) [1,1]) (Ex×St) ⟨[.AA [] ATo xs,.un 0,.zs,.AA [] ATo xs,.bool false,.un 0,.un 0,.un 0],[]⟩ Sd=if xs.length*8<=140737488355328 then some (.ret,⟨[.AA [] ATo xs,.un 0,.AH 0,.AA [] ATo xs,.bool false,.zs,.AA [] ATo xs,.AH 0],[Az xs]⟩)else none:=by kernel_rfl
   exact h0.trans (AQe h)
abbrev tz:=eN [(142,AEG)] {A4:=[(3,{Bc:=[0,5,13,14,15],Ce:=[(5,false,.row [] 152 Ad true)]}),(7,{Bc:=[0,5,6,8,13,14,15,28,29,30],Ce:=[(5,false,.row [] 152 Ad true)]})],BD:=[(3,[5]),(7,[0,5,13,14,15])],ao:=[(6,{Bc:=[0,5,6,8,13,14,15,28,29,30],Yp:=true,Sp:=[(28,false,ATo)]})],cO:=[(6,[0,5,6,7,8,13,14,15])]}
def Aro a b c (z_:Int×ASx):=sT 47 [(0,Ar a),(5,.AH 0),(13,Dw b),(14,dI c),(15,dI z_.1)] [Ey z_.2]
def Apz(a:ASw)(b:ASG)(c:Int):=λ(d:ASx)=>xE 0 47 [(5,.AH 0)] [Ey d]
def Arn a e b c g i (z_:Int×Int×ASx):=sT 47 [(0,Ar a),(5,.AH 0),(6,dI e),(8,dI z_.1),(13,Dw b),(14,dI c),(15,dI e),(28,DT g),(29,dI i),(30,dI z_.2.1)] [Ey z_.2.2]
def Apy a e b c (g:ASs) (i:Int):=λ(j:ASx)=>xE 2 47 [(0,Ar a),(5,.AH 0),(13,Dw b),(14,dI c),(15,dI e)] [Ey j]
def KA(a:ASw)(e:Int)(b:ASG)(c:Int)(g:ASs)(i k l:Int)(n:ASx):ATC ((Int×Int×ASx)⊕ASx):=
 bif decide (l<i)then
 if 0<=l/\l<g.length then
 if(n.length+([(e,k,wI ((g.getD l.toNat ATl.zero)-k),())]:ASx).length)*24<=140737488355328 then
 some (.inl (g.getD l.toNat ATl.zero,wI (l+1),n++([(e,k,wI ((g.getD l.toNat ATl.zero)-k),())]:ASx)))
 else none
 else none
 else
 some (.inr n)
def EN a e b c g i (z_:Int×Int×ASx):=KA a e b c g i z_.1 z_.2.1 z_.2.2
def Sx a e b c g i k l n:=fix (EN a e b c g i) (k,l,n)
theorem Atn a e b c g i:A3 tz 0 7 (cd f107 116) 462 (Arn a e b c g i) (EN a e b c g i) (Apy a e b c g i):=by
 intro _;simp only[EN,KA,ASb];kernel_rfl
def AeX a e b c o q:=sT 47 [(0,Ar a),(5,.AH 0),(6,dI e),(7,DT q),(8,dI 0),(13,Dw b),(14,dI c),(15,dI e)] [Ey o]
def yd a e b c o (q:ASs):=λ(s:(ASs×Int))=>sT 47 [(0,Ar a),(5,.AH 0),(6,dI e),(8,dI 0),(13,Dw b),(14,dI c),(15,dI e),(28,DT s.1),(29,dI s.2),(30,dI 0)] [Ey o]
def JK(a:ASw)(e:Int)(b:ASG)(c:Int)(o:ASx)(q:ASs):ATC (ASs×Int):=
 if q.length*8<=140737488355328 then
 if 0<=e/\e<a.length then
 if(q.length+([(a.getD e.toNat Ab.zero).2.1]:ASs).length)*8<=140737488355328 then
 some (q++([(a.getD e.toNat Ab.zero).2.1]:ASs),((q++([(a.getD e.toNat Ab.zero).2.1]:ASs)).length:Int))
 else none
 else none
 else none
noncomputable def qq(a:ASw)(e:Int)(b:ASG)(c:Int)(o:ASx)(q:ASs):ATC Unit:=if q.length*8<=140737488355328 then if(q.length+([(a.getD e.toNat Ab.zero).2.1]:ASs).length)*8<=140737488355328 then Ja (yd a e b c o q (q++([(a.getD e.toNat Ab.zero).2.1]:ASs),((q++([(a.getD e.toNat Ab.zero).2.1]:ASs)).length:Int)))else none else none
theorem Atm(a:ASw)(e:Int)(b:ASG)(c:Int)(o:ASx)(q:ASs):Sj tz 0 6 (cd f107 116) 230 (AeX a e b c o q) (JK a e b c o q) (yd a e b c o q):=by
 unfold Sj;have h:yI tz 0 6 (cd f107 116) (pt 230) (AeX a e b c o q) =
 if q.length*8<=140737488355328 then if 0<=e/\e<a.length then if(q.length+([(a.getD e.toNat Ab.zero).2.1]:ASs).length)*8<=140737488355328 then((if 0<=e/\e<a.length then(qq a e b c o q).bind λ_=>(qq a e b c o q).bind λ_=>qq a e b c o q else none).bind λ_=>some (yd a e b c o q (q++([(a.getD e.toNat Ab.zero).2.1]:ASs),((q++([(a.getD e.toNat Ab.zero).2.1]:ASs)).length:Int))))else none else none else none:=by kernel_rfl
 rw[h];unfold JK;simp only[ASb,mS,mO];clear h;by_cases Gb:q.length*8<=140737488355328
 ·rw[AQe Gb,AQe Gb];by_cases Pp:(0:Int)<=e/\e<(a.length:Int)
  ·rw[AQe Pp,AQe Pp];by_cases xG:(q.length+([(a.getD e.toNat Ab.zero).2.1]:ASs).length)*8<=140737488355328
   ·rw[AQe xG,AQe xG];simp only[qq,AQc,AQe Gb,AQe Pp,AQe xG,AQJ,APW,Ja,GX]
   ·simp only[AQe Gb,AQe Pp,AQJ,AQf xG]
  ·simp only[AQe Gb,AQJ,AQf Pp]
 ·simp only[AQJ,AQf Gb]
def KB(a:ASw)(b:ASG)(c e:Int)(o:ASx):ATC (ASQ⊕ASx):=
 bif decide (e<c)then
 if 0<=e/\e<b.length then
 (JK a e b c o (b.getD e.toNat ATo.zero)).bind λs=>(Sx a e b c s.1 s.2 0 0 o).bind λj=>some (.inl (wI (e+1),j))
 else none
 else
 some (.inr o)
def EO a b c (z_:Int×ASx):=KB a b c z_.1 z_.2
def Sy a b c e o:=fix (EO a b c) (e,o)
theorem Ato a b c:A3 tz 0 3 (code f107) 58 (Aro a b c) (EO a b c) (Apz a b c):=by
 intro _;simp(disch:=refine id ?_;kernel_rfl) only[EO,KB,ASb,W1 (Atm ..) (K:=Kk tz 0 3),Sx,AG (Atn _ _ _ _ _ _) (K:=Kk tz 0 3)];kernel_rfl
def O7(a:ASw)(t:ASl):ATC ASx:=
 (Sy a t.1 (t.1.length:Int) 0 ([]:ASx)).bind λd=>some d
def AEe:=Cc [.d ATr,.d Ak] [⟨[.AA [] ATr,.AA [] Ak],[],ASx,λp=>O7 p.1.1 p.1.2.1,λr=>(.AH 0,[Ey r])⟩]
theorem Afx:Am prog 107 AEe:=As (fn:=f107) ⟨⟨tz,pk ⟨Af0,trivial⟩,λ_ R K=>by
 simp(disch:=refine id ?_;kernel_rfl) only[O7,ASc,Sy,AG (Ato _ _ _) (K:=A2 tz f107 0 R K)];kernel_rfl⟩,trivial⟩
abbrev Aow:=eN [] {A4:=[(3,[3,7,8,9])],BD:=[(3,[3])]}
def Arp a b (z_:Int×ATc):=sT 23 [(3,.mp 0),(7,Ga a),(8,dI b),(9,dI z_.1)] [I8 z_.2 none]
def ApA(a:ASx)(b:Int):=λ(c:ATc)=>xE 0 23 [(3,.mp 0)] [I8 c none]
def Kv(a:ASx)(b d:Int)(e:ATc):ATC ((Int×ATc)⊕ATc):=
 bif decide (d<b)then
 if 0<=d/\d<a.length then
 some (.inl (wI (d+1),Cf Aa ATl e ((a.getD d.toNat Ad.zero).1,(a.getD d.toNat Ad.zero).2.1,()) d))
 else none
 else
 some (.inr e)
def EG a b (z_:Int×ATc):=Kv a b z_.1 z_.2
def Sv a b d e:=fix (EG a b) (d,e)
theorem Atp a b:A3 Aow 0 3 (code f108) 58 (Arp a b) (EG a b) (ApA a b):=by
 intro _;simp only[EG,Kv,ASb];kernel_rfl
def O4(a:ASx):ATC ATc:=
 (Sv a (a.length:Int) 0 ([]:ATB ASO)).bind λc=>some c
def AEf:=Cc [.d ATu] [⟨[.AA [] ATu],[],ATc,λp=>O4 p.1.1,λr=>(.mp 0,[I8 r none])⟩]
theorem Afy:Am prog 108 AEf:=As (fn:=f108) ⟨⟨Aow,pk trivial,λ_ R K=>by
 simp(disch:=refine id ?_;kernel_rfl) only[O4,ASc,Sv,AG (Atp _ _) (K:=A2 Aow f108 0 R K)];kernel_rfl⟩,trivial⟩
abbrev Aox:=eN [] {Av:=false,A4:=[(3,{Bc:=[3,8,9],Ce:=[(3,true,.row [0] 2 ATl true),(3,true,.row [1] 2 ATl true)]})],BD:=[(3,[3])]}
def Arq a (z_:Int×ASs×ASs):=sT 33 [(3,Au),(8,dI a),(9,dI z_.1)] [.box (.pr Gl (.pr Qu (.pr (.mp 3) VX))),Az z_.2.1,Az z_.2.2,Kc ([]:ATB ASL) none]
def ApB(a:Int):=λ(b:(ASs×ASs))=>xE 0 33 [(3,Au)] [.box (.pr Gl (.pr Qu (.pr (.mp 3) VX))),Az b.1,Az b.2,Kc ([]:ATB ASL) none]
def Jp(a c:Int)(d e:ASs):ATC ((Int×ASs×ASs)⊕(ASs×ASs)):=
 bif decide (c<a)then
 if(d.length+([c]:ASs).length)*8<=140737488355328 then
 if(e.length+([-1]:ASs).length)*8<=140737488355328 then
 some (.inl (wI (c+1),d++([c]:ASs),e++([-1]:ASs)))
 else none
 else none
 else
 some (.inr (d,e))
def Ef a (z_:Int×ASs×ASs):=Jp a z_.1 z_.2.1 z_.2.2
def Q5 a c d e:=fix (Ef a) (c,d,e)
theorem Atq a:A3 Aox 0 3 (code f109) 58 (Arq a) (Ef a) (ApB a):=by
 intro _;simp only[Ef,Jp,ASb];kernel_rfl
def M0(a:Int):ATC (Int×ASs×ASs×ATb):=
 (Q5 a 0 ([]:ASs) ([]:ASs)).bind λb=>some (0,b.1,b.2,([]:ATB ASL))
def AEg:=Cc [.d ATl] [⟨[.AA [] ATl],[],Int×ASs×ASs×ATb,λp=>M0 p.1.1,λr=>(.ptr 0 r.1 [] 0,[.box (.pr Gl (.pr Qu (.pr (.mp 3) VX))),Az r.2.1,Az r.2.2.1,Kc r.2.2.2 none])⟩]
theorem Afz:Am prog 109 AEg:=As (fn:=f109) ⟨⟨Aox,pk trivial,λ_ R K=>by
 simp(disch:=refine id ?_;kernel_rfl) only[M0,ASc,Q5,AG (Atq _) (K:=A2 Aox f109 0 R K)];kernel_rfl⟩,trivial⟩
abbrev jo:=eN [] {A4:=[(4,{Bc:=[3,5,6,12,13,14],Ce:=[(5,false,.row [] 2 ATl true)]}),(9,[3,5,6,8,12,13,14,30,31,32])],BD:=[(4,[5]),(9,[3,5,6,8,12,13,14])],BR:=[(12,[3,5,6,8,10,12,13,14,30,31,32,48]),(13,[3,5,6,8,12,13,14,30,31,32]),(14,[3,5,6,8,12,13,14])],DR:=[(12,[3,5,6,8,10,12,13,14,30,31,32]),(13,[3,5,6,8,12,13,14,30,31,32]),(14,[3,5,6,8,12,13,14])]}
def Aru a b c (z_:Int×Int×ASs):=sT 65 [(3,Au),(5,.AH 1),(6,dI z_.1),(12,Dv a),(13,dI c),(14,dI z_.2.1)] [.box (BV b),Az z_.2.2]
def ApF(a:ASz)(b:ASl)(c:Int):=λ(d:ASs)=>xE 0 65 [(5,.AH 0)] [Az d]
def Art e a c g b i j:=sT 65 (AjN e a c g) (gV b i j)
def ApE e a c g b (i:ASs) j:=λ(k:ASs)=>xN 65 (AjN e a c g) (gV b k j)
def Ars e a c g b j l n (z_:Int×ASs):=sT 65 (AjO e a c g l n z_.1) (gV b z_.2 j)
def ApD e a c g b j (l:ASs) (n:Int):=λ(o:ASs)=>xE 2 65 (AjN e a c g) (gV b o j)
def Arr e a c g l n q b s j:=sT 65 (AjO e a c g l n q) (gV b s j)
def ApC e a c g l n q b (s:ASs) j:=λ(t:ASs)=>xN 65 (AjO e a c g l n q) (gV b t j)
def AeY e (l:ASs) (q:Int) a c g n b s j:=sT 65 [(3,Au),(5,.AH 1),(6,dI e),(8,Lb),(10,dI (l.getD q.toNat ATl.zero)),(12,Dv a),(13,dI c),(14,dI g),(30,DT l),(31,dI n),(32,dI q)] (gV b s j)
def ye(e:Int)(l:ASs)(q:Int)(a:ASz)(c g n:Int)(b:ASl)(s:ASs)(j:ASi)(m0:Bool):Ex×St:=xN 65 [(3,Au),(5,.AH 1),(6,dI e),(8,Lb),(10,dI (l.getD q.toNat ATl.zero)),(12,Dv a),(13,dI c),(14,dI g),(30,DT l),(31,dI n),(32,dI q),(48,dB m0)] (gV b s j)
theorem Atr e l q a c g n b s j:Za jo 0 12 (sb (sb (sb (cd f165 244) 230) 52) 14) (pt 10) (AeY e l q a c g n b s j)=some (ye e l q a c g n b s j ((decide ((l.getD q.toNat ATl.zero)>j.2.1))&&(decide ((l.getD q.toNat ATl.zero)<(wI (j.2.1+j.2.2.1)))))):=by
 refine .trans (b:=
 bif decide ((l.getD q.toNat ATl.zero)>j.2.1)then
 some (ye e l q a c g n b s j (decide ((l.getD q.toNat ATl.zero)<(wI (j.2.1+j.2.2.1)))))
 else
 some (ye e l q a c g n b s j false)) (by kernel_rfl) ?_
 cases (decide ((l.getD q.toNat ATl.zero)>j.2.1));rfl;rfl
def NF(e:Int)(a:ASz)(c g:Int)(l:ASs)(n q:Int)(b:ASl)(s:ASs)(j:ASi):ATC ASs:=
 if 0<=q/\q<l.length then
 R3 (AeY e l q a c g n b s j) (
 bif (decide ((l.getD q.toNat ATl.zero)>j.2.1))&&(decide ((l.getD q.toNat ATl.zero)<(wI (j.2.1+j.2.2.1))))then
 if(s.length+([wI ((wI (e+(l.getD q.toNat ATl.zero)))-j.2.1)]:ASs).length)*8<=140737488355328 then
 some (s++([wI ((wI (e+(l.getD q.toNat ATl.zero)))-j.2.1)]:ASs))
 else none
 else
 some s)
 else none
theorem Ats e a c g l n q b s j:AP jo 0 13 (sb (sb (cd f165 244) 230) 52) 14 (Arr e a c g l n q b s j) (NF e a c g l n q b s j) (ApC e a c g l n q b s j):=by
 unfold AP;simp(disch:=refine id ?_;kernel_rfl) only[NF,ASb,GN (Atr ..) (K:=Ud jo 0 13)];kernel_rfl
def Ky(e:Int)(a:ASz)(c g:Int)(b:ASl)(j:ASi)(l:ASs)(n q:Int)(s:ASs):ATC (ASP⊕ASs):=
 bif decide (q<n)then
 (NF e a c g l n q b s j).bind λt=>some (.inl (wI (q+1),t))
 else
 some (.inr s)
def EJ e a c g b j l n (z_:Int×ASs):=Ky e a c g b j l n z_.1 z_.2
def NG e a c g b j l n q s:=fix (EJ e a c g b j l n) (q,s)
theorem Att e a c g b j l n:A3 jo 0 9 (sb (cd f165 244) 230) 26 (Ars e a c g b j l n) (EJ e a c g b j l n) (ApD e a c g b j l n):=by
 intro _;simp(disch:=refine id ?_;kernel_rfl) only[EJ,Ky,ASb,A8 (Ats ..) (K:=Kk jo 0 9)];kernel_rfl
def JJ(e:Int)(a:ASz)(c g:Int)(b:ASl)(i:ASs)(j:ASi):ATC ASs:=
 bif decide (j.1>=0)then
 if(0:Int)<=j.1/\j.1<(b.1.length:Int)then
 (NG e a c g b j (b.1.getD j.1.toNat ATo.zero) ((b.1.getD j.1.toNat ATo.zero).length:Int) 0 i).bind λo=>some o
 else none
 else
 some i
theorem Atu e a c g b i j:AP jo 0 14 (cd f165 244) 230 (Art e a c g b i j) (JJ e a c g b i j) (ApE e a c g b i j):=by
 unfold AP;simp(disch:=refine id ?_;kernel_rfl) only[JJ,ASb,NG,AG (Att _ _ _ _ _ _ _ _) (K:=Ud jo 0 14)];kernel_rfl
def Kz(a:ASz)(b:ASl)(c e g:Int)(u:ASs):ATC ((Int×Int×ASs)⊕ASs):=
 bif decide (g<c)then
 if 0<=g/\g<a.length then
 if(u.length+([e]:ASs).length)*8<=140737488355328 then
 (JJ e a c g b (u++([e]:ASs)) (a.getD g.toNat Af.zero)).bind λk=>some (.inl (wI (e+(a.getD g.toNat Af.zero).2.2.1),wI (g+1),k))
 else none
 else none
 else
 some (.inr u)
def EK a b c (z_:Int×Int×ASs):=Kz a b c z_.1 z_.2.1 z_.2.2
def NH a b c e g u:=fix (EK a b c) (e,g,u)
theorem Atv a b c:A3 jo 0 4 (code f165) 122 (Aru a b c) (EK a b c) (ApF a b c):=by
 intro _;simp(disch:=refine id ?_;kernel_rfl) only[EK,Kz,ASb,A8 (Atu ..) (K:=Kk jo 0 4)];kernel_rfl
def Lv(a:ASz)(b:ASl):ATC ASs:=
 (NH a b (a.length:Int) 0 0 ([]:ASs)).bind λd=>some d
def AEZ:=Cc [.d ATq,.d Ak] [⟨[.AA [] ATq,.AA [] Ak],[],ASs,λp=>Lv p.1.1 p.1.2.1,λr=>(.AH 0,[Az r])⟩]
theorem Agj:Am prog 165 AEZ:=As (fn:=f165) ⟨⟨jo,pk trivial,λ_ R K=>by
 simp(disch:=refine id ?_;kernel_rfl) only[Lv,ASc,NH,AG (Atv _ _ _) (K:=A2 jo f165 0 R K)];kernel_rfl⟩,trivial⟩
abbrev Axf:=eN [] {take:=[25]}
def AE8:=Ac7 [.UY,.UY] Axf f177
theorem Ags:Am prog 177 AE8:=iW (pk trivial)
abbrev p9:=eN [(177,AE8)] {A4:=[(3,[0,3,9,10,11]),(11,{Bc:=[6,25,26,27],Ce:=[(6,false,.row [] 2 ATl true)]})],BD:=[(3,[0,3]),(11,[6])],BR:=[(8,[0,3,9,10,11])],DR:=[(8,[0,3,9,10,11])]}
def Ary a b (z_:Int×ASs):=sT 36 [(6,.AH 0),(25,Dw a),(26,dI b),(27,dI z_.1)] [Az z_.2]
def ApJ(a:ASG)(b:Int):=λ(c:ASs)=>xE 2 36 xn [Az c]
def Pj(a:ASG)(b d:Int)(e:ASs):ATC (ASP⊕ASs):=
 bif decide (d<b)then
 if 0<=d/\d<a.length then
 if(e.length+(a.getD d.toNat ATo.zero).length)*8<=140737488355328 then
 some (.inl (wI (d+1),e++(a.getD d.toNat ATo.zero)))
 else none
 else none
 else
 some (.inr e)
def I4 a b (z_:Int×ASs):=Pj a b z_.1 z_.2
def Rm a b d e:=fix (I4 a b) (d,e)
theorem Atz a b:A3 p9 0 11 (code f164) 250 (Ary a b) (I4 a b) (ApJ a b):=by
 intro _;simp only[I4,Pj,ASb];kernel_rfl
def Arx a g (z_:Int×ASs):=sT 36 [(6,.AH 0),(25,Dw a),(26,dI g),(27,dI z_.1)] [Az z_.2]
def ApI(a:ASG)(g:Int):=λ(i:ASs)=>xE 2 36 xn [Az i]
def Ff(a:ASG)(g j:Int)(k:ASs):ATC (ASP⊕ASs):=
 bif decide (j<g)then
 if 0<=j/\j<a.length then
 if(k.length+(a.getD j.toNat ATo.zero).length)*8<=140737488355328 then
 some (.inl (wI (j+1),k++(a.getD j.toNat ATo.zero)))
 else none
 else none
 else
 some (.inr k)
def Cp a g (z_:Int×ASs):=Ff a g z_.1 z_.2
def KP a g j k:=fix (Cp a g) (j,k)
theorem Aty a g:A3 p9 0 11 (code f164) 250 (Arx a g) (Cp a g) (ApI a g):=by
 intro _;simp only[Cp,Ff,ASb];kernel_rfl
def Arw a l (z_:Int×Int):=sT 36 [(0,Dw a),(3,dI z_.1),(9,Dw a),(10,dI l),(11,dI z_.2)] []
def ApH a (l:Int):=λ(n:Int)=>xE 0 36 [(0,Dw a),(3,dI n)] []
def Arv a o l q:=sT 36 [(0,Dw a),(3,dI o),(9,Dw a),(10,dI l),(11,dI q)] []
def ApG a (o:Int) l (q:Int):=λ(s:Unit)=>xN 36 [(0,Dw a),(3,dI (wI (o+((a.getD q.toNat ATo.zero).length:Int)))),(9,Dw a),(10,dI l),(11,dI q)] []
def GC(a:ASG)(o l q:Int):ATC Unit:=
 if 0<=q/\q<a.length then
 bif decide ((wI (o+((a.getD q.toNat ATo.zero).length:Int)))<0)then
 none
 else
 some ()
 else none
theorem Atw a o l q:AP p9 0 8 (cd f164 116) 14 (Arv a o l q) (GC a o l q) (ApG a o l q):=by
 unfold AP;simp only[GC,ASb];kernel_rfl
def Fe(a:ASG)(l o q:Int):ATC (ASR⊕Int):=
 bif decide (q<l)then
 (GC a o l q).bind λs=>some (.inl (wI (o+((a.getD q.toNat ATo.zero).length:Int)),wI (q+1)))
 else
 some (.inr o)
def Cm a l (z_:Int×Int):=Fe a l z_.1 z_.2
def KO a l o q:=fix (Cm a l) (o,q)
theorem Atx a l:A3 p9 0 3 (code f164) 58 (Arw a l) (Cm a l) (ApH a l):=by
 intro _;simp(disch:=refine id ?_;kernel_rfl) only[Cm,Fe,ASb,A8 (Atw ..) (K:=Kk p9 0 3)];kernel_rfl
def Gj(a:ASG):ATC ASs:=
 (KO a (a.length:Int) 0 0).bind λn=>bif decide (n<0)then
 none
 else
 bif decide ((wI (n-0))>0)then
 if(0:Int)<=(wI (n-0))/\(wI (n-0))*((8:Nat):Int)<=(140737488355328:Int)then
 if(0:Int)<=(0:Int)/\(0:Int)<=((List.replicate (wI (n-0)).toNat 0).length:Int)then
 (KP a (a.length:Int) 0 ((List.replicate (wI (n-0)).toNat 0).take 0)).bind λi=>some i
 else none
 else none
 else
 (Rm a (a.length:Int) 0 ([]:ASs)).bind λc=>some c
def AEY:=Cc [.d ATy] [⟨[.AA [] ATy],[],ASs,λp=>Gj p.1.1,λr=>(.AH 0,[Az r])⟩]
theorem Agi:Am prog 164 AEY:=As (fn:=f164) ⟨⟨p9,pk ⟨Ags,trivial⟩,λ_ R K=>by
 simp(disch:=refine id ?_;kernel_rfl) only[Gj,ASc,KO,AG (Atx _ _) (K:=A2 p9 f164 0 R K),KP,AG (Aty _ _) (K:=A2 p9 f164 0 R K),Rm,AG (Atz _ _) (K:=A2 p9 f164 0 R K)];kernel_rfl⟩,trivial⟩
abbrev Aoy:=eN [] {A4:=[(2,[1,4,7,8,9])],BD:=[(2,[4])],Sp:=[(0,Lr)]}
def Arz a b (z_:Int×Int):=sT 26 [(1,dI z_.1),(4,Au),(7,Dv a),(8,dI b),(9,dI z_.2)] [.box (.pr (.pr (dI 0) (.pr (dI 0) aR)) (.pr (dI 0) .u))]
def ApK(a:ASz)(b:Int):=Sum.elim (λ(c:(ASi×Int))=>xR 26 [(4,Au)] [.box (.pr (OT c.1) (.pr (dI c.2) .u))]) (λ(d:Unit)=>xE 0 26 [(4,Au)] [.box (.pr (.pr (dI 0) (.pr (dI 0) aR)) (.pr (dI 0) .u))])
def Pr(a:ASz)(b e g:Int):ATC (ASR⊕((ASi×Int)⊕Unit)):=
 bif decide (g<b)then
 if 0<=g/\g<a.length then
 bif decide (e<(a.getD g.toNat Af.zero).2.2.1)then
 some (.inr (.inl (a.getD g.toNat Af.zero,e)))
 else
 some (.inl (wI (e-(a.getD g.toNat Af.zero).2.2.1),wI (g+1)))
 else none
 else
 some (.inr (.inr ()))
def H9 a b (z_:Int×Int):=Pr a b z_.1 z_.2
def Wx a b e g:=fix (H9 a b) (e,g)
theorem AtA a b:A3 Aoy 0 2 (code f168) 26 (Arz a b) (H9 a b) (ApK a b):=by
 intro _;simp only[H9,Pr,ASb];kernel_rfl
def Qa(a:ASz)(i:Int):ATC Lr.V:=
 (Wx a (a.length:Int) i 0).bind (Sum.elim (λc=>some (c.1,c.2,())) (λd=>some ((0,0,0,(0,([]:ASs),()),()),0,())))
def AE0:=Cc [.d ATq,.d ATl] [⟨[.AA [] ATq,.AA [] ATl],[],Lr.V,λp=>Qa p.1.1 p.1.2.1,λr=>(dD Lr r,[])⟩]
theorem Agk:Am prog 168 AE0:=As (fn:=f168) ⟨⟨Aoy,pk trivial,λ_ R K=>by
 simp(disch:=refine id ?_;kernel_rfl) only[Qa,ASc,Wx,AG (AtA _ _) (K:=A2 Aoy f168 0 R K)];kernel_rfl⟩,trivial⟩
abbrev AHJ:=eN [(175,Au6)] {jc:=[(0,.row [1,1] 88 ATm true)]}
def Lt(a:Lr.V)(b:Int)(c:ATc):ATC (Int×Int×ATc×ASs):=
 bif a.1.1==(-1)then
 (Fa a.1.2.2.2.1 a.2.1 b).bind λd=>some (-1,d.1,c,d.2)
 else
 some (Bv Aa ATl c (a.1.1,wI (a.1.2.1+a.2.1),()),0,c,([]:ASs))
def AE1:=Cc [.d Lr,.UY,.d ATl] [⟨[.AA [] Lr,.k (.mp 0),.AA [] ATl],[.map .Av Aa ATl],Int×Int×ATc×ASs,λp=>Lt p.1.1 p.1.2.2.1 p.2.1,λr=>(.pr (dI r.1) (.pr (.pr (dI r.2.1) (.pr Gl .u)) .u),[I8 r.2.2.1 none,C9 r.2.2.2])⟩]
theorem Agl:Am prog 169 AE1:=As (fn:=f169) ⟨⟨AHJ,pk ⟨uv,trivial⟩,λ_ R K=>by
 simp only[Lt,ASc];kernel_rfl⟩,trivial⟩
def Au4:Va.Callee:=wJ
theorem uo:Am prog 166 Au4:=Ai0 (fn:=f166) lay53 rfl (by kernel_rfl) (by kernel_rfl) (by kernel_rfl)
def Au5:Va.Callee:=xc
theorem uq:Am prog 167 Au5:=Ajl (fn:=f167) lay43 rfl (by kernel_rfl) (by kernel_rfl) (by kernel_rfl)
abbrev Aoz:=eN [(36,c36),(164,AEY),(165,AEZ),(166,Au4),(167,Au5),(168,AE0),(169,AE1)] {A4:=[(6,{Bc:=[0,1,3,9,10,35,36,37],Sp:=[(9,false,ATo)],Ce:=[(10,false,.row [] 129 Ao true)]})],BD:=[(6,[10])],ig:=[(20,ATy),(52,Lr),(58,Lr)]}
def ArA a b c d e (z_:Int×ATc×ASD):=sT 68 [(0,Dv a),(1,Dv b),(3,.mp 0),(9,DT c),(10,.AH 1),(35,.AA [2] ATo d),(36,dI e),(37,dI z_.1)] [I8 z_.2.1 none,sZ z_.2.2,.Ba]
def ApL(a b:ASz)(c d:ASs)(e:Int):=λ(g:(ATc×ASD))=>xE 0 68 [(10,.AH 1)] [I8 g.1 none,sZ g.2]
def NI(a b:ASz)(c d:ASs)(e i:Int)(j:ATc)(k:ASD):ATC ((Int×ATc×ASD)⊕(ATc×ASD)):=
 bif decide (i<e)then
 if 0<=i/\i<d.length then
 if 0<=(wI (i+1))/\(wI (i+1))<c.length then
 (Qa a (d.getD i.toNat ATl.zero)).bind λl=>(Lt l (wI ((c.getD (wI (i+1)).toNat ATl.zero)-(d.getD i.toNat ATl.zero))) j).bind λn=>(Qa b (d.getD i.toNat ATl.zero)).bind λo=>(Lt o (wI ((c.getD (wI (i+1)).toNat ATl.zero)-(d.getD i.toNat ATl.zero))) n.2.2.1).bind λq=>if(k.length+([((n.1,(n.2.1,n.2.2.2,()),()),(q.1,(q.2.1,q.2.2.2,()),()),wI ((c.getD (wI (i+1)).toNat ATl.zero)-(d.getD i.toNat ATl.zero)),())]:ASD).length)*88<=140737488355328 then
 some (.inl (wI (i+1),q.2.2.1,k++([((n.1,(n.2.1,n.2.2.2,()),()),(q.1,(q.2.1,q.2.2.2,()),()),wI ((c.getD (wI (i+1)).toNat ATl.zero)-(d.getD i.toNat ATl.zero)),())]:ASD)))
 else none
 else none
 else none
 else
 some (.inr (j,k))
def G0 a b c d e (z_:Int×ATc×ASD):=NI a b c d e z_.1 z_.2.1 z_.2.2
def Q6 a b c d e i j k:=fix (G0 a b c d e) (i,j,k)
theorem AtB a b c d e:A3 Aoz 1 6 (code f143) 506 (ArA a b c d e) (G0 a b c d e) (ApL a b c d e):=by
 intro _;simp only[G0,NI,ASb];kernel_rfl
def TC(a b:ASz)(s:ASl)(t:ATc):ATC (ATc×ASD):=
 (Lv a s).bind λu=>(Lv b s).bind λv=>(Gj ([u,v]:ASG)).bind λw=>if w.length<4611686018427387904 then
 (Hp a).bind λx=>if((Ow (Rq w)).length+([x]:ASs).length)*8<=140737488355328 then
 if(0:Int)<=(0:Int)/\(0:Int)<=(wI ((((Ow (Rq w))++([x]:ASs)).length:Int)-1))/\(wI ((((Ow (Rq w))++([x]:ASs)).length:Int)-1))<=(((Ow (Rq w))++([x]:ASs)).length:Int)then
 (Q6 a b ((Ow (Rq w))++([x]:ASs)) ((((Ow (Rq w))++([x]:ASs)).take (wI ((((Ow (Rq w))++([x]:ASs)).length:Int)-1)).toNat).drop 0) (((((Ow (Rq w))++([x]:ASs)).take (wI ((((Ow (Rq w))++([x]:ASs)).length:Int)-1)).toNat).drop 0).length:Int) 0 t ([]:ASD)).bind λg=>some (g.1,g.2)
 else none
 else none
 else none
def AEH:=Cc [.d ATq,.d ATq,.d Ak,.UY] [⟨[.AA [] ATq,.AA [] ATq,.AA [] Ak,.k (.mp 0)],[.map .Av Aa ATl],ATc×ASD,λp=>TC p.1.1 p.1.2.1 p.1.2.2.1 p.2.1,λr=>(.AH 1,[I8 r.1 none,sZ r.2])⟩]
theorem Af1:Am prog 143 AEH:=As (fn:=f143) ⟨⟨Aoz,pk ⟨Aaw,Agi,Agj,uo,uq,Agk,Agl,trivial⟩,λ_ R K=>by
 simp(disch:=refine id ?_;kernel_rfl) only[TC,ASc,Q6,AG (AtB _ _ _ _ _) (K:=A2 Aoz f143 1 R K)];kernel_rfl⟩,trivial⟩
abbrev AHK:=eN [(143,AEH)] {Sp:=[(0,.sl Ao)]}
def Is(a b:Int)(c:ASw)(d:ASy)(e:ATg)(g:ASG)(i:ASx)(j:ATc):ATC (ASD×ASw×ASy×ATg×ASG×ASx×ATc):=
 if 0<=b/\b<e.length then
 if 0<=b/\b<e.length then
 (TC (e.getD b.toNat (Ty.zero (.AE ATq (.AE ATq .unit)))).1 (e.getD b.toNat (Ty.zero (.AE ATq (.AE ATq .unit)))).2.1 (g,()) j).bind λk=>some (k.2,c,d,e,g,i,k.1)
 else none
 else none
def AEh:=Cc [.UY,.d ATl] [⟨[.ptr 0 [] 0,.AA [] ATl],[.box (.pr (.AA [] ATr) (.pr (.AA [] ATt) (.pr (.k Gl) (.pr (.pr (.k Qu) (.k .u)) (.pr (.k (.AH 3)) (.pr (.k (.mp 4)) (.k .u))))))),.row 222 .Av (.AE ATq (.AE ATq .unit)),.row 78 .Av ATo,.row 152 .Av Ad,.map .Av Aa ATl],ASD×ASw×ASy×ATg×ASG×ASx×ATc,λp=>Is p.1.1 p.1.2.1 p.2.1.1 p.2.1.2.1 p.2.2.1 p.2.2.2.1 p.2.2.2.2.1 p.2.2.2.2.2.1,λr=>(Z6 r.1,[.box (.pr (Ar r.2.1) (.pr (Bw r.2.2.1) AjV)),C8 r.2.2.2.1,Bl r.2.2.2.2.1,Ey r.2.2.2.2.2.1,I8 r.2.2.2.2.2.2 none])⟩]
theorem AfA:Am prog 110 AEh:=As (fn:=f110) ⟨⟨AHK,pk ⟨Af1,trivial⟩,λ_ R K=>by
 simp only[Is,ASc];kernel_rfl⟩,trivial⟩
abbrev AoA:=eN [] {A4:=[(4,[0,1,12,13])],BD:=[(4,[4])]}
def ArB a b c (z_:Int):=sT 26 [(0,UO a),(1,UO b),(12,dI c),(13,dI z_)] []
def ApM(a b:ASs)(c:Int):=Sum.elim (λ(d:Unit)=>xR 26 fW []) (λ(e:Unit)=>xE 0 26 [] [])
def Pk(a b:ASs)(c g:Int):ATC (Int⊕(Unit⊕Unit)):=
 bif decide (g<c)then
 if 0<=g/\g<a.length then
 if 0<=g/\g<b.length then
 bif (a.getD g.toNat ATm.zero) !=(b.getD g.toNat ATm.zero)then
 some (.inr (.inl ()))
 else
 some (.inl (wI (g+1)))
 else none
 else none
 else
 some (.inr (.inr ()))
def Fg a b c (z_:Int):=Pk a b c z_
def Ro a b c g:=fix (Fg a b c) g
theorem AtC a b c:A3 AoA 0 4 (code f170) 58 (ArB a b c) (Fg a b c) (ApM a b c):=by
 intro _;simp only[Fg,Pk,ASb];kernel_rfl
def Ju(a b:ASs):ATC Bool:=
 bif (a.length:Int) !=(b.length:Int)then
 some false
 else
 (Ro a b (a.length:Int) 0).bind (Sum.elim (λd=>some false) (λe=>some true))
def AE2:=Cc [.d ATv,.d ATv] [⟨[.AA [] ATv,.AA [] ATv],[],Bool,λp=>Ju p.1.1 p.1.2.1,λr=>(dB r,[])⟩]
theorem Agm:Am prog 170 AE2:=As (fn:=f170) ⟨⟨AoA,pk trivial,λ_ R K=>by
 simp(disch:=refine id ?_;kernel_rfl) only[Ju,ASc,Ro,AG (AtC _ _ _) (K:=A2 AoA f170 0 R K)];kernel_rfl⟩,trivial⟩
abbrev AHL:=eN [(170,AE2)] {}
def MR(a b:ASk):ATC Bool:=
 bif a.1==b.1 then
 (Ju a.2.1 b.2.1).bind λc=>some c
 else
 some false
def AEJ:=Cc [.d Ah,.d Ah] [⟨[.AA [] Ah,.AA [] Ah],[],Bool,λp=>MR p.1.1 p.1.2.1,λr=>(dB r,[])⟩]
theorem Af3:Am prog 146 AEJ:=As (fn:=f146) ⟨⟨AHL,pk ⟨Agm,trivial⟩,λ_ R K=>by
 simp only[MR,ASc];kernel_rfl⟩,trivial⟩
abbrev YF:=eN [(166,Au4),(167,Au5)] {A4:=[(3,[1,2,7,20,21,22]),(10,[1,2,7,10,11]),(14,[1,2,7,10,11,71,72,73]),(23,{Bc:=[1,10,17,18],Ce:=[(17,false,.row [] 2 ATl true)]})],BD:=[(3,[1,2,7]),(10,[1,2,10]),(14,[1,2,7,10,11]),(23,[17])],BR:=[(20,[1,2,7,10,11,71,72,73])],ao:=[(5,{Bc:=[1,2,7,9,20,21,22],Yp:=true}),(6,{Bc:=[1,2,7,20,21,22],Yp:=true})],DR:=[(20,[1,2,7,10,11,71,72,73])],cO:=[(5,[1,2,7,9,20,21,22]),(6,[1,2,7,9,20,21,22])],stl:=[32,42],AGE:=[60]}
def ArG a (b:ATe) (z_:Int×ASs):=sT 116 [(1,dI a),(10,.mp 0),(17,.AH 1),(18,dI z_.1)] [Aaa b none,Az z_.2]
def ApR(a:Int)(b:ATe):=λ(c:ASs)=>xE 6 116 [(17,.AH 0)] [Az c]
def Uc(a:Int)(b:ATe)(d:Int)(e:ASs):ATC (ASP⊕ASs):=
 bif d !=a then
 if(e.length+([(Bv ATl Ad b d).2.2.1]:ASs).length)*8<=140737488355328 then
 some (.inl ((Bv ATl Ad b d).1,e++([(Bv ATl Ad b d).2.2.1]:ASs)))
 else none
 else
 some (.inr e)
def PE a b (z_:Int×ASs):=Uc a b z_.1 z_.2
def aD a b d e:=fix (PE a b) (d,e)
theorem AtL a b:A3 YF 0 23 (code f147) 2042 (ArG a b) (PE a b) (ApR a b):=by
 intro _;simp only[PE,Uc,ASb];kernel_rfl
def ArF a g (i:ATd) (z_:ATe×ASs):=sT 116 [(1,dI a),(2,dI g),(7,.mp 0),(10,.mp 1),(11,.AH 2)] (xq i z_.1 z_.2)
def ApQ a g (i:ATd):=λ(b:ATe)=>xE 2 116 [(1,dI a),(2,dI g),(10,.mp 0)] [Aaa b none]
def ArE a g (i:ATd) j k (z_:Int×ATe×ASs):=sT 116 (AjP a g j k z_.1) (xq i z_.2.1 z_.2.2)
def ApP a g (i:ATd) (j:ASx) (k:Int):=λ(l:(ATe×ASs))=>xE 4 116 [(1,dI a),(2,dI g),(7,.mp 0),(10,.mp 1),(11,.AH 2)] (xq i l.1 l.2)
def ArD a g j k n (i:ATd) (o:ATe) q:=sT 116 (AjP a g j k n) (xq i o q)
def ApO a g j k n (i:ATd) (o:ATe) (q:ASs):=λ(s:(ATe×ASs))=>xN 116 (AjP a g j k n) (xq i s.1 s.2)
def Tc(a g:Int)(j:ASx)(k n:Int)(i:ATd)(o:ATe)(q:ASs):ATC (ATe×ASs):=
 if 0<=n/\n<j.length then
 bif !(Uf ATl Ad o (j.getD n.toNat Ad.zero).2.1)then
 bif decide ((q.length+([(j.getD n.toNat Ad.zero).2.1]:ASs).length)*8<=140737488355328)then
 some (Cf ATl Ad o (j.getD n.toNat Ad.zero).2.1 (j.getD n.toNat Ad.zero),q++([(j.getD n.toNat Ad.zero).2.1]:ASs))
 else
 none
 else
 some (o,q)
 else none
theorem AtH a g j k n i o q:AP YF 0 20 (sb (cd f147 504) 220) 14 (ArD a g j k n i o q) (Tc a g j k n i o q) (ApO a g j k n i o q):=by
 unfold AP;simp only[Tc,ASb];kernel_rfl
def Ua(a g:Int)(i:ATd)(j:ASx)(k n:Int)(o:ATe)(q:ASs):ATC ((Int×ATe×ASs)⊕(ATe×ASs)):=
 bif decide (n<k)then
 (Tc a g j k n i o q).bind λs=>some (.inl (wI (n+1),s.1,s.2))
 else
 some (.inr (o,q))
def Pz a g i j k (z_:Int×ATe×ASs):=Ua a g i j k z_.1 z_.2.1 z_.2.2
def WA a g i j k n o q:=fix (Pz a g i j k) (n,o,q)
theorem AtI a g i j k:A3 YF 0 14 (cd f147 504) 110 (ArE a g i j k) (Pz a g i j k) (ApP a g i j k):=by
 intro _;simp(disch:=refine id ?_;kernel_rfl) only[Pz,Ua,ASb,A8 (AtH ..) (K:=Kk YF 0 14)];kernel_rfl
def Ub(a g:Int)(i:ATd)(t:ATe)(u:ASs):ATC ((ATe×ASs)⊕ATe):=
 bif decide ((u.length:Int)>0)then
 bif (decide ((0:Int)<=0))&&(decide (0<(u.length:Int)))then
 bif (decide ((0:Int)<=1))&&(decide (1<=(u.length:Int)))then
 (WA a g i (Bv ATl ATu i (u.getD 0 ATl.zero)) ((Bv ATl ATu i (u.getD 0 ATl.zero)).length:Int) 0 t (u.drop 1)).bind λl=>some (.inl (l.1,l.2))
 else
 none
 else
 none
 else
 some (.inr t)
def PD a g i (z_:ATe×ASs):=Ub a g i z_.1 z_.2
def WB a g i t u:=fix (PD a g i) (t,u)
theorem AtJ a g i:A3 YF 0 10 (code f147) 252 (ArF a g i) (PD a g i) (ApQ a g i):=by
 intro _;simp(disch:=refine id ?_;kernel_rfl) only[PD,Ub,ASb,WA,AG (AtI _ _ _ _ _) (K:=Kk YF 0 10)];kernel_rfl
def ArC a g v w (z_:Int×ATd):=sT 116 [(1,dI a),(2,dI g),(7,.mp 0),(20,Ga v),(21,dI w),(22,dI z_.1)] [b9 z_.2 none]
def ApN a g (v:ASx) (w:Int):=λ(i:ATd)=>xE 0 116 [(1,dI a),(2,dI g),(7,.mp 0)] [b9 i none]
def Ae0 a g v w x (y:ATd) a1:=sT 116 (AjQ a g v w x) [b9 y none,.box (EA a1)]
def yg a g v w x (y:ATd) (a1:ASg):=λ(b1:ATd)=>sT 116 [(1,dI a),(2,dI g),(7,.mp 0),(20,Ga v),(21,dI w),(22,dI x)] [b9 b1 none]
def Tb(a g:Int)(v:ASx)(w x:Int)(y:ATd)(a1:ASg):ATC ATd:=
 if((Bv ATl ATu y a1.2.1).length+([(a1.2.1,a1.1,a1.2.2.1,())]:ASx).length)*24<=140737488355328 then
 bif Bf ATl a1.2.1 a1.2.1 then
 some (Cf ATl ATu y a1.2.1 ((Bv ATl ATu y a1.2.1)++([(a1.2.1,a1.1,a1.2.2.1,())]:ASx)))
 else
 none
 else none
noncomputable def yr(a g:Int)(v:ASx)(w x:Int)(y:ATd)(a1:ASg):ATC Unit:=if((Bv ATl ATu y a1.2.1).length+([(a1.2.1,a1.1,a1.2.2.1,())]:ASx).length)*24<=140737488355328 then bif Bf ATl a1.2.1 a1.2.1 then Ja (yg a g v w x y a1 (Cf ATl ATu y a1.2.1 ((Bv ATl ATu y a1.2.1)++([(a1.2.1,a1.1,a1.2.2.1,())]:ASx))))else none else none
theorem AtF(a g:Int)(v:ASx)(w x:Int)(y:ATd)(a1:ASg):Sj YF 0 6 (cd f147 116) 115 (Ae0 a g v w x y a1) (Tb a g v w x y a1) (yg a g v w x y a1):=by
 unfold Sj;have h:yI YF 0 6 (cd f147 116) (pt 115) (Ae0 a g v w x y a1) =
 if((Bv ATl ATu y a1.2.1).length+([(a1.2.1,a1.1,a1.2.2.1,())]:ASx).length)*24<=140737488355328 then bif Bf ATl a1.2.1 a1.2.1 then(((yr a g v w x y a1).bind λ_=>yr a g v w x y a1).bind λ_=>some (yg a g v w x y a1 (Cf ATl ATu y a1.2.1 ((Bv ATl ATu y a1.2.1)++([(a1.2.1,a1.1,a1.2.2.1,())]:ASx)))))else none else none:=by kernel_rfl
 rw[h];unfold Tb;simp only[ASb,mS,mO];clear h;by_cases Gb:((Bv ATl ATu y a1.2.1).length+([(a1.2.1,a1.1,a1.2.2.1,())]:ASx).length)*24<=140737488355328
 ·rw[AQe Gb,AQe Gb];cases Pp:(Bf ATl a1.2.1 a1.2.1)with
  |true =>
   simp only[AQc];simp only[yr,AQc,AQe Gb,Pp,AQJ,APW,Ja,GX]
  |false =>
   simp only[AQb]
   all_goals first |rfl |simp
 ·simp only[AQJ,AQf Gb]
def AeZ a g v w x (c1:ATd) d1:=sT 116 (AjQ a g v w x) [b9 c1 none,.box (EA d1)]
def yf a g v w x (c1:ATd) d1:=λ(y:ATd)=>sT 116 (AjQ a g v w x) [b9 y none,.box (EA d1)]
def Ta(a g:Int)(v:ASx)(w x:Int)(c1:ATd)(d1:ASg):ATC ATd:=
 if((Bv ATl ATu c1 d1.1).length+([d1]:ASx).length)*24<=140737488355328 then
 bif Bf ATl d1.1 d1.1 then
 some (Cf ATl ATu c1 d1.1 ((Bv ATl ATu c1 d1.1)++([d1]:ASx)))
 else
 none
 else none
noncomputable def yq(a g:Int)(v:ASx)(w x:Int)(c1:ATd)(d1:ASg):ATC Unit:=if((Bv ATl ATu c1 d1.1).length+([d1]:ASx).length)*24<=140737488355328 then bif Bf ATl d1.1 d1.1 then Ja (yf a g v w x c1 d1 (Cf ATl ATu c1 d1.1 ((Bv ATl ATu c1 d1.1)++([d1]:ASx))))else none else none
theorem AtE(a g:Int)(v:ASx)(w x:Int)(c1:ATd)(d1:ASg):Sj YF 0 5 (cd f147 116) 114 (AeZ a g v w x c1 d1) (Ta a g v w x c1 d1) (yf a g v w x c1 d1):=by
 unfold Sj;have h:yI YF 0 5 (cd f147 116) (pt 114) (AeZ a g v w x c1 d1) =
 if((Bv ATl ATu c1 d1.1).length+([d1]:ASx).length)*24<=140737488355328 then bif Bf ATl d1.1 d1.1 then(((yq a g v w x c1 d1).bind λ_=>yq a g v w x c1 d1).bind λ_=>some (yf a g v w x c1 d1 (Cf ATl ATu c1 d1.1 ((Bv ATl ATu c1 d1.1)++([d1]:ASx)))))else none else none:=by kernel_rfl
 rw[h];unfold Ta;simp only[ASb,mS,mO];clear h;by_cases Gb:((Bv ATl ATu c1 d1.1).length+([d1]:ASx).length)*24<=140737488355328
 ·rw[AQe Gb,AQe Gb];cases Pp:(Bf ATl d1.1 d1.1)with
  |true =>
   simp only[AQc];simp only[yq,AQc,AQe Gb,Pp,AQJ,APW,Ja,GX]
  |false =>
   simp only[AQb]
   all_goals first |rfl |simp
 ·simp only[AQJ,AQf Gb]
def T9(a g:Int)(v:ASx)(w x:Int)(c1:ATd):ATC ((Int×ATd)⊕ATd):=
 bif decide (x<w)then
 if 0<=x/\x<v.length then
 (Ta a g v w x c1 (v.getD x.toNat Ad.zero)).bind λy=>(Tb a g v w x y (v.getD x.toNat Ad.zero)).bind λb1=>some (.inl (wI (x+1),b1))
 else none
 else
 some (.inr c1)
def Py a g v w (z_:Int×ATd):=T9 a g v w z_.1 z_.2
def Wz a g v w x c1:=fix (Py a g v w) (x,c1)
theorem AtG a g v w:A3 YF 0 3 (code f147) 58 (ArC a g v w) (Py a g v w) (ApN a g v w):=by
 intro _;simp(disch:=refine id ?_;kernel_rfl) only[Py,T9,ASb,W1 (AtE ..) (K:=Kk YF 0 3),W1 (AtF ..) (K:=Kk YF 0 3)];kernel_rfl
def XK(v:ASx)(a g:Int):ATC ASs:=
 (Wz a g v (v.length:Int) 0 ([]:ATB ASQ)).bind λi=>(WB a g i (Cf ATl Ad ([]:ATB ASU) a (a,a,0,())) ([a]:ASs)).bind λb=>(aD a b g ([]:ASs)).bind λc=>if c.length<4611686018427387904 then
 some (Ow (Rq c))
 else none
def AEK:=Cc [.d ATu,.d ATl,.d ATl] [⟨[.AA [] ATu,.AA [] ATl,.AA [] ATl],[],ASs,λp=>XK p.1.1 p.1.2.1 p.1.2.2.1,λr=>(.AH 0,[Az r])⟩]
theorem Af4:Am prog 147 AEK:=As (fn:=f147) ⟨⟨YF,pk ⟨uo,uq,trivial⟩,λ_ R K=>by
 simp(disch:=refine id ?_;kernel_rfl) only[XK,ASc,Wz,AG (AtG _ _ _ _) (K:=A2 YF f147 0 R K),WB,AG (AtJ _ _ _) (K:=A2 YF f147 0 R K),aD,AG (AtL _ _) (K:=A2 YF f147 0 R K)];kernel_rfl⟩,trivial⟩
abbrev AHM:=eN [] {WO:=[.mv 0 [0],.Ba 1,.mv 0 [1],.Ba 2]}
def Bm(a:Int)(b:ASd)(c d:ASs)(e:ATb)(g:ASx):ATC (Int×ATb×ASx×ASs×ASs):=
 bif decide (b.1>=0)then
 some (b.1,e,g,c,d)
 else
 if(c.length+([(c.length:Int)]:ASs).length)*8<=140737488355328 then
 if(d.length+([(c.length:Int)]:ASs).length)*8<=140737488355328 then
 some ((c.length:Int),Cf ATl Ah e (c.length:Int) b.2.1,g,c++([(c.length:Int)]:ASs),d++([(c.length:Int)]:ASs))
 else none
 else none
def AEI:=Cc [.UY,.d AZ] [⟨[.ptr 0 [] 0,.AA [] AZ],[.box (.pr (.k Gl) (.pr (.k Qu) (.pr (.k (.mp 3)) (.pr (.k Ox) (.k .u))))),.row 2 .Av ATl,.row 2 .Av ATl,.map (.sh []) ATl Ah,.row 204 .Av Ad],Int×ATb×ASx×ASs×ASs,λp=>Bm p.1.1 p.1.2.1 p.2.2.1 p.2.2.2.1 p.2.2.2.2.1 p.2.2.2.2.2.1,λr=>(dI r.1,[.box (.pr (.AH 5) (.pr (.AH 6) (.pr (.mp 3) (.pr Ox .u)))),.Ba,.Ba,Kc r.2.1 none,C1 r.2.2.1,Az r.2.2.2.1,Az r.2.2.2.2])⟩]
theorem Af2:Am prog 144 AEI:=As (fn:=f144) ⟨⟨AHM,pk trivial,λ_ R K=>by
 simp only[Bm,ASc];kernel_rfl⟩,trivial⟩
end
end Go.Proofs.X
