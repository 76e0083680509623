import Derived.KernelRfl
import Derived.Test.YtniphlhooggimaaGreatK5
set_option linter.unusedVariables false
set_option linter.unusedSimpArgs false
namespace Go.Proofs.X
open Go Go.Va Go.Proofs.Tryz
set_option maxRecDepth 100000
noncomputable section
abbrev Q6:=eN [(161,AiF),(162,ABp),(163,ABq)] {Aw:=false,A8:=[(1,{Bb:=[0,1,2,18,19,20],mvp:=[(0,[3])]}),(9,{Bb:=[0,8,9,10],RF:=[(8,false,APA),(9,false,APA)]})],BW:=[(1,[0,1,2]),(9,{Bb:=[]})],BS:=[(6,{Bb:=[0,1,2,18,19,20],mvp:=[(0,[3])]}),(10,[0,8,9,10]),(13,[0,8,9,10,11,12,61]),(15,[0,8,9,10,11,12,76]),(17,[0,8,9,10,11,12,91])],aJ:=[(11,{Bb:=[0,8,9,10,11,12],X3:=true}),(17,{Bb:=[0,8,9,10,13,14],X3:=true}),(18,{Bb:=[0,8,9,10,13,14],X3:=true}),(19,{Bb:=[0,8,9,10],X3:=true})],DD:=[(6,[0,1,2,18,19,20]),(10,[0,8,9,10]),(13,[0,8,9,10,11,12]),(15,[0,8,9,10,11,12]),(17,[0,8,9,10,11,12])],dL:=[(11,[0,8,9,10]),(17,[0,8,9,10,11,12]),(18,[0,8,9,10,13,14]),(19,[0,8,9,10,13,14])],cQ:=[(17,APE)]}
def Ail(a:Int) b c d (z_:Int×AOE×AOO×APf×AOC):=sT 132 (uY a b c z_.1) (j6 z_.2.1 d z_.2.2.1 z_.2.2.2.1 z_.2.2.2.2)
def Aij(a:Int)(b c:AOD) d:=λ(e:APn)=>xE 2 132 [] (j6 e.1 d e.2.1 e.2.2.1 e.2.2.2)
def Aik(a:Int) b c g i d j (k:APf) l:=sT 132 (uY a b c g) (j6 i d j k l)
def Aii(a:Int) b c g (i:AOE) d (j:AOO) (k:APf) (l:AOC):=λ(n:APn)=>xN 132 (uY a b c g) (j6 n.1 d n.2.1 n.2.2.1 n.2.2.2)
def AcW(a:Int) b c g i d j (o:APf) l q s t u:=sT 132 (Aad a b c g) (Aae i d j o q s t u l)
def vN(a:Int) b c g i d j (o:APf) l (q:Int) (s:Int) (t:Int) (u:Int):=λ(v:APf)=>sT 132 (uY a b c g) (j6 i d j v l)
def DZ(a:Int)(b c:AOD)(g:Int)(i:AOE)(d:APm)(j:AOO)(o:APf)(l:AOC)(q s t u:Int):APJ APf:=
 if((Bn Aa APv o (t,u,())).length+([(q,s,())]:AOC).length)*16<=140737488355328 then
 bif VP Aa APv (Ch Aa APv o (t,u,()) (Bn Aa APv o (t,u,()))) (t,u,()) (Xc Aa APv o (t,u,()))then
 bif Bd Aa (t,u,()) (t,u,())then
 some (Ch Aa APv (Ch Aa APv o (t,u,()) (Bn Aa APv o (t,u,()))) (t,u,()) ((Bn Aa APv o (t,u,()))++([(q,s,())]:AOC)))
 else
 none
 else
 none
 else none
noncomputable def vZ(a:Int)(b c:AOD)(g:Int)(i:AOE)(d:APm)(j:AOO)(o:APf)(l:AOC)(q s t u:Int):APJ Unit:=if((Bn Aa APv o (t,u,())).length+([(q,s,())]:AOC).length)*16<=140737488355328 then bif VP Aa APv (Ch Aa APv o (t,u,()) (Bn Aa APv o (t,u,()))) (t,u,()) (Xc Aa APv o (t,u,()))then bif Bd Aa (t,u,()) (t,u,())then Jq (vN a b c g i d j o l q s t u (Ch Aa APv (Ch Aa APv o (t,u,()) (Bn Aa APv o (t,u,()))) (t,u,()) ((Bn Aa APv o (t,u,()))++([(q,s,())]:AOC))))else none else none else none
theorem Ap4(a:Int)(b c:AOD)(g:Int)(i:AOE)(d:APm)(j:AOO)(o:APf)(l:AOC)(q s t u:Int):SJ Q6 5 19 (sb (cd f140 60) 6) 2811 (AcW a b c g i d j o l q s t u) (DZ a b c g i d j o l q s t u) (vN a b c g i d j o l q s t u):=by
 unfold SJ;have h:yK Q6 5 19 (sb (cd f140 60) 6) (pt 2811) (AcW a b c g i d j o l q s t u) =
 if((Bn Aa APv o (t,u,())).length+([(q,s,())]:AOC).length)*16<=140737488355328 then bif VP Aa APv (Ch Aa APv o (t,u,()) (Bn Aa APv o (t,u,()))) (t,u,()) (Xc Aa APv o (t,u,()))then bif Bd Aa (t,u,()) (t,u,())then(((vZ a b c g i d j o l q s t u).bind λ_=>vZ a b c g i d j o l q s t u).bind λ_=>some (vN a b c g i d j o l q s t u (Ch Aa APv (Ch Aa APv o (t,u,()) (Bn Aa APv o (t,u,()))) (t,u,()) ((Bn Aa APv o (t,u,()))++([(q,s,())]:AOC)))))else none else none else none:=by kernel_rfl
 rw[h];unfold DZ;simp only[AOi,mS,mO];clear h;by_cases Hf:((Bn Aa APv o (t,u,())).length+([(q,s,())]:AOC).length)*16<=140737488355328
 ·rw[AMo Hf,AMo Hf];cases PQ:(VP Aa APv (Ch Aa APv o (t,u,()) (Bn Aa APv o (t,u,()))) (t,u,()) (Xc Aa APv o (t,u,())))with
  |true =>
   simp only[AMm];cases vn:(Bd Aa (t,u,()) (t,u,()))with
   |true =>
    simp only[AMm];simp only[vZ,AMm,AMo Hf,PQ,vn,AMR,AL6,Jq,HF]
   |false =>
    simp only[AMl]
    all_goals first |rfl |simp
  |false =>
   simp only[AMl]
   all_goals first |rfl |simp
 ·simp only[AMR,AMp Hf]
def AcV(a:Int) b c g i d j (k:APf) l w x y a1:=sT 132 (Aad a b c g) (Aae i d j k w x y a1 l)
def vM(a:Int) b c g i d j (k:APf) l w x y a1:=λ(o:APf)=>sT 132 (Aad a b c g) (Aae i d j o w x y a1 l)
def DY(a:Int)(b c:AOD)(g:Int)(i:AOE)(d:APm)(j:AOO)(k:APf)(l:AOC)(w x y a1:Int):APJ APf:=
 if((Bn Aa APv k (w,x,())).length+([(y,a1,())]:AOC).length)*16<=140737488355328 then
 bif VP Aa APv (Ch Aa APv k (w,x,()) (Bn Aa APv k (w,x,()))) (w,x,()) (Xc Aa APv k (w,x,()))then
 bif Bd Aa (w,x,()) (w,x,())then
 some (Ch Aa APv (Ch Aa APv k (w,x,()) (Bn Aa APv k (w,x,()))) (w,x,()) ((Bn Aa APv k (w,x,()))++([(y,a1,())]:AOC)))
 else
 none
 else
 none
 else none
noncomputable def vY(a:Int)(b c:AOD)(g:Int)(i:AOE)(d:APm)(j:AOO)(k:APf)(l:AOC)(w x y a1:Int):APJ Unit:=if((Bn Aa APv k (w,x,())).length+([(y,a1,())]:AOC).length)*16<=140737488355328 then bif VP Aa APv (Ch Aa APv k (w,x,()) (Bn Aa APv k (w,x,()))) (w,x,()) (Xc Aa APv k (w,x,()))then bif Bd Aa (w,x,()) (w,x,())then Jq (vM a b c g i d j k l w x y a1 (Ch Aa APv (Ch Aa APv k (w,x,()) (Bn Aa APv k (w,x,()))) (w,x,()) ((Bn Aa APv k (w,x,()))++([(y,a1,())]:AOC))))else none else none else none
theorem Ap3(a:Int)(b c:AOD)(g:Int)(i:AOE)(d:APm)(j:AOO)(k:APf)(l:AOC)(w x y a1:Int):SJ Q6 5 18 (sb (cd f140 60) 6) 2810 (AcV a b c g i d j k l w x y a1) (DY a b c g i d j k l w x y a1) (vM a b c g i d j k l w x y a1):=by
 unfold SJ;have h:yK Q6 5 18 (sb (cd f140 60) 6) (pt 2810) (AcV a b c g i d j k l w x y a1) =
 if((Bn Aa APv k (w,x,())).length+([(y,a1,())]:AOC).length)*16<=140737488355328 then bif VP Aa APv (Ch Aa APv k (w,x,()) (Bn Aa APv k (w,x,()))) (w,x,()) (Xc Aa APv k (w,x,()))then bif Bd Aa (w,x,()) (w,x,())then(((vY a b c g i d j k l w x y a1).bind λ_=>vY a b c g i d j k l w x y a1).bind λ_=>some (vM a b c g i d j k l w x y a1 (Ch Aa APv (Ch Aa APv k (w,x,()) (Bn Aa APv k (w,x,()))) (w,x,()) ((Bn Aa APv k (w,x,()))++([(y,a1,())]:AOC)))))else none else none else none:=by kernel_rfl
 rw[h];unfold DY;simp only[AOi,mS,mO];clear h;by_cases Hf:((Bn Aa APv k (w,x,())).length+([(y,a1,())]:AOC).length)*16<=140737488355328
 ·rw[AMo Hf,AMo Hf];cases PQ:(VP Aa APv (Ch Aa APv k (w,x,()) (Bn Aa APv k (w,x,()))) (w,x,()) (Xc Aa APv k (w,x,())))with
  |true =>
   simp only[AMm];cases vn:(Bd Aa (w,x,()) (w,x,()))with
   |true =>
    simp only[AMm];simp only[vY,AMm,AMo Hf,PQ,vn,AMR,AL6,Jq,HF]
   |false =>
    simp only[AMl]
    all_goals first |rfl |simp
  |false =>
   simp only[AMl]
   all_goals first |rfl |simp
 ·simp only[AMR,AMp Hf]
def AcU(a:Int) b c g i d j (k:APf) l b1 c1:=sT 132 (uZ a b c g) [.box (.pr (Au i) cq),CP d,Ca j,Hb k none,.A9,.box (Ei b1),.box (Ei c1),Fa l]
def nM(a:Int) b c g i d j (k:APf) l (b1:AOm) (c1:AOm):=λ(d1:(Int×Int×Int×Int))=>sT 132 (Aad a b c g) (Aae i d j k d1.1 d1.2.1 d1.2.2.1 d1.2.2.2 l)
def Nw(a:Int)(b c:AOD)(g:Int)(i:AOE)(d:APm)(j:AOO)(k:APf)(l:AOC)(b1 c1:AOm):APJ (Int×Int×Int×Int):=
 some (b1.2.1,b1.2.2.1,c1.2.1,c1.2.2.1)
theorem Ap2(a:Int)(b c:AOD)(g:Int)(i:AOE)(d:APm)(j:AOO)(k:APf)(l:AOC)(b1 c1:AOm):SJ Q6 5 17 (sb (cd f140 60) 6) 1404 (AcU a b c g i d j k l b1 c1) (Nw a b c g i d j k l b1 c1) (nM a b c g i d j k l b1 c1):=by
 unfold SJ;have h:yK Q6 5 17 (sb (cd f140 60) 6) (pt 1404) (AcU a b c g i d j k l b1 c1) =
 (((Jq (nM a b c g i d j k l b1 c1 (b1.2.1,b1.2.2.1,c1.2.1,c1.2.2.1))).bind λ_=>Jq (nM a b c g i d j k l b1 c1 (b1.2.1,b1.2.2.1,c1.2.1,c1.2.2.1))).bind λ_=>some (nM a b c g i d j k l b1 c1 (b1.2.1,b1.2.2.1,c1.2.1,c1.2.2.1))):=by kernel_rfl
 rw[h];unfold Nw;simp only[AOi,mS,mO];clear h;simp only[AMR,AL6,Jq,HF]
def AcT(a:Int) b c g i d j (k:APf) l:=sT 132 (uZ a b c g) [.box (.pr (Au i) cq),CP d,Ca j,Hb k none,.A9,.box (Ei (b.getD g.toNat Ab.zero)),.box (Ei (c.getD g.toNat Ab.zero)),Fa l]
def vL(a:Int)(b c:AOD)(g:Int)(i:AOE)(d:APm)(j:AOO)(k:APf)(l:AOC)(m0:Bool):Ex×St:=xN 132 [(0,.ptr 0 a [] 0),(8,FX b),(9,FX c),(10,dI g),(11,NH),(12,WU),(91,dB m0)] [.box (.pr (Au i) cq),CP d,Ca j,Hb k none,.A9,.box (Ei (b.getD g.toNat Ab.zero)),.box (Ei (c.getD g.toNat Ab.zero)),Fa l]
theorem Ap1 a b c g i d j k l:Xn Q6 5 17 (sb (cd f140 60) 6) (pt 350) (AcT a b c g i d j k l)=some (vL a b c g i d j k l (((b.getD g.toNat Ab.zero).1==1)&&((c.getD g.toNat Ab.zero).1==1))):=by
 refine .trans (b:=
 bif (b.getD g.toNat Ab.zero).1==1 then
 some (vL a b c g i d j k l ((c.getD g.toNat Ab.zero).1==1))
 else
 some (vL a b c g i d j k l false)) (by kernel_rfl) ?_
 cases ((b.getD g.toNat Ab.zero).1==1);rfl;rfl
def AcS(a:Int) b c g i d j (k:APf) l:=sT 132 (uZ a b c g) [.box (.pr (Au i) cq),CP d,Ca j,Hb k none,.A9,.box (Ei (b.getD g.toNat Ab.zero)),.box (Ei (c.getD g.toNat Ab.zero)),Fa l]
def vK(a:Int)(b c:AOD)(g:Int)(i:AOE)(d:APm)(j:AOO)(k:APf)(l:AOC)(m0:Bool):Ex×St:=xN 132 [(0,.ptr 0 a [] 0),(8,FX b),(9,FX c),(10,dI g),(11,NH),(12,WU),(76,dB m0)] [.box (.pr (Au i) cq),CP d,Ca j,Hb k none,.A9,.box (Ei (b.getD g.toNat Ab.zero)),.box (Ei (c.getD g.toNat Ab.zero)),Fa l]
theorem Ap0 a b c g i d j k l:Xn Q6 5 15 (sb (cd f140 60) 6) (pt 86) (AcS a b c g i d j k l)=some (vK a b c g i d j k l (((b.getD g.toNat Ab.zero).1==1)&&((c.getD g.toNat Ab.zero).1==0))):=by
 refine .trans (b:=
 bif (b.getD g.toNat Ab.zero).1==1 then
 some (vK a b c g i d j k l ((c.getD g.toNat Ab.zero).1==0))
 else
 some (vK a b c g i d j k l false)) (by kernel_rfl) ?_
 cases ((b.getD g.toNat Ab.zero).1==1);rfl;rfl
def AcR(a:Int) b c g i d j (k:APf) l:=sT 132 (uZ a b c g) [.box (.pr (Au i) cq),CP d,Ca j,Hb k none,.A9,.box (Ei (b.getD g.toNat Ab.zero)),.box (Ei (c.getD g.toNat Ab.zero)),Fa l]
def vJ(a:Int)(b c:AOD)(g:Int)(i:AOE)(d:APm)(j:AOO)(k:APf)(l:AOC)(m0:Bool):Ex×St:=xN 132 [(0,.ptr 0 a [] 0),(8,FX b),(9,FX c),(10,dI g),(11,NH),(12,WU),(61,dB m0)] [.box (.pr (Au i) cq),CP d,Ca j,Hb k none,.A9,.box (Ei (b.getD g.toNat Ab.zero)),.box (Ei (c.getD g.toNat Ab.zero)),Fa l]
theorem ApZ a b c g i d j k l:Xn Q6 5 13 (sb (cd f140 60) 6) (pt 20) (AcR a b c g i d j k l)=some (vJ a b c g i d j k l (((b.getD g.toNat Ab.zero).1==0)&&((c.getD g.toNat Ab.zero).1==1))):=by
 refine .trans (b:=
 bif (b.getD g.toNat Ab.zero).1==0 then
 some (vJ a b c g i d j k l ((c.getD g.toNat Ab.zero).1==1))
 else
 some (vJ a b c g i d j k l false)) (by kernel_rfl) ?_
 cases ((b.getD g.toNat Ab.zero).1==0);rfl;rfl
def AcQ(a:Int) b c g i d j (k:APf) l:=sT 132 (uY a b c g) (j6 i d j k l)
def vI(a:Int) b c g i d j (k:APf) l:=λ(e1:Unit)=>sT 132 (uZ a b c g) [.box (.pr (Au i) cq),CP d,Ca j,Hb k none,.A9,.box (Ei (b.getD g.toNat Ab.zero)),.box (Ei (c.getD g.toNat Ab.zero)),Fa l]
def Iz(a:Int)(b c:AOD)(g:Int)(i:AOE)(d:APm)(j:AOO)(k:APf)(l:AOC):APJ Unit:=
 if 0<=g/\g<b.length then
 if 0<=g/\g<c.length then
 some ()
 else none
 else none
noncomputable def F9(a:Int)(b c:AOD)(g:Int)(i:AOE)(d:APm)(j:AOO)(k:APf)(l:AOC):APJ Unit:=Jq (vI a b c g i d j k l ())
def R1(w:APJ Unit):APJ Unit:=cc w w
theorem ApY(a:Int)(b c:AOD)(g:Int)(i:AOE)(d:APm)(j:AOO)(k:APf)(l:AOC):SJ Q6 5 11 (sb (cd f140 60) 6) 4 (AcQ a b c g i d j k l) (Iz a b c g i d j k l) (vI a b c g i d j k l):=by
 unfold SJ;have h:yK Q6 5 11 (sb (cd f140 60) 6) (pt 4) (AcQ a b c g i d j k l) =
 if 0<=g/\g<b.length then if 0<=g/\g<c.length then((if 0<=g/\g<b.length then if 0<=g/\g<c.length then((R1 (F9 a b c g i d j k l)).bind λ_=>((F9 a b c g i d j k l).bind λ_=>(F9 a b c g i d j k l).bind λ_=>(F9 a b c g i d j k l)).bind λ_=>(F9 a b c g i d j k l).bind λ_=>(F9 a b c g i d j k l).bind λ_=>(F9 a b c g i d j k l)).bind λ_=>((R1 (F9 a b c g i d j k l)).bind λ_=>(R1 (F9 a b c g i d j k l)).bind λ_=>(F9 a b c g i d j k l).bind λ_=>(F9 a b c g i d j k l)).bind λ_=>(((F9 a b c g i d j k l).bind λ_=>(F9 a b c g i d j k l).bind λ_=>(F9 a b c g i d j k l)).bind λ_=>(R1 (F9 a b c g i d j k l)).bind λ_=>(R1 (F9 a b c g i d j k l)).bind λ_=>(F9 a b c g i d j k l)).bind λ_=>((F9 a b c g i d j k l).bind λ_=>(F9 a b c g i d j k l).bind λ_=>(F9 a b c g i d j k l)).bind λ_=>(R1 (F9 a b c g i d j k l)).bind λ_=>(R1 (F9 a b c g i d j k l)).bind λ_=>(F9 a b c g i d j k l)else none else none).bind λ_=>some (vI a b c g i d j k l ()))else none else none:=by kernel_rfl
 rw[h];unfold Iz;simp only[AOi,mS,mO];clear h;by_cases Hf:(0:Int)<=g/\g<(b.length:Int)
 ·rw[AMo Hf,AMo Hf];by_cases PQ:(0:Int)<=g/\g<(c.length:Int)
  ·rw[AMo PQ,AMo PQ];simp only[R1,cc,F9,AMm,AMo Hf,AMo PQ,AMR,AL6,Jq,HF]
  ·simp only[AMo Hf,AMR,AMp PQ]
 ·simp only[AMR,AMp Hf]
def EV(a:Int)(b c:AOD)(g:Int)(i:AOE)(d:APm)(j:AOO)(k:APf)(l:AOC):APJ APn:=
 (Iz a b c g i d j k l).bind λe1=>PD (AcR a b c g i d j k l) (
 bif ((b.getD g.toNat Ab.zero).1==0)&&((c.getD g.toNat Ab.zero).1==1)then
 (BG a (c.getD g.toNat Ab.zero).2.1 (c.getD g.toNat Ab.zero).2.2.1 i j l).bind λg1=>some (g1.1,g1.2.1,k,g1.2.2)
 else
 PD (AcS a b c g i d j k l) (
 bif ((b.getD g.toNat Ab.zero).1==1)&&((c.getD g.toNat Ab.zero).1==0)then
 (BG a (b.getD g.toNat Ab.zero).2.1 (b.getD g.toNat Ab.zero).2.2.1 i j l).bind λi1=>some (i1.1,i1.2.1,k,i1.2.2)
 else
 PD (AcT a b c g i d j k l) (
 bif ((b.getD g.toNat Ab.zero).1==1)&&((c.getD g.toNat Ab.zero).1==1)then
 (Nw a b c g i d j k l (b.getD g.toNat Ab.zero) (c.getD g.toNat Ab.zero)).bind λd1=>(DY a b c g i d j k l d1.1 d1.2.1 d1.2.2.1 d1.2.2.2).bind λo=>(DZ a b c g i d j o l d1.1 d1.2.1 d1.2.2.1 d1.2.2.2).bind λv=>some (i,j,v,l)
 else
 some (i,j,k,l))))
theorem Aim a b c g i d j k l:AY Q6 5 10 (cd f140 60) 6 (Aik a b c g i d j k l) (EV a b c g i d j k l) (Aii a b c g i d j k l):=by
 unfold AY;simp(disch:=refine id ?_;kernel_rfl) only[EV,AOi,W2 (ApY ..) (K:=UH Q6 5 10),Ft (ApZ ..) (K:=UH Q6 5 10),Ft (Ap0 ..) (K:=UH Q6 5 10),Ft (Ap1 ..) (K:=UH Q6 5 10),W2 (Ap2 ..) (K:=UH Q6 5 10),W2 (Ap3 ..) (K:=UH Q6 5 10),W2 (Ap4 ..) (K:=UH Q6 5 10)];kernel_rfl
def Gg(a:Int)(b c:AOD)(d:APm)(g:Int)(i:AOE)(j:AOO)(k:APf)(l:AOC):APJ ((Int×AOE×AOO×APf×AOC)⊕APn):=
 bif decide (g<(b.length:Int))then
 (EV a b c g i d j k l).bind λn=>some (.inl (wI (g+1),n.1,n.2.1,n.2.2.1,n.2.2.2))
 else
 some (.inr (i,j,k,l))
def CZ a b c d (z_:Int×AOE×AOO×APf×AOC):=Gg a b c d z_.1 z_.2.1 z_.2.2.1 z_.2.2.2.1 z_.2.2.2.2
def L4 a b c d g i j k l:=fix (CZ a b c d) (g,i,j,k,l)
theorem Ain a b c d:A4 Q6 5 9 (code f140) 30 (Ail a b c d) (CZ a b c d) (Aij a b c d):=by
 intro _;simp(disch:=refine id ?_;kernel_rfl) only[CZ,Gg,AOi,Bc (Aim ..) (K:=KJ Q6 5 9)];kernel_rfl
def Aoo(a:Int) j1 k1 d (l1:APf) n1 o1 (z_:Int×AOE×AOO×AOC):=sT 132 (AhH a j1 k1 o1 z_.1) (AhI z_.2.1 d z_.2.2.1 l1 n1 z_.2.2.2)
def AmQ(a:Int) j1 k1 d (l1:APf) (n1:AOF) (o1:Int):=λ(q1:AOZ)=>xE 0 132 [(0,.ptr 0 a [] 0),(1,.AB [1] APu j1),(2,.AB [1] APu k1)] (j6 q1.1 d q1.2.1 l1 q1.2.2)
def Aon(a:Int) j1 k1 o1 s1 t1 d u1 (l1:APf) n1 v1:=sT 132 (AhH a j1 k1 o1 s1) (AhI t1 d u1 l1 n1 v1)
def AmP(a:Int) j1 k1 o1 s1 (t1:AOE) d (u1:AOO) (l1:APf) n1 (v1:AOC):=λ(w1:AOZ)=>xN 132 (AhH a j1 k1 o1 s1) (AhI w1.1 d w1.2.1 l1 n1 w1.2.2)
def F4(a:Int)(j1 k1:AOF)(o1 s1:Int)(t1:AOE)(d:APm)(u1:AOO)(l1:APf)(n1:AOF)(v1:AOC):APJ AOZ:=
 if 0<=s1/\s1<n1.length then
 bif decide ((n1.getD s1.toNat Ae.zero).1>=0)then
 (BG a (n1.getD s1.toNat Ae.zero).1 (n1.getD s1.toNat Ae.zero).2.1 t1 u1 v1).bind λx1=>(BG a (n1.getD s1.toNat Ae.zero).1 (wI ((n1.getD s1.toNat Ae.zero).2.1+(n1.getD s1.toNat Ae.zero).2.2.1)) x1.1 x1.2.1 x1.2.2).bind λy1=>some (y1.1,y1.2.1,y1.2.2)
 else
 some (t1,u1,v1)
 else none
theorem ApW a j1 k1 o1 s1 t1 d u1 l1 n1 v1:AY Q6 5 6 (cd f140 20) 14 (Aon a j1 k1 o1 s1 t1 d u1 l1 n1 v1) (F4 a j1 k1 o1 s1 t1 d u1 l1 n1 v1) (AmP a j1 k1 o1 s1 t1 d u1 l1 n1 v1):=by
 unfold AY;simp only[F4,AOi];kernel_rfl
def Hj(a:Int)(j1 k1:AOF)(d:APm)(l1:APf)(n1:AOF)(o1 s1:Int)(t1:AOE)(u1:AOO)(v1:AOC):APJ (APc⊕AOZ):=
 bif decide (s1<o1)then
 (F4 a j1 k1 o1 s1 t1 d u1 l1 n1 v1).bind λw1=>some (.inl (wI (s1+1),w1.1,w1.2.1,w1.2.2))
 else
 some (.inr (t1,u1,v1))
def Db a j1 k1 d l1 n1 o1 (z_:Int×AOE×AOO×AOC):=Hj a j1 k1 d l1 n1 o1 z_.1 z_.2.1 z_.2.2.1 z_.2.2.2
def Nv a j1 k1 d l1 n1 o1 s1 t1 u1 v1:=fix (Db a j1 k1 d l1 n1 o1) (s1,t1,u1,v1)
theorem ApX a j1 k1 d l1 n1 o1:A4 Q6 5 1 (code f140) 10 (Aoo a j1 k1 d l1 n1 o1) (Db a j1 k1 d l1 n1 o1) (AmQ a j1 k1 d l1 n1 o1):=by
 intro _;simp(disch:=refine id ?_;kernel_rfl) only[Db,Hj,AOi,Bc (ApW ..) (K:=KJ Q6 5 1)];kernel_rfl
def I0(a:Int)(j1 k1:AOF)(a2:AOE)(d:APm)(b2:AOO)(l1:APf)(c2:AOC):APJ (AOE×APm×AOO×APf×AOC):=
 (H5 ([j1,k1]:AOQ)).bind λn1=>(Nv a j1 k1 d l1 n1 (n1.length:Int) 0 a2 b2 c2).bind λq1=>(JJ j1).bind λb=>(JJ k1).bind λc=>(L4 a b c d 1 q1.1 q1.2.1 l1 q1.2.2).bind λe=>some (e.1,d,e.2.1,e.2.2.1,e.2.2.2)
def AA7:=Cx [.WH,.WH,.WH] [⟨[.ptr 0 [] 0,.AB [1] APu,.AB [1] APu],[.box (.pr (.AB [] APx) (.pr (.k UC) (.pr (.k (.mp 3)) (.pr (.k KB) (.k .u))))),.row 222 .Aw (.AE APu (.AE APu .unit)),.row 95 .Aw APy,.map .Aw Aa APv,.row 227 .Aw Aa],AOE×APm×AOO×APf×AOC,λp=>I0 p.1.1 p.1.2.1 p.1.2.2.1 p.2.1.1 p.2.2.1 p.2.2.2.1 p.2.2.2.2.1 p.2.2.2.2.2.1,λr=>(.nil,[.box (.pr (Au r.1) Al3),CP r.2.1,Ca r.2.2.1,Hb r.2.2.2.1 none,.A9,Fa r.2.2.2.2])⟩]
theorem Ad0:Aq prog 140 AA7:=Av (fn:=f140) ⟨⟨Q6,pk ⟨gT,Aei,Aej,trivial⟩,λ_ R K=>by
 simp(disch:=refine id ?_;kernel_rfl) only[I0,AOj,Nv,AH (ApX _ _ _ _ _ _ _) (K:=A2 Q6 f140 5 R K),L4,AH (Ain _ _ _ _) (K:=A2 Q6 f140 5 R K)];kernel_rfl⟩,trivial⟩
abbrev ag:=eN [(161,AiF)] {take:=[37],A8:=[(1,{Bb:=[0,2],mvp:=[(0,[3])]}),(6,[0,2,45,46,47]),(12,[2,7,68,69,70]),(15,[2,7,8,68,69,70,75,76,77])],BW:=[(1,[0,2]),(6,[0,2]),(12,[2,7]),(15,[2,7,68,69,70])],BS:=[(19,[2,7,8,68,69,70,75,76,77])],aJ:=[(18,{Bb:=[2,7,8,68,69,70,75,76,77],X3:=true})],DD:=[(19,[2,7,8,68,69,70,75,76,77])],dL:=[(18,[2,7,8,10,68,69,70,75,76,77])],stl:=[90]}
def Aot(a:APf) b c d e (z_:Int×AON):=sT 98 [(2,RD),(7,NH),(68,.AG 1),(69,dI b),(70,dI z_.1)] (j7 c d a e z_.2)
def AmV(a:APf)(b:Int) c d e:=λ(g:AON)=>xE 4 98 [(2,RD),(7,NH)] (j7 c d a e g)
def Aos i b c d (a:APf) e j k (z_:Int×AON):=sT 98 (Aaf i b i j k z_.1) (j7 c d a e z_.2)
def AmU i b c d (a:APf) e (j:AOA) (k:Int):=λ(l:AON)=>xE 6 98 [(2,RD),(7,NH),(68,.AG 1),(69,dI b),(70,dI i)] (j7 c d a e l)
def Aor i b j k n c d (a:APf) e o:=sT 98 (Aaf i b i j k n) (j7 c d a e o)
def AmT i b j k n c d (a:APf) e (o:AON):=λ(q:AON)=>xN 98 (Aaf i b i j k n) (j7 c d a e q)
def AcX i n b j k c d (a:APf) e o:=sT 98 [(2,RD),(7,NH),(8,dI i),(10,dI n),(68,.AG 1),(69,dI b),(70,dI i),(75,.AB [1] APy j),(76,dI k),(77,dI n)] (j7 c d a e o)
def nN i n b j k c d (a:APf) e (o:AON):=λ(s:Unit)=>sT 98 (Aaf i b i j k n) [.box (.pr (Au c) Al2),Ca d,Hb a none,.A9,.box UK,.box x7,Fa e,Dh (o.set i.toNat ((o.getD i.toNat APw.zero)++([n]:AOz)))]
def HT(i n b:Int)(j:AOA)(k:Int)(c:AOE)(d:AOO)(a:APf)(e:AOC)(o:AON):APJ Unit:=
 if 0<=i/\i<o.length then
 if((o.getD i.toNat APw.zero).length+([n]:AOz).length)*8<=140737488355328 then
 if 0<=i/\i<o.length then
 if i=i then
 some ()
 else none
 else none
 else none
 else none
theorem Ap7(i n b:Int)(j:AOA)(k:Int)(c:AOE)(d:AOO)(a:APf)(e:AOC)(o:AON):SJ ag 4 18 (sb (sb (cd f141 244) 460) 14) 22 (AcX i n b j k c d a e o) (HT i n b j k c d a e o) (nN i n b j k c d a e o):=by
 unfold SJ;have h:yK ag 4 18 (sb (sb (cd f141 244) 460) 14) (pt 22) (AcX i n b j k c d a e o) =
 if 0<=i/\i<o.length then
 if((o.getD i.toNat APw.zero).length+([n]:AOz).length)*8<=140737488355328 then
 if 0<=i/\i<o.length then
 if i=i then
 ((if 0<=i/\i<o.length then
 (if((o.getD i.toNat APw.zero).length+([n]:AOz).length)*8<=140737488355328 then
 if 0<=i/\i<o.length then
 if i=i then
 Jq (nN i n b j k c d a e o ())
 else none
 else none
 else none).bind λ_=>if((o.getD i.toNat APw.zero).length+([n]:AOz).length)*8<=140737488355328 then
 if 0<=i/\i<o.length then
 if i=i then
 Jq (nN i n b j k c d a e o ())
 else none
 else none
 else none
 else none).bind λ_=>some (nN i n b j k c d a e o ()))
 else none
 else none
 else none
 else none:=by kernel_rfl
 rw[h];unfold HT;simp only[AOi,mS,mO];clear h;by_cases Hf:(0:Int)<=i/\i<(o.length:Int)
 ·rw[AMo Hf,AMo Hf];by_cases PQ:((o.getD i.toNat APw.zero).length+([n]:AOz).length)*8<=140737488355328
  ·rw[AMo PQ,AMo PQ];simp only[AMo Hf,AMo PQ,AMR,AL6,Jq,HF]
  ·simp only[AMo Hf,AMR,AMp PQ]
 ·simp only[AMR,AMp Hf]
def EU(i b:Int)(j:AOA)(k n:Int)(c:AOE)(d:AOO)(a:APf)(e:AOC)(o:AON):APJ AON:=
 if 0<=n/\n<j.length then
 bif j.getD n.toNat (Ty.zero .bool)then
 (HT i n b j k c d a e o).bind λs=>some (o.set i.toNat ((o.getD i.toNat APw.zero)++([n]:AOz)))
 else
 some o
 else none
theorem Ap8 i b j k n c d a e o:AY ag 4 19 (sb (cd f141 244) 460) 14 (Aor i b j k n c d a e o) (EU i b j k n c d a e o) (AmT i b j k n c d a e o):=by
 unfold AY;simp(disch:=refine id ?_;kernel_rfl) only[EU,AOi,W2 (Ap7 ..) (K:=UH ag 4 19)];kernel_rfl
def Ge(i b:Int)(c:AOE)(d:AOO)(a:APf)(e:AOC)(j:AOA)(k n:Int)(o:AON):APJ ((Int×AON)⊕AON):=
 bif decide (n<k)then
 (EU i b j k n c d a e o).bind λq=>some (.inl (wI (n+1),q))
 else
 some (.inr o)
def CX i b c d a e j k (z_:Int×AON):=Ge i b c d a e j k z_.1 z_.2
def L0 i b c d a e j k n o:=fix (CX i b c d a e j k) (n,o)
theorem Ap9 i b c d a e j k:A4 ag 4 15 (cd f141 244) 230 (Aos i b c d a e j k) (CX i b c d a e j k) (AmU i b c d a e j k):=by
 intro _;simp(disch:=refine id ?_;kernel_rfl) only[CX,Ge,AOi,Bc (Ap8 ..) (K:=KJ ag 4 15)];kernel_rfl
def Gf(a:APf)(b:Int)(c:AOE)(d:AOO)(e:AOC)(i:Int)(t:AON):APJ ((Int×AON)⊕AON):=
 bif decide (i<b)then
 if 0<=i/\i<d.length then
 (L0 i b c d a e (d.getD i.toNat APy.zero) ((d.getD i.toNat APy.zero).length:Int) 0 t).bind λl=>some (.inl (wI (i+1),l))
 else none
 else
 some (.inr t)
def CY a b c d e (z_:Int×AON):=Gf a b c d e z_.1 z_.2
def L3 a b c d e i t:=fix (CY a b c d e) (i,t)
theorem Aqa a b c d e:A4 ag 4 12 (code f141) 122 (Aot a b c d e) (CY a b c d e) (AmV a b c d e):=by
 intro _;simp(disch:=refine id ?_;kernel_rfl) only[CY,Gf,AOi,L0,AH (Ap9 _ _ _ _ _ _ _ _) (K:=KJ ag 4 12)];kernel_rfl
def Aoq(u:Int)(a:APf)(z_:AOE×AOO×AOC):=sT 98 [(0,.ptr 0 u [] 0),(2,RD)] (Aag z_.1 z_.2.1 a z_.2.2)
def AmS(u:Int)(a:APf):=λ(v:AOZ)=>xE 0 98 [(0,.ptr 0 u [] 0),(2,RD)] (Aag v.1 v.2.1 a v.2.2)
def Aop(u:Int)(a:APf) w x (z_:Int×AOE×AOO×AOC):=sT 98 [(0,.ptr 0 u [] 0),(2,RD),(45,.AB [2] APv w),(46,dI x),(47,dI z_.1)] (Aag z_.2.1 z_.2.2.1 a z_.2.2.2)
def AmR(u:Int)(a:APf)(w:AOC)(x:Int):=λ(y:AOZ)=>xE 2 98 [(0,.ptr 0 u [] 0),(2,RD)] (Aag y.1 y.2.1 a y.2.2)
def Gb(u:Int)(a:APf)(w:AOC)(x a1:Int)(b1:AOE)(c1:AOO)(d1:AOC):APJ (APc⊕AOZ):=
 bif decide (a1<x)then
 if 0<=a1/\a1<w.length then
 (BG u (w.getD a1.toNat Aa.zero).1 (w.getD a1.toNat Aa.zero).2.1 b1 c1 d1).bind λe1=>some (.inl (wI (a1+1),e1.1,e1.2.1,e1.2.2))
 else none
 else
 some (.inr (b1,c1,d1))
def CW u a w x (z_:Int×AOE×AOO×AOC):=Gb u a w x z_.1 z_.2.1 z_.2.2.1 z_.2.2.2
def HS u a w x a1 b1 c1 d1:=fix (CW u a w x) (a1,b1,c1,d1)
theorem Ap5 u a w x:A4 ag 4 6 (cd f141 24) 222 (Aop u a w x) (CW u a w x) (AmR u a w x):=by
 intro _;simp only[CW,Gb,AOi];kernel_rfl
def JA(u:Int)(a:APf)(g1:AOE)(i1:AOO)(j1:AOC):APJ (AOZ⊕AOZ):=
 bif decide ((j1.length:Int)>0)then
 if 0<=(wI ((j1.length:Int)-1))/\(wI ((j1.length:Int)-1))<j1.length then
 if(0:Int)<=(wI ((j1.length:Int)-1))/\(wI ((j1.length:Int)-1))<=(j1.length:Int)then
 (HS u a (Bn Aa APv a (j1.getD (wI ((j1.length:Int)-1)).toNat Aa.zero)) ((Bn Aa APv a (j1.getD (wI ((j1.length:Int)-1)).toNat Aa.zero)).length:Int) 0 g1 i1 (j1.take (wI ((j1.length:Int)-1)).toNat)).bind λy=>some (.inl (y.1,y.2.1,y.2.2))
 else none
 else none
 else
 some (.inr (g1,i1,j1))
def Gc u a (z_:AOE×AOO×AOC):=JA u a z_.1 z_.2.1 z_.2.2
def LZ u a g1 i1 j1:=fix (Gc u a) (g1,i1,j1)
theorem Ap6 u a:A4 ag 4 1 (code f141) 12 (Aoq u a) (Gc u a) (AmS u a):=by
 intro _;simp(disch:=refine id ?_;kernel_rfl) only[Gc,JA,AOi,HS,AH (Ap5 _ _ _ _) (K:=KJ ag 4 1)];kernel_rfl
def K5(u:Int)(k1:AOE)(l1:AOO)(a:APf)(n1:AOC):APJ (AOE×AOO×APf×AON×AOC):=
 (LZ u a k1 l1 n1).bind λv=>if Ty.row APw=true/\(0:Int)<=(v.1.length:Int)/\(v.1.length:Int)<=(v.1.length:Int)/\((24:Nat):Int)*(v.1.length:Int)<=(281474976710656:Int)/\(v.1.length:Int)<=(9223372036854775807:Int)then
 (L3 a (v.2.1.length:Int) v.1 v.2.1 v.2.2 0 (List.replicate (v.1.length:Int).toNat ([]:AOz))).bind λg=>some (v.1,v.2.1,a,g,v.2.2)
 else none
def AA8:=Cx [.WH] [⟨[.ptr 0 [] 0],[.box (.pr (.AB [] APx) (.pr (.k F8) (.pr (.k (.mp 2)) (.pr (.k (.AG 3)) (.k .u))))),.row 95 .Aw APy,.map .Aw Aa APv,.row 227 .Aw Aa],AOE×AOO×APf×AON×AOC,λp=>K5 p.1.1 p.2.1.1 p.2.2.1 p.2.2.2.1 p.2.2.2.2.1,λr=>(.pr KB .u,[.box (.pr (Au r.1) Al6),Ca r.2.1,Hb r.2.2.1 none,.A9,Dh r.2.2.2.1,Fa r.2.2.2.2])⟩]
theorem Ad1:Aq prog 141 AA8:=Av (fn:=f141) ⟨⟨ag,pk ⟨gT,trivial⟩,λ_ R K=>by
 simp(disch:=refine id ?_;kernel_rfl) only[K5,AOj,LZ,AH (Ap6 _ _) (K:=A2 ag f141 4 R K),L3,AH (Aqa _ _ _ _ _) (K:=A2 ag f141 4 R K)];kernel_rfl⟩,trivial⟩
abbrev Acp:=eN [(105,Aix),(137,ArA),(138,AA5),(139,AA6),(140,AA7),(141,AA8)] {A8:=[(8,[6,10,36,37,38])],BW:=[(8,[6,10])],BS:=[(2,[0,1,5,6,22])],DD:=[(2,[0,1,5,6])],jw:=[(0,.row [0] 78 APw true)]}
def Aov(a:Int) b (z_:Int×AOE×APm×AOO×APf×AOC):=sT 51 [(6,Ar),(10,.ptr 1 a [] 0),(36,.AG 2),(37,dI b),(38,dI z_.1)] [.box UK,.box (.pr (Au z_.2.1) (.pr (.AG 3) (.pr (.mp 4) j8))),CP z_.2.2.1,Ca z_.2.2.2.1,Hb z_.2.2.2.2.1 none,Fa z_.2.2.2.2.2]
def AmX(a b:Int):=λ(c:APn)=>xE 0 51 [(6,Ar),(10,.ptr 1 a [] 0)] [.box UK,.box (.pr (Au c.1) AhU),Ca c.2.1,Hb c.2.2.1 none,Fa c.2.2.2]
def Ix(a b d:Int)(e:AOE)(g:APm)(i:AOO)(j:APf)(k:AOC):APJ ((Int×AOE×APm×AOO×APf×AOC)⊕APn):=
 bif decide (d<b)then
 if 0<=d/\d<g.length then
 (I0 a (g.getD d.toNat (Ty.zero (.AE APu (.AE APu .unit)))).1 (g.getD d.toNat (Ty.zero (.AE APu (.AE APu .unit)))).2.1 e g i j k).bind λl=>some (.inl (wI (d+1),l.1,l.2.1,l.2.2.1,l.2.2.2.1,l.2.2.2.2))
 else none
 else
 some (.inr (e,i,j,k))
def DX a b (z_:Int×AOE×APm×AOO×APf×AOC):=Ix a b z_.1 z_.2.1 z_.2.2.1 z_.2.2.2.1 z_.2.2.2.2.1 z_.2.2.2.2.2
def K3 a b d e g i j k:=fix (DX a b) (d,e,g,i,j,k)
theorem Aqc a b:A4 Acp 0 8 (code f106) 506 (Aov a b) (DX a b) (AmX a b):=by
 intro _;simp only[DX,Ix,AOi];kernel_rfl
def Aou n o q:=sT 51 [(0,Au n),(1,Bo o),(5,Ar),(6,A6)] [.box (BQ q),.box UK]
def AmW n o q:=λ(s:Bool)=>xN 51 [(0,Au n),(1,Bo o),(5,Ar),(6,A6),(22,dB s)] [.box (BQ q),.box UK]
def K2(n:AOE)(o:AOG)(q:AOt):APJ Bool:=
 (Sb n q).bind λt=>bif !t then
 some true
 else
 (FT n o).bind λu=>some (!u)
theorem Aqb n o q:AY Acp 0 2 (code f106) 12 (Aou n o q) (K2 n o q) (AmW n o q):=by
 unfold AY;simp only[K2,AOi];kernel_rfl
def IZ(n:AOE)(o:AOG)(q:AOt):APJ (Bool×AON):=
 (K2 n o q).bind λs=>bif s then
 some (false,([]:AON))
 else
 (OZ n o).bind λv=>bif !v.1 then
 some (false,([]:AON))
 else
 (L6 n q).bind λw=>(K3 w.1 (v.2.length:Int) 0 w.2.1 v.2 w.2.2.1 w.2.2.2.1 w.2.2.2.2).bind λc=>(K5 w.1 c.1 c.2.1 c.2.2.1 c.2.2.2).bind λx=>some (true,x.2.2.2.1)
def AAG:=Cx [.d APx,.d APz,.d Am] [⟨[.AB [] APx,.AB [] APz,.AB [] Am],[],Bool×AON,λp=>IZ p.1.1 p.1.2.1 p.1.2.2.1,λr=>(.cons Q5 (.cons (dB r.1) .nil),[Dh r.2])⟩]
theorem Ady:Aq prog 106 AAG:=Av (fn:=f106) ⟨⟨Acp,pk ⟨gO,rJ,AdY,AdZ,Ad0,Ad1,trivial⟩,λ_ R K=>by
 simp(disch:=refine id ?_;kernel_rfl) only[IZ,AOj,Bc (Aqb ..) (K:=A2 Acp f106 0 R K),K3,AH (Aqc _ _) (K:=A2 Acp f106 0 R K)];kernel_rfl⟩,trivial⟩
noncomputable def AA9:Va.Callee:=Zz 2 APr 8
noncomputable abbrev ABH:Gx:={DU:=DU,fns:=N3 [],fi:={}}
theorem Ajs:IR Tryz.prog ABH:=(pk (l:=[]) trivial)
theorem Ad2:Aq Tryz.prog 142 AA9:=
 cK (fn:=Tryz.f142) Ajs (by kernel_rfl) (by kernel_rfl) rfl rfl rfl ⟨rfl,rfl,rfl⟩ ⟨rfl,rfl,rfl⟩ (ti:=⟨.sl APr,[],2,24,0,0,false⟩) (by kernel_rfl) rfl (by kernel_rfl) (λxs=>by kernel_rfl) (λxs=>by kernel_rfl)
  λxs h=>by
   have h0:ev ABH 0 (sub (code Tryz.f142) [1,1]) (Ex×St) ⟨[.AB [] APw xs,.un 0,.zs,.AB [] APw xs,.bool false,.un 0,.un 0,.un 0],[]⟩ Q3=if xs.length*8<=140737488355328 then some (.ret,⟨[.AB [] APw xs,.un 0,.AG 0,.AB [] APw xs,.bool false,.zs,.AB [] APw xs,.AG 0],[AA xs]⟩)else none:=by kernel_rfl
   exact h0.trans (AMo h)
abbrev qV:=eN [(142,AA9)] {A8:=[(3,{Bb:=[0,5,13,14,15],Cg:=[(5,false,.row [] 152 Ab true)]}),(7,{Bb:=[0,5,6,8,13,14,15,28,29,30],Cg:=[(5,false,.row [] 152 Ab true)]})],BW:=[(3,[5]),(7,[0,5,13,14,15])],aJ:=[(6,{Bb:=[0,5,6,8,13,14,15,28,29,30],X3:=true,RF:=[(28,false,APw)]})],dL:=[(6,[0,5,6,7,8,13,14,15])]}
def Aox a b c (z_:Int×AOD):=sT 47 [(0,Au a),(5,.AG 0),(13,HB b),(14,dI c),(15,dI z_.1)] [Ck z_.2]
def AmZ(a:AOE)(b:AON)(c:Int):=λ(d:AOD)=>xE 0 47 [(5,.AG 0)] [Ck d]
def Aow a e b c g i (z_:Int×Int×AOD):=sT 47 [(0,Au a),(5,.AG 0),(6,dI e),(8,dI z_.1),(13,HB b),(14,dI c),(15,dI e),(28,DW g),(29,dI i),(30,dI z_.2.1)] [Ck z_.2.2]
def AmY a e b c (g:AOz) (i:Int):=λ(j:AOD)=>xE 2 47 [(0,Au a),(5,.AG 0),(13,HB b),(14,dI c),(15,dI e)] [Ck j]
def JH(a:AOE)(e:Int)(b:AON)(c:Int)(g:AOz)(i k l:Int)(n:AOD):APJ ((Int×Int×AOD)⊕AOD):=
 bif decide (l<i)then
 if 0<=l/\l<g.length then
 if(n.length+([(e,k,wI ((g.getD l.toNat APr.zero)-k),())]:AOD).length)*24<=140737488355328 then
 some (.inl (g.getD l.toNat APr.zero,wI (l+1),n++([(e,k,wI ((g.getD l.toNat APr.zero)-k),())]:AOD)))
 else none
 else none
 else
 some (.inr n)
def Eu a e b c g i (z_:Int×Int×AOD):=JH a e b c g i z_.1 z_.2.1 z_.2.2
def Rf a e b c g i k l n:=fix (Eu a e b c g i) (k,l,n)
theorem Aqe a e b c g i:A4 qV 0 7 (cd f107 116) 462 (Aow a e b c g i) (Eu a e b c g i) (AmY a e b c g i):=by
 intro _;simp only[Eu,JH,AOi];kernel_rfl
def AcY a e b c o q:=sT 47 [(0,Au a),(5,.AG 0),(6,dI e),(7,DW q),(8,dI 0),(13,HB b),(14,dI c),(15,dI e)] [Ck o]
def vO a e b c o (q:AOz):=λ(s:(AOz×Int))=>sT 47 [(0,Au a),(5,.AG 0),(6,dI e),(8,dI 0),(13,HB b),(14,dI c),(15,dI e),(28,DW s.1),(29,dI s.2),(30,dI 0)] [Ck o]
def I6(a:AOE)(e:Int)(b:AON)(c:Int)(o:AOD)(q:AOz):APJ (AOz×Int):=
 if q.length*8<=140737488355328 then
 if 0<=e/\e<a.length then
 if(q.length+([(a.getD e.toNat Ad.zero).2.1]:AOz).length)*8<=140737488355328 then
 some (q++([(a.getD e.toNat Ad.zero).2.1]:AOz),((q++([(a.getD e.toNat Ad.zero).2.1]:AOz)).length:Int))
 else none
 else none
 else none
noncomputable def nX(a:AOE)(e:Int)(b:AON)(c:Int)(o:AOD)(q:AOz):APJ Unit:=if q.length*8<=140737488355328 then if(q.length+([(a.getD e.toNat Ad.zero).2.1]:AOz).length)*8<=140737488355328 then Jq (vO a e b c o q (q++([(a.getD e.toNat Ad.zero).2.1]:AOz),((q++([(a.getD e.toNat Ad.zero).2.1]:AOz)).length:Int)))else none else none
theorem Aqd(a:AOE)(e:Int)(b:AON)(c:Int)(o:AOD)(q:AOz):SJ qV 0 6 (cd f107 116) 230 (AcY a e b c o q) (I6 a e b c o q) (vO a e b c o q):=by
 unfold SJ;have h:yK qV 0 6 (cd f107 116) (pt 230) (AcY a e b c o q) =
 if q.length*8<=140737488355328 then if 0<=e/\e<a.length then if(q.length+([(a.getD e.toNat Ad.zero).2.1]:AOz).length)*8<=140737488355328 then((if 0<=e/\e<a.length then(nX a e b c o q).bind λ_=>(nX a e b c o q).bind λ_=>nX a e b c o q else none).bind λ_=>some (vO a e b c o q (q++([(a.getD e.toNat Ad.zero).2.1]:AOz),((q++([(a.getD e.toNat Ad.zero).2.1]:AOz)).length:Int))))else none else none else none:=by kernel_rfl
 rw[h];unfold I6;simp only[AOi,mS,mO];clear h;by_cases Hf:q.length*8<=140737488355328
 ·rw[AMo Hf,AMo Hf];by_cases PQ:(0:Int)<=e/\e<(a.length:Int)
  ·rw[AMo PQ,AMo PQ];by_cases vn:(q.length+([(a.getD e.toNat Ad.zero).2.1]:AOz).length)*8<=140737488355328
   ·rw[AMo vn,AMo vn];simp only[nX,AMm,AMo Hf,AMo PQ,AMo vn,AMR,AL6,Jq,HF]
   ·simp only[AMo Hf,AMo PQ,AMR,AMp vn]
  ·simp only[AMo Hf,AMR,AMp PQ]
 ·simp only[AMR,AMp Hf]
def JI(a:AOE)(b:AON)(c e:Int)(o:AOD):APJ (AOX⊕AOD):=
 bif decide (e<c)then
 if 0<=e/\e<b.length then
 (I6 a e b c o (b.getD e.toNat APw.zero)).bind λs=>(Rf a e b c s.1 s.2 0 0 o).bind λj=>some (.inl (wI (e+1),j))
 else none
 else
 some (.inr o)
def Ev a b c (z_:Int×AOD):=JI a b c z_.1 z_.2
def Rh a b c e o:=fix (Ev a b c) (e,o)
theorem Aqf a b c:A4 qV 0 3 (code f107) 58 (Aox a b c) (Ev a b c) (AmZ a b c):=by
 intro _;simp(disch:=refine id ?_;kernel_rfl) only[Ev,JI,AOi,W2 (Aqd ..) (K:=KJ qV 0 3),Rf,AH (Aqe _ _ _ _ _ _) (K:=KJ qV 0 3)];kernel_rfl
def NZ(a:AOE)(t:AOt):APJ AOD:=
 (Rh a t.1 (t.1.length:Int) 0 ([]:AOD)).bind λd=>some d
def AAH:=Cx [.d APx,.d Am] [⟨[.AB [] APx,.AB [] Am],[],AOD,λp=>NZ p.1.1 p.1.2.1,λr=>(.AG 0,[Ck r])⟩]
theorem Adz:Aq prog 107 AAH:=Av (fn:=f107) ⟨⟨qV,pk ⟨Ad2,trivial⟩,λ_ R K=>by
 simp(disch:=refine id ?_;kernel_rfl) only[NZ,AOj,Rh,AH (Aqf _ _ _) (K:=A2 qV f107 0 R K)];kernel_rfl⟩,trivial⟩
abbrev Al8:=eN [] {A8:=[(3,[3,7,8,9])],BW:=[(3,[3])]}
def Aoy a b (z_:Int×APi):=sT 23 [(3,.mp 0),(7,FX a),(8,dI b),(9,dI z_.1)] [Hd z_.2 none]
def Am0(a:AOD)(b:Int):=λ(c:APi)=>xE 0 23 [(3,.mp 0)] [Hd c none]
def JC(a:AOD)(b d:Int)(e:APi):APJ ((Int×APi)⊕APi):=
 bif decide (d<b)then
 if 0<=d/\d<a.length then
 some (.inl (wI (d+1),Ch Aa APr e ((a.getD d.toNat Ab.zero).1,(a.getD d.toNat Ab.zero).2.1,()) d))
 else none
 else
 some (.inr e)
def En a b (z_:Int×APi):=JC a b z_.1 z_.2
def Rc a b d e:=fix (En a b) (d,e)
theorem Aqg a b:A4 Al8 0 3 (code f108) 58 (Aoy a b) (En a b) (Am0 a b):=by
 intro _;simp only[En,JC,AOi];kernel_rfl
def NU(a:AOD):APJ APi:=
 (Rc a (a.length:Int) 0 ([]:APH AOV)).bind λc=>some c
def AAI:=Cx [.d APA] [⟨[.AB [] APA],[],APi,λp=>NU p.1.1,λr=>(.mp 0,[Hd r none])⟩]
theorem AdA:Aq prog 108 AAI:=Av (fn:=f108) ⟨⟨Al8,pk trivial,λ_ R K=>by
 simp(disch:=refine id ?_;kernel_rfl) only[NU,AOj,Rc,AH (Aqg _ _) (K:=A2 Al8 f108 0 R K)];kernel_rfl⟩,trivial⟩
abbrev Al9:=eN [] {Aw:=false,A8:=[(3,{Bb:=[3,8,9],Cg:=[(3,true,.row [0] 2 APr true),(3,true,.row [1] 2 APr true)]})],BW:=[(3,[3])]}
def Aoz a (z_:Int×AOz×AOz):=sT 33 [(3,Ar),(8,dI a),(9,dI z_.1)] [.box (.pr F8 (.pr UC (.pr (.mp 3) UK))),AA z_.2.1,AA z_.2.2,Jn ([]:APH AOS) none]
def Am1(a:Int):=λ(b:(AOz×AOz))=>xE 0 33 [(3,Ar)] [.box (.pr F8 (.pr UC (.pr (.mp 3) UK))),AA b.1,AA b.2,Jn ([]:APH AOS) none]
def II(a c:Int)(d e:AOz):APJ ((Int×AOz×AOz)⊕(AOz×AOz)):=
 bif decide (c<a)then
 if(d.length+([c]:AOz).length)*8<=140737488355328 then
 if(e.length+([-1]:AOz).length)*8<=140737488355328 then
 some (.inl (wI (c+1),d++([c]:AOz),e++([-1]:AOz)))
 else none
 else none
 else
 some (.inr (d,e))
def D4 a (z_:Int×AOz×AOz):=II a z_.1 z_.2.1 z_.2.2
def P5 a c d e:=fix (D4 a) (c,d,e)
theorem Aqh a:A4 Al9 0 3 (code f109) 58 (Aoz a) (D4 a) (Am1 a):=by
 intro _;simp only[D4,II,AOi];kernel_rfl
def L8(a:Int):APJ (Int×AOz×AOz×APh):=
 (P5 a 0 ([]:AOz) ([]:AOz)).bind λb=>some (0,b.1,b.2,([]:APH AOS))
def AAJ:=Cx [.d APr] [⟨[.AB [] APr],[],Int×AOz×AOz×APh,λp=>L8 p.1.1,λr=>(.ptr 0 r.1 [] 0,[.box (.pr F8 (.pr UC (.pr (.mp 3) UK))),AA r.2.1,AA r.2.2.1,Jn r.2.2.2 none])⟩]
theorem AdB:Aq prog 109 AAJ:=Av (fn:=f109) ⟨⟨Al9,pk trivial,λ_ R K=>by
 simp(disch:=refine id ?_;kernel_rfl) only[L8,AOj,P5,AH (Aqh _) (K:=A2 Al9 f109 0 R K)];kernel_rfl⟩,trivial⟩
abbrev gm:=eN [] {A8:=[(4,{Bb:=[3,5,6,12,13,14],Cg:=[(5,false,.row [] 2 APr true)]}),(9,[3,5,6,8,12,13,14,30,31,32])],BW:=[(4,[5]),(9,[3,5,6,8,12,13,14])],BS:=[(12,[3,5,6,8,10,12,13,14,30,31,32,48]),(13,[3,5,6,8,12,13,14,30,31,32]),(14,[3,5,6,8,12,13,14])],DD:=[(12,[3,5,6,8,10,12,13,14,30,31,32]),(13,[3,5,6,8,12,13,14,30,31,32]),(14,[3,5,6,8,12,13,14])]}
def AoD a b c (z_:Int×Int×AOz):=sT 65 [(3,Ar),(5,.AG 1),(6,dI z_.1),(12,Cc a),(13,dI c),(14,dI z_.2.1)] [.box (BQ b),AA z_.2.2]
def Am5(a:AOF)(b:AOt)(c:Int):=λ(d:AOz)=>xE 0 65 [(5,.AG 0)] [AA d]
def AoC e a c g b i j:=sT 65 (AhJ e a c g) (eQ b i j)
def Am4 e a c g b (i:AOz) j:=λ(k:AOz)=>xN 65 (AhJ e a c g) (eQ b k j)
def AoB e a c g b j l n (z_:Int×AOz):=sT 65 (AhK e a c g l n z_.1) (eQ b z_.2 j)
def Am3 e a c g b j (l:AOz) (n:Int):=λ(o:AOz)=>xE 2 65 (AhJ e a c g) (eQ b o j)
def AoA e a c g l n q b s j:=sT 65 (AhK e a c g l n q) (eQ b s j)
def Am2 e a c g l n q b (s:AOz) j:=λ(t:AOz)=>xN 65 (AhK e a c g l n q) (eQ b t j)
def AcZ e (l:AOz) (q:Int) a c g n b s j:=sT 65 [(3,Ar),(5,.AG 1),(6,dI e),(8,HC),(10,dI (l.getD q.toNat APr.zero)),(12,Cc a),(13,dI c),(14,dI g),(30,DW l),(31,dI n),(32,dI q)] (eQ b s j)
def vP(e:Int)(l:AOz)(q:Int)(a:AOF)(c g n:Int)(b:AOt)(s:AOz)(j:AOo)(m0:Bool):Ex×St:=xN 65 [(3,Ar),(5,.AG 1),(6,dI e),(8,HC),(10,dI (l.getD q.toNat APr.zero)),(12,Cc a),(13,dI c),(14,dI g),(30,DW l),(31,dI n),(32,dI q),(48,dB m0)] (eQ b s j)
theorem Aqi e l q a c g n b s j:Xn gm 0 12 (sb (sb (sb (cd f165 244) 230) 52) 14) (pt 10) (AcZ e l q a c g n b s j)=some (vP e l q a c g n b s j ((decide ((l.getD q.toNat APr.zero)>j.2.1))&&(decide ((l.getD q.toNat APr.zero)<(wI (j.2.1+j.2.2.1)))))):=by
 refine .trans (b:=
 bif decide ((l.getD q.toNat APr.zero)>j.2.1)then
 some (vP e l q a c g n b s j (decide ((l.getD q.toNat APr.zero)<(wI (j.2.1+j.2.2.1)))))
 else
 some (vP e l q a c g n b s j false)) (by kernel_rfl) ?_
 cases (decide ((l.getD q.toNat APr.zero)>j.2.1));rfl;rfl
def MC(e:Int)(a:AOF)(c g:Int)(l:AOz)(n q:Int)(b:AOt)(s:AOz)(j:AOo):APJ AOz:=
 if 0<=q/\q<l.length then
 PD (AcZ e l q a c g n b s j) (
 bif (decide ((l.getD q.toNat APr.zero)>j.2.1))&&(decide ((l.getD q.toNat APr.zero)<(wI (j.2.1+j.2.2.1))))then
 if(s.length+([wI ((wI (e+(l.getD q.toNat APr.zero)))-j.2.1)]:AOz).length)*8<=140737488355328 then
 some (s++([wI ((wI (e+(l.getD q.toNat APr.zero)))-j.2.1)]:AOz))
 else none
 else
 some s)
 else none
theorem Aqj e a c g l n q b s j:AY gm 0 13 (sb (sb (cd f165 244) 230) 52) 14 (AoA e a c g l n q b s j) (MC e a c g l n q b s j) (Am2 e a c g l n q b s j):=by
 unfold AY;simp(disch:=refine id ?_;kernel_rfl) only[MC,AOi,Ft (Aqi ..) (K:=UH gm 0 13)];kernel_rfl
def JF(e:Int)(a:AOF)(c g:Int)(b:AOt)(j:AOo)(l:AOz)(n q:Int)(s:AOz):APJ (AOW⊕AOz):=
 bif decide (q<n)then
 (MC e a c g l n q b s j).bind λt=>some (.inl (wI (q+1),t))
 else
 some (.inr s)
def Er e a c g b j l n (z_:Int×AOz):=JF e a c g b j l n z_.1 z_.2
def MD e a c g b j l n q s:=fix (Er e a c g b j l n) (q,s)
theorem Aqk e a c g b j l n:A4 gm 0 9 (sb (cd f165 244) 230) 26 (AoB e a c g b j l n) (Er e a c g b j l n) (Am3 e a c g b j l n):=by
 intro _;simp(disch:=refine id ?_;kernel_rfl) only[Er,JF,AOi,Bc (Aqj ..) (K:=KJ gm 0 9)];kernel_rfl
def I5(e:Int)(a:AOF)(c g:Int)(b:AOt)(i:AOz)(j:AOo):APJ AOz:=
 bif decide (j.1>=0)then
 if(0:Int)<=j.1/\j.1<(b.1.length:Int)then
 (MD e a c g b j (b.1.getD j.1.toNat APw.zero) ((b.1.getD j.1.toNat APw.zero).length:Int) 0 i).bind λo=>some o
 else none
 else
 some i
theorem Aql e a c g b i j:AY gm 0 14 (cd f165 244) 230 (AoC e a c g b i j) (I5 e a c g b i j) (Am4 e a c g b i j):=by
 unfold AY;simp(disch:=refine id ?_;kernel_rfl) only[I5,AOi,MD,AH (Aqk _ _ _ _ _ _ _ _) (K:=UH gm 0 14)];kernel_rfl
def JG(a:AOF)(b:AOt)(c e g:Int)(u:AOz):APJ ((Int×Int×AOz)⊕AOz):=
 bif decide (g<c)then
 if 0<=g/\g<a.length then
 if(u.length+([e]:AOz).length)*8<=140737488355328 then
 (I5 e a c g b (u++([e]:AOz)) (a.getD g.toNat Ae.zero)).bind λk=>some (.inl (wI (e+(a.getD g.toNat Ae.zero).2.2.1),wI (g+1),k))
 else none
 else none
 else
 some (.inr u)
def Es a b c (z_:Int×Int×AOz):=JG a b c z_.1 z_.2.1 z_.2.2
def ME a b c e g u:=fix (Es a b c) (e,g,u)
theorem Aqm a b c:A4 gm 0 4 (code f165) 122 (AoD a b c) (Es a b c) (Am5 a b c):=by
 intro _;simp(disch:=refine id ?_;kernel_rfl) only[Es,JG,AOi,Bc (Aql ..) (K:=KJ gm 0 4)];kernel_rfl
def KG(a:AOF)(b:AOt):APJ AOz:=
 (ME a b (a.length:Int) 0 0 ([]:AOz)).bind λd=>some d
def ABs:=Cx [.d APu,.d Am] [⟨[.AB [] APu,.AB [] Am],[],AOz,λp=>KG p.1.1 p.1.2.1,λr=>(.AG 0,[AA r])⟩]
theorem Ael:Aq prog 165 ABs:=Av (fn:=f165) ⟨⟨gm,pk trivial,λ_ R K=>by
 simp(disch:=refine id ?_;kernel_rfl) only[KG,AOj,ME,AH (Aqm _ _ _) (K:=A2 gm f165 0 R K)];kernel_rfl⟩,trivial⟩
abbrev AtP:=eN [] {take:=[25]}
def ABB:=Aba [.WH,.WH] AtP f177
theorem Aeu:Aq prog 177 ABB:=fR (pk trivial)
abbrev nH:=eN [(177,ABB)] {A8:=[(3,[0,3,9,10,11]),(11,{Bb:=[6,25,26,27],Cg:=[(6,false,.row [] 2 APr true)]})],BW:=[(3,[0,3]),(11,[6])],BS:=[(8,[0,3,9,10,11])],DD:=[(8,[0,3,9,10,11])]}
def AoH a b (z_:Int×AOz):=sT 36 [(6,.AG 0),(25,HB a),(26,dI b),(27,dI z_.1)] [AA z_.2]
def Am9(a:AON)(b:Int):=λ(c:AOz)=>xE 2 36 [(6,.AG 0)] [AA c]
def N7(a:AON)(b d:Int)(e:AOz):APJ (AOW⊕AOz):=
 bif decide (d<b)then
 if 0<=d/\d<a.length then
 if(e.length+(a.getD d.toNat APw.zero).length)*8<=140737488355328 then
 some (.inl (wI (d+1),e++(a.getD d.toNat APw.zero)))
 else none
 else none
 else
 some (.inr e)
def Im a b (z_:Int×AOz):=N7 a b z_.1 z_.2
def Qi a b d e:=fix (Im a b) (d,e)
theorem Aqq a b:A4 nH 0 11 (code f164) 250 (AoH a b) (Im a b) (Am9 a b):=by
 intro _;simp only[Im,N7,AOi];kernel_rfl
def AoG a g (z_:Int×AOz):=sT 36 [(6,.AG 0),(25,HB a),(26,dI g),(27,dI z_.1)] [AA z_.2]
def Am8(a:AON)(g:Int):=λ(i:AOz)=>xE 2 36 [(6,.AG 0)] [AA i]
def EN(a:AON)(g j:Int)(k:AOz):APJ (AOW⊕AOz):=
 bif decide (j<g)then
 if 0<=j/\j<a.length then
 if(k.length+(a.getD j.toNat APw.zero).length)*8<=140737488355328 then
 some (.inl (wI (j+1),k++(a.getD j.toNat APw.zero)))
 else none
 else none
 else
 some (.inr k)
def Cq a g (z_:Int×AOz):=EN a g z_.1 z_.2
def JX a g j k:=fix (Cq a g) (j,k)
theorem Aqp a g:A4 nH 0 11 (code f164) 250 (AoG a g) (Cq a g) (Am8 a g):=by
 intro _;simp only[Cq,EN,AOi];kernel_rfl
def AoF a l (z_:Int×Int):=sT 36 [(0,HB a),(3,dI z_.1),(9,HB a),(10,dI l),(11,dI z_.2)] []
def Am7 a (l:Int):=λ(n:Int)=>xE 0 36 [(0,HB a),(3,dI n)] []
def AoE a o l q:=sT 36 [(0,HB a),(3,dI o),(9,HB a),(10,dI l),(11,dI q)] []
def Am6 a (o:Int) l (q:Int):=λ(s:Unit)=>xN 36 [(0,HB a),(3,dI (wI (o+((a.getD q.toNat APw.zero).length:Int)))),(9,HB a),(10,dI l),(11,dI q)] []
def Gm(a:AON)(o l q:Int):APJ Unit:=
 if 0<=q/\q<a.length then
 bif decide ((wI (o+((a.getD q.toNat APw.zero).length:Int)))<0)then
 none
 else
 some ()
 else none
theorem Aqn a o l q:AY nH 0 8 (cd f164 116) 14 (AoE a o l q) (Gm a o l q) (Am6 a o l q):=by
 unfold AY;simp only[Gm,AOi];kernel_rfl
def EM(a:AON)(l o q:Int):APJ (AOY⊕Int):=
 bif decide (q<l)then
 (Gm a o l q).bind λs=>some (.inl (wI (o+((a.getD q.toNat APw.zero).length:Int)),wI (q+1)))
 else
 some (.inr o)
def Cp a l (z_:Int×Int):=EM a l z_.1 z_.2
def JW a l o q:=fix (Cp a l) (o,q)
theorem Aqo a l:A4 nH 0 3 (code f164) 58 (AoF a l) (Cp a l) (Am7 a l):=by
 intro _;simp(disch:=refine id ?_;kernel_rfl) only[Cp,EM,AOi,Bc (Aqn ..) (K:=KJ nH 0 3)];kernel_rfl
def F6(a:AON):APJ AOz:=
 (JW a (a.length:Int) 0 0).bind λn=>bif decide (n<0)then
 none
 else
 bif decide ((wI (n-0))>0)then
 if(0:Int)<=(wI (n-0))/\(wI (n-0))*((8:Nat):Int)<=(140737488355328:Int)then
 if(0:Int)<=(0:Int)/\(0:Int)<=((List.replicate (wI (n-0)).toNat 0).length:Int)then
 (JX a (a.length:Int) 0 ((List.replicate (wI (n-0)).toNat 0).take 0)).bind λi=>some i
 else none
 else none
 else
 (Qi a (a.length:Int) 0 ([]:AOz)).bind λc=>some c
def ABr:=Cx [.d APG] [⟨[.AB [] APG],[],AOz,λp=>F6 p.1.1,λr=>(.AG 0,[AA r])⟩]
theorem Aek:Aq prog 164 ABr:=Av (fn:=f164) ⟨⟨nH,pk ⟨Aeu,trivial⟩,λ_ R K=>by
 simp(disch:=refine id ?_;kernel_rfl) only[F6,AOj,JW,AH (Aqo _ _) (K:=A2 nH f164 0 R K),JX,AH (Aqp _ _) (K:=A2 nH f164 0 R K),Qi,AH (Aqq _ _) (K:=A2 nH f164 0 R K)];kernel_rfl⟩,trivial⟩
abbrev Ama:=eN [] {A8:=[(2,[1,4,7,8,9])],BW:=[(2,[4])],RF:=[(0,KC)]}
def AoI a b (z_:Int×Int):=sT 26 [(1,dI z_.1),(4,Ar),(7,Cc a),(8,dI b),(9,dI z_.2)] [.box (.pr (.pr (dI 0) (.pr (dI 0) Zr)) (.pr (dI 0) .u))]
def Ana(a:AOF)(b:Int):=Sum.elim (λ(c:(AOo×Int))=>xR 26 [(4,Ar)] [.box (.pr (Kn c.1) (.pr (dI c.2) .u))]) (λ(d:Unit)=>xE 0 26 [(4,Ar)] [.box (.pr (.pr (dI 0) (.pr (dI 0) Zr)) (.pr (dI 0) .u))])
def Od(a:AOF)(b e g:Int):APJ (AOY⊕((AOo×Int)⊕Unit)):=
 bif decide (g<b)then
 if 0<=g/\g<a.length then
 bif decide (e<(a.getD g.toNat Ae.zero).2.2.1)then
 some (.inr (.inl (a.getD g.toNat Ae.zero,e)))
 else
 some (.inl (wI (e-(a.getD g.toNat Ae.zero).2.2.1),wI (g+1)))
 else none
 else
 some (.inr (.inr ()))
def HH a b (z_:Int×Int):=Od a b z_.1 z_.2
def Vm a b e g:=fix (HH a b) (e,g)
theorem Aqr a b:A4 Ama 0 2 (code f168) 26 (AoI a b) (HH a b) (Ana a b):=by
 intro _;simp only[HH,Od,AOi];kernel_rfl
def OW(a:AOF)(i:Int):APJ KC.V:=
 (Vm a (a.length:Int) i 0).bind (Sum.elim (λc=>some (c.1,c.2,())) (λd=>some ((0,0,0,(0,([]:AOz),()),()),0,())))
def ABt:=Cx [.d APu,.d APr] [⟨[.AB [] APu,.AB [] APr],[],KC.V,λp=>OW p.1.1 p.1.2.1,λr=>(dD KC r,[])⟩]
theorem Aem:Aq prog 168 ABt:=Av (fn:=f168) ⟨⟨Ama,pk trivial,λ_ R K=>by
 simp(disch:=refine id ?_;kernel_rfl) only[OW,AOj,Vm,AH (Aqr _ _) (K:=A2 Ama f168 0 R K)];kernel_rfl⟩,trivial⟩
abbrev AEc:=eN [(175,ArF)] {jw:=[(0,.row [1,1] 88 APs true)]}
def KE(a:KC.V)(b:Int)(c:APi):APJ (Int×Int×APi×AOz):=
 bif a.1.1==(-1)then
 (EH a.1.2.2.2.1 a.2.1 b).bind λd=>some (-1,d.1,c,d.2)
 else
 some (Bn Aa APr c (a.1.1,wI (a.1.2.1+a.2.1),()),0,c,([]:AOz))
def ABu:=Cx [.d KC,.WH,.d APr] [⟨[.AB [] KC,.k (.mp 0),.AB [] APr],[.map .Aw Aa APr],Int×Int×APi×AOz,λp=>KE p.1.1 p.1.2.2.1 p.2.1,λr=>(.pr (dI r.1) (.pr (.pr (dI r.2.1) (.pr F8 .u)) .u),[Hd r.2.2.1 none,Da r.2.2.2])⟩]
theorem Aen:Aq prog 169 ABu:=Av (fn:=f169) ⟨⟨AEc,pk ⟨rO,trivial⟩,λ_ R K=>by
 simp only[KE,AOj];kernel_rfl⟩,trivial⟩
def ArD:Va.Callee:=uq
theorem rM:Aq prog 166 ArD:=AgX (fn:=f166) lay53 rfl (by kernel_rfl) (by kernel_rfl) (by kernel_rfl)
def ArE:Va.Callee:=uO
theorem rN:Aq prog 167 ArE:=Ahh (fn:=f167) lay43 rfl (by kernel_rfl) (by kernel_rfl) (by kernel_rfl)
abbrev Amb:=eN [(36,c36),(164,ABr),(165,ABs),(166,ArD),(167,ArE),(168,ABt),(169,ABu)] {A8:=[(6,{Bb:=[0,1,3,9,10,35,36,37],RF:=[(9,false,APw)],Cg:=[(10,false,.row [] 129 Ap true)]})],BW:=[(6,[10])],cQ:=[(20,APG),(52,KC),(58,KC)]}
def AoJ a b c d e (z_:Int×APi×AOL):=sT 68 [(0,Cc a),(1,Cc b),(3,.mp 0),(9,DW c),(10,.AG 1),(35,.AB [2] APw d),(36,dI e),(37,dI z_.1)] [Hd z_.2.1 none,qL z_.2.2,.A9]
def Anb(a b:AOF)(c d:AOz)(e:Int):=λ(g:(APi×AOL))=>xE 0 68 [(10,.AG 1)] [Hd g.1 none,qL g.2]
def MF(a b:AOF)(c d:AOz)(e i:Int)(j:APi)(k:AOL):APJ ((Int×APi×AOL)⊕(APi×AOL)):=
 bif decide (i<e)then
 if 0<=i/\i<d.length then
 if 0<=(wI (i+1))/\(wI (i+1))<c.length then
 (OW a (d.getD i.toNat APr.zero)).bind λl=>(KE l (wI ((c.getD (wI (i+1)).toNat APr.zero)-(d.getD i.toNat APr.zero))) j).bind λn=>(OW b (d.getD i.toNat APr.zero)).bind λo=>(KE o (wI ((c.getD (wI (i+1)).toNat APr.zero)-(d.getD i.toNat APr.zero))) n.2.2.1).bind λq=>if(k.length+([((n.1,(n.2.1,n.2.2.2,()),()),(q.1,(q.2.1,q.2.2.2,()),()),wI ((c.getD (wI (i+1)).toNat APr.zero)-(d.getD i.toNat APr.zero)),())]:AOL).length)*88<=140737488355328 then
 some (.inl (wI (i+1),q.2.2.1,k++([((n.1,(n.2.1,n.2.2.2,()),()),(q.1,(q.2.1,q.2.2.2,()),()),wI ((c.getD (wI (i+1)).toNat APr.zero)-(d.getD i.toNat APr.zero)),())]:AOL)))
 else none
 else none
 else none
 else
 some (.inr (j,k))
def GA a b c d e (z_:Int×APi×AOL):=MF a b c d e z_.1 z_.2.1 z_.2.2
def P6 a b c d e i j k:=fix (GA a b c d e) (i,j,k)
theorem Aqs a b c d e:A4 Amb 1 6 (code f143) 506 (AoJ a b c d e) (GA a b c d e) (Anb a b c d e):=by
 intro _;simp only[GA,MF,AOi];kernel_rfl
def Se(a b:AOF)(s:AOt)(t:APi):APJ (APi×AOL):=
 (KG a s).bind λu=>(KG b s).bind λv=>(F6 ([u,v]:AON)).bind λw=>if w.length<4611686018427387904 then
 (BL a).bind λx=>if((Np (Qm w)).length+([x]:AOz).length)*8<=140737488355328 then
 if(0:Int)<=(0:Int)/\(0:Int)<=(wI ((((Np (Qm w))++([x]:AOz)).length:Int)-1))/\(wI ((((Np (Qm w))++([x]:AOz)).length:Int)-1))<=(((Np (Qm w))++([x]:AOz)).length:Int)then
 (P6 a b ((Np (Qm w))++([x]:AOz)) ((((Np (Qm w))++([x]:AOz)).take (wI ((((Np (Qm w))++([x]:AOz)).length:Int)-1)).toNat).drop 0) (((((Np (Qm w))++([x]:AOz)).take (wI ((((Np (Qm w))++([x]:AOz)).length:Int)-1)).toNat).drop 0).length:Int) 0 t ([]:AOL)).bind λg=>some (g.1,g.2)
 else none
 else none
 else none
def ABa:=Cx [.d APu,.d APu,.d Am,.WH] [⟨[.AB [] APu,.AB [] APu,.AB [] Am,.k (.mp 0)],[.map .Aw Aa APr],APi×AOL,λp=>Se p.1.1 p.1.2.1 p.1.2.2.1 p.2.1,λr=>(.AG 1,[Hd r.1 none,qL r.2])⟩]
theorem Ad3:Aq prog 143 ABa:=Av (fn:=f143) ⟨⟨Amb,pk ⟨oh,Aek,Ael,rM,rN,Aem,Aen,trivial⟩,λ_ R K=>by
 simp(disch:=refine id ?_;kernel_rfl) only[Se,AOj,P6,AH (Aqs _ _ _ _ _) (K:=A2 Amb f143 1 R K)];kernel_rfl⟩,trivial⟩
abbrev AEd:=eN [(143,ABa)] {RF:=[(0,.sl Ap)]}
def HV(a b:Int)(c:AOE)(d:AOG)(e:APm)(g:AON)(i:AOD)(j:APi):APJ (AOL×AOE×AOG×APm×AON×AOD×APi):=
 if 0<=b/\b<e.length then
 if 0<=b/\b<e.length then
 (Se (e.getD b.toNat (Ty.zero (.AE APu (.AE APu .unit)))).1 (e.getD b.toNat (Ty.zero (.AE APu (.AE APu .unit)))).2.1 (g,()) j).bind λk=>some (k.2,c,d,e,g,i,k.1)
 else none
 else none
def AAK:=Cx [.WH,.d APr] [⟨[.ptr 0 [] 0,.AB [] APr],[.box (.pr (.AB [] APx) (.pr (.AB [] APz) (.pr (.k F8) (.pr (.pr (.k UC) (.k .u)) (.pr (.k (.AG 3)) (.pr (.k (.mp 4)) (.k .u))))))),.row 222 .Aw (.AE APu (.AE APu .unit)),.row 78 .Aw APw,.row 152 .Aw Ab,.map .Aw Aa APr],AOL×AOE×AOG×APm×AON×AOD×APi,λp=>HV p.1.1 p.1.2.1 p.2.1.1 p.2.1.2.1 p.2.2.1 p.2.2.2.1 p.2.2.2.2.1 p.2.2.2.2.2.1,λr=>(YV r.1,[.box (.pr (Au r.2.1) (.pr (Bo r.2.2.1) AhT)),CP r.2.2.2.1,Dh r.2.2.2.2.1,Ck r.2.2.2.2.2.1,Hd r.2.2.2.2.2.2 none])⟩]
theorem AdC:Aq prog 110 AAK:=Av (fn:=f110) ⟨⟨AEd,pk ⟨Ad3,trivial⟩,λ_ R K=>by
 simp only[HV,AOj];kernel_rfl⟩,trivial⟩
abbrev Amc:=eN [] {A8:=[(4,[0,1,12,13])],BW:=[(4,[4])]}
def AoK a b c (z_:Int):=sT 26 [(0,TG a),(1,TG b),(12,dI c),(13,dI z_)] []
def Anc(a b:AOz)(c:Int):=Sum.elim (λ(d:Unit)=>xR 26 fz []) (λ(e:Unit)=>xE 0 26 [] [])
def N8(a b:AOz)(c g:Int):APJ (Int⊕(Unit⊕Unit)):=
 bif decide (g<c)then
 if 0<=g/\g<a.length then
 if 0<=g/\g<b.length then
 bif (a.getD g.toNat APs.zero) !=(b.getD g.toNat APs.zero)then
 some (.inr (.inl ()))
 else
 some (.inl (wI (g+1)))
 else none
 else none
 else
 some (.inr (.inr ()))
def EO a b c (z_:Int):=N8 a b c z_
def Qk a b c g:=fix (EO a b c) g
theorem Aqt a b c:A4 Amc 0 4 (code f170) 58 (AoK a b c) (EO a b c) (Anc a b c):=by
 intro _;simp only[EO,N8,AOi];kernel_rfl
def IL(a b:AOz):APJ Bool:=
 bif (a.length:Int) !=(b.length:Int)then
 some false
 else
 (Qk a b (a.length:Int) 0).bind (Sum.elim (λd=>some false) (λe=>some true))
def ABv:=Cx [.d APB,.d APB] [⟨[.AB [] APB,.AB [] APB],[],Bool,λp=>IL p.1.1 p.1.2.1,λr=>(dB r,[])⟩]
theorem Aeo:Aq prog 170 ABv:=Av (fn:=f170) ⟨⟨Amc,pk trivial,λ_ R K=>by
 simp(disch:=refine id ?_;kernel_rfl) only[IL,AOj,Qk,AH (Aqt _ _ _) (K:=A2 Amc f170 0 R K)];kernel_rfl⟩,trivial⟩
abbrev AEe:=eN [(170,ABv)] {}
def LX(a b:AOr):APJ Bool:=
 bif a.1==b.1 then
 (IL a.2.1 b.2.1).bind λc=>some c
 else
 some false
def ABc:=Cx [.d Ah,.d Ah] [⟨[.AB [] Ah,.AB [] Ah],[],Bool,λp=>LX p.1.1 p.1.2.1,λr=>(dB r,[])⟩]
theorem Ad5:Aq prog 146 ABc:=Av (fn:=f146) ⟨⟨AEe,pk ⟨Aeo,trivial⟩,λ_ R K=>by
 simp only[LX,AOj];kernel_rfl⟩,trivial⟩
abbrev Xr:=eN [(166,ArD),(167,ArE)] {A8:=[(3,[1,2,7,20,21,22]),(10,[1,2,7,10,11]),(14,[1,2,7,10,11,71,72,73]),(23,{Bb:=[1,10,17,18],Cg:=[(17,false,.row [] 2 APr true)]})],BW:=[(3,[1,2,7]),(10,[1,2,10]),(14,[1,2,7,10,11]),(23,[17])],BS:=[(20,[1,2,7,10,11,71,72,73])],aJ:=[(5,{Bb:=[1,2,7,9,20,21,22],X3:=true}),(6,{Bb:=[1,2,7,20,21,22],X3:=true})],DD:=[(20,[1,2,7,10,11,71,72,73])],dL:=[(5,[1,2,7,9,20,21,22]),(6,[1,2,7,9,20,21,22])],stl:=[32,42],AC6:=[60]}
def AoP a (b:APk) (z_:Int×AOz):=sT 116 [(1,dI a),(10,.mp 0),(17,.AG 1),(18,dI z_.1)] [xY b none,AA z_.2]
def Ani(a:Int)(b:APk):=λ(c:AOz)=>xE 6 116 [(17,.AG 0)] [AA c]
def S3(a:Int)(b:APk)(d:Int)(e:AOz):APJ (AOW⊕AOz):=
 bif d !=a then
 if(e.length+([(Bn APr Ab b d).2.2.1]:AOz).length)*8<=140737488355328 then
 some (.inl ((Bn APr Ab b d).1,e++([(Bn APr Ab b d).2.2.1]:AOz)))
 else none
 else
 some (.inr e)
def Oo a b (z_:Int×AOz):=S3 a b z_.1 z_.2
def Zg a b d e:=fix (Oo a b) (d,e)
theorem AqA a b:A4 Xr 0 23 (code f147) 2042 (AoP a b) (Oo a b) (Ani a b):=by
 intro _;simp only[Oo,S3,AOi];kernel_rfl
def AoO a g (i:APj) (z_:APk×AOz):=sT 116 [(1,dI a),(2,dI g),(7,.mp 0),(10,.mp 1),(11,.AG 2)] (u0 i z_.1 z_.2)
def Anh a g (i:APj):=λ(b:APk)=>xE 2 116 [(1,dI a),(2,dI g),(10,.mp 0)] [xY b none]
def AoN a g (i:APj) j k (z_:Int×APk×AOz):=sT 116 (AhL a g j k z_.1) (u0 i z_.2.1 z_.2.2)
def Ang a g (i:APj) (j:AOD) (k:Int):=λ(l:(APk×AOz))=>xE 4 116 [(1,dI a),(2,dI g),(7,.mp 0),(10,.mp 1),(11,.AG 2)] (u0 i l.1 l.2)
def AoM a g j k n (i:APj) (o:APk) q:=sT 116 (AhL a g j k n) (u0 i o q)
def Anf a g j k n (i:APj) (o:APk) (q:AOz):=λ(s:(APk×AOz))=>xN 116 (AhL a g j k n) (u0 i s.1 s.2)
def RN(a g:Int)(j:AOD)(k n:Int)(i:APj)(o:APk)(q:AOz):APJ (APk×AOz):=
 if 0<=n/\n<j.length then
 bif !(S5 APr Ab o (j.getD n.toNat Ab.zero).2.1)then
 bif decide ((q.length+([(j.getD n.toNat Ab.zero).2.1]:AOz).length)*8<=140737488355328)then
 some (Ch APr Ab o (j.getD n.toNat Ab.zero).2.1 (j.getD n.toNat Ab.zero),q++([(j.getD n.toNat Ab.zero).2.1]:AOz))
 else
 none
 else
 some (o,q)
 else none
theorem Aqx a g j k n i o q:AY Xr 0 20 (sb (cd f147 504) 220) 14 (AoM a g j k n i o q) (RN a g j k n i o q) (Anf a g j k n i o q):=by
 unfold AY;simp only[RN,AOi];kernel_rfl
def SZ(a g:Int)(i:APj)(j:AOD)(k n:Int)(o:APk)(q:AOz):APJ ((Int×APk×AOz)⊕(APk×AOz)):=
 bif decide (n<k)then
 (RN a g j k n i o q).bind λs=>some (.inl (wI (n+1),s.1,s.2))
 else
 some (.inr (o,q))
def Om a g i j k (z_:Int×APk×AOz):=SZ a g i j k z_.1 z_.2.1 z_.2.2
def Vp a g i j k n o q:=fix (Om a g i j k) (n,o,q)
theorem Aqy a g i j k:A4 Xr 0 14 (cd f147 504) 110 (AoN a g i j k) (Om a g i j k) (Ang a g i j k):=by
 intro _;simp(disch:=refine id ?_;kernel_rfl) only[Om,SZ,AOi,Bc (Aqx ..) (K:=KJ Xr 0 14)];kernel_rfl
def S0(a g:Int)(i:APj)(t:APk)(u:AOz):APJ ((APk×AOz)⊕APk):=
 bif decide ((u.length:Int)>0)then
 bif (decide ((0:Int)<=0))&&(decide (0<(u.length:Int)))then
 bif (decide ((0:Int)<=1))&&(decide (1<=(u.length:Int)))then
 (Vp a g i (Bn APr APA i (u.getD 0 APr.zero)) ((Bn APr APA i (u.getD 0 APr.zero)).length:Int) 0 t (u.drop 1)).bind λl=>some (.inl (l.1,l.2))
 else
 none
 else
 none
 else
 some (.inr t)
def On a g i (z_:APk×AOz):=S0 a g i z_.1 z_.2
def Vq a g i t u:=fix (On a g i) (t,u)
theorem Aqz a g i:A4 Xr 0 10 (code f147) 252 (AoO a g i) (On a g i) (Anh a g i):=by
 intro _;simp(disch:=refine id ?_;kernel_rfl) only[On,S0,AOi,Vp,AH (Aqy _ _ _ _ _) (K:=KJ Xr 0 10)];kernel_rfl
def AoL a g v w (z_:Int×APj):=sT 116 [(1,dI a),(2,dI g),(7,.mp 0),(20,FX v),(21,dI w),(22,dI z_.1)] [Z5 z_.2 none]
def Ane a g (v:AOD) (w:Int):=λ(i:APj)=>xE 0 116 [(1,dI a),(2,dI g),(7,.mp 0)] [Z5 i none]
def Ac1 a g v w x (y:APj) a1:=sT 116 (AhM a g v w x) [Z5 y none,.box (Ei a1)]
def vR a g v w x (y:APj) (a1:AOm):=λ(b1:APj)=>sT 116 [(1,dI a),(2,dI g),(7,.mp 0),(20,FX v),(21,dI w),(22,dI x)] [Z5 b1 none]
def RL(a g:Int)(v:AOD)(w x:Int)(y:APj)(a1:AOm):APJ APj:=
 if((Bn APr APA y a1.2.1).length+([(a1.2.1,a1.1,a1.2.2.1,())]:AOD).length)*24<=140737488355328 then
 bif Bd APr a1.2.1 a1.2.1 then
 some (Ch APr APA y a1.2.1 ((Bn APr APA y a1.2.1)++([(a1.2.1,a1.1,a1.2.2.1,())]:AOD)))
 else
 none
 else none
noncomputable def v8(a g:Int)(v:AOD)(w x:Int)(y:APj)(a1:AOm):APJ Unit:=if((Bn APr APA y a1.2.1).length+([(a1.2.1,a1.1,a1.2.2.1,())]:AOD).length)*24<=140737488355328 then bif Bd APr a1.2.1 a1.2.1 then Jq (vR a g v w x y a1 (Ch APr APA y a1.2.1 ((Bn APr APA y a1.2.1)++([(a1.2.1,a1.1,a1.2.2.1,())]:AOD))))else none else none
theorem Aqv(a g:Int)(v:AOD)(w x:Int)(y:APj)(a1:AOm):SJ Xr 0 6 (cd f147 116) 115 (Ac1 a g v w x y a1) (RL a g v w x y a1) (vR a g v w x y a1):=by
 unfold SJ;have h:yK Xr 0 6 (cd f147 116) (pt 115) (Ac1 a g v w x y a1) =
 if((Bn APr APA y a1.2.1).length+([(a1.2.1,a1.1,a1.2.2.1,())]:AOD).length)*24<=140737488355328 then bif Bd APr a1.2.1 a1.2.1 then(((v8 a g v w x y a1).bind λ_=>v8 a g v w x y a1).bind λ_=>some (vR a g v w x y a1 (Ch APr APA y a1.2.1 ((Bn APr APA y a1.2.1)++([(a1.2.1,a1.1,a1.2.2.1,())]:AOD)))))else none else none:=by kernel_rfl
 rw[h];unfold RL;simp only[AOi,mS,mO];clear h;by_cases Hf:((Bn APr APA y a1.2.1).length+([(a1.2.1,a1.1,a1.2.2.1,())]:AOD).length)*24<=140737488355328
 ·rw[AMo Hf,AMo Hf];cases PQ:(Bd APr a1.2.1 a1.2.1)with
  |true =>
   simp only[AMm];simp only[v8,AMm,AMo Hf,PQ,AMR,AL6,Jq,HF]
  |false =>
   simp only[AMl]
   all_goals first |rfl |simp
 ·simp only[AMR,AMp Hf]
def Ac0 a g v w x (c1:APj) d1:=sT 116 (AhM a g v w x) [Z5 c1 none,.box (Ei d1)]
def vQ a g v w x (c1:APj) d1:=λ(y:APj)=>sT 116 (AhM a g v w x) [Z5 y none,.box (Ei d1)]
def RJ(a g:Int)(v:AOD)(w x:Int)(c1:APj)(d1:AOm):APJ APj:=
 if((Bn APr APA c1 d1.1).length+([d1]:AOD).length)*24<=140737488355328 then
 bif Bd APr d1.1 d1.1 then
 some (Ch APr APA c1 d1.1 ((Bn APr APA c1 d1.1)++([d1]:AOD)))
 else
 none
 else none
noncomputable def v7(a g:Int)(v:AOD)(w x:Int)(c1:APj)(d1:AOm):APJ Unit:=if((Bn APr APA c1 d1.1).length+([d1]:AOD).length)*24<=140737488355328 then bif Bd APr d1.1 d1.1 then Jq (vQ a g v w x c1 d1 (Ch APr APA c1 d1.1 ((Bn APr APA c1 d1.1)++([d1]:AOD))))else none else none
theorem Aqu(a g:Int)(v:AOD)(w x:Int)(c1:APj)(d1:AOm):SJ Xr 0 5 (cd f147 116) 114 (Ac0 a g v w x c1 d1) (RJ a g v w x c1 d1) (vQ a g v w x c1 d1):=by
 unfold SJ;have h:yK Xr 0 5 (cd f147 116) (pt 114) (Ac0 a g v w x c1 d1) =
 if((Bn APr APA c1 d1.1).length+([d1]:AOD).length)*24<=140737488355328 then bif Bd APr d1.1 d1.1 then(((v7 a g v w x c1 d1).bind λ_=>v7 a g v w x c1 d1).bind λ_=>some (vQ a g v w x c1 d1 (Ch APr APA c1 d1.1 ((Bn APr APA c1 d1.1)++([d1]:AOD)))))else none else none:=by kernel_rfl
 rw[h];unfold RJ;simp only[AOi,mS,mO];clear h;by_cases Hf:((Bn APr APA c1 d1.1).length+([d1]:AOD).length)*24<=140737488355328
 ·rw[AMo Hf,AMo Hf];cases PQ:(Bd APr d1.1 d1.1)with
  |true =>
   simp only[AMm];simp only[v7,AMm,AMo Hf,PQ,AMR,AL6,Jq,HF]
  |false =>
   simp only[AMl]
   all_goals first |rfl |simp
 ·simp only[AMR,AMp Hf]
def SY(a g:Int)(v:AOD)(w x:Int)(c1:APj):APJ ((Int×APj)⊕APj):=
 bif decide (x<w)then
 if 0<=x/\x<v.length then
 (RJ a g v w x c1 (v.getD x.toNat Ab.zero)).bind λy=>(RL a g v w x y (v.getD x.toNat Ab.zero)).bind λb1=>some (.inl (wI (x+1),b1))
 else none
 else
 some (.inr c1)
def Ol a g v w (z_:Int×APj):=SY a g v w z_.1 z_.2
def Vo a g v w x c1:=fix (Ol a g v w) (x,c1)
theorem Aqw a g v w:A4 Xr 0 3 (code f147) 58 (AoL a g v w) (Ol a g v w) (Ane a g v w):=by
 intro _;simp(disch:=refine id ?_;kernel_rfl) only[Ol,SY,AOi,W2 (Aqu ..) (K:=KJ Xr 0 3),W2 (Aqv ..) (K:=KJ Xr 0 3)];kernel_rfl
def Wy(v:AOD)(a g:Int):APJ AOz:=
 (Vo a g v (v.length:Int) 0 ([]:APH AOX)).bind λi=>(Vq a g i (Ch APr Ab ([]:APH AO0) a (a,a,0,())) ([a]:AOz)).bind λb=>(Zg a b g ([]:AOz)).bind λc=>if c.length<4611686018427387904 then
 some (Np (Qm c))
 else none
def ABd:=Cx [.d APA,.d APr,.d APr] [⟨[.AB [] APA,.AB [] APr,.AB [] APr],[],AOz,λp=>Wy p.1.1 p.1.2.1 p.1.2.2.1,λr=>(.AG 0,[AA r])⟩]
theorem Ad6:Aq prog 147 ABd:=Av (fn:=f147) ⟨⟨Xr,pk ⟨rM,rN,trivial⟩,λ_ R K=>by
 simp(disch:=refine id ?_;kernel_rfl) only[Wy,AOj,Vo,AH (Aqw _ _ _ _) (K:=A2 Xr f147 0 R K),Vq,AH (Aqz _ _ _) (K:=A2 Xr f147 0 R K),Zg,AH (AqA _ _) (K:=A2 Xr f147 0 R K)];kernel_rfl⟩,trivial⟩
abbrev AEf:=eN [] {VC:=[.mv 0 [0],.A9 1,.mv 0 [1],.A9 2]}
def Bh(a:Int)(b:AOk)(c d:AOz)(e:APh)(g:AOD):APJ (Int×APh×AOD×AOz×AOz):=
 bif decide (b.1>=0)then
 some (b.1,e,g,c,d)
 else
 if(c.length+([(c.length:Int)]:AOz).length)*8<=140737488355328 then
 if(d.length+([(c.length:Int)]:AOz).length)*8<=140737488355328 then
 some ((c.length:Int),Ch APr Ah e (c.length:Int) b.2.1,g,c++([(c.length:Int)]:AOz),d++([(c.length:Int)]:AOz))
 else none
 else none
def ABb:=Cx [.WH,.d AX] [⟨[.ptr 0 [] 0,.AB [] AX],[.box (.pr (.k F8) (.pr (.k UC) (.pr (.k (.mp 3)) (.pr (.k KB) (.k .u))))),.row 2 .Aw APr,.row 2 .Aw APr,.map (.sh []) APr Ah,.row 204 .Aw Ab],Int×APh×AOD×AOz×AOz,λp=>Bh p.1.1 p.1.2.1 p.2.2.1 p.2.2.2.1 p.2.2.2.2.1 p.2.2.2.2.2.1,λr=>(dI r.1,[.box (.pr (.AG 5) (.pr (.AG 6) (.pr (.mp 3) (.pr KB .u)))),.A9,.A9,Jn r.2.1 none,C4 r.2.2.1,AA r.2.2.2.1,AA r.2.2.2.2])⟩]
theorem Ad4:Aq prog 144 ABb:=Av (fn:=f144) ⟨⟨AEf,pk trivial,λ_ R K=>by
 simp only[Bh,AOj];kernel_rfl⟩,trivial⟩
end
end Go.Proofs.X
