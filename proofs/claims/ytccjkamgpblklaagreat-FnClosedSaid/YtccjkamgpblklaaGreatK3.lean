import Derived.KernelRfl
import Derived.Test.YtccjkamgpblklaaGreatK2
set_option linter.unusedVariables false
set_option linter.unusedSimpArgs false
namespace Go.Proofs.X
open Go Go.Va Go.Proofs.Tryz
set_option maxRecDepth 100000
noncomputable section
abbrev wT:=eN [(60,c60),(61,xM),(135,AmM),(136,AmN)] {Bv:=[(7,{Bb:=[0,3,5,6,7,8],Cy:=[(6,false,.row [] 2 AyN true)]}),(16,[0,3,5,6,7,8,10]),(20,[5,6,7,11])],CM:=[(7,{Bb:=[4,5,6,7],Ph:=[(7,false,AyU)]}),(16,[0,3,5,6,7,8]),(20,[4,6])],B5:=[(3,[0,3,5,27])],EO:=[(3,[0,3,5])],jo:=[(0,.row [] 2 AyN true)]}
def Ahk a b (z_:Int):=sT 103 [(5,.zs),(6,.AA 0),(7,N1 a),(11,dI z_)] [B4 b]
def AeT(a:Aye) b:=Sum.elim (λ(c:Unit)=>xR 103 [(4,.zs),(6,.AA 0)] [B4 b]) (λ(d:Unit)=>xE 4 103 [(6,.AA 0)] [B4 b])
def HT(a:Aye)(b:Ayd)(e:Int):Ay0 (Int⊕(Unit⊕Unit)):=
 bif decide ((wI (e+1))<(a.length:Int))then
 if 0<=e/\e<a.length then
 bif !(a.getD e.toNat (Ty.zero .bool))then
 some (.inr (.inl ()))
 else
 some (.inl (wI (e+1)))
 else none
 else
 some (.inr (.inr ()))
def FE a b (z_:Int):=HT a b z_
def NG a b e:=fix (FE a b) e
theorem AjT a b:A8 wT 0 20 (code f95) 1018 (Ahk a b) (FE a b) (AeT a b):=by
 intro _;simp only[FE,HT,Ax1];kernel_rfl
def Ahj g i (z_:Int×Ayd×Aye):=sT 103 [(0,Aj g),(3,Aq),(5,.zs),(6,.AA 1),(7,.AA 2),(8,dI z_.1)] (eD i z_.2.1 z_.2.2)
def AeS(g:Ayg)(i:Ax4):=Sum.elim (λ(j:AyH)=>xR 103 [(4,.zs),(5,.zs),(6,.AA 0),(7,N1 j.1)] [B4 j.2]) (λ(k:AyH)=>xE 0 103 [(5,.zs),(6,.AA 0),(7,N1 k.1)] [B4 k.2])
def Ahi g l i n (z_:Int×Aye):=sT 103 [(0,Aj g),(3,Aq),(5,.zs),(6,.AA 1),(7,.AA 2),(8,dI l),(10,dI z_.1)] (eD i n z_.2)
def AeR g l i n:=λ(o:Aye)=>xE 2 103 [(0,Aj g),(3,Aq),(5,.zs),(6,.AA 1),(7,.AA 2),(8,dI l)] (eD i n o)
def HR(g:Ayg)(l:Int)(i:Ax4)(n:Ayd)(q:Int)(s:Aye):Ay0 ((Int×Aye)⊕Aye):=
 if 0<=l/\l<i.1.length then
 bif decide (q<((i.1.getD l.toNat Ad.zero).2.2.2.2.2.1.length:Int))then
 if 0<=l/\l<i.1.length then
 if 0<=q/\q<(i.1.getD l.toNat Ad.zero).2.2.2.2.2.1.length then
 if(0:Int)<=((i.1.getD l.toNat Ad.zero).2.2.2.2.2.1.getD q.toNat AyN.zero)/\((i.1.getD l.toNat Ad.zero).2.2.2.2.2.1.getD q.toNat AyN.zero)<(s.length:Int)then
 some (.inl (wI (q+1),s.set ((i.1.getD l.toNat Ad.zero).2.2.2.2.2.1.getD q.toNat AyN.zero).toNat true))
 else none
 else none
 else none
 else
 some (.inr s)
 else none
def FC g l i n (z_:Int×Aye):=HR g l i n z_.1 z_.2
def NF g l i n q s:=fix (FC g l i n) (q,s)
theorem AjR g l i n:A8 wT 0 16 (cd f95 1012) 830 (Ahi g l i n) (FC g l i n) (AeR g l i n):=by
 intro _;simp only[FC,HR,Ax1];kernel_rfl
def HS(g:Ayg)(i:Ax4)(l:Int)(t:Ayd)(u:Aye):Ay0 ((Int×Ayd×Aye)⊕(AyH⊕AyH)):=
 bif decide (l<(i.1.length:Int))then
 if 0<=l/\l<i.1.length then
 (L9 g (i.1.getD l.toNat Ad.zero) l).bind λv=>bif !v then
 some (.inr (.inl (u,t)))
 else
 if 0<=l/\l<i.1.length then
 (Oq g (i.1.getD l.toNat Ad.zero) t).bind λw=>bif !(Bj w 1 4096)then
 some (.inr (.inl (u,t)))
 else
 if(t.length+([w]:Ayd).length)*8<=140737488355328 then
 (NF g l i (t++([w]:Ayd)) 0 u).bind λo=>some (.inl (wI (l+1),t++([w]:Ayd),o))
 else none
 else none
 else none
 else
 some (.inr (.inr (u,t)))
def FD g i (z_:Int×Ayd×Aye):=HS g i z_.1 z_.2.1 z_.2.2
def Kz g i l t u:=fix (FD g i) (l,t,u)
theorem AjS g i:A8 wT 0 7 (code f95) 506 (Ahj g i) (FD g i) (AeS g i):=by
 intro _;simp(disch:=refine id ?_;kernel_rfl) only[FD,HS,Ax1,NF,AO (AjR _ _ _ _) (K:=L5 wT 0 7)];kernel_rfl
def Ahh g i:=sT 103 [(0,Aj g),(3,Aq),(5,.zs)] [.box (NP i)]
def AeQ g i:=λ(x:Bool)=>xN 103 [(0,Aj g),(3,Aq),(5,.zs),(27,dB x)] [.box (NP i)]
def Hm(g:Ayg)(i:Ax4):Ay0 Bool:=
 (HN g).bind λy=>bif !y then
 some true
 else
 bif decide ((i.1.length:Int)<1)then
 some true
 else
 some (decide ((i.1.length:Int)>400))
theorem AjQ g i:AX wT 0 3 (code f95) 28 (Ahh g i) (Hm g i) (AeQ g i):=by
 unfold AX;simp only[Hm,Ax1];kernel_rfl
def Lg(g:Ayg)(i:Ax4):Ay0 Ayd:=
 (Hm g i).bind λx=>bif x then
 some ([]:Ayd)
 else
 if Ty.row .bool=true/\(0:Int)<=(i.1.length:Int)/\(i.1.length:Int)<=(i.1.length:Int)/\((1:Nat):Int)*(i.1.length:Int)<=(281474976710656:Int)/\(i.1.length:Int)<=(9223372036854775807:Int)then
 (Kz g i 0 ([]:Ayd) (List.replicate (i.1.length:Int).toNat false)).bind (Sum.elim (λj=>some ([]:Ayd)) (λk=>(NG k.1 k.2 0).bind (Sum.elim (λc=>some ([]:Ayd)) (λd=>some k.2))))
 else none
def c95:=Ff [.d AyT,.d AJ] [⟨[.Aw [] AyT,.Aw [] AJ],[],Ayd,λp=>Lg p.1.1 p.1.2.1,λr=>(.AA 0,[B4 r])⟩]
theorem x7:Am prog 95 c95:=Ax (fn:=f95) ⟨⟨wT,pk ⟨cq,Qg,rS,rT,trivial⟩,λ_ R K=>by
 simp(disch:=refine id ?_;kernel_rfl) only[Lg,Ax2,A7 (AjQ ..) (K:=A6 wT f95 0 R K),Kz,AO (AjS _ _) (K:=A6 wT f95 0 R K),NG,AO (AjT _ _) (K:=A6 wT f95 0 R K)];kernel_rfl⟩,trivial⟩
abbrev E25:=eN [(95,c95)] {}
def B6(a:Ayg)(b:Ax4):Ay0 Int:=
 (Lg a b).bind λc=>bif (c.length:Int)==0 then
 some (-1)
 else
 if 0<=(wI ((c.length:Int)-1))/\(wI ((c.length:Int)-1))<c.length then
 some (c.getD (wI ((c.length:Int)-1)).toNat AyN.zero)
 else none
def c62:=Ff [.d AyT,.d AJ] [⟨[.Aw [] AyT,.Aw [] AJ],[],Int,λp=>B6 p.1.1 p.1.2.1,λr=>(dI r,[])⟩]
theorem Vm:Am prog 62 c62:=Ax (fn:=f62) ⟨⟨E25,pk ⟨x7,trivial⟩,λ_ R K=>by
 simp only[B6,Ax2];kernel_rfl⟩,trivial⟩
abbrev E26:=eN [] {Sl:=[.mvs 8 [],.Be 0]}
def NC(a b c:Int)(d:Ayh):Ay0 Ayh:=
 bif decide (b>c)then
 if(d.length+([(4,0,wI (c-1),0,(0,([]:Ayd),()),([a]:Ayd),())]:Ayh).length)*88<=140737488355328 then
 some (d++([(4,0,wI (c-1),0,(0,([]:Ayd),()),([a]:Ayd),())]:Ayh))
 else none
 else
 bif decide (b<c)then
 if(d.length+([(5,0,wI (c-b),0,(0,([]:Ayd),()),([a]:Ayd),())]:Ayh).length)*88<=140737488355328 then
 some (d++([(5,0,wI (c-b),0,(0,([]:Ayd),()),([a]:Ayd),())]:Ayh))
 else none
 else
 some d
def Acv:=Ff [.Sm,.d AyN,.d AyN,.d AyN] [⟨[.k (.AA 0),.Aw [] AyN,.Aw [] AyN,.Aw [] AyN],[.row 51 .Ao Ad],Ayh,λp=>NC p.1.2.1 p.1.2.2.1 p.1.2.2.2.1 p.2.1,λr=>(.AA 1,[.Be,FH r])⟩]
theorem fj:Am prog 130 Acv:=Ax (fn:=f130) ⟨⟨E26,pk trivial,λ_ R K=>by
 simp only[NC,Ax2];kernel_rfl⟩,trivial⟩
abbrev bY:=eN [(21,c21),(40,lM),(62,c62),(92,c92),(130,Acv),(132,AmJ),(133,AmK)] {Bv:=[(5,{Bb:=[0,1,2,6,7,8,9,10],Cy:=[(7,false,.row [] 51 Ad true)]})],CM:=[(5,{Bb:=[1,2,6,7,8],Ph:=[(7,false,.sl Ad)]})],B5:=[(6,[0,1,2,6,7,8,9,10]),(12,{Bb:=[0,1,2,6,7,8,9,10,11,12],Cy:=[(11,true,.row [4,1] 101 AyO true)]}),(24,[0,1,2,6,7,8,9,10,12,13]),(27,[0,1,2,6,7,8,9,10,12,13]),(34,[0,1,2,6,7,8,9,10,13,65,117]),(38,[0,1,2,6,7,8,9,10,13,65,127]),(42,[0,1,2,6,7,8,9,10,13]),(49,[6,15])],EO:=[(6,[0,1,2,6,7,8,9,10]),(12,[0,1,2,6,7,8,9,10,11,12]),(24,[0,1,2,6,7,8,9,10,12,13,14]),(27,[0,1,2,6,7,8,9,10,12,13]),(34,[0,1,2,6,7,8,9,10,13,65]),(38,[0,1,2,6,7,8,9,10,13,65]),(42,[0,1,2,6,7,8,9,10,11,12,13]),(49,[1,2,6,7,15])]}
def AbP a b c d e:=sT 170 [(1,Aj a),(2,dI b),(6,Ay),(7,.AA 2),(15,M8)] [.box (.pr (Bl d) (.pr (dI e) .u)),.box Iv,FH c,.box eI]
def Abv(a:Ayg)(b:Int)(c:Ayh) d e:=λ(g:Ayh)=>xN 170 [(6,Ay),(15,BQ)] (Qb d e g)
def Ih(a:Ayg)(b:Int)(c:Ayh)(d:Ayd)(e:Int):Ay0 Ayh:=
 bif decide (b>0)then
 (B6 a (c,())).bind λi=>(NC (wI ((c.length:Int)-1)) i b c).bind λj=>some j
 else
 some c
theorem Ab7 a b c d e:AX bY 1 49 (code f93) 510 (AbP a b c d e) (Ih a b c d e) (Abv a b c d e):=by
 unfold AX;simp only[Ih,Ax1];kernel_rfl
def Ahq(k:Int) a b (z_:Int×Int×Int×Ayd×Int×Ayh):=sT 170 (zN k a b z_.1 z_.2.1 z_.2.2.1) (zO z_.2.2.2.1 z_.2.2.2.2.1 z_.2.2.2.2.2)
def AeZ(k:Int) a b:=λ(l:(Ayh×Int×Ayd×Int))=>xE 0 170 [(1,Aj a),(2,dI b),(6,Ay),(7,Qv l.1),(8,dI l.2.1)] [.box (.pr (Bl l.2.2.1) (.pr (dI l.2.2.2) .u)),.box Iv]
def Ahp(k:Int) a b n o q s t u:=sT 170 (zN k a b n o q) (zO s t u)
def AeY(k:Int) a b n (o:Int) q (s:Ayd) (t:Int) (u:Ayh):=Sum.elim (λ(v:(Int×Int×Ayd×Int×Ayh))=>xN 170 (zN k a b v.1 v.2.1 q) (zO v.2.2.1 v.2.2.2.1 v.2.2.2.2)) (λ(w:AyE)=>xE 0 170 (zN k a b n w.1 q) (zO w.2.1 w.2.2.1 w.2.2.2))
def Aho(k:Int) a b n o q u x y a1 b1 c1 d1 e1 g1 i1:=sT 170 [(0,.ptr 0 k [] 0),(1,Aj a),(2,dI b),(6,Ay),(7,.AA 2),(8,dI n),(9,dI o),(10,dI q),(11,M8),(12,dI x),(13,QJ)] [.box (.pr (Bl y) (.pr (dI a1) .u)),.box Iv,FH u,.box (.pr (dI b1) (.pr (dI c1) (.pr (dI 0) (.pr (dI 0) (.pr (.pr (dI d1) (.pr (.AA 5) .u)) Iv))))),.box (.pr (dI e1) (.pr (dI 0) (.pr (dI 0) (.pr (dI 0) (.pr ZC (.pr (.AA 6) .u)))))),Dt g1,B4 i1]
def AeX(k:Int) a b n (o:Int) q (u:Ayh) (x:Int) (y:Ayd) (a1:Int) (b1:Int) (c1:Int) (d1:Int) e1 (g1:Ayd) (i1:Ayd):=λ(j1:(Int×Ayd×Int×Ayh×Int×Int×Ayd))=>xN 170 [(0,.ptr 0 k [] 0),(1,Aj a),(2,dI b),(6,Ay),(7,.AA 2),(8,dI n),(9,dI j1.1),(10,dI q),(13,M8)] [.box (.pr (Bl j1.2.1) (.pr (dI j1.2.2.1) .u)),.box Iv,FH j1.2.2.2.1,.box (.pr (dI e1) (.pr (dI 0) (.pr (dI j1.2.2.2.2.1) (.pr (dI j1.2.2.2.2.2.1) (.pr ZC Ux))))),B4 j1.2.2.2.2.2.2]
def z7(k:Int) a b n o q e1 y a1 u i1:=sT 170 (Abh k a b n o q e1) (Xo y a1 u e1 i1)
def qF(k:Int)(a:Ayg)(b n o q e1:Int)(y:Ayd)(a1:Int)(u:Ayh)(i1:Ayd)(m0:Bool):Ex×St:=xN 170 [(0,.ptr 0 k [] 0),(1,Aj a),(2,dI b),(6,Ay),(7,.AA 2),(8,dI n),(9,dI o),(10,dI q),(13,M8),(65,dI e1),(127,dB m0)] (Xo y a1 u e1 i1)
theorem AjY k a b n o q e1 y a1 u i1:S1 bY 1 38 (sb (sb (cd f93 500) 6) 190) (pt 894) (z7 k a b n o q e1 y a1 u i1)=some (qF k a b n o q e1 y a1 u i1 (bif e1==7 then(e1==7)else(e1==8))):=by
 refine .trans (b:=
 bif e1==7 then
 some (qF k a b n o q e1 y a1 u i1 (e1==7))
 else
 some (qF k a b n o q e1 y a1 u i1 (e1==8))) (by kernel_rfl) ?_
 cases (e1==7);rfl;rfl
def zZ(k:Int) a b n o q e1 y a1 u i1:=sT 170 (Abh k a b n o q e1) (Xo y a1 u e1 i1)
def qE(k:Int)(a:Ayg)(b n o q e1:Int)(y:Ayd)(a1:Int)(u:Ayh)(i1:Ayd)(m0:Bool):Ex×St:=xN 170 [(0,.ptr 0 k [] 0),(1,Aj a),(2,dI b),(6,Ay),(7,.AA 2),(8,dI n),(9,dI o),(10,dI q),(13,M8),(65,dI e1),(117,dB m0)] (Xo y a1 u e1 i1)
theorem AjX k a b n o q e1 y a1 u i1:S1 bY 1 34 (sb (sb (cd f93 500) 6) 190) (pt 222) (zZ k a b n o q e1 y a1 u i1)=some (qE k a b n o q e1 y a1 u i1 (bif e1==5 then(e1==5)else(e1==6))):=by
 refine .trans (b:=
 bif e1==5 then
 some (qE k a b n o q e1 y a1 u i1 (e1==5))
 else
 some (qE k a b n o q e1 y a1 u i1 (e1==6))) (by kernel_rfl) ?_
 cases (e1==5);rfl;rfl
def Ahn(k:Int) a b n o q x e1 k1 l1 n1 o1:=sT 170 (wo k a b n o q x) (Xo k1 l1 n1 e1 o1)
def AeW(k:Int) a b n o q (x:Int) e1 (k1:Ayd) (l1:Int) n1 (o1:Ayd):=λ(q1:AyD)=>xN 170 (wo k a b n o q q1.1) (Xo q1.2.1 q1.2.2.1 n1 e1 q1.2.2.2)
def JW(k:Int)(a:Ayg)(b n o q x e1:Int)(k1:Ayd)(l1:Int)(n1:Ayh)(o1:Ayd):Ay0 AyD:=
 (Bd k 6 k1 l1).bind λs1=>bif s1.1 then
 if(o1.length+([n]:Ayd).length)*8<=140737488355328 then
 some (wI (x+o),s1.2.1,s1.2.2,o1++([n]:Ayd))
 else none
 else
 some (x,s1.2.1,s1.2.2,o1)
theorem AjW k a b n o q x e1 k1 l1 n1 o1:AX bY 1 27 (sb (sb (cd f93 500) 6) 190) 862 (Ahn k a b n o q x e1 k1 l1 n1 o1) (JW k a b n o q x e1 k1 l1 n1 o1) (AeW k a b n o q x e1 k1 l1 n1 o1):=by
 unfold AX;simp only[JW,Ax1];kernel_rfl
def Ahm(k:Int) a b n o q x y a1 e1 t1 u1 v1:=sT 170 [(0,.ptr 0 k [] 0),(1,Aj a),(2,dI b),(6,Ay),(7,.AA 2),(8,dI n),(9,dI o),(10,dI q),(12,dI x),(13,M8),(14,dI t1)] (Xo y a1 u1 e1 v1)
def AeV(k:Int) a b n o q x (y:Ayd) (a1:Int) e1 (t1:Int) u1 (v1:Ayd):=λ(w1:(Ayd×Int×Ayd))=>xN 170 (wo k a b n o q x) (Xo w1.1 w1.2.1 u1 e1 w1.2.2)
def JV(k:Int)(a:Ayg)(b n o q x:Int)(y:Ayd)(a1 e1 t1:Int)(u1:Ayh)(v1:Ayd):Ay0 (Ayd×Int×Ayd):=
 (Bd k 2 y a1).bind λx1=>bif x1.1 then
 some (x1.2.1,x1.2.2,([t1,n]:Ayd))
 else
 some (x1.2.1,x1.2.2,v1)
theorem AjV k a b n o q x y a1 e1 t1 u1 v1:AX bY 1 24 (sb (sb (cd f93 500) 6) 190) 430 (Ahm k a b n o q x y a1 e1 t1 u1 v1) (JV k a b n o q x y a1 e1 t1 u1 v1) (AeV k a b n o q x y a1 e1 t1 u1 v1):=by
 unfold AX;simp only[JV,Ax1];kernel_rfl
def JX(k:Int)(a:Ayg)(b n o q:Int)(u:Ayh)(x:Int)(y:Ayd)(a1 b1 c1 d1 e1:Int)(g1 i1:Ayd):Ay0 (Int×Ayd×Int×Ayh×Int×Int×Ayd):=
 bif e1==3 then
 if(u.length+([(b1,c1,0,0,(d1,g1,()),([]:Ayd),())]:Ayh).length)*88<=140737488355328 then
 (JV k a b n o q x y a1 e1 (wI (((u++([(b1,c1,0,0,(d1,g1,()),([]:Ayd),())]:Ayh)).length:Int)-1)) (u++([(b1,c1,0,0,(d1,g1,()),([]:Ayd),())]:Ayh)) ([n,wI (((u++([(b1,c1,0,0,(d1,g1,()),([]:Ayd),())]:Ayh)).length:Int)-1)]:Ayd)).bind λw1=>(JW k a b n o q x e1 w1.1 w1.2.1 (u++([(b1,c1,0,0,(d1,g1,()),([]:Ayd),())]:Ayh)) w1.2.2).bind λq1=>some (wI (o+q1.1),q1.2.1,q1.2.2.1,u++([(b1,c1,0,0,(d1,g1,()),([]:Ayd),())]:Ayh),0,0,q1.2.2.2)
 else none
 else
 bif e1==4 then
 (DJ k 0 (wI (o-1)) y a1).bind λy1=>(DJ k 0 y1.1 y1.2.1 y1.2.2).bind λa2=>some (wI ((wI (y1.1-a2.1))+1),a2.2.1,a2.2.2,u,y1.1,a2.1,i1)
 else
 Np (zZ k a b n o q e1 y a1 u i1) (
 bif bif (e1==5)then(e1==5)else(e1==6)then
 (An k 5 y a1).bind λb2=>some (wI (o+b2.1),b2.2.1,b2.2.2,u,b2.1,0,i1)
 else
 Np (z7 k a b n o q e1 y a1 u i1) (
 bif bif (e1==7)then(e1==7)else(e1==8)then
 (An k 9 y a1).bind λc2=>some (o,c2.2.1,c2.2.2,u,c2.1,0,i1)
 else
 bif e1==9 then
 (An k 3 y a1).bind λd2=>some (wI (o*(wI (1+d2.1))),d2.2.1,d2.2.2,u,wI (1+d2.1),0,i1)
 else
 some (o,y,a1,u,0,0,i1)))
theorem AjZ k a b n o q u x y a1 b1 c1 d1 e1 g1 i1:AX bY 1 42 (sb (cd f93 500) 6) 190 (Aho k a b n o q u x y a1 b1 c1 d1 e1 g1 i1) (JX k a b n o q u x y a1 b1 c1 d1 e1 g1 i1) (AeX k a b n o q u x y a1 b1 c1 d1 e1 g1 i1):=by
 unfold AX;simp(disch:=refine id ?_;kernel_rfl) only[JX,Ax1,A7 (AjV ..) (K:=OZ bY 1 42),A7 (AjW ..) (K:=OZ bY 1 42),EM (AjX ..) (K:=OZ bY 1 42),EM (AjY ..) (K:=OZ bY 1 42)];kernel_rfl
def Ahl(k:Int) a b n o q u e2 g2 i2 j2:=sT 170 (Abi k a b n o q e2) [.box (.pr (Bl g2) (.pr (dI i2) .u)),.box Iv,FH u,.box (.pr (dI 1) (.pr (dI j2) (.pr (dI 0) (.pr (dI 0) (.pr ZC Iv)))))]
def AeU(k:Int) a b n o q u (e2:Int) (g2:Ayd) (i2:Int) (j2:Int):=λ(k2:(Int×Ayd×Int×Int×Int×Int×Ayd))=>xN 170 (Abi k a b n o q k2.1) [.box (.pr (Bl k2.2.1) (.pr (dI k2.2.2.1) .u)),.box Iv,FH u,.box (.pr (dI k2.2.2.2.1) (.pr (dI k2.2.2.2.2.1) (.pr (dI 0) (.pr (dI 0) (.pr (.pr (dI k2.2.2.2.2.2.1) Ux) Iv))))),Dt k2.2.2.2.2.2.2]
def JU(k:Int)(a:Ayg)(b n o q:Int)(u:Ayh)(e2:Int)(g2:Ayd)(i2 j2:Int):Ay0 (Int×Ayd×Int×Int×Int×Int×Ayd):=
 (Bd k 5 g2 i2).bind λl2=>bif l2.1 then
 (An k 6 l2.2.1 l2.2.2).bind λn2=>(JN k (wI (1+n2.1)) n2.2.1 n2.2.2).bind λo2=>some (wI (1+n2.1),o2.2.1,o2.2.2.1,2,0,o2.1,o2.2.2.2)
 else
 some (e2,l2.2.1,l2.2.2,1,j2,0,([]:Ayd))
theorem AjU k a b n o q u e2 g2 i2 j2:AX bY 1 12 (sb (cd f93 500) 6) 22 (Ahl k a b n o q u e2 g2 i2 j2) (JU k a b n o q u e2 g2 i2 j2) (AeU k a b n o q u e2 g2 i2 j2):=by
 unfold AX;simp only[JU,Ax1];kernel_rfl
def ML(k:Int)(a:Ayg)(b n o q:Int)(s:Ayd)(t:Int)(u:Ayh):Ay0 ((Int×Int×Ayd×Int×Ayh)⊕AyE):=
 (An k (a.length:Int) s t).bind λq2=>if(0:Int)<=q2.1/\q2.1<(a.length:Int)then
 (JU k a b n o q u (a.getD q2.1.toNat Ab.zero).2.1 q2.2.1 q2.2.2 q2.1).bind λk2=>bif decide (n<0)then
 if(u.length+([(k2.2.2.2.1,k2.2.2.2.2.1,0,0,(k2.2.2.2.2.2.1,k2.2.2.2.2.2.2,()),([]:Ayd),())]:Ayh).length)*88<=140737488355328 then
 some (.inl (0,k2.1,k2.2.1,k2.2.2.1,u++([(k2.2.2.2.1,k2.2.2.2.2.1,0,0,(k2.2.2.2.2.2.1,k2.2.2.2.2.2.2,()),([]:Ayd),())]:Ayh)))
 else none
 else
 (DJ k 3 9 k2.2.1 k2.2.2.1).bind λs2=>(JX k a b n o q u k2.1 s2.2.1 s2.2.2 k2.2.2.2.1 k2.2.2.2.2.1 k2.2.2.2.2.2.1 s2.1 k2.2.2.2.2.2.2 ([n]:Ayd)).bind λj1=>bif decide (j1.1>200)then
 some (.inr (j1.1,j1.2.1,j1.2.2.1,j1.2.2.2.1))
 else
 if(j1.2.2.2.1.length+([(s2.1,0,j1.2.2.2.2.1,j1.2.2.2.2.2.1,(0,([]:Ayd),()),j1.2.2.2.2.2.2,())]:Ayh).length)*88<=140737488355328 then
 some (.inl (wI (((j1.2.2.2.1++([(s2.1,0,j1.2.2.2.2.1,j1.2.2.2.2.2.1,(0,([]:Ayd),()),j1.2.2.2.2.2.2,())]:Ayh)).length:Int)-1),j1.1,j1.2.1,j1.2.2.1,j1.2.2.2.1++([(s2.1,0,j1.2.2.2.2.1,j1.2.2.2.2.2.1,(0,([]:Ayd),()),j1.2.2.2.2.2.2,())]:Ayh)))
 else none
 else none
theorem Aj0 k a b n o q s t u:AX bY 1 6 (cd f93 500) 6 (Ahp k a b n o q s t u) (ML k a b n o q s t u) (AeY k a b n o q s t u):=by
 unfold AX;simp(disch:=refine id ?_;kernel_rfl) only[ML,Ax1,A7 (AjU ..) (K:=OZ bY 1 6),A7 (AjZ ..) (K:=OZ bY 1 6)];kernel_rfl
def ND(k:Int)(a:Ayg)(b n o q:Int)(s:Ayd)(t:Int)(u:Ayh):Ay0 ((Int×Int×Int×Ayd×Int×Ayh)⊕(Ayh×Int×Ayd×Int)):=
 bif decide (q>0)then
 (ML k a b n o q s t u).bind (Sum.elim (λv=>some (.inl (v.1,v.2.1,wI (q-1),v.2.2.1,v.2.2.2.1,v.2.2.2.2))) (λw=>some (.inr (w.2.2.2,n,w.2.1,w.2.2.1))))
 else
 some (.inr (u,n,s,t))
def Kx k a b (z_:Int×Int×Int×Ayd×Int×Ayh):=ND k a b z_.1 z_.2.1 z_.2.2.1 z_.2.2.2.1 z_.2.2.2.2.1 z_.2.2.2.2.2
def MM k a b n o q s t u:=fix (Kx k a b) (n,o,q,s,t,u)
theorem Aj1 k a b:A8 bY 1 5 (code f93) 250 (Ahq k a b) (Kx k a b) (AeZ k a b):=by
 intro _;simp(disch:=refine id ?_;kernel_rfl) only[Kx,ND,Ax1,A7 (Aj0 ..) (K:=L5 bY 1 5)];kernel_rfl
def DN(k:Int)(a:Ayg)(b:Int)(t2:Ayd)(u2:Int):Ay0 Ayt:=
 (An k (if(wI (2+(wI (Int.tdiv (t2.length:Int) 12))))<7 then(wI (2+(wI (Int.tdiv (t2.length:Int) 12))))else 7) t2 u2).bind λv2=>(MM k a b (-1) 0 (wI (1+v2.1)) v2.2.1 v2.2.2 ([]:Ayh)).bind λl=>(MN l.1 l.2.1).bind λc=>(Ih a b c l.2.2.1 l.2.2.2).bind λg=>some (l.2.2.1,l.2.2.2,g)
def c93:=Ff [.Sm,.d AyT,.d AyN] [⟨[.ptr 0 [] 0,.Aw [] AyT,.Aw [] AyN],[.box (.pr (.Aw [] AyV) (.pr (.Aw [] AyN) (.k .u)))],Ayt,λp=>DN p.1.1 p.1.2.1 p.1.2.2.1 p.2.1.1 p.2.1.2.1,λr=>(.pr (.AA 1) .u,[.box (.pr (Bl r.1) (.pr (dI r.2.1) .u)),FH r.2.2])⟩]
theorem lR:Am prog 93 c93:=Ax (fn:=f93) ⟨⟨bY,pk ⟨Tv,J5,Vm,lQ,fj,rP,rQ,trivial⟩,λ_ R K=>by
 simp(disch:=refine id ?_;kernel_rfl) only[DN,Ax2,MM,AO (Aj1 _ _ _) (K:=A6 bY f93 1 R K),A7 (Ab7 ..) (K:=A6 bY f93 1 R K)];kernel_rfl⟩,trivial⟩
abbrev zP:=eN [(21,c21),(40,lM),(62,c62),(93,c93),(130,Acv)] {B5:=[(7,[0,1,2,6,7,8]),(10,[0,1,2,6,7,8])],Vv:=[(10,{Bb:=[6],PO:=true,qx:=[0,1]})],EO:=[(7,[0,1,2,6,7,8]),(10,[0,1,2,6,7,8])],W5:=[(10,[0,1,2,6,7,8])]}
def z8(a:Int) b c d e g i:=sT 52 (iW a b c d) (iX e g i)
def ag(a:Int)(b:Ayg) c (d:Int) (e:Ayd) (g:Int) i:=λ(j:(Ayd×Int×Bool×Ayh))=>sT 52 [(6,Ay)] [.box (.pr (Bl j.1) (.pr (dI j.2.1) .u)),.box (.pr (dI c) (.pr (dB j.2.2.1) (.pr eI (.pr Wc .u)))),FH i,FH j.2.2.2]
def Jb(a:Int)(b:Ayg)(c d:Int)(e:Ayd)(g:Int)(i:Ayh):Ay0 (Ayd×Int×Bool×Ayh):=
 (Bd a 3 e g).bind λk=>(DN a b d k.2.1 k.2.2).bind λl=>some (l.1,l.2.1,!k.1,l.2.2)
theorem Aj4(a:Int)(b:Ayg)(c d:Int)(e:Ayd)(g:Int)(i:Ayh):KM zP 1 10 (code f91) 126 (z8 a b c d e g i) (Jb a b c d e g i) (ag a b c d e g i):=by
 unfold KM;have h:eL zP 1 10 (code f91) (pt 126) (z8 a b c d e g i) =
 (Bd a 3 e g).bind λk=>(DN a b d k.2.1 k.2.2).bind λl=>(((Bd a 3 e g).bind λn=>((DN a b d n.2.1 n.2.2).bind λo=>N6 (ag a b c d e g i (o.1,o.2.1,!n.1,o.2.2)) (ag a b c d e g i (l.1,l.2.1,!k.1,l.2.2))).bind λ_=>(DN a b d n.2.1 n.2.2).bind λq=>N6 (ag a b c d e g i (q.1,q.2.1,!n.1,q.2.2)) (ag a b c d e g i (l.1,l.2.1,!k.1,l.2.2))).bind λ_=>some (ag a b c d e g i (l.1,l.2.1,!k.1,l.2.2))):=by kernel_rfl
 rw[h];unfold Jb;simp only[Ax1,mS,mO];clear h;cases DT:Bd a 3 e g with
 |none=>rfl
 |some k =>
  simp only[Av9];cases G3:DN a b d k.2.1 k.2.2 with
  |none=>rfl
  |some l =>
   simp only[Av9];simp only[DT,G3,AwS,Av9,GG,CX]
def Ahs(a:Int) b c s t u v:=sT 52 (iW a b c s) (iX t u v)
def Ae1(a:Int) b c (s:Int) t u (v:Ayh):=λ(w:(Int×Ayh))=>xN 52 (iW a b c w.1) (iX t u w.2)
def Gu(a:Int)(b:Ayg)(c s:Int)(t:Ayd)(u:Int)(v:Ayh):Ay0 (Int×Ayh):=
 bif decide (s>40)then
 (NC (wI ((v.length:Int)-1)) s 12 v).bind λx=>some (12,x)
 else
 some (s,v)
theorem Aj3 a b c s t u v:AX zP 1 10 (code f91) 62 (Ahs a b c s t u v) (Gu a b c s t u v) (Ae1 a b c s t u v):=by
 unfold AX;simp only[Gu,Ax1];kernel_rfl
def Ahr(a:Int) b c y a1 b1 c1:=sT 52 (iW a b c y) (iX a1 b1 c1)
def Ae0(a:Int) b c (y:Int) (a1:Ayd) (b1:Int) (c1:Ayh):=λ(d1:AyE)=>xN 52 (iW a b c d1.1) (iX d1.2.1 d1.2.2.1 d1.2.2.2)
def Gt(a:Int)(b:Ayg)(c y:Int)(a1:Ayd)(b1:Int)(c1:Ayh):Ay0 AyE:=
 (Bd a 2 a1 b1).bind λe1=>bif e1.1 then
 (An a (b.length:Int) e1.2.1 e1.2.2).bind λg1=>if(0:Int)<=g1.1/\g1.1<(b.length:Int)then
 some ((b.getD g1.1.toNat Ab.zero).2.1,g1.2.1,g1.2.2,([(1,g1.1,0,0,(0,([]:Ayd),()),([]:Ayd),())]:Ayh))
 else none
 else
 some (y,e1.2.1,e1.2.2,c1)
theorem Aj2 a b c y a1 b1 c1:AX zP 1 7 (code f91) 30 (Ahr a b c y a1 b1 c1) (Gt a b c y a1 b1 c1) (Ae0 a b c y a1 b1 c1):=by
 unfold AX;simp only[Gt,Ax1];kernel_rfl
def JY(a:Int)(b:Ayg)(c:Int)(i1:Ayd)(j1:Int):Ay0 (Int×Bool×Ayd×Int×Ayh×Ayh):=
 (DN a b 0 i1 j1).bind λk1=>(B6 b (k1.2.2,())).bind λy=>(Gt a b c y k1.1 k1.2.1 k1.2.2).bind λd1=>(Gu a b c d1.1 d1.2.1 d1.2.2.1 d1.2.2.2).bind λw=>(Jb a b c w.1 d1.2.1 d1.2.2.1 w.2).bind λj=>some (c,j.2.2.1,j.1,j.2.1,w.2,j.2.2.2)
def c91:=Ff [.Sm,.d AyT,.d AyN] [⟨[.ptr 0 [] 0,.Aw [] AyT,.Aw [] AyN],[.box (.pr (.Aw [] AyV) (.pr (.Aw [] AyN) (.k .u)))],Int×Bool×Ayd×Int×Ayh×Ayh,λp=>JY p.1.1 p.1.2.1 p.1.2.2.1 p.2.1.1 p.2.1.2.1,λr=>(.pr (dI r.1) (.pr (dB r.2.1) (.pr (.pr (.AA 1) .u) (.pr eI .u))),[.box (.pr (Bl r.2.2.1) (.pr (dI r.2.2.2.1) .u)),FH r.2.2.2.2.1,FH r.2.2.2.2.2])⟩]
theorem x5:Am prog 91 c91:=Ax (fn:=f91) ⟨⟨zP,pk ⟨Tv,J5,Vm,lR,fj,trivial⟩,λ_ R K=>by
 simp(disch:=refine id ?_;kernel_rfl) only[JY,Ax2,A7 (Aj2 ..) (K:=A6 zP f91 1 R K),A7 (Aj3 ..) (K:=A6 zP f91 1 R K),OT (Aj4 ..) (K:=A6 zP f91 1 R K)];kernel_rfl⟩,trivial⟩
abbrev E29:=eN [(40,lM),(90,c90),(91,c91)] {Bv:=[(4,{Bb:=[0,1,7,8,9],Cy:=[(7,false,.row [] 83 Af true)]})],CM:=[(4,[7])]}
def Aht(a:Int) b (z_:Int×Int×Ayd×Int×Ayj):=sT 31 [(0,.ptr 0 a [] 0),(1,Aj b),(7,.AA 1),(8,dI z_.1),(9,dI z_.2.1)] [.box (.pr (Bl z_.2.2.1) (.pr (dI z_.2.2.2.1) .u)),eF z_.2.2.2.2]
def Ae2(a:Int)(b:Ayg):=λ(c:AyA)=>xE 0 31 [(7,.AA 1)] [.box (.pr (Bl c.1) (.pr (dI c.2.1) .u)),eF c.2.2]
def Hj(a:Int)(b:Ayg)(d e:Int)(g:Ayd)(i:Int)(j:Ayj):Ay0 ((Int×Int×Ayd×Int×Ayj)⊕AyA):=
 bif decide (e>0)then
 (An a 3 g i).bind λk=>(JY a b (wI ((wI (d+1))+k.1)) k.2.1 k.2.2).bind λl=>if(j.length+([(l.1,l.2.1,(l.2.2.2.2.1,()),(l.2.2.2.2.2,()),())]:Ayj).length)*64<=140737488355328 then
 some (.inl (wI ((wI (d+1))+k.1),wI (e-1),l.2.2.1,l.2.2.2.1,j++([(l.1,l.2.1,(l.2.2.2.2.1,()),(l.2.2.2.2.2,()),())]:Ayj)))
 else none
 else
 some (.inr (g,i,j))
def D9 a b (z_:Int×Int×Ayd×Int×Ayj):=Hj a b z_.1 z_.2.1 z_.2.2.1 z_.2.2.2.1 z_.2.2.2.2
def FP a b d e g i j:=fix (D9 a b) (d,e,g,i,j)
theorem Aj5 a b:A8 E29 1 4 (code f57) 122 (Aht a b) (D9 a b) (Ae2 a b):=by
 intro _;simp only[D9,Hj,Ax1];kernel_rfl
def FA(a:Int)(b:Ayg)(n:Int)(o:Ayd)(q:Int):Ay0 AyA:=
 (JR a 14 n o q).bind λs=>(FP a b 0 s.1 s.2.1 s.2.2 ([]:Ayj)).bind λc=>some (c.1,c.2.1,c.2.2)
def c57:=Ff [.Sm,.d AyT,.d AyN] [⟨[.ptr 0 [] 0,.Aw [] AyT,.Aw [] AyN],[.box (.pr (.Aw [] AyV) (.pr (.Aw [] AyN) (.k .u)))],AyA,λp=>FA p.1.1 p.1.2.1 p.1.2.2.1 p.2.1.1 p.2.1.2.1,λr=>(.AA 1,[.box (.pr (Bl r.1) (.pr (dI r.2.1) .u)),eF r.2.2])⟩]
theorem xK:Am prog 57 c57:=Ax (fn:=f57) ⟨⟨E29,pk ⟨J5,xZ,x5,trivial⟩,λ_ R K=>by
 simp(disch:=refine id ?_;kernel_rfl) only[FA,Ax2,FP,AO (Aj5 _ _) (K:=A6 E29 f57 1 R K)];kernel_rfl⟩,trivial⟩
abbrev E30:=eN [(21,c21),(40,lM),(92,c92)] {}
def Av(a b c:Int)(d:Ayd)(e:Int):Ay0 Ays:=
 (Bd a 24 d e).bind λg=>bif g.1 then
 (An a 4 g.2.1 g.2.2).bind λi=>if(0:Int)<=i.1/\i.1<(4:Int)then
 some (([wI (b-1),wI (c+1),-9223372036854775808,9223372036854775807]:Ayd).getD i.1.toNat AyN.zero,i.2.1,i.2.2)
 else none
 else
 (DJ a b c g.2.1 g.2.2).bind λj=>some (j.1,j.2.1,j.2.2)
def c58:=Ff [.Sm,.d AyN,.d AyN] [⟨[.ptr 0 [] 0,.Aw [] AyN,.Aw [] AyN],[.box (.pr (.Aw [] AyV) (.pr (.Aw [] AyN) (.k .u)))],Ays,λp=>Av p.1.1 p.1.2.1 p.1.2.2.1 p.2.1.1 p.2.1.2.1,λr=>(dI r.1,[.box (.pr (Bl r.2.1) (.pr (dI r.2.2) .u))])⟩]
theorem cn:Am prog 58 c58:=Ax (fn:=f58) ⟨⟨E30,pk ⟨Tv,J5,lQ,trivial⟩,λ_ R K=>by
 simp only[Av,Ax2];kernel_rfl⟩,trivial⟩
abbrev Wi:=eN [(40,lM),(58,c58),(62,c62),(93,c93)] {Bv:=[(17,[0,6,7]),(21,[1,6,7,9])],CM:=[(17,[6,7]),(21,[6,7])],B5:=[(26,[1,6,7,9,10,11]),(27,[6,7])],Vv:=[(5,[6,7]),(7,[6,7]),(9,[6,7]),(11,{Bb:=[6,7],PO:=true,qx:=[0]}),(13,{Bb:=[6,7],PO:=true,qx:=[0]}),(17,{Bb:=[0,6,7,97],PO:=true,qx:=[0]})],EO:=[(26,[1,6,7,9,10,11]),(27,[0,1,6,7,8])],W5:=[(5,[0,6,7,8]),(7,[0,6,7,8]),(9,[0,6,7,8]),(11,[0,1,6,7,8]),(13,[0,6,7,8]),(17,[0,6,7])],stl:=[71]}
def Ahx(a:Int) b c d e g:=sT 145 [(0,.ptr 0 a [] 0),(1,Aj b),(6,Ay),(7,BQ),(8,dI c)] (Qb d e g)
def Ae6(a:Int)(b:Ayg)(c:Int)(d:Ayd)(e:Int)(g:Ayh):=λ(i:Ayt)=>xN 145 Xp (Qb i.1 i.2.1 i.2.2)
def Ahw b j k (z_:Int×Ayh):=sT 145 [(1,Aj b),(6,Ay),(7,BQ),(9,dI z_.1)] (Qb j k z_.2)
def Ae5(b:Ayg) j k:=λ(l:Ayh)=>xE 3 145 Xp (Qb j k l)
def Ahv b n o j k q s:=sT 145 (wq b n s o) (Qb j k q)
def Ae4 b n o j k q s:=Sum.elim (λ(t:Unit)=>xE 3 145 (wq b n s o) (Qb j k q)) (λ(u:Unit)=>xN 145 (wq b n s o) (Qb j k q))
def Gr(b:Ayg)(n o:Int)(j:Ayd)(k:Int)(q:Ayh)(s:Int):Ay0 (Unit⊕Unit):=
 bif decide (o<1)then
 some (.inl ())
 else
 bif decide ((wI (2*o))>4096)then
 some (.inl ())
 else
 some (.inr ())
theorem Akd b n o j k q s:AX Wi 1 26 (sb (cd f59 30) 3670004) 102 (Ahv b n o j k q s) (Gr b n o j k q s) (Ae4 b n o j k q s):=by
 unfold AX;simp only[Gr,Ax1];kernel_rfl
def HQ(b:Ayg)(j:Ayd)(k n:Int)(q:Ayh):Ay0 ((Int×Ayh)⊕Ayh):=
 bif decide (n<40)then
 (B6 b (q,())).bind λo=>(Gr b n o j k q (wI ((q.length:Int)-1))).bind (Sum.elim (λt=>some (.inr q)) (λu=>if(q.length+([(3,0,0,0,(0,([]:Ayd),()),([wI ((q.length:Int)-1),wI ((q.length:Int)-1)]:Ayd),()),(4,0,wI (o-1),0,(0,([]:Ayd),()),([wI ((wI ((q.length:Int)-1))+1)]:Ayd),())]:Ayh).length)*88<=140737488355328 then
 some (.inl (wI (n+1),q++([(3,0,0,0,(0,([]:Ayd),()),([wI ((q.length:Int)-1),wI ((q.length:Int)-1)]:Ayd),()),(4,0,wI (o-1),0,(0,([]:Ayd),()),([wI ((wI ((q.length:Int)-1))+1)]:Ayd),())]:Ayh)))
 else none))
 else
 some (.inr q)
def EK b j k (z_:Int×Ayh):=HQ b j k z_.1 z_.2
def Gs b j k n q:=fix (EK b j k) (n,q)
theorem Ake b j k:A8 Wi 1 21 (cd f59 30) 1835002 (Ahw b j k) (EK b j k) (Ae5 b j k):=by
 intro _;simp(disch:=refine id ?_;kernel_rfl) only[EK,HQ,Ax1,A7 (Akd ..) (K:=L5 Wi 1 21)];kernel_rfl
def Ahu(a:Int)(z_:Ayd×Int×Ayh):=sT 145 [(0,.ptr 0 a [] 0),(6,Ay),(7,BQ)] (Qb z_.1 z_.2.1 z_.2.2)
def Ae3(a:Int):=λ(v:Ayt)=>xE 1 145 Xp (Qb v.1 v.2.1 v.2.2)
def Aaf(a:Int) w x y:=sT 145 [(0,.ptr 0 a [] 0),(6,Ay),(7,BQ)] (Qb w x y)
def qK(a:Int)(w:Ayd)(x:Int) y:=λ(a1:(Bool×Ayd×Int))=>sT 145 [(0,.ptr 0 a [] 0),(6,Ay),(7,BQ),(97,dB a1.1)] (Qb a1.2.1 a1.2.2 y)
def Gp(a:Int)(w:Ayd)(x:Int)(y:Ayh):Ay0 (Bool×Ayd×Int):=
 (An a 2 w x).bind λb1=>some (decide ((y.length:Int)<(wI (400+b1.1))),b1.2.1,b1.2.2)
theorem Akb(a:Int)(w:Ayd)(x:Int)(y:Ayh):KM Wi 1 17 (sb (cd f59 30) 458744) 4 (Aaf a w x y) (Gp a w x y) (qK a w x y):=by
 unfold KM;have h:eL Wi 1 17 (sb (cd f59 30) 458744) (pt 4) (Aaf a w x y) =
(λ(w_:_->St)=>(An a 2 w x).bind λb1=>((((An a 2 w x).bind λc1=>N6 (w_ c1) (w_ b1)).bind λ_=>(An a 2 w x).bind λd1=>N6 (w_ d1) (w_ b1)).bind λ_=>some (qK a w x y (decide ((y.length:Int)<(wI (400+b1.1))),b1.2.1,b1.2.2)))) (λv_=>qK a w x y (decide ((y.length:Int)<(wI (400+v_.1))),v_.2.1,v_.2.2)):=by kernel_rfl
 rw[h];unfold Gp;simp only[Ax1,mS,mO];clear h;cases DT:An a 2 w x with
 |none=>rfl
 |some b1 =>
  simp only[Av9];simp only[DT,AwS,Av9,GG,CX]
def HP(a:Int)(w:Ayd)(x:Int)(y:Ayh):Ay0 (Ayt⊕Ayt):=
 (Gp a w x y).bind λa1=>bif a1.1 then
 if(y.length+([(7,0,1,0,(0,([]:Ayd),()),([wI ((y.length:Int)-1)]:Ayd),())]:Ayh).length)*88<=140737488355328 then
 some (.inl (a1.2.1,a1.2.2,y++([(7,0,1,0,(0,([]:Ayd),()),([wI ((y.length:Int)-1)]:Ayd),())]:Ayh)))
 else none
 else
 some (.inr (a1.2.1,a1.2.2,y))
def EJ a (z_:Ayd×Int×Ayh):=HP a z_.1 z_.2.1 z_.2.2
def Gq a w x y:=fix (EJ a) (w,x,y)
theorem Akc a:A8 Wi 1 17 (cd f59 30) 229372 (Ahu a) (EJ a) (Ae3 a):=by
 intro _;simp(disch:=refine id ?_;kernel_rfl) only[EJ,HP,Ax1,OT (Akb ..) (K:=L5 Wi 1 17)];kernel_rfl
def Aae(a:Int) c g e1 g1:=sT 145 (nq a c) (Qb e1 g1 g)
def qJ(a c:Int)(g:Ayh)(e1:Ayd)(g1:Int):=λ(i1:Ayt)=>sT 145 Xp (Qb i1.1 i1.2.1 i1.2.2)
def Gn(a c:Int)(g:Ayh)(e1:Ayd)(g1:Int):Ay0 Ayt:=
 if 0<=c/\c<g.length then
 (Av a 0 (g.length:Int) e1 g1).bind λj1=>if((g.getD c.toNat Ad.zero).2.2.2.2.2.1.length+([j1.1]:Ayd).length)*8<=140737488355328 then
 if 0<=c/\c<g.length then
 if c=c then
 some (j1.2.1,j1.2.2,g.set c.toNat ((g.getD c.toNat Ad.zero).1,(g.getD c.toNat Ad.zero).2.1,(g.getD c.toNat Ad.zero).2.2.1,(g.getD c.toNat Ad.zero).2.2.2.1,(g.getD c.toNat Ad.zero).2.2.2.2.1,(g.getD c.toNat Ad.zero).2.2.2.2.2.1++([j1.1]:Ayd),(g.getD c.toNat Ad.zero).2.2.2.2.2.2))
 else none
 else none
 else none
 else none
theorem Aka(a c:Int)(g:Ayh)(e1:Ayd)(g1:Int):KM Wi 1 13 (cd f59 30) 7166 (Aae a c g e1 g1) (Gn a c g e1 g1) (qJ a c g e1 g1):=by
 unfold KM;have h:eL Wi 1 13 (cd f59 30) (pt 7166) (Aae a c g e1 g1) =
(λ(w_:_->St)=>if 0<=c/\c<g.length then
 (Av a 0 (g.length:Int) e1 g1).bind λj1=>if((g.getD c.toNat Ad.zero).2.2.2.2.2.1.length+([j1.1]:Ayd).length)*8<=140737488355328 then
 if 0<=c/\c<g.length then
 if c=c then
 ((if 0<=c/\c<g.length then
 ((Av a 0 (g.length:Int) e1 g1).bind λk1=>if((g.getD c.toNat Ad.zero).2.2.2.2.2.1.length+([k1.1]:Ayd).length)*8<=140737488355328 then
 if 0<=c/\c<g.length then
 if c=c then
 N6 (w_ k1) (w_ j1)
 else none
 else none
 else none).bind λ_=>((Av a 0 (g.length:Int) e1 g1).bind λl1=>if((g.getD c.toNat Ad.zero).2.2.2.2.2.1.length+([l1.1]:Ayd).length)*8<=140737488355328 then
 if 0<=c/\c<g.length then
 if c=c then
 N6 (w_ l1) (w_ j1)
 else none
 else none
 else none).bind λ_=>(Av a 0 (g.length:Int) e1 g1).bind λn1=>(if((g.getD c.toNat Ad.zero).2.2.2.2.2.1.length+([n1.1]:Ayd).length)*8<=140737488355328 then
 if 0<=c/\c<g.length then
 if c=c then
 N6 (w_ n1) (w_ j1)
 else none
 else none
 else none).bind λ_=>if((g.getD c.toNat Ad.zero).2.2.2.2.2.1.length+([n1.1]:Ayd).length)*8<=140737488355328 then
 if 0<=c/\c<g.length then
 if c=c then
 N6 (w_ n1) (w_ j1)
 else none
 else none
 else none
 else none).bind λ_=>some (qJ a c g e1 g1 (j1.2.1,j1.2.2,g.set c.toNat ((g.getD c.toNat Ad.zero).1,(g.getD c.toNat Ad.zero).2.1,(g.getD c.toNat Ad.zero).2.2.1,(g.getD c.toNat Ad.zero).2.2.2.1,(g.getD c.toNat Ad.zero).2.2.2.2.1,(g.getD c.toNat Ad.zero).2.2.2.2.2.1++([j1.1]:Ayd),(g.getD c.toNat Ad.zero).2.2.2.2.2.2))))
 else none
 else none
 else none
 else none) (λv_=>qJ a c g e1 g1 (v_.2.1,v_.2.2,g.set c.toNat ((g.getD c.toNat Ad.zero).1,(g.getD c.toNat Ad.zero).2.1,(g.getD c.toNat Ad.zero).2.2.1,(g.getD c.toNat Ad.zero).2.2.2.1,(g.getD c.toNat Ad.zero).2.2.2.2.1,(g.getD c.toNat Ad.zero).2.2.2.2.2.1++([v_.1]:Ayd),(g.getD c.toNat Ad.zero).2.2.2.2.2.2))):=by kernel_rfl
 rw[h];unfold Gn;simp only[Ax1,mS,mO];clear h;by_cases DT:(0:Int)<=c/\c<(g.length:Int)
 ·rw[Awr DT,Awr DT];cases G3:Av a 0 (g.length:Int) e1 g1 with
  |none=>rfl
  |some j1 =>
   simp only[Av9];by_cases cO:((g.getD c.toNat Ad.zero).2.2.2.2.2.1.length+([j1.1]:Ayd).length)*8<=140737488355328
   ·rw[Awr cO,Awr cO];simp only[Awr DT,G3,Awr cO,AwS,Av9,GG,CX]
   ·simp only[Awr DT,G3,AwS,Aws cO]
 ·simp only[AwS,Aws DT]
def Aad(a:Int) b c g o1 q1:=sT 145 [(0,.ptr 0 a [] 0),(1,Aj b),(6,Ay),(7,BQ),(8,dI c)] (Qb o1 q1 g)
def lk(a:Int)(b:Ayg)(c:Int)(g:Ayh)(o1:Ayd)(q1:Int):=λ(s1:Ayt)=>sT 145 Xp (Qb s1.1 s1.2.1 s1.2.2)
def Gm(a:Int)(b:Ayg)(c:Int)(g:Ayh)(o1:Ayd)(q1:Int):Ay0 Ayt:=
 (Av a 0 (b.length:Int) o1 q1).bind λt1=>if 0<=c/\c<g.length then
 some (t1.2.1,t1.2.2,g.set c.toNat ((g.getD c.toNat Ad.zero).1,t1.1,(g.getD c.toNat Ad.zero).2.2))
 else none
theorem Aj9(a:Int)(b:Ayg)(c:Int)(g:Ayh)(o1:Ayd)(q1:Int):KM Wi 1 11 (cd f59 30) 1790 (Aad a b c g o1 q1) (Gm a b c g o1 q1) (lk a b c g o1 q1):=by
 unfold KM;have h:eL Wi 1 11 (cd f59 30) (pt 1790) (Aad a b c g o1 q1) =
 (Av a 0 (b.length:Int) o1 q1).bind λt1=>if 0<=c/\c<g.length then
 (((Av a 0 (b.length:Int) o1 q1).bind λu1=>if 0<=c/\c<g.length then
 N6 (lk a b c g o1 q1 (u1.2.1,u1.2.2,g.set c.toNat ((g.getD c.toNat Ad.zero).1,u1.1,(g.getD c.toNat Ad.zero).2.2))) (lk a b c g o1 q1 (t1.2.1,t1.2.2,g.set c.toNat ((g.getD c.toNat Ad.zero).1,t1.1,(g.getD c.toNat Ad.zero).2.2)))
 else none).bind λ_=>some (lk a b c g o1 q1 (t1.2.1,t1.2.2,g.set c.toNat ((g.getD c.toNat Ad.zero).1,t1.1,(g.getD c.toNat Ad.zero).2.2))))
 else none:=by kernel_rfl
 rw[h];unfold Gm;simp only[Ax1,mS,mO];clear h;cases DT:Av a 0 (b.length:Int) o1 q1 with
 |none=>rfl
 |some t1 =>
  simp only[Av9];by_cases G3:(0:Int)<=c/\c<(g.length:Int)
  ·rw[Awr G3,Awr G3];simp only[DT,Awr G3,AwS,Av9,GG,CX]
  ·simp only[DT,AwS,Aws G3]
def Aac(a:Int) c g v1 w1:=sT 145 (nq a c) (Qb v1 w1 g)
def qI(a c:Int)(g:Ayh)(v1:Ayd)(w1:Int):=λ(x1:Ayt)=>sT 145 Xp (Qb x1.1 x1.2.1 x1.2.2)
def Gl(a c:Int)(g:Ayh)(v1:Ayd)(w1:Int):Ay0 Ayt:=
 (Av a 0 9 v1 w1).bind λy1=>if 0<=c/\c<g.length then
 some (y1.2.1,y1.2.2,g.set c.toNat ((g.getD c.toNat Ad.zero).1,(g.getD c.toNat Ad.zero).2.1,(g.getD c.toNat Ad.zero).2.2.1,y1.1,(g.getD c.toNat Ad.zero).2.2.2.2))
 else none
theorem Aj8(a c:Int)(g:Ayh)(v1:Ayd)(w1:Int):KM Wi 1 9 (cd f59 30) 446 (Aac a c g v1 w1) (Gl a c g v1 w1) (qI a c g v1 w1):=by
 unfold KM;have h:eL Wi 1 9 (cd f59 30) (pt 446) (Aac a c g v1 w1) =
(λ(w_:_->St)=>(Av a 0 9 v1 w1).bind λy1=>if 0<=c/\c<g.length then
 ((((Av a 0 9 v1 w1).bind λa2=>if 0<=c/\c<g.length then
 N6 (w_ a2) (w_ y1)
 else none).bind λ_=>(Av a 0 9 v1 w1).bind λb2=>if 0<=c/\c<g.length then
 N6 (w_ b2) (w_ y1)
 else none).bind λ_=>some (qI a c g v1 w1 (y1.2.1,y1.2.2,g.set c.toNat ((g.getD c.toNat Ad.zero).1,(g.getD c.toNat Ad.zero).2.1,(g.getD c.toNat Ad.zero).2.2.1,y1.1,(g.getD c.toNat Ad.zero).2.2.2.2))))
 else none) (λv_=>qI a c g v1 w1 (v_.2.1,v_.2.2,g.set c.toNat ((g.getD c.toNat Ad.zero).1,(g.getD c.toNat Ad.zero).2.1,(g.getD c.toNat Ad.zero).2.2.1,v_.1,(g.getD c.toNat Ad.zero).2.2.2.2))):=by kernel_rfl
 rw[h];unfold Gl;simp only[Ax1,mS,mO];clear h;cases DT:Av a 0 9 v1 w1 with
 |none=>rfl
 |some y1 =>
  simp only[Av9];by_cases G3:(0:Int)<=c/\c<(g.length:Int)
  ·rw[Awr G3,Awr G3];simp only[DT,Awr G3,AwS,Av9,GG,CX]
  ·simp only[DT,AwS,Aws G3]
def Aab(a:Int) c g c2 d2:=sT 145 (nq a c) (Qb c2 d2 g)
def qH(a c:Int)(g:Ayh)(c2:Ayd)(d2:Int):=λ(e2:Ayt)=>sT 145 Xp (Qb e2.1 e2.2.1 e2.2.2)
def Gk(a c:Int)(g:Ayh)(c2:Ayd)(d2:Int):Ay0 Ayt:=
 (Av a 0 9 c2 d2).bind λg2=>if 0<=c/\c<g.length then
 some (g2.2.1,g2.2.2,g.set c.toNat ((g.getD c.toNat Ad.zero).1,(g.getD c.toNat Ad.zero).2.1,g2.1,(g.getD c.toNat Ad.zero).2.2.2))
 else none
theorem Aj7(a c:Int)(g:Ayh)(c2:Ayd)(d2:Int):KM Wi 1 7 (cd f59 30) 110 (Aab a c g c2 d2) (Gk a c g c2 d2) (qH a c g c2 d2):=by
 unfold KM;have h:eL Wi 1 7 (cd f59 30) (pt 110) (Aab a c g c2 d2) =
(λ(w_:_->St)=>(Av a 0 9 c2 d2).bind λg2=>if 0<=c/\c<g.length then
 ((((Av a 0 9 c2 d2).bind λi2=>if 0<=c/\c<g.length then
 N6 (w_ i2) (w_ g2)
 else none).bind λ_=>(Av a 0 9 c2 d2).bind λj2=>if 0<=c/\c<g.length then
 N6 (w_ j2) (w_ g2)
 else none).bind λ_=>some (qH a c g c2 d2 (g2.2.1,g2.2.2,g.set c.toNat ((g.getD c.toNat Ad.zero).1,(g.getD c.toNat Ad.zero).2.1,g2.1,(g.getD c.toNat Ad.zero).2.2.2))))
 else none) (λv_=>qH a c g c2 d2 (v_.2.1,v_.2.2,g.set c.toNat ((g.getD c.toNat Ad.zero).1,(g.getD c.toNat Ad.zero).2.1,v_.1,(g.getD c.toNat Ad.zero).2.2.2))):=by kernel_rfl
 rw[h];unfold Gk;simp only[Ax1,mS,mO];clear h;cases DT:Av a 0 9 c2 d2 with
 |none=>rfl
 |some g2 =>
  simp only[Av9];by_cases G3:(0:Int)<=c/\c<(g.length:Int)
  ·rw[Awr G3,Awr G3];simp only[DT,Awr G3,AwS,Av9,GG,CX]
  ·simp only[DT,AwS,Aws G3]
def Aaa(a:Int) c g k2 l2:=sT 145 (nq a c) (Qb k2 l2 g)
def qG(a c:Int)(g:Ayh)(k2:Ayd)(l2:Int):=λ(n2:Ayt)=>sT 145 Xp (Qb n2.1 n2.2.1 n2.2.2)
def Gj(a c:Int)(g:Ayh)(k2:Ayd)(l2:Int):Ay0 Ayt:=
 (Av a 1 9 k2 l2).bind λo2=>if 0<=c/\c<g.length then
 some (o2.2.1,o2.2.2,g.set c.toNat (o2.1,(g.getD c.toNat Ad.zero).2))
 else none
theorem Aj6(a c:Int)(g:Ayh)(k2:Ayd)(l2:Int):KM Wi 1 5 (cd f59 30) 26 (Aaa a c g k2 l2) (Gj a c g k2 l2) (qG a c g k2 l2):=by
 unfold KM;have h:eL Wi 1 5 (cd f59 30) (pt 26) (Aaa a c g k2 l2) =
(λ(w_:_->St)=>(Av a 1 9 k2 l2).bind λo2=>if 0<=c/\c<g.length then
 ((((Av a 1 9 k2 l2).bind λq2=>if 0<=c/\c<g.length then
 N6 (w_ q2) (w_ o2)
 else none).bind λ_=>(Av a 1 9 k2 l2).bind λs2=>if 0<=c/\c<g.length then
 N6 (w_ s2) (w_ o2)
 else none).bind λ_=>some (qG a c g k2 l2 (o2.2.1,o2.2.2,g.set c.toNat (o2.1,(g.getD c.toNat Ad.zero).2))))
 else none) (λv_=>qG a c g k2 l2 (v_.2.1,v_.2.2,g.set c.toNat (v_.1,(g.getD c.toNat Ad.zero).2))):=by kernel_rfl
 rw[h];unfold Gj;simp only[Ax1,mS,mO];clear h;cases DT:Av a 1 9 k2 l2 with
 |none=>rfl
 |some o2 =>
  simp only[Av9];by_cases G3:(0:Int)<=c/\c<(g.length:Int)
  ·rw[Awr G3,Awr G3];simp only[DT,Awr G3,AwS,Av9,GG,CX]
  ·simp only[DT,AwS,Aws G3]
def DL(a:Int)(b:Ayg)(c:Int)(d:Ayd)(e:Int)(g:Ayh):Ay0 Ayt:=
 (An a 40 d e).bind λt2=>bif t2.1==0 then
 (Gj a c g t2.2.1 t2.2.2).bind λn2=>some (n2.1,n2.2.1,n2.2.2)
 else
 bif t2.1==1 then
 (Gk a c g t2.2.1 t2.2.2).bind λe2=>some (e2.1,e2.2.1,e2.2.2)
 else
 bif t2.1==2 then
 (Gl a c g t2.2.1 t2.2.2).bind λx1=>some (x1.1,x1.2.1,x1.2.2)
 else
 bif t2.1==3 then
 (Gm a b c g t2.2.1 t2.2.2).bind λs1=>some (s1.1,s1.2.1,s1.2.2)
 else
 bif t2.1==4 then
 (Gn a c g t2.2.1 t2.2.2).bind λi1=>some (i1.1,i1.2.1,i1.2.2)
 else
 bif t2.1==5 then
 if(g.length+([(1,0,0,0,(0,([]:Ayd),()),([]:Ayd),())]:Ayh).length)*88<=140737488355328 then
 some (t2.2.1,t2.2.2,g++([(1,0,0,0,(0,([]:Ayd),()),([]:Ayd),())]:Ayh))
 else none
 else
 bif t2.1==6 then
 (Gq a t2.2.1 t2.2.2 g).bind λv=>some (v.1,v.2.1,v.2.2)
 else
 bif t2.1==7 then
 (Gs b t2.2.1 t2.2.2 0 g).bind λl=>some (t2.2.1,t2.2.2,l)
 else
 some (t2.2.1,t2.2.2,g)
theorem Akf a b c d e g:AX Wi 1 27 (code f59) 30 (Ahx a b c d e g) (DL a b c d e g) (Ae6 a b c d e g):=by
 unfold AX;simp(disch:=refine id ?_;kernel_rfl) only[DL,Ax1,OT (Aj6 ..) (K:=OZ Wi 1 27),OT (Aj7 ..) (K:=OZ Wi 1 27),OT (Aj8 ..) (K:=OZ Wi 1 27),OT (Aj9 ..) (K:=OZ Wi 1 27),OT (Aka ..) (K:=OZ Wi 1 27),Gq,AO (Akc _) (K:=OZ Wi 1 27),Gs,AO (Ake _ _ _) (K:=OZ Wi 1 27)];kernel_rfl
def Gi(a:Int)(b:Ayg)(u2:Int)(v2:Ayd)(w2:Int):Ay0 Ayt:=
 (DN a b u2 v2 w2).bind λx2=>(An a (x2.2.2.length:Int) x2.1 x2.2.1).bind λy2=>(DL a b y2.1 y2.2.1 y2.2.2 x2.2.2).bind λi=>some (i.1,i.2.1,i.2.2)
def c59:=Ff [.Sm,.d AyT,.d AyN] [⟨[.ptr 0 [] 0,.Aw [] AyT,.Aw [] AyN],[.box (.pr (.Aw [] AyV) (.pr (.Aw [] AyN) (.k .u)))],Ayt,λp=>Gi p.1.1 p.1.2.1 p.1.2.2.1 p.2.1.1 p.2.1.2.1,λr=>(.pr (.AA 1) .u,[.box (.pr (Bl r.1) (.pr (dI r.2.1) .u)),FH r.2.2])⟩]
theorem xL:Am prog 59 c59:=Ax (fn:=f59) ⟨⟨Wi,pk ⟨J5,cn,Vm,lR,trivial⟩,λ_ R K=>by
 simp(disch:=refine id ?_;kernel_rfl) only[Gi,Ax2,A7 (Akf ..) (K:=A6 Wi f59 1 R K)];kernel_rfl⟩,trivial⟩
end
end Go.Proofs.X
namespace Go.Proofs.X
open Go Go.Va Go.Proofs.Tryz
set_option maxRecDepth 100000
noncomputable section
abbrev E32:=eN [(40,lM),(57,c57),(58,c58),(59,c59)] {Ao:=false,Bv:=[(9,[0,7])],CM:=[(9,[7])],B5:=[(15,{Bb:=[7],Ph:=[(7,false,AyW)]})],EO:=[(15,[0,1,7,8])],Aos:=[13]}
def Ahz(a:Int) b c d e g:=sT 66 [(0,.ptr 0 a [] 0),(1,Aj b),(7,.AA 1),(8,dI c)] [.box (.pr (Bl d) (.pr (dI e) .u)),eG g]
def Ae8(a:Int)(b:Ayg)(c:Int)(d:Ayd)(e:Int)(g:Ayj):=λ(i:(Ayj×Ayd×Int))=>xN 66 [(7,Cu i.1)] (qe i.2.1 i.2.2)
def Ahy(a:Int)(z_:Ayd×Int×Ayj):=sT 66 [(0,.ptr 0 a [] 0),(7,.AA 1)] [.box (.pr (Bl z_.1) (.pr (dI z_.2.1) .u)),eG z_.2.2]
def Ae7(a:Int):=λ(j:AyA)=>xE 1 66 [(7,.AA 1)] [.box (.pr (Bl j.1) (.pr (dI j.2.1) .u)),eG j.2.2]
def FB(a:Int)(k:Ayd)(l:Int)(n:Ayj):Ay0 (AyA⊕AyA):=
 (An a 2 k l).bind λo=>bif decide ((n.length:Int)<(wI (60+o.1)))then
 if(0:Int)<=(0:Int)/\(0:Int)<(n.length:Int)then
 if 0<=(wI ((n.length:Int)-1))/\(wI ((n.length:Int)-1))<n.length then
 if(n.length+([(wI ((n.getD (wI ((n.length:Int)-1)).toNat Af.zero).1+1),(n.getD 0 Af.zero).2)]:Ayj).length)*64<=140737488355328 then
 some (.inl (o.2.1,o.2.2,n++([(wI ((n.getD (wI ((n.length:Int)-1)).toNat Af.zero).1+1),(n.getD 0 Af.zero).2)]:Ayj)))
 else none
 else none
 else none
 else
 some (.inr (o.2.1,o.2.2,n))
def CV a (z_:Ayd×Int×Ayj):=FB a z_.1 z_.2.1 z_.2.2
def Dx a k l n:=fix (CV a) (k,l,n)
theorem Akg a:A8 E32 1 9 (cd f20 30) 892 (Ahy a) (CV a) (Ae7 a):=by
 intro _;simp only[CV,FB,Ax1];kernel_rfl
def Ct(a:Int)(b:Ayg)(c:Int)(d:Ayd)(e:Int)(g:Ayj):Ay0 (Ayj×Ayd×Int):=
 (An a 40 d e).bind λq=>bif q.1==0 then
 (Av a 1 1000000 q.2.1 q.2.2).bind λs=>if 0<=c/\c<g.length then
 some (g.set c.toNat (s.1,(g.getD c.toNat Af.zero).2),s.2.1,s.2.2)
 else none
 else
 bif q.1==1 then
 (Gi a b 0 q.2.1 q.2.2).bind λt=>if 0<=c/\c<g.length then
 some (g.set c.toNat ((g.getD c.toNat Af.zero).1,(g.getD c.toNat Af.zero).2.1,(t.2.2,()),(g.getD c.toNat Af.zero).2.2.2),t.1,t.2.1)
 else none
 else
 bif q.1==2 then
 (Dx a q.2.1 q.2.2 g).bind λj=>some (j.2.2,j.1,j.2.1)
 else
 bif q.1==3 then
 if(0:Int)<=(0:Int)/\(0:Int)<=(0:Int)/\(0:Int)<=(g.length:Int)then
 some ((g.take 0).drop 0,q.2.1,q.2.2)
 else none
 else
 some (g,q.2.1,q.2.2)
theorem Akh a b c d e g:AX E32 1 15 (code f20) 30 (Ahz a b c d e g) (Ct a b c d e g) (Ae8 a b c d e g):=by
 unfold AX;simp(disch:=refine id ?_;kernel_rfl) only[Ct,Ax1,Dx,AO (Akg _) (K:=OZ E32 1 15)];kernel_rfl
def De(a:Int)(b:Ayg)(u:Int)(v:Ayd)(w:Int):Ay0 (Ayj×Ayd×Int):=
 (FA a b u v w).bind λx=>(An a (x.2.2.length:Int) x.1 x.2.1).bind λy=>(Ct a b y.1 y.2.1 y.2.2 x.2.2).bind λi=>some (i.1,i.2.1,i.2.2)
def c20:=Ff [.Sm,.d AyT,.d AyN] [⟨[.ptr 0 [] 0,.Aw [] AyT,.Aw [] AyN],[.box (.pr (.Aw [] AyV) (.pr (.Aw [] AyN) (.k .u)))],Ayj×Ayd×Int,λp=>De p.1.1 p.1.2.1 p.1.2.2.1 p.2.1.1 p.2.1.2.1,λr=>(Cu r.1,[.box (.pr (Bl r.2.1) (.pr (dI r.2.2) .u))])⟩]
theorem xn:Am prog 20 c20:=Ax (fn:=f20) ⟨⟨E32,pk ⟨J5,xK,cn,xL,trivial⟩,λ_ R K=>by
 simp(disch:=refine id ?_;kernel_rfl) only[De,Ax2,A7 (Akh ..) (K:=A6 E32 f20 1 R K)];kernel_rfl⟩,trivial⟩
abbrev E33:=eN [] {Bv:=[(3,{Bb:=[0,2,3,4],Cy:=[(3,true,.row [0] 33 AyR true)]})],CM:=[(3,[2,3])]}
def AhA a (z_:Int×Aym):=sT 19 [(0,Aj a),(2,Aq),(3,Ay),(4,dI z_.1)] (nt z_.2)
def Ae9(a:Ayg):=λ(b:Aym)=>xE 0 19 [(2,Aq),(3,Ay)] (nt b)
def KG(a:Ayg)(c:Int)(d:Aym):Ay0 ((Int×Aym)⊕Aym):=
 bif decide (c<(a.length:Int))then
 if(d.length+([([]:Ayd)]:Aym).length)*24<=140737488355328 then
 some (.inl (wI (c+1),d++([([]:Ayd)]:Aym)))
 else none
 else
 some (.inr d)
def EZ a (z_:Int×Aym):=KG a z_.1 z_.2
def P0 a c d:=fix (EZ a) (c,d)
theorem Aki a:A8 E33 0 3 (code f22) 58 (AhA a) (EZ a) (Ae9 a):=by
 intro _;simp only[EZ,KG,Ax1];kernel_rfl
def Ma(a:Ayg):Ay0 Aym:=
 (P0 a 0 ([]:Aym)).bind λb=>some b
def c22:=Ff [.d AyT] [⟨[.Aw [] AyT],[],Aym,λp=>Ma p.1.1,λr=>(.pr (.AA 0) .u,[J1 r])⟩]
theorem lK:Am prog 22 c22:=Ax (fn:=f22) ⟨⟨E33,pk trivial,λ_ R K=>by
 simp(disch:=refine id ?_;kernel_rfl) only[Ma,Ax2,P0,AO (Aki _) (K:=A6 E33 f22 0 R K)];kernel_rfl⟩,trivial⟩
abbrev eR:=eN [(21,c21),(22,c22),(40,lM),(58,c58)] {Bv:=[(3,[0,1,4,5,6]),(6,[0,1,4,5,6,7])],CM:=[(3,[0,1,4,5]),(6,[0,1,4,5,6])],B5:=[(7,[0,1,4,5,6,7]),(8,[0,1,4,5,6,7]),(16,[4,5])],Vv:=[(9,{Bb:=[0,1,4,5,6,7],PO:=true}),(13,{Bb:=[4,5],PO:=true,qx:=[0]})],EO:=[(7,[0,1,4,5,6,7]),(8,[0,1,4,5,6,7]),(16,[0,1,4,5])],W5:=[(9,[0,1,4,5,6,7]),(13,[0,1,4,5,8])],stl:=[39,59],Ph:=[(0,Ai)]}
def AhF(a:Int) b c d e:=sT 77 [(0,.ptr 0 a [] 0),(1,Aj b),(4,Ay),(5,BQ)] (Qw c d e)
def Afe(a:Int)(b:Ayg)(c:Ayd)(d:Int) e:=Sum.elim (λ(g:Ayw)=>xN 77 [(4,Ay),(5,BQ)] (Qw g.1 g.2.1 g.2.2)) (λ(i:Ayw)=>xN 77 [(4,Ay),(5,BQ)] [.box (.pr (Bl i.1) (.pr (dI i.2.1) .u)),.box Iv,.box (.pr (.Aw [3] (.sl AyR) i.2.2) .u),J1 e])
def Aah(a:Int) b e j k l:=sT 77 [(0,.ptr 0 a [] 0),(1,Aj b),(4,Ay),(5,BQ),(8,dI j)] (Qw k l e)
def qL(a:Int)(b:Ayg)(e:Aym)(j:Int)(k:Ayd)(l:Int):=λ(n:Ayw)=>sT 77 [(4,Ay),(5,BQ)] (Qw n.1 n.2.1 n.2.2)
def I4(a:Int)(b:Ayg)(e:Aym)(j:Int)(k:Ayd)(l:Int):Ay0 Ayw:=
 if 0<=j/\j<e.length then
 if 0<=j/\j<b.length then
 (Av a 0 (b.getD j.toNat Ab.zero).2.1 k l).bind λo=>if((e.getD j.toNat AyR.zero).length+([o.1]:Ayd).length)*8<=140737488355328 then
 if 0<=j/\j<e.length then
 if j=j then
 some (o.2.1,o.2.2,e.set j.toNat ((e.getD j.toNat AyR.zero)++([o.1]:Ayd)))
 else none
 else none
 else none
 else none
 else none
theorem Ako(a:Int)(b:Ayg)(e:Aym)(j:Int)(k:Ayd)(l:Int):KM eR 1 13 (cd f23 30) 53 (Aah a b e j k l) (I4 a b e j k l) (qL a b e j k l):=by
 unfold KM;have h:eL eR 1 13 (cd f23 30) (pt 53) (Aah a b e j k l) =
(λ(w_:_->St)=>if 0<=j/\j<e.length then
 if 0<=j/\j<b.length then
 (Av a 0 (b.getD j.toNat Ab.zero).2.1 k l).bind λo=>if((e.getD j.toNat AyR.zero).length+([o.1]:Ayd).length)*8<=140737488355328 then
 if 0<=j/\j<e.length then
 if j=j then
 ((if 0<=j/\j<e.length then
 if 0<=j/\j<b.length then
 ((Av a 0 (b.getD j.toNat Ab.zero).2.1 k l).bind λq=>if((e.getD j.toNat AyR.zero).length+([q.1]:Ayd).length)*8<=140737488355328 then
 if 0<=j/\j<e.length then
 if j=j then
 N6 (w_ q) (w_ o)
 else none
 else none
 else none).bind λ_=>((Av a 0 (b.getD j.toNat Ab.zero).2.1 k l).bind λs=>if((e.getD j.toNat AyR.zero).length+([s.1]:Ayd).length)*8<=140737488355328 then
 if 0<=j/\j<e.length then
 if j=j then
 N6 (w_ s) (w_ o)
 else none
 else none
 else none).bind λ_=>(Av a 0 (b.getD j.toNat Ab.zero).2.1 k l).bind λt=>(if((e.getD j.toNat AyR.zero).length+([t.1]:Ayd).length)*8<=140737488355328 then
 if 0<=j/\j<e.length then
 if j=j then
 N6 (w_ t) (w_ o)
 else none
 else none
 else none).bind λ_=>if((e.getD j.toNat AyR.zero).length+([t.1]:Ayd).length)*8<=140737488355328 then
 if 0<=j/\j<e.length then
 if j=j then
 N6 (w_ t) (w_ o)
 else none
 else none
 else none
 else none
 else none).bind λ_=>some (qL a b e j k l (o.2.1,o.2.2,e.set j.toNat ((e.getD j.toNat AyR.zero)++([o.1]:Ayd)))))
 else none
 else none
 else none
 else none
 else none) (λv_=>qL a b e j k l (v_.2.1,v_.2.2,e.set j.toNat ((e.getD j.toNat AyR.zero)++([v_.1]:Ayd)))):=by kernel_rfl
 rw[h];unfold I4;simp only[Ax1,mS,mO];clear h;by_cases DT:(0:Int)<=j/\j<(e.length:Int)
 ·rw[Awr DT,Awr DT];by_cases G3:(0:Int)<=j/\j<(b.length:Int)
  ·rw[Awr G3,Awr G3];cases cO:Av a 0 (b.getD j.toNat Ab.zero).2.1 k l with
   |none=>rfl
   |some o =>
    simp only[Av9];by_cases jT:((e.getD j.toNat AyR.zero).length+([o.1]:Ayd).length)*8<=140737488355328
    ·rw[Awr jT,Awr jT];simp only[Awr DT,Awr G3,cO,Awr jT,AwS,Av9,GG,CX]
    ·simp only[Awr DT,Awr G3,cO,AwS,Aws jT]
  ·simp only[Awr DT,AwS,Aws G3]
 ·simp only[AwS,Aws DT]
def I5(a:Int)(b:Ayg)(c:Ayd)(d:Int)(e:Aym):Ay0 (Ayw⊕Ayw):=
 (An a 30 c d).bind λu=>bif u.1==0 then
 (An a (b.length:Int) u.2.1 u.2.2).bind λv=>(I4 a b e v.1 v.2.1 v.2.2).bind λn=>some (.inl (n.1,n.2.1,n.2.2))
 else
 bif u.1==1 then
 if(0:Int)<=(1:Int)/\(1:Int)<=(e.length:Int)/\(e.length:Int)<=(e.length:Int)then
 some (.inr (u.2.1,u.2.2,(e.take (e.length:Int).toNat).drop 1))
 else none
 else
 some (.inl (u.2.1,u.2.2,e))
theorem Akp a b c d e:AX eR 1 16 (code f23) 30 (AhF a b c d e) (I5 a b c d e) (Afe a b c d e):=by
 unfold AX;simp(disch:=refine id ?_;kernel_rfl) only[I5,Ax1,OT (Ako ..) (K:=OZ eR 1 16)];kernel_rfl
def AhE(a:Int) b (z_:Int×Ayd×Int×Aym):=sT 77 [(0,.ptr 0 a [] 0),(1,Aj b),(4,Ay),(5,BQ),(6,dI z_.1)] (Qw z_.2.1 z_.2.2.1 z_.2.2.2)
def Afd(a:Int) b:=λ(w:Ayw)=>xE 0 77 [(0,.ptr 0 a [] 0),(1,Aj b),(4,Ay),(5,BQ)] (Qw w.1 w.2.1 w.2.2)
def AhD(a:Int) b x (z_:Int×Ayd×Int×Aym):=sT 77 (Xq a b x z_.1) (Qw z_.2.1 z_.2.2.1 z_.2.2.2)
def Afc(a:Int) b x:=λ(y:Ayw)=>xE 2 77 [(0,.ptr 0 a [] 0),(1,Aj b),(4,Ay),(5,BQ),(6,dI x)] (Qw y.1 y.2.1 y.2.2)
def AhC(a:Int) b x a1 b1 c1 d1:=sT 77 (Xq a b x a1) (Qw b1 c1 d1)
def Afb(a:Int) b x a1 (b1:Ayd) (c1:Int) (d1:Aym):=λ(e1:Ayw)=>xN 77 (Xq a b x a1) (Qw e1.1 e1.2.1 e1.2.2)
def Aag(a:Int) b x a1 d1 g1 i1:=sT 77 (Xq a b x a1) (Qw g1 i1 d1)
def ln(a:Int) b x a1 (d1:Aym) g1 i1:=λ(j1:Unit)=>sT 77 (Xq a b x a1) [.box (.pr (Bl g1) (.pr (dI i1) .u)),.box Iv,.box Wc,J1 (d1.set x.toNat ((d1.getD x.toNat AyR.zero)++([a1]:Ayd)))]
def I0(a:Int)(b:Ayg)(x a1:Int)(d1:Aym)(g1:Ayd)(i1:Int):Ay0 Unit:=
 if 0<=x/\x<d1.length then
 if((d1.getD x.toNat AyR.zero).length+([a1]:Ayd).length)*8<=140737488355328 then
 if 0<=x/\x<d1.length then
 if x=x then
 some ()
 else none
 else none
 else none
 else none
theorem Akk(a:Int)(b:Ayg)(x a1:Int)(d1:Aym)(g1:Ayd)(i1:Int):KM eR 1 9 (sb (sb (cd f23 116) 100) 6) 10 (Aag a b x a1 d1 g1 i1) (I0 a b x a1 d1 g1 i1) (ln a b x a1 d1 g1 i1):=by
 unfold KM;have h:eL eR 1 9 (sb (sb (cd f23 116) 100) 6) (pt 10) (Aag a b x a1 d1 g1 i1) =
 if 0<=x/\x<d1.length then
 if((d1.getD x.toNat AyR.zero).length+([a1]:Ayd).length)*8<=140737488355328 then
 if 0<=x/\x<d1.length then
 if x=x then
 ((if 0<=x/\x<d1.length then
 (if((d1.getD x.toNat AyR.zero).length+([a1]:Ayd).length)*8<=140737488355328 then
 if 0<=x/\x<d1.length then
 if x=x then
 GG (ln a b x a1 d1 g1 i1 ())
 else none
 else none
 else none).bind λ_=>if((d1.getD x.toNat AyR.zero).length+([a1]:Ayd).length)*8<=140737488355328 then
 if 0<=x/\x<d1.length then
 if x=x then
 GG (ln a b x a1 d1 g1 i1 ())
 else none
 else none
 else none
 else none).bind λ_=>some (ln a b x a1 d1 g1 i1 ()))
 else none
 else none
 else none
 else none:=by kernel_rfl
 rw[h];unfold I0;simp only[Ax1,mS,mO];clear h;by_cases DT:(0:Int)<=x/\x<(d1.length:Int)
 ·rw[Awr DT,Awr DT];by_cases G3:((d1.getD x.toNat AyR.zero).length+([a1]:Ayd).length)*8<=140737488355328
  ·rw[Awr G3,Awr G3];simp only[Awr DT,Awr G3,AwS,Av9,GG,CX]
  ·simp only[Awr DT,AwS,Aws G3]
 ·simp only[AwS,Aws DT]
def I1(a:Int)(b:Ayg)(x a1:Int)(b1:Ayd)(c1:Int)(d1:Aym):Ay0 Ayw:=
 (Bd a 6 b1 c1).bind λk1=>bif k1.1 then
 (I0 a b x a1 d1 k1.2.1 k1.2.2).bind λj1=>some (k1.2.1,k1.2.2,d1.set x.toNat ((d1.getD x.toNat AyR.zero)++([a1]:Ayd)))
 else
 some (k1.2.1,k1.2.2,d1)
theorem Akl a b x a1 b1 c1 d1:AX eR 1 7 (sb (cd f23 116) 100) 6 (AhC a b x a1 b1 c1 d1) (I1 a b x a1 b1 c1 d1) (Afb a b x a1 b1 c1 d1):=by
 unfold AX;simp(disch:=refine id ?_;kernel_rfl) only[I1,Ax1,OT (Akk ..) (K:=OZ eR 1 7)];kernel_rfl
def AhB(a:Int) b x a1 b1 c1 d1:=sT 77 (Xq a b x a1) (Qw b1 c1 d1)
def Afa(a:Int) b x a1 b1 c1 d1:=Sum.elim (λ(l1:Unit)=>xN 77 (Xq a b x a1) (Qw b1 c1 d1)) (λ(n1:Unit)=>xE 2 77 (Xq a b x a1) (Qw b1 c1 d1))
def IZ(a:Int)(b:Ayg)(x a1:Int)(b1:Ayd)(c1:Int)(d1:Aym):Ay0 (Unit⊕Unit):=
 if 0<=x/\x<b.length then
 bif decide (a1<(b.getD x.toNat Ab.zero).2.1)then
 bif decide (a1<200)then
 some (.inl ())
 else
 some (.inr ())
 else
 some (.inr ())
 else none
theorem Akj a b x a1 b1 c1 d1:AX eR 1 8 (sb (cd f23 116) 100) 2 (AhB a b x a1 b1 c1 d1) (IZ a b x a1 b1 c1 d1) (Afa a b x a1 b1 c1 d1):=by
 unfold AX;simp only[IZ,Ax1];kernel_rfl
def KY(a:Int)(b:Ayg)(x a1:Int)(b1:Ayd)(c1:Int)(d1:Aym):Ay0 ((Int×Ayd×Int×Aym)⊕Ayw):=
 (IZ a b x a1 b1 c1 d1).bind (Sum.elim (λl1=>(I1 a b x a1 b1 c1 d1).bind λe1=>some (.inl (wI (a1+1),e1.1,e1.2.1,e1.2.2))) (λn1=>some (.inr (b1,c1,d1))))
def GZ a b x (z_:Int×Ayd×Int×Aym):=KY a b x z_.1 z_.2.1 z_.2.2.1 z_.2.2.2
def I2 a b x a1 b1 c1 d1:=fix (GZ a b x) (a1,b1,c1,d1)
theorem Akm a b x:A8 eR 1 6 (cd f23 116) 50 (AhD a b x) (GZ a b x) (Afc a b x):=by
 intro _;simp(disch:=refine id ?_;kernel_rfl) only[GZ,KY,Ax1,A7 (Akj ..) (K:=L5 eR 1 6),A7 (Akl ..) (K:=L5 eR 1 6)];kernel_rfl
def KZ(a:Int)(b:Ayg)(x:Int)(o1:Ayd)(q1:Int)(s1:Aym):Ay0 ((Int×Ayd×Int×Aym)⊕Ayw):=
 bif decide (x<(b.length:Int))then
 (I2 a b x 1 o1 q1 s1).bind λy=>some (.inl (wI (x+1),y.1,y.2.1,y.2.2))
 else
 some (.inr (o1,q1,s1))
def G0 a b (z_:Int×Ayd×Int×Aym):=KZ a b z_.1 z_.2.1 z_.2.2.1 z_.2.2.2
def I3 a b x o1 q1 s1:=fix (G0 a b) (x,o1,q1,s1)
theorem Akn a b:A8 eR 1 3 (code f23) 58 (AhE a b) (G0 a b) (Afd a b):=by
 intro _;simp(disch:=refine id ?_;kernel_rfl) only[G0,KZ,Ax1,I2,AO (Akm _ _ _) (K:=L5 eR 1 3)];kernel_rfl
def JO(a:Int)(b:Ayg)(t1:Ayd)(u1:Int):Ay0 (Ayb×Ayd×Int):=
 (Ma b).bind λv1=>(I3 a b 0 t1 u1 v1).bind λw=>(I5 a b w.1 w.2.1 w.2.2).bind (Sum.elim (λg=>some ((g.2.2,()),g.1,g.2.1)) (λi=>some ((i.2.2,()),i.1,i.2.1)))
def c23:=Ff [.Sm,.d AyT] [⟨[.ptr 0 [] 0,.Aw [] AyT],[.box (.pr (.Aw [] AyV) (.pr (.Aw [] AyN) (.k .u)))],Ayb×Ayd×Int,λp=>JO p.1.1 p.1.2.1 p.2.1.1 p.2.1.2.1,λr=>(Cc r.1,[.box (.pr (Bl r.2.1) (.pr (dI r.2.2) .u))])⟩]
theorem xo:Am prog 23 c23:=Ax (fn:=f23) ⟨⟨eR,pk ⟨Tv,lK,J5,cn,trivial⟩,λ_ R K=>by
 simp(disch:=refine id ?_;kernel_rfl) only[JO,Ax2,I3,AO (Akn _ _) (K:=A6 eR f23 1 R K),A7 (Akp ..) (K:=A6 eR f23 1 R K)];kernel_rfl⟩,trivial⟩
abbrev E35:=eN [(18,c18),(19,c19),(20,c20),(21,c21),(22,c22),(23,c23)] {Ph:=[(0,AyT),(1,AyW),(2,Ai)]}
def Fw(a:Ayd):Ay0 (Ayg×Ayj×Ayb):=
 (Ie (Hw a).1 (Hw a).2.1 (Hw a).2.2).bind λb=>(De (Hw a).1 b.1 6 b.2.1 b.2.2).bind λc=>(Bd (Hw a).1 2 c.2.1 c.2.2).bind λd=>bif d.1 then
 (Ma b.1).bind λe=>some (b.1,c.1,(e,()))
 else
 (JO (Hw a).1 b.1 d.2.1 d.2.2).bind λg=>some (b.1,c.1,g.1)
def c6:=Ff [.d AyV] [⟨[.Aw [] AyV],[],Ayg×Ayj×Ayb,λp=>Fw p.1.1,λr=>(.cons (Aj r.1) (.cons (Cu r.2.1) (.cons (Cc r.2.2) .nil)),[])⟩]
theorem AcF:Am prog 6 c6:=Ax (fn:=f6) ⟨⟨E35,pk ⟨xl,xm,xn,Tv,lK,xo,trivial⟩,λ_ R K=>by
 simp only[Fw,Ax2];kernel_rfl⟩,trivial⟩
abbrev wU:=eN [(60,c60),(61,xM)] {Bv:=[(4,[0,3,5]),(7,[0,3,5,6])],CM:=[(4,[4]),(7,[0,3,4,5])],B5:=[(2,[0,3,17]),(10,[0,3,5,6,74])],EO:=[(2,[0,3]),(10,[0,3,5,6])]}
def AhJ a b (z_:Int):=sT 75 [(0,Aj a),(3,Aq),(5,dI z_)] [.box (Cc b)]
def Afi(a:Ayg)(b:Ayb):=Sum.elim (λ(c:Unit)=>xR 75 [(4,dB false)] []) (λ(d:Unit)=>xE 0 75 [] [])
def AhI a e b (z_:Int):=sT 75 [(0,Aj a),(3,Aq),(5,dI e),(6,dI z_)] [.box (Cc b)]
def Afh a e b:=Sum.elim (λ(g:Unit)=>xR 75 [(0,Aj a),(3,Aq),(4,dB false),(5,dI e)] [.box (Cc b)]) (λ(i:Unit)=>xE 2 75 [(0,Aj a),(3,Aq),(5,dI e)] [.box (Cc b)])
def AhH a e j b:=sT 75 [(0,Aj a),(3,Aq),(5,dI e),(6,dI j)] [.box (Cc b)]
def Afg a e j b:=λ(k:Bool)=>xN 75 [(0,Aj a),(3,Aq),(5,dI e),(6,dI j),(74,dB k)] [.box (Cc b)]
def JK(a:Ayg)(e j:Int)(b:Ayb):Ay0 Bool:=
 if 0<=e/\e<b.1.length then
 if 0<=j/\j<(b.1.getD e.toNat AyR.zero).length then
 if 0<=e/\e<a.length then
 bif !(Bj ((b.1.getD e.toNat AyR.zero).getD j.toNat AyN.zero) 1 (wI ((a.getD e.toNat Ab.zero).2.1-1)))then
 some true
 else
 bif decide (j>0)then
 if 0<=e/\e<b.1.length then
 if 0<=j/\j<(b.1.getD e.toNat AyR.zero).length then
 if 0<=e/\e<b.1.length then
 if 0<=(wI (j-1))/\(wI (j-1))<(b.1.getD e.toNat AyR.zero).length then
 some (decide (((b.1.getD e.toNat AyR.zero).getD j.toNat AyN.zero)<=((b.1.getD e.toNat AyR.zero).getD (wI (j-1)).toNat AyN.zero)))
 else none
 else none
 else none
 else none
 else
 some false
 else none
 else none
 else none
theorem Akr a e j b:AX wU 0 10 (sb (cd f24 116) 100) 24 (AhH a e j b) (JK a e j b) (Afg a e j b):=by
 unfold AX;simp only[JK,Ax1];kernel_rfl
def Kr(a:Ayg)(e:Int)(b:Ayb)(j:Int):Ay0 (Int⊕(Unit⊕Unit)):=
 if 0<=e/\e<b.1.length then
 bif decide (j<((b.1.getD e.toNat AyR.zero).length:Int))then
 (JK a e j b).bind λk=>bif k then
 some (.inr (.inl ()))
 else
 some (.inl (wI (j+1)))
 else
 some (.inr (.inr ()))
 else none
def He a e b (z_:Int):=Kr a e b z_
def S9 a e b j:=fix (He a e b) j
theorem Aks a e b:A8 wU 0 7 (cd f24 116) 50 (AhI a e b) (He a e b) (Afh a e b):=by
 intro _;simp(disch:=refine id ?_;kernel_rfl) only[He,Kr,Ax1,A7 (Akr ..) (K:=L5 wU 0 7)];kernel_rfl
def Ks(a:Ayg)(b:Ayb)(e:Int):Ay0 (Int⊕(Unit⊕Unit)):=
 bif decide (e<(b.1.length:Int))then
 (S9 a e b 0).bind (Sum.elim (λg=>some (.inr (.inl ()))) (λi=>some (.inl (wI (e+1)))))
 else
 some (.inr (.inr ()))
def Hf a b (z_:Int):=Ks a b z_
def Ta a b e:=fix (Hf a b) e
theorem Akt a b:A8 wU 0 4 (code f24) 58 (AhJ a b) (Hf a b) (Afi a b):=by
 intro _;simp(disch:=refine id ?_;kernel_rfl) only[Hf,Ks,Ax1,S9,AO (Aks _ _ _) (K:=L5 wU 0 4)];kernel_rfl
def AhG a b:=sT 75 [(0,Aj a),(3,Aq)] [.box (Cc b)]
def Aff a b:=λ(l:Bool)=>xN 75 [(0,Aj a),(3,Aq),(17,dB l)] [.box (Cc b)]
def MH(a:Ayg)(b:Ayb):Ay0 Bool:=
 (HN a).bind λn=>bif !n then
 some true
 else
 some ((b.1.length:Int) !=(a.length:Int))
theorem Akq a b:AX wU 0 2 (code f24) 12 (AhG a b) (MH a b) (Aff a b):=by
 unfold AX;simp only[MH,Ax1];kernel_rfl
def Oo(a:Ayg)(b:Ayb):Ay0 Bool:=
 (MH a b).bind λl=>bif l then
 some false
 else
 (Ta a b 0).bind (Sum.elim (λc=>some false) (λd=>some true))
def c24:=Ff [.d AyT,.d Ai] [⟨[.Aw [] AyT,.Aw [] Ai],[],Bool,λp=>Oo p.1.1 p.1.2.1,λr=>(dB r,[])⟩]
theorem xp:Am prog 24 c24:=Ax (fn:=f24) ⟨⟨wU,pk ⟨cq,Qg,trivial⟩,λ_ R K=>by
 simp(disch:=refine id ?_;kernel_rfl) only[Oo,Ax2,A7 (Akq ..) (K:=A6 wU f24 0 R K),Ta,AO (Akt _ _) (K:=A6 wU f24 0 R K)];kernel_rfl⟩,trivial⟩
abbrev E37:=eN [(60,c60),(61,xM),(62,c62)] {Bv:=[(4,[0,1,5])],CM:=[(4,[4])],B5:=[(2,[0,1,14]),(8,[0,1,5,67])],EO:=[(2,[0,1]),(8,[0,1,5,6])]}
def AhM a b (z_:Int):=sT 68 [(0,Aj a),(1,Cu b),(5,dI z_)] []
def Afl(a:Ayg)(b:Ayj):=Sum.elim (λ(c:Unit)=>xR 68 [(4,dB false)] []) (λ(d:Unit)=>xE 0 68 [] [])
def AhL a b e g:=sT 68 [(0,Aj a),(1,Cu b),(5,dI e),(6,dI g)] []
def Afk a b e (g:Int):=λ(i:Bool)=>xN 68 [(0,Aj a),(1,Cu b),(5,dI e),(67,dB i)] []
def Fy(a:Ayg)(b:Ayj)(e g:Int):Ay0 Bool:=
 if 0<=e/\e<b.length then
 bif !(Bj (b.getD e.toNat Af.zero).1 1 1000000)then
 some true
 else
 bif decide (e>0)then
 if 0<=e/\e<b.length then
 if 0<=(wI (e-1))/\(wI (e-1))<b.length then
 bif decide ((b.getD e.toNat Af.zero).1<=(b.getD (wI (e-1)).toNat Af.zero).1)then
 some true
 else
 bif decide (g<0)then
 some true
 else
 if 0<=e/\e<b.length then
 (B6 a (b.getD e.toNat Af.zero).2.2.2.1).bind λj=>some (j !=g)
 else none
 else none
 else none
 else
 bif decide (g<0)then
 some true
 else
 if 0<=e/\e<b.length then
 (B6 a (b.getD e.toNat Af.zero).2.2.2.1).bind λk=>some (k !=g)
 else none
 else none
theorem Akv a b e g:AX E37 0 8 (cd f25 116) 50 (AhL a b e g) (Fy a b e g) (Afk a b e g):=by
 unfold AX;simp only[Fy,Ax1];kernel_rfl
def Gg(a:Ayg)(b:Ayj)(e:Int):Ay0 (Int⊕(Unit⊕Unit)):=
 bif decide (e<(b.length:Int))then
 if 0<=e/\e<b.length then
 (B6 a (b.getD e.toNat Af.zero).2.2.1).bind λg=>(Fy a b e g).bind λi=>bif i then
 some (.inr (.inl ()))
 else
 some (.inl (wI (e+1)))
 else none
 else
 some (.inr (.inr ()))
def DI a b (z_:Int):=Gg a b z_
def LQ a b e:=fix (DI a b) e
theorem Akw a b:A8 E37 0 4 (code f25) 58 (AhM a b) (DI a b) (Afl a b):=by
 intro _;simp(disch:=refine id ?_;kernel_rfl) only[DI,Gg,Ax1,A7 (Akv ..) (K:=L5 E37 0 4)];kernel_rfl
def AhK a b:=sT 68 [(0,Aj a),(1,Cu b)] []
def Afj a b:=λ(l:Bool)=>xN 68 [(0,Aj a),(1,Cu b),(14,dB l)] []
def Fx(a:Ayg)(b:Ayj):Ay0 Bool:=
 (HN a).bind λn=>bif !n then
 some true
 else
 some (decide ((b.length:Int)>60))
theorem Aku a b:AX E37 0 2 (code f25) 12 (AhK a b) (Fx a b) (Afj a b):=by
 unfold AX;simp only[Fx,Ax1];kernel_rfl
def Ic(a:Ayg)(b:Ayj):Ay0 Bool:=
 (Fx a b).bind λl=>bif l then
 some false
 else
 (LQ a b 0).bind (Sum.elim (λc=>some false) (λd=>some true))
def c25:=Ff [.d AyT,.d AyW] [⟨[.Aw [] AyT,.Aw [] AyW],[],Bool,λp=>Ic p.1.1 p.1.2.1,λr=>(dB r,[])⟩]
theorem xq:Am prog 25 c25:=Ax (fn:=f25) ⟨⟨E37,pk ⟨cq,Qg,Vm,trivial⟩,λ_ R K=>by
 simp(disch:=refine id ?_;kernel_rfl) only[Ic,Ax2,A7 (Aku ..) (K:=A6 E37 f25 0 R K),LQ,AO (Akw _ _) (K:=A6 E37 f25 0 R K)];kernel_rfl⟩,trivial⟩
abbrev E38:=eN [] {Bv:=[(3,{Bb:=[0,3,5,6],Cy:=[(5,false,.row [] 86 AyU true)]}),(7,[0,3,5,6,7,8])],CM:=[(3,[5]),(7,[0,3,5,6,7])]}
def AhO a b (z_:Int×Ayn):=sT 48 [(0,Aj a),(3,Aq),(5,.AA 1),(6,dI z_.1)] [.box (Cc b),BM z_.2]
def Afn(a:Ayg)(b:Ayb):=λ(c:Ayn)=>xE 0 48 [(5,.AA 0)] [BM c]
def AhN a d b e (z_:Int×Aye):=sT 48 [(0,Aj a),(3,Aq),(5,.AA 1),(6,dI d),(7,.AA 2),(8,dI z_.1)] [.box (Cc b),BM e,LK z_.2]
def Afm a d b e:=λ(g:Aye)=>xE 2 48 [(0,Aj a),(3,Aq),(5,.AA 1),(6,dI d),(7,.AA 2)] [.box (Cc b),BM e,LK g]
def Jm(a:Ayg)(d:Int)(b:Ayb)(e:Ayn)(i:Int)(j:Aye):Ay0 ((Int×Aye)⊕Aye):=
 if 0<=d/\d<b.1.length then
 bif decide (i<((b.1.getD d.toNat AyR.zero).length:Int))then
 if 0<=d/\d<b.1.length then
 if 0<=i/\i<(b.1.getD d.toNat AyR.zero).length then
 if(0:Int)<=((b.1.getD d.toNat AyR.zero).getD i.toNat AyN.zero)/\((b.1.getD d.toNat AyR.zero).getD i.toNat AyN.zero)<(j.length:Int)then
 some (.inl (wI (i+1),j.set ((b.1.getD d.toNat AyR.zero).getD i.toNat AyN.zero).toNat true))
 else none
 else none
 else none
 else
 some (.inr j)
 else none
def Ej a d b e (z_:Int×Aye):=Jm a d b e z_.1 z_.2
def OQ a d b e i j:=fix (Ej a d b e) (i,j)
theorem Akx a d b e:A8 E38 0 7 (cd f26 116) 202 (AhN a d b e) (Ej a d b e) (Afm a d b e):=by
 intro _;simp only[Ej,Jm,Ax1];kernel_rfl
def Jn(a:Ayg)(b:Ayb)(d:Int)(e:Ayn):Ay0 ((Int×Ayn)⊕Ayn):=
 bif decide (d<(a.length:Int))then
 if 0<=d/\d<a.length then
 if Ty.row .bool=true/\(0:Int)<=(wI ((a.getD d.toNat Ab.zero).2.1+1))/\(wI ((a.getD d.toNat Ab.zero).2.1+1))<=(wI ((a.getD d.toNat Ab.zero).2.1+1))/\((1:Nat):Int)*(wI ((a.getD d.toNat Ab.zero).2.1+1))<=(281474976710656:Int)/\(wI ((a.getD d.toNat Ab.zero).2.1+1))<=(9223372036854775807:Int)then
 (OQ a d b e 0 (List.replicate (wI ((a.getD d.toNat Ab.zero).2.1+1)).toNat false)).bind λg=>if(e.length+([g]:Ayn).length)*24<=140737488355328 then
 some (.inl (wI (d+1),e++([g]:Ayn)))
 else none
 else none
 else none
 else
 some (.inr e)
def El a b (z_:Int×Ayn):=Jn a b z_.1 z_.2
def OR a b d e:=fix (El a b) (d,e)
theorem Aky a b:A8 E38 0 3 (code f26) 58 (AhO a b) (El a b) (Afn a b):=by
 intro _;simp(disch:=refine id ?_;kernel_rfl) only[El,Jn,Ax1,OQ,AO (Akx _ _ _ _) (K:=L5 E38 0 3)];kernel_rfl
def M0(a:Ayg)(b:Ayb):Ay0 Ayn:=
 (OR a b 0 ([]:Ayn)).bind λc=>some c
def c26:=Ff [.d AyT,.d Ai] [⟨[.Aw [] AyT,.Aw [] Ai],[],Ayn,λp=>M0 p.1.1 p.1.2.1,λr=>(.AA 0,[BM r])⟩]
theorem xr:Am prog 26 c26:=Ax (fn:=f26) ⟨⟨E38,pk trivial,λ_ R K=>by
 simp(disch:=refine id ?_;kernel_rfl) only[M0,Ax2,OR,AO (Aky _ _) (K:=A6 E38 f26 0 R K)];kernel_rfl⟩,trivial⟩
abbrev XY:=eN [(139,xi)] {Bv:=[(5,{Bb:=[0,4,7,8],Cy:=[(7,false,.row [] 129 Aa true)]}),(10,{Bb:=[4,7,9],Cy:=[(7,false,.row [] 129 Aa true)]}),(15,{Bb:=[2,7,10],Cy:=[(7,false,.row [] 129 Aa true)]}),(27,[4,7,11,12]),(40,{Bb:=[2,4,7,15],Cy:=[(7,false,.row [] 129 Aa true)]})],CM:=[(5,[7]),(10,[7]),(15,[7]),(27,[7]),(40,[7])],B5:=[(22,[2,4,7,18,84]),(25,[2,4,7,11]),(32,[2,4,7,18,116]),(36,[2,7,13,14]),(43,{Bb:=[7],Cy:=[(7,false,.row [] 129 Aa true)]})],EO:=[(22,[2,4,7,18]),(25,[2,4,7,11]),(32,[2,4,7,18]),(36,[2,4,7,13,14]),(43,[0,2,4,7])]}
def AbY a b c:=sT 167 [(0,Aj a),(2,M6 b),(4,Aq),(7,.zs)] (P4 c)
def AbE(a:Ayg)(b:Ayo)(c:Ax7):=λ(d:Ayf)=>xN 167 Uw [FJ d]
def AbX b c (z_:Int×Ayf):=sT 167 [(2,M6 b),(4,Aq),(7,.AA 1),(15,dI z_.1)] [.box (RO c),FJ z_.2]
def AbD(b:Ayo)(c:Ax7):=λ(e:Ayf)=>xE 9 167 Uw [FJ e]
def Ji(b:Ayo)(c:Ax7)(g:Int)(i:Ayf):Ay0 (AyI⊕Ayf):=
 bif decide (g<c.2.2.1)then
 if(0:Int)<=(0:Int)/\(0:Int)<(b.length:Int)then
 if(i.length+(b.getD 0 AyQ.zero).length)*16<=140737488355328 then
 some (.inl (wI (g+1),i++(b.getD 0 AyQ.zero)))
 else none
 else none
 else
 some (.inr i)
def Ef b c (z_:Int×Ayf):=Ji b c z_.1 z_.2
def LF b c g i:=fix (Ef b c) (g,i)
theorem Aci b c:A8 XY 0 40 (cd f137 14) 458746 (AbX b c) (Ef b c) (AbD b c):=by
 intro _;simp only[Ef,Ji,Ax1];kernel_rfl
def AbW b c j k:=sT 167 [(2,M6 b),(4,Aq),(7,.zs),(13,dI j),(14,dI k)] (P4 c)
def AbC b (c:Ax7) j (k:Int):=λ(l:Int)=>xN 167 [(2,M6 b),(7,.zs),(13,dI j),(14,dI l)] []
def Ii(b:Ayo)(c:Ax7)(j k:Int):Ay0 Int:=
 bif c.1==8 then
 if j=(0:Int)then none else
 some (Int.tmod (wI (j-k)) j)
 else
 some k
theorem Ach b c j k:AX XY 0 36 (cd f137 14) 229366 (AbW b c j k) (Ii b c j k) (AbC b c j k):=by
 unfold AX;simp only[Ii,Ax1];kernel_rfl
def ri b (c:Ax7):=sT 167 [(2,M6 b),(4,Aq),(7,.zs),(18,dI c.1)] (P4 c)
def jA(b:Ayo)(c:Ax7)(m0:Bool):Ex×St:=xN 167 [(2,M6 b),(4,Aq),(7,.zs),(18,dI c.1),(116,dB m0)] (P4 c)
theorem Acg b c:S1 XY 0 32 (cd f137 14) (pt 14334) (ri b c)=some (jA b c (bif c.1==7 then(c.1==7)else(c.1==8))):=by
 refine .trans (b:=
 bif c.1==7 then
 some (jA b c (c.1==7))
 else
 some (jA b c (c.1==8))) (by kernel_rfl) ?_
 cases (c.1==7);rfl;rfl
def AbV c (z_:Int×Ayf):=sT 167 [(4,Aq),(7,.AA 1),(11,BQ),(12,dI z_.1)] [.box (RO c),FJ z_.2,.box (.pr (dI (-1)) (.pr (dI 0) .u))]
def AbB(c:Ax7):=λ(n:Ayf)=>xE 7 167 Uw [FJ n]
def Jh(c:Ax7)(o:Int)(q:Ayf):Ay0 (AyI⊕Ayf):=
 bif decide (o<c.2.2.1)then
 if(q.length+([(-1,0,())]:Ayf).length)*16<=140737488355328 then
 some (.inl (wI (o+1),q++([(-1,0,())]:Ayf)))
 else none
 else
 some (.inr q)
def Ee c (z_:Int×Ayf):=Jh c z_.1 z_.2
def LD c o q:=fix (Ee c) (o,q)
theorem Acf c:A8 XY 0 27 (cd f137 14) 229342 (AbV c) (Ee c) (AbB c):=by
 intro _;simp only[Ee,Jh,Ax1];kernel_rfl
def AbU c s (z_:Int×Ayf):=sT 167 [(4,Aq),(7,.AA 1),(11,BQ),(12,dI z_.1)] [.box (RO c),FJ z_.2,.box (dD Aa s)]
def AbA(c:Ax7)(s:Ax5):=λ(t:Ayf)=>xE 7 167 Uw [FJ t]
def Jg(c:Ax7)(s:Ax5)(u:Int)(v:Ayf):Ay0 (AyI⊕Ayf):=
 bif decide (u<c.2.2.1)then
 if(v.length+([s]:Ayf).length)*16<=140737488355328 then
 some (.inl (wI (u+1),v++([s]:Ayf)))
 else none
 else
 some (.inr v)
def Ed c s (z_:Int×Ayf):=Jg c s z_.1 z_.2
def LC c s u v:=fix (Ed c s) (u,v)
theorem Ace c s:A8 XY 0 27 (cd f137 14) 229342 (AbU c s) (Ed c s) (AbA c s):=by
 intro _;simp only[Ed,Jg,Ax1];kernel_rfl
def AbT b c:=sT 167 (wv b) [.box (RO c),.box (.pr (dI (-1)) (.pr (dI 0) .u))]
def Abz b c:=Sum.elim (λ(w:Unit)=>xN 167 (wv b) [.box (RO c),.box (dD Aa ((b.getD 0 AyQ.zero).getD (wI (((b.getD 0 AyQ.zero).length:Int)-1)).toNat Aa.zero))]) (λ(x:Unit)=>xN 167 (wv b) [.box (RO c),.box (.pr (dI (-1)) (.pr (dI 0) .u))])
def Ep(b:Ayo)(c:Ax7):Ay0 (Unit⊕Unit):=
 bif c.1==6 then
 if(0:Int)<=(0:Int)/\(0:Int)<(b.length:Int)then
 if(0:Int)<=(0:Int)/\(0:Int)<(b.length:Int)then
 if 0<=(wI (((b.getD 0 AyQ.zero).length:Int)-1))/\(wI (((b.getD 0 AyQ.zero).length:Int)-1))<(b.getD 0 AyQ.zero).length then
 some (.inl ())
 else none
 else none
 else none
 else
 some (.inr ())
theorem Acd b c:AX XY 0 25 (cd f137 14) 28666 (AbT b c) (Ep b c) (Abz b c):=by
 unfold AX;simp only[Ep,Ax1];kernel_rfl
def rh b (c:Ax7):=sT 167 [(2,M6 b),(4,Aq),(7,.zs),(18,dI c.1)] (P4 c)
def jz(b:Ayo)(c:Ax7)(m0:Bool):Ex×St:=xN 167 [(2,M6 b),(4,Aq),(7,.zs),(18,dI c.1),(84,dB m0)] (P4 c)
theorem Acb b c:S1 XY 0 22 (cd f137 14) (pt 3582) (rh b c)=some (jz b c (bif c.1==5 then(c.1==5)else(c.1==6))):=by
 refine .trans (b:=
 bif c.1==5 then
 some (jz b c (c.1==5))
 else
 some (jz b c (c.1==6))) (by kernel_rfl) ?_
 cases (c.1==5);rfl;rfl
def AbS b (z_:Int×Ayf):=sT 167 [(2,M6 b),(7,.AA 0),(10,dI z_.1)] [FJ z_.2]
def Aby(b:Ayo):=λ(y:Ayf)=>xE 5 167 Uw [FJ y]
def Jf(b:Ayo)(a1:Int)(b1:Ayf):Ay0 (AyI⊕Ayf):=
 bif decide (a1>=0)then
 if 0<=a1/\a1<b.length then
 if(b1.length+(b.getD a1.toNat AyQ.zero).length)*16<=140737488355328 then
 some (.inl (wI (a1-1),b1++(b.getD a1.toNat AyQ.zero)))
 else none
 else none
 else
 some (.inr b1)
def Ec b (z_:Int×Ayf):=Jf b z_.1 z_.2
def OL b a1 b1:=fix (Ec b) (a1,b1)
theorem Aca b:A8 XY 0 15 (cd f137 14) 1786 (AbS b) (Ec b) (Aby b):=by
 intro _;simp only[Ec,Jf,Ax1];kernel_rfl
def AbR c (z_:Int×Ayf):=sT 167 [(4,Aq),(7,.AA 1),(9,dI z_.1)] [.box (RO c),FJ z_.2]
def Abx(c:Ax7):=λ(c1:Ayf)=>xE 3 167 Uw [FJ c1]
def Je(c:Ax7)(d1:Int)(e1:Ayf):Ay0 (AyI⊕Ayf):=
 bif decide (d1<c.2.2.2.2.1.1)then
 (GF c.2.2.2.2.1 d1).bind λg1=>if(e1.length+([(-1,wI g1,())]:Ayf).length)*16<=140737488355328 then
 some (.inl (wI (d1+1),e1++([(-1,wI g1,())]:Ayf)))
 else none
 else
 some (.inr e1)
def Eb c (z_:Int×Ayf):=Je c z_.1 z_.2
def LB c d1 e1:=fix (Eb c) (d1,e1)
theorem Ab9 c:A8 XY 0 10 (cd f137 14) 442 (AbR c) (Eb c) (Abx c):=by
 intro _;simp only[Eb,Je,Ax1];kernel_rfl
def AbQ a c (z_:Int×Ayf):=sT 167 [(0,Aj a),(4,Aq),(7,.AA 1),(8,dI z_.1)] [.box (RO c),FJ z_.2]
def Abw(a:Ayg)(c:Ax7):=λ(i1:Ayf)=>xE 1 167 Uw [FJ i1]
def Jd(a:Ayg)(c:Ax7)(j1:Int)(k1:Ayf):Ay0 (AyI⊕Ayf):=
 if(0:Int)<=c.2.1/\c.2.1<(a.length:Int)then
 bif decide (j1<(a.getD c.2.1.toNat Ab.zero).2.1)then
 if(k1.length+([(c.2.1,j1,())]:Ayf).length)*16<=140737488355328 then
 some (.inl (wI (j1+1),k1++([(c.2.1,j1,())]:Ayf)))
 else none
 else
 some (.inr k1)
 else none
def Ea a c (z_:Int×Ayf):=Jd a c z_.1 z_.2
def LA a c j1 k1:=fix (Ea a c) (j1,k1)
theorem Ab8 a c:A8 XY 0 5 (cd f137 14) 106 (AbQ a c) (Ea a c) (Abw a c):=by
 intro _;simp only[Ea,Jd,Ax1];kernel_rfl
def LG(a:Ayg)(b:Ayo)(c:Ax7):Ay0 Ayf:=
 bif c.1==1 then
 (LA a c 0 ([]:Ayf)).bind λi1=>some i1
 else
 bif c.1==2 then
 (LB c 0 ([]:Ayf)).bind λc1=>some c1
 else
 bif c.1==3 then
 (OL b (wI ((b.length:Int)-1)) ([]:Ayf)).bind λy=>some y
 else
 bif c.1==4 then
 if(0:Int)<=(0:Int)/\(0:Int)<(b.length:Int)then
 if(0:Int)<=c.2.2.2.1/\c.2.2.2.1<=(wI (c.2.2.1+1))/\(wI (c.2.2.1+1))<=((b.getD 0 AyQ.zero).length:Int)then
 if(((b.getD 0 AyQ.zero).take (wI (c.2.2.1+1)).toNat).drop c.2.2.2.1.toNat).length*16<=140737488355328 then
 some (((b.getD 0 AyQ.zero).take (wI (c.2.2.1+1)).toNat).drop c.2.2.2.1.toNat)
 else none
 else none
 else none
 else
 Np (rh b c) (
 bif bif (c.1==5)then(c.1==5)else(c.1==6)then
 (Ep b c).bind (Sum.elim (λw=>if(0:Int)<=(0:Int)/\(0:Int)<(b.length:Int)then
 if(b.getD 0 AyQ.zero).length*16<=140737488355328 then
 (LC c ((b.getD 0 AyQ.zero).getD (wI (((b.getD 0 AyQ.zero).length:Int)-1)).toNat Aa.zero) 0 (b.getD 0 AyQ.zero)).bind λt=>some t
 else none
 else none) (λx=>if(0:Int)<=(0:Int)/\(0:Int)<(b.length:Int)then
 if(b.getD 0 AyQ.zero).length*16<=140737488355328 then
 (LD c 0 (b.getD 0 AyQ.zero)).bind λn=>some n
 else none
 else none))
 else
 Np (ri b c) (
 bif bif (c.1==7)then(c.1==7)else(c.1==8)then
 if(0:Int)<=(0:Int)/\(0:Int)<(b.length:Int)then
 if((b.getD 0 AyQ.zero).length:Int)=(0:Int)then none else
 (Ii b c ((b.getD 0 AyQ.zero).length:Int) (Int.tmod c.2.2.1 ((b.getD 0 AyQ.zero).length:Int))).bind λl=>if(0:Int)<=(0:Int)/\(0:Int)<(b.length:Int)then
 if(0:Int)<=(wI (((b.getD 0 AyQ.zero).length:Int)-l))/\(wI (((b.getD 0 AyQ.zero).length:Int)-l))<=((b.getD 0 AyQ.zero).length:Int)/\((b.getD 0 AyQ.zero).length:Int)<=((b.getD 0 AyQ.zero).length:Int)then
 if(((b.getD 0 AyQ.zero).take ((b.getD 0 AyQ.zero).length:Int).toNat).drop (wI (((b.getD 0 AyQ.zero).length:Int)-l)).toNat).length*16<=140737488355328 then
 if(0:Int)<=(0:Int)/\(0:Int)<(b.length:Int)then
 if(0:Int)<=(0:Int)/\(0:Int)<=(wI (((b.getD 0 AyQ.zero).length:Int)-l))/\(wI (((b.getD 0 AyQ.zero).length:Int)-l))<=((b.getD 0 AyQ.zero).length:Int)then
 if((((b.getD 0 AyQ.zero).take ((b.getD 0 AyQ.zero).length:Int).toNat).drop (wI (((b.getD 0 AyQ.zero).length:Int)-l)).toNat).length+(((b.getD 0 AyQ.zero).take (wI (((b.getD 0 AyQ.zero).length:Int)-l)).toNat).drop 0).length)*16<=140737488355328 then
 some ((((b.getD 0 AyQ.zero).take ((b.getD 0 AyQ.zero).length:Int).toNat).drop (wI (((b.getD 0 AyQ.zero).length:Int)-l)).toNat)++(((b.getD 0 AyQ.zero).take (wI (((b.getD 0 AyQ.zero).length:Int)-l)).toNat).drop 0))
 else none
 else none
 else none
 else none
 else none
 else none
 else none
 else
 bif c.1==9 then
 (LF b c 0 ([]:Ayf)).bind λe=>some e
 else
 some ([]:Ayf)))
theorem Acj a b c:AX XY 0 43 (code f137) 14 (AbY a b c) (LG a b c) (AbE a b c):=by
 unfold AX;simp(disch:=refine id ?_;kernel_rfl) only[LG,Ax1,LA,AO (Ab8 _ _) (K:=OZ XY 0 43),LB,AO (Ab9 _) (K:=OZ XY 0 43),OL,AO (Aca _) (K:=OZ XY 0 43),EM (Acb ..) (K:=OZ XY 0 43),A7 (Acd ..) (K:=OZ XY 0 43),LC,AO (Ace _ _) (K:=OZ XY 0 43),LD,AO (Acf _) (K:=OZ XY 0 43),EM (Acg ..) (K:=OZ XY 0 43),A7 (Ach ..) (K:=OZ XY 0 43),LF,AO (Aci _ _) (K:=OZ XY 0 43)];kernel_rfl
def Ov(a:Ayg)(c:Ax7)(b:Ayo):Ay0 Ayf:=
 (LG a b c).bind λd=>some d
def AmO:=Ff [.d AyT,.d Ad,.d (.sl AyQ)] [⟨[.Aw [] AyT,.Aw [] Ad,.Aw [] (.sl AyQ)],[],Ayf,λp=>Ov p.1.1 p.1.2.1 p.1.2.2.1,λr=>(.AA 0,[FJ r])⟩]
theorem rU:Am prog 137 AmO:=Ax (fn:=f137) ⟨⟨XY,pk ⟨X7,trivial⟩,λ_ R K=>by
 simp(disch:=refine id ?_;kernel_rfl) only[Ov,Ax2,A7 (Acj ..) (K:=A6 XY f137 0 R K)];kernel_rfl⟩,trivial⟩
end
end Go.Proofs.X
