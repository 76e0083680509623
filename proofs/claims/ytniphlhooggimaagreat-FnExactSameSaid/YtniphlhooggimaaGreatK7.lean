import Derived.KernelRfl
import Derived.Test.YtniphlhooggimaaGreatK6
set_option linter.unusedVariables false
set_option linter.unusedSimpArgs false
namespace Go.Proofs.X
open Go Go.Va Go.Proofs.Tryz
set_option maxRecDepth 100000
noncomputable section
abbrev Amd:=eN [] {A8:=[(1,[0,1])],BW:=[(1,[1])]}
def AoQ(a:Int) b (c:APh) d (z_:Int×AOz):=sT 41 [(0,.ptr 0 a [] 0),(1,dI z_.1)] [.box cr,AA z_.2,AA b,Jn c none,C4 d]
def Anj(a:Int) b (c:APh) d:=λ(e:AOW)=>xE 0 41 [(1,dI e.1)] [.box cr,AA e.2,AA b,Jn c none,C4 d]
def KX(a:Int)(b:AOz)(c:APh)(d:AOD)(g:Int)(i:AOz):APJ (AOW⊕AOW):=
 if 0<=g/\g<i.length then
 bif (i.getD g.toNat APr.zero) !=g then
 if 0<=g/\g<i.length then
 if(0:Int)<=(i.getD g.toNat APr.zero)/\(i.getD g.toNat APr.zero)<(i.length:Int)then
 if 0<=g/\g<i.length then
 if 0<=g/\g<(i.set g.toNat (i.getD (i.getD g.toNat APr.zero).toNat APr.zero)).length then
 some (.inl ((i.set g.toNat (i.getD (i.getD g.toNat APr.zero).toNat APr.zero)).getD g.toNat APr.zero,i.set g.toNat (i.getD (i.getD g.toNat APr.zero).toNat APr.zero)))
 else none
 else none
 else none
 else none
 else
 some (.inr (g,i))
 else none
def Ho a b c d (z_:Int×AOz):=KX a b c d z_.1 z_.2
def NA a b c d g i:=fix (Ho a b c d) (g,i)
theorem AqB a b c d:A4 Amd 5 1 (code f145) 12 (AoQ a b c d) (Ho a b c d) (Anj a b c d):=by
 intro _;simp only[Ho,KX,AOi];kernel_rfl
def Ep(a j:Int)(k b:AOz)(c:APh)(d:AOD):APJ (Int×AOz×AOz×APh×AOD):=
 (NA a b c d j k).bind λe=>some (e.1,e.2,b,c,d)
def ArB:=Cx [.WH,.d APr] [⟨[.ptr 0 [] 0,.AB [] APr],[.box (.pr (.k F8) (.pr (.k UC) (.pr (.k (.mp 3)) (.pr (.k KB) (.k .u))))),.row 2 .Aw APr,.row 2 .Aw APr,.map (.sh []) APr Ah,.row 204 .Aw Ab],Int×AOz×AOz×APh×AOD,λp=>Ep p.1.1 p.1.2.1 p.2.2.1 p.2.2.2.1 p.2.2.2.2.1 p.2.2.2.2.2.1,λr=>(dI r.1,[.box cr,AA r.2.1,AA r.2.2.1,Jn r.2.2.2.1 none,C4 r.2.2.2.2])⟩]
theorem rK:Aq prog 145 ArB:=Av (fn:=f145) ⟨⟨Amd,pk trivial,λ_ R K=>by
 simp(disch:=refine id ?_;kernel_rfl) only[Ep,AOj,NA,AH (AqB _ _ _ _) (K:=A2 Amd f145 5 R K)];kernel_rfl⟩,trivial⟩
abbrev eU:=eN [(144,ABb),(145,ArB),(146,ABc),(147,ABd)] {BS:=[(8,[0,10,11,12,13,63]),(11,[0,6,7,10,11,12,13]),(14,[0,10,12,109]),(15,{Bb:=[]})],aJ:=[(1,[0,2,8,9])],DD:=[(8,[0,10,11,12,13]),(11,[0,10,11,12,13]),(14,[0,10,12,13]),(15,[0,10,12,13])],dL:=[(1,[0,2,4])],VC:=[.mv 0 [3],.A9 4],jw:=[(0,.row [] 2 APr true)]}
def AoS(a:Int) b c d (e:APh) g i j:=sT 117 [(0,.ptr 0 a [] 0),(10,dI c),(12,dI b),(13,dI d)] (eR e g i j)
def Anl(a b c d:Int)(e:APh) g (i:AOz) j:=λ(k:AOz)=>xN 117 [] (eR e g k j)
def Ac4(a:Int) c b d (e:APh) g i j:=sT 117 [(0,.ptr 0 a [] 0),(10,dI c),(12,dI b),(13,dI d)] (eR e g i j)
def vT(a c b:Int)(e:APh)(g i:AOz)(j:AOD)(m0:Bool):Ex×St:=xN 117 [(0,.ptr 0 a [] 0),(10,dI c),(12,dI b),(109,dB m0)] (eR e g i j)
theorem AqF a c b d e g i j:Xn eU 5 14 (cd f111 2046) (pt 2) (Ac4 a c b d e g i j)=some (vT a c b e g i j ((decide (b>=0))&&(decide (d>=0)))):=by
 refine .trans (b:=
 bif decide (b>=0)then
 some (vT a c b e g i j (decide (d>=0)))
 else
 some (vT a c b e g i j false)) (by kernel_rfl) ?_
 cases (decide (b>=0));rfl;rfl
def D1(a b c d:Int)(e:APh)(g i:AOz)(j:AOD):APJ AOz:=
 PD (Ac4 a c b d e g i j) (
 bif (decide (b>=0))&&(decide (d>=0))then
 if 0<=c/\c<i.length then
 some (i.set c.toNat b)
 else none
 else
 some i)
theorem AqG a b c d e g i j:AY eU 5 15 (code f111) 2046 (AoS a b c d e g i j) (D1 a b c d e g i j) (Anl a b c d e g i j):=by
 unfold AY;simp(disch:=refine id ?_;kernel_rfl) only[D1,AOi,Ft (AqF ..) (K:=UH eU 5 15)];kernel_rfl
def AoR(a:Int) l n o q (s:APh) t u v:=sT 117 (AhN a l n o q) (eR s t u v)
def Ank(a:Int) l n o q (s:APh) t u v:=Sum.elim (λ(w:AOz)=>xR 117 [(0,.ptr 0 a [] 0),(6,.AG 5),(7,dB false),(10,dI l),(11,dI n),(12,dI o),(13,dI q)] [.box (.pr (.AG 6) (.pr (.AG 7) (.pr (.mp 3) (.pr (.AG 8) .u)))),.A9,.A9,Jn s none,.A9,AA w,AA t,AA u,C4 v]) (λ(b:Int)=>xN 117 (AhN a l n b q) (eR s t u v))
def Ac3(a:Int) l n o q (s:APh) t u v:=sT 117 (AhN a l n o q) (eR s t u v)
def vS(a l n o q:Int)(s:APh)(t u:AOz)(v:AOD)(m0:Bool):Ex×St:=xN 117 [(0,.ptr 0 a [] 0),(10,dI l),(11,dI n),(12,dI o),(13,dI q),(63,dB m0)] (eR s t u v)
theorem AqD a l n o q s t u v:Xn eU 5 8 (cd f111 254) (pt 2) (Ac3 a l n o q s t u v)=some (vS a l n o q s t u v ((decide (o>=0))&&(decide (q>=0)))):=by
 refine .trans (b:=
 bif decide (o>=0)then
 some (vS a l n o q s t u v (decide (q>=0)))
 else
 some (vS a l n o q s t u v false)) (by kernel_rfl) ?_
 cases (decide (o>=0));rfl;rfl
def IE(a l n o q:Int)(s:APh)(t u:AOz)(v:AOD):APJ (AOz⊕Int):=
 PD (Ac3 a l n o q s t u v) (
 bif (decide (o>=0))&&(decide (q>=0))then
 (LX (Bn APr Ah s o) (Bn APr Ah s q)).bind λx=>bif !x then
 (Wy v o q).bind λy=>some (.inl y)
 else
 some (.inr (if q<o then q else o))
 else
 some (.inr o))
theorem AqE a l n o q s t u v:AY eU 5 11 (code f111) 254 (AoR a l n o q s t u v) (IE a l n o q s t u v) (Ank a l n o q s t u v):=by
 unfold AY;simp(disch:=refine id ?_;kernel_rfl) only[IE,AOi,Ft (AqD ..) (K:=UH eU 5 11)];kernel_rfl
def Ac2(a:Int) a1 b1 c1 (d1:APh) e1 g1:=sT 117 [(0,.ptr 0 a [] 0),(2,dI a1),(4,NH)] [.box cr,AA b1,AA c1,Jn d1 none,C4 e1,.box (dD Ap g1)]
def Xu(a:Int) a1 (b1:AOz) (c1:AOz) (d1:APh) (e1:AOD) (g1:AOw):=λ(i1:(Int×Int×APh×AOD×AOz×AOz))=>sT 117 [(0,.ptr 0 a [] 0),(2,dI a1),(8,dI i1.1),(9,dI i1.2.1)] [.box (.pr (.AG 5) (.pr (.AG 6) (.pr (.mp 3) (.pr KB .u)))),.A9,.A9,Jn i1.2.2.1 none,C4 i1.2.2.2.1,AA i1.2.2.2.2.1,AA i1.2.2.2.2.2]
def ID(a a1:Int)(b1 c1:AOz)(d1:APh)(e1:AOD)(g1:AOw):APJ (Int×Int×APh×AOD×AOz×AOz):=
 (Bh a g1.1 b1 c1 d1 e1).bind λj1=>(Bh a g1.2.1 j1.2.2.2.1 j1.2.2.2.2 j1.2.1 j1.2.2.1).bind λk1=>some (j1.1,k1.1,k1.2.1,k1.2.2.1,k1.2.2.2.1,k1.2.2.2.2)
theorem AqC(a a1:Int)(b1 c1:AOz)(d1:APh)(e1:AOD)(g1:AOw):SJ eU 5 1 (code f111) 6 (Ac2 a a1 b1 c1 d1 e1 g1) (ID a a1 b1 c1 d1 e1 g1) (Xu a a1 b1 c1 d1 e1 g1):=by
 unfold SJ;have h:yK eU 5 1 (code f111) (pt 6) (Ac2 a a1 b1 c1 d1 e1 g1) =
 (Bh a g1.1 b1 c1 d1 e1).bind λj1=>(Bh a g1.2.1 j1.2.2.2.1 j1.2.2.2.2 j1.2.1 j1.2.2.1).bind λk1=>(((((Bh a g1.1 b1 c1 d1 e1).bind λl1 =>
(Bh a g1.2.1 l1.2.2.2.1 l1.2.2.2.2 l1.2.1 l1.2.2.1).bind λn1=>kx (Xu a a1 b1 c1 d1 e1 g1 (l1.1,n1.1,n1.2.1,n1.2.2.1,n1.2.2.2.1,n1.2.2.2.2)) (Xu a a1 b1 c1 d1 e1 g1 (j1.1,k1.1,k1.2.1,k1.2.2.1,k1.2.2.2.1,k1.2.2.2.2))).bind λ_=>(Bh a g1.1 b1 c1 d1 e1).bind λo1 =>
(Bh a g1.2.1 o1.2.2.2.1 o1.2.2.2.2 o1.2.1 o1.2.2.1).bind λq1=>kx (Xu a a1 b1 c1 d1 e1 g1 (o1.1,q1.1,q1.2.1,q1.2.2.1,q1.2.2.2.1,q1.2.2.2.2)) (Xu a a1 b1 c1 d1 e1 g1 (j1.1,k1.1,k1.2.1,k1.2.2.1,k1.2.2.2.1,k1.2.2.2.2))).bind λ_=>(Bh a g1.1 b1 c1 d1 e1).bind λs1 =>
(Bh a g1.2.1 s1.2.2.2.1 s1.2.2.2.2 s1.2.1 s1.2.2.1).bind λt1=>kx (Xu a a1 b1 c1 d1 e1 g1 (s1.1,t1.1,t1.2.1,t1.2.2.1,t1.2.2.2.1,t1.2.2.2.2)) (Xu a a1 b1 c1 d1 e1 g1 (j1.1,k1.1,k1.2.1,k1.2.2.1,k1.2.2.2.1,k1.2.2.2.2))).bind λ_=>some (Xu a a1 b1 c1 d1 e1 g1 (j1.1,k1.1,k1.2.1,k1.2.2.1,k1.2.2.2.1,k1.2.2.2.2))):=by kernel_rfl
 rw[h];unfold ID;simp only[AOi,mS,mO];clear h;cases Hf:Bh a g1.1 b1 c1 d1 e1 with
 |none=>rfl
 |some j1 =>
  simp only[AL6];cases PQ:Bh a g1.2.1 j1.2.2.2.1 j1.2.2.2.2 j1.2.1 j1.2.2.1 with
  |none=>rfl
  |some k1 =>
   simp only[AL6];simp only[Hf,PQ,AMR,AL6,Jq,HF]
def I3(a:Int)(g1:AOw)(a1:Int)(b1 c1:AOz)(d1:APh)(e1:AOD):APJ (Bool×APh×AOz×AOz×AOz×AOD):=
 (ID a a1 b1 c1 d1 e1 g1).bind λi1=>(Ep a i1.1 i1.2.2.2.2.1 i1.2.2.2.2.2 i1.2.2.1 i1.2.2.2.1).bind λu1=>(Ep a i1.2.1 u1.2.1 u1.2.2.1 u1.2.2.2.1 u1.2.2.2.2).bind λv1=>bif u1.1==v1.1 then
 some (true,v1.2.2.2.1,([]:AOz),v1.2.1,v1.2.2.1,v1.2.2.2.2)
 else
 if(v1.2.2.2.2.length+([(i1.1,i1.2.1,a1,())]:AOD).length)*24<=140737488355328 then
 if(0:Int)<=u1.1/\u1.1<(v1.2.2.1.length:Int)then
 if(0:Int)<=v1.1/\v1.1<(v1.2.2.1.length:Int)then
 (IE a u1.1 v1.1 (v1.2.2.1.getD u1.1.toNat APr.zero) (v1.2.2.1.getD v1.1.toNat APr.zero) v1.2.2.2.1 v1.2.1 v1.2.2.1 (v1.2.2.2.2++([(i1.1,i1.2.1,a1,())]:AOD))).bind (Sum.elim (λw=>some (false,v1.2.2.2.1,w,v1.2.1,v1.2.2.1,v1.2.2.2.2++([(i1.1,i1.2.1,a1,())]:AOD))) (λb=>if(0:Int)<=v1.1/\v1.1<(v1.2.1.length:Int)then
 if(0:Int)<=u1.1/\u1.1<(v1.2.2.1.length:Int)then
 (D1 a b u1.1 (v1.2.2.1.getD v1.1.toNat APr.zero) v1.2.2.2.1 (v1.2.1.set v1.1.toNat u1.1) (v1.2.2.1.set u1.1.toNat (if(v1.2.2.1.getD v1.1.toNat APr.zero)>b then(v1.2.2.1.getD v1.1.toNat APr.zero)else b)) (v1.2.2.2.2++([(i1.1,i1.2.1,a1,())]:AOD))).bind λk=>some (true,v1.2.2.2.1,([]:AOz),v1.2.1.set v1.1.toNat u1.1,k,v1.2.2.2.2++([(i1.1,i1.2.1,a1,())]:AOD))
 else none
 else none))
 else none
 else none
 else none
def AAL:=Cx [.WH,.d Ap,.d APr] [⟨[.ptr 0 [] 0,.AB [] Ap,.AB [] APr],[.box (.pr (.k F8) (.pr (.k UC) (.pr (.k (.mp 3)) (.pr (.k KB) (.k .u))))),.row 2 .Aw APr,.row 2 .Aw APr,.map (.sh []) APr Ah,.row 204 .Aw Ab],Bool×APh×AOz×AOz×AOz×AOD,λp=>I3 p.1.1 p.1.2.1 p.1.2.2.1 p.2.2.1 p.2.2.2.1 p.2.2.2.2.1 p.2.2.2.2.2.1,λr=>(.cons (.AG 5) (.cons (dB r.1) .nil),[.box (.pr (.AG 6) (.pr (.AG 7) (.pr (.mp 3) (.pr (.AG 8) .u)))),.A9,.A9,Jn r.2.1 none,.A9,AA r.2.2.1,AA r.2.2.2.1,AA r.2.2.2.2.1,C4 r.2.2.2.2.2])⟩]
theorem AdD:Aq prog 111 AAL:=Av (fn:=f111) ⟨⟨eU,pk ⟨Ad4,rK,Ad5,Ad6,trivial⟩,λ_ R K=>by
 simp(disch:=refine id ?_;kernel_rfl) only[I3,AOj,W2 (AqC ..) (K:=A2 eU f111 5 R K),Bc (AqE ..) (K:=A2 eU f111 5 R K),Bc (AqG ..) (K:=A2 eU f111 5 R K)];kernel_rfl⟩,trivial⟩
abbrev vz:=eN [(132,AiA),(145,ArB)] {A8:=[(4,{Bb:=[0,5,6,15,16],Cg:=[(5,false,.row [] 150 Ao true)]})],BW:=[(4,[5])],BS:=[(15,{Bb:=[0,5,6,7,9,11,15,16],Cg:=[(11,true,.row [2,1] 88 APs true)]}),(16,{Bb:=[0,5,6,7,9,15,16],Cg:=[(5,false,.row [] 150 Ao true)]})],DD:=[(15,[0,5,6,7,8,9,11,15,16]),(16,[0,5,6,7,8,9,10,15,16])],stl:=[64]}
def AoV(a:Int) b (z_:Int×AOz×AOz×APh×AOD×AOK×APl):=sT 72 [(0,.ptr 0 a [] 0),(5,.AG 5),(6,.mp 6),(15,dI b),(16,dI z_.1)] (AhO z_.2.1 z_.2.2.1 z_.2.2.2.1 z_.2.2.2.2.1 z_.2.2.2.2.2.1 z_.2.2.2.2.2.2)
def Ano(a b:Int):=λ(c:APo)=>xE 0 72 [(5,.AG 5)] [.box cr,AA c.1,AA c.2.1,Jn c.2.2.1 none,C4 c.2.2.2.1,ER c.2.2.2.2]
def AoU(a:Int) d b e (g:APl) i j k l n (o:APh) q:=sT 72 [(0,.ptr 0 a [] 0),(5,.AG 5),(6,.mp 6),(7,dI d),(8,dI i),(9,dI j),(10,dB k),(15,dI b),(16,dI d)] (AhO l n o q e g)
def Ann(a:Int) d b (e:AOK) (g:APl) (i:Int) (j:Int) (k:Bool) l n (o:APh) q:=λ(s:(Int×AOK×APl))=>xN 72 [(0,.ptr 0 a [] 0),(5,.AG 5),(6,.mp 6),(7,dI d),(9,dI s.1),(15,dI b),(16,dI d)] (AhO l n o q s.2.1 s.2.2)
def AoT(a:Int) d i b l n (o:APh) q e t (u:APl):=sT 72 [(0,.ptr 0 a [] 0),(5,.AG 5),(6,.mp 6),(7,dI d),(8,dI i),(9,dI t),(11,.ptr 7 0 [] 0),(15,dI b),(16,dI d)] [.box cr,AA l,AA n,Jn o none,C4 q,ER e,xZ u none,.box (.pr .zs (.pr (dB false) (.pr qN .u)))]
def Anm(a:Int) d (i:Int) b l n (o:APh) q e t (u:APl):=λ(v:(Bool×Int×AOz))=>xN 72 [(0,.ptr 0 a [] 0),(5,.AG 5),(6,.mp 6),(7,dI d),(9,dI t),(11,.ptr 7 0 [] 0),(15,dI b),(16,dI d)] [.box cr,AA l,AA n,Jn o none,C4 q,ER e,xZ u none,.box (.pr .zs (.pr (dB v.1) (.pr (.pr (dI v.2.1) (.pr (.AG 8) .u)) .u))),Da v.2.2]
def DI(a d i b:Int)(l n:AOz)(o:APh)(q:AOD)(e:AOK)(t:Int)(u:APl):APJ (Bool×Int×AOz):=
 if 0<=i/\i<n.length then
 bif decide ((n.getD i.toNat APr.zero)>=0)then
 (De (Bn APr Ah o (n.getD i.toNat APr.zero))).bind λw=>some (true,w.1,w.2)
 else
 some (false,0,([]:AOz))
 else none
theorem AqH a d i b l n o q e t u:AY vz 5 15 (sb (cd f112 244) 462) 110 (AoT a d i b l n o q e t u) (DI a d i b l n o q e t u) (Anm a d i b l n o q e t u):=by
 unfold AY;simp only[DI,AOi];kernel_rfl
def Gi(a d b:Int)(e:AOK)(g:APl)(i j:Int)(k:Bool)(l n:AOz)(o:APh)(q:AOD):APJ (Int×AOK×APl):=
 bif !k then
 (DI a d i b l n o q e (e.length:Int) (Ch APr APr g i (e.length:Int))).bind λv=>if(e.length+([(([]:AOz),v.1,(v.2.1,v.2.2,()),())]:AOK).length)*64<=140737488355328 then
 some ((e.length:Int),e++([(([]:AOz),v.1,(v.2.1,v.2.2,()),())]:AOK),Ch APr APr g i (e.length:Int))
 else none
 else
 some (j,e,g)
theorem AqI a d b e g i j k l n o q:AY vz 5 16 (cd f112 244) 462 (AoU a d b e g i j k l n o q) (Gi a d b e g i j k l n o q) (Ann a d b e g i j k l n o q):=by
 unfold AY;simp(disch:=refine id ?_;kernel_rfl) only[Gi,AOi,Bc (AqH ..) (K:=UH vz 5 16)];kernel_rfl
def Ij(a b d:Int)(x y:AOz)(a1:APh)(b1:AOD)(e:AOK)(g:APl):APJ ((Int×AOz×AOz×APh×AOD×AOK×APl)⊕APo):=
 bif decide (d<b)then
 (Ep a d x y a1 b1).bind λc1=>(Gi a d b e g c1.1 (Bn APr APr g c1.1) (S5 APr APr g c1.1) c1.2.1 c1.2.2.1 c1.2.2.2.1 c1.2.2.2.2).bind λs=>if(0:Int)<=s.1/\s.1<(s.2.1.length:Int)then
 if((s.2.1.getD s.1.toNat Ao.zero).1.length+([d]:AOz).length)*8<=140737488355328 then
 if(0:Int)<=s.1/\s.1<(s.2.1.length:Int)then
 if s.1=s.1 then
 some (.inl (wI (d+1),c1.2.1,c1.2.2.1,c1.2.2.2.1,c1.2.2.2.2,s.2.1.set s.1.toNat ((s.2.1.getD s.1.toNat Ao.zero).1++([d]:AOz),(s.2.1.getD s.1.toNat Ao.zero).2),s.2.2))
 else none
 else none
 else none
 else none
 else
 some (.inr (x,y,a1,b1,e))
def EJ a b (z_:Int×AOz×AOz×APh×AOD×AOK×APl):=Ij a b z_.1 z_.2.1 z_.2.2.1 z_.2.2.2.1 z_.2.2.2.2.1 z_.2.2.2.2.2.1 z_.2.2.2.2.2.2
def JE a b d x y a1 b1 e g:=fix (EJ a b) (d,x,y,a1,b1,e,g)
theorem AqJ a b:A4 vz 5 4 (code f112) 122 (AoV a b) (EJ a b) (Ano a b):=by
 intro _;simp(disch:=refine id ?_;kernel_rfl) only[-eq_self,EJ,Ij,AOi,Bc (AqI ..) (K:=KJ vz 5 4)];kernel_rfl
def F5(a b:Int)(d1 e1:AOz)(g1:APh)(i1:AOD):APJ APo:=
 (JE a b 0 d1 e1 g1 i1 ([]:AOK) ([]:APH AOY)).bind λc=>some (c.1,c.2.1,c.2.2.1,c.2.2.2.1,c.2.2.2.2)
def AAM:=Cx [.WH,.d APr] [⟨[.ptr 0 [] 0,.AB [] APr],[.box (.pr (.k F8) (.pr (.k UC) (.pr (.k (.mp 3)) (.pr (.k KB) (.k .u))))),.row 2 .Aw APr,.row 2 .Aw APr,.map (.sh []) APr Ah,.row 204 .Aw Ab],APo,λp=>F5 p.1.1 p.1.2.1 p.2.2.1 p.2.2.2.1 p.2.2.2.2.1 p.2.2.2.2.2.1,λr=>(.AG 5,[.box cr,AA r.1,AA r.2.1,Jn r.2.2.1 none,C4 r.2.2.2.1,ER r.2.2.2.2])⟩]
theorem AdE:Aq prog 112 AAM:=Av (fn:=f112) ⟨⟨vz,pk ⟨gP,rK,trivial⟩,λ_ R K=>by
 simp(disch:=refine id ?_;kernel_rfl) only[F5,AOj,JE,AH (AqJ _ _) (K:=A2 vz f112 5 R K)];kernel_rfl⟩,trivial⟩
abbrev vA:=eN [(109,AAJ),(110,AAK),(111,AAL),(112,AAM)] {A8:=[(4,{Bb:=[0,2,3,4,25,26,27],Cg:=[(4,true,.row [3] 204 Ab true)]}),(8,{Bb:=[0,2,3,4,6,25,26,27,37,38,39],Cg:=[(4,true,.row [3] 204 Ab true)]})],BW:=[(4,[0,2,3,4]),(8,[0,2,3,4,25,26,27])],BS:=[(15,{Bb:=[0,2,3,4,25,26,27],Cg:=[(4,true,.row [3] 204 Ab true)]})],DD:=[(15,[0,2,3,4,25,26,27])],jw:=[(0,.row [1] 150 Ao true),(0,.row [2] 2 APr true)]}
def AoY(a:Int) b (c:Int) d (z_:Int×AOE×AOG×APm×AON×AOD×APi×AOz×AOz×APh×AOD):=sT 67 (nE a c b d z_.1) (u7 z_.2.1 z_.2.2.1 z_.2.2.2.1 z_.2.2.2.2.1 z_.2.2.2.2.2.1 z_.2.2.2.2.2.2.1 z_.2.2.2.2.2.2.2.1 z_.2.2.2.2.2.2.2.2.1 z_.2.2.2.2.2.2.2.2.2.1 z_.2.2.2.2.2.2.2.2.2.2)
def Anr(a:Int)(b:AOG)(c d:Int):=Sum.elim (λ(e:APp)=>xR 67 [(0,.ptr 0 a [] 0),(2,NH),(3,WU),(4,.ptr 7 c [] 0)] (AhP e.1 e.2.1 e.2.2.1 e.2.2.2.1 e.2.2.2.2.1 e.2.2.2.2.2.1 e.2.2.2.2.2.2.1 e.2.2.2.2.2.2.2.1 e.2.2.2.2.2.2.2.2.1 e.2.2.2.2.2.2.2.2.2.1 e.2.2.2.2.2.2.2.2.2.2)) (λ(g:APq)=>xE 0 67 [(0,.ptr 0 a [] 0),(2,NH),(3,WU),(4,.ptr 7 c [] 0)] (u7 g.1 g.2.1 g.2.2.1 g.2.2.2.1 g.2.2.2.2.1 g.2.2.2.2.2.1 g.2.2.2.2.2.2.1 g.2.2.2.2.2.2.2.1 g.2.2.2.2.2.2.2.2.1 g.2.2.2.2.2.2.2.2.2))
def AoX(a c:Int) b d i j k l n o (q:APi) s t (u:APh) v:=sT 67 (nE a c b d i) (u7 j k l n o q s t u v)
def Anq(a c:Int) b d i (j:AOE) (k:AOG) (l:APm) (n:AON) (o:AOD) (q:APi) (s:AOz) (t:AOz) (u:APh) (v:AOD):=Sum.elim (λ(w:APq)=>xN 67 (nE a c b d i) (u7 w.1 w.2.1 w.2.2.1 w.2.2.2.1 w.2.2.2.2.1 w.2.2.2.2.2.1 w.2.2.2.2.2.2.1 w.2.2.2.2.2.2.2.1 w.2.2.2.2.2.2.2.2.1 w.2.2.2.2.2.2.2.2.2)) (λ(x:APp)=>xR 67 (nE a c b d i) (AhP x.1 x.2.1 x.2.2.1 x.2.2.2.1 x.2.2.2.2.1 x.2.2.2.2.2.1 x.2.2.2.2.2.2.1 x.2.2.2.2.2.2.2.1 x.2.2.2.2.2.2.2.2.1 x.2.2.2.2.2.2.2.2.2.1 x.2.2.2.2.2.2.2.2.2.2))
def AoW(a c:Int) b d i y a1 b1 c1 d1 e1 g1 (i1:APi) j1 (z_:Int×AOz×AOz×APh×AOD):=sT 67 [(0,.ptr 0 a [] 0),(2,NH),(3,WU),(4,.ptr 7 c [] 0),(6,qK),(25,Bo b),(26,dI d),(27,dI i),(37,YV y),(38,dI a1),(39,dI z_.1)] [.box (.pr (Au b1) (.pr (Bo c1) AhT)),CP d1,Dh e1,Ck g1,Hd i1 none,.box cu,.box (.pr Yf u9),.box Al4,.box (cf j1),AA z_.2.1,AA z_.2.2.1,Jn z_.2.2.2.1 none,C4 z_.2.2.2.2]
def Anp(a c:Int) b d i (y:AOL) (a1:Int) b1 c1 d1 e1 g1 (i1:APi) (j1:AOp):=Sum.elim (λ(k1:(AOz×AOz×AOz×APh×AOD))=>xR 67 (nE a c b d i) (AhP b1 c1 d1 e1 g1 i1 k1.1 k1.2.1 k1.2.2.1 k1.2.2.2.1 k1.2.2.2.2)) (λ(l1:(AOz×AOz×APh×AOD))=>xE 2 67 (nE a c b d i) (u7 b1 c1 d1 e1 g1 i1 l1.1 l1.2.1 l1.2.2.1 l1.2.2.2))
def Dt(a c:Int)(b:AOG)(d i:Int)(y:AOL)(a1:Int)(b1:AOE)(c1:AOG)(d1:APm)(e1:AON)(g1:AOD)(i1:APi)(j1:AOp)(n1:Int)(o1 q1:AOz)(s1:APh)(t1:AOD):APJ ((Int×AOz×AOz×APh×AOD)⊕((AOz×AOz×AOz×APh×AOD)⊕(AOz×AOz×APh×AOD))):=
 bif decide (n1<a1)then
 if 0<=n1/\n1<y.length then
 (I3 c (y.getD n1.toNat Ap.zero) j1.1 o1 q1 s1 t1).bind λu1=>bif !u1.1 then
 some (.inr (.inl (u1.2.2.1,u1.2.2.2.1,u1.2.2.2.2.1,u1.2.1,u1.2.2.2.2.2)))
 else
 some (.inl (wI (n1+1),u1.2.2.2.1,u1.2.2.2.2.1,u1.2.1,u1.2.2.2.2.2))
 else none
 else
 some (.inr (.inr (o1,q1,s1,t1)))
def CB a c b d i y a1 b1 c1 d1 e1 g1 i1 j1 (z_:Int×AOz×AOz×APh×AOD):=Dt a c b d i y a1 b1 c1 d1 e1 g1 i1 j1 z_.1 z_.2.1 z_.2.2.1 z_.2.2.2.1 z_.2.2.2.2
def Dc a c b d i y a1 b1 c1 d1 e1 g1 i1 j1 n1 o1 q1 s1 t1:=fix (CB a c b d i y a1 b1 c1 d1 e1 g1 i1 j1) (n1,o1,q1,s1,t1)
theorem AqK a c b d i y a1 b1 c1 d1 e1 g1 i1 j1:A4 vA 5 8 (sb (cd f73 244) 14) 46 (AoW a c b d i y a1 b1 c1 d1 e1 g1 i1 j1) (CB a c b d i y a1 b1 c1 d1 e1 g1 i1 j1) (Anp a c b d i y a1 b1 c1 d1 e1 g1 i1 j1):=by
 intro _;simp only[CB,Dt,AOi];kernel_rfl
def Dd(a c:Int)(b:AOG)(d i:Int)(j:AOE)(k:AOG)(l:APm)(n:AON)(o:AOD)(q:APi)(s t:AOz)(u:APh)(v:AOD):APJ (APq⊕APp):=
 if 0<=i/\i<b.length then
 bif !(b.getD i.toNat Af.zero).2.1 then
 some (.inl (j,k,l,n,o,q,s,t,u,v))
 else
 (HV a i j k l n o q).bind λv1=>(Dc a c b d i v1.1 (v1.1.length:Int) v1.2.1 v1.2.2.1 v1.2.2.2.1 v1.2.2.2.2.1 v1.2.2.2.2.2.1 v1.2.2.2.2.2.2 (b.getD i.toNat Af.zero) 0 s t u v).bind (Sum.elim (λk1=>some (.inr (v1.2.1,v1.2.2.1,v1.2.2.2.1,v1.2.2.2.2.1,v1.2.2.2.2.2.1,v1.2.2.2.2.2.2,k1.1,k1.2.1,k1.2.2.1,k1.2.2.2.1,k1.2.2.2.2))) (λl1=>some (.inl (v1.2.1,v1.2.2.1,v1.2.2.2.1,v1.2.2.2.2.1,v1.2.2.2.2.2.1,v1.2.2.2.2.2.2,l1.1,l1.2.1,l1.2.2.1,l1.2.2.2))))
 else none
theorem AqL a c b d i j k l n o q s t u v:AY vA 5 15 (cd f73 244) 14 (AoX a c b d i j k l n o q s t u v) (Dd a c b d i j k l n o q s t u v) (Anq a c b d i j k l n o q s t u v):=by
 unfold AY;simp(disch:=refine id ?_;kernel_rfl) only[Dd,AOi,Dc,AH (AqK _ _ _ _ _ _ _ _ _ _ _ _ _ _) (K:=UH vA 5 15)];kernel_rfl
def CF(a:Int)(b:AOG)(c d i:Int)(j:AOE)(k:AOG)(l:APm)(n:AON)(o:AOD)(q:APi)(s t:AOz)(u:APh)(v:AOD):APJ ((Int×AOE×AOG×APm×AON×AOD×APi×AOz×AOz×APh×AOD)⊕(APp⊕APq)):=
 bif decide (i<d)then
 (Dd a c b d i j k l n o q s t u v).bind (Sum.elim (λw=>some (.inl (wI (i+1),w.1,w.2.1,w.2.2.1,w.2.2.2.1,w.2.2.2.2.1,w.2.2.2.2.2.1,w.2.2.2.2.2.2.1,w.2.2.2.2.2.2.2.1,w.2.2.2.2.2.2.2.2.1,w.2.2.2.2.2.2.2.2.2))) (λx=>some (.inr (.inl (x.1,x.2.1,x.2.2.1,x.2.2.2.1,x.2.2.2.2.1,x.2.2.2.2.2.1,x.2.2.2.2.2.2.1,x.2.2.2.2.2.2.2.1,x.2.2.2.2.2.2.2.2.1,x.2.2.2.2.2.2.2.2.2.1,x.2.2.2.2.2.2.2.2.2.2)))))
 else
 some (.inr (.inr (j,k,l,n,o,q,s,t,u,v)))
def B8 a b c d (z_:Int×AOE×AOG×APm×AON×AOD×APi×AOz×AOz×APh×AOD):=CF a b c d z_.1 z_.2.1 z_.2.2.1 z_.2.2.2.1 z_.2.2.2.2.1 z_.2.2.2.2.2.1 z_.2.2.2.2.2.2.1 z_.2.2.2.2.2.2.2.1 z_.2.2.2.2.2.2.2.2.1 z_.2.2.2.2.2.2.2.2.2.1 z_.2.2.2.2.2.2.2.2.2.2
def Cw a b c d i j k l n o q s t u v:=fix (B8 a b c d) (i,j,k,l,n,o,q,s,t,u,v)
theorem AqM a b c d:A4 vA 5 4 (code f73) 122 (AoY a b c d) (B8 a b c d) (Anr a b c d):=by
 intro _;simp(disch:=refine id ?_;kernel_rfl) only[B8,CF,AOi,Bc (AqL ..) (K:=KJ vA 5 4)];kernel_rfl
def G0(a:Int)(w1:AOE)(b:AOG)(x1:APm)(y1:AON)(a2:AOD)(b2:APi):APJ (AOE×AOG×APm×AON×AOD×APi×AOK×AOz):=
 (L8 (a2.length:Int)).bind λc2=>(Cw a b c2.1 (b.length:Int) 0 w1 b x1 y1 a2 b2 c2.2.1 c2.2.2.1 c2.2.2.2 ([]:AOD)).bind (Sum.elim (λe=>some (e.1,e.2.1,e.2.2.1,e.2.2.2.1,e.2.2.2.2.1,e.2.2.2.2.2.1,([]:AOK),e.2.2.2.2.2.2.1)) (λg=>(F5 c2.1 (g.2.2.2.2.1.length:Int) g.2.2.2.2.2.2.1 g.2.2.2.2.2.2.2.1 g.2.2.2.2.2.2.2.2.1 g.2.2.2.2.2.2.2.2.2).bind λd2=>some (g.1,g.2.1,g.2.2.1,g.2.2.2.1,g.2.2.2.2.1,g.2.2.2.2.2.1,d2.2.2.2.2,([]:AOz))))
def c73:=Cx [.WH] [⟨[.ptr 0 [] 0],[.box (.pr (.AB [] APx) (.pr (.AB [] APz) (.pr (.k F8) (.pr (.pr (.k UC) (.k .u)) (.pr (.k (.AG 3)) (.pr (.k (.mp 4)) (.k .u))))))),.row 222 .Aw (.AE APu (.AE APu .unit)),.row 78 .Aw APw,.row 152 .Aw Ab,.map .Aw Aa APr],AOE×AOG×APm×AON×AOD×APi×AOK×AOz,λp=>G0 p.1.1 p.2.1.1 p.2.1.2.1 p.2.2.1 p.2.2.2.1 p.2.2.2.2.1 p.2.2.2.2.2.1,λr=>(.pr Yf AkE,[.box (.pr (Au r.1) (.pr (Bo r.2.1) AhT)),CP r.2.2.1,Dh r.2.2.2.1,Ck r.2.2.2.2.1,Hd r.2.2.2.2.2.1 none,ER r.2.2.2.2.2.2.1,AA r.2.2.2.2.2.2.2])⟩]
theorem Ai7:Aq prog 73 c73:=Av (fn:=f73) ⟨⟨vA,pk ⟨AdB,AdC,AdD,AdE,trivial⟩,λ_ R K=>by
 simp(disch:=refine id ?_;kernel_rfl) only[G0,AOj,Cw,AH (AqM _ _ _ _) (K:=A2 vA f73 5 R K)];kernel_rfl⟩,trivial⟩
abbrev AEg:=eN [] {}
def Ii(a:AOr)(b:Int):APJ Int:=
 if 0<=(wI (Int.tdiv b 64))/\(wI (Int.tdiv b 64))<a.2.1.length then
 if(Int.tmod b 64)<(0:Int)then none else
 some (fa .u64 (Ro .u64 (a.2.1.getD (wI (Int.tdiv b 64)).toNat APs.zero) (Int.tmod b 64)) 1)
 else none
def c74:=Cx [.d Ah,.d APr] [⟨[.AB [] Ah,.AB [] APr],[],Int,λp=>Ii p.1.1 p.1.2.1,λr=>(dD APs r,[])⟩]
theorem yC:Aq prog 74 c74:=Av (fn:=f74) ⟨⟨AEg,pk trivial,λ_ R K=>by
 simp only[Ii,AOj];kernel_rfl⟩,trivial⟩
abbrev gn:=eN [(74,c74)] {Af4:=[(79,90)],A8:=[(3,[0,3,5,24,25,26]),(8,[0,5,39,40,41]),(11,[0,5,8,9,39,40,41,47,48,49]),(15,[0,5,8,9,12,39,40,41,47,48,49,61,62])],BW:=[(3,[0,3,5]),(8,[5]),(11,[0,5,39,40,41]),(15,[0,5,8,9,39,40,41,47,48,49])],BS:=[(20,[0,5,8,9,12,13,14,39,40,41,47,48,49,61,62])],DD:=[(20,[0,5,8,9,12,13,14,39,40,41,47,48,49,61,62])]}
def Ao3(a:Int) b c d e g i j (k:APi) l (z_:Int×AOR):=sT 90 [(0,.ptr 0 a [] 0),(5,.AG 7),(39,.AG 2),(40,dI l),(41,dI z_.1)] (AhQ b c d e g i j k z_.2)
def Anw(a:Int) b c d e g i j (k:APi) (l:Int):=λ(n:AOR)=>xE 2 90 [(5,.AG 7)] (AhQ b c d e g i j k n)
def Ao2(a:Int) o l b c d e g i j (k:APi) q s t (z_:Int×AOR):=sT 90 (AlY a o l o q s z_.1) [.box (.pr (Au b) (.pr (Bo c) qM)),Dh d,ER e,AA g,CP i,Ck j,Hd k none,TH z_.2,.box (.AB [2] Ao t)]
def Anv(a:Int) o l b c d e g i j (k:APi) (q:AOz) (s:Int) (t:AOv):=λ(u:AOR)=>xE 4 90 [(0,.ptr 0 a [] 0),(5,.AG 7),(39,.AG 2),(40,dI l),(41,dI o)] (AhQ b c d e g i j k u)
def Ao1(a:Int) o l q s v b c d e g i j (k:APi) t w x (z_:Int×AOR):=sT 90 [(0,.ptr 0 a [] 0),(5,.AG 7),(8,dI o),(9,qK),(12,.ptr 9 0 [] 0),(39,.AG 2),(40,dI l),(41,dI o),(47,.AB [2] APw q),(48,dI s),(49,dI v),(61,dI w),(62,dI z_.1)] [.box (.pr (Au b) (.pr (Bo c) qM)),Dh d,ER e,AA g,CP i,Ck j,Hd k none,TH z_.2,.box (.AB [2] Ao t),.box (Ei x)]
def Anu(a:Int) o l q s v b c d e g i j (k:APi) t (w:Int) (x:AOm):=λ(y:AOR)=>xE 6 90 (AlY a o l o q s v) [.box (.pr (Au b) (.pr (Bo c) qM)),Dh d,ER e,AA g,CP i,Ck j,Hd k none,TH y,.box (.AB [2] Ao t)]
def Ao0(a:Int) o a1 l q s v w b c d e g i j (k:APi) b1 t x:=sT 90 (AlZ a o a1 l o q s v w a1) [.box (.pr (Au b) (.pr (Bo c) qM)),Dh d,ER e,AA g,CP i,Ck j,Hd k none,TH b1,.box (.AB [2] Ao t),.box (Ei x),.box (.pr (dI o) (.pr (dI a1) (.pr (dD APs 0) .u)))]
def Ant(a:Int) o a1 l q s v w b c d e g i j (k:APi) b1 t x:=λ(c1:(Int×Int×Int))=>xN 90 (AlZ a o a1 l o q s v w a1) [.box (.pr (Au b) (.pr (Bo c) qM)),Dh d,ER e,AA g,CP i,Ck j,Hd k none,TH b1,.box (.AB [2] Ao t),.box (Ei x),.box (.pr (dI c1.1) (.pr (dI c1.2.1) (.pr (dD APs c1.2.2) .u)))]
def IA(a o a1 l:Int)(q:AOz)(s v w:Int)(b:AOE)(c:AOG)(d:AON)(e:AOK)(g:AOz)(i:APm)(j:AOD)(k:APi)(b1:AOR)(t:AOv)(x:AOm):APJ (Int×Int×Int):=
 bif t.2.1 then
 (Ii t.2.2.1 a1).bind λd1=>some (-1,0,d1)
 else
 some (o,a1,0)
theorem AqO a o a1 l q s v w b c d e g i j k b1 t x:AY gn 7 20 (sb (sb (cd f37 244) 460) 924) 230 (Ao0 a o a1 l q s v w b c d e g i j k b1 t x) (IA a o a1 l q s v w b c d e g i j k b1 t x) (Ant a o a1 l q s v w b c d e g i j k b1 t x):=by
 unfold AY;simp only[IA,AOi];kernel_rfl
def KU(a o l:Int)(q:AOz)(s v:Int)(b:AOE)(c:AOG)(d:AON)(e:AOK)(g:AOz)(i:APm)(j:AOD)(k:APi)(t:AOv)(w:Int)(x:AOm)(a1:Int)(b1:AOR):APJ ((Int×AOR)⊕AOR):=
 bif decide (a1<w)then
 (IA a o a1 l q s v w b c d e g i j k b1 t x).bind λc1=>if(0:Int)<=x.1/\x.1<(b1.length:Int)then
 if(0:Int)<=(wI (x.2.1+a1))/\(wI (x.2.1+a1))<(b1.getD x.1.toNat APC.zero).length then
 some (.inl (wI (a1+1),b1.set x.1.toNat ((b1.getD x.1.toNat APC.zero).set (wI (x.2.1+a1)).toNat (c1.1,c1.2.1,c1.2.2,()))))
 else none
 else none
 else
 some (.inr b1)
def Hl a o l q s v b c d e g i j k t w x (z_:Int×AOR):=KU a o l q s v b c d e g i j k t w x z_.1 z_.2
def IB a o l q s v b c d e g i j k t w x a1 b1:=fix (Hl a o l q s v b c d e g i j k t w x) (a1,b1)
theorem AqP a o l q s v b c d e g i j k t w x:A4 gn 7 15 (sb (cd f37 244) 460) 462 (Ao1 a o l q s v b c d e g i j k t w x) (Hl a o l q s v b c d e g i j k t w x) (Anu a o l q s v b c d e g i j k t w x):=by
 intro _;simp(disch:=refine id ?_;kernel_rfl) only[Hl,KU,AOi,Bc (AqO ..) (K:=KJ gn 7 15)];kernel_rfl
def KV(a o l:Int)(b:AOE)(c:AOG)(d:AON)(e:AOK)(g:AOz)(i:APm)(j:AOD)(k:APi)(q:AOz)(s:Int)(t:AOv)(v:Int)(e1:AOR):APJ ((Int×AOR)⊕AOR):=
 bif decide (v<s)then
 if 0<=v/\v<q.length then
 if(0:Int)<=(q.getD v.toNat APr.zero)/\(q.getD v.toNat APr.zero)<(j.length:Int)then
 (IB a o l q s v b c d e g i j k t (j.getD (q.getD v.toNat APr.zero).toNat Ab.zero).2.2.1 (j.getD (q.getD v.toNat APr.zero).toNat Ab.zero) 0 e1).bind λy=>some (.inl (wI (v+1),y))
 else none
 else none
 else
 some (.inr e1)
def Hm a o l b c d e g i j k q s t (z_:Int×AOR):=KV a o l b c d e g i j k q s t z_.1 z_.2
def Ny a o l b c d e g i j k q s t v e1:=fix (Hm a o l b c d e g i j k q s t) (v,e1)
theorem AqQ a o l b c d e g i j k q s t:A4 gn 7 11 (cd f37 244) 230 (Ao2 a o l b c d e g i j k q s t) (Hm a o l b c d e g i j k q s t) (Anv a o l b c d e g i j k q s t):=by
 intro _;simp(disch:=refine id ?_;kernel_rfl) only[Hm,KV,AOi,IB,AH (AqP _ _ _ _ _ _ _ _ _ _ _ _ _ _ _ _ _) (K:=KJ gn 7 11)];kernel_rfl
def KW(a:Int)(b:AOE)(c:AOG)(d:AON)(e:AOK)(g:AOz)(i:APm)(j:AOD)(k:APi)(l o:Int)(g1:AOR):APJ ((Int×AOR)⊕AOR):=
 bif decide (o<l)then
 if 0<=o/\o<e.length then
 (Ny a o l b c d e g i j k (e.getD o.toNat Ao.zero).1 ((e.getD o.toNat Ao.zero).1.length:Int) (e.getD o.toNat Ao.zero) 0 g1).bind λu=>some (.inl (wI (o+1),u))
 else none
 else
 some (.inr g1)
def Hn a b c d e g i j k l (z_:Int×AOR):=KW a b c d e g i j k l z_.1 z_.2
def Nz a b c d e g i j k l o g1:=fix (Hn a b c d e g i j k l) (o,g1)
theorem AqR a b c d e g i j k l:A4 gn 7 8 (code f37) 122 (Ao3 a b c d e g i j k l) (Hn a b c d e g i j k l) (Anw a b c d e g i j k l):=by
 intro _;simp(disch:=refine id ?_;kernel_rfl) only[Hn,KW,AOi,Ny,AH (AqQ _ _ _ _ _ _ _ _ _ _ _ _ _ _) (K:=KJ gn 7 8)];kernel_rfl
def AoZ(a:Int) b c d e g i j (k:APi) i1 (z_:Int×AOR):=sT 90 [(0,.ptr 0 a [] 0),(3,.ptr 7 0 [] 0),(5,.AG 8),(24,Au b),(25,dI i1),(26,dI z_.1)] [.box (.pr (Au b) (.pr (Bo c) qM)),Dh d,ER e,AA g,CP i,Ck j,Hd k none,.box (.pr (.pr F8 .u) nF),TH z_.2]
def Ans(a:Int) b c d e g i j (k:APi) (i1:Int):=λ(j1:AOR)=>xE 0 90 [(0,.ptr 0 a [] 0),(3,.ptr 7 0 [] 0),(5,.AG 8)] [.box (.pr (Au b) (.pr (Bo c) qM)),Dh d,ER e,AA g,CP i,Ck j,Hd k none,.box (.pr (.pr F8 .u) nF),TH j1]
def KT(a:Int)(b:AOE)(c:AOG)(d:AON)(e:AOK)(g:AOz)(i:APm)(j:AOD)(k:APi)(i1 k1:Int)(l1:AOR):APJ ((Int×AOR)⊕AOR):=
 bif decide (k1<i1)then
 if 0<=k1/\k1<b.length then
 if Ty.row Ak=true/\(0:Int)<=(b.getD k1.toNat Ad.zero).2.1/\(b.getD k1.toNat Ad.zero).2.1<=(b.getD k1.toNat Ad.zero).2.1/\((24:Nat):Int)*(b.getD k1.toNat Ad.zero).2.1<=(281474976710656:Int)/\(b.getD k1.toNat Ad.zero).2.1<=(9223372036854775807:Int)then
 if 0<=k1/\k1<l1.length then
 some (.inl (wI (k1+1),l1.set k1.toNat (List.replicate (b.getD k1.toNat Ad.zero).2.1.toNat (0,0,0,()))))
 else none
 else none
 else none
 else
 some (.inr l1)
def Hk a b c d e g i j k i1 (z_:Int×AOR):=KT a b c d e g i j k i1 z_.1 z_.2
def Nx a b c d e g i j k i1 k1 l1:=fix (Hk a b c d e g i j k i1) (k1,l1)
theorem AqN a b c d e g i j k i1:A4 gn 7 3 (code f37) 58 (AoZ a b c d e g i j k i1) (Hk a b c d e g i j k i1) (Ans a b c d e g i j k i1):=by
 intro _;simp only[Hk,KT,AOi];kernel_rfl
def I2(a:Int)(b:AOE)(c:AOG)(d:AON)(e:AOK)(g:AOz)(i:APm)(j:AOD)(k:APi):APJ (AOE×AOG×AON×AOK×AOz×APm×AOD×APi×AOR):=
 if Ty.row APC=true/\(0:Int)<=(b.length:Int)/\(b.length:Int)<=(b.length:Int)/\((24:Nat):Int)*(b.length:Int)<=(281474976710656:Int)/\(b.length:Int)<=(9223372036854775807:Int)then
 (Nx a b c d e g i j k (b.length:Int) 0 (List.replicate (b.length:Int).toNat ([]:AOJ))).bind λj1=>(Nz a b c d e g i j k (e.length:Int) 0 j1).bind λn=>some (b,c,d,e,g,i,j,k,n)
 else none
def c37:=Cx [.WH,.WH] [⟨[.ptr 0 [] 0,.pr (.pr (.k F8) (.k .u)) (.pr (.k UC) (.pr (.k (.AG 3)) (.k .u)))],[.box (.pr (.AB [] APx) (.pr (.AB [] APz) (.pr (.k KB) (.pr (.pr (.k F8) (.k .u)) (.pr (.k (.AG 5)) (.pr (.k (.mp 6)) (.k .u))))))),.row 78 .Aw APw,.row 150 .Aw Ao,.row 2 .Aw APr,.row 222 .Aw (.AE APu (.AE APu .unit)),.row 152 .Aw Ab,.map .Aw Aa APr],AOE×AOG×AON×AOK×AOz×APm×AOD×APi×AOR,λp=>I2 p.1.1 p.2.1.1 p.2.1.2.1 p.2.2.1 p.2.2.2.1 p.2.2.2.2.1 p.2.2.2.2.2.1 p.2.2.2.2.2.2.1 p.2.2.2.2.2.2.2.1,λr=>(.AG 7,[.box (.pr (Au r.1) (.pr (Bo r.2.1) qM)),Dh r.2.2.1,ER r.2.2.2.1,AA r.2.2.2.2.1,CP r.2.2.2.2.2.1,Ck r.2.2.2.2.2.2.1,Hd r.2.2.2.2.2.2.2.1 none,TH r.2.2.2.2.2.2.2.2])⟩]
theorem AiR:Aq prog 37 c37:=Av (fn:=f37) ⟨⟨gn,pk ⟨yC,trivial⟩,λ_ R K=>by
 simp(disch:=refine id ?_;kernel_rfl) only[I2,AOj,Nx,AH (AqN _ _ _ _ _ _ _ _ _ _) (K:=A2 gn f37 7 R K),Nz,AH (AqR _ _ _ _ _ _ _ _ _ _) (K:=A2 gn f37 7 R K)];kernel_rfl⟩,trivial⟩
abbrev vB:=eN [(74,c74)] {A8:=[(3,{Bb:=[1,5,10,11,12],Cg:=[(5,false,.row [] 90 Ak true)]}),(6,{Bb:=[1,5,7,10,11,12,17,18],Cg:=[(5,false,.row [] 90 Ak true)]})],BW:=[(3,[5]),(6,[1,5,10,11,12])],BS:=[(11,[1,5,7,10,11,12,17,18])],DD:=[(11,[1,5,7,10,11,12,17,18])]}
def Ao6 a b c (z_:Int×AOJ):=sT 49 [(1,qI a),(5,.AG 0),(10,Cc b),(11,dI c),(12,dI z_.1)] [WX z_.2]
def AnA(a:AOR)(b:AOF)(c:Int):=λ(d:AOJ)=>xE 0 49 [(5,.AG 0)] [WX d]
def Ao5 a b c e g i (z_:Int×AOJ):=sT 49 (AhR a b c e g z_.1) [WX z_.2,.box (Kn i)]
def Anz a b c e (g:Int) (i:AOo):=λ(j:AOJ)=>xE 2 49 [(1,qI a),(5,.AG 0),(10,Cc b),(11,dI c),(12,dI e)] [WX j]
def Ao4 a b c e g k l i:=sT 49 (AhR a b c e g k) [WX l,.box (Kn i)]
def Anx a b c e g k (l:AOJ) i:=λ(n:AOJ)=>xN 49 (AhR a b c e g k) [WX n,.box (Kn i)]
def Oh(a:AOR)(b:AOF)(c e g k:Int)(l:AOJ)(i:AOo):APJ AOJ:=
 bif i.1==(-1)then
 (Ii i.2.2.2.1 k).bind λo=>if(l.length+([(-1,0,o,())]:AOJ).length)*24<=140737488355328 then
 some (l++([(-1,0,o,())]:AOJ))
 else none
 else
 if(0:Int)<=i.1/\i.1<(a.length:Int)then
 if 0<=(wI (i.2.1+k))/\(wI (i.2.1+k))<(a.getD i.1.toNat APC.zero).length then
 if(l.length+([(a.getD i.1.toNat APC.zero).getD (wI (i.2.1+k)).toNat Ak.zero]:AOJ).length)*24<=140737488355328 then
 some (l++([(a.getD i.1.toNat APC.zero).getD (wI (i.2.1+k)).toNat Ak.zero]:AOJ))
 else none
 else none
 else none
theorem AqS a b c e g k l i:AY vB 0 11 (sb (cd f39 116) 460) 14 (Ao4 a b c e g k l i) (Oh a b c e g k l i) (Anx a b c e g k l i):=by
 unfold AY;simp only[Oh,AOi];kernel_rfl
def K9(a:AOR)(b:AOF)(c e g:Int)(i:AOo)(k:Int)(l:AOJ):APJ ((Int×AOJ)⊕AOJ):=
 bif decide (k<g)then
 (Oh a b c e g k l i).bind λn=>some (.inl (wI (k+1),n))
 else
 some (.inr l)
def Fp a b c e g i (z_:Int×AOJ):=K9 a b c e g i z_.1 z_.2
def SV a b c e g i k l:=fix (Fp a b c e g i) (k,l)
theorem AqT a b c e g i:A4 vB 0 6 (cd f39 116) 230 (Ao5 a b c e g i) (Fp a b c e g i) (Anz a b c e g i):=by
 intro _;simp(disch:=refine id ?_;kernel_rfl) only[Fp,K9,AOi,Bc (AqS ..) (K:=KJ vB 0 6)];kernel_rfl
def La(a:AOR)(b:AOF)(c e:Int)(q:AOJ):APJ ((Int×AOJ)⊕AOJ):=
 bif decide (e<c)then
 if 0<=e/\e<b.length then
 (SV a b c e (b.getD e.toNat Ae.zero).2.2.1 (b.getD e.toNat Ae.zero) 0 q).bind λj=>some (.inl (wI (e+1),j))
 else none
 else
 some (.inr q)
def DJ a b c (z_:Int×AOJ):=La a b c z_.1 z_.2
def SX a b c e q:=fix (DJ a b c) (e,q)
theorem AqU a b c:A4 vB 0 3 (code f39) 58 (Ao6 a b c) (DJ a b c) (AnA a b c):=by
 intro _;simp(disch:=refine id ?_;kernel_rfl) only[DJ,La,AOi,SV,AH (AqT _ _ _ _ _ _) (K:=KJ vB 0 3)];kernel_rfl
def MG(b:AOF)(a:AOR):APJ AOJ:=
 (SX a b (b.length:Int) 0 ([]:AOJ)).bind λd=>some d
def c39:=Cx [.d APu,.d (.sl APC)] [⟨[.AB [] APu,.AB [] (.sl APC)],[],AOJ,λp=>MG p.1.1 p.1.2.1,λr=>(.AG 0,[WX r])⟩]
theorem AiT:Aq prog 39 c39:=Av (fn:=f39) ⟨⟨vB,pk ⟨yC,trivial⟩,λ_ R K=>by
 simp(disch:=refine id ?_;kernel_rfl) only[MG,AOj,SX,AH (AqU _ _ _) (K:=A2 vB f39 0 R K)];kernel_rfl⟩,trivial⟩
abbrev Ame:=eN [] {A8:=[(4,[0,1,12,13])],BW:=[(4,[4])]}
def Ao7 a b c (z_:Int):=sT 26 [(0,dD APC a),(1,dD APC b),(12,dI c),(13,dI z_)] []
def AnB(a b:AOJ)(c:Int):=Sum.elim (λ(d:Unit)=>xR 26 fz []) (λ(e:Unit)=>xE 0 26 [] [])
def Qj(a b:AOJ)(c g:Int):APJ (Int⊕(Unit⊕Unit)):=
 bif decide (g<c)then
 if 0<=g/\g<a.length then
 if 0<=g/\g<b.length then
 bif !(Ns Ak (a.getD g.toNat Ak.zero) (b.getD g.toNat Ak.zero))then
 some (.inr (.inl ()))
 else
 some (.inl (wI (g+1)))
 else none
 else none
 else
 some (.inr (.inr ()))
def Gn a b c (z_:Int):=Qj a b c z_
def Sx a b c g:=fix (Gn a b c) g
theorem AqV a b c:A4 Ame 0 4 (code f38) 58 (Ao7 a b c) (Gn a b c) (AnB a b c):=by
 intro _;simp only[Gn,Qj,AOi];kernel_rfl
def Li(a b:AOJ):APJ Bool:=
 bif (a.length:Int) !=(b.length:Int)then
 some false
 else
 (Sx a b (a.length:Int) 0).bind (Sum.elim (λd=>some false) (λe=>some true))
def c38:=Cx [.d APC,.d APC] [⟨[.AB [] APC,.AB [] APC],[],Bool,λp=>Li p.1.1 p.1.2.1,λr=>(dB r,[])⟩]
theorem AiS:Aq prog 38 c38:=Av (fn:=f38) ⟨⟨Ame,pk trivial,λ_ R K=>by
 simp(disch:=refine id ?_;kernel_rfl) only[Li,AOj,Sx,AH (AqV _ _ _) (K:=A2 Ame f38 0 R K)];kernel_rfl⟩,trivial⟩
abbrev AtN:=eN [(105,Aix),(106,AAG),(107,AAH),(108,AAI)] {}
def c70:=Aba [.WH,.WH,.WH] AtN f70
theorem Ai4:Aq prog 70 c70:=fR (pk ⟨gO,Ady,Adz,AdA,trivial⟩)
abbrev AtM:=eN [(69,c69),(70,c70),(71,c71),(72,c72),(73,c73)] {cQ:=[(18,APz),(20,Am)]}
def c35:=Aba [.WH,.WH] AtM f35
theorem AiQ:Aq prog 35 c35:=fR (pk ⟨Ai3,Ai4,Ai5,Ai6,Ai7,trivial⟩)
abbrev nI:=eN [(33,c33),(34,c34),(35,c35),(36,c36),(37,c37),(38,c38),(39,c39)] {BS:=[(7,{Bb:=[10,12,14,15,16,56],RF:=[(10,false,APu),(12,false,APu)]})],DD:=[(7,[10,11,12,13,14,15,16])],cQ:=[(65,APC),(68,APC)]}
def Apb a b c d e g i j k (l:APi) n o:=sT 70 [(10,.AG 0),(11,dB a),(12,.AG 1),(13,dB b),(14,HC),(15,WV),(16,dI 0)] [Cf c,Cf d,.box (.pr (Au e) (.pr (Bo g) (.pr KB (.pr j8 (.pr (.AG 6) (.pr (.mp 7) .u)))))),.box (.pr j8 (.pr (.AG 8) (.pr (.AG 9) .u))),CP i,Dh j,Ck k,Hd l none,ER n,AA o]
def AnF(a b:Bool) c d e g i j k (l:APi) n o:=λ(q:Bool)=>xN 70 [(10,Cc c),(12,Cc d),(14,Ar),(15,A6),(16,dI 0),(56,dB q)] [.box (.pr (Au e) (.pr (Bo g) (.pr UC (.pr lg (.pr KB (.pr (.mp 5) .u)))))),.box (.pr lg (.pr (.AG 6) x7)),CP i,Dh j,Ck k,Hd l none,ER n,AA o]
def PX(a b:Bool)(c d:AOF)(e:AOE)(g:AOG)(i:APm)(j:AON)(k:AOD)(l:APi)(n:AOK)(o:AOz):APJ Bool:=
 bif !a then
 some true
 else
 bif !b then
 some true
 else
 (BL c).bind λs=>(BL d).bind λt=>bif s !=t then
 some true
 else
 some false
theorem AqZ a b c d e g i j k l n o:AY nI 0 7 (code f12) 252 (Apb a b c d e g i j k l n o) (PX a b c d e g i j k l n o) (AnF a b c d e g i j k l n o):=by
 unfold AY;simp only[PX,AOi];kernel_rfl
def Apa u v w x:=sT 70 [(10,.AG 0),(11,dB u),(12,.AG 1),(13,dB v),(14,.JU),(15,HC),(16,dI 2)] [Cf w,Cf x,.box cu]
def AnE(u v:Bool) w x:=λ(y:Bool)=>xN 70 [(10,Cc w),(12,Cc x),(14,.JU),(15,Ar),(16,dI 2),(56,dB y)] [.box cu]
def PW(u v:Bool)(w x:AOF):APJ Bool:=
 bif !u then
 some true
 else
 bif !v then
 some true
 else
 (BL w).bind λa1=>(BL x).bind λb1=>bif a1 !=b1 then
 some true
 else
 some false
theorem AqY u v w x:AY nI 0 7 (code f12) 252 (Apa u v w x) (PW u v w x) (AnE u v w x):=by
 unfold AY;simp only[PW,AOi];kernel_rfl
def Ao9 c1 d1 e1 g1:=sT 70 (Al0 c1 d1) [Cf e1,Cf g1,.box cu]
def AnD(c1 d1:Bool) e1 g1:=λ(i1:Unit)=>xN 70 (Al1 e1 g1) [.box cu]
def PV(c1 d1:Bool)(e1 g1:AOF):APJ Unit:=
 bif !c1 then
 some ()
 else
 bif !d1 then
 some ()
 else
 (BL e1).bind λj1=>(BL g1).bind λk1=>bif j1 !=k1 then
 some ()
 else
 some ()
theorem AqX c1 d1 e1 g1:AY nI 0 7 (code f12) 252 (Ao9 c1 d1 e1 g1) (PV c1 d1 e1 g1) (AnD c1 d1 e1 g1):=by
 unfold AY;simp only[PV,AOi];kernel_rfl
def Ao8 l1 n1 o1 q1:=sT 70 (Al0 l1 n1) [Cf o1,Cf q1,.box cu]
def AnC(l1 n1:Bool) o1 q1:=λ(s1:Unit)=>xN 70 (Al1 o1 q1) [.box cu]
def PU(l1 n1:Bool)(o1 q1:AOF):APJ Unit:=
 bif !l1 then
 some ()
 else
 bif !n1 then
 some ()
 else
 (BL o1).bind λt1=>(BL q1).bind λu1=>bif t1 !=u1 then
 some ()
 else
 some ()
theorem AqW l1 n1 o1 q1:AY nI 0 7 (code f12) 252 (Ao8 l1 n1 o1 q1) (PU l1 n1 o1 q1) (AnC l1 n1 o1 q1):=by
 unfold AY;simp only[PU,AOi];kernel_rfl
def V0(v1:AOE)(w1:AOG)(x1 y1:AOu):APJ (Bool×Int):=
 (Jz v1).bind λa2=>bif !a2 then
 some (false,1)
 else
 (Pl v1 x1).bind λb2=>(Pl v1 y1).bind λc2=>(K6 v1 w1).bind λd2=>bif !d2 then
 (PU b2.1 c2.1 b2.2 c2.2).bind λs1=>some (false,1)
 else
 (Kq w1).bind λe2=>(Sd v1).bind λg2=>(IZ v1 e2 (g2,())).bind λi2=>bif !i2.1 then
 (PV b2.1 c2.1 b2.2 c2.2).bind λi1=>some (false,1)
 else
 (OZ v1 e2).bind λj2=>(NZ v1 (i2.2,())).bind λk2=>(NU k2).bind λl2=>(G0 0 v1 e2 j2.2 i2.2 k2 l2).bind λn2=>bif decide ((n2.2.2.2.2.2.2.2.length:Int)>0)then
 (PW b2.1 c2.1 b2.2 c2.2).bind λy=>bif y then
 some (false,1)
 else
 some (false,2)
 else
 (PX b2.1 c2.1 b2.2 c2.2 n2.1 n2.2.1 n2.2.2.1 n2.2.2.2.1 n2.2.2.2.2.1 n2.2.2.2.2.2.1 n2.2.2.2.2.2.2.1 n2.2.2.2.2.2.2.2).bind λq=>bif q then
 some (false,1)
 else
 (I2 0 n2.1 n2.2.1 n2.2.2.2.1 n2.2.2.2.2.2.2.1 n2.2.2.2.2.2.2.2 n2.2.2.1 n2.2.2.2.2.1 n2.2.2.2.2.2.1).bind λo2=>(MG b2.2 o2.2.2.2.2.2.2.2.2).bind λq2=>(MG c2.2 o2.2.2.2.2.2.2.2.2).bind λs2=>(Li q2 s2).bind λt2=>some (t2,0)
def c12:=Cx [.d APx,.d APz,.d An,.d An] [⟨[.AB [] APx,.AB [] APz,.AB [] An,.AB [] An],[],Bool×Int,λp=>V0 p.1.1 p.1.2.1 p.1.2.2.1 p.1.2.2.2.1,λr=>(.cons (dB r.1) (.cons (dI r.2) .nil),[])⟩]
theorem Aiz:Aq prog 12 c12:=Av (fn:=f12) ⟨⟨nI,pk ⟨og,AiP,AiQ,oh,AiR,AiS,AiT,trivial⟩,λ_ R K=>by
 simp(disch:=refine id ?_;kernel_rfl) only[V0,AOj,Bc (AqW ..) (K:=A2 nI f12 0 R K),Bc (AqX ..) (K:=A2 nI f12 0 R K),Bc (AqY ..) (K:=A2 nI f12 0 R K),Bc (AqZ ..) (K:=A2 nI f12 0 R K)];kernel_rfl⟩,trivial⟩
abbrev Aty:=eN [] {}
def Ma(a b:AOn):Bool:=((!(!(Iu a.1 b.1)))&&((!(a.2.1 !=b.2.1))&&true))
theorem AEM R a b K:Sr Aty f40 R [cg a,cg b] [] K=K (dB (Ma a b)) []:=by
 refine .trans (b:=
 bif !(Iu a.1 b.1)then
 K (dB false) []
 else
 bif a.2.1 !=b.2.1 then
 K (dB false) []
 else
 K (dB true) []) (by kernel_rfl) ?_
 unfold Ma;cases (!(Iu a.1 b.1));cases (a.2.1 !=b.2.1);rfl;rfl;rfl
def c40:=Cx [.d Ad,.d Ad] [⟨[.AB [] Ad,.AB [] Ad],[],Bool,λp=>some (Ma p.1.1 p.1.2.1),λr=>(dB r,[])⟩]
theorem AiU:Aq prog 40 c40:=Av ⟨⟨Aty,pk trivial,λ_ _ _=>AEM ..⟩,trivial⟩
abbrev Amf:=eN [(40,c40)] {A8:=[(4,[0,1,5])],BW:=[(4,[4])]}
def Apc a b (z_:Int):=sT 27 [(0,Au a),(1,Au b),(5,dI z_)] []
def AnG(a b:AOE):=Sum.elim (λ(c:Unit)=>xR 27 fz []) (λ(d:Unit)=>xE 0 27 [] [])
def UU(a b:AOE)(e:Int):APJ (Int⊕(Unit⊕Unit)):=
 bif decide (e<(a.length:Int))then
 if 0<=e/\e<a.length then
 if 0<=e/\e<b.length then
 bif !(Ma (a.getD e.toNat Ad.zero) (b.getD e.toNat Ad.zero))then
 some (.inr (.inl ()))
 else
 some (.inl (wI (e+1)))
 else none
 else none
 else
 some (.inr (.inr ()))
def Ld a b (z_:Int):=UU a b z_
def Xa a b e:=fix (Ld a b) e
theorem Aq0 a b:A4 Amf 0 4 (code f13) 58 (Apc a b) (Ld a b) (AnG a b):=by
 intro _;simp only[Ld,UU,AOi];kernel_rfl
def Tw(a b:AOE):APJ Bool:=
 bif (a.length:Int) !=(b.length:Int)then
 some false
 else
 (Xa a b 0).bind (Sum.elim (λc=>some false) (λd=>some true))
def c13:=Cx [.d APx,.d APx] [⟨[.AB [] APx,.AB [] APx],[],Bool,λp=>Tw p.1.1 p.1.2.1,λr=>(dB r,[])⟩]
theorem AiC:Aq prog 13 c13:=Av (fn:=f13) ⟨⟨Amf,pk ⟨AiU,trivial⟩,λ_ R K=>by
 simp(disch:=refine id ?_;kernel_rfl) only[Tw,AOj,Xa,AH (Aq0 _ _) (K:=A2 Amf f13 0 R K)];kernel_rfl⟩,trivial⟩
abbrev Amg:=eN [] {A8:=[(4,[0,1,5])],BW:=[(4,[4])]}
def Apd a b (z_:Int):=sT 26 [(0,TG a),(1,TG b),(5,dI z_)] []
def AnH(a b:AOz):=Sum.elim (λ(c:Unit)=>xR 26 fz []) (λ(d:Unit)=>xE 0 26 [] [])
def Tl(a b:AOz)(e:Int):APJ (Int⊕(Unit⊕Unit)):=
 bif decide (e<(a.length:Int))then
 if 0<=e/\e<a.length then
 if 0<=e/\e<b.length then
 bif (a.getD e.toNat APs.zero) !=(b.getD e.toNat APs.zero)then
 some (.inr (.inl ()))
 else
 some (.inl (wI (e+1)))
 else none
 else none
 else
 some (.inr (.inr ()))
def IJ a b (z_:Int):=Tl a b z_
def UV a b e:=fix (IJ a b) e
theorem Aq1 a b:A4 Amg 0 4 (code f148) 58 (Apd a b) (IJ a b) (AnH a b):=by
 intro _;simp only[IJ,Tl,AOi];kernel_rfl
def P9(a b:AOz):APJ Bool:=
 bif (a.length:Int) !=(b.length:Int)then
 some false
 else
 (UV a b 0).bind (Sum.elim (λc=>some false) (λd=>some true))
def ABe:=Cx [.d APB,.d APB] [⟨[.AB [] APB,.AB [] APB],[],Bool,λp=>P9 p.1.1 p.1.2.1,λr=>(dB r,[])⟩]
theorem Ad7:Aq prog 148 ABe:=Av (fn:=f148) ⟨⟨Amg,pk trivial,λ_ R K=>by
 simp(disch:=refine id ?_;kernel_rfl) only[P9,AOj,UV,AH (Aq1 _ _) (K:=A2 Amg f148 0 R K)];kernel_rfl⟩,trivial⟩
abbrev AEi:=eN [(148,ABe)] {}
def Si(a b:AOr):APJ Bool:=
 bif a.1 !=b.1 then
 some false
 else
 (P9 a.2.1 b.2.1).bind λc=>bif !c then
 some false
 else
 some true
def AAN:=Cx [.d Ah,.d Ah] [⟨[.AB [] Ah,.AB [] Ah],[],Bool,λp=>Si p.1.1 p.1.2.1,λr=>(dB r,[])⟩]
theorem AdF:Aq prog 113 AAN:=Av (fn:=f113) ⟨⟨AEi,pk ⟨Ad7,trivial⟩,λ_ R K=>by
 simp only[Si,AOj];kernel_rfl⟩,trivial⟩
abbrev Amh:=eN [] {A8:=[(4,[0,1,5])],BW:=[(4,[4])]}
def Ape a b (z_:Int):=sT 26 [(0,DW a),(1,DW b),(5,dI z_)] []
def AnI(a b:AOz):=Sum.elim (λ(c:Unit)=>xR 26 fz []) (λ(d:Unit)=>xE 0 26 [] [])
def T3(a b:AOz)(e:Int):APJ (Int⊕(Unit⊕Unit)):=
 bif decide (e<(a.length:Int))then
 if 0<=e/\e<a.length then
 if 0<=e/\e<b.length then
 bif (a.getD e.toNat APr.zero) !=(b.getD e.toNat APr.zero)then
 some (.inr (.inl ()))
 else
 some (.inl (wI (e+1)))
 else none
 else none
 else
 some (.inr (.inr ()))
def JK a b (z_:Int):=T3 a b z_
def V3 a b e:=fix (JK a b) e
theorem Aq2 a b:A4 Amh 0 4 (code f48) 58 (Ape a b) (JK a b) (AnI a b):=by
 intro _;simp only[JK,T3,AOi];kernel_rfl
def RP(a b:AOz):APJ Bool:=
 bif (a.length:Int) !=(b.length:Int)then
 some false
 else
 (V3 a b 0).bind (Sum.elim (λc=>some false) (λd=>some true))
def c48:=Cx [.d APw,.d APw] [⟨[.AB [] APw,.AB [] APw],[],Bool,λp=>RP p.1.1 p.1.2.1,λr=>(dB r,[])⟩]
theorem AiX:Aq prog 48 c48:=Av (fn:=f48) ⟨⟨Amh,pk trivial,λ_ R K=>by
 simp(disch:=refine id ?_;kernel_rfl) only[RP,AOj,V3,AH (Aq2 _ _) (K:=A2 Amh f48 0 R K)];kernel_rfl⟩,trivial⟩
abbrev AEj:=eN [(48,c48),(113,AAN)] {}
def MK(a b:AOq):APJ Bool:=
 bif a.1 !=b.1 then
 some false
 else
 bif a.2.1 !=b.2.1 then
 some false
 else
 bif a.2.2.1 !=b.2.2.1 then
 some false
 else
 bif a.2.2.2.1 !=b.2.2.2.1 then
 some false
 else
 (Si a.2.2.2.2.1 b.2.2.2.2.1).bind λc=>bif !c then
 some false
 else
 (RP a.2.2.2.2.2.1 b.2.2.2.2.2.1).bind λd=>bif !d then
 some false
 else
 some true
def c75:=Cx [.d Ag,.d Ag] [⟨[.AB [] Ag,.AB [] Ag],[],Bool,λp=>MK p.1.1 p.1.2.1,λr=>(dB r,[])⟩]
theorem Ai8:Aq prog 75 c75:=Av (fn:=f75) ⟨⟨AEj,pk ⟨AiX,AdF,trivial⟩,λ_ R K=>by
 simp only[MK,AOj];kernel_rfl⟩,trivial⟩
abbrev Ami:=eN [(75,c75)] {A8:=[(4,[0,1,5])],BW:=[(4,[4])]}
def Apf a b (z_:Int):=sT 27 [(0,ga a),(1,ga b),(5,dI z_)] []
def AnJ(a b:AOH):=Sum.elim (λ(c:Unit)=>xR 27 fz []) (λ(d:Unit)=>xE 0 27 [] [])
def T5(a b:AOH)(e:Int):APJ (Int⊕(Unit⊕Unit)):=
 bif decide (e<(a.length:Int))then
 if 0<=e/\e<a.length then
 if 0<=e/\e<b.length then
 (MK (a.getD e.toNat Ag.zero) (b.getD e.toNat Ag.zero)).bind λg=>bif !g then
 some (.inr (.inl ()))
 else
 some (.inl (wI (e+1)))
 else none
 else none
 else
 some (.inr (.inr ()))
def JM a b (z_:Int):=T5 a b z_
def V4 a b e:=fix (JM a b) e
theorem Aq3 a b:A4 Ami 0 4 (code f42) 58 (Apf a b) (JM a b) (AnJ a b):=by
 intro _;simp only[JM,T5,AOi];kernel_rfl
def RQ(a b:AOH):APJ Bool:=
 bif (a.length:Int) !=(b.length:Int)then
 some false
 else
 (V4 a b 0).bind (Sum.elim (λc=>some false) (λd=>some true))
def c42:=Cx [.d APD,.d APD] [⟨[.AB [] APD,.AB [] APD],[],Bool,λp=>RQ p.1.1 p.1.2.1,λr=>(dB r,[])⟩]
theorem AiW:Aq prog 42 c42:=Av (fn:=f42) ⟨⟨Ami,pk ⟨Ai8,trivial⟩,λ_ R K=>by
 simp(disch:=refine id ?_;kernel_rfl) only[RQ,AOj,V4,AH (Aq3 _ _) (K:=A2 Ami f42 0 R K)];kernel_rfl⟩,trivial⟩
abbrev AEk:=eN [(42,c42)] {}
def Gu(a b:AOu):APJ Bool:=
 (RQ a.1 b.1).bind λc=>bif !c then
 some false
 else
 some true
def c15:=Cx [.d An,.d An] [⟨[.AB [] An,.AB [] An],[],Bool,λp=>Gu p.1.1 p.1.2.1,λr=>(dB r,[])⟩]
theorem yr:Aq prog 15 c15:=Av (fn:=f15) ⟨⟨AEk,pk ⟨AiW,trivial⟩,λ_ R K=>by
 simp only[Gu,AOj];kernel_rfl⟩,trivial⟩
abbrev AEl:=eN [(15,c15)] {}
def I7(a b:AOp):APJ Bool:=
 bif a.1 !=b.1 then
 some false
 else
 bif !(a.2.1==b.2.1)then
 some false
 else
 (Gu a.2.2.1 b.2.2.1).bind λc=>bif !c then
 some false
 else
 (Gu a.2.2.2.1 b.2.2.2.1).bind λd=>bif !d then
 some false
 else
 some true
def c41:=Cx [.d Af,.d Af] [⟨[.AB [] Af,.AB [] Af],[],Bool,λp=>I7 p.1.1 p.1.2.1,λr=>(dB r,[])⟩]
theorem AiV:Aq prog 41 c41:=Av (fn:=f41) ⟨⟨AEl,pk ⟨yr,trivial⟩,λ_ R K=>by
 simp only[I7,AOj];kernel_rfl⟩,trivial⟩
abbrev Amj:=eN [(41,c41)] {A8:=[(4,[0,1,5])],BW:=[(4,[4])]}
def Apg a b (z_:Int):=sT 27 [(0,Bo a),(1,Bo b),(5,dI z_)] []
def AnK(a b:AOG):=Sum.elim (λ(c:Unit)=>xR 27 fz []) (λ(d:Unit)=>xE 0 27 [] [])
def Sj(a b:AOG)(e:Int):APJ (Int⊕(Unit⊕Unit)):=
 bif decide (e<(a.length:Int))then
 if 0<=e/\e<a.length then
 if 0<=e/\e<b.length then
 (I7 (a.getD e.toNat Af.zero) (b.getD e.toNat Af.zero)).bind λg=>bif !g then
 some (.inr (.inl ()))
 else
 some (.inl (wI (e+1)))
 else none
 else none
 else
 some (.inr (.inr ()))
def HW a b (z_:Int):=Sj a b z_
def T4 a b e:=fix (HW a b) e
theorem Aq4 a b:A4 Amj 0 4 (code f14) 58 (Apg a b) (HW a b) (AnK a b):=by
 intro _;simp only[HW,Sj,AOi];kernel_rfl
def Oq(a b:AOG):APJ Bool:=
 bif (a.length:Int) !=(b.length:Int)then
 some false
 else
 (T4 a b 0).bind (Sum.elim (λc=>some false) (λd=>some true))
def c14:=Cx [.d APz,.d APz] [⟨[.AB [] APz,.AB [] APz],[],Bool,λp=>Oq p.1.1 p.1.2.1,λr=>(dB r,[])⟩]
theorem AiD:Aq prog 14 c14:=Av (fn:=f14) ⟨⟨Amj,pk ⟨AiV,trivial⟩,λ_ R K=>by
 simp(disch:=refine id ?_;kernel_rfl) only[Oq,AOj,T4,AH (Aq4 _ _) (K:=A2 Amj f14 0 R K)];kernel_rfl⟩,trivial⟩
abbrev Aia:=eN [(5,c5),(6,c6),(7,c7),(8,c8),(9,c9),(10,c10),(11,c11),(12,c12),(13,c13),(14,c14),(15,c15)] {BS:=[(21,{Bb:=[0,1,6,7,12,13,14,15,73],RF:=[(12,false,APx),(13,false,APz)]})],DD:=[(21,[0,1,6,7,10,11,12,13,14,15,16,17])],cQ:=[(40,APx),(42,APz),(44,An),(46,An),(76,APx),(81,APz),(86,An),(91,An)]}
def Ac5 a b (c:(Bool×Int)) (d:(Bool×Int)) e g i j k l:=sT 94 [(0,Au a),(1,Bo b),(6,Ar),(7,A6),(10,dB c.1),(11,dI c.2),(12,.AG 2),(13,.AG 3),(14,RD),(15,NH),(16,dB d.1),(17,dI d.2)] [.box (FY e),.box (FY g),gd i,gg j,.box (.pr (.AG 6) .u),.box x7,RY k,RY l]
def vU(a:AOE)(b:AOG)(e g:AOu)(i:AOE)(j:AOG)(k l:AOH)(m0:Bool):Ex×St:=xN 94 [(0,Au a),(1,Bo b),(6,Ar),(7,A6),(12,Au i),(13,Bo j),(14,HC),(15,WV),(73,dB m0)] [.box (FY e),.box (FY g),.box (.pr KB .u),.box j8,RY k,RY l]
theorem Aq5 a b c d e g i j k l:Xn Aia 0 21 (code f3) (pt 524284) (Ac5 a b c d e g i j k l)=some (vU a b e g i j k l ((!(d.1==c.1))||(d.2 !=c.2))):=by
 refine .trans (b:=
 bif !(d.1==c.1)then
 some (vU a b e g i j k l true)
 else
 some (vU a b e g i j k l (d.2 !=c.2))) (by kernel_rfl) ?_
 cases (!(d.1==c.1));rfl;rfl
def MJ(a:AOE)(b:AOG)(e g:AOu):APJ Bool:=
 (Tx a 1048576).bind λn=>bif decide (n<0)then
 some true
 else
 (Ot b n).bind λo=>bif decide (o<0)then
 some true
 else
 (Mc e o).bind λq=>bif decide (q<0)then
 some true
 else
 (Mc g q).bind λs=>bif decide (s<0)then
 some true
 else
 (JQ a).bind λt=>(FV b).bind λu=>(Ed e).bind λv=>(Ed g).bind λw=>(Wc t u (v,()) (w,())).bind λc=>(JQ a).bind λi=>(FV b).bind λj=>(Ed e).bind λk=>(Ed g).bind λl=>(V0 i j (k,()) (l,())).bind λd=>PD (Ac5 a b c d e g i j k l) (
 bif (!(d.1==c.1))||(d.2 !=c.2)then
 some false
 else
 (JQ a).bind λx=>(Tw i x).bind λy=>bif !y then
 some false
 else
 (FV b).bind λa1=>(Oq j a1).bind λb1=>bif !b1 then
 some false
 else
 (Ed e).bind λc1=>(Gu (k,()) (c1,())).bind λd1=>bif !d1 then
 some false
 else
 (Ed g).bind λe1=>(Gu (l,()) (e1,())).bind λg1=>bif !g1 then
 some false
 else
 some true)
theorem laws_FnExactSame_run R (a:AOE) (b:AOG) (e:AOu) (g:AOu) K:Sr Aia f3 R [Au a,Bo b,FY e,FY g] [] K=(MJ a b e g).bind λr=>K (dB r) []:=by
 simp(disch:=refine id ?_;kernel_rfl) only[MJ,AOj,Ft (Aq5 ..) (K:=A2 Aia f3 0 R K)];kernel_rfl
theorem laws_FnExactSame_ok:IR prog Aia:=(pk ⟨ArG,ArI,Aev,ArJ,ArK,Aiy,yq,Aiz,AiC,AiD,yr,trivial⟩)
end
end Go.Proofs.X
namespace Go.Va
def Ay{A:Type}(x:APJ A)(Q:A->Prop):Prop:=∃a,x=some a/\Q a
section
variable {A B S T:Type} {x y:APJ A} {P Q:A->Prop}
theorem Ay.mk{a:A}(h:Q a):Ay (some a) Q:=⟨a,rfl,h⟩
theorem Ay.of{a:A}(h:x=some a)(hq:Q a):Ay x Q:=⟨a,h,hq⟩
theorem Ay.eq_{a:A}(h:Ay x (·=a)):x=some a:=by obtain⟨b,h1,h2⟩:=h;rw[h1,h2]
theorem Ay.mono(h:Ay x P)(hq:∀a,P a->Q a):Ay x Q:=by obtain⟨a,h1,h2⟩:=h;exact⟨a,h1,hq a h2⟩
theorem Ay.bind{R:B->Prop}{f:A->APJ B}(h:Ay x P)(k:∀a,P a->Ay (f a) R):Ay (x.bind f) R:=by
 obtain⟨a,h1,h2⟩:=h;rw[h1];exact k a h2
theorem Ay.cond{c:Bool}(h1:c=true->Ay x Q)(h2:c=false->Ay y Q):Ay (bif c then x else y) Q:=by
 cases c
 ·exact h2 rfl
 ·exact h1 rfl
theorem Ay.ite{c:Prop}[Decidable c](hc:c)(h:Ay x Q):Ay (if c then x else none) Q:=by rw[AMo hc];exact h
theorem Ay.elim{R:B->Prop}{C D:Type}{f:C->APJ B}{g:D->APJ B}{z:C⊕D}(h1:∀c,z=.inl c->Ay (f c) R)(h2:∀d,z=.inr d->Ay (g d) R):Ay (Sum.elim f g z) R:=by
 cases z with
 |inl c=>exact h1 c rfl
 |inr d=>exact h2 d rfl
theorem Bu{f:S->APJ (S⊕T)}(I:Nat->S->Prop){Q:T->Prop}(step:∀n s,I n s->Ay (f s) λr=>match r with |.inl s'=>∃m,m<n/\I m s' |.inr t=>Q t):∀n s,I n s->Ay (fix f s) Q:=by
 intro n;induction n using Nat.strongRecOn with
 |_ n ih =>
  intro s hI;obtain⟨r,h1,h2⟩:=step n s hI;cases r with
  |inl s' =>
   obtain⟨m,hm,hI'⟩:=h2;rw[PN h1];exact ih m hm s' hI'
  |inr t=>exact⟨t,LV h1,h2⟩
theorem yS{f:S->APJ (S⊕T)}(st:Nat->S){t:T}:∀(n k:Nat),(∀i,k<=i->i<k+n->f (st i)=some (.inl (st (i+1))))->f (st (k+n))=some (.inr t)->fix f (st k)=some t
 |0,k,_,he=>LV he
 |n+1,k,hs,he=>by
  rw[PN (hs k (AMc _) (by omega))];exact yS st n (k+1) (λi h1 h2=>hs i (by omega) (by omega)) (by rw[show k+1+n=k+(n+1) by omega];exact he)
theorem AU{f:S->APJ (S⊕T)}(st:Nat->S){t:T}(n:Nat)(hs:∀i,i<n->f (st i)=some (.inl (st (i+1))))(he:f (st n)=some (.inr t)):fix f (st 0)=some t :=
 yS st n 0 (λi _ h=>hs i (by omega)) (by rw[AMC];exact he)
end
theorem BX{x:Int}(h1:-9223372036854775808<=x:=by omega)(h2:x<9223372036854775808:=by omega):wI x=x:=by
 simp only[wI,IntKind.wrap,IntKind.bits,IntKind.signed];simp;omega
theorem qH{x:Int}(h1:0<=x)(h2:x<18446744073709551616):IntKind.u64.wrap x=x:=by
 simp only[wI,IntKind.wrap,IntKind.bits,IntKind.signed];simp;omega
theorem nq{k n:Nat}(hk:k<n)(hn:n<=maxLen):wI ((k:Int)+1)=((k+1:Nat):Int):=by
 unfold maxLen at hn;rw[BX];omega
def Xj{A:Type}(F:A->A->APJ Bool)(a:A):Prop:=∀b,Ay (F a b) λr=>r=true↔a=b
theorem yR{A:Type}{F:A->A->APJ Bool}{z:A}{a b:APH A}(hl:a.length=b.length)(hn:a.length<=maxLen)(hF:∀x∈a,Xj F x){f:Int->APJ (Int⊕(Unit⊕Unit))}
    (hs:∀k:Nat,k<a.length->f (k:Int)=(F (a.getD k z) (b.getD k z)).bind λr=>bif !r then some (.inr (.inl ()))else some (.inl (wI ((k:Int)+1)))) (he:f (a.length:Int)=some (.inr (.inr ()))) :
    Ay (fix f 0) λt=>(t=.inr ()/\a=b)\/(t=.inl ()/\a≠b):=by
 refine Bu (λm (i:Int)=>∃k:Nat,i=(k:Int)/\k<=a.length/\m=a.length-k/\a.take k=b.take k) (λm i hI=>?_) (a.length) 0 ⟨0,rfl,AMS _,rfl,rfl⟩;obtain⟨k,rfl,hk,rfl,ht⟩:=hI;rcases AMh k a.length with h |h
 ·rw[hs k h];have ha:a.getD k z=a[k]:=by simp[List.getD,h]
  have hb:b.getD k z=b[k]'(by omega):=by simp[List.getD,show k<b.length by omega]
  refine Ay.bind (hF (a.getD k z) (by rw[ha];exact AMO h) (b.getD k z)) λr hr=>?_;cases r with
  |false =>
   refine Ay.mk (.inr ⟨rfl,λe=>?_⟩);have:a.getD k z=b.getD k z:=by rw[e]
   have:=hr.2 this;cases this
  |true =>
   have e:=hr.1 rfl;refine Ay.mk ⟨a.length-(k+1),by omega,k+1,nq h hn,h,rfl,?_⟩;rw[AM6 h,AM6 (show k<b.length by omega),ht,<-ha,<-hb,e]
 ·have Xp:k=a.length:=by omega
  subst Xp;rw[he];refine Ay.mk (.inl ⟨rfl,?_⟩);rw[AMg (AMc _),AMg (by omega)]at ht;exact ht
end Go.Va
namespace Go.Va
theorem Dy{k n:Nat}(h:k<n):decide ((k:Int)<(n:Int))=true:=by simp;exact h
theorem Fb(n:Nat):decide ((n:Int)<(n:Int))=false:=by simp
theorem Bl{k n:Nat}(h:k<n):(0:Int)<=(k:Int)/\(k:Int)<(n:Int):=⟨by omega,by omega⟩
theorem ZF{A:Type}{F:A->A->APJ Bool}{z:A}{G:APH A->APH A->APJ Bool}{r:APH A->APH A->Int->APJ (Int⊕(Unit⊕Unit))}
    (hG:∀a b,G a b=bif (a.length:Int) !=(b.length:Int)then some false else(fix (r a b) 0).bind (Sum.elim (λ_=>some false) λ_=>some true))
    (hr:∀a b i,r a b i=bif decide (i<(a.length:Int))then(if(0:Int)<=i/\i<(a.length:Int)then(if(0:Int)<=i/\i<(b.length:Int)then
     (F (a.getD i.toNat z) (b.getD i.toNat z)).bind λq=>bif !q then some (.inr (.inl ()))else some (.inl (wI (i+1)))else none)else none)else some (.inr (.inr ())))
    {a:APH A} (hn:a.length<=maxLen) (hF:∀x∈a,Xj F x):Xj G a:=by
 intro b;rw[hG];refine Ay.cond (λh=>Ay.mk ⟨λh=>by(cases h),λe=>?_⟩) λh=>?_
 ·subst e;simp at h
 ·have hl:a.length=b.length:=by
    have:(a.length:Int)=(b.length:Int):=by simpa using h
    omega
  refine Ay.bind (yR (z:=z) hl hn hF (λk hk=>?_) ?_) λt ht=>?_
  ·rw[hr,Dy hk,AMm,AMo (Bl hk),AMo (Bl (by omega))];rfl
  ·rw[hr,Fb,AMl]
  ·rcases ht with ⟨rfl,e⟩|⟨rfl,e⟩
   ·exact Ay.mk ⟨λ_=>e,λ_=>rfl⟩
   ·exact Ay.mk ⟨λh=>by(cases h),λh=>(e h).elim⟩
end Go.Va
namespace Go.Proofs.X
open Go Go.Va
set_option maxRecDepth 100000
theorem Wi(s t:ByteArray):Iu s t=true↔s=t:=by
 unfold Iu;rw[ByteArray.toList_eq,ByteArray.toList_eq,ANf];constructor
 ·intro h;cases s with
  |mk a=>cases t with
   |mk b=>simp at h;rw[h]
 ·rintro rfl;rfl
theorem oK{a:AOz}(hn:a.length<=maxLen):Xj P9 a :=
 ZF (F:=λx y=>some (x==y)) (z :=APs.zero) (r:=IJ) (λ_ _=>rfl) (λ_ _ _=>rfl) hn λx _ y=>Ay.mk (by simp)
theorem r7{a:AOz}(hn:a.length<=maxLen):Xj RP a :=
 ZF (F:=λx y=>some (x==y)) (z :=APr.zero) (r:=JK) (λ_ _=>rfl) (λ_ _ _=>rfl) hn λx _ y=>Ay.mk (by simp)
theorem AaN{a:AOr}(h:Ty.Wf Ah a):Xj Si a:=by
 intro b;obtain⟨w,ws,_⟩:=a;obtain⟨w',ko,_⟩:=b;unfold Si;refine Ay.cond (λh1=>Ay.mk (by simp at h1;simp[h1])) λh1=>Ay.bind (oK h.2.1.1 ko) λr hr=>Ay.cond (λh2=>Ay.mk (by simp at h1 h2;simp_all)) λh2=>Ay.mk (by simp at h1 h2;simp_all)
theorem AaO(a:AOn):Xj (λx y=>some (Ma x y)) a:=by
 intro b;obtain⟨n,w,_⟩:=a;obtain⟨n',w',_⟩:=b;refine Ay.mk ?_;simp[Ma,Wi]
theorem wD{a:AOE}(h:Ty.Wf APx a):Xj Tw a :=
 ZF (F:=λx y=>some (Ma x y)) (z :=Ad.zero) (r:=Ld) (λ_ _=>rfl) (λ_ _ _=>rfl) h.1 λx hx=>AaO x
theorem wE{a:AOq}(h:Ty.Wf Ag a):Xj MK a:=by
 intro b;obtain⟨o,v,A,B,x,k,_⟩:=a;obtain⟨o',v',A',B',x',k',_⟩:=b;unfold MK;refine Ay.cond (λh1=>Ay.mk (by simp at h1;simp[h1])) λh1=>Ay.cond (λh2=>Ay.mk (by simp at h1 h2;simp[h2])) λh2=>Ay.cond (λh3=>Ay.mk (by simp at h1 h3;simp[h3])) λh3=>Ay.cond (λh3=>Ay.mk (by simp at h1 h3;simp[h3])) λh5 =>
  Ay.bind (AaN h.2.2.2.2.1 x') λr hr=>Ay.cond (λh4=>Ay.mk (by simp at h1 h2 h3 h4;simp_all)) λh4=>Ay.bind (r7 h.2.2.2.2.2.1.1 k') λr2 hr2=>Ay.cond (λh6=>Ay.mk (by simp at h1 h2 h3 h4 h6;simp_all)) λh6=>Ay.mk (by simp at h1 h2 h3 h4 h5 h6;simp_all)
theorem r8{a:AOH}(h:Ty.Wf APD a):Xj RQ a :=
 ZF (F:=MK) (z :=Ag.zero) (r:=JM) (λ_ _=>rfl) (λ_ _ _=>rfl) h.1 λx hx=>wE (h.2 x hx)
theorem Yu{a:AOu}(h:Ty.Wf An a):Xj Gu a:=by
 intro b;obtain⟨n,_⟩:=a;obtain⟨n',_⟩:=b;unfold Gu;refine Ay.bind (r8 h.1 n') λr1 dT=>Ay.cond (λh1=>Ay.mk (by simp at h1;simp_all)) λh1=>Ay.mk (by simp at h1;simp_all)
theorem oJ{a:AOp}(h:Ty.Wf Af a):Xj I7 a:=by
 intro b;obtain⟨i,e,s,t,_⟩:=a;obtain⟨i',e',s',t',_⟩:=b;unfold I7;refine Ay.cond (λh1=>Ay.mk (by simp at h1;simp[h1])) λh1=>Ay.cond (λh2=>Ay.mk (by simp at h1 h2;simp[h2])) λh2 =>
  Ay.bind (Yu h.2.2.1 s') λr hr=>Ay.cond (λh4=>Ay.mk (by simp at h1 h2 h4;simp_all)) λh4=>Ay.bind (Yu h.2.2.2.1 t') λr2 hr2=>Ay.cond (λh6=>Ay.mk (by simp at h1 h2 h4 h6;simp_all)) λh6=>Ay.mk (by simp at h1 h2 h4 h6;simp_all)
theorem kv{a:AOG}(h:Ty.Wf APz a):Xj Oq a :=
 ZF (F:=I7) (z :=Af.zero) (r:=HW) (λ_ _=>rfl) (λ_ _ _=>rfl) h.1 λx hx=>oJ (h.2 x hx)
end Go.Proofs.X
namespace Go.Va
open Go.Proofs.X
def wt:(t:Ty)->t.V->Nat
 |.str,s=>s.size
 |.AE a b,x=>wt a x.1+wt b x.2
 |.sl t,xs=>xs.length+(xs.map (wt t)).sum
 |.int _,_=>0
 |.bool,_=>0
 |.unit,_=>0
 |.QV _,_=>0
def eZ(t:Ty)(F:t.V->Int->APJ Int)(x:t.V):Prop:=∀left:Int,0<=left->left<=1048576->F x left=some (if(wt t x:Int)<=left then left-(wt t x:Int)else -1)
theorem xM{t:Ty}{F:t.V->Int->APJ Int}{z:t.V}{G:APH t.V->Int->APJ Int}{r:APH t.V->Int×Int->APJ (AOY⊕(Int⊕Int))}
    (hG:∀a left,G a left=bif decide ((wI (left-(a.length:Int)))<0)then some (-1)else(fix (r a) (wI (left-(a.length:Int)),0)).bind (Sum.elim (λ_=>some (-1)) λy=>some y))
    (hr:∀a x,r a x=bif decide (x.2<(a.length:Int))then(if(0:Int)<=x.2/\x.2<(a.length:Int)then
     (F (a.getD x.2.toNat z) x.1).bind λq=>bif decide (q<0)then some (.inr (.inl q))else some (.inl (q,wI (x.2+1)))else none)else some (.inr (.inr x.1)))
    {a:APH t.V} (hn:a.length<=maxLen) (hF:∀x∈a,eZ t F x):eZ (.sl t) G a:=by
 intro left h0 h1;have hm:maxLen=140737488355327\/True:=.inr trivial;have hw:wI (left-(a.length:Int))=left-(a.length:Int):=by unfold maxLen at hn;exact BX
 rw[hG,hw];have hwt:wt (.sl t) a=a.length+(a.map (wt t)).sum:=rfl;rw[hwt];by_cases ACt:left-(a.length:Int)<0
 ·rw[show decide (left-(a.length:Int)<0)=true by simpa using ACt,AMm,OV]
 ·rw[show decide (left-(a.length:Int)<0)=false by simpa using ACt,AMl];have key:Ay (fix (r a) (left-(a.length:Int),0)) λy=>(∃q,y=.inl q/\left<((a.length+(a.map (wt t)).sum:Nat):Int))\/y=.inr (left-((a.length+(a.map (wt t)).sum:Nat):Int))/\((a.length+(a.map (wt t)).sum:Nat):Int)<=left:=by
   refine Bu (λm (x:Int×Int)=>∃k:Nat,x.2=(k:Int)/\k<=a.length/\m=a.length-k/\x.1=left-(a.length:Int)-(((a.take k).map (wt t)).sum:Nat)/\0<=x.1) (λm x hI=>?_) a.length _ ⟨0,rfl,AMS _,rfl,by simp,by show 0<=left-(a.length:Int);omega⟩;obtain⟨l,i⟩:=x;obtain⟨k,hk1,hk,rfl,hl,iM⟩:=hI;simp only at hk1 hl iM;subst hk1;rw[hr];simp only;rcases AMh k a.length with h |h
   ·rw[Dy h,AMm,AMo (Bl h)];have ha:a.getD k z=a[k]:=by simp[List.getD,h]
    have AjQ:((a.take (k+1)).map (wt t)).sum=((a.take k).map (wt t)).sum+wt t a[k]:=by
     rw[AM6 h,AMQ,ANS];simp
    have AGq:((a.take (k+1)).map (wt t)).sum<=(a.map (wt t)).sum:=by
     conv=>rhs;rw[<-ANm (k+1) a,AMQ,ANS]
     omega
    rw[show(k:Int).toNat=k from AL7 k,ha,hF _ (AMO h) l iM (by omega),AL6];split
    ·rename_i PR;rw[show decide (l-(wt t a[k]:Int)<0)=false by simpa using PR,AMl];exact Ay.mk ⟨a.length-(k+1),by omega,k+1,nq h hn,h,rfl,by rw[AjQ,hl];push_cast;omega,by show 0<=l-_;omega⟩
    ·rename_i hgt;refine Ay.mk (.inl ⟨_,rfl,?_⟩)
     push_cast
     rw[AjQ]at AGq;omega
   ·have Xp:k=a.length:=by omega
    subst Xp;rw[Fb,AMl];rw[AMg (AMc _)]at hl;exact Ay.mk (.inr ⟨by rw[hl];push_cast;rw[Int.sub_sub],by push_cast;omega⟩)
  obtain⟨y,hy,hq⟩:=key;rw[hy];rcases hq with ⟨q,rfl,Bm⟩|⟨rfl,PR⟩
  ·rw[OV];rfl
  ·rw[AMo PR];rfl
end Go.Va
namespace Go.Proofs.X
open Go Go.Va
theorem zJ{A:Type}{xs:APH A}{left:Int}(h0:0<=left)(h1:left<=1048576)(hn:xs.length<=maxLen):(bif decide ((wI (left-(xs.length:Int)))<0)then(-1)else wI (left-(xs.length:Int)))=if(xs.length:Int)<=left then left-(xs.length:Int)else -1:=by
 unfold maxLen at hn;rw[BX];split
 ·rw[show decide (left-(xs.length:Int)<0)=false by simp;omega];rfl
 ·rw[show decide (left-(xs.length:Int)<0)=true by simp;omega];rfl
theorem uG{A:Type}{f:A->Nat}(h:∀x,f x=0)(xs:APH A):(xs.map f).sum=0:=by
 induction xs with
 |nil=>rfl
 |cons x xs ih=>simp[h,ih]
theorem Ahq(a:AOz):wt APB a=a.length:=congrArg (a.length+·) (uG (λ_=>rfl) a)
theorem Aho(a:AOz):wt APw a=a.length:=congrArg (a.length+·) (uG (λ_=>rfl) a)
theorem qv{a:AOz}(hn:a.length<=maxLen):eZ APB (λx l=>some (CL x l)) a:=λleft h0 h1=>by
 show some (CL a left)=_;rw[CL,zJ h0 h1 hn,Ahq]
theorem uH{a:AOz}(hn:a.length<=maxLen):eZ APw (λx l=>some (Df x l)) a:=λleft h0 h1=>by
 show some (Df a left)=_;rw[Df,zJ h0 h1 hn,Aho]
end Go.Proofs.X
namespace Go.Va
open Go.Proofs.X
section
variable {A B:Type} {Q:A->Prop} {x y:APJ A}
theorem Sq{a:A}:Ay (some a) Q↔Q a:=⟨λ⟨_,h,q⟩=>by grind,λh=>⟨a,rfl,h⟩⟩
end
theorem BR{X S T:Type}{f:X->APJ (X⊕T)}(st:Nat->S->X)(n:Nat)(I:Nat->S->Prop){Q:T->Prop}
    (h:∀k s,k<n->I k s->Ay (f (st k s)) λr=>match r with |.inl x=>∃s',x=st (k+1) s'/\I (k+1) s' |.inr t=>Q t)
    (he:∀s,I n s->Ay (f (st n s)) λr=>match r with |.inl _=>False |.inr t=>Q t) {s0:S} (h0:I 0 s0):Ay (fix f (st 0 s0)) Q:=by
 refine Bu (λm x=>∃k s,x=st k s/\k<=n/\m=n-k/\I k s) (λm x hI=>?_) n _ ⟨0,s0,rfl,AMS _,rfl,h0⟩;obtain⟨k,s,rfl,hk,rfl,hI⟩:=hI;rcases AMh k n with Bm |YC
 ·refine(h k s Bm hI).mono λr hr=>?_;cases r with
  |inl x =>
   obtain⟨s',rfl,hI'⟩:=hr;exact⟨n-(k+1),by omega,k+1,s',rfl,Bm,rfl,hI'⟩
  |inr t=>grind
 ·have:k=n:=by omega
  subst this;refine(he s hI).mono λr hr=>?_
  grind
def PF(x:Int):Prop:=0<=x/\x<18446744073709551616
def tb(x:Int)(j:Nat):Bool:=x.toNat.testBit j
theorem PF.toNat{x:Int}(h:PF x):x.toNat<2^64:=by unfold PF at h;omega
theorem PF.of{n:Nat}(h:n<2^64):PF (n:Int):=by unfold PF;omega
theorem YO{x:Int}(h:PF x){j:Nat}(hj:64<=j):tb x j=false :=
 Nat.testBit_lt_two_pow (AMI h.toNat (Nat.pow_le_pow_right (by decide) hj))
theorem PF.ext{x y:Int}(hx:PF x)(hy:PF y)(h:∀j,j<64->tb x j=tb y j):x=y:=by
 have :=Nat.eq_of_testBit_eq λj=>by
  rcases AMh j 64 with hj |hj
  ·exact h j hj
  ·exact(YO hx hj).trans (YO hy hj).symm
 unfold PF at hx hy;omega
theorem jX{n:Nat}(h:n<2^64):IntKind.u64.wrap (n:Int)=(n:Int):=qH (by omega) (by omega)
theorem U6{x:Int}(h:PF x):(BitVec.ofInt 64 x).toNat=x.toNat:=by
 unfold PF at h;simp;omega
theorem Agf{a b:Int}(ha:PF a)(hb:PF b):fq .u64 a b=((a.toNat ||| b.toNat:Nat):Int):=by
 show IntKind.u64.wrap (((BitVec.ofInt 64 a ||| BitVec.ofInt 64 b).toNat))=_;rw[jX (BitVec.isLt _),BitVec.toNat_or,U6 ha,U6 hb]
theorem yi{a b:Int}(ha:PF a)(hb:PF b):fa .u64 a b=((a.toNat &&& b.toNat:Nat):Int):=by
 show IntKind.u64.wrap (((BitVec.ofInt 64 a &&& BitVec.ofInt 64 b).toNat))=_;rw[jX (BitVec.isLt _),BitVec.toNat_and,U6 ha,U6 hb]
theorem qC{a b:Int}(ha:PF a)(hb:PF b):PF (fq .u64 a b):=by
 rw[Agf ha hb];exact .of (Nat.or_lt_two_pow ha.toNat hb.toNat)
theorem zR{a b:Int}(ha:PF a)(hb:PF b):PF (fa .u64 a b):=by
 rw[yi ha hb];exact .of (Nat.and_lt_two_pow _ hb.toNat)
theorem zL{a b:Int}(ha:PF a)(hb:PF b)(j:Nat):tb (fq .u64 a b) j=(tb a j||tb b j):=by
 rw[Agf ha hb,tb,AL7,Nat.testBit_or];rfl
theorem Ahc{a b:Int}(ha:PF a)(hb:PF b)(j:Nat):tb (fa .u64 a b) j=(tb a j&&tb b j):=by
 rw[yi ha hb,tb,AL7,Nat.testBit_and];rfl
theorem zF{a:Int}(ha:PF a){s:Int}{n:Nat}(hs:s=(n:Int))(hn:n<=64):Ro .u64 a s=((a.toNat/2^n:Nat):Int):=by
 subst hs;unfold PF at ha;obtain⟨m,rfl⟩:∃m:Nat,a=m:=⟨a.toNat,by omega⟩;have h:Ro .u64 _ n=Int.fdiv m (2^min _ 64):=rfl
 grind
theorem b9{a:Int}(ha:PF a){s:Int}{n:Nat}(hs:s=(n:Int))(hn:n<=64):PF (Ro .u64 a s):=by
 rw[zF ha hs hn];exact .of (Nat.lt_of_le_of_lt (Nat.div_le_self _ _) ha.toNat)
theorem Z2{a:Int}(ha:PF a){s:Int}{n:Nat}(hs:s=(n:Int))(hn:n<=64)(j:Nat):tb (Ro .u64 a s) j=tb a (j+n):=by
 rw[zF ha hs hn,tb,AL7,Nat.testBit_div_two_pow,tb]
theorem qj{a:Int}(ha:PF a){s:Int}{n:Nat}(hs:s=(n:Int))(hn:n<=64):N6 .u64 a s=((a.toNat*2^n%18446744073709551616:Nat):Int):=by
 subst hs;unfold PF at ha;obtain⟨m,rfl⟩:∃m:Nat,a=m:=⟨a.toNat,by omega⟩;have h:N6 .u64 _ n=IntKind.u64.wrap (m*2^min _ 64):=rfl;have hw:∀x ,IntKind.u64.wrap x=x%18446744073709551616:=λx=>by simp[IntKind.wrap,IntKind.bits,IntKind.signed]
 grind
theorem qD{a:Int}(ha:PF a){s:Int}{n:Nat}(hs:s=(n:Int))(hn:n<=64):PF (N6 .u64 a s):=by
 rw[qj ha hs hn];exact .of (Nat.mod_lt _ (by omega))
theorem xP{a:Int}(ha:PF a){s:Int}{n:Nat}(hs:s=(n:Int))(hn:n<=64)(j:Nat):tb (N6 .u64 a s) j=(decide (j<64)&&(decide (n<=j)&&tb a (j-n))):=by
 rw[qj ha hs hn,tb,AL7,show 18446744073709551616=2^64 from by decide,Nat.testBit_mod_two_pow,Nat.testBit_mul_two_pow,tb]
theorem WN(j:Nat):tb 0 j=false:=by simp[tb]
theorem Yc:PF 0:=by unfold PF;omega
theorem b8:PF 1:=by unfold PF;omega
theorem zr{s:Int}{n:Nat}(hs:s=(n:Int))(hn:n<64):IntKind.u64.wrap (N6 .u64 1 s-1)=((2^n-1:Nat):Int):=by
 have h1 :=Nat.two_pow_pos n;have h2:2^n<2^64:=Nat.pow_lt_pow_right (by decide) hn;rw[qj b8 hs (by omega)];rw[show(1:Int).toNat*2^n%18446744073709551616=2^n by grind];rw[show((2^n:Nat))-1=((2^n-1:Nat):Int) by omega];exact jX (by omega)
theorem Ahk{s:Int}{n:Nat}(hs:s=(n:Int))(hn:n<64):PF (IntKind.u64.wrap (N6 .u64 1 s-1)):=by
 have h2:2^n<2^64:=Nat.pow_lt_pow_right (by decide) hn;rw[zr hs hn];exact .of (by omega)
theorem Akv{s:Int}{n:Nat}(hs:s=(n:Int))(hn:n<64)(j:Nat):tb (IntKind.u64.wrap (N6 .u64 1 s-1)) j=decide (j<n):=by
 rw[zr hs hn,tb,AL7,Nat.testBit_two_pow_sub_one]
theorem Ahd(j:Nat):tb 1 j=decide (j=0):=by
 show Nat.testBit 1 j=_;cases j with
 |zero=>rfl
 |succ j=>grind
theorem lN{a:Int}(ha:PF a):fa .u64 a 1=if tb a 0 then 1 else 0:=by
 refine PF.ext (zR ha b8) (by split<;>first |exact b8 |exact Yc) λj _=>?_
 rw[Ahc ha b8];by_cases h:j=0
 ·subst h;cases h:tb a 0<;>simp[WN]
 ·cases h':tb a 0<;>simp[Ahd,WN,h]
def Ea(ws:AOz):Prop:=∀x∈ws,PF x
def bt(ws:AOz)(i:Nat):Bool:=tb (ws.getD (i/64) 0) (i%64)
theorem Ea.getD{ws:AOz}(h:Ea ws)(k:Nat):PF (ws.getD k 0):=by
 rcases AMh k _ with hk |hk
 ·rw[show ws.getD k 0=ws[k] by grind];exact h _ (AMO hk)
 ·rw[show ws.getD k 0=0 by grind];exact Yc
theorem Ea.set{ws:AOz}(h:Ea ws){k:Nat}{x:Int}(hx:PF x):Ea (ws.set k x):=λy hy=>by
 rcases List.mem_or_eq_of_mem_set hy with h' |rfl
 ·exact h y h'
 ·grind
theorem Ea.rep{n:Nat}:Ea (List.replicate n 0):=λx hx=>by rw[(List.mem_replicate.1 hx).2];exact Yc
theorem Ads(n i:Nat):bt (List.replicate n 0) i=false:=by
 unfold bt;rw[show(List.replicate n (0:Int)).getD _ 0=0 by grind];exact WN _
theorem Yl{ws:AOz}{i:Nat}(h:64*ws.length<=i):bt ws i=false:=by
 unfold bt;rw[show ws.getD _ 0=0 by grind];exact WN _
theorem Zw{ws:AOz}{k:Nat}{x:Int}(hk:k<ws.length)(i:Nat):bt (ws.set k x) i=if i/64=k then tb x (i%64)else bt ws i:=by
 unfold bt
 grind
theorem TR{a b:AOz}(ha:Ea a)(hb:Ea b)(hl:a.length=b.length)(h:∀i,i<64*a.length->bt a i=bt b i):a=b:=by
 refine AM1 hl λk h1 h2=>PF.ext (ha _ (AMO h1)) (hb _ (AMO h2)) λj hj=>?_;have:=h (64*k+j) (by omega);unfold bt at this
 grind
def pk(f:Nat->Bool):Nat->Nat
 |0=>0
 |n+1=>(if f n then 2^n else 0)+pk f n
theorem Agj(f:Nat->Bool):∀n,pk f n<2^n
 |0=>by simp[pk]
 |n+1=>by
  have:=Agj f n;unfold pk;split<;>omega
theorem xo(f:Nat->Bool):∀n j,(pk f n).testBit j=(decide (j<n)&&f j)
 |0,j=>by simp[pk]
 |n+1,j=>by
  have hl:=Agj f n;unfold pk;cases hf:f n with
  |false =>
   simp only[AMU,ANz,AMC,xo f n j]
   grind
  |true =>
   simp;rcases Nat.lt_trichotomy j n with h |h |h
   ·rw[Nat.testBit_two_pow_add_gt h,xo f n j];simp[h];omega
   ·subst h;rw[Nat.testBit_two_pow_add_eq,Nat.testBit_lt_two_pow hl];simp[hf]
   ·rw[Nat.testBit_lt_two_pow (AMI (show 2^n+pk f n<2^(n+1) by omega) (Nat.pow_le_pow_right (by decide) h))];simp;omega
def jf(f:Nat->Bool)(m:Nat):AOz:=(List.range m).map λk=>(pk (λj=>f (64*k+j)) 64:Int)
theorem Hp(f:Nat->Bool)(m:Nat):(jf f m).length=m:=by simp[jf]
theorem GG(f:Nat->Bool)(m:Nat):Ea (jf f m):=λx hx=>by
 obtain⟨k,_,rfl⟩:=List.mem_map.1 hx;exact .of (Agj _ _)
theorem jg(f:Nat->Bool)(m i:Nat):bt (jf f m) i=(decide (i<64*m)&&f i):=by
 rcases AMh i (64*m)with h |h
 ·unfold bt jf;rw[show((List.range m).map _).getD _ 0=(pk (λj=>f (64*(i/64)+j)) 64:Int) by
   grind,tb,AL7,xo,show 64*(i/64)+i%64=i by omega]
  simp[h];omega
 ·rw[Yl (by rw[Hp];exact h)];simp;omega
theorem Ahm{ws:AOz}(h:Ea ws){f:Nat->Bool}(hf:∀i,i<64*ws.length->bt ws i=f i):ws=jf f ws.length :=
 TR h (GG _ _) (Hp _ _).symm λi hi=>by rw[hf i hi,jg];simp[hi]
theorem Abo{f g:Nat->Bool}{m:Nat}(h:∀i,i<64*m->f i=g i):jf f m=jf g m :=
 TR (GG _ _) (GG _ _) (by rw[Hp,Hp]) λi hi=>by rw[Hp]at hi;rw[jg,jg,h i hi]
def low(f:Nat->Bool)(n:Nat):Nat->Bool:=λi=>decide (i<n)&&f i
def nw(n:Nat):Nat:=(n+63)/64
end Go.Va
namespace Go.Proofs.X
open Go Go.Va
set_option maxRecDepth 100000
theorem dC{i:Nat}(h:i<4611686018427387904):wI (Int.tdiv (i:Int) 64)=((i/64:Nat):Int):=by
 rw[Int.tdiv_eq_ediv_of_nonneg (by omega),BX];omega
theorem WR(i:Nat):Int.tmod (i:Int) 64=((i%64:Nat):Int):=by
 rw[Int.tmod_eq_emod_of_nonneg (by omega)];omega
theorem YS{n:Nat}(h:n<=1048576):wI (Int.tdiv (wI ((n:Int)+63)) 64)=((nw n:Nat):Int):=by
 rw[BX (x:=(n:Int)+63),show(n:Int)+63=((n+63:Nat):Int) by omega,dC (by omega)];rfl
def mkB(n:Nat)(f:Nat->Bool):AOr:=((n:Int),jf (low f n) (nw n),())
def bI(b:Bool):Int:=if b then 1 else 0
def lj(n:Nat)(ws:AOz):Prop:=1<=n/\n<=4096/\ws.length=nw n/\Ea ws/\∀i,n<=i->bt ws i=false
theorem lj.eq{n:Nat}{ws:AOz}(h:lj n ws):ws=jf (low (bt ws) n) (nw n):=by
 obtain⟨_,_,hl,hw,hz⟩:=h
 conv=>lhs;rw[Ahm hw (f:=low (bt ws) n) λi hi=>by
  unfold low;by_cases h:i<n
  ·simp[h]
  ·rw[hz i (by omega)];simp]
 rw[hl]
theorem oe{n:Nat}{f:Nat->Bool}{i:Nat}(hi:i<n):bt (jf (low f n) (nw n)) i=f i:=by
 rw[jg];unfold nw low;simp[hi];omega
theorem Jv{n:Nat}{f:Nat->Bool}{i:Nat}:bt (jf (low f n) (nw n)) i=(decide (i<n)&&f i):=by
 by_cases h:i<n
 ·rw[oe h];simp[h]
 ·rw[jg];unfold low;simp[h]
theorem Abn{n:Nat}{f g:Nat->Bool}(h:∀i,i<n->f i=g i):mkB n f=mkB n g:=by
 unfold mkB;rw[Abo λi _=>show low f n i=low g n i by
  unfold low;by_cases hi:i<n
  ·simp[hi,h i hi]
  ·simp[hi]]
theorem iZ{w:Int}{ws:AOz}(hw:Ea ws){i:Nat}(hi:i<64*ws.length)(hn:ws.length<=1048576):Iq (w,ws,()) (i:Int)=some (bI (bt ws i)):=by
 unfold Iq;rw[dC (by omega),WR,qH (by omega) (by omega)];rw[AMo ⟨by omega,by show((i/64:Nat):Int)<(ws.length:Int);omega⟩,OV,AL7];show some (IntKind.u8.wrap (fa .u64 (Ro .u64 (ws.getD (i/64) 0) ((i%64:Nat):Int)) 1))=_;rw[show IntKind.u8.wrap (fa .u64 (Ro .u64 (ws.getD (i/64) 0) ((i%64:Nat):Int)) 1)=bI (bt ws i) by
  rw[lN (b9 (hw.getD _) rfl (by omega)),Z2 (hw.getD _) rfl (by omega),AMC];show IntKind.u8.wrap (bI (bt ws i))=_;cases bt ws i<;>rfl]
theorem Ahn{ws:AOz}(h:∀x∈ws,(IntKind.u64).min<=x/\x<=(IntKind.u64).max):Ea ws:=λx hx=>by
 have:=h x hx;unfold PF;simp only[IntKind.min,IntKind.max,IntKind.bits,IntKind.signed]at this;simp at this;omega
theorem kW{w:Int}{ws:AOz}(hw:Ea ws)(hn:ws.length<=1048576):Ay (Pn (w,ws,())) λr=>r=true↔∃n:Nat,w=(n:Int)/\lj n ws:=by
 unfold Pn PD;refine Ay.cond (λh=>Ay.mk ?_) λh=>?_
 ·simp only[AMU,false_iff,not_exists,not_and]
  rintro n rfl ⟨h1,h2,h3,_⟩
  unfold nw at h3;simp only[BF,YS (show n<=1048576 by omega),ANp,ANu,ANB,AMW,ANy]at h;unfold nw at h;omega
 ·have hb:1<=w/\w<=4096:=by
    simp only[BF,AM8,Bool.not_eq_false',AMd,ANj]at h;omega
  obtain⟨n,rfl⟩:∃n:Nat,w=(n:Int):=⟨w.toNat,by omega⟩;have hl:ws.length=nw n:=by
   simp only[AM8,ANv]at h;have h:=h.2;rw[YS (by omega)]at h;omega
  have key:Ay (Un ((n:Int),ws,()) (n:Int)) λt=>(t=.inl ()/\¬∀i,n<=i->bt ws i=false)\/(t=.inr ()/\∀i,n<=i->bt ws i=false):=by
   have PR:n<=64*ws.length:=by rw[hl];unfold nw;omega
   have hwr:wI (64*(ws.length:Int))=((64*ws.length:Nat):Int):=by
    rw[BX];omega
   refine BR (λk (_:Unit)=>((n+k:Nat):Int)) (64*ws.length-n) (λk _=>∀i,n<=i->i<n+k->bt ws i=false) (λk _ hk hI=>?_) (λ_ hI=>?_) (s0:=()) (λi h1 h2=>by omega)
   ·unfold I9 ML;rw[show wI (64*((((n:Int),ws,()):AOr).2.1.length:Int))=((64*ws.length:Nat):Int)from hwr,Dy (by omega),AMm,iZ hw (by omega) hn,AL6];cases hb:bt ws (n+k)with
    |true=>exact Ay.mk (.inl ⟨rfl,λh=>by rw[h _ (by omega)]at hb;cases hb⟩)
    |false =>
     refine Ay.mk ⟨(),?_,λi h1 h2=>?_⟩
     ·rw[BX];omega
     ·rcases AMh i (n+k)with h |h
      ·exact hI i h1 h
      ·rw[show i=n+k by omega];exact hb
   ·unfold I9 ML;rw[show wI (64*((((n:Int),ws,()):AOr).2.1.length:Int))=((64*ws.length:Nat):Int)from hwr,show n+(64*ws.length-n)=64*ws.length by omega,Fb,AMl];refine Ay.mk (.inr ⟨rfl,λi h=>?_⟩);rcases AMh i (64*ws.length)with h' |h'
    ·exact hI i h (by omega)
    ·exact Yl h'
  refine Ay.bind key λt ht=>?_;rcases ht with ⟨rfl,h'⟩|⟨rfl,h'⟩
  ·refine Ay.mk ?_;simp only[AMU,false_iff,not_exists,not_and];intro m hm hp;obtain rfl:m=n:=by omega
   exact h' hp.2.2.2.2
  ·exact Ay.mk ⟨λ_=>⟨n,rfl,by omega,by omega,hl,hw,h'⟩,λ_=>rfl⟩
theorem kI{w:Int}{ws:AOz}(hw:Ea ws)(hn:ws.length<=1048576):Ay (Ph (w,ws,())) λr=>r=true↔∃n:Nat,w=(n:Int)/\lj n ws:=by
 unfold Ph PD;refine Ay.cond (λh=>Ay.mk ?_) λh=>?_
 ·simp only[AMU,false_iff,not_exists,not_and]
  rintro n rfl ⟨h1,h2,h3,_⟩
  unfold nw at h3;simp only[AP,Cm,YS (show n<=1048576 by omega),ANp,ANu,ANB,AMW,ANy]at h;unfold nw at h;omega
 ·have hb:1<=w/\w<=4096:=by
    simp only[AP,AM8,Bool.not_eq_false',AMd,ANj]at h;omega
  obtain⟨n,rfl⟩:∃n:Nat,w=(n:Int):=⟨w.toNat,by omega⟩;have hl:ws.length=nw n:=by
   simp only[AM8,ANv]at h;have h:=h.2;rw[Cm,YS (by omega)]at h;omega
  have e1:((n:Int),ws,()).1=(n:Int):=rfl;have iff:(∃m:Nat,(n:Int)=(m:Int)/\lj m ws)↔∀i,n<=i->bt ws i=false:=by
   constructor
   ·rintro⟨m,hm,hp⟩
    obtain rfl:n=m:=by omega
    exact hp.2.2.2.2
   ·exact λh=>⟨n,rfl,by omega,by omega,hl,hw,h⟩
  rw[iff];refine Ay.cond (λh=>Ay.mk ?_) λh=>?_
  ·have h:Int.tmod (n:Int) 64=0:=by simpa using h
   rw[WR]at h;refine⟨λ_ i hi=>Yl (by rw[hl];unfold nw;omega),λ_=>rfl⟩
  ·have h:Int.tmod (n:Int) 64≠0:=by simpa using h
   rw[WR]at h;have BU:0<ws.length:=by rw[hl];unfold nw;omega
   have dQ:wI ((ws.length:Int)-1)=((ws.length-1:Nat):Int):=by rw[BX];omega
   have e2:wI (((((n:Int),ws,()):AOr).2.1.length:Int)-1)=((ws.length-1:Nat):Int):=dQ;rw[e2,AMo ⟨by omega,by show((ws.length-1:Nat):Int)<(ws.length:Int);omega⟩];rw[show Int.tmod (((n:Int),ws,()):AOr).1 64=((n%64:Nat):Int)from WR n,OV,AL7];refine Ay.mk ?_;rw[ANf];have kH:=hw.getD (ws.length-1);have h0:Ro .u64 (ws.getD (ws.length-1) 0) ((n%64:Nat):Int)=0↔∀j,j<64->tb (ws.getD (ws.length-1) 0) (j+n%64)=false :=
    ⟨λe j _=>by rw[<-Z2 kH rfl (by omega),e,WN],λe=>PF.ext (b9 kH rfl (by omega)) Yc λj hj=>by rw[Z2 kH rfl (by omega),WN];exact e j hj⟩
   refine h0.trans ⟨λe i hi=>?_,λe j hj=>?_⟩
   ·rcases AMh i (64*ws.length)with h' |h'
    ·unfold bt;rw[show i/64=ws.length-1 by rw[hl]at h'⊢;unfold nw at *;omega];have:=e (i%64-n%64) (by omega);rwa [show i%64-n%64+n%64=i%64 by rw[hl]at h';unfold nw at *;omega]at this
    ·exact Yl h'
   ·rcases AMh (j+n%64) 64 with h' |h'
    ·have:=e (64*(ws.length-1)+(j+n%64)) (by rw[hl];unfold nw;omega);unfold bt at this;rwa [show(64*(ws.length-1)+(j+n%64))/64=ws.length-1 by omega,show(64*(ws.length-1)+(j+n%64))%64=j+n%64 by omega]at this
    ·exact YO kH h'
theorem zW(k:IntKind):(Ty.zero (.int k):Int)=0:=rfl
theorem AlJ{a k:Nat}(h:a+64*k<1073741824):wI ((a:Int)+wI (64*(k:Int)))=((a+64*k:Nat):Int):=by
 rw[BX (x:=64*k),BX];omega
theorem A1{x:Int}{n:Nat}(h:x=(n:Int):=by omega)(hn:n<4611686018427387904:=by omega):wI x=(n:Int):=by rw[BX,h]
theorem Yd{n:Nat}(h:n<=1048576):Gs (n:Int)=some ((n:Int),List.replicate (nw n) 0):=by
 have hn:nw n<=1048576:=by unfold nw;omega
 unfold Gs Cm;rw[YS h,AMo ⟨rfl,by omega,by omega,by omega,by omega⟩,AL7]
theorem Aiw{ws:AOz}{k j:Nat}(hj:j<64):bt ws (64*k+j)=tb (ws.getD k 0) j:=by
 unfold bt
 grind
theorem AsR{a k:Nat}{d b:Int}{low row:AOz}(hw:Ea low)(hr:Ea row)(hk:k<low.length)(hb:a+64*k<1073741824)(FR:(a+64*k)/64<row.length) :
    Ay (IY (a:Int) low d (k:Int) row b) λr=>Ea r/\r.length=row.length/\∀i,i<64*row.length->bt r i=(bt row i||(decide (a+64*k<=i)&&(decide (i<a+64*k+64)&&bt low (i-a)))):=by
 unfold IY PD;obtain⟨q,hq⟩:∃q,q=(a+64*k)/64:=⟨_,rfl⟩;obtain⟨m,hm⟩:∃m,m=(a+64*k)%64:=⟨_,rfl⟩;have e1:wI (Int.tdiv (((a+64*k:Nat):Int)) 64)=(q:Int):=by rw[dC (by omega),hq]
 have e2:Int.tmod (((a+64*k:Nat):Int)) 64=(m:Int):=by rw[WR,hm]
 have e3:wI ((q:Int)+1)=((q+1:Nat):Int):=A1;have e4:wI (64-(m:Int))=((64-m:Nat):Int):=A1;have hlk:PF (low.getD k 0):=hw.getD k;have AjH:∀i,a+64*k<=i->i<a+64*k+64->bt low (i-a)=tb (low.getD k 0) (i-a-64*k):=λi h1 h2=>by
  rw[<-Aiw (ws:=low) (k:=k) (by omega)];congr 1;omega
 simp only[AlJ hb,e1,e2,e3,e4,AMf,AL7,zW];rw[AMo (Bl hk),AMo ⟨by omega,by omega⟩,OV,AMo ⟨by omega,by omega⟩];have hsh:PF (N6 .u64 (low.getD k 0) (m:Int)):=qD hlk rfl (by omega);have hor:PF (fq .u64 (row.getD q 0) (N6 .u64 (low.getD k 0) (m:Int))):=qC (hr.getD q) hsh;have hqr:q<row.length:=by omega
 have NR:∀i,bt (row.set q (fq .u64 (row.getD q 0) (N6 .u64 (low.getD k 0) (m:Int)))) i=(bt row i||(decide (i/64=q)&&(decide (a+64*k<=i)&&bt low (i-a)))):=λi=>by
  rw[Zw hqr];by_cases h:i/64=q
  ·rw[AMo h,zL (hr.getD q) hsh,xP hlk rfl (by omega)];have:bt row i=tb (row.getD q 0) (i%64):=by unfold bt;rw[h]
   rw[this];by_cases h2:a+64*k<=i
   ·rw[AjH i h2 (by omega),show i-a-64*k=i%64-m by omega];simp[h,h2,show i%64<64 by omega,show m<=i%64 by omega]
   ·simp[h,h2,show ¬m<=i%64 by omega]
  ·rw[AMp h];simp[h]
 have Hu:Ea (row.set q (fq .u64 (row.getD q 0) (N6 .u64 (low.getD k 0) (m:Int)))):=hr.set hor;refine Ay.cond (λh=>?_) λh=>?_
 ·simp only[AMd,ANy,ANj]at h;have wQ:m≠0:=by omega
  have hq1:q+1<row.length:=by omega
  rw[AMo ⟨by omega,by omega⟩,OV,AMo ⟨by omega,by omega⟩];have hsr:PF (Ro .u64 (low.getD k 0) ((64-m:Nat):Int)):=b9 hlk rfl (by omega);refine Ay.mk ⟨Hu.set (qC (Hu.getD _) hsr),by rw[AMf,AMf],λi hi=>?_⟩;show bt (List.set _ (q+1) (fq .u64 (List.getD _ (q+1) 0) (Ro .u64 (low.getD k 0) ((64-m:Nat):Int)))) i=_;rw[Zw (by rw[AMf];exact hq1)];by_cases h1:i/64=q+1
  ·rw[AMo h1,zL (Hu.getD _) hsr,Z2 hlk rfl (by omega)];have:tb ((row.set q (fq .u64 (row.getD q 0) (N6 .u64 (low.getD k 0) (m:Int)))).getD (q+1) 0) (i%64)=bt (row.set q (fq .u64 (row.getD q 0) (N6 .u64 (low.getD k 0) (m:Int)))) i:=by unfold bt;rw[h1]
   rw[this,NR];rw[show decide (i/64=q)=false by simp;omega,show decide (a+64*k<=i)=true by simp;omega];by_cases h2:i<a+64*k+64
   ·rw[AjH i (by omega) h2,show i-a-64*k=i%64+(64-m) by omega];simp[h2]
   ·rw[YO hlk (by omega)];simp[h2]
  ·rw[AMp h1,NR];by_cases h2:i/64=q
   ·simp only[h2,decide_true,AN5];by_cases h3:a+64*k<=i
    ·simp[h3,show i<a+64*k+64 by omega]
    ·simp[h3]
   ·rw [show(decide (a+64*k<=i)&&(decide (i<a+64*k+64)&&bt low (i-a)))=false by
      by_cases h3:a+64*k<=i
      ·simp[show ¬i<a+64*k+64 by omega]
      ·simp[h3]]
    simp[h2]
 ·refine Ay.mk ⟨Hu,AMf,λi hi=>?_⟩;have h':m=0\/row.length<=q+1:=by
   rcases AMu m with h0 |h0
   ·exact .inl h0
   ·refine .inr ?_;simp only[ANB,ANv,AMW]at h;omega
  show bt (row.set q (fq .u64 (row.getD q 0) (N6 .u64 (low.getD k 0) (m:Int)))) i=_;rw[NR];by_cases h2:i/64=q
  ·simp only[h2,decide_true,AN5];by_cases h3:a+64*k<=i
   ·simp[h3,show i<a+64*k+64 by omega]
   ·simp[h3]
  ·rw [show(decide (a+64*k<=i)&&(decide (i<a+64*k+64)&&bt low (i-a)))=false by
     by_cases h3:a+64*k<=i
     ·simp[show ¬i<a+64*k+64 by omega]
     ·simp[h3]]
   simp[h2]
theorem Agn{w b:Int}{a:Nat}{low row:AOz}(hw:Ea low)(hr:Ea row)(hl:low.length<=1048576)(ha:a<=1048576)(FR:∀k,k<low.length->(a+64*k)/64<row.length) :
    Ay (NS b (a:Int) (w,low,()) row) λr=>Ea r/\r.length=row.length/\∀i,i<64*row.length->bt r i=(bt row i||(decide (a<=i)&&bt low (i-a))):=by
 refine Ay.bind (BR (λk (s:AOz)=>((k:Int),s)) low.length (λk s=>Ea s/\s.length=row.length/\∀i,i<64*row.length->bt s i=(bt row i||(decide (a<=i)&&(decide (i<a+64*k)&&bt low (i-a))))) (Q:=λr=>Ea r/\r.length=row.length/\∀i,i<64*row.length->bt r i=(bt row i||(decide (a<=i)&&bt low (i-a)))) (λk s hk hI=>?_) (λs hI=>?_) (s0:=row) ⟨hr,rfl,λi _=>by
     grind⟩) λr h=>Ay.mk h
 ·unfold GX Jy;rw[Dy hk];refine Ay.bind (AsR hw hI.1 hk (by omega) (by grind)) λr h=>Ay.mk ⟨r,?_,h.1,h.2.1.trans hI.2.1,λi hi=>?_⟩
  ·rw[show wI ((k:Int)+1)=((k+1:Nat):Int)from A1]
  grind
 ·unfold GX Jy;rw[Fb];refine Ay.mk ⟨hI.1,hI.2.1,λi hi=>?_⟩;rw[hI.2.2 i hi];by_cases h1:a<=i
  ·by_cases h2:i<a+64*low.length
   ·grind
   ·rw[Yl (by omega:64*low.length<=i-a)];simp
  ·grind
theorem Akf{n m:Nat}{f g:Nat->Bool}(hn:n+m<=8192):GV (mkB n f) (mkB m g)=some (((n+m:Nat):Int),jf (low (λi=>if i<m then g i else f (i-m)) (n+m)) (nw (n+m))):=by
 unfold GV mkB;refine Ay.eq_ ?_;rw[show wI _=((n+m:Nat))from A1,Yd (by omega),AL6];refine Ay.bind (Agn (a:=0) (GG _ _) Ea.rep (by rw[Hp];unfold nw;omega) (by omega) λk hk=>by rw[Hp]at hk;rw[AMD];unfold nw at *;omega) λr1 h1=>?_;rw[AMD]at h1;refine Ay.bind (Agn  (GG _ _) h1.1 (by rw[Hp];unfold nw;omega) (by omega) λk hk=>by rw[Hp]at hk;unfold nw at *;omega) λr2 h2=>Ay.mk ?_;refine congrArg _ (TR h2.1 (GG _ _) (by rw[h2.2.1,h1.2.1,Hp]) λi hi=>?_);have qR:i<64*nw (n+m):=by grind
 rw[h2.2.2 i (by grind),h1.2.2 i qR,Ads,Jv,Jv,Jv]
 grind
theorem ArO{a k:Nat}{w w1 w2 j:Int}{ws row:AOz}(hw:Ea ws)(hr:Ea row)(hk:k<row.length)(hb:a+64*k<1073741824)(FR:(a+64*k)/64<ws.length) :
    Ay (IX (a:Int) w1 w2 (k:Int) (w,ws,()) j row) λr=>Ea r/\r.length=row.length/\∀i,bt r i=if i/64=k then bt ws (a+i)else bt row i:=by
 unfold IX PD;obtain⟨q,hq⟩:∃q,q=(a+64*k)/64:=⟨_,rfl⟩;obtain⟨m,hm⟩:∃m,m=(a+64*k)%64:=⟨_,rfl⟩;have e1:wI (Int.tdiv (((a+64*k:Nat):Int)) 64)=(q:Int):=by rw[dC (by omega),hq]
 have e2:Int.tmod (((a+64*k:Nat):Int)) 64=(m:Int):=by rw[WR,hm]
 have e3:wI ((q:Int)+1)=((q+1:Nat):Int):=A1;have e4:wI (64-(m:Int))=((64-m:Nat):Int):=A1;simp only[AlJ hb,e1,e2,e3,e4,AMf,AL7,zW];rw[AMo ⟨by omega,by omega⟩,OV,AMo (Bl hk)];have hsr:PF (Ro .u64 (ws.getD q 0) (m:Int)):=b9 (hw.getD q) rfl (by omega);have Hu:Ea (row.set k (Ro .u64 (ws.getD q 0) (m:Int))):=hr.set hsr;have XN:(row.set k (Ro .u64 (ws.getD q 0) (m:Int))).getD k 0=Ro .u64 (ws.getD q 0) (m:Int):=by simp[List.getD,hk]
 refine Ay.cond (λh=>?_) λh=>?_
 ·simp only[AMd,ANy,ANj]at h;rw[AMo (Bl hk),AMo ⟨by omega,by omega⟩,OV,AMo (Bl hk),XN];have Iw:PF (N6 .u64 (ws.getD (q+1) 0) ((64-m:Nat):Int)):=qD (hw.getD _) rfl (by omega);refine Ay.mk ⟨Hu.set (qC hsr Iw),by rw[AMf,AMf],λi=>?_⟩;rw[Zw (by rw[AMf];exact hk)];by_cases h1:i/64=k
  ·rw[AMo h1,AMo h1,zL hsr Iw,Z2 (hw.getD _) rfl (by omega),xP (hw.getD _) rfl (by omega)];by_cases h2:i%64+m<64
   ·rw[show decide (64-m<=i%64)=false by simp;omega];unfold bt;rw[show(a+i)/64=q by omega,show(a+i)%64=i%64+m by omega];simp
   ·rw[YO (hw.getD _) (by omega)];unfold bt;rw[show(a+i)/64=q+1 by omega,show(a+i)%64=i%64-(64-m) by omega];simp[show i%64<64 by omega,show 64<=i%64+m by omega]
  ·rw[AMp h1,AMp h1,Zw hk,AMp h1]
 ·have h':m=0\/ws.length<=q+1:=by
    rcases AMu m with h0 |h0
    ·exact .inl h0
    ·refine .inr ?_;simp only[ANB,ANv,AMW]at h;omega
  refine Ay.mk ⟨Hu,AMf,λi=>?_⟩;rw[Zw hk];by_cases h1:i/64=k
  ·rw[AMo h1,AMo h1,Z2 (hw.getD _) rfl (by omega)];by_cases h2:i%64+m<64
   ·unfold bt;rw[show(a+i)/64=q by omega,show(a+i)%64=i%64+m by omega]
   ·rw[YO (hw.getD _) (by omega),Yl (by omega)]
  ·rw[AMp h1,AMp h1]
theorem ArP{n a w:Nat}{f:Nat->Bool}(hn:n<=1048576)(h1:1<=w)(h:a+w<=n):EH (mkB n f) (a:Int) (w:Int)=some ((w:Int),jf (low (λi=>f (a+i)) w) (nw w)):=by
 unfold EH mkB;refine Ay.eq_ ?_;rw[Yd (by omega),AL6];show Ay ((Mw (a:Int) (w:Int) ((n:Int),jf (low f n) (nw n),()) (((List.replicate (nw w) (0:Int)).length:Nat):Int) (w:Int) 0 (List.replicate (nw w) 0)).bind _) _;rw[AMD];have hwl:1<=nw w:=by unfold nw;omega
 refine Ay.bind (P:=λr=>Ea r/\r.length=nw w/\∀i,i<64*nw w->bt r i=bt (jf (low f n) (nw n)) (a+i)) ?_ λr hr=>?_
 ·unfold Mw;refine BR (λk (s:AOz)=>((k:Int),s)) (nw w) (λk s=>Ea s/\s.length=nw w/\∀i,i<64*k->bt s i=bt (jf (low f n) (nw n)) (a+i)) (λk s hk hI=>?_) (λs hI=>?_) (s0:=List.replicate (nw w) 0) ⟨Ea.rep,AMD,λi hi=>by omega⟩
  ·unfold GU Jx;simp only;rw[Dy hk,AMm];refine Ay.bind (ArO (GG _ _) hI.1 (by rw[hI.2.1];exact hk) (by unfold nw at hk;omega) (by rw[Hp];unfold nw at *;omega)) λr h=>Ay.mk ⟨r,?_,h.1,h.2.1.trans hI.2.1,λi hi=>?_⟩
   ·rw[show wI ((k:Int)+1)=((k+1:Nat):Int)from A1 (by omega) (by unfold nw at hk;omega)]
   ·rw[h.2.2 i];by_cases h3:i/64=k
    ·rw[AMo h3]
    ·rw[AMp h3,hI.2.2 i (by omega)]
  ·unfold GU Jx;simp only;rw[Fb,AMl];exact Ay.mk hI
 ·unfold Mx;obtain⟨m,hm⟩:∃m,m=w%64:=⟨_,rfl⟩;have e2:Int.tmod (w:Int) 64=(m:Int):=by rw[WR,hm]
  have e3:wI ((r.length:Int)-1)=((nw w-1:Nat):Int):=by rw[hr.2.1];exact A1 (by omega) (by unfold nw;omega)
  simp only[e2,e3,AL7,zW];refine Ay.bind (P:=λx=>x=jf (low (λi=>f (a+i)) w) (nw w)) (Ay.cond (λh=>?_) λh=>?_) λx hx=>Ay.mk (by rw[hx])
  ·simp only[ANy]at h;rw[AMo ⟨by omega,by rw[hr.2.1];omega⟩,OV,AMo ⟨by omega,by rw[hr.2.1];omega⟩];have pe:PF (IntKind.u64.wrap (N6 .u64 1 (m:Int)-1)):=Ahk rfl (by omega);refine Ay.mk (TR (hr.1.set (zR (hr.1.getD _) pe)) (GG _ _) (by rw[AMf,hr.2.1,Hp]) λi hi=>?_);rw[AMf,hr.2.1]at hi;rw[Zw (by rw[hr.2.1];omega),Jv];by_cases h3:i/64=nw w-1
   ·rw[AMo h3,Ahc (hr.1.getD _) pe,Akv rfl (by omega)];have:tb (r.getD (nw w-1) 0) (i%64)=bt r i:=by unfold bt;rw[h3]
    rw[this,hr.2.2 i hi,Jv];unfold nw at h3;by_cases h4:i<w
    ·simp[h4,show a+i<n by omega,show i%64<m by omega]
    ·simp[h4,show ¬i%64<m by omega]
   ·rw[AMp h3,hr.2.2 i hi,Jv];unfold nw at h3 hi;simp[show i<w by omega,show a+i<n by omega]
  ·have h0:m=0:=by
     have:(m:Int)=0:=by simpa using h
     omega
   refine Ay.mk (TR hr.1 (GG _ _) (by rw[hr.2.1,Hp]) λi hi=>?_);rw[hr.2.1]at hi;rw[hr.2.2 i hi,Jv,Jv];unfold nw at hi;simp[show i<w by omega,show a+i<n by omega]
theorem l9{l:AOA}(h1:1<=l.length)(h2:l.length<=4096):Po (l.map bI)=some ((l.length:Int),true,jf (low (λi=>l.getD i false) l.length) (nw l.length)):=by
 unfold Po PD;refine Ay.eq_ ?_;rw[AMi];have hn:nw l.length<=1048576:=by unfold nw;omega
 rw[show(decide ((l.length:Int)<1)||decide ((l.length:Int)>4096))=false by simp;omega,AMl,YS (by omega),AMo ⟨rfl,by omega,by omega,by omega,by omega⟩,AL7];unfold Uo;refine Ay.bind (BR (λk (s:AOz)=>((k:Int),s)) l.length (λk s=>Ea s/\s.length=nw l.length/\∀i,bt s i=(decide (i<k)&&l.getD i false)) (Q:=λr=>r=jf (low (λi=>l.getD i false) l.length) (nw l.length)) (λk s hk hI=>?_) (λs hI=>?_) (s0:=List.replicate (nw l.length) 0) ⟨Ea.rep,AMD,λi=>by rw[Ads];simp⟩) λr hr=>Ay.mk (by rw[hr])
 ·unfold Jf MU;have hq:k/64<s.length:=by rw[hI.2.1];unfold nw;omega
  have ABX:PF (bI (l.getD k false)):=by unfold bI;split<;>first |exact b8 |exact Yc
  have AGv:IntKind.u64.wrap (bI (l.getD k false))=bI (l.getD k false):=by cases l.getD k false<;>rfl
  have VY:(l.map bI).getD k 0=bI (l.getD k false):=by simp[List.getD,hk]
  simp only[AMi,dC (show k<4611686018427387904 by omega),WR,AL7,zW,VY,AGv,qH (show(0:Int)<=((k%64:Nat):Int) by omega) (by omega)];rw[Dy hk,AMm,AMo ⟨by omega,by omega⟩,AMo (Bl hk),OV,AMo ⟨by omega,by omega⟩];have Iw:PF (N6 .u64 (bI (l.getD k false)) ((k%64:Nat):Int)):=qD ABX rfl (by omega);refine Ay.mk ⟨_,by rw[show wI ((k:Int)+1)=((k+1:Nat):Int)from A1],hI.1.set (qC (hI.1.getD _) Iw),by rw[AMf];exact hI.2.1,λi=>?_⟩;rw[Zw hq];have tbb:∀b j,tb (bI b) j=(decide (j=0)&&b):=λb j=>by cases b<;>simp[bI,Ahd,WN]
  by_cases h3:i/64=k/64
  ·rw[AMo h3,zL (hI.1.getD _) Iw,xP ABX rfl (by omega),tbb];have:tb (s.getD (k/64) 0) (i%64)=bt s i:=by unfold bt;rw[h3]
   rw[this,hI.2.2 i];rcases Nat.lt_trichotomy i k with h |h |h
   ·simp[h,show i<k+1 by omega,show ¬k%64<=i%64 by omega]
   ·subst h;simp[show i%64<64 by omega]
   ·simp[show ¬i<k by omega,show ¬i<k+1 by omega];omega
  ·rw[AMp h3,hI.2.2 i];by_cases h:i<k
   ·simp[h,show i<k+1 by omega]
   ·simp[h,show ¬i<k+1 by omega]
 ·unfold Jf MU;rw[AMi,Fb,AMl];refine Ay.mk (TR hI.1 (GG _ _) (by rw[Hp];exact hI.2.1) λi hi=>?_);rw[hI.2.2 i,Jv]
theorem az{w:Int}{ws:AOz}(h:ws.length<=1048576):De (w,ws,())=some (w,ws):=by
 unfold De;rw[AMo (by grind)]
def Small(f:AOF):Prop:=f.length<=1048576/\∀s∈f,s.2.2.2.1.2.1.length<=1048576
theorem AJ{A:Type}{l:APH A}{z:A}{k:Nat}(h:k<l.length):l.getD k z∈l:=by
 rw[show l.getD k z=l[k] by simp[List.getD,h]];exact AMO h
theorem AW{A:Type}{l:APH A}{z:A}{k:Nat}(h:k<l.length):l.take (k+1)=l.take k++[l.getD k z]:=by
 rw[AM6 h,show l.getD k z=l[k] by simp[List.getD,h]]
theorem Bj{k n:Nat}(hk:k<n)(hn:n<=1048576):wI ((k:Int)+1)=((k+1:Nat):Int):=A1
def CK{A:Type}(g:Nat->A)(z:A)(n k:Nat):APH A:=(List.range n).map λi=>if i<k then g i else z
theorem LU{A:Type}(g:Nat->A)(z:A)(n:Nat):CK g z n 0=List.replicate n z:=by
 refine AM1 (by simp[CK]) λi h1 h2=>by simp[CK]
theorem Pb{A:Type}(g:Nat->A)(z:A){n k:Nat}:(CK g z n k).set k (g k)=CK g z n (k+1):=by
 refine AM1 (by simp[CK]) λi h1 h2=>?_;simp only[CK,List.getElem_set,List.getElem_map,List.getElem_range];by_cases h:k=i
 ·subst h;simp
 ·rw[AMp h];by_cases h3:i<k
  ·rw[AMo h3,Vk]
  ·rw[AMp h3,OV]
theorem HG{A:Type}(g:Nat->A)(z:A)(n k:Nat):(CK g z n k).length=n:=by simp[CK]
theorem iA{A:Type}(l:APH A)(y z:A):CK (λi=>l.getD i y) z l.length l.length=l:=by
 refine AM1 (by simp[CK]) λi h1 h2=>by simp[CK,List.getD,h2]
theorem oA{f:AOF}(h:Small f):LY f=some f:=by
 unfold LY PY;have h1:=h.1;rw[AMo ⟨rfl,by omega,by omega,by omega,by omega⟩,AL7];rw[show fix (C7 f (f.length:Int)) (0,List.replicate f.length (0,0,0,(0,([]:AOz),()),()))=some f from by
  have:=AU (f:=C7 f (f.length:Int)) (λk=>((k:Int),CK (λi=>f.getD i Ae.zero) (0,0,0,(0,([]:AOz),()),()) f.length k)) (t:=f) f.length (λk hk=>by
   unfold C7 Iy;simp only[Dy hk,AMm,AMo (Bl hk),AL7,HG];rw[az (h.2 _ (AJ hk)),AL6,Bj hk h1,<-Pb]) (by
   unfold C7 Iy;simp only[Fb,AMl,iA])
  rw[LU]at this;exact this]
 rfl
theorem jJ{a:AOz}(hn:a.length<=maxLen):Xj IL a :=
 ZF (F:=λx y=>some (x==y)) (z :=APs.zero) (r:=λa b=>EO a b a.length) (λ_ _=>rfl) (λ_ _ _=>rfl) hn λx _ y=>Ay.mk (by simp)
theorem rB{a:AOr}(h:a.2.1.length<=maxLen):Xj LX a:=by
 intro b;obtain⟨w,ws,_⟩:=a;obtain⟨w',ko,_⟩:=b;unfold LX;refine Ay.cond (λh1=>Ay.bind (jJ h ko) λr hr=>Ay.mk (by simp at h1;simp[hr,h1])) λh1=>Ay.mk (by simp at h1;simp[h1])
theorem nj:(1048576:Nat)<=maxLen:=by decide
theorem eC{a:AOr}(h:a.2.1.length<=maxLen):Xj Ef a:=by
 intro b;obtain⟨w,ws,_⟩:=a;obtain⟨w',ko,_⟩:=b;unfold Ef PD;refine Ay.cond (λh1=>Ay.mk ?_) λh1=>?_
 ·simp only[ANp,ANy]at h1;simp only[AMU,false_iff,AMj,and_true,not_and]
  rintro rfl rfl
  simp at h1
 ·simp only[AM8,ANv]at h1;have h1:w=w'/\(ws.length:Int)=(ko.length:Int):=h1;refine Ay.bind (yR (F:=λx y=>some (x==y)) (z :=APs.zero) (a:=ws) (b:=ko) (f:=Dw (w,ws,()) (w',ko,())) (by omega) h (λx _ y=>Ay.mk (by simp)) (λk hk=>?_) ?_) λt ht=>?_
  ·unfold Dw Ie;simp only[Dy hk,AMm,AMo (Bl hk),AMo (Bl (show k<ko.length by omega)),AL7];rfl
  ·unfold Dw Ie;simp only[Fb,AMl]
  ·rcases ht with ⟨rfl,e⟩|⟨rfl,e⟩
   ·exact Ay.mk ⟨λ_=>by rw[h1.1,e],λ_=>rfl⟩
   ·exact Ay.mk ⟨λh=>by(cases h),λh'=>(e (congrArg (λx=>x.2.1) h')).elim⟩
end Go.Proofs.X
namespace Go.Va
open Go.Proofs.X
inductive Bt
 |co (b:Bool)
 |va (v a:Nat)
inductive Sg
 |co (b:AOA)
 |va (v l n:Nat)
def Sg.bits:Sg->APH Bt
 |.co b=>b.map .co
 |.va v l n=>(List.range n).map λk=>.va v (l+k)
def Sg.w:Sg->Nat
 |.co b=>b.length
 |.va _ _ n=>n
def Bt.sg:Bt->Sg
 |.co b=>.co [b]
 |.va v a=>.va v a 1
def Sg.join:Sg->Sg->APJ Sg
 |.co a,.co b=>some (.co (a++b))
 |.va v l n,.va v' l' n'=>if v=v'/\l+n=l' then some (.va v l (n+n'))else none
 |_,_=>none
def Sg.bm(a b:Sg):Bool:=(a.join b).isSome
def HA(f:APH Sg)(s:Sg):APH Sg :=
 match f.getLast? with
 |none=>[s]
 |some l=>match l.join s with
  |some j=>f.dropLast++[j]
  |none=>f++[s]
def S6(f ss:APH Sg):APH Sg:=ss.foldl HA f
def Xw(f:APH Sg)(bs:APH Bt):APH Sg:=bs.foldl (λf b=>HA f b.sg) f
def Ax(bs:APH Bt):APH Sg:=Xw [] bs
def Dn(f:APH Sg):APH Bt:=f.flatMap Sg.bits
def Be(f:APH Sg):Nat:=(f.map Sg.w).sum
theorem Ui(s:Sg):HA [] s=[s]:=rfl
theorem EX(g:APH Sg)(l s:Sg):HA (g++[l]) s=match l.join s with |some j=>g++[j]|none=>g++[l,s]:=by
 unfold HA;rw[List.getLast?_append];simp only[List.getLast?_singleton,Option.some_or,List.dropLast_concat];cases l.join s<;>simp
theorem HP(s:Sg):s.bits.length=s.w:=by cases s<;>simp[Sg.bits,Sg.w]
theorem KD(f:APH Sg):(Dn f).length=Be f:=by
 induction f with
 |nil=>rfl
 |cons s f ih=>simp only[Dn,Be,List.flatMap_cons,AMa,HP,AMT,AOh]at *;rw[ih]
theorem lZ{a b j:Sg}(h:a.join b=some j):j.bits=a.bits++b.bits:=by
 cases a<;>cases b<;>simp only[Sg.join]at h
 ·cases h;simp[Sg.bits]
 ·cases h
 ·cases h
 ·rename_i v l n v' l' n';split at h
  ·rename_i hc;cases h;obtain⟨rfl,rfl⟩:=hc;simp only[Sg.bits];rw[List.range_add,AMQ,AN2];congr 1;refine AMV λk _=>?_;simp[ANa]
  ·cases h
theorem eu(f:APH Sg)(s:Sg):Dn (HA f s)=Dn f++s.bits:=by
 rcases ANg f with rfl |⟨g,l,rfl⟩
 ·simp[Ui,Dn]
 ·rw[ANh,EX];cases h:l.join s with
  |none=>simp[Dn]
  |some j=>simp[Dn,lZ h]
theorem Aaq(f:APH Sg)(bs:APH Bt):Dn (Xw f bs)=Dn f++bs:=by
 induction bs generalizing f with
 |nil=>simp[Xw]
 |cons b bs ih =>
  rw[show Xw f (b::bs)=Xw (HA f b.sg) bs from rfl,ih,eu];cases b<;>simp[Bt.sg,Sg.bits]
theorem Fu(bs:APH Bt):Dn (Ax bs)=bs:=Aaq [] bs
theorem LR(f:APH Sg)(a b:APH Bt):Xw f (a++b)=Xw (Xw f a) b:=ANW
theorem xG(s:Sg)(h:2<=s.w):∃(t:Sg) (b:Bt),1<=t.w/\t.w<s.w/\s.bits=t.bits++[b]/\t.join b.sg=some s/\(∀l j:Sg,l.join t=some j->j.join b.sg=l.join s)/\(∀l:Sg,l.join t=none->l.join s=none):=by
 cases s with
 |co bs =>
  simp only[Sg.w]at h;rcases ANg bs with rfl |⟨cs,x,rfl⟩
  ·simp at h
  ·rw[ANh]at h⊢;refine⟨.co cs,.co x,?_,?_,?_,rfl,λl j hj=>?_,λl hl=>?_⟩
   ·simp[Sg.w]at h⊢;omega
   ·simp[Sg.w]
   ·simp[Sg.bits]
   ·cases l<;>simp only[Sg.join]at hj
    ·cases hj;simp[Sg.join,Bt.sg]
    ·cases hj
   ·cases l<;>simp[Sg.join]at hl⊢
 |va v l n =>
  simp only[Sg.w]at h;obtain⟨m,rfl⟩:∃m,n=m+1:=⟨n-1,by omega⟩;refine⟨.va v l m,.va v (l+m),by simp[Sg.w];omega,by simp[Sg.w],?_,by simp[Sg.join,Bt.sg],λk j hj=>?_,λk hk=>?_⟩
  ·simp[Sg.bits,ANc]
  ·cases k<;>simp only[Sg.join]at hj
   ·cases hj
   ·split at hj
    ·rename_i hc;cases hj;obtain⟨rfl,rfl⟩:=hc;simp[Sg.join,Bt.sg,ANa]
    ·cases hj
  ·cases k with
   |co b=>rfl
   |va v' l' n' =>
    simp only[Sg.join]at hk⊢;split at hk
    ·cases hk
    ·rename_i hc;rw[AMp hc]
theorem X4:∀(n:Nat) (s:Sg) (f:APH Sg),s.w=n->1<=n->HA f s=Xw f s.bits:=by
 intro n;induction n using Nat.strongRecOn with
 |_ n ih =>
  intro s f hn h1;rcases AMh 1 n with h |h
  ·obtain⟨t,b,ht1,ht2,hb,hj,hlj,hln⟩:=xG s (by omega);rw[hb,LR,<-ih t.w (by omega) t f rfl ht1];show _=HA (HA f t) b.sg;rcases ANg f with rfl |⟨g,l,rfl⟩
   ·rw[Ui,Ui,show[t]=[]++[t]from rfl,EX,hj];rfl
   ·rw[ANh,EX,EX];cases hl:l.join t with
    |none =>
     rw[hln l hl];simp only;rw[show g++[l,t]=(g++[l])++[t] by simp,EX,hj];simp
    |some j =>
     simp only;rw[EX,hlj l j hl];cases hls:l.join s with
     |some k=>rfl
     |none =>
      have:=hlj l j hl;rw[hls]at this
      exfalso
      cases l<;>cases s<;>cases t<;>simp[Sg.join]at hl hls hj
      all_goals first |(cases b<;>simp[Bt.sg,Sg.join]at hj<;>done)|skip
      all_goals (cases b<;>simp[Bt.sg,Sg.join]at hj;try omega)
  ·have:n=1:=by omega
   subst this;have hs:∃b:Bt,s=b.sg/\s.bits=[b]:=by
    cases s with
    |co bs =>
     simp only[Sg.w]at hn;obtain⟨x,rfl⟩:=List.length_eq_one_iff.1 hn;exact⟨.co x,rfl,rfl⟩
    |va v l m =>
     simp only[Sg.w]at hn;subst hn;exact⟨.va v l,rfl,by simp[Sg.bits]⟩
   obtain⟨b,hb,ABY⟩:=hs;rw[ABY,hb];rfl
def YX(f:APH Sg):Prop:=∀s∈f,1<=s.w
theorem eB{f ss:APH Sg}(h:YX ss):S6 f ss=Xw f (Dn ss):=by
 induction ss generalizing f with
 |nil=>rfl
 |cons s ss ih =>
  rw[show S6 f (s::ss)=S6 (HA f s) ss from rfl,ih λx hx=>h x (AMy _ hx),X4 _ s f rfl (h s AMB),show Dn (s::ss)=s.bits++Dn ss from rfl,LR]
theorem AsH{a b j:Sg}(h:a.join b=some j):j.w=a.w+b.w:=by rw[<-HP,lZ h,AMa,HP,HP]
theorem eA{f:APH Sg}{s:Sg}(hf:YX f)(hs:1<=s.w):YX (HA f s):=by
 rcases ANg f with rfl |⟨g,l,rfl⟩
 ·intro x hx;rw[Ui,AMx]at hx;rw[hx];exact hs
 ·rw[ANh]at hf⊢;rw[EX];have hl:=hf l (by simp);cases h:l.join s with
  |none =>
   intro x hx;simp only[ANr,ANH,AOd,or_false]at hx;rcases hx with hx |rfl |rfl
   ·exact hf x (by simp[hx])
   ·exact hl
   ·exact hs
  |some j =>
   intro x hx;simp only[ANr,ANH,AOd,or_false]at hx;rcases hx with hx |rfl
   ·exact hf x (by simp[hx])
   ·rw[AsH h];omega
theorem AsW(b:Bt):b.sg.w=1:=by cases b<;>rfl
theorem Aar{f:APH Sg}(hf:YX f)(bs:APH Bt):YX (Xw f bs):=by
 induction bs generalizing f with
 |nil=>exact hf
 |cons b bs ih=>exact ih (eA hf (by rw[AsW];exact AMc _))
theorem C1(bs:APH Bt):YX (Ax bs):=Aar (λx hx=>by cases hx) bs
theorem Cd(bs:APH Bt):Be (Ax bs)=bs.length:=by rw[<-KD,Fu]
theorem ua(a b:APH Bt):S6 (Ax a) (Ax b)=Ax (a++b):=by
 rw[eB (C1 b),Fu];exact(LR [] a b).symm
theorem CM{f:APH Sg}(h:YX f):f.length<=Be f:=by
 induction f with
 |nil=>exact AMc _
 |cons s f ih =>
  have:=ih λx hx=>h x (AMy _ hx);have:=h s AMB;simp only[Be,ANe,AMT,AOh]at *;omega
end Go.Va
namespace Go.Proofs.X
open Go Go.Va
set_option maxRecDepth 100000
def XU(bs:AOA):AOr:=mkB bs.length λi=>bs.getD i false
def HI:Sg->AOo
 |.co bs=>(-1,0,(bs.length:Int),XU bs,())
 |.va v l n=>((v:Int),(l:Int),(n:Int),(0,[],()),())
def VM:Bt->AOl
 |.co b=>(-1,bI b,())
 |.va v a=>((v:Int),(a:Int),())
def fV(f:APH Sg):AOF:=f.map HI
def bV(f:APH Bt):AOC:=f.map VM
def VB:Sg->Prop
 |.co bs=>bs.length<=4096
 |.va v l n=>v<=4096/\l+n<=4096
theorem xe{bs:AOA}{n:Nat}{f:Nat->Bool}(hl:bs.length=n)(h:∀i,i<n->bs.getD i false=f i):XU bs=mkB n f:=by
 unfold XU;rw[hl];exact Abn h
theorem Agg{a b:AOA}(h:a.length+b.length<=8192):∃r,GV (XU b) (XU a)=some r/\(r.1,r.2,())=XU (a++b):=by
 refine⟨_,Akf (by omega),(xe (by grind) λi hi=>?_).symm⟩
 grind
theorem yJ{bs:AOA}{a w:Nat}(hn:bs.length<=8192)(h1:1<=w)(h:a+w<=bs.length):∃r,EH (XU bs) (a:Int) (w:Int)=some r/\(r.1,r.2,())=XU ((bs.drop a).take w):=by
 refine⟨_,ArP (by omega) h1 h,(xe (by grind) λi hi=>?_).symm⟩;simp[hi]
theorem AfW{a b:Sg}(ha:VB a):DG (HI a) (HI b)=a.bm b:=by
 cases a with
 |co x =>
  cases b with
  |co y=>simp[DG,HI,Sg.bm,Sg.join]
  |va v l n =>
   simp only[DG,HI,Sg.bm,Sg.join,ANB];simp
 |va v l n =>
  cases b with
  |co y =>
   simp only[DG,HI,Sg.bm,Sg.join,ANB];simp
  |va v' l' n' =>
   simp only[VB]at ha;simp only[DG,HI,Sg.bm,Sg.join];rw[show wI _=((l+n))from A1]
   grind
theorem AaX{A:Type}(g:APH A)(x z:A):(g++[x]).getD g.length z=x:=by grind
theorem jF{A:Type}(g:APH A)(x y:A):(g++[x]).set g.length y=g++[y]:=by simp
theorem Q9(f g:APH Sg):fV (f++g)=fV f++fV g:=AMQ
theorem Ce(f:APH Sg):(fV f).length=f.length:=AMi _
theorem FZ{A B:Type}(f:A->B){l:APH A}{k:Nat}{y:A}{z:B}(h:k<l.length):(l.map f).getD k z=f (l.getD k y):=by grind
theorem xr{ss f:APH Sg}{k:Nat}{b:Int}(hk:k<ss.length)(hs:VB (ss.getD k (.co [])))(hf:∀s∈f,VB s)(hl:f.length<=1048576):NY (fV ss) b (k:Int) (fV f)=some (fV (HA f (ss.getD k (.co [])))):=by
 obtain⟨s,dU⟩:∃s,s=ss.getD k (.co []):=⟨_,rfl⟩;have VY:(fV ss).getD k Ae.zero=HI s:=by rw[dU];exact FZ HI hk
 rw[<-dU]at hs⊢;unfold NY;rw[AMo (Bl (by rw[Ce];exact hk)),AL7,VY];rcases ANg f with rfl |⟨g,l,rfl⟩
 ·rfl
 ·rw[ANh]at hf hl⊢;have hbl:VB l:=hf l (by simp);have hfl:(fV (g++[l])).length=g.length+1:=by rw[Ce,AMa];rfl
  have e1:wI (((fV (g++[l])).length:Int)-1)=(g.length:Int):=by
   exact A1 (by omega) (by grind)
  have hgl:(fV (g++[l])).getD g.length Ae.zero=HI l:=by
   rw[Q9,<-Ce g];exact AaX _ _ _
  have e2:decide ((g.length:Int)<0)=false:=by simp
  have e3:(0:Int)<=(g.length:Int)/\(g.length:Int)<((fV (g++[l])).length:Int):=⟨by omega,by omega⟩;rw[e1,EX];unfold RI;rw[e2,AMl,AMo e3,AL7,hgl,AfW hbl];cases hj:l.join s with
  |none =>
   rw[show l.bm s=false by unfold Sg.bm;rw[hj];rfl];show(if(_+1)*56<=_ then _ else none)=_;rw[AMo (by grind)];simp[fV]
  |some j =>
   rw[show l.bm s=true by unfold Sg.bm;rw[hj];rfl];show(NW (fV ss) b (k:Int) (fV (g++[l])) (g.length:Int) (HI s)).bind _=_;unfold NW;cases l with
   |co x =>
    cases s with
    |va v' l' n'=>simp[Sg.join]at hj
    |co y =>
     simp only[Sg.join,AL8]at hj;subst hj;simp only[VB]at hbl hs;obtain⟨r,dT,hr2⟩:=Agg (a:=x) (b:=y) (by omega);rw[show((HI (.co y)).1==(-1:Int))=true from rfl,AMm,AMo e3,AL7,hgl];rw[show GV (HI (.co y)).2.2.2.1 (HI (.co x)).2.2.2.1=some r from dT,AL6,AMo e3,hr2,AL6];have e4:(0:Int)<=(g.length:Int)/\(g.length:Int)<(((fV (g++[Sg.co x])).set g.length ((HI (.co x)).1,(HI (.co x)).2.1,(HI (.co x)).2.2.1,XU (x++y),(HI (.co x)).2.2.2.2)).length:Int):=by grind
     rw[AMo e4,AMo e4];have Hu:(fV (g++[Sg.co x])).set g.length ((HI (.co x)).1,(HI (.co x)).2.1,(HI (.co x)).2.2.1,XU (x++y),(HI (.co x)).2.2.2.2)=fV g++[(-1,0,(x.length:Int),XU (x++y),())]:=by
      rw[Q9,<-Ce g];exact jF _ _ _
     rw[Hu,show(fV g++[((-1,0,(x.length:Int),XU (x++y),()):AOo)]).getD g.length Ae.zero=(-1,0,(x.length:Int),XU (x++y),()) by grind];rw[show wI ((x.length:Int)+(HI (.co y)).2.2.1)=(((x++y).length:Nat):Int) by
      rw[AMa];exact A1 (by show(x.length:Int)+(y.length:Int)=_;omega) (by omega)]
     rw[Q9,<-Ce g,jF];rfl
   |va v l n =>
    cases s with
    |co y=>simp[Sg.join]at hj
    |va v' l' n' =>
     simp only[VB]at hbl hs;simp only[Sg.join]at hj;split at hj
     ·cases hj;rw[show((HI (.va v' l' n')).1==(-1:Int))=false by simp[HI],AMl,AL6,AMo e3,AMo e3];rw[hgl];rw[show wI ((HI (.va v l n)).2.2.1+(HI (.va v' l' n')).2.2.1)=((n+n':Nat):Int)from A1 (by show(n:Int)+(n':Int)=_;omega) (by omega)];rw[Q9,<-Ce g];show some (List.set (fV g++[HI (.va v l n)]) (fV g).length _)=_;rw[jF,Q9];rfl
     ·grind
theorem bL{f:APH Sg}{s:Sg}(hf:∀x∈f,VB x)(hs:VB s)(hw:Be f+s.w<=4096):∀x∈HA f s,VB x:=by
 rcases ANg f with rfl |⟨g,l,rfl⟩
 ·intro x hx;rw[Ui,AMx]at hx;rw[hx];exact hs
 ·rw[ANh]at hf hw⊢;rw[EX];have hl:=hf l (by simp);cases h:l.join s with
  |none =>
   grind
  |some j =>
   intro x hx;simp only[ANr,ANH,AOd,or_false]at hx;rcases hx with hx |rfl
   ·grind
   ·cases l<;>cases s<;>simp only[Sg.join]at h
    ·cases h;simp only[Be,AMQ,ANS,AMT,AOh,Sg.w]at hw;simp only[VB,AMa];omega
    ·grind
    ·grind
    ·split at h
     ·cases h;simp only[VB]at hl hs⊢;omega
     ·grind
theorem jv(f:APH Sg)(s:Sg):Be (HA f s)=Be f+s.w:=by
 rw[<-KD,eu,AMa,KD,HP]
theorem EZ{f:APH Sg}{k:Nat}(h:k<f.length):Be (f.take (k+1))=Be (f.take k)+(f.getD k (.co [])).w:=by
 rw[AW h (z:=.co [])];simp[Be]
theorem EP(f:APH Sg)(k:Nat):Be (f.take k)<=Be f:=by
 have:Be f=Be (f.take k)+Be (f.drop k):=by
  unfold Be;rw[<-ANS,<-AMQ,ANm]
 omega
theorem tZ{ss f:APH Sg}(h1:YX ss)(h2:YX f)(hs:∀s∈ss,VB s)(hf:∀s∈f,VB s)(hw:Be f+Be ss<=4096):Et (fV ss) (fV f)=some (fV (S6 f ss)):=by
 unfold Et Vn;have hlen:=CM h1;have V2:∀k,k<=ss.length->YX (S6 f (ss.take k))/\(∀s∈S6 f (ss.take k),VB s)/\Be (S6 f (ss.take k))=Be f+Be (ss.take k):=by
  intro k;induction k with
  |zero=>exact λ_=>⟨h2,hf,rfl⟩
  |succ k ih =>
   intro hk;obtain⟨i1,i2,i3⟩:=ih (by omega);have hm:ss.getD k (.co [])∈ss:=AJ (by omega);have hwk:=EZ (show k<ss.length by omega);have:=EP ss (k+1);have e:S6 f (ss.take (k+1))=HA (S6 f (ss.take k)) (ss.getD k (.co [])):=by
    rw[AW (show k<ss.length by omega)];exact ANW
   rw[e];exact⟨eA i1 (h1 _ hm),bL i2 (hs _ hm) (by omega),by rw[jv,hwk];omega⟩
 have:=AU (f:=FU _ ((fV ss).length)) (λk=>(k,fV _))  ss.length (λk hk=>by
  obtain⟨i1,i2,i3⟩:=V2 k (by omega);have hm:ss.getD k (.co [])∈ss:=AJ hk;have:=EP ss k;unfold FU Oe;rw[Ce,Dy hk,AMm];rw[xr hk (hs _ hm) i2 (by have:=CM i1;omega),AL6,Bj hk (by omega),AW hk ];rw[show S6 f (ss.take k++[ss.getD k _])=HA (S6 f _) _ from ANW]) (by
  unfold FU Oe;rw[Ce,Fb,AMl,AMg (AMc _)])
 rw[show fix (FU _ _) (0,fV f)=some _ from this];rfl
theorem oR{f:APH Sg}(h1:YX f)(hw:Be f<=4096):BL (fV f)=some (Be f:Int):=by
 unfold BL PZ;have hlen:=CM h1;have:=AU (f:=C8 _ ((fV f).length)) (λk=>((Be _),k))  f.length (λk hk=>by
  have h1:=EZ hk;have h2:=EP f (k+1);unfold C8 IC;rw[Ce,Dy hk,AMm,AMo (Bl hk),AL7];rw[Bj hk (by omega),show(fV f).getD k _=HI _ from FZ HI hk];rw[show(HI _).2.2.1=((f.getD k _).w) by cases f.getD k _<;>rfl];rw[show wI ((Be (f.take k))+((f.getD k (.co [])).w))=(Be (f.take (k+1)))from A1]) (by
  unfold C8 IC;rw[Ce,Fb,AMl,AMg (AMc _)])
 rw[show fix (C8 _ _) (0,0)=some _ from this];rfl
def part(s:Sg)(a w:Nat):Sg :=
 match s with
 |.co bs=>.co ((bs.drop a).take w)
 |.va v l _=>.va v (l+a) w
theorem mK{s:Sg}{a w:Nat}(h:a+w<=s.w):(part s a w).bits=(s.bits.drop a).take w:=by
 cases s with
 |co bs=>simp[part,Sg.bits]
 |va v l n =>
  simp only[Sg.w]at h;simp only[part,Sg.bits];refine AM1 (by grind) λi h1 h2=>?_;simp[ANa]
theorem xl{s:Sg}{a w:Nat}(h:a+w<=s.w):(part s a w).w=w:=by
 rw[<-HP,mK h,AMr,AMG,HP];omega
theorem xk{s:Sg}{a w:Nat}(hs:VB s)(h:a+w<=s.w):VB (part s a w):=by
 cases s with
 |co bs=>simp only[part,VB,AMr,AMG]at *;omega
 |va v l n=>simp only[part,VB,Sg.w]at *;omega
theorem xy{s:Sg}{a w:Nat}(hs:VB s)(h1:1<=w)(h:a+w<=s.w):∃r,NT (HI s) (a:Int) (w:Int)=some r/\(r.1,r.2.1,r.2.2.1,(r.2.2.2.1,r.2.2.2.2,()),())=HI (part s a w):=by
 unfold NT;cases s with
 |co bs =>
  simp only[VB]at hs;simp only[Sg.w]at h;obtain⟨r,dT,hr2⟩:=yJ (show bs.length<=8192 by omega) h1 h;rw[show((HI _).1==-1)=true from rfl,show EH (HI (.co bs)).2.2.2.1 _ w=some r from dT];refine⟨_,rfl,?_⟩;have hw:r.1=w:=by
   have:=congrArg (λx =>x.1) hr2;have e:r.1=((((bs.drop a).take w).length)):=this;rw[e,AMr,AMG];omega
  show(-1,0,r.1,(r.1,r.2,()),())=HI (.co _);rw[hr2];rw[show HI _=(-1,0,(((bs.drop a).take w).length:Int),XU _,())from rfl,hw,show((bs.drop a).take w).length=w by grind]
 |va v l n =>
  simp only[VB]at hs;simp only[Sg.w]at h;refine⟨_,rfl,?_⟩;simp only[part,HI];rw[show wI _=((l+a:Nat))from A1]
theorem fe{f:APH Sg}{k:Nat}(h:k<f.length):(fV f).getD k Ae.zero=HI (f.getD k (.co [])):=FZ HI h
theorem SK{f:APH Sg}{k:Nat}(h:k<f.length):Dn (f.take (k+1))=Dn (f.take k)++(f.getD k (.co [])).bits:=by
 rw[AW h (z:=.co [])];simp[Dn]
theorem X6(s:Sg):(HI s).2.2.1=(s.w:Int):=by cases s<;>rfl
theorem AeB{B S:APH Bt}{lo w:Nat}:((B++S).drop lo).take w=(B.drop lo).take w++(S.drop (max lo B.length-B.length)).take (min (lo+w) (B.length+S.length)-max lo B.length):=by
 rw[List.drop_append,List.take_append,AMG];congr 1;rw[show max lo B.length-B.length=lo-B.length by omega,List.take_eq_take_iff,AMG];omega
theorem Rl{bs:APH Bt}(hb:∀b∈bs,VB b.sg)(hl:bs.length<=4096):∀s∈Ax bs,VB s:=by
 have:∀(bs:APH Bt) (f:APH Sg),(∀b∈bs,VB b.sg)->(∀s∈f,VB s)->Be f+bs.length<=4096->∀s∈Xw f bs,VB s:=λbs=>by
  induction bs with
  |nil=>exact λf _ h _=>h
  |cons b bs ih =>
   intro f hb hf hw;simp only[ANe]at hw;exact ih _ (λx hx=>hb x (AMy _ hx)) (bL hf (hb b AMB) (by rw[AsW];omega)) (by rw[jv,AsW];omega)
 exact this bs [] hb (λs hs=>by grind) (by show 0+_<=_;omega)
theorem sk{f:APH Sg}{lo w:Nat}(h1:YX f)(hf:∀s∈f,VB s)(hb:∀b∈Dn f,VB b.sg)(hw:Be f<=4096)(hlo:lo+w<=8192):EI (fV f) (lo:Int) (w:Int)=some (fV (Ax (((Dn f).drop lo).take w))):=by
 unfold EI Re;have hlen:=CM h1;have:=AU (f:=Eo (lo:Int) (w:Int) (fV f) ((fV f).length:Int)) (λk=>((Be (f.take k):Int),(k:Int),fV (Ax (((Dn (f.take k)).drop lo).take w)))) (t:=fV (Ax (((Dn f).drop lo).take w))) f.length (λk hk=>by
  have hwk:=EZ hk;have PR:=EP f (k+1);have hm:f.getD k (.co [])∈f:=AJ hk;obtain⟨s,hs⟩:∃s,s=f.getD k (.co []):=⟨_,rfl⟩;have hB:(Dn (f.take k)).length=Be (f.take k):=KD _;have Afs:∀b∈((Dn (f.take k)).drop lo).take w,b∈Dn f:=λb hb=>by
   have:=AOe (ANq hb);rw[show Dn f=Dn (f.take k)++Dn (f.drop k) by unfold Dn;rw[<-ANI,ANm]];exact AME _ this
  unfold Eo JD;simp only;rw[Ce,Dy hk,AMm,AMo (Bl hk),AL7,fe hk,Bj hk (by omega),SK hk,AeB,hB,HP,hwk];rw[<-hs]at hm hwk⊢;rw[X6,show wI ((Be (f.take k):Int)+(s.w:Int))=((Be (f.take k)+s.w:Nat):Int)from A1,show wI ((lo:Int)+(w:Int))=((lo+w:Nat):Int)from A1];generalize hA:Be (f.take k)=A at *;rw[show(if(A:Int)>(lo:Int)then(A:Int)else(lo:Int))=((max lo A:Nat):Int) by split<;>omega];rw[show(if((A+s.w:Nat):Int)<((lo+w:Nat):Int)then((A+s.w:Nat):Int)else((lo+w:Nat):Int))=((min (lo+w) (A+s.w):Nat):Int) by split<;>omega];unfold MA;by_cases Bm:max lo A<min (lo+w) (A+s.w)
  ·rw[show decide (((max lo A:Nat):Int)<((min (lo+w) (A+s.w):Nat):Int))=true by simp only[ANj];omega,AMm];rw[show wI (((max lo A:Nat):Int)-(A:Int))=((max lo A-A:Nat):Int)from A1,show wI (((min (lo+w) (A+s.w):Nat):Int)-((max lo A:Nat):Int))=((min (lo+w) (A+s.w)-max lo A:Nat):Int)from A1];have FR:max lo A-A+(min (lo+w) (A+s.w)-max lo A)<=s.w:=by omega
   obtain⟨r,dT,hr2⟩:=xy (a:=max lo A-A) (w:=min (lo+w) (A+s.w)-max lo A) (hf s hm) (by omega) FR;rw[dT,AL6,hr2];rw[show([HI (part s (max lo A-A) (min (lo+w) (A+s.w)-max lo A))]:AOF)=fV [part s (max lo A-A) (min (lo+w) (A+s.w)-max lo A)]from rfl];rw[tZ (λx hx=>by rw[AMx]at hx;rw[hx,xl FR];omega) (C1 _) (λx hx=>by rw[AMx]at hx;rw[hx];exact xk (hf s hm) FR)
    (Rl (λb za=>hb b (Afs b za)) (by rw[AMr,AMG,hB];omega)) (by
     rw[Cd,AMr,AMG,hB];show _+(Be [part s _ _])<=_;rw[show Be [part s (max lo A-A) (min (lo+w) (A+s.w)-max lo A)]=min (lo+w) (A+s.w)-max lo A by simp only[Be,AMT,AN0,AOh,List.sum_nil,xl FR];rfl];omega)]
   simp only[AL6];rw[eB (λx hx=>by rw[AMx]at hx;rw[hx,xl FR];omega)];rw[show Dn [part s (max lo A-A) (min (lo+w) (A+s.w)-max lo A)]=(s.bits.drop (max lo A-A)).take (min (lo+w) (A+s.w)-max lo A) by simp[Dn,mK FR]];rw[show ∀a b:APH Bt,Xw (Ax a) b=Ax (a++b)from λa b=>(LR [] a b).symm]
  ·rw[show decide (((max lo A:Nat):Int)<((min (lo+w) (A+s.w):Nat):Int))=false by simp only[AMW];omega,AMl];simp only[AL6];rw[show min (lo+w) (A+s.w)-max lo A=0 by omega,ANZ,AML]) (by
  unfold Eo JD;simp only;rw[Ce,Fb,AMl,AMg (AMc _)])
 have h0:((Be (f.take 0):Int),((0:Nat):Int),fV (Ax (((Dn (f.take 0)).drop lo).take w)))=((0:Int),(0:Int),([]:AOF)):=by
  simp[Be,Dn,Ax,Xw,fV]
 rw[h0]at this;rw[this];rfl
def BtB:Bt->Prop
 |.co _=>True
 |.va v a=>v<=4096/\a+1<=4096
theorem gL{b:Bt}(h:BtB b):VB b.sg:=by
 cases b with
 |co b=>simp[Bt.sg,VB]
 |va v a=>exact h
theorem Dk(f:APH Bt):(bV f).length=f.length:=AMi _
theorem VL(f g:APH Bt):bV (f++g)=bV f++bV g:=AMQ
theorem gH{f:APH Bt}{k:Nat}(h:k<f.length):(bV f).getD k Aa.zero=VM (f.getD k (.co false)):=FZ VM h
theorem Jl{f:APH Bt}{k:Nat}(h:k<f.length):f.take (k+1)=f.take k++[f.getD k (.co false)]:=AW h
theorem dh(bs:AOA):(XU bs).2.1.length=nw bs.length/\Ea (XU bs).2.1:=⟨Hp _ _,GG _ _⟩
theorem Akb{bs:AOA}{k:Nat}(h:k<bs.length)(hl:bs.length<=8192):Iq (XU bs) (k:Int)=some (bI (bs.getD k false)):=by
 have:=iZ (w:=bs.length) (GG (low (λi=>bs.getD i false) bs.length) (nw bs.length)) (i:=k) (by rw[Hp];unfold nw;omega) (by rw[Hp];unfold nw;omega);rw[oe h]at this;exact this
theorem w7{f:APH Sg}{i:Nat}{B:APH Bt}(hi:i<f.length)(hs:VB (f.getD i (.co [])))(hB:B.length<=8192):Ur (fV f) (i:Int) 0 (bV B)=some (bV (B++(f.getD i (.co [])).bits)):=by
 obtain⟨s,dU⟩:∃s,s=f.getD i (.co []):=⟨_,rfl⟩;rw[<-dU]at hs⊢;have hsw:s.w<=4096:=by cases s<;>simp only[VB,Sg.w]at *<;>omega
 have:=AU (f:=GH _ _) (λk=>(k,bV (B++s.bits.take k)))  s.w (λk hk=>by
  unfold GH MZ Qy;simp only;have qS:0<=(i:Int)/\i<((fV f).length:Int):=Bl (by rw[Ce];exact hi);rw[AMo qS,AL7,fe hi,<-dU,X6,Dy hk,AMm,AMo qS];have hlen:(bV (B++s.bits.take k)).length<=20000:=by rw[Dk,AMa,AMr];omega
  have Xp:k<s.bits.length:=by rw[HP];exact hk
  rw[Bj hk (by omega),Jl Xp,<-AMe,show bV (B++s.bits.take k++[s.bits.getD k _])=bV _++[VM _]from VL _ _];cases s with
  |co bs =>
   simp only[Sg.w]at hk hsw;rw[show decide _=true from rfl,AMm,AMo qS,show Iq (HI (.co bs)).2.2.2.1 _=some _ from Akb hk (by omega),AL6];rw[AMo (by grind)];rw[show wI _=bI (bs.getD k _) by cases bs.getD k _<;>rfl];rw[show(Sg.co bs).bits.getD k _=.co (bs.getD k _) by simp[Sg.bits,hk]];rfl
  |va v l n =>
   simp only[Sg.w,VB]at hk hs hsw;rw[show decide ((HI (.va v l n)).1<0)=false from AL9 (show ¬((v:Int)<0) by omega),AMl,AMo qS,AMo qS,AMo (by grind)];rw[show wI _=((l+k))from A1 (by show l+(k:Int)=_;omega) (by omega)];rw[show(Sg.va v l n).bits.getD k _=.va v (l+k) by simp[Sg.bits,hk]];rfl) (by
  unfold GH MZ;have qS:0<=(i:Int)/\i<((fV f).length:Int):=Bl (by rw[Ce];exact hi);rw[AMo qS,AL7,fe hi,<-dU,X6,Fb,AMl,<-HP,AMg (AMc _)])
 rw[ANZ,AML]at this;exact this
theorem Abe{f:APH Sg}(h1:YX f)(hf:∀s∈f,VB s)(hw:Be f<=4096):SA (fV f)=some (bV (Dn f)):=by
 unfold SA Us;have hlen:=CM h1;have:=AU (f:=EB _) (λk=>(k,bV (Dn (f.take k))))  _ (λk hk=>by
  unfold EB M0;have:=EP f k;rw[Ce,Dy hk,AMm,w7 hk (hf _ (AJ hk)) (by rw[KD];omega),AL6,Bj hk (by omega),SK hk]) (by
  unfold EB M0;rw[Ce,Fb,AMl,AMg (AMc _)])
 rw[show fix (EB _) (0,[])=some _ from this];rfl
theorem Aiv(b:Bt):decide ((VM b).1<0)=(match b with |.co _=>true |.va _ _=>false):=by
 cases b with
 |co b=>rfl
 |va v a=>exact AL9 (show ¬((v:Int)<0) by omega)
theorem AsT{B:APH Bt}{D:AOF}{i:Nat}{b:Bool}(hi:i<B.length)(hb:B.getD i (.co false)=.co b)(hl:B.length<=4096) :
    Ay (Ut (bV B) D ((i+1:Nat):Int) [bI b]) λr=>∃bs:AOA,r=(((i+bs.length:Nat):Int),bs.map bI)/\1<=bs.length/\i+bs.length<=B.length/\bs.getD 0 false=b/\B.take (i+bs.length)=B.take i++bs.map .co/\(i+bs.length<B.length->∃v a,B.getD (i+bs.length) (.co false)=.va v a):=by
 refine Bu (λm x=>∃bs:AOA,x=(((i+bs.length:Nat):Int),bs.map bI)/\1<=bs.length/\i+bs.length<=B.length/\bs.getD 0 false=b/\B.take (i+bs.length)=B.take i++bs.map .co/\m=B.length-(i+bs.length)) (λm x hI=>?_) _ _ ⟨[b],rfl,by simp,hi,rfl,by
  show B.take (i+1)=_;rw[Jl hi,hb];rfl,rfl⟩
 obtain⟨bs,rfl,h1,h2,h3,h4,rfl⟩:=hI;unfold M1 Rv QA;rcases AMh _ _ with h |h
 ·rw[Dk,Dy h,AMo (Bl h),AL7,gH h];cases hx:B.getD _ _ with
  |co y =>
   rw[AMo (Bl h),AMo (by grind),Bj h (by omega)];refine Ay.mk ⟨_,?_,bs++[y],?_,by simp,by grind,?_,?_,rfl⟩
   ·grind
   ·rw[show IntKind.u8.wrap _=bI y by cases y<;>rfl];simp[ANa]
   ·grind
   ·rw[AMa];show B.take (i+bs.length+1)=_;rw[Jl h,h4,hx,AMQ,AMe];rfl
  |va v a =>
   exact Ay.mk ⟨bs,rfl,h1,h2,h3,h4,λ_=>⟨v,a,hx⟩⟩
 ·rw[Dk,show decide _=false from IV,AMl,AL6];exact Ay.mk ⟨bs,rfl,h1,h2,h3,h4,λh'=>absurd h' (by omega)⟩
theorem AsU{B:APH Bt}{D:AOF}{i v a:Nat}(hi:i<B.length)(hb:B.getD i (.co false)=.va v a)(hB:∀b∈B,BtB b)(hl:B.length<=4096) :
    Ay (QC (bV B) (i:Int) D ((i+1:Nat):Int)) λr=>∃n,r=((i+n:Nat):Int)/\1<=n/\i+n<=B.length/\B.take (i+n)=B.take i++(Sg.va v a n).bits/\(i+n<B.length->(Sg.va v a n).join (B.getD (i+n) (.co false)).sg=none):=by
 unfold QC;refine Bu (λm (x:Int)=>∃n,x=((i+n:Nat):Int)/\1<=n/\i+n<=B.length/\B.take (i+n)=B.take i++(Sg.va v a n).bits/\m=B.length-(i+n)) (λm x hI=>?_) (B.length-(i+1)) _ ⟨1,rfl,by omega,hi,by
  rw[Jl hi,hb];rfl,rfl⟩
 obtain⟨n,rfl,h1,h2,h4,rfl⟩:=hI;unfold M3 Rw QB;have Alz:B.getD (i+n-1) (.co false)=.va v (a+n-1):=by
  have e:(B.take (i+n)).getD (i+n-1) (.co false)=B.getD (i+n-1) (.co false):=by
   simp only[List.getD,AM9,show i+n-1<i+n by omega,AMR]
  rw[<-e,h4];have hti:(B.take i).length=i:=by rw[AMr];omega
  simp only[List.getD,AMw,hti,show ¬i+n-1<i by omega,ANz];rw[show i+n-1-i=n-1 by omega];simp only[Sg.bits,AMz,AN3,show n-1<n by omega,Option.map_some,Option.getD_some];congr 1;omega
 have Nt:=hB (.va v (a+n-1)) (by rw[<-Alz];exact AJ (by omega));simp only[BtB]at Nt;rcases AMh (i+n) B.length with h |h
 ·rw[Dk,Dy h,AMm,AMo (Bl h),AL7,AL7,gH h,AMo (Bl hi),gH hi,hb];rw[show wI (((i+n:Nat):Int)-1)=((i+n-1:Nat):Int)from A1,AL7,gH (by omega),Alz,AMo (Bl h),AMo (Bl (by omega))];rw[show wI ((VM (.va v (a+n-1))).2.1+1)=((a+n:Nat):Int)from A1 (by show((a+n-1:Nat):Int)+1=_;omega) (by omega)];by_cases hc:B.getD (i+n) (.co false)=.va v (a+n)
  ·rw[hc];rw[show((VM (.va v (a+n))).1==(VM (.va v a)).1)=true from ANK (v:Int),AMm,show((VM (.va v (a+n))).2.1==((a+n:Nat):Int))=true from ANK _,AMm,AL6,ANn,Bj h (by omega)];refine Ay.mk ⟨_,?_,n+1,by rw[ANa],by omega,by omega,?_,rfl⟩
   ·omega
   ·rw[<-ANa,Jl h,h4,hc];simp[Sg.bits,ANc]
  ·have VF:(bif (VM (B.getD (i+n) (.co false))).1==(VM (.va v a)).1 then(bif (VM (B.getD (i+n) (.co false))).2.1==((a+n:Nat):Int)then some (.inl ())else some (.inr ()))else some (.inr ()):APJ (Unit⊕Unit))=some (.inr ()):=by
     cases hx:B.getD (i+n) (.co false)with
     |co y=>rw[show((VM (.co y)).1==(VM (.va v a)).1)=false by simp[VM]];rfl
     |va v' a' =>
      by_cases hv:v'=v
      ·by_cases ha:a'=a+n
       ·subst hv ha;exact absurd hx hc
       ·rw[show((VM (.va v' a')).2.1==((a+n:Nat):Int))=false from beq_eq_false_iff_ne.2 λe=>ha (Int.ofNat.inj e)];cases ((VM (.va v' a')).1==(VM (.va v a)).1)<;>rfl
      ·rw[show((VM (.va v' a')).1==(VM (.va v a)).1)=false from beq_eq_false_iff_ne.2 λe=>hv (Int.ofNat.inj e)];rfl
   refine Ay.of (a:=.inr ((i+n:Nat):Int)) (by
    have:=congrArg (λo=>o.bind (Sum.elim (λ(_:Unit)=>some (.inl (wI (((i+n:Nat):Int)+1)))) (λ(_:Unit)=>some (.inr ((i+n:Nat):Int):Int⊕Int)))) VF;exact this) ?_
   refine⟨n,rfl,h1,h2,h4,λ_=>?_⟩;cases hx:B.getD (i+n) (.co false)with
   |co y=>rfl
   |va v' a' =>
    simp only[Sg.join,Bt.sg];rw[AMp]
    rintro⟨rfl,rfl⟩
    exact hc hx
 ·rw[Dk,show decide (((i+n:Nat):Int)<(B.length:Int))=false from IV,AMl,AL6,AM4];exact Ay.mk ⟨n,rfl,h1,h2,h4,λh'=>absurd h' (by omega)⟩
theorem Ag8{l s:Sg}{b:Bt}{r:APH Bt}(hs:s.bits=b::r)(h:l.join b.sg=none):l.join s=none:=by
 cases s with
 |co bs =>
  cases bs with
  |nil=>simp[Sg.bits]at hs
  |cons x xs =>
   obtain⟨rfl,_⟩:=hs;cases l<;>simp[Sg.join,Bt.sg]at h⊢
 |va v a n =>
  cases n with
  |zero=>simp[Sg.bits]at hs
  |succ n =>
   simp only[Sg.bits,List.range_succ_eq_map,ANR]at hs;obtain⟨rfl,_⟩:=hs;cases l with
   |co y=>rfl
   |va v' l' n' =>
    simp only[Sg.join,Bt.sg,AOa]at h⊢
    grind
def Stop(f:APH Sg)(b:Bt):Prop:=∀l,f.getLast?=some l->l.join b.sg=none
theorem xI{f:APH Sg}{s:Sg}{b:Bt}{r:APH Bt}(h:Stop f b)(hs:s.bits=b::r):HA f s=f++[s]:=by
 unfold HA;cases hl:f.getLast? with
 |none=>rw[List.getLast?_eq_none_iff]at hl;subst hl;rfl
 |some l=>simp only[Ag8 hs (h l hl)]
theorem Af9{B:APH Bt}{s:Sg}{b:Bt}{r:APH Bt}(h:Stop (Ax B) b)(hs:s.bits=b::r)(hw:1<=s.w):Ax (B++s.bits)=Ax B++[s]:=by
 rw[show Ax _=Xw (Ax B) _ from LR [] B _,<-X4 _ s _ rfl hw,xI h hs]
theorem Abf{B:APH Bt}(hB:∀b∈B,BtB b)(hl:B.length<=4096):SB (bV B)=some (decide ((Ax B).length<=2000),fV (Ax B)):=by
 unfold SB S9;refine Ay.eq_ (Ay.bind (P:=λr=>r=fV (Ax B)) ?_ λr hr=>Ay.mk (by
  rw[hr,Ce];congr 1;rw[ANL];omega))
 refine Bu (λm (x:Int×AOF)=>∃i:Nat,x=((i:Int),fV (Ax (B.take i)))/\i<=B.length/\(i<B.length->Stop (Ax (B.take i)) (B.getD i (.co false)))/\m=B.length-i) (λm x hI=>?_) B.length _ ⟨0,rfl,AMS _,λ_ l hl=>by simp[Ax,Xw]at hl,rfl⟩;obtain⟨i,rfl,hi,BH,rfl⟩:=hI;unfold Lt Qz;simp only;rcases AMh i B.length with h |h
 ·rw[Dk,Dy h,AMm,Bj h (by omega)];have hfl:(fV (Ax (B.take i))).length<=4096:=by
   have h1:=CM (C1 (B.take i));rw[Cd,AMr]at h1;rw[Ce];omega
  have key:∀s:Sg,∀n,n=s.w->1<=n->i+n<=B.length->B.take (i+n)=B.take i++s.bits->(i+n<B.length->s.join (B.getD (i+n) (.co false)).sg=none)->(s.bits.head?=some (B.getD i (.co false))) ->
      (fV (Ax (B.take i))++[HI s]=fV (Ax (B.take (i+n))))/\(i+n<B.length->Stop (Ax (B.take (i+n))) (B.getD (i+n) (.co false))):=by
   rintro s n rfl h1 h2 h3 h4 h5
   obtain⟨r,hr⟩:∃r,s.bits=B.getD i (.co false)::r:=by
    cases hs:s.bits with
    |nil=>rw[hs]at h5;cases h5
    |cons c r=>rw[hs]at h5;simp only[List.head?_cons,AL8]at h5;exact⟨r,by rw[h5]⟩
   have hn:=Af9 (BH h) hr h1;rw[h3,hn];refine⟨by rw[Q9];rfl,λBm l hl=>?_⟩;rw[List.getLast?_append]at hl;simp only[List.getLast?_singleton,Option.some_or,AL8]at hl;subst hl;exact h4 Bm
  unfold QD;rw[Dk,AMo (Bl h),AL7,gH h,Aiv];cases hx:B.getD i (.co false)with
  |co b =>
   simp only[AMm];rw[AMo (Bl h),show IntKind.u8.wrap (VM (.co b)).2.1=bI b by cases b<;>rfl];have D8:=AsT (D:=fV (Ax (B.take i))) h hx hl;refine Ay.bind (P:=λy=>∃n,y=(((i+n:Nat):Int),fV (Ax (B.take (i+n))))/\1<=n/\i+n<=B.length/\(i+n<B.length->Stop (Ax (B.take (i+n))) (B.getD (i+n) (.co false)))) (D8.bind λy hy=>?_) λy hy=>?_
   ·obtain⟨bs,rfl,h1,h2,h3,h4,h5⟩:=hy;have hk:=key (.co bs) bs.length rfl h1 h2 h4 (λBm=>by obtain⟨v,a,e⟩:=h5 Bm;rw[e];rfl) (by
     rw[hx];cases bs with
     |nil=>simp at h1
     |cons z zs=>simp only[Sg.bits,AMT,List.head?_cons];rw[<-h3];rfl)
    rw[l9 h1 (by omega),AL6,AMo (by show(_+1)*56<=_;omega)];exact Ay.mk ⟨bs.length,by rw[<-hk.1];rfl,h1,h2,hk.2⟩
   ·obtain⟨n,rfl,h1,h2,h3⟩:=hy;exact Ay.mk ⟨B.length-(i+n),by omega,i+n,rfl,h2,h3,rfl⟩
  |va v a =>
   simp only[AMl];have D8:=AsU (D:=fV (Ax (B.take i))) h hx hB hl;refine Ay.bind (P:=λy=>∃n,y=(((i+n:Nat):Int),fV (Ax (B.take (i+n))))/\1<=n/\i+n<=B.length/\(i+n<B.length->Stop (Ax (B.take (i+n))) (B.getD (i+n) (.co false)))) (D8.bind λy hy=>?_) λy hy=>?_
   ·obtain⟨n,rfl,h1,h2,h4,h5⟩:=hy;have hk:=key (.va v a n) n rfl h1 h2 h4 h5 (by
     rw[hx];obtain⟨m,rfl⟩:∃m,n=m+1:=⟨n-1,by omega⟩;simp[Sg.bits,List.range_succ_eq_map])
    rw[AMo (Bl h),AMo (Bl h),AMo (by show(_+1)*56<=_;omega),show wI (((i+n:Nat):Int)-(i:Int))=(n:Int)from A1];exact Ay.mk ⟨n,by rw[<-hk.1];rfl,h1,h2,hk.2⟩
   ·obtain⟨n,rfl,h1,h2,h3⟩:=hy;exact Ay.mk ⟨B.length-(i+n),by omega,i+n,rfl,h2,h3,rfl⟩
 ·have:i=B.length:=by omega
  subst this;rw[Dk,Fb,AMl,AMg (AMc _)];exact Ay.mk rfl
def iu(c:Int):Prop:=48<=c/\c<=57
def Ub(c:Int):Prop:=97<=c/\c<=122
instance (c:Int):Decidable (iu c):=inferInstanceAs (Decidable (_/\_))
instance (c:Int):Decidable (Ub c):=inferInstanceAs (Decidable (_/\_))
def qY(s:ByteArray):Prop:=1<=s.size/\s.size<=12/\¬iu (C5 s 0)/\∀i:Nat,i<s.size->iu (C5 s i)\/Ub (C5 s i)
theorem ja(c:Int):MS c=decide (iu c):=(AM2 _ _).symm
theorem qp{s:ByteArray}{i:Nat}(hi:i<s.size):Mk s (i:Int)=some (decide ¬(iu (C5 s i)\/Ub (C5 s i))):=by
 unfold Mk;rw[AMo (Bl hi),AMo (Bl hi),AMo (Bl hi),ja];generalize C5 s _=c;by_cases h1:iu c
 ·grind
 ·rw[AL9 h1];by_cases h2:c<97
  ·rw[AMb h2,AMb (p:=¬(iu c\/Ub c)) (by unfold Ub;rintro(h |h);exact h1 h;omega)];rfl
  ·rw[AL9 h2];refine congrArg some (decide_eq_decide.2 ?_);unfold Ub iu at *;omega
theorem pF{s:ByteArray}{i:Nat}(hi:i<s.size):L5 s (i:Int)=some (decide ¬(iu (C5 s i)\/Ub (C5 s i))):=by
 unfold L5;simp only[AMo (Bl hi)];generalize C5 s i=c;by_cases h1:c<97
 ·rw[AMb h1];by_cases h2:c<48
  ·rw[AMb h2];exact congrArg some (AMb (by unfold iu Ub;omega)).symm
  ·rw[AL9 h2];exact congrArg some (decide_eq_decide.2 (by unfold iu Ub;omega))
 ·rw[AL9 h1];by_cases h2:c>122
  ·rw[AMb h2];by_cases h3:c<48
   ·omega
   ·rw[AL9 h3];exact congrArg some (decide_eq_decide.2 (by unfold iu Ub;omega))
  ·rw[AL9 h2];exact congrArg some (AL9 (by unfold iu Ub;omega)).symm
theorem uw(s:ByteArray):Ay (Pp s) λr=>r=true↔qY s:=by
 unfold Pp Qv;by_cases h1:s.size<1
 ·rw[LO];exact Ay.mk ⟨λh=>by grind,λh=>absurd h.1 (by omega)⟩
 ·rw[IV,AMl];by_cases h2:s.size>12
  ·rw[LO];exact Ay.mk ⟨λh=>by grind,λh=>absurd h.2.1 (by omega)⟩
  ·rw[IV,AMl,AMo ⟨by omega,by omega⟩,AL6,ja];by_cases h3:iu (C5 s 0)
   ·rw[AMb h3];exact Ay.mk ⟨λh=>by grind,λh=>absurd h3 h.2.2.1⟩
   ·rw[AL9 h3];refine Ay.bind (P:=λt=>(t=.inl ()/\¬∀i ,i<s.size->iu (C5 s i)\/Ub (C5 s i))\/(t=.inr ()/\∀i ,i<s.size->iu (C5 s i)\/Ub (C5 s i))) ?_ λt ht=>?_
    ·refine BR (λk _=>(k:Int)) s.size (λk _=>∀i ,i<k->iu (C5 s i)\/Ub (C5 s i)) (λk _ hk hI=>?_) (λ_ hI=>?_) (s0:=()) (λi h=>by omega)
     ·unfold Jg MV;rw[Dy hk,qp hk,AL6];by_cases h:iu (C5 s k)\/Ub (C5 s k)
      ·rw[AL9 (λhn=>hn h),Bj hk (by omega)];refine Ay.mk ⟨(),rfl,λi hi=>?_⟩
       grind
      ·rw[AMb h];exact Ay.mk (.inl ⟨rfl,λh'=>h (h' k hk)⟩)
     ·unfold Jg MV;rw[Fb];exact Ay.mk (.inr ⟨rfl,hI⟩)
    ·rcases ht with ⟨rfl,h⟩|⟨rfl,h⟩
     ·exact Ay.mk ⟨λh=>by grind,λh'=>absurd h'.2.2.2 h⟩
     ·exact Ay.mk ⟨λ_=>⟨by omega,by omega,h3,h⟩,λ_=>rfl⟩
theorem tv(s:ByteArray):Ay (Pm s) λr=>r=true↔qY s:=by
 unfold Pm P2;by_cases h1:s.size<1
 ·rw[LO];exact Ay.mk ⟨λh=>by grind,λh=>absurd h.1 (by omega)⟩
 ·rw[IV,AMl];by_cases h2:s.size>12
  ·rw[LO];exact Ay.mk ⟨λh=>by grind,λh=>absurd h.2.1 (by omega)⟩
  ·rw[IV,AMl,AMo ⟨by omega,by omega⟩,AMo ⟨by omega,by omega⟩];by_cases h3:Ub (C5 s 0)
   ·have h4:(bif decide (C5 s 0<97)then some true else some (decide (C5 s 0>122)))=some false:=by
      unfold Ub at h3
      grind
    rw[h4,AL6];refine Ay.bind (P:=λt=>(t=.inl ()/\¬∀i ,i<s.size->iu (C5 s i)\/Ub (C5 s i))\/(t=.inr ()/\∀i ,i<s.size->iu (C5 s i)\/Ub (C5 s i))) ?_ λt ht=>?_
    ·refine BR (λk _=>(k:Int)) s.size (λk _=>∀i ,i<k->iu (C5 s i)\/Ub (C5 s i)) (λk _ hk hI=>?_) (λ_ hI=>?_) (s0:=()) (λi h=>by omega)
     ·unfold I4 MB;rw[Dy hk,pF hk,AL6];by_cases h:iu (C5 s k)\/Ub (C5 s k)
      ·rw[AL9 (λhn=>hn h),Bj hk (by omega)];refine Ay.mk ⟨(),rfl,λi hi=>?_⟩
       grind
      ·rw[AMb h];exact Ay.mk (.inl ⟨rfl,λh'=>h (h' k hk)⟩)
     ·unfold I4 MB;rw[Fb];exact Ay.mk (.inr ⟨rfl,hI⟩)
    ·rcases ht with ⟨rfl,h⟩|⟨rfl,h⟩
     ·exact Ay.mk ⟨λh=>by grind,λh'=>absurd h'.2.2.2 h⟩
     ·refine Ay.mk ⟨λ_=>⟨by omega,by omega,?_,h⟩,λ_=>rfl⟩;unfold Ub at h3;unfold iu;omega
   ·have h4:(bif decide (C5 s 0<97)then some true else some (decide (C5 s 0>122)))=some true:=by
      unfold Ub at h3
      grind
    rw[h4,AL6];refine Ay.mk ⟨λh=>by grind,λh=>?_⟩;rcases h.2.2.2 0 (by omega)with h' |h'
    ·exact absurd h' h.2.2.1
    ·grind
theorem RO(n a b:Int):BF n a b=decide (a<=n/\n<=b):=by unfold BF;rw[AM2]
theorem KH(n a b:Int):AP n a b=decide (a<=n/\n<=b):=by unfold AP;rw[AM2]
def im(d:AOE)(i:Nat):AOn:=d.getD i Ad.zero
def dw(d:AOE)(i:Nat):Int:=(im d i).2.1
def cL(d:AOE)(k:Nat):Int:=((d.take k).map λx=>x.2.1).sum
theorem cM{d:AOE}{k:Nat}(h:k<d.length):cL d (k+1)=cL d k+dw d k:=by
 unfold cL;rw[AW h (z:=Ty.zero _),AMQ];simp[dw,im]
def dG(d:AOE)(i:Nat):Prop:=qY (im d i).1/\(1<=dw d i/\dw d i<=4096)/\∀k,k<i->(im d k).1≠(im d i).1
def Az(d:AOE):Prop:=d.length<=60/\(∀i,i<d.length->dG d i)/\cL d d.length<=20000
theorem il{d:AOE}{k:Nat}(hk:k<=d.length)(h:∀i,i<k->dG d i):0<=cL d k/\cL d k<=4096*k:=by
 induction k with
 |zero=>simp[cL]
 |succ k ih =>
  rw[cM (by omega)];have:=ih (by omega) λi hi=>h i (by omega);have:=(h k (by omega)).2.1;omega
theorem WJ(d:AOE):Ay (J5 d) λr=>r=true↔Az d:=by
 unfold J5;by_cases hl:d.length<=60
 ·rw[IV];refine Ay.bind (P:=λt=>(∃x,t=.inl x/\¬∀i,i<d.length->dG d i)\/(t=.inr (cL d d.length)/\∀i,i<d.length->dG d i)) (BR (λk _=>(cL d k,(k:Int))) d.length (λk _=>∀i,i<k->dG d i) (λk _ hk hI=>?_) (λ_ hI=>?_) (s0:=()) (λi h=>by omega)) λt ht=>?_
  ·unfold Ib Lm Ow;rw[Dy hk,AMo (Bl hk),AL7];show Ay (((Pp (im d k).1).bind _).bind _) _;obtain⟨r,hr,hq⟩:=uw _;rw[hr,AL6];by_cases h1:qY (im d k).1
   ·rw[hq.2 h1];simp only[AMP,AMl];rw[AMo (Bl hk),AMo (Bl hk),AL6];by_cases h2:1<=dw d k/\dw d k<=4096
    ·rw[show BF (d.getD k _).2.1 1 4096=true from(RO _ _ _).trans (AMb h2)];refine Ay.bind (P:=λt=>(t=.inl ()/\¬∀j,j<k->(im d j).1≠(im d k).1)\/(t=.inr ()/\∀j,j<k->(im d j).1≠(im d k).1)) ?_ λt ht=>?_
     ·refine BR (λj _=>(j:Int)) k (λj _=>∀i,i<j->(im d i).1≠(im d k).1) (λj _ hj hJ=>?_) (λ_ hJ=>?_) (s0:=()) (λi h=>by omega)
      ·unfold Ia Ll;rw[Dy hj,AMo (Bl (by omega)),AMo (Bl hk),AL7];show Ay (bif Iu (im d j).1 (im d k).1 then _ else _) _;cases he:Iu _ _ with
       |true=>exact Ay.mk (.inl ⟨rfl,λh=>h j hj ((Wi _ _).1 he)⟩)
       |false =>
        rw[Bj hj (by omega)];refine Ay.mk ⟨(),rfl,λi hi=>?_⟩;rcases AMh i j with h' |h'
        ·grind
        ·rw[show i=j by omega];intro e;rw[(Wi _ _).2 e]at he;cases he
      ·unfold Ia Ll;rw[Fb];exact Ay.mk (.inr ⟨rfl,hJ⟩)
     ·rcases ht with ⟨rfl,h⟩|⟨rfl,h⟩
      ·exact Ay.mk (.inl ⟨_,rfl,λh'=>h (h' k hk).2.2⟩)
      ·rw[Bj hk (by omega)];have hb:=il (by omega) hI;rw[show wI _=cL d _ by
        rw[cM hk];have:(d.getD k _).2.1=dw d k:=rfl;rw[this,BX]]
       refine Ay.mk ⟨(),rfl,λi hi=>?_⟩;rcases AMh i k with h' |h'
       ·grind
       ·rw[show i=k by omega];exact⟨h1,h2,h⟩
    ·rw[show BF (d.getD k _).2.1 1 4096=false from(RO _ _ _).trans (AL9 h2)];exact Ay.mk (.inl ⟨_,rfl,λh=>h2 (h k hk).2.1⟩)
   ·rw[show r=false by grind];exact Ay.mk (.inl ⟨_,rfl,λh=>h1 (h k hk).1⟩)
  ·unfold Ib Lm;rw[Fb];exact Ay.mk (.inr ⟨rfl,hI⟩)
  ·rcases ht with ⟨x,rfl,h⟩|⟨rfl,h⟩
   ·exact Ay.mk ⟨λh=>by grind,λh'=>absurd h'.2.1 h⟩
   ·refine Ay.mk ⟨λh'=>⟨hl,h,of_decide_eq_true h'⟩,λh'=>AMb h'.2.2⟩
 ·rw[LO];exact Ay.mk ⟨λh=>by grind,λh=>absurd h.1 hl⟩
theorem rX{d:AOE}{i:Nat}{name:ByteArray}(hi:i<=d.length)(hl:d.length<=1048576):Ay (KF ((d.take i).drop 0) name) λr=>0<=r↔∃j,j<i/\(im d j).1=name:=by
 unfold KF Hq Io;have hlen:(d.take i).length=i:=by grind
 rw[AOb,hlen];refine Ay.bind  (Ay.bind (P:=λt=>(∃j:Nat,t=.inl j/\j<i/\(im d j).1=name)\/(t=.inr ()/\∀j,j<i->(im d j).1≠name)) ?_ λt ht=>?_) λr hr=>Ay.mk hr
 ·refine BR (λj _=>(j:Int)) i (λj _=>∀k,k<j->(im d k).1≠name) (λj _ hj hJ=>?_) (λ_ hJ=>?_) (s0:=()) (λi h=>by omega)
  ·unfold CO DN;have hg:(d.take i).getD j (Ty.zero _)=im d j:=by simp[im,hj]
   rw[Dy hj,hlen,AMo (Bl hj),AL7,hg];unfold SR;cases he:Iu _ name with
   |true=>exact Ay.mk (.inl ⟨j,rfl,hj,(Wi _ _).1 he⟩)
   |false =>
    rw[Bj hj (by omega)];refine Ay.mk ⟨(),rfl,λk hk=>?_⟩;rcases AMh k j with h' |h'
    ·grind
    ·rw[show k=j by omega];intro e;rw[(Wi _ _).2 e]at he;cases he
  ·unfold CO DN;rw[Fb];exact Ay.mk (.inr ⟨rfl,hJ⟩)
 ·rcases ht with ⟨j,rfl,h1,h2⟩|⟨rfl,h⟩
  ·exact Ay.mk ⟨λ_=>⟨j,h1,h2⟩,λ_=>by omega⟩
  ·exact Ay.mk ⟨λh'=>absurd (show 0<=-1 from h') (by omega),λ⟨j,h1,h2⟩=>absurd h2 (h j h1)⟩
theorem Wx(d:AOE):Ay (Jz d) λr=>r=true↔Az d:=by
 unfold Jz;by_cases hl:d.length<=60
 ·rw[IV];refine Ay.bind (P:=λt=>(∃x,t=.inl x/\¬∀i,i<d.length->dG d i)\/(t=.inr (cL d d.length)/\∀i,i<d.length->dG d i)) (BR (λk _=>(cL d k,(k:Int))) d.length (λk _=>∀i,i<k->dG d i) (λk _ hk hI=>?_) (λ_ hI=>?_) (s0:=()) (λi h=>by omega)) λt ht=>?_
  ·unfold HR K4 Oc;rw[Dy hk,AMo (Bl hk),AL7];show Ay (((Pm (im d k).1).bind _).bind _) _;obtain⟨r,hr,hq⟩:=tv _;rw[hr,AL6];by_cases h1:qY (im d k).1
   ·rw[hq.2 h1];by_cases h2:1<=dw d k/\dw d k<=4096
    ·rw[show AP (d.getD k _).2.1 1 4096=true from(KH _ _ _).trans (AMb h2)];simp only[AMP,AMl];rw[AMo ⟨by omega,by omega,by omega⟩];obtain⟨r',hr',sY⟩:=rX (d:=d) (i:=k)  (by omega) (by omega);rw[show KF _ _=some r' from hr',AL6,AL6];by_cases h3:0<=r'
     ·rw[AMb (show r'>=0 from h3)];obtain⟨j,hj1,hj2⟩:=sY.1 h3;exact Ay.mk (.inl ⟨_,rfl,λh=>(h k hk).2.2 j hj1 hj2⟩)
     ·rw[AL9 (show ¬r'>=0 from h3),Bj hk (by omega)];have hb:=il (by omega) hI;rw[show wI _=cL d _ by
       rw[cM hk];have:(d.getD k _).2.1=dw d k:=rfl;rw[this,BX]]
      refine Ay.mk ⟨(),rfl,λi hi=>?_⟩;rcases AMh i k with h' |h'
      ·grind
      ·rw[show i=k by omega];exact⟨h1,h2,λj hj e=>h3 (sY.2 ⟨j,hj,e⟩)⟩
    ·rw[show AP (d.getD k _).2.1 1 4096=false from(KH _ _ _).trans (AL9 h2)];exact Ay.mk (.inl ⟨_,rfl,λh=>h2 (h k hk).2.1⟩)
   ·rw[show r=false by grind];exact Ay.mk (.inl ⟨_,rfl,λh=>h1 (h k hk).1⟩)
  ·unfold HR K4;rw[Fb];exact Ay.mk (.inr ⟨rfl,hI⟩)
  ·rcases ht with ⟨x,rfl,h⟩|⟨rfl,h⟩
   ·exact Ay.mk ⟨λh=>by grind,λh'=>absurd h'.2.1 h⟩
   ·refine Ay.mk ⟨λh'=>⟨hl,h,of_decide_eq_true h'⟩,λh'=>AMb h'.2.2⟩
 ·rw[LO];exact Ay.mk ⟨λh=>by grind,λh=>absurd h.1 hl⟩
def BN(n:AOq):Int:=n.1
def Hz(n:AOq):Int:=n.2.1
def nA(n:AOq):Int:=n.2.2.1
def nB(n:AOq):Int:=n.2.2.2.1
def nW(n:AOq):Int:=n.2.2.2.2.1.1
def km(n:AOq):AOz:=n.2.2.2.2.1.2.1
def AL(n:AOq):AOz:=n.2.2.2.2.2.1
def Y6(n:AOq):Prop:=(AL n).length<=1048576/\(km n).length<=1048576/\Ea (km n)
def Nq(n:AOq)(i:Nat):Prop:=∀k∈AL n,0<=k/\k<(i:Int)
def NoB(n:AOq):Prop:=nW n=0/\(km n).length=0
def ah(n:AOq):Prop:=4<=BN n/\BN n<=9
instance (n:AOq):Decidable (NoB n):=inferInstanceAs (Decidable (_/\_))
instance (n:AOq):Decidable (ah n):=inferInstanceAs (Decidable (_/\_))
def Wm(n:AOq):Prop:=(BN n≠1->Hz n=0)/\(BN n≠2->NoB n)/\(BN n≠4->nB n=0)/\(¬ah n->nA n=0)
def rk(n:AOq):Prop:=∃m:Nat,nW n=(m:Int)/\lj m (km n)
def KZ(d:AOE)(n:AOq):Prop :=
 (BN n=1/\(AL n).length=0/\0<=Hz n/\Hz n<(d.length:Int))\/(BN n=2/\(AL n).length=0/\rk n)\/(BN n=3/\2<=(AL n).length)\/(4<=BN n/\BN n<=9/\(AL n).length=1)
def GR(d:AOE)(n:AOq)(s:Int):Int :=
 if BN n=1 then dw d (Hz n).toNat else if BN n=2 then nW n else
 if BN n=4 then(if 0<=nB n/\nB n<=nA n/\nA n<s then nA n-nB n+1 else -1)else
 if BN n=5\/BN n=6 then(if 0<=nA n/\nA n<=4096 then s+nA n else -1)else
 if BN n=7\/BN n=8 then(if 0<=nA n/\nA n<=4096 then s else -1)else
 if BN n=9 then(if 1<=nA n/\nA n<=4096 then s*nA n else -1)else s
def G1(BM:AOz)(n:AOq):AOz:=(AL n).map λk=>BM.getD k.toNat 0
def qZ(d:AOE)(BM:AOz)(n:AOq)(w:Int):Prop :=
 Nq n BM.length/\Wm n/\KZ d n/\w=GR d n (G1 BM n).sum/\1<=w/\w<=4096
theorem oc{A:Type}(l:APH A):((l.length:Int)==0)=decide (l.length=0):=by
 grind
theorem Ts{a b:Int}:(a !=b)=decide (a≠b):=by
 grind
theorem Tq{a b:Int}:(a==b)=decide (a=b):=by
 grind
theorem mD(n:AOq):CQ n.2.2.2.2.1=decide (NoB n):=by
 have h1:(nW n==0)=decide _:=Tq;have h2:=oc (km n);show((nW n==0)&&(((km n).length:Int)==0))=_;rw[h2];exact(AM2 _ _).symm
theorem tC(n:AOq):A5 n.1=decide (ah n):=by
 exact RO _ _ _
theorem uv{d:AOE}{n:AOq}{i:Nat}(hn:Y6 n)(hi:i<=1048576)(hd:d.length<=1048576):Ay (Pq d n (i:Int)) λr=>r=true↔Nq n i/\Wm n/\KZ d n:=by
 unfold Pq;refine Ay.bind (P:=λt=>(t=.inl ()/\¬Nq n i)\/(t=.inr ()/\Nq n i)) ?_ λt ht=>?_
 ·unfold Up;refine BR (λj (_:Unit)=>(j:Int)) (AL n).length (λj _=>∀k,k<j->0<=(AL n).getD k 0/\(AL n).getD k 0<(i:Int)) (λj _ hj hJ=>?_) (λ_ hJ=>?_) (s0:=()) (λi h=>by omega)
  ·unfold Jh MW;have hlen:=hn.1;show Ay (bif decide ((j:Int)<((AL n).length:Int))then(if 0<=(j:Int)/\(j:Int)<((AL n).length:Int)then(bif !BF ((AL n).getD (j:Int).toNat 0) 0 (wI ((i:Int)-1))then _ else _)else none)else _) _;rw[Dy hj,AMm,AMo (Bl hj),AL7,BX (x:=(i:Int)-1),RO];by_cases h:0<=(AL n).getD j 0/\(AL n).getD j 0<(i:Int)
   ·rw[LO];simp only[AMP,AMl];rw[Bj hj (by omega)];refine Ay.mk ⟨(),rfl,λk hk=>?_⟩;rcases AMh k j with h' |h'
    ·exact hJ k h'
    ·rw[show k=j by omega];exact h
   ·rw[IV];exact Ay.mk (.inl ⟨rfl,λhk=>h (hk _ (AJ hj))⟩)
  ·unfold Jh MW;show Ay (bif decide (((AL n).length:Int)<((AL n).length:Int))then _ else _) _;rw[Fb,AMl];refine Ay.mk (.inr ⟨rfl,λk hk=>?_⟩);obtain⟨m,hm,rfl⟩:=AM5 hk;have:=hJ m hm;rwa [show(AL n).getD m 0=(AL n)[m] by simp[List.getD,hm]]at this
 ·rcases ht with ⟨rfl,h⟩|⟨rfl,h⟩
  ·exact Ay.mk ⟨λh=>by(cases h),λh'=>absurd h'.1 h⟩
  ·refine Ay.bind (P:=λt=>(t=.inl ()/\¬Wm n)\/(t=.inr ()/\Wm n)) ?_ λt ht=>?_
   ·unfold Qw PD;have hb:=mD n;have h1:=tC n;have e1:∀x:Int,(n.1 !=x)=decide (BN n≠x):=λx=>Ts;have e2:(n.2.1 !=(0:Int))=decide (Hz n≠0):=Ts;have e3:(n.2.2.2.1 !=(0:Int))=decide (nB n≠0):=Ts;have e4:(n.2.2.1 !=(0:Int))=decide (nA n≠0):=Ts;rw[hb,h1,e1,e1,e1,e2,e3,e4];unfold Wm;by_cases a1:BN n=1<;>by_cases a2:BN n=2<;>by_cases a3:BN n=4<;>by_cases a4:ah n<;>by_cases a5:Hz n=0<;>by_cases a6:NoB n<;>by_cases a7:nB n=0<;>by_cases a8:nA n=0 <;>
     first |(exfalso;omega)|(simp[a1,a2,a3,a4,a5,a6,a7,a8,Sq];done)
   ·rcases ht with ⟨rfl,h2⟩|⟨rfl,h2⟩
    ·exact Ay.mk ⟨λh=>by(cases h),λh'=>absurd h'.2.1 h2⟩
    ·have hk:=hn.1;have e1:∀x:Int,(n.1==x)=decide (BN n=x):=λx=>Tq;have e2:((n.2.2.2.2.2.1.length:Int)==0)=decide ((AL n).length=0):=oc (AL n);have e3:((n.2.2.2.2.2.1.length:Int)==1)=decide ((AL n).length=1):=by
      show(((AL n).length:Int)==1)=_;rw[Tq,ANL];omega
     have e4:decide ((n.2.2.2.2.2.1.length:Int)>=2)=decide (2<=(AL n).length):=by
      show decide (((AL n).length:Int)>=2)=_;rw[ANL];omega
     have e5:BF n.2.1 0 (wI ((d.length:Int)-1))=decide (0<=Hz n/\Hz n<(d.length:Int)):=by
      rw[RO,BX (x:=(d.length:Int)-1),ANL];show 0<=Hz n/\Hz n<=(d.length:Int)-1↔_;omega
     obtain⟨r,hr,hq⟩:=kW (w:=nW n) hn.2.2 hn.2.1;have e6:Pn n.2.2.2.2.1=some r:=hr;have hv:rk n↔r=true:=hq.symm;have h1:=tC n;simp only[AM4];rw[e1,e1,e1,e2,e3,e4,e5,e6,h1];unfold KZ;rw[show(4<=BN n/\BN n<=9/\(AL n).length=1)=(ah n/\(AL n).length=1)from propext and_assoc.symm,hv];have ZJ:ah n↔4<=BN n/\BN n<=9:=Iff.rfl;by_cases a1:BN n=1
     ·have a4:¬ah n:=by rw[ZJ];omega
      by_cases a5:(AL n).length=0
      ·simp[a1,a4,a5,h,h2,Sq]
      ·simp[a1,a4,a5,h,h2,Sq]
     ·by_cases a2:BN n=2
      ·have a4:¬ah n:=by rw[ZJ];omega
       by_cases a5:(AL n).length=0
       ·simp[a2,a4,a5,h,h2,Sq]
       ·simp[a2,a4,a5,h,h2,Sq]
      ·by_cases a3:BN n=3
       ·have a4:¬ah n:=by rw[ZJ];omega
        simp[a3,a4,h,h2,Sq]
       ·by_cases a4:ah n
        ·simp[a1,a2,a3,a4,h,h2,Sq]
        ·simp[a1,a2,a3,a4,h,h2,Sq]
def TF(BM:AOz)(n:AOq):Int:=(G1 BM n).sum
def gA(BM:AOz):Prop:=BM.length<=1048576/\∀w∈BM,1<=w/\w<=4096
theorem jW{BM:AOz}(h:gA BM){k:Int}(hk:0<=k/\k<(BM.length:Int)):1<=BM.getD k.toNat 0/\BM.getD k.toNat 0<=4096:=h.2 _ (AJ (by omega))
theorem dc{BM:AOz}{n:AOq}{k:Nat}(hk:k<(AL n).length):((G1 BM n).take (k+1)).sum=((G1 BM n).take k).sum+BM.getD ((AL n).getD k 0).toNat 0:=by
 have hl:k<(G1 BM n).length:=by unfold G1;rw[AMi];exact hk
 rw[AW hl (z:=0)];unfold G1
 grind
theorem ZN{BM:AOz}{n:AOq}(hw:gA BM)(FR:Nq n BM.length):∀k,k<=(AL n).length->(k:Int)<=((G1 BM n).take k).sum/\((G1 BM n).take k).sum<=4096*k:=by
 intro k;induction k with
 |zero=>simp
 |succ k ih =>
  intro hk;rw[dc (by omega)];have:=jW hw (FR _ (AJ (z:=0) (show k<(AL n).length by omega)));omega
theorem l8(BM:AOz)(n:AOq):(G1 BM n).take (AL n).length=G1 BM n:=AMg (by unfold G1;grind)
theorem WM{BM:AOz}{n:AOq}(hw:gA BM)(FR:Nq n BM.length):((AL n).length:Int)<=TF BM n/\TF BM n<=4096*(AL n).length:=by
 have:=ZN hw FR _ (AMc _);rw[l8]at this;exact this
theorem uC{d:AOE}{BM:AOz}{n:AOq}(hn:Y6 n)(hw:gA BM)(FR:Nq n BM.length)(hf:KZ d n):Ay (Sz d n BM) λr=>r=GR d n (min 8192 (TF BM n)):=by
 have hlen:=hn.1;refine Ay.bind (P:=λt=>t=min 8192 (TF BM n)) ?_ λt ht=>?_
 ·have h0:min 8192 (((G1 BM n).take 0).sum)=0:=rfl;have:=BR (f:=MX d BM n) (λk (_:Unit)=>(min 8192 (((G1 BM n).take k).sum),(k:Int))) (AL n).length (λ_ _=>True) (Q:=λt=>t=min 8192 (TF BM n)) (λk _ hk _=>?_) (λ_ _=>?_) (s0:=()) trivial
  ·exact this
  ·have AjG:=FR _ (AJ (z:=0) hk);have hb:=ZN hw FR k (by omega);have hwk:=jW hw AjG;show Ay (bif decide ((k:Int)<((AL n).length:Int))then(if 0<=(k:Int)/\(k:Int)<((AL n).length:Int)then(if 0<=(AL n).getD (k:Int).toNat 0/\(AL n).getD (k:Int).toNat 0<(BM.length:Int)then some (Sum.inl (if wI (min 8192 (((G1 BM n).take k).sum)+BM.getD ((AL n).getD (k:Int).toNat 0).toNat 0)<8192 then wI (min 8192 (((G1 BM n).take k).sum)+BM.getD ((AL n).getD (k:Int).toNat 0).toNat 0)else 8192,wI ((k:Int)+1)))else none)else none)else _) _;rw[Dy hk,AMo (Bl hk),AL7,AMo AjG,Bj hk (by omega)];refine Ay.mk ⟨(),?_,trivial⟩;rw[BX,dc hk]
   grind
  ·show Ay (bif decide (((AL n).length:Int)<((AL n).length:Int))then _ else _) _;rw[Fb];refine Ay.mk ?_;rw[l8];rfl
 ·subst ht;generalize hS:min 8192 (TF BM n)=S;have hSb:0<=S/\S<=8192:=by have:=WM hw FR;omega
  have e1:∀x:Int,(n.1==x)=decide (BN n=x):=λx=>Tq;have e2:BF n.2.2.1 0 4096=decide (0<=nA n/\nA n<=4096):=RO _ _ _;have e3:BF n.2.2.1 1 4096=decide (1<=nA n/\nA n<=4096):=RO _ _ _;have e4:(decide (n.2.2.2.1<0)||(decide (n.2.2.1<n.2.2.2.1)||decide (n.2.2.1>=S)))=decide (¬(0<=nB n/\nB n<=nA n/\nA n<S)):=by
   show(decide (nB n<0)||(decide (nA n<nB n)||decide (nA n>=S)))=_
   grind
  unfold Qx GR PD;rw[e1,e1,e1,e1,e1,e1,e1,e1,e2,e3,e4];by_cases a1:BN n=1
  ·have hv:0<=Hz n/\Hz n<(d.length:Int):=by
     rcases hf with h |h |h |h
     ·grind
     ·omega
     ·omega
     ·omega
   rw[AMo a1,AMb a1,AMo (show 0<=n.2.1/\n.2.1<(d.length:Int)from hv)];exact Ay.mk rfl
  ·rw[AMp a1,AL9 a1];by_cases a2:BN n=2
   ·rw[AMo a2,AMb a2];exact Ay.mk rfl
   ·rw[AMp a2,AL9 a2];by_cases a4:BN n=4
    ·rw[AMo a4,AMb a4];by_cases h:0<=nB n/\nB n<=nA n/\nA n<S
     ·rw[AMo h,AL9 (λhh=>hh h)];refine Ay.mk ?_;show wI (wI (nA n-nB n)+1)=_;rw[BX (x:=nA n-nB n),BX]
     ·rw[AMp h,AMb h];exact Ay.mk rfl
    ·rw[AMp a4,AL9 a4];by_cases a5:BN n=5\/BN n=6
     ·rw[AMo a5];have hc:(bif decide (BN n=5)then decide (BN n=5)else decide (BN n=6))=true:=by
       grind
      rw[hc];by_cases h:0<=nA n/\nA n<=4096
      ·rw[AMo h,AMb h];refine Ay.mk ?_;show wI (S+nA n)=_;rw[BX]
      ·rw[AMp h,AL9 h];exact Ay.mk rfl
     ·rw[AMp a5];have hc:(bif decide (BN n=5)then decide (BN n=5)else decide (BN n=6))=false:=by
       grind
      rw[hc];by_cases a7:BN n=7\/BN n=8
      ·rw[AMo a7];have hc:(bif decide (BN n=7)then decide (BN n=7)else decide (BN n=8))=true:=by
        grind
       rw[hc];by_cases h:0<=nA n/\nA n<=4096
       ·rw[AMo h,AMb h];exact Ay.mk rfl
       ·rw[AMp h,AL9 h];exact Ay.mk rfl
      ·rw[AMp a7];have hc:(bif decide (BN n=7)then decide (BN n=7)else decide (BN n=8))=false:=by
        grind
       rw[hc];by_cases a9:BN n=9
       ·rw[AMo a9,AMb a9];by_cases h:1<=nA n/\nA n<=4096
        ·rw[AMo h,AMb h];refine Ay.mk ?_;show wI (S*nA n)=_;have h1:0<=S*nA n:=Int.mul_nonneg hSb.1 (by omega);have h2:S*nA n<=8192*4096:=Int.mul_le_mul hSb.2 h.2 (by omega) (by omega);rw[BX]
        ·rw[AMp h,AL9 h];exact Ay.mk rfl
       ·rw[AMp a9,AL9 a9];exact Ay.mk rfl
theorem Ahl{d:AOE}{BM:AOz}{n:AOq}(hw:gA BM)(FR:Nq n BM.length)(hf:KZ d n):GR d n (min 8192 (TF BM n))=GR d n (TF BM n)\/(4096<GR d n (min 8192 (TF BM n))/\4096<GR d n (TF BM n)):=by
 have hb:=WM hw FR;rcases hf with h |h |h |h
 ·grind
 ·grind
 ·by_cases hs:TF BM n<=8192
  ·grind
  ·have e:∀S,GR d n S=S:=λS=>by simp[GR,h.1]
   rw[e,e];omega
 grind
instance (n:AOq):Decidable (Wm n):=inferInstanceAs (Decidable (_/\_/\_/\_))
theorem Agl(n:AOq):Em n=decide (Wm n):=by
 have hb:((n.2.2.2.2.1.1==(0:Int))&&((n.2.2.2.2.1.2.1.length:Int)==0))=decide (NoB n):=mD n;have h1:(decide (n.1>=4)&&decide (n.1<=9))=decide (ah n):=(AM2 _ _).symm;have e1:∀x:Int,(n.1 !=x)=decide (BN n≠x):=λx=>Ts;have e0:(n.1==(2:Int))=decide (BN n=2):=Tq;have e2:(n.2.1 !=(0:Int))=decide (Hz n≠0):=Ts;have e3:(n.2.2.2.1 !=(0:Int))=decide (nB n≠0):=Ts;have e4:(n.2.2.1 !=(0:Int))=decide (nA n≠0):=Ts;have hp:decide (Wm n)=decide ((BN n≠1->Hz n=0)/\(BN n≠2->NoB n)/\(BN n≠4->nB n=0)/\(¬ah n->nA n=0)):=rfl;rw[hp];unfold Em;rw[hb,h1,e1,e1,e0,e2,e3,e4];by_cases a1:BN n=1<;>by_cases a2:BN n=2<;>by_cases a3:BN n=4<;>by_cases a4:ah n<;>by_cases a5:Hz n=0<;>by_cases a6:NoB n<;>by_cases a7:nB n=0<;>by_cases a8:nA n=0 <;>
  first |(exfalso;omega)|(simp[a1,a2,a3,a4,a5,a6,a7,a8];done)
theorem tA{d:AOE}{BM:AOz}{n:AOq}(hn:Y6 n)(hw:gA BM)(hd:d.length<=1048576)(FR:Nq n BM.length):Ay (Gy n d (G1 BM n)) λr=>(KZ d n->r=GR d n (TF BM n))/\(¬KZ d n->r=-1):=by
 have hlen:=hn.1;have o9:(G1 BM n).length=(AL n).length:=by unfold G1;rw[AMi]
 have hS:=WM hw FR;have e1:∀x:Int,(n.1==x)=decide (BN n=x):=λx=>Tq;have e2:((((G1 BM n).length:Nat):Int)==0)=decide ((AL n).length=0):=by rw[oc,o9]
 have e3:((((G1 BM n).length:Nat):Int) !=1)=decide ((AL n).length≠1):=by rw[Ts,ANL];omega
 have e4:decide ((((G1 BM n).length:Nat):Int)>1)=decide (2<=(AL n).length):=by rw[ANL];omega
 have e5:AP n.2.1 0 (wI ((d.length:Int)-1))=decide (0<=Hz n/\Hz n<(d.length:Int)):=by
  rw[KH,BX (x:=(d.length:Int)-1),ANL];show 0<=Hz n/\Hz n<=(d.length:Int)-1↔_;omega
 have e6:AP n.2.2.1 0 4096=decide (0<=nA n/\nA n<=4096):=KH _ _ _;have e7:AP n.2.2.1 1 4096=decide (1<=nA n/\nA n<=4096):=KH _ _ _;have ZJ:ah n↔4<=BN n/\BN n<=9:=Iff.rfl;obtain⟨f,hf⟩:∃f,f=(bif decide ((((G1 BM n).length:Nat):Int)>0)then(G1 BM n).getD 0 0 else 0):=⟨_,rfl⟩;have hf1:(AL n).length=1->f=TF BM n:=λh=>by
  rw[hf,LO,AMm];unfold TF;obtain⟨x,hx⟩:=List.length_eq_one_iff.1 (show(G1 BM n).length=1 by omega);rw[hx];simp
 unfold Gy PD;rw[show F0 n d (G1 BM n)=some f by
  unfold F0;rw[hf];by_cases h:(AL n).length=0
  ·rw[IV];rfl
  ·rw[LO,AMm,AMm,AMo ⟨by omega,by omega⟩];rfl,AL6,e5,e6,e7]
 rw[e1,e1,e1,e1,e1,e1,e1,e1,e2,e3,e4];have hF:KZ d n↔(BN n=1/\(AL n).length=0/\0<=Hz n/\Hz n<(d.length:Int))\/(BN n=2/\(AL n).length=0/\rk n)\/(BN n=3/\2<=(AL n).length)\/(4<=BN n/\BN n<=9/\(AL n).length=1):=Iff.rfl;have AC2:¬KZ d n->Ay (some (-1:Int)) λr=>(KZ d n->r=GR d n (TF BM n))/\(¬KZ d n->r=-1):=λh=>Ay.mk ⟨λh'=>absurd h' h,λ_=>rfl⟩;have pos:∀v:Int,KZ d n->v=GR d n (TF BM n)->Ay (some v) λr=>(KZ d n->r=GR d n (TF BM n))/\(¬KZ d n->r=-1):=λv h e=>Ay.mk ⟨λ_=>e,λh'=>absurd h h'⟩;by_cases c1:BN n=1/\(AL n).length=0/\(0<=Hz n/\Hz n<(d.length:Int))
 ·rw[<-AM2,<-AM2,AMb c1,AMm,AMo (show 0<=n.2.1/\n.2.1<(d.length:Int)from c1.2.2)];exact pos _ (hF.2 (.inl c1)) (by unfold GR;rw[AMo c1.1];rfl)
 ·rw[<-AM2,<-AM2,AL9 c1,AMl];obtain⟨b,ki,o7⟩:∃b,F3 n (G1 BM n) f=some b/\(b=true↔BN n=2/\(AL n).length=0/\rk n):=by
   unfold F3;rw[e1,e2];obtain⟨r,hr,hq⟩:=kI (w:=nW n) hn.2.2 hn.2.1;have e6:Ph n.2.2.2.2.1=some r:=hr;rw[e6];have hq:r=true↔rk n:=hq;by_cases a2:BN n=2
   ·by_cases a3:(AL n).length=0
    ·rw[AMb a2,AMb a3];exact⟨r,rfl,by rw[hq];exact⟨λh=>⟨a2,a3,h⟩,λh=>h.2.2⟩⟩
    ·rw[AMb a2,AL9 a3];exact⟨false,rfl,λh=>by(cases h),λh=>absurd h.2.1 a3⟩
   ·rw[AL9 a2];exact⟨false,rfl,λh=>by(cases h),λh=>absurd h.1 a2⟩
  rw[ki,AL6];cases b with
  |true =>
   have c2:=o7.1 rfl;exact pos _ (hF.2 (.inr (.inl c2))) (by unfold GR;rw[OV,AMo c2.1];rfl)
  |false =>
   have c2:¬(BN n=2/\(AL n).length=0/\rk n):=λh=>by have:=o7.2 h;cases this
   rw[AMl,<-AM2];by_cases c3:BN n=3/\2<=(AL n).length
   ·rw[AMb c3,AMm];unfold Nu;have:=AU (f:=Cv (G1 BM n) (((G1 BM n).length:Nat):Int)) (λk=>((((G1 BM n).take k).sum:Int),(k:Int))) (t:=TF BM n) (G1 BM n).length (λk hk=>by
     unfold Cv Hh;rw[o9]at hk;have hb:=ZN hw FR k (by omega);have hwk:=jW hw (FR _ (AJ (z:=0) hk));have hg:(G1 BM n).getD k 0=BM.getD ((AL n).getD k 0).toNat 0:=by unfold G1;exact FZ (λk=>BM.getD k.toNat 0) hk
     simp only;rw[o9,Dy hk,AMm,AMo (Bl hk),AL7,Bj hk (by omega),dc hk];show some (Sum.inl (wI (((G1 BM n).take k).sum+(G1 BM n).getD k 0),_))=_;rw[hg,BX]) (by
     unfold Cv Hh;simp only;rw[Fb,AMl,AMg (AMc _)];rfl)
    rw[show fix (Cv (G1 BM n) (((G1 BM n).length:Nat):Int)) (0,0)=some (TF BM n)from this];exact pos _ (hF.2 (.inr (.inr (.inl c3)))) (by unfold GR;simp[c3.1])
   ·rw[AL9 c3,AMl];by_cases c4:(AL n).length=1
    ·rw[AL9 (λh=>h c4),AMl];have hfS:=hf1 c4;have hSb:0<=f/\f<=4096:=by omega
     have BU:4<=BN n/\BN n<=9->KZ d n:=λh=>hF.2 (.inr (.inr (.inr ⟨h.1,h.2,c4⟩)));have e4':(decide (n.2.2.2.1>=0)&&(decide (n.2.2.2.1<=n.2.2.1)&&decide (n.2.2.1<f)))=decide (0<=nB n/\nB n<=nA n/\nA n<f):=by
      show(decide (nB n>=0)&&(decide (nB n<=nA n)&&decide (nA n<f)))=_;rw[<-AM2,<-AM2]
     rw[e4',<-AM2,<-AM2,<-AM2,<-AM2];have ecx:(n.2.2.1:Int)=nA n:=rfl;have ecb:(n.2.2.2.1:Int)=nB n:=rfl;have hw0:∀v,v=GR d n f->v=GR d n (TF BM n):=λv h=>by rw[<-hfS];exact h
     by_cases a4:BN n=4
     ·by_cases h:0<=nB n/\nB n<=nA n/\nA n<f
      ·rw[AMb ⟨a4,h⟩,AMm];refine pos _ (BU (by omega)) (hw0 _ ?_);show wI (wI (nA n-nB n)+1)=_;rw[BX (x:=nA n-nB n),BX];unfold GR;simp[a4,h]
      ·have:∀v:Int,v=-1->v=GR d n f:=λv hv=>by unfold GR;simp[a4,h,hv]
       simp[a4,h];exact pos _ (BU (by omega)) (hw0 _ (this _ rfl))
     ·by_cases a5:BN n=5\/BN n=6
      ·by_cases h:0<=nA n/\nA n<=4096
       ·have:(bif decide (BN n=5)then decide (0<=nA n/\nA n<=4096)else decide (BN n=6/\0<=nA n/\nA n<=4096))=true:=by
          rcases a5 with h' |h'<;>simp[h',h]
        rw[IV,AMl,this,AMm];refine pos _ (BU (by omega)) (hw0 _ ?_);show wI (f+nA n)=_;rw[BX];unfold GR;rcases a5 with h' |h'<;>simp[h',h]
       ·have:∀v:Int,v=-1->v=GR d n f:=λv hv=>by unfold GR;rcases a5 with h' |h'<;>simp[h',h,hv]
        have h2:=pos _ (BU (by omega)) (hw0 _ (this _ rfl));rcases a5 with h' |h'<;>simp[h',h]<;>exact h2
      ·by_cases a7:BN n=7\/BN n=8
       ·by_cases h:0<=nA n/\nA n<=4096
        ·have h2:=pos f (BU (by omega)) (hw0 _ (by unfold GR;rcases a7 with h' |h'<;>simp[h',h]));rcases a7 with h' |h'<;>simp[h',h]<;>exact h2
        ·have:∀v:Int,v=-1->v=GR d n f:=λv hv=>by unfold GR;rcases a7 with h' |h'<;>simp[h',h,hv]
         have h2:=pos _ (BU (by omega)) (hw0 _ (this _ rfl));rcases a7 with h' |h'<;>simp[h',h]<;>exact h2
       ·by_cases a9:BN n=9
        ·by_cases h:1<=nA n/\nA n<=4096
         ·have h1:0<=f*nA n:=Int.mul_nonneg hSb.1 (by omega);have h2:f*nA n<=4096*4096:=Int.mul_le_mul hSb.2 h.2 (by omega) (by omega);have h3:=pos (wI (f*nA n)) (BU (by omega)) (hw0 _ (by rw[BX];unfold GR;simp[a9,h]));simp[a9,h];exact h3
         ·have:∀v:Int,v=-1->v=GR d n f:=λv hv=>by unfold GR;simp[a9,h,hv]
          have h2:=pos _ (BU (by omega)) (hw0 _ (this _ rfl));simp[a9,h];exact h2
        ·simp only[not_or]at a5 a7;have h2:=AC2 (by rw[hF];omega);simp[a4,a5,a7,a9];exact h2
    ·rw[AMb c4,AMm];exact AC2 (by rw[hF];intro h;rcases h with h |h |h |h;exact c1 h;exact c2 h;exact c3 h;exact c4 h.2.2)
def nd(t:AOH)(i:Nat):AOq:=t.getD i Ag.zero
def kh(d:AOE)(t:AOH)(ws:AOz):Prop:=ws.length<=t.length/\∀j,j<ws.length->qZ d (ws.take j) (nd t j) (ws.getD j 0)
def cA(t:AOH)(k i:Nat):Prop:=∃j,j<i/\(k:Int)∈AL (nd t j)
def LQ(d:AOE)(t:AOH)(ws:AOz):Prop:=1<=t.length/\t.length<=400/\ws.length=t.length/\kh d t ws/\∀k,k+1<t.length->cA t k t.length
def Hv(t:AOH):Prop:=t.length<=1048576/\∀n∈t,Y6 n
theorem kh.take{d:AOE}{t:AOH}{ws:AOz}(h:kh d t ws)(i:Nat):kh d t (ws.take i):=by
 have hl:=h.1;refine⟨by grind,λj hj=>?_⟩;rw[AMr]at hj;have:=h.2 j (by omega)
 grind
theorem kh.unique{d:AOE}{t:AOH}{a b:AOz}(ha:kh d t a)(hb:kh d t b)(hl:a.length=b.length):a=b:=by
 have:∀k,k<=a.length->a.take k=b.take k:=by
  intro k;induction k with
  |zero=>simp
  |succ k ih =>
   intro hk;have e:=ih (by omega);have h1:=ha.2 k (by omega);have h2:=hb.2 k (by omega);rw[AW (show k<a.length by omega),AW (show k<b.length by omega),e];rw[e]at h1;rw[h1.2.2.2.1,h2.2.2.2.1]
 have:=this _ (AMc _)
 grind
theorem kh.BM{d:AOE}{t:AOH}{ws:AOz}(h:kh d t ws)(hl:t.length<=1048576):gA ws:=by
 refine⟨AMA h.1 hl,λw hw=>?_⟩;obtain⟨j,hj,rfl⟩:=AM5 hw;have:=(h.2 j hj).2.2.2.2
 grind
theorem kh.snoc{d:AOE}{t:AOH}{ws:AOz}{w:Int}(h:kh d t ws)(hl:ws.length<t.length)(hn:qZ d ws (nd t ws.length) w):kh d t (ws++[w]):=by
 refine⟨by grind,λj hj=>?_⟩;rw[AMa]at hj;simp only[ANe,ANT]at hj;rcases AMh j ws.length with h' |h'
 ·rw[ANb (by omega),show(ws++[w]).getD j 0=ws.getD j 0 by grind];exact h.2 j h'
 grind
theorem LQ.node{d:AOE}{t:AOH}{ws ko:AOz}(h:LQ d t ko)(hp:kh d t ws)(hl:ws.length<t.length):∃w,qZ d ws (nd t ws.length) w:=by
 have e:ws=ko.take ws.length:=hp.unique (h.2.2.2.1.take _) (by rw[AMr,h.2.2.1];omega);have:=h.2.2.2.1.2 _ (by rw[h.2.2.1];exact hl)
 grind
theorem Abc(BM:AOz)(n:AOq):CK (λm=>BM.getD ((AL n).getD m 0).toNat 0) 0 (AL n).length (AL n).length=G1 BM n:=by
 refine AM1 (by simp[CK,G1]) λi h1 h2=>?_;have :=by simpa [CK]using h1
 simp[CK,G1,this]
theorem WA{l:AOz}{x:Int}:x∈l↔∃m,m<l.length/\l.getD m 0=x:=by
 constructor
 ·intro h;obtain⟨m,hm,rfl⟩:=AM5 h;exact⟨m,hm,by grind⟩
 grind
theorem kz{l:AOA}{k j:Nat}(hk:k<l.length):(l.set k true).getD j false=if j=k then true else l.getD j false:=by
 grind
theorem tt{D:AOE}{C E:Int}{t:AOu}{q:AOq}{ws out:AOz}{UJ:AOA}{n:AOq}{N:Nat}(hn:Y6 n)(hl:ws.length<N)(hN:N<=1048576)(ho:out=ws++List.replicate (N-ws.length) 0)(hu:UJ.length=N) :
    Ay (P7 D C (ws.length:Int) E t out q (AL n) ((AL n).length:Int) 0 UJ (List.replicate (AL n).length 0)) λr=>(∃x,r=.inl x/\¬Nq n ws.length)\/(∃u,r=.inr (G1 ws n,u)/\Nq n ws.length/\u.length=N/\∀k:Nat,k<N->(u.getD k false=true↔UJ.getD k false=true\/(k:Int)∈AL n)):=by
 have hlen:=hn.1;have hol:out.length=N:=by grind
 have VY:∀k:Nat,k<ws.length->out.getD k 0=ws.getD k 0:=λk hk=>by grind
 have:=BR (f:=GC D C (ws.length:Int) E t out q (AL n) ((AL n).length:Int)) (λj (u:AOA)=>((j:Int),u,CK (λm=>ws.getD ((AL n).getD m 0).toNat 0) 0 (AL n).length j)) (AL n).length
  (λj u=>(∀m,m<j->0<=(AL n).getD m 0/\(AL n).getD m 0<(ws.length:Int))/\u.length=N/\∀k:Nat,k<N->(u.getD k false=true↔UJ.getD k false=true\/∃m,m<j/\(AL n).getD m 0=(k:Int)))
  (Q:=λr=>(∃x,r=.inl x/\¬Nq n ws.length)\/(∃u,r=.inr (G1 ws n,u)/\Nq n ws.length/\u.length=N/\∀k:Nat,k<N->(u.getD k false=true↔UJ.getD k false=true\/(k:Int)∈AL n))) (λj u hj hI=>?_) (λu hI=>?_) (s0:=UJ) ⟨λm hm=>by omega,hu,λk _=>⟨λh=>.inl h,λh=>by grind⟩⟩
 ·rw[LU]at this;exact this
 ·unfold GC MH;rw[Dy hj,AMo (Bl hj),AL7,KH,BX (x:=(ws.length:Int)-1)];show Ay (bif !decide (0<=(AL n).getD j 0/\(AL n).getD j 0<=(ws.length:Int)-1)then _ else _) _;by_cases h:0<=(AL n).getD j 0/\(AL n).getD j 0<=(ws.length:Int)-1
  ·rw[AMb h];obtain⟨k,hk⟩:∃k:Nat,(AL n).getD j 0=(k:Int):=⟨((AL n).getD j 0).toNat,by omega⟩;have o9:k<ws.length:=by omega
   rw[show(AL n).getD j APr.zero=(k:Int)from hk,AL7,AMo ⟨by omega,by omega⟩,AMo ⟨by omega,by grind⟩,HG,AMo (Bl hj),Bj hj (by omega)];refine Ay.mk ⟨u.set k true,?_,λm hm=>?_,by grind,λi hi=>?_⟩
   ·rw[<-Pb];have hg:out.getD k APr.zero=ws.getD ((AL n).getD j 0).toNat 0:=by
     grind
    rw[hg]
   ·rcases AMh m j with h' |h'
    ·exact hI.1 m h'
    ·rw[show m=j by omega];omega
   ·rw[kz (by omega)];by_cases hik:i=k
    ·subst hik;simp only[AMR,true_iff];exact .inr ⟨j,by omega,hk⟩
    ·rw[AMp hik,hI.2.2 i hi];constructor
     ·rintro(h |⟨m,h1,h2⟩)
      ·exact .inl h
      ·exact .inr ⟨m,by omega,h2⟩
     ·rintro(h |⟨m,h1,h2⟩)
      ·exact .inl h
      ·rcases AMh m j with h' |h'
       ·exact .inr ⟨m,h',h2⟩
       ·have:m=j:=by omega
        subst this;omega
  ·rw[AL9 h];exact Ay.mk (.inl ⟨_,rfl,λhk=>h (by have:=hk _ (AJ (z:=0) hj);omega)⟩)
 ·unfold GC MH;rw[Fb];refine Ay.mk (.inr ⟨u,by rw[Abc],λk hk=>?_,hI.2.1,λk hk=>?_⟩)
  ·obtain⟨m,hm,rfl⟩:=WA.1 hk;exact hI.1 m hm
  ·rw[hI.2.2 k hk,WA]
theorem rU{u:AOA}(hl:u.length<=1048576):Ay (H7 u false) λr=>r=true↔∃k,k<u.length/\u.getD k false=false:=by
 refine Ay.bind (P:=λr=>0<=r↔∃k,k<u.length/\u.getD k false=false) (Ay.bind (P:=λt=>(∃j:Nat,t=.inl j/\j<u.length/\u.getD j false=false)\/(t=.inr ()/\∀j,j<u.length->u.getD j false=true)) ?_ λt ht=>?_) λr hr=>Ay.mk (by grind)
 ·refine BR (λj _=>(j:Int)) u.length (λj _=>∀k,k<j->u.getD k false=true) (λj _ hj hJ=>?_) (λ_ hJ=>?_) (s0:=()) (λi h=>by omega)
  ·unfold DR Gp;rw[Dy hj,AMo (Bl hj)];show Ay (bif false==u.getD j false then _ else _) _;cases he:u.getD j _ with
   |false=>exact Ay.mk (.inl ⟨j,rfl,hj,he⟩)
   |true =>
    rw[Bj hj (by omega)];refine Ay.mk ⟨(),rfl,λk hk=>?_⟩
    grind
  ·unfold DR Gp;rw[Fb];exact Ay.mk (.inr ⟨rfl,hJ⟩)
 ·rcases ht with ⟨j,rfl,h1,h2⟩|⟨rfl,h⟩
  ·exact Ay.mk ⟨λ_=>⟨j,h1,h2⟩,λ_=>by omega⟩
  ·exact Ay.mk ⟨λh'=>absurd (show 0<=-1 from h') (by omega),λ⟨j,h1,h2⟩=>by grind⟩
theorem kL{d:AOE}{t:AOH}(ht:Hv t)(hd:d.length<=1048576):Ay (Sf d (t,())) λr=>(r.1=true/\LQ d t r.2)\/(r.1=false/\¬∃ws,LQ d t ws):=by
 unfold Sf PD;show Ay (bif decide ((t.length:Int)<1)||decide ((t.length:Int)>400)then _ else _) _;by_cases hl:1<=t.length/\t.length<=400
 ·rw[IV,IV,Bool.or_false,AMl];rw[show L9 d (t,()) (t.length:Int)=some (List.replicate t.length 0,List.replicate t.length false) by
   unfold L9;rw[AMo ⟨rfl,by omega,by omega,by omega,by omega⟩,AMo ⟨rfl,by omega,by omega,by omega,by omega⟩,AL7],AL6]
  refine Ay.bind (P:=λr=>(∃x,r=.inl x/\¬∃ws,LQ d t ws)\/(∃ws u,r=.inr (u,ws)/\ws.length=t.length/\kh d t ws/\u.length=t.length/\∀k:Nat,k<t.length->(u.getD k false=true↔cA t k t.length))) ?_ λr hr=>?_
  ·unfold T1;have:=BR (f:=GD d (t,()) (t.length:Int) (t.length:Int)) (λi (s:AOz×AOA)=>((i:Int),s.1,s.2)) t.length
    (λi s=>∃ws:AOz,ws.length=i/\kh d t ws/\s.1=ws++List.replicate (t.length-i) 0/\s.2.length=t.length/\∀k:Nat,k<t.length->(s.2.getD k false=true↔cA t k i))
    (Q:=λr=>(∃x,r=.inl x/\¬∃ws,LQ d t ws)\/(∃ws u,r=.inr (u,ws)/\ws.length=t.length/\kh d t ws/\u.length=t.length/\∀k:Nat,k<t.length->(u.getD k false=true↔cA t k t.length))) (λi s hi hI=>?_) (λs hI=>?_) (s0:=(List.replicate t.length 0,List.replicate t.length false)) ⟨[],rfl,⟨AMS _,λj hj=>by simp at hj⟩,rfl,AMD,λk hk=>by
     have h0:(List.replicate t.length false).getD k false=false:=by simp[List.getD,hk]
     constructor
     ·intro h;rw[h0]at h;cases h
     ·rintro⟨j,hj,_⟩;omega⟩
   ·exact this
   ·obtain⟨out,UJ⟩:=s;obtain⟨ws,rfl,hp,ho,iQ,hu⟩:=hI;simp only at ho iQ hu;have hn:Y6 (nd t ws.length):=ht.2 _ (AJ hi);have o9:=hn.1;unfold GD MI;simp only;rw[show decide ((ws.length:Int)<(t.length:Int))=true from Dy hi,AMm,AMo (Bl hi),AL7];show Ay (bif decide (((AL (nd t ws.length)).length:Int)>4096)then _ else if Ty.row APr=true/\(0:Int)<=((AL (nd t ws.length)).length:Int)/\((AL (nd t ws.length)).length:Int)<=((AL (nd t ws.length)).length:Int)/\((8:Nat):Int)*((AL (nd t ws.length)).length:Int)<=(281474976710656:Int)/\((AL (nd t ws.length)).length:Int)<=(9223372036854775807:Int)then(P7 d (t.length:Int) (ws.length:Int) (t.length:Int) (t,()) out (nd t ws.length) (AL (nd t ws.length)) ((AL (nd t ws.length)).length:Int) 0 UJ (List.replicate ((AL (nd t ws.length)).length:Int).toNat 0)).bind _ else none) _;by_cases hk4:(AL (nd t ws.length)).length>4096
    ·rw[LO];refine Ay.mk (.inl ⟨_,rfl,λ⟨ko,h'⟩=>?_⟩);obtain⟨w,hw⟩:=h'.node hp hi;have hb:=WM (hp.BM ht.1) hw.1;have Za:=hw.2.2.1;have heq:=hw.2.2.2.1;have hw4:=hw.2.2.2.2.2;rcases Za with h |h |h |h
     ·omega
     ·omega
     ·have:GR d (nd t ws.length) (G1 ws (nd t ws.length)).sum=TF ws (nd t ws.length):=by unfold TF GR;simp[h.1]
      omega
     ·omega
    ·rw[IV,AMl,AMo ⟨rfl,by omega,by omega,by omega,by omega⟩,AL7];refine Ay.bind (tt hn hi ht.1 ho iQ) λr hr=>?_;rcases hr with ⟨x,rfl,h⟩|⟨u,rfl,FR,AGw,hu'⟩
     ·refine Ay.mk (.inl ⟨_,rfl,λ⟨ko,h'⟩=>?_⟩);obtain⟨w,hw⟩:=h'.node hp hi;exact h hw.1
     ·simp only[AM4];obtain⟨r,hr,hq⟩:=tA (d:=d) hn (hp.BM ht.1) hd FR;rw[show Gy (t.getD ws.length Ag.zero) d (G1 ws (nd t ws.length))=some r from hr,AL6];have hol:out.length=t.length:=by rw[ho,AMa,AMD];omega
      rw[AMo ⟨by omega,by rw[hol];omega⟩];unfold P8;rw[show Em (t.getD ws.length Ag.zero)=_ from Agl (nd t ws.length),AMf,AMo ⟨by omega,by rw[hol];omega⟩,AL7];have hgs:(out.set ws.length r).getD ws.length APr.zero=r:=by simp[List.getD,hol,hi]
      rw[hgs,KH];have Hu:out.set ws.length r=(ws++[r])++List.replicate (t.length-(ws.length+1)) 0:=by
       rw[ho,show t.length-ws.length=(t.length-(ws.length+1))+1 by omega,List.replicate_succ];simp
      by_cases sX:Wm (nd t ws.length)
      ·by_cases qS:1<=r/\r<=4096
       ·rw[AMb sX,AMb qS];simp only[AMP,AMl,AL6];have Za:KZ d (nd t ws.length):=by
         by_cases hf:KZ d (nd t ws.length)
         ·exact hf
         ·have:=hq.2 hf;omega
        have Afm:qZ d ws (nd t ws.length) r:=⟨FR,sX,Za,hq.1 Za,qS⟩;refine Ay.mk ⟨(out.set ws.length r,u),by rw[Bj hi ht.1],ws++[r],by simp,hp.snoc hi Afm,Hu,AGw,λk hk=>?_⟩;rw[hu' k hk,hu k hk];constructor
        ·rintro(⟨j,h1,h2⟩|h)
         ·exact⟨j,by omega,h2⟩
         ·exact⟨ws.length,by omega,h⟩
        ·rintro⟨j,h1,h2⟩
         rcases AMh j ws.length with h' |h'
         ·exact .inl ⟨j,h',h2⟩
         ·rw[show j=ws.length by omega]at h2;exact .inr h2
       ·rw[AMb sX,AL9 qS];refine Ay.mk (.inl ⟨_,rfl,λ⟨ko,h'⟩=>?_⟩);obtain⟨w,hw⟩:=h'.node hp hi;have:=hq.1 hw.2.2.1;have h3:=hw.2.2.2;unfold TF at this;rw[<-this]at h3;exact qS (by rw[<-h3.1];exact h3.2)
      ·rw[AL9 sX];refine Ay.mk (.inl ⟨_,rfl,λ⟨ko,h'⟩=>?_⟩);obtain⟨w,hw⟩:=h'.node hp hi;exact sX hw.2.1
   ·obtain⟨out,UJ⟩:=s;obtain⟨ws,hwl,hp,ho,iQ,hu⟩:=hI;simp only at ho iQ hu;unfold GD MI;simp only;rw[Fb,AMl];rw[Nat.sub_self,List.replicate_zero,AML]at ho;subst ho;exact Ay.mk (.inr ⟨out,UJ,rfl,hwl,hp,iQ,hu⟩)
  ·rcases hr with ⟨x,rfl,h⟩|⟨ws,u,rfl,hwl,hp,iQ,hu⟩
   ·exact Ay.mk (.inr ⟨rfl,h⟩)
   ·simp only[AM4];have e1:wI ((t.length:Int)-1)=((t.length-1:Nat):Int):=A1;rw[e1,AMo ⟨by omega,by omega,by rw[iQ];omega⟩,AL7,AOb];have htl:(u.take (t.length-1)).length=t.length-1:=by rw[AMr];omega
    have hgt:∀k,k<t.length-1->(u.take (t.length-1)).getD k false=u.getD k false:=λk hk=>by simp[List.getD,hk]
    refine Ay.bind (rU (by omega)) λr hr=>Ay.mk ?_;rw[htl]at hr;cases r with
    |false =>
     refine .inl ⟨rfl,hl.1,hl.2,hwl,hp,λk hk=>(hu k (by omega)).1 ?_⟩;cases hc:u.getD k false with
     |true=>rfl
     |false=>have:=hr.2 ⟨k,by omega,by rw[hgt k (by omega)];exact hc⟩;cases this
    |true =>
     obtain⟨k,hk,hf⟩:=hr.1 rfl;rw[hgt k hk]at hf;refine .inr ⟨rfl,λ⟨ko,h'⟩=>?_⟩;have:=(hu k (by omega)).2 (h'.2.2.2.2 k (by omega));rw[this]at hf;cases hf
 ·have hc:(decide ((t.length:Int)<1)||decide ((t.length:Int)>400))=true:=by simp;omega
  rw[hc];exact Ay.mk (.inr ⟨rfl,λ⟨ws,h⟩=>hl ⟨h.1,h.2.1⟩⟩)
theorem uA{D:AOE}{W:AOz}{t:AOH}{i:Nat}{UJ:AOA}(hi:i<t.length)(hn:Y6 (nd t i))(FR:Nq (nd t i) UJ.length) :
    Ay (Rt D (i:Int) (t,()) W 0 UJ) λu=>u.length=UJ.length/\∀k:Nat,k<UJ.length->(u.getD k false=true↔UJ.getD k false=true\/(k:Int)∈AL (nd t i)):=by
 have hlen:=hn.1;refine BR (λj u=>((j:Int),u)) (AL (nd t i)).length (λj u=>u.length=UJ.length/\∀k ,k<UJ.length->(u.getD k false=true↔UJ.getD k _=true\/∃m,m<j/\(AL (nd t i)).getD m 0=k)) (λj u hj hI=>?_) (λu hI=>?_)  ⟨rfl,λk _=>⟨λh=>.inl h,λh=>by grind⟩⟩
 ·unfold G8 Ka;rw[AMo (Bl hi),AMo (Bl hi)];show Ay (bif decide (j<((AL (nd t i)).length:Int))then(if 0<=(j:Int)/\j<((AL (nd t i)).length:Int)then(if 0<=(AL _).getD j 0/\(AL (nd t i)).getD j 0<u.length then some (Sum.inl (wI _,u.set ((AL (nd t i)).getD j 0).toNat true))else none)else none)else _) _;have AjG:=FR _ (AJ (z:=0) hj);rw[Dy hj,AMo (Bl hj),AMo ⟨AjG.1,by grind⟩,Bj hj (by omega)];obtain⟨k,hk⟩:∃k:Nat,(AL (nd t i)).getD j 0=k:=⟨((AL (nd t i)).getD j 0).toNat,by omega⟩;rw[hk,AL7];refine Ay.mk ⟨_,rfl,by grind,λi' qR=>?_⟩
  grind
 ·unfold G8 Ka;rw[AMo (Bl hi)];show Ay (bif decide (((AL _).length)<((AL (nd t i)).length:Int))then _ else some _) _;rw[Fb];refine Ay.mk ⟨hI.1,λk hk=>?_⟩;rw[hI.2 k hk,WA]
theorem kZ{d:AOE}{t:AOH}(ht:Hv t)(hd:d.length<=1048576):Ay (Ob d (t,())) λr=>(Az d/\LQ d t r)\/(r=[]/\¬(Az d/\∃ws,LQ d t ws)):=by
 unfold Ob;have htb:=ht.1;obtain⟨b,ki,o7⟩:∃b,Ji d (t,())=some b/\(b=false↔Az d/\1<=t.length/\t.length<=400):=by
  obtain⟨r,hr,hq⟩:=WJ d;unfold Ji;rw[hr,AL6];show ∃b,(bif !r then some true else bif decide ((t.length:Int)<1)then some true else some (decide ((t.length:Int)>400)))=some b/\_;cases r with
  |false=>exact⟨true,rfl,λh=>by(cases h),λh=>by have:=hq.2 h.1;cases this⟩
  |true =>
   have fI:=hq.1 rfl;by_cases h1:(t.length:Int)<1
   ·rw[AMb h1];exact⟨true,rfl,λh=>by(cases h),λh=>by omega⟩
   ·rw[AL9 h1];refine⟨_,rfl,?_⟩;rw[AMW];exact⟨λh=>⟨fI,by omega,by omega⟩,λh=>by omega⟩
 rw[ki,AL6];cases b with
 |true =>
  refine Ay.mk (.inr ⟨rfl,λh=>?_⟩);obtain⟨h1,ws,h2⟩:=h;have:=o7.2 ⟨h1,h2.1,h2.2.1⟩;cases this
 |false =>
  obtain⟨fI,UG,fJ⟩:=o7.1 rfl;rw[AMl];show Ay (if Ty.row .bool=true/\(0:Int)<=(t.length:Int)/\(t.length:Int)<=(t.length:Int)/\((1:Nat):Int)*(t.length:Int)<=(281474976710656:Int)/\(t.length:Int)<=(9223372036854775807:Int)then(MY d (t,()) 0 [] (List.replicate (t.length:Int).toNat false)).bind _ else none) _;rw[AMo ⟨rfl,by omega,by omega,by omega,by omega⟩,AL7];refine Ay.bind (P:=λr=>(∃x,r=.inl x/\¬∃ws,LQ d t ws)\/(∃ws u,r=.inr (u,ws)/\ws.length=t.length/\kh d t ws/\u.length=t.length/\∀k:Nat,k<t.length->(u.getD k false=true↔cA t k t.length))) ?_ λr hr=>?_
  ·unfold MY;refine BR (λi (s:AOz×AOA)=>((i:Int),s.1,s.2)) t.length
    (λi s=>s.1.length=i/\kh d t s.1/\s.2.length=t.length/\∀k:Nat,k<t.length->(s.2.getD k false=true↔cA t k i))
    (λi s hi hI=>?_) (λs hI=>?_) (s0:=(([]:AOz),List.replicate t.length false)) ⟨rfl,⟨AMS _,λj hj=>by simp at hj⟩,AMD,λk hk=>by
     have h0:(List.replicate t.length false).getD k false=false:=by simp[List.getD,hk]
     constructor
     ·intro h;rw[h0]at h;cases h
     ·rintro⟨j,hj,_⟩;omega⟩
   ·obtain⟨ws,UJ⟩:=s;obtain⟨hwl,hp,iQ,hu⟩:=hI;simp only at hwl hp iQ hu;subst hwl;have hn:Y6 (nd t ws.length):=ht.2 _ (AJ hi);unfold G9 Kb;simp only;rw[show decide ((ws.length:Int)<(t.length:Int))=true from Dy hi,AMm,AMo (Bl hi),AL7];obtain⟨r,hr,hq⟩:=uv (d:=d) (i:=ws.length) hn (by omega) hd;rw[show Pq d (t.getD ws.length Ag.zero) (ws.length:Int)=some r from hr,AL6];cases r with
    |false =>
     refine Ay.mk (.inl ⟨_,rfl,λ⟨ko,h'⟩=>?_⟩);obtain⟨w,hw⟩:=h'.node hp hi;have:=hq.2 ⟨hw.1,hw.2.1,hw.2.2.1⟩;cases this
    |true =>
     obtain⟨FR,sX,Za⟩:=hq.1 rfl;simp only[AMP,AMl];rw[AMo (Bl hi)];have hwb:=hp.BM htb;obtain⟨w,hw,hwe⟩:=uC (d:=d) hn hwb FR Za;rw[show Sz d (t.getD ws.length Ag.zero) ws=some w from hw,AL6,RO];have Alk:=Ahl hwb FR Za;by_cases qS:1<=w/\w<=4096
     ·rw[AMb qS];simp only[AMP,AMl];have Afm:qZ d ws (nd t ws.length) w:=⟨FR,sX,Za,by
       rcases Alk with h |h
       ·rw[hwe,h];rfl
       ·omega,qS⟩
      rw[AMo (by show(_+1)*8<=_;omega)];refine Ay.bind (uA hi hn (by rw[iQ];exact λk hk=>by have:=FR k hk;omega)) λu hu'=>Ay.mk ⟨(ws++[w],u),by rw[Bj hi htb],by simp,hp.snoc hi Afm,hu'.1.trans iQ,λk hk=>?_⟩;rw[hu'.2 k (by omega),hu k hk];constructor
      ·rintro(⟨j,h1,h2⟩|h)
       ·exact⟨j,by omega,h2⟩
       ·exact⟨ws.length,by omega,h⟩
      ·rintro⟨j,h1,h2⟩
       rcases AMh j ws.length with h' |h'
       ·exact .inl ⟨j,h',h2⟩
       ·rw[show j=ws.length by omega]at h2;exact .inr h2
     ·rw[AL9 qS];refine Ay.mk (.inl ⟨_,rfl,λ⟨ko,h'⟩=>?_⟩);obtain⟨v,hv⟩:=h'.node hp hi;have h3:=hv.2.2.2;have e:(G1 ws (nd t ws.length)).sum=TF ws (nd t ws.length):=rfl;rw[e]at h3;rcases Alk with h |h
      ·rw[hwe,h]at qS;exact qS (by rw[<-h3.1];exact h3.2)
      ·omega
   ·obtain⟨ws,UJ⟩:=s;obtain⟨hwl,hp,iQ,hu⟩:=hI;unfold G9 Kb;simp only;rw[Fb,AMl];exact Ay.mk (.inr ⟨ws,UJ,rfl,hwl,hp,iQ,hu⟩)
  ·rcases hr with ⟨x,rfl,h⟩|⟨ws,u,rfl,hwl,hp,iQ,hu⟩
   ·exact Ay.mk (.inr ⟨rfl,λhh=>h hh.2⟩)
   ·simp only[AM4];refine Ay.bind (P:=λr=>(r=.inl ()/\¬∀k,k+1<t.length->u.getD k false=true)\/(r=.inr ()/\∀k,k+1<t.length->u.getD k false=true)) ?_ λr hr=>?_
    ·unfold Ru;refine BR (λj (_:Unit)=>(j:Int)) (t.length-1) (λj _=>∀k,k<j->u.getD k false=true) (λj _ hj hJ=>?_) (λ_ hJ=>?_) (s0:=()) (λi h=>by omega)
     ·unfold Ha Kc;rw[Bj (show j<t.length by omega) htb,iQ,show decide (((j+1:Nat):Int)<(t.length:Int))=true from LO,AMm,AMo (Bl (by omega)),AL7];show Ay (bif !(u.getD j false)then _ else _) _;cases hc:u.getD j false with
      |false=>exact Ay.mk (.inl ⟨rfl,λh=>by rw[h j (by omega)]at hc;cases hc⟩)
      |true =>
       refine Ay.mk ⟨(),rfl,λk hk=>?_⟩;rcases AMh k j with h' |h'
       ·exact hJ k h'
       ·rw[show k=j by omega];exact hc
     ·unfold Ha Kc;rw[show wI (((t.length-1:Nat):Int)+1)=(t.length:Int)from A1,iQ,Fb,AMl];exact Ay.mk (.inr ⟨rfl,λk hk=>hJ k (by omega)⟩)
    ·rcases hr with ⟨rfl,h⟩|⟨rfl,h⟩
     ·exact Ay.mk (.inr ⟨rfl,λ⟨_,ko,h'⟩=>h λk hk=>(hu k (by omega)).2 (h'.2.2.2.2 k hk)⟩)
     ·exact Ay.mk (.inl ⟨fI,UG,fJ,hwl,hp,λk hk=>(hu k (by omega)).1 (h k hk)⟩)
open Classical in
noncomputable def DV(d:AOE)(t:AOH):Int:=if h:∃ws,LQ d t ws then h.choose.getD (t.length-1) 0 else -1
theorem Wj{d:AOE}{t:AOH}{ws:AOz}(h:LQ d t ws):DV d t=ws.getD (t.length-1) 0:=by
 have he:∃ws,LQ d t ws:=⟨ws,h⟩;unfold DV;rw[dif_pos he];have h1:=he.choose_spec;rw[h1.2.2.2.1.unique h.2.2.2.1 (by rw[h1.2.2.1,h.2.2.1])]
theorem UA{d:AOE}{t:AOH}(h:¬∃ws,LQ d t ws):DV d t=-1:=by
 unfold DV;rw[dif_neg h]
theorem dE{d:AOE}{t:AOH}{ws:AOz}(h:LQ d t ws):1<=DV d t/\DV d t<=4096:=by
 rw[Wj h];have:=h.1;exact(h.2.2.2.1.2 _ (by rw[h.2.2.1];omega)).2.2.2.2
theorem LW{d:AOE}{t:AOH}(ht:Hv t)(hd:d.length<=1048576):EK d (t,())=some (DV d t):=by
 refine Ay.eq_ (Ay.bind (kL ht hd) λr hr=>?_);rcases hr with ⟨h1,h2⟩|⟨h1,h2⟩
 ·rw[h1];have:=h2.1;have hb:=ht.1;rw[h2.2.2.1,show wI _=((t.length-1:Nat))from A1,AMo ⟨by omega,by omega⟩];exact Ay.mk (Wj h2).symm
 ·rw[h1];exact Ay.mk (UA h2).symm
theorem Um{d:AOE}{t:AOH}(ht:Hv t)(hd:d.length<=1048576)(fI:Az d):Gq d (t,())=some (DV d t):=by
 refine Ay.eq_ (Ay.bind (kZ ht hd) λr hr=>?_);rcases hr with ⟨_,h2⟩|⟨rfl,h2⟩
 ·have:=h2.1;have hb:=ht.1;rw[h2.2.2.1,Tq,IV,show wI _=((t.length-1:Nat))from A1,AMo ⟨by omega,by omega⟩];exact Ay.mk (Wj h2).symm
 ·exact Ay.mk (UA λh=>h2 ⟨fI,h⟩).symm
def li(l:AOG)(i:Nat):AOp:=l.getD i Af.zero
def Z9(l:AOG)(i:Nat):Int:=(li l i).1
def lS(l:AOG)(i:Nat):AOH:=(li l i).2.2.1.1
def lT(l:AOG)(i:Nat):AOH:=(li l i).2.2.2.1.1
def VH(d:AOE)(l:AOG)(i:Nat):Prop:=(1<=Z9 l i/\Z9 l i<=1000000)/\(0<i->Z9 l (i-1)<Z9 l i)/\0<=DV d (lS l i)/\DV d (lT l i)=DV d (lS l i)
def CU(d:AOE)(l:AOG):Prop:=l.length<=60/\∀i,i<l.length->VH d l i
def Ht(x:AOp):Prop:=Hv x.2.2.1.1/\Hv x.2.2.2.1.1
theorem Ve{d:AOE}{l:AOG}(hl:∀x∈l,Ht x):Ay (Ee d l) λr=>r=true↔Az d/\CU d l:=by
 unfold Ee;obtain⟨b,ki,o7⟩:∃b,G6 d l=some b/\(b=false↔Az d/\l.length<=60):=by
  obtain⟨r,hr,hq⟩:=WJ d;unfold G6;rw[hr,AL6];cases r with
  |false=>exact⟨true,rfl,λh=>by(cases h),λh=>by have:=hq.2 h.1;cases this⟩
  |true =>
   have fI:=hq.1 rfl;refine⟨decide ((l.length:Int)>60),rfl,?_⟩;rw[AMW];exact⟨λh=>⟨fI,by omega⟩,λh=>by omega⟩
 rw[ki,AL6];cases b with
 |true=>exact Ay.mk ⟨λh=>by(cases h),λh=>by have:=o7.2 ⟨h.1,h.2.1⟩;cases this⟩
 |false =>
  obtain⟨fI,hlen⟩:=o7.1 rfl;have hd:=fI.1;rw[AMl];refine Ay.bind (P:=λt=>(t=.inl ()/\¬∀i,i<l.length->VH d l i)\/(t=.inr ()/\∀i,i<l.length->VH d l i)) ?_ λt ht=>?_
  ·unfold O3;refine BR (λj (_:Unit)=>(j:Int)) l.length (λj _=>∀k,k<j->VH d l k) (λj _ hj hJ=>?_) (λ_ hJ=>?_) (s0:=()) (λi h=>by omega)
   ·unfold EY Ic;have hB:=hl _ (AJ (z :=Af.zero) hj);have e1:Gq d (l.getD j Af.zero).2.2.1=some (DV d (lS l j)):=Um hB.1 (by omega) fI;have e2:Gq d (l.getD j Af.zero).2.2.2.1=some (DV d (lT l j)):=Um hB.2 (by omega) fI;have e3:(l.getD j Af.zero).1=Z9 l j:=rfl;rw[Dy hj,AMm,AMo (Bl hj),AL7,e1,AL6];obtain⟨b,ki,o7⟩:∃b,G7 d l (j:Int) (DV d (lS l j))=some b/\(b=false↔VH d l j):=by
     unfold G7 VH;rw[AMo (Bl hj),AMo (Bl hj),AL7,e3,RO,e2,AL6];by_cases h1:1<=Z9 l j/\Z9 l j<=1000000
     ·rw[AMb h1];simp only[AMP,AMl];have last:∃b,(bif decide (DV d (lS l j)<0)then some true else some (DV d (lT l j) !=DV d (lS l j)))=some b/\(b=false↔0<=DV d (lS l j)/\DV d (lT l j)=DV d (lS l j)):=by
       by_cases h2:DV d (lS l j)<0
       ·rw[AMb h2];exact⟨true,rfl,λh=>by(cases h),λh=>by omega⟩
       ·rw[AL9 h2,AMl];refine⟨_,rfl,?_⟩;rw[ANv];exact⟨λh=>⟨by omega,h⟩,λh=>h.2⟩
      obtain⟨b,hb,hq⟩:=last;by_cases h2:0<j
      ·rw[AMb (show(j:Int)>0 by omega),AMm,show wI ((j:Int)-1)=((j-1:Nat):Int)from A1,AMo (Bl (by omega)),AL7];have e4:(l.getD (j-1) Af.zero).1=Z9 l (j-1):=rfl;rw[e4];by_cases h3:Z9 l j<=Z9 l (j-1)
       ·rw[AMb h3];exact⟨true,rfl,λh=>by(cases h),λh=>by have:=h.2.1 h2;omega⟩
       ·rw[AL9 h3,AMl,AMo (Bl hj),hb];exact⟨b,rfl,hq.trans ⟨λh=>⟨h1,λ_=>by omega,h⟩,λh=>h.2.2⟩⟩
      ·rw[AL9 (show ¬(j:Int)>0 by omega),AMl,AMo (Bl hj),hb];exact⟨b,rfl,hq.trans ⟨λh=>⟨h1,λh'=>absurd h' h2,h⟩,λh=>h.2.2⟩⟩
     ·rw[AL9 h1];exact⟨true,rfl,λh=>by(cases h),λh=>absurd h.1 h1⟩
    rw[ki,AL6];cases b with
    |true=>exact Ay.mk (.inl ⟨rfl,λh=>by have:=o7.2 (h j hj);cases this⟩)
    |false =>
     rw[AMl,Bj hj (by omega)];refine Ay.mk ⟨(),rfl,λk hk=>?_⟩;rcases AMh k j with h' |h'
     ·exact hJ k h'
     ·rw[show k=j by omega];exact o7.1 rfl
   ·unfold EY Ic;rw[Fb,AMl];exact Ay.mk (.inr ⟨rfl,hJ⟩)
  ·rcases ht with ⟨rfl,h⟩|⟨rfl,h⟩
   ·exact Ay.mk ⟨λh=>by(cases h),λh'=>absurd h'.2.2 h⟩
   ·exact Ay.mk ⟨λ_=>⟨fI,hlen,h⟩,λ_=>rfl⟩
theorem tu{d:AOE}{l:AOG}(hl:∀x∈l,Ht x):Ay (Kp d l) λr=>r=true↔Az d/\CU d l:=by
 unfold Kp;obtain⟨r,hr,hq⟩:=Wx d;rw[hr,AL6];cases r with
 |false=>exact Ay.mk ⟨λh=>by(cases h),λh=>by have:=hq.2 h.1;cases this⟩
 |true =>
  have fI:=hq.1 rfl;have hd:=fI.1;rw[AMm];unfold FT;by_cases hlen:l.length<=60
  ·rw[AL9 (by omega:¬(l.length:Int)>60),AMl];refine Ay.bind (P:=λr=>r=true↔Az d/\CU d l) (Ay.bind (P:=λt=>(t=.inl ()/\¬∀i,i<l.length->VH d l i)\/(t=.inr ()/\∀i,i<l.length->VH d l i)) ?_ λt ht=>?_) λr h=>Ay.mk h
   ·unfold OY;have:=BR (f:=BV d l (l.length:Int)) (λj (_:Unit)=>((if j=0 then 0 else Z9 l (j-1):Int),(j:Int))) l.length (λj _=>∀k,k<j->VH d l k) (Q:=λt=>(t=.inl ()/\¬∀i,i<l.length->VH d l i)\/(t=.inr ()/\∀i,i<l.length->VH d l i)) (λj _ hj hJ=>?_) (λ_ hJ=>?_) (s0:=()) (λi h=>by omega)
    ·exact this
    ·unfold BV Du;have hB:=hl _ (AJ (z :=Af.zero) hj);have e1:EK d (l.getD j Af.zero).2.2.1=some (DV d (lS l j)):=LW hB.1 (by omega);have e2:EK d (l.getD j Af.zero).2.2.2.1=some (DV d (lT l j)):=LW hB.2 (by omega);have e3:(l.getD j Af.zero).1=Z9 l j:=rfl;simp only;rw[Dy hj,AMm,AMo (Bl hj),AL7,e1,AL6];obtain⟨c,hc⟩:∃c:Int,c=if j=0 then 0 else Z9 l (j-1):=⟨_,rfl⟩;have hcb:0<=c/\c<=1000000/\(0<j->c=Z9 l (j-1))/\(j=0->c=0):=by
      by_cases h0:j=0
      ·rw[AMo h0]at hc;exact⟨by omega,by omega,λh=>by omega,λ_=>hc⟩
      ·rw[AMp h0]at hc;have:=(hJ (j-1) (by omega)).1;exact⟨by omega,by omega,λ_=>hc,λh=>absurd h h0⟩
     rw[<-hc];obtain⟨b,ki,o7⟩:∃b,Dm d c (DV d (lS l j)) l (l.length:Int) (j:Int) (l.getD j Af.zero)=some b/\(b=false↔VH d l j):=by
      unfold Dm VH;rw[e3,KH,BX (x:=c+1),e2,AL6];by_cases h1:c+1<=Z9 l j/\Z9 l j<=1000000
      ·rw[AMb h1];simp only[AMP,AMl];by_cases h2:DV d (lS l j)<0
       ·rw[AMb h2];exact⟨true,rfl,λh=>by(cases h),λh=>by omega⟩
       ·rw[AL9 h2,AMl];refine⟨_,rfl,?_⟩;rw[ANv];exact⟨λh=>⟨by omega,λh'=>by have:=hcb.2.2.1 h';omega,by omega,h.symm⟩,λh=>h.2.2.2.symm⟩
      ·rw[AL9 h1];refine⟨true,rfl,λh=>by(cases h),λh=>?_⟩
       exfalso
       apply h1;rcases AMu j with h0 |h0
       ·have:=hcb.2.2.2 h0;omega
       ·have:=hcb.2.2.1 h0;have:=h.2.1 h0;omega
     rw[ki,AL6];cases b with
     |true=>exact Ay.mk (.inl ⟨rfl,λh=>by have:=o7.2 (h j hj);cases this⟩)
     |false =>
      rw[AMl,Bj hj (by omega)];refine Ay.mk ⟨(),rfl,λk hk=>?_⟩;rcases AMh k j with h' |h'
      ·exact hJ k h'
      ·rw[show k=j by omega];exact o7.1 rfl
    ·unfold BV Du;simp only;rw[Fb,AMl];exact Ay.mk (.inr ⟨rfl,hJ⟩)
   ·rcases ht with ⟨rfl,h⟩|⟨rfl,h⟩
    ·exact Ay.mk ⟨λh=>by(cases h),λh'=>absurd h'.2.2 h⟩
    ·exact Ay.mk ⟨λ_=>⟨fI,hlen,h⟩,λ_=>rfl⟩
  ·rw[AMb (by omega:(l.length:Int)>60)];exact Ay.mk ⟨λh=>by(cases h),λh=>absurd h.2.1 hlen⟩
end Go.Proofs.X
namespace Go.Va
open Go.Proofs.X
theorem sy{T:Type}{f:Int×APH T->APJ ((Int×APH T)⊕APH T)}(N:Nat)(it:Nat->APH T)(a0:APH T)
    (hs:∀k,k<N->f ((k:Int),a0++(List.range k).flatMap it)=some (.inl (((k+1:Nat):Int),a0++(List.range k).flatMap it++it k)))
    (he:f ((N:Int),a0++(List.range N).flatMap it)=some (.inr (a0++(List.range N).flatMap it))):fix f (0,a0)=some (a0++(List.range N).flatMap it):=by
 have:=AU (f:=f) (λk=>((k:Int),a0++(List.range k).flatMap it)) N (λk hk=>by
  rw[hs k hk,ANc,ANI,AMe];simp) he
 simpa using this
theorem dN{A B:Type}(g:A->B)(l:APH A):l.flatMap (λx=>[g x])=l.map g:=by
 induction l with
 |nil=>rfl
 |cons x l ih=>simp[ih]
theorem iE{A B:Type}(b:APH B)(l:APH A):l.flatMap (λ_=>b)=(List.replicate l.length b).flatten:=by
 induction l with
 |nil=>rfl
 |cons x l ih=>simp[ih,List.replicate_succ]
end Go.Va
namespace Go.Proofs.X
open Go Go.Va
set_option maxRecDepth 100000
def NG(n:AOq)(w:Nat):Nat:=if BN n=8 then(w-(nA n).toNat%w)%w else(nA n).toNat%w
def Bv(d:AOE)(n:AOq)(kids:APH (APH Bt)):APH Bt :=
 if BN n=1 then(List.range (dw d (Hz n).toNat).toNat).map λa=>.va (Hz n).toNat a
 else if BN n=2 then(List.range (nW n).toNat).map λk=>.co (bt (km n) k)
 else if BN n=3 then kids.reverse.flatten
 else if BN n=4 then((kids.getD 0 []).take ((nA n).toNat+1)).drop (nB n).toNat
 else if BN n=5 then kids.getD 0 []++List.replicate (nA n).toNat (.co false)
 else if BN n=6 then kids.getD 0 []++List.replicate (nA n).toNat ((kids.getD 0 []).getD ((kids.getD 0 []).length-1) (.co false))
 else if BN n=9 then(List.replicate (nA n).toNat (kids.getD 0 [])).flatten
 else(kids.getD 0 []).drop ((kids.getD 0 []).length-NG n (kids.getD 0 []).length)++(kids.getD 0 []).take ((kids.getD 0 []).length-NG n (kids.getD 0 []).length)
def VG(d:AOE):Bt->Prop
 |.co _=>True
 |.va v a=>v<d.length/\((a:Nat):Int)<dw d v
def iY(kids:APH (APH Bt)):Int:=((kids.map List.length).sum:Nat)
def Bg(d:AOE)(B:APH Bt):Prop:=1<=B.length/\B.length<=4096/\∀b∈B,VG d b
structure NB (d:AOE) (n:AOq) (kids:List (List Bt)):Prop where
 hd:Az d
 hf:KZ d n
 hb:Y6 n
 hk:kids.length=(AL n).length
 hw:1<=GR d n (iY kids)/\GR d n (iY kids)<=4096
 FR:∀B∈kids,Bg d B
theorem TJ{d:AOE}(hd:Az d){b:Bt}(h:VG d b):BtB b:=by
 cases b with
 |co b=>trivial
 |va v a =>
  obtain⟨h1,h2⟩:=h;have:=(hd.2.1 v h1).2.1;have:=hd.1;exact⟨by omega,by omega⟩
theorem NB.one{d:AOE}{n:AOq}{kids:APH (APH Bt)}(h:NB d n kids)(h1:BN n≠1)(h2:BN n≠2)(h3:BN n≠3):4<=BN n/\BN n<=9/\∃B,kids=[B]/\Bg d B/\iY kids=(B.length:Int):=by
 have hf:=h.hf;unfold KZ at hf;have:4<=BN n/\BN n<=9/\(AL n).length=1:=by omega
 obtain⟨h4,h9,hl⟩:=this;have hk:=h.hk;rw[hl]at hk
 match kids,hk,h.FR with
 |[B],_,FR=>exact⟨h4,h9,B,rfl,FR B AMB,by simp[iY]⟩
theorem qA{n:AOq}{w:Nat}(h:1<=w):NG n w<w:=by
 unfold NG;split<;>exact Nat.mod_lt _ (by omega)
theorem eG(l:AOB):l.reverse.sum=l.sum:=by
 induction l with
 |nil=>rfl
 |cons x l ih=>simp[ih];omega
theorem bz{d:AOE}{n:AOq}{kids:APH (APH Bt)}(h:NB d n kids):((Bv d n kids).length:Int)=GR d n (iY kids):=by
 have hw:=h.hw;by_cases h1:BN n=1
 ·simp only[Bv,GR,AMo h1,AMi,AMN]at hw⊢;omega
 by_cases h2:BN n=2
 ·simp only[Bv,GR,AMp h1,AMo h2,AMi,AMN]at hw⊢;omega
 by_cases h3:BN n=3
 ·have e:¬BN n=4/\¬(BN n=5\/BN n=6)/\¬(BN n=7\/BN n=8)/\¬BN n=9:=by omega
  simp only[Bv,GR,AMp h1,AMp h2,AMo h3,AMp e.1,AMp e.2.1,AMp e.2.2.1,AMp e.2.2.2,iY];rw[ANw,List.map_reverse,eG]
 obtain⟨h4,h9,B,rfl,hB,hs⟩:=h.one h1 h2 h3;have hl:=hB.1;rw[hs]at hw⊢;by_cases sB:BN n=4
 ·simp only[Bv,GR,AMp h1,AMp h2,AMp h3,AMo sB,ANl,AMG,AMr]at hw⊢;split at hw<;>rename_i hc
  ·rw[AMo hc];omega
  ·omega
 by_cases h5:BN n=5
 ·have vj:BN n=5\/BN n=6:=.inl h5;simp only[Bv,GR,AMp h1,AMp h2,AMp h3,AMp sB,AMo h5,AMo vj,ANl,AMa,AMD]at hw⊢;split at hw<;>rename_i hc
  ·rw[AMo hc];omega
  ·omega
 by_cases h6:BN n=6
 ·have vj:BN n=5\/BN n=6:=.inr h6;simp only[Bv,GR,AMp h1,AMp h2,AMp h3,AMp sB,AMp h5,AMo h6,AMo vj,ANl,AMa,AMD]at hw⊢;split at hw<;>rename_i hc
  ·rw[AMo hc];omega
  ·omega
 have vj:¬(BN n=5\/BN n=6):=by omega
 by_cases yX:BN n=9
 ·have h78:¬(BN n=7\/BN n=8):=by omega
  simp only[Bv,GR,AMp h1,AMp h2,AMp h3,AMp sB,AMp h5,AMp h6,AMp vj,AMp h78,AMo yX,ANl,ANw,ANP,ANN]at hw⊢;split at hw<;>rename_i hc
  ·rw[AMo hc];have:(nA n)=((nA n).toNat:Int):=by omega
   rw[this,AL7,Int.natCast_mul,Int.mul_comm]
  ·omega
 ·have h78:BN n=7\/BN n=8:=by omega
  have ht:=qA (n:=n) hl;simp only[Bv,GR,AMp h1,AMp h2,AMp h3,AMp sB,AMp h5,AMp h6,AMp vj,AMo h78,AMp yX,ANl,AMa,AMG,AMr]at hw⊢;split at hw<;>rename_i hc
  ·rw[AMo hc];omega
  ·omega
theorem U1{d:AOE}{n:AOq}{kids:APH (APH Bt)}(h:NB d n kids):Bg d (Bv d n kids):=by
 have hl:=bz h;refine⟨by have:=h.hw;omega,by have:=h.hw;omega,λb hb=>?_⟩;by_cases h1:BN n=1
 ·have hf:=h.hf;unfold KZ at hf;have hv:0<=Hz n/\Hz n<(d.length:Int):=by omega
  simp only[Bv,AMo h1,List.mem_map,List.mem_range]at hb;obtain⟨a,ha,rfl⟩:=hb;exact⟨by omega,by omega⟩
 by_cases h2:BN n=2
 ·simp only[Bv,AMp h1,AMo h2,List.mem_map,List.mem_range]at hb;obtain⟨a,ha,rfl⟩:=hb;trivial
 by_cases h3:BN n=3
 ·simp only[Bv,AMp h1,AMp h2,AMo h3,List.mem_flatten,List.mem_reverse]at hb;obtain⟨B,hB,hb⟩:=hb;exact(h.FR B hB).2.2 b hb
 obtain⟨h4,h9,B,rfl,hB,hs⟩:=h.one h1 h2 h3;have hz:B.getD (B.length-1) (.co false)∈B:=AJ (by have:=hB.1;omega);simp only[Bv,AMp h1,AMp h2,AMp h3,ANl]at hb;split at hb
 ·exact hB.2.2 b (ANq (AOe hb))
 split at hb
 ·rcases List.mem_append.1 hb with hb |hb
  ·exact hB.2.2 b hb
  ·rw[(List.mem_replicate.1 hb).2];trivial
 split at hb
 ·rcases List.mem_append.1 hb with hb |hb
  ·exact hB.2.2 b hb
  ·rw[(List.mem_replicate.1 hb).2];exact hB.2.2 _ hz
 split at hb
 ·obtain⟨C,hC,hb⟩:=List.mem_flatten.1 hb;rw[(List.mem_replicate.1 hC).2]at hb;exact hB.2.2 b hb
 ·rcases List.mem_append.1 hb with hb |hb
  ·exact hB.2.2 b (AOe hb)
  ·exact hB.2.2 b (ANq hb)
end Go.Proofs.X
namespace Go.Va
open Go.Proofs.X
theorem XJ{T:Type}{f:Int×APH T->APJ ((Int×APH T)⊕APH T)}(N:Nat)(g:Nat->T)(a0:APH T)
    (hs:∀k acc,k<N->acc.length=a0.length+k->f ((k:Int),acc)=some (.inl (((k+1:Nat):Int),acc++[g k]))) (he:∀acc,f ((N:Int),acc)=some (.inr acc)):fix f (0,a0)=some (a0++(List.range N).map g):=by
 have:=sy  N (λk=>[g k]) a0 (λk hk=>hs k _ hk (by rw[dN];simp)) (he _);rw[dN]at this;exact this
end Go.Va
namespace Go.Proofs.X
open Go Go.Va
set_option maxRecDepth 100000
theorem ACV(kids:APH (APH Bt))(k:Nat):(kids.map bV).getD k APv.zero=bV (kids.getD k []):=by
 simp;cases kids[k]?<;>rfl
theorem zV{x:Int}(h1:-4611686018427387904<=x)(h2:x<4611686018427387904):wI x=x:=BX
theorem zC{A:Type}{l:APH A}{z:A}{k:Nat}(h:k<l.length):l.reverse.getD k z=l.getD (l.length-1-k) z:=by
 grind
theorem aU(kids:APH (APH Bt))(k:Nat):((kids.reverse.take k).flatten).length<=(kids.map List.length).sum:=by
 rw[<-eG,<-List.map_reverse,ANw]
 conv=>rhs;rw[<-ANm k kids.reverse,AMQ,ANS]
 omega
theorem AeC{a:Nat}:decide ((a:Int)>=0)=true:=LO
theorem xD{d:AOE}{n:AOq}{kids:APH (APH Bt)}(h:NB d n kids)(h3:BN n=3):Ta (kids.map bV) (wI (((kids.map bV).length:Int)-1)) []=some (bV kids.reverse.flatten):=by
 have hlen:kids.length<=1048576:=by rw[h.hk];exact h.hb.1
 have AjQ:(kids.map List.length).sum<=4096:=by
  have hw:=h.hw;have e :=by omega
  simp only[GR,iY]at hw;omega
 rw[AMi,zV (by omega) (by omega)];have:=AU (f:=FB (kids.map bV)) (λk=>(kids.length-1-k,bV (kids.reverse.take k).flatten))  kids.length (λk hk=>by
  unfold FB Lw;have e:kids.length-1-k=((kids.length-1-k:Nat):Int):=by omega
  have hb:=aU kids k;have FR:=h.FR (kids.getD (kids.length-1-k) []) (AJ (by omega));rw[e,AeC,AMm,AMi,AMo ⟨by omega,by omega⟩,AL7,ACV,Dk,Dk,AMo (by have:=FR.2.1;omega),zV (by omega) (by omega)];rw[AW (z:=[]) (show k<kids.reverse.length by grind),zC hk,List.flatten_append,<-VL]
  grind) (by
  unfold FB Lw;rw[IV,AMl,AMg (by grind)])
 have uK :=this;rw[show kids.length-1-((0:Nat))=(kids.length:Int)-1 by omega]at uK;exact uK
theorem ux{d:AOE}{n:AOq}{kids:APH (APH Bt)}(h:NB d n kids):SD d n (kids.map bV)=some (bV (Bv d n kids)):=by
 have e1:∀x:Int,(n.1==x)=decide (BN n=x):=λx=>Tq;have hbl:=U1 h;have Xm:=hbl.2.1;unfold SD OI PD;simp only[e1];by_cases h1:BN n=1
 ·rw[AMb h1,AMm];have hf:=h.hf;unfold KZ at hf;have hv:0<=Hz n/\Hz n<(d.length:Int):=by omega
  obtain⟨N,hN⟩:∃N:Nat,dw d (Hz n).toNat=(N:Int):=by
   have:=(h.hd.2.1 (Hz n).toNat (by omega)).2.1;exact⟨(dw d (Hz n).toNat).toNat,by omega⟩
  have hN4:N<=4096:=by have:=(h.hd.2.1 (Hz n).toNat (by omega)).2.1;omega
  rw[show OC d n 0 []=some (bV (Bv d n kids)) by
   unfold OC;rw[XJ (f:=Fz d n) N (λa=>VM (.va (Hz n).toNat a)) [] (λk acc hk ha=>by
    unfold Fz Lu;simp only;rw[AMo (show(0:Int)<=n.2.1/\n.2.1<(d.length:Int)from hv),show(d.getD n.2.1.toNat Ad.zero).2.1=(N:Int)from hN,Dy hk,AMm,Bj hk (by omega)];simp at ha;rw[AMo (by show(_+1)*16<=_;omega)];have:n.2.1=(((Hz n).toNat:Nat):Int):=by show Hz n=_;omega
    rw[this];rfl) (λacc=>by
    unfold Fz Lu;simp only;rw[AMo (show(0:Int)<=n.2.1/\n.2.1<(d.length:Int)from hv),show(d.getD n.2.1.toNat Ad.zero).2.1=(N:Int)from hN,Fb,AMl])]
   simp only[Bv,AMo h1,hN,AL7,bV,ANk,AN2];rfl]
  rfl
 rw[AL9 h1,AMl];by_cases h2:BN n=2
 ·rw[AMb h2,AMm];have hf:=h.hf;unfold KZ at hf;obtain⟨m,Tj,RG⟩:rk n:=by
   rcases hf with h |h |h |h
   ·omega
   ·exact h.2.2
   ·omega
   ·omega
  rw[show OD n 0 []=some (bV (Bv d n kids)) by
   unfold OD;rw[XJ (f:=FA n) m (λk=>VM (.co (bt (km n) k))) [] (λk acc hk ha=>by
    unfold FA Lv;simp only;have hb:Iq n.2.2.2.2.1 (k:Int)=some (bI (bt (km n) k)):=iZ (w:=nW n) RG.2.2.2.1 (by rw[RG.2.2.1];unfold nw;omega) h.hb.2.1;have h4:=RG.2.1;rw[show n.2.2.2.2.1.1=(m:Int)from Tj,Dy hk,AMm,hb,AL6,Bj hk (by omega)];simp at ha;rw[AMo (by show(_+1)*16<=_;omega)];rw[show wI (bI (bt (km n) k))=bI (bt (km n) k) by cases bt (km n) k<;>rfl];rfl) (λacc=>by
    unfold FA Lv;simp only;rw[show n.2.2.2.2.1.1=(m:Int)from Tj,Fb,AMl])]
   simp only[Bv,AMp h1,AMo h2,Tj,AL7,bV,ANk,AN2];rfl]
  rfl
 rw[AL9 h2,AMl];by_cases h3:BN n=3
 ·rw[AMb h3,AMm,xD h h3];simp only[Bv,AMp h1,AMp h2,AMo h3];rfl
 rw[AL9 h3,AMl];obtain⟨h4,h9,B,rfl,hB,hs⟩:=h.one h1 h2 h3;have hl:=hB.1;have ze:=hB.2.1;have hw:=h.hw;have g0:([B].map bV).getD 0 APv.zero=bV B:=rfl;have r0:(0:Int)<=(0:Int)/\(0:Int)<(([B].map bV).length:Int):=⟨by omega,by simp⟩;rw[hs]at hw;simp only[Bv,AMp h1,AMp h2,AMp h3,ANl]at Xm⊢;simp only[GR,AMp h1,AMp h2]at hw;by_cases sB:BN n=4
 ·simp only[AMo sB]at hw Xm⊢;split at hw<;>rename_i hc
  ·obtain⟨A,hA⟩:∃A:Nat,nA n=(A:Int):=⟨(nA n).toNat,by omega⟩;obtain⟨L,hL⟩:∃L:Nat,nB n=(L:Int):=⟨(nB n).toNat,by omega⟩;have iI:n.2.2.1=(A:Int):=hA;have hL':n.2.2.2.1=(L:Int):=hL;rw[AMb sB,AMm,AMo r0,g0,iI,hL',show wI ((A:Int)+1)=((A+1:Nat):Int)from A1,Dk];rw[AMo (show(0:Int)<=(L:Int)/\(L:Int)<=((A+1:Nat):Int)/\((A+1:Nat):Int)<=(B.length:Int)from⟨by omega,by omega,by omega⟩),AL7,AL7,hA,hL,AL7,AL7];rw[show(List.drop L (List.take (A+1) (bV B)))=bV ((B.take (A+1)).drop L) by simp[bV,List.map_drop,List.map_take],Dk,AMG,AMr,Vk];rfl
  ·omega
 rw[AL9 sB,AMl];simp only[AMp sB]at hw Xm⊢;by_cases vj:BN n=5\/BN n=6
 ·simp only[AMo vj]at hw;split at hw<;>rename_i hc
  ·obtain⟨A,hA⟩:∃A:Nat,nA n=(A:Int):=⟨(nA n).toNat,by omega⟩;have iI:n.2.2.1=(A:Int):=hA;have Hf:(bif decide (BN n=5)then decide (BN n=5)else decide (BN n=6))=true:=by
    rcases vj with h |h<;>simp[h]
   have dQ:wI (((bV B).length:Int)-1)=((B.length-1:Nat):Int):=by rw[Dk];exact A1
   rw[Hf,AMm];by_cases h6:BN n=6
   ·have h5:¬BN n=5:=by omega
    simp only[AMp h5,AMo h6,hA,AL7,AMa,AMD]at Xm⊢;rw[show FW ([B].map bV) n=some (.inl ()) by
     unfold FW;rw[e1,AMb h6,AMm,AMo r0,AMo r0,g0,dQ,Dk,AMo ⟨by omega,by omega⟩],AL6]
    simp only[ANn];rw[AMo r0,g0,dQ,AL7,Dk,Vk,gH (by omega)];rw[show OE n (VM (B.getD (B.length-1) (.co false))) 0 (bV B)=some (bV (B++List.replicate A (B.getD (B.length-1) (.co false)))) by
     unfold OE;rw[XJ (f:=FC n (VM (B.getD (B.length-1) (.co false)))) A (λ_=>VM (B.getD (B.length-1) (.co false))) (bV B) (λk acc hk ha=>by
      unfold FC Lx;simp only;rw[Dk]at ha;rw[iI,Dy hk,AMm,Bj hk (by omega),AMo (by show(_+1)*16<=_;omega)]) (λacc=>by
      unfold FC Lx;simp only;rw[iI,Fb,AMl])]
     rw[VL];simp[bV,List.map_const']]
    rfl
   ·have h5:BN n=5:=by omega
    simp only[AMo h5,hA,AL7,AMa,AMD]at Xm⊢;rw[show FW ([B].map bV) n=some (.inr ()) by
     unfold FW;rw[e1,AL9 h6,AMl],AL6]
    simp only[AM4];rw[AMo r0,g0,Dk,Vk];rw[show OG n 0 (bV B)=some (bV (B++List.replicate A (.co false))) by
     unfold OG;rw[XJ (f:=FD n) A (λ_=>VM (.co false)) (bV B) (λk acc hk ha=>by
      unfold FD Ly;simp only;rw[Dk]at ha;rw[iI,Dy hk,AMm,Bj hk (by omega),AMo (by show(_+1)*16<=_;omega)];rfl) (λacc=>by
      unfold FD Ly;simp only;rw[iI,Fb,AMl])]
     rw[VL];simp[bV,List.map_const']]
    rfl
  ·omega
 have h5:¬BN n=5:=by omega
 have h6:¬BN n=6:=by omega
 have Hf:(bif decide (BN n=5)then decide (BN n=5)else decide (BN n=6))=false:=by simp[h5,h6]
 rw[Hf,AMl];simp only[AMp h5,AMp h6,AMp vj]at hw Xm⊢;by_cases h78:BN n=7\/BN n=8
 ·simp only[AMo h78]at hw;split at hw<;>rename_i hc
  ·obtain⟨A,hA⟩:∃A:Nat,nA n=(A:Int):=⟨(nA n).toNat,by omega⟩;have iI:n.2.2.1=(A:Int):=hA;have yX:¬BN n=9:=by omega
   have PQ:(bif decide (BN n=7)then decide (BN n=7)else decide (BN n=8))=true:=by
    rcases h78 with h |h<;>simp[h]
   have ht:=qA (n:=n) hl;simp only[AMp yX,AMa,AMG,AMr]at Xm⊢;rw[PQ,AMm,AMo r0,g0,iI,Dk,OV];have Afj:Int.tmod (A:Int) (B.length:Int)=((A%B.length:Nat):Int):=rfl;have wR:A%B.length<B.length:=Nat.mod_lt _ (by omega);rw[show Kx ([B].map bV) n (B.length:Int) (Int.tmod (A:Int) (B.length:Int))=some ((NG n B.length:Nat):Int) by
    unfold Kx NG;rw[e1,Afj,hA,AL7];by_cases h8:BN n=8
    ·rw[AMb h8,AMm,OV,AMo h8,show wI ((B.length:Int)-((A%B.length:Nat):Int))=((B.length-A%B.length:Nat):Int)from A1];rfl
    ·rw[AL9 h8,AMl,AMp h8],AL6]
   have ZL:wI ((B.length:Int)-((NG n B.length:Nat):Int))=((B.length-NG n B.length:Nat):Int):=A1;rw[AMo r0,ZL,AMo ⟨by omega,by omega,by omega⟩,AL7,AL7];generalize hq:B.length-NG n B.length=q at *;rw[show(List.drop q (List.take B.length (bV B)))=bV (B.drop q) by rw[AMg (by rw[Dk];omega)];simp[bV,List.map_drop],show(List.drop 0 (List.take q (bV B)))=bV (B.take q) by simp[bV,List.map_take],Vk,AMo r0,AMo ⟨by omega,by omega,by omega⟩,Vk,<-VL];rfl
  ·omega
 have yX:BN n=9:=by omega
 have PQ:(bif decide (BN n=7)then decide (BN n=7)else decide (BN n=8))=false:=by
  rw[show ¬BN n=7/\¬BN n=8 by omega |> λh=>(AL9 h.1:decide (BN n=7)=false),AMl];exact IV
 simp only[AMp h78,AMo yX]at hw Xm⊢;split at hw<;>rename_i hc
 ·obtain⟨A,hA⟩:∃A:Nat,nA n=(A:Int):=⟨(nA n).toNat,by omega⟩;have iI:n.2.2.1=(A:Int):=hA;rw[PQ,AMl,AMb yX,AMm];rw[hA]at hw Xm;simp only[AL7,ANw,ANP,ANN]at Xm;rw[show OH ([B].map bV) n 0 []=some (bV (List.replicate A B).flatten) by
   unfold OH;rw[sy (f:=FE ([B].map bV) n) A (λ_=>bV B) [] (λk hk=>by
    unfold FE Lz;simp only;have o9:k*B.length<=A*B.length:=AM7 _ (by omega);rw[iI,Dy hk,AMm,AMo r0,g0,Bj hk (by omega),AMo (by
     rw[ANk,iE,ANw,ANP,ANN,AMN,Dk];omega)]) (by
    unfold FE Lz;simp only;rw[iI,Fb,AMl])]
   rw[ANk,iE,AMN];simp[bV,List.map_flatten,ANP]]
  rw[hA];rfl
 ·omega
end Go.Proofs.X
namespace Go.Proofs.X
open Go Go.Va
set_option maxRecDepth 100000
def fN(B:APH Bt):AOF:=fV (Ax B)
theorem Alg(kids:APH (APH Bt))(k:Nat):(kids.map fN).getD k APu.zero=fN (kids.getD k []):=by
 simp;cases kids[k]?<;>rfl
theorem qb{d:AOE}(hd:Az d){a b:APH Bt}(ha:∀x∈a,VG d x)(hb:∀x∈b,VG d x)(hl:a.length+b.length<=4096):Et (fN b) (fN a)=some (fN (a++b)):=by
 unfold fN;rw[tZ (C1 b) (C1 a) (Rl (λx hx=>gL (TJ hd (hb x hx))) (by omega)) (Rl (λx hx=>gL (TJ hd (ha x hx))) (by omega)) (by rw[Cd,Cd];exact hl),ua]
theorem Af8{s:Sg}(h:1<=s.w):Ax s.bits=[s]:=by
 have:=X4 s.w s [] rfl h;exact this.symm
theorem ArQ(b:Bt):fN [b]=[HI b.sg]:=rfl
theorem Aki{d:AOE}(hd:Az d){a:APH Bt}{b:Bt}(ha:∀x∈a,VG d x)(hb:VG d b)(hl:a.length+1<=4096):Et [HI b.sg] (fN a)=some (fN (a++[b])) :=
 qb hd ha (b:=[b]) (λx hx=>by grind) hl
theorem qG{d:AOE}{B:APH Bt}(h:Bg d B):BL (fN B)=some (B.length:Int):=by
 unfold fN;rw[oR (C1 B) (by rw[Cd];exact h.2.1),Cd]
theorem zx{d:AOE}(hd:Az d){B:APH Bt}(h:Bg d B){lo w:Nat}(hlo:lo+w<=8192):EI (fN B) (lo:Int) (w:Int)=some (fN ((B.drop lo).take w)):=by
 have hs :=λx hx=>gL (TJ hd (h.2.2 x hx));unfold fN;rw[sk (C1 B) (Rl hs h.2.1) (by rw[Fu];exact hs) (by rw[Cd];exact h.2.1) hlo,Fu]
theorem nc{d:AOE}(hd:Az d){B:APH Bt}{b:Bt}{A:Nat}(hB:Bg d B)(hb:VG d b)(hl:B.length+A<=4096){f:Int×AOF->APJ (AO7⊕AOF)}
    (hs:∀x:Int×AOF,f x=bif decide (x.1<(A:Int))then(Et [HI b.sg] x.2).bind λo=>some (.inl (wI (x.1+1),o))else some (.inr x.2)):fix f (0,fN B)=some (fN (B++List.replicate A b)):=by
 have:=AU (f:=f) (λk=>((k:Int),fN (B++List.replicate k b))) (t:=fN (B++List.replicate A b)) A (λk hk=>by
  rw[hs];rw[Dy hk,AMm,Aki hd (λx hx=>by
   rcases List.mem_append.1 hx with hx |hx
   ·exact hB.2.2 x hx
   grind) hb (by grind),AL6,Bj hk (by omega),AMe,<-AOf]) (by
  grind)
 grind
theorem wX{d:AOE}{n:AOq}{kids:APH (APH Bt)}(h:NB d n kids)(h3:BN n=3):KQ (kids.map fN) (wI (((kids.map fN).length:Int)-1)) []=some (fN kids.reverse.flatten):=by
 have hlen:kids.length<=1048576:=by rw[h.hk];exact h.hb.1
 have AjQ:(kids.map List.length).sum<=4096:=by
  have hw:=h.hw;have e :=by omega
  simp only[GR,iY]at hw;omega
 rw[AMi,zV (by omega) (by omega)];have:=AU (f:=Cy (kids.map fN)) (λk=>(kids.length-1-k,fN (kids.reverse.take k).flatten))  kids.length (λk hk=>by
  unfold Cy Ff;have e:kids.length-1-k=((kids.length-1-k:Nat):Int):=by omega
  have hb:=aU kids (k+1);have FR:=h.FR (kids.getD (kids.length-1-k) []) (AJ (by omega));rw[AW (z:=[]) (show k<kids.reverse.length by grind),zC hk,List.flatten_append]at hb⊢;simp only[List.flatten_cons,List.flatten_nil,AML]at hb⊢;rw[AMa]at hb;rw[e,AeC,AMm,AMi,AMo ⟨by omega,by omega⟩,AL7,Alg,qb h.hd (λx hx=>by
   obtain⟨C,hC,hx⟩:=List.mem_flatten.1 hx;exact(h.FR C (List.mem_reverse.1 (ANq hC))).2.2 x hx) FR.2.2 (by omega),AL6,zV (by omega) (by omega)]
  grind) (by
  unfold Cy Ff;rw[IV,AMl,AMg (by grind)])
 have uK :=this;rw[show kids.length-1-((0:Nat))=(kids.length:Int)-1 by omega]at uK;exact uK
theorem jH{s:Sg}{v:AOo}(h:1<=s.w)(e:HI s=v):([v]:AOF)=fN s.bits:=by
 unfold fN;rw[Af8 h,<-e];rfl
theorem tw{d:AOE}{n:AOq}{kids:APH (APH Bt)}(h:NB d n kids):GY n d (kids.map fN)=some (fN (Bv d n kids)):=by
 have e1:∀x:Int,(n.1==x)=decide (BN n=x):=λx=>Tq;have hbl:=U1 h;have Xm:=hbl.2.1;unfold GY PD;simp only[e1];by_cases h1:BN n=1
 ·rw[AMb h1,AMm];have hf:=h.hf;unfold KZ at hf;have hv:0<=Hz n/\Hz n<(d.length:Int):=by omega
  have hdw:=(h.hd.2.1 (Hz n).toNat (by omega)).2.1;obtain⟨N,hN⟩:∃N:Nat,dw d (Hz n).toNat=(N:Int):=⟨(dw d (Hz n).toNat).toNat,by omega⟩;rw[AMo (show(0:Int)<=n.2.1/\n.2.1<(d.length:Int)from hv),show(d.getD n.2.1.toNat Ad.zero).2.1=(N:Int)from hN];rw[jH (s:=.va (Hz n).toNat 0 N) (by show 1<=N;omega) (by
   show((((Hz n).toNat:Nat):Int),((0:Nat):Int),(N:Int),((0:Int),([]:AOz),()),())=_;rw[show(((Hz n).toNat:Nat):Int)=n.2.1 by show _=Hz n;omega];rfl)]
  simp only[Bv,AMo h1,hN,AL7,Sg.bits,AMC]
 rw[AL9 h1,AMl];by_cases h2:BN n=2
 ·rw[AMb h2,AMm];have hf:=h.hf;unfold KZ at hf;obtain⟨m,Tj,RG⟩:rk n:=by
   rcases hf with h |h |h |h
   ·omega
   ·exact h.2.2
   ·omega
   ·omega
  have hl:((List.range m).map λk=>bt (km n) k).length=m:=by simp
  rw[show De n.2.2.2.2.1=some (nW n,km n)from az h.hb.2.1,AL6];rw[jH (s:=.co ((List.range m).map λk=>bt (km n) k)) (by show 1<=List.length _;rw[hl];exact RG.1) (by
   show(-1,0,((((List.range m).map λk=>bt (km n) k).length:Nat):Int),XU ((List.range m).map λk=>bt (km n) k),())=_;rw[xe (f:=bt (km n)) hl (λi hi=>by simp[List.getD,hi]),hl,show mkB m (bt (km n))=((m:Int),km n,()) by unfold mkB;rw[<-RG.eq]];simp only[AK];rw[Tj])]
  simp only[Bv,AMp h1,AMo h2,Tj,AL7,Sg.bits,AN2];rfl
 rw[AL9 h2,AMl];by_cases h3:BN n=3
 ·rw[AMb h3,AMm,wX h h3];simp only[Bv,AMp h1,AMp h2,AMo h3];rfl
 rw[AL9 h3,AMl];obtain⟨h4,h9,B,rfl,hB,hs⟩:=h.one h1 h2 h3;have hl:=hB.1;have ze:=hB.2.1;have hw:=h.hw;have g0:([B].map fN).getD 0 APu.zero=fN B:=rfl;have r0:(0:Int)<=(0:Int)/\(0:Int)<(([B].map fN).length:Int):=⟨by omega,by simp⟩;have AIa:(fN B).length<=4096:=by
  unfold fN;rw[Ce];have:=CM (C1 B);rw[Cd]at this;omega
 rw[hs]at hw;rw[AMo r0,g0,qG hB,AL6];simp only[Bv,AMp h1,AMp h2,AMp h3,ANl]at Xm⊢;simp only[GR,AMp h1,AMp h2]at hw;by_cases sB:BN n=4
 ·simp only[AMo sB]at hw Xm⊢;split at hw<;>rename_i hc
  ·obtain⟨A,hA⟩:∃A:Nat,nA n=(A:Int):=⟨(nA n).toNat,by omega⟩;obtain⟨L,hL⟩:∃L:Nat,nB n=(L:Int):=⟨(nB n).toNat,by omega⟩;have iI:n.2.2.1=(A:Int):=hA;have hL':n.2.2.2.1=(L:Int):=hL;rw[AMb sB,AMm,iI,hL',show wI ((A:Int)-(L:Int))=((A-L:Nat):Int)from A1,show wI (((A-L:Nat):Int)+1)=((A-L+1:Nat):Int)from A1,zx h.hd hB (by omega),hA,hL,AL7,AL7];rw[List.drop_take,show A+1-L=A-L+1 by omega];rfl
  ·omega
 rw[AL9 sB,AMl];simp only[AMp sB]at hw Xm⊢;by_cases h78:BN n=7\/BN n=8
 ·have vj:¬(BN n=5\/BN n=6):=by omega
  have h5:¬BN n=5:=by omega
  have h6:¬BN n=6:=by omega
  have yX:¬BN n=9:=by omega
  simp only[AMp h5,AMp h6,AMp yX,AMp vj,AMo h78]at hw⊢;split at hw<;>rename_i hc
  ·obtain⟨A,hA⟩:∃A:Nat,nA n=(A:Int):=⟨(nA n).toNat,by omega⟩;have iI:n.2.2.1=(A:Int):=hA;have PQ:(bif decide (BN n=7)then decide (BN n=7)else decide (BN n=8))=true:=by
    rcases h78 with h |h<;>simp[h]
   have ht:=qA (n:=n) hl;rw[PQ,AMm,OV,iI];have Afj:Int.tmod (A:Int) (B.length:Int)=((A%B.length:Nat):Int):=rfl;have wR:A%B.length<B.length:=Nat.mod_lt _ (by omega);rw[show Ej n (B.length:Int) (fN B) (Int.tmod (A:Int) (B.length:Int))=some ((NG n B.length:Nat):Int) by
    unfold Ej NG;rw[e1,Afj,hA,AL7];by_cases h8:BN n=8
    ·rw[AMb h8,AMm,OV,AMo h8,show wI ((B.length:Int)-((A%B.length:Nat):Int))=((B.length-A%B.length:Nat):Int)from A1];rfl
    ·rw[AL9 h8,AMl,AMp h8],AL6]
   have ZL:wI ((B.length:Int)-((NG n B.length:Nat):Int))=((B.length-NG n B.length:Nat):Int):=A1;have hz:(0:Int)=((0:Nat):Int):=rfl;rw[ZL,zx h.hd hB (by omega),AL6,hz,zx h.hd hB (by omega),AL6,AOb,show List.take (NG n B.length) (List.drop (B.length-NG n B.length) B)=List.drop (B.length-NG n B.length) B from AMg (by rw[AMG];omega)];rw[qb h.hd (λx hx=>hB.2.2 x (AOe hx)) (λx hx=>hB.2.2 x (ANq hx)) (by rw[AMG,AMr];omega)];rfl
  ·omega
 have PQ:(bif decide (BN n=7)then decide (BN n=7)else decide (BN n=8))=false:=by
  rw[show ¬BN n=7/\¬BN n=8 by omega |> λh=>(AL9 h.1:decide (BN n=7)=false),AMl];exact IV
 rw[PQ,AMl];by_cases yX:BN n=9
 ·have vj:¬(BN n=5\/BN n=6):=by omega
  have h5:¬BN n=5:=by omega
  have h6:¬BN n=6:=by omega
  simp only[AMp h5,AMp h6,AMo yX,AMp vj,AMp h78]at hw Xm⊢;split at hw<;>rename_i hc
  ·obtain⟨A,hA⟩:∃A:Nat,nA n=(A:Int):=⟨(nA n).toNat,by omega⟩;have iI:n.2.2.1=(A:Int):=hA;rw[hA]at hw Xm;simp only[AL7,ANw,ANP,ANN]at Xm;rw[AMb yX,AMm,iI];rw[show Hg (fN B) (A:Int) 0 []=some (fN (List.replicate A B).flatten) by
    unfold Hg;have:=AU (f:=Cz (fN B) (A:Int)) (λk=>((k:Int),fN (List.replicate k B).flatten)) (t:=fN (List.replicate A B).flatten) A (λk hk=>by
     unfold Cz Fg;simp only;have o9:(k+1)*B.length<=A*B.length:=AM7 _ (by omega);have AKk:(k+1)*B.length=k*B.length+B.length:=Nat.succ_mul _ _;have hA2:A<=A*B.length:=AN4 _ (by omega);rw[Dy hk,AMm,qb h.hd (λx hx=>by
      obtain⟨C,hC,hx⟩:=List.mem_flatten.1 hx;rw[(List.mem_replicate.1 hC).2]at hx;exact hB.2.2 x hx) hB.2.2 (by rw[ANw,ANP,ANN];omega),AL6,Bj hk (by omega),AOf,List.flatten_append]
     simp) (by
     unfold Cz Fg;simp only;rw[Fb,AMl])
    exact this,hA]
   rfl
  ·omega
 have vj:BN n=5\/BN n=6:=by omega
 rw[AL9 yX,AMl];simp only[AMp yX,AMo vj]at hw Xm⊢;split at hw<;>rename_i hc
 ·obtain⟨A,hA⟩:∃A:Nat,nA n=(A:Int):=⟨(nA n).toNat,by omega⟩;have iI:n.2.2.1=(A:Int):=hA;have hz1:Gs 1=some (1,[0]):=Yd (n:=1) (by omega);rw[hz1,AL6];rw[Vk];by_cases h6:BN n=6
  ·have h5:¬BN n=5:=by omega
   have dQ:VG d (B.getD (B.length-1) (.co false)):=hB.2.2 _ (AJ (by omega));rw[show Cu n (B.length:Int) (fN B) (fN B) (AK 1 [0]).1 (AK 1 [0]).2.1 (AK 1 [0]).2.2.1 (AK 1 [0]).2.2.2.1 (AK 1 [0]).2.2.2.2=some (.inl (HI (B.getD (B.length-1) (.co false)).sg)) by
    unfold Cu;rw[e1,AMb h6,AMm,show wI ((B.length:Int)-1)=((B.length-1:Nat):Int)from A1,show(1:Int)=((1:Nat):Int)from rfl,zx h.hd hB (by omega),AL6];have:(B.drop (B.length-1)).take 1=[B.getD (B.length-1) (.co false)]:=by
     rw[ANX (by omega),show B.getD (B.length-1) (.co false)=B[B.length-1] by simp[List.getD,show B.length-1<B.length by omega]];rfl
    rw[this,ArQ,AMo ⟨by omega,by simp⟩];rfl,AL6]
   simp only[ANn,AMp h5,AMo h6,hA,AL7];rw[iI];unfold KR;rw[nc (f:=Fh (HI (B.getD (B.length-1) (.co false)).sg) (A:Int)) h.hd hB dQ (A:=A) (by omega) (λx=>rfl)];rfl
  ·have h5:BN n=5:=by omega
   rw[show Cu n (B.length:Int) (fN B) (fN B) (AK 1 [0]).1 (AK 1 [0]).2.1 (AK 1 [0]).2.2.1 (AK 1 [0]).2.2.2.1 (AK 1 [0]).2.2.2.2=some (.inr ()) by
    unfold Cu;rw[e1,AL9 h6,AMl],AL6]
   simp only[AM4,AMo h5,hA,AL7];rw[iI];have hco:((AK 1 [0]).1,(AK 1 [0]).2.1,(AK 1 [0]).2.2.1,((AK 1 [0]).2.2.2.1,(AK 1 [0]).2.2.2.2,()),())=HI (Bt.co false).sg:=rfl;rw[hco];unfold KS;rw[nc (f:=Fj (A:Int) (HI (Bt.co false).sg)) h.hd hB (show VG d (.co false)from trivial) (A:=A) (by omega) (λx=>rfl)];rfl
 ·omega
def XT(all:APH (APH Bt))(n:AOq):APH (APH Bt):=(AL n).map λk=>all.getD k.toNat []
def TB(d:AOE)(t:AOH):Nat->APH (APH Bt)
 |0=>[]
 |i+1=>TB d t i++[Bv d (nd t i) (XT (TB d t i) (nd t i))]
theorem TS(d:AOE)(t:AOH):∀i,(TB d t i).length=i
 |0=>rfl
 |i+1=>by simp only[TB,AMa,TS d t i];rfl
theorem nT(d:AOE)(t:AOH){i j k:Nat}(h:j<i)(hk:i<=k):(TB d t k).getD j []=(TB d t i).getD j []:=by
 induction k with
 |zero=>omega
 |succ k ih =>
  rcases AMh k i with h1 |h1
  ·grind
  ·rw[<-ih h1];simp only[TB,List.getD];rw[AMt (by rw[TS];omega)]
theorem fA(d:AOE)(t:AOH)(i:Nat):(TB d t (i+1)).getD i []=Bv d (nd t i) (XT (TB d t i) (nd t i)):=by
 simp only[TB,List.getD];rw[AMs (by rw[TS];omega),TS];simp
theorem Ag9{A:Type}(f:A->Nat)(l:APH A):(((l.map f).sum:Nat):Int)=(l.map λx=>(f x:Int)).sum:=by
 induction l with
 |nil=>rfl
 |cons x l ih=>grind
theorem pW{d:AOE}{t:AOH}{ws:AOz}{i:Nat}(hd:Az d)(ht:Hv t)(h:LQ d t ws)(hi:i<t.length)(hp:∀j,j<i->Bg d ((TB d t i).getD j [])/\(((TB d t i).getD j []).length:Int)=ws.getD j 0) :
    NB d (nd t i) (XT (TB d t i) (nd t i))/\GR d (nd t i) (iY (XT (TB d t i) (nd t i)))=ws.getD i 0/\Nq (nd t i) i:=by
 obtain⟨_,_,hl,⟨_,Afs⟩,_⟩:=h;have hn:=Afs i (by omega);obtain⟨FR,_,hf,hw,h1,h2⟩:=hn;have hwl:(ws.take i).length=i:=by grind
 rw[hwl]at FR;have hs:iY (XT (TB d t i) (nd t i))=(G1 (ws.take i) (nd t i)).sum:=by
  unfold iY XT G1;rw[AN2,Ag9];congr 1;refine AMV λk hk=>?_;have:=FR k hk
  grind
 refine⟨⟨hd,hf,ht.2 _ (AJ hi),by simp[XT],by grind,λB hB=>?_⟩,by grind,FR⟩;obtain⟨k,hk,rfl⟩:=List.mem_map.1 hB;have:=FR k hk;exact(hp k.toNat (by omega)).1
theorem eJ{d:AOE}{t:AOH}{ws:AOz}(hd:Az d)(ht:Hv t)(h:LQ d t ws):∀i,i<=t.length->∀j,j<i->Bg d ((TB d t i).getD j [])/\(((TB d t i).getD j []).length:Int)=ws.getD j 0
 |0,_,j,hj=>by omega
 |i+1,hi,j,hj=>by
  have ih:=eJ hd ht h i (by omega);rcases AMh j i with h1 |h1
  ·rw[nT d t h1 (AMH i)];exact ih j h1
  ·have:j=i:=by omega
   subst this;obtain⟨sQ,hw,_⟩:=pW hd ht h (by omega) ih;rw[fA];exact⟨U1 sQ,by rw[bz sQ,hw]⟩
def rb(d:AOE)(t:AOH)(n:Nat):Prop:=∀i,i<n->(Ax ((TB d t n).getD i [])).length<=2000
def Nl(d:AOE)(t:AOH):APH Bt:=(TB d t t.length).getD (t.length-1) []
open Classical in
noncomputable def BK(d:AOE)(t:AOH):Bool×AOF:=if(∃ws,LQ d t ws)/\rb d t t.length then(true,fN (Nl d t))else(false,[])
theorem rb.succ{d:AOE}{t:AOH}{n:Nat}:rb d t (n+1)↔rb d t n/\(Ax (Bv d (nd t n) (XT (TB d t n) (nd t n)))).length<=2000:=by
 constructor
 ·intro h;refine⟨λi hi=>?_,?_⟩
  ·have:=h i (by omega);rw[nT d t hi (AMH n)]at this;exact this
  ·have:=h n (by omega);rw[fA]at this;exact this
 ·rintro⟨h1,h2⟩ i hi
  rcases AMh i n with h |h
  ·rw[nT d t h (AMH n)];exact h1 i h
  ·have:i=n:=by omega
   subst this;rw[fA];exact h2
theorem rb.mono{d:AOE}{t:AOH}{m n:Nat}(h:rb d t n)(hm:m<=n):rb d t m:=λi hi=>by
 have:=h i (by omega);rw[nT d t hi hm]at this;exact this
theorem pD{a:AOE}{g c:Int}{b:AOu}{j:AOq}{all:APH (APH Bt)}{pad:AOQ}{n:AOq}(hn:(AL n).length<=1048576)(FR:Nq n all.length) :
    SS a g c b (all.map fN++pad) j (AL n) ((AL n).length:Int) 0 (List.replicate (AL n).length [])=some ((XT all n).map fN):=by
 have VY:∀m,m<(AL n).length->(all.map fN++pad).getD ((AL n).getD m 0).toNat []=fN (all.getD ((AL n).getD m 0).toNat []):=λm hm=>by
  have:=FR _ (AJ (z:=(0:Int)) hm)
  grind
 have:=AU (f:=Fl a g c b (all.map fN++pad) j (AL n) ((AL n).length:Int)) (λk=>((k:Int),CK (λm=>(all.map fN++pad).getD ((AL n).getD m 0).toNat []) [] (AL n).length k)) (t:=(XT all n).map fN) (AL n).length (λk hk=>by
  unfold Fl K7;have hk2:=FR _ (AJ (z:=(0:Int)) hk);have e0:(Ty.zero APr:Int)=0:=rfl;rw[e0,Dy hk,AMm,AMo (Bl hk),AL7,AMo ⟨hk2.1,by grind⟩,HG,AMo (Bl hk),Bj hk (by omega)];rw[show APu.zero=([]:AOF)from rfl,Pb (λm=>(all.map fN++pad).getD ((AL n).getD m 0).toNat []) [] (n:=(AL n).length) (k:=k)]) (by
  unfold Fl K7;rw[Fb,AMl];congr 2;unfold CK XT;refine AM1 (by simp) λi h1 h2=>?_
  grind)
 rw[show CK (λm=>(all.map fN++pad).getD ((AL n).getD m 0).toNat []) [] (AL n).length 0=List.replicate (AL n).length []from LU _ _ _]at this;exact this
theorem oO(B:APH Bt):(fN B).length=(Ax B).length:=Ce _
theorem AgG{d:AOE}{B:APH Bt}(h:Bg d B):Small (fN B):=by
 have hlen:=CM (C1 B);rw[Cd]at hlen;have h4:=h.2.1;refine⟨by rw[oO];omega,λs hs=>?_⟩;obtain⟨q,hq,rfl⟩:=List.mem_map.1 hs;cases q with
 |co bs =>
  show(XU bs).2.1.length<=1048576;rw[(dh bs).1];have :=by
   have:∀(l:APH Sg) (s:Sg),s∈l->s.w<=Be l:=λl s hs=>by
    induction l with
    |nil=>grind
    |cons a l ih =>
     simp only[Be,AMT,AOh];rcases List.mem_cons.1 hs with rfl |hs
     ·omega
     ·have:=ih hs;unfold Be at this;omega
   exact this _ _ hq
  rw[Cd]at this;have e:(Sg.co bs).w=bs.length:=rfl;unfold nw;omega
 |va v l n=>show[].length<=_;simp
theorem T0{d:AOE}{t:AOH}{ws:AOz}(hd:Az d)(ht:Hv t)(h:LQ d t ws):Gh d (t,())=some (BK d t):=by
 have UG:=h.1;have fJ:=h.2.1;refine Ay.eq_ ?_;unfold Gh;rw[AMo ⟨rfl,by omega,by omega,by grind,by grind⟩];refine Ay.bind (P:=λr=>(∃x,r=.inl x/\¬rb d t t.length)\/(r=.inr ((TB d t t.length).map fN)/\rb d t t.length)) ?_ λr hr=>?_
 ·refine Bu (λm (x:Int×APH _)=>∃i:Nat,i<=t.length/\m=t.length-i/\x=((i:Int),(TB d t i).map fN++List.replicate (t.length-i) [])/\rb d t i) (λm x hI=>?_) _ _ ⟨0,AMS _,rfl,by simp[TB],λi hi=>by omega⟩;obtain⟨i,hi,rfl,rfl,dR⟩:=hI;unfold K8 P0;rcases AMh i _ with Bm |YC
  ·obtain⟨sQ,hw,FR⟩:=pW hd ht h Bm (eJ hd ht h i hi);have o9:=sQ.hb.1;have RH:t.getD i _=nd t i:=rfl;have VE:(nd t i).2.2.2.2.2.1=AL _:=rfl;rw[Dy Bm,AMo (Bl Bm),AL7,RH,VE,AMo ⟨rfl,by omega,by omega,by omega,by omega⟩,AL7];rw[pD o9 (by rw[TS];exact FR),AL6,tw sQ,AL6];have hlen:((TB d t i).map fN++List.replicate (t.length-i) []).length=t.length:=by rw[AMa,AMi,TS,AMD];omega
   have Hu:((TB d t i).map fN++List.replicate (t.length-i) []).set i (fN (Bv d (nd t i) (XT (TB d t i) (nd t i))))=(TB d t (i+1)).map fN++List.replicate (t.length-(i+1)) []:=by
    rw[ANs _ _ (by grind),AMi,TS,Nat.sub_self,show t.length-i=(t.length-(i+1))+1 by omega,List.replicate_succ];simp only[TB,AMQ,AMe];rfl
   have VY:((TB d t (i+1)).map fN++List.replicate (t.length-(i+1)) ([]:AOF)).getD i (Ty.zero (.sl _))=fN (Bv d (nd t i) (XT (TB d t i) (nd t i))):=by
    grind
   rw[hlen,AMo (Bl Bm),AMf,hlen,AMo (Bl Bm),Hu,VY,oO];by_cases hc:(Ax (Bv d (nd t i) (XT (TB d t i) (nd t i)))).length<=2000
   ·rw[IV,Bj Bm (by omega)];exact Ay.mk ⟨t.length-(i+1),by omega,i+1,Bm,rfl,rfl,rb.succ.2 ⟨dR,hc⟩⟩
   ·rw[LO];exact Ay.mk (.inl ⟨_,rfl,λh'=>hc (rb.succ.1 (h'.mono Bm)).2⟩)
  ·have:i=t.length:=by omega
   subst this;rw[Fb];exact Ay.mk (.inr ⟨by simp,dR⟩)
 ·rcases hr with ⟨x,rfl,VF⟩|⟨rfl,dR⟩
  ·refine Ay.mk ?_;unfold BK;rw[AMp (λh'=>VF h'.2)]
  ·simp only[AM4];have dQ:wI ((((TB d t t.length).map fN).length)-1)=((t.length-1:Nat)):=by rw[AMi,TS];exact A1
   rw[dQ,AMi,TS,AMo ⟨by omega,by omega⟩,AL7,Alg];have hb:=(eJ hd ht h _ (AMc _) (t.length-1) (by omega)).1;rw[oA (AgG hb)];refine Ay.mk ?_;unfold BK;rw[AMo ⟨⟨ws,h⟩,dR⟩];rfl
theorem Qn{d:AOE}{t:AOH}(hd:Az d)(ht:Hv t):Di d (t,())=some (BK d t):=by
 refine Ay.eq_ ?_;unfold Di;have AFG:=hd.1;rw[Um ht (by omega) hd,AL6];by_cases hw:∃ws,LQ d t ws
 ·obtain⟨ws,h⟩:=hw;have UG:=h.1;have fJ:=h.2.1;have hp:=dE h;rw[IV,AMl];refine Ay.bind (P:=λr=>(r=.inl ()/\¬rb d t t.length)\/(r=.inr (fN (Nl d t))/\rb d t t.length)) ?_ λr hr=>?_
  ·unfold S8;refine Bu (λm (x:Int×AOP×AOF)=>∃i:Nat,i<=t.length/\m=t.length-i/\x.1=(i:Int)/\x.2.1=(TB d t i).map bV/\(0<i->x.2.2=fN ((TB d t i).getD (i-1) []))/\rb d t i) (λm x hI=>?_) t.length _ ⟨0,AMS _,rfl,rfl,rfl,λh=>by omega,λi hi=>by omega⟩;obtain⟨x1,x2,x3⟩:=x;obtain⟨i,hi,rfl,h1,h2,h3,dR⟩:=hI;simp only at h1 h2 h3;subst h1 h2;unfold Lp Qr;simp only;rcases AMh i t.length with Bm |YC
   ·obtain⟨sQ,hw,FR⟩:=pW hd ht h Bm (eJ hd ht h i hi);have o9:=sQ.hb.1;have RH:t.getD i Ag.zero=nd t i:=rfl;have VE:(nd t i).2.2.2.2.2.1=AL (nd t i):=rfl;have ACi:Ox d (i:Int) (t,()) ((TB d t i).map bV) 0 []=some ((XT (TB d t i) (nd t i)).map bV):=by
     unfold Ox;rw[XJ (f:=Fy d (i:Int) (t,()) ((TB d t i).map bV)) (AL (nd t i)).length (λm=>bV ((TB d t i).getD ((AL (nd t i)).getD m 0).toNat [])) [] (λk acc hk ha=>by
      unfold Fy Ln;simp only;have hk2:=FR _ (AJ (z:=(0:Int)) hk);simp at ha;have e0:(Ty.zero APr:Int)=0:=rfl;rw[AMo (Bl Bm),AL7,RH,VE,Dy hk,AMm,AMo (Bl Bm),AMo (Bl hk),AL7,e0,AMo ⟨hk2.1,by rw[AMi,TS];exact hk2.2⟩,ACV,Bj hk (by omega),AMo (by show(_+1)*24<=_;omega)]) (λacc=>by
      unfold Fy Ln;simp only;rw[AMo (Bl Bm),AL7,RH,VE,Fb,AMl])]
     rw[ANk];congr 1;unfold XT;rw[AN2];refine AM1 (by simp) λq h1 h2=>?_;simp only[List.getElem_map,List.getElem_range,Function.comp];have hq:q<(AL (nd t i)).length:=by simpa using h1
     simp[List.getD,hq]
    rw[Dy Bm,AMm,ACi,AL6,AMo (Bl Bm),AL7,RH,ux sQ,AL6];have hb:=U1 sQ;rw[Abf (λb za=>TJ hd (hb.2.2 b za)) hb.2.1,AL6];by_cases hc:(Ax (Bv d (nd t i) (XT (TB d t i) (nd t i)))).length<=2000
    ·simp only[AMb hc,AMP,AMl];rw[AMi,TS,AMo (by show(_+1)*24<=_;omega),Bj Bm (by omega)];refine Ay.mk ⟨t.length-(i+1),by omega,i+1,Bm,rfl,rfl,?_,λ_=>?_,rb.succ.2 ⟨dR,hc⟩⟩
     ·simp only[TB,AMQ,AMT,AN0]
     ·simp only[AMJ];rw[fA];rfl
    ·simp only[AL9 hc,ANo,AMm];exact Ay.mk (.inl ⟨rfl,λh'=>hc (rb.succ.1 (h'.mono Bm)).2⟩)
   ·have:i=t.length:=by omega
    subst this;rw[Fb,AMl];exact Ay.mk (.inr ⟨by rw[h3 (by omega)];rfl,dR⟩)
  ·rcases hr with ⟨rfl,VF⟩|⟨rfl,dR⟩
   ·simp only[ANn];refine Ay.mk ?_;unfold BK;rw[AMp (λh'=>VF h'.2)]
   ·simp only[AM4];refine Ay.mk ?_;unfold BK;rw[AMo ⟨⟨ws,h⟩,dR⟩]
 ·rw[UA hw,LO,AMm];refine Ay.mk ?_;unfold BK;rw[AMp (λh'=>hw h'.1)]
end Go.Proofs.X
namespace Go.Va
open Go.Proofs.X
def brk:APH Bt->Nat
 |a::b::r=>(if a.sg.join b.sg=none then 1 else 0)+brk (b::r)
 |_=>0
theorem Adq(B:APH Bt)(c b:Bt):brk (B++[c,b])=brk (B++[c])+if c.sg.join b.sg=none then 1 else 0:=by
 induction B with
 |nil=>simp[brk]
 |cons a B ih =>
  cases B with
  |nil=>simp only[ANk,AN1,brk]at *;omega
  |cons x B=>simp only[AN1,brk]at *;omega
theorem AfH{l s j:Sg}(h:l.join s=some j)(x:Bt):j.join x.sg=none↔s.join x.sg=none:=by
 cases l<;>cases s<;>simp only[Sg.join]at h
 ·cases h;cases x<;>simp[Sg.join,Bt.sg]
 ·cases h
 ·cases h
 ·split at h
  ·rename_i hc;cases h;cases x with
   |co b=>simp[Sg.join,Bt.sg]
   |va v a =>
    simp only[Sg.join,Bt.sg,hc.1,<-hc.2,ANa];split<;>simp
  ·cases h
theorem Af7(B:APH Bt)(c:Bt):∃g l,Ax (B++[c])=g++[l]/\∀x:Bt,l.join x.sg=none↔c.sg.join x.sg=none:=by
 have e:Ax (B++[c])=HA (Ax B) c.sg:=by unfold Ax;rw[LR];rfl
 rw[e];rcases ANg (Ax B)with h |⟨g,l,h⟩
 ·rw[h];exact⟨[],c.sg,rfl,λx=>Iff.rfl⟩
 ·rw[h,ANh,EX];cases hj:l.join c.sg with
  |none=>exact⟨g++[l],c.sg,by simp,λx=>Iff.rfl⟩
  |some j=>exact⟨g,j,rfl,AfH hj⟩
theorem tO(B:APH Bt)(c:Bt):(Ax (B++[c])).length=brk (B++[c])+1:=by
 have key:∀(n:Nat) (B:APH Bt) (c:Bt),B.length=n->(Ax (B++[c])).length=brk (B++[c])+1:=by
  intro n;induction n with
  |zero=>intro B c h;rw[List.length_eq_zero_iff.1 h];simp[Ax,Xw,HA,brk]
  |succ n ih =>
   intro B c h;rcases ANg B with rfl |⟨B0,x,rfl⟩
   ·simp at h
   ·rw[ANh]at h⊢;rw[AMe];simp only[AN1,ANk];have i:=ih B0 x (by simp at h;omega);obtain⟨g,l,hg,hl⟩:=Af7 B0 x;have e:Ax (B0++[x,c])=HA (Ax (B0++[x])) c.sg:=by
     rw[show B0++[x,c]=(B0++[x])++[c] by simp];unfold Ax;rw[LR];rfl
    rw[Adq,e,hg,EX];rw[hg]at i;simp only[AMa,ANe,ANT]at i;cases hj:l.join c.sg with
    |none=>rw[AMo ((hl c).1 hj)];simp;omega
    |some j =>
     rw[AMp (λh'=>by rw[(hl c).2 h']at hj;cases hj)];simp;omega
 exact key _ B c rfl
end Go.Va
namespace Go.Proofs.X
open Go Go.Va
set_option maxRecDepth 100000
def Acu(d:AOE)(B:APH Bt):Prop:=Bg d B/\(Ax B).length<=2000
theorem Acu.pos{d:AOE}{B:APH Bt}(h:Acu d B):1<=(Ax B).length:=by
 rcases ANg B with rfl |⟨B0,x,rfl⟩
 ·have:=h.1.1;simp at this
 ·rw[ANh,tO];omega
def UN(d:AOE):Sg->Prop
 |.co bs=>1<=bs.length/\bs.length<=4096
 |.va v l n=>v<d.length/\1<=n/\((l+n:Nat):Int)<=dw d v
theorem X5{d:AOE}{B:APH Bt}(h:Bg d B){s:Sg}(hs:s∈Ax B):UN d s/\s.w<=4096:=by
 have hw:=C1 B s hs;have hb:∀b∈s.bits,VG d b:=λb hb=>h.2.2 b (by
  rw[<-Fu B];exact List.mem_flatMap.2 ⟨s,hs,hb⟩)
 have PR:s.w<=4096:=by
  have:∀(l:APH Sg) (s:Sg),s∈l->s.w<=Be l:=λl s hs=>by
   induction l with
   |nil=>cases hs
   |cons a l ih =>
    simp only[Be,AMT,AOh];rcases List.mem_cons.1 hs with rfl |hs
    ·omega
    ·have:=ih hs;unfold Be at this;omega
  have:=this _ _ hs;rw[Cd]at this;have:=h.2.1;omega
 refine⟨?_,PR⟩;cases s with
 |co bs=>exact⟨hw,PR⟩
 |va v l n =>
  have hn:1<=n:=hw;have h0:=hb (.va v l) (List.mem_map.2 ⟨0,List.mem_range.2 hn,by simp⟩);have h1:=hb (.va v (l+(n-1))) (List.mem_map.2 ⟨n-1,List.mem_range.2 (by omega),rfl⟩);have:=h1.2;exact⟨h0.1,hn,by omega⟩
def AD5(B:APH Bt)(hi lo:Int):Prop:=0<=lo/\lo<=hi/\hi<(B.length:Int)
instance (B:List Bt) (hi lo:Int):Decidable (AD5 B hi lo):=inferInstanceAs (Decidable (_/\_))
def AtT(A B:APH Bt):Prop:=A.length+B.length<=4096/\(Ax (B++A)).length<=2000
instance (A B:List Bt):Decidable (AtT A B):=inferInstanceAs (Decidable (_/\_))
end Go.Proofs.X
namespace Go.Proofs.X
open Go Go.Va
set_option maxRecDepth 100000
theorem tE{d:AOE}{t:AOH}{ws:AOz}(hd:Az d)(ht:Hv t)(h:LQ d t ws):Bg d (Nl d t):=by
 have:=h.1;exact(eJ hd ht h t.length (AMc _) (t.length-1) (by omega)).1
theorem iD{d:AOE}{t:AOH}(hd:Az d)(ht:Hv t)(h:(BK d t).1=true):Acu d (Nl d t)/\(BK d t).2=fN (Nl d t):=by
 unfold BK at h⊢;split at h
 ·rename_i hc;rw[AMo hc];obtain⟨⟨ws,hw⟩,dR⟩:=hc;have:=hw.1;exact⟨⟨tE hd ht hw,dR _ (by omega)⟩,rfl⟩
 ·cases h
theorem WO{d:AOE}{t:AOH}(h:0<=DV d t):∃ws,LQ d t ws :=
 Classical.byContradiction λh'=>by rw[UA h']at h;omega
def gq(d:AOE)(l:AOG)(i:Nat):Prop:=(BK d (lS l i)).1=true/\(BK d (lT l i)).1=true
def BD(d:AOE)(l:AOG):Prop:=∀i,i<l.length->gq d l i
theorem p9{a b:Bool}:(!a||!b)=false↔a=true/\b=true:=by cases a<;>cases b<;>decide
def vE(l:AOG)(id:Int)(i:Nat):Prop:=(li l i).1=id/\(li l i).2.1=true
def vD(l:AOG)(id g:Int):Prop:=(g=-1/\∀i,i<l.length->¬vE l id i)\/∃k:Nat,g=(k:Int)/\k<l.length/\vE l id k/\∀i,i<k->¬vE l id i
theorem vD.unique{l:AOG}{id g h:Int}(hg:vD l id g)(hh:vD l id h):g=h:=by
 rcases hg with ⟨rfl,h1⟩|⟨k,rfl,hk,hp,hn⟩
 ·rcases hh with ⟨rfl,_⟩|⟨k,rfl,hk,hp,_⟩
  ·rfl
  ·exact absurd hp (h1 k hk)
 ·rcases hh with ⟨rfl,h1⟩|⟨j,rfl,hj,hq,hm⟩
  ·exact absurd hp (h1 k hk)
  ·rcases Nat.lt_trichotomy k j with h |h |h
   ·exact absurd hp (hm k h)
   ·rw[h]
   ·exact absurd hq (hn j h)
theorem n1:Iu ⟨#[105]⟩ ⟨#[]⟩=false:=by kernel_rfl
theorem n2:Iu ⟨#[116]⟩ ⟨#[]⟩=false:=by kernel_rfl
theorem n3:Iu ⟨#[105,106]⟩ ⟨#[]⟩=false:=by kernel_rfl
theorem n4:Iu ⟨#[105,112]⟩ ⟨#[]⟩=false:=by kernel_rfl
theorem n5:Iu ⟨#[]⟩ ⟨#[]⟩=true:=by kernel_rfl
def Dp(c:AON)(v:Nat):AOz:=c.getD v []
def Jp(l:AOz)(i:Nat):Int:=l.getD i 0
def PlP(l:AOz)(w:Int)(i:Nat):Prop:=1<=Jp l i/\Jp l i<=w-1/\(0<i->Jp l (i-1)<Jp l i)
def Zs(l:AOz)(w:Int):Prop:=∀i,i<l.length->PlP l w i
def CS(d:AOE)(c:AON):Prop:=c.length=d.length/\∀v,v<d.length->Zs (Dp c v) (dw d v)
def Xi(c:AON):Prop:=c.length<=1048576/\∀x∈c,x.length<=1048576
theorem Xi.row{c:AON}(h:Xi c)(v:Nat):(Dp c v).length<=1048576:=by
 unfold Dp;by_cases hv:v<c.length
 ·exact h.2 _ (AJ hv)
 ·grind
theorem AeG{d:AOE}(hd:Az d){v:Nat}(hv:v<d.length):1<=dw d v/\dw d v<=4096:=(hd.2.1 v hv).2.1
theorem qo{d:AOE}{c:AON}(hd:Az d)(hl:c.length=d.length){v j:Nat}(hv:v<d.length)(hj:j<(Dp c v).length)(hb:(Dp c v).length<=1048576)(hp:∀i,i<j->PlP (Dp c v) (dw d v) i) :
    ∃b,Mi d (v:Int) (j:Int) (c,())=some b/\(b=false↔PlP (Dp c v) (dw d v) j):=by
 have hw:=AeG hd hv;unfold Mi;have e1:(c.getD v APw.zero)=Dp c v:=rfl;have e2:(d.getD v _).2.1=dw d v:=rfl;have e3:(Dp c v).getD j APr.zero=Jp _ j:=rfl;simp only[AL7,e1,e2,e3];rw[AMo (Bl (by omega)),AMo (Bl hj),AMo (Bl hv),RO,BX  (by omega) (by omega)];by_cases h1:1<=Jp (Dp c v) j/\Jp (Dp c v) j<=dw d v-1
 ·rw[AMb h1];rcases AMu j with h0 |h0
  ·subst h0;exact⟨false,by simp,λ_=>⟨h1.1,h1.2,λh=>by omega⟩,λ_=>rfl⟩
  ·rw[LO,A1  (n:=j-1) (by omega) (by omega),AMo (Bl (by omega)),AMo (Bl hj),AMo (Bl (by omega)),AMo (Bl (by omega))];have e4:(Dp c v).getD _ _=Jp _ (j-1):=rfl;refine⟨_,rfl,?_⟩;rw[AMW];exact⟨λh=>⟨h1.1,h1.2,λ_=>Int.not_le.1 h⟩,λh=>Int.not_le.2 (h.2.2 h0)⟩
 ·rw[AL9 h1];exact⟨true,rfl,λh=>by grind,λh=>(h1 ⟨h.1,h.2.1⟩).elim⟩
theorem Vd{d:AOE}{c:AON}(hc:Xi c):Ay (Jt d (c,())) λr=>r=true↔Az d/\CS d c:=by
 unfold Jt Qq;obtain⟨r,hr,hq⟩:=WJ d;rw[hr];cases r with
 |false=>exact Ay.mk ⟨λh=>by grind,λh=>by grind⟩
 |true =>
  have hd:=hq.1 rfl;simp;by_cases hl:c.length=d.length
  ·rw[show(c.length !=(d.length:Int))=false by grind];refine Ay.bind (P:=λt=>(t=.inl ()/\¬CS d c)\/(t=.inr ()/\CS d c)) ?_ λt ht=>?_
   ·refine BR (λv _=>(v:Int)) c.length (λv _=>∀u,u<v->Zs (Dp c u) (dw d u)) (λv _ hv hI=>?_) (λ_ hI=>?_) (s0:=()) (λu hu=>by omega)
    ·unfold Jc MN;rw[Dy hv];refine Ay.bind (P:=λt=>(t=.inl ()/\¬Zs (Dp c v) (dw d v))\/(t=.inr ()/\Zs (Dp c v) (dw d v))) ?_ λt ht=>?_
     ·refine BR (λj _=>(j:Int)) (Dp c v).length (λj _=>∀i,i<j->PlP (Dp c v) (dw d v) i) (λj _ hj hJ=>?_) (λ_ hJ=>?_) (s0:=()) (λi hi=>by omega)
      ·unfold Jb MM;obtain⟨b,h1,h2⟩:=qo hd hl (by omega) hj (hc.row v) hJ;have e1:(c.getD v APw.zero)=Dp c v:=rfl;simp only[AL7,e1];rw[AMo (Bl hv),Dy hj,h1,AL6];cases b with
       |true=>exact Ay.mk (.inl ⟨rfl,λh=>by have:=h2.2 (h j hj);cases this⟩)
       |false =>
        rw[Bj hj (hc.row v)];refine Ay.mk ⟨(),rfl,λi hi=>?_⟩
        grind
      ·unfold Jb MM;have e1:(c.getD v APw.zero)=Dp c v:=rfl;simp only[AL7,e1];rw[AMo (Bl hv),Fb];exact Ay.mk (.inr ⟨rfl,hJ⟩)
     ·rcases ht with ⟨rfl,h⟩|⟨rfl,h⟩
      ·exact Ay.mk (.inl ⟨rfl,λh'=>h (h'.2 v (by omega))⟩)
      ·rw[Bj hv hc.1];refine Ay.mk ⟨(),rfl,λu hu=>?_⟩
       grind
    ·unfold Jc MN;rw[Fb];exact Ay.mk (.inr ⟨rfl,hl,λv hv=>hI v (by omega)⟩)
   ·rcases ht with ⟨rfl,h⟩|⟨rfl,h⟩
    ·exact Ay.mk ⟨λh=>by grind,λh'=>absurd h'.2 h⟩
    ·exact Ay.mk ⟨λ_=>⟨hd,h⟩,λ_=>rfl⟩
  ·rw[show(c.length !=(d.length:Int))=true by grind];exact Ay.mk ⟨λh=>by grind,λh=>absurd h.2.1 hl⟩
theorem pC{d:AOE}{c:AON}(hc:Xi c)(hd:Az d):Ay (Sc d (c,())) λr=>r=true↔CS d c:=by
 unfold Sc;by_cases hl:c.length=d.length
 ·rw[show(c.length !=(d.length:Int))=false by grind];refine Ay.bind (P:=λt=>(t=.inl ()/\¬CS d c)\/(t=.inr ()/\CS d c)) ?_ λt ht=>?_
  ·refine BR (λv _=>(v:Int)) c.length (λv _=>∀u,u<v->Zs (Dp c u) (dw d u)) (λv _ hv hI=>?_) (λ_ hI=>?_) (s0:=()) (λu hu=>by omega)
   ·unfold I1 Mz;have e1:(c.getD v _)=Dp c v:=rfl;have hw:=AeG hd (show v<d.length by omega);rw[Dy hv,AMo (Bl hv)];refine Ay.bind (P:=λt=>(t=.inl ()/\¬Zs (Dp c v) (dw d v))\/(t=.inr ()/\Zs (Dp c v) (dw d v))) ?_ λt ht=>?_
    ·have:=BR (f:=Gz d v c c.length (Dp c v) ((Dp c v).length)) (λj _=>((if j=0 then 0 else Jp (Dp c v) (j-1)),j)) (Dp c v).length (λj _=>∀i,i<j->PlP (Dp c v) (dw d v) i) (Q:=λt=>(t=.inl ()/\¬Zs (Dp c v) (dw d v))\/(t=.inr ()/\Zs (Dp c v) (dw d v))) (λj _ hj hJ=>?_) (λ_ hJ=>?_) (s0:=()) (λi hi=>by omega)
     ·exact this
     ·unfold Gz My;have e2:(d.getD v _).2.1=dw d v:=rfl;have e3:(Dp c v).getD j APr.zero=Jp _ j:=rfl;simp only[AL7,e2,e3];obtain⟨q,hq⟩:∃q:Int,q=if j=0 then 0 else Jp (Dp c v) (j-1):=⟨_,rfl⟩;have hqb:0<=q/\q<=4096/\(0<j->q=Jp (Dp c v) (j-1))/\(j=0->q=0):=by
       by_cases h0:j=0
       ·grind
       ·rw[AMp h0]at hq;have:=hJ (j-1) (by omega);exact⟨by have:=this.1;omega,by have:=this.2.1;omega,λ_=>hq,λh=>absurd h h0⟩
      rw[<-hq,Dy hj,AMo (Bl hj),AMo (Bl (by omega)),KH,BX (x:=dw d v-1),BX  (by omega) (by omega)];by_cases h1:q+1<=Jp (Dp c v) j/\Jp (Dp c v) j<=dw d v-1
      ·rw[AMb h1];rw[Bj hj (hc.row v)];refine Ay.mk ⟨(),by simp,λi hi=>?_⟩;rcases AMh i j with h |h
       ·grind
       ·rw[show i=j by omega];exact⟨by omega,h1.2,λh0=>by omega⟩
      ·rw[AL9 h1];refine Ay.mk (.inl ⟨rfl,λh=>h1 ?_⟩);have:=h j hj;refine⟨?_,this.2.1⟩;rcases AMu j with h0 |h0
       ·have:=(h j hj).1;omega
       ·have:=(h j hj).2.2 h0;omega
     ·unfold Gz My;rw[Fb];exact Ay.mk (.inr ⟨rfl,hJ⟩)
    ·rcases ht with ⟨rfl,h⟩|⟨rfl,h⟩
     ·exact Ay.mk (.inl ⟨rfl,λh'=>h (h'.2 v (by omega))⟩)
     ·rw[Bj hv hc.1];refine Ay.mk ⟨(),rfl,λu hu=>?_⟩
      grind
   ·unfold I1 Mz;rw[Fb];exact Ay.mk (.inr ⟨rfl,hl,λv hv=>hI v (by omega)⟩)
  ·rcases ht with ⟨rfl,h⟩|⟨rfl,h⟩
   ·exact Ay.mk ⟨λh=>by grind,λh'=>absurd h' h⟩
   ·exact Ay.mk ⟨λ_=>h,λ_=>rfl⟩
 ·rw[show(c.length !=(d.length:Int))=true by grind];exact Ay.mk ⟨λh=>by grind,λh=>absurd h.1 hl⟩
theorem tm{d:AOE}{c:AON}(hc:Xi c):Ay (Sb d (c,())) λr=>r=true↔Az d/\CS d c:=by
 unfold Sb;obtain⟨r,hr,hq⟩:=Wx d;rw[hr,AL6];cases r with
 |false=>exact Ay.mk ⟨λh=>by grind,λh=>by grind⟩
 |true =>
  have hd:=hq.1 rfl;refine Ay.bind (pC hc hd) λr hr=>Ay.mk ⟨λh=>⟨hd,hr.1 h⟩,λh=>hr.2 h.2⟩
def G4(n:Nat)(f:Nat->Bool):AOA:=(List.range n).map f
def W(d:AOE)(v:Nat):Nat:=(dw d v).toNat
def mark(f:Nat->Nat->Bool)(v p:Nat):Nat->Nat->Bool:=λu q=>f u q||(u==v&&q==p)
def M(d:AOE)(x:Nat)(f:Nat->Nat->Bool):AOO:=(List.range d.length).map λv=>G4 (W d v+x) (f v)
theorem Kv(n:Nat)(f:Nat->Bool):(G4 n f).length=n:=by simp[G4]
theorem bQ{n:Nat}{f:Nat->Bool}{p:Nat}{z:Bool}(h:p<n):(G4 n f).getD p z=f p:=by simp[G4,h]
theorem Uk{n:Nat}{f g:Nat->Bool}(h:∀p,p<n->f p=g p):G4 n f=G4 n g:=AMV λp hp=>h p (List.mem_range.1 hp)
theorem jA(n:Nat)(f:Nat->Bool)(p:Nat):(G4 n f).set p true=G4 n λq=>f q||q==p:=by
 apply ANi;intro q;rw[AMv];by_cases hq:q<n
 ·by_cases e:p=q
  ·subst e;simp[G4,hq]
  ·have:¬q=p:=λh=>e h.symm;simp[G4,hq,e,this]
 ·have h1:(G4 n λq=>f q||q==p)[q]?=none:=by simp[G4];omega
  have h2:(G4 n f)[q]?=none:=by simp[G4];omega
  grind
theorem jz(n:Nat):G4 n (λ_=>false)=List.replicate n false:=by
 apply AM1<;>simp[G4]
theorem WY(d:AOE)(x:Nat)(f:Nat->Nat->Bool):(M d x f).length=d.length:=by simp[M]
theorem Xt{d:AOE}{x:Nat}{f:Nat->Nat->Bool}{v:Nat}{z:AOA}(h:v<d.length):(M d x f).getD v z=G4 (W d v+x) (f v):=by simp[M,h]
theorem nL{d:AOE}{x:Nat}{f:Nat->Nat->Bool}{v p:Nat}{z:AOA}(h:v<d.length):(M d x f).set v (((M d x f).getD v z).set p true)=M d x (mark f v p):=by
 rw[Xt h,jA];apply ANi;intro u;rw[AMv];by_cases hu:u<d.length
 ·by_cases e:v=u
  ·subst e;simp[M,hu,mark,G4]
  ·have:¬u=v:=λh=>e h.symm;rw[AMp e];simp only[M,AMz,AN3 hu];exact congrArg some (Uk λp _=>by simp[mark,this])
 ·have h1:(M d x (mark f v p))[u]?=none:=by simp[M];omega
  rw[h1,OV];simp[M];omega
theorem NK{d:AOE}(hd:Az d){v:Nat}(hv:v<d.length):dw d v=(W d v:Int)/\1<=W d v/\W d v<=4096:=by
 have:=AeG hd hv;unfold W;omega
def C0(c:AON):Nat->Nat->Bool:=λv p=>(Dp c v).contains (p:Int)
def A0(w:Nat)(f:Nat->Bool):AOz:=((List.range w).filter λp=>decide (1<=p)&&f p).map Int.ofNat
def Ai(d:AOE)(f:Nat->Nat->Bool):AON:=(List.range d.length).map λv=>A0 (W d v) (f v)
theorem kP{w:Nat}{f g:Nat->Bool}(h:∀p,p<w->1<=p->f p=g p):A0 w f=A0 w g:=by
 unfold A0;congr 1;refine List.filter_congr λp hp=>?_
 grind
theorem oG{d:AOE}{f g:Nat->Nat->Bool}(h:∀v p,v<d.length->p<W d v->1<=p->f v p=g v p):Ai d f=Ai d g :=
 AMV λv hv=>kP λp hp h1=>h v p (List.mem_range.1 hv) hp h1
theorem WG(w:Nat)(f:Nat->Bool)(hw:w<=1):A0 w f=[]:=by
 unfold A0
 grind
theorem bJ(w:Nat)(f:Nat->Bool)(hw:1<=w):A0 (w+1) f=if f w then A0 w f++[(w:Int)]else A0 w f:=by
 unfold A0;rw[ANc,AN7];cases h:f w<;>simp[hw,h]
theorem XY(w:Nat)(f:Nat->Bool):(A0 w f).length<=w:=by
 unfold A0
 grind
theorem CN{A:Type}(g:Nat->A)(k:Nat):(List.range (k+1)).map g=(List.range k).map g++[g k]:=by rw[ANc,AMQ];rfl
theorem As6{x:Int}(h1:0<=x)(h2:x<4611686018427387904):wI x=x:=BX
theorem fW{l:AOz}{w:Int}(h:Zs l w){x:Int}(hx:x∈l):1<=x/\x<=w-1:=by
 obtain⟨i,hi,rfl⟩:=AM5 hx;have:=h i hi;have e:Jp l i=l[i]:=by simp[Jp,hi]
 exact⟨by have:=this.1;omega,by have:=this.2.1;omega⟩
theorem Zo{l:AOz}{i:Nat}(hi:i<l.length)(q:Int):(l.take (i+1)).contains q=((l.take i).contains q||q==Jp l i):=by
 rw[AW (z:=0) hi,List.contains_eq_any_beq,List.contains_eq_any_beq];simp[Jp]
theorem pH(a b:Nat):((a:Int)==(b:Int))=(a==b):=by
 grind
theorem bZ{d:AOE}{c:AON}(hd:Az d)(hc:CS d c)(hb:Xi c):M8 d (c,())=some (M d 1 (C0 c)):=by
 unfold M8 Tf;have cX:=hd.1;rw[AMX];refine⟨_,?_,rfl⟩;have:=AU (f:=FK d (c,())) (λv=>(v,(List.range v).map λu=>G4 (W d u+1) (C0 c u))) (t:=M d 1 (C0 c)) d.length (λv hv=>?_) ?_
 ·grind
 ·unfold FK LF;obtain⟨e0,fj,fP⟩:=NK hd hv;have hp:=hc.2 v hv;have e2:(d.getD v _).2.1=(W d v):=e0;simp only[AL7,e2];rw[Dy hv,AMm,AMo (Bl hv),As6  (by omega) (by omega),AMo ⟨rfl,by omega,by omega,by omega,by omega⟩];have NR:Te d v (c,()) ((List.range v).map λu=>G4 (W d u+1) (C0 c u)) 0 (List.replicate ((W d v:Int)+1).toNat false)=some (G4 (W d v+1) (C0 c v)):=by
   have:=AU (f:=FJ d v (c,()) ((List.range v).map λu=>G4 (W d u+1) (C0 c u))) (λi=>(i,G4 (W d v+1) λp=>((Dp c v).take i).contains p)) (t:=G4 (W d v+1) (C0 c v)) (Dp c v).length (λi hi=>?_) ?_
   ·have e:List.replicate ((W d v:Int)+1).toNat false=G4 (W d v+1) λp=>((Dp c v).take 0).contains p:=by
      rw[<-jz];exact Uk λp _=>by simp
    rw[e];exact this
   ·unfold FJ LD;have e1:(c.getD v APw.zero)=Dp c v:=rfl;have e3:(Dp c v).getD i APr.zero=Jp _ i:=rfl;have hpi:=hp i hi;obtain⟨p,hpp⟩:∃p:Nat,Jp (Dp c v) i=p:=⟨(Jp (Dp c v) i).toNat,by have:=hpi.1;omega⟩;have sX :=by have:=hpi.2.1;omega
    simp only[AL7,e1,e3,hpp];rw[AMo (Bl (by rw[hc.1];exact hv)),Dy hi,AMm,AMo (Bl (by rw[hc.1];exact hv)),AMo (Bl hi),AMo (by rw[Kv];exact Bl (by omega)),Bj hi (hb.row v),jA];have e5:(G4 _ _)=G4 (W d v+1) λq=>((Dp c v).take _).contains q:=Uk λq _=>by rw[Zo hi,hpp,pH]
    rw[e5]
   ·unfold FJ LD;have e1:(c.getD v APw.zero)=Dp c v:=rfl;simp only[AL7,e1];rw[AMo (Bl (by rw[hc.1];exact hv)),Fb,AMg (AMc _)];rfl
  rw[NR,AL6,AMo (by grind),Bj hv (by omega),CN]
 ·unfold FK LF;rw[Fb];rfl
theorem kX{d:AOE}(hd:Az d)(f:Nat->Nat->Bool):SE (M d 1 f)=some (Ai d f):=by
 unfold SE Uv;have cX:=hd.1;rw[AMX];refine⟨_,?_,rfl⟩;have:=AU (f:=GL (M d 1 f)) (λv=>(v,(List.range v).map λu=>A0 (W d u) (f u))) (t:=Ai d f) d.length (λv hv=>?_) ?_
 ·grind
 ·unfold GL M7;obtain⟨e0,fj,fP⟩:=NK hd hv;rw[WY,Dy hv,AMm];have NR:Uu (M d 1 f) v ((List.range v).map λu=>A0 (W d u) (f u)) 1 []=some (A0 (W d v) (f v)):=by
   have:=AU (f:=GK (M d 1 f) v ((List.range v).map λu=>A0 (W d u) (f u))) (λi=>(((i+1:Nat)),A0 (i+1) (f v))) (t:=A0 (W d v) (f v)) (W d v-1) (λi hi=>?_) ?_
   ·have e:A0 (0+1) (f v)=[]:=WG _ _ (by omega);exact this
   ·unfold GK M6;have hlen:=XY (i+1) (f v);rw[WY,AMo (Bl hv),AL7,Xt hv,Kv,A1  (n:=i+1+1) (by omega) (by omega),Dy (show i+1+1<W d v+1 by omega)];have:Mm (M d 1 f) v ((i+1:Nat)) (A0 (i+1) (f v)) ((List.range v).map λu=>A0 (W d u) (f u))=some (A0 (i+1+1) (f v)):=by
     unfold Mm;rw[WY,AMo (Bl hv),AL7,Xt hv,Kv,AMo (Bl (by omega)),AL7,bQ (by omega),bJ (i+1) _ (by omega)]
     grind
    rw[this];rfl
   ·unfold GK M6;rw[WY,AMo (Bl hv),AL7,Xt hv,Kv,A1  (n:=W d v+1) (by omega) (by omega),Fb,AMl,show W d v-1+1=W d v by omega]
  rw[NR,AL6,AMo (by grind),Bj hv (by omega),CN]
 ·unfold GL M7;rw[WY,Fb];rfl
theorem wZ{d:AOE}(hd:Az d){f:Nat->Nat->Bool}(hf:∀v,f v 0=false){a:APH AOT}{c:AOE}{e:AOC} :
    L3 a (d.length:Int) c (M d 0 f) e 0 (List.replicate d.length [])=some (Ai d f):=by
 have cX:=hd.1;have:=AU (f:=CY a d.length c (M d 0 f) e) (λv=>(v,CK (λu=>A0 (W d u) (f u)) [] d.length v)) (t:=Ai d f) d.length (λv hv=>?_) ?_
 ·rw[<-LU (λu=>A0 _ _)];exact this
 ·unfold CY Gf;obtain⟨e0,fj,fP⟩:=NK hd hv;rw[Dy hv,AMm,AMo (by rw[WY];exact Bl hv),AL7,Xt hv,Kv];have NR:L0 v d.length c (M d 0 f) a e (G4 (W d v+0) (f v)) ((W d v+0:Nat)) 0 (CK (λu=>A0 (W d u) (f u)) [] d.length v)=some ((CK (λu=>A0 (W d u) (f u)) [] d.length v).set v (A0 (W d v) (f v))):=by
   have:=AU (f:=CX v d.length c (M d 0 f) a e (G4 (W d v+0) (f v)) ((W d v+0:Nat))) (λi=>(i,(CK (λu=>A0 (W d u) (f u)) [] d.length v).set v (A0 i (f v)))) (t:=(CK (λu=>A0 (W d u) (f u)) [] d.length v).set v (A0 (W d v) (f v))) (W d v+0) (λi hi=>?_) ?_
   ·have e1:(CK (λu=>A0 (W d u) (f u)) [] d.length v).set v (A0 0 (f v))=CK (λu=>A0 (W d u) (f u)) [] d.length v:=by
      apply ANi;intro u;rw[AMv];split
      ·rename_i h;subst h;simp[CK,hv,A0]
      ·rfl
    rw[e1]at this;exact this
   ·unfold CX Ge;have hlen:=XY i (f v);rw[Dy hi,AMm];have:EU v d.length (G4 (W d v+0) (f v)) ((W d v+0:Nat)) i c (M d 0 f) a e ((CK (λu=>A0 (W d u) (f u)) [] d.length v).set v (A0 i (f v)))=some ((CK (λu=>A0 (W d u) (f u)) [] d.length v).set v (A0 (i+1) (f v))):=by
     unfold EU HT;have VY:((CK (λu=>A0 (W d u) (f u)) [] d.length v).set v (A0 i (f v))).getD v APw.zero=A0 i (f v):=by
      simp[HG,hv]
     rw[Kv,AMo (Bl hi)];simp only[AL7,VY,AMf,HG,List.set_set];rw[bQ hi];rcases AMu i with h0 |h0
     ·subst h0;rw[hf v,AMl];have e1:A0 0 (f v)=A0 (0+1) (f v):=by rw[WG 0 _ (by omega),WG _ _ (by omega)]
      rw[e1]
     ·rw[bJ _ _ h0]
      grind
    rw[this,AL6,Bj hi (by omega)]
   ·unfold CX Ge;rw[Fb];rfl
  rw[NR,AL6,Pb,Bj hv (by omega)]
 ·unfold CY Gf;rw[Fb,AMl];have:CK (λu=>A0 (W d u) (f u)) [] d.length d.length=Ai d f:=by
   exact AMV λv hv=>by grind
  rw[this]
def frs(s:Sg):AOA:=(List.range s.w).map (·==0)
def spot(s:Sg)(k:Nat):AOm:=if k=0 then(0,0,0,())else match s with |.co _=>(2,0,0,())|.va v l _=>(1,(v:Int),((l+k:Nat):Int),())
def spt(s:Sg):AOD:=(List.range s.w).map (spot s)
def W3(f:APH Sg):AOA:=f.flatMap frs
def cx(f:APH Sg):AOD:=f.flatMap spt
theorem TX{A:Type}{F:Sg->APH A}(hF:∀s,(F s).length=s.w)(f:APH Sg):(f.flatMap F).length=Be f:=by
 rw[List.length_flatMap];exact congrArg _ (AMV λs _=>hF s)
theorem oT(s:Sg):(frs s).length=s.w:=by simp[frs]
theorem qq(s:Sg):(spt s).length=s.w:=by simp[spt]
theorem Yx{A:Type}(F:Sg->APH A){f:APH Sg}{i:Nat}(hi:i<f.length):(f.take (i+1)).flatMap F=(f.take i).flatMap F++F (f.getD i (.co [])):=by
 rw[AW (z:=.co []) hi];simp
theorem flat_get{A:Type}{F:Sg->APH A}(hF:∀s,(F s).length=s.w){f:APH Sg}{i k:Nat}{z:A}(hi:i<f.length)(hk:k<(f.getD i (.co [])).w):(f.flatMap F).getD (Be (f.take i)+k) z=(F (f.getD i (.co []))).getD k z:=by
 have e:f.flatMap F=(f.take i).flatMap F++(F (f.getD i (.co []))++(f.drop (i+1)).flatMap F):=by
  rw[<-AMe,<-Yx F hi,<-ANI,ANm]
 rw[e];simp;rw[AMs (by rw[TX hF];omega),TX hF,show Be _+k-Be _=k by omega,AMt (by grind)]
theorem Ags:∀{f:APH Sg} {p:Nat},p<Be f->∃i k,i<f.length/\k<(f.getD i (.co [])).w/\p=Be (f.take i)+k
 |[],p,h=>by simp[Be]at h
 |s::f,p,h=>by
  have e:Be (s::f)=s.w+Be f:=by simp[Be]
  by_cases hp:p<s.w
  ·exact⟨0,p,by simp,by grind,by simp[Be]⟩
  ·obtain⟨i,k,h1,h2,h3⟩:=Ags (f:=f) (p:=p-s.w) (by omega);refine⟨i+1,k,by grind,by grind,?_⟩;have:Be ((s::f).take (i+1))=s.w+Be (f.take i):=by simp[Be]
   omega
theorem YK{f:APH Sg}{i:Nat}(hi:i<f.length):Be (f.take i)+(f.getD i (.co [])).w<=Be f:=by
 rw[<-EZ hi];exact EP f _
theorem Ik{A:Type}{g:Nat->A}{n k:Nat}{z:A}(h:k<n):((List.range n).map g).getD k z=g k:=by grind
theorem Sn{f:APH Sg}{i k:Nat}(hi:i<f.length)(hk:k<(f.getD i (.co [])).w) :
    (Dn f).getD (Be (f.take i)+k) (.co false)=(f.getD i (.co [])).bits.getD k (.co false)/\(W3 f).getD (Be (f.take i)+k) false=(k==0)/\(cx f).getD (Be (f.take i)+k) Ab.zero=spot (f.getD i (.co [])) k:=by
 refine⟨flat_get HP hi hk,?_,?_⟩
 ·unfold W3;rw[flat_get oT hi hk];exact Ik hk
 ·unfold cx;rw[flat_get qq hi hk];exact Ik hk
theorem uy{f:APH Sg}(h1:YX f)(hf:∀s∈f,VB s)(hw:Be f<=4096):Ju (fV f)=some (bV (Dn f),W3 f):=by
 unfold Ju;have hlen:=CM h1;rw[Abe h1 hf hw,AL6];have:Uy (fV f) (bV (Dn f)) 0 []=some (W3 f):=by
  have:=AU (f:=GQ (fV f) (bV (Dn f))) (λi=>(i,W3 (f.take i))) (t:=W3 f) f.length (λi hi=>?_) ?_
  ·exact this
  ·unfold GQ Nb;rw[Ce,Dy hi,AMm];have he:=YK hi;have FR:Ux (fV f) i (bV (Dn f)) 0 (W3 (f.take i))=some (W3 (f.take (i+1))):=by
    have:=AU (f:=GN (fV f) i (bV (Dn f))) (λk=>(k,W3 (f.take i)++(List.range k).map (·==0))) (t:=W3 (f.take (i+1))) (f.getD i (.co [])).w (λk hk=>?_) ?_
    ·rw[show W3 _=W3 (f.take i)++(List.range 0).map _ by simp];exact this
    ·unfold GN Na;simp only[AL7,fe hi,X6];have hl:(W3 (f.take i)++(List.range k).map (·==0)).length=Be (f.take i)+k:=by
      rw[AMa,show(W3 _).length=Be _ from TX oT _];simp
     rw[Ce,AMo (Bl hi),Dy hk,AMm,AMo (by grind),Bj hk (by omega),CN,AMe,show((k:Int)==0)=(k==0)from pH k 0]
    ·unfold GN Na;simp only[AL7,fe hi,X6];rw[Ce,AMo (Bl hi),Fb];unfold W3;rw[Yx frs hi];rfl
   rw[FR,AL6,Bj hi (by omega)]
  ·unfold GQ Nb;rw[Ce,Fb,AMl,AMg (AMc _)]
 rw[this];rfl
theorem pG{f:APH Sg}(h1:YX f)(hf:∀s∈f,VB s)(hw:Be f<=4096):JJ (fV f)=some (cx f):=by
 unfold JJ;have hlen:=CM h1;have:Oj (fV f) ((fV f).length:Int) 0 []=some (cx f):=by
  unfold Oj;rw[Ce];have:=AU (f:=Fs (fV f) (f.length:Int)) (λi=>((i:Int),cx (f.take i))) (t:=cx f) f.length (λi hi=>?_) ?_
  ·exact this
  ·unfold Fs Lc;simp only[AL7,fe hi];have hwt:=EP f i;have he:=YK hi;have h1i:=h1 _ (AJ (z:=.co []) hi);have hfi:=hf _ (AJ (z:=.co []) hi);have fK:(cx (f.take i)).length=Be (f.take i):=TX qq _;rw[Ce,Dy hi,AMm,AMo (Bl hi),AMo (by rw[fK];simp;omega)];have FR:Oi (fV f) (f.length:Int) (i:Int) (HI (f.getD i (.co []))) 1 (cx (f.take i)++[(0,0,0,())])=some (cx (f.take (i+1))):=by
    unfold Oi;have:=AU (f:=Fq (fV f) (f.length:Int) (i:Int) (HI (f.getD i (.co [])))) (λk=>(((k+1:Nat):Int),cx (f.take i)++(List.range (k+1)).map (spot (f.getD i (.co []))))) (t:=cx (f.take (i+1))) ((f.getD i (.co [])).w-1) (λk hk=>?_) ?_
    ·exact this
    ·unfold Fq Lb;simp only[X6];have hl:(cx (f.take i)++(List.range (k+1)).map (spot (f.getD i (.co [])))).length=Be (f.take i)+(k+1):=by
      rw[AMa,fK];simp
     rw[Dy (show k+1<(f.getD i (.co [])).w by omega),AMm];have:Kr ((k+1:Nat):Int) (fV f) (f.length:Int) (i:Int) (cx (f.take i)++(List.range (k+1)).map (spot (f.getD i (.co [])))) (HI (f.getD i (.co [])))=some (cx (f.take i)++(List.range (k+1+1)).map (spot (f.getD i (.co [])))):=by
      unfold Kr;rw[CN _ (k+1),<-AMe];cases hs:f.getD i (.co [])with
      |co b =>
       rw[hs]at hl;rw[show((HI (.co b)).1==-1)=true from rfl,AMm,AMo (by rw[hl];simp;omega)];rfl
      |va v l n =>
       rw[hs]at hl hk hfi he;simp only[Sg.w,VB]at hk hfi he;rw[show((HI (.va v l n)).1==-1)=false from beq_eq_false_iff_ne.2 (show(v:Int)≠-1 by omega),AMl,AMo (by rw[hl];simp;omega)];rw[show wI ((HI (.va v l n)).2.1+((k+1:Nat):Int))=((l+(k+1):Nat):Int)from A1 (by show(l:Int)+((k+1:Nat):Int)=_;omega) (by omega)];rfl
     rw[this,AL6,A1 (x:=((k+1:Nat):Int)+1) (n:=k+1+1)]
    ·unfold Fq Lb;simp only[X6];rw[show(f.getD i (.co [])).w-1+1=(f.getD i (.co [])).w by omega,Fb,AMl];unfold cx;rw[Yx spt hi];rfl
   rw[FR,AL6,Bj hi (by omega)]
  ·unfold Fs Lc;simp only;rw[Fb,AMl,AMg (AMc _)]
 rw[this];rfl
def fst(B:APH Bt)(p:Nat):Bool:=(W3 (Ax B)).getD p false
def PH(B:APH Bt)(p:Nat):Bt:=B.getD p (.co false)
def Aa1(h:Nat->Nat->Bool):Bt->Bool
 |.co _=>false
 |.va v a=>h v a
def iU:Bt->Bool
 |.co _=>false
 |.va _ _=>true
def SG(B:APH Bt)(h:Nat->Nat->Bool)(p:Nat):Bool:=fst B p||Aa1 h (PH B p)
theorem pX{d:AOE}{B:APH Bt}(hd:Az d)(h:Bg d B):YX (Ax B)/\(∀s∈Ax B,VB s)/\Be (Ax B)=B.length :=
 ⟨C1 B,Rl (λb hb=>gL (TJ hd (h.2.2 b hb))) h.2.1,Cd B⟩
theorem Age{d:AOE}{B:APH Bt}(hd:Az d)(h:Bg d B):Ju (fN B)=some (bV B,W3 (Ax B)):=by
 obtain⟨h1,h2,h3⟩:=pX hd h;have:=uy h1 h2 (by rw[h3];exact h.2.1);rw[Fu]at this;exact this
theorem Ag4{d:AOE}{B:APH Bt}(hd:Az d)(h:Bg d B):JJ (fN B)=some (cx (Ax B)):=by
 obtain⟨h1,h2,h3⟩:=pX hd h;exact pG h1 h2 (by rw[h3];exact h.2.1)
theorem yV(B:APH Bt):(W3 (Ax B)).length=B.length:=by rw[show(W3 _).length=Be _ from TX oT _,Cd]
theorem fY(B:APH Bt):(cx (Ax B)).length=B.length:=by rw[show(cx _).length=Be _ from TX qq _,Cd]
theorem gF{d:AOE}{B:APH Bt}(h:Bg d B){p:Nat}(hp:p<B.length):∃i k,i<(Ax B).length/\k<((Ax B).getD i (.co [])).w/\p=Be ((Ax B).take i)+k/\UN d ((Ax B).getD i (.co [])) /\
    PH B p=((Ax B).getD i (.co [])).bits.getD k (.co false)/\fst B p=(k==0)/\(cx (Ax B)).getD p Ab.zero=spot ((Ax B).getD i (.co [])) k:=by
 obtain⟨i,k,h1,h2,rfl⟩:=Ags   (by rw[Cd];exact hp);obtain⟨e1,e2,e3⟩:=Sn h1 h2;rw[Fu]at e1;exact⟨i,k,h1,h2,rfl,(X5 h (AJ h1)).1,e1,e2,e3⟩
theorem YQ{v l n k:Nat}(h:k<n):(Sg.va v l n).bits.getD k (.co false)=.va v (l+k):=by simp[Sg.bits,h]
theorem aD{b:AOA}{k:Nat}(h:k<b.length):(Sg.co b).bits.getD k (.co false)=.co (b.getD k false):=by simp[Sg.bits,h]
theorem YM{d:AOE}{B:APH Bt}(h:Bg d B){p:Nat}(hp:p<B.length):(fst B p=true/\(cx (Ax B)).getD p Ab.zero=(0,0,0,())) \/
    (fst B p=false/\((∃b,PH B p=.co b)/\(cx (Ax B)).getD p Ab.zero=(2,0,0,())\/∃v a,PH B p=.va v a/\v<d.length/\1<=a/\a<W d v/\(cx (Ax B)).getD p Ab.zero=(1,(v:Int),(a:Int),()))):=by
 obtain⟨i,k,h1,h2,h3,h4,h5,h6,h7⟩:=gF h hp;rw[h5,h6,h7];rcases AMu k with h0 |h0
 ·subst h0;exact .inl ⟨rfl,rfl⟩
 ·refine .inr ⟨by grind,?_⟩;have hk:¬k=0:=by omega
  cases hs:(Ax B).getD i _ with
  |co b =>
   rw[hs]at h2;exact .inl ⟨⟨_,aD h2⟩,by simp[spot,hk]⟩
  |va v l n =>
   rw[hs]at h2 h4;simp only[Sg.w,UN]at h2 h4;exact .inr ⟨v,l+k,YQ h2,h4.1,by omega,by unfold W;omega,by simp[spot,hk]⟩
theorem Adk{d:AOE}{B:APH Bt}(h:Bg d B){p:Nat}(hp:p<B.length):VG d (PH B p):=h.2.2 _ (AJ hp)
theorem Rp{d:AOE}(hd:Az d){B:APH Bt}(h:Bg d B){f:Nat->Nat->Bool}{p:Nat}(hp:p<B.length):Eg (bV B,W3 (Ax B),()) (M d 1 f) (p:Int)=some (SG B f p):=by
 unfold Eg;have e1:(W3 _).getD p (Ty.zero .bool)=fst B p:=rfl;have e2:(bV B).getD p _=VM (PH B p):=gH hp;simp only[AL7,e1,e2];rw[yV,Dk,AMo (Bl hp)];unfold SG;cases fst B p with
 |true=>rfl
 |false =>
  rw[AMo (Bl hp)];have hb:=Adk h hp;cases hbb:PH B p with
  |co b=>rfl
  |va v a =>
   rw[hbb]at hb;obtain⟨h1,h2⟩:=hb;obtain⟨hw,_,_⟩:=NK hd h1;rw[show(VM _).1=v from rfl,show(VM _).2.1=a from rfl,show decide ((v:Int)>=0)=true from LO,AMo (Bl hp),WY,AMo (Bl h1),AMo (Bl hp),AL7,Xt h1,Kv,AMo (Bl (by omega)),bQ (by omega)];rfl
theorem uB{d:AOE}(hd:Az d){B:APH Bt}(h:Bg d B){f:Nat->Nat->Bool}{p:Nat}(hp:p<B.length):Jk (bV B,W3 (Ax B),()) (M d 1 f) (p:Int)=some (!SG B f p&&iU (PH B p)):=by
 unfold Jk;have e2:(bV B).getD p _=VM (PH B p):=gH hp;rw[Rp hd h hp,AL6];simp only[AL7,e2];cases SG B f p with
 |true=>rfl
 |false =>
  rw[Dk,ANo,AMo (Bl hp)];cases PH B p with
  |co b=>rfl
  |va v a =>
   rfl
section
variable {kt vt:Ty}
theorem my(hr:∀x:kt.V,Bd kt x x=true)(k:kt.V)(v:vt.V):∀es:APH (kt.V×vt.V),Xo kt vt (Ch kt vt es k v) k=Xo kt vt es k/\S5 kt vt (Ch kt vt es k v) k=true
 |[]=>by simp[Ch,Xo,S5,N4,hr]
 |x::es=>by
  obtain⟨h1,h2⟩:=my hr k v es;unfold Ch;cases hx:Bd kt k x.1 with
  |true=>simp[Xo,S5,N4,hr,hx]
  |false =>
   unfold S5 at h2⊢;simp only[Xo,N4,hx,AMl];exact⟨by omega,h2⟩
theorem iz(hr:∀x:kt.V,Bd kt x x=true)(k:kt.V)(v:vt.V)(es:APH (kt.V×vt.V)):VP kt vt (Ch kt vt es k v) k (Xc kt vt es k)=true:=by
 obtain⟨h1,h2⟩:=my hr k v es;unfold VP Xc;rw[h1,h2];simp
theorem WB(he:∀x y:kt.V,Bd kt x y=true↔x=y)(k k':kt.V)(v:vt.V):∀es:APH (kt.V×vt.V),N4 kt vt (Ch kt vt es k v) k'=bif Bd kt k' k then some v else N4 kt vt es k'
 |[]=>by simp[Ch,N4]
 |x::es=>by
  unfold Ch;cases hx:Bd kt k x.1 with
  |true =>
   have:=(he _ _).1 hx;simp only[AMm,N4]
   grind
  |false =>
   simp only[AMl,N4];rw[WB he k k' v es]
   grind
theorem df(he:∀x y:kt.V,Bd kt x y=true↔x=y)(k k':kt.V)(v:vt.V)(es:APH (kt.V×vt.V)):Bn kt vt (Ch kt vt es k v) k'=bif Bd kt k' k then v else Bn kt vt es k':=by
 unfold Bn;rw[WB he];cases Bd kt k' k<;>rfl
end
theorem fp(x y:AOl):Bd Aa x y=true↔x=y:=by
 obtain⟨a,b,_⟩:=x;obtain⟨a',b',_⟩:=y;simp[Bd]
theorem YD(x:AOl):Bd Aa x x=true:=(fp x x).2 rfl
def Zk(d:AOE):APH AO5:=(List.range d.length).flatMap λv=>(List.range (W d v)).map λp=>(v,p)
def free(d:AOE)(f:Nat->Nat->Bool):Nat:=(Zk d).countP λx=>!f x.1 x.2
theorem Abt{d:AOE}{v p:Nat}(hv:v<d.length)(hp:p<W d v):(v,p)∈Zk d :=
 List.mem_flatMap.2 ⟨v,List.mem_range.2 hv,List.mem_map.2 ⟨p,List.mem_range.2 hp,rfl⟩⟩
theorem Ws{A:Type}{F:Nat->APH A}{m:Nat}:∀{n:Nat},(∀v,v<n->(F v).length<=m)->((List.range n).flatMap F).length<=m*n
 |0,_=>by simp
 |n+1,h=>by
  rw[ANc,ANI,AMa,Nat.mul_succ];have h1:=Ws (n:=n) λv hv=>h v (by omega)
  grind
theorem Ajz{d:AOE}(hd:Az d)(f:Nat->Nat->Bool):free d f<=245760:=by
 have h1:(Zk d).length<=4096*d.length:=Ws λv hv=>by simp;exact(NK hd hv).2.2
 have h2:=List.countP_le_length (p:=λx =>!f x.1 x.2) (l:=Zk d);have:=hd.1;unfold free;omega
theorem Yo{A:Type}{q q':A->Bool}:∀{l:APH A} {x:A},(∀y,q' y=true->q y=true)->x∈l->q x=true->q' x=false->l.countP q'+1<=l.countP q
 |[],_,_,h,_,_=>by grind
 |y::l,x,hq,h,h1,h2=>by
  have PR:l.countP q'<=l.countP q:=ANU λy _=>hq y;rw[List.countP_cons,List.countP_cons];rcases List.mem_cons.1 h with e |h
  ·grind
  ·have:=Yo hq h h1 h2
   grind
theorem cP{d:AOE}{f:Nat->Nat->Bool}{v p:Nat}(hv:v<d.length)(hp:p<W d v)(h:f v p=false):free d (mark f v p)+1<=free d f :=
 Yo (λy hy=>by simp[mark]at hy⊢;exact hy.1) (Abt hv hp) (by grind) (by simp[mark])
abbrev SC:Type:=(Nat->Nat->Bool)×AOC
open Classical in
noncomputable def LN(d:AOE)(s:SC)(v p:Nat):SC:=if 0<p/\p<W d v/\s.1 v p=false then(mark s.1 v p,s.2++[((v:Int),(p:Int),())])else s
theorem dX{d:AOE}(hd:Az d){v p:Nat}(hv:v<d.length){r:Nat->Bool}{t:AOO}{g:AOC}{a:Int}(ht:t.length=d.length)(hr:t.getD v APy.zero=G4 (W d v) r)(hg:g.length<=1000000) :
    BG a (v:Int) (p:Int) d t g=some (if 0<p/\p<W d v/\r p=false then(d,t.set v ((G4 (W d v) r).set p true),g++[((v:Int),(p:Int),())])else(d,t,g)):=by
 obtain⟨e0,fj,fP⟩:=NK hd hv;have e2:(d.getD v Ad.zero).2.1=(W d v:Int):=e0;have key:GZ a (v:Int) (p:Int) d t g=some (decide (0<p/\p<W d v/\r p=false)):=by
  unfold GZ;simp only[AL7,e2,hr];rcases AMu p with h0 |h0
  ·grind
  ·rw[show decide ((p:Int)>0)=true from LO,AMo (Bl hv)];by_cases hp:p<W d v
   ·rw[AMo (by grind),AMo (by rw[Kv];exact Bl hp),bQ hp];cases r p<;>simp[h0,hp]
   ·grind
 unfold BG;rw[key,AL6];by_cases h:0<p/\p<W d v/\r p=false
 ·rw[AMb h,AMm,AMo h];simp only[AL7,hr];rw[AMo (by grind),AMo (by rw[Kv];omega),AMo (by grind)]
 grind
theorem TY{d:AOE}(hd:Az d){v p:Nat}(hv:v<d.length)(s:SC){a:Int}(hg:s.2.length<=1000000):BG a (v:Int) (p:Int) d (M d 0 s.1) s.2=some (d,M d 0 (LN d s v p).1,(LN d s v p).2):=by
 rw[dX hd hv (WY _ _ _) (Xt hv) hg];unfold LN;by_cases h:0<p/\p<W d v/\s.1 v p=false
 ·rw[AMo h,AMo h];have:=nL (x:=0) (f:=s.1) (p:=p) (z:=[]) hv;rw[Xt hv]at this;rw[<-this];rfl
 ·grind
structure CI (d:AOE) (f0:Nat->Nat->Bool) (s:SC):Prop where
 le:∀v p,f0 v p=true->s.1 v p=true
 Xg:∀v p,s.1 v p=true->v<d.length/\1<=p/\p<W d v
 Bq:∀x∈s.2,∃v p:Nat,x=((v:Int),(p:Int),())/\s.1 v p=true
 len:s.2.length+free d s.1<=500000
def ri(s:SC):Prop:=∀v p,s.1 v p=true->((v:Int),(p:Int),())∈s.2
def Pv(f g:Nat->Nat->Bool):Prop:=∀v p,f v p=true->g v p=true
def Hit(d:AOE)(f:Nat->Nat->Bool)(v p:Nat):Prop:=0<p->p<W d v->f v p=true
theorem Hit.mono{d:AOE}{f g:Nat->Nat->Bool}(h:Pv f g){v p:Nat}(hh:Hit d f v p):Hit d g v p:=λh1 h2=>h v p (hh h1 h2)
theorem EW{f:Nat->Nat->Bool}{v p u q:Nat}:mark f v p u q=true↔f u q=true\/(u=v/\q=p):=by simp[mark]
theorem ZC{d:AOE}(s:SC)(v p:Nat):Pv s.1 (LN d s v p).1:=λu q h=>by
 unfold LN;split
 ·exact EW.2 (.inl h)
 ·omega
theorem aH{d:AOE}(s:SC)(v p:Nat):Hit d (LN d s v p).1 v p:=λh1 h2=>by
 unfold LN;split
 ·exact EW.2 (.inr ⟨rfl,rfl⟩)
 grind
theorem aI{d:AOE}{s:SC}{v p:Nat}{h:Nat->Nat->Bool}(hu:Pv s.1 h)(hh:Hit d h v p):Pv (LN d s v p).1 h:=λu q hq=>by
 unfold LN at hq;split at hq
 ·rename_i hc;rcases EW.1 hq with h1 |⟨rfl,rfl⟩
  ·exact hu u q h1
  ·exact hh hc.1 hc.2.1
 ·exact hu u q hq
theorem CI.cut{d:AOE}{f0:Nat->Nat->Bool}{s:SC}(h:CI d f0 s){v p:Nat}(hv:v<d.length):CI d f0 (LN d s v p):=by
 refine⟨λu q hq=>ZC s v p u q (h.le u q hq),λu q hq=>?_,λx hx=>?_,?_⟩
 ·unfold LN at hq;split at hq
  ·rename_i hc;rcases EW.1 hq with h1 |⟨rfl,rfl⟩
   ·exact h.Xg u q h1
   ·omega
  ·exact h.Xg u q hq
 ·unfold LN at hx⊢;split at hx
  ·rename_i hc;rw[AMo hc];rcases List.mem_append.1 hx with hx |hx
   ·obtain⟨u,q,e,h1⟩:=h.Bq x hx;exact⟨u,q,e,EW.2 (.inl h1)⟩
   ·rw[AMx]at hx;exact⟨v,p,hx,EW.2 (.inr ⟨rfl,rfl⟩)⟩
  ·rename_i hc;rw[AMp hc];exact h.Bq x hx
 ·unfold LN;split
  ·rename_i hc;have:=cP hv hc.2.1 hc.2.2;have:=h.len
   grind
  ·exact h.len
theorem ri.cut{d:AOE}{s:SC}(h:ri s){v p:Nat}:ri (LN d s v p):=λu q hq=>by
 unfold LN at hq⊢;split
 ·rename_i hc;rw[AMo hc]at hq;rcases EW.1 hq with h1 |⟨rfl,rfl⟩
  ·exact AME _ (h u q h1)
  grind
 ·rename_i hc;rw[AMp hc]at hq;exact h u q hq
theorem qd{l:AOz}{w:Int}(h:Zs l w):∀{j i:Nat},i<j->j<l.length->Jp l i<Jp l j
 |j+1,i,sK,hj=>by
  have h1:=(h _ hj).2.2 (by omega);simp only[AMJ]at h1;rcases AMh i j with h2 |h2
  ·have:=qd h h2 (by omega);omega
  grind
theorem Agr{l:AOz}{w:Int}(h:Zs l w):∀{i:Nat},i<l.length->((i:Int)+1)<=Jp l i
 |0,hi=>by have:=(h 0 hi).1;omega
 |i+1,hi=>by
  have h1:=Agr h (i:=i) (by omega);have h2:=(h _ hi).2.2 (by omega)
  grind
theorem U9{l:AOz}{w:Int}(h:Zs l w)(hw:1<=w):(l.length:Int)<=w:=by
 rcases AMu l.length with h0 |h0
 ·omega
 ·have h1:=Agr h (i:=l.length-1) (by omega);have h2:=(h (l.length-1) (by omega)).2.1;omega
theorem Ahb{l:AOz}{w:Int}(h:Zs l w){i:Nat}(hi:i<l.length):(l.take i).contains (Jp l i)=false:=by
 rw[Bool.eq_false_iff];intro hc;have hm:Jp l i∈l.take i:=by grind
 obtain⟨j,hj,e⟩:=AM5 hm;rw[AMr]at hj;rw[List.getElem_take]at e;have h1:=qd h (i:=j)  (by omega) hi;have h2:Jp l j=l[j]'(by omega):=by simp[Jp,show j<l.length by omega]
 omega
def g0(c:AON)(n:Nat):AOC:=(List.range n).flatMap λv=>(Dp c v).map λp=>((v:Int),p,())
theorem pT{d:AOE}{c:AON}(hd:Az d)(hc:CS d c)(hb:Xi c):L6 d (c,())=some (0,d,M d 0 (C0 c),[],g0 c d.length):=by
 have cX:=hd.1;have hgl:∀n,n<=d.length->(g0 c n).length<=4096*n:=λn hn=>Ws λv hv=>by
  obtain⟨e0,fj,fP⟩:=NK hd (show v<d.length by omega);have:=U9 (hc.2 v (by omega)) (by omega);rw[AMi];omega
 unfold L6;rw[AMo ⟨rfl,by omega,by omega,by omega,by omega⟩,AL7];have:P4 d (c,()) d.length 0 d (List.replicate d.length []) []=some (d,M d 0 (C0 c),g0 c d.length):=by
  have:=AU (f:=D3 d (c,()) d.length) (λv=>(v,d,CK (λu=>G4 (W d u+0) (C0 c u)) [] d.length v,g0 c v)) (t:=(d,M d 0 (C0 c),g0 c d.length)) d.length (λv hv=>?_) ?_
  ·rw[<-LU (λu=>G4 _ _)];exact this
  ·unfold D3 IH;obtain⟨e0,fj,fP⟩:=NK hd hv;have hp:=hc.2 v hv;have e1:(c.getD v APw.zero)=Dp c v:=rfl;have e2:(d.getD v _).2.1=(W d v):=e0;simp only[AL7,e1,e2];rw[Dy hv,AMm,AMo (Bl hv),AMo (show Ty.row _=true/\0<=(W d v:Int)/\(W d v)<=(W d v:Int)/\((1:Nat))*(W d v:Int)<=281474976710656/\(W d v:Int)<=9223372036854775807 from⟨rfl,by omega,by omega,by omega,by omega⟩),HG,AMo (Bl hv),AMo (Bl (by rw[hc.1];exact hv))];have hrl :=by have:=U9 hp (by omega);omega
   have FR:P3 v d d.length (c,()) (Dp c v) ((Dp c v).length) 0 d ((CK (λu=>G4 (W d u+0) (C0 c u)) [] d.length v).set v (List.replicate (W d v) false)) (g0 c v)=some (d,CK (λu=>G4 (W d u+0) (C0 c u)) [] d.length (v+1),g0 c (v+1)):=by
    have:=AU (f:=D2 v d d.length (c,()) (Dp c v) ((Dp c v).length)) (λi=>(i,d,(CK (λu=>G4 (W d u+0) (C0 c u)) [] d.length v).set v (G4 (W d v) λp=>((Dp c v).take i).contains p),g0 c v++((Dp c v).take i).map λp=>((v:Int),p,()))) (t:=(d,CK (λu=>G4 (W d u+0) (C0 c u)) [] d.length (v+1),g0 c (v+1))) (Dp c v).length (λi hi=>?_) ?_
    ·have e:List.replicate (W d v) false=G4 (W d v) λp=>((Dp c v).take 0).contains p:=by
       rw[<-jz];exact Uk λp _=>by simp
     rw[e,show g0 c v=g0 c v++((Dp c v).take 0).map _ by simp];exact this
    ·unfold D2 IG;have hpi:=hp i hi;obtain⟨p,hpp⟩:∃p:Nat,Jp (Dp c v) i=p:=⟨(Jp (Dp c v) i).toNat,by have:=hpi.1;omega⟩;have sX:p<W d v:=by have:=hpi.2.1;omega
     have e3:(Dp c v).getD i APr.zero=p:=hpp;have VF:=Ahb hp hi;rw[hpp]at VF;simp only[AL7,e3];rw[Dy hi,AMo (Bl hi),dX hd hv (r:=λp=>((Dp c v).take i).contains p) (by rw[AMf,HG]) (by simp[HG,hv]) (by grind),AMo ⟨by have:=hpi.1;omega,sX,VF⟩,Bj hi (by omega),List.set_set,jA];have e5:(G4 _ _)=G4 (W d v) λq=>((Dp c v).take _).contains q:=Uk λq _=>by rw[Zo hi,hpp,pH]
     rw[e5,AW  hi,AMQ,<-AMe,show(Dp c v).getD i 0=p from hpp];rfl
    ·unfold D2 IG;rw[Fb,AMl,AMg (AMc _)];have e6:(CK (λu=>G4 (W d u+0) (C0 c u)) [] _ v).set v (G4 (W d v) λp=>(Dp c v).contains p)=CK (λu=>G4 _ _) [] d.length _:=Pb _ _;have e7:g0 c v++(Dp c v).map (λp=>((v:Int),p,()))=g0 c (v+1):=by
      unfold g0;rw[ANc];simp
     rw[e6,e7]
   rw[FR,AL6,Bj hv (by omega)]
  ·unfold D3 IH;rw[Fb,AMl];have:CK (λu=>G4 (W d u+0) (C0 c u)) [] d.length d.length=M d 0 (C0 c):=by
    exact AMV λv hv=>by grind
   rw[this]
 rw[this];rfl
theorem vw{d:AOE}{c:AON}(hd:Az d)(hc:CS d c){v p:Nat}(h:C0 c v p=true):v<d.length/\1<=p/\p<W d v:=by
 have hm :=by simpa [C0]using h
 have hv:v<d.length:=by
  rw[<-hc.1];rcases AMh v c.length with h1 |h1
  ·grind
  ·unfold Dp at hm
   grind
 obtain⟨e0,fj,fP⟩:=NK hd hv;have:=fW (hc.2 v hv) hm;exact⟨hv,by omega,by omega⟩
theorem Ag7{d:AOE}{c:AON}(hd:Az d)(hc:CS d c):CI d (C0 c) (C0 c,g0 c d.length)/\ri (C0 c,g0 c d.length):=by
 refine⟨⟨λ_ _ h=>h,λv p h=>vw hd hc h,λx hx=>?_,?_⟩,λv p h=>?_⟩
 ·obtain⟨v,hv,hx⟩:=List.mem_flatMap.1 hx;obtain⟨q,hq,rfl⟩:=List.mem_map.1 hx;have hq1:=fW (hc.2 v (List.mem_range.1 hv)) hq;refine⟨v,q.toNat,by grind,?_⟩;simp only[C0]
  grind
 ·have h1:=Ajz hd (C0 c);have h2:(g0 c _).length<=4096*d.length:=Ws λv hv=>by
   obtain⟨e0,fj,fP⟩:=NK hd hv;have:=U9 (hc.2 v hv) (by omega);rw[AMi];omega
  have:=hd.1;simp only;omega
 ·have:=vw hd hc h;exact List.mem_flatMap.2 ⟨v,List.mem_range.2 this.1,List.mem_map.2 ⟨p,by simpa [C0]using h,rfl⟩⟩
def me(x y:Nat):Nat->Nat
 |0=>0
 |1=>x
 |_=>x+y
def ml{A:Type}(x y:APH A):Nat->APH A
 |0=>[]
 |1=>x
 |_=>x++y
theorem oE{a b:AOF}(h0:1<=a.length)(ha:a.length<=100000000)(hb:b.length<=100000000):H5 [a,b]=some (a++b):=by
 unfold H5;have fJ:([a,b]).length=2:=rfl;have h1:Me [a,b] (([a,b]).length) 0 0=some (((a.length+b.length:Nat):Int)):=by
  have:=AU (f:=C2 [a,b] (([a,b]).length)) (λk=>((me a.length b.length k),k)) (t:=(((a.length+b.length)))) 2 (λk hk=>?_) ?_
  ·exact this
  ·unfold C2 Gk H6;simp only[AL7];rw[fJ,Dy hk,AMo (Bl hk)]
   match k,hk with
   |0,_ =>
    simp;rw[show wI _=a.length from A1 (by simp[me]) (by omega),IV];rfl
   |1,_ =>
    simp;rw[show wI _=((a.length+b.length))from A1 (by simp[me]) (by omega),IV];rfl
  ·unfold C2 Gk;rfl
 rw[h1,AL6,IV,show wI _=((a.length+b.length:Nat))from A1,show decide _=true from LO,AMo ⟨by omega,by omega⟩,ANZ];have h2:Mf [a,b] (([a,b]).length) 0 []=some (a++b):=by
  have:=AU (f:=C3 [a,b] (([a,b]).length)) (λk=>(k,ml a b k)) (t:=a++b) 2 (λk hk=>?_) ?_
  ·exact this
  ·unfold C3 Gl;rw[fJ,Dy hk,AMo (Bl hk)]
   match k,hk with
   |0,_ =>
    rw[AMo (by simp[ml];omega)];rfl
   |1,_ =>
    rw[AMo (by simp[ml];omega)];rfl
  ·unfold C3 Gl;rfl
 rw[h2];rfl
theorem oD{a b:AOz}(h0:1<=a.length)(ha:a.length<=100000000)(hb:b.length<=100000000):F6 [a,b]=some (a++b):=by
 unfold F6;have fJ:([a,b]).length=2:=rfl;have h1:JW [a,b] (([a,b]).length) 0 0=some (((a.length+b.length:Nat):Int)):=by
  have:=AU (f:=Cp [a,b] (([a,b]).length)) (λk=>((me a.length b.length k),k)) (t:=(((a.length+b.length)))) 2 (λk hk=>?_) ?_
  ·exact this
  ·unfold Cp EM Gm;simp only[AL7];rw[fJ,Dy hk,AMo (Bl hk)]
   match k,hk with
   |0,_ =>
    simp;rw[show wI _=a.length from A1 (by simp[me]) (by omega),IV];rfl
   |1,_ =>
    simp;rw[show wI _=((a.length+b.length))from A1 (by simp[me]) (by omega),IV];rfl
  ·unfold Cp EM;rfl
 rw[h1,AL6,IV,show wI _=((a.length+b.length:Nat))from A1,show decide _=true from LO,AMo ⟨by omega,by omega⟩,ANZ];have h2:JX [a,b] (([a,b]).length) 0 []=some (a++b):=by
  have:=AU (f:=Cq [a,b] (([a,b]).length)) (λk=>(k,ml a b k)) (t:=a++b) 2 (λk hk=>?_) ?_
  ·exact this
  ·unfold Cq EN;rw[fJ,Dy hk,AMo (Bl hk)]
   match k,hk with
   |0,_ =>
    rw[AMo (by simp[ml];omega)];rfl
   |1,_ =>
    rw[AMo (by simp[ml];omega)];rfl
  ·unfold Cq EN;rfl
 rw[h2];rfl
abbrev NX:Type:=List AOT
def nk(v p:Nat):AOl:=((v:Int),(p:Int),())
def nx(o:NX)(v p:Nat):AOC:=Bn Aa APv o (nk v p)
def lnk(o:NX)(k x:AOl):NX:=Ch Aa APv (Ch Aa APv o k (Bn Aa APv o k)) k (Bn Aa APv o k++[x])
theorem XV{v p u q:Nat}:nk v p=nk u q↔v=u/\p=q:=by
 constructor
 ·intro h;injection h with h1 h2;injection h2 with h2 _;omega
 ·grind
theorem Agb(o:NX)(k x:AOl)(v p:Nat):nx (lnk o k x) v p=bif Bd Aa (nk v p) k then Bn Aa APv o k++[x]else nx o v p:=by
 unfold nx lnk;rw[df fp,df fp]
 grind
theorem WC{o:NX}{k x:AOl}{v p:Nat}{y:AOl}:y∈nx (lnk o k x) v p↔y∈nx o v p\/(nk v p=k/\y=x):=by
 rw[Agb];cases hk:Bd _ _ k with
 |true =>
  have e:=(fp _ _).1 hk;rw[AMm,ANr,AMx];simp only[e,true_and];unfold nx;rw[e]
 |false =>
  have e:nk v p≠k:=λe=>by rw[(fp _ _).2 e]at hk;cases hk
  simp[e]
theorem xi{o:NX}{k x:AOl}{v p N:Nat}(h:∀v p,(nx o v p).length<=N):(nx (lnk o k x) v p).length<=N+1:=by
 rw[Agb];cases hk:Bd _ _ k with
 |true =>
  have e:=(fp _ _).1 hk;have:=h v p;unfold nx at this
  grind
 |false=>grind
theorem AfP{o:NX}{a:Int}{b c:AOD}{g:Int}{i:AOE}{dd:APH APd}{j:AOO}{l:AOC}{v p u q:Nat}(h:(nx o v p).length<=1000000) :
    DY a b c g i dd j o l (v:Int) (p:Int) (u:Int) (q:Int)=some (lnk o (nk v p) (nk u q)):=by
 unfold DY;have h':(Bn _ (.sl _) o (v,p,())).length<=1000000:=h;rw[AMo (by grind),iz YD,YD];rfl
theorem AfQ{o:NX}{a:Int}{b c:AOD}{g:Int}{i:AOE}{dd:APH APd}{j:AOO}{l:AOC}{v p u q:Nat}(h:(nx o v p).length<=1000000) :
    DZ a b c g i dd j o l (u:Int) (q:Int) (v:Int) (p:Int)=some (lnk o (nk v p) (nk u q)):=by
 unfold DZ;have h':(Bn _ (.sl _) o (v,p,())).length<=1000000:=h;rw[AMo (by grind),iz YD,YD];rfl
def Q7(d:AOE)(h:Nat->Nat->Bool):Sg->Prop
 |.co _=>True
 |.va v l n=>Hit d h v l/\Hit d h v (l+n)
def SP(B1 B2:APH Bt)(h:Nat->Nat->Bool):Prop:=∀p,1<=p->p<B1.length->(SG B1 h p=true->iU (PH B2 p)=true->SG B2 h p=true)/\(SG B2 h p=true->iU (PH B1 p)=true->SG B1 h p=true)
def cz(d:AOE)(B1 B2:APH Bt)(h:Nat->Nat->Bool):Prop:=(∀s∈Ax B1++Ax B2,Q7 d h s)/\SP B1 B2 h
inductive Yg (d:AOE) (B1 B2:List Bt) (p:Nat) (s:SC) (o:NX):SC->NX->Prop
 |one (v a:Nat):fst B1 p=true->fst B2 p=false->PH B2 p=.va v a->v<d.length->1<=a->a<W d v->Yg d B1 B2 p s o (LN d s v a) o
 |eK (v a:Nat):fst B2 p=true->fst B1 p=false->PH B1 p=.va v a->v<d.length->1<=a->a<W d v->Yg d B1 B2 p s o (LN d s v a) o
 |both (v a u b:Nat):fst B1 p=false->fst B2 p=false->PH B1 p=.va v a->PH B2 p=.va u b->v<d.length->u<d.length->Yg d B1 B2 p s o s (lnk (lnk o (nk v a) (nk u b)) (nk u b) (nk v a))
 |none:(fst B1 p=true/\fst B2 p=true\/(∃b,PH B1 p=.co b/\fst B1 p=false)\/∃b,PH B2 p=.co b/\fst B2 p=false)->Yg d B1 B2 p s o s o
theorem AsP{d:AOE}(hd:Az d){B1 B2:APH Bt}(h1:Bg d B1)(h2:Bg d B2)(hl:B1.length=B2.length){p:Nat}(hp:p<B1.length){s:SC}{o:NX}(hs:s.2.length<=1000000)(hn:∀v p,(nx o v p).length<=900000){a:Int}{dd:APH APd} :
    ∃s' o',EV a (cx (Ax B1)) (cx (Ax B2)) (p:Int) d dd (M d 0 s.1) o s.2=some (d,M d 0 s'.1,o',s'.2)/\Yg d B1 B2 p s o s' o':=by
 unfold EV Iz PD;rw[fY,fY,AMo (Bl hp),AMo (Bl (by omega))];simp only[AL7];rcases YM h1 hp with ⟨f1,e1⟩|⟨f1,⟨⟨b1,c1⟩,e1⟩|⟨v,x,c1,hv,iR,vq,e1⟩⟩<;>rcases YM h2 (show p<B2.length by omega)with ⟨f2,e2⟩|⟨f2,⟨⟨b2,c2⟩,e2⟩|⟨u,y,c2,hu,hy1,hy2,e2⟩⟩<;>rw[e1,e2]
 ·exact⟨s,o,rfl,.none (.inl ⟨f1,f2⟩)⟩
 ·exact⟨s,o,rfl,.none (.inr (.inr ⟨b2,c2,f2⟩))⟩
 ·refine⟨LN d s u y,o,?_,.one u y f1 f2 c2 hu hy1 hy2⟩;rw[TY hd hu s hs];rfl
 ·exact⟨s,o,rfl,.none (.inr (.inl ⟨b1,c1,f1⟩))⟩
 ·exact⟨s,o,rfl,.none (.inr (.inl ⟨b1,c1,f1⟩))⟩
 ·exact⟨s,o,rfl,.none (.inr (.inl ⟨b1,c1,f1⟩))⟩
 ·refine⟨LN d s v x,o,?_,.eK v x f2 f1 c1 hv iR vq⟩;rw[TY hd hv s hs];rfl
 ·exact⟨s,o,rfl,.none (.inr (.inr ⟨b2,c2,f2⟩))⟩
 ·refine⟨s,lnk _ _ _,?_,.both v x u y f1 f2 c1 c2 hv hu⟩;show(DY a _ _ _ d dd _ o _ v x u y).bind (λo=>(DZ a _ _ _ d dd _ o _ v x u y).bind _)=_;rw[AfP (by grind),AL6,AfQ (by have:=xi (k:=nk v x) (x:=nk u y) (v:=u) (p:=y) hn;omega),AL6]
def NJ(d:AOE)(h:Nat->Nat->Bool)(o:NX):Prop:=∀v p u q:Nat,nk u q∈nx o v p->h v p=true->Hit d h u q
def NV(d:AOE)(o:NX):Prop:=∀v p x,x∈nx o v p->∃u q:Nat,x=nk u q/\u<d.length
def W0(B1 B2:APH Bt)(f:Nat->Nat->Bool)(o:NX)(p:Nat):Prop :=
 (fst B1 p=true->fst B2 p=false->∀v a,PH B2 p=.va v a->f v a=true)/\(fst B2 p=true->fst B1 p=false->∀v a,PH B1 p=.va v a->f v a=true) /\
 (fst B1 p=false->fst B2 p=false->∀v a u b,PH B1 p=.va v a->PH B2 p=.va u b->nk u b∈nx o v a/\nk v a∈nx o u b)
theorem W0.mono{B1 B2:APH Bt}{f f':Nat->Nat->Bool}{o o':NX}{p:Nat}(h:W0 B1 B2 f o p)(hf:Pv f f')(ho:∀v p x,x∈nx o v p->x∈nx o' v p):W0 B1 B2 f' o' p :=
 ⟨λa b v x c=>hf v x (h.1 a b v x c),λa b v x c=>hf v x (h.2.1 a b v x c),λa b v x u y c e=>⟨ho _ _ _ (h.2.2 a b v x u y c e).1,ho _ _ _ (h.2.2 a b v x u y c e).2⟩⟩
structure LI (d:AOE) (f0:Nat->Nat->Bool) (s:SC) (o:NX) (N:Nat):Prop where
 ci:CI d f0 s
 todo:ri s
 nv:NV d o
 nl:∀v p,(nx o v p).length<=N
theorem Akg{d:AOE}{B1 B2:APH Bt}{p:Nat}{s s':SC}{o o':NX}{f0:Nat->Nat->Bool}{N:Nat}(Z8:1<=p)(hp:p<B1.length)(h:LI d f0 s o N)(st:Yg d B1 B2 p s o s' o') :
    LI d f0 s' o' (N+2)/\Pv s.1 s'.1/\(∀v p x,x∈nx o v p->x∈nx o' v p)/\W0 B1 B2 s'.1 o' p/\∀h,SP B1 B2 h->Pv s.1 h->NJ d h o->Pv s'.1 h/\NJ d h o':=by
 have ct1:∀{h:Nat->Nat->Bool},fst B1 p=true->SG B1 h p=true:=λe=>by simp[SG,e]
 have ct2:∀{h:Nat->Nat->Bool},fst B2 p=true->SG B2 h p=true:=λe=>by simp[SG,e]
 have no1:∀{h:Nat->Nat->Bool} {v a:Nat},fst B1 p=false->PH B1 p=.va v a->SG B1 h p=h v a:=λe c=>by simp[SG,e,c,Aa1]
 have no2:∀{h:Nat->Nat->Bool} {v a:Nat},fst B2 p=false->PH B2 p=.va v a->SG B2 h p=h v a:=λe c=>by simp[SG,e,c,Aa1]
 have nl2:∀v p,(nx o v p).length<=N+2:=λv p=>by have:=h.nl v p;omega
 cases st with
 |one v a f1 f2 c2 hv yZ ha2 =>
  refine⟨⟨h.ci.cut hv,h.todo.cut,h.nv,nl2⟩,ZC s v a,λ_ _ _ hx=>hx,⟨λ_ _ u b c=>?_,λe _=>(by grind),λe=>(by grind)⟩,λg hg hu hj=>⟨aI hu λ_ _=>?_,hj⟩⟩
  ·rw[c2]at c;injection c with e1 e2;subst e1;subst e2;exact aH s v a yZ ha2
  ·have:=(hg p Z8 hp).1 (ct1 f1) (by rw[c2];rfl);rwa [no2 f2 c2]at this
 |eK v a f2 f1 c1 hv yZ ha2 =>
  refine⟨⟨h.ci.cut hv,h.todo.cut,h.nv,nl2⟩,ZC s v a,λ_ _ _ hx=>hx,⟨λe=>(by grind),λ_ _ u b c=>?_,λ_ e=>(by grind)⟩,λg hg hu hj=>⟨aI hu λ_ _=>?_,hj⟩⟩
  ·rw[c1]at c;injection c with e1 e2;subst e1;subst e2;exact aH s v a yZ ha2
  ·have:=(hg p Z8 hp).2 (ct2 f2) (by rw[c1];rfl);rwa [no1 f1 c1]at this
 |both v a u b f1 f2 c1 c2 hv hu =>
  refine⟨⟨h.ci,h.todo,λw q x hx=>?_,λw q=>?_⟩,λ_ _ h=>h,λw q x hx=>WC.2 (.inl (WC.2 (.inl hx))),⟨λe=>(by grind),λe=>(by grind),λ_ _ v' a' u' b' e1 e2=>?_⟩,λg hg PR hj=>⟨PR,λw q w' q' hm hh=>?_⟩⟩
  ·rcases WC.1 hx with hx |⟨_,rfl⟩
   ·rcases WC.1 hx with hx |⟨_,rfl⟩
    ·exact h.nv w q x hx
    ·grind
   ·grind
  ·exact xi λw q=>xi h.nl
  ·rw[c1]at e1;injection e1 with q1 q2;subst q1;subst q2;rw[c2]at e2;injection e2 with q1 q2;subst q1;subst q2;exact⟨WC.2 (.inl (WC.2 (.inr ⟨rfl,rfl⟩))),WC.2 (.inr ⟨rfl,rfl⟩)⟩
  ·have hs:=hg p Z8 hp;rw[no1 f1 c1,no2 f2 c2]at hs;rcases WC.1 hm with hm |⟨e1,e2⟩
   ·rcases WC.1 hm with hm |⟨e1,e2⟩
    ·exact hj w q w' q' hm hh
    ·obtain⟨rfl,rfl⟩:=XV.1 e1;obtain⟨rfl,rfl⟩:=XV.1 e2;exact λ_ _=>hs.1 hh (by rw[c2];rfl)
   ·obtain⟨rfl,rfl⟩:=XV.1 e1;obtain⟨rfl,rfl⟩:=XV.1 e2;exact λ_ _=>hs.2 hh (by rw[c1];rfl)
 |none hc =>
  refine⟨⟨h.ci,h.todo,h.nv,nl2⟩,λ_ _ h=>h,λ_ _ _ hx=>hx,⟨λe1 e2 v a c=>?_,λe1 e2 v a c=>?_,λe1 e2 v a u b c c'=>?_⟩,λg _ hu hj=>⟨hu,hj⟩⟩
  ·grind
  ·grind
  grind
noncomputable def Xk(d:AOE)(s:SC):Sg->SC
 |.co _=>s
 |.va v l n=>LN d (LN d s v l) v (l+n)
theorem iy{d:AOE}{f0:Nat->Nat->Bool}:∀(fs:APH Sg) (s:SC),(∀x∈fs,UN d x)->CI d f0 s->ri s->CI d f0 (fs.foldl (Xk d) s)/\ri (fs.foldl (Xk d) s)/\Pv s.1 (fs.foldl (Xk d) s).1/\(∀x∈fs,Q7 d (fs.foldl (Xk d) s).1 x) /\
    ∀h,(∀x∈fs,Q7 d h x)->Pv s.1 h->Pv (fs.foldl (Xk d) s).1 h
 |[],s,_,h1,h2=>⟨h1,h2,λ_ _ h=>h,λx hx=>(by grind),λ_ _ h=>h⟩
 |x::fs,s,FR,h1,h2=>by
  have key:CI d f0 (Xk d s x)/\ri (Xk d s x)/\Pv s.1 (Xk d s x).1/\Q7 d (Xk d s x).1 x/\∀h,Q7 d h x->Pv s.1 h->Pv (Xk d s x).1 h:=by
   cases x with
   |co b=>exact⟨h1,h2,λ_ _ h=>h,trivial,λ_ _ h=>h⟩
   |va v l n =>
    have hv:=(FR _ AMB).1;exact⟨(h1.cut hv).cut hv,h2.cut.cut,λu q h=>ZC _ v _ u q (ZC s v l u q h),⟨(aH s v l).mono (ZC _ v _),aH _ v _⟩,λh hh hs=>aI (aI hs hh.1) hh.2⟩
  obtain⟨k1,k2,k3,k4,k5⟩:=key;obtain⟨i1,i2,i3,i4,i5⟩:=iy fs _ (λy hy=>FR y (AMy _ hy)) k1 k2;refine⟨i1,i2,λu q h=>i3 u q (k3 u q h),λy hy=>?_,λh hh hs=>i5 h (λy hy=>hh y (AMy _ hy)) (k5 h (hh x AMB) hs)⟩;rcases List.mem_cons.1 hy with rfl |hy
  ·cases y with
   |co b=>trivial
   |va v l n=>exact⟨k4.1.mono i3,k4.2.mono i3⟩
  ·grind
theorem AfO{d:AOE}(hd:Az d){fs:APH Sg}{i:Nat}(hi:i<fs.length)(FR:UN d (fs.getD i (.co []))){s:SC}(h1:s.2.length<=900000){a o1:Int}{x y:AOF}{dd:APH APd}{o:NX} :
    F4 a x y o1 (i:Int) d dd (M d 0 s.1) o (fV fs) s.2=some (d,M d 0 (Xk d s (fs.getD i (.co []))).1,(Xk d s (fs.getD i (.co []))).2):=by
 unfold F4;simp only[AL7,fe hi];rw[Ce,AMo (Bl hi)];cases hs:fs.getD i _ with
 |co b=>rfl
 |va v l n =>
  rw[hs]at FR;obtain⟨hv,hn,hw⟩:=FR;obtain⟨e0,fj,fP⟩:=NK hd hv;have PR:(LN d s v l).2.length<=s.2.length+1:=by unfold LN;split<;>simp
  have e1:BG a (HI (.va v l n)).1 (HI (.va v l n)).2.1 d _ s.2=some _:=TY hd hv s (by omega);have e2:wI ((HI (.va v l n)).2.1+(HI (.va v l n)).2.2.1)=((l+n:Nat)):=A1 (show l+(n:Int)=_ by omega) (by omega);have e3:BG a (HI (.va v l n)).1 _ d _ _=some (d,M d 0 _,(LN d (LN d s v l) v (l+n)).2):=TY hd hv _ (by omega);rw[e1,AL6,e2,e3];rfl
theorem Aj6{d:AOE}(hd:Az d){B1 B2:APH Bt}(h1:Bg d B1)(h2:Bg d B2)(hl:B1.length=B2.length){f0:Nat->Nat->Bool}{s:SC}{o:NX}{N:Nat}(hI:LI d f0 s o N)(hN:N<=800000){a:Int}{dd:APH APd} :
    ∃s' o',I0 a (fN B1) (fN B2) d dd (M d 0 s.1) o s.2=some (d,dd,M d 0 s'.1,o',s'.2)/\LI d f0 s' o' (N+8192)/\Pv s.1 s'.1/\(∀v p x,x∈nx o v p->x∈nx o' v p)/\(∀x∈Ax B1++Ax B2,Q7 d s'.1 x)/\(∀p,1<=p->p<B1.length->W0 B1 B2 s'.1 o' p) /\
     ∀h,cz d B1 B2 h->Pv s.1 h->NJ d h o->Pv s'.1 h/\NJ d h o':=by
 unfold I0;have zh:(fN B1).length<=4096/\(fN B2).length<=4096/\1<=(fN B1).length:=by
  unfold fN;rw[Ce,Ce];have a1:=CM (C1 B1);have a2:=CM (C1 B2);rw[Cd]at a1 a2;have:=h1.1;have:=h2.2.1;rcases AMu _ with h0 |h0
  ·have e:Ax B1=[]:=AMZ h0;have:=Cd B1;rw[e]at this;simp[Be]at this;omega
  ·omega
 rw[oE zh.2.2 (by omega) (by omega),AL6];have efs:fN B1++fN B2=fV _:=(Q9 _ _).symm;rw[efs];have s8:∀x∈Ax B1++Ax B2,UN d x:=λx hx=>by
  rcases List.mem_append.1 hx with hx |hx
  ·exact(X5 h1 hx).1
  ·exact(X5 h2 hx).1
 have hfl:(Ax B1++Ax B2).length<=8192:=by
  have:=zh.2.1;unfold fN at *;rw[Ce]at *;rw[AMa];omega
 have fJ:Nv a (fN B1) (fN B2) dd o (fV (Ax B1++Ax B2)) ((fV (Ax B1++Ax B2)).length) 0 d (M d 0 s.1) s.2=some (d,M d 0 ((Ax B1++Ax B2).foldl (Xk d) s).1,((Ax B1++Ax B2).foldl (Xk d) s).2):=by
  generalize Ax B1++Ax B2=fs at *;rw[Ce];have:=AU (f:=Db a (fN B1) (fN B2) dd o (fV fs) fs.length) (λk=>(k,d,M d 0 ((fs.take k).foldl (Xk d) s).1,((fs.take k).foldl (Xk d) s).2)) (t:=(d,M d 0 (fs.foldl (Xk d) s).1,(fs.foldl (Xk d) s).2)) fs.length (λk hk=>?_) ?_
  ·exact this
  ·unfold Db Hj;have hci:=(iy (fs.take k) s (λx hx=>s8 x (ANq hx)) hI.ci hI.todo).1;rw[Dy hk,AfO hd hk (s8 _ (AJ hk)) (by have:=hci.len;omega),Bj hk (by omega),AW  hk,ANW];rfl
  ·unfold Db Hj
   grind
 rw[fJ,AL6,Ag4 hd h1,AL6,Ag4 hd h2,AL6];obtain⟨i1,i2,i3,i4,i5⟩:=iy _ s s8 hI.ci hI.todo;generalize (Ax B1++Ax B2).foldl _ s=s1 at *;have sO:Ay (L4 a (cx (Ax B1)) (cx (Ax B2)) dd 1 d (M d 0 s1.1) o s1.2) λr=>∃s' o',r=(d,M d 0 s'.1,o',s'.2)/\LI d f0 s' o' (N+2*(B1.length-1))/\Pv s1.1 s'.1/\(∀v p x,x∈nx o v p->x∈nx o' v p)/\(∀p,1<=p->p<B1.length-1+1->W0 B1 B2 s'.1 o' p) /\
     ∀h,SP B1 B2 h->Pv s1.1 h->NJ d h o->Pv s'.1 h/\NJ d h o':=by
  have:=BR (f:=CZ a (cx (Ax B1)) (cx (Ax B2)) dd) (λk x=>(((k+1:Nat)),d,M d 0 x.1.1,x.2,x.1.2)) (B1.length-1)
   (λk x=>LI d f0 x.1 x.2 (N+2*k)/\Pv s1.1 x.1.1/\(∀v p y,y∈nx o v p->y∈nx x.2 v p)/\(∀p,1<=p->p<k+1->W0 B1 B2 x.1.1 x.2 p)/\∀h,SP B1 B2 h->Pv s1.1 h->NJ d h o->Pv x.1.1 h/\NJ d h x.2)
   (Q:=λr=>∃s' o',r=(d,M d 0 s'.1,o',s'.2)/\LI d f0 s' o' (N+2*(B1.length-1))/\Pv s1.1 s'.1/\(∀v p x,x∈nx o v p->x∈nx o' v p)/\(∀p,1<=p->p<B1.length-1+1->W0 B1 B2 s'.1 o' p)/\∀h,SP B1 B2 h->Pv s1.1 h->NJ d h o->Pv s'.1 h/\NJ d h o')
   (λk x hk hx=>?_) (λx hx=>?_) (s0:=(s1,o)) ⟨⟨i1,i2,hI.nv,λv p=>hI.nl v p⟩,λ_ _ h=>h,λ_ _ _ h=>h,λp h1 h2=>by omega,λh _ hu hj=>⟨hu,hj⟩⟩
  ·exact this
  ·obtain⟨j1,j2,j3,j4,j5⟩:=hx;have hb:=h1.2.1;unfold CZ Gg;obtain⟨s',o',e1,st⟩:=AsP hd h1 h2 hl (show k+1<B1.length by omega) (s:=x.1) (o:=x.2) (by have:=j1.ci.len;omega) (λv p=>by have:=j1.nl v p;omega);obtain⟨k1,k2,k3,k4,k5⟩:=Akg (by omega) (show k+1<B1.length by omega) j1 st;rw[fY,Dy (show k+1<B1.length by omega),e1,A1  (n:=k+1+1) (by omega) (by omega)];refine Ay.mk ⟨(s',o'),rfl,k1,λu q h=>k2 u q (j2 u q h),λv p y hy=>k3 v p y (j3 v p y hy),λp Z8 dS=>?_,λh hs hu hj=>?_⟩
   ·rcases AMh p _ with Bm |YC
    ·exact(j4 p Z8 Bm).mono k2 k3
    grind
   grind
  ·unfold CZ Gg;have:=h1.1;rw[fY,show B1.length-1+1=B1.length by omega,Fb];refine Ay.mk ⟨x.1,x.2,rfl,hx.1,hx.2.1,hx.2.2.1,?_,hx.2.2.2.2⟩
   grind
 obtain⟨r,hr,s',o',rfl,j1,j2,j3,j4,j5⟩:=sO;rw[hr];have hb:=h1.2.1;refine⟨s',o',rfl,⟨j1.ci,j1.todo,j1.nv,λv p=>by have:=j1.nl v p;omega⟩,λu q h=>j2 u q (i3 u q h),j3,λx hx=>?_,λp Z8 dS=>j4 p Z8 (by omega),λh hs hu hj=>j5 h hs.2 (i5 h hs.1 hu) hj⟩;cases x with
 |co b=>trivial
 |va v l n=>exact⟨(i4 _ hx).1.mono j2,(i4 _ hx).2.mono j2⟩
abbrev rf:Type:=AOF×AOF×Unit
abbrev AvY:rf:=([],[],())
noncomputable def Nn(d:AOE)(l:AOG)(i:Nat):rf:=((BK d (lS l i)).2,(BK d (lT l i)).2,())
theorem Vl{d:AOE}{l:AOG}(hd:Az d)(hl:∀x∈l,Ht x)(hp:CU d l):Ay (OZ d l) λr=>(r.1=true/\BD d l/\r.2=(List.range l.length).map (Nn d l))\/(r.1=false/\¬BD d l):=by
 unfold OZ;have hlen:=hp.1;rw[AMo ⟨rfl,by omega,by omega,by omega,by omega⟩];refine Ay.bind (P:=λt=>(∃x,t=.inl x/\¬BD d l)\/(t=.inr ((List.range l.length).map (Nn d l))/\BD d l)) ?_ λt ht=>?_
 ·have z0:∀n,CK (Nn d l) _ n 0=List.replicate n ([],[],()):=λn=>LU _ _ _;refine Bu (λm x=>∃k:Nat,k<=l.length/\m=l.length-k/\x=((k:Int),CK (Nn d l) (AvY) l.length k)/\∀i,i<k->gq d l i) (λm x hI=>?_) _ _ ⟨0,AMS _,rfl,by grind,λi hi=>by omega⟩;obtain⟨k,hk,rfl,rfl,h3⟩:=hI;unfold Og SU PD;rcases AMh k _ with h |h
  ·have hB:=hl _ (AJ (z:=Ty.zero _) h);have sN:=hp.2 k h;obtain⟨ws,hw⟩:=WO sN.2.2.1;obtain⟨ko,kH⟩:=WO (show 0<=DV d _ by rw[sN.2.2.2];exact sN.2.2.1);have e1:Gh d (l.getD k _).2.2.1=some (BK d (lS l k)):=T0 hd hB.1 hw;have e2:Gh d (l.getD k _).2.2.2.1=some (BK d (lT l k)):=T0 hd hB.2 kH;rw[Dy h,AMo (Bl h),AL7,e1,AL6,e2,AL6];cases hc:(!(BK d _).1||!(BK d _).1)with
   |true =>
    refine Ay.mk (.inl ⟨_,rfl,λh'=>?_⟩);have:=p9.2 (h' k h);rw[hc]at this;cases this
   |false =>
    rw[HG,AMo (Bl h),Bj h (by omega)];refine Ay.mk ⟨l.length-(k+1),by omega,k+1,h,rfl,?_,λi hi=>?_⟩
    ·rw[<-Pb];rfl
    ·rcases AMh i k with h' |h'
     ·grind
     ·rw[show i=k by omega];exact p9.1 hc
  ·have:k=l.length:=by omega
   subst this;rw[Fb];refine Ay.mk (.inr ⟨?_,h3⟩);congr 1;refine AMV λi hi=>?_;rw[AMo (List.mem_range.1 hi)]
 ·rcases ht with ⟨x,rfl,h⟩|⟨rfl,h⟩
  ·exact Ay.mk (.inr ⟨rfl,h⟩)
  ·exact Ay.mk (.inl ⟨rfl,h,rfl⟩)
def b1(d:AOE)(l:AOG)(i:Nat):APH Bt:=Nl d (lS l i)
def b2(d:AOE)(l:AOG)(i:Nat):APH Bt:=Nl d (lT l i)
theorem Qg{d:AOE}{l:AOG}(hd:Az d)(hl:∀x∈l,Ht x)(hp:CU d l)(hs:BD d l){i:Nat}(hi:i<l.length) :
    Bg d (b1 d l i)/\Bg d (b2 d l i)/\(b1 d l i).length=(b2 d l i).length/\Nn d l i=(fN (b1 d l i),fN (b2 d l i),())/\(BK d (lS l i))=(true,fN (b1 d l i))/\(BK d (lT l i))=(true,fN (b2 d l i)):=by
 have hB:=hl _ (AJ (z:=Ty.zero _) hi);obtain⟨h1,h2⟩:=hs i hi;have sN:=hp.2 i hi;obtain⟨ws,hw⟩:=WO sN.2.2.1;obtain⟨ko,kH⟩:=WO (show 0<=DV d _ by rw[sN.2.2.2];exact sN.2.2.1);obtain⟨a1,a2⟩:=iD hd hB.1 h1;obtain⟨c1,c2⟩:=iD hd hB.2 h2;have t1:=(eJ (t:=lS l i) hd hB.1 hw _ (AMc _) ((lS l i).length-1) (by have:=hw.1;omega)).2;have t2:=(eJ (t:=lT l i) hd hB.2 kH _ (AMc _) ((lT l i).length-1) (by have:=kH.1;omega)).2;have e:=sN.2.2.2;rw[Wj hw,Wj kH]at e;refine⟨a1.1,c1.1,?_,?_,Prod.ext h1 a2,Prod.ext h2 c2⟩
 ·have e1:((b1 d l i).length)=ws.getD _ 0:=t1;have e2:((b2 d l i).length)=ko.getD _ 0:=t2;omega
 ·unfold Nn;rw[show(BK d (lS l i)).2=fN (b1 d l i)from a2,show(BK d (lT l i)).2=fN (b2 d l i)from c2]
def B6(d:AOE)(l:AOG)(h:Nat->Nat->Bool):Prop:=∀i,i<l.length->cz d (b1 d l i) (b2 d l i) h
structure Y5 (d:AOE) (l:AOG) (c:AON) (f:Nat->Nat->Bool):Prop where
 le:Pv (C0 c) f
 Xg:∀v p,f v p=true->v<d.length/\1<=p/\p<W d v
 cl:B6 d l f
 min:∀h,B6 d l h->Pv (C0 c) h->Pv f h
theorem Y5.unique{d:AOE}{l:AOG}{c:AON}{f g:Nat->Nat->Bool}(hf:Y5 d l c f)(hg:Y5 d l c g):f=g:=by
 funext v p
 rw[ANF];exact⟨hf.min g hg.cl hg.le v p,hg.min f hf.cl hf.le v p⟩
theorem Aks{d:AOE}{B1 B2:APH Bt}(h1:Bg d B1)(h2:Bg d B2)(hl:B1.length=B2.length){f:Nat->Nat->Bool}{o:NX}(he:∀x∈Ax B1++Ax B2,Q7 d f x)(hp:∀p,1<=p->p<B1.length->W0 B1 B2 f o p)
    (hc:∀v p u q:Nat,f v p=true->nk u q∈nx o v p->Hit d f u q):cz d B1 B2 f:=by
 have vac:∀{b:Bt},iU b=true->∃v a,b=.va v a:=λ{b} h=>by
  cases b with
  |co _=>cases h
  |va v a=>grind
 refine⟨he,λp Z8 dS=>⟨λdO hva=>?_,λdO hva=>?_⟩⟩
 ·obtain⟨u,b,e2⟩:=vac hva;unfold SG;cases f2:fst B2 p with
  |true=>rfl
  |false =>
   rw[e2];have hb:1<=b/\b<W d u:=by
    rcases YM h2 (show p<B2.length by omega)with ⟨q,_⟩|⟨_,⟨⟨_,q⟩,_⟩|⟨v,a,q,_,q1,q2,_⟩⟩
    ·grind
    ·grind
    grind
   cases f1:fst B1 p with
   |true=>exact(hp p Z8 dS).1 f1 f2 u b e2
   |false =>
    unfold SG at dO;rw[f1]at dO;cases e1:PH B1 p with
    |co c=>rw[e1]at dO;cases dO
    |va v a =>
     rw[e1]at dO;exact hc v a u b dO ((hp p Z8 dS).2.2 f1 f2 v a u b e1 e2).1 hb.1 hb.2
 ·obtain⟨u,b,e1⟩:=vac hva;unfold SG;cases f1:fst B1 p with
  |true=>rfl
  |false =>
   rw[e1];have hb:1<=b/\b<W d u:=by
    rcases YM h1 dS with ⟨q,_⟩|⟨_,⟨⟨_,q⟩,_⟩|⟨v,a,q,_,q1,q2,_⟩⟩
    ·grind
    ·grind
    grind
   cases f2:fst B2 p with
   |true=>exact(hp p Z8 dS).2.1 f2 f1 u b e1
   |false =>
    unfold SG at dO;rw[f2]at dO;cases e2:PH B2 p with
    |co c=>rw[e2]at dO;cases dO
    |va v a =>
     rw[e2]at dO;exact hc v a u b dO ((hp p Z8 dS).2.2 f1 f2 u b v a e1 e2).2 hb.1 hb.2
noncomputable def Tt(d:AOE)(s:SC)(w:AOC):SC:=w.foldl (λs x=>LN d s x.1.toNat x.2.1.toNat) s
theorem AaH{d:AOE}{s:SC}{v p:Nat}(hv:v<d.length):(∀x∈s.2,x∈(LN d s v p).2)/\(∀u q,(LN d s v p).1 u q=true->s.1 u q=true\/nk u q∈(LN d s v p).2)/\(LN d s v p).2.length+free d (LN d s v p).1<=s.2.length+free d s.1:=by
 unfold LN;split
 ·rename_i hc;refine⟨λx hx=>AME _ hx,λu q h=>?_,?_⟩
  ·rcases EW.1 h with h |⟨rfl,rfl⟩
   ·grind
   ·exact .inr (AMF _ (List.mem_singleton.2 rfl))
  ·have:=cP hv hc.2.1 hc.2.2
   grind
 grind
theorem ik{d:AOE}{f0:Nat->Nat->Bool}:∀(w:AOC) (s:SC),(∀x∈w,∃u q:Nat,x=nk u q/\u<d.length)->CI d f0 s->CI d f0 (Tt d s w)/\Pv s.1 (Tt d s w).1/\(∀u q,nk u q∈w->Hit d (Tt d s w).1 u q) /\
    (∀x∈s.2,x∈(Tt d s w).2)/\(∀u q,(Tt d s w).1 u q=true->s.1 u q=true\/nk u q∈(Tt d s w).2)/\(Tt d s w).2.length+free d (Tt d s w).1<=s.2.length+free d s.1/\∀h,(∀u q,nk u q∈w->Hit d h u q)->Pv s.1 h->Pv (Tt d s w).1 h
 |[],s,_,h1=>⟨h1,λ_ _ h=>h,λ_ _ h=>(by grind),λ_ h=>h,λ_ _ h=>.inl h,AMc _,λ_ _ h=>h⟩
 |x::w,s,hv,h1=>by
  obtain⟨u,q,rfl,hu⟩:=hv x AMB;have e:Tt d s (nk u q::w)=Tt d (LN d s u q) w:=by simp[Tt,nk]
  obtain⟨k1,k2,k3⟩:=AaH (s:=s) (p:=q) hu;obtain⟨i1,i2,i3,i4,i5,i6,i7⟩:=ik w (LN d s u q) (λy hy=>hv y (AMy _ hy)) (h1.cut hu);refine⟨i1,λa b h=>i2 a b (ZC s u q a b h),λa b h=>?_,λy hy=>i4 y (k1 y hy),λa b h=>?_,AMA i6 k3,λh hh hs=>i7 h (λa b hm=>hh a b (AMy _ hm)) (aI hs (hh u q AMB))⟩
  ·rcases List.mem_cons.1 h with h |h
   ·obtain⟨rfl,rfl⟩:=XV.1 h;exact(aH s a b).mono i2
   ·grind
  grind
theorem AaD{d:AOE}(hd:Az d){f0:Nat->Nat->Bool}{w:AOC}{s:SC}(hv:∀x∈w,∃u q:Nat,x=nk u q/\u<d.length)(hw:w.length<=1000000)(hs:CI d f0 s){a:Int}{o:NX} :
    HS a o w (w.length:Int) 0 d (M d 0 s.1) s.2=some (d,M d 0 (Tt d s w).1,(Tt d s w).2):=by
 have:=AU (f:=CW a o w w.length) (λk=>(k,d,M d 0 (Tt d s (w.take k)).1,(Tt d s (w.take k)).2)) (t:=(d,M d 0 (Tt d s w).1,(Tt d s w).2)) w.length (λk hk=>?_) ?_
 ·exact this
 ·unfold CW Gb;obtain⟨u,q,e,hu⟩:=hv _ (AJ (z:=Ty.zero _) hk);have hci:=(ik (w.take k) s (λx hx=>hv x (ANq hx)) hs).1;simp only[AL7,e];have e1:BG a (nk u q).1 (nk u q).2.1 d _ _=some (d,M d 0 _,(LN d (Tt d s (w.take k)) u q).2):=TY hd hu _ (by have:=hci.len;omega);have e2:Tt d s (w.take (k+1))=LN d (Tt d s (w.take k)) u q:=by
   rw[AW  hk,e];simp[Tt,nk]
  rw[Dy hk,AMm,AMo (Bl hk),e1,AL6,Bj hk (by omega),e2]
 ·unfold CW Gb
  grind
theorem AaE{d:AOE}(hd:Az d){f0:Nat->Nat->Bool}{s1:SC}{o:NX}{N:Nat}(hI:LI d f0 s1 o N)(hN:N<=1000000){a:Int} :
    Ay (LZ a o d (M d 0 s1.1) s1.2) λr=>∃s:SC,r=(d,M d 0 s.1,s.2)/\CI d f0 s/\Pv s1.1 s.1/\(∀v p u q:Nat,s.1 v p=true->nk u q∈nx o v p->Hit d s.1 u q)/\∀h,Pv s1.1 h->NJ d h o->Pv s.1 h:=by
 refine Bu (λm (x:AOE×AOO×AOC)=>∃s:SC,x=(d,M d 0 s.1,s.2)/\m=s.2.length+free d s.1/\CI d f0 s/\Pv s1.1 s.1/\(∀v p,s.1 v p=true->nk v p∈s.2\/∀u q,nk u q∈nx o v p->Hit d s.1 u q)/\∀h,Pv s1.1 h->NJ d h o->Pv s.1 h) (λm x hx=>?_) _ _ ⟨s1,rfl,rfl,hI.ci,λ_ _ h=>h,λv p h=>.inl (hI.todo v p h),λh hh _=>hh⟩;obtain⟨s,rfl,rfl,hci,PR,HQ,Aa2⟩:=hx;unfold Gc JA;simp only;rcases AMu s.2.length with h0 |h0
 ·have e0:s.2=[]:=AMZ h0;rw[show decide ((s.2.length:Int)>0)=false from IV];refine Ay.mk ⟨s,rfl,hci,PR,λv p u q h hm=>?_,Aa2⟩
  grind
 ·have hlen:=hci.len;obtain⟨v,p,ev,hvp⟩:=hci.Bq _ (AJ (z :=Aa.zero) (show s.2.length-1<s.2.length by omega));have ev:s.2.getD (s.2.length-1) Aa.zero=nk v p:=ev;rw[show decide ((s.2.length:Int)>0)=true from LO,A1 (x:=(s.2.length:Int)-1) (n:=s.2.length-1),AMo (Bl (by omega)),AMo ⟨by omega,by omega⟩];simp only[AL7,ev];have pq:s.2=s.2.take (s.2.length-1)++[nk v p]:=by
   have:=AW (z :=Aa.zero) (l:=s.2) (k:=s.2.length-1) (by omega)
   grind
  have AB2:CI d f0 (s.1,s.2.take (s.2.length-1)):=⟨hci.le,hci.Xg,λx hx=>hci.Bq x (ANq hx),by grind⟩;obtain⟨i1,i2,i3,i4,i5,i6,i7⟩:=ik (nx o v p) (s.1,s.2.take (s.2.length-1)) (λx hx=>hI.nv v p x hx) AB2;have e1:=AaD hd (s:=(s.1,s.2.take (s.2.length-1))) (w:=nx o v p) (a:=a) (o:=o) (λx hx=>hI.nv v p x hx) (by have:=hI.nl v p;omega) AB2;have e1':HS a o (Bn Aa APv o (nk v p)) ((Bn Aa APv o (nk v p)).length:Int) 0 d (M d 0 s.1) (s.2.take (s.2.length-1))=_:=e1;rw[e1'];simp only[AMr]at i6;refine Ay.mk ⟨(Tt d (s.1,s.2.take (s.2.length-1)) (nx o v p)).2.length+free d (Tt d (s.1,s.2.take (s.2.length-1)) (nx o v p)).1,by omega,_,rfl,rfl,i1,λu q h=>i2 u q (PR u q h),λu q h=>?_,λh h1 h2=>?_⟩
  ·rcases i5 u q h with h |h
   ·rcases HQ u q h with h |h
    ·rw[pq]at h;rcases List.mem_append.1 h with h |h
     ·grind
     ·obtain⟨rfl,rfl⟩:=XV.1 (List.mem_singleton.1 h);exact .inr λa b hm=>i3 a b hm
    ·exact .inr λa b hm=>(h a b hm).mono i2
   ·grind
  ·exact i7 h (λu q hm=>h2 v p u q hm (Aa2 h h1 h2 v p hvp)) (Aa2 h h1 h2)
theorem pE{d:AOE}{l:AOG}(hd:Az d)(hl:∀x∈l,Ht x):Ay (FT d l) λr=>r=true↔CU d l:=by
 have hdd:=hd.1;unfold FT;by_cases hlen:l.length<=60
 ·rw[AL9 (by omega:¬(l.length:Int)>60)];refine Ay.bind (P:=λt=>(t=.inl ()/\¬∀i,i<l.length->VH d l i)\/(t=.inr ()/\∀i,i<l.length->VH d l i)) ?_ λt ht=>?_
  ·have:=BR (f:=BV d l (l.length:Int)) (λj (_:Unit)=>((if j=0 then 0 else Z9 l (j-1):Int),(j:Int))) l.length (λj _=>∀k,k<j->VH d l k) (Q:=λt=>(t=.inl ()/\¬∀i,i<l.length->VH d l i)\/(t=.inr ()/\∀i,i<l.length->VH d l i)) (λj _ hj hJ=>?_) (λ_ hJ=>?_) (s0:=()) (λi h=>by omega)
   ·exact this
   ·unfold BV Du;have hB:=hl _ (AJ (z :=Af.zero) hj);have e1:EK d (l.getD j Af.zero).2.2.1=some (DV d (lS l j)):=LW hB.1 (by omega);have e2:EK d (l.getD j Af.zero).2.2.2.1=some (DV d (lT l j)):=LW hB.2 (by omega);have e3:(l.getD j Af.zero).1=Z9 l j:=rfl;rw[Dy hj,AMo (Bl hj),AL7,e1,AL6];obtain⟨c,hc⟩:∃c:Int,c=if j=0 then 0 else Z9 l (j-1):=⟨_,rfl⟩;have hcb:0<=c/\c<=1000000/\(0<j->c=Z9 l (j-1))/\(j=0->c=0):=by
     by_cases h0:j=0
     ·omega
     ·rw[AMp h0]at hc;have:=(hJ (j-1) (by omega)).1;omega
    rw[<-hc];obtain⟨b,ki,o7⟩:∃b,Dm d c (DV d (lS l j)) l (l.length:Int) (j:Int) (l.getD j Af.zero)=some b/\(b=false↔VH d l j):=by
     unfold Dm VH;rw[e3,KH,BX (x:=c+1),e2];by_cases h1:c+1<=Z9 l j/\Z9 l j<=1000000
     ·rw[AMb h1];by_cases h2:DV d (lS l j)<0
      ·rw[AMb h2];exact⟨true,rfl,λh=>by grind,λh=>by omega⟩
      ·rw[AL9 h2];refine⟨_,rfl,?_⟩
       grind
     ·rw[AL9 h1];refine⟨true,rfl,λh=>by grind,λh=>?_⟩;omega
    rw[ki,AL6];cases b with
    |true=>exact Ay.mk (.inl ⟨rfl,λh=>by grind⟩)
    |false =>
     rw[Bj hj (by omega)];refine Ay.mk ⟨(),rfl,λk hk=>?_⟩
     grind
   ·unfold BV Du;rw[Fb];exact Ay.mk (.inr ⟨rfl,hJ⟩)
  ·rcases ht with ⟨rfl,h⟩|⟨rfl,h⟩
   ·exact Ay.mk ⟨λh=>by grind,λh'=>absurd h'.2 h⟩
   ·exact Ay.mk ⟨λ_=>⟨hlen,h⟩,λ_=>rfl⟩
 ·rw[AMb (by omega:(l.length:Int)>60)];exact Ay.mk ⟨λh=>by grind,λh=>absurd h.1 hlen⟩
theorem pB{d:AOE}{l:AOG}{c:AON}(hc:Xi c)(hl:∀x∈l,Ht x):Ay (IZ d l (c,())) λr =>
    (r=(false,[])/\¬(Az d/\CS d c/\CU d l/\BD d l))\/(Az d/\CS d c/\CU d l/\BD d l/\∃f,r=(true,Ai d f)/\Y5 d l c f):=by
 unfold IZ K2;obtain⟨r1,e1,q1⟩:=tm (d:=d) hc;rw[e1,AL6];cases r1 with
 |false=>exact Ay.mk (.inl ⟨rfl,λh=>by have:=q1.2 ⟨h.1,h.2.1⟩;cases this⟩)
 |true =>
  obtain⟨hd,VD⟩:=q1.1 rfl;obtain⟨r2,e2,q2⟩:=pE (d:=d) hd hl;simp only[AMP,AMl,e2,AL6];cases r2 with
  |false=>exact Ay.mk (.inl ⟨rfl,λh=>by have:=q2.2 h.2.2.1;cases this⟩)
  |true =>
   have Hw:=q2.1 rfl;simp only[AMP,AMl];refine Ay.bind (Vl hd hl Hw) λv hv=>?_;rcases hv with ⟨f1,hs,f2⟩|⟨f1,hs⟩
   ·rw[f1,f2];simp only[AMP,AMl];rw[pT hd VD hc,AL6];simp only;have hln:=Hw.1;obtain⟨Q4,O7⟩:=Ag7 hd VD;have n0:∀v p,nx ([]:NX) v p=[]:=λv p=>rfl;have sO:Ay (K3 0 (((List.range l.length).map (Nn d l)).length:Int) 0 d ((List.range l.length).map (Nn d l)) (M d 0 (C0 c)) [] (g0 c d.length)) λr=>∃s o,r=(d,M d 0 s.1,o,s.2)/\LI d (C0 c) s o (8192*l.length)/\(∀i,i<l.length->(∀x∈Ax (b1 d l i)++Ax (b2 d l i),Q7 d s.1 x)/\∀p,1<=p->p<(b1 d l i).length->W0 (b1 d l i) (b2 d l i) s.1 o p)/\∀h,B6 d l h->Pv (C0 c) h->Pv s.1 h/\NJ d h o:=by
     unfold K3;have:=BR (f:=DX 0 (((List.range l.length).map (Nn d l)).length:Int)) (λk (x:SC×NX)=>((k:Int),d,(List.range l.length).map (Nn d l),M d 0 x.1.1,x.2,x.1.2)) l.length
      (λk x=>LI d (C0 c) x.1 x.2 (8192*k)/\(∀i,i<k->(∀y∈Ax (b1 d l i)++Ax (b2 d l i),Q7 d x.1.1 y)/\∀p,1<=p->p<(b1 d l i).length->W0 (b1 d l i) (b2 d l i) x.1.1 x.2 p)/\∀h,B6 d l h->Pv (C0 c) h->Pv x.1.1 h/\NJ d h x.2)
      (Q:=λr=>∃s o,r=(d,M d 0 s.1,o,s.2)/\LI d (C0 c) s o (8192*l.length)/\(∀i,i<l.length->(∀x∈Ax (b1 d l i)++Ax (b2 d l i),Q7 d s.1 x)/\∀p,1<=p->p<(b1 d l i).length->W0 (b1 d l i) (b2 d l i) s.1 o p)/\∀h,B6 d l h->Pv (C0 c) h->Pv s.1 h/\NJ d h o)
      (λk x hk hx=>?_) (λx hx=>?_) (s0:=((C0 c,g0 c d.length),[])) ⟨⟨Q4,O7,λv p x hx=>(by rw[n0]at hx;cases hx),λv p=>(by rw[n0];simp)⟩,λi hi=>by omega,λh _ hh=>⟨hh,λv p u q hm=>(by rw[n0]at hm;cases hm)⟩⟩
     ·exact this
     ·obtain⟨j1,j2,j3⟩:=hx;obtain⟨s1,s2,s3,s4,_,_⟩:=Qg hd hl Hw hs hk;have eg:((List.range l.length).map (Nn d l)).getD k (Ty.zero (.AE APu (.AE APu .unit)))=(fN (b1 d l k),fN (b2 d l k),()):=by
       rw[<-s4];exact Ik hk
      unfold DX Ix;simp only[AL7,eg];obtain⟨s',o',k1,k2,k3,k4,k5,k6,k7⟩:=Aj6 hd s1 s2 s3 j1 (by omega) (a:=0) (dd:=(List.range l.length).map (Nn d l));rw[AMi,AMN,Dy hk,AMm,AMo (Bl hk),k1,AL6,Bj hk (by omega)];refine Ay.mk ⟨(s',o'),rfl,by rw[show 8192*(k+1)=8192*k+8192 by omega];exact k2,λi hi=>?_,λh hh Hf=>?_⟩
      ·rcases AMh i k with Bm |YC
       ·obtain⟨a1,a2⟩:=j2 i Bm;refine⟨λy hy=>?_,λp p1 p2=>(a2 p p1 p2).mono k3 k4⟩;have:=a1 y hy;cases y with
        |co b=>trivial
        |va v l n=>exact⟨this.1.mono k3,this.2.mono k3⟩
       ·rw[show i=k by omega];exact⟨k5,k6⟩
      ·obtain⟨a1,a2⟩:=j3 h hh Hf;exact k7 h (hh k hk) a1 a2
     ·unfold DX Ix;simp only;rw[AMi,AMN,Fb,AMl];exact Ay.mk ⟨x.1,x.2,rfl,hx⟩
    obtain⟨r,hr,s,o,rfl,j1,j2,j3⟩:=sO;rw[hr,AL6];unfold K5;simp only;obtain⟨r,hr,s',rfl,k1,k2,k3,k4⟩:=AaE hd j1 (by omega) (a:=0);have cX:=hd.1;rw[hr,AL6];simp only;rw[AMo (show Ty.row APw=true/\(0:Int)<=(d.length:Int)/\(d.length:Int)<=(d.length:Int)/\((24:Nat):Int)*(d.length:Int)<=281474976710656/\(d.length:Int)<=9223372036854775807 from⟨rfl,by omega,by omega,by omega,by omega⟩),WY,AL7,
     wZ hd (λv=>by cases hv:s'.1 v 0 with |false=>rfl |true=>have:=(k1.Xg v 0 hv).2.1;omega),AL6,AL6]
    refine Ay.mk (.inr ⟨hd,VD,Hw,hs,s'.1,rfl,k1.le,k1.Xg,λi hi=>?_,λh h1 h2=>?_⟩)
    ·obtain⟨s1,s2,s3,_,_,_⟩:=Qg hd hl Hw hs hi;obtain⟨a1,a2⟩:=j2 i hi;refine Aks s1 s2 s3 (o:=o) (λy hy=>?_) (λp p1 p2=>(a2 p p1 p2).mono k2 λ_ _ _ h=>h) k3;have:=a1 y hy;cases y with
     |co b=>trivial
     |va v l n=>exact⟨this.1.mono k2,this.2.mono k2⟩
    ·obtain⟨a1,a2⟩:=j3 h h1 h2;exact k4 h a1 a2
   ·rw[f1];exact Ay.mk (.inl ⟨rfl,λh=>hs h.2.2.2⟩)
end Go.Proofs.X
