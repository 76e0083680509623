import Derived.KernelRfl
import Derived.Test.YtoinnpeenpmgkaaGreatK6
set_option linter.unusedVariables false
set_option linter.unusedSimpArgs false
namespace Go.Proofs.X
open Go Go.Va Go.Proofs.Tryz
set_option maxRecDepth 100000
noncomputable section
abbrev ABd:=eN [(186,AoR)] {dM:=[(0,.row [1,1] 199 ALQ true)]}
def Kw(a:Ku.V)(b:Int)(c:AL7 (ALk×Int)):AL8 (Int×Int×(AL7 (ALk×Int))×ALx):=
 bif a.1.1==(-1)then
 (En a.1.2.2.2.1 a.2.1 b).bind λd=>some (-1,d.1,c,d.2)
 else
 some (Bg Aa ALP c (a.1.1,wI (a.1.2.1+a.2.1),()),0,c,([]:ALx))
def Ayt:=B6 [.d Ku,.UJ,.d ALP] [⟨[.Ax [] Ku,.k (.mp 0),.Ax [] ALP],[.map .Ai Aa ALP],Int×Int×(AL7 (ALk×Int))×ALx,λp=>Kw p.1.1 p.1.2.2.1 p.2.1,λr=>(.pr (dI r.1) (.pr (.pr (dI r.2.1) (.pr (.Am 1) .u)) .u),[.map .Ai Aa ALP r.2.2.1 none,.row 199 .Ai ALQ r.2.2.2])⟩]
theorem AbN:Ap prog 168 Ayt:=As (fn:=f168) ⟨⟨ABd,pk ⟨pS,trivial⟩,λ_ R K=>by
 simp only[Kw,ALi];kernel_rfl⟩,trivial⟩
def AoN:Va.Callee:=rS
theorem pO:Ap prog 165 AoN:=AeH (fn:=f165) lay53 rfl (by kernel_rfl) (by kernel_rfl) (by kernel_rfl)
def AoO:Va.Callee:=sq
theorem pP:Ap prog 166 AoO:=Ae2 (fn:=f166) lay43 rfl (by kernel_rfl) (by kernel_rfl) (by kernel_rfl)
abbrev Ai3:=eN [(124,AoK),(163,Ayq),(164,Ayr),(165,AoN),(166,AoO),(167,Ays),(168,Ayt)] {A1:=[(6,{Bb:=[0,1,3,9,10,35,36,37],Sj:=[(9,false,ALT)],Ck:=[(10,false,.row [] 96 Aq true)]})],Bv:=[(6,[10])],tX:=[(20,AL3),(52,Ku),(58,Ku)]}
def AlJ a b c d e (z_:Int×(AL7 (ALk×Int))×ALJ):=sT 68 [(0,dD ALS a),(1,dD ALS b),(3,.mp 0),(9,dD ALT c),(10,.Am 1),(35,.Ax [2] ALT d),(36,dI e),(37,dI z_.1)] [.map .Ai Aa ALP z_.2.1 none,.row 96 .Ai Aq z_.2.2,.AK]
def Aj5(a b:ALD)(c d:ALx)(e:Int):=λ(g:((AL7 (ALk×Int))×ALJ))=>xE 0 68 [(10,.Am 1)] [.map .Ai Aa ALP g.1 none,.row 96 .Ai Aq g.2]
def Mh(a b:ALD)(c d:ALx)(e i:Int)(j:AL7 (ALk×Int))(k:ALJ):AL8 ((Int×(AL7 (ALk×Int))×ALJ)⊕((AL7 (ALk×Int))×ALJ)):=
 bif decide (i<e)then
 if 0<=i/\i<d.length then
 if 0<=(wI (i+1))/\(wI (i+1))<c.length then
 (OJ a (d.getD i.toNat ALP.zero)).bind λl=>(Kw l (wI ((c.getD (wI (i+1)).toNat ALP.zero)-(d.getD i.toNat ALP.zero))) j).bind λn=>(OJ b (d.getD i.toNat ALP.zero)).bind λo=>(Kw o (wI ((c.getD (wI (i+1)).toNat ALP.zero)-(d.getD i.toNat ALP.zero))) n.2.2.1).bind λq=>if(k.length+([((n.1,(n.2.1,n.2.2.2,()),()),(q.1,(q.2.1,q.2.2.2,()),()),wI ((c.getD (wI (i+1)).toNat ALP.zero)-(d.getD i.toNat ALP.zero)),())]:ALJ).length)*88<=140737488355328 then
 some (.inl (wI (i+1),q.2.2.1,k++([((n.1,(n.2.1,n.2.2.2,()),()),(q.1,(q.2.1,q.2.2.2,()),()),wI ((c.getD (wI (i+1)).toNat ALP.zero)-(d.getD i.toNat ALP.zero)),())]:ALJ)))
 else none
 else none
 else none
 else
 some (.inr (j,k))
def Gh a b c d e (z_:Int×(AL7 (ALk×Int))×ALJ):=Mh a b c d e z_.1 z_.2.1 z_.2.2
def PT a b c d e i j k:=fix (Gh a b c d e) (i,j,k)
theorem Ant a b c d e:A0 Ai3 1 6 (code f142) 506 (AlJ a b c d e) (Gh a b c d e) (Aj5 a b c d e):=by
 intro _;simp only[Gh,Mh,ALh];kernel_rfl
def RQ(a b:ALD)(s:ALr)(t:AL7 (ALk×Int)):AL8 ((AL7 (ALk×Int))×ALJ):=
 (Ky a s).bind λu=>(Ky b s).bind λv=>(FG ([u,v]:ALK)).bind λw=>if w.length<4611686018427387904 then
 (GG a).bind λx=>if((M0 (NQ w)).length+([x]:ALx).length)*8<=140737488355328 then
 if(0:Int)<=(0:Int)/\(0:Int)<=(wI ((((M0 (NQ w))++([x]:ALx)).length:Int)-1))/\(wI ((((M0 (NQ w))++([x]:ALx)).length:Int)-1))<=(((M0 (NQ w))++([x]:ALx)).length:Int)then
 (PT a b ((M0 (NQ w))++([x]:ALx)) ((((M0 (NQ w))++([x]:ALx)).take (wI ((((M0 (NQ w))++([x]:ALx)).length:Int)-1)).toNat).drop 0) (((((M0 (NQ w))++([x]:ALx)).take (wI ((((M0 (NQ w))++([x]:ALx)).length:Int)-1)).toNat).drop 0).length:Int) 0 t ([]:ALJ)).bind λg=>some (g.1,g.2)
 else none
 else none
 else none
def Ayb:=B6 [.d ALS,.d ALS,.d Aj,.UJ] [⟨[.Ax [] ALS,.Ax [] ALS,.Ax [] Aj,.k (.mp 0)],[.map .Ai Aa ALP],(AL7 (ALk×Int))×ALJ,λp=>RQ p.1.1 p.1.2.1 p.1.2.2.1 p.2.1,λr=>(.Am 1,[.map .Ai Aa ALP r.1 none,.row 96 .Ai Aq r.2])⟩]
theorem Abv:Ap prog 142 Ayb:=As (fn:=f142) ⟨⟨Ai3,pk ⟨pL,AbK,AbL,pO,pP,AbM,AbN,trivial⟩,λ_ R K=>by
 simp only[RQ,ALi];simp(disch:=refine id ?_;kernel_rfl) only[PT,Az (Ant _ _ _ _ _) (K:=AY Ai3 f142 1 R K)];kernel_rfl⟩,trivial⟩
abbrev ABe:=eN [(142,Ayb)] {Sj:=[(0,.sl Aq)]}
def HC(a b:Int)(c:ALC)(d:ALF)(e:AL7 (ALD×(ALD×Unit)))(g:ALK)(i:ALB)(j:AL7 (ALk×Int)):AL8 (ALJ×ALC×ALF×(AL7 (ALD×(ALD×Unit)))×ALK×ALB×(AL7 (ALk×Int))):=
 if 0<=b/\b<e.length then
 if 0<=b/\b<e.length then
 (RQ (e.getD b.toNat (Ty.zero (.Au ALS (.Au ALS .unit)))).1 (e.getD b.toNat (Ty.zero (.Au ALS (.Au ALS .unit)))).2.1 (g,()) j).bind λk=>some (k.2,c,d,e,g,i,k.1)
 else none
 else none
def AxM:=B6 [.UJ,.d ALP] [⟨[.ptr 0 [] 0,.Ax [] ALP],[.box (.pr (.Ax [] ALU) (.pr (.Ax [] ALY) (.pr (.k (.Am 1)) (.pr (.pr (.k (.Am 2)) (.k .u)) (.pr (.k (.Am 3)) (.pr (.k (.mp 4)) (.k .u))))))),.row 222 .Ai (.Au ALS (.Au ALS .unit)),.row 32 .Ai ALT,.row 151 .Ai Ab,.map .Ai Aa ALP],ALJ×ALC×ALF×(AL7 (ALD×(ALD×Unit)))×ALK×ALB×(AL7 (ALk×Int)),λp=>HC p.1.1 p.1.2.1 p.2.1.1 p.2.1.2.1 p.2.2.1 p.2.2.2.1 p.2.2.2.2.1 p.2.2.2.2.2.1,λr=>(dD (.sl Aq) r.1,[.box (.pr (dD ALU r.2.1) (.pr (dD ALY r.2.2.1) (.pr (.Am 1) (.pr (.pr (.Am 2) .u) (.pr (.Am 3) (.pr (.mp 4) .u)))))),.row 222 .Ai (.Au ALS (.Au ALS .unit)) r.2.2.2.1,.row 32 .Ai ALT r.2.2.2.2.1,.row 151 .Ai Ab r.2.2.2.2.2.1,.map .Ai Aa ALP r.2.2.2.2.2.2 none])⟩]
theorem Aa6:Ap prog 103 AxM:=As (fn:=f103) ⟨⟨ABe,pk ⟨Abv,trivial⟩,λ_ R K=>by
 simp only[HC,ALi];kernel_rfl⟩,trivial⟩
abbrev Ai4:=eN [] {A1:=[(4,[0,1,12,13])],Bv:=[(4,[4])]}
def AlK a b c (z_:Int):=sT 26 [(0,dD ALZ a),(1,dD ALZ b),(12,dI c),(13,dI z_)] []
def Aj6(a b:ALx)(c:Int):=Sum.elim (λ(d:Unit)=>xR 26 [(4,dB false)] []) (λ(e:Unit)=>xE 0 26 [] [])
def NP(a b:ALx)(c g:Int):AL8 (Int⊕(Unit⊕Unit)):=
 bif decide (g<c)then
 if 0<=g/\g<a.length then
 if 0<=g/\g<b.length then
 bif (a.getD g.toNat ALQ.zero) !=(b.getD g.toNat ALQ.zero)then
 some (.inr (.inl ()))
 else
 some (.inl (wI (g+1)))
 else none
 else none
 else
 some (.inr (.inr ()))
def Ez a b c (z_:Int):=NP a b c z_
def P8 a b c g:=fix (Ez a b c) g
theorem Anu a b c:A0 Ai4 0 4 (code f131) 58 (AlK a b c) (Ez a b c) (Aj6 a b c):=by
 intro _;simp only[Ez,NP,ALh];kernel_rfl
def II(a b:ALx):AL8 Bool:=
 bif (a.length:Int) !=(b.length:Int)then
 some false
 else
 (P8 a b (a.length:Int) 0).bind (Sum.elim (λd=>some false) (λe=>some true))
def Ax2:=B6 [.d ALZ,.d ALZ] [⟨[.Ax [] ALZ,.Ax [] ALZ],[],Bool,λp=>II p.1.1 p.1.2.1,λr=>(dB r,[])⟩]
theorem Abm:Ap prog 131 Ax2:=As (fn:=f131) ⟨⟨Ai4,pk trivial,λ_ R K=>by
 simp only[II,ALi];simp(disch:=refine id ?_;kernel_rfl) only[P8,Az (Anu _ _ _) (K:=AY Ai4 f131 0 R K)];kernel_rfl⟩,trivial⟩
abbrev ABf:=eN [(131,Ax2)] {}
def Lw(a b:ALq):AL8 Bool:=
 bif a.1==b.1 then
 (II a.2.1 b.2.1).bind λc=>some c
 else
 some false
def c81:=B6 [.d Ah,.d Ah] [⟨[.Ax [] Ah,.Ax [] Ah],[],Bool,λp=>Lw p.1.1 p.1.2.1,λr=>(dB r,[])⟩]
theorem Agv:Ap prog 81 c81:=As (fn:=f81) ⟨⟨ABf,pk ⟨Abm,trivial⟩,λ_ R K=>by
 simp only[Lw,ALi];kernel_rfl⟩,trivial⟩
abbrev WJ:=eN [(165,AoN),(166,AoO)] {A1:=[(3,[1,2,7,20,21,22]),(10,[1,2,7,10,11]),(14,[1,2,7,10,11,71,72,73]),(23,{Bb:=[1,10,17,18],Ck:=[(17,false,.row [] 2 ALP true)]})],Bv:=[(3,[1,2,7]),(10,[1,2,10]),(14,[1,2,7,10,11]),(23,[17])],BR:=[(20,[1,2,7,10,11,71,72,73])],X9:=[(5,{Bb:=[1,2,7,9,20,21,22],VI:=true}),(6,{Bb:=[1,2,7,20,21,22],VI:=true})],D2:=[(20,[1,2,7,10,11,71,72,73])],ZA:=[(5,[1,2,7,9,20,21,22]),(6,[1,2,7,9,20,21,22])],stl:=[32,42],AAk:=[60]}
def AlP a (b:(AL7 (Int×ALl))) (z_:Int×ALx):=sT 116 [(1,dI a),(10,.mp 0),(17,.Am 1),(18,dI z_.1)] [.map .Ai ALP Ab b none,.row 2 .Ai ALP z_.2]
def Akb(a:Int)(b:AL7 (Int×ALl)):=λ(c:ALx)=>xE 6 116 [(17,.Am 0)] [.row 2 .Ai ALP c]
def Sw(a:Int)(b:AL7 (Int×ALl))(d:Int)(e:ALx):AL8 ((Int×ALx)⊕ALx):=
 bif d !=a then
 if(e.length+([(Bg ALP Ab b d).2.2.1]:ALx).length)*8<=140737488355328 then
 some (.inl ((Bg ALP Ab b d).1,e++([(Bg ALP Ab b d).2.2.1]:ALx)))
 else none
 else
 some (.inr e)
def N9 a b (z_:Int×ALx):=Sw a b z_.1 z_.2
def UY a b d e:=fix (N9 a b) (d,e)
theorem AnC a b:A0 WJ 0 23 (code f145) 2042 (AlP a b) (N9 a b) (Akb a b):=by
 intro _;simp only[N9,Sw,ALh];kernel_rfl
def AlO a g (i:(AL7 (Int×ALB))) (z_:(AL7 (Int×ALl))×ALx):=sT 116 [(1,dI a),(2,dI g),(7,.mp 0),(10,.mp 1),(11,.Am 2)] [.map .Ai ALP ALX i none,.map .Ai ALP Ab z_.1 none,.tail 2 ALP z_.2]
def Aka a g (i:(AL7 (Int×ALB))):=λ(b:(AL7 (Int×ALl)))=>xE 2 116 [(1,dI a),(2,dI g),(10,.mp 0)] [.map .Ai ALP Ab b none]
def AlN a g (i:(AL7 (Int×ALB))) j k (z_:Int×(AL7 (Int×ALl))×ALx):=sT 116 [(1,dI a),(2,dI g),(7,.mp 0),(10,.mp 1),(11,.Am 2),(71,.Ax [0] ALX j),(72,dI k),(73,dI z_.1)] [.map .Ai ALP ALX i none,.map .Ai ALP Ab z_.2.1 none,.tail 2 ALP z_.2.2]
def Aj9 a g (i:(AL7 (Int×ALB))) (j:ALB) (k:Int):=λ(l:((AL7 (Int×ALl))×ALx))=>xE 4 116 [(1,dI a),(2,dI g),(7,.mp 0),(10,.mp 1),(11,.Am 2)] [.map .Ai ALP ALX i none,.map .Ai ALP Ab l.1 none,.tail 2 ALP l.2]
def AlM a g j k n (i:(AL7 (Int×ALB))) (o:(AL7 (Int×ALl))) q:=sT 116 [(1,dI a),(2,dI g),(7,.mp 0),(10,.mp 1),(11,.Am 2),(71,.Ax [0] ALX j),(72,dI k),(73,dI n)] [.map .Ai ALP ALX i none,.map .Ai ALP Ab o none,.tail 2 ALP q]
def Aj8 a g j k n (i:(AL7 (Int×ALB))) (o:(AL7 (Int×ALl))) (q:ALx):=λ(s:((AL7 (Int×ALl))×ALx))=>xN 116 [(1,dI a),(2,dI g),(7,.mp 0),(10,.mp 1),(11,.Am 2),(71,.Ax [0] ALX j),(72,dI k),(73,dI n)] [.map .Ai ALP ALX i none,.map .Ai ALP Ab s.1 none,.tail 2 ALP s.2]
def Rr(a g:Int)(j:ALB)(k n:Int)(i:AL7 (Int×ALB))(o:AL7 (Int×ALl))(q:ALx):AL8 ((AL7 (Int×ALl))×ALx):=
 if 0<=n/\n<j.length then
 bif !(SA ALP Ab o (j.getD n.toNat Ab.zero).2.1)then
 bif decide ((q.length+([(j.getD n.toNat Ab.zero).2.1]:ALx).length)*8<=140737488355328)then
 some (BV ALP Ab o (j.getD n.toNat Ab.zero).2.1 (j.getD n.toNat Ab.zero),q++([(j.getD n.toNat Ab.zero).2.1]:ALx))
 else
 none
 else
 some (o,q)
 else none
theorem Anz a g j k n i o q:AP WJ 0 20 (sb (cd f145 504) 220) 14 (AlM a g j k n i o q) (Rr a g j k n i o q) (Aj8 a g j k n i o q):=by
 unfold AP;simp only[Rr,ALh];kernel_rfl
def Ss(a g:Int)(i:AL7 (Int×ALB))(j:ALB)(k n:Int)(o:AL7 (Int×ALl))(q:ALx):AL8 ((Int×(AL7 (Int×ALl))×ALx)⊕((AL7 (Int×ALl))×ALx)):=
 bif decide (n<k)then
 (Rr a g j k n i o q).bind λs=>some (.inl (wI (n+1),s.1,s.2))
 else
 some (.inr (o,q))
def N7 a g i j k (z_:Int×(AL7 (Int×ALl))×ALx):=Ss a g i j k z_.1 z_.2.1 z_.2.2
def Rs a g i j k n o q:=fix (N7 a g i j k) (n,o,q)
theorem AnA a g i j k:A0 WJ 0 14 (cd f145 504) 110 (AlN a g i j k) (N7 a g i j k) (Aj9 a g i j k):=by
 intro _;simp only[N7,Ss,ALh];simp(disch:=refine id ?_;kernel_rfl) only[A8 (Anz ..) (K:=LP WJ 0 14)];kernel_rfl
def Sv(a g:Int)(i:AL7 (Int×ALB))(t:AL7 (Int×ALl))(u:ALx):AL8 (((AL7 (Int×ALl))×ALx)⊕(AL7 (Int×ALl))):=
 bif decide ((u.length:Int)>0)then
 bif (decide ((0:Int)<=0))&&(decide (0<(u.length:Int)))then
 bif (decide ((0:Int)<=1))&&(decide (1<=(u.length:Int)))then
 (Rs a g i (Bg ALP ALX i (u.getD 0 ALP.zero)) ((Bg ALP ALX i (u.getD 0 ALP.zero)).length:Int) 0 t (u.drop 1)).bind λl=>some (.inl (l.1,l.2))
 else
 none
 else
 none
 else
 some (.inr t)
def N8 a g i (z_:(AL7 (Int×ALl))×ALx):=Sv a g i z_.1 z_.2
def Rt a g i t u:=fix (N8 a g i) (t,u)
theorem AnB a g i:A0 WJ 0 10 (code f145) 252 (AlO a g i) (N8 a g i) (Aka a g i):=by
 intro _;simp only[N8,Sv,ALh];simp(disch:=refine id ?_;kernel_rfl) only[Rs,Az (AnA _ _ _ _ _) (K:=LP WJ 0 10)];kernel_rfl
def AlL a g v w (z_:Int×(AL7 (Int×ALB))):=sT 116 [(1,dI a),(2,dI g),(7,.mp 0),(20,dD ALX v),(21,dI w),(22,dI z_.1)] [.map .Ai ALP ALX z_.2 none]
def Aj7 a g (v:ALB) (w:Int):=λ(i:(AL7 (Int×ALB)))=>xE 0 116 [(1,dI a),(2,dI g),(7,.mp 0)] [.map .Ai ALP ALX i none]
def AaC a g v w x (y:(AL7 (Int×ALB))) a1:=sT 116 [(1,dI a),(2,dI g),(7,.mp 0),(9,.ptr 1 0 [] 0),(20,dD ALX v),(21,dI w),(22,dI x)] [.map .Ai ALP ALX y none,.box (dD Ab a1)]
def lL a g v w x (y:(AL7 (Int×ALB))) (a1:ALl):=λ(b1:(AL7 (Int×ALB)))=>sT 116 [(1,dI a),(2,dI g),(7,.mp 0),(20,dD ALX v),(21,dI w),(22,dI x)] [.map .Ai ALP ALX b1 none]
def Rp(a g:Int)(v:ALB)(w x:Int)(y:AL7 (Int×ALB))(a1:ALl):AL8 (AL7 (Int×ALB)):=
 if((Bg ALP ALX y a1.2.1).length+([(a1.2.1,a1.1,a1.2.2.1,())]:ALB).length)*24<=140737488355328 then
 bif A7 ALP a1.2.1 a1.2.1 then
 some (BV ALP ALX y a1.2.1 ((Bg ALP ALX y a1.2.1)++([(a1.2.1,a1.1,a1.2.2.1,())]:ALB)))
 else
 none
 else none
noncomputable def tu(a g:Int)(v:ALB)(w x:Int)(y:AL7 (Int×ALB))(a1:ALl):AL8 Unit:=if((Bg ALP ALX y a1.2.1).length+([(a1.2.1,a1.1,a1.2.2.1,())]:ALB).length)*24<=140737488355328 then bif A7 ALP a1.2.1 a1.2.1 then M4 (lL a g v w x y a1 (BV ALP ALX y a1.2.1 ((Bg ALP ALX y a1.2.1)++([(a1.2.1,a1.1,a1.2.2.1,())]:ALB)))) (lL a g v w x y a1 (BV ALP ALX y a1.2.1 ((Bg ALP ALX y a1.2.1)++([(a1.2.1,a1.1,a1.2.2.1,())]:ALB))))else none else none
theorem Anw(a g:Int)(v:ALB)(w x:Int)(y:AL7 (Int×ALB))(a1:ALl):Py WJ 0 6 (cd f145 116) 115 (AaC a g v w x y a1) (Rp a g v w x y a1) (lL a g v w x y a1):=by
 unfold Py;have h:sy WJ 0 6 (cd f145 116) (pt 115) (AaC a g v w x y a1) =
 if((Bg ALP ALX y a1.2.1).length+([(a1.2.1,a1.1,a1.2.2.1,())]:ALB).length)*24<=140737488355328 then bif A7 ALP a1.2.1 a1.2.1 then(((tu a g v w x y a1).bind λ_=>tu a g v w x y a1).bind λ_=>some (lL a g v w x y a1 (BV ALP ALX y a1.2.1 ((Bg ALP ALX y a1.2.1)++([(a1.2.1,a1.1,a1.2.2.1,())]:ALB)))))else none else none:=by kernel_rfl
 rw[h];unfold Rp;simp only[ALh,mS,mO];clear h;by_cases F6:((Bg ALP ALX y a1.2.1).length+([(a1.2.1,a1.1,a1.2.2.1,())]:ALB).length)*24<=140737488355328
 ·rw[AJg F6,AJg F6];cases M7:(A7 ALP a1.2.1 a1.2.1)with
  |true =>
   simp only[AJe];simp only[tu,AJe,AJg F6,M7,AJK,AIY,ER]
  |false =>
   simp only[AJd]
   all_goals first |rfl |simp
 ·simp only[AJK,AJh F6]
def AaB a g v w x (c1:(AL7 (Int×ALB))) d1:=sT 116 [(1,dI a),(2,dI g),(7,.mp 0),(9,.ptr 1 0 [] 0),(20,dD ALX v),(21,dI w),(22,dI x)] [.map .Ai ALP ALX c1 none,.box (dD Ab d1)]
def lK a g v w x (c1:(AL7 (Int×ALB))) d1:=λ(y:(AL7 (Int×ALB)))=>sT 116 [(1,dI a),(2,dI g),(7,.mp 0),(9,.ptr 1 0 [] 0),(20,dD ALX v),(21,dI w),(22,dI x)] [.map .Ai ALP ALX y none,.box (dD Ab d1)]
def Ro(a g:Int)(v:ALB)(w x:Int)(c1:AL7 (Int×ALB))(d1:ALl):AL8 (AL7 (Int×ALB)):=
 if((Bg ALP ALX c1 d1.1).length+([d1]:ALB).length)*24<=140737488355328 then
 bif A7 ALP d1.1 d1.1 then
 some (BV ALP ALX c1 d1.1 ((Bg ALP ALX c1 d1.1)++([d1]:ALB)))
 else
 none
 else none
noncomputable def tt(a g:Int)(v:ALB)(w x:Int)(c1:AL7 (Int×ALB))(d1:ALl):AL8 Unit:=if((Bg ALP ALX c1 d1.1).length+([d1]:ALB).length)*24<=140737488355328 then bif A7 ALP d1.1 d1.1 then M4 (lK a g v w x c1 d1 (BV ALP ALX c1 d1.1 ((Bg ALP ALX c1 d1.1)++([d1]:ALB)))) (lK a g v w x c1 d1 (BV ALP ALX c1 d1.1 ((Bg ALP ALX c1 d1.1)++([d1]:ALB))))else none else none
theorem Anv(a g:Int)(v:ALB)(w x:Int)(c1:AL7 (Int×ALB))(d1:ALl):Py WJ 0 5 (cd f145 116) 114 (AaB a g v w x c1 d1) (Ro a g v w x c1 d1) (lK a g v w x c1 d1):=by
 unfold Py;have h:sy WJ 0 5 (cd f145 116) (pt 114) (AaB a g v w x c1 d1) =
 if((Bg ALP ALX c1 d1.1).length+([d1]:ALB).length)*24<=140737488355328 then bif A7 ALP d1.1 d1.1 then(((tt a g v w x c1 d1).bind λ_=>tt a g v w x c1 d1).bind λ_=>some (lK a g v w x c1 d1 (BV ALP ALX c1 d1.1 ((Bg ALP ALX c1 d1.1)++([d1]:ALB)))))else none else none:=by kernel_rfl
 rw[h];unfold Ro;simp only[ALh,mS,mO];clear h;by_cases F6:((Bg ALP ALX c1 d1.1).length+([d1]:ALB).length)*24<=140737488355328
 ·rw[AJg F6,AJg F6];cases M7:(A7 ALP d1.1 d1.1)with
  |true =>
   simp only[AJe];simp only[tt,AJe,AJg F6,M7,AJK,AIY,ER]
  |false =>
   simp only[AJd]
   all_goals first |rfl |simp
 ·simp only[AJK,AJh F6]
def Sr(a g:Int)(v:ALB)(w x:Int)(c1:AL7 (Int×ALB)):AL8 ((Int×(AL7 (Int×ALB)))⊕(AL7 (Int×ALB))):=
 bif decide (x<w)then
 if 0<=x/\x<v.length then
 (Ro a g v w x c1 (v.getD x.toNat Ab.zero)).bind λy=>(Rp a g v w x y (v.getD x.toNat Ab.zero)).bind λb1=>some (.inl (wI (x+1),b1))
 else none
 else
 some (.inr c1)
def N6 a g v w (z_:Int×(AL7 (Int×ALB))):=Sr a g v w z_.1 z_.2
def Rq a g v w x c1:=fix (N6 a g v w) (x,c1)
theorem Anx a g v w:A0 WJ 0 3 (code f145) 58 (AlL a g v w) (N6 a g v w) (Aj7 a g v w):=by
 intro _;simp only[N6,Sr,ALh];simp(disch:=refine id ?_;kernel_rfl) only[Up (Anv ..) (K:=LP WJ 0 3),Up (Anw ..) (K:=LP WJ 0 3)];kernel_rfl
def TF(v:ALB)(a g:Int):AL8 ALx:=
 (Rq a g v (v.length:Int) 0 ([]:AL7 (Int×ALB))).bind λi=>(Rt a g i (BV ALP Ab ([]:AL7 (Int×ALl)) a (a,a,0,())) ([a]:ALx)).bind λb=>(UY a b g ([]:ALx)).bind λc=>if c.length<4611686018427387904 then
 some (M0 (NQ c))
 else none
def Ayd:=B6 [.d ALX,.d ALP,.d ALP] [⟨[.Ax [] ALX,.Ax [] ALP,.Ax [] ALP],[],ALx,λp=>TF p.1.1 p.1.2.1 p.1.2.2.1,λr=>(.Am 0,[.row 2 .Ai ALP r])⟩]
theorem Abx:Ap prog 145 Ayd:=As (fn:=f145) ⟨⟨WJ,pk ⟨pO,pP,trivial⟩,λ_ R K=>by
 simp only[TF,ALi];simp(disch:=refine id ?_;kernel_rfl) only[Rq,Az (Anx _ _ _ _) (K:=AY WJ f145 0 R K),Rt,Az (AnB _ _ _) (K:=AY WJ f145 0 R K),UY,Az (AnC _ _) (K:=AY WJ f145 0 R K)];kernel_rfl⟩,trivial⟩
abbrev ABg:=eN [] {UT:=[.mv 0 [0],.AK 1,.mv 0 [1],.AK 2]}
def Be(a:Int)(b:ALw)(c d:ALx)(e:AL7 (Int×ALq))(g:ALB):AL8 (Int×(AL7 (Int×ALq))×ALB×ALx×ALx):=
 bif decide (b.1>=0)then
 some (b.1,e,g,c,d)
 else
 if(c.length+([(c.length:Int)]:ALx).length)*8<=140737488355328 then
 if(d.length+([(c.length:Int)]:ALx).length)*8<=140737488355328 then
 some ((c.length:Int),BV ALP Ah e (c.length:Int) b.2.1,g,c++([(c.length:Int)]:ALx),d++([(c.length:Int)]:ALx))
 else none
 else none
def Ayc:=B6 [.UJ,.d Cu] [⟨[.ptr 0 [] 0,.Ax [] Cu],[.box (.pr (.k (.Am 1)) (.pr (.k (.Am 2)) (.pr (.k (.mp 3)) (.pr (.k (.Am 4)) (.k .u))))),.row 2 .Ai ALP,.row 2 .Ai ALP,.map (.sh []) ALP Ah,.row 164 .Ai Ab],Int×(AL7 (Int×ALq))×ALB×ALx×ALx,λp=>Be p.1.1 p.1.2.1 p.2.2.1 p.2.2.2.1 p.2.2.2.2.1 p.2.2.2.2.2.1,λr=>(dI r.1,[.box (.pr (.Am 5) (.pr (.Am 6) (.pr (.mp 3) (.pr (.Am 4) .u)))),.AK,.AK,.map (.sh []) ALP Ah r.2.1 none,.row 164 .Ai Ab r.2.2.1,.row 2 .Ai ALP r.2.2.2.1,.row 2 .Ai ALP r.2.2.2.2])⟩]
theorem Abw:Ap prog 143 Ayc:=As (fn:=f143) ⟨⟨ABg,pk trivial,λ_ R K=>by
 simp only[Be,ALi];kernel_rfl⟩,trivial⟩
abbrev Ai5:=eN [] {A1:=[(1,[0,1])],Bv:=[(1,[1])]}
def AlQ(a:Int) b (c:(AL7 (Int×ALq))) d (z_:Int×ALx):=sT 41 [(0,.ptr 0 a [] 0),(1,dI z_.1)] [.box (.pr (.Am 1) (.pr (.Am 2) (.pr (.mp 3) (.pr (.Am 4) .u)))),.row 2 .Ai ALP z_.2,.row 2 .Ai ALP b,.map (.sh []) ALP Ah c none,.row 164 .Ai Ab d]
def Akc(a:Int) b (c:(AL7 (Int×ALq))) d:=λ(e:(Int×ALx))=>xE 0 41 [(1,dI e.1)] [.box (.pr (.Am 1) (.pr (.Am 2) (.pr (.mp 3) (.pr (.Am 4) .u)))),.row 2 .Ai ALP e.2,.row 2 .Ai ALP b,.map (.sh []) ALP Ah c none,.row 164 .Ai Ab d]
def KG(a:Int)(b:ALx)(c:AL7 (Int×ALq))(d:ALB)(g:Int)(i:ALx):AL8 ((Int×ALx)⊕(Int×ALx)):=
 if 0<=g/\g<i.length then
 bif (i.getD g.toNat ALP.zero) !=g then
 if 0<=g/\g<i.length then
 if(0:Int)<=(i.getD g.toNat ALP.zero)/\(i.getD g.toNat ALP.zero)<(i.length:Int)then
 if 0<=g/\g<i.length then
 if 0<=g/\g<(i.set g.toNat (i.getD (i.getD g.toNat ALP.zero).toNat ALP.zero)).length then
 some (.inl ((i.set g.toNat (i.getD (i.getD g.toNat ALP.zero).toNat ALP.zero)).getD g.toNat ALP.zero,i.set g.toNat (i.getD (i.getD g.toNat ALP.zero).toNat ALP.zero)))
 else none
 else none
 else none
 else none
 else
 some (.inr (g,i))
 else none
def G1 a b c d (z_:Int×ALx):=KG a b c d z_.1 z_.2
def Nb a b c d g i:=fix (G1 a b c d) (g,i)
theorem AnD a b c d:A0 Ai5 5 1 (code f144) 12 (AlQ a b c d) (G1 a b c d) (Akc a b c d):=by
 intro _;simp only[G1,KG,ALh];kernel_rfl
def D8(a j:Int)(k b:ALx)(c:AL7 (Int×ALq))(d:ALB):AL8 (Int×ALx×ALx×(AL7 (Int×ALq))×ALB):=
 (Nb a b c d j k).bind λe=>some (e.1,e.2,b,c,d)
def AoL:=B6 [.UJ,.d ALP] [⟨[.ptr 0 [] 0,.Ax [] ALP],[.box (.pr (.k (.Am 1)) (.pr (.k (.Am 2)) (.pr (.k (.mp 3)) (.pr (.k (.Am 4)) (.k .u))))),.row 2 .Ai ALP,.row 2 .Ai ALP,.map (.sh []) ALP Ah,.row 164 .Ai Ab],Int×ALx×ALx×(AL7 (Int×ALq))×ALB,λp=>D8 p.1.1 p.1.2.1 p.2.2.1 p.2.2.2.1 p.2.2.2.2.1 p.2.2.2.2.2.1,λr=>(dI r.1,[.box (.pr (.Am 1) (.pr (.Am 2) (.pr (.mp 3) (.pr (.Am 4) .u)))),.row 2 .Ai ALP r.2.1,.row 2 .Ai ALP r.2.2.1,.map (.sh []) ALP Ah r.2.2.2.1 none,.row 164 .Ai Ab r.2.2.2.2])⟩]
theorem pM:Ap prog 144 AoL:=As (fn:=f144) ⟨⟨Ai5,pk trivial,λ_ R K=>by
 simp only[D8,ALi];simp(disch:=refine id ?_;kernel_rfl) only[Nb,Az (AnD _ _ _ _) (K:=AY Ai5 f144 5 R K)];kernel_rfl⟩,trivial⟩
abbrev cL:=eN [(81,c81),(143,Ayc),(144,AoL),(145,Ayd)] {BR:=[(8,[0,10,11,12,13,63]),(11,[0,6,7,10,11,12,13]),(14,[0,10,12,109]),(15,{Bb:=[]})],X9:=[(1,[0,2,8,9])],D2:=[(8,[0,10,11,12,13]),(11,[0,10,11,12,13]),(14,[0,10,12,13]),(15,[0,10,12,13])],ZA:=[(1,[0,2,4])],UT:=[.mv 0 [3],.AK 4],dM:=[(0,.row [] 2 ALP true)]}
def AlS(a:Int) b c d (e:(AL7 (Int×ALq))) g i j:=sT 117 [(0,.ptr 0 a [] 0),(10,dI c),(12,dI b),(13,dI d)] [.box (.pr (.Am 5) (.pr (.Am 6) (.pr (.mp 3) (.pr (.Am 7) .u)))),.AK,.AK,.map (.sh []) ALP Ah e none,.AK,.row 2 .Ai ALP g,.row 2 .Ai ALP i,.row 164 .Ai Ab j]
def Ake(a b c d:Int)(e:AL7 (Int×ALq)) g (i:ALx) j:=λ(k:ALx)=>xN 117 [] [.box (.pr (.Am 5) (.pr (.Am 6) (.pr (.mp 3) (.pr (.Am 7) .u)))),.AK,.AK,.map (.sh []) ALP Ah e none,.AK,.row 2 .Ai ALP g,.row 2 .Ai ALP k,.row 164 .Ai Ab j]
def AaF(a:Int) c b d (e:(AL7 (Int×ALq))) g i j:=sT 117 [(0,.ptr 0 a [] 0),(10,dI c),(12,dI b),(13,dI d)] [.box (.pr (.Am 5) (.pr (.Am 6) (.pr (.mp 3) (.pr (.Am 7) .u)))),.AK,.AK,.map (.sh []) ALP Ah e none,.AK,.row 2 .Ai ALP g,.row 2 .Ai ALP i,.row 164 .Ai Ab j]
def s8(a c b:Int)(e:AL7 (Int×ALq))(g i:ALx)(j:ALB)(m0:Bool):Ex×St:=xN 117 [(0,.ptr 0 a [] 0),(10,dI c),(12,dI b),(109,dB m0)] [.box (.pr (.Am 5) (.pr (.Am 6) (.pr (.mp 3) (.pr (.Am 7) .u)))),.AK,.AK,.map (.sh []) ALP Ah e none,.AK,.row 2 .Ai ALP g,.row 2 .Ai ALP i,.row 164 .Ai Ab j]
theorem AnH a c b d e g i j:Xe cL 5 14 (cd f104 2046) (pt 2) (AaF a c b d e g i j)=some (s8 a c b e g i j ((decide (b>=0))&&(decide (d>=0)))):=by
 refine .trans (b:=
 bif decide (b>=0)then
 some (s8 a c b e g i j (decide (d>=0)))
 else
 some (s8 a c b e g i j false)) (by kernel_rfl) ?_
 cases (decide (b>=0));rfl;rfl
def DF(a b c d:Int)(e:AL7 (Int×ALq))(g i:ALx)(j:ALB):AL8 ALx:=
 QF (AaF a c b d e g i j) (
 bif (decide (b>=0))&&(decide (d>=0))then
 if 0<=c/\c<i.length then
 some (i.set c.toNat b)
 else none
 else
 some i)
theorem AnI a b c d e g i j:AP cL 5 15 (code f104) 2046 (AlS a b c d e g i j) (DF a b c d e g i j) (Ake a b c d e g i j):=by
 unfold AP;simp only[DF,ALh];simp(disch:=refine id ?_;kernel_rfl) only[F8 (AnH ..) (K:=Ta cL 5 15)];kernel_rfl
def AlR(a:Int) l n o q (s:(AL7 (Int×ALq))) t u v:=sT 117 [(0,.ptr 0 a [] 0),(10,dI l),(11,dI n),(12,dI o),(13,dI q)] [.box (.pr (.Am 5) (.pr (.Am 6) (.pr (.mp 3) (.pr (.Am 7) .u)))),.AK,.AK,.map (.sh []) ALP Ah s none,.AK,.row 2 .Ai ALP t,.row 2 .Ai ALP u,.row 164 .Ai Ab v]
def Akd(a:Int) l n o q (s:(AL7 (Int×ALq))) t u v:=Sum.elim (λ(w:ALx)=>xR 117 [(0,.ptr 0 a [] 0),(6,.Am 5),(7,dB false),(10,dI l),(11,dI n),(12,dI o),(13,dI q)] [.box (.pr (.Am 6) (.pr (.Am 7) (.pr (.mp 3) (.pr (.Am 8) .u)))),.AK,.AK,.map (.sh []) ALP Ah s none,.AK,.row 2 .Ai ALP w,.row 2 .Ai ALP t,.row 2 .Ai ALP u,.row 164 .Ai Ab v]) (λ(b:Int)=>xN 117 [(0,.ptr 0 a [] 0),(10,dI l),(11,dI n),(12,dI b),(13,dI q)] [.box (.pr (.Am 5) (.pr (.Am 6) (.pr (.mp 3) (.pr (.Am 7) .u)))),.AK,.AK,.map (.sh []) ALP Ah s none,.AK,.row 2 .Ai ALP t,.row 2 .Ai ALP u,.row 164 .Ai Ab v])
def AaE(a:Int) l n o q (s:(AL7 (Int×ALq))) t u v:=sT 117 [(0,.ptr 0 a [] 0),(10,dI l),(11,dI n),(12,dI o),(13,dI q)] [.box (.pr (.Am 5) (.pr (.Am 6) (.pr (.mp 3) (.pr (.Am 7) .u)))),.AK,.AK,.map (.sh []) ALP Ah s none,.AK,.row 2 .Ai ALP t,.row 2 .Ai ALP u,.row 164 .Ai Ab v]
def s7(a l n o q:Int)(s:AL7 (Int×ALq))(t u:ALx)(v:ALB)(m0:Bool):Ex×St:=xN 117 [(0,.ptr 0 a [] 0),(10,dI l),(11,dI n),(12,dI o),(13,dI q),(63,dB m0)] [.box (.pr (.Am 5) (.pr (.Am 6) (.pr (.mp 3) (.pr (.Am 7) .u)))),.AK,.AK,.map (.sh []) ALP Ah s none,.AK,.row 2 .Ai ALP t,.row 2 .Ai ALP u,.row 164 .Ai Ab v]
theorem AnF a l n o q s t u v:Xe cL 5 8 (cd f104 254) (pt 2) (AaE a l n o q s t u v)=some (s7 a l n o q s t u v ((decide (o>=0))&&(decide (q>=0)))):=by
 refine .trans (b:=
 bif decide (o>=0)then
 some (s7 a l n o q s t u v (decide (q>=0)))
 else
 some (s7 a l n o q s t u v false)) (by kernel_rfl) ?_
 cases (decide (o>=0));rfl;rfl
def Ix(a l n o q:Int)(s:AL7 (Int×ALq))(t u:ALx)(v:ALB):AL8 (ALx⊕Int):=
 QF (AaE a l n o q s t u v) (
 bif (decide (o>=0))&&(decide (q>=0))then
 (Lw (Bg ALP Ah s o) (Bg ALP Ah s q)).bind λx=>bif !x then
 (TF v o q).bind λy=>some (.inl y)
 else
 some (.inr (if q<o then q else o))
 else
 some (.inr o))
theorem AnG a l n o q s t u v:AP cL 5 11 (code f104) 254 (AlR a l n o q s t u v) (Ix a l n o q s t u v) (Akd a l n o q s t u v):=by
 unfold AP;simp only[Ix,ALh];simp(disch:=refine id ?_;kernel_rfl) only[F8 (AnF ..) (K:=Ta cL 5 11)];kernel_rfl
def AaD(a:Int) a1 b1 c1 (d1:(AL7 (Int×ALq))) e1 g1:=sT 117 [(0,.ptr 0 a [] 0),(2,dI a1),(4,.ptr 5 0 [] 0)] [.box (.pr (.Am 1) (.pr (.Am 2) (.pr (.mp 3) (.pr (.Am 4) .u)))),.row 2 .Ai ALP b1,.row 2 .Ai ALP c1,.map (.sh []) ALP Ah d1 none,.row 164 .Ai Ab e1,.box (dD Aq g1)]
def WM(a:Int) a1 (b1:ALx) (c1:ALx) (d1:(AL7 (Int×ALq))) (e1:ALB) (g1:ALu):=λ(i1:(Int×Int×(AL7 (Int×ALq))×ALB×ALx×ALx))=>sT 117 [(0,.ptr 0 a [] 0),(2,dI a1),(8,dI i1.1),(9,dI i1.2.1)] [.box (.pr (.Am 5) (.pr (.Am 6) (.pr (.mp 3) (.pr (.Am 4) .u)))),.AK,.AK,.map (.sh []) ALP Ah i1.2.2.1 none,.row 164 .Ai Ab i1.2.2.2.1,.row 2 .Ai ALP i1.2.2.2.2.1,.row 2 .Ai ALP i1.2.2.2.2.2]
def Iw(a a1:Int)(b1 c1:ALx)(d1:AL7 (Int×ALq))(e1:ALB)(g1:ALu):AL8 (Int×Int×(AL7 (Int×ALq))×ALB×ALx×ALx):=
 (Be a g1.1 b1 c1 d1 e1).bind λj1=>(Be a g1.2.1 j1.2.2.2.1 j1.2.2.2.2 j1.2.1 j1.2.2.1).bind λk1=>some (j1.1,k1.1,k1.2.1,k1.2.2.1,k1.2.2.2.1,k1.2.2.2.2)
theorem AnE(a a1:Int)(b1 c1:ALx)(d1:AL7 (Int×ALq))(e1:ALB)(g1:ALu):Py cL 5 1 (code f104) 6 (AaD a a1 b1 c1 d1 e1 g1) (Iw a a1 b1 c1 d1 e1 g1) (WM a a1 b1 c1 d1 e1 g1):=by
 unfold Py;have h:sy cL 5 1 (code f104) (pt 6) (AaD a a1 b1 c1 d1 e1 g1) =
 (Be a g1.1 b1 c1 d1 e1).bind λj1=>(Be a g1.2.1 j1.2.2.2.1 j1.2.2.2.2 j1.2.1 j1.2.2.1).bind λk1=>(((((Be a g1.1 b1 c1 d1 e1).bind λl1 =>
(Be a g1.2.1 l1.2.2.2.1 l1.2.2.2.2 l1.2.1 l1.2.2.1).bind λn1=>M4 (WM a a1 b1 c1 d1 e1 g1 (l1.1,n1.1,n1.2.1,n1.2.2.1,n1.2.2.2.1,n1.2.2.2.2)) (WM a a1 b1 c1 d1 e1 g1 (j1.1,k1.1,k1.2.1,k1.2.2.1,k1.2.2.2.1,k1.2.2.2.2))).bind λ_=>(Be a g1.1 b1 c1 d1 e1).bind λo1 =>
(Be a g1.2.1 o1.2.2.2.1 o1.2.2.2.2 o1.2.1 o1.2.2.1).bind λq1=>M4 (WM a a1 b1 c1 d1 e1 g1 (o1.1,q1.1,q1.2.1,q1.2.2.1,q1.2.2.2.1,q1.2.2.2.2)) (WM a a1 b1 c1 d1 e1 g1 (j1.1,k1.1,k1.2.1,k1.2.2.1,k1.2.2.2.1,k1.2.2.2.2))).bind λ_=>(Be a g1.1 b1 c1 d1 e1).bind λs1 =>
(Be a g1.2.1 s1.2.2.2.1 s1.2.2.2.2 s1.2.1 s1.2.2.1).bind λt1=>M4 (WM a a1 b1 c1 d1 e1 g1 (s1.1,t1.1,t1.2.1,t1.2.2.1,t1.2.2.2.1,t1.2.2.2.2)) (WM a a1 b1 c1 d1 e1 g1 (j1.1,k1.1,k1.2.1,k1.2.2.1,k1.2.2.2.1,k1.2.2.2.2))).bind λ_=>some (WM a a1 b1 c1 d1 e1 g1 (j1.1,k1.1,k1.2.1,k1.2.2.1,k1.2.2.2.1,k1.2.2.2.2))):=by kernel_rfl
 rw[h];unfold Iw;simp only[ALh,mS,mO];clear h;cases F6:Be a g1.1 b1 c1 d1 e1 with
 |none=>rfl
 |some j1 =>
  simp only[AIY];cases M7:Be a g1.2.1 j1.2.2.2.1 j1.2.2.2.2 j1.2.1 j1.2.2.1 with
  |none=>rfl
  |some k1 =>
   simp only[AIY];simp only[F6,M7,AJK,AIY,ER]
def IZ(a:Int)(g1:ALu)(a1:Int)(b1 c1:ALx)(d1:AL7 (Int×ALq))(e1:ALB):AL8 (Bool×(AL7 (Int×ALq))×ALx×ALx×ALx×ALB):=
 (Iw a a1 b1 c1 d1 e1 g1).bind λi1=>(D8 a i1.1 i1.2.2.2.2.1 i1.2.2.2.2.2 i1.2.2.1 i1.2.2.2.1).bind λu1=>(D8 a i1.2.1 u1.2.1 u1.2.2.1 u1.2.2.2.1 u1.2.2.2.2).bind λv1=>bif u1.1==v1.1 then
 some (true,v1.2.2.2.1,([]:ALx),v1.2.1,v1.2.2.1,v1.2.2.2.2)
 else
 if(v1.2.2.2.2.length+([(i1.1,i1.2.1,a1,())]:ALB).length)*24<=140737488355328 then
 if(0:Int)<=u1.1/\u1.1<(v1.2.2.1.length:Int)then
 if(0:Int)<=v1.1/\v1.1<(v1.2.2.1.length:Int)then
 (Ix a u1.1 v1.1 (v1.2.2.1.getD u1.1.toNat ALP.zero) (v1.2.2.1.getD v1.1.toNat ALP.zero) v1.2.2.2.1 v1.2.1 v1.2.2.1 (v1.2.2.2.2++([(i1.1,i1.2.1,a1,())]:ALB))).bind (Sum.elim (λw=>some (false,v1.2.2.2.1,w,v1.2.1,v1.2.2.1,v1.2.2.2.2++([(i1.1,i1.2.1,a1,())]:ALB))) (λb=>if(0:Int)<=v1.1/\v1.1<(v1.2.1.length:Int)then
 if(0:Int)<=u1.1/\u1.1<(v1.2.2.1.length:Int)then
 (DF a b u1.1 (v1.2.2.1.getD v1.1.toNat ALP.zero) v1.2.2.2.1 (v1.2.1.set v1.1.toNat u1.1) (v1.2.2.1.set u1.1.toNat (if(v1.2.2.1.getD v1.1.toNat ALP.zero)>b then(v1.2.2.1.getD v1.1.toNat ALP.zero)else b)) (v1.2.2.2.2++([(i1.1,i1.2.1,a1,())]:ALB))).bind λk=>some (true,v1.2.2.2.1,([]:ALx),v1.2.1.set v1.1.toNat u1.1,k,v1.2.2.2.2++([(i1.1,i1.2.1,a1,())]:ALB))
 else none
 else none))
 else none
 else none
 else none
def AxN:=B6 [.UJ,.d Aq,.d ALP] [⟨[.ptr 0 [] 0,.Ax [] Aq,.Ax [] ALP],[.box (.pr (.k (.Am 1)) (.pr (.k (.Am 2)) (.pr (.k (.mp 3)) (.pr (.k (.Am 4)) (.k .u))))),.row 2 .Ai ALP,.row 2 .Ai ALP,.map (.sh []) ALP Ah,.row 164 .Ai Ab],Bool×(AL7 (Int×ALq))×ALx×ALx×ALx×ALB,λp=>IZ p.1.1 p.1.2.1 p.1.2.2.1 p.2.2.1 p.2.2.2.1 p.2.2.2.2.1 p.2.2.2.2.2.1,λr=>(.cons (.Am 5) (.cons (dB r.1) .nil),[.box (.pr (.Am 6) (.pr (.Am 7) (.pr (.mp 3) (.pr (.Am 8) .u)))),.AK,.AK,.map (.sh []) ALP Ah r.2.1 none,.AK,.row 2 .Ai ALP r.2.2.1,.row 2 .Ai ALP r.2.2.2.1,.row 2 .Ai ALP r.2.2.2.2.1,.row 164 .Ai Ab r.2.2.2.2.2])⟩]
theorem Aa7:Ap prog 104 AxN:=As (fn:=f104) ⟨⟨cL,pk ⟨Agv,Abw,pM,Abx,trivial⟩,λ_ R K=>by
 simp only[IZ,ALi];simp(disch:=refine id ?_;kernel_rfl) only[Up (AnE ..) (K:=AY cL f104 5 R K),A8 (AnG ..) (K:=AY cL f104 5 R K),A8 (AnI ..) (K:=AY cL f104 5 R K)];kernel_rfl⟩,trivial⟩
abbrev sO:=eN [(144,AoL),(146,AfP)] {A1:=[(4,{Bb:=[0,5,6,15,16],Ck:=[(5,false,.row [] 102 Ak true)]})],Bv:=[(4,[5])],BR:=[(15,{Bb:=[0,5,6,7,9,11,15,16],Ck:=[(11,true,.row [2,1] 199 ALQ true)]}),(16,{Bb:=[0,5,6,7,9,15,16],Ck:=[(5,false,.row [] 102 Ak true)]})],D2:=[(15,[0,5,6,7,8,9,11,15,16]),(16,[0,5,6,7,8,9,10,15,16])],stl:=[64]}
def AlV(a:Int) b (z_:Int×ALx×ALx×(AL7 (Int×ALq))×ALB×ALH×(AL7 (Int×Int))):=sT 72 [(0,.ptr 0 a [] 0),(5,.Am 5),(6,.mp 6),(15,dI b),(16,dI z_.1)] [.box (.pr (.Am 1) (.pr (.Am 2) (.pr (.mp 3) (.pr (.Am 4) .u)))),.row 2 .Ai ALP z_.2.1,.row 2 .Ai ALP z_.2.2.1,.map (.sh []) ALP Ah z_.2.2.2.1 none,.row 164 .Ai Ab z_.2.2.2.2.1,.row 102 .Ai Ak z_.2.2.2.2.2.1,.map .Ai ALP ALP z_.2.2.2.2.2.2 none]
def Akh(a b:Int):=λ(c:(ALx×ALx×(AL7 (Int×ALq))×ALB×ALH))=>xE 0 72 [(5,.Am 5)] [.box (.pr (.Am 1) (.pr (.Am 2) (.pr (.mp 3) (.pr (.Am 4) .u)))),.row 2 .Ai ALP c.1,.row 2 .Ai ALP c.2.1,.map (.sh []) ALP Ah c.2.2.1 none,.row 164 .Ai Ab c.2.2.2.1,.row 102 .Ai Ak c.2.2.2.2]
def AlU(a:Int) d b e (g:(AL7 (Int×Int))) i j k l n (o:(AL7 (Int×ALq))) q:=sT 72 [(0,.ptr 0 a [] 0),(5,.Am 5),(6,.mp 6),(7,dI d),(8,dI i),(9,dI j),(10,dB k),(15,dI b),(16,dI d)] [.box (.pr (.Am 1) (.pr (.Am 2) (.pr (.mp 3) (.pr (.Am 4) .u)))),.row 2 .Ai ALP l,.row 2 .Ai ALP n,.map (.sh []) ALP Ah o none,.row 164 .Ai Ab q,.row 102 .Ai Ak e,.map .Ai ALP ALP g none]
def Akg(a:Int) d b (e:ALH) (g:(AL7 (Int×Int))) (i:Int) (j:Int) (k:Bool) l n (o:(AL7 (Int×ALq))) q:=λ(s:(Int×ALH×(AL7 (Int×Int))))=>xN 72 [(0,.ptr 0 a [] 0),(5,.Am 5),(6,.mp 6),(7,dI d),(9,dI s.1),(15,dI b),(16,dI d)] [.box (.pr (.Am 1) (.pr (.Am 2) (.pr (.mp 3) (.pr (.Am 4) .u)))),.row 2 .Ai ALP l,.row 2 .Ai ALP n,.map (.sh []) ALP Ah o none,.row 164 .Ai Ab q,.row 102 .Ai Ak s.2.1,.map .Ai ALP ALP s.2.2 none]
def AlT(a:Int) d i b l n (o:(AL7 (Int×ALq))) q e t (u:(AL7 (Int×Int))):=sT 72 [(0,.ptr 0 a [] 0),(5,.Am 5),(6,.mp 6),(7,dI d),(8,dI i),(9,dI t),(11,.ptr 7 0 [] 0),(15,dI b),(16,dI d)] [.box (.pr (.Am 1) (.pr (.Am 2) (.pr (.mp 3) (.pr (.Am 4) .u)))),.row 2 .Ai ALP l,.row 2 .Ai ALP n,.map (.sh []) ALP Ah o none,.row 164 .Ai Ab q,.row 102 .Ai Ak e,.map .Ai ALP ALP u none,.box (.pr .zs (.pr (dB false) (.pr (.pr (dI 0) (.pr .zs .u)) .u)))]
def Akf(a:Int) d (i:Int) b l n (o:(AL7 (Int×ALq))) q e t (u:(AL7 (Int×Int))):=λ(v:(Bool×Int×ALx))=>xN 72 [(0,.ptr 0 a [] 0),(5,.Am 5),(6,.mp 6),(7,dI d),(9,dI t),(11,.ptr 7 0 [] 0),(15,dI b),(16,dI d)] [.box (.pr (.Am 1) (.pr (.Am 2) (.pr (.mp 3) (.pr (.Am 4) .u)))),.row 2 .Ai ALP l,.row 2 .Ai ALP n,.map (.sh []) ALP Ah o none,.row 164 .Ai Ab q,.row 102 .Ai Ak e,.map .Ai ALP ALP u none,.box (.pr .zs (.pr (dB v.1) (.pr (.pr (dI v.2.1) (.pr (.Am 8) .u)) .u))),.row 199 .Ai ALQ v.2.2]
def Dq(a d i b:Int)(l n:ALx)(o:AL7 (Int×ALq))(q:ALB)(e:ALH)(t:Int)(u:AL7 (Int×Int)):AL8 (Bool×Int×ALx):=
 if 0<=i/\i<n.length then
 bif decide ((n.getD i.toNat ALP.zero)>=0)then
 (C2 (Bg ALP Ah o (n.getD i.toNat ALP.zero))).bind λw=>some (true,w.1,w.2)
 else
 some (false,0,([]:ALx))
 else none
theorem AnJ a d i b l n o q e t u:AP sO 5 15 (sb (cd f105 244) 462) 110 (AlT a d i b l n o q e t u) (Dq a d i b l n o q e t u) (Akf a d i b l n o q e t u):=by
 unfold AP;simp only[Dq,ALh];kernel_rfl
def FR(a d b:Int)(e:ALH)(g:AL7 (Int×Int))(i j:Int)(k:Bool)(l n:ALx)(o:AL7 (Int×ALq))(q:ALB):AL8 (Int×ALH×(AL7 (Int×Int))):=
 bif !k then
 (Dq a d i b l n o q e (e.length:Int) (BV ALP ALP g i (e.length:Int))).bind λv=>if(e.length+([(([]:ALx),v.1,(v.2.1,v.2.2,()),())]:ALH).length)*64<=140737488355328 then
 some ((e.length:Int),e++([(([]:ALx),v.1,(v.2.1,v.2.2,()),())]:ALH),BV ALP ALP g i (e.length:Int))
 else none
 else
 some (j,e,g)
theorem AnK a d b e g i j k l n o q:AP sO 5 16 (cd f105 244) 462 (AlU a d b e g i j k l n o q) (FR a d b e g i j k l n o q) (Akg a d b e g i j k l n o q):=by
 unfold AP;simp only[FR,ALh];simp(disch:=refine id ?_;kernel_rfl) only[A8 (AnJ ..) (K:=Ta sO 5 16)];kernel_rfl
def Ie(a b d:Int)(x y:ALx)(a1:AL7 (Int×ALq))(b1:ALB)(e:ALH)(g:AL7 (Int×Int)):AL8 ((Int×ALx×ALx×(AL7 (Int×ALq))×ALB×ALH×(AL7 (Int×Int)))⊕(ALx×ALx×(AL7 (Int×ALq))×ALB×ALH)):=
 bif decide (d<b)then
 (D8 a d x y a1 b1).bind λc1=>(FR a d b e g c1.1 (Bg ALP ALP g c1.1) (SA ALP ALP g c1.1) c1.2.1 c1.2.2.1 c1.2.2.2.1 c1.2.2.2.2).bind λs=>if(0:Int)<=s.1/\s.1<(s.2.1.length:Int)then
 if((s.2.1.getD s.1.toNat Ak.zero).1.length+([d]:ALx).length)*8<=140737488355328 then
 if(0:Int)<=s.1/\s.1<(s.2.1.length:Int)then
 if s.1=s.1 then
 some (.inl (wI (d+1),c1.2.1,c1.2.2.1,c1.2.2.2.1,c1.2.2.2.2,s.2.1.set s.1.toNat ((s.2.1.getD s.1.toNat Ak.zero).1++([d]:ALx),(s.2.1.getD s.1.toNat Ak.zero).2),s.2.2))
 else none
 else none
 else none
 else none
 else
 some (.inr (x,y,a1,b1,e))
def Ep a b (z_:Int×ALx×ALx×(AL7 (Int×ALq))×ALB×ALH×(AL7 (Int×Int))):=Ie a b z_.1 z_.2.1 z_.2.2.1 z_.2.2.2.1 z_.2.2.2.2.1 z_.2.2.2.2.2.1 z_.2.2.2.2.2.2
def Jw a b d x y a1 b1 e g:=fix (Ep a b) (d,x,y,a1,b1,e,g)
theorem AnL a b:A0 sO 5 4 (code f105) 122 (AlV a b) (Ep a b) (Akh a b):=by
 intro _;simp only[-eq_self,Ep,Ie,ALh];simp(disch:=refine id ?_;kernel_rfl) only[-eq_self,A8 (AnK ..) (K:=LP sO 5 4)];kernel_rfl
def FE(a b:Int)(d1 e1:ALx)(g1:AL7 (Int×ALq))(i1:ALB):AL8 (ALx×ALx×(AL7 (Int×ALq))×ALB×ALH):=
 (Jw a b 0 d1 e1 g1 i1 ([]:ALH) ([]:AL7 (Int×Int))).bind λc=>some (c.1,c.2.1,c.2.2.1,c.2.2.2.1,c.2.2.2.2)
def AxO:=B6 [.UJ,.d ALP] [⟨[.ptr 0 [] 0,.Ax [] ALP],[.box (.pr (.k (.Am 1)) (.pr (.k (.Am 2)) (.pr (.k (.mp 3)) (.pr (.k (.Am 4)) (.k .u))))),.row 2 .Ai ALP,.row 2 .Ai ALP,.map (.sh []) ALP Ah,.row 164 .Ai Ab],ALx×ALx×(AL7 (Int×ALq))×ALB×ALH,λp=>FE p.1.1 p.1.2.1 p.2.2.1 p.2.2.2.1 p.2.2.2.2.1 p.2.2.2.2.2.1,λr=>(.Am 5,[.box (.pr (.Am 1) (.pr (.Am 2) (.pr (.mp 3) (.pr (.Am 4) .u)))),.row 2 .Ai ALP r.1,.row 2 .Ai ALP r.2.1,.map (.sh []) ALP Ah r.2.2.1 none,.row 164 .Ai Ab r.2.2.2.1,.row 102 .Ai Ak r.2.2.2.2])⟩]
theorem Aa8:Ap prog 105 AxO:=As (fn:=f105) ⟨⟨sO,pk ⟨pM,eM,trivial⟩,λ_ R K=>by
 simp only[FE,ALi];simp(disch:=refine id ?_;kernel_rfl) only[Jw,Az (AnL _ _) (K:=AY sO f105 5 R K)];kernel_rfl⟩,trivial⟩
abbrev sP:=eN [(102,AxL),(103,AxM),(104,AxN),(105,AxO)] {A1:=[(4,{Bb:=[0,2,3,4,25,26,27],Ck:=[(4,true,.row [3] 164 Ab true)]}),(8,{Bb:=[0,2,3,4,6,25,26,27,37,38,39],Ck:=[(4,true,.row [3] 164 Ab true)]})],Bv:=[(4,[0,2,3,4]),(8,[0,2,3,4,25,26,27])],BR:=[(15,{Bb:=[0,2,3,4,25,26,27],Ck:=[(4,true,.row [3] 164 Ab true)]})],D2:=[(15,[0,2,3,4,25,26,27])],dM:=[(0,.row [1] 102 Ak true),(0,.row [2] 2 ALP true)]}
def AlY(a:Int) b (c:Int) d (z_:Int×ALC×ALF×(AL7 (ALD×(ALD×Unit)))×ALK×ALB×(AL7 (ALk×Int))×ALx×ALx×(AL7 (Int×ALq))×ALB):=sT 67 [(0,.ptr 0 a [] 0),(2,.ptr 5 0 [] 0),(3,.ptr 6 0 [] 0),(4,.ptr 7 c [] 0),(25,dD ALY b),(26,dI d),(27,dI z_.1)] [.box (.pr (dD ALU z_.2.1) (.pr (dD ALY z_.2.2.1) (.pr (.Am 1) (.pr (.pr (.Am 2) .u) (.pr (.Am 3) (.pr (.mp 4) .u)))))),.row 222 .Ai (.Au ALS (.Au ALS .unit)) z_.2.2.2.1,.row 32 .Ai ALT z_.2.2.2.2.1,.row 151 .Ai Ab z_.2.2.2.2.2.1,.map .Ai Aa ALP z_.2.2.2.2.2.2.1 none,.box (.pr (.pr .zs .u) (.pr .zs (.pr .zs .u))),.box (.pr (.pr (.Am 2) .u) (.pr .zs (.pr .zs .u))),.box (.pr (.Am 8) (.pr (.Am 9) (.pr (.mp 10) (.pr (.Am 11) .u)))),.row 2 .Ai ALP z_.2.2.2.2.2.2.2.1,.row 2 .Ai ALP z_.2.2.2.2.2.2.2.2.1,.map (.sh []) ALP Ah z_.2.2.2.2.2.2.2.2.2.1 none,.row 164 .Ai Ab z_.2.2.2.2.2.2.2.2.2.2]
def Akk(a:Int)(b:ALF)(c d:Int):=Sum.elim (λ(e:(ALC×ALF×(AL7 (ALD×(ALD×Unit)))×ALK×ALB×(AL7 (ALk×Int))×ALx×ALx×ALx×(AL7 (Int×ALq))×ALB))=>xR 67 [(0,.ptr 0 a [] 0),(2,.ptr 5 0 [] 0),(3,.ptr 6 0 [] 0),(4,.ptr 7 c [] 0)] [.box (.pr (dD ALU e.1) (.pr (dD ALY e.2.1) (.pr (.Am 1) (.pr (.pr (.Am 2) .u) (.pr (.Am 3) (.pr (.mp 4) .u)))))),.row 222 .Ai (.Au ALS (.Au ALS .unit)) e.2.2.1,.row 32 .Ai ALT e.2.2.2.1,.row 151 .Ai Ab e.2.2.2.2.1,.map .Ai Aa ALP e.2.2.2.2.2.1 none,.box (.pr (.pr (.Am 2) .u) (.pr .zs (.pr (.Am 8) .u))),.box (.pr (.pr (.Am 2) .u) (.pr .zs (.pr (.Am 8) .u))),.box (.pr (.Am 9) (.pr (.Am 10) (.pr (.mp 11) (.pr (.Am 12) .u)))),.row 2 .Ai ALP e.2.2.2.2.2.2.1,.row 2 .Ai ALP e.2.2.2.2.2.2.2.1,.row 2 .Ai ALP e.2.2.2.2.2.2.2.2.1,.map (.sh []) ALP Ah e.2.2.2.2.2.2.2.2.2.1 none,.row 164 .Ai Ab e.2.2.2.2.2.2.2.2.2.2]) (λ(g:(ALC×ALF×(AL7 (ALD×(ALD×Unit)))×ALK×ALB×(AL7 (ALk×Int))×ALx×ALx×(AL7 (Int×ALq))×ALB))=>xE 0 67 [(0,.ptr 0 a [] 0),(2,.ptr 5 0 [] 0),(3,.ptr 6 0 [] 0),(4,.ptr 7 c [] 0)] [.box (.pr (dD ALU g.1) (.pr (dD ALY g.2.1) (.pr (.Am 1) (.pr (.pr (.Am 2) .u) (.pr (.Am 3) (.pr (.mp 4) .u)))))),.row 222 .Ai (.Au ALS (.Au ALS .unit)) g.2.2.1,.row 32 .Ai ALT g.2.2.2.1,.row 151 .Ai Ab g.2.2.2.2.1,.map .Ai Aa ALP g.2.2.2.2.2.1 none,.box (.pr (.pr .zs .u) (.pr .zs (.pr .zs .u))),.box (.pr (.pr (.Am 2) .u) (.pr .zs (.pr .zs .u))),.box (.pr (.Am 8) (.pr (.Am 9) (.pr (.mp 10) (.pr (.Am 11) .u)))),.row 2 .Ai ALP g.2.2.2.2.2.2.1,.row 2 .Ai ALP g.2.2.2.2.2.2.2.1,.map (.sh []) ALP Ah g.2.2.2.2.2.2.2.2.1 none,.row 164 .Ai Ab g.2.2.2.2.2.2.2.2.2])
def AlX(a c:Int) b d i j k l n o (q:(AL7 (ALk×Int))) s t (u:(AL7 (Int×ALq))) v:=sT 67 [(0,.ptr 0 a [] 0),(2,.ptr 5 0 [] 0),(3,.ptr 6 0 [] 0),(4,.ptr 7 c [] 0),(25,dD ALY b),(26,dI d),(27,dI i)] [.box (.pr (dD ALU j) (.pr (dD ALY k) (.pr (.Am 1) (.pr (.pr (.Am 2) .u) (.pr (.Am 3) (.pr (.mp 4) .u)))))),.row 222 .Ai (.Au ALS (.Au ALS .unit)) l,.row 32 .Ai ALT n,.row 151 .Ai Ab o,.map .Ai Aa ALP q none,.box (.pr (.pr .zs .u) (.pr .zs (.pr .zs .u))),.box (.pr (.pr (.Am 2) .u) (.pr .zs (.pr .zs .u))),.box (.pr (.Am 8) (.pr (.Am 9) (.pr (.mp 10) (.pr (.Am 11) .u)))),.row 2 .Ai ALP s,.row 2 .Ai ALP t,.map (.sh []) ALP Ah u none,.row 164 .Ai Ab v]
def Akj(a c:Int) b d i (j:ALC) (k:ALF) (l:(AL7 (ALD×(ALD×Unit)))) (n:ALK) (o:ALB) (q:(AL7 (ALk×Int))) (s:ALx) (t:ALx) (u:(AL7 (Int×ALq))) (v:ALB):=Sum.elim (λ(w:(ALC×ALF×(AL7 (ALD×(ALD×Unit)))×ALK×ALB×(AL7 (ALk×Int))×ALx×ALx×(AL7 (Int×ALq))×ALB))=>xN 67 [(0,.ptr 0 a [] 0),(2,.ptr 5 0 [] 0),(3,.ptr 6 0 [] 0),(4,.ptr 7 c [] 0),(25,dD ALY b),(26,dI d),(27,dI i)] [.box (.pr (dD ALU w.1) (.pr (dD ALY w.2.1) (.pr (.Am 1) (.pr (.pr (.Am 2) .u) (.pr (.Am 3) (.pr (.mp 4) .u)))))),.row 222 .Ai (.Au ALS (.Au ALS .unit)) w.2.2.1,.row 32 .Ai ALT w.2.2.2.1,.row 151 .Ai Ab w.2.2.2.2.1,.map .Ai Aa ALP w.2.2.2.2.2.1 none,.box (.pr (.pr .zs .u) (.pr .zs (.pr .zs .u))),.box (.pr (.pr (.Am 2) .u) (.pr .zs (.pr .zs .u))),.box (.pr (.Am 8) (.pr (.Am 9) (.pr (.mp 10) (.pr (.Am 11) .u)))),.row 2 .Ai ALP w.2.2.2.2.2.2.1,.row 2 .Ai ALP w.2.2.2.2.2.2.2.1,.map (.sh []) ALP Ah w.2.2.2.2.2.2.2.2.1 none,.row 164 .Ai Ab w.2.2.2.2.2.2.2.2.2]) (λ(x:(ALC×ALF×(AL7 (ALD×(ALD×Unit)))×ALK×ALB×(AL7 (ALk×Int))×ALx×ALx×ALx×(AL7 (Int×ALq))×ALB))=>xR 67 [(0,.ptr 0 a [] 0),(2,.ptr 5 0 [] 0),(3,.ptr 6 0 [] 0),(4,.ptr 7 c [] 0),(25,dD ALY b),(26,dI d),(27,dI i)] [.box (.pr (dD ALU x.1) (.pr (dD ALY x.2.1) (.pr (.Am 1) (.pr (.pr (.Am 2) .u) (.pr (.Am 3) (.pr (.mp 4) .u)))))),.row 222 .Ai (.Au ALS (.Au ALS .unit)) x.2.2.1,.row 32 .Ai ALT x.2.2.2.1,.row 151 .Ai Ab x.2.2.2.2.1,.map .Ai Aa ALP x.2.2.2.2.2.1 none,.box (.pr (.pr (.Am 2) .u) (.pr .zs (.pr (.Am 8) .u))),.box (.pr (.pr (.Am 2) .u) (.pr .zs (.pr (.Am 8) .u))),.box (.pr (.Am 9) (.pr (.Am 10) (.pr (.mp 11) (.pr (.Am 12) .u)))),.row 2 .Ai ALP x.2.2.2.2.2.2.1,.row 2 .Ai ALP x.2.2.2.2.2.2.2.1,.row 2 .Ai ALP x.2.2.2.2.2.2.2.2.1,.map (.sh []) ALP Ah x.2.2.2.2.2.2.2.2.2.1 none,.row 164 .Ai Ab x.2.2.2.2.2.2.2.2.2.2])
def AlW(a c:Int) b d i y a1 b1 c1 d1 e1 g1 (i1:(AL7 (ALk×Int))) j1 (z_:Int×ALx×ALx×(AL7 (Int×ALq))×ALB):=sT 67 [(0,.ptr 0 a [] 0),(2,.ptr 5 0 [] 0),(3,.ptr 6 0 [] 0),(4,.ptr 7 c [] 0),(6,.ptr 8 0 [] 0),(25,dD ALY b),(26,dI d),(27,dI i),(37,dD (.sl Aq) y),(38,dI a1),(39,dI z_.1)] [.box (.pr (dD ALU b1) (.pr (dD ALY c1) (.pr (.Am 1) (.pr (.pr (.Am 2) .u) (.pr (.Am 3) (.pr (.mp 4) .u)))))),.row 222 .Ai (.Au ALS (.Au ALS .unit)) d1,.row 32 .Ai ALT e1,.row 151 .Ai Ab g1,.map .Ai Aa ALP i1 none,.box (.pr (.pr .zs .u) (.pr .zs (.pr .zs .u))),.box (.pr (.pr (.Am 2) .u) (.pr .zs (.pr .zs .u))),.box (.pr (.Am 9) (.pr (.Am 10) (.pr (.mp 11) (.pr (.Am 12) .u)))),.box (dD Ag j1),.row 2 .Ai ALP z_.2.1,.row 2 .Ai ALP z_.2.2.1,.map (.sh []) ALP Ah z_.2.2.2.1 none,.row 164 .Ai Ab z_.2.2.2.2]
def Aki(a c:Int) b d i (y:ALJ) (a1:Int) b1 c1 d1 e1 g1 (i1:(AL7 (ALk×Int))) (j1:ALp):=Sum.elim (λ(k1:(ALx×ALx×ALx×(AL7 (Int×ALq))×ALB))=>xR 67 [(0,.ptr 0 a [] 0),(2,.ptr 5 0 [] 0),(3,.ptr 6 0 [] 0),(4,.ptr 7 c [] 0),(25,dD ALY b),(26,dI d),(27,dI i)] [.box (.pr (dD ALU b1) (.pr (dD ALY c1) (.pr (.Am 1) (.pr (.pr (.Am 2) .u) (.pr (.Am 3) (.pr (.mp 4) .u)))))),.row 222 .Ai (.Au ALS (.Au ALS .unit)) d1,.row 32 .Ai ALT e1,.row 151 .Ai Ab g1,.map .Ai Aa ALP i1 none,.box (.pr (.pr (.Am 2) .u) (.pr .zs (.pr (.Am 8) .u))),.box (.pr (.pr (.Am 2) .u) (.pr .zs (.pr (.Am 8) .u))),.box (.pr (.Am 9) (.pr (.Am 10) (.pr (.mp 11) (.pr (.Am 12) .u)))),.row 2 .Ai ALP k1.1,.row 2 .Ai ALP k1.2.1,.row 2 .Ai ALP k1.2.2.1,.map (.sh []) ALP Ah k1.2.2.2.1 none,.row 164 .Ai Ab k1.2.2.2.2]) (λ(l1:(ALx×ALx×(AL7 (Int×ALq))×ALB))=>xE 2 67 [(0,.ptr 0 a [] 0),(2,.ptr 5 0 [] 0),(3,.ptr 6 0 [] 0),(4,.ptr 7 c [] 0),(25,dD ALY b),(26,dI d),(27,dI i)] [.box (.pr (dD ALU b1) (.pr (dD ALY c1) (.pr (.Am 1) (.pr (.pr (.Am 2) .u) (.pr (.Am 3) (.pr (.mp 4) .u)))))),.row 222 .Ai (.Au ALS (.Au ALS .unit)) d1,.row 32 .Ai ALT e1,.row 151 .Ai Ab g1,.map .Ai Aa ALP i1 none,.box (.pr (.pr .zs .u) (.pr .zs (.pr .zs .u))),.box (.pr (.pr (.Am 2) .u) (.pr .zs (.pr .zs .u))),.box (.pr (.Am 8) (.pr (.Am 9) (.pr (.mp 10) (.pr (.Am 11) .u)))),.row 2 .Ai ALP l1.1,.row 2 .Ai ALP l1.2.1,.map (.sh []) ALP Ah l1.2.2.1 none,.row 164 .Ai Ab l1.2.2.2])
def Da(a c:Int)(b:ALF)(d i:Int)(y:ALJ)(a1:Int)(b1:ALC)(c1:ALF)(d1:AL7 (ALD×(ALD×Unit)))(e1:ALK)(g1:ALB)(i1:AL7 (ALk×Int))(j1:ALp)(n1:Int)(o1 q1:ALx)(s1:AL7 (Int×ALq))(t1:ALB):AL8 ((Int×ALx×ALx×(AL7 (Int×ALq))×ALB)⊕((ALx×ALx×ALx×(AL7 (Int×ALq))×ALB)⊕(ALx×ALx×(AL7 (Int×ALq))×ALB))):=
 bif decide (n1<a1)then
 if 0<=n1/\n1<y.length then
 (IZ c (y.getD n1.toNat Aq.zero) j1.1 o1 q1 s1 t1).bind λu1=>bif !u1.1 then
 some (.inr (.inl (u1.2.2.1,u1.2.2.2.1,u1.2.2.2.2.1,u1.2.1,u1.2.2.2.2.2)))
 else
 some (.inl (wI (n1+1),u1.2.2.2.1,u1.2.2.2.2.1,u1.2.1,u1.2.2.2.2.2))
 else none
 else
 some (.inr (.inr (o1,q1,s1,t1)))
def Cq a c b d i y a1 b1 c1 d1 e1 g1 i1 j1 (z_:Int×ALx×ALx×(AL7 (Int×ALq))×ALB):=Da a c b d i y a1 b1 c1 d1 e1 g1 i1 j1 z_.1 z_.2.1 z_.2.2.1 z_.2.2.2.1 z_.2.2.2.2
def CU a c b d i y a1 b1 c1 d1 e1 g1 i1 j1 n1 o1 q1 s1 t1:=fix (Cq a c b d i y a1 b1 c1 d1 e1 g1 i1 j1) (n1,o1,q1,s1,t1)
theorem AnM a c b d i y a1 b1 c1 d1 e1 g1 i1 j1:A0 sP 5 8 (sb (cd f51 244) 14) 46 (AlW a c b d i y a1 b1 c1 d1 e1 g1 i1 j1) (Cq a c b d i y a1 b1 c1 d1 e1 g1 i1 j1) (Aki a c b d i y a1 b1 c1 d1 e1 g1 i1 j1):=by
 intro _;simp only[Cq,Da,ALh];kernel_rfl
def CV(a c:Int)(b:ALF)(d i:Int)(j:ALC)(k:ALF)(l:AL7 (ALD×(ALD×Unit)))(n:ALK)(o:ALB)(q:AL7 (ALk×Int))(s t:ALx)(u:AL7 (Int×ALq))(v:ALB):AL8 ((ALC×ALF×(AL7 (ALD×(ALD×Unit)))×ALK×ALB×(AL7 (ALk×Int))×ALx×ALx×(AL7 (Int×ALq))×ALB)⊕(ALC×ALF×(AL7 (ALD×(ALD×Unit)))×ALK×ALB×(AL7 (ALk×Int))×ALx×ALx×ALx×(AL7 (Int×ALq))×ALB)):=
 if 0<=i/\i<b.length then
 bif !(b.getD i.toNat Ag.zero).2.1 then
 some (.inl (j,k,l,n,o,q,s,t,u,v))
 else
 (HC a i j k l n o q).bind λv1=>(CU a c b d i v1.1 (v1.1.length:Int) v1.2.1 v1.2.2.1 v1.2.2.2.1 v1.2.2.2.2.1 v1.2.2.2.2.2.1 v1.2.2.2.2.2.2 (b.getD i.toNat Ag.zero) 0 s t u v).bind (Sum.elim (λk1=>some (.inr (v1.2.1,v1.2.2.1,v1.2.2.2.1,v1.2.2.2.2.1,v1.2.2.2.2.2.1,v1.2.2.2.2.2.2,k1.1,k1.2.1,k1.2.2.1,k1.2.2.2.1,k1.2.2.2.2))) (λl1=>some (.inl (v1.2.1,v1.2.2.1,v1.2.2.2.1,v1.2.2.2.2.1,v1.2.2.2.2.2.1,v1.2.2.2.2.2.2,l1.1,l1.2.1,l1.2.2.1,l1.2.2.2))))
 else none
theorem AnN a c b d i j k l n o q s t u v:AP sP 5 15 (cd f51 244) 14 (AlX a c b d i j k l n o q s t u v) (CV a c b d i j k l n o q s t u v) (Akj a c b d i j k l n o q s t u v):=by
 unfold AP;simp only[CV,ALh];simp(disch:=refine id ?_;kernel_rfl) only[CU,Az (AnM _ _ _ _ _ _ _ _ _ _ _ _ _ _) (K:=Ta sP 5 15)];kernel_rfl
def Cr(a:Int)(b:ALF)(c d i:Int)(j:ALC)(k:ALF)(l:AL7 (ALD×(ALD×Unit)))(n:ALK)(o:ALB)(q:AL7 (ALk×Int))(s t:ALx)(u:AL7 (Int×ALq))(v:ALB):AL8 ((Int×ALC×ALF×(AL7 (ALD×(ALD×Unit)))×ALK×ALB×(AL7 (ALk×Int))×ALx×ALx×(AL7 (Int×ALq))×ALB)⊕((ALC×ALF×(AL7 (ALD×(ALD×Unit)))×ALK×ALB×(AL7 (ALk×Int))×ALx×ALx×ALx×(AL7 (Int×ALq))×ALB)⊕(ALC×ALF×(AL7 (ALD×(ALD×Unit)))×ALK×ALB×(AL7 (ALk×Int))×ALx×ALx×(AL7 (Int×ALq))×ALB))):=
 bif decide (i<d)then
 (CV a c b d i j k l n o q s t u v).bind (Sum.elim (λw=>some (.inl (wI (i+1),w.1,w.2.1,w.2.2.1,w.2.2.2.1,w.2.2.2.2.1,w.2.2.2.2.2.1,w.2.2.2.2.2.2.1,w.2.2.2.2.2.2.2.1,w.2.2.2.2.2.2.2.2.1,w.2.2.2.2.2.2.2.2.2))) (λx=>some (.inr (.inl (x.1,x.2.1,x.2.2.1,x.2.2.2.1,x.2.2.2.2.1,x.2.2.2.2.2.1,x.2.2.2.2.2.2.1,x.2.2.2.2.2.2.2.1,x.2.2.2.2.2.2.2.2.1,x.2.2.2.2.2.2.2.2.2.1,x.2.2.2.2.2.2.2.2.2.2)))))
 else
 some (.inr (.inr (j,k,l,n,o,q,s,t,u,v)))
def B3 a b c d (z_:Int×ALC×ALF×(AL7 (ALD×(ALD×Unit)))×ALK×ALB×(AL7 (ALk×Int))×ALx×ALx×(AL7 (Int×ALq))×ALB):=Cr a b c d z_.1 z_.2.1 z_.2.2.1 z_.2.2.2.1 z_.2.2.2.2.1 z_.2.2.2.2.2.1 z_.2.2.2.2.2.2.1 z_.2.2.2.2.2.2.2.1 z_.2.2.2.2.2.2.2.2.1 z_.2.2.2.2.2.2.2.2.2.1 z_.2.2.2.2.2.2.2.2.2.2
def Cj a b c d i j k l n o q s t u v:=fix (B3 a b c d) (i,j,k,l,n,o,q,s,t,u,v)
theorem AnO a b c d:A0 sP 5 4 (code f51) 122 (AlY a b c d) (B3 a b c d) (Akk a b c d):=by
 intro _;simp only[B3,Cr,ALh];simp(disch:=refine id ?_;kernel_rfl) only[A8 (AnN ..) (K:=LP sP 5 4)];kernel_rfl
def GF(a:Int)(w1:ALC)(b:ALF)(x1:AL7 (ALD×(ALD×Unit)))(y1:ALK)(a2:ALB)(b2:AL7 (ALk×Int)):AL8 (ALC×ALF×(AL7 (ALD×(ALD×Unit)))×ALK×ALB×(AL7 (ALk×Int))×ALH×ALx):=
 (LA (a2.length:Int)).bind λc2=>(Cj a b c2.1 (b.length:Int) 0 w1 b x1 y1 a2 b2 c2.2.1 c2.2.2.1 c2.2.2.2 ([]:ALB)).bind (Sum.elim (λe=>some (e.1,e.2.1,e.2.2.1,e.2.2.2.1,e.2.2.2.2.1,e.2.2.2.2.2.1,([]:ALH),e.2.2.2.2.2.2.1)) (λg=>(FE c2.1 (g.2.2.2.2.1.length:Int) g.2.2.2.2.2.2.1 g.2.2.2.2.2.2.2.1 g.2.2.2.2.2.2.2.2.1 g.2.2.2.2.2.2.2.2.2).bind λd2=>some (g.1,g.2.1,g.2.2.1,g.2.2.2.1,g.2.2.2.2.1,g.2.2.2.2.2.1,d2.2.2.2.2,([]:ALx))))
def c51:=B6 [.UJ] [⟨[.ptr 0 [] 0],[.box (.pr (.Ax [] ALU) (.pr (.Ax [] ALY) (.pr (.k (.Am 1)) (.pr (.pr (.k (.Am 2)) (.k .u)) (.pr (.k (.Am 3)) (.pr (.k (.mp 4)) (.k .u))))))),.row 222 .Ai (.Au ALS (.Au ALS .unit)),.row 32 .Ai ALT,.row 151 .Ai Ab,.map .Ai Aa ALP],ALC×ALF×(AL7 (ALD×(ALD×Unit)))×ALK×ALB×(AL7 (ALk×Int))×ALH×ALx,λp=>GF p.1.1 p.2.1.1 p.2.1.2.1 p.2.2.1 p.2.2.2.1 p.2.2.2.2.1 p.2.2.2.2.2.1,λr=>(.pr (.pr (.Am 2) .u) (.pr (.Am 5) (.pr (.Am 6) .u)),[.box (.pr (dD ALU r.1) (.pr (dD ALY r.2.1) (.pr (.Am 1) (.pr (.pr (.Am 2) .u) (.pr (.Am 3) (.pr (.mp 4) .u)))))),.row 222 .Ai (.Au ALS (.Au ALS .unit)) r.2.2.1,.row 32 .Ai ALT r.2.2.2.1,.row 151 .Ai Ab r.2.2.2.2.1,.map .Ai Aa ALP r.2.2.2.2.2.1 none,.row 102 .Ai Ak r.2.2.2.2.2.2.1,.row 2 .Ai ALP r.2.2.2.2.2.2.2])⟩]
theorem Agd:Ap prog 51 c51:=As (fn:=f51) ⟨⟨sP,pk ⟨Aa5,Aa6,Aa7,Aa8,trivial⟩,λ_ R K=>by
 simp only[GF,ALi];simp(disch:=refine id ?_;kernel_rfl) only[Cj,Az (AnO _ _ _ _) (K:=AY sP f51 5 R K)];kernel_rfl⟩,trivial⟩
abbrev AqO:=eN [(98,c98),(99,c99),(100,AxJ),(101,AxK)] {}
def c50:=Adp [.UJ,.UJ,.UJ] AqO f50
theorem Agc:Ap prog 50 c50:=nD (pk ⟨AgF,vZ,Aa3,Aa4,trivial⟩)
abbrev ABh:=eN [(50,c50),(51,c51)] {dM:=[(0,.row [0,0] 32 ALT true),(0,.row [1] 102 Ak true),(0,.row [2] 2 ALP true)]}
def BM(a:ALC)(b:ALF)(c:ALr):AL8 (Bool×ALK×ALH×ALx):=
 (IW a b c).bind λd=>bif !d.1 then
 some (false,([]:ALK),([]:ALH),([]:ALx))
 else
 (Q1 a b).bind λe=>(NA a (d.2,())).bind λg=>(Nw g).bind λi=>(GF 0 a b e.2 d.2 g i).bind λj=>some (true,j.2.2.2.1,j.2.2.2.2.2.2.1,j.2.2.2.2.2.2.2)
def c13:=B6 [.d ALU,.d ALY,.d Aj] [⟨[.Ax [] ALU,.Ax [] ALY,.Ax [] Aj],[],Bool×ALK×ALH×ALx,λp=>BM p.1.1 p.1.2.1 p.1.2.2.1,λr=>(.cons (.pr (.pr (.Am 0) .u) (.pr (.Am 1) (.pr (.Am 2) .u))) (.cons (dB r.1) .nil),[.row 32 .Ai ALT r.2.1,.row 102 .Ai Ak r.2.2.1,.row 2 .Ai ALP r.2.2.2])⟩]
theorem AfO:Ap prog 13 c13:=As (fn:=f13) ⟨⟨ABh,pk ⟨Agc,Agd,trivial⟩,λ_ R K=>by
 simp only[BM,ALi];kernel_rfl⟩,trivial⟩
abbrev Ai6:=eN [] {A1:=[(4,[0,1,5])],Bv:=[(4,[4])]}
def AlZ a b (z_:Int):=sT 26 [(0,dD ALT a),(1,dD ALT b),(5,dI z_)] []
def Akl(a b:ALx):=Sum.elim (λ(c:Unit)=>xR 26 [(4,dB false)] []) (λ(d:Unit)=>xE 0 26 [] [])
def TK(a b:ALx)(e:Int):AL8 (Int⊕(Unit⊕Unit)):=
 bif decide (e<(a.length:Int))then
 if 0<=e/\e<a.length then
 if 0<=e/\e<b.length then
 bif (a.getD e.toNat ALP.zero) !=(b.getD e.toNat ALP.zero)then
 some (.inr (.inl ()))
 else
 some (.inl (wI (e+1)))
 else none
 else none
 else
 some (.inr (.inr ()))
def JD a b (z_:Int):=TK a b z_
def VB a b e:=fix (JD a b) e
theorem AnP a b:A0 Ai6 0 4 (code f34) 58 (AlZ a b) (JD a b) (Akl a b):=by
 intro _;simp only[JD,TK,ALh];kernel_rfl
def F9(a b:ALx):AL8 Bool:=
 bif (a.length:Int) !=(b.length:Int)then
 some false
 else
 (VB a b 0).bind (Sum.elim (λc=>some false) (λd=>some true))
def c34:=B6 [.d ALT,.d ALT] [⟨[.Ax [] ALT,.Ax [] ALT],[],Bool,λp=>F9 p.1.1 p.1.2.1,λr=>(dB r,[])⟩]
theorem dm:Ap prog 34 c34:=As (fn:=f34) ⟨⟨Ai6,pk trivial,λ_ R K=>by
 simp only[F9,ALi];simp(disch:=refine id ?_;kernel_rfl) only[VB,Az (AnP _ _) (K:=AY Ai6 f34 0 R K)];kernel_rfl⟩,trivial⟩
abbrev Ai7:=eN [(34,c34)] {A1:=[(4,[0,1,5])],Bv:=[(4,[4])]}
def Al0 a b (z_:Int):=sT 27 [(0,dD AL3 a),(1,dD AL3 b),(5,dI z_)] []
def Akm(a b:ALK):=Sum.elim (λ(c:Unit)=>xR 27 [(4,dB false)] []) (λ(d:Unit)=>xE 0 27 [] [])
def SZ(a b:ALK)(e:Int):AL8 (Int⊕(Unit⊕Unit)):=
 bif decide (e<(a.length:Int))then
 if 0<=e/\e<a.length then
 if 0<=e/\e<b.length then
 (F9 (a.getD e.toNat ALT.zero) (b.getD e.toNat ALT.zero)).bind λg=>bif !g then
 some (.inr (.inl ()))
 else
 some (.inl (wI (e+1)))
 else none
 else none
 else
 some (.inr (.inr ()))
def IB a b (z_:Int):=SZ a b z_
def Uw a b e:=fix (IB a b) e
theorem AnQ a b:A0 Ai7 0 4 (code f55) 58 (Al0 a b) (IB a b) (Akm a b):=by
 intro _;simp only[IB,SZ,ALh];kernel_rfl
def PV(a b:ALK):AL8 Bool:=
 bif (a.length:Int) !=(b.length:Int)then
 some false
 else
 (Uw a b 0).bind (Sum.elim (λc=>some false) (λd=>some true))
def c55:=B6 [.d AL3,.d AL3] [⟨[.Ax [] AL3,.Ax [] AL3],[],Bool,λp=>PV p.1.1 p.1.2.1,λr=>(dB r,[])⟩]
theorem Agh:Ap prog 55 c55:=As (fn:=f55) ⟨⟨Ai7,pk ⟨dm,trivial⟩,λ_ R K=>by
 simp only[PV,ALi];simp(disch:=refine id ?_;kernel_rfl) only[Uw,Az (AnQ _ _) (K:=AY Ai7 f55 0 R K)];kernel_rfl⟩,trivial⟩
abbrev ABi:=eN [(55,c55)] {}
def LD(a b:ALr):AL8 Bool:=
 (PV a.1 b.1).bind λc=>bif !c then
 some false
 else
 some true
def c17:=B6 [.d Aj,.d Aj] [⟨[.Ax [] Aj,.Ax [] Aj],[],Bool,λp=>LD p.1.1 p.1.2.1,λr=>(dB r,[])⟩]
theorem vL:Ap prog 17 c17:=As (fn:=f17) ⟨⟨ABi,pk ⟨Agh,trivial⟩,λ_ R K=>by
 simp only[LD,ALi];kernel_rfl⟩,trivial⟩
abbrev Ai8:=eN [] {A1:=[(4,[0,1,5])],Bv:=[(4,[4])]}
def Al1 a b (z_:Int):=sT 26 [(0,dD ALZ a),(1,dD ALZ b),(5,dI z_)] []
def Akn(a b:ALx):=Sum.elim (λ(c:Unit)=>xR 26 [(4,dB false)] []) (λ(d:Unit)=>xE 0 26 [] [])
def S0(a b:ALx)(e:Int):AL8 (Int⊕(Unit⊕Unit)):=
 bif decide (e<(a.length:Int))then
 if 0<=e/\e<a.length then
 if 0<=e/\e<b.length then
 bif (a.getD e.toNat ALQ.zero) !=(b.getD e.toNat ALQ.zero)then
 some (.inr (.inl ()))
 else
 some (.inl (wI (e+1)))
 else none
 else none
 else
 some (.inr (.inr ()))
def IC a b (z_:Int):=S0 a b z_
def Ux a b e:=fix (IC a b) e
theorem AnR a b:A0 Ai8 0 4 (code f74) 58 (Al1 a b) (IC a b) (Akn a b):=by
 intro _;simp only[IC,S0,ALh];kernel_rfl
def PW(a b:ALx):AL8 Bool:=
 bif (a.length:Int) !=(b.length:Int)then
 some false
 else
 (Ux a b 0).bind (Sum.elim (λc=>some false) (λd=>some true))
def c74:=B6 [.d ALZ,.d ALZ] [⟨[.Ax [] ALZ,.Ax [] ALZ],[],Bool,λp=>PW p.1.1 p.1.2.1,λr=>(dB r,[])⟩]
theorem Agr:Ap prog 74 c74:=As (fn:=f74) ⟨⟨Ai8,pk trivial,λ_ R K=>by
 simp only[PW,ALi];simp(disch:=refine id ?_;kernel_rfl) only[Ux,Az (AnR _ _) (K:=AY Ai8 f74 0 R K)];kernel_rfl⟩,trivial⟩
abbrev ABj:=eN [(74,c74)] {}
def Pf(a b:ALq):AL8 Bool:=
 bif a.1 !=b.1 then
 some false
 else
 (PW a.2.1 b.2.1).bind λc=>bif !c then
 some false
 else
 some true
def c27:=B6 [.d Ah,.d Ah] [⟨[.Ax [] Ah,.Ax [] Ah],[],Bool,λp=>Pf p.1.1 p.1.2.1,λr=>(dB r,[])⟩]
theorem vN:Ap prog 27 c27:=As (fn:=f27) ⟨⟨ABj,pk ⟨Agr,trivial⟩,λ_ R K=>by
 simp only[Pf,ALi];kernel_rfl⟩,trivial⟩
abbrev ABk:=eN [(27,c27),(34,c34)] {}
def Mn(a b:ALs):AL8 Bool:=
 (F9 a.1 b.1).bind λc=>bif !c then
 some false
 else
 bif !(a.2.1==b.2.1)then
 some false
 else
 (Pf a.2.2.1 b.2.2.1).bind λd=>bif !d then
 some false
 else
 some true
def AxP:=B6 [.d Ak,.d Ak] [⟨[.Ax [] Ak,.Ax [] Ak],[],Bool,λp=>Mn p.1.1 p.1.2.1,λr=>(dB r,[])⟩]
theorem Aa9:Ap prog 106 AxP:=As (fn:=f106) ⟨⟨ABk,pk ⟨vN,dm,trivial⟩,λ_ R K=>by
 simp only[Mn,ALi];kernel_rfl⟩,trivial⟩
abbrev Ai9:=eN [(106,AxP)] {A1:=[(4,[0,1,5])],Bv:=[(4,[4])]}
def Al2 a b (z_:Int):=sT 27 [(0,dD AL2 a),(1,dD AL2 b),(5,dI z_)] []
def Ako(a b:ALH):=Sum.elim (λ(c:Unit)=>xR 27 [(4,dB false)] []) (λ(d:Unit)=>xE 0 27 [] [])
def TJ(a b:ALH)(e:Int):AL8 (Int⊕(Unit⊕Unit)):=
 bif decide (e<(a.length:Int))then
 if 0<=e/\e<a.length then
 if 0<=e/\e<b.length then
 (Mn (a.getD e.toNat Ak.zero) (b.getD e.toNat Ak.zero)).bind λg=>bif !g then
 some (.inr (.inl ()))
 else
 some (.inl (wI (e+1)))
 else none
 else none
 else
 some (.inr (.inr ()))
def JC a b (z_:Int):=TJ a b z_
def VA a b e:=fix (JC a b) e
theorem AnS a b:A0 Ai9 0 4 (code f52) 58 (Al2 a b) (JC a b) (Ako a b):=by
 intro _;simp only[JC,TJ,ALh];kernel_rfl
def Rv(a b:ALH):AL8 Bool:=
 bif (a.length:Int) !=(b.length:Int)then
 some false
 else
 (VA a b 0).bind (Sum.elim (λc=>some false) (λd=>some true))
def c52:=B6 [.d AL2,.d AL2] [⟨[.Ax [] AL2,.Ax [] AL2],[],Bool,λp=>Rv p.1.1 p.1.2.1,λr=>(dB r,[])⟩]
theorem Age:Ap prog 52 c52:=As (fn:=f52) ⟨⟨Ai9,pk ⟨Aa9,trivial⟩,λ_ R K=>by
 simp only[Rv,ALi];simp(disch:=refine id ?_;kernel_rfl) only[VA,Az (AnS _ _) (K:=AY Ai9 f52 0 R K)];kernel_rfl⟩,trivial⟩
abbrev ABm:=eN [(17,c17),(34,c34),(52,c52)] {}
def GJ(a b:ALj):AL8 Bool:=
 (LD a.1 b.1).bind λc=>bif !c then
 some false
 else
 (Rv a.2.1 b.2.1).bind λd=>bif !d then
 some false
 else
 (F9 a.2.2.1 b.2.2.1).bind λe=>bif !e then
 some false
 else
 some true
def c14:=B6 [.d AG,.d AG] [⟨[.Ax [] AG,.Ax [] AG],[],Bool,λp=>GJ p.1.1 p.1.2.1,λr=>(dB r,[])⟩]
theorem AfR:Ap prog 14 c14:=As (fn:=f14) ⟨⟨ABm,pk ⟨vL,dm,Age,trivial⟩,λ_ R K=>by
 simp only[GJ,ALi];kernel_rfl⟩,trivial⟩
abbrev AqB:=eN [] {}
def LF(a b:ALm):Bool:=((!(!(Jj a.1 b.1)))&&((!(a.2.1 !=b.2.1))&&true))
theorem ABT R a b K:R4 AqB f53 R [dD Ad a,dD Ad b] [] K=K (dB (LF a b)) []:=by
 refine .trans (b:=
 bif !(Jj a.1 b.1)then
 K (dB false) []
 else
 bif a.2.1 !=b.2.1 then
 K (dB false) []
 else
 K (dB true) []) (by kernel_rfl) ?_
 unfold LF;cases (!(Jj a.1 b.1));cases (a.2.1 !=b.2.1);rfl;rfl;rfl
def c53:=B6 [.d Ad,.d Ad] [⟨[.Ax [] Ad,.Ax [] Ad],[],Bool,λp=>some (LF p.1.1 p.1.2.1),λr=>(dB r,[])⟩]
theorem Agf:Ap prog 53 c53:=As ⟨⟨AqB,pk trivial,λ_ _ _=>ABT ..⟩,trivial⟩
abbrev Aja:=eN [(53,c53)] {A1:=[(4,[0,1,5])],Bv:=[(4,[4])]}
def Al3 a b (z_:Int):=sT 27 [(0,dD ALU a),(1,dD ALU b),(5,dI z_)] []
def Akp(a b:ALC):=Sum.elim (λ(c:Unit)=>xR 27 [(4,dB false)] []) (λ(d:Unit)=>xE 0 27 [] [])
def Uv(a b:ALC)(e:Int):AL8 (Int⊕(Unit⊕Unit)):=
 bif decide (e<(a.length:Int))then
 if 0<=e/\e<a.length then
 if 0<=e/\e<b.length then
 bif !(LF (a.getD e.toNat Ad.zero) (b.getD e.toNat Ad.zero))then
 some (.inr (.inl ()))
 else
 some (.inl (wI (e+1)))
 else none
 else none
 else
 some (.inr (.inr ()))
def KW a b (z_:Int):=Uv a b z_
def Wx a b e:=fix (KW a b) e
theorem AnT a b:A0 Aja 0 4 (code f15) 58 (Al3 a b) (KW a b) (Akp a b):=by
 intro _;simp only[KW,Uv,ALh];kernel_rfl
def Tb(a b:ALC):AL8 Bool:=
 bif (a.length:Int) !=(b.length:Int)then
 some false
 else
 (Wx a b 0).bind (Sum.elim (λc=>some false) (λd=>some true))
def c15:=B6 [.d ALU,.d ALU] [⟨[.Ax [] ALU,.Ax [] ALU],[],Bool,λp=>Tb p.1.1 p.1.2.1,λr=>(dB r,[])⟩]
theorem AfS:Ap prog 15 c15:=As (fn:=f15) ⟨⟨Aja,pk ⟨Agf,trivial⟩,λ_ R K=>by
 simp only[Tb,ALi];simp(disch:=refine id ?_;kernel_rfl) only[Wx,Az (AnT _ _) (K:=AY Aja f15 0 R K)];kernel_rfl⟩,trivial⟩
abbrev ABn:=eN [(27,c27),(34,c34)] {}
def Mp(a b:ALo):AL8 Bool:=
 bif a.1 !=b.1 then
 some false
 else
 bif a.2.1 !=b.2.1 then
 some false
 else
 bif a.2.2.1 !=b.2.2.1 then
 some false
 else
 bif a.2.2.2.1 !=b.2.2.2.1 then
 some false
 else
 (Pf a.2.2.2.2.1 b.2.2.2.2.1).bind λc=>bif !c then
 some false
 else
 (F9 a.2.2.2.2.2.1 b.2.2.2.2.2.1).bind λd=>bif !d then
 some false
 else
 some true
def Ax1:=B6 [.d Af,.d Af] [⟨[.Ax [] Af,.Ax [] Af],[],Bool,λp=>Mp p.1.1 p.1.2.1,λr=>(dB r,[])⟩]
theorem Abl:Ap prog 129 Ax1:=As (fn:=f129) ⟨⟨ABn,pk ⟨vN,dm,trivial⟩,λ_ R K=>by
 simp only[Mp,ALi];kernel_rfl⟩,trivial⟩
abbrev Ajb:=eN [(129,Ax1)] {A1:=[(4,[0,1,5])],Bv:=[(4,[4])]}
def Al4 a b (z_:Int):=sT 27 [(0,dD AL0 a),(1,dD AL0 b),(5,dI z_)] []
def Akq(a b:ALE):=Sum.elim (λ(c:Unit)=>xR 27 [(4,dB false)] []) (λ(d:Unit)=>xE 0 27 [] [])
def TM(a b:ALE)(e:Int):AL8 (Int⊕(Unit⊕Unit)):=
 bif decide (e<(a.length:Int))then
 if 0<=e/\e<a.length then
 if 0<=e/\e<b.length then
 (Mp (a.getD e.toNat Af.zero) (b.getD e.toNat Af.zero)).bind λg=>bif !g then
 some (.inr (.inl ()))
 else
 some (.inl (wI (e+1)))
 else none
 else none
 else
 some (.inr (.inr ()))
def JE a b (z_:Int):=TM a b z_
def VC a b e:=fix (JE a b) e
theorem AnU a b:A0 Ajb 0 4 (code f75) 58 (Al4 a b) (JE a b) (Akq a b):=by
 intro _;simp only[JE,TM,ALh];kernel_rfl
def Rw(a b:ALE):AL8 Bool:=
 bif (a.length:Int) !=(b.length:Int)then
 some false
 else
 (VC a b 0).bind (Sum.elim (λc=>some false) (λd=>some true))
def c75:=B6 [.d AL0,.d AL0] [⟨[.Ax [] AL0,.Ax [] AL0],[],Bool,λp=>Rw p.1.1 p.1.2.1,λr=>(dB r,[])⟩]
theorem Ags:Ap prog 75 c75:=As (fn:=f75) ⟨⟨Ajb,pk ⟨Abl,trivial⟩,λ_ R K=>by
 simp only[Rw,ALi];simp(disch:=refine id ?_;kernel_rfl) only[VC,Az (AnU _ _) (K:=AY Ajb f75 0 R K)];kernel_rfl⟩,trivial⟩
abbrev ABo:=eN [(75,c75)] {}
def Pg(a b:ALv):AL8 Bool:=
 (Rw a.1 b.1).bind λc=>bif !c then
 some false
 else
 some true
def c28:=B6 [.d Ar,.d Ar] [⟨[.Ax [] Ar,.Ax [] Ar],[],Bool,λp=>Pg p.1.1 p.1.2.1,λr=>(dB r,[])⟩]
theorem Af1:Ap prog 28 c28:=As (fn:=f28) ⟨⟨ABo,pk ⟨Ags,trivial⟩,λ_ R K=>by
 simp only[Pg,ALi];kernel_rfl⟩,trivial⟩
abbrev ABp:=eN [(28,c28)] {}
def I3(a b:ALp):AL8 Bool:=
 bif a.1 !=b.1 then
 some false
 else
 bif !(a.2.1==b.2.1)then
 some false
 else
 (Pg a.2.2.1 b.2.2.1).bind λc=>bif !c then
 some false
 else
 (Pg a.2.2.2.1 b.2.2.2.1).bind λd=>bif !d then
 some false
 else
 some true
def c54:=B6 [.d Ag,.d Ag] [⟨[.Ax [] Ag,.Ax [] Ag],[],Bool,λp=>I3 p.1.1 p.1.2.1,λr=>(dB r,[])⟩]
theorem Agg:Ap prog 54 c54:=As (fn:=f54) ⟨⟨ABp,pk ⟨Af1,trivial⟩,λ_ R K=>by
 simp only[I3,ALi];kernel_rfl⟩,trivial⟩
abbrev Ajc:=eN [(54,c54)] {A1:=[(4,[0,1,5])],Bv:=[(4,[4])]}
def Al5 a b (z_:Int):=sT 27 [(0,dD ALY a),(1,dD ALY b),(5,dI z_)] []
def Akr(a b:ALF):=Sum.elim (λ(c:Unit)=>xR 27 [(4,dB false)] []) (λ(d:Unit)=>xE 0 27 [] [])
def RS(a b:ALF)(e:Int):AL8 (Int⊕(Unit⊕Unit)):=
 bif decide (e<(a.length:Int))then
 if 0<=e/\e<a.length then
 if 0<=e/\e<b.length then
 (I3 (a.getD e.toNat Ag.zero) (b.getD e.toNat Ag.zero)).bind λg=>bif !g then
 some (.inr (.inl ()))
 else
 some (.inl (wI (e+1)))
 else none
 else none
 else
 some (.inr (.inr ()))
def HG a b (z_:Int):=RS a b z_
def TL a b e:=fix (HG a b) e
theorem AnV a b:A0 Ajc 0 4 (code f16) 58 (Al5 a b) (HG a b) (Akr a b):=by
 intro _;simp only[HG,RS,ALh];kernel_rfl
def Oa(a b:ALF):AL8 Bool:=
 bif (a.length:Int) !=(b.length:Int)then
 some false
 else
 (TL a b 0).bind (Sum.elim (λc=>some false) (λd=>some true))
def c16:=B6 [.d ALY,.d ALY] [⟨[.Ax [] ALY,.Ax [] ALY],[],Bool,λp=>Oa p.1.1 p.1.2.1,λr=>(dB r,[])⟩]
theorem AfU:Ap prog 16 c16:=As (fn:=f16) ⟨⟨Ajc,pk ⟨Agg,trivial⟩,λ_ R K=>by
 simp only[Oa,ALi];simp(disch:=refine id ?_;kernel_rfl) only[TL,Az (AnV _ _) (K:=AY Ajc f16 0 R K)];kernel_rfl⟩,trivial⟩
abbrev Ajd:=eN [] {A1:=[(4,[0,3])],Bv:=[(4,[3])]}
def Al6(z_:Int×ByteArray):=sT 20 [(0,dI z_.1),(3,dD .str z_.2)] []
def Aks:=λ(a:ByteArray)=>xE 0 20 [(3,dD .str a)] []
def OS(b:Int)(c:ByteArray):AL8 ((Int×ByteArray)⊕ByteArray):=
 bif decide (b>0)then
 if(bytesOf ([IntKind.u8.wrap (wI (48+(Int.tmod b 10)))]:ALx)).size+c.size<=9223372036854775807 then
 some (.inl (wI (Int.tdiv b 10),(bytesOf ([IntKind.u8.wrap (wI (48+(Int.tmod b 10)))]:ALx))++c))
 else none
 else
 some (.inr c)
def JK(z_:Int×ByteArray):=OS z_.1 z_.2
def Q2 b c:=fix (JK) (b,c)
theorem AnW:A0 Ajd 0 4 (code f56) 60 (Al6) (JK) (Aks):=by
 intro _;simp only[JK,OS,ALh];kernel_rfl
def ND(d:Int):AL8 ByteArray:=
 bif decide (d<=0)then
 some (⟨#[109,48]⟩:ByteArray)
 else
 (Q2 d (⟨#[]⟩:ByteArray)).bind λa=>if(⟨#[109]⟩:ByteArray).size+a.size<=9223372036854775807 then
 some ((⟨#[109]⟩:ByteArray)++a)
 else none
def c56:=B6 [.d ALP] [⟨[.Ax [] ALP],[],ByteArray,λp=>ND p.1.1,λr=>(dD .str r,[])⟩]
theorem Agi:Ap prog 56 c56:=As (fn:=f56) ⟨⟨Ajd,pk trivial,λ_ R K=>by
 simp only[ND,ALi];simp(disch:=refine id ?_;kernel_rfl) only[Q2,Az (AnW) (K:=AY Ajd f56 0 R K)];kernel_rfl⟩,trivial⟩
abbrev Aje:=eN [(56,c56)] {A1:=[(2,[0,1,5])],Bv:=[(2,[1])]}
def Al7(z_:Int×Int×ALC):=sT 28 [(0,.Am 0),(1,dI z_.1),(5,dI z_.2.1)] [.row 105 .Ai Ad z_.2.2]
def Akt:=λ(a:(Int×ALC))=>xE 0 28 [(1,dI a.1)] [.row 105 .Ai Ad a.2]
def ID(b c:Int)(d:ALC):AL8 ((Int×Int×ALC)⊕(Int×ALC)):=
 bif decide (c<(d.length:Int))then
 (ND b).bind λe=>if 0<=c/\c<d.length then
 if 0<=c/\c<(d.set c.toNat (e,(d.getD c.toNat Ad.zero).2)).length then
 some (.inl (wI ((wI (b+1))+1),wI (c+1),(d.set c.toNat (e,(d.getD c.toNat Ad.zero).2)).set c.toNat (((d.set c.toNat (e,(d.getD c.toNat Ad.zero).2)).getD c.toNat Ad.zero).1,wI (b+1),((d.set c.toNat (e,(d.getD c.toNat Ad.zero).2)).getD c.toNat Ad.zero).2.2)))
 else none
 else none
 else
 some (.inr (b,d))
def DK(z_:Int×Int×ALC):=ID z_.1 z_.2.1 z_.2.2
def PX b c d:=fix (DK) (b,c,d)
theorem AnX:A0 Aje 1 2 (code f18) 26 (Al7) (DK) (Akt):=by
 intro _;simp only[DK,ID,ALh];kernel_rfl
def LG(g:Int)(i:ALC):AL8 (Int×ALC):=
 (PX g 0 i).bind λa=>some (a.1,a.2)
def c18:=B6 [.UJ,.d ALP] [⟨[.k (.Am 0),.Ax [] ALP],[.row 105 .Ai Ad],Int×ALC,λp=>LG p.1.2.1 p.2.1,λr=>(dI r.1,[.row 105 .Ai Ad r.2])⟩]
theorem AfV:Ap prog 18 c18:=As (fn:=f18) ⟨⟨Aje,pk ⟨Agi,trivial⟩,λ_ R K=>by
 simp only[LG,ALi];simp(disch:=refine id ?_;kernel_rfl) only[PX,Az (AnX) (K:=AY Aje f18 1 R K)];kernel_rfl⟩,trivial⟩
abbrev Ajf:=eN [] {A1:=[(2,[0,1,5])],Bv:=[(2,[1])]}
def Al8(z_:Int×Int×ALx):=sT 20 [(0,.Am 0),(1,dI z_.1),(5,dI z_.2.1)] [.row 0 .Ai ALQ z_.2.2]
def Aku:=λ(a:(Int×ALx))=>xE 0 20 [(1,dI a.1)] [.row 0 .Ai ALQ a.2]
def G6(b c:Int)(d:ALx):AL8 ((Int×Int×ALx)⊕(Int×ALx)):=
 bif decide (c<(d.length:Int))then
 if 0<=c/\c<d.length then
 some (.inl (wI (b+1),wI (c+1),d.set c.toNat (IntKind.u64.wrap b)))
 else none
 else
 some (.inr (b,d))
def CZ(z_:Int×Int×ALx):=G6 z_.1 z_.2.1 z_.2.2
def Ni b c d:=fix (CZ) (b,c,d)
theorem AnY:A0 Ajf 1 2 (code f76) 26 (Al8) (CZ) (Aku):=by
 intro _;simp only[CZ,G6,ALh];kernel_rfl
def Gm(e:Int)(g:ALx):AL8 (Int×ALx):=
 (Ni e 0 g).bind λa=>some (a.1,a.2)
def c76:=B6 [.UJ,.d ALP] [⟨[.k (.Am 0),.Ax [] ALP],[.row 0 .Ai ALQ],Int×ALx,λp=>Gm p.1.2.1 p.2.1,λr=>(dI r.1,[.row 0 .Ai ALQ r.2])⟩]
theorem vS:Ap prog 76 c76:=As (fn:=f76) ⟨⟨Ajf,pk trivial,λ_ R K=>by
 simp only[Gm,ALi];simp(disch:=refine id ?_;kernel_rfl) only[Ni,Az (AnY) (K:=AY Ajf f76 1 R K)];kernel_rfl⟩,trivial⟩
abbrev Ajg:=eN [] {A1:=[(2,[0,1,5])],Bv:=[(2,[1])]}
def Al9(z_:Int×Int×ALx):=sT 19 [(0,.Am 0),(1,dI z_.1),(5,dI z_.2.1)] [.row 0 .Ai ALP z_.2.2]
def Akv:=λ(a:(Int×ALx))=>xE 0 19 [(1,dI a.1)] [.row 0 .Ai ALP a.2]
def FT(b c:Int)(d:ALx):AL8 ((Int×Int×ALx)⊕(Int×ALx)):=
 bif decide (c<(d.length:Int))then
 if 0<=c/\c<d.length then
 some (.inl (wI (b+1),wI (c+1),d.set c.toNat b))
 else none
 else
 some (.inr (b,d))
def CK(z_:Int×Int×ALx):=FT z_.1 z_.2.1 z_.2.2
def LH b c d:=fix (CK) (b,c,d)
theorem AnZ:A0 Ajg 1 2 (code f35) 26 (Al9) (CK) (Akv):=by
 intro _;simp only[CK,FT,ALh];kernel_rfl
def Dr(e:Int)(g:ALx):AL8 (Int×ALx):=
 (LH e 0 g).bind λa=>some (a.1,a.2)
abbrev Ajh:=eN [] {A1:=[(2,[0,1,5])],Bv:=[(2,[1])]}
def Ama(z_:Int×Int×ALx):=sT 19 [(0,.Am 0),(1,dI z_.1),(5,dI z_.2.1)] [.row 2 .Ai ALP z_.2.2]
def Akw:=λ(a:(Int×ALx))=>xE 0 19 [(1,dI a.1)] [.row 2 .Ai ALP a.2]
def PY(b c:Int)(d:ALx):AL8 ((Int×Int×ALx)⊕(Int×ALx)):=
 bif decide (c<(d.length:Int))then
 if 0<=c/\c<d.length then
 some (.inl (wI (b+1),wI (c+1),d.set c.toNat b))
 else none
 else
 some (.inr (b,d))
def JG(z_:Int×Int×ALx):=PY z_.1 z_.2.1 z_.2.2
def RU b c d:=fix (JG) (b,c,d)
theorem An0:A0 Ajh 1 2 (code f35) 26 (Ama) (JG) (Akw):=by
 intro _;simp only[JG,PY,ALh];kernel_rfl
def KX(e:Int)(g:ALx):AL8 (Int×ALx):=
 (RU e 0 g).bind λa=>some (a.1,a.2)
def c35:=B6 [.UJ,.d ALP] [⟨[.k (.Am 0),.Ax [] ALP],[.row 0 .Ai ALP],Int×ALx,λp=>Dr p.1.2.1 p.2.1,λr=>(dI r.1,[.row 0 .Ai ALP r.2])⟩,⟨[.k (.Am 0),.Ax [] ALP],[.row 2 .Ai ALP],Int×ALx,λp=>KX p.1.2.1 p.2.1,λr=>(dI r.1,[.row 2 .Ai ALP r.2])⟩]
theorem dn:Ap prog 35 c35:=As (fn:=f35) ⟨⟨Ajg,pk trivial,λ_ R K=>by
 simp only[Dr,ALi];simp(disch:=refine id ?_;kernel_rfl) only[LH,Az (AnZ) (K:=AY Ajg f35 1 R K)];kernel_rfl⟩,⟨Ajh,pk trivial,λ_ R K=>by
 simp only[KX,ALi];simp(disch:=refine id ?_;kernel_rfl) only[RU,Az (An0) (K:=AY Ajh f35 1 R K)];kernel_rfl⟩,trivial⟩
abbrev lA:=eN [(35,c35),(76,c76)] {rl:=[(53,199),(60,2)],A1:=[(2,[0,1,5])],Bv:=[(2,[1])],BR:=[(3,[0,1,5]),(9,[0,1,5]),(13,[0,1,5])],D2:=[(3,[0,1,5]),(9,[0,1,5]),(13,[0,1,5])]}
def Ame(z_:Int×Int×ALE):=sT 64 [(0,.Am 0),(1,dI z_.1),(5,dI z_.2.1)] [.row 0 .Ai Af z_.2.2]
def AkA:=λ(a:(Int×ALE))=>xE 0 64 [(1,dI a.1)] [.row 0 .Ai Af a.2]
def Amd b c d:=sT 64 [(0,.Am 0),(1,dI b),(5,dI c)] [.row 0 .Ai Af d]
def Akz(b:Int) c (d:ALE):=λ(e:(Int×ALE))=>xN 64 [(0,.Am 0),(1,dI e.1),(5,dI c)] [.row 0 .Ai Af e.2]
def Amc c g i:=sT 64 [(0,.Am 0),(1,dI g),(5,dI c)] [.row 0 .Ai Af i]
def Aky c g (i:ALE):=λ(j:ALE)=>xN 64 [(0,.Am 0),(1,dI g),(5,dI c)] [.row 0 .Ai Af j]
def JI(c g:Int)(i:ALE):AL8 ALE:=
 if 0<=c/\c<i.length then
 some (i.set c.toNat ((i.getD c.toNat Af.zero).1,(i.getD c.toNat Af.zero).2.1,(i.getD c.toNat Af.zero).2.2.1,(i.getD c.toNat Af.zero).2.2.2.1,(g,(i.getD c.toNat Af.zero).2.2.2.2.1.2),(i.getD c.toNat Af.zero).2.2.2.2.2))
 else none
theorem An2 c g i:AP lA 1 13 (sb (cd f57 52) 6) 1534 (Amc c g i) (JI c g i) (Aky c g i):=by
 unfold AP;simp only[JI,ALh];kernel_rfl
def Amb c k l:=sT 64 [(0,.Am 0),(1,dI k),(5,dI c)] [.row 0 .Ai Af l]
def Akx c k (l:ALE):=λ(n:ALE)=>xN 64 [(0,.Am 0),(1,dI k),(5,dI c)] [.row 0 .Ai Af n]
def JH(c k:Int)(l:ALE):AL8 ALE:=
 if 0<=c/\c<l.length then
 some (l.set c.toNat ((l.getD c.toNat Af.zero).1,(l.getD c.toNat Af.zero).2.1,k,(l.getD c.toNat Af.zero).2.2.2))
 else none
theorem An1 c k l:AP lA 1 9 (sb (cd f57 52) 6) 94 (Amb c k l) (JH c k l) (Akx c k l):=by
 unfold AP;simp only[JH,ALh];kernel_rfl
def JJ(b c:Int)(d:ALE):AL8 (Int×ALE):=
 if 0<=c/\c<d.length then
 if 0<=c/\c<(d.set c.toNat (b,(d.getD c.toNat Af.zero).2)).length then
 (JH c (wI ((wI (b+1))+1)) ((d.set c.toNat (b,(d.getD c.toNat Af.zero).2)).set c.toNat (((d.set c.toNat (b,(d.getD c.toNat Af.zero).2)).getD c.toNat Af.zero).1,wI (b+1),((d.set c.toNat (b,(d.getD c.toNat Af.zero).2)).getD c.toNat Af.zero).2.2))).bind λn=>if 0<=c/\c<n.length then
 (JI c (wI ((wI ((wI ((wI (b+1))+1))+1))+1)) (n.set c.toNat ((n.getD c.toNat Af.zero).1,(n.getD c.toNat Af.zero).2.1,(n.getD c.toNat Af.zero).2.2.1,wI ((wI ((wI (b+1))+1))+1),(n.getD c.toNat Af.zero).2.2.2.2))).bind λj=>if 0<=c/\c<j.length then
 (Gm (wI ((wI ((wI ((wI ((wI (b+1))+1))+1))+1))+1)) (j.getD c.toNat Af.zero).2.2.2.2.1.2.1).bind λo=>if 0<=c/\c<(j.set c.toNat ((j.getD c.toNat Af.zero).1,(j.getD c.toNat Af.zero).2.1,(j.getD c.toNat Af.zero).2.2.1,(j.getD c.toNat Af.zero).2.2.2.1,((j.getD c.toNat Af.zero).2.2.2.2.1.1,o.2,(j.getD c.toNat Af.zero).2.2.2.2.1.2.2),(j.getD c.toNat Af.zero).2.2.2.2.2)).length then
 (Dr o.1 ((j.set c.toNat ((j.getD c.toNat Af.zero).1,(j.getD c.toNat Af.zero).2.1,(j.getD c.toNat Af.zero).2.2.1,(j.getD c.toNat Af.zero).2.2.2.1,((j.getD c.toNat Af.zero).2.2.2.2.1.1,o.2,(j.getD c.toNat Af.zero).2.2.2.2.1.2.2),(j.getD c.toNat Af.zero).2.2.2.2.2)).getD c.toNat Af.zero).2.2.2.2.2.1).bind λq=>some (q.1,(j.set c.toNat ((j.getD c.toNat Af.zero).1,(j.getD c.toNat Af.zero).2.1,(j.getD c.toNat Af.zero).2.2.1,(j.getD c.toNat Af.zero).2.2.2.1,((j.getD c.toNat Af.zero).2.2.2.2.1.1,o.2,(j.getD c.toNat Af.zero).2.2.2.2.1.2.2),(j.getD c.toNat Af.zero).2.2.2.2.2)).set c.toNat (((j.set c.toNat ((j.getD c.toNat Af.zero).1,(j.getD c.toNat Af.zero).2.1,(j.getD c.toNat Af.zero).2.2.1,(j.getD c.toNat Af.zero).2.2.2.1,((j.getD c.toNat Af.zero).2.2.2.2.1.1,o.2,(j.getD c.toNat Af.zero).2.2.2.2.1.2.2),(j.getD c.toNat Af.zero).2.2.2.2.2)).getD c.toNat Af.zero).1,((j.set c.toNat ((j.getD c.toNat Af.zero).1,(j.getD c.toNat Af.zero).2.1,(j.getD c.toNat Af.zero).2.2.1,(j.getD c.toNat Af.zero).2.2.2.1,((j.getD c.toNat Af.zero).2.2.2.2.1.1,o.2,(j.getD c.toNat Af.zero).2.2.2.2.1.2.2),(j.getD c.toNat Af.zero).2.2.2.2.2)).getD c.toNat Af.zero).2.1,((j.set c.toNat ((j.getD c.toNat Af.zero).1,(j.getD c.toNat Af.zero).2.1,(j.getD c.toNat Af.zero).2.2.1,(j.getD c.toNat Af.zero).2.2.2.1,((j.getD c.toNat Af.zero).2.2.2.2.1.1,o.2,(j.getD c.toNat Af.zero).2.2.2.2.1.2.2),(j.getD c.toNat Af.zero).2.2.2.2.2)).getD c.toNat Af.zero).2.2.1,((j.set c.toNat ((j.getD c.toNat Af.zero).1,(j.getD c.toNat Af.zero).2.1,(j.getD c.toNat Af.zero).2.2.1,(j.getD c.toNat Af.zero).2.2.2.1,((j.getD c.toNat Af.zero).2.2.2.2.1.1,o.2,(j.getD c.toNat Af.zero).2.2.2.2.1.2.2),(j.getD c.toNat Af.zero).2.2.2.2.2)).getD c.toNat Af.zero).2.2.2.1,((j.set c.toNat ((j.getD c.toNat Af.zero).1,(j.getD c.toNat Af.zero).2.1,(j.getD c.toNat Af.zero).2.2.1,(j.getD c.toNat Af.zero).2.2.2.1,((j.getD c.toNat Af.zero).2.2.2.2.1.1,o.2,(j.getD c.toNat Af.zero).2.2.2.2.1.2.2),(j.getD c.toNat Af.zero).2.2.2.2.2)).getD c.toNat Af.zero).2.2.2.2.1,q.2,((j.set c.toNat ((j.getD c.toNat Af.zero).1,(j.getD c.toNat Af.zero).2.1,(j.getD c.toNat Af.zero).2.2.1,(j.getD c.toNat Af.zero).2.2.2.1,((j.getD c.toNat Af.zero).2.2.2.2.1.1,o.2,(j.getD c.toNat Af.zero).2.2.2.2.1.2.2),(j.getD c.toNat Af.zero).2.2.2.2.2)).getD c.toNat Af.zero).2.2.2.2.2.2))
 else none
 else none
 else none
 else none
 else none
theorem An3 b c d:AP lA 1 3 (cd f57 52) 6 (Amd b c d) (JJ b c d) (Akz b c d):=by
 unfold AP;simp only[JJ,ALh];simp(disch:=refine id ?_;kernel_rfl) only[A8 (An1 ..) (K:=Ta lA 1 3),A8 (An2 ..) (K:=Ta lA 1 3)];kernel_rfl
def HO(b c:Int)(d:ALE):AL8 ((Int×Int×ALE)⊕(Int×ALE)):=
 bif decide (c<(d.length:Int))then
 (JJ b c d).bind λe=>some (.inl (e.1,wI (c+1),e.2))
 else
 some (.inr (b,d))
def Df(z_:Int×Int×ALE):=HO z_.1 z_.2.1 z_.2.2
def OR b c d:=fix (Df) (b,c,d)
theorem An4:A0 lA 1 2 (code f57) 26 (Ame) (Df) (AkA):=by
 intro _;simp only[Df,HO,ALh];simp(disch:=refine id ?_;kernel_rfl) only[A8 (An3 ..) (K:=LP lA 1 2)];kernel_rfl
def Hj(s:Int)(t:ALE):AL8 (Int×ALE):=
 (OR s 0 t).bind λa=>some (a.1,a.2)
def c57:=B6 [.UJ,.d ALP] [⟨[.k (.Am 0),.Ax [] ALP],[.row 0 .Ai Af],Int×ALE,λp=>Hj p.1.2.1 p.2.1,λr=>(dI r.1,[.row 0 .Ai Af r.2])⟩]
theorem Agj:Ap prog 57 c57:=As (fn:=f57) ⟨⟨lA,pk ⟨dn,vS,trivial⟩,λ_ R K=>by
 simp only[Hj,ALi];simp(disch:=refine id ?_;kernel_rfl) only[OR,Az (An4) (K:=AY lA f57 1 R K)];kernel_rfl⟩,trivial⟩
abbrev lB:=eN [(57,c57)] {rl:=[(33,182),(41,182)],A1:=[(2,[0,1,5])],Bv:=[(2,[1])],BR:=[(3,[0,1,5]),(7,[0,1,5]),(9,[0,1,5])],D2:=[(3,[0,1,5]),(7,[0,1,5]),(9,[0,1,5])]}
def Ami(z_:Int×Int×ALF):=sT 45 [(0,.Am 0),(1,dI z_.1),(5,dI z_.2.1)] [.row 87 .Ai Ag z_.2.2]
def AkE:=λ(a:(Int×ALF))=>xE 0 45 [(1,dI a.1)] [.row 87 .Ai Ag a.2]
def Amh b c d:=sT 45 [(0,.Am 0),(1,dI b),(5,dI c)] [.row 87 .Ai Ag d]
def AkD(b:Int) c (d:ALF):=λ(e:(Int×ALF))=>xN 45 [(0,.Am 0),(1,dI e.1),(5,dI c)] [.row 87 .Ai Ag e.2]
def Amg c g i:=sT 45 [(0,.Am 0),(1,dI i),(5,dI c)] [.row 87 .Ai Ag g]
def AkC c (g:ALF) (i:Int):=λ(j:(Int×ALF))=>xN 45 [(0,.Am 0),(1,dI j.1),(5,dI c)] [.row 87 .Ai Ag j.2]
def HM(c:Int)(g:ALF)(i:Int):AL8 (Int×ALF):=
 if 0<=c/\c<g.length then
 (Hj i (g.getD c.toNat Ag.zero).2.2.1.1).bind λk=>some (k.1,g.set c.toNat ((g.getD c.toNat Ag.zero).1,(g.getD c.toNat Ag.zero).2.1,(k.2,(g.getD c.toNat Ag.zero).2.2.1.2),(g.getD c.toNat Ag.zero).2.2.2))
 else none
theorem An6 c g i:AP lB 1 9 (sb (cd f19 52) 6) 94 (Amg c g i) (HM c g i) (AkC c g i):=by
 unfold AP;simp only[HM,ALh];kernel_rfl
def Amf c l n:=sT 45 [(0,.Am 0),(1,dI l),(5,dI c)] [.row 87 .Ai Ag n]
def AkB c l (n:ALF):=λ(g:ALF)=>xN 45 [(0,.Am 0),(1,dI l),(5,dI c)] [.row 87 .Ai Ag g]
def HL(c l:Int)(n:ALF):AL8 ALF:=
 if 0<=c/\c<n.length then
 some (n.set c.toNat ((n.getD c.toNat Ag.zero).1,(Int.tmod l 3)==0,(n.getD c.toNat Ag.zero).2.2))
 else none
theorem An5 c l n:AP lB 1 7 (sb (cd f19 52) 6) 22 (Amf c l n) (HL c l n) (AkB c l n):=by
 unfold AP;simp only[HL,ALh];kernel_rfl
def HN(b c:Int)(d:ALF):AL8 (Int×ALF):=
 if 0<=c/\c<d.length then
 (HL c (wI (b+1)) (d.set c.toNat (b,(d.getD c.toNat Ag.zero).2))).bind λg=>(HM c g (wI ((wI (b+1))+1))).bind λj=>if 0<=c/\c<j.2.length then
 (Hj j.1 (j.2.getD c.toNat Ag.zero).2.2.2.1.1).bind λo=>some (o.1,j.2.set c.toNat ((j.2.getD c.toNat Ag.zero).1,(j.2.getD c.toNat Ag.zero).2.1,(j.2.getD c.toNat Ag.zero).2.2.1,(o.2,(j.2.getD c.toNat Ag.zero).2.2.2.1.2),(j.2.getD c.toNat Ag.zero).2.2.2.2))
 else none
 else none
theorem An7 b c d:AP lB 1 3 (cd f19 52) 6 (Amh b c d) (HN b c d) (AkD b c d):=by
 unfold AP;simp only[HN,ALh];simp(disch:=refine id ?_;kernel_rfl) only[A8 (An5 ..) (K:=Ta lB 1 3),A8 (An6 ..) (K:=Ta lB 1 3)];kernel_rfl
def FU(b c:Int)(d:ALF):AL8 ((Int×Int×ALF)⊕(Int×ALF)):=
 bif decide (c<(d.length:Int))then
 (HN b c d).bind λe=>some (.inl (e.1,wI (c+1),e.2))
 else
 some (.inr (b,d))
def CL(z_:Int×Int×ALF):=FU z_.1 z_.2.1 z_.2.2
def LJ b c d:=fix (CL) (b,c,d)
theorem An8:A0 lB 1 2 (code f19) 26 (Ami) (CL) (AkE):=by
 intro _;simp only[CL,FU,ALh];simp(disch:=refine id ?_;kernel_rfl) only[A8 (An7 ..) (K:=LP lB 1 2)];kernel_rfl
def HK(q:Int)(s:ALF):AL8 (Int×ALF):=
 (LJ q 0 s).bind λa=>some (a.1,a.2)
def c19:=B6 [.UJ,.d ALP] [⟨[.k (.Am 0),.Ax [] ALP],[.row 87 .Ai Ag],Int×ALF,λp=>HK p.1.2.1 p.2.1,λr=>(dI r.1,[.row 87 .Ai Ag r.2])⟩]
theorem AfW:Ap prog 19 c19:=As (fn:=f19) ⟨⟨lB,pk ⟨Agj,trivial⟩,λ_ R K=>by
 simp only[HK,ALi];simp(disch:=refine id ?_;kernel_rfl) only[LJ,Az (An8) (K:=AY lB f19 1 R K)];kernel_rfl⟩,trivial⟩
abbrev Aji:=eN [(35,c35)] {rl:=[(15,2)],A1:=[(2,[0,1,5])],Bv:=[(2,[1])]}
def Amj(z_:Int×Int×ALK):=sT 19 [(0,.Am 0),(1,dI z_.1),(5,dI z_.2.1)] [.row 32 .Ai ALT z_.2.2]
def AkF:=λ(a:(Int×ALK))=>xE 0 19 [(1,dI a.1)] [.row 32 .Ai ALT a.2]
def G5(b c:Int)(d:ALK):AL8 ((Int×Int×ALK)⊕(Int×ALK)):=
 bif decide (c<(d.length:Int))then
 if 0<=c/\c<d.length then
 (Dr b (d.getD c.toNat ALT.zero)).bind λe=>some (.inl (e.1,wI (c+1),d.set c.toNat e.2))
 else none
 else
 some (.inr (b,d))
def CY(z_:Int×Int×ALK):=G5 z_.1 z_.2.1 z_.2.2
def Nh b c d:=fix (CY) (b,c,d)
theorem An9:A0 Aji 1 2 (code f58) 26 (Amj) (CY) (AkF):=by
 intro _;simp only[CY,G5,ALh];kernel_rfl
def Ms(g:Int)(i:ALK):AL8 (Int×ALK):=
 (Nh g 0 i).bind λa=>some (a.1,a.2)
def c58:=B6 [.UJ,.d ALP] [⟨[.k (.Am 0),.Ax [] ALP],[.row 32 .Ai ALT],Int×ALK,λp=>Ms p.1.2.1 p.2.1,λr=>(dI r.1,[.row 32 .Ai ALT r.2])⟩]
theorem Agk:Ap prog 58 c58:=As (fn:=f58) ⟨⟨Aji,pk ⟨dn,trivial⟩,λ_ R K=>by
 simp only[Ms,ALi];simp(disch:=refine id ?_;kernel_rfl) only[Nh,Az (An9) (K:=AY Aji f58 1 R K)];kernel_rfl⟩,trivial⟩
abbrev ABr:=eN [(58,c58)] {}
def KA(a:Int)(b:ALK):AL8 (Int×ALK):=
 (Ms a b).bind λc=>some (c.1,c.2)
def c20:=B6 [.UJ,.d ALP] [⟨[.pr (.k (.Am 0)) (.k .u),.Ax [] ALP],[.row 32 .Ai ALT],Int×ALK,λp=>KA p.1.2.1 p.2.1,λr=>(dI r.1,[.row 32 .Ai ALT r.2])⟩]
theorem vM:Ap prog 20 c20:=As (fn:=f20) ⟨⟨ABr,pk ⟨Agk,trivial⟩,λ_ R K=>by
 simp only[KA,ALi];kernel_rfl⟩,trivial⟩
abbrev zZ:=eN [(35,c35),(76,c76)] {rl:=[(16,2),(41,199)],A1:=[(2,[0,1,5])],Bv:=[(2,[1])],BR:=[(8,[0,1,5])],D2:=[(8,[0,1,5])]}
def Aml(z_:Int×Int×ALH):=sT 45 [(0,.Am 0),(1,dI z_.1),(5,dI z_.2.1)] [.row 102 .Ai Ak z_.2.2]
def AkH:=λ(a:(Int×ALH))=>xE 0 45 [(1,dI a.1)] [.row 102 .Ai Ak a.2]
def Amk b c d:=sT 45 [(0,.Am 0),(1,dI c),(5,dI b)] [.row 102 .Ai Ak d]
def AkG b c (d:ALH):=λ(e:ALH)=>xN 45 [(0,.Am 0),(1,dI c),(5,dI b)] [.row 102 .Ai Ak e]
def JF(b c:Int)(d:ALH):AL8 ALH:=
 if 0<=b/\b<d.length then
 some (d.set b.toNat ((d.getD b.toNat Ak.zero).1,(d.getD b.toNat Ak.zero).2.1,(c,(d.getD b.toNat Ak.zero).2.2.1.2),(d.getD b.toNat Ak.zero).2.2.2))
 else none
theorem Aoa b c d:AP zZ 1 8 (cd f59 52) 206 (Amk b c d) (JF b c d) (AkG b c d):=by
 unfold AP;simp only[JF,ALh];kernel_rfl
def HJ(g b:Int)(i:ALH):AL8 ((Int×Int×ALH)⊕(Int×ALH)):=
 bif decide (b<(i.length:Int))then
 if 0<=b/\b<i.length then
 (Dr g (i.getD b.toNat Ak.zero).1).bind λj=>if 0<=b/\b<(i.set b.toNat (j.2,(i.getD b.toNat Ak.zero).2)).length then
 (JF b (wI (j.1+1)) ((i.set b.toNat (j.2,(i.getD b.toNat Ak.zero).2)).set b.toNat (((i.set b.toNat (j.2,(i.getD b.toNat Ak.zero).2)).getD b.toNat Ak.zero).1,(Int.tmod j.1 3)==0,((i.set b.toNat (j.2,(i.getD b.toNat Ak.zero).2)).getD b.toNat Ak.zero).2.2))).bind λe=>if 0<=b/\b<e.length then
 (Gm (wI ((wI (j.1+1))+1)) (e.getD b.toNat Ak.zero).2.2.1.2.1).bind λk=>some (.inl (k.1,wI (b+1),e.set b.toNat ((e.getD b.toNat Ak.zero).1,(e.getD b.toNat Ak.zero).2.1,((e.getD b.toNat Ak.zero).2.2.1.1,k.2,(e.getD b.toNat Ak.zero).2.2.1.2.2),(e.getD b.toNat Ak.zero).2.2.2)))
 else none
 else none
 else none
 else
 some (.inr (g,i))
def De(z_:Int×Int×ALH):=HJ z_.1 z_.2.1 z_.2.2
def OQ g b i:=fix (De) (g,b,i)
theorem Aob:A0 zZ 1 2 (code f59) 26 (Aml) (De) (AkH):=by
 intro _;simp only[De,HJ,ALh];simp(disch:=refine id ?_;kernel_rfl) only[A8 (Aoa ..) (K:=LP zZ 1 2)];kernel_rfl
def Kn(l:Int)(n:ALH):AL8 (Int×ALH):=
 (OQ l 0 n).bind λa=>some (a.1,a.2)
def c59:=B6 [.UJ,.d ALP] [⟨[.k (.Am 0),.Ax [] ALP],[.row 102 .Ai Ak],Int×ALH,λp=>Kn p.1.2.1 p.2.1,λr=>(dI r.1,[.row 102 .Ai Ak r.2])⟩]
theorem Agl:Ap prog 59 c59:=As (fn:=f59) ⟨⟨zZ,pk ⟨dn,vS,trivial⟩,λ_ R K=>by
 simp only[Kn,ALi];simp(disch:=refine id ?_;kernel_rfl) only[OQ,Az (Aob) (K:=AY zZ f59 1 R K)];kernel_rfl⟩,trivial⟩
abbrev ABs:=eN [(20,c20),(35,c35),(59,c59)] {}
def Mr(a:Int)(b:ALK)(c:ALH)(d:ALx):AL8 (Int×ALK×ALH×ALx):=
 (KA a b).bind λe=>(Kn e.1 c).bind λg=>(KX g.1 d).bind λi=>some (i.1,e.2,g.2,i.2)
def c21:=B6 [.UJ,.d ALP] [⟨[.pr (.pr (.k (.Am 0)) (.k .u)) (.pr (.k (.Am 1)) (.pr (.k (.Am 2)) (.k .u))),.Ax [] ALP],[.row 32 .Ai ALT,.row 102 .Ai Ak,.row 2 .Ai ALP],Int×ALK×ALH×ALx,λp=>Mr p.1.2.1 p.2.1 p.2.2.1 p.2.2.2.1,λr=>(dI r.1,[.row 32 .Ai ALT r.2.1,.row 102 .Ai Ak r.2.2.1,.row 2 .Ai ALP r.2.2.2])⟩]
theorem AfX:Ap prog 21 c21:=As (fn:=f21) ⟨⟨ABs,pk ⟨vM,dn,Agl,trivial⟩,λ_ R K=>by
 simp only[Mr,ALi];kernel_rfl⟩,trivial⟩
abbrev Ajj:=eN [] {A1:=[(2,[0,1,5])],Bv:=[(2,[1,4])]}
def Amm a (z_:Int×Int):=sT 21 [(0,dD ALT a),(1,dI z_.1),(5,dI z_.2)] []
def AkI(a:ALx):=Sum.elim (λ(b:Int)=>xR 21 [(1,dI b),(4,dI (-1))] []) (λ(c:Int)=>xE 0 21 [(1,dI c)] [])
def HI(a:ALx)(d e:Int):AL8 ((Int×Int)⊕(Int⊕Int)):=
 bif decide (e<(a.length:Int))then
 if 0<=e/\e<a.length then
 bif (a.getD e.toNat ALP.zero) !=d then
 some (.inr (.inl d))
 else
 some (.inl (wI (d+1),wI (e+1)))
 else none
 else
 some (.inr (.inr d))
def Dd a (z_:Int×Int):=HI a z_.1 z_.2
def OP a d e:=fix (Dd a) (d,e)
theorem Aoc a:A0 Ajj 0 2 (code f36) 26 (Amm a) (Dd a) (AkI a):=by
 intro _;simp only[Dd,HI,ALh];kernel_rfl
def DW(a:ALx)(g:Int):AL8 Int:=
 (OP a g 0).bind (Sum.elim (λb=>some (-1)) (λc=>some c))
def c36:=B6 [.d ALT,.d ALP] [⟨[.Ax [] ALT,.Ax [] ALP],[],Int,λp=>DW p.1.1 p.1.2.1,λr=>(dI r,[])⟩]
theorem l8:Ap prog 36 c36:=As (fn:=f36) ⟨⟨Ajj,pk trivial,λ_ R K=>by
 simp only[DW,ALi];simp(disch:=refine id ?_;kernel_rfl) only[OP,Az (Aoc _) (K:=AY Ajj f36 0 R K)];kernel_rfl⟩,trivial⟩
abbrev Ajk:=eN [(36,c36)] {A1:=[(2,[0,1,5])],Bv:=[(2,[1,4])]}
def Amn a (z_:Int×Int):=sT 21 [(0,dD AL3 a),(1,dI z_.1),(5,dI z_.2)] []
def AkJ(a:ALK):=Sum.elim (λ(b:Int)=>xR 21 [(1,dI b),(4,dI (-1))] []) (λ(c:Int)=>xE 0 21 [(1,dI c)] [])
def G3(a:ALK)(d e:Int):AL8 ((Int×Int)⊕(Int⊕Int)):=
 bif decide (e<(a.length:Int))then
 if 0<=e/\e<a.length then
 (DW (a.getD e.toNat ALT.zero) d).bind λg=>bif decide (g<0)then
 some (.inr (.inl g))
 else
 some (.inl (g,wI (e+1)))
 else none
 else
 some (.inr (.inr d))
def CW a (z_:Int×Int):=G3 a z_.1 z_.2
def Nf a d e:=fix (CW a) (d,e)
theorem Aod a:A0 Ajk 0 2 (code f107) 26 (Amn a) (CW a) (AkJ a):=by
 intro _;simp only[CW,G3,ALh];kernel_rfl
def Mq(a:ALK)(i:Int):AL8 Int:=
 (Nf a i 0).bind (Sum.elim (λb=>some (-1)) (λc=>some c))
def AxQ:=B6 [.d AL3,.d ALP] [⟨[.Ax [] AL3,.Ax [] ALP],[],Int,λp=>Mq p.1.1 p.1.2.1,λr=>(dI r,[])⟩]
theorem Aba:Ap prog 107 AxQ:=As (fn:=f107) ⟨⟨Ajk,pk ⟨l8,trivial⟩,λ_ R K=>by
 simp only[Mq,ALi];simp(disch:=refine id ?_;kernel_rfl) only[Nf,Az (Aod _) (K:=AY Ajk f107 0 R K)];kernel_rfl⟩,trivial⟩
end
end Go.Proofs.X
