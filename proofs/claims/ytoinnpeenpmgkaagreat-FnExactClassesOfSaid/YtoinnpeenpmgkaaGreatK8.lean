import Derived.KernelRfl
import Derived.Test.YtoinnpeenpmgkaaGreatK7
set_option linter.unusedVariables false
set_option linter.unusedSimpArgs false
namespace Go.Proofs.X
open Go Go.Va Go.Proofs.Tryz
set_option maxRecDepth 100000
noncomputable section
abbrev ABt:=eN [(107,AxQ)] {}
def Kz(a:ALr)(b:Int):AL8 Int:=
 (Mq a.1 b).bind λc=>bif decide (c<0)then
 some (-1)
 else
 some c
def c60:=B6 [.d Aj,.d ALP] [⟨[.Ax [] Aj,.Ax [] ALP],[],Int,λp=>Kz p.1.1 p.1.2.1,λr=>(dI r,[])⟩]
theorem Agm:Ap prog 60 c60:=As (fn:=f60) ⟨⟨ABt,pk ⟨Aba,trivial⟩,λ_ R K=>by
 simp only[Kz,ALi];kernel_rfl⟩,trivial⟩
abbrev Ajl:=eN [] {A1:=[(2,[0,1,5])],Bv:=[(2,[1,4])]}
def Amo a (z_:Int×Int):=sT 22 [(0,dD ALZ a),(1,dI z_.1),(5,dI z_.2)] []
def AkK(a:ALx):=Sum.elim (λ(b:Int)=>xR 22 [(1,dI b),(4,dI (-1))] []) (λ(c:Int)=>xE 0 22 [(1,dI c)] [])
def G4(a:ALx)(d e:Int):AL8 ((Int×Int)⊕(Int⊕Int)):=
 bif decide (e<(a.length:Int))then
 if 0<=e/\e<a.length then
 bif (a.getD e.toNat ALQ.zero) !=(IntKind.u64.wrap d)then
 some (.inr (.inl d))
 else
 some (.inl (wI (d+1),wI (e+1)))
 else none
 else
 some (.inr (.inr d))
def CX a (z_:Int×Int):=G4 a z_.1 z_.2
def Ng a d e:=fix (CX a) (d,e)
theorem Aoe a:A0 Ajl 0 2 (code f77) 26 (Amo a) (CX a) (AkK a):=by
 intro _;simp only[CX,G4,ALh];kernel_rfl
def I5(a:ALx)(g:Int):AL8 Int:=
 (Ng a g 0).bind (Sum.elim (λb=>some (-1)) (λc=>some c))
def c77:=B6 [.d ALZ,.d ALP] [⟨[.Ax [] ALZ,.Ax [] ALP],[],Int,λp=>I5 p.1.1 p.1.2.1,λr=>(dI r,[])⟩]
theorem Agt:Ap prog 77 c77:=As (fn:=f77) ⟨⟨Ajl,pk trivial,λ_ R K=>by
 simp only[I5,ALi];simp(disch:=refine id ?_;kernel_rfl) only[Ng,Az (Aoe _) (K:=AY Ajl f77 0 R K)];kernel_rfl⟩,trivial⟩
abbrev Ajm:=eN [(36,c36),(77,c77)] {A1:=[(2,[0,1,5])],Bv:=[(2,[1,4])]}
def Amp a (z_:Int×Int):=sT 53 [(0,dD AL2 a),(1,dI z_.1),(5,dI z_.2)] []
def AkL(a:ALH):=Sum.elim (λ(b:Int)=>xR 53 [(1,dI b),(4,dI (-1))] []) (λ(c:Int)=>xE 0 53 [(1,dI c)] [])
def HH(a:ALH)(d e:Int):AL8 ((Int×Int)⊕(Int⊕Int)):=
 bif decide (e<(a.length:Int))then
 if 0<=e/\e<a.length then
 (DW (a.getD e.toNat Ak.zero).1 d).bind λg=>bif decide (g<0)then
 some (.inr (.inl g))
 else
 if 0<=e/\e<a.length then
 bif !((a.getD e.toNat Ak.zero).2.1==((Int.tmod g 3)==0))then
 some (.inr (.inl g))
 else
 if 0<=e/\e<a.length then
 bif (a.getD e.toNat Ak.zero).2.2.1.1 !=(wI (g+1))then
 some (.inr (.inl (wI (g+1))))
 else
 if 0<=e/\e<a.length then
 (I5 (a.getD e.toNat Ak.zero).2.2.1.2.1 (wI ((wI (g+1))+1))).bind λi=>bif decide (i<0)then
 some (.inr (.inl i))
 else
 some (.inl (i,wI (e+1)))
 else none
 else none
 else none
 else none
 else
 some (.inr (.inr d))
def Dc a (z_:Int×Int):=HH a z_.1 z_.2
def OO a d e:=fix (Dc a) (d,e)
theorem Aof a:A0 Ajm 0 2 (code f61) 26 (Amp a) (Dc a) (AkL a):=by
 intro _;simp only[Dc,HH,ALh];kernel_rfl
def Hh(a:ALH)(j:Int):AL8 Int:=
 (OO a j 0).bind (Sum.elim (λb=>some (-1)) (λc=>some c))
def c61:=B6 [.d AL2,.d ALP] [⟨[.Ax [] AL2,.Ax [] ALP],[],Int,λp=>Hh p.1.1 p.1.2.1,λr=>(dI r,[])⟩]
theorem Agn:Ap prog 61 c61:=As (fn:=f61) ⟨⟨Ajm,pk ⟨l8,Agt,trivial⟩,λ_ R K=>by
 simp only[Hh,ALi];simp(disch:=refine id ?_;kernel_rfl) only[OO,Az (Aof _) (K:=AY Ajm f61 0 R K)];kernel_rfl⟩,trivial⟩
abbrev ABu:=eN [(36,c36),(60,c60),(61,c61)] {}
def I4(a:ALj)(b:Int):AL8 Int:=
 (Kz a.1 b).bind λc=>bif decide (c<0)then
 some (-1)
 else
 (Hh a.2.1 c).bind λd=>bif decide (d<0)then
 some (-1)
 else
 (DW a.2.2.1 d).bind λe=>bif decide (e<0)then
 some (-1)
 else
 some e
def c22:=B6 [.d AG,.d ALP] [⟨[.Ax [] AG,.Ax [] ALP],[],Int,λp=>I4 p.1.1 p.1.2.1,λr=>(dI r,[])⟩]
theorem AfY:Ap prog 22 c22:=As (fn:=f22) ⟨⟨ABu,pk ⟨l8,Agm,Agn,trivial⟩,λ_ R K=>by
 simp only[I4,ALi];kernel_rfl⟩,trivial⟩
abbrev Ze:=eN [(6,c6),(7,c7),(8,c8),(9,c9),(10,c10),(11,c11),(12,c12),(13,c13),(14,c14),(15,c15),(16,c16),(17,c17),(18,c18),(19,c19),(20,c20),(21,c21),(22,c22)] {BR:=[(17,[0,1,5,8,9,10,11,12,13,14,66]),(29,[0,1,5,8,9,13,103]),(40,[13,16,133])],X9:=[(11,{Bb:=[0,1,5,8,9],VI:=true}),(38,{Bb:=[8,9,13,16,18,19],VI:=true})],D2:=[(17,[0,1,5,8,9,10,11,12,13,14]),(29,[0,1,5,8,9,13,14,15]),(40,[8,9,13,16,18,19])],ZA:=[(11,[0,1,5]),(38,[0,1,5,8,9,13,16])],tX:=[(37,ALU),(39,ALY),(41,Aj),(69,ALU),(74,ALY),(79,Aj),(117,ALU),(119,ALY),(121,Aj)]}
def Ams a b c d e g i j k l:=sT 142 [(8,.ptr 0 0 [] 0),(9,dB a),(13,.ptr 1 0 [] 0),(16,dI b),(18,.ptr 2 0 [] 0),(19,dB c)] [.box (dD AG d),.box (.pr (.pr (.Am 3) .u) (.pr (.Am 4) (.pr (.Am 5) .u))),.box (.pr (.pr (.Am 6) .u) (.pr (.Am 7) (.pr (.Am 8) .u))),.row 32 .Ai ALT e,.row 102 .Ai Ak g,.row 2 .Ai ALP i,.row 32 .Ai ALT j,.row 102 .Ai Ak k,.row 2 .Ai ALP l]
def AkO(a:Bool) b (c:Bool) (d:ALj) e g i (j:ALK) (k:ALH) (l:ALx):=λ(n:Bool)=>xN 142 [(13,.ptr 0 0 [] 0),(16,dI b),(133,dB n)] [.box (.pr (.pr (.Am 1) .u) (.pr (.Am 2) (.pr (.Am 3) .u))),.row 32 .Ai ALT e,.row 102 .Ai Ak g,.row 2 .Ai ALP i]
def Ev(a:Bool)(b:Int)(c:Bool)(d:ALj)(e:ALK)(g:ALH)(i:ALx)(j:ALK)(k:ALH)(l:ALx):AL8 Bool:=
 (GJ ((j,()),k,l,()) d).bind λo=>bif !o then
 some true
 else
 some (!(c==a))
theorem Aok a b c d e g i j k l:AP Ze 0 40 (code f3) 4294967292 (Ams a b c d e g i j k l) (Ev a b c d e g i j k l) (AkO a b c d e g i j k l):=by
 unfold AP;simp only[Ev,ALh];kernel_rfl
def AaH q s t u v w x y a1:=sT 142 [(0,dD ALU q),(1,dD ALY s),(5,.ptr 0 0 [] 0),(8,.ptr 1 0 [] 0),(9,dB u),(13,.ptr 2 0 [] 0),(16,dI v)] [.box (dD Aj t),.box (dD AG w),.box (.pr (.pr (.Am 3) .u) (.pr (.Am 4) (.pr (.Am 5) .u))),.row 32 .Ai ALT x,.row 102 .Ai Ak y,.row 2 .Ai ALP a1]
def Sf(q:ALC)(s:ALF)(t:ALr) u v w x y a1:=λ(b1:(Bool×ALK×ALH×ALx))=>sT 142 [(8,.ptr 0 0 [] 0),(9,dB u),(13,.ptr 1 0 [] 0),(16,dI v),(18,.ptr 2 0 [] 0),(19,dB b1.1)] [.box (dD AG w),.box (.pr (.pr (.Am 3) .u) (.pr (.Am 4) (.pr (.Am 5) .u))),.box (.pr (.pr (.Am 6) .u) (.pr (.Am 7) (.pr (.Am 8) .u))),.row 32 .Ai ALT x,.row 102 .Ai Ak y,.row 2 .Ai ALP a1,.row 32 .Ai ALT b1.2.1,.row 102 .Ai Ak b1.2.2.1,.row 2 .Ai ALP b1.2.2.2]
def Eu(q:ALC)(s:ALF)(t:ALr)(u:Bool)(v:Int)(w:ALj)(x:ALK)(y:ALH)(a1:ALx):AL8 (Bool×ALK×ALH×ALx):=
 (BU q).bind λc1=>(A9 s).bind λd1=>(BD t).bind λe1=>(BM c1 d1 (e1,())).bind λg1=>some (g1.1,g1.2.1,g1.2.2.1,g1.2.2.2)
theorem Aoj(q:ALC)(s:ALF)(t:ALr)(u:Bool)(v:Int)(w:ALj)(x:ALK)(y:ALH)(a1:ALx):Py Ze 0 38 (code f3) 1073741822 (AaH q s t u v w x y a1) (Eu q s t u v w x y a1) (Sf q s t u v w x y a1):=by
 unfold Py;have h:sy Ze 0 38 (code f3) (pt 1073741822) (AaH q s t u v w x y a1) =
 (BU q).bind λc1=>(A9 s).bind λd1=>(BD t).bind λe1=>(BM c1 d1 (e1,())).bind λg1=>((((BU q).bind λi1=>((A9 s).bind λj1=>((BD t).bind λk1=>((BM i1 j1 (k1,())).bind λl1=>M4 (Sf q s t u v w x y a1 (l1.1,l1.2.1,l1.2.2.1,l1.2.2.2)) (Sf q s t u v w x y a1 (g1.1,g1.2.1,g1.2.2.1,g1.2.2.2))).bind λ_=>(BM i1 j1 (k1,())).bind λn1=>M4 (Sf q s t u v w x y a1 (n1.1,n1.2.1,n1.2.2.1,n1.2.2.2)) (Sf q s t u v w x y a1 (g1.1,g1.2.1,g1.2.2.1,g1.2.2.2))).bind λ_=>(BD t).bind λo1 =>
(BM i1 j1 (o1,())).bind λq1=>M4 (Sf q s t u v w x y a1 (q1.1,q1.2.1,q1.2.2.1,q1.2.2.2)) (Sf q s t u v w x y a1 (g1.1,g1.2.1,g1.2.2.1,g1.2.2.2))).bind λ_=>(A9 s).bind λs1 =>
(BD t).bind λt1 =>
(BM i1 s1 (t1,())).bind λu1=>M4 (Sf q s t u v w x y a1 (u1.1,u1.2.1,u1.2.2.1,u1.2.2.2)) (Sf q s t u v w x y a1 (g1.1,g1.2.1,g1.2.2.1,g1.2.2.2))).bind λ_=>(BU q).bind λv1 =>
(A9 s).bind λw1 =>
(BD t).bind λx1 =>
(BM v1 w1 (x1,())).bind λy1=>M4 (Sf q s t u v w x y a1 (y1.1,y1.2.1,y1.2.2.1,y1.2.2.2)) (Sf q s t u v w x y a1 (g1.1,g1.2.1,g1.2.2.1,g1.2.2.2))).bind λ_=>some (Sf q s t u v w x y a1 (g1.1,g1.2.1,g1.2.2.1,g1.2.2.2))):=by kernel_rfl
 rw[h];unfold Eu;simp only[ALh,mS,mO];clear h;cases F6:BU q with
 |none=>rfl
 |some c1 =>
  simp only[AIY];cases M7:A9 s with
  |none=>rfl
  |some d1 =>
   simp only[AIY];cases j9:BD t with
   |none=>rfl
   |some e1 =>
    simp only[AIY];cases wK:BM c1 d1 (e1,())with
    |none=>rfl
    |some g1 =>
     simp only[AIY];simp only[F6,M7,j9,wK,AJK,AIY,ER]
def Amr q s t a2 b2 c2 d2 e2 g2 i2:=sT 142 [(0,dD ALU q),(1,dD ALY s),(5,.ptr 0 0 [] 0),(8,.ptr 1 0 [] 0),(9,dB a2),(13,.ptr 2 0 [] 0),(14,dB b2),(15,dI c2)] [.box (dD Aj t),.box (dD AG d2),.box (.pr (.pr (.Am 3) .u) (.pr (.Am 4) (.pr (.Am 5) .u))),.row 32 .Ai ALT e2,.row 102 .Ai Ak g2,.row 2 .Ai ALP i2]
def AkN q s t a2 (b2:Bool) (c2:Int) d2 e2 g2 i2:=λ(j2:Bool)=>xN 142 [(0,dD ALU q),(1,dD ALY s),(5,.ptr 0 0 [] 0),(8,.ptr 1 0 [] 0),(9,dB a2),(13,.ptr 2 0 [] 0),(103,dB j2)] [.box (dD Aj t),.box (dD AG d2),.box (.pr (.pr (.Am 3) .u) (.pr (.Am 4) (.pr (.Am 5) .u))),.row 32 .Ai ALT e2,.row 102 .Ai Ak g2,.row 2 .Ai ALP i2]
def Et(q:ALC)(s:ALF)(t:ALr)(a2 b2:Bool)(c2:Int)(d2:ALj)(e2:ALK)(g2:ALH)(i2:ALx):AL8 Bool:=
 bif decide (c2<0)then
 some true
 else
 (GJ ((e2,()),g2,i2,()) d2).bind λk2=>bif !k2 then
 some true
 else
 some (!(b2==a2))
theorem Aoi q s t a2 b2 c2 d2 e2 g2 i2:AP Ze 0 29 (code f3) 16777212 (Amr q s t a2 b2 c2 d2 e2 g2 i2) (Et q s t a2 b2 c2 d2 e2 g2 i2) (AkN q s t a2 b2 c2 d2 e2 g2 i2):=by
 unfold AP;simp only[Et,ALh];kernel_rfl
def Amq q s t l2 n2 o2 q2 s2 t2 u2 v2 w2:=sT 142 [(0,dD ALU q),(1,dD ALY s),(5,.ptr 0 0 [] 0),(8,.ptr 1 0 [] 0),(9,dB q2),(10,.Am 2),(11,.Am 3),(12,.ptr 4 0 [] 0),(13,.ptr 5 0 [] 0),(14,dB s2)] [.box (dD Aj t),.box (dD AG t2),.row 105 .Ai Ad l2,.row 87 .Ai Ag n2,.box (.pr (.Am 6) .u),.box (.pr (.pr (.Am 7) .u) (.pr (.Am 8) (.pr (.Am 9) .u))),.row 32 .Ai ALT o2,.row 32 .Ai ALT u2,.row 102 .Ai Ak v2,.row 2 .Ai ALP w2]
def AkM q s t l2 n2 o2 q2 s2 t2 u2 v2 w2:=λ(x2:Bool)=>xN 142 [(0,dD ALU q),(1,dD ALY s),(5,.ptr 0 0 [] 0),(8,.ptr 1 0 [] 0),(9,dB q2),(10,.Am 2),(11,.Am 3),(12,.ptr 4 0 [] 0),(13,.ptr 5 0 [] 0),(14,dB s2),(66,dB x2)] [.box (dD Aj t),.box (dD AG t2),.row 105 .Ai Ad l2,.row 87 .Ai Ag n2,.box (.pr (.Am 6) .u),.box (.pr (.pr (.Am 7) .u) (.pr (.Am 8) (.pr (.Am 9) .u))),.row 32 .Ai ALT o2,.row 32 .Ai ALT u2,.row 102 .Ai Ak v2,.row 2 .Ai ALP w2]
def Es(q:ALC)(s:ALF)(t:ALr)(l2:ALC)(n2:ALF)(o2:ALK)(q2 s2:Bool)(t2:ALj)(u2:ALK)(v2:ALH)(w2:ALx):AL8 Bool:=
 (GJ ((u2,()),v2,w2,()) t2).bind λy2=>bif !y2 then
 some true
 else
 some (!(s2==q2))
theorem Aoh q s t l2 n2 o2 q2 s2 t2 u2 v2 w2:AP Ze 0 17 (code f3) 65532 (Amq q s t l2 n2 o2 q2 s2 t2 u2 v2 w2) (Es q s t l2 n2 o2 q2 s2 t2 u2 v2 w2) (AkM q s t l2 n2 o2 q2 s2 t2 u2 v2 w2):=by
 unfold AP;simp only[Es,ALh];kernel_rfl
def AaG q s t:=sT 142 [(0,dD ALU q),(1,dD ALY s),(5,.ptr 0 0 [] 0)] [.box (dD Aj t)]
def Se q s t:=λ(a3:(Bool×ALj))=>sT 142 [(0,dD ALU q),(1,dD ALY s),(5,.ptr 0 0 [] 0),(8,.ptr 1 0 [] 0),(9,dB a3.1)] [.box (dD Aj t),.box (dD AG a3.2)]
def Er(q:ALC)(s:ALF)(t:ALr):AL8 (Bool×ALj):=
 (BU q).bind λb3=>(A9 s).bind λc3=>(BD t).bind λd3=>(BN b3 c3 (d3,())).bind λe3=>some (e3.2,e3.1)
theorem Aog(q:ALC)(s:ALF)(t:ALr):Py Ze 0 11 (code f3) 1022 (AaG q s t) (Er q s t) (Se q s t):=by
 unfold Py;have h:sy Ze 0 11 (code f3) (pt 1022) (AaG q s t) =
 (BU q).bind λb3=>(A9 s).bind λc3=>(BD t).bind λd3=>(BN b3 c3 (d3,())).bind λe3=>((((BU q).bind λg3=>((A9 s).bind λi3=>((BD t).bind λj3=>((BN g3 i3 (j3,())).bind λk3=>M4 (Se q s t (k3.2,k3.1)) (Se q s t (e3.2,e3.1))).bind λ_=>(BN g3 i3 (j3,())).bind λl3=>M4 (Se q s t (l3.2,l3.1)) (Se q s t (e3.2,e3.1))).bind λ_=>(BD t).bind λn3 =>
(BN g3 i3 (n3,())).bind λo3=>M4 (Se q s t (o3.2,o3.1)) (Se q s t (e3.2,e3.1))).bind λ_=>(A9 s).bind λq3 =>
(BD t).bind λs3 =>
(BN g3 q3 (s3,())).bind λt3=>M4 (Se q s t (t3.2,t3.1)) (Se q s t (e3.2,e3.1))).bind λ_=>(BU q).bind λu3 =>
(A9 s).bind λv3 =>
(BD t).bind λw3 =>
(BN u3 v3 (w3,())).bind λx3=>M4 (Se q s t (x3.2,x3.1)) (Se q s t (e3.2,e3.1))).bind λ_=>some (Se q s t (e3.2,e3.1))):=by kernel_rfl
 rw[h];unfold Er;simp only[ALh,mS,mO];clear h;cases F6:BU q with
 |none=>rfl
 |some b3 =>
  simp only[AIY];cases M7:A9 s with
  |none=>rfl
  |some c3 =>
   simp only[AIY];cases j9:BD t with
   |none=>rfl
   |some d3 =>
    simp only[AIY];cases wK:BN b3 c3 (d3,())with
    |none=>rfl
    |some e3 =>
     simp only[AIY];simp only[F6,M7,j9,wK,AJK,AIY,ER]
def G2(q:ALC)(s:ALF)(t:ALr):AL8 Bool:=
 (Tc q 1048576).bind λy3=>bif decide (y3<0)then
 some true
 else
 (Ob s y3).bind λa4=>bif decide (a4<0)then
 some true
 else
 (Uy t a4).bind λb4=>bif decide (b4<0)then
 some true
 else
 (Er q s t).bind λa3=>(BU q).bind λl2=>(A9 s).bind λn2=>(BD t).bind λo2=>(BM l2 n2 (o2,())).bind λc4=>(Es q s t l2 n2 o2 a3.1 c4.1 a3.2 c4.2.1 c4.2.2.1 c4.2.2.2).bind λx2=>bif x2 then
 some false
 else
 (BU q).bind λd4=>(Tb l2 d4).bind λe4=>bif !e4 then
 some false
 else
 (A9 s).bind λg4=>(Oa n2 g4).bind λi4=>bif !i4 then
 some false
 else
 (BD t).bind λj4=>(LD (o2,()) (j4,())).bind λk4=>bif !k4 then
 some false
 else
 (LG 1 l2).bind λl4=>(HK l4.1 n2).bind λn4=>(KA n4.1 o2).bind λo4=>(Et q s t a3.1 c4.1 o4.1 a3.2 c4.2.1 c4.2.2.1 c4.2.2.2).bind λj2=>bif j2 then
 some false
 else
 (Mr 1 c4.2.1 c4.2.2.1 c4.2.2.2).bind λq4=>(I4 ((q4.2.1,()),q4.2.2.1,q4.2.2.2,()) 1).bind λs4=>bif decide (s4<0)then
 some false
 else
 bif s4 !=q4.1 then
 some false
 else
 (Eu q s t a3.1 q4.1 a3.2 q4.2.1 q4.2.2.1 q4.2.2.2).bind λb1=>(Ev a3.1 q4.1 b1.1 a3.2 q4.2.1 q4.2.2.1 q4.2.2.2 b1.2.1 b1.2.2.1 b1.2.2.2).bind λn=>bif n then
 some false
 else
 (I4 ((q4.2.1,()),q4.2.2.1,q4.2.2.2,()) 1).bind λt4=>bif decide (t4<0)then
 some false
 else
 bif t4 !=q4.1 then
 some false
 else
 some true
theorem laws_FnExactClassesOf_run R (q:ALC) (s:ALF) (t:ALr) K:R4 Ze f3 R [dD ALU q,dD ALY s,dD Aj t] [] K=(G2 q s t).bind λr=>K (dB r) []:=by
 simp only[G2,ALi];simp(disch:=refine id ?_;kernel_rfl) only[Up (Aog ..) (K:=AY Ze f3 0 R K),A8 (Aoh ..) (K:=AY Ze f3 0 R K),A8 (Aoi ..) (K:=AY Ze f3 0 R K),Up (Aoj ..) (K:=AY Ze f3 0 R K),A8 (Aok ..) (K:=AY Ze f3 0 R K)];kernel_rfl
theorem laws_FnExactClassesOf_ok:IL prog Ze:=(pk ⟨AoS,AoT,AoU,AoW,AfJ,AfK,AfM,AfO,AfR,AfS,AfU,vL,AfV,AfW,vM,AfX,AfY,trivial⟩)
end
end Go.Proofs.X
namespace Go.Va
def Aw{A:Type}(x:AL8 A)(Q:A->Prop):Prop:=∃a,x=some a/\Q a
section
variable {A B S T:Type} {x y:AL8 A} {P Q:A->Prop}
theorem Aw.mk{a:A}(h:Q a):Aw (some a) Q:=⟨a,rfl,h⟩
theorem Aw.of{a:A}(h:x=some a)(hq:Q a):Aw x Q:=⟨a,h,hq⟩
theorem Aw.eq_{a:A}(h:Aw x (·=a)):x=some a:=by obtain⟨b,h1,h2⟩:=h;rw[h1,h2]
theorem Aw.mono(h:Aw x P)(hq:∀a,P a->Q a):Aw x Q:=by obtain⟨a,h1,h2⟩:=h;exact⟨a,h1,hq a h2⟩
theorem Aw.bind{R:B->Prop}{f:A->AL8 B}(h:Aw x P)(k:∀a,P a->Aw (f a) R):Aw (x.bind f) R:=by
 obtain⟨a,h1,h2⟩:=h;rw[h1];exact k a h2
theorem Aw.cond{c:Bool}(h1:c=true->Aw x Q)(h2:c=false->Aw y Q):Aw (bif c then x else y) Q:=by
 cases c
 ·exact h2 rfl
 ·exact h1 rfl
theorem Aw.elim{R:B->Prop}{C D:Type}{f:C->AL8 B}{g:D->AL8 B}{z:C⊕D}(h1:∀c,z=.inl c->Aw (f c) R)(h2:∀d,z=.inr d->Aw (g d) R):Aw (Sum.elim f g z) R:=by
 cases z with
 |inl c=>exact h1 c rfl
 |inr d=>exact h2 d rfl
theorem BW{f:S->AL8 (S⊕T)}(I:Nat->S->Prop){Q:T->Prop}(step:∀n s,I n s->Aw (f s) λr=>match r with |.inl s'=>∃m,m<n/\I m s' |.inr t=>Q t):∀n s,I n s->Aw (fix f s) Q:=by
 intro n;induction n using Nat.strongRecOn with
 |_ n ih =>
  intro s hI;obtain⟨r,h1,h2⟩:=step n s hI;cases r with
  |inl s' =>
   obtain⟨m,hm,hI'⟩:=h2;rw[Ns h1];exact ih m hm s' hI'
  |inr t=>exact⟨t,Ki h1,h2⟩
theorem wx{f:S->AL8 (S⊕T)}(st:Nat->S){t:T}:∀(n k:Nat),(∀i,k<=i->i<k+n->f (st i)=some (.inl (st (i+1))))->f (st (k+n))=some (.inr t)->fix f (st k)=some t
 |0,k,_,he=>Ki he
 |n+1,k,hs,he=>by
  rw[Ns (hs k (AI4 _) (by omega))];exact wx st n (k+1) (λi h1 h2=>hs i (by omega) (by omega)) (by rw[show k+1+n=k+(n+1) by omega];exact he)
theorem AU{f:S->AL8 (S⊕T)}(st:Nat->S){t:T}(n:Nat)(hs:∀i,i<n->f (st i)=some (.inl (st (i+1))))(he:f (st n)=some (.inr t)):fix f (st 0)=some t :=
 wx st n 0 (λi _ h=>hs i (by omega)) (by rw[AJu];exact he)
end
theorem BO{x:Int}(h1:-9223372036854775808<=x)(h2:x<9223372036854775808):wI x=x:=by
 simp only[wI,IntKind.wrap,IntKind.bits,IntKind.signed];simp;omega
theorem oT{x:Int}(h1:0<=x)(h2:x<18446744073709551616):IntKind.u64.wrap x=x:=by
 simp only[wI,IntKind.wrap,IntKind.bits,IntKind.signed];simp;omega
theorem lp{k n:Nat}(hk:k<n)(hn:n<=maxLen):wI ((k:Int)+1)=((k+1:Nat):Int):=by
 unfold maxLen at hn;rw[BO (by omega) (by omega)];omega
def VO{A:Type}(F:A->A->AL8 Bool)(a:A):Prop:=∀b,Aw (F a b) λr=>r=true↔a=b
theorem wv{A:Type}{F:A->A->AL8 Bool}{z:A}{a b:AL7 A}(hl:a.length=b.length)(hn:a.length<=maxLen)(hF:∀x∈a,VO F x){f:Int->AL8 (Int⊕(Unit⊕Unit))}
    (hs:∀k:Nat,k<a.length->f (k:Int)=(F (a.getD k z) (b.getD k z)).bind λr=>bif !r then some (.inr (.inl ()))else some (.inl (wI ((k:Int)+1)))) (he:f (a.length:Int)=some (.inr (.inr ()))) :
    Aw (fix f 0) λt=>(t=.inr ()/\a=b)\/(t=.inl ()/\a≠b):=by
 refine BW (λm (i:Int)=>∃k:Nat,i=(k:Int)/\k<=a.length/\m=a.length-k/\a.take k=b.take k) (λm i hI=>?_) (a.length) 0 ⟨0,rfl,AJU _,rfl,rfl⟩;obtain⟨k,rfl,hk,rfl,ht⟩:=hI;rcases AI9 k a.length with h |h
 ·rw[hs k h];have ha:a.getD k z=a[k]:=by simp[List.getD,h]
  have hb:b.getD k z=b[k]'(by omega):=by simp[List.getD,show k<b.length by omega]
  refine Aw.bind (hF (a.getD k z) (by rw[ha];exact AJG h) (b.getD k z)) λr hr=>?_;cases r with
  |false =>
   refine Aw.mk (.inr ⟨rfl,λe=>?_⟩);have:a.getD k z=b.getD k z:=by rw[e]
   have:=hr.2 this;cases this
  |true =>
   have e:=hr.1 rfl;refine Aw.mk ⟨a.length-(k+1),by omega,k+1,lp h hn,h,rfl,?_⟩;rw[AJZ h,AJZ (show k<b.length by omega),ht,<-ha,<-hb,e]
 ·have Ve:k=a.length:=by omega
  subst Ve;rw[he];refine Aw.mk (.inl ⟨rfl,?_⟩);rw[AI8 (AI4 _),AI8 (by omega)]at ht;exact ht
end Go.Va
namespace Go.Va
theorem Dl{k n:Nat}(h:k<n):decide ((k:Int)<(n:Int))=true:=by simp;exact h
theorem D1(n:Nat):decide ((n:Int)<(n:Int))=false:=by simp
theorem Bf{k n:Nat}(h:k<n):(0:Int)<=(k:Int)/\(k:Int)<(n:Int):=⟨by omega,by omega⟩
theorem WZ{A:Type}{F:A->A->AL8 Bool}{z:A}{G:AL7 A->AL7 A->AL8 Bool}{r:AL7 A->AL7 A->Int->AL8 (Int⊕(Unit⊕Unit))}
    (hG:∀a b,G a b=bif (a.length:Int) !=(b.length:Int)then some false else(fix (r a b) 0).bind (Sum.elim (λ_=>some false) λ_=>some true))
    (hr:∀a b i,r a b i=bif decide (i<(a.length:Int))then(if(0:Int)<=i/\i<(a.length:Int)then(if(0:Int)<=i/\i<(b.length:Int)then
     (F (a.getD i.toNat z) (b.getD i.toNat z)).bind λq=>bif !q then some (.inr (.inl ()))else some (.inl (wI (i+1)))else none)else none)else some (.inr (.inr ())))
    {a:AL7 A} (hn:a.length<=maxLen) (hF:∀x∈a,VO F x):VO G a:=by
 intro b;rw[hG];refine Aw.cond (λh=>Aw.mk ⟨λh=>by(cases h),λe=>?_⟩) λh=>?_
 ·subst e;simp at h
 ·have hl:a.length=b.length:=by
    have:(a.length:Int)=(b.length:Int):=by simpa using h
    omega
  refine Aw.bind (wv (z:=z) hl hn hF (λk hk=>?_) ?_) λt ht=>?_
  ·rw[hr,Dl hk,AJe,AJg (Bf hk),AJg (Bf (by omega))];rfl
  ·rw[hr,D1,AJd]
  ·rcases ht with ⟨rfl,e⟩|⟨rfl,e⟩
   ·exact Aw.mk ⟨λ_=>e,λ_=>rfl⟩
   ·exact Aw.mk ⟨λh=>by(cases h),λh=>(e h).elim⟩
end Go.Va
namespace Go.Proofs.X
open Go Go.Va
set_option maxRecDepth 100000
theorem VK(s t:ByteArray):Jj s t=true↔s=t:=by
 unfold Jj;rw[ByteArray.toList_eq,ByteArray.toList_eq,AJ5];constructor
 ·intro h;cases s with
  |mk a=>cases t with
   |mk b=>simp at h;rw[h]
 ·rintro rfl;rfl
theorem mA{a:ALx}(hn:a.length<=maxLen):VO PW a :=
 WZ (F:=λx y=>some (x==y)) (z :=ALQ.zero) (r:=IC) (λ_ _=>rfl) (λ_ _ _=>rfl) hn λx _ y=>Aw.mk (by simp)
theorem Uq{a:ALx}(hn:a.length<=maxLen):VO F9 a :=
 WZ (F:=λx y=>some (x==y)) (z :=ALP.zero) (r:=JD) (λ_ _=>rfl) (λ_ _ _=>rfl) hn λx _ y=>Aw.mk (by simp)
theorem jV{a:ALq}(h:Ty.Wf Ah a):VO Pf a:=by
 intro b;obtain⟨w,ws,_⟩:=a;obtain⟨w',iE,_⟩:=b;unfold Pf;refine Aw.cond (λh1=>Aw.mk (by simp at h1;simp[h1])) λh1=>Aw.bind (mA h.2.1.1 iE) λr hr=>Aw.cond (λh2=>Aw.mk (by simp at h1 h2;simp_all)) λh2=>Aw.mk (by simp at h1 h2;simp_all)
theorem ye(a:ALm):VO (λx y=>some (LF x y)) a:=by
 intro b;obtain⟨n,w,_⟩:=a;obtain⟨n',w',_⟩:=b;refine Aw.mk ?_;simp[LF,VK]
theorem tT{a:ALC}(h:Ty.Wf ALU a):VO Tb a :=
 WZ (F:=λx y=>some (LF x y)) (z :=Ad.zero) (r:=KW) (λ_ _=>rfl) (λ_ _ _=>rfl) h.1 λx hx=>ye x
theorem tV{a:ALo}(h:Ty.Wf Af a):VO Mp a:=by
 intro b;obtain⟨o,v,A,B,x,k,_⟩:=a;obtain⟨o',v',A',B',x',k',_⟩:=b;unfold Mp;refine Aw.cond (λh1=>Aw.mk (by simp at h1;simp[h1])) λh1=>Aw.cond (λh2=>Aw.mk (by simp at h1 h2;simp[h2])) λh2=>Aw.cond (λh3=>Aw.mk (by simp at h1 h3;simp[h3])) λh3=>Aw.cond (λh3=>Aw.mk (by simp at h1 h3;simp[h3])) λh5 =>
  Aw.bind (jV h.2.2.2.2.1 x') λr hr=>Aw.cond (λh4=>Aw.mk (by simp at h1 h2 h3 h4;simp_all)) λh4=>Aw.bind (Uq h.2.2.2.2.2.1.1 k') λr2 wS=>Aw.cond (λh6=>Aw.mk (by simp at h1 h2 h3 h4 h6;simp_all)) λh6=>Aw.mk (by simp at h1 h2 h3 h4 h5 h6;simp_all)
theorem qf{a:ALE}(h:Ty.Wf AL0 a):VO Rw a :=
 WZ (F:=Mp) (z :=Af.zero) (r:=JE) (λ_ _=>rfl) (λ_ _ _=>rfl) h.1 λx hx=>tV (h.2 x hx)
theorem jX{a:ALv}(h:Ty.Wf Ar a):VO Pg a:=by
 intro b;obtain⟨n,_⟩:=a;obtain⟨n',_⟩:=b;unfold Pg;refine Aw.bind (qf h.1 n') λr1 aS=>Aw.cond (λh1=>Aw.mk (by simp at h1;simp_all)) λh1=>Aw.mk (by simp at h1;simp_all)
theorem mz{a:ALp}(h:Ty.Wf Ag a):VO I3 a:=by
 intro b;obtain⟨i,e,s,t,_⟩:=a;obtain⟨i',e',s',t',_⟩:=b;unfold I3;refine Aw.cond (λh1=>Aw.mk (by simp at h1;simp[h1])) λh1=>Aw.cond (λh2=>Aw.mk (by simp at h1 h2;simp[h2])) λh2 =>
  Aw.bind (jX h.2.2.1 s') λr hr=>Aw.cond (λh4=>Aw.mk (by simp at h1 h2 h4;simp_all)) λh4=>Aw.bind (jX h.2.2.2.1 t') λr2 wS=>Aw.cond (λh6=>Aw.mk (by simp at h1 h2 h4 h6;simp_all)) λh6=>Aw.mk (by simp at h1 h2 h4 h6;simp_all)
theorem iL{a:ALF}(h:Ty.Wf ALY a):VO Oa a :=
 WZ (F:=I3) (z :=Ag.zero) (r:=HG) (λ_ _=>rfl) (λ_ _ _=>rfl) h.1 λx hx=>mz (h.2 x hx)
end Go.Proofs.X
namespace Go.Va
open Go.Proofs.X
def wt:(t:Ty)->t.V->Nat
 |.str,s=>s.size
 |.Au a b,x=>wt a x.1+wt b x.2
 |.sl t,xs=>xs.length+(xs.map (wt t)).sum
 |.int _,_=>0
 |.bool,_=>0
 |.unit,_=>0
 |.QG _,_=>0
def Zi(t:Ty)(F:t.V->Int->AL8 Int)(x:t.V):Prop:=∀left:Int,0<=left->left<=1048576->F x left=some (if(wt t x:Int)<=left then left-(wt t x:Int)else -1)
theorem oF{t:Ty}{F:t.V->Int->AL8 Int}{z:t.V}{G:AL7 t.V->Int->AL8 Int}{r:AL7 t.V->Int×Int->AL8 ((Int×Int)⊕(Int⊕Int))}
    (hG:∀a left,G a left=bif decide ((wI (left-(a.length:Int)))<0)then some (-1)else(fix (r a) (wI (left-(a.length:Int)),0)).bind (Sum.elim (λ_=>some (-1)) λy=>some y))
    (hr:∀a x,r a x=bif decide (x.2<(a.length:Int))then(if(0:Int)<=x.2/\x.2<(a.length:Int)then
     (F (a.getD x.2.toNat z) x.1).bind λq=>bif decide (q<0)then some (.inr (.inl q))else some (.inl (q,wI (x.2+1)))else none)else some (.inr (.inr x.1)))
    {a:AL7 t.V} (hn:a.length<=maxLen) (hF:∀x∈a,Zi t F x):Zi (.sl t) G a:=by
 intro left h0 h1;have hm:maxLen=140737488355327\/True:=.inr trivial;have hw:wI (left-(a.length:Int))=left-(a.length:Int):=by unfold maxLen at hn;exact BO (by omega) (by omega)
 rw[hG,hw];have hwt:wt (.sl t) a=a.length+(a.map (wt t)).sum:=rfl;rw[hwt];by_cases AzK:left-(a.length:Int)<0
 ·rw[show decide (left-(a.length:Int)<0)=true by simpa using AzK,AJe,AJh (by omega)]
 ·rw[show decide (left-(a.length:Int)<0)=false by simpa using AzK,AJd];have key:Aw (fix (r a) (left-(a.length:Int),0)) λy=>(∃q,y=.inl q/\left<((a.length+(a.map (wt t)).sum:Nat):Int))\/y=.inr (left-((a.length+(a.map (wt t)).sum:Nat):Int))/\((a.length+(a.map (wt t)).sum:Nat):Int)<=left:=by
   refine BW (λm (x:Int×Int)=>∃k:Nat,x.2=(k:Int)/\k<=a.length/\m=a.length-k/\x.1=left-(a.length:Int)-(((a.take k).map (wt t)).sum:Nat)/\0<=x.1) (λm x hI=>?_) a.length _ ⟨0,rfl,AJU _,rfl,by simp,by show 0<=left-(a.length:Int);omega⟩;obtain⟨l,i⟩:=x;obtain⟨k,hk1,hk,rfl,hl,dF⟩:=hI;simp only at hk1 hl dF;subst hk1;rw[hr];simp only;rcases AI9 k a.length with h |h
   ·rw[Dl h,AJe,AJg (Bf h)];have ha:a.getD k z=a[k]:=by simp[List.getD,h]
    have Adi:((a.take (k+1)).map (wt t)).sum=((a.take k).map (wt t)).sum+wt t a[k]:=by
     rw[AJZ h,AJJ,AKx];simp
    have ADv:((a.take (k+1)).map (wt t)).sum<=(a.map (wt t)).sum:=by
     conv=>rhs;rw[<-AJ8 (k+1) a,AJJ,AKx]
     omega
    rw[show(k:Int).toNat=k from AIZ k,ha,hF _ (AJG h) l dF (by omega),AIY];split
    ·rename_i Ug;rw[show decide (l-(wt t a[k]:Int)<0)=false by simpa using Ug,AJd];exact Aw.mk ⟨a.length-(k+1),by omega,k+1,lp h hn,h,rfl,by rw[Adi,hl];push_cast;omega,by show 0<=l-_;omega⟩
    ·rename_i zL;refine Aw.mk (.inl ⟨_,rfl,?_⟩)
     push_cast
     rw[Adi]at ADv;omega
   ·have Ve:k=a.length:=by omega
    subst Ve;rw[D1,AJd];rw[AI8 (AI4 _)]at hl;exact Aw.mk (.inr ⟨by rw[hl];push_cast;rw[Int.sub_sub],by push_cast;omega⟩)
  obtain⟨y,hy,hq⟩:=key;rw[hy];rcases hq with ⟨q,rfl,Bh⟩|⟨rfl,Ug⟩
  ·rw[AJh (by omega)];rfl
  ·rw[AJg Ug];rfl
end Go.Va
namespace Go.Proofs.X
open Go Go.Va
theorem xl{A:Type}{xs:AL7 A}{left:Int}(h0:0<=left)(h1:left<=1048576)(hn:xs.length<=maxLen):(bif decide ((wI (left-(xs.length:Int)))<0)then(-1)else wI (left-(xs.length:Int)))=if(xs.length:Int)<=left then left-(xs.length:Int)else -1:=by
 unfold maxLen at hn;rw[BO (by omega) (by omega)];split
 ·rw[show decide (left-(xs.length:Int)<0)=false by simp;omega];rfl
 ·rw[show decide (left-(xs.length:Int)<0)=true by simp;omega];rfl
theorem r9{A:Type}{f:A->Nat}(h:∀x,f x=0)(xs:AL7 A):(xs.map f).sum=0:=by
 induction xs with
 |nil=>rfl
 |cons x xs ih=>simp[h,ih]
theorem vn(a:ALx):wt ALZ a=a.length:=congrArg (a.length+·) (r9 (λ_=>rfl) a)
theorem vj(a:ALx):wt ALT a=a.length:=congrArg (a.length+·) (r9 (λ_=>rfl) a)
theorem oG{a:ALx}(hn:a.length<=maxLen):Zi ALZ (λx l=>some (B9 x l)) a:=λleft h0 h1=>by
 show some (B9 a left)=_;rw[B9,xl h0 h1 hn,vn]
theorem cE{a:ALx}(hn:a.length<=maxLen):Zi ALT (λx l=>some (BG x l)) a:=λleft h0 h1=>by
 show some (BG a left)=_;rw[BG,xl h0 h1 hn,vj]
end Go.Proofs.X
namespace Go.Va
open Go.Proofs.X
section
variable {A B:Type} {Q:A->Prop} {x y:AL8 A}
theorem R3{a:A}:Aw (some a) Q↔Q a:=⟨λ⟨_,h,q⟩=>by cases h;exact q,λh=>⟨a,rfl,h⟩⟩
end
theorem BL{X S T:Type}{f:X->AL8 (X⊕T)}(st:Nat->S->X)(n:Nat)(I:Nat->S->Prop){Q:T->Prop}
    (h:∀k s,k<n->I k s->Aw (f (st k s)) λr=>match r with |.inl x=>∃s',x=st (k+1) s'/\I (k+1) s' |.inr t=>Q t)
    (he:∀s,I n s->Aw (f (st n s)) λr=>match r with |.inl _=>False |.inr t=>Q t) {s0:S} (h0:I 0 s0):Aw (fix f (st 0 s0)) Q:=by
 refine BW (λm x=>∃k s,x=st k s/\k<=n/\m=n-k/\I k s) (λm x hI=>?_) n (st 0 s0) ⟨0,s0,rfl,AJU _,rfl,h0⟩;obtain⟨k,s,rfl,hk,rfl,hI⟩:=hI;rcases AI9 k n with Bh |ae
 ·refine(h k s Bh hI).mono λr hr=>?_;cases r with
  |inl x =>
   obtain⟨s',rfl,hI'⟩:=hr;exact⟨n-(k+1),by omega,k+1,s',rfl,Bh,rfl,hI'⟩
  |inr t=>exact hr
 ·have:k=n:=by omega
  subst this;refine(he s hI).mono λr hr=>?_;cases r with
  |inl x=>exact hr.elim
  |inr t=>exact hr
def Px(x:Int):Prop:=0<=x/\x<18446744073709551616
def tb(x:Int)(j:Nat):Bool:=x.toNat.testBit j
theorem Px.toNat{x:Int}(h:Px x):x.toNat<2^64:=by unfold Px at h;omega
theorem Px.of{n:Nat}(h:n<2^64):Px (n:Int):=by unfold Px;omega
theorem XY{x:Int}(h:Px x){j:Nat}(hj:64<=j):tb x j=false :=
 Nat.testBit_lt_two_pow (AJA h.toNat (Nat.pow_le_pow_right (by decide) hj))
theorem Px.ext{x y:Int}(hx:Px x)(hy:Px y)(h:∀j,j<64->tb x j=tb y j):x=y:=by
 have:x.toNat=y.toNat:=Nat.eq_of_testBit_eq λj=>by
  rcases AI9 j 64 with hj |hj
  ·exact h j hj
  ·exact(XY hx hj).trans (XY hy hj).symm
 unfold Px at hx hy;omega
theorem iw{n:Nat}(h:n<2^64):IntKind.u64.wrap (n:Int)=(n:Int):=oT (by omega) (by omega)
theorem UF{x:Int}(h:Px x):(BitVec.ofInt 64 x).toNat=x.toNat:=by
 unfold Px at h;rw[BitVec.toNat_ofInt];simp;omega
theorem Ad2{a b:Int}(ha:Px a)(hb:Px b):de .u64 a b=((a.toNat ||| b.toNat:Nat):Int):=by
 show IntKind.u64.wrap (((BitVec.ofInt 64 a ||| BitVec.ofInt 64 b).toNat:Nat):Int)=_;rw[iw (BitVec.isLt _),BitVec.toNat_or,UF ha,UF hb]
theorem vC{a b:Int}(ha:Px a)(hb:Px b):iF .u64 a b=((a.toNat &&& b.toNat:Nat):Int):=by
 show IntKind.u64.wrap (((BitVec.ofInt 64 a &&& BitVec.ofInt 64 b).toNat:Nat):Int)=_;rw[iw (BitVec.isLt _),BitVec.toNat_and,UF ha,UF hb]
theorem oO{a b:Int}(ha:Px a)(hb:Px b):Px (de .u64 a b):=by
 rw[Ad2 ha hb];exact .of (Nat.or_lt_two_pow ha.toNat hb.toNat)
theorem xu{a b:Int}(ha:Px a)(hb:Px b):Px (iF .u64 a b):=by
 rw[vC ha hb];exact .of (Nat.and_lt_two_pow _ hb.toNat)
theorem xn{a b:Int}(ha:Px a)(hb:Px b)(j:Nat):tb (de .u64 a b) j=(tb a j||tb b j):=by
 rw[Ad2 ha hb,tb,AIZ,Nat.testBit_or];rfl
theorem AeX{a b:Int}(ha:Px a)(hb:Px b)(j:Nat):tb (iF .u64 a b) j=(tb a j&&tb b j):=by
 rw[vC ha hb,tb,AIZ,Nat.testBit_and];rfl
theorem xi{a:Int}(ha:Px a){s:Int}{n:Nat}(hs:s=(n:Int))(hn:n<=64):SD .u64 a s=((a.toNat/2^n:Nat):Int):=by
 subst hs;unfold Px at ha;obtain⟨m,rfl⟩:∃m:Nat,a=(m:Int):=⟨a.toNat,by omega⟩;have h:SD .u64 (m:Int) (n:Int)=Int.fdiv (m:Int) (2^min ((n:Int).toNat) 64):=rfl;rw[h,AIZ,AIZ,AKF hn,Int.fdiv_eq_ediv_of_nonneg _ (by exact Int.le_of_lt (Int.pow_pos (by decide)))]
 norm_cast
theorem dR{a:Int}(ha:Px a){s:Int}{n:Nat}(hs:s=(n:Int))(hn:n<=64):Px (SD .u64 a s):=by
 rw[xi ha hs hn];exact .of (Nat.lt_of_le_of_lt (Nat.div_le_self _ _) ha.toNat)
theorem bK{a:Int}(ha:Px a){s:Int}{n:Nat}(hs:s=(n:Int))(hn:n<=64)(j:Nat):tb (SD .u64 a s) j=tb a (j+n):=by
 rw[xi ha hs hn,tb,AIZ,Nat.testBit_div_two_pow,tb,Nat.add_comm]
theorem oh{a:Int}(ha:Px a){s:Int}{n:Nat}(hs:s=(n:Int))(hn:n<=64):NL .u64 a s=((a.toNat*2^n%18446744073709551616:Nat):Int):=by
 subst hs;unfold Px at ha;obtain⟨m,rfl⟩:∃m:Nat,a=(m:Int):=⟨a.toNat,by omega⟩;have h:NL .u64 (m:Int) (n:Int)=IntKind.u64.wrap ((m:Int)*2^min ((n:Int).toNat) 64):=rfl;have hw:∀x:Int,IntKind.u64.wrap x=x%18446744073709551616:=λx=>by simp[IntKind.wrap,IntKind.bits,IntKind.signed]
 rw[h,AIZ,AIZ,AKF hn,hw,Int.natCast_emod,Int.natCast_mul,Int.natCast_pow];rfl
theorem oP{a:Int}(ha:Px a){s:Int}{n:Nat}(hs:s=(n:Int))(hn:n<=64):Px (NL .u64 a s):=by
 rw[oh ha hs hn];exact .of (Nat.mod_lt _ (by omega))
theorem u9{a:Int}(ha:Px a){s:Int}{n:Nat}(hs:s=(n:Int))(hn:n<=64)(j:Nat):tb (NL .u64 a s) j=(decide (j<64)&&(decide (n<=j)&&tb a (j-n))):=by
 rw[oh ha hs hn,tb,AIZ,show(18446744073709551616:Nat)=2^64 from by decide,Nat.testBit_mod_two_pow,Nat.testBit_mul_two_pow,tb]
theorem Wi(j:Nat):tb 0 j=false:=by simp[tb]
theorem Xr:Px 0:=by unfold Px;omega
theorem Z9:Px 1:=by unfold Px;omega
theorem w5{s:Int}{n:Nat}(hs:s=(n:Int))(hn:n<64):IntKind.u64.wrap (NL .u64 1 s-1)=((2^n-1:Nat):Int):=by
 have h1:0<2^n:=Nat.two_pow_pos n;have h2:2^n<2^64:=Nat.pow_lt_pow_right (by decide) hn;rw[oh Z9 hs (by omega)];rw[show(1:Int).toNat*2^n%18446744073709551616=2^n by rw[show(1:Int).toNat=1 from rfl,ALb];exact Nat.mod_eq_of_lt h2];rw[show((2^n:Nat):Int)-1=((2^n-1:Nat):Int) by omega];exact iw (by omega)
theorem Ae3{s:Int}{n:Nat}(hs:s=(n:Int))(hn:n<64):Px (IntKind.u64.wrap (NL .u64 1 s-1)):=by
 have h2:2^n<2^64:=Nat.pow_lt_pow_right (by decide) hn;rw[w5 hs hn];exact .of (by omega)
theorem AhQ{s:Int}{n:Nat}(hs:s=(n:Int))(hn:n<64)(j:Nat):tb (IntKind.u64.wrap (NL .u64 1 s-1)) j=decide (j<n):=by
 rw[w5 hs hn,tb,AIZ,Nat.testBit_two_pow_sub_one]
theorem oJ(j:Nat):tb 1 j=decide (j=0):=by
 show Nat.testBit 1 j=_;cases j with
 |zero=>rfl
 |succ j=>simp[Nat.testBit_succ]
theorem yg{a:Int}(ha:Px a):iF .u64 a 1=if tb a 0 then 1 else 0:=by
 refine Px.ext (xu ha Z9) (by split<;>first |exact Z9 |exact Xr) λj _=>?_
 rw[AeX ha Z9,oJ];by_cases h:j=0
 ·subst h;cases h:tb a 0<;>simp[oJ,Wi]
 ·cases h':tb a 0<;>simp[oJ,Wi,h]
def Dn(ws:ALx):Prop:=∀x∈ws,Px x
def bt(ws:ALx)(i:Nat):Bool:=tb (ws.getD (i/64) 0) (i%64)
theorem Dn.getD{ws:ALx}(h:Dn ws)(k:Nat):Px (ws.getD k 0):=by
 rcases AI9 k ws.length with hk |hk
 ·rw[show ws.getD k 0=ws[k] by simp[List.getD,hk]];exact h _ (AJG hk)
 ·rw[show ws.getD k 0=0 by simp[List.getD,hk]];exact Xr
theorem Dn.set{ws:ALx}(h:Dn ws){k:Nat}{x:Int}(hx:Px x):Dn (ws.set k x):=λy hy=>by
 rcases List.mem_or_eq_of_mem_set hy with h' |rfl
 ·exact h y h'
 ·exact hx
theorem Dn.rep{n:Nat}:Dn (List.replicate n 0):=λx hx=>by rw[(List.mem_replicate.1 hx).2];exact Xr
theorem Aa2(n i:Nat):bt (List.replicate n 0) i=false:=by
 unfold bt;rw[show(List.replicate n (0:Int)).getD (i/64) 0=0 by simp[List.getD,AK7];split<;>rfl];exact Wi _
theorem XA{ws:ALx}{i:Nat}(h:64*ws.length<=i):bt ws i=false:=by
 unfold bt;rw[show ws.getD (i/64) 0=0 by simp[List.getD,show ws.length<=i/64 by omega]];exact Wi _
theorem Yw{ws:ALx}{k:Nat}{x:Int}(hk:k<ws.length)(i:Nat):bt (ws.set k x) i=if i/64=k then tb x (i%64)else bt ws i:=by
 unfold bt;by_cases h:i/64=k
 ·rw[AJg h,h,show(ws.set k x).getD k 0=x by simp[List.getD,hk]]
 ·rw[AJh h,show(ws.set k x).getD (i/64) 0=ws.getD (i/64) 0 by simp[List.getD,AJn,show ¬k=i/64 from λe=>h e.symm]]
theorem Tp{a b:ALx}(ha:Dn a)(hb:Dn b)(hl:a.length=b.length)(h:∀i,i<64*a.length->bt a i=bt b i):a=b:=by
 refine AKs hl λk h1 h2=>Px.ext (ha _ (AJG h1)) (hb _ (AJG h2)) λj hj=>?_;have:=h (64*k+j) (by omega);unfold bt at this;rw[show(64*k+j)/64=k by omega,show(64*k+j)%64=j by omega]at this;simpa [List.getD,h1,h2]using this
def pk(f:Nat->Bool):Nat->Nat
 |0=>0
 |n+1=>(if f n then 2^n else 0)+pk f n
theorem Ad7(f:Nat->Bool):∀n,pk f n<2^n
 |0=>by simp[pk]
 |n+1=>by
  have:=Ad7 f n;have h2:2^(n+1)=2^n+2^n:=by rw[Nat.pow_succ];omega
  unfold pk;split<;>omega
theorem uH(f:Nat->Bool):∀n j,(pk f n).testBit j=(decide (j<n)&&f j)
 |0,j=>by simp[pk]
 |n+1,j=>by
  have hl:=Ad7 f n;unfold pk;cases hf:f n with
  |false =>
   simp only[AJN,AKv,AJu,uH f n j];by_cases h:j=n
   ·subst h;simp[hf]
   ·rw[show decide (j<n+1)=decide (j<n) by simp;omega]
  |true =>
   simp only[AJK];rcases AK1 j n with h |h |h
   ·rw[Nat.testBit_two_pow_add_gt h,uH f n j];simp[h];omega
   ·subst h;rw[Nat.testBit_two_pow_add_eq,Nat.testBit_lt_two_pow hl];simp[hf]
   ·rw[Nat.testBit_lt_two_pow (AJA (show 2^n+pk f n<2^(n+1) by rw[Nat.pow_succ];omega) (Nat.pow_le_pow_right (by decide) h))];simp;omega
def iC(f:Nat->Bool)(m:Nat):ALx:=(List.range m).map λk=>(pk (λj=>f (64*k+j)) 64:Int)
theorem HT(f:Nat->Bool)(m:Nat):(iC f m).length=m:=by simp[iC]
theorem Hl(f:Nat->Bool)(m:Nat):Dn (iC f m):=λx hx=>by
 obtain⟨k,_,rfl⟩:=List.mem_map.1 hx;exact .of (Ad7 _ _)
theorem gq(f:Nat->Bool)(m i:Nat):bt (iC f m) i=(decide (i<64*m)&&f i):=by
 rcases AI9 i (64*m)with h |h
 ·unfold bt iC;rw[show((List.range m).map λk=>(pk (λj=>f (64*k+j)) 64:Int)).getD (i/64) 0=(pk (λj=>f (64*(i/64)+j)) 64:Int) by
   simp[List.getD,show i/64<m by omega],tb,AIZ,uH,show 64*(i/64)+i%64=i by omega]
  simp[h];omega
 ·rw[XA (by rw[HT];exact h)];simp;omega
theorem Ae7{ws:ALx}(h:Dn ws){f:Nat->Bool}(hf:∀i,i<64*ws.length->bt ws i=f i):ws=iC f ws.length :=
 Tp h (Hl _ _) (HT _ _).symm λi hi=>by rw[hf i hi,gq];simp[hi]
theorem yO{f g:Nat->Bool}{m:Nat}(h:∀i,i<64*m->f i=g i):iC f m=iC g m :=
 Tp (Hl _ _) (Hl _ _) (by rw[HT,HT]) λi hi=>by rw[HT]at hi;rw[gq,gq,h i hi]
def low(f:Nat->Bool)(n:Nat):Nat->Bool:=λi=>decide (i<n)&&f i
def nw(n:Nat):Nat:=(n+63)/64
end Go.Va
namespace Go.Proofs.X
open Go Go.Va
set_option maxRecDepth 100000
theorem gZ{i:Nat}(h:i<4611686018427387904):wI (Int.tdiv (i:Int) 64)=((i/64:Nat):Int):=by
 rw[Int.tdiv_eq_ediv_of_nonneg (by omega),BO (by omega) (by omega)];omega
theorem Xq(i:Nat):Int.tmod (i:Int) 64=((i%64:Nat):Int):=by
 rw[Int.tmod_eq_emod_of_nonneg (by omega)];omega
theorem X0{n:Nat}(h:n<=1048576):wI (Int.tdiv (wI ((n:Int)+63)) 64)=((nw n:Nat):Int):=by
 rw[BO (x:=(n:Int)+63) (by omega) (by omega),show(n:Int)+63=((n+63:Nat):Int) by omega,gZ (by omega)];rfl
def zR(n:Nat)(f:Nat->Bool):ALq:=((n:Int),iC (low f n) (nw n),())
def bI(b:Bool):Int:=if b then 1 else 0
def jC(n:Nat)(ws:ALx):Prop:=1<=n/\n<=4096/\ws.length=nw n/\Dn ws/\∀i,n<=i->bt ws i=false
theorem jC.eq{n:Nat}{ws:ALx}(h:jC n ws):ws=iC (low (bt ws) n) (nw n):=by
 obtain⟨_,_,hl,hw,hz⟩:=h
 conv=>lhs;rw[Ae7 hw (f:=low (bt ws) n) λi hi=>by
  unfold low;by_cases h:i<n
  ·simp[h]
  ·rw[hz i (by omega)];simp]
 rw[hl]
theorem Aa1{n:Nat}{f:Nat->Bool}{i:Nat}(hi:i<n):bt (iC (low f n) (nw n)) i=f i:=by
 rw[gq];unfold nw low;simp[hi];omega
theorem Jp{n:Nat}{f:Nat->Bool}{i:Nat}:bt (iC (low f n) (nw n)) i=(decide (i<n)&&f i):=by
 by_cases h:i<n
 ·rw[Aa1 h];simp[h]
 ·rw[gq];unfold low;simp[h]
theorem yN{n:Nat}{f g:Nat->Bool}(h:∀i,i<n->f i=g i):zR n f=zR n g:=by
 unfold zR;rw[yO λi _=>show low f n i=low g n i by
  unfold low;by_cases hi:i<n
  ·simp[hi,h i hi]
  ·simp[hi]]
theorem gg{w:Int}{ws:ALx}(hw:Dn ws){i:Nat}(hi:i<64*ws.length)(hn:ws.length<=1048576):Ij (w,ws,()) (i:Int)=some (bI (bt ws i)):=by
 unfold Ij;rw[gZ (by omega),Xq,oT (by omega) (by omega)];rw[AJg ⟨by omega,by show((i/64:Nat):Int)<(ws.length:Int);omega⟩,AJh (by omega),AIZ];show some (IntKind.u8.wrap (iF .u64 (SD .u64 (ws.getD (i/64) 0) ((i%64:Nat):Int)) 1))=_;rw[show IntKind.u8.wrap (iF .u64 (SD .u64 (ws.getD (i/64) 0) ((i%64:Nat):Int)) 1)=bI (bt ws i) by
  rw[yg (dR (hw.getD _) rfl (by omega)),bK (hw.getD _) rfl (by omega),AJu];show IntKind.u8.wrap (bI (bt ws i))=_;cases bt ws i<;>rfl]
theorem Ae8{ws:ALx}(h:∀x∈ws,(IntKind.u64).min<=x/\x<=(IntKind.u64).max):Dn ws:=λx hx=>by
 have:=h x hx;unfold Px;simp only[IntKind.min,IntKind.max,IntKind.bits,IntKind.signed]at this;simp at this;omega
theorem jr{w:Int}{ws:ALx}(hw:Dn ws)(hn:ws.length<=1048576):Aw (Pk (w,ws,())) λr=>r=true↔∃n:Nat,w=(n:Int)/\jC n ws:=by
 unfold Pk QF;refine Aw.cond (λh=>Aw.mk ?_) λh=>?_
 ·simp only[AJN,false_iff,not_exists,not_and]
  rintro n rfl ⟨h1,h2,h3,_⟩
  unfold nw at h3;simp only[Bw,X0 (show n<=1048576 by omega),AKe,AKk,AKA,AJP,AKC]at h;unfold nw at h;omega
 ·have hb:1<=w/\w<=4096:=by
    simp only[Bw,AJY,Bool.not_eq_false',AI5,AKl]at h;omega
  obtain⟨n,rfl⟩:∃n:Nat,w=(n:Int):=⟨w.toNat,by omega⟩;have hl:ws.length=nw n:=by
   simp only[AJY,AKG]at h;have h:=h.2;rw[X0 (by omega)]at h;omega
  have key:Aw (T3 ((n:Int),ws,()) (n:Int)) λt=>(t=.inl ()/\¬∀i,n<=i->bt ws i=false)\/(t=.inr ()/\∀i,n<=i->bt ws i=false):=by
   have Ug:n<=64*ws.length:=by rw[hl];unfold nw;omega
   have hwr:wI (64*(ws.length:Int))=((64*ws.length:Nat):Int):=by
    rw[BO (by omega) (by omega)];omega
   refine BL (λk (_:Unit)=>((n+k:Nat):Int)) (64*ws.length-n) (λk _=>∀i,n<=i->i<n+k->bt ws i=false) (λk _ hk hI=>?_) (λ_ hI=>?_) (s0:=()) (λi h1 h2=>by omega)
   ·unfold I8 Mt;rw[show wI (64*((((n:Int),ws,()):ALq).2.1.length:Int))=((64*ws.length:Nat):Int)from hwr,Dl (by omega),AJe,gg hw (by omega) hn,AIY];cases hb:bt ws (n+k)with
    |true=>exact Aw.mk (.inl ⟨rfl,λh=>by rw[h _ (by omega)]at hb;cases hb⟩)
    |false =>
     refine Aw.mk ⟨(),?_,λi h1 h2=>?_⟩
     ·rw[BO (by omega) (by omega)];omega
     ·rcases AI9 i (n+k)with h |h
      ·exact hI i h1 h
      ·rw[show i=n+k by omega];exact hb
   ·unfold I8 Mt;rw[show wI (64*((((n:Int),ws,()):ALq).2.1.length:Int))=((64*ws.length:Nat):Int)from hwr,show n+(64*ws.length-n)=64*ws.length by omega,D1,AJd];refine Aw.mk (.inr ⟨rfl,λi h=>?_⟩);rcases AI9 i (64*ws.length)with h' |h'
    ·exact hI i h (by omega)
    ·exact XA h'
  refine Aw.bind key λt ht=>?_;rcases ht with ⟨rfl,h'⟩|⟨rfl,h'⟩
  ·refine Aw.mk ?_;simp only[AJN,false_iff,not_exists,not_and];intro m hm hp;obtain rfl:m=n:=by omega
   exact h' hp.2.2.2.2
  ·exact Aw.mk ⟨λ_=>⟨n,rfl,by omega,by omega,hl,hw,h'⟩,λ_=>rfl⟩
theorem iY{w:Int}{ws:ALx}(hw:Dn ws)(hn:ws.length<=1048576):Aw (O7 (w,ws,())) λr=>r=true↔∃n:Nat,w=(n:Int)/\jC n ws:=by
 unfold O7 QF;refine Aw.cond (λh=>Aw.mk ?_) λh=>?_
 ·simp only[AJN,false_iff,not_exists,not_and]
  rintro n rfl ⟨h1,h2,h3,_⟩
  unfold nw at h3;simp only[AH,Ca,X0 (show n<=1048576 by omega),AKe,AKk,AKA,AJP,AKC]at h;unfold nw at h;omega
 ·have hb:1<=w/\w<=4096:=by
    simp only[AH,AJY,Bool.not_eq_false',AI5,AKl]at h;omega
  obtain⟨n,rfl⟩:∃n:Nat,w=(n:Int):=⟨w.toNat,by omega⟩;have hl:ws.length=nw n:=by
   simp only[AJY,AKG]at h;have h:=h.2;rw[Ca,X0 (by omega)]at h;omega
  have e1:((n:Int),ws,()).1=(n:Int):=rfl;have iff:(∃m:Nat,(n:Int)=(m:Int)/\jC m ws)↔∀i,n<=i->bt ws i=false:=by
   constructor
   ·rintro⟨m,hm,hp⟩
    obtain rfl:n=m:=by omega
    exact hp.2.2.2.2
   ·exact λh=>⟨n,rfl,by omega,by omega,hl,hw,h⟩
  rw[iff];refine Aw.cond (λh=>Aw.mk ?_) λh=>?_
  ·have h:Int.tmod (n:Int) 64=0:=by simpa using h
   rw[Xq]at h;refine⟨λ_ i hi=>XA (by rw[hl];unfold nw;omega),λ_=>rfl⟩
  ·have h:Int.tmod (n:Int) 64≠0:=by simpa using h
   rw[Xq]at h;have BH:0<ws.length:=by rw[hl];unfold nw;omega
   have b6:wI ((ws.length:Int)-1)=((ws.length-1:Nat):Int):=by rw[BO (by omega) (by omega)];omega
   have e2:wI (((((n:Int),ws,()):ALq).2.1.length:Int)-1)=((ws.length-1:Nat):Int):=b6;rw[e2,AJg ⟨by omega,by show((ws.length-1:Nat):Int)<(ws.length:Int);omega⟩];rw[show Int.tmod (((n:Int),ws,()):ALq).1 64=((n%64:Nat):Int)from Xq n,AJh (by omega),AIZ];refine Aw.mk ?_;rw[AJ5];have iX:=hw.getD (ws.length-1);have h0:SD .u64 (ws.getD (ws.length-1) 0) ((n%64:Nat):Int)=0↔∀j,j<64->tb (ws.getD (ws.length-1) 0) (j+n%64)=false :=
    ⟨λe j _=>by rw[<-bK iX rfl (by omega),e,Wi],λe=>Px.ext (dR iX rfl (by omega)) Xr λj hj=>by rw[bK iX rfl (by omega),Wi];exact e j hj⟩
   refine h0.trans ⟨λe i hi=>?_,λe j hj=>?_⟩
   ·rcases AI9 i (64*ws.length)with h' |h'
    ·unfold bt;rw[show i/64=ws.length-1 by rw[hl]at h'⊢;unfold nw at *;omega];have:=e (i%64-n%64) (by omega);rwa [show i%64-n%64+n%64=i%64 by rw[hl]at h';unfold nw at *;omega]at this
    ·exact XA h'
   ·rcases AI9 (j+n%64) 64 with h' |h'
    ·have:=e (64*(ws.length-1)+(j+n%64)) (by rw[hl];unfold nw;omega);unfold bt at this;rwa [show(64*(ws.length-1)+(j+n%64))/64=ws.length-1 by omega,show(64*(ws.length-1)+(j+n%64))%64=j+n%64 by omega]at this
    ·exact XY iX h'
theorem xA(k:IntKind):(Ty.zero (.int k):Int)=0:=rfl
theorem AiR{a k:Nat}(h:a+64*k<1073741824):wI ((a:Int)+wI (64*(k:Int)))=((a+64*k:Nat):Int):=by
 rw[BO (x:=64*(k:Int)) (by omega) (by omega),BO (by omega) (by omega)];omega
theorem A4{x:Int}{n:Nat}(h:x=(n:Int))(hn:n<4611686018427387904):wI x=(n:Int):=by rw[BO (by omega) (by omega),h]
theorem Xt{n:Nat}(h:n<=1048576):F7 (n:Int)=some ((n:Int),List.replicate (nw n) 0):=by
 have hn:nw n<=1048576:=by unfold nw;omega
 unfold F7 Ca;rw[X0 h,AJg ⟨rfl,by omega,by omega,by omega,by omega⟩,AIZ]
theorem AfI{ws:ALx}{k j:Nat}(hj:j<64):bt ws (64*k+j)=tb (ws.getD k 0) j:=by
 unfold bt;rw[show(64*k+j)/64=k by omega,show(64*k+j)%64=j by omega]
theorem ApY{a k:Nat}{d b:Int}{low row:ALx}(hw:Dn low)(hr:Dn row)(hk:k<low.length)(hb:a+64*k<1073741824)(FA:(a+64*k)/64<row.length) :
    Aw (IV (a:Int) low d (k:Int) row b) λr=>Dn r/\r.length=row.length/\∀i,i<64*row.length->bt r i=(bt row i||(decide (a+64*k<=i)&&(decide (i<a+64*k+64)&&bt low (i-a)))):=by
 unfold IV QF;obtain⟨q,hq⟩:∃q,q=(a+64*k)/64:=⟨_,rfl⟩;obtain⟨m,hm⟩:∃m,m=(a+64*k)%64:=⟨_,rfl⟩;have e1:wI (Int.tdiv (((a+64*k:Nat):Int)) 64)=(q:Int):=by rw[gZ (by omega),hq]
 have e2:Int.tmod (((a+64*k:Nat):Int)) 64=(m:Int):=by rw[Xq,hm]
 have e3:wI ((q:Int)+1)=((q+1:Nat):Int):=A4 (by omega) (by omega);have e4:wI (64-(m:Int))=((64-m:Nat):Int):=A4 (by omega) (by omega);have hlk:Px (low.getD k 0):=hw.getD k;have qH:∀i,a+64*k<=i->i<a+64*k+64->bt low (i-a)=tb (low.getD k 0) (i-a-64*k):=λi h1 h2=>by
  rw[<-AfI (ws:=low) (k:=k) (by omega)];congr 1;omega
 simp only[AiR hb,e1,e2,e3,e4,AI7,AIZ,xA];rw[AJg (Bf hk),AJg ⟨by omega,by omega⟩,AJh (by omega),AJg ⟨by omega,by omega⟩];have hsh:Px (NL .u64 (low.getD k 0) (m:Int)):=oP hlk rfl (by omega);have hor:Px (de .u64 (row.getD q 0) (NL .u64 (low.getD k 0) (m:Int))):=oO (hr.getD q) hsh;have hqr:q<row.length:=by omega
 have OI:∀i,bt (row.set q (de .u64 (row.getD q 0) (NL .u64 (low.getD k 0) (m:Int)))) i=(bt row i||(decide (i/64=q)&&(decide (a+64*k<=i)&&bt low (i-a)))):=λi=>by
  rw[Yw hqr];by_cases h:i/64=q
  ·rw[AJg h,xn (hr.getD q) hsh,u9 hlk rfl (by omega)];have:bt row i=tb (row.getD q 0) (i%64):=by unfold bt;rw[h]
   rw[this];by_cases h2:a+64*k<=i
   ·rw[qH i h2 (by omega),show i-a-64*k=i%64-m by omega];simp[h,h2,show i%64<64 by omega,show m<=i%64 by omega]
   ·simp[h,h2,show ¬m<=i%64 by omega]
  ·rw[AJh h];simp[h]
 have Fx:Dn (row.set q (de .u64 (row.getD q 0) (NL .u64 (low.getD k 0) (m:Int)))):=hr.set hor;refine Aw.cond (λh=>?_) λh=>?_
 ·simp only[AI5,AKC,AKl]at h;have sD:m≠0:=by omega
  have hq1:q+1<row.length:=by omega
  rw[AJg ⟨by omega,by omega⟩,AJh (by omega),AJg ⟨by omega,by omega⟩];have hsr:Px (SD .u64 (low.getD k 0) ((64-m:Nat):Int)):=dR hlk rfl (by omega);refine Aw.mk ⟨Fx.set (oO (Fx.getD _) hsr),by rw[AI7,AI7],λi hi=>?_⟩;show bt (List.set _ (q+1) (de .u64 (List.getD _ (q+1) 0) (SD .u64 (low.getD k 0) ((64-m:Nat):Int)))) i=_;rw[Yw (by rw[AI7];exact hq1)];by_cases h1:i/64=q+1
  ·rw[AJg h1,xn (Fx.getD _) hsr,bK hlk rfl (by omega)];have:tb ((row.set q (de .u64 (row.getD q 0) (NL .u64 (low.getD k 0) (m:Int)))).getD (q+1) 0) (i%64)=bt (row.set q (de .u64 (row.getD q 0) (NL .u64 (low.getD k 0) (m:Int)))) i:=by unfold bt;rw[h1]
   rw[this,OI];rw[show decide (i/64=q)=false by simp;omega,show decide (a+64*k<=i)=true by simp;omega];by_cases h2:i<a+64*k+64
   ·rw[qH i (by omega) h2,show i-a-64*k=i%64+(64-m) by omega];simp[h2]
   ·rw[XY hlk (by omega)];simp[h2]
  ·rw[AJh h1,OI];by_cases h2:i/64=q
   ·simp only[h2,decide_true,AK0];by_cases h3:a+64*k<=i
    ·simp[h3,show i<a+64*k+64 by omega]
    ·simp[h3]
   ·rw [show(decide (a+64*k<=i)&&(decide (i<a+64*k+64)&&bt low (i-a)))=false by
      by_cases h3:a+64*k<=i
      ·simp[show ¬i<a+64*k+64 by omega]
      ·simp[h3]]
    simp[h2]
 ·refine Aw.mk ⟨Fx,AI7,λi hi=>?_⟩;have h':m=0\/row.length<=q+1:=by
   rcases AJm m with h0 |h0
   ·exact .inl h0
   ·refine .inr ?_;simp only[AKA,AKG,AJP]at h;omega
  show bt (row.set q (de .u64 (row.getD q 0) (NL .u64 (low.getD k 0) (m:Int)))) i=_;rw[OI];by_cases h2:i/64=q
  ·simp only[h2,decide_true,AK0];by_cases h3:a+64*k<=i
   ·simp[h3,show i<a+64*k+64 by omega]
   ·simp[h3]
  ·rw [show(decide (a+64*k<=i)&&(decide (i<a+64*k+64)&&bt low (i-a)))=false by
     by_cases h3:a+64*k<=i
     ·simp[show ¬i<a+64*k+64 by omega]
     ·simp[h3]]
   simp[h2]
theorem Aeb{w b:Int}{a:Nat}{low row:ALx}(hw:Dn low)(hr:Dn row)(hl:low.length<=1048576)(ha:a<=1048576)(FA:∀k,k<low.length->(a+64*k)/64<row.length) :
    Aw (Kv b (a:Int) (w,low,()) row) λr=>Dn r/\r.length=row.length/\∀i,i<64*row.length->bt r i=(bt row i||(decide (a<=i)&&bt low (i-a))):=by
 unfold Kv QZ;refine Aw.bind (BL (λk (s:ALx)=>((k:Int),s)) low.length (λk s=>Dn s/\s.length=row.length/\∀i,i<64*row.length->bt s i=(bt row i||(decide (a<=i)&&(decide (i<a+64*k)&&bt low (i-a))))) (Q:=λr=>Dn r/\r.length=row.length/\∀i,i<64*row.length->bt r i=(bt row i||(decide (a<=i)&&bt low (i-a)))) (λk s hk hI=>?_) (λs hI=>?_) (s0:=row) ⟨hr,rfl,λi _=>by
     by_cases h:a<=i
     ·simp[show ¬i<a by omega]
     ·simp[h]⟩) λr h=>Aw.mk h
 ·unfold GA Js;simp only;rw[Dl hk,AJe];refine Aw.bind (ApY hw hI.1 hk (by omega) (by rw[hI.2.1];exact FA k hk)) λr h=>Aw.mk ⟨r,?_,h.1,h.2.1.trans hI.2.1,λi hi=>?_⟩
  ·rw[show wI ((k:Int)+1)=((k+1:Nat):Int)from A4 (by omega) (by omega)]
  ·rw[h.2.2 i (by rw[hI.2.1];exact hi),hI.2.2 i hi,Bool.or_assoc];congr 1;by_cases h1:a<=i
   ·by_cases h2:i<a+64*k
    ·simp[h1,h2,show ¬a+64*k<=i by omega,show i<a+64*(k+1) by omega]
    ·by_cases h3:i<a+64*k+64
     ·simp[h1,h2,h3,show a+64*k<=i by omega,show i<a+64*(k+1) by omega]
     ·simp[h2,h3,show ¬i<a+64*(k+1) by omega]
   ·simp[h1,show ¬a+64*k<=i by omega]
 ·unfold GA Js;simp only;rw[D1,AJd];refine Aw.mk ⟨hI.1,hI.2.1,λi hi=>?_⟩;rw[hI.2.2 i hi];by_cases h1:a<=i
  ·by_cases h2:i<a+64*low.length
   ·simp[h2]
   ·rw[XA (by omega:64*low.length<=i-a)];simp
  ·simp[h1]
theorem Ahy{n m:Nat}{f g:Nat->Bool}(hn:n+m<=8192):Gz (zR n f) (zR m g)=some (((n+m:Nat):Int),iC (low (λi=>if i<m then g i else f (i-m)) (n+m)) (nw (n+m))):=by
 unfold Gz zR;refine Aw.eq_ ?_;rw[show wI (((n:Int),iC (low f n) (nw n),()).1+((m:Int),iC (low g m) (nw m),()).1)=((n+m:Nat):Int)from A4 (by show(n:Int)+(m:Int)=_;omega) (by omega),Xt (by omega),AIY];refine Aw.bind (Aeb (a:=0) (Hl _ _) Dn.rep (by rw[HT];unfold nw;omega) (by omega) λk hk=>by rw[HT]at hk;rw[AJv];unfold nw at *;omega) λr1 h1=>?_;rw[AJv]at h1;refine Aw.bind (Aeb (a:=m) (Hl _ _) h1.1 (by rw[HT];unfold nw;omega) (by omega) λk hk=>by rw[HT]at hk;rw[h1.2.1];unfold nw at *;omega) λr2 h2=>Aw.mk ?_;refine congrArg _ (Tp h2.1 (Hl _ _) (by rw[h2.2.1,h1.2.1,HT]) λi hi=>?_);have ud:i<64*nw (n+m):=by rw[h2.2.1,h1.2.1]at hi;exact hi
 rw[h2.2.2 i (by rw[h1.2.1];exact ud),h1.2.2 i ud,Aa2,Jp,Jp,Jp];by_cases h3:i<m
 ·simp[h3,show ¬m<=i by omega,show i<n+m by omega]
 ·by_cases h4:i<n+m
  ·simp[h3,h4,show m<=i by omega,show i-m<n by omega]
  ·simp[h3,h4,show ¬i-m<n by omega]
theorem Ao0{a k:Nat}{w w1 w2 j:Int}{ws row:ALx}(hw:Dn ws)(hr:Dn row)(hk:k<row.length)(hb:a+64*k<1073741824)(FA:(a+64*k)/64<ws.length) :
    Aw (IU (a:Int) w1 w2 (k:Int) (w,ws,()) j row) λr=>Dn r/\r.length=row.length/\∀i,bt r i=if i/64=k then bt ws (a+i)else bt row i:=by
 unfold IU QF;obtain⟨q,hq⟩:∃q,q=(a+64*k)/64:=⟨_,rfl⟩;obtain⟨m,hm⟩:∃m,m=(a+64*k)%64:=⟨_,rfl⟩;have e1:wI (Int.tdiv (((a+64*k:Nat):Int)) 64)=(q:Int):=by rw[gZ (by omega),hq]
 have e2:Int.tmod (((a+64*k:Nat):Int)) 64=(m:Int):=by rw[Xq,hm]
 have e3:wI ((q:Int)+1)=((q+1:Nat):Int):=A4 (by omega) (by omega);have e4:wI (64-(m:Int))=((64-m:Nat):Int):=A4 (by omega) (by omega);simp only[AiR hb,e1,e2,e3,e4,AI7,AIZ,xA];rw[AJg ⟨by omega,by omega⟩,AJh (by omega),AJg (Bf hk)];have hsr:Px (SD .u64 (ws.getD q 0) (m:Int)):=dR (hw.getD q) rfl (by omega);have Fx:Dn (row.set k (SD .u64 (ws.getD q 0) (m:Int))):=hr.set hsr;have Xa:(row.set k (SD .u64 (ws.getD q 0) (m:Int))).getD k 0=SD .u64 (ws.getD q 0) (m:Int):=by simp[List.getD,hk]
 refine Aw.cond (λh=>?_) λh=>?_
 ·simp only[AI5,AKC,AKl]at h;rw[AJg (Bf hk),AJg ⟨by omega,by omega⟩,AJh (by omega),AJg (Bf hk),Xa];have IR:Px (NL .u64 (ws.getD (q+1) 0) ((64-m:Nat):Int)):=oP (hw.getD _) rfl (by omega);refine Aw.mk ⟨Fx.set (oO hsr IR),by rw[AI7,AI7],λi=>?_⟩;rw[Yw (by rw[AI7];exact hk)];by_cases h1:i/64=k
  ·rw[AJg h1,AJg h1,xn hsr IR,bK (hw.getD _) rfl (by omega),u9 (hw.getD _) rfl (by omega)];by_cases h2:i%64+m<64
   ·rw[show decide (64-m<=i%64)=false by simp;omega];unfold bt;rw[show(a+i)/64=q by omega,show(a+i)%64=i%64+m by omega];simp
   ·rw[XY (hw.getD _) (by omega)];unfold bt;rw[show(a+i)/64=q+1 by omega,show(a+i)%64=i%64-(64-m) by omega];simp[show i%64<64 by omega,show 64<=i%64+m by omega]
  ·rw[AJh h1,AJh h1,Yw hk,AJh h1]
 ·have h':m=0\/ws.length<=q+1:=by
    rcases AJm m with h0 |h0
    ·exact .inl h0
    ·refine .inr ?_;simp only[AKA,AKG,AJP]at h;omega
  refine Aw.mk ⟨Fx,AI7,λi=>?_⟩;rw[Yw hk];by_cases h1:i/64=k
  ·rw[AJg h1,AJg h1,bK (hw.getD _) rfl (by omega)];by_cases h2:i%64+m<64
   ·unfold bt;rw[show(a+i)/64=q by omega,show(a+i)%64=i%64+m by omega]
   ·rw[XY (hw.getD _) (by omega),XA (by omega)]
  ·rw[AJh h1,AJh h1]
theorem Ao1{n a w:Nat}{f:Nat->Bool}(hn:n<=1048576)(h1:1<=w)(h:a+w<=n):En (zR n f) (a:Int) (w:Int)=some ((w:Int),iC (low (λi=>f (a+i)) w) (nw w)):=by
 unfold En zR;refine Aw.eq_ ?_;rw[Xt (by omega),AIY];show Aw ((L6 (a:Int) (w:Int) ((n:Int),iC (low f n) (nw n),()) (((List.replicate (nw w) (0:Int)).length:Nat):Int) (w:Int) 0 (List.replicate (nw w) 0)).bind _) _;rw[AJv];have yA:1<=nw w:=by unfold nw;omega
 refine Aw.bind (P:=λr=>Dn r/\r.length=nw w/\∀i,i<64*nw w->bt r i=bt (iC (low f n) (nw n)) (a+i)) ?_ λr hr=>?_
 ·unfold L6;refine BL (λk (s:ALx)=>((k:Int),s)) (nw w) (λk s=>Dn s/\s.length=nw w/\∀i,i<64*k->bt s i=bt (iC (low f n) (nw n)) (a+i)) (λk s hk hI=>?_) (λs hI=>?_) (s0:=List.replicate (nw w) 0) ⟨Dn.rep,AJv,λi hi=>by omega⟩
  ·unfold Gy Jr;simp only;rw[Dl hk,AJe];refine Aw.bind (Ao0 (Hl _ _) hI.1 (by rw[hI.2.1];exact hk) (by unfold nw at hk;omega) (by rw[HT];unfold nw at *;omega)) λr h=>Aw.mk ⟨r,?_,h.1,h.2.1.trans hI.2.1,λi hi=>?_⟩
   ·rw[show wI ((k:Int)+1)=((k+1:Nat):Int)from A4 (by omega) (by unfold nw at hk;omega)]
   ·rw[h.2.2 i];by_cases h3:i/64=k
    ·rw[AJg h3]
    ·rw[AJh h3,hI.2.2 i (by omega)]
  ·unfold Gy Jr;simp only;rw[D1,AJd];exact Aw.mk hI
 ·unfold L8;obtain⟨m,hm⟩:∃m,m=w%64:=⟨_,rfl⟩;have e2:Int.tmod (w:Int) 64=(m:Int):=by rw[Xq,hm]
  have e3:wI ((r.length:Int)-1)=((nw w-1:Nat):Int):=by rw[hr.2.1];exact A4 (by omega) (by unfold nw;omega)
  simp only[e2,e3,AIZ,xA];refine Aw.bind (P:=λx=>x=iC (low (λi=>f (a+i)) w) (nw w)) (Aw.cond (λh=>?_) λh=>?_) λx hx=>Aw.mk (by rw[hx])
  ·simp only[AKC]at h;rw[AJg ⟨by omega,by rw[hr.2.1];omega⟩,AJh (by omega),AJg ⟨by omega,by rw[hr.2.1];omega⟩];have km:Px (IntKind.u64.wrap (NL .u64 1 (m:Int)-1)):=Ae3 rfl (by omega);refine Aw.mk (Tp (hr.1.set (xu (hr.1.getD _) km)) (Hl _ _) (by rw[AI7,hr.2.1,HT]) λi hi=>?_);rw[AI7,hr.2.1]at hi;rw[Yw (by rw[hr.2.1];omega),Jp];by_cases h3:i/64=nw w-1
   ·rw[AJg h3,AeX (hr.1.getD _) km,AhQ rfl (by omega)];have:tb (r.getD (nw w-1) 0) (i%64)=bt r i:=by unfold bt;rw[h3]
    rw[this,hr.2.2 i hi,Jp];unfold nw at h3;by_cases h4:i<w
    ·simp[h4,show a+i<n by omega,show i%64<m by omega]
    ·simp[h4,show ¬i%64<m by omega]
   ·rw[AJh h3,hr.2.2 i hi,Jp];unfold nw at h3 hi;simp[show i<w by omega,show a+i<n by omega]
  ·have h0:m=0:=by
     have:(m:Int)=0:=by simpa using h
     omega
   refine Aw.mk (Tp hr.1 (Hl _ _) (by rw[hr.2.1,HT]) λi hi=>?_);rw[hr.2.1]at hi;rw[hr.2.2 i hi,Jp,Jp];unfold nw at hi;simp[show i<w by omega,show a+i<n by omega]
theorem ky{l:ALy}(h1:1<=l.length)(h2:l.length<=4096):Pl (l.map bI)=some ((l.length:Int),true,iC (low (λi=>l.getD i false) l.length) (nw l.length)):=by
 unfold Pl QF;refine Aw.eq_ ?_;rw[AJa];have hn:nw l.length<=1048576:=by unfold nw;omega
 rw[show(decide ((l.length:Int)<1)||decide ((l.length:Int)>4096))=false by simp;omega,AJd,X0 (by omega),AJg ⟨rfl,by omega,by omega,by omega,by omega⟩,AIZ];unfold T6;refine Aw.bind (BL (λk (s:ALx)=>((k:Int),s)) l.length (λk s=>Dn s/\s.length=nw l.length/\∀i,bt s i=(decide (i<k)&&l.getD i false)) (Q:=λr=>r=iC (low (λi=>l.getD i false) l.length) (nw l.length)) (λk s hk hI=>?_) (λs hI=>?_) (s0:=List.replicate (nw l.length) 0) ⟨Dn.rep,AJv,λi=>by rw[Aa2];simp⟩) λr hr=>Aw.mk (by rw[hr])
 ·unfold Jd MB;have hq:k/64<s.length:=by rw[hI.2.1];unfold nw;omega
  have Azc:Px (bI (l.getD k false)):=by unfold bI;split<;>first |exact Z9 |exact Xr
  have ADA:IntKind.u64.wrap (bI (l.getD k false))=bI (l.getD k false):=by cases l.getD k false<;>rfl
  have Ul:(l.map bI).getD k 0=bI (l.getD k false):=by simp[List.getD,hk]
  simp only[AJa,gZ (show k<4611686018427387904 by omega),Xq,AIZ,xA,Ul,ADA,oT (show(0:Int)<=((k%64:Nat):Int) by omega) (by omega)];rw[Dl hk,AJe,AJg ⟨by omega,by omega⟩,AJg (Bf hk),AJh (by omega),AJg ⟨by omega,by omega⟩];have IR:Px (NL .u64 (bI (l.getD k false)) ((k%64:Nat):Int)):=oP Azc rfl (by omega);refine Aw.mk ⟨_,by rw[show wI ((k:Int)+1)=((k+1:Nat):Int)from A4 (by omega) (by omega)],hI.1.set (oO (hI.1.getD _) IR),by rw[AI7];exact hI.2.1,λi=>?_⟩;rw[Yw hq];have tbb:∀b j,tb (bI b) j=(decide (j=0)&&b):=λb j=>by cases b<;>simp[bI,oJ,Wi]
  by_cases h3:i/64=k/64
  ·rw[AJg h3,xn (hI.1.getD _) IR,u9 Azc rfl (by omega),tbb];have:tb (s.getD (k/64) 0) (i%64)=bt s i:=by unfold bt;rw[h3]
   rw[this,hI.2.2 i];rcases AK1 i k with h |h |h
   ·simp[h,show i<k+1 by omega,show ¬k%64<=i%64 by omega]
   ·subst h;simp[show i%64<64 by omega]
   ·simp[show ¬i<k by omega,show ¬i<k+1 by omega];omega
  ·rw[AJh h3,hI.2.2 i];by_cases h:i<k
   ·simp[h,show i<k+1 by omega]
   ·simp[h,show ¬i<k+1 by omega]
 ·unfold Jd MB;rw[AJa,D1,AJd];refine Aw.mk (Tp hI.1 (Hl _ _) (by rw[HT];exact hI.2.1) λi hi=>?_);rw[hI.2.2 i,Jp]
theorem Zr{w:Int}{ws:ALx}(h:ws.length<=1048576):C2 (w,ws,())=some (w,ws):=by
 unfold C2;rw[AJg (by show ws.length*8<=_;omega)]
def Small(f:ALD):Prop:=f.length<=1048576/\∀s∈f,s.2.2.2.1.2.1.length<=1048576
theorem AE{A:Type}{l:AL7 A}{z:A}{k:Nat}(h:k<l.length):l.getD k z∈l:=by
 rw[show l.getD k z=l[k] by simp[List.getD,h]];exact AJG h
theorem AW{A:Type}{l:AL7 A}{z:A}{k:Nat}(h:k<l.length):l.take (k+1)=l.take k++[l.getD k z]:=by
 rw[AJZ h,show l.getD k z=l[k] by simp[List.getD,h]]
theorem Bc{k n:Nat}(hk:k<n)(hn:n<=1048576):wI ((k:Int)+1)=((k+1:Nat):Int):=A4 (by omega) (by omega)
def B8{A:Type}(g:Nat->A)(z:A)(n k:Nat):AL7 A:=(List.range n).map λi=>if i<k then g i else z
theorem Lv{A:Type}(g:Nat->A)(z:A)(n:Nat):B8 g z n 0=List.replicate n z:=by
 refine AKs (by simp[B8]) λi h1 h2=>by simp[B8]
theorem O4{A:Type}(g:Nat->A)(z:A){n k:Nat}:(B8 g z n k).set k (g k)=B8 g z n (k+1):=by
 refine AKs (by simp[B8]) λi h1 h2=>?_;simp only[B8,List.getElem_set,List.getElem_map,List.getElem_range];by_cases h:k=i
 ·subst h;simp
 ·rw[AJh h];by_cases h3:i<k
  ·rw[AJg h3,AJg (by omega)]
  ·rw[AJh h3,AJh (by omega)]
theorem Ge{A:Type}(g:Nat->A)(z:A)(n k:Nat):(B8 g z n k).length=n:=by simp[B8]
theorem fA{A:Type}(l:AL7 A)(y z:A):B8 (λi=>l.getD i y) z l.length l.length=l:=by
 refine AKs (by simp[B8]) λi h1 h2=>by simp[B8,List.getD,h2]
theorem mh{f:ALD}(h:Small f):Lx f=some f:=by
 unfold Lx PN;have h1:=h.1;rw[AJg ⟨rfl,by omega,by omega,by omega,by omega⟩,AIZ];rw[show fix (CO f (f.length:Int)) (0,List.replicate f.length (0,0,0,(0,([]:ALx),()),()))=some f from by
  have:=AU (f:=CO f (f.length:Int)) (λk=>((k:Int),B8 (λi=>f.getD i Ae.zero) (0,0,0,(0,([]:ALx),()),()) f.length k)) (t:=f) f.length (λk hk=>by
   unfold CO Ir;simp only[Dl hk,AJe,AJg (Bf hk),AIZ,Ge];rw[Zr (h.2 _ (AE hk)),AIY,Bc hk h1,<-O4]) (by
   unfold CO Ir;simp only[D1,AJd,fA])
  rw[Lv]at this;exact this]
 rfl
theorem gT{a:ALx}(hn:a.length<=maxLen):VO II a :=
 WZ (F:=λx y=>some (x==y)) (z :=ALQ.zero) (r:=λa b=>Ez a b a.length) (λ_ _=>rfl) (λ_ _ _=>rfl) hn λx _ y=>Aw.mk (by simp)
theorem pH{a:ALq}(h:a.2.1.length<=maxLen):VO Lw a:=by
 intro b;obtain⟨w,ws,_⟩:=a;obtain⟨w',iE,_⟩:=b;unfold Lw;refine Aw.cond (λh1=>Aw.bind (gT h iE) λr hr=>Aw.mk (by simp at h1;simp[hr,h1])) λh1=>Aw.mk (by simp at h1;simp[h1])
theorem XW:(1048576:Nat)<=maxLen:=by decide
theorem rI{a:ALq}(h:a.2.1.length<=maxLen):VO Hq a:=by
 intro b;obtain⟨w,ws,_⟩:=a;obtain⟨w',iE,_⟩:=b;unfold Hq QF;refine Aw.cond (λh1=>Aw.mk ?_) λh1=>?_
 ·simp only[AKe,AKC]at h1;simp only[AJN,false_iff,AJb,and_true,not_and]
  rintro rfl rfl
  simp at h1
 ·simp only[AJY,AKG]at h1;have h1:w=w'/\(ws.length:Int)=(iE.length:Int):=h1;refine Aw.bind (wv (F:=λx y=>some (x==y)) (z :=ALQ.zero) (a:=ws) (b:=iE) (f:=Dh (w,ws,()) (w',iE,())) (by omega) h (λx _ y=>Aw.mk (by simp)) (λk hk=>?_) ?_) λt ht=>?_
  ·unfold Dh H8;simp only[Dl hk,AJe,AJg (Bf hk),AJg (Bf (show k<iE.length by omega)),AIZ];rfl
  ·unfold Dh H8;simp only[D1,AJd]
  ·rcases ht with ⟨rfl,e⟩|⟨rfl,e⟩
   ·exact Aw.mk ⟨λ_=>by rw[h1.1,e],λ_=>rfl⟩
   ·exact Aw.mk ⟨λh=>by(cases h),λh'=>(e (congrArg (λx=>x.2.1) h')).elim⟩
end Go.Proofs.X
namespace Go.Va
open Go.Proofs.X
inductive Bt
 |co (b:Bool)
 |va (v a:Nat)
inductive Sg
 |co (b:ALy)
 |va (v l n:Nat)
def Sg.bits:Sg->AL7 Bt
 |.co b=>b.map .co
 |.va v l n=>(List.range n).map λk=>.va v (l+k)
def Sg.w:Sg->Nat
 |.co b=>b.length
 |.va _ _ n=>n
def Bt.sg:Bt->Sg
 |.co b=>.co [b]
 |.va v a=>.va v a 1
def Sg.join:Sg->Sg->AL8 Sg
 |.co a,.co b=>some (.co (a++b))
 |.va v l n,.va v' l' n'=>if v=v'/\l+n=l' then some (.va v l (n+n'))else none
 |_,_=>none
def Sg.ZO(a b:Sg):Bool:=(a.join b).isSome
def Hf(f:AL7 Sg)(s:Sg):AL7 Sg :=
 match f.getLast? with
 |none=>[s]
 |some l=>match l.join s with
  |some j=>f.dropLast++[j]
  |none=>f++[s]
def OW(f ss:AL7 Sg):AL7 Sg:=ss.foldl Hf f
def WO(f:AL7 Sg)(bs:AL7 Bt):AL7 Sg:=bs.foldl (λf b=>Hf f b.sg) f
def Av(bs:AL7 Bt):AL7 Sg:=WO [] bs
def C4(f:AL7 Sg):AL7 Bt:=f.flatMap Sg.bits
def A5(f:AL7 Sg):Nat:=(f.map Sg.w).sum
theorem Q9(s:Sg):Hf [] s=[s]:=rfl
theorem EI(g:AL7 Sg)(l s:Sg):Hf (g++[l]) s=match l.join s with |some j=>g++[j]|none=>g++[l,s]:=by
 unfold Hf;rw[List.getLast?_append];simp only[List.getLast?_singleton,Option.some_or,List.dropLast_concat];cases l.join s<;>simp
theorem Kh(s:Sg):s.bits.length=s.w:=by cases s<;>simp[Sg.bits,Sg.w]
theorem Nq(f:AL7 Sg):(C4 f).length=A5 f:=by
 induction f with
 |nil=>rfl
 |cons s f ih=>simp only[C4,A5,ALd,AI2,Kh,AJI,AKp]at *;rw[ih]
theorem kq{a b j:Sg}(h:a.join b=some j):j.bits=a.bits++b.bits:=by
 cases a<;>cases b<;>simp only[Sg.join]at h
 ·cases h;simp[Sg.bits]
 ·cases h
 ·cases h
 ·rename_i v l n v' l' n';split at h
  ·rename_i hc;cases h;obtain⟨rfl,rfl⟩:=hc;simp only[Sg.bits];rw[List.range_add,AJJ,AKX];congr 1;refine AJQ λk _=>?_;simp[AJ0]
  ·cases h
theorem cw(f:AL7 Sg)(s:Sg):C4 (Hf f s)=C4 f++s.bits:=by
 rcases AKh f with rfl |⟨g,l,rfl⟩
 ·simp[Q9,C4]
 ·rw[AKi,EI];cases h:l.join s with
  |none=>simp[C4]
  |some j=>simp[C4,kq h]
theorem xI(f:AL7 Sg)(bs:AL7 Bt):C4 (WO f bs)=C4 f++bs:=by
 induction bs generalizing f with
 |nil=>simp[WO]
 |cons b bs ih =>
  rw[show WO f (b::bs)=WO (Hf f b.sg) bs from rfl,ih,cw];cases b<;>simp[Bt.sg,Sg.bits]
theorem Hm(bs:AL7 Bt):C4 (Av bs)=bs:=xI [] bs
theorem Lt(f:AL7 Sg)(a b:AL7 Bt):WO f (a++b)=WO (WO f a) b:=AKP
theorem uT(s:Sg)(h:2<=s.w):∃(t:Sg) (b:Bt),1<=t.w/\t.w<s.w/\s.bits=t.bits++[b]/\t.join b.sg=some s/\(∀l j:Sg,l.join t=some j->j.join b.sg=l.join s)/\(∀l:Sg,l.join t=none->l.join s=none):=by
 cases s with
 |co bs =>
  simp only[Sg.w]at h;rcases AKh bs with rfl |⟨cs,x,rfl⟩
  ·simp at h
  ·rw[AKi]at h⊢;refine⟨.co cs,.co x,?_,?_,?_,rfl,λl j hj=>?_,λl hl=>?_⟩
   ·simp[Sg.w]at h⊢;omega
   ·simp[Sg.w]
   ·simp[Sg.bits]
   ·cases l<;>simp only[Sg.join]at hj
    ·cases hj;simp[Sg.join,Bt.sg]
    ·cases hj
   ·cases l<;>simp[Sg.join]at hl⊢
 |va v l n =>
  simp only[Sg.w]at h;obtain⟨m,rfl⟩:∃m,n=m+1:=⟨n-1,by omega⟩;refine⟨.va v l m,.va v (l+m),by simp[Sg.w];omega,by simp[Sg.w],?_,by simp[Sg.join,Bt.sg],λk j hj=>?_,λk hk=>?_⟩
  ·simp[Sg.bits,AKf]
  ·cases k<;>simp only[Sg.join]at hj
   ·cases hj
   ·split at hj
    ·rename_i hc;cases hj;obtain⟨rfl,rfl⟩:=hc;simp[Sg.join,Bt.sg,AJ0]
    ·cases hj
  ·cases k with
   |co b=>rfl
   |va v' l' n' =>
    simp only[Sg.join]at hk⊢;split at hk
    ·cases hk
    ·rename_i hc;rw[AJh hc]
theorem Xm:∀(n:Nat) (s:Sg) (f:AL7 Sg),s.w=n->1<=n->Hf f s=WO f s.bits:=by
 intro n;induction n using Nat.strongRecOn with
 |_ n ih =>
  intro s f hn h1;rcases AI9 1 n with h |h
  ·obtain⟨t,b,ht1,ht2,hb,hj,hlj,hln⟩:=uT s (by omega);rw[hb,Lt,<-ih t.w (by omega) t f rfl ht1];show _=Hf (Hf f t) b.sg;rcases AKh f with rfl |⟨g,l,rfl⟩
   ·rw[Q9,Q9,show[t]=[]++[t]from rfl,EI,hj];rfl
   ·rw[AKi,EI,EI];cases hl:l.join t with
    |none =>
     rw[hln l hl];simp only;rw[show g++[l,t]=(g++[l])++[t] by simp,EI,hj];simp
    |some j =>
     simp only;rw[EI,hlj l j hl];cases hls:l.join s with
     |some k=>rfl
     |none =>
      have:=hlj l j hl;rw[hls]at this
      exfalso
      cases l<;>cases s<;>cases t<;>simp[Sg.join]at hl hls hj
      all_goals first |(cases b<;>simp[Bt.sg,Sg.join]at hj<;>done)|skip
      all_goals (cases b<;>simp[Bt.sg,Sg.join]at hj;try omega)
  ·have:n=1:=by omega
   subst this;have hs:∃b:Bt,s=b.sg/\s.bits=[b]:=by
    cases s with
    |co bs =>
     simp only[Sg.w]at hn;obtain⟨x,rfl⟩:=List.length_eq_one_iff.1 hn;exact⟨.co x,rfl,rfl⟩
    |va v l m =>
     simp only[Sg.w]at hn;subst hn;exact⟨.va v l,rfl,by simp[Sg.bits]⟩
   obtain⟨b,hb,Azd⟩:=hs;rw[Azd,hb];rfl
def X2(f:AL7 Sg):Prop:=∀s∈f,1<=s.w
theorem cy{f ss:AL7 Sg}(h:X2 ss):OW f ss=WO f (C4 ss):=by
 induction ss generalizing f with
 |nil=>rfl
 |cons s ss ih =>
  rw[show OW f (s::ss)=OW (Hf f s) ss from rfl,ih λx hx=>h x (AJq _ hx),Xm _ s f rfl (h s AJt),show C4 (s::ss)=s.bits++C4 ss from rfl,Lt]
theorem ApO{a b j:Sg}(h:a.join b=some j):j.w=a.w+b.w:=by rw[<-Kh,kq h,AI2,Kh,Kh]
theorem cx{f:AL7 Sg}{s:Sg}(hf:X2 f)(hs:1<=s.w):X2 (Hf f s):=by
 rcases AKh f with rfl |⟨g,l,rfl⟩
 ·intro x hx;rw[Q9,AJp]at hx;rw[hx];exact hs
 ·rw[AKi]at hf⊢;rw[EI];have hl:=hf l (by simp);cases h:l.join s with
  |none =>
   intro x hx;simp only[AJ2,AKo,AK5,or_false]at hx;rcases hx with hx |rfl |rfl
   ·exact hf x (by simp[hx])
   ·exact hl
   ·exact hs
  |some j =>
   intro x hx;simp only[AJ2,AKo,AK5,or_false]at hx;rcases hx with hx |rfl
   ·exact hf x (by simp[hx])
   ·rw[ApO h];omega
theorem Ap3(b:Bt):b.sg.w=1:=by cases b<;>rfl
theorem xJ{f:AL7 Sg}(hf:X2 f)(bs:AL7 Bt):X2 (WO f bs):=by
 induction bs generalizing f with
 |nil=>exact hf
 |cons b bs ih=>exact ih (cx hf (by rw[Ap3];exact AI4 _))
theorem C1(bs:AL7 Bt):X2 (Av bs):=xJ (λx hx=>by cases hx) bs
theorem Cm(bs:AL7 Bt):A5 (Av bs)=bs.length:=by rw[<-Nq,Hm]
theorem rG(a b:AL7 Bt):OW (Av a) (Av b)=Av (a++b):=by
 rw[cy (C1 b),Hm];exact(Lt [] a b).symm
theorem CQ{f:AL7 Sg}(h:X2 f):f.length<=A5 f:=by
 induction f with
 |nil=>exact AI4 _
 |cons s f ih =>
  have:=ih λx hx=>h x (AJq _ hx);have:=h s AJt;simp only[A5,AJL,AJI,AKp]at *;omega
end Go.Va
namespace Go.Proofs.X
open Go Go.Va
set_option maxRecDepth 100000
def jh(bs:ALy):ALq:=zR bs.length λi=>bs.getD i false
def Hn:Sg->ALn
 |.co bs=>(-1,0,(bs.length:Int),jh bs,())
 |.va v l n=>((v:Int),(l:Int),(n:Int),(0,[],()),())
def UR:Bt->ALk
 |.co b=>(-1,bI b,())
 |.va v a=>((v:Int),(a:Int),())
def fV(f:AL7 Sg):ALD:=f.map Hn
def bV(f:AL7 Bt):ALA:=f.map UR
def VN:Sg->Prop
 |.co bs=>bs.length<=4096
 |.va v l n=>v<=4096/\l+n<=4096
theorem uy{bs:ALy}{n:Nat}{f:Nat->Bool}(hl:bs.length=n)(h:∀i,i<n->bs.getD i false=f i):jh bs=zR n f:=by
 unfold jh;rw[hl];exact yN h
theorem Ad3{a b:ALy}(h:a.length+b.length<=8192):∃r,Gz (jh b) (jh a)=some r/\(r.1,r.2,())=jh (a++b):=by
 refine⟨_,Ahy (by omega),(uy (by rw[AI2];omega) λi hi=>?_).symm⟩;by_cases h:i<a.length
 ·rw[AJg h];simp[List.getD,AJo,h]
 ·rw[AJh h];simp[List.getD,AJo,h]
theorem wi{bs:ALy}{a w:Nat}(hn:bs.length<=8192)(h1:1<=w)(h:a+w<=bs.length):∃r,En (jh bs) (a:Int) (w:Int)=some r/\(r.1,r.2,())=jh ((bs.drop a).take w):=by
 refine⟨_,Ao1 (by omega) h1 h,(uy (by rw[AJj,AJy];omega) λi hi=>?_).symm⟩;simp[List.getD,hi]
theorem AdJ{a b:Sg}(ha:VN a):Dp (Hn a) (Hn b)=a.ZO b:=by
 cases a with
 |co x =>
  cases b with
  |co y=>simp[Dp,Hn,Sg.ZO,Sg.join]
  |va v l n =>
   simp only[Dp,Hn,Sg.ZO,Sg.join,Option.isSome_none,AKA];left;simp
 |va v l n =>
  cases b with
  |co y =>
   simp only[Dp,Hn,Sg.ZO,Sg.join,Option.isSome_none,AKA];left;simp
  |va v' l' n' =>
   simp only[VN]at ha;simp only[Dp,Hn,Sg.ZO,Sg.join];rw[show wI ((l:Int)+(n:Int))=((l+n:Nat):Int)from A4 (by omega) (by omega)];by_cases h:v=v'/\l+n=l'
   ·rw[AJg h];obtain⟨rfl,rfl⟩:=h;simp
   ·rw[AJh h];simp only[Option.isSome_none,AKA,AJY,AKa,ne_eq];by_cases hv:v=v'
    ·exact .inr ⟨show ¬(v:Int)=-1 by omega,λe=>h ⟨hv,Int.ofNat.inj e⟩⟩
    ·exact .inl λe=>hv (Int.ofNat.inj e)
theorem aN{A:Type}(g:AL7 A)(x z:A):(g++[x]).getD g.length z=x:=by simp[List.getD]
theorem gP{A:Type}(g:AL7 A)(x y:A):(g++[x]).set g.length y=g++[y]:=by simp
theorem O3(f g:AL7 Sg):fV (f++g)=fV f++fV g:=AJJ
theorem B5(f:AL7 Sg):(fV f).length=f.length:=AJa _
theorem IQ{A B:Type}(f:A->B){l:AL7 A}{k:Nat}{y:A}{z:B}(h:k<l.length):(l.map f).getD k z=f (l.getD k y):=by simp[List.getD,h]
theorem uK{ss f:AL7 Sg}{k:Nat}{b:Int}(hk:k<ss.length)(hs:VN (ss.getD k (.co [])))(hf:∀s∈f,VN s)(hl:f.length<=1048576):Nz (fV ss) b (k:Int) (fV f)=some (fV (Hf f (ss.getD k (.co [])))):=by
 obtain⟨s,na⟩:∃s,s=ss.getD k (.co []):=⟨_,rfl⟩;have Ul:(fV ss).getD k Ae.zero=Hn s:=by rw[na];exact IQ Hn hk
 rw[<-na]at hs⊢;unfold Nz;rw[AJg (Bf (by rw[B5];exact hk)),AIZ,Ul];rcases AKh f with rfl |⟨g,l,rfl⟩
 ·unfold Nx;rfl
 ·rw[AKi]at hf hl⊢;have zK:VN l:=hf l (by simp);have sC:(fV (g++[l])).length=g.length+1:=by rw[B5,AI2];rfl
  have e1:wI (((fV (g++[l])).length:Int)-1)=(g.length:Int):=by
   rw[AI2]at hl;rw[sC];exact A4 (by omega) (by simp at hl;omega)
  have hgl:(fV (g++[l])).getD g.length Ae.zero=Hn l:=by
   rw[O3,<-B5 g];exact aN _ _ _
  have e2:decide ((g.length:Int)<0)=false:=by simp
  have e3:(0:Int)<=(g.length:Int)/\(g.length:Int)<((fV (g++[l])).length:Int):=⟨by omega,by rw[sC];omega⟩;rw[e1,EI];unfold Nx;rw[e2,AJd,AJg e3,AIZ,hgl,AdJ zK,AIY];cases hj:l.join s with
  |none =>
   rw[show l.ZO s=false by unfold Sg.ZO;rw[hj];rfl];show(if(_+1)*56<=_ then _ else none)=_;rw[AJg (by rw[sC];simp at hl;omega)];simp[O3,fV]
  |some j =>
   rw[show l.ZO s=true by unfold Sg.ZO;rw[hj];rfl];show(Ny (fV ss) b (k:Int) (fV (g++[l])) (g.length:Int) (Hn s)).bind _=_;unfold Ny;cases l with
   |co x =>
    cases s with
    |va v' l' n'=>simp[Sg.join]at hj
    |co y =>
     simp only[Sg.join,AI0]at hj;subst hj;simp only[VN]at zK hs;obtain⟨r,aS,wS⟩:=Ad3 (a:=x) (b:=y) (by omega);rw[show((Hn (.co y)).1==(-1:Int))=true from rfl,AJe,AJg e3,AIZ,hgl];rw[show Gz (Hn (.co y)).2.2.2.1 (Hn (.co x)).2.2.2.1=some r from aS,AIY,AJg e3,wS,AIY];have e4:(0:Int)<=(g.length:Int)/\(g.length:Int)<(((fV (g++[Sg.co x])).set g.length ((Hn (.co x)).1,(Hn (.co x)).2.1,(Hn (.co x)).2.2.1,jh (x++y),(Hn (.co x)).2.2.2.2)).length:Int):=by rw[AI7];exact e3
     rw[AJg e4,AJg e4];have Fx:(fV (g++[Sg.co x])).set g.length ((Hn (.co x)).1,(Hn (.co x)).2.1,(Hn (.co x)).2.2.1,jh (x++y),(Hn (.co x)).2.2.2.2)=fV g++[(-1,0,(x.length:Int),jh (x++y),())]:=by
      rw[O3,<-B5 g];exact gP _ _ _
     rw[Fx,show(fV g++[((-1,0,(x.length:Int),jh (x++y),()):ALn)]).getD g.length Ae.zero=(-1,0,(x.length:Int),jh (x++y),()) by rw[<-B5 g];exact aN _ _ _];simp only;rw[show wI ((x.length:Int)+(Hn (.co y)).2.2.1)=(((x++y).length:Nat):Int) by
      rw[AI2];exact A4 (by show(x.length:Int)+(y.length:Int)=_;omega) (by omega)]
     rw[O3,<-B5 g,gP];rfl
   |va v l n =>
    cases s with
    |co y=>simp[Sg.join]at hj
    |va v' l' n' =>
     simp only[VN]at zK hs;simp only[Sg.join]at hj;split at hj
     ·rename_i hc;cases hj;rw[show((Hn (.va v' l' n')).1==(-1:Int))=false by simp[Hn],AJd,AIY,AJg e3,AJg e3];show some (List.set (fV (g++[Sg.va v l n])) g.length (((fV (g++[Sg.va v l n])).getD g.length Ae.zero).1,((fV (g++[Sg.va v l n])).getD g.length Ae.zero).2.1,wI (((fV (g++[Sg.va v l n])).getD g.length Ae.zero).2.2.1+(Hn (.va v' l' n')).2.2.1),((fV (g++[Sg.va v l n])).getD g.length Ae.zero).2.2.2))=_;rw[hgl];rw[show wI ((Hn (.va v l n)).2.2.1+(Hn (.va v' l' n')).2.2.1)=((n+n':Nat):Int)from A4 (by show(n:Int)+(n':Int)=_;omega) (by omega)];rw[O3,<-B5 g];show some (List.set (fV g++[Hn (.va v l n)]) (fV g).length _)=_;rw[gP,O3];rfl
     ·cases hj
theorem ZY{f:AL7 Sg}{s:Sg}(hf:∀x∈f,VN x)(hs:VN s)(hw:A5 f+s.w<=4096):∀x∈Hf f s,VN x:=by
 rcases AKh f with rfl |⟨g,l,rfl⟩
 ·intro x hx;rw[Q9,AJp]at hx;rw[hx];exact hs
 ·rw[AKi]at hf hw⊢;rw[EI];have hl:=hf l (by simp);cases h:l.join s with
  |none =>
   intro x hx;simp only[AJ2,AKo,AK5,or_false]at hx;rcases hx with hx |rfl |rfl
   ·exact hf x (by simp[hx])
   ·exact hl
   ·exact hs
  |some j =>
   intro x hx;simp only[AJ2,AKo,AK5,or_false]at hx;rcases hx with hx |rfl
   ·exact hf x (by simp[hx])
   ·cases l<;>cases s<;>simp only[Sg.join]at h
    ·cases h;simp only[A5,AJJ,AKx,AJI,AKt,AKp,List.sum_nil,Sg.w]at hw;simp only[VN,AI2];omega
    ·cases h
    ·cases h
    ·split at h
     ·rename_i hc;cases h;simp only[VN]at hl hs⊢;omega
     ·cases h
theorem gH(f:AL7 Sg)(s:Sg):A5 (Hf f s)=A5 f+s.w:=by
 rw[<-Nq,cw,AI2,Nq,Kh]
theorem EN{f:AL7 Sg}{k:Nat}(h:k<f.length):A5 (f.take (k+1))=A5 (f.take k)+(f.getD k (.co [])).w:=by
 rw[AW h (z:=.co [])];simp[A5]
theorem EB(f:AL7 Sg)(k:Nat):A5 (f.take k)<=A5 f:=by
 have:A5 f=A5 (f.take k)+A5 (f.drop k):=by
  unfold A5;rw[<-AKx,<-AJJ,AJ8]
 omega
theorem rF{ss f:AL7 Sg}(h1:X2 ss)(h2:X2 f)(hs:∀s∈ss,VN s)(hf:∀s∈f,VN s)(hw:A5 f+A5 ss<=4096):Eb (fV ss) (fV f)=some (fV (OW f ss)):=by
 unfold Eb UW;have hlen:=CQ h1;have Vz:∀k,k<=ss.length->X2 (OW f (ss.take k))/\(∀s∈OW f (ss.take k),VN s)/\A5 (OW f (ss.take k))=A5 f+A5 (ss.take k):=by
  intro k;induction k with
  |zero=>exact λ_=>⟨h2,hf,rfl⟩
  |succ k ih =>
   intro hk;obtain⟨i1,i2,i3⟩:=ih (by omega);have hm:ss.getD k (.co [])∈ss:=AE (by omega);have hwk:=EN (show k<ss.length by omega);have:=EB ss (k+1);have e:OW f (ss.take (k+1))=Hf (OW f (ss.take k)) (ss.getD k (.co [])):=by
    rw[AW (show k<ss.length by omega) (z:=.co [])];exact AKP
   rw[e];exact⟨cx i1 (h1 _ hm),ZY i2 (hs _ hm) (by omega),by rw[gH,i3,hwk];omega⟩
 have:=AU (f:=Fy (fV ss) ((fV ss).length:Int)) (λk=>((k:Int),fV (OW f (ss.take k)))) (t:=fV (OW f ss)) ss.length (λk hk=>by
  obtain⟨i1,i2,i3⟩:=Vz k (by omega);have hm:ss.getD k (.co [])∈ss:=AE hk;have:=EB ss k;unfold Fy N0;simp only;rw[B5,Dl hk,AJe];rw[uK hk (hs _ hm) i2 (by have:=CQ i1;omega),AIY,Bc hk (by omega),AW hk (z:=.co [])];rw[show OW f (ss.take k++[ss.getD k (.co [])])=Hf (OW f (ss.take k)) (ss.getD k (.co []))from AKP]) (by
  unfold Fy N0;simp only;rw[B5,D1,AJd,AI8 (AI4 _)])
 rw[show fix (Fy (fV ss) ((fV ss).length:Int)) (0,fV f)=some (fV (OW f ss))from this];rfl
theorem mK{f:AL7 Sg}(h1:X2 f)(hw:A5 f<=4096):GG (fV f)=some (A5 f:Int):=by
 unfold GG PO;have hlen:=CQ h1;have:=AU (f:=CP (fV f) ((fV f).length:Int)) (λk=>((A5 (f.take k):Int),(k:Int))) (t:=(A5 f:Int)) f.length (λk hk=>by
  have h1:=EN hk;have h2:=EB f (k+1);unfold CP Iv;simp only;rw[B5,Dl hk,AJe,AJg (Bf hk),AIZ];rw[Bc hk (by omega),show(fV f).getD k Ae.zero=Hn (f.getD k (.co []))from IQ Hn hk];rw[show(Hn (f.getD k (.co []))).2.2.1=((f.getD k (.co [])).w:Int) by cases f.getD k (.co [])<;>rfl];rw[show wI ((A5 (f.take k):Int)+((f.getD k (.co [])).w:Int))=(A5 (f.take (k+1)):Int)from A4 (by omega) (by omega)]) (by
  unfold CP Iv;simp only;rw[B5,D1,AJd,AI8 (AI4 _)])
 rw[show fix (CP (fV f) ((fV f).length:Int)) (0,0)=some (A5 f:Int)from this];rfl
def part(s:Sg)(a w:Nat):Sg :=
 match s with
 |.co bs=>.co ((bs.drop a).take w)
 |.va v l _=>.va v (l+a) w
theorem kO{s:Sg}{a w:Nat}(h:a+w<=s.w):(part s a w).bits=(s.bits.drop a).take w:=by
 cases s with
 |co bs=>simp[part,Sg.bits]
 |va v l n =>
  simp only[Sg.w]at h;simp only[part,Sg.bits];refine AKs (by simp;omega) λi h1 h2=>?_;simp[AJ0]
theorem uE{s:Sg}{a w:Nat}(h:a+w<=s.w):(part s a w).w=w:=by
 rw[<-Kh,kO h,AJj,AJy,Kh];omega
theorem uD{s:Sg}{a w:Nat}(hs:VN s)(h:a+w<=s.w):VN (part s a w):=by
 cases s with
 |co bs=>simp only[part,VN,AJj,AJy]at *;omega
 |va v l n=>simp only[part,VN,Sg.w]at *;omega
theorem uO{s:Sg}{a w:Nat}(hs:VN s)(h1:1<=w)(h:a+w<=s.w):∃r,Nv (Hn s) (a:Int) (w:Int)=some r/\(r.1,r.2.1,r.2.2.1,(r.2.2.2.1,r.2.2.2.2,()),())=Hn (part s a w):=by
 unfold Nv;cases s with
 |co bs =>
  simp only[VN]at hs;simp only[Sg.w]at h;obtain⟨r,aS,wS⟩:=wi (show bs.length<=8192 by omega) h1 h;rw[show((Hn (.co bs)).1==(-1:Int))=true from rfl,AJe,show En (Hn (.co bs)).2.2.2.1 (a:Int) (w:Int)=some r from aS];refine⟨_,rfl,?_⟩;have hw:r.1=(w:Int):=by
   have:=congrArg (λx:ALq=>x.1) wS;have e:r.1=((((bs.drop a).take w).length:Nat):Int):=this;rw[e,AJj,AJy];congr 1;omega
  show(-1,0,r.1,(r.1,r.2,()),())=Hn (.co ((bs.drop a).take w));rw[wS];rw[show Hn (.co ((bs.drop a).take w))=(-1,0,(((bs.drop a).take w).length:Int),jh ((bs.drop a).take w),())from rfl,hw,show((bs.drop a).take w).length=w by rw[AJj,AJy];omega]
 |va v l n =>
  simp only[VN]at hs;simp only[Sg.w]at h;rw[show((Hn (.va v l n)).1==(-1:Int))=false by simp[Hn],AJd];refine⟨_,rfl,?_⟩;simp only[part,Hn];rw[show wI ((l:Int)+(a:Int))=((l+a:Nat):Int)from A4 (by omega) (by omega)]
theorem fz{f:AL7 Sg}{k:Nat}(h:k<f.length):(fV f).getD k Ae.zero=Hn (f.getD k (.co [])):=IQ Hn h
theorem Wq{f:AL7 Sg}{k:Nat}(h:k<f.length):C4 (f.take (k+1))=C4 (f.take k)++(f.getD k (.co [])).bits:=by
 rw[AW h (z:=.co [])];simp[C4]
theorem Yo(s:Sg):(Hn s).2.2.1=(s.w:Int):=by cases s<;>rfl
theorem Acg{B S:AL7 Bt}{lo w:Nat}:((B++S).drop lo).take w=(B.drop lo).take w++(S.drop (max lo B.length-B.length)).take (min (lo+w) (B.length+S.length)-max lo B.length):=by
 rw[List.drop_append,List.take_append,AJy];congr 1;rw[show max lo B.length-B.length=lo-B.length by omega,List.take_eq_take_iff,AJy];omega
theorem TW{bs:AL7 Bt}(hb:∀b∈bs,VN b.sg)(hl:bs.length<=4096):∀s∈Av bs,VN s:=by
 have:∀(bs:AL7 Bt) (f:AL7 Sg),(∀b∈bs,VN b.sg)->(∀s∈f,VN s)->A5 f+bs.length<=4096->∀s∈WO f bs,VN s:=λbs=>by
  induction bs with
  |nil=>exact λf _ h _=>h
  |cons b bs ih =>
   intro f hb hf hw;simp only[AJL]at hw;exact ih _ (λx hx=>hb x (AJq _ hx)) (ZY hf (hb b AJt) (by rw[Ap3];omega)) (by rw[gH,Ap3];omega)
 exact this bs [] hb (λs hs=>by cases hs) (by show 0+_<=_;omega)
theorem ql{f:AL7 Sg}{lo w:Nat}(h1:X2 f)(hf:∀s∈f,VN s)(hb:∀b∈C4 f,VN b.sg)(hw:A5 f<=4096)(zM:lo+w<=8192):Eo (fV f) (lo:Int) (w:Int)=some (fV (Av (((C4 f).drop lo).take w))):=by
 unfold Eo Q0;have hlen:=CQ h1;have:=AU (f:=D7 (lo:Int) (w:Int) (fV f) ((fV f).length:Int)) (λk=>((A5 (f.take k):Int),(k:Int),fV (Av (((C4 (f.take k)).drop lo).take w)))) (t:=fV (Av (((C4 f).drop lo).take w))) f.length (λk hk=>by
  have hwk:=EN hk;have Ug:=EB f (k+1);have hm:f.getD k (.co [])∈f:=AE hk;obtain⟨s,hs⟩:∃s,s=f.getD k (.co []):=⟨_,rfl⟩;have hB:(C4 (f.take k)).length=A5 (f.take k):=Nq _;have Ac8:∀b∈((C4 (f.take k)).drop lo).take w,b∈C4 f:=λb hb=>by
   have:=ALg (AKn hb);rw[show C4 f=C4 (f.take k)++C4 (f.drop k) by unfold C4;rw[<-AKb,AJ8]];exact AJw _ this
  unfold D7 Jv;simp only;rw[B5,Dl hk,AJe,AJg (Bf hk),AIZ,fz hk,Bc hk (by omega),Wq hk,Acg,hB,Kh,hwk];rw[<-hs]at hm hwk⊢;rw[Yo,show wI ((A5 (f.take k):Int)+(s.w:Int))=((A5 (f.take k)+s.w:Nat):Int)from A4 (by omega) (by omega),show wI ((lo:Int)+(w:Int))=((lo+w:Nat):Int)from A4 (by omega) (by omega)];generalize hA:A5 (f.take k)=A at *;rw[show(if(A:Int)>(lo:Int)then(A:Int)else(lo:Int))=((max lo A:Nat):Int) by split<;>omega];rw[show(if((A+s.w:Nat):Int)<((lo+w:Nat):Int)then((A+s.w:Nat):Int)else((lo+w:Nat):Int))=((min (lo+w) (A+s.w):Nat):Int) by split<;>omega];unfold Mc;by_cases Bh:max lo A<min (lo+w) (A+s.w)
  ·rw[show decide (((max lo A:Nat):Int)<((min (lo+w) (A+s.w):Nat):Int))=true by simp only[AKl];omega,AJe];rw[show wI (((max lo A:Nat):Int)-(A:Int))=((max lo A-A:Nat):Int)from A4 (by omega) (by omega),show wI (((min (lo+w) (A+s.w):Nat):Int)-((max lo A:Nat):Int))=((min (lo+w) (A+s.w)-max lo A:Nat):Int)from A4 (by omega) (by omega)];have FA:max lo A-A+(min (lo+w) (A+s.w)-max lo A)<=s.w:=by omega
   obtain⟨r,aS,wS⟩:=uO (a:=max lo A-A) (w:=min (lo+w) (A+s.w)-max lo A) (hf s hm) (by omega) FA;rw[aS,AIY,wS];rw[show([Hn (part s (max lo A-A) (min (lo+w) (A+s.w)-max lo A))]:ALD)=fV [part s (max lo A-A) (min (lo+w) (A+s.w)-max lo A)]from rfl];rw[rF (λx hx=>by rw[AJp]at hx;rw[hx,uE FA];omega) (C1 _) (λx hx=>by rw[AJp]at hx;rw[hx];exact uD (hf s hm) FA)
    (TW (λb sB=>hb b (Ac8 b sB)) (by rw[AJj,AJy,hB];omega)) (by
     rw[Cm,AJj,AJy,hB];show _+(A5 [part s _ _])<=_;rw[show A5 [part s (max lo A-A) (min (lo+w) (A+s.w)-max lo A)]=min (lo+w) (A+s.w)-max lo A by simp only[A5,AJI,AKt,AKp,List.sum_nil,uE FA];rfl];omega)]
   simp only[AIY];rw[cy (λx hx=>by rw[AJp]at hx;rw[hx,uE FA];omega)];rw[show C4 [part s (max lo A-A) (min (lo+w) (A+s.w)-max lo A)]=(s.bits.drop (max lo A-A)).take (min (lo+w) (A+s.w)-max lo A) by simp[C4,kO FA]];rw[show ∀a b:AL7 Bt,WO (Av a) b=Av (a++b)from λa b=>(Lt [] a b).symm]
  ·rw[show decide (((max lo A:Nat):Int)<((min (lo+w) (A+s.w):Nat):Int))=false by simp only[AJP];omega,AJd];simp only[AIY];rw[show min (lo+w) (A+s.w)-max lo A=0 by omega,AKS,AJD]) (by
  unfold D7 Jv;simp only;rw[B5,D1,AJd,AI8 (AI4 _)])
 have h0:((A5 (f.take 0):Int),((0:Nat):Int),fV (Av (((C4 (f.take 0)).drop lo).take w)))=((0:Int),(0:Int),([]:ALD)):=by
  simp[A5,C4,Av,WO,fV]
 rw[h0]at this;rw[this];rfl
def BtB:Bt->Prop
 |.co _=>True
 |.va v a=>v<=4096/\a+1<=4096
theorem l6{b:Bt}(h:BtB b):VN b.sg:=by
 cases b with
 |co b=>simp[Bt.sg,VN]
 |va v a=>exact h
theorem C6(f:AL7 Bt):(bV f).length=f.length:=AJa _
theorem Vk(f g:AL7 Bt):bV (f++g)=bV f++bV g:=AJJ
theorem eE{f:AL7 Bt}{k:Nat}(h:k<f.length):(bV f).getD k Aa.zero=UR (f.getD k (.co false)):=IQ UR h
theorem LY{f:AL7 Bt}{k:Nat}(h:k<f.length):f.take (k+1)=f.take k++[f.getD k (.co false)]:=AW h
theorem kI(bs:ALy):(jh bs).2.1.length=nw bs.length/\Dn (jh bs).2.1:=⟨HT _ _,Hl _ _⟩
theorem Ahu{bs:ALy}{k:Nat}(h:k<bs.length)(hl:bs.length<=8192):Ij (jh bs) (k:Int)=some (bI (bs.getD k false)):=by
 have:=gg (w:=(bs.length:Int)) (Hl (low (λi=>bs.getD i false) bs.length) (nw bs.length)) (i:=k) (by rw[HT];unfold nw;omega) (by rw[HT];unfold nw;omega);rw[Aa1 h]at this;exact this
theorem uv{f:AL7 Sg}{i:Nat}{B:AL7 Bt}(hi:i<f.length)(hs:VN (f.getD i (.co [])))(hB:B.length<=8192):Qg (fV f) (i:Int) 0 (bV B)=some (bV (B++(f.getD i (.co [])).bits)):=by
 unfold Qg;obtain⟨s,na⟩:∃s,s=f.getD i (.co []):=⟨_,rfl⟩;rw[<-na]at hs⊢;have hsw:s.w<=4096:=by cases s<;>simp only[VN,Sg.w]at *<;>omega
 have:=AU (f:=Gp (fV f) (i:Int)) (λk=>((k:Int),bV (B++s.bits.take k))) (t:=bV (B++s.bits)) s.w (λk hk=>by
  unfold Gp MH Qf;simp only;have oZ:(0:Int)<=(i:Int)/\(i:Int)<((fV f).length:Int):=Bf (by rw[B5];exact hi);rw[AJg oZ,AIZ,fz hi,<-na,Yo,Dl hk,AJe,AJg oZ];have hlen:(bV (B++s.bits.take k)).length<=20000:=by rw[C6,AI2,AJj];omega
  have Ve:k<s.bits.length:=by rw[Kh];exact hk
  rw[Bc hk (by omega),LY Ve,<-AI6,show bV (B++s.bits.take k++[s.bits.getD k (.co false)])=bV (B++s.bits.take k)++[UR (s.bits.getD k (.co false))]from Vk _ _];cases s with
  |co bs =>
   simp only[Sg.w]at hk hsw;rw[show decide ((Hn (.co bs)).1<0)=true from rfl,AJe,AJg oZ,show Ij (Hn (.co bs)).2.2.2.1 (k:Int)=some (bI (bs.getD k false))from Ahu hk (by omega),AIY];rw[AJg (by show(_+1)*16<=_;omega),AIY];rw[show wI (bI (bs.getD k false))=bI (bs.getD k false) by cases bs.getD k false<;>rfl];rw[show(Sg.co bs).bits.getD k (.co false)=.co (bs.getD k false) by simp[Sg.bits,List.getD,hk]];rfl
  |va v l n =>
   simp only[Sg.w,VN]at hk hs hsw;rw[show decide ((Hn (.va v l n)).1<0)=false from AI1 (show ¬((v:Int)<0) by omega),AJd,AJg oZ,AJg oZ,AJg (by show(_+1)*16<=_;omega),AIY];rw[show wI ((Hn (.va v l n)).2.1+(k:Int))=((l+k:Nat):Int)from A4 (by show(l:Int)+(k:Int)=_;omega) (by omega)];rw[show(Sg.va v l n).bits.getD k (.co false)=.va v (l+k) by simp[Sg.bits,List.getD,hk]];rfl) (by
  unfold Gp MH;simp only;have oZ:(0:Int)<=(i:Int)/\(i:Int)<((fV f).length:Int):=Bf (by rw[B5];exact hi);rw[AJg oZ,AIZ,fz hi,<-na,Yo,D1,AJd,<-Kh,AI8 (AI4 _)])
 rw[AKS,AJD]at this;exact this
theorem yE{f:AL7 Sg}(h1:X2 f)(hf:∀s∈f,VN s)(hw:A5 f<=4096):R8 (fV f)=some (bV (C4 f)):=by
 unfold R8 Uc;have hlen:=CQ h1;have:=AU (f:=Ei (fV f)) (λk=>((k:Int),bV (C4 (f.take k)))) (t:=bV (C4 f)) f.length (λk hk=>by
  unfold Ei MI;simp only;have:=EB f k;rw[B5,Dl hk,AJe,uv hk (hf _ (AE hk)) (by rw[Nq];omega),AIY,Bc hk (by omega),Wq hk]) (by
  unfold Ei MI;simp only;rw[B5,D1,AJd,AI8 (AI4 _)])
 rw[show fix (Ei (fV f)) (0,([]:ALA))=some (bV (C4 f))from this];rfl
theorem vK(b:Bt):decide ((UR b).1<0)=(match b with |.co _=>true |.va _ _=>false):=by
 cases b with
 |co b=>rfl
 |va v a=>exact AI1 (show ¬((v:Int)<0) by omega)
theorem Ap1{B:AL7 Bt}{D:ALD}{i:Nat}{b:Bool}(hi:i<B.length)(hb:B.getD i (.co false)=.co b)(hl:B.length<=4096) :
    Aw (Qj (bV B) D ((i+1:Nat):Int) [bI b]) λr=>∃bs:ALy,r=(((i+bs.length:Nat):Int),bs.map bI)/\1<=bs.length/\i+bs.length<=B.length/\bs.getD 0 false=b/\B.take (i+bs.length)=B.take i++bs.map .co/\(i+bs.length<B.length->∃v a,B.getD (i+bs.length) (.co false)=.va v a):=by
 unfold Qj;refine BW (λm (x:Int×ALx)=>∃bs:ALy,x=(((i+bs.length:Nat):Int),bs.map bI)/\1<=bs.length/\i+bs.length<=B.length/\bs.getD 0 false=b/\B.take (i+bs.length)=B.take i++bs.map .co/\m=B.length-(i+bs.length)) (λm x hI=>?_) (B.length-(i+1)) _ ⟨[b],rfl,by simp,hi,rfl,by
  show B.take (i+1)=_;rw[LY hi,hb];rfl,rfl⟩
 obtain⟨bs,rfl,h1,h2,h3,h4,rfl⟩:=hI;unfold MJ Rf Qi;simp only;rcases AI9 (i+bs.length) B.length with h |h
 ·rw[C6,Dl h,AJe,AJg (Bf h),AIZ,eE h,vK];cases hx:B.getD (i+bs.length) (.co false)with
  |co y =>
   simp only[AJe,AIY,AKd];rw[AJg (Bf h),AJg (by show(_+1)*1<=_;rw[AJa];omega),Bc h (by omega)];refine Aw.mk ⟨_,?_,bs++[y],?_,by simp,by simp;omega,?_,?_,rfl⟩
   ·simp only[AI2,AJL,List.length_nil];omega
   ·rw[show IntKind.u8.wrap (UR (.co y)).2.1=bI y by cases y<;>rfl];simp[AJ0]
   ·rw[<-h3];cases bs with
    |nil=>simp at h1
    |cons z zs=>rfl
   ·rw[AI2,<-AJ0];show B.take (i+bs.length+1)=_;rw[LY h,h4,hx,AJJ,AI6];rfl
  |va v a =>
   simp only[AJd,AIY,AJO];exact Aw.mk ⟨bs,rfl,h1,h2,h3,h4,λ_=>⟨v,a,hx⟩⟩
 ·rw[C6,show decide (((i+bs.length:Nat):Int)<(B.length:Int))=false from AI1 (by omega),AJd,AIY,AJO];exact Aw.mk ⟨bs,rfl,h1,h2,h3,h4,λh'=>absurd h' (by omega)⟩
theorem Ap2{B:AL7 Bt}{D:ALD}{i v a:Nat}(hi:i<B.length)(hb:B.getD i (.co false)=.va v a)(hB:∀b∈B,BtB b)(hl:B.length<=4096) :
    Aw (Ql (bV B) (i:Int) D ((i+1:Nat):Int)) λr=>∃n,r=((i+n:Nat):Int)/\1<=n/\i+n<=B.length/\B.take (i+n)=B.take i++(Sg.va v a n).bits/\(i+n<B.length->(Sg.va v a n).join (B.getD (i+n) (.co false)).sg=none):=by
 unfold Ql;refine BW (λm (x:Int)=>∃n,x=((i+n:Nat):Int)/\1<=n/\i+n<=B.length/\B.take (i+n)=B.take i++(Sg.va v a n).bits/\m=B.length-(i+n)) (λm x hI=>?_) (B.length-(i+1)) _ ⟨1,rfl,by omega,hi,by
  rw[LY hi,hb];rfl,rfl⟩
 obtain⟨n,rfl,h1,h2,h4,rfl⟩:=hI;unfold MK Rh Qk;have AiJ:B.getD (i+n-1) (.co false)=.va v (a+n-1):=by
  have e:(B.take (i+n)).getD (i+n-1) (.co false)=B.getD (i+n-1) (.co false):=by
   simp only[List.getD,AJM,show i+n-1<i+n by omega,AJK]
  rw[<-e,h4];have hti:(B.take i).length=i:=by rw[AJj];omega
  simp only[List.getD,AJo,hti,show ¬i+n-1<i by omega,AKv];rw[show i+n-1-i=n-1 by omega];simp only[Sg.bits,AJr,AKQ,show n-1<n by omega,Option.map_some,Option.getD_some];congr 1;omega
 have M6:=hB (.va v (a+n-1)) (by rw[<-AiJ];exact AE (by omega));simp only[BtB]at M6;rcases AI9 (i+n) B.length with h |h
 ·rw[C6,Dl h,AJe,AJg (Bf h),AIZ,AIZ,eE h,AJg (Bf hi),eE hi,hb];rw[show wI (((i+n:Nat):Int)-1)=((i+n-1:Nat):Int)from A4 (by omega) (by omega),AIZ,eE (by omega),AiJ,AJg (Bf h),AJg (Bf (by omega))];rw[show wI ((UR (.va v (a+n-1))).2.1+1)=((a+n:Nat):Int)from A4 (by show((a+n-1:Nat):Int)+1=_;omega) (by omega)];by_cases hc:B.getD (i+n) (.co false)=.va v (a+n)
  ·rw[hc];rw[show((UR (.va v (a+n))).1==(UR (.va v a)).1)=true from AKB (v:Int),AJe,show((UR (.va v (a+n))).2.1==((a+n:Nat):Int))=true from AKB _,AJe,AIY,AKd,Bc h (by omega)];refine Aw.mk ⟨_,?_,n+1,by rw[AJ0],by omega,by omega,?_,rfl⟩
   ·omega
   ·rw[<-AJ0,LY h,h4,hc];simp[Sg.bits,AKf]
  ·have X6:(bif (UR (B.getD (i+n) (.co false))).1==(UR (.va v a)).1 then(bif (UR (B.getD (i+n) (.co false))).2.1==((a+n:Nat):Int)then some (.inl ())else some (.inr ()))else some (.inr ()):AL8 (Unit⊕Unit))=some (.inr ()):=by
     cases hx:B.getD (i+n) (.co false)with
     |co y=>rw[show((UR (.co y)).1==(UR (.va v a)).1)=false by simp[UR]];rfl
     |va v' a' =>
      by_cases hv:v'=v
      ·by_cases ha:a'=a+n
       ·subst hv ha;exact absurd hx hc
       ·rw[show((UR (.va v' a')).2.1==((a+n:Nat):Int))=false from beq_eq_false_iff_ne.2 λe=>ha (Int.ofNat.inj e)];cases ((UR (.va v' a')).1==(UR (.va v a)).1)<;>rfl
      ·rw[show((UR (.va v' a')).1==(UR (.va v a)).1)=false from beq_eq_false_iff_ne.2 λe=>hv (Int.ofNat.inj e)];rfl
   refine Aw.of (a:=.inr ((i+n:Nat):Int)) (by
    have:=congrArg (λo=>o.bind (Sum.elim (λ(_:Unit)=>some (.inl (wI (((i+n:Nat):Int)+1)))) (λ(_:Unit)=>some (.inr ((i+n:Nat):Int):Int⊕Int)))) X6;exact this) ?_
   refine⟨n,rfl,h1,h2,h4,λ_=>?_⟩;cases hx:B.getD (i+n) (.co false)with
   |co y=>rfl
   |va v' a' =>
    simp only[Sg.join,Bt.sg];rw[AJh]
    rintro⟨rfl,rfl⟩
    exact hc hx
 ·rw[C6,show decide (((i+n:Nat):Int)<(B.length:Int))=false from AI1 (by omega),AJd,AIY,AJO];exact Aw.mk ⟨n,rfl,h1,h2,h4,λh'=>absurd h' (by omega)⟩
theorem AeT{l s:Sg}{b:Bt}{r:AL7 Bt}(hs:s.bits=b::r)(h:l.join b.sg=none):l.join s=none:=by
 cases s with
 |co bs =>
  cases bs with
  |nil=>simp[Sg.bits]at hs
  |cons x xs =>
   simp only[Sg.bits,AJI,AKw]at hs;obtain⟨rfl,_⟩:=hs;cases l<;>simp[Sg.join,Bt.sg]at h⊢
 |va v a n =>
  cases n with
  |zero=>simp[Sg.bits]at hs
  |succ n =>
   simp only[Sg.bits,List.range_succ_eq_map,AJI,AKw]at hs;obtain⟨rfl,_⟩:=hs;cases l with
   |co y=>rfl
   |va v' l' n' =>
    simp only[Sg.join,Bt.sg,AKV]at h⊢;split at h
    ·cases h
    ·rename_i hc;rw[AJh hc]
def Stop(f:AL7 Sg)(b:Bt):Prop:=∀l,f.getLast?=some l->l.join b.sg=none
theorem uV{f:AL7 Sg}{s:Sg}{b:Bt}{r:AL7 Bt}(h:Stop f b)(hs:s.bits=b::r):Hf f s=f++[s]:=by
 unfold Hf;cases hl:f.getLast? with
 |none=>rw[List.getLast?_eq_none_iff]at hl;subst hl;rfl
 |some l=>simp only[AeT hs (h l hl)]
theorem AdW{B:AL7 Bt}{s:Sg}{b:Bt}{r:AL7 Bt}(h:Stop (Av B) b)(hs:s.bits=b::r)(hw:1<=s.w):Av (B++s.bits)=Av B++[s]:=by
 rw[show Av (B++s.bits)=WO (Av B) s.bits from Lt [] B s.bits,<-Xm _ s _ rfl hw,uV h hs]
theorem yF{B:AL7 Bt}(hB:∀b∈B,BtB b)(hl:B.length<=4096):R9 (bV B)=some (decide ((Av B).length<=2000),fV (Av B)):=by
 unfold R9 SJ;refine Aw.eq_ (Aw.bind (P:=λr=>r=fV (Av B)) ?_ λr hr=>Aw.mk (by
  rw[hr,B5];congr 1;rw[AKK];omega))
 refine BW (λm (x:Int×ALD)=>∃i:Nat,x=((i:Int),fV (Av (B.take i)))/\i<=B.length/\(i<B.length->Stop (Av (B.take i)) (B.getD i (.co false)))/\m=B.length-i) (λm x hI=>?_) B.length _ ⟨0,rfl,AJU _,λ_ l hl=>by simp[Av,WO]at hl,rfl⟩;obtain⟨i,rfl,hi,BJ,rfl⟩:=hI;unfold K9 Qh;simp only;rcases AI9 i B.length with h |h
 ·rw[C6,Dl h,AJe,Bc h (by omega)];have sC:(fV (Av (B.take i))).length<=4096:=by
   have h1:=CQ (C1 (B.take i));rw[Cm,AJj]at h1;rw[B5];omega
  have key:∀s:Sg,∀n,n=s.w->1<=n->i+n<=B.length->B.take (i+n)=B.take i++s.bits->(i+n<B.length->s.join (B.getD (i+n) (.co false)).sg=none)->(s.bits.head?=some (B.getD i (.co false))) ->
      (fV (Av (B.take i))++[Hn s]=fV (Av (B.take (i+n))))/\(i+n<B.length->Stop (Av (B.take (i+n))) (B.getD (i+n) (.co false))):=by
   rintro s n rfl h1 h2 h3 h4 h5
   obtain⟨r,hr⟩:∃r,s.bits=B.getD i (.co false)::r:=by
    cases hs:s.bits with
    |nil=>rw[hs]at h5;cases h5
    |cons c r=>rw[hs]at h5;simp only[List.head?_cons,AI0]at h5;exact⟨r,by rw[h5]⟩
   have hn:=AdW (BJ h) hr h1;rw[h3,hn];refine⟨by rw[O3];rfl,λBh l hl=>?_⟩;rw[List.getLast?_append]at hl;simp only[List.getLast?_singleton,Option.some_or,AI0]at hl;subst hl;exact h4 Bh
  unfold Qm;rw[C6,AJg (Bf h),AIZ,eE h,vK];cases hx:B.getD i (.co false)with
  |co b =>
   simp only[AJe];rw[AJg (Bf h),show IntKind.u8.wrap (UR (.co b)).2.1=bI b by cases b<;>rfl];have DT:=Ap1 (D:=fV (Av (B.take i))) h hx hl;refine Aw.bind (P:=λy=>∃n,y=(((i+n:Nat):Int),fV (Av (B.take (i+n))))/\1<=n/\i+n<=B.length/\(i+n<B.length->Stop (Av (B.take (i+n))) (B.getD (i+n) (.co false)))) (DT.bind λy hy=>?_) λy hy=>?_
   ·obtain⟨bs,rfl,h1,h2,h3,h4,h5⟩:=hy;have hk:=key (.co bs) bs.length rfl h1 h2 h4 (λBh=>by obtain⟨v,a,e⟩:=h5 Bh;rw[e];rfl) (by
     rw[hx];cases bs with
     |nil=>simp at h1
     |cons z zs=>simp only[Sg.bits,AJI,List.head?_cons];rw[<-h3];rfl)
    rw[ky h1 (by omega),AIY,AJg (by show(_+1)*56<=_;omega)];exact Aw.mk ⟨bs.length,by rw[<-hk.1];rfl,h1,h2,hk.2⟩
   ·obtain⟨n,rfl,h1,h2,h3⟩:=hy;exact Aw.mk ⟨B.length-(i+n),by omega,i+n,rfl,h2,h3,rfl⟩
  |va v a =>
   simp only[AJd];have DT:=Ap2 (D:=fV (Av (B.take i))) h hx hB hl;refine Aw.bind (P:=λy=>∃n,y=(((i+n:Nat):Int),fV (Av (B.take (i+n))))/\1<=n/\i+n<=B.length/\(i+n<B.length->Stop (Av (B.take (i+n))) (B.getD (i+n) (.co false)))) (DT.bind λy hy=>?_) λy hy=>?_
   ·obtain⟨n,rfl,h1,h2,h4,h5⟩:=hy;have hk:=key (.va v a n) n rfl h1 h2 h4 h5 (by
     rw[hx];obtain⟨m,rfl⟩:∃m,n=m+1:=⟨n-1,by omega⟩;simp[Sg.bits,List.range_succ_eq_map])
    rw[AJg (Bf h),AJg (Bf h),AJg (by show(_+1)*56<=_;omega),show wI (((i+n:Nat):Int)-(i:Int))=(n:Int)from A4 (by omega) (by omega)];exact Aw.mk ⟨n,by rw[<-hk.1];rfl,h1,h2,hk.2⟩
   ·obtain⟨n,rfl,h1,h2,h3⟩:=hy;exact Aw.mk ⟨B.length-(i+n),by omega,i+n,rfl,h2,h3,rfl⟩
 ·have:i=B.length:=by omega
  subst this;rw[C6,D1,AJd,AI8 (AI4 _)];exact Aw.mk rfl
def cO(c:Int):Prop:=48<=c/\c<=57
def Sz(c:Int):Prop:=97<=c/\c<=122
instance (c:Int):Decidable (cO c):=inferInstanceAs (Decidable (_/\_))
instance (c:Int):Decidable (Sz c):=inferInstanceAs (Decidable (_/\_))
def pd(s:ByteArray):Prop:=1<=s.size/\s.size<=12/\¬cO (Cz s 0)/\∀i:Nat,i<s.size->cO (Cz s i)\/Sz (Cz s i)
theorem gi(c:Int):MA c=decide (cO c):=(AJ3 _ _).symm
theorem oz{s:ByteArray}{i:Nat}(hi:i<s.size):LV s (i:Int)=some (decide ¬(cO (Cz s i)\/Sz (Cz s i))):=by
 unfold LV;rw[AJg (Bf hi),AJg (Bf hi),AJg (Bf hi),gi];generalize Cz s (i:Int)=c;by_cases h1:cO c
 ·rw[AI3 h1,AI1 (p:=¬(cO c\/Sz c)) (λh=>h (.inl h1))];rfl
 ·rw[AI1 h1];by_cases h2:c<97
  ·rw[AI3 h2,AI3 (p:=¬(cO c\/Sz c)) (by unfold Sz;rintro(h |h);exact h1 h;omega)];rfl
  ·rw[AI1 h2];refine congrArg some (decide_eq_decide.2 ?_);unfold Sz cO at *;omega
theorem nz{s:ByteArray}{i:Nat}(hi:i<s.size):Ly s (i:Int)=some (decide ¬(cO (Cz s i)\/Sz (Cz s i))):=by
 unfold Ly;simp only[AJg (Bf hi)];generalize Cz s (i:Int)=c;by_cases h1:c<97
 ·rw[AI3 h1,AJe];by_cases h2:c<48
  ·rw[AI3 h2,AJe];exact congrArg some (AI3 (by unfold cO Sz;omega)).symm
  ·rw[AI1 h2,AJd];exact congrArg some (decide_eq_decide.2 (by unfold cO Sz;omega))
 ·rw[AI1 h1,AJd];by_cases h2:c>122
  ·rw[AI3 h2,AJe];by_cases h3:c<48
   ·rw[AI3 h3,AJe];exact congrArg some (AI3 (by unfold cO Sz;omega)).symm
   ·rw[AI1 h3,AJd];exact congrArg some (decide_eq_decide.2 (by unfold cO Sz;omega))
  ·rw[AI1 h2,AJd];exact congrArg some (AI1 (by unfold cO Sz;omega)).symm
theorem rU(s:ByteArray):Aw (Pm s) λr=>r=true↔pd s:=by
 unfold Pm Qc;by_cases h1:s.size<1
 ·rw[AI3 (by omega:(s.size:Int)<1)];exact Aw.mk ⟨λh=>by(cases h),λh=>absurd h.1 (by omega)⟩
 ·rw[AI1 (by omega:¬(s.size:Int)<1),AJd];by_cases h2:s.size>12
  ·rw[AI3 (by omega:(s.size:Int)>12)];exact Aw.mk ⟨λh=>by(cases h),λh=>absurd h.2.1 (by omega)⟩
  ·rw[AI1 (by omega:¬(s.size:Int)>12),AJd,AJg ⟨by omega,by omega⟩,AIY,gi];by_cases h3:cO (Cz s 0)
   ·rw[AI3 h3];exact Aw.mk ⟨λh=>by(cases h),λh=>absurd h3 h.2.2.1⟩
   ·rw[AI1 h3,AJd];refine Aw.bind (P:=λt=>(t=.inl ()/\¬∀i:Nat,i<s.size->cO (Cz s i)\/Sz (Cz s i))\/(t=.inr ()/\∀i:Nat,i<s.size->cO (Cz s i)\/Sz (Cz s i))) ?_ λt ht=>?_
    ·unfold T8;refine BL (λk (_:Unit)=>(k:Int)) s.size (λk _=>∀i:Nat,i<k->cO (Cz s i)\/Sz (Cz s i)) (λk _ hk hI=>?_) (λ_ hI=>?_) (s0:=()) (λi h=>by omega)
     ·unfold Je MC;rw[Dl hk,AJe,oz hk,AIY];by_cases h:cO (Cz s k)\/Sz (Cz s k)
      ·rw[AI1 (λhn=>hn h),AJd,Bc hk (by omega)];refine Aw.mk ⟨(),rfl,λi hi=>?_⟩;rcases AI9 i k with h' |h'
       ·exact hI i h'
       ·rw[show i=k by omega];exact h
      ·rw[AI3 h,AJe];exact Aw.mk (.inl ⟨rfl,λh'=>h (h' k hk)⟩)
     ·unfold Je MC;rw[D1,AJd];exact Aw.mk (.inr ⟨rfl,hI⟩)
    ·rcases ht with ⟨rfl,h⟩|⟨rfl,h⟩
     ·exact Aw.mk ⟨λh=>by(cases h),λh'=>absurd h'.2.2.2 h⟩
     ·exact Aw.mk ⟨λ_=>⟨by omega,by omega,h3,h⟩,λ_=>rfl⟩
theorem qY(s:ByteArray):Aw (Pb s) λr=>r=true↔pd s:=by
 unfold Pb PR;by_cases h1:s.size<1
 ·rw[AI3 (by omega:(s.size:Int)<1)];exact Aw.mk ⟨λh=>by(cases h),λh=>absurd h.1 (by omega)⟩
 ·rw[AI1 (by omega:¬(s.size:Int)<1),AJd];by_cases h2:s.size>12
  ·rw[AI3 (by omega:(s.size:Int)>12)];exact Aw.mk ⟨λh=>by(cases h),λh=>absurd h.2.1 (by omega)⟩
  ·rw[AI1 (by omega:¬(s.size:Int)>12),AJd,AJg ⟨by omega,by omega⟩,AJg ⟨by omega,by omega⟩];by_cases h3:Sz (Cz s 0)
   ·have h4:(bif decide (Cz s 0<97)then some true else some (decide (Cz s 0>122)))=some false:=by
      unfold Sz at h3;rw[AI1 (by omega),AJd,AI1 (by omega)]
    rw[h4,AIY,AJd];refine Aw.bind (P:=λt=>(t=.inl ()/\¬∀i:Nat,i<s.size->cO (Cz s i)\/Sz (Cz s i))\/(t=.inr ()/\∀i:Nat,i<s.size->cO (Cz s i)\/Sz (Cz s i))) ?_ λt ht=>?_
    ·unfold TE;refine BL (λk (_:Unit)=>(k:Int)) s.size (λk _=>∀i:Nat,i<k->cO (Cz s i)\/Sz (Cz s i)) (λk _ hk hI=>?_) (λ_ hI=>?_) (s0:=()) (λi h=>by omega)
     ·unfold I0 Md;rw[Dl hk,AJe,nz hk,AIY];by_cases h:cO (Cz s k)\/Sz (Cz s k)
      ·rw[AI1 (λhn=>hn h),AJd,Bc hk (by omega)];refine Aw.mk ⟨(),rfl,λi hi=>?_⟩;rcases AI9 i k with h' |h'
       ·exact hI i h'
       ·rw[show i=k by omega];exact h
      ·rw[AI3 h,AJe];exact Aw.mk (.inl ⟨rfl,λh'=>h (h' k hk)⟩)
     ·unfold I0 Md;rw[D1,AJd];exact Aw.mk (.inr ⟨rfl,hI⟩)
    ·rcases ht with ⟨rfl,h⟩|⟨rfl,h⟩
     ·exact Aw.mk ⟨λh=>by(cases h),λh'=>absurd h'.2.2.2 h⟩
     ·refine Aw.mk ⟨λ_=>⟨by omega,by omega,?_,h⟩,λ_=>rfl⟩;unfold Sz at h3;unfold cO;omega
   ·have h4:(bif decide (Cz s 0<97)then some true else some (decide (Cz s 0>122)))=some true:=by
      unfold Sz at h3;by_cases h5:Cz s 0<97
      ·rw[AI3 h5];rfl
      ·rw[AI1 h5,AJd,AI3 (by omega)]
    rw[h4,AIY,AJe];refine Aw.mk ⟨λh=>by(cases h),λh=>?_⟩;rcases h.2.2.2 0 (by omega)with h' |h'
    ·exact absurd h' h.2.2.1
    ·exact absurd h' h3
theorem Ru(n a b:Int):Bw n a b=decide (a<=n/\n<=b):=by unfold Bw;rw[AJ3]
theorem Mm(n a b:Int):AH n a b=decide (a<=n/\n<=b):=by unfold AH;rw[AJ3]
def Y9(d:ALC)(i:Nat):ALm:=d.getD i Ad.zero
def dw(d:ALC)(i:Nat):Int:=(Y9 d i).2.1
def YD(d:ALC)(k:Nat):Int:=((d.take k).map λx=>x.2.1).sum
theorem aI{d:ALC}{k:Nat}(h:k<d.length):YD d (k+1)=YD d k+dw d k:=by
 unfold YD;rw[AW h (z :=Ad.zero),AJJ,AKx];simp[dw,Y9]
def bQ(d:ALC)(i:Nat):Prop:=pd (Y9 d i).1/\(1<=dw d i/\dw d i<=4096)/\∀k,k<i->(Y9 d k).1≠(Y9 d i).1
def AL(d:ALC):Prop:=d.length<=60/\(∀i,i<d.length->bQ d i)/\YD d d.length<=20000
theorem fp{d:ALC}{k:Nat}(hk:k<=d.length)(h:∀i,i<k->bQ d i):0<=YD d k/\YD d k<=4096*k:=by
 induction k with
 |zero=>simp[YD]
 |succ k ih =>
  rw[aI (by omega)];have:=ih (by omega) λi hi=>h i (by omega);have:=(h k (by omega)).2.1;omega
theorem Wc(d:ALC):Aw (JY d) λr=>r=true↔AL d:=by
 unfold JY;by_cases hl:d.length<=60
 ·rw[AI1 (by omega:¬(d.length:Int)>60),AJd];unfold SF;refine Aw.bind (P:=λt=>(∃x,t=.inl x/\¬∀i,i<d.length->bQ d i)\/(t=.inr (YD d d.length)/\∀i,i<d.length->bQ d i)) (BL (λk (_:Unit)=>(YD d k,(k:Int))) d.length (λk _=>∀i,i<k->bQ d i) (λk _ hk hI=>?_) (λ_ hI=>?_) (s0:=()) (λi h=>by omega)) λt ht=>?_
  ·unfold H6 K5 Od;simp only;rw[Dl hk,AJe,AJg (Bf hk),AIZ];show Aw (((Pm (Y9 d k).1).bind _).bind _) _;obtain⟨r,hr,hq⟩:=rU (Y9 d k).1;rw[hr,AIY];by_cases h1:pd (Y9 d k).1
   ·rw[hq.2 h1];simp only[AJH,AJd];rw[AJg (Bf hk),AJg (Bf hk),AIY];by_cases h2:1<=dw d k/\dw d k<=4096
    ·rw[show Bw (d.getD k Ad.zero).2.1 1 4096=true from(Ru _ _ _).trans (AI3 h2)];simp only[AJH,AJd];refine Aw.bind (P:=λt=>(t=.inl ()/\¬∀j,j<k->(Y9 d j).1≠(Y9 d k).1)\/(t=.inr ()/\∀j,j<k->(Y9 d j).1≠(Y9 d k).1)) ?_ λt ht=>?_
     ·unfold SE;refine BL (λj (_:Unit)=>(j:Int)) k (λj _=>∀i,i<j->(Y9 d i).1≠(Y9 d k).1) (λj _ hj hJ=>?_) (λ_ hJ=>?_) (s0:=()) (λi h=>by omega)
      ·unfold H5 K4;rw[Dl hj,AJe,AJg (Bf (by omega)),AJg (Bf hk),AIZ,AIZ];show Aw (bif Jj (Y9 d j).1 (Y9 d k).1 then _ else _) _;cases he:Jj (Y9 d j).1 (Y9 d k).1 with
       |true=>exact Aw.mk (.inl ⟨rfl,λh=>h j hj ((VK _ _).1 he)⟩)
       |false =>
        rw[AJd,Bc hj (by omega)];refine Aw.mk ⟨(),rfl,λi hi=>?_⟩;rcases AI9 i j with h' |h'
        ·exact hJ i h'
        ·rw[show i=j by omega];intro e;rw[(VK _ _).2 e]at he;cases he
      ·unfold H5 K4;rw[D1,AJd];exact Aw.mk (.inr ⟨rfl,hJ⟩)
     ·rcases ht with ⟨rfl,h⟩|⟨rfl,h⟩
      ·exact Aw.mk (.inl ⟨_,rfl,λh'=>h (h' k hk).2.2⟩)
      ·simp only[AJO];rw[Bc hk (by omega)];have hb:=fp (by omega) hI;rw[show wI (YD d k+(d.getD k Ad.zero).2.1)=YD d (k+1) by
        rw[aI hk];have:(d.getD k Ad.zero).2.1=dw d k:=rfl;rw[this,BO (by omega) (by omega)]]
       refine Aw.mk ⟨(),rfl,λi hi=>?_⟩;rcases AI9 i k with h' |h'
       ·exact hI i h'
       ·rw[show i=k by omega];exact⟨h1,h2,h⟩
    ·rw[show Bw (d.getD k Ad.zero).2.1 1 4096=false from(Ru _ _ _).trans (AI1 h2)];exact Aw.mk (.inl ⟨_,rfl,λh=>h2 (h k hk).2.1⟩)
   ·rw[show r=false by cases r;rfl;exact absurd (hq.1 rfl) h1];exact Aw.mk (.inl ⟨_,rfl,λh=>h1 (h k hk).1⟩)
  ·unfold H6 K5;simp only;rw[D1,AJd];exact Aw.mk (.inr ⟨rfl,hI⟩)
  ·rcases ht with ⟨x,rfl,h⟩|⟨rfl,h⟩
   ·exact Aw.mk ⟨λh=>by(cases h),λh'=>absurd h'.2.1 h⟩
   ·refine Aw.mk ⟨λh'=>⟨hl,h,AKE h'⟩,λh'=>AI3 h'.2.2⟩
 ·rw[AI3 (by omega:(d.length:Int)>60),AJe];exact Aw.mk ⟨λh=>by(cases h),λh=>absurd h.1 hl⟩
theorem qb{d:ALC}{i:Nat}{name:ByteArray}(hi:i<=d.length)(hl:d.length<=1048576):Aw (Kx ((d.take i).drop 0) name) λr=>0<=r↔∃j,j<i/\(Y9 d j).1=name:=by
 unfold Kx G7 Ih;have hlen:(d.take i).length=i:=by rw[AJj];omega
 rw[ALe,hlen];refine Aw.bind (P:=λr=>0<=r.1↔∃j,j<i/\(Y9 d j).1=name) (Aw.bind (P:=λt=>(∃j:Nat,t=.inl (j:Int)/\j<i/\(Y9 d j).1=name)\/(t=.inr ()/\∀j,j<i->(Y9 d j).1≠name)) ?_ λt ht=>?_) λr hr=>Aw.mk hr
 ·refine BL (λj (_:Unit)=>(j:Int)) i (λj _=>∀k,k<j->(Y9 d k).1≠name) (λj _ hj hJ=>?_) (λ_ hJ=>?_) (s0:=()) (λi h=>by omega)
  ·unfold Cw Dv;have hg:(d.take i).getD j Ad.zero=Y9 d j:=by simp[Y9,List.getD,hj]
   rw[Dl hj,AJe,hlen,AJg (Bf hj),AIZ,hg];unfold Sp;cases he:Jj (Y9 d j).1 name with
   |true=>exact Aw.mk (.inl ⟨j,rfl,hj,(VK _ _).1 he⟩)
   |false =>
    rw[AJd,Bc hj (by omega)];refine Aw.mk ⟨(),rfl,λk hk=>?_⟩;rcases AI9 k j with h' |h'
    ·exact hJ k h'
    ·rw[show k=j by omega];intro e;rw[(VK _ _).2 e]at he;cases he
  ·unfold Cw Dv;rw[D1,AJd];exact Aw.mk (.inr ⟨rfl,hJ⟩)
 ·rcases ht with ⟨j,rfl,h1,h2⟩|⟨rfl,h⟩
  ·exact Aw.mk ⟨λ_=>⟨j,h1,h2⟩,λ_=>by show(0:Int)<=(j:Int);omega⟩
  ·exact Aw.mk ⟨λh'=>absurd (show(0:Int)<=-1 from h') (by omega),λ⟨j,h1,h2⟩=>absurd h2 (h j h1)⟩
theorem nq(d:ALC):Aw (PL d) λr=>r=true↔AL d:=by
 unfold PL;by_cases hl:d.length<=60
 ·rw[AI1 (by omega:¬(d.length:Int)>60),AJd];unfold Sn;refine Aw.bind (P:=λt=>(∃x,t=.inl x/\¬∀i,i<d.length->bQ d i)\/(t=.inr (YD d d.length)/\∀i,i<d.length->bQ d i)) (BL (λk (_:Unit)=>(YD d k,(k:Int))) d.length (λk _=>∀i,i<k->bQ d i) (λk _ hk hI=>?_) (λ_ hI=>?_) (s0:=()) (λi h=>by omega)) λt ht=>?_
  ·unfold Hv KO NU;simp only;rw[Dl hk,AJe,AJg (Bf hk),AIZ];show Aw (((Pb (Y9 d k).1).bind _).bind _) _;obtain⟨r,hr,hq⟩:=qY (Y9 d k).1;rw[hr,AIY];by_cases h1:pd (Y9 d k).1
   ·rw[hq.2 h1];simp only[AJH,AJd];by_cases h2:1<=dw d k/\dw d k<=4096
    ·rw[show AH (d.getD k Ad.zero).2.1 1 4096=true from(Mm _ _ _).trans (AI3 h2)];simp only[AJH,AJd];rw[AJg ⟨by omega,by omega,by omega⟩];obtain⟨r',hr',fU⟩:=qb (d:=d) (i:=k) (name:=(Y9 d k).1) (by omega) (by omega);rw[show Kx ((d.take k).drop 0) (d.getD k Ad.zero).1=some r' from hr',AIY,AIY];by_cases h3:0<=r'
     ·rw[AI3 (show r'>=0 from h3)];obtain⟨j,hj1,hj2⟩:=fU.1 h3;exact Aw.mk (.inl ⟨_,rfl,λh=>(h k hk).2.2 j hj1 hj2⟩)
     ·rw[AI1 (show ¬r'>=0 from h3),AJd,Bc hk (by omega)];have hb:=fp (by omega) hI;rw[show wI (YD d k+(d.getD k Ad.zero).2.1)=YD d (k+1) by
       rw[aI hk];have:(d.getD k Ad.zero).2.1=dw d k:=rfl;rw[this,BO (by omega) (by omega)]]
      refine Aw.mk ⟨(),rfl,λi hi=>?_⟩;rcases AI9 i k with h' |h'
      ·exact hI i h'
      ·rw[show i=k by omega];exact⟨h1,h2,λj hj e=>h3 (fU.2 ⟨j,hj,e⟩)⟩
    ·rw[show AH (d.getD k Ad.zero).2.1 1 4096=false from(Mm _ _ _).trans (AI1 h2)];exact Aw.mk (.inl ⟨_,rfl,λh=>h2 (h k hk).2.1⟩)
   ·rw[show r=false by cases r;rfl;exact absurd (hq.1 rfl) h1];exact Aw.mk (.inl ⟨_,rfl,λh=>h1 (h k hk).1⟩)
  ·unfold Hv KO;simp only;rw[D1,AJd];exact Aw.mk (.inr ⟨rfl,hI⟩)
  ·rcases ht with ⟨x,rfl,h⟩|⟨rfl,h⟩
   ·exact Aw.mk ⟨λh=>by(cases h),λh'=>absurd h'.2.1 h⟩
   ·refine Aw.mk ⟨λh'=>⟨hl,h,AKE h'⟩,λh'=>AI3 h'.2.2⟩
 ·rw[AI3 (by omega:(d.length:Int)>60),AJe];exact Aw.mk ⟨λh=>by(cases h),λh=>absurd h.1 hl⟩
def Bm(n:ALo):Int:=n.1
def He(n:ALo):Int:=n.2.1
def nA(n:ALo):Int:=n.2.2.1
def nB(n:ALo):Int:=n.2.2.2.1
def nW(n:ALo):Int:=n.2.2.2.2.1.1
def cu(n:ALo):ALx:=n.2.2.2.2.1.2.1
def AA(n:ALo):ALx:=n.2.2.2.2.2.1
def WL(n:ALo):Prop:=(AA n).length<=1048576/\(cu n).length<=1048576/\Dn (cu n)
def M1(n:ALo)(i:Nat):Prop:=∀k∈AA n,0<=k/\k<(i:Int)
def NoB(n:ALo):Prop:=nW n=0/\(cu n).length=0
def Zf(n:ALo):Prop:=4<=Bm n/\Bm n<=9
instance (n:ALo):Decidable (NoB n):=inferInstanceAs (Decidable (_/\_))
instance (n:ALo):Decidable (Zf n):=inferInstanceAs (Decidable (_/\_))
def VP(n:ALo):Prop:=(Bm n≠1->He n=0)/\(Bm n≠2->NoB n)/\(Bm n≠4->nB n=0)/\(¬Zf n->nA n=0)
def pw(n:ALo):Prop:=∃m:Nat,nW n=(m:Int)/\jC m (cu n)
def KI(d:ALC)(n:ALo):Prop :=
 (Bm n=1/\(AA n).length=0/\0<=He n/\He n<(d.length:Int))\/(Bm n=2/\(AA n).length=0/\pw n)\/(Bm n=3/\2<=(AA n).length)\/(4<=Bm n/\Bm n<=9/\(AA n).length=1)
def FJ(d:ALC)(n:ALo)(s:Int):Int :=
 if Bm n=1 then dw d (He n).toNat else if Bm n=2 then nW n else
 if Bm n=4 then(if 0<=nB n/\nB n<=nA n/\nA n<s then nA n-nB n+1 else -1)else
 if Bm n=5\/Bm n=6 then(if 0<=nA n/\nA n<=4096 then s+nA n else -1)else
 if Bm n=7\/Bm n=8 then(if 0<=nA n/\nA n<=4096 then s else -1)else
 if Bm n=9 then(if 1<=nA n/\nA n<=4096 then s*nA n else -1)else s
def Gk(Bo:ALx)(n:ALo):ALx:=(AA n).map λk=>Bo.getD k.toNat 0
def pe(d:ALC)(Bo:ALx)(n:ALo)(w:Int):Prop :=
 M1 n Bo.length/\VP n/\KI d n/\w=FJ d n (Gk Bo n).sum/\1<=w/\w<=4096
theorem lZ{A:Type}(l:AL7 A):((l.length:Int)==0)=decide (l.length=0):=by
 cases h:decide (l.length=0)with
 |true=>have:=AKE h;rw[this];rfl
 |false=>have:=of_decide_eq_false h;exact beq_eq_false_iff_ne.2 (by omega)
theorem S9{a b:Int}:(a !=b)=decide (a≠b):=by
 cases h:decide (a≠b)with
 |true=>exact bne_iff_ne.2 (AKE h)
 |false=>have:=of_decide_eq_false h;simp at this;rw[this];simp
theorem S8{a b:Int}:(a==b)=decide (a=b):=by
 cases h:decide (a=b)with
 |true=>rw[AKE h];simp
 |false=>exact beq_eq_false_iff_ne.2 (of_decide_eq_false h)
theorem kM(n:ALo):Cx n.2.2.2.2.1=decide (NoB n):=by
 have h1:(nW n==0)=decide (nW n=0):=S8;have h2:=lZ (cu n);show((nW n==0)&&(((cu n).length:Int)==0))=_;rw[h1,h2];exact(AJ3 _ _).symm
theorem rb(n:ALo):A2 n.1=decide (Zf n):=by
 unfold A2;exact Ru _ _ _
theorem rT{d:ALC}{n:ALo}{i:Nat}(hn:WL n)(hi:i<=1048576)(hd:d.length<=1048576):Aw (Pn d n (i:Int)) λr=>r=true↔M1 n i/\VP n/\KI d n:=by
 unfold Pn;refine Aw.bind (P:=λt=>(t=.inl ()/\¬M1 n i)\/(t=.inr ()/\M1 n i)) ?_ λt ht=>?_
 ·unfold T9;refine BL (λj (_:Unit)=>(j:Int)) (AA n).length (λj _=>∀k,k<j->0<=(AA n).getD k 0/\(AA n).getD k 0<(i:Int)) (λj _ hj hJ=>?_) (λ_ hJ=>?_) (s0:=()) (λi h=>by omega)
  ·unfold Jf MD;have hlen:=hn.1;show Aw (bif decide ((j:Int)<((AA n).length:Int))then(if 0<=(j:Int)/\(j:Int)<((AA n).length:Int)then(bif !Bw ((AA n).getD (j:Int).toNat 0) 0 (wI ((i:Int)-1))then _ else _)else none)else _) _;rw[Dl hj,AJe,AJg (Bf hj),AIZ,BO (x:=(i:Int)-1) (by omega) (by omega),Ru];by_cases h:0<=(AA n).getD j 0/\(AA n).getD j 0<(i:Int)
   ·rw[AI3 (by omega)];simp only[AJH,AJd];rw[Bc hj (by omega)];refine Aw.mk ⟨(),rfl,λk hk=>?_⟩;rcases AI9 k j with h' |h'
    ·exact hJ k h'
    ·rw[show k=j by omega];exact h
   ·rw[AI1 (by omega)];exact Aw.mk (.inl ⟨rfl,λhk=>h (hk _ (AE hj))⟩)
  ·unfold Jf MD;show Aw (bif decide (((AA n).length:Int)<((AA n).length:Int))then _ else _) _;rw[D1,AJd];refine Aw.mk (.inr ⟨rfl,λk hk=>?_⟩);obtain⟨m,hm,rfl⟩:=AKg hk;have:=hJ m hm;rwa [show(AA n).getD m 0=(AA n)[m] by simp[List.getD,hm]]at this
 ·rcases ht with ⟨rfl,h⟩|⟨rfl,h⟩
  ·exact Aw.mk ⟨λh=>by(cases h),λh'=>absurd h'.1 h⟩
  ·refine Aw.bind (P:=λt=>(t=.inl ()/\¬VP n)\/(t=.inr ()/\VP n)) ?_ λt ht=>?_
   ·unfold Qd QF;have hb:=kM n;have h1:=rb n;have e1:∀x:Int,(n.1 !=x)=decide (Bm n≠x):=λx=>S9;have e2:(n.2.1 !=(0:Int))=decide (He n≠0):=S9;have e3:(n.2.2.2.1 !=(0:Int))=decide (nB n≠0):=S9;have e4:(n.2.2.1 !=(0:Int))=decide (nA n≠0):=S9;rw[hb,h1,e1,e1,e1,e2,e3,e4];unfold VP;by_cases a1:Bm n=1<;>by_cases a2:Bm n=2<;>by_cases a3:Bm n=4<;>by_cases a4:Zf n<;>by_cases a5:He n=0<;>by_cases a6:NoB n<;>by_cases a7:nB n=0<;>by_cases a8:nA n=0 <;>
     first |(exfalso;omega)|(simp[a1,a2,a3,a4,a5,a6,a7,a8,R3];done)
   ·rcases ht with ⟨rfl,h2⟩|⟨rfl,h2⟩
    ·exact Aw.mk ⟨λh=>by(cases h),λh'=>absurd h'.2.1 h2⟩
    ·have hk:=hn.1;have e1:∀x:Int,(n.1==x)=decide (Bm n=x):=λx=>S8;have e2:((n.2.2.2.2.2.1.length:Int)==0)=decide ((AA n).length=0):=lZ (AA n);have e3:((n.2.2.2.2.2.1.length:Int)==1)=decide ((AA n).length=1):=by
      show(((AA n).length:Int)==1)=_;rw[S8,AKK];omega
     have e4:decide ((n.2.2.2.2.2.1.length:Int)>=2)=decide (2<=(AA n).length):=by
      show decide (((AA n).length:Int)>=2)=_;rw[AKK];omega
     have e5:Bw n.2.1 0 (wI ((d.length:Int)-1))=decide (0<=He n/\He n<(d.length:Int)):=by
      rw[Ru,BO (x:=(d.length:Int)-1) (by omega) (by omega),AKK];show 0<=He n/\He n<=(d.length:Int)-1↔_;omega
     obtain⟨r,hr,hq⟩:=jr (w:=nW n) hn.2.2 hn.2.1;have e6:Pk n.2.2.2.2.1=some r:=hr;have hv:pw n↔r=true:=hq.symm;have h1:=rb n;simp only[AJO];rw[e1,e1,e1,e2,e3,e4,e5,e6,h1];unfold KI;rw[show(4<=Bm n/\Bm n<=9/\(AA n).length=1)=(Zf n/\(AA n).length=1)from propext and_assoc.symm,hv];have W6:Zf n↔4<=Bm n/\Bm n<=9:=Iff.rfl;by_cases a1:Bm n=1
     ·have a4:¬Zf n:=by rw[W6];omega
      by_cases a5:(AA n).length=0
      ·simp[a1,a4,a5,h,h2,R3]
      ·simp[a1,a4,a5,h,h2,R3]
     ·by_cases a2:Bm n=2
      ·have a4:¬Zf n:=by rw[W6];omega
       by_cases a5:(AA n).length=0
       ·simp[a2,a4,a5,h,h2,R3]
       ·simp[a2,a4,a5,h,h2,R3]
      ·by_cases a3:Bm n=3
       ·have a4:¬Zf n:=by rw[W6];omega
        simp[a3,a4,h,h2,R3]
       ·by_cases a4:Zf n
        ·simp[a1,a2,a3,a4,h,h2,R3]
        ·simp[a1,a2,a3,a4,h,h2,R3]
def QI(Bo:ALx)(n:ALo):Int:=(Gk Bo n).sum
def ei(Bo:ALx):Prop:=Bo.length<=1048576/\∀w∈Bo,1<=w/\w<=4096
theorem iu{Bo:ALx}(h:ei Bo){k:Int}(hk:0<=k/\k<(Bo.length:Int)):1<=Bo.getD k.toNat 0/\Bo.getD k.toNat 0<=4096:=h.2 _ (AE (by omega))
theorem aW{Bo:ALx}{n:ALo}{k:Nat}(hk:k<(AA n).length):((Gk Bo n).take (k+1)).sum=((Gk Bo n).take k).sum+Bo.getD ((AA n).getD k 0).toNat 0:=by
 have hl:k<(Gk Bo n).length:=by unfold Gk;rw[AJa];exact hk
 rw[AW hl (z:=0),AKx];unfold Gk;rw[IQ (λk=>Bo.getD k.toNat 0) hk (y:=0)];simp
theorem YS{Bo:ALx}{n:ALo}(hw:ei Bo)(FA:M1 n Bo.length):∀k,k<=(AA n).length->(k:Int)<=((Gk Bo n).take k).sum/\((Gk Bo n).take k).sum<=4096*k:=by
 intro k;induction k with
 |zero=>simp
 |succ k ih =>
  intro hk;rw[aW (by omega)];have:=ih (by omega);have:=iu hw (FA _ (AE (z:=0) (show k<(AA n).length by omega)));omega
theorem kx(Bo:ALx)(n:ALo):(Gk Bo n).take (AA n).length=Gk Bo n:=AI8 (by unfold Gk;rw[AJa];exact AI4 _)
theorem Wh{Bo:ALx}{n:ALo}(hw:ei Bo)(FA:M1 n Bo.length):((AA n).length:Int)<=QI Bo n/\QI Bo n<=4096*(AA n).length:=by
 have:=YS hw FA _ (AI4 _);rw[kx]at this;exact this
theorem rZ{d:ALC}{Bo:ALx}{n:ALo}(hn:WL n)(hw:ei Bo)(FA:M1 n Bo.length)(hf:KI d n):Aw (Po d n Bo) λr=>r=FJ d n (min 8192 (QI Bo n)):=by
 unfold Po;have hlen:=hn.1;refine Aw.bind (P:=λt=>t=min 8192 (QI Bo n)) ?_ λt ht=>?_
 ·unfold Ub;have h0:min 8192 (((Gk Bo n).take 0).sum)=0:=rfl;have:=BL (f:=Gn d Bo n) (λk (_:Unit)=>(min 8192 (((Gk Bo n).take k).sum),(k:Int))) (AA n).length (λ_ _=>True) (Q:=λt=>t=min 8192 (QI Bo n)) (λk _ hk _=>?_) (λ_ _=>?_) (s0:=()) trivial
  ·rw[h0]at this;exact this
  ·unfold Gn ME;have AcT:=FA _ (AE (z:=0) hk);have hb:=YS hw FA k (by omega);have hwk:=iu hw AcT;show Aw (bif decide ((k:Int)<((AA n).length:Int))then(if 0<=(k:Int)/\(k:Int)<((AA n).length:Int)then(if 0<=(AA n).getD (k:Int).toNat 0/\(AA n).getD (k:Int).toNat 0<(Bo.length:Int)then some (Sum.inl (if wI (min 8192 (((Gk Bo n).take k).sum)+Bo.getD ((AA n).getD (k:Int).toNat 0).toNat 0)<8192 then wI (min 8192 (((Gk Bo n).take k).sum)+Bo.getD ((AA n).getD (k:Int).toNat 0).toNat 0)else 8192,wI ((k:Int)+1)))else none)else none)else _) _;rw[Dl hk,AJe,AJg (Bf hk),AIZ,AJg AcT,Bc hk (by omega)];refine Aw.mk ⟨(),?_,trivial⟩;rw[BO (by omega) (by omega),aW hk];refine congrArg (·,((k+1:Nat):Int)) ?_;split<;>omega
  ·unfold Gn ME;show Aw (bif decide (((AA n).length:Int)<((AA n).length:Int))then _ else _) _;rw[D1,AJd];refine Aw.mk ?_;show min 8192 (((Gk Bo n).take (AA n).length).sum)=_;rw[kx];rfl
 ·subst ht;generalize hS:min 8192 (QI Bo n)=S;have hSb:0<=S/\S<=8192:=by have:=Wh hw FA;omega
  have e1:∀x:Int,(n.1==x)=decide (Bm n=x):=λx=>S8;have e2:Bw n.2.2.1 0 4096=decide (0<=nA n/\nA n<=4096):=Ru _ _ _;have e3:Bw n.2.2.1 1 4096=decide (1<=nA n/\nA n<=4096):=Ru _ _ _;have e4:(decide (n.2.2.2.1<0)||(decide (n.2.2.1<n.2.2.2.1)||decide (n.2.2.1>=S)))=decide (¬(0<=nB n/\nB n<=nA n/\nA n<S)):=by
   show(decide (nB n<0)||(decide (nA n<nB n)||decide (nA n>=S)))=_;rw[<-Bool.decide_or,<-Bool.decide_or,AKK];omega
  unfold Qe FJ QF;rw[e1,e1,e1,e1,e1,e1,e1,e1,e2,e3,e4];by_cases a1:Bm n=1
  ·have hv:0<=He n/\He n<(d.length:Int):=by
     rcases hf with h |h |h |h
     ·exact h.2.2
     ·omega
     ·omega
     ·omega
   rw[AJg a1,AI3 a1,AJe,AJg (show 0<=n.2.1/\n.2.1<(d.length:Int)from hv)];exact Aw.mk rfl
  ·rw[AJh a1,AI1 a1,AJd];by_cases a2:Bm n=2
   ·rw[AJg a2,AI3 a2,AJe];exact Aw.mk rfl
   ·rw[AJh a2,AI1 a2,AJd];by_cases a4:Bm n=4
    ·rw[AJg a4,AI3 a4,AJe];by_cases h:0<=nB n/\nB n<=nA n/\nA n<S
     ·rw[AJg h,AI1 (λhh=>hh h),AJd];refine Aw.mk ?_;show wI (wI (nA n-nB n)+1)=_;rw[BO (x:=nA n-nB n) (by omega) (by omega),BO (by omega) (by omega)]
     ·rw[AJh h,AI3 h,AJe];exact Aw.mk rfl
    ·rw[AJh a4,AI1 a4,AJd];by_cases a5:Bm n=5\/Bm n=6
     ·rw[AJg a5];have hc:(bif decide (Bm n=5)then decide (Bm n=5)else decide (Bm n=6))=true:=by
       rcases a5 with h |h
       ·simp[h]
       ·simp[h]
      rw[hc,AJe];by_cases h:0<=nA n/\nA n<=4096
      ·rw[AJg h,AI3 h];refine Aw.mk ?_;show wI (S+nA n)=_;rw[BO (by omega) (by omega)]
      ·rw[AJh h,AI1 h];exact Aw.mk rfl
     ·rw[AJh a5];have hc:(bif decide (Bm n=5)then decide (Bm n=5)else decide (Bm n=6))=false:=by
       simp only[not_or]at a5;simp[a5]
      rw[hc,AJd];by_cases a7:Bm n=7\/Bm n=8
      ·rw[AJg a7];have hc:(bif decide (Bm n=7)then decide (Bm n=7)else decide (Bm n=8))=true:=by
        rcases a7 with h |h
        ·simp[h]
        ·simp[h]
       rw[hc,AJe];by_cases h:0<=nA n/\nA n<=4096
       ·rw[AJg h,AI3 h];exact Aw.mk rfl
       ·rw[AJh h,AI1 h];exact Aw.mk rfl
      ·rw[AJh a7];have hc:(bif decide (Bm n=7)then decide (Bm n=7)else decide (Bm n=8))=false:=by
        simp only[not_or]at a7;simp[a7]
       rw[hc,AJd];by_cases a9:Bm n=9
       ·rw[AJg a9,AI3 a9,AJe];by_cases h:1<=nA n/\nA n<=4096
        ·rw[AJg h,AI3 h];refine Aw.mk ?_;show wI (S*nA n)=_;have h1:0<=S*nA n:=Int.mul_nonneg hSb.1 (by omega);have h2:S*nA n<=8192*4096:=Int.mul_le_mul hSb.2 h.2 (by omega) (by omega);rw[BO (by omega) (by omega)]
        ·rw[AJh h,AI1 h];exact Aw.mk rfl
       ·rw[AJh a9,AI1 a9,AJd];exact Aw.mk rfl
theorem Ae5{d:ALC}{Bo:ALx}{n:ALo}(hw:ei Bo)(FA:M1 n Bo.length)(hf:KI d n):FJ d n (min 8192 (QI Bo n))=FJ d n (QI Bo n)\/(4096<FJ d n (min 8192 (QI Bo n))/\4096<FJ d n (QI Bo n)):=by
 have hb:=Wh hw FA;rcases hf with h |h |h |h
 ·left;simp[FJ,h.1]
 ·left;simp[FJ,h.1]
 ·by_cases hs:QI Bo n<=8192
  ·left;rw[show min 8192 (QI Bo n)=QI Bo n by omega]
  ·right;have e:∀S,FJ d n S=S:=λS=>by simp[FJ,h.1]
   rw[e,e];omega
 ·left;rw[show min 8192 (QI Bo n)=QI Bo n by omega]
instance (n:ALo):Decidable (VP n):=inferInstanceAs (Decidable (_/\_/\_/\_))
theorem Ad9(n:ALo):D5 n=decide (VP n):=by
 have hb:((n.2.2.2.2.1.1==(0:Int))&&((n.2.2.2.2.1.2.1.length:Int)==0))=decide (NoB n):=kM n;have h1:(decide (n.1>=4)&&decide (n.1<=9))=decide (Zf n):=(AJ3 _ _).symm;have e1:∀x:Int,(n.1 !=x)=decide (Bm n≠x):=λx=>S9;have e0:(n.1==(2:Int))=decide (Bm n=2):=S8;have e2:(n.2.1 !=(0:Int))=decide (He n≠0):=S9;have e3:(n.2.2.2.1 !=(0:Int))=decide (nB n≠0):=S9;have e4:(n.2.2.1 !=(0:Int))=decide (nA n≠0):=S9;have hp:decide (VP n)=decide ((Bm n≠1->He n=0)/\(Bm n≠2->NoB n)/\(Bm n≠4->nB n=0)/\(¬Zf n->nA n=0)):=rfl;rw[hp];unfold D5;rw[hb,h1,e1,e1,e0,e2,e3,e4];by_cases a1:Bm n=1<;>by_cases a2:Bm n=2<;>by_cases a3:Bm n=4<;>by_cases a4:Zf n<;>by_cases a5:He n=0<;>by_cases a6:NoB n<;>by_cases a7:nB n=0<;>by_cases a8:nA n=0 <;>
  first |(exfalso;omega)|(simp[a1,a2,a3,a4,a5,a6,a7,a8];done)
theorem q0{d:ALC}{Bo:ALx}{n:ALo}(hn:WL n)(hw:ei Bo)(hd:d.length<=1048576)(FA:M1 n Bo.length):Aw (Gf n d (Gk Bo n)) λr=>(KI d n->r=FJ d n (QI Bo n))/\(¬KI d n->r=-1):=by
 have hlen:=hn.1;have iT:(Gk Bo n).length=(AA n).length:=by unfold Gk;rw[AJa]
 have hS:=Wh hw FA;have e1:∀x:Int,(n.1==x)=decide (Bm n=x):=λx=>S8;have e2:((((Gk Bo n).length:Nat):Int)==0)=decide ((AA n).length=0):=by rw[lZ,iT]
 have e3:((((Gk Bo n).length:Nat):Int) !=1)=decide ((AA n).length≠1):=by rw[S9,AKK];omega
 have e4:decide ((((Gk Bo n).length:Nat):Int)>1)=decide (2<=(AA n).length):=by rw[AKK];omega
 have e5:AH n.2.1 0 (wI ((d.length:Int)-1))=decide (0<=He n/\He n<(d.length:Int)):=by
  rw[Mm,BO (x:=(d.length:Int)-1) (by omega) (by omega),AKK];show 0<=He n/\He n<=(d.length:Int)-1↔_;omega
 have e6:AH n.2.2.1 0 4096=decide (0<=nA n/\nA n<=4096):=Mm _ _ _;have e7:AH n.2.2.1 1 4096=decide (1<=nA n/\nA n<=4096):=Mm _ _ _;have W6:Zf n↔4<=Bm n/\Bm n<=9:=Iff.rfl;obtain⟨f,hf⟩:∃f,f=(bif decide ((((Gk Bo n).length:Nat):Int)>0)then(Gk Bo n).getD 0 0 else 0):=⟨_,rfl⟩;have hf1:(AA n).length=1->f=QI Bo n:=λh=>by
  rw[hf,AI3 (by omega),AJe];unfold QI;obtain⟨x,hx⟩:=List.length_eq_one_iff.1 (show(Gk Bo n).length=1 by omega);rw[hx];simp
 unfold Gf QF;rw[show FB n d (Gk Bo n)=some f by
  unfold FB;rw[hf];by_cases h:(AA n).length=0
  ·rw[AI1 (by omega)];rfl
  ·rw[AI3 (by omega),AJe,AJe,AJg ⟨by omega,by omega⟩];rfl,AIY,e5,e6,e7]
 rw[e1,e1,e1,e1,e1,e1,e1,e1,e2,e3,e4];have hF:KI d n↔(Bm n=1/\(AA n).length=0/\0<=He n/\He n<(d.length:Int))\/(Bm n=2/\(AA n).length=0/\pw n)\/(Bm n=3/\2<=(AA n).length)\/(4<=Bm n/\Bm n<=9/\(AA n).length=1):=Iff.rfl;have AAg:¬KI d n->Aw (some (-1:Int)) λr=>(KI d n->r=FJ d n (QI Bo n))/\(¬KI d n->r=-1):=λh=>Aw.mk ⟨λh'=>absurd h' h,λ_=>rfl⟩;have pos:∀v:Int,KI d n->v=FJ d n (QI Bo n)->Aw (some v) λr=>(KI d n->r=FJ d n (QI Bo n))/\(¬KI d n->r=-1):=λv h e=>Aw.mk ⟨λ_=>e,λh'=>absurd h h'⟩;by_cases c1:Bm n=1/\(AA n).length=0/\(0<=He n/\He n<(d.length:Int))
 ·rw[<-AJ3,<-AJ3,AI3 c1,AJe,AJg (show 0<=n.2.1/\n.2.1<(d.length:Int)from c1.2.2)];exact pos _ (hF.2 (.inl c1)) (by unfold FJ;rw[AJg c1.1];rfl)
 ·rw[<-AJ3,<-AJ3,AI1 c1,AJd];obtain⟨b,dC,mV⟩:∃b,FC n (Gk Bo n) f=some b/\(b=true↔Bm n=2/\(AA n).length=0/\pw n):=by
   unfold FC;rw[e1,e2];obtain⟨r,hr,hq⟩:=iY (w:=nW n) hn.2.2 hn.2.1;have e6:O7 n.2.2.2.2.1=some r:=hr;rw[e6];have hq:r=true↔pw n:=hq;by_cases a2:Bm n=2
   ·by_cases a3:(AA n).length=0
    ·rw[AI3 a2,AI3 a3];exact⟨r,rfl,by rw[hq];exact⟨λh=>⟨a2,a3,h⟩,λh=>h.2.2⟩⟩
    ·rw[AI3 a2,AI1 a3];exact⟨false,rfl,λh=>by(cases h),λh=>absurd h.2.1 a3⟩
   ·rw[AI1 a2];exact⟨false,rfl,λh=>by(cases h),λh=>absurd h.1 a2⟩
  rw[dC,AIY];cases b with
  |true =>
   have c2:=mV.1 rfl;exact pos _ (hF.2 (.inr (.inl c2))) (by unfold FJ;rw[AJh (by omega),AJg c2.1];rfl)
  |false =>
   have c2:¬(Bm n=2/\(AA n).length=0/\pw n):=λh=>by have:=mV.2 h;cases this
   rw[AJd,<-AJ3];by_cases c3:Bm n=3/\2<=(AA n).length
   ·rw[AI3 c3,AJe];unfold M9;have:=AU (f:=Ci (Gk Bo n) (((Gk Bo n).length:Nat):Int)) (λk=>((((Gk Bo n).take k).sum:Int),(k:Int))) (t:=QI Bo n) (Gk Bo n).length (λk hk=>by
     unfold Ci GZ;rw[iT]at hk;have hb:=YS hw FA k (by omega);have hwk:=iu hw (FA _ (AE (z:=0) hk));have hg:(Gk Bo n).getD k 0=Bo.getD ((AA n).getD k 0).toNat 0:=by unfold Gk;exact IQ (λk=>Bo.getD k.toNat 0) hk
     simp only;rw[iT,Dl hk,AJe,AJg (Bf hk),AIZ,Bc hk (by omega),aW hk];show some (Sum.inl (wI (((Gk Bo n).take k).sum+(Gk Bo n).getD k 0),_))=_;rw[hg,BO (by omega) (by omega)]) (by
     unfold Ci GZ;simp only;rw[D1,AJd,AI8 (AI4 _)];rfl)
    rw[show fix (Ci (Gk Bo n) (((Gk Bo n).length:Nat):Int)) (0,0)=some (QI Bo n)from this];exact pos _ (hF.2 (.inr (.inr (.inl c3)))) (by unfold FJ;simp[c3.1])
   ·rw[AI1 c3,AJd];by_cases c4:(AA n).length=1
    ·rw[AI1 (λh=>h c4),AJd];have hfS:=hf1 c4;have hSb:0<=f/\f<=4096:=by omega
     have BH:4<=Bm n/\Bm n<=9->KI d n:=λh=>hF.2 (.inr (.inr (.inr ⟨h.1,h.2,c4⟩)));have e4':(decide (n.2.2.2.1>=0)&&(decide (n.2.2.2.1<=n.2.2.1)&&decide (n.2.2.1<f)))=decide (0<=nB n/\nB n<=nA n/\nA n<f):=by
      show(decide (nB n>=0)&&(decide (nB n<=nA n)&&decide (nA n<f)))=_;rw[<-AJ3,<-AJ3]
     rw[e4',<-AJ3,<-AJ3,<-AJ3,<-AJ3];have ecx:(n.2.2.1:Int)=nA n:=rfl;have ecb:(n.2.2.2.1:Int)=nB n:=rfl;have hw0:∀v,v=FJ d n f->v=FJ d n (QI Bo n):=λv h=>by rw[<-hfS];exact h
     by_cases a4:Bm n=4
     ·by_cases h:0<=nB n/\nB n<=nA n/\nA n<f
      ·rw[AI3 ⟨a4,h⟩,AJe];refine pos _ (BH (by omega)) (hw0 _ ?_);show wI (wI (nA n-nB n)+1)=_;rw[BO (x:=nA n-nB n) (by omega) (by omega),BO (by omega) (by omega)];unfold FJ;simp[a4,h]
      ·have:∀v:Int,v=-1->v=FJ d n f:=λv hv=>by unfold FJ;simp[a4,h,hv]
       simp[a4,h];exact pos _ (BH (by omega)) (hw0 _ (this _ rfl))
     ·by_cases a5:Bm n=5\/Bm n=6
      ·by_cases h:0<=nA n/\nA n<=4096
       ·have:(bif decide (Bm n=5)then decide (0<=nA n/\nA n<=4096)else decide (Bm n=6/\0<=nA n/\nA n<=4096))=true:=by
          rcases a5 with h' |h'<;>simp[h',h]
        rw[AI1 (by omega),AJd,this,AJe];refine pos _ (BH (by omega)) (hw0 _ ?_);show wI (f+nA n)=_;rw[BO (by omega) (by omega)];unfold FJ;rcases a5 with h' |h'<;>simp[h',h]
       ·have:∀v:Int,v=-1->v=FJ d n f:=λv hv=>by unfold FJ;rcases a5 with h' |h'<;>simp[h',h,hv]
        have h2:=pos _ (BH (by omega)) (hw0 _ (this _ rfl));rcases a5 with h' |h'<;>simp[h',h]<;>exact h2
      ·by_cases a7:Bm n=7\/Bm n=8
       ·by_cases h:0<=nA n/\nA n<=4096
        ·have h2:=pos f (BH (by omega)) (hw0 _ (by unfold FJ;rcases a7 with h' |h'<;>simp[h',h]));rcases a7 with h' |h'<;>simp[h',h]<;>exact h2
        ·have:∀v:Int,v=-1->v=FJ d n f:=λv hv=>by unfold FJ;rcases a7 with h' |h'<;>simp[h',h,hv]
         have h2:=pos _ (BH (by omega)) (hw0 _ (this _ rfl));rcases a7 with h' |h'<;>simp[h',h]<;>exact h2
       ·by_cases a9:Bm n=9
        ·by_cases h:1<=nA n/\nA n<=4096
         ·have h1:0<=f*nA n:=Int.mul_nonneg hSb.1 (by omega);have h2:f*nA n<=4096*4096:=Int.mul_le_mul hSb.2 h.2 (by omega) (by omega);have h3:=pos (wI (f*nA n)) (BH (by omega)) (hw0 _ (by rw[BO (by omega) (by omega)];unfold FJ;simp[a9,h]));simp[a9,h];exact h3
         ·have:∀v:Int,v=-1->v=FJ d n f:=λv hv=>by unfold FJ;simp[a9,h,hv]
          have h2:=pos _ (BH (by omega)) (hw0 _ (this _ rfl));simp[a9,h];exact h2
        ·simp only[not_or]at a5 a7;have h2:=AAg (by rw[hF];omega);simp[a4,a5,a7,a9];exact h2
    ·rw[AI3 c4,AJe];exact AAg (by rw[hF];intro h;rcases h with h |h |h |h;exact c1 h;exact c2 h;exact c3 h;exact c4 h.2.2)
def nd(t:ALE)(i:Nat):ALo:=t.getD i Af.zero
def iy(d:ALC)(t:ALE)(ws:ALx):Prop:=ws.length<=t.length/\∀j,j<ws.length->pe d (ws.take j) (nd t j) (ws.getD j 0)
def ay(t:ALE)(k i:Nat):Prop:=∃j,j<i/\(k:Int)∈AA (nd t j)
def Nn(d:ALC)(t:ALE)(ws:ALx):Prop:=1<=t.length/\t.length<=400/\ws.length=t.length/\iy d t ws/\∀k,k+1<t.length->ay t k t.length
def SS(t:ALE):Prop:=t.length<=1048576/\∀n∈t,WL n
theorem iy.take{d:ALC}{t:ALE}{ws:ALx}(h:iy d t ws)(i:Nat):iy d t (ws.take i):=by
 have hl:=h.1;refine⟨by rw[AJj];omega,λj hj=>?_⟩;rw[AJj]at hj;have:=h.2 j (by omega);rwa [List.take_take,AKF (by omega),show(ws.take i).getD j 0=ws.getD j 0 by simp[List.getD,show j<i by omega]]
theorem iy.unique{d:ALC}{t:ALE}{a b:ALx}(ha:iy d t a)(hb:iy d t b)(hl:a.length=b.length):a=b:=by
 have:∀k,k<=a.length->a.take k=b.take k:=by
  intro k;induction k with
  |zero=>simp
  |succ k ih =>
   intro hk;have e:=ih (by omega);have h1:=ha.2 k (by omega);have h2:=hb.2 k (by omega);rw[AW (show k<a.length by omega) (z:=0),AW (show k<b.length by omega) (z:=0),e];rw[e]at h1;rw[h1.2.2.2.1,h2.2.2.2.1]
 have:=this a.length (AI4 _);rwa [AI8 (AI4 _),AI8 (by omega)]at this
theorem iy.Bo{d:ALC}{t:ALE}{ws:ALx}(h:iy d t ws)(hl:t.length<=1048576):ei ws:=by
 refine⟨AJs h.1 hl,λw hw=>?_⟩;obtain⟨j,hj,rfl⟩:=AKg hw;have:=(h.2 j hj).2.2.2.2;rwa [show ws.getD j 0=ws[j] by simp[List.getD,hj]]at this
theorem iy.snoc{d:ALC}{t:ALE}{ws:ALx}{w:Int}(h:iy d t ws)(hl:ws.length<t.length)(hn:pe d ws (nd t ws.length) w):iy d t (ws++[w]):=by
 refine⟨by rw[AI2];exact hl,λj hj=>?_⟩;rw[AI2]at hj;simp only[AJL,List.length_nil]at hj;rcases AI9 j ws.length with h' |h'
 ·rw[AJ4 (by omega),show(ws++[w]).getD j 0=ws.getD j 0 by simp[List.getD,AJo,h']];exact h.2 j h'
 ·have:j=ws.length:=by omega
  subst this;rw[aN,AJ4 (AI4 _),AI8 (AI4 _)];exact hn
theorem Nn.node{d:ALC}{t:ALE}{ws iE:ALx}(h:Nn d t iE)(hp:iy d t ws)(hl:ws.length<t.length):∃w,pe d ws (nd t ws.length) w:=by
 have e:ws=iE.take ws.length:=hp.unique (h.2.2.2.1.take _) (by rw[AJj,h.2.2.1];omega);have:=h.2.2.2.1.2 ws.length (by rw[h.2.2.1];exact hl);rw[<-e]at this;exact⟨_,this⟩
theorem yC(Bo:ALx)(n:ALo):B8 (λm=>Bo.getD ((AA n).getD m 0).toNat 0) 0 (AA n).length (AA n).length=Gk Bo n:=by
 refine AKs (by simp[B8,Gk]) λi h1 h2=>?_;have:i<(AA n).length:=by simpa [B8]using h1
 simp[B8,Gk,List.getD,this]
theorem V5{l:ALx}{x:Int}:x∈l↔∃m,m<l.length/\l.getD m 0=x:=by
 constructor
 ·intro h;obtain⟨m,hm,rfl⟩:=AKg h;exact⟨m,hm,by simp[List.getD,hm]⟩
 ·rintro⟨m,hm,rfl⟩
  exact AE hm
theorem Yb{l:ALy}{k j:Nat}(hk:k<l.length):(l.set k true).getD j false=if j=k then true else l.getD j false:=by
 by_cases h:j=k
 ·subst h;simp[List.getD,hk]
 ·simp[List.getD,h,show ¬k=j from λe=>h e.symm]
theorem qX{D:ALC}{C E:Int}{t:ALv}{q:ALo}{ws out:ALx}{Uf:ALy}{n:ALo}{N:Nat}(hn:WL n)(hl:ws.length<N)(hN:N<=1048576)(ho:out=ws++List.replicate (N-ws.length) 0)(hu:Uf.length=N) :
    Aw (LC D C (ws.length:Int) E t out q (AA n) ((AA n).length:Int) 0 Uf (List.replicate (AA n).length 0)) λr=>(∃x,r=.inl x/\¬M1 n ws.length)\/(∃u,r=.inr (Gk ws n,u)/\M1 n ws.length/\u.length=N/\∀k:Nat,k<N->(u.getD k false=true↔Uf.getD k false=true\/(k:Int)∈AA n)):=by
 unfold LC;have hlen:=hn.1;have hol:out.length=N:=by rw[ho,AI2,AJv];omega
 have Ul:∀k:Nat,k<ws.length->out.getD k 0=ws.getD k 0:=λk hk=>by rw[ho];simp[List.getD,AJo,hk]
 have:=BL (f:=Gi D C (ws.length:Int) E t out q (AA n) ((AA n).length:Int)) (λj (u:ALy)=>((j:Int),u,B8 (λm=>ws.getD ((AA n).getD m 0).toNat 0) 0 (AA n).length j)) (AA n).length
  (λj u=>(∀m,m<j->0<=(AA n).getD m 0/\(AA n).getD m 0<(ws.length:Int))/\u.length=N/\∀k:Nat,k<N->(u.getD k false=true↔Uf.getD k false=true\/∃m,m<j/\(AA n).getD m 0=(k:Int)))
  (Q:=λr=>(∃x,r=.inl x/\¬M1 n ws.length)\/(∃u,r=.inr (Gk ws n,u)/\M1 n ws.length/\u.length=N/\∀k:Nat,k<N->(u.getD k false=true↔Uf.getD k false=true\/(k:Int)∈AA n))) (λj u hj hI=>?_) (λu hI=>?_) (s0:=Uf) ⟨λm hm=>by omega,hu,λk _=>⟨λh=>.inl h,λh=>by rcases h with h |⟨m,hm,_⟩;exact h;omega⟩⟩
 ·rw[Lv]at this;exact this
 ·unfold Gi Mk;simp only;rw[Dl hj,AJe,AJg (Bf hj),AIZ,Mm,BO (x:=(ws.length:Int)-1) (by omega) (by omega)];show Aw (bif !decide (0<=(AA n).getD j 0/\(AA n).getD j 0<=(ws.length:Int)-1)then _ else _) _;by_cases h:0<=(AA n).getD j 0/\(AA n).getD j 0<=(ws.length:Int)-1
  ·rw[AI3 h];simp only[AJH,AJd];obtain⟨k,hk⟩:∃k:Nat,(AA n).getD j 0=(k:Int):=⟨((AA n).getD j 0).toNat,by omega⟩;have iT:k<ws.length:=by omega
   rw[show(AA n).getD j ALP.zero=(k:Int)from hk,AIZ,AJg ⟨by omega,by rw[hol];omega⟩,AJg ⟨by omega,by rw[hI.2.1];omega⟩,Ge,AJg (Bf hj),Bc hj (by omega)];refine Aw.mk ⟨u.set k true,?_,λm hm=>?_,by rw[AI7];exact hI.2.1,λi hi=>?_⟩
   ·rw[<-O4];have hg:out.getD k ALP.zero=ws.getD ((AA n).getD j 0).toNat 0:=by
     rw[hk,AIZ];exact Ul k iT
    rw[hg]
   ·rcases AI9 m j with h' |h'
    ·exact hI.1 m h'
    ·rw[show m=j by omega];omega
   ·rw[Yb (by rw[hI.2.1];omega)];by_cases hik:i=k
    ·subst hik;simp only[AJK,true_iff];exact .inr ⟨j,by omega,hk⟩
    ·rw[AJh hik,hI.2.2 i hi];constructor
     ·rintro(h |⟨m,h1,h2⟩)
      ·exact .inl h
      ·exact .inr ⟨m,by omega,h2⟩
     ·rintro(h |⟨m,h1,h2⟩)
      ·exact .inl h
      ·rcases AI9 m j with h' |h'
       ·exact .inr ⟨m,h',h2⟩
       ·have:m=j:=by omega
        subst this;rw[hk]at h2;omega
  ·rw[AI1 h];exact Aw.mk (.inl ⟨_,rfl,λhk=>h (by have:=hk _ (AE (z:=0) hj);omega)⟩)
 ·unfold Gi Mk;simp only;rw[D1,AJd];refine Aw.mk (.inr ⟨u,by rw[yC],λk hk=>?_,hI.2.1,λk hk=>?_⟩)
  ·obtain⟨m,hm,rfl⟩:=V5.1 hk;exact hI.1 m hm
  ·rw[hI.2.2 k hk,V5]
theorem pY{u:ALy}(hl:u.length<=1048576):Aw (EK u false) λr=>r=true↔∃k,k<u.length/\u.getD k false=false:=by
 unfold EK K2 LQ;refine Aw.bind (P:=λr=>0<=r↔∃k,k<u.length/\u.getD k false=false) (Aw.bind (P:=λt=>(∃j:Nat,t=.inl (j:Int)/\j<u.length/\u.getD j false=false)\/(t=.inr ()/\∀j,j<u.length->u.getD j false=true)) ?_ λt ht=>?_) λr hr=>Aw.mk (by rw[AKq];exact hr)
 ·refine BL (λj (_:Unit)=>(j:Int)) u.length (λj _=>∀k,k<j->u.getD k false=true) (λj _ hj hJ=>?_) (λ_ hJ=>?_) (s0:=()) (λi h=>by omega)
  ·unfold Dw F4;rw[Dl hj,AJe,AJg (Bf hj),AIZ];show Aw (bif false==u.getD j false then _ else _) _;cases he:u.getD j false with
   |false=>exact Aw.mk (.inl ⟨j,rfl,hj,he⟩)
   |true =>
    rw[Bc hj (by omega)];refine Aw.mk ⟨(),rfl,λk hk=>?_⟩;rcases AI9 k j with h' |h'
    ·exact hJ k h'
    ·rw[show k=j by omega];exact he
  ·unfold Dw F4;rw[D1,AJd];exact Aw.mk (.inr ⟨rfl,hJ⟩)
 ·rcases ht with ⟨j,rfl,h1,h2⟩|⟨rfl,h⟩
  ·exact Aw.mk ⟨λ_=>⟨j,h1,h2⟩,λ_=>by show(0:Int)<=(j:Int);omega⟩
  ·exact Aw.mk ⟨λh'=>absurd (show(0:Int)<=-1 from h') (by omega),λ⟨j,h1,h2⟩=>by rw[h j h1]at h2;cases h2⟩
theorem jb{d:ALC}{t:ALE}(ht:SS t)(hd:d.length<=1048576):Aw (RR d (t,())) λr=>(r.1=true/\Nn d t r.2)\/(r.1=false/\¬∃ws,Nn d t ws):=by
 unfold RR QF;show Aw (bif decide ((t.length:Int)<1)||decide ((t.length:Int)>400)then _ else _) _;by_cases hl:1<=t.length/\t.length<=400
 ·rw[AI1 (by omega),AI1 (by omega),Bool.or_false,AJd];rw[show LB d (t,()) (t.length:Int)=some (List.replicate t.length 0,List.replicate t.length false) by
   unfold LB;rw[AJg ⟨rfl,by omega,by omega,by omega,by omega⟩,AJg ⟨rfl,by omega,by omega,by omega,by omega⟩,AIZ],AIY]
  refine Aw.bind (P:=λr=>(∃x,r=.inl x/\¬∃ws,Nn d t ws)\/(∃ws u,r=.inr (u,ws)/\ws.length=t.length/\iy d t ws/\u.length=t.length/\∀k:Nat,k<t.length->(u.getD k false=true↔ay t k t.length))) ?_ λr hr=>?_
  ·unfold TG;have:=BL (f:=Gj d (t,()) (t.length:Int) (t.length:Int)) (λi (s:ALx×ALy)=>((i:Int),s.1,s.2)) t.length
    (λi s=>∃ws:ALx,ws.length=i/\iy d t ws/\s.1=ws++List.replicate (t.length-i) 0/\s.2.length=t.length/\∀k:Nat,k<t.length->(s.2.getD k false=true↔ay t k i))
    (Q:=λr=>(∃x,r=.inl x/\¬∃ws,Nn d t ws)\/(∃ws u,r=.inr (u,ws)/\ws.length=t.length/\iy d t ws/\u.length=t.length/\∀k:Nat,k<t.length->(u.getD k false=true↔ay t k t.length))) (λi s hi hI=>?_) (λs hI=>?_) (s0:=(List.replicate t.length 0,List.replicate t.length false)) ⟨[],rfl,⟨AJU _,λj hj=>by simp at hj⟩,rfl,AJv,λk hk=>by
     have h0:(List.replicate t.length false).getD k false=false:=by simp[List.getD,hk]
     constructor
     ·intro h;rw[h0]at h;cases h
     ·rintro⟨j,hj,_⟩;omega⟩
   ·exact this
   ·obtain⟨out,Uf⟩:=s;obtain⟨ws,rfl,hp,ho,sI,hu⟩:=hI;simp only at ho sI hu;have hn:WL (nd t ws.length):=ht.2 _ (AE hi);have iT:=hn.1;unfold Gj Ml;simp only;rw[show decide ((ws.length:Int)<(t.length:Int))=true from Dl hi,AJe,AJg (Bf hi),AIZ];show Aw (bif decide (((AA (nd t ws.length)).length:Int)>4096)then _ else if Ty.row ALP=true/\(0:Int)<=((AA (nd t ws.length)).length:Int)/\((AA (nd t ws.length)).length:Int)<=((AA (nd t ws.length)).length:Int)/\((8:Nat):Int)*((AA (nd t ws.length)).length:Int)<=(281474976710656:Int)/\((AA (nd t ws.length)).length:Int)<=(9223372036854775807:Int)then(LC d (t.length:Int) (ws.length:Int) (t.length:Int) (t,()) out (nd t ws.length) (AA (nd t ws.length)) ((AA (nd t ws.length)).length:Int) 0 Uf (List.replicate ((AA (nd t ws.length)).length:Int).toNat 0)).bind _ else none) _;by_cases hk4:(AA (nd t ws.length)).length>4096
    ·rw[AI3 (by omega)];refine Aw.mk (.inl ⟨_,rfl,λ⟨iE,h'⟩=>?_⟩);obtain⟨w,hw⟩:=h'.node hp hi;have hb:=Wh (hp.Bo ht.1) hw.1;have Yd:=hw.2.2.1;have heq:=hw.2.2.2.1;have hw4:=hw.2.2.2.2.2;rcases Yd with h |h |h |h
     ·omega
     ·omega
     ·have:FJ d (nd t ws.length) (Gk ws (nd t ws.length)).sum=QI ws (nd t ws.length):=by unfold QI FJ;simp[h.1]
      omega
     ·omega
    ·rw[AI1 (by omega),AJd,AJg ⟨rfl,by omega,by omega,by omega,by omega⟩,AIZ];refine Aw.bind (qX hn hi ht.1 ho sI) λr hr=>?_;rcases hr with ⟨x,rfl,h⟩|⟨u,rfl,FA,ADC,zO⟩
     ·refine Aw.mk (.inl ⟨_,rfl,λ⟨iE,h'⟩=>?_⟩);obtain⟨w,hw⟩:=h'.node hp hi;exact h hw.1
     ·simp only[AJO];obtain⟨r,hr,hq⟩:=q0 (d:=d) hn (hp.Bo ht.1) hd FA;rw[show Gf (t.getD ws.length Af.zero) d (Gk ws (nd t ws.length))=some r from hr,AIY];have hol:out.length=t.length:=by rw[ho,AI2,AJv];omega
      rw[AJg ⟨by omega,by rw[hol];omega⟩];unfold PU;rw[show D5 (t.getD ws.length Af.zero)=_ from Ad9 (nd t ws.length),AI7,AJg ⟨by omega,by rw[hol];omega⟩,AIZ];have hgs:(out.set ws.length r).getD ws.length ALP.zero=r:=by simp[List.getD,hol,hi]
      rw[hgs,Mm];have Fx:out.set ws.length r=(ws++[r])++List.replicate (t.length-(ws.length+1)) 0:=by
       rw[ho,show t.length-ws.length=(t.length-(ws.length+1))+1 by omega,AK6];simp
      by_cases qM:VP (nd t ws.length)
      ·by_cases oZ:1<=r/\r<=4096
       ·rw[AI3 qM,AI3 oZ];simp only[AJH,AJd,AIY];have Yd:KI d (nd t ws.length):=by
         by_cases hf:KI d (nd t ws.length)
         ·exact hf
         ·have:=hq.2 hf;omega
        have Ac1:pe d ws (nd t ws.length) r:=⟨FA,qM,Yd,hq.1 Yd,oZ⟩;refine Aw.mk ⟨(out.set ws.length r,u),by rw[Bc hi ht.1],ws++[r],by simp,hp.snoc hi Ac1,Fx,ADC,λk hk=>?_⟩;rw[zO k hk,hu k hk];constructor
        ·rintro(⟨j,h1,h2⟩|h)
         ·exact⟨j,by omega,h2⟩
         ·exact⟨ws.length,by omega,h⟩
        ·rintro⟨j,h1,h2⟩
         rcases AI9 j ws.length with h' |h'
         ·exact .inl ⟨j,h',h2⟩
         ·rw[show j=ws.length by omega]at h2;exact .inr h2
       ·rw[AI3 qM,AI1 oZ];refine Aw.mk (.inl ⟨_,rfl,λ⟨iE,h'⟩=>?_⟩);obtain⟨w,hw⟩:=h'.node hp hi;have:=hq.1 hw.2.2.1;have h3:=hw.2.2.2;unfold QI at this;rw[<-this]at h3;exact oZ (by rw[<-h3.1];exact h3.2)
      ·rw[AI1 qM];refine Aw.mk (.inl ⟨_,rfl,λ⟨iE,h'⟩=>?_⟩);obtain⟨w,hw⟩:=h'.node hp hi;exact qM hw.2.1
   ·obtain⟨out,Uf⟩:=s;obtain⟨ws,yA,hp,ho,sI,hu⟩:=hI;simp only at ho sI hu;unfold Gj Ml;simp only;rw[D1,AJd];rw[AKI,List.replicate_zero,AJD]at ho;subst ho;exact Aw.mk (.inr ⟨out,Uf,rfl,yA,hp,sI,hu⟩)
  ·rcases hr with ⟨x,rfl,h⟩|⟨ws,u,rfl,yA,hp,sI,hu⟩
   ·exact Aw.mk (.inr ⟨rfl,h⟩)
   ·simp only[AJO];have e1:wI ((t.length:Int)-1)=((t.length-1:Nat):Int):=A4 (by omega) (by omega);rw[e1,AJg ⟨by omega,by omega,by rw[sI];omega⟩,AIZ,ALe];have htl:(u.take (t.length-1)).length=t.length-1:=by rw[AJj];omega
    have zL:∀k,k<t.length-1->(u.take (t.length-1)).getD k false=u.getD k false:=λk hk=>by simp[List.getD,hk]
    refine Aw.bind (pY (by omega)) λr hr=>Aw.mk ?_;rw[htl]at hr;cases r with
    |false =>
     refine .inl ⟨rfl,hl.1,hl.2,yA,hp,λk hk=>(hu k (by omega)).1 ?_⟩;cases hc:u.getD k false with
     |true=>rfl
     |false=>have:=hr.2 ⟨k,by omega,by rw[zL k (by omega)];exact hc⟩;cases this
    |true =>
     obtain⟨k,hk,hf⟩:=hr.1 rfl;rw[zL k hk]at hf;refine .inr ⟨rfl,λ⟨iE,h'⟩=>?_⟩;have:=(hu k (by omega)).2 (h'.2.2.2.2 k (by omega));rw[this]at hf;cases hf
 ·have hc:(decide ((t.length:Int)<1)||decide ((t.length:Int)>400))=true:=by simp;omega
  rw[hc];exact Aw.mk (.inr ⟨rfl,λ⟨ws,h⟩=>hl ⟨h.1,h.2.1⟩⟩)
theorem rX{D:ALC}{W:ALx}{t:ALE}{i:Nat}{Uf:ALy}(hi:i<t.length)(hn:WL (nd t i))(FA:M1 (nd t i) Uf.length) :
    Aw (MF D (i:Int) (t,()) W 0 Uf) λu=>u.length=Uf.length/\∀k:Nat,k<Uf.length->(u.getD k false=true↔Uf.getD k false=true\/(k:Int)∈AA (nd t i)):=by
 unfold MF;have hlen:=hn.1;refine BL (λj (u:ALy)=>((j:Int),u)) (AA (nd t i)).length (λj u=>u.length=Uf.length/\∀k:Nat,k<Uf.length->(u.getD k false=true↔Uf.getD k false=true\/∃m,m<j/\(AA (nd t i)).getD m 0=(k:Int))) (λj u hj hI=>?_) (λu hI=>?_) (s0:=Uf) ⟨rfl,λk _=>⟨λh=>.inl h,λh=>by rcases h with h |⟨m,hm,_⟩;exact h;omega⟩⟩
 ·unfold GR J4;simp only;rw[AJg (Bf hi),AIZ,AJg (Bf hi),AIZ];show Aw (bif decide ((j:Int)<((AA (nd t i)).length:Int))then(if(0:Int)<=(j:Int)/\(j:Int)<((AA (nd t i)).length:Int)then(if(0:Int)<=(AA (nd t i)).getD j 0/\(AA (nd t i)).getD j 0<(u.length:Int)then some (Sum.inl (wI ((j:Int)+1),u.set ((AA (nd t i)).getD j 0).toNat true))else none)else none)else _) _;have AcT:=FA _ (AE (z:=0) hj);rw[Dl hj,AJe,AJg (Bf hj),AJg ⟨AcT.1,by rw[hI.1];exact AcT.2⟩,Bc hj (by omega)];obtain⟨k,hk⟩:∃k:Nat,(AA (nd t i)).getD j 0=(k:Int):=⟨((AA (nd t i)).getD j 0).toNat,by omega⟩;rw[hk,AIZ];refine Aw.mk ⟨_,rfl,by rw[AI7];exact hI.1,λi' ud=>?_⟩;rw[Yb (by rw[hI.1];omega)];by_cases hik:i'=k
  ·subst hik;simp only[AJK,true_iff];exact .inr ⟨j,by omega,hk⟩
  ·rw[AJh hik,hI.2 i' ud];constructor
   ·rintro(h |⟨m,h1,h2⟩)
    ·exact .inl h
    ·exact .inr ⟨m,by omega,h2⟩
   ·rintro(h |⟨m,h1,h2⟩)
    ·exact .inl h
    ·rcases AI9 m j with h' |h'
     ·exact .inr ⟨m,h',h2⟩
     ·have:m=j:=by omega
      subst this;rw[hk]at h2;omega
 ·unfold GR J4;simp only;rw[AJg (Bf hi),AIZ];show Aw (bif decide (((AA (nd t i)).length:Int)<((AA (nd t i)).length:Int))then _ else some (Sum.inr u)) _;rw[D1,AJd];refine Aw.mk ⟨hI.1,λk hk=>?_⟩;rw[hI.2 k hk,V5]
theorem jw{d:ALC}{t:ALE}(ht:SS t)(hd:d.length<=1048576):Aw (NS d (t,())) λr=>(AL d/\Nn d t r)\/(r=[]/\¬(AL d/\∃ws,Nn d t ws)):=by
 unfold NS;have htb:=ht.1;obtain⟨b,dC,mV⟩:∃b,Jg d (t,())=some b/\(b=false↔AL d/\1<=t.length/\t.length<=400):=by
  obtain⟨r,hr,hq⟩:=Wc d;unfold Jg;rw[hr,AIY];show ∃b,(bif !r then some true else bif decide ((t.length:Int)<1)then some true else some (decide ((t.length:Int)>400)))=some b/\_;cases r with
  |false=>exact⟨true,rfl,λh=>by(cases h),λh=>by have:=hq.2 h.1;cases this⟩
  |true =>
   have iA:=hq.1 rfl;by_cases h1:(t.length:Int)<1
   ·rw[AI3 h1];exact⟨true,rfl,λh=>by(cases h),λh=>by omega⟩
   ·rw[AI1 h1];refine⟨_,rfl,?_⟩;rw[AJP];exact⟨λh=>⟨iA,by omega,by omega⟩,λh=>by omega⟩
 rw[dC,AIY];cases b with
 |true =>
  refine Aw.mk (.inr ⟨rfl,λh=>?_⟩);obtain⟨h1,ws,h2⟩:=h;have:=mV.2 ⟨h1,h2.1,h2.2.1⟩;cases this
 |false =>
  obtain⟨iA,Tz,af⟩:=mV.1 rfl;rw[AJd];show Aw (if Ty.row .bool=true/\(0:Int)<=(t.length:Int)/\(t.length:Int)<=(t.length:Int)/\((1:Nat):Int)*(t.length:Int)<=(281474976710656:Int)/\(t.length:Int)<=(9223372036854775807:Int)then(MG d (t,()) 0 [] (List.replicate (t.length:Int).toNat false)).bind _ else none) _;rw[AJg ⟨rfl,by omega,by omega,by omega,by omega⟩,AIZ];refine Aw.bind (P:=λr=>(∃x,r=.inl x/\¬∃ws,Nn d t ws)\/(∃ws u,r=.inr (u,ws)/\ws.length=t.length/\iy d t ws/\u.length=t.length/\∀k:Nat,k<t.length->(u.getD k false=true↔ay t k t.length))) ?_ λr hr=>?_
  ·unfold MG;refine BL (λi (s:ALx×ALy)=>((i:Int),s.1,s.2)) t.length
    (λi s=>s.1.length=i/\iy d t s.1/\s.2.length=t.length/\∀k:Nat,k<t.length->(s.2.getD k false=true↔ay t k i))
    (λi s hi hI=>?_) (λs hI=>?_) (s0:=(([]:ALx),List.replicate t.length false)) ⟨rfl,⟨AJU _,λj hj=>by simp at hj⟩,AJv,λk hk=>by
     have h0:(List.replicate t.length false).getD k false=false:=by simp[List.getD,hk]
     constructor
     ·intro h;rw[h0]at h;cases h
     ·rintro⟨j,hj,_⟩;omega⟩
   ·obtain⟨ws,Uf⟩:=s;obtain⟨yA,hp,sI,hu⟩:=hI;simp only at yA hp sI hu;subst yA;have hn:WL (nd t ws.length):=ht.2 _ (AE hi);unfold GU J5;simp only;rw[show decide ((ws.length:Int)<(t.length:Int))=true from Dl hi,AJe,AJg (Bf hi),AIZ];obtain⟨r,hr,hq⟩:=rT (d:=d) (i:=ws.length) hn (by omega) hd;rw[show Pn d (t.getD ws.length Af.zero) (ws.length:Int)=some r from hr,AIY];cases r with
    |false =>
     refine Aw.mk (.inl ⟨_,rfl,λ⟨iE,h'⟩=>?_⟩);obtain⟨w,hw⟩:=h'.node hp hi;have:=hq.2 ⟨hw.1,hw.2.1,hw.2.2.1⟩;cases this
    |true =>
     obtain⟨FA,qM,Yd⟩:=hq.1 rfl;simp only[AJH,AJd];rw[AJg (Bf hi)];have hwb:=hp.Bo htb;obtain⟨w,hw,hwe⟩:=rZ (d:=d) hn hwb FA Yd;rw[show Po d (t.getD ws.length Af.zero) ws=some w from hw,AIY,Ru];have Aiw:=Ae5 hwb FA Yd;by_cases oZ:1<=w/\w<=4096
     ·rw[AI3 oZ];simp only[AJH,AJd];have Ac1:pe d ws (nd t ws.length) w:=⟨FA,qM,Yd,by
       rcases Aiw with h |h
       ·rw[hwe,h];rfl
       ·omega,oZ⟩
      rw[AJg (by show(_+1)*8<=_;omega)];refine Aw.bind (rX hi hn (by rw[sI];exact λk hk=>by have:=FA k hk;omega)) λu zO=>Aw.mk ⟨(ws++[w],u),by rw[Bc hi htb],by simp,hp.snoc hi Ac1,zO.1.trans sI,λk hk=>?_⟩;rw[zO.2 k (by omega),hu k hk];constructor
      ·rintro(⟨j,h1,h2⟩|h)
       ·exact⟨j,by omega,h2⟩
       ·exact⟨ws.length,by omega,h⟩
      ·rintro⟨j,h1,h2⟩
       rcases AI9 j ws.length with h' |h'
       ·exact .inl ⟨j,h',h2⟩
       ·rw[show j=ws.length by omega]at h2;exact .inr h2
     ·rw[AI1 oZ];refine Aw.mk (.inl ⟨_,rfl,λ⟨iE,h'⟩=>?_⟩);obtain⟨v,hv⟩:=h'.node hp hi;have h3:=hv.2.2.2;have e:(Gk ws (nd t ws.length)).sum=QI ws (nd t ws.length):=rfl;rw[e]at h3;rcases Aiw with h |h
      ·rw[hwe,h]at oZ;exact oZ (by rw[<-h3.1];exact h3.2)
      ·omega
   ·obtain⟨ws,Uf⟩:=s;obtain⟨yA,hp,sI,hu⟩:=hI;unfold GU J5;simp only;rw[D1,AJd];exact Aw.mk (.inr ⟨ws,Uf,rfl,yA,hp,sI,hu⟩)
  ·rcases hr with ⟨x,rfl,h⟩|⟨ws,u,rfl,yA,hp,sI,hu⟩
   ·exact Aw.mk (.inr ⟨rfl,λhh=>h hh.2⟩)
   ·simp only[AJO];refine Aw.bind (P:=λr=>(r=.inl ()/\¬∀k,k+1<t.length->u.getD k false=true)\/(r=.inr ()/\∀k,k+1<t.length->u.getD k false=true)) ?_ λr hr=>?_
    ·unfold Re;refine BL (λj (_:Unit)=>(j:Int)) (t.length-1) (λj _=>∀k,k<j->u.getD k false=true) (λj _ hj hJ=>?_) (λ_ hJ=>?_) (s0:=()) (λi h=>by omega)
     ·unfold GV J6;rw[Bc (show j<t.length by omega) htb,sI,show decide (((j+1:Nat):Int)<(t.length:Int))=true from AI3 (by omega),AJe,AJg (Bf (by omega)),AIZ];show Aw (bif !(u.getD j false)then _ else _) _;cases hc:u.getD j false with
      |false=>exact Aw.mk (.inl ⟨rfl,λh=>by rw[h j (by omega)]at hc;cases hc⟩)
      |true =>
       refine Aw.mk ⟨(),rfl,λk hk=>?_⟩;rcases AI9 k j with h' |h'
       ·exact hJ k h'
       ·rw[show k=j by omega];exact hc
     ·unfold GV J6;rw[show wI (((t.length-1:Nat):Int)+1)=(t.length:Int)from A4 (by omega) (by omega),sI,D1,AJd];exact Aw.mk (.inr ⟨rfl,λk hk=>hJ k (by omega)⟩)
    ·rcases hr with ⟨rfl,h⟩|⟨rfl,h⟩
     ·exact Aw.mk (.inr ⟨rfl,λ⟨_,iE,h'⟩=>h λk hk=>(hu k (by omega)).2 (h'.2.2.2.2 k hk)⟩)
     ·exact Aw.mk (.inl ⟨iA,Tz,af,yA,hp,λk hk=>(hu k (by omega)).1 (h k hk)⟩)
open Classical in
noncomputable def Im(d:ALC)(t:ALE):Int:=if h:∃ws,Nn d t ws then h.choose.getD (t.length-1) 0 else -1
theorem Xp{d:ALC}{t:ALE}{ws:ALx}(h:Nn d t ws):Im d t=ws.getD (t.length-1) 0:=by
 have he:∃ws,Nn d t ws:=⟨ws,h⟩;unfold Im;rw[dif_pos he];have h1:=he.choose_spec;rw[h1.2.2.2.1.unique h.2.2.2.1 (by rw[h1.2.2.1,h.2.2.1])]
theorem Wj{d:ALC}{t:ALE}(h:¬∃ws,Nn d t ws):Im d t=-1:=by
 unfold Im;rw[dif_neg h]
theorem zz{d:ALC}{t:ALE}{ws:ALx}(h:Nn d t ws):1<=Im d t/\Im d t<=4096:=by
 rw[Xp h];have:=h.1;exact(h.2.2.2.1.2 (t.length-1) (by rw[h.2.2.1];omega)).2.2.2.2
theorem Xd{d:ALC}{t:ALE}(ht:SS t)(hd:d.length<=1048576):HF d (t,())=some (Im d t):=by
 unfold HF;refine Aw.eq_ (Aw.bind (jb ht hd) λr hr=>?_);rcases hr with ⟨h1,h2⟩|⟨h1,h2⟩
 ·rw[h1];simp only[AJH,AJd];have:=h2.1;have hb:=ht.1;rw[h2.2.2.1,show wI ((t.length:Int)-1)=((t.length-1:Nat):Int)from A4 (by omega) (by omega),AJg ⟨by omega,by omega⟩,AIZ];exact Aw.mk (Xp h2).symm
 ·rw[h1];exact Aw.mk (Wj h2).symm
theorem T2{d:ALC}{t:ALE}(ht:SS t)(hd:d.length<=1048576)(iA:AL d):EA d (t,())=some (Im d t):=by
 unfold EA;refine Aw.eq_ (Aw.bind (jw ht hd) λr hr=>?_);rcases hr with ⟨_,h2⟩|⟨rfl,h2⟩
 ·have:=h2.1;have hb:=ht.1;rw[h2.2.2.1,S8,AI1 (by omega),AJd,show wI ((t.length:Int)-1)=((t.length-1:Nat):Int)from A4 (by omega) (by omega),AJg ⟨by omega,by omega⟩,AIZ];exact Aw.mk (Xp h2).symm
 ·exact Aw.mk (Wj λh=>h2 ⟨iA,h⟩).symm
def li(l:ALF)(i:Nat):ALp:=l.getD i Ag.zero
def nI(l:ALF)(i:Nat):Int:=(li l i).1
def lS(l:ALF)(i:Nat):ALE:=(li l i).2.2.1.1
def lT(l:ALF)(i:Nat):ALE:=(li l i).2.2.2.1.1
def al(d:ALC)(l:ALF)(i:Nat):Prop:=(1<=nI l i/\nI l i<=1000000)/\(0<i->nI l (i-1)<nI l i)/\0<=Im d (lS l i)/\Im d (lT l i)=Im d (lS l i)
def RD(d:ALC)(l:ALF):Prop:=l.length<=60/\∀i,i<l.length->al d l i
def Uk(x:ALp):Prop:=SS x.2.2.1.1/\SS x.2.2.2.1.1
theorem cB{d:ALC}{l:ALF}(hl:∀x∈l,Uk x):Aw (Hp d l) λr=>r=true↔AL d/\RD d l:=by
 unfold Hp;obtain⟨b,dC,mV⟩:∃b,GN d l=some b/\(b=false↔AL d/\l.length<=60):=by
  obtain⟨r,hr,hq⟩:=Wc d;unfold GN;rw[hr,AIY];cases r with
  |false=>exact⟨true,rfl,λh=>by(cases h),λh=>by have:=hq.2 h.1;cases this⟩
  |true =>
   have iA:=hq.1 rfl;refine⟨decide ((l.length:Int)>60),rfl,?_⟩;rw[AJP];exact⟨λh=>⟨iA,by omega⟩,λh=>by omega⟩
 rw[dC,AIY];cases b with
 |true=>exact Aw.mk ⟨λh=>by(cases h),λh=>by have:=mV.2 ⟨h.1,h.2.1⟩;cases this⟩
 |false =>
  obtain⟨iA,hlen⟩:=mV.1 rfl;have hd:=iA.1;rw[AJd];refine Aw.bind (P:=λt=>(t=.inl ()/\¬∀i,i<l.length->al d l i)\/(t=.inr ()/\∀i,i<l.length->al d l i)) ?_ λt ht=>?_
  ·unfold OX;refine BL (λj (_:Unit)=>(j:Int)) l.length (λj _=>∀k,k<j->al d l k) (λj _ hj hJ=>?_) (λ_ hJ=>?_) (s0:=()) (λi h=>by omega)
   ·unfold EM H7;have hB:=hl _ (AE (z :=Ag.zero) hj);have e1:EA d (l.getD j Ag.zero).2.2.1=some (Im d (lS l j)):=T2 hB.1 (by omega) iA;have e2:EA d (l.getD j Ag.zero).2.2.2.1=some (Im d (lT l j)):=T2 hB.2 (by omega) iA;have e3:(l.getD j Ag.zero).1=nI l j:=rfl;rw[Dl hj,AJe,AJg (Bf hj),AIZ,e1,AIY];obtain⟨b,dC,mV⟩:∃b,GQ d l (j:Int) (Im d (lS l j))=some b/\(b=false↔al d l j):=by
     unfold GQ al;rw[AJg (Bf hj),AJg (Bf hj),AIZ,e3,Ru,e2,AIY];by_cases h1:1<=nI l j/\nI l j<=1000000
     ·rw[AI3 h1];simp only[AJH,AJd];have last:∃b,(bif decide (Im d (lS l j)<0)then some true else some (Im d (lT l j) !=Im d (lS l j)))=some b/\(b=false↔0<=Im d (lS l j)/\Im d (lT l j)=Im d (lS l j)):=by
       by_cases h2:Im d (lS l j)<0
       ·rw[AI3 h2];exact⟨true,rfl,λh=>by(cases h),λh=>by omega⟩
       ·rw[AI1 h2,AJd];refine⟨_,rfl,?_⟩;rw[AKG];exact⟨λh=>⟨by omega,h⟩,λh=>h.2⟩
      obtain⟨b,hb,hq⟩:=last;by_cases h2:0<j
      ·rw[AI3 (show(j:Int)>0 by omega),AJe,show wI ((j:Int)-1)=((j-1:Nat):Int)from A4 (by omega) (by omega),AJg (Bf (by omega)),AIZ];have e4:(l.getD (j-1) Ag.zero).1=nI l (j-1):=rfl;rw[e4];by_cases h3:nI l j<=nI l (j-1)
       ·rw[AI3 h3];exact⟨true,rfl,λh=>by(cases h),λh=>by have:=h.2.1 h2;omega⟩
       ·rw[AI1 h3,AJd,AJg (Bf hj),hb];exact⟨b,rfl,hq.trans ⟨λh=>⟨h1,λ_=>by omega,h⟩,λh=>h.2.2⟩⟩
      ·rw[AI1 (show ¬(j:Int)>0 by omega),AJd,AJg (Bf hj),hb];exact⟨b,rfl,hq.trans ⟨λh=>⟨h1,λh'=>absurd h' h2,h⟩,λh=>h.2.2⟩⟩
     ·rw[AI1 h1];exact⟨true,rfl,λh=>by(cases h),λh=>absurd h.1 h1⟩
    rw[dC,AIY];cases b with
    |true=>exact Aw.mk (.inl ⟨rfl,λh=>by have:=mV.2 (h j hj);cases this⟩)
    |false =>
     rw[AJd,Bc hj (by omega)];refine Aw.mk ⟨(),rfl,λk hk=>?_⟩;rcases AI9 k j with h' |h'
     ·exact hJ k h'
     ·rw[show k=j by omega];exact mV.1 rfl
   ·unfold EM H7;rw[D1,AJd];exact Aw.mk (.inr ⟨rfl,hJ⟩)
  ·rcases ht with ⟨rfl,h⟩|⟨rfl,h⟩
   ·exact Aw.mk ⟨λh=>by(cases h),λh'=>absurd h'.2.2 h⟩
   ·exact Aw.mk ⟨λ_=>⟨iA,hlen,h⟩,λ_=>rfl⟩
end Go.Proofs.X
namespace Go.Va
open Go.Proofs.X
theorem qu{T:Type}{f:Int×AL7 T->AL8 ((Int×AL7 T)⊕AL7 T)}(N:Nat)(it:Nat->AL7 T)(a0:AL7 T)
    (hs:∀k,k<N->f ((k:Int),a0++(List.range k).flatMap it)=some (.inl (((k+1:Nat):Int),a0++(List.range k).flatMap it++it k)))
    (he:f ((N:Int),a0++(List.range N).flatMap it)=some (.inr (a0++(List.range N).flatMap it))):fix f (0,a0)=some (a0++(List.range N).flatMap it):=by
 have:=AU (f:=f) (λk=>((k:Int),a0++(List.range k).flatMap it)) N (λk hk=>by
  rw[hs k hk,AKf,AKb,AI6];simp) he
 simpa using this
theorem bY{A B:Type}(g:A->B)(l:AL7 A):l.flatMap (λx=>[g x])=l.map g:=by
 induction l with
 |nil=>rfl
 |cons x l ih=>simp[ih]
theorem fE{A B:Type}(b:AL7 B)(l:AL7 A):l.flatMap (λ_=>b)=(List.replicate l.length b).flatten:=by
 induction l with
 |nil=>rfl
 |cons x l ih=>simp[ih,AK6]
end Go.Va
namespace Go.Proofs.X
open Go Go.Va
set_option maxRecDepth 100000
def Nl(n:ALo)(w:Nat):Nat:=if Bm n=8 then(w-(nA n).toNat%w)%w else(nA n).toNat%w
def Bn(d:ALC)(n:ALo)(kids:AL7 (AL7 Bt)):AL7 Bt :=
 if Bm n=1 then(List.range (dw d (He n).toNat).toNat).map λa=>.va (He n).toNat a
 else if Bm n=2 then(List.range (nW n).toNat).map λk=>.co (bt (cu n) k)
 else if Bm n=3 then kids.reverse.flatten
 else if Bm n=4 then((kids.getD 0 []).take ((nA n).toNat+1)).drop (nB n).toNat
 else if Bm n=5 then kids.getD 0 []++List.replicate (nA n).toNat (.co false)
 else if Bm n=6 then kids.getD 0 []++List.replicate (nA n).toNat ((kids.getD 0 []).getD ((kids.getD 0 []).length-1) (.co false))
 else if Bm n=9 then(List.replicate (nA n).toNat (kids.getD 0 [])).flatten
 else(kids.getD 0 []).drop ((kids.getD 0 []).length-Nl n (kids.getD 0 []).length)++(kids.getD 0 []).take ((kids.getD 0 []).length-Nl n (kids.getD 0 []).length)
def WI(d:ALC):Bt->Prop
 |.co _=>True
 |.va v a=>v<d.length/\((a:Nat):Int)<dw d v
def gd(kids:AL7 (AL7 Bt)):Int:=((kids.map List.length).sum:Nat)
def Bj(d:ALC)(B:AL7 Bt):Prop:=1<=B.length/\B.length<=4096/\∀b∈B,WI d b
structure NB (d:ALC) (n:ALo) (kids:List (List Bt)):Prop where
 hd:AL d
 hf:KI d n
 hb:WL n
 hk:kids.length=(AA n).length
 hw:1<=FJ d n (gd kids)/\FJ d n (gd kids)<=4096
 FA:∀B∈kids,Bj d B
theorem Vl{d:ALC}(hd:AL d){b:Bt}(h:WI d b):BtB b:=by
 cases b with
 |co b=>trivial
 |va v a =>
  obtain⟨h1,h2⟩:=h;have:=(hd.2.1 v h1).2.1;have:=hd.1;exact⟨by omega,by omega⟩
theorem NB.one{d:ALC}{n:ALo}{kids:AL7 (AL7 Bt)}(h:NB d n kids)(h1:Bm n≠1)(h2:Bm n≠2)(h3:Bm n≠3):4<=Bm n/\Bm n<=9/\∃B,kids=[B]/\Bj d B/\gd kids=(B.length:Int):=by
 have hf:=h.hf;unfold KI at hf;have:4<=Bm n/\Bm n<=9/\(AA n).length=1:=by omega
 obtain⟨h4,h9,hl⟩:=this;have hk:=h.hk;rw[hl]at hk
 match kids,hk,h.FA with
 |[B],_,FA=>exact⟨h4,h9,B,rfl,FA B AJt,by simp[gd]⟩
theorem oM{n:ALo}{w:Nat}(h:1<=w):Nl n w<w:=by
 unfold Nl;split<;>exact Nat.mod_lt _ (by omega)
theorem cC(l:ALz):l.reverse.sum=l.sum:=by
 induction l with
 |nil=>rfl
 |cons x l ih=>simp[ih];omega
theorem ZQ{d:ALC}{n:ALo}{kids:AL7 (AL7 Bt)}(h:NB d n kids):((Bn d n kids).length:Int)=FJ d n (gd kids):=by
 have hw:=h.hw;by_cases h1:Bm n=1
 ·simp only[Bn,FJ,AJg h1,AJa,AJF]at hw⊢;omega
 by_cases h2:Bm n=2
 ·simp only[Bn,FJ,AJh h1,AJg h2,AJa,AJF]at hw⊢;omega
 by_cases h3:Bm n=3
 ·have e:¬Bm n=4/\¬(Bm n=5\/Bm n=6)/\¬(Bm n=7\/Bm n=8)/\¬Bm n=9:=by omega
  simp only[Bn,FJ,AJh h1,AJh h2,AJg h3,AJh e.1,AJh e.2.1,AJh e.2.2.1,AJh e.2.2.2,gd];rw[AKH,List.map_reverse,cC]
 obtain⟨h4,h9,B,rfl,hB,hs⟩:=h.one h1 h2 h3;have hl:=hB.1;rw[hs]at hw⊢;by_cases qv:Bm n=4
 ·simp only[Bn,FJ,AJh h1,AJh h2,AJh h3,AJg qv,AJR,AJy,AJj]at hw⊢;split at hw<;>rename_i hc
  ·rw[AJg hc];omega
  ·omega
 by_cases h5:Bm n=5
 ·have sA:Bm n=5\/Bm n=6:=.inl h5;simp only[Bn,FJ,AJh h1,AJh h2,AJh h3,AJh qv,AJg h5,AJg sA,AJR,AI2,AJv]at hw⊢;split at hw<;>rename_i hc
  ·rw[AJg hc];omega
  ·omega
 by_cases h6:Bm n=6
 ·have sA:Bm n=5\/Bm n=6:=.inr h6;simp only[Bn,FJ,AJh h1,AJh h2,AJh h3,AJh qv,AJh h5,AJg h6,AJg sA,AJR,AI2,AJv]at hw⊢;split at hw<;>rename_i hc
  ·rw[AJg hc];omega
  ·omega
 have sA:¬(Bm n=5\/Bm n=6):=by omega
 by_cases wD:Bm n=9
 ·have h78:¬(Bm n=7\/Bm n=8):=by omega
  simp only[Bn,FJ,AJh h1,AJh h2,AJh h3,AJh qv,AJh h5,AJh h6,AJh sA,AJh h78,AJg wD,AJR,AKH,AKY,AKU]at hw⊢;split at hw<;>rename_i hc
  ·rw[AJg hc];have:(nA n)=((nA n).toNat:Int):=by omega
   rw[this,AIZ,Int.natCast_mul,Int.mul_comm]
  ·omega
 ·have h78:Bm n=7\/Bm n=8:=by omega
  have ht:=oM (n:=n) hl;simp only[Bn,FJ,AJh h1,AJh h2,AJh h3,AJh qv,AJh h5,AJh h6,AJh sA,AJg h78,AJh wD,AJR,AI2,AJy,AJj]at hw⊢;split at hw<;>rename_i hc
  ·rw[AJg hc];omega
  ·omega
theorem UE{d:ALC}{n:ALo}{kids:AL7 (AL7 Bt)}(h:NB d n kids):Bj d (Bn d n kids):=by
 have hl:=ZQ h;refine⟨by have:=h.hw;omega,by have:=h.hw;omega,λb hb=>?_⟩;by_cases h1:Bm n=1
 ·have hf:=h.hf;unfold KI at hf;have hv:0<=He n/\He n<(d.length:Int):=by omega
  simp only[Bn,AJg h1,List.mem_map,List.mem_range]at hb;obtain⟨a,ha,rfl⟩:=hb;exact⟨by omega,by omega⟩
 by_cases h2:Bm n=2
 ·simp only[Bn,AJh h1,AJg h2,List.mem_map,List.mem_range]at hb;obtain⟨a,ha,rfl⟩:=hb;trivial
 by_cases h3:Bm n=3
 ·simp only[Bn,AJh h1,AJh h2,AJg h3,List.mem_flatten,List.mem_reverse]at hb;obtain⟨B,hB,hb⟩:=hb;exact(h.FA B hB).2.2 b hb
 obtain⟨h4,h9,B,rfl,hB,hs⟩:=h.one h1 h2 h3;have hz:B.getD (B.length-1) (.co false)∈B:=AE (by have:=hB.1;omega);simp only[Bn,AJh h1,AJh h2,AJh h3,AJR]at hb;split at hb
 ·exact hB.2.2 b (AKn (ALg hb))
 split at hb
 ·rcases List.mem_append.1 hb with hb |hb
  ·exact hB.2.2 b hb
  ·rw[(List.mem_replicate.1 hb).2];trivial
 split at hb
 ·rcases List.mem_append.1 hb with hb |hb
  ·exact hB.2.2 b hb
  ·rw[(List.mem_replicate.1 hb).2];exact hB.2.2 _ hz
 split at hb
 ·obtain⟨C,hC,hb⟩:=List.mem_flatten.1 hb;rw[(List.mem_replicate.1 hC).2]at hb;exact hB.2.2 b hb
 ·rcases List.mem_append.1 hb with hb |hb
  ·exact hB.2.2 b (ALg hb)
  ·exact hB.2.2 b (AKn hb)
end Go.Proofs.X
namespace Go.Va
open Go.Proofs.X
theorem W5{T:Type}{f:Int×AL7 T->AL8 ((Int×AL7 T)⊕AL7 T)}(N:Nat)(g:Nat->T)(a0:AL7 T)
    (hs:∀k acc,k<N->acc.length=a0.length+k->f ((k:Int),acc)=some (.inl (((k+1:Nat):Int),acc++[g k]))) (he:∀acc,f ((N:Int),acc)=some (.inr acc)):fix f (0,a0)=some (a0++(List.range N).map g):=by
 have:=qu (f:=f) N (λk=>[g k]) a0 (λk hk=>hs k _ hk (by rw[bY];simp)) (he _);rw[bY]at this;exact this
end Go.Va
namespace Go.Proofs.X
open Go Go.Va
set_option maxRecDepth 100000
theorem AAb(kids:AL7 (AL7 Bt))(k:Nat):(kids.map bV).getD k ALV.zero=bV (kids.getD k []):=by
 simp only[List.getD,AJr];cases kids[k]?<;>rfl
theorem xy{x:Int}(h1:-4611686018427387904<=x)(h2:x<4611686018427387904):wI x=x:=BO (by omega) (by omega)
theorem xf{A:Type}{l:AL7 A}{z:A}{k:Nat}(h:k<l.length):l.reverse.getD k z=l.getD (l.length-1-k) z:=by
 simp only[List.getD,List.getElem?_reverse h]
theorem ZH(kids:AL7 (AL7 Bt))(k:Nat):((kids.reverse.take k).flatten).length<=(kids.map List.length).sum:=by
 rw[<-cC,<-List.map_reverse,AKH]
 conv=>rhs;rw[<-AJ8 k kids.reverse,AJJ,AKx]
 omega
theorem Ach{a:Nat}:decide ((a:Int)>=0)=true:=AI3 (by omega)
theorem uS{d:ALC}{n:ALo}{kids:AL7 (AL7 Bt)}(h:NB d n kids)(h3:Bm n=3):Ol (kids.map bV) (wI (((kids.map bV).length:Int)-1)) []=some (bV kids.reverse.flatten):=by
 have hlen:kids.length<=1048576:=by rw[h.hk];exact h.hb.1
 have Adi:(kids.map List.length).sum<=4096:=by
  have hw:=h.hw;have e:¬Bm n=4/\¬(Bm n=5\/Bm n=6)/\¬(Bm n=7\/Bm n=8)/\¬Bm n=9/\¬Bm n=1/\¬Bm n=2:=by omega
  simp only[FJ,AJh e.1,AJh e.2.1,AJh e.2.2.1,AJh e.2.2.2.1,AJh e.2.2.2.2.1,AJh e.2.2.2.2.2,gd]at hw;omega
 unfold Ol;rw[AJa,xy (by omega) (by omega)];have:=AU (f:=Dy (kids.map bV)) (λk=>((kids.length:Int)-1-(k:Int),bV (kids.reverse.take k).flatten)) (t:=bV kids.reverse.flatten) kids.length (λk hk=>by
  unfold Dy Lc;simp only;have e:(kids.length:Int)-1-(k:Int)=((kids.length-1-k:Nat):Int):=by omega
  have hb:=ZH kids k;have FA:=h.FA (kids.getD (kids.length-1-k) []) (AE (by omega));rw[e,Ach,AJe,AJa,AJg ⟨by omega,by omega⟩,AIZ,AAb,C6,C6,AJg (by have:=FA.2.1;omega),xy (by omega) (by omega)];rw[AW (z:=[]) (show k<kids.reverse.length by rw[List.length_reverse];exact hk),xf hk,List.flatten_append,<-Vk];simp only[List.flatten_cons,List.flatten_nil,AJD];rw[show(kids.length:Int)-1-((k+1:Nat):Int)=((kids.length-1-k:Nat):Int)-1 by omega]) (by
  unfold Dy Lc;simp only;rw[AI1 (by omega),AJd,AI8 (by rw[List.length_reverse];omega)])
 have sf:fix (Dy (kids.map bV)) ((kids.length:Int)-1-((0:Nat):Int),[])=some (bV kids.reverse.flatten):=this;rw[show(kids.length:Int)-1-((0:Nat):Int)=(kids.length:Int)-1 by omega]at sf;exact sf
theorem rV{d:ALC}{n:ALo}{kids:AL7 (AL7 Bt)}(h:NB d n kids):Sb d n (kids.map bV)=some (bV (Bn d n kids)):=by
 have e1:∀x:Int,(n.1==x)=decide (Bm n=x):=λx=>S8;have zK:=UE h;have WB:=zK.2.1;unfold Sb Oq QF;simp only[e1];by_cases h1:Bm n=1
 ·rw[AI3 h1,AJe];have hf:=h.hf;unfold KI at hf;have hv:0<=He n/\He n<(d.length:Int):=by omega
  obtain⟨N,hN⟩:∃N:Nat,dw d (He n).toNat=(N:Int):=by
   have:=(h.hd.2.1 (He n).toNat (by omega)).2.1;exact⟨(dw d (He n).toNat).toNat,by omega⟩
  have hN4:N<=4096:=by have:=(h.hd.2.1 (He n).toNat (by omega)).2.1;omega
  rw[show Oi d n 0 []=some (bV (Bn d n kids)) by
   unfold Oi;rw[W5 (f:=Fc d n) N (λa=>UR (.va (He n).toNat a)) [] (λk acc hk ha=>by
    unfold Fc La;simp only;rw[AJg (show(0:Int)<=n.2.1/\n.2.1<(d.length:Int)from hv),show(d.getD n.2.1.toNat Ad.zero).2.1=(N:Int)from hN,Dl hk,AJe,Bc hk (by omega)];simp at ha;rw[AJg (by show(_+1)*16<=_;omega)];have:n.2.1=(((He n).toNat:Nat):Int):=by show He n=_;omega
    rw[this];rfl) (λacc=>by
    unfold Fc La;simp only;rw[AJg (show(0:Int)<=n.2.1/\n.2.1<(d.length:Int)from hv),show(d.getD n.2.1.toNat Ad.zero).2.1=(N:Int)from hN,D1,AJd])]
   simp only[Bn,AJg h1,hN,AIZ,bV,AJ7,AKX];rfl]
  rfl
 rw[AI1 h1,AJd];by_cases h2:Bm n=2
 ·rw[AI3 h2,AJe];have hf:=h.hf;unfold KI at hf;obtain⟨m,SX,RN⟩:pw n:=by
   rcases hf with h |h |h |h
   ·omega
   ·exact h.2.2
   ·omega
   ·omega
  rw[show Oj n 0 []=some (bV (Bn d n kids)) by
   unfold Oj;rw[W5 (f:=Fe n) m (λk=>UR (.co (bt (cu n) k))) [] (λk acc hk ha=>by
    unfold Fe Lb;simp only;have hb:Ij n.2.2.2.2.1 (k:Int)=some (bI (bt (cu n) k)):=gg (w:=nW n) RN.2.2.2.1 (by rw[RN.2.2.1];unfold nw;omega) h.hb.2.1;have h4:=RN.2.1;rw[show n.2.2.2.2.1.1=(m:Int)from SX,Dl hk,AJe,hb,AIY,Bc hk (by omega)];simp at ha;rw[AJg (by show(_+1)*16<=_;omega)];rw[show wI (bI (bt (cu n) k))=bI (bt (cu n) k) by cases bt (cu n) k<;>rfl];rfl) (λacc=>by
    unfold Fe Lb;simp only;rw[show n.2.2.2.2.1.1=(m:Int)from SX,D1,AJd])]
   simp only[Bn,AJh h1,AJg h2,SX,AIZ,bV,AJ7,AKX];rfl]
  rfl
 rw[AI1 h2,AJd];by_cases h3:Bm n=3
 ·rw[AI3 h3,AJe,uS h h3];simp only[Bn,AJh h1,AJh h2,AJg h3];rfl
 rw[AI1 h3,AJd];obtain⟨h4,h9,B,rfl,hB,hs⟩:=h.one h1 h2 h3;have hl:=hB.1;have wO:=hB.2.1;have hw:=h.hw;have g0:([B].map bV).getD 0 ALV.zero=bV B:=rfl;have r0:(0:Int)<=(0:Int)/\(0:Int)<(([B].map bV).length:Int):=⟨by omega,by simp⟩;rw[hs]at hw;simp only[Bn,AJh h1,AJh h2,AJh h3,AJR]at WB⊢;simp only[FJ,AJh h1,AJh h2]at hw;by_cases qv:Bm n=4
 ·simp only[AJg qv]at hw WB⊢;split at hw<;>rename_i hc
  ·obtain⟨A,hA⟩:∃A:Nat,nA n=(A:Int):=⟨(nA n).toNat,by omega⟩;obtain⟨L,hL⟩:∃L:Nat,nB n=(L:Int):=⟨(nB n).toNat,by omega⟩;have fK:n.2.2.1=(A:Int):=hA;have hL':n.2.2.2.1=(L:Int):=hL;rw[AI3 qv,AJe,AJg r0,g0,fK,hL',show wI ((A:Int)+1)=((A+1:Nat):Int)from A4 (by omega) (by omega),C6];rw[AJg (show(0:Int)<=(L:Int)/\(L:Int)<=((A+1:Nat):Int)/\((A+1:Nat):Int)<=(B.length:Int)from⟨by omega,by omega,by omega⟩),AIZ,AIZ,hA,hL,AIZ,AIZ];rw[show(List.drop L (List.take (A+1) (bV B)))=bV ((B.take (A+1)).drop L) by simp[bV,List.map_drop,List.map_take],C6,AJy,AJj,AJg (by omega)];rfl
  ·omega
 rw[AI1 qv,AJd];simp only[AJh qv]at hw WB⊢;by_cases sA:Bm n=5\/Bm n=6
 ·simp only[AJg sA]at hw;split at hw<;>rename_i hc
  ·obtain⟨A,hA⟩:∃A:Nat,nA n=(A:Int):=⟨(nA n).toNat,by omega⟩;have fK:n.2.2.1=(A:Int):=hA;have F6:(bif decide (Bm n=5)then decide (Bm n=5)else decide (Bm n=6))=true:=by
    rcases sA with h |h<;>simp[h]
   have b6:wI (((bV B).length:Int)-1)=((B.length-1:Nat):Int):=by rw[C6];exact A4 (by omega) (by omega)
   rw[F6,AJe];by_cases h6:Bm n=6
   ·have h5:¬Bm n=5:=by omega
    simp only[AJh h5,AJg h6,hA,AIZ,AI2,AJv]at WB⊢;rw[show Fz ([B].map bV) n=some (.inl ()) by
     unfold Fz;rw[e1,AI3 h6,AJe,AJg r0,AJg r0,g0,b6,C6,AJg ⟨by omega,by omega⟩],AIY]
    simp only[AKd];rw[AJg r0,g0,b6,AIZ,C6,AJg (by omega),eE (by omega)];rw[show Om n (UR (B.getD (B.length-1) (.co false))) 0 (bV B)=some (bV (B++List.replicate A (B.getD (B.length-1) (.co false)))) by
     unfold Om;rw[W5 (f:=Ff n (UR (B.getD (B.length-1) (.co false)))) A (λ_=>UR (B.getD (B.length-1) (.co false))) (bV B) (λk acc hk ha=>by
      unfold Ff Ld;simp only;rw[C6]at ha;rw[fK,Dl hk,AJe,Bc hk (by omega),AJg (by show(_+1)*16<=_;omega)]) (λacc=>by
      unfold Ff Ld;simp only;rw[fK,D1,AJd])]
     rw[Vk];simp[bV,List.map_const']]
    rfl
   ·have h5:Bm n=5:=by omega
    simp only[AJg h5,hA,AIZ,AI2,AJv]at WB⊢;rw[show Fz ([B].map bV) n=some (.inr ()) by
     unfold Fz;rw[e1,AI1 h6,AJd],AIY]
    simp only[AJO];rw[AJg r0,g0,C6,AJg (by omega)];rw[show On n 0 (bV B)=some (bV (B++List.replicate A (.co false))) by
     unfold On;rw[W5 (f:=Fg n) A (λ_=>UR (.co false)) (bV B) (λk acc hk ha=>by
      unfold Fg Le;simp only;rw[C6]at ha;rw[fK,Dl hk,AJe,Bc hk (by omega),AJg (by show(_+1)*16<=_;omega)];rfl) (λacc=>by
      unfold Fg Le;simp only;rw[fK,D1,AJd])]
     rw[Vk];simp[bV,List.map_const']]
    rfl
  ·omega
 have h5:¬Bm n=5:=by omega
 have h6:¬Bm n=6:=by omega
 have F6:(bif decide (Bm n=5)then decide (Bm n=5)else decide (Bm n=6))=false:=by simp[h5,h6]
 rw[F6,AJd];simp only[AJh h5,AJh h6,AJh sA]at hw WB⊢;by_cases h78:Bm n=7\/Bm n=8
 ·simp only[AJg h78]at hw;split at hw<;>rename_i hc
  ·obtain⟨A,hA⟩:∃A:Nat,nA n=(A:Int):=⟨(nA n).toNat,by omega⟩;have fK:n.2.2.1=(A:Int):=hA;have wD:¬Bm n=9:=by omega
   have M7:(bif decide (Bm n=7)then decide (Bm n=7)else decide (Bm n=8))=true:=by
    rcases h78 with h |h<;>simp[h]
   have ht:=oM (n:=n) hl;simp only[AJh wD,AI2,AJy,AJj]at WB⊢;rw[M7,AJe,AJg r0,g0,fK,C6,AJh (by omega)];have AcY:Int.tmod (A:Int) (B.length:Int)=((A%B.length:Nat):Int):=rfl;have yu:A%B.length<B.length:=Nat.mod_lt _ (by omega);rw[show Kp ([B].map bV) n (B.length:Int) (Int.tmod (A:Int) (B.length:Int))=some ((Nl n B.length:Nat):Int) by
    unfold Kp Nl;rw[e1,AcY,hA,AIZ];by_cases h8:Bm n=8
    ·rw[AI3 h8,AJe,AJh (by omega),AJg h8,show wI ((B.length:Int)-((A%B.length:Nat):Int))=((B.length-A%B.length:Nat):Int)from A4 (by omega) (by omega)];rfl
    ·rw[AI1 h8,AJd,AJh h8],AIY]
   have YQ:wI ((B.length:Int)-((Nl n B.length:Nat):Int))=((B.length-Nl n B.length:Nat):Int):=A4 (by omega) (by omega);rw[AJg r0,YQ,AJg ⟨by omega,by omega,by omega⟩,AIZ,AIZ];generalize hq:B.length-Nl n B.length=q at *;rw[show(List.drop q (List.take B.length (bV B)))=bV (B.drop q) by rw[AI8 (by rw[C6];omega)];simp[bV,List.map_drop],show(List.drop 0 (List.take q (bV B)))=bV (B.take q) by simp[bV,List.map_take],AJg (by omega),AJg r0,AJg ⟨by omega,by omega,by omega⟩,AJg (by omega),<-Vk];rfl
  ·omega
 have wD:Bm n=9:=by omega
 have M7:(bif decide (Bm n=7)then decide (Bm n=7)else decide (Bm n=8))=false:=by
  rw[show ¬Bm n=7/\¬Bm n=8 by omega |> λh=>(AI1 h.1:decide (Bm n=7)=false),AJd];exact AI1 (by omega)
 simp only[AJh h78,AJg wD]at hw WB⊢;split at hw<;>rename_i hc
 ·obtain⟨A,hA⟩:∃A:Nat,nA n=(A:Int):=⟨(nA n).toNat,by omega⟩;have fK:n.2.2.1=(A:Int):=hA;rw[M7,AJd,AI3 wD,AJe];rw[hA]at hw WB;simp only[AIZ,AKH,AKY,AKU]at WB;rw[show Oo ([B].map bV) n 0 []=some (bV (List.replicate A B).flatten) by
   unfold Oo;rw[qu (f:=Fh ([B].map bV) n) A (λ_=>bV B) [] (λk hk=>by
    unfold Fh Lf;simp only;have iT:k*B.length<=A*B.length:=AJX _ (by omega);rw[fK,Dl hk,AJe,AJg r0,g0,Bc hk (by omega),AJg (by
     rw[AJ7,fE,AKH,AKY,AKU,AJF,C6];omega)]) (by
    unfold Fh Lf;simp only;rw[fK,D1,AJd])]
   rw[AJ7,fE,AJF];simp[bV,List.map_flatten,AKY]]
  rw[hA];rfl
 ·omega
end Go.Proofs.X
namespace Go.Proofs.X
open Go Go.Va
set_option maxRecDepth 100000
def fN(B:AL7 Bt):ALD:=fV (Av B)
theorem wq(kids:AL7 (AL7 Bt))(k:Nat):(kids.map fN).getD k ALS.zero=fN (kids.getD k []):=by
 simp only[List.getD,AJr];cases kids[k]?<;>rfl
theorem oa{d:ALC}(hd:AL d){a b:AL7 Bt}(ha:∀x∈a,WI d x)(hb:∀x∈b,WI d x)(hl:a.length+b.length<=4096):Eb (fN b) (fN a)=some (fN (a++b)):=by
 unfold fN;rw[rF (C1 b) (C1 a) (TW (λx hx=>l6 (Vl hd (hb x hx))) (by omega)) (TW (λx hx=>l6 (Vl hd (ha x hx))) (by omega)) (by rw[Cm,Cm];exact hl),rG]
theorem AdV{s:Sg}(h:1<=s.w):Av s.bits=[s]:=by
 have:=Xm s.w s [] rfl h;rw[Q9]at this;exact this.symm
theorem Ao2(b:Bt):fN [b]=[Hn b.sg]:=rfl
theorem AhB{d:ALC}(hd:AL d){a:AL7 Bt}{b:Bt}(ha:∀x∈a,WI d x)(hb:WI d b)(hl:a.length+1<=4096):Eb [Hn b.sg] (fN a)=some (fN (a++[b])) :=
 oa hd ha (b:=[b]) (λx hx=>by rw[AJp]at hx;rw[hx];exact hb) hl
theorem Ae6{d:ALC}{B:AL7 Bt}(h:Bj d B):GG (fN B)=some (B.length:Int):=by
 unfold fN;rw[mK (C1 B) (by rw[Cm];exact h.2.1),Cm]
theorem w9{d:ALC}(hd:AL d){B:AL7 Bt}(h:Bj d B){lo w:Nat}(zM:lo+w<=8192):Eo (fN B) (lo:Int) (w:Int)=some (fN ((B.drop lo).take w)):=by
 have hs:∀x∈B,VN x.sg:=λx hx=>l6 (Vl hd (h.2.2 x hx));unfold fN;rw[ql (C1 B) (TW hs h.2.1) (by rw[Hm];exact hs) (by rw[Cm];exact h.2.1) zM,Hm]
theorem k9{d:ALC}(hd:AL d){B:AL7 Bt}{b:Bt}{A:Nat}(hB:Bj d B)(hb:WI d b)(hl:B.length+A<=4096){f:Int×ALD->AL8 ((Int×ALD)⊕ALD)}
    (hs:∀x:Int×ALD,f x=bif decide (x.1<(A:Int))then(Eb [Hn b.sg] x.2).bind λo=>some (.inl (wI (x.1+1),o))else some (.inr x.2)):fix f (0,fN B)=some (fN (B++List.replicate A b)):=by
 have:=AU (f:=f) (λk=>((k:Int),fN (B++List.replicate k b))) (t:=fN (B++List.replicate A b)) A (λk hk=>by
  rw[hs];simp only;rw[Dl hk,AJe,AhB hd (λx hx=>by
   rcases List.mem_append.1 hx with hx |hx
   ·exact hB.2.2 x hx
   ·rw[(List.mem_replicate.1 hx).2];exact hb) hb (by rw[AI2,AJv];omega),AIY,Bc hk (by omega),AI6,<-List.replicate_succ']) (by
  rw[hs];simp only;rw[D1,AJd])
 have h0:fix f (((0:Nat):Int),fN (B++List.replicate 0 b))=some (fN (B++List.replicate A b)):=this;rw[List.replicate_zero,AJD]at h0;exact h0
theorem um{d:ALC}{n:ALo}{kids:AL7 (AL7 Bt)}(h:NB d n kids)(h3:Bm n=3):GX (kids.map fN) (wI (((kids.map fN).length:Int)-1)) []=some (fN kids.reverse.flatten):=by
 have hlen:kids.length<=1048576:=by rw[h.hk];exact h.hb.1
 have Adi:(kids.map List.length).sum<=4096:=by
  have hw:=h.hw;have e:¬Bm n=4/\¬(Bm n=5\/Bm n=6)/\¬(Bm n=7\/Bm n=8)/\¬Bm n=9/\¬Bm n=1/\¬Bm n=2:=by omega
  simp only[FJ,AJh e.1,AJh e.2.1,AJh e.2.2.1,AJh e.2.2.2.1,AJh e.2.2.2.2.1,AJh e.2.2.2.2.2,gd]at hw;omega
 unfold GX;rw[AJa,xy (by omega) (by omega)];have:=AU (f:=BZ (kids.map fN)) (λk=>((kids.length:Int)-1-(k:Int),fN (kids.reverse.take k).flatten)) (t:=fN kids.reverse.flatten) kids.length (λk hk=>by
  unfold BZ ES;simp only;have e:(kids.length:Int)-1-(k:Int)=((kids.length-1-k:Nat):Int):=by omega
  have hb:=ZH kids (k+1);have FA:=h.FA (kids.getD (kids.length-1-k) []) (AE (by omega));rw[AW (z:=[]) (show k<kids.reverse.length by rw[List.length_reverse];exact hk),xf hk,List.flatten_append]at hb⊢;simp only[List.flatten_cons,List.flatten_nil,AJD]at hb⊢;rw[AI2]at hb;rw[e,Ach,AJe,AJa,AJg ⟨by omega,by omega⟩,AIZ,wq,oa h.hd (λx hx=>by
   obtain⟨C,hC,hx⟩:=List.mem_flatten.1 hx;exact(h.FA C (List.mem_reverse.1 (AKn hC))).2.2 x hx) FA.2.2 (by omega),AIY,xy (by omega) (by omega)]
  rw[show(kids.length:Int)-1-((k+1:Nat):Int)=((kids.length-1-k:Nat):Int)-1 by omega]) (by
  unfold BZ ES;simp only;rw[AI1 (by omega),AJd,AI8 (by rw[List.length_reverse];omega)])
 have sf:fix (BZ (kids.map fN)) ((kids.length:Int)-1-((0:Nat):Int),[])=some (fN kids.reverse.flatten):=this;rw[show(kids.length:Int)-1-((0:Nat):Int)=(kids.length:Int)-1 by omega]at sf;exact sf
theorem gQ{s:Sg}{v:ALn}(h:1<=s.w)(e:Hn s=v):([v]:ALD)=fN s.bits:=by
 unfold fN;rw[AdV h,<-e];rfl
theorem qZ{d:ALC}{n:ALo}{kids:AL7 (AL7 Bt)}(h:NB d n kids):GC n d (kids.map fN)=some (fN (Bn d n kids)):=by
 have e1:∀x:Int,(n.1==x)=decide (Bm n=x):=λx=>S8;have zK:=UE h;have WB:=zK.2.1;unfold GC QF;simp only[e1];by_cases h1:Bm n=1
 ·rw[AI3 h1,AJe];have hf:=h.hf;unfold KI at hf;have hv:0<=He n/\He n<(d.length:Int):=by omega
  have hdw:=(h.hd.2.1 (He n).toNat (by omega)).2.1;obtain⟨N,hN⟩:∃N:Nat,dw d (He n).toNat=(N:Int):=⟨(dw d (He n).toNat).toNat,by omega⟩;rw[AJg (show(0:Int)<=n.2.1/\n.2.1<(d.length:Int)from hv),show(d.getD n.2.1.toNat Ad.zero).2.1=(N:Int)from hN];rw[gQ (s:=.va (He n).toNat 0 N) (by show 1<=N;omega) (by
   show((((He n).toNat:Nat):Int),((0:Nat):Int),(N:Int),((0:Int),([]:ALx),()),())=_;rw[show(((He n).toNat:Nat):Int)=n.2.1 by show _=He n;omega];rfl)]
  simp only[Bn,AJg h1,hN,AIZ,Sg.bits,AJu]
 rw[AI1 h1,AJd];by_cases h2:Bm n=2
 ·rw[AI3 h2,AJe];have hf:=h.hf;unfold KI at hf;obtain⟨m,SX,RN⟩:pw n:=by
   rcases hf with h |h |h |h
   ·omega
   ·exact h.2.2
   ·omega
   ·omega
  have hl:((List.range m).map λk=>bt (cu n) k).length=m:=by simp
  rw[show C2 n.2.2.2.2.1=some (nW n,cu n)from Zr h.hb.2.1,AIY];rw[gQ (s:=.co ((List.range m).map λk=>bt (cu n) k)) (by show 1<=List.length _;rw[hl];exact RN.1) (by
   show(-1,0,((((List.range m).map λk=>bt (cu n) k).length:Nat):Int),jh ((List.range m).map λk=>bt (cu n) k),())=_;rw[uy (f:=bt (cu n)) hl (λi hi=>by simp[List.getD,hi]),hl,show zR m (bt (cu n))=((m:Int),cu n,()) by unfold zR;rw[<-RN.eq]];simp only[AB];rw[SX])]
  simp only[Bn,AJh h1,AJg h2,SX,AIZ,Sg.bits,AKX];rfl
 rw[AI1 h2,AJd];by_cases h3:Bm n=3
 ·rw[AI3 h3,AJe,um h h3];simp only[Bn,AJh h1,AJh h2,AJg h3];rfl
 rw[AI1 h3,AJd];obtain⟨h4,h9,B,rfl,hB,hs⟩:=h.one h1 h2 h3;have hl:=hB.1;have wO:=hB.2.1;have hw:=h.hw;have g0:([B].map fN).getD 0 ALS.zero=fN B:=rfl;have r0:(0:Int)<=(0:Int)/\(0:Int)<(([B].map fN).length:Int):=⟨by omega,by simp⟩;have AFk:(fN B).length<=4096:=by
  unfold fN;rw[B5];have:=CQ (C1 B);rw[Cm]at this;omega
 rw[hs]at hw;rw[AJg r0,g0,Ae6 hB,AIY];simp only[Bn,AJh h1,AJh h2,AJh h3,AJR]at WB⊢;simp only[FJ,AJh h1,AJh h2]at hw;by_cases qv:Bm n=4
 ·simp only[AJg qv]at hw WB⊢;split at hw<;>rename_i hc
  ·obtain⟨A,hA⟩:∃A:Nat,nA n=(A:Int):=⟨(nA n).toNat,by omega⟩;obtain⟨L,hL⟩:∃L:Nat,nB n=(L:Int):=⟨(nB n).toNat,by omega⟩;have fK:n.2.2.1=(A:Int):=hA;have hL':n.2.2.2.1=(L:Int):=hL;rw[AI3 qv,AJe,fK,hL',show wI ((A:Int)-(L:Int))=((A-L:Nat):Int)from A4 (by omega) (by omega),show wI (((A-L:Nat):Int)+1)=((A-L+1:Nat):Int)from A4 (by omega) (by omega),w9 h.hd hB (by omega),hA,hL,AIZ,AIZ];rw[List.drop_take,show A+1-L=A-L+1 by omega];rfl
  ·omega
 rw[AI1 qv,AJd];simp only[AJh qv]at hw WB⊢;by_cases h78:Bm n=7\/Bm n=8
 ·have sA:¬(Bm n=5\/Bm n=6):=by omega
  have h5:¬Bm n=5:=by omega
  have h6:¬Bm n=6:=by omega
  have wD:¬Bm n=9:=by omega
  simp only[AJh h5,AJh h6,AJh wD,AJh sA,AJg h78]at hw⊢;split at hw<;>rename_i hc
  ·obtain⟨A,hA⟩:∃A:Nat,nA n=(A:Int):=⟨(nA n).toNat,by omega⟩;have fK:n.2.2.1=(A:Int):=hA;have M7:(bif decide (Bm n=7)then decide (Bm n=7)else decide (Bm n=8))=true:=by
    rcases h78 with h |h<;>simp[h]
   have ht:=oM (n:=n) hl;rw[M7,AJe,AJh (by omega),fK];have AcY:Int.tmod (A:Int) (B.length:Int)=((A%B.length:Nat):Int):=rfl;have yu:A%B.length<B.length:=Nat.mod_lt _ (by omega);rw[show D3 n (B.length:Int) (fN B) (Int.tmod (A:Int) (B.length:Int))=some ((Nl n B.length:Nat):Int) by
    unfold D3 Nl;rw[e1,AcY,hA,AIZ];by_cases h8:Bm n=8
    ·rw[AI3 h8,AJe,AJh (by omega),AJg h8,show wI ((B.length:Int)-((A%B.length:Nat):Int))=((B.length-A%B.length:Nat):Int)from A4 (by omega) (by omega)];rfl
    ·rw[AI1 h8,AJd,AJh h8],AIY]
   have YQ:wI ((B.length:Int)-((Nl n B.length:Nat):Int))=((B.length-Nl n B.length:Nat):Int):=A4 (by omega) (by omega);have hz:(0:Int)=((0:Nat):Int):=rfl;rw[YQ,w9 h.hd hB (by omega),AIY,hz,w9 h.hd hB (by omega),AIY,ALe,show List.take (Nl n B.length) (List.drop (B.length-Nl n B.length) B)=List.drop (B.length-Nl n B.length) B from AI8 (by rw[AJy];omega)];rw[oa h.hd (λx hx=>hB.2.2 x (ALg hx)) (λx hx=>hB.2.2 x (AKn hx)) (by rw[AJy,AJj];omega)];rfl
  ·omega
 have M7:(bif decide (Bm n=7)then decide (Bm n=7)else decide (Bm n=8))=false:=by
  rw[show ¬Bm n=7/\¬Bm n=8 by omega |> λh=>(AI1 h.1:decide (Bm n=7)=false),AJd];exact AI1 (by omega)
 rw[M7,AJd];by_cases wD:Bm n=9
 ·have sA:¬(Bm n=5\/Bm n=6):=by omega
  have h5:¬Bm n=5:=by omega
  have h6:¬Bm n=6:=by omega
  simp only[AJh h5,AJh h6,AJg wD,AJh sA,AJh h78]at hw WB⊢;split at hw<;>rename_i hc
  ·obtain⟨A,hA⟩:∃A:Nat,nA n=(A:Int):=⟨(nA n).toNat,by omega⟩;have fK:n.2.2.1=(A:Int):=hA;rw[hA]at hw WB;simp only[AIZ,AKH,AKY,AKU]at WB;rw[AI3 wD,AJe,fK];rw[show GY (fN B) (A:Int) 0 []=some (fN (List.replicate A B).flatten) by
    unfold GY;have:=AU (f:=Cp (fN B) (A:Int)) (λk=>((k:Int),fN (List.replicate k B).flatten)) (t:=fN (List.replicate A B).flatten) A (λk hk=>by
     unfold Cp ET;simp only;have iT:(k+1)*B.length<=A*B.length:=AJX _ (by omega);have AHo:(k+1)*B.length=k*B.length+B.length:=Nat.succ_mul _ _;have hA2:A<=A*B.length:=AK8 _ (by omega);rw[Dl hk,AJe,oa h.hd (λx hx=>by
      obtain⟨C,hC,hx⟩:=List.mem_flatten.1 hx;rw[(List.mem_replicate.1 hC).2]at hx;exact hB.2.2 x hx) hB.2.2 (by rw[AKH,AKY,AKU];omega),AIY,Bc hk (by omega),List.replicate_succ',List.flatten_append]
     simp) (by
     unfold Cp ET;simp only;rw[D1,AJd])
    exact this,hA]
   rfl
  ·omega
 have sA:Bm n=5\/Bm n=6:=by omega
 rw[AI1 wD,AJd];simp only[AJh wD,AJg sA]at hw WB⊢;split at hw<;>rename_i hc
 ·obtain⟨A,hA⟩:∃A:Nat,nA n=(A:Int):=⟨(nA n).toNat,by omega⟩;have fK:n.2.2.1=(A:Int):=hA;have hz1:F7 1=some (1,[0]):=Xt (n:=1) (by omega);rw[hz1,AIY];rw[AJg (by omega)];by_cases h6:Bm n=6
  ·have h5:¬Bm n=5:=by omega
   have b6:WI d (B.getD (B.length-1) (.co false)):=hB.2.2 _ (AE (by omega));rw[show Cg n (B.length:Int) (fN B) (fN B) (AB 1 [0]).1 (AB 1 [0]).2.1 (AB 1 [0]).2.2.1 (AB 1 [0]).2.2.2.1 (AB 1 [0]).2.2.2.2=some (.inl (Hn (B.getD (B.length-1) (.co false)).sg)) by
    unfold Cg;rw[e1,AI3 h6,AJe,show wI ((B.length:Int)-1)=((B.length-1:Nat):Int)from A4 (by omega) (by omega),show(1:Int)=((1:Nat):Int)from rfl,w9 h.hd hB (by omega),AIY];have:(B.drop (B.length-1)).take 1=[B.getD (B.length-1) (.co false)]:=by
     rw[AKy (by omega),show B.getD (B.length-1) (.co false)=B[B.length-1] by simp[List.getD,show B.length-1<B.length by omega]];rfl
    rw[this,Ao2,AJg ⟨by omega,by simp⟩];rfl,AIY]
   simp only[AKd,AJh h5,AJg h6,hA,AIZ];rw[fK];unfold KE;rw[k9 (f:=EU (Hn (B.getD (B.length-1) (.co false)).sg) (A:Int)) h.hd hB b6 (A:=A) (by omega) (λx=>rfl)];rfl
  ·have h5:Bm n=5:=by omega
   rw[show Cg n (B.length:Int) (fN B) (fN B) (AB 1 [0]).1 (AB 1 [0]).2.1 (AB 1 [0]).2.2.1 (AB 1 [0]).2.2.2.1 (AB 1 [0]).2.2.2.2=some (.inr ()) by
    unfold Cg;rw[e1,AI1 h6,AJd],AIY]
   simp only[AJO,AJg h5,hA,AIZ];rw[fK];have yo:((AB 1 [0]).1,(AB 1 [0]).2.1,(AB 1 [0]).2.2.1,((AB 1 [0]).2.2.2.1,(AB 1 [0]).2.2.2.2,()),())=Hn (Bt.co false).sg:=rfl;rw[yo];unfold KF;rw[k9 (f:=EV (A:Int) (Hn (Bt.co false).sg)) h.hd hB (show WI d (.co false)from trivial) (A:=A) (by omega) (λx=>rfl)];rfl
 ·omega
def Xf(all:AL7 (AL7 Bt))(n:ALo):AL7 (AL7 Bt):=(AA n).map λk=>all.getD k.toNat []
def TB(d:ALC)(t:ALE):Nat->AL7 (AL7 Bt)
 |0=>[]
 |i+1=>TB d t i++[Bn d (nd t i) (Xf (TB d t i) (nd t i))]
theorem QS(d:ALC)(t:ALE):∀i,(TB d t i).length=i
 |0=>rfl
 |i+1=>by simp only[TB,AI2,QS d t i];rfl
theorem lR(d:ALC)(t:ALE){i j k:Nat}(h:j<i)(hk:i<=k):(TB d t k).getD j []=(TB d t i).getD j []:=by
 induction k with
 |zero=>omega
 |succ k ih =>
  rcases AI9 k i with h1 |h1
  ·have:i=k+1:=by omega
   rw[this]
  ·rw[<-ih h1];simp only[TB,List.getD];rw[AJl (by rw[QS];omega)]
theorem Zj(d:ALC)(t:ALE)(i:Nat):(TB d t (i+1)).getD i []=Bn d (nd t i) (Xf (TB d t i) (nd t i)):=by
 simp only[TB,List.getD];rw[AJk (by rw[QS];omega),QS];simp
theorem AeU{A:Type}(f:A->Nat)(l:AL7 A):(((l.map f).sum:Nat):Int)=(l.map λx=>(f x:Int)).sum:=by
 induction l with
 |nil=>rfl
 |cons x l ih=>simp only[AJI,AKp];rw[<-ih];omega
theorem nU{d:ALC}{t:ALE}{ws:ALx}{i:Nat}(hd:AL d)(ht:SS t)(h:Nn d t ws)(hi:i<t.length)(hp:∀j,j<i->Bj d ((TB d t i).getD j [])/\(((TB d t i).getD j []).length:Int)=ws.getD j 0) :
    NB d (nd t i) (Xf (TB d t i) (nd t i))/\FJ d (nd t i) (gd (Xf (TB d t i) (nd t i)))=ws.getD i 0/\M1 (nd t i) i:=by
 obtain⟨_,_,hl,⟨_,Ac8⟩,_⟩:=h;have hn:=Ac8 i (by omega);obtain⟨FA,_,hf,hw,h1,h2⟩:=hn;have yA:(ws.take i).length=i:=by rw[AJj];omega
 rw[yA]at FA;have hs:gd (Xf (TB d t i) (nd t i))=(Gk (ws.take i) (nd t i)).sum:=by
  unfold gd Xf Gk;rw[AKX,AeU];congr 1;refine AJQ λk hk=>?_;have:=FA k hk;show(((TB d t i).getD k.toNat []).length:Int)=_;rw[(hp k.toNat (by omega)).2];simp only[List.getD,AJM,show k.toNat<i by omega,AJK]
 refine⟨⟨hd,hf,ht.2 _ (AE hi),by simp[Xf],by rw[hs,<-hw];exact⟨h1,h2⟩,λB hB=>?_⟩,by rw[hs,<-hw],FA⟩;obtain⟨k,hk,rfl⟩:=List.mem_map.1 hB;have:=FA k hk;exact(hp k.toNat (by omega)).1
theorem gY{d:ALC}{t:ALE}{ws:ALx}(hd:AL d)(ht:SS t)(h:Nn d t ws):∀i,i<=t.length->∀j,j<i->Bj d ((TB d t i).getD j [])/\(((TB d t i).getD j []).length:Int)=ws.getD j 0
 |0,_,j,hj=>by omega
 |i+1,hi,j,hj=>by
  have ih:=gY hd ht h i (by omega);rcases AI9 j i with h1 |h1
  ·rw[lR d t h1 (AJz i)];exact ih j h1
  ·have:j=i:=by omega
   subst this;obtain⟨iB,hw,_⟩:=nU hd ht h (by omega) ih;rw[Zj];exact⟨UE iB,by rw[ZQ iB,hw]⟩
def oW(d:ALC)(t:ALE)(n:Nat):Prop:=∀i,i<n->(Av ((TB d t n).getD i [])).length<=2000
def gk(d:ALC)(t:ALE):AL7 Bt:=(TB d t t.length).getD (t.length-1) []
open Classical in
noncomputable def F5(d:ALC)(t:ALE):Bool×ALD:=if(∃ws,Nn d t ws)/\oW d t t.length then(true,fN (gk d t))else(false,[])
theorem oW.succ{d:ALC}{t:ALE}{n:Nat}:oW d t (n+1)↔oW d t n/\(Av (Bn d (nd t n) (Xf (TB d t n) (nd t n)))).length<=2000:=by
 unfold oW;constructor
 ·intro h;refine⟨λi hi=>?_,?_⟩
  ·have:=h i (by omega);rw[lR d t hi (AJz n)]at this;exact this
  ·have:=h n (by omega);rw[Zj]at this;exact this
 ·rintro⟨h1,h2⟩ i hi
  rcases AI9 i n with h |h
  ·rw[lR d t h (AJz n)];exact h1 i h
  ·have:i=n:=by omega
   subst this;rw[Zj];exact h2
theorem oW.mono{d:ALC}{t:ALE}{m n:Nat}(h:oW d t n)(hm:m<=n):oW d t m:=λi hi=>by
 have:=h i (by omega);rw[lR d t hi hm]at this;exact this
theorem nt{a:ALC}{g c:Int}{b:ALv}{j:ALo}{all:AL7 (AL7 Bt)}{pad:ALO}{n:ALo}(hn:(AA n).length<=1048576)(FA:M1 n all.length) :
    NY a g c b (all.map fN++pad) j (AA n) ((AA n).length:Int) 0 (List.replicate (AA n).length [])=some ((Xf all n).map fN):=by
 unfold NY;have Ul:∀m,m<(AA n).length->(all.map fN++pad).getD ((AA n).getD m 0).toNat []=fN (all.getD ((AA n).getD m 0).toNat []):=λm hm=>by
  have:=FA _ (AE (z:=(0:Int)) hm);rw[<-wq];generalize (AA n).getD m 0=q at this⊢;simp only[List.getD];rw[AJl (by rw[AJa];omega)];rfl
 have:=AU (f:=EW a g c b (all.map fN++pad) j (AA n) ((AA n).length:Int)) (λk=>((k:Int),B8 (λm=>(all.map fN++pad).getD ((AA n).getD m 0).toNat []) [] (AA n).length k)) (t:=(Xf all n).map fN) (AA n).length (λk hk=>by
  unfold EW KQ;simp only;have hk2:=FA _ (AE (z:=(0:Int)) hk);have e0:(Ty.zero ALP:Int)=0:=rfl;rw[e0,Dl hk,AJe,AJg (Bf hk),AIZ,AJg ⟨hk2.1,by rw[AI2,AJa];omega⟩,Ge,AJg (Bf hk),Bc hk (by omega)];rw[show ALS.zero=([]:ALD)from rfl,O4 (λm=>(all.map fN++pad).getD ((AA n).getD m 0).toNat []) [] (n:=(AA n).length) (k:=k)]) (by
  unfold EW KQ;simp only;rw[D1,AJd];congr 2;unfold B8 Xf;rw[AKX];refine AKs (by simp) λi h1 h2=>?_;simp only[List.getElem_map,List.getElem_range,Function.comp];have hi:i<(AA n).length:=by simpa using h1
  rw[AJg hi,Ul i hi];simp[List.getD,hi])
 rw[show B8 (λm=>(all.map fN++pad).getD ((AA n).getD m 0).toNat []) [] (AA n).length 0=List.replicate (AA n).length []from Lv _ _ _]at this;exact this
theorem Acu(B:AL7 Bt):(fN B).length=(Av B).length:=B5 _
theorem Aeq{d:ALC}{B:AL7 Bt}(h:Bj d B):Small (fN B):=by
 have hlen:=CQ (C1 B);rw[Cm]at hlen;have h4:=h.2.1;refine⟨by rw[Acu];omega,λs hs=>?_⟩;obtain⟨q,hq,rfl⟩:=List.mem_map.1 hs;cases q with
 |co bs =>
  show(jh bs).2.1.length<=1048576;rw[(kI bs).1];have:(Sg.co bs).w<=A5 (Av B):=by
   have:∀(l:AL7 Sg) (s:Sg),s∈l->s.w<=A5 l:=λl s hs=>by
    induction l with
    |nil=>cases hs
    |cons a l ih =>
     simp only[A5,AJI,AKp];rcases List.mem_cons.1 hs with rfl |hs
     ·omega
     ·have:=ih hs;unfold A5 at this;omega
   exact this _ _ hq
  rw[Cm]at this;have e:(Sg.co bs).w=bs.length:=rfl;unfold nw;omega
 |va v l n=>show([]:ALx).length<=_;simp
theorem Xc{d:ALC}{t:ALE}{ws:ALx}(hd:AL d)(ht:SS t)(h:Nn d t ws):HD d (t,())=some (F5 d t):=by
 have Tz:=h.1;have af:=h.2.1;refine Aw.eq_ ?_;unfold HD;rw[AJg ⟨rfl,by show(0:Int)<=(t.length:Int);omega,by omega,by show((24:Nat):Int)*(t.length:Int)<=_;omega,by show(t.length:Int)<=_;omega⟩];show Aw ((NZ d (t,()) (t.length:Int) 0 (List.replicate (t.length:Int).toNat [])).bind _) _;rw[AIZ];refine Aw.bind (P:=λr=>(∃x,r=.inl x/\¬oW d t t.length)\/(r=.inr ((TB d t t.length).map fN)/\oW d t t.length)) ?_ λr hr=>?_
 ·unfold NZ;refine BW (λm (x:Int×ALO)=>∃i:Nat,i<=t.length/\m=t.length-i/\x=((i:Int),(TB d t i).map fN++List.replicate (t.length-i) [])/\oW d t i) (λm x hI=>?_) t.length _ ⟨0,AJU _,rfl,by simp[TB],λi hi=>by omega⟩;obtain⟨i,hi,rfl,rfl,aR⟩:=hI;unfold KR PQ;simp only;rcases AI9 i t.length with Bh |ae
  ·obtain⟨iB,hw,FA⟩:=nU hd ht h Bh (gY hd ht h i hi);have iT:=iB.hb.1;have Rm:t.getD i Af.zero=nd t i:=rfl;have Vf:(nd t i).2.2.2.2.2.1=AA (nd t i):=rfl;rw[Dl Bh,AJe,AJg (Bf Bh),AIZ,Rm,Vf,AJg ⟨rfl,by omega,by omega,by omega,by omega⟩,AIZ];rw[nt iT (by rw[QS];exact FA),AIY,qZ iB,AIY];have hlen:((TB d t i).map fN++List.replicate (t.length-i) ([]:ALD)).length=t.length:=by rw[AI2,AJa,QS,AJv];omega
   have Fx:((TB d t i).map fN++List.replicate (t.length-i) ([]:ALD)).set i (fN (Bn d (nd t i) (Xf (TB d t i) (nd t i))))=(TB d t (i+1)).map fN++List.replicate (t.length-(i+1)) []:=by
    rw[AKz _ _ (by rw[AJa,QS];omega),AJa,QS,AKI,show t.length-i=(t.length-(i+1))+1 by omega,AK6,List.set_cons_zero];simp only[TB,AJJ,AJI,AKt,AI6];rfl
   have Ul:((TB d t (i+1)).map fN++List.replicate (t.length-(i+1)) ([]:ALD)).getD i ALS.zero=fN (Bn d (nd t i) (Xf (TB d t i) (nd t i))):=by
    rw[<-Zj,<-wq];simp only[List.getD];rw[AJl (by rw[AJa,QS];omega)]
   rw[hlen,AJg (Bf Bh),AI7,hlen,AJg (Bf Bh),Fx,Ul,Acu];by_cases hc:(Av (Bn d (nd t i) (Xf (TB d t i) (nd t i)))).length<=2000
   ·rw[AI1 (by omega),AJd,Bc Bh (by omega)];exact Aw.mk ⟨t.length-(i+1),by omega,i+1,Bh,rfl,rfl,oW.succ.2 ⟨aR,hc⟩⟩
   ·rw[AI3 (by omega),AJe];exact Aw.mk (.inl ⟨_,rfl,λh'=>hc (oW.succ.1 (h'.mono Bh)).2⟩)
  ·have:i=t.length:=by omega
   subst this;rw[D1,AJd];exact Aw.mk (.inr ⟨by simp,aR⟩)
 ·rcases hr with ⟨x,rfl,X6⟩|⟨rfl,aR⟩
  ·simp only[AKd];refine Aw.mk ?_;unfold F5;rw[AJh (λh'=>X6 h'.2)]
  ·simp only[AJO];have b6:wI ((((TB d t t.length).map fN).length:Int)-1)=((t.length-1:Nat):Int):=by rw[AJa,QS];exact A4 (by omega) (by omega)
   rw[b6,AJa,QS,AJg ⟨by omega,by omega⟩,AIZ,wq];have hb:=(gY hd ht h t.length (AI4 _) (t.length-1) (by omega)).1;rw[mh (Aeq hb),AIY];refine Aw.mk ?_;unfold F5;rw[AJg ⟨⟨ws,h⟩,aR⟩];rfl
theorem P9{d:ALC}{t:ALE}(hd:AL d)(ht:SS t):C3 d (t,())=some (F5 d t):=by
 refine Aw.eq_ ?_;unfold C3;have AG9:=hd.1;rw[T2 ht (by omega) hd,AIY];by_cases hw:∃ws,Nn d t ws
 ·obtain⟨ws,h⟩:=hw;have Tz:=h.1;have af:=h.2.1;have hp:=zz h;rw[AI1 (by omega),AJd];refine Aw.bind (P:=λr=>(r=.inl ()/\¬oW d t t.length)\/(r=.inr (fN (gk d t))/\oW d t t.length)) ?_ λr hr=>?_
  ·unfold SG;refine BW (λm (x:Int×ALN×ALD)=>∃i:Nat,i<=t.length/\m=t.length-i/\x.1=(i:Int)/\x.2.1=(TB d t i).map bV/\(0<i->x.2.2=fN ((TB d t i).getD (i-1) []))/\oW d t i) (λm x hI=>?_) t.length _ ⟨0,AJU _,rfl,rfl,rfl,λh=>by omega,λi hi=>by omega⟩;obtain⟨x1,x2,x3⟩:=x;obtain⟨i,hi,rfl,h1,h2,h3,aR⟩:=hI;simp only at h1 h2 h3;subst h1 h2;unfold K7 Qb;simp only;rcases AI9 i t.length with Bh |ae
   ·obtain⟨iB,hw,FA⟩:=nU hd ht h Bh (gY hd ht h i hi);have iT:=iB.hb.1;have Rm:t.getD i Af.zero=nd t i:=rfl;have Vf:(nd t i).2.2.2.2.2.1=AA (nd t i):=rfl;have AzA:Oe d (i:Int) (t,()) ((TB d t i).map bV) 0 []=some ((Xf (TB d t i) (nd t i)).map bV):=by
     unfold Oe;rw[W5 (f:=Fb d (i:Int) (t,()) ((TB d t i).map bV)) (AA (nd t i)).length (λm=>bV ((TB d t i).getD ((AA (nd t i)).getD m 0).toNat [])) [] (λk acc hk ha=>by
      unfold Fb K6;simp only;have hk2:=FA _ (AE (z:=(0:Int)) hk);simp at ha;have e0:(Ty.zero ALP:Int)=0:=rfl;rw[AJg (Bf Bh),AIZ,Rm,Vf,Dl hk,AJe,AJg (Bf Bh),AJg (Bf hk),AIZ,e0,AJg ⟨hk2.1,by rw[AJa,QS];exact hk2.2⟩,AAb,Bc hk (by omega),AJg (by show(_+1)*24<=_;omega)]) (λacc=>by
      unfold Fb K6;simp only;rw[AJg (Bf Bh),AIZ,Rm,Vf,D1,AJd])]
     rw[AJ7];congr 1;unfold Xf;rw[AKX];refine AKs (by simp) λq h1 h2=>?_;simp only[List.getElem_map,List.getElem_range,Function.comp];have hq:q<(AA (nd t i)).length:=by simpa using h1
     simp[List.getD,hq]
    rw[Dl Bh,AJe,AzA,AIY,AJg (Bf Bh),AIZ,Rm,rV iB,AIY];have hb:=UE iB;rw[yF (λb sB=>Vl hd (hb.2.2 b sB)) hb.2.1,AIY];by_cases hc:(Av (Bn d (nd t i) (Xf (TB d t i) (nd t i)))).length<=2000
    ·simp only[AI3 hc,AJH,AJd];rw[AJa,QS,AJg (by show(_+1)*24<=_;omega),Bc Bh (by omega)];refine Aw.mk ⟨t.length-(i+1),by omega,i+1,Bh,rfl,rfl,?_,λ_=>?_,oW.succ.2 ⟨aR,hc⟩⟩
     ·simp only[TB,AJJ,AJI,AKt]
     ·simp only[AJB];rw[Zj];rfl
    ·simp only[AI1 hc,AKT,AJe];exact Aw.mk (.inl ⟨rfl,λh'=>hc (oW.succ.1 (h'.mono Bh)).2⟩)
   ·have:i=t.length:=by omega
    subst this;rw[D1,AJd];exact Aw.mk (.inr ⟨by rw[h3 (by omega)];rfl,aR⟩)
  ·rcases hr with ⟨rfl,X6⟩|⟨rfl,aR⟩
   ·simp only[AKd];refine Aw.mk ?_;unfold F5;rw[AJh (λh'=>X6 h'.2)]
   ·simp only[AJO];refine Aw.mk ?_;unfold F5;rw[AJg ⟨⟨ws,h⟩,aR⟩]
 ·rw[Wj hw,AI3 (by omega),AJe];refine Aw.mk ?_;unfold F5;rw[AJh (λh'=>hw h'.1)]
end Go.Proofs.X
namespace Go.Va
open Go.Proofs.X
def brk:AL7 Bt->Nat
 |a::b::r=>(if a.sg.join b.sg=none then 1 else 0)+brk (b::r)
 |_=>0
theorem AaZ(B:AL7 Bt)(c b:Bt):brk (B++[c,b])=brk (B++[c])+if c.sg.join b.sg=none then 1 else 0:=by
 induction B with
 |nil=>simp[brk]
 |cons a B ih =>
  cases B with
  |nil=>simp only[AJ7,AK4,brk]at *;omega
  |cons x B=>simp only[AK4,brk]at *;omega
theorem Adr{l s j:Sg}(h:l.join s=some j)(x:Bt):j.join x.sg=none↔s.join x.sg=none:=by
 cases l<;>cases s<;>simp only[Sg.join]at h
 ·cases h;cases x<;>simp[Sg.join,Bt.sg]
 ·cases h
 ·cases h
 ·split at h
  ·rename_i hc;cases h;cases x with
   |co b=>simp[Sg.join,Bt.sg]
   |va v a =>
    simp only[Sg.join,Bt.sg,hc.1,<-hc.2,AJ0];split<;>simp
  ·cases h
theorem AdU(B:AL7 Bt)(c:Bt):∃g l,Av (B++[c])=g++[l]/\∀x:Bt,l.join x.sg=none↔c.sg.join x.sg=none:=by
 have e:Av (B++[c])=Hf (Av B) c.sg:=by unfold Av;rw[Lt];rfl
 rw[e];rcases AKh (Av B)with h |⟨g,l,h⟩
 ·rw[h];exact⟨[],c.sg,rfl,λx=>Iff.rfl⟩
 ·rw[h,AKi,EI];cases hj:l.join c.sg with
  |none=>exact⟨g++[l],c.sg,by simp,λx=>Iff.rfl⟩
  |some j=>exact⟨g,j,rfl,Adr hj⟩
theorem rr(B:AL7 Bt)(c:Bt):(Av (B++[c])).length=brk (B++[c])+1:=by
 have key:∀(n:Nat) (B:AL7 Bt) (c:Bt),B.length=n->(Av (B++[c])).length=brk (B++[c])+1:=by
  intro n;induction n with
  |zero=>intro B c h;rw[List.length_eq_zero_iff.1 h];simp[Av,WO,Hf,brk]
  |succ n ih =>
   intro B c h;rcases AKh B with rfl |⟨B0,x,rfl⟩
   ·simp at h
   ·rw[AKi]at h⊢;rw[AI6];simp only[AK4,AJ7];have i:=ih B0 x (by simp at h;omega);obtain⟨g,l,hg,hl⟩:=AdU B0 x;have e:Av (B0++[x,c])=Hf (Av (B0++[x])) c.sg:=by
     rw[show B0++[x,c]=(B0++[x])++[c] by simp];unfold Av;rw[Lt];rfl
    rw[AaZ,e,hg,EI];rw[hg]at i;simp only[AI2,AJL,List.length_nil]at i;cases hj:l.join c.sg with
    |none=>rw[AJg ((hl c).1 hj)];simp;omega
    |some j =>
     rw[AJh (λh'=>by rw[(hl c).2 h']at hj;cases hj)];simp;omega
 exact key _ B c rfl
end Go.Va
namespace Go.Proofs.X
open Go Go.Va
set_option maxRecDepth 100000
def z7(d:ALC)(B:AL7 Bt):Prop:=Bj d B/\(Av B).length<=2000
theorem z7.pos{d:ALC}{B:AL7 Bt}(h:z7 d B):1<=(Av B).length:=by
 rcases AKh B with rfl |⟨B0,x,rfl⟩
 ·have:=h.1.1;simp at this
 ·rw[AKi,rr];omega
def Uo(d:ALC):Sg->Prop
 |.co bs=>1<=bs.length/\bs.length<=4096
 |.va v l n=>v<d.length/\1<=n/\((l+n:Nat):Int)<=dw d v
theorem Xn{d:ALC}{B:AL7 Bt}(h:Bj d B){s:Sg}(hs:s∈Av B):Uo d s/\s.w<=4096:=by
 have hw:=C1 B s hs;have hb:∀b∈s.bits,WI d b:=λb hb=>h.2.2 b (by
  rw[<-Hm B];exact List.mem_flatMap.2 ⟨s,hs,hb⟩)
 have Ug:s.w<=4096:=by
  have:∀(l:AL7 Sg) (s:Sg),s∈l->s.w<=A5 l:=λl s hs=>by
   induction l with
   |nil=>cases hs
   |cons a l ih =>
    simp only[A5,AJI,AKp];rcases List.mem_cons.1 hs with rfl |hs
    ·omega
    ·have:=ih hs;unfold A5 at this;omega
  have:=this _ _ hs;rw[Cm]at this;have:=h.2.1;omega
 refine⟨?_,Ug⟩;cases s with
 |co bs=>exact⟨hw,Ug⟩
 |va v l n =>
  have hn:1<=n:=hw;have h0:=hb (.va v l) (List.mem_map.2 ⟨0,List.mem_range.2 hn,by simp⟩);have h1:=hb (.va v (l+(n-1))) (List.mem_map.2 ⟨n-1,List.mem_range.2 (by omega),rfl⟩);have:=h1.2;exact⟨h0.1,hn,by omega⟩
def ABb(B:AL7 Bt)(hi lo:Int):Prop:=0<=lo/\lo<=hi/\hi<(B.length:Int)
instance (B:List Bt) (hi lo:Int):Decidable (ABb B hi lo):=inferInstanceAs (Decidable (_/\_))
def AqV(A B:AL7 Bt):Prop:=A.length+B.length<=4096/\(Av (B++A)).length<=2000
instance (A B:List Bt):Decidable (AqV A B):=inferInstanceAs (Decidable (_/\_))
end Go.Proofs.X
namespace Go.Proofs.X
open Go Go.Va
set_option maxRecDepth 100000
theorem Adw{d:ALC}{t:ALE}{ws:ALx}(hd:AL d)(ht:SS t)(h:Nn d t ws):Bj d (gk d t):=by
 have:=h.1;exact(gY hd ht h t.length (AI4 _) (t.length-1) (by omega)).1
theorem fD{d:ALC}{t:ALE}(hd:AL d)(ht:SS t)(h:(F5 d t).1=true):z7 d (gk d t)/\(F5 d t).2=fN (gk d t):=by
 unfold F5 at h⊢;split at h
 ·rename_i hc;rw[AJg hc];obtain⟨⟨ws,hw⟩,aR⟩:=hc;have:=hw.1;exact⟨⟨Adw hd ht hw,aR _ (by omega)⟩,rfl⟩
 ·cases h
theorem Wk{d:ALC}{t:ALE}(h:0<=Im d t):∃ws,Nn d t ws :=
 Classical.byContradiction λh'=>by rw[Wj h']at h;omega
def lO(d:ALC)(l:ALF)(i:Nat):Prop:=(F5 d (lS l i)).1=true/\(F5 d (lT l i)).1=true
def Hb(d:ALC)(l:ALF):Prop:=∀i,i<l.length->lO d l i
theorem nZ{a b:Bool}:(!a||!b)=false↔a=true/\b=true:=by cases a<;>cases b<;>decide
def sS(l:ALF)(id:Int)(i:Nat):Prop:=(li l i).1=id/\(li l i).2.1=true
def sR(l:ALF)(id g:Int):Prop:=(g=-1/\∀i,i<l.length->¬sS l id i)\/∃k:Nat,g=(k:Int)/\k<l.length/\sS l id k/\∀i,i<k->¬sS l id i
theorem sR.unique{l:ALF}{id g h:Int}(hg:sR l id g)(hh:sR l id h):g=h:=by
 rcases hg with ⟨rfl,h1⟩|⟨k,rfl,hk,hp,hn⟩
 ·rcases hh with ⟨rfl,_⟩|⟨k,rfl,hk,hp,_⟩
  ·rfl
  ·exact absurd hp (h1 k hk)
 ·rcases hh with ⟨rfl,h1⟩|⟨j,rfl,hj,hq,hm⟩
  ·exact absurd hp (h1 k hk)
  ·rcases AK1 k j with h |h |h
   ·exact absurd hp (hm k h)
   ·rw[h]
   ·exact absurd hq (hn j h)
theorem n1:Jj ⟨#[105]⟩ ⟨#[]⟩=false:=by kernel_rfl
theorem n2:Jj ⟨#[116]⟩ ⟨#[]⟩=false:=by kernel_rfl
theorem n3:Jj ⟨#[105,106]⟩ ⟨#[]⟩=false:=by kernel_rfl
theorem n4:Jj ⟨#[105,112]⟩ ⟨#[]⟩=false:=by kernel_rfl
def CB(c:ALK)(v:Nat):ALx:=c.getD v []
def Ip(l:ALx)(i:Nat):Int:=l.getD i 0
def PlP(l:ALx)(w:Int)(i:Nat):Prop:=1<=Ip l i/\Ip l i<=w-1/\(0<i->Ip l (i-1)<Ip l i)
def Zh(l:ALx)(w:Int):Prop:=∀i,i<l.length->PlP l w i
def ED(d:ALC)(c:ALK):Prop:=c.length=d.length/\∀v,v<d.length->Zh (CB c v) (dw d v)
def Uj(c:ALK):Prop:=c.length<=1048576/\∀x∈c,x.length<=1048576
theorem Uj.row{c:ALK}(h:Uj c)(v:Nat):(CB c v).length<=1048576:=by
 unfold CB;by_cases hv:v<c.length
 ·exact h.2 _ (AE hv)
 ·simp[List.getD,hv]
theorem Acl{d:ALC}(hd:AL d){v:Nat}(hv:v<d.length):1<=dw d v/\dw d v<=4096:=(hd.2.1 v hv).2.1
theorem ov{d:ALC}{c:ALK}(hd:AL d)(hl:c.length=d.length){v j:Nat}(hv:v<d.length)(hj:j<(CB c v).length)(hb:(CB c v).length<=1048576)(hp:∀i,i<j->PlP (CB c v) (dw d v) i) :
    ∃b,LU d (v:Int) (j:Int) (c,())=some b/\(b=false↔PlP (CB c v) (dw d v) j):=by
 have hw:=Acl hd hv;unfold LU;have e1:(c.getD v ALT.zero)=CB c v:=rfl;have e2:(d.getD v Ad.zero).2.1=dw d v:=rfl;have e3:(CB c v).getD j ALP.zero=Ip (CB c v) j:=rfl;simp only[AIZ,e1,e2,e3];rw[AJg (Bf (by omega)),AJg (Bf hj),AJg (Bf hv),Ru,BO (x:=dw d v-1) (by omega) (by omega)];by_cases h1:1<=Ip (CB c v) j/\Ip (CB c v) j<=dw d v-1
 ·rw[AI3 h1];simp only[AJH,AJd];rcases AJm j with h0 |h0
  ·subst h0;exact⟨false,by simp,λ_=>⟨h1.1,h1.2,λh=>by omega⟩,λ_=>rfl⟩
  ·rw[AI3 (by omega),AJe,A4 (x:=(j:Int)-1) (n:=j-1) (by omega) (by omega),AJg (Bf (by omega)),AJg (Bf hj),AJg (Bf (by omega)),AJg (Bf (by omega)),AIZ];have e4:(CB c v).getD (j-1) ALP.zero=Ip (CB c v) (j-1):=rfl;simp only[e4];refine⟨_,rfl,?_⟩;rw[AJP];exact⟨λh=>⟨h1.1,h1.2,λ_=>Int.not_le.1 h⟩,λh=>Int.not_le.2 (h.2.2 h0)⟩
 ·rw[AI1 h1];exact⟨true,rfl,λh=>by(cases h),λh=>(h1 ⟨h.1,h.2.1⟩).elim⟩
theorem UN{d:ALC}{c:ALK}(hc:Uj c):Aw (Jn d (c,())) λr=>r=true↔AL d/\ED d c:=by
 unfold Jn Qa;obtain⟨r,hr,hq⟩:=Wc d;rw[hr,AIY];cases r with
 |false=>exact Aw.mk ⟨λh=>by(cases h),λh=>by have:=hq.2 h.1;cases this⟩
 |true =>
  have hd:=hq.1 rfl;simp only[AJH,AJd,AIY];by_cases hl:c.length=d.length
  ·rw[show((c.length:Int) !=(d.length:Int))=false by simp[hl],AJd];refine Aw.bind (P:=λt=>(t=.inl ()/\¬ED d c)\/(t=.inr ()/\ED d c)) ?_ λt ht=>?_
   ·unfold T5;refine BL (λv (_:Unit)=>(v:Int)) c.length (λv _=>∀u,u<v->Zh (CB c u) (dw d u)) (λv _ hv hI=>?_) (λ_ hI=>?_) (s0:=()) (λu hu=>by omega)
    ·unfold Ja Mv;simp only;rw[Dl hv,AJe];refine Aw.bind (P:=λt=>(t=.inl ()/\¬Zh (CB c v) (dw d v))\/(t=.inr ()/\Zh (CB c v) (dw d v))) ?_ λt ht=>?_
     ·unfold T4;refine BL (λj (_:Unit)=>(j:Int)) (CB c v).length (λj _=>∀i,i<j->PlP (CB c v) (dw d v) i) (λj _ hj hJ=>?_) (λ_ hJ=>?_) (s0:=()) (λi hi=>by omega)
      ·unfold I9 Mu;obtain⟨b,h1,h2⟩:=ov hd hl (by omega) hj (hc.row v) hJ;have e1:(c.getD v ALT.zero)=CB c v:=rfl;simp only[AIZ,e1];rw[AJg (Bf hv),Dl hj,AJe,h1,AIY];cases b with
       |true=>exact Aw.mk (.inl ⟨rfl,λh=>by have:=h2.2 (h j hj);cases this⟩)
       |false =>
        rw[AJd,Bc hj (hc.row v)];refine Aw.mk ⟨(),rfl,λi hi=>?_⟩;rcases AI9 i j with h |h
        ·exact hJ i h
        ·rw[show i=j by omega];exact h2.1 rfl
      ·unfold I9 Mu;have e1:(c.getD v ALT.zero)=CB c v:=rfl;simp only[AIZ,e1];rw[AJg (Bf hv),D1,AJd];exact Aw.mk (.inr ⟨rfl,hJ⟩)
     ·rcases ht with ⟨rfl,h⟩|⟨rfl,h⟩
      ·exact Aw.mk (.inl ⟨rfl,λh'=>h (h'.2 v (by omega))⟩)
      ·simp only[AJO];rw[Bc hv hc.1];refine Aw.mk ⟨(),rfl,λu hu=>?_⟩;rcases AI9 u v with h' |h'
       ·exact hI u h'
       ·rw[show u=v by omega];exact h
    ·unfold Ja Mv;simp only;rw[D1,AJd];exact Aw.mk (.inr ⟨rfl,hl,λv hv=>hI v (by omega)⟩)
   ·rcases ht with ⟨rfl,h⟩|⟨rfl,h⟩
    ·exact Aw.mk ⟨λh=>by(cases h),λh'=>absurd h'.2 h⟩
    ·exact Aw.mk ⟨λ_=>⟨hd,h⟩,λ_=>rfl⟩
  ·rw[show((c.length:Int) !=(d.length:Int))=true by simp;omega,AJe];exact Aw.mk ⟨λh=>by(cases h),λh=>absurd h.2.1 hl⟩
theorem np{d:ALC}{c:ALK}(hc:Uj c)(hd:AL d):Aw (RP d (c,())) λr=>r=true↔ED d c:=by
 unfold RP;by_cases hl:c.length=d.length
 ·rw[show((c.length:Int) !=(d.length:Int))=false by simp[hl],AJd];refine Aw.bind (P:=λt=>(t=.inl ()/\¬ED d c)\/(t=.inr ()/\ED d c)) ?_ λt ht=>?_
  ·unfold TD;refine BL (λv (_:Unit)=>(v:Int)) c.length (λv _=>∀u,u<v->Zh (CB c u) (dw d u)) (λv _ hv hI=>?_) (λ_ hI=>?_) (s0:=()) (λu hu=>by omega)
   ·unfold IY Ma;have e1:(c.getD v ALT.zero)=CB c v:=rfl;have hw:=Acl hd (show v<d.length by omega);simp only[AIZ,e1];rw[Dl hv,AJe,AJg (Bf hv)];refine Aw.bind (P:=λt=>(t=.inl ()/\¬Zh (CB c v) (dw d v))\/(t=.inr ()/\Zh (CB c v) (dw d v))) ?_ λt ht=>?_
    ·unfold TC;have:=BL (f:=Gg d (v:Int) c (c.length:Int) (CB c v) ((CB c v).length:Int)) (λj (_:Unit)=>((if j=0 then 0 else Ip (CB c v) (j-1):Int),(j:Int))) (CB c v).length (λj _=>∀i,i<j->PlP (CB c v) (dw d v) i) (Q:=λt=>(t=.inl ()/\¬Zh (CB c v) (dw d v))\/(t=.inr ()/\Zh (CB c v) (dw d v))) (λj _ hj hJ=>?_) (λ_ hJ=>?_) (s0:=()) (λi hi=>by omega)
     ·exact this
     ·unfold Gg L9;have e2:(d.getD v Ad.zero).2.1=dw d v:=rfl;have e3:(CB c v).getD j ALP.zero=Ip (CB c v) j:=rfl;simp only[AIZ,e2,e3];obtain⟨q,hq⟩:∃q:Int,q=if j=0 then 0 else Ip (CB c v) (j-1):=⟨_,rfl⟩;have hqb:0<=q/\q<=4096/\(0<j->q=Ip (CB c v) (j-1))/\(j=0->q=0):=by
       by_cases h0:j=0
       ·rw[AJg h0]at hq;exact⟨by omega,by omega,λh=>by omega,λ_=>hq⟩
       ·rw[AJh h0]at hq;have:=hJ (j-1) (by omega);exact⟨by rw[hq];have:=this.1;omega,by rw[hq];have:=this.2.1;omega,λ_=>hq,λh=>absurd h h0⟩
      rw[<-hq,Dl hj,AJe,AJg (Bf hj),AJg (Bf (by omega)),Mm,BO (x:=dw d v-1) (by omega) (by omega),BO (x:=q+1) (by omega) (by omega)];by_cases h1:q+1<=Ip (CB c v) j/\Ip (CB c v) j<=dw d v-1
      ·rw[AI3 h1];simp only[AJH,AJd];rw[Bc hj (hc.row v)];refine Aw.mk ⟨(),by simp,λi hi=>?_⟩;rcases AI9 i j with h |h
       ·exact hJ i h
       ·rw[show i=j by omega];exact⟨by omega,h1.2,λh0=>by have:=hqb.2.2.1 h0;omega⟩
      ·rw[AI1 h1];refine Aw.mk (.inl ⟨rfl,λh=>h1 ?_⟩);have:=h j hj;refine⟨?_,this.2.1⟩;rcases AJm j with h0 |h0
       ·have:=hqb.2.2.2 h0;have:=(h j hj).1;omega
       ·have:=hqb.2.2.1 h0;have:=(h j hj).2.2 h0;omega
     ·unfold Gg L9;simp only;rw[D1,AJd];exact Aw.mk (.inr ⟨rfl,hJ⟩)
    ·rcases ht with ⟨rfl,h⟩|⟨rfl,h⟩
     ·exact Aw.mk (.inl ⟨rfl,λh'=>h (h'.2 v (by omega))⟩)
     ·simp only[AJO];rw[Bc hv hc.1];refine Aw.mk ⟨(),rfl,λu hu=>?_⟩;rcases AI9 u v with h' |h'
      ·exact hI u h'
      ·rw[show u=v by omega];exact h
   ·unfold IY Ma;simp only;rw[D1,AJd];exact Aw.mk (.inr ⟨rfl,hl,λv hv=>hI v (by omega)⟩)
  ·rcases ht with ⟨rfl,h⟩|⟨rfl,h⟩
   ·exact Aw.mk ⟨λh=>by(cases h),λh'=>absurd h' h⟩
   ·exact Aw.mk ⟨λ_=>h,λ_=>rfl⟩
 ·rw[show((c.length:Int) !=(d.length:Int))=true by simp;omega,AJe];exact Aw.mk ⟨λh=>by(cases h),λh=>absurd h.1 hl⟩
theorem qW{d:ALC}{c:ALK}(hc:Uj c):Aw (RO d (c,())) λr=>r=true↔AL d/\ED d c:=by
 unfold RO;obtain⟨r,hr,hq⟩:=nq d;rw[hr,AIY];cases r with
 |false=>exact Aw.mk ⟨λh=>by(cases h),λh=>by have:=hq.2 h.1;cases this⟩
 |true =>
  have hd:=hq.1 rfl;rw[AJe];refine Aw.bind (np hc hd) λr hr=>Aw.mk ⟨λh=>⟨hd,hr.1 h⟩,λh=>hr.2 h.2⟩
def GL(n:Nat)(f:Nat->Bool):ALy:=(List.range n).map f
def W(d:ALC)(v:Nat):Nat:=(dw d v).toNat
def mark(f:Nat->Nat->Bool)(v p:Nat):Nat->Nat->Bool:=λu q=>f u q||(u==v&&q==p)
def M(d:ALC)(x:Nat)(f:Nat->Nat->Bool):ALM:=(List.range d.length).map λv=>GL (W d v+x) (f v)
theorem I7(n:Nat)(f:Nat->Bool):(GL n f).length=n:=by simp[GL]
theorem ZZ{n:Nat}{f:Nat->Bool}{p:Nat}{z:Bool}(h:p<n):(GL n f).getD p z=f p:=by simp[GL,List.getD,h]
theorem T1{n:Nat}{f g:Nat->Bool}(h:∀p,p<n->f p=g p):GL n f=GL n g:=AJQ λp hp=>h p (List.mem_range.1 hp)
theorem gL(n:Nat)(f:Nat->Bool)(p:Nat):(GL n f).set p true=GL n λq=>f q||q==p:=by
 apply AKj;intro q;rw[AJn];by_cases hq:q<n
 ·by_cases e:p=q
  ·subst e;simp[GL,hq]
  ·have:¬q=p:=λh=>e h.symm;simp[GL,hq,e,this]
 ·have h1:(GL n λq=>f q||q==p)[q]?=none:=by simp[GL];omega
  have h2:(GL n f)[q]?=none:=by simp[GL];omega
  rw[h1];split
  ·rw[AJh (by rw[I7];omega)]
  ·exact h2
theorem gK(n:Nat):GL n (λ_=>false)=List.replicate n false:=by
 apply AKs<;>simp[GL]
theorem Vg(d:ALC)(x:Nat)(f:Nat->Nat->Bool):(M d x f).length=d.length:=by simp[M]
theorem WK{d:ALC}{x:Nat}{f:Nat->Nat->Bool}{v:Nat}{z:ALy}(h:v<d.length):(M d x f).getD v z=GL (W d v+x) (f v):=by simp[M,List.getD,h]
theorem lF{d:ALC}{x:Nat}{f:Nat->Nat->Bool}{v p:Nat}{z:ALy}(h:v<d.length):(M d x f).set v (((M d x f).getD v z).set p true)=M d x (mark f v p):=by
 rw[WK h,gL];apply AKj;intro u;rw[AJn];by_cases hu:u<d.length
 ·by_cases e:v=u
  ·subst e;rw[AJg rfl,AJg (by rw[Vg];exact h)];simp[M,hu,mark,GL]
  ·have:¬u=v:=λh=>e h.symm;rw[AJh e];simp only[M,AJr,AKQ hu,Option.map_some];exact congrArg some (T1 λp _=>by simp[mark,this])
 ·have h1:(M d x (mark f v p))[u]?=none:=by simp[M];omega
  rw[h1,AJh (by omega)];simp[M];omega
theorem QB{d:ALC}(hd:AL d){v:Nat}(hv:v<d.length):dw d v=(W d v:Int)/\1<=W d v/\W d v<=4096:=by
 have:=Acl hd hv;unfold W;omega
def C0(c:ALK):Nat->Nat->Bool:=λv p=>(CB c v).contains (p:Int)
def AZ(w:Nat)(f:Nat->Bool):ALx:=((List.range w).filter λp=>decide (1<=p)&&f p).map Int.ofNat
def AX(d:ALC)(f:Nat->Nat->Bool):ALK:=(List.range d.length).map λv=>AZ (W d v) (f v)
theorem jk{w:Nat}{f g:Nat->Bool}(h:∀p,p<w->1<=p->f p=g p):AZ w f=AZ w g:=by
 unfold AZ;congr 1;refine List.filter_congr λp hp=>?_;by_cases h1:1<=p
 ·rw[h p (List.mem_range.1 hp) h1]
 ·simp[h1]
theorem mq{d:ALC}{f g:Nat->Nat->Bool}(h:∀v p,v<d.length->p<W d v->1<=p->f v p=g v p):AX d f=AX d g :=
 AJQ λv hv=>jk λp hp h1=>h v p (List.mem_range.1 hv) hp h1
theorem V9(w:Nat)(f:Nat->Bool)(hw:w<=1):AZ w f=[]:=by
 unfold AZ;rw[List.map_eq_nil_iff,List.filter_eq_nil_iff];intro p hp;have:=List.mem_range.1 hp;simp;omega
theorem ZW(w:Nat)(f:Nat->Bool)(hw:1<=w):AZ (w+1) f=if f w then AZ w f++[(w:Int)]else AZ w f:=by
 unfold AZ;rw[AKf,ALa,AJJ];cases h:f w<;>simp[hw,h]
theorem UH(w:Nat)(f:Nat->Bool):(AZ w f).length<=w:=by
 unfold AZ;rw[AJa];exact AJs (AKZ _ _) (by simp)
theorem GK{A:Type}(g:Nat->A)(k:Nat):(List.range (k+1)).map g=(List.range k).map g++[g k]:=by rw[AKf,AJJ];rfl
theorem Aqb{x:Int}(h1:0<=x)(h2:x<4611686018427387904):wI x=x:=BO (by omega) (by omega)
theorem dN{l:ALx}{w:Int}(h:Zh l w){x:Int}(hx:x∈l):1<=x/\x<=w-1:=by
 obtain⟨i,hi,rfl⟩:=AKg hx;have:=h i hi;have e:Ip l i=l[i]:=by simp[Ip,List.getD,hi]
 exact⟨by have:=this.1;omega,by have:=this.2.1;omega⟩
theorem Yq{l:ALx}{i:Nat}(hi:i<l.length)(q:Int):(l.take (i+1)).contains q=((l.take i).contains q||q==Ip l i):=by
 rw[AW (z:=0) hi,List.contains_eq_any_beq,List.any_append,List.contains_eq_any_beq];simp[Ip]
theorem nE(a b:Nat):((a:Int)==(b:Int))=(a==b):=by
 by_cases h:a=b
 ·subst h;simp
 ·rw[beq_eq_false_iff_ne.2 h,AKa];omega
theorem Z5{d:ALC}{c:ALK}(hd:AL d)(hc:ED d c)(hb:Uj c):MS d (c,())=some (M d 1 (C0 c)):=by
 unfold MS SK;have iQ:=hd.1;rw[AJW];refine⟨_,?_,rfl⟩;have:=AU (f:=Fs d (c,())) (λv=>((v:Int),(List.range v).map λu=>GL (W d u+1) (C0 c u))) (t:=M d 1 (C0 c)) d.length (λv hv=>?_) ?_
 ·exact this
 ·unfold Fs Lk;obtain⟨e0,cW,cX⟩:=QB hd hv;have hp:=hc.2 v hv;have e2:(d.getD v Ad.zero).2.1=(W d v:Int):=e0;simp only[AIZ,e2];rw[Dl hv,AJe,AJg (Bf hv),Aqb (x:=(W d v:Int)+1) (by omega) (by omega),AJg ⟨rfl,by omega,by omega,by omega,by omega⟩];have OI:Oy d (v:Int) (c,()) ((List.range v).map λu=>GL (W d u+1) (C0 c u)) 0 (List.replicate ((W d v:Int)+1).toNat false)=some (GL (W d v+1) (C0 c v)):=by
   unfold Oy;have:=AU (f:=Fq d (v:Int) (c,()) ((List.range v).map λu=>GL (W d u+1) (C0 c u))) (λi=>((i:Int),GL (W d v+1) λp=>((CB c v).take i).contains (p:Int))) (t:=GL (W d v+1) (C0 c v)) (CB c v).length (λi hi=>?_) ?_
   ·have e:List.replicate ((W d v:Int)+1).toNat false=GL (W d v+1) λp=>((CB c v).take 0).contains (p:Int):=by
      rw[show((W d v:Int)+1).toNat=W d v+1 by omega,<-gK];exact T1 λp _=>by simp
    rw[e];exact this
   ·unfold Fq Lj;have e1:(c.getD v ALT.zero)=CB c v:=rfl;have e3:(CB c v).getD i ALP.zero=Ip (CB c v) i:=rfl;have hpi:=hp i hi;obtain⟨p,hpp⟩:∃p:Nat,Ip (CB c v) i=(p:Int):=⟨(Ip (CB c v) i).toNat,by have:=hpi.1;omega⟩;have qM:p<W d v:=by have:=hpi.2.1;omega
    simp only[AIZ,e1,e3,hpp];rw[AJg (Bf (by rw[hc.1];exact hv)),Dl hi,AJe,AJg (Bf (by rw[hc.1];exact hv)),AJg (Bf hi),AJg (by rw[I7];exact Bf (by omega)),Bc hi (hb.row v),gL];have e5:(GL (W d v+1) λq=>((CB c v).take i).contains (q:Int)||q==p)=GL (W d v+1) λq=>((CB c v).take (i+1)).contains (q:Int):=T1 λq _=>by rw[Yq hi,hpp,nE]
    rw[e5]
   ·unfold Fq Lj;have e1:(c.getD v ALT.zero)=CB c v:=rfl;simp only[AIZ,e1];rw[AJg (Bf (by rw[hc.1];exact hv)),D1,AJd,AI8 (AI4 _)];rfl
  rw[OI,AIY,AJg (by simp;omega),Bc hv (by omega),GK]
 ·unfold Fs Lk;simp only;rw[D1,AJd];rfl
theorem js{d:ALC}(hd:AL d)(f:Nat->Nat->Bool):Sc (M d 1 f)=some (AX d f):=by
 unfold Sc Ud;have iQ:=hd.1;rw[AJW];refine⟨_,?_,rfl⟩;have:=AU (f:=Gt (M d 1 f)) (λv=>((v:Int),(List.range v).map λu=>AZ (W d u) (f u))) (t:=AX d f) d.length (λv hv=>?_) ?_
 ·exact this
 ·unfold Gt MR;obtain⟨e0,cW,cX⟩:=QB hd hv;simp only;rw[Vg,Dl hv,AJe];have OI:Qp (M d 1 f) (v:Int) ((List.range v).map λu=>AZ (W d u) (f u)) 1 []=some (AZ (W d v) (f v)):=by
   unfold Qp;have:=AU (f:=Gs (M d 1 f) (v:Int) ((List.range v).map λu=>AZ (W d u) (f u))) (λi=>(((i+1:Nat):Int),AZ (i+1) (f v))) (t:=AZ (W d v) (f v)) (W d v-1) (λi hi=>?_) ?_
   ·have e:AZ (0+1) (f v)=[]:=V9 _ _ (by omega);rw[<-e];exact this
   ·unfold Gs MQ;have hlen:=UH (i+1) (f v);simp only;rw[Vg,AJg (Bf hv),AIZ,WK hv,I7,A4 (x:=((i+1:Nat):Int)+1) (n:=i+1+1) (by omega) (by omega),Dl (show i+1+1<W d v+1 by omega),AJe];have:LX (M d 1 f) (v:Int) ((i+1:Nat):Int) (AZ (i+1) (f v)) ((List.range v).map λu=>AZ (W d u) (f u))=some (AZ (i+1+1) (f v)):=by
     unfold LX;rw[Vg,AJg (Bf hv),AIZ,WK hv,I7,AJg (Bf (by omega)),AIZ,ZZ (by omega),ZW (i+1) (f v) (by omega)];cases f v (i+1)with
     |true=>rw[AJe,AJg (by simp;omega)];rfl
     |false=>rfl
    rw[this];rfl
   ·unfold Gs MQ;simp only;rw[Vg,AJg (Bf hv),AIZ,WK hv,I7,A4 (x:=((W d v-1+1:Nat):Int)+1) (n:=W d v+1) (by omega) (by omega),D1,AJd,show W d v-1+1=W d v by omega]
  rw[OI,AIY,AJg (by simp;omega),Bc hv (by omega),GK]
 ·unfold Gt MR;simp only;rw[Vg,D1,AJd];rfl
theorem uo{d:ALC}(hd:AL d){f:Nat->Nat->Bool}(hf:∀v,f v 0=false){a:AL7 (ALk×ALA)}{c:ALC}{e:ALA} :
    HA a (d.length:Int) c (M d 0 f) e 0 (List.replicate d.length [])=some (AX d f):=by
 have iQ:=hd.1;unfold HA;have:=AU (f:=CH a (d.length:Int) c (M d 0 f) e) (λv=>((v:Int),B8 (λu=>AZ (W d u) (f u)) [] d.length v)) (t:=AX d f) d.length (λv hv=>?_) ?_
 ·rw[<-Lv (λu=>AZ (W d u) (f u))];exact this
 ·unfold CH FP;obtain⟨e0,cW,cX⟩:=QB hd hv;simp only;rw[Dl hv,AJe,AJg (by rw[Vg];exact Bf hv),AIZ,WK hv,I7];have OI:Hz (v:Int) (d.length:Int) c (M d 0 f) a e (GL (W d v+0) (f v)) ((W d v+0:Nat):Int) 0 (B8 (λu=>AZ (W d u) (f u)) [] d.length v)=some ((B8 (λu=>AZ (W d u) (f u)) [] d.length v).set v (AZ (W d v) (f v))):=by
   unfold Hz;have:=AU (f:=CG (v:Int) (d.length:Int) c (M d 0 f) a e (GL (W d v+0) (f v)) ((W d v+0:Nat):Int)) (λi=>((i:Int),(B8 (λu=>AZ (W d u) (f u)) [] d.length v).set v (AZ i (f v)))) (t:=(B8 (λu=>AZ (W d u) (f u)) [] d.length v).set v (AZ (W d v) (f v))) (W d v+0) (λi hi=>?_) ?_
   ·have e1:(B8 (λu=>AZ (W d u) (f u)) [] d.length v).set v (AZ 0 (f v))=B8 (λu=>AZ (W d u) (f u)) [] d.length v:=by
      apply AKj;intro u;rw[AJn];split
      ·rename_i h;subst h;rw[Ge,AJg hv];simp[B8,hv,AZ]
      ·rfl
    rw[e1]at this;exact this
   ·unfold CG FO;have hlen:=UH i (f v);simp only;rw[Dl hi,AJe];have:EF (v:Int) (d.length:Int) (GL (W d v+0) (f v)) ((W d v+0:Nat):Int) (i:Int) c (M d 0 f) a e ((B8 (λu=>AZ (W d u) (f u)) [] d.length v).set v (AZ i (f v)))=some ((B8 (λu=>AZ (W d u) (f u)) [] d.length v).set v (AZ (i+1) (f v))):=by
     unfold EF Hy;have Ul:((B8 (λu=>AZ (W d u) (f u)) [] d.length v).set v (AZ i (f v))).getD v ALT.zero=AZ i (f v):=by
      simp[List.getD,Ge,hv]
     rw[I7,AJg (Bf hi)];simp only[AIZ,Ul,AI7,Ge,AKJ];rw[ZZ hi];rcases AJm i with h0 |h0
     ·subst h0;rw[hf v,AJd];have e1:AZ 0 (f v)=AZ (0+1) (f v):=by rw[V9 0 _ (by omega),V9 (0+1) _ (by omega)]
      rw[e1]
     ·rw[ZW _ _ h0];cases f v i with
      |true=>rw[AJe,AJg (Bf hv),AJg (by simp;omega),AJg (Bf hv),AJg trivial];rfl
      |false=>rfl
    rw[this,AIY,Bc hi (by omega)]
   ·unfold CG FO;simp only;rw[D1,AJd];rfl
  rw[OI,AIY,O4,Bc hv (by omega)]
 ·unfold CH FP;simp only;rw[D1,AJd];have:B8 (λu=>AZ (W d u) (f u)) [] d.length d.length=AX d f:=by
   unfold B8 AX;exact AJQ λv hv=>by rw[AJg (List.mem_range.1 hv)]
  rw[this]
def frs(s:Sg):ALy:=(List.range s.w).map (·==0)
def spot(s:Sg)(k:Nat):ALl:=if k=0 then(0,0,0,())else match s with |.co _=>(2,0,0,())|.va v l _=>(1,(v:Int),((l+k:Nat):Int),())
def spt(s:Sg):ALB:=(List.range s.w).map (spot s)
def Wr(f:AL7 Sg):ALy:=f.flatMap frs
def ah(f:AL7 Sg):ALB:=f.flatMap spt
theorem Tw{A:Type}{F:Sg->AL7 A}(hF:∀s,(F s).length=s.w)(f:AL7 Sg):(f.flatMap F).length=A5 f:=by
 rw[List.length_flatMap];exact congrArg List.sum (AJQ λs _=>hF s)
theorem mP(s:Sg):(frs s).length=s.w:=by simp[frs]
theorem oA(s:Sg):(spt s).length=s.w:=by simp[spt]
theorem XJ{A:Type}(F:Sg->AL7 A){f:AL7 Sg}{i:Nat}(hi:i<f.length):(f.take (i+1)).flatMap F=(f.take i).flatMap F++F (f.getD i (.co [])):=by
 rw[AW (z:=.co []) hi,AKb];simp
theorem flat_get{A:Type}{F:Sg->AL7 A}(hF:∀s,(F s).length=s.w){f:AL7 Sg}{i k:Nat}{z:A}(hi:i<f.length)(hk:k<(f.getD i (.co [])).w):(f.flatMap F).getD (A5 (f.take i)+k) z=(F (f.getD i (.co []))).getD k z:=by
 have e:f.flatMap F=(f.take i).flatMap F++(F (f.getD i (.co []))++(f.drop (i+1)).flatMap F):=by
  rw[<-AI6,<-XJ F hi,<-AKb,AJ8]
 rw[e];simp only[List.getD];rw[AJk (by rw[Tw hF];omega),Tw hF,show A5 (f.take i)+k-A5 (f.take i)=k by omega,AJl (by rw[hF];exact hk)]
theorem Aeg:∀{f:AL7 Sg} {p:Nat},p<A5 f->∃i k,i<f.length/\k<(f.getD i (.co [])).w/\p=A5 (f.take i)+k
 |[],p,h=>by simp[A5]at h
 |s::f,p,h=>by
  have e:A5 (s::f)=s.w+A5 f:=by simp[A5]
  by_cases hp:p<s.w
  ·exact⟨0,p,by simp,by simpa using hp,by simp[A5]⟩
  ·obtain⟨i,k,h1,h2,h3⟩:=Aeg (f:=f) (p:=p-s.w) (by omega);refine⟨i+1,k,by simp;omega,by simpa using h2,?_⟩;have:A5 ((s::f).take (i+1))=s.w+A5 (f.take i):=by simp[A5]
   omega
theorem XU{f:AL7 Sg}{i:Nat}(hi:i<f.length):A5 (f.take i)+(f.getD i (.co [])).w<=A5 f:=by
 rw[<-EN hi];exact EB f _
theorem JR{A:Type}{g:Nat->A}{n k:Nat}{z:A}(h:k<n):((List.range n).map g).getD k z=g k:=by simp[List.getD,h]
theorem RZ{f:AL7 Sg}{i k:Nat}(hi:i<f.length)(hk:k<(f.getD i (.co [])).w) :
    (C4 f).getD (A5 (f.take i)+k) (.co false)=(f.getD i (.co [])).bits.getD k (.co false)/\(Wr f).getD (A5 (f.take i)+k) false=(k==0)/\(ah f).getD (A5 (f.take i)+k) Ab.zero=spot (f.getD i (.co [])) k:=by
 refine⟨flat_get Kh hi hk,?_,?_⟩
 ·unfold Wr;rw[flat_get mP hi hk];exact JR hk
 ·unfold ah;rw[flat_get oA hi hk];exact JR hk
theorem rW{f:AL7 Sg}(h1:X2 f)(hf:∀s∈f,VN s)(hw:A5 f<=4096):Jo (fV f)=some (bV (C4 f),Wr f):=by
 unfold Jo;have hlen:=CQ h1;rw[yE h1 hf hw,AIY];have:Qs (fV f) (bV (C4 f)) 0 []=some (Wr f):=by
  unfold Qs;have:=AU (f:=Gv (fV f) (bV (C4 f))) (λi=>((i:Int),Wr (f.take i))) (t:=Wr f) f.length (λi hi=>?_) ?_
  ·exact this
  ·unfold Gv MV;simp only;rw[B5,Dl hi,AJe];have hwt:=EB f i;have he:=XU hi;have FA:Qr (fV f) (i:Int) (bV (C4 f)) 0 (Wr (f.take i))=some (Wr (f.take (i+1))):=by
    unfold Qr;have:=AU (f:=Gu (fV f) (i:Int) (bV (C4 f))) (λk=>((k:Int),Wr (f.take i)++(List.range k).map (·==0))) (t:=Wr (f.take (i+1))) (f.getD i (.co [])).w (λk hk=>?_) ?_
    ·rw[show Wr (f.take i)=Wr (f.take i)++(List.range 0).map (·==0) by simp];exact this
    ·unfold Gu MU;simp only[AIZ,fz hi,Yo];have hl:(Wr (f.take i)++(List.range k).map (·==0)).length=A5 (f.take i)+k:=by
      rw[AI2,show(Wr (f.take i)).length=A5 (f.take i)from Tw mP _];simp
     rw[B5,AJg (Bf hi),Dl hk,AJe,AJg (by rw[hl];simp;omega),Bc hk (by omega),GK,AI6,show((k:Int)==0)=(k==0)from nE k 0]
    ·unfold Gu MU;simp only[AIZ,fz hi,Yo];rw[B5,AJg (Bf hi),D1,AJd];unfold Wr;rw[XJ frs hi];rfl
   rw[FA,AIY,Bc hi (by omega)]
  ·unfold Gv MV;simp only;rw[B5,D1,AJd,AI8 (AI4 _)]
 rw[this];rfl
theorem nC{f:AL7 Sg}(h1:X2 f)(hf:∀s∈f,VN s)(hw:A5 f<=4096):JB (fV f)=some (ah f):=by
 unfold JB;have hlen:=CQ h1;have:N5 (fV f) ((fV f).length:Int) 0 []=some (ah f):=by
  unfold N5;rw[B5];have:=AU (f:=EY (fV f) (f.length:Int)) (λi=>((i:Int),ah (f.take i))) (t:=ah f) f.length (λi hi=>?_) ?_
  ·exact this
  ·unfold EY KV;simp only[AIZ,fz hi];have hwt:=EB f i;have he:=XU hi;have h1i:=h1 _ (AE (z:=.co []) hi);have hfi:=hf _ (AE (z:=.co []) hi);have kl:(ah (f.take i)).length=A5 (f.take i):=Tw oA _;rw[B5,Dl hi,AJe,AJg (Bf hi),AJg (by rw[kl];simp;omega)];have FA:N4 (fV f) (f.length:Int) (i:Int) (Hn (f.getD i (.co []))) 1 (ah (f.take i)++[(0,0,0,())])=some (ah (f.take (i+1))):=by
    unfold N4;have:=AU (f:=EX (fV f) (f.length:Int) (i:Int) (Hn (f.getD i (.co [])))) (λk=>(((k+1:Nat):Int),ah (f.take i)++(List.range (k+1)).map (spot (f.getD i (.co []))))) (t:=ah (f.take (i+1))) ((f.getD i (.co [])).w-1) (λk hk=>?_) ?_
    ·exact this
    ·unfold EX KU;simp only[Yo];have hl:(ah (f.take i)++(List.range (k+1)).map (spot (f.getD i (.co [])))).length=A5 (f.take i)+(k+1):=by
      rw[AI2,kl];simp
     rw[Dl (show k+1<(f.getD i (.co [])).w by omega),AJe];have:Kl ((k+1:Nat):Int) (fV f) (f.length:Int) (i:Int) (ah (f.take i)++(List.range (k+1)).map (spot (f.getD i (.co [])))) (Hn (f.getD i (.co [])))=some (ah (f.take i)++(List.range (k+1+1)).map (spot (f.getD i (.co [])))):=by
      unfold Kl;rw[GK _ (k+1),<-AI6];cases hs:f.getD i (.co [])with
      |co b =>
       rw[hs]at hl;rw[show((Hn (.co b)).1==-1)=true from rfl,AJe,AJg (by rw[hl];simp;omega)];rfl
      |va v l n =>
       rw[hs]at hl hk hfi he;simp only[Sg.w,VN]at hk hfi he;rw[show((Hn (.va v l n)).1==-1)=false from beq_eq_false_iff_ne.2 (show(v:Int)≠-1 by omega),AJd,AJg (by rw[hl];simp;omega)];rw[show wI ((Hn (.va v l n)).2.1+((k+1:Nat):Int))=((l+(k+1):Nat):Int)from A4 (by show(l:Int)+((k+1:Nat):Int)=_;omega) (by omega)];rfl
     rw[this,AIY,A4 (x:=((k+1:Nat):Int)+1) (n:=k+1+1) (by omega) (by omega)]
    ·unfold EX KU;simp only[Yo];rw[show(f.getD i (.co [])).w-1+1=(f.getD i (.co [])).w by omega,D1,AJd];unfold ah;rw[XJ spt hi];rfl
   rw[FA,AIY,Bc hi (by omega)]
  ·unfold EY KV;simp only;rw[D1,AJd,AI8 (AI4 _)]
 rw[this];rfl
def fst(B:AL7 Bt)(p:Nat):Bool:=(Wr (Av B)).getD p false
def S7(B:AL7 Bt)(p:Nat):Bt:=B.getD p (.co false)
def yp(h:Nat->Nat->Bool):Bt->Bool
 |.co _=>false
 |.va v a=>h v a
def fY:Bt->Bool
 |.co _=>false
 |.va _ _=>true
def Sd(B:AL7 Bt)(h:Nat->Nat->Bool)(p:Nat):Bool:=fst B p||yp h (S7 B p)
theorem nV{d:ALC}{B:AL7 Bt}(hd:AL d)(h:Bj d B):X2 (Av B)/\(∀s∈Av B,VN s)/\A5 (Av B)=B.length :=
 ⟨C1 B,TW (λb hb=>l6 (Vl hd (h.2.2 b hb))) h.2.1,Cm B⟩
theorem Ad1{d:ALC}{B:AL7 Bt}(hd:AL d)(h:Bj d B):Jo (fN B)=some (bV B,Wr (Av B)):=by
 obtain⟨h1,h2,h3⟩:=nV hd h;have:=rW h1 h2 (by rw[h3];exact h.2.1);rw[Hm]at this;exact this
theorem AeP{d:ALC}{B:AL7 Bt}(hd:AL d)(h:Bj d B):JB (fN B)=some (ah (Av B)):=by
 obtain⟨h1,h2,h3⟩:=nV hd h;exact nC h1 h2 (by rw[h3];exact h.2.1)
theorem wB(B:AL7 Bt):(Wr (Av B)).length=B.length:=by rw[show(Wr (Av B)).length=A5 (Av B)from Tw mP _,Cm]
theorem dP(B:AL7 Bt):(ah (Av B)).length=B.length:=by rw[show(ah (Av B)).length=A5 (Av B)from Tw oA _,Cm]
theorem eC{d:ALC}{B:AL7 Bt}(h:Bj d B){p:Nat}(hp:p<B.length):∃i k,i<(Av B).length/\k<((Av B).getD i (.co [])).w/\p=A5 ((Av B).take i)+k/\Uo d ((Av B).getD i (.co [])) /\
    S7 B p=((Av B).getD i (.co [])).bits.getD k (.co false)/\fst B p=(k==0)/\(ah (Av B)).getD p Ab.zero=spot ((Av B).getD i (.co [])) k:=by
 obtain⟨i,k,h1,h2,rfl⟩:=Aeg (f:=Av B) (p:=p) (by rw[Cm];exact hp);obtain⟨e1,e2,e3⟩:=RZ h1 h2;rw[Hm]at e1;exact⟨i,k,h1,h2,rfl,(Xn h (AE h1)).1,e1,e2,e3⟩
theorem XZ{v l n k:Nat}(h:k<n):(Sg.va v l n).bits.getD k (.co false)=.va v (l+k):=by simp[Sg.bits,List.getD,h]
theorem Zt{b:ALy}{k:Nat}(h:k<b.length):(Sg.co b).bits.getD k (.co false)=.co (b.getD k false):=by simp[Sg.bits,List.getD,h]
theorem XX{d:ALC}{B:AL7 Bt}(h:Bj d B){p:Nat}(hp:p<B.length):(fst B p=true/\(ah (Av B)).getD p Ab.zero=(0,0,0,())) \/
    (fst B p=false/\((∃b,S7 B p=.co b)/\(ah (Av B)).getD p Ab.zero=(2,0,0,())\/∃v a,S7 B p=.va v a/\v<d.length/\1<=a/\a<W d v/\(ah (Av B)).getD p Ab.zero=(1,(v:Int),(a:Int),()))):=by
 obtain⟨i,k,h1,h2,h3,h4,h5,h6,h7⟩:=eC h hp;rw[h5,h6,h7];rcases AJm k with h0 |h0
 ·subst h0;exact .inl ⟨rfl,rfl⟩
 ·refine .inr ⟨by rw[AKa];omega,?_⟩;have hk:¬k=0:=by omega
  cases hs:(Av B).getD i (.co [])with
  |co b =>
   rw[hs]at h2;exact .inl ⟨⟨_,Zt h2⟩,by simp[spot,hk]⟩
  |va v l n =>
   rw[hs]at h2 h4;simp only[Sg.w,Uo]at h2 h4;exact .inr ⟨v,l+k,XZ h2,h4.1,by omega,by unfold W;omega,by simp[spot,hk]⟩
theorem AaT{d:ALC}{B:AL7 Bt}(h:Bj d B){p:Nat}(hp:p<B.length):WI d (S7 B p):=h.2.2 _ (AE hp)
theorem Rb{d:ALC}(hd:AL d){B:AL7 Bt}(h:Bj d B){f:Nat->Nat->Bool}{p:Nat}(hp:p<B.length):DX (bV B,Wr (Av B),()) (M d 1 f) (p:Int)=some (Sd B f p):=by
 unfold DX;have e1:(Wr (Av B)).getD p (Ty.zero .bool)=fst B p:=rfl;have e2:(bV B).getD p Aa.zero=UR (S7 B p):=eE hp;simp only[AIZ,e1,e2];rw[wB,C6,AJg (Bf hp)];unfold Sd;cases fst B p with
 |true=>rfl
 |false =>
  rw[AJd,AJg (Bf hp),AKm];have hb:=AaT h hp;cases hbb:S7 B p with
  |co b=>rfl
  |va v a =>
   rw[hbb]at hb;obtain⟨h1,h2⟩:=hb;obtain⟨hw,_,_⟩:=QB hd h1;rw[show(UR (.va v a)).1=(v:Int)from rfl,show(UR (.va v a)).2.1=(a:Int)from rfl,show decide ((v:Int)>=0)=true from AI3 (by omega),AJe,AJg (Bf hp),Vg,AJg (Bf h1),AJg (Bf hp),AIZ,WK h1,I7,AJg (Bf (by omega)),AIZ,ZZ (by omega)];rfl
theorem rY{d:ALC}(hd:AL d){B:AL7 Bt}(h:Bj d B){f:Nat->Nat->Bool}{p:Nat}(hp:p<B.length):Ji (bV B,Wr (Av B),()) (M d 1 f) (p:Int)=some (!Sd B f p&&fY (S7 B p)):=by
 unfold Ji;have e2:(bV B).getD p Aa.zero=UR (S7 B p):=eE hp;rw[Rb hd h hp,AIY];simp only[AIZ,e2];cases Sd B f p with
 |true=>rfl
 |false =>
  rw[C6,AKT,AJe,AJg (Bf hp),AK0];cases S7 B p with
  |co b=>rfl
  |va v a =>
   rw[show decide ((UR (.va v a)).1>=0)=true from AI3 (show(v:Int)>=0 by omega)];rfl
section
variable {kt vt:Ty}
theorem kH(hr:∀x:kt.V,A7 kt x x=true)(k:kt.V)(v:vt.V):∀es:AL7 (kt.V×vt.V),UZ kt vt (BV kt vt es k v) k=UZ kt vt es k/\SA kt vt (BV kt vt es k v) k=true
 |[]=>by simp[BV,UZ,SA,NI,hr]
 |x::es=>by
  obtain⟨h1,h2⟩:=kH hr k v es;unfold BV;cases hx:A7 kt k x.1 with
  |true=>simp[UZ,SA,NI,hr,hx]
  |false =>
   simp only[AJd];unfold SA at h2⊢;simp only[UZ,NI,hx,AJd];exact⟨by rw[h1],h2⟩
theorem fw(hr:∀x:kt.V,A7 kt x x=true)(k:kt.V)(v:vt.V)(es:AL7 (kt.V×vt.V)):Vq kt vt (BV kt vt es k v) k (Wz kt vt es k)=true:=by
 obtain⟨h1,h2⟩:=kH hr k v es;unfold Vq Wz;rw[h1,h2];simp
theorem V6(he:∀x y:kt.V,A7 kt x y=true↔x=y)(k k':kt.V)(v:vt.V):∀es:AL7 (kt.V×vt.V),NI kt vt (BV kt vt es k v) k'=bif A7 kt k' k then some v else NI kt vt es k'
 |[]=>by simp[BV,NI]
 |x::es=>by
  unfold BV;cases hx:A7 kt k x.1 with
  |true =>
   have:=(he _ _).1 hx;simp only[AJe,NI];rw[<-this];cases A7 kt k' k<;>rfl
  |false =>
   simp only[AJd,NI];rw[V6 he k k' v es];cases h1:A7 kt k' x.1 with
   |false=>rfl
   |true =>
    cases h2:A7 kt k' k with
    |false=>rfl
    |true =>
     have e1:=(he _ _).1 h1;have e2:=(he _ _).1 h2;rw[<-e2,e1]at hx;rw[(he _ _).2 rfl]at hx;cases hx
theorem aZ(he:∀x y:kt.V,A7 kt x y=true↔x=y)(k k':kt.V)(v:vt.V)(es:AL7 (kt.V×vt.V)):Bg kt vt (BV kt vt es k v) k'=bif A7 kt k' k then v else Bg kt vt es k':=by
 unfold Bg;rw[V6 he];cases A7 kt k' k<;>rfl
end
theorem db(x y:ALk):A7 Aa x y=true↔x=y:=by
 obtain⟨a,b,_⟩:=x;obtain⟨a',b',_⟩:=y;simp[A7]
theorem XO(x:ALk):A7 Aa x x=true:=(db x x).2 rfl
def Yl(d:ALC):AL7 (Nat×Nat):=(List.range d.length).flatMap λv=>(List.range (W d v)).map λp=>(v,p)
def free(d:ALC)(f:Nat->Nat->Bool):Nat:=(Yl d).countP λx=>!f x.1 x.2
theorem yT{d:ALC}{v p:Nat}(hv:v<d.length)(hp:p<W d v):(v,p)∈Yl d :=
 List.mem_flatMap.2 ⟨v,List.mem_range.2 hv,List.mem_map.2 ⟨p,List.mem_range.2 hp,rfl⟩⟩
theorem VY{A:Type}{F:Nat->AL7 A}{m:Nat}:∀{n:Nat},(∀v,v<n->(F v).length<=m)->((List.range n).flatMap F).length<=m*n
 |0,_=>by simp
 |n+1,h=>by
  rw[AKf,AKb,AI2,Nat.mul_succ];have h1:=VY (n:=n) λv hv=>h v (by omega);have h2:=h n (by omega);simp only[ALd,List.flatMap_nil,AJD];omega
theorem AgS{d:ALC}(hd:AL d)(f:Nat->Nat->Bool):free d f<=245760:=by
 have h1:(Yl d).length<=4096*d.length:=VY λv hv=>by simp;exact(QB hd hv).2.2
 have h2:=List.countP_le_length (p:=λx:Nat×Nat=>!f x.1 x.2) (l:=Yl d);have:=hd.1;unfold free;omega
theorem aH{A:Type}{q q':A->Bool}:∀{l:AL7 A} {x:A},(∀y,q' y=true->q y=true)->x∈l->q x=true->q' x=false->l.countP q'+1<=l.countP q
 |[],_,_,h,_,_=>by cases h
 |y::l,x,hq,h,h1,h2=>by
  have Ug:l.countP q'<=l.countP q:=List.countP_mono_left λy _=>hq y;rw[List.countP_cons,List.countP_cons];rcases List.mem_cons.1 h with e |h
  ·subst e;rw[h1,h2];simp;omega
  ·have:=aH hq h h1 h2;cases hy:q' y with
   |true=>rw[hq y hy];simp;omega
   |false=>simp;split<;>omega
theorem aL{d:ALC}{f:Nat->Nat->Bool}{v p:Nat}(hv:v<d.length)(hp:p<W d v)(h:f v p=false):free d (mark f v p)+1<=free d f :=
 aH (λy hy=>by simp[mark]at hy⊢;exact hy.1) (yT hv hp) (by simp[h]) (by simp[mark])
abbrev SC:Type:=(Nat->Nat->Bool)×ALA
open Classical in
noncomputable def Ic(d:ALC)(s:SC)(v p:Nat):SC:=if 0<p/\p<W d v/\s.1 v p=false then(mark s.1 v p,s.2++[((v:Int),(p:Int),())])else s
theorem cb{d:ALC}(hd:AL d){v p:Nat}(hv:v<d.length){r:Nat->Bool}{t:ALM}{g:ALA}{a:Int}(ht:t.length=d.length)(hr:t.getD v ALW.zero=GL (W d v) r)(hg:g.length<=1000000) :
    Bi a (v:Int) (p:Int) d t g=some (if 0<p/\p<W d v/\r p=false then(d,t.set v ((GL (W d v) r).set p true),g++[((v:Int),(p:Int),())])else(d,t,g)):=by
 obtain⟨e0,cW,cX⟩:=QB hd hv;have e2:(d.getD v Ad.zero).2.1=(W d v:Int):=e0;have key:GD a (v:Int) (p:Int) d t g=some (decide (0<p/\p<W d v/\r p=false)):=by
  unfold GD;simp only[AIZ,e2,hr];rcases AJm p with h0 |h0
  ·subst h0;rw[show decide (((0:Nat):Int)>0)=false from rfl,AJd];simp
  ·rw[show decide ((p:Int)>0)=true from AI3 (by omega),AJe,AJg (Bf hv)];by_cases hp:p<W d v
   ·rw[Dl hp,AJe,AJg (by rw[ht];exact Bf hv),AJg (by rw[I7];exact Bf hp),ZZ hp];cases r p<;>simp[h0,hp]
   ·rw[AI1 (by omega:¬(p:Int)<(W d v:Int)),AJd];simp[hp]
 unfold Bi;rw[key,AIY];by_cases h:0<p/\p<W d v/\r p=false
 ·rw[AI3 h,AJe,AJg h];simp only[AIZ,hr];rw[AJg (by rw[ht];exact Bf hv),AJg (by rw[I7];omega),AJg (by simp;omega)]
 ·rw[AI1 h,AJd,AJh h]
theorem TA{d:ALC}(hd:AL d){v p:Nat}(hv:v<d.length)(s:SC){a:Int}(hg:s.2.length<=1000000):Bi a (v:Int) (p:Int) d (M d 0 s.1) s.2=some (d,M d 0 (Ic d s v p).1,(Ic d s v p).2):=by
 rw[cb hd hv (Vg _ _ _) (WK hv) hg];unfold Ic;by_cases h:0<p/\p<W d v/\s.1 v p=false
 ·rw[AJg h,AJg h];have:=lF (x:=0) (f:=s.1) (p:=p) (z:=[]) hv;rw[WK hv]at this;rw[<-this];rfl
 ·rw[AJh h,AJh h]
structure CI (d:ALC) (f0:Nat->Nat->Bool) (s:SC):Prop where
 le:∀v p,f0 v p=true->s.1 v p=true
 ai:∀v p,s.1 v p=true->v<d.length/\1<=p/\p<W d v
 BF:∀x∈s.2,∃v p:Nat,x=((v:Int),(p:Int),())/\s.1 v p=true
 len:s.2.length+free d s.1<=500000
def po(s:SC):Prop:=∀v p,s.1 v p=true->((v:Int),(p:Int),())∈s.2
def Pz(f g:Nat->Nat->Bool):Prop:=∀v p,f v p=true->g v p=true
def xG(d:ALC)(f:Nat->Nat->Bool)(v p:Nat):Prop:=0<p->p<W d v->f v p=true
theorem xG.mono{d:ALC}{f g:Nat->Nat->Bool}(h:Pz f g){v p:Nat}(hh:xG d f v p):xG d g v p:=λh1 h2=>h v p (hh h1 h2)
theorem EH{f:Nat->Nat->Bool}{v p u q:Nat}:mark f v p u q=true↔f u q=true\/(u=v/\q=p):=by simp[mark]
theorem YC{d:ALC}(s:SC)(v p:Nat):Pz s.1 (Ic d s v p).1:=λu q h=>by
 unfold Ic;split
 ·exact EH.2 (.inl h)
 ·exact h
theorem Zy{d:ALC}(s:SC)(v p:Nat):xG d (Ic d s v p).1 v p:=λh1 h2=>by
 unfold Ic;split
 ·exact EH.2 (.inr ⟨rfl,rfl⟩)
 ·rename_i h;cases hs:s.1 v p with
  |true=>rfl
  |false=>exact(h ⟨h1,h2,hs⟩).elim
theorem Zz{d:ALC}{s:SC}{v p:Nat}{h:Nat->Nat->Bool}(hu:Pz s.1 h)(hh:xG d h v p):Pz (Ic d s v p).1 h:=λu q hq=>by
 unfold Ic at hq;split at hq
 ·rename_i hc;rcases EH.1 hq with h1 |⟨rfl,rfl⟩
  ·exact hu u q h1
  ·exact hh hc.1 hc.2.1
 ·exact hu u q hq
theorem CI.cut{d:ALC}{f0:Nat->Nat->Bool}{s:SC}(h:CI d f0 s){v p:Nat}(hv:v<d.length):CI d f0 (Ic d s v p):=by
 refine⟨λu q hq=>YC s v p u q (h.le u q hq),λu q hq=>?_,λx hx=>?_,?_⟩
 ·unfold Ic at hq;split at hq
  ·rename_i hc;rcases EH.1 hq with h1 |⟨rfl,rfl⟩
   ·exact h.ai u q h1
   ·exact⟨hv,hc.1,hc.2.1⟩
  ·exact h.ai u q hq
 ·unfold Ic at hx⊢;split at hx
  ·rename_i hc;rw[AJg hc];rcases List.mem_append.1 hx with hx |hx
   ·obtain⟨u,q,e,h1⟩:=h.BF x hx;exact⟨u,q,e,EH.2 (.inl h1)⟩
   ·rw[AJp]at hx;exact⟨v,p,hx,EH.2 (.inr ⟨rfl,rfl⟩)⟩
  ·rename_i hc;rw[AJh hc];exact h.BF x hx
 ·unfold Ic;split
  ·rename_i hc;have:=aL hv hc.2.1 hc.2.2;have:=h.len;simp only[AI2,AJi];omega
  ·exact h.len
theorem po.cut{d:ALC}{s:SC}(h:po s){v p:Nat}:po (Ic d s v p):=λu q hq=>by
 unfold Ic at hq⊢;split
 ·rename_i hc;rw[AJg hc]at hq;rcases EH.1 hq with h1 |⟨rfl,rfl⟩
  ·exact AJw _ (h u q h1)
  ·exact AJx _ (List.mem_singleton.2 rfl)
 ·rename_i hc;rw[AJh hc]at hq;exact h u q hq
theorem uM{l:ALx}{w:Int}(h:Zh l w):∀{j i:Nat},i<j->j<l.length->Ip l i<Ip l j
 |j+1,i,hij,hj=>by
  have h1:=(h (j+1) hj).2.2 (by omega);simp only[AJB]at h1;rcases AI9 i j with h2 |h2
  ·have:=uM h h2 (by omega);omega
  ·rw[show i=j by omega];exact h1
theorem Aef{l:ALx}{w:Int}(h:Zh l w):∀{i:Nat},i<l.length->((i:Int)+1)<=Ip l i
 |0,hi=>by have:=(h 0 hi).1;omega
 |i+1,hi=>by
  have h1:=Aef h (i:=i) (by omega);have h2:=(h (i+1) hi).2.2 (by omega);simp only[AJB]at h2;omega
theorem UK{l:ALx}{w:Int}(h:Zh l w)(hw:1<=w):(l.length:Int)<=w:=by
 rcases AJm l.length with h0 |h0
 ·omega
 ·have h1:=Aef h (i:=l.length-1) (by omega);have h2:=(h (l.length-1) (by omega)).2.1;omega
theorem AeW{l:ALx}{w:Int}(h:Zh l w){i:Nat}(hi:i<l.length):(l.take i).contains (Ip l i)=false:=by
 rw[Bool.eq_false_iff];intro hc;have hm:Ip l i∈l.take i:=by simpa using hc
 obtain⟨j,hj,e⟩:=AKg hm;rw[AJj]at hj;rw[List.getElem_take]at e;have h1:=uM h (i:=j) (j:=i) (by omega) hi;have h2:Ip l j=l[j]'(by omega):=by simp[Ip,List.getD,show j<l.length by omega]
 omega
def g0(c:ALK)(n:Nat):ALA:=(List.range n).flatMap λv=>(CB c v).map λp=>((v:Int),p,())
theorem nR{d:ALC}{c:ALK}(hd:AL d)(hc:ED d c)(hb:Uj c):Lz d (c,())=some (0,d,M d 0 (C0 c),[],g0 c d.length):=by
 have iQ:=hd.1;have hgl:∀n,n<=d.length->(g0 c n).length<=4096*n:=λn hn=>VY λv hv=>by
  obtain⟨e0,cW,cX⟩:=QB hd (show v<d.length by omega);have:=UK (hc.2 v (by omega)) (by omega);rw[AJa];omega
 unfold Lz;rw[AJg ⟨rfl,by omega,by omega,by omega,by omega⟩,AIZ];have:KT d (c,()) (d.length:Int) 0 d (List.replicate d.length []) []=some (d,M d 0 (C0 c),g0 c d.length):=by
  unfold KT;have:=AU (f:=DI d (c,()) (d.length:Int)) (λv=>((v:Int),d,B8 (λu=>GL (W d u+0) (C0 c u)) [] d.length v,g0 c v)) (t:=(d,M d 0 (C0 c),g0 c d.length)) d.length (λv hv=>?_) ?_
  ·rw[<-Lv (λu=>GL (W d u+0) (C0 c u))];exact this
  ·unfold DI Iz;obtain⟨e0,cW,cX⟩:=QB hd hv;have hp:=hc.2 v hv;have e1:(c.getD v ALT.zero)=CB c v:=rfl;have e2:(d.getD v Ad.zero).2.1=(W d v:Int):=e0;simp only[AIZ,e1,e2];rw[Dl hv,AJe,AJg (Bf hv),AJg (show Ty.row .bool=true/\(0:Int)<=(W d v:Int)/\(W d v:Int)<=(W d v:Int)/\((1:Nat):Int)*(W d v:Int)<=281474976710656/\(W d v:Int)<=9223372036854775807 from⟨rfl,by omega,by omega,by omega,by omega⟩),Ge,AJg (Bf hv),AJg (Bf (by rw[hc.1];exact hv))];have hrl:(CB c v).length<=4096:=by have:=UK hp (by omega);omega
   have FA:KS (v:Int) d (d.length:Int) (c,()) (CB c v) ((CB c v).length:Int) 0 d ((B8 (λu=>GL (W d u+0) (C0 c u)) [] d.length v).set v (List.replicate (W d v) false)) (g0 c v)=some (d,B8 (λu=>GL (W d u+0) (C0 c u)) [] d.length (v+1),g0 c (v+1)):=by
    unfold KS;have:=AU (f:=DG (v:Int) d (d.length:Int) (c,()) (CB c v) ((CB c v).length:Int)) (λi=>((i:Int),d,(B8 (λu=>GL (W d u+0) (C0 c u)) [] d.length v).set v (GL (W d v) λp=>((CB c v).take i).contains (p:Int)),g0 c v++((CB c v).take i).map λp=>((v:Int),p,()))) (t:=(d,B8 (λu=>GL (W d u+0) (C0 c u)) [] d.length (v+1),g0 c (v+1))) (CB c v).length (λi hi=>?_) ?_
    ·have e:List.replicate (W d v) false=GL (W d v) λp=>((CB c v).take 0).contains (p:Int):=by
       rw[<-gK];exact T1 λp _=>by simp
     rw[e,show g0 c v=g0 c v++((CB c v).take 0).map λp=>((v:Int),p,()) by simp];exact this
    ·unfold DG Iy;have hpi:=hp i hi;obtain⟨p,hpp⟩:∃p:Nat,Ip (CB c v) i=(p:Int):=⟨(Ip (CB c v) i).toNat,by have:=hpi.1;omega⟩;have qM:p<W d v:=by have:=hpi.2.1;omega
     have e3:(CB c v).getD i ALP.zero=(p:Int):=hpp;have X6:=AeW hp hi;rw[hpp]at X6;simp only[AIZ,e3];rw[Dl hi,AJe,AJg (Bf hi),cb hd hv (r:=λp=>((CB c v).take i).contains (p:Int)) (by rw[AI7,Ge]) (by simp[List.getD,Ge,hv]) (by have:=hgl v (by omega);rw[AI2,AJa,AJj];omega),AJg ⟨by have:=hpi.1;omega,qM,X6⟩,AIY,Bc hi (by omega),AKJ,gL];have e5:(GL (W d v) λq=>((CB c v).take i).contains (q:Int)||q==p)=GL (W d v) λq=>((CB c v).take (i+1)).contains (q:Int):=T1 λq _=>by rw[Yq hi,hpp,nE]
     rw[e5,AW (z:=(0:Int)) hi,AJJ,<-AI6,show(CB c v).getD i 0=(p:Int)from hpp];rfl
    ·unfold DG Iy;simp only;rw[D1,AJd,AI8 (AI4 _)];have e6:(B8 (λu=>GL (W d u+0) (C0 c u)) [] d.length v).set v (GL (W d v) λp=>(CB c v).contains (p:Int))=B8 (λu=>GL (W d u+0) (C0 c u)) [] d.length (v+1):=O4 _ _;have e7:g0 c v++(CB c v).map (λp=>((v:Int),p,()))=g0 c (v+1):=by
      unfold g0;rw[AKf,AKb];simp
     rw[e6,e7]
   rw[FA,AIY,Bc hv (by omega)]
  ·unfold DI Iz;simp only;rw[D1,AJd];have:B8 (λu=>GL (W d u+0) (C0 c u)) [] d.length d.length=M d 0 (C0 c):=by
    unfold B8 M;exact AJQ λv hv=>by rw[AJg (List.mem_range.1 hv)]
   rw[this]
 rw[this];rfl
theorem sK{d:ALC}{c:ALK}(hd:AL d)(hc:ED d c){v p:Nat}(h:C0 c v p=true):v<d.length/\1<=p/\p<W d v:=by
 have hm:(p:Int)∈CB c v:=by simpa [C0]using h
 have hv:v<d.length:=by
  rw[<-hc.1];rcases AI9 v c.length with h1 |h1
  ·exact h1
  ·unfold CB at hm;rw[List.getD,AJC h1]at hm;cases hm
 obtain⟨e0,cW,cX⟩:=QB hd hv;have:=dN (hc.2 v hv) hm;exact⟨hv,by omega,by omega⟩
theorem AeS{d:ALC}{c:ALK}(hd:AL d)(hc:ED d c):CI d (C0 c) (C0 c,g0 c d.length)/\po (C0 c,g0 c d.length):=by
 refine⟨⟨λ_ _ h=>h,λv p h=>sK hd hc h,λx hx=>?_,?_⟩,λv p h=>?_⟩
 ·obtain⟨v,hv,hx⟩:=List.mem_flatMap.1 hx;obtain⟨q,hq,rfl⟩:=List.mem_map.1 hx;have hq1:=dN (hc.2 v (List.mem_range.1 hv)) hq;refine⟨v,q.toNat,by rw[show((q.toNat:Nat):Int)=q by omega],?_⟩
  simp only[C0];rw[show((q.toNat:Nat):Int)=q by omega];simpa using hq
 ·have h1:=AgS hd (C0 c);have h2:(g0 c d.length).length<=4096*d.length:=VY λv hv=>by
   obtain⟨e0,cW,cX⟩:=QB hd hv;have:=UK (hc.2 v hv) (by omega);rw[AJa];omega
  have:=hd.1;simp only;omega
 ·have:=sK hd hc h;exact List.mem_flatMap.2 ⟨v,List.mem_range.2 this.1,List.mem_map.2 ⟨(p:Int),by simpa [C0]using h,rfl⟩⟩
def Yh(x y:Nat):Nat->Nat
 |0=>0
 |1=>x
 |_=>x+y
def kD{A:Type}(x y:AL7 A):Nat->AL7 A
 |0=>[]
 |1=>x
 |_=>x++y
theorem ml{a b:ALD}(h0:1<=a.length)(ha:a.length<=100000000)(hb:b.length<=100000000):HU [a,b]=some (a++b):=by
 unfold HU;have af:([a,b]:ALO).length=2:=rfl;have h1:HW [a,b] (([a,b]:ALO).length:Int) 0 0=some (((a.length+b.length:Nat):Int)):=by
  unfold HW;have:=AU (f:=CM [a,b] (([a,b]:ALO).length:Int)) (λk=>((Yh a.length b.length k:Int),(k:Int))) (t:=(((a.length+b.length:Nat):Int))) 2 (λk hk=>?_) ?_
  ·exact this
  ·unfold CM FX HV;simp only[AIZ];rw[af,Dl hk,AJe,AJg (Bf hk)]
   match k,hk with
   |0,_ =>
    simp only[AJR];rw[show wI ((Yh a.length b.length 0:Int)+(a.length:Int))=(a.length:Int)from A4 (by simp[Yh]) (by omega),AI1 (by omega),AJd];rfl
   |1,_ =>
    simp only[List.getD_cons_succ,AJR];rw[show wI ((Yh a.length b.length 1:Int)+(b.length:Int))=((a.length+b.length:Nat):Int)from A4 (by simp[Yh]) (by omega),AI1 (by omega),AJd];rfl
  ·unfold CM FX;simp only;rw[af,D1,AJd];rfl
 rw[h1,AIY,AI1 (by omega),AJd,show wI (((a.length+b.length:Nat):Int)-0)=((a.length+b.length:Nat):Int)from A4 (by omega) (by omega),show decide (((a.length+b.length:Nat):Int)>0)=true from AI3 (by omega),AJe,AJg ⟨by omega,by omega⟩,AJg ⟨by omega,by omega⟩,AKS];have h2:HX [a,b] (([a,b]:ALO).length:Int) 0 []=some (a++b):=by
  unfold HX;have:=AU (f:=CN [a,b] (([a,b]:ALO).length:Int)) (λk=>((k:Int),kD a b k)) (t:=a++b) 2 (λk hk=>?_) ?_
  ·exact this
  ·unfold CN FY;simp only[AIZ];rw[af,Dl hk,AJe,AJg (Bf hk)]
   match k,hk with
   |0,_ =>
    simp only[AJR];rw[AJg (by simp[kD];omega),show wI (((0:Nat):Int)+1)=((1:Nat):Int)from rfl];rfl
   |1,_ =>
    simp only[List.getD_cons_succ,AJR];rw[AJg (by simp[kD];omega),show wI (((1:Nat):Int)+1)=((2:Nat):Int)from rfl];rfl
  ·unfold CN FY;simp only;rw[af,D1,AJd];rfl
 rw[h2];rfl
theorem mj{a b:ALx}(h0:1<=a.length)(ha:a.length<=100000000)(hb:b.length<=100000000):FG [a,b]=some (a++b):=by
 unfold FG;have af:([a,b]:ALK).length=2:=rfl;have h1:F0 [a,b] (([a,b]:ALK).length:Int) 0 0=some (((a.length+b.length:Nat):Int)):=by
  unfold F0;have:=AU (f:=Cb [a,b] (([a,b]:ALK).length:Int)) (λk=>((Yh a.length b.length k:Int),(k:Int))) (t:=(((a.length+b.length:Nat):Int))) 2 (λk hk=>?_) ?_
  ·exact this
  ·unfold Cb Ew FZ;simp only[AIZ];rw[af,Dl hk,AJe,AJg (Bf hk)]
   match k,hk with
   |0,_ =>
    simp only[AJR];rw[show wI ((Yh a.length b.length 0:Int)+(a.length:Int))=(a.length:Int)from A4 (by simp[Yh]) (by omega),AI1 (by omega),AJd];rfl
   |1,_ =>
    simp only[List.getD_cons_succ,AJR];rw[show wI ((Yh a.length b.length 1:Int)+(b.length:Int))=((a.length+b.length:Nat):Int)from A4 (by simp[Yh]) (by omega),AI1 (by omega),AJd];rfl
  ·unfold Cb Ew;simp only;rw[af,D1,AJd];rfl
 rw[h1,AIY,AI1 (by omega),AJd,show wI (((a.length+b.length:Nat):Int)-0)=((a.length+b.length:Nat):Int)from A4 (by omega) (by omega),show decide (((a.length+b.length:Nat):Int)>0)=true from AI3 (by omega),AJe,AJg ⟨by omega,by omega⟩,AJg ⟨by omega,by omega⟩,AKS];have h2:F3 [a,b] (([a,b]:ALK).length:Int) 0 []=some (a++b):=by
  unfold F3;have:=AU (f:=Cc [a,b] (([a,b]:ALK).length:Int)) (λk=>((k:Int),kD a b k)) (t:=a++b) 2 (λk hk=>?_) ?_
  ·exact this
  ·unfold Cc Ey;simp only[AIZ];rw[af,Dl hk,AJe,AJg (Bf hk)]
   match k,hk with
   |0,_ =>
    simp only[AJR];rw[AJg (by simp[kD];omega),show wI (((0:Nat):Int)+1)=((1:Nat):Int)from rfl];rfl
   |1,_ =>
    simp only[List.getD_cons_succ,AJR];rw[AJg (by simp[kD];omega),show wI (((1:Nat):Int)+1)=((2:Nat):Int)from rfl];rfl
  ·unfold Cc Ey;simp only;rw[af,D1,AJd];rfl
 rw[h2];rfl
abbrev NX:Type:=List (ALk×ALA)
def nk(v p:Nat):ALk:=((v:Int),(p:Int),())
def nx(o:NX)(v p:Nat):ALA:=Bg Aa ALV o (nk v p)
def lnk(o:NX)(k x:ALk):NX:=BV Aa ALV (BV Aa ALV o k (Bg Aa ALV o k)) k (Bg Aa ALV o k++[x])
theorem Xi{v p u q:Nat}:nk v p=nk u q↔v=u/\p=q:=by
 unfold nk;constructor
 ·intro h;injection h with h1 h2;injection h2 with h2 _;omega
 ·rintro⟨rfl,rfl⟩;rfl
theorem AdY(o:NX)(k x:ALk)(v p:Nat):nx (lnk o k x) v p=bif A7 Aa (nk v p) k then Bg Aa ALV o k++[x]else nx o v p:=by
 unfold nx lnk;rw[aZ db,aZ db];cases A7 Aa (nk v p) k<;>rfl
theorem V7{o:NX}{k x:ALk}{v p:Nat}{y:ALk}:y∈nx (lnk o k x) v p↔y∈nx o v p\/(nk v p=k/\y=x):=by
 rw[AdY];cases hk:A7 Aa (nk v p) k with
 |true =>
  have e:=(db _ _).1 hk;rw[AJe,AJ2,AJp];simp only[e,true_and];unfold nx;rw[e]
 |false =>
  have e:nk v p≠k:=λe=>by rw[(db _ _).2 e]at hk;cases hk
  simp[e]
theorem uB{o:NX}{k x:ALk}{v p N:Nat}(h:∀v p,(nx o v p).length<=N):(nx (lnk o k x) v p).length<=N+1:=by
 rw[AdY];cases hk:A7 Aa (nk v p) k with
 |true =>
  have e:=(db _ _).1 hk;have:=h v p;unfold nx at this;rw[e]at this;rw[AJe,AI2,AJi];omega
 |false=>rw[AJd];have:=h v p;omega
theorem Adz{o:NX}{a:Int}{b c:ALB}{g:Int}{i:ALC}{dd:AL7 (ALD×ALD×Unit)}{j:ALM}{l:ALA}{v p u q:Nat}(h:(nx o v p).length<=1000000) :
    DC a b c g i dd j o l (v:Int) (p:Int) (u:Int) (q:Int)=some (lnk o (nk v p) (nk u q)):=by
 unfold DC;have h':(Bg Aa ALV o ((v:Int),(p:Int),())).length<=1000000:=h;rw[AJg (by simp;omega),fw XO,AJe,XO,AJe];rfl
theorem AdA{o:NX}{a:Int}{b c:ALB}{g:Int}{i:ALC}{dd:AL7 (ALD×ALD×Unit)}{j:ALM}{l:ALA}{v p u q:Nat}(h:(nx o v p).length<=1000000) :
    DD a b c g i dd j o l (u:Int) (q:Int) (v:Int) (p:Int)=some (lnk o (nk v p) (nk u q)):=by
 unfold DD;have h':(Bg Aa ALV o ((v:Int),(p:Int),())).length<=1000000:=h;rw[AJg (by simp;omega),fw XO,AJe,XO,AJe];rfl
def QR(d:ALC)(h:Nat->Nat->Bool):Sg->Prop
 |.co _=>True
 |.va v l n=>xG d h v l/\xG d h v (l+n)
def SP(B1 B2:AL7 Bt)(h:Nat->Nat->Bool):Prop:=∀p,1<=p->p<B1.length->(Sd B1 h p=true->fY (S7 B2 p)=true->Sd B2 h p=true)/\(Sd B2 h p=true->fY (S7 B1 p)=true->Sd B1 h p=true)
def lQ(d:ALC)(B1 B2:AL7 Bt)(h:Nat->Nat->Bool):Prop:=(∀s∈Av B1++Av B2,QR d h s)/\SP B1 B2 h
inductive Xv (d:ALC) (B1 B2:List Bt) (p:Nat) (s:SC) (o:NX):SC->NX->Prop
 |one (v a:Nat):fst B1 p=true->fst B2 p=false->S7 B2 p=.va v a->v<d.length->1<=a->a<W d v->Xv d B1 B2 p s o (Ic d s v a) o
 |cH (v a:Nat):fst B2 p=true->fst B1 p=false->S7 B1 p=.va v a->v<d.length->1<=a->a<W d v->Xv d B1 B2 p s o (Ic d s v a) o
 |both (v a u b:Nat):fst B1 p=false->fst B2 p=false->S7 B1 p=.va v a->S7 B2 p=.va u b->v<d.length->u<d.length->Xv d B1 B2 p s o s (lnk (lnk o (nk v a) (nk u b)) (nk u b) (nk v a))
 |none:(fst B1 p=true/\fst B2 p=true\/(∃b,S7 B1 p=.co b/\fst B1 p=false)\/∃b,S7 B2 p=.co b/\fst B2 p=false)->Xv d B1 B2 p s o s o
theorem ApW{d:ALC}(hd:AL d){B1 B2:AL7 Bt}(h1:Bj d B1)(h2:Bj d B2)(hl:B1.length=B2.length){p:Nat}(hp:p<B1.length){s:SC}{o:NX}(hs:s.2.length<=1000000)(hn:∀v p,(nx o v p).length<=900000){a:Int}{dd:AL7 (ALD×ALD×Unit)} :
    ∃s' o',EG a (ah (Av B1)) (ah (Av B2)) (p:Int) d dd (M d 0 s.1) o s.2=some (d,M d 0 s'.1,o',s'.2)/\Xv d B1 B2 p s o s' o':=by
 unfold EG Iu QF;rw[dP,dP,AJg (Bf hp),AJg (Bf (by omega)),AIY];simp only[AIZ];rcases XX h1 hp with ⟨f1,e1⟩|⟨f1,⟨⟨b1,c1⟩,e1⟩|⟨v,x,c1,hv,cY,qS,e1⟩⟩<;>rcases XX h2 (show p<B2.length by omega)with ⟨f2,e2⟩|⟨f2,⟨⟨b2,c2⟩,e2⟩|⟨u,y,c2,hu,hy1,hy2,e2⟩⟩<;>rw[e1,e2]
 ·exact⟨s,o,rfl,.none (.inl ⟨f1,f2⟩)⟩
 ·exact⟨s,o,rfl,.none (.inr (.inr ⟨b2,c2,f2⟩))⟩
 ·refine⟨Ic d s u y,o,?_,.one u y f1 f2 c2 hu hy1 hy2⟩;show(Bi a (u:Int) (y:Int) d (M d 0 s.1) s.2).bind _=_;rw[TA hd hu s hs];rfl
 ·exact⟨s,o,rfl,.none (.inr (.inl ⟨b1,c1,f1⟩))⟩
 ·exact⟨s,o,rfl,.none (.inr (.inl ⟨b1,c1,f1⟩))⟩
 ·exact⟨s,o,rfl,.none (.inr (.inl ⟨b1,c1,f1⟩))⟩
 ·refine⟨Ic d s v x,o,?_,.cH v x f2 f1 c1 hv cY qS⟩;show(Bi a (v:Int) (x:Int) d (M d 0 s.1) s.2).bind _=_;rw[TA hd hv s hs];rfl
 ·exact⟨s,o,rfl,.none (.inr (.inr ⟨b2,c2,f2⟩))⟩
 ·refine⟨s,lnk (lnk o (nk v x) (nk u y)) (nk u y) (nk v x),?_,.both v x u y f1 f2 c1 c2 hv hu⟩;show(DC a _ _ _ d dd _ o _ (v:Int) (x:Int) (u:Int) (y:Int)).bind (λo=>(DD a _ _ _ d dd _ o _ (v:Int) (x:Int) (u:Int) (y:Int)).bind _)=_;rw[Adz (by have:=hn v x;omega),AIY,AdA (by have:=uB (k:=nk v x) (x:=nk u y) (v:=u) (p:=y) hn;omega),AIY]
def NJ(d:ALC)(h:Nat->Nat->Bool)(o:NX):Prop:=∀v p u q:Nat,nk u q∈nx o v p->h v p=true->xG d h u q
def NV(d:ALC)(o:NX):Prop:=∀v p x,x∈nx o v p->∃u q:Nat,x=nk u q/\u<d.length
def Wo(B1 B2:AL7 Bt)(f:Nat->Nat->Bool)(o:NX)(p:Nat):Prop :=
 (fst B1 p=true->fst B2 p=false->∀v a,S7 B2 p=.va v a->f v a=true)/\(fst B2 p=true->fst B1 p=false->∀v a,S7 B1 p=.va v a->f v a=true) /\
 (fst B1 p=false->fst B2 p=false->∀v a u b,S7 B1 p=.va v a->S7 B2 p=.va u b->nk u b∈nx o v a/\nk v a∈nx o u b)
theorem Wo.mono{B1 B2:AL7 Bt}{f f':Nat->Nat->Bool}{o o':NX}{p:Nat}(h:Wo B1 B2 f o p)(hf:Pz f f')(ho:∀v p x,x∈nx o v p->x∈nx o' v p):Wo B1 B2 f' o' p :=
 ⟨λa b v x c=>hf v x (h.1 a b v x c),λa b v x c=>hf v x (h.2.1 a b v x c),λa b v x u y c e=>⟨ho _ _ _ (h.2.2 a b v x u y c e).1,ho _ _ _ (h.2.2 a b v x u y c e).2⟩⟩
structure LI (d:ALC) (f0:Nat->Nat->Bool) (s:SC) (o:NX) (N:Nat):Prop where
 ci:CI d f0 s
 todo:po s
 nv:NV d o
 nl:∀v p,(nx o v p).length<=N
theorem Ahz{d:ALC}{B1 B2:AL7 Bt}{p:Nat}{s s':SC}{o o':NX}{f0:Nat->Nat->Bool}{N:Nat}(YN:1<=p)(hp:p<B1.length)(h:LI d f0 s o N)(st:Xv d B1 B2 p s o s' o') :
    LI d f0 s' o' (N+2)/\Pz s.1 s'.1/\(∀v p x,x∈nx o v p->x∈nx o' v p)/\Wo B1 B2 s'.1 o' p/\∀h,SP B1 B2 h->Pz s.1 h->NJ d h o->Pz s'.1 h/\NJ d h o':=by
 have ct1:∀{h:Nat->Nat->Bool},fst B1 p=true->Sd B1 h p=true:=λe=>by simp[Sd,e]
 have ct2:∀{h:Nat->Nat->Bool},fst B2 p=true->Sd B2 h p=true:=λe=>by simp[Sd,e]
 have no1:∀{h:Nat->Nat->Bool} {v a:Nat},fst B1 p=false->S7 B1 p=.va v a->Sd B1 h p=h v a:=λe c=>by simp[Sd,e,c,yp]
 have no2:∀{h:Nat->Nat->Bool} {v a:Nat},fst B2 p=false->S7 B2 p=.va v a->Sd B2 h p=h v a:=λe c=>by simp[Sd,e,c,yp]
 have nl2:∀v p,(nx o v p).length<=N+2:=λv p=>by have:=h.nl v p;omega
 cases st with
 |one v a f1 f2 c2 hv wE ha2 =>
  refine⟨⟨h.ci.cut hv,h.todo.cut,h.nv,nl2⟩,YC s v a,λ_ _ _ hx=>hx,⟨λ_ _ u b c=>?_,λe _=>(by rw[f2]at e;cases e),λe=>(by rw[f1]at e;cases e)⟩,λg hg hu hj=>⟨Zz hu λ_ _=>?_,hj⟩⟩
  ·rw[c2]at c;injection c with e1 e2;subst e1;subst e2;exact Zy s v a wE ha2
  ·have:=(hg p YN hp).1 (ct1 f1) (by rw[c2];rfl);rwa [no2 f2 c2]at this
 |cH v a f2 f1 c1 hv wE ha2 =>
  refine⟨⟨h.ci.cut hv,h.todo.cut,h.nv,nl2⟩,YC s v a,λ_ _ _ hx=>hx,⟨λe=>(by rw[f1]at e;cases e),λ_ _ u b c=>?_,λ_ e=>(by rw[f2]at e;cases e)⟩,λg hg hu hj=>⟨Zz hu λ_ _=>?_,hj⟩⟩
  ·rw[c1]at c;injection c with e1 e2;subst e1;subst e2;exact Zy s v a wE ha2
  ·have:=(hg p YN hp).2 (ct2 f2) (by rw[c1];rfl);rwa [no1 f1 c1]at this
 |both v a u b f1 f2 c1 c2 hv hu =>
  refine⟨⟨h.ci,h.todo,λw q x hx=>?_,λw q=>?_⟩,λ_ _ h=>h,λw q x hx=>V7.2 (.inl (V7.2 (.inl hx))),⟨λe=>(by rw[f1]at e;cases e),λe=>(by rw[f2]at e;cases e),λ_ _ v' a' u' b' e1 e2=>?_⟩,λg hg Ug hj=>⟨Ug,λw q w' q' hm hh=>?_⟩⟩
  ·rcases V7.1 hx with hx |⟨_,rfl⟩
   ·rcases V7.1 hx with hx |⟨_,rfl⟩
    ·exact h.nv w q x hx
    ·exact⟨u,b,rfl,hu⟩
   ·exact⟨v,a,rfl,hv⟩
  ·exact uB λw q=>uB h.nl
  ·rw[c1]at e1;injection e1 with q1 q2;subst q1;subst q2;rw[c2]at e2;injection e2 with q1 q2;subst q1;subst q2;exact⟨V7.2 (.inl (V7.2 (.inr ⟨rfl,rfl⟩))),V7.2 (.inr ⟨rfl,rfl⟩)⟩
  ·have hs:=hg p YN hp;rw[no1 f1 c1,no2 f2 c2]at hs;rcases V7.1 hm with hm |⟨e1,e2⟩
   ·rcases V7.1 hm with hm |⟨e1,e2⟩
    ·exact hj w q w' q' hm hh
    ·obtain⟨rfl,rfl⟩:=Xi.1 e1;obtain⟨rfl,rfl⟩:=Xi.1 e2;exact λ_ _=>hs.1 hh (by rw[c2];rfl)
   ·obtain⟨rfl,rfl⟩:=Xi.1 e1;obtain⟨rfl,rfl⟩:=Xi.1 e2;exact λ_ _=>hs.2 hh (by rw[c1];rfl)
 |none hc =>
  refine⟨⟨h.ci,h.todo,h.nv,nl2⟩,λ_ _ h=>h,λ_ _ _ hx=>hx,⟨λe1 e2 v a c=>?_,λe1 e2 v a c=>?_,λe1 e2 v a u b c c'=>?_⟩,λg _ hu hj=>⟨hu,hj⟩⟩
  ·rcases hc with ⟨_,q⟩|⟨_,_,q⟩|⟨_,q,_⟩
   ·rw[q]at e2;cases e2
   ·rw[q]at e1;cases e1
   ·rw[q]at c;cases c
  ·rcases hc with ⟨q,_⟩|⟨_,q,_⟩|⟨_,_,q⟩
   ·rw[q]at e2;cases e2
   ·rw[q]at c;cases c
   ·rw[q]at e1;cases e1
  ·rcases hc with ⟨q,_⟩|⟨_,q,_⟩|⟨_,q,_⟩
   ·rw[q]at e1;cases e1
   ·rw[q]at c;cases c
   ·rw[q]at c';cases c'
noncomputable def Vp(d:ALC)(s:SC):Sg->SC
 |.co _=>s
 |.va v l n=>Ic d (Ic d s v l) v (l+n)
theorem fv{d:ALC}{f0:Nat->Nat->Bool}:∀(fs:AL7 Sg) (s:SC),(∀x∈fs,Uo d x)->CI d f0 s->po s->CI d f0 (fs.foldl (Vp d) s)/\po (fs.foldl (Vp d) s)/\Pz s.1 (fs.foldl (Vp d) s).1/\(∀x∈fs,QR d (fs.foldl (Vp d) s).1 x) /\
    ∀h,(∀x∈fs,QR d h x)->Pz s.1 h->Pz (fs.foldl (Vp d) s).1 h
 |[],s,_,h1,h2=>⟨h1,h2,λ_ _ h=>h,λx hx=>(by cases hx),λ_ _ h=>h⟩
 |x::fs,s,FA,h1,h2=>by
  have key:CI d f0 (Vp d s x)/\po (Vp d s x)/\Pz s.1 (Vp d s x).1/\QR d (Vp d s x).1 x/\∀h,QR d h x->Pz s.1 h->Pz (Vp d s x).1 h:=by
   cases x with
   |co b=>exact⟨h1,h2,λ_ _ h=>h,trivial,λ_ _ h=>h⟩
   |va v l n =>
    have hv:=(FA _ AJt).1;exact⟨(h1.cut hv).cut hv,h2.cut.cut,λu q h=>YC _ v (l+n) u q (YC s v l u q h),⟨(Zy s v l).mono (YC _ v (l+n)),Zy _ v (l+n)⟩,λh hh hs=>Zz (Zz hs hh.1) hh.2⟩
  obtain⟨k1,k2,k3,k4,k5⟩:=key;obtain⟨i1,i2,i3,i4,i5⟩:=fv fs (Vp d s x) (λy hy=>FA y (AJq _ hy)) k1 k2;refine⟨i1,i2,λu q h=>i3 u q (k3 u q h),λy hy=>?_,λh hh hs=>i5 h (λy hy=>hh y (AJq _ hy)) (k5 h (hh x AJt) hs)⟩;rcases List.mem_cons.1 hy with rfl |hy
  ·cases y with
   |co b=>trivial
   |va v l n=>exact⟨k4.1.mono i3,k4.2.mono i3⟩
  ·exact i4 y hy
theorem Ady{d:ALC}(hd:AL d){fs:AL7 Sg}{i:Nat}(hi:i<fs.length)(FA:Uo d (fs.getD i (.co []))){s:SC}(h1:s.2.length<=900000){a o1:Int}{x y:ALD}{dd:AL7 (ALD×ALD×Unit)}{o:NX} :
    FD a x y o1 (i:Int) d dd (M d 0 s.1) o (fV fs) s.2=some (d,M d 0 (Vp d s (fs.getD i (.co []))).1,(Vp d s (fs.getD i (.co []))).2):=by
 unfold FD;simp only[AIZ,fz hi];rw[B5,AJg (Bf hi)];cases hs:fs.getD i (.co [])with
 |co b=>rfl
 |va v l n =>
  rw[hs]at FA;obtain⟨hv,hn,hw⟩:=FA;obtain⟨e0,cW,cX⟩:=QB hd hv;have Ug:(Ic d s v l).2.length<=s.2.length+1:=by unfold Ic;split<;>simp
  rw[show decide ((Hn (.va v l n)).1>=0)=true from AI3 (show(v:Int)>=0 by omega),AJe];have e1:Bi a (Hn (.va v l n)).1 (Hn (.va v l n)).2.1 d (M d 0 s.1) s.2=some (d,M d 0 (Ic d s v l).1,(Ic d s v l).2):=TA hd hv s (by omega);have e2:wI ((Hn (.va v l n)).2.1+(Hn (.va v l n)).2.2.1)=((l+n:Nat):Int):=A4 (show(l:Int)+(n:Int)=_ by omega) (by omega);have e3:Bi a (Hn (.va v l n)).1 ((l+n:Nat):Int) d (M d 0 (Ic d s v l).1) (Ic d s v l).2=some (d,M d 0 (Ic d (Ic d s v l) v (l+n)).1,(Ic d (Ic d s v l) v (l+n)).2):=TA hd hv _ (by omega);rw[e1,AIY,e2,e3];rfl
theorem Ahq{d:ALC}(hd:AL d){B1 B2:AL7 Bt}(h1:Bj d B1)(h2:Bj d B2)(hl:B1.length=B2.length){f0:Nat->Nat->Bool}{s:SC}{o:NX}{N:Nat}(hI:LI d f0 s o N)(hN:N<=800000){a:Int}{dd:AL7 (ALD×ALD×Unit)} :
    ∃s' o',IX a (fN B1) (fN B2) d dd (M d 0 s.1) o s.2=some (d,dd,M d 0 s'.1,o',s'.2)/\LI d f0 s' o' (N+8192)/\Pz s.1 s'.1/\(∀v p x,x∈nx o v p->x∈nx o' v p)/\(∀x∈Av B1++Av B2,QR d s'.1 x)/\(∀p,1<=p->p<B1.length->Wo B1 B2 s'.1 o' p) /\
     ∀h,lQ d B1 B2 h->Pz s.1 h->NJ d h o->Pz s'.1 h/\NJ d h o':=by
 unfold IX;have uh:(fN B1).length<=4096/\(fN B2).length<=4096/\1<=(fN B1).length:=by
  unfold fN;rw[B5,B5];have a1:=CQ (C1 B1);have a2:=CQ (C1 B2);rw[Cm]at a1 a2;have:=h1.1;have:=h1.2.1;have:=h2.2.1;refine⟨by omega,by omega,?_⟩;rcases AJm (Av B1).length with h0 |h0
  ·have e:Av B1=[]:=AJT h0;have:=Cm B1;rw[e]at this;simp[A5]at this;omega
  ·omega
 rw[ml uh.2.2 (by omega) (by omega),AIY];have efs:fN B1++fN B2=fV (Av B1++Av B2):=(O3 _ _).symm;rw[efs];have qO:∀x∈Av B1++Av B2,Uo d x:=λx hx=>by
  rcases List.mem_append.1 hx with hx |hx
  ·exact(Xn h1 hx).1
  ·exact(Xn h2 hx).1
 have sC:(Av B1++Av B2).length<=8192:=by
  have:=uh.1;have:=uh.2.1;unfold fN at *;rw[B5]at *;rw[AI2];omega
 have af:Is a (fN B1) (fN B2) dd o (fV (Av B1++Av B2)) ((fV (Av B1++Av B2)).length:Int) 0 d (M d 0 s.1) s.2=some (d,M d 0 ((Av B1++Av B2).foldl (Vp d) s).1,((Av B1++Av B2).foldl (Vp d) s).2):=by
  unfold Is;generalize Av B1++Av B2=fs at *;rw[B5];have:=AU (f:=CS a (fN B1) (fN B2) dd o (fV fs) (fs.length:Int)) (λk=>((k:Int),d,M d 0 ((fs.take k).foldl (Vp d) s).1,((fs.take k).foldl (Vp d) s).2)) (t:=(d,M d 0 (fs.foldl (Vp d) s).1,(fs.foldl (Vp d) s).2)) fs.length (λk hk=>?_) ?_
  ·exact this
  ·unfold CS G0;simp only;have hci:=(fv (fs.take k) s (λx hx=>qO x (AKn hx)) hI.ci hI.todo).1;rw[Dl hk,AJe,Ady hd hk (qO _ (AE hk)) (by have:=hci.len;omega),AIY,Bc hk (by omega),AW (z:=.co []) hk,AKP];rfl
  ·unfold CS G0;simp only;rw[D1,AJd,AI8 (AI4 _)]
 rw[af,AIY,AeP hd h1,AIY,AeP hd h2,AIY];obtain⟨i1,i2,i3,i4,i5⟩:=fv (Av B1++Av B2) s qO hI.ci hI.todo;generalize (Av B1++Av B2).foldl (Vp d) s=s1 at *;have qG:Aw (HB a (ah (Av B1)) (ah (Av B2)) dd 1 d (M d 0 s1.1) o s1.2) λr=>∃s' o',r=(d,M d 0 s'.1,o',s'.2)/\LI d f0 s' o' (N+2*(B1.length-1))/\Pz s1.1 s'.1/\(∀v p x,x∈nx o v p->x∈nx o' v p)/\(∀p,1<=p->p<B1.length-1+1->Wo B1 B2 s'.1 o' p) /\
     ∀h,SP B1 B2 h->Pz s1.1 h->NJ d h o->Pz s'.1 h/\NJ d h o':=by
  unfold HB;have:=BL (f:=CJ a (ah (Av B1)) (ah (Av B2)) dd) (λk (x:SC×NX)=>(((k+1:Nat):Int),d,M d 0 x.1.1,x.2,x.1.2)) (B1.length-1)
   (λk x=>LI d f0 x.1 x.2 (N+2*k)/\Pz s1.1 x.1.1/\(∀v p y,y∈nx o v p->y∈nx x.2 v p)/\(∀p,1<=p->p<k+1->Wo B1 B2 x.1.1 x.2 p)/\∀h,SP B1 B2 h->Pz s1.1 h->NJ d h o->Pz x.1.1 h/\NJ d h x.2)
   (Q:=λr=>∃s' o',r=(d,M d 0 s'.1,o',s'.2)/\LI d f0 s' o' (N+2*(B1.length-1))/\Pz s1.1 s'.1/\(∀v p x,x∈nx o v p->x∈nx o' v p)/\(∀p,1<=p->p<B1.length-1+1->Wo B1 B2 s'.1 o' p)/\∀h,SP B1 B2 h->Pz s1.1 h->NJ d h o->Pz s'.1 h/\NJ d h o')
   (λk x hk hx=>?_) (λx hx=>?_) (s0:=(s1,o)) ⟨⟨i1,i2,hI.nv,λv p=>hI.nl v p⟩,λ_ _ h=>h,λ_ _ _ h=>h,λp h1 h2=>by omega,λh _ hu hj=>⟨hu,hj⟩⟩
  ·exact this
  ·obtain⟨j1,j2,j3,j4,j5⟩:=hx;have hb:=h1.2.1;unfold CJ FQ;simp only;obtain⟨s',o',e1,st⟩:=ApW hd h1 h2 hl (show k+1<B1.length by omega) (s:=x.1) (o:=x.2) (by have:=j1.ci.len;omega) (λv p=>by have:=j1.nl v p;omega) (a:=a) (dd:=dd);obtain⟨k1,k2,k3,k4,k5⟩:=Ahz (by omega) (show k+1<B1.length by omega) j1 st;rw[dP,Dl (show k+1<B1.length by omega),AJe,e1,AIY,A4 (x:=((k+1:Nat):Int)+1) (n:=k+1+1) (by omega) (by omega)];refine Aw.mk ⟨(s',o'),rfl,k1,λu q h=>k2 u q (j2 u q h),λv p y hy=>k3 v p y (j3 v p y hy),λp YN b7=>?_,λh hs hu hj=>?_⟩
   ·rcases AI9 p (k+1)with Bh |ae
    ·exact(j4 p YN Bh).mono k2 k3
    ·rw[show p=k+1 by omega];exact k4
   ·obtain⟨q1,q2⟩:=j5 h hs hu hj;exact k5 h hs q1 q2
  ·unfold CJ FQ;simp only;have:=h1.1;rw[dP,show B1.length-1+1=B1.length by omega,D1,AJd];refine Aw.mk ⟨x.1,x.2,rfl,hx.1,hx.2.1,hx.2.2.1,?_,hx.2.2.2.2⟩;have:=hx.2.2.2.1;rwa [show B1.length-1+1=B1.length by omega]at this
 obtain⟨r,hr,s',o',rfl,j1,j2,j3,j4,j5⟩:=qG;rw[hr,AIY];have hb:=h1.2.1;have dC:=h1.1;refine⟨s',o',rfl,⟨j1.ci,j1.todo,j1.nv,λv p=>by have:=j1.nl v p;omega⟩,λu q h=>j2 u q (i3 u q h),j3,λx hx=>?_,λp YN b7=>j4 p YN (by omega),λh hs hu hj=>j5 h hs.2 (i5 h hs.1 hu) hj⟩;cases x with
 |co b=>trivial
 |va v l n=>exact⟨(i4 _ hx).1.mono j2,(i4 _ hx).2.mono j2⟩
abbrev vx:Type:=ALD×ALD×Unit
abbrev AhX:vx:=([],[],())
noncomputable def MZ(d:ALC)(l:ALF)(i:Nat):vx:=((F5 d (lS l i)).2,(F5 d (lT l i)).2,())
theorem Yf{d:ALC}{l:ALF}(hd:AL d)(hl:∀x∈l,Uk x)(hp:RD d l):Aw (Q1 d l) λr=>(r.1=true/\Hb d l/\r.2=(List.range l.length).map (MZ d l))\/(r.1=false/\¬Hb d l):=by
 unfold Q1;have hlen:=hp.1;rw[AJg ⟨rfl,by omega,by omega,by omega,by omega⟩,AIZ];refine Aw.bind (P:=λt=>(∃x,t=.inl x/\¬Hb d l)\/(t=.inr ((List.range l.length).map (MZ d l))/\Hb d l)) ?_ λt ht=>?_
 ·unfold UX;have z0:∀n,B8 (MZ d l) (AhX) n 0=List.replicate n (([]:ALD),([]:ALD),()):=λn=>Lv _ _ _;refine BW (λm (x:Int×AL7 vx)=>∃k:Nat,k<=l.length/\m=l.length-k/\x=((k:Int),B8 (MZ d l) (AhX) l.length k)/\∀i,i<k->lO d l i) (λm x hI=>?_) l.length _ ⟨0,AJU _,rfl,by rw[z0];rfl,λi hi=>by omega⟩;obtain⟨k,hk,rfl,rfl,h3⟩:=hI;unfold N3 Sq QF;simp only;rcases AI9 k l.length with h |h
  ·have hB:=hl _ (AE (z :=Ag.zero) h);have qF:=hp.2 k h;obtain⟨ws,hw⟩:=Wk qF.2.2.1;obtain⟨iE,iX⟩:=Wk (show 0<=Im d (lT l k) by rw[qF.2.2.2];exact qF.2.2.1);have e1:HD d (l.getD k Ag.zero).2.2.1=some (F5 d (lS l k)):=Xc hd hB.1 hw;have e2:HD d (l.getD k Ag.zero).2.2.2.1=some (F5 d (lT l k)):=Xc hd hB.2 iX;rw[Dl h,AJe,AJg (Bf h),AIZ,e1,AIY,e2,AIY];cases hc:(!(F5 d (lS l k)).1||!(F5 d (lT l k)).1)with
   |true =>
    refine Aw.mk (.inl ⟨_,rfl,λh'=>?_⟩);have:=nZ.2 (h' k h);rw[hc]at this;cases this
   |false =>
    rw[AJd,Ge,AJg (Bf h),Bc h (by omega)];refine Aw.mk ⟨l.length-(k+1),by omega,k+1,h,rfl,?_,λi hi=>?_⟩
    ·rw[<-O4];rfl
    ·rcases AI9 i k with h' |h'
     ·exact h3 i h'
     ·rw[show i=k by omega];exact nZ.1 hc
  ·have:k=l.length:=by omega
   subst this;rw[D1,AJd];refine Aw.mk (.inr ⟨?_,h3⟩);congr 1;unfold B8;refine AJQ λi hi=>?_;rw[AJg (List.mem_range.1 hi)]
 ·rcases ht with ⟨x,rfl,h⟩|⟨rfl,h⟩
  ·exact Aw.mk (.inr ⟨rfl,h⟩)
  ·exact Aw.mk (.inl ⟨rfl,h,rfl⟩)
def b1(d:ALC)(l:ALF)(i:Nat):AL7 Bt:=gk d (lS l i)
def b2(d:ALC)(l:ALF)(i:Nat):AL7 Bt:=gk d (lT l i)
theorem UM{d:ALC}{l:ALF}(hd:AL d)(hl:∀x∈l,Uk x)(hp:RD d l)(hs:Hb d l){i:Nat}(hi:i<l.length) :
    Bj d (b1 d l i)/\Bj d (b2 d l i)/\(b1 d l i).length=(b2 d l i).length/\MZ d l i=(fN (b1 d l i),fN (b2 d l i),())/\(F5 d (lS l i))=(true,fN (b1 d l i))/\(F5 d (lT l i))=(true,fN (b2 d l i)):=by
 have hB:=hl _ (AE (z :=Ag.zero) hi);obtain⟨h1,h2⟩:=hs i hi;have qF:=hp.2 i hi;obtain⟨ws,hw⟩:=Wk qF.2.2.1;obtain⟨iE,iX⟩:=Wk (show 0<=Im d (lT l i) by rw[qF.2.2.2];exact qF.2.2.1);obtain⟨a1,a2⟩:=fD hd hB.1 h1;obtain⟨c1,c2⟩:=fD hd hB.2 h2;have t1:=(gY (t:=lS l i) hd hB.1 hw _ (AI4 _) ((lS l i).length-1) (by have:=hw.1;omega)).2;have t2:=(gY (t:=lT l i) hd hB.2 iX _ (AI4 _) ((lT l i).length-1) (by have:=iX.1;omega)).2;have e:=qF.2.2.2;rw[Xp hw,Xp iX]at e;refine⟨a1.1,c1.1,?_,?_,Prod.ext h1 a2,Prod.ext h2 c2⟩
 ·have e1:((b1 d l i).length:Int)=ws.getD ((lS l i).length-1) 0:=t1;have e2:((b2 d l i).length:Int)=iE.getD ((lT l i).length-1) 0:=t2;omega
 ·unfold MZ;rw[show(F5 d (lS l i)).2=fN (b1 d l i)from a2,show(F5 d (lT l i)).2=fN (b2 d l i)from c2]
def L0(d:ALC)(l:ALF)(h:Nat->Nat->Bool):Prop:=∀i,i<l.length->lQ d (b1 d l i) (b2 d l i) h
structure dX (d:ALC) (l:ALF) (c:ALK) (f:Nat->Nat->Bool):Prop where
 le:Pz (C0 c) f
 ai:∀v p,f v p=true->v<d.length/\1<=p/\p<W d v
 cl:L0 d l f
 min:∀h,L0 d l h->Pz (C0 c) h->Pz f h
theorem dX.unique{d:ALC}{l:ALF}{c:ALK}{f g:Nat->Nat->Bool}(hf:dX d l c f)(hg:dX d l c g):f=g:=by
 funext v p
 rw[Bool.eq_iff_iff];exact⟨hf.min g hg.cl hg.le v p,hg.min f hf.cl hf.le v p⟩
theorem AhN{d:ALC}{B1 B2:AL7 Bt}(h1:Bj d B1)(h2:Bj d B2)(hl:B1.length=B2.length){f:Nat->Nat->Bool}{o:NX}(he:∀x∈Av B1++Av B2,QR d f x)(hp:∀p,1<=p->p<B1.length->Wo B1 B2 f o p)
    (hc:∀v p u q:Nat,f v p=true->nk u q∈nx o v p->xG d f u q):lQ d B1 B2 f:=by
 have vac:∀{b:Bt},fY b=true->∃v a,b=.va v a:=λ{b} h=>by
  cases b with
  |co _=>cases h
  |va v a=>exact⟨v,a,rfl⟩
 refine⟨he,λp YN b7=>⟨λbZ hva=>?_,λbZ hva=>?_⟩⟩
 ·obtain⟨u,b,e2⟩:=vac hva;unfold Sd;cases f2:fst B2 p with
  |true=>rfl
  |false =>
   rw[AKm,e2];show f u b=true;have hb:1<=b/\b<W d u:=by
    rcases XX h2 (show p<B2.length by omega)with ⟨q,_⟩|⟨_,⟨⟨_,q⟩,_⟩|⟨v,a,q,_,q1,q2,_⟩⟩
    ·rw[f2]at q;cases q
    ·rw[e2]at q;cases q
    ·rw[e2]at q;injection q with q3 q4;subst q3;subst q4;exact⟨q1,q2⟩
   cases f1:fst B1 p with
   |true=>exact(hp p YN b7).1 f1 f2 u b e2
   |false =>
    unfold Sd at bZ;rw[f1,AKm]at bZ;cases e1:S7 B1 p with
    |co c=>rw[e1]at bZ;cases bZ
    |va v a =>
     rw[e1]at bZ;exact hc v a u b bZ ((hp p YN b7).2.2 f1 f2 v a u b e1 e2).1 hb.1 hb.2
 ·obtain⟨u,b,e1⟩:=vac hva;unfold Sd;cases f1:fst B1 p with
  |true=>rfl
  |false =>
   rw[AKm,e1];show f u b=true;have hb:1<=b/\b<W d u:=by
    rcases XX h1 b7 with ⟨q,_⟩|⟨_,⟨⟨_,q⟩,_⟩|⟨v,a,q,_,q1,q2,_⟩⟩
    ·rw[f1]at q;cases q
    ·rw[e1]at q;cases q
    ·rw[e1]at q;injection q with q3 q4;subst q3;subst q4;exact⟨q1,q2⟩
   cases f2:fst B2 p with
   |true=>exact(hp p YN b7).2.1 f2 f1 u b e1
   |false =>
    unfold Sd at bZ;rw[f2,AKm]at bZ;cases e2:S7 B2 p with
    |co c=>rw[e2]at bZ;cases bZ
    |va v a =>
     rw[e2]at bZ;exact hc v a u b bZ ((hp p YN b7).2.2 f1 f2 u b v a e1 e2).2 hb.1 hb.2
noncomputable def QU(d:ALC)(s:SC)(w:ALA):SC:=w.foldl (λs x=>Ic d s x.1.toNat x.2.1.toNat) s
theorem x9{d:ALC}{s:SC}{v p:Nat}(hv:v<d.length):(∀x∈s.2,x∈(Ic d s v p).2)/\(∀u q,(Ic d s v p).1 u q=true->s.1 u q=true\/nk u q∈(Ic d s v p).2)/\(Ic d s v p).2.length+free d (Ic d s v p).1<=s.2.length+free d s.1:=by
 unfold Ic;split
 ·rename_i hc;refine⟨λx hx=>AJw _ hx,λu q h=>?_,?_⟩
  ·rcases EH.1 h with h |⟨rfl,rfl⟩
   ·exact .inl h
   ·exact .inr (AJx _ (List.mem_singleton.2 rfl))
  ·have:=aL hv hc.2.1 hc.2.2;simp only[AI2,AJi];omega
 ·exact⟨λx h=>h,λu q h=>.inl h,AI4 _⟩
theorem fl{d:ALC}{f0:Nat->Nat->Bool}:∀(w:ALA) (s:SC),(∀x∈w,∃u q:Nat,x=nk u q/\u<d.length)->CI d f0 s->CI d f0 (QU d s w)/\Pz s.1 (QU d s w).1/\(∀u q,nk u q∈w->xG d (QU d s w).1 u q) /\
    (∀x∈s.2,x∈(QU d s w).2)/\(∀u q,(QU d s w).1 u q=true->s.1 u q=true\/nk u q∈(QU d s w).2)/\(QU d s w).2.length+free d (QU d s w).1<=s.2.length+free d s.1/\∀h,(∀u q,nk u q∈w->xG d h u q)->Pz s.1 h->Pz (QU d s w).1 h
 |[],s,_,h1=>⟨h1,λ_ _ h=>h,λ_ _ h=>(by cases h),λ_ h=>h,λ_ _ h=>.inl h,AI4 _,λ_ _ h=>h⟩
 |x::w,s,hv,h1=>by
  obtain⟨u,q,rfl,hu⟩:=hv x AJt;have e:QU d s (nk u q::w)=QU d (Ic d s u q) w:=by simp[QU,nk]
  rw[e];obtain⟨k1,k2,k3⟩:=x9 (s:=s) (p:=q) hu;obtain⟨i1,i2,i3,i4,i5,i6,i7⟩:=fl w (Ic d s u q) (λy hy=>hv y (AJq _ hy)) (h1.cut hu);refine⟨i1,λa b h=>i2 a b (YC s u q a b h),λa b h=>?_,λy hy=>i4 y (k1 y hy),λa b h=>?_,AJs i6 k3,λh hh hs=>i7 h (λa b hm=>hh a b (AJq _ hm)) (Zz hs (hh u q AJt))⟩
  ·rcases List.mem_cons.1 h with h |h
   ·obtain⟨rfl,rfl⟩:=Xi.1 h;exact(Zy s a b).mono i2
   ·exact i3 a b h
  ·rcases i5 a b h with h |h
   ·rcases k2 a b h with h |h
    ·exact .inl h
    ·exact .inr (i4 _ h)
   ·exact .inr h
theorem xW{d:ALC}(hd:AL d){f0:Nat->Nat->Bool}{w:ALA}{s:SC}(hv:∀x∈w,∃u q:Nat,x=nk u q/\u<d.length)(hw:w.length<=1000000)(hs:CI d f0 s){a:Int}{o:NX} :
    EE a o w (w.length:Int) 0 d (M d 0 s.1) s.2=some (d,M d 0 (QU d s w).1,(QU d s w).2):=by
 unfold EE;have:=AU (f:=CF a o w (w.length:Int)) (λk=>((k:Int),d,M d 0 (QU d s (w.take k)).1,(QU d s (w.take k)).2)) (t:=(d,M d 0 (QU d s w).1,(QU d s w).2)) w.length (λk hk=>?_) ?_
 ·exact this
 ·unfold CF FL;obtain⟨u,q,e,hu⟩:=hv _ (AE (z :=Aa.zero) hk);have hci:=(fl (w.take k) s (λx hx=>hv x (AKn hx)) hs).1;simp only[AIZ,e];have e1:Bi a (nk u q).1 (nk u q).2.1 d (M d 0 (QU d s (w.take k)).1) (QU d s (w.take k)).2=some (d,M d 0 (Ic d (QU d s (w.take k)) u q).1,(Ic d (QU d s (w.take k)) u q).2):=TA hd hu _ (by have:=hci.len;omega);have e2:QU d s (w.take (k+1))=Ic d (QU d s (w.take k)) u q:=by
   rw[AW (z :=Aa.zero) hk,e];simp[QU,AKP,nk]
  rw[Dl hk,AJe,AJg (Bf hk),e1,AIY,Bc hk (by omega),e2]
 ·unfold CF FL;simp only;rw[D1,AJd,AI8 (AI4 _)]
theorem xX{d:ALC}(hd:AL d){f0:Nat->Nat->Bool}{s1:SC}{o:NX}{N:Nat}(hI:LI d f0 s1 o N)(hN:N<=1000000){a:Int} :
    Aw (Hw a o d (M d 0 s1.1) s1.2) λr=>∃s:SC,r=(d,M d 0 s.1,s.2)/\CI d f0 s/\Pz s1.1 s.1/\(∀v p u q:Nat,s.1 v p=true->nk u q∈nx o v p->xG d s.1 u q)/\∀h,Pz s1.1 h->NJ d h o->Pz s.1 h:=by
 unfold Hw;refine BW (λm (x:ALC×ALM×ALA)=>∃s:SC,x=(d,M d 0 s.1,s.2)/\m=s.2.length+free d s.1/\CI d f0 s/\Pz s1.1 s.1/\(∀v p,s.1 v p=true->nk v p∈s.2\/∀u q,nk u q∈nx o v p->xG d s.1 u q)/\∀h,Pz s1.1 h->NJ d h o->Pz s.1 h) (λm x hx=>?_) _ _ ⟨s1,rfl,rfl,hI.ci,λ_ _ h=>h,λv p h=>.inl (hI.todo v p h),λh hh _=>hh⟩;obtain⟨s,rfl,rfl,hci,Ug,SU,yr⟩:=hx;unfold FN Jt;simp only;rcases AJm s.2.length with h0 |h0
 ·have e0:s.2=[]:=AJT h0;rw[show decide ((s.2.length:Int)>0)=false from AI1 (by omega),AJd];refine Aw.mk ⟨s,rfl,hci,Ug,λv p u q h hm=>?_,yr⟩;rcases SU v p h with h |h
  ·rw[e0]at h;cases h
  ·exact h u q hm
 ·have hlen:=hci.len;obtain⟨v,p,ev,hvp⟩:=hci.BF _ (AE (z :=Aa.zero) (show s.2.length-1<s.2.length by omega));have ev:s.2.getD (s.2.length-1) Aa.zero=nk v p:=ev;rw[show decide ((s.2.length:Int)>0)=true from AI3 (by omega),AJe,A4 (x:=(s.2.length:Int)-1) (n:=s.2.length-1) (by omega) (by omega),AJg (Bf (by omega)),AJg ⟨by omega,by omega⟩];simp only[AIZ,ev];have nc:s.2=s.2.take (s.2.length-1)++[nk v p]:=by
   have:=AW (z :=Aa.zero) (l:=s.2) (k:=s.2.length-1) (by omega);rw[show s.2.length-1+1=s.2.length by omega,AI8 (AI4 _),ev]at this;exact this
  have Azh:CI d f0 (s.1,s.2.take (s.2.length-1)):=⟨hci.le,hci.ai,λx hx=>hci.BF x (AKn hx),by simp only[AJj];omega⟩;obtain⟨i1,i2,i3,i4,i5,i6,i7⟩:=fl (nx o v p) (s.1,s.2.take (s.2.length-1)) (λx hx=>hI.nv v p x hx) Azh;have e1:=xW hd (s:=(s.1,s.2.take (s.2.length-1))) (w:=nx o v p) (a:=a) (o:=o) (λx hx=>hI.nv v p x hx) (by have:=hI.nl v p;omega) Azh;have e1':EE a o (Bg Aa ALV o (nk v p)) ((Bg Aa ALV o (nk v p)).length:Int) 0 d (M d 0 s.1) (s.2.take (s.2.length-1))=_:=e1;rw[e1',AIY];simp only[AJj]at i6;refine Aw.mk ⟨(QU d (s.1,s.2.take (s.2.length-1)) (nx o v p)).2.length+free d (QU d (s.1,s.2.take (s.2.length-1)) (nx o v p)).1,by omega,_,rfl,rfl,i1,λu q h=>i2 u q (Ug u q h),λu q h=>?_,λh h1 h2=>?_⟩
  ·rcases i5 u q h with h |h
   ·rcases SU u q h with h |h
    ·rw[nc]at h;rcases List.mem_append.1 h with h |h
     ·exact .inl (i4 _ h)
     ·obtain⟨rfl,rfl⟩:=Xi.1 (List.mem_singleton.1 h);exact .inr λa b hm=>i3 a b hm
    ·exact .inr λa b hm=>(h a b hm).mono i2
   ·exact .inl h
  ·exact i7 h (λu q hm=>h2 v p u q hm (yr h h1 h2 v p hvp)) (yr h h1 h2)
theorem ny{d:ALC}{l:ALF}(hd:AL d)(hl:∀x∈l,Uk x):Aw (Kk d l) λr=>r=true↔RD d l:=by
 have hdd:=hd.1;unfold Kk;by_cases hlen:l.length<=60
 ·rw[AI1 (by omega:¬(l.length:Int)>60),AJd];refine Aw.bind (P:=λt=>(t=.inl ()/\¬∀i,i<l.length->al d l i)\/(t=.inr ()/\∀i,i<l.length->al d l i)) ?_ λt ht=>?_
  ·unfold OL;have:=BL (f:=Db d l (l.length:Int)) (λj (_:Unit)=>((if j=0 then 0 else nI l (j-1):Int),(j:Int))) l.length (λj _=>∀k,k<j->al d l k) (Q:=λt=>(t=.inl ()/\¬∀i,i<l.length->al d l i)\/(t=.inr ()/\∀i,i<l.length->al d l i)) (λj _ hj hJ=>?_) (λ_ hJ=>?_) (s0:=()) (λi h=>by omega)
   ·exact this
   ·unfold Db HE;have hB:=hl _ (AE (z :=Ag.zero) hj);have e1:HF d (l.getD j Ag.zero).2.2.1=some (Im d (lS l j)):=Xd hB.1 (by omega);have e2:HF d (l.getD j Ag.zero).2.2.2.1=some (Im d (lT l j)):=Xd hB.2 (by omega);have e3:(l.getD j Ag.zero).1=nI l j:=rfl;simp only;rw[Dl hj,AJe,AJg (Bf hj),AIZ,e1,AIY];obtain⟨c,hc⟩:∃c:Int,c=if j=0 then 0 else nI l (j-1):=⟨_,rfl⟩;have hcb:0<=c/\c<=1000000/\(0<j->c=nI l (j-1))/\(j=0->c=0):=by
     by_cases h0:j=0
     ·rw[AJg h0]at hc;exact⟨by omega,by omega,λh=>by omega,λ_=>hc⟩
     ·rw[AJh h0]at hc;have:=(hJ (j-1) (by omega)).1;exact⟨by omega,by omega,λ_=>hc,λh=>absurd h h0⟩
    rw[<-hc];obtain⟨b,dC,mV⟩:∃b,GH d c (Im d (lS l j)) l (l.length:Int) (j:Int) (l.getD j Ag.zero)=some b/\(b=false↔al d l j):=by
     unfold GH al;rw[e3,Mm,BO (x:=c+1) (by omega) (by omega),e2,AIY];by_cases h1:c+1<=nI l j/\nI l j<=1000000
     ·rw[AI3 h1];simp only[AJH,AJd];by_cases h2:Im d (lS l j)<0
      ·rw[AI3 h2];exact⟨true,rfl,λh=>by(cases h),λh=>by omega⟩
      ·rw[AI1 h2,AJd];refine⟨_,rfl,?_⟩;rw[AKG];exact⟨λh=>⟨by omega,λh'=>by have:=hcb.2.2.1 h';omega,by omega,h.symm⟩,λh=>h.2.2.2.symm⟩
     ·rw[AI1 h1];refine⟨true,rfl,λh=>by(cases h),λh=>?_⟩
      exfalso
      apply h1;rcases AJm j with h0 |h0
      ·have:=hcb.2.2.2 h0;omega
      ·have:=hcb.2.2.1 h0;have:=h.2.1 h0;omega
    rw[dC,AIY];cases b with
    |true=>exact Aw.mk (.inl ⟨rfl,λh=>by have:=mV.2 (h j hj);cases this⟩)
    |false =>
     rw[AJd,Bc hj (by omega)];refine Aw.mk ⟨(),rfl,λk hk=>?_⟩;rcases AI9 k j with h' |h'
     ·exact hJ k h'
     ·rw[show k=j by omega];exact mV.1 rfl
   ·unfold Db HE;simp only;rw[D1,AJd];exact Aw.mk (.inr ⟨rfl,hJ⟩)
  ·rcases ht with ⟨rfl,h⟩|⟨rfl,h⟩
   ·exact Aw.mk ⟨λh=>by(cases h),λh'=>absurd h'.2 h⟩
   ·exact Aw.mk ⟨λ_=>⟨hlen,h⟩,λ_=>rfl⟩
 ·rw[AI3 (by omega:(l.length:Int)>60)];exact Aw.mk ⟨λh=>by(cases h),λh=>absurd h.1 hlen⟩
theorem nj{d:ALC}{l:ALF}{c:ALK}(hc:Uj c)(hl:∀x∈l,Uk x):Aw (IW d l (c,())) λr =>
    (r=(false,[])/\¬(AL d/\ED d c/\RD d l/\Hb d l))\/(AL d/\ED d c/\RD d l/\Hb d l/\∃f,r=(true,AX d f)/\dX d l c f):=by
 unfold IW KM;obtain⟨r1,e1,q1⟩:=qW (d:=d) hc;rw[e1,AIY];cases r1 with
 |false=>exact Aw.mk (.inl ⟨rfl,λh=>by have:=q1.2 ⟨h.1,h.2.1⟩;cases this⟩)
 |true =>
  obtain⟨hd,iz⟩:=q1.1 rfl;obtain⟨r2,e2,q2⟩:=ny (d:=d) hd hl;simp only[AJH,AJd,e2,AIY];cases r2 with
  |false=>exact Aw.mk (.inl ⟨rfl,λh=>by have:=q2.2 h.2.2.1;cases this⟩)
  |true =>
   have YK:=q2.1 rfl;simp only[AJH,AJd];refine Aw.bind (Yf hd hl YK) λv hv=>?_;rcases hv with ⟨f1,hs,f2⟩|⟨f1,hs⟩
   ·rw[f1,f2];simp only[AJH,AJd];rw[nR hd iz hc,AIY];simp only;have hln:=YK.1;obtain⟨QP,OH⟩:=AeS hd iz;have n0:∀v p,nx ([]:NX) v p=[]:=λv p=>rfl;have qG:Aw (KN 0 (((List.range l.length).map (MZ d l)).length:Int) 0 d ((List.range l.length).map (MZ d l)) (M d 0 (C0 c)) [] (g0 c d.length)) λr=>∃s o,r=(d,M d 0 s.1,o,s.2)/\LI d (C0 c) s o (8192*l.length)/\(∀i,i<l.length->(∀x∈Av (b1 d l i)++Av (b2 d l i),QR d s.1 x)/\∀p,1<=p->p<(b1 d l i).length->Wo (b1 d l i) (b2 d l i) s.1 o p)/\∀h,L0 d l h->Pz (C0 c) h->Pz s.1 h/\NJ d h o:=by
     unfold KN;have:=BL (f:=Dz 0 (((List.range l.length).map (MZ d l)).length:Int)) (λk (x:SC×NX)=>((k:Int),d,(List.range l.length).map (MZ d l),M d 0 x.1.1,x.2,x.1.2)) l.length
      (λk x=>LI d (C0 c) x.1 x.2 (8192*k)/\(∀i,i<k->(∀y∈Av (b1 d l i)++Av (b2 d l i),QR d x.1.1 y)/\∀p,1<=p->p<(b1 d l i).length->Wo (b1 d l i) (b2 d l i) x.1.1 x.2 p)/\∀h,L0 d l h->Pz (C0 c) h->Pz x.1.1 h/\NJ d h x.2)
      (Q:=λr=>∃s o,r=(d,M d 0 s.1,o,s.2)/\LI d (C0 c) s o (8192*l.length)/\(∀i,i<l.length->(∀x∈Av (b1 d l i)++Av (b2 d l i),QR d s.1 x)/\∀p,1<=p->p<(b1 d l i).length->Wo (b1 d l i) (b2 d l i) s.1 o p)/\∀h,L0 d l h->Pz (C0 c) h->Pz s.1 h/\NJ d h o)
      (λk x hk hx=>?_) (λx hx=>?_) (s0:=((C0 c,g0 c d.length),[])) ⟨⟨QP,OH,λv p x hx=>(by rw[n0]at hx;cases hx),λv p=>(by rw[n0];simp)⟩,λi hi=>by omega,λh _ hh=>⟨hh,λv p u q hm=>(by rw[n0]at hm;cases hm)⟩⟩
     ·exact this
     ·obtain⟨j1,j2,j3⟩:=hx;obtain⟨s1,s2,s3,s4,_,_⟩:=UM hd hl YK hs hk;have eg:((List.range l.length).map (MZ d l)).getD k (Ty.zero (.Au ALS (.Au ALS .unit)))=(fN (b1 d l k),fN (b2 d l k),()):=by
       rw[<-s4];exact JR hk
      unfold Dz Iq;simp only[AIZ,eg];obtain⟨s',o',k1,k2,k3,k4,k5,k6,k7⟩:=Ahq hd s1 s2 s3 j1 (by omega) (a:=0) (dd:=(List.range l.length).map (MZ d l));rw[AJa,AJF,Dl hk,AJe,AJg (Bf hk),k1,AIY,Bc hk (by omega)];refine Aw.mk ⟨(s',o'),rfl,by rw[show 8192*(k+1)=8192*k+8192 by omega];exact k2,λi hi=>?_,λh hh F6=>?_⟩
      ·rcases AI9 i k with Bh |ae
       ·obtain⟨a1,a2⟩:=j2 i Bh;refine⟨λy hy=>?_,λp p1 p2=>(a2 p p1 p2).mono k3 k4⟩;have:=a1 y hy;cases y with
        |co b=>trivial
        |va v l n=>exact⟨this.1.mono k3,this.2.mono k3⟩
       ·rw[show i=k by omega];exact⟨k5,k6⟩
      ·obtain⟨a1,a2⟩:=j3 h hh F6;exact k7 h (hh k hk) a1 a2
     ·unfold Dz Iq;simp only;rw[AJa,AJF,D1,AJd];exact Aw.mk ⟨x.1,x.2,rfl,hx⟩
    obtain⟨r,hr,s,o,rfl,j1,j2,j3⟩:=qG;rw[hr,AIY];unfold KP;simp only;obtain⟨r,hr,s',rfl,k1,k2,k3,k4⟩:=xX hd j1 (by omega) (a:=0);have iQ:=hd.1;rw[hr,AIY];simp only;rw[AJg (show Ty.row ALT=true/\(0:Int)<=(d.length:Int)/\(d.length:Int)<=(d.length:Int)/\((24:Nat):Int)*(d.length:Int)<=281474976710656/\(d.length:Int)<=9223372036854775807 from⟨rfl,by omega,by omega,by omega,by omega⟩),Vg,AIZ,
     uo hd (λv=>by cases hv:s'.1 v 0 with |false=>rfl |true=>have:=(k1.ai v 0 hv).2.1;omega),AIY,AIY]
    refine Aw.mk (.inr ⟨hd,iz,YK,hs,s'.1,rfl,k1.le,k1.ai,λi hi=>?_,λh h1 h2=>?_⟩)
    ·obtain⟨s1,s2,s3,_,_,_⟩:=UM hd hl YK hs hi;obtain⟨a1,a2⟩:=j2 i hi;refine AhN s1 s2 s3 (o:=o) (λy hy=>?_) (λp p1 p2=>(a2 p p1 p2).mono k2 λ_ _ _ h=>h) k3;have:=a1 y hy;cases y with
     |co b=>trivial
     |va v l n=>exact⟨this.1.mono k2,this.2.mono k2⟩
    ·obtain⟨a1,a2⟩:=j3 h h1 h2;exact k4 h a1 a2
   ·rw[f1];exact Aw.mk (.inl ⟨rfl,λh=>hs h.2.2.2⟩)
def sd(d:ALC)(l:ALF)(i s:Nat):AL7 Bt:=if s=0 then b1 d l i else b2 d l i
def cH{A:Type}(f:Nat->Nat->A)(n:Nat):AL7 A:=(List.range n).flatMap λi=>[f i 0,f i 1]
theorem ib{A:Type}(f:Nat->Nat->A)(n:Nat):cH f (n+1)=cH f n++[f n 0,f n 1]:=by
 unfold cH;rw[AKf,AKb];simp
theorem UO{A:Type}(f:Nat->Nat->A):∀n,(cH f n).length=2*n
 |0=>rfl
 |n+1=>by rw[ib,AI2,UO f n];simp;omega
theorem xp{A:Type}(f:Nat->Nat->A){z:A}:∀{n i s:Nat},i<n->s<2->(cH f n).getD (2*i+s) z=f i s
 |n+1,i,s,hi,hs=>by
  rw[ib];simp only[List.getD];rcases AI9 i n with h |h
  ·rw[AJl (by rw[UO];omega)];exact xp f h hs
  ·have:i=n:=by omega
   subst this;rw[AJk (by rw[UO];omega),UO,show 2*i+s-2*i=s by omega]
   match s,hs with
   |0,_=>rfl
   |1,_=>rfl
theorem jv{d:ALC}{l:ALF}(hd:AL d)(hl:∀x∈l,Uk x)(hlen:l.length<=60):Aw (Qu d l) λr=>(r.1=true/\Hb d l/\r.2=cH (λi s=>(F5 d (if s=0 then lS l i else lT l i)).2) l.length)\/(r.1=false/\¬Hb d l):=by
 unfold Qu;refine Aw.bind (P:=λt=>(∃x,t=.inl x/\¬Hb d l)\/(t=.inr (cH (λi s=>(F5 d (if s=0 then lS l i else lT l i)).2) l.length)/\Hb d l)) ?_ λt ht=>?_
 ·unfold SN;refine BW (λm (x:Int×ALO)=>∃k:Nat,k<=l.length/\m=l.length-k/\x.1=(k:Int)/\x.2=cH (λi s=>(F5 d (if s=0 then lS l i else lT l i)).2) k/\∀i,i<k->lO d l i) (λm x hI=>?_) l.length _ ⟨0,AJU _,rfl,rfl,rfl,λi hi=>by omega⟩;obtain⟨x1,x2⟩:=x;obtain⟨k,hk,rfl,h1,h2,h3⟩:=hI;simp only at h1 h2;subst h1;subst h2;unfold Lp Qv QF;simp only;rcases AI9 k l.length with h |h
  ·have hB:=hl _ (AE (z :=Ag.zero) h);have e1:C3 d (l.getD k Ag.zero).2.2.1=some (F5 d (lS l k)):=P9 hd hB.1;have e2:C3 d (l.getD k Ag.zero).2.2.2.1=some (F5 d (lT l k)):=P9 hd hB.2;rw[Dl h,AJe,AJg (Bf h),AIZ,e1,AIY,AJg (Bf h),e2,AIY];cases hc:(!(F5 d (lS l k)).1||!(F5 d (lT l k)).1)with
   |true =>
    refine Aw.mk (.inl ⟨_,rfl,λh'=>?_⟩);have:=nZ.2 (h' k h);rw[hc]at this;cases this
   |false =>
    rw[AJd,AJg (by rw[UO];show(2*k+2)*24<=_;omega),Bc h (by omega)];refine Aw.mk ⟨l.length-(k+1),by omega,k+1,h,rfl,rfl,(ib _ k).symm,λi hi=>?_⟩;rcases AI9 i k with h' |h'
    ·exact h3 i h'
    ·rw[show i=k by omega];exact nZ.1 hc
  ·have:k=l.length:=by omega
   subst this;rw[D1,AJd];exact Aw.mk (.inr ⟨rfl,h3⟩)
 ·rcases ht with ⟨x,rfl,h⟩|⟨rfl,h⟩
  ·exact Aw.mk (.inr ⟨rfl,h⟩)
  ·exact Aw.mk (.inl ⟨rfl,h,rfl⟩)
def YF(f:Nat->Nat->Bool):Sg->Nat->Nat->Bool
 |.co _=>f
 |.va v l n=>mark (mark f v l) v (l+n)
theorem AeI{d:ALC}(hd:AL d){ks:AL7 (AL7 Sg)}{m i:Nat}(hm:m<ks.length)(hi:i<(ks.getD m []).length)(FA:Uo d ((ks.getD m []).getD i (.co []))){f:Nat->Nat->Bool}{o:ALI} :
    Kq (m:Int) (i:Int) (M d 1 f) (ks.map fV) o=some (M d 1 (YF f ((ks.getD m []).getD i (.co [])))):=by
 unfold Kq;have e1:(ks.map fV).getD m ALS.zero=fV (ks.getD m []):=IQ fV hm;simp only[AIZ,e1,fz hi];rw[AJa,AJg (Bf hm),B5,AJg (Bf hi)];cases hs:(ks.getD m []).getD i (.co [])with
 |co b=>rfl
 |va v a n =>
  rw[hs]at FA;obtain⟨hv,hn,hw⟩:=FA;obtain⟨e0,cW,cX⟩:=QB hd hv;have e2:(Hn (.va v a n)).1=(v:Int):=rfl;have e3:(Hn (.va v a n)).2.1=(a:Int):=rfl;have e5:(Hn (.va v a n)).2.2.1=(n:Int):=rfl;have e4:wI ((a:Int)+(n:Int))=((a+n:Nat):Int):=A4 (by omega) (by omega);simp only[e2,e3,e5,e4,AIZ];have q1:(M d 1 f).set v (((M d 1 f).getD v ALW.zero).set a true)=M d 1 (mark f v a):=lF hv;simp only[q1];have q2:(M d 1 (mark f v a)).set v (((M d 1 (mark f v a)).getD v ALW.zero).set (a+n) true)=M d 1 (mark (mark f v a) v (a+n)):=lF hv;simp only[q2];rw[show decide ((v:Int)>=0)=true from AI3 (by omega),AJe,Vg,AJg (Bf hv),WK hv,I7,AJg (show(0:Int)<=(a:Int)/\(a:Int)<((W d v+1:Nat):Int)from⟨by omega,by omega⟩),Vg,AJg (Bf hv),WK hv,I7,AJg (show(0:Int)<=((a+n:Nat):Int)/\((a+n:Nat):Int)<((W d v+1:Nat):Int)from⟨by omega,by omega⟩)];rfl
theorem AeJ{d:ALC}(hd:AL d){ks:AL7 (AL7 Sg)}{m:Nat}(hm:m<ks.length)(hb:(ks.getD m []).length<=1048576)(FA:∀x∈ks.getD m [],Uo d x){f:Nat->Nat->Bool}{o:ALI} :
    Ot (m:Int) (ks.map fV) o 0 (M d 1 f)=some (M d 1 ((ks.getD m []).foldl YF f)):=by
 unfold Ot;have e1:(ks.map fV).getD m ALS.zero=fV (ks.getD m []):=IQ fV hm;have:=AU (f:=Fj (m:Int) (ks.map fV) o) (λk=>((k:Int),M d 1 (((ks.getD m []).take k).foldl YF f))) (t:=M d 1 ((ks.getD m []).foldl YF f)) (ks.getD m []).length (λk hk=>?_) ?_
 ·exact this
 ·unfold Fj Lg;simp only[AIZ,e1];rw[AJa,AJg (Bf hm),B5,Dl hk,AJe,AeI hd hm hk (FA _ (AE hk)),AIY,Bc hk hb,AW (z:=.co []) hk,AKP];rfl
 ·unfold Fj Lg;simp only[AIZ,e1];rw[AJa,AJg (Bf hm),B5,D1,AJd,AI8 (AI4 _)]
def Yp(B:AL7 Bt):ALt:=(bV B,Wr (Av B),())
theorem AeK{d:ALC}(hd:AL d){bs:AL7 (AL7 Bt)}(hb:∀B∈bs,Bj d B)(hl:bs.length<=1000){f:Nat->Nat->Bool} :
    Ou (bs.map fN) 0 (M d 1 f) []=some (M d 1 ((bs.flatMap Av).foldl YF f),bs.map Yp):=by
 unfold Ou;have em:bs.map fN=(bs.map Av).map fV:=by rw[AKX];rfl
 have:=AU (f:=Fl (bs.map fN)) (λk=>((k:Int),M d 1 (((bs.take k).flatMap Av).foldl YF f),(bs.take k).map Yp)) (t:=(M d 1 ((bs.flatMap Av).foldl YF f),bs.map Yp)) bs.length (λk hk=>?_) ?_
 ·exact this
 ·unfold Fl Lh;have hB:=hb _ (AE (z:=[]) hk);have e1:(bs.map fN).getD k ALS.zero=fN (bs.getD k []):=IQ fN hk;have e2:(bs.map Av).getD k []=Av (bs.getD k []):=IQ Av hk;have e3:=AeJ hd (ks:=bs.map Av) (m:=k) (by rw[AJa];exact hk) (by rw[e2];have:=CQ (C1 (bs.getD k []));rw[Cm]at this;have:=hB.2.1;omega) (by rw[e2];exact λx hx=>(Xn hB hx).1) (f:=((bs.take k).flatMap Av).foldl YF f) (o:=(bs.take k).map Yp);rw[<-em,e2]at e3;simp only[AIZ,e1];rw[AJa,Dl hk,AJe,e3,AIY,AJg (Bf hk),Ad1 hd hB,AIY,AJg (by simp;omega),Bc hk (by omega),AW (z:=[]) hk,AKb,AKP,AJJ];simp only[ALd,List.flatMap_nil,AJD,AJI,AKt];rfl
 ·unfold Fl Lh;simp only;rw[AJa,D1,AJd,AI8 (AI4 _)]
def rh(f:Nat->Nat->Bool):Bt->Nat->Nat->Bool
 |.co _=>f
 |.va v a=>mark f v a
def aQ(A B:AL7 Bt)(f:Nat->Nat->Bool)(p:Nat):Bool:=Sd A f p&&(!Sd B f p&&fY (S7 B p))
section
variable {d:ALC} {l:ALF}
def VJ(d:ALC)(l:ALF):ALI:=cH (λi s=>Yp (sd d l i s)) l.length
theorem bD{i s:Nat}(hi:i<l.length)(hs:s<2):(VJ d l).getD (2*i+s) Ao.zero=Yp (sd d l i s):=xp (λi s=>Yp (sd d l i s)) hi hs
structure WH (d:ALC) (l:ALF):Prop where
 hd:AL d
 len:l.length<=60
 zQ:∀i s,i<l.length->Bj d (sd d l i s)
 bB:∀i,i<l.length->(sd d l i 0).length=(sd d l i 1).length
theorem WH.eq(h:WH d l){i:Nat}(hi:i<l.length)(s t:Nat):(sd d l i s).length=(sd d l i t).length:=by
 have:=h.bB i hi;unfold sd at this⊢;rw[AJg rfl,AJh (by omega)]at this;split<;>split<;>first |rfl |exact this |exact this.symm
theorem AeL(H:WH d l){i s p:Nat}(hi:i<l.length)(hs:s<2)(hp:p<(sd d l i 0).length){f:Nat->Nat->Bool}{q:Bool}{e j:Int} :
    Kr q ((2*i:Nat):Int) e j (p:Int) (s:Int) (M d 1 f) (VJ d l)=some (bif aQ (sd d l i s) (sd d l i (1-s)) f p then(true,M d 1 (rh f (S7 (sd d l i (1-s)) p)))else(q,M d 1 f)):=by
 unfold Kr Ow;have hlen:=H.len;have e1:wI (((2*i:Nat):Int)+(s:Int))=((2*i+s:Nat):Int):=A4 (by omega) (by omega);have e2:wI (wI (((2*i:Nat):Int)+1)-(s:Int))=((2*i+(1-s):Nat):Int):=by
  rw[A4 (x:=((2*i:Nat):Int)+1) (n:=2*i+1) (by omega) (by omega)];exact A4 (by omega) (by omega)
 have g1:=bD (d:=d) hi hs;have g2:=bD (d:=d) hi (show 1-s<2 by omega);have hA:=H.zQ i s hi;have hB:=H.zQ i (1-s) hi;have hpA:p<(sd d l i s).length:=by rw[H.eq hi s 0];exact hp
 have hpB:p<(sd d l i (1-s)).length:=by rw[H.eq hi (1-s) 0];exact hp
 have IR:(VJ d l).length=2*l.length:=UO _ _;have eb:(bV (sd d l i (1-s))).getD p Aa.zero=UR (S7 (sd d l i (1-s)) p):=eE hpB;simp only[e1,e2,AIZ,g1,g2];rw[IR,AJg (Bf (by omega)),AJg (Bf (by omega))];unfold Yp;simp only[eb];rw[Rb H.hd hA hpA,AIY];unfold aQ;cases Sd (sd d l i s) f p with
 |false=>rfl
 |true =>
  rw[AJe,rY H.hd hB hpB,AIY,AIY,AK0];cases hw:(!Sd (sd d l i (1-s)) f p&&fY (S7 (sd d l i (1-s)) p))with
  |false=>rfl
  |true =>
   rw[AJe,AJe,C6,AJg (Bf hpB)];have hb:=AaT hB hpB;cases hbb:S7 (sd d l i (1-s)) p with
   |co c=>rw[hbb]at hw;simp[fY]at hw
   |va v a =>
    rw[hbb]at hb;obtain⟨hv,ha⟩:=hb;obtain⟨e0,cW,cX⟩:=QB H.hd hv;have m1:(M d 1 f).set v (((M d 1 f).getD v ALW.zero).set a true)=M d 1 (mark f v a):=lF hv;have c1:(UR (.va v a)).1=(v:Int):=rfl;have c2:(UR (.va v a)).2.1=(a:Int):=rfl;simp only[c1,c2,AIZ,m1];rw[Vg,AJg (Bf hv),AJg (Bf hpB),WK hv,I7,AJg (show(0:Int)<=(a:Int)/\(a:Int)<((W d v+1:Nat):Int)from⟨by omega,by omega⟩)];rfl
def od(d:ALC)(f:Nat->Nat->Bool):Nat->Nat->Bool:=λv p=>decide (v<d.length/\1<=p/\p<W d v)&&f v p
theorem Oc{f:Nat->Nat->Bool}{v p:Nat}:od d f v p=true↔(v<d.length/\1<=p/\p<W d v)/\f v p=true:=by simp[od]
theorem tL{B:AL7 Bt}(h:Bj d B){p:Nat}(hp:p<B.length)(f:Nat->Nat->Bool):Sd B (od d f) p=Sd B f p:=by
 unfold Sd;rcases XX h hp with ⟨q,_⟩|⟨q,⟨⟨b,e⟩,_⟩|⟨v,a,e,h1,h2,h3,_⟩⟩
 ·rw[q];rfl
 ·rw[e];rfl
 ·rw[e,q];simp[yp,od,h1,h2,h3]
structure SW (d:ALC) (l:ALF) (fs:Nat->Nat->Bool) (ok:Prop) (q:Bool) (f:Nat->Nat->Bool):Prop where
 no:q=false->f=fs/\ok
 yes:q=true->free d f+1<=free d fs
 le:Pz fs f
 min:∀h,L0 d l h->Pz (od d fs) h->Pz (od d f) h
theorem SW.imp{fs f:Nat->Nat->Bool}{ok ok':Prop}{q:Bool}(h:SW d l fs ok q f)(hi:ok->ok'):SW d l fs ok' q f:=⟨λe=>⟨(h.no e).1,hi (h.no e).2⟩,h.yes,h.le,h.min⟩
def sx(d:ALC)(l:ALF)(fs:Nat->Nat->Bool)(i p s:Nat):Prop:=aQ (sd d l i s) (sd d l i (1-s)) fs p=false
theorem AhO(H:WH d l){fs f:Nat->Nat->Bool}{ok:Prop}{q:Bool}(h:SW d l fs ok q f){i s p:Nat}(hi:i<l.length)(hs:s<2)(YN:1<=p)(hp:p<(sd d l i 0).length) :
    SW d l fs (ok/\sx d l fs i p s) (bif aQ (sd d l i s) (sd d l i (1-s)) f p then true else q) (bif aQ (sd d l i s) (sd d l i (1-s)) f p then rh f (S7 (sd d l i (1-s)) p)else f):=by
 cases hh:aQ (sd d l i s) (sd d l i (1-s)) f p with
 |false =>
  refine⟨λe=>?_,h.yes,h.le,h.min⟩;obtain⟨e1,e2⟩:=h.no e;exact⟨e1,e2,by rw[e1]at hh;exact hh⟩
 |true =>
  have hA:=H.zQ i s hi;have hB:=H.zQ i (1-s) hi;have hpA:p<(sd d l i s).length:=by rw[H.eq hi s 0];exact hp
  have hpB:p<(sd d l i (1-s)).length:=by rw[H.eq hi (1-s) 0];exact hp
  unfold aQ at hh;rw[AI5,AI5,AKk]at hh;obtain⟨c1,c2,c3⟩:=hh;have key:∃v a,S7 (sd d l i (1-s)) p=.va v a/\v<d.length/\1<=a/\a<W d v/\f v a=false:=by
   rcases XX hB hpB with ⟨e,_⟩|⟨e,⟨⟨b,e'⟩,_⟩|⟨v,a,e',h1,h2,h3,_⟩⟩
   ·unfold Sd at c2;rw[e]at c2;cases c2
   ·rw[e']at c3;cases c3
   ·refine⟨v,a,e',h1,h2,h3,?_⟩;unfold Sd at c2;rw[e,e',AKm]at c2;exact c2
  obtain⟨v,a,e1,h1,h2,h3,h4⟩:=key;have Ug:Pz f (rh f (S7 (sd d l i (1-s)) p)):=λu b hu=>by rw[e1];exact EH.2 (.inl hu)
  have AFl:free d (rh f (S7 (sd d l i (1-s)) p))+1<=free d f:=by rw[e1];exact aL h1 h3 h4
  refine⟨λe=>(by cases e),λ_=>?_,λu b hu=>Ug u b (h.le u b hu),λg hg hgs=>?_⟩
  ·rw[AJe];have:free d f<=free d fs:=List.countP_mono_left λx _ hx=>by
    simp only[AKk]at hx⊢;cases hq:fs x.1 x.2 with
    |false=>rfl
    |true=>rw[h.le _ _ hq]at hx;cases hx
   omega
  ·rw[AJe,e1];have hm:=h.min g hg hgs;intro u b hub;obtain⟨hr,hub⟩:=Oc.1 hub;rcases EH.1 hub with hub |⟨rfl,rfl⟩
   ·exact hm u b (Oc.2 ⟨hr,hub⟩)
   ·have Azj:Sd (sd d l i s) g p=true:=by
      rw[<-tL hA hpA f]at c1;unfold Sd at c1⊢;rw[AKe]at c1⊢;refine c1.imp id λc=>?_;cases hx:S7 (sd d l i s) p with
      |co _=>rw[hx]at c;cases c
      |va v' a'=>rw[hx]at c;exact hm v' a' c
    have bZ:Sd (sd d l i (1-s)) g p=true:=by
     have Wu:=(hg i hi).2 p YN hp
     match s,hs with
     |0,_=>exact Wu.1 Azj c3
     |1,_=>exact Wu.2 Azj c3
    unfold Sd at bZ c2;rw[AJY]at c2;rw[c2.1,e1,AKm]at bZ;exact bZ
theorem AeM(H:WH d l){i p:Nat}(hi:i<l.length)(YN:1<=p)(hp:p<(sd d l i 0).length){fs f:Nat->Nat->Bool}{ok:Prop}{q:Bool}(h:SW d l fs ok q f){e j:Int} :
    Aw (Ox ((2*i:Nat):Int) e j (VJ d l) (p:Int) q 0 (M d 1 f)) λr=>∃f',r.2=M d 1 f'/\SW d l fs (ok/\sx d l fs i p 0/\sx d l fs i p 1) r.1 f':=by
 unfold Ox;have:=BL (f:=Fp ((2*i:Nat):Int) e j (VJ d l) (p:Int)) (λk (x:Bool×(Nat->Nat->Bool))=>(x.1,(k:Int),M d 1 x.2)) 2 (λk x=>SW d l fs (ok/\∀s,s<k->sx d l fs i p s) x.1 x.2) (Q:=λr=>∃f',r.2=M d 1 f'/\SW d l fs (ok/\sx d l fs i p 0/\sx d l fs i p 1) r.1 f') (λk x hk hx=>?_) (λx hx=>?_) (s0:=(q,f)) (h.imp λh=>⟨h,λs hs=>by omega⟩)
 ·exact this
 ·unfold Fp Li;simp only;rw[show decide ((k:Int)<2)=true from AI3 (by omega),AJe,AeL H hi hk hp,AIY,Bc (n:=2) hk (by omega)];have:=AhO H hx hi hk YN hp;refine Aw.mk ⟨(bif aQ (sd d l i k) (sd d l i (1-k)) x.2 p then true else x.1,bif aQ (sd d l i k) (sd d l i (1-k)) x.2 p then rh x.2 (S7 (sd d l i (1-k)) p)else x.2),?_,this.imp λ⟨⟨h1,h2⟩,h3⟩=>⟨h1,λs hs=>?_⟩⟩
  ·cases aQ (sd d l i k) (sd d l i (1-k)) x.2 p<;>rfl
  ·rcases AI9 s k with h' |h'
   ·exact h2 s h'
   ·rw[show s=k by omega];exact h3
 ·unfold Fp Li;simp only;rw[show decide (((2:Nat):Int)<2)=false from rfl,AJd];exact Aw.mk ⟨x.2,rfl,hx.imp λ⟨h1,h2⟩=>⟨h1,h2 0 (by omega),h2 1 (by omega)⟩⟩
theorem zo(H:WH d l){i k:Nat}(hi:i<l.length)(hk:1<=k)(hk2:k<2*(sd d l i 0).length){fs f:Nat->Nat->Bool}{ok:Prop}{q:Bool}(h:SW d l fs ok q f) :
    Aw (Jh q ((2*i:Nat):Int) ((sd d l i 0).length:Int) (k:Int) (M d 1 f) (VJ d l)) λr=>∃f',r.2=M d 1 f'/\SW d l fs (ok/\(k<(sd d l i 0).length->sx d l fs i k 0/\sx d l fs i k 1)) r.1 f':=by
 unfold Jh QF Ov;have hb:=(H.zQ i 0 hi).2.1;have ep:(bif decide ((k:Int)>=((sd d l i 0).length:Int))then wI (wI (2*((sd d l i 0).length:Int))-(k:Int))else(k:Int))=((if(sd d l i 0).length<=k then 2*(sd d l i 0).length-k else k:Nat):Int):=by
  by_cases hc:(sd d l i 0).length<=k
  ·rw[AI3 (by omega),AJe,AJg hc,A4 (x:=2*((sd d l i 0).length:Int)) (n:=2*(sd d l i 0).length) (by omega) (by omega)];exact A4 (by omega) (by omega)
  ·rw[AI1 (by omega),AJd,AJh hc]
 rw[ep];obtain⟨p,hp⟩:∃p,p=if(sd d l i 0).length<=k then 2*(sd d l i 0).length-k else k:=⟨_,rfl⟩;rw[<-hp];have hpk:k<(sd d l i 0).length->p=k:=λBh=>by rw[hp,AJh (by omega)]
 have YN:1<=p:=by rw[hp];split<;>omega
 rw[show decide ((p:Int)<1)=false from AI1 (by omega),AJd];by_cases hc:p<(sd d l i 0).length
 ·rw[show decide ((p:Int)>=((sd d l i 0).length:Int))=false from AI1 (by omega),AJd,AIY];refine Aw.bind (AeM H hi YN hc h) λr hr=>?_;obtain⟨f',e1,e2⟩:=hr;refine Aw.mk ⟨f',e1,e2.imp λ⟨h1,h2⟩=>⟨h1,λBh=>?_⟩⟩;rw[<-hpk Bh];exact h2
 ·rw[show decide ((p:Int)>=((sd d l i 0).length:Int))=true from AI3 (by omega),AJe,AIY];exact Aw.mk ⟨f,rfl,h.imp λh1=>⟨h1,λBh=>by have:=hpk Bh;omega⟩⟩
theorem zp(H:WH d l){i:Nat}(hi:i<l.length){fs f:Nat->Nat->Bool}{ok:Prop}{q:Bool}(h:SW d l fs ok q f) :
    Aw (MN ((2*i:Nat):Int) (VJ d l) ((sd d l i 0).length:Int) q 1 (M d 1 f)) λr=>∃f',r.2=M d 1 f'/\SW d l fs (ok/\∀p,1<=p->p<(sd d l i 0).length->sx d l fs i p 0/\sx d l fs i p 1) r.1 f':=by
 unfold MN;have hb:=(H.zQ i 0 hi).2.1;have dC:=(H.zQ i 0 hi).1;have ew:wI (2*((sd d l i 0).length:Int))=((2*(sd d l i 0).length:Nat):Int):=A4 (by omega) (by omega);have:=BL (f:=Ej ((2*i:Nat):Int) (VJ d l) ((sd d l i 0).length:Int)) (λk (x:Bool×(Nat->Nat->Bool))=>(x.1,((k+1:Nat):Int),M d 1 x.2)) (2*(sd d l i 0).length-1) (λk x=>SW d l fs (ok/\∀p,1<=p->p<k+1->p<(sd d l i 0).length->sx d l fs i p 0/\sx d l fs i p 1) x.1 x.2) (Q:=λr=>∃f',r.2=M d 1 f'/\SW d l fs (ok/\∀p,1<=p->p<(sd d l i 0).length->sx d l fs i p 0/\sx d l fs i p 1) r.1 f') (λk x hk hx=>?_) (λx hx=>?_) (s0:=(q,f)) (h.imp λh=>⟨h,λp h1 h2=>by omega⟩)
 ·exact this
 ·unfold Ej J7;simp only;rw[ew,Dl (show k+1<2*(sd d l i 0).length by omega),AJe,A4 (x:=((k+1:Nat):Int)+1) (n:=k+1+1) (by omega) (by omega)];refine Aw.bind (zo H hi (by omega) (by omega) hx) λr hr=>?_;obtain⟨f',e1,e2⟩:=hr;refine Aw.mk ⟨(r.1,f'),by rw[e1],e2.imp λ⟨⟨h1,h2⟩,h3⟩=>⟨h1,λp p1 p2 p3=>?_⟩⟩;rcases AI9 p (k+1)with h' |h'
  ·exact h2 p p1 h' p3
  ·have:p=k+1:=by omega
   rw[this];exact h3 (by omega)
 ·unfold Ej J7;simp only;rw[ew,show 2*(sd d l i 0).length-1+1=2*(sd d l i 0).length by omega,D1,AJd];exact Aw.mk ⟨x.2,rfl,hx.imp λ⟨h1,h2⟩=>⟨h1,λp p1 p2=>h2 p p1 (by omega) p2⟩⟩
def aj(d:ALC)(l:ALF)(fs:Nat->Nat->Bool)(n:Nat):Prop:=∀i,i<n->∀p,1<=p->p<(sd d l i 0).length->sx d l fs i p 0/\sx d l fs i p 1
theorem zq(H:WH d l)(fs:Nat->Nat->Bool):Aw (MO (VJ d l) false 0 (M d 1 fs)) λr=>∃f',r.2=M d 1 f'/\SW d l fs (aj d l fs l.length) r.1 f':=by
 unfold MO;have hlen:=H.len;have IR:(VJ d l).length=2*l.length:=UO _ _;have:=BL (f:=El (VJ d l)) (λk (x:Bool×(Nat->Nat->Bool))=>(x.1,((2*k:Nat):Int),M d 1 x.2)) l.length (λk x=>SW d l fs (aj d l fs k) x.1 x.2) (Q:=λr=>∃f',r.2=M d 1 f'/\SW d l fs (aj d l fs l.length) r.1 f') (λk x hk hx=>?_) (λx hx=>?_) (s0:=(false,fs)) ⟨λ_=>⟨rfl,λi hi=>by omega⟩,λe=>(by cases e),λ_ _ h=>h,λ_ _ h=>h⟩
 ·exact this
 ·unfold El J8;have g1:=bD (d:=d) hk (show 0<2 by omega);rw[AKV]at g1;simp only[AIZ,g1];have e1:(Yp (sd d l k 0)).1.length=(sd d l k 0).length:=C6 _;rw[IR,Dl (show 2*k<2*l.length by omega),AJe,AJg (Bf (by omega)),e1,A4 (x:=((2*k:Nat):Int)+2) (n:=2*(k+1)) (by omega) (by omega)];refine Aw.bind (zp H hk hx) λr hr=>?_;obtain⟨f',e1,e2⟩:=hr;refine Aw.mk ⟨(r.1,f'),by rw[e1],e2.imp λ⟨h1,h2⟩ i hi=>?_⟩;rcases AI9 i k with h' |h'
  ·exact h1 i h'
  ·rw[show i=k by omega];exact h2
 ·unfold El J8;simp only;rw[IR,D1,AJd];exact Aw.mk ⟨x.2,rfl,hx⟩
theorem zr(H:WH d l)(f0:Nat->Nat->Bool):Aw (MP (VJ d l) true (M d 1 f0)) λr=>∃f,r=M d 1 f/\Pz f0 f/\aj d l f l.length/\∀h,L0 d l h->Pz (od d f0) h->Pz (od d f) h:=by
 unfold MP;refine BW (λm (x:Bool×ALM)=>∃f,x.2=M d 1 f/\m=free d f+(if x.1 then 1 else 0)/\Pz f0 f/\(x.1=false->aj d l f l.length)/\∀h,L0 d l h->Pz (od d f0) h->Pz (od d f) h) (λm x hx=>?_) _ _ ⟨f0,rfl,rfl,λ_ _ h=>h,λe=>(by cases e),λ_ _ h=>h⟩;obtain⟨q,t⟩:=x;obtain⟨f,e1,rfl,Ug,aR,yr⟩:=hx;simp only at e1 aR;subst e1;unfold J9 OY;simp only;cases q with
 |false=>exact Aw.mk ⟨f,rfl,Ug,aR rfl,yr⟩
 |true =>
  rw[AJe];refine Aw.bind (zq H f) λr hr=>?_;obtain⟨f',e1,e2⟩:=hr;refine Aw.mk ⟨free d f'+(if r.1 then 1 else 0),?_,f',e1,rfl,λu b hu=>e2.le u b (Ug u b hu),λe=>?_,λh hh hs=>e2.min h hh (yr h hh hs)⟩
  ·cases hq:r.1 with
   |false=>rw[(e2.no hq).1];simp
   |true=>have:=e2.yes hq;simp;omega
  ·obtain⟨q1,q2⟩:=e2.no e;rw[q1];exact q2
end
end Go.Proofs.X
