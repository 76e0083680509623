import Derived.KernelRfl
import Derived.Test.YtlohhmmaibiimaaGreatK5
set_option linter.unusedVariables false
set_option linter.unusedSimpArgs false
namespace Go.Proofs.X
open Go Go.Va Go.Proofs.Tryz
set_option maxRecDepth 100000
noncomputable section
abbrev lQ:Bd:=⟨A7,Az [(23,c23),(71,c71),(77,c77),(96,c96),(97,c97),(98,c98),(99,c99)],{Ai:=true,A9:=[(8,{Ap:=[0,1,6,8,10,11,12,13],B6:=[(12,true,.row [1] 257 Ab true)]}),(13,{Ap:=[0,1,6,8,10,11,12,13,14,16],Rj:=[(14,false,.sl Aq)],B6:=[(12,true,.row [1] 257 Ab true)]}),(20,{Ap:=[6,10,11,12,19],B6:=[(10,true,.row [1] 155 Ao true)]}),(25,{Ap:=[6,10,11,12,19,20,21],B6:=[(20,true,.row [0] 2 AIa true)]})],BQ:=[(8,{Ap:=[6,7,10,11,12]}),(13,{Ap:=[0,1,6,7,8,10,11,12,13]}),(20,{Ap:=[6,10]}),(25,{Ap:=[6,10,11,12,19,20]})],BP:=[(9,{Ap:=[0,1,6,7,8,10,11,12,13],B6:=[(12,true,.row [1] 257 Ab true)]}),(21,{Ap:=[6,10,11,12,19],B6:=[(10,true,.row [1] 155 Ao true)]}),(26,{Ap:=[6,10,11,12,19,20,21],B6:=[(20,true,.row [0] 2 AIa true)]}),(33,{Ap:=[6,10,11,12,19,20],B6:=[(20,true,.row [2,1] 216 AIb true)]})],D2:=[(9,[0,1,6,8,10,11,12,13]),(21,[6,10,11,12,19]),(26,[6,10,11,12,19,20,21]),(33,[6,10,11,12,19,20,22])],Rj:=[(0,Ca),(1,.bool)]}⟩
def AjM a (b:Int) c (z_:Int×AH4×AH2×AHX×AHT):=sT 146 [(6,.ptr 0 0 [] 0),(10,.ptr 1 0 [] 0),(11,dI a),(12,.ptr 2 b [] 0),(19,dI z_.1)] [.box (.pr (.pr .zs .u) (.pr .zs (.pr .zs .u))),.box (.pr (dD Aj c) (.pr (.Ak 3) (.pr .zs .u))),.box (.pr (.Ak 4) (.pr (.Ak 5) (.pr (.Ak 6) .u))),.row 155 .Ai Ao z_.2.1,.row 83 (.sh []) Ah z_.2.2.1,.row 257 .Ai Ab z_.2.2.2.1,.row 2 .Ai AIa z_.2.2.2.2]
def Aiv(a b:Int) c:=λ(d:AH4)=>(Ex.exit 4,sT 146 [(6,.ptr 0 0 [] 0),(10,.ptr 1 0 [] 0)] [.box (.pr (.pr .zs .u) (.pr .zs (.pr .zs .u))),.box (.pr (dD Aj c) (.pr (.Ak 2) (.pr .zs .u))),.row 155 .Ai Ao d])
def AjL a (b:Int) e c g i j k:=sT 146 [(6,.ptr 0 0 [] 0),(10,.ptr 1 0 [] 0),(11,dI a),(12,.ptr 2 b [] 0),(19,dI e)] [.box (.pr (.pr .zs .u) (.pr .zs (.pr .zs .u))),.box (.pr (dD Aj c) (.pr (.Ak 3) (.pr .zs .u))),.box (.pr (.Ak 4) (.pr (.Ak 5) (.pr (.Ak 6) .u))),.row 155 .Ai Ao g,.row 83 (.sh []) Ah i,.row 257 .Ai Ab j,.row 2 .Ai AIa k]
def Aiu a (b:Int) e c (g:AH4) (i:AH2) (j:AHX) (k:AHT):=λ(l:(AH4×AH2×AHX×AHT))=>(Ex.normal,sT 146 [(6,.ptr 0 0 [] 0),(10,.ptr 1 0 [] 0),(11,dI a),(12,.ptr 2 b [] 0),(19,dI e)] [.box (.pr (.pr .zs .u) (.pr .zs (.pr .zs .u))),.box (.pr (dD Aj c) (.pr (.Ak 3) (.pr .zs .u))),.box (.pr (.Ak 4) (.pr (.Ak 5) (.pr (.Ak 6) .u))),.row 155 .Ai Ao l.1,.row 83 (.sh []) Ah l.2.1,.row 257 .Ai Ab l.2.2.1,.row 2 .Ai AIa l.2.2.2])
def AjK a (b:Int) e c g n o q s t:=sT 146 [(6,.ptr 0 0 [] 0),(10,.ptr 1 0 [] 0),(11,dI a),(12,.ptr 2 b [] 0),(19,dI e),(20,.ptr 3 0 [] 0),(22,dI o)] [.box (.pr (.pr .zs .u) (.pr .zs (.pr .zs .u))),.box (.pr (dD Aj c) (.pr (.Ak 4) (.pr .zs .u))),.box (.pr (.Ak 5) (.pr (.Ak 6) (.pr (.Ak 7) .u))),.box (.pr (.Ak 8) (.pr (dB false) (.pr (.pr (dI 0) (.pr .zs .u)) .u))),.row 155 .Ai Ao g,.row 83 (.sh []) Ah q,.row 257 .Ai Ab s,.row 2 .Ai AIa t,.row 2 .Ai AIa n]
def Ait a (b:Int) e c g n (o:Int) q s t:=λ(u:(Bool×Int×AHT))=>(Ex.normal,sT 146 [(6,.ptr 0 0 [] 0),(10,.ptr 1 0 [] 0),(11,dI a),(12,.ptr 2 b [] 0),(19,dI e),(20,.ptr 3 0 [] 0)] [.box (.pr (.pr .zs .u) (.pr .zs (.pr .zs .u))),.box (.pr (dD Aj c) (.pr (.Ak 4) (.pr .zs .u))),.box (.pr (.Ak 5) (.pr (.Ak 6) (.pr (.Ak 7) .u))),.box (.pr (.Ak 8) (.pr (dB u.1) (.pr (.pr (dI u.2.1) (.pr (.Ak 9) .u)) .u))),.row 155 .Ai Ao g,.row 83 (.sh []) Ah q,.row 257 .Ai Ab s,.row 2 .Ai AIa t,.row 2 .Ai AIa n,.row 216 .Ai AIb u.2.2])
def GH(a b e:Int)(c:AHN)(g:AH4)(n:AHT)(o:Int)(q:AH2)(s:AHX)(t:AHT):Option (Bool×Int×AHT):=
 bif decide (o>=0)then
 if 0<=o/\o<q.length then
 (Kd (q.getD o.toNat Ah.zero)).bind λv=>some (true,v.1,v.2)
 else none
 else
 some (false,0,([]:AHT))
theorem Alg a b e c g n o q s t:AZ lQ 0 33 (sb (cd f36 4084) 6) 94 (AjK a b e c g n o q s t) (GH a b e c g n o q s t) (Ait a b e c g n o q s t):=by
 unfold AZ;simp only[GH,AHE];kernel_rfl
def AjJ a (b:Int) e c g i j k (z_:Int×AHT):=sT 146 [(6,.ptr 0 0 [] 0),(10,.ptr 1 0 [] 0),(11,dI a),(12,.ptr 2 b [] 0),(19,dI e),(20,.ptr 3 0 [] 0),(21,dI z_.1)] [.box (.pr (.pr .zs .u) (.pr .zs (.pr .zs .u))),.box (.pr (dD Aj c) (.pr (.Ak 4) (.pr .zs .u))),.box (.pr (.Ak 5) (.pr (.Ak 6) (.pr (.Ak 7) .u))),.box (.pr (.Ak 8) (.pr (dB false) (.pr (.pr (dI 0) (.pr .zs .u)) .u))),.row 155 .Ai Ao g,.row 83 (.sh []) Ah i,.row 257 .Ai Ab j,.row 2 .Ai AIa k,.row 2 .Ai AIa z_.2]
def Ais a (b:Int) e c g i j k:=λ(n:AHT)=>(Ex.exit 6,sT 146 [(6,.ptr 0 0 [] 0),(10,.ptr 1 0 [] 0),(11,dI a),(12,.ptr 2 b [] 0),(19,dI e),(20,.ptr 3 0 [] 0)] [.box (.pr (.pr .zs .u) (.pr .zs (.pr .zs .u))),.box (.pr (dD Aj c) (.pr (.Ak 4) (.pr .zs .u))),.box (.pr (.Ak 5) (.pr (.Ak 6) (.pr (.Ak 7) .u))),.box (.pr (.Ak 8) (.pr (dB false) (.pr (.pr (dI 0) (.pr .zs .u)) .u))),.row 155 .Ai Ao g,.row 83 (.sh []) Ah i,.row 257 .Ai Ab j,.row 2 .Ai AIa k,.row 2 .Ai AIa n])
def AjI a (b:Int) e w c g i j k x:=sT 146 [(6,.ptr 0 0 [] 0),(10,.ptr 1 0 [] 0),(11,dI a),(12,.ptr 2 b [] 0),(19,dI e),(20,.ptr 3 0 [] 0),(21,dI w)] [.box (.pr (.pr .zs .u) (.pr .zs (.pr .zs .u))),.box (.pr (dD Aj c) (.pr (.Ak 4) (.pr .zs .u))),.box (.pr (.Ak 5) (.pr (.Ak 6) (.pr (.Ak 7) .u))),.box (.pr (.Ak 8) (.pr (dB false) (.pr (.pr (dI 0) (.pr .zs .u)) .u))),.row 155 .Ai Ao g,.row 83 (.sh []) Ah i,.row 257 .Ai Ab j,.row 2 .Ai AIa k,.row 2 .Ai AIa x]
def Air a (b:Int) e w c g i j k (x:AHT):=λ(y:AHT)=>(Ex.normal,sT 146 [(6,.ptr 0 0 [] 0),(10,.ptr 1 0 [] 0),(11,dI a),(12,.ptr 2 b [] 0),(19,dI e),(20,.ptr 3 0 [] 0),(21,dI w)] [.box (.pr (.pr .zs .u) (.pr .zs (.pr .zs .u))),.box (.pr (dD Aj c) (.pr (.Ak 4) (.pr .zs .u))),.box (.pr (.Ak 5) (.pr (.Ak 6) (.pr (.Ak 7) .u))),.box (.pr (.Ak 8) (.pr (dB false) (.pr (.pr (dI 0) (.pr .zs .u)) .u))),.row 155 .Ai Ao g,.row 83 (.sh []) Ah i,.row 257 .Ai Ab j,.row 2 .Ai AIa k,.row 2 .Ai AIa y])
def Jz(a b e w:Int)(c:AHN)(g:AH4)(i:AH2)(j:AHX)(k x:AHT):Option AHT:=
 if 0<=w/\w<k.length then
 bif (k.getD w.toNat AIa.zero)==e then
 if(x.length+([w]:AHT).length)*8<=140737488355328 then
 some (x++([w]:AHT))
 else none
 else
 some x
 else none
theorem Ale a b e w c g i j k x:AZ lQ 0 26 (sb (sb (cd f36 4084) 6) 180) 6 (AjI a b e w c g i j k x) (Jz a b e w c g i j k x) (Air a b e w c g i j k x):=by
 unfold AZ;simp only[Jz,AHE];kernel_rfl
def Lz(a b e:Int)(c:AHN)(g:AH4)(i:AH2)(j:AHX)(k:AHT)(w:Int)(x:AHT):Option ((Int×AHT)⊕AHT):=
 bif decide (w<a)then
 (Jz a b e w c g i j k x).bind λy=>some (.inl (wI (w+1),y))
 else
 some (.inr x)
def HH a b e c g i j k (z_:Int×AHT):=Lz a b e c g i j k z_.1 z_.2
def JA a b e c g i j k w x:=fix (HH a b e c g i j k) (w,x)
theorem Alf a b e c g i j k:A5 lQ 0 25 (sb (cd f36 4084) 6) 90 (AjJ a b e c g i j k) (HH a b e c g i j k) (Ais a b e c g i j k):=by
 intro _;simp only[HH,Lz,AHE];simp(disch:=refine id ?_;kernel_rfl) only[Bg (Ale ..) (K:=Ld lQ 0 25)];kernel_rfl
def JB(a b e:Int)(c:AHN)(g:AH4)(i:AH2)(j:AHX)(k:AHT):Option (AH4×AH2×AHX×AHT):=
 if 0<=e/\e<k.length then
 bif decide ((k.getD e.toNat AIa.zero)<e)then
 some (g,i,j,k)
 else
 (JA a b e c g i j k e ([]:AHT)).bind λn=>(Db b e i j k).bind λa1=>(GH a b e c g n a1.1 a1.2.1 a1.2.2.1 a1.2.2.2).bind λu=>if(g.length+([(n,u.1,(u.2.1,u.2.2,()),())]:AH4).length)*64<=140737488355328 then
 some (g++([(n,u.1,(u.2.1,u.2.2,()),())]:AH4),a1.2.1,a1.2.2.1,a1.2.2.2)
 else none
 else none
theorem Alh a b e c g i j k:AZ lQ 0 21 (cd f36 4084) 6 (AjL a b e c g i j k) (JB a b e c g i j k) (Aiu a b e c g i j k):=by
 unfold AZ;simp only[JB,AHE];simp(disch:=refine id ?_;kernel_rfl) only[JA,AF (Alf _ _ _ _ _ _ _ _) (K:=Te lQ 0 21),Bg (Alg ..) (K:=Te lQ 0 21)];kernel_rfl
def LA(a b:Int)(c:AHN)(e:Int)(g:AH4)(i:AH2)(j:AHX)(k:AHT):Option ((Int×AH4×AH2×AHX×AHT)⊕AH4):=
 bif decide (e<a)then
 (JB a b e c g i j k).bind λl=>some (.inl (wI (e+1),l.1,l.2.1,l.2.2.1,l.2.2.2))
 else
 some (.inr g)
def HI a b c (z_:Int×AH4×AH2×AHX×AHT):=LA a b c z_.1 z_.2.1 z_.2.2.1 z_.2.2.2.1 z_.2.2.2.2
def JC a b c e g i j k:=fix (HI a b c) (e,g,i,j,k)
theorem Ali a b c:A5 lQ 0 20 (code f36) 2042 (AjM a b c) (HI a b c) (Aiv a b c):=by
 intro _;simp only[HI,LA,AHE];simp(disch:=refine id ?_;kernel_rfl) only[Bg (Alh ..) (K:=Ld lQ 0 20)];kernel_rfl
def Ark b1 c1 d1 (e1:Int) g1 i1 (z_:Int×AH2×AHX×AHT):=sT 146 [(0,dD AId b1),(1,dD AIi c1),(6,.ptr 0 0 [] 0),(8,.ptr 1 0 [] 0),(10,.ptr 2 0 [] 0),(11,dI d1),(12,.ptr 3 e1 [] 0),(13,dI z_.1)] [.box (.pr (.pr .zs .u) (.pr .zs (.pr .zs .u))),.box (dD Aj g1),.box (.pr (dD Aj i1) (.pr .zs (.pr .zs .u))),.box (.pr (.Ak 4) (.pr (.Ak 5) (.pr (.Ak 6) .u))),.row 83 (.sh []) Ah z_.2.1,.row 257 .Ai Ab z_.2.2.1,.row 2 .Ai AIa z_.2.2.2]
def Apb(b1:AHY)(c1:AH0) d1 (e1:Int) (g1:AHN) i1:=Sum.elim (λ(j1:(AHT×AH2×AHX×AHT))=>(Ex.ret,sT 146 [(6,.ptr 0 0 [] 0),(7,dB true),(10,.ptr 1 0 [] 0),(11,dI d1),(12,.ptr 2 e1 [] 0)] [.box (.pr (dD Aj i1) (.pr .zs (.pr (.Ak 3) .u))),.box (.pr (dD Aj i1) (.pr .zs (.pr (.Ak 3) .u))),.box (.pr (.Ak 4) (.pr (.Ak 5) (.pr (.Ak 6) .u))),.row 2 .Ai AIa j1.1,.row 83 (.sh []) Ah j1.2.1,.row 257 .Ai Ab j1.2.2.1,.row 2 .Ai AIa j1.2.2.2])) (λ(k1:(AH2×AHX×AHT))=>(Ex.exit 0,sT 146 [(6,.ptr 0 0 [] 0),(10,.ptr 1 0 [] 0),(11,dI d1),(12,.ptr 2 e1 [] 0)] [.box (.pr (.pr .zs .u) (.pr .zs (.pr .zs .u))),.box (.pr (dD Aj i1) (.pr .zs (.pr .zs .u))),.box (.pr (.Ak 3) (.pr (.Ak 4) (.pr (.Ak 5) .u))),.row 83 (.sh []) Ah k1.1,.row 257 .Ai Ab k1.2.1,.row 2 .Ai AIa k1.2.2]))
def Arj b1 c1 d1 (e1:Int) l1 g1 i1 n1 o1 q1:=sT 146 [(0,dD AId b1),(1,dD AIi c1),(6,.ptr 0 0 [] 0),(8,.ptr 1 0 [] 0),(10,.ptr 2 0 [] 0),(11,dI d1),(12,.ptr 3 e1 [] 0),(13,dI l1)] [.box (.pr (.pr .zs .u) (.pr .zs (.pr .zs .u))),.box (dD Aj g1),.box (.pr (dD Aj i1) (.pr .zs (.pr .zs .u))),.box (.pr (.Ak 4) (.pr (.Ak 5) (.pr (.Ak 6) .u))),.row 83 (.sh []) Ah n1,.row 257 .Ai Ab o1,.row 2 .Ai AIa q1]
def Apa b1 c1 d1 (e1:Int) l1 g1 i1 (n1:AH2) (o1:AHX) (q1:AHT):=Sum.elim (λ(s1:(AH2×AHX×AHT))=>(Ex.normal,sT 146 [(0,dD AId b1),(1,dD AIi c1),(6,.ptr 0 0 [] 0),(8,.ptr 1 0 [] 0),(10,.ptr 2 0 [] 0),(11,dI d1),(12,.ptr 3 e1 [] 0),(13,dI l1)] [.box (.pr (.pr .zs .u) (.pr .zs (.pr .zs .u))),.box (dD Aj g1),.box (.pr (dD Aj i1) (.pr .zs (.pr .zs .u))),.box (.pr (.Ak 4) (.pr (.Ak 5) (.pr (.Ak 6) .u))),.row 83 (.sh []) Ah s1.1,.row 257 .Ai Ab s1.2.1,.row 2 .Ai AIa s1.2.2])) (λ(t1:(AHT×AH2×AHX×AHT))=>(Ex.ret,sT 146 [(0,dD AId b1),(1,dD AIi c1),(6,.ptr 0 0 [] 0),(7,dB true),(8,.ptr 1 0 [] 0),(10,.ptr 2 0 [] 0),(11,dI d1),(12,.ptr 3 e1 [] 0),(13,dI l1)] [.box (.pr (dD Aj i1) (.pr .zs (.pr (.Ak 4) .u))),.box (dD Aj g1),.box (.pr (dD Aj i1) (.pr .zs (.pr (.Ak 4) .u))),.box (.pr (.Ak 5) (.pr (.Ak 6) (.pr (.Ak 7) .u))),.row 2 .Ai AIa t1.1,.row 83 (.sh []) Ah t1.2.1,.row 257 .Ai Ab t1.2.2.1,.row 2 .Ai AIa t1.2.2.2]))
def Ari b1 c1 d1 (e1:Int) l1 g1 i1 u1 (z_:Int×AH2×AHX×AHT):=sT 146 [(0,dD AId b1),(1,dD AIi c1),(6,.ptr 0 0 [] 0),(8,.ptr 1 0 [] 0),(10,.ptr 2 0 [] 0),(11,dI d1),(12,.ptr 3 e1 [] 0),(13,dI l1),(14,dD (.sl Aq) u1),(16,dI z_.1)] [.box (.pr (.pr .zs .u) (.pr .zs (.pr .zs .u))),.box (dD Aj g1),.box (.pr (dD Aj i1) (.pr .zs (.pr .zs .u))),.box (.pr (.Ak 4) (.pr (.Ak 5) (.pr (.Ak 6) .u))),.row 83 (.sh []) Ah z_.2.1,.row 257 .Ai Ab z_.2.2.1,.row 2 .Ai AIa z_.2.2.2]
def Ao9 b1 c1 d1 (e1:Int) l1 g1 i1 (u1:AH5):=Sum.elim (λ(v1:(AHT×AH2×AHX×AHT))=>(Ex.ret,sT 146 [(0,dD AId b1),(1,dD AIi c1),(6,.ptr 0 0 [] 0),(7,dB true),(8,.ptr 1 0 [] 0),(10,.ptr 2 0 [] 0),(11,dI d1),(12,.ptr 3 e1 [] 0),(13,dI l1)] [.box (.pr (dD Aj i1) (.pr .zs (.pr (.Ak 4) .u))),.box (dD Aj g1),.box (.pr (dD Aj i1) (.pr .zs (.pr (.Ak 4) .u))),.box (.pr (.Ak 5) (.pr (.Ak 6) (.pr (.Ak 7) .u))),.row 2 .Ai AIa v1.1,.row 83 (.sh []) Ah v1.2.1,.row 257 .Ai Ab v1.2.2.1,.row 2 .Ai AIa v1.2.2.2])) (λ(w1:(AH2×AHX×AHT))=>(Ex.exit 2,sT 146 [(0,dD AId b1),(1,dD AIi c1),(6,.ptr 0 0 [] 0),(8,.ptr 1 0 [] 0),(10,.ptr 2 0 [] 0),(11,dI d1),(12,.ptr 3 e1 [] 0),(13,dI l1)] [.box (.pr (.pr .zs .u) (.pr .zs (.pr .zs .u))),.box (dD Aj g1),.box (.pr (dD Aj i1) (.pr .zs (.pr .zs .u))),.box (.pr (.Ak 4) (.pr (.Ak 5) (.pr (.Ak 6) .u))),.row 83 (.sh []) Ah w1.1,.row 257 .Ai Ab w1.2.1,.row 2 .Ai AIa w1.2.2]))
def FE(b1:AHY)(c1:AH0)(d1 e1 l1:Int)(g1 i1:AHN)(u1:AH5)(x1:Int)(y1:AH2)(a2:AHX)(b2:AHT):Option ((Int×AH2×AHX×AHT)⊕((AHT×AH2×AHX×AHT)⊕(AH2×AHX×AHT))):=
 bif decide (x1<(u1.length:Int))then
 if 0<=x1/\x1<u1.length then
 if 0<=l1/\l1<c1.length then
 (Hg e1 (u1.getD x1.toNat Aq.zero) (c1.getD l1.toNat Af.zero).1 y1 a2 b2).bind λc2=>bif !c2.1 then
 some (.inr (.inl (c2.2.1,c2.2.2.1,c2.2.2.2.1,c2.2.2.2.2)))
 else
 some (.inl (wI (x1+1),c2.2.2.1,c2.2.2.2.1,c2.2.2.2.2))
 else none
 else none
 else
 some (.inr (.inr (y1,a2,b2)))
def DJ b1 c1 d1 e1 l1 g1 i1 u1 (z_:Int×AH2×AHX×AHT):=FE b1 c1 d1 e1 l1 g1 i1 u1 z_.1 z_.2.1 z_.2.2.1 z_.2.2.2
def EV b1 c1 d1 e1 l1 g1 i1 u1 x1 y1 a2 b2:=fix (DJ b1 c1 d1 e1 l1 g1 i1 u1) (x1,y1,a2,b2)
theorem AtE b1 c1 d1 e1 l1 g1 i1 u1:A5 lQ 0 13 (sb (cd f36 2036) 6) 46 (Ari b1 c1 d1 e1 l1 g1 i1 u1) (DJ b1 c1 d1 e1 l1 g1 i1 u1) (Ao9 b1 c1 d1 e1 l1 g1 i1 u1):=by
 intro _;simp only[DJ,FE,AHE];kernel_rfl
def EW(b1:AHY)(c1:AH0)(d1 e1 l1:Int)(g1 i1:AHN)(n1:AH2)(o1:AHX)(q1:AHT):Option ((AH2×AHX×AHT)⊕(AHT×AH2×AHX×AHT)):=
 if 0<=l1/\l1<c1.length then
 bif !(c1.getD l1.toNat Af.zero).2.1 then
 some (.inl (n1,o1,q1))
 else
 if 0<=l1/\l1<c1.length then
 (Ko b1 (c1.getD l1.toNat Af.zero) g1).bind λd2=>(EV b1 c1 d1 e1 l1 g1 i1 d2.2 0 n1 o1 q1).bind (Sum.elim (λv1=>some (.inr (v1.1,v1.2.1,v1.2.2.1,v1.2.2.2))) (λw1=>some (.inl (w1.1,w1.2.1,w1.2.2))))
 else none
 else none
theorem AtF b1 c1 d1 e1 l1 g1 i1 n1 o1 q1:AZ lQ 0 9 (cd f36 2036) 6 (Arj b1 c1 d1 e1 l1 g1 i1 n1 o1 q1) (EW b1 c1 d1 e1 l1 g1 i1 n1 o1 q1) (Apa b1 c1 d1 e1 l1 g1 i1 n1 o1 q1):=by
 unfold AZ;simp only[EW,AHE];simp(disch:=refine id ?_;kernel_rfl) only[EV,AF (AtE _ _ _ _ _ _ _ _) (K:=Te lQ 0 9)];kernel_rfl
def DK(b1:AHY)(c1:AH0)(d1 e1:Int)(g1 i1:AHN)(l1:Int)(n1:AH2)(o1:AHX)(q1:AHT):Option ((Int×AH2×AHX×AHT)⊕((AHT×AH2×AHX×AHT)⊕(AH2×AHX×AHT))):=
 bif decide (l1<(c1.length:Int))then
 (EW b1 c1 d1 e1 l1 g1 i1 n1 o1 q1).bind (Sum.elim (λs1=>some (.inl (wI (l1+1),s1.1,s1.2.1,s1.2.2))) (λt1=>some (.inr (.inl (t1.1,t1.2.1,t1.2.2.1,t1.2.2.2)))))
 else
 some (.inr (.inr (n1,o1,q1)))
def CQ b1 c1 d1 e1 g1 i1 (z_:Int×AH2×AHX×AHT):=DK b1 c1 d1 e1 g1 i1 z_.1 z_.2.1 z_.2.2.1 z_.2.2.2
def Dr b1 c1 d1 e1 g1 i1 l1 n1 o1 q1:=fix (CQ b1 c1 d1 e1 g1 i1) (l1,n1,o1,q1)
theorem AtG b1 c1 d1 e1 g1 i1:A5 lQ 0 8 (code f36) 1018 (Ark b1 c1 d1 e1 g1 i1) (CQ b1 c1 d1 e1 g1 i1) (Apb b1 c1 d1 e1 g1 i1):=by
 intro _;simp only[CQ,DK,AHE];simp(disch:=refine id ?_;kernel_rfl) only[Bg (AtF ..) (K:=Ld lQ 0 8)];kernel_rfl
def GG(b1:AHY)(c1:AH0)(e2:AHN):Option (Ca.V×Bool):=
 (Dt b1 c1 e2).bind λg2=>bif !g2.2 then
 some (((([]:AH6),()),([]:AH4),([]:AHT),()),false)
 else
 (Ey b1 g2.1).bind λi2=>(QG (i2.length:Int)).bind λj2=>(Dr b1 c1 (i2.length:Int) j2.1 g2.1 g2.1 0 j2.2.1 ([]:AHX) j2.2.2).bind (Sum.elim (λj1=>some ((g2.1,([]:AH4),j1.1,()),true)) (λk1=>(JC (i2.length:Int) j2.1 g2.1 0 ([]:AH4) k1.1 k1.2.1 k1.2.2).bind λd=>some ((g2.1,d,([]:AHT),()),true)))
theorem U64 R b1 c1 e2 K:AW lQ f36 R [dD AId b1,dD AIi c1,dD Aj e2] [] K=(GG b1 c1 e2).bind λr=>K (.cons (dD Ca r.1) (.cons (dB r.2) .nil)) []:=by
 simp only[GG,AHF];simp(disch:=refine id ?_;kernel_rfl) only[Dr,AF (AtG _ _ _ _ _ _) (K:=A4 lQ f36 0 R K),JC,AF (Ali _ _ _) (K:=A4 lQ f36 0 R K)];kernel_rfl
def c36:=Cx [.d AId,.d AIi,.d Aj] [⟨[.AA [] AId,.AA [] AIi,.AA [] Aj],[],Ca.V×Bool,λp=>GG p.1.1 p.1.2.1 p.1.2.2.1,λr=>(.cons (dD Ca r.1) (.cons (dB r.2) .nil),[])⟩]
theorem tt:As prog 36 c36:=Aw ⟨⟨lQ,pk ⟨AeC,tv,aU,AeZ,Ae0,tE,Ae1,trivial⟩,λ_ _ _=>U64 ..⟩,trivial⟩
abbrev E65:Bd:=⟨A7,Az [(36,c36),(51,c51),(53,c53),(93,c93),(94,c94)],{Ai:=true,fA:=[(24,AIi),(26,Aj)]}⟩
def Pv(a:AHY)(b:AH0):Option Int:=
 (DZ a b).bind λc=>bif !c then
 some 1
 else
 (JR a b).bind λd=>bif !d.1 then
 some 1
 else
 (H7 b).bind λe=>(LN a).bind λg=>(GG a e (g,())).bind λi=>bif decide ((i.1.2.2.1.length:Int)>0)then
 some 2
 else
 some 0
theorem U65 R a b K:AW E65 f92 R [dD AId a,dD AIi b] [] K=(Pv a b).bind λr=>K (dI r) []:=by
 simp only[Pv,AHF];kernel_rfl
def c92:=Cx [.d AId,.d AIi] [⟨[.AA [] AId,.AA [] AIi],[],Int,λp=>Pv p.1.1 p.1.2.1,λr=>(dI r,[])⟩]
theorem AeX:As prog 92 c92:=Aw ⟨⟨E65,pk ⟨tt,jH,tu,tB,tC,trivial⟩,λ_ _ _=>U65 ..⟩,trivial⟩
abbrev E66:Bd:=⟨A7,Az [(36,c36),(77,c77),(92,c92),(93,c93),(94,c94)],{Ai:=true,A9:=[(7,{Ap:=[5,7,8,9],Rj:=[(7,false,AIj)]})],BQ:=[(7,{Ap:=[8]})],BP:=[(8,{Ap:=[5,7,8,9]})],D2:=[(8,[5,7,8,9])],fA:=[(17,AIi),(19,Aj)]}⟩
def Arm a b (z_:Int×Int):=sT 56 [(5,.ptr 0 0 [] 0),(7,dD AIj a),(8,dI z_.1),(9,dI z_.2)] [.box (dD Ca b)]
def Apd(a:AHX)(b:Ca.V):=λ(c:Int)=>(Ex.exit 0,sT 56 [(8,dI c)] [])
def Arl a d e b:=sT 56 [(5,.ptr 0 0 [] 0),(7,dD AIj a),(8,dI d),(9,dI e)] [.box (dD Ca b)]
def Apc a (d:Int) e b:=λ(g:Int)=>(Ex.normal,sT 56 [(5,.ptr 0 0 [] 0),(7,dD AIj a),(8,dI g),(9,dI e)] [.box (dD Ca b)])
def IX(a:AHX)(d e:Int)(b:Ca.V):Option Int:=
 if 0<=e/\e<b.2.1.length then
 bif !(b.2.1.getD e.toNat Ao.zero).2.1 then
 if 0<=e/\e<b.2.1.length then
 if(0:Int)<=(0:Int)/\(0:Int)<((b.2.1.getD e.toNat Ao.zero).1.length:Int)then
 if(0:Int)<=((b.2.1.getD e.toNat Ao.zero).1.getD 0 AIa.zero)/\((b.2.1.getD e.toNat Ao.zero).1.getD 0 AIa.zero)<(a.length:Int)then
 some (wI (d+(a.getD ((b.2.1.getD e.toNat Ao.zero).1.getD 0 AIa.zero).toNat Ab.zero).2.2.1))
 else none
 else none
 else none
 else
 some d
 else none
theorem AtH a d e b:AZ E66 0 8 (cd f34 1012) 6 (Arl a d e b) (IX a d e b) (Apc a d e b):=by
 unfold AZ;simp only[IX,AHE];kernel_rfl
def JD(a:AHX)(b:Ca.V)(d e:Int):Option ((Int×Int)⊕Int):=
 bif decide (e<(b.2.1.length:Int))then
 (IX a d e b).bind λg=>some (.inl (g,wI (e+1)))
 else
 some (.inr d)
def GI a b (z_:Int×Int):=JD a b z_.1 z_.2
def IY a b d e:=fix (GI a b) (d,e)
theorem AtI a b:A5 E66 0 7 (code f34) 506 (Arm a b) (GI a b) (Apd a b):=by
 intro _;simp only[GI,JD,AHE];simp(disch:=refine id ?_;kernel_rfl) only[Bg (AtH ..) (K:=Ld E66 0 7)];kernel_rfl
def Kn(i:AHY)(j:AH0):Option Int:=
 (Pv i j).bind λk=>bif k !=0 then
 some (-1)
 else
 (H7 j).bind λl=>(LN i).bind λn=>(GG i l (n,())).bind λo=>(Ey i o.1.1).bind λa=>(IY a o.1 0 0).bind λc=>some c
theorem U66 R i j K:AW E66 f34 R [dD AId i,dD AIi j] [] K=(Kn i j).bind λr=>K (dI r) []:=by
 simp only[Kn,AHF];simp(disch:=refine id ?_;kernel_rfl) only[IY,AF (AtI _ _) (K:=A4 E66 f34 0 R K)];kernel_rfl
def c34:=Cx [.d AId,.d AIi] [⟨[.AA [] AId,.AA [] AIi],[],Int,λp=>Kn p.1.1 p.1.2.1,λr=>(dI r,[])⟩]
theorem AeF:As prog 34 c34:=Aw ⟨⟨E66,pk ⟨tt,aU,AeX,tB,tC,trivial⟩,λ_ _ _=>U66 ..⟩,trivial⟩
abbrev E67:Bd:=⟨A7,Az [],{Ai:=true,A9:=[(4,{Ap:=[0,3]})],BQ:=[(4,{Ap:=[2]})],BP:=[(2,{Ap:=[0,21]}),(7,{Ap:=[0,3,49]})],D2:=[(2,[0]),(7,[0,3])]}⟩
def Arp a (z_:Int):=sT 50 [(0,dD .str a),(3,dI z_)] []
def Apg(a:ByteArray):=Sum.elim (λ(b:Unit)=>(Ex.ret,sT 50 [(2,dB false)] [])) (λ(c:Unit)=>(Ex.exit 0,sT 50 [] []))
def Aro a d:=sT 50 [(0,dD .str a),(3,dI d)] []
def Apf a d:=λ(e:Bool)=>(Ex.normal,sT 50 [(0,dD .str a),(3,dI d),(49,dB e)] [])
def Lm(a:ByteArray)(d:Int):Option Bool:=
 if(0:Int)<=d/\d<(a.size:Int)then
 bif decide ((CB a d)<97)then
 if(0:Int)<=d/\d<(a.size:Int)then
 bif decide ((CB a d)<48)then
 some true
 else
 if(0:Int)<=d/\d<(a.size:Int)then
 some (decide ((CB a d)>57))
 else none
 else none
 else
 if(0:Int)<=d/\d<(a.size:Int)then
 bif decide ((CB a d)>122)then
 if(0:Int)<=d/\d<(a.size:Int)then
 bif decide ((CB a d)<48)then
 some true
 else
 if(0:Int)<=d/\d<(a.size:Int)then
 some (decide ((CB a d)>57))
 else none
 else none
 else
 some false
 else none
 else none
theorem AtL a d:AZ E67 0 7 (cd f180 116) 24 (Aro a d) (Lm a d) (Apf a d):=by
 unfold AZ;simp only[Lm,AHE];kernel_rfl
def L3(a:ByteArray)(d:Int):Option (Int⊕(Unit⊕Unit)):=
 bif decide (d<(a.size:Int))then
 (Lm a d).bind λe=>bif e then
 some (.inr (.inl ()))
 else
 some (.inl (wI (d+1)))
 else
 some (.inr (.inr ()))
def II a (z_:Int):=L3 a z_
def Ss a d:=fix (II a) d
theorem AtM a:A5 E67 0 4 (code f180) 58 (Arp a) (II a) (Apg a):=by
 intro _;simp only[II,L3,AHE];simp(disch:=refine id ?_;kernel_rfl) only[Bg (AtL ..) (K:=Ld E67 0 4)];kernel_rfl
def Arn a:=sT 50 [(0,dD .str a)] []
def Ape a:=λ(g:Bool)=>(Ex.normal,sT 50 [(0,dD .str a),(21,dB g)] [])
def O9(a:ByteArray):Option Bool:=
 bif decide ((a.size:Int)<1)then
 some true
 else
 bif decide ((a.size:Int)>12)then
 some true
 else
 if(0:Int)<=(0:Int)/\(0:Int)<(a.size:Int)then
 bif decide ((CB a 0)<97)then
 some true
 else
 if(0:Int)<=(0:Int)/\(0:Int)<(a.size:Int)then
 some (decide ((CB a 0)>122))
 else none
 else none
theorem AtJ a:AZ E67 0 2 (code f180) 12 (Arn a) (O9 a) (Ape a):=by
 unfold AZ;simp only[O9,AHE];kernel_rfl
def Ll(a:ByteArray):Option Bool:=
 (O9 a).bind λg=>bif g then
 some false
 else
 (Ss a 0).bind (Sum.elim (λb=>some false) (λc=>some true))
theorem U67 R a K:AW E67 f180 R [dD .str a] [] K=(Ll a).bind λr=>K (dB r) []:=by
 simp only[Ll,AHF];simp(disch:=refine id ?_;kernel_rfl) only[Bg (AtJ _) (K:=A4 E67 f180 0 R K),Ss,AF (AtM _) (K:=A4 E67 f180 0 R K)];kernel_rfl
def Avj:=Cx [.d .str] [⟨[.AA [] .str],[],Bool,λp=>Ll p.1.1,λr=>(dB r,[])⟩]
theorem zS:As prog 180 Avj:=Aw ⟨⟨E67,pk trivial,λ_ _ _=>U67 ..⟩,trivial⟩
abbrev E68:Bd:=⟨A7,Az [],{Ai:=true}⟩
def AK(a b c:Int):Bool:=((decide (a>=b))&&(decide (a<=c)))
theorem U68 R a b c K:AW E68 f59 R [dI a,dI b,dI c] [] K=K (dB (AK a b c)) []:=by
 have h:AW E68 f59 R [dI a,dI b,dI c] [] K =
 bif decide (a>=b)then
 K (dB (decide (a<=c))) []
 else
 K (dB false) []:=by kernel_rfl
 rw[h];unfold AK;cases (decide (a>=b))
 ·rfl
 ·rfl
def c59:=Cx [.d AIa,.d AIa,.d AIa] [⟨[.AA [] AIa,.AA [] AIa,.AA [] AIa],[],Bool,λp=>some (AK p.1.1 p.1.2.1 p.1.2.2.1),λr=>(dB r,[])⟩]
theorem Ws:As prog 59 c59:=Aw ⟨⟨E68,pk trivial,λ_ _ _=>U68 ..⟩,trivial⟩
abbrev E69:Bd:=⟨A7,Az [],{Ai:=true}⟩
def Ns(a:AHI)(b:ByteArray):Bool:=(Ia a.1 b)
theorem U69 R a b K:AW E69 f220 R [dD Ad a,.Eh [] .str b] [] K=K (dB (Ns a b)) []:=by
 kernel_rfl
def AvC:=Cx [.d Ad,.p .str] [⟨[.AA [] Ad,.Eh [] .str],[],Bool,λp=>some (Ns p.1.1 p.1.2.1),λr=>(dB r,[])⟩]
theorem Aah:As prog 220 AvC:=Aw ⟨⟨E69,pk trivial,λ_ _ _=>U69 ..⟩,trivial⟩
abbrev E70:Bd:=⟨A7,Az [(220,AvC)],{Ai:=true,A9:=[(2,{Ap:=[0,1,7,8]})],BQ:=[(2,{Ap:=[4]})]}⟩
def Arq a (b:Int) c d (z_:Int):=sT 19 [(0,dD AId a),(1,.fn 220 (.cons (.ptr 0 b [] 0) .nil)),(7,dI d),(8,dI z_)] [.box (dD .str c)]
def Aph(a:AHY)(b:Int) c (d:Int):=Sum.elim (λ(e:Int)=>(Ex.ret,sT 19 [(4,dI e)] [.box (dD .str c)])) (λ(g:Unit)=>(Ex.exit 0,sT 19 [] [.box (dD .str c)]))
def Dp(a:AHY)(b:Int)(c:ByteArray)(d i:Int):Option (Int⊕(Int⊕Unit)):=
 bif decide (i<d)then
 if 0<=i/\i<a.length then
 bif Ns (a.getD i.toNat Ad.zero) c then
 some (.inr (.inl i))
 else
 some (.inl (wI (i+1)))
 else none
 else
 some (.inr (.inr ()))
def Cu a b c d (z_:Int):=Dp a b c d z_
def H6 a b c d i:=fix (Cu a b c d) i
theorem AtN a b c d:A5 E70 1 2 (code f219) 26 (Arq a b c d) (Cu a b c d) (Aph a b c d):=by
 intro _;simp only[Cu,Dp,AHE];kernel_rfl
def D6(a:AHY)(b:Int)(c:ByteArray):Option (Int×ByteArray):=
 (H6 a b c (a.length:Int) 0).bind (Sum.elim (λe=>some (e,c)) (λg=>some (-1,c)))
theorem U70 R a b c K:AW E70 f219 R [dD AId a,.fn 220 (.cons (.ptr 0 b [] 0) .nil)] [.box (dD .str c)] K=(D6 a b c).bind λr=>K (dI r.1) [.box (dD .str r.2)]:=by
 simp only[D6,AHF];simp(disch:=refine id ?_;kernel_rfl) only[H6,AF (AtN _ _ _ _) (K:=A4 E70 f219 1 R K)];kernel_rfl
def AvB:=Cx [.d AId,.Vu] [⟨[.AA [] AId,.fn 220 (.cons (.ptr 0 [] 0) (.k .nil))],[.box (.AA [] .str)],Int×ByteArray,λp=>D6 p.1.1 p.1.2.1.1 p.2.1,λr=>(dI r.1,[.box (dD .str r.2)])⟩]
theorem Aag:As prog 219 AvB:=Aw ⟨⟨E70,pk ⟨Aah,trivial⟩,λ_ _ _=>U70 ..⟩,trivial⟩
abbrev E71:Bd:=⟨A7,Az [(219,AvB)],{Ai:=true}⟩
def HW(a:AHY)(b:ByteArray):Option Int:=
 (D6 a 0 b).bind λc=>some c.1
theorem U71 R a b K:AW E71 f181 R [dD AId a,dD .str b] [] K=(HW a b).bind λr=>K (dI r) []:=by
 simp only[HW,AHF];kernel_rfl
def Avk:=Cx [.d AId,.d .str] [⟨[.AA [] AId,.AA [] .str],[],Int,λp=>HW p.1.1 p.1.2.1,λr=>(dI r,[])⟩]
theorem zT:As prog 181 Avk:=Aw ⟨⟨E71,pk ⟨Aag,trivial⟩,λ_ _ _=>U71 ..⟩,trivial⟩
abbrev E72:Bd:=⟨A7,Az [(59,c59),(180,Avj),(181,Avk)],{Ai:=true,A9:=[(5,{Ap:=[0,3,9,10,11]})],BQ:=[(5,{Ap:=[2,3]})],BP:=[(8,{Ap:=[0,3,5,9,10,11,34]})],D2:=[(8,[0,3,4,5,9,10,11])]}⟩
def Ars a b (z_:Int×Int):=sT 42 [(0,dD AId a),(3,dI z_.1),(9,dD AId a),(10,dI b),(11,dI z_.2)] []
def Apj(a:AHY)(b:Int):=Sum.elim (λ(c:Int)=>(Ex.ret,sT 42 [(2,dB false),(3,dI c)] [])) (λ(d:Int)=>(Ex.exit 0,sT 42 [(3,dI d)] []))
def Arr a e g b i:=sT 42 [(0,dD AId a),(3,dI e),(4,dI g),(5,.ptr 0 0 [] 0),(9,dD AId a),(10,dI b),(11,dI g)] [.box (dD Ad i)]
def Api a e g b i:=λ(j:Bool)=>(Ex.normal,sT 42 [(0,dD AId a),(3,dI e),(5,.ptr 0 0 [] 0),(9,dD AId a),(10,dI b),(11,dI g),(34,dB j)] [.box (dD Ad i)])
def Nq(a:AHY)(e g b:Int)(i:AHI):Option Bool:=
 (Ll i.1).bind λk=>bif !k then
 some true
 else
 bif !(AK i.2.1 1 4096)then
 some true
 else
 if(0:Int)<=(0:Int)/\(0:Int)<=g/\g<=(a.length:Int)then
 (HW ((a.take g.toNat).drop 0) i.1).bind λl=>some (decide (l>=0))
 else none
theorem AtO a e g b i:AZ E72 0 8 (cd f113 244) 228 (Arr a e g b i) (Nq a e g b i) (Api a e g b i):=by
 unfold AZ;simp only[Nq,AHE];kernel_rfl
def KD(a:AHY)(b e g:Int):Option ((Int×Int)⊕(Int⊕Int)):=
 bif decide (g<b)then
 if 0<=g/\g<a.length then
 (Nq a e g b (a.getD g.toNat Ad.zero)).bind λj=>bif j then
 some (.inr (.inl e))
 else
 some (.inl (wI (e+(a.getD g.toNat Ad.zero).2.1),wI (g+1)))
 else none
 else
 some (.inr (.inr e))
def Hj a b (z_:Int×Int):=KD a b z_.1 z_.2
def Rp a b e g:=fix (Hj a b) (e,g)
theorem AtP a b:A5 E72 0 5 (code f113) 122 (Ars a b) (Hj a b) (Apj a b):=by
 intro _;simp only[Hj,KD,AHE];simp(disch:=refine id ?_;kernel_rfl) only[Bg (AtO ..) (K:=Ld E72 0 5)];kernel_rfl
def Jf(a:AHY):Option Bool:=
 bif decide ((a.length:Int)>60)then
 some false
 else
 (Rp a (a.length:Int) 0 0).bind (Sum.elim (λc=>some false) (λd=>some (decide (d<=20000))))
theorem U72 R a K:AW E72 f113 R [dD AId a] [] K=(Jf a).bind λr=>K (dB r) []:=by
 simp only[Jf,AHF];simp(disch:=refine id ?_;kernel_rfl) only[Rp,AF (AtP _ _) (K:=A4 E72 f113 0 R K)];kernel_rfl
def Aln:=Cx [.d AId] [⟨[.AA [] AId],[],Bool,λp=>Jf p.1.1,λr=>(dB r,[])⟩]
theorem mJ:As prog 113 Aln:=Aw ⟨⟨E72,pk ⟨Ws,zS,zT,trivial⟩,λ_ _ _=>U72 ..⟩,trivial⟩
abbrev E73:Bd:=⟨A7,Az [],{Ai:=true}⟩
def BX(a:Int):Int:=(wI (Int.tdiv (wI (a+63)) 64))
theorem U73 R a K:AW E73 f200 R [dI a] [] K=K (dI (BX a)) []:=by
 kernel_rfl
def Alu:=Cx [.d AIa] [⟨[.AA [] AIa],[],Int,λp=>some (BX p.1.1),λr=>(dI r,[])⟩]
theorem mU:As prog 200 Alu:=Aw ⟨⟨E73,pk trivial,λ_ _ _=>U73 ..⟩,trivial⟩
abbrev E74:Bd:=⟨A7,Az [(59,c59),(200,Alu)],{Ai:=true,BP:=[(2,{Ap:=[1,16]})],D2:=[(2,[1])]}⟩
def yy a:=sT 35 [(1,.ptr 0 0 [] 0)] [.box (dD Ah a)]
def xW(a:AHM)(m0:Bool):Ex×St:=(.normal,sT 35 [(1,.ptr 0 0 [] 0),(16,dB m0)] [.box (dD Ah a)])
theorem AtQ a:MY E74 0 2 (code f265) (pt 12) (yy a)=some (xW a ((!(AK a.1 1 4096))||((a.2.1.length:Int) !=(BX a.1)))):=by
 have h0:MY E74 0 2 (code f265) (pt 12) (yy a) =
 bif !(AK a.1 1 4096)then
 some (xW a true)
 else
 some (xW a ((a.2.1.length:Int) !=(BX a.1))):=by kernel_rfl
 rw[h0];cases (!(AK a.1 1 4096))
 ·rfl
 ·rfl
def Lj(a:AHM):Option Bool:=
 P2 (yy a) (
 bif (!(AK a.1 1 4096))||((a.2.1.length:Int) !=(BX a.1))then
 some false
 else
 bif (Int.tmod a.1 64)==0 then
 some true
 else
 if 0<=(wI ((a.2.1.length:Int)-1))/\(wI ((a.2.1.length:Int)-1))<a.2.1.length then
 if(Int.tmod a.1 64)<(0:Int)then none else
 some ((RA .u64 (a.2.1.getD (wI ((a.2.1.length:Int)-1)).toNat AIb.zero) (Int.tmod a.1 64))==0)
 else none)
theorem U74 R a K:AW E74 f265 R [dD Ah a] [] K=(Lj a).bind λr=>K (dB r) []:=by
 simp only[Lj,AHF];simp(disch:=refine id ?_;kernel_rfl) only[F4 (AtQ _) (K:=A4 E74 f265 0 R K)];kernel_rfl
def AvX:=Cx [.d Ah] [⟨[.AA [] Ah],[],Bool,λp=>Lj p.1.1,λr=>(dB r,[])⟩]
theorem AaC:As prog 265 AvX:=Aw ⟨⟨E74,pk ⟨Ws,mU,trivial⟩,λ_ _ _=>U74 ..⟩,trivial⟩
abbrev ZS:Bd:=⟨A7,Az [(59,c59),(265,AvX)],{Ai:=true,A9:=[(11,{Ap:=[8,80,81,82]})],BQ:=[(11,{Ap:=[8]})],BP:=[(4,{Ap:=[0,1,2,7]}),(5,{Ap:=[0,1,2,7,17]}),(7,{Ap:=[0,2,7,46]}),(9,{Ap:=[0,2,7,69]}),(19,{Ap:=[0,7,95]}),(21,{Ap:=[0,7,137]}),(23,{Ap:=[0,7,163]}),(25,{Ap:=[0,7,184]})],D2:=[(4,[0,1,2,7]),(5,[0,1,2,7]),(7,[0,2,7]),(9,[0,2,7]),(19,[0,7]),(21,[0,7]),(23,[0,7]),(25,[0,7])]}⟩
def yE a b:=sT 203 [(0,.Eh [] Ag a),(7,dI b)] []
def xY(a:AHL)(b:Int)(m0:Bool):Ex×St:=(.normal,sT 203 [(0,.Eh [] Ag a),(7,dI b),(184,dB m0)] [])
theorem AtZ a b:MY ZS 0 25 (code f248) (pt 1998846) (yE a b)=some (xY a b ((a.1==9)&&(AK a.2.2.1 1 4096))):=by
 have h0:MY ZS 0 25 (code f248) (pt 1998846) (yE a b) =
 bif a.1==9 then
 some (xY a b (AK a.2.2.1 1 4096))
 else
 some (xY a b false):=by kernel_rfl
 rw[h0];cases (a.1==9)
 ·rfl
 ·rfl
def yD a b:=sT 203 [(0,.Eh [] Ag a),(7,dI b)] []
def sW(a:AHL)(b:Int)(m0:Bool):Ex×St:=(.normal,sT 203 [(0,.Eh [] Ag a),(7,dI b),(163,dB m0)] [])
theorem AtY a b:MY ZS 0 23 (code f248) (pt 499710) (yD a b)=some (sW a b (bif a.1==7 then(AK a.2.2.1 0 4096)else((a.1==8)&&(AK a.2.2.1 0 4096)))):=by
 have h0:MY ZS 0 23 (code f248) (pt 499710) (yD a b) =
 bif a.1==7 then
 some (sW a b (AK a.2.2.1 0 4096))
 else
 bif a.1==8 then
 some (sW a b (AK a.2.2.1 0 4096))
 else
 some (sW a b false):=by kernel_rfl
 rw[h0];cases (a.1==7)
 ·cases (a.1==8)
  ·rfl
  ·rfl
 ·rfl
def yC a b:=sT 203 [(0,.Eh [] Ag a),(7,dI b)] []
def sV(a:AHL)(b:Int)(m0:Bool):Ex×St:=(.normal,sT 203 [(0,.Eh [] Ag a),(7,dI b),(137,dB m0)] [])
theorem AtX a b:MY ZS 0 21 (code f248) (pt 124926) (yC a b)=some (sV a b (bif a.1==5 then(AK a.2.2.1 0 4096)else((a.1==6)&&(AK a.2.2.1 0 4096)))):=by
 have h0:MY ZS 0 21 (code f248) (pt 124926) (yC a b) =
 bif a.1==5 then
 some (sV a b (AK a.2.2.1 0 4096))
 else
 bif a.1==6 then
 some (sV a b (AK a.2.2.1 0 4096))
 else
 some (sV a b false):=by kernel_rfl
 rw[h0];cases (a.1==5)
 ·cases (a.1==6)
  ·rfl
  ·rfl
 ·rfl
def yB a b:=sT 203 [(0,.Eh [] Ag a),(7,dI b)] []
def l9(a:AHL)(b:Int)(m0:Bool):Ex×St:=(.normal,sT 203 [(0,.Eh [] Ag a),(7,dI b),(95,dB m0)] [])
theorem AtW a b:MY ZS 0 19 (code f248) (pt 31230) (yB a b)=some (l9 a b ((a.1==4)&&((decide (a.2.2.2.1>=0))&&((decide (a.2.2.2.1<=a.2.2.1))&&(decide (a.2.2.1<b)))))):=by
 have h0:MY ZS 0 19 (code f248) (pt 31230) (yB a b) =
 bif a.1==4 then
 bif decide (a.2.2.2.1>=0)then
 bif decide (a.2.2.2.1<=a.2.2.1)then
 some (l9 a b (decide (a.2.2.1<b)))
 else
 some (l9 a b false)
 else
 some (l9 a b false)
 else
 some (l9 a b false):=by kernel_rfl
 rw[h0];cases (a.1==4)
 ·rfl
 ·cases (decide (a.2.2.2.1>=0))
  ·rfl
  ·cases (decide (a.2.2.2.1<=a.2.2.1))
   ·rfl
   ·rfl
def Arv c d (z_:Int×Int):=sT 203 [(8,dI z_.1),(80,dD AIf c),(81,dI d),(82,dI z_.2)] []
def Apm(c:AHT)(d:Int):=λ(e:Int)=>(Ex.exit 1,sT 203 [(8,dI e)] [])
def GX(c:AHT)(d g i:Int):Option ((Int×Int)⊕Int):=
 bif decide (i<d)then
 if 0<=i/\i<c.length then
 some (.inl (wI (g+(c.getD i.toNat AIa.zero)),wI (i+1)))
 else none
 else
 some (.inr g)
def Ch c d (z_:Int×Int):=GX c d z_.1 z_.2
def MU c d g i:=fix (Ch c d) (g,i)
theorem AtV c d:A5 ZS 0 11 (code f248) 62442 (Arv c d) (Ch c d) (Apm c d):=by
 intro _;simp only[Ch,GX,AHE];kernel_rfl
def yA a c b:=sT 203 [(0,.Eh [] Ag a),(2,dD AIf c),(7,dI b)] []
def xX(a:AHL)(c:AHT)(b:Int)(m0:Bool):Ex×St:=(.normal,sT 203 [(0,.Eh [] Ag a),(2,dD AIf c),(7,dI b),(69,dB m0)] [])
theorem AtU a c b:MY ZS 0 9 (code f248) (pt 1950) (yA a c b)=some (xX a c b ((a.1==3)&&(decide ((c.length:Int)>1)))):=by
 have h0:MY ZS 0 9 (code f248) (pt 1950) (yA a c b) =
 bif a.1==3 then
 some (xX a c b (decide ((c.length:Int)>1)))
 else
 some (xX a c b false):=by kernel_rfl
 rw[h0];cases (a.1==3)
 ·rfl
 ·rfl
def Aru a c b:=sT 203 [(0,.Eh [] Ag a),(2,dD AIf c),(7,dI b)] []
def Apl a c b:=λ(j:Bool)=>(Ex.normal,sT 203 [(0,.Eh [] Ag a),(2,dD AIf c),(7,dI b),(46,dB j)] [])
def Fz(a:AHL)(c:AHT)(b:Int):Option Bool:=
 bif a.1==2 then
 bif (c.length:Int)==0 then
 (Lj a.2.2.2.2.1).bind λk=>some k
 else
 some false
 else
 some false
theorem AtT a c b:AZ ZS 0 7 (code f248) 486 (Aru a c b) (Fz a c b) (Apl a c b):=by
 unfold AZ;simp only[Fz,AHE];kernel_rfl
def yz a l c b:=sT 203 [(0,.Eh [] Ag a),(1,dD AId l),(2,dD AIf c),(7,dI b)] []
def sU(a:AHL)(l:AHY)(c:AHT)(b:Int)(m0:Bool):Ex×St:=(.normal,sT 203 [(0,.Eh [] Ag a),(1,dD AId l),(2,dD AIf c),(7,dI b),(17,dB m0)] [])
theorem AtS a l c b:MY ZS 0 5 (code f248) (pt 120) (yz a l c b)=some (sU a l c b ((a.1==1)&&(((c.length:Int)==0)&&(AK a.2.1 0 (wI ((l.length:Int)-1)))))):=by
 have h0:MY ZS 0 5 (code f248) (pt 120) (yz a l c b) =
 bif a.1==1 then
 bif (c.length:Int)==0 then
 some (sU a l c b (AK a.2.1 0 (wI ((l.length:Int)-1))))
 else
 some (sU a l c b false)
 else
 some (sU a l c b false):=by kernel_rfl
 rw[h0];cases (a.1==1)
 ·rfl
 ·cases ((c.length:Int)==0)
  ·rfl
  ·rfl
def Art a l c:=sT 203 [(0,.Eh [] Ag a),(1,dD AId l),(2,dD AIf c),(7,dI 0)] []
def Apk a l c:=λ(b:Int)=>(Ex.normal,sT 203 [(0,.Eh [] Ag a),(1,dD AId l),(2,dD AIf c),(7,dI b)] [])
def Fy(a:AHL)(l:AHY)(c:AHT):Option Int:=
 bif decide ((c.length:Int)>0)then
 if(0:Int)<=(0:Int)/\(0:Int)<(c.length:Int)then
 some (c.getD 0 AIa.zero)
 else none
 else
 some 0
theorem AtR a l c:AZ ZS 0 4 (code f248) 14 (Art a l c) (Fy a l c) (Apk a l c):=by
 unfold AZ;simp only[Fy,AHE];kernel_rfl
def D9(a:AHL)(l:AHY)(c:AHT):Option Int:=
 (Fy a l c).bind λb=>P2 (yz a l c b) (
 bif (a.1==1)&&(((c.length:Int)==0)&&(AK a.2.1 0 (wI ((l.length:Int)-1))))then
 if(0:Int)<=a.2.1/\a.2.1<(l.length:Int)then
 some (l.getD a.2.1.toNat Ad.zero).2.1
 else none
 else
 (Fz a c b).bind λj=>bif j then
 some a.2.2.2.2.1.1
 else
 P2 (yA a c b) (
 bif (a.1==3)&&(decide ((c.length:Int)>1))then
 (MU c (c.length:Int) 0 0).bind λe=>some e
 else
 bif (c.length:Int) !=1 then
 some (-1)
 else
 P2 (yB a b) (
 bif (a.1==4)&&((decide (a.2.2.2.1>=0))&&((decide (a.2.2.2.1<=a.2.2.1))&&(decide (a.2.2.1<b))))then
 some (wI ((wI (a.2.2.1-a.2.2.2.1))+1))
 else
 P2 (yC a b) (
 bif bif (a.1==5)then(AK a.2.2.1 0 4096)else((a.1==6)&&(AK a.2.2.1 0 4096))then
 some (wI (b+a.2.2.1))
 else
 P2 (yD a b) (
 bif bif (a.1==7)then(AK a.2.2.1 0 4096)else((a.1==8)&&(AK a.2.2.1 0 4096))then
 some b
 else
 P2 (yE a b) (
 bif (a.1==9)&&(AK a.2.2.1 1 4096)then
 some (wI (b*a.2.2.1))
 else
 some (-1)))))))
theorem U75 R a l c K:AW ZS f248 R [.Eh [] Ag a,dD AId l,dD AIf c] [] K=(D9 a l c).bind λr=>K (dI r) []:=by
 simp only[D9,AHF];simp(disch:=refine id ?_;kernel_rfl) only[Bg (AtR ..) (K:=A4 ZS f248 0 R K),F4 (AtS ..) (K:=A4 ZS f248 0 R K),Bg (AtT ..) (K:=A4 ZS f248 0 R K),F4 (AtU ..) (K:=A4 ZS f248 0 R K),MU,AF (AtV _ _) (K:=A4 ZS f248 0 R K),F4 (AtW ..) (K:=A4 ZS f248 0 R K),F4 (AtX ..) (K:=A4 ZS f248 0 R K),F4 (AtY ..) (K:=A4 ZS f248 0 R K),F4 (AtZ ..) (K:=A4 ZS f248 0 R K)];kernel_rfl
def AvO:=Cx [.p Ag,.d AId,.d AIf] [⟨[.Eh [] Ag,.AA [] AId,.AA [] AIf],[],Int,λp=>D9 p.1.1 p.1.2.1 p.1.2.2.1,λr=>(dI r,[])⟩]
theorem Aat:As prog 248 AvO:=Aw ⟨⟨ZS,pk ⟨Ws,AaC,trivial⟩,λ_ _ _=>U75 ..⟩,trivial⟩
abbrev E76:Bd:=⟨A7,Az [],{Ai:=true,BP:=[(2,{Ap:=[0,3]}),(3,{Ap:=[0,52]})],D2:=[(2,[0]),(3,[0,3])]}⟩
def yG a:=sT 75 [(0,.Eh [] Ag a),(3,dB ((decide (a.1>=4))&&(decide (a.1<=9))))] []
def UZ(a:AHL)(m0:Bool):Ex×St:=(.normal,sT 75 [(0,.Eh [] Ag a),(52,dB m0)] [])
theorem At1 a:MY E76 0 3 (code f249) (pt 28) (yG a)=some (UZ a (bif !((decide (a.1>=4))&&(decide (a.1<=9)))then((a.2.2.1 !=0)||(bif a.1 !=4 then((a.2.2.2.1 !=0)||((a.1 !=1)&&(a.2.1 !=0)))else((a.1 !=1)&&(a.2.1 !=0))))else(bif a.1 !=4 then((a.2.2.2.1 !=0)||((a.1 !=1)&&(a.2.1 !=0)))else((a.1 !=1)&&(a.2.1 !=0))))):=by
 have h0:MY E76 0 3 (code f249) (pt 28) (yG a) =
 bif !((decide (a.1>=4))&&(decide (a.1<=9)))then
 bif a.2.2.1 !=0 then
 some (UZ a true)
 else
 bif a.1 !=4 then
 bif a.2.2.2.1 !=0 then
 some (UZ a true)
 else
 bif a.1 !=1 then
 some (UZ a (a.2.1 !=0))
 else
 some (UZ a false)
 else
 bif a.1 !=1 then
 some (UZ a (a.2.1 !=0))
 else
 some (UZ a false)
 else
 bif a.1 !=4 then
 bif a.2.2.2.1 !=0 then
 some (UZ a true)
 else
 bif a.1 !=1 then
 some (UZ a (a.2.1 !=0))
 else
 some (UZ a false)
 else
 bif a.1 !=1 then
 some (UZ a (a.2.1 !=0))
 else
 some (UZ a false):=by kernel_rfl
 rw[h0];cases (!((decide (a.1>=4))&&(decide (a.1<=9))))
 ·cases (a.1 !=4)
  ·cases (a.1 !=1)
   ·rfl
   ·rfl
  ·cases (a.2.2.2.1 !=0)
   ·cases (a.1 !=1)
    ·rfl
    ·rfl
   ·rfl
 ·cases (a.2.2.1 !=0)
  ·cases (a.1 !=4)
   ·cases (a.1 !=1)
    ·rfl
    ·rfl
   ·cases (a.2.2.2.1 !=0)
    ·cases (a.1 !=1)
     ·rfl
     ·rfl
    ·rfl
  ·rfl
def yF a:=sT 75 [(0,.Eh [] Ag a)] []
def xZ(a:AHL)(m0:Bool):Ex×St:=(.normal,sT 75 [(0,.Eh [] Ag a),(3,dB m0)] [])
theorem At0 a:MY E76 0 2 (code f249) (pt 6) (yF a)=some (xZ a ((decide (a.1>=4))&&(decide (a.1<=9)))):=by
 have h0:MY E76 0 2 (code f249) (pt 6) (yF a) =
 bif decide (a.1>=4)then
 some (xZ a (decide (a.1<=9)))
 else
 some (xZ a false):=by kernel_rfl
 rw[h0];cases (decide (a.1>=4))
 ·rfl
 ·rfl
def D8(a:AHL):Bool:=((!(bif !((decide (a.1>=4))&&(decide (a.1<=9)))then((a.2.2.1 !=0)||(bif a.1 !=4 then((a.2.2.2.1 !=0)||((a.1 !=1)&&(a.2.1 !=0)))else((a.1 !=1)&&(a.2.1 !=0))))else(bif a.1 !=4 then((a.2.2.2.1 !=0)||((a.1 !=1)&&(a.2.1 !=0)))else((a.1 !=1)&&(a.2.1 !=0)))))&&((a.1==2)||((a.2.2.2.2.1.1==0)&&((a.2.2.2.2.1.2.1.length:Int)==0))))
theorem U76 R a K:AW E76 f249 R [.Eh [] Ag a] [] K=K (dB (D8 a)) []:=by
 have h:AW E76 f249 R [.Eh [] Ag a] [] K =
 P2 (yF a) (
 P2 (yG a) (
 bif bif (!((decide (a.1>=4))&&(decide (a.1<=9))))then((a.2.2.1 !=0)||(bif (a.1 !=4)then((a.2.2.2.1 !=0)||((a.1 !=1)&&(a.2.1 !=0)))else((a.1 !=1)&&(a.2.1 !=0))))else(bif (a.1 !=4)then((a.2.2.2.1 !=0)||((a.1 !=1)&&(a.2.1 !=0)))else((a.1 !=1)&&(a.2.1 !=0)))then
 K (dB false) []
 else
 bif a.1==2 then
 K (dB true) []
 else
 bif a.2.2.2.2.1.1==0 then
 K (dB ((a.2.2.2.2.1.2.1.length:Int)==0)) []
 else
 K (dB false) [])):=by
  simp(disch:=refine id ?_;kernel_rfl) only[F4 (At0 _) (K:=A4 E76 f249 0 R K),F4 (At1 _) (K:=A4 E76 f249 0 R K)];kernel_rfl
 rw[h];unfold D8;cases (bif !((decide (a.1>=4))&&(decide (a.1<=9)))then((a.2.2.1 !=0)||(bif a.1 !=4 then((a.2.2.2.1 !=0)||((a.1 !=1)&&(a.2.1 !=0)))else((a.1 !=1)&&(a.2.1 !=0))))else(bif a.1 !=4 then((a.2.2.2.1 !=0)||((a.1 !=1)&&(a.2.1 !=0)))else((a.1 !=1)&&(a.2.1 !=0))))
 ·cases (a.1==2)
  ·cases (a.2.2.2.2.1.1==0)
   ·rfl
   ·rfl
  ·rfl
 ·rfl
def AvP:=Cx [.p Ag] [⟨[.Eh [] Ag],[],Bool,λp=>some (D8 p.1.1),λr=>(dB r,[])⟩]
theorem Aau:As prog 249 AvP:=Aw ⟨⟨E76,pk trivial,λ_ _ _=>U76 ..⟩,trivial⟩
abbrev E77:Bd:=⟨A7,Az [],{Ai:=true,A9:=[(2,{Ap:=[0,1,7,8]})],BQ:=[(2,{Ap:=[4]})]}⟩
def Arw a b c (z_:Int):=sT 19 [(0,dD AIg a),(1,dB b),(7,dI c),(8,dI z_)] []
def Apn(a:AHU)(b:Bool)(c:Int):=Sum.elim (λ(d:Int)=>(Ex.ret,sT 19 [(4,dI d)] [])) (λ(e:Unit)=>(Ex.exit 0,sT 19 [] []))
def F0(a:AHU)(b:Bool)(c g:Int):Option (Int⊕(Int⊕Unit)):=
 bif decide (g<c)then
 if 0<=g/\g<a.length then
 bif b==(a.getD g.toNat (Ty.zero .bool))then
 some (.inr (.inl g))
 else
 some (.inl (wI (g+1)))
 else none
 else
 some (.inr (.inr ()))
def Dq a b c (z_:Int):=F0 a b c z_
def Lx a b c g:=fix (Dq a b c) g
theorem At2 a b c:A5 E77 0 2 (code f266) 26 (Arw a b c) (Dq a b c) (Apn a b c):=by
 intro _;simp only[Dq,F0,AHE];kernel_rfl
def HG(a:AHU)(b:Bool):Option Int:=
 (Lx a b (a.length:Int) 0).bind (Sum.elim (λd=>some d) (λe=>some (-1)))
theorem U77 R a b K:AW E77 f266 R [dD AIg a,dB b] [] K=(HG a b).bind λr=>K (dI r) []:=by
 simp only[HG,AHF];simp(disch:=refine id ?_;kernel_rfl) only[Lx,AF (At2 _ _ _) (K:=A4 E77 f266 0 R K)];kernel_rfl
def AvY:=Cx [.d AIg,.d .bool] [⟨[.AA [] AIg,.AA [] .bool],[],Int,λp=>HG p.1.1 p.1.2.1,λr=>(dI r,[])⟩]
theorem AaD:As prog 266 AvY:=Aw ⟨⟨E77,pk trivial,λ_ _ _=>U77 ..⟩,trivial⟩
abbrev E78:Bd:=⟨A7,Az [(266,AvY)],{Ai:=true}⟩
def C9(a:AHU)(b:Bool):Option Bool:=
 (HG a b).bind λc=>some (decide (c>=0))
theorem U78 R a b K:AW E78 f250 R [dD AIg a,dB b] [] K=(C9 a b).bind λr=>K (dB r) []:=by
 simp only[C9,AHF];kernel_rfl
def AvQ:=Cx [.d AIg,.d .bool] [⟨[.AA [] AIg,.AA [] .bool],[],Bool,λp=>C9 p.1.1 p.1.2.1,λr=>(dB r,[])⟩]
theorem Aav:As prog 250 AvQ:=Aw ⟨⟨E78,pk ⟨AaD,trivial⟩,λ_ _ _=>U78 ..⟩,trivial⟩
abbrev sP:Bd:=⟨A7,Az [(59,c59),(248,AvO),(249,AvP),(250,AvQ)],{Ai:=true,A9:=[(6,{Ap:=[0,3,6,7,8,29,30]}),(13,{Ap:=[0,3,6,7,8,9,10,11,29,30,52,53,54]})],BQ:=[(6,{Ap:=[4,5,6,7,8],Rj:=[(8,false,AIg)]}),(13,{Ap:=[0,3,4,5,6,7,8,9,10,11,29,30],Rj:=[(11,false,AIf)]})],BP:=[(3,{Ap:=[0,3,6,22]}),(21,{Ap:=[0,3,6,7,8,29,30,92]})],Yl:=[(4,{Ap:=[0,3,6,7,8],Wa:=true})],D2:=[(3,[0,3,6]),(21,[0,3,6,7,8,9,10,29,30])],ZW:=[(4,[0,3,6])],dT:=[(0,.row [] 2 AIa true)]}⟩
def Arz a b c d (z_:Int×AHT×AHU):=sT 101 [(0,dD AId a),(3,.ptr 0 0 [] 0),(6,dI c),(7,.Ak 1),(8,.Ak 2),(29,dI d),(30,dI z_.1)] [.box (dD Ar b),.row 2 .Ai AIa z_.2.1,.row 4 .Ai .bool z_.2.2]
def Aps(a:AHY)(b:AHR) c (d:Int):=Sum.elim (λ(e:(AHU×AHT))=>(Ex.ret,sT 101 [(4,.zs),(5,dB false),(6,dI c),(7,.Ak 0),(8,dD AIg e.1)] [.row 2 .Ai AIa e.2])) (λ(g:(AHU×AHT))=>(Ex.exit 0,sT 101 [(6,dI c),(7,.Ak 0),(8,dD AIg g.1)] [.row 2 .Ai AIa g.2]))
def Ary a c i d b j k l:=sT 101 [(0,dD AId a),(3,.ptr 0 0 [] 0),(6,dI c),(7,.Ak 1),(8,.Ak 2),(9,dI i),(10,.Eh [] Ag j),(29,dI d),(30,dI i)] [.box (dD Ar b),.row 2 .Ai AIa k,.row 4 .Ai .bool l]
def Apq a c i d b (j:AHL) k l:=λ(n:Bool)=>(Ex.normal,sT 101 [(0,dD AId a),(3,.ptr 0 0 [] 0),(6,dI c),(7,.Ak 1),(8,.Ak 2),(29,dI d),(30,dI i),(92,dB n)] [.box (dD Ar b),.row 2 .Ai AIa k,.row 4 .Ai .bool l])
def Pg(a:AHY)(c i d:Int)(b:AHR)(j:AHL)(k:AHT)(l:AHU):Option Bool:=
 bif !(D8 j)then
 some true
 else
 if 0<=i/\i<k.length then
 some (!(AK (k.getD i.toNat AIa.zero) 1 4096))
 else none
theorem At6 a c i d b j k l:AZ sP 0 21 (cd f221 500) 3710 (Ary a c i d b j k l) (Pg a c i d b j k l) (Apq a c i d b j k l):=by
 unfold AZ;simp only[Pg,AHE];kernel_rfl
def Arx a c i d b o q s t (z_:Int×AHU×AHT):=sT 101 [(0,dD AId a),(3,.ptr 0 0 [] 0),(6,dI c),(7,.Ak 1),(8,.Ak 2),(9,dI i),(10,.Eh [] Ag q),(11,.Ak 3),(29,dI d),(30,dI i),(52,dD AIf s),(53,dI t),(54,dI z_.1)] [.box (dD Ar b),.row 2 .Ai AIa o,.row 4 .Ai .bool z_.2.1,.row 2 .Ai AIa z_.2.2]
def Apo a c i d b o q (s:AHT) (t:Int):=Sum.elim (λ(u:(AHT×AHU))=>(Ex.ret,sT 101 [(0,dD AId a),(3,.ptr 0 0 [] 0),(4,.zs),(5,dB false),(6,dI c),(7,.Ak 1),(8,.Ak 2),(9,dI i),(10,.Eh [] Ag q),(11,dD AIf u.1),(29,dI d),(30,dI i)] [.box (dD Ar b),.row 2 .Ai AIa o,.row 4 .Ai .bool u.2])) (λ(v:(AHT×AHU))=>(Ex.exit 2,sT 101 [(0,dD AId a),(3,.ptr 0 0 [] 0),(6,dI c),(7,.Ak 1),(8,.Ak 2),(9,dI i),(10,.Eh [] Ag q),(11,dD AIf v.1),(29,dI d),(30,dI i)] [.box (dD Ar b),.row 2 .Ai AIa o,.row 4 .Ai .bool v.2]))
def Mb(a:AHY)(c i d:Int)(b:AHR)(o:AHT)(q:AHL)(s:AHT)(t w:Int)(x:AHU)(y:AHT):Option ((Int×AHU×AHT)⊕((AHT×AHU)⊕(AHT×AHU))):=
 bif decide (w<t)then
 if 0<=w/\w<s.length then
 bif !(AK (s.getD w.toNat AIa.zero) 0 (wI (i-1)))then
 some (.inr (.inl (y,x)))
 else
 if(0:Int)<=(s.getD w.toNat AIa.zero)/\(s.getD w.toNat AIa.zero)<(o.length:Int)then
 if(0:Int)<=(s.getD w.toNat AIa.zero)/\(s.getD w.toNat AIa.zero)<(x.length:Int)then
 if 0<=w/\w<y.length then
 some (.inl (wI (w+1),x.set (s.getD w.toNat AIa.zero).toNat true,y.set w.toNat (o.getD (s.getD w.toNat AIa.zero).toNat AIa.zero)))
 else none
 else none
 else none
 else none
 else
 some (.inr (.inr (y,x)))
def Gd a c i d b o q s t (z_:Int×AHU×AHT):=Mb a c i d b o q s t z_.1 z_.2.1 z_.2.2
def Lq a c i d b o q s t w x y:=fix (Gd a c i d b o q s t) (w,x,y)
theorem At5 a c i d b o q s t:A5 sP 0 13 (cd f221 500) 3706 (Arx a c i d b o q s t) (Gd a c i d b o q s t) (Apo a c i d b o q s t):=by
 intro _;simp only[Gd,Mb,AHE];kernel_rfl
def Mc(a:AHY)(b:AHR)(c d i:Int)(o:AHT)(a1:AHU):Option ((Int×AHT×AHU)⊕((AHU×AHT)⊕(AHU×AHT))):=
 bif decide (i<d)then
 if 0<=i/\i<b.1.length then
 bif decide (((b.1.getD i.toNat Ag.zero).2.2.2.2.2.1.length:Int)>4096)then
 some (.inr (.inl (a1,o)))
 else
 if Ty.row AIa=true/\(0:Int)<=((b.1.getD i.toNat Ag.zero).2.2.2.2.2.1.length:Int)/\((b.1.getD i.toNat Ag.zero).2.2.2.2.2.1.length:Int)<=((b.1.getD i.toNat Ag.zero).2.2.2.2.2.1.length:Int)/\((8:Nat):Int)*((b.1.getD i.toNat Ag.zero).2.2.2.2.2.1.length:Int)<=(281474976710656:Int)/\((b.1.getD i.toNat Ag.zero).2.2.2.2.2.1.length:Int)<=(9223372036854775807:Int)then
 (Lq a c i d b o (b.1.getD i.toNat Ag.zero) (b.1.getD i.toNat Ag.zero).2.2.2.2.2.1 ((b.1.getD i.toNat Ag.zero).2.2.2.2.2.1.length:Int) 0 a1 (List.replicate ((b.1.getD i.toNat Ag.zero).2.2.2.2.2.1.length:Int).toNat 0)).bind (Sum.elim (λu=>some (.inr (.inl (u.2,o)))) (λv=>(D9 (b.1.getD i.toNat Ag.zero) a v.1).bind λb1=>if 0<=i/\i<o.length then
 (Pg a c i d b (b.1.getD i.toNat Ag.zero) (o.set i.toNat b1) v.2).bind λn=>bif n then
 some (.inr (.inl (v.2,o.set i.toNat b1)))
 else
 some (.inl (wI (i+1),o.set i.toNat b1,v.2))
 else none))
 else none
 else none
 else
 some (.inr (.inr (a1,o)))
def Ge a b c d (z_:Int×AHT×AHU):=Mc a b c d z_.1 z_.2.1 z_.2.2
def Sv a b c d i o a1:=fix (Ge a b c d) (i,o,a1)
theorem At7 a b c d:A5 sP 0 6 (code f221) 250 (Arz a b c d) (Ge a b c d) (Aps a b c d):=by
 intro _;simp only[Ge,Mc,AHE];simp(disch:=refine id ?_;kernel_rfl) only[Lq,AF (At5 _ _ _ _ _ _ _ _ _) (K:=Ld sP 0 6),Bg (At6 ..) (K:=Ld sP 0 6)];kernel_rfl
def Agt a b c1:=sT 101 [(0,dD AId a),(3,.ptr 0 0 [] 0),(6,dI c1)] [.box (dD Ar b)]
def gn a b c1:=λ(d1:(AHT×AHU))=>sT 101 [(0,dD AId a),(3,.ptr 0 0 [] 0),(6,dI c1),(7,.Ak 1),(8,.Ak 2)] [.box (dD Ar b),.row 2 .Ai AIa d1.1,.row 4 .Ai .bool d1.2]
def Lp(a:AHY)(b:AHR)(c1:Int):Option (AHT×AHU):=
 if Ty.row AIa=true/\(0:Int)<=c1/\c1<=c1/\((8:Nat):Int)*c1<=(281474976710656:Int)/\c1<=(9223372036854775807:Int)then
 if Ty.row .bool=true/\(0:Int)<=c1/\c1<=c1/\((1:Nat):Int)*c1<=(281474976710656:Int)/\c1<=(9223372036854775807:Int)then
 some (List.replicate c1.toNat 0,List.replicate c1.toNat false)
 else none
 else none
theorem At4(a:AHY)(b:AHR)(c1:Int):Rk sP 0 4 (code f221) 30 (Agt a b c1) (Lp a b c1) (gn a b c1):=by
 unfold Rk;have h:tH sP 0 4 (code f221) (pt 30) (Agt a b c1) =
 if Ty.row AIa=true/\(0:Int)<=c1/\c1<=c1/\((8:Nat):Int)*c1<=(281474976710656:Int)/\c1<=(9223372036854775807:Int)then
 if Ty.row .bool=true/\(0:Int)<=c1/\c1<=c1/\((1:Nat):Int)*c1<=(281474976710656:Int)/\c1<=(9223372036854775807:Int)then
 (((if Ty.row AIa=true/\(0:Int)<=c1/\c1<=c1/\((8:Nat):Int)*c1<=(281474976710656:Int)/\c1<=(9223372036854775807:Int)then
 if Ty.row .bool=true/\(0:Int)<=c1/\c1<=c1/\((1:Nat):Int)*c1<=(281474976710656:Int)/\c1<=(9223372036854775807:Int)then
 Sl (gn a b c1 (List.replicate c1.toNat 0,List.replicate c1.toNat false)) (gn a b c1 (List.replicate c1.toNat 0,List.replicate c1.toNat false))
 else none
 else none).bind λ_=>if Ty.row .bool=true/\(0:Int)<=c1/\c1<=c1/\((1:Nat):Int)*c1<=(281474976710656:Int)/\c1<=(9223372036854775807:Int)then
 if Ty.row AIa=true/\(0:Int)<=c1/\c1<=c1/\((8:Nat):Int)*c1<=(281474976710656:Int)/\c1<=(9223372036854775807:Int)then
 Sl (gn a b c1 (List.replicate c1.toNat 0,List.replicate c1.toNat false)) (gn a b c1 (List.replicate c1.toNat 0,List.replicate c1.toNat false))
 else none
 else none).bind λ_=>some (gn a b c1 (List.replicate c1.toNat 0,List.replicate c1.toNat false)))
 else none
 else none:=by kernel_rfl
 rw[h];unfold Lp;simp only[AHE,mS,mO];clear h;by_cases GR:Ty.row AIa=true/\(0:Int)<=c1/\c1<=c1/\((8:Nat):Int)*c1<=(281474976710656:Int)/\c1<=(9223372036854775807:Int)
 ·rw[AHd GR,AHd GR];by_cases OS:Ty.row .bool=true/\(0:Int)<=c1/\c1<=c1/\((1:Nat):Int)*c1<=(281474976710656:Int)/\c1<=(9223372036854775807:Int)
  ·rw[AHd OS,AHd OS];simp only[AHd GR,AHd OS,if_true,AGV,G7]
  ·simp only[AHd GR,if_true,AHe OS]
 ·simp only[if_true,AHe GR]
def yH a (b:AHR):=sT 101 [(0,dD AId a),(3,.ptr 0 0 [] 0),(6,dI (b.1.length:Int))] [.box (dD Ar b)]
def x7(a:AHY)(b:AHR)(m0:Bool):Ex×St:=(.normal,sT 101 [(0,dD AId a),(3,.ptr 0 0 [] 0),(6,dI (b.1.length:Int)),(22,dB m0)] [.box (dD Ar b)])
theorem At3 a b:MY sP 0 3 (code f221) (pt 28) (yH a b)=some (x7 a b ((decide ((b.1.length:Int)<1))||(decide ((b.1.length:Int)>400)))):=by
 have h0:MY sP 0 3 (code f221) (pt 28) (yH a b) =
 bif decide ((b.1.length:Int)<1)then
 some (x7 a b true)
 else
 some (x7 a b (decide ((b.1.length:Int)>400))):=by kernel_rfl
 rw[h0];cases (decide ((b.1.length:Int)<1))
 ·rfl
 ·rfl
def OH(a:AHY)(b:AHR):Option (Bool×AHT):=
 P2 (yH a b) (
 bif (decide ((b.1.length:Int)<1))||(decide ((b.1.length:Int)>400))then
 some (false,([]:AHT))
 else
 (Lp a b (b.1.length:Int)).bind λd1=>(Sv a b (b.1.length:Int) (b.1.length:Int) 0 d1.1 d1.2).bind (Sum.elim (λe=>some (false,([]:AHT))) (λg=>if(0:Int)<=(0:Int)/\(0:Int)<=(wI ((b.1.length:Int)-1))/\(wI ((b.1.length:Int)-1))<=(g.1.length:Int)then
 (C9 ((g.1.take (wI ((b.1.length:Int)-1)).toNat).drop 0) false).bind λe1=>some (!e1,g.2)
 else none)))
theorem U79 R a b K:AW sP f221 R [dD AId a,dD Ar b] [] K=(OH a b).bind λr=>K (.cons (.Ak 0) (.cons (dB r.1) .nil)) [.row 2 .Ai AIa r.2]:=by
 simp only[OH,AHF];simp(disch:=refine id ?_;kernel_rfl) only[F4 (At3 ..) (K:=A4 sP f221 0 R K),Vf (At4 ..) (K:=A4 sP f221 0 R K),Sv,AF (At7 _ _ _ _) (K:=A4 sP f221 0 R K)];kernel_rfl
def AvD:=Cx [.d AId,.d Ar] [⟨[.AA [] AId,.AA [] Ar],[],Bool×AHT,λp=>OH p.1.1 p.1.2.1,λr=>(.cons (.Ak 0) (.cons (dB r.1) .nil),[.row 2 .Ai AIa r.2])⟩]
theorem Aai:As prog 221 AvD:=Aw ⟨⟨sP,pk ⟨Ws,Aat,Aau,Aav,trivial⟩,λ_ _ _=>U79 ..⟩,trivial⟩
abbrev E80:Bd:=⟨A7,Az [(221,AvD)],{Ai:=true}⟩
def Dl(a:AHY)(b:AHR):Option Int:=
 (OH a b).bind λc=>bif !c.1 then
 some (-1)
 else
 if 0<=(wI ((c.2.length:Int)-1))/\(wI ((c.2.length:Int)-1))<c.2.length then
 some (c.2.getD (wI ((c.2.length:Int)-1)).toNat AIa.zero)
 else none
theorem U80 R a b K:AW E80 f182 R [dD AId a,dD Ar b] [] K=(Dl a b).bind λr=>K (dI r) []:=by
 simp only[Dl,AHF];kernel_rfl
def Avl:=Cx [.d AId,.d Ar] [⟨[.AA [] AId,.AA [] Ar],[],Int,λp=>Dl p.1.1 p.1.2.1,λr=>(dI r,[])⟩]
theorem zU:As prog 182 Avl:=Aw ⟨⟨E80,pk ⟨Aai,trivial⟩,λ_ _ _=>U80 ..⟩,trivial⟩
abbrev E81:Bd:=⟨A7,Az [(59,c59),(182,Avl)],{Ai:=true,A9:=[(5,{Ap:=[0,5,12,13,14]})],BQ:=[(5,{Ap:=[4]})],BP:=[(9,{Ap:=[0,7,12,13,14,39]})],D2:=[(9,[0,5,7,8,12,13,14])]}⟩
def ArB a b c (z_:Int×Int):=sT 43 [(0,dD AId a),(5,dI z_.1),(12,dD AIi b),(13,dI c),(14,dI z_.2)] []
def Apu(a:AHY)(b:AH0)(c:Int):=Sum.elim (λ(d:Unit)=>(Ex.ret,sT 43 [(4,dB false)] [])) (λ(e:Unit)=>(Ex.exit 0,sT 43 [] []))
def ArA a g i b c j k:=sT 43 [(0,dD AId a),(5,dI g),(7,.ptr 0 0 [] 0),(8,dI i),(12,dD AIi b),(13,dI c),(14,dI j)] [.box (dD Af k)]
def Apt a (g:Int) (i:Int) b c j k:=λ(l:Bool)=>(Ex.normal,sT 43 [(0,dD AId a),(7,.ptr 0 0 [] 0),(12,dD AIi b),(13,dI c),(14,dI j),(39,dB l)] [.box (dD Af k)])
def C3(a:AHY)(g i:Int)(b:AH0)(c j:Int)(k:AHK):Option Bool:=
 bif !(AK k.1 (wI (g+1)) 1000000)then
 some true
 else
 bif decide (i<0)then
 some true
 else
 (Dl a k.2.2.2.1).bind λn=>some (i !=n)
theorem At8 a g i b c j k:AZ E81 0 9 (cd f147 244) 460 (ArA a g i b c j k) (C3 a g i b c j k) (Apt a g i b c j k):=by
 unfold AZ;simp only[C3,AHE];kernel_rfl
def C8(a:AHY)(b:AH0)(c g j:Int):Option ((Int×Int)⊕(Unit⊕Unit)):=
 bif decide (j<c)then
 if 0<=j/\j<b.length then
 (Dl a (b.getD j.toNat Af.zero).2.2.1).bind λi=>(C3 a g i b c j (b.getD j.toNat Af.zero)).bind λl=>bif l then
 some (.inr (.inl ()))
 else
 some (.inl ((b.getD j.toNat Af.zero).1,wI (j+1)))
 else none
 else
 some (.inr (.inr ()))
def BL a b c (z_:Int×Int):=C8 a b c z_.1 z_.2
def Jm a b c g j:=fix (BL a b c) (g,j)
theorem At9 a b c:A5 E81 0 5 (code f147) 122 (ArB a b c) (BL a b c) (Apu a b c):=by
 intro _;simp only[BL,C8,AHE];simp(disch:=refine id ?_;kernel_rfl) only[Bg (At8 ..) (K:=Ld E81 0 5)];kernel_rfl
def DX(a:AHY)(b:AH0):Option Bool:=
 bif decide ((b.length:Int)>60)then
 some false
 else
 (Jm a b (b.length:Int) 0 0).bind (Sum.elim (λd=>some false) (λe=>some true))
theorem U81 R a b K:AW E81 f147 R [dD AId a,dD AIi b] [] K=(DX a b).bind λr=>K (dB r) []:=by
 simp only[DX,AHF];simp(disch:=refine id ?_;kernel_rfl) only[Jm,AF (At9 _ _ _) (K:=A4 E81 f147 0 R K)];kernel_rfl
def Alp:=Cx [.d AId,.d AIi] [⟨[.AA [] AId,.AA [] AIi],[],Bool,λp=>DX p.1.1 p.1.2.1,λr=>(dB r,[])⟩]
theorem mL:As prog 147 Alp:=Aw ⟨⟨E81,pk ⟨Ws,zU,trivial⟩,λ_ _ _=>U81 ..⟩,trivial⟩
abbrev E82:Bd:=⟨A7,Az [(113,Aln),(147,Alp)],{Ai:=true}⟩
def G8(a:AHY)(b:AH0):Option Bool:=
 (Jf a).bind λc=>bif c then
 (DX a b).bind λd=>some d
 else
 some false
theorem U82 R a b K:AW E82 f129 R [dD AId a,dD AIi b] [] K=(G8 a b).bind λr=>K (dB r) []:=by
 simp only[G8,AHF];kernel_rfl
def AuP:=Cx [.d AId,.d AIi] [⟨[.AA [] AId,.AA [] AIi],[],Bool,λp=>G8 p.1.1 p.1.2.1,λr=>(dB r,[])⟩]
theorem zl:As prog 129 AuP:=Aw ⟨⟨E82,pk ⟨mJ,mL,trivial⟩,λ_ _ _=>U82 ..⟩,trivial⟩
noncomputable def AvL:Va.Callee:=Xq 216 AIb 8
noncomputable abbrev Av5:Bd:={A7:=A7,fns:=Az [],fi:={}}
theorem Ae7:Iv Tryz.prog Av5:=(pk (l:=[]) trivial)
theorem Aaq:As Tryz.prog 245 AvL:=
 Zf (fn:=Tryz.f245) Ae7 (by kernel_rfl) (by kernel_rfl) rfl rfl rfl ⟨rfl,rfl,rfl⟩ ⟨rfl,rfl,rfl⟩ (ti:=⟨.sl AIb,[],216,24,0,0,false⟩) (by kernel_rfl) rfl (by kernel_rfl) (λxs=>by kernel_rfl) (λxs=>by kernel_rfl)
  λxs h=>by
   have h0:ev Av5 0 (sub (code Tryz.f245) [1,1]) (Ex×St) ⟨[.AA [] AIk xs,.un 0,.zs,.AA [] AIk xs,.bool false,.un 0,.un 0,.un 0],[]⟩ Nk=if xs.length*8<=140737488355328 then some (.ret,⟨[.AA [] AIk xs,.un 0,.Ak 0,.AA [] AIk xs,.bool false,.zs,.AA [] AIk xs,.Ak 0],[.row 216 .Ai AIb xs]⟩)else none:=by kernel_rfl
   exact h0.trans (AHd h)
abbrev E83:Bd:=⟨A7,Az [(245,AvL)],{Ai:=true}⟩
def Cs(a:AHM):Option (Int×AHT):=
 if a.2.1.length*8<=140737488355328 then
 some (a.1,a.2.1)
 else none
theorem U83 R a K:AW E83 f216 R [dD Ah a] [] K=(Cs a).bind λr=>K (.pr (dI r.1) (.pr (.Ak 0) .u)) [.row 216 .Ai AIb r.2]:=by
 simp only[Cs,AHF];kernel_rfl
def AeA:=Cx [.d Ah] [⟨[.AA [] Ah],[],Int×AHT,λp=>Cs p.1.1,λr=>(.pr (dI r.1) (.pr (.Ak 0) .u),[.row 216 .Ai AIb r.2])⟩]
theorem cm:As prog 216 AeA:=Aw ⟨⟨E83,pk ⟨Aaq,trivial⟩,λ_ _ _=>U83 ..⟩,trivial⟩
abbrev E84:Bd:=⟨A7,Az [],{Ai:=true}⟩
def AB(a:Int)(b:AHT):(Int×Int×Int×Int×AHT):=(-1,0,a,a,b)
theorem U84 R a b K:AW E84 f229 R [.pr (dI a) (.pr (.Ak 0) .u)] [.row 216 .Ai AIb b] K=K (.pr (dI (AB a b).1) (.pr (dI (AB a b).2.1) (.pr (dI (AB a b).2.2.1) (.pr (.pr (dI (AB a b).2.2.2.1) (.pr (.Ak 0) .u)) .u)))) [.row 216 .Ai AIb (AB a b).2.2.2.2]:=by
 kernel_rfl
def Alx:=Cx [.Vu] [⟨[.pr (.AA [] AIa) (.pr (.k (.Ak 0)) (.k .u))],[.row 216 .Ai AIb],Int×Int×Int×Int×AHT,λp=>some (AB p.1.1.1 p.2.1),λr=>(.pr (dI r.1) (.pr (dI r.2.1) (.pr (dI r.2.2.1) (.pr (.pr (dI r.2.2.2.1) (.pr (.Ak 0) .u)) .u))),[.row 216 .Ai AIb r.2.2.2.2])⟩]
theorem mX:As prog 229 Alx:=Aw ⟨⟨E84,pk trivial,λ_ _ _=>U84 ..⟩,trivial⟩
abbrev E85:Bd:=⟨A7,Az [],{Ai:=true}⟩
def Di(a b:AHJ):Bool:=((a.1==b.1)&&((a.1==(-1))||((wI (a.2.1+a.2.2.1))==b.2.1)))
theorem U85 R a b K:AW E85 f256 R [dD Ae a,dD Ae b] [] K=K (dB (Di a b)) []:=by
 have h:AW E85 f256 R [dD Ae a,dD Ae b] [] K =
 bif a.1==b.1 then
 bif a.1==(-1)then
 K (dB true) []
 else
 K (dB ((wI (a.2.1+a.2.2.1))==b.2.1)) []
 else
 K (dB false) []:=by kernel_rfl
 rw[h];unfold Di;cases (a.1==b.1)
 ·rfl
 ·cases (a.1==(-1))
  ·rfl
  ·rfl
def AvU:=Cx [.d Ae,.d Ae] [⟨[.AA [] Ae,.AA [] Ae],[],Bool,λp=>some (Di p.1.1 p.1.2.1),λr=>(dB r,[])⟩]
theorem Aaz:As prog 256 AvU:=Aw ⟨⟨E85,pk trivial,λ_ _ _=>U85 ..⟩,trivial⟩
abbrev E86:Bd:=⟨A7,Az [(200,Alu)],{Ai:=true}⟩
def Et(a:Int):Option (Int×AHT):=
 if Ty.row AIb=true/\(0:Int)<=(BX a)/\(BX a)<=(BX a)/\((8:Nat):Int)*(BX a)<=(281474976710656:Int)/\(BX a)<=(9223372036854775807:Int)then
 some (a,List.replicate (BX a).toNat 0)
 else none
theorem U86 R a K:AW E86 f138 R [dI a] [] K=(Et a).bind λr=>K (.pr (dI r.1) (.pr (.Ak 0) .u)) [.row 216 .Ai AIb r.2]:=by
 simp only[Et,AHF];kernel_rfl
def Aev:=Cx [.d AIa] [⟨[.AA [] AIa],[],Int×AHT,λp=>Et p.1.1,λr=>(.pr (dI r.1) (.pr (.Ak 0) .u),[.row 216 .Ai AIb r.2])⟩]
theorem cg:As prog 138 Aev:=Aw ⟨⟨E86,pk ⟨mU,trivial⟩,λ_ _ _=>U86 ..⟩,trivial⟩
abbrev E87:Bd:=⟨A7,Az [],{Ai:=true,A9:=[(2,{Ap:=[1,3,10,11,12]})],BQ:=[(2,{Ap:=[]})],BP:=[(7,{Ap:=[1,3,7,8,10,11,12,44]}),(8,{Ap:=[1,3,10,11,12]})],D2:=[(7,[1,3,7,8,10,11,12]),(8,[1,3,10,11,12])]}⟩
def ArD a b c d (z_:Int×AHT):=sT 60 [(1,dI a),(3,.ptr 1 0 [] 0),(10,dD AIk c),(11,dI d),(12,dI z_.1)] [.row 216 .Ai AIb z_.2,.box (.pr (dI b) (.pr (.Ak 0) .u))]
def Apw(a b:Int)(c:AHT)(d:Int):=λ(e:AHT)=>(Ex.exit 0,sT 60 [] [.row 216 .Ai AIb e])
def ArC a c d g i b:=sT 60 [(1,dI a),(3,.ptr 1 0 [] 0),(10,dD AIk c),(11,dI d),(12,dI g)] [.row 216 .Ai AIb i,.box (.pr (dI b) (.pr (.Ak 0) .u))]
def Apv a c d g (i:AHT) b:=λ(j:AHT)=>(Ex.normal,sT 60 [(1,dI a),(3,.ptr 1 0 [] 0),(10,dD AIk c),(11,dI d),(12,dI g)] [.row 216 .Ai AIb j,.box (.pr (dI b) (.pr (.Ak 0) .u))])
def yI a (c:AHT) (g:Int) d (i:AHT) b:=sT 60 [(1,dI a),(3,.ptr 1 0 [] 0),(7,dD AIb (c.getD g.toNat AIb.zero)),(8,dI (wI (a+(wI (64*g))))),(10,dD AIk c),(11,dI d),(12,dI g)] [.row 216 .Ai AIb (i.set (wI (Int.tdiv (wI (a+(wI (64*g)))) 64)).toNat (aO .u64 (i.getD (wI (Int.tdiv (wI (a+(wI (64*g)))) 64)).toNat AIb.zero) (Nl .u64 (c.getD g.toNat AIb.zero) (Int.tmod (wI (a+(wI (64*g)))) 64)))),.box (.pr (dI b) (.pr (.Ak 0) .u))]
def x8(a:Int)(c:AHT)(g d:Int)(i:AHT)(b:Int)(m0:Bool):Ex×St:=(.normal,sT 60 [(1,dI a),(3,.ptr 1 0 [] 0),(7,dD AIb (c.getD g.toNat AIb.zero)),(8,dI (wI (a+(wI (64*g))))),(10,dD AIk c),(11,dI d),(12,dI g),(44,dB m0)] [.row 216 .Ai AIb (i.set (wI (Int.tdiv (wI (a+(wI (64*g)))) 64)).toNat (aO .u64 (i.getD (wI (Int.tdiv (wI (a+(wI (64*g)))) 64)).toNat AIb.zero) (Nl .u64 (c.getD g.toNat AIb.zero) (Int.tmod (wI (a+(wI (64*g)))) 64)))),.box (.pr (dI b) (.pr (.Ak 0) .u))])
theorem Aua a c g d i b:MY E87 1 7 (sb (cd f267 28) 14) (pt 46) (yI a c g d i b)=some (x8 a c g d i b (((Int.tmod (wI (a+(wI (64*g)))) 64) !=0)&&(decide ((wI ((wI (Int.tdiv (wI (a+(wI (64*g)))) 64))+1))<((i.set (wI (Int.tdiv (wI (a+(wI (64*g)))) 64)).toNat (aO .u64 (i.getD (wI (Int.tdiv (wI (a+(wI (64*g)))) 64)).toNat AIb.zero) (Nl .u64 (c.getD g.toNat AIb.zero) (Int.tmod (wI (a+(wI (64*g)))) 64)))).length:Int))))):=by
 have h0:MY E87 1 7 (sb (cd f267 28) 14) (pt 46) (yI a c g d i b) =
 bif (Int.tmod (wI (a+(wI (64*g)))) 64) !=0 then
 some (x8 a c g d i b (decide ((wI ((wI (Int.tdiv (wI (a+(wI (64*g)))) 64))+1))<((i.set (wI (Int.tdiv (wI (a+(wI (64*g)))) 64)).toNat (aO .u64 (i.getD (wI (Int.tdiv (wI (a+(wI (64*g)))) 64)).toNat AIb.zero) (Nl .u64 (c.getD g.toNat AIb.zero) (Int.tmod (wI (a+(wI (64*g)))) 64)))).length:Int))))
 else
 some (x8 a c g d i b false):=by kernel_rfl
 rw[h0];cases ((Int.tmod (wI (a+(wI (64*g)))) 64) !=0)
 ·rfl
 ·rfl
def IB(a:Int)(c:AHT)(d g:Int)(i:AHT)(b:Int):Option AHT:=
 if 0<=g/\g<c.length then
 if 0<=(wI (Int.tdiv (wI (a+(wI (64*g)))) 64))/\(wI (Int.tdiv (wI (a+(wI (64*g)))) 64))<i.length then
 if(Int.tmod (wI (a+(wI (64*g)))) 64)<(0:Int)then none else
 if 0<=(wI (Int.tdiv (wI (a+(wI (64*g)))) 64))/\(wI (Int.tdiv (wI (a+(wI (64*g)))) 64))<i.length then
 P2 (yI a c g d i b) (
 bif ((Int.tmod (wI (a+(wI (64*g)))) 64) !=0)&&(decide ((wI ((wI (Int.tdiv (wI (a+(wI (64*g)))) 64))+1))<((i.set (wI (Int.tdiv (wI (a+(wI (64*g)))) 64)).toNat (aO .u64 (i.getD (wI (Int.tdiv (wI (a+(wI (64*g)))) 64)).toNat AIb.zero) (Nl .u64 (c.getD g.toNat AIb.zero) (Int.tmod (wI (a+(wI (64*g)))) 64)))).length:Int)))then
 if 0<=(wI ((wI (Int.tdiv (wI (a+(wI (64*g)))) 64))+1))/\(wI ((wI (Int.tdiv (wI (a+(wI (64*g)))) 64))+1))<(i.set (wI (Int.tdiv (wI (a+(wI (64*g)))) 64)).toNat (aO .u64 (i.getD (wI (Int.tdiv (wI (a+(wI (64*g)))) 64)).toNat AIb.zero) (Nl .u64 (c.getD g.toNat AIb.zero) (Int.tmod (wI (a+(wI (64*g)))) 64)))).length then
 if(wI (64-(Int.tmod (wI (a+(wI (64*g)))) 64)))<(0:Int)then none else
 if 0<=(wI ((wI (Int.tdiv (wI (a+(wI (64*g)))) 64))+1))/\(wI ((wI (Int.tdiv (wI (a+(wI (64*g)))) 64))+1))<(i.set (wI (Int.tdiv (wI (a+(wI (64*g)))) 64)).toNat (aO .u64 (i.getD (wI (Int.tdiv (wI (a+(wI (64*g)))) 64)).toNat AIb.zero) (Nl .u64 (c.getD g.toNat AIb.zero) (Int.tmod (wI (a+(wI (64*g)))) 64)))).length then
 some ((i.set (wI (Int.tdiv (wI (a+(wI (64*g)))) 64)).toNat (aO .u64 (i.getD (wI (Int.tdiv (wI (a+(wI (64*g)))) 64)).toNat AIb.zero) (Nl .u64 (c.getD g.toNat AIb.zero) (Int.tmod (wI (a+(wI (64*g)))) 64)))).set (wI ((wI (Int.tdiv (wI (a+(wI (64*g)))) 64))+1)).toNat (aO .u64 ((i.set (wI (Int.tdiv (wI (a+(wI (64*g)))) 64)).toNat (aO .u64 (i.getD (wI (Int.tdiv (wI (a+(wI (64*g)))) 64)).toNat AIb.zero) (Nl .u64 (c.getD g.toNat AIb.zero) (Int.tmod (wI (a+(wI (64*g)))) 64)))).getD (wI ((wI (Int.tdiv (wI (a+(wI (64*g)))) 64))+1)).toNat AIb.zero) (RA .u64 (c.getD g.toNat AIb.zero) (wI (64-(Int.tmod (wI (a+(wI (64*g)))) 64))))))
 else none
 else none
 else
 some (i.set (wI (Int.tdiv (wI (a+(wI (64*g)))) 64)).toNat (aO .u64 (i.getD (wI (Int.tdiv (wI (a+(wI (64*g)))) 64)).toNat AIb.zero) (Nl .u64 (c.getD g.toNat AIb.zero) (Int.tmod (wI (a+(wI (64*g)))) 64)))))
 else none
 else none
 else none
theorem Aub a c d g i b:AZ E87 1 8 (cd f267 28) 14 (ArC a c d g i b) (IB a c d g i b) (Apv a c d g i b):=by
 unfold AZ;simp only[IB,AHE];simp(disch:=refine id ?_;kernel_rfl) only[F4 (Aua ..) (K:=Te E87 1 8)];kernel_rfl
def Je(a b:Int)(c:AHT)(d g:Int)(i:AHT):Option ((Int×AHT)⊕AHT):=
 bif decide (g<d)then
 (IB a c d g i b).bind λj=>some (.inl (wI (g+1),j))
 else
 some (.inr i)
def Gv a b c d (z_:Int×AHT):=Je a b c d z_.1 z_.2
def Qn a b c d g i:=fix (Gv a b c d) (g,i)
theorem Auc a b c d:A5 E87 1 2 (code f267) 14 (ArD a b c d) (Gv a b c d) (Apw a b c d):=by
 intro _;simp only[Gv,Je,AHE];simp(disch:=refine id ?_;kernel_rfl) only[Bg (Aub ..) (K:=Ld E87 1 2)];kernel_rfl
def HU(b a:Int)(k:AHM)(l:AHT):Option AHT:=
 (Qn a b k.2.1 (k.2.1.length:Int) 0 l).bind λe=>some e
theorem U87 R b a k l K:AW E87 f267 R [.pr (dI b) (.pr (.Ak 0) .u),dI a,dD Ah k] [.row 216 .Ai AIb l] K=(HU b a k l).bind λr=>K .nil [.row 216 .Ai AIb r]:=by
 simp only[HU,AHF];simp(disch:=refine id ?_;kernel_rfl) only[Qn,AF (Auc _ _ _ _) (K:=A4 E87 f267 1 R K)];kernel_rfl
def AvZ:=Cx [.Vu,.d AIa,.d Ah] [⟨[.pr (.AA [] AIa) (.pr (.k (.Ak 0)) (.k .u)),.AA [] AIa,.AA [] Ah],[.row 216 .Ai AIb],AHT,λp=>HU p.1.1.1 p.1.2.1 p.1.2.2.1 p.2.1,λr=>(.nil,[.row 216 .Ai AIb r])⟩]
theorem AaE:As prog 267 AvZ:=Aw ⟨⟨E87,pk trivial,λ_ _ _=>U87 ..⟩,trivial⟩
abbrev E88:Bd:=⟨A7,Az [(138,Aev),(267,AvZ)],{Ai:=true}⟩
def EC(a b:AHM):Option (Int×AHT):=
 (Et (wI (a.1+b.1))).bind λc=>(HU c.1 0 b c.2).bind λd=>(HU c.1 b.1 a d).bind λe=>some (c.1,e)
theorem U88 R a b K:AW E88 f257 R [dD Ah a,dD Ah b] [] K=(EC a b).bind λr=>K (.pr (dI r.1) (.pr (.Ak 0) .u)) [.row 216 .Ai AIb r.2]:=by
 simp only[EC,AHF];kernel_rfl
def AvV:=Cx [.d Ah,.d Ah] [⟨[.AA [] Ah,.AA [] Ah],[],Int×AHT,λp=>EC p.1.1 p.1.2.1,λr=>(.pr (dI r.1) (.pr (.Ak 0) .u),[.row 216 .Ai AIb r.2])⟩]
theorem AaA:As prog 257 AvV:=Aw ⟨⟨E88,pk ⟨cg,AaE,trivial⟩,λ_ _ _=>U88 ..⟩,trivial⟩
abbrev E89:Bd:=⟨A7,Az [(256,AvU),(257,AvV)],{A9:=[(2,{Ap:=[0,8,9,10],mv:=[0]})],BQ:=[(2,{Ap:=[0]})],BP:=[(6,{Ap:=[0,6,7,8,9,10,27]}),(9,{Ap:=[0,6,7,8,9,10]}),(10,{Ap:=[0,8,9,10],mv:=[0]})],D2:=[(6,[0,6,7,8,9,10]),(9,[0,6,7,8,9,10]),(10,[0,8,9,10])]}⟩
def ArH a b (z_:Int×AHZ):=sT 59 [(0,.Ak 1),(8,dD AIe a),(9,dI b),(10,dI z_.1)] [.AH,.row 238 (.sh []) Ae z_.2]
def ApA(a:AHZ)(b:Int):=λ(c:AHZ)=>(Ex.exit 0,sT 59 [(0,.Ak 1)] [.AH,.row 238 (.sh []) Ae c])
def ArG a b d e:=sT 59 [(0,.Ak 1),(8,dD AIe a),(9,dI b),(10,dI d)] [.AH,.row 238 (.sh []) Ae e]
def Apz a b d (e:AHZ):=λ(g:AHZ)=>(Ex.normal,sT 59 [(0,.Ak 1),(8,dD AIe a),(9,dI b),(10,dI d)] [.AH,.row 238 (.sh []) Ae g])
def ArF a b d e i j:=sT 59 [(0,.Ak 1),(6,.ptr 2 0 [] 0),(7,dI i),(8,dD AIe a),(9,dI b),(10,dI d)] [.AH,.row 238 (.sh []) Ae e,.box (dD Ae j)]
def Apy a b d (e:AHZ) i j:=λ(k:AHZ)=>(Ex.normal,sT 59 [(0,.Ak 1),(6,.ptr 2 0 [] 0),(7,dI i),(8,dD AIe a),(9,dI b),(10,dI d)] [.AH,.row 238 (.sh []) Ae k,.box (dD Ae j)])
def Nb(a:AHZ)(b d:Int)(e:AHZ)(i:Int)(j:AHJ):Option AHZ:=
 bif j.1==(-1)then
 if 0<=i/\i<e.length then
 (EC j.2.2.2.1 (e.getD i.toNat Ae.zero).2.2.2.1).bind λl=>if 0<=i/\i<e.length then
 some (e.set i.toNat ((e.getD i.toNat Ae.zero).1,(e.getD i.toNat Ae.zero).2.1,(e.getD i.toNat Ae.zero).2.2.1,(l.1,l.2,()),(e.getD i.toNat Ae.zero).2.2.2.2))
 else none
 else none
 else
 some e
theorem Aue a b d e i j:AZ E89 1 9 (sb (cd f230 52) 14) 46 (ArF a b d e i j) (Nb a b d e i j) (Apy a b d e i j):=by
 unfold AZ;simp only[Nb,AHE];kernel_rfl
def ArE a b d e n o:=sT 59 [(0,.Ak 1),(6,.ptr 2 0 [] 0),(7,dI n),(8,dD AIe a),(9,dI b),(10,dI d)] [.AH,.row 238 (.sh []) Ae e,.box (dD Ae o)]
def Apx a b d e n o:=λ(q:Bool)=>(Ex.normal,sT 59 [(0,.Ak 1),(6,.ptr 2 0 [] 0),(7,dI n),(8,dD AIe a),(9,dI b),(10,dI d),(27,dB q)] [.AH,.row 238 (.sh []) Ae e,.box (dD Ae o)])
def Na(a:AHZ)(b d:Int)(e:AHZ)(n:Int)(o:AHJ):Option Bool:=
 bif decide (n<0)then
 some true
 else
 if 0<=n/\n<e.length then
 some (!(Di (e.getD n.toNat Ae.zero) o))
 else none
theorem Aud a b d e n o:AZ E89 1 6 (sb (cd f230 52) 14) 44 (ArE a b d e n o) (Na a b d e n o) (Apx a b d e n o):=by
 unfold AZ;simp only[Na,AHE];kernel_rfl
def Nc(a:AHZ)(b d:Int)(e:AHZ):Option AHZ:=
 if 0<=d/\d<a.length then
 (Na a b d e (wI ((e.length:Int)-1)) (a.getD d.toNat Ae.zero)).bind λq=>bif q then
 if(e.length+([a.getD d.toNat Ae.zero]:AHZ).length)*56<=140737488355328 then
 some (e++([a.getD d.toNat Ae.zero]:AHZ))
 else none
 else
 (Nb a b d e (wI ((e.length:Int)-1)) (a.getD d.toNat Ae.zero)).bind λk=>if 0<=(wI ((e.length:Int)-1))/\(wI ((e.length:Int)-1))<k.length then
 if 0<=(wI ((e.length:Int)-1))/\(wI ((e.length:Int)-1))<k.length then
 some (k.set (wI ((e.length:Int)-1)).toNat ((k.getD (wI ((e.length:Int)-1)).toNat Ae.zero).1,(k.getD (wI ((e.length:Int)-1)).toNat Ae.zero).2.1,wI ((k.getD (wI ((e.length:Int)-1)).toNat Ae.zero).2.2.1+(a.getD d.toNat Ae.zero).2.2.1),(k.getD (wI ((e.length:Int)-1)).toNat Ae.zero).2.2.2))
 else none
 else none
 else none
theorem Auf a b d e:AZ E89 1 10 (cd f230 52) 14 (ArG a b d e) (Nc a b d e) (Apz a b d e):=by
 unfold AZ;simp only[Nc,AHE];simp(disch:=refine id ?_;kernel_rfl) only[Bg (Aud ..) (K:=Te E89 1 10),Bg (Aue ..) (K:=Te E89 1 10)];kernel_rfl
def Nv(a:AHZ)(b d:Int)(e:AHZ):Option ((Int×AHZ)⊕AHZ):=
 bif decide (d<b)then
 (Nc a b d e).bind λg=>some (.inl (wI (d+1),g))
 else
 some (.inr e)
def Ft a b (z_:Int×AHZ):=Nv a b z_.1 z_.2
def TL a b d e:=fix (Ft a b) (d,e)
theorem Auh a b:A5 E89 1 2 (code f230) 26 (ArH a b) (Ft a b) (ApA a b):=by
 intro _;simp only[Ft,Nv,AHE];simp(disch:=refine id ?_;kernel_rfl) only[Bg (Auf ..) (K:=Ld E89 1 2)];kernel_rfl
def Dk(a s:AHZ):Option AHZ:=
 (TL a (a.length:Int) 0 s).bind λc=>some c
theorem U89 R a s K:AW E89 f230 R [.Ak 0,dD AIe a] [.row 238 (.sh []) Ae s] K=(Dk a s).bind λr=>K (.Ak 1) [.AH,.row 238 (.sh []) Ae r]:=by
 simp only[Dk,AHF];simp(disch:=refine id ?_;kernel_rfl) only[TL,AF (Auh _ _) (K:=A4 E89 f230 1 R K)];kernel_rfl
def Aly:=Cx [.Vu,.d AIe] [⟨[.k (.Ak 0),.AA [] AIe],[.row 238 (.sh []) Ae],AHZ,λp=>Dk p.1.2.1 p.2.1,λr=>(.Ak 1,[.AH,.row 238 (.sh []) Ae r])⟩]
theorem mY:As prog 230 Aly:=Aw ⟨⟨E89,pk ⟨Aaz,AaA,trivial⟩,λ_ _ _=>U89 ..⟩,trivial⟩
abbrev E90:Bd:=⟨A7,Az [],{Ai:=true,A9:=[(3,{Ap:=[3,6,7,8]})],BQ:=[(3,{Ap:=[3]})]}⟩
def ArI a b (z_:Int×Int):=sT 18 [(3,dI z_.1),(6,dD AIe a),(7,dI b),(8,dI z_.2)] []
def ApB(a:AHZ)(b:Int):=λ(c:Int)=>(Ex.exit 0,sT 18 [(3,dI c)] [])
def Ij(a:AHZ)(b d e:Int):Option ((Int×Int)⊕Int):=
 bif decide (e<b)then
 if 0<=e/\e<a.length then
 some (.inl (wI (d+(a.getD e.toNat Ae.zero).2.2.1),wI (e+1)))
 else none
 else
 some (.inr d)
def CO a b (z_:Int×Int):=Ij a b z_.1 z_.2
def O7 a b d e:=fix (CO a b) (d,e)
theorem Aui a b:A5 E90 0 3 (code f159) 58 (ArI a b) (CO a b) (ApB a b):=by
 intro _;simp only[CO,Ij,AHE];kernel_rfl
def EG(a:AHZ):Option Int:=
 (O7 a (a.length:Int) 0 0).bind λc=>some c
theorem U90 R a K:AW E90 f159 R [dD AIe a] [] K=(EG a).bind λr=>K (dI r) []:=by
 simp only[EG,AHF];simp(disch:=refine id ?_;kernel_rfl) only[O7,AF (Aui _ _) (K:=A4 E90 f159 0 R K)];kernel_rfl
def Als:=Cx [.d AIe] [⟨[.AA [] AIe],[],Int,λp=>EG p.1.1,λr=>(dI r,[])⟩]
theorem mR:As prog 159 Als:=Aw ⟨⟨E90,pk trivial,λ_ _ _=>U90 ..⟩,trivial⟩
abbrev xL:Bd:=⟨A7,Az [(138,Aev)],{Ai:=true,A9:=[(3,{Ap:=[1,2,3,6,7,15,16]})],BQ:=[(3,{Ap:=[2,6,7]})],BP:=[(8,{Ap:=[1,2,3,6,7,8,9,15,16,47]}),(9,{Ap:=[1,2,3,6,7,15,16]}),(13,{Ap:=[6,7]})],D2:=[(8,[1,2,3,6,7,8,9,15,16]),(9,[1,2,3,6,7,15,16]),(13,[2,6,7])]}⟩
def ArL a b c:=sT 85 [(2,dI a),(6,.ptr 0 0 [] 0),(7,.ptr 1 0 [] 0)] [.box (.pr (dI 0) (.pr .zs .u)),.box (.pr (dI c) (.pr (.Ak 2) .u)),.row 216 .Ai AIb b]
def ApE(a:Int)(b:AHT) c:=λ(d:AHT)=>(Ex.normal,sT 85 [(6,.ptr 0 0 [] 0),(7,.ptr 1 0 [] 0)] [.box (.pr (dI 0) (.pr .zs .u)),.box (.pr (dI c) (.pr (.Ak 2) .u)),.row 216 .Ai AIb d])
def LX(a:Int)(b:AHT)(c:Int):Option AHT:=
 bif (Int.tmod a 64) !=0 then
 if 0<=(wI ((b.length:Int)-1))/\(wI ((b.length:Int)-1))<b.length then
 if(Int.tmod a 64)<(0:Int)then none else
 if 0<=(wI ((b.length:Int)-1))/\(wI ((b.length:Int)-1))<b.length then
 some (b.set (wI ((b.length:Int)-1)).toNat (fp .u64 (b.getD (wI ((b.length:Int)-1)).toNat AIb.zero) (IntKind.u64.wrap ((Nl .u64 1 (Int.tmod a 64))-1))))
 else none
 else none
 else
 some b
theorem Aum a b c:AZ xL 0 13 (code f211) 30 (ArL a b c) (LX a b c) (ApE a b c):=by
 unfold AZ;simp only[LX,AHE];kernel_rfl
def ArK e a g i j (z_:Int×AHT):=sT 85 [(1,dI e),(2,dI a),(3,.ptr 0 0 [] 0),(6,.ptr 1 0 [] 0),(7,.ptr 2 0 [] 0),(15,dI i),(16,dI z_.1)] [.box (dD Ah g),.box (.pr (dI 0) (.pr .zs .u)),.box (.pr (dI j) (.pr (.Ak 3) .u)),.row 216 .Ai AIb z_.2]
def ApD(e:Int) a (g:AHM) (i:Int) j:=λ(b:AHT)=>(Ex.exit 0,sT 85 [(2,dI a),(6,.ptr 0 0 [] 0),(7,.ptr 1 0 [] 0)] [.box (.pr (dI 0) (.pr .zs .u)),.box (.pr (dI j) (.pr (.Ak 2) .u)),.row 216 .Ai AIb b])
def ArJ e a i k g j l:=sT 85 [(1,dI e),(2,dI a),(3,.ptr 0 0 [] 0),(6,.ptr 1 0 [] 0),(7,.ptr 2 0 [] 0),(15,dI i),(16,dI k)] [.box (dD Ah g),.box (.pr (dI 0) (.pr .zs .u)),.box (.pr (dI j) (.pr (.Ak 3) .u)),.row 216 .Ai AIb l]
def ApC e a i k g j (l:AHT):=λ(n:AHT)=>(Ex.normal,sT 85 [(1,dI e),(2,dI a),(3,.ptr 0 0 [] 0),(6,.ptr 1 0 [] 0),(7,.ptr 2 0 [] 0),(15,dI i),(16,dI k)] [.box (dD Ah g),.box (.pr (dI 0) (.pr .zs .u)),.box (.pr (dI j) (.pr (.Ak 3) .u)),.row 216 .Ai AIb n])
def yJ e a k i g j (l:AHT):=sT 85 [(1,dI e),(2,dI a),(3,.ptr 0 0 [] 0),(6,.ptr 1 0 [] 0),(7,.ptr 2 0 [] 0),(8,dI k),(9,dI (wI (e+(wI (64*k))))),(15,dI i),(16,dI k)] [.box (dD Ah g),.box (.pr (dI 0) (.pr .zs .u)),.box (.pr (dI j) (.pr (.Ak 3) .u)),.row 216 .Ai AIb (l.set k.toNat (RA .u64 (g.2.1.getD (wI (Int.tdiv (wI (e+(wI (64*k)))) 64)).toNat AIb.zero) (Int.tmod (wI (e+(wI (64*k)))) 64)))]
def x9(e a k i:Int)(g:AHM)(j:Int)(l:AHT)(m0:Bool):Ex×St:=(.normal,sT 85 [(1,dI e),(2,dI a),(3,.ptr 0 0 [] 0),(6,.ptr 1 0 [] 0),(7,.ptr 2 0 [] 0),(8,dI k),(9,dI (wI (e+(wI (64*k))))),(15,dI i),(16,dI k),(47,dB m0)] [.box (dD Ah g),.box (.pr (dI 0) (.pr .zs .u)),.box (.pr (dI j) (.pr (.Ak 3) .u)),.row 216 .Ai AIb (l.set k.toNat (RA .u64 (g.2.1.getD (wI (Int.tdiv (wI (e+(wI (64*k)))) 64)).toNat AIb.zero) (Int.tmod (wI (e+(wI (64*k)))) 64)))])
theorem Auj e a k i g j l:MY xL 0 8 (sb (cd f211 116) 14) (pt 46) (yJ e a k i g j l)=some (x9 e a k i g j l (((Int.tmod (wI (e+(wI (64*k)))) 64) !=0)&&(decide ((wI ((wI (Int.tdiv (wI (e+(wI (64*k)))) 64))+1))<(g.2.1.length:Int))))):=by
 have h0:MY xL 0 8 (sb (cd f211 116) 14) (pt 46) (yJ e a k i g j l) =
 bif (Int.tmod (wI (e+(wI (64*k)))) 64) !=0 then
 some (x9 e a k i g j l (decide ((wI ((wI (Int.tdiv (wI (e+(wI (64*k)))) 64))+1))<(g.2.1.length:Int))))
 else
 some (x9 e a k i g j l false):=by kernel_rfl
 rw[h0];cases ((Int.tmod (wI (e+(wI (64*k)))) 64) !=0)
 ·rfl
 ·rfl
def IA(e a i k:Int)(g:AHM)(j:Int)(l:AHT):Option AHT:=
 if 0<=(wI (Int.tdiv (wI (e+(wI (64*k)))) 64))/\(wI (Int.tdiv (wI (e+(wI (64*k)))) 64))<g.2.1.length then
 if(Int.tmod (wI (e+(wI (64*k)))) 64)<(0:Int)then none else
 if 0<=k/\k<l.length then
 P2 (yJ e a k i g j l) (
 bif ((Int.tmod (wI (e+(wI (64*k)))) 64) !=0)&&(decide ((wI ((wI (Int.tdiv (wI (e+(wI (64*k)))) 64))+1))<(g.2.1.length:Int)))then
 if 0<=k/\k<(l.set k.toNat (RA .u64 (g.2.1.getD (wI (Int.tdiv (wI (e+(wI (64*k)))) 64)).toNat AIb.zero) (Int.tmod (wI (e+(wI (64*k)))) 64))).length then
 if 0<=(wI ((wI (Int.tdiv (wI (e+(wI (64*k)))) 64))+1))/\(wI ((wI (Int.tdiv (wI (e+(wI (64*k)))) 64))+1))<g.2.1.length then
 if(wI (64-(Int.tmod (wI (e+(wI (64*k)))) 64)))<(0:Int)then none else
 if 0<=k/\k<(l.set k.toNat (RA .u64 (g.2.1.getD (wI (Int.tdiv (wI (e+(wI (64*k)))) 64)).toNat AIb.zero) (Int.tmod (wI (e+(wI (64*k)))) 64))).length then
 some ((l.set k.toNat (RA .u64 (g.2.1.getD (wI (Int.tdiv (wI (e+(wI (64*k)))) 64)).toNat AIb.zero) (Int.tmod (wI (e+(wI (64*k)))) 64))).set k.toNat (aO .u64 ((l.set k.toNat (RA .u64 (g.2.1.getD (wI (Int.tdiv (wI (e+(wI (64*k)))) 64)).toNat AIb.zero) (Int.tmod (wI (e+(wI (64*k)))) 64))).getD k.toNat AIb.zero) (Nl .u64 (g.2.1.getD (wI ((wI (Int.tdiv (wI (e+(wI (64*k)))) 64))+1)).toNat AIb.zero) (wI (64-(Int.tmod (wI (e+(wI (64*k)))) 64))))))
 else none
 else none
 else none
 else
 some (l.set k.toNat (RA .u64 (g.2.1.getD (wI (Int.tdiv (wI (e+(wI (64*k)))) 64)).toNat AIb.zero) (Int.tmod (wI (e+(wI (64*k)))) 64))))
 else none
 else none
theorem Auk e a i k g j l:AZ xL 0 9 (cd f211 116) 14 (ArJ e a i k g j l) (IA e a i k g j l) (ApC e a i k g j l):=by
 unfold AZ;simp only[IA,AHE];simp(disch:=refine id ?_;kernel_rfl) only[F4 (Auj ..) (K:=Te xL 0 9)];kernel_rfl
def Jd(e a:Int)(g:AHM)(i j k:Int)(l:AHT):Option ((Int×AHT)⊕AHT):=
 bif decide (k<i)then
 (IA e a i k g j l).bind λn=>some (.inl (wI (k+1),n))
 else
 some (.inr l)
def Gu e a g i j (z_:Int×AHT):=Jd e a g i j z_.1 z_.2
def LW e a g i j k l:=fix (Gu e a g i j) (k,l)
theorem Aul e a g i j:A5 xL 0 3 (code f211) 58 (ArK e a g i j) (Gu e a g i j) (ApD e a g i j):=by
 intro _;simp only[Gu,Jd,AHE];simp(disch:=refine id ?_;kernel_rfl) only[Bg (Auk ..) (K:=Ld xL 0 3)];kernel_rfl
def Df(g:AHM)(e a:Int):Option (Int×AHT):=
 (Et a).bind λo=>(LW e a g (o.2.length:Int) o.1 0 o.2).bind λb=>(LX a b o.1).bind λd=>some (o.1,d)
theorem U91 R g e a K:AW xL f211 R [dD Ah g,dI e,dI a] [] K=(Df g e a).bind λr=>K (.pr (dI r.1) (.pr (.Ak 0) .u)) [.row 216 .Ai AIb r.2]:=by
 simp only[Df,AHF];simp(disch:=refine id ?_;kernel_rfl) only[LW,AF (Aul _ _ _ _ _) (K:=A4 xL f211 0 R K),Bg (Aum ..) (K:=A4 xL f211 0 R K)];kernel_rfl
def Alv:=Cx [.d Ah,.d AIa,.d AIa] [⟨[.AA [] Ah,.AA [] AIa,.AA [] AIa],[],Int×AHT,λp=>Df p.1.1 p.1.2.1 p.1.2.2.1,λr=>(.pr (dI r.1) (.pr (.Ak 0) .u),[.row 216 .Ai AIb r.2])⟩]
theorem mV:As prog 211 Alv:=Aw ⟨⟨xL,pk ⟨cg,trivial⟩,λ_ _ _=>U91 ..⟩,trivial⟩
abbrev E92:Bd:=⟨A7,Az [(211,Alv),(229,Alx)],{Ai:=true,dT:=[(0,.row [3,1] 216 AIb true)]}⟩
def Kg(a:AHJ)(b c:Int):Option (Int×Int×Int×Int×AHT):=
 bif a.1==(-1)then
 (Df a.2.2.2.1 b c).bind λd=>some ((AB d.1 d.2).1,(AB d.1 d.2).2.1,(AB d.1 d.2).2.2.1,(AB d.1 d.2).2.2.2.1,(AB d.1 d.2).2.2.2.2)
 else
 some (a.1,wI (a.2.1+b),c,0,([]:AHT))
theorem U92 R a b c K:AW E92 f258 R [dD Ae a,dI b,dI c] [] K=(Kg a b c).bind λr=>K (.pr (dI r.1) (.pr (dI r.2.1) (.pr (dI r.2.2.1) (.pr (.pr (dI r.2.2.2.1) (.pr (.Ak 0) .u)) .u)))) [.row 216 .Ai AIb r.2.2.2.2]:=by
 simp only[Kg,AHF];kernel_rfl
def AvW:=Cx [.d Ae,.d AIa,.d AIa] [⟨[.AA [] Ae,.AA [] AIa,.AA [] AIa],[],Int×Int×Int×Int×AHT,λp=>Kg p.1.1 p.1.2.1 p.1.2.2.1,λr=>(.pr (dI r.1) (.pr (dI r.2.1) (.pr (dI r.2.2.1) (.pr (.pr (dI r.2.2.2.1) (.pr (.Ak 0) .u)) .u))),[.row 216 .Ai AIb r.2.2.2.2])⟩]
theorem AaB:As prog 258 AvW:=Aw ⟨⟨E92,pk ⟨mV,mX,trivial⟩,λ_ _ _=>U92 ..⟩,trivial⟩
abbrev E93:Bd:=⟨A7,Az [(230,Aly),(258,AvW)],{Ai:=true,A9:=[(4,{Ap:=[1,2,7,8,14,15,16],B6:=[(7,false,.row [] 238 Ae false)]})],BQ:=[(4,{Ap:=[7]})],BP:=[(9,{Ap:=[1,2,7,8,10,14,15,16],B6:=[(7,false,.row [] 238 Ae false)]})],D2:=[(9,[1,2,7,8,10,11,12,14,15,16])],fA:=[(43,AIe)]}⟩
def ArN a b c d (z_:Int×Int×AHZ):=sT 51 [(1,dI a),(2,dI b),(7,.Ak 0),(8,dI z_.1),(14,dD AIe c),(15,dI d),(16,dI z_.2.1)] [.row 238 (.sh []) Ae z_.2.2]
def ApG(a b:Int)(c:AHZ)(d:Int):=λ(e:AHZ)=>(Ex.exit 0,sT 51 [(7,.Ak 0)] [.row 238 (.sh []) Ae e])
def ArM a b g c d i j k l n:=sT 51 [(1,dI a),(2,dI b),(7,.Ak 0),(8,dI g),(10,.ptr 1 0 [] 0),(11,dI k),(12,dI l),(14,dD AIe c),(15,dI d),(16,dI i)] [.row 238 (.sh []) Ae j,.box (dD Ae n)]
def ApF a b g c d i (j:AHZ) (k:Int) (l:Int) n:=λ(o:AHZ)=>(Ex.normal,sT 51 [(1,dI a),(2,dI b),(7,.Ak 0),(8,dI g),(10,.ptr 1 0 [] 0),(14,dD AIe c),(15,dI d),(16,dI i)] [.row 238 (.sh []) Ae o,.box (dD Ae n)])
def L1(a b g:Int)(c:AHZ)(d i:Int)(j:AHZ)(k l:Int)(n:AHJ):Option AHZ:=
 bif decide (k<l)then
 (Kg n (wI (k-g)) (wI (l-k))).bind λq=>(Dk ([(q.1,q.2.1,q.2.2.1,(q.2.2.2.1,q.2.2.2.2,()),())]:AHZ) j).bind λs=>some s
 else
 some j
theorem Aun a b g c d i j k l n:AZ E93 0 9 (cd f231 244) 230 (ArM a b g c d i j k l n) (L1 a b g c d i j k l n) (ApF a b g c d i j k l n):=by
 unfold AZ;simp only[L1,AHE];kernel_rfl
def Jk(a b:Int)(c:AHZ)(d g i:Int)(j:AHZ):Option ((Int×Int×AHZ)⊕AHZ):=
 bif decide (i<d)then
 if 0<=i/\i<c.length then
 (L1 a b g c d i j (if g>a then g else a) (if(wI (g+(c.getD i.toNat Ae.zero).2.2.1))<(wI (a+b))then(wI (g+(c.getD i.toNat Ae.zero).2.2.1))else(wI (a+b))) (c.getD i.toNat Ae.zero)).bind λo=>some (.inl (wI (g+(c.getD i.toNat Ae.zero).2.2.1),wI (i+1),o))
 else none
 else
 some (.inr j)
def Ec a b c d (z_:Int×Int×AHZ):=Jk a b c d z_.1 z_.2.1 z_.2.2
def Qo a b c d g i j:=fix (Ec a b c d) (g,i,j)
theorem Auo a b c d:A5 E93 0 4 (code f231) 122 (ArN a b c d) (Ec a b c d) (ApG a b c d):=by
 intro _;simp only[Ec,Jk,AHE];simp(disch:=refine id ?_;kernel_rfl) only[Bg (Aun ..) (K:=Ld E93 0 4)];kernel_rfl
def Dh(c:AHZ)(a b:Int):Option AHZ:=
 (Qo a b c (c.length:Int) 0 0 ([]:AHZ)).bind λe=>some e
theorem U93 R c a b K:AW E93 f231 R [dD AIe c,dI a,dI b] [] K=(Dh c a b).bind λr=>K (.Ak 0) [.row 238 (.sh []) Ae r]:=by
 simp only[Dh,AHF];simp(disch:=refine id ?_;kernel_rfl) only[Qo,AF (Auo _ _ _ _) (K:=A4 E93 f231 0 R K)];kernel_rfl
def AvI:=Cx [.d AIe,.d AIa,.d AIa] [⟨[.AA [] AIe,.AA [] AIa,.AA [] AIa],[],AHZ,λp=>Dh p.1.1 p.1.2.1 p.1.2.2.1,λr=>(.Ak 0,[.row 238 (.sh []) Ae r])⟩]
theorem Aan:As prog 231 AvI:=Aw ⟨⟨E93,pk ⟨mY,AaB,trivial⟩,λ_ _ _=>U93 ..⟩,trivial⟩
noncomputable def AvJ:Va.Callee:=Xq 238 Ae 56
noncomputable abbrev Av4:Bd:={A7:=A7,fns:=Az [],fi:={}}
theorem Ae6:Iv Tryz.prog Av4:=(pk (l:=[]) trivial)
theorem Aao:As Tryz.prog 232 AvJ:=
 Zf (fn:=Tryz.f232) Ae6 (by kernel_rfl) (by kernel_rfl) rfl rfl rfl ⟨rfl,rfl,rfl⟩ ⟨rfl,rfl,rfl⟩ (ti:=⟨.sl Ae,[],238,24,0,0,false⟩) (by kernel_rfl) rfl (by kernel_rfl) (λxs=>by kernel_rfl) (λxs=>by kernel_rfl)
  λxs h=>by
   have h0:ev Av4 0 (sub (code Tryz.f232) [1,1]) (Ex×St) ⟨[.AA [] AIe xs,.un 0,.zs,.AA [] AIe xs,.bool false,.un 0,.un 0,.un 0],[]⟩ Nk=if xs.length*56<=140737488355328 then some (.ret,⟨[.AA [] AIe xs,.un 0,.Ak 0,.AA [] AIe xs,.bool false,.zs,.AA [] AIe xs,.Ak 0],[.row 238 (.sh []) Ae xs]⟩)else none:=by kernel_rfl
   exact h0.trans (AHd h)
abbrev l6:Bd:=⟨A7,Az [(138,Aev),(159,Als),(216,AeA),(229,Alx),(230,Aly),(231,AvI),(232,AvJ)],{A9:=[(9,{Ap:=[2,7,8],B6:=[(7,false,.row [] 238 Ae false)]}),(27,{Ap:=[9,12,125,126],B6:=[(12,false,.row [] 238 Ae false)]}),(36,{Ap:=[13,14,151,152],Rj:=[(14,true,Ae)]})],BQ:=[(9,{Ap:=[7]}),(27,{Ap:=[12]}),(36,{Ap:=[13]})],BP:=[(20,{Ap:=[0,9,10,69,88]}),(23,{Ap:=[9,10,11]}),(35,{Ap:=[0,13,14]})],D2:=[(20,[0,9,10,69]),(23,[0,9,10,11]),(35,[0,9,10,13,14])],fA:=[(117,AIe),(156,AIe)]}⟩
def ArT a b (z_:Int×AHZ):=sT 160 [(13,.Ak 0),(14,.ptr 1 0 [] 0),(151,dI a),(152,dI z_.1)] [.row 238 (.sh []) Ae z_.2,.box (dD Ae b)]
def ApM(a:Int)(b:AHJ):=λ(c:AHZ)=>(Ex.exit 6,sT 160 [(13,.Ak 0)] [.row 238 (.sh []) Ae c])
def OC(a:Int)(b:AHJ)(d:Int)(e:AHZ):Option ((Int×AHZ)⊕AHZ):=
 bif decide (d<a)then
 (Dk ([b]:AHZ) e).bind λg=>some (.inl (wI (d+1),g))
 else
 some (.inr e)
def EO a b (z_:Int×AHZ):=OC a b z_.1 z_.2
def Kv a b d e:=fix (EO a b) (d,e)
theorem Auv a b:A5 l6 0 36 (code f206) 4090 (ArT a b) (EO a b) (ApM a b):=by
 intro _;simp only[EO,OC,AHE];kernel_rfl
def ArS i j (z_:Int×AHZ):=sT 160 [(13,.Ak 0),(14,.ptr 1 0 [] 0),(151,dI j),(152,dI z_.1)] [.row 238 (.sh []) Ae z_.2,.box (dD Ae i)]
def ApL(i:AHJ)(j:Int):=λ(k:AHZ)=>(Ex.exit 6,sT 160 [(13,.Ak 0)] [.row 238 (.sh []) Ae k])
def OB(i:AHJ)(j l:Int)(n:AHZ):Option ((Int×AHZ)⊕AHZ):=
 bif decide (l<j)then
 (Dk ([i]:AHZ) n).bind λo=>some (.inl (wI (l+1),o))
 else
 some (.inr n)
def EN i j (z_:Int×AHZ):=OB i j z_.1 z_.2
def Ku i j l n:=fix (EN i j) (l,n)
theorem Auu i j:A5 l6 0 36 (code f206) 4090 (ArS i j) (EN i j) (ApL i j):=by
 intro _;simp only[EN,OB,AHE];kernel_rfl
def ArR q s t u v w x y a1:=sT 160 [(0,.Eh [] Ag q),(9,dD AIe t),(10,dI s),(13,.Ak 0),(14,.ptr 1 0 [] 0)] [.row 238 (.sh []) Ae u,.box (.pr (dI v) (.pr (dI w) (.pr (dI x) (.pr (.pr (dI y) (.pr (.Ak 2) .u)) .u)))),.row 216 .Ai AIb a1]
def ApK q (s:Int) (t:AHZ) u v w x y a1:=Sum.elim (λ(i:AHJ)=>(Ex.normal,sT 160 [(0,.Eh [] Ag q),(13,.Ak 0),(14,.ptr 1 0 [] 0)] [.row 238 (.sh []) Ae u,.box (dD Ae i)])) (λ(b1:Unit)=>(Ex.normal,sT 160 [(0,.Eh [] Ag q),(13,.Ak 0),(14,.ptr 1 0 [] 0)] [.row 238 (.sh []) Ae u,.box (.pr (dI v) (.pr (dI w) (.pr (dI x) (.pr (.pr (dI y) (.pr (.Ak 2) .u)) .u)))),.row 216 .Ai AIb a1]))
def Cg(q:AHL)(s:Int)(t u:AHZ)(v w x y:Int)(a1:AHT):Option (AHJ⊕Unit):=
 bif q.1==6 then
 (Dh t (wI (s-1)) 1).bind λc1=>if(0:Int)<=(0:Int)/\(0:Int)<(c1.length:Int)then
 some (.inl (c1.getD 0 Ae.zero))
 else none
 else
 some (.inr ())
theorem Aut q s t u v w x y a1:AZ l6 0 35 (code f206) 510 (ArR q s t u v w x y a1) (Cg q s t u v w x y a1) (ApK q s t u v w x y a1):=by
 unfold AZ;simp only[Cg,AHE];kernel_rfl
def ArQ d1 e1 (z_:Int×AHZ):=sT 160 [(9,dD AIe d1),(12,.Ak 0),(125,dI e1),(126,dI z_.1)] [.row 238 (.sh []) Ae z_.2]
def ApJ(d1:AHZ)(e1:Int):=λ(g1:AHZ)=>(Ex.exit 4,sT 160 [(12,.Ak 0)] [.row 238 (.sh []) Ae g1])
def EM(d1:AHZ)(e1 i1:Int)(j1:AHZ):Option ((Int×AHZ)⊕AHZ):=
 bif decide (i1<e1)then
 (Dk d1 j1).bind λk1=>some (.inl (wI (i1+1),k1))
 else
 some (.inr j1)
def Ck d1 e1 (z_:Int×AHZ):=EM d1 e1 z_.1 z_.2
def GV d1 e1 i1 j1:=fix (Ck d1 e1) (i1,j1)
theorem Aus d1 e1:A5 l6 0 27 (code f206) 257002 (ArQ d1 e1) (Ck d1 e1) (ApJ d1 e1):=by
 intro _;simp only[Ck,EM,AHE];kernel_rfl
def ArP q s l1 n1:=sT 160 [(0,.Eh [] Ag q),(9,dD AIe l1),(10,dI s),(11,dI n1)] []
def ApI(q:AHL) s l1 (n1:Int):=λ(o1:Int)=>(Ex.normal,sT 160 [(9,dD AIe l1),(10,dI s),(11,dI o1)] [])
def D3(q:AHL)(s:Int)(l1:AHZ)(n1:Int):Option Int:=
 bif q.1==8 then
 if s=(0:Int)then none else
 some (Int.tmod (wI (s-n1)) s)
 else
 some n1
theorem Aur q s l1 n1:AZ l6 0 23 (code f206) 16058 (ArP q s l1 n1) (D3 q s l1 n1) (ApI q s l1 n1):=by
 unfold AZ;simp only[D3,AHE];kernel_rfl
def yK q (q1:AH9) s:=sT 160 [(0,.Eh [] Ag q),(9,dD AIe (q1.getD 0 AIe.zero)),(10,dI s),(69,dI q.1)] []
def ya(q:AHL)(q1:AH9)(s:Int)(m0:Bool):Ex×St:=(.normal,sT 160 [(0,.Eh [] Ag q),(9,dD AIe (q1.getD 0 AIe.zero)),(10,dI s),(69,dI q.1),(88,dB m0)] [])
theorem Auq q q1 s:MY l6 0 20 (code f206) (pt 2006) (yK q q1 s)=some (ya q q1 s (bif q.1==7 then(q.1==7)else(q.1==8))):=by
 have h0:MY l6 0 20 (code f206) (pt 2006) (yK q q1 s) =
 bif q.1==7 then
 some (ya q q1 s (q.1==7))
 else
 some (ya q q1 s (q.1==8)):=by kernel_rfl
 rw[h0];cases (q.1==7)
 ·rfl
 ·rfl
def ArO q1 (z_:Int×AHZ):=sT 160 [(2,dD AIp q1),(7,.Ak 0),(8,dI z_.1)] [.row 238 (.sh []) Ae z_.2]
def ApH(q1:AH9):=λ(s1:AHZ)=>(Ex.exit 1,sT 160 [(7,.Ak 0)] [.row 238 (.sh []) Ae s1])
def EL(q1:AH9)(t1:Int)(u1:AHZ):Option ((Int×AHZ)⊕AHZ):=
 bif decide (t1>=0)then
 if 0<=t1/\t1<q1.length then
 (Dk (q1.getD t1.toNat AIe.zero) u1).bind λv1=>some (.inl (wI (t1-1),v1))
 else none
 else
 some (.inr u1)
def BU q1 (z_:Int×AHZ):=EL q1 z_.1 z_.2
def GU q1 t1 u1:=fix (BU q1) (t1,u1)
theorem Aup q1:A5 l6 0 9 (code f206) 27626 (ArO q1) (BU q1) (ApH q1):=by
 intro _;simp only[BU,EL,AHE];kernel_rfl
def D7(q:AHL)(w1:AHY)(q1:AH9):Option AHZ:=
 bif q.1==1 then
 if(0:Int)<=q.2.1/\q.2.1<(w1.length:Int)then
 some ([(q.2.1,0,(w1.getD q.2.1.toNat Ad.zero).2.1,(0,([]:AHT),()),())]:AHZ)
 else none
 else
 bif q.1==2 then
 (Cs q.2.2.2.2.1).bind λx1=>some ([((AB x1.1 x1.2).1,(AB x1.1 x1.2).2.1,(AB x1.1 x1.2).2.2.1,((AB x1.1 x1.2).2.2.2.1,(AB x1.1 x1.2).2.2.2.2,()),())]:AHZ)
 else
 bif q.1==3 then
 (GU q1 (wI ((q1.length:Int)-1)) ([]:AHZ)).bind λs1=>some s1
 else
 if(0:Int)<=(0:Int)/\(0:Int)<(q1.length:Int)then
 (EG (q1.getD 0 AIe.zero)).bind λs=>bif q.1==4 then
 (Dh (q1.getD 0 AIe.zero) q.2.2.2.1 (wI ((wI (q.2.2.1-q.2.2.2.1))+1))).bind λy1=>some y1
 else
 P2 (yK q q1 s) (
 bif bif (q.1==7)then(q.1==7)else(q.1==8)then
 if s=(0:Int)then none else
 (D3 q s (q1.getD 0 AIe.zero) (Int.tmod q.2.2.1 s)).bind λo1=>(Dh (q1.getD 0 AIe.zero) (wI (s-o1)) o1).bind λa2=>(Dh (q1.getD 0 AIe.zero) 0 (wI (s-o1))).bind λb2=>(Dk b2 a2).bind λc2=>some c2
 else
 bif q.1==9 then
 (GV (q1.getD 0 AIe.zero) q.2.2.1 0 ([]:AHZ)).bind λg1=>some g1
 else
 if(q1.getD 0 AIe.zero).length*56<=140737488355328 then
 (Et 1).bind λd2=>(Cg q s (q1.getD 0 AIe.zero) (q1.getD 0 AIe.zero) (AB d2.1 d2.2).1 (AB d2.1 d2.2).2.1 (AB d2.1 d2.2).2.2.1 (AB d2.1 d2.2).2.2.2.1 (AB d2.1 d2.2).2.2.2.2).bind (Sum.elim (λi=>(Ku i q.2.2.1 0 (q1.getD 0 AIe.zero)).bind λk=>some k) (λb1=>(Kv q.2.2.1 ((AB d2.1 d2.2).1,(AB d2.1 d2.2).2.1,(AB d2.1 d2.2).2.2.1,((AB d2.1 d2.2).2.2.2.1,(AB d2.1 d2.2).2.2.2.2,()),()) 0 (q1.getD 0 AIe.zero)).bind λc=>some c))
 else none)
 else none
theorem U94 R q w1 q1 K:AW l6 f206 R [.Eh [] Ag q,dD AId w1,dD AIp q1] [] K=(D7 q w1 q1).bind λr=>K (.Ak 0) [.row 238 (.sh []) Ae r]:=by
 simp only[D7,AHF];simp(disch:=refine id ?_;kernel_rfl) only[GU,AF (Aup _) (K:=A4 l6 f206 0 R K),F4 (Auq ..) (K:=A4 l6 f206 0 R K),Bg (Aur ..) (K:=A4 l6 f206 0 R K),GV,AF (Aus _ _) (K:=A4 l6 f206 0 R K),Bg (Aut ..) (K:=A4 l6 f206 0 R K),Ku,AF (Auu _ _) (K:=A4 l6 f206 0 R K),Kv,AF (Auv _ _) (K:=A4 l6 f206 0 R K)];kernel_rfl
def Avt:=Cx [.p Ag,.d AId,.d AIp] [⟨[.Eh [] Ag,.AA [] AId,.AA [] AIp],[],AHZ,λp=>D7 p.1.1 p.1.2.1 p.1.2.2.1,λr=>(.Ak 0,[.row 238 (.sh []) Ae r])⟩]
theorem z7:As prog 206 Avt:=Aw ⟨⟨l6,pk ⟨cg,mR,cm,mX,mY,Aan,Aao,trivial⟩,λ_ _ _=>U94 ..⟩,trivial⟩
abbrev E95:Bd:=⟨A7,Az [(216,AeA)],{Ai:=true,A9:=[(3,{Ap:=[3,9,10,11]})],BQ:=[(3,{Ap:=[3]})]}⟩
def ArU a b (z_:Int×AHZ):=sT 26 [(3,.Ak 0),(9,dD AIe a),(10,dI b),(11,dI z_.1)] [.row 238 .Ai Ae z_.2]
def ApN(a:AHZ)(b:Int):=λ(c:AHZ)=>(Ex.exit 0,sT 26 [(3,.Ak 0)] [.row 238 .Ai Ae c])
def Ig(a:AHZ)(b d:Int)(e:AHZ):Option ((Int×AHZ)⊕AHZ):=
 bif decide (d<b)then
 if 0<=d/\d<a.length then
 (Cs (a.getD d.toNat Ae.zero).2.2.2.1).bind λg=>if 0<=d/\d<e.length then
 some (.inl (wI (d+1),e.set d.toNat ((a.getD d.toNat Ae.zero).1,(a.getD d.toNat Ae.zero).2.1,(a.getD d.toNat Ae.zero).2.2.1,(g.1,g.2,()),(a.getD d.toNat Ae.zero).2.2.2.2)))
 else none
 else none
 else
 some (.inr e)
def CN a b (z_:Int×AHZ):=Ig a b z_.1 z_.2
def O6 a b d e:=fix (CN a b) (d,e)
theorem Auw a b:A5 E95 0 3 (code f207) 58 (ArU a b) (CN a b) (ApN a b):=by
 intro _;simp only[CN,Ig,AHE];kernel_rfl
def IG(a:AHZ):Option AHZ:=
 if Ty.row Ae=true/\(0:Int)<=(a.length:Int)/\(a.length:Int)<=(a.length:Int)/\((56:Nat):Int)*(a.length:Int)<=(281474976710656:Int)/\(a.length:Int)<=(9223372036854775807:Int)then
 (O6 a (a.length:Int) 0 (List.replicate (a.length:Int).toNat (0,0,0,(0,([]:AHT),()),()))).bind λc=>some c
 else none
theorem U95 R a K:AW E95 f207 R [dD AIe a] [] K=(IG a).bind λr=>K (.Ak 0) [.row 238 .Ai Ae r]:=by
 simp only[IG,AHF];simp(disch:=refine id ?_;kernel_rfl) only[O6,AF (Auw _ _) (K:=A4 E95 f207 0 R K)];kernel_rfl
def Avu:=Cx [.d AIe] [⟨[.AA [] AIe],[],AHZ,λp=>IG p.1.1,λr=>(.Ak 0,[.row 238 .Ai Ae r])⟩]
theorem z8:As prog 207 Avu:=Aw ⟨⟨E95,pk ⟨cm,trivial⟩,λ_ _ _=>U95 ..⟩,trivial⟩
end
end Go.Proofs.X
