import Derived.KernelRfl
import Derived.Test.YtoinnpeenpmgkaaGreatK5
set_option linter.unusedVariables false
set_option linter.unusedSimpArgs false
namespace Go.Proofs.X
open Go Go.Va Go.Proofs.Tryz
set_option maxRecDepth 100000
noncomputable section
abbrev E96:=eN [(146,AfP)] {A1:=[(3,[3,9,10,11])],Bv:=[(3,[3])]}
def Au5 a b (z_:Int×ALD):=sT 26 [(3,.Am 0),(9,dD ALS a),(10,dI b),(11,dI z_.1)] [.row 218 .Ai Ae z_.2]
def AsY(a:ALD)(b:Int):=λ(c:ALD)=>xE 0 26 [(3,.Am 0)] [.row 218 .Ai Ae c]
def Ir(a:ALD)(b d:Int)(e:ALD):AL8 ((Int×ALD)⊕ALD):=
 bif decide (d<b)then
 if 0<=d/\d<a.length then
 (C2 (a.getD d.toNat Ae.zero).2.2.2.1).bind λg=>if 0<=d/\d<e.length then
 some (.inl (wI (d+1),e.set d.toNat ((a.getD d.toNat Ae.zero).1,(a.getD d.toNat Ae.zero).2.1,(a.getD d.toNat Ae.zero).2.2.1,(g.1,g.2,()),(a.getD d.toNat Ae.zero).2.2.2.2)))
 else none
 else none
 else
 some (.inr e)
def CO a b (z_:Int×ALD):=Ir a b z_.1 z_.2
def PN a b d e:=fix (CO a b) (d,e)
theorem AxA a b:A0 E96 0 3 (code f155) 58 (Au5 a b) (CO a b) (AsY a b):=by
 intro _;simp only[CO,Ir,ALh];kernel_rfl
def Lx(a:ALD):AL8 ALD:=
 if Ty.row Ae=true/\(0:Int)<=(a.length:Int)/\(a.length:Int)<=(a.length:Int)/\((56:Nat):Int)*(a.length:Int)<=(281474976710656:Int)/\(a.length:Int)<=(9223372036854775807:Int)then
 (PN a (a.length:Int) 0 (List.replicate (a.length:Int).toNat (0,0,0,(0,([]:ALx),()),()))).bind λc=>some c
 else none
def Ayl:=B6 [.d ALS] [⟨[.Ax [] ALS],[],ALD,λp=>Lx p.1.1,λr=>(.Am 0,[.row 218 .Ai Ae r])⟩]
theorem AbF:Ap prog 155 Ayl:=As (fn:=f155) ⟨⟨E96,pk ⟨eM,trivial⟩,λ_ R K=>by
 simp only[Lx,ALi];simp(disch:=refine id ?_;kernel_rfl) only[PN,Az (AxA _ _) (K:=AY E96 f155 0 R K)];kernel_rfl⟩,trivial⟩
abbrev E97:=eN [(154,Ayk),(155,Ayl)] {Ai:=false,A1:=[(3,[0,3,6,18,19]),(8,[0,3,6,7,8,9,18,19,35,36,37])],Bv:=[(3,{Bb:=[4,5,6],Sj:=[(6,false,AL5)]}),(8,{Bb:=[0,3,6,7,8,9,18,19],Sj:=[(9,false,AL5)]})],dM:=[(0,.row [] 218 Ae true)]}
def Au7 a b c (z_:Int×ALO):=sT 71 [(0,dD ALU a),(3,.ptr 0 0 [] 0),(6,.Am 1),(18,dI c),(19,dI z_.1)] [.box (dD Ar b),.row 122 (.sh []) ALS z_.2]
def As0(a:ALC)(b:ALv)(c:Int):=Sum.elim (λ(d:ALO)=>xR 71 [(4,.zs),(5,dB false),(6,dD AL5 d)] []) (λ(e:ALO)=>xE 0 71 [(6,dD AL5 e)] [])
def Au6 a g c b i j k l (z_:Int×ALO):=sT 71 [(0,dD ALU a),(3,.ptr 0 0 [] 0),(6,.Am 1),(7,dI g),(8,.EJ [] Af j),(9,.Am 2),(18,dI c),(19,dI g),(35,dD ALT k),(36,dI l),(37,dI z_.1)] [.box (dD Ar b),.row 122 (.sh []) ALS i,.row 122 (.sh []) ALS z_.2]
def AsZ a g c b i j (k:ALx) (l:Int):=λ(n:ALO)=>xE 2 71 [(0,dD ALU a),(3,.ptr 0 0 [] 0),(6,.Am 1),(7,dI g),(8,.EJ [] Af j),(9,dD AL5 n),(18,dI c),(19,dI g)] [.box (dD Ar b),.row 122 (.sh []) ALS i]
def KQ(a:ALC)(g c:Int)(b:ALv)(i:ALO)(j:ALo)(k:ALx)(l o:Int)(q:ALO):AL8 ((Int×ALO)⊕ALO):=
 bif decide (o<l)then
 if 0<=o/\o<k.length then
 if(0:Int)<=(k.getD o.toNat ALP.zero)/\(k.getD o.toNat ALP.zero)<(i.length:Int)then
 if 0<=o/\o<q.length then
 some (.inl (wI (o+1),q.set o.toNat (i.getD (k.getD o.toNat ALP.zero).toNat ALS.zero)))
 else none
 else none
 else none
 else
 some (.inr q)
def EW a g c b i j k l (z_:Int×ALO):=KQ a g c b i j k l z_.1 z_.2
def NY a g c b i j k l o q:=fix (EW a g c b i j k l) (o,q)
theorem AxB a g c b i j k l:A0 E97 0 8 (cd f121 116) 1850 (Au6 a g c b i j k l) (EW a g c b i j k l) (AsZ a g c b i j k l):=by
 intro _;simp only[EW,KQ,ALh];kernel_rfl
def PQ(a:ALC)(b:ALv)(c g:Int)(i:ALO):AL8 ((Int×ALO)⊕(ALO⊕ALO)):=
 bif decide (g<c)then
 if 0<=g/\g<b.1.length then
 if Ty.row ALS=true/\(0:Int)<=((b.1.getD g.toNat Af.zero).2.2.2.2.2.1.length:Int)/\((b.1.getD g.toNat Af.zero).2.2.2.2.2.1.length:Int)<=((b.1.getD g.toNat Af.zero).2.2.2.2.2.1.length:Int)/\((24:Nat):Int)*((b.1.getD g.toNat Af.zero).2.2.2.2.2.1.length:Int)<=(281474976710656:Int)/\((b.1.getD g.toNat Af.zero).2.2.2.2.2.1.length:Int)<=(9223372036854775807:Int)then
 (NY a g c b i (b.1.getD g.toNat Af.zero) (b.1.getD g.toNat Af.zero).2.2.2.2.2.1 ((b.1.getD g.toNat Af.zero).2.2.2.2.2.1.length:Int) 0 (List.replicate ((b.1.getD g.toNat Af.zero).2.2.2.2.2.1.length:Int).toNat ([]:ALD))).bind λn=>(GC (b.1.getD g.toNat Af.zero) a n).bind λs=>if 0<=g/\g<i.length then
 if 0<=g/\g<(i.set g.toNat s).length then
 bif decide ((((i.set g.toNat s).getD g.toNat ALS.zero).length:Int)>2000)then
 some (.inr (.inl (i.set g.toNat s)))
 else
 some (.inl (wI (g+1),i.set g.toNat s))
 else none
 else none
 else none
 else none
 else
 some (.inr (.inr i))
def KR a b c (z_:Int×ALO):=PQ a b c z_.1 z_.2
def NZ a b c g i:=fix (KR a b c) (g,i)
theorem AxC a b c:A0 E97 0 3 (code f121) 58 (Au7 a b c) (KR a b c) (As0 a b c):=by
 intro _;simp only[KR,PQ,ALh];simp(disch:=refine id ?_;kernel_rfl) only[NY,Az (AxB _ _ _ _ _ _ _ _) (K:=LP E97 0 3)];kernel_rfl
def HD(a:ALC)(b:ALv):AL8 (Bool×ALD):=
 if Ty.row ALS=true/\(0:Int)<=(b.1.length:Int)/\(b.1.length:Int)<=(b.1.length:Int)/\((24:Nat):Int)*(b.1.length:Int)<=(281474976710656:Int)/\(b.1.length:Int)<=(9223372036854775807:Int)then
 (NZ a b (b.1.length:Int) 0 (List.replicate (b.1.length:Int).toNat ([]:ALD))).bind (Sum.elim (λd=>some (false,([]:ALD))) (λe=>if 0<=(wI ((e.length:Int)-1))/\(wI ((e.length:Int)-1))<e.length then
 (Lx (e.getD (wI ((e.length:Int)-1)).toNat ALS.zero)).bind λt=>some (true,t)
 else none))
 else none
def Ax0:=B6 [.d ALU,.d Ar] [⟨[.Ax [] ALU,.Ax [] Ar],[],Bool×ALD,λp=>HD p.1.1 p.1.2.1,λr=>(.cons (.Am 0) (.cons (dB r.1) .nil),[.row 218 .Ai Ae r.2])⟩]
theorem Abk:Ap prog 121 Ax0:=As (fn:=f121) ⟨⟨E97,pk ⟨AbE,AbF,trivial⟩,λ_ R K=>by
 simp only[HD,ALi];simp(disch:=refine id ?_;kernel_rfl) only[NZ,Az (AxC _ _ _) (K:=AY E97 f121 0 R K)];kernel_rfl⟩,trivial⟩
abbrev E98:=eN [(121,Ax0)] {A1:=[(3,[0,6,16,17,18])],Bv:=[(3,[4,5,6])],BR:=[(8,[0,6,7,9,11,16,17,18,42])],D2:=[(8,[0,6,7,9,10,11,12,16,17,18])],dM:=[(0,.row [] 222 (.Au ALS (.Au ALS .unit)) true)]}
def Au8 a b c (z_:Int×(AL7 (ALD×(ALD×Unit)))):=sT 51 [(0,dD ALU a),(6,.Am 0),(16,dD ALY b),(17,dI c),(18,dI z_.1)] [.row 222 .Ai (.Au ALS (.Au ALS .unit)) z_.2]
def As1(a:ALC)(b:ALF)(c:Int):=Sum.elim (λ(d:(AL7 (ALD×(ALD×Unit))))=>xR 51 [(4,.zs),(5,dB false),(6,.Am 0)] [.row 222 .Ai (.Au ALS (.Au ALS .unit)) d]) (λ(e:(AL7 (ALD×(ALD×Unit))))=>xE 0 51 [(6,.Am 0)] [.row 222 .Ai (.Au ALS (.Au ALS .unit)) e])
def Aio a g (i:(Bool×ALD)) (j:(Bool×ALD)) b c k:=sT 51 [(0,dD ALU a),(6,.Am 0),(7,dI g),(9,.Am 1),(10,dB i.1),(11,.Am 2),(12,dB j.1),(16,dD ALY b),(17,dI c),(18,dI g)] [.row 222 .Ai (.Au ALS (.Au ALS .unit)) k,.row 218 .Ai Ae i.2,.row 218 .Ai Ae j.2]
def Aap(a:ALC)(g:Int)(i j:Bool×ALD)(b:ALF)(c:Int)(k:AL7 (ALD×(ALD×Unit)))(m0:Bool):Ex×St:=xN 51 [(0,dD ALU a),(6,.Am 0),(7,dI g),(9,.Am 1),(11,.Am 2),(16,dD ALY b),(17,dI c),(18,dI g),(42,dB m0)] [.row 222 .Ai (.Au ALS (.Au ALS .unit)) k,.row 218 .Ai Ae i.2,.row 218 .Ai Ae j.2]
theorem AxD a g i j b c k:Xe E98 0 8 (cd f99 116) (pt 924) (Aio a g i j b c k)=some (Aap a g i j b c k ((!i.1)||(!j.1))):=by
 refine .trans (b:=
 bif !i.1 then
 some (Aap a g i j b c k true)
 else
 some (Aap a g i j b c k (!j.1))) (by kernel_rfl) ?_
 cases (!i.1);rfl;rfl
def Sq(a:ALC)(b:ALF)(c g:Int)(k:AL7 (ALD×(ALD×Unit))):AL8 ((Int×(AL7 (ALD×(ALD×Unit))))⊕((AL7 (ALD×(ALD×Unit)))⊕(AL7 (ALD×(ALD×Unit))))):=
 bif decide (g<c)then
 if 0<=g/\g<b.length then
 (HD a (b.getD g.toNat Ag.zero).2.2.1).bind λi=>(HD a (b.getD g.toNat Ag.zero).2.2.2.1).bind λj=>QF (Aio a g i j b c k) (
 bif (!i.1)||(!j.1)then
 some (.inr (.inl k))
 else
 if 0<=g/\g<k.length then
 some (.inl (wI (g+1),k.set g.toNat (i.2,j.2,())))
 else none)
 else none
 else
 some (.inr (.inr k))
def N3 a b c (z_:Int×(AL7 (ALD×(ALD×Unit)))):=Sq a b c z_.1 z_.2
def UX a b c g k:=fix (N3 a b c) (g,k)
theorem AxE a b c:A0 E98 0 3 (code f99) 58 (Au8 a b c) (N3 a b c) (As1 a b c):=by
 intro _;simp only[N3,Sq,ALh];simp(disch:=refine id ?_;kernel_rfl) only[F8 (AxD ..) (K:=LP E98 0 3)];kernel_rfl
def Q1(a:ALC)(b:ALF):AL8 (Bool×(AL7 (ALD×(ALD×Unit)))):=
 if Ty.row (.Au ALS (.Au ALS .unit))=true/\(0:Int)<=(b.length:Int)/\(b.length:Int)<=(b.length:Int)/\((48:Nat):Int)*(b.length:Int)<=(281474976710656:Int)/\(b.length:Int)<=(9223372036854775807:Int)then
 (UX a b (b.length:Int) 0 (List.replicate (b.length:Int).toNat (([]:ALD),([]:ALD),()))).bind (Sum.elim (λd=>some (false,([]:AL7 (ALD×(ALD×Unit))))) (λe=>some (true,e)))
 else none
def c99:=B6 [.d ALU,.d ALY] [⟨[.Ax [] ALU,.Ax [] ALY],[],Bool×(AL7 (ALD×(ALD×Unit))),λp=>Q1 p.1.1 p.1.2.1,λr=>(.cons (.Am 0) (.cons (dB r.1) .nil),[.row 222 .Ai (.Au ALS (.Au ALS .unit)) r.2])⟩]
theorem vZ:Ap prog 99 c99:=As (fn:=f99) ⟨⟨E98,pk ⟨Abk,trivial⟩,λ_ R K=>by
 simp only[Q1,ALi];simp(disch:=refine id ?_;kernel_rfl) only[UX,Az (AxE _ _ _) (K:=AY E98 f99 0 R K)];kernel_rfl⟩,trivial⟩
abbrev E99:=eN [] {rl:=[(39,4)],BR:=[(1,[0,1,2,32])],D2:=[(1,[0,1,2])],UT:=[.mv 0 [3],.AK 3]}
def Au9(a:Int) b c d e g:=sT 54 [(0,.ptr 0 a [] 0),(1,dI b),(2,dI c)] [.box (.pr (dD ALU d) (.pr (.Am 1) (.pr (.mp 2) (.pr (.Am 3) .u)))),.row 154 .Ai ALW e,.AK,.row 225 .Ai Aa g]
def As2(a:Int) b c d e g:=λ(i:Bool)=>xN 54 [(0,.ptr 0 a [] 0),(1,dI b),(2,dI c),(32,dB i)] [.box (.pr (dD ALU d) (.pr (.Am 1) (.pr (.mp 2) (.pr (.Am 3) .u)))),.row 154 .Ai ALW e,.AK,.row 225 .Ai Aa g]
def GD(a b c:Int)(d:ALC)(e:ALM)(g:ALA):AL8 Bool:=
 bif decide (c>0)then
 if 0<=b/\b<d.length then
 bif decide (c<(d.getD b.toNat Ad.zero).2.1)then
 if 0<=b/\b<e.length then
 if 0<=c/\c<(e.getD b.toNat ALW.zero).length then
 some (!((e.getD b.toNat ALW.zero).getD c.toNat (Ty.zero .bool)))
 else none
 else none
 else
 some false
 else none
 else
 some false
theorem AxF a b c d e g:AP E99 4 1 (code f160) 2 (Au9 a b c d e g) (GD a b c d e g) (As2 a b c d e g):=by
 unfold AP;simp only[GD,ALh];kernel_rfl
def Bi(a b c:Int)(d:ALC)(e:ALM)(g:ALA):AL8 (ALC×ALM×ALA):=
 (GD a b c d e g).bind λi=>bif i then
 if 0<=b/\b<e.length then
 if(0:Int)<=c/\c<(e.getD b.toNat ALW.zero).length then
 if(g.length+([(b,c,())]:ALA).length)*16<=140737488355328 then
 some (d,e.set b.toNat ((e.getD b.toNat ALW.zero).set c.toNat true),g++([(b,c,())]:ALA))
 else none
 else none
 else none
 else
 some (d,e,g)
def AfT:=AiS [2] (B6 [.UJ,.d ALP,.d ALP] [⟨[.ptr 0 [] 0,.Ax [] ALP,.Ax [] ALP],[.box (.pr (.Ax [] ALU) (.pr (.k (.Am 1)) (.pr (.k (.mp 2)) (.pr (.k (.Am 3)) (.k .u))))),.row 154 .Ai ALW,.AK,.row 225 .Ai Aa],ALC×ALM×ALA,λp=>Bi p.1.1 p.1.2.1 p.1.2.2.1 p.2.1.1 p.2.2.1 p.2.2.2.2.1,λr=>(.nil,[.box (.pr (dD ALU r.1) (.pr (.Am 1) (.pr (.mp 2) (.pr (.Am 4) .u)))),.row 154 .Ai ALW r.2.1,.AK,.AK,.row 225 .Ai Aa r.2.2])⟩])
theorem eQ:Ap prog 160 AfT:=Adt _ (As (fn:=f160) ⟨⟨E99,pk trivial,λ_ R K=>by
 simp only[Bi,ALi];simp(disch:=refine id ?_;kernel_rfl) only[A8 (AxF ..) (K:=AY E99 f160 4 R K)];kernel_rfl⟩,trivial⟩)
abbrev zX:=eN [(160,AfT)] {A1:=[(3,{Bb:=[3,5,17,18,19],Ck:=[(5,true,.row [3] 225 Aa true)]}),(7,{Bb:=[3,5,6,17,18,19,37,38,39],Ck:=[(5,true,.row [3] 225 Aa true)]})],Bv:=[(3,[5]),(7,[3,5,17,18,19])]}
def Ald a b c (z_:Int×ALC×ALM×ALA):=sT 50 [(3,.ptr 0 0 [] 0),(5,.ptr 1 0 [] 0),(17,dD ALU a),(18,dI c),(19,dI z_.1)] [.box (dD Aj b),.box (.pr (dD ALU z_.2.1) (.pr (.Am 2) (.pr (.mp 3) (.pr (.Am 4) .u)))),.row 154 .Ai ALW z_.2.2.1,.map .Ai Aa ALV ([]:AL7 (ALk×ALA)) none,.row 225 .Ai Aa z_.2.2.2]
def AjB(a:ALC)(b:ALr)(c:Int):=λ(d:(ALC×ALM×ALA))=>xE 0 50 [(5,.ptr 0 0 [] 0)] [.box (.pr (dD ALU d.1) (.pr (.Am 1) (.pr (.mp 2) (.pr (.Am 3) .u)))),.row 154 .Ai ALW d.2.1,.map .Ai Aa ALV ([]:AL7 (ALk×ALA)) none,.row 225 .Ai Aa d.2.2]
def Alc e a c b g i (z_:Int×ALC×ALM×ALA):=sT 50 [(3,.ptr 0 0 [] 0),(5,.ptr 1 0 [] 0),(6,dI e),(17,dD ALU a),(18,dI c),(19,dI e),(37,dD ALT g),(38,dI i),(39,dI z_.1)] [.box (dD Aj b),.box (.pr (dD ALU z_.2.1) (.pr (.Am 2) (.pr (.mp 3) (.pr (.Am 4) .u)))),.row 154 .Ai ALW z_.2.2.1,.map .Ai Aa ALV ([]:AL7 (ALk×ALA)) none,.row 225 .Ai Aa z_.2.2.2]
def AjA e a c b (g:ALx) (i:Int):=λ(j:(ALC×ALM×ALA))=>xE 2 50 [(3,.ptr 0 0 [] 0),(5,.ptr 1 0 [] 0),(17,dD ALU a),(18,dI c),(19,dI e)] [.box (dD Aj b),.box (.pr (dD ALU j.1) (.pr (.Am 2) (.pr (.mp 3) (.pr (.Am 4) .u)))),.row 154 .Ai ALW j.2.1,.map .Ai Aa ALV ([]:AL7 (ALk×ALA)) none,.row 225 .Ai Aa j.2.2]
def Iy(e:Int)(a:ALC)(c:Int)(b:ALr)(g:ALx)(i k:Int)(l:ALC)(n:ALM)(o:ALA):AL8 ((Int×ALC×ALM×ALA)⊕(ALC×ALM×ALA)):=
 bif decide (k<i)then
 if 0<=k/\k<g.length then
 (Bi 0 e (g.getD k.toNat ALP.zero) l n o).bind λq=>some (.inl (wI (k+1),q.1,q.2.1,q.2.2))
 else none
 else
 some (.inr (l,n,o))
def DG e a c b g i (z_:Int×ALC×ALM×ALA):=Iy e a c b g i z_.1 z_.2.1 z_.2.2.1 z_.2.2.2
def KS e a c b g i k l n o:=fix (DG e a c b g i) (k,l,n,o)
theorem AmN e a c b g i:A0 zX 0 7 (cd f138 116) 462 (Alc e a c b g i) (DG e a c b g i) (AjA e a c b g i):=by
 intro _;simp only[DG,Iy,ALh];kernel_rfl
def Iz(a:ALC)(b:ALr)(c e:Int)(s:ALC)(t:ALM)(u:ALA):AL8 ((Int×ALC×ALM×ALA)⊕(ALC×ALM×ALA)):=
 bif decide (e<c)then
 if 0<=e/\e<a.length then
 if Ty.row .bool=true/\(0:Int)<=(a.getD e.toNat Ad.zero).2.1/\(a.getD e.toNat Ad.zero).2.1<=(a.getD e.toNat Ad.zero).2.1/\((1:Nat):Int)*(a.getD e.toNat Ad.zero).2.1<=(281474976710656:Int)/\(a.getD e.toNat Ad.zero).2.1<=(9223372036854775807:Int)then
 if 0<=e/\e<t.length then
 if 0<=e/\e<b.1.length then
 (KS e a c b (b.1.getD e.toNat ALT.zero) ((b.1.getD e.toNat ALT.zero).length:Int) 0 s (t.set e.toNat (List.replicate (a.getD e.toNat Ad.zero).2.1.toNat false)) u).bind λj=>some (.inl (wI (e+1),j.1,j.2.1,j.2.2))
 else none
 else none
 else none
 else none
 else
 some (.inr (s,t,u))
def DI a b c (z_:Int×ALC×ALM×ALA):=Iz a b c z_.1 z_.2.1 z_.2.2.1 z_.2.2.2
def KT a b c e s t u:=fix (DI a b c) (e,s,t,u)
theorem AmO a b c:A0 zX 0 3 (code f138) 58 (Ald a b c) (DI a b c) (AjB a b c):=by
 intro _;simp only[DI,Iz,ALh];simp(disch:=refine id ?_;kernel_rfl) only[KS,Az (AmN _ _ _ _ _ _) (K:=LP zX 0 3)];kernel_rfl
def Lz(a:ALC)(b:ALr):AL8 (Int×ALC×ALM×(AL7 (ALk×ALA))×ALA):=
 if Ty.row ALW=true/\(0:Int)<=(a.length:Int)/\(a.length:Int)<=(a.length:Int)/\((24:Nat):Int)*(a.length:Int)<=(281474976710656:Int)/\(a.length:Int)<=(9223372036854775807:Int)then
 (KT a b (a.length:Int) 0 a (List.replicate (a.length:Int).toNat ([]:ALy)) ([]:ALA)).bind λd=>some (0,d.1,d.2.1,([]:AL7 (ALk×ALA)),d.2.2)
 else none
def Ax7:=B6 [.d ALU,.d Aj] [⟨[.Ax [] ALU,.Ax [] Aj],[],Int×ALC×ALM×(AL7 (ALk×ALA))×ALA,λp=>Lz p.1.1 p.1.2.1,λr=>(.ptr 0 r.1 [] 0,[.box (.pr (dD ALU r.2.1) (.pr (.Am 1) (.pr (.mp 2) (.pr (.Am 3) .u)))),.row 154 .Ai ALW r.2.2.1,.map .Ai Aa ALV r.2.2.2.1 none,.row 225 .Ai Aa r.2.2.2.2])⟩]
theorem Abr:Ap prog 138 Ax7:=As (fn:=f138) ⟨⟨zX,pk ⟨eQ,trivial⟩,λ_ R K=>by
 simp only[Lz,ALi];simp(disch:=refine id ?_;kernel_rfl) only[KT,Az (AmO _ _ _) (K:=AY zX f138 0 R K)];kernel_rfl⟩,trivial⟩
abbrev AqP:=eN [] {Ai:=false,take:=[25]}
def AyF:=Adp [.UJ,.UJ] AqP f182
theorem AbZ:Ap prog 182 AyF:=nD (pk trivial)
abbrev ly:=eN [(182,AyF)] {Ai:=false,A1:=[(3,[0,3,9,10,11]),(11,{Bb:=[6,25,26,27],Ck:=[(6,false,.row [] 218 Ae false)]})],Bv:=[(3,[0,3]),(11,[6])],BR:=[(8,[0,3,9,10,11])],D2:=[(8,[0,3,9,10,11])]}
def Alh a b (z_:Int×ALD):=sT 36 [(6,.Am 0),(25,dD AL5 a),(26,dI b),(27,dI z_.1)] [.row 218 (.sh []) Ae z_.2]
def AjF(a:ALO)(b:Int):=λ(c:ALD)=>xE 2 36 [(6,.Am 0)] [.row 218 (.sh []) Ae c]
def P6(a:ALO)(b d:Int)(e:ALD):AL8 ((Int×ALD)⊕ALD):=
 bif decide (d<b)then
 if 0<=d/\d<a.length then
 if(e.length+(a.getD d.toNat ALS.zero).length)*56<=140737488355328 then
 some (.inl (wI (d+1),e++(a.getD d.toNat ALS.zero)))
 else none
 else none
 else
 some (.inr e)
def JS a b (z_:Int×ALD):=P6 a b z_.1 z_.2
def R7 a b d e:=fix (JS a b) (d,e)
theorem AmS a b:A0 ly 0 11 (code f161) 250 (Alh a b) (JS a b) (AjF a b):=by
 intro _;simp only[JS,P6,ALh];kernel_rfl
def Alg a g (z_:Int×ALD):=sT 36 [(6,.Am 0),(25,dD AL5 a),(26,dI g),(27,dI z_.1)] [.row 218 (.sh []) Ae z_.2]
def AjE(a:ALO)(g:Int):=λ(i:ALD)=>xE 2 36 [(6,.Am 0)] [.row 218 (.sh []) Ae i]
def FY(a:ALO)(g j:Int)(k:ALD):AL8 ((Int×ALD)⊕ALD):=
 bif decide (j<g)then
 if 0<=j/\j<a.length then
 if(k.length+(a.getD j.toNat ALS.zero).length)*56<=140737488355328 then
 some (.inl (wI (j+1),k++(a.getD j.toNat ALS.zero)))
 else none
 else none
 else
 some (.inr k)
def CN a g (z_:Int×ALD):=FY a g z_.1 z_.2
def HX a g j k:=fix (CN a g) (j,k)
theorem AmR a g:A0 ly 0 11 (code f161) 250 (Alg a g) (CN a g) (AjE a g):=by
 intro _;simp only[CN,FY,ALh];kernel_rfl
def Alf a l (z_:Int×Int):=sT 36 [(0,dD AL5 a),(3,dI z_.1),(9,dD AL5 a),(10,dI l),(11,dI z_.2)] []
def AjD a (l:Int):=λ(n:Int)=>xE 0 36 [(0,dD AL5 a),(3,dI n)] []
def Ale a o l q:=sT 36 [(0,dD AL5 a),(3,dI o),(9,dD AL5 a),(10,dI l),(11,dI q)] []
def AjC a (o:Int) l (q:Int):=λ(s:Unit)=>xN 36 [(0,dD AL5 a),(3,dI (wI (o+((a.getD q.toNat ALS.zero).length:Int)))),(9,dD AL5 a),(10,dI l),(11,dI q)] []
def HV(a:ALO)(o l q:Int):AL8 Unit:=
 if 0<=q/\q<a.length then
 bif decide ((wI (o+((a.getD q.toNat ALS.zero).length:Int)))<0)then
 none
 else
 some ()
 else none
theorem AmP a o l q:AP ly 0 8 (cd f161 116) 14 (Ale a o l q) (HV a o l q) (AjC a o l q):=by
 unfold AP;simp only[HV,ALh];kernel_rfl
def FX(a:ALO)(l o q:Int):AL8 ((Int×Int)⊕Int):=
 bif decide (q<l)then
 (HV a o l q).bind λs=>some (.inl (wI (o+((a.getD q.toNat ALS.zero).length:Int)),wI (q+1)))
 else
 some (.inr o)
def CM a l (z_:Int×Int):=FX a l z_.1 z_.2
def HW a l o q:=fix (CM a l) (o,q)
theorem AmQ a l:A0 ly 0 3 (code f161) 58 (Alf a l) (CM a l) (AjD a l):=by
 intro _;simp only[CM,FX,ALh];simp(disch:=refine id ?_;kernel_rfl) only[A8 (AmP ..) (K:=LP ly 0 3)];kernel_rfl
def HU(a:ALO):AL8 ALD:=
 (HW a (a.length:Int) 0 0).bind λn=>bif decide (n<0)then
 none
 else
 bif decide ((wI (n-0))>0)then
 if(0:Int)<=(wI (n-0))/\(wI (n-0))*((56:Nat):Int)<=(140737488355328:Int)then
 if(0:Int)<=(0:Int)/\(0:Int)<=((List.replicate (wI (n-0)).toNat (0,0,0,(0,([]:ALx),()),())).length:Int)then
 (HX a (a.length:Int) 0 ((List.replicate (wI (n-0)).toNat (0,0,0,(0,([]:ALx),()),())).take 0)).bind λi=>some i
 else none
 else none
 else
 (R7 a (a.length:Int) 0 ([]:ALD)).bind λc=>some c
def Ayo:=B6 [.d AL5] [⟨[.Ax [] AL5],[],ALD,λp=>HU p.1.1,λr=>(.Am 0,[.row 218 (.sh []) Ae r])⟩]
theorem AbI:Ap prog 161 Ayo:=As (fn:=f161) ⟨⟨ly,pk ⟨AbZ,trivial⟩,λ_ R K=>by
 simp only[HU,ALi];simp(disch:=refine id ?_;kernel_rfl) only[HW,Az (AmQ _ _) (K:=AY ly f161 0 R K),HX,Az (AmR _ _) (K:=AY ly f161 0 R K),R7,Az (AmS _ _) (K:=AY ly f161 0 R K)];kernel_rfl⟩,trivial⟩
abbrev sN:=eN [] {A1:=[(3,{Bb:=[3,8,9,10],Ck:=[(3,false,.row [] 252 Ab true)]}),(7,[3,5,6,8,9,10])],Bv:=[(3,[3]),(7,[3,8,9,10])],BR:=[(8,[3,5,6,8,9,10])],D2:=[(8,[3,5,6,8,9,10])]}
def Alk a b (z_:Int×ALB):=sT 43 [(3,.Am 0),(8,dD ALS a),(9,dI b),(10,dI z_.1)] [.row 252 .Ai Ab z_.2]
def AjI(a:ALD)(b:Int):=λ(c:ALB)=>xE 0 43 [(3,.Am 0)] [.row 252 .Ai Ab c]
def Alj a b d e (z_:Int×ALB):=sT 43 [(3,.Am 0),(5,.ptr 1 0 [] 0),(6,dI z_.1),(8,dD ALS a),(9,dI b),(10,dI d)] [.row 252 .Ai Ab z_.2,.box (dD Ae e)]
def AjH a b d (e:ALn):=λ(g:ALB)=>xE 2 43 [(3,.Am 0),(8,dD ALS a),(9,dI b),(10,dI d)] [.row 252 .Ai Ab g]
def Ali i a b d j e:=sT 43 [(3,.Am 0),(5,.ptr 1 0 [] 0),(6,dI i),(8,dD ALS a),(9,dI b),(10,dI d)] [.row 252 .Ai Ab j,.box (dD Ae e)]
def AjG i a b d (j:ALB) e:=λ(k:ALB)=>xN 43 [(3,.Am 0),(5,.ptr 1 0 [] 0),(6,dI i),(8,dD ALS a),(9,dI b),(10,dI d)] [.row 252 .Ai Ab k,.box (dD Ae e)]
def Kl(i:Int)(a:ALD)(b d:Int)(j:ALB)(e:ALn):AL8 ALB:=
 bif e.1==(-1)then
 if(j.length+([(2,0,0,())]:ALB).length)*24<=140737488355328 then
 some (j++([(2,0,0,())]:ALB))
 else none
 else
 if(j.length+([(1,e.1,wI (e.2.1+i),())]:ALB).length)*24<=140737488355328 then
 some (j++([(1,e.1,wI (e.2.1+i),())]:ALB))
 else none
theorem AmT i a b d j e:AP sN 0 8 (sb (cd f162 116) 924) 6 (Ali i a b d j e) (Kl i a b d j e) (AjG i a b d j e):=by
 unfold AP;simp only[Kl,ALh];kernel_rfl
def KU(a:ALD)(b d:Int)(e:ALn)(i:Int)(j:ALB):AL8 ((Int×ALB)⊕ALB):=
 bif decide (i<e.2.2.1)then
 (Kl i a b d j e).bind λk=>some (.inl (wI (i+1),k))
 else
 some (.inr j)
def EX a b d e (z_:Int×ALB):=KU a b d e z_.1 z_.2
def N4 a b d e i j:=fix (EX a b d e) (i,j)
theorem AmU a b d e:A0 sN 0 7 (cd f162 116) 462 (Alj a b d e) (EX a b d e) (AjH a b d e):=by
 intro _;simp only[EX,KU,ALh];simp(disch:=refine id ?_;kernel_rfl) only[A8 (AmT ..) (K:=LP sN 0 7)];kernel_rfl
def KV(a:ALD)(b d:Int)(l:ALB):AL8 ((Int×ALB)⊕ALB):=
 bif decide (d<b)then
 if 0<=d/\d<a.length then
 if(l.length+([(0,0,0,())]:ALB).length)*24<=140737488355328 then
 (N4 a b d (a.getD d.toNat Ae.zero) 1 (l++([(0,0,0,())]:ALB))).bind λg=>some (.inl (wI (d+1),g))
 else none
 else none
 else
 some (.inr l)
def EY a b (z_:Int×ALB):=KV a b z_.1 z_.2
def N5 a b d l:=fix (EY a b) (d,l)
theorem AmV a b:A0 sN 0 3 (code f162) 58 (Alk a b) (EY a b) (AjI a b):=by
 intro _;simp only[EY,KV,ALh];simp(disch:=refine id ?_;kernel_rfl) only[N4,Az (AmU _ _ _ _) (K:=LP sN 0 3)];kernel_rfl
def JB(a:ALD):AL8 ALB:=
 (N5 a (a.length:Int) 0 ([]:ALB)).bind λc=>some c
def Ayp:=B6 [.d ALS] [⟨[.Ax [] ALS],[],ALB,λp=>JB p.1.1,λr=>(.Am 0,[.row 252 .Ai Ab r])⟩]
theorem AbJ:Ap prog 162 Ayp:=As (fn:=f162) ⟨⟨sN,pk trivial,λ_ R K=>by
 simp only[JB,ALi];simp(disch:=refine id ?_;kernel_rfl) only[N5,Az (AmV _ _) (K:=AY sN f162 0 R K)];kernel_rfl⟩,trivial⟩
abbrev QQ:=eN [(160,AfT),(161,Ayo),(162,Ayp)] {Ai:=false,A1:=[(1,{Bb:=[0,1,2,18,19,20],mvp:=[(0,[3])]}),(9,{Bb:=[0,8,9,10],Sj:=[(8,false,ALX),(9,false,ALX)]})],Bv:=[(1,[0,1,2]),(9,{Bb:=[]})],BR:=[(6,{Bb:=[0,1,2,18,19,20],mvp:=[(0,[3])]}),(10,[0,8,9,10]),(13,[0,8,9,10,11,12,61]),(15,[0,8,9,10,11,12,76]),(17,[0,8,9,10,11,12,91])],X9:=[(11,{Bb:=[0,8,9,10,11,12],VI:=true}),(17,{Bb:=[0,8,9,10,13,14],VI:=true}),(18,{Bb:=[0,8,9,10,13,14],VI:=true}),(19,{Bb:=[0,8,9,10],VI:=true})],D2:=[(6,[0,1,2,18,19,20]),(10,[0,8,9,10]),(13,[0,8,9,10,11,12]),(15,[0,8,9,10,11,12]),(17,[0,8,9,10,11,12])],ZA:=[(11,[0,8,9,10]),(17,[0,8,9,10,11,12]),(18,[0,8,9,10,13,14]),(19,[0,8,9,10,13,14])],tX:=[(17,AL5)]}
def Afw(a:Int) b c d (z_:Int×ALC×ALM×(AL7 (ALk×ALA))×ALA):=sT 132 [(0,.ptr 0 a [] 0),(8,dD ALX b),(9,dD ALX c),(10,dI z_.1)] [.box (.pr (dD ALU z_.2.1) (.pr (.Am 2) (.pr (.mp 3) (.pr (.Am 5) .u)))),.row 222 .Ai (.Au ALS (.Au ALS .unit)) d,.row 154 .Ai ALW z_.2.2.1,.map .Ai Aa ALV z_.2.2.2.1 none,.AK,.row 225 .Ai Aa z_.2.2.2.2]
def Afu(a:Int)(b c:ALB) d:=λ(e:(ALC×ALM×(AL7 (ALk×ALA))×ALA))=>xE 2 132 [] [.box (.pr (dD ALU e.1) (.pr (.Am 2) (.pr (.mp 3) (.pr (.Am 5) .u)))),.row 222 .Ai (.Au ALS (.Au ALS .unit)) d,.row 154 .Ai ALW e.2.1,.map .Ai Aa ALV e.2.2.1 none,.AK,.row 225 .Ai Aa e.2.2.2]
def Afv(a:Int) b c g i d j (k:(AL7 (ALk×ALA))) l:=sT 132 [(0,.ptr 0 a [] 0),(8,dD ALX b),(9,dD ALX c),(10,dI g)] [.box (.pr (dD ALU i) (.pr (.Am 2) (.pr (.mp 3) (.pr (.Am 5) .u)))),.row 222 .Ai (.Au ALS (.Au ALS .unit)) d,.row 154 .Ai ALW j,.map .Ai Aa ALV k none,.AK,.row 225 .Ai Aa l]
def Aft(a:Int) b c g (i:ALC) d (j:ALM) (k:(AL7 (ALk×ALA))) (l:ALA):=λ(n:(ALC×ALM×(AL7 (ALk×ALA))×ALA))=>xN 132 [(0,.ptr 0 a [] 0),(8,dD ALX b),(9,dD ALX c),(10,dI g)] [.box (.pr (dD ALU n.1) (.pr (.Am 2) (.pr (.mp 3) (.pr (.Am 5) .u)))),.row 222 .Ai (.Au ALS (.Au ALS .unit)) d,.row 154 .Ai ALW n.2.1,.map .Ai Aa ALV n.2.2.1 none,.AK,.row 225 .Ai Aa n.2.2.2]
def Aax(a:Int) b c g i d j (o:(AL7 (ALk×ALA))) l q s t u:=sT 132 [(0,.ptr 0 a [] 0),(8,dD ALX b),(9,dD ALX c),(10,dI g),(13,.ptr 5 0 [] 0),(14,.ptr 6 0 [] 0)] [.box (.pr (dD ALU i) (.pr (.Am 2) (.pr (.mp 3) (.pr (.Am 7) .u)))),.row 222 .Ai (.Au ALS (.Au ALS .unit)) d,.row 154 .Ai ALW j,.map .Ai Aa ALV o none,.AK,.box (.pr (dI q) (.pr (dI s) .u)),.box (.pr (dI t) (.pr (dI u) .u)),.row 225 .Ai Aa l]
def lI(a:Int) b c g i d j (o:(AL7 (ALk×ALA))) l (q:Int) (s:Int) (t:Int) (u:Int):=λ(v:(AL7 (ALk×ALA)))=>sT 132 [(0,.ptr 0 a [] 0),(8,dD ALX b),(9,dD ALX c),(10,dI g)] [.box (.pr (dD ALU i) (.pr (.Am 2) (.pr (.mp 3) (.pr (.Am 5) .u)))),.row 222 .Ai (.Au ALS (.Au ALS .unit)) d,.row 154 .Ai ALW j,.map .Ai Aa ALV v none,.AK,.row 225 .Ai Aa l]
def DD(a:Int)(b c:ALB)(g:Int)(i:ALC)(d:AL7 (ALD×(ALD×Unit)))(j:ALM)(o:AL7 (ALk×ALA))(l:ALA)(q s t u:Int):AL8 (AL7 (ALk×ALA)):=
 if((Bg Aa ALV o (t,u,())).length+([(q,s,())]:ALA).length)*16<=140737488355328 then
 bif Vq Aa ALV (BV Aa ALV o (t,u,()) (Bg Aa ALV o (t,u,()))) (t,u,()) (Wz Aa ALV o (t,u,()))then
 bif A7 Aa (t,u,()) (t,u,())then
 some (BV Aa ALV (BV Aa ALV o (t,u,()) (Bg Aa ALV o (t,u,()))) (t,u,()) ((Bg Aa ALV o (t,u,()))++([(q,s,())]:ALA)))
 else
 none
 else
 none
 else none
noncomputable def tm(a:Int)(b c:ALB)(g:Int)(i:ALC)(d:AL7 (ALD×(ALD×Unit)))(j:ALM)(o:AL7 (ALk×ALA))(l:ALA)(q s t u:Int):AL8 Unit:=if((Bg Aa ALV o (t,u,())).length+([(q,s,())]:ALA).length)*16<=140737488355328 then bif Vq Aa ALV (BV Aa ALV o (t,u,()) (Bg Aa ALV o (t,u,()))) (t,u,()) (Wz Aa ALV o (t,u,()))then bif A7 Aa (t,u,()) (t,u,())then M4 (lI a b c g i d j o l q s t u (BV Aa ALV (BV Aa ALV o (t,u,()) (Bg Aa ALV o (t,u,()))) (t,u,()) ((Bg Aa ALV o (t,u,()))++([(q,s,())]:ALA)))) (lI a b c g i d j o l q s t u (BV Aa ALV (BV Aa ALV o (t,u,()) (Bg Aa ALV o (t,u,()))) (t,u,()) ((Bg Aa ALV o (t,u,()))++([(q,s,())]:ALA))))else none else none else none
theorem Am4(a:Int)(b c:ALB)(g:Int)(i:ALC)(d:AL7 (ALD×(ALD×Unit)))(j:ALM)(o:AL7 (ALk×ALA))(l:ALA)(q s t u:Int):Py QQ 5 19 (sb (cd f139 60) 6) 2811 (Aax a b c g i d j o l q s t u) (DD a b c g i d j o l q s t u) (lI a b c g i d j o l q s t u):=by
 unfold Py;have h:sy QQ 5 19 (sb (cd f139 60) 6) (pt 2811) (Aax a b c g i d j o l q s t u) =
 if((Bg Aa ALV o (t,u,())).length+([(q,s,())]:ALA).length)*16<=140737488355328 then bif Vq Aa ALV (BV Aa ALV o (t,u,()) (Bg Aa ALV o (t,u,()))) (t,u,()) (Wz Aa ALV o (t,u,()))then bif A7 Aa (t,u,()) (t,u,())then(((tm a b c g i d j o l q s t u).bind λ_=>tm a b c g i d j o l q s t u).bind λ_=>some (lI a b c g i d j o l q s t u (BV Aa ALV (BV Aa ALV o (t,u,()) (Bg Aa ALV o (t,u,()))) (t,u,()) ((Bg Aa ALV o (t,u,()))++([(q,s,())]:ALA)))))else none else none else none:=by kernel_rfl
 rw[h];unfold DD;simp only[ALh,mS,mO];clear h;by_cases F6:((Bg Aa ALV o (t,u,())).length+([(q,s,())]:ALA).length)*16<=140737488355328
 ·rw[AJg F6,AJg F6];cases M7:(Vq Aa ALV (BV Aa ALV o (t,u,()) (Bg Aa ALV o (t,u,()))) (t,u,()) (Wz Aa ALV o (t,u,())))with
  |true =>
   simp only[AJe];cases j9:(A7 Aa (t,u,()) (t,u,()))with
   |true =>
    simp only[AJe];simp only[tm,AJe,AJg F6,M7,j9,AJK,AIY,ER]
   |false =>
    simp only[AJd]
    all_goals first |rfl |simp
  |false =>
   simp only[AJd]
   all_goals first |rfl |simp
 ·simp only[AJK,AJh F6]
def Aaw(a:Int) b c g i d j (k:(AL7 (ALk×ALA))) l w x y a1:=sT 132 [(0,.ptr 0 a [] 0),(8,dD ALX b),(9,dD ALX c),(10,dI g),(13,.ptr 5 0 [] 0),(14,.ptr 6 0 [] 0)] [.box (.pr (dD ALU i) (.pr (.Am 2) (.pr (.mp 3) (.pr (.Am 7) .u)))),.row 222 .Ai (.Au ALS (.Au ALS .unit)) d,.row 154 .Ai ALW j,.map .Ai Aa ALV k none,.AK,.box (.pr (dI w) (.pr (dI x) .u)),.box (.pr (dI y) (.pr (dI a1) .u)),.row 225 .Ai Aa l]
def lH(a:Int) b c g i d j (k:(AL7 (ALk×ALA))) l w x y a1:=λ(o:(AL7 (ALk×ALA)))=>sT 132 [(0,.ptr 0 a [] 0),(8,dD ALX b),(9,dD ALX c),(10,dI g),(13,.ptr 5 0 [] 0),(14,.ptr 6 0 [] 0)] [.box (.pr (dD ALU i) (.pr (.Am 2) (.pr (.mp 3) (.pr (.Am 7) .u)))),.row 222 .Ai (.Au ALS (.Au ALS .unit)) d,.row 154 .Ai ALW j,.map .Ai Aa ALV o none,.AK,.box (.pr (dI w) (.pr (dI x) .u)),.box (.pr (dI y) (.pr (dI a1) .u)),.row 225 .Ai Aa l]
def DC(a:Int)(b c:ALB)(g:Int)(i:ALC)(d:AL7 (ALD×(ALD×Unit)))(j:ALM)(k:AL7 (ALk×ALA))(l:ALA)(w x y a1:Int):AL8 (AL7 (ALk×ALA)):=
 if((Bg Aa ALV k (w,x,())).length+([(y,a1,())]:ALA).length)*16<=140737488355328 then
 bif Vq Aa ALV (BV Aa ALV k (w,x,()) (Bg Aa ALV k (w,x,()))) (w,x,()) (Wz Aa ALV k (w,x,()))then
 bif A7 Aa (w,x,()) (w,x,())then
 some (BV Aa ALV (BV Aa ALV k (w,x,()) (Bg Aa ALV k (w,x,()))) (w,x,()) ((Bg Aa ALV k (w,x,()))++([(y,a1,())]:ALA)))
 else
 none
 else
 none
 else none
noncomputable def tj(a:Int)(b c:ALB)(g:Int)(i:ALC)(d:AL7 (ALD×(ALD×Unit)))(j:ALM)(k:AL7 (ALk×ALA))(l:ALA)(w x y a1:Int):AL8 Unit:=if((Bg Aa ALV k (w,x,())).length+([(y,a1,())]:ALA).length)*16<=140737488355328 then bif Vq Aa ALV (BV Aa ALV k (w,x,()) (Bg Aa ALV k (w,x,()))) (w,x,()) (Wz Aa ALV k (w,x,()))then bif A7 Aa (w,x,()) (w,x,())then M4 (lH a b c g i d j k l w x y a1 (BV Aa ALV (BV Aa ALV k (w,x,()) (Bg Aa ALV k (w,x,()))) (w,x,()) ((Bg Aa ALV k (w,x,()))++([(y,a1,())]:ALA)))) (lH a b c g i d j k l w x y a1 (BV Aa ALV (BV Aa ALV k (w,x,()) (Bg Aa ALV k (w,x,()))) (w,x,()) ((Bg Aa ALV k (w,x,()))++([(y,a1,())]:ALA))))else none else none else none
theorem Am3(a:Int)(b c:ALB)(g:Int)(i:ALC)(d:AL7 (ALD×(ALD×Unit)))(j:ALM)(k:AL7 (ALk×ALA))(l:ALA)(w x y a1:Int):Py QQ 5 18 (sb (cd f139 60) 6) 2810 (Aaw a b c g i d j k l w x y a1) (DC a b c g i d j k l w x y a1) (lH a b c g i d j k l w x y a1):=by
 unfold Py;have h:sy QQ 5 18 (sb (cd f139 60) 6) (pt 2810) (Aaw a b c g i d j k l w x y a1) =
 if((Bg Aa ALV k (w,x,())).length+([(y,a1,())]:ALA).length)*16<=140737488355328 then bif Vq Aa ALV (BV Aa ALV k (w,x,()) (Bg Aa ALV k (w,x,()))) (w,x,()) (Wz Aa ALV k (w,x,()))then bif A7 Aa (w,x,()) (w,x,())then(((tj a b c g i d j k l w x y a1).bind λ_=>tj a b c g i d j k l w x y a1).bind λ_=>some (lH a b c g i d j k l w x y a1 (BV Aa ALV (BV Aa ALV k (w,x,()) (Bg Aa ALV k (w,x,()))) (w,x,()) ((Bg Aa ALV k (w,x,()))++([(y,a1,())]:ALA)))))else none else none else none:=by kernel_rfl
 rw[h];unfold DC;simp only[ALh,mS,mO];clear h;by_cases F6:((Bg Aa ALV k (w,x,())).length+([(y,a1,())]:ALA).length)*16<=140737488355328
 ·rw[AJg F6,AJg F6];cases M7:(Vq Aa ALV (BV Aa ALV k (w,x,()) (Bg Aa ALV k (w,x,()))) (w,x,()) (Wz Aa ALV k (w,x,())))with
  |true =>
   simp only[AJe];cases j9:(A7 Aa (w,x,()) (w,x,()))with
   |true =>
    simp only[AJe];simp only[tj,AJe,AJg F6,M7,j9,AJK,AIY,ER]
   |false =>
    simp only[AJd]
    all_goals first |rfl |simp
  |false =>
   simp only[AJd]
   all_goals first |rfl |simp
 ·simp only[AJK,AJh F6]
def Aav(a:Int) b c g i d j (k:(AL7 (ALk×ALA))) l b1 c1:=sT 132 [(0,.ptr 0 a [] 0),(8,dD ALX b),(9,dD ALX c),(10,dI g),(11,.ptr 5 0 [] 0),(12,.ptr 6 0 [] 0)] [.box (.pr (dD ALU i) (.pr (.Am 2) (.pr (.mp 3) (.pr (.Am 7) .u)))),.row 222 .Ai (.Au ALS (.Au ALS .unit)) d,.row 154 .Ai ALW j,.map .Ai Aa ALV k none,.AK,.box (dD Ab b1),.box (dD Ab c1),.row 225 .Ai Aa l]
def ao(a:Int) b c g i d j (k:(AL7 (ALk×ALA))) l (b1:ALl) (c1:ALl):=λ(d1:(Int×Int×Int×Int))=>sT 132 [(0,.ptr 0 a [] 0),(8,dD ALX b),(9,dD ALX c),(10,dI g),(13,.ptr 5 0 [] 0),(14,.ptr 6 0 [] 0)] [.box (.pr (dD ALU i) (.pr (.Am 2) (.pr (.mp 3) (.pr (.Am 7) .u)))),.row 222 .Ai (.Au ALS (.Au ALS .unit)) d,.row 154 .Ai ALW j,.map .Ai Aa ALV k none,.AK,.box (.pr (dI d1.1) (.pr (dI d1.2.1) .u)),.box (.pr (dI d1.2.2.1) (.pr (dI d1.2.2.2) .u)),.row 225 .Ai Aa l]
def Na(a:Int)(b c:ALB)(g:Int)(i:ALC)(d:AL7 (ALD×(ALD×Unit)))(j:ALM)(k:AL7 (ALk×ALA))(l:ALA)(b1 c1:ALl):AL8 (Int×Int×Int×Int):=
 some (b1.2.1,b1.2.2.1,c1.2.1,c1.2.2.1)
theorem Am2(a:Int)(b c:ALB)(g:Int)(i:ALC)(d:AL7 (ALD×(ALD×Unit)))(j:ALM)(k:AL7 (ALk×ALA))(l:ALA)(b1 c1:ALl):Py QQ 5 17 (sb (cd f139 60) 6) 1404 (Aav a b c g i d j k l b1 c1) (Na a b c g i d j k l b1 c1) (ao a b c g i d j k l b1 c1):=by
 unfold Py;have h:sy QQ 5 17 (sb (cd f139 60) 6) (pt 1404) (Aav a b c g i d j k l b1 c1) =
 (((M4 (ao a b c g i d j k l b1 c1 (b1.2.1,b1.2.2.1,c1.2.1,c1.2.2.1)) (ao a b c g i d j k l b1 c1 (b1.2.1,b1.2.2.1,c1.2.1,c1.2.2.1))).bind λ_=>M4 (ao a b c g i d j k l b1 c1 (b1.2.1,b1.2.2.1,c1.2.1,c1.2.2.1)) (ao a b c g i d j k l b1 c1 (b1.2.1,b1.2.2.1,c1.2.1,c1.2.2.1))).bind λ_=>some (ao a b c g i d j k l b1 c1 (b1.2.1,b1.2.2.1,c1.2.1,c1.2.2.1))):=by kernel_rfl
 rw[h];unfold Na;simp only[ALh,mS,mO];clear h;simp only[AJK,AIY,ER]
def Aau(a:Int) b c g i d j (k:(AL7 (ALk×ALA))) l:=sT 132 [(0,.ptr 0 a [] 0),(8,dD ALX b),(9,dD ALX c),(10,dI g),(11,.ptr 5 0 [] 0),(12,.ptr 6 0 [] 0)] [.box (.pr (dD ALU i) (.pr (.Am 2) (.pr (.mp 3) (.pr (.Am 7) .u)))),.row 222 .Ai (.Au ALS (.Au ALS .unit)) d,.row 154 .Ai ALW j,.map .Ai Aa ALV k none,.AK,.box (dD Ab (b.getD g.toNat Ab.zero)),.box (dD Ab (c.getD g.toNat Ab.zero)),.row 225 .Ai Aa l]
def sY(a:Int)(b c:ALB)(g:Int)(i:ALC)(d:AL7 (ALD×(ALD×Unit)))(j:ALM)(k:AL7 (ALk×ALA))(l:ALA)(m0:Bool):Ex×St:=xN 132 [(0,.ptr 0 a [] 0),(8,dD ALX b),(9,dD ALX c),(10,dI g),(11,.ptr 5 0 [] 0),(12,.ptr 6 0 [] 0),(91,dB m0)] [.box (.pr (dD ALU i) (.pr (.Am 2) (.pr (.mp 3) (.pr (.Am 7) .u)))),.row 222 .Ai (.Au ALS (.Au ALS .unit)) d,.row 154 .Ai ALW j,.map .Ai Aa ALV k none,.AK,.box (dD Ab (b.getD g.toNat Ab.zero)),.box (dD Ab (c.getD g.toNat Ab.zero)),.row 225 .Ai Aa l]
theorem Am1 a b c g i d j k l:Xe QQ 5 17 (sb (cd f139 60) 6) (pt 350) (Aau a b c g i d j k l)=some (sY a b c g i d j k l (((b.getD g.toNat Ab.zero).1==1)&&((c.getD g.toNat Ab.zero).1==1))):=by
 refine .trans (b:=
 bif (b.getD g.toNat Ab.zero).1==1 then
 some (sY a b c g i d j k l ((c.getD g.toNat Ab.zero).1==1))
 else
 some (sY a b c g i d j k l false)) (by kernel_rfl) ?_
 cases ((b.getD g.toNat Ab.zero).1==1);rfl;rfl
def Aat(a:Int) b c g i d j (k:(AL7 (ALk×ALA))) l:=sT 132 [(0,.ptr 0 a [] 0),(8,dD ALX b),(9,dD ALX c),(10,dI g),(11,.ptr 5 0 [] 0),(12,.ptr 6 0 [] 0)] [.box (.pr (dD ALU i) (.pr (.Am 2) (.pr (.mp 3) (.pr (.Am 7) .u)))),.row 222 .Ai (.Au ALS (.Au ALS .unit)) d,.row 154 .Ai ALW j,.map .Ai Aa ALV k none,.AK,.box (dD Ab (b.getD g.toNat Ab.zero)),.box (dD Ab (c.getD g.toNat Ab.zero)),.row 225 .Ai Aa l]
def sX(a:Int)(b c:ALB)(g:Int)(i:ALC)(d:AL7 (ALD×(ALD×Unit)))(j:ALM)(k:AL7 (ALk×ALA))(l:ALA)(m0:Bool):Ex×St:=xN 132 [(0,.ptr 0 a [] 0),(8,dD ALX b),(9,dD ALX c),(10,dI g),(11,.ptr 5 0 [] 0),(12,.ptr 6 0 [] 0),(76,dB m0)] [.box (.pr (dD ALU i) (.pr (.Am 2) (.pr (.mp 3) (.pr (.Am 7) .u)))),.row 222 .Ai (.Au ALS (.Au ALS .unit)) d,.row 154 .Ai ALW j,.map .Ai Aa ALV k none,.AK,.box (dD Ab (b.getD g.toNat Ab.zero)),.box (dD Ab (c.getD g.toNat Ab.zero)),.row 225 .Ai Aa l]
theorem Am0 a b c g i d j k l:Xe QQ 5 15 (sb (cd f139 60) 6) (pt 86) (Aat a b c g i d j k l)=some (sX a b c g i d j k l (((b.getD g.toNat Ab.zero).1==1)&&((c.getD g.toNat Ab.zero).1==0))):=by
 refine .trans (b:=
 bif (b.getD g.toNat Ab.zero).1==1 then
 some (sX a b c g i d j k l ((c.getD g.toNat Ab.zero).1==0))
 else
 some (sX a b c g i d j k l false)) (by kernel_rfl) ?_
 cases ((b.getD g.toNat Ab.zero).1==1);rfl;rfl
def Aas(a:Int) b c g i d j (k:(AL7 (ALk×ALA))) l:=sT 132 [(0,.ptr 0 a [] 0),(8,dD ALX b),(9,dD ALX c),(10,dI g),(11,.ptr 5 0 [] 0),(12,.ptr 6 0 [] 0)] [.box (.pr (dD ALU i) (.pr (.Am 2) (.pr (.mp 3) (.pr (.Am 7) .u)))),.row 222 .Ai (.Au ALS (.Au ALS .unit)) d,.row 154 .Ai ALW j,.map .Ai Aa ALV k none,.AK,.box (dD Ab (b.getD g.toNat Ab.zero)),.box (dD Ab (c.getD g.toNat Ab.zero)),.row 225 .Ai Aa l]
def sW(a:Int)(b c:ALB)(g:Int)(i:ALC)(d:AL7 (ALD×(ALD×Unit)))(j:ALM)(k:AL7 (ALk×ALA))(l:ALA)(m0:Bool):Ex×St:=xN 132 [(0,.ptr 0 a [] 0),(8,dD ALX b),(9,dD ALX c),(10,dI g),(11,.ptr 5 0 [] 0),(12,.ptr 6 0 [] 0),(61,dB m0)] [.box (.pr (dD ALU i) (.pr (.Am 2) (.pr (.mp 3) (.pr (.Am 7) .u)))),.row 222 .Ai (.Au ALS (.Au ALS .unit)) d,.row 154 .Ai ALW j,.map .Ai Aa ALV k none,.AK,.box (dD Ab (b.getD g.toNat Ab.zero)),.box (dD Ab (c.getD g.toNat Ab.zero)),.row 225 .Ai Aa l]
theorem AmZ a b c g i d j k l:Xe QQ 5 13 (sb (cd f139 60) 6) (pt 20) (Aas a b c g i d j k l)=some (sW a b c g i d j k l (((b.getD g.toNat Ab.zero).1==0)&&((c.getD g.toNat Ab.zero).1==1))):=by
 refine .trans (b:=
 bif (b.getD g.toNat Ab.zero).1==0 then
 some (sW a b c g i d j k l ((c.getD g.toNat Ab.zero).1==1))
 else
 some (sW a b c g i d j k l false)) (by kernel_rfl) ?_
 cases ((b.getD g.toNat Ab.zero).1==0);rfl;rfl
def Aar(a:Int) b c g i d j (k:(AL7 (ALk×ALA))) l:=sT 132 [(0,.ptr 0 a [] 0),(8,dD ALX b),(9,dD ALX c),(10,dI g)] [.box (.pr (dD ALU i) (.pr (.Am 2) (.pr (.mp 3) (.pr (.Am 5) .u)))),.row 222 .Ai (.Au ALS (.Au ALS .unit)) d,.row 154 .Ai ALW j,.map .Ai Aa ALV k none,.AK,.row 225 .Ai Aa l]
def lG(a:Int) b c g i d j (k:(AL7 (ALk×ALA))) l:=λ(e1:Unit)=>sT 132 [(0,.ptr 0 a [] 0),(8,dD ALX b),(9,dD ALX c),(10,dI g),(11,.ptr 5 0 [] 0),(12,.ptr 6 0 [] 0)] [.box (.pr (dD ALU i) (.pr (.Am 2) (.pr (.mp 3) (.pr (.Am 7) .u)))),.row 222 .Ai (.Au ALS (.Au ALS .unit)) d,.row 154 .Ai ALW j,.map .Ai Aa ALV k none,.AK,.box (dD Ab (b.getD g.toNat Ab.zero)),.box (dD Ab (c.getD g.toNat Ab.zero)),.row 225 .Ai Aa l]
def Iu(a:Int)(b c:ALB)(g:Int)(i:ALC)(d:AL7 (ALD×(ALD×Unit)))(j:ALM)(k:AL7 (ALk×ALA))(l:ALA):AL8 Unit:=
 if 0<=g/\g<b.length then
 if 0<=g/\g<c.length then
 some ()
 else none
 else none
noncomputable def FK(a:Int)(b c:ALB)(g:Int)(i:ALC)(d:AL7 (ALD×(ALD×Unit)))(j:ALM)(k:AL7 (ALk×ALA))(l:ALA):AL8 Unit:=M4 (lG a b c g i d j k l ()) (lG a b c g i d j k l ())
def RE(w:AL8 Unit):AL8 Unit:=cc w w
theorem AmY(a:Int)(b c:ALB)(g:Int)(i:ALC)(d:AL7 (ALD×(ALD×Unit)))(j:ALM)(k:AL7 (ALk×ALA))(l:ALA):Py QQ 5 11 (sb (cd f139 60) 6) 4 (Aar a b c g i d j k l) (Iu a b c g i d j k l) (lG a b c g i d j k l):=by
 unfold Py;have h:sy QQ 5 11 (sb (cd f139 60) 6) (pt 4) (Aar a b c g i d j k l) =
 if 0<=g/\g<b.length then if 0<=g/\g<c.length then((if 0<=g/\g<b.length then if 0<=g/\g<c.length then((RE (FK a b c g i d j k l)).bind λ_=>((FK a b c g i d j k l).bind λ_=>(FK a b c g i d j k l).bind λ_=>(FK a b c g i d j k l)).bind λ_=>(FK a b c g i d j k l).bind λ_=>(FK a b c g i d j k l).bind λ_=>(FK a b c g i d j k l)).bind λ_=>((RE (FK a b c g i d j k l)).bind λ_=>(RE (FK a b c g i d j k l)).bind λ_=>(FK a b c g i d j k l).bind λ_=>(FK a b c g i d j k l)).bind λ_=>(((FK a b c g i d j k l).bind λ_=>(FK a b c g i d j k l).bind λ_=>(FK a b c g i d j k l)).bind λ_=>(RE (FK a b c g i d j k l)).bind λ_=>(RE (FK a b c g i d j k l)).bind λ_=>(FK a b c g i d j k l)).bind λ_=>((FK a b c g i d j k l).bind λ_=>(FK a b c g i d j k l).bind λ_=>(FK a b c g i d j k l)).bind λ_=>(RE (FK a b c g i d j k l)).bind λ_=>(RE (FK a b c g i d j k l)).bind λ_=>(FK a b c g i d j k l)else none else none).bind λ_=>some (lG a b c g i d j k l ()))else none else none:=by kernel_rfl
 rw[h];unfold Iu;simp only[ALh,mS,mO];clear h;by_cases F6:(0:Int)<=g/\g<(b.length:Int)
 ·rw[AJg F6,AJg F6];by_cases M7:(0:Int)<=g/\g<(c.length:Int)
  ·rw[AJg M7,AJg M7];simp only[RE,cc,FK,AJe,AJg F6,AJg M7,AJK,AIY,ER]
  ·simp only[AJg F6,AJK,AJh M7]
 ·simp only[AJK,AJh F6]
def EG(a:Int)(b c:ALB)(g:Int)(i:ALC)(d:AL7 (ALD×(ALD×Unit)))(j:ALM)(k:AL7 (ALk×ALA))(l:ALA):AL8 (ALC×ALM×(AL7 (ALk×ALA))×ALA):=
 (Iu a b c g i d j k l).bind λe1=>QF (Aas a b c g i d j k l) (
 bif ((b.getD g.toNat Ab.zero).1==0)&&((c.getD g.toNat Ab.zero).1==1)then
 (Bi a (c.getD g.toNat Ab.zero).2.1 (c.getD g.toNat Ab.zero).2.2.1 i j l).bind λg1=>some (g1.1,g1.2.1,k,g1.2.2)
 else
 QF (Aat a b c g i d j k l) (
 bif ((b.getD g.toNat Ab.zero).1==1)&&((c.getD g.toNat Ab.zero).1==0)then
 (Bi a (b.getD g.toNat Ab.zero).2.1 (b.getD g.toNat Ab.zero).2.2.1 i j l).bind λi1=>some (i1.1,i1.2.1,k,i1.2.2)
 else
 QF (Aau a b c g i d j k l) (
 bif ((b.getD g.toNat Ab.zero).1==1)&&((c.getD g.toNat Ab.zero).1==1)then
 (Na a b c g i d j k l (b.getD g.toNat Ab.zero) (c.getD g.toNat Ab.zero)).bind λd1=>(DC a b c g i d j k l d1.1 d1.2.1 d1.2.2.1 d1.2.2.2).bind λo=>(DD a b c g i d j o l d1.1 d1.2.1 d1.2.2.1 d1.2.2.2).bind λv=>some (i,j,v,l)
 else
 some (i,j,k,l))))
theorem Afx a b c g i d j k l:AP QQ 5 10 (cd f139 60) 6 (Afv a b c g i d j k l) (EG a b c g i d j k l) (Aft a b c g i d j k l):=by
 unfold AP;simp only[EG,ALh];simp(disch:=refine id ?_;kernel_rfl) only[Up (AmY ..) (K:=Ta QQ 5 10),F8 (AmZ ..) (K:=Ta QQ 5 10),F8 (Am0 ..) (K:=Ta QQ 5 10),F8 (Am1 ..) (K:=Ta QQ 5 10),Up (Am2 ..) (K:=Ta QQ 5 10),Up (Am3 ..) (K:=Ta QQ 5 10),Up (Am4 ..) (K:=Ta QQ 5 10)];kernel_rfl
def FQ(a:Int)(b c:ALB)(d:AL7 (ALD×(ALD×Unit)))(g:Int)(i:ALC)(j:ALM)(k:AL7 (ALk×ALA))(l:ALA):AL8 ((Int×ALC×ALM×(AL7 (ALk×ALA))×ALA)⊕(ALC×ALM×(AL7 (ALk×ALA))×ALA)):=
 bif decide (g<(b.length:Int))then
 (EG a b c g i d j k l).bind λn=>some (.inl (wI (g+1),n.1,n.2.1,n.2.2.1,n.2.2.2))
 else
 some (.inr (i,j,k,l))
def CJ a b c d (z_:Int×ALC×ALM×(AL7 (ALk×ALA))×ALA):=FQ a b c d z_.1 z_.2.1 z_.2.2.1 z_.2.2.2.1 z_.2.2.2.2
def HB a b c d g i j k l:=fix (CJ a b c d) (g,i,j,k,l)
theorem Afy a b c d:A0 QQ 5 9 (code f139) 30 (Afw a b c d) (CJ a b c d) (Afu a b c d):=by
 intro _;simp only[CJ,FQ,ALh];simp(disch:=refine id ?_;kernel_rfl) only[A8 (Afx ..) (K:=LP QQ 5 9)];kernel_rfl
def Aln(a:Int) j1 k1 d (l1:(AL7 (ALk×ALA))) n1 o1 (z_:Int×ALC×ALM×ALA):=sT 132 [(0,.ptr 0 a [] 0),(1,.Ax [1] ALS j1),(2,.Ax [1] ALS k1),(18,.Am 5),(19,dI o1),(20,dI z_.1)] [.box (.pr (dD ALU z_.2.1) (.pr (.Am 2) (.pr (.mp 3) (.pr (.Am 6) .u)))),.row 222 .Ai (.Au ALS (.Au ALS .unit)) d,.row 154 .Ai ALW z_.2.2.1,.map .Ai Aa ALV l1 none,.AK,.row 218 (.sh [1]) Ae n1,.row 225 .Ai Aa z_.2.2.2]
def AjK(a:Int) j1 k1 d (l1:(AL7 (ALk×ALA))) (n1:ALD) (o1:Int):=λ(q1:(ALC×ALM×ALA))=>xE 0 132 [(0,.ptr 0 a [] 0),(1,.Ax [1] ALS j1),(2,.Ax [1] ALS k1)] [.box (.pr (dD ALU q1.1) (.pr (.Am 2) (.pr (.mp 3) (.pr (.Am 5) .u)))),.row 222 .Ai (.Au ALS (.Au ALS .unit)) d,.row 154 .Ai ALW q1.2.1,.map .Ai Aa ALV l1 none,.AK,.row 225 .Ai Aa q1.2.2]
def Alm(a:Int) j1 k1 o1 s1 t1 d u1 (l1:(AL7 (ALk×ALA))) n1 v1:=sT 132 [(0,.ptr 0 a [] 0),(1,.Ax [1] ALS j1),(2,.Ax [1] ALS k1),(18,.Am 5),(19,dI o1),(20,dI s1)] [.box (.pr (dD ALU t1) (.pr (.Am 2) (.pr (.mp 3) (.pr (.Am 6) .u)))),.row 222 .Ai (.Au ALS (.Au ALS .unit)) d,.row 154 .Ai ALW u1,.map .Ai Aa ALV l1 none,.AK,.row 218 (.sh [1]) Ae n1,.row 225 .Ai Aa v1]
def AjJ(a:Int) j1 k1 o1 s1 (t1:ALC) d (u1:ALM) (l1:(AL7 (ALk×ALA))) n1 (v1:ALA):=λ(w1:(ALC×ALM×ALA))=>xN 132 [(0,.ptr 0 a [] 0),(1,.Ax [1] ALS j1),(2,.Ax [1] ALS k1),(18,.Am 5),(19,dI o1),(20,dI s1)] [.box (.pr (dD ALU w1.1) (.pr (.Am 2) (.pr (.mp 3) (.pr (.Am 6) .u)))),.row 222 .Ai (.Au ALS (.Au ALS .unit)) d,.row 154 .Ai ALW w1.2.1,.map .Ai Aa ALV l1 none,.AK,.row 218 (.sh [1]) Ae n1,.row 225 .Ai Aa w1.2.2]
def FD(a:Int)(j1 k1:ALD)(o1 s1:Int)(t1:ALC)(d:AL7 (ALD×(ALD×Unit)))(u1:ALM)(l1:AL7 (ALk×ALA))(n1:ALD)(v1:ALA):AL8 (ALC×ALM×ALA):=
 if 0<=s1/\s1<n1.length then
 bif decide ((n1.getD s1.toNat Ae.zero).1>=0)then
 (Bi a (n1.getD s1.toNat Ae.zero).1 (n1.getD s1.toNat Ae.zero).2.1 t1 u1 v1).bind λx1=>(Bi a (n1.getD s1.toNat Ae.zero).1 (wI ((n1.getD s1.toNat Ae.zero).2.1+(n1.getD s1.toNat Ae.zero).2.2.1)) x1.1 x1.2.1 x1.2.2).bind λy1=>some (y1.1,y1.2.1,y1.2.2)
 else
 some (t1,u1,v1)
 else none
theorem AmW a j1 k1 o1 s1 t1 d u1 l1 n1 v1:AP QQ 5 6 (cd f139 20) 14 (Alm a j1 k1 o1 s1 t1 d u1 l1 n1 v1) (FD a j1 k1 o1 s1 t1 d u1 l1 n1 v1) (AjJ a j1 k1 o1 s1 t1 d u1 l1 n1 v1):=by
 unfold AP;simp only[FD,ALh];kernel_rfl
def G0(a:Int)(j1 k1:ALD)(d:AL7 (ALD×(ALD×Unit)))(l1:AL7 (ALk×ALA))(n1:ALD)(o1 s1:Int)(t1:ALC)(u1:ALM)(v1:ALA):AL8 ((Int×ALC×ALM×ALA)⊕(ALC×ALM×ALA)):=
 bif decide (s1<o1)then
 (FD a j1 k1 o1 s1 t1 d u1 l1 n1 v1).bind λw1=>some (.inl (wI (s1+1),w1.1,w1.2.1,w1.2.2))
 else
 some (.inr (t1,u1,v1))
def CS a j1 k1 d l1 n1 o1 (z_:Int×ALC×ALM×ALA):=G0 a j1 k1 d l1 n1 o1 z_.1 z_.2.1 z_.2.2.1 z_.2.2.2
def Is a j1 k1 d l1 n1 o1 s1 t1 u1 v1:=fix (CS a j1 k1 d l1 n1 o1) (s1,t1,u1,v1)
theorem AmX a j1 k1 d l1 n1 o1:A0 QQ 5 1 (code f139) 10 (Aln a j1 k1 d l1 n1 o1) (CS a j1 k1 d l1 n1 o1) (AjK a j1 k1 d l1 n1 o1):=by
 intro _;simp only[CS,G0,ALh];simp(disch:=refine id ?_;kernel_rfl) only[A8 (AmW ..) (K:=LP QQ 5 1)];kernel_rfl
def IX(a:Int)(j1 k1:ALD)(a2:ALC)(d:AL7 (ALD×(ALD×Unit)))(b2:ALM)(l1:AL7 (ALk×ALA))(c2:ALA):AL8 (ALC×(AL7 (ALD×(ALD×Unit)))×ALM×(AL7 (ALk×ALA))×ALA):=
 (HU ([j1,k1]:ALO)).bind λn1=>(Is a j1 k1 d l1 n1 (n1.length:Int) 0 a2 b2 c2).bind λq1=>(JB j1).bind λb=>(JB k1).bind λc=>(HB a b c d 1 q1.1 q1.2.1 l1 q1.2.2).bind λe=>some (e.1,d,e.2.1,e.2.2.1,e.2.2.2)
def Ax8:=B6 [.UJ,.UJ,.UJ] [⟨[.ptr 0 [] 0,.Ax [1] ALS,.Ax [1] ALS],[.box (.pr (.Ax [] ALU) (.pr (.k (.Am 2)) (.pr (.k (.mp 3)) (.pr (.k (.Am 4)) (.k .u))))),.row 222 .Ai (.Au ALS (.Au ALS .unit)),.row 154 .Ai ALW,.map .Ai Aa ALV,.row 225 .Ai Aa],ALC×(AL7 (ALD×(ALD×Unit)))×ALM×(AL7 (ALk×ALA))×ALA,λp=>IX p.1.1 p.1.2.1 p.1.2.2.1 p.2.1.1 p.2.2.1 p.2.2.2.1 p.2.2.2.2.1 p.2.2.2.2.2.1,λr=>(.nil,[.box (.pr (dD ALU r.1) (.pr (.Am 2) (.pr (.mp 3) (.pr (.Am 5) .u)))),.row 222 .Ai (.Au ALS (.Au ALS .unit)) r.2.1,.row 154 .Ai ALW r.2.2.1,.map .Ai Aa ALV r.2.2.2.1 none,.AK,.row 225 .Ai Aa r.2.2.2.2])⟩]
theorem Abs:Ap prog 139 Ax8:=As (fn:=f139) ⟨⟨QQ,pk ⟨eQ,AbI,AbJ,trivial⟩,λ_ R K=>by
 simp only[IX,ALi];simp(disch:=refine id ?_;kernel_rfl) only[Is,Az (AmX _ _ _ _ _ _ _) (K:=AY QQ f139 5 R K),HB,Az (Afy _ _ _ _) (K:=AY QQ f139 5 R K)];kernel_rfl⟩,trivial⟩
abbrev Zd:=eN [(160,AfT)] {take:=[37],A1:=[(1,{Bb:=[0,2],mvp:=[(0,[3])]}),(6,[0,2,45,46,47]),(12,[2,7,68,69,70]),(15,[2,7,8,68,69,70,75,76,77])],Bv:=[(1,[0,2]),(6,[0,2]),(12,[2,7]),(15,[2,7,68,69,70])],BR:=[(19,[2,7,8,68,69,70,75,76,77])],X9:=[(18,{Bb:=[2,7,8,68,69,70,75,76,77],VI:=true})],D2:=[(19,[2,7,8,68,69,70,75,76,77])],ZA:=[(18,[2,7,8,10,68,69,70,75,76,77])],stl:=[90]}
def Als(a:AL7 (ALk×ALA)) b c d e (z_:Int×ALK):=sT 98 [(2,.ptr 4 0 [] 0),(7,.ptr 5 0 [] 0),(68,.Am 1),(69,dI b),(70,dI z_.1)] [.box (.pr (dD ALU c) (.pr (.Am 1) (.pr (.mp 2) (.pr (.Am 6) .u)))),.row 154 .Ai ALW d,.map .Ai Aa ALV a none,.AK,.box (.pr .zs .u),.box (.pr (.Am 7) .u),.row 225 .Ai Aa e,.row 32 .Ai ALT z_.2]
def AjP(a:AL7 (ALk×ALA))(b:Int) c d e:=λ(g:ALK)=>xE 4 98 [(2,.ptr 4 0 [] 0),(7,.ptr 5 0 [] 0)] [.box (.pr (dD ALU c) (.pr (.Am 1) (.pr (.mp 2) (.pr (.Am 6) .u)))),.row 154 .Ai ALW d,.map .Ai Aa ALV a none,.AK,.box (.pr .zs .u),.box (.pr (.Am 7) .u),.row 225 .Ai Aa e,.row 32 .Ai ALT g]
def Alr i b c d (a:(AL7 (ALk×ALA))) e j k (z_:Int×ALK):=sT 98 [(2,.ptr 4 0 [] 0),(7,.ptr 5 0 [] 0),(8,dI i),(68,.Am 1),(69,dI b),(70,dI i),(75,.Ax [1] ALW j),(76,dI k),(77,dI z_.1)] [.box (.pr (dD ALU c) (.pr (.Am 1) (.pr (.mp 2) (.pr (.Am 6) .u)))),.row 154 .Ai ALW d,.map .Ai Aa ALV a none,.AK,.box (.pr .zs .u),.box (.pr (.Am 7) .u),.row 225 .Ai Aa e,.row 32 .Ai ALT z_.2]
def AjO i b c d (a:(AL7 (ALk×ALA))) e (j:ALy) (k:Int):=λ(l:ALK)=>xE 6 98 [(2,.ptr 4 0 [] 0),(7,.ptr 5 0 [] 0),(68,.Am 1),(69,dI b),(70,dI i)] [.box (.pr (dD ALU c) (.pr (.Am 1) (.pr (.mp 2) (.pr (.Am 6) .u)))),.row 154 .Ai ALW d,.map .Ai Aa ALV a none,.AK,.box (.pr .zs .u),.box (.pr (.Am 7) .u),.row 225 .Ai Aa e,.row 32 .Ai ALT l]
def Alq i b j k n c d (a:(AL7 (ALk×ALA))) e o:=sT 98 [(2,.ptr 4 0 [] 0),(7,.ptr 5 0 [] 0),(8,dI i),(68,.Am 1),(69,dI b),(70,dI i),(75,.Ax [1] ALW j),(76,dI k),(77,dI n)] [.box (.pr (dD ALU c) (.pr (.Am 1) (.pr (.mp 2) (.pr (.Am 6) .u)))),.row 154 .Ai ALW d,.map .Ai Aa ALV a none,.AK,.box (.pr .zs .u),.box (.pr (.Am 7) .u),.row 225 .Ai Aa e,.row 32 .Ai ALT o]
def AjN i b j k n c d (a:(AL7 (ALk×ALA))) e (o:ALK):=λ(q:ALK)=>xN 98 [(2,.ptr 4 0 [] 0),(7,.ptr 5 0 [] 0),(8,dI i),(68,.Am 1),(69,dI b),(70,dI i),(75,.Ax [1] ALW j),(76,dI k),(77,dI n)] [.box (.pr (dD ALU c) (.pr (.Am 1) (.pr (.mp 2) (.pr (.Am 6) .u)))),.row 154 .Ai ALW d,.map .Ai Aa ALV a none,.AK,.box (.pr .zs .u),.box (.pr (.Am 7) .u),.row 225 .Ai Aa e,.row 32 .Ai ALT q]
def Aay i n b j k c d (a:(AL7 (ALk×ALA))) e o:=sT 98 [(2,.ptr 4 0 [] 0),(7,.ptr 5 0 [] 0),(8,dI i),(10,dI n),(68,.Am 1),(69,dI b),(70,dI i),(75,.Ax [1] ALW j),(76,dI k),(77,dI n)] [.box (.pr (dD ALU c) (.pr (.Am 1) (.pr (.mp 2) (.pr (.Am 6) .u)))),.row 154 .Ai ALW d,.map .Ai Aa ALV a none,.AK,.box (.pr .zs .u),.box (.pr (.Am 7) .u),.row 225 .Ai Aa e,.row 32 .Ai ALT o]
def au i n b j k c d (a:(AL7 (ALk×ALA))) e (o:ALK):=λ(s:Unit)=>sT 98 [(2,.ptr 4 0 [] 0),(7,.ptr 5 0 [] 0),(8,dI i),(68,.Am 1),(69,dI b),(70,dI i),(75,.Ax [1] ALW j),(76,dI k),(77,dI n)] [.box (.pr (dD ALU c) (.pr (.Am 1) (.pr (.mp 2) (.pr (.Am 6) .u)))),.row 154 .Ai ALW d,.map .Ai Aa ALV a none,.AK,.box (.pr .zs .u),.box (.pr (.Am 7) .u),.row 225 .Ai Aa e,.row 32 .Ai ALT (o.set i.toNat ((o.getD i.toNat ALT.zero)++([n]:ALx)))]
def Hy(i n b:Int)(j:ALy)(k:Int)(c:ALC)(d:ALM)(a:AL7 (ALk×ALA))(e:ALA)(o:ALK):AL8 Unit:=
 if 0<=i/\i<o.length then
 if((o.getD i.toNat ALT.zero).length+([n]:ALx).length)*8<=140737488355328 then
 if 0<=i/\i<o.length then
 if i=i then
 some ()
 else none
 else none
 else none
 else none
theorem Am7(i n b:Int)(j:ALy)(k:Int)(c:ALC)(d:ALM)(a:AL7 (ALk×ALA))(e:ALA)(o:ALK):Py Zd 4 18 (sb (sb (cd f140 244) 460) 14) 22 (Aay i n b j k c d a e o) (Hy i n b j k c d a e o) (au i n b j k c d a e o):=by
 unfold Py;have h:sy Zd 4 18 (sb (sb (cd f140 244) 460) 14) (pt 22) (Aay i n b j k c d a e o) =
 if 0<=i/\i<o.length then
 if((o.getD i.toNat ALT.zero).length+([n]:ALx).length)*8<=140737488355328 then
 if 0<=i/\i<o.length then
 if i=i then
 ((if 0<=i/\i<o.length then
 (if((o.getD i.toNat ALT.zero).length+([n]:ALx).length)*8<=140737488355328 then
 if 0<=i/\i<o.length then
 if i=i then
 M4 (au i n b j k c d a e o ()) (au i n b j k c d a e o ())
 else none
 else none
 else none).bind λ_=>if((o.getD i.toNat ALT.zero).length+([n]:ALx).length)*8<=140737488355328 then
 if 0<=i/\i<o.length then
 if i=i then
 M4 (au i n b j k c d a e o ()) (au i n b j k c d a e o ())
 else none
 else none
 else none
 else none).bind λ_=>some (au i n b j k c d a e o ()))
 else none
 else none
 else none
 else none:=by kernel_rfl
 rw[h];unfold Hy;simp only[ALh,mS,mO];clear h;by_cases F6:(0:Int)<=i/\i<(o.length:Int)
 ·rw[AJg F6,AJg F6];by_cases M7:((o.getD i.toNat ALT.zero).length+([n]:ALx).length)*8<=140737488355328
  ·rw[AJg M7,AJg M7];simp only[AJg F6,AJg M7,AJK,AIY,ER]
  ·simp only[AJg F6,AJK,AJh M7]
 ·simp only[AJK,AJh F6]
def EF(i b:Int)(j:ALy)(k n:Int)(c:ALC)(d:ALM)(a:AL7 (ALk×ALA))(e:ALA)(o:ALK):AL8 ALK:=
 if 0<=n/\n<j.length then
 bif j.getD n.toNat (Ty.zero .bool)then
 (Hy i n b j k c d a e o).bind λs=>some (o.set i.toNat ((o.getD i.toNat ALT.zero)++([n]:ALx)))
 else
 some o
 else none
theorem Am8 i b j k n c d a e o:AP Zd 4 19 (sb (cd f140 244) 460) 14 (Alq i b j k n c d a e o) (EF i b j k n c d a e o) (AjN i b j k n c d a e o):=by
 unfold AP;simp only[EF,ALh];simp(disch:=refine id ?_;kernel_rfl) only[Up (Am7 ..) (K:=Ta Zd 4 19)];kernel_rfl
def FO(i b:Int)(c:ALC)(d:ALM)(a:AL7 (ALk×ALA))(e:ALA)(j:ALy)(k n:Int)(o:ALK):AL8 ((Int×ALK)⊕ALK):=
 bif decide (n<k)then
 (EF i b j k n c d a e o).bind λq=>some (.inl (wI (n+1),q))
 else
 some (.inr o)
def CG i b c d a e j k (z_:Int×ALK):=FO i b c d a e j k z_.1 z_.2
def Hz i b c d a e j k n o:=fix (CG i b c d a e j k) (n,o)
theorem Am9 i b c d a e j k:A0 Zd 4 15 (cd f140 244) 230 (Alr i b c d a e j k) (CG i b c d a e j k) (AjO i b c d a e j k):=by
 intro _;simp only[CG,FO,ALh];simp(disch:=refine id ?_;kernel_rfl) only[A8 (Am8 ..) (K:=LP Zd 4 15)];kernel_rfl
def FP(a:AL7 (ALk×ALA))(b:Int)(c:ALC)(d:ALM)(e:ALA)(i:Int)(t:ALK):AL8 ((Int×ALK)⊕ALK):=
 bif decide (i<b)then
 if 0<=i/\i<d.length then
 (Hz i b c d a e (d.getD i.toNat ALW.zero) ((d.getD i.toNat ALW.zero).length:Int) 0 t).bind λl=>some (.inl (wI (i+1),l))
 else none
 else
 some (.inr t)
def CH a b c d e (z_:Int×ALK):=FP a b c d e z_.1 z_.2
def HA a b c d e i t:=fix (CH a b c d e) (i,t)
theorem Ana a b c d e:A0 Zd 4 12 (code f140) 122 (Als a b c d e) (CH a b c d e) (AjP a b c d e):=by
 intro _;simp only[CH,FP,ALh];simp(disch:=refine id ?_;kernel_rfl) only[Hz,Az (Am9 _ _ _ _ _ _ _ _) (K:=LP Zd 4 12)];kernel_rfl
def Alp(u:Int)(a:AL7 (ALk×ALA))(z_:ALC×ALM×ALA):=sT 98 [(0,.ptr 0 u [] 0),(2,.ptr 4 0 [] 0)] [.box (.pr (dD ALU z_.1) (.pr (.Am 1) (.pr (.mp 2) (.pr (.Am 5) .u)))),.row 154 .Ai ALW z_.2.1,.map .Ai Aa ALV a none,.AK,.box (.pr .zs .u),.row 225 .Ai Aa z_.2.2]
def AjM(u:Int)(a:AL7 (ALk×ALA)):=λ(v:(ALC×ALM×ALA))=>xE 0 98 [(0,.ptr 0 u [] 0),(2,.ptr 4 0 [] 0)] [.box (.pr (dD ALU v.1) (.pr (.Am 1) (.pr (.mp 2) (.pr (.Am 5) .u)))),.row 154 .Ai ALW v.2.1,.map .Ai Aa ALV a none,.AK,.box (.pr .zs .u),.row 225 .Ai Aa v.2.2]
def Alo(u:Int)(a:AL7 (ALk×ALA)) w x (z_:Int×ALC×ALM×ALA):=sT 98 [(0,.ptr 0 u [] 0),(2,.ptr 4 0 [] 0),(45,.Ax [2] ALV w),(46,dI x),(47,dI z_.1)] [.box (.pr (dD ALU z_.2.1) (.pr (.Am 1) (.pr (.mp 2) (.pr (.Am 5) .u)))),.row 154 .Ai ALW z_.2.2.1,.map .Ai Aa ALV a none,.AK,.box (.pr .zs .u),.row 225 .Ai Aa z_.2.2.2]
def AjL(u:Int)(a:AL7 (ALk×ALA))(w:ALA)(x:Int):=λ(y:(ALC×ALM×ALA))=>xE 2 98 [(0,.ptr 0 u [] 0),(2,.ptr 4 0 [] 0)] [.box (.pr (dD ALU y.1) (.pr (.Am 1) (.pr (.mp 2) (.pr (.Am 5) .u)))),.row 154 .Ai ALW y.2.1,.map .Ai Aa ALV a none,.AK,.box (.pr .zs .u),.row 225 .Ai Aa y.2.2]
def FL(u:Int)(a:AL7 (ALk×ALA))(w:ALA)(x a1:Int)(b1:ALC)(c1:ALM)(d1:ALA):AL8 ((Int×ALC×ALM×ALA)⊕(ALC×ALM×ALA)):=
 bif decide (a1<x)then
 if 0<=a1/\a1<w.length then
 (Bi u (w.getD a1.toNat Aa.zero).1 (w.getD a1.toNat Aa.zero).2.1 b1 c1 d1).bind λe1=>some (.inl (wI (a1+1),e1.1,e1.2.1,e1.2.2))
 else none
 else
 some (.inr (b1,c1,d1))
def CF u a w x (z_:Int×ALC×ALM×ALA):=FL u a w x z_.1 z_.2.1 z_.2.2.1 z_.2.2.2
def EE u a w x a1 b1 c1 d1:=fix (CF u a w x) (a1,b1,c1,d1)
theorem Am5 u a w x:A0 Zd 4 6 (cd f140 24) 222 (Alo u a w x) (CF u a w x) (AjL u a w x):=by
 intro _;simp only[CF,FL,ALh];kernel_rfl
def Jt(u:Int)(a:AL7 (ALk×ALA))(g1:ALC)(i1:ALM)(j1:ALA):AL8 ((ALC×ALM×ALA)⊕(ALC×ALM×ALA)):=
 bif decide ((j1.length:Int)>0)then
 if 0<=(wI ((j1.length:Int)-1))/\(wI ((j1.length:Int)-1))<j1.length then
 if(0:Int)<=(wI ((j1.length:Int)-1))/\(wI ((j1.length:Int)-1))<=(j1.length:Int)then
 (EE u a (Bg Aa ALV a (j1.getD (wI ((j1.length:Int)-1)).toNat Aa.zero)) ((Bg Aa ALV a (j1.getD (wI ((j1.length:Int)-1)).toNat Aa.zero)).length:Int) 0 g1 i1 (j1.take (wI ((j1.length:Int)-1)).toNat)).bind λy=>some (.inl (y.1,y.2.1,y.2.2))
 else none
 else none
 else
 some (.inr (g1,i1,j1))
def FN u a (z_:ALC×ALM×ALA):=Jt u a z_.1 z_.2.1 z_.2.2
def Hw u a g1 i1 j1:=fix (FN u a) (g1,i1,j1)
theorem Am6 u a:A0 Zd 4 1 (code f140) 12 (Alp u a) (FN u a) (AjM u a):=by
 intro _;simp only[FN,Jt,ALh];simp(disch:=refine id ?_;kernel_rfl) only[EE,Az (Am5 _ _ _ _) (K:=LP Zd 4 1)];kernel_rfl
def KP(u:Int)(k1:ALC)(l1:ALM)(a:AL7 (ALk×ALA))(n1:ALA):AL8 (ALC×ALM×(AL7 (ALk×ALA))×ALK×ALA):=
 (Hw u a k1 l1 n1).bind λv=>if Ty.row ALT=true/\(0:Int)<=(v.1.length:Int)/\(v.1.length:Int)<=(v.1.length:Int)/\((24:Nat):Int)*(v.1.length:Int)<=(281474976710656:Int)/\(v.1.length:Int)<=(9223372036854775807:Int)then
 (HA a (v.2.1.length:Int) v.1 v.2.1 v.2.2 0 (List.replicate (v.1.length:Int).toNat ([]:ALx))).bind λg=>some (v.1,v.2.1,a,g,v.2.2)
 else none
def Ax9:=B6 [.UJ] [⟨[.ptr 0 [] 0],[.box (.pr (.Ax [] ALU) (.pr (.k (.Am 1)) (.pr (.k (.mp 2)) (.pr (.k (.Am 3)) (.k .u))))),.row 154 .Ai ALW,.map .Ai Aa ALV,.row 225 .Ai Aa],ALC×ALM×(AL7 (ALk×ALA))×ALK×ALA,λp=>KP p.1.1 p.2.1.1 p.2.2.1 p.2.2.2.1 p.2.2.2.2.1,λr=>(.pr (.Am 4) .u,[.box (.pr (dD ALU r.1) (.pr (.Am 1) (.pr (.mp 2) (.pr (.Am 5) .u)))),.row 154 .Ai ALW r.2.1,.map .Ai Aa ALV r.2.2.1 none,.AK,.row 32 .Ai ALT r.2.2.2.1,.row 225 .Ai Aa r.2.2.2.2])⟩]
theorem Abt:Ap prog 140 Ax9:=As (fn:=f140) ⟨⟨Zd,pk ⟨eQ,trivial⟩,λ_ R K=>by
 simp only[KP,ALi];simp(disch:=refine id ?_;kernel_rfl) only[Hw,Az (Am6 _ _) (K:=AY Zd f140 4 R K),HA,Az (Ana _ _ _ _ _) (K:=AY Zd f140 4 R K)];kernel_rfl⟩,trivial⟩
abbrev zY:=eN [(99,c99),(136,Ax5),(137,Ax6),(138,Ax7),(139,Ax8),(140,Ax9)] {A1:=[(8,[6,10,36,37,38])],Bv:=[(8,[6,10])],BR:=[(2,[0,1,5,6,22])],D2:=[(2,[0,1,5,6])],dM:=[(0,.row [0] 32 ALT true)]}
def Alv(a:Int) b (z_:Int×ALC×(AL7 (ALD×(ALD×Unit)))×ALM×(AL7 (ALk×ALA))×ALA):=sT 51 [(6,.ptr 0 0 [] 0),(10,.ptr 1 a [] 0),(36,.Am 2),(37,dI b),(38,dI z_.1)] [.box (.pr .zs .u),.box (.pr (dD ALU z_.2.1) (.pr (.Am 3) (.pr (.mp 4) (.pr (.Am 5) .u)))),.row 222 .Ai (.Au ALS (.Au ALS .unit)) z_.2.2.1,.row 154 .Ai ALW z_.2.2.2.1,.map .Ai Aa ALV z_.2.2.2.2.1 none,.row 225 .Ai Aa z_.2.2.2.2.2]
def AjR(a b:Int):=λ(c:(ALC×ALM×(AL7 (ALk×ALA))×ALA))=>xE 0 51 [(6,.ptr 0 0 [] 0),(10,.ptr 1 a [] 0)] [.box (.pr .zs .u),.box (.pr (dD ALU c.1) (.pr (.Am 2) (.pr (.mp 3) (.pr (.Am 4) .u)))),.row 154 .Ai ALW c.2.1,.map .Ai Aa ALV c.2.2.1 none,.row 225 .Ai Aa c.2.2.2]
def Iq(a b d:Int)(e:ALC)(g:AL7 (ALD×(ALD×Unit)))(i:ALM)(j:AL7 (ALk×ALA))(k:ALA):AL8 ((Int×ALC×(AL7 (ALD×(ALD×Unit)))×ALM×(AL7 (ALk×ALA))×ALA)⊕(ALC×ALM×(AL7 (ALk×ALA))×ALA)):=
 bif decide (d<b)then
 if 0<=d/\d<g.length then
 (IX a (g.getD d.toNat (Ty.zero (.Au ALS (.Au ALS .unit)))).1 (g.getD d.toNat (Ty.zero (.Au ALS (.Au ALS .unit)))).2.1 e g i j k).bind λl=>some (.inl (wI (d+1),l.1,l.2.1,l.2.2.1,l.2.2.2.1,l.2.2.2.2))
 else none
 else
 some (.inr (e,i,j,k))
def Dz a b (z_:Int×ALC×(AL7 (ALD×(ALD×Unit)))×ALM×(AL7 (ALk×ALA))×ALA):=Iq a b z_.1 z_.2.1 z_.2.2.1 z_.2.2.2.1 z_.2.2.2.2.1 z_.2.2.2.2.2
def KN a b d e g i j k:=fix (Dz a b) (d,e,g,i,j,k)
theorem Anc a b:A0 zY 0 8 (code f98) 506 (Alv a b) (Dz a b) (AjR a b):=by
 intro _;simp only[Dz,Iq,ALh];kernel_rfl
def Alu n o q:=sT 51 [(0,dD ALU n),(1,dD ALY o),(5,.ptr 0 0 [] 0),(6,.ptr 1 0 [] 0)] [.box (dD Aj q),.box (.pr .zs .u)]
def AjQ n o q:=λ(s:Bool)=>xN 51 [(0,dD ALU n),(1,dD ALY o),(5,.ptr 0 0 [] 0),(6,.ptr 1 0 [] 0),(22,dB s)] [.box (dD Aj q),.box (.pr .zs .u)]
def KM(n:ALC)(o:ALF)(q:ALr):AL8 Bool:=
 (RO n q).bind λt=>bif !t then
 some true
 else
 (Kk n o).bind λu=>some (!u)
theorem Anb n o q:AP zY 0 2 (code f98) 12 (Alu n o q) (KM n o q) (AjQ n o q):=by
 unfold AP;simp only[KM,ALh];kernel_rfl
def IW(n:ALC)(o:ALF)(q:ALr):AL8 (Bool×ALK):=
 (KM n o q).bind λs=>bif s then
 some (false,([]:ALK))
 else
 (Q1 n o).bind λv=>bif !v.1 then
 some (false,([]:ALK))
 else
 (Lz n q).bind λw=>(KN w.1 (v.2.length:Int) 0 w.2.1 v.2 w.2.2.1 w.2.2.2.1 w.2.2.2.2).bind λc=>(KP w.1 c.1 c.2.1 c.2.2.1 c.2.2.2).bind λx=>some (true,x.2.2.2.1)
def c98:=B6 [.d ALU,.d ALY,.d Aj] [⟨[.Ax [] ALU,.Ax [] ALY,.Ax [] Aj],[],Bool×ALK,λp=>IW p.1.1 p.1.2.1 p.1.2.2.1,λr=>(.cons (.pr (.Am 0) .u) (.cons (dB r.1) .nil),[.row 32 .Ai ALT r.2])⟩]
theorem AgF:Ap prog 98 c98:=As (fn:=f98) ⟨⟨zY,pk ⟨vZ,Abp,Abq,Abr,Abs,Abt,trivial⟩,λ_ R K=>by
 simp only[IW,ALi];simp(disch:=refine id ?_;kernel_rfl) only[A8 (Anb ..) (K:=AY zY f98 0 R K),KN,Az (Anc _ _) (K:=AY zY f98 0 R K)];kernel_rfl⟩,trivial⟩
noncomputable def Aya:Va.Callee:=Yy 2 ALP 8
noncomputable abbrev AyV:Gd:={Dm:=Dm,fns:=NH [],fi:={}}
theorem AgJ:IL Tryz.prog AyV:=(pk (l:=[]) trivial)
theorem Abu:Ap Tryz.prog 141 Aya:=
 aG (fn:=Tryz.f141) AgJ (by kernel_rfl) (by kernel_rfl) rfl rfl rfl ⟨rfl,rfl,rfl⟩ ⟨rfl,rfl,rfl⟩ (ti:=⟨.sl ALP,[],2,24,0,0,false⟩) (by kernel_rfl) rfl (by kernel_rfl) (λxs=>by kernel_rfl) (λxs=>by kernel_rfl)
  λxs h=>by
   have h0:ev AyV 0 (sub (code Tryz.f141) [1,1]) (Ex×St) ⟨[.Ax [] ALT xs,.un 0,.zs,.Ax [] ALT xs,.bool false,.un 0,.un 0,.un 0],[]⟩ Pj=if xs.length*8<=140737488355328 then some (.ret,⟨[.Ax [] ALT xs,.un 0,.Am 0,.Ax [] ALT xs,.bool false,.zs,.Ax [] ALT xs,.Am 0],[.row 2 .Ai ALP xs]⟩)else none:=by kernel_rfl
   exact h0.trans (AJg h)
abbrev o8:=eN [(141,Aya)] {A1:=[(3,{Bb:=[0,5,13,14,15],Ck:=[(5,false,.row [] 151 Ab true)]}),(7,{Bb:=[0,5,6,8,13,14,15,28,29,30],Ck:=[(5,false,.row [] 151 Ab true)]})],Bv:=[(3,[5]),(7,[0,5,13,14,15])],X9:=[(6,{Bb:=[0,5,6,8,13,14,15,28,29,30],VI:=true,Sj:=[(28,false,ALT)]})],ZA:=[(6,[0,5,6,7,8,13,14,15])]}
def Alx a b c (z_:Int×ALB):=sT 47 [(0,dD ALU a),(5,.Am 0),(13,dD AL3 b),(14,dI c),(15,dI z_.1)] [.row 151 .Ai Ab z_.2]
def AjT(a:ALC)(b:ALK)(c:Int):=λ(d:ALB)=>xE 0 47 [(5,.Am 0)] [.row 151 .Ai Ab d]
def Alw a e b c g i (z_:Int×Int×ALB):=sT 47 [(0,dD ALU a),(5,.Am 0),(6,dI e),(8,dI z_.1),(13,dD AL3 b),(14,dI c),(15,dI e),(28,dD ALT g),(29,dI i),(30,dI z_.2.1)] [.row 151 .Ai Ab z_.2.2]
def AjS a e b c (g:ALx) (i:Int):=λ(j:ALB)=>xE 2 47 [(0,dD ALU a),(5,.Am 0),(13,dD AL3 b),(14,dI c),(15,dI e)] [.row 151 .Ai Ab j]
def Jz(a:ALC)(e:Int)(b:ALK)(c:Int)(g:ALx)(i k l:Int)(n:ALB):AL8 ((Int×Int×ALB)⊕ALB):=
 bif decide (l<i)then
 if 0<=l/\l<g.length then
 if(n.length+([(e,k,wI ((g.getD l.toNat ALP.zero)-k),())]:ALB).length)*24<=140737488355328 then
 some (.inl (g.getD l.toNat ALP.zero,wI (l+1),n++([(e,k,wI ((g.getD l.toNat ALP.zero)-k),())]:ALB)))
 else none
 else none
 else
 some (.inr n)
def Ec a e b c g i (z_:Int×Int×ALB):=Jz a e b c g i z_.1 z_.2.1 z_.2.2
def Mi a e b c g i k l n:=fix (Ec a e b c g i) (k,l,n)
theorem Anf a e b c g i:A0 o8 0 7 (cd f100 116) 462 (Alw a e b c g i) (Ec a e b c g i) (AjS a e b c g i):=by
 intro _;simp only[Ec,Jz,ALh];kernel_rfl
def Aaz a e b c o q:=sT 47 [(0,dD ALU a),(5,.Am 0),(6,dI e),(7,dD ALT q),(8,dI 0),(13,dD AL3 b),(14,dI c),(15,dI e)] [.row 151 .Ai Ab o]
def lJ a e b c o (q:ALx):=λ(s:(ALx×Int))=>sT 47 [(0,dD ALU a),(5,.Am 0),(6,dI e),(8,dI 0),(13,dD AL3 b),(14,dI c),(15,dI e),(28,dD ALT s.1),(29,dI s.2),(30,dI 0)] [.row 151 .Ai Ab o]
def I2(a:ALC)(e:Int)(b:ALK)(c:Int)(o:ALB)(q:ALx):AL8 (ALx×Int):=
 if q.length*8<=140737488355328 then
 if 0<=e/\e<a.length then
 if(q.length+([(a.getD e.toNat Ad.zero).2.1]:ALx).length)*8<=140737488355328 then
 some (q++([(a.getD e.toNat Ad.zero).2.1]:ALx),((q++([(a.getD e.toNat Ad.zero).2.1]:ALx)).length:Int))
 else none
 else none
 else none
noncomputable def lW(a:ALC)(e:Int)(b:ALK)(c:Int)(o:ALB)(q:ALx):AL8 Unit:=if q.length*8<=140737488355328 then if(q.length+([(a.getD e.toNat Ad.zero).2.1]:ALx).length)*8<=140737488355328 then M4 (lJ a e b c o q (q++([(a.getD e.toNat Ad.zero).2.1]:ALx),((q++([(a.getD e.toNat Ad.zero).2.1]:ALx)).length:Int))) (lJ a e b c o q (q++([(a.getD e.toNat Ad.zero).2.1]:ALx),((q++([(a.getD e.toNat Ad.zero).2.1]:ALx)).length:Int)))else none else none
theorem Ane(a:ALC)(e:Int)(b:ALK)(c:Int)(o:ALB)(q:ALx):Py o8 0 6 (cd f100 116) 230 (Aaz a e b c o q) (I2 a e b c o q) (lJ a e b c o q):=by
 unfold Py;have h:sy o8 0 6 (cd f100 116) (pt 230) (Aaz a e b c o q) =
 if q.length*8<=140737488355328 then if 0<=e/\e<a.length then if(q.length+([(a.getD e.toNat Ad.zero).2.1]:ALx).length)*8<=140737488355328 then((if 0<=e/\e<a.length then(lW a e b c o q).bind λ_=>(lW a e b c o q).bind λ_=>lW a e b c o q else none).bind λ_=>some (lJ a e b c o q (q++([(a.getD e.toNat Ad.zero).2.1]:ALx),((q++([(a.getD e.toNat Ad.zero).2.1]:ALx)).length:Int))))else none else none else none:=by kernel_rfl
 rw[h];unfold I2;simp only[ALh,mS,mO];clear h;by_cases F6:q.length*8<=140737488355328
 ·rw[AJg F6,AJg F6];by_cases M7:(0:Int)<=e/\e<(a.length:Int)
  ·rw[AJg M7,AJg M7];by_cases j9:(q.length+([(a.getD e.toNat Ad.zero).2.1]:ALx).length)*8<=140737488355328
   ·rw[AJg j9,AJg j9];simp only[lW,AJe,AJg F6,AJg M7,AJg j9,AJK,AIY,ER]
   ·simp only[AJg F6,AJg M7,AJK,AJh j9]
  ·simp only[AJg F6,AJK,AJh M7]
 ·simp only[AJK,AJh F6]
def JA(a:ALC)(b:ALK)(c e:Int)(o:ALB):AL8 ((Int×ALB)⊕ALB):=
 bif decide (e<c)then
 if 0<=e/\e<b.length then
 (I2 a e b c o (b.getD e.toNat ALT.zero)).bind λs=>(Mi a e b c s.1 s.2 0 0 o).bind λj=>some (.inl (wI (e+1),j))
 else none
 else
 some (.inr o)
def Ee a b c (z_:Int×ALB):=JA a b c z_.1 z_.2
def Mj a b c e o:=fix (Ee a b c) (e,o)
theorem Ang a b c:A0 o8 0 3 (code f100) 58 (Alx a b c) (Ee a b c) (AjT a b c):=by
 intro _;simp only[Ee,JA,ALh];simp(disch:=refine id ?_;kernel_rfl) only[Up (Ane ..) (K:=LP o8 0 3),Mi,Az (Anf _ _ _ _ _ _) (K:=LP o8 0 3)];kernel_rfl
def NA(a:ALC)(t:ALr):AL8 ALB:=
 (Mj a t.1 (t.1.length:Int) 0 ([]:ALB)).bind λd=>some d
def AxJ:=B6 [.d ALU,.d Aj] [⟨[.Ax [] ALU,.Ax [] Aj],[],ALB,λp=>NA p.1.1 p.1.2.1,λr=>(.Am 0,[.row 151 .Ai Ab r])⟩]
theorem Aa3:Ap prog 100 AxJ:=As (fn:=f100) ⟨⟨o8,pk ⟨Abu,trivial⟩,λ_ R K=>by
 simp only[NA,ALi];simp(disch:=refine id ?_;kernel_rfl) only[Mj,Az (Ang _ _ _) (K:=AY o8 f100 0 R K)];kernel_rfl⟩,trivial⟩
abbrev Ai0:=eN [] {A1:=[(3,[3,7,8,9])],Bv:=[(3,[3])]}
def Aly a b (z_:Int×(AL7 (ALk×Int))):=sT 23 [(3,.mp 0),(7,dD ALX a),(8,dI b),(9,dI z_.1)] [.map .Ai Aa ALP z_.2 none]
def AjU(a:ALB)(b:Int):=λ(c:(AL7 (ALk×Int)))=>xE 0 23 [(3,.mp 0)] [.map .Ai Aa ALP c none]
def Ju(a:ALB)(b d:Int)(e:AL7 (ALk×Int)):AL8 ((Int×(AL7 (ALk×Int)))⊕(AL7 (ALk×Int))):=
 bif decide (d<b)then
 if 0<=d/\d<a.length then
 some (.inl (wI (d+1),BV Aa ALP e ((a.getD d.toNat Ab.zero).1,(a.getD d.toNat Ab.zero).2.1,()) d))
 else none
 else
 some (.inr e)
def D6 a b (z_:Int×(AL7 (ALk×Int))):=Ju a b z_.1 z_.2
def Mb a b d e:=fix (D6 a b) (d,e)
theorem Anh a b:A0 Ai0 0 3 (code f101) 58 (Aly a b) (D6 a b) (AjU a b):=by
 intro _;simp only[D6,Ju,ALh];kernel_rfl
def Nw(a:ALB):AL8 (AL7 (ALk×Int)):=
 (Mb a (a.length:Int) 0 ([]:AL7 (ALk×Int))).bind λc=>some c
def AxK:=B6 [.d ALX] [⟨[.Ax [] ALX],[],AL7 (ALk×Int),λp=>Nw p.1.1,λr=>(.mp 0,[.map .Ai Aa ALP r none])⟩]
theorem Aa4:Ap prog 101 AxK:=As (fn:=f101) ⟨⟨Ai0,pk trivial,λ_ R K=>by
 simp only[Nw,ALi];simp(disch:=refine id ?_;kernel_rfl) only[Mb,Az (Anh _ _) (K:=AY Ai0 f101 0 R K)];kernel_rfl⟩,trivial⟩
abbrev Ai1:=eN [] {Ai:=false,A1:=[(3,{Bb:=[3,8,9],Ck:=[(3,true,.row [0] 2 ALP true),(3,true,.row [1] 2 ALP true)]})],Bv:=[(3,[3])]}
def Alz a (z_:Int×ALx×ALx):=sT 33 [(3,.ptr 0 0 [] 0),(8,dI a),(9,dI z_.1)] [.box (.pr (.Am 1) (.pr (.Am 2) (.pr (.mp 3) (.pr .zs .u)))),.row 2 .Ai ALP z_.2.1,.row 2 .Ai ALP z_.2.2,.map (.sh []) ALP Ah ([]:AL7 (Int×ALq)) none]
def AjV(a:Int):=λ(b:(ALx×ALx))=>xE 0 33 [(3,.ptr 0 0 [] 0)] [.box (.pr (.Am 1) (.pr (.Am 2) (.pr (.mp 3) (.pr .zs .u)))),.row 2 .Ai ALP b.1,.row 2 .Ai ALP b.2,.map (.sh []) ALP Ah ([]:AL7 (Int×ALq)) none]
def IA(a c:Int)(d e:ALx):AL8 ((Int×ALx×ALx)⊕(ALx×ALx)):=
 bif decide (c<a)then
 if(d.length+([c]:ALx).length)*8<=140737488355328 then
 if(e.length+([-1]:ALx).length)*8<=140737488355328 then
 some (.inl (wI (c+1),d++([c]:ALx),e++([-1]:ALx)))
 else none
 else none
 else
 some (.inr (d,e))
def DJ a (z_:Int×ALx×ALx):=IA a z_.1 z_.2.1 z_.2.2
def PS a c d e:=fix (DJ a) (c,d,e)
theorem Ani a:A0 Ai1 0 3 (code f102) 58 (Alz a) (DJ a) (AjV a):=by
 intro _;simp only[DJ,IA,ALh];kernel_rfl
def LA(a:Int):AL8 (Int×ALx×ALx×(AL7 (Int×ALq))):=
 (PS a 0 ([]:ALx) ([]:ALx)).bind λb=>some (0,b.1,b.2,([]:AL7 (Int×ALq)))
def AxL:=B6 [.d ALP] [⟨[.Ax [] ALP],[],Int×ALx×ALx×(AL7 (Int×ALq)),λp=>LA p.1.1,λr=>(.ptr 0 r.1 [] 0,[.box (.pr (.Am 1) (.pr (.Am 2) (.pr (.mp 3) (.pr .zs .u)))),.row 2 .Ai ALP r.2.1,.row 2 .Ai ALP r.2.2.1,.map (.sh []) ALP Ah r.2.2.2 none])⟩]
theorem Aa5:Ap prog 102 AxL:=As (fn:=f102) ⟨⟨Ai1,pk trivial,λ_ R K=>by
 simp only[LA,ALi];simp(disch:=refine id ?_;kernel_rfl) only[PS,Az (Ani _) (K:=AY Ai1 f102 0 R K)];kernel_rfl⟩,trivial⟩
abbrev dV:=eN [] {A1:=[(4,{Bb:=[3,5,6,12,13,14],Ck:=[(5,false,.row [] 2 ALP true)]}),(9,[3,5,6,8,12,13,14,30,31,32])],Bv:=[(4,[5]),(9,[3,5,6,8,12,13,14])],BR:=[(12,[3,5,6,8,10,12,13,14,30,31,32,48]),(13,[3,5,6,8,12,13,14,30,31,32]),(14,[3,5,6,8,12,13,14])],D2:=[(12,[3,5,6,8,10,12,13,14,30,31,32]),(13,[3,5,6,8,12,13,14,30,31,32]),(14,[3,5,6,8,12,13,14])]}
def AlD a b c (z_:Int×Int×ALx):=sT 65 [(3,.ptr 0 0 [] 0),(5,.Am 1),(6,dI z_.1),(12,dD ALS a),(13,dI c),(14,dI z_.2.1)] [.box (dD Aj b),.row 2 .Ai ALP z_.2.2]
def AjZ(a:ALD)(b:ALr)(c:Int):=λ(d:ALx)=>xE 0 65 [(5,.Am 0)] [.row 2 .Ai ALP d]
def AlC e a c g b i j:=sT 65 [(3,.ptr 0 0 [] 0),(5,.Am 1),(6,dI e),(8,.ptr 2 0 [] 0),(12,dD ALS a),(13,dI c),(14,dI g)] [.box (dD Aj b),.row 2 .Ai ALP i,.box (dD Ae j)]
def AjY e a c g b (i:ALx) j:=λ(k:ALx)=>xN 65 [(3,.ptr 0 0 [] 0),(5,.Am 1),(6,dI e),(8,.ptr 2 0 [] 0),(12,dD ALS a),(13,dI c),(14,dI g)] [.box (dD Aj b),.row 2 .Ai ALP k,.box (dD Ae j)]
def AlB e a c g b j l n (z_:Int×ALx):=sT 65 [(3,.ptr 0 0 [] 0),(5,.Am 1),(6,dI e),(8,.ptr 2 0 [] 0),(12,dD ALS a),(13,dI c),(14,dI g),(30,dD ALT l),(31,dI n),(32,dI z_.1)] [.box (dD Aj b),.row 2 .Ai ALP z_.2,.box (dD Ae j)]
def AjX e a c g b j (l:ALx) (n:Int):=λ(o:ALx)=>xE 2 65 [(3,.ptr 0 0 [] 0),(5,.Am 1),(6,dI e),(8,.ptr 2 0 [] 0),(12,dD ALS a),(13,dI c),(14,dI g)] [.box (dD Aj b),.row 2 .Ai ALP o,.box (dD Ae j)]
def AlA e a c g l n q b s j:=sT 65 [(3,.ptr 0 0 [] 0),(5,.Am 1),(6,dI e),(8,.ptr 2 0 [] 0),(12,dD ALS a),(13,dI c),(14,dI g),(30,dD ALT l),(31,dI n),(32,dI q)] [.box (dD Aj b),.row 2 .Ai ALP s,.box (dD Ae j)]
def AjW e a c g l n q b (s:ALx) j:=λ(t:ALx)=>xN 65 [(3,.ptr 0 0 [] 0),(5,.Am 1),(6,dI e),(8,.ptr 2 0 [] 0),(12,dD ALS a),(13,dI c),(14,dI g),(30,dD ALT l),(31,dI n),(32,dI q)] [.box (dD Aj b),.row 2 .Ai ALP t,.box (dD Ae j)]
def AaA e (l:ALx) (q:Int) a c g n b s j:=sT 65 [(3,.ptr 0 0 [] 0),(5,.Am 1),(6,dI e),(8,.ptr 2 0 [] 0),(10,dI (l.getD q.toNat ALP.zero)),(12,dD ALS a),(13,dI c),(14,dI g),(30,dD ALT l),(31,dI n),(32,dI q)] [.box (dD Aj b),.row 2 .Ai ALP s,.box (dD Ae j)]
def sZ(e:Int)(l:ALx)(q:Int)(a:ALD)(c g n:Int)(b:ALr)(s:ALx)(j:ALn)(m0:Bool):Ex×St:=xN 65 [(3,.ptr 0 0 [] 0),(5,.Am 1),(6,dI e),(8,.ptr 2 0 [] 0),(10,dI (l.getD q.toNat ALP.zero)),(12,dD ALS a),(13,dI c),(14,dI g),(30,dD ALT l),(31,dI n),(32,dI q),(48,dB m0)] [.box (dD Aj b),.row 2 .Ai ALP s,.box (dD Ae j)]
theorem Anj e l q a c g n b s j:Xe dV 0 12 (sb (sb (sb (cd f164 244) 230) 52) 14) (pt 10) (AaA e l q a c g n b s j)=some (sZ e l q a c g n b s j ((decide ((l.getD q.toNat ALP.zero)>j.2.1))&&(decide ((l.getD q.toNat ALP.zero)<(wI (j.2.1+j.2.2.1)))))):=by
 refine .trans (b:=
 bif decide ((l.getD q.toNat ALP.zero)>j.2.1)then
 some (sZ e l q a c g n b s j (decide ((l.getD q.toNat ALP.zero)<(wI (j.2.1+j.2.2.1)))))
 else
 some (sZ e l q a c g n b s j false)) (by kernel_rfl) ?_
 cases (decide ((l.getD q.toNat ALP.zero)>j.2.1));rfl;rfl
def Me(e:Int)(a:ALD)(c g:Int)(l:ALx)(n q:Int)(b:ALr)(s:ALx)(j:ALn):AL8 ALx:=
 if 0<=q/\q<l.length then
 QF (AaA e l q a c g n b s j) (
 bif (decide ((l.getD q.toNat ALP.zero)>j.2.1))&&(decide ((l.getD q.toNat ALP.zero)<(wI (j.2.1+j.2.2.1))))then
 if(s.length+([wI ((wI (e+(l.getD q.toNat ALP.zero)))-j.2.1)]:ALx).length)*8<=140737488355328 then
 some (s++([wI ((wI (e+(l.getD q.toNat ALP.zero)))-j.2.1)]:ALx))
 else none
 else
 some s)
 else none
theorem Ank e a c g l n q b s j:AP dV 0 13 (sb (sb (cd f164 244) 230) 52) 14 (AlA e a c g l n q b s j) (Me e a c g l n q b s j) (AjW e a c g l n q b s j):=by
 unfold AP;simp only[Me,ALh];simp(disch:=refine id ?_;kernel_rfl) only[F8 (Anj ..) (K:=Ta dV 0 13)];kernel_rfl
def Jx(e:Int)(a:ALD)(c g:Int)(b:ALr)(j:ALn)(l:ALx)(n q:Int)(s:ALx):AL8 ((Int×ALx)⊕ALx):=
 bif decide (q<n)then
 (Me e a c g l n q b s j).bind λt=>some (.inl (wI (q+1),t))
 else
 some (.inr s)
def D9 e a c g b j l n (z_:Int×ALx):=Jx e a c g b j l n z_.1 z_.2
def Mf e a c g b j l n q s:=fix (D9 e a c g b j l n) (q,s)
theorem Anl e a c g b j l n:A0 dV 0 9 (sb (cd f164 244) 230) 26 (AlB e a c g b j l n) (D9 e a c g b j l n) (AjX e a c g b j l n):=by
 intro _;simp only[D9,Jx,ALh];simp(disch:=refine id ?_;kernel_rfl) only[A8 (Ank ..) (K:=LP dV 0 9)];kernel_rfl
def I1(e:Int)(a:ALD)(c g:Int)(b:ALr)(i:ALx)(j:ALn):AL8 ALx:=
 bif decide (j.1>=0)then
 if(0:Int)<=j.1/\j.1<(b.1.length:Int)then
 (Mf e a c g b j (b.1.getD j.1.toNat ALT.zero) ((b.1.getD j.1.toNat ALT.zero).length:Int) 0 i).bind λo=>some o
 else none
 else
 some i
theorem Anm e a c g b i j:AP dV 0 14 (cd f164 244) 230 (AlC e a c g b i j) (I1 e a c g b i j) (AjY e a c g b i j):=by
 unfold AP;simp only[I1,ALh];simp(disch:=refine id ?_;kernel_rfl) only[Mf,Az (Anl _ _ _ _ _ _ _ _) (K:=Ta dV 0 14)];kernel_rfl
def Jy(a:ALD)(b:ALr)(c e g:Int)(u:ALx):AL8 ((Int×Int×ALx)⊕ALx):=
 bif decide (g<c)then
 if 0<=g/\g<a.length then
 if(u.length+([e]:ALx).length)*8<=140737488355328 then
 (I1 e a c g b (u++([e]:ALx)) (a.getD g.toNat Ae.zero)).bind λk=>some (.inl (wI (e+(a.getD g.toNat Ae.zero).2.2.1),wI (g+1),k))
 else none
 else none
 else
 some (.inr u)
def Ea a b c (z_:Int×Int×ALx):=Jy a b c z_.1 z_.2.1 z_.2.2
def Mg a b c e g u:=fix (Ea a b c) (e,g,u)
theorem Ann a b c:A0 dV 0 4 (code f164) 122 (AlD a b c) (Ea a b c) (AjZ a b c):=by
 intro _;simp only[Ea,Jy,ALh];simp(disch:=refine id ?_;kernel_rfl) only[A8 (Anm ..) (K:=LP dV 0 4)];kernel_rfl
def Ky(a:ALD)(b:ALr):AL8 ALx:=
 (Mg a b (a.length:Int) 0 0 ([]:ALx)).bind λd=>some d
def Ayr:=B6 [.d ALS,.d Aj] [⟨[.Ax [] ALS,.Ax [] Aj],[],ALx,λp=>Ky p.1.1 p.1.2.1,λr=>(.Am 0,[.row 2 .Ai ALP r])⟩]
theorem AbL:Ap prog 164 Ayr:=As (fn:=f164) ⟨⟨dV,pk trivial,λ_ R K=>by
 simp only[Ky,ALi];simp(disch:=refine id ?_;kernel_rfl) only[Mg,Az (Ann _ _ _) (K:=AY dV f164 0 R K)];kernel_rfl⟩,trivial⟩
abbrev AqQ:=eN [] {take:=[25]}
def AyG:=Adp [.UJ,.UJ] AqQ f183
theorem Ab0:Ap prog 183 AyG:=nD (pk trivial)
abbrev lz:=eN [(183,AyG)] {A1:=[(3,[0,3,9,10,11]),(11,{Bb:=[6,25,26,27],Ck:=[(6,false,.row [] 2 ALP true)]})],Bv:=[(3,[0,3]),(11,[6])],BR:=[(8,[0,3,9,10,11])],D2:=[(8,[0,3,9,10,11])]}
def AlH a b (z_:Int×ALx):=sT 36 [(6,.Am 0),(25,dD AL3 a),(26,dI b),(27,dI z_.1)] [.row 2 .Ai ALP z_.2]
def Aj3(a:ALK)(b:Int):=λ(c:ALx)=>xE 2 36 [(6,.Am 0)] [.row 2 .Ai ALP c]
def NN(a:ALK)(b d:Int)(e:ALx):AL8 ((Int×ALx)⊕ALx):=
 bif decide (d<b)then
 if 0<=d/\d<a.length then
 if(e.length+(a.getD d.toNat ALT.zero).length)*8<=140737488355328 then
 some (.inl (wI (d+1),e++(a.getD d.toNat ALT.zero)))
 else none
 else none
 else
 some (.inr e)
def Ig a b (z_:Int×ALx):=NN a b z_.1 z_.2
def P7 a b d e:=fix (Ig a b) (d,e)
theorem Anr a b:A0 lz 0 11 (code f163) 250 (AlH a b) (Ig a b) (Aj3 a b):=by
 intro _;simp only[Ig,NN,ALh];kernel_rfl
def AlG a g (z_:Int×ALx):=sT 36 [(6,.Am 0),(25,dD AL3 a),(26,dI g),(27,dI z_.1)] [.row 2 .Ai ALP z_.2]
def Aj2(a:ALK)(g:Int):=λ(i:ALx)=>xE 2 36 [(6,.Am 0)] [.row 2 .Ai ALP i]
def Ey(a:ALK)(g j:Int)(k:ALx):AL8 ((Int×ALx)⊕ALx):=
 bif decide (j<g)then
 if 0<=j/\j<a.length then
 if(k.length+(a.getD j.toNat ALT.zero).length)*8<=140737488355328 then
 some (.inl (wI (j+1),k++(a.getD j.toNat ALT.zero)))
 else none
 else none
 else
 some (.inr k)
def Cc a g (z_:Int×ALx):=Ey a g z_.1 z_.2
def F3 a g j k:=fix (Cc a g) (j,k)
theorem Anq a g:A0 lz 0 11 (code f163) 250 (AlG a g) (Cc a g) (Aj2 a g):=by
 intro _;simp only[Cc,Ey,ALh];kernel_rfl
def AlF a l (z_:Int×Int):=sT 36 [(0,dD AL3 a),(3,dI z_.1),(9,dD AL3 a),(10,dI l),(11,dI z_.2)] []
def Aj1 a (l:Int):=λ(n:Int)=>xE 0 36 [(0,dD AL3 a),(3,dI n)] []
def AlE a o l q:=sT 36 [(0,dD AL3 a),(3,dI o),(9,dD AL3 a),(10,dI l),(11,dI q)] []
def Aj0 a (o:Int) l (q:Int):=λ(s:Unit)=>xN 36 [(0,dD AL3 a),(3,dI (wI (o+((a.getD q.toNat ALT.zero).length:Int)))),(9,dD AL3 a),(10,dI l),(11,dI q)] []
def FZ(a:ALK)(o l q:Int):AL8 Unit:=
 if 0<=q/\q<a.length then
 bif decide ((wI (o+((a.getD q.toNat ALT.zero).length:Int)))<0)then
 none
 else
 some ()
 else none
theorem Ano a o l q:AP lz 0 8 (cd f163 116) 14 (AlE a o l q) (FZ a o l q) (Aj0 a o l q):=by
 unfold AP;simp only[FZ,ALh];kernel_rfl
def Ew(a:ALK)(l o q:Int):AL8 ((Int×Int)⊕Int):=
 bif decide (q<l)then
 (FZ a o l q).bind λs=>some (.inl (wI (o+((a.getD q.toNat ALT.zero).length:Int)),wI (q+1)))
 else
 some (.inr o)
def Cb a l (z_:Int×Int):=Ew a l z_.1 z_.2
def F0 a l o q:=fix (Cb a l) (o,q)
theorem Anp a l:A0 lz 0 3 (code f163) 58 (AlF a l) (Cb a l) (Aj1 a l):=by
 intro _;simp only[Cb,Ew,ALh];simp(disch:=refine id ?_;kernel_rfl) only[A8 (Ano ..) (K:=LP lz 0 3)];kernel_rfl
def FG(a:ALK):AL8 ALx:=
 (F0 a (a.length:Int) 0 0).bind λn=>bif decide (n<0)then
 none
 else
 bif decide ((wI (n-0))>0)then
 if(0:Int)<=(wI (n-0))/\(wI (n-0))*((8:Nat):Int)<=(140737488355328:Int)then
 if(0:Int)<=(0:Int)/\(0:Int)<=((List.replicate (wI (n-0)).toNat 0).length:Int)then
 (F3 a (a.length:Int) 0 ((List.replicate (wI (n-0)).toNat 0).take 0)).bind λi=>some i
 else none
 else none
 else
 (P7 a (a.length:Int) 0 ([]:ALx)).bind λc=>some c
def Ayq:=B6 [.d AL3] [⟨[.Ax [] AL3],[],ALx,λp=>FG p.1.1,λr=>(.Am 0,[.row 2 .Ai ALP r])⟩]
theorem AbK:Ap prog 163 Ayq:=As (fn:=f163) ⟨⟨lz,pk ⟨Ab0,trivial⟩,λ_ R K=>by
 simp only[FG,ALi];simp(disch:=refine id ?_;kernel_rfl) only[F0,Az (Anp _ _) (K:=AY lz f163 0 R K),F3,Az (Anq _ _) (K:=AY lz f163 0 R K),P7,Az (Anr _ _) (K:=AY lz f163 0 R K)];kernel_rfl⟩,trivial⟩
abbrev Ai2:=eN [] {A1:=[(2,[1,4,7,8,9])],Bv:=[(2,[4])],Sj:=[(0,Ku)]}
def AlI a b (z_:Int×Int):=sT 26 [(1,dI z_.1),(4,.ptr 0 0 [] 0),(7,dD ALS a),(8,dI b),(9,dI z_.2)] [.box (.pr (.pr (dI 0) (.pr (dI 0) (.pr (dI 0) (.pr (.pr (dI 0) (.pr .zs .u)) .u)))) (.pr (dI 0) .u))]
def Aj4(a:ALD)(b:Int):=Sum.elim (λ(c:(ALn×Int))=>xR 26 [(4,.ptr 0 0 [] 0)] [.box (.pr (dD Ae c.1) (.pr (dI c.2) .u))]) (λ(d:Unit)=>xE 0 26 [(4,.ptr 0 0 [] 0)] [.box (.pr (.pr (dI 0) (.pr (dI 0) (.pr (dI 0) (.pr (.pr (dI 0) (.pr .zs .u)) .u)))) (.pr (dI 0) .u))])
def NW(a:ALD)(b e g:Int):AL8 ((Int×Int)⊕((ALn×Int)⊕Unit)):=
 bif decide (g<b)then
 if 0<=g/\g<a.length then
 bif decide (e<(a.getD g.toNat Ae.zero).2.2.1)then
 some (.inr (.inl (a.getD g.toNat Ae.zero,e)))
 else
 some (.inl (wI (e-(a.getD g.toNat Ae.zero).2.2.1),wI (g+1)))
 else none
 else
 some (.inr (.inr ()))
def Hg a b (z_:Int×Int):=NW a b z_.1 z_.2
def Rn a b e g:=fix (Hg a b) (e,g)
theorem Ans a b:A0 Ai2 0 2 (code f167) 26 (AlI a b) (Hg a b) (Aj4 a b):=by
 intro _;simp only[Hg,NW,ALh];kernel_rfl
def OJ(a:ALD)(i:Int):AL8 Ku.V:=
 (Rn a (a.length:Int) i 0).bind (Sum.elim (λc=>some (c.1,c.2,())) (λd=>some ((0,0,0,(0,([]:ALx),()),()),0,())))
def Ays:=B6 [.d ALS,.d ALP] [⟨[.Ax [] ALS,.Ax [] ALP],[],Ku.V,λp=>OJ p.1.1 p.1.2.1,λr=>(dD Ku r,[])⟩]
theorem AbM:Ap prog 167 Ays:=As (fn:=f167) ⟨⟨Ai2,pk trivial,λ_ R K=>by
 simp only[OJ,ALi];simp(disch:=refine id ?_;kernel_rfl) only[Rn,Az (Ans _ _) (K:=AY Ai2 f167 0 R K)];kernel_rfl⟩,trivial⟩
end
end Go.Proofs.X
