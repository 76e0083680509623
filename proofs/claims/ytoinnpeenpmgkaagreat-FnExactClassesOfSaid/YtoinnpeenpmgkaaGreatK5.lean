import Derived.KernelRfl
import Derived.Test.YtoinnpeenpmgkaaGreatK4
set_option linter.unusedVariables false
set_option linter.unusedSimpArgs false
namespace Go.Proofs.X
open Go Go.Va Go.Proofs.Tryz
set_option maxRecDepth 100000
noncomputable section
abbrev E72:=eN [(117,AxX),(118,tE),(119,AxY)] {A1:=[(5,[0,3,9,10,11])],Bv:=[(5,[2,3])],BR:=[(8,[0,3,5,9,10,11,34])],D2:=[(8,[0,3,4,5,9,10,11])]}
def AuB a b (z_:Int×Int):=sT 42 [(0,dD ALU a),(3,dI z_.1),(9,dD ALU a),(10,dI b),(11,dI z_.2)] []
def Asu(a:ALC)(b:Int):=Sum.elim (λ(c:Int)=>xR 42 [(2,dB false),(3,dI c)] []) (λ(d:Int)=>xE 0 42 [(3,dI d)] [])
def AuA a e g b i:=sT 42 [(0,dD ALU a),(3,dI e),(4,dI g),(5,.ptr 0 0 [] 0),(9,dD ALU a),(10,dI b),(11,dI g)] [.box (dD Ad i)]
def Ast a e g b i:=λ(j:Bool)=>xN 42 [(0,dD ALU a),(3,dI e),(5,.ptr 0 0 [] 0),(9,dD ALU a),(10,dI b),(11,dI g),(34,dB j)] [.box (dD Ad i)]
def NU(a:ALC)(e g b:Int)(i:ALm):AL8 Bool:=
 (Pb i.1).bind λk=>bif !k then
 some true
 else
 bif !(AH i.2.1 1 4096)then
 some true
 else
 if(0:Int)<=(0:Int)/\(0:Int)<=g/\g<=(a.length:Int)then
 (Kx ((a.take g.toNat).drop 0) i.1).bind λl=>some (decide (l>=0))
 else none
theorem AwR a e g b i:AP E72 0 8 (cd f69 244) 228 (AuA a e g b i) (NU a e g b i) (Ast a e g b i):=by
 unfold AP;simp only[NU,ALh];kernel_rfl
def KO(a:ALC)(b e g:Int):AL8 ((Int×Int)⊕(Int⊕Int)):=
 bif decide (g<b)then
 if 0<=g/\g<a.length then
 (NU a e g b (a.getD g.toNat Ad.zero)).bind λj=>bif j then
 some (.inr (.inl e))
 else
 some (.inl (wI (e+(a.getD g.toNat Ad.zero).2.1),wI (g+1)))
 else none
 else
 some (.inr (.inr e))
def Hv a b (z_:Int×Int):=KO a b z_.1 z_.2
def Sn a b e g:=fix (Hv a b) (e,g)
theorem AwS a b:A0 E72 0 5 (code f69) 122 (AuB a b) (Hv a b) (Asu a b):=by
 intro _;simp only[Hv,KO,ALh];simp(disch:=refine id ?_;kernel_rfl) only[A8 (AwR ..) (K:=LP E72 0 5)];kernel_rfl
def PL(a:ALC):AL8 Bool:=
 bif decide ((a.length:Int)>60)then
 some false
 else
 (Sn a (a.length:Int) 0 0).bind (Sum.elim (λc=>some false) (λd=>some (decide (d<=20000))))
def c69:=B6 [.d ALU] [⟨[.Ax [] ALU],[],Bool,λp=>PL p.1.1,λr=>(dB r,[])⟩]
theorem Agq:Ap prog 69 c69:=As (fn:=f69) ⟨⟨E72,pk ⟨Abh,Vm,Abi,trivial⟩,λ_ R K=>by
 simp only[PL,ALi];simp(disch:=refine id ?_;kernel_rfl) only[Sn,Az (AwS _ _) (K:=AY E72 f69 0 R K)];kernel_rfl⟩,trivial⟩
abbrev E73:=eN [(118,tE)] {A1:=[(4,[0,17,18,19]),(8,[0,5,7,17,18,19,24,25,26])],Bv:=[(4,[4]),(8,[0,4,17,18,19])]}
def AuD a b c (z_:Int):=sT 44 [(0,dD ALU a),(17,dD AL3 b),(18,dI c),(19,dI z_)] []
def Asw(a:ALC)(b:ALK)(c:Int):=Sum.elim (λ(d:Unit)=>xR 44 [(4,dB false)] []) (λ(e:Unit)=>xE 0 44 [] [])
def AuC a g b c i j (z_:Int×Int):=sT 44 [(0,dD ALU a),(5,dI g),(7,dI z_.1),(17,dD AL3 b),(18,dI c),(19,dI g),(24,dD ALT i),(25,dI j),(26,dI z_.2)] []
def Asv a g b c (i:ALx) (j:Int):=Sum.elim (λ(k:Unit)=>xR 44 [(0,dD ALU a),(4,dB false),(17,dD AL3 b),(18,dI c),(19,dI g)] []) (λ(l:Unit)=>xE 2 44 [(0,dD ALU a),(17,dD AL3 b),(18,dI c),(19,dI g)] [])
def L9(a:ALC)(g:Int)(b:ALK)(c:Int)(i:ALx)(j n o:Int):AL8 ((Int×Int)⊕(Unit⊕Unit)):=
 bif decide (o<j)then
 if 0<=o/\o<i.length then
 if 0<=g/\g<a.length then
 bif !(AH (i.getD o.toNat ALP.zero) (wI (n+1)) (wI ((a.getD g.toNat Ad.zero).2.1-1)))then
 some (.inr (.inl ()))
 else
 some (.inl (i.getD o.toNat ALP.zero,wI (o+1)))
 else none
 else none
 else
 some (.inr (.inr ()))
def Gg a g b c i j (z_:Int×Int):=L9 a g b c i j z_.1 z_.2
def TC a g b c i j n o:=fix (Gg a g b c i j) (n,o)
theorem AwT a g b c i j:A0 E73 0 8 (cd f159 116) 462 (AuC a g b c i j) (Gg a g b c i j) (Asv a g b c i j):=by
 intro _;simp only[Gg,L9,ALh];kernel_rfl
def Ma(a:ALC)(b:ALK)(c g:Int):AL8 (Int⊕(Unit⊕Unit)):=
 bif decide (g<c)then
 if 0<=g/\g<b.length then
 (TC a g b c (b.getD g.toNat ALT.zero) ((b.getD g.toNat ALT.zero).length:Int) 0 0).bind (Sum.elim (λk=>some (.inr (.inl ()))) (λl=>some (.inl (wI (g+1)))))
 else none
 else
 some (.inr (.inr ()))
def IY a b c (z_:Int):=Ma a b c z_
def TD a b c g:=fix (IY a b c) g
theorem AwU a b c:A0 E73 0 4 (code f159) 58 (AuD a b c) (IY a b c) (Asw a b c):=by
 intro _;simp only[IY,Ma,ALh];simp(disch:=refine id ?_;kernel_rfl) only[TC,Az (AwT _ _ _ _ _ _) (K:=LP E73 0 4)];kernel_rfl
def RP(a:ALC)(q:ALr):AL8 Bool:=
 bif (q.1.length:Int) !=(a.length:Int)then
 some false
 else
 (TD a q.1 (q.1.length:Int) 0).bind (Sum.elim (λd=>some false) (λe=>some true))
def Ayn:=B6 [.d ALU,.d Aj] [⟨[.Ax [] ALU,.Ax [] Aj],[],Bool,λp=>RP p.1.1 p.1.2.1,λr=>(dB r,[])⟩]
theorem AbH:Ap prog 159 Ayn:=As (fn:=f159) ⟨⟨E73,pk ⟨Vm,trivial⟩,λ_ R K=>by
 simp only[RP,ALi];simp(disch:=refine id ?_;kernel_rfl) only[TD,Az (AwU _ _ _) (K:=AY E73 f159 0 R K)];kernel_rfl⟩,trivial⟩
abbrev E74:=eN [(69,c69),(159,Ayn)] {}
def RO(a:ALC)(b:ALr):AL8 Bool:=
 (PL a).bind λc=>bif c then
 (RP a b).bind λd=>some d
 else
 some false
def Ax5:=B6 [.d ALU,.d Aj] [⟨[.Ax [] ALU,.Ax [] Aj],[],Bool,λp=>RO p.1.1 p.1.2.1,λr=>(dB r,[])⟩]
theorem Abp:Ap prog 136 Ax5:=As (fn:=f136) ⟨⟨E74,pk ⟨Agq,AbH,trivial⟩,λ_ R K=>by
 simp only[RO,ALi];kernel_rfl⟩,trivial⟩
abbrev E75:=eN [] {}
def Ca(a:Int):Int:=(wI (Int.tdiv (wI (a+63)) 64))
def AoM:=B6 [.d ALP] [⟨[.Ax [] ALP],[],Int,λp=>some (Ca p.1.1),λr=>(dI r,[])⟩]
theorem pN:Ap prog 157 AoM:=As (fn:=f157) ⟨⟨E75,pk trivial,λ_ _ _=>by kernel_rfl⟩,trivial⟩
abbrev E76:=eN [(118,tE),(157,AoM)] {BR:=[(2,[1,16])],D2:=[(2,[1])]}
def Aia a:=sT 35 [(1,.ptr 0 0 [] 0)] [.box (dD Ah a)]
def Aah(a:ALq)(m0:Bool):Ex×St:=xN 35 [(1,.ptr 0 0 [] 0),(16,dB m0)] [.box (dD Ah a)]
theorem AwV a:Xe E76 0 2 (code f190) (pt 12) (Aia a)=some (Aah a ((!(AH a.1 1 4096))||((a.2.1.length:Int) !=(Ca a.1)))):=by
 refine .trans (b:=
 bif !(AH a.1 1 4096)then
 some (Aah a true)
 else
 some (Aah a ((a.2.1.length:Int) !=(Ca a.1)))) (by kernel_rfl) ?_
 cases (!(AH a.1 1 4096));rfl;rfl
def O7(a:ALq):AL8 Bool:=
 QF (Aia a) (
 bif (!(AH a.1 1 4096))||((a.2.1.length:Int) !=(Ca a.1))then
 some false
 else
 bif (Int.tmod a.1 64)==0 then
 some true
 else
 if 0<=(wI ((a.2.1.length:Int)-1))/\(wI ((a.2.1.length:Int)-1))<a.2.1.length then
 if(Int.tmod a.1 64)<(0:Int)then none else
 some ((SD .u64 (a.2.1.getD (wI ((a.2.1.length:Int)-1)).toNat ALQ.zero) (Int.tmod a.1 64))==0)
 else none)
def AyK:=B6 [.d Ah] [⟨[.Ax [] Ah],[],Bool,λp=>O7 p.1.1,λr=>(dB r,[])⟩]
theorem Ab4:Ap prog 190 AyK:=As (fn:=f190) ⟨⟨E76,pk ⟨Vm,pN,trivial⟩,λ_ R K=>by
 simp only[O7,ALi];simp(disch:=refine id ?_;kernel_rfl) only[F8 (AwV _) (K:=AY E76 f190 0 R K)];kernel_rfl⟩,trivial⟩
abbrev lC:=eN [(118,tE),(190,AyK)] {A1:=[(11,[8,80,81,82])],Bv:=[(11,[8])],BR:=[(4,[0,1,2,7]),(5,[0,1,2,7,17]),(7,[0,2,7,46]),(9,[0,2,7,69]),(19,[0,7,95]),(21,[0,7,137]),(23,[0,7,163]),(25,[0,7,184])],D2:=[(4,[0,1,2,7]),(5,[0,1,2,7]),(7,[0,2,7]),(9,[0,2,7]),(19,[0,7]),(21,[0,7]),(23,[0,7]),(25,[0,7])]}
def Aig a b:=sT 203 [(0,.EJ [] Af a),(7,dI b)] []
def Aaj(a:ALo)(b:Int)(m0:Bool):Ex×St:=xN 203 [(0,.EJ [] Af a),(7,dI b),(184,dB m0)] []
theorem Aw4 a b:Xe lC 0 25 (code f174) (pt 1998846) (Aig a b)=some (Aaj a b ((a.1==9)&&(AH a.2.2.1 1 4096))):=by
 refine .trans (b:=
 bif a.1==9 then
 some (Aaj a b (AH a.2.2.1 1 4096))
 else
 some (Aaj a b false)) (by kernel_rfl) ?_
 cases (a.1==9);rfl;rfl
def Aif a b:=sT 203 [(0,.EJ [] Af a),(7,dI b)] []
def vw(a:ALo)(b:Int)(m0:Bool):Ex×St:=xN 203 [(0,.EJ [] Af a),(7,dI b),(163,dB m0)] []
theorem Aw3 a b:Xe lC 0 23 (code f174) (pt 499710) (Aif a b)=some (vw a b (bif a.1==7 then(AH a.2.2.1 0 4096)else((a.1==8)&&(AH a.2.2.1 0 4096)))):=by
 refine .trans (b:=
 bif a.1==7 then
 some (vw a b (AH a.2.2.1 0 4096))
 else
 bif a.1==8 then
 some (vw a b (AH a.2.2.1 0 4096))
 else
 some (vw a b false)) (by kernel_rfl) ?_
 cases (a.1==7);cases (a.1==8);rfl;rfl;rfl
def Aie a b:=sT 203 [(0,.EJ [] Af a),(7,dI b)] []
def vu(a:ALo)(b:Int)(m0:Bool):Ex×St:=xN 203 [(0,.EJ [] Af a),(7,dI b),(137,dB m0)] []
theorem Aw2 a b:Xe lC 0 21 (code f174) (pt 124926) (Aie a b)=some (vu a b (bif a.1==5 then(AH a.2.2.1 0 4096)else((a.1==6)&&(AH a.2.2.1 0 4096)))):=by
 refine .trans (b:=
 bif a.1==5 then
 some (vu a b (AH a.2.2.1 0 4096))
 else
 bif a.1==6 then
 some (vu a b (AH a.2.2.1 0 4096))
 else
 some (vu a b false)) (by kernel_rfl) ?_
 cases (a.1==5);cases (a.1==6);rfl;rfl;rfl
def Aid a b:=sT 203 [(0,.EJ [] Af a),(7,dI b)] []
def pg(a:ALo)(b:Int)(m0:Bool):Ex×St:=xN 203 [(0,.EJ [] Af a),(7,dI b),(95,dB m0)] []
theorem Aw1 a b:Xe lC 0 19 (code f174) (pt 31230) (Aid a b)=some (pg a b ((a.1==4)&&((decide (a.2.2.2.1>=0))&&((decide (a.2.2.2.1<=a.2.2.1))&&(decide (a.2.2.1<b)))))):=by
 refine .trans (b:=
 bif a.1==4 then
 bif decide (a.2.2.2.1>=0)then
 bif decide (a.2.2.2.1<=a.2.2.1)then
 some (pg a b (decide (a.2.2.1<b)))
 else
 some (pg a b false)
 else
 some (pg a b false)
 else
 some (pg a b false)) (by kernel_rfl) ?_
 cases (a.1==4);rfl;cases (decide (a.2.2.2.1>=0));rfl;cases (decide (a.2.2.2.1<=a.2.2.1));rfl;rfl
def AuG c d (z_:Int×Int):=sT 203 [(8,dI z_.1),(80,dD ALT c),(81,dI d),(82,dI z_.2)] []
def Asz(c:ALx)(d:Int):=λ(e:Int)=>xE 1 203 [(8,dI e)] []
def GZ(c:ALx)(d g i:Int):AL8 ((Int×Int)⊕Int):=
 bif decide (i<d)then
 if 0<=i/\i<c.length then
 some (.inl (wI (g+(c.getD i.toNat ALP.zero)),wI (i+1)))
 else none
 else
 some (.inr g)
def Ci c d (z_:Int×Int):=GZ c d z_.1 z_.2
def M9 c d g i:=fix (Ci c d) (g,i)
theorem Aw0 c d:A0 lC 0 11 (code f174) 62442 (AuG c d) (Ci c d) (Asz c d):=by
 intro _;simp only[Ci,GZ,ALh];kernel_rfl
def Aic a c b:=sT 203 [(0,.EJ [] Af a),(2,dD ALT c),(7,dI b)] []
def Aai(a:ALo)(c:ALx)(b:Int)(m0:Bool):Ex×St:=xN 203 [(0,.EJ [] Af a),(2,dD ALT c),(7,dI b),(69,dB m0)] []
theorem AwZ a c b:Xe lC 0 9 (code f174) (pt 1950) (Aic a c b)=some (Aai a c b ((a.1==3)&&(decide ((c.length:Int)>1)))):=by
 refine .trans (b:=
 bif a.1==3 then
 some (Aai a c b (decide ((c.length:Int)>1)))
 else
 some (Aai a c b false)) (by kernel_rfl) ?_
 cases (a.1==3);rfl;rfl
def AuF a c b:=sT 203 [(0,.EJ [] Af a),(2,dD ALT c),(7,dI b)] []
def Asy a c b:=λ(j:Bool)=>xN 203 [(0,.EJ [] Af a),(2,dD ALT c),(7,dI b),(46,dB j)] []
def FC(a:ALo)(c:ALx)(b:Int):AL8 Bool:=
 bif a.1==2 then
 bif (c.length:Int)==0 then
 (O7 a.2.2.2.2.1).bind λk=>some k
 else
 some false
 else
 some false
theorem AwY a c b:AP lC 0 7 (code f174) 486 (AuF a c b) (FC a c b) (Asy a c b):=by
 unfold AP;simp only[FC,ALh];kernel_rfl
def Aib a l c b:=sT 203 [(0,.EJ [] Af a),(1,dD ALU l),(2,dD ALT c),(7,dI b)] []
def vr(a:ALo)(l:ALC)(c:ALx)(b:Int)(m0:Bool):Ex×St:=xN 203 [(0,.EJ [] Af a),(1,dD ALU l),(2,dD ALT c),(7,dI b),(17,dB m0)] []
theorem AwX a l c b:Xe lC 0 5 (code f174) (pt 120) (Aib a l c b)=some (vr a l c b ((a.1==1)&&(((c.length:Int)==0)&&(AH a.2.1 0 (wI ((l.length:Int)-1)))))):=by
 refine .trans (b:=
 bif a.1==1 then
 bif (c.length:Int)==0 then
 some (vr a l c b (AH a.2.1 0 (wI ((l.length:Int)-1))))
 else
 some (vr a l c b false)
 else
 some (vr a l c b false)) (by kernel_rfl) ?_
 cases (a.1==1);rfl;cases ((c.length:Int)==0);rfl;rfl
def AuE a l c:=sT 203 [(0,.EJ [] Af a),(1,dD ALU l),(2,dD ALT c),(7,dI 0)] []
def Asx a l c:=λ(b:Int)=>xN 203 [(0,.EJ [] Af a),(1,dD ALU l),(2,dD ALT c),(7,dI b)] []
def FB(a:ALo)(l:ALC)(c:ALx):AL8 Int:=
 bif decide ((c.length:Int)>0)then
 if(0:Int)<=(0:Int)/\(0:Int)<(c.length:Int)then
 some (c.getD 0 ALP.zero)
 else none
 else
 some 0
theorem AwW a l c:AP lC 0 4 (code f174) 14 (AuE a l c) (FB a l c) (Asx a l c):=by
 unfold AP;simp only[FB,ALh];kernel_rfl
def Gf(a:ALo)(l:ALC)(c:ALx):AL8 Int:=
 (FB a l c).bind λb=>QF (Aib a l c b) (
 bif (a.1==1)&&(((c.length:Int)==0)&&(AH a.2.1 0 (wI ((l.length:Int)-1))))then
 if(0:Int)<=a.2.1/\a.2.1<(l.length:Int)then
 some (l.getD a.2.1.toNat Ad.zero).2.1
 else none
 else
 (FC a c b).bind λj=>bif j then
 some a.2.2.2.2.1.1
 else
 QF (Aic a c b) (
 bif (a.1==3)&&(decide ((c.length:Int)>1))then
 (M9 c (c.length:Int) 0 0).bind λe=>some e
 else
 bif (c.length:Int) !=1 then
 some (-1)
 else
 QF (Aid a b) (
 bif (a.1==4)&&((decide (a.2.2.2.1>=0))&&((decide (a.2.2.2.1<=a.2.2.1))&&(decide (a.2.2.1<b))))then
 some (wI ((wI (a.2.2.1-a.2.2.2.1))+1))
 else
 QF (Aie a b) (
 bif bif (a.1==5)then(AH a.2.2.1 0 4096)else((a.1==6)&&(AH a.2.2.1 0 4096))then
 some (wI (b+a.2.2.1))
 else
 QF (Aif a b) (
 bif bif (a.1==7)then(AH a.2.2.1 0 4096)else((a.1==8)&&(AH a.2.2.1 0 4096))then
 some b
 else
 QF (Aig a b) (
 bif (a.1==9)&&(AH a.2.2.1 1 4096)then
 some (wI (b*a.2.2.1))
 else
 some (-1)))))))
def Ayz:=B6 [.p Af,.d ALU,.d ALT] [⟨[.EJ [] Af,.Ax [] ALU,.Ax [] ALT],[],Int,λp=>Gf p.1.1 p.1.2.1 p.1.2.2.1,λr=>(dI r,[])⟩]
theorem AbT:Ap prog 174 Ayz:=As (fn:=f174) ⟨⟨lC,pk ⟨Vm,Ab4,trivial⟩,λ_ R K=>by
 simp only[Gf,ALi];simp(disch:=refine id ?_;kernel_rfl) only[A8 (AwW ..) (K:=AY lC f174 0 R K),F8 (AwX ..) (K:=AY lC f174 0 R K),A8 (AwY ..) (K:=AY lC f174 0 R K),F8 (AwZ ..) (K:=AY lC f174 0 R K),M9,Az (Aw0 _ _) (K:=AY lC f174 0 R K),F8 (Aw1 ..) (K:=AY lC f174 0 R K),F8 (Aw2 ..) (K:=AY lC f174 0 R K),F8 (Aw3 ..) (K:=AY lC f174 0 R K),F8 (Aw4 ..) (K:=AY lC f174 0 R K)];kernel_rfl⟩,trivial⟩
abbrev E78:=eN [] {BR:=[(2,[0,3]),(3,[0,52])],D2:=[(2,[0]),(3,[0,3])]}
def Aii a:=sT 75 [(0,.EJ [] Af a),(3,dB ((decide (a.1>=4))&&(decide (a.1<=9))))] []
def Wn(a:ALo)(m0:Bool):Ex×St:=xN 75 [(0,.EJ [] Af a),(52,dB m0)] []
theorem Aw6 a:Xe E78 0 3 (code f175) (pt 28) (Aii a)=some (Wn a (bif !((decide (a.1>=4))&&(decide (a.1<=9)))then((a.2.2.1 !=0)||(bif a.1 !=4 then((a.2.2.2.1 !=0)||((a.1 !=1)&&(a.2.1 !=0)))else((a.1 !=1)&&(a.2.1 !=0))))else(bif a.1 !=4 then((a.2.2.2.1 !=0)||((a.1 !=1)&&(a.2.1 !=0)))else((a.1 !=1)&&(a.2.1 !=0))))):=by
 refine .trans (b:=
 bif !((decide (a.1>=4))&&(decide (a.1<=9)))then
 bif a.2.2.1 !=0 then
 some (Wn a true)
 else
 bif a.1 !=4 then
 bif a.2.2.2.1 !=0 then
 some (Wn a true)
 else
 bif a.1 !=1 then
 some (Wn a (a.2.1 !=0))
 else
 some (Wn a false)
 else
 bif a.1 !=1 then
 some (Wn a (a.2.1 !=0))
 else
 some (Wn a false)
 else
 bif a.1 !=4 then
 bif a.2.2.2.1 !=0 then
 some (Wn a true)
 else
 bif a.1 !=1 then
 some (Wn a (a.2.1 !=0))
 else
 some (Wn a false)
 else
 bif a.1 !=1 then
 some (Wn a (a.2.1 !=0))
 else
 some (Wn a false)) (by kernel_rfl) ?_
 cases (!((decide (a.1>=4))&&(decide (a.1<=9))));cases (a.1 !=4);cases (a.1 !=1);rfl;rfl;cases (a.2.2.2.1 !=0);cases (a.1 !=1);rfl;rfl;rfl;cases (a.2.2.1 !=0);cases (a.1 !=4);cases (a.1 !=1);rfl;rfl;cases (a.2.2.2.1 !=0);cases (a.1 !=1);rfl;rfl;rfl;rfl
def Aih a:=sT 75 [(0,.EJ [] Af a)] []
def Aak(a:ALo)(m0:Bool):Ex×St:=xN 75 [(0,.EJ [] Af a),(3,dB m0)] []
theorem Aw5 a:Xe E78 0 2 (code f175) (pt 6) (Aih a)=some (Aak a ((decide (a.1>=4))&&(decide (a.1<=9)))):=by
 refine .trans (b:=
 bif decide (a.1>=4)then
 some (Aak a (decide (a.1<=9)))
 else
 some (Aak a false)) (by kernel_rfl) ?_
 cases (decide (a.1>=4));rfl;rfl
def D5(a:ALo):Bool:=((!(bif !((decide (a.1>=4))&&(decide (a.1<=9)))then((a.2.2.1 !=0)||(bif a.1 !=4 then((a.2.2.2.1 !=0)||((a.1 !=1)&&(a.2.1 !=0)))else((a.1 !=1)&&(a.2.1 !=0))))else(bif a.1 !=4 then((a.2.2.2.1 !=0)||((a.1 !=1)&&(a.2.1 !=0)))else((a.1 !=1)&&(a.2.1 !=0)))))&&((a.1==2)||((a.2.2.2.2.1.1==0)&&((a.2.2.2.2.1.2.1.length:Int)==0))))
theorem U78 R a K:R4 E78 f175 R [.EJ [] Af a] [] K=K (dB (D5 a)) []:=by
 refine .trans (b:=
 QF (Aih a) (
 QF (Aii a) (
 bif bif (!((decide (a.1>=4))&&(decide (a.1<=9))))then((a.2.2.1 !=0)||(bif (a.1 !=4)then((a.2.2.2.1 !=0)||((a.1 !=1)&&(a.2.1 !=0)))else((a.1 !=1)&&(a.2.1 !=0))))else(bif (a.1 !=4)then((a.2.2.2.1 !=0)||((a.1 !=1)&&(a.2.1 !=0)))else((a.1 !=1)&&(a.2.1 !=0)))then
 K (dB false) []
 else
 bif a.1==2 then
 K (dB true) []
 else
 bif a.2.2.2.2.1.1==0 then
 K (dB ((a.2.2.2.2.1.2.1.length:Int)==0)) []
 else
 K (dB false) []))) (by
  simp(disch:=refine id ?_;kernel_rfl) only[F8 (Aw5 _) (K:=AY E78 f175 0 R K),F8 (Aw6 _) (K:=AY E78 f175 0 R K)];kernel_rfl) ?_
 unfold D5;cases (bif !((decide (a.1>=4))&&(decide (a.1<=9)))then((a.2.2.1 !=0)||(bif a.1 !=4 then((a.2.2.2.1 !=0)||((a.1 !=1)&&(a.2.1 !=0)))else((a.1 !=1)&&(a.2.1 !=0))))else(bif a.1 !=4 then((a.2.2.2.1 !=0)||((a.1 !=1)&&(a.2.1 !=0)))else((a.1 !=1)&&(a.2.1 !=0))));cases (a.1==2);cases (a.2.2.2.2.1.1==0);rfl;rfl;rfl;rfl
def AyA:=B6 [.p Af] [⟨[.EJ [] Af],[],Bool,λp=>some (D5 p.1.1),λr=>(dB r,[])⟩]
theorem AbU:Ap prog 175 AyA:=As ⟨⟨E78,pk trivial,λ_ _ _=>U78 ..⟩,trivial⟩
abbrev E79:=eN [] {A1:=[(2,[0,1,7,8])],Bv:=[(2,[4])]}
def AuH a b c (z_:Int):=sT 19 [(0,dD ALW a),(1,dB b),(7,dI c),(8,dI z_)] []
def AsA(a:ALy)(b:Bool)(c:Int):=Sum.elim (λ(d:Int)=>xR 19 [(4,dI d)] []) (λ(e:Unit)=>xE 0 19 [] [])
def F4(a:ALy)(b:Bool)(c g:Int):AL8 (Int⊕(Int⊕Unit)):=
 bif decide (g<c)then
 if 0<=g/\g<a.length then
 bif b==(a.getD g.toNat (Ty.zero .bool))then
 some (.inr (.inl g))
 else
 some (.inl (wI (g+1)))
 else none
 else
 some (.inr (.inr ()))
def Dw a b c (z_:Int):=F4 a b c z_
def LQ a b c g:=fix (Dw a b c) g
theorem Aw7 a b c:A0 E79 0 2 (code f191) 26 (AuH a b c) (Dw a b c) (AsA a b c):=by
 intro _;simp only[Dw,F4,ALh];kernel_rfl
def K2(a:ALy)(b:Bool):AL8 Int:=
 (LQ a b (a.length:Int) 0).bind (Sum.elim (λd=>some d) (λe=>some (-1)))
def AyL:=B6 [.d ALW,.d .bool] [⟨[.Ax [] ALW,.Ax [] .bool],[],Int,λp=>K2 p.1.1 p.1.2.1,λr=>(dI r,[])⟩]
theorem Ab5:Ap prog 191 AyL:=As (fn:=f191) ⟨⟨E79,pk trivial,λ_ R K=>by
 simp only[K2,ALi];simp(disch:=refine id ?_;kernel_rfl) only[LQ,Az (Aw7 _ _ _) (K:=AY E79 f191 0 R K)];kernel_rfl⟩,trivial⟩
abbrev E80:=eN [(191,AyL)] {}
def EK(a:ALy)(b:Bool):AL8 Bool:=
 (K2 a b).bind λc=>some (decide (c>=0))
def AyB:=B6 [.d ALW,.d .bool] [⟨[.Ax [] ALW,.Ax [] .bool],[],Bool,λp=>EK p.1.1 p.1.2.1,λr=>(dB r,[])⟩]
theorem AbV:Ap prog 176 AyB:=As (fn:=f176) ⟨⟨E80,pk ⟨Ab5,trivial⟩,λ_ R K=>by
 simp only[EK,ALi];kernel_rfl⟩,trivial⟩
abbrev zG:=eN [(118,tE),(174,Ayz),(175,AyA),(176,AyB)] {A1:=[(6,[0,3,6,7,8,29,30]),(13,[0,3,6,7,8,9,10,11,29,30,52,53,54])],Bv:=[(6,{Bb:=[4,5,6,7,8],Sj:=[(8,false,ALW)]}),(13,{Bb:=[0,3,4,5,6,7,8,9,10,11,29,30],Sj:=[(11,false,ALT)]})],BR:=[(3,[0,3,6,22]),(21,[0,3,6,7,8,29,30,92])],X9:=[(4,{Bb:=[0,3,6,7,8],VI:=true})],D2:=[(3,[0,3,6]),(21,[0,3,6,7,8,9,10,29,30])],ZA:=[(4,[0,3,6])],dM:=[(0,.row [] 2 ALP true)]}
def AuK a b c d (z_:Int×ALx×ALy):=sT 101 [(0,dD ALU a),(3,.ptr 0 0 [] 0),(6,dI c),(7,.Am 1),(8,.Am 2),(29,dI d),(30,dI z_.1)] [.box (dD Ar b),.row 2 .Ai ALP z_.2.1,.row 4 .Ai .bool z_.2.2]
def AsD(a:ALC)(b:ALv) c (d:Int):=Sum.elim (λ(e:(ALy×ALx))=>xR 101 [(4,.zs),(5,dB false),(6,dI c),(7,.Am 0),(8,dD ALW e.1)] [.row 2 .Ai ALP e.2]) (λ(g:(ALy×ALx))=>xE 0 101 [(6,dI c),(7,.Am 0),(8,dD ALW g.1)] [.row 2 .Ai ALP g.2])
def AuJ a c i d b j k l:=sT 101 [(0,dD ALU a),(3,.ptr 0 0 [] 0),(6,dI c),(7,.Am 1),(8,.Am 2),(9,dI i),(10,.EJ [] Af j),(29,dI d),(30,dI i)] [.box (dD Ar b),.row 2 .Ai ALP k,.row 4 .Ai .bool l]
def AsC a c i d b (j:ALo) k l:=λ(n:Bool)=>xN 101 [(0,dD ALU a),(3,.ptr 0 0 [] 0),(6,dI c),(7,.Am 1),(8,.Am 2),(29,dI d),(30,dI i),(92,dB n)] [.box (dD Ar b),.row 2 .Ai ALP k,.row 4 .Ai .bool l]
def PU(a:ALC)(c i d:Int)(b:ALv)(j:ALo)(k:ALx)(l:ALy):AL8 Bool:=
 bif !(D5 j)then
 some true
 else
 if 0<=i/\i<k.length then
 some (!(AH (k.getD i.toNat ALP.zero) 1 4096))
 else none
theorem Axb a c i d b j k l:AP zG 0 21 (cd f153 500) 3710 (AuJ a c i d b j k l) (PU a c i d b j k l) (AsC a c i d b j k l):=by
 unfold AP;simp only[PU,ALh];kernel_rfl
def AuI a c i d b o q s t (z_:Int×ALy×ALx):=sT 101 [(0,dD ALU a),(3,.ptr 0 0 [] 0),(6,dI c),(7,.Am 1),(8,.Am 2),(9,dI i),(10,.EJ [] Af q),(11,.Am 3),(29,dI d),(30,dI i),(52,dD ALT s),(53,dI t),(54,dI z_.1)] [.box (dD Ar b),.row 2 .Ai ALP o,.row 4 .Ai .bool z_.2.1,.row 2 .Ai ALP z_.2.2]
def AsB a c i d b o q (s:ALx) (t:Int):=Sum.elim (λ(u:(ALx×ALy))=>xR 101 [(0,dD ALU a),(3,.ptr 0 0 [] 0),(4,.zs),(5,dB false),(6,dI c),(7,.Am 1),(8,.Am 2),(9,dI i),(10,.EJ [] Af q),(11,dD ALT u.1),(29,dI d),(30,dI i)] [.box (dD Ar b),.row 2 .Ai ALP o,.row 4 .Ai .bool u.2]) (λ(v:(ALx×ALy))=>xE 2 101 [(0,dD ALU a),(3,.ptr 0 0 [] 0),(6,dI c),(7,.Am 1),(8,.Am 2),(9,dI i),(10,.EJ [] Af q),(11,dD ALT v.1),(29,dI d),(30,dI i)] [.box (dD Ar b),.row 2 .Ai ALP o,.row 4 .Ai .bool v.2])
def Mk(a:ALC)(c i d:Int)(b:ALv)(o:ALx)(q:ALo)(s:ALx)(t w:Int)(x:ALy)(y:ALx):AL8 ((Int×ALy×ALx)⊕((ALx×ALy)⊕(ALx×ALy))):=
 bif decide (w<t)then
 if 0<=w/\w<s.length then
 bif !(AH (s.getD w.toNat ALP.zero) 0 (wI (i-1)))then
 some (.inr (.inl (y,x)))
 else
 if(0:Int)<=(s.getD w.toNat ALP.zero)/\(s.getD w.toNat ALP.zero)<(o.length:Int)then
 if(0:Int)<=(s.getD w.toNat ALP.zero)/\(s.getD w.toNat ALP.zero)<(x.length:Int)then
 if 0<=w/\w<y.length then
 some (.inl (wI (w+1),x.set (s.getD w.toNat ALP.zero).toNat true,y.set w.toNat (o.getD (s.getD w.toNat ALP.zero).toNat ALP.zero)))
 else none
 else none
 else none
 else none
 else
 some (.inr (.inr (y,x)))
def Gi a c i d b o q s t (z_:Int×ALy×ALx):=Mk a c i d b o q s t z_.1 z_.2.1 z_.2.2
def LC a c i d b o q s t w x y:=fix (Gi a c i d b o q s t) (w,x,y)
theorem Axa a c i d b o q s t:A0 zG 0 13 (cd f153 500) 3706 (AuI a c i d b o q s t) (Gi a c i d b o q s t) (AsB a c i d b o q s t):=by
 intro _;simp only[Gi,Mk,ALh];kernel_rfl
def Ml(a:ALC)(b:ALv)(c d i:Int)(o:ALx)(a1:ALy):AL8 ((Int×ALx×ALy)⊕((ALy×ALx)⊕(ALy×ALx))):=
 bif decide (i<d)then
 if 0<=i/\i<b.1.length then
 bif decide (((b.1.getD i.toNat Af.zero).2.2.2.2.2.1.length:Int)>4096)then
 some (.inr (.inl (a1,o)))
 else
 if Ty.row ALP=true/\(0:Int)<=((b.1.getD i.toNat Af.zero).2.2.2.2.2.1.length:Int)/\((b.1.getD i.toNat Af.zero).2.2.2.2.2.1.length:Int)<=((b.1.getD i.toNat Af.zero).2.2.2.2.2.1.length:Int)/\((8:Nat):Int)*((b.1.getD i.toNat Af.zero).2.2.2.2.2.1.length:Int)<=(281474976710656:Int)/\((b.1.getD i.toNat Af.zero).2.2.2.2.2.1.length:Int)<=(9223372036854775807:Int)then
 (LC a c i d b o (b.1.getD i.toNat Af.zero) (b.1.getD i.toNat Af.zero).2.2.2.2.2.1 ((b.1.getD i.toNat Af.zero).2.2.2.2.2.1.length:Int) 0 a1 (List.replicate ((b.1.getD i.toNat Af.zero).2.2.2.2.2.1.length:Int).toNat 0)).bind (Sum.elim (λu=>some (.inr (.inl (u.2,o)))) (λv=>(Gf (b.1.getD i.toNat Af.zero) a v.1).bind λb1=>if 0<=i/\i<o.length then
 (PU a c i d b (b.1.getD i.toNat Af.zero) (o.set i.toNat b1) v.2).bind λn=>bif n then
 some (.inr (.inl (v.2,o.set i.toNat b1)))
 else
 some (.inl (wI (i+1),o.set i.toNat b1,v.2))
 else none))
 else none
 else none
 else
 some (.inr (.inr (a1,o)))
def Gj a b c d (z_:Int×ALx×ALy):=Ml a b c d z_.1 z_.2.1 z_.2.2
def TG a b c d i o a1:=fix (Gj a b c d) (i,o,a1)
theorem Axc a b c d:A0 zG 0 6 (code f153) 250 (AuK a b c d) (Gj a b c d) (AsD a b c d):=by
 intro _;simp only[Gj,Ml,ALh];simp(disch:=refine id ?_;kernel_rfl) only[LC,Az (Axa _ _ _ _ _ _ _ _ _) (K:=LP zG 0 6),A8 (Axb ..) (K:=LP zG 0 6)];kernel_rfl
def Aik a b c1:=sT 101 [(0,dD ALU a),(3,.ptr 0 0 [] 0),(6,dI c1)] [.box (dD Ar b)]
def jD a b c1:=λ(d1:(ALx×ALy))=>sT 101 [(0,dD ALU a),(3,.ptr 0 0 [] 0),(6,dI c1),(7,.Am 1),(8,.Am 2)] [.box (dD Ar b),.row 2 .Ai ALP d1.1,.row 4 .Ai .bool d1.2]
def LB(a:ALC)(b:ALv)(c1:Int):AL8 (ALx×ALy):=
 if Ty.row ALP=true/\(0:Int)<=c1/\c1<=c1/\((8:Nat):Int)*c1<=(281474976710656:Int)/\c1<=(9223372036854775807:Int)then
 if Ty.row .bool=true/\(0:Int)<=c1/\c1<=c1/\((1:Nat):Int)*c1<=(281474976710656:Int)/\c1<=(9223372036854775807:Int)then
 some (List.replicate c1.toNat 0,List.replicate c1.toNat false)
 else none
 else none
theorem Aw9(a:ALC)(b:ALv)(c1:Int):Py zG 0 4 (code f153) 30 (Aik a b c1) (LB a b c1) (jD a b c1):=by
 unfold Py;have h:sy zG 0 4 (code f153) (pt 30) (Aik a b c1) =
 if Ty.row ALP=true/\(0:Int)<=c1/\c1<=c1/\((8:Nat):Int)*c1<=(281474976710656:Int)/\c1<=(9223372036854775807:Int)then
 if Ty.row .bool=true/\(0:Int)<=c1/\c1<=c1/\((1:Nat):Int)*c1<=(281474976710656:Int)/\c1<=(9223372036854775807:Int)then
 (((if Ty.row ALP=true/\(0:Int)<=c1/\c1<=c1/\((8:Nat):Int)*c1<=(281474976710656:Int)/\c1<=(9223372036854775807:Int)then
 if Ty.row .bool=true/\(0:Int)<=c1/\c1<=c1/\((1:Nat):Int)*c1<=(281474976710656:Int)/\c1<=(9223372036854775807:Int)then
 M4 (jD a b c1 (List.replicate c1.toNat 0,List.replicate c1.toNat false)) (jD a b c1 (List.replicate c1.toNat 0,List.replicate c1.toNat false))
 else none
 else none).bind λ_=>if Ty.row .bool=true/\(0:Int)<=c1/\c1<=c1/\((1:Nat):Int)*c1<=(281474976710656:Int)/\c1<=(9223372036854775807:Int)then
 if Ty.row ALP=true/\(0:Int)<=c1/\c1<=c1/\((8:Nat):Int)*c1<=(281474976710656:Int)/\c1<=(9223372036854775807:Int)then
 M4 (jD a b c1 (List.replicate c1.toNat 0,List.replicate c1.toNat false)) (jD a b c1 (List.replicate c1.toNat 0,List.replicate c1.toNat false))
 else none
 else none).bind λ_=>some (jD a b c1 (List.replicate c1.toNat 0,List.replicate c1.toNat false)))
 else none
 else none:=by kernel_rfl
 rw[h];unfold LB;simp only[ALh,mS,mO];clear h;by_cases F6:Ty.row ALP=true/\(0:Int)<=c1/\c1<=c1/\((8:Nat):Int)*c1<=(281474976710656:Int)/\c1<=(9223372036854775807:Int)
 ·rw[AJg F6,AJg F6];by_cases M7:Ty.row .bool=true/\(0:Int)<=c1/\c1<=c1/\((1:Nat):Int)*c1<=(281474976710656:Int)/\c1<=(9223372036854775807:Int)
  ·rw[AJg M7,AJg M7];simp only[AJg F6,AJg M7,AJK,AIY,ER]
  ·simp only[AJg F6,AJK,AJh M7]
 ·simp only[AJK,AJh F6]
def Aij a (b:ALv):=sT 101 [(0,dD ALU a),(3,.ptr 0 0 [] 0),(6,dI (b.1.length:Int))] [.box (dD Ar b)]
def Aal(a:ALC)(b:ALv)(m0:Bool):Ex×St:=xN 101 [(0,dD ALU a),(3,.ptr 0 0 [] 0),(6,dI (b.1.length:Int)),(22,dB m0)] [.box (dD Ar b)]
theorem Aw8 a b:Xe zG 0 3 (code f153) (pt 28) (Aij a b)=some (Aal a b ((decide ((b.1.length:Int)<1))||(decide ((b.1.length:Int)>400)))):=by
 refine .trans (b:=
 bif decide ((b.1.length:Int)<1)then
 some (Aal a b true)
 else
 some (Aal a b (decide ((b.1.length:Int)>400)))) (by kernel_rfl) ?_
 cases (decide ((b.1.length:Int)<1));rfl;rfl
def RR(a:ALC)(b:ALv):AL8 (Bool×ALx):=
 QF (Aij a b) (
 bif (decide ((b.1.length:Int)<1))||(decide ((b.1.length:Int)>400))then
 some (false,([]:ALx))
 else
 (LB a b (b.1.length:Int)).bind λd1=>(TG a b (b.1.length:Int) (b.1.length:Int) 0 d1.1 d1.2).bind (Sum.elim (λe=>some (false,([]:ALx))) (λg=>if(0:Int)<=(0:Int)/\(0:Int)<=(wI ((b.1.length:Int)-1))/\(wI ((b.1.length:Int)-1))<=(g.1.length:Int)then
 (EK ((g.1.take (wI ((b.1.length:Int)-1)).toNat).drop 0) false).bind λe1=>some (!e1,g.2)
 else none)))
def Ayj:=B6 [.d ALU,.d Ar] [⟨[.Ax [] ALU,.Ax [] Ar],[],Bool×ALx,λp=>RR p.1.1 p.1.2.1,λr=>(.cons (.Am 0) (.cons (dB r.1) .nil),[.row 2 .Ai ALP r.2])⟩]
theorem AbD:Ap prog 153 Ayj:=As (fn:=f153) ⟨⟨zG,pk ⟨Vm,AbT,AbU,AbV,trivial⟩,λ_ R K=>by
 simp only[RR,ALi];simp(disch:=refine id ?_;kernel_rfl) only[F8 (Aw8 ..) (K:=AY zG f153 0 R K),Up (Aw9 ..) (K:=AY zG f153 0 R K),TG,Az (Axc _ _ _ _) (K:=AY zG f153 0 R K)];kernel_rfl⟩,trivial⟩
abbrev E82:=eN [(153,Ayj)] {}
def HF(a:ALC)(b:ALv):AL8 Int:=
 (RR a b).bind λc=>bif !c.1 then
 some (-1)
 else
 if 0<=(wI ((c.2.length:Int)-1))/\(wI ((c.2.length:Int)-1))<c.2.length then
 some (c.2.getD (wI ((c.2.length:Int)-1)).toNat ALP.zero)
 else none
def AxZ:=B6 [.d ALU,.d Ar] [⟨[.Ax [] ALU,.Ax [] Ar],[],Int,λp=>HF p.1.1 p.1.2.1,λr=>(dI r,[])⟩]
theorem Abj:Ap prog 120 AxZ:=As (fn:=f120) ⟨⟨E82,pk ⟨AbD,trivial⟩,λ_ R K=>by
 simp only[HF,ALi];kernel_rfl⟩,trivial⟩
abbrev E83:=eN [(118,tE),(120,AxZ)] {A1:=[(5,[0,5,12,13,14])],Bv:=[(5,[4])],BR:=[(9,[0,7,12,13,14,39])],D2:=[(9,[0,5,7,8,12,13,14])]}
def AuM a b c (z_:Int×Int):=sT 43 [(0,dD ALU a),(5,dI z_.1),(12,dD ALY b),(13,dI c),(14,dI z_.2)] []
def AsF(a:ALC)(b:ALF)(c:Int):=Sum.elim (λ(d:Unit)=>xR 43 [(4,dB false)] []) (λ(e:Unit)=>xE 0 43 [] [])
def AuL a g i b c j k:=sT 43 [(0,dD ALU a),(5,dI g),(7,.ptr 0 0 [] 0),(8,dI i),(12,dD ALY b),(13,dI c),(14,dI j)] [.box (dD Ag k)]
def AsE a (g:Int) (i:Int) b c j k:=λ(l:Bool)=>xN 43 [(0,dD ALU a),(7,.ptr 0 0 [] 0),(12,dD ALY b),(13,dI c),(14,dI j),(39,dB l)] [.box (dD Ag k)]
def GH(a:ALC)(g i:Int)(b:ALF)(c j:Int)(k:ALp):AL8 Bool:=
 bif !(AH k.1 (wI (g+1)) 1000000)then
 some true
 else
 bif decide (i<0)then
 some true
 else
 (HF a k.2.2.2.1).bind λn=>some (i !=n)
theorem Axd a g i b c j k:AP E83 0 9 (cd f137 244) 460 (AuL a g i b c j k) (GH a g i b c j k) (AsE a g i b c j k):=by
 unfold AP;simp only[GH,ALh];kernel_rfl
def HE(a:ALC)(b:ALF)(c g j:Int):AL8 ((Int×Int)⊕(Unit⊕Unit)):=
 bif decide (j<c)then
 if 0<=j/\j<b.length then
 (HF a (b.getD j.toNat Ag.zero).2.2.1).bind λi=>(GH a g i b c j (b.getD j.toNat Ag.zero)).bind λl=>bif l then
 some (.inr (.inl ()))
 else
 some (.inl ((b.getD j.toNat Ag.zero).1,wI (j+1)))
 else none
 else
 some (.inr (.inr ()))
def Db a b c (z_:Int×Int):=HE a b c z_.1 z_.2
def OL a b c g j:=fix (Db a b c) (g,j)
theorem Axe a b c:A0 E83 0 5 (code f137) 122 (AuM a b c) (Db a b c) (AsF a b c):=by
 intro _;simp only[Db,HE,ALh];simp(disch:=refine id ?_;kernel_rfl) only[A8 (Axd ..) (K:=LP E83 0 5)];kernel_rfl
def Kk(a:ALC)(b:ALF):AL8 Bool:=
 bif decide ((b.length:Int)>60)then
 some false
 else
 (OL a b (b.length:Int) 0 0).bind (Sum.elim (λd=>some false) (λe=>some true))
def Ax6:=B6 [.d ALU,.d ALY] [⟨[.Ax [] ALU,.Ax [] ALY],[],Bool,λp=>Kk p.1.1 p.1.2.1,λr=>(dB r,[])⟩]
theorem Abq:Ap prog 137 Ax6:=As (fn:=f137) ⟨⟨E83,pk ⟨Vm,Abj,trivial⟩,λ_ R K=>by
 simp only[Kk,ALi];simp(disch:=refine id ?_;kernel_rfl) only[OL,Az (Axe _ _ _) (K:=AY E83 f137 0 R K)];kernel_rfl⟩,trivial⟩
noncomputable def Ayu:Va.Callee:=Yy 199 ALQ 8
noncomputable abbrev AyW:Gd:={Dm:=Dm,fns:=NH [],fi:={}}
theorem AgK:IL Tryz.prog AyW:=(pk (l:=[]) trivial)
theorem AbO:Ap Tryz.prog 169 Ayu:=
 aG (fn:=Tryz.f169) AgK (by kernel_rfl) (by kernel_rfl) rfl rfl rfl ⟨rfl,rfl,rfl⟩ ⟨rfl,rfl,rfl⟩ (ti:=⟨.sl ALQ,[],199,24,0,0,false⟩) (by kernel_rfl) rfl (by kernel_rfl) (λxs=>by kernel_rfl) (λxs=>by kernel_rfl)
  λxs h=>by
   have h0:ev AyW 0 (sub (code Tryz.f169) [1,1]) (Ex×St) ⟨[.Ax [] ALZ xs,.un 0,.zs,.Ax [] ALZ xs,.bool false,.un 0,.un 0,.un 0],[]⟩ Pj=if xs.length*8<=140737488355328 then some (.ret,⟨[.Ax [] ALZ xs,.un 0,.Am 0,.Ax [] ALZ xs,.bool false,.zs,.Ax [] ALZ xs,.Am 0],[.row 199 .Ai ALQ xs]⟩)else none:=by kernel_rfl
   exact h0.trans (AJg h)
abbrev E84:=eN [(169,Ayu)] {}
def C2(a:ALq):AL8 (Int×ALx):=
 if a.2.1.length*8<=140737488355328 then
 some (a.1,a.2.1)
 else none
def AfP:=B6 [.d Ah] [⟨[.Ax [] Ah],[],Int×ALx,λp=>C2 p.1.1,λr=>(.pr (dI r.1) (.pr (.Am 0) .u),[.row 199 .Ai ALQ r.2])⟩]
theorem eM:Ap prog 146 AfP:=As (fn:=f146) ⟨⟨E84,pk ⟨AbO,trivial⟩,λ_ R K=>by
 simp only[C2,ALi];kernel_rfl⟩,trivial⟩
abbrev E85:=eN [] {}
def AB(a:Int)(b:ALx):(Int×Int×Int×Int×ALx):=(-1,0,a,a,b)
def AoP:=B6 [.UJ] [⟨[.pr (.Ax [] ALP) (.pr (.k (.Am 0)) (.k .u))],[.row 199 .Ai ALQ],Int×Int×Int×Int×ALx,λp=>some (AB p.1.1.1 p.2.1),λr=>(.pr (dI r.1) (.pr (dI r.2.1) (.pr (dI r.2.2.1) (.pr (.pr (dI r.2.2.2.1) (.pr (.Am 0) .u)) .u))),[.row 199 .Ai ALQ r.2.2.2.2])⟩]
theorem pQ:Ap prog 177 AoP:=As (fn:=f177) ⟨⟨E85,pk trivial,λ_ _ _=>by kernel_rfl⟩,trivial⟩
abbrev E86:=eN [] {}
def Dp(a b:ALn):Bool:=((a.1==b.1)&&((a.1==(-1))||((wI (a.2.1+a.2.2.1))==b.2.1)))
theorem U86 R a b K:R4 E86 f192 R [dD Ae a,dD Ae b] [] K=K (dB (Dp a b)) []:=by
 refine .trans (b:=
 bif a.1==b.1 then
 bif a.1==(-1)then
 K (dB true) []
 else
 K (dB ((wI (a.2.1+a.2.2.1))==b.2.1)) []
 else
 K (dB false) []) (by kernel_rfl) ?_
 unfold Dp;cases (a.1==b.1);rfl;cases (a.1==(-1));rfl;rfl
def AyM:=B6 [.d Ae,.d Ae] [⟨[.Ax [] Ae,.Ax [] Ae],[],Bool,λp=>some (Dp p.1.1 p.1.2.1),λr=>(dB r,[])⟩]
theorem Ab6:Ap prog 192 AyM:=As ⟨⟨E86,pk trivial,λ_ _ _=>U86 ..⟩,trivial⟩
abbrev E87:=eN [(157,AoM)] {}
def F7(a:Int):AL8 (Int×ALx):=
 if Ty.row ALQ=true/\(0:Int)<=(Ca a)/\(Ca a)<=(Ca a)/\((8:Nat):Int)*(Ca a)<=(281474976710656:Int)/\(Ca a)<=(9223372036854775807:Int)then
 some (a,List.replicate (Ca a).toNat 0)
 else none
def AfL:=B6 [.d ALP] [⟨[.Ax [] ALP],[],Int×ALx,λp=>F7 p.1.1,λr=>(.pr (dI r.1) (.pr (.Am 0) .u),[.row 199 .Ai ALQ r.2])⟩]
theorem eJ:Ap prog 125 AfL:=As (fn:=f125) ⟨⟨E87,pk ⟨pN,trivial⟩,λ_ R K=>by
 simp only[F7,ALi];kernel_rfl⟩,trivial⟩
abbrev E88:=eN [] {A1:=[(2,[1,3,10,11,12])],Bv:=[(2,{Bb:=[]})],BR:=[(7,[1,3,7,8,10,11,12,44]),(8,[1,3,10,11,12])],D2:=[(7,[1,3,7,8,10,11,12]),(8,[1,3,10,11,12])]}
def AuO a b c d (z_:Int×ALx):=sT 60 [(1,dI a),(3,.ptr 1 0 [] 0),(10,dD ALZ c),(11,dI d),(12,dI z_.1)] [.row 199 .Ai ALQ z_.2,.box (.pr (dI b) (.pr (.Am 0) .u))]
def AsH(a b:Int)(c:ALx)(d:Int):=λ(e:ALx)=>xE 0 60 [] [.row 199 .Ai ALQ e]
def AuN a c d g i b:=sT 60 [(1,dI a),(3,.ptr 1 0 [] 0),(10,dD ALZ c),(11,dI d),(12,dI g)] [.row 199 .Ai ALQ i,.box (.pr (dI b) (.pr (.Am 0) .u))]
def AsG a c d g (i:ALx) b:=λ(j:ALx)=>xN 60 [(1,dI a),(3,.ptr 1 0 [] 0),(10,dD ALZ c),(11,dI d),(12,dI g)] [.row 199 .Ai ALQ j,.box (.pr (dI b) (.pr (.Am 0) .u))]
def Ail a (c:ALx) (g:Int) d (i:ALx) b:=sT 60 [(1,dI a),(3,.ptr 1 0 [] 0),(7,dD ALQ (c.getD g.toNat ALQ.zero)),(8,dI (wI (a+(wI (64*g))))),(10,dD ALZ c),(11,dI d),(12,dI g)] [.row 199 .Ai ALQ (i.set (wI (Int.tdiv (wI (a+(wI (64*g)))) 64)).toNat (de .u64 (i.getD (wI (Int.tdiv (wI (a+(wI (64*g)))) 64)).toNat ALQ.zero) (NL .u64 (c.getD g.toNat ALQ.zero) (Int.tmod (wI (a+(wI (64*g)))) 64)))),.box (.pr (dI b) (.pr (.Am 0) .u))]
def Aam(a:Int)(c:ALx)(g d:Int)(i:ALx)(b:Int)(m0:Bool):Ex×St:=xN 60 [(1,dI a),(3,.ptr 1 0 [] 0),(7,dD ALQ (c.getD g.toNat ALQ.zero)),(8,dI (wI (a+(wI (64*g))))),(10,dD ALZ c),(11,dI d),(12,dI g),(44,dB m0)] [.row 199 .Ai ALQ (i.set (wI (Int.tdiv (wI (a+(wI (64*g)))) 64)).toNat (de .u64 (i.getD (wI (Int.tdiv (wI (a+(wI (64*g)))) 64)).toNat ALQ.zero) (NL .u64 (c.getD g.toNat ALQ.zero) (Int.tmod (wI (a+(wI (64*g)))) 64)))),.box (.pr (dI b) (.pr (.Am 0) .u))]
theorem Axf a c g d i b:Xe E88 1 7 (sb (cd f206 28) 14) (pt 46) (Ail a c g d i b)=some (Aam a c g d i b (((Int.tmod (wI (a+(wI (64*g)))) 64) !=0)&&(decide ((wI ((wI (Int.tdiv (wI (a+(wI (64*g)))) 64))+1))<((i.set (wI (Int.tdiv (wI (a+(wI (64*g)))) 64)).toNat (de .u64 (i.getD (wI (Int.tdiv (wI (a+(wI (64*g)))) 64)).toNat ALQ.zero) (NL .u64 (c.getD g.toNat ALQ.zero) (Int.tmod (wI (a+(wI (64*g)))) 64)))).length:Int))))):=by
 refine .trans (b:=
 bif (Int.tmod (wI (a+(wI (64*g)))) 64) !=0 then
 some (Aam a c g d i b (decide ((wI ((wI (Int.tdiv (wI (a+(wI (64*g)))) 64))+1))<((i.set (wI (Int.tdiv (wI (a+(wI (64*g)))) 64)).toNat (de .u64 (i.getD (wI (Int.tdiv (wI (a+(wI (64*g)))) 64)).toNat ALQ.zero) (NL .u64 (c.getD g.toNat ALQ.zero) (Int.tmod (wI (a+(wI (64*g)))) 64)))).length:Int))))
 else
 some (Aam a c g d i b false)) (by kernel_rfl) ?_
 cases ((Int.tmod (wI (a+(wI (64*g)))) 64) !=0);rfl;rfl
def IV(a:Int)(c:ALx)(d g:Int)(i:ALx)(b:Int):AL8 ALx:=
 if 0<=g/\g<c.length then
 if 0<=(wI (Int.tdiv (wI (a+(wI (64*g)))) 64))/\(wI (Int.tdiv (wI (a+(wI (64*g)))) 64))<i.length then
 if(Int.tmod (wI (a+(wI (64*g)))) 64)<(0:Int)then none else
 if 0<=(wI (Int.tdiv (wI (a+(wI (64*g)))) 64))/\(wI (Int.tdiv (wI (a+(wI (64*g)))) 64))<i.length then
 QF (Ail a c g d i b) (
 bif ((Int.tmod (wI (a+(wI (64*g)))) 64) !=0)&&(decide ((wI ((wI (Int.tdiv (wI (a+(wI (64*g)))) 64))+1))<((i.set (wI (Int.tdiv (wI (a+(wI (64*g)))) 64)).toNat (de .u64 (i.getD (wI (Int.tdiv (wI (a+(wI (64*g)))) 64)).toNat ALQ.zero) (NL .u64 (c.getD g.toNat ALQ.zero) (Int.tmod (wI (a+(wI (64*g)))) 64)))).length:Int)))then
 if 0<=(wI ((wI (Int.tdiv (wI (a+(wI (64*g)))) 64))+1))/\(wI ((wI (Int.tdiv (wI (a+(wI (64*g)))) 64))+1))<(i.set (wI (Int.tdiv (wI (a+(wI (64*g)))) 64)).toNat (de .u64 (i.getD (wI (Int.tdiv (wI (a+(wI (64*g)))) 64)).toNat ALQ.zero) (NL .u64 (c.getD g.toNat ALQ.zero) (Int.tmod (wI (a+(wI (64*g)))) 64)))).length then
 if(wI (64-(Int.tmod (wI (a+(wI (64*g)))) 64)))<(0:Int)then none else
 if 0<=(wI ((wI (Int.tdiv (wI (a+(wI (64*g)))) 64))+1))/\(wI ((wI (Int.tdiv (wI (a+(wI (64*g)))) 64))+1))<(i.set (wI (Int.tdiv (wI (a+(wI (64*g)))) 64)).toNat (de .u64 (i.getD (wI (Int.tdiv (wI (a+(wI (64*g)))) 64)).toNat ALQ.zero) (NL .u64 (c.getD g.toNat ALQ.zero) (Int.tmod (wI (a+(wI (64*g)))) 64)))).length then
 some ((i.set (wI (Int.tdiv (wI (a+(wI (64*g)))) 64)).toNat (de .u64 (i.getD (wI (Int.tdiv (wI (a+(wI (64*g)))) 64)).toNat ALQ.zero) (NL .u64 (c.getD g.toNat ALQ.zero) (Int.tmod (wI (a+(wI (64*g)))) 64)))).set (wI ((wI (Int.tdiv (wI (a+(wI (64*g)))) 64))+1)).toNat (de .u64 ((i.set (wI (Int.tdiv (wI (a+(wI (64*g)))) 64)).toNat (de .u64 (i.getD (wI (Int.tdiv (wI (a+(wI (64*g)))) 64)).toNat ALQ.zero) (NL .u64 (c.getD g.toNat ALQ.zero) (Int.tmod (wI (a+(wI (64*g)))) 64)))).getD (wI ((wI (Int.tdiv (wI (a+(wI (64*g)))) 64))+1)).toNat ALQ.zero) (SD .u64 (c.getD g.toNat ALQ.zero) (wI (64-(Int.tmod (wI (a+(wI (64*g)))) 64))))))
 else none
 else none
 else
 some (i.set (wI (Int.tdiv (wI (a+(wI (64*g)))) 64)).toNat (de .u64 (i.getD (wI (Int.tdiv (wI (a+(wI (64*g)))) 64)).toNat ALQ.zero) (NL .u64 (c.getD g.toNat ALQ.zero) (Int.tmod (wI (a+(wI (64*g)))) 64)))))
 else none
 else none
 else none
theorem Axg a c d g i b:AP E88 1 8 (cd f206 28) 14 (AuN a c d g i b) (IV a c d g i b) (AsG a c d g i b):=by
 unfold AP;simp only[IV,ALh];simp(disch:=refine id ?_;kernel_rfl) only[F8 (Axf ..) (K:=Ta E88 1 8)];kernel_rfl
def Js(a b:Int)(c:ALx)(d g:Int)(i:ALx):AL8 ((Int×ALx)⊕ALx):=
 bif decide (g<d)then
 (IV a c d g i b).bind λj=>some (.inl (wI (g+1),j))
 else
 some (.inr i)
def GA a b c d (z_:Int×ALx):=Js a b c d z_.1 z_.2
def QZ a b c d g i:=fix (GA a b c d) (g,i)
theorem Axh a b c d:A0 E88 1 2 (code f206) 14 (AuO a b c d) (GA a b c d) (AsH a b c d):=by
 intro _;simp only[GA,Js,ALh];simp(disch:=refine id ?_;kernel_rfl) only[A8 (Axg ..) (K:=LP E88 1 2)];kernel_rfl
def Kv(b a:Int)(k:ALq)(l:ALx):AL8 ALx:=
 (QZ a b k.2.1 (k.2.1.length:Int) 0 l).bind λe=>some e
def AyP:=B6 [.UJ,.d ALP,.d Ah] [⟨[.pr (.Ax [] ALP) (.pr (.k (.Am 0)) (.k .u)),.Ax [] ALP,.Ax [] Ah],[.row 199 .Ai ALQ],ALx,λp=>Kv p.1.1.1 p.1.2.1 p.1.2.2.1 p.2.1,λr=>(.nil,[.row 199 .Ai ALQ r])⟩]
theorem Ab9:Ap prog 206 AyP:=As (fn:=f206) ⟨⟨E88,pk trivial,λ_ R K=>by
 simp only[Kv,ALi];simp(disch:=refine id ?_;kernel_rfl) only[QZ,Az (Axh _ _ _ _) (K:=AY E88 f206 1 R K)];kernel_rfl⟩,trivial⟩
abbrev E89:=eN [(125,AfL),(206,AyP)] {}
def Gz(a b:ALq):AL8 (Int×ALx):=
 (F7 (wI (a.1+b.1))).bind λc=>(Kv c.1 0 b c.2).bind λd=>(Kv c.1 b.1 a d).bind λe=>some (c.1,e)
def AyN:=B6 [.d Ah,.d Ah] [⟨[.Ax [] Ah,.Ax [] Ah],[],Int×ALx,λp=>Gz p.1.1 p.1.2.1,λr=>(.pr (dI r.1) (.pr (.Am 0) .u),[.row 199 .Ai ALQ r.2])⟩]
theorem Ab7:Ap prog 193 AyN:=As (fn:=f193) ⟨⟨E89,pk ⟨eJ,Ab9,trivial⟩,λ_ R K=>by
 simp only[Gz,ALi];kernel_rfl⟩,trivial⟩
abbrev E90:=eN [(192,AyM),(193,AyN)] {Ai:=false,A1:=[(2,{Bb:=[0,8,9,10],mv:=[0]})],Bv:=[(2,[0])],BR:=[(6,[0,6,7,8,9,10,27]),(9,[0,6,7,8,9,10]),(10,{Bb:=[0,8,9,10],mv:=[0]})],D2:=[(6,[0,6,7,8,9,10]),(9,[0,6,7,8,9,10]),(10,[0,8,9,10])]}
def AuS a b (z_:Int×ALD):=sT 59 [(0,.Am 1),(8,dD ALS a),(9,dI b),(10,dI z_.1)] [.AK,.row 218 (.sh []) Ae z_.2]
def AsL(a:ALD)(b:Int):=λ(c:ALD)=>xE 0 59 [(0,.Am 1)] [.AK,.row 218 (.sh []) Ae c]
def AuR a b d e:=sT 59 [(0,.Am 1),(8,dD ALS a),(9,dI b),(10,dI d)] [.AK,.row 218 (.sh []) Ae e]
def AsK a b d (e:ALD):=λ(g:ALD)=>xN 59 [(0,.Am 1),(8,dD ALS a),(9,dI b),(10,dI d)] [.AK,.row 218 (.sh []) Ae g]
def AuQ a b d e i j:=sT 59 [(0,.Am 1),(6,.ptr 2 0 [] 0),(7,dI i),(8,dD ALS a),(9,dI b),(10,dI d)] [.AK,.row 218 (.sh []) Ae e,.box (dD Ae j)]
def AsJ a b d (e:ALD) i j:=λ(k:ALD)=>xN 59 [(0,.Am 1),(6,.ptr 2 0 [] 0),(7,dI i),(8,dD ALS a),(9,dI b),(10,dI d)] [.AK,.row 218 (.sh []) Ae k,.box (dD Ae j)]
def Ny(a:ALD)(b d:Int)(e:ALD)(i:Int)(j:ALn):AL8 ALD:=
 bif j.1==(-1)then
 if 0<=i/\i<e.length then
 (Gz j.2.2.2.1 (e.getD i.toNat Ae.zero).2.2.2.1).bind λl=>if 0<=i/\i<e.length then
 some (e.set i.toNat ((e.getD i.toNat Ae.zero).1,(e.getD i.toNat Ae.zero).2.1,(e.getD i.toNat Ae.zero).2.2.1,(l.1,l.2,()),(e.getD i.toNat Ae.zero).2.2.2.2))
 else none
 else none
 else
 some e
theorem Axj a b d e i j:AP E90 1 9 (sb (cd f178 52) 14) 46 (AuQ a b d e i j) (Ny a b d e i j) (AsJ a b d e i j):=by
 unfold AP;simp only[Ny,ALh];kernel_rfl
def AuP a b d e n o:=sT 59 [(0,.Am 1),(6,.ptr 2 0 [] 0),(7,dI n),(8,dD ALS a),(9,dI b),(10,dI d)] [.AK,.row 218 (.sh []) Ae e,.box (dD Ae o)]
def AsI a b d e n o:=λ(q:Bool)=>xN 59 [(0,.Am 1),(6,.ptr 2 0 [] 0),(7,dI n),(8,dD ALS a),(9,dI b),(10,dI d),(27,dB q)] [.AK,.row 218 (.sh []) Ae e,.box (dD Ae o)]
def Nx(a:ALD)(b d:Int)(e:ALD)(n:Int)(o:ALn):AL8 Bool:=
 bif decide (n<0)then
 some true
 else
 if 0<=n/\n<e.length then
 some (!(Dp (e.getD n.toNat Ae.zero) o))
 else none
theorem Axi a b d e n o:AP E90 1 6 (sb (cd f178 52) 14) 44 (AuP a b d e n o) (Nx a b d e n o) (AsI a b d e n o):=by
 unfold AP;simp only[Nx,ALh];kernel_rfl
def Nz(a:ALD)(b d:Int)(e:ALD):AL8 ALD:=
 if 0<=d/\d<a.length then
 (Nx a b d e (wI ((e.length:Int)-1)) (a.getD d.toNat Ae.zero)).bind λq=>bif q then
 if(e.length+([a.getD d.toNat Ae.zero]:ALD).length)*56<=140737488355328 then
 some (e++([a.getD d.toNat Ae.zero]:ALD))
 else none
 else
 (Ny a b d e (wI ((e.length:Int)-1)) (a.getD d.toNat Ae.zero)).bind λk=>if 0<=(wI ((e.length:Int)-1))/\(wI ((e.length:Int)-1))<k.length then
 if 0<=(wI ((e.length:Int)-1))/\(wI ((e.length:Int)-1))<k.length then
 some (k.set (wI ((e.length:Int)-1)).toNat ((k.getD (wI ((e.length:Int)-1)).toNat Ae.zero).1,(k.getD (wI ((e.length:Int)-1)).toNat Ae.zero).2.1,wI ((k.getD (wI ((e.length:Int)-1)).toNat Ae.zero).2.2.1+(a.getD d.toNat Ae.zero).2.2.1),(k.getD (wI ((e.length:Int)-1)).toNat Ae.zero).2.2.2))
 else none
 else none
 else none
theorem Axk a b d e:AP E90 1 10 (cd f178 52) 14 (AuR a b d e) (Nz a b d e) (AsK a b d e):=by
 unfold AP;simp only[Nz,ALh];simp(disch:=refine id ?_;kernel_rfl) only[A8 (Axi ..) (K:=Ta E90 1 10),A8 (Axj ..) (K:=Ta E90 1 10)];kernel_rfl
def N0(a:ALD)(b d:Int)(e:ALD):AL8 ((Int×ALD)⊕ALD):=
 bif decide (d<b)then
 (Nz a b d e).bind λg=>some (.inl (wI (d+1),g))
 else
 some (.inr e)
def Fy a b (z_:Int×ALD):=N0 a b z_.1 z_.2
def UW a b d e:=fix (Fy a b) (d,e)
theorem Axl a b:A0 E90 1 2 (code f178) 26 (AuS a b) (Fy a b) (AsL a b):=by
 intro _;simp only[Fy,N0,ALh];simp(disch:=refine id ?_;kernel_rfl) only[A8 (Axk ..) (K:=LP E90 1 2)];kernel_rfl
def Eb(a s:ALD):AL8 ALD:=
 (UW a (a.length:Int) 0 s).bind λc=>some c
def AoQ:=B6 [.UJ,.d ALS] [⟨[.k (.Am 0),.Ax [] ALS],[.row 218 (.sh []) Ae],ALD,λp=>Eb p.1.2.1 p.2.1,λr=>(.Am 1,[.AK,.row 218 (.sh []) Ae r])⟩]
theorem pR:Ap prog 178 AoQ:=As (fn:=f178) ⟨⟨E90,pk ⟨Ab6,Ab7,trivial⟩,λ_ R K=>by
 simp only[Eb,ALi];simp(disch:=refine id ?_;kernel_rfl) only[UW,Az (Axl _ _) (K:=AY E90 f178 1 R K)];kernel_rfl⟩,trivial⟩
abbrev E91:=eN [] {A1:=[(3,[3,6,7,8])],Bv:=[(3,[3])]}
def AuT a b (z_:Int×Int):=sT 18 [(3,dI z_.1),(6,dD ALS a),(7,dI b),(8,dI z_.2)] []
def AsM(a:ALD)(b:Int):=λ(c:Int)=>xE 0 18 [(3,dI c)] []
def Iv(a:ALD)(b d e:Int):AL8 ((Int×Int)⊕Int):=
 bif decide (e<b)then
 if 0<=e/\e<a.length then
 some (.inl (wI (d+(a.getD e.toNat Ae.zero).2.2.1),wI (e+1)))
 else none
 else
 some (.inr d)
def CP a b (z_:Int×Int):=Iv a b z_.1 z_.2
def PO a b d e:=fix (CP a b) (d,e)
theorem Axm a b:A0 E91 0 3 (code f124) 58 (AuT a b) (CP a b) (AsM a b):=by
 intro _;simp only[CP,Iv,ALh];kernel_rfl
def GG(a:ALD):AL8 Int:=
 (PO a (a.length:Int) 0 0).bind λc=>some c
def AoK:=B6 [.d ALS] [⟨[.Ax [] ALS],[],Int,λp=>GG p.1.1,λr=>(dI r,[])⟩]
theorem pL:Ap prog 124 AoK:=As (fn:=f124) ⟨⟨E91,pk trivial,λ_ R K=>by
 simp only[GG,ALi];simp(disch:=refine id ?_;kernel_rfl) only[PO,Az (Axm _ _) (K:=AY E91 f124 0 R K)];kernel_rfl⟩,trivial⟩
abbrev E92:=eN [(125,AfL)] {A1:=[(3,[1,2,3,6,7,15,16])],Bv:=[(3,[2,6,7])],BR:=[(8,[1,2,3,6,7,8,9,15,16,47]),(9,[1,2,3,6,7,15,16]),(13,[6,7])],D2:=[(8,[1,2,3,6,7,8,9,15,16]),(9,[1,2,3,6,7,15,16]),(13,[2,6,7])]}
def AuW a b c:=sT 85 [(2,dI a),(6,.ptr 0 0 [] 0),(7,.ptr 1 0 [] 0)] [.box (.pr (dI 0) (.pr .zs .u)),.box (.pr (dI c) (.pr (.Am 2) .u)),.row 199 .Ai ALQ b]
def AsP(a:Int)(b:ALx) c:=λ(d:ALx)=>xN 85 [(6,.ptr 0 0 [] 0),(7,.ptr 1 0 [] 0)] [.box (.pr (dI 0) (.pr .zs .u)),.box (.pr (dI c) (.pr (.Am 2) .u)),.row 199 .Ai ALQ d]
def L8(a:Int)(b:ALx)(c:Int):AL8 ALx:=
 bif (Int.tmod a 64) !=0 then
 if 0<=(wI ((b.length:Int)-1))/\(wI ((b.length:Int)-1))<b.length then
 if(Int.tmod a 64)<(0:Int)then none else
 if 0<=(wI ((b.length:Int)-1))/\(wI ((b.length:Int)-1))<b.length then
 some (b.set (wI ((b.length:Int)-1)).toNat (iF .u64 (b.getD (wI ((b.length:Int)-1)).toNat ALQ.zero) (IntKind.u64.wrap ((NL .u64 1 (Int.tmod a 64))-1))))
 else none
 else none
 else
 some b
theorem Axq a b c:AP E92 0 13 (code f186) 30 (AuW a b c) (L8 a b c) (AsP a b c):=by
 unfold AP;simp only[L8,ALh];kernel_rfl
def AuV e a g i j (z_:Int×ALx):=sT 85 [(1,dI e),(2,dI a),(3,.ptr 0 0 [] 0),(6,.ptr 1 0 [] 0),(7,.ptr 2 0 [] 0),(15,dI i),(16,dI z_.1)] [.box (dD Ah g),.box (.pr (dI 0) (.pr .zs .u)),.box (.pr (dI j) (.pr (.Am 3) .u)),.row 199 .Ai ALQ z_.2]
def AsO(e:Int) a (g:ALq) (i:Int) j:=λ(b:ALx)=>xE 0 85 [(2,dI a),(6,.ptr 0 0 [] 0),(7,.ptr 1 0 [] 0)] [.box (.pr (dI 0) (.pr .zs .u)),.box (.pr (dI j) (.pr (.Am 2) .u)),.row 199 .Ai ALQ b]
def AuU e a i k g j l:=sT 85 [(1,dI e),(2,dI a),(3,.ptr 0 0 [] 0),(6,.ptr 1 0 [] 0),(7,.ptr 2 0 [] 0),(15,dI i),(16,dI k)] [.box (dD Ah g),.box (.pr (dI 0) (.pr .zs .u)),.box (.pr (dI j) (.pr (.Am 3) .u)),.row 199 .Ai ALQ l]
def AsN e a i k g j (l:ALx):=λ(n:ALx)=>xN 85 [(1,dI e),(2,dI a),(3,.ptr 0 0 [] 0),(6,.ptr 1 0 [] 0),(7,.ptr 2 0 [] 0),(15,dI i),(16,dI k)] [.box (dD Ah g),.box (.pr (dI 0) (.pr .zs .u)),.box (.pr (dI j) (.pr (.Am 3) .u)),.row 199 .Ai ALQ n]
def Aim e a k i g j (l:ALx):=sT 85 [(1,dI e),(2,dI a),(3,.ptr 0 0 [] 0),(6,.ptr 1 0 [] 0),(7,.ptr 2 0 [] 0),(8,dI k),(9,dI (wI (e+(wI (64*k))))),(15,dI i),(16,dI k)] [.box (dD Ah g),.box (.pr (dI 0) (.pr .zs .u)),.box (.pr (dI j) (.pr (.Am 3) .u)),.row 199 .Ai ALQ (l.set k.toNat (SD .u64 (g.2.1.getD (wI (Int.tdiv (wI (e+(wI (64*k)))) 64)).toNat ALQ.zero) (Int.tmod (wI (e+(wI (64*k)))) 64)))]
def Aan(e a k i:Int)(g:ALq)(j:Int)(l:ALx)(m0:Bool):Ex×St:=xN 85 [(1,dI e),(2,dI a),(3,.ptr 0 0 [] 0),(6,.ptr 1 0 [] 0),(7,.ptr 2 0 [] 0),(8,dI k),(9,dI (wI (e+(wI (64*k))))),(15,dI i),(16,dI k),(47,dB m0)] [.box (dD Ah g),.box (.pr (dI 0) (.pr .zs .u)),.box (.pr (dI j) (.pr (.Am 3) .u)),.row 199 .Ai ALQ (l.set k.toNat (SD .u64 (g.2.1.getD (wI (Int.tdiv (wI (e+(wI (64*k)))) 64)).toNat ALQ.zero) (Int.tmod (wI (e+(wI (64*k)))) 64)))]
theorem Axn e a k i g j l:Xe E92 0 8 (sb (cd f186 116) 14) (pt 46) (Aim e a k i g j l)=some (Aan e a k i g j l (((Int.tmod (wI (e+(wI (64*k)))) 64) !=0)&&(decide ((wI ((wI (Int.tdiv (wI (e+(wI (64*k)))) 64))+1))<(g.2.1.length:Int))))):=by
 refine .trans (b:=
 bif (Int.tmod (wI (e+(wI (64*k)))) 64) !=0 then
 some (Aan e a k i g j l (decide ((wI ((wI (Int.tdiv (wI (e+(wI (64*k)))) 64))+1))<(g.2.1.length:Int))))
 else
 some (Aan e a k i g j l false)) (by kernel_rfl) ?_
 cases ((Int.tmod (wI (e+(wI (64*k)))) 64) !=0);rfl;rfl
def IU(e a i k:Int)(g:ALq)(j:Int)(l:ALx):AL8 ALx:=
 if 0<=(wI (Int.tdiv (wI (e+(wI (64*k)))) 64))/\(wI (Int.tdiv (wI (e+(wI (64*k)))) 64))<g.2.1.length then
 if(Int.tmod (wI (e+(wI (64*k)))) 64)<(0:Int)then none else
 if 0<=k/\k<l.length then
 QF (Aim e a k i g j l) (
 bif ((Int.tmod (wI (e+(wI (64*k)))) 64) !=0)&&(decide ((wI ((wI (Int.tdiv (wI (e+(wI (64*k)))) 64))+1))<(g.2.1.length:Int)))then
 if 0<=k/\k<(l.set k.toNat (SD .u64 (g.2.1.getD (wI (Int.tdiv (wI (e+(wI (64*k)))) 64)).toNat ALQ.zero) (Int.tmod (wI (e+(wI (64*k)))) 64))).length then
 if 0<=(wI ((wI (Int.tdiv (wI (e+(wI (64*k)))) 64))+1))/\(wI ((wI (Int.tdiv (wI (e+(wI (64*k)))) 64))+1))<g.2.1.length then
 if(wI (64-(Int.tmod (wI (e+(wI (64*k)))) 64)))<(0:Int)then none else
 if 0<=k/\k<(l.set k.toNat (SD .u64 (g.2.1.getD (wI (Int.tdiv (wI (e+(wI (64*k)))) 64)).toNat ALQ.zero) (Int.tmod (wI (e+(wI (64*k)))) 64))).length then
 some ((l.set k.toNat (SD .u64 (g.2.1.getD (wI (Int.tdiv (wI (e+(wI (64*k)))) 64)).toNat ALQ.zero) (Int.tmod (wI (e+(wI (64*k)))) 64))).set k.toNat (de .u64 ((l.set k.toNat (SD .u64 (g.2.1.getD (wI (Int.tdiv (wI (e+(wI (64*k)))) 64)).toNat ALQ.zero) (Int.tmod (wI (e+(wI (64*k)))) 64))).getD k.toNat ALQ.zero) (NL .u64 (g.2.1.getD (wI ((wI (Int.tdiv (wI (e+(wI (64*k)))) 64))+1)).toNat ALQ.zero) (wI (64-(Int.tmod (wI (e+(wI (64*k)))) 64))))))
 else none
 else none
 else none
 else
 some (l.set k.toNat (SD .u64 (g.2.1.getD (wI (Int.tdiv (wI (e+(wI (64*k)))) 64)).toNat ALQ.zero) (Int.tmod (wI (e+(wI (64*k)))) 64))))
 else none
 else none
theorem Axo e a i k g j l:AP E92 0 9 (cd f186 116) 14 (AuU e a i k g j l) (IU e a i k g j l) (AsN e a i k g j l):=by
 unfold AP;simp only[IU,ALh];simp(disch:=refine id ?_;kernel_rfl) only[F8 (Axn ..) (K:=Ta E92 0 9)];kernel_rfl
def Jr(e a:Int)(g:ALq)(i j k:Int)(l:ALx):AL8 ((Int×ALx)⊕ALx):=
 bif decide (k<i)then
 (IU e a i k g j l).bind λn=>some (.inl (wI (k+1),n))
 else
 some (.inr l)
def Gy e a g i j (z_:Int×ALx):=Jr e a g i j z_.1 z_.2
def L6 e a g i j k l:=fix (Gy e a g i j) (k,l)
theorem Axp e a g i j:A0 E92 0 3 (code f186) 58 (AuV e a g i j) (Gy e a g i j) (AsO e a g i j):=by
 intro _;simp only[Gy,Jr,ALh];simp(disch:=refine id ?_;kernel_rfl) only[A8 (Axo ..) (K:=LP E92 0 3)];kernel_rfl
def En(g:ALq)(e a:Int):AL8 (Int×ALx):=
 (F7 a).bind λo=>(L6 e a g (o.2.length:Int) o.1 0 o.2).bind λb=>(L8 a b o.1).bind λd=>some (o.1,d)
def AoR:=B6 [.d Ah,.d ALP,.d ALP] [⟨[.Ax [] Ah,.Ax [] ALP,.Ax [] ALP],[],Int×ALx,λp=>En p.1.1 p.1.2.1 p.1.2.2.1,λr=>(.pr (dI r.1) (.pr (.Am 0) .u),[.row 199 .Ai ALQ r.2])⟩]
theorem pS:Ap prog 186 AoR:=As (fn:=f186) ⟨⟨E92,pk ⟨eJ,trivial⟩,λ_ R K=>by
 simp only[En,ALi];simp(disch:=refine id ?_;kernel_rfl) only[L6,Az (Axp _ _ _ _ _) (K:=AY E92 f186 0 R K),A8 (Axq ..) (K:=AY E92 f186 0 R K)];kernel_rfl⟩,trivial⟩
abbrev E93:=eN [(177,AoP),(186,AoR)] {dM:=[(0,.row [3,1] 199 ALQ true)]}
def Nv(a:ALn)(b c:Int):AL8 (Int×Int×Int×Int×ALx):=
 bif a.1==(-1)then
 (En a.2.2.2.1 b c).bind λd=>some ((AB d.1 d.2).1,(AB d.1 d.2).2.1,(AB d.1 d.2).2.2.1,(AB d.1 d.2).2.2.2.1,(AB d.1 d.2).2.2.2.2)
 else
 some (a.1,wI (a.2.1+b),c,0,([]:ALx))
def AyO:=B6 [.d Ae,.d ALP,.d ALP] [⟨[.Ax [] Ae,.Ax [] ALP,.Ax [] ALP],[],Int×Int×Int×Int×ALx,λp=>Nv p.1.1 p.1.2.1 p.1.2.2.1,λr=>(.pr (dI r.1) (.pr (dI r.2.1) (.pr (dI r.2.2.1) (.pr (.pr (dI r.2.2.2.1) (.pr (.Am 0) .u)) .u))),[.row 199 .Ai ALQ r.2.2.2.2])⟩]
theorem Ab8:Ap prog 194 AyO:=As (fn:=f194) ⟨⟨E93,pk ⟨pQ,pS,trivial⟩,λ_ R K=>by
 simp only[Nv,ALi];kernel_rfl⟩,trivial⟩
abbrev E94:=eN [(178,AoQ),(194,AyO)] {A1:=[(4,{Bb:=[1,2,7,8,14,15,16],Ck:=[(7,false,.row [] 218 Ae false)]})],Bv:=[(4,[7])],BR:=[(9,{Bb:=[1,2,7,8,10,14,15,16],Ck:=[(7,false,.row [] 218 Ae false)]})],D2:=[(9,[1,2,7,8,10,11,12,14,15,16])],tX:=[(43,ALS)]}
def AuY a b c d (z_:Int×Int×ALD):=sT 51 [(1,dI a),(2,dI b),(7,.Am 0),(8,dI z_.1),(14,dD ALS c),(15,dI d),(16,dI z_.2.1)] [.row 218 (.sh []) Ae z_.2.2]
def AsR(a b:Int)(c:ALD)(d:Int):=λ(e:ALD)=>xE 0 51 [(7,.Am 0)] [.row 218 (.sh []) Ae e]
def AuX a b g c d i j k l n:=sT 51 [(1,dI a),(2,dI b),(7,.Am 0),(8,dI g),(10,.ptr 1 0 [] 0),(11,dI k),(12,dI l),(14,dD ALS c),(15,dI d),(16,dI i)] [.row 218 (.sh []) Ae j,.box (dD Ae n)]
def AsQ a b g c d i (j:ALD) (k:Int) (l:Int) n:=λ(o:ALD)=>xN 51 [(1,dI a),(2,dI b),(7,.Am 0),(8,dI g),(10,.ptr 1 0 [] 0),(14,dD ALS c),(15,dI d),(16,dI i)] [.row 218 (.sh []) Ae o,.box (dD Ae n)]
def Mc(a b g:Int)(c:ALD)(d i:Int)(j:ALD)(k l:Int)(n:ALn):AL8 ALD:=
 bif decide (k<l)then
 (Nv n (wI (k-g)) (wI (l-k))).bind λq=>(Eb ([(q.1,q.2.1,q.2.2.1,(q.2.2.2.1,q.2.2.2.2,()),())]:ALD) j).bind λs=>some s
 else
 some j
theorem Axr a b g c d i j k l n:AP E94 0 9 (cd f179 244) 230 (AuX a b g c d i j k l n) (Mc a b g c d i j k l n) (AsQ a b g c d i j k l n):=by
 unfold AP;simp only[Mc,ALh];kernel_rfl
def Jv(a b:Int)(c:ALD)(d g i:Int)(j:ALD):AL8 ((Int×Int×ALD)⊕ALD):=
 bif decide (i<d)then
 if 0<=i/\i<c.length then
 (Mc a b g c d i j (if g>a then g else a) (if(wI (g+(c.getD i.toNat Ae.zero).2.2.1))<(wI (a+b))then(wI (g+(c.getD i.toNat Ae.zero).2.2.1))else(wI (a+b))) (c.getD i.toNat Ae.zero)).bind λo=>some (.inl (wI (g+(c.getD i.toNat Ae.zero).2.2.1),wI (i+1),o))
 else none
 else
 some (.inr j)
def D7 a b c d (z_:Int×Int×ALD):=Jv a b c d z_.1 z_.2.1 z_.2.2
def Q0 a b c d g i j:=fix (D7 a b c d) (g,i,j)
theorem Axs a b c d:A0 E94 0 4 (code f179) 122 (AuY a b c d) (D7 a b c d) (AsR a b c d):=by
 intro _;simp only[D7,Jv,ALh];simp(disch:=refine id ?_;kernel_rfl) only[A8 (Axr ..) (K:=LP E94 0 4)];kernel_rfl
def Eo(c:ALD)(a b:Int):AL8 ALD:=
 (Q0 a b c (c.length:Int) 0 0 ([]:ALD)).bind λe=>some e
def AyC:=B6 [.d ALS,.d ALP,.d ALP] [⟨[.Ax [] ALS,.Ax [] ALP,.Ax [] ALP],[],ALD,λp=>Eo p.1.1 p.1.2.1 p.1.2.2.1,λr=>(.Am 0,[.row 218 (.sh []) Ae r])⟩]
theorem AbW:Ap prog 179 AyC:=As (fn:=f179) ⟨⟨E94,pk ⟨pR,Ab8,trivial⟩,λ_ R K=>by
 simp only[Eo,ALi];simp(disch:=refine id ?_;kernel_rfl) only[Q0,Az (Axs _ _ _ _) (K:=AY E94 f179 0 R K)];kernel_rfl⟩,trivial⟩
noncomputable def AyD:Va.Callee:=Yy 218 Ae 56
noncomputable abbrev AyX:Gd:={Dm:=Dm,fns:=NH [],fi:={}}
theorem AgL:IL Tryz.prog AyX:=(pk (l:=[]) trivial)
theorem AbX:Ap Tryz.prog 180 AyD:=
 aG (fn:=Tryz.f180) AgL (by kernel_rfl) (by kernel_rfl) rfl rfl rfl ⟨rfl,rfl,rfl⟩ ⟨rfl,rfl,rfl⟩ (ti:=⟨.sl Ae,[],218,24,0,0,false⟩) (by kernel_rfl) rfl (by kernel_rfl) (λxs=>by kernel_rfl) (λxs=>by kernel_rfl)
  λxs h=>by
   have h0:ev AyX 0 (sub (code Tryz.f180) [1,1]) (Ex×St) ⟨[.Ax [] ALS xs,.un 0,.zs,.Ax [] ALS xs,.bool false,.un 0,.un 0,.un 0],[]⟩ Pj=if xs.length*56<=140737488355328 then some (.ret,⟨[.Ax [] ALS xs,.un 0,.Am 0,.Ax [] ALS xs,.bool false,.zs,.Ax [] ALS xs,.Am 0],[.row 218 (.sh []) Ae xs]⟩)else none:=by kernel_rfl
   exact h0.trans (AJg h)
abbrev sQ:=eN [(124,AoK),(125,AfL),(146,AfP),(177,AoP),(178,AoQ),(179,AyC),(180,AyD)] {Ai:=false,A1:=[(9,{Bb:=[2,7,8],Ck:=[(7,false,.row [] 218 Ae false)]}),(27,{Bb:=[9,12,125,126],Ck:=[(12,false,.row [] 218 Ae false)]}),(36,{Bb:=[13,14,151,152],Sj:=[(14,true,Ae)]})],Bv:=[(9,[7]),(27,[12]),(36,[13])],BR:=[(20,[0,9,10,69,88]),(23,[9,10,11]),(35,[0,13,14])],D2:=[(20,[0,9,10,69]),(23,[0,9,10,11]),(35,[0,9,10,13,14])],tX:=[(117,ALS),(156,ALS)]}
def Au4 a b (z_:Int×ALD):=sT 160 [(13,.Am 0),(14,.ptr 1 0 [] 0),(151,dI a),(152,dI z_.1)] [.row 218 (.sh []) Ae z_.2,.box (dD Ae b)]
def AsX(a:Int)(b:ALn):=λ(c:ALD)=>xE 6 160 [(13,.Am 0)] [.row 218 (.sh []) Ae c]
def O9(a:Int)(b:ALn)(d:Int)(e:ALD):AL8 ((Int×ALD)⊕ALD):=
 bif decide (d<a)then
 (Eb ([b]:ALD) e).bind λg=>some (.inl (wI (d+1),g))
 else
 some (.inr e)
def EV a b (z_:Int×ALD):=O9 a b z_.1 z_.2
def KF a b d e:=fix (EV a b) (d,e)
theorem Axz a b:A0 sQ 0 36 (code f154) 4090 (Au4 a b) (EV a b) (AsX a b):=by
 intro _;simp only[EV,O9,ALh];kernel_rfl
def Au3 i j (z_:Int×ALD):=sT 160 [(13,.Am 0),(14,.ptr 1 0 [] 0),(151,dI j),(152,dI z_.1)] [.row 218 (.sh []) Ae z_.2,.box (dD Ae i)]
def AsW(i:ALn)(j:Int):=λ(k:ALD)=>xE 6 160 [(13,.Am 0)] [.row 218 (.sh []) Ae k]
def O8(i:ALn)(j l:Int)(n:ALD):AL8 ((Int×ALD)⊕ALD):=
 bif decide (l<j)then
 (Eb ([i]:ALD) n).bind λo=>some (.inl (wI (l+1),o))
 else
 some (.inr n)
def EU i j (z_:Int×ALD):=O8 i j z_.1 z_.2
def KE i j l n:=fix (EU i j) (l,n)
theorem Axy i j:A0 sQ 0 36 (code f154) 4090 (Au3 i j) (EU i j) (AsW i j):=by
 intro _;simp only[EU,O8,ALh];kernel_rfl
def Au2 q s t u v w x y a1:=sT 160 [(0,.EJ [] Af q),(9,dD ALS t),(10,dI s),(13,.Am 0),(14,.ptr 1 0 [] 0)] [.row 218 (.sh []) Ae u,.box (.pr (dI v) (.pr (dI w) (.pr (dI x) (.pr (.pr (dI y) (.pr (.Am 2) .u)) .u)))),.row 199 .Ai ALQ a1]
def AsV q (s:Int) (t:ALD) u v w x y a1:=Sum.elim (λ(i:ALn)=>xN 160 [(0,.EJ [] Af q),(13,.Am 0),(14,.ptr 1 0 [] 0)] [.row 218 (.sh []) Ae u,.box (dD Ae i)]) (λ(b1:Unit)=>xN 160 [(0,.EJ [] Af q),(13,.Am 0),(14,.ptr 1 0 [] 0)] [.row 218 (.sh []) Ae u,.box (.pr (dI v) (.pr (dI w) (.pr (dI x) (.pr (.pr (dI y) (.pr (.Am 2) .u)) .u)))),.row 199 .Ai ALQ a1])
def Cg(q:ALo)(s:Int)(t u:ALD)(v w x y:Int)(a1:ALx):AL8 (ALn⊕Unit):=
 bif q.1==6 then
 (Eo t (wI (s-1)) 1).bind λc1=>if(0:Int)<=(0:Int)/\(0:Int)<(c1.length:Int)then
 some (.inl (c1.getD 0 Ae.zero))
 else none
 else
 some (.inr ())
theorem Axx q s t u v w x y a1:AP sQ 0 35 (code f154) 510 (Au2 q s t u v w x y a1) (Cg q s t u v w x y a1) (AsV q s t u v w x y a1):=by
 unfold AP;simp only[Cg,ALh];kernel_rfl
def Au1 d1 e1 (z_:Int×ALD):=sT 160 [(9,dD ALS d1),(12,.Am 0),(125,dI e1),(126,dI z_.1)] [.row 218 (.sh []) Ae z_.2]
def AsU(d1:ALD)(e1:Int):=λ(g1:ALD)=>xE 4 160 [(12,.Am 0)] [.row 218 (.sh []) Ae g1]
def ET(d1:ALD)(e1 i1:Int)(j1:ALD):AL8 ((Int×ALD)⊕ALD):=
 bif decide (i1<e1)then
 (Eb d1 j1).bind λk1=>some (.inl (wI (i1+1),k1))
 else
 some (.inr j1)
def Cp d1 e1 (z_:Int×ALD):=ET d1 e1 z_.1 z_.2
def GY d1 e1 i1 j1:=fix (Cp d1 e1) (i1,j1)
theorem Axw d1 e1:A0 sQ 0 27 (code f154) 257002 (Au1 d1 e1) (Cp d1 e1) (AsU d1 e1):=by
 intro _;simp only[Cp,ET,ALh];kernel_rfl
def Au0 q s l1 n1:=sT 160 [(0,.EJ [] Af q),(9,dD ALS l1),(10,dI s),(11,dI n1)] []
def AsT(q:ALo) s l1 (n1:Int):=λ(o1:Int)=>xN 160 [(9,dD ALS l1),(10,dI s),(11,dI o1)] []
def D3(q:ALo)(s:Int)(l1:ALD)(n1:Int):AL8 Int:=
 bif q.1==8 then
 if s=(0:Int)then none else
 some (Int.tmod (wI (s-n1)) s)
 else
 some n1
theorem Axv q s l1 n1:AP sQ 0 23 (code f154) 16058 (Au0 q s l1 n1) (D3 q s l1 n1) (AsT q s l1 n1):=by
 unfold AP;simp only[D3,ALh];kernel_rfl
def Ain q (q1:ALO) s:=sT 160 [(0,.EJ [] Af q),(9,dD ALS (q1.getD 0 ALS.zero)),(10,dI s),(69,dI q.1)] []
def Aao(q:ALo)(q1:ALO)(s:Int)(m0:Bool):Ex×St:=xN 160 [(0,.EJ [] Af q),(9,dD ALS (q1.getD 0 ALS.zero)),(10,dI s),(69,dI q.1),(88,dB m0)] []
theorem Axu q q1 s:Xe sQ 0 20 (code f154) (pt 2006) (Ain q q1 s)=some (Aao q q1 s (bif q.1==7 then(q.1==7)else(q.1==8))):=by
 refine .trans (b:=
 bif q.1==7 then
 some (Aao q q1 s (q.1==7))
 else
 some (Aao q q1 s (q.1==8))) (by kernel_rfl) ?_
 cases (q.1==7);rfl;rfl
def AuZ q1 (z_:Int×ALD):=sT 160 [(2,dD AL5 q1),(7,.Am 0),(8,dI z_.1)] [.row 218 (.sh []) Ae z_.2]
def AsS(q1:ALO):=λ(s1:ALD)=>xE 1 160 [(7,.Am 0)] [.row 218 (.sh []) Ae s1]
def ES(q1:ALO)(t1:Int)(u1:ALD):AL8 ((Int×ALD)⊕ALD):=
 bif decide (t1>=0)then
 if 0<=t1/\t1<q1.length then
 (Eb (q1.getD t1.toNat ALS.zero) u1).bind λv1=>some (.inl (wI (t1-1),v1))
 else none
 else
 some (.inr u1)
def BZ q1 (z_:Int×ALD):=ES q1 z_.1 z_.2
def GX q1 t1 u1:=fix (BZ q1) (t1,u1)
theorem Axt q1:A0 sQ 0 9 (code f154) 27626 (AuZ q1) (BZ q1) (AsS q1):=by
 intro _;simp only[BZ,ES,ALh];kernel_rfl
def GC(q:ALo)(w1:ALC)(q1:ALO):AL8 ALD:=
 bif q.1==1 then
 if(0:Int)<=q.2.1/\q.2.1<(w1.length:Int)then
 some ([(q.2.1,0,(w1.getD q.2.1.toNat Ad.zero).2.1,(0,([]:ALx),()),())]:ALD)
 else none
 else
 bif q.1==2 then
 (C2 q.2.2.2.2.1).bind λx1=>some ([((AB x1.1 x1.2).1,(AB x1.1 x1.2).2.1,(AB x1.1 x1.2).2.2.1,((AB x1.1 x1.2).2.2.2.1,(AB x1.1 x1.2).2.2.2.2,()),())]:ALD)
 else
 bif q.1==3 then
 (GX q1 (wI ((q1.length:Int)-1)) ([]:ALD)).bind λs1=>some s1
 else
 if(0:Int)<=(0:Int)/\(0:Int)<(q1.length:Int)then
 (GG (q1.getD 0 ALS.zero)).bind λs=>bif q.1==4 then
 (Eo (q1.getD 0 ALS.zero) q.2.2.2.1 (wI ((wI (q.2.2.1-q.2.2.2.1))+1))).bind λy1=>some y1
 else
 QF (Ain q q1 s) (
 bif bif (q.1==7)then(q.1==7)else(q.1==8)then
 if s=(0:Int)then none else
 (D3 q s (q1.getD 0 ALS.zero) (Int.tmod q.2.2.1 s)).bind λo1=>(Eo (q1.getD 0 ALS.zero) (wI (s-o1)) o1).bind λa2=>(Eo (q1.getD 0 ALS.zero) 0 (wI (s-o1))).bind λb2=>(Eb b2 a2).bind λc2=>some c2
 else
 bif q.1==9 then
 (GY (q1.getD 0 ALS.zero) q.2.2.1 0 ([]:ALD)).bind λg1=>some g1
 else
 if(q1.getD 0 ALS.zero).length*56<=140737488355328 then
 (F7 1).bind λd2=>(Cg q s (q1.getD 0 ALS.zero) (q1.getD 0 ALS.zero) (AB d2.1 d2.2).1 (AB d2.1 d2.2).2.1 (AB d2.1 d2.2).2.2.1 (AB d2.1 d2.2).2.2.2.1 (AB d2.1 d2.2).2.2.2.2).bind (Sum.elim (λi=>(KE i q.2.2.1 0 (q1.getD 0 ALS.zero)).bind λk=>some k) (λb1=>(KF q.2.2.1 ((AB d2.1 d2.2).1,(AB d2.1 d2.2).2.1,(AB d2.1 d2.2).2.2.1,((AB d2.1 d2.2).2.2.2.1,(AB d2.1 d2.2).2.2.2.2,()),()) 0 (q1.getD 0 ALS.zero)).bind λc=>some c))
 else none)
 else none
def Ayk:=B6 [.p Af,.d ALU,.d AL5] [⟨[.EJ [] Af,.Ax [] ALU,.Ax [] AL5],[],ALD,λp=>GC p.1.1 p.1.2.1 p.1.2.2.1,λr=>(.Am 0,[.row 218 (.sh []) Ae r])⟩]
theorem AbE:Ap prog 154 Ayk:=As (fn:=f154) ⟨⟨sQ,pk ⟨pL,eJ,eM,pQ,pR,AbW,AbX,trivial⟩,λ_ R K=>by
 simp only[GC,ALi];simp(disch:=refine id ?_;kernel_rfl) only[GX,Az (Axt _) (K:=AY sQ f154 0 R K),F8 (Axu ..) (K:=AY sQ f154 0 R K),A8 (Axv ..) (K:=AY sQ f154 0 R K),GY,Az (Axw _ _) (K:=AY sQ f154 0 R K),A8 (Axx ..) (K:=AY sQ f154 0 R K),KE,Az (Axy _ _) (K:=AY sQ f154 0 R K),KF,Az (Axz _ _) (K:=AY sQ f154 0 R K)];kernel_rfl⟩,trivial⟩
end
end Go.Proofs.X
