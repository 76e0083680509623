import Derived.KernelRfl
import Derived.Test.YtniphlhooggimaaGreatK4
set_option linter.unusedVariables false
set_option linter.unusedSimpArgs false
namespace Go.Proofs.X
open Go Go.Va Go.Proofs.Tryz
set_option maxRecDepth 100000
noncomputable section
abbrev qc:=eN [(65,c65),(153,AEP)] {A4:=[(11,[8,80,81,82])],BD:=[(11,[8])],BR:=[(4,[0,1,2,7]),(5,[0,1,2,7,17]),(7,[0,2,7,46]),(9,[0,2,7,69]),(19,[0,7,95]),(21,[0,7,137]),(23,[0,7,163]),(25,[0,7,184])],DR:=[(4,[0,1,2,7]),(5,[0,1,2,7]),(7,[0,2,7]),(9,[0,2,7]),(19,[0,7]),(21,[0,7]),(23,[0,7]),(25,[0,7])]}
def Ann a b:=sT 203 (AbY a b) []
def AeH(a:ASj)(b:Int)(m0:Bool):Ex×St:=xN 203 [(0,.Fw [] Ag a),(7,dI b),(184,dB m0)] []
theorem ADz a b:Za qc 0 25 (code f128) (pt 1998846) (Ann a b)=some (AeH a b ((a.1==9)&&(AQ a.2.2.1 1 4096))):=by
 refine .trans (b:=
 bif a.1==9 then
 some (AeH a b (AQ a.2.2.1 1 4096))
 else
 some (AeH a b false)) (by kernel_rfl) ?_
 cases (a.1==9);rfl;rfl
def Anm a b:=sT 203 (AbY a b) []
def Aag(a:ASj)(b:Int)(m0:Bool):Ex×St:=xN 203 [(0,.Fw [] Ag a),(7,dI b),(163,dB m0)] []
theorem ADy a b:Za qc 0 23 (code f128) (pt 499710) (Anm a b)=some (Aag a b (bif a.1==7 then(AQ a.2.2.1 0 4096)else((a.1==8)&&(AQ a.2.2.1 0 4096)))):=by
 refine .trans (b:=
 bif a.1==7 then
 some (Aag a b (AQ a.2.2.1 0 4096))
 else
 bif a.1==8 then
 some (Aag a b (AQ a.2.2.1 0 4096))
 else
 some (Aag a b false)) (by kernel_rfl) ?_
 cases (a.1==7);cases (a.1==8);rfl;rfl;rfl
def Anl a b:=sT 203 (AbY a b) []
def Aaf(a:ASj)(b:Int)(m0:Bool):Ex×St:=xN 203 [(0,.Fw [] Ag a),(7,dI b),(137,dB m0)] []
theorem ADx a b:Za qc 0 21 (code f128) (pt 124926) (Anl a b)=some (Aaf a b (bif a.1==5 then(AQ a.2.2.1 0 4096)else((a.1==6)&&(AQ a.2.2.1 0 4096)))):=by
 refine .trans (b:=
 bif a.1==5 then
 some (Aaf a b (AQ a.2.2.1 0 4096))
 else
 bif a.1==6 then
 some (Aaf a b (AQ a.2.2.1 0 4096))
 else
 some (Aaf a b false)) (by kernel_rfl) ?_
 cases (a.1==5);cases (a.1==6);rfl;rfl;rfl
def Ank a b:=sT 203 (AbY a b) []
def tK(a:ASj)(b:Int)(m0:Bool):Ex×St:=xN 203 [(0,.Fw [] Ag a),(7,dI b),(95,dB m0)] []
theorem ADw a b:Za qc 0 19 (code f128) (pt 31230) (Ank a b)=some (tK a b ((a.1==4)&&((decide (a.2.2.2.1>=0))&&((decide (a.2.2.2.1<=a.2.2.1))&&(decide (a.2.2.1<b)))))):=by
 refine .trans (b:=
 bif a.1==4 then
 bif decide (a.2.2.2.1>=0)then
 bif decide (a.2.2.2.1<=a.2.2.1)then
 some (tK a b (decide (a.2.2.1<b)))
 else
 some (tK a b false)
 else
 some (tK a b false)
 else
 some (tK a b false)) (by kernel_rfl) ?_
 cases (a.1==4);rfl;cases (decide (a.2.2.2.1>=0));rfl;cases (decide (a.2.2.2.1<=a.2.2.1));rfl;rfl
def AA7 c d (z_:Int×Int):=sT 203 [(8,dI z_.1),(80,DT c),(81,dI d),(82,dI z_.2)] []
def Ay0(c:ASs)(d:Int):=λ(e:Int)=>xE 1 203 [(8,dI e)] []
def HI(c:ASs)(d g i:Int):ATC (ASR⊕Int):=
 bif decide (i<d)then
 if 0<=i/\i<c.length then
 some (.inl (wI (g+(c.getD i.toNat ATl.zero)),wI (i+1)))
 else none
 else
 some (.inr g)
def Cu c d (z_:Int×Int):=HI c d z_.1 z_.2
def OC c d g i:=fix (Cu c d) (g,i)
theorem ADv c d:A3 qc 0 11 (code f128) 62442 (AA7 c d) (Cu c d) (Ay0 c d):=by
 intro _;simp only[Cu,HI,ASb];kernel_rfl
def Anj a c b:=sT 203 [(0,.Fw [] Ag a),(2,DT c),(7,dI b)] []
def AeG(a:ASj)(c:ASs)(b:Int)(m0:Bool):Ex×St:=xN 203 [(0,.Fw [] Ag a),(2,DT c),(7,dI b),(69,dB m0)] []
theorem ADu a c b:Za qc 0 9 (code f128) (pt 1950) (Anj a c b)=some (AeG a c b ((a.1==3)&&(decide ((c.length:Int)>1)))):=by
 refine .trans (b:=
 bif a.1==3 then
 some (AeG a c b (decide ((c.length:Int)>1)))
 else
 some (AeG a c b false)) (by kernel_rfl) ?_
 cases (a.1==3);rfl;rfl
def AA6 a c b:=sT 203 [(0,.Fw [] Ag a),(2,DT c),(7,dI b)] []
def AyZ a c b:=λ(j:Bool)=>xN 203 [(0,.Fw [] Ag a),(2,DT c),(7,dI b),(46,dB j)] []
def Gg(a:ASj)(c:ASs)(b:Int):ATC Bool:=
 bif a.1==2 then
 bif (c.length:Int)==0 then
 (Qy a.2.2.2.2.1).bind λk=>some k
 else
 some false
 else
 some false
theorem ADt a c b:AP qc 0 7 (code f128) 486 (AA6 a c b) (Gg a c b) (AyZ a c b):=by
 unfold AP;simp only[Gg,ASb];kernel_rfl
def Ani a l c b:=sT 203 [(0,.Fw [] Ag a),(1,Ar l),(2,DT c),(7,dI b)] []
def Aae(a:ASj)(l:ASw)(c:ASs)(b:Int)(m0:Bool):Ex×St:=xN 203 [(0,.Fw [] Ag a),(1,Ar l),(2,DT c),(7,dI b),(17,dB m0)] []
theorem ADs a l c b:Za qc 0 5 (code f128) (pt 120) (Ani a l c b)=some (Aae a l c b ((a.1==1)&&(((c.length:Int)==0)&&(AQ a.2.1 0 (wI ((l.length:Int)-1)))))):=by
 refine .trans (b:=
 bif a.1==1 then
 bif (c.length:Int)==0 then
 some (Aae a l c b (AQ a.2.1 0 (wI ((l.length:Int)-1))))
 else
 some (Aae a l c b false)
 else
 some (Aae a l c b false)) (by kernel_rfl) ?_
 cases (a.1==1);rfl;cases ((c.length:Int)==0);rfl;rfl
def AA5 a l c:=sT 203 [(0,.Fw [] Ag a),(1,Ar l),(2,DT c),(7,dI 0)] []
def AyY a l c:=λ(b:Int)=>xN 203 [(0,.Fw [] Ag a),(1,Ar l),(2,DT c),(7,dI b)] []
def Gf(a:ASj)(l:ASw)(c:ASs):ATC Int:=
 bif decide ((c.length:Int)>0)then
 if(0:Int)<=(0:Int)/\(0:Int)<(c.length:Int)then
 some (c.getD 0 ATl.zero)
 else none
 else
 some 0
theorem ADr a l c:AP qc 0 4 (code f128) 14 (AA5 a l c) (Gf a l c) (AyY a l c):=by
 unfold AP;simp only[Gf,ASb];kernel_rfl
def GY(a:ASj)(l:ASw)(c:ASs):ATC Int:=
 (Gf a l c).bind λb=>R3 (Ani a l c b) (
 bif (a.1==1)&&(((c.length:Int)==0)&&(AQ a.2.1 0 (wI ((l.length:Int)-1))))then
 if(0:Int)<=a.2.1/\a.2.1<(l.length:Int)then
 some (l.getD a.2.1.toNat Ab.zero).2.1
 else none
 else
 (Gg a c b).bind λj=>bif j then
 some a.2.2.2.2.1.1
 else
 R3 (Anj a c b) (
 bif (a.1==3)&&(decide ((c.length:Int)>1))then
 (OC c (c.length:Int) 0 0).bind λe=>some e
 else
 bif (c.length:Int) !=1 then
 some (-1)
 else
 R3 (Ank a b) (
 bif (a.1==4)&&((decide (a.2.2.2.1>=0))&&((decide (a.2.2.2.1<=a.2.2.1))&&(decide (a.2.2.1<b))))then
 some (wI ((wI (a.2.2.1-a.2.2.2.1))+1))
 else
 R3 (Anl a b) (
 bif bif (a.1==5)then(AQ a.2.2.1 0 4096)else((a.1==6)&&(AQ a.2.2.1 0 4096))then
 some (wI (b+a.2.2.1))
 else
 R3 (Anm a b) (
 bif bif (a.1==7)then(AQ a.2.2.1 0 4096)else((a.1==8)&&(AQ a.2.2.1 0 4096))then
 some b
 else
 R3 (Ann a b) (
 bif (a.1==9)&&(AQ a.2.2.1 1 4096)then
 some (wI (b*a.2.2.1))
 else
 some (-1)))))))
def AEx:=Cc [.p Ag,.d ATr,.d ATo] [⟨[.Fw [] Ag,.AA [] ATr,.AA [] ATo],[],Int,λp=>GY p.1.1 p.1.2.1 p.1.2.2.1,λr=>(dI r,[])⟩]
theorem AfR:Am prog 128 AEx:=As (fn:=f128) ⟨⟨qc,pk ⟨ZA,Af9,trivial⟩,λ_ R K=>by
 simp(disch:=refine id ?_;kernel_rfl) only[GY,ASc,A8 (ADr ..) (K:=A2 qc f128 0 R K),GN (ADs ..) (K:=A2 qc f128 0 R K),A8 (ADt ..) (K:=A2 qc f128 0 R K),GN (ADu ..) (K:=A2 qc f128 0 R K),OC,AG (ADv _ _) (K:=A2 qc f128 0 R K),GN (ADw ..) (K:=A2 qc f128 0 R K),GN (ADx ..) (K:=A2 qc f128 0 R K),GN (ADy ..) (K:=A2 qc f128 0 R K),GN (ADz ..) (K:=A2 qc f128 0 R K)];kernel_rfl⟩,trivial⟩
abbrev E81:=eN [] {BR:=[(2,[0,3]),(3,[0,52])],DR:=[(2,[0]),(3,[0,3])]}
def Anp a:=sT 75 [(0,.Fw [] Ag a),(3,dB ((decide (a.1>=4))&&(decide (a.1<=9))))] []
def Ya(a:ASj)(m0:Bool):Ex×St:=xN 75 [(0,.Fw [] Ag a),(52,dB m0)] []
theorem ADB a:Za E81 0 3 (code f129) (pt 28) (Anp a)=some (Ya a (bif !((decide (a.1>=4))&&(decide (a.1<=9)))then((a.2.2.1 !=0)||(bif a.1 !=4 then((a.2.2.2.1 !=0)||((a.1 !=1)&&(a.2.1 !=0)))else((a.1 !=1)&&(a.2.1 !=0))))else(bif a.1 !=4 then((a.2.2.2.1 !=0)||((a.1 !=1)&&(a.2.1 !=0)))else((a.1 !=1)&&(a.2.1 !=0))))):=by
 refine .trans (b:=
 bif !((decide (a.1>=4))&&(decide (a.1<=9)))then
 bif a.2.2.1 !=0 then
 some (Ya a true)
 else
 bif a.1 !=4 then
 bif a.2.2.2.1 !=0 then
 some (Ya a true)
 else
 bif a.1 !=1 then
 some (Ya a (a.2.1 !=0))
 else
 some (Ya a false)
 else
 bif a.1 !=1 then
 some (Ya a (a.2.1 !=0))
 else
 some (Ya a false)
 else
 bif a.1 !=4 then
 bif a.2.2.2.1 !=0 then
 some (Ya a true)
 else
 bif a.1 !=1 then
 some (Ya a (a.2.1 !=0))
 else
 some (Ya a false)
 else
 bif a.1 !=1 then
 some (Ya a (a.2.1 !=0))
 else
 some (Ya a false)) (by kernel_rfl) ?_
 cases (!((decide (a.1>=4))&&(decide (a.1<=9))));cases (a.1 !=4);cases (a.1 !=1);rfl;rfl;cases (a.2.2.2.1 !=0);cases (a.1 !=1);rfl;rfl;rfl;cases (a.2.2.1 !=0);cases (a.1 !=4);cases (a.1 !=1);rfl;rfl;cases (a.2.2.2.1 !=0);cases (a.1 !=1);rfl;rfl;rfl;rfl
def Ano a:=sT 75 [(0,.Fw [] Ag a)] []
def AeI(a:ASj)(m0:Bool):Ex×St:=xN 75 [(0,.Fw [] Ag a),(3,dB m0)] []
theorem ADA a:Za E81 0 2 (code f129) (pt 6) (Ano a)=some (AeI a ((decide (a.1>=4))&&(decide (a.1<=9)))):=by
 refine .trans (b:=
 bif decide (a.1>=4)then
 some (AeI a (decide (a.1<=9)))
 else
 some (AeI a false)) (by kernel_rfl) ?_
 cases (decide (a.1>=4));rfl;rfl
def EF(a:ASj):Bool:=((!(bif !((decide (a.1>=4))&&(decide (a.1<=9)))then((a.2.2.1 !=0)||(bif a.1 !=4 then((a.2.2.2.1 !=0)||((a.1 !=1)&&(a.2.1 !=0)))else((a.1 !=1)&&(a.2.1 !=0))))else(bif a.1 !=4 then((a.2.2.2.1 !=0)||((a.1 !=1)&&(a.2.1 !=0)))else((a.1 !=1)&&(a.2.1 !=0)))))&&((a.1==2)||((a.2.2.2.2.1.1==0)&&((a.2.2.2.2.1.2.1.length:Int)==0))))
theorem U81 R a K:TP E81 f129 R [.Fw [] Ag a] [] K=K (dB (EF a)) []:=by
 refine .trans (b:=
 R3 (Ano a) (
 R3 (Anp a) (
 bif bif (!((decide (a.1>=4))&&(decide (a.1<=9))))then((a.2.2.1 !=0)||(bif (a.1 !=4)then((a.2.2.2.1 !=0)||((a.1 !=1)&&(a.2.1 !=0)))else((a.1 !=1)&&(a.2.1 !=0))))else(bif (a.1 !=4)then((a.2.2.2.1 !=0)||((a.1 !=1)&&(a.2.1 !=0)))else((a.1 !=1)&&(a.2.1 !=0)))then
 K (dB false) []
 else
 bif a.1==2 then
 K (dB true) []
 else
 bif a.2.2.2.2.1.1==0 then
 K (dB ((a.2.2.2.2.1.2.1.length:Int)==0)) []
 else
 K (dB false) []))) (by
  simp(disch:=refine id ?_;kernel_rfl) only[GN (ADA _) (K:=A2 E81 f129 0 R K),GN (ADB _) (K:=A2 E81 f129 0 R K)];kernel_rfl) ?_
 unfold EF;cases (bif !((decide (a.1>=4))&&(decide (a.1<=9)))then((a.2.2.1 !=0)||(bif a.1 !=4 then((a.2.2.2.1 !=0)||((a.1 !=1)&&(a.2.1 !=0)))else((a.1 !=1)&&(a.2.1 !=0))))else(bif a.1 !=4 then((a.2.2.2.1 !=0)||((a.1 !=1)&&(a.2.1 !=0)))else((a.1 !=1)&&(a.2.1 !=0))));cases (a.1==2);cases (a.2.2.2.2.1.1==0);rfl;rfl;rfl;rfl
def AEy:=Cc [.p Ag] [⟨[.Fw [] Ag],[],Bool,λp=>some (EF p.1.1),λr=>(dB r,[])⟩]
theorem AfS:Am prog 129 AEy:=As ⟨⟨E81,pk trivial,λ_ _ _=>U81 ..⟩,trivial⟩
abbrev E82:=eN [] {A4:=[(2,[0,1,7,8])],BD:=[(2,[4])]}
def AA8 a b c (z_:Int):=sT 19 [(0,Z4 a),(1,dB b),(7,dI c),(8,dI z_)] []
def Ay1(a:ASt)(b:Bool)(c:Int):=Sum.elim (λ(d:Int)=>xR 19 [(4,dI d)] []) (λ(e:Unit)=>xE 0 19 [] [])
def GG(a:ASt)(b:Bool)(c g:Int):ATC (Int⊕(Int⊕Unit)):=
 bif decide (g<c)then
 if 0<=g/\g<a.length then
 bif b==(a.getD g.toNat (Ty.zero .bool))then
 some (.inr (.inl g))
 else
 some (.inl (wI (g+1)))
 else none
 else
 some (.inr (.inr ()))
def D5 a b c (z_:Int):=GG a b c z_
def TV a b c g:=fix (D5 a b c) g
theorem ADC a b c:A3 E82 0 2 (code f154) 26 (AA8 a b c) (D5 a b c) (Ay1 a b c):=by
 intro _;simp only[D5,GG,ASb];kernel_rfl
def Rp(a:ASt)(b:Bool):ATC Int:=
 (TV a b (a.length:Int) 0).bind (Sum.elim (λd=>some d) (λe=>some (-1)))
def AEQ:=Cc [.d ATs,.d .bool] [⟨[.AA [] ATs,.AA [] .bool],[],Int,λp=>Rp p.1.1 p.1.2.1,λr=>(dI r,[])⟩]
theorem Aga:Am prog 154 AEQ:=As (fn:=f154) ⟨⟨E82,pk trivial,λ_ R K=>by
 simp(disch:=refine id ?_;kernel_rfl) only[Rp,ASc,TV,AG (ADC _ _ _) (K:=A2 E82 f154 0 R K)];kernel_rfl⟩,trivial⟩
abbrev E83:=eN [(154,AEQ)] {}
def IL(a:ASt)(b:Bool):ATC Bool:=
 (Rp a b).bind λc=>some (decide (c>=0))
def AEz:=Cc [.d ATs,.d .bool] [⟨[.AA [] ATs,.AA [] .bool],[],Bool,λp=>IL p.1.1 p.1.2.1,λr=>(dB r,[])⟩]
theorem AfT:Am prog 130 AEz:=As (fn:=f130) ⟨⟨E83,pk ⟨Aga,trivial⟩,λ_ R K=>by
 simp only[IL,ASc];kernel_rfl⟩,trivial⟩
abbrev E84:=eN [(65,c65),(128,AEx),(129,AEy),(130,AEz)] {A4:=[(6,[0,3,6,7,8,29,30]),(13,[0,3,6,7,8,9,10,11,29,30,52,53,54])],BD:=[(6,{Bc:=[4,5,6,7,8],Sp:=[(8,false,ATs)]}),(13,{Bc:=[0,3,4,5,6,7,8,9,10,11,29,30],Sp:=[(11,false,ATo)]})],BR:=[(3,[0,3,6,22]),(21,[0,3,6,7,8,29,30,92])],ao:=[(4,{Bc:=[0,3,6,7,8],Yp:=true})],DR:=[(3,[0,3,6]),(21,[0,3,6,7,8,9,10,29,30])],cO:=[(4,[0,3,6])],jc:=[(0,.row [] 2 ATl true)]}
def ABb a b c d (z_:Int×ASs×ASt):=sT 101 [(0,Ar a),(3,Au),(6,dI c),(7,.AH 1),(8,.AH 2),(29,dI d),(30,dI z_.1)] (sX b z_.2.1 z_.2.2)
def Ay4(a:ASw)(b:ASq) c (d:Int):=Sum.elim (λ(e:AST)=>xR 101 [(4,.zs),(5,dB false),(6,dI c),(7,.AH 0),(8,Z4 e.1)] [Az e.2]) (λ(g:AST)=>xE 0 101 [(6,dI c),(7,.AH 0),(8,Z4 g.1)] [Az g.2])
def ABa a c i d b j k l:=sT 101 [(0,Ar a),(3,Au),(6,dI c),(7,.AH 1),(8,.AH 2),(9,dI i),(10,.Fw [] Ag j),(29,dI d),(30,dI i)] (sX b k l)
def Ay3 a c i d b (j:ASj) k l:=λ(n:Bool)=>xN 101 [(0,Ar a),(3,Au),(6,dI c),(7,.AH 1),(8,.AH 2),(29,dI d),(30,dI i),(92,dB n)] (sX b k l)
def Q8(a:ASw)(c i d:Int)(b:ASq)(j:ASj)(k:ASs)(l:ASt):ATC Bool:=
 bif !(EF j)then
 some true
 else
 if 0<=i/\i<k.length then
 some (!(AQ (k.getD i.toNat ATl.zero) 1 4096))
 else none
theorem ADG a c i d b j k l:AP E84 0 21 (cd f101 500) 3710 (ABa a c i d b j k l) (Q8 a c i d b j k l) (Ay3 a c i d b j k l):=by
 unfold AP;simp only[Q8,ASb];kernel_rfl
def AA9 a c i d b o q s t (z_:Int×ASt×ASs):=sT 101 [(0,Ar a),(3,Au),(6,dI c),(7,.AH 1),(8,.AH 2),(9,dI i),(10,.Fw [] Ag q),(11,.AH 3),(29,dI d),(30,dI i),(52,DT s),(53,dI t),(54,dI z_.1)] [.box (Qr b),Az o,Dm z_.2.1,Az z_.2.2]
def Ay2 a c i d b o q (s:ASs) (t:Int):=Sum.elim (λ(u:(ASs×ASt))=>xR 101 [(0,Ar a),(3,Au),(4,.zs),(5,dB false),(6,dI c),(7,.AH 1),(8,.AH 2),(9,dI i),(10,.Fw [] Ag q),(11,DT u.1),(29,dI d),(30,dI i)] (sX b o u.2)) (λ(v:(ASs×ASt))=>xE 2 101 [(0,Ar a),(3,Au),(6,dI c),(7,.AH 1),(8,.AH 2),(9,dI i),(10,.Fw [] Ag q),(11,DT v.1),(29,dI d),(30,dI i)] (sX b o v.2))
def NK(a:ASw)(c i d:Int)(b:ASq)(o:ASs)(q:ASj)(s:ASs)(t w:Int)(x:ASt)(y:ASs):ATC ((Int×ASt×ASs)⊕((ASs×ASt)⊕(ASs×ASt))):=
 bif decide (w<t)then
 if 0<=w/\w<s.length then
 bif !(AQ (s.getD w.toNat ATl.zero) 0 (wI (i-1)))then
 some (.inr (.inl (y,x)))
 else
 if(0:Int)<=(s.getD w.toNat ATl.zero)/\(s.getD w.toNat ATl.zero)<(o.length:Int)then
 if(0:Int)<=(s.getD w.toNat ATl.zero)/\(s.getD w.toNat ATl.zero)<(x.length:Int)then
 if 0<=w/\w<y.length then
 some (.inl (wI (w+1),x.set (s.getD w.toNat ATl.zero).toNat true,y.set w.toNat (o.getD (s.getD w.toNat ATl.zero).toNat ATl.zero)))
 else none
 else none
 else none
 else none
 else
 some (.inr (.inr (y,x)))
def G1 a c i d b o q s t (z_:Int×ASt×ASs):=NK a c i d b o q s t z_.1 z_.2.1 z_.2.2
def Q7 a c i d b o q s t w x y:=fix (G1 a c i d b o q s t) (w,x,y)
theorem ADF a c i d b o q s t:A3 E84 0 13 (cd f101 500) 3706 (AA9 a c i d b o q s t) (G1 a c i d b o q s t) (Ay2 a c i d b o q s t):=by
 intro _;simp only[G1,NK,ASb];kernel_rfl
def NL(a:ASw)(b:ASq)(c d i:Int)(o:ASs)(a1:ASt):ATC ((Int×ASs×ASt)⊕(AST⊕AST)):=
 bif decide (i<d)then
 if 0<=i/\i<b.1.length then
 bif decide (((b.1.getD i.toNat Ag.zero).2.2.2.2.2.1.length:Int)>4096)then
 some (.inr (.inl (a1,o)))
 else
 if Ty.row ATl=true/\(0:Int)<=((b.1.getD i.toNat Ag.zero).2.2.2.2.2.1.length:Int)/\((b.1.getD i.toNat Ag.zero).2.2.2.2.2.1.length:Int)<=((b.1.getD i.toNat Ag.zero).2.2.2.2.2.1.length:Int)/\((8:Nat):Int)*((b.1.getD i.toNat Ag.zero).2.2.2.2.2.1.length:Int)<=(281474976710656:Int)/\((b.1.getD i.toNat Ag.zero).2.2.2.2.2.1.length:Int)<=(9223372036854775807:Int)then
 (Q7 a c i d b o (b.1.getD i.toNat Ag.zero) (b.1.getD i.toNat Ag.zero).2.2.2.2.2.1 ((b.1.getD i.toNat Ag.zero).2.2.2.2.2.1.length:Int) 0 a1 (List.replicate ((b.1.getD i.toNat Ag.zero).2.2.2.2.2.1.length:Int).toNat 0)).bind (Sum.elim (λu=>some (.inr (.inl (u.2,o)))) (λv=>(GY (b.1.getD i.toNat Ag.zero) a v.1).bind λb1=>if 0<=i/\i<o.length then
 (Q8 a c i d b (b.1.getD i.toNat Ag.zero) (o.set i.toNat b1) v.2).bind λn=>bif n then
 some (.inr (.inl (v.2,o.set i.toNat b1)))
 else
 some (.inl (wI (i+1),o.set i.toNat b1,v.2))
 else none))
 else none
 else none
 else
 some (.inr (.inr (a1,o)))
def G2 a b c d (z_:Int×ASs×ASt):=NL a b c d z_.1 z_.2.1 z_.2.2
def Vd a b c d i o a1:=fix (G2 a b c d) (i,o,a1)
theorem ADH a b c d:A3 E84 0 6 (code f101) 250 (ABb a b c d) (G2 a b c d) (Ay4 a b c d):=by
 intro _;simp(disch:=refine id ?_;kernel_rfl) only[G2,NL,ASb,Q7,AG (ADF _ _ _ _ _ _ _ _ _) (K:=Kk E84 0 6),A8 (ADG ..) (K:=Kk E84 0 6)];kernel_rfl
def Anr a b c1:=sT 101 [(0,Ar a),(3,Au),(6,dI c1)] [.box (Qr b)]
def Aah a b c1:=λ(d1:(ASs×ASt))=>sT 101 [(0,Ar a),(3,Au),(6,dI c1),(7,.AH 1),(8,.AH 2)] (sX b d1.1 d1.2)
def M1(a:ASw)(b:ASq)(c1:Int):ATC (ASs×ASt):=
 if Ty.row ATl=true/\(0:Int)<=c1/\c1<=c1/\((8:Nat):Int)*c1<=(281474976710656:Int)/\c1<=(9223372036854775807:Int)then
 if Ty.row .bool=true/\(0:Int)<=c1/\c1<=c1/\((1:Nat):Int)*c1<=(281474976710656:Int)/\c1<=(9223372036854775807:Int)then
 some (List.replicate c1.toNat 0,List.replicate c1.toNat false)
 else none
 else none
theorem ADE(a:ASw)(b:ASq)(c1:Int):Sj E84 0 4 (code f101) 30 (Anr a b c1) (M1 a b c1) (Aah a b c1):=by
 unfold Sj;have h:yI E84 0 4 (code f101) (pt 30) (Anr a b c1) =
 if Ty.row ATl=true/\(0:Int)<=c1/\c1<=c1/\((8:Nat):Int)*c1<=(281474976710656:Int)/\c1<=(9223372036854775807:Int)then
 if Ty.row .bool=true/\(0:Int)<=c1/\c1<=c1/\((1:Nat):Int)*c1<=(281474976710656:Int)/\c1<=(9223372036854775807:Int)then
 (((if Ty.row ATl=true/\(0:Int)<=c1/\c1<=c1/\((8:Nat):Int)*c1<=(281474976710656:Int)/\c1<=(9223372036854775807:Int)then
 if Ty.row .bool=true/\(0:Int)<=c1/\c1<=c1/\((1:Nat):Int)*c1<=(281474976710656:Int)/\c1<=(9223372036854775807:Int)then
 Ja (Aah a b c1 (List.replicate c1.toNat 0,List.replicate c1.toNat false))
 else none
 else none).bind λ_=>if Ty.row .bool=true/\(0:Int)<=c1/\c1<=c1/\((1:Nat):Int)*c1<=(281474976710656:Int)/\c1<=(9223372036854775807:Int)then
 if Ty.row ATl=true/\(0:Int)<=c1/\c1<=c1/\((8:Nat):Int)*c1<=(281474976710656:Int)/\c1<=(9223372036854775807:Int)then
 Ja (Aah a b c1 (List.replicate c1.toNat 0,List.replicate c1.toNat false))
 else none
 else none).bind λ_=>some (Aah a b c1 (List.replicate c1.toNat 0,List.replicate c1.toNat false)))
 else none
 else none:=by kernel_rfl
 rw[h];unfold M1;simp only[ASb,mS,mO];clear h;by_cases Gb:Ty.row ATl=true/\(0:Int)<=c1/\c1<=c1/\((8:Nat):Int)*c1<=(281474976710656:Int)/\c1<=(9223372036854775807:Int)
 ·rw[AQe Gb,AQe Gb];by_cases Pp:Ty.row .bool=true/\(0:Int)<=c1/\c1<=c1/\((1:Nat):Int)*c1<=(281474976710656:Int)/\c1<=(9223372036854775807:Int)
  ·rw[AQe Pp,AQe Pp];simp only[AQe Gb,AQe Pp,AQJ,APW,Ja,GX]
  ·simp only[AQe Gb,AQJ,AQf Pp]
 ·simp only[AQJ,AQf Gb]
def Anq a (b:ASq):=sT 101 [(0,Ar a),(3,Au),(6,dI (b.1.length:Int))] [.box (Qr b)]
def AeJ(a:ASw)(b:ASq)(m0:Bool):Ex×St:=xN 101 [(0,Ar a),(3,Au),(6,dI (b.1.length:Int)),(22,dB m0)] [.box (Qr b)]
theorem ADD a b:Za E84 0 3 (code f101) (pt 28) (Anq a b)=some (AeJ a b ((decide ((b.1.length:Int)<1))||(decide ((b.1.length:Int)>400)))):=by
 refine .trans (b:=
 bif decide ((b.1.length:Int)<1)then
 some (AeJ a b true)
 else
 some (AeJ a b (decide ((b.1.length:Int)>400)))) (by kernel_rfl) ?_
 cases (decide ((b.1.length:Int)<1));rfl;rfl
def TD(a:ASw)(b:ASq):ATC (Bool×ASs):=
 R3 (Anq a b) (
 bif (decide ((b.1.length:Int)<1))||(decide ((b.1.length:Int)>400))then
 some (false,([]:ASs))
 else
 (M1 a b (b.1.length:Int)).bind λd1=>(Vd a b (b.1.length:Int) (b.1.length:Int) 0 d1.1 d1.2).bind (Sum.elim (λe=>some (false,([]:ASs))) (λg=>if(0:Int)<=(0:Int)/\(0:Int)<=(wI ((b.1.length:Int)-1))/\(wI ((b.1.length:Int)-1))<=(g.1.length:Int)then
 (IL ((g.1.take (wI ((b.1.length:Int)-1)).toNat).drop 0) false).bind λe1=>some (!e1,g.2)
 else none)))
def AD9:=Cc [.d ATr,.d Aw] [⟨[.AA [] ATr,.AA [] Aw],[],Bool×ASs,λp=>TD p.1.1 p.1.2.1,λr=>(.cons Kd (.cons (dB r.1) .nil),[Az r.2])⟩]
theorem Afs:Am prog 101 AD9:=As (fn:=f101) ⟨⟨E84,pk ⟨ZA,AfR,AfS,AfT,trivial⟩,λ_ R K=>by
 simp(disch:=refine id ?_;kernel_rfl) only[TD,ASc,GN (ADD ..) (K:=A2 E84 f101 0 R K),W1 (ADE ..) (K:=A2 E84 f101 0 R K),Vd,AG (ADH _ _ _ _) (K:=A2 E84 f101 0 R K)];kernel_rfl⟩,trivial⟩
abbrev E85:=eN [(101,AD9)] {}
def Gw(a:ASw)(b:ASq):ATC Int:=
 (TD a b).bind λc=>bif !c.1 then
 some (-1)
 else
 if 0<=(wI ((c.2.length:Int)-1))/\(wI ((c.2.length:Int)-1))<c.2.length then
 some (c.2.getD (wI ((c.2.length:Int)-1)).toNat ATl.zero)
 else none
def c67:=Cc [.d ATr,.d Aw] [⟨[.AA [] ATr,.AA [] Aw],[],Int,λp=>Gw p.1.1 p.1.2.1,λr=>(dI r,[])⟩]
theorem Alg:Am prog 67 c67:=As (fn:=f67) ⟨⟨E85,pk ⟨Afs,trivial⟩,λ_ R K=>by
 simp only[Gw,ASc];kernel_rfl⟩,trivial⟩
abbrev E86:=eN [(65,c65),(67,c67)] {A4:=[(5,[0,5,12,13,14])],BD:=[(5,[4])],BR:=[(9,[0,7,12,13,14,39])],DR:=[(9,[0,5,7,8,12,13,14])]}
def ABd a b c (z_:Int×Int):=sT 43 [(0,Ar a),(5,dI z_.1),(12,Bw b),(13,dI c),(14,dI z_.2)] []
def Ay6(a:ASw)(b:ASy)(c:Int):=Sum.elim (λ(d:Unit)=>xR 43 fW []) (λ(e:Unit)=>xE 0 43 [] [])
def ABc a g i b c j k:=sT 43 [(0,Ar a),(5,dI g),(7,Au),(8,dI i),(12,Bw b),(13,dI c),(14,dI j)] [.box (dZ k)]
def Ay5 a (g:Int) (i:Int) b c j k:=λ(l:Bool)=>xN 43 [(0,Ar a),(7,Au),(12,Bw b),(13,dI c),(14,dI j),(39,dB l)] [.box (dZ k)]
def Du(a:ASw)(g i:Int)(b:ASy)(c j:Int)(k:ASh):ATC Bool:=
 bif !(AQ k.1 (wI (g+1)) 1000000)then
 some true
 else
 bif decide (i<0)then
 some true
 else
 (Gw a k.2.2.2.1).bind λn=>some (i !=n)
theorem ADI a g i b c j k:AP E86 0 9 (cd f137 244) 460 (ABc a g i b c j k) (Du a g i b c j k) (Ay5 a g i b c j k):=by
 unfold AP;simp only[Du,ASb];kernel_rfl
def DD(a:ASw)(b:ASy)(c g j:Int):ATC (ASR⊕(Unit⊕Unit)):=
 bif decide (j<c)then
 if 0<=j/\j<b.length then
 (Gw a (b.getD j.toNat Ae.zero).2.2.1).bind λi=>(Du a g i b c j (b.getD j.toNat Ae.zero)).bind λl=>bif l then
 some (.inr (.inl ()))
 else
 some (.inl ((b.getD j.toNat Ae.zero).1,wI (j+1)))
 else none
 else
 some (.inr (.inr ()))
def B4 a b c (z_:Int×Int):=DD a b c z_.1 z_.2
def Qc a b c g j:=fix (B4 a b c) (g,j)
theorem ADJ a b c:A3 E86 0 5 (code f137) 122 (ABd a b c) (B4 a b c) (Ay6 a b c):=by
 intro _;simp(disch:=refine id ?_;kernel_rfl) only[B4,DD,ASb,A8 (ADI ..) (K:=Kk E86 0 5)];kernel_rfl
def F7(a:ASw)(b:ASy):ATC Bool:=
 bif decide ((b.length:Int)>60)then
 some false
 else
 (Qc a b (b.length:Int) 0 0).bind (Sum.elim (λd=>some false) (λe=>some true))
def Au1:=Cc [.d ATr,.d ATt] [⟨[.AA [] ATr,.AA [] ATt],[],Bool,λp=>F7 p.1.1 p.1.2.1,λr=>(dB r,[])⟩]
theorem uj:Am prog 137 Au1:=As (fn:=f137) ⟨⟨E86,pk ⟨ZA,Alg,trivial⟩,λ_ R K=>by
 simp(disch:=refine id ?_;kernel_rfl) only[F7,ASc,Qc,AG (ADJ _ _ _) (K:=A2 E86 f137 0 R K)];kernel_rfl⟩,trivial⟩
abbrev E87:=eN [(33,c33),(137,Au1)] {}
def Ld(a:ASw)(b:ASy):ATC Bool:=
 (Nv a).bind λc=>bif c then
 (F7 a b).bind λd=>some d
 else
 some false
def AEc:=Cc [.d ATr,.d ATt] [⟨[.AA [] ATr,.AA [] ATt],[],Bool,λp=>Ld p.1.1 p.1.2.1,λr=>(dB r,[])⟩]
theorem Afv:Am prog 104 AEc:=As (fn:=f104) ⟨⟨E87,pk ⟨Aav,uj,trivial⟩,λ_ R K=>by
 simp only[Ld,ASc];kernel_rfl⟩,trivial⟩
noncomputable def AER:Va.Callee:=bg 88 ATm 8
noncomputable abbrev AFf:GV:={D7:=D7,fns:=Pb [],fi:={}}
theorem AlO:Jy Tryz.prog AFf:=(pk (l:=[]) trivial)
theorem Agb:Am Tryz.prog 155 AER:=
 eU (fn:=Tryz.f155) AlO (by kernel_rfl) (by kernel_rfl) rfl rfl rfl ⟨rfl,rfl,rfl⟩ ⟨rfl,rfl,rfl⟩ (ti:=⟨.sl ATm,[],88,24,0,0,false⟩) (by kernel_rfl) rfl (by kernel_rfl) (λxs=>by kernel_rfl) (λxs=>by kernel_rfl)
  λxs h=>by
   have h0:ev AFf 0 (sub (code Tryz.f155) [1,1]) (Ex×St) ⟨[.AA [] ATv xs,.un 0,.zs,.AA [] ATv xs,.bool false,.un 0,.un 0,.un 0],[]⟩ Sd=if xs.length*8<=140737488355328 then some (.ret,⟨[.AA [] ATv xs,.un 0,.AH 0,.AA [] ATv xs,.bool false,.zs,.AA [] ATv xs,.AH 0],[C9 xs]⟩)else none:=by kernel_rfl
   exact h0.trans (AQe h)
abbrev E88:=eN [(155,AER)] {}
def Dk(a:ASk):ATC ASP:=
 if a.2.1.length*8<=140737488355328 then
 some (a.1,a.2.1)
 else none
def AkB:=Cc [.d Ah] [⟨[.AA [] Ah],[],ASP,λp=>Dk p.1.1,λr=>(.pr (dI r.1) Si,[C9 r.2])⟩]
theorem jL:Am prog 132 AkB:=As (fn:=f132) ⟨⟨E88,pk ⟨Agb,trivial⟩,λ_ R K=>by
 simp only[Dk,ASc];kernel_rfl⟩,trivial⟩
abbrev E89:=eN [] {}
def AK(a:Int)(b:ASs):AS3:=(-1,0,a,a,b)
def AuZ:=Cc [.UY] [⟨[.pr (.AA [] ATl) (.pr (.k Kd) (.k .u))],[.row 88 .Av ATm],AS3,λp=>some (AK p.1.1.1 p.2.1),λr=>(.pr (dI r.1) (.pr (dI r.2.1) (.pr (dI r.2.2.1) (.pr (.pr (dI r.2.2.2.1) Si) .u))),[C9 r.2.2.2.2])⟩]
theorem uh:Am prog 131 AuZ:=As (fn:=f131) ⟨⟨E89,pk trivial,λ_ _ _=>by kernel_rfl⟩,trivial⟩
abbrev E90:=eN [] {}
def DY(a b:ASi):Bool:=((a.1==b.1)&&((a.1==(-1))||((wI (a.2.1+a.2.2.1))==b.2.1)))
theorem U90 R a b K:TP E90 f156 R [OT a,OT b] [] K=K (dB (DY a b)) []:=by
 refine .trans (b:=
 bif a.1==b.1 then
 bif a.1==(-1)then
 K (dB true) []
 else
 K (dB ((wI (a.2.1+a.2.2.1))==b.2.1)) []
 else
 K (dB false) []) (by kernel_rfl) ?_
 unfold DY;cases (a.1==b.1);rfl;cases (a.1==(-1));rfl;rfl
def AES:=Cc [.d Af,.d Af] [⟨[.AA [] Af,.AA [] Af],[],Bool,λp=>some (DY p.1.1 p.1.2.1),λr=>(dB r,[])⟩]
theorem Agc:Am prog 156 AES:=As ⟨⟨E90,pk trivial,λ_ _ _=>U90 ..⟩,trivial⟩
abbrev E91:=eN [(159,Au3)] {}
def GM(a:Int):ATC ASP:=
 if Ty.row ATm=true/\(0:Int)<=(Ck a)/\(Ck a)<=(Ck a)/\((8:Nat):Int)*(Ck a)<=(281474976710656:Int)/\(Ck a)<=(9223372036854775807:Int)then
 some (a,List.replicate (Ck a).toNat 0)
 else none
def AkC:=Cc [.d ATl] [⟨[.AA [] ATl],[],ASP,λp=>GM p.1.1,λr=>(.pr (dI r.1) Si,[C9 r.2])⟩]
theorem jM:Am prog 136 AkC:=As (fn:=f136) ⟨⟨E91,pk ⟨um,trivial⟩,λ_ R K=>by
 simp only[GM,ASc];kernel_rfl⟩,trivial⟩
abbrev E92:=eN [] {A4:=[(2,[1,3,10,11,12])],BD:=[(2,{Bc:=[]})],BR:=[(7,[1,3,7,8,10,11,12,44]),(8,[1,3,10,11,12])],DR:=[(7,[1,3,7,8,10,11,12]),(8,[1,3,10,11,12])]}
def ABf a b c d (z_:Int×ASs):=sT 60 (AjE a c d z_.1) [C9 z_.2,.box (.pr (dI b) Si)]
def Ay8(a b:Int)(c:ASs)(d:Int):=λ(e:ASs)=>xE 0 60 [] [C9 e]
def ABe a c d g i b:=sT 60 (AjE a c d g) [C9 i,.box (.pr (dI b) Si)]
def Ay7 a c d g (i:ASs) b:=λ(j:ASs)=>xN 60 (AjE a c d g) [C9 j,.box (.pr (dI b) Si)]
def Ans a (c:ASs) (g:Int) d (i:ASs) b:=sT 60 [(1,dI a),(3,A9),(7,dD ATm (c.getD g.toNat ATm.zero)),(8,dI (wI (a+(wI (64*g))))),(10,UO c),(11,dI d),(12,dI g)] [C9 (i.set (wI (Int.tdiv (wI (a+(wI (64*g)))) 64)).toNat (iz .u64 (i.getD (wI (Int.tdiv (wI (a+(wI (64*g)))) 64)).toNat ATm.zero) (Ph .u64 (c.getD g.toNat ATm.zero) (Int.tmod (wI (a+(wI (64*g)))) 64)))),.box (.pr (dI b) Si)]
def AeK(a:Int)(c:ASs)(g d:Int)(i:ASs)(b:Int)(m0:Bool):Ex×St:=xN 60 [(1,dI a),(3,A9),(7,dD ATm (c.getD g.toNat ATm.zero)),(8,dI (wI (a+(wI (64*g))))),(10,UO c),(11,dI d),(12,dI g),(44,dB m0)] [C9 (i.set (wI (Int.tdiv (wI (a+(wI (64*g)))) 64)).toNat (iz .u64 (i.getD (wI (Int.tdiv (wI (a+(wI (64*g)))) 64)).toNat ATm.zero) (Ph .u64 (c.getD g.toNat ATm.zero) (Int.tmod (wI (a+(wI (64*g)))) 64)))),.box (.pr (dI b) Si)]
theorem ADK a c g d i b:Za E92 1 7 (sb (cd f174 28) 14) (pt 46) (Ans a c g d i b)=some (AeK a c g d i b (((Int.tmod (wI (a+(wI (64*g)))) 64) !=0)&&(decide ((wI ((wI (Int.tdiv (wI (a+(wI (64*g)))) 64))+1))<((i.set (wI (Int.tdiv (wI (a+(wI (64*g)))) 64)).toNat (iz .u64 (i.getD (wI (Int.tdiv (wI (a+(wI (64*g)))) 64)).toNat ATm.zero) (Ph .u64 (c.getD g.toNat ATm.zero) (Int.tmod (wI (a+(wI (64*g)))) 64)))).length:Int))))):=by
 refine .trans (b:=
 bif (Int.tmod (wI (a+(wI (64*g)))) 64) !=0 then
 some (AeK a c g d i b (decide ((wI ((wI (Int.tdiv (wI (a+(wI (64*g)))) 64))+1))<((i.set (wI (Int.tdiv (wI (a+(wI (64*g)))) 64)).toNat (iz .u64 (i.getD (wI (Int.tdiv (wI (a+(wI (64*g)))) 64)).toNat ATm.zero) (Ph .u64 (c.getD g.toNat ATm.zero) (Int.tmod (wI (a+(wI (64*g)))) 64)))).length:Int))))
 else
 some (AeK a c g d i b false)) (by kernel_rfl) ?_
 cases ((Int.tmod (wI (a+(wI (64*g)))) 64) !=0);rfl;rfl
def JC(a:Int)(c:ASs)(d g:Int)(i:ASs)(b:Int):ATC ASs:=
 if 0<=g/\g<c.length then
 if 0<=(wI (Int.tdiv (wI (a+(wI (64*g)))) 64))/\(wI (Int.tdiv (wI (a+(wI (64*g)))) 64))<i.length then
 if(Int.tmod (wI (a+(wI (64*g)))) 64)<(0:Int)then none else
 if 0<=(wI (Int.tdiv (wI (a+(wI (64*g)))) 64))/\(wI (Int.tdiv (wI (a+(wI (64*g)))) 64))<i.length then
 R3 (Ans a c g d i b) (
 bif ((Int.tmod (wI (a+(wI (64*g)))) 64) !=0)&&(decide ((wI ((wI (Int.tdiv (wI (a+(wI (64*g)))) 64))+1))<((i.set (wI (Int.tdiv (wI (a+(wI (64*g)))) 64)).toNat (iz .u64 (i.getD (wI (Int.tdiv (wI (a+(wI (64*g)))) 64)).toNat ATm.zero) (Ph .u64 (c.getD g.toNat ATm.zero) (Int.tmod (wI (a+(wI (64*g)))) 64)))).length:Int)))then
 if 0<=(wI ((wI (Int.tdiv (wI (a+(wI (64*g)))) 64))+1))/\(wI ((wI (Int.tdiv (wI (a+(wI (64*g)))) 64))+1))<(i.set (wI (Int.tdiv (wI (a+(wI (64*g)))) 64)).toNat (iz .u64 (i.getD (wI (Int.tdiv (wI (a+(wI (64*g)))) 64)).toNat ATm.zero) (Ph .u64 (c.getD g.toNat ATm.zero) (Int.tmod (wI (a+(wI (64*g)))) 64)))).length then
 if(wI (64-(Int.tmod (wI (a+(wI (64*g)))) 64)))<(0:Int)then none else
 if 0<=(wI ((wI (Int.tdiv (wI (a+(wI (64*g)))) 64))+1))/\(wI ((wI (Int.tdiv (wI (a+(wI (64*g)))) 64))+1))<(i.set (wI (Int.tdiv (wI (a+(wI (64*g)))) 64)).toNat (iz .u64 (i.getD (wI (Int.tdiv (wI (a+(wI (64*g)))) 64)).toNat ATm.zero) (Ph .u64 (c.getD g.toNat ATm.zero) (Int.tmod (wI (a+(wI (64*g)))) 64)))).length then
 some ((i.set (wI (Int.tdiv (wI (a+(wI (64*g)))) 64)).toNat (iz .u64 (i.getD (wI (Int.tdiv (wI (a+(wI (64*g)))) 64)).toNat ATm.zero) (Ph .u64 (c.getD g.toNat ATm.zero) (Int.tmod (wI (a+(wI (64*g)))) 64)))).set (wI ((wI (Int.tdiv (wI (a+(wI (64*g)))) 64))+1)).toNat (iz .u64 ((i.set (wI (Int.tdiv (wI (a+(wI (64*g)))) 64)).toNat (iz .u64 (i.getD (wI (Int.tdiv (wI (a+(wI (64*g)))) 64)).toNat ATm.zero) (Ph .u64 (c.getD g.toNat ATm.zero) (Int.tmod (wI (a+(wI (64*g)))) 64)))).getD (wI ((wI (Int.tdiv (wI (a+(wI (64*g)))) 64))+1)).toNat ATm.zero) (SG .u64 (c.getD g.toNat ATm.zero) (wI (64-(Int.tmod (wI (a+(wI (64*g)))) 64))))))
 else none
 else none
 else
 some (i.set (wI (Int.tdiv (wI (a+(wI (64*g)))) 64)).toNat (iz .u64 (i.getD (wI (Int.tdiv (wI (a+(wI (64*g)))) 64)).toNat ATm.zero) (Ph .u64 (c.getD g.toNat ATm.zero) (Int.tmod (wI (a+(wI (64*g)))) 64)))))
 else none
 else none
 else none
theorem ADL a c d g i b:AP E92 1 8 (cd f174 28) 14 (ABe a c d g i b) (JC a c d g i b) (Ay7 a c d g i b):=by
 unfold AP;simp(disch:=refine id ?_;kernel_rfl) only[JC,ASb,GN (ADK ..) (K:=Ud E92 1 8)];kernel_rfl
def Kq(a b:Int)(c:ASs)(d g:Int)(i:ASs):ATC (ASP⊕ASs):=
 bif decide (g<d)then
 (JC a c d g i b).bind λj=>some (.inl (wI (g+1),j))
 else
 some (.inr i)
def Hl a b c d (z_:Int×ASs):=Kq a b c d z_.1 z_.2
def Xc a b c d g i:=fix (Hl a b c d) (g,i)
theorem ADM a b c d:A3 E92 1 2 (code f174) 14 (ABf a b c d) (Hl a b c d) (Ay8 a b c d):=by
 intro _;simp(disch:=refine id ?_;kernel_rfl) only[Hl,Kq,ASb,A8 (ADL ..) (K:=Kk E92 1 2)];kernel_rfl
def O2(b a:Int)(k:ASk)(l:ASs):ATC ASs:=
 (Xc a b k.2.1 (k.2.1.length:Int) 0 l).bind λe=>some e
def AE6:=Cc [.UY,.d ATl,.d Ah] [⟨[.pr (.AA [] ATl) (.pr (.k Kd) (.k .u)),.AA [] ATl,.AA [] Ah],[.row 88 .Av ATm],ASs,λp=>O2 p.1.1.1 p.1.2.1 p.1.2.2.1 p.2.1,λr=>(.nil,[C9 r])⟩]
theorem Agq:Am prog 174 AE6:=As (fn:=f174) ⟨⟨E92,pk trivial,λ_ R K=>by
 simp(disch:=refine id ?_;kernel_rfl) only[O2,ASc,Xc,AG (ADM _ _ _ _) (K:=A2 E92 f174 1 R K)];kernel_rfl⟩,trivial⟩
abbrev E93:=eN [(136,AkC),(174,AE6)] {}
def Hk(a b:ASk):ATC ASP:=
 (GM (wI (a.1+b.1))).bind λc=>(O2 c.1 0 b c.2).bind λd=>(O2 c.1 b.1 a d).bind λe=>some (c.1,e)
def AET:=Cc [.d Ah,.d Ah] [⟨[.AA [] Ah,.AA [] Ah],[],ASP,λp=>Hk p.1.1 p.1.2.1,λr=>(.pr (dI r.1) Si,[C9 r.2])⟩]
theorem Agd:Am prog 157 AET:=As (fn:=f157) ⟨⟨E93,pk ⟨jM,Agq,trivial⟩,λ_ R K=>by
 simp only[Hk,ASc];kernel_rfl⟩,trivial⟩
abbrev E94:=eN [(156,AES),(157,AET)] {Av:=false,A4:=[(2,{Bc:=[0,8,9,10],mv:=[0]})],BD:=[(2,[0])],BR:=[(6,[0,6,7,8,9,10,27]),(9,[0,6,7,8,9,10]),(10,{Bc:=[0,8,9,10],mv:=[0]})],DR:=[(6,[0,6,7,8,9,10]),(9,[0,6,7,8,9,10]),(10,[0,8,9,10])]}
def ABj a b (z_:Int×ASz):=sT 59 (AjF a b z_.1) [.Ba,Cb z_.2]
def Azc(a:ASz)(b:Int):=λ(c:ASz)=>xE 0 59 [(0,.AH 1)] [.Ba,Cb c]
def ABi a b d e:=sT 59 (AjF a b d) [.Ba,Cb e]
def Azb a b d (e:ASz):=λ(g:ASz)=>xN 59 (AjF a b d) [.Ba,Cb g]
def ABh a b d e i j:=sT 59 (AjG i a b d) [.Ba,Cb e,.box (OT j)]
def Aza a b d (e:ASz) i j:=λ(k:ASz)=>xN 59 (AjG i a b d) [.Ba,Cb k,.box (OT j)]
def O5(a:ASz)(b d:Int)(e:ASz)(i:Int)(j:ASi):ATC ASz:=
 bif j.1==(-1)then
 if 0<=i/\i<e.length then
 (Hk j.2.2.2.1 (e.getD i.toNat Af.zero).2.2.2.1).bind λl=>if 0<=i/\i<e.length then
 some (e.set i.toNat ((e.getD i.toNat Af.zero).1,(e.getD i.toNat Af.zero).2.1,(e.getD i.toNat Af.zero).2.2.1,(l.1,l.2,()),(e.getD i.toNat Af.zero).2.2.2.2))
 else none
 else none
 else
 some e
theorem ADO a b d e i j:AP E94 1 9 (sb (cd f133 52) 14) 46 (ABh a b d e i j) (O5 a b d e i j) (Aza a b d e i j):=by
 unfold AP;simp only[O5,ASb];kernel_rfl
def ABg a b d e n o:=sT 59 (AjG n a b d) [.Ba,Cb e,.box (OT o)]
def Ay9 a b d e n o:=λ(q:Bool)=>xN 59 [(0,.AH 1),(6,Lb),(7,dI n),(8,Dv a),(9,dI b),(10,dI d),(27,dB q)] [.Ba,Cb e,.box (OT o)]
def S9(a:ASz)(b d:Int)(e:ASz)(n:Int)(o:ASi):ATC Bool:=
 bif decide (n<0)then
 some true
 else
 if 0<=n/\n<e.length then
 some (!(DY (e.getD n.toNat Af.zero) o))
 else none
theorem ADN a b d e n o:AP E94 1 6 (sb (cd f133 52) 14) 44 (ABg a b d e n o) (S9 a b d e n o) (Ay9 a b d e n o):=by
 unfold AP;simp only[S9,ASb];kernel_rfl
def O6(a:ASz)(b d:Int)(e:ASz):ATC ASz:=
 if 0<=d/\d<a.length then
 (S9 a b d e (wI ((e.length:Int)-1)) (a.getD d.toNat Af.zero)).bind λq=>bif q then
 if(e.length+([a.getD d.toNat Af.zero]:ASz).length)*56<=140737488355328 then
 some (e++([a.getD d.toNat Af.zero]:ASz))
 else none
 else
 (O5 a b d e (wI ((e.length:Int)-1)) (a.getD d.toNat Af.zero)).bind λk=>if 0<=(wI ((e.length:Int)-1))/\(wI ((e.length:Int)-1))<k.length then
 if 0<=(wI ((e.length:Int)-1))/\(wI ((e.length:Int)-1))<k.length then
 some (k.set (wI ((e.length:Int)-1)).toNat ((k.getD (wI ((e.length:Int)-1)).toNat Af.zero).1,(k.getD (wI ((e.length:Int)-1)).toNat Af.zero).2.1,wI ((k.getD (wI ((e.length:Int)-1)).toNat Af.zero).2.2.1+(a.getD d.toNat Af.zero).2.2.1),(k.getD (wI ((e.length:Int)-1)).toNat Af.zero).2.2.2))
 else none
 else none
 else none
theorem ADP a b d e:AP E94 1 10 (cd f133 52) 14 (ABi a b d e) (O6 a b d e) (Azb a b d e):=by
 unfold AP;simp(disch:=refine id ?_;kernel_rfl) only[O6,ASb,A8 (ADN ..) (K:=Ud E94 1 10),A8 (ADO ..) (K:=Ud E94 1 10)];kernel_rfl
def Ps(a:ASz)(b d:Int)(e:ASz):ATC (AS1⊕ASz):=
 bif decide (d<b)then
 (O6 a b d e).bind λg=>some (.inl (wI (d+1),g))
 else
 some (.inr e)
def F8 a b (z_:Int×ASz):=Ps a b z_.1 z_.2
def Wy a b d e:=fix (F8 a b) (d,e)
theorem ADQ a b:A3 E94 1 2 (code f133) 26 (ABj a b) (F8 a b) (Azc a b):=by
 intro _;simp(disch:=refine id ?_;kernel_rfl) only[F8,Ps,ASb,A8 (ADP ..) (K:=Kk E94 1 2)];kernel_rfl
def EM(a s:ASz):ATC ASz:=
 (Wy a (a.length:Int) 0 s).bind λc=>some c
def Au0:=Cc [.UY,.d ATq] [⟨[.k Kd,.AA [] ATq],[.row 142 (.sh []) Af],ASz,λp=>EM p.1.2.1 p.2.1,λr=>(.AH 1,[.Ba,Cb r])⟩]
theorem ui:Am prog 133 Au0:=As (fn:=f133) ⟨⟨E94,pk ⟨Agc,Agd,trivial⟩,λ_ R K=>by
 simp(disch:=refine id ?_;kernel_rfl) only[EM,ASc,Wy,AG (ADQ _ _) (K:=A2 E94 f133 1 R K)];kernel_rfl⟩,trivial⟩
abbrev E95:=eN [] {A4:=[(3,[3,6,7,8])],BD:=[(3,[3])]}
def ABk a b (z_:Int×Int):=sT 18 [(3,dI z_.1),(6,Dv a),(7,dI b),(8,dI z_.2)] []
def Azd(a:ASz)(b:Int):=λ(c:Int)=>xE 0 18 [(3,dI c)] []
def Jk(a:ASz)(b d e:Int):ATC (ASR⊕Int):=
 bif decide (e<b)then
 if 0<=e/\e<a.length then
 some (.inl (wI (d+(a.getD e.toNat Af.zero).2.2.1),wI (e+1)))
 else none
 else
 some (.inr d)
def C5 a b (z_:Int×Int):=Jk a b z_.1 z_.2
def Q0 a b d e:=fix (C5 a b) (d,e)
theorem ADR a b:A3 E95 0 3 (code f36) 58 (ABk a b) (C5 a b) (Azd a b):=by
 intro _;simp only[C5,Jk,ASb];kernel_rfl
def Hp(a:ASz):ATC Int:=
 (Q0 a (a.length:Int) 0 0).bind λc=>some c
def c36:=Cc [.d ATq] [⟨[.AA [] ATq],[],Int,λp=>Hp p.1.1,λr=>(dI r,[])⟩]
theorem Aaw:Am prog 36 c36:=As (fn:=f36) ⟨⟨E95,pk trivial,λ_ R K=>by
 simp(disch:=refine id ?_;kernel_rfl) only[Hp,ASc,Q0,AG (ADR _ _) (K:=A2 E95 f36 0 R K)];kernel_rfl⟩,trivial⟩
abbrev E96:=eN [(136,AkC)] {A4:=[(3,[1,2,3,6,7,15,16])],BD:=[(3,[2,6,7])],BR:=[(8,[1,2,3,6,7,8,9,15,16,47]),(9,[1,2,3,6,7,15,16]),(13,[6,7])],DR:=[(8,[1,2,3,6,7,8,9,15,16]),(9,[1,2,3,6,7,15,16]),(13,[2,6,7])]}
def ABn a b c:=sT 85 [(2,dI a),(6,Au),(7,A9)] (xg c b)
def Azg(a:Int)(b:ASs) c:=λ(d:ASs)=>xN 85 [(6,Au),(7,A9)] (xg c d)
def Nu(a:Int)(b:ASs)(c:Int):ATC ASs:=
 bif (Int.tmod a 64) !=0 then
 if 0<=(wI ((b.length:Int)-1))/\(wI ((b.length:Int)-1))<b.length then
 if(Int.tmod a 64)<(0:Int)then none else
 if 0<=(wI ((b.length:Int)-1))/\(wI ((b.length:Int)-1))<b.length then
 some (b.set (wI ((b.length:Int)-1)).toNat (ib .u64 (b.getD (wI ((b.length:Int)-1)).toNat ATm.zero) (IntKind.u64.wrap ((Ph .u64 1 (Int.tmod a 64))-1))))
 else none
 else none
 else
 some b
theorem ADV a b c:AP E96 0 13 (code f175) 30 (ABn a b c) (Nu a b c) (Azg a b c):=by
 unfold AP;simp only[Nu,ASb];kernel_rfl
def ABm e a g i j (z_:Int×ASs):=sT 85 (AjH e a i z_.1) (AjI g j z_.2)
def Azf(e:Int) a (g:ASk) (i:Int) j:=λ(b:ASs)=>xE 0 85 [(2,dI a),(6,Au),(7,A9)] (xg j b)
def ABl e a i k g j l:=sT 85 (AjH e a i k) (AjI g j l)
def Aze e a i k g j (l:ASs):=λ(n:ASs)=>xN 85 (AjH e a i k) (AjI g j n)
def Ant e a k i g j (l:ASs):=sT 85 [(1,dI e),(2,dI a),(3,Au),(6,A9),(7,Lb),(8,dI k),(9,dI (wI (e+(wI (64*k))))),(15,dI i),(16,dI k)] [.box (GK g),.box ta,.box (.pr (dI j) xx),C9 (l.set k.toNat (SG .u64 (g.2.1.getD (wI (Int.tdiv (wI (e+(wI (64*k)))) 64)).toNat ATm.zero) (Int.tmod (wI (e+(wI (64*k)))) 64)))]
def AeL(e a k i:Int)(g:ASk)(j:Int)(l:ASs)(m0:Bool):Ex×St:=xN 85 [(1,dI e),(2,dI a),(3,Au),(6,A9),(7,Lb),(8,dI k),(9,dI (wI (e+(wI (64*k))))),(15,dI i),(16,dI k),(47,dB m0)] [.box (GK g),.box ta,.box (.pr (dI j) xx),C9 (l.set k.toNat (SG .u64 (g.2.1.getD (wI (Int.tdiv (wI (e+(wI (64*k)))) 64)).toNat ATm.zero) (Int.tmod (wI (e+(wI (64*k)))) 64)))]
theorem ADS e a k i g j l:Za E96 0 8 (sb (cd f175 116) 14) (pt 46) (Ant e a k i g j l)=some (AeL e a k i g j l (((Int.tmod (wI (e+(wI (64*k)))) 64) !=0)&&(decide ((wI ((wI (Int.tdiv (wI (e+(wI (64*k)))) 64))+1))<(g.2.1.length:Int))))):=by
 refine .trans (b:=
 bif (Int.tmod (wI (e+(wI (64*k)))) 64) !=0 then
 some (AeL e a k i g j l (decide ((wI ((wI (Int.tdiv (wI (e+(wI (64*k)))) 64))+1))<(g.2.1.length:Int))))
 else
 some (AeL e a k i g j l false)) (by kernel_rfl) ?_
 cases ((Int.tmod (wI (e+(wI (64*k)))) 64) !=0);rfl;rfl
def JB(e a i k:Int)(g:ASk)(j:Int)(l:ASs):ATC ASs:=
 if 0<=(wI (Int.tdiv (wI (e+(wI (64*k)))) 64))/\(wI (Int.tdiv (wI (e+(wI (64*k)))) 64))<g.2.1.length then
 if(Int.tmod (wI (e+(wI (64*k)))) 64)<(0:Int)then none else
 if 0<=k/\k<l.length then
 R3 (Ant e a k i g j l) (
 bif ((Int.tmod (wI (e+(wI (64*k)))) 64) !=0)&&(decide ((wI ((wI (Int.tdiv (wI (e+(wI (64*k)))) 64))+1))<(g.2.1.length:Int)))then
 if 0<=k/\k<(l.set k.toNat (SG .u64 (g.2.1.getD (wI (Int.tdiv (wI (e+(wI (64*k)))) 64)).toNat ATm.zero) (Int.tmod (wI (e+(wI (64*k)))) 64))).length then
 if 0<=(wI ((wI (Int.tdiv (wI (e+(wI (64*k)))) 64))+1))/\(wI ((wI (Int.tdiv (wI (e+(wI (64*k)))) 64))+1))<g.2.1.length then
 if(wI (64-(Int.tmod (wI (e+(wI (64*k)))) 64)))<(0:Int)then none else
 if 0<=k/\k<(l.set k.toNat (SG .u64 (g.2.1.getD (wI (Int.tdiv (wI (e+(wI (64*k)))) 64)).toNat ATm.zero) (Int.tmod (wI (e+(wI (64*k)))) 64))).length then
 some ((l.set k.toNat (SG .u64 (g.2.1.getD (wI (Int.tdiv (wI (e+(wI (64*k)))) 64)).toNat ATm.zero) (Int.tmod (wI (e+(wI (64*k)))) 64))).set k.toNat (iz .u64 ((l.set k.toNat (SG .u64 (g.2.1.getD (wI (Int.tdiv (wI (e+(wI (64*k)))) 64)).toNat ATm.zero) (Int.tmod (wI (e+(wI (64*k)))) 64))).getD k.toNat ATm.zero) (Ph .u64 (g.2.1.getD (wI ((wI (Int.tdiv (wI (e+(wI (64*k)))) 64))+1)).toNat ATm.zero) (wI (64-(Int.tmod (wI (e+(wI (64*k)))) 64))))))
 else none
 else none
 else none
 else
 some (l.set k.toNat (SG .u64 (g.2.1.getD (wI (Int.tdiv (wI (e+(wI (64*k)))) 64)).toNat ATm.zero) (Int.tmod (wI (e+(wI (64*k)))) 64))))
 else none
 else none
theorem ADT e a i k g j l:AP E96 0 9 (cd f175 116) 14 (ABl e a i k g j l) (JB e a i k g j l) (Aze e a i k g j l):=by
 unfold AP;simp(disch:=refine id ?_;kernel_rfl) only[JB,ASb,GN (ADS ..) (K:=Ud E96 0 9)];kernel_rfl
def Kp(e a:Int)(g:ASk)(i j k:Int)(l:ASs):ATC (ASP⊕ASs):=
 bif decide (k<i)then
 (JB e a i k g j l).bind λn=>some (.inl (wI (k+1),n))
 else
 some (.inr l)
def Hj e a g i j (z_:Int×ASs):=Kp e a g i j z_.1 z_.2
def Nt e a g i j k l:=fix (Hj e a g i j) (k,l)
theorem ADU e a g i j:A3 E96 0 3 (code f175) 58 (ABm e a g i j) (Hj e a g i j) (Azf e a g i j):=by
 intro _;simp(disch:=refine id ?_;kernel_rfl) only[Hj,Kp,ASb,A8 (ADT ..) (K:=Kk E96 0 3)];kernel_rfl
def Fa(g:ASk)(e a:Int):ATC ASP:=
 (GM a).bind λo=>(Nt e a g (o.2.length:Int) o.1 0 o.2).bind λb=>(Nu a b o.1).bind λd=>some (o.1,d)
def Au6:=Cc [.d Ah,.d ATl,.d ATl] [⟨[.AA [] Ah,.AA [] ATl,.AA [] ATl],[],ASP,λp=>Fa p.1.1 p.1.2.1 p.1.2.2.1,λr=>(.pr (dI r.1) Si,[C9 r.2])⟩]
theorem uv:Am prog 175 Au6:=As (fn:=f175) ⟨⟨E96,pk ⟨jM,trivial⟩,λ_ R K=>by
 simp(disch:=refine id ?_;kernel_rfl) only[Fa,ASc,Nt,AG (ADU _ _ _ _ _) (K:=A2 E96 f175 0 R K),A8 (ADV ..) (K:=A2 E96 f175 0 R K)];kernel_rfl⟩,trivial⟩
abbrev E97:=eN [(131,AuZ),(175,Au6)] {jc:=[(0,.row [3,1] 88 ATm true)]}
def O3(a:ASi)(b c:Int):ATC AS3:=
 bif a.1==(-1)then
 (Fa a.2.2.2.1 b c).bind λd=>some ((AK d.1 d.2).1,(AK d.1 d.2).2.1,(AK d.1 d.2).2.2.1,(AK d.1 d.2).2.2.2.1,(AK d.1 d.2).2.2.2.2)
 else
 some (a.1,wI (a.2.1+b),c,0,([]:ASs))
def AEU:=Cc [.d Af,.d ATl,.d ATl] [⟨[.AA [] Af,.AA [] ATl,.AA [] ATl],[],AS3,λp=>O3 p.1.1 p.1.2.1 p.1.2.2.1,λr=>(.pr (dI r.1) (.pr (dI r.2.1) (.pr (dI r.2.2.1) (.pr (.pr (dI r.2.2.2.1) Si) .u))),[C9 r.2.2.2.2])⟩]
theorem Age:Am prog 158 AEU:=As (fn:=f158) ⟨⟨E97,pk ⟨uh,uv,trivial⟩,λ_ R K=>by
 simp only[O3,ASc];kernel_rfl⟩,trivial⟩
abbrev E98:=eN [(133,Au0),(158,AEU)] {A4:=[(4,{Bc:=[1,2,7,8,14,15,16],Ce:=[(7,false,.row [] 142 Af false)]})],BD:=[(4,[7])],BR:=[(9,{Bc:=[1,2,7,8,10,14,15,16],Ce:=[(7,false,.row [] 142 Af false)]})],DR:=[(9,[1,2,7,8,10,11,12,14,15,16])],ig:=[(43,ATq)]}
def ABp a b c d (z_:Int×Int×ASz):=sT 51 [(1,dI a),(2,dI b),(7,.AH 0),(8,dI z_.1),(14,Dv c),(15,dI d),(16,dI z_.2.1)] [Cb z_.2.2]
def Azi(a b:Int)(c:ASz)(d:Int):=λ(e:ASz)=>xE 0 51 nM [Cb e]
def ABo a b g c d i j k l n:=sT 51 [(1,dI a),(2,dI b),(7,.AH 0),(8,dI g),(10,A9),(11,dI k),(12,dI l),(14,Dv c),(15,dI d),(16,dI i)] [Cb j,.box (OT n)]
def Azh a b g c d i (j:ASz) (k:Int) (l:Int) n:=λ(o:ASz)=>xN 51 [(1,dI a),(2,dI b),(7,.AH 0),(8,dI g),(10,A9),(14,Dv c),(15,dI d),(16,dI i)] [Cb o,.box (OT n)]
def NC(a b g:Int)(c:ASz)(d i:Int)(j:ASz)(k l:Int)(n:ASi):ATC ASz:=
 bif decide (k<l)then
 (O3 n (wI (k-g)) (wI (l-k))).bind λq=>(EM ([(q.1,q.2.1,q.2.2.1,(q.2.2.2.1,q.2.2.2.2,()),())]:ASz) j).bind λs=>some s
 else
 some j
theorem ADW a b g c d i j k l n:AP E98 0 9 (cd f134 244) 230 (ABo a b g c d i j k l n) (NC a b g c d i j k l n) (Azh a b g c d i j k l n):=by
 unfold AP;simp only[NC,ASb];kernel_rfl
def Kw(a b:Int)(c:ASz)(d g i:Int)(j:ASz):ATC ((Int×Int×ASz)⊕ASz):=
 bif decide (i<d)then
 if 0<=i/\i<c.length then
 (NC a b g c d i j (if g>a then g else a) (if(wI (g+(c.getD i.toNat Af.zero).2.2.1))<(wI (a+b))then(wI (g+(c.getD i.toNat Af.zero).2.2.1))else(wI (a+b))) (c.getD i.toNat Af.zero)).bind λo=>some (.inl (wI (g+(c.getD i.toNat Af.zero).2.2.1),wI (i+1),o))
 else none
 else
 some (.inr j)
def EH a b c d (z_:Int×Int×ASz):=Kw a b c d z_.1 z_.2.1 z_.2.2
def Sw a b c d g i j:=fix (EH a b c d) (g,i,j)
theorem ADX a b c d:A3 E98 0 4 (code f134) 122 (ABp a b c d) (EH a b c d) (Azi a b c d):=by
 intro _;simp(disch:=refine id ?_;kernel_rfl) only[EH,Kw,ASb,A8 (ADW ..) (K:=Kk E98 0 4)];kernel_rfl
def Fb(c:ASz)(a b:Int):ATC ASz:=
 (Sw a b c (c.length:Int) 0 0 ([]:ASz)).bind λe=>some e
def AEA:=Cc [.d ATq,.d ATl,.d ATl] [⟨[.AA [] ATq,.AA [] ATl,.AA [] ATl],[],ASz,λp=>Fb p.1.1 p.1.2.1 p.1.2.2.1,λr=>(.AH 0,[Cb r])⟩]
theorem AfU:Am prog 134 AEA:=As (fn:=f134) ⟨⟨E98,pk ⟨ui,Age,trivial⟩,λ_ R K=>by
 simp(disch:=refine id ?_;kernel_rfl) only[Fb,ASc,Sw,AG (ADX _ _ _ _) (K:=A2 E98 f134 0 R K)];kernel_rfl⟩,trivial⟩
noncomputable def AEB:Va.Callee:=bg 142 Af 56
noncomputable abbrev AFd:GV:={D7:=D7,fns:=Pb [],fi:={}}
theorem AlM:Jy Tryz.prog AFd:=(pk (l:=[]) trivial)
theorem AfV:Am Tryz.prog 135 AEB:=
 eU (fn:=Tryz.f135) AlM (by kernel_rfl) (by kernel_rfl) rfl rfl rfl ⟨rfl,rfl,rfl⟩ ⟨rfl,rfl,rfl⟩ (ti:=⟨.sl Af,[],142,24,0,0,false⟩) (by kernel_rfl) rfl (by kernel_rfl) (λxs=>by kernel_rfl) (λxs=>by kernel_rfl)
  λxs h=>by
   have h0:ev AFd 0 (sub (code Tryz.f135) [1,1]) (Ex×St) ⟨[.AA [] ATq xs,.un 0,.zs,.AA [] ATq xs,.bool false,.un 0,.un 0,.un 0],[]⟩ Sd=if xs.length*56<=140737488355328 then some (.ret,⟨[.AA [] ATq xs,.un 0,.AH 0,.AA [] ATq xs,.bool false,.zs,.AA [] ATq xs,.AH 0],[Cb xs]⟩)else none:=by kernel_rfl
   exact h0.trans (AQe h)
abbrev xU:=eN [(36,c36),(131,AuZ),(132,AkB),(133,Au0),(134,AEA),(135,AEB),(136,AkC)] {Av:=false,A4:=[(9,{Bc:=[2,7,8],Ce:=[(7,false,.row [] 142 Af false)]}),(27,{Bc:=[9,12,125,126],Ce:=[(12,false,.row [] 142 Af false)]}),(36,{Bc:=[13,14,151,152],Sp:=[(14,true,Af)]})],BD:=[(9,[7]),(27,[12]),(36,[13])],BR:=[(20,[0,9,10,69,88]),(23,[9,10,11]),(35,[0,13,14])],DR:=[(20,[0,9,10,69]),(23,[0,9,10,11]),(35,[0,9,10,13,14])],ig:=[(117,ATq),(156,ATq)]}
def ABv a b (z_:Int×ASz):=sT 160 [(13,.AH 0),(14,A9),(151,dI a),(152,dI z_.1)] [Cb z_.2,.box (OT b)]
def Azo(a:Int)(b:ASi):=λ(c:ASz)=>xE 6 160 [(13,.AH 0)] [Cb c]
def QA(a:Int)(b:ASi)(d:Int)(e:ASz):ATC (AS1⊕ASz):=
 bif decide (d<a)then
 (EM ([b]:ASz) e).bind λg=>some (.inl (wI (d+1),g))
 else
 some (.inr e)
def FB a b (z_:Int×ASz):=QA a b z_.1 z_.2
def LH a b d e:=fix (FB a b) (d,e)
theorem AD4 a b:A3 xU 0 36 (code f102) 4090 (ABv a b) (FB a b) (Azo a b):=by
 intro _;simp only[FB,QA,ASb];kernel_rfl
def ABu i j (z_:Int×ASz):=sT 160 [(13,.AH 0),(14,A9),(151,dI j),(152,dI z_.1)] [Cb z_.2,.box (OT i)]
def Azn(i:ASi)(j:Int):=λ(k:ASz)=>xE 6 160 [(13,.AH 0)] [Cb k]
def Qz(i:ASi)(j l:Int)(n:ASz):ATC (AS1⊕ASz):=
 bif decide (l<j)then
 (EM ([i]:ASz) n).bind λo=>some (.inl (wI (l+1),o))
 else
 some (.inr n)
def FA i j (z_:Int×ASz):=Qz i j z_.1 z_.2
def LG i j l n:=fix (FA i j) (l,n)
theorem AD3 i j:A3 xU 0 36 (code f102) 4090 (ABu i j) (FA i j) (Azn i j):=by
 intro _;simp only[FA,Qz,ASb];kernel_rfl
def ABt q s t u v w x y a1:=sT 160 [(0,.Fw [] Ag q),(9,Dv t),(10,dI s),(13,.AH 0),(14,A9)] [Cb u,.box (.pr (dI v) (.pr (dI w) (.pr (dI x) (.pr (.pr (dI y) Zt) .u)))),C9 a1]
def Azm q (s:Int) (t:ASz) u v w x y a1:=Sum.elim (λ(i:ASi)=>xN 160 [(0,.Fw [] Ag q),(13,.AH 0),(14,A9)] [Cb u,.box (OT i)]) (λ(b1:Unit)=>xN 160 [(0,.Fw [] Ag q),(13,.AH 0),(14,A9)] [Cb u,.box (.pr (dI v) (.pr (dI w) (.pr (dI x) (.pr (.pr (dI y) Zt) .u)))),C9 a1])
def Ct(q:ASj)(s:Int)(t u:ASz)(v w x y:Int)(a1:ASs):ATC (ASi⊕Unit):=
 bif q.1==6 then
 (Fb t (wI (s-1)) 1).bind λc1=>if(0:Int)<=(0:Int)/\(0:Int)<(c1.length:Int)then
 some (.inl (c1.getD 0 Af.zero))
 else none
 else
 some (.inr ())
theorem AD2 q s t u v w x y a1:AP xU 0 35 (code f102) 510 (ABt q s t u v w x y a1) (Ct q s t u v w x y a1) (Azm q s t u v w x y a1):=by
 unfold AP;simp only[Ct,ASb];kernel_rfl
def ABs d1 e1 (z_:Int×ASz):=sT 160 [(9,Dv d1),(12,.AH 0),(125,dI e1),(126,dI z_.1)] [Cb z_.2]
def Azl(d1:ASz)(e1:Int):=λ(g1:ASz)=>xE 4 160 [(12,.AH 0)] [Cb g1]
def Fz(d1:ASz)(e1 i1:Int)(j1:ASz):ATC (AS1⊕ASz):=
 bif decide (i1<e1)then
 (EM d1 j1).bind λk1=>some (.inl (wI (i1+1),k1))
 else
 some (.inr j1)
def Cy d1 e1 (z_:Int×ASz):=Fz d1 e1 z_.1 z_.2
def HH d1 e1 i1 j1:=fix (Cy d1 e1) (i1,j1)
theorem AD1 d1 e1:A3 xU 0 27 (code f102) 257002 (ABs d1 e1) (Cy d1 e1) (Azl d1 e1):=by
 intro _;simp only[Cy,Fz,ASb];kernel_rfl
def ABr q s l1 n1:=sT 160 [(0,.Fw [] Ag q),(9,Dv l1),(10,dI s),(11,dI n1)] []
def Azk(q:ASj) s l1 (n1:Int):=λ(o1:Int)=>xN 160 [(9,Dv l1),(10,dI s),(11,dI o1)] []
def EB(q:ASj)(s:Int)(l1:ASz)(n1:Int):ATC Int:=
 bif q.1==8 then
 if s=(0:Int)then none else
 some (Int.tmod (wI (s-n1)) s)
 else
 some n1
theorem AD0 q s l1 n1:AP xU 0 23 (code f102) 16058 (ABr q s l1 n1) (EB q s l1 n1) (Azk q s l1 n1):=by
 unfold AP;simp only[EB,ASb];kernel_rfl
def Anu q (q1:ASJ) s:=sT 160 [(0,.Fw [] Ag q),(9,Dv (q1.getD 0 ATq.zero)),(10,dI s),(69,dI q.1)] []
def AeM(q:ASj)(q1:ASJ)(s:Int)(m0:Bool):Ex×St:=xN 160 [(0,.Fw [] Ag q),(9,Dv (q1.getD 0 ATq.zero)),(10,dI s),(69,dI q.1),(88,dB m0)] []
theorem ADZ q q1 s:Za xU 0 20 (code f102) (pt 2006) (Anu q q1 s)=some (AeM q q1 s (bif q.1==7 then(q.1==7)else(q.1==8))):=by
 refine .trans (b:=
 bif q.1==7 then
 some (AeM q q1 s (q.1==7))
 else
 some (AeM q q1 s (q.1==8))) (by kernel_rfl) ?_
 cases (q.1==7);rfl;rfl
def ABq q1 (z_:Int×ASz):=sT 160 [(2,Oo q1),(7,.AH 0),(8,dI z_.1)] [Cb z_.2]
def Azj(q1:ASJ):=λ(s1:ASz)=>xE 1 160 nM [Cb s1]
def Fy(q1:ASJ)(t1:Int)(u1:ASz):ATC (AS1⊕ASz):=
 bif decide (t1>=0)then
 if 0<=t1/\t1<q1.length then
 (EM (q1.getD t1.toNat ATq.zero) u1).bind λv1=>some (.inl (wI (t1-1),v1))
 else none
 else
 some (.inr u1)
def Cx q1 (z_:Int×ASz):=Fy q1 z_.1 z_.2
def LF q1 t1 u1:=fix (Cx q1) (t1,u1)
theorem ADY q1:A3 xU 0 9 (code f102) 27626 (ABq q1) (Cx q1) (Azj q1):=by
 intro _;simp only[Cx,Fy,ASb];kernel_rfl
def Hm(q:ASj)(w1:ASw)(q1:ASJ):ATC ASz:=
 bif q.1==1 then
 if(0:Int)<=q.2.1/\q.2.1<(w1.length:Int)then
 some ([(q.2.1,0,(w1.getD q.2.1.toNat Ab.zero).2.1,(0,([]:ASs),()),())]:ASz)
 else none
 else
 bif q.1==2 then
 (Dk q.2.2.2.2.1).bind λx1=>some ([((AK x1.1 x1.2).1,(AK x1.1 x1.2).2.1,(AK x1.1 x1.2).2.2.1,((AK x1.1 x1.2).2.2.2.1,(AK x1.1 x1.2).2.2.2.2,()),())]:ASz)
 else
 bif q.1==3 then
 (LF q1 (wI ((q1.length:Int)-1)) ([]:ASz)).bind λs1=>some s1
 else
 if(0:Int)<=(0:Int)/\(0:Int)<(q1.length:Int)then
 (Hp (q1.getD 0 ATq.zero)).bind λs=>bif q.1==4 then
 (Fb (q1.getD 0 ATq.zero) q.2.2.2.1 (wI ((wI (q.2.2.1-q.2.2.2.1))+1))).bind λy1=>some y1
 else
 R3 (Anu q q1 s) (
 bif bif (q.1==7)then(q.1==7)else(q.1==8)then
 if s=(0:Int)then none else
 (EB q s (q1.getD 0 ATq.zero) (Int.tmod q.2.2.1 s)).bind λo1=>(Fb (q1.getD 0 ATq.zero) (wI (s-o1)) o1).bind λa2=>(Fb (q1.getD 0 ATq.zero) 0 (wI (s-o1))).bind λb2=>(EM b2 a2).bind λc2=>some c2
 else
 bif q.1==9 then
 (HH (q1.getD 0 ATq.zero) q.2.2.1 0 ([]:ASz)).bind λg1=>some g1
 else
 if(q1.getD 0 ATq.zero).length*56<=140737488355328 then
 (GM 1).bind λd2=>(Ct q s (q1.getD 0 ATq.zero) (q1.getD 0 ATq.zero) (AK d2.1 d2.2).1 (AK d2.1 d2.2).2.1 (AK d2.1 d2.2).2.2.1 (AK d2.1 d2.2).2.2.2.1 (AK d2.1 d2.2).2.2.2.2).bind (Sum.elim (λi=>(LG i q.2.2.1 0 (q1.getD 0 ATq.zero)).bind λk=>some k) (λb1=>(LH q.2.2.1 ((AK d2.1 d2.2).1,(AK d2.1 d2.2).2.1,(AK d2.1 d2.2).2.2.1,((AK d2.1 d2.2).2.2.2.1,(AK d2.1 d2.2).2.2.2.2,()),()) 0 (q1.getD 0 ATq.zero)).bind λc=>some c))
 else none)
 else none
def AEa:=Cc [.p Ag,.d ATr,.d ATz] [⟨[.Fw [] Ag,.AA [] ATr,.AA [] ATz],[],ASz,λp=>Hm p.1.1 p.1.2.1 p.1.2.2.1,λr=>(.AH 0,[Cb r])⟩]
theorem Aft:Am prog 102 AEa:=As (fn:=f102) ⟨⟨xU,pk ⟨Aaw,uh,jL,ui,AfU,AfV,jM,trivial⟩,λ_ R K=>by
 simp(disch:=refine id ?_;kernel_rfl) only[Hm,ASc,LF,AG (ADY _) (K:=A2 xU f102 0 R K),GN (ADZ ..) (K:=A2 xU f102 0 R K),A8 (AD0 ..) (K:=A2 xU f102 0 R K),HH,AG (AD1 _ _) (K:=A2 xU f102 0 R K),A8 (AD2 ..) (K:=A2 xU f102 0 R K),LG,AG (AD3 _ _) (K:=A2 xU f102 0 R K),LH,AG (AD4 _ _) (K:=A2 xU f102 0 R K)];kernel_rfl⟩,trivial⟩
abbrev Aou:=eN [(132,AkB)] {A4:=[(3,[3,9,10,11])],BD:=[(3,[3])]}
def AqV a b (z_:Int×ASz):=sT 26 [(3,.AH 0),(9,Dv a),(10,dI b),(11,dI z_.1)] [Cj z_.2]
def Ao5(a:ASz)(b:Int):=λ(c:ASz)=>xE 0 26 mb [Cj c]
def Jg(a:ASz)(b d:Int)(e:ASz):ATC (AS1⊕ASz):=
 bif decide (d<b)then
 if 0<=d/\d<a.length then
 (Dk (a.getD d.toNat Af.zero).2.2.2.1).bind λg=>if 0<=d/\d<e.length then
 some (.inl (wI (d+1),e.set d.toNat ((a.getD d.toNat Af.zero).1,(a.getD d.toNat Af.zero).2.1,(a.getD d.toNat Af.zero).2.2.1,(g.1,g.2,()),(a.getD d.toNat Af.zero).2.2.2.2)))
 else none
 else none
 else
 some (.inr e)
def C4 a b (z_:Int×ASz):=Jg a b z_.1 z_.2
def QZ a b d e:=fix (C4 a b) (d,e)
theorem AsM a b:A3 Aou 0 3 (code f103) 58 (AqV a b) (C4 a b) (Ao5 a b):=by
 intro _;simp only[C4,Jg,ASb];kernel_rfl
def MS(a:ASz):ATC ASz:=
 if Ty.row Af=true/\(0:Int)<=(a.length:Int)/\(a.length:Int)<=(a.length:Int)/\((56:Nat):Int)*(a.length:Int)<=(281474976710656:Int)/\(a.length:Int)<=(9223372036854775807:Int)then
 (QZ a (a.length:Int) 0 (List.replicate (a.length:Int).toNat (0,0,0,(0,([]:ASs),()),()))).bind λc=>some c
 else none
def AEb:=Cc [.d ATq] [⟨[.AA [] ATq],[],ASz,λp=>MS p.1.1,λr=>(.AH 0,[Cj r])⟩]
theorem Afu:Am prog 103 AEb:=As (fn:=f103) ⟨⟨Aou,pk ⟨jL,trivial⟩,λ_ R K=>by
 simp(disch:=refine id ?_;kernel_rfl) only[MS,ASc,QZ,AG (AsM _ _) (K:=A2 Aou f103 0 R K)];kernel_rfl⟩,trivial⟩
abbrev Ael:=eN [(102,AEa),(103,AEb)] {Av:=false,A4:=[(3,[0,3,6,18,19]),(8,[0,3,6,7,8,9,18,19,35,36,37])],BD:=[(3,{Bc:=[4,5,6],Sp:=[(6,false,ATz)]}),(8,{Bc:=[0,3,6,7,8,9,18,19],Sp:=[(9,false,ATz)]})],jc:=[(0,.row [] 142 Af true)]}
def AqX a b c (z_:Int×ASJ):=sT 71 [(0,Ar a),(3,Au),(6,.AH 1),(18,dI c),(19,dI z_.1)] [.box (Qr b),jl z_.2]
def Ao7(a:ASw)(b:ASq)(c:Int):=Sum.elim (λ(d:ASJ)=>xR 71 [(4,.zs),(5,dB false),(6,Oo d)] []) (λ(e:ASJ)=>xE 0 71 [(6,Oo e)] [])
def AqW a g c b i j k l (z_:Int×ASJ):=sT 71 [(0,Ar a),(3,Au),(6,.AH 1),(7,dI g),(8,.Fw [] Ag j),(9,.AH 2),(18,dI c),(19,dI g),(35,DT k),(36,dI l),(37,dI z_.1)] [.box (Qr b),jl i,jl z_.2]
def Ao6 a g c b i j (k:ASs) (l:Int):=λ(n:ASJ)=>xE 2 71 [(0,Ar a),(3,Au),(6,.AH 1),(7,dI g),(8,.Fw [] Ag j),(9,Oo n),(18,dI c),(19,dI g)] [.box (Qr b),jl i]
def L0(a:ASw)(g c:Int)(b:ASq)(i:ASJ)(j:ASj)(k:ASs)(l o:Int)(q:ASJ):ATC ((Int×ASJ)⊕ASJ):=
 bif decide (o<l)then
 if 0<=o/\o<k.length then
 if(0:Int)<=(k.getD o.toNat ATl.zero)/\(k.getD o.toNat ATl.zero)<(i.length:Int)then
 if 0<=o/\o<q.length then
 some (.inl (wI (o+1),q.set o.toNat (i.getD (k.getD o.toNat ATl.zero).toNat ATq.zero)))
 else none
 else none
 else none
 else
 some (.inr q)
def FC a g c b i j k l (z_:Int×ASJ):=L0 a g c b i j k l z_.1 z_.2
def T7 a g c b i j k l o q:=fix (FC a g c b i j k l) (o,q)
theorem AsN a g c b i j k l:A3 Ael 0 8 (cd f68 116) 1850 (AqW a g c b i j k l) (FC a g c b i j k l) (Ao6 a g c b i j k l):=by
 intro _;simp only[FC,L0,ASb];kernel_rfl
def Q1(a:ASw)(b:ASq)(c g:Int)(i:ASJ):ATC ((Int×ASJ)⊕(ASJ⊕ASJ)):=
 bif decide (g<c)then
 if 0<=g/\g<b.1.length then
 if Ty.row ATq=true/\(0:Int)<=((b.1.getD g.toNat Ag.zero).2.2.2.2.2.1.length:Int)/\((b.1.getD g.toNat Ag.zero).2.2.2.2.2.1.length:Int)<=((b.1.getD g.toNat Ag.zero).2.2.2.2.2.1.length:Int)/\((24:Nat):Int)*((b.1.getD g.toNat Ag.zero).2.2.2.2.2.1.length:Int)<=(281474976710656:Int)/\((b.1.getD g.toNat Ag.zero).2.2.2.2.2.1.length:Int)<=(9223372036854775807:Int)then
 (T7 a g c b i (b.1.getD g.toNat Ag.zero) (b.1.getD g.toNat Ag.zero).2.2.2.2.2.1 ((b.1.getD g.toNat Ag.zero).2.2.2.2.2.1.length:Int) 0 (List.replicate ((b.1.getD g.toNat Ag.zero).2.2.2.2.2.1.length:Int).toNat ([]:ASz))).bind λn=>(Hm (b.1.getD g.toNat Ag.zero) a n).bind λs=>if 0<=g/\g<i.length then
 if 0<=g/\g<(i.set g.toNat s).length then
 bif decide ((((i.set g.toNat s).getD g.toNat ATq.zero).length:Int)>2000)then
 some (.inr (.inl (i.set g.toNat s)))
 else
 some (.inl (wI (g+1),i.set g.toNat s))
 else none
 else none
 else none
 else none
 else
 some (.inr (.inr i))
def L3 a b c (z_:Int×ASJ):=Q1 a b c z_.1 z_.2
def Yj a b c g i:=fix (L3 a b c) (g,i)
theorem AsO a b c:A3 Ael 0 3 (code f68) 58 (AqX a b c) (L3 a b c) (Ao7 a b c):=by
 intro _;simp(disch:=refine id ?_;kernel_rfl) only[L3,Q1,ASb,T7,AG (AsN _ _ _ _ _ _ _ _) (K:=Kk Ael 0 3)];kernel_rfl
def Iu(a:ASw)(b:ASq):ATC ASV:=
 if Ty.row ATq=true/\(0:Int)<=(b.1.length:Int)/\(b.1.length:Int)<=(b.1.length:Int)/\((24:Nat):Int)*(b.1.length:Int)<=(281474976710656:Int)/\(b.1.length:Int)<=(9223372036854775807:Int)then
 (Yj a b (b.1.length:Int) 0 (List.replicate (b.1.length:Int).toNat ([]:ASz))).bind (Sum.elim (λd=>some (false,([]:ASz))) (λe=>if 0<=(wI ((e.length:Int)-1))/\(wI ((e.length:Int)-1))<e.length then
 (MS (e.getD (wI ((e.length:Int)-1)).toNat ATq.zero)).bind λt=>some (true,t)
 else none))
 else none
def c68:=Cc [.d ATr,.d Aw] [⟨[.AA [] ATr,.AA [] Aw],[],ASV,λp=>Iu p.1.1 p.1.2.1,λr=>(.cons Kd (.cons (dB r.1) .nil),[Cj r.2])⟩]
theorem Alh:Am prog 68 c68:=As (fn:=f68) ⟨⟨Ael,pk ⟨Aft,Afu,trivial⟩,λ_ R K=>by
 simp(disch:=refine id ?_;kernel_rfl) only[Iu,ASc,Yj,AG (AsO _ _ _) (K:=A2 Ael f68 0 R K)];kernel_rfl⟩,trivial⟩
abbrev Aem:=eN [(68,c68)] {A4:=[(3,[0,6,16,17,18])],BD:=[(3,[4,5,6])],BR:=[(8,[0,6,7,9,11,16,17,18,42])],DR:=[(8,[0,6,7,9,10,11,12,16,17,18])],jc:=[(0,.row [] 222 (.AE ATq (.AE ATq .unit)) true)]}
def AqY a b c (z_:Int×ATg):=sT 51 [(0,Ar a),(6,.AH 0),(16,Bw b),(17,dI c),(18,dI z_.1)] [C8 z_.2]
def Ao8(a:ASw)(b:ASy)(c:Int):=Sum.elim (λ(d:ATg)=>xR 51 [(4,.zs),(5,dB false),(6,.AH 0)] [C8 d]) (λ(e:ATg)=>xE 0 51 xn [C8 e])
def AeO a g (i:ASV) (j:ASV) b c k:=sT 51 [(0,Ar a),(6,.AH 0),(7,dI g),(9,.AH 1),(10,dB i.1),(11,.AH 2),(12,dB j.1),(16,Bw b),(17,dI c),(18,dI g)] [C8 k,Cj i.2,Cj j.2]
def xZ(a:ASw)(g:Int)(i j:ASV)(b:ASy)(c:Int)(k:ATg)(m0:Bool):Ex×St:=xN 51 [(0,Ar a),(6,.AH 0),(7,dI g),(9,.AH 1),(11,.AH 2),(16,Bw b),(17,dI c),(18,dI g),(42,dB m0)] [C8 k,Cj i.2,Cj j.2]
theorem AsP a g i j b c k:Za Aem 0 8 (cd f105 116) (pt 924) (AeO a g i j b c k)=some (xZ a g i j b c k ((!i.1)||(!j.1))):=by
 refine .trans (b:=
 bif !i.1 then
 some (xZ a g i j b c k true)
 else
 some (xZ a g i j b c k (!j.1))) (by kernel_rfl) ?_
 cases (!i.1);rfl;rfl
def T8(a:ASw)(b:ASy)(c g:Int)(k:ATg):ATC ((Int×ATg)⊕(ATg⊕ATg)):=
 bif decide (g<c)then
 if 0<=g/\g<b.length then
 (Iu a (b.getD g.toNat Ae.zero).2.2.1).bind λi=>(Iu a (b.getD g.toNat Ae.zero).2.2.2.1).bind λj=>R3 (AeO a g i j b c k) (
 bif (!i.1)||(!j.1)then
 some (.inr (.inl k))
 else
 if 0<=g/\g<k.length then
 some (.inl (wI (g+1),k.set g.toNat (i.2,j.2,())))
 else none)
 else none
 else
 some (.inr (.inr k))
def Pu a b c (z_:Int×ATg):=T8 a b c z_.1 z_.2
def aC a b c g k:=fix (Pu a b c) (g,k)
theorem AsQ a b c:A3 Aem 0 3 (code f105) 58 (AqY a b c) (Pu a b c) (Ao8 a b c):=by
 intro _;simp(disch:=refine id ?_;kernel_rfl) only[Pu,T8,ASb,GN (AsP ..) (K:=Kk Aem 0 3)];kernel_rfl
def Qd(a:ASw)(b:ASy):ATC (Bool×ATg):=
 if Ty.row (.AE ATq (.AE ATq .unit))=true/\(0:Int)<=(b.length:Int)/\(b.length:Int)<=(b.length:Int)/\((48:Nat):Int)*(b.length:Int)<=(281474976710656:Int)/\(b.length:Int)<=(9223372036854775807:Int)then
 (aC a b (b.length:Int) 0 (List.replicate (b.length:Int).toNat (([]:ASz),([]:ASz),()))).bind (Sum.elim (λd=>some (false,([]:ATB ATa))) (λe=>some (true,e)))
 else none
def Aky:=Cc [.d ATr,.d ATt] [⟨[.AA [] ATr,.AA [] ATt],[],Bool×ATg,λp=>Qd p.1.1 p.1.2.1,λr=>(.cons Kd (.cons (dB r.1) .nil),[C8 r.2])⟩]
theorem jK:Am prog 105 Aky:=As (fn:=f105) ⟨⟨Aem,pk ⟨Alh,trivial⟩,λ_ R K=>by
 simp(disch:=refine id ?_;kernel_rfl) only[Qd,ASc,aC,AG (AsQ _ _ _) (K:=A2 Aem f105 0 R K)];kernel_rfl⟩,trivial⟩
abbrev AHE:=eN [(104,AEc),(105,Aky)] {}
def LZ(a:ASw)(b:ASy):ATC Bool:=
 (Ld a b).bind λc=>bif !c then
 some false
 else
 (Qd a b).bind λd=>some d.1
def c69:=Cc [.d ATr,.d ATt] [⟨[.AA [] ATr,.AA [] ATt],[],Bool,λp=>LZ p.1.1 p.1.2.1,λr=>(dB r,[])⟩]
theorem Ali:Am prog 69 c69:=As (fn:=f69) ⟨⟨AHE,pk ⟨Afv,jK,trivial⟩,λ_ R K=>by
 simp only[LZ,ASc];kernel_rfl⟩,trivial⟩
abbrev Aen:=eN [] {Av:=false,A4:=[(3,{Bc:=[3,7,8,9],Ce:=[(3,false,.row [] 61 Ae false)]})],BD:=[(3,[3])],BR:=[(7,{Bc:=[3,7,8,9],Ce:=[(3,false,.row [] 61 Ae false)]})],DR:=[(7,[3,7,8,9])]}
def Aq0 a b (z_:Int×ASy):=sT 21 (AjJ a b z_.1) [Tl z_.2]
def Apa(a:ASy)(b:Int):=λ(c:ASy)=>xE 0 21 mb [Tl c]
def AqZ a b d e:=sT 21 (AjJ a b d) [Tl e]
def Ao9 a b d (e:ASy):=λ(g:ASy)=>xN 21 (AjJ a b d) [Tl g]
def Ku(a:ASy)(b d:Int)(e:ASy):ATC ASy:=
 if 0<=d/\d<a.length then
 bif (a.getD d.toNat Ae.zero).2.1 then
 if(e.length+([a.getD d.toNat Ae.zero]:ASy).length)*64<=140737488355328 then
 some (e++([a.getD d.toNat Ae.zero]:ASy))
 else none
 else
 some e
 else none
theorem AsR a b d e:AP Aen 0 7 (cd f71 116) 14 (AqZ a b d e) (Ku a b d e) (Ao9 a b d e):=by
 unfold AP;simp only[Ku,ASb];kernel_rfl
def Ir(a:ASy)(b d:Int)(e:ASy):ATC (AS2⊕ASy):=
 bif decide (d<b)then
 (Ku a b d e).bind λg=>some (.inl (wI (d+1),g))
 else
 some (.inr e)
def Dz a b (z_:Int×ASy):=Ir a b z_.1 z_.2
def Qb a b d e:=fix (Dz a b) (d,e)
theorem AsS a b:A3 Aen 0 3 (code f71) 58 (Aq0 a b) (Dz a b) (Apa a b):=by
 intro _;simp(disch:=refine id ?_;kernel_rfl) only[Dz,Ir,ASb,A8 (AsR ..) (K:=Kk Aen 0 3)];kernel_rfl
def Lf(a:ASy):ATC ASy:=
 (Qb a (a.length:Int) 0 ([]:ASy)).bind λc=>some c
def c71:=Cc [.d ATt] [⟨[.AA [] ATt],[],ASy,λp=>Lf p.1.1,λr=>(.AH 0,[Tl r])⟩]
theorem Alk:Am prog 71 c71:=As (fn:=f71) ⟨⟨Aen,pk trivial,λ_ R K=>by
 simp(disch:=refine id ?_;kernel_rfl) only[Lf,ASc,Qb,AG (AsS _ _) (K:=A2 Aen f71 0 R K)];kernel_rfl⟩,trivial⟩
abbrev AHF:=eN [] {}
def TA(a:ASw):ATC ASG:=
 if Ty.row ATo=true/\(0:Int)<=(a.length:Int)/\(a.length:Int)<=(a.length:Int)/\((24:Nat):Int)*(a.length:Int)<=(281474976710656:Int)/\(a.length:Int)<=(9223372036854775807:Int)then
 some (List.replicate (a.length:Int).toNat ([]:ASs))
 else none
def c72:=Cc [.d ATr] [⟨[.AA [] ATr],[],ASG,λp=>TA p.1.1,λr=>(.pr Kd .u,[Bl r])⟩]
theorem Alm:Am prog 72 c72:=As (fn:=f72) ⟨⟨AHF,pk trivial,λ_ R K=>by
 simp only[TA,ASc];kernel_rfl⟩,trivial⟩
abbrev Aeo:=eN [(65,c65)] {A4:=[(4,[0,17,18,19]),(8,[0,5,7,17,18,19,24,25,26])],BD:=[(4,[4]),(8,[0,4,17,18,19])]}
def Aq2 a b c (z_:Int):=sT 44 [(0,Ar a),(17,Dw b),(18,dI c),(19,dI z_)] []
def Apc(a:ASw)(b:ASG)(c:Int):=Sum.elim (λ(d:Unit)=>xR 44 fW []) (λ(e:Unit)=>xE 0 44 [] [])
def Aq1 a g b c i j (z_:Int×Int):=sT 44 [(0,Ar a),(5,dI g),(7,dI z_.1),(17,Dw b),(18,dI c),(19,dI g),(24,DT i),(25,dI j),(26,dI z_.2)] []
def Apb a g b c (i:ASs) (j:Int):=Sum.elim (λ(k:Unit)=>xR 44 [(0,Ar a),(4,dB false),(17,Dw b),(18,dI c),(19,dI g)] []) (λ(l:Unit)=>xE 2 44 [(0,Ar a),(17,Dw b),(18,dI c),(19,dI g)] [])
def Nz(a:ASw)(g:Int)(b:ASG)(c:Int)(i:ASs)(j n o:Int):ATC (ASR⊕(Unit⊕Unit)):=
 bif decide (o<j)then
 if 0<=o/\o<i.length then
 if 0<=g/\g<a.length then
 bif !(AQ (i.getD o.toNat ATl.zero) (wI (n+1)) (wI ((a.getD g.toNat Ab.zero).2.1-1)))then
 some (.inr (.inl ()))
 else
 some (.inl (i.getD o.toNat ATl.zero,wI (o+1)))
 else none
 else none
 else
 some (.inr (.inr ()))
def GZ a g b c i j (z_:Int×Int):=Nz a g b c i j z_.1 z_.2
def Y7 a g b c i j n o:=fix (GZ a g b c i j) (n,o)
theorem AsT a g b c i j:A3 Aeo 0 8 (cd f160 116) 462 (Aq1 a g b c i j) (GZ a g b c i j) (Apb a g b c i j):=by
 intro _;simp only[GZ,Nz,ASb];kernel_rfl
def NA(a:ASw)(b:ASG)(c g:Int):ATC (Int⊕(Unit⊕Unit)):=
 bif decide (g<c)then
 if 0<=g/\g<b.length then
 (Y7 a g b c (b.getD g.toNat ATo.zero) ((b.getD g.toNat ATo.zero).length:Int) 0 0).bind (Sum.elim (λk=>some (.inr (.inl ()))) (λl=>some (.inl (wI (g+1)))))
 else none
 else
 some (.inr (.inr ()))
def JF a b c (z_:Int):=NA a b c z_
def Y8 a b c g:=fix (JF a b c) g
theorem AsU a b c:A3 Aeo 0 4 (code f160) 58 (Aq2 a b c) (JF a b c) (Apc a b c):=by
 intro _;simp(disch:=refine id ?_;kernel_rfl) only[JF,NA,ASb,Y7,AG (AsT _ _ _ _ _ _) (K:=Kk Aeo 0 4)];kernel_rfl
def Tz(a:ASw)(q:ASl):ATC Bool:=
 bif (q.1.length:Int) !=(a.length:Int)then
 some false
 else
 (Y8 a q.1 (q.1.length:Int) 0).bind (Sum.elim (λd=>some false) (λe=>some true))
def AEV:=Cc [.d ATr,.d Ak] [⟨[.AA [] ATr,.AA [] Ak],[],Bool,λp=>Tz p.1.1 p.1.2.1,λr=>(dB r,[])⟩]
theorem Agf:Am prog 160 AEV:=As (fn:=f160) ⟨⟨Aeo,pk ⟨ZA,trivial⟩,λ_ R K=>by
 simp(disch:=refine id ?_;kernel_rfl) only[Tz,ASc,Y8,AG (AsU _ _ _) (K:=A2 Aeo f160 0 R K)];kernel_rfl⟩,trivial⟩
abbrev AHG:=eN [(33,c33),(160,AEV)] {}
def Tx(a:ASw)(b:ASl):ATC Bool:=
 (Nv a).bind λc=>bif c then
 (Tz a b).bind λd=>some d
 else
 some false
def AEC:=Cc [.d ATr,.d Ak] [⟨[.AA [] ATr,.AA [] Ak],[],Bool,λp=>Tx p.1.1 p.1.2.1,λr=>(dB r,[])⟩]
theorem AfW:Am prog 138 AEC:=As (fn:=f138) ⟨⟨AHG,pk ⟨Aav,Agf,trivial⟩,λ_ R K=>by
 simp only[Tx,ASc];kernel_rfl⟩,trivial⟩
abbrev Aov:=eN [] {vV:=[(39,4)],BR:=[(1,[0,1,2,32])],DR:=[(1,[0,1,2])],WO:=[.mv 0 [3],.Ba 3]}
def Aq3(a:Int) b c d e g:=sT 54 [(0,.ptr 0 a [] 0),(1,dI b),(2,dI c)] [.box (.pr (Ar d) Ab5),Ca e,.Ba,Fv g]
def Apd(a:Int) b c d e g:=λ(i:Bool)=>xN 54 [(0,.ptr 0 a [] 0),(1,dI b),(2,dI c),(32,dB i)] [.box (.pr (Ar d) Ab5),Ca e,.Ba,Fv g]
def Hn(a b c:Int)(d:ASw)(e:ASH)(g:ASv):ATC Bool:=
 bif decide (c>0)then
 if 0<=b/\b<d.length then
 bif decide (c<(d.getD b.toNat Ab.zero).2.1)then
 if 0<=b/\b<e.length then
 if 0<=c/\c<(e.getD b.toNat ATs.zero).length then
 some (!((e.getD b.toNat ATs.zero).getD c.toNat (Ty.zero .bool)))
 else none
 else none
 else
 some false
 else none
 else
 some false
theorem AsV a b c d e g:AP Aov 4 1 (code f161) 2 (Aq3 a b c d e g) (Hn a b c d e g) (Apd a b c d e g):=by
 unfold AP;simp only[Hn,ASb];kernel_rfl
def BN(a b c:Int)(d:ASw)(e:ASH)(g:ASv):ATC ASS:=
 (Hn a b c d e g).bind λi=>bif i then
 if 0<=b/\b<e.length then
 if(0:Int)<=c/\c<(e.getD b.toNat ATs.zero).length then
 if(g.length+([(b,c,())]:ASv).length)*16<=140737488355328 then
 some (d,e.set b.toNat ((e.getD b.toNat ATs.zero).set c.toNat true),g++([(b,c,())]:ASv))
 else none
 else none
 else none
 else
 some (d,e,g)
def AkH:=An8 [2] (Cc [.UY,.d ATl,.d ATl] [⟨[.ptr 0 [] 0,.AA [] ATl,.AA [] ATl],[.box (.pr (.AA [] ATr) (.pr (.k Gl) (.pr (.k (.mp 2)) (.pr (.k (.AH 3)) (.k .u))))),.row 95 .Av ATs,.Ba,.row 227 .Av Aa],ASS,λp=>BN p.1.1 p.1.2.1 p.1.2.2.1 p.2.1.1 p.2.2.1 p.2.2.2.2.1,λr=>(.nil,[.box (.pr (Ar r.1) (.pr Gl (.pr (.mp 2) (.pr Ox .u)))),Ca r.2.1,.Ba,.Ba,Fv r.2.2])⟩])
theorem jO:Am prog 161 AkH:=AhM _ (As (fn:=f161) ⟨⟨Aov,pk trivial,λ_ R K=>by
 simp(disch:=refine id ?_;kernel_rfl) only[BN,ASc,A8 (AsV ..) (K:=A2 Aov f161 4 R K)];kernel_rfl⟩,trivial⟩)
abbrev Aep:=eN [(161,AkH)] {A4:=[(3,{Bc:=[3,5,17,18,19],Ce:=[(5,true,.row [3] 227 Aa true)]}),(7,{Bc:=[3,5,6,17,18,19,37,38,39],Ce:=[(5,true,.row [3] 227 Aa true)]})],BD:=[(3,[5]),(7,[3,5,17,18,19])]}
def Aq5 a b c (z_:Int×ASw×ASH×ASv):=sT 50 [(3,Au),(5,A9),(17,Ar a),(18,dI c),(19,dI z_.1)] [.box (BV b),.box (.pr (Ar z_.2.1) AjW),Ca z_.2.2.1,HE ([]:ATB ASM) none,Fv z_.2.2.2]
def Apf(a:ASw)(b:ASl)(c:Int):=λ(d:ASS)=>xE 0 50 [(5,Au)] [.box (.pr (Ar d.1) Ab5),Ca d.2.1,HE ([]:ATB ASM) none,Fv d.2.2]
def Aq4 e a c b g i (z_:Int×ASw×ASH×ASv):=sT 50 [(3,Au),(5,A9),(6,dI e),(17,Ar a),(18,dI c),(19,dI e),(37,DT g),(38,dI i),(39,dI z_.1)] [.box (BV b),.box (.pr (Ar z_.2.1) AjW),Ca z_.2.2.1,HE ([]:ATB ASM) none,Fv z_.2.2.2]
def Ape e a c b (g:ASs) (i:Int):=λ(j:ASS)=>xE 2 50 [(3,Au),(5,A9),(17,Ar a),(18,dI c),(19,dI e)] [.box (BV b),.box (.pr (Ar j.1) AjW),Ca j.2.1,HE ([]:ATB ASM) none,Fv j.2.2]
def Jn(e:Int)(a:ASw)(c:Int)(b:ASl)(g:ASs)(i k:Int)(l:ASw)(n:ASH)(o:ASv):ATC (AS6⊕ASS):=
 bif decide (k<i)then
 if 0<=k/\k<g.length then
 (BN 0 e (g.getD k.toNat ATl.zero) l n o).bind λq=>some (.inl (wI (k+1),q.1,q.2.1,q.2.2))
 else none
 else
 some (.inr (l,n,o))
def Ed e a c b g i (z_:Int×ASw×ASH×ASv):=Jn e a c b g i z_.1 z_.2.1 z_.2.2.1 z_.2.2.2
def Q3 e a c b g i k l n o:=fix (Ed e a c b g i) (k,l,n,o)
theorem AsW e a c b g i:A3 Aep 0 7 (cd f139 116) 462 (Aq4 e a c b g i) (Ed e a c b g i) (Ape e a c b g i):=by
 intro _;simp only[Ed,Jn,ASb];kernel_rfl
def Jo(a:ASw)(b:ASl)(c e:Int)(s:ASw)(t:ASH)(u:ASv):ATC (AS6⊕ASS):=
 bif decide (e<c)then
 if 0<=e/\e<a.length then
 if Ty.row .bool=true/\(0:Int)<=(a.getD e.toNat Ab.zero).2.1/\(a.getD e.toNat Ab.zero).2.1<=(a.getD e.toNat Ab.zero).2.1/\((1:Nat):Int)*(a.getD e.toNat Ab.zero).2.1<=(281474976710656:Int)/\(a.getD e.toNat Ab.zero).2.1<=(9223372036854775807:Int)then
 if 0<=e/\e<t.length then
 if 0<=e/\e<b.1.length then
 (Q3 e a c b (b.1.getD e.toNat ATo.zero) ((b.1.getD e.toNat ATo.zero).length:Int) 0 s (t.set e.toNat (List.replicate (a.getD e.toNat Ab.zero).2.1.toNat false)) u).bind λj=>some (.inl (wI (e+1),j.1,j.2.1,j.2.2))
 else none
 else none
 else none
 else none
 else
 some (.inr (s,t,u))
def Ee a b c (z_:Int×ASw×ASH×ASv):=Jo a b c z_.1 z_.2.1 z_.2.2.1 z_.2.2.2
def Q4 a b c e s t u:=fix (Ee a b c) (e,s,t,u)
theorem AsX a b c:A3 Aep 0 3 (code f139) 58 (Aq5 a b c) (Ee a b c) (Apf a b c):=by
 intro _;simp(disch:=refine id ?_;kernel_rfl) only[Ee,Jo,ASb,Q3,AG (AsW _ _ _ _ _ _) (K:=Kk Aep 0 3)];kernel_rfl
def MZ(a:ASw)(b:ASl):ATC (Int×ASw×ASH×AS9×ASv):=
 if Ty.row ATs=true/\(0:Int)<=(a.length:Int)/\(a.length:Int)<=(a.length:Int)/\((24:Nat):Int)*(a.length:Int)<=(281474976710656:Int)/\(a.length:Int)<=(9223372036854775807:Int)then
 (Q4 a b (a.length:Int) 0 a (List.replicate (a.length:Int).toNat ([]:ASt)) ([]:ASv)).bind λd=>some (0,d.1,d.2.1,([]:ATB ASM),d.2.2)
 else none
def AED:=Cc [.d ATr,.d Ak] [⟨[.AA [] ATr,.AA [] Ak],[],Int×ASw×ASH×AS9×ASv,λp=>MZ p.1.1 p.1.2.1,λr=>(.ptr 0 r.1 [] 0,[.box (.pr (Ar r.2.1) Ab5),Ca r.2.2.1,HE r.2.2.2.1 none,Fv r.2.2.2.2])⟩]
theorem AfX:Am prog 139 AED:=As (fn:=f139) ⟨⟨Aep,pk ⟨jO,trivial⟩,λ_ R K=>by
 simp(disch:=refine id ?_;kernel_rfl) only[MZ,ASc,Q4,AG (AsX _ _ _) (K:=A2 Aep f139 0 R K)];kernel_rfl⟩,trivial⟩
abbrev Axe:=eN [] {Av:=false,take:=[25]}
def AE7:=Ac7 [.UY,.UY] Axe f176
theorem Agr:Am prog 176 AE7:=iW (pk trivial)
abbrev pZ:=eN [(176,AE7)] {Av:=false,A4:=[(3,[0,3,9,10,11]),(11,{Bc:=[6,25,26,27],Ce:=[(6,false,.row [] 142 Af false)]})],BD:=[(3,[0,3]),(11,[6])],BR:=[(8,[0,3,9,10,11])],DR:=[(8,[0,3,9,10,11])]}
def Aq9 a b (z_:Int×ASz):=sT 36 [(6,.AH 0),(25,Oo a),(26,dI b),(27,dI z_.1)] [Cb z_.2]
def Apj(a:ASJ)(b:Int):=λ(c:ASz)=>xE 2 36 xn [Cb c]
def Rl(a:ASJ)(b d:Int)(e:ASz):ATC (AS1⊕ASz):=
 bif decide (d<b)then
 if 0<=d/\d<a.length then
 if(e.length+(a.getD d.toNat ATq.zero).length)*56<=140737488355328 then
 some (.inl (wI (d+1),e++(a.getD d.toNat ATq.zero)))
 else none
 else none
 else
 some (.inr e)
def KN a b (z_:Int×ASz):=Rl a b z_.1 z_.2
def TT a b d e:=fix (KN a b) (d,e)
theorem As1 a b:A3 pZ 0 11 (code f162) 250 (Aq9 a b) (KN a b) (Apj a b):=by
 intro _;simp only[KN,Rl,ASb];kernel_rfl
def Aq8 a g (z_:Int×ASz):=sT 36 [(6,.AH 0),(25,Oo a),(26,dI g),(27,dI z_.1)] [Cb z_.2]
def Api(a:ASJ)(g:Int):=λ(i:ASz)=>xE 2 36 xn [Cb i]
def GA(a:ASJ)(g j:Int)(k:ASz):ATC (AS1⊕ASz):=
 bif decide (j<g)then
 if 0<=j/\j<a.length then
 if(k.length+(a.getD j.toNat ATq.zero).length)*56<=140737488355328 then
 some (.inl (wI (j+1),k++(a.getD j.toNat ATq.zero)))
 else none
 else none
 else
 some (.inr k)
def CZ a g (z_:Int×ASz):=GA a g z_.1 z_.2
def Na a g j k:=fix (CZ a g) (j,k)
theorem As0 a g:A3 pZ 0 11 (code f162) 250 (Aq8 a g) (CZ a g) (Api a g):=by
 intro _;simp only[CZ,GA,ASb];kernel_rfl
def Aq7 a l (z_:Int×Int):=sT 36 [(0,Oo a),(3,dI z_.1),(9,Oo a),(10,dI l),(11,dI z_.2)] []
def Aph a (l:Int):=λ(n:Int)=>xE 0 36 [(0,Oo a),(3,dI n)] []
def Aq6 a o l q:=sT 36 [(0,Oo a),(3,dI o),(9,Oo a),(10,dI l),(11,dI q)] []
def Apg a (o:Int) l (q:Int):=λ(s:Unit)=>xN 36 [(0,Oo a),(3,dI (wI (o+((a.getD q.toNat ATq.zero).length:Int)))),(9,Oo a),(10,dI l),(11,dI q)] []
def IK(a:ASJ)(o l q:Int):ATC Unit:=
 if 0<=q/\q<a.length then
 bif decide ((wI (o+((a.getD q.toNat ATq.zero).length:Int)))<0)then
 none
 else
 some ()
 else none
theorem AsY a o l q:AP pZ 0 8 (cd f162 116) 14 (Aq6 a o l q) (IK a o l q) (Apg a o l q):=by
 unfold AP;simp only[IK,ASb];kernel_rfl
def Gz(a:ASJ)(l o q:Int):ATC (ASR⊕Int):=
 bif decide (q<l)then
 (IK a o l q).bind λs=>some (.inl (wI (o+((a.getD q.toNat ATq.zero).length:Int)),wI (q+1)))
 else
 some (.inr o)
def CY a l (z_:Int×Int):=Gz a l z_.1 z_.2
def M9 a l o q:=fix (CY a l) (o,q)
theorem AsZ a l:A3 pZ 0 3 (code f162) 58 (Aq7 a l) (CY a l) (Aph a l):=by
 intro _;simp(disch:=refine id ?_;kernel_rfl) only[CY,Gz,ASb,A8 (AsY ..) (K:=Kk pZ 0 3)];kernel_rfl
def IJ(a:ASJ):ATC ASz:=
 (M9 a (a.length:Int) 0 0).bind λn=>bif decide (n<0)then
 none
 else
 bif decide ((wI (n-0))>0)then
 if(0:Int)<=(wI (n-0))/\(wI (n-0))*((56:Nat):Int)<=(140737488355328:Int)then
 if(0:Int)<=(0:Int)/\(0:Int)<=((List.replicate (wI (n-0)).toNat (0,0,0,(0,([]:ASs),()),())).length:Int)then
 (Na a (a.length:Int) 0 ((List.replicate (wI (n-0)).toNat (0,0,0,(0,([]:ASs),()),())).take 0)).bind λi=>some i
 else none
 else none
 else
 (TT a (a.length:Int) 0 ([]:ASz)).bind λc=>some c
def AEW:=Cc [.d ATz] [⟨[.AA [] ATz],[],ASz,λp=>IJ p.1.1,λr=>(.AH 0,[Cb r])⟩]
theorem Agg:Am prog 162 AEW:=As (fn:=f162) ⟨⟨pZ,pk ⟨Agr,trivial⟩,λ_ R K=>by
 simp(disch:=refine id ?_;kernel_rfl) only[IJ,ASc,M9,AG (AsZ _ _) (K:=A2 pZ f162 0 R K),Na,AG (As0 _ _) (K:=A2 pZ f162 0 R K),TT,AG (As1 _ _) (K:=A2 pZ f162 0 R K)];kernel_rfl⟩,trivial⟩
abbrev xQ:=eN [] {A4:=[(3,{Bc:=[3,8,9,10],Ce:=[(3,false,.row [] 254 Ad true)]}),(7,[3,5,6,8,9,10])],BD:=[(3,[3]),(7,[3,8,9,10])],BR:=[(8,[3,5,6,8,9,10])],DR:=[(8,[3,5,6,8,9,10])]}
def Arc a b (z_:Int×ASx):=sT 43 [(3,.AH 0),(8,Dv a),(9,dI b),(10,dI z_.1)] [X8 z_.2]
def Apm(a:ASz)(b:Int):=λ(c:ASx)=>xE 0 43 mb [X8 c]
def Arb a b d e (z_:Int×ASx):=sT 43 (AjK z_.1 a b d) [X8 z_.2,.box (OT e)]
def Apl a b d (e:ASi):=λ(g:ASx)=>xE 2 43 [(3,.AH 0),(8,Dv a),(9,dI b),(10,dI d)] [X8 g]
def Ara i a b d j e:=sT 43 (AjK i a b d) [X8 j,.box (OT e)]
def Apk i a b d (j:ASx) e:=λ(k:ASx)=>xN 43 (AjK i a b d) [X8 k,.box (OT e)]
def Lg(i:Int)(a:ASz)(b d:Int)(j:ASx)(e:ASi):ATC ASx:=
 bif e.1==(-1)then
 if(j.length+([(2,0,0,())]:ASx).length)*24<=140737488355328 then
 some (j++([(2,0,0,())]:ASx))
 else none
 else
 if(j.length+([(1,e.1,wI (e.2.1+i),())]:ASx).length)*24<=140737488355328 then
 some (j++([(1,e.1,wI (e.2.1+i),())]:ASx))
 else none
theorem As2 i a b d j e:AP xQ 0 8 (sb (cd f163 116) 924) 6 (Ara i a b d j e) (Lg i a b d j e) (Apk i a b d j e):=by
 unfold AP;simp only[Lg,ASb];kernel_rfl
def L4(a:ASz)(b d:Int)(e:ASi)(i:Int)(j:ASx):ATC (ASQ⊕ASx):=
 bif decide (i<e.2.2.1)then
 (Lg i a b d j e).bind λk=>some (.inl (wI (i+1),k))
 else
 some (.inr j)
def FD a b d e (z_:Int×ASx):=L4 a b d e z_.1 z_.2
def Pv a b d e i j:=fix (FD a b d e) (i,j)
theorem As3 a b d e:A3 xQ 0 7 (cd f163 116) 462 (Arb a b d e) (FD a b d e) (Apl a b d e):=by
 intro _;simp(disch:=refine id ?_;kernel_rfl) only[FD,L4,ASb,A8 (As2 ..) (K:=Kk xQ 0 7)];kernel_rfl
def L5(a:ASz)(b d:Int)(l:ASx):ATC (ASQ⊕ASx):=
 bif decide (d<b)then
 if 0<=d/\d<a.length then
 if(l.length+([(0,0,0,())]:ASx).length)*24<=140737488355328 then
 (Pv a b d (a.getD d.toNat Af.zero) 1 (l++([(0,0,0,())]:ASx))).bind λg=>some (.inl (wI (d+1),g))
 else none
 else none
 else
 some (.inr l)
def FE a b (z_:Int×ASx):=L5 a b z_.1 z_.2
def Px a b d l:=fix (FE a b) (d,l)
theorem As4 a b:A3 xQ 0 3 (code f163) 58 (Arc a b) (FE a b) (Apm a b):=by
 intro _;simp(disch:=refine id ?_;kernel_rfl) only[FE,L5,ASb,Pv,AG (As3 _ _ _ _) (K:=Kk xQ 0 3)];kernel_rfl
def KC(a:ASz):ATC ASx:=
 (Px a (a.length:Int) 0 ([]:ASx)).bind λc=>some c
def AEX:=Cc [.d ATq] [⟨[.AA [] ATq],[],ASx,λp=>KC p.1.1,λr=>(.AH 0,[X8 r])⟩]
theorem Agh:Am prog 163 AEX:=As (fn:=f163) ⟨⟨xQ,pk trivial,λ_ R K=>by
 simp(disch:=refine id ?_;kernel_rfl) only[KC,ASc,Px,AG (As4 _ _) (K:=A2 xQ f163 0 R K)];kernel_rfl⟩,trivial⟩
end
end Go.Proofs.X
