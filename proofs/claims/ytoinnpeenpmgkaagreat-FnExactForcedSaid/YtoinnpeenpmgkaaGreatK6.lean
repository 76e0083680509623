import Derived.KernelRfl
import Derived.Test.YtoinnpeenpmgkaaGreatK5
set_option linter.unusedVariables false
set_option linter.unusedSimpArgs false
namespace Go.Proofs.X
open Go Go.Va Go.Proofs.Tryz
set_option maxRecDepth 100000
noncomputable section
abbrev AeR:=eN [(99,c99),(136,AEO),(137,Avk),(138,AEP),(139,AEQ),(140,AER)] {Ba:=[(8,[6,10,36,37,38])],BN:=[(8,[6,10])],BM:=[(2,[0,1,5,6,22])],Du:=[(2,[0,1,5,6])],iq:=[(0,.row [0] 32 ATD true)]}
def Arx(a:Int) b (z_:Int×ASG×ATs×ASR×ATl×ASF):=sT 51 [(6,Aq),(10,.ptr 1 a [] 0),(36,.AK 2),(37,dI b),(38,dI z_.1)] [.box V4,.box (.pr (Ar z_.2.1) (.pr (.AK 3) (.pr (.mp 4) aQ))),CZ z_.2.2.1,Cg z_.2.2.2.1,HF z_.2.2.2.2.1 none,FB z_.2.2.2.2.2]
def ApK(a b:Int):=λ(c:ATt)=>xE 0 51 [(6,Aq),(10,.ptr 1 a [] 0)] [.box V4,.box (.pr (Ar c.1) Aku),Cg c.2.1,HF c.2.2.1 none,FB c.2.2.2]
def Jh(a b d:Int)(e:ASG)(g:ATs)(i:ASR)(j:ATl)(k:ASF):ATP ((Int×ASG×ATs×ASR×ATl×ASF)⊕ATt):=
 bif decide (d<b)then
 if 0<=d/\d<g.length then
 (JE a (g.getD d.toNat (Ty.zero (.AG ATB (.AG ATB .unit)))).1 (g.getD d.toNat (Ty.zero (.AG ATB (.AG ATB .unit)))).2.1 e g i j k).bind λl=>some (.inl (wI (d+1),l.1,l.2.1,l.2.2.1,l.2.2.2.1,l.2.2.2.2))
 else none
 else
 some (.inr (e,i,j,k))
def Ef a b (z_:Int×ASG×ATs×ASR×ATl×ASF):=Jh a b z_.1 z_.2.1 z_.2.2.1 z_.2.2.2.1 z_.2.2.2.2.1 z_.2.2.2.2.2
def LZ a b d e g i j k:=fix (Ef a b) (d,e,g,i,j,k)
theorem Att a b:A8 AeR 0 8 (code f98) 506 (Arx a b) (Ef a b) (ApK a b):=by
 intro _;simp only[Ef,Jh,ASm];kernel_rfl
def Arw n o q:=sT 51 [(0,Ar n),(1,Bl o),(5,Aq),(6,AZ)] [.box (BP q),.box V4]
def ApJ n o q:=λ(s:Bool)=>xN 51 [(0,Ar n),(1,Bl o),(5,Aq),(6,AZ),(22,dB s)] [.box (BP q),.box V4]
def LY(n:ASG)(o:ASK)(q:ASx):ATP Bool:=
 (TC n q).bind λt=>bif !t then
 some true
 else
 (Gi n o).bind λu=>some (!u)
theorem Ats n o q:AX AeR 0 2 (code f98) 12 (Arw n o q) (LY n o q) (ApJ n o q):=by
 unfold AX;simp only[LY,ASm];kernel_rfl
def JD(n:ASG)(o:ASK)(q:ASx):ATP (Bool×ASQ):=
 (LY n o q).bind λs=>bif s then
 some (false,([]:ASQ))
 else
 (Qc n o).bind λv=>bif !v.1 then
 some (false,([]:ASQ))
 else
 (M4 n q).bind λw=>(LZ w.1 (v.2.length:Int) 0 w.2.1 v.2 w.2.2.1 w.2.2.2.1 w.2.2.2.2).bind λc=>(L1 w.1 c.1 c.2.1 c.2.2.1 c.2.2.2).bind λx=>some (true,x.2.2.2.1)
def c98:=Ck [.d ATE,.d ATG,.d Am] [⟨[.AB [] ATE,.AB [] ATG,.AB [] Am],[],Bool×ASQ,λp=>JD p.1.1 p.1.2.1 p.1.2.2.1,λr=>(.cons Pj (.cons (dB r.1) .nil),[Dt r.2])⟩]
theorem AlY:An prog 98 c98:=Av (fn:=f98) ⟨⟨AeR,pk ⟨qR,Agl,uG,Agm,Agn,Ago,trivial⟩,λ_ R K=>by
 simp(disch:=refine id ?_;kernel_rfl) only[JD,ASn,Bf (Ats ..) (K:=A2 AeR f98 0 R K),LZ,AJ (Att _ _) (K:=A2 AeR f98 0 R K)];kernel_rfl⟩,trivial⟩
noncomputable def AES:Va.Callee:=aW 2 ATy 8
noncomputable abbrev AFC:GX:={Ee:=Ee,fns:=O8 [],fi:={}}
theorem Al2:Jz Tryz.prog AFC:=(pk (l:=[]) trivial)
theorem Agp:An Tryz.prog 141 AES:=
 eK (fn:=Tryz.f141) Al2 (by kernel_rfl) (by kernel_rfl) rfl rfl rfl ⟨rfl,rfl,rfl⟩ ⟨rfl,rfl,rfl⟩ (ti:=⟨.sl ATy,[],2,24,0,0,false⟩) (by kernel_rfl) rfl (by kernel_rfl) (λxs=>by kernel_rfl) (λxs=>by kernel_rfl)
  λxs h=>by
   have h0:ev AFC 0 (sub (code Tryz.f141) [1,1]) (Ex×St) ⟨[.AB [] ATD xs,.un 0,.zs,.AB [] ATD xs,.bool false,.un 0,.un 0,.un 0],[]⟩ Se=if xs.length*8<=140737488355328 then some (.ret,⟨[.AB [] ATD xs,.un 0,.AK 0,.AB [] ATD xs,.bool false,.zs,.AB [] ATD xs,.AK 0],[AA xs]⟩)else none:=by kernel_rfl
   exact h0.trans (AQr h)
abbrev tO:=eN [(141,AES)] {Ba:=[(3,{Be:=[0,5,13,14,15],Cj:=[(5,false,.row [] 151 Ae true)]}),(7,{Be:=[0,5,6,8,13,14,15,28,29,30],Cj:=[(5,false,.row [] 151 Ae true)]})],BN:=[(3,[5]),(7,[0,5,13,14,15])],W8:=[(6,{Be:=[0,5,6,8,13,14,15,28,29,30],Xu:=true,RU:=[(28,false,ATD)]})],Yl:=[(6,[0,5,6,7,8,13,14,15])]}
def Arz a b c (z_:Int×ASH):=sT 47 [(0,Ar a),(5,.AK 0),(13,Ie b),(14,dI c),(15,dI z_.1)] [DU z_.2]
def ApM(a:ASG)(b:ASQ)(c:Int):=λ(d:ASH)=>xE 0 47 [(5,.AK 0)] [DU d]
def Ary a e b c g i (z_:Int×Int×ASH):=sT 47 [(0,Ar a),(5,.AK 0),(6,dI e),(8,dI z_.1),(13,Ie b),(14,dI c),(15,dI e),(28,B8 g),(29,dI i),(30,dI z_.2.1)] [DU z_.2.2]
def ApL a e b c (g:ASC) (i:Int):=λ(j:ASH)=>xE 2 47 [(0,Ar a),(5,.AK 0),(13,Ie b),(14,dI c),(15,dI e)] [DU j]
def Ku(a:ASG)(e:Int)(b:ASQ)(c:Int)(g:ASC)(i k l:Int)(n:ASH):ATP ((Int×Int×ASH)⊕ASH):=
 bif decide (l<i)then
 if 0<=l/\l<g.length then
 if(n.length+([(e,k,wI ((g.getD l.toNat ATy.zero)-k),())]:ASH).length)*24<=140737488355328 then
 some (.inl (g.getD l.toNat ATy.zero,wI (l+1),n++([(e,k,wI ((g.getD l.toNat ATy.zero)-k),())]:ASH)))
 else none
 else none
 else
 some (.inr n)
def EN a e b c g i (z_:Int×Int×ASH):=Ku a e b c g i z_.1 z_.2.1 z_.2.2
def Sv a e b c g i k l n:=fix (EN a e b c g i) (k,l,n)
theorem Atv a e b c g i:A8 tO 0 7 (cd f100 116) 462 (Ary a e b c g i) (EN a e b c g i) (ApL a e b c g i):=by
 intro _;simp only[EN,Ku,ASm];kernel_rfl
def Afp a e b c o q:=sT 47 [(0,Ar a),(5,.AK 0),(6,dI e),(7,B8 q),(8,dI 0),(13,Ie b),(14,dI c),(15,dI e)] [DU o]
def yL a e b c o (q:ASC):=λ(s:(ASC×Int))=>sT 47 [(0,Ar a),(5,.AK 0),(6,dI e),(8,dI 0),(13,Ie b),(14,dI c),(15,dI e),(28,B8 s.1),(29,dI s.2),(30,dI 0)] [DU o]
def JK(a:ASG)(e:Int)(b:ASQ)(c:Int)(o:ASH)(q:ASC):ATP (ASC×Int):=
 if q.length*8<=140737488355328 then
 if 0<=e/\e<a.length then
 if(q.length+([(a.getD e.toNat Ab.zero).2.1]:ASC).length)*8<=140737488355328 then
 some (q++([(a.getD e.toNat Ab.zero).2.1]:ASC),((q++([(a.getD e.toNat Ab.zero).2.1]:ASC)).length:Int))
 else none
 else none
 else none
noncomputable def qC(a:ASG)(e:Int)(b:ASQ)(c:Int)(o:ASH)(q:ASC):ATP Unit:=if q.length*8<=140737488355328 then if(q.length+([(a.getD e.toNat Ab.zero).2.1]:ASC).length)*8<=140737488355328 then DY (yL a e b c o q (q++([(a.getD e.toNat Ab.zero).2.1]:ASC),((q++([(a.getD e.toNat Ab.zero).2.1]:ASC)).length:Int)))else none else none
theorem Atu(a:ASG)(e:Int)(b:ASQ)(c:Int)(o:ASH)(q:ASC):MQ tO 0 6 (cd f100 116) 230 (Afp a e b c o q) (JK a e b c o q) (yL a e b c o q):=by
 unfold MQ;have h:re tO 0 6 (cd f100 116) (pt 230) (Afp a e b c o q) =
 if q.length*8<=140737488355328 then if 0<=e/\e<a.length then if(q.length+([(a.getD e.toNat Ab.zero).2.1]:ASC).length)*8<=140737488355328 then((if 0<=e/\e<a.length then(qC a e b c o q).bind λ_=>(qC a e b c o q).bind λ_=>qC a e b c o q else none).bind λ_=>some (yL a e b c o q (q++([(a.getD e.toNat Ab.zero).2.1]:ASC),((q++([(a.getD e.toNat Ab.zero).2.1]:ASC)).length:Int))))else none else none else none:=by kernel_rfl
 rw[h];unfold JK;simp only[ASm,mS,mO];clear h;by_cases GM:q.length*8<=140737488355328
 ·rw[AQr GM,AQr GM];by_cases Pk:(0:Int)<=e/\e<(a.length:Int)
  ·rw[AQr Pk,AQr Pk];by_cases oN:(q.length+([(a.getD e.toNat Ab.zero).2.1]:ASC).length)*8<=140737488355328
   ·rw[AQr oN,AQr oN];simp only[qC,AQp,AQr GM,AQr Pk,AQr oN,AQV,AP9,DY,DD]
   ·simp only[AQr GM,AQr Pk,AQV,AQs oN]
  ·simp only[AQr GM,AQV,AQs Pk]
 ·simp only[AQV,AQs GM]
def Kv(a:ASG)(b:ASQ)(c e:Int)(o:ASH):ATP (AS0⊕ASH):=
 bif decide (e<c)then
 if 0<=e/\e<b.length then
 (JK a e b c o (b.getD e.toNat ATD.zero)).bind λs=>(Sv a e b c s.1 s.2 0 0 o).bind λj=>some (.inl (wI (e+1),j))
 else none
 else
 some (.inr o)
def EO a b c (z_:Int×ASH):=Kv a b c z_.1 z_.2
def Sw a b c e o:=fix (EO a b c) (e,o)
theorem Atw a b c:A8 tO 0 3 (code f100) 58 (Arz a b c) (EO a b c) (ApM a b c):=by
 intro _;simp(disch:=refine id ?_;kernel_rfl) only[EO,Kv,ASm,Tv (Atu ..) (K:=Ka tO 0 3),Sv,AJ (Atv _ _ _ _ _ _) (K:=Ka tO 0 3)];kernel_rfl
def O4(a:ASG)(t:ASx):ATP ASH:=
 (Sw a t.1 (t.1.length:Int) 0 ([]:ASH)).bind λd=>some d
def AEs:=Ck [.d ATE,.d Am] [⟨[.AB [] ATE,.AB [] Am],[],ASH,λp=>O4 p.1.1 p.1.2.1,λr=>(.AK 0,[DU r])⟩]
theorem AfY:An prog 100 AEs:=Av (fn:=f100) ⟨⟨tO,pk ⟨Agp,trivial⟩,λ_ R K=>by
 simp(disch:=refine id ?_;kernel_rfl) only[O4,ASn,Sw,AJ (Atw _ _ _) (K:=A2 tO f100 0 R K)];kernel_rfl⟩,trivial⟩
abbrev AoR:=eN [] {Ba:=[(3,[3,7,8,9])],BN:=[(3,[3])]}
def ArA a b (z_:Int×ATo):=sT 23 [(3,.mp 0),(7,Gn a),(8,dI b),(9,dI z_.1)] [HG z_.2 none]
def ApN(a:ASH)(b:Int):=λ(c:ATo)=>xE 0 23 [(3,.mp 0)] [HG c none]
def Ko(a:ASH)(b d:Int)(e:ATo):ATP ((Int×ATo)⊕ATo):=
 bif decide (d<b)then
 if 0<=d/\d<a.length then
 some (.inl (wI (d+1),Cs Aa ATy e ((a.getD d.toNat Ae.zero).1,(a.getD d.toNat Ae.zero).2.1,()) d))
 else none
 else
 some (.inr e)
def EH a b (z_:Int×ATo):=Ko a b z_.1 z_.2
def Sq a b d e:=fix (EH a b) (d,e)
theorem Atx a b:A8 AoR 0 3 (code f101) 58 (ArA a b) (EH a b) (ApN a b):=by
 intro _;simp only[EH,Ko,ASm];kernel_rfl
def O1(a:ASH):ATP ATo:=
 (Sq a (a.length:Int) 0 ([]:ATO ASY)).bind λc=>some c
def AEt:=Ck [.d ATH] [⟨[.AB [] ATH],[],ATo,λp=>O1 p.1.1,λr=>(.mp 0,[HG r none])⟩]
theorem AfZ:An prog 101 AEt:=Av (fn:=f101) ⟨⟨AoR,pk trivial,λ_ R K=>by
 simp(disch:=refine id ?_;kernel_rfl) only[O1,ASn,Sq,AJ (Atx _ _) (K:=A2 AoR f101 0 R K)];kernel_rfl⟩,trivial⟩
abbrev AoS:=eN [] {Aw:=false,Ba:=[(3,{Be:=[3,8,9],Cj:=[(3,true,.row [0] 2 ATy true),(3,true,.row [1] 2 ATy true)]})],BN:=[(3,[3])]}
def ArB a (z_:Int×ASC×ASC):=sT 33 [(3,Aq),(8,dI a),(9,dI z_.1)] [.box (.pr I2 (.pr V5 (.pr (.mp 3) V4))),AA z_.2.1,AA z_.2.2,J7 ([]:ATO ASV) none]
def ApO(a:Int):=λ(b:ATe)=>xE 0 33 [(3,Aq)] [.box (.pr I2 (.pr V5 (.pr (.mp 3) V4))),AA b.1,AA b.2,J7 ([]:ATO ASV) none]
def Jr(a c:Int)(d e:ASC):ATP ((Int×ASC×ASC)⊕ATe):=
 bif decide (c<a)then
 if(d.length+([c]:ASC).length)*8<=140737488355328 then
 if(e.length+([-1]:ASC).length)*8<=140737488355328 then
 some (.inl (wI (c+1),d++([c]:ASC),e++([-1]:ASC)))
 else none
 else none
 else
 some (.inr (d,e))
def Em a (z_:Int×ASC×ASC):=Jr a z_.1 z_.2.1 z_.2.2
def Q4 a c d e:=fix (Em a) (c,d,e)
theorem Aty a:A8 AoS 0 3 (code f102) 58 (ArB a) (Em a) (ApO a):=by
 intro _;simp only[Em,Jr,ASm];kernel_rfl
def M5(a:Int):ATP (Int×ASC×ASC×ATn):=
 (Q4 a 0 ([]:ASC) ([]:ASC)).bind λb=>some (0,b.1,b.2,([]:ATO ASV))
def AEu:=Ck [.d ATy] [⟨[.AB [] ATy],[],Int×ASC×ASC×ATn,λp=>M5 p.1.1,λr=>(.ptr 0 r.1 [] 0,[.box (.pr I2 (.pr V5 (.pr (.mp 3) V4))),AA r.2.1,AA r.2.2.1,J7 r.2.2.2 none])⟩]
theorem Af0:An prog 102 AEu:=Av (fn:=f102) ⟨⟨AoS,pk trivial,λ_ R K=>by
 simp(disch:=refine id ?_;kernel_rfl) only[M5,ASn,Q4,AJ (Aty _) (K:=A2 AoS f102 0 R K)];kernel_rfl⟩,trivial⟩
abbrev jh:=eN [] {Ba:=[(4,{Be:=[3,5,6,12,13,14],Cj:=[(5,false,.row [] 2 ATy true)]}),(9,[3,5,6,8,12,13,14,30,31,32])],BN:=[(4,[5]),(9,[3,5,6,8,12,13,14])],BM:=[(12,[3,5,6,8,10,12,13,14,30,31,32,48]),(13,[3,5,6,8,12,13,14,30,31,32]),(14,[3,5,6,8,12,13,14])],Du:=[(12,[3,5,6,8,10,12,13,14,30,31,32]),(13,[3,5,6,8,12,13,14,30,31,32]),(14,[3,5,6,8,12,13,14])]}
def ArF a b c (z_:Int×Int×ASC):=sT 65 [(3,Aq),(5,.AK 1),(6,dI z_.1),(12,B3 a),(13,dI c),(14,dI z_.2.1)] [.box (BP b),AA z_.2.2]
def ApS(a:ASI)(b:ASx)(c:Int):=λ(d:ASC)=>xE 0 65 [(5,.AK 0)] [AA d]
def ArE e a c g b i j:=sT 65 (Akf e a c g) (gL b i j)
def ApR e a c g b (i:ASC) j:=λ(k:ASC)=>xN 65 (Akf e a c g) (gL b k j)
def ArD e a c g b j l n (z_:Int×ASC):=sT 65 (Akg e a c g l n z_.1) (gL b z_.2 j)
def ApQ e a c g b j (l:ASC) (n:Int):=λ(o:ASC)=>xE 2 65 (Akf e a c g) (gL b o j)
def ArC e a c g l n q b s j:=sT 65 (Akg e a c g l n q) (gL b s j)
def ApP e a c g l n q b (s:ASC) j:=λ(t:ASC)=>xN 65 (Akg e a c g l n q) (gL b t j)
def Afq e (l:ASC) (q:Int) a c g n b s j:=sT 65 [(3,Aq),(5,.AK 1),(6,dI e),(8,Dr),(10,dI (l.getD q.toNat ATy.zero)),(12,B3 a),(13,dI c),(14,dI g),(30,B8 l),(31,dI n),(32,dI q)] (gL b s j)
def yM(e:Int)(l:ASC)(q:Int)(a:ASI)(c g n:Int)(b:ASx)(s:ASC)(j:ASs)(m0:Bool):Ex×St:=xN 65 [(3,Aq),(5,.AK 1),(6,dI e),(8,Dr),(10,dI (l.getD q.toNat ATy.zero)),(12,B3 a),(13,dI c),(14,dI g),(30,B8 l),(31,dI n),(32,dI q),(48,dB m0)] (gL b s j)
theorem Atz e l q a c g n b s j:Xk jh 0 12 (sb (sb (sb (cd f164 244) 230) 52) 14) (pt 10) (Afq e l q a c g n b s j)=some (yM e l q a c g n b s j ((decide ((l.getD q.toNat ATy.zero)>j.2.1))&&(decide ((l.getD q.toNat ATy.zero)<(wI (j.2.1+j.2.2.1)))))):=by
 refine .trans (b:=
 bif decide ((l.getD q.toNat ATy.zero)>j.2.1)then
 some (yM e l q a c g n b s j (decide ((l.getD q.toNat ATy.zero)<(wI (j.2.1+j.2.2.1)))))
 else
 some (yM e l q a c g n b s j false)) (by kernel_rfl) ?_
 cases (decide ((l.getD q.toNat ATy.zero)>j.2.1));rfl;rfl
def NI(e:Int)(a:ASI)(c g:Int)(l:ASC)(n q:Int)(b:ASx)(s:ASC)(j:ASs):ATP ASC:=
 if 0<=q/\q<l.length then
 OQ (Afq e l q a c g n b s j) (
 bif (decide ((l.getD q.toNat ATy.zero)>j.2.1))&&(decide ((l.getD q.toNat ATy.zero)<(wI (j.2.1+j.2.2.1))))then
 if(s.length+([wI ((wI (e+(l.getD q.toNat ATy.zero)))-j.2.1)]:ASC).length)*8<=140737488355328 then
 some (s++([wI ((wI (e+(l.getD q.toNat ATy.zero)))-j.2.1)]:ASC))
 else none
 else
 some s)
 else none
theorem AtA e a c g l n q b s j:AX jh 0 13 (sb (sb (cd f164 244) 230) 52) 14 (ArC e a c g l n q b s j) (NI e a c g l n q b s j) (ApP e a c g l n q b s j):=by
 unfold AX;simp(disch:=refine id ?_;kernel_rfl) only[NI,ASm,Ey (Atz ..) (K:=Ui jh 0 13)];kernel_rfl
def Kr(e:Int)(a:ASI)(c g:Int)(b:ASx)(j:ASs)(l:ASC)(n q:Int)(s:ASC):ATP (ASZ⊕ASC):=
 bif decide (q<n)then
 (NI e a c g l n q b s j).bind λt=>some (.inl (wI (q+1),t))
 else
 some (.inr s)
def EJ e a c g b j l n (z_:Int×ASC):=Kr e a c g b j l n z_.1 z_.2
def NK e a c g b j l n q s:=fix (EJ e a c g b j l n) (q,s)
theorem AtB e a c g b j l n:A8 jh 0 9 (sb (cd f164 244) 230) 26 (ArD e a c g b j l n) (EJ e a c g b j l n) (ApQ e a c g b j l n):=by
 intro _;simp(disch:=refine id ?_;kernel_rfl) only[EJ,Kr,ASm,Bf (AtA ..) (K:=Ka jh 0 9)];kernel_rfl
def JJ(e:Int)(a:ASI)(c g:Int)(b:ASx)(i:ASC)(j:ASs):ATP ASC:=
 bif decide (j.1>=0)then
 if(0:Int)<=j.1/\j.1<(b.1.length:Int)then
 (NK e a c g b j (b.1.getD j.1.toNat ATD.zero) ((b.1.getD j.1.toNat ATD.zero).length:Int) 0 i).bind λo=>some o
 else none
 else
 some i
theorem AtC e a c g b i j:AX jh 0 14 (cd f164 244) 230 (ArE e a c g b i j) (JJ e a c g b i j) (ApR e a c g b i j):=by
 unfold AX;simp(disch:=refine id ?_;kernel_rfl) only[JJ,ASm,NK,AJ (AtB _ _ _ _ _ _ _ _) (K:=Ui jh 0 14)];kernel_rfl
def Ks(a:ASI)(b:ASx)(c e g:Int)(u:ASC):ATP (ATk⊕ASC):=
 bif decide (g<c)then
 if 0<=g/\g<a.length then
 if(u.length+([e]:ASC).length)*8<=140737488355328 then
 (JJ e a c g b (u++([e]:ASC)) (a.getD g.toNat Af.zero)).bind λk=>some (.inl (wI (e+(a.getD g.toNat Af.zero).2.2.1),wI (g+1),k))
 else none
 else none
 else
 some (.inr u)
def EK a b c (z_:Int×Int×ASC):=Ks a b c z_.1 z_.2.1 z_.2.2
def NL a b c e g u:=fix (EK a b c) (e,g,u)
theorem AtE a b c:A8 jh 0 4 (code f164) 122 (ArF a b c) (EK a b c) (ApS a b c):=by
 intro _;simp(disch:=refine id ?_;kernel_rfl) only[EK,Ks,ASm,Bf (AtC ..) (K:=Ka jh 0 4)];kernel_rfl
def Lt(a:ASI)(b:ASx):ATP ASC:=
 (NL a b (a.length:Int) 0 0 ([]:ASC)).bind λd=>some d
def AFa:=Ck [.d ATB,.d Am] [⟨[.AB [] ATB,.AB [] Am],[],ASC,λp=>Lt p.1.1 p.1.2.1,λr=>(.AK 0,[AA r])⟩]
theorem AgH:An prog 164 AFa:=Av (fn:=f164) ⟨⟨jh,pk trivial,λ_ R K=>by
 simp(disch:=refine id ?_;kernel_rfl) only[Lt,ASn,NL,AJ (AtE _ _ _) (K:=A2 jh f164 0 R K)];kernel_rfl⟩,trivial⟩
abbrev Axu:=eN [] {take:=[25]}
def AFp:=AdB [.VE,.VE] Axu f183
theorem AgW:An prog 183 AFp:=iQ (pk trivial)
abbrev ql:=eN [(183,AFp)] {Ba:=[(3,[0,3,9,10,11]),(11,{Be:=[6,25,26,27],Cj:=[(6,false,.row [] 2 ATy true)]})],BN:=[(3,[0,3]),(11,[6])],BM:=[(8,[0,3,9,10,11])],Du:=[(8,[0,3,9,10,11])]}
def ArJ a b (z_:Int×ASC):=sT 36 [(6,.AK 0),(25,Ie a),(26,dI b),(27,dI z_.1)] [AA z_.2]
def ApW(a:ASQ)(b:Int):=λ(c:ASC)=>xE 2 36 [(6,.AK 0)] [AA c]
def Pf(a:ASQ)(b d:Int)(e:ASC):ATP (ASZ⊕ASC):=
 bif decide (d<b)then
 if 0<=d/\d<a.length then
 if(e.length+(a.getD d.toNat ATD.zero).length)*8<=140737488355328 then
 some (.inl (wI (d+1),e++(a.getD d.toNat ATD.zero)))
 else none
 else none
 else
 some (.inr e)
def I8 a b (z_:Int×ASC):=Pf a b z_.1 z_.2
def Rl a b d e:=fix (I8 a b) (d,e)
theorem AtI a b:A8 ql 0 11 (code f163) 250 (ArJ a b) (I8 a b) (ApW a b):=by
 intro _;simp only[I8,Pf,ASm];kernel_rfl
def ArI a g (z_:Int×ASC):=sT 36 [(6,.AK 0),(25,Ie a),(26,dI g),(27,dI z_.1)] [AA z_.2]
def ApV(a:ASQ)(g:Int):=λ(i:ASC)=>xE 2 36 [(6,.AK 0)] [AA i]
def Ff(a:ASQ)(g j:Int)(k:ASC):ATP (ASZ⊕ASC):=
 bif decide (j<g)then
 if 0<=j/\j<a.length then
 if(k.length+(a.getD j.toNat ATD.zero).length)*8<=140737488355328 then
 some (.inl (wI (j+1),k++(a.getD j.toNat ATD.zero)))
 else none
 else none
 else
 some (.inr k)
def Cv a g (z_:Int×ASC):=Ff a g z_.1 z_.2
def KJ a g j k:=fix (Cv a g) (j,k)
theorem AtH a g:A8 ql 0 11 (code f163) 250 (ArI a g) (Cv a g) (ApV a g):=by
 intro _;simp only[Cv,Ff,ASm];kernel_rfl
def ArH a l (z_:Int×Int):=sT 36 [(0,Ie a),(3,dI z_.1),(9,Ie a),(10,dI l),(11,dI z_.2)] []
def ApU a (l:Int):=λ(n:Int)=>xE 0 36 [(0,Ie a),(3,dI n)] []
def ArG a o l q:=sT 36 [(0,Ie a),(3,dI o),(9,Ie a),(10,dI l),(11,dI q)] []
def ApT a (o:Int) l (q:Int):=λ(s:Unit)=>xN 36 [(0,Ie a),(3,dI (wI (o+((a.getD q.toNat ATD.zero).length:Int)))),(9,Ie a),(10,dI l),(11,dI q)] []
def GK(a:ASQ)(o l q:Int):ATP Unit:=
 if 0<=q/\q<a.length then
 bif decide ((wI (o+((a.getD q.toNat ATD.zero).length:Int)))<0)then
 none
 else
 some ()
 else none
theorem AtF a o l q:AX ql 0 8 (cd f163 116) 14 (ArG a o l q) (GK a o l q) (ApT a o l q):=by
 unfold AX;simp only[GK,ASm];kernel_rfl
def Fe(a:ASQ)(l o q:Int):ATP (AS1⊕Int):=
 bif decide (q<l)then
 (GK a o l q).bind λs=>some (.inl (wI (o+((a.getD q.toNat ATD.zero).length:Int)),wI (q+1)))
 else
 some (.inr o)
def Cu a l (z_:Int×Int):=Fe a l z_.1 z_.2
def KI a l o q:=fix (Cu a l) (o,q)
theorem AtG a l:A8 ql 0 3 (code f163) 58 (ArH a l) (Cu a l) (ApU a l):=by
 intro _;simp(disch:=refine id ?_;kernel_rfl) only[Cu,Fe,ASm,Bf (AtF ..) (K:=Ka ql 0 3)];kernel_rfl
def Gt(a:ASQ):ATP ASC:=
 (KI a (a.length:Int) 0 0).bind λn=>bif decide (n<0)then
 none
 else
 bif decide ((wI (n-0))>0)then
 if(0:Int)<=(wI (n-0))/\(wI (n-0))*((8:Nat):Int)<=(140737488355328:Int)then
 if(0:Int)<=(0:Int)/\(0:Int)<=((List.replicate (wI (n-0)).toNat 0).length:Int)then
 (KJ a (a.length:Int) 0 ((List.replicate (wI (n-0)).toNat 0).take 0)).bind λi=>some i
 else none
 else none
 else
 (Rl a (a.length:Int) 0 ([]:ASC)).bind λc=>some c
def AE9:=Ck [.d ATN] [⟨[.AB [] ATN],[],ASC,λp=>Gt p.1.1,λr=>(.AK 0,[AA r])⟩]
theorem AgG:An prog 163 AE9:=Av (fn:=f163) ⟨⟨ql,pk ⟨AgW,trivial⟩,λ_ R K=>by
 simp(disch:=refine id ?_;kernel_rfl) only[Gt,ASn,KI,AJ (AtG _ _) (K:=A2 ql f163 0 R K),KJ,AJ (AtH _ _) (K:=A2 ql f163 0 R K),Rl,AJ (AtI _ _) (K:=A2 ql f163 0 R K)];kernel_rfl⟩,trivial⟩
abbrev AoT:=eN [] {Ba:=[(2,[1,4,7,8,9])],BN:=[(2,[4])],RU:=[(0,Ln)]}
def ArK a b (z_:Int×Int):=sT 26 [(1,dI z_.1),(4,Aq),(7,B3 a),(8,dI b),(9,dI z_.2)] [.box (.pr (.pr (dI 0) (.pr (dI 0) aR)) (.pr (dI 0) .u))]
def ApX(a:ASI)(b:Int):=Sum.elim (λ(c:(ASs×Int))=>xR 26 [(4,Aq)] [.box (.pr (K6 c.1) (.pr (dI c.2) .u))]) (λ(d:Unit)=>xE 0 26 [(4,Aq)] [.box (.pr (.pr (dI 0) (.pr (dI 0) aR)) (.pr (dI 0) .u))])
def Pm(a:ASI)(b e g:Int):ATP (AS1⊕((ASs×Int)⊕Unit)):=
 bif decide (g<b)then
 if 0<=g/\g<a.length then
 bif decide (e<(a.getD g.toNat Af.zero).2.2.1)then
 some (.inr (.inl (a.getD g.toNat Af.zero,e)))
 else
 some (.inl (wI (e-(a.getD g.toNat Af.zero).2.2.1),wI (g+1)))
 else none
 else
 some (.inr (.inr ()))
def Ii a b (z_:Int×Int):=Pm a b z_.1 z_.2
def WC a b e g:=fix (Ii a b) (e,g)
theorem AtJ a b:A8 AoT 0 2 (code f167) 26 (ArK a b) (Ii a b) (ApX a b):=by
 intro _;simp only[Ii,Pm,ASm];kernel_rfl
def P9(a:ASI)(i:Int):ATP Ln.V:=
 (WC a (a.length:Int) i 0).bind (Sum.elim (λc=>some (c.1,c.2,())) (λd=>some ((0,0,0,(0,([]:ASC),()),()),0,())))
def AFb:=Ck [.d ATB,.d ATy] [⟨[.AB [] ATB,.AB [] ATy],[],Ln.V,λp=>P9 p.1.1 p.1.2.1,λr=>(dD Ln r,[])⟩]
theorem AgI:An prog 167 AFb:=Av (fn:=f167) ⟨⟨AoT,pk trivial,λ_ R K=>by
 simp(disch:=refine id ?_;kernel_rfl) only[P9,ASn,WC,AJ (AtJ _ _) (K:=A2 AoT f167 0 R K)];kernel_rfl⟩,trivial⟩
abbrev AH9:=eN [(186,Avr)] {iq:=[(0,.row [1,1] 199 ATz true)]}
def Lr(a:Ln.V)(b:Int)(c:ATo):ATP (Int×Int×ATo×ASC):=
 bif a.1.1==(-1)then
 (EZ a.1.2.2.2.1 a.2.1 b).bind λd=>some (-1,d.1,c,d.2)
 else
 some (BA Aa ATy c (a.1.1,wI (a.1.2.1+a.2.1),()),0,c,([]:ASC))
def AFc:=Ck [.d Ln,.VE,.d ATy] [⟨[.AB [] Ln,.k (.mp 0),.AB [] ATy],[.map .Aw Aa ATy],Int×Int×ATo×ASC,λp=>Lr p.1.1 p.1.2.2.1 p.2.1,λr=>(.pr (dI r.1) (.pr (.pr (dI r.2.1) dZ) .u),[HG r.2.2.1 none,Bj r.2.2.2])⟩]
theorem AgJ:An prog 168 AFc:=Av (fn:=f168) ⟨⟨AH9,pk ⟨uN,trivial⟩,λ_ R K=>by
 simp only[Lr,ASn];kernel_rfl⟩,trivial⟩
def Avn:Va.Callee:=xl
theorem uJ:An prog 165 Avn:=Ajx (fn:=f165) lay53 rfl (by kernel_rfl) (by kernel_rfl) (by kernel_rfl)
def Avo:Va.Callee:=xL
theorem uK:An prog 166 Avo:=AjQ (fn:=f166) lay43 rfl (by kernel_rfl) (by kernel_rfl) (by kernel_rfl)
abbrev AoU:=eN [(124,Ak6),(163,AE9),(164,AFa),(165,Avn),(166,Avo),(167,AFb),(168,AFc)] {Ba:=[(6,{Be:=[0,1,3,9,10,35,36,37],RU:=[(9,false,ATD)],Cj:=[(10,false,.row [] 96 As true)]})],BN:=[(6,[10])],kv:=[(20,ATN),(52,Ln),(58,Ln)]}
def ArL a b c d e (z_:Int×ATo×ASO):=sT 68 [(0,B3 a),(1,B3 b),(3,.mp 0),(9,B8 c),(10,.AK 1),(35,.AB [2] ATD d),(36,dI e),(37,dI z_.1)] [HG z_.2.1 none,tE z_.2.2,.Bg]
def ApY(a b:ASI)(c d:ASC)(e:Int):=λ(g:(ATo×ASO))=>xE 0 68 [(10,.AK 1)] [HG g.1 none,tE g.2]
def NN(a b:ASI)(c d:ASC)(e i:Int)(j:ATo)(k:ASO):ATP ((Int×ATo×ASO)⊕(ATo×ASO)):=
 bif decide (i<e)then
 if 0<=i/\i<d.length then
 if 0<=(wI (i+1))/\(wI (i+1))<c.length then
 (P9 a (d.getD i.toNat ATy.zero)).bind λl=>(Lr l (wI ((c.getD (wI (i+1)).toNat ATy.zero)-(d.getD i.toNat ATy.zero))) j).bind λn=>(P9 b (d.getD i.toNat ATy.zero)).bind λo=>(Lr o (wI ((c.getD (wI (i+1)).toNat ATy.zero)-(d.getD i.toNat ATy.zero))) n.2.2.1).bind λq=>if(k.length+([((n.1,(n.2.1,n.2.2.2,()),()),(q.1,(q.2.1,q.2.2.2,()),()),wI ((c.getD (wI (i+1)).toNat ATy.zero)-(d.getD i.toNat ATy.zero)),())]:ASO).length)*88<=140737488355328 then
 some (.inl (wI (i+1),q.2.2.1,k++([((n.1,(n.2.1,n.2.2.2,()),()),(q.1,(q.2.1,q.2.2.2,()),()),wI ((c.getD (wI (i+1)).toNat ATy.zero)-(d.getD i.toNat ATy.zero)),())]:ASO)))
 else none
 else none
 else none
 else
 some (.inr (j,k))
def G1 a b c d e (z_:Int×ATo×ASO):=NN a b c d e z_.1 z_.2.1 z_.2.2
def Q5 a b c d e i j k:=fix (G1 a b c d e) (i,j,k)
theorem AtL a b c d e:A8 AoU 1 6 (code f142) 506 (ArL a b c d e) (G1 a b c d e) (ApY a b c d e):=by
 intro _;simp only[G1,NN,ASm];kernel_rfl
def TH(a b:ASI)(s:ASx)(t:ATo):ATP (ATo×ASO):=
 (Lt a s).bind λu=>(Lt b s).bind λv=>(Gt ([u,v]:ASQ)).bind λw=>if w.length<4611686018427387904 then
 (Fu a).bind λx=>if((Oy (Ro w)).length+([x]:ASC).length)*8<=140737488355328 then
 if(0:Int)<=(0:Int)/\(0:Int)<=(wI ((((Oy (Ro w))++([x]:ASC)).length:Int)-1))/\(wI ((((Oy (Ro w))++([x]:ASC)).length:Int)-1))<=(((Oy (Ro w))++([x]:ASC)).length:Int)then
 (Q5 a b ((Oy (Ro w))++([x]:ASC)) ((((Oy (Ro w))++([x]:ASC)).take (wI ((((Oy (Ro w))++([x]:ASC)).length:Int)-1)).toNat).drop 0) (((((Oy (Ro w))++([x]:ASC)).take (wI ((((Oy (Ro w))++([x]:ASC)).length:Int)-1)).toNat).drop 0).length:Int) 0 t ([]:ASO)).bind λg=>some (g.1,g.2)
 else none
 else none
 else none
def AET:=Ck [.d ATB,.d ATB,.d Am,.VE] [⟨[.AB [] ATB,.AB [] ATB,.AB [] Am,.k (.mp 0)],[.map .Aw Aa ATy],ATo×ASO,λp=>TH p.1.1 p.1.2.1 p.1.2.2.1 p.2.1,λr=>(.AK 1,[HG r.1 none,tE r.2])⟩]
theorem Agq:An prog 142 AET:=Av (fn:=f142) ⟨⟨AoU,pk ⟨jG,AgG,AgH,uJ,uK,AgI,AgJ,trivial⟩,λ_ R K=>by
 simp(disch:=refine id ?_;kernel_rfl) only[TH,ASn,Q5,AJ (AtL _ _ _ _ _) (K:=A2 AoU f142 1 R K)];kernel_rfl⟩,trivial⟩
abbrev AIb:=eN [(142,AET)] {RU:=[(0,.sl As)]}
def Iw(a b:Int)(c:ASG)(d:ASK)(e:ATs)(g:ASQ)(i:ASH)(j:ATo):ATP (ASO×ASG×ASK×ATs×ASQ×ASH×ATo):=
 if 0<=b/\b<e.length then
 if 0<=b/\b<e.length then
 (TH (e.getD b.toNat (Ty.zero (.AG ATB (.AG ATB .unit)))).1 (e.getD b.toNat (Ty.zero (.AG ATB (.AG ATB .unit)))).2.1 (g,()) j).bind λk=>some (k.2,c,d,e,g,i,k.1)
 else none
 else none
def AEv:=Ck [.VE,.d ATy] [⟨[.ptr 0 [] 0,.AB [] ATy],[.box (.pr (.AB [] ATE) (.pr (.AB [] ATG) (.pr (.k I2) (.pr (.pr (.k V5) (.k .u)) (.pr (.k (.AK 3)) (.pr (.k (.mp 4)) (.k .u))))))),.row 222 .Aw (.AG ATB (.AG ATB .unit)),.row 32 .Aw ATD,.row 151 .Aw Ae,.map .Aw Aa ATy],ASO×ASG×ASK×ATs×ASQ×ASH×ATo,λp=>Iw p.1.1 p.1.2.1 p.2.1.1 p.2.1.2.1 p.2.2.1 p.2.2.2.1 p.2.2.2.2.1 p.2.2.2.2.2.1,λr=>(tA r.1,[.box (.pr (Ar r.2.1) (.pr (Bl r.2.2.1) Aks)),CZ r.2.2.2.1,Dt r.2.2.2.2.1,DU r.2.2.2.2.2.1,HG r.2.2.2.2.2.2 none])⟩]
theorem Af1:An prog 103 AEv:=Av (fn:=f103) ⟨⟨AIb,pk ⟨Agq,trivial⟩,λ_ R K=>by
 simp only[Iw,ASn];kernel_rfl⟩,trivial⟩
abbrev AoV:=eN [] {Ba:=[(4,[0,1,12,13])],BN:=[(4,[4])]}
def ArM a b c (z_:Int):=sT 26 [(0,Tm a),(1,Tm b),(12,dI c),(13,dI z_)] []
def ApZ(a b:ASC)(c:Int):=Sum.elim (λ(d:Unit)=>xR 26 mD []) (λ(e:Unit)=>xE 0 26 [] [])
def Pg(a b:ASC)(c g:Int):ATP (Int⊕(Unit⊕Unit)):=
 bif decide (g<c)then
 if 0<=g/\g<a.length then
 if 0<=g/\g<b.length then
 bif (a.getD g.toNat ATz.zero) !=(b.getD g.toNat ATz.zero)then
 some (.inr (.inl ()))
 else
 some (.inl (wI (g+1)))
 else none
 else none
 else
 some (.inr (.inr ()))
def Fg a b c (z_:Int):=Pg a b c z_
def Rm a b c g:=fix (Fg a b c) g
theorem AtM a b c:A8 AoV 0 4 (code f131) 58 (ArM a b c) (Fg a b c) (ApZ a b c):=by
 intro _;simp only[Fg,Pg,ASm];kernel_rfl
def Jv(a b:ASC):ATP Bool:=
 bif (a.length:Int) !=(b.length:Int)then
 some false
 else
 (Rm a b (a.length:Int) 0).bind (Sum.elim (λd=>some false) (λe=>some true))
def AEL:=Ck [.d ATI,.d ATI] [⟨[.AB [] ATI,.AB [] ATI],[],Bool,λp=>Jv p.1.1 p.1.2.1,λr=>(dB r,[])⟩]
theorem Agi:An prog 131 AEL:=Av (fn:=f131) ⟨⟨AoV,pk trivial,λ_ R K=>by
 simp(disch:=refine id ?_;kernel_rfl) only[Jv,ASn,Rm,AJ (AtM _ _ _) (K:=A2 AoV f131 0 R K)];kernel_rfl⟩,trivial⟩
abbrev AIc:=eN [(131,AEL)] {}
def MW(a b:ASv):ATP Bool:=
 bif a.1==b.1 then
 (Jv a.2.1 b.2.1).bind λc=>some c
 else
 some false
def c81:=Ck [.d Ai,.d Ai] [⟨[.AB [] Ai,.AB [] Ai],[],Bool,λp=>MW p.1.1 p.1.2.1,λr=>(dB r,[])⟩]
theorem AlN:An prog 81 c81:=Av (fn:=f81) ⟨⟨AIc,pk ⟨Agi,trivial⟩,λ_ R K=>by
 simp only[MW,ASn];kernel_rfl⟩,trivial⟩
abbrev YI:=eN [(165,Avn),(166,Avo)] {Ba:=[(3,[1,2,7,20,21,22]),(10,[1,2,7,10,11]),(14,[1,2,7,10,11,71,72,73]),(23,{Be:=[1,10,17,18],Cj:=[(17,false,.row [] 2 ATy true)]})],BN:=[(3,[1,2,7]),(10,[1,2,10]),(14,[1,2,7,10,11]),(23,[17])],BM:=[(20,[1,2,7,10,11,71,72,73])],W8:=[(5,{Be:=[1,2,7,9,20,21,22],Xu:=true}),(6,{Be:=[1,2,7,20,21,22],Xu:=true})],Du:=[(20,[1,2,7,10,11,71,72,73])],Yl:=[(5,[1,2,7,9,20,21,22]),(6,[1,2,7,9,20,21,22])],stl:=[32,42],AG4:=[60]}
def ArR a (b:ATq) (z_:Int×ASC):=sT 116 [(1,dI a),(10,.mp 0),(17,.AK 1),(18,dI z_.1)] [AaP b none,AA z_.2]
def Ap4(a:Int)(b:ATq):=λ(c:ASC)=>xE 6 116 [(17,.AK 0)] [AA c]
def Uh(a:Int)(b:ATq)(d:Int)(e:ASC):ATP (ASZ⊕ASC):=
 bif d !=a then
 if(e.length+([(BA ATy Ae b d).2.2.1]:ASC).length)*8<=140737488355328 then
 some (.inl ((BA ATy Ae b d).1,e++([(BA ATy Ae b d).2.2.1]:ASC)))
 else none
 else
 some (.inr e)
def Px a b (z_:Int×ASC):=Uh a b z_.1 z_.2
def aE a b d e:=fix (Px a b) (d,e)
theorem AtT a b:A8 YI 0 23 (code f145) 2042 (ArR a b) (Px a b) (Ap4 a b):=by
 intro _;simp only[Px,Uh,ASm];kernel_rfl
def ArQ a g (i:ATp) (z_:ATq×ASC):=sT 116 [(1,dI a),(2,dI g),(7,.mp 0),(10,.mp 1),(11,.AK 2)] (xY i z_.1 z_.2)
def Ap3 a g (i:ATp):=λ(b:ATq)=>xE 2 116 [(1,dI a),(2,dI g),(10,.mp 0)] [AaP b none]
def ArP a g (i:ATp) j k (z_:Int×ATq×ASC):=sT 116 (Akh a g j k z_.1) (xY i z_.2.1 z_.2.2)
def Ap2 a g (i:ATp) (j:ASH) (k:Int):=λ(l:(ATq×ASC))=>xE 4 116 [(1,dI a),(2,dI g),(7,.mp 0),(10,.mp 1),(11,.AK 2)] (xY i l.1 l.2)
def ArO a g j k n (i:ATp) (o:ATq) q:=sT 116 (Akh a g j k n) (xY i o q)
def Ap1 a g j k n (i:ATp) (o:ATq) (q:ASC):=λ(s:(ATq×ASC))=>xN 116 (Akh a g j k n) (xY i s.1 s.2)
def Tb(a g:Int)(j:ASH)(k n:Int)(i:ATp)(o:ATq)(q:ASC):ATP (ATq×ASC):=
 if 0<=n/\n<j.length then
 bif !(Ul ATy Ae o (j.getD n.toNat Ae.zero).2.1)then
 bif decide ((q.length+([(j.getD n.toNat Ae.zero).2.1]:ASC).length)*8<=140737488355328)then
 some (Cs ATy Ae o (j.getD n.toNat Ae.zero).2.1 (j.getD n.toNat Ae.zero),q++([(j.getD n.toNat Ae.zero).2.1]:ASC))
 else
 none
 else
 some (o,q)
 else none
theorem AtQ a g j k n i o q:AX YI 0 20 (sb (cd f145 504) 220) 14 (ArO a g j k n i o q) (Tb a g j k n i o q) (Ap1 a g j k n i o q):=by
 unfold AX;simp only[Tb,ASm];kernel_rfl
def Uf(a g:Int)(i:ATp)(j:ASH)(k n:Int)(o:ATq)(q:ASC):ATP ((Int×ATq×ASC)⊕(ATq×ASC)):=
 bif decide (n<k)then
 (Tb a g j k n i o q).bind λs=>some (.inl (wI (n+1),s.1,s.2))
 else
 some (.inr (o,q))
def Pu a g i j k (z_:Int×ATq×ASC):=Uf a g i j k z_.1 z_.2.1 z_.2.2
def WH a g i j k n o q:=fix (Pu a g i j k) (n,o,q)
theorem AtR a g i j k:A8 YI 0 14 (cd f145 504) 110 (ArP a g i j k) (Pu a g i j k) (Ap2 a g i j k):=by
 intro _;simp(disch:=refine id ?_;kernel_rfl) only[Pu,Uf,ASm,Bf (AtQ ..) (K:=Ka YI 0 14)];kernel_rfl
def Ug(a g:Int)(i:ATp)(t:ATq)(u:ASC):ATP ((ATq×ASC)⊕ATq):=
 bif decide ((u.length:Int)>0)then
 bif (decide ((0:Int)<=0))&&(decide (0<(u.length:Int)))then
 bif (decide ((0:Int)<=1))&&(decide (1<=(u.length:Int)))then
 (WH a g i (BA ATy ATH i (u.getD 0 ATy.zero)) ((BA ATy ATH i (u.getD 0 ATy.zero)).length:Int) 0 t (u.drop 1)).bind λl=>some (.inl (l.1,l.2))
 else
 none
 else
 none
 else
 some (.inr t)
def Pv a g i (z_:ATq×ASC):=Ug a g i z_.1 z_.2
def WI a g i t u:=fix (Pv a g i) (t,u)
theorem AtS a g i:A8 YI 0 10 (code f145) 252 (ArQ a g i) (Pv a g i) (Ap3 a g i):=by
 intro _;simp(disch:=refine id ?_;kernel_rfl) only[Pv,Ug,ASm,WH,AJ (AtR _ _ _ _ _) (K:=Ka YI 0 10)];kernel_rfl
def ArN a g v w (z_:Int×ATp):=sT 116 [(1,dI a),(2,dI g),(7,.mp 0),(20,Gn v),(21,dI w),(22,dI z_.1)] [cb z_.2 none]
def Ap0 a g (v:ASH) (w:Int):=λ(i:ATp)=>xE 0 116 [(1,dI a),(2,dI g),(7,.mp 0)] [cb i none]
def Afs a g v w x (y:ATp) a1:=sT 116 (Aki a g v w x) [cb y none,.box (ED a1)]
def yO a g v w x (y:ATp) (a1:ASr):=λ(b1:ATp)=>sT 116 [(1,dI a),(2,dI g),(7,.mp 0),(20,Gn v),(21,dI w),(22,dI x)] [cb b1 none]
def Ta(a g:Int)(v:ASH)(w x:Int)(y:ATp)(a1:ASr):ATP ATp:=
 if((BA ATy ATH y a1.2.1).length+([(a1.2.1,a1.1,a1.2.2.1,())]:ASH).length)*24<=140737488355328 then
 bif Bm ATy a1.2.1 a1.2.1 then
 some (Cs ATy ATH y a1.2.1 ((BA ATy ATH y a1.2.1)++([(a1.2.1,a1.1,a1.2.2.1,())]:ASH)))
 else
 none
 else none
noncomputable def zd(a g:Int)(v:ASH)(w x:Int)(y:ATp)(a1:ASr):ATP Unit:=if((BA ATy ATH y a1.2.1).length+([(a1.2.1,a1.1,a1.2.2.1,())]:ASH).length)*24<=140737488355328 then bif Bm ATy a1.2.1 a1.2.1 then DY (yO a g v w x y a1 (Cs ATy ATH y a1.2.1 ((BA ATy ATH y a1.2.1)++([(a1.2.1,a1.1,a1.2.2.1,())]:ASH))))else none else none
theorem AtO(a g:Int)(v:ASH)(w x:Int)(y:ATp)(a1:ASr):MQ YI 0 6 (cd f145 116) 115 (Afs a g v w x y a1) (Ta a g v w x y a1) (yO a g v w x y a1):=by
 unfold MQ;have h:re YI 0 6 (cd f145 116) (pt 115) (Afs a g v w x y a1) =
 if((BA ATy ATH y a1.2.1).length+([(a1.2.1,a1.1,a1.2.2.1,())]:ASH).length)*24<=140737488355328 then bif Bm ATy a1.2.1 a1.2.1 then(((zd a g v w x y a1).bind λ_=>zd a g v w x y a1).bind λ_=>some (yO a g v w x y a1 (Cs ATy ATH y a1.2.1 ((BA ATy ATH y a1.2.1)++([(a1.2.1,a1.1,a1.2.2.1,())]:ASH)))))else none else none:=by kernel_rfl
 rw[h];unfold Ta;simp only[ASm,mS,mO];clear h;by_cases GM:((BA ATy ATH y a1.2.1).length+([(a1.2.1,a1.1,a1.2.2.1,())]:ASH).length)*24<=140737488355328
 ·rw[AQr GM,AQr GM];cases Pk:(Bm ATy a1.2.1 a1.2.1)with
  |true =>
   simp only[AQp];simp only[zd,AQp,AQr GM,Pk,AQV,AP9,DY,DD]
  |false =>
   simp only[AQo]
   all_goals first |rfl |simp
 ·simp only[AQV,AQs GM]
def Afr a g v w x (c1:ATp) d1:=sT 116 (Aki a g v w x) [cb c1 none,.box (ED d1)]
def yN a g v w x (c1:ATp) d1:=λ(y:ATp)=>sT 116 (Aki a g v w x) [cb y none,.box (ED d1)]
def S9(a g:Int)(v:ASH)(w x:Int)(c1:ATp)(d1:ASr):ATP ATp:=
 if((BA ATy ATH c1 d1.1).length+([d1]:ASH).length)*24<=140737488355328 then
 bif Bm ATy d1.1 d1.1 then
 some (Cs ATy ATH c1 d1.1 ((BA ATy ATH c1 d1.1)++([d1]:ASH)))
 else
 none
 else none
noncomputable def zc(a g:Int)(v:ASH)(w x:Int)(c1:ATp)(d1:ASr):ATP Unit:=if((BA ATy ATH c1 d1.1).length+([d1]:ASH).length)*24<=140737488355328 then bif Bm ATy d1.1 d1.1 then DY (yN a g v w x c1 d1 (Cs ATy ATH c1 d1.1 ((BA ATy ATH c1 d1.1)++([d1]:ASH))))else none else none
theorem AtN(a g:Int)(v:ASH)(w x:Int)(c1:ATp)(d1:ASr):MQ YI 0 5 (cd f145 116) 114 (Afr a g v w x c1 d1) (S9 a g v w x c1 d1) (yN a g v w x c1 d1):=by
 unfold MQ;have h:re YI 0 5 (cd f145 116) (pt 114) (Afr a g v w x c1 d1) =
 if((BA ATy ATH c1 d1.1).length+([d1]:ASH).length)*24<=140737488355328 then bif Bm ATy d1.1 d1.1 then(((zc a g v w x c1 d1).bind λ_=>zc a g v w x c1 d1).bind λ_=>some (yN a g v w x c1 d1 (Cs ATy ATH c1 d1.1 ((BA ATy ATH c1 d1.1)++([d1]:ASH)))))else none else none:=by kernel_rfl
 rw[h];unfold S9;simp only[ASm,mS,mO];clear h;by_cases GM:((BA ATy ATH c1 d1.1).length+([d1]:ASH).length)*24<=140737488355328
 ·rw[AQr GM,AQr GM];cases Pk:(Bm ATy d1.1 d1.1)with
  |true =>
   simp only[AQp];simp only[zc,AQp,AQr GM,Pk,AQV,AP9,DY,DD]
  |false =>
   simp only[AQo]
   all_goals first |rfl |simp
 ·simp only[AQV,AQs GM]
def Ue(a g:Int)(v:ASH)(w x:Int)(c1:ATp):ATP ((Int×ATp)⊕ATp):=
 bif decide (x<w)then
 if 0<=x/\x<v.length then
 (S9 a g v w x c1 (v.getD x.toNat Ae.zero)).bind λy=>(Ta a g v w x y (v.getD x.toNat Ae.zero)).bind λb1=>some (.inl (wI (x+1),b1))
 else none
 else
 some (.inr c1)
def Ps a g v w (z_:Int×ATp):=Ue a g v w z_.1 z_.2
def WG a g v w x c1:=fix (Ps a g v w) (x,c1)
theorem AtP a g v w:A8 YI 0 3 (code f145) 58 (ArN a g v w) (Ps a g v w) (Ap0 a g v w):=by
 intro _;simp(disch:=refine id ?_;kernel_rfl) only[Ps,Ue,ASm,Tv (AtN ..) (K:=Ka YI 0 3),Tv (AtO ..) (K:=Ka YI 0 3)];kernel_rfl
def XT(v:ASH)(a g:Int):ATP ASC:=
 (WG a g v (v.length:Int) 0 ([]:ATO AS0)).bind λi=>(WI a g i (Cs ATy Ae ([]:ATO AS4) a (a,a,0,())) ([a]:ASC)).bind λb=>(aE a b g ([]:ASC)).bind λc=>if c.length<4611686018427387904 then
 some (Oy (Ro c))
 else none
def AEV:=Ck [.d ATH,.d ATy,.d ATy] [⟨[.AB [] ATH,.AB [] ATy,.AB [] ATy],[],ASC,λp=>XT p.1.1 p.1.2.1 p.1.2.2.1,λr=>(.AK 0,[AA r])⟩]
theorem Ags:An prog 145 AEV:=Av (fn:=f145) ⟨⟨YI,pk ⟨uJ,uK,trivial⟩,λ_ R K=>by
 simp(disch:=refine id ?_;kernel_rfl) only[XT,ASn,WG,AJ (AtP _ _ _ _) (K:=A2 YI f145 0 R K),WI,AJ (AtS _ _ _) (K:=A2 YI f145 0 R K),aE,AJ (AtT _ _) (K:=A2 YI f145 0 R K)];kernel_rfl⟩,trivial⟩
abbrev AId:=eN [] {WX:=[.mv 0 [0],.Bg 1,.mv 0 [1],.Bg 2]}
def Bs(a:Int)(b:ASo)(c d:ASC)(e:ATn)(g:ASH):ATP (Int×ATn×ASH×ASC×ASC):=
 bif decide (b.1>=0)then
 some (b.1,e,g,c,d)
 else
 if(c.length+([(c.length:Int)]:ASC).length)*8<=140737488355328 then
 if(d.length+([(c.length:Int)]:ASC).length)*8<=140737488355328 then
 some ((c.length:Int),Cs ATy Ai e (c.length:Int) b.2.1,g,c++([(c.length:Int)]:ASC),d++([(c.length:Int)]:ASC))
 else none
 else none
def AEU:=Ck [.VE,.d A9] [⟨[.ptr 0 [] 0,.AB [] A9],[.box (.pr (.k I2) (.pr (.k V5) (.pr (.k (.mp 3)) (.pr (.k UH) (.k .u))))),.row 2 .Aw ATy,.row 2 .Aw ATy,.map (.sh []) ATy Ai,.row 164 .Aw Ae],Int×ATn×ASH×ASC×ASC,λp=>Bs p.1.1 p.1.2.1 p.2.2.1 p.2.2.2.1 p.2.2.2.2.1 p.2.2.2.2.2.1,λr=>(dI r.1,[.box (.pr (.AK 5) (.pr (.AK 6) (.pr (.mp 3) gN))),.Bg,.Bg,J7 r.2.1 none,Db r.2.2.1,AA r.2.2.2.1,AA r.2.2.2.2])⟩]
theorem Agr:An prog 143 AEU:=Av (fn:=f143) ⟨⟨AId,pk trivial,λ_ R K=>by
 simp only[Bs,ASn];kernel_rfl⟩,trivial⟩
abbrev AoW:=eN [] {Ba:=[(1,[0,1])],BN:=[(1,[1])]}
def ArS(a:Int) b (c:ATn) d (z_:Int×ASC):=sT 41 [(0,.ptr 0 a [] 0),(1,dI z_.1)] [.box dY,AA z_.2,AA b,J7 c none,Db d]
def Ap5(a:Int) b (c:ATn) d:=λ(e:ASZ)=>xE 0 41 [(1,dI e.1)] [.box dY,AA e.2,AA b,J7 c none,Db d]
def LO(a:Int)(b:ASC)(c:ATn)(d:ASH)(g:Int)(i:ASC):ATP (ASZ⊕ASZ):=
 if 0<=g/\g<i.length then
 bif (i.getD g.toNat ATy.zero) !=g then
 if 0<=g/\g<i.length then
 if(0:Int)<=(i.getD g.toNat ATy.zero)/\(i.getD g.toNat ATy.zero)<(i.length:Int)then
 if 0<=g/\g<i.length then
 if 0<=g/\g<(i.set g.toNat (i.getD (i.getD g.toNat ATy.zero).toNat ATy.zero)).length then
 some (.inl ((i.set g.toNat (i.getD (i.getD g.toNat ATy.zero).toNat ATy.zero)).getD g.toNat ATy.zero,i.set g.toNat (i.getD (i.getD g.toNat ATy.zero).toNat ATy.zero)))
 else none
 else none
 else none
 else none
 else
 some (.inr (g,i))
 else none
def HQ a b c d (z_:Int×ASC):=LO a b c d z_.1 z_.2
def UD a b c d g i:=fix (HQ a b c d) (g,i)
theorem AtU a b c d:A8 AoW 5 1 (code f144) 12 (ArS a b c d) (HQ a b c d) (Ap5 a b c d):=by
 intro _;simp only[HQ,LO,ASm];kernel_rfl
def G0(a j:Int)(k b:ASC)(c:ATn)(d:ASH):ATP (Int×ASC×ASC×ATn×ASH):=
 (UD a b c d j k).bind λe=>some (e.1,e.2,b,c,d)
def Avl:=Ck [.VE,.d ATy] [⟨[.ptr 0 [] 0,.AB [] ATy],[.box (.pr (.k I2) (.pr (.k V5) (.pr (.k (.mp 3)) (.pr (.k UH) (.k .u))))),.row 2 .Aw ATy,.row 2 .Aw ATy,.map (.sh []) ATy Ai,.row 164 .Aw Ae],Int×ASC×ASC×ATn×ASH,λp=>G0 p.1.1 p.1.2.1 p.2.2.1 p.2.2.2.1 p.2.2.2.2.1 p.2.2.2.2.2.1,λr=>(dI r.1,[.box dY,AA r.2.1,AA r.2.2.1,J7 r.2.2.2.1 none,Db r.2.2.2.2])⟩]
theorem uH:An prog 144 Avl:=Av (fn:=f144) ⟨⟨AoW,pk trivial,λ_ R K=>by
 simp(disch:=refine id ?_;kernel_rfl) only[G0,ASn,UD,AJ (AtU _ _ _ _) (K:=A2 AoW f144 5 R K)];kernel_rfl⟩,trivial⟩
abbrev gP:=eN [(81,c81),(143,AEU),(144,Avl),(145,AEV)] {BM:=[(8,[0,10,11,12,13,63]),(11,[0,6,7,10,11,12,13]),(14,[0,10,12,109]),(15,{Be:=[]})],W8:=[(1,[0,2,8,9])],Du:=[(8,[0,10,11,12,13]),(11,[0,10,11,12,13]),(14,[0,10,12,13]),(15,[0,10,12,13])],Yl:=[(1,[0,2,4])],WX:=[.mv 0 [3],.Bg 4],iq:=[(0,.row [] 2 ATy true)]}
def ArU(a:Int) b c d (e:ATn) g i j:=sT 117 [(0,.ptr 0 a [] 0),(10,dI c),(12,dI b),(13,dI d)] (gM e g i j)
def Ap7(a b c d:Int)(e:ATn) g (i:ASC) j:=λ(k:ASC)=>xN 117 [] (gM e g k j)
def Afv(a:Int) c b d (e:ATn) g i j:=sT 117 [(0,.ptr 0 a [] 0),(10,dI c),(12,dI b),(13,dI d)] (gM e g i j)
def yQ(a c b:Int)(e:ATn)(g i:ASC)(j:ASH)(m0:Bool):Ex×St:=xN 117 [(0,.ptr 0 a [] 0),(10,dI c),(12,dI b),(109,dB m0)] (gM e g i j)
theorem AtY a c b d e g i j:Xk gP 5 14 (cd f104 2046) (pt 2) (Afv a c b d e g i j)=some (yQ a c b e g i j ((decide (b>=0))&&(decide (d>=0)))):=by
 refine .trans (b:=
 bif decide (b>=0)then
 some (yQ a c b e g i j (decide (d>=0)))
 else
 some (yQ a c b e g i j false)) (by kernel_rfl) ?_
 cases (decide (b>=0));rfl;rfl
def Ei(a b c d:Int)(e:ATn)(g i:ASC)(j:ASH):ATP ASC:=
 OQ (Afv a c b d e g i j) (
 bif (decide (b>=0))&&(decide (d>=0))then
 if 0<=c/\c<i.length then
 some (i.set c.toNat b)
 else none
 else
 some i)
theorem AtZ a b c d e g i j:AX gP 5 15 (code f104) 2046 (ArU a b c d e g i j) (Ei a b c d e g i j) (Ap7 a b c d e g i j):=by
 unfold AX;simp(disch:=refine id ?_;kernel_rfl) only[Ei,ASm,Ey (AtY ..) (K:=Ui gP 5 15)];kernel_rfl
def ArT(a:Int) l n o q (s:ATn) t u v:=sT 117 (Akj a l n o q) (gM s t u v)
def Ap6(a:Int) l n o q (s:ATn) t u v:=Sum.elim (λ(w:ASC)=>xR 117 [(0,.ptr 0 a [] 0),(6,.AK 5),(7,dB false),(10,dI l),(11,dI n),(12,dI o),(13,dI q)] [.box (.pr (.AK 6) (.pr (.AK 7) (.pr (.mp 3) gO))),.Bg,.Bg,J7 s none,.Bg,AA w,AA t,AA u,Db v]) (λ(b:Int)=>xN 117 (Akj a l n b q) (gM s t u v))
def Afu(a:Int) l n o q (s:ATn) t u v:=sT 117 (Akj a l n o q) (gM s t u v)
def yP(a l n o q:Int)(s:ATn)(t u:ASC)(v:ASH)(m0:Bool):Ex×St:=xN 117 [(0,.ptr 0 a [] 0),(10,dI l),(11,dI n),(12,dI o),(13,dI q),(63,dB m0)] (gM s t u v)
theorem AtW a l n o q s t u v:Xk gP 5 8 (cd f104 254) (pt 2) (Afu a l n o q s t u v)=some (yP a l n o q s t u v ((decide (o>=0))&&(decide (q>=0)))):=by
 refine .trans (b:=
 bif decide (o>=0)then
 some (yP a l n o q s t u v (decide (q>=0)))
 else
 some (yP a l n o q s t u v false)) (by kernel_rfl) ?_
 cases (decide (o>=0));rfl;rfl
def Jo(a l n o q:Int)(s:ATn)(t u:ASC)(v:ASH):ATP (ASC⊕Int):=
 OQ (Afu a l n o q s t u v) (
 bif (decide (o>=0))&&(decide (q>=0))then
 (MW (BA ATy Ai s o) (BA ATy Ai s q)).bind λx=>bif !x then
 (XT v o q).bind λy=>some (.inl y)
 else
 some (.inr (if q<o then q else o))
 else
 some (.inr o))
theorem AtX a l n o q s t u v:AX gP 5 11 (code f104) 254 (ArT a l n o q s t u v) (Jo a l n o q s t u v) (Ap6 a l n o q s t u v):=by
 unfold AX;simp(disch:=refine id ?_;kernel_rfl) only[Jo,ASm,Ey (AtW ..) (K:=Ui gP 5 11)];kernel_rfl
def Aft(a:Int) a1 b1 c1 (d1:ATn) e1 g1:=sT 117 [(0,.ptr 0 a [] 0),(2,dI a1),(4,LS)] [.box dY,AA b1,AA c1,J7 d1 none,Db e1,.box (dD As g1)]
def YM(a:Int) a1 (b1:ASC) (c1:ASC) (d1:ATn) (e1:ASH) (g1:ASA):=λ(i1:(Int×Int×ATn×ASH×ASC×ASC))=>sT 117 [(0,.ptr 0 a [] 0),(2,dI a1),(8,dI i1.1),(9,dI i1.2.1)] [.box (.pr (.AK 5) (.pr (.AK 6) (.pr (.mp 3) gN))),.Bg,.Bg,J7 i1.2.2.1 none,Db i1.2.2.2.1,AA i1.2.2.2.2.1,AA i1.2.2.2.2.2]
def Jn(a a1:Int)(b1 c1:ASC)(d1:ATn)(e1:ASH)(g1:ASA):ATP (Int×Int×ATn×ASH×ASC×ASC):=
 (Bs a g1.1 b1 c1 d1 e1).bind λj1=>(Bs a g1.2.1 j1.2.2.2.1 j1.2.2.2.2 j1.2.1 j1.2.2.1).bind λk1=>some (j1.1,k1.1,k1.2.1,k1.2.2.1,k1.2.2.2.1,k1.2.2.2.2)
theorem AtV(a a1:Int)(b1 c1:ASC)(d1:ATn)(e1:ASH)(g1:ASA):MQ gP 5 1 (code f104) 6 (Aft a a1 b1 c1 d1 e1 g1) (Jn a a1 b1 c1 d1 e1 g1) (YM a a1 b1 c1 d1 e1 g1):=by
 unfold MQ;have h:re gP 5 1 (code f104) (pt 6) (Aft a a1 b1 c1 d1 e1 g1) =
 (Bs a g1.1 b1 c1 d1 e1).bind λj1=>(Bs a g1.2.1 j1.2.2.2.1 j1.2.2.2.2 j1.2.1 j1.2.2.1).bind λk1=>(((((Bs a g1.1 b1 c1 d1 e1).bind λl1 =>
(Bs a g1.2.1 l1.2.2.2.1 l1.2.2.2.2 l1.2.1 l1.2.2.1).bind λn1=>C2 (YM a a1 b1 c1 d1 e1 g1 (l1.1,n1.1,n1.2.1,n1.2.2.1,n1.2.2.2.1,n1.2.2.2.2)) (YM a a1 b1 c1 d1 e1 g1 (j1.1,k1.1,k1.2.1,k1.2.2.1,k1.2.2.2.1,k1.2.2.2.2))).bind λ_=>(Bs a g1.1 b1 c1 d1 e1).bind λo1 =>
(Bs a g1.2.1 o1.2.2.2.1 o1.2.2.2.2 o1.2.1 o1.2.2.1).bind λq1=>C2 (YM a a1 b1 c1 d1 e1 g1 (o1.1,q1.1,q1.2.1,q1.2.2.1,q1.2.2.2.1,q1.2.2.2.2)) (YM a a1 b1 c1 d1 e1 g1 (j1.1,k1.1,k1.2.1,k1.2.2.1,k1.2.2.2.1,k1.2.2.2.2))).bind λ_=>(Bs a g1.1 b1 c1 d1 e1).bind λs1 =>
(Bs a g1.2.1 s1.2.2.2.1 s1.2.2.2.2 s1.2.1 s1.2.2.1).bind λt1=>C2 (YM a a1 b1 c1 d1 e1 g1 (s1.1,t1.1,t1.2.1,t1.2.2.1,t1.2.2.2.1,t1.2.2.2.2)) (YM a a1 b1 c1 d1 e1 g1 (j1.1,k1.1,k1.2.1,k1.2.2.1,k1.2.2.2.1,k1.2.2.2.2))).bind λ_=>some (YM a a1 b1 c1 d1 e1 g1 (j1.1,k1.1,k1.2.1,k1.2.2.1,k1.2.2.2.1,k1.2.2.2.2))):=by kernel_rfl
 rw[h];unfold Jn;simp only[ASm,mS,mO];clear h;cases GM:Bs a g1.1 b1 c1 d1 e1 with
 |none=>rfl
 |some j1 =>
  simp only[AP9];cases Pk:Bs a g1.2.1 j1.2.2.2.1 j1.2.2.2.2 j1.2.1 j1.2.2.1 with
  |none=>rfl
  |some k1 =>
   simp only[AP9];simp only[GM,Pk,AQV,AP9,DY,DD]
def JH(a:Int)(g1:ASA)(a1:Int)(b1 c1:ASC)(d1:ATn)(e1:ASH):ATP (Bool×ATn×ASC×ASC×ASC×ASH):=
 (Jn a a1 b1 c1 d1 e1 g1).bind λi1=>(G0 a i1.1 i1.2.2.2.2.1 i1.2.2.2.2.2 i1.2.2.1 i1.2.2.2.1).bind λu1=>(G0 a i1.2.1 u1.2.1 u1.2.2.1 u1.2.2.2.1 u1.2.2.2.2).bind λv1=>bif u1.1==v1.1 then
 some (true,v1.2.2.2.1,([]:ASC),v1.2.1,v1.2.2.1,v1.2.2.2.2)
 else
 if(v1.2.2.2.2.length+([(i1.1,i1.2.1,a1,())]:ASH).length)*24<=140737488355328 then
 if(0:Int)<=u1.1/\u1.1<(v1.2.2.1.length:Int)then
 if(0:Int)<=v1.1/\v1.1<(v1.2.2.1.length:Int)then
 (Jo a u1.1 v1.1 (v1.2.2.1.getD u1.1.toNat ATy.zero) (v1.2.2.1.getD v1.1.toNat ATy.zero) v1.2.2.2.1 v1.2.1 v1.2.2.1 (v1.2.2.2.2++([(i1.1,i1.2.1,a1,())]:ASH))).bind (Sum.elim (λw=>some (false,v1.2.2.2.1,w,v1.2.1,v1.2.2.1,v1.2.2.2.2++([(i1.1,i1.2.1,a1,())]:ASH))) (λb=>if(0:Int)<=v1.1/\v1.1<(v1.2.1.length:Int)then
 if(0:Int)<=u1.1/\u1.1<(v1.2.2.1.length:Int)then
 (Ei a b u1.1 (v1.2.2.1.getD v1.1.toNat ATy.zero) v1.2.2.2.1 (v1.2.1.set v1.1.toNat u1.1) (v1.2.2.1.set u1.1.toNat (if(v1.2.2.1.getD v1.1.toNat ATy.zero)>b then(v1.2.2.1.getD v1.1.toNat ATy.zero)else b)) (v1.2.2.2.2++([(i1.1,i1.2.1,a1,())]:ASH))).bind λk=>some (true,v1.2.2.2.1,([]:ASC),v1.2.1.set v1.1.toNat u1.1,k,v1.2.2.2.2++([(i1.1,i1.2.1,a1,())]:ASH))
 else none
 else none))
 else none
 else none
 else none
def AEw:=Ck [.VE,.d As,.d ATy] [⟨[.ptr 0 [] 0,.AB [] As,.AB [] ATy],[.box (.pr (.k I2) (.pr (.k V5) (.pr (.k (.mp 3)) (.pr (.k UH) (.k .u))))),.row 2 .Aw ATy,.row 2 .Aw ATy,.map (.sh []) ATy Ai,.row 164 .Aw Ae],Bool×ATn×ASC×ASC×ASC×ASH,λp=>JH p.1.1 p.1.2.1 p.1.2.2.1 p.2.2.1 p.2.2.2.1 p.2.2.2.2.1 p.2.2.2.2.2.1,λr=>(.cons (.AK 5) (.cons (dB r.1) .nil),[.box (.pr (.AK 6) (.pr (.AK 7) (.pr (.mp 3) gO))),.Bg,.Bg,J7 r.2.1 none,.Bg,AA r.2.2.1,AA r.2.2.2.1,AA r.2.2.2.2.1,Db r.2.2.2.2.2])⟩]
theorem Af2:An prog 104 AEw:=Av (fn:=f104) ⟨⟨gP,pk ⟨AlN,Agr,uH,Ags,trivial⟩,λ_ R K=>by
 simp(disch:=refine id ?_;kernel_rfl) only[JH,ASn,Tv (AtV ..) (K:=A2 gP f104 5 R K),Bf (AtX ..) (K:=A2 gP f104 5 R K),Bf (AtZ ..) (K:=A2 gP f104 5 R K)];kernel_rfl⟩,trivial⟩
abbrev yw:=eN [(144,Avl),(146,Ak8)] {Ba:=[(4,{Be:=[0,5,6,15,16],Cj:=[(5,false,.row [] 102 Ao true)]})],BN:=[(4,[5])],BM:=[(15,{Be:=[0,5,6,7,9,11,15,16],Cj:=[(11,true,.row [2,1] 199 ATz true)]}),(16,{Be:=[0,5,6,7,9,15,16],Cj:=[(5,false,.row [] 102 Ao true)]})],Du:=[(15,[0,5,6,7,8,9,11,15,16]),(16,[0,5,6,7,8,9,10,15,16])],stl:=[64]}
def ArX(a:Int) b (z_:Int×ASC×ASC×ATn×ASH×ASN×ATr):=sT 72 [(0,.ptr 0 a [] 0),(5,.AK 5),(6,.mp 6),(15,dI b),(16,dI z_.1)] (Akk z_.2.1 z_.2.2.1 z_.2.2.2.1 z_.2.2.2.2.1 z_.2.2.2.2.2.1 z_.2.2.2.2.2.2)
def Aqa(a b:Int):=λ(c:ATu)=>xE 0 72 [(5,.AK 5)] [.box dY,AA c.1,AA c.2.1,J7 c.2.2.1 none,Db c.2.2.2.1,Fl c.2.2.2.2]
def ArW(a:Int) d b e (g:ATr) i j k l n (o:ATn) q:=sT 72 [(0,.ptr 0 a [] 0),(5,.AK 5),(6,.mp 6),(7,dI d),(8,dI i),(9,dI j),(10,dB k),(15,dI b),(16,dI d)] (Akk l n o q e g)
def Ap9(a:Int) d b (e:ASN) (g:ATr) (i:Int) (j:Int) (k:Bool) l n (o:ATn) q:=λ(s:(Int×ASN×ATr))=>xN 72 [(0,.ptr 0 a [] 0),(5,.AK 5),(6,.mp 6),(7,dI d),(9,dI s.1),(15,dI b),(16,dI d)] (Akk l n o q s.2.1 s.2.2)
def ArV(a:Int) d i b l n (o:ATn) q e t (u:ATr):=sT 72 [(0,.ptr 0 a [] 0),(5,.AK 5),(6,.mp 6),(7,dI d),(8,dI i),(9,dI t),(11,fO),(15,dI b),(16,dI d)] [.box dY,AA l,AA n,J7 o none,Db q,Fl e,AaQ u none,.box (.pr .zs (.pr (dB false) (.pr S3 .u)))]
def Ap8(a:Int) d (i:Int) b l n (o:ATn) q e t (u:ATr):=λ(v:(Bool×Int×ASC))=>xN 72 [(0,.ptr 0 a [] 0),(5,.AK 5),(6,.mp 6),(7,dI d),(9,dI t),(11,fO),(15,dI b),(16,dI d)] [.box dY,AA l,AA n,J7 o none,Db q,Fl e,AaQ u none,.box (.pr .zs (.pr (dB v.1) (.pr (.pr (dI v.2.1) gO) .u))),Bj v.2.2]
def D4(a d i b:Int)(l n:ASC)(o:ATn)(q:ASH)(e:ASN)(t:Int)(u:ATr):ATP (Bool×Int×ASC):=
 if 0<=i/\i<n.length then
 bif decide ((n.getD i.toNat ATy.zero)>=0)then
 (Dp (BA ATy Ai o (n.getD i.toNat ATy.zero))).bind λw=>some (true,w.1,w.2)
 else
 some (false,0,([]:ASC))
 else none
theorem At0 a d i b l n o q e t u:AX yw 5 15 (sb (cd f105 244) 462) 110 (ArV a d i b l n o q e t u) (D4 a d i b l n o q e t u) (Ap8 a d i b l n o q e t u):=by
 unfold AX;simp only[D4,ASm];kernel_rfl
def GD(a d b:Int)(e:ASN)(g:ATr)(i j:Int)(k:Bool)(l n:ASC)(o:ATn)(q:ASH):ATP (Int×ASN×ATr):=
 bif !k then
 (D4 a d i b l n o q e (e.length:Int) (Cs ATy ATy g i (e.length:Int))).bind λv=>if(e.length+([(([]:ASC),v.1,(v.2.1,v.2.2,()),())]:ASN).length)*64<=140737488355328 then
 some ((e.length:Int),e++([(([]:ASC),v.1,(v.2.1,v.2.2,()),())]:ASN),Cs ATy ATy g i (e.length:Int))
 else none
 else
 some (j,e,g)
theorem At1 a d b e g i j k l n o q:AX yw 5 16 (cd f105 244) 462 (ArW a d b e g i j k l n o q) (GD a d b e g i j k l n o q) (Ap9 a d b e g i j k l n o q):=by
 unfold AX;simp(disch:=refine id ?_;kernel_rfl) only[GD,ASm,Bf (At0 ..) (K:=Ui yw 5 16)];kernel_rfl
def I6(a b d:Int)(x y:ASC)(a1:ATn)(b1:ASH)(e:ASN)(g:ATr):ATP ((Int×ASC×ASC×ATn×ASH×ASN×ATr)⊕ATu):=
 bif decide (d<b)then
 (G0 a d x y a1 b1).bind λc1=>(GD a d b e g c1.1 (BA ATy ATy g c1.1) (Ul ATy ATy g c1.1) c1.2.1 c1.2.2.1 c1.2.2.2.1 c1.2.2.2.2).bind λs=>if(0:Int)<=s.1/\s.1<(s.2.1.length:Int)then
 if((s.2.1.getD s.1.toNat Ao.zero).1.length+([d]:ASC).length)*8<=140737488355328 then
 if(0:Int)<=s.1/\s.1<(s.2.1.length:Int)then
 if s.1=s.1 then
 some (.inl (wI (d+1),c1.2.1,c1.2.2.1,c1.2.2.2.1,c1.2.2.2.2,s.2.1.set s.1.toNat ((s.2.1.getD s.1.toNat Ao.zero).1++([d]:ASC),(s.2.1.getD s.1.toNat Ao.zero).2),s.2.2))
 else none
 else none
 else none
 else none
 else
 some (.inr (x,y,a1,b1,e))
def Fb a b (z_:Int×ASC×ASC×ATn×ASH×ASN×ATr):=I6 a b z_.1 z_.2.1 z_.2.2.1 z_.2.2.2.1 z_.2.2.2.2.1 z_.2.2.2.2.2.1 z_.2.2.2.2.2.2
def Kq a b d x y a1 b1 e g:=fix (Fb a b) (d,x,y,a1,b1,e,g)
theorem At2 a b:A8 yw 5 4 (code f105) 122 (ArX a b) (Fb a b) (Aqa a b):=by
 intro _;simp(disch:=refine id ?_;kernel_rfl) only[-eq_self,Fb,I6,ASm,Bf (At1 ..) (K:=Ka yw 5 4)];kernel_rfl
def Gs(a b:Int)(d1 e1:ASC)(g1:ATn)(i1:ASH):ATP ATu:=
 (Kq a b 0 d1 e1 g1 i1 ([]:ASN) ([]:ATO AS1)).bind λc=>some (c.1,c.2.1,c.2.2.1,c.2.2.2.1,c.2.2.2.2)
def AEx:=Ck [.VE,.d ATy] [⟨[.ptr 0 [] 0,.AB [] ATy],[.box (.pr (.k I2) (.pr (.k V5) (.pr (.k (.mp 3)) (.pr (.k UH) (.k .u))))),.row 2 .Aw ATy,.row 2 .Aw ATy,.map (.sh []) ATy Ai,.row 164 .Aw Ae],ATu,λp=>Gs p.1.1 p.1.2.1 p.2.2.1 p.2.2.2.1 p.2.2.2.2.1 p.2.2.2.2.2.1,λr=>(.AK 5,[.box dY,AA r.1,AA r.2.1,J7 r.2.2.1 none,Db r.2.2.2.1,Fl r.2.2.2.2])⟩]
theorem Af3:An prog 105 AEx:=Av (fn:=f105) ⟨⟨yw,pk ⟨uH,jI,trivial⟩,λ_ R K=>by
 simp(disch:=refine id ?_;kernel_rfl) only[Gs,ASn,Kq,AJ (At2 _ _) (K:=A2 yw f105 5 R K)];kernel_rfl⟩,trivial⟩
abbrev yx:=eN [(102,AEu),(103,AEv),(104,AEw),(105,AEx)] {Ba:=[(4,{Be:=[0,2,3,4,25,26,27],Cj:=[(4,true,.row [3] 164 Ae true)]}),(8,{Be:=[0,2,3,4,6,25,26,27,37,38,39],Cj:=[(4,true,.row [3] 164 Ae true)]})],BN:=[(4,[0,2,3,4]),(8,[0,2,3,4,25,26,27])],BM:=[(15,{Be:=[0,2,3,4,25,26,27],Cj:=[(4,true,.row [3] 164 Ae true)]})],Du:=[(15,[0,2,3,4,25,26,27])],iq:=[(0,.row [1] 102 Ao true),(0,.row [2] 2 ATy true)]}
def Ar0(a:Int) b (c:Int) d (z_:Int×ASG×ASK×ATs×ASQ×ASH×ATo×ASC×ASC×ATn×ASH):=sT 67 (qh a c b d z_.1) (xZ z_.2.1 z_.2.2.1 z_.2.2.2.1 z_.2.2.2.2.1 z_.2.2.2.2.2.1 z_.2.2.2.2.2.2.1 z_.2.2.2.2.2.2.2.1 z_.2.2.2.2.2.2.2.2.1 z_.2.2.2.2.2.2.2.2.2.1 z_.2.2.2.2.2.2.2.2.2.2)
def Aqd(a:Int)(b:ASK)(c d:Int):=Sum.elim (λ(e:ATv)=>xR 67 [(0,.ptr 0 a [] 0),(2,LS),(3,V0),(4,.ptr 7 c [] 0)] (Akl e.1 e.2.1 e.2.2.1 e.2.2.2.1 e.2.2.2.2.1 e.2.2.2.2.2.1 e.2.2.2.2.2.2.1 e.2.2.2.2.2.2.2.1 e.2.2.2.2.2.2.2.2.1 e.2.2.2.2.2.2.2.2.2.1 e.2.2.2.2.2.2.2.2.2.2)) (λ(g:ATw)=>xE 0 67 [(0,.ptr 0 a [] 0),(2,LS),(3,V0),(4,.ptr 7 c [] 0)] (xZ g.1 g.2.1 g.2.2.1 g.2.2.2.1 g.2.2.2.2.1 g.2.2.2.2.2.1 g.2.2.2.2.2.2.1 g.2.2.2.2.2.2.2.1 g.2.2.2.2.2.2.2.2.1 g.2.2.2.2.2.2.2.2.2))
def ArZ(a c:Int) b d i j k l n o (q:ATo) s t (u:ATn) v:=sT 67 (qh a c b d i) (xZ j k l n o q s t u v)
def Aqc(a c:Int) b d i (j:ASG) (k:ASK) (l:ATs) (n:ASQ) (o:ASH) (q:ATo) (s:ASC) (t:ASC) (u:ATn) (v:ASH):=Sum.elim (λ(w:ATw)=>xN 67 (qh a c b d i) (xZ w.1 w.2.1 w.2.2.1 w.2.2.2.1 w.2.2.2.2.1 w.2.2.2.2.2.1 w.2.2.2.2.2.2.1 w.2.2.2.2.2.2.2.1 w.2.2.2.2.2.2.2.2.1 w.2.2.2.2.2.2.2.2.2)) (λ(x:ATv)=>xR 67 (qh a c b d i) (Akl x.1 x.2.1 x.2.2.1 x.2.2.2.1 x.2.2.2.2.1 x.2.2.2.2.2.1 x.2.2.2.2.2.2.1 x.2.2.2.2.2.2.2.1 x.2.2.2.2.2.2.2.2.1 x.2.2.2.2.2.2.2.2.2.1 x.2.2.2.2.2.2.2.2.2.2))
def ArY(a c:Int) b d i y a1 b1 c1 d1 e1 g1 (i1:ATo) j1 (z_:Int×ASC×ASC×ATn×ASH):=sT 67 [(0,.ptr 0 a [] 0),(2,LS),(3,V0),(4,.ptr 7 c [] 0),(6,tC),(25,Bl b),(26,dI d),(27,dI i),(37,tA y),(38,dI a1),(39,dI z_.1)] [.box (.pr (Ar b1) (.pr (Bl c1) Aks)),CZ d1,Dt e1,DU g1,HG i1 none,.box iA,.box (.pr YA ya),.box AoN,.box (Yd j1),AA z_.2.1,AA z_.2.2.1,J7 z_.2.2.2.1 none,Db z_.2.2.2.2]
def Aqb(a c:Int) b d i (y:ASO) (a1:Int) b1 c1 d1 e1 g1 (i1:ATo) (j1:ASu):=Sum.elim (λ(k1:(ASC×ASC×ASC×ATn×ASH))=>xR 67 (qh a c b d i) (Akl b1 c1 d1 e1 g1 i1 k1.1 k1.2.1 k1.2.2.1 k1.2.2.2.1 k1.2.2.2.2)) (λ(l1:(ASC×ASC×ATn×ASH))=>xE 2 67 (qh a c b d i) (xZ b1 c1 d1 e1 g1 i1 l1.1 l1.2.1 l1.2.2.1 l1.2.2.2))
def DG(a c:Int)(b:ASK)(d i:Int)(y:ASO)(a1:Int)(b1:ASG)(c1:ASK)(d1:ATs)(e1:ASQ)(g1:ASH)(i1:ATo)(j1:ASu)(n1:Int)(o1 q1:ASC)(s1:ATn)(t1:ASH):ATP ((Int×ASC×ASC×ATn×ASH)⊕((ASC×ASC×ASC×ATn×ASH)⊕(ASC×ASC×ATn×ASH))):=
 bif decide (n1<a1)then
 if 0<=n1/\n1<y.length then
 (JH c (y.getD n1.toNat As.zero) j1.1 o1 q1 s1 t1).bind λu1=>bif !u1.1 then
 some (.inr (.inl (u1.2.2.1,u1.2.2.2.1,u1.2.2.2.2.1,u1.2.1,u1.2.2.2.2.2)))
 else
 some (.inl (wI (n1+1),u1.2.2.2.1,u1.2.2.2.2.1,u1.2.1,u1.2.2.2.2.2))
 else none
 else
 some (.inr (.inr (o1,q1,s1,t1)))
def CJ a c b d i y a1 b1 c1 d1 e1 g1 i1 j1 (z_:Int×ASC×ASC×ATn×ASH):=DG a c b d i y a1 b1 c1 d1 e1 g1 i1 j1 z_.1 z_.2.1 z_.2.2.1 z_.2.2.2.1 z_.2.2.2.2
def Dk a c b d i y a1 b1 c1 d1 e1 g1 i1 j1 n1 o1 q1 s1 t1:=fix (CJ a c b d i y a1 b1 c1 d1 e1 g1 i1 j1) (n1,o1,q1,s1,t1)
theorem At3 a c b d i y a1 b1 c1 d1 e1 g1 i1 j1:A8 yx 5 8 (sb (cd f51 244) 14) 46 (ArY a c b d i y a1 b1 c1 d1 e1 g1 i1 j1) (CJ a c b d i y a1 b1 c1 d1 e1 g1 i1 j1) (Aqb a c b d i y a1 b1 c1 d1 e1 g1 i1 j1):=by
 intro _;simp only[CJ,DG,ASm];kernel_rfl
def Dl(a c:Int)(b:ASK)(d i:Int)(j:ASG)(k:ASK)(l:ATs)(n:ASQ)(o:ASH)(q:ATo)(s t:ASC)(u:ATn)(v:ASH):ATP (ATw⊕ATv):=
 if 0<=i/\i<b.length then
 bif !(b.getD i.toNat Ah.zero).2.1 then
 some (.inl (j,k,l,n,o,q,s,t,u,v))
 else
 (Iw a i j k l n o q).bind λv1=>(Dk a c b d i v1.1 (v1.1.length:Int) v1.2.1 v1.2.2.1 v1.2.2.2.1 v1.2.2.2.2.1 v1.2.2.2.2.2.1 v1.2.2.2.2.2.2 (b.getD i.toNat Ah.zero) 0 s t u v).bind (Sum.elim (λk1=>some (.inr (v1.2.1,v1.2.2.1,v1.2.2.2.1,v1.2.2.2.2.1,v1.2.2.2.2.2.1,v1.2.2.2.2.2.2,k1.1,k1.2.1,k1.2.2.1,k1.2.2.2.1,k1.2.2.2.2))) (λl1=>some (.inl (v1.2.1,v1.2.2.1,v1.2.2.2.1,v1.2.2.2.2.1,v1.2.2.2.2.2.1,v1.2.2.2.2.2.2,l1.1,l1.2.1,l1.2.2.1,l1.2.2.2))))
 else none
theorem At4 a c b d i j k l n o q s t u v:AX yx 5 15 (cd f51 244) 14 (ArZ a c b d i j k l n o q s t u v) (Dl a c b d i j k l n o q s t u v) (Aqc a c b d i j k l n o q s t u v):=by
 unfold AX;simp(disch:=refine id ?_;kernel_rfl) only[Dl,ASm,Dk,AJ (At3 _ _ _ _ _ _ _ _ _ _ _ _ _ _) (K:=Ui yx 5 15)];kernel_rfl
def CK(a:Int)(b:ASK)(c d i:Int)(j:ASG)(k:ASK)(l:ATs)(n:ASQ)(o:ASH)(q:ATo)(s t:ASC)(u:ATn)(v:ASH):ATP ((Int×ASG×ASK×ATs×ASQ×ASH×ATo×ASC×ASC×ATn×ASH)⊕(ATv⊕ATw)):=
 bif decide (i<d)then
 (Dl a c b d i j k l n o q s t u v).bind (Sum.elim (λw=>some (.inl (wI (i+1),w.1,w.2.1,w.2.2.1,w.2.2.2.1,w.2.2.2.2.1,w.2.2.2.2.2.1,w.2.2.2.2.2.2.1,w.2.2.2.2.2.2.2.1,w.2.2.2.2.2.2.2.2.1,w.2.2.2.2.2.2.2.2.2))) (λx=>some (.inr (.inl (x.1,x.2.1,x.2.2.1,x.2.2.2.1,x.2.2.2.2.1,x.2.2.2.2.2.1,x.2.2.2.2.2.2.1,x.2.2.2.2.2.2.2.1,x.2.2.2.2.2.2.2.2.1,x.2.2.2.2.2.2.2.2.2.1,x.2.2.2.2.2.2.2.2.2.2)))))
 else
 some (.inr (.inr (j,k,l,n,o,q,s,t,u,v)))
def Cd a b c d (z_:Int×ASG×ASK×ATs×ASQ×ASH×ATo×ASC×ASC×ATn×ASH):=CK a b c d z_.1 z_.2.1 z_.2.2.1 z_.2.2.2.1 z_.2.2.2.2.1 z_.2.2.2.2.2.1 z_.2.2.2.2.2.2.1 z_.2.2.2.2.2.2.2.1 z_.2.2.2.2.2.2.2.2.1 z_.2.2.2.2.2.2.2.2.2.1 z_.2.2.2.2.2.2.2.2.2.2
def CB a b c d i j k l n o q s t u v:=fix (Cd a b c d) (i,j,k,l,n,o,q,s,t,u,v)
theorem At5 a b c d:A8 yx 5 4 (code f51) 122 (Ar0 a b c d) (Cd a b c d) (Aqd a b c d):=by
 intro _;simp(disch:=refine id ?_;kernel_rfl) only[Cd,CK,ASm,Bf (At4 ..) (K:=Ka yx 5 4)];kernel_rfl
def Hq(a:Int)(w1:ASG)(b:ASK)(x1:ATs)(y1:ASQ)(a2:ASH)(b2:ATo):ATP ATx:=
 (M5 (a2.length:Int)).bind λc2=>(CB a b c2.1 (b.length:Int) 0 w1 b x1 y1 a2 b2 c2.2.1 c2.2.2.1 c2.2.2.2 ([]:ASH)).bind (Sum.elim (λe=>some (e.1,e.2.1,e.2.2.1,e.2.2.2.1,e.2.2.2.2.1,e.2.2.2.2.2.1,([]:ASN),e.2.2.2.2.2.2.1)) (λg=>(Gs c2.1 (g.2.2.2.2.1.length:Int) g.2.2.2.2.2.2.1 g.2.2.2.2.2.2.2.1 g.2.2.2.2.2.2.2.2.1 g.2.2.2.2.2.2.2.2.2).bind λd2=>some (g.1,g.2.1,g.2.2.1,g.2.2.2.1,g.2.2.2.2.1,g.2.2.2.2.2.1,d2.2.2.2.2,([]:ASC))))
def c51:=Ck [.VE] [⟨[.ptr 0 [] 0],[.box (.pr (.AB [] ATE) (.pr (.AB [] ATG) (.pr (.k I2) (.pr (.pr (.k V5) (.k .u)) (.pr (.k (.AK 3)) (.pr (.k (.mp 4)) (.k .u))))))),.row 222 .Aw (.AG ATB (.AG ATB .unit)),.row 32 .Aw ATD,.row 151 .Aw Ae,.map .Aw Aa ATy],ATx,λp=>Hq p.1.1 p.2.1.1 p.2.1.2.1 p.2.2.1 p.2.2.2.1 p.2.2.2.2.1 p.2.2.2.2.2.1,λr=>(.pr YA Ani,[.box (.pr (Ar r.1) (.pr (Bl r.2.1) Aks)),CZ r.2.2.1,Dt r.2.2.2.1,DU r.2.2.2.2.1,HG r.2.2.2.2.2.1 none,Fl r.2.2.2.2.2.2.1,AA r.2.2.2.2.2.2.2])⟩]
theorem Alw:An prog 51 c51:=Av (fn:=f51) ⟨⟨yx,pk ⟨Af0,Af1,Af2,Af3,trivial⟩,λ_ R K=>by
 simp(disch:=refine id ?_;kernel_rfl) only[Hq,ASn,CB,AJ (At5 _ _ _ _) (K:=A2 yx f51 5 R K)];kernel_rfl⟩,trivial⟩
abbrev AIe:=eN [] {}
def I5(a:ASv)(b:Int):ATP Int:=
 if 0<=(wI (Int.tdiv b 64))/\(wI (Int.tdiv b 64))<a.2.1.length then
 if(Int.tmod b 64)<(0:Int)then none else
 some (cA .u64 (SF .u64 (a.2.1.getD (wI (Int.tdiv b 64)).toNat ATz.zero) (Int.tmod b 64)) 1)
 else none
def Avj:=Ck [.d Ai,.d ATy] [⟨[.AB [] Ai,.AB [] ATy],[],Int,λp=>I5 p.1.1 p.1.2.1,λr=>(dD ATz r,[])⟩]
theorem uF:An prog 128 Avj:=Av (fn:=f128) ⟨⟨AIe,pk trivial,λ_ R K=>by
 simp only[I5,ASn];kernel_rfl⟩,trivial⟩
abbrev ji:=eN [(128,Avj)] {wH:=[(79,210)],Ba:=[(3,[0,3,5,24,25,26]),(8,[0,5,39,40,41]),(11,[0,5,8,9,39,40,41,47,48,49]),(15,[0,5,8,9,12,39,40,41,47,48,49,61,62])],BN:=[(3,[0,3,5]),(8,[5]),(11,[0,5,39,40,41]),(15,[0,5,8,9,39,40,41,47,48,49])],BM:=[(20,[0,5,8,9,12,13,14,39,40,41,47,48,49,61,62])],Du:=[(20,[0,5,8,9,12,13,14,39,40,41,47,48,49,61,62])]}
def Ar5(a:Int) b c d e g i j (k:ATo) l (z_:Int×ASU):=sT 90 [(0,.ptr 0 a [] 0),(5,.AK 7),(39,.AK 2),(40,dI l),(41,dI z_.1)] (Akm b c d e g i j k z_.2)
def Aqi(a:Int) b c d e g i j (k:ATo) (l:Int):=λ(n:ASU)=>xE 2 90 [(5,.AK 7)] (Akm b c d e g i j k n)
def Ar4(a:Int) o l b c d e g i j (k:ATo) q s t (z_:Int×ASU):=sT 90 (AoE a o l o q s z_.1) [.box (.pr (Ar b) (.pr (Bl c) tH)),Dt d,Fl e,AA g,CZ i,DU j,HG k none,UZ z_.2,.box (.AB [2] Ao t)]
def Aqh(a:Int) o l b c d e g i j (k:ATo) (q:ASC) (s:Int) (t:ASy):=λ(u:ASU)=>xE 4 90 [(0,.ptr 0 a [] 0),(5,.AK 7),(39,.AK 2),(40,dI l),(41,dI o)] (Akm b c d e g i j k u)
def Ar3(a:Int) o l q s v b c d e g i j (k:ATo) t w x (z_:Int×ASU):=sT 90 [(0,.ptr 0 a [] 0),(5,.AK 7),(8,dI o),(9,tC),(12,.ptr 9 0 [] 0),(39,.AK 2),(40,dI l),(41,dI o),(47,.AB [2] ATD q),(48,dI s),(49,dI v),(61,dI w),(62,dI z_.1)] [.box (.pr (Ar b) (.pr (Bl c) tH)),Dt d,Fl e,AA g,CZ i,DU j,HG k none,UZ z_.2,.box (.AB [2] Ao t),.box (ED x)]
def Aqg(a:Int) o l q s v b c d e g i j (k:ATo) t (w:Int) (x:ASr):=λ(y:ASU)=>xE 6 90 (AoE a o l o q s v) [.box (.pr (Ar b) (.pr (Bl c) tH)),Dt d,Fl e,AA g,CZ i,DU j,HG k none,UZ y,.box (.AB [2] Ao t)]
def Ar2(a:Int) o a1 l q s v w b c d e g i j (k:ATo) b1 t x:=sT 90 (AoF a o a1 l o q s v w a1) [.box (.pr (Ar b) (.pr (Bl c) tH)),Dt d,Fl e,AA g,CZ i,DU j,HG k none,UZ b1,.box (.AB [2] Ao t),.box (ED x),.box (.pr (dI o) (.pr (dI a1) (.pr (dD ATz 0) .u)))]
def Aqf(a:Int) o a1 l q s v w b c d e g i j (k:ATo) b1 t x:=λ(c1:(Int×Int×Int))=>xN 90 (AoF a o a1 l o q s v w a1) [.box (.pr (Ar b) (.pr (Bl c) tH)),Dt d,Fl e,AA g,CZ i,DU j,HG k none,UZ b1,.box (.AB [2] Ao t),.box (ED x),.box (.pr (dI c1.1) (.pr (dI c1.2.1) (.pr (dD ATz c1.2.2) .u)))]
def Jk(a o a1 l:Int)(q:ASC)(s v w:Int)(b:ASG)(c:ASK)(d:ASQ)(e:ASN)(g:ASC)(i:ATs)(j:ASH)(k:ATo)(b1:ASU)(t:ASy)(x:ASr):ATP (Int×Int×Int):=
 bif t.2.1 then
 (I5 t.2.2.1 a1).bind λd1=>some (-1,0,d1)
 else
 some (o,a1,0)
theorem At7 a o a1 l q s v w b c d e g i j k b1 t x:AX ji 7 20 (sb (sb (cd f73 244) 460) 924) 230 (Ar2 a o a1 l q s v w b c d e g i j k b1 t x) (Jk a o a1 l q s v w b c d e g i j k b1 t x) (Aqf a o a1 l q s v w b c d e g i j k b1 t x):=by
 unfold AX;simp only[Jk,ASm];kernel_rfl
def LK(a o l:Int)(q:ASC)(s v:Int)(b:ASG)(c:ASK)(d:ASQ)(e:ASN)(g:ASC)(i:ATs)(j:ASH)(k:ATo)(t:ASy)(w:Int)(x:ASr)(a1:Int)(b1:ASU):ATP ((Int×ASU)⊕ASU):=
 bif decide (a1<w)then
 (Jk a o a1 l q s v w b c d e g i j k b1 t x).bind λc1=>if(0:Int)<=x.1/\x.1<(b1.length:Int)then
 if(0:Int)<=(wI (x.2.1+a1))/\(wI (x.2.1+a1))<(b1.getD x.1.toNat ATJ.zero).length then
 some (.inl (wI (a1+1),b1.set x.1.toNat ((b1.getD x.1.toNat ATJ.zero).set (wI (x.2.1+a1)).toNat (c1.1,c1.2.1,c1.2.2,()))))
 else none
 else none
 else
 some (.inr b1)
def HN a o l q s v b c d e g i j k t w x (z_:Int×ASU):=LK a o l q s v b c d e g i j k t w x z_.1 z_.2
def Jl a o l q s v b c d e g i j k t w x a1 b1:=fix (HN a o l q s v b c d e g i j k t w x) (a1,b1)
theorem At8 a o l q s v b c d e g i j k t w x:A8 ji 7 15 (sb (cd f73 244) 460) 462 (Ar3 a o l q s v b c d e g i j k t w x) (HN a o l q s v b c d e g i j k t w x) (Aqg a o l q s v b c d e g i j k t w x):=by
 intro _;simp(disch:=refine id ?_;kernel_rfl) only[HN,LK,ASm,Bf (At7 ..) (K:=Ka ji 7 15)];kernel_rfl
def LL(a o l:Int)(b:ASG)(c:ASK)(d:ASQ)(e:ASN)(g:ASC)(i:ATs)(j:ASH)(k:ATo)(q:ASC)(s:Int)(t:ASy)(v:Int)(e1:ASU):ATP ((Int×ASU)⊕ASU):=
 bif decide (v<s)then
 if 0<=v/\v<q.length then
 if(0:Int)<=(q.getD v.toNat ATy.zero)/\(q.getD v.toNat ATy.zero)<(j.length:Int)then
 (Jl a o l q s v b c d e g i j k t (j.getD (q.getD v.toNat ATy.zero).toNat Ae.zero).2.2.1 (j.getD (q.getD v.toNat ATy.zero).toNat Ae.zero) 0 e1).bind λy=>some (.inl (wI (v+1),y))
 else none
 else none
 else
 some (.inr e1)
def HO a o l b c d e g i j k q s t (z_:Int×ASU):=LL a o l b c d e g i j k q s t z_.1 z_.2
def OI a o l b c d e g i j k q s t v e1:=fix (HO a o l b c d e g i j k q s t) (v,e1)
theorem At9 a o l b c d e g i j k q s t:A8 ji 7 11 (cd f73 244) 230 (Ar4 a o l b c d e g i j k q s t) (HO a o l b c d e g i j k q s t) (Aqh a o l b c d e g i j k q s t):=by
 intro _;simp(disch:=refine id ?_;kernel_rfl) only[HO,LL,ASm,Jl,AJ (At8 _ _ _ _ _ _ _ _ _ _ _ _ _ _ _ _ _) (K:=Ka ji 7 11)];kernel_rfl
def LN(a:Int)(b:ASG)(c:ASK)(d:ASQ)(e:ASN)(g:ASC)(i:ATs)(j:ASH)(k:ATo)(l o:Int)(g1:ASU):ATP ((Int×ASU)⊕ASU):=
 bif decide (o<l)then
 if 0<=o/\o<e.length then
 (OI a o l b c d e g i j k (e.getD o.toNat Ao.zero).1 ((e.getD o.toNat Ao.zero).1.length:Int) (e.getD o.toNat Ao.zero) 0 g1).bind λu=>some (.inl (wI (o+1),u))
 else none
 else
 some (.inr g1)
def HP a b c d e g i j k l (z_:Int×ASU):=LN a b c d e g i j k l z_.1 z_.2
def OJ a b c d e g i j k l o g1:=fix (HP a b c d e g i j k l) (o,g1)
theorem Aua a b c d e g i j k l:A8 ji 7 8 (code f73) 122 (Ar5 a b c d e g i j k l) (HP a b c d e g i j k l) (Aqi a b c d e g i j k l):=by
 intro _;simp(disch:=refine id ?_;kernel_rfl) only[HP,LN,ASm,OI,AJ (At9 _ _ _ _ _ _ _ _ _ _ _ _ _ _) (K:=Ka ji 7 8)];kernel_rfl
def Ar1(a:Int) b c d e g i j (k:ATo) i1 (z_:Int×ASU):=sT 90 [(0,.ptr 0 a [] 0),(3,fO),(5,.AK 8),(24,Ar b),(25,dI i1),(26,dI z_.1)] [.box (.pr (Ar b) (.pr (Bl c) tH)),Dt d,Fl e,AA g,CZ i,DU j,HG k none,.box (.pr dZ qj),UZ z_.2]
def Aqe(a:Int) b c d e g i j (k:ATo) (i1:Int):=λ(j1:ASU)=>xE 0 90 [(0,.ptr 0 a [] 0),(3,fO),(5,.AK 8)] [.box (.pr (Ar b) (.pr (Bl c) tH)),Dt d,Fl e,AA g,CZ i,DU j,HG k none,.box (.pr dZ qj),UZ j1]
def LJ(a:Int)(b:ASG)(c:ASK)(d:ASQ)(e:ASN)(g:ASC)(i:ATs)(j:ASH)(k:ATo)(i1 k1:Int)(l1:ASU):ATP ((Int×ASU)⊕ASU):=
 bif decide (k1<i1)then
 if 0<=k1/\k1<b.length then
 if Ty.row Ak=true/\(0:Int)<=(b.getD k1.toNat Ab.zero).2.1/\(b.getD k1.toNat Ab.zero).2.1<=(b.getD k1.toNat Ab.zero).2.1/\((24:Nat):Int)*(b.getD k1.toNat Ab.zero).2.1<=(281474976710656:Int)/\(b.getD k1.toNat Ab.zero).2.1<=(9223372036854775807:Int)then
 if 0<=k1/\k1<l1.length then
 some (.inl (wI (k1+1),l1.set k1.toNat (List.replicate (b.getD k1.toNat Ab.zero).2.1.toNat (0,0,0,()))))
 else none
 else none
 else none
 else
 some (.inr l1)
def HM a b c d e g i j k i1 (z_:Int×ASU):=LJ a b c d e g i j k i1 z_.1 z_.2
def OH a b c d e g i j k i1 k1 l1:=fix (HM a b c d e g i j k i1) (k1,l1)
theorem At6 a b c d e g i j k i1:A8 ji 7 3 (code f73) 58 (Ar1 a b c d e g i j k i1) (HM a b c d e g i j k i1) (Aqe a b c d e g i j k i1):=by
 intro _;simp only[HM,LJ,ASm];kernel_rfl
def JG(a:Int)(b:ASG)(c:ASK)(d:ASQ)(e:ASN)(g:ASC)(i:ATs)(j:ASH)(k:ATo):ATP (ASG×ASK×ASQ×ASN×ASC×ATs×ASH×ATo×ASU):=
 if Ty.row ATJ=true/\(0:Int)<=(b.length:Int)/\(b.length:Int)<=(b.length:Int)/\((24:Nat):Int)*(b.length:Int)<=(281474976710656:Int)/\(b.length:Int)<=(9223372036854775807:Int)then
 (OH a b c d e g i j k (b.length:Int) 0 (List.replicate (b.length:Int).toNat ([]:ASM))).bind λj1=>(OJ a b c d e g i j k (e.length:Int) 0 j1).bind λn=>some (b,c,d,e,g,i,j,k,n)
 else none
def c73:=Ck [.VE,.VE] [⟨[.ptr 0 [] 0,.pr (.pr (.k I2) (.k .u)) (.pr (.k V5) (.pr (.k (.AK 3)) (.k .u)))],[.box (.pr (.AB [] ATE) (.pr (.AB [] ATG) (.pr (.k UH) (.pr (.pr (.k I2) (.k .u)) (.pr (.k (.AK 5)) (.pr (.k (.mp 6)) (.k .u))))))),.row 32 .Aw ATD,.row 102 .Aw Ao,.row 2 .Aw ATy,.row 222 .Aw (.AG ATB (.AG ATB .unit)),.row 151 .Aw Ae,.map .Aw Aa ATy],ASG×ASK×ASQ×ASN×ASC×ATs×ASH×ATo×ASU,λp=>JG p.1.1 p.2.1.1 p.2.1.2.1 p.2.2.1 p.2.2.2.1 p.2.2.2.2.1 p.2.2.2.2.2.1 p.2.2.2.2.2.2.1 p.2.2.2.2.2.2.2.1,λr=>(.AK 7,[.box (.pr (Ar r.1) (.pr (Bl r.2.1) tH)),Dt r.2.2.1,Fl r.2.2.2.1,AA r.2.2.2.2.1,CZ r.2.2.2.2.2.1,DU r.2.2.2.2.2.2.1,HG r.2.2.2.2.2.2.2.1 none,UZ r.2.2.2.2.2.2.2.2])⟩]
theorem AlH:An prog 73 c73:=Av (fn:=f73) ⟨⟨ji,pk ⟨uF,trivial⟩,λ_ R K=>by
 simp(disch:=refine id ?_;kernel_rfl) only[JG,ASn,OH,AJ (At6 _ _ _ _ _ _ _ _ _ _) (K:=A2 ji f73 7 R K),OJ,AJ (Aua _ _ _ _ _ _ _ _ _ _) (K:=A2 ji f73 7 R K)];kernel_rfl⟩,trivial⟩
abbrev yy:=eN [(128,Avj)] {Ba:=[(3,{Be:=[1,5,10,11,12],Cj:=[(5,false,.row [] 210 Ak true)]}),(6,{Be:=[1,5,7,10,11,12,17,18],Cj:=[(5,false,.row [] 210 Ak true)]})],BN:=[(3,[5]),(6,[1,5,10,11,12])],BM:=[(11,[1,5,7,10,11,12,17,18])],Du:=[(11,[1,5,7,10,11,12,17,18])]}
def Ar8 a b c (z_:Int×ASM):=sT 49 [(1,tz a),(5,.AK 0),(10,B3 b),(11,dI c),(12,dI z_.1)] [Yg z_.2]
def Aql(a:ASU)(b:ASI)(c:Int):=λ(d:ASM)=>xE 0 49 [(5,.AK 0)] [Yg d]
def Ar7 a b c e g i (z_:Int×ASM):=sT 49 (Akn a b c e g z_.1) [Yg z_.2,.box (K6 i)]
def Aqk a b c e (g:Int) (i:ASs):=λ(j:ASM)=>xE 2 49 [(1,tz a),(5,.AK 0),(10,B3 b),(11,dI c),(12,dI e)] [Yg j]
def Ar6 a b c e g k l i:=sT 49 (Akn a b c e g k) [Yg l,.box (K6 i)]
def Aqj a b c e g k (l:ASM) i:=λ(n:ASM)=>xN 49 (Akn a b c e g k) [Yg n,.box (K6 i)]
def Pp(a:ASU)(b:ASI)(c e g k:Int)(l:ASM)(i:ASs):ATP ASM:=
 bif i.1==(-1)then
 (I5 i.2.2.2.1 k).bind λo=>if(l.length+([(-1,0,o,())]:ASM).length)*24<=140737488355328 then
 some (l++([(-1,0,o,())]:ASM))
 else none
 else
 if(0:Int)<=i.1/\i.1<(a.length:Int)then
 if 0<=(wI (i.2.1+k))/\(wI (i.2.1+k))<(a.getD i.1.toNat ATJ.zero).length then
 if(l.length+([(a.getD i.1.toNat ATJ.zero).getD (wI (i.2.1+k)).toNat Ak.zero]:ASM).length)*24<=140737488355328 then
 some (l++([(a.getD i.1.toNat ATJ.zero).getD (wI (i.2.1+k)).toNat Ak.zero]:ASM))
 else none
 else none
 else none
theorem Aub a b c e g k l i:AX yy 0 11 (sb (cd f126 116) 460) 14 (Ar6 a b c e g k l i) (Pp a b c e g k l i) (Aqj a b c e g k l i):=by
 unfold AX;simp only[Pp,ASm];kernel_rfl
def L6(a:ASU)(b:ASI)(c e g:Int)(i:ASs)(k:Int)(l:ASM):ATP ((Int×ASM)⊕ASM):=
 bif decide (k<g)then
 (Pp a b c e g k l i).bind λn=>some (.inl (wI (k+1),n))
 else
 some (.inr l)
def FL a b c e g i (z_:Int×ASM):=L6 a b c e g i z_.1 z_.2
def Uc a b c e g i k l:=fix (FL a b c e g i) (k,l)
theorem Auc a b c e g i:A8 yy 0 6 (cd f126 116) 230 (Ar7 a b c e g i) (FL a b c e g i) (Aqk a b c e g i):=by
 intro _;simp(disch:=refine id ?_;kernel_rfl) only[FL,L6,ASm,Bf (Aub ..) (K:=Ka yy 0 6)];kernel_rfl
def L8(a:ASU)(b:ASI)(c e:Int)(q:ASM):ATP ((Int×ASM)⊕ASM):=
 bif decide (e<c)then
 if 0<=e/\e<b.length then
 (Uc a b c e (b.getD e.toNat Af.zero).2.2.1 (b.getD e.toNat Af.zero) 0 q).bind λj=>some (.inl (wI (e+1),j))
 else none
 else
 some (.inr q)
def D5 a b c (z_:Int×ASM):=L8 a b c z_.1 z_.2
def Ud a b c e q:=fix (D5 a b c) (e,q)
theorem Aud a b c:A8 yy 0 3 (code f126) 58 (Ar8 a b c) (D5 a b c) (Aql a b c):=by
 intro _;simp(disch:=refine id ?_;kernel_rfl) only[D5,L8,ASm,Uc,AJ (Auc _ _ _ _ _ _) (K:=Ka yy 0 3)];kernel_rfl
def Q6(b:ASI)(a:ASU):ATP ASM:=
 (Ud a b (b.length:Int) 0 ([]:ASM)).bind λd=>some d
def AEI:=Ck [.d ATB,.d (.sl ATJ)] [⟨[.AB [] ATB,.AB [] (.sl ATJ)],[],ASM,λp=>Q6 p.1.1 p.1.2.1,λr=>(.AK 0,[Yg r])⟩]
theorem Agf:An prog 126 AEI:=Av (fn:=f126) ⟨⟨yy,pk ⟨uF,trivial⟩,λ_ R K=>by
 simp(disch:=refine id ?_;kernel_rfl) only[Q6,ASn,Ud,AJ (Aud _ _ _) (K:=A2 yy f126 0 R K)];kernel_rfl⟩,trivial⟩
abbrev AIf:=eN [] {}
def Lq(a b:Int)(c:ASC):ATP ASC:=
 if 0<=(wI (Int.tdiv b 64))/\(wI (Int.tdiv b 64))<c.length then
 if(Int.tmod b 64)<(0:Int)then none else
 if 0<=(wI (Int.tdiv b 64))/\(wI (Int.tdiv b 64))<c.length then
 some (c.set (wI (Int.tdiv b 64)).toNat (fC .u64 (c.getD (wI (Int.tdiv b 64)).toNat ATz.zero) (NS .u64 1 (Int.tmod b 64))))
 else none
 else none
def AEJ:=Ck [.VE,.d ATy] [⟨[.pr (.AB [] ATy) (.pr (.k H7) (.k .u)),.AB [] ATy],[.row 199 .Aw ATz],ASC,λp=>Lq p.1.1.1 p.1.2.1 p.2.1,λr=>(.nil,[Bj r])⟩]
theorem Agg:An prog 127 AEJ:=Av (fn:=f127) ⟨⟨AIf,pk trivial,λ_ R K=>by
 simp only[Lq,ASn];kernel_rfl⟩,trivial⟩
abbrev tP:=eN [(124,Ak6),(125,Age),(126,AEI),(127,AEJ)] {Ba:=[(4,{Be:=[4,5,7,8,19,20,21],RU:=[(19,false,ATJ)]})],BN:=[(4,[4,5,7,8])],BM:=[(10,[4,5,7,8,19,20,21])],W8:=[(11,[4,5])],Du:=[(10,[4,5,7,8,19,20,21])],Yl:=[(11,[4,5,7,8])]}
def Afw a b c d:=sT 41 [(4,Aq),(5,AZ),(7,Dr),(8,J8)] (mz a b c d)
def jl a b c d:=λ(e:Unit)=>sT 41 [(4,Aq),(5,AZ)] (Acz a b c d)
def Q0(a b:Int)(c d:ASC):ATP Unit:=
 some ()
theorem Auh(a b:Int)(c d:ASC):MQ tP 0 11 (code f72) 62 (Afw a b c d) (Q0 a b c d) (jl a b c d):=by
 unfold MQ;have h:re tP 0 11 (code f72) (pt 62) (Afw a b c d) =
 ((((DY (jl a b c d ())).bind λ_=>DY (jl a b c d ())).bind λ_=>DY (jl a b c d ())).bind λ_=>some (jl a b c d ())):=by kernel_rfl
 rw[h];unfold Q0;simp only[ASm,mS,mO];clear h;simp only[AQV,AP9,DY,DD]
def Asa g i j k (z_:Int×ASC×ASC):=sT 41 (Ako g i z_.1) (mz j k z_.2.1 z_.2.2)
def Aqn(g:ASM)(i:Int) j k:=λ(l:ATe)=>xE 0 41 [(4,Aq),(5,AZ),(7,Dr),(8,J8)] (mz j k l.1 l.2)
def Ar9 g i n j k o q:=sT 41 (Ako g i n) (mz j k o q)
def Aqm g i n j k (o:ASC) (q:ASC):=λ(s:ATe)=>xN 41 (Ako g i n) (mz j k s.1 s.2)
def QZ(g:ASM)(i n j k:Int)(o q:ASC):ATP ATe:=
 if 0<=n/\n<g.length then
 bif decide ((g.getD n.toNat Ak.zero).1>=0)then
 some (o,q)
 else
 (Lq j n o).bind λt=>bif (g.getD n.toNat Ak.zero).2.2.1==1 then
 (Lq k n q).bind λu=>some (t,u)
 else
 some (t,q)
 else none
theorem Aue g i n j k o q:AX tP 0 10 (cd f72 244) 14 (Ar9 g i n j k o q) (QZ g i n j k o q) (Aqm g i n j k o q):=by
 unfold AX;simp only[QZ,ASm];kernel_rfl
def Ss(g:ASM)(i j k n:Int)(o q:ASC):ATP ((Int×ASC×ASC)⊕ATe):=
 bif decide (n<i)then
 (QZ g i n j k o q).bind λs=>some (.inl (wI (n+1),s.1,s.2))
 else
 some (.inr (o,q))
def NG g i j k (z_:Int×ASC×ASC):=Ss g i j k z_.1 z_.2.1 z_.2.2
def Vm g i j k n o q:=fix (NG g i j k) (n,o,q)
theorem Auf g i j k:A8 tP 0 4 (code f72) 122 (Asa g i j k) (NG g i j k) (Aqn g i j k):=by
 intro _;simp(disch:=refine id ?_;kernel_rfl) only[NG,Ss,ASm,Bf (Aue ..) (K:=Ka tP 0 4)];kernel_rfl
def TE(v:ASI)(w:ASU):ATP (Int×Int×ASC×ASC):=
 (Fu v).bind λx=>(DZ x).bind λy=>(DZ x).bind λa1=>(Q6 v w).bind λg=>(Vm g (g.length:Int) y.1 a1.1 0 y.2 a1.2).bind λl=>(Q0 y.1 a1.1 l.1 l.2).bind λe=>some (y.1,a1.1,l.1,l.2)
def c72:=Ck [.d ATB,.d (.sl ATJ)] [⟨[.AB [] ATB,.AB [] (.sl ATJ)],[],Int×Int×ASC×ASC,λp=>TE p.1.1 p.1.2.1,λr=>(.cons (.pr (dI r.1) Pj) (.cons (.pr (dI r.2.1) dZ) .nil),[Bj r.2.2.1,Bj r.2.2.2])⟩]
theorem AlG:An prog 72 c72:=Av (fn:=f72) ⟨⟨tP,pk ⟨jG,cG,Agf,Agg,trivial⟩,λ_ R K=>by
 simp(disch:=refine id ?_;kernel_rfl) only[TE,ASn,Vm,AJ (Auf _ _ _ _) (K:=A2 tP f72 0 R K),Tv (Auh ..) (K:=A2 tP f72 0 R K)];kernel_rfl⟩,trivial⟩
abbrev Axr:=eN [(98,c98),(99,c99),(100,AEs),(101,AEt)] {}
def c50:=AdB [.VE,.VE,.VE] Axr f50
theorem Alv:An prog 50 c50:=iQ (pk ⟨AlY,qR,AfY,AfZ,trivial⟩)
abbrev Axs:=eN [(50,c50),(51,c51),(79,c79),(122,AEG),(123,AEH)] {kv:=[(18,ATG),(20,Am)]}
def c71:=AdB [.VE,.VE] Axs f71
theorem AlF:An prog 71 c71:=iQ (pk ⟨Alv,Alw,AlM,Agc,Agd,trivial⟩)
abbrev gQ:=eN [(69,c69),(70,c70),(71,c71),(72,c72),(73,c73)] {BM:=[(6,{Be:=[6,7,9,11,12,13,39],RU:=[(9,false,ATB)]})],W8:=[(10,[6,7,8])],Du:=[(6,[6,7,9,10,11,12,13])],Yl:=[(10,[6,7,14,15])],kv:=[(51,.sl ATJ)],iq:=[(0,.row [1] 199 ATz true),(1,.row [1] 199 ATz true)]}
def AfB a b c d:=sT 57 [(6,Aq),(7,AZ),(14,Dr),(15,J8)] (mz a b c d)
def jm a b c d:=λ(e:Unit)=>sT 57 [(6,Aq),(7,AZ),(8,dI 0)] (Acz a b c d)
def QV(a b:Int)(c d:ASC):ATP Unit:=
 some ()
theorem Aum(a b:Int)(c d:ASC):MQ gQ 0 10 (code f26) 510 (AfB a b c d) (QV a b c d) (jm a b c d):=by
 unfold MQ;have h:re gQ 0 10 (code f26) (pt 510) (AfB a b c d) =
 ((((DY (jm a b c d ())).bind λ_=>DY (jm a b c d ())).bind λ_=>DY (jm a b c d ())).bind λ_=>some (jm a b c d ())):=by kernel_rfl
 rw[h];unfold QV;simp only[ASm,mS,mO];clear h;simp only[AQV,AP9,DY,DD]
def AfA(g:AS2)(i:ATx):=sT 57 [(6,Aq),(7,AZ),(9,.AK 2),(10,dB g.1),(11,J8),(12,Ns),(13,dI 0)] [.box S3,.box S3,Ca g.2,.box (.pr (Ar i.1) (.pr (Bl i.2.1) (.pr (.AK 5) (.pr yc (.pr (.AK 7) (.pr (.mp 8) .u)))))),.box (.pr yc (.pr (.AK 9) AcG)),CZ i.2.2.1,Dt i.2.2.2.1,DU i.2.2.2.2.1,HG i.2.2.2.2.2.1 none,Fl i.2.2.2.2.2.2.1,AA i.2.2.2.2.2.2.2]
def yU(g:AS2)(i:ATx)(m0:Bool):Ex×St:=xN 57 [(6,Aq),(7,AZ),(9,B3 g.2),(11,Dr),(12,J8),(13,dI 0),(39,dB m0)] [.box S3,.box S3,.box (.pr (Ar i.1) (.pr (Bl i.2.1) (.pr UH (.pr aQ (.pr (.AK 6) (.pr (.mp 7) .u)))))),.box (.pr aQ (.pr (.AK 8) yd)),CZ i.2.2.1,Dt i.2.2.2.1,DU i.2.2.2.2.1,HG i.2.2.2.2.2.1 none,Fl i.2.2.2.2.2.2.1,AA i.2.2.2.2.2.2.2]
theorem Aul g i:Xk gQ 0 6 (code f26) (pt 124) (AfA g i)=some (yU g i ((!g.1)||false)):=by
 refine .trans (b:=
 bif !g.1 then
 some (yU g i true)
 else
 some (yU g i false)) (by kernel_rfl) ?_
 cases (!g.1);rfl;rfl
def Afz(g:AS2):=sT 57 [(6,Aq),(7,AZ),(9,.AK 2),(10,dB g.1),(11,.KG),(12,J8),(13,dI 2)] (Akp g.2)
def yT(g:AS2)(m0:Bool):Ex×St:=xN 57 [(6,Aq),(7,AZ),(9,B3 g.2),(11,.KG),(12,Dr),(13,dI 2),(39,dB m0)] [.box S3,.box S3,.box iA]
theorem Auk g:Xk gQ 0 6 (code f26) (pt 124) (Afz g)=some (yT g ((!g.1)||false)):=by
 refine .trans (b:=
 bif !g.1 then
 some (yT g true)
 else
 some (yT g false)) (by kernel_rfl) ?_
 cases (!g.1);rfl;rfl
def Afy(g:AS2):=sT 57 (AoG g.1) (Akp g.2)
def yS(g:AS2):Ex×St:=xN 57 (AoH g.2) [.box S3,.box S3,.box iA]
theorem Auj g:Xk gQ 0 6 (code f26) (pt 124) (Afy g)=some (yS g):=by
 refine .trans (b:=
 bif !g.1 then
 some (yS g)
 else
 some (yS g)) (by kernel_rfl) ?_
 cases (!g.1);rfl;rfl
def Afx(g:AS2):=sT 57 (AoG g.1) (Akp g.2)
def yR(g:AS2):Ex×St:=xN 57 (AoH g.2) [.box S3,.box S3,.box iA]
theorem Aui g:Xk gQ 0 6 (code f26) (pt 124) (Afx g)=some (yR g):=by
 refine .trans (b:=
 bif !g.1 then
 some (yR g)
 else
 some (yR g)) (by kernel_rfl) ?_
 cases (!g.1);rfl;rfl
def A1(j:ASG)(k:ASK)(l:ASz):ATP AS5:=
 (Kl j).bind λn=>bif !n then
 some (0,0,1,([]:ASC),([]:ASC))
 else
 (TF j l).bind λg=>(L3 j k).bind λo=>bif !o then
 OQ (Afx g) (
 some (0,0,1,([]:ASC),([]:ASC)))
 else
 (Ld k).bind λq=>(TG j).bind λs=>(JD j q (s,())).bind λt=>bif !t.1 then
 OQ (Afy g) (
 some (0,0,1,([]:ASC),([]:ASC)))
 else
 (Qc j q).bind λu=>(O4 j (t.2,())).bind λv=>(O1 v).bind λw=>(Hq 0 j q u.2 t.2 v w).bind λi=>bif decide ((i.2.2.2.2.2.2.2.length:Int)>0)then
 OQ (Afz g) (
 bif (!g.1)||false then
 some (0,0,1,([]:ASC),([]:ASC))
 else
 some (0,0,2,([]:ASC),([]:ASC)))
 else
 OQ (AfA g i) (
 bif (!g.1)||false then
 some (0,0,1,([]:ASC),([]:ASC))
 else
 (JG 0 i.1 i.2.1 i.2.2.2.1 i.2.2.2.2.2.2.1 i.2.2.2.2.2.2.2 i.2.2.1 i.2.2.2.2.1 i.2.2.2.2.2.1).bind λx=>(TE g.2 x.2.2.2.2.2.2.2.2).bind λy=>(QV y.1 y.2.1 y.2.2.1 y.2.2.2).bind λe=>some (y.1,y.2.1,0,y.2.2.1,y.2.2.2))
def c26:=Ck [.d ATE,.d ATG,.d Ap] [⟨[.AB [] ATE,.AB [] ATG,.AB [] Ap],[],AS5,λp=>A1 p.1.1 p.1.2.1 p.1.2.2.1,λr=>(.cons (.pr (dI r.1) Pj) (.cons (.pr (dI r.2.1) dZ) (.cons (dI r.2.2.1) .nil)),[Bj r.2.2.2.1,Bj r.2.2.2.2])⟩]
theorem Alg:An prog 26 c26:=Av (fn:=f26) ⟨⟨gQ,pk ⟨qN,AlE,AlF,AlG,AlH,trivial⟩,λ_ R K=>by
 simp(disch:=refine id ?_;kernel_rfl) only[A1,ASn,Ey (Aui _) (K:=A2 gQ f26 0 R K),Ey (Auj _) (K:=A2 gQ f26 0 R K),Ey (Auk _) (K:=A2 gQ f26 0 R K),Ey (Aul ..) (K:=A2 gQ f26 0 R K),Tv (Aum ..) (K:=A2 gQ f26 0 R K)];kernel_rfl⟩,trivial⟩
abbrev AoX:=eN [] {Ba:=[(4,[0,1,5])],BN:=[(4,[4])]}
def Asb a b (z_:Int):=sT 26 [(0,Tm a),(1,Tm b),(5,dI z_)] []
def Aqo(a b:ASC):=Sum.elim (λ(c:Unit)=>xR 26 mD []) (λ(d:Unit)=>xE 0 26 [] [])
def UE(a b:ASC)(e:Int):ATP (Int⊕(Unit⊕Unit)):=
 bif decide (e<(a.length:Int))then
 if 0<=e/\e<a.length then
 if 0<=e/\e<b.length then
 bif (a.getD e.toNat ATz.zero) !=(b.getD e.toNat ATz.zero)then
 some (.inr (.inl ()))
 else
 some (.inl (wI (e+1)))
 else none
 else none
 else
 some (.inr (.inr ()))
def Js a b (z_:Int):=UE a b z_
def Wi a b e:=fix (Js a b) e
theorem Aun a b:A8 AoX 0 4 (code f74) 58 (Asb a b) (Js a b) (Aqo a b):=by
 intro _;simp only[Js,UE,ASm];kernel_rfl
def Q9(a b:ASC):ATP Bool:=
 bif (a.length:Int) !=(b.length:Int)then
 some false
 else
 (Wi a b 0).bind (Sum.elim (λc=>some false) (λd=>some true))
def c74:=Ck [.d ATI,.d ATI] [⟨[.AB [] ATI,.AB [] ATI],[],Bool,λp=>Q9 p.1.1 p.1.2.1,λr=>(dB r,[])⟩]
theorem AlI:An prog 74 c74:=Av (fn:=f74) ⟨⟨AoX,pk trivial,λ_ R K=>by
 simp(disch:=refine id ?_;kernel_rfl) only[Q9,ASn,Wi,AJ (Aun _ _) (K:=A2 AoX f74 0 R K)];kernel_rfl⟩,trivial⟩
abbrev AIg:=eN [(74,c74)] {}
def Fv(a b:ASv):ATP Bool:=
 bif a.1 !=b.1 then
 some false
 else
 (Q9 a.2.1 b.2.1).bind λc=>bif !c then
 some false
 else
 some true
def c27:=Ck [.d Ai,.d Ai] [⟨[.AB [] Ai,.AB [] Ai],[],Bool,λp=>Fv p.1.1 p.1.2.1,λr=>(dB r,[])⟩]
theorem Abb:An prog 27 c27:=Av (fn:=f27) ⟨⟨AIg,pk ⟨AlI,trivial⟩,λ_ R K=>by
 simp only[Fv,ASn];kernel_rfl⟩,trivial⟩
abbrev Axf:=eN [] {}
def M7(a b:ASq):Bool:=((!(!(Jf a.1 b.1)))&&((!(a.2.1 !=b.2.1))&&true))
theorem AIN R a b K:TT Axf f53 R [dV a,dV b] [] K=K (dB (M7 a b)) []:=by
 refine .trans (b:=
 bif !(Jf a.1 b.1)then
 K (dB false) []
 else
 bif a.2.1 !=b.2.1 then
 K (dB false) []
 else
 K (dB true) []) (by kernel_rfl) ?_
 unfold M7;cases (!(Jf a.1 b.1));cases (a.2.1 !=b.2.1);rfl;rfl;rfl
def c53:=Ck [.d Ab,.d Ab] [⟨[.AB [] Ab,.AB [] Ab],[],Bool,λp=>some (M7 p.1.1 p.1.2.1),λr=>(dB r,[])⟩]
theorem Alx:An prog 53 c53:=Av ⟨⟨Axf,pk trivial,λ_ _ _=>AIN ..⟩,trivial⟩
abbrev AoY:=eN [(53,c53)] {Ba:=[(4,[0,1,5])],BN:=[(4,[4])]}
def Asd a b (z_:Int):=sT 27 [(0,Ar a),(1,Ar b),(5,dI z_)] []
def Aqp(a b:ASG):=Sum.elim (λ(c:Unit)=>xR 27 mD []) (λ(d:Unit)=>xE 0 27 [] [])
def Wh(a b:ASG)(e:Int):ATP (Int⊕(Unit⊕Unit)):=
 bif decide (e<(a.length:Int))then
 if 0<=e/\e<a.length then
 if 0<=e/\e<b.length then
 bif !(M7 (a.getD e.toNat Ab.zero) (b.getD e.toNat Ab.zero))then
 some (.inr (.inl ()))
 else
 some (.inl (wI (e+1)))
 else none
 else none
 else
 some (.inr (.inr ()))
def Mb a b (z_:Int):=Wh a b z_
def Yt a b e:=fix (Mb a b) e
theorem Auo a b:A8 AoY 0 4 (code f15) 58 (Asd a b) (Mb a b) (Aqp a b):=by
 intro _;simp only[Mb,Wh,ASm];kernel_rfl
def UQ(a b:ASG):ATP Bool:=
 bif (a.length:Int) !=(b.length:Int)then
 some false
 else
 (Yt a b 0).bind (Sum.elim (λc=>some false) (λd=>some true))
def c15:=Ck [.d ATE,.d ATE] [⟨[.AB [] ATE,.AB [] ATE],[],Bool,λp=>UQ p.1.1 p.1.2.1,λr=>(dB r,[])⟩]
theorem Ala:An prog 15 c15:=Av (fn:=f15) ⟨⟨AoY,pk ⟨Alx,trivial⟩,λ_ R K=>by
 simp(disch:=refine id ?_;kernel_rfl) only[UQ,ASn,Yt,AJ (Auo _ _) (K:=A2 AoY f15 0 R K)];kernel_rfl⟩,trivial⟩
abbrev AoZ:=eN [] {Ba:=[(4,[0,1,5])],BN:=[(4,[4])]}
def Ase a b (z_:Int):=sT 26 [(0,B8 a),(1,B8 b),(5,dI z_)] []
def Aqq(a b:ASC):=Sum.elim (λ(c:Unit)=>xR 26 mD []) (λ(d:Unit)=>xE 0 26 [] [])
def Vq(a b:ASC)(e:Int):ATP (Int⊕(Unit⊕Unit)):=
 bif decide (e<(a.length:Int))then
 if 0<=e/\e<a.length then
 if 0<=e/\e<b.length then
 bif (a.getD e.toNat ATy.zero) !=(b.getD e.toNat ATy.zero)then
 some (.inr (.inl ()))
 else
 some (.inl (wI (e+1)))
 else none
 else none
 else
 some (.inr (.inr ()))
def Ky a b (z_:Int):=Vq a b z_
def Xl a b e:=fix (Ky a b) e
theorem Aup a b:A8 AoZ 0 4 (code f34) 58 (Ase a b) (Ky a b) (Aqq a b):=by
 intro _;simp only[Ky,Vq,ASm];kernel_rfl
def Td(a b:ASC):ATP Bool:=
 bif (a.length:Int) !=(b.length:Int)then
 some false
 else
 (Xl a b 0).bind (Sum.elim (λc=>some false) (λd=>some true))
def c34:=Ck [.d ATD,.d ATD] [⟨[.AB [] ATD,.AB [] ATD],[],Bool,λp=>Td p.1.1 p.1.2.1,λr=>(dB r,[])⟩]
theorem Alk:An prog 34 c34:=Av (fn:=f34) ⟨⟨AoZ,pk trivial,λ_ R K=>by
 simp(disch:=refine id ?_;kernel_rfl) only[Td,ASn,Xl,AJ (Aup _ _) (K:=A2 AoZ f34 0 R K)];kernel_rfl⟩,trivial⟩
abbrev AIi:=eN [(27,c27),(34,c34)] {}
def NR(a b:ASt):ATP Bool:=
 bif a.1 !=b.1 then
 some false
 else
 bif a.2.1 !=b.2.1 then
 some false
 else
 bif a.2.2.1 !=b.2.2.1 then
 some false
 else
 bif a.2.2.2.1 !=b.2.2.2.1 then
 some false
 else
 (Fv a.2.2.2.2.1 b.2.2.2.2.1).bind λc=>bif !c then
 some false
 else
 (Td a.2.2.2.2.2.1 b.2.2.2.2.2.1).bind λd=>bif !d then
 some false
 else
 some true
def AEK:=Ck [.d Ag,.d Ag] [⟨[.AB [] Ag,.AB [] Ag],[],Bool,λp=>NR p.1.1 p.1.2.1,λr=>(dB r,[])⟩]
theorem Agh:An prog 129 AEK:=Av (fn:=f129) ⟨⟨AIi,pk ⟨Abb,Alk,trivial⟩,λ_ R K=>by
 simp only[NR,ASn];kernel_rfl⟩,trivial⟩
abbrev Ao0:=eN [(129,AEK)] {Ba:=[(4,[0,1,5])],BN:=[(4,[4])]}
def Asf a b (z_:Int):=sT 27 [(0,jb a),(1,jb b),(5,dI z_)] []
def Aqr(a b:ASJ):=Sum.elim (λ(c:Unit)=>xR 27 mD []) (λ(d:Unit)=>xE 0 27 [] [])
def Vs(a b:ASJ)(e:Int):ATP (Int⊕(Unit⊕Unit)):=
 bif decide (e<(a.length:Int))then
 if 0<=e/\e<a.length then
 if 0<=e/\e<b.length then
 (NR (a.getD e.toNat Ag.zero) (b.getD e.toNat Ag.zero)).bind λg=>bif !g then
 some (.inr (.inl ()))
 else
 some (.inl (wI (e+1)))
 else none
 else none
 else
 some (.inr (.inr ()))
def Kz a b (z_:Int):=Vs a b z_
def Xm a b e:=fix (Kz a b) e
theorem Auq a b:A8 Ao0 0 4 (code f75) 58 (Asf a b) (Kz a b) (Aqr a b):=by
 intro _;simp only[Kz,Vs,ASm];kernel_rfl
def Te(a b:ASJ):ATP Bool:=
 bif (a.length:Int) !=(b.length:Int)then
 some false
 else
 (Xm a b 0).bind (Sum.elim (λc=>some false) (λd=>some true))
def c75:=Ck [.d ATK,.d ATK] [⟨[.AB [] ATK,.AB [] ATK],[],Bool,λp=>Te p.1.1 p.1.2.1,λr=>(dB r,[])⟩]
theorem AlJ:An prog 75 c75:=Av (fn:=f75) ⟨⟨Ao0,pk ⟨Agh,trivial⟩,λ_ R K=>by
 simp(disch:=refine id ?_;kernel_rfl) only[Te,ASn,Xm,AJ (Auq _ _) (K:=A2 Ao0 f75 0 R K)];kernel_rfl⟩,trivial⟩
abbrev AIj:=eN [(75,c75)] {}
def Kb(a b:ASz):ATP Bool:=
 (Te a.1 b.1).bind λc=>bif !c then
 some false
 else
 some true
def c28:=Ck [.d Ap,.d Ap] [⟨[.AB [] Ap,.AB [] Ap],[],Bool,λp=>Kb p.1.1 p.1.2.1,λr=>(dB r,[])⟩]
theorem Abc:An prog 28 c28:=Av (fn:=f28) ⟨⟨AIj,pk ⟨AlJ,trivial⟩,λ_ R K=>by
 simp only[Kb,ASn];kernel_rfl⟩,trivial⟩
end
end Go.Proofs.X
