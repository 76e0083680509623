import Derived.KernelRfl
import Derived.Test.YtoinnpeenpmgkaaGreatK3
set_option linter.unusedVariables false
set_option linter.unusedSimpArgs false
namespace Go.Proofs.X
open Go Go.Va Go.Proofs.Tryz
set_option maxRecDepth 100000
noncomputable section
abbrev E48:=eN [(83,c83),(84,c84),(85,c85),(86,c86),(87,c87)] {BM:=[(2,[0,1,5,6,18])],Du:=[(2,[0,1,5,6])],RU:=[(0,Am),(1,.bool)]}
def AAB a b c:=sT 31 [(0,Ar a),(1,Bl b),(5,Aq),(6,AZ)] [.box (BP c),.box V4]
def Ayu a b c:=λ(d:Bool)=>xN 31 [(0,Ar a),(1,Bl b),(5,Aq),(6,AZ),(18,dB d)] [.box (BP c),.box V4]
def Mh(a:ASG)(b:ASK)(c:ASx):ATP Bool:=
 (Ke a c).bind λe=>bif !e then
 some true
 else
 (Gl a b).bind λg=>some (!g)
theorem ACS a b c:AX E48 0 2 (code f40) 12 (AAB a b c) (Mh a b c) (Ayu a b c):=by
 unfold AX;simp only[Mh,ASm];kernel_rfl
def Fy(a:ASG)(b:ASK)(c:ASx):ATP (ASx×Bool):=
 (Mh a b c).bind λd=>bif d then
 some ((([]:ASQ),()),false)
 else
 (Oi a c).bind λi=>(UW a b i).bind λj=>bif !j.1 then
 some ((([]:ASQ),()),false)
 else
 (T2 j.2).bind λk=>some ((k,()),true)
def c40:=Ck [.d ATE,.d ATG,.d Am] [⟨[.AB [] ATE,.AB [] ATG,.AB [] Am],[],ASx×Bool,λp=>Fy p.1.1 p.1.2.1 p.1.2.2.1,λr=>(.cons (BP r.1) (.cons (dB r.2) .nil),[])⟩]
theorem Abe:An prog 40 c40:=Av (fn:=f40) ⟨⟨E48,pk ⟨iF,qP,Abi,AlP,AlQ,trivial⟩,λ_ R K=>by
 simp(disch:=refine id ?_;kernel_rfl) only[Fy,ASn,Bf (ACS ..) (K:=A2 E48 f40 0 R K)];kernel_rfl⟩,trivial⟩
abbrev E49:=eN [(83,c83)] {Ba:=[(5,{Be:=[0,3,5,6],Cj:=[(5,false,.row [] 151 Ae true)]}),(9,{Be:=[0,3,5,6,7,8],Cj:=[(5,false,.row [] 151 Ae true)]})],BN:=[(5,[5]),(9,[0,3,5,6])],BM:=[(14,[0,3,5,6,7,8,9])],Du:=[(14,[0,3,5,6,7,8,9])],iq:=[(0,.row [] 151 Ae true)]}
def AAE a b (z_:Int×ASH):=sT 64 (Acu a z_.1) [.box (BP b),DU z_.2]
def Ayx(a:ASG)(b:ASx):=λ(c:ASH)=>xE 0 64 [(5,.AK 0)] [DU c]
def AAD a d b (z_:Int×Int×ASH):=sT 64 [(0,Ar a),(3,Aq),(5,.AK 1),(6,dI d),(7,dI z_.1),(8,dI z_.2.1)] [.box (BP b),DU z_.2.2]
def Ayw a d b:=λ(e:ASH)=>xE 2 64 (Acu a d) [.box (BP b),DU e]
def AAC a d g i b j k:=sT 64 [(0,Ar a),(3,Aq),(5,.AK 1),(6,dI d),(7,dI g),(8,dI i),(9,dI k)] [.box (BP b),DU j]
def Ayv a d g i b j (k:Int):=λ(l:Int)=>xN 64 [(0,Ar a),(3,Aq),(5,.AK 1),(6,dI d),(7,dI g),(8,dI i),(9,dI l)] [.box (BP b),DU j]
def JX(a:ASG)(d g i:Int)(b:ASx)(j:ASH)(k:Int):ATP Int:=
 if 0<=d/\d<b.1.length then
 bif decide (i<((b.1.getD d.toNat ATD.zero).length:Int))then
 if 0<=d/\d<b.1.length then
 if 0<=i/\i<(b.1.getD d.toNat ATD.zero).length then
 some ((b.1.getD d.toNat ATD.zero).getD i.toNat ATy.zero)
 else none
 else none
 else
 some k
 else none
theorem ACT a d g i b j k:AX E49 0 14 (sb (cd f41 244) 204) 50 (AAC a d g i b j k) (JX a d g i b j k) (Ayv a d g i b j k):=by
 unfold AX;simp only[JX,ASm];kernel_rfl
def KQ(a:ASG)(d:Int)(b:ASx)(g i:Int)(j:ASH):ATP ((Int×Int×ASH)⊕ASH):=
 if 0<=d/\d<b.1.length then
 bif decide (i<=((b.1.getD d.toNat ATD.zero).length:Int))then
 if 0<=d/\d<a.length then
 (JX a d g i b j (a.getD d.toNat Ab.zero).2.1).bind λl=>if(j.length+([(d,g,wI (l-g),())]:ASH).length)*24<=140737488355328 then
 some (.inl (l,wI (i+1),j++([(d,g,wI (l-g),())]:ASH)))
 else none
 else none
 else
 some (.inr j)
 else none
def ES a d b (z_:Int×Int×ASH):=KQ a d b z_.1 z_.2.1 z_.2.2
def SJ a d b g i j:=fix (ES a d b) (g,i,j)
theorem ACU a d b:A8 E49 0 9 (cd f41 244) 102 (AAD a d b) (ES a d b) (Ayw a d b):=by
 intro _;simp(disch:=refine id ?_;kernel_rfl) only[ES,KQ,ASm,Bf (ACT ..) (K:=Ka E49 0 9)];kernel_rfl
def KR(a:ASG)(b:ASx)(d:Int)(n:ASH):ATP (AS0⊕ASH):=
 bif decide (d<(a.length:Int))then
 (SJ a d b 0 0 n).bind λe=>some (.inl (wI (d+1),e))
 else
 some (.inr n)
def ET a b (z_:Int×ASH):=KR a b z_.1 z_.2
def SK a b d n:=fix (ET a b) (d,n)
theorem ACV a b:A8 E49 0 5 (code f41) 122 (AAE a b) (ET a b) (Ayx a b):=by
 intro _;simp(disch:=refine id ?_;kernel_rfl) only[ET,KR,ASm,SJ,AJ (ACU _ _ _) (K:=Ka E49 0 5)];kernel_rfl
def Ja(a:ASG)(b:ASx):ATP ASH:=
 (Ke a b).bind λo=>bif !o then
 some ([]:ASH)
 else
 (SK a b 0 ([]:ASH)).bind λc=>some c
def c41:=Ck [.d ATE,.d Am] [⟨[.AB [] ATE,.AB [] Am],[],ASH,λp=>Ja p.1.1 p.1.2.1,λr=>(.AK 0,[DU r])⟩]
theorem qL:An prog 41 c41:=Av (fn:=f41) ⟨⟨E49,pk ⟨iF,trivial⟩,λ_ R K=>by
 simp(disch:=refine id ?_;kernel_rfl) only[Ja,ASn,SK,AJ (ACV _ _) (K:=A2 E49 f41 0 R K)];kernel_rfl⟩,trivial⟩
abbrev E50:=eN [] {Aw:=false,Ba:=[(3,{Be:=[0,3,4],Cj:=[(3,true,.row [2] 2 ATy true)]})],BN:=[(3,[3])]}
def AAF a b (z_:Int×ASC):=sT 25 [(0,dI a),(3,Aq),(4,dI z_.1)] [.box (.pr I2 (.pr .zs YA)),Gg b,AA z_.2]
def Ayy(a:Int) b:=λ(c:ASC)=>xE 0 25 [(3,Aq)] [.box (.pr I2 (.pr .zs YA)),Gg b,AA c]
def P5(a:Int)(b:ASL)(d:Int)(e:ASC):ATP (ASZ⊕ASC):=
 bif decide (d<a)then
 if(e.length+([d]:ASC).length)*8<=140737488355328 then
 some (.inl (wI (d+1),e++([d]:ASC)))
 else none
 else
 some (.inr e)
def Ip a b (z_:Int×ASC):=P5 a b z_.1 z_.2
def WT a b d e:=fix (Ip a b) (d,e)
theorem ACW a b:A8 E50 0 3 (code f42) 58 (AAF a b) (Ip a b) (Ayy a b):=by
 intro _;simp only[Ip,P5,ASm];kernel_rfl
def VX(a:Int):ATP (Int×ASL×ASC):=
 if Ty.row Ai=true/\(0:Int)<=a/\a<=a/\((32:Nat):Int)*a<=(281474976710656:Int)/\a<=(9223372036854775807:Int)then
 (WT a (List.replicate a.toNat (0,([]:ASC),())) 0 ([]:ASC)).bind λc=>some (0,List.replicate a.toNat (0,([]:ASC),()),c)
 else none
def c42:=Ck [.d ATy] [⟨[.AB [] ATy],[],Int×ASL×ASC,λp=>VX p.1.1,λr=>(.ptr 0 r.1 [] 0,[.box (.pr I2 (.pr .zs YA)),Gg r.2.1,AA r.2.2])⟩]
theorem Alo:An prog 42 c42:=Av (fn:=f42) ⟨⟨E50,pk trivial,λ_ R K=>by
 simp(disch:=refine id ?_;kernel_rfl) only[VX,ASn,WT,AJ (ACW _ _) (K:=A2 E50 f42 0 R K)];kernel_rfl⟩,trivial⟩
abbrev E51:=eN [(83,c83)] {Ba:=[(5,[3,5,6])],BN:=[(5,[5])]}
def AAG a (z_:Int×Int):=sT 29 [(3,Aq),(5,dI z_.1),(6,dI z_.2)] [.box (BP a)]
def Ayz(a:ASx):=λ(b:Int)=>xE 0 29 [(5,dI b)] []
def PH(a:ASx)(c d:Int):ATP (AS1⊕Int):=
 bif decide (d<(a.1.length:Int))then
 if 0<=d/\d<a.1.length then
 some (.inl (wI (c+((a.1.getD d.toNat ATD.zero).length:Int)),wI (d+1)))
 else none
 else
 some (.inr c)
def Il a (z_:Int×Int):=PH a z_.1 z_.2
def WQ a c d:=fix (Il a) (c,d)
theorem ACX a:A8 E51 0 5 (code f88) 122 (AAG a) (Il a) (Ayz a):=by
 intro _;simp only[Il,PH,ASm];kernel_rfl
def SI(e:ASG)(a:ASx):ATP Int:=
 (Ke e a).bind λg=>bif !g then
 some (-1)
 else
 (WQ a (e.length:Int) 0).bind λb=>some b
def c88:=Ck [.d ATE,.d Am] [⟨[.AB [] ATE,.AB [] Am],[],Int,λp=>SI p.1.1 p.1.2.1,λr=>(dI r,[])⟩]
theorem AlR:An prog 88 c88:=Av (fn:=f88) ⟨⟨E51,pk ⟨iF,trivial⟩,λ_ R K=>by
 simp(disch:=refine id ?_;kernel_rfl) only[SI,ASn,WQ,AJ (ACX _) (K:=A2 E51 f88 0 R K)];kernel_rfl⟩,trivial⟩
abbrev E52:=eN [(41,c41)] {wH:=[(53,2)],Ba:=[(3,{Be:=[0,3,5,6],Cj:=[(5,false,.row [] 32 ATD true)]}),(7,[0,3,5,6,7,8]),(13,{Be:=[5,9,10],RU:=[(9,false,ATH)]})],BN:=[(3,[0,3,5]),(7,[0,3,5,6,7]),(13,[5])]}
def AAJ a (z_:Int×ASQ):=sT 62 [(5,.AK 0),(9,Gn a),(10,dI z_.1)] [Dt z_.2]
def AyC(a:ASH):=λ(b:ASQ)=>xE 4 62 [(5,.AK 0)] [Dt b]
def MH(a:ASH)(c:Int)(d:ASQ):ATP ((Int×ASQ)⊕ASQ):=
 bif decide (c<(a.length:Int))then
 if 0<=c/\c<a.length then
 if(0:Int)<=(a.getD c.toNat Ae.zero).1/\(a.getD c.toNat Ae.zero).1<(d.length:Int)then
 if 0<=c/\c<a.length then
 if(0:Int)<=(a.getD c.toNat Ae.zero).2.1/\(a.getD c.toNat Ae.zero).2.1<(d.getD (a.getD c.toNat Ae.zero).1.toNat ATD.zero).length then
 some (.inl (wI (c+1),d.set (a.getD c.toNat Ae.zero).1.toNat ((d.getD (a.getD c.toNat Ae.zero).1.toNat ATD.zero).set (a.getD c.toNat Ae.zero).2.1.toNat c)))
 else none
 else none
 else none
 else none
 else
 some (.inr d)
def Ge a (z_:Int×ASQ):=MH a z_.1 z_.2
def P0 a c d:=fix (Ge a) (c,d)
theorem AC0 a:A8 E52 0 13 (code f90) 250 (AAJ a) (Ge a) (AyC a):=by
 intro _;simp only[Ge,MH,ASm];kernel_rfl
def AAI e g (z_:Int×ASQ):=sT 62 (Acu e z_.1) [.box (BP g),Dt z_.2]
def AyB e g:=λ(i:ASQ)=>xE 0 62 [(0,Ar e),(3,Aq),(5,.AK 1)] [.box (BP g),Dt i]
def AAH e j g k (z_:Int×ASC):=sT 62 [(0,Ar e),(3,Aq),(5,.AK 1),(6,dI j),(7,.AK 2),(8,dI z_.1)] [.box (BP g),Dt k,AA z_.2]
def AyA e j g k:=λ(l:ASC)=>xE 2 62 [(0,Ar e),(3,Aq),(5,.AK 1),(6,dI j),(7,.AK 2)] [.box (BP g),Dt k,AA l]
def MF(e:ASG)(j:Int)(g:ASx)(k:ASQ)(n:Int)(o:ASC):ATP (ASZ⊕ASC):=
 bif decide (n<(o.length:Int))then
 if 0<=n/\n<o.length then
 some (.inl (wI (n+1),o.set n.toNat (-1)))
 else none
 else
 some (.inr o)
def Gb e j g k (z_:Int×ASC):=MF e j g k z_.1 z_.2
def PY e j g k n o:=fix (Gb e j g k) (n,o)
theorem ACY e j g k:A8 E52 0 7 (cd f90 116) 202 (AAH e j g k) (Gb e j g k) (AyA e j g k):=by
 intro _;simp only[Gb,MF,ASm];kernel_rfl
def MG(e:ASG)(g:ASx)(j:Int)(k:ASQ):ATP ((Int×ASQ)⊕ASQ):=
 bif decide (j<(e.length:Int))then
 if 0<=j/\j<e.length then
 if Ty.row ATy=true/\(0:Int)<=(e.getD j.toNat Ab.zero).2.1/\(e.getD j.toNat Ab.zero).2.1<=(e.getD j.toNat Ab.zero).2.1/\((8:Nat):Int)*(e.getD j.toNat Ab.zero).2.1<=(281474976710656:Int)/\(e.getD j.toNat Ab.zero).2.1<=(9223372036854775807:Int)then
 (PY e j g k 0 (List.replicate (e.getD j.toNat Ab.zero).2.1.toNat 0)).bind λl=>if(k.length+([l]:ASQ).length)*24<=140737488355328 then
 some (.inl (wI (j+1),k++([l]:ASQ)))
 else none
 else none
 else none
 else
 some (.inr k)
def Gc e g (z_:Int×ASQ):=MG e g z_.1 z_.2
def PZ e g j k:=fix (Gc e g) (j,k)
theorem ACZ e g:A8 E52 0 3 (code f90) 58 (AAI e g) (Gc e g) (AyB e g):=by
 intro _;simp(disch:=refine id ?_;kernel_rfl) only[Gc,MG,ASm,PY,AJ (ACY _ _ _ _) (K:=Ka E52 0 3)];kernel_rfl
def RI(e:ASG)(g:ASx):ATP ASQ:=
 (PZ e g 0 ([]:ASQ)).bind λi=>(Ja e g).bind λa=>(P0 a 0 i).bind λb=>some b
def c90:=Ck [.d ATE,.d Am] [⟨[.AB [] ATE,.AB [] Am],[],ASQ,λp=>RI p.1.1 p.1.2.1,λr=>(.AK 0,[Dt r])⟩]
theorem AlS:An prog 90 c90:=Av (fn:=f90) ⟨⟨E52,pk ⟨qL,trivial⟩,λ_ R K=>by
 simp(disch:=refine id ?_;kernel_rfl) only[RI,ASn,PZ,AJ (ACZ _ _) (K:=A2 E52 f90 0 R K),P0,AJ (AC0 _) (K:=A2 E52 f90 0 R K)];kernel_rfl⟩,trivial⟩
abbrev E53:=eN [(67,c67)] {Ba:=[(4,{Be:=[4,5,10,12,13],Cj:=[(12,false,.row [] 5 ATA true)]}),(15,[4,5,10,16,17])],BN:=[(4,{Be:=[10,11,12],RU:=[(12,false,.sl ATA)]}),(15,[10,11,16])],BM:=[(13,[3,4,5,10,16,86])],Du:=[(13,[2,3,4,5,10,16])],iq:=[(0,.row [1,1] 199 ATz true)]}
def AAM a b c (z_:Int):=sT 103 [(4,dI a),(5,Aq),(10,AZ),(16,dI c),(17,dI z_)] [.box (jc b),.box aR]
def AyF(a:Int)(b:ASB) c:=Sum.elim (λ(d:Unit)=>xR 103 [(10,Aq),(11,dB false),(16,dI c)] [.box aR]) (λ(e:Unit)=>xE 2 103 [(10,Aq),(16,dI c)] [.box aR])
def Oe(a:Int)(b:ASB)(c g:Int):ATP (Int⊕(Unit⊕Unit)):=
 bif decide (g<a)then
 if 0<=g/\g<b.2.1.length then
 bif b.2.1.getD g.toNat (Ty.zero .bool)then
 some (.inr (.inl ()))
 else
 some (.inl (wI (g+1)))
 else none
 else
 some (.inr (.inr ()))
def G8 a b c (z_:Int):=Oe a b c z_
def RH a b c g:=fix (G8 a b c) g
theorem AC3 a b c:A8 E53 0 15 (code f92) 250 (AAM a b c) (G8 a b c) (AyF a b c):=by
 intro _;simp only[G8,Oe,ASm];kernel_rfl
def AAL i j a b k:=sT 103 [(2,Gn i),(3,dI j),(4,dI a),(5,Aq),(10,AZ),(16,dI k)] [.box (jc b),.box aR]
def AyE(i:ASH) j a b k:=λ(l:Bool)=>xN 103 [(3,dI j),(4,dI a),(5,Aq),(10,AZ),(16,dI k),(86,dB l)] [.box (jc b),.box aR]
def Nq(i:ASH)(j a:Int)(b:ASB)(k:Int):ATP Bool:=
 bif decide (k<0)then
 some true
 else
 if 0<=k/\k<i.length then
 some ((i.getD k.toNat Ae.zero).2.2.1 !=(wI (a-j)))
 else none
theorem AC2 i j a b k:AX E53 0 13 (code f92) 60 (AAL i j a b k) (Nq i j a b k) (AyE i j a b k):=by
 unfold AX;simp only[Nq,ASm];kernel_rfl
def AAK a b (z_:Int×ASC):=sT 103 [(4,dI a),(5,Aq),(10,AZ),(12,.AK 2),(13,dI z_.1)] [.box (jc b),.box aR,K7 z_.2]
def AyD(a:Int)(b:ASB):=Sum.elim (λ(n:ASC)=>xR 103 [(10,Aq),(11,dB false),(12,Z6 n)] [.box aR]) (λ(o:ASC)=>xE 0 103 [(10,Aq),(12,Z6 o)] [.box aR])
def Od(a:Int)(b:ASB)(q:Int)(s:ASC):ATP (ASZ⊕(ASC⊕ASC)):=
 bif decide (q<a)then
 if 0<=q/\q<b.1.length then
 bif decide ((b.1.getD q.toNat Aa.zero).1>=0)then
 some (.inr (.inl s))
 else
 if 0<=q/\q<b.1.length then
 if(s.length+([IntKind.u8.wrap (b.1.getD q.toNat Aa.zero).2.1]:ASC).length)*1<=140737488355328 then
 some (.inl (wI (q+1),s++([IntKind.u8.wrap (b.1.getD q.toNat Aa.zero).2.1]:ASC)))
 else none
 else none
 else none
 else
 some (.inr (.inr s))
def G7 a b (z_:Int×ASC):=Od a b z_.1 z_.2
def RG a b q s:=fix (G7 a b) (q,s)
theorem AC1 a b:A8 E53 0 4 (code f92) 426 (AAK a b) (G7 a b) (AyD a b):=by
 intro _;simp only[G7,Od,ASm];kernel_rfl
def QD(b:ASB)(t:ASQ)(i:ASH)(j a:Int):ATP AS9:=
 if 0<=j/\j<b.1.length then
 bif decide ((b.1.getD j.toNat Aa.zero).1<0)then
 (RG a b j ([]:ASC)).bind (Sum.elim (λn=>some (0,0,false,([]:ASC))) (λo=>(Kg o).bind λu=>some (-1,u.1,true,u.2.2)))
 else
 if 0<=j/\j<b.1.length then
 if(0:Int)<=(b.1.getD j.toNat Aa.zero).1/\(b.1.getD j.toNat Aa.zero).1<(t.length:Int)then
 if 0<=j/\j<b.1.length then
 if(0:Int)<=(b.1.getD j.toNat Aa.zero).2.1/\(b.1.getD j.toNat Aa.zero).2.1<((t.getD (b.1.getD j.toNat Aa.zero).1.toNat ATD.zero).length:Int)then
 (Nq i j a b ((t.getD (b.1.getD j.toNat Aa.zero).1.toNat ATD.zero).getD (b.1.getD j.toNat Aa.zero).2.1.toNat ATy.zero)).bind λl=>bif l then
 some (0,0,false,([]:ASC))
 else
 (RH a b ((t.getD (b.1.getD j.toNat Aa.zero).1.toNat ATD.zero).getD (b.1.getD j.toNat Aa.zero).2.1.toNat ATy.zero) (wI (j+1))).bind (Sum.elim (λd=>some (0,0,false,([]:ASC))) (λe=>some ((t.getD (b.1.getD j.toNat Aa.zero).1.toNat ATD.zero).getD (b.1.getD j.toNat Aa.zero).2.1.toNat ATy.zero,0,true,([]:ASC))))
 else none
 else none
 else none
 else none
 else none
def c92:=Ck [.d Au,.d ATN,.d ATH,.d ATy,.d ATy] [⟨[.AB [] Au,.AB [] ATN,.AB [] ATH,.AB [] ATy,.AB [] ATy],[],AS9,λp=>QD p.1.1 p.1.2.1 p.1.2.2.1 p.1.2.2.2.1 p.1.2.2.2.2.1,λr=>(.cons (.pr (dI r.1) (.pr (.pr (dI r.2.1) Pj) .u)) (.cons (dB r.2.2.1) .nil),[Bj r.2.2.2])⟩]
theorem AlT:An prog 92 c92:=Av (fn:=f92) ⟨⟨E53,pk ⟨qM,trivial⟩,λ_ R K=>by
 simp(disch:=refine id ?_;kernel_rfl) only[QD,ASn,RG,AJ (AC1 _ _) (K:=A2 E53 f92 0 R K),Bf (AC2 ..) (K:=A2 E53 f92 0 R K),RH,AJ (AC3 _ _ _) (K:=A2 E53 f92 0 R K)];kernel_rfl⟩,trivial⟩
abbrev E54:=eN [(40,c40),(41,c41),(64,c64),(83,c83),(84,c84),(85,c85),(88,c88),(89,c89),(90,c90),(91,c91),(92,c92)] {Aw:=false,Ba:=[(17,{Be:=[8,15,16,17,18,19,20,21,22],RU:=[(17,false,ATL),(18,false,ATN),(19,false,ATH)],Cj:=[(20,false,.row [] 96 As false)]})],BN:=[(17,[6,7,20])],BM:=[(3,[0,4,5,8,38]),(6,[0,4,5,8,58]),(18,{Be:=[6,7,8,15,16,17,18,19,20,21,22],Cj:=[(20,false,.row [] 96 As false)]}),(20,[8,15,16,17,18,19,20,21,22]),(23,[8,15,16,17,18,19,20,21,22,23,25,137])],Du:=[(3,[0,4,5,8]),(6,[0,4,5,8,9,10]),(18,[8,15,16,17,18,19,20,21,22]),(20,[8,15,16,17,18,19,20,21,22]),(23,[8,15,16,17,18,19,20,21,22,23,24,25,26])],kv:=[(35,ATG),(43,ATG)],iq:=[(0,.row [] 96 As false)]}
def AsR a b c d e g i (z_:Int×Int×ASO):=sT 150 (qf a b c z_.1 z_.2.1) (my z_.2.2 d e g i)
def Aq2(a:ASR)(b:ASQ)(c:ASH)(d:ASF)(e:ASD)(g:ASF)(i:ASD):=Sum.elim (λ(j:ASO)=>xR 150 [(6,.zs),(7,dB false),(20,.AK 0)] [dW j]) (λ(k:ASO)=>xE 0 150 [(20,.AK 0)] [dW k])
def AAQ a b c l n o d e g i:=sT 150 (qf a b c l n) (my o d e g i)
def AyJ a b c l n o d e g i:=Sum.elim (λ(q:(Int×ASO))=>xN 150 (qf a b c q.1 n) (my q.2 d e g i)) (λ(s:Unit)=>xR 150 [(6,.zs),(7,dB false),(8,.zs),(15,Aq),(16,AZ),(17,Yc a),(18,Ie b),(19,Gn c),(20,.AK 2),(21,dI l),(22,dI n)] (my o d e g i))
def Ant a b c l n (t:AS9) (u:AS9) o d e g i:=sT 150 [(8,.zs),(15,Aq),(16,AZ),(17,Yc a),(18,Ie b),(19,Gn c),(20,.AK 2),(21,dI l),(22,dI n),(23,J8),(24,dB t.2.2.1),(25,Ns),(26,dB u.2.2.1)] (AoB o t.1 t.2.1 u.1 u.2.1 d e g i t.2.2.2 u.2.2.2)
def Ae1(a:ASR)(b:ASQ)(c:ASH)(l n:Int)(t u:AS9)(o:ASO)(d:ASF)(e:ASD)(g:ASF)(i:ASD)(m0:Bool):Ex×St:=xN 150 [(8,.zs),(15,Aq),(16,AZ),(17,Yc a),(18,Ie b),(19,Gn c),(20,.AK 2),(21,dI l),(22,dI n),(23,J8),(25,Ns),(137,dB m0)] (AoB o t.1 t.2.1 u.1 u.2.1 d e g i t.2.2.2 u.2.2.2)
theorem AC7 a b c l n t u o d e g i:Xk E54 0 23 (sb (cd f43 524276) 6) (pt 92) (Ant a b c l n t u o d e g i)=some (Ae1 a b c l n t u o d e g i ((!t.2.2.1)||(!u.2.2.1))):=by
 refine .trans (b:=
 bif !t.2.2.1 then
 some (Ae1 a b c l n t u o d e g i true)
 else
 some (Ae1 a b c l n t u o d e g i (!u.2.2.1))) (by kernel_rfl) ?_
 cases (!t.2.2.1);rfl;rfl
def AAP a b c l n o d e g i:=sT 150 (qf a b c l n) (my o d e g i)
def AyI a b c l n o d e g i:=Sum.elim (λ(v:Unit)=>xE 1 150 (qf a b c l n) (my o d e g i)) (λ(w:Unit)=>xN 150 (qf a b c l n) (my o d e g i))
def ER(a:ASR)(b:ASQ)(c:ASH)(l n:Int)(o:ASO)(d:ASF)(e:ASD)(g:ASF)(i:ASD):ATP (Unit⊕Unit):=
 bif decide (n<(d.length:Int))then
 (Ez (d,e,()) a n).bind λx=>bif !x then
 (Ez (g,i,()) a n).bind λy=>bif !y then
 some (.inl ())
 else
 some (.inr ())
 else
 some (.inr ())
 else
 some (.inr ())
theorem AC6 a b c l n o d e g i:AX E54 0 20 (sb (cd f43 524276) 6) 4 (AAP a b c l n o d e g i) (ER a b c l n o d e g i) (AyI a b c l n o d e g i):=by
 unfold AX;simp only[ER,ASm];kernel_rfl
def JW(a:ASR)(b:ASQ)(c:ASH)(l n:Int)(o:ASO)(d:ASF)(e:ASD)(g:ASF)(i:ASD):ATP ((Int×ASO)⊕Unit):=
 (ER a b c l n o d e g i).bind (Sum.elim (λv=>some (.inl (l,o))) (λw=>(QD (d,e,()) b c l n).bind λt=>(QD (g,i,()) b c l n).bind λu=>OQ (Ant a b c l n t u o d e g i) (
 bif (!t.2.2.1)||(!u.2.2.1)then
 some (.inr ())
 else
 if(o.length+([((t.1,(t.2.1,t.2.2.2,()),()),(u.1,(u.2.1,u.2.2.2,()),()),wI (n-l),())]:ASO).length)*88<=140737488355328 then
 some (.inl (n,o++([((t.1,(t.2.1,t.2.2.2,()),()),(u.1,(u.2.1,u.2.2.2,()),()),wI (n-l),())]:ASO)))
 else none)))
theorem AC8 a b c l n o d e g i:AX E54 0 18 (cd f43 524276) 6 (AAQ a b c l n o d e g i) (JW a b c l n o d e g i) (AyJ a b c l n o d e g i):=by
 unfold AX;simp(disch:=refine id ?_;kernel_rfl) only[JW,ASm,Bf (AC6 ..) (K:=Ui E54 0 18),Ey (AC7 ..) (K:=Ui E54 0 18)];kernel_rfl
def Jw(a:ASR)(b:ASQ)(c:ASH)(d:ASF)(e:ASD)(g:ASF)(i:ASD)(l n:Int)(o:ASO):ATP ((Int×Int×ASO)⊕(ASO⊕ASO)):=
 bif decide (n<=(d.length:Int))then
 (JW a b c l n o d e g i).bind (Sum.elim (λq=>some (.inl (q.1,wI (n+1),q.2))) (λs=>some (.inr (.inl o))))
 else
 some (.inr (.inr o))
def Er a b c d e g i (z_:Int×Int×ASO):=Jw a b c d e g i z_.1 z_.2.1 z_.2.2
def Mm a b c d e g i l n o:=fix (Er a b c d e g i) (l,n,o)
theorem Au5 a b c d e g i:A8 E54 0 17 (code f43) 262138 (AsR a b c d e g i) (Er a b c d e g i) (Aq2 a b c d e g i):=by
 intro _;simp(disch:=refine id ?_;kernel_rfl) only[Er,Jw,ASm,Bf (AC8 ..) (K:=Ka E54 0 17)];kernel_rfl
def AAO a1 b1 c1 d1 e1:=sT 150 [(0,Ar a1),(4,Aq),(5,AZ),(8,.zs),(9,Dr),(10,dB d1)] [.box (Yd b1),.box (BP c1),.box (BP e1)]
def AyH a1 b1 c1 (d1:Bool) (e1:ASx):=λ(g1:Bool)=>xN 150 [(0,Ar a1),(4,Aq),(5,AZ),(8,.zs),(58,dB g1)] [.box (Yd b1),.box (BP c1)]
def NZ(a1:ASG)(b1:ASu)(c1:ASx)(d1:Bool)(e1:ASx):ATP Bool:=
 bif !d1 then
 some true
 else
 (SI a1 e1).bind λi1=>(SI a1 c1).bind λj1=>some (i1 !=j1)
theorem AC5 a1 b1 c1 d1 e1:AX E54 0 6 (code f43) 124 (AAO a1 b1 c1 d1 e1) (NZ a1 b1 c1 d1 e1) (AyH a1 b1 c1 d1 e1):=by
 unfold AX;simp only[NZ,ASm];kernel_rfl
def AAN a1 b1 c1:=sT 150 [(0,Ar a1),(4,Aq),(5,AZ),(8,.zs)] [.box (Yd b1),.box (BP c1)]
def AyG a1 b1 c1:=λ(k1:Bool)=>xN 150 [(0,Ar a1),(4,Aq),(5,AZ),(8,.zs),(38,dB k1)] [.box (Yd b1),.box (BP c1)]
def NY(a1:ASG)(b1:ASu)(c1:ASx):ATP Bool:=
 (Ke a1 c1).bind λl1=>bif !l1 then
 some true
 else
 (Gl a1 ([b1]:ASK)).bind λn1=>some (!n1)
theorem AC4 a1 b1 c1:AX E54 0 3 (code f43) 28 (AAN a1 b1 c1) (NY a1 b1 c1) (AyG a1 b1 c1):=by
 unfold AX;simp only[NY,ASm];kernel_rfl
def Ph(a1:ASG)(b1:ASu)(c1:ASx):ATP (Bool×ASO):=
 (NY a1 b1 c1).bind λk1=>bif k1 then
 some (false,([]:ASO))
 else
 (Fy a1 ([b1]:ASK) c1).bind λo1=>(NZ a1 b1 c1 o1.2 o1.1).bind λg1=>bif g1 then
 some (false,([]:ASO))
 else
 (BK a1 b1.2.2.1).bind λq1=>(BK a1 b1.2.2.2.1).bind λs1=>(Kh q1.2).bind λt1=>(Kh s1.2).bind λu1=>(Oi a1 c1).bind λa=>(RI a1 c1).bind λb=>(Ja a1 c1).bind λc=>(Mm a b c t1.1 t1.2 u1.1 u1.2 0 1 ([]:ASO)).bind (Sum.elim (λj=>some (false,([]:ASO))) (λk=>some (true,k)))
def c43:=Ck [.d ATE,.d Ah,.d Am] [⟨[.AB [] ATE,.AB [] Ah,.AB [] Am],[],Bool×ASO,λp=>Ph p.1.1 p.1.2.1 p.1.2.2.1,λr=>(.cons H7 (.cons (dB r.1) .nil),[dW r.2])⟩]
theorem Alp:An prog 43 c43:=Av (fn:=f43) ⟨⟨E54,pk ⟨Abe,qL,iE,iF,qP,Abi,AlR,Abj,AlS,qQ,AlT,trivial⟩,λ_ R K=>by
 simp(disch:=refine id ?_;kernel_rfl) only[Ph,ASn,Bf (AC4 ..) (K:=A2 E54 f43 0 R K),Bf (AC5 ..) (K:=A2 E54 f43 0 R K),Mm,AJ (Au5 _ _ _ _ _ _ _) (K:=A2 E54 f43 0 R K)];kernel_rfl⟩,trivial⟩
abbrev E55:=eN [] {Ba:=[(4,[2,3,5])],BN:=[(4,[4])],BM:=[(2,[2,3,19])],Du:=[(2,[2,3])]}
def AAR a b (z_:Int):=sT 38 [(2,Aq),(3,AZ),(5,dI z_)] [.box (Jy a),.box (Jy b)]
def AyK(a b:ASv):=Sum.elim (λ(c:Unit)=>xR 38 mD []) (λ(d:Unit)=>xE 0 38 [] [])
def IX(a b:ASv)(e:Int):ATP (Int⊕(Unit⊕Unit)):=
 bif decide (e<(a.2.1.length:Int))then
 if 0<=e/\e<a.2.1.length then
 if 0<=e/\e<b.2.1.length then
 bif (a.2.1.getD e.toNat ATz.zero) !=(b.2.1.getD e.toNat ATz.zero)then
 some (.inr (.inl ()))
 else
 some (.inl (wI (e+1)))
 else none
 else none
 else
 some (.inr (.inr ()))
def DN a b (z_:Int):=IX a b z_
def VN a b e:=fix (DN a b) e
theorem ADa a b:A8 E55 0 4 (code f78) 58 (AAR a b) (DN a b) (AyK a b):=by
 intro _;simp only[DN,IX,ASm];kernel_rfl
def Anu a b:=sT 38 [(2,Aq),(3,AZ)] [.box (Jy a),.box (Jy b)]
def Ae2(a b:ASv)(m0:Bool):Ex×St:=xN 38 [(2,Aq),(3,AZ),(19,dB m0)] [.box (Jy a),.box (Jy b)]
theorem AC9 a b:Xk E55 0 2 (code f78) (pt 12) (Anu a b)=some (Ae2 a b ((a.1 !=b.1)||((a.2.1.length:Int) !=(b.2.1.length:Int)))):=by
 refine .trans (b:=
 bif a.1 !=b.1 then
 some (Ae2 a b true)
 else
 some (Ae2 a b ((a.2.1.length:Int) !=(b.2.1.length:Int)))) (by kernel_rfl) ?_
 cases (a.1 !=b.1);rfl;rfl
def Im(a b:ASv):ATP Bool:=
 OQ (Anu a b) (
 bif (a.1 !=b.1)||((a.2.1.length:Int) !=(b.2.1.length:Int))then
 some false
 else
 (VN a b 0).bind (Sum.elim (λc=>some false) (λd=>some true)))
def c78:=Ck [.d Ai,.d Ai] [⟨[.AB [] Ai,.AB [] Ai],[],Bool,λp=>Im p.1.1 p.1.2.1,λr=>(dB r,[])⟩]
theorem AlL:An prog 78 c78:=Av (fn:=f78) ⟨⟨E55,pk trivial,λ_ R K=>by
 simp(disch:=refine id ?_;kernel_rfl) only[Im,ASn,Ey (AC9 ..) (K:=A2 E55 f78 0 R K),VN,AJ (ADa _ _) (K:=A2 E55 f78 0 R K)];kernel_rfl⟩,trivial⟩
abbrev R56:Type:=ASH->Int->Int->ASD->Option (Bool×ASD×ASC)
def Avu(rc:R56):Va.Callee:=Ck [.d ATH,.VE,.d ATy,.d ATy] [⟨[.AB [] ATH,.k H7,.AB [] ATy,.AB [] ATy],[.row 4 .Aw .bool],Bool×ASD×ASC,λp=>rc p.1.1 p.1.2.2.1 p.1.2.2.2.1 p.2.1,λr=>(.cons I2 (.cons (dB r.1) .nil),[Ig r.2.1,AA r.2.2])⟩]
abbrev E56(rc:R56):=eN [(94,Avu rc)] {Ba:=[(4,[0,1,2,3,10])],BN:=[(4,[8,9])],BM:=[(5,[0,1,2,3,8,9,10]),(7,[0,1,2,3,10])],Du:=[(5,[0,1,2,3,10]),(7,[0,1,2,3,10])],iq:=[(0,.row [] 2 ATy true)]}
def AAU a b c (z_:Int×ASD):=sT 80 (qg a b c z_.1) [Ig z_.2]
def AyN(a:ASH)(b c:Int):=Sum.elim (λ(d:AS6)=>xR 80 [(8,.AK 1),(9,dB true)] [Ig d.1,AA d.2]) (λ(e:ASD)=>xE 0 80 [] [Ig e])
def AAT a b c g i:=sT 80 (qg a b c g) [Ig i]
def AyM a b c g (i:ASD):=Sum.elim (λ(j:ASD)=>xN 80 (qg a b c g) [Ig j]) (λ(k:AS6)=>xR 80 [(0,Gn a),(1,.AK 0),(2,dI b),(3,dI c),(8,.AK 1),(9,dB true),(10,dI g)] [Ig k.1,AA k.2])
def AAS a b c g i:=sT 80 (qg a b c g) [Ig i]
def AyL a b c g i:=Sum.elim (λ(l:Unit)=>xE 1 80 (qg a b c g) [Ig i]) (λ(n:Unit)=>xN 80 (qg a b c g) [Ig i])
def Tj(rc:R56)(a:ASH)(b c g:Int)(i:ASD):ATP (Unit⊕Unit):=
 if 0<=g/\g<i.length then
 bif i.getD g.toNat (Ty.zero .bool)then
 some (.inl ())
 else
 if 0<=g/\g<a.length then
 bif (a.getD g.toNat Ae.zero).1 !=b then
 if 0<=g/\g<a.length then
 bif (a.getD g.toNat Ae.zero).2.1 !=b then
 some (.inl ())
 else
 some (.inr ())
 else none
 else
 some (.inr ())
 else none
 else none
theorem ADb(rc:R56) a b c g i:AX (E56 rc) 1 7 (sb (cd f94 116) 6) 4 (AAS a b c g i) (Tj rc a b c g i) (AyL a b c g i):=by
 unfold AX;simp only[Tj,ASm];kernel_rfl
def Tk(rc:R56)(a:ASH)(b c g:Int)(i:ASD):ATP (ASD⊕AS6):=
 (Tj rc a b c g i).bind (Sum.elim (λl=>some (.inl i)) (λn=>if 0<=g/\g<i.length then
 if 0<=g/\g<a.length then
 if 0<=g/\g<a.length then
 (rc a (wI ((wI ((a.getD g.toNat Ae.zero).1+(a.getD g.toNat Ae.zero).2.1))-b)) c (i.set g.toNat true)).bind λo=>bif o.1 then
 if 0<=g/\g<a.length then
 if(([(a.getD g.toNat Ae.zero).2.2.1]:ASC).length+o.2.2.length)*8<=140737488355328 then
 some (.inr (o.2.1,([(a.getD g.toNat Ae.zero).2.2.1]:ASC)++o.2.2))
 else none
 else none
 else
 some (.inl o.2.1)
 else none
 else none
 else none))
theorem ADc(rc:R56) a b c g i:AX (E56 rc) 1 5 (cd f94 116) 6 (AAT a b c g i) (Tk rc a b c g i) (AyM a b c g i):=by
 unfold AX;simp(disch:=refine id ?_;kernel_rfl) only[Tk,ASm,Bf (ADb ..) (K:=Ui (E56 rc) 1 5)];kernel_rfl
def Uz(rc:R56)(a:ASH)(b c g:Int)(i:ASD):ATP ((Int×ASD)⊕(AS6⊕ASD)):=
 bif decide (g<(a.length:Int))then
 (Tk rc a b c g i).bind (Sum.elim (λj=>some (.inl (wI (g+1),j))) (λk=>some (.inr (.inl (k.1,k.2)))))
 else
 some (.inr (.inr i))
def P3(rc:R56) a b c (z_:Int×ASD):=Uz rc a b c z_.1 z_.2
def WS(rc:R56) a b c g i:=fix (P3 rc a b c) (g,i)
theorem ADd(rc:R56) a b c:A8 (E56 rc) 1 4 (code f94) 58 (AAU a b c) (P3 rc a b c) (AyN a b c):=by
 intro _;simp(disch:=refine id ?_;kernel_rfl) only[P3,Uz,ASm,Bf (ADc ..) (K:=Ka (E56 rc) 1 4)];kernel_rfl
def RN(rc:R56)(a:ASH)(b c:Int)(q:ASD):ATP (Bool×ASD×ASC):=
 bif b==c then
 some (true,q,([]:ASC))
 else
 (WS rc a b c 0 q).bind (Sum.elim (λd=>some (true,d.1,d.2)) (λe=>some (false,e,([]:ASC))))
theorem U56 R (rc:R56) a b c q K:TT (E56 rc) f94 R [Gn a,.AK 0,dI b,dI c] [Ig q] K=(RN rc a b c q).bind λr=>K (.cons I2 (.cons (dB r.1) .nil)) [Ig r.2.1,AA r.2.2]:=by
 simp(disch:=refine id ?_;kernel_rfl) only[RN,ASn,WS,AJ (ADd _ _ _ _) (K:=A2 (E56 rc) f94 1 R K)];kernel_rfl
def IZ:Nat->R56
 |0=>λ_ _ _ _=>none
 |n+1=>RN (IZ n)
def bR:R56:=IZ 1000000
def c94:Va.Callee:=Avu bR
theorem Abk:∀n,An prog 94 (Avu (IZ n))
 |0=>Ak0 ⟨λ_=>rfl,trivial⟩
 |n+1=>Av (fn:=f94) ⟨⟨E56 (IZ n),pk ⟨Abk n,trivial⟩,λp R K=>U56 R (IZ n) p.1.1 p.1.2.2.1 p.1.2.2.2.1 p.2.1 K⟩,trivial⟩
theorem AlV:An prog 94 c94:=Abk _
abbrev E57:=eN [] {Ba:=[(2,[0,1,5])],BN:=[(2,[4])]}
def AAV a b (z_:Int):=sT 18 [(0,B8 a),(1,dI b),(5,dI z_)] []
def AyO(a:ASC)(b:Int):=Sum.elim (λ(c:Unit)=>xR 18 [(4,dB true)] []) (λ(d:Unit)=>xE 0 18 [] [])
def Uq(a:ASC)(b e:Int):ATP (Int⊕(Unit⊕Unit)):=
 bif decide (e<(a.length:Int))then
 if 0<=e/\e<a.length then
 bif (a.getD e.toNat ATy.zero)==b then
 some (.inr (.inl ()))
 else
 some (.inl (wI (e+1)))
 else none
 else
 some (.inr (.inr ()))
def PO a b (z_:Int):=Uq a b z_
def WR a b e:=fix (PO a b) e
theorem ADe a b:A8 E57 0 2 (code f135) 26 (AAV a b) (PO a b) (AyO a b):=by
 intro _;simp only[PO,Uq,ASm];kernel_rfl
def VL(a:ASC)(b:Int):ATP Bool:=
 (WR a b 0).bind (Sum.elim (λc=>some true) (λd=>some false))
def AEN:=Ck [.d ATD,.d ATy] [⟨[.AB [] ATD,.AB [] ATy],[],Bool,λp=>VL p.1.1 p.1.2.1,λr=>(dB r,[])⟩]
theorem Agk:An prog 135 AEN:=Av (fn:=f135) ⟨⟨E57,pk trivial,λ_ R K=>by
 simp(disch:=refine id ?_;kernel_rfl) only[VL,ASn,WR,AJ (ADe _ _) (K:=A2 E57 f135 0 R K)];kernel_rfl⟩,trivial⟩
abbrev E58:=eN [(135,AEN)] {Ba:=[(3,{Be:=[0,3,4],Cj:=[(3,false,.row [] 2 ATy true)]}),(8,[0,3,4,5])],BN:=[(3,[3]),(8,[0,3,4,5])],BM:=[(4,{Be:=[0,3,4],Cj:=[(3,false,.row [] 2 ATy true)]}),(9,[0,3,4,5])],Du:=[(4,[0,3,4]),(9,[0,3,4,5])]}
def AAZ a (z_:Int×ASC):=sT 60 (Ang a z_.1) [AA z_.2]
def AyS(a:ASC):=λ(b:ASC)=>xE 0 60 mr [AA b]
def AAY a c d:=sT 60 (Ang a c) [AA d]
def AyR a c (d:ASC):=λ(e:ASC)=>xN 60 (Ang a c) [AA e]
def AAX a c (z_:Int×ASC):=sT 60 (xS a c z_.1) [AA z_.2]
def AyQ a c:=λ(g:ASZ)=>xE 2 60 (xS a c g.1) [AA g.2]
def AAW a c i j:=sT 60 (xS a c i) [AA j]
def AyP a c i j:=Sum.elim (λ(k:Unit)=>xN 60 (xS a c i) [AA j]) (λ(l:Unit)=>xE 2 60 (xS a c i) [AA j])
def On(a:ASC)(c i:Int)(j:ASC):ATP (Unit⊕Unit):=
 bif decide (i>0)then
 if 0<=(wI (i-1))/\(wI (i-1))<j.length then
 if 0<=c/\c<a.length then
 bif decide ((j.getD (wI (i-1)).toNat ATy.zero)>(a.getD c.toNat ATy.zero))then
 some (.inl ())
 else
 some (.inr ())
 else none
 else none
 else
 some (.inr ())
theorem ADf a c i j:AX E58 0 9 (sb (sb (cd f95 116) 6) 184) 2 (AAW a c i j) (On a c i j) (AyP a c i j):=by
 unfold AX;simp only[On,ASm];kernel_rfl
def Ql(a:ASC)(c i:Int)(j:ASC):ATP (ASZ⊕ASZ):=
 (On a c i j).bind (Sum.elim (λk=>if 0<=(wI (i-1))/\(wI (i-1))<j.length then
 if 0<=i/\i<j.length then
 some (.inl (wI (i-1),j.set i.toNat (j.getD (wI (i-1)).toNat ATy.zero)))
 else none
 else none) (λl=>some (.inr (i,j))))
def K1 a c (z_:Int×ASC):=Ql a c z_.1 z_.2
def Xx a c i j:=fix (K1 a c) (i,j)
theorem ADg a c:A8 E58 0 8 (sb (cd f95 116) 6) 92 (AAX a c) (K1 a c) (AyQ a c):=by
 intro _;simp(disch:=refine id ?_;kernel_rfl) only[K1,Ql,ASm,Bf (ADf ..) (K:=Ka E58 0 8)];kernel_rfl
def Oo(a:ASC)(c:Int)(d:ASC):ATP ASC:=
 if 0<=c/\c<a.length then
 (VL d (a.getD c.toNat ATy.zero)).bind λn=>bif n then
 some d
 else
 if 0<=c/\c<a.length then
 if(d.length+([a.getD c.toNat ATy.zero]:ASC).length)*8<=140737488355328 then
 (Xx a c (d.length:Int) (d++([a.getD c.toNat ATy.zero]:ASC))).bind λg=>if 0<=c/\c<a.length then
 if(0:Int)<=g.1/\g.1<(g.2.length:Int)then
 some (g.2.set g.1.toNat (a.getD c.toNat ATy.zero))
 else none
 else none
 else none
 else none
 else none
theorem ADh a c d:AX E58 0 4 (cd f95 116) 6 (AAY a c d) (Oo a c d) (AyR a c d):=by
 unfold AX;simp(disch:=refine id ?_;kernel_rfl) only[Oo,ASm,Xx,AJ (ADg _ _) (K:=Ui E58 0 4)];kernel_rfl
def Qm(a:ASC)(c:Int)(d:ASC):ATP (ASZ⊕ASC):=
 bif decide (c<(a.length:Int))then
 (Oo a c d).bind λe=>some (.inl (wI (c+1),e))
 else
 some (.inr d)
def K2 a (z_:Int×ASC):=Qm a z_.1 z_.2
def Xy a c d:=fix (K2 a) (c,d)
theorem ADi a:A8 E58 0 3 (code f95) 58 (AAZ a) (K2 a) (AyS a):=by
 intro _;simp(disch:=refine id ?_;kernel_rfl) only[K2,Qm,ASm,Bf (ADh ..) (K:=Ka E58 0 3)];kernel_rfl
def Ti(a:ASC):ATP ASC:=
 (Xy a 0 ([]:ASC)).bind λb=>some b
def c95:=Ck [.d ATD] [⟨[.AB [] ATD],[],ASC,λp=>Ti p.1.1,λr=>(.AK 0,[AA r])⟩]
theorem AlW:An prog 95 c95:=Av (fn:=f95) ⟨⟨E58,pk ⟨Agk,trivial⟩,λ_ R K=>by
 simp(disch:=refine id ?_;kernel_rfl) only[Ti,ASn,Xy,AJ (ADi _) (K:=A2 E58 f95 0 R K)];kernel_rfl⟩,trivial⟩
abbrev E59:=eN [] {Ba:=[(3,[0,6,7,8])],BN:=[(3,{Be:=[]})],BM:=[(4,[0,6,7,8])],Du:=[(4,[0,6,7,8])]}
def AA1 a b (z_:Int×ASC):=sT 43 (Aj2 a b z_.1) [AA z_.2]
def AyU(a b:Int):=λ(c:ASC)=>xE 0 43 [] [AA c]
def AA0 a b d e:=sT 43 (Aj2 a b d) [AA e]
def AyT a b d (e:ASC):=λ(g:ASC)=>xN 43 (Aj2 a b d) [AA g]
def P2(a b d:Int)(e:ASC):ATP ASC:=
 if 0<=d/\d<e.length then
 bif (e.getD d.toNat ATy.zero)==b then
 if 0<=d/\d<e.length then
 some (e.set d.toNat a)
 else none
 else
 some e
 else none
theorem ADj a b d e:AX E59 1 4 (cd f96 60) 6 (AA0 a b d e) (P2 a b d e) (AyT a b d e):=by
 unfold AX;simp only[P2,ASm];kernel_rfl
def MJ(a b d:Int)(e:ASC):ATP (ASZ⊕ASC):=
 bif decide (d<(e.length:Int))then
 (P2 a b d e).bind λg=>some (.inl (wI (d+1),g))
 else
 some (.inr e)
def Gf a b (z_:Int×ASC):=MJ a b z_.1 z_.2
def Uy a b d e:=fix (Gf a b) (d,e)
theorem ADk a b:A8 E59 1 3 (code f96) 30 (AA1 a b) (Gf a b) (AyU a b):=by
 intro _;simp(disch:=refine id ?_;kernel_rfl) only[Gf,MJ,ASm,Bf (ADj ..) (K:=Ka E59 1 3)];kernel_rfl
def K0(i j:Int)(k:ASC):ATP ASC:=
 if 0<=i/\i<k.length then
 if 0<=j/\j<k.length then
 if 0<=i/\i<k.length then
 if 0<=j/\j<k.length then
 (Uy (if(k.getD j.toNat ATy.zero)<(k.getD i.toNat ATy.zero)then(k.getD j.toNat ATy.zero)else(k.getD i.toNat ATy.zero)) (if(k.getD j.toNat ATy.zero)>(k.getD i.toNat ATy.zero)then(k.getD j.toNat ATy.zero)else(k.getD i.toNat ATy.zero)) 0 k).bind λc=>some c
 else none
 else none
 else none
 else none
def c96:=Ck [.VE,.d ATy,.d ATy] [⟨[.k H7,.AB [] ATy,.AB [] ATy],[.row 2 .Aw ATy],ASC,λp=>K0 p.1.2.1 p.1.2.2.1 p.2.1,λr=>(.nil,[AA r])⟩]
theorem Abl:An prog 96 c96:=Av (fn:=f96) ⟨⟨E59,pk trivial,λ_ R K=>by
 simp(disch:=refine id ?_;kernel_rfl) only[K0,ASn,Uy,AJ (ADk _ _) (K:=A2 E59 f96 1 R K)];kernel_rfl⟩,trivial⟩
abbrev E60:=eN [] {Aw:=false,W8:=[(3,[0]),(4,[0])],Yl:=[(3,[0,3]),(4,[0])],WX:=[.mv 0 [0],.Bg 1,.mv 0 [2],.Bg 3]}
def Anw(a:Int) b c d:=sT 41 [(0,.ptr 0 a [] 0)] [.box (.pr UH qj),.Bg,Db b,AA c,Gg d]
def Ae4(a:Int) b (c:ASC) d:=λ(e:Unit)=>sT 41 [(0,.ptr 0 a [] 0)] [.box (.pr UH (.pr V5 aQ)),.Bg,Db b,.Bg,Gg d,AA (c++([(c.length:Int)]:ASC))]
def K5(a:Int)(b:ASH)(c:ASC)(d:ASL):ATP Unit:=
 if(c.length+([(c.length:Int)]:ASC).length)*8<=140737488355328 then
 some ()
 else none
noncomputable def AnQ(a:Int)(b:ASH)(c:ASC)(d:ASL):ATP Unit:=if(c.length+([(c.length:Int)]:ASC).length)*8<=140737488355328 then DY (Ae4 a b c d ())else none
def Aa0(w:ATP Unit):ATP Unit:=cc (cc w (cc w (cc w (cc w w)))) (cc (cc w (cc w (cc w w))) (cc (cc w (cc w w)) (cc (cc w w) w)))
theorem ADm(a:Int)(b:ASH)(c:ASC)(d:ASL):MQ E60 4 4 (code f93) 30 (Anw a b c d) (K5 a b c d) (Ae4 a b c d):=by
 unfold MQ;have h:re E60 4 4 (code f93) (pt 30) (Anw a b c d) =
 if(c.length+([(c.length:Int)]:ASC).length)*8<=140737488355328 then((Aa0 (AnQ a b c d)).bind λ_=>some (Ae4 a b c d ()))else none:=by kernel_rfl
 rw[h];unfold K5;simp only[ASm,mS,mO];clear h;by_cases GM:(c.length+([(c.length:Int)]:ASC).length)*8<=140737488355328
 ·rw[AQr GM,AQr GM];simp only[Aa0,cc,AnQ,AQp,AQr GM,AQV,AP9,DY,DD]
 ·simp only[AQV,AQs GM]
def Anv(a:Int) g b c i:=sT 41 [(0,.ptr 0 a [] 0),(3,Ns)] [.box Akt,Gg g,Db b,AA c,.box (dD A9 i)]
def Ae3(a:Int)(g:ASL) b c (i:ASo):=λ(j:Unit)=>sT 41 [(0,.ptr 0 a [] 0)] [.box (.pr UH qj),.Bg,Db b,AA c,Gg (g++([i.2.1]:ASL))]
def K4(a:Int)(g:ASL)(b:ASH)(c:ASC)(i:ASo):ATP Unit:=
 if(g.length+([i.2.1]:ASL).length)*32<=140737488355328 then
 some ()
 else none
noncomputable def ju(a:Int)(g:ASL)(b:ASH)(c:ASC)(i:ASo):ATP Unit:=if(g.length+([i.2.1]:ASL).length)*32<=140737488355328 then DY (Ae3 a g b c i ())else none
theorem ADl(a:Int)(g:ASL)(b:ASH)(c:ASC)(i:ASo):MQ E60 4 3 (code f93) 14 (Anv a g b c i) (K4 a g b c i) (Ae3 a g b c i):=by
 unfold MQ;have h:re E60 4 3 (code f93) (pt 14) (Anv a g b c i) =
 if(g.length+([i.2.1]:ASL).length)*32<=140737488355328 then((((ju a g b c i).bind λ_=>(ju a g b c i).bind λ_=>ju a g b c i).bind λ_=>((ju a g b c i).bind λ_=>ju a g b c i).bind λ_=>ju a g b c i).bind λ_=>some (Ae3 a g b c i ()))else none:=by kernel_rfl
 rw[h];unfold K4;simp only[ASm,mS,mO];clear h;by_cases GM:(g.length+([i.2.1]:ASL).length)*32<=140737488355328
 ·rw[AQr GM,AQr GM];simp only[ju,AQp,AQr GM,AQV,AP9,DY,DD]
 ·simp only[AQV,AQs GM]
def Io(a:Int)(i:ASo)(g:ASL)(b:ASH)(c:ASC):ATP (Int×ASH×ASL×ASC):=
 bif decide (i.1>=0)then
 some (i.1,b,g,c)
 else
 (K4 a g b c i).bind λj=>(K5 a b c (g++([i.2.1]:ASL))).bind λe=>some (wI (((c++([(c.length:Int)]:ASC)).length:Int)-1),b,g++([i.2.1]:ASL),c++([(c.length:Int)]:ASC))
def c93:=Ck [.VE,.d A9] [⟨[.ptr 0 [] 0,.AB [] A9],[.box (.pr (.k I2) (.pr (.k V5) (.pr (.k (.AK 3)) (.k .u)))),.row 57 (.sh []) Ai,.row 164 .Aw Ae,.row 2 .Aw ATy],Int×ASH×ASL×ASC,λp=>Io p.1.1 p.1.2.1 p.2.2.1 p.2.2.2.1 p.2.2.2.2.1,λr=>(dI r.1,[.box (.pr UH (.pr V5 aQ)),.Bg,Db r.2.1,.Bg,Gg r.2.2.1,AA r.2.2.2])⟩]
theorem AlU:An prog 93 c93:=Av (fn:=f93) ⟨⟨E60,pk trivial,λ_ R K=>by
 simp(disch:=refine id ?_;kernel_rfl) only[Io,ASn,Tv (ADl ..) (K:=A2 E60 f93 4 R K),Tv (ADm ..) (K:=A2 E60 f93 4 R K)];kernel_rfl⟩,trivial⟩
abbrev E61:=eN [] {Ba:=[(2,[0,1,5])],BN:=[(2,[4])],BM:=[(5,[0,1,5,40])],Du:=[(5,[0,1,5])]}
def AA3(a:Int) b c d e (z_:Int):=sT 42 [(0,.ptr 0 a [] 0),(1,dI b),(5,dI z_)] (xT c d e)
def AyW(a b:Int) c d e:=Sum.elim (λ(g:Int)=>xR 42 [(4,dI g)] (xT c d e)) (λ(i:Unit)=>xE 0 42 [] (xT c d e))
def AA2(a:Int) b j c d e:=sT 42 [(0,.ptr 0 a [] 0),(1,dI b),(5,dI j)] (xT c d e)
def AyV(a:Int) b j c d e:=λ(k:Bool)=>xN 42 [(0,.ptr 0 a [] 0),(1,dI b),(5,dI j),(40,dB k)] (xT c d e)
def Jx(a b j:Int)(c:ASL)(d:ASH)(e:ASC):ATP Bool:=
 if 0<=j/\j<e.length then
 if 0<=b/\b<e.length then
 bif (e.getD j.toNat ATy.zero)==(e.getD b.toNat ATy.zero)then
 if 0<=j/\j<c.length then
 some (decide ((c.getD j.toNat Ai.zero).1>0))
 else none
 else
 some false
 else none
 else none
theorem ADn a b j c d e:AX E61 4 5 (cd f45 52) 24 (AA2 a b j c d e) (Jx a b j c d e) (AyV a b j c d e):=by
 unfold AX;simp only[Jx,ASm];kernel_rfl
def LQ(a b:Int)(c:ASL)(d:ASH)(e:ASC)(j:Int):ATP (Int⊕(Int⊕Unit)):=
 bif decide (j<(e.length:Int))then
 (Jx a b j c d e).bind λk=>bif k then
 some (.inr (.inl j))
 else
 some (.inl (wI (j+1)))
 else
 some (.inr (.inr ()))
def HY a b c d e (z_:Int):=LQ a b c d e z_
def UG a b c d e j:=fix (HY a b c d e) j
theorem ADo a b c d e:A8 E61 4 2 (code f45) 26 (AA3 a b c d e) (HY a b c d e) (AyW a b c d e):=by
 intro _;simp(disch:=refine id ?_;kernel_rfl) only[HY,LQ,ASm,Bf (ADn ..) (K:=Ka E61 4 2)];kernel_rfl
def Hf(a b:Int)(c:ASL)(d:ASH)(e:ASC):ATP ATg:=
 (UG a b c d e 0).bind (Sum.elim (λg=>some (g,c,d,e)) (λi=>some (-1,c,d,e)))
def c45:=Ck [.VE,.d ATy] [⟨[.ptr 0 [] 0,.AB [] ATy],[.box (.pr (.k I2) (.pr (.k V5) (.pr (.k (.AK 3)) (.k .u)))),.row 57 (.sh []) Ai,.row 164 .Aw Ae,.row 2 .Aw ATy],ATg,λp=>Hf p.1.1 p.1.2.1 p.2.2.1 p.2.2.2.1 p.2.2.2.2.1,λr=>(dI r.1,[.box Akt,Gg r.2.1,Db r.2.2.1,AA r.2.2.2])⟩]
theorem Abf:An prog 45 c45:=Av (fn:=f45) ⟨⟨E61,pk trivial,λ_ R K=>by
 simp(disch:=refine id ?_;kernel_rfl) only[Hf,ASn,UG,AJ (ADo _ _ _ _ _) (K:=A2 E61 f45 4 R K)];kernel_rfl⟩,trivial⟩
abbrev E62:=eN [(45,c45),(78,c78),(93,c93),(94,c94),(95,c95),(96,c96)] {BM:=[(9,[0,8,9,10,11,80])],Du:=[(9,[0,8,9,10,11])],WX:=[.mv 0 [1],.Bg 2],iq:=[(0,.row [] 2 ATy true)]}
def AA4(a:Int) b c d e g i j:=sT 107 [(0,.ptr 0 a [] 0),(8,dI b),(9,dI c),(10,dI d),(11,dI e)] [.box yb,.Bg,.Bg,.Bg,Gg g,Db i,AA j]
def AyX(a:Int) b c d e g i j:=λ(k:Bool)=>xN 107 [(0,.ptr 0 a [] 0),(8,dI b),(9,dI c),(10,dI d),(11,dI e),(80,dB k)] [.box yb,.Bg,.Bg,.Bg,Gg g,Db i,AA j]
def K3(a b c d e:Int)(g:ASL)(i:ASH)(j:ASC):ATP Bool:=
 bif decide (d>=0)then
 bif decide (e>=0)then
 if 0<=d/\d<g.length then
 if 0<=e/\e<g.length then
 (Im (g.getD d.toNat Ai.zero) (g.getD e.toNat Ai.zero)).bind λl=>some (!l)
 else none
 else none
 else
 some false
 else
 some false
theorem ADp a b c d e g i j:AX E62 4 9 (code f44) 1020 (AA4 a b c d e g i j) (K3 a b c d e g i j) (AyX a b c d e g i j):=by
 unfold AX;simp only[K3,ASm];kernel_rfl
def Ll(a:Int)(n:ASA)(o:Int)(q:ASL)(s:ASH)(t:ASC):ATP (Bool×ASC×ASL×ASH×ASC):=
 (Io a n.1 q s t).bind λu=>(Io a n.2.1 u.2.2.1 u.2.1 u.2.2.2).bind λv=>if(0:Int)<=u.1/\u.1<(v.2.2.2.length:Int)then
 if(0:Int)<=v.1/\v.1<(v.2.2.2.length:Int)then
 bif (v.2.2.2.getD u.1.toNat ATy.zero)==(v.2.2.2.getD v.1.toNat ATy.zero)then
 some (true,([]:ASC),v.2.2.1,v.2.1,v.2.2.2)
 else
 (Hf a u.1 v.2.2.1 v.2.1 v.2.2.2).bind λw=>(Hf a v.1 w.2.1 w.2.2.1 w.2.2.2).bind λx=>if(x.2.2.1.length+([(u.1,v.1,o,())]:ASH).length)*24<=140737488355328 then
 (K3 a u.1 v.1 w.1 x.1 x.2.1 (x.2.2.1++([(u.1,v.1,o,())]:ASH)) x.2.2.2).bind λk=>bif k then
 if Ty.row .bool=true/\(0:Int)<=((x.2.2.1++([(u.1,v.1,o,())]:ASH)).length:Int)/\((x.2.2.1++([(u.1,v.1,o,())]:ASH)).length:Int)<=((x.2.2.1++([(u.1,v.1,o,())]:ASH)).length:Int)/\((1:Nat):Int)*((x.2.2.1++([(u.1,v.1,o,())]:ASH)).length:Int)<=(281474976710656:Int)/\((x.2.2.1++([(u.1,v.1,o,())]:ASH)).length:Int)<=(9223372036854775807:Int)then
 (bR (x.2.2.1++([(u.1,v.1,o,())]:ASH)) w.1 x.1 (List.replicate ((x.2.2.1++([(u.1,v.1,o,())]:ASH)).length:Int).toNat false)).bind λy=>(Ti y.2.2).bind λa1=>some (false,a1,x.2.1,x.2.2.1++([(u.1,v.1,o,())]:ASH),x.2.2.2)
 else none
 else
 (K0 u.1 v.1 x.2.2.2).bind λb1=>some (true,([]:ASC),x.2.1,x.2.2.1++([(u.1,v.1,o,())]:ASH),b1)
 else none
 else none
 else none
def c44:=Ck [.VE,.d As,.d ATy] [⟨[.ptr 0 [] 0,.AB [] As,.AB [] ATy],[.box (.pr (.k I2) (.pr (.k V5) (.pr (.k (.AK 3)) (.k .u)))),.row 57 (.sh []) Ai,.row 164 .Aw Ae,.row 2 .Aw ATy],Bool×ASC×ASL×ASH×ASC,λp=>Ll p.1.1 p.1.2.1 p.1.2.2.1 p.2.2.1 p.2.2.2.1 p.2.2.2.2.1,λr=>(.cons UH (.cons (dB r.1) .nil),[.box AcF,.Bg,.Bg,.Bg,AA r.2.1,Gg r.2.2.1,Db r.2.2.2.1,AA r.2.2.2.2])⟩]
theorem Alq:An prog 44 c44:=Av (fn:=f44) ⟨⟨E62,pk ⟨Abf,AlL,AlU,AlV,AlW,Abl,trivial⟩,λ_ R K=>by
 simp(disch:=refine id ?_;kernel_rfl) only[Ll,ASn,Bf (ADp ..) (K:=A2 E62 f44 4 R K)];kernel_rfl⟩,trivial⟩
abbrev E63:=eN [] {}
def P4(a:ASv):ATP ASZ:=
 if a.2.1.length*8<=140737488355328 then
 some (a.1,a.2.1)
 else none
def c46:=Ck [.d Ai] [⟨[.AB [] Ai],[],ASZ,λp=>P4 p.1.1,λr=>(.pr (dI r.1) Pj,[Bj r.2])⟩]
theorem Alr:An prog 46 c46:=Av (fn:=f46) ⟨⟨E63,pk trivial,λ_ R K=>by
 simp only[P4,ASn];kernel_rfl⟩,trivial⟩
abbrev tQ:=eN [(40,c40),(41,c41),(42,c42),(43,c43),(44,c44),(45,c45),(46,c46)] {Ba:=[(8,{Be:=[0,1,6,8,10,11,12,13],Cj:=[(12,true,.row [1] 164 Ae true)]}),(13,{Be:=[0,1,6,8,10,11,12,13,14,16],RU:=[(14,false,.sl As)],Cj:=[(12,true,.row [1] 164 Ae true)]}),(20,{Be:=[6,10,11,12,19],Cj:=[(10,true,.row [1] 102 Ao true)]}),(25,{Be:=[6,10,11,12,19,20,21],Cj:=[(20,true,.row [0] 2 ATy true)]})],BN:=[(8,[6,7,10,11,12]),(13,[0,1,6,7,8,10,11,12,13]),(20,[6,10]),(25,[6,10,11,12,19,20])],BM:=[(9,{Be:=[0,1,6,7,8,10,11,12,13],Cj:=[(12,true,.row [1] 164 Ae true)]}),(21,{Be:=[6,10,11,12,19],Cj:=[(10,true,.row [1] 102 Ao true)]}),(26,{Be:=[6,10,11,12,19,20,21],Cj:=[(20,true,.row [0] 2 ATy true)]}),(33,{Be:=[6,10,11,12,19,20],Cj:=[(20,true,.row [2,1] 199 ATz true)]})],Du:=[(9,[0,1,6,8,10,11,12,13]),(21,[6,10,11,12,19]),(26,[6,10,11,12,19,20,21]),(33,[6,10,11,12,19,20,22])],RU:=[(0,OT),(1,.bool)]}
def AsW a (b:Int) c (z_:Int×ASN×ASL×ASH×ASC):=sT 146 (Aj3 a b z_.1) (Aj4 c z_.2.1 z_.2.2.1 z_.2.2.2.1 z_.2.2.2.2)
def Aq7(a b:Int) c:=λ(d:ASN)=>xE 4 146 [(6,Aq),(10,AZ)] [.box iA,.box (.pr (BP c) (.pr V5 V4)),Fl d]
def AsV a (b:Int) e c g i j k:=sT 146 (Aj3 a b e) (Aj4 c g i j k)
def Aq6 a (b:Int) e c (g:ASN) (i:ASL) (j:ASH) (k:ASC):=λ(l:(ASN×ASL×ASH×ASC))=>xN 146 (Aj3 a b e) (Aj4 c l.1 l.2.1 l.2.2.1 l.2.2.2)
def AsU a (b:Int) e c g n o q s t:=sT 146 [(6,Aq),(10,AZ),(11,dI a),(12,.ptr 2 b [] 0),(19,dI e),(20,J8),(22,dI o)] (xU c g q s t n)
def Aq5 a (b:Int) e c g n (o:Int) q s t:=λ(u:(Bool×Int×ASC))=>xN 146 [(6,Aq),(10,AZ),(11,dI a),(12,.ptr 2 b [] 0),(19,dI e),(20,J8)] [.box iA,.box (.pr (BP c) (.pr UH V4)),.box AcF,.box (.pr (.AK 8) (.pr (dB u.1) (.pr (.pr (dI u.2.1) yd) .u))),Fl g,Gg q,Db s,AA t,AA n,Bj u.2.2]
def Hy(a b e:Int)(c:ASx)(g:ASN)(n:ASC)(o:Int)(q:ASL)(s:ASH)(t:ASC):ATP (Bool×Int×ASC):=
 bif decide (o>=0)then
 if 0<=o/\o<q.length then
 (P4 (q.getD o.toNat Ai.zero)).bind λv=>some (true,v.1,v.2)
 else none
 else
 some (false,0,([]:ASC))
theorem Au8 a b e c g n o q s t:AX tQ 0 33 (sb (cd f9 4084) 6) 94 (AsU a b e c g n o q s t) (Hy a b e c g n o q s t) (Aq5 a b e c g n o q s t):=by
 unfold AX;simp only[Hy,ASm];kernel_rfl
def AsT a (b:Int) e c g i j k (z_:Int×ASC):=sT 146 (Aj5 a b e z_.1) (xU c g i j k z_.2)
def Aq4 a (b:Int) e c g i j k:=λ(n:ASC)=>xE 6 146 [(6,Aq),(10,AZ),(11,dI a),(12,.ptr 2 b [] 0),(19,dI e),(20,J8)] (xU c g i j k n)
def AsS a (b:Int) e w c g i j k x:=sT 146 (Aj5 a b e w) (xU c g i j k x)
def Aq3 a (b:Int) e w c g i j k (x:ASC):=λ(y:ASC)=>xN 146 (Aj5 a b e w) (xU c g i j k y)
def KL(a b e w:Int)(c:ASx)(g:ASN)(i:ASL)(j:ASH)(k x:ASC):ATP ASC:=
 if 0<=w/\w<k.length then
 bif (k.getD w.toNat ATy.zero)==e then
 if(x.length+([w]:ASC).length)*8<=140737488355328 then
 some (x++([w]:ASC))
 else none
 else
 some x
 else none
theorem Au6 a b e w c g i j k x:AX tQ 0 26 (sb (sb (cd f9 4084) 6) 180) 6 (AsS a b e w c g i j k x) (KL a b e w c g i j k x) (Aq3 a b e w c g i j k x):=by
 unfold AX;simp only[KL,ASm];kernel_rfl
def Nl(a b e:Int)(c:ASx)(g:ASN)(i:ASL)(j:ASH)(k:ASC)(w:Int)(x:ASC):ATP (ASZ⊕ASC):=
 bif decide (w<a)then
 (KL a b e w c g i j k x).bind λy=>some (.inl (wI (w+1),y))
 else
 some (.inr x)
def IQ a b e c g i j k (z_:Int×ASC):=Nl a b e c g i j k z_.1 z_.2
def KM a b e c g i j k w x:=fix (IQ a b e c g i j k) (w,x)
theorem Au7 a b e c g i j k:A8 tQ 0 25 (sb (cd f9 4084) 6) 90 (AsT a b e c g i j k) (IQ a b e c g i j k) (Aq4 a b e c g i j k):=by
 intro _;simp(disch:=refine id ?_;kernel_rfl) only[IQ,Nl,ASm,Bf (Au6 ..) (K:=Ka tQ 0 25)];kernel_rfl
def KN(a b e:Int)(c:ASx)(g:ASN)(i:ASL)(j:ASH)(k:ASC):ATP (ASN×ASL×ASH×ASC):=
 if 0<=e/\e<k.length then
 bif decide ((k.getD e.toNat ATy.zero)<e)then
 some (g,i,j,k)
 else
 (KM a b e c g i j k e ([]:ASC)).bind λn=>(Hf b e i j k).bind λa1=>(Hy a b e c g n a1.1 a1.2.1 a1.2.2.1 a1.2.2.2).bind λu=>if(g.length+([(n,u.1,(u.2.1,u.2.2,()),())]:ASN).length)*64<=140737488355328 then
 some (g++([(n,u.1,(u.2.1,u.2.2,()),())]:ASN),a1.2.1,a1.2.2.1,a1.2.2.2)
 else none
 else none
theorem Au9 a b e c g i j k:AX tQ 0 21 (cd f9 4084) 6 (AsV a b e c g i j k) (KN a b e c g i j k) (Aq6 a b e c g i j k):=by
 unfold AX;simp(disch:=refine id ?_;kernel_rfl) only[KN,ASm,KM,AJ (Au7 _ _ _ _ _ _ _ _) (K:=Ui tQ 0 21),Bf (Au8 ..) (K:=Ui tQ 0 21)];kernel_rfl
def Nm(a b:Int)(c:ASx)(e:Int)(g:ASN)(i:ASL)(j:ASH)(k:ASC):ATP ((Int×ASN×ASL×ASH×ASC)⊕ASN):=
 bif decide (e<a)then
 (KN a b e c g i j k).bind λl=>some (.inl (wI (e+1),l.1,l.2.1,l.2.2.1,l.2.2.2))
 else
 some (.inr g)
def IR a b c (z_:Int×ASN×ASL×ASH×ASC):=Nm a b c z_.1 z_.2.1 z_.2.2.1 z_.2.2.2.1 z_.2.2.2.2
def KO a b c e g i j k:=fix (IR a b c) (e,g,i,j,k)
theorem Ava a b c:A8 tQ 0 20 (code f9) 2042 (AsW a b c) (IR a b c) (Aq7 a b c):=by
 intro _;simp(disch:=refine id ?_;kernel_rfl) only[IR,Nm,ASm,Bf (Au9 ..) (K:=Ka tQ 0 20)];kernel_rfl
def AA7 b1 c1 d1 (e1:Int) g1 i1 (z_:Int×ASL×ASH×ASC):=sT 146 (Acy b1 c1 d1 e1 z_.1) (xV g1 i1 z_.2.1 z_.2.2.1 z_.2.2.2)
def Ay0(b1:ASG)(c1:ASK) d1 (e1:Int) (g1:ASx) i1:=Sum.elim (λ(j1:ATa)=>xR 146 [(6,Aq),(7,dB true),(10,AZ),(11,dI d1),(12,.ptr 2 e1 [] 0)] [.box (.pr (BP i1) (.pr .zs nZ)),.box (.pr (BP i1) (.pr .zs nZ)),.box yb,AA j1.1,Gg j1.2.1,Db j1.2.2.1,AA j1.2.2.2]) (λ(k1:ATf)=>xE 0 146 [(6,Aq),(10,AZ),(11,dI d1),(12,.ptr 2 e1 [] 0)] [.box iA,.box (.pr (BP i1) ya),.box (.pr (.AK 3) (.pr UH aQ)),Gg k1.1,Db k1.2.1,AA k1.2.2])
def AA6 b1 c1 d1 (e1:Int) l1 g1 i1 n1 o1 q1:=sT 146 (Acy b1 c1 d1 e1 l1) (xV g1 i1 n1 o1 q1)
def AyZ b1 c1 d1 (e1:Int) l1 g1 i1 (n1:ASL) (o1:ASH) (q1:ASC):=Sum.elim (λ(s1:ATf)=>xN 146 (Acy b1 c1 d1 e1 l1) (xV g1 i1 s1.1 s1.2.1 s1.2.2)) (λ(t1:ATa)=>xR 146 (AoC b1 c1 d1 e1 l1) (AoD i1 g1 i1 t1.1 t1.2.1 t1.2.2.1 t1.2.2.2))
def AA5 b1 c1 d1 (e1:Int) l1 g1 i1 u1 (z_:Int×ASL×ASH×ASC):=sT 146 [(0,Ar b1),(1,Bl c1),(6,Aq),(8,AZ),(10,Dr),(11,dI d1),(12,.ptr 3 e1 [] 0),(13,dI l1),(14,tA u1),(16,dI z_.1)] (xV g1 i1 z_.2.1 z_.2.2.1 z_.2.2.2)
def AyY b1 c1 d1 (e1:Int) l1 g1 i1 (u1:ASO):=Sum.elim (λ(v1:ATa)=>xR 146 (AoC b1 c1 d1 e1 l1) (AoD i1 g1 i1 v1.1 v1.2.1 v1.2.2.1 v1.2.2.2)) (λ(w1:ATf)=>xE 2 146 (Acy b1 c1 d1 e1 l1) (xV g1 i1 w1.1 w1.2.1 w1.2.2))
def Gu(b1:ASG)(c1:ASK)(d1 e1 l1:Int)(g1 i1:ASx)(u1:ASO)(x1:Int)(y1:ASL)(a2:ASH)(b2:ASC):ATP (ATg⊕(ATa⊕ATf)):=
 bif decide (x1<(u1.length:Int))then
 if 0<=x1/\x1<u1.length then
 if 0<=l1/\l1<c1.length then
 (Ll e1 (u1.getD x1.toNat As.zero) (c1.getD l1.toNat Ah.zero).1 y1 a2 b2).bind λc2=>bif !c2.1 then
 some (.inr (.inl (c2.2.1,c2.2.2.1,c2.2.2.2.1,c2.2.2.2.2)))
 else
 some (.inl (wI (x1+1),c2.2.2.1,c2.2.2.2.1,c2.2.2.2.2))
 else none
 else none
 else
 some (.inr (.inr (y1,a2,b2)))
def Eo b1 c1 d1 e1 l1 g1 i1 u1 (z_:Int×ASL×ASH×ASC):=Gu b1 c1 d1 e1 l1 g1 i1 u1 z_.1 z_.2.1 z_.2.2.1 z_.2.2.2
def FR b1 c1 d1 e1 l1 g1 i1 u1 x1 y1 a2 b2:=fix (Eo b1 c1 d1 e1 l1 g1 i1 u1) (x1,y1,a2,b2)
theorem ADq b1 c1 d1 e1 l1 g1 i1 u1:A8 tQ 0 13 (sb (cd f9 2036) 6) 46 (AA5 b1 c1 d1 e1 l1 g1 i1 u1) (Eo b1 c1 d1 e1 l1 g1 i1 u1) (AyY b1 c1 d1 e1 l1 g1 i1 u1):=by
 intro _;simp only[Eo,Gu,ASm];kernel_rfl
def FT(b1:ASG)(c1:ASK)(d1 e1 l1:Int)(g1 i1:ASx)(n1:ASL)(o1:ASH)(q1:ASC):ATP (ATf⊕ATa):=
 if 0<=l1/\l1<c1.length then
 bif !(c1.getD l1.toNat Ah.zero).2.1 then
 some (.inl (n1,o1,q1))
 else
 if 0<=l1/\l1<c1.length then
 (Ph b1 (c1.getD l1.toNat Ah.zero) g1).bind λd2=>(FR b1 c1 d1 e1 l1 g1 i1 d2.2 0 n1 o1 q1).bind (Sum.elim (λv1=>some (.inr (v1.1,v1.2.1,v1.2.2.1,v1.2.2.2))) (λw1=>some (.inl (w1.1,w1.2.1,w1.2.2))))
 else none
 else none
theorem ADr b1 c1 d1 e1 l1 g1 i1 n1 o1 q1:AX tQ 0 9 (cd f9 2036) 6 (AA6 b1 c1 d1 e1 l1 g1 i1 n1 o1 q1) (FT b1 c1 d1 e1 l1 g1 i1 n1 o1 q1) (AyZ b1 c1 d1 e1 l1 g1 i1 n1 o1 q1):=by
 unfold AX;simp(disch:=refine id ?_;kernel_rfl) only[FT,ASm,FR,AJ (ADq _ _ _ _ _ _ _ _) (K:=Ui tQ 0 9)];kernel_rfl
def Ep(b1:ASG)(c1:ASK)(d1 e1:Int)(g1 i1:ASx)(l1:Int)(n1:ASL)(o1:ASH)(q1:ASC):ATP (ATg⊕(ATa⊕ATf)):=
 bif decide (l1<(c1.length:Int))then
 (FT b1 c1 d1 e1 l1 g1 i1 n1 o1 q1).bind (Sum.elim (λs1=>some (.inl (wI (l1+1),s1.1,s1.2.1,s1.2.2))) (λt1=>some (.inr (.inl (t1.1,t1.2.1,t1.2.2.1,t1.2.2.2)))))
 else
 some (.inr (.inr (n1,o1,q1)))
def Dh b1 c1 d1 e1 g1 i1 (z_:Int×ASL×ASH×ASC):=Ep b1 c1 d1 e1 g1 i1 z_.1 z_.2.1 z_.2.2.1 z_.2.2.2
def Ec b1 c1 d1 e1 g1 i1 l1 n1 o1 q1:=fix (Dh b1 c1 d1 e1 g1 i1) (l1,n1,o1,q1)
theorem ADs b1 c1 d1 e1 g1 i1:A8 tQ 0 8 (code f9) 1018 (AA7 b1 c1 d1 e1 g1 i1) (Dh b1 c1 d1 e1 g1 i1) (Ay0 b1 c1 d1 e1 g1 i1):=by
 intro _;simp(disch:=refine id ?_;kernel_rfl) only[Dh,Ep,ASm,Bf (ADr ..) (K:=Ka tQ 0 8)];kernel_rfl
def Nk(b1:ASG)(c1:ASK)(e2:ASx):ATP (OT.V×Bool):=
 (Fy b1 c1 e2).bind λg2=>bif !g2.2 then
 some (((([]:ASQ),()),([]:ASN),([]:ASC),()),false)
 else
 (Ja b1 g2.1).bind λi2=>(VX (i2.length:Int)).bind λj2=>(Ec b1 c1 (i2.length:Int) j2.1 g2.1 g2.1 0 j2.2.1 ([]:ASH) j2.2.2).bind (Sum.elim (λj1=>some ((g2.1,([]:ASN),j1.1,()),true)) (λk1=>(KO (i2.length:Int) j2.1 g2.1 0 ([]:ASN) k1.1 k1.2.1 k1.2.2).bind λd=>some ((g2.1,d,([]:ASC),()),true)))
def c9:=Ck [.d ATE,.d ATG,.d Am] [⟨[.AB [] ATE,.AB [] ATG,.AB [] Am],[],OT.V×Bool,λp=>Nk p.1.1 p.1.2.1 p.1.2.2.1,λr=>(.cons (dD OT r.1) (.cons (dB r.2) .nil),[])⟩]
theorem Avv:An prog 9 c9:=Av (fn:=f9) ⟨⟨tQ,pk ⟨Abe,qL,Alo,Alp,Alq,Abf,Alr,trivial⟩,λ_ R K=>by
 simp(disch:=refine id ?_;kernel_rfl) only[Nk,ASn,Ec,AJ (ADs _ _ _ _ _ _) (K:=A2 tQ f9 0 R K),KO,AJ (Ava _ _ _) (K:=A2 tQ f9 0 R K)];kernel_rfl⟩,trivial⟩
abbrev E65:=eN [(9,c9),(66,c66),(84,c84),(109,Ave),(110,AEz)] {kv:=[(24,ATG),(26,Am)]}
def UV(a:ASG)(b:ASK):ATP Int:=
 (Gl a b).bind λc=>bif !c then
 some 1
 else
 (RJ a b).bind λd=>bif !d.1 then
 some 1
 else
 (Ly b).bind λe=>(T3 a).bind λg=>(Nk a e (g,())).bind λi=>bif decide ((i.1.2.2.1.length:Int)>0)then
 some 2
 else
 some 0
def c63:=Ck [.d ATE,.d ATG] [⟨[.AB [] ATE,.AB [] ATG],[],Int,λp=>UV p.1.1 p.1.2.1,λr=>(dI r,[])⟩]
theorem AlB:An prog 63 c63:=Av (fn:=f63) ⟨⟨E65,pk ⟨Avv,Abh,qP,uA,Af5,trivial⟩,λ_ R K=>by
 simp only[UV,ASn];kernel_rfl⟩,trivial⟩
abbrev E66:=eN [] {}
def KT(a:ASC)(b:ASp):ATP Int:=
 bif decide (b.1<0)then
 some b.2.1
 else
 if(0:Int)<=b.1/\b.1<(a.length:Int)then
 some (wI ((a.getD b.1.toNat ATy.zero)+b.2.1))
 else none
def AEC:=Ck [.d ATD,.d Aa] [⟨[.AB [] ATD,.AB [] Aa],[],Int,λp=>KT p.1.1 p.1.2.1,λr=>(dI r,[])⟩]
theorem Af8:An prog 115 AEC:=Av (fn:=f115) ⟨⟨E66,pk trivial,λ_ R K=>by
 simp only[KT,ASn];kernel_rfl⟩,trivial⟩
abbrev E67:=eN [(64,c64),(96,c96),(114,Avg),(115,AEC)] {Ba:=[(4,{Be:=[0,1,2,8,9,10],Cj:=[(8,false,.row [] 2 ATy true)]}),(10,{Be:=[0,1,2,8,9,11,12],Cj:=[(11,false,.row [] 2 ATy true)]}),(14,[0,1,2,8,11,13]),(21,{Be:=[0,1,2,8,11,13,18,19,20],RU:=[(18,false,ATC),(19,false,ATC)]}),(28,{Be:=[8,11,21,22,23,24],RU:=[(23,false,ATC)],Cj:=[(21,false,.row [] 5 ATA true),(22,false,.row [] 5 ATA true)]})],BN:=[(4,{Be:=[0,1,2,8,9],RU:=[(8,false,ATD)]}),(10,[0,1,2,8,11]),(14,{Be:=[2,8,11],RU:=[(11,false,ATD)]}),(21,[0,1,2,8,11,13]),(28,[21,22])],BM:=[(34,[8,11,21,22,23,24,25,26])],Du:=[(34,[8,11,21,22,23,24,25,26])]}
def ABc a b c (z_:Int×ASC×ASC):=sT 140 [(8,B8 c),(11,B8 a),(21,.AK 0),(22,.AK 1),(23,Tl b),(24,dI z_.1)] [K7 z_.2.1,K7 z_.2.2]
def Ay5(a:ASC)(b:ASF)(c:ASC):=λ(d:ATe)=>xE 8 140 [(21,.AK 0),(22,.AK 1)] [K7 d.1,K7 d.2]
def Anx c a b e (g:Int) i j:=sT 140 [(8,B8 c),(11,B8 a),(21,.AK 0),(22,.AK 1),(23,Tl b),(24,dI e),(25,dI (a.getD g.toNat ATy.zero)),(26,dD ATA 0)] [K7 i,K7 j]
def Ae5(c a:ASC)(b:ASF)(e g:Int)(i j:ASC)(m0:Int):Ex×St:=xN 140 [(8,B8 c),(11,B8 a),(21,.AK 0),(22,.AK 1),(23,Tl b),(24,dI e),(25,dI (a.getD g.toNat ATy.zero)),(26,dD ATA m0)] [K7 i,K7 j]
theorem ADx c a b e g i j:Xk E67 0 34 (cd f65 32756) (pt 102) (Anx c a b e g i j)=some (Ae5 c a b e g i j (bif decide ((a.getD g.toNat ATy.zero)<2)then 1 else 0)):=by
 refine .trans (b:=
 bif decide ((a.getD g.toNat ATy.zero)<2)then
 some (Ae5 c a b e g i j 1)
 else
 some (Ae5 c a b e g i j 0)) (by kernel_rfl) ?_
 cases (decide ((a.getD g.toNat ATy.zero)<2));rfl;rfl
def Ms(a:ASC)(b:ASF)(c:ASC)(e:Int)(i j:ASC):ATP ((Int×ASC×ASC)⊕ATe):=
 bif decide (e<(b.length:Int))then
 if 0<=e/\e<b.length then
 (KT c (b.getD e.toNat Aa.zero)).bind λg=>if 0<=g/\g<a.length then
 OQ (Anx c a b e g i j) (
 if(i.length+([(bif decide ((a.getD g.toNat ATy.zero)<2)then 1 else 0)]:ASC).length)*1<=140737488355328 then
 if(j.length+([IntKind.u8.wrap ((bif decide ((a.getD g.toNat ATy.zero)<2)then 1 else 0)*(IntKind.u8.wrap (cA .i64 (a.getD g.toNat ATy.zero) 1)))]:ASC).length)*1<=140737488355328 then
 some (.inl (wI (e+1),i++([(bif decide ((a.getD g.toNat ATy.zero)<2)then 1 else 0)]:ASC),j++([IntKind.u8.wrap ((bif decide ((a.getD g.toNat ATy.zero)<2)then 1 else 0)*(IntKind.u8.wrap (cA .i64 (a.getD g.toNat ATy.zero) 1)))]:ASC)))
 else none
 else none)
 else none
 else none
 else
 some (.inr (i,j))
def FX a b c (z_:Int×ASC×ASC):=Ms a b c z_.1 z_.2.1 z_.2.2
def PN a b c e i j:=fix (FX a b c) (e,i,j)
theorem ADy a b c:A8 E67 0 28 (code f65) 16378 (ABc a b c) (FX a b c) (Ay5 a b c):=by
 intro _;simp(disch:=refine id ?_;kernel_rfl) only[FX,Ms,ASm,Ey (ADx ..) (K:=Ka E67 0 28)];kernel_rfl
def ABb k l n o (z_:Int×ASC):=sT 140 [(0,Ar k),(1,Bl l),(2,B3 n),(8,B8 o),(11,.AK 0),(13,dI z_.1)] [AA z_.2]
def Ay4(k:ASG)(l:ASK) n o:=λ(a:ASC)=>xE 4 140 [(2,B3 n),(8,B8 o),(11,B8 a)] []
def ABa k l n o q s t (z_:Int×ASC):=sT 140 [(0,Ar k),(1,Bl l),(2,B3 n),(8,B8 o),(11,.AK 0),(13,dI q),(18,Tl s),(19,Tl t),(20,dI z_.1)] [AA z_.2]
def Ay3 k l n o q (s:ASF) (t:ASF):=λ(u:ASC)=>xE 6 140 [(0,Ar k),(1,Bl l),(2,B3 n),(8,B8 o),(11,.AK 0),(13,dI q)] [AA u]
def Rt(k:ASG)(l:ASK)(n:ASI)(o:ASC)(q:Int)(s t:ASF)(v:Int)(w:ASC):ATP (ASZ⊕ASC):=
 bif decide (v<(s.length:Int))then
 if 0<=v/\v<s.length then
 if 0<=v/\v<t.length then
 (KT o (s.getD v.toNat Aa.zero)).bind λx=>(KT o (t.getD v.toNat Aa.zero)).bind λy=>(K0 x y w).bind λa1=>some (.inl (wI (v+1),a1))
 else none
 else none
 else
 some (.inr w)
def Mq k l n o q s t (z_:Int×ASC):=Rt k l n o q s t z_.1 z_.2
def Up k l n o q s t v w:=fix (Mq k l n o q s t) (v,w)
theorem ADv k l n o q s t:A8 E67 0 21 (cd f65 2036) 830 (ABa k l n o q s t) (Mq k l n o q s t) (Ay3 k l n o q s t):=by
 intro _;simp only[Mq,Rt,ASm];kernel_rfl
def Ru(k:ASG)(l:ASK)(n:ASI)(o:ASC)(q:Int)(b1:ASC):ATP (ASZ⊕ASC):=
 bif decide (q<(l.length:Int))then
 if 0<=q/\q<l.length then
 (BK k (l.getD q.toNat Ah.zero).2.2.1).bind λc1=>if 0<=q/\q<l.length then
 (BK k (l.getD q.toNat Ah.zero).2.2.2.1).bind λd1=>(IY c1.2).bind λs=>(IY d1.2).bind λt=>(Up k l n o q s t 0 b1).bind λu=>some (.inl (wI (q+1),u))
 else none
 else none
 else
 some (.inr b1)
def Mr k l n o (z_:Int×ASC):=Ru k l n o z_.1 z_.2
def PL k l n o q b1:=fix (Mr k l n o) (q,b1)
theorem ADw k l n o:A8 E67 0 14 (code f65) 1018 (ABb k l n o) (Mr k l n o) (Ay4 k l n o):=by
 intro _;simp(disch:=refine id ?_;kernel_rfl) only[Mr,Ru,ASm,Up,AJ (ADv _ _ _ _ _ _ _) (K:=Ka E67 0 14)];kernel_rfl
def AA9 k l n e1 g1 (z_:Int×ASC):=sT 140 [(0,Ar k),(1,Bl l),(2,B3 n),(8,B8 e1),(9,dI g1),(11,.AK 0),(12,dI z_.1)] [AA z_.2]
def Ay2 k l n e1 (g1:Int):=λ(i1:ASC)=>xE 2 140 [(0,Ar k),(1,Bl l),(2,B3 n),(8,B8 e1),(11,.AK 0)] [AA i1]
def Mp(k:ASG)(l:ASK)(n:ASI)(e1:ASC)(g1 j1:Int)(k1:ASC):ATP (ASZ⊕ASC):=
 bif decide (j1<g1)then
 if(k1.length+([j1]:ASC).length)*8<=140737488355328 then
 some (.inl (wI (j1+1),k1++([j1]:ASC)))
 else none
 else
 some (.inr k1)
def FW k l n e1 g1 (z_:Int×ASC):=Mp k l n e1 g1 z_.1 z_.2
def PK k l n e1 g1 j1 k1:=fix (FW k l n e1 g1) (j1,k1)
theorem ADu k l n e1 g1:A8 E67 0 10 (code f65) 506 (AA9 k l n e1 g1) (FW k l n e1 g1) (Ay2 k l n e1 g1):=by
 intro _;simp only[FW,Mp,ASm];kernel_rfl
def AA8 k l n (z_:Int×Int×ASC):=sT 140 [(0,Ar k),(1,Bl l),(2,B3 n),(8,.AK 0),(9,dI z_.1),(10,dI z_.2.1)] [AA z_.2.2]
def Ay1 k l n:=λ(l1:(ASC×Int))=>xE 0 140 [(0,Ar k),(1,Bl l),(2,B3 n),(8,B8 l1.1),(9,dI l1.2)] []
def Mn(k:ASG)(l:ASK)(n:ASI)(n1 o1:Int)(q1:ASC):ATP (ATk⊕(ASC×Int)):=
 bif decide (o1<(k.length:Int))then
 if(q1.length+([n1]:ASC).length)*8<=140737488355328 then
 if 0<=o1/\o1<k.length then
 some (.inl (wI (n1+(k.getD o1.toNat Ab.zero).2.1),wI (o1+1),q1++([n1]:ASC)))
 else none
 else none
 else
 some (.inr (q1,n1))
def FV k l n (z_:Int×Int×ASC):=Mn k l n z_.1 z_.2.1 z_.2.2
def PI k l n n1 o1 q1:=fix (FV k l n) (n1,o1,q1)
theorem ADt k l n:A8 E67 0 4 (code f65) 122 (AA8 k l n) (FV k l n) (Ay1 k l n):=by
 intro _;simp only[FV,Mn,ASm];kernel_rfl
def Rs(k:ASG)(l:ASK)(n:ASI):ATP ATe:=
 (PI k l n 2 0 ([]:ASC)).bind λl1=>(PK k l n l1.1 l1.2 0 ([]:ASC)).bind λi1=>(PL k l n l1.1 0 i1).bind λa=>(IY n).bind λb=>(PN a b l1.1 0 ([]:ASC) ([]:ASC)).bind λd=>some (d.1,d.2)
def c65:=Ck [.d ATE,.d ATG,.d ATB] [⟨[.AB [] ATE,.AB [] ATG,.AB [] ATB],[],ATe,λp=>Rs p.1.1 p.1.2.1 p.1.2.2.1,λr=>(.cons H7 (.cons I2 .nil),[K7 r.1,K7 r.2])⟩]
theorem AlC:An prog 65 c65:=Av (fn:=f65) ⟨⟨E67,pk ⟨iE,Abl,uC,Af8,trivial⟩,λ_ R K=>by
 simp(disch:=refine id ?_;kernel_rfl) only[Rs,ASn,PI,AJ (ADt _ _ _) (K:=A2 E67 f65 0 R K),PK,AJ (ADu _ _ _ _ _) (K:=A2 E67 f65 0 R K),PL,AJ (ADw _ _ _ _) (K:=A2 E67 f65 0 R K),PN,AJ (ADy _ _ _) (K:=A2 E67 f65 0 R K)];kernel_rfl⟩,trivial⟩
abbrev E68:=eN [(63,c63),(64,c64),(65,c65),(66,c66),(67,c67)] {BM:=[(4,{Be:=[0,1,6,7,9,10,32],RU:=[(10,false,ATB)]})],W8:=[(10,[6,7,8])],Du:=[(4,[0,1,6,7,9,10,11])],Yl:=[(10,[6,7,14,16])],kv:=[(43,ATG)],iq:=[(0,.row [1] 199 ATz true),(1,.row [1] 199 ATz true)]}
def AnA a b c d:=sT 60 [(6,Aq),(7,AZ),(14,Dr),(16,J8)] (mz a b c d)
def tX a b c d:=λ(e:Unit)=>sT 60 [(6,Aq),(7,AZ),(8,dI 0)] (Acz a b c d)
def Rr(a b:Int)(c d:ASC):ATP Unit:=
 some ()
theorem ADA(a b:Int)(c d:ASC):MQ E68 0 10 (code f24) 1022 (AnA a b c d) (Rr a b c d) (tX a b c d):=by
 unfold MQ;have h:re E68 0 10 (code f24) (pt 1022) (AnA a b c d) =
 ((((DY (tX a b c d ())).bind λ_=>DY (tX a b c d ())).bind λ_=>DY (tX a b c d ())).bind λ_=>some (tX a b c d ())):=by kernel_rfl
 rw[h];unfold Rr;simp only[ASm,mS,mO];clear h;simp only[AQV,AP9,DY,DD]
def Anz g i j (k:AS2):=sT 60 [(0,Ar g),(1,Bl i),(6,Aq),(7,AZ),(9,dI j),(10,.AK 2),(11,dB k.1)] [.box S3,.box S3,Ca k.2]
def Ae6(g:ASG)(i:ASK)(j:Int)(k:AS2)(m0:Bool):Ex×St:=xN 60 [(0,Ar g),(1,Bl i),(6,Aq),(7,AZ),(9,dI j),(10,B3 k.2),(32,dB m0)] [.box S3,.box S3]
theorem ADz g i j k:Xk E68 0 4 (code f24) (pt 60) (Anz g i j k)=some (Ae6 g i j k ((j==1)||(!k.1))):=by
 refine .trans (b:=
 bif j==1 then
 some (Ae6 g i j k true)
 else
 some (Ae6 g i j k (!k.1))) (by kernel_rfl) ?_
 cases (j==1);rfl;rfl
def A4(g:ASG)(i:ASK)(l:ASz):ATP AS5:=
 (UV g i).bind λj=>(BK g l).bind λk=>OQ (Anz g i j k) (
 bif (j==1)||(!k.1)then
 some (0,0,1,([]:ASC),([]:ASC))
 else
 bif j !=0 then
 some (0,0,j,([]:ASC),([]:ASC))
 else
 (Ly i).bind λn=>(Rs g n k.2).bind λo=>(Kg o.1).bind λq=>(Kg o.2).bind λs=>(Rr q.1 s.1 q.2.2 s.2.2).bind λe=>some (q.1,s.1,0,q.2.2,s.2.2))
def c24:=Ck [.d ATE,.d ATG,.d Ap] [⟨[.AB [] ATE,.AB [] ATG,.AB [] Ap],[],AS5,λp=>A4 p.1.1 p.1.2.1 p.1.2.2.1,λr=>(.cons (.pr (dI r.1) Pj) (.cons (.pr (dI r.2.1) dZ) (.cons (dI r.2.2.1) .nil)),[Bj r.2.2.2.1,Bj r.2.2.2.2])⟩]
theorem Alf:An prog 24 c24:=Av (fn:=f24) ⟨⟨E68,pk ⟨AlB,iE,AlC,Abh,qM,trivial⟩,λ_ R K=>by
 simp(disch:=refine id ?_;kernel_rfl) only[A4,ASn,Ey (ADz ..) (K:=A2 E68 f24 0 R K),Tv (ADA ..) (K:=A2 E68 f24 0 R K)];kernel_rfl⟩,trivial⟩
abbrev E69:=eN [] {Ba:=[(4,[0,3])],BN:=[(4,[2])],BM:=[(2,[0,21]),(7,[0,3,49])],Du:=[(2,[0]),(7,[0,3])]}
def ABf a (z_:Int):=sT 50 [(0,HZ a),(3,dI z_)] []
def Ay8(a:ByteArray):=Sum.elim (λ(b:Unit)=>xR 50 [(2,dB false)] []) (λ(c:Unit)=>xE 0 50 [] [])
def ABe a d:=sT 50 [(0,HZ a),(3,dI d)] []
def Ay7 a d:=λ(e:Bool)=>xN 50 [(0,HZ a),(3,dI d),(49,dB e)] []
def M3(a:ByteArray)(d:Int):ATP Bool:=
 if(0:Int)<=d/\d<(a.size:Int)then
 bif decide ((Dc a d)<97)then
 if(0:Int)<=d/\d<(a.size:Int)then
 bif decide ((Dc a d)<48)then
 some true
 else
 if(0:Int)<=d/\d<(a.size:Int)then
 some (decide ((Dc a d)>57))
 else none
 else none
 else
 if(0:Int)<=d/\d<(a.size:Int)then
 bif decide ((Dc a d)>122)then
 if(0:Int)<=d/\d<(a.size:Int)then
 bif decide ((Dc a d)<48)then
 some true
 else
 if(0:Int)<=d/\d<(a.size:Int)then
 some (decide ((Dc a d)>57))
 else none
 else none
 else
 some false
 else none
 else none
theorem ADC a d:AX E69 0 7 (cd f117 116) 24 (ABe a d) (M3 a d) (Ay7 a d):=by
 unfold AX;simp only[M3,ASm];kernel_rfl
def NH(a:ByteArray)(d:Int):ATP (Int⊕(Unit⊕Unit)):=
 bif decide (d<(a.size:Int))then
 (M3 a d).bind λe=>bif e then
 some (.inr (.inl ()))
 else
 some (.inl (wI (d+1)))
 else
 some (.inr (.inr ()))
def JI a (z_:Int):=NH a z_
def Zb a d:=fix (JI a) d
theorem ADD a:A8 E69 0 4 (code f117) 58 (ABf a) (JI a) (Ay8 a):=by
 intro _;simp(disch:=refine id ?_;kernel_rfl) only[JI,NH,ASm,Bf (ADC ..) (K:=Ka E69 0 4)];kernel_rfl
def ABd a:=sT 50 [(0,HZ a)] []
def Ay6 a:=λ(g:Bool)=>xN 50 [(0,HZ a),(21,dB g)] []
def Q1(a:ByteArray):ATP Bool:=
 bif decide ((a.size:Int)<1)then
 some true
 else
 bif decide ((a.size:Int)>12)then
 some true
 else
 if(0:Int)<=(0:Int)/\(0:Int)<(a.size:Int)then
 bif decide ((Dc a 0)<97)then
 some true
 else
 if(0:Int)<=(0:Int)/\(0:Int)<(a.size:Int)then
 some (decide ((Dc a 0)>122))
 else none
 else none
theorem ADB a:AX E69 0 2 (code f117) 12 (ABd a) (Q1 a) (Ay6 a):=by
 unfold AX;simp only[Q1,ASm];kernel_rfl
def Qx(a:ByteArray):ATP Bool:=
 (Q1 a).bind λg=>bif g then
 some false
 else
 (Zb a 0).bind (Sum.elim (λb=>some false) (λc=>some true))
def AEE:=Ck [.d .str] [⟨[.AB [] .str],[],Bool,λp=>Qx p.1.1,λr=>(dB r,[])⟩]
theorem Aga:An prog 117 AEE:=Av (fn:=f117) ⟨⟨E69,pk trivial,λ_ R K=>by
 simp(disch:=refine id ?_;kernel_rfl) only[Qx,ASn,Bf (ADB _) (K:=A2 E69 f117 0 R K),Zb,AJ (ADD _) (K:=A2 E69 f117 0 R K)];kernel_rfl⟩,trivial⟩
abbrev E70:=eN [] {}
def AY(a b c:Int):Bool:=((decide (a>=b))&&(decide (a<=c)))
theorem U70 R a b c K:TT E70 f118 R [dI a,dI b,dI c] [] K=K (dB (AY a b c)) []:=by
 refine .trans (b:=
 bif decide (a>=b)then
 K (dB (decide (a<=c))) []
 else
 K (dB false) []) (by kernel_rfl) ?_
 unfold AY;cases (decide (a>=b));rfl;rfl
def zl:=Ck [.d ATy,.d ATy,.d ATy] [⟨[.AB [] ATy,.AB [] ATy,.AB [] ATy],[],Bool,λp=>some (AY p.1.1 p.1.2.1 p.1.2.2.1),λr=>(dB r,[])⟩]
theorem W4:An prog 118 zl:=Av ⟨⟨E70,pk trivial,λ_ _ _=>U70 ..⟩,trivial⟩
abbrev E71:=eN [] {}
def T9(a:ASq)(b:ByteArray):Bool:=(Jf a.1 b)
def AE0:=Ck [.d Ab,.p .str] [⟨[.AB [] Ab,.FQ [] .str],[],Bool,λp=>some (T9 p.1.1 p.1.2.1),λr=>(dB r,[])⟩]
theorem Agx:An prog 152 AE0:=Av (fn:=f152) ⟨⟨E71,pk trivial,λ_ _ _=>by kernel_rfl⟩,trivial⟩
abbrev E72:=eN [(152,AE0)] {Ba:=[(2,[0,1,7,8])],BN:=[(2,[4])]}
def ABg a (b:Int) c d (z_:Int):=sT 19 [(0,Ar a),(1,.fn 152 (.cons (.ptr 0 b [] 0) .nil)),(7,dI d),(8,dI z_)] [.box (HZ c)]
def Ay9(a:ASG)(b:Int) c (d:Int):=Sum.elim (λ(e:Int)=>xR 19 [(4,dI e)] [.box (HZ c)]) (λ(g:Unit)=>xE 0 19 [] [.box (HZ c)])
def Ea(a:ASG)(b:Int)(c:ByteArray)(d i:Int):ATP (Int⊕(Int⊕Unit)):=
 bif decide (i<d)then
 if 0<=i/\i<a.length then
 bif T9 (a.getD i.toNat Ab.zero) c then
 some (.inr (.inl i))
 else
 some (.inl (wI (i+1)))
 else none
 else
 some (.inr (.inr ()))
def CY a b c d (z_:Int):=Ea a b c d z_
def I9 a b c d i:=fix (CY a b c d) i
theorem ADE a b c d:A8 E72 1 2 (code f151) 26 (ABg a b c d) (CY a b c d) (Ay9 a b c d):=by
 intro _;simp only[CY,Ea,ASm];kernel_rfl
def HX(a:ASG)(b:Int)(c:ByteArray):ATP (Int×ByteArray):=
 (I9 a b c (a.length:Int) 0).bind (Sum.elim (λe=>some (e,c)) (λg=>some (-1,c)))
def AEZ:=Ck [.d ATE,.VE] [⟨[.AB [] ATE,.fn 152 (.cons (.ptr 0 [] 0) (.k .nil))],[.box (.AB [] .str)],Int×ByteArray,λp=>HX p.1.1 p.1.2.1.1 p.2.1,λr=>(dI r.1,[.box (HZ r.2)])⟩]
theorem Agw:An prog 151 AEZ:=Av (fn:=f151) ⟨⟨E72,pk ⟨Agx,trivial⟩,λ_ R K=>by
 simp(disch:=refine id ?_;kernel_rfl) only[HX,ASn,I9,AJ (ADE _ _ _ _) (K:=A2 E72 f151 1 R K)];kernel_rfl⟩,trivial⟩
abbrev E73:=eN [(151,AEZ)] {}
def Ls(a:ASG)(b:ByteArray):ATP Int:=
 (HX a 0 b).bind λc=>some c.1
def AEF:=Ck [.d ATE,.d .str] [⟨[.AB [] ATE,.AB [] .str],[],Int,λp=>Ls p.1.1 p.1.2.1,λr=>(dI r,[])⟩]
theorem Agb:An prog 119 AEF:=Av (fn:=f119) ⟨⟨E73,pk ⟨Agw,trivial⟩,λ_ R K=>by
 simp only[Ls,ASn];kernel_rfl⟩,trivial⟩
abbrev E74:=eN [(117,AEE),(118,zl),(119,AEF)] {Ba:=[(5,[0,3,9,10,11])],BN:=[(5,[2,3])],BM:=[(8,[0,3,5,9,10,11,34])],Du:=[(8,[0,3,4,5,9,10,11])]}
def ABi a b (z_:Int×Int):=sT 42 [(0,Ar a),(3,dI z_.1),(9,Ar a),(10,dI b),(11,dI z_.2)] []
def Azb(a:ASG)(b:Int):=Sum.elim (λ(c:Int)=>xR 42 [(2,dB false),(3,dI c)] []) (λ(d:Int)=>xE 0 42 [(3,dI d)] [])
def ABh a e g b i:=sT 42 [(0,Ar a),(3,dI e),(4,dI g),(5,Aq),(9,Ar a),(10,dI b),(11,dI g)] [.box (dV i)]
def Aza a e g b i:=λ(j:Bool)=>xN 42 [(0,Ar a),(3,dI e),(5,Aq),(9,Ar a),(10,dI b),(11,dI g),(34,dB j)] [.box (dV i)]
def Pl(a:ASG)(e g b:Int)(i:ASq):ATP Bool:=
 (Qx i.1).bind λk=>bif !k then
 some true
 else
 bif !(AY i.2.1 1 4096)then
 some true
 else
 if(0:Int)<=(0:Int)/\(0:Int)<=g/\g<=(a.length:Int)then
 (Ls ((a.take g.toNat).drop 0) i.1).bind λl=>some (decide (l>=0))
 else none
theorem ADF a e g b i:AX E74 0 8 (cd f69 244) 228 (ABh a e g b i) (Pl a e g b i) (Aza a e g b i):=by
 unfold AX;simp only[Pl,ASm];kernel_rfl
def L0(a:ASG)(b e g:Int):ATP (AS1⊕(Int⊕Int)):=
 bif decide (g<b)then
 if 0<=g/\g<a.length then
 (Pl a e g b (a.getD g.toNat Ab.zero)).bind λj=>bif j then
 some (.inr (.inl e))
 else
 some (.inl (wI (e+(a.getD g.toNat Ab.zero).2.1),wI (g+1)))
 else none
 else
 some (.inr (.inr e))
def Ir a b (z_:Int×Int):=L0 a b z_.1 z_.2
def Yq a b e g:=fix (Ir a b) (e,g)
theorem ADG a b:A8 E74 0 5 (code f69) 122 (ABi a b) (Ir a b) (Azb a b):=by
 intro _;simp(disch:=refine id ?_;kernel_rfl) only[Ir,L0,ASm,Bf (ADF ..) (K:=Ka E74 0 5)];kernel_rfl
def Kl(a:ASG):ATP Bool:=
 bif decide ((a.length:Int)>60)then
 some false
 else
 (Yq a (a.length:Int) 0 0).bind (Sum.elim (λc=>some false) (λd=>some (decide (d<=20000))))
def c69:=Ck [.d ATE] [⟨[.AB [] ATE],[],Bool,λp=>Kl p.1.1,λr=>(dB r,[])⟩]
theorem qN:An prog 69 c69:=Av (fn:=f69) ⟨⟨E74,pk ⟨Aga,W4,Agb,trivial⟩,λ_ R K=>by
 simp(disch:=refine id ?_;kernel_rfl) only[Kl,ASn,Yq,AJ (ADG _ _) (K:=A2 E74 f69 0 R K)];kernel_rfl⟩,trivial⟩
abbrev E75:=eN [] {}
def Ct(a:Int):Int:=(wI (Int.tdiv (wI (a+63)) 64))
def Avm:=Ck [.d ATy] [⟨[.AB [] ATy],[],Int,λp=>some (Ct p.1.1),λr=>(dI r,[])⟩]
theorem uI:An prog 157 Avm:=Av (fn:=f157) ⟨⟨E75,pk trivial,λ_ _ _=>by kernel_rfl⟩,trivial⟩
abbrev E76:=eN [(118,zl),(157,Avm)] {BM:=[(2,[1,16])],Du:=[(2,[1])]}
def AnB a:=sT 35 [(1,Aq)] [.box (Jy a)]
def Ae7(a:ASv)(m0:Bool):Ex×St:=xN 35 [(1,Aq),(16,dB m0)] [.box (Jy a)]
theorem ADH a:Xk E76 0 2 (code f190) (pt 12) (AnB a)=some (Ae7 a ((!(AY a.1 1 4096))||((a.2.1.length:Int) !=(Ct a.1)))):=by
 refine .trans (b:=
 bif !(AY a.1 1 4096)then
 some (Ae7 a true)
 else
 some (Ae7 a ((a.2.1.length:Int) !=(Ct a.1)))) (by kernel_rfl) ?_
 cases (!(AY a.1 1 4096));rfl;rfl
def Qu(a:ASv):ATP Bool:=
 OQ (AnB a) (
 bif (!(AY a.1 1 4096))||((a.2.1.length:Int) !=(Ct a.1))then
 some false
 else
 bif (Int.tmod a.1 64)==0 then
 some true
 else
 if 0<=(wI ((a.2.1.length:Int)-1))/\(wI ((a.2.1.length:Int)-1))<a.2.1.length then
 if(Int.tmod a.1 64)<(0:Int)then none else
 some ((SF .u64 (a.2.1.getD (wI ((a.2.1.length:Int)-1)).toNat ATz.zero) (Int.tmod a.1 64))==0)
 else none)
def AFt:=Ck [.d Ai] [⟨[.AB [] Ai],[],Bool,λp=>Qu p.1.1,λr=>(dB r,[])⟩]
theorem Ag0:An prog 190 AFt:=Av (fn:=f190) ⟨⟨E76,pk ⟨W4,uI,trivial⟩,λ_ R K=>by
 simp(disch:=refine id ?_;kernel_rfl) only[Qu,ASn,Ey (ADH _) (K:=A2 E76 f190 0 R K)];kernel_rfl⟩,trivial⟩
abbrev qp:=eN [(118,zl),(190,AFt)] {Ba:=[(11,[8,80,81,82])],BN:=[(11,[8])],BM:=[(4,[0,1,2,7]),(5,[0,1,2,7,17]),(7,[0,2,7,46]),(9,[0,2,7,69]),(19,[0,7,95]),(21,[0,7,137]),(23,[0,7,163]),(25,[0,7,184])],Du:=[(4,[0,1,2,7]),(5,[0,1,2,7]),(7,[0,2,7]),(9,[0,2,7]),(19,[0,7]),(21,[0,7]),(23,[0,7]),(25,[0,7])]}
def AnH a b:=sT 203 (AcA a b) []
def Ae9(a:ASt)(b:Int)(m0:Bool):Ex×St:=xN 203 [(0,.FQ [] Ag a),(7,dI b),(184,dB m0)] []
theorem ADQ a b:Xk qp 0 25 (code f174) (pt 1998846) (AnH a b)=some (Ae9 a b ((a.1==9)&&(AY a.2.2.1 1 4096))):=by
 refine .trans (b:=
 bif a.1==9 then
 some (Ae9 a b (AY a.2.2.1 1 4096))
 else
 some (Ae9 a b false)) (by kernel_rfl) ?_
 cases (a.1==9);rfl;rfl
def AnG a b:=sT 203 (AcA a b) []
def AaV(a:ASt)(b:Int)(m0:Bool):Ex×St:=xN 203 [(0,.FQ [] Ag a),(7,dI b),(163,dB m0)] []
theorem ADP a b:Xk qp 0 23 (code f174) (pt 499710) (AnG a b)=some (AaV a b (bif a.1==7 then(AY a.2.2.1 0 4096)else((a.1==8)&&(AY a.2.2.1 0 4096)))):=by
 refine .trans (b:=
 bif a.1==7 then
 some (AaV a b (AY a.2.2.1 0 4096))
 else
 bif a.1==8 then
 some (AaV a b (AY a.2.2.1 0 4096))
 else
 some (AaV a b false)) (by kernel_rfl) ?_
 cases (a.1==7);cases (a.1==8);rfl;rfl;rfl
def AnF a b:=sT 203 (AcA a b) []
def AaU(a:ASt)(b:Int)(m0:Bool):Ex×St:=xN 203 [(0,.FQ [] Ag a),(7,dI b),(137,dB m0)] []
theorem ADO a b:Xk qp 0 21 (code f174) (pt 124926) (AnF a b)=some (AaU a b (bif a.1==5 then(AY a.2.2.1 0 4096)else((a.1==6)&&(AY a.2.2.1 0 4096)))):=by
 refine .trans (b:=
 bif a.1==5 then
 some (AaU a b (AY a.2.2.1 0 4096))
 else
 bif a.1==6 then
 some (AaU a b (AY a.2.2.1 0 4096))
 else
 some (AaU a b false)) (by kernel_rfl) ?_
 cases (a.1==5);cases (a.1==6);rfl;rfl;rfl
def AnE a b:=sT 203 (AcA a b) []
def tY(a:ASt)(b:Int)(m0:Bool):Ex×St:=xN 203 [(0,.FQ [] Ag a),(7,dI b),(95,dB m0)] []
theorem ADN a b:Xk qp 0 19 (code f174) (pt 31230) (AnE a b)=some (tY a b ((a.1==4)&&((decide (a.2.2.2.1>=0))&&((decide (a.2.2.2.1<=a.2.2.1))&&(decide (a.2.2.1<b)))))):=by
 refine .trans (b:=
 bif a.1==4 then
 bif decide (a.2.2.2.1>=0)then
 bif decide (a.2.2.2.1<=a.2.2.1)then
 some (tY a b (decide (a.2.2.1<b)))
 else
 some (tY a b false)
 else
 some (tY a b false)
 else
 some (tY a b false)) (by kernel_rfl) ?_
 cases (a.1==4);rfl;cases (decide (a.2.2.2.1>=0));rfl;cases (decide (a.2.2.2.1<=a.2.2.1));rfl;rfl
def ABl c d (z_:Int×Int):=sT 203 [(8,dI z_.1),(80,B8 c),(81,dI d),(82,dI z_.2)] []
def Aze(c:ASC)(d:Int):=λ(e:Int)=>xE 1 203 [(8,dI e)] []
def HJ(c:ASC)(d g i:Int):ATP (AS1⊕Int):=
 bif decide (i<d)then
 if 0<=i/\i<c.length then
 some (.inl (wI (g+(c.getD i.toNat ATy.zero)),wI (i+1)))
 else none
 else
 some (.inr g)
def Cz c d (z_:Int×Int):=HJ c d z_.1 z_.2
def OD c d g i:=fix (Cz c d) (g,i)
theorem ADM c d:A8 qp 0 11 (code f174) 62442 (ABl c d) (Cz c d) (Aze c d):=by
 intro _;simp only[Cz,HJ,ASm];kernel_rfl
def AnD a c b:=sT 203 [(0,.FQ [] Ag a),(2,B8 c),(7,dI b)] []
def Ae8(a:ASt)(c:ASC)(b:Int)(m0:Bool):Ex×St:=xN 203 [(0,.FQ [] Ag a),(2,B8 c),(7,dI b),(69,dB m0)] []
theorem ADL a c b:Xk qp 0 9 (code f174) (pt 1950) (AnD a c b)=some (Ae8 a c b ((a.1==3)&&(decide ((c.length:Int)>1)))):=by
 refine .trans (b:=
 bif a.1==3 then
 some (Ae8 a c b (decide ((c.length:Int)>1)))
 else
 some (Ae8 a c b false)) (by kernel_rfl) ?_
 cases (a.1==3);rfl;rfl
def ABk a c b:=sT 203 [(0,.FQ [] Ag a),(2,B8 c),(7,dI b)] []
def Azd a c b:=λ(j:Bool)=>xN 203 [(0,.FQ [] Ag a),(2,B8 c),(7,dI b),(46,dB j)] []
def Gq(a:ASt)(c:ASC)(b:Int):ATP Bool:=
 bif a.1==2 then
 bif (c.length:Int)==0 then
 (Qu a.2.2.2.2.1).bind λk=>some k
 else
 some false
 else
 some false
theorem ADK a c b:AX qp 0 7 (code f174) 486 (ABk a c b) (Gq a c b) (Azd a c b):=by
 unfold AX;simp only[Gq,ASm];kernel_rfl
def AnC a l c b:=sT 203 [(0,.FQ [] Ag a),(1,Ar l),(2,B8 c),(7,dI b)] []
def AaT(a:ASt)(l:ASG)(c:ASC)(b:Int)(m0:Bool):Ex×St:=xN 203 [(0,.FQ [] Ag a),(1,Ar l),(2,B8 c),(7,dI b),(17,dB m0)] []
theorem ADJ a l c b:Xk qp 0 5 (code f174) (pt 120) (AnC a l c b)=some (AaT a l c b ((a.1==1)&&(((c.length:Int)==0)&&(AY a.2.1 0 (wI ((l.length:Int)-1)))))):=by
 refine .trans (b:=
 bif a.1==1 then
 bif (c.length:Int)==0 then
 some (AaT a l c b (AY a.2.1 0 (wI ((l.length:Int)-1))))
 else
 some (AaT a l c b false)
 else
 some (AaT a l c b false)) (by kernel_rfl) ?_
 cases (a.1==1);rfl;cases ((c.length:Int)==0);rfl;rfl
def ABj a l c:=sT 203 [(0,.FQ [] Ag a),(1,Ar l),(2,B8 c),(7,dI 0)] []
def Azc a l c:=λ(b:Int)=>xN 203 [(0,.FQ [] Ag a),(1,Ar l),(2,B8 c),(7,dI b)] []
def Gp(a:ASt)(l:ASG)(c:ASC):ATP Int:=
 bif decide ((c.length:Int)>0)then
 if(0:Int)<=(0:Int)/\(0:Int)<(c.length:Int)then
 some (c.getD 0 ATy.zero)
 else none
 else
 some 0
theorem ADI a l c:AX qp 0 4 (code f174) 14 (ABj a l c) (Gp a l c) (Azc a l c):=by
 unfold AX;simp only[Gp,ASm];kernel_rfl
def GY(a:ASt)(l:ASG)(c:ASC):ATP Int:=
 (Gp a l c).bind λb=>OQ (AnC a l c b) (
 bif (a.1==1)&&(((c.length:Int)==0)&&(AY a.2.1 0 (wI ((l.length:Int)-1))))then
 if(0:Int)<=a.2.1/\a.2.1<(l.length:Int)then
 some (l.getD a.2.1.toNat Ab.zero).2.1
 else none
 else
 (Gq a c b).bind λj=>bif j then
 some a.2.2.2.2.1.1
 else
 OQ (AnD a c b) (
 bif (a.1==3)&&(decide ((c.length:Int)>1))then
 (OD c (c.length:Int) 0 0).bind λe=>some e
 else
 bif (c.length:Int) !=1 then
 some (-1)
 else
 OQ (AnE a b) (
 bif (a.1==4)&&((decide (a.2.2.2.1>=0))&&((decide (a.2.2.2.1<=a.2.2.1))&&(decide (a.2.2.1<b))))then
 some (wI ((wI (a.2.2.1-a.2.2.2.1))+1))
 else
 OQ (AnF a b) (
 bif bif (a.1==5)then(AY a.2.2.1 0 4096)else((a.1==6)&&(AY a.2.2.1 0 4096))then
 some (wI (b+a.2.2.1))
 else
 OQ (AnG a b) (
 bif bif (a.1==7)then(AY a.2.2.1 0 4096)else((a.1==8)&&(AY a.2.2.1 0 4096))then
 some b
 else
 OQ (AnH a b) (
 bif (a.1==9)&&(AY a.2.2.1 1 4096)then
 some (wI (b*a.2.2.1))
 else
 some (-1)))))))
def AFi:=Ck [.p Ag,.d ATE,.d ATD] [⟨[.FQ [] Ag,.AB [] ATE,.AB [] ATD],[],Int,λp=>GY p.1.1 p.1.2.1 p.1.2.2.1,λr=>(dI r,[])⟩]
theorem AgP:An prog 174 AFi:=Av (fn:=f174) ⟨⟨qp,pk ⟨W4,Ag0,trivial⟩,λ_ R K=>by
 simp(disch:=refine id ?_;kernel_rfl) only[GY,ASn,Bf (ADI ..) (K:=A2 qp f174 0 R K),Ey (ADJ ..) (K:=A2 qp f174 0 R K),Bf (ADK ..) (K:=A2 qp f174 0 R K),Ey (ADL ..) (K:=A2 qp f174 0 R K),OD,AJ (ADM _ _) (K:=A2 qp f174 0 R K),Ey (ADN ..) (K:=A2 qp f174 0 R K),Ey (ADO ..) (K:=A2 qp f174 0 R K),Ey (ADP ..) (K:=A2 qp f174 0 R K),Ey (ADQ ..) (K:=A2 qp f174 0 R K)];kernel_rfl⟩,trivial⟩
abbrev E78:=eN [] {BM:=[(2,[0,3]),(3,[0,52])],Du:=[(2,[0]),(3,[0,3])]}
def AnJ a:=sT 75 [(0,.FQ [] Ag a),(3,dB ((decide (a.1>=4))&&(decide (a.1<=9))))] []
def Yi(a:ASt)(m0:Bool):Ex×St:=xN 75 [(0,.FQ [] Ag a),(52,dB m0)] []
theorem ADS a:Xk E78 0 3 (code f175) (pt 28) (AnJ a)=some (Yi a (bif !((decide (a.1>=4))&&(decide (a.1<=9)))then((a.2.2.1 !=0)||(bif a.1 !=4 then((a.2.2.2.1 !=0)||((a.1 !=1)&&(a.2.1 !=0)))else((a.1 !=1)&&(a.2.1 !=0))))else(bif a.1 !=4 then((a.2.2.2.1 !=0)||((a.1 !=1)&&(a.2.1 !=0)))else((a.1 !=1)&&(a.2.1 !=0))))):=by
 refine .trans (b:=
 bif !((decide (a.1>=4))&&(decide (a.1<=9)))then
 bif a.2.2.1 !=0 then
 some (Yi a true)
 else
 bif a.1 !=4 then
 bif a.2.2.2.1 !=0 then
 some (Yi a true)
 else
 bif a.1 !=1 then
 some (Yi a (a.2.1 !=0))
 else
 some (Yi a false)
 else
 bif a.1 !=1 then
 some (Yi a (a.2.1 !=0))
 else
 some (Yi a false)
 else
 bif a.1 !=4 then
 bif a.2.2.2.1 !=0 then
 some (Yi a true)
 else
 bif a.1 !=1 then
 some (Yi a (a.2.1 !=0))
 else
 some (Yi a false)
 else
 bif a.1 !=1 then
 some (Yi a (a.2.1 !=0))
 else
 some (Yi a false)) (by kernel_rfl) ?_
 cases (!((decide (a.1>=4))&&(decide (a.1<=9))));cases (a.1 !=4);cases (a.1 !=1);rfl;rfl;cases (a.2.2.2.1 !=0);cases (a.1 !=1);rfl;rfl;rfl;cases (a.2.2.1 !=0);cases (a.1 !=4);cases (a.1 !=1);rfl;rfl;cases (a.2.2.2.1 !=0);cases (a.1 !=1);rfl;rfl;rfl;rfl
def AnI a:=sT 75 [(0,.FQ [] Ag a)] []
def Afa(a:ASt)(m0:Bool):Ex×St:=xN 75 [(0,.FQ [] Ag a),(3,dB m0)] []
theorem ADR a:Xk E78 0 2 (code f175) (pt 6) (AnI a)=some (Afa a ((decide (a.1>=4))&&(decide (a.1<=9)))):=by
 refine .trans (b:=
 bif decide (a.1>=4)then
 some (Afa a (decide (a.1<=9)))
 else
 some (Afa a false)) (by kernel_rfl) ?_
 cases (decide (a.1>=4));rfl;rfl
def EG(a:ASt):Bool:=((!(bif !((decide (a.1>=4))&&(decide (a.1<=9)))then((a.2.2.1 !=0)||(bif a.1 !=4 then((a.2.2.2.1 !=0)||((a.1 !=1)&&(a.2.1 !=0)))else((a.1 !=1)&&(a.2.1 !=0))))else(bif a.1 !=4 then((a.2.2.2.1 !=0)||((a.1 !=1)&&(a.2.1 !=0)))else((a.1 !=1)&&(a.2.1 !=0)))))&&((a.1==2)||((a.2.2.2.2.1.1==0)&&((a.2.2.2.2.1.2.1.length:Int)==0))))
theorem U78 R a K:TT E78 f175 R [.FQ [] Ag a] [] K=K (dB (EG a)) []:=by
 refine .trans (b:=
 OQ (AnI a) (
 OQ (AnJ a) (
 bif bif (!((decide (a.1>=4))&&(decide (a.1<=9))))then((a.2.2.1 !=0)||(bif (a.1 !=4)then((a.2.2.2.1 !=0)||((a.1 !=1)&&(a.2.1 !=0)))else((a.1 !=1)&&(a.2.1 !=0))))else(bif (a.1 !=4)then((a.2.2.2.1 !=0)||((a.1 !=1)&&(a.2.1 !=0)))else((a.1 !=1)&&(a.2.1 !=0)))then
 K (dB false) []
 else
 bif a.1==2 then
 K (dB true) []
 else
 bif a.2.2.2.2.1.1==0 then
 K (dB ((a.2.2.2.2.1.2.1.length:Int)==0)) []
 else
 K (dB false) []))) (by
  simp(disch:=refine id ?_;kernel_rfl) only[Ey (ADR _) (K:=A2 E78 f175 0 R K),Ey (ADS _) (K:=A2 E78 f175 0 R K)];kernel_rfl) ?_
 unfold EG;cases (bif !((decide (a.1>=4))&&(decide (a.1<=9)))then((a.2.2.1 !=0)||(bif a.1 !=4 then((a.2.2.2.1 !=0)||((a.1 !=1)&&(a.2.1 !=0)))else((a.1 !=1)&&(a.2.1 !=0))))else(bif a.1 !=4 then((a.2.2.2.1 !=0)||((a.1 !=1)&&(a.2.1 !=0)))else((a.1 !=1)&&(a.2.1 !=0))));cases (a.1==2);cases (a.2.2.2.2.1.1==0);rfl;rfl;rfl;rfl
def AFj:=Ck [.p Ag] [⟨[.FQ [] Ag],[],Bool,λp=>some (EG p.1.1),λr=>(dB r,[])⟩]
theorem AgQ:An prog 175 AFj:=Av ⟨⟨E78,pk trivial,λ_ _ _=>U78 ..⟩,trivial⟩
abbrev E79:=eN [] {Ba:=[(2,[0,1,7,8])],BN:=[(2,[4])]}
def ABm a b c (z_:Int):=sT 19 [(0,Z5 a),(1,dB b),(7,dI c),(8,dI z_)] []
def Azf(a:ASD)(b:Bool)(c:Int):=Sum.elim (λ(d:Int)=>xR 19 [(4,dI d)] []) (λ(e:Unit)=>xE 0 19 [] [])
def GL(a:ASD)(b:Bool)(c g:Int):ATP (Int⊕(Int⊕Unit)):=
 bif decide (g<c)then
 if 0<=g/\g<a.length then
 bif b==(a.getD g.toNat (Ty.zero .bool))then
 some (.inr (.inl g))
 else
 some (.inl (wI (g+1)))
 else none
 else
 some (.inr (.inr ()))
def Eb a b c (z_:Int):=GL a b c z_
def TX a b c g:=fix (Eb a b c) g
theorem ADT a b c:A8 E79 0 2 (code f191) 26 (ABm a b c) (Eb a b c) (Azf a b c):=by
 intro _;simp only[Eb,GL,ASm];kernel_rfl
def Rn(a:ASD)(b:Bool):ATP Int:=
 (TX a b (a.length:Int) 0).bind (Sum.elim (λd=>some d) (λe=>some (-1)))
def AFu:=Ck [.d ATF,.d .bool] [⟨[.AB [] ATF,.AB [] .bool],[],Int,λp=>Rn p.1.1 p.1.2.1,λr=>(dI r,[])⟩]
theorem Ag1:An prog 191 AFu:=Av (fn:=f191) ⟨⟨E79,pk trivial,λ_ R K=>by
 simp(disch:=refine id ?_;kernel_rfl) only[Rn,ASn,TX,AJ (ADT _ _ _) (K:=A2 E79 f191 0 R K)];kernel_rfl⟩,trivial⟩
end
end Go.Proofs.X
