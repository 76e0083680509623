import Derived.KernelRfl
import Derived.Test.YtoinnpeenpmgkaaGreatK3
set_option linter.unusedVariables false
set_option linter.unusedSimpArgs false
namespace Go.Proofs.X
open Go Go.Va Go.Proofs.Tryz
set_option maxRecDepth 100000
noncomputable section
abbrev E48:=eN [(83,c83),(84,c84),(85,c85),(86,c86),(87,c87)] {Bw:=[(2,[0,1,5,6,18])],Da:=[(2,[0,1,5,6])],O4:=[(0,Am),(1,.bool)]}
def AAK a b c:=sT 31 [(0,Ar a),(1,Bb b),(5,Aq),(6,A1)] [.box (BM c),.box Wv]
def AyA a b c:=λ(d:Bool)=>xN 31 [(0,Ar a),(1,Bb b),(5,Aq),(6,A1),(18,dB d)] [.box (BM c),.box Wv]
def Mm(a:ASL)(b:ASN)(c:ASC):ATV Bool:=
 (Ko a c).bind λe=>bif !e then
 some true
 else
 (Gu a b).bind λg=>some (!g)
theorem AC4 a b c:AQ E48 0 2 (code f40) 12 (AAK a b c) (Mm a b c) (AyA a b c):=by
 unfold AQ;simp only[Mm,ASr];kernel_rfl
def FG(a:ASL)(b:ASN)(c:ASC):ATV (ASC×Bool):=
 (Mm a b c).bind λd=>bif d then
 some ((([]:ASV),()),false)
 else
 (Ov a c).bind λi=>(Vm a b i).bind λj=>bif !j.1 then
 some ((([]:ASV),()),false)
 else
 (Ug j.2).bind λk=>some ((k,()),true)
def c40:=Ci [.d ATK,.d ATL,.d Am] [⟨[.AB [] ATK,.AB [] ATL,.AB [] Am],[],ASC×Bool,λp=>FG p.1.1 p.1.2.1 p.1.2.2.1,λr=>(.cons (BM r.1) (.cons (dB r.2) .nil),[])⟩]
theorem AaU:Ao prog 40 c40:=Av (fn:=f40) ⟨⟨E48,pk ⟨je,qT,Aa1,Alw,Alx,trivial⟩,λ_ R K=>by
 simp(disch:=refine id ?_;kernel_rfl) only[FG,ASs,Ba (AC4 ..) (K:=A0 E48 f40 0 R K)];kernel_rfl⟩,trivial⟩
abbrev E49:=eN [(83,c83)] {A5:=[(5,{A7:=[0,3,5,6],Cg:=[(5,false,.row [] 151 Ae true)]}),(9,{A7:=[0,3,5,6,7,8],Cg:=[(5,false,.row [] 151 Ae true)]})],BB:=[(5,[5]),(9,[0,3,5,6])],Bw:=[(14,[0,3,5,6,7,8,9])],Da:=[(14,[0,3,5,6,7,8,9])],gk:=[(0,.row [] 151 Ae true)]}
def AAN a b (z_:Int×ASM):=sT 64 (Ab7 a z_.1) [.box (BM b),DG z_.2]
def AyD(a:ASL)(b:ASC):=λ(c:ASM)=>xE 0 64 [(5,.AG 0)] [DG c]
def AAM a d b (z_:Int×Int×ASM):=sT 64 [(0,Ar a),(3,Aq),(5,.AG 1),(6,dI d),(7,dI z_.1),(8,dI z_.2.1)] [.box (BM b),DG z_.2.2]
def AyC a d b:=λ(e:ASM)=>xE 2 64 (Ab7 a d) [.box (BM b),DG e]
def AAL a d g i b j k:=sT 64 [(0,Ar a),(3,Aq),(5,.AG 1),(6,dI d),(7,dI g),(8,dI i),(9,dI k)] [.box (BM b),DG j]
def AyB a d g i b j (k:Int):=λ(l:Int)=>xN 64 [(0,Ar a),(3,Aq),(5,.AG 1),(6,dI d),(7,dI g),(8,dI i),(9,dI l)] [.box (BM b),DG j]
def Kb(a:ASL)(d g i:Int)(b:ASC)(j:ASM)(k:Int):ATV Int:=
 if 0<=d/\d<b.1.length then
 bif decide (i<((b.1.getD d.toNat ATJ.zero).length:Int))then
 if 0<=d/\d<b.1.length then
 if 0<=i/\i<(b.1.getD d.toNat ATJ.zero).length then
 some ((b.1.getD d.toNat ATJ.zero).getD i.toNat ATE.zero)
 else none
 else none
 else
 some k
 else none
theorem AC5 a d g i b j k:AQ E49 0 14 (sb (cd f41 244) 204) 50 (AAL a d g i b j k) (Kb a d g i b j k) (AyB a d g i b j k):=by
 unfold AQ;simp only[Kb,ASr];kernel_rfl
def KZ(a:ASL)(d:Int)(b:ASC)(g i:Int)(j:ASM):ATV ((Int×Int×ASM)⊕ASM):=
 if 0<=d/\d<b.1.length then
 bif decide (i<=((b.1.getD d.toNat ATJ.zero).length:Int))then
 if 0<=d/\d<a.length then
 (Kb a d g i b j (a.getD d.toNat Ab.zero).2.1).bind λl=>if(j.length+([(d,g,wI (l-g),())]:ASM).length)*24<=140737488355328 then
 some (.inl (l,wI (i+1),j++([(d,g,wI (l-g),())]:ASM)))
 else none
 else none
 else
 some (.inr j)
 else none
def EW a d b (z_:Int×Int×ASM):=KZ a d b z_.1 z_.2.1 z_.2.2
def S6 a d b g i j:=fix (EW a d b) (g,i,j)
theorem AC6 a d b:A3 E49 0 9 (cd f41 244) 102 (AAM a d b) (EW a d b) (AyC a d b):=by
 intro _;simp(disch:=refine id ?_;kernel_rfl) only[EW,KZ,ASr,Ba (AC5 ..) (K:=JG E49 0 9)];kernel_rfl
def K0(a:ASL)(b:ASC)(d:Int)(n:ASM):ATV (AS6⊕ASM):=
 bif decide (d<(a.length:Int))then
 (S6 a d b 0 0 n).bind λe=>some (.inl (wI (d+1),e))
 else
 some (.inr n)
def EX a b (z_:Int×ASM):=K0 a b z_.1 z_.2
def S7 a b d n:=fix (EX a b) (d,n)
theorem AC7 a b:A3 E49 0 5 (code f41) 122 (AAN a b) (EX a b) (AyD a b):=by
 intro _;simp(disch:=refine id ?_;kernel_rfl) only[EX,K0,ASr,S6,AF (AC6 _ _ _) (K:=JG E49 0 5)];kernel_rfl
def Jh(a:ASL)(b:ASC):ATV ASM:=
 (Ko a b).bind λo=>bif !o then
 some ([]:ASM)
 else
 (S7 a b 0 ([]:ASM)).bind λc=>some c
def c41:=Ci [.d ATK,.d Am] [⟨[.AB [] ATK,.AB [] Am],[],ASM,λp=>Jh p.1.1 p.1.2.1,λr=>(.AG 0,[DG r])⟩]
theorem qP:Ao prog 41 c41:=Av (fn:=f41) ⟨⟨E49,pk ⟨je,trivial⟩,λ_ R K=>by
 simp(disch:=refine id ?_;kernel_rfl) only[Jh,ASs,S7,AF (AC7 _ _) (K:=A0 E49 f41 0 R K)];kernel_rfl⟩,trivial⟩
abbrev E50:=eN [] {Aw:=false,A5:=[(3,{A7:=[0,3,4],Cg:=[(3,true,.row [2] 2 ATE true)]})],BB:=[(3,[3])]}
def AAO a b (z_:Int×ASH):=sT 25 [(0,dI a),(3,Aq),(4,dI z_.1)] [.box (.pr I8 (.pr .zs cN)),Gp b,Ay z_.2]
def AyE(a:Int) b:=λ(c:ASH)=>xE 0 25 [(3,Aq)] [.box (.pr I8 (.pr .zs cN)),Gp b,Ay c]
def Qe(a:Int)(b:ASQ)(d:Int)(e:ASH):ATV (AS5⊕ASH):=
 bif decide (d<a)then
 if(e.length+([d]:ASH).length)*8<=140737488355328 then
 some (.inl (wI (d+1),e++([d]:ASH)))
 else none
 else
 some (.inr e)
def Iv a b (z_:Int×ASH):=Qe a b z_.1 z_.2
def Xi a b d e:=fix (Iv a b) (d,e)
theorem AC8 a b:A3 E50 0 3 (code f42) 58 (AAO a b) (Iv a b) (AyE a b):=by
 intro _;simp only[Iv,Qe,ASr];kernel_rfl
def Wp(a:Int):ATV (Int×ASQ×ASH):=
 if Ty.row Ai=true/\(0:Int)<=a/\a<=a/\((32:Nat):Int)*a<=(281474976710656:Int)/\a<=(9223372036854775807:Int)then
 (Xi a (List.replicate a.toNat (0,([]:ASH),())) 0 ([]:ASH)).bind λc=>some (0,List.replicate a.toNat (0,([]:ASH),()),c)
 else none
def c42:=Ci [.d ATE] [⟨[.AB [] ATE],[],Int×ASQ×ASH,λp=>Wp p.1.1,λr=>(.ptr 0 r.1 [] 0,[.box (.pr I8 (.pr .zs cN)),Gp r.2.1,Ay r.2.2])⟩]
theorem Ak7:Ao prog 42 c42:=Av (fn:=f42) ⟨⟨E50,pk trivial,λ_ R K=>by
 simp(disch:=refine id ?_;kernel_rfl) only[Wp,ASs,Xi,AF (AC8 _ _) (K:=A0 E50 f42 0 R K)];kernel_rfl⟩,trivial⟩
abbrev E51:=eN [(83,c83)] {A5:=[(5,[3,5,6])],BB:=[(5,[5])]}
def AAP a (z_:Int×Int):=sT 29 [(3,Aq),(5,dI z_.1),(6,dI z_.2)] [.box (BM a)]
def AyF(a:ASC):=λ(b:Int)=>xE 0 29 [(5,dI b)] []
def PT(a:ASC)(c d:Int):ATV (AS7⊕Int):=
 bif decide (d<(a.1.length:Int))then
 if 0<=d/\d<a.1.length then
 some (.inl (wI (c+((a.1.getD d.toNat ATJ.zero).length:Int)),wI (d+1)))
 else none
 else
 some (.inr c)
def Is a (z_:Int×Int):=PT a z_.1 z_.2
def Xf a c d:=fix (Is a) (c,d)
theorem AC9 a:A3 E51 0 5 (code f88) 122 (AAP a) (Is a) (AyF a):=by
 intro _;simp only[Is,PT,ASr];kernel_rfl
def S5(e:ASL)(a:ASC):ATV Int:=
 (Ko e a).bind λg=>bif !g then
 some (-1)
 else
 (Xf a (e.length:Int) 0).bind λb=>some b
def c88:=Ci [.d ATK,.d Am] [⟨[.AB [] ATK,.AB [] Am],[],Int,λp=>S5 p.1.1 p.1.2.1,λr=>(dI r,[])⟩]
theorem Aly:Ao prog 88 c88:=Av (fn:=f88) ⟨⟨E51,pk ⟨je,trivial⟩,λ_ R K=>by
 simp(disch:=refine id ?_;kernel_rfl) only[S5,ASs,Xf,AF (AC9 _) (K:=A0 E51 f88 0 R K)];kernel_rfl⟩,trivial⟩
abbrev E52:=eN [(41,c41)] {wD:=[(53,2)],A5:=[(3,{A7:=[0,3,5,6],Cg:=[(5,false,.row [] 32 ATJ true)]}),(7,[0,3,5,6,7,8]),(13,{A7:=[5,9,10],O4:=[(9,false,ATN)]})],BB:=[(3,[0,3,5]),(7,[0,3,5,6,7]),(13,[5])]}
def AAS a (z_:Int×ASV):=sT 62 [(5,.AG 0),(9,Gw a),(10,dI z_.1)] [Dn z_.2]
def AyI(a:ASM):=λ(b:ASV)=>xE 4 62 [(5,.AG 0)] [Dn b]
def MM(a:ASM)(c:Int)(d:ASV):ATV ((Int×ASV)⊕ASV):=
 bif decide (c<(a.length:Int))then
 if 0<=c/\c<a.length then
 if(0:Int)<=(a.getD c.toNat Ae.zero).1/\(a.getD c.toNat Ae.zero).1<(d.length:Int)then
 if 0<=c/\c<a.length then
 if(0:Int)<=(a.getD c.toNat Ae.zero).2.1/\(a.getD c.toNat Ae.zero).2.1<(d.getD (a.getD c.toNat Ae.zero).1.toNat ATJ.zero).length then
 some (.inl (wI (c+1),d.set (a.getD c.toNat Ae.zero).1.toNat ((d.getD (a.getD c.toNat Ae.zero).1.toNat ATJ.zero).set (a.getD c.toNat Ae.zero).2.1.toNat c)))
 else none
 else none
 else none
 else none
 else
 some (.inr d)
def Gm a (z_:Int×ASV):=MM a z_.1 z_.2
def Qa a c d:=fix (Gm a) (c,d)
theorem ADc a:A3 E52 0 13 (code f90) 250 (AAS a) (Gm a) (AyI a):=by
 intro _;simp only[Gm,MM,ASr];kernel_rfl
def AAR e g (z_:Int×ASV):=sT 62 (Ab7 e z_.1) [.box (BM g),Dn z_.2]
def AyH e g:=λ(i:ASV)=>xE 0 62 [(0,Ar e),(3,Aq),(5,.AG 1)] [.box (BM g),Dn i]
def AAQ e j g k (z_:Int×ASH):=sT 62 [(0,Ar e),(3,Aq),(5,.AG 1),(6,dI j),(7,.AG 2),(8,dI z_.1)] [.box (BM g),Dn k,Ay z_.2]
def AyG e j g k:=λ(l:ASH)=>xE 2 62 [(0,Ar e),(3,Aq),(5,.AG 1),(6,dI j),(7,.AG 2)] [.box (BM g),Dn k,Ay l]
def MK(e:ASL)(j:Int)(g:ASC)(k:ASV)(n:Int)(o:ASH):ATV (AS5⊕ASH):=
 bif decide (n<(o.length:Int))then
 if 0<=n/\n<o.length then
 some (.inl (wI (n+1),o.set n.toNat (-1)))
 else none
 else
 some (.inr o)
def Gk e j g k (z_:Int×ASH):=MK e j g k z_.1 z_.2
def P8 e j g k n o:=fix (Gk e j g k) (n,o)
theorem ADa e j g k:A3 E52 0 7 (cd f90 116) 202 (AAQ e j g k) (Gk e j g k) (AyG e j g k):=by
 intro _;simp only[Gk,MK,ASr];kernel_rfl
def ML(e:ASL)(g:ASC)(j:Int)(k:ASV):ATV ((Int×ASV)⊕ASV):=
 bif decide (j<(e.length:Int))then
 if 0<=j/\j<e.length then
 if Ty.row ATE=true/\(0:Int)<=(e.getD j.toNat Ab.zero).2.1/\(e.getD j.toNat Ab.zero).2.1<=(e.getD j.toNat Ab.zero).2.1/\((8:Nat):Int)*(e.getD j.toNat Ab.zero).2.1<=(281474976710656:Int)/\(e.getD j.toNat Ab.zero).2.1<=(9223372036854775807:Int)then
 (P8 e j g k 0 (List.replicate (e.getD j.toNat Ab.zero).2.1.toNat 0)).bind λl=>if(k.length+([l]:ASV).length)*24<=140737488355328 then
 some (.inl (wI (j+1),k++([l]:ASV)))
 else none
 else none
 else none
 else
 some (.inr k)
def Gl e g (z_:Int×ASV):=ML e g z_.1 z_.2
def P9 e g j k:=fix (Gl e g) (j,k)
theorem ADb e g:A3 E52 0 3 (code f90) 58 (AAR e g) (Gl e g) (AyH e g):=by
 intro _;simp(disch:=refine id ?_;kernel_rfl) only[Gl,ML,ASr,P8,AF (ADa _ _ _ _) (K:=JG E52 0 3)];kernel_rfl
def R6(e:ASL)(g:ASC):ATV ASV:=
 (P9 e g 0 ([]:ASV)).bind λi=>(Jh e g).bind λa=>(Qa a 0 i).bind λb=>some b
def c90:=Ci [.d ATK,.d Am] [⟨[.AB [] ATK,.AB [] Am],[],ASV,λp=>R6 p.1.1 p.1.2.1,λr=>(.AG 0,[Dn r])⟩]
theorem Alz:Ao prog 90 c90:=Av (fn:=f90) ⟨⟨E52,pk ⟨qP,trivial⟩,λ_ R K=>by
 simp(disch:=refine id ?_;kernel_rfl) only[R6,ASs,P9,AF (ADb _ _) (K:=A0 E52 f90 0 R K),Qa,AF (ADc _) (K:=A0 E52 f90 0 R K)];kernel_rfl⟩,trivial⟩
abbrev E53:=eN [(67,c67)] {A5:=[(4,{A7:=[4,5,10,12,13],Cg:=[(12,false,.row [] 5 ATG true)]}),(15,[4,5,10,16,17])],BB:=[(4,{A7:=[10,11,12],O4:=[(12,false,.sl ATG)]}),(15,[10,11,16])],Bw:=[(13,[3,4,5,10,16,86])],Da:=[(13,[2,3,4,5,10,16])],gk:=[(0,.row [1,1] 199 ATF true)]}
def AAV a b c (z_:Int):=sT 103 [(4,dI a),(5,Aq),(10,A1),(16,dI c),(17,dI z_)] [.box (jD b),.box bP]
def AyL(a:Int)(b:ASG) c:=Sum.elim (λ(d:Unit)=>xR 103 [(10,Aq),(11,dB false),(16,dI c)] [.box bP]) (λ(e:Unit)=>xE 2 103 [(10,Aq),(16,dI c)] [.box bP])
def Oq(a:Int)(b:ASG)(c g:Int):ATV (Int⊕(Unit⊕Unit)):=
 bif decide (g<a)then
 if 0<=g/\g<b.2.1.length then
 bif b.2.1.getD g.toNat (Ty.zero .bool)then
 some (.inr (.inl ()))
 else
 some (.inl (wI (g+1)))
 else none
 else
 some (.inr (.inr ()))
def Hj a b c (z_:Int):=Oq a b c z_
def R5 a b c g:=fix (Hj a b c) g
theorem ADf a b c:A3 E53 0 15 (code f92) 250 (AAV a b c) (Hj a b c) (AyL a b c):=by
 intro _;simp only[Hj,Oq,ASr];kernel_rfl
def AAU i j a b k:=sT 103 [(2,Gw i),(3,dI j),(4,dI a),(5,Aq),(10,A1),(16,dI k)] [.box (jD b),.box bP]
def AyK(i:ASM) j a b k:=λ(l:Bool)=>xN 103 [(3,dI j),(4,dI a),(5,Aq),(10,A1),(16,dI k),(86,dB l)] [.box (jD b),.box bP]
def Nx(i:ASM)(j a:Int)(b:ASG)(k:Int):ATV Bool:=
 bif decide (k<0)then
 some true
 else
 if 0<=k/\k<i.length then
 some ((i.getD k.toNat Ae.zero).2.2.1 !=(wI (a-j)))
 else none
theorem ADe i j a b k:AQ E53 0 13 (code f92) 60 (AAU i j a b k) (Nx i j a b k) (AyK i j a b k):=by
 unfold AQ;simp only[Nx,ASr];kernel_rfl
def AAT a b (z_:Int×ASH):=sT 103 [(4,dI a),(5,Aq),(10,A1),(12,.AG 2),(13,dI z_.1)] [.box (jD b),.box bP,Lg z_.2]
def AyJ(a:Int)(b:ASG):=Sum.elim (λ(n:ASH)=>xR 103 [(10,Aq),(11,dB false),(12,aM n)] [.box bP]) (λ(o:ASH)=>xE 0 103 [(10,Aq),(12,aM o)] [.box bP])
def Oo(a:Int)(b:ASG)(q:Int)(s:ASH):ATV (AS5⊕(ASH⊕ASH)):=
 bif decide (q<a)then
 if 0<=q/\q<b.1.length then
 bif decide ((b.1.getD q.toNat Aa.zero).1>=0)then
 some (.inr (.inl s))
 else
 if 0<=q/\q<b.1.length then
 if(s.length+([IntKind.u8.wrap (b.1.getD q.toNat Aa.zero).2.1]:ASH).length)*1<=140737488355328 then
 some (.inl (wI (q+1),s++([IntKind.u8.wrap (b.1.getD q.toNat Aa.zero).2.1]:ASH)))
 else none
 else none
 else none
 else
 some (.inr (.inr s))
def Hh a b (z_:Int×ASH):=Oo a b z_.1 z_.2
def R4 a b q s:=fix (Hh a b) (q,s)
theorem ADd a b:A3 E53 0 4 (code f92) 426 (AAT a b) (Hh a b) (AyJ a b):=by
 intro _;simp only[Hh,Oo,ASr];kernel_rfl
def QL(b:ASG)(t:ASV)(i:ASM)(j a:Int):ATV ATe:=
 if 0<=j/\j<b.1.length then
 bif decide ((b.1.getD j.toNat Aa.zero).1<0)then
 (R4 a b j ([]:ASH)).bind (Sum.elim (λn=>some (0,0,false,([]:ASH))) (λo=>(Kp o).bind λu=>some (-1,u.1,true,u.2.2)))
 else
 if 0<=j/\j<b.1.length then
 if(0:Int)<=(b.1.getD j.toNat Aa.zero).1/\(b.1.getD j.toNat Aa.zero).1<(t.length:Int)then
 if 0<=j/\j<b.1.length then
 if(0:Int)<=(b.1.getD j.toNat Aa.zero).2.1/\(b.1.getD j.toNat Aa.zero).2.1<((t.getD (b.1.getD j.toNat Aa.zero).1.toNat ATJ.zero).length:Int)then
 (Nx i j a b ((t.getD (b.1.getD j.toNat Aa.zero).1.toNat ATJ.zero).getD (b.1.getD j.toNat Aa.zero).2.1.toNat ATE.zero)).bind λl=>bif l then
 some (0,0,false,([]:ASH))
 else
 (R5 a b ((t.getD (b.1.getD j.toNat Aa.zero).1.toNat ATJ.zero).getD (b.1.getD j.toNat Aa.zero).2.1.toNat ATE.zero) (wI (j+1))).bind (Sum.elim (λd=>some (0,0,false,([]:ASH))) (λe=>some ((t.getD (b.1.getD j.toNat Aa.zero).1.toNat ATJ.zero).getD (b.1.getD j.toNat Aa.zero).2.1.toNat ATE.zero,0,true,([]:ASH))))
 else none
 else none
 else none
 else none
 else none
def c92:=Ci [.d Au,.d ATT,.d ATN,.d ATE,.d ATE] [⟨[.AB [] Au,.AB [] ATT,.AB [] ATN,.AB [] ATE,.AB [] ATE],[],ATe,λp=>QL p.1.1 p.1.2.1 p.1.2.2.1 p.1.2.2.2.1 p.1.2.2.2.2.1,λr=>(.cons (.pr (dI r.1) (.pr (.pr (dI r.2.1) Ps) .u)) (.cons (dB r.2.2.1) .nil),[Bq r.2.2.2])⟩]
theorem AlA:Ao prog 92 c92:=Av (fn:=f92) ⟨⟨E53,pk ⟨qR,trivial⟩,λ_ R K=>by
 simp(disch:=refine id ?_;kernel_rfl) only[QL,ASs,R4,AF (ADd _ _) (K:=A0 E53 f92 0 R K),Ba (ADe ..) (K:=A0 E53 f92 0 R K),R5,AF (ADf _ _ _) (K:=A0 E53 f92 0 R K)];kernel_rfl⟩,trivial⟩
abbrev E54:=eN [(40,c40),(41,c41),(64,c64),(83,c83),(84,c84),(85,c85),(88,c88),(89,c89),(90,c90),(91,c91),(92,c92)] {Aw:=false,A5:=[(17,{A7:=[8,15,16,17,18,19,20,21,22],O4:=[(17,false,ATR),(18,false,ATT),(19,false,ATN)],Cg:=[(20,false,.row [] 96 As false)]})],BB:=[(17,[6,7,20])],Bw:=[(3,[0,4,5,8,38]),(6,[0,4,5,8,58]),(18,{A7:=[6,7,8,15,16,17,18,19,20,21,22],Cg:=[(20,false,.row [] 96 As false)]}),(20,[8,15,16,17,18,19,20,21,22]),(23,[8,15,16,17,18,19,20,21,22,23,25,137])],Da:=[(3,[0,4,5,8]),(6,[0,4,5,8,9,10]),(18,[8,15,16,17,18,19,20,21,22]),(20,[8,15,16,17,18,19,20,21,22]),(23,[8,15,16,17,18,19,20,21,22,23,24,25,26])],iI:=[(35,ATL),(43,ATL)],gk:=[(0,.row [] 96 As false)]}
def AsR a b c d e g i (z_:Int×Int×AST):=sT 150 (qg a b c z_.1 z_.2.1) (mJ z_.2.2 d e g i)
def AqU(a:ASW)(b:ASV)(c:ASM)(d:ASK)(e:ASI)(g:ASK)(i:ASI):=Sum.elim (λ(j:AST)=>xR 150 [(6,.zs),(7,dB false),(20,.AG 0)] [eW j]) (λ(k:AST)=>xE 0 150 [(20,.AG 0)] [eW k])
def AAZ a b c l n o d e g i:=sT 150 (qg a b c l n) (mJ o d e g i)
def AyP a b c l n o d e g i:=Sum.elim (λ(q:(Int×AST))=>xN 150 (qg a b c q.1 n) (mJ q.2 d e g i)) (λ(s:Unit)=>xR 150 [(6,.zs),(7,dB false),(8,.zs),(15,Aq),(16,A1),(17,Yy a),(18,Ik b),(19,Gw c),(20,.AG 2),(21,dI l),(22,dI n)] (mJ o d e g i))
def Anb a b c l n (t:ATe) (u:ATe) o d e g i:=sT 150 [(8,.zs),(15,Aq),(16,A1),(17,Yy a),(18,Ik b),(19,Gw c),(20,.AG 2),(21,dI l),(22,dI n),(23,Nz),(24,dB t.2.2.1),(25,Qy),(26,dB u.2.2.1)] (Aom o t.1 t.2.1 u.1 u.2.1 d e g i t.2.2.2 u.2.2.2)
def AeD(a:ASW)(b:ASV)(c:ASM)(l n:Int)(t u:ATe)(o:AST)(d:ASK)(e:ASI)(g:ASK)(i:ASI)(m0:Bool):Ex×St:=xN 150 [(8,.zs),(15,Aq),(16,A1),(17,Yy a),(18,Ik b),(19,Gw c),(20,.AG 2),(21,dI l),(22,dI n),(23,Nz),(25,Qy),(137,dB m0)] (Aom o t.1 t.2.1 u.1 u.2.1 d e g i t.2.2.2 u.2.2.2)
theorem ADj a b c l n t u o d e g i:XJ E54 0 23 (sb (cd f43 524276) 6) (pt 92) (Anb a b c l n t u o d e g i)=some (AeD a b c l n t u o d e g i ((!t.2.2.1)||(!u.2.2.1))):=by
 refine .trans (b:=
 bif !t.2.2.1 then
 some (AeD a b c l n t u o d e g i true)
 else
 some (AeD a b c l n t u o d e g i (!u.2.2.1))) (by kernel_rfl) ?_
 cases (!t.2.2.1);rfl;rfl
def AAY a b c l n o d e g i:=sT 150 (qg a b c l n) (mJ o d e g i)
def AyO a b c l n o d e g i:=Sum.elim (λ(v:Unit)=>xE 1 150 (qg a b c l n) (mJ o d e g i)) (λ(w:Unit)=>xN 150 (qg a b c l n) (mJ o d e g i))
def EV(a:ASW)(b:ASV)(c:ASM)(l n:Int)(o:AST)(d:ASK)(e:ASI)(g:ASK)(i:ASI):ATV (Unit⊕Unit):=
 bif decide (n<(d.length:Int))then
 (Ez (d,e,()) a n).bind λx=>bif !x then
 (Ez (g,i,()) a n).bind λy=>bif !y then
 some (.inl ())
 else
 some (.inr ())
 else
 some (.inr ())
 else
 some (.inr ())
theorem ADi a b c l n o d e g i:AQ E54 0 20 (sb (cd f43 524276) 6) 4 (AAY a b c l n o d e g i) (EV a b c l n o d e g i) (AyO a b c l n o d e g i):=by
 unfold AQ;simp only[EV,ASr];kernel_rfl
def Ka(a:ASW)(b:ASV)(c:ASM)(l n:Int)(o:AST)(d:ASK)(e:ASI)(g:ASK)(i:ASI):ATV ((Int×AST)⊕Unit):=
 (EV a b c l n o d e g i).bind (Sum.elim (λv=>some (.inl (l,o))) (λw=>(QL (d,e,()) b c l n).bind λt=>(QL (g,i,()) b c l n).bind λu=>Po (Anb a b c l n t u o d e g i) (
 bif (!t.2.2.1)||(!u.2.2.1)then
 some (.inr ())
 else
 if(o.length+([((t.1,(t.2.1,t.2.2.2,()),()),(u.1,(u.2.1,u.2.2.2,()),()),wI (n-l),())]:AST).length)*88<=140737488355328 then
 some (.inl (n,o++([((t.1,(t.2.1,t.2.2.2,()),()),(u.1,(u.2.1,u.2.2.2,()),()),wI (n-l),())]:AST)))
 else none)))
theorem ADk a b c l n o d e g i:AQ E54 0 18 (cd f43 524276) 6 (AAZ a b c l n o d e g i) (Ka a b c l n o d e g i) (AyP a b c l n o d e g i):=by
 unfold AQ;simp(disch:=refine id ?_;kernel_rfl) only[Ka,ASr,Ba (ADi ..) (K:=Uk E54 0 18),Ev (ADj ..) (K:=Uk E54 0 18)];kernel_rfl
def JI(a:ASW)(b:ASV)(c:ASM)(d:ASK)(e:ASI)(g:ASK)(i:ASI)(l n:Int)(o:AST):ATV ((Int×Int×AST)⊕(AST⊕AST)):=
 bif decide (n<=(d.length:Int))then
 (Ka a b c l n o d e g i).bind (Sum.elim (λq=>some (.inl (q.1,wI (n+1),q.2))) (λs=>some (.inr (.inl o))))
 else
 some (.inr (.inr o))
def Eo a b c d e g i (z_:Int×Int×AST):=JI a b c d e g i z_.1 z_.2.1 z_.2.2
def Ms a b c d e g i l n o:=fix (Eo a b c d e g i) (l,n,o)
theorem Avb a b c d e g i:A3 E54 0 17 (code f43) 262138 (AsR a b c d e g i) (Eo a b c d e g i) (AqU a b c d e g i):=by
 intro _;simp(disch:=refine id ?_;kernel_rfl) only[Eo,JI,ASr,Ba (ADk ..) (K:=JG E54 0 17)];kernel_rfl
def AAX a1 b1 c1 d1 e1:=sT 150 [(0,Ar a1),(4,Aq),(5,A1),(8,.zs),(9,EB),(10,dB d1)] [.box (Yz b1),.box (BM c1),.box (BM e1)]
def AyN a1 b1 c1 (d1:Bool) (e1:ASC):=λ(g1:Bool)=>xN 150 [(0,Ar a1),(4,Aq),(5,A1),(8,.zs),(58,dB g1)] [.box (Yz b1),.box (BM c1)]
def Oa(a1:ASL)(b1:ASx)(c1:ASC)(d1:Bool)(e1:ASC):ATV Bool:=
 bif !d1 then
 some true
 else
 (S5 a1 e1).bind λi1=>(S5 a1 c1).bind λj1=>some (i1 !=j1)
theorem ADh a1 b1 c1 d1 e1:AQ E54 0 6 (code f43) 124 (AAX a1 b1 c1 d1 e1) (Oa a1 b1 c1 d1 e1) (AyN a1 b1 c1 d1 e1):=by
 unfold AQ;simp only[Oa,ASr];kernel_rfl
def AAW a1 b1 c1:=sT 150 [(0,Ar a1),(4,Aq),(5,A1),(8,.zs)] [.box (Yz b1),.box (BM c1)]
def AyM a1 b1 c1:=λ(k1:Bool)=>xN 150 [(0,Ar a1),(4,Aq),(5,A1),(8,.zs),(38,dB k1)] [.box (Yz b1),.box (BM c1)]
def N9(a1:ASL)(b1:ASx)(c1:ASC):ATV Bool:=
 (Ko a1 c1).bind λl1=>bif !l1 then
 some true
 else
 (Gu a1 ([b1]:ASN)).bind λn1=>some (!n1)
theorem ADg a1 b1 c1:AQ E54 0 3 (code f43) 28 (AAW a1 b1 c1) (N9 a1 b1 c1) (AyM a1 b1 c1):=by
 unfold AQ;simp only[N9,ASr];kernel_rfl
def Pr(a1:ASL)(b1:ASx)(c1:ASC):ATV (Bool×AST):=
 (N9 a1 b1 c1).bind λk1=>bif k1 then
 some (false,([]:AST))
 else
 (FG a1 ([b1]:ASN) c1).bind λo1=>(Oa a1 b1 c1 o1.2 o1.1).bind λg1=>bif g1 then
 some (false,([]:AST))
 else
 (BG a1 b1.2.2.1).bind λq1=>(BG a1 b1.2.2.2.1).bind λs1=>(Kq q1.2).bind λt1=>(Kq s1.2).bind λu1=>(Ov a1 c1).bind λa=>(R6 a1 c1).bind λb=>(Jh a1 c1).bind λc=>(Ms a b c t1.1 t1.2 u1.1 u1.2 0 1 ([]:AST)).bind (Sum.elim (λj=>some (false,([]:AST))) (λk=>some (true,k)))
def c43:=Ci [.d ATK,.d Af,.d Am] [⟨[.AB [] ATK,.AB [] Af,.AB [] Am],[],Bool×AST,λp=>Pr p.1.1 p.1.2.1 p.1.2.2.1,λr=>(.cons HS (.cons (dB r.1) .nil),[eW r.2])⟩]
theorem Ak8:Ao prog 43 c43:=Av (fn:=f43) ⟨⟨E54,pk ⟨AaU,qP,jd,je,qT,Aa1,Aly,Aa2,Alz,qU,AlA,trivial⟩,λ_ R K=>by
 simp(disch:=refine id ?_;kernel_rfl) only[Pr,ASs,Ba (ADg ..) (K:=A0 E54 f43 0 R K),Ba (ADh ..) (K:=A0 E54 f43 0 R K),Ms,AF (Avb _ _ _ _ _ _ _) (K:=A0 E54 f43 0 R K)];kernel_rfl⟩,trivial⟩
abbrev E55:=eN [] {A5:=[(4,[2,3,5])],BB:=[(4,[4])],Bw:=[(2,[2,3,19])],Da:=[(2,[2,3])]}
def AA0 a b (z_:Int):=sT 38 [(2,Aq),(3,A1),(5,dI z_)] [.box (JK a),.box (JK b)]
def AyQ(a b:ASA):=Sum.elim (λ(c:Unit)=>xR 38 mQ []) (λ(d:Unit)=>xE 0 38 [] [])
def I4(a b:ASA)(e:Int):ATV (Int⊕(Unit⊕Unit)):=
 bif decide (e<(a.2.1.length:Int))then
 if 0<=e/\e<a.2.1.length then
 if 0<=e/\e<b.2.1.length then
 bif (a.2.1.getD e.toNat ATF.zero) !=(b.2.1.getD e.toNat ATF.zero)then
 some (.inr (.inl ()))
 else
 some (.inl (wI (e+1)))
 else none
 else none
 else
 some (.inr (.inr ()))
def DD a b (z_:Int):=I4 a b z_
def Wg a b e:=fix (DD a b) e
theorem ADm a b:A3 E55 0 4 (code f78) 58 (AA0 a b) (DD a b) (AyQ a b):=by
 intro _;simp only[DD,I4,ASr];kernel_rfl
def Anc a b:=sT 38 [(2,Aq),(3,A1)] [.box (JK a),.box (JK b)]
def AeE(a b:ASA)(m0:Bool):Ex×St:=xN 38 [(2,Aq),(3,A1),(19,dB m0)] [.box (JK a),.box (JK b)]
theorem ADl a b:XJ E55 0 2 (code f78) (pt 12) (Anc a b)=some (AeE a b ((a.1 !=b.1)||((a.2.1.length:Int) !=(b.2.1.length:Int)))):=by
 refine .trans (b:=
 bif a.1 !=b.1 then
 some (AeE a b true)
 else
 some (AeE a b ((a.2.1.length:Int) !=(b.2.1.length:Int)))) (by kernel_rfl) ?_
 cases (a.1 !=b.1);rfl;rfl
def Ey(a b:ASA):ATV Bool:=
 Po (Anc a b) (
 bif (a.1 !=b.1)||((a.2.1.length:Int) !=(b.2.1.length:Int))then
 some false
 else
 (Wg a b 0).bind (Sum.elim (λc=>some false) (λd=>some true)))
def c78:=Ci [.d Ai,.d Ai] [⟨[.AB [] Ai,.AB [] Ai],[],Bool,λp=>Ey p.1.1 p.1.2.1,λr=>(dB r,[])⟩]
theorem AaY:Ao prog 78 c78:=Av (fn:=f78) ⟨⟨E55,pk trivial,λ_ R K=>by
 simp(disch:=refine id ?_;kernel_rfl) only[Ey,ASs,Ev (ADl ..) (K:=A0 E55 f78 0 R K),Wg,AF (ADm _ _) (K:=A0 E55 f78 0 R K)];kernel_rfl⟩,trivial⟩
end
end Go.Proofs.X
namespace Go.Proofs.X
open Go Go.Va Go.Proofs.Tryz
set_option maxRecDepth 100000
noncomputable section
abbrev R56:Type:=ASM->Int->Int->ASI->Option (Bool×ASI×ASH)
def AvA(rc:R56):Va.Callee:=Ci [.d ATN,.VA,.d ATE,.d ATE] [⟨[.AB [] ATN,.k HS,.AB [] ATE,.AB [] ATE],[.row 4 .Aw .bool],Bool×ASI×ASH,λp=>rc p.1.1 p.1.2.2.1 p.1.2.2.2.1 p.2.1,λr=>(.cons I8 (.cons (dB r.1) .nil),[Il r.2.1,Ay r.2.2])⟩]
abbrev E56(rc:R56):=eN [(94,AvA rc)] {A5:=[(4,[0,1,2,3,10])],BB:=[(4,[8,9])],Bw:=[(5,[0,1,2,3,8,9,10]),(7,[0,1,2,3,10])],Da:=[(5,[0,1,2,3,10]),(7,[0,1,2,3,10])],gk:=[(0,.row [] 2 ATE true)]}
def AA3 a b c (z_:Int×ASI):=sT 80 (qh a b c z_.1) [Il z_.2]
def AyT(a:ASM)(b c:Int):=Sum.elim (λ(d:ATb)=>xR 80 [(8,.AG 1),(9,dB true)] [Il d.1,Ay d.2]) (λ(e:ASI)=>xE 0 80 [] [Il e])
def AA2 a b c g i:=sT 80 (qh a b c g) [Il i]
def AyS a b c g (i:ASI):=Sum.elim (λ(j:ASI)=>xN 80 (qh a b c g) [Il j]) (λ(k:ATb)=>xR 80 [(0,Gw a),(1,.AG 0),(2,dI b),(3,dI c),(8,.AG 1),(9,dB true),(10,dI g)] [Il k.1,Ay k.2])
def AA1 a b c g i:=sT 80 (qh a b c g) [Il i]
def AyR a b c g i:=Sum.elim (λ(l:Unit)=>xE 1 80 (qh a b c g) [Il i]) (λ(n:Unit)=>xN 80 (qh a b c g) [Il i])
def TC(rc:R56)(a:ASM)(b c g:Int)(i:ASI):ATV (Unit⊕Unit):=
 if 0<=g/\g<i.length then
 bif i.getD g.toNat (Ty.zero .bool)then
 some (.inl ())
 else
 if 0<=g/\g<a.length then
 bif (a.getD g.toNat Ae.zero).1 !=b then
 if 0<=g/\g<a.length then
 bif (a.getD g.toNat Ae.zero).2.1 !=b then
 some (.inl ())
 else
 some (.inr ())
 else none
 else
 some (.inr ())
 else none
 else none
theorem ADn(rc:R56) a b c g i:AQ (E56 rc) 1 7 (sb (cd f94 116) 6) 4 (AA1 a b c g i) (TC rc a b c g i) (AyR a b c g i):=by
 unfold AQ;simp only[TC,ASr];kernel_rfl
def TD(rc:R56)(a:ASM)(b c g:Int)(i:ASI):ATV (ASI⊕ATb):=
 (TC rc a b c g i).bind (Sum.elim (λl=>some (.inl i)) (λn=>if 0<=g/\g<i.length then
 if 0<=g/\g<a.length then
 if 0<=g/\g<a.length then
 (rc a (wI ((wI ((a.getD g.toNat Ae.zero).1+(a.getD g.toNat Ae.zero).2.1))-b)) c (i.set g.toNat true)).bind λo=>bif o.1 then
 if 0<=g/\g<a.length then
 if(([(a.getD g.toNat Ae.zero).2.2.1]:ASH).length+o.2.2.length)*8<=140737488355328 then
 some (.inr (o.2.1,([(a.getD g.toNat Ae.zero).2.2.1]:ASH)++o.2.2))
 else none
 else none
 else
 some (.inl o.2.1)
 else none
 else none
 else none))
theorem ADo(rc:R56) a b c g i:AQ (E56 rc) 1 5 (cd f94 116) 6 (AA2 a b c g i) (TD rc a b c g i) (AyS a b c g i):=by
 unfold AQ;simp(disch:=refine id ?_;kernel_rfl) only[TD,ASr,Ba (ADn ..) (K:=Uk (E56 rc) 1 5)];kernel_rfl
def UM(rc:R56)(a:ASM)(b c g:Int)(i:ASI):ATV ((Int×ASI)⊕(ATb⊕ASI)):=
 bif decide (g<(a.length:Int))then
 (TD rc a b c g i).bind (Sum.elim (λj=>some (.inl (wI (g+1),j))) (λk=>some (.inr (.inl (k.1,k.2)))))
 else
 some (.inr (.inr i))
def Qc(rc:R56) a b c (z_:Int×ASI):=UM rc a b c z_.1 z_.2
def Xh(rc:R56) a b c g i:=fix (Qc rc a b c) (g,i)
theorem ADp(rc:R56) a b c:A3 (E56 rc) 1 4 (code f94) 58 (AA3 a b c) (Qc rc a b c) (AyT a b c):=by
 intro _;simp(disch:=refine id ?_;kernel_rfl) only[Qc,UM,ASr,Ba (ADo ..) (K:=JG (E56 rc) 1 4)];kernel_rfl
def R9(rc:R56)(a:ASM)(b c:Int)(q:ASI):ATV (Bool×ASI×ASH):=
 bif b==c then
 some (true,q,([]:ASH))
 else
 (Xh rc a b c 0 q).bind (Sum.elim (λd=>some (true,d.1,d.2)) (λe=>some (false,e,([]:ASH))))
theorem U56 R (rc:R56) a b c q K:T6 (E56 rc) f94 R [Gw a,.AG 0,dI b,dI c] [Il q] K=(R9 rc a b c q).bind λr=>K (.cons I8 (.cons (dB r.1) .nil)) [Il r.2.1,Ay r.2.2]:=by
 simp(disch:=refine id ?_;kernel_rfl) only[R9,ASs,Xh,AF (ADp _ _ _ _) (K:=A0 (E56 rc) f94 1 R K)];kernel_rfl
def I6:Nat->R56
 |0=>λ_ _ _ _=>none
 |n+1=>R9 (I6 n)
def cE:R56:=I6 1000000
def c94:Va.Callee:=AvA cE
theorem Aa3:∀n,Ao prog 94 (AvA (I6 n))
 |0=>AkJ ⟨λ_=>rfl,trivial⟩
 |n+1=>Av (fn:=f94) ⟨⟨E56 (I6 n),pk ⟨Aa3 n,trivial⟩,λp R K=>U56 R (I6 n) p.1.1 p.1.2.2.1 p.1.2.2.2.1 p.2.1 K⟩,trivial⟩
theorem AlC:Ao prog 94 c94:=Aa3 _
abbrev E57:=eN [] {A5:=[(2,[0,1,5])],BB:=[(2,[4])]}
def AA4 a b (z_:Int):=sT 18 [(0,BJ a),(1,dI b),(5,dI z_)] []
def AyU(a:ASH)(b:Int):=Sum.elim (λ(c:Unit)=>xR 18 [(4,dB true)] []) (λ(d:Unit)=>xE 0 18 [] [])
def UE(a:ASH)(b e:Int):ATV (Int⊕(Unit⊕Unit)):=
 bif decide (e<(a.length:Int))then
 if 0<=e/\e<a.length then
 bif (a.getD e.toNat ATE.zero)==b then
 some (.inr (.inl ()))
 else
 some (.inl (wI (e+1)))
 else none
 else
 some (.inr (.inr ()))
def PY a b (z_:Int):=UE a b z_
def Xg a b e:=fix (PY a b) e
theorem ADq a b:A3 E57 0 2 (code f135) 26 (AA4 a b) (PY a b) (AyU a b):=by
 intro _;simp only[PY,UE,ASr];kernel_rfl
def Wc(a:ASH)(b:Int):ATV Bool:=
 (Xg a b 0).bind (Sum.elim (λc=>some true) (λd=>some false))
def AE3:=Ci [.d ATJ,.d ATE] [⟨[.AB [] ATJ,.AB [] ATE],[],Bool,λp=>Wc p.1.1 p.1.2.1,λr=>(dB r,[])⟩]
theorem AfV:Ao prog 135 AE3:=Av (fn:=f135) ⟨⟨E57,pk trivial,λ_ R K=>by
 simp(disch:=refine id ?_;kernel_rfl) only[Wc,ASs,Xg,AF (ADq _ _) (K:=A0 E57 f135 0 R K)];kernel_rfl⟩,trivial⟩
abbrev E58:=eN [(135,AE3)] {A5:=[(3,{A7:=[0,3,4],Cg:=[(3,false,.row [] 2 ATE true)]}),(8,[0,3,4,5])],BB:=[(3,[3]),(8,[0,3,4,5])],Bw:=[(4,{A7:=[0,3,4],Cg:=[(3,false,.row [] 2 ATE true)]}),(9,[0,3,4,5])],Da:=[(4,[0,3,4]),(9,[0,3,4,5])]}
def AA8 a (z_:Int×ASH):=sT 60 (AmY a z_.1) [Ay z_.2]
def AyY(a:ASH):=λ(b:ASH)=>xE 0 60 tC [Ay b]
def AA7 a c d:=sT 60 (AmY a c) [Ay d]
def AyX a c (d:ASH):=λ(e:ASH)=>xN 60 (AmY a c) [Ay e]
def AA6 a c (z_:Int×ASH):=sT 60 (xH a c z_.1) [Ay z_.2]
def AyW a c:=λ(g:AS5)=>xE 2 60 (xH a c g.1) [Ay g.2]
def AA5 a c i j:=sT 60 (xH a c i) [Ay j]
def AyV a c i j:=Sum.elim (λ(k:Unit)=>xN 60 (xH a c i) [Ay j]) (λ(l:Unit)=>xE 2 60 (xH a c i) [Ay j])
def Oz(a:ASH)(c i:Int)(j:ASH):ATV (Unit⊕Unit):=
 bif decide (i>0)then
 if 0<=(wI (i-1))/\(wI (i-1))<j.length then
 if 0<=c/\c<a.length then
 bif decide ((j.getD (wI (i-1)).toNat ATE.zero)>(a.getD c.toNat ATE.zero))then
 some (.inl ())
 else
 some (.inr ())
 else none
 else none
 else
 some (.inr ())
theorem ADr a c i j:AQ E58 0 9 (sb (sb (cd f95 116) 6) 184) 2 (AA5 a c i j) (Oz a c i j) (AyV a c i j):=by
 unfold AQ;simp only[Oz,ASr];kernel_rfl
def Qu(a:ASH)(c i:Int)(j:ASH):ATV (AS5⊕AS5):=
 (Oz a c i j).bind (Sum.elim (λk=>if 0<=(wI (i-1))/\(wI (i-1))<j.length then
 if 0<=i/\i<j.length then
 some (.inl (wI (i-1),j.set i.toNat (j.getD (wI (i-1)).toNat ATE.zero)))
 else none
 else none) (λl=>some (.inr (i,j))))
def La a c (z_:Int×ASH):=Qu a c z_.1 z_.2
def XV a c i j:=fix (La a c) (i,j)
theorem ADs a c:A3 E58 0 8 (sb (cd f95 116) 6) 92 (AA6 a c) (La a c) (AyW a c):=by
 intro _;simp(disch:=refine id ?_;kernel_rfl) only[La,Qu,ASr,Ba (ADr ..) (K:=JG E58 0 8)];kernel_rfl
def OA(a:ASH)(c:Int)(d:ASH):ATV ASH:=
 if 0<=c/\c<a.length then
 (Wc d (a.getD c.toNat ATE.zero)).bind λn=>bif n then
 some d
 else
 if 0<=c/\c<a.length then
 if(d.length+([a.getD c.toNat ATE.zero]:ASH).length)*8<=140737488355328 then
 (XV a c (d.length:Int) (d++([a.getD c.toNat ATE.zero]:ASH))).bind λg=>if 0<=c/\c<a.length then
 if(0:Int)<=g.1/\g.1<(g.2.length:Int)then
 some (g.2.set g.1.toNat (a.getD c.toNat ATE.zero))
 else none
 else none
 else none
 else none
 else none
theorem ADt a c d:AQ E58 0 4 (cd f95 116) 6 (AA7 a c d) (OA a c d) (AyX a c d):=by
 unfold AQ;simp(disch:=refine id ?_;kernel_rfl) only[OA,ASr,XV,AF (ADs _ _) (K:=Uk E58 0 4)];kernel_rfl
def Qv(a:ASH)(c:Int)(d:ASH):ATV (AS5⊕ASH):=
 bif decide (c<(a.length:Int))then
 (OA a c d).bind λe=>some (.inl (wI (c+1),e))
 else
 some (.inr d)
def Lb a (z_:Int×ASH):=Qv a z_.1 z_.2
def XW a c d:=fix (Lb a) (c,d)
theorem ADu a:A3 E58 0 3 (code f95) 58 (AA8 a) (Lb a) (AyY a):=by
 intro _;simp(disch:=refine id ?_;kernel_rfl) only[Lb,Qv,ASr,Ba (ADt ..) (K:=JG E58 0 3)];kernel_rfl
def TA(a:ASH):ATV ASH:=
 (XW a 0 ([]:ASH)).bind λb=>some b
def c95:=Ci [.d ATJ] [⟨[.AB [] ATJ],[],ASH,λp=>TA p.1.1,λr=>(.AG 0,[Ay r])⟩]
theorem AlD:Ao prog 95 c95:=Av (fn:=f95) ⟨⟨E58,pk ⟨AfV,trivial⟩,λ_ R K=>by
 simp(disch:=refine id ?_;kernel_rfl) only[TA,ASs,XW,AF (ADu _) (K:=A0 E58 f95 0 R K)];kernel_rfl⟩,trivial⟩
abbrev E59:=eN [] {A5:=[(3,[0,6,7,8])],BB:=[(3,{A7:=[]})],Bw:=[(4,[0,6,7,8])],Da:=[(4,[0,6,7,8])]}
def ABa a b (z_:Int×ASH):=sT 43 (AjF a b z_.1) [Ay z_.2]
def Ay0(a b:Int):=λ(c:ASH)=>xE 0 43 [] [Ay c]
def AA9 a b d e:=sT 43 (AjF a b d) [Ay e]
def AyZ a b d (e:ASH):=λ(g:ASH)=>xN 43 (AjF a b d) [Ay g]
def Qb(a b d:Int)(e:ASH):ATV ASH:=
 if 0<=d/\d<e.length then
 bif (e.getD d.toNat ATE.zero)==b then
 if 0<=d/\d<e.length then
 some (e.set d.toNat a)
 else none
 else
 some e
 else none
theorem ADv a b d e:AQ E59 1 4 (cd f96 60) 6 (AA9 a b d e) (Qb a b d e) (AyZ a b d e):=by
 unfold AQ;simp only[Qb,ASr];kernel_rfl
def MO(a b d:Int)(e:ASH):ATV (AS5⊕ASH):=
 bif decide (d<(e.length:Int))then
 (Qb a b d e).bind λg=>some (.inl (wI (d+1),g))
 else
 some (.inr e)
def Gn a b (z_:Int×ASH):=MO a b z_.1 z_.2
def YW a b d e:=fix (Gn a b) (d,e)
theorem ADw a b:A3 E59 1 3 (code f96) 30 (ABa a b) (Gn a b) (Ay0 a b):=by
 intro _;simp(disch:=refine id ?_;kernel_rfl) only[Gn,MO,ASr,Ba (ADv ..) (K:=JG E59 1 3)];kernel_rfl
def K9(i j:Int)(k:ASH):ATV ASH:=
 if 0<=i/\i<k.length then
 if 0<=j/\j<k.length then
 if 0<=i/\i<k.length then
 if 0<=j/\j<k.length then
 (YW (if(k.getD j.toNat ATE.zero)<(k.getD i.toNat ATE.zero)then(k.getD j.toNat ATE.zero)else(k.getD i.toNat ATE.zero)) (if(k.getD j.toNat ATE.zero)>(k.getD i.toNat ATE.zero)then(k.getD j.toNat ATE.zero)else(k.getD i.toNat ATE.zero)) 0 k).bind λc=>some c
 else none
 else none
 else none
 else none
def c96:=Ci [.VA,.d ATE,.d ATE] [⟨[.k HS,.AB [] ATE,.AB [] ATE],[.row 2 .Aw ATE],ASH,λp=>K9 p.1.2.1 p.1.2.2.1 p.2.1,λr=>(.nil,[Ay r])⟩]
theorem Aa4:Ao prog 96 c96:=Av (fn:=f96) ⟨⟨E59,pk trivial,λ_ R K=>by
 simp(disch:=refine id ?_;kernel_rfl) only[K9,ASs,YW,AF (ADw _ _) (K:=A0 E59 f96 1 R K)];kernel_rfl⟩,trivial⟩
abbrev E60:=eN [] {Aw:=false,YH:=[(3,[0]),(4,[0])],Zm:=[(3,[0,3]),(4,[0])],Xm:=[.mv 0 [0],.Bd 1,.mv 0 [2],.Bd 3]}
def Anf(a:Int) b c d:=sT 41 [(0,.ptr 0 a [] 0)] [.box (.pr UV qk),.Bd,C7 b,Ay c,Gp d]
def AeG(a:Int) b (c:ASH) d:=λ(e:Unit)=>sT 41 [(0,.ptr 0 a [] 0)] [.box (.pr UV (.pr Pu ZW)),.Bd,C7 b,.Bd,Gp d,Ay (c++([(c.length:Int)]:ASH))]
def Le(a:Int)(b:ASM)(c:ASH)(d:ASQ):ATV Unit:=
 if(c.length+([(c.length:Int)]:ASH).length)*8<=140737488355328 then
 some ()
 else none
noncomputable def Anz(a:Int)(b:ASM)(c:ASH)(d:ASQ):ATV Unit:=if(c.length+([(c.length:Int)]:ASH).length)*8<=140737488355328 then Eu (AeG a b c d ())else none
def AaH(w:ATV Unit):ATV Unit:=cc (cc w (cc w (cc w (cc w w)))) (cc (cc w (cc w (cc w w))) (cc (cc w (cc w w)) (cc (cc w w) w)))
theorem ADy(a:Int)(b:ASM)(c:ASH)(d:ASQ):Qf E60 4 4 (code f93) 30 (Anf a b c d) (Le a b c d) (AeG a b c d):=by
 unfold Qf;have h:u0 E60 4 4 (code f93) (pt 30) (Anf a b c d) =
 if(c.length+([(c.length:Int)]:ASH).length)*8<=140737488355328 then((AaH (Anz a b c d)).bind λ_=>some (AeG a b c d ()))else none:=by kernel_rfl
 rw[h];unfold Le;simp only[ASr,mS,mO];clear h;by_cases Hs:(c.length+([(c.length:Int)]:ASH).length)*8<=140737488355328
 ·rw[AQx Hs,AQx Hs];simp only[AaH,cc,Anz,AQv,AQx Hs,AQ2,AQf,Eu,EJ]
 ·simp only[AQ2,AQy Hs]
def Ane(a:Int) g b c i:=sT 41 [(0,.ptr 0 a [] 0),(3,Qy)] [.box Aka,Gp g,C7 b,Ay c,.box (dD A6 i)]
def AeF(a:Int)(g:ASQ) b c (i:ASt):=λ(j:Unit)=>sT 41 [(0,.ptr 0 a [] 0)] [.box (.pr UV qk),.Bd,C7 b,Ay c,Gp (g++([i.2.1]:ASQ))]
def Ld(a:Int)(g:ASQ)(b:ASM)(c:ASH)(i:ASt):ATV Unit:=
 if(g.length+([i.2.1]:ASQ).length)*32<=140737488355328 then
 some ()
 else none
noncomputable def jR(a:Int)(g:ASQ)(b:ASM)(c:ASH)(i:ASt):ATV Unit:=if(g.length+([i.2.1]:ASQ).length)*32<=140737488355328 then Eu (AeF a g b c i ())else none
theorem ADx(a:Int)(g:ASQ)(b:ASM)(c:ASH)(i:ASt):Qf E60 4 3 (code f93) 14 (Ane a g b c i) (Ld a g b c i) (AeF a g b c i):=by
 unfold Qf;have h:u0 E60 4 3 (code f93) (pt 14) (Ane a g b c i) =
 if(g.length+([i.2.1]:ASQ).length)*32<=140737488355328 then((((jR a g b c i).bind λ_=>(jR a g b c i).bind λ_=>jR a g b c i).bind λ_=>((jR a g b c i).bind λ_=>jR a g b c i).bind λ_=>jR a g b c i).bind λ_=>some (AeF a g b c i ()))else none:=by kernel_rfl
 rw[h];unfold Ld;simp only[ASr,mS,mO];clear h;by_cases Hs:(g.length+([i.2.1]:ASQ).length)*32<=140737488355328
 ·rw[AQx Hs,AQx Hs];simp only[jR,AQv,AQx Hs,AQ2,AQf,Eu,EJ]
 ·simp only[AQ2,AQy Hs]
def Iu(a:Int)(i:ASt)(g:ASQ)(b:ASM)(c:ASH):ATV (Int×ASM×ASQ×ASH):=
 bif decide (i.1>=0)then
 some (i.1,b,g,c)
 else
 (Ld a g b c i).bind λj=>(Le a b c (g++([i.2.1]:ASQ))).bind λe=>some (wI (((c++([(c.length:Int)]:ASH)).length:Int)-1),b,g++([i.2.1]:ASQ),c++([(c.length:Int)]:ASH))
def c93:=Ci [.VA,.d A6] [⟨[.ptr 0 [] 0,.AB [] A6],[.box (.pr (.k I8) (.pr (.k Pu) (.pr (.k (.AG 3)) (.k .u)))),.row 57 (.sh []) Ai,.row 164 .Aw Ae,.row 2 .Aw ATE],Int×ASM×ASQ×ASH,λp=>Iu p.1.1 p.1.2.1 p.2.2.1 p.2.2.2.1 p.2.2.2.2.1,λr=>(dI r.1,[.box (.pr UV (.pr Pu ZW)),.Bd,C7 r.2.1,.Bd,Gp r.2.2.1,Ay r.2.2.2])⟩]
theorem AlB:Ao prog 93 c93:=Av (fn:=f93) ⟨⟨E60,pk trivial,λ_ R K=>by
 simp(disch:=refine id ?_;kernel_rfl) only[Iu,ASs,VE (ADx ..) (K:=A0 E60 f93 4 R K),VE (ADy ..) (K:=A0 E60 f93 4 R K)];kernel_rfl⟩,trivial⟩
abbrev E61:=eN [] {A5:=[(2,[0,1,5])],BB:=[(2,[4])],Bw:=[(5,[0,1,5,40])],Da:=[(5,[0,1,5])]}
def ABc(a:Int) b c d e (z_:Int):=sT 42 [(0,.ptr 0 a [] 0),(1,dI b),(5,dI z_)] (xI c d e)
def Ay2(a b:Int) c d e:=Sum.elim (λ(g:Int)=>xR 42 [(4,dI g)] (xI c d e)) (λ(i:Unit)=>xE 0 42 [] (xI c d e))
def ABb(a:Int) b j c d e:=sT 42 [(0,.ptr 0 a [] 0),(1,dI b),(5,dI j)] (xI c d e)
def Ay1(a:Int) b j c d e:=λ(k:Bool)=>xN 42 [(0,.ptr 0 a [] 0),(1,dI b),(5,dI j),(40,dB k)] (xI c d e)
def JJ(a b j:Int)(c:ASQ)(d:ASM)(e:ASH):ATV Bool:=
 if 0<=j/\j<e.length then
 if 0<=b/\b<e.length then
 bif (e.getD j.toNat ATE.zero)==(e.getD b.toNat ATE.zero)then
 if 0<=j/\j<c.length then
 some (decide ((c.getD j.toNat Ai.zero).1>0))
 else none
 else
 some false
 else none
 else none
theorem ADz a b j c d e:AQ E61 4 5 (cd f45 52) 24 (ABb a b j c d e) (JJ a b j c d e) (Ay1 a b j c d e):=by
 unfold AQ;simp only[JJ,ASr];kernel_rfl
def LX(a b:Int)(c:ASQ)(d:ASM)(e:ASH)(j:Int):ATV (Int⊕(Int⊕Unit)):=
 bif decide (j<(e.length:Int))then
 (JJ a b j c d e).bind λk=>bif k then
 some (.inr (.inl j))
 else
 some (.inl (wI (j+1)))
 else
 some (.inr (.inr ()))
def H9 a b c d e (z_:Int):=LX a b c d e z_
def UU a b c d e j:=fix (H9 a b c d e) j
theorem ADA a b c d e:A3 E61 4 2 (code f45) 26 (ABc a b c d e) (H9 a b c d e) (Ay2 a b c d e):=by
 intro _;simp(disch:=refine id ?_;kernel_rfl) only[H9,LX,ASr,Ba (ADz ..) (K:=JG E61 4 2)];kernel_rfl
def Hp(a b:Int)(c:ASQ)(d:ASM)(e:ASH):ATV ATm:=
 (UU a b c d e 0).bind (Sum.elim (λg=>some (g,c,d,e)) (λi=>some (-1,c,d,e)))
def c45:=Ci [.VA,.d ATE] [⟨[.ptr 0 [] 0,.AB [] ATE],[.box (.pr (.k I8) (.pr (.k Pu) (.pr (.k (.AG 3)) (.k .u)))),.row 57 (.sh []) Ai,.row 164 .Aw Ae,.row 2 .Aw ATE],ATm,λp=>Hp p.1.1 p.1.2.1 p.2.2.1 p.2.2.2.1 p.2.2.2.2.1,λr=>(dI r.1,[.box Aka,Gp r.2.1,C7 r.2.2.1,Ay r.2.2.2])⟩]
theorem AaV:Ao prog 45 c45:=Av (fn:=f45) ⟨⟨E61,pk trivial,λ_ R K=>by
 simp(disch:=refine id ?_;kernel_rfl) only[Hp,ASs,UU,AF (ADA _ _ _ _ _) (K:=A0 E61 f45 4 R K)];kernel_rfl⟩,trivial⟩
abbrev E62:=eN [(45,c45),(78,c78),(93,c93),(94,c94),(95,c95),(96,c96)] {Bw:=[(9,[0,8,9,10,11,80])],Da:=[(9,[0,8,9,10,11])],Xm:=[.mv 0 [1],.Bd 2],gk:=[(0,.row [] 2 ATE true)]}
def ABd(a:Int) b c d e g i j:=sT 107 [(0,.ptr 0 a [] 0),(8,dI b),(9,dI c),(10,dI d),(11,dI e)] [.box xS,.Bd,.Bd,.Bd,Gp g,C7 i,Ay j]
def Ay3(a:Int) b c d e g i j:=λ(k:Bool)=>xN 107 [(0,.ptr 0 a [] 0),(8,dI b),(9,dI c),(10,dI d),(11,dI e),(80,dB k)] [.box xS,.Bd,.Bd,.Bd,Gp g,C7 i,Ay j]
def Lc(a b c d e:Int)(g:ASQ)(i:ASM)(j:ASH):ATV Bool:=
 bif decide (d>=0)then
 bif decide (e>=0)then
 if 0<=d/\d<g.length then
 if 0<=e/\e<g.length then
 (Ey (g.getD d.toNat Ai.zero) (g.getD e.toNat Ai.zero)).bind λl=>some (!l)
 else none
 else none
 else
 some false
 else
 some false
theorem ADB a b c d e g i j:AQ E62 4 9 (code f44) 1020 (ABd a b c d e g i j) (Lc a b c d e g i j) (Ay3 a b c d e g i j):=by
 unfold AQ;simp only[Lc,ASr];kernel_rfl
def Lu(a:Int)(n:ASF)(o:Int)(q:ASQ)(s:ASM)(t:ASH):ATV (Bool×ASH×ASQ×ASM×ASH):=
 (Iu a n.1 q s t).bind λu=>(Iu a n.2.1 u.2.2.1 u.2.1 u.2.2.2).bind λv=>if(0:Int)<=u.1/\u.1<(v.2.2.2.length:Int)then
 if(0:Int)<=v.1/\v.1<(v.2.2.2.length:Int)then
 bif (v.2.2.2.getD u.1.toNat ATE.zero)==(v.2.2.2.getD v.1.toNat ATE.zero)then
 some (true,([]:ASH),v.2.2.1,v.2.1,v.2.2.2)
 else
 (Hp a u.1 v.2.2.1 v.2.1 v.2.2.2).bind λw=>(Hp a v.1 w.2.1 w.2.2.1 w.2.2.2).bind λx=>if(x.2.2.1.length+([(u.1,v.1,o,())]:ASM).length)*24<=140737488355328 then
 (Lc a u.1 v.1 w.1 x.1 x.2.1 (x.2.2.1++([(u.1,v.1,o,())]:ASM)) x.2.2.2).bind λk=>bif k then
 if Ty.row .bool=true/\(0:Int)<=((x.2.2.1++([(u.1,v.1,o,())]:ASM)).length:Int)/\((x.2.2.1++([(u.1,v.1,o,())]:ASM)).length:Int)<=((x.2.2.1++([(u.1,v.1,o,())]:ASM)).length:Int)/\((1:Nat):Int)*((x.2.2.1++([(u.1,v.1,o,())]:ASM)).length:Int)<=(281474976710656:Int)/\((x.2.2.1++([(u.1,v.1,o,())]:ASM)).length:Int)<=(9223372036854775807:Int)then
 (cE (x.2.2.1++([(u.1,v.1,o,())]:ASM)) w.1 x.1 (List.replicate ((x.2.2.1++([(u.1,v.1,o,())]:ASM)).length:Int).toNat false)).bind λy=>(TA y.2.2).bind λa1=>some (false,a1,x.2.1,x.2.2.1++([(u.1,v.1,o,())]:ASM),x.2.2.2)
 else none
 else
 (K9 u.1 v.1 x.2.2.2).bind λb1=>some (true,([]:ASH),x.2.1,x.2.2.1++([(u.1,v.1,o,())]:ASM),b1)
 else none
 else none
 else none
def c44:=Ci [.VA,.d As,.d ATE] [⟨[.ptr 0 [] 0,.AB [] As,.AB [] ATE],[.box (.pr (.k I8) (.pr (.k Pu) (.pr (.k (.AG 3)) (.k .u)))),.row 57 (.sh []) Ai,.row 164 .Aw Ae,.row 2 .Aw ATE],Bool×ASH×ASQ×ASM×ASH,λp=>Lu p.1.1 p.1.2.1 p.1.2.2.1 p.2.2.1 p.2.2.2.1 p.2.2.2.2.1,λr=>(.cons UV (.cons (dB r.1) .nil),[.box Aci,.Bd,.Bd,.Bd,Ay r.2.1,Gp r.2.2.1,C7 r.2.2.2.1,Ay r.2.2.2.2])⟩]
theorem Ak9:Ao prog 44 c44:=Av (fn:=f44) ⟨⟨E62,pk ⟨AaV,AaY,AlB,AlC,AlD,Aa4,trivial⟩,λ_ R K=>by
 simp(disch:=refine id ?_;kernel_rfl) only[Lu,ASs,Ba (ADB ..) (K:=A0 E62 f44 4 R K)];kernel_rfl⟩,trivial⟩
abbrev E63:=eN [] {}
def Qd(a:ASA):ATV AS5:=
 if a.2.1.length*8<=140737488355328 then
 some (a.1,a.2.1)
 else none
def c46:=Ci [.d Ai] [⟨[.AB [] Ai],[],AS5,λp=>Qd p.1.1,λr=>(.pr (dI r.1) Ps,[Bq r.2])⟩]
theorem Ala:Ao prog 46 c46:=Av (fn:=f46) ⟨⟨E63,pk trivial,λ_ R K=>by
 simp only[Qd,ASs];kernel_rfl⟩,trivial⟩
end
end Go.Proofs.X
namespace Go.Proofs.X
open Go Go.Va Go.Proofs.Tryz
set_option maxRecDepth 100000
noncomputable section
abbrev tV:=eN [(40,c40),(41,c41),(42,c42),(43,c43),(44,c44),(45,c45),(46,c46)] {A5:=[(8,{A7:=[0,1,6,8,10,11,12,13],Cg:=[(12,true,.row [1] 164 Ae true)]}),(13,{A7:=[0,1,6,8,10,11,12,13,14,16],O4:=[(14,false,.sl As)],Cg:=[(12,true,.row [1] 164 Ae true)]}),(20,{A7:=[6,10,11,12,19],Cg:=[(10,true,.row [1] 102 Ap true)]}),(25,{A7:=[6,10,11,12,19,20,21],Cg:=[(20,true,.row [0] 2 ATE true)]})],BB:=[(8,[6,7,10,11,12]),(13,[0,1,6,7,8,10,11,12,13]),(20,[6,10]),(25,[6,10,11,12,19,20])],Bw:=[(9,{A7:=[0,1,6,7,8,10,11,12,13],Cg:=[(12,true,.row [1] 164 Ae true)]}),(21,{A7:=[6,10,11,12,19],Cg:=[(10,true,.row [1] 102 Ap true)]}),(26,{A7:=[6,10,11,12,19,20,21],Cg:=[(20,true,.row [0] 2 ATE true)]}),(33,{A7:=[6,10,11,12,19,20],Cg:=[(20,true,.row [2,1] 199 ATF true)]})],Da:=[(9,[0,1,6,8,10,11,12,13]),(21,[6,10,11,12,19]),(26,[6,10,11,12,19,20,21]),(33,[6,10,11,12,19,20,22])],O4:=[(0,O1),(1,.bool)]}
def AsW a (b:Int) c (z_:Int×ASS×ASQ×ASM×ASH):=sT 146 (AjG a b z_.1) (AjH c z_.2.1 z_.2.2.1 z_.2.2.2.1 z_.2.2.2.2)
def AqZ(a b:Int) c:=λ(d:ASS)=>xE 4 146 [(6,Aq),(10,A1)] [.box iZ,.box (.pr (BM c) (.pr Pu Wv)),Fx d]
def AsV a (b:Int) e c g i j k:=sT 146 (AjG a b e) (AjH c g i j k)
def AqY a (b:Int) e c (g:ASS) (i:ASQ) (j:ASM) (k:ASH):=λ(l:(ASS×ASQ×ASM×ASH))=>xN 146 (AjG a b e) (AjH c l.1 l.2.1 l.2.2.1 l.2.2.2)
def AsU a (b:Int) e c g n o q s t:=sT 146 [(6,Aq),(10,A1),(11,dI a),(12,.ptr 2 b [] 0),(19,dI e),(20,Nz),(22,dI o)] (xJ c g q s t n)
def AqX a (b:Int) e c g n (o:Int) q s t:=λ(u:(Bool×Int×ASH))=>xN 146 [(6,Aq),(10,A1),(11,dI a),(12,.ptr 2 b [] 0),(19,dI e),(20,Nz)] [.box iZ,.box (.pr (BM c) (.pr UV Wv)),.box Aci,.box (.pr (.AG 8) (.pr (dB u.1) (.pr (.pr (dI u.2.1) (.pr (.AG 9) .u)) .u))),Fx g,Gp q,C7 s,Ay t,Ay n,Bq u.2.2]
def HI(a b e:Int)(c:ASC)(g:ASS)(n:ASH)(o:Int)(q:ASQ)(s:ASM)(t:ASH):ATV (Bool×Int×ASH):=
 bif decide (o>=0)then
 if 0<=o/\o<q.length then
 (Qd (q.getD o.toNat Ai.zero)).bind λv=>some (true,v.1,v.2)
 else none
 else
 some (false,0,([]:ASH))
theorem Ave a b e c g n o q s t:AQ tV 0 33 (sb (cd f9 4084) 6) 94 (AsU a b e c g n o q s t) (HI a b e c g n o q s t) (AqX a b e c g n o q s t):=by
 unfold AQ;simp only[HI,ASr];kernel_rfl
def AsT a (b:Int) e c g i j k (z_:Int×ASH):=sT 146 (AjI a b e z_.1) (xJ c g i j k z_.2)
def AqW a (b:Int) e c g i j k:=λ(n:ASH)=>xE 6 146 [(6,Aq),(10,A1),(11,dI a),(12,.ptr 2 b [] 0),(19,dI e),(20,Nz)] (xJ c g i j k n)
def AsS a (b:Int) e w c g i j k x:=sT 146 (AjI a b e w) (xJ c g i j k x)
def AqV a (b:Int) e w c g i j k (x:ASH):=λ(y:ASH)=>xN 146 (AjI a b e w) (xJ c g i j k y)
def KU(a b e w:Int)(c:ASC)(g:ASS)(i:ASQ)(j:ASM)(k x:ASH):ATV ASH:=
 if 0<=w/\w<k.length then
 bif (k.getD w.toNat ATE.zero)==e then
 if(x.length+([w]:ASH).length)*8<=140737488355328 then
 some (x++([w]:ASH))
 else none
 else
 some x
 else none
theorem Avc a b e w c g i j k x:AQ tV 0 26 (sb (sb (cd f9 4084) 6) 180) 6 (AsS a b e w c g i j k x) (KU a b e w c g i j k x) (AqV a b e w c g i j k x):=by
 unfold AQ;simp only[KU,ASr];kernel_rfl
def Nr(a b e:Int)(c:ASC)(g:ASS)(i:ASQ)(j:ASM)(k:ASH)(w:Int)(x:ASH):ATV (AS5⊕ASH):=
 bif decide (w<a)then
 (KU a b e w c g i j k x).bind λy=>some (.inl (wI (w+1),y))
 else
 some (.inr x)
def IZ a b e c g i j k (z_:Int×ASH):=Nr a b e c g i j k z_.1 z_.2
def KV a b e c g i j k w x:=fix (IZ a b e c g i j k) (w,x)
theorem Avd a b e c g i j k:A3 tV 0 25 (sb (cd f9 4084) 6) 90 (AsT a b e c g i j k) (IZ a b e c g i j k) (AqW a b e c g i j k):=by
 intro _;simp(disch:=refine id ?_;kernel_rfl) only[IZ,Nr,ASr,Ba (Avc ..) (K:=JG tV 0 25)];kernel_rfl
def KW(a b e:Int)(c:ASC)(g:ASS)(i:ASQ)(j:ASM)(k:ASH):ATV (ASS×ASQ×ASM×ASH):=
 if 0<=e/\e<k.length then
 bif decide ((k.getD e.toNat ATE.zero)<e)then
 some (g,i,j,k)
 else
 (KV a b e c g i j k e ([]:ASH)).bind λn=>(Hp b e i j k).bind λa1=>(HI a b e c g n a1.1 a1.2.1 a1.2.2.1 a1.2.2.2).bind λu=>if(g.length+([(n,u.1,(u.2.1,u.2.2,()),())]:ASS).length)*64<=140737488355328 then
 some (g++([(n,u.1,(u.2.1,u.2.2,()),())]:ASS),a1.2.1,a1.2.2.1,a1.2.2.2)
 else none
 else none
theorem Avf a b e c g i j k:AQ tV 0 21 (cd f9 4084) 6 (AsV a b e c g i j k) (KW a b e c g i j k) (AqY a b e c g i j k):=by
 unfold AQ;simp(disch:=refine id ?_;kernel_rfl) only[KW,ASr,KV,AF (Avd _ _ _ _ _ _ _ _) (K:=Uk tV 0 21),Ba (Ave ..) (K:=Uk tV 0 21)];kernel_rfl
def Ns(a b:Int)(c:ASC)(e:Int)(g:ASS)(i:ASQ)(j:ASM)(k:ASH):ATV ((Int×ASS×ASQ×ASM×ASH)⊕ASS):=
 bif decide (e<a)then
 (KW a b e c g i j k).bind λl=>some (.inl (wI (e+1),l.1,l.2.1,l.2.2.1,l.2.2.2))
 else
 some (.inr g)
def I0 a b c (z_:Int×ASS×ASQ×ASM×ASH):=Ns a b c z_.1 z_.2.1 z_.2.2.1 z_.2.2.2.1 z_.2.2.2.2
def KX a b c e g i j k:=fix (I0 a b c) (e,g,i,j,k)
theorem Avg a b c:A3 tV 0 20 (code f9) 2042 (AsW a b c) (I0 a b c) (AqZ a b c):=by
 intro _;simp(disch:=refine id ?_;kernel_rfl) only[I0,Ns,ASr,Ba (Avf ..) (K:=JG tV 0 20)];kernel_rfl
def ABg b1 c1 d1 (e1:Int) g1 i1 (z_:Int×ASQ×ASM×ASH):=sT 146 (Acb b1 c1 d1 e1 z_.1) (xK g1 i1 z_.2.1 z_.2.2.1 z_.2.2.2)
def Ay6(b1:ASL)(c1:ASN) d1 (e1:Int) (g1:ASC) i1:=Sum.elim (λ(j1:ATg)=>xR 146 [(6,Aq),(7,dB true),(10,A1),(11,dI d1),(12,.ptr 2 e1 [] 0)] [.box (.pr (BM i1) (.pr .zs om)),.box (.pr (BM i1) (.pr .zs om)),.box xS,Ay j1.1,Gp j1.2.1,C7 j1.2.2.1,Ay j1.2.2.2]) (λ(k1:ATl)=>xE 0 146 [(6,Aq),(10,A1),(11,dI d1),(12,.ptr 2 e1 [] 0)] [.box iZ,.box (.pr (BM i1) xQ),.box (.pr (.AG 3) (.pr UV ZW)),Gp k1.1,C7 k1.2.1,Ay k1.2.2])
def ABf b1 c1 d1 (e1:Int) l1 g1 i1 n1 o1 q1:=sT 146 (Acb b1 c1 d1 e1 l1) (xK g1 i1 n1 o1 q1)
def Ay5 b1 c1 d1 (e1:Int) l1 g1 i1 (n1:ASQ) (o1:ASM) (q1:ASH):=Sum.elim (λ(s1:ATl)=>xN 146 (Acb b1 c1 d1 e1 l1) (xK g1 i1 s1.1 s1.2.1 s1.2.2)) (λ(t1:ATg)=>xR 146 (Aon b1 c1 d1 e1 l1) (Aoo i1 g1 i1 t1.1 t1.2.1 t1.2.2.1 t1.2.2.2))
def ABe b1 c1 d1 (e1:Int) l1 g1 i1 u1 (z_:Int×ASQ×ASM×ASH):=sT 146 [(0,Ar b1),(1,Bb c1),(6,Aq),(8,A1),(10,EB),(11,dI d1),(12,.ptr 3 e1 [] 0),(13,dI l1),(14,tB u1),(16,dI z_.1)] (xK g1 i1 z_.2.1 z_.2.2.1 z_.2.2.2)
def Ay4 b1 c1 d1 (e1:Int) l1 g1 i1 (u1:AST):=Sum.elim (λ(v1:ATg)=>xR 146 (Aon b1 c1 d1 e1 l1) (Aoo i1 g1 i1 v1.1 v1.2.1 v1.2.2.1 v1.2.2.2)) (λ(w1:ATl)=>xE 2 146 (Acb b1 c1 d1 e1 l1) (xK g1 i1 w1.1 w1.2.1 w1.2.2))
def GD(b1:ASL)(c1:ASN)(d1 e1 l1:Int)(g1 i1:ASC)(u1:AST)(x1:Int)(y1:ASQ)(a2:ASM)(b2:ASH):ATV (ATm⊕(ATg⊕ATl)):=
 bif decide (x1<(u1.length:Int))then
 if 0<=x1/\x1<u1.length then
 if 0<=l1/\l1<c1.length then
 (Lu e1 (u1.getD x1.toNat As.zero) (c1.getD l1.toNat Af.zero).1 y1 a2 b2).bind λc2=>bif !c2.1 then
 some (.inr (.inl (c2.2.1,c2.2.2.1,c2.2.2.2.1,c2.2.2.2.2)))
 else
 some (.inl (wI (x1+1),c2.2.2.1,c2.2.2.2.1,c2.2.2.2.2))
 else none
 else none
 else
 some (.inr (.inr (y1,a2,b2)))
def Em b1 c1 d1 e1 l1 g1 i1 u1 (z_:Int×ASQ×ASM×ASH):=GD b1 c1 d1 e1 l1 g1 i1 u1 z_.1 z_.2.1 z_.2.2.1 z_.2.2.2
def F0 b1 c1 d1 e1 l1 g1 i1 u1 x1 y1 a2 b2:=fix (Em b1 c1 d1 e1 l1 g1 i1 u1) (x1,y1,a2,b2)
theorem ADC b1 c1 d1 e1 l1 g1 i1 u1:A3 tV 0 13 (sb (cd f9 2036) 6) 46 (ABe b1 c1 d1 e1 l1 g1 i1 u1) (Em b1 c1 d1 e1 l1 g1 i1 u1) (Ay4 b1 c1 d1 e1 l1 g1 i1 u1):=by
 intro _;simp only[Em,GD,ASr];kernel_rfl
def F3(b1:ASL)(c1:ASN)(d1 e1 l1:Int)(g1 i1:ASC)(n1:ASQ)(o1:ASM)(q1:ASH):ATV (ATl⊕ATg):=
 if 0<=l1/\l1<c1.length then
 bif !(c1.getD l1.toNat Af.zero).2.1 then
 some (.inl (n1,o1,q1))
 else
 if 0<=l1/\l1<c1.length then
 (Pr b1 (c1.getD l1.toNat Af.zero) g1).bind λd2=>(F0 b1 c1 d1 e1 l1 g1 i1 d2.2 0 n1 o1 q1).bind (Sum.elim (λv1=>some (.inr (v1.1,v1.2.1,v1.2.2.1,v1.2.2.2))) (λw1=>some (.inl (w1.1,w1.2.1,w1.2.2))))
 else none
 else none
theorem ADD b1 c1 d1 e1 l1 g1 i1 n1 o1 q1:AQ tV 0 9 (cd f9 2036) 6 (ABf b1 c1 d1 e1 l1 g1 i1 n1 o1 q1) (F3 b1 c1 d1 e1 l1 g1 i1 n1 o1 q1) (Ay5 b1 c1 d1 e1 l1 g1 i1 n1 o1 q1):=by
 unfold AQ;simp(disch:=refine id ?_;kernel_rfl) only[F3,ASr,F0,AF (ADC _ _ _ _ _ _ _ _) (K:=Uk tV 0 9)];kernel_rfl
def En(b1:ASL)(c1:ASN)(d1 e1:Int)(g1 i1:ASC)(l1:Int)(n1:ASQ)(o1:ASM)(q1:ASH):ATV (ATm⊕(ATg⊕ATl)):=
 bif decide (l1<(c1.length:Int))then
 (F3 b1 c1 d1 e1 l1 g1 i1 n1 o1 q1).bind (Sum.elim (λs1=>some (.inl (wI (l1+1),s1.1,s1.2.1,s1.2.2))) (λt1=>some (.inr (.inl (t1.1,t1.2.1,t1.2.2.1,t1.2.2.2)))))
 else
 some (.inr (.inr (n1,o1,q1)))
def De b1 c1 d1 e1 g1 i1 (z_:Int×ASQ×ASM×ASH):=En b1 c1 d1 e1 g1 i1 z_.1 z_.2.1 z_.2.2.1 z_.2.2.2
def Ea b1 c1 d1 e1 g1 i1 l1 n1 o1 q1:=fix (De b1 c1 d1 e1 g1 i1) (l1,n1,o1,q1)
theorem ADE b1 c1 d1 e1 g1 i1:A3 tV 0 8 (code f9) 1018 (ABg b1 c1 d1 e1 g1 i1) (De b1 c1 d1 e1 g1 i1) (Ay6 b1 c1 d1 e1 g1 i1):=by
 intro _;simp(disch:=refine id ?_;kernel_rfl) only[De,En,ASr,Ba (ADD ..) (K:=JG tV 0 8)];kernel_rfl
def Nq(b1:ASL)(c1:ASN)(e2:ASC):ATV (O1.V×Bool):=
 (FG b1 c1 e2).bind λg2=>bif !g2.2 then
 some (((([]:ASV),()),([]:ASS),([]:ASH),()),false)
 else
 (Jh b1 g2.1).bind λi2=>(Wp (i2.length:Int)).bind λj2=>(Ea b1 c1 (i2.length:Int) j2.1 g2.1 g2.1 0 j2.2.1 ([]:ASM) j2.2.2).bind (Sum.elim (λj1=>some ((g2.1,([]:ASS),j1.1,()),true)) (λk1=>(KX (i2.length:Int) j2.1 g2.1 0 ([]:ASS) k1.1 k1.2.1 k1.2.2).bind λd=>some ((g2.1,d,([]:ASH),()),true)))
def c9:=Ci [.d ATK,.d ATL,.d Am] [⟨[.AB [] ATK,.AB [] ATL,.AB [] Am],[],O1.V×Bool,λp=>Nq p.1.1 p.1.2.1 p.1.2.2.1,λr=>(.cons (dD O1 r.1) (.cons (dB r.2) .nil),[])⟩]
theorem AvB:Ao prog 9 c9:=Av (fn:=f9) ⟨⟨tV,pk ⟨AaU,qP,Ak7,Ak8,Ak9,AaV,Ala,trivial⟩,λ_ R K=>by
 simp(disch:=refine id ?_;kernel_rfl) only[Nq,ASs,Ea,AF (ADE _ _ _ _ _ _) (K:=A0 tV f9 0 R K),KX,AF (Avg _ _ _) (K:=A0 tV f9 0 R K)];kernel_rfl⟩,trivial⟩
abbrev E65:=eN [(9,c9),(66,c66),(84,c84),(109,Avk),(110,AEO)] {iI:=[(24,ATL),(26,Am)]}
def Vl(a:ASL)(b:ASN):ATV Int:=
 (Gu a b).bind λc=>bif !c then
 some 1
 else
 (R7 a b).bind λd=>bif !d.1 then
 some 1
 else
 (Ji b).bind λe=>(Uh a).bind λg=>(Nq a e (g,())).bind λi=>bif decide ((i.1.2.2.1.length:Int)>0)then
 some 2
 else
 some 0
def c63:=Ci [.d ATK,.d ATL] [⟨[.AB [] ATK,.AB [] ATL],[],Int,λp=>Vl p.1.1 p.1.2.1,λr=>(dI r,[])⟩]
theorem Alj:Ao prog 63 c63:=Av (fn:=f63) ⟨⟨E65,pk ⟨AvB,qQ,qT,uB,AfF,trivial⟩,λ_ R K=>by
 simp only[Vl,ASs];kernel_rfl⟩,trivial⟩
abbrev E66:=eN [] {}
def K2(a:ASH)(b:ASu):ATV Int:=
 bif decide (b.1<0)then
 some b.2.1
 else
 if(0:Int)<=b.1/\b.1<(a.length:Int)then
 some (wI ((a.getD b.1.toNat ATE.zero)+b.2.1))
 else none
def AER:=Ci [.d ATJ,.d Aa] [⟨[.AB [] ATJ,.AB [] Aa],[],Int,λp=>K2 p.1.1 p.1.2.1,λr=>(dI r,[])⟩]
theorem AfI:Ao prog 115 AER:=Av (fn:=f115) ⟨⟨E66,pk trivial,λ_ R K=>by
 simp only[K2,ASs];kernel_rfl⟩,trivial⟩
abbrev E67:=eN [(64,c64),(96,c96),(114,Avm),(115,AER)] {A5:=[(4,{A7:=[0,1,2,8,9,10],Cg:=[(8,false,.row [] 2 ATE true)]}),(10,{A7:=[0,1,2,8,9,11,12],Cg:=[(11,false,.row [] 2 ATE true)]}),(14,[0,1,2,8,11,13]),(21,{A7:=[0,1,2,8,11,13,18,19,20],O4:=[(18,false,ATI),(19,false,ATI)]}),(28,{A7:=[8,11,21,22,23,24],O4:=[(23,false,ATI)],Cg:=[(21,false,.row [] 5 ATG true),(22,false,.row [] 5 ATG true)]})],BB:=[(4,{A7:=[0,1,2,8,9],O4:=[(8,false,ATJ)]}),(10,[0,1,2,8,11]),(14,{A7:=[2,8,11],O4:=[(11,false,ATJ)]}),(21,[0,1,2,8,11,13]),(28,[21,22])],Bw:=[(34,[8,11,21,22,23,24,25,26])],Da:=[(34,[8,11,21,22,23,24,25,26])]}
def ABl a b c (z_:Int×ASH×ASH):=sT 140 [(8,BJ c),(11,BJ a),(21,.AG 0),(22,.AG 1),(23,TE b),(24,dI z_.1)] [Lg z_.2.1,Lg z_.2.2]
def Azb(a:ASH)(b:ASK)(c:ASH):=λ(d:ATk)=>xE 8 140 [(21,.AG 0),(22,.AG 1)] [Lg d.1,Lg d.2]
def Ang c a b e (g:Int) i j:=sT 140 [(8,BJ c),(11,BJ a),(21,.AG 0),(22,.AG 1),(23,TE b),(24,dI e),(25,dI (a.getD g.toNat ATE.zero)),(26,dD ATG 0)] [Lg i,Lg j]
def AeH(c a:ASH)(b:ASK)(e g:Int)(i j:ASH)(m0:Int):Ex×St:=xN 140 [(8,BJ c),(11,BJ a),(21,.AG 0),(22,.AG 1),(23,TE b),(24,dI e),(25,dI (a.getD g.toNat ATE.zero)),(26,dD ATG m0)] [Lg i,Lg j]
theorem ADJ c a b e g i j:XJ E67 0 34 (cd f65 32756) (pt 102) (Ang c a b e g i j)=some (AeH c a b e g i j (bif decide ((a.getD g.toNat ATE.zero)<2)then 1 else 0)):=by
 refine .trans (b:=
 bif decide ((a.getD g.toNat ATE.zero)<2)then
 some (AeH c a b e g i j 1)
 else
 some (AeH c a b e g i j 0)) (by kernel_rfl) ?_
 cases (decide ((a.getD g.toNat ATE.zero)<2));rfl;rfl
def Mx(a:ASH)(b:ASK)(c:ASH)(e:Int)(i j:ASH):ATV ((Int×ASH×ASH)⊕ATk):=
 bif decide (e<(b.length:Int))then
 if 0<=e/\e<b.length then
 (K2 c (b.getD e.toNat Aa.zero)).bind λg=>if 0<=g/\g<a.length then
 Po (Ang c a b e g i j) (
 if(i.length+([(bif decide ((a.getD g.toNat ATE.zero)<2)then 1 else 0)]:ASH).length)*1<=140737488355328 then
 if(j.length+([IntKind.u8.wrap ((bif decide ((a.getD g.toNat ATE.zero)<2)then 1 else 0)*(IntKind.u8.wrap (fq .i64 (a.getD g.toNat ATE.zero) 1)))]:ASH).length)*1<=140737488355328 then
 some (.inl (wI (e+1),i++([(bif decide ((a.getD g.toNat ATE.zero)<2)then 1 else 0)]:ASH),j++([IntKind.u8.wrap ((bif decide ((a.getD g.toNat ATE.zero)<2)then 1 else 0)*(IntKind.u8.wrap (fq .i64 (a.getD g.toNat ATE.zero) 1)))]:ASH)))
 else none
 else none)
 else none
 else none
 else
 some (.inr (i,j))
def F7 a b c (z_:Int×ASH×ASH):=Mx a b c z_.1 z_.2.1 z_.2.2
def PX a b c e i j:=fix (F7 a b c) (e,i,j)
theorem ADK a b c:A3 E67 0 28 (code f65) 16378 (ABl a b c) (F7 a b c) (Azb a b c):=by
 intro _;simp(disch:=refine id ?_;kernel_rfl) only[F7,Mx,ASr,Ev (ADJ ..) (K:=JG E67 0 28)];kernel_rfl
def ABk k l n o (z_:Int×ASH):=sT 140 [(0,Ar k),(1,Bb l),(2,BV n),(8,BJ o),(11,.AG 0),(13,dI z_.1)] [Ay z_.2]
def Aza(k:ASL)(l:ASN) n o:=λ(a:ASH)=>xE 4 140 [(2,BV n),(8,BJ o),(11,BJ a)] []
def ABj k l n o q s t (z_:Int×ASH):=sT 140 [(0,Ar k),(1,Bb l),(2,BV n),(8,BJ o),(11,.AG 0),(13,dI q),(18,TE s),(19,TE t),(20,dI z_.1)] [Ay z_.2]
def Ay9 k l n o q (s:ASK) (t:ASK):=λ(u:ASH)=>xE 6 140 [(0,Ar k),(1,Bb l),(2,BV n),(8,BJ o),(11,.AG 0),(13,dI q)] [Ay u]
def RP(k:ASL)(l:ASN)(n:ASO)(o:ASH)(q:Int)(s t:ASK)(v:Int)(w:ASH):ATV (AS5⊕ASH):=
 bif decide (v<(s.length:Int))then
 if 0<=v/\v<s.length then
 if 0<=v/\v<t.length then
 (K2 o (s.getD v.toNat Aa.zero)).bind λx=>(K2 o (t.getD v.toNat Aa.zero)).bind λy=>(K9 x y w).bind λa1=>some (.inl (wI (v+1),a1))
 else none
 else none
 else
 some (.inr w)
def Mv k l n o q s t (z_:Int×ASH):=RP k l n o q s t z_.1 z_.2
def UD k l n o q s t v w:=fix (Mv k l n o q s t) (v,w)
theorem ADH k l n o q s t:A3 E67 0 21 (cd f65 2036) 830 (ABj k l n o q s t) (Mv k l n o q s t) (Ay9 k l n o q s t):=by
 intro _;simp only[Mv,RP,ASr];kernel_rfl
def RQ(k:ASL)(l:ASN)(n:ASO)(o:ASH)(q:Int)(b1:ASH):ATV (AS5⊕ASH):=
 bif decide (q<(l.length:Int))then
 if 0<=q/\q<l.length then
 (BG k (l.getD q.toNat Af.zero).2.2.1).bind λc1=>if 0<=q/\q<l.length then
 (BG k (l.getD q.toNat Af.zero).2.2.2.1).bind λd1=>(I5 c1.2).bind λs=>(I5 d1.2).bind λt=>(UD k l n o q s t 0 b1).bind λu=>some (.inl (wI (q+1),u))
 else none
 else none
 else
 some (.inr b1)
def Mw k l n o (z_:Int×ASH):=RQ k l n o z_.1 z_.2
def PW k l n o q b1:=fix (Mw k l n o) (q,b1)
theorem ADI k l n o:A3 E67 0 14 (code f65) 1018 (ABk k l n o) (Mw k l n o) (Aza k l n o):=by
 intro _;simp(disch:=refine id ?_;kernel_rfl) only[Mw,RQ,ASr,UD,AF (ADH _ _ _ _ _ _ _) (K:=JG E67 0 14)];kernel_rfl
def ABi k l n e1 g1 (z_:Int×ASH):=sT 140 [(0,Ar k),(1,Bb l),(2,BV n),(8,BJ e1),(9,dI g1),(11,.AG 0),(12,dI z_.1)] [Ay z_.2]
def Ay8 k l n e1 (g1:Int):=λ(i1:ASH)=>xE 2 140 [(0,Ar k),(1,Bb l),(2,BV n),(8,BJ e1),(11,.AG 0)] [Ay i1]
def Mu(k:ASL)(l:ASN)(n:ASO)(e1:ASH)(g1 j1:Int)(k1:ASH):ATV (AS5⊕ASH):=
 bif decide (j1<g1)then
 if(k1.length+([j1]:ASH).length)*8<=140737488355328 then
 some (.inl (wI (j1+1),k1++([j1]:ASH)))
 else none
 else
 some (.inr k1)
def F6 k l n e1 g1 (z_:Int×ASH):=Mu k l n e1 g1 z_.1 z_.2
def PV k l n e1 g1 j1 k1:=fix (F6 k l n e1 g1) (j1,k1)
theorem ADG k l n e1 g1:A3 E67 0 10 (code f65) 506 (ABi k l n e1 g1) (F6 k l n e1 g1) (Ay8 k l n e1 g1):=by
 intro _;simp only[F6,Mu,ASr];kernel_rfl
def ABh k l n (z_:Int×Int×ASH):=sT 140 [(0,Ar k),(1,Bb l),(2,BV n),(8,.AG 0),(9,dI z_.1),(10,dI z_.2.1)] [Ay z_.2.2]
def Ay7 k l n:=λ(l1:(ASH×Int))=>xE 0 140 [(0,Ar k),(1,Bb l),(2,BV n),(8,BJ l1.1),(9,dI l1.2)] []
def Mt(k:ASL)(l:ASN)(n:ASO)(n1 o1:Int)(q1:ASH):ATV (ATq⊕(ASH×Int)):=
 bif decide (o1<(k.length:Int))then
 if(q1.length+([n1]:ASH).length)*8<=140737488355328 then
 if 0<=o1/\o1<k.length then
 some (.inl (wI (n1+(k.getD o1.toNat Ab.zero).2.1),wI (o1+1),q1++([n1]:ASH)))
 else none
 else none
 else
 some (.inr (q1,n1))
def F5 k l n (z_:Int×Int×ASH):=Mt k l n z_.1 z_.2.1 z_.2.2
def PU k l n n1 o1 q1:=fix (F5 k l n) (n1,o1,q1)
theorem ADF k l n:A3 E67 0 4 (code f65) 122 (ABh k l n) (F5 k l n) (Ay7 k l n):=by
 intro _;simp only[F5,Mt,ASr];kernel_rfl
def RO(k:ASL)(l:ASN)(n:ASO):ATV ATk:=
 (PU k l n 2 0 ([]:ASH)).bind λl1=>(PV k l n l1.1 l1.2 0 ([]:ASH)).bind λi1=>(PW k l n l1.1 0 i1).bind λa=>(I5 n).bind λb=>(PX a b l1.1 0 ([]:ASH) ([]:ASH)).bind λd=>some (d.1,d.2)
def c65:=Ci [.d ATK,.d ATL,.d ATH] [⟨[.AB [] ATK,.AB [] ATL,.AB [] ATH],[],ATk,λp=>RO p.1.1 p.1.2.1 p.1.2.2.1,λr=>(.cons HS (.cons I8 .nil),[Lg r.1,Lg r.2])⟩]
theorem Alk:Ao prog 65 c65:=Av (fn:=f65) ⟨⟨E67,pk ⟨jd,Aa4,uD,AfI,trivial⟩,λ_ R K=>by
 simp(disch:=refine id ?_;kernel_rfl) only[RO,ASs,PU,AF (ADF _ _ _) (K:=A0 E67 f65 0 R K),PV,AF (ADG _ _ _ _ _) (K:=A0 E67 f65 0 R K),PW,AF (ADI _ _ _ _) (K:=A0 E67 f65 0 R K),PX,AF (ADK _ _ _) (K:=A0 E67 f65 0 R K)];kernel_rfl⟩,trivial⟩
abbrev E68:=eN [(63,c63),(64,c64),(65,c65),(66,c66),(67,c67)] {Bw:=[(4,{A7:=[0,1,6,7,9,10,32],O4:=[(10,false,ATH)]})],YH:=[(10,[6,7,8])],Da:=[(4,[0,1,6,7,9,10,11])],Zm:=[(10,[6,7,14,16])],iI:=[(43,ATL)],gk:=[(0,.row [1] 199 ATF true),(1,.row [1] 199 ATF true)]}
def Ani a b c d:=sT 60 [(6,Aq),(7,A1),(14,EB),(16,Nz)] (mK a b c d)
def tZ a b c d:=λ(e:Unit)=>sT 60 [(6,Aq),(7,A1),(8,dI 0)] (AjJ a b c d)
def RI(a b:Int)(c d:ASH):ATV Unit:=
 some ()
theorem ADM(a b:Int)(c d:ASH):Qf E68 0 10 (code f24) 1022 (Ani a b c d) (RI a b c d) (tZ a b c d):=by
 unfold Qf;have h:u0 E68 0 10 (code f24) (pt 1022) (Ani a b c d) =
 ((((Eu (tZ a b c d ())).bind λ_=>Eu (tZ a b c d ())).bind λ_=>Eu (tZ a b c d ())).bind λ_=>some (tZ a b c d ())):=by kernel_rfl
 rw[h];unfold RI;simp only[ASr,mS,mO];clear h;simp only[AQ2,AQf,Eu,EJ]
def Anh g i j (k:AS8):=sT 60 [(0,Ar g),(1,Bb i),(6,Aq),(7,A1),(9,dI j),(10,.AG 2),(11,dB k.1)] [.box Tj,.box Tj,B5 k.2]
def AeI(g:ASL)(i:ASN)(j:Int)(k:AS8)(m0:Bool):Ex×St:=xN 60 [(0,Ar g),(1,Bb i),(6,Aq),(7,A1),(9,dI j),(10,BV k.2),(32,dB m0)] [.box Tj,.box Tj]
theorem ADL g i j k:XJ E68 0 4 (code f24) (pt 60) (Anh g i j k)=some (AeI g i j k ((j==1)||(!k.1))):=by
 refine .trans (b:=
 bif j==1 then
 some (AeI g i j k true)
 else
 some (AeI g i j k (!k.1))) (by kernel_rfl) ?_
 cases (j==1);rfl;rfl
def Nu(g:ASL)(i:ASN)(l:ASD):ATV ATi:=
 (Vl g i).bind λj=>(BG g l).bind λk=>Po (Anh g i j k) (
 bif (j==1)||(!k.1)then
 some (0,0,1,([]:ASH),([]:ASH))
 else
 bif j !=0 then
 some (0,0,j,([]:ASH),([]:ASH))
 else
 (Ji i).bind λn=>(RO g n k.2).bind λo=>(Kp o.1).bind λq=>(Kp o.2).bind λs=>(RI q.1 s.1 q.2.2 s.2.2).bind λe=>some (q.1,s.1,0,q.2.2,s.2.2))
def c24:=Ci [.d ATK,.d ATL,.d An] [⟨[.AB [] ATK,.AB [] ATL,.AB [] An],[],ATi,λp=>Nu p.1.1 p.1.2.1 p.1.2.2.1,λr=>(.cons (.pr (dI r.1) Ps) (.cons (.pr (dI r.2.1) fe) (.cons (dI r.2.2.1) .nil)),[Bq r.2.2.2.1,Bq r.2.2.2.2])⟩]
theorem AkY:Ao prog 24 c24:=Av (fn:=f24) ⟨⟨E68,pk ⟨Alj,jd,Alk,qQ,qR,trivial⟩,λ_ R K=>by
 simp(disch:=refine id ?_;kernel_rfl) only[Nu,ASs,Ev (ADL ..) (K:=A0 E68 f24 0 R K),VE (ADM ..) (K:=A0 E68 f24 0 R K)];kernel_rfl⟩,trivial⟩
abbrev E69:=eN [(24,c24),(66,c66),(78,c78)] {A5:=[(6,[0,5,8,11,12]),(14,{A7:=[11,17,18],Cg:=[(17,false,.row [] 2 ATE true)]})],BB:=[(6,[11]),(14,[17])],Bw:=[(7,{A7:=[0,5,8,11,12],O4:=[(11,false,ATL)]})],Da:=[(7,[0,5,8,11,12])],gk:=[(0,.row [] 2 ATE true)]}
def ABo a (z_:Int×ASH):=sT 78 [(11,Bb a),(17,.AG 0),(18,dI z_.1)] [Ay z_.2]
def Aze(a:ASN):=λ(b:ASH)=>xE 2 78 [(17,.AG 0)] [Ay b]
def RN(a:ASN)(c:Int)(d:ASH):ATV (AS5⊕ASH):=
 bif decide (c<(a.length:Int))then
 if 0<=c/\c<a.length then
 if(d.length+([(a.getD c.toNat Af.zero).1]:ASH).length)*8<=140737488355328 then
 some (.inl (wI (c+1),d++([(a.getD c.toNat Af.zero).1]:ASH)))
 else none
 else none
 else
 some (.inr d)
def Kc a (z_:Int×ASH):=RN a z_.1 z_.2
def Vk a c d:=fix (Kc a) (c,d)
theorem ADP a:A3 E69 0 14 (code f32) 1018 (ABo a) (Kc a) (Aze a):=by
 intro _;simp only[Kc,RN,ASr];kernel_rfl
def ABn e g i j (z_:ASN×Int):=sT 78 (AjK e z_.1 z_.2) [.box (G0 g),.box (.pr (dI i) cN),Bq j]
def Azd(e:ASL)(g:ASD)(i:Int)(j:ASH):=λ(a:ASN)=>xE 0 78 [(11,Bb a)] []
def ABm e k l g i j:=sT 78 (AjK e k l) [.box (G0 g),.box (.pr (dI i) cN),Bq j]
def Azc e (k:ASN) l g i j:=λ(n:ASN)=>xN 78 (AjK e n l) [.box (G0 g),.box (.pr (dI i) cN),Bq j]
def Vj(e:ASL)(k:ASN)(l:Int)(g:ASD)(i:Int)(j:ASH):ATV ASN:=
 if(0:Int)<=(0:Int)/\(0:Int)<=l/\l<=(k.length:Int)then
 if(0:Int)<=(wI (l+1))/\(wI (l+1))<=(k.length:Int)/\(k.length:Int)<=(k.length:Int)then
 if((k.take l.toNat).drop 0).length*64<=140737488355328 then
 if(((k.take l.toNat).drop 0).length+((k.take (k.length:Int).toNat).drop (wI (l+1)).toNat).length)*64<=140737488355328 then
 (Nu e (((k.take l.toNat).drop 0)++((k.take (k.length:Int).toNat).drop (wI (l+1)).toNat)) g).bind λo=>(Ey (o.1,o.2.2.2.1,()) (i,j,())).bind λq=>bif q then
 some (((k.take l.toNat).drop 0)++((k.take (k.length:Int).toNat).drop (wI (l+1)).toNat))
 else
 some k
 else none
 else none
 else none
 else none
theorem ADN e k l g i j:AQ E69 0 7 (cd f32 500) 6 (ABm e k l g i j) (Vj e k l g i j) (Azc e k l g i j):=by
 unfold AQ;simp only[Vj,ASr];kernel_rfl
def RL(e:ASL)(g:ASD)(i:Int)(j:ASH)(k:ASN)(l:Int):ATV ((ASN×Int)⊕ASN):=
 bif decide (l>=0)then
 (Vj e k l g i j).bind λn=>some (.inl (n,wI (l-1)))
 else
 some (.inr k)
def Nv e g i j (z_:ASN×Int):=RL e g i j z_.1 z_.2
def RJ e g i j k l:=fix (Nv e g i j) (k,l)
theorem ADO e g i j:A3 E69 0 6 (code f32) 250 (ABn e g i j) (Nv e g i j) (Azd e g i j):=by
 intro _;simp(disch:=refine id ?_;kernel_rfl) only[Nv,RL,ASr,Ba (ADN ..) (K:=JG E69 0 6)];kernel_rfl
def XT(e:ASL)(s:ASN)(g:ASD):ATV AS5:=
 (Nu e s g).bind λt=>bif t.2.2.1 !=0 then
 some (t.2.2.1,([]:ASH))
 else
 (Ji s).bind λu=>(RJ e g t.1 t.2.2.2.1 u (wI ((u.length:Int)-1))).bind λa=>(Vk a 0 ([]:ASH)).bind λb=>some (0,b)
def c32:=Ci [.d ATK,.d ATL,.d An] [⟨[.AB [] ATK,.AB [] ATL,.AB [] An],[],AS5,λp=>XT p.1.1 p.1.2.1 p.1.2.2.1,λr=>(.cons HS (.cons (dI r.1) .nil),[Ay r.2])⟩]
theorem Ak2:Ao prog 32 c32:=Av (fn:=f32) ⟨⟨E69,pk ⟨AkY,qQ,AaY,trivial⟩,λ_ R K=>by
 simp(disch:=refine id ?_;kernel_rfl) only[XT,ASs,RJ,AF (ADO _ _ _ _) (K:=A0 E69 f32 0 R K),Vk,AF (ADP _) (K:=A0 E69 f32 0 R K)];kernel_rfl⟩,trivial⟩
abbrev E70:=eN [] {A5:=[(4,[0,3])],BB:=[(4,[2])],Bw:=[(2,[0,21]),(7,[0,3,49])],Da:=[(2,[0]),(7,[0,3])]}
def ABr a (z_:Int):=sT 50 [(0,Ia a),(3,dI z_)] []
def Azh(a:ByteArray):=Sum.elim (λ(b:Unit)=>xR 50 [(2,dB false)] []) (λ(c:Unit)=>xE 0 50 [] [])
def ABq a d:=sT 50 [(0,Ia a),(3,dI d)] []
def Azg a d:=λ(e:Bool)=>xN 50 [(0,Ia a),(3,dI d),(49,dB e)] []
def M6(a:ByteArray)(d:Int):ATV Bool:=
 if(0:Int)<=d/\d<(a.size:Int)then
 bif decide ((C8 a d)<97)then
 if(0:Int)<=d/\d<(a.size:Int)then
 bif decide ((C8 a d)<48)then
 some true
 else
 if(0:Int)<=d/\d<(a.size:Int)then
 some (decide ((C8 a d)>57))
 else none
 else none
 else
 if(0:Int)<=d/\d<(a.size:Int)then
 bif decide ((C8 a d)>122)then
 if(0:Int)<=d/\d<(a.size:Int)then
 bif decide ((C8 a d)<48)then
 some true
 else
 if(0:Int)<=d/\d<(a.size:Int)then
 some (decide ((C8 a d)>57))
 else none
 else none
 else
 some false
 else none
 else none
theorem ADR a d:AQ E70 0 7 (cd f117 116) 24 (ABq a d) (M6 a d) (Azg a d):=by
 unfold AQ;simp only[M6,ASr];kernel_rfl
def NT(a:ByteArray)(d:Int):ATV (Int⊕(Unit⊕Unit)):=
 bif decide (d<(a.size:Int))then
 (M6 a d).bind λe=>bif e then
 some (.inr (.inl ()))
 else
 some (.inl (wI (d+1)))
 else
 some (.inr (.inr ()))
def J0 a (z_:Int):=NT a z_
def ZB a d:=fix (J0 a) d
theorem ADS a:A3 E70 0 4 (code f117) 58 (ABr a) (J0 a) (Azh a):=by
 intro _;simp(disch:=refine id ?_;kernel_rfl) only[J0,NT,ASr,Ba (ADR ..) (K:=JG E70 0 4)];kernel_rfl
def ABp a:=sT 50 [(0,Ia a)] []
def Azf a:=λ(g:Bool)=>xN 50 [(0,Ia a),(21,dB g)] []
def Rf(a:ByteArray):ATV Bool:=
 bif decide ((a.size:Int)<1)then
 some true
 else
 bif decide ((a.size:Int)>12)then
 some true
 else
 if(0:Int)<=(0:Int)/\(0:Int)<(a.size:Int)then
 bif decide ((C8 a 0)<97)then
 some true
 else
 if(0:Int)<=(0:Int)/\(0:Int)<(a.size:Int)then
 some (decide ((C8 a 0)>122))
 else none
 else none
theorem ADQ a:AQ E70 0 2 (code f117) 12 (ABp a) (Rf a) (Azf a):=by
 unfold AQ;simp only[Rf,ASr];kernel_rfl
def QG(a:ByteArray):ATV Bool:=
 (Rf a).bind λg=>bif g then
 some false
 else
 (ZB a 0).bind (Sum.elim (λb=>some false) (λc=>some true))
def AET:=Ci [.d .str] [⟨[.AB [] .str],[],Bool,λp=>QG p.1.1,λr=>(dB r,[])⟩]
theorem AfK:Ao prog 117 AET:=Av (fn:=f117) ⟨⟨E70,pk trivial,λ_ R K=>by
 simp(disch:=refine id ?_;kernel_rfl) only[QG,ASs,Ba (ADQ _) (K:=A0 E70 f117 0 R K),ZB,AF (ADS _) (K:=A0 E70 f117 0 R K)];kernel_rfl⟩,trivial⟩
abbrev E71:=eN [] {}
def AW(a b c:Int):Bool:=((decide (a>=b))&&(decide (a<=c)))
theorem U71 R a b c K:T6 E71 f118 R [dI a,dI b,dI c] [] K=K (dB (AW a b c)) []:=by
 refine .trans (b:=
 bif decide (a>=b)then
 K (dB (decide (a<=c))) []
 else
 K (dB false) []) (by kernel_rfl) ?_
 unfold AW;cases (decide (a>=b));rfl;rfl
def yZ:=Ci [.d ATE,.d ATE,.d ATE] [⟨[.AB [] ATE,.AB [] ATE,.AB [] ATE],[],Bool,λp=>some (AW p.1.1 p.1.2.1 p.1.2.2.1),λr=>(dB r,[])⟩]
theorem Xu:Ao prog 118 yZ:=Av ⟨⟨E71,pk trivial,λ_ _ _=>U71 ..⟩,trivial⟩
end
end Go.Proofs.X
namespace Go.Proofs.X
open Go Go.Va Go.Proofs.Tryz
set_option maxRecDepth 100000
noncomputable section
abbrev E72:=eN [] {}
def Uo(a:ASv)(b:ByteArray):Bool:=(Jn a.1 b)
def AFg:=Ci [.d Ab,.p .str] [⟨[.AB [] Ab,.FZ [] .str],[],Bool,λp=>some (Uo p.1.1 p.1.2.1),λr=>(dB r,[])⟩]
theorem Af8:Ao prog 152 AFg:=Av (fn:=f152) ⟨⟨E72,pk trivial,λ_ _ _=>by kernel_rfl⟩,trivial⟩
abbrev E73:=eN [(152,AFg)] {A5:=[(2,[0,1,7,8])],BB:=[(2,[4])]}
def ABs a (b:Int) c d (z_:Int):=sT 19 [(0,Ar a),(1,.fn 152 (.cons (.ptr 0 b [] 0) .nil)),(7,dI d),(8,dI z_)] [.box (Ia c)]
def Azi(a:ASL)(b:Int) c (d:Int):=Sum.elim (λ(e:Int)=>xR 19 [(4,dI e)] [.box (Ia c)]) (λ(g:Unit)=>xE 0 19 [] [.box (Ia c)])
def D8(a:ASL)(b:Int)(c:ByteArray)(d i:Int):ATV (Int⊕(Int⊕Unit)):=
 bif decide (i<d)then
 if 0<=i/\i<a.length then
 bif Uo (a.getD i.toNat Ab.zero) c then
 some (.inr (.inl i))
 else
 some (.inl (wI (i+1)))
 else none
 else
 some (.inr (.inr ()))
def CR a b c d (z_:Int):=D8 a b c d z_
def Jg a b c d i:=fix (CR a b c d) i
theorem ADT a b c d:A3 E73 1 2 (code f151) 26 (ABs a b c d) (CR a b c d) (Azi a b c d):=by
 intro _;simp only[CR,D8,ASr];kernel_rfl
def H8(a:ASL)(b:Int)(c:ByteArray):ATV (Int×ByteArray):=
 (Jg a b c (a.length:Int) 0).bind (Sum.elim (λe=>some (e,c)) (λg=>some (-1,c)))
def AFf:=Ci [.d ATK,.VA] [⟨[.AB [] ATK,.fn 152 (.cons (.ptr 0 [] 0) (.k .nil))],[.box (.AB [] .str)],Int×ByteArray,λp=>H8 p.1.1 p.1.2.1.1 p.2.1,λr=>(dI r.1,[.box (Ia r.2)])⟩]
theorem Af7:Ao prog 151 AFf:=Av (fn:=f151) ⟨⟨E73,pk ⟨Af8,trivial⟩,λ_ R K=>by
 simp(disch:=refine id ?_;kernel_rfl) only[H8,ASs,Jg,AF (ADT _ _ _ _) (K:=A0 E73 f151 1 R K)];kernel_rfl⟩,trivial⟩
abbrev E74:=eN [(151,AFf)] {}
def LA(a:ASL)(b:ByteArray):ATV Int:=
 (H8 a 0 b).bind λc=>some c.1
def AEU:=Ci [.d ATK,.d .str] [⟨[.AB [] ATK,.AB [] .str],[],Int,λp=>LA p.1.1 p.1.2.1,λr=>(dI r,[])⟩]
theorem AfL:Ao prog 119 AEU:=Av (fn:=f119) ⟨⟨E74,pk ⟨Af7,trivial⟩,λ_ R K=>by
 simp only[LA,ASs];kernel_rfl⟩,trivial⟩
abbrev E75:=eN [(117,AET),(118,yZ),(119,AEU)] {A5:=[(5,[0,3,9,10,11])],BB:=[(5,[2,3])],Bw:=[(8,[0,3,5,9,10,11,34])],Da:=[(8,[0,3,4,5,9,10,11])]}
def ABu a b (z_:Int×Int):=sT 42 [(0,Ar a),(3,dI z_.1),(9,Ar a),(10,dI b),(11,dI z_.2)] []
def Azk(a:ASL)(b:Int):=Sum.elim (λ(c:Int)=>xR 42 [(2,dB false),(3,dI c)] []) (λ(d:Int)=>xE 0 42 [(3,dI d)] [])
def ABt a e g b i:=sT 42 [(0,Ar a),(3,dI e),(4,dI g),(5,Aq),(9,Ar a),(10,dI b),(11,dI g)] [.box (eV i)]
def Azj a e g b i:=λ(j:Bool)=>xN 42 [(0,Ar a),(3,dI e),(5,Aq),(9,Ar a),(10,dI b),(11,dI g),(34,dB j)] [.box (eV i)]
def Pv(a:ASL)(e g b:Int)(i:ASv):ATV Bool:=
 (QG i.1).bind λk=>bif !k then
 some true
 else
 bif !(AW i.2.1 1 4096)then
 some true
 else
 if(0:Int)<=(0:Int)/\(0:Int)<=g/\g<=(a.length:Int)then
 (LA ((a.take g.toNat).drop 0) i.1).bind λl=>some (decide (l>=0))
 else none
theorem ADU a e g b i:AQ E75 0 8 (cd f69 244) 228 (ABt a e g b i) (Pv a e g b i) (Azj a e g b i):=by
 unfold AQ;simp only[Pv,ASr];kernel_rfl
def L5(a:ASL)(b e g:Int):ATV (AS7⊕(Int⊕Int)):=
 bif decide (g<b)then
 if 0<=g/\g<a.length then
 (Pv a e g b (a.getD g.toNat Ab.zero)).bind λj=>bif j then
 some (.inr (.inl e))
 else
 some (.inl (wI (e+(a.getD g.toNat Ab.zero).2.1),wI (g+1)))
 else none
 else
 some (.inr (.inr e))
def Iz a b (z_:Int×Int):=L5 a b z_.1 z_.2
def YM a b e g:=fix (Iz a b) (e,g)
theorem ADV a b:A3 E75 0 5 (code f69) 122 (ABu a b) (Iz a b) (Azk a b):=by
 intro _;simp(disch:=refine id ?_;kernel_rfl) only[Iz,L5,ASr,Ba (ADU ..) (K:=JG E75 0 5)];kernel_rfl
def Kx(a:ASL):ATV Bool:=
 bif decide ((a.length:Int)>60)then
 some false
 else
 (YM a (a.length:Int) 0 0).bind (Sum.elim (λc=>some false) (λd=>some (decide (d<=20000))))
def c69:=Ci [.d ATK] [⟨[.AB [] ATK],[],Bool,λp=>Kx p.1.1,λr=>(dB r,[])⟩]
theorem qS:Ao prog 69 c69:=Av (fn:=f69) ⟨⟨E75,pk ⟨AfK,Xu,AfL,trivial⟩,λ_ R K=>by
 simp(disch:=refine id ?_;kernel_rfl) only[Kx,ASs,YM,AF (ADV _ _) (K:=A0 E75 f69 0 R K)];kernel_rfl⟩,trivial⟩
abbrev E76:=eN [] {}
def Cs(a:Int):Int:=(wI (Int.tdiv (wI (a+63)) 64))
def Avs:=Ci [.d ATE] [⟨[.AB [] ATE],[],Int,λp=>some (Cs p.1.1),λr=>(dI r,[])⟩]
theorem uJ:Ao prog 157 Avs:=Av (fn:=f157) ⟨⟨E76,pk trivial,λ_ _ _=>by kernel_rfl⟩,trivial⟩
abbrev E77:=eN [(118,yZ),(157,Avs)] {Bw:=[(2,[1,16])],Da:=[(2,[1])]}
def Anj a:=sT 35 [(1,Aq)] [.box (JK a)]
def AeJ(a:ASA)(m0:Bool):Ex×St:=xN 35 [(1,Aq),(16,dB m0)] [.box (JK a)]
theorem ADW a:XJ E77 0 2 (code f190) (pt 12) (Anj a)=some (AeJ a ((!(AW a.1 1 4096))||((a.2.1.length:Int) !=(Cs a.1)))):=by
 refine .trans (b:=
 bif !(AW a.1 1 4096)then
 some (AeJ a true)
 else
 some (AeJ a ((a.2.1.length:Int) !=(Cs a.1)))) (by kernel_rfl) ?_
 cases (!(AW a.1 1 4096));rfl;rfl
def QD(a:ASA):ATV Bool:=
 Po (Anj a) (
 bif (!(AW a.1 1 4096))||((a.2.1.length:Int) !=(Cs a.1))then
 some false
 else
 bif (Int.tmod a.1 64)==0 then
 some true
 else
 if 0<=(wI ((a.2.1.length:Int)-1))/\(wI ((a.2.1.length:Int)-1))<a.2.1.length then
 if(Int.tmod a.1 64)<(0:Int)then none else
 some ((T8 .u64 (a.2.1.getD (wI ((a.2.1.length:Int)-1)).toNat ATF.zero) (Int.tmod a.1 64))==0)
 else none)
def AFJ:=Ci [.d Ai] [⟨[.AB [] Ai],[],Bool,λp=>QD p.1.1,λr=>(dB r,[])⟩]
theorem AgB:Ao prog 190 AFJ:=Av (fn:=f190) ⟨⟨E77,pk ⟨Xu,uJ,trivial⟩,λ_ R K=>by
 simp(disch:=refine id ?_;kernel_rfl) only[QD,ASs,Ev (ADW _) (K:=A0 E77 f190 0 R K)];kernel_rfl⟩,trivial⟩
abbrev qt:=eN [(118,yZ),(190,AFJ)] {A5:=[(11,[8,80,81,82])],BB:=[(11,[8])],Bw:=[(4,[0,1,2,7]),(5,[0,1,2,7,17]),(7,[0,2,7,46]),(9,[0,2,7,69]),(19,[0,7,95]),(21,[0,7,137]),(23,[0,7,163]),(25,[0,7,184])],Da:=[(4,[0,1,2,7]),(5,[0,1,2,7]),(7,[0,2,7]),(9,[0,2,7]),(19,[0,7]),(21,[0,7]),(23,[0,7]),(25,[0,7])]}
def Anp a b:=sT 203 (Acd a b) []
def AeL(a:ASz)(b:Int)(m0:Bool):Ex×St:=xN 203 [(0,.FZ [] Ah a),(7,dI b),(184,dB m0)] []
theorem AD5 a b:XJ qt 0 25 (code f174) (pt 1998846) (Anp a b)=some (AeL a b ((a.1==9)&&(AW a.2.2.1 1 4096))):=by
 refine .trans (b:=
 bif a.1==9 then
 some (AeL a b (AW a.2.2.1 1 4096))
 else
 some (AeL a b false)) (by kernel_rfl) ?_
 cases (a.1==9);rfl;rfl
def Ano a b:=sT 203 (Acd a b) []
def AaC(a:ASz)(b:Int)(m0:Bool):Ex×St:=xN 203 [(0,.FZ [] Ah a),(7,dI b),(163,dB m0)] []
theorem AD4 a b:XJ qt 0 23 (code f174) (pt 499710) (Ano a b)=some (AaC a b (bif a.1==7 then(AW a.2.2.1 0 4096)else((a.1==8)&&(AW a.2.2.1 0 4096)))):=by
 refine .trans (b:=
 bif a.1==7 then
 some (AaC a b (AW a.2.2.1 0 4096))
 else
 bif a.1==8 then
 some (AaC a b (AW a.2.2.1 0 4096))
 else
 some (AaC a b false)) (by kernel_rfl) ?_
 cases (a.1==7);cases (a.1==8);rfl;rfl;rfl
def Ann a b:=sT 203 (Acd a b) []
def AaB(a:ASz)(b:Int)(m0:Bool):Ex×St:=xN 203 [(0,.FZ [] Ah a),(7,dI b),(137,dB m0)] []
theorem AD3 a b:XJ qt 0 21 (code f174) (pt 124926) (Ann a b)=some (AaB a b (bif a.1==5 then(AW a.2.2.1 0 4096)else((a.1==6)&&(AW a.2.2.1 0 4096)))):=by
 refine .trans (b:=
 bif a.1==5 then
 some (AaB a b (AW a.2.2.1 0 4096))
 else
 bif a.1==6 then
 some (AaB a b (AW a.2.2.1 0 4096))
 else
 some (AaB a b false)) (by kernel_rfl) ?_
 cases (a.1==5);cases (a.1==6);rfl;rfl;rfl
def Anm a b:=sT 203 (Acd a b) []
def ua(a:ASz)(b:Int)(m0:Bool):Ex×St:=xN 203 [(0,.FZ [] Ah a),(7,dI b),(95,dB m0)] []
theorem AD2 a b:XJ qt 0 19 (code f174) (pt 31230) (Anm a b)=some (ua a b ((a.1==4)&&((decide (a.2.2.2.1>=0))&&((decide (a.2.2.2.1<=a.2.2.1))&&(decide (a.2.2.1<b)))))):=by
 refine .trans (b:=
 bif a.1==4 then
 bif decide (a.2.2.2.1>=0)then
 bif decide (a.2.2.2.1<=a.2.2.1)then
 some (ua a b (decide (a.2.2.1<b)))
 else
 some (ua a b false)
 else
 some (ua a b false)
 else
 some (ua a b false)) (by kernel_rfl) ?_
 cases (a.1==4);rfl;cases (decide (a.2.2.2.1>=0));rfl;cases (decide (a.2.2.2.1<=a.2.2.1));rfl;rfl
def ABx c d (z_:Int×Int):=sT 203 [(8,dI z_.1),(80,BJ c),(81,dI d),(82,dI z_.2)] []
def Azn(c:ASH)(d:Int):=λ(e:Int)=>xE 1 203 [(8,dI e)] []
def HV(c:ASH)(d g i:Int):ATV (AS7⊕Int):=
 bif decide (i<d)then
 if 0<=i/\i<c.length then
 some (.inl (wI (g+(c.getD i.toNat ATE.zero)),wI (i+1)))
 else none
 else
 some (.inr g)
def Cx c d (z_:Int×Int):=HV c d z_.1 z_.2
def OP c d g i:=fix (Cx c d) (g,i)
theorem AD1 c d:A3 qt 0 11 (code f174) 62442 (ABx c d) (Cx c d) (Azn c d):=by
 intro _;simp only[Cx,HV,ASr];kernel_rfl
def Anl a c b:=sT 203 [(0,.FZ [] Ah a),(2,BJ c),(7,dI b)] []
def AeK(a:ASz)(c:ASH)(b:Int)(m0:Bool):Ex×St:=xN 203 [(0,.FZ [] Ah a),(2,BJ c),(7,dI b),(69,dB m0)] []
theorem AD0 a c b:XJ qt 0 9 (code f174) (pt 1950) (Anl a c b)=some (AeK a c b ((a.1==3)&&(decide ((c.length:Int)>1)))):=by
 refine .trans (b:=
 bif a.1==3 then
 some (AeK a c b (decide ((c.length:Int)>1)))
 else
 some (AeK a c b false)) (by kernel_rfl) ?_
 cases (a.1==3);rfl;rfl
def ABw a c b:=sT 203 [(0,.FZ [] Ah a),(2,BJ c),(7,dI b)] []
def Azm a c b:=λ(j:Bool)=>xN 203 [(0,.FZ [] Ah a),(2,BJ c),(7,dI b),(46,dB j)] []
def Gy(a:ASz)(c:ASH)(b:Int):ATV Bool:=
 bif a.1==2 then
 bif (c.length:Int)==0 then
 (QD a.2.2.2.2.1).bind λk=>some k
 else
 some false
 else
 some false
theorem ADZ a c b:AQ qt 0 7 (code f174) 486 (ABw a c b) (Gy a c b) (Azm a c b):=by
 unfold AQ;simp only[Gy,ASr];kernel_rfl
def Ank a l c b:=sT 203 [(0,.FZ [] Ah a),(1,Ar l),(2,BJ c),(7,dI b)] []
def AaA(a:ASz)(l:ASL)(c:ASH)(b:Int)(m0:Bool):Ex×St:=xN 203 [(0,.FZ [] Ah a),(1,Ar l),(2,BJ c),(7,dI b),(17,dB m0)] []
theorem ADY a l c b:XJ qt 0 5 (code f174) (pt 120) (Ank a l c b)=some (AaA a l c b ((a.1==1)&&(((c.length:Int)==0)&&(AW a.2.1 0 (wI ((l.length:Int)-1)))))):=by
 refine .trans (b:=
 bif a.1==1 then
 bif (c.length:Int)==0 then
 some (AaA a l c b (AW a.2.1 0 (wI ((l.length:Int)-1))))
 else
 some (AaA a l c b false)
 else
 some (AaA a l c b false)) (by kernel_rfl) ?_
 cases (a.1==1);rfl;cases ((c.length:Int)==0);rfl;rfl
def ABv a l c:=sT 203 [(0,.FZ [] Ah a),(1,Ar l),(2,BJ c),(7,dI 0)] []
def Azl a l c:=λ(b:Int)=>xN 203 [(0,.FZ [] Ah a),(1,Ar l),(2,BJ c),(7,dI b)] []
def Gx(a:ASz)(l:ASL)(c:ASH):ATV Int:=
 bif decide ((c.length:Int)>0)then
 if(0:Int)<=(0:Int)/\(0:Int)<(c.length:Int)then
 some (c.getD 0 ATE.zero)
 else none
 else
 some 0
theorem ADX a l c:AQ qt 0 4 (code f174) 14 (ABv a l c) (Gx a l c) (Azl a l c):=by
 unfold AQ;simp only[Gx,ASr];kernel_rfl
def G6(a:ASz)(l:ASL)(c:ASH):ATV Int:=
 (Gx a l c).bind λb=>Po (Ank a l c b) (
 bif (a.1==1)&&(((c.length:Int)==0)&&(AW a.2.1 0 (wI ((l.length:Int)-1))))then
 if(0:Int)<=a.2.1/\a.2.1<(l.length:Int)then
 some (l.getD a.2.1.toNat Ab.zero).2.1
 else none
 else
 (Gy a c b).bind λj=>bif j then
 some a.2.2.2.2.1.1
 else
 Po (Anl a c b) (
 bif (a.1==3)&&(decide ((c.length:Int)>1))then
 (OP c (c.length:Int) 0 0).bind λe=>some e
 else
 bif (c.length:Int) !=1 then
 some (-1)
 else
 Po (Anm a b) (
 bif (a.1==4)&&((decide (a.2.2.2.1>=0))&&((decide (a.2.2.2.1<=a.2.2.1))&&(decide (a.2.2.1<b))))then
 some (wI ((wI (a.2.2.1-a.2.2.2.1))+1))
 else
 Po (Ann a b) (
 bif bif (a.1==5)then(AW a.2.2.1 0 4096)else((a.1==6)&&(AW a.2.2.1 0 4096))then
 some (wI (b+a.2.2.1))
 else
 Po (Ano a b) (
 bif bif (a.1==7)then(AW a.2.2.1 0 4096)else((a.1==8)&&(AW a.2.2.1 0 4096))then
 some b
 else
 Po (Anp a b) (
 bif (a.1==9)&&(AW a.2.2.1 1 4096)then
 some (wI (b*a.2.2.1))
 else
 some (-1)))))))
def AFy:=Ci [.p Ah,.d ATK,.d ATJ] [⟨[.FZ [] Ah,.AB [] ATK,.AB [] ATJ],[],Int,λp=>G6 p.1.1 p.1.2.1 p.1.2.2.1,λr=>(dI r,[])⟩]
theorem Agq:Ao prog 174 AFy:=Av (fn:=f174) ⟨⟨qt,pk ⟨Xu,AgB,trivial⟩,λ_ R K=>by
 simp(disch:=refine id ?_;kernel_rfl) only[G6,ASs,Ba (ADX ..) (K:=A0 qt f174 0 R K),Ev (ADY ..) (K:=A0 qt f174 0 R K),Ba (ADZ ..) (K:=A0 qt f174 0 R K),Ev (AD0 ..) (K:=A0 qt f174 0 R K),OP,AF (AD1 _ _) (K:=A0 qt f174 0 R K),Ev (AD2 ..) (K:=A0 qt f174 0 R K),Ev (AD3 ..) (K:=A0 qt f174 0 R K),Ev (AD4 ..) (K:=A0 qt f174 0 R K),Ev (AD5 ..) (K:=A0 qt f174 0 R K)];kernel_rfl⟩,trivial⟩
abbrev E79:=eN [] {Bw:=[(2,[0,3]),(3,[0,52])],Da:=[(2,[0]),(3,[0,3])]}
def Anr a:=sT 75 [(0,.FZ [] Ah a),(3,dB ((decide (a.1>=4))&&(decide (a.1<=9))))] []
def YE(a:ASz)(m0:Bool):Ex×St:=xN 75 [(0,.FZ [] Ah a),(52,dB m0)] []
theorem AD7 a:XJ E79 0 3 (code f175) (pt 28) (Anr a)=some (YE a (bif !((decide (a.1>=4))&&(decide (a.1<=9)))then((a.2.2.1 !=0)||(bif a.1 !=4 then((a.2.2.2.1 !=0)||((a.1 !=1)&&(a.2.1 !=0)))else((a.1 !=1)&&(a.2.1 !=0))))else(bif a.1 !=4 then((a.2.2.2.1 !=0)||((a.1 !=1)&&(a.2.1 !=0)))else((a.1 !=1)&&(a.2.1 !=0))))):=by
 refine .trans (b:=
 bif !((decide (a.1>=4))&&(decide (a.1<=9)))then
 bif a.2.2.1 !=0 then
 some (YE a true)
 else
 bif a.1 !=4 then
 bif a.2.2.2.1 !=0 then
 some (YE a true)
 else
 bif a.1 !=1 then
 some (YE a (a.2.1 !=0))
 else
 some (YE a false)
 else
 bif a.1 !=1 then
 some (YE a (a.2.1 !=0))
 else
 some (YE a false)
 else
 bif a.1 !=4 then
 bif a.2.2.2.1 !=0 then
 some (YE a true)
 else
 bif a.1 !=1 then
 some (YE a (a.2.1 !=0))
 else
 some (YE a false)
 else
 bif a.1 !=1 then
 some (YE a (a.2.1 !=0))
 else
 some (YE a false)) (by kernel_rfl) ?_
 cases (!((decide (a.1>=4))&&(decide (a.1<=9))));cases (a.1 !=4);cases (a.1 !=1);rfl;rfl;cases (a.2.2.2.1 !=0);cases (a.1 !=1);rfl;rfl;rfl;cases (a.2.2.1 !=0);cases (a.1 !=4);cases (a.1 !=1);rfl;rfl;cases (a.2.2.2.1 !=0);cases (a.1 !=1);rfl;rfl;rfl;rfl
def Anq a:=sT 75 [(0,.FZ [] Ah a)] []
def AeM(a:ASz)(m0:Bool):Ex×St:=xN 75 [(0,.FZ [] Ah a),(3,dB m0)] []
theorem AD6 a:XJ E79 0 2 (code f175) (pt 6) (Anq a)=some (AeM a ((decide (a.1>=4))&&(decide (a.1<=9)))):=by
 refine .trans (b:=
 bif decide (a.1>=4)then
 some (AeM a (decide (a.1<=9)))
 else
 some (AeM a false)) (by kernel_rfl) ?_
 cases (decide (a.1>=4));rfl;rfl
def EK(a:ASz):Bool:=((!(bif !((decide (a.1>=4))&&(decide (a.1<=9)))then((a.2.2.1 !=0)||(bif a.1 !=4 then((a.2.2.2.1 !=0)||((a.1 !=1)&&(a.2.1 !=0)))else((a.1 !=1)&&(a.2.1 !=0))))else(bif a.1 !=4 then((a.2.2.2.1 !=0)||((a.1 !=1)&&(a.2.1 !=0)))else((a.1 !=1)&&(a.2.1 !=0)))))&&((a.1==2)||((a.2.2.2.2.1.1==0)&&((a.2.2.2.2.1.2.1.length:Int)==0))))
theorem U79 R a K:T6 E79 f175 R [.FZ [] Ah a] [] K=K (dB (EK a)) []:=by
 refine .trans (b:=
 Po (Anq a) (
 Po (Anr a) (
 bif bif (!((decide (a.1>=4))&&(decide (a.1<=9))))then((a.2.2.1 !=0)||(bif (a.1 !=4)then((a.2.2.2.1 !=0)||((a.1 !=1)&&(a.2.1 !=0)))else((a.1 !=1)&&(a.2.1 !=0))))else(bif (a.1 !=4)then((a.2.2.2.1 !=0)||((a.1 !=1)&&(a.2.1 !=0)))else((a.1 !=1)&&(a.2.1 !=0)))then
 K (dB false) []
 else
 bif a.1==2 then
 K (dB true) []
 else
 bif a.2.2.2.2.1.1==0 then
 K (dB ((a.2.2.2.2.1.2.1.length:Int)==0)) []
 else
 K (dB false) []))) (by
  simp(disch:=refine id ?_;kernel_rfl) only[Ev (AD6 _) (K:=A0 E79 f175 0 R K),Ev (AD7 _) (K:=A0 E79 f175 0 R K)];kernel_rfl) ?_
 unfold EK;cases (bif !((decide (a.1>=4))&&(decide (a.1<=9)))then((a.2.2.1 !=0)||(bif a.1 !=4 then((a.2.2.2.1 !=0)||((a.1 !=1)&&(a.2.1 !=0)))else((a.1 !=1)&&(a.2.1 !=0))))else(bif a.1 !=4 then((a.2.2.2.1 !=0)||((a.1 !=1)&&(a.2.1 !=0)))else((a.1 !=1)&&(a.2.1 !=0))));cases (a.1==2);cases (a.2.2.2.2.1.1==0);rfl;rfl;rfl;rfl
def AFz:=Ci [.p Ah] [⟨[.FZ [] Ah],[],Bool,λp=>some (EK p.1.1),λr=>(dB r,[])⟩]
theorem Agr:Ao prog 175 AFz:=Av ⟨⟨E79,pk trivial,λ_ _ _=>U79 ..⟩,trivial⟩
end
end Go.Proofs.X
