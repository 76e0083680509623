import Derived.KernelRfl
import Derived.Test.YtniphlhooggimaaGreatK3
set_option linter.unusedVariables false
set_option linter.unusedSimpArgs false
namespace Go.Proofs.X
open Go Go.Va Go.Proofs.Tryz
set_option maxRecDepth 100000
noncomputable section
abbrev E48:=eN [(54,c54),(88,c88),(89,c89),(90,c90),(91,c91)] {BS:=[(2,[0,1,5,6,18])],DD:=[(2,[0,1,5,6])],RF:=[(0,Am),(1,.bool)]}
def AwT a b c:=sT 31 [(0,Au a),(1,Bo b),(5,Ar),(6,A6)] [.box (BQ c),.box UK]
def AuP a b c:=λ(d:Bool)=>xN 31 [(0,Au a),(1,Bo b),(5,Ar),(6,A6),(18,dB d)] [.box (BQ c),.box UK]
def Lk(a:AOE)(b:AOG)(c:AOt):APJ Bool:=
 (Jt a c).bind λe=>bif !e then
 some true
 else
 (Ee a b).bind λg=>some (!g)
theorem Ay6 a b c:AY E48 0 2 (code f58) 12 (AwT a b c) (Lk a b c) (AuP a b c):=by
 unfold AY;simp only[Lk,AOi];kernel_rfl
def Cj(a:AOE)(b:AOG)(c:AOt):APJ (AOt×Bool):=
 (Lk a b c).bind λd=>bif d then
 some ((([]:AON),()),false)
 else
 (M8 a c).bind λi=>(TD a b i).bind λj=>bif !j.1 then
 some ((([]:AON),()),false)
 else
 (SE j.2).bind λk=>some ((k,()),true)
def c58:=Cx [.d APx,.d APz,.d Am] [⟨[.AB [] APx,.AB [] APz,.AB [] Am],[],AOt×Bool,λp=>Cj p.1.1 p.1.2.1 p.1.2.2.1,λr=>(.cons (BQ r.1) (.cons (dB r.2) .nil),[])⟩]
theorem om:Aq prog 58 c58:=Av (fn:=f58) ⟨⟨E48,pk ⟨fD,fE,yG,Ajf,Ajg,trivial⟩,λ_ R K=>by
 simp(disch:=refine id ?_;kernel_rfl) only[Cj,AOj,Bc (Ay6 ..) (K:=A2 E48 f58 0 R K)];kernel_rfl⟩,trivial⟩
abbrev E49:=eN [(88,c88)] {A8:=[(5,{Bb:=[0,3,5,6],Cg:=[(5,false,.row [] 152 Ab true)]}),(9,{Bb:=[0,3,5,6,7,8],Cg:=[(5,false,.row [] 152 Ab true)]})],BW:=[(5,[5]),(9,[0,3,5,6])],BS:=[(14,[0,3,5,6,7,8,9])],DD:=[(14,[0,3,5,6,7,8,9])],jw:=[(0,.row [] 152 Ab true)]}
def AwW a b (z_:Int×AOD):=sT 64 (z6 a z_.1) [.box (BQ b),Ck z_.2]
def AuS(a:AOE)(b:AOt):=λ(c:AOD)=>xE 0 64 [(5,.AG 0)] [Ck c]
def AwV a d b (z_:Int×Int×AOD):=sT 64 [(0,Au a),(3,Ar),(5,.AG 1),(6,dI d),(7,dI z_.1),(8,dI z_.2.1)] [.box (BQ b),Ck z_.2.2]
def AuR a d b:=λ(e:AOD)=>xE 2 64 (z6 a d) [.box (BQ b),Ck e]
def AwU a d g i b j k:=sT 64 [(0,Au a),(3,Ar),(5,.AG 1),(6,dI d),(7,dI g),(8,dI i),(9,dI k)] [.box (BQ b),Ck j]
def AuQ a d g i b j (k:Int):=λ(l:Int)=>xN 64 [(0,Au a),(3,Ar),(5,.AG 1),(6,dI d),(7,dI g),(8,dI i),(9,dI l)] [.box (BQ b),Ck j]
def Je(a:AOE)(d g i:Int)(b:AOt)(j:AOD)(k:Int):APJ Int:=
 if 0<=d/\d<b.1.length then
 bif decide (i<((b.1.getD d.toNat APw.zero).length:Int))then
 if 0<=d/\d<b.1.length then
 if 0<=i/\i<(b.1.getD d.toNat APw.zero).length then
 some ((b.1.getD d.toNat APw.zero).getD i.toNat APr.zero)
 else none
 else none
 else
 some k
 else none
theorem Ay7 a d g i b j k:AY E49 0 14 (sb (cd f83 244) 204) 50 (AwU a d g i b j k) (Je a d g i b j k) (AuQ a d g i b j k):=by
 unfold AY;simp only[Je,AOi];kernel_rfl
def J7(a:AOE)(d:Int)(b:AOt)(g i:Int)(j:AOD):APJ ((Int×Int×AOD)⊕AOD):=
 if 0<=d/\d<b.1.length then
 bif decide (i<=((b.1.getD d.toNat APw.zero).length:Int))then
 if 0<=d/\d<a.length then
 (Je a d g i b j (a.getD d.toNat Ad.zero).2.1).bind λl=>if(j.length+([(d,g,wI (l-g),())]:AOD).length)*24<=140737488355328 then
 some (.inl (l,wI (i+1),j++([(d,g,wI (l-g),())]:AOD)))
 else none
 else none
 else
 some (.inr j)
 else none
def Ey a d b (z_:Int×Int×AOD):=J7 a d b z_.1 z_.2.1 z_.2.2
def Rq a d b g i j:=fix (Ey a d b) (g,i,j)
theorem Ay8 a d b:A4 E49 0 9 (cd f83 244) 102 (AwV a d b) (Ey a d b) (AuR a d b):=by
 intro _;simp(disch:=refine id ?_;kernel_rfl) only[Ey,J7,AOi,Bc (Ay7 ..) (K:=KJ E49 0 9)];kernel_rfl
def J8(a:AOE)(b:AOt)(d:Int)(n:AOD):APJ (AOX⊕AOD):=
 bif decide (d<(a.length:Int))then
 (Rq a d b 0 0 n).bind λe=>some (.inl (wI (d+1),e))
 else
 some (.inr n)
def Ez a b (z_:Int×AOD):=J8 a b z_.1 z_.2
def Rr a b d n:=fix (Ez a b) (d,n)
theorem Ay9 a b:A4 E49 0 5 (code f83) 122 (AwW a b) (Ez a b) (AuS a b):=by
 intro _;simp(disch:=refine id ?_;kernel_rfl) only[Ez,J8,AOi,Rq,AH (Ay8 _ _ _) (K:=KJ E49 0 5)];kernel_rfl
def Ip(a:AOE)(b:AOt):APJ AOD:=
 (Jt a b).bind λo=>bif !o then
 some ([]:AOD)
 else
 (Rr a b 0 ([]:AOD)).bind λc=>some c
def c83:=Cx [.d APx,.d Am] [⟨[.AB [] APx,.AB [] Am],[],AOD,λp=>Ip p.1.1 p.1.2.1,λr=>(.AG 0,[Ck r])⟩]
theorem oq:Aq prog 83 c83:=Av (fn:=f83) ⟨⟨E49,pk ⟨fE,trivial⟩,λ_ R K=>by
 simp(disch:=refine id ?_;kernel_rfl) only[Ip,AOj,Rr,AH (Ay9 _ _) (K:=A2 E49 f83 0 R K)];kernel_rfl⟩,trivial⟩
abbrev E50:=eN [] {Aw:=false,A8:=[(3,{Bb:=[0,3,4],Cg:=[(3,true,.row [2] 2 APr true)]})],BW:=[(3,[3])]}
def AwX a b (z_:Int×AOz):=sT 25 [(0,dI a),(3,Ar),(4,dI z_.1)] [.box (.pr F8 (.pr .zs Yf)),FQ b,AA z_.2]
def AuT(a:Int) b:=λ(c:AOz)=>xE 0 25 [(3,Ar)] [.box (.pr F8 (.pr .zs Yf)),FQ b,AA c]
def OT(a:Int)(b:AOI)(d:Int)(e:AOz):APJ (AOW⊕AOz):=
 bif decide (d<a)then
 if(e.length+([d]:AOz).length)*8<=140737488355328 then
 some (.inl (wI (d+1),e++([d]:AOz)))
 else none
 else
 some (.inr e)
def HN a b (z_:Int×AOz):=OT a b z_.1 z_.2
def Vz a b d e:=fix (HN a b) (d,e)
theorem Aza a b:A4 E50 0 3 (code f84) 58 (AwX a b) (HN a b) (AuT a b):=by
 intro _;simp only[HN,OT,AOi];kernel_rfl
def Uz(a:Int):APJ (Int×AOI×AOz):=
 if Ty.row Ah=true/\(0:Int)<=a/\a<=a/\((32:Nat):Int)*a<=(281474976710656:Int)/\a<=(9223372036854775807:Int)then
 (Vz a (List.replicate a.toNat (0,([]:AOz),())) 0 ([]:AOz)).bind λc=>some (0,List.replicate a.toNat (0,([]:AOz),()),c)
 else none
def c84:=Cx [.d APr] [⟨[.AB [] APr],[],Int×AOI×AOz,λp=>Uz p.1.1,λr=>(.ptr 0 r.1 [] 0,[.box (.pr F8 (.pr .zs Yf)),FQ r.2.1,AA r.2.2])⟩]
theorem Ajc:Aq prog 84 c84:=Av (fn:=f84) ⟨⟨E50,pk trivial,λ_ R K=>by
 simp(disch:=refine id ?_;kernel_rfl) only[Uz,AOj,Vz,AH (Aza _ _) (K:=A2 E50 f84 0 R K)];kernel_rfl⟩,trivial⟩
abbrev E51:=eN [(88,c88)] {A8:=[(5,[3,5,6])],BW:=[(5,[5])]}
def AwY a (z_:Int×Int):=sT 29 [(3,Ar),(5,dI z_.1),(6,dI z_.2)] [.box (BQ a)]
def AuU(a:AOt):=λ(b:Int)=>xE 0 29 [(5,dI b)] []
def Oy(a:AOt)(c d:Int):APJ (AOY⊕Int):=
 bif decide (d<(a.1.length:Int))then
 if 0<=d/\d<a.1.length then
 some (.inl (wI (c+((a.1.getD d.toNat APw.zero).length:Int)),wI (d+1)))
 else none
 else
 some (.inr c)
def HJ a (z_:Int×Int):=Oy a z_.1 z_.2
def Vx a c d:=fix (HJ a) (c,d)
theorem Azb a:A4 E51 0 5 (code f59) 122 (AwY a) (HJ a) (AuU a):=by
 intro _;simp only[HJ,Oy,AOi];kernel_rfl
def J6(e:AOE)(a:AOt):APJ Int:=
 (Jt e a).bind λg=>bif !g then
 some (-1)
 else
 (Vx a (e.length:Int) 0).bind λb=>some b
def c59:=Cx [.d APx,.d Am] [⟨[.AB [] APx,.AB [] Am],[],Int,λp=>J6 p.1.1 p.1.2.1,λr=>(dI r,[])⟩]
theorem yx:Aq prog 59 c59:=Av (fn:=f59) ⟨⟨E51,pk ⟨fE,trivial⟩,λ_ R K=>by
 simp(disch:=refine id ?_;kernel_rfl) only[J6,AOj,Vx,AH (Azb _) (K:=A2 E51 f59 0 R K)];kernel_rfl⟩,trivial⟩
abbrev E52:=eN [(83,c83)] {Af4:=[(53,2)],A8:=[(3,{Bb:=[0,3,5,6],Cg:=[(5,false,.row [] 78 APw true)]}),(7,[0,3,5,6,7,8]),(13,{Bb:=[5,9,10],RF:=[(9,false,APA)]})],BW:=[(3,[0,3,5]),(7,[0,3,5,6,7]),(13,[5])]}
def Aw1 a (z_:Int×AON):=sT 62 [(5,.AG 0),(9,FX a),(10,dI z_.1)] [Dh z_.2]
def AuX(a:AOD):=λ(b:AON)=>xE 4 62 [(5,.AG 0)] [Dh b]
def LJ(a:AOD)(c:Int)(d:AON):APJ ((Int×AON)⊕AON):=
 bif decide (c<(a.length:Int))then
 if 0<=c/\c<a.length then
 if(0:Int)<=(a.getD c.toNat Ab.zero).1/\(a.getD c.toNat Ab.zero).1<(d.length:Int)then
 if 0<=c/\c<a.length then
 if(0:Int)<=(a.getD c.toNat Ab.zero).2.1/\(a.getD c.toNat Ab.zero).2.1<(d.getD (a.getD c.toNat Ab.zero).1.toNat APw.zero).length then
 some (.inl (wI (c+1),d.set (a.getD c.toNat Ab.zero).1.toNat ((d.getD (a.getD c.toNat Ab.zero).1.toNat APw.zero).set (a.getD c.toNat Ab.zero).2.1.toNat c)))
 else none
 else none
 else none
 else none
 else
 some (.inr d)
def FO a (z_:Int×AON):=LJ a z_.1 z_.2
def OP a c d:=fix (FO a) (c,d)
theorem Aze a:A4 E52 0 13 (code f93) 250 (Aw1 a) (FO a) (AuX a):=by
 intro _;simp only[FO,LJ,AOi];kernel_rfl
def Aw0 e g (z_:Int×AON):=sT 62 (z6 e z_.1) [.box (BQ g),Dh z_.2]
def AuW e g:=λ(i:AON)=>xE 0 62 [(0,Au e),(3,Ar),(5,.AG 1)] [.box (BQ g),Dh i]
def AwZ e j g k (z_:Int×AOz):=sT 62 [(0,Au e),(3,Ar),(5,.AG 1),(6,dI j),(7,.AG 2),(8,dI z_.1)] [.box (BQ g),Dh k,AA z_.2]
def AuV e j g k:=λ(l:AOz)=>xE 2 62 [(0,Au e),(3,Ar),(5,.AG 1),(6,dI j),(7,.AG 2)] [.box (BQ g),Dh k,AA l]
def LG(e:AOE)(j:Int)(g:AOt)(k:AON)(n:Int)(o:AOz):APJ (AOW⊕AOz):=
 bif decide (n<(o.length:Int))then
 if 0<=n/\n<o.length then
 some (.inl (wI (n+1),o.set n.toNat (-1)))
 else none
 else
 some (.inr o)
def FL e j g k (z_:Int×AOz):=LG e j g k z_.1 z_.2
def OM e j g k n o:=fix (FL e j g k) (n,o)
theorem Azc e j g k:A4 E52 0 7 (cd f93 116) 202 (AwZ e j g k) (FL e j g k) (AuV e j g k):=by
 intro _;simp only[FL,LG,AOi];kernel_rfl
def LH(e:AOE)(g:AOt)(j:Int)(k:AON):APJ ((Int×AON)⊕AON):=
 bif decide (j<(e.length:Int))then
 if 0<=j/\j<e.length then
 if Ty.row APr=true/\(0:Int)<=(e.getD j.toNat Ad.zero).2.1/\(e.getD j.toNat Ad.zero).2.1<=(e.getD j.toNat Ad.zero).2.1/\((8:Nat):Int)*(e.getD j.toNat Ad.zero).2.1<=(281474976710656:Int)/\(e.getD j.toNat Ad.zero).2.1<=(9223372036854775807:Int)then
 (OM e j g k 0 (List.replicate (e.getD j.toNat Ad.zero).2.1.toNat 0)).bind λl=>if(k.length+([l]:AON).length)*24<=140737488355328 then
 some (.inl (wI (j+1),k++([l]:AON)))
 else none
 else none
 else none
 else
 some (.inr k)
def FN e g (z_:Int×AON):=LH e g z_.1 z_.2
def OO e g j k:=fix (FN e g) (j,k)
theorem Azd e g:A4 E52 0 3 (code f93) 58 (Aw0 e g) (FN e g) (AuW e g):=by
 intro _;simp(disch:=refine id ?_;kernel_rfl) only[FN,LH,AOi,OM,AH (Azc _ _ _ _) (K:=KJ E52 0 3)];kernel_rfl
def QG(e:AOE)(g:AOt):APJ AON:=
 (OO e g 0 ([]:AON)).bind λi=>(Ip e g).bind λa=>(OP a 0 i).bind λb=>some b
def c93:=Cx [.d APx,.d Am] [⟨[.AB [] APx,.AB [] Am],[],AON,λp=>QG p.1.1 p.1.2.1,λr=>(.AG 0,[Dh r])⟩]
theorem Ajh:Aq prog 93 c93:=Av (fn:=f93) ⟨⟨E52,pk ⟨oq,trivial⟩,λ_ R K=>by
 simp(disch:=refine id ?_;kernel_rfl) only[QG,AOj,OO,AH (Azd _ _) (K:=A2 E52 f93 0 R K),OP,AH (Aze _) (K:=A2 E52 f93 0 R K)];kernel_rfl⟩,trivial⟩
abbrev E53:=eN [(125,Arw)] {A8:=[(4,{Bb:=[4,5,10,12,13],Cg:=[(12,false,.row [] 5 APt true)]}),(15,[4,5,10,16,17])],BW:=[(4,{Bb:=[10,11,12],RF:=[(12,false,.sl APt)]}),(15,[10,11,16])],BS:=[(13,[3,4,5,10,16,86])],DD:=[(13,[2,3,4,5,10,16])],jw:=[(0,.row [1,1] 88 APs true)]}
def Aw4 a b c (z_:Int):=sT 103 [(4,dI a),(5,Ar),(10,A6),(16,dI c),(17,dI z_)] [.box (gb b),.box Zr]
def Au0(a:Int)(b:AOx) c:=Sum.elim (λ(d:Unit)=>xR 103 [(10,Ar),(11,dB false),(16,dI c)] [.box Zr]) (λ(e:Unit)=>xE 2 103 [(10,Ar),(16,dI c)] [.box Zr])
def M5(a:Int)(b:AOx)(c g:Int):APJ (Int⊕(Unit⊕Unit)):=
 bif decide (g<a)then
 if 0<=g/\g<b.2.1.length then
 bif b.2.1.getD g.toNat (Ty.zero .bool)then
 some (.inr (.inl ()))
 else
 some (.inl (wI (g+1)))
 else none
 else
 some (.inr (.inr ()))
def GJ a b c (z_:Int):=M5 a b c z_
def QF a b c g:=fix (GJ a b c) g
theorem Azh a b c:A4 E53 0 15 (code f95) 250 (Aw4 a b c) (GJ a b c) (Au0 a b c):=by
 intro _;simp only[GJ,M5,AOi];kernel_rfl
def Aw3 i j a b k:=sT 103 [(2,FX i),(3,dI j),(4,dI a),(5,Ar),(10,A6),(16,dI k)] [.box (gb b),.box Zr]
def AuZ(i:AOD) j a b k:=λ(l:Bool)=>xN 103 [(3,dI j),(4,dI a),(5,Ar),(10,A6),(16,dI k),(86,dB l)] [.box (gb b),.box Zr]
def Ml(i:AOD)(j a:Int)(b:AOx)(k:Int):APJ Bool:=
 bif decide (k<0)then
 some true
 else
 if 0<=k/\k<i.length then
 some ((i.getD k.toNat Ab.zero).2.2.1 !=(wI (a-j)))
 else none
theorem Azg i j a b k:AY E53 0 13 (code f95) 60 (Aw3 i j a b k) (Ml i j a b k) (AuZ i j a b k):=by
 unfold AY;simp only[Ml,AOi];kernel_rfl
def Aw2 a b (z_:Int×AOz):=sT 103 [(4,dI a),(5,Ar),(10,A6),(12,.AG 2),(13,dI z_.1)] [.box (gb b),.box Zr,cm z_.2]
def AuY(a:Int)(b:AOx):=Sum.elim (λ(n:AOz)=>xR 103 [(10,Ar),(11,dB false),(12,YU n)] [.box Zr]) (λ(o:AOz)=>xE 0 103 [(10,Ar),(12,YU o)] [.box Zr])
def M4(a:Int)(b:AOx)(q:Int)(s:AOz):APJ (AOW⊕(AOz⊕AOz)):=
 bif decide (q<a)then
 if 0<=q/\q<b.1.length then
 bif decide ((b.1.getD q.toNat Aa.zero).1>=0)then
 some (.inr (.inl s))
 else
 if 0<=q/\q<b.1.length then
 if(s.length+([IntKind.u8.wrap (b.1.getD q.toNat Aa.zero).2.1]:AOz).length)*1<=140737488355328 then
 some (.inl (wI (q+1),s++([IntKind.u8.wrap (b.1.getD q.toNat Aa.zero).2.1]:AOz)))
 else none
 else none
 else none
 else
 some (.inr (.inr s))
def GI a b (z_:Int×AOz):=M4 a b z_.1 z_.2
def QE a b q s:=fix (GI a b) (q,s)
theorem Azf a b:A4 E53 0 4 (code f95) 426 (Aw2 a b) (GI a b) (AuY a b):=by
 intro _;simp only[GI,M4,AOi];kernel_rfl
def Pr(b:AOx)(t:AON)(i:AOD)(j a:Int):APJ AO4:=
 if 0<=j/\j<b.1.length then
 bif decide ((b.1.getD j.toNat Aa.zero).1<0)then
 (QE a b j ([]:AOz)).bind (Sum.elim (λn=>some (0,0,false,([]:AOz))) (λo=>(Po o).bind λu=>some (-1,u.1,true,u.2.2)))
 else
 if 0<=j/\j<b.1.length then
 if(0:Int)<=(b.1.getD j.toNat Aa.zero).1/\(b.1.getD j.toNat Aa.zero).1<(t.length:Int)then
 if 0<=j/\j<b.1.length then
 if(0:Int)<=(b.1.getD j.toNat Aa.zero).2.1/\(b.1.getD j.toNat Aa.zero).2.1<((t.getD (b.1.getD j.toNat Aa.zero).1.toNat APw.zero).length:Int)then
 (Ml i j a b ((t.getD (b.1.getD j.toNat Aa.zero).1.toNat APw.zero).getD (b.1.getD j.toNat Aa.zero).2.1.toNat APr.zero)).bind λl=>bif l then
 some (0,0,false,([]:AOz))
 else
 (QF a b ((t.getD (b.1.getD j.toNat Aa.zero).1.toNat APw.zero).getD (b.1.getD j.toNat Aa.zero).2.1.toNat APr.zero) (wI (j+1))).bind (Sum.elim (λd=>some (0,0,false,([]:AOz))) (λe=>some ((t.getD (b.1.getD j.toNat Aa.zero).1.toNat APw.zero).getD (b.1.getD j.toNat Aa.zero).2.1.toNat APr.zero,0,true,([]:AOz))))
 else none
 else none
 else none
 else none
 else none
def c95:=Cx [.d As,.d APG,.d APA,.d APr,.d APr] [⟨[.AB [] As,.AB [] APG,.AB [] APA,.AB [] APr,.AB [] APr],[],AO4,λp=>Pr p.1.1 p.1.2.1 p.1.2.2.1 p.1.2.2.2.1 p.1.2.2.2.2.1,λr=>(.cons (.pr (dI r.1) (.pr (.pr (dI r.2.1) Q5) .u)) (.cons (dB r.2.2.1) .nil),[Da r.2.2.2])⟩]
theorem Aji:Aq prog 95 c95:=Av (fn:=f95) ⟨⟨E53,pk ⟨rF,trivial⟩,λ_ R K=>by
 simp(disch:=refine id ?_;kernel_rfl) only[Pr,AOj,QE,AH (Azf _ _) (K:=A2 E53 f95 0 R K),Bc (Azg ..) (K:=A2 E53 f95 0 R K),QF,AH (Azh _ _ _) (K:=A2 E53 f95 0 R K)];kernel_rfl⟩,trivial⟩
abbrev E54:=eN [(54,c54),(58,c58),(59,c59),(82,c82),(83,c83),(88,c88),(89,c89),(92,c92),(93,c93),(94,c94),(95,c95)] {Aw:=false,A8:=[(17,{Bb:=[8,15,16,17,18,19,20,21,22],RF:=[(17,false,APF),(18,false,APG),(19,false,APA)],Cg:=[(20,false,.row [] 129 Ap false)]})],BW:=[(17,[6,7,20])],BS:=[(3,[0,4,5,8,38]),(6,[0,4,5,8,58]),(18,{Bb:=[6,7,8,15,16,17,18,19,20,21,22],Cg:=[(20,false,.row [] 129 Ap false)]}),(20,[8,15,16,17,18,19,20,21,22]),(23,[8,15,16,17,18,19,20,21,22,23,25,137])],DD:=[(3,[0,4,5,8]),(6,[0,4,5,8,9,10]),(18,[8,15,16,17,18,19,20,21,22]),(20,[8,15,16,17,18,19,20,21,22]),(23,[8,15,16,17,18,19,20,21,22,23,24,25,26])],cQ:=[(35,APz),(43,APz)],jw:=[(0,.row [] 129 Ap false)]}
def Apx a b c d e g i (z_:Int×Int×AOL):=sT 150 (nC a b c z_.1 z_.2.1) (jZ z_.2.2 d e g i)
def AnZ(a:AOO)(b:AON)(c:AOD)(d:AOC)(e:AOA)(g:AOC)(i:AOA):=Sum.elim (λ(j:AOL)=>xR 150 [(6,.zs),(7,dB false),(20,.AG 0)] [ck j]) (λ(k:AOL)=>xE 0 150 [(20,.AG 0)] [ck k])
def Aw8 a b c l n o d e g i:=sT 150 (nC a b c l n) (jZ o d e g i)
def Au4 a b c l n o d e g i:=Sum.elim (λ(q:(Int×AOL))=>xN 150 (nC a b c q.1 n) (jZ q.2 d e g i)) (λ(s:Unit)=>xR 150 [(6,.zs),(7,dB false),(8,.zs),(15,Ar),(16,A6),(17,WT a),(18,HB b),(19,FX c),(20,.AG 2),(21,dI l),(22,dI n)] (jZ o d e g i))
def AkP a b c l n (t:AO4) (u:AO4) o d e g i:=sT 150 [(8,.zs),(15,Ar),(16,A6),(17,WT a),(18,HB b),(19,FX c),(20,.AG 2),(21,dI l),(22,dI n),(23,WV),(24,dB t.2.2.1),(25,RD),(26,dB u.2.2.1)] (AlV o t.1 t.2.1 u.1 u.2.1 d e g i t.2.2.2 u.2.2.2)
def AcB(a:AOO)(b:AON)(c:AOD)(l n:Int)(t u:AO4)(o:AOL)(d:AOC)(e:AOA)(g:AOC)(i:AOA)(m0:Bool):Ex×St:=xN 150 [(8,.zs),(15,Ar),(16,A6),(17,WT a),(18,HB b),(19,FX c),(20,.AG 2),(21,dI l),(22,dI n),(23,WV),(25,RD),(137,dB m0)] (AlV o t.1 t.2.1 u.1 u.2.1 d e g i t.2.2.2 u.2.2.2)
theorem Azl a b c l n t u o d e g i:Xn E54 0 23 (sb (cd f60 524276) 6) (pt 92) (AkP a b c l n t u o d e g i)=some (AcB a b c l n t u o d e g i ((!t.2.2.1)||(!u.2.2.1))):=by
 refine .trans (b:=
 bif !t.2.2.1 then
 some (AcB a b c l n t u o d e g i true)
 else
 some (AcB a b c l n t u o d e g i (!u.2.2.1))) (by kernel_rfl) ?_
 cases (!t.2.2.1);rfl;rfl
def Aw7 a b c l n o d e g i:=sT 150 (nC a b c l n) (jZ o d e g i)
def Au3 a b c l n o d e g i:=Sum.elim (λ(v:Unit)=>xE 1 150 (nC a b c l n) (jZ o d e g i)) (λ(w:Unit)=>xN 150 (nC a b c l n) (jZ o d e g i))
def Ew(a:AOO)(b:AON)(c:AOD)(l n:Int)(o:AOL)(d:AOC)(e:AOA)(g:AOC)(i:AOA):APJ (Unit⊕Unit):=
 bif decide (n<(d.length:Int))then
 (Eg (d,e,()) a n).bind λx=>bif !x then
 (Eg (g,i,()) a n).bind λy=>bif !y then
 some (.inl ())
 else
 some (.inr ())
 else
 some (.inr ())
 else
 some (.inr ())
theorem Azk a b c l n o d e g i:AY E54 0 20 (sb (cd f60 524276) 6) 4 (Aw7 a b c l n o d e g i) (Ew a b c l n o d e g i) (Au3 a b c l n o d e g i):=by
 unfold AY;simp only[Ew,AOi];kernel_rfl
def Jd(a:AOO)(b:AON)(c:AOD)(l n:Int)(o:AOL)(d:AOC)(e:AOA)(g:AOC)(i:AOA):APJ ((Int×AOL)⊕Unit):=
 (Ew a b c l n o d e g i).bind (Sum.elim (λv=>some (.inl (l,o))) (λw=>(Pr (d,e,()) b c l n).bind λt=>(Pr (g,i,()) b c l n).bind λu=>PD (AkP a b c l n t u o d e g i) (
 bif (!t.2.2.1)||(!u.2.2.1)then
 some (.inr ())
 else
 if(o.length+([((t.1,(t.2.1,t.2.2.2,()),()),(u.1,(u.2.1,u.2.2.2,()),()),wI (n-l),())]:AOL).length)*88<=140737488355328 then
 some (.inl (n,o++([((t.1,(t.2.1,t.2.2.2,()),()),(u.1,(u.2.1,u.2.2.2,()),()),wI (n-l),())]:AOL)))
 else none)))
theorem Azm a b c l n o d e g i:AY E54 0 18 (cd f60 524276) 6 (Aw8 a b c l n o d e g i) (Jd a b c l n o d e g i) (Au4 a b c l n o d e g i):=by
 unfold AY;simp(disch:=refine id ?_;kernel_rfl) only[Jd,AOi,Bc (Azk ..) (K:=UH E54 0 18),Ft (Azl ..) (K:=UH E54 0 18)];kernel_rfl
def IP(a:AOO)(b:AON)(c:AOD)(d:AOC)(e:AOA)(g:AOC)(i:AOA)(l n:Int)(o:AOL):APJ ((Int×Int×AOL)⊕(AOL⊕AOL)):=
 bif decide (n<=(d.length:Int))then
 (Jd a b c l n o d e g i).bind (Sum.elim (λq=>some (.inl (q.1,wI (n+1),q.2))) (λs=>some (.inr (.inl o))))
 else
 some (.inr (.inr o))
def D7 a b c d e g i (z_:Int×Int×AOL):=IP a b c d e g i z_.1 z_.2.1 z_.2.2
def Lq a b c d e g i l n o:=fix (D7 a b c d e g i) (l,n,o)
theorem Arn a b c d e g i:A4 E54 0 17 (code f60) 262138 (Apx a b c d e g i) (D7 a b c d e g i) (AnZ a b c d e g i):=by
 intro _;simp(disch:=refine id ?_;kernel_rfl) only[D7,IP,AOi,Bc (Azm ..) (K:=KJ E54 0 17)];kernel_rfl
def Aw6 a1 b1 c1 d1 e1:=sT 150 [(0,Au a1),(4,Ar),(5,A6),(8,.zs),(9,HC),(10,dB d1)] [.box (cf b1),.box (BQ c1),.box (BQ e1)]
def Au2 a1 b1 c1 (d1:Bool) (e1:AOt):=λ(g1:Bool)=>xN 150 [(0,Au a1),(4,Ar),(5,A6),(8,.zs),(58,dB g1)] (uT b1 c1)
def MP(a1:AOE)(b1:AOp)(c1:AOt)(d1:Bool)(e1:AOt):APJ Bool:=
 bif !d1 then
 some true
 else
 (J6 a1 e1).bind λi1=>(J6 a1 c1).bind λj1=>some (i1 !=j1)
theorem Azj a1 b1 c1 d1 e1:AY E54 0 6 (code f60) 124 (Aw6 a1 b1 c1 d1 e1) (MP a1 b1 c1 d1 e1) (Au2 a1 b1 c1 d1 e1):=by
 unfold AY;simp only[MP,AOi];kernel_rfl
def Aw5 a1 b1 c1:=sT 150 [(0,Au a1),(4,Ar),(5,A6),(8,.zs)] (uT b1 c1)
def Au1 a1 b1 c1:=λ(k1:Bool)=>xN 150 [(0,Au a1),(4,Ar),(5,A6),(8,.zs),(38,dB k1)] (uT b1 c1)
def MO(a1:AOE)(b1:AOp)(c1:AOt):APJ Bool:=
 (Jt a1 c1).bind λl1=>bif !l1 then
 some true
 else
 (Ee a1 ([b1]:AOG)).bind λn1=>some (!n1)
theorem Azi a1 b1 c1:AY E54 0 3 (code f60) 28 (Aw5 a1 b1 c1) (MO a1 b1 c1) (Au1 a1 b1 c1):=by
 unfold AY;simp only[MO,AOi];kernel_rfl
def KM(a1:AOE)(b1:AOp)(c1:AOt):APJ (Bool×AOL):=
 (MO a1 b1 c1).bind λk1=>bif k1 then
 some (false,([]:AOL))
 else
 (Cj a1 ([b1]:AOG) c1).bind λo1=>(MP a1 b1 c1 o1.2 o1.1).bind λg1=>bif g1 then
 some (false,([]:AOL))
 else
 (Di a1 b1.2.2.1).bind λq1=>(Di a1 b1.2.2.2.1).bind λs1=>(Ju q1.2).bind λt1=>(Ju s1.2).bind λu1=>(M8 a1 c1).bind λa=>(QG a1 c1).bind λb=>(Ip a1 c1).bind λc=>(Lq a b c t1.1 t1.2 u1.1 u1.2 0 1 ([]:AOL)).bind (Sum.elim (λj=>some (false,([]:AOL))) (λk=>some (true,k)))
def c60:=Cx [.d APx,.d Af,.d Am] [⟨[.AB [] APx,.AB [] Af,.AB [] Am],[],Bool×AOL,λp=>KM p.1.1 p.1.2.1 p.1.2.2.1,λr=>(.cons QO (.cons (dB r.1) .nil),[ck r.2])⟩]
theorem yy:Aq prog 60 c60:=Av (fn:=f60) ⟨⟨E54,pk ⟨fD,om,yx,yE,oq,fE,yG,yH,Ajh,ou,Aji,trivial⟩,λ_ R K=>by
 simp(disch:=refine id ?_;kernel_rfl) only[KM,AOj,Bc (Azi ..) (K:=A2 E54 f60 0 R K),Bc (Azj ..) (K:=A2 E54 f60 0 R K),Lq,AH (Arn _ _ _ _ _ _ _) (K:=A2 E54 f60 0 R K)];kernel_rfl⟩,trivial⟩
abbrev E55:=eN [] {A8:=[(4,[2,3,5])],BW:=[(4,[4])],BS:=[(2,[2,3,19])],DD:=[(2,[2,3])]}
def Aw9 a b (z_:Int):=sT 38 [(2,Ar),(3,A6),(5,dI z_)] [.box (Gr a),.box (Gr b)]
def Au5(a b:AOr):=Sum.elim (λ(c:Unit)=>xR 38 fz []) (λ(d:Unit)=>xE 0 38 [] [])
def Ie(a b:AOr)(e:Int):APJ (Int⊕(Unit⊕Unit)):=
 bif decide (e<(a.2.1.length:Int))then
 if 0<=e/\e<a.2.1.length then
 if 0<=e/\e<b.2.1.length then
 bif (a.2.1.getD e.toNat APs.zero) !=(b.2.1.getD e.toNat APs.zero)then
 some (.inr (.inl ()))
 else
 some (.inl (wI (e+1)))
 else none
 else none
 else
 some (.inr (.inr ()))
def Dw a b (z_:Int):=Ie a b z_
def Uq a b e:=fix (Dw a b) e
theorem Azo a b:A4 E55 0 4 (code f62) 58 (Aw9 a b) (Dw a b) (Au5 a b):=by
 intro _;simp only[Dw,Ie,AOi];kernel_rfl
def AkQ a b:=sT 38 [(2,Ar),(3,A6)] [.box (Gr a),.box (Gr b)]
def AcC(a b:AOr)(m0:Bool):Ex×St:=xN 38 [(2,Ar),(3,A6),(19,dB m0)] [.box (Gr a),.box (Gr b)]
theorem Azn a b:Xn E55 0 2 (code f62) (pt 12) (AkQ a b)=some (AcC a b ((a.1 !=b.1)||((a.2.1.length:Int) !=(b.2.1.length:Int)))):=by
 refine .trans (b:=
 bif a.1 !=b.1 then
 some (AcC a b true)
 else
 some (AcC a b ((a.2.1.length:Int) !=(b.2.1.length:Int)))) (by kernel_rfl) ?_
 cases (a.1 !=b.1);rfl;rfl
def Ef(a b:AOr):APJ Bool:=
 PD (AkQ a b) (
 bif (a.1 !=b.1)||((a.2.1.length:Int) !=(b.2.1.length:Int))then
 some false
 else
 (Uq a b 0).bind (Sum.elim (λc=>some false) (λd=>some true)))
def c62:=Cx [.d Ah,.d Ah] [⟨[.AB [] Ah,.AB [] Ah],[],Bool,λp=>Ef p.1.1 p.1.2.1,λr=>(dB r,[])⟩]
theorem yz:Aq prog 62 c62:=Av (fn:=f62) ⟨⟨E55,pk trivial,λ_ R K=>by
 simp(disch:=refine id ?_;kernel_rfl) only[Ef,AOj,Ft (Azn ..) (K:=A2 E55 f62 0 R K),Uq,AH (Azo _ _) (K:=A2 E55 f62 0 R K)];kernel_rfl⟩,trivial⟩
abbrev ye:Type:=AOD->Int->Int->AOA->Option (Bool×AOA×AOz)
def AdN(rc:ye):Va.Callee:=Cx [.d APA,.WH,.d APr,.d APr] [⟨[.AB [] APA,.k QO,.AB [] APr,.AB [] APr],[.row 4 .Aw .bool],Bool×AOA×AOz,λp=>rc p.1.1 p.1.2.2.1 p.1.2.2.2.1 p.2.1,λr=>(.cons F8 (.cons (dB r.1) .nil),[HD r.2.1,AA r.2.2])⟩]
abbrev E56(rc:ye):=eN [(120,AdN rc)] {A8:=[(4,[0,1,2,3,10])],BW:=[(4,[8,9])],BS:=[(5,[0,1,2,3,8,9,10]),(7,[0,1,2,3,10])],DD:=[(5,[0,1,2,3,10]),(7,[0,1,2,3,10])],jw:=[(0,.row [] 2 APr true)]}
def Axc a b c (z_:Int×AOA):=sT 80 (nD a b c z_.1) [HD z_.2]
def Au8(a:AOD)(b c:Int):=Sum.elim (λ(d:AO1)=>xR 80 [(8,.AG 1),(9,dB true)] [HD d.1,AA d.2]) (λ(e:AOA)=>xE 0 80 [] [HD e])
def Axb a b c g i:=sT 80 (nD a b c g) [HD i]
def Au7 a b c g (i:AOA):=Sum.elim (λ(j:AOA)=>xN 80 (nD a b c g) [HD j]) (λ(k:AO1)=>xR 80 [(0,FX a),(1,.AG 0),(2,dI b),(3,dI c),(8,.AG 1),(9,dB true),(10,dI g)] [HD k.1,AA k.2])
def Axa a b c g i:=sT 80 (nD a b c g) [HD i]
def Au6 a b c g i:=Sum.elim (λ(l:Unit)=>xE 1 80 (nD a b c g) [HD i]) (λ(n:Unit)=>xN 80 (nD a b c g) [HD i])
def RV(rc:ye)(a:AOD)(b c g:Int)(i:AOA):APJ (Unit⊕Unit):=
 if 0<=g/\g<i.length then
 bif i.getD g.toNat (Ty.zero .bool)then
 some (.inl ())
 else
 if 0<=g/\g<a.length then
 bif (a.getD g.toNat Ab.zero).1 !=b then
 if 0<=g/\g<a.length then
 bif (a.getD g.toNat Ab.zero).2.1 !=b then
 some (.inl ())
 else
 some (.inr ())
 else none
 else
 some (.inr ())
 else none
 else none
theorem Azp(rc:ye) a b c g i:AY (E56 rc) 1 7 (sb (cd f120 116) 6) 4 (Axa a b c g i) (RV rc a b c g i) (Au6 a b c g i):=by
 unfold AY;simp only[RV,AOi];kernel_rfl
def RX(rc:ye)(a:AOD)(b c g:Int)(i:AOA):APJ (AOA⊕AO1):=
 (RV rc a b c g i).bind (Sum.elim (λl=>some (.inl i)) (λn=>if 0<=g/\g<i.length then
 if 0<=g/\g<a.length then
 if 0<=g/\g<a.length then
 (rc a (wI ((wI ((a.getD g.toNat Ab.zero).1+(a.getD g.toNat Ab.zero).2.1))-b)) c (i.set g.toNat true)).bind λo=>bif o.1 then
 if 0<=g/\g<a.length then
 if(([(a.getD g.toNat Ab.zero).2.2.1]:AOz).length+o.2.2.length)*8<=140737488355328 then
 some (.inr (o.2.1,([(a.getD g.toNat Ab.zero).2.2.1]:AOz)++o.2.2))
 else none
 else none
 else
 some (.inl o.2.1)
 else none
 else none
 else none))
theorem Azq(rc:ye) a b c g i:AY (E56 rc) 1 5 (cd f120 116) 6 (Axb a b c g i) (RX rc a b c g i) (Au7 a b c g i):=by
 unfold AY;simp(disch:=refine id ?_;kernel_rfl) only[RX,AOi,Bc (Azp ..) (K:=UH (E56 rc) 1 5)];kernel_rfl
def Ti(rc:ye)(a:AOD)(b c g:Int)(i:AOA):APJ ((Int×AOA)⊕(AO1⊕AOA)):=
 bif decide (g<(a.length:Int))then
 (RX rc a b c g i).bind (Sum.elim (λj=>some (.inl (wI (g+1),j))) (λk=>some (.inr (.inl (k.1,k.2)))))
 else
 some (.inr (.inr i))
def OR(rc:ye) a b c (z_:Int×AOA):=Ti rc a b c z_.1 z_.2
def Vy(rc:ye) a b c g i:=fix (OR rc a b c) (g,i)
theorem Azr(rc:ye) a b c:A4 (E56 rc) 1 4 (code f120) 58 (Axc a b c) (OR rc a b c) (Au8 a b c):=by
 intro _;simp(disch:=refine id ?_;kernel_rfl) only[OR,Ti,AOi,Bc (Azq ..) (K:=KJ (E56 rc) 1 4)];kernel_rfl
def QI(rc:ye)(a:AOD)(b c:Int)(q:AOA):APJ (Bool×AOA×AOz):=
 bif b==c then
 some (true,q,([]:AOz))
 else
 (Vy rc a b c 0 q).bind (Sum.elim (λd=>some (true,d.1,d.2)) (λe=>some (false,e,([]:AOz))))
theorem U56 R (rc:ye) a b c q K:Sr (E56 rc) f120 R [FX a,.AG 0,dI b,dI c] [HD q] K=(QI rc a b c q).bind λr=>K (.cons F8 (.cons (dB r.1) .nil)) [HD r.2.1,AA r.2.2]:=by
 simp(disch:=refine id ?_;kernel_rfl) only[QI,AOj,Vy,AH (Azr _ _ _ _) (K:=A2 (E56 rc) f120 1 R K)];kernel_rfl
def Ig:Nat->ye
 |0=>λ_ _ _ _=>none
 |n+1=>QI (Ig n)
def ZZ:ye:=Ig 1000000
def AAU:Va.Callee:=AdN ZZ
theorem rE:∀n,Aq prog 120 (AdN (Ig n))
 |0=>Ait ⟨λ_=>rfl,trivial⟩
 |n+1=>Av (fn:=f120) ⟨⟨E56 (Ig n),pk ⟨rE n,trivial⟩,λp R K=>U56 R (Ig n) p.1.1 p.1.2.2.1 p.1.2.2.2.1 p.2.1 K⟩,trivial⟩
theorem AdM:Aq prog 120 AAU:=rE _
abbrev E57:=eN [] {A8:=[(2,[0,1,5])],BW:=[(2,[4])]}
def Axd a b (z_:Int):=sT 18 [(0,DW a),(1,dI b),(5,dI z_)] []
def Au9(a:AOz)(b:Int):=Sum.elim (λ(c:Unit)=>xR 18 [(4,dB true)] []) (λ(d:Unit)=>xE 0 18 [] [])
def OB(a:AOz)(b e:Int):APJ (Int⊕(Unit⊕Unit)):=
 bif decide (e<(a.length:Int))then
 if 0<=e/\e<a.length then
 bif (a.getD e.toNat APr.zero)==b then
 some (.inr (.inl ()))
 else
 some (.inl (wI (e+1)))
 else none
 else
 some (.inr (.inr ()))
def Kw a b (z_:Int):=OB a b z_
def Oa a b e:=fix (Kw a b) e
theorem Azs a b:A4 E57 0 2 (code f126) 26 (Axd a b) (Kw a b) (Au9 a b):=by
 intro _;simp only[Kw,OB,AOi];kernel_rfl
def Mj(a:AOz)(b:Int):APJ Bool:=
 (Oa a b 0).bind (Sum.elim (λc=>some true) (λd=>some false))
def Arx:=Cx [.d APw,.d APr] [⟨[.AB [] APw,.AB [] APr],[],Bool,λp=>Mj p.1.1 p.1.2.1,λr=>(dB r,[])⟩]
theorem rG:Aq prog 126 Arx:=Av (fn:=f126) ⟨⟨E57,pk trivial,λ_ R K=>by
 simp(disch:=refine id ?_;kernel_rfl) only[Mj,AOj,Oa,AH (Azs _ _) (K:=A2 E57 f126 0 R K)];kernel_rfl⟩,trivial⟩
abbrev E58:=eN [(126,Arx)] {A8:=[(3,{Bb:=[0,3,4],Cg:=[(3,false,.row [] 2 APr true)]}),(8,[0,3,4,5])],BW:=[(3,[3]),(8,[0,3,4,5])],BS:=[(4,{Bb:=[0,3,4],Cg:=[(3,false,.row [] 2 APr true)]}),(9,[0,3,4,5])],DD:=[(4,[0,3,4]),(9,[0,3,4,5])]}
def Axh a (z_:Int×AOz):=sT 60 (AkC a z_.1) [AA z_.2]
def Avd(a:AOz):=λ(b:AOz)=>xE 0 60 jY [AA b]
def Axg a c d:=sT 60 (AkC a c) [AA d]
def Avc a c (d:AOz):=λ(e:AOz)=>xN 60 (AkC a c) [AA e]
def Axf a c (z_:Int×AOz):=sT 60 (uU a c z_.1) [AA z_.2]
def Avb a c:=λ(g:AOW)=>xE 2 60 (uU a c g.1) [AA g.2]
def Axe a c i j:=sT 60 (uU a c i) [AA j]
def Ava a c i j:=Sum.elim (λ(k:Unit)=>xN 60 (uU a c i) [AA j]) (λ(l:Unit)=>xE 2 60 (uU a c i) [AA j])
def Ng(a:AOz)(c i:Int)(j:AOz):APJ (Unit⊕Unit):=
 bif decide (i>0)then
 if 0<=(wI (i-1))/\(wI (i-1))<j.length then
 if 0<=c/\c<a.length then
 bif decide ((j.getD (wI (i-1)).toNat APr.zero)>(a.getD c.toNat APr.zero))then
 some (.inl ())
 else
 some (.inr ())
 else none
 else none
 else
 some (.inr ())
theorem Azt a c i j:AY E58 0 9 (sb (sb (cd f121 116) 6) 184) 2 (Axe a c i j) (Ng a c i j) (Ava a c i j):=by
 unfold AY;simp only[Ng,AOi];kernel_rfl
def O5(a:AOz)(c i:Int)(j:AOz):APJ (AOW⊕AOW):=
 (Ng a c i j).bind (Sum.elim (λk=>if 0<=(wI (i-1))/\(wI (i-1))<j.length then
 if 0<=i/\i<j.length then
 some (.inl (wI (i-1),j.set i.toNat (j.getD (wI (i-1)).toNat APr.zero)))
 else none
 else none) (λl=>some (.inr (i,j))))
def Kh a c (z_:Int×AOz):=O5 a c z_.1 z_.2
def Wg a c i j:=fix (Kh a c) (i,j)
theorem Azu a c:A4 E58 0 8 (sb (cd f121 116) 6) 92 (Axf a c) (Kh a c) (Avb a c):=by
 intro _;simp(disch:=refine id ?_;kernel_rfl) only[Kh,O5,AOi,Bc (Azt ..) (K:=KJ E58 0 8)];kernel_rfl
def Nh(a:AOz)(c:Int)(d:AOz):APJ AOz:=
 if 0<=c/\c<a.length then
 (Mj d (a.getD c.toNat APr.zero)).bind λn=>bif n then
 some d
 else
 if 0<=c/\c<a.length then
 if(d.length+([a.getD c.toNat APr.zero]:AOz).length)*8<=140737488355328 then
 (Wg a c (d.length:Int) (d++([a.getD c.toNat APr.zero]:AOz))).bind λg=>if 0<=c/\c<a.length then
 if(0:Int)<=g.1/\g.1<(g.2.length:Int)then
 some (g.2.set g.1.toNat (a.getD c.toNat APr.zero))
 else none
 else none
 else none
 else none
 else none
theorem Azv a c d:AY E58 0 4 (cd f121 116) 6 (Axg a c d) (Nh a c d) (Avc a c d):=by
 unfold AY;simp(disch:=refine id ?_;kernel_rfl) only[Nh,AOi,Wg,AH (Azu _ _) (K:=UH E58 0 4)];kernel_rfl
def O6(a:AOz)(c:Int)(d:AOz):APJ (AOW⊕AOz):=
 bif decide (c<(a.length:Int))then
 (Nh a c d).bind λe=>some (.inl (wI (c+1),e))
 else
 some (.inr d)
def Ki a (z_:Int×AOz):=O6 a z_.1 z_.2
def Wh a c d:=fix (Ki a) (c,d)
theorem Azw a:A4 E58 0 3 (code f121) 58 (Axh a) (Ki a) (Avd a):=by
 intro _;simp(disch:=refine id ?_;kernel_rfl) only[Ki,O6,AOi,Bc (Azv ..) (K:=KJ E58 0 3)];kernel_rfl
def RU(a:AOz):APJ AOz:=
 (Wh a 0 ([]:AOz)).bind λb=>some b
def AAV:=Cx [.d APw] [⟨[.AB [] APw],[],AOz,λp=>RU p.1.1,λr=>(.AG 0,[AA r])⟩]
theorem AdO:Aq prog 121 AAV:=Av (fn:=f121) ⟨⟨E58,pk ⟨rG,trivial⟩,λ_ R K=>by
 simp(disch:=refine id ?_;kernel_rfl) only[RU,AOj,Wh,AH (Azw _) (K:=A2 E58 f121 0 R K)];kernel_rfl⟩,trivial⟩
abbrev E59:=eN [] {A8:=[(3,[0,6,7,8])],BW:=[(3,{Bb:=[]})],BS:=[(4,[0,6,7,8])],DD:=[(4,[0,6,7,8])]}
def Axj a b (z_:Int×AOz):=sT 43 (Ahw a b z_.1) [AA z_.2]
def Avf(a b:Int):=λ(c:AOz)=>xE 0 43 [] [AA c]
def Axi a b d e:=sT 43 (Ahw a b d) [AA e]
def Ave a b d (e:AOz):=λ(g:AOz)=>xN 43 (Ahw a b d) [AA g]
def OQ(a b d:Int)(e:AOz):APJ AOz:=
 if 0<=d/\d<e.length then
 bif (e.getD d.toNat APr.zero)==b then
 if 0<=d/\d<e.length then
 some (e.set d.toNat a)
 else none
 else
 some e
 else none
theorem Azx a b d e:AY E59 1 4 (cd f122 60) 6 (Axi a b d e) (OQ a b d e) (Ave a b d e):=by
 unfold AY;simp only[OQ,AOi];kernel_rfl
def LL(a b d:Int)(e:AOz):APJ (AOW⊕AOz):=
 bif decide (d<(e.length:Int))then
 (OQ a b d e).bind λg=>some (.inl (wI (d+1),g))
 else
 some (.inr e)
def FP a b (z_:Int×AOz):=LL a b z_.1 z_.2
def Tg a b d e:=fix (FP a b) (d,e)
theorem Azy a b:A4 E59 1 3 (code f122) 30 (Axj a b) (FP a b) (Avf a b):=by
 intro _;simp(disch:=refine id ?_;kernel_rfl) only[FP,LL,AOi,Bc (Azx ..) (K:=KJ E59 1 3)];kernel_rfl
def Nf(i j:Int)(k:AOz):APJ AOz:=
 if 0<=i/\i<k.length then
 if 0<=j/\j<k.length then
 if 0<=i/\i<k.length then
 if 0<=j/\j<k.length then
 (Tg (if(k.getD j.toNat APr.zero)<(k.getD i.toNat APr.zero)then(k.getD j.toNat APr.zero)else(k.getD i.toNat APr.zero)) (if(k.getD j.toNat APr.zero)>(k.getD i.toNat APr.zero)then(k.getD j.toNat APr.zero)else(k.getD i.toNat APr.zero)) 0 k).bind λc=>some c
 else none
 else none
 else none
 else none
def AAW:=Cx [.WH,.d APr,.d APr] [⟨[.k QO,.AB [] APr,.AB [] APr],[.row 2 .Aw APr],AOz,λp=>Nf p.1.2.1 p.1.2.2.1 p.2.1,λr=>(.nil,[AA r])⟩]
theorem AdP:Aq prog 122 AAW:=Av (fn:=f122) ⟨⟨E59,pk trivial,λ_ R K=>by
 simp(disch:=refine id ?_;kernel_rfl) only[Nf,AOj,Tg,AH (Azy _ _) (K:=A2 E59 f122 1 R K)];kernel_rfl⟩,trivial⟩
abbrev E60:=eN [] {Aw:=false,aJ:=[(3,[0]),(4,[0])],dL:=[(3,[0,3]),(4,[0])],VC:=[.mv 0 [0],.A9 1,.mv 0 [2],.A9 3]}
def AkS(a:Int) b c d:=sT 41 [(0,.ptr 0 a [] 0)] [.box (.pr KB nF),.A9,C4 b,AA c,FQ d]
def AcE(a:Int) b (c:AOz) d:=λ(e:Unit)=>sT 41 [(0,.ptr 0 a [] 0)] [.box (.pr KB (.pr UC j8)),.A9,C4 b,.A9,FQ d,AA (c++([(c.length:Int)]:AOz))]
def Kl(a:Int)(b:AOD)(c:AOz)(d:AOI):APJ Unit:=
 if(c.length+([(c.length:Int)]:AOz).length)*8<=140737488355328 then
 some ()
 else none
noncomputable def Ak8(a:Int)(b:AOD)(c:AOz)(d:AOI):APJ Unit:=if(c.length+([(c.length:Int)]:AOz).length)*8<=140737488355328 then Jq (AcE a b c d ())else none
def yh(w:APJ Unit):APJ Unit:=cc (cc w (cc w (cc w (cc w w)))) (cc (cc w (cc w (cc w w))) (cc (cc w (cc w w)) (cc (cc w w) w)))
theorem AzA(a:Int)(b:AOD)(c:AOz)(d:AOI):SJ E60 4 4 (code f119) 30 (AkS a b c d) (Kl a b c d) (AcE a b c d):=by
 unfold SJ;have h:yK E60 4 4 (code f119) (pt 30) (AkS a b c d) =
 if(c.length+([(c.length:Int)]:AOz).length)*8<=140737488355328 then((yh (Ak8 a b c d)).bind λ_=>some (AcE a b c d ()))else none:=by kernel_rfl
 rw[h];unfold Kl;simp only[AOi,mS,mO];clear h;by_cases Hf:(c.length+([(c.length:Int)]:AOz).length)*8<=140737488355328
 ·rw[AMo Hf,AMo Hf];simp only[yh,cc,Ak8,AMm,AMo Hf,AMR,AL6,Jq,HF]
 ·simp only[AMR,AMp Hf]
def AkR(a:Int) g b c i:=sT 41 [(0,.ptr 0 a [] 0),(3,RD)] [.box AhV,FQ g,C4 b,AA c,.box (dD AX i)]
def AcD(a:Int)(g:AOI) b c (i:AOk):=λ(j:Unit)=>sT 41 [(0,.ptr 0 a [] 0)] [.box (.pr KB nF),.A9,C4 b,AA c,FQ (g++([i.2.1]:AOI))]
def Kk(a:Int)(g:AOI)(b:AOD)(c:AOz)(i:AOk):APJ Unit:=
 if(g.length+([i.2.1]:AOI).length)*32<=140737488355328 then
 some ()
 else none
noncomputable def gw(a:Int)(g:AOI)(b:AOD)(c:AOz)(i:AOk):APJ Unit:=if(g.length+([i.2.1]:AOI).length)*32<=140737488355328 then Jq (AcD a g b c i ())else none
theorem Azz(a:Int)(g:AOI)(b:AOD)(c:AOz)(i:AOk):SJ E60 4 3 (code f119) 14 (AkR a g b c i) (Kk a g b c i) (AcD a g b c i):=by
 unfold SJ;have h:yK E60 4 3 (code f119) (pt 14) (AkR a g b c i) =
 if(g.length+([i.2.1]:AOI).length)*32<=140737488355328 then((((gw a g b c i).bind λ_=>(gw a g b c i).bind λ_=>gw a g b c i).bind λ_=>((gw a g b c i).bind λ_=>gw a g b c i).bind λ_=>gw a g b c i).bind λ_=>some (AcD a g b c i ()))else none:=by kernel_rfl
 rw[h];unfold Kk;simp only[AOi,mS,mO];clear h;by_cases Hf:(g.length+([i.2.1]:AOI).length)*32<=140737488355328
 ·rw[AMo Hf,AMo Hf];simp only[gw,AMm,AMo Hf,AMR,AL6,Jq,HF]
 ·simp only[AMR,AMp Hf]
def HM(a:Int)(i:AOk)(g:AOI)(b:AOD)(c:AOz):APJ (Int×AOD×AOI×AOz):=
 bif decide (i.1>=0)then
 some (i.1,b,g,c)
 else
 (Kk a g b c i).bind λj=>(Kl a b c (g++([i.2.1]:AOI))).bind λe=>some (wI (((c++([(c.length:Int)]:AOz)).length:Int)-1),b,g++([i.2.1]:AOI),c++([(c.length:Int)]:AOz))
def AAT:=Cx [.WH,.d AX] [⟨[.ptr 0 [] 0,.AB [] AX],[.box (.pr (.k F8) (.pr (.k UC) (.pr (.k (.AG 3)) (.k .u)))),.row 123 (.sh []) Ah,.row 204 .Aw Ab,.row 2 .Aw APr],Int×AOD×AOI×AOz,λp=>HM p.1.1 p.1.2.1 p.2.2.1 p.2.2.2.1 p.2.2.2.2.1,λr=>(dI r.1,[.box (.pr KB (.pr UC j8)),.A9,C4 r.2.1,.A9,FQ r.2.2.1,AA r.2.2.2])⟩]
theorem AdL:Aq prog 119 AAT:=Av (fn:=f119) ⟨⟨E60,pk trivial,λ_ R K=>by
 simp(disch:=refine id ?_;kernel_rfl) only[HM,AOj,W2 (Azz ..) (K:=A2 E60 f119 4 R K),W2 (AzA ..) (K:=A2 E60 f119 4 R K)];kernel_rfl⟩,trivial⟩
abbrev E61:=eN [] {A8:=[(2,[0,1,5])],BW:=[(2,[4])],BS:=[(5,[0,1,5,40])],DD:=[(5,[0,1,5])]}
def Axl(a:Int) b c d e (z_:Int):=sT 42 [(0,.ptr 0 a [] 0),(1,dI b),(5,dI z_)] (uV c d e)
def Avh(a b:Int) c d e:=Sum.elim (λ(g:Int)=>xR 42 [(4,dI g)] (uV c d e)) (λ(i:Unit)=>xE 0 42 [] (uV c d e))
def Axk(a:Int) b j c d e:=sT 42 [(0,.ptr 0 a [] 0),(1,dI b),(5,dI j)] (uV c d e)
def Avg(a:Int) b j c d e:=λ(k:Bool)=>xN 42 [(0,.ptr 0 a [] 0),(1,dI b),(5,dI j),(40,dB k)] (uV c d e)
def IQ(a b j:Int)(c:AOI)(d:AOD)(e:AOz):APJ Bool:=
 if 0<=j/\j<e.length then
 if 0<=b/\b<e.length then
 bif (e.getD j.toNat APr.zero)==(e.getD b.toNat APr.zero)then
 if 0<=j/\j<c.length then
 some (decide ((c.getD j.toNat Ah.zero).1>0))
 else none
 else
 some false
 else none
 else none
theorem AzB a b j c d e:AY E61 4 5 (cd f86 52) 24 (Axk a b j c d e) (IQ a b j c d e) (Avg a b j c d e):=by
 unfold AY;simp only[IQ,AOi];kernel_rfl
def KY(a b:Int)(c:AOI)(d:AOD)(e:AOz)(j:Int):APJ (Int⊕(Int⊕Unit)):=
 bif decide (j<(e.length:Int))then
 (IQ a b j c d e).bind λk=>bif k then
 some (.inr (.inl j))
 else
 some (.inl (wI (j+1)))
 else
 some (.inr (.inr ()))
def Hs a b c d e (z_:Int):=KY a b c d e z_
def NF a b c d e j:=fix (Hs a b c d e) j
theorem AzC a b c d e:A4 E61 4 2 (code f86) 26 (Axl a b c d e) (Hs a b c d e) (Avh a b c d e):=by
 intro _;simp(disch:=refine id ?_;kernel_rfl) only[Hs,KY,AOi,Bc (AzB ..) (K:=KJ E61 4 2)];kernel_rfl
def EE(a b:Int)(c:AOI)(d:AOD)(e:AOz):APJ APb:=
 (NF a b c d e 0).bind (Sum.elim (λg=>some (g,c,d,e)) (λi=>some (-1,c,d,e)))
def c86:=Cx [.WH,.d APr] [⟨[.ptr 0 [] 0,.AB [] APr],[.box (.pr (.k F8) (.pr (.k UC) (.pr (.k (.AG 3)) (.k .u)))),.row 123 (.sh []) Ah,.row 204 .Aw Ab,.row 2 .Aw APr],APb,λp=>EE p.1.1 p.1.2.1 p.2.2.1 p.2.2.2.1 p.2.2.2.2.1,λr=>(dI r.1,[.box AhV,FQ r.2.1,C4 r.2.2.1,AA r.2.2.2])⟩]
theorem yF:Aq prog 86 c86:=Av (fn:=f86) ⟨⟨E61,pk trivial,λ_ R K=>by
 simp(disch:=refine id ?_;kernel_rfl) only[EE,AOj,NF,AH (AzC _ _ _ _ _) (K:=A2 E61 f86 4 R K)];kernel_rfl⟩,trivial⟩
abbrev E62:=eN [(62,c62),(86,c86),(119,AAT),(120,AAU),(121,AAV),(122,AAW)] {BS:=[(9,[0,8,9,10,11,80])],DD:=[(9,[0,8,9,10,11])],VC:=[.mv 0 [1],.A9 2],jw:=[(0,.row [] 2 APr true)]}
def Axm(a:Int) b c d e g i j:=sT 107 [(0,.ptr 0 a [] 0),(8,dI b),(9,dI c),(10,dI d),(11,dI e)] [.box vb,.A9,.A9,.A9,FQ g,C4 i,AA j]
def Avi(a:Int) b c d e g i j:=λ(k:Bool)=>xN 107 [(0,.ptr 0 a [] 0),(8,dI b),(9,dI c),(10,dI d),(11,dI e),(80,dB k)] [.box vb,.A9,.A9,.A9,FQ g,C4 i,AA j]
def Kj(a b c d e:Int)(g:AOI)(i:AOD)(j:AOz):APJ Bool:=
 bif decide (d>=0)then
 bif decide (e>=0)then
 if 0<=d/\d<g.length then
 if 0<=e/\e<g.length then
 (Ef (g.getD d.toNat Ah.zero) (g.getD e.toNat Ah.zero)).bind λl=>some (!l)
 else none
 else none
 else
 some false
 else
 some false
theorem AzD a b c d e g i j:AY E62 4 9 (code f85) 1020 (Axm a b c d e g i j) (Kj a b c d e g i j) (Avi a b c d e g i j):=by
 unfold AY;simp only[Kj,AOi];kernel_rfl
def KA(a:Int)(n:AOw)(o:Int)(q:AOI)(s:AOD)(t:AOz):APJ (Bool×AOz×AOI×AOD×AOz):=
 (HM a n.1 q s t).bind λu=>(HM a n.2.1 u.2.2.1 u.2.1 u.2.2.2).bind λv=>if(0:Int)<=u.1/\u.1<(v.2.2.2.length:Int)then
 if(0:Int)<=v.1/\v.1<(v.2.2.2.length:Int)then
 bif (v.2.2.2.getD u.1.toNat APr.zero)==(v.2.2.2.getD v.1.toNat APr.zero)then
 some (true,([]:AOz),v.2.2.1,v.2.1,v.2.2.2)
 else
 (EE a u.1 v.2.2.1 v.2.1 v.2.2.2).bind λw=>(EE a v.1 w.2.1 w.2.2.1 w.2.2.2).bind λx=>if(x.2.2.1.length+([(u.1,v.1,o,())]:AOD).length)*24<=140737488355328 then
 (Kj a u.1 v.1 w.1 x.1 x.2.1 (x.2.2.1++([(u.1,v.1,o,())]:AOD)) x.2.2.2).bind λk=>bif k then
 if Ty.row .bool=true/\(0:Int)<=((x.2.2.1++([(u.1,v.1,o,())]:AOD)).length:Int)/\((x.2.2.1++([(u.1,v.1,o,())]:AOD)).length:Int)<=((x.2.2.1++([(u.1,v.1,o,())]:AOD)).length:Int)/\((1:Nat):Int)*((x.2.2.1++([(u.1,v.1,o,())]:AOD)).length:Int)<=(281474976710656:Int)/\((x.2.2.1++([(u.1,v.1,o,())]:AOD)).length:Int)<=(9223372036854775807:Int)then
 (ZZ (x.2.2.1++([(u.1,v.1,o,())]:AOD)) w.1 x.1 (List.replicate ((x.2.2.1++([(u.1,v.1,o,())]:AOD)).length:Int).toNat false)).bind λy=>(RU y.2.2).bind λa1=>some (false,a1,x.2.1,x.2.2.1++([(u.1,v.1,o,())]:AOD),x.2.2.2)
 else none
 else
 (Nf u.1 v.1 x.2.2.2).bind λb1=>some (true,([]:AOz),x.2.1,x.2.2.1++([(u.1,v.1,o,())]:AOD),b1)
 else none
 else none
 else none
def c85:=Cx [.WH,.d Ap,.d APr] [⟨[.ptr 0 [] 0,.AB [] Ap,.AB [] APr],[.box (.pr (.k F8) (.pr (.k UC) (.pr (.k (.AG 3)) (.k .u)))),.row 123 (.sh []) Ah,.row 204 .Aw Ab,.row 2 .Aw APr],Bool×AOz×AOI×AOD×AOz,λp=>KA p.1.1 p.1.2.1 p.1.2.2.1 p.2.2.1 p.2.2.2.1 p.2.2.2.2.1,λr=>(.cons KB (.cons (dB r.1) .nil),[.box Aah,.A9,.A9,.A9,AA r.2.1,FQ r.2.2.1,C4 r.2.2.2.1,AA r.2.2.2.2])⟩]
theorem Ajd:Aq prog 85 c85:=Av (fn:=f85) ⟨⟨E62,pk ⟨yz,yF,AdL,AdM,AdO,AdP,trivial⟩,λ_ R K=>by
 simp(disch:=refine id ?_;kernel_rfl) only[KA,AOj,Bc (AzD ..) (K:=A2 E62 f85 4 R K)];kernel_rfl⟩,trivial⟩
abbrev E63:=eN [] {}
def OS(a:AOr):APJ AOW:=
 if a.2.1.length*8<=140737488355328 then
 some (a.1,a.2.1)
 else none
def c87:=Cx [.d Ah] [⟨[.AB [] Ah],[],AOW,λp=>OS p.1.1,λr=>(.pr (dI r.1) Q5,[Da r.2])⟩]
theorem Aje:Aq prog 87 c87:=Av (fn:=f87) ⟨⟨E63,pk trivial,λ_ R K=>by
 simp only[OS,AOj];kernel_rfl⟩,trivial⟩
abbrev qW:=eN [(58,c58),(60,c60),(83,c83),(84,c84),(85,c85),(86,c86),(87,c87)] {A8:=[(8,{Bb:=[0,1,6,8,10,11,12,13],Cg:=[(12,true,.row [1] 204 Ab true)]}),(13,{Bb:=[0,1,6,8,10,11,12,13,14,16],RF:=[(14,false,.sl Ap)],Cg:=[(12,true,.row [1] 204 Ab true)]}),(20,{Bb:=[6,10,11,12,19],Cg:=[(10,true,.row [1] 150 Ao true)]}),(25,{Bb:=[6,10,11,12,19,20,21],Cg:=[(20,true,.row [0] 2 APr true)]})],BW:=[(8,[6,7,10,11,12]),(13,[0,1,6,7,8,10,11,12,13]),(20,[6,10]),(25,[6,10,11,12,19,20])],BS:=[(9,{Bb:=[0,1,6,7,8,10,11,12,13],Cg:=[(12,true,.row [1] 204 Ab true)]}),(21,{Bb:=[6,10,11,12,19],Cg:=[(10,true,.row [1] 150 Ao true)]}),(26,{Bb:=[6,10,11,12,19,20,21],Cg:=[(20,true,.row [0] 2 APr true)]}),(33,{Bb:=[6,10,11,12,19,20],Cg:=[(20,true,.row [2,1] 88 APs true)]})],DD:=[(9,[0,1,6,8,10,11,12,13]),(21,[6,10,11,12,19]),(26,[6,10,11,12,19,20,21]),(33,[6,10,11,12,19,20,22])],RF:=[(0,Bp),(1,.bool)]}
def ApC a (b:Int) c (z_:Int×AOK×AOI×AOD×AOz):=sT 146 (Ahx a b z_.1) (Ahy c z_.2.1 z_.2.2.1 z_.2.2.2.1 z_.2.2.2.2)
def An4(a b:Int) c:=λ(d:AOK)=>xE 4 146 [(6,Ar),(10,A6)] [.box cu,.box (.pr (BQ c) (.pr UC UK)),ER d]
def ApB a (b:Int) e c g i j k:=sT 146 (Ahx a b e) (Ahy c g i j k)
def An3 a (b:Int) e c (g:AOK) (i:AOI) (j:AOD) (k:AOz):=λ(l:(AOK×AOI×AOD×AOz))=>xN 146 (Ahx a b e) (Ahy c l.1 l.2.1 l.2.2.1 l.2.2.2)
def ApA a (b:Int) e c g n o q s t:=sT 146 [(6,Ar),(10,A6),(11,dI a),(12,.ptr 2 b [] 0),(19,dI e),(20,WV),(22,dI o)] (uW c g q s t n)
def An2 a (b:Int) e c g n (o:Int) q s t:=λ(u:(Bool×Int×AOz))=>xN 146 [(6,Ar),(10,A6),(11,dI a),(12,.ptr 2 b [] 0),(19,dI e),(20,WV)] [.box cu,.box (.pr (BQ c) (.pr KB UK)),.box Aah,.box (.pr (.AG 8) (.pr (dB u.1) (.pr (.pr (dI u.2.1) (.pr (.AG 9) .u)) .u))),ER g,FQ q,C4 s,AA t,AA n,Da u.2.2]
def G5(a b e:Int)(c:AOt)(g:AOK)(n:AOz)(o:Int)(q:AOI)(s:AOD)(t:AOz):APJ (Bool×Int×AOz):=
 bif decide (o>=0)then
 if 0<=o/\o<q.length then
 (OS (q.getD o.toNat Ah.zero)).bind λv=>some (true,v.1,v.2)
 else none
 else
 some (false,0,([]:AOz))
theorem Arq a b e c g n o q s t:AY qW 0 33 (sb (cd f56 4084) 6) 94 (ApA a b e c g n o q s t) (G5 a b e c g n o q s t) (An2 a b e c g n o q s t):=by
 unfold AY;simp only[G5,AOi];kernel_rfl
def Apz a (b:Int) e c g i j k (z_:Int×AOz):=sT 146 (Ahz a b e z_.1) (uW c g i j k z_.2)
def An1 a (b:Int) e c g i j k:=λ(n:AOz)=>xE 6 146 [(6,Ar),(10,A6),(11,dI a),(12,.ptr 2 b [] 0),(19,dI e),(20,WV)] (uW c g i j k n)
def Apy a (b:Int) e w c g i j k x:=sT 146 (Ahz a b e w) (uW c g i j k x)
def An0 a (b:Int) e w c g i j k (x:AOz):=λ(y:AOz)=>xN 146 (Ahz a b e w) (uW c g i j k y)
def JY(a b e w:Int)(c:AOt)(g:AOK)(i:AOI)(j:AOD)(k x:AOz):APJ AOz:=
 if 0<=w/\w<k.length then
 bif (k.getD w.toNat APr.zero)==e then
 if(x.length+([w]:AOz).length)*8<=140737488355328 then
 some (x++([w]:AOz))
 else none
 else
 some x
 else none
theorem Aro a b e w c g i j k x:AY qW 0 26 (sb (sb (cd f56 4084) 6) 180) 6 (Apy a b e w c g i j k x) (JY a b e w c g i j k x) (An0 a b e w c g i j k x):=by
 unfold AY;simp only[JY,AOi];kernel_rfl
def Mg(a b e:Int)(c:AOt)(g:AOK)(i:AOI)(j:AOD)(k:AOz)(w:Int)(x:AOz):APJ (AOW⊕AOz):=
 bif decide (w<a)then
 (JY a b e w c g i j k x).bind λy=>some (.inl (wI (w+1),y))
 else
 some (.inr x)
def H8 a b e c g i j k (z_:Int×AOz):=Mg a b e c g i j k z_.1 z_.2
def JZ a b e c g i j k w x:=fix (H8 a b e c g i j k) (w,x)
theorem Arp a b e c g i j k:A4 qW 0 25 (sb (cd f56 4084) 6) 90 (Apz a b e c g i j k) (H8 a b e c g i j k) (An1 a b e c g i j k):=by
 intro _;simp(disch:=refine id ?_;kernel_rfl) only[H8,Mg,AOi,Bc (Aro ..) (K:=KJ qW 0 25)];kernel_rfl
def J0(a b e:Int)(c:AOt)(g:AOK)(i:AOI)(j:AOD)(k:AOz):APJ (AOK×AOI×AOD×AOz):=
 if 0<=e/\e<k.length then
 bif decide ((k.getD e.toNat APr.zero)<e)then
 some (g,i,j,k)
 else
 (JZ a b e c g i j k e ([]:AOz)).bind λn=>(EE b e i j k).bind λa1=>(G5 a b e c g n a1.1 a1.2.1 a1.2.2.1 a1.2.2.2).bind λu=>if(g.length+([(n,u.1,(u.2.1,u.2.2,()),())]:AOK).length)*64<=140737488355328 then
 some (g++([(n,u.1,(u.2.1,u.2.2,()),())]:AOK),a1.2.1,a1.2.2.1,a1.2.2.2)
 else none
 else none
theorem Arr a b e c g i j k:AY qW 0 21 (cd f56 4084) 6 (ApB a b e c g i j k) (J0 a b e c g i j k) (An3 a b e c g i j k):=by
 unfold AY;simp(disch:=refine id ?_;kernel_rfl) only[J0,AOi,JZ,AH (Arp _ _ _ _ _ _ _ _) (K:=UH qW 0 21),Bc (Arq ..) (K:=UH qW 0 21)];kernel_rfl
def Mh(a b:Int)(c:AOt)(e:Int)(g:AOK)(i:AOI)(j:AOD)(k:AOz):APJ ((Int×AOK×AOI×AOD×AOz)⊕AOK):=
 bif decide (e<a)then
 (J0 a b e c g i j k).bind λl=>some (.inl (wI (e+1),l.1,l.2.1,l.2.2.1,l.2.2.2))
 else
 some (.inr g)
def H9 a b c (z_:Int×AOK×AOI×AOD×AOz):=Mh a b c z_.1 z_.2.1 z_.2.2.1 z_.2.2.2.1 z_.2.2.2.2
def J4 a b c e g i j k:=fix (H9 a b c) (e,g,i,j,k)
theorem Ars a b c:A4 qW 0 20 (code f56) 2042 (ApC a b c) (H9 a b c) (An4 a b c):=by
 intro _;simp(disch:=refine id ?_;kernel_rfl) only[H9,Mh,AOi,Bc (Arr ..) (K:=KJ qW 0 20)];kernel_rfl
def Axp b1 c1 d1 (e1:Int) g1 i1 (z_:Int×AOI×AOD×AOz):=sT 146 (Aab b1 c1 d1 e1 z_.1) (uX g1 i1 z_.2.1 z_.2.2.1 z_.2.2.2)
def Avl(b1:AOE)(c1:AOG) d1 (e1:Int) (g1:AOt) i1:=Sum.elim (λ(j1:AO6)=>xR 146 [(6,Ar),(7,dB true),(10,A6),(11,dI d1),(12,.ptr 2 e1 [] 0)] [.box (.pr (BQ i1) (.pr .zs lg)),.box (.pr (BQ i1) (.pr .zs lg)),.box vb,AA j1.1,FQ j1.2.1,C4 j1.2.2.1,AA j1.2.2.2]) (λ(k1:APa)=>xE 0 146 [(6,Ar),(10,A6),(11,dI d1),(12,.ptr 2 e1 [] 0)] [.box cu,.box (.pr (BQ i1) u9),.box (.pr (.AG 3) (.pr KB j8)),FQ k1.1,C4 k1.2.1,AA k1.2.2])
def Axo b1 c1 d1 (e1:Int) l1 g1 i1 n1 o1 q1:=sT 146 (Aab b1 c1 d1 e1 l1) (uX g1 i1 n1 o1 q1)
def Avk b1 c1 d1 (e1:Int) l1 g1 i1 (n1:AOI) (o1:AOD) (q1:AOz):=Sum.elim (λ(s1:APa)=>xN 146 (Aab b1 c1 d1 e1 l1) (uX g1 i1 s1.1 s1.2.1 s1.2.2)) (λ(t1:AO6)=>xR 146 (AlW b1 c1 d1 e1 l1) (AlX i1 g1 i1 t1.1 t1.2.1 t1.2.2.1 t1.2.2.2))
def Axn b1 c1 d1 (e1:Int) l1 g1 i1 u1 (z_:Int×AOI×AOD×AOz):=sT 146 [(0,Au b1),(1,Bo c1),(6,Ar),(8,A6),(10,HC),(11,dI d1),(12,.ptr 3 e1 [] 0),(13,dI l1),(14,YV u1),(16,dI z_.1)] (uX g1 i1 z_.2.1 z_.2.2.1 z_.2.2.2)
def Avj b1 c1 d1 (e1:Int) l1 g1 i1 (u1:AOL):=Sum.elim (λ(v1:AO6)=>xR 146 (AlW b1 c1 d1 e1 l1) (AlX i1 g1 i1 v1.1 v1.2.1 v1.2.2.1 v1.2.2.2)) (λ(w1:APa)=>xE 2 146 (Aab b1 c1 d1 e1 l1) (uX g1 i1 w1.1 w1.2.1 w1.2.2))
def F7(b1:AOE)(c1:AOG)(d1 e1 l1:Int)(g1 i1:AOt)(u1:AOL)(x1:Int)(y1:AOI)(a2:AOD)(b2:AOz):APJ (APb⊕(AO6⊕APa)):=
 bif decide (x1<(u1.length:Int))then
 if 0<=x1/\x1<u1.length then
 if 0<=l1/\l1<c1.length then
 (KA e1 (u1.getD x1.toNat Ap.zero) (c1.getD l1.toNat Af.zero).1 y1 a2 b2).bind λc2=>bif !c2.1 then
 some (.inr (.inl (c2.2.1,c2.2.2.1,c2.2.2.2.1,c2.2.2.2.2)))
 else
 some (.inl (wI (x1+1),c2.2.2.1,c2.2.2.2.1,c2.2.2.2.2))
 else none
 else none
 else
 some (.inr (.inr (y1,a2,b2)))
def D5 b1 c1 d1 e1 l1 g1 i1 u1 (z_:Int×AOI×AOD×AOz):=F7 b1 c1 d1 e1 l1 g1 i1 u1 z_.1 z_.2.1 z_.2.2.1 z_.2.2.2
def Fw b1 c1 d1 e1 l1 g1 i1 u1 x1 y1 a2 b2:=fix (D5 b1 c1 d1 e1 l1 g1 i1 u1) (x1,y1,a2,b2)
theorem AzE b1 c1 d1 e1 l1 g1 i1 u1:A4 qW 0 13 (sb (cd f56 2036) 6) 46 (Axn b1 c1 d1 e1 l1 g1 i1 u1) (D5 b1 c1 d1 e1 l1 g1 i1 u1) (Avj b1 c1 d1 e1 l1 g1 i1 u1):=by
 intro _;simp only[D5,F7,AOi];kernel_rfl
def Fx(b1:AOE)(c1:AOG)(d1 e1 l1:Int)(g1 i1:AOt)(n1:AOI)(o1:AOD)(q1:AOz):APJ (APa⊕AO6):=
 if 0<=l1/\l1<c1.length then
 bif !(c1.getD l1.toNat Af.zero).2.1 then
 some (.inl (n1,o1,q1))
 else
 if 0<=l1/\l1<c1.length then
 (KM b1 (c1.getD l1.toNat Af.zero) g1).bind λd2=>(Fw b1 c1 d1 e1 l1 g1 i1 d2.2 0 n1 o1 q1).bind (Sum.elim (λv1=>some (.inr (v1.1,v1.2.1,v1.2.2.1,v1.2.2.2))) (λw1=>some (.inl (w1.1,w1.2.1,w1.2.2))))
 else none
 else none
theorem AzF b1 c1 d1 e1 l1 g1 i1 n1 o1 q1:AY qW 0 9 (cd f56 2036) 6 (Axo b1 c1 d1 e1 l1 g1 i1 n1 o1 q1) (Fx b1 c1 d1 e1 l1 g1 i1 n1 o1 q1) (Avk b1 c1 d1 e1 l1 g1 i1 n1 o1 q1):=by
 unfold AY;simp(disch:=refine id ?_;kernel_rfl) only[Fx,AOi,Fw,AH (AzE _ _ _ _ _ _ _ _) (K:=UH qW 0 9)];kernel_rfl
def D6(b1:AOE)(c1:AOG)(d1 e1:Int)(g1 i1:AOt)(l1:Int)(n1:AOI)(o1:AOD)(q1:AOz):APJ (APb⊕(AO6⊕APa)):=
 bif decide (l1<(c1.length:Int))then
 (Fx b1 c1 d1 e1 l1 g1 i1 n1 o1 q1).bind (Sum.elim (λs1=>some (.inl (wI (l1+1),s1.1,s1.2.1,s1.2.2))) (λt1=>some (.inr (.inl (t1.1,t1.2.1,t1.2.2.1,t1.2.2.2)))))
 else
 some (.inr (.inr (n1,o1,q1)))
def C9 b1 c1 d1 e1 g1 i1 (z_:Int×AOI×AOD×AOz):=D6 b1 c1 d1 e1 g1 i1 z_.1 z_.2.1 z_.2.2.1 z_.2.2.2
def DT b1 c1 d1 e1 g1 i1 l1 n1 o1 q1:=fix (C9 b1 c1 d1 e1 g1 i1) (l1,n1,o1,q1)
theorem AzG b1 c1 d1 e1 g1 i1:A4 qW 0 8 (code f56) 1018 (Axp b1 c1 d1 e1 g1 i1) (C9 b1 c1 d1 e1 g1 i1) (Avl b1 c1 d1 e1 g1 i1):=by
 intro _;simp(disch:=refine id ?_;kernel_rfl) only[C9,D6,AOi,Bc (AzF ..) (K:=KJ qW 0 8)];kernel_rfl
def Ja(b1:AOE)(c1:AOG)(e2:AOt):APJ (AOy×Bool):=
 (Cj b1 c1 e2).bind λg2=>bif !g2.2 then
 some (((([]:AON),()),([]:AOK),([]:AOz),()),false)
 else
 (Ip b1 g2.1).bind λi2=>(Uz (i2.length:Int)).bind λj2=>(DT b1 c1 (i2.length:Int) j2.1 g2.1 g2.1 0 j2.2.1 ([]:AOD) j2.2.2).bind (Sum.elim (λj1=>some ((g2.1,([]:AOK),j1.1,()),true)) (λk1=>(J4 (i2.length:Int) j2.1 g2.1 0 ([]:AOK) k1.1 k1.2.1 k1.2.2).bind λd=>some ((g2.1,d,([]:AOz),()),true)))
def c56:=Cx [.d APx,.d APz,.d Am] [⟨[.AB [] APx,.AB [] APz,.AB [] Am],[],AOy×Bool,λp=>Ja p.1.1 p.1.2.1 p.1.2.2.1,λr=>(.cons (cj r.1) (.cons (dB r.2) .nil),[])⟩]
theorem yv:Aq prog 56 c56:=Av (fn:=f56) ⟨⟨qW,pk ⟨om,yy,oq,Ajc,Ajd,yF,Aje,trivial⟩,λ_ R K=>by
 simp(disch:=refine id ?_;kernel_rfl) only[Ja,AOj,DT,AH (AzG _ _ _ _ _ _) (K:=A2 qW f56 0 R K),J4,AH (Ars _ _ _) (K:=A2 qW f56 0 R K)];kernel_rfl⟩,trivial⟩
abbrev E65:=eN [(29,c29),(54,c54),(55,c55),(56,c56),(57,c57)] {cQ:=[(24,APz),(26,Am)]}
def TC(a:AOE)(b:AOG):APJ Int:=
 (Ee a b).bind λc=>bif !c then
 some 1
 else
 (Nc a b).bind λd=>bif !d.1 then
 some 1
 else
 (KN b).bind λe=>(Ps a).bind λg=>(Ja a e (g,())).bind λi=>bif decide ((i.1.2.2.1.length:Int)>0)then
 some 2
 else
 some 0
def c26:=Cx [.d APx,.d APz] [⟨[.AB [] APx,.AB [] APz],[],Int,λp=>TC p.1.1 p.1.2.1,λr=>(dI r,[])⟩]
theorem AiJ:Aq prog 26 c26:=Av (fn:=f26) ⟨⟨E65,pk ⟨yu,fD,oi,yv,yw,trivial⟩,λ_ R K=>by
 simp only[TC,AOj];kernel_rfl⟩,trivial⟩
abbrev E66:=eN [(54,c54),(55,c55)] {Aw:=false,cQ:=[(16,APz),(23,APz)]}
def N9(a:AOE)(b c:AOu):APJ AO8:=
 (Ee a ([(1,true,b,c,())]:AOG)).bind λd=>bif !d then
 some (1,true,b,c,false)
 else
 (Nc a ([(1,true,b,c,())]:AOG)).bind λe=>some (1,true,b,c,e.1)
def c27:=Cx [.d APx,.d An,.d An] [⟨[.AB [] APx,.AB [] An,.AB [] An],[],AO8,λp=>N9 p.1.1 p.1.2.1 p.1.2.2.1,λr=>(.cons (.pr (dI r.1) (.pr (dB r.2.1) (.pr (FY r.2.2.1) (.pr (FY r.2.2.2.1) .u)))) (.cons (dB r.2.2.2.2) .nil),[])⟩]
theorem AiK:Aq prog 27 c27:=Av (fn:=f27) ⟨⟨E66,pk ⟨fD,oi,trivial⟩,λ_ R K=>by
 simp only[N9,AOj];kernel_rfl⟩,trivial⟩
abbrev E67:=eN [(126,Arx)] {A8:=[(2,[1,2,5])],BW:=[(2,[4])]}
def Axq a b (z_:Int):=sT 22 [(1,dI a),(2,Ar),(5,dI z_)] [.box (cj b)]
def Avm(a:Int)(b:AOy):=Sum.elim (λ(c:Int)=>xR 22 [(4,dI c)] []) (λ(d:Unit)=>xE 0 22 [] [])
def Qp(a:Int)(b:AOy)(e:Int):APJ (Int⊕(Int⊕Unit)):=
 bif decide (e<(b.2.1.length:Int))then
 if 0<=e/\e<b.2.1.length then
 (Mj (b.2.1.getD e.toNat Ao.zero).1 a).bind λg=>bif g then
 some (.inr (.inl e))
 else
 some (.inl (wI (e+1)))
 else none
 else
 some (.inr (.inr ()))
def Lj a b (z_:Int):=Qp a b z_
def Ov a b e:=fix (Lj a b) e
theorem AzH a b:A4 E67 0 2 (code f96) 26 (Axq a b) (Lj a b) (Avm a b):=by
 intro _;simp only[Lj,Qp,AOi];kernel_rfl
def Qo(b:AOy)(a:Int):APJ Int:=
 (Ov a b 0).bind (Sum.elim (λc=>some c) (λd=>some (-1)))
def c96:=Cx [.d Bp,.d APr] [⟨[.AB [] Bp,.AB [] APr],[],Int,λp=>Qo p.1.1 p.1.2.1,λr=>(dI r,[])⟩]
theorem Ajj:Aq prog 96 c96:=Av (fn:=f96) ⟨⟨E67,pk ⟨rG,trivial⟩,λ_ R K=>by
 simp(disch:=refine id ?_;kernel_rfl) only[Qo,AOj,Ov,AH (AzH _ _) (K:=A2 E67 f96 0 R K)];kernel_rfl⟩,trivial⟩
abbrev E68:=eN [(96,c96)] {RF:=[(0,APr),(1,Ah)]}
def Gw(a:AOy)(b:AOk):APJ AOS:=
 bif decide (b.1<0)then
 some (-1,b.2.1)
 else
 (Qo a b.1).bind λc=>if 0<=c/\c<a.2.1.length then
 bif (a.2.1.getD c.toNat Ao.zero).2.1 then
 if 0<=c/\c<a.2.1.length then
 some (-1,(a.2.1.getD c.toNat Ao.zero).2.2.1)
 else none
 else
 some (c,(0,([]:AOz),()))
 else none
def c61:=Cx [.d Bp,.d AX] [⟨[.AB [] Bp,.AB [] AX],[],AOS,λp=>Gw p.1.1 p.1.2.1,λr=>(.cons (dI r.1) (.cons (Gr r.2) .nil),[])⟩]
theorem AiZ:Aq prog 61 c61:=Av (fn:=f61) ⟨⟨E68,pk ⟨Ajj,trivial⟩,λ_ R K=>by
 simp only[Gw,AOj];kernel_rfl⟩,trivial⟩
abbrev E69:=eN [(56,c56),(57,c57),(58,c58),(59,c59),(60,c60),(61,c61),(62,c62)] {Aw:=false,A8:=[(2,[0,1,5,7]),(9,{Bb:=[11,13,15],RF:=[(13,false,.sl Ap)]})],BW:=[(2,[0,1,5,7]),(9,[6])],BS:=[(14,[11,13,15,103])],DD:=[(14,[11,13,15,16,17,18,19])],cQ:=[(24,Am),(31,APz)]}
def Axt a b (z_:Int):=sT 104 [(11,Ar),(13,YV a),(15,dI z_)] [.box (cj b)]
def Avp(a:AOL)(b:AOy):=Sum.elim (λ(c:Unit)=>xR 104 [(6,dB false)] []) (λ(d:Unit)=>xE 2 104 [] [])
def Axs a e b g i j k:=sT 104 [(11,Ar),(13,YV a),(15,dI e),(16,dI g),(17,A6),(18,dI i),(19,HC)] [.box (cj b),.box (Gr j),.box (Gr k)]
def Avo a e b (g:Int) (i:Int) (j:AOr) (k:AOr):=λ(l:Bool)=>xN 104 [(11,Ar),(13,YV a),(15,dI e),(103,dB l)] [.box (cj b)]
def HK(a:AOL)(e:Int)(b:AOy)(g i:Int)(j k:AOr):APJ Bool:=
 bif g !=i then
 some true
 else
 bif decide (g<0)then
 (Ef j k).bind λn=>some (!n)
 else
 some false
theorem AzJ a e b g i j k:AY E69 0 14 (cd f28 1012) 102 (Axs a e b g i j k) (HK a e b g i j k) (Avo a e b g i j k):=by
 unfold AY;simp only[HK,AOi];kernel_rfl
def Qu(a:AOL)(b:AOy)(e:Int):APJ (Int⊕(Unit⊕Unit)):=
 bif decide (e<(a.length:Int))then
 if 0<=e/\e<a.length then
 (Gw b (a.getD e.toNat Ap.zero).1).bind λo=>if 0<=e/\e<a.length then
 (Gw b (a.getD e.toNat Ap.zero).2.1).bind λq=>(HK a e b o.1 q.1 o.2 q.2).bind λl=>bif l then
 some (.inr (.inl ()))
 else
 some (.inl (wI (e+1)))
 else none
 else none
 else
 some (.inr (.inr ()))
def Ls a b (z_:Int):=Qu a b z_
def OA a b e:=fix (Ls a b) e
theorem AzK a b:A4 E69 0 9 (code f28) 506 (Axt a b) (Ls a b) (Avp a b):=by
 intro _;simp(disch:=refine id ?_;kernel_rfl) only[Ls,Qu,AOi,Bc (AzJ ..) (K:=KJ E69 0 9)];kernel_rfl
def Axr s t u (z_:AOt):=sT 104 [(0,Au s),(1,Bo t),(5,Ar),(7,A6)] (uT u z_)
def Avn s t u:=λ(v:AOt)=>xE 0 104 [(0,Au s),(1,Bo t),(5,Ar),(7,A6)] (uT u v)
def Qs(s:AOE)(t:AOG)(u:AOp)(w:AOt):APJ (AOt⊕AOt):=
 (Cj s ([u]:AOG) w).bind λx=>(Cj s t x.1).bind λy=>(J6 s y.1).bind λa1=>(J6 s w).bind λb1=>bif a1==b1 then
 some (.inr w)
 else
 some (.inl y.1)
def Lr s t u (z_:AOt):=Qs s t u z_
def Oz s t u w:=fix (Lr s t u) w
theorem AzI s t u:A4 E69 0 2 (code f28) 28 (Axr s t u) (Lr s t u) (Avn s t u):=by
 intro _;simp only[Lr,Qs,AOi];kernel_rfl
def MR(s:AOE)(t:AOG)(u:AOp):APJ Bool:=
 (Ps s).bind λc1=>(Cj s t (c1,())).bind λd1=>(Oz s t u d1.1).bind λv=>(Ja s t v).bind λe1=>(KM s u v).bind λg1=>(OA g1.2 e1.1 0).bind (Sum.elim (λc=>some false) (λd=>some true))
def c28:=Cx [.d APx,.d APz,.d Af] [⟨[.AB [] APx,.AB [] APz,.AB [] Af],[],Bool,λp=>MR p.1.1 p.1.2.1 p.1.2.2.1,λr=>(dB r,[])⟩]
theorem AiL:Aq prog 28 c28:=Av (fn:=f28) ⟨⟨E69,pk ⟨yv,yw,om,yx,yy,AiZ,yz,trivial⟩,λ_ R K=>by
 simp(disch:=refine id ?_;kernel_rfl) only[MR,AOj,Oz,AH (AzI _ _ _) (K:=A2 E69 f28 0 R K),OA,AH (AzK _ _) (K:=A2 E69 f28 0 R K)];kernel_rfl⟩,trivial⟩
abbrev E70:=eN [(26,c26),(27,c27),(28,c28),(29,c29)] {BS:=[(4,[0,1,10,11,28])],DD:=[(4,[0,1,10,11,12])],cQ:=[(34,APz)]}
def AkT a b c (d:AO8):=sT 37 [(0,Au a),(1,Bo b),(10,dI c),(11,Ar),(12,dB d.2.2.2.2)] [.box (.pr (dI d.1) (.pr (dB d.2.1) (.pr (FY d.2.2.1) (.pr (FY d.2.2.2.1) .u))))]
def AcF(a:AOE)(b:AOG)(c:Int)(d:AO8)(m0:Bool):Ex×St:=xN 37 [(0,Au a),(1,Bo b),(10,dI c),(11,Ar),(28,dB m0)] [.box (.pr (dI d.1) (.pr (dB d.2.1) (.pr (FY d.2.2.1) (.pr (FY d.2.2.2.1) .u))))]
theorem AzL a b c d:Xn E70 0 4 (code f8) (pt 60) (AkT a b c d)=some (AcF a b c d ((c==1)||(!d.2.2.2.2))):=by
 refine .trans (b:=
 bif c==1 then
 some (AcF a b c d true)
 else
 some (AcF a b c d (!d.2.2.2.2))) (by kernel_rfl) ?_
 cases (c==1);rfl;rfl
def Wc(a:AOE)(b:AOG)(e g:AOu):APJ (Bool×Int):=
 (TC a b).bind λc=>(N9 a e g).bind λd=>PD (AkT a b c d) (
 bif (c==1)||(!d.2.2.2.2)then
 some (false,1)
 else
 bif c !=0 then
 some (false,c)
 else
 (KN b).bind λi=>(MR a i (d.1,d.2.1,d.2.2.1,d.2.2.2.1,())).bind λj=>some (j,0))
def c8:=Cx [.d APx,.d APz,.d An,.d An] [⟨[.AB [] APx,.AB [] APz,.AB [] An,.AB [] An],[],Bool×Int,λp=>Wc p.1.1 p.1.2.1 p.1.2.2.1 p.1.2.2.2.1,λr=>(.cons (dB r.1) (.cons (dI r.2) .nil),[])⟩]
theorem ArJ:Aq prog 8 c8:=Av (fn:=f8) ⟨⟨E70,pk ⟨AiJ,AiK,AiL,yu,trivial⟩,λ_ R K=>by
 simp(disch:=refine id ?_;kernel_rfl) only[Wc,AOj,Ft (AzL ..) (K:=A2 E70 f8 0 R K)];kernel_rfl⟩,trivial⟩
abbrev E71:=eN [] {A8:=[(4,[0,3])],BW:=[(4,[2])],BS:=[(2,[0,21]),(7,[0,3,49])],DD:=[(2,[0]),(7,[0,3])]}
def Axw a (z_:Int):=sT 50 [(0,Km a),(3,dI z_)] []
def Avs(a:ByteArray):=Sum.elim (λ(b:Unit)=>xR 50 [(2,dB false)] []) (λ(c:Unit)=>xE 0 50 [] [])
def Axv a d:=sT 50 [(0,Km a),(3,dI d)] []
def Avr a d:=λ(e:Bool)=>xN 50 [(0,Km a),(3,dI d),(49,dB e)] []
def L5(a:ByteArray)(d:Int):APJ Bool:=
 if(0:Int)<=d/\d<(a.size:Int)then
 bif decide ((C5 a d)<97)then
 if(0:Int)<=d/\d<(a.size:Int)then
 bif decide ((C5 a d)<48)then
 some true
 else
 if(0:Int)<=d/\d<(a.size:Int)then
 some (decide ((C5 a d)>57))
 else none
 else none
 else
 if(0:Int)<=d/\d<(a.size:Int)then
 bif decide ((C5 a d)>122)then
 if(0:Int)<=d/\d<(a.size:Int)then
 bif decide ((C5 a d)<48)then
 some true
 else
 if(0:Int)<=d/\d<(a.size:Int)then
 some (decide ((C5 a d)>57))
 else none
 else none
 else
 some false
 else none
 else none
theorem AzN a d:AY E71 0 7 (cd f64 116) 24 (Axv a d) (L5 a d) (Avr a d):=by
 unfold AY;simp only[L5,AOi];kernel_rfl
def MB(a:ByteArray)(d:Int):APJ (Int⊕(Unit⊕Unit)):=
 bif decide (d<(a.size:Int))then
 (L5 a d).bind λe=>bif e then
 some (.inr (.inl ()))
 else
 some (.inl (wI (d+1)))
 else
 some (.inr (.inr ()))
def I4 a (z_:Int):=MB a z_
def XS a d:=fix (I4 a) d
theorem AzO a:A4 E71 0 4 (code f64) 58 (Axw a) (I4 a) (Avs a):=by
 intro _;simp(disch:=refine id ?_;kernel_rfl) only[I4,MB,AOi,Bc (AzN ..) (K:=KJ E71 0 4)];kernel_rfl
def Axu a:=sT 50 [(0,Km a)] []
def Avq a:=λ(g:Bool)=>xN 50 [(0,Km a),(21,dB g)] []
def P2(a:ByteArray):APJ Bool:=
 bif decide ((a.size:Int)<1)then
 some true
 else
 bif decide ((a.size:Int)>12)then
 some true
 else
 if(0:Int)<=(0:Int)/\(0:Int)<(a.size:Int)then
 bif decide ((C5 a 0)<97)then
 some true
 else
 if(0:Int)<=(0:Int)/\(0:Int)<(a.size:Int)then
 some (decide ((C5 a 0)>122))
 else none
 else none
theorem AzM a:AY E71 0 2 (code f64) 12 (Axu a) (P2 a) (Avq a):=by
 unfold AY;simp only[P2,AOi];kernel_rfl
def Pm(a:ByteArray):APJ Bool:=
 (P2 a).bind λg=>bif g then
 some false
 else
 (XS a 0).bind (Sum.elim (λb=>some false) (λc=>some true))
def c64:=Cx [.d .str] [⟨[.AB [] .str],[],Bool,λp=>Pm p.1.1,λr=>(dB r,[])⟩]
theorem Ai1:Aq prog 64 c64:=Av (fn:=f64) ⟨⟨E71,pk trivial,λ_ R K=>by
 simp(disch:=refine id ?_;kernel_rfl) only[Pm,AOj,Bc (AzM _) (K:=A2 E71 f64 0 R K),XS,AH (AzO _) (K:=A2 E71 f64 0 R K)];kernel_rfl⟩,trivial⟩
abbrev E72:=eN [] {}
def AP(a b c:Int):Bool:=((decide (a>=b))&&(decide (a<=c)))
theorem U72 R a b c K:Sr E72 f65 R [dI a,dI b,dI c] [] K=K (dB (AP a b c)) []:=by
 refine .trans (b:=
 bif decide (a>=b)then
 K (dB (decide (a<=c))) []
 else
 K (dB false) []) (by kernel_rfl) ?_
 unfold AP;cases (decide (a>=b));rfl;rfl
def c65:=Cx [.d APr,.d APr,.d APr] [⟨[.AB [] APr,.AB [] APr,.AB [] APr],[],Bool,λp=>some (AP p.1.1 p.1.2.1 p.1.2.2.1),λr=>(dB r,[])⟩]
theorem Ym:Aq prog 65 c65:=Av ⟨⟨E72,pk trivial,λ_ _ _=>U72 ..⟩,trivial⟩
abbrev E73:=eN [] {}
def SR(a:AOn)(b:ByteArray):Bool:=(Iu a.1 b)
def AAB:=Cx [.d Ad,.p .str] [⟨[.AB [] Ad,.Fv [] .str],[],Bool,λp=>some (SR p.1.1 p.1.2.1),λr=>(dB r,[])⟩]
theorem Adt:Aq prog 100 AAB:=Av (fn:=f100) ⟨⟨E73,pk trivial,λ_ _ _=>by kernel_rfl⟩,trivial⟩
abbrev E74:=eN [(100,AAB)] {A8:=[(2,[0,1,7,8])],BW:=[(2,[4])]}
def Axx a (b:Int) c d (z_:Int):=sT 19 [(0,Au a),(1,.fn 100 (.cons (.ptr 0 b [] 0) .nil)),(7,dI d),(8,dI z_)] [.box (Km c)]
def Avt(a:AOE)(b:Int) c (d:Int):=Sum.elim (λ(e:Int)=>xR 19 [(4,dI e)] [.box (Km c)]) (λ(g:Unit)=>xE 0 19 [] [.box (Km c)])
def DN(a:AOE)(b:Int)(c:ByteArray)(d i:Int):APJ (Int⊕(Int⊕Unit)):=
 bif decide (i<d)then
 if 0<=i/\i<a.length then
 bif SR (a.getD i.toNat Ad.zero) c then
 some (.inr (.inl i))
 else
 some (.inl (wI (i+1)))
 else none
 else
 some (.inr (.inr ()))
def CO a b c d (z_:Int):=DN a b c d z_
def Io a b c d i:=fix (CO a b c d) i
theorem AzP a b c d:A4 E74 1 2 (code f99) 26 (Axx a b c d) (CO a b c d) (Avt a b c d):=by
 intro _;simp only[CO,DN,AOi];kernel_rfl
def Hq(a:AOE)(b:Int)(c:ByteArray):APJ (Int×ByteArray):=
 (Io a b c (a.length:Int) 0).bind (Sum.elim (λe=>some (e,c)) (λg=>some (-1,c)))
def c99:=Cx [.d APx,.WH] [⟨[.AB [] APx,.fn 100 (.cons (.ptr 0 [] 0) (.k .nil))],[.box (.AB [] .str)],Int×ByteArray,λp=>Hq p.1.1 p.1.2.1.1 p.2.1,λr=>(dI r.1,[.box (Km r.2)])⟩]
theorem Ajm:Aq prog 99 c99:=Av (fn:=f99) ⟨⟨E74,pk ⟨Adt,trivial⟩,λ_ R K=>by
 simp(disch:=refine id ?_;kernel_rfl) only[Hq,AOj,Io,AH (AzP _ _ _ _) (K:=A2 E74 f99 1 R K)];kernel_rfl⟩,trivial⟩
abbrev E75:=eN [(99,c99)] {}
def KF(a:AOE)(b:ByteArray):APJ Int:=
 (Hq a 0 b).bind λc=>some c.1
def c66:=Cx [.d APx,.d .str] [⟨[.AB [] APx,.AB [] .str],[],Int,λp=>KF p.1.1 p.1.2.1,λr=>(dI r,[])⟩]
theorem Ai2:Aq prog 66 c66:=Av (fn:=f66) ⟨⟨E75,pk ⟨Ajm,trivial⟩,λ_ R K=>by
 simp only[KF,AOj];kernel_rfl⟩,trivial⟩
abbrev E76:=eN [(64,c64),(65,c65),(66,c66)] {A8:=[(5,[0,3,9,10,11])],BW:=[(5,[2,3])],BS:=[(8,[0,3,5,9,10,11,34])],DD:=[(8,[0,3,4,5,9,10,11])]}
def Axz a b (z_:Int×Int):=sT 42 [(0,Au a),(3,dI z_.1),(9,Au a),(10,dI b),(11,dI z_.2)] []
def Avv(a:AOE)(b:Int):=Sum.elim (λ(c:Int)=>xR 42 [(2,dB false),(3,dI c)] []) (λ(d:Int)=>xE 0 42 [(3,dI d)] [])
def Axy a e g b i:=sT 42 [(0,Au a),(3,dI e),(4,dI g),(5,Ar),(9,Au a),(10,dI b),(11,dI g)] [.box (cg i)]
def Avu a e g b i:=λ(j:Bool)=>xN 42 [(0,Au a),(3,dI e),(5,Ar),(9,Au a),(10,dI b),(11,dI g),(34,dB j)] [.box (cg i)]
def Oc(a:AOE)(e g b:Int)(i:AOn):APJ Bool:=
 (Pm i.1).bind λk=>bif !k then
 some true
 else
 bif !(AP i.2.1 1 4096)then
 some true
 else
 if(0:Int)<=(0:Int)/\(0:Int)<=g/\g<=(a.length:Int)then
 (KF ((a.take g.toNat).drop 0) i.1).bind λl=>some (decide (l>=0))
 else none
theorem AzQ a e g b i:AY E76 0 8 (cd f33 244) 228 (Axy a e g b i) (Oc a e g b i) (Avu a e g b i):=by
 unfold AY;simp only[Oc,AOi];kernel_rfl
def K4(a:AOE)(b e g:Int):APJ (AOY⊕(Int⊕Int)):=
 bif decide (g<b)then
 if 0<=g/\g<a.length then
 (Oc a e g b (a.getD g.toNat Ad.zero)).bind λj=>bif j then
 some (.inr (.inl e))
 else
 some (.inl (wI (e+(a.getD g.toNat Ad.zero).2.1),wI (g+1)))
 else none
 else
 some (.inr (.inr e))
def HR a b (z_:Int×Int):=K4 a b z_.1 z_.2
def W7 a b e g:=fix (HR a b) (e,g)
theorem AzR a b:A4 E76 0 5 (code f33) 122 (Axz a b) (HR a b) (Avv a b):=by
 intro _;simp(disch:=refine id ?_;kernel_rfl) only[HR,K4,AOi,Bc (AzQ ..) (K:=KJ E76 0 5)];kernel_rfl
def Jz(a:AOE):APJ Bool:=
 bif decide ((a.length:Int)>60)then
 some false
 else
 (W7 a (a.length:Int) 0 0).bind (Sum.elim (λc=>some false) (λd=>some (decide (d<=20000))))
def c33:=Cx [.d APx] [⟨[.AB [] APx],[],Bool,λp=>Jz p.1.1,λr=>(dB r,[])⟩]
theorem og:Aq prog 33 c33:=Av (fn:=f33) ⟨⟨E76,pk ⟨Ai1,Ym,Ai2,trivial⟩,λ_ R K=>by
 simp(disch:=refine id ?_;kernel_rfl) only[Jz,AOj,W7,AH (AzR _ _) (K:=A2 E76 f33 0 R K)];kernel_rfl⟩,trivial⟩
abbrev E77:=eN [] {}
def Cm(a:Int):Int:=(wI (Int.tdiv (wI (a+63)) 64))
def ArC:=Cx [.d APr] [⟨[.AB [] APr],[],Int,λp=>some (Cm p.1.1),λr=>(dI r,[])⟩]
theorem rL:Aq prog 159 ArC:=Av (fn:=f159) ⟨⟨E77,pk trivial,λ_ _ _=>by kernel_rfl⟩,trivial⟩
abbrev E78:=eN [(65,c65),(159,ArC)] {BS:=[(2,[1,16])],DD:=[(2,[1])]}
def AkU a:=sT 35 [(1,Ar)] [.box (Gr a)]
def AcG(a:AOr)(m0:Bool):Ex×St:=xN 35 [(1,Ar),(16,dB m0)] [.box (Gr a)]
theorem AzS a:Xn E78 0 2 (code f153) (pt 12) (AkU a)=some (AcG a ((!(AP a.1 1 4096))||((a.2.1.length:Int) !=(Cm a.1)))):=by
 refine .trans (b:=
 bif !(AP a.1 1 4096)then
 some (AcG a true)
 else
 some (AcG a ((a.2.1.length:Int) !=(Cm a.1)))) (by kernel_rfl) ?_
 cases (!(AP a.1 1 4096));rfl;rfl
def Ph(a:AOr):APJ Bool:=
 PD (AkU a) (
 bif (!(AP a.1 1 4096))||((a.2.1.length:Int) !=(Cm a.1))then
 some false
 else
 bif (Int.tmod a.1 64)==0 then
 some true
 else
 if 0<=(wI ((a.2.1.length:Int)-1))/\(wI ((a.2.1.length:Int)-1))<a.2.1.length then
 if(Int.tmod a.1 64)<(0:Int)then none else
 some ((Ro .u64 (a.2.1.getD (wI ((a.2.1.length:Int)-1)).toNat APs.zero) (Int.tmod a.1 64))==0)
 else none)
def ABi:=Cx [.d Ah] [⟨[.AB [] Ah],[],Bool,λp=>Ph p.1.1,λr=>(dB r,[])⟩]
theorem Aeb:Aq prog 153 ABi:=Av (fn:=f153) ⟨⟨E78,pk ⟨Ym,rL,trivial⟩,λ_ R K=>by
 simp(disch:=refine id ?_;kernel_rfl) only[Ph,AOj,Ft (AzS _) (K:=A2 E78 f153 0 R K)];kernel_rfl⟩,trivial⟩
abbrev nJ:=eN [(65,c65),(153,ABi)] {A8:=[(11,[8,80,81,82])],BW:=[(11,[8])],BS:=[(4,[0,1,2,7]),(5,[0,1,2,7,17]),(7,[0,2,7,46]),(9,[0,2,7,69]),(19,[0,7,95]),(21,[0,7,137]),(23,[0,7,163]),(25,[0,7,184])],DD:=[(4,[0,1,2,7]),(5,[0,1,2,7]),(7,[0,2,7]),(9,[0,2,7]),(19,[0,7]),(21,[0,7]),(23,[0,7]),(25,[0,7])]}
def Ak0 a b:=sT 203 (Aac a b) []
def AcI(a:AOq)(b:Int)(m0:Bool):Ex×St:=xN 203 [(0,.Fv [] Ag a),(7,dI b),(184,dB m0)] []
theorem Az1 a b:Xn nJ 0 25 (code f128) (pt 1998846) (Ak0 a b)=some (AcI a b ((a.1==9)&&(AP a.2.2.1 1 4096))):=by
 refine .trans (b:=
 bif a.1==9 then
 some (AcI a b (AP a.2.2.1 1 4096))
 else
 some (AcI a b false)) (by kernel_rfl) ?_
 cases (a.1==9);rfl;rfl
def AkZ a b:=sT 203 (Aac a b) []
def yc(a:AOq)(b:Int)(m0:Bool):Ex×St:=xN 203 [(0,.Fv [] Ag a),(7,dI b),(163,dB m0)] []
theorem Az0 a b:Xn nJ 0 23 (code f128) (pt 499710) (AkZ a b)=some (yc a b (bif a.1==7 then(AP a.2.2.1 0 4096)else((a.1==8)&&(AP a.2.2.1 0 4096)))):=by
 refine .trans (b:=
 bif a.1==7 then
 some (yc a b (AP a.2.2.1 0 4096))
 else
 bif a.1==8 then
 some (yc a b (AP a.2.2.1 0 4096))
 else
 some (yc a b false)) (by kernel_rfl) ?_
 cases (a.1==7);cases (a.1==8);rfl;rfl;rfl
def AkY a b:=sT 203 (Aac a b) []
def yb(a:AOq)(b:Int)(m0:Bool):Ex×St:=xN 203 [(0,.Fv [] Ag a),(7,dI b),(137,dB m0)] []
theorem AzZ a b:Xn nJ 0 21 (code f128) (pt 124926) (AkY a b)=some (yb a b (bif a.1==5 then(AP a.2.2.1 0 4096)else((a.1==6)&&(AP a.2.2.1 0 4096)))):=by
 refine .trans (b:=
 bif a.1==5 then
 some (yb a b (AP a.2.2.1 0 4096))
 else
 bif a.1==6 then
 some (yb a b (AP a.2.2.1 0 4096))
 else
 some (yb a b false)) (by kernel_rfl) ?_
 cases (a.1==5);cases (a.1==6);rfl;rfl;rfl
def AkX a b:=sT 203 (Aac a b) []
def q9(a:AOq)(b:Int)(m0:Bool):Ex×St:=xN 203 [(0,.Fv [] Ag a),(7,dI b),(95,dB m0)] []
theorem AzY a b:Xn nJ 0 19 (code f128) (pt 31230) (AkX a b)=some (q9 a b ((a.1==4)&&((decide (a.2.2.2.1>=0))&&((decide (a.2.2.2.1<=a.2.2.1))&&(decide (a.2.2.1<b)))))):=by
 refine .trans (b:=
 bif a.1==4 then
 bif decide (a.2.2.2.1>=0)then
 bif decide (a.2.2.2.1<=a.2.2.1)then
 some (q9 a b (decide (a.2.2.1<b)))
 else
 some (q9 a b false)
 else
 some (q9 a b false)
 else
 some (q9 a b false)) (by kernel_rfl) ?_
 cases (a.1==4);rfl;cases (decide (a.2.2.2.1>=0));rfl;cases (decide (a.2.2.2.1<=a.2.2.1));rfl;rfl
def AxC c d (z_:Int×Int):=sT 203 [(8,dI z_.1),(80,DW c),(81,dI d),(82,dI z_.2)] []
def Avy(c:AOz)(d:Int):=λ(e:Int)=>xE 1 203 [(8,dI e)] []
def Hh(c:AOz)(d g i:Int):APJ (AOY⊕Int):=
 bif decide (i<d)then
 if 0<=i/\i<c.length then
 some (.inl (wI (g+(c.getD i.toNat APr.zero)),wI (i+1)))
 else none
 else
 some (.inr g)
def Cv c d (z_:Int×Int):=Hh c d z_.1 z_.2
def Nu c d g i:=fix (Cv c d) (g,i)
theorem AzX c d:A4 nJ 0 11 (code f128) 62442 (AxC c d) (Cv c d) (Avy c d):=by
 intro _;simp only[Cv,Hh,AOi];kernel_rfl
def AkW a c b:=sT 203 [(0,.Fv [] Ag a),(2,DW c),(7,dI b)] []
def AcH(a:AOq)(c:AOz)(b:Int)(m0:Bool):Ex×St:=xN 203 [(0,.Fv [] Ag a),(2,DW c),(7,dI b),(69,dB m0)] []
theorem AzW a c b:Xn nJ 0 9 (code f128) (pt 1950) (AkW a c b)=some (AcH a c b ((a.1==3)&&(decide ((c.length:Int)>1)))):=by
 refine .trans (b:=
 bif a.1==3 then
 some (AcH a c b (decide ((c.length:Int)>1)))
 else
 some (AcH a c b false)) (by kernel_rfl) ?_
 cases (a.1==3);rfl;rfl
def AxB a c b:=sT 203 [(0,.Fv [] Ag a),(2,DW c),(7,dI b)] []
def Avx a c b:=λ(j:Bool)=>xN 203 [(0,.Fv [] Ag a),(2,DW c),(7,dI b),(46,dB j)] []
def F3(a:AOq)(c:AOz)(b:Int):APJ Bool:=
 bif a.1==2 then
 bif (c.length:Int)==0 then
 (Ph a.2.2.2.2.1).bind λk=>some k
 else
 some false
 else
 some false
theorem AzV a c b:AY nJ 0 7 (code f128) 486 (AxB a c b) (F3 a c b) (Avx a c b):=by
 unfold AY;simp only[F3,AOi];kernel_rfl
def AkV a l c b:=sT 203 [(0,.Fv [] Ag a),(1,Au l),(2,DW c),(7,dI b)] []
def ya(a:AOq)(l:AOE)(c:AOz)(b:Int)(m0:Bool):Ex×St:=xN 203 [(0,.Fv [] Ag a),(1,Au l),(2,DW c),(7,dI b),(17,dB m0)] []
theorem AzU a l c b:Xn nJ 0 5 (code f128) (pt 120) (AkV a l c b)=some (ya a l c b ((a.1==1)&&(((c.length:Int)==0)&&(AP a.2.1 0 (wI ((l.length:Int)-1)))))):=by
 refine .trans (b:=
 bif a.1==1 then
 bif (c.length:Int)==0 then
 some (ya a l c b (AP a.2.1 0 (wI ((l.length:Int)-1))))
 else
 some (ya a l c b false)
 else
 some (ya a l c b false)) (by kernel_rfl) ?_
 cases (a.1==1);rfl;cases ((c.length:Int)==0);rfl;rfl
def AxA a l c:=sT 203 [(0,.Fv [] Ag a),(1,Au l),(2,DW c),(7,dI 0)] []
def Avw a l c:=λ(b:Int)=>xN 203 [(0,.Fv [] Ag a),(1,Au l),(2,DW c),(7,dI b)] []
def F0(a:AOq)(l:AOE)(c:AOz):APJ Int:=
 bif decide ((c.length:Int)>0)then
 if(0:Int)<=(0:Int)/\(0:Int)<(c.length:Int)then
 some (c.getD 0 APr.zero)
 else none
 else
 some 0
theorem AzT a l c:AY nJ 0 4 (code f128) 14 (AxA a l c) (F0 a l c) (Avw a l c):=by
 unfold AY;simp only[F0,AOi];kernel_rfl
def Gy(a:AOq)(l:AOE)(c:AOz):APJ Int:=
 (F0 a l c).bind λb=>PD (AkV a l c b) (
 bif (a.1==1)&&(((c.length:Int)==0)&&(AP a.2.1 0 (wI ((l.length:Int)-1))))then
 if(0:Int)<=a.2.1/\a.2.1<(l.length:Int)then
 some (l.getD a.2.1.toNat Ad.zero).2.1
 else none
 else
 (F3 a c b).bind λj=>bif j then
 some a.2.2.2.2.1.1
 else
 PD (AkW a c b) (
 bif (a.1==3)&&(decide ((c.length:Int)>1))then
 (Nu c (c.length:Int) 0 0).bind λe=>some e
 else
 bif (c.length:Int) !=1 then
 some (-1)
 else
 PD (AkX a b) (
 bif (a.1==4)&&((decide (a.2.2.2.1>=0))&&((decide (a.2.2.2.1<=a.2.2.1))&&(decide (a.2.2.1<b))))then
 some (wI ((wI (a.2.2.1-a.2.2.2.1))+1))
 else
 PD (AkY a b) (
 bif bif (a.1==5)then(AP a.2.2.1 0 4096)else((a.1==6)&&(AP a.2.2.1 0 4096))then
 some (wI (b+a.2.2.1))
 else
 PD (AkZ a b) (
 bif bif (a.1==7)then(AP a.2.2.1 0 4096)else((a.1==8)&&(AP a.2.2.1 0 4096))then
 some b
 else
 PD (Ak0 a b) (
 bif (a.1==9)&&(AP a.2.2.1 1 4096)then
 some (wI (b*a.2.2.1))
 else
 some (-1)))))))
def AA0:=Cx [.p Ag,.d APx,.d APw] [⟨[.Fv [] Ag,.AB [] APx,.AB [] APw],[],Int,λp=>Gy p.1.1 p.1.2.1 p.1.2.2.1,λr=>(dI r,[])⟩]
theorem AdT:Aq prog 128 AA0:=Av (fn:=f128) ⟨⟨nJ,pk ⟨Ym,Aeb,trivial⟩,λ_ R K=>by
 simp(disch:=refine id ?_;kernel_rfl) only[Gy,AOj,Bc (AzT ..) (K:=A2 nJ f128 0 R K),Ft (AzU ..) (K:=A2 nJ f128 0 R K),Bc (AzV ..) (K:=A2 nJ f128 0 R K),Ft (AzW ..) (K:=A2 nJ f128 0 R K),Nu,AH (AzX _ _) (K:=A2 nJ f128 0 R K),Ft (AzY ..) (K:=A2 nJ f128 0 R K),Ft (AzZ ..) (K:=A2 nJ f128 0 R K),Ft (Az0 ..) (K:=A2 nJ f128 0 R K),Ft (Az1 ..) (K:=A2 nJ f128 0 R K)];kernel_rfl⟩,trivial⟩
abbrev E80:=eN [] {BS:=[(2,[0,3]),(3,[0,52])],DD:=[(2,[0]),(3,[0,3])]}
def Ak2 a:=sT 75 [(0,.Fv [] Ag a),(3,dB ((decide (a.1>=4))&&(decide (a.1<=9))))] []
def WZ(a:AOq)(m0:Bool):Ex×St:=xN 75 [(0,.Fv [] Ag a),(52,dB m0)] []
theorem Az3 a:Xn E80 0 3 (code f129) (pt 28) (Ak2 a)=some (WZ a (bif !((decide (a.1>=4))&&(decide (a.1<=9)))then((a.2.2.1 !=0)||(bif a.1 !=4 then((a.2.2.2.1 !=0)||((a.1 !=1)&&(a.2.1 !=0)))else((a.1 !=1)&&(a.2.1 !=0))))else(bif a.1 !=4 then((a.2.2.2.1 !=0)||((a.1 !=1)&&(a.2.1 !=0)))else((a.1 !=1)&&(a.2.1 !=0))))):=by
 refine .trans (b:=
 bif !((decide (a.1>=4))&&(decide (a.1<=9)))then
 bif a.2.2.1 !=0 then
 some (WZ a true)
 else
 bif a.1 !=4 then
 bif a.2.2.2.1 !=0 then
 some (WZ a true)
 else
 bif a.1 !=1 then
 some (WZ a (a.2.1 !=0))
 else
 some (WZ a false)
 else
 bif a.1 !=1 then
 some (WZ a (a.2.1 !=0))
 else
 some (WZ a false)
 else
 bif a.1 !=4 then
 bif a.2.2.2.1 !=0 then
 some (WZ a true)
 else
 bif a.1 !=1 then
 some (WZ a (a.2.1 !=0))
 else
 some (WZ a false)
 else
 bif a.1 !=1 then
 some (WZ a (a.2.1 !=0))
 else
 some (WZ a false)) (by kernel_rfl) ?_
 cases (!((decide (a.1>=4))&&(decide (a.1<=9))));cases (a.1 !=4);cases (a.1 !=1);rfl;rfl;cases (a.2.2.2.1 !=0);cases (a.1 !=1);rfl;rfl;rfl;cases (a.2.2.1 !=0);cases (a.1 !=4);cases (a.1 !=1);rfl;rfl;cases (a.2.2.2.1 !=0);cases (a.1 !=1);rfl;rfl;rfl;rfl
def Ak1 a:=sT 75 [(0,.Fv [] Ag a)] []
def AcJ(a:AOq)(m0:Bool):Ex×St:=xN 75 [(0,.Fv [] Ag a),(3,dB m0)] []
theorem Az2 a:Xn E80 0 2 (code f129) (pt 6) (Ak1 a)=some (AcJ a ((decide (a.1>=4))&&(decide (a.1<=9)))):=by
 refine .trans (b:=
 bif decide (a.1>=4)then
 some (AcJ a (decide (a.1<=9)))
 else
 some (AcJ a false)) (by kernel_rfl) ?_
 cases (decide (a.1>=4));rfl;rfl
def Em(a:AOq):Bool:=((!(bif !((decide (a.1>=4))&&(decide (a.1<=9)))then((a.2.2.1 !=0)||(bif a.1 !=4 then((a.2.2.2.1 !=0)||((a.1 !=1)&&(a.2.1 !=0)))else((a.1 !=1)&&(a.2.1 !=0))))else(bif a.1 !=4 then((a.2.2.2.1 !=0)||((a.1 !=1)&&(a.2.1 !=0)))else((a.1 !=1)&&(a.2.1 !=0)))))&&((a.1==2)||((a.2.2.2.2.1.1==0)&&((a.2.2.2.2.1.2.1.length:Int)==0))))
theorem U80 R a K:Sr E80 f129 R [.Fv [] Ag a] [] K=K (dB (Em a)) []:=by
 refine .trans (b:=
 PD (Ak1 a) (
 PD (Ak2 a) (
 bif bif (!((decide (a.1>=4))&&(decide (a.1<=9))))then((a.2.2.1 !=0)||(bif (a.1 !=4)then((a.2.2.2.1 !=0)||((a.1 !=1)&&(a.2.1 !=0)))else((a.1 !=1)&&(a.2.1 !=0))))else(bif (a.1 !=4)then((a.2.2.2.1 !=0)||((a.1 !=1)&&(a.2.1 !=0)))else((a.1 !=1)&&(a.2.1 !=0)))then
 K (dB false) []
 else
 bif a.1==2 then
 K (dB true) []
 else
 bif a.2.2.2.2.1.1==0 then
 K (dB ((a.2.2.2.2.1.2.1.length:Int)==0)) []
 else
 K (dB false) []))) (by
  simp(disch:=refine id ?_;kernel_rfl) only[Ft (Az2 _) (K:=A2 E80 f129 0 R K),Ft (Az3 _) (K:=A2 E80 f129 0 R K)];kernel_rfl) ?_
 unfold Em;cases (bif !((decide (a.1>=4))&&(decide (a.1<=9)))then((a.2.2.1 !=0)||(bif a.1 !=4 then((a.2.2.2.1 !=0)||((a.1 !=1)&&(a.2.1 !=0)))else((a.1 !=1)&&(a.2.1 !=0))))else(bif a.1 !=4 then((a.2.2.2.1 !=0)||((a.1 !=1)&&(a.2.1 !=0)))else((a.1 !=1)&&(a.2.1 !=0))));cases (a.1==2);cases (a.2.2.2.2.1.1==0);rfl;rfl;rfl;rfl
def AA1:=Cx [.p Ag] [⟨[.Fv [] Ag],[],Bool,λp=>some (Em p.1.1),λr=>(dB r,[])⟩]
theorem AdU:Aq prog 129 AA1:=Av ⟨⟨E80,pk trivial,λ_ _ _=>U80 ..⟩,trivial⟩
abbrev E81:=eN [] {A8:=[(2,[0,1,7,8])],BW:=[(2,[4])]}
def AxD a b c (z_:Int):=sT 19 [(0,YT a),(1,dB b),(7,dI c),(8,dI z_)] []
def Avz(a:AOA)(b:Bool)(c:Int):=Sum.elim (λ(d:Int)=>xR 19 [(4,dI d)] []) (λ(e:Unit)=>xE 0 19 [] [])
def Gp(a:AOA)(b:Bool)(c g:Int):APJ (Int⊕(Int⊕Unit)):=
 bif decide (g<c)then
 if 0<=g/\g<a.length then
 bif b==(a.getD g.toNat (Ty.zero .bool))then
 some (.inr (.inl g))
 else
 some (.inl (wI (g+1)))
 else none
 else
 some (.inr (.inr ()))
def DR a b c (z_:Int):=Gp a b c z_
def Sy a b c g:=fix (DR a b c) g
theorem Az4 a b c:A4 E81 0 2 (code f154) 26 (AxD a b c) (DR a b c) (Avz a b c):=by
 intro _;simp only[DR,Gp,AOi];kernel_rfl
def Ql(a:AOA)(b:Bool):APJ Int:=
 (Sy a b (a.length:Int) 0).bind (Sum.elim (λd=>some d) (λe=>some (-1)))
def ABj:=Cx [.d APy,.d .bool] [⟨[.AB [] APy,.AB [] .bool],[],Int,λp=>Ql p.1.1 p.1.2.1,λr=>(dI r,[])⟩]
theorem Aec:Aq prog 154 ABj:=Av (fn:=f154) ⟨⟨E81,pk trivial,λ_ R K=>by
 simp(disch:=refine id ?_;kernel_rfl) only[Ql,AOj,Sy,AH (Az4 _ _ _) (K:=A2 E81 f154 0 R K)];kernel_rfl⟩,trivial⟩
abbrev E82:=eN [(154,ABj)] {}
def H7(a:AOA)(b:Bool):APJ Bool:=
 (Ql a b).bind λc=>some (decide (c>=0))
def AA2:=Cx [.d APy,.d .bool] [⟨[.AB [] APy,.AB [] .bool],[],Bool,λp=>H7 p.1.1 p.1.2.1,λr=>(dB r,[])⟩]
theorem AdV:Aq prog 130 AA2:=Av (fn:=f130) ⟨⟨E82,pk ⟨Aec,trivial⟩,λ_ R K=>by
 simp only[H7,AOj];kernel_rfl⟩,trivial⟩
abbrev E83:=eN [(65,c65),(128,AA0),(129,AA1),(130,AA2)] {A8:=[(6,[0,3,6,7,8,29,30]),(13,[0,3,6,7,8,9,10,11,29,30,52,53,54])],BW:=[(6,{Bb:=[4,5,6,7,8],RF:=[(8,false,APy)]}),(13,{Bb:=[0,3,4,5,6,7,8,9,10,11,29,30],RF:=[(11,false,APw)]})],BS:=[(3,[0,3,6,22]),(21,[0,3,6,7,8,29,30,92])],aJ:=[(4,{Bb:=[0,3,6,7,8],X3:=true})],DD:=[(3,[0,3,6]),(21,[0,3,6,7,8,9,10,29,30])],dL:=[(4,[0,3,6])],jw:=[(0,.row [] 2 APr true)]}
def AxG a b c d (z_:Int×AOz×AOA):=sT 101 [(0,Au a),(3,Ar),(6,dI c),(7,.AG 1),(8,.AG 2),(29,dI d),(30,dI z_.1)] (qJ b z_.2.1 z_.2.2)
def AvC(a:AOE)(b:AOu) c (d:Int):=Sum.elim (λ(e:AO1)=>xR 101 [(4,.zs),(5,dB false),(6,dI c),(7,.AG 0),(8,YT e.1)] [AA e.2]) (λ(g:AO1)=>xE 0 101 [(6,dI c),(7,.AG 0),(8,YT g.1)] [AA g.2])
def AxF a c i d b j k l:=sT 101 [(0,Au a),(3,Ar),(6,dI c),(7,.AG 1),(8,.AG 2),(9,dI i),(10,.Fv [] Ag j),(29,dI d),(30,dI i)] (qJ b k l)
def AvB a c i d b (j:AOq) k l:=λ(n:Bool)=>xN 101 [(0,Au a),(3,Ar),(6,dI c),(7,.AG 1),(8,.AG 2),(29,dI d),(30,dI i),(92,dB n)] (qJ b k l)
def P8(a:AOE)(c i d:Int)(b:AOu)(j:AOq)(k:AOz)(l:AOA):APJ Bool:=
 bif !(Em j)then
 some true
 else
 if 0<=i/\i<k.length then
 some (!(AP (k.getD i.toNat APr.zero) 1 4096))
 else none
theorem Az8 a c i d b j k l:AY E83 0 21 (cd f101 500) 3710 (AxF a c i d b j k l) (P8 a c i d b j k l) (AvB a c i d b j k l):=by
 unfold AY;simp only[P8,AOi];kernel_rfl
def AxE a c i d b o q s t (z_:Int×AOA×AOz):=sT 101 [(0,Au a),(3,Ar),(6,dI c),(7,.AG 1),(8,.AG 2),(9,dI i),(10,.Fv [] Ag q),(11,.AG 3),(29,dI d),(30,dI i),(52,DW s),(53,dI t),(54,dI z_.1)] [.box (FY b),AA o,HD z_.2.1,AA z_.2.2]
def AvA a c i d b o q (s:AOz) (t:Int):=Sum.elim (λ(u:(AOz×AOA))=>xR 101 [(0,Au a),(3,Ar),(4,.zs),(5,dB false),(6,dI c),(7,.AG 1),(8,.AG 2),(9,dI i),(10,.Fv [] Ag q),(11,DW u.1),(29,dI d),(30,dI i)] (qJ b o u.2)) (λ(v:(AOz×AOA))=>xE 2 101 [(0,Au a),(3,Ar),(6,dI c),(7,.AG 1),(8,.AG 2),(9,dI i),(10,.Fv [] Ag q),(11,DW v.1),(29,dI d),(30,dI i)] (qJ b o v.2))
def MH(a:AOE)(c i d:Int)(b:AOu)(o:AOz)(q:AOq)(s:AOz)(t w:Int)(x:AOA)(y:AOz):APJ ((Int×AOA×AOz)⊕((AOz×AOA)⊕(AOz×AOA))):=
 bif decide (w<t)then
 if 0<=w/\w<s.length then
 bif !(AP (s.getD w.toNat APr.zero) 0 (wI (i-1)))then
 some (.inr (.inl (y,x)))
 else
 if(0:Int)<=(s.getD w.toNat APr.zero)/\(s.getD w.toNat APr.zero)<(o.length:Int)then
 if(0:Int)<=(s.getD w.toNat APr.zero)/\(s.getD w.toNat APr.zero)<(x.length:Int)then
 if 0<=w/\w<y.length then
 some (.inl (wI (w+1),x.set (s.getD w.toNat APr.zero).toNat true,y.set w.toNat (o.getD (s.getD w.toNat APr.zero).toNat APr.zero)))
 else none
 else none
 else none
 else none
 else
 some (.inr (.inr (y,x)))
def GC a c i d b o q s t (z_:Int×AOA×AOz):=MH a c i d b o q s t z_.1 z_.2.1 z_.2.2
def P7 a c i d b o q s t w x y:=fix (GC a c i d b o q s t) (w,x,y)
theorem Az7 a c i d b o q s t:A4 E83 0 13 (cd f101 500) 3706 (AxE a c i d b o q s t) (GC a c i d b o q s t) (AvA a c i d b o q s t):=by
 intro _;simp only[GC,MH,AOi];kernel_rfl
def MI(a:AOE)(b:AOu)(c d i:Int)(o:AOz)(a1:AOA):APJ ((Int×AOz×AOA)⊕(AO1⊕AO1)):=
 bif decide (i<d)then
 if 0<=i/\i<b.1.length then
 bif decide (((b.1.getD i.toNat Ag.zero).2.2.2.2.2.1.length:Int)>4096)then
 some (.inr (.inl (a1,o)))
 else
 if Ty.row APr=true/\(0:Int)<=((b.1.getD i.toNat Ag.zero).2.2.2.2.2.1.length:Int)/\((b.1.getD i.toNat Ag.zero).2.2.2.2.2.1.length:Int)<=((b.1.getD i.toNat Ag.zero).2.2.2.2.2.1.length:Int)/\((8:Nat):Int)*((b.1.getD i.toNat Ag.zero).2.2.2.2.2.1.length:Int)<=(281474976710656:Int)/\((b.1.getD i.toNat Ag.zero).2.2.2.2.2.1.length:Int)<=(9223372036854775807:Int)then
 (P7 a c i d b o (b.1.getD i.toNat Ag.zero) (b.1.getD i.toNat Ag.zero).2.2.2.2.2.1 ((b.1.getD i.toNat Ag.zero).2.2.2.2.2.1.length:Int) 0 a1 (List.replicate ((b.1.getD i.toNat Ag.zero).2.2.2.2.2.1.length:Int).toNat 0)).bind (Sum.elim (λu=>some (.inr (.inl (u.2,o)))) (λv=>(Gy (b.1.getD i.toNat Ag.zero) a v.1).bind λb1=>if 0<=i/\i<o.length then
 (P8 a c i d b (b.1.getD i.toNat Ag.zero) (o.set i.toNat b1) v.2).bind λn=>bif n then
 some (.inr (.inl (v.2,o.set i.toNat b1)))
 else
 some (.inl (wI (i+1),o.set i.toNat b1,v.2))
 else none))
 else none
 else none
 else
 some (.inr (.inr (a1,o)))
def GD a b c d (z_:Int×AOz×AOA):=MI a b c d z_.1 z_.2.1 z_.2.2
def T1 a b c d i o a1:=fix (GD a b c d) (i,o,a1)
theorem Az9 a b c d:A4 E83 0 6 (code f101) 250 (AxG a b c d) (GD a b c d) (AvC a b c d):=by
 intro _;simp(disch:=refine id ?_;kernel_rfl) only[GD,MI,AOi,P7,AH (Az7 _ _ _ _ _ _ _ _ _) (K:=KJ E83 0 6),Bc (Az8 ..) (K:=KJ E83 0 6)];kernel_rfl
def Ak4 a b c1:=sT 101 [(0,Au a),(3,Ar),(6,dI c1)] [.box (FY b)]
def yd a b c1:=λ(d1:(AOz×AOA))=>sT 101 [(0,Au a),(3,Ar),(6,dI c1),(7,.AG 1),(8,.AG 2)] (qJ b d1.1 d1.2)
def L9(a:AOE)(b:AOu)(c1:Int):APJ (AOz×AOA):=
 if Ty.row APr=true/\(0:Int)<=c1/\c1<=c1/\((8:Nat):Int)*c1<=(281474976710656:Int)/\c1<=(9223372036854775807:Int)then
 if Ty.row .bool=true/\(0:Int)<=c1/\c1<=c1/\((1:Nat):Int)*c1<=(281474976710656:Int)/\c1<=(9223372036854775807:Int)then
 some (List.replicate c1.toNat 0,List.replicate c1.toNat false)
 else none
 else none
theorem Az6(a:AOE)(b:AOu)(c1:Int):SJ E83 0 4 (code f101) 30 (Ak4 a b c1) (L9 a b c1) (yd a b c1):=by
 unfold SJ;have h:yK E83 0 4 (code f101) (pt 30) (Ak4 a b c1) =
 if Ty.row APr=true/\(0:Int)<=c1/\c1<=c1/\((8:Nat):Int)*c1<=(281474976710656:Int)/\c1<=(9223372036854775807:Int)then
 if Ty.row .bool=true/\(0:Int)<=c1/\c1<=c1/\((1:Nat):Int)*c1<=(281474976710656:Int)/\c1<=(9223372036854775807:Int)then
 (((if Ty.row APr=true/\(0:Int)<=c1/\c1<=c1/\((8:Nat):Int)*c1<=(281474976710656:Int)/\c1<=(9223372036854775807:Int)then
 if Ty.row .bool=true/\(0:Int)<=c1/\c1<=c1/\((1:Nat):Int)*c1<=(281474976710656:Int)/\c1<=(9223372036854775807:Int)then
 Jq (yd a b c1 (List.replicate c1.toNat 0,List.replicate c1.toNat false))
 else none
 else none).bind λ_=>if Ty.row .bool=true/\(0:Int)<=c1/\c1<=c1/\((1:Nat):Int)*c1<=(281474976710656:Int)/\c1<=(9223372036854775807:Int)then
 if Ty.row APr=true/\(0:Int)<=c1/\c1<=c1/\((8:Nat):Int)*c1<=(281474976710656:Int)/\c1<=(9223372036854775807:Int)then
 Jq (yd a b c1 (List.replicate c1.toNat 0,List.replicate c1.toNat false))
 else none
 else none).bind λ_=>some (yd a b c1 (List.replicate c1.toNat 0,List.replicate c1.toNat false)))
 else none
 else none:=by kernel_rfl
 rw[h];unfold L9;simp only[AOi,mS,mO];clear h;by_cases Hf:Ty.row APr=true/\(0:Int)<=c1/\c1<=c1/\((8:Nat):Int)*c1<=(281474976710656:Int)/\c1<=(9223372036854775807:Int)
 ·rw[AMo Hf,AMo Hf];by_cases PQ:Ty.row .bool=true/\(0:Int)<=c1/\c1<=c1/\((1:Nat):Int)*c1<=(281474976710656:Int)/\c1<=(9223372036854775807:Int)
  ·rw[AMo PQ,AMo PQ];simp only[AMo Hf,AMo PQ,AMR,AL6,Jq,HF]
  ·simp only[AMo Hf,AMR,AMp PQ]
 ·simp only[AMR,AMp Hf]
def Ak3 a (b:AOu):=sT 101 [(0,Au a),(3,Ar),(6,dI (b.1.length:Int))] [.box (FY b)]
def AcK(a:AOE)(b:AOu)(m0:Bool):Ex×St:=xN 101 [(0,Au a),(3,Ar),(6,dI (b.1.length:Int)),(22,dB m0)] [.box (FY b)]
theorem Az5 a b:Xn E83 0 3 (code f101) (pt 28) (Ak3 a b)=some (AcK a b ((decide ((b.1.length:Int)<1))||(decide ((b.1.length:Int)>400)))):=by
 refine .trans (b:=
 bif decide ((b.1.length:Int)<1)then
 some (AcK a b true)
 else
 some (AcK a b (decide ((b.1.length:Int)>400)))) (by kernel_rfl) ?_
 cases (decide ((b.1.length:Int)<1));rfl;rfl
def Sf(a:AOE)(b:AOu):APJ (Bool×AOz):=
 PD (Ak3 a b) (
 bif (decide ((b.1.length:Int)<1))||(decide ((b.1.length:Int)>400))then
 some (false,([]:AOz))
 else
 (L9 a b (b.1.length:Int)).bind λd1=>(T1 a b (b.1.length:Int) (b.1.length:Int) 0 d1.1 d1.2).bind (Sum.elim (λe=>some (false,([]:AOz))) (λg=>if(0:Int)<=(0:Int)/\(0:Int)<=(wI ((b.1.length:Int)-1))/\(wI ((b.1.length:Int)-1))<=(g.1.length:Int)then
 (H7 ((g.1.take (wI ((b.1.length:Int)-1)).toNat).drop 0) false).bind λe1=>some (!e1,g.2)
 else none)))
def AAC:=Cx [.d APx,.d An] [⟨[.AB [] APx,.AB [] An],[],Bool×AOz,λp=>Sf p.1.1 p.1.2.1,λr=>(.cons QO (.cons (dB r.1) .nil),[AA r.2])⟩]
theorem Adu:Aq prog 101 AAC:=Av (fn:=f101) ⟨⟨E83,pk ⟨Ym,AdT,AdU,AdV,trivial⟩,λ_ R K=>by
 simp(disch:=refine id ?_;kernel_rfl) only[Sf,AOj,Ft (Az5 ..) (K:=A2 E83 f101 0 R K),W2 (Az6 ..) (K:=A2 E83 f101 0 R K),T1,AH (Az9 _ _ _ _) (K:=A2 E83 f101 0 R K)];kernel_rfl⟩,trivial⟩
abbrev E84:=eN [(101,AAC)] {}
def EK(a:AOE)(b:AOu):APJ Int:=
 (Sf a b).bind λc=>bif !c.1 then
 some (-1)
 else
 if 0<=(wI ((c.2.length:Int)-1))/\(wI ((c.2.length:Int)-1))<c.2.length then
 some (c.2.getD (wI ((c.2.length:Int)-1)).toNat APr.zero)
 else none
def c67:=Cx [.d APx,.d An] [⟨[.AB [] APx,.AB [] An],[],Int,λp=>EK p.1.1 p.1.2.1,λr=>(dI r,[])⟩]
theorem yA:Aq prog 67 c67:=Av (fn:=f67) ⟨⟨E84,pk ⟨Adu,trivial⟩,λ_ R K=>by
 simp only[EK,AOj];kernel_rfl⟩,trivial⟩
noncomputable def ABk:Va.Callee:=Zz 88 APs 8
noncomputable abbrev ABI:Gx:={DU:=DU,fns:=N3 [],fi:={}}
theorem Ajt:IR Tryz.prog ABI:=(pk (l:=[]) trivial)
theorem Aed:Aq Tryz.prog 155 ABk:=
 cK (fn:=Tryz.f155) Ajt (by kernel_rfl) (by kernel_rfl) rfl rfl rfl ⟨rfl,rfl,rfl⟩ ⟨rfl,rfl,rfl⟩ (ti:=⟨.sl APs,[],88,24,0,0,false⟩) (by kernel_rfl) rfl (by kernel_rfl) (λxs=>by kernel_rfl) (λxs=>by kernel_rfl)
  λxs h=>by
   have h0:ev ABI 0 (sub (code Tryz.f155) [1,1]) (Ex×St) ⟨[.AB [] APB xs,.un 0,.zs,.AB [] APB xs,.bool false,.un 0,.un 0,.un 0],[]⟩ Q3=if xs.length*8<=140737488355328 then some (.ret,⟨[.AB [] APB xs,.un 0,.AG 0,.AB [] APB xs,.bool false,.zs,.AB [] APB xs,.AG 0],[Da xs]⟩)else none:=by kernel_rfl
   exact h0.trans (AMo h)
abbrev E85:=eN [(155,ABk)] {}
def De(a:AOr):APJ AOW:=
 if a.2.1.length*8<=140737488355328 then
 some (a.1,a.2.1)
 else none
def AiA:=Cx [.d Ah] [⟨[.AB [] Ah],[],AOW,λp=>De p.1.1,λr=>(.pr (dI r.1) Q5,[Da r.2])⟩]
theorem gP:Aq prog 132 AiA:=Av (fn:=f132) ⟨⟨E85,pk ⟨Aed,trivial⟩,λ_ R K=>by
 simp only[De,AOj];kernel_rfl⟩,trivial⟩
abbrev E86:=eN [] {}
def AK(a:Int)(b:AOz):AO9:=(-1,0,a,a,b)
def Ary:=Cx [.WH] [⟨[.pr (.AB [] APr) (.pr (.k QO) (.k .u))],[.row 88 .Aw APs],AO9,λp=>some (AK p.1.1.1 p.2.1),λr=>(.pr (dI r.1) (.pr (dI r.2.1) (.pr (dI r.2.2.1) (.pr (.pr (dI r.2.2.2.1) Q5) .u))),[Da r.2.2.2.2])⟩]
theorem rH:Aq prog 131 Ary:=Av (fn:=f131) ⟨⟨E86,pk trivial,λ_ _ _=>by kernel_rfl⟩,trivial⟩
abbrev E87:=eN [] {}
def DG(a b:AOo):Bool:=((a.1==b.1)&&((a.1==(-1))||((wI (a.2.1+a.2.2.1))==b.2.1)))
theorem U87 R a b K:Sr E87 f156 R [Kn a,Kn b] [] K=K (dB (DG a b)) []:=by
 refine .trans (b:=
 bif a.1==b.1 then
 bif a.1==(-1)then
 K (dB true) []
 else
 K (dB ((wI (a.2.1+a.2.2.1))==b.2.1)) []
 else
 K (dB false) []) (by kernel_rfl) ?_
 unfold DG;cases (a.1==b.1);rfl;cases (a.1==(-1));rfl;rfl
def ABl:=Cx [.d Ae,.d Ae] [⟨[.AB [] Ae,.AB [] Ae],[],Bool,λp=>some (DG p.1.1 p.1.2.1),λr=>(dB r,[])⟩]
theorem Aee:Aq prog 156 ABl:=Av ⟨⟨E87,pk trivial,λ_ _ _=>U87 ..⟩,trivial⟩
end
end Go.Proofs.X
