import Derived.KernelRfl
import Derived.Test.YtlohhmmaibiimaaGreatK6
set_option linter.unusedVariables false
set_option linter.unusedSimpArgs false
namespace Go.Proofs.X
open Go Go.Va Go.Proofs.Tryz
set_option maxRecDepth 100000
noncomputable section
abbrev E96:Bd:=⟨A7,Az [(206,Avt),(207,Avu)],{A9:=[(3,{Ap:=[0,3,6,18,19]}),(8,{Ap:=[0,3,6,7,8,9,18,19,35,36,37]})],BQ:=[(3,{Ap:=[4,5,6],Rj:=[(6,false,AIp)]}),(8,{Ap:=[0,3,6,7,8,9,18,19],Rj:=[(9,false,AIp)]})],dT:=[(0,.row [] 238 Ae true)]}⟩
def ArW a b c (z_:Int×AH9):=sT 71 [(0,dD AId a),(3,.ptr 0 0 [] 0),(6,.Ak 1),(18,dI c),(19,dI z_.1)] [.box (dD Ar b),.row 121 (.sh []) AIe z_.2]
def ApP(a:AHY)(b:AHR)(c:Int):=Sum.elim (λ(d:AH9)=>(Ex.ret,sT 71 [(4,.zs),(5,dB false),(6,dD AIp d)] [])) (λ(e:AH9)=>(Ex.exit 0,sT 71 [(6,dD AIp e)] []))
def ArV a g c b i j k l (z_:Int×AH9):=sT 71 [(0,dD AId a),(3,.ptr 0 0 [] 0),(6,.Ak 1),(7,dI g),(8,.Eh [] Ag j),(9,.Ak 2),(18,dI c),(19,dI g),(35,dD AIf k),(36,dI l),(37,dI z_.1)] [.box (dD Ar b),.row 121 (.sh []) AIe i,.row 121 (.sh []) AIe z_.2]
def ApO a g c b i j (k:AHT) (l:Int):=λ(n:AH9)=>(Ex.exit 2,sT 71 [(0,dD AId a),(3,.ptr 0 0 [] 0),(6,.Ak 1),(7,dI g),(8,.Eh [] Ag j),(9,dD AIp n),(18,dI c),(19,dI g)] [.box (dD Ar b),.row 121 (.sh []) AIe i])
def KE(a:AHY)(g c:Int)(b:AHR)(i:AH9)(j:AHL)(k:AHT)(l o:Int)(q:AH9):Option ((Int×AH9)⊕AH9):=
 bif decide (o<l)then
 if 0<=o/\o<k.length then
 if(0:Int)<=(k.getD o.toNat AIa.zero)/\(k.getD o.toNat AIa.zero)<(i.length:Int)then
 if 0<=o/\o<q.length then
 some (.inl (wI (o+1),q.set o.toNat (i.getD (k.getD o.toNat AIa.zero).toNat AIe.zero)))
 else none
 else none
 else none
 else
 some (.inr q)
def ER a g c b i j k l (z_:Int×AH9):=KE a g c b i j k l z_.1 z_.2
def Nt a g c b i j k l o q:=fix (ER a g c b i j k l) (o,q)
theorem Aux a g c b i j k l:A5 E96 0 8 (cd f154 116) 1850 (ArV a g c b i j k l) (ER a g c b i j k l) (ApO a g c b i j k l):=by
 intro _;simp only[ER,KE,AHE];kernel_rfl
def O8(a:AHY)(b:AHR)(c g:Int)(i:AH9):Option ((Int×AH9)⊕(AH9⊕AH9)):=
 bif decide (g<c)then
 if 0<=g/\g<b.1.length then
 if Ty.row AIe=true/\(0:Int)<=((b.1.getD g.toNat Ag.zero).2.2.2.2.2.1.length:Int)/\((b.1.getD g.toNat Ag.zero).2.2.2.2.2.1.length:Int)<=((b.1.getD g.toNat Ag.zero).2.2.2.2.2.1.length:Int)/\((24:Nat):Int)*((b.1.getD g.toNat Ag.zero).2.2.2.2.2.1.length:Int)<=(281474976710656:Int)/\((b.1.getD g.toNat Ag.zero).2.2.2.2.2.1.length:Int)<=(9223372036854775807:Int)then
 (Nt a g c b i (b.1.getD g.toNat Ag.zero) (b.1.getD g.toNat Ag.zero).2.2.2.2.2.1 ((b.1.getD g.toNat Ag.zero).2.2.2.2.2.1.length:Int) 0 (List.replicate ((b.1.getD g.toNat Ag.zero).2.2.2.2.2.1.length:Int).toNat ([]:AHZ))).bind λn=>(D7 (b.1.getD g.toNat Ag.zero) a n).bind λs=>if 0<=g/\g<i.length then
 if 0<=g/\g<(i.set g.toNat s).length then
 bif decide ((((i.set g.toNat s).getD g.toNat AIe.zero).length:Int)>2000)then
 some (.inr (.inl (i.set g.toNat s)))
 else
 some (.inl (wI (g+1),i.set g.toNat s))
 else none
 else none
 else none
 else none
 else
 some (.inr (.inr i))
def KF a b c (z_:Int×AH9):=O8 a b c z_.1 z_.2
def Nu a b c g i:=fix (KF a b c) (g,i)
theorem Auy a b c:A5 E96 0 3 (code f154) 58 (ArW a b c) (KF a b c) (ApP a b c):=by
 intro _;simp only[KF,O8,AHE];simp(disch:=refine id ?_;kernel_rfl) only[Nt,AF (Aux _ _ _ _ _ _ _ _) (K:=Ld E96 0 3)];kernel_rfl
def FQ(a:AHY)(b:AHR):Option (Bool×AHZ):=
 if Ty.row AIe=true/\(0:Int)<=(b.1.length:Int)/\(b.1.length:Int)<=(b.1.length:Int)/\((24:Nat):Int)*(b.1.length:Int)<=(281474976710656:Int)/\(b.1.length:Int)<=(9223372036854775807:Int)then
 (Nu a b (b.1.length:Int) 0 (List.replicate (b.1.length:Int).toNat ([]:AHZ))).bind (Sum.elim (λd=>some (false,([]:AHZ))) (λe=>if 0<=(wI ((e.length:Int)-1))/\(wI ((e.length:Int)-1))<e.length then
 (IG (e.getD (wI ((e.length:Int)-1)).toNat AIe.zero)).bind λt=>some (true,t)
 else none))
 else none
theorem U96 R a b K:AW E96 f154 R [dD AId a,dD Ar b] [] K=(FQ a b).bind λr=>K (.cons (.Ak 0) (.cons (dB r.1) .nil)) [.row 238 .Ai Ae r.2]:=by
 simp only[FQ,AHF];simp(disch:=refine id ?_;kernel_rfl) only[Nu,AF (Auy _ _ _) (K:=A4 E96 f154 0 R K)];kernel_rfl
def Au0:=Cx [.d AId,.d Ar] [⟨[.AA [] AId,.AA [] Ar],[],Bool×AHZ,λp=>FQ p.1.1 p.1.2.1,λr=>(.cons (.Ak 0) (.cons (dB r.1) .nil),[.row 238 .Ai Ae r.2])⟩]
theorem zy:As prog 154 Au0:=Aw ⟨⟨E96,pk ⟨z7,z8,trivial⟩,λ_ _ _=>U96 ..⟩,trivial⟩
abbrev E97:Bd:=⟨A7,Az [(154,Au0)],{Ai:=true,A9:=[(3,{Ap:=[0,6,16,17,18]})],BQ:=[(3,{Ap:=[4,5,6]})],BP:=[(8,{Ap:=[0,6,7,9,11,16,17,18,42]})],D2:=[(8,[0,6,7,9,10,11,12,16,17,18])],dT:=[(0,.row [] 145 (.Au AIe (.Au AIe .unit)) true)]}⟩
def ArX a b c (z_:Int×(List (AHZ×(AHZ×Unit)))):=sT 51 [(0,dD AId a),(6,.Ak 0),(16,dD AIi b),(17,dI c),(18,dI z_.1)] [.row 145 .Ai (.Au AIe (.Au AIe .unit)) z_.2]
def ApQ(a:AHY)(b:AH0)(c:Int):=Sum.elim (λ(d:(List (AHZ×(AHZ×Unit))))=>(Ex.ret,sT 51 [(4,.zs),(5,dB false),(6,.Ak 0)] [.row 145 .Ai (.Au AIe (.Au AIe .unit)) d])) (λ(e:(List (AHZ×(AHZ×Unit))))=>(Ex.exit 0,sT 51 [(6,.Ak 0)] [.row 145 .Ai (.Au AIe (.Au AIe .unit)) e]))
def yL a g (i:(Bool×AHZ)) (j:(Bool×AHZ)) b c k:=sT 51 [(0,dD AId a),(6,.Ak 0),(7,dI g),(9,.Ak 1),(10,dB i.1),(11,.Ak 2),(12,dB j.1),(16,dD AIi b),(17,dI c),(18,dI g)] [.row 145 .Ai (.Au AIe (.Au AIe .unit)) k,.row 238 .Ai Ae i.2,.row 238 .Ai Ae j.2]
def yb(a:AHY)(g:Int)(i j:Bool×AHZ)(b:AH0)(c:Int)(k:List (AHZ×(AHZ×Unit)))(m0:Bool):Ex×St:=(.normal,sT 51 [(0,dD AId a),(6,.Ak 0),(7,dI g),(9,.Ak 1),(11,.Ak 2),(16,dD AIi b),(17,dI c),(18,dI g),(42,dB m0)] [.row 145 .Ai (.Au AIe (.Au AIe .unit)) k,.row 238 .Ai Ae i.2,.row 238 .Ai Ae j.2])
theorem Auz a g i j b c k:MY E97 0 8 (cd f83 116) (pt 924) (yL a g i j b c k)=some (yb a g i j b c k ((!i.1)||(!j.1))):=by
 have h0:MY E97 0 8 (cd f83 116) (pt 924) (yL a g i j b c k) =
 bif !i.1 then
 some (yb a g i j b c k true)
 else
 some (yb a g i j b c k (!j.1)):=by kernel_rfl
 rw[h0];cases (!i.1)
 ·rfl
 ·rfl
def Rq(a:AHY)(b:AH0)(c g:Int)(k:List (AHZ×(AHZ×Unit))):Option ((Int×(List (AHZ×(AHZ×Unit))))⊕((List (AHZ×(AHZ×Unit)))⊕(List (AHZ×(AHZ×Unit))))):=
 bif decide (g<c)then
 if 0<=g/\g<b.length then
 (FQ a (b.getD g.toNat Af.zero).2.2.1).bind λi=>(FQ a (b.getD g.toNat Af.zero).2.2.2.1).bind λj=>P2 (yL a g i j b c k) (
 bif (!i.1)||(!j.1)then
 some (.inr (.inl k))
 else
 if 0<=g/\g<k.length then
 some (.inl (wI (g+1),k.set g.toNat (i.2,j.2,())))
 else none)
 else none
 else
 some (.inr (.inr k))
def Nw a b c (z_:Int×(List (AHZ×(AHZ×Unit)))):=Rq a b c z_.1 z_.2
def TM a b c g k:=fix (Nw a b c) (g,k)
theorem AuA a b c:A5 E97 0 3 (code f83) 58 (ArX a b c) (Nw a b c) (ApQ a b c):=by
 intro _;simp only[Nw,Rq,AHE];simp(disch:=refine id ?_;kernel_rfl) only[F4 (Auz ..) (K:=Ld E97 0 3)];kernel_rfl
def Ln(a:AHY)(b:AH0):Option (Bool×(List (AHZ×(AHZ×Unit)))):=
 if Ty.row (.Au AIe (.Au AIe .unit))=true/\(0:Int)<=(b.length:Int)/\(b.length:Int)<=(b.length:Int)/\((48:Nat):Int)*(b.length:Int)<=(281474976710656:Int)/\(b.length:Int)<=(9223372036854775807:Int)then
 (TM a b (b.length:Int) 0 (List.replicate (b.length:Int).toNat (([]:AHZ),([]:AHZ),()))).bind (Sum.elim (λd=>some (false,([]:List (AHZ×(AHZ×Unit))))) (λe=>some (true,e)))
 else none
theorem U97 R a b K:AW E97 f83 R [dD AId a,dD AIi b] [] K=(Ln a b).bind λr=>K (.cons (.Ak 0) (.cons (dB r.1) .nil)) [.row 145 .Ai (.Au AIe (.Au AIe .unit)) r.2]:=by
 simp only[Ln,AHF];simp(disch:=refine id ?_;kernel_rfl) only[TM,AF (AuA _ _ _) (K:=A4 E97 f83 0 R K)];kernel_rfl
def c83:=Cx [.d AId,.d AIi] [⟨[.AA [] AId,.AA [] AIi],[],Bool×(List (AHZ×(AHZ×Unit))),λp=>Ln p.1.1 p.1.2.1,λr=>(.cons (.Ak 0) (.cons (dB r.1) .nil),[.row 145 .Ai (.Au AIe (.Au AIe .unit)) r.2])⟩]
theorem jJ:As prog 83 c83:=Aw ⟨⟨E97,pk ⟨zy,trivial⟩,λ_ _ _=>U97 ..⟩,trivial⟩
abbrev E98:Bd:=⟨A7,Az [(83,c83),(129,AuP)],{Ai:=true}⟩
def Hs(a:AHY)(b:AH0):Option Bool:=
 (G8 a b).bind λc=>bif !c then
 some false
 else
 (Ln a b).bind λd=>some d.1
theorem U98 R a b K:AW E98 f58 R [dD AId a,dD AIi b] [] K=(Hs a b).bind λr=>K (dB r) []:=by
 simp only[Hs,AHF];kernel_rfl
def c58:=Cx [.d AId,.d AIi] [⟨[.AA [] AId,.AA [] AIi],[],Bool,λp=>Hs p.1.1 p.1.2.1,λr=>(dB r,[])⟩]
theorem AeO:As prog 58 c58:=Aw ⟨⟨E98,pk ⟨jJ,zl,trivial⟩,λ_ _ _=>U98 ..⟩,trivial⟩
abbrev E99:Bd:=⟨A7,Az [],{A9:=[(3,{Ap:=[3,7,8,9],B6:=[(3,false,.row [] 58 Af false)]})],BQ:=[(3,{Ap:=[3]})],BP:=[(7,{Ap:=[3,7,8,9],B6:=[(3,false,.row [] 58 Af false)]})],D2:=[(7,[3,7,8,9])]}⟩
def ArZ a b (z_:Int×AH0):=sT 21 [(3,.Ak 0),(7,dD AIi a),(8,dI b),(9,dI z_.1)] [.row 58 (.sh []) Af z_.2]
def ApS(a:AH0)(b:Int):=λ(c:AH0)=>(Ex.exit 0,sT 21 [(3,.Ak 0)] [.row 58 (.sh []) Af c])
def ArY a b d e:=sT 21 [(3,.Ak 0),(7,dD AIi a),(8,dI b),(9,dI d)] [.row 58 (.sh []) Af e]
def ApR a b d (e:AH0):=λ(g:AH0)=>(Ex.normal,sT 21 [(3,.Ak 0),(7,dD AIi a),(8,dI b),(9,dI d)] [.row 58 (.sh []) Af g])
def Ji(a:AH0)(b d:Int)(e:AH0):Option AH0:=
 if 0<=d/\d<a.length then
 bif (a.getD d.toNat Af.zero).2.1 then
 if(e.length+([a.getD d.toNat Af.zero]:AH0).length)*64<=140737488355328 then
 some (e++([a.getD d.toNat Af.zero]:AH0))
 else none
 else
 some e
 else none
theorem AuB a b d e:AZ E99 0 7 (cd f164 116) 14 (ArY a b d e) (Ji a b d e) (ApR a b d e):=by
 unfold AZ;simp only[Ji,AHE];kernel_rfl
def Hq(a:AH0)(b d:Int)(e:AH0):Option ((Int×AH0)⊕AH0):=
 bif decide (d<b)then
 (Ji a b d e).bind λg=>some (.inl (wI (d+1),g))
 else
 some (.inr e)
def C5 a b (z_:Int×AH0):=Hq a b z_.1 z_.2
def Oe a b d e:=fix (C5 a b) (d,e)
theorem AuC a b:A5 E99 0 3 (code f164) 58 (ArZ a b) (C5 a b) (ApS a b):=by
 intro _;simp only[C5,Hq,AHE];simp(disch:=refine id ?_;kernel_rfl) only[Bg (AuB ..) (K:=Ld E99 0 3)];kernel_rfl
def Ha(a:AH0):Option AH0:=
 (Oe a (a.length:Int) 0 ([]:AH0)).bind λc=>some c
theorem U99 R a K:AW E99 f164 R [dD AIi a] [] K=(Ha a).bind λr=>K (.Ak 0) [.row 58 (.sh []) Af r]:=by
 simp only[Ha,AHF];simp(disch:=refine id ?_;kernel_rfl) only[Oe,AF (AuC _ _) (K:=A4 E99 f164 0 R K)];kernel_rfl
def Au6:=Cx [.d AIi] [⟨[.AA [] AIi],[],AH0,λp=>Ha p.1.1,λr=>(.Ak 0,[.row 58 (.sh []) Af r])⟩]
theorem zE:As prog 164 Au6:=Aw ⟨⟨E99,pk trivial,λ_ _ _=>U99 ..⟩,trivial⟩
abbrev Ans:Bd:=⟨A7,Az [],{Ai:=true}⟩
def OE(a:AHY):Option AH6:=
 if Ty.row AIf=true/\(0:Int)<=(a.length:Int)/\(a.length:Int)<=(a.length:Int)/\((24:Nat):Int)*(a.length:Int)<=(281474976710656:Int)/\(a.length:Int)<=(9223372036854775807:Int)then
 some (List.replicate (a.length:Int).toNat ([]:AHT))
 else none
theorem AyN R a K:AW Ans f165 R [dD AId a] [] K=(OE a).bind λr=>K (.pr (.Ak 0) .u) [.row 72 .Ai AIf r]:=by
 simp only[OE,AHF];kernel_rfl
def Au7:=Cx [.d AId] [⟨[.AA [] AId],[],AH6,λp=>OE p.1.1,λr=>(.pr (.Ak 0) .u,[.row 72 .Ai AIf r])⟩]
theorem zF:As prog 165 Au7:=Aw ⟨⟨Ans,pk trivial,λ_ _ _=>AyN ..⟩,trivial⟩
abbrev u5:Bd:=⟨A7,Az [(59,c59)],{Ai:=true,A9:=[(4,{Ap:=[0,17,18,19]}),(8,{Ap:=[0,5,7,17,18,19,24,25,26]})],BQ:=[(4,{Ap:=[4]}),(8,{Ap:=[0,4,17,18,19]})]}⟩
def Aiz a b c (z_:Int):=sT 44 [(0,dD AId a),(17,dD AIn b),(18,dI c),(19,dI z_)] []
def Ahi(a:AHY)(b:AH6)(c:Int):=Sum.elim (λ(d:Unit)=>(Ex.ret,sT 44 [(4,dB false)] [])) (λ(e:Unit)=>(Ex.exit 0,sT 44 [] []))
def Aiy a g b c i j (z_:Int×Int):=sT 44 [(0,dD AId a),(5,dI g),(7,dI z_.1),(17,dD AIn b),(18,dI c),(19,dI g),(24,dD AIf i),(25,dI j),(26,dI z_.2)] []
def Ahh a g b c (i:AHT) (j:Int):=Sum.elim (λ(k:Unit)=>(Ex.ret,sT 44 [(0,dD AId a),(4,dB false),(17,dD AIn b),(18,dI c),(19,dI g)] [])) (λ(l:Unit)=>(Ex.exit 2,sT 44 [(0,dD AId a),(17,dD AIn b),(18,dI c),(19,dI g)] []))
def LY(a:AHY)(g:Int)(b:AH6)(c:Int)(i:AHT)(j n o:Int):Option ((Int×Int)⊕(Unit⊕Unit)):=
 bif decide (o<j)then
 if 0<=o/\o<i.length then
 if 0<=g/\g<a.length then
 bif !(AK (i.getD o.toNat AIa.zero) (wI (n+1)) (wI ((a.getD g.toNat Ad.zero).2.1-1)))then
 some (.inr (.inl ()))
 else
 some (.inl (i.getD o.toNat AIa.zero,wI (o+1)))
 else none
 else none
 else
 some (.inr (.inr ()))
def Ga a g b c i j (z_:Int×Int):=LY a g b c i j z_.1 z_.2
def Sq a g b c i j n o:=fix (Ga a g b c i j) (n,o)
theorem AjN a g b c i j:A5 u5 0 8 (cd f202 116) 462 (Aiy a g b c i j) (Ga a g b c i j) (Ahh a g b c i j):=by
 intro _;simp only[Ga,LY,AHE];kernel_rfl
def LZ(a:AHY)(b:AH6)(c g:Int):Option (Int⊕(Unit⊕Unit)):=
 bif decide (g<c)then
 if 0<=g/\g<b.length then
 (Sq a g b c (b.getD g.toNat AIf.zero) ((b.getD g.toNat AIf.zero).length:Int) 0 0).bind (Sum.elim (λk=>some (.inr (.inl ()))) (λl=>some (.inl (wI (g+1)))))
 else none
 else
 some (.inr (.inr ()))
def IH a b c (z_:Int):=LZ a b c z_
def Sr a b c g:=fix (IH a b c) g
theorem AjO a b c:A5 u5 0 4 (code f202) 58 (Aiz a b c) (IH a b c) (Ahi a b c):=by
 intro _;simp only[IH,LZ,AHE];simp(disch:=refine id ?_;kernel_rfl) only[Sq,AF (AjN _ _ _ _ _ _) (K:=Ld u5 0 4)];kernel_rfl
def OD(a:AHY)(q:AHN):Option Bool:=
 bif (q.1.length:Int) !=(a.length:Int)then
 some false
 else
 (Sr a q.1 (q.1.length:Int) 0).bind (Sum.elim (λd=>some false) (λe=>some true))
theorem AyO R a q K:AW u5 f202 R [dD AId a,dD Aj q] [] K=(OD a q).bind λr=>K (dB r) []:=by
 simp only[OD,AHF];simp(disch:=refine id ?_;kernel_rfl) only[Sr,AF (AjO _ _ _) (K:=A4 u5 f202 0 R K)];kernel_rfl
def Avq:=Cx [.d AId,.d Aj] [⟨[.AA [] AId,.AA [] Aj],[],Bool,λp=>OD p.1.1 p.1.2.1,λr=>(dB r,[])⟩]
theorem zZ:As prog 202 Avq:=Aw ⟨⟨u5,pk ⟨Ws,trivial⟩,λ_ _ _=>AyO ..⟩,trivial⟩
abbrev Ant:Bd:=⟨A7,Az [(113,Aln),(202,Avq)],{Ai:=true}⟩
def OA(a:AHY)(b:AHN):Option Bool:=
 (Jf a).bind λc=>bif c then
 (OD a b).bind λd=>some d
 else
 some false
theorem AyP R a b K:AW Ant f146 R [dD AId a,dD Aj b] [] K=(OA a b).bind λr=>K (dB r) []:=by
 simp only[OA,AHF];kernel_rfl
def AuW:=Cx [.d AId,.d Aj] [⟨[.AA [] AId,.AA [] Aj],[],Bool,λp=>OA p.1.1 p.1.2.1,λr=>(dB r,[])⟩]
theorem zt:As prog 146 AuW:=Aw ⟨⟨Ant,pk ⟨mJ,zZ,trivial⟩,λ_ _ _=>AyP ..⟩,trivial⟩
abbrev AdX:Bd:=⟨A7,Az [],{Ai:=true,AfN:=[(39,4)],BP:=[(1,{Ap:=[0,1,2,32]})],D2:=[(1,[0,1,2])],TH:=[.mv 0 [3],.AH 3]}⟩
def AiA(a:Int) b c d e g:=sT 54 [(0,.ptr 0 a [] 0),(1,dI b),(2,dI c)] [.box (.pr (dD AId d) (.pr (.Ak 1) (.pr (.mp 2) (.pr (.Ak 3) .u)))),.row 104 .Ai AIg e,.AH,.row 253 .Ai Aa g]
def Ahj(a:Int) b c d e g:=λ(i:Bool)=>(Ex.normal,sT 54 [(0,.ptr 0 a [] 0),(1,dI b),(2,dI c),(32,dB i)] [.box (.pr (dD AId d) (.pr (.Ak 1) (.pr (.mp 2) (.pr (.Ak 3) .u)))),.row 104 .Ai AIg e,.AH,.row 253 .Ai Aa g])
def Gy(a b c:Int)(d:AHY)(e:AH7)(g:AHW):Option Bool:=
 bif decide (c>0)then
 if 0<=b/\b<d.length then
 bif decide (c<(d.getD b.toNat Ad.zero).2.1)then
 if 0<=b/\b<e.length then
 if 0<=c/\c<(e.getD b.toNat AIg.zero).length then
 some (!((e.getD b.toNat AIg.zero).getD c.toNat (Ty.zero .bool)))
 else none
 else none
 else
 some false
 else none
 else
 some false
theorem AjP a b c d e g:AZ AdX 4 1 (code f203) 2 (AiA a b c d e g) (Gy a b c d e g) (Ahj a b c d e g):=by
 unfold AZ;simp only[Gy,AHE];kernel_rfl
def Bf(a b c:Int)(d:AHY)(e:AH7)(g:AHW):Option (AHY×AH7×AHW):=
 (Gy a b c d e g).bind λi=>bif i then
 if 0<=b/\b<e.length then
 if(0:Int)<=c/\c<(e.getD b.toNat AIg.zero).length then
 if(g.length+([(b,c,())]:AHW).length)*16<=140737488355328 then
 some (d,e.set b.toNat ((e.getD b.toNat AIg.zero).set c.toNat true),g++([(b,c,())]:AHW))
 else none
 else none
 else none
 else
 some (d,e,g)
theorem AyQ R a b c d e g K:AW AdX f203 R [.ptr 0 a [] 0,dI b,dI c] [.box (.pr (dD AId d) (.pr (.Ak 1) (.pr (.mp 2) (.pr (.Ak 3) .u)))),.row 104 .Ai AIg e,.AH,.row 253 .Ai Aa g] K=(Bf a b c d e g).bind λr=>K .nil [.box (.pr (dD AId r.1) (.pr (.Ak 1) (.pr (.mp 2) (.pr (.Ak 4) .u)))),.row 104 .Ai AIg r.2.1,.AH,.AH,.row 253 .Ai Aa r.2.2]:=by
 simp only[Bf,AHF];simp(disch:=refine id ?_;kernel_rfl) only[Bg (AjP ..) (K:=A4 AdX f203 4 R K)];kernel_rfl
def Aez:=Ag0 [2] (Cx [.Vu,.d AIa,.d AIa] [⟨[.ptr 0 [] 0,.AA [] AIa,.AA [] AIa],[.box (.pr (.AA [] AId) (.pr (.k (.Ak 1)) (.pr (.k (.mp 2)) (.pr (.k (.Ak 3)) (.k .u))))),.row 104 .Ai AIg,.AH,.row 253 .Ai Aa],AHY×AH7×AHW,λp=>Bf p.1.1 p.1.2.1 p.1.2.2.1 p.2.1.1 p.2.2.1 p.2.2.2.2.1,λr=>(.nil,[.box (.pr (dD AId r.1) (.pr (.Ak 1) (.pr (.mp 2) (.pr (.Ak 4) .u)))),.row 104 .Ai AIg r.2.1,.AH,.AH,.row 253 .Ai Aa r.2.2])⟩])
theorem ck:As prog 203 Aez:=AbU _ (Aw ⟨⟨AdX,pk trivial,λ_ _ _=>AyQ ..⟩,trivial⟩)
abbrev u6:Bd:=⟨A7,Az [(203,Aez)],{Ai:=true,A9:=[(3,{Ap:=[3,5,17,18,19],B6:=[(5,true,.row [3] 253 Aa true)]}),(7,{Ap:=[3,5,6,17,18,19,37,38,39],B6:=[(5,true,.row [3] 253 Aa true)]})],BQ:=[(3,{Ap:=[5]}),(7,{Ap:=[3,5,17,18,19]})]}⟩
def AiC a b c (z_:Int×AHY×AH7×AHW):=sT 50 [(3,.ptr 0 0 [] 0),(5,.ptr 1 0 [] 0),(17,dD AId a),(18,dI c),(19,dI z_.1)] [.box (dD Aj b),.box (.pr (dD AId z_.2.1) (.pr (.Ak 2) (.pr (.mp 3) (.pr (.Ak 4) .u)))),.row 104 .Ai AIg z_.2.2.1,.map .Ai Aa AIh ([]:List (AHG×AHW)) none,.row 253 .Ai Aa z_.2.2.2]
def Ahl(a:AHY)(b:AHN)(c:Int):=λ(d:(AHY×AH7×AHW))=>(Ex.exit 0,sT 50 [(5,.ptr 0 0 [] 0)] [.box (.pr (dD AId d.1) (.pr (.Ak 1) (.pr (.mp 2) (.pr (.Ak 3) .u)))),.row 104 .Ai AIg d.2.1,.map .Ai Aa AIh ([]:List (AHG×AHW)) none,.row 253 .Ai Aa d.2.2])
def AiB e a c b g i (z_:Int×AHY×AH7×AHW):=sT 50 [(3,.ptr 0 0 [] 0),(5,.ptr 1 0 [] 0),(6,dI e),(17,dD AId a),(18,dI c),(19,dI e),(37,dD AIf g),(38,dI i),(39,dI z_.1)] [.box (dD Aj b),.box (.pr (dD AId z_.2.1) (.pr (.Ak 2) (.pr (.mp 3) (.pr (.Ak 4) .u)))),.row 104 .Ai AIg z_.2.2.1,.map .Ai Aa AIh ([]:List (AHG×AHW)) none,.row 253 .Ai Aa z_.2.2.2]
def Ahk e a c b (g:AHT) (i:Int):=λ(j:(AHY×AH7×AHW))=>(Ex.exit 2,sT 50 [(3,.ptr 0 0 [] 0),(5,.ptr 1 0 [] 0),(17,dD AId a),(18,dI c),(19,dI e)] [.box (dD Aj b),.box (.pr (dD AId j.1) (.pr (.Ak 2) (.pr (.mp 3) (.pr (.Ak 4) .u)))),.row 104 .Ai AIg j.2.1,.map .Ai Aa AIh ([]:List (AHG×AHW)) none,.row 253 .Ai Aa j.2.2])
def Im(e:Int)(a:AHY)(c:Int)(b:AHN)(g:AHT)(i k:Int)(l:AHY)(n:AH7)(o:AHW):Option ((Int×AHY×AH7×AHW)⊕(AHY×AH7×AHW)):=
 bif decide (k<i)then
 if 0<=k/\k<g.length then
 (Bf 0 e (g.getD k.toNat AIa.zero) l n o).bind λq=>some (.inl (wI (k+1),q.1,q.2.1,q.2.2))
 else none
 else
 some (.inr (l,n,o))
def DD e a c b g i (z_:Int×AHY×AH7×AHW):=Im e a c b g i z_.1 z_.2.1 z_.2.2.1 z_.2.2.2
def KG e a c b g i k l n o:=fix (DD e a c b g i) (k,l,n,o)
theorem AjQ e a c b g i:A5 u6 0 7 (cd f148 116) 462 (AiB e a c b g i) (DD e a c b g i) (Ahk e a c b g i):=by
 intro _;simp only[DD,Im,AHE];kernel_rfl
def Io(a:AHY)(b:AHN)(c e:Int)(s:AHY)(t:AH7)(u:AHW):Option ((Int×AHY×AH7×AHW)⊕(AHY×AH7×AHW)):=
 bif decide (e<c)then
 if 0<=e/\e<a.length then
 if Ty.row .bool=true/\(0:Int)<=(a.getD e.toNat Ad.zero).2.1/\(a.getD e.toNat Ad.zero).2.1<=(a.getD e.toNat Ad.zero).2.1/\((1:Nat):Int)*(a.getD e.toNat Ad.zero).2.1<=(281474976710656:Int)/\(a.getD e.toNat Ad.zero).2.1<=(9223372036854775807:Int)then
 if 0<=e/\e<t.length then
 if 0<=e/\e<b.1.length then
 (KG e a c b (b.1.getD e.toNat AIf.zero) ((b.1.getD e.toNat AIf.zero).length:Int) 0 s (t.set e.toNat (List.replicate (a.getD e.toNat Ad.zero).2.1.toNat false)) u).bind λj=>some (.inl (wI (e+1),j.1,j.2.1,j.2.2))
 else none
 else none
 else none
 else none
 else
 some (.inr (s,t,u))
def DF a b c (z_:Int×AHY×AH7×AHW):=Io a b c z_.1 z_.2.1 z_.2.2.1 z_.2.2.2
def KH a b c e s t u:=fix (DF a b c) (e,s,t,u)
theorem AjR a b c:A5 u6 0 3 (code f148) 58 (AiC a b c) (DF a b c) (Ahl a b c):=by
 intro _;simp only[DF,Io,AHE];simp(disch:=refine id ?_;kernel_rfl) only[KG,AF (AjQ _ _ _ _ _ _) (K:=Ld u6 0 3)];kernel_rfl
def IJ(a:AHY)(b:AHN):Option (Int×AHY×AH7×(List (AHG×AHW))×AHW):=
 if Ty.row AIg=true/\(0:Int)<=(a.length:Int)/\(a.length:Int)<=(a.length:Int)/\((24:Nat):Int)*(a.length:Int)<=(281474976710656:Int)/\(a.length:Int)<=(9223372036854775807:Int)then
 (KH a b (a.length:Int) 0 a (List.replicate (a.length:Int).toNat ([]:AHU)) ([]:AHW)).bind λd=>some (0,d.1,d.2.1,([]:List (AHG×AHW)),d.2.2)
 else none
theorem AyR R a b K:AW u6 f148 R [dD AId a,dD Aj b] [] K=(IJ a b).bind λr=>K (.ptr 0 r.1 [] 0) [.box (.pr (dD AId r.2.1) (.pr (.Ak 1) (.pr (.mp 2) (.pr (.Ak 3) .u)))),.row 104 .Ai AIg r.2.2.1,.map .Ai Aa AIh r.2.2.2.1 none,.row 253 .Ai Aa r.2.2.2.2]:=by
 simp only[IJ,AHF];simp(disch:=refine id ?_;kernel_rfl) only[KH,AF (AjR _ _ _) (K:=A4 u6 f148 0 R K)];kernel_rfl
def AuX:=Cx [.d AId,.d Aj] [⟨[.AA [] AId,.AA [] Aj],[],Int×AHY×AH7×(List (AHG×AHW))×AHW,λp=>IJ p.1.1 p.1.2.1,λr=>(.ptr 0 r.1 [] 0,[.box (.pr (dD AId r.2.1) (.pr (.Ak 1) (.pr (.mp 2) (.pr (.Ak 3) .u)))),.row 104 .Ai AIg r.2.2.1,.map .Ai Aa AIh r.2.2.2.1 none,.row 253 .Ai Aa r.2.2.2.2])⟩]
theorem zu:As prog 148 AuX:=Aw ⟨⟨u6,pk ⟨ck,trivial⟩,λ_ _ _=>AyR ..⟩,trivial⟩
abbrev AnI:Bd:=⟨A7,Az [],{take:=[25]}⟩
def AvH:=wi [.Vu,.Vu] AnI f228
theorem Aam:As prog 228 AvH:=bp (pk trivial)
abbrev fj:Bd:=⟨A7,Az [(228,AvH)],{A9:=[(3,{Ap:=[0,3,9,10,11]}),(11,{Ap:=[6,25,26,27],B6:=[(6,false,.row [] 238 Ae false)]})],BQ:=[(3,{Ap:=[0,3]}),(11,{Ap:=[6]})],BP:=[(8,{Ap:=[0,3,9,10,11]})],D2:=[(8,[0,3,9,10,11])]}⟩
def AiG a b (z_:Int×AHZ):=sT 36 [(6,.Ak 0),(25,dD AIp a),(26,dI b),(27,dI z_.1)] [.row 238 (.sh []) Ae z_.2]
def Ahp(a:AH9)(b:Int):=λ(c:AHZ)=>(Ex.exit 2,sT 36 [(6,.Ak 0)] [.row 238 (.sh []) Ae c])
def Po(a:AH9)(b d:Int)(e:AHZ):Option ((Int×AHZ)⊕AHZ):=
 bif decide (d<b)then
 if 0<=d/\d<a.length then
 if(e.length+(a.getD d.toNat AIe.zero).length)*56<=140737488355328 then
 some (.inl (wI (d+1),e++(a.getD d.toNat AIe.zero)))
 else none
 else none
 else
 some (.inr e)
def Jy a b (z_:Int×AHZ):=Po a b z_.1 z_.2
def Rh a b d e:=fix (Jy a b) (d,e)
theorem AjV a b:A5 fj 0 11 (code f204) 250 (AiG a b) (Jy a b) (Ahp a b):=by
 intro _;simp only[Jy,Po,AHE];kernel_rfl
def AiF a g (z_:Int×AHZ):=sT 36 [(6,.Ak 0),(25,dD AIp a),(26,dI g),(27,dI z_.1)] [.row 238 (.sh []) Ae z_.2]
def Aho(a:AH9)(g:Int):=λ(i:AHZ)=>(Ex.exit 2,sT 36 [(6,.Ak 0)] [.row 238 (.sh []) Ae i])
def FW(a:AH9)(g j:Int)(k:AHZ):Option ((Int×AHZ)⊕AHZ):=
 bif decide (j<g)then
 if 0<=j/\j<a.length then
 if(k.length+(a.getD j.toNat AIe.zero).length)*56<=140737488355328 then
 some (.inl (wI (j+1),k++(a.getD j.toNat AIe.zero)))
 else none
 else none
 else
 some (.inr k)
def CL a g (z_:Int×AHZ):=FW a g z_.1 z_.2
def HF a g j k:=fix (CL a g) (j,k)
theorem AjU a g:A5 fj 0 11 (code f204) 250 (AiF a g) (CL a g) (Aho a g):=by
 intro _;simp only[CL,FW,AHE];kernel_rfl
def AiE a l (z_:Int×Int):=sT 36 [(0,dD AIp a),(3,dI z_.1),(9,dD AIp a),(10,dI l),(11,dI z_.2)] []
def Ahn a (l:Int):=λ(n:Int)=>(Ex.exit 0,sT 36 [(0,dD AIp a),(3,dI n)] [])
def AiD a o l q:=sT 36 [(0,dD AIp a),(3,dI o),(9,dD AIp a),(10,dI l),(11,dI q)] []
def Ahm a (o:Int) l (q:Int):=λ(s:Unit)=>(Ex.normal,sT 36 [(0,dD AIp a),(3,dI (wI (o+((a.getD q.toNat AIe.zero).length:Int)))),(9,dD AIp a),(10,dI l),(11,dI q)] [])
def HD(a:AH9)(o l q:Int):Option Unit:=
 if 0<=q/\q<a.length then
 bif decide ((wI (o+((a.getD q.toNat AIe.zero).length:Int)))<0)then
 none
 else
 some ()
 else none
theorem AjS a o l q:AZ fj 0 8 (cd f204 116) 14 (AiD a o l q) (HD a o l q) (Ahm a o l q):=by
 unfold AZ;simp only[HD,AHE];kernel_rfl
def FV(a:AH9)(l o q:Int):Option ((Int×Int)⊕Int):=
 bif decide (q<l)then
 (HD a o l q).bind λs=>some (.inl (wI (o+((a.getD q.toNat AIe.zero).length:Int)),wI (q+1)))
 else
 some (.inr o)
def CK a l (z_:Int×Int):=FV a l z_.1 z_.2
def HE a l o q:=fix (CK a l) (o,q)
theorem AjT a l:A5 fj 0 3 (code f204) 58 (AiE a l) (CK a l) (Ahn a l):=by
 intro _;simp only[CK,FV,AHE];simp(disch:=refine id ?_;kernel_rfl) only[Bg (AjS ..) (K:=Ld fj 0 3)];kernel_rfl
def EU(a:AH9):Option AHZ:=
 (HE a (a.length:Int) 0 0).bind λn=>bif decide (n<0)then
 none
 else
 bif decide ((wI (n-0))>0)then
 if(0:Int)<=(wI (n-0))/\(wI (n-0))*((56:Nat):Int)<=(140737488355328:Int)then
 if(0:Int)<=(0:Int)/\(0:Int)<=((List.replicate (wI (n-0)).toNat (0,0,0,(0,([]:AHT),()),())).length:Int)then
 (HF a (a.length:Int) 0 ((List.replicate (wI (n-0)).toNat (0,0,0,(0,([]:AHT),()),())).take 0)).bind λi=>some i
 else none
 else none
 else
 (Rh a (a.length:Int) 0 ([]:AHZ)).bind λc=>some c
theorem AyS R a K:AW fj f204 R [dD AIp a] [] K=(EU a).bind λr=>K (.Ak 0) [.row 238 (.sh []) Ae r]:=by
 simp only[EU,AHF];simp(disch:=refine id ?_;kernel_rfl) only[HE,AF (AjT _ _) (K:=A4 fj f204 0 R K),HF,AF (AjU _ _) (K:=A4 fj f204 0 R K),Rh,AF (AjV _ _) (K:=A4 fj f204 0 R K)];kernel_rfl
def Avr:=Cx [.d AIp] [⟨[.AA [] AIp],[],AHZ,λp=>EU p.1.1,λr=>(.Ak 0,[.row 238 (.sh []) Ae r])⟩]
theorem z1:As prog 204 Avr:=Aw ⟨⟨fj,pk ⟨Aam,trivial⟩,λ_ _ _=>AyS ..⟩,trivial⟩
abbrev lY:Bd:=⟨A7,Az [],{Ai:=true,A9:=[(3,{Ap:=[3,8,9,10],B6:=[(3,false,.row [] 300 Ab true)]}),(7,{Ap:=[3,5,6,8,9,10]})],BQ:=[(3,{Ap:=[3]}),(7,{Ap:=[3,8,9,10]})],BP:=[(8,{Ap:=[3,5,6,8,9,10]})],D2:=[(8,[3,5,6,8,9,10])]}⟩
def AiJ a b (z_:Int×AHX):=sT 43 [(3,.Ak 0),(8,dD AIe a),(9,dI b),(10,dI z_.1)] [.row 300 .Ai Ab z_.2]
def Ahs(a:AHZ)(b:Int):=λ(c:AHX)=>(Ex.exit 0,sT 43 [(3,.Ak 0)] [.row 300 .Ai Ab c])
def AiI a b d e (z_:Int×AHX):=sT 43 [(3,.Ak 0),(5,.ptr 1 0 [] 0),(6,dI z_.1),(8,dD AIe a),(9,dI b),(10,dI d)] [.row 300 .Ai Ab z_.2,.box (dD Ae e)]
def Ahr a b d (e:AHJ):=λ(g:AHX)=>(Ex.exit 2,sT 43 [(3,.Ak 0),(8,dD AIe a),(9,dI b),(10,dI d)] [.row 300 .Ai Ab g])
def AiH i a b d j e:=sT 43 [(3,.Ak 0),(5,.ptr 1 0 [] 0),(6,dI i),(8,dD AIe a),(9,dI b),(10,dI d)] [.row 300 .Ai Ab j,.box (dD Ae e)]
def Ahq i a b d (j:AHX) e:=λ(k:AHX)=>(Ex.normal,sT 43 [(3,.Ak 0),(5,.ptr 1 0 [] 0),(6,dI i),(8,dD AIe a),(9,dI b),(10,dI d)] [.row 300 .Ai Ab k,.box (dD Ae e)])
def J5(i:Int)(a:AHZ)(b d:Int)(j:AHX)(e:AHJ):Option AHX:=
 bif e.1==(-1)then
 if(j.length+([(2,0,0,())]:AHX).length)*24<=140737488355328 then
 some (j++([(2,0,0,())]:AHX))
 else none
 else
 if(j.length+([(1,e.1,wI (e.2.1+i),())]:AHX).length)*24<=140737488355328 then
 some (j++([(1,e.1,wI (e.2.1+i),())]:AHX))
 else none
theorem AjW i a b d j e:AZ lY 0 8 (sb (cd f205 116) 924) 6 (AiH i a b d j e) (J5 i a b d j e) (Ahq i a b d j e):=by
 unfold AZ;simp only[J5,AHE];kernel_rfl
def KI(a:AHZ)(b d:Int)(e:AHJ)(i:Int)(j:AHX):Option ((Int×AHX)⊕AHX):=
 bif decide (i<e.2.2.1)then
 (J5 i a b d j e).bind λk=>some (.inl (wI (i+1),k))
 else
 some (.inr j)
def ES a b d e (z_:Int×AHX):=KI a b d e z_.1 z_.2
def Nx a b d e i j:=fix (ES a b d e) (i,j)
theorem AjX a b d e:A5 lY 0 7 (cd f205 116) 462 (AiI a b d e) (ES a b d e) (Ahr a b d e):=by
 intro _;simp only[ES,KI,AHE];simp(disch:=refine id ?_;kernel_rfl) only[Bg (AjW ..) (K:=Ld lY 0 7)];kernel_rfl
def KJ(a:AHZ)(b d:Int)(l:AHX):Option ((Int×AHX)⊕AHX):=
 bif decide (d<b)then
 if 0<=d/\d<a.length then
 if(l.length+([(0,0,0,())]:AHX).length)*24<=140737488355328 then
 (Nx a b d (a.getD d.toNat Ae.zero) 1 (l++([(0,0,0,())]:AHX))).bind λg=>some (.inl (wI (d+1),g))
 else none
 else none
 else
 some (.inr l)
def ET a b (z_:Int×AHX):=KJ a b z_.1 z_.2
def Ny a b d l:=fix (ET a b) (d,l)
theorem AjY a b:A5 lY 0 3 (code f205) 58 (AiJ a b) (ET a b) (Ahs a b):=by
 intro _;simp only[ET,KJ,AHE];simp(disch:=refine id ?_;kernel_rfl) only[Nx,AF (AjX _ _ _ _) (K:=Ld lY 0 3)];kernel_rfl
def Ht(a:AHZ):Option AHX:=
 (Ny a (a.length:Int) 0 ([]:AHX)).bind λc=>some c
theorem AyT R a K:AW lY f205 R [dD AIe a] [] K=(Ht a).bind λr=>K (.Ak 0) [.row 300 .Ai Ab r]:=by
 simp only[Ht,AHF];simp(disch:=refine id ?_;kernel_rfl) only[Ny,AF (AjY _ _) (K:=A4 lY f205 0 R K)];kernel_rfl
def Avs:=Cx [.d AIe] [⟨[.AA [] AIe],[],AHX,λp=>Ht p.1.1,λr=>(.Ak 0,[.row 300 .Ai Ab r])⟩]
theorem z6:As prog 205 Avs:=Aw ⟨⟨lY,pk trivial,λ_ _ _=>AyT ..⟩,trivial⟩
abbrev Ob:Bd:=⟨A7,Az [(203,Aez),(204,Avr),(205,Avs)],{A9:=[(1,{Ap:=[0,1,2,18,19,20],mvp:=[(0,[3])]}),(9,{Ap:=[0,8,9,10],Rj:=[(8,false,AIj),(9,false,AIj)]})],BQ:=[(1,{Ap:=[0,1,2]}),(9,{Ap:=[]})],BP:=[(6,{Ap:=[0,1,2,18,19,20],mvp:=[(0,[3])]}),(10,{Ap:=[0,8,9,10]}),(13,{Ap:=[0,8,9,10,11,12,61]}),(15,{Ap:=[0,8,9,10,11,12,76]}),(17,{Ap:=[0,8,9,10,11,12,91]})],Yl:=[(11,{Ap:=[0,8,9,10,11,12],Wa:=true}),(17,{Ap:=[0,8,9,10,13,14],Wa:=true}),(18,{Ap:=[0,8,9,10,13,14],Wa:=true}),(19,{Ap:=[0,8,9,10],Wa:=true})],D2:=[(6,[0,1,2,18,19,20]),(10,[0,8,9,10]),(13,[0,8,9,10,11,12]),(15,[0,8,9,10,11,12]),(17,[0,8,9,10,11,12])],ZW:=[(11,[0,8,9,10]),(17,[0,8,9,10,11,12]),(18,[0,8,9,10,13,14]),(19,[0,8,9,10,13,14])],fA:=[(17,AIp)]}⟩
def Aeg(a:Int) b c d (z_:Int×AHY×AH7×(List (AHG×AHW))×AHW):=sT 132 [(0,.ptr 0 a [] 0),(8,dD AIj b),(9,dD AIj c),(10,dI z_.1)] [.box (.pr (dD AId z_.2.1) (.pr (.Ak 2) (.pr (.mp 3) (.pr (.Ak 5) .u)))),.row 145 .Ai (.Au AIe (.Au AIe .unit)) d,.row 104 .Ai AIg z_.2.2.1,.map .Ai Aa AIh z_.2.2.2.1 none,.AH,.row 253 .Ai Aa z_.2.2.2.2]
def Aee(a:Int)(b c:AHX) d:=λ(e:(AHY×AH7×(List (AHG×AHW))×AHW))=>(Ex.exit 2,sT 132 [] [.box (.pr (dD AId e.1) (.pr (.Ak 2) (.pr (.mp 3) (.pr (.Ak 5) .u)))),.row 145 .Ai (.Au AIe (.Au AIe .unit)) d,.row 104 .Ai AIg e.2.1,.map .Ai Aa AIh e.2.2.1 none,.AH,.row 253 .Ai Aa e.2.2.2])
def Aef(a:Int) b c g i d j (k:(List (AHG×AHW))) l:=sT 132 [(0,.ptr 0 a [] 0),(8,dD AIj b),(9,dD AIj c),(10,dI g)] [.box (.pr (dD AId i) (.pr (.Ak 2) (.pr (.mp 3) (.pr (.Ak 5) .u)))),.row 145 .Ai (.Au AIe (.Au AIe .unit)) d,.row 104 .Ai AIg j,.map .Ai Aa AIh k none,.AH,.row 253 .Ai Aa l]
def Aed(a:Int) b c g (i:AHY) d (j:AH7) (k:(List (AHG×AHW))) (l:AHW):=λ(n:(AHY×AH7×(List (AHG×AHW))×AHW))=>(Ex.normal,sT 132 [(0,.ptr 0 a [] 0),(8,dD AIj b),(9,dD AIj c),(10,dI g)] [.box (.pr (dD AId n.1) (.pr (.Ak 2) (.pr (.mp 3) (.pr (.Ak 5) .u)))),.row 145 .Ai (.Au AIe (.Au AIe .unit)) d,.row 104 .Ai AIg n.2.1,.map .Ai Aa AIh n.2.2.1 none,.AH,.row 253 .Ai Aa n.2.2.2])
def yg(a:Int) b c g i d j (o:(List (AHG×AHW))) l q s t u:=sT 132 [(0,.ptr 0 a [] 0),(8,dD AIj b),(9,dD AIj c),(10,dI g),(13,.ptr 5 0 [] 0),(14,.ptr 6 0 [] 0)] [.box (.pr (dD AId i) (.pr (.Ak 2) (.pr (.mp 3) (.pr (.Ak 7) .u)))),.row 145 .Ai (.Au AIe (.Au AIe .unit)) d,.row 104 .Ai AIg j,.map .Ai Aa AIh o none,.AH,.box (.pr (dI q) (.pr (dI s) .u)),.box (.pr (dI t) (.pr (dI u) .u)),.row 253 .Ai Aa l]
def jm(a:Int) b c g i d j (o:(List (AHG×AHW))) l (q:Int) (s:Int) (t:Int) (u:Int):=λ(v:(List (AHG×AHW)))=>sT 132 [(0,.ptr 0 a [] 0),(8,dD AIj b),(9,dD AIj c),(10,dI g)] [.box (.pr (dD AId i) (.pr (.Ak 2) (.pr (.mp 3) (.pr (.Ak 5) .u)))),.row 145 .Ai (.Au AIe (.Au AIe .unit)) d,.row 104 .Ai AIg j,.map .Ai Aa AIh v none,.AH,.row 253 .Ai Aa l]
def Dy(a:Int)(b c:AHX)(g:Int)(i:AHY)(d:List (AHZ×(AHZ×Unit)))(j:AH7)(o:List (AHG×AHW))(l:AHW)(q s t u:Int):Option (List (AHG×AHW)):=
 if((Bh Aa AIh o (t,u,())).length+([(q,s,())]:AHW).length)*16<=140737488355328 then
 bif T8 Aa AIh (BS Aa AIh o (t,u,()) (Bh Aa AIh o (t,u,()))) (t,u,()) (Vp Aa AIh o (t,u,()))then
 bif Ba Aa (t,u,()) (t,u,())then
 some (BS Aa AIh (BS Aa AIh o (t,u,()) (Bh Aa AIh o (t,u,()))) (t,u,()) ((Bh Aa AIh o (t,u,()))++([(q,s,())]:AHW)))
 else
 none
 else
 none
 else none
noncomputable def qN(a:Int)(b c:AHX)(g:Int)(i:AHY)(d:List (AHZ×(AHZ×Unit)))(j:AH7)(o:List (AHG×AHW))(l:AHW)(q s t u:Int):Option Unit:=if((Bh Aa AIh o (t,u,())).length+([(q,s,())]:AHW).length)*16<=140737488355328 then bif T8 Aa AIh (BS Aa AIh o (t,u,()) (Bh Aa AIh o (t,u,()))) (t,u,()) (Vp Aa AIh o (t,u,()))then bif Ba Aa (t,u,()) (t,u,())then Sl (jm a b c g i d j o l q s t u (BS Aa AIh (BS Aa AIh o (t,u,()) (Bh Aa AIh o (t,u,()))) (t,u,()) ((Bh Aa AIh o (t,u,()))++([(q,s,())]:AHW)))) (jm a b c g i d j o l q s t u (BS Aa AIh (BS Aa AIh o (t,u,()) (Bh Aa AIh o (t,u,()))) (t,u,()) ((Bh Aa AIh o (t,u,()))++([(q,s,())]:AHW))))else none else none else none
theorem Aj7(a:Int)(b c:AHX)(g:Int)(i:AHY)(d:List (AHZ×(AHZ×Unit)))(j:AH7)(o:List (AHG×AHW))(l:AHW)(q s t u:Int):Rk Ob 5 19 (sb (cd f149 60) 6) 2811 (yg a b c g i d j o l q s t u) (Dy a b c g i d j o l q s t u) (jm a b c g i d j o l q s t u):=by
 unfold Rk;have h:tH Ob 5 19 (sb (cd f149 60) 6) (pt 2811) (yg a b c g i d j o l q s t u) =
 if((Bh Aa AIh o (t,u,())).length+([(q,s,())]:AHW).length)*16<=140737488355328 then bif T8 Aa AIh (BS Aa AIh o (t,u,()) (Bh Aa AIh o (t,u,()))) (t,u,()) (Vp Aa AIh o (t,u,()))then bif Ba Aa (t,u,()) (t,u,())then(((qN a b c g i d j o l q s t u).bind λ_=>qN a b c g i d j o l q s t u).bind λ_=>some (jm a b c g i d j o l q s t u (BS Aa AIh (BS Aa AIh o (t,u,()) (Bh Aa AIh o (t,u,()))) (t,u,()) ((Bh Aa AIh o (t,u,()))++([(q,s,())]:AHW)))))else none else none else none:=by kernel_rfl
 rw[h];unfold Dy;simp only[AHE,mS,mO];clear h;by_cases GR:((Bh Aa AIh o (t,u,())).length+([(q,s,())]:AHW).length)*16<=140737488355328
 ·rw[AHd GR,AHd GR];cases OS:(T8 Aa AIh (BS Aa AIh o (t,u,()) (Bh Aa AIh o (t,u,()))) (t,u,()) (Vp Aa AIh o (t,u,())))with
  |true =>
   simp only[AHb];cases qa:(Ba Aa (t,u,()) (t,u,()))with
   |true =>
    simp only[AHb];simp only[qN,AHb,AHd GR,OS,qa,if_true,AGV,G7]
   |false =>
    simp only[AHa]
    all_goals first |rfl |simp
  |false =>
   simp only[AHa]
   all_goals first |rfl |simp
 ·simp only[if_true,AHe GR]
def yf(a:Int) b c g i d j (k:(List (AHG×AHW))) l w x y a1:=sT 132 [(0,.ptr 0 a [] 0),(8,dD AIj b),(9,dD AIj c),(10,dI g),(13,.ptr 5 0 [] 0),(14,.ptr 6 0 [] 0)] [.box (.pr (dD AId i) (.pr (.Ak 2) (.pr (.mp 3) (.pr (.Ak 7) .u)))),.row 145 .Ai (.Au AIe (.Au AIe .unit)) d,.row 104 .Ai AIg j,.map .Ai Aa AIh k none,.AH,.box (.pr (dI w) (.pr (dI x) .u)),.box (.pr (dI y) (.pr (dI a1) .u)),.row 253 .Ai Aa l]
def jl(a:Int) b c g i d j (k:(List (AHG×AHW))) l w x y a1:=λ(o:(List (AHG×AHW)))=>sT 132 [(0,.ptr 0 a [] 0),(8,dD AIj b),(9,dD AIj c),(10,dI g),(13,.ptr 5 0 [] 0),(14,.ptr 6 0 [] 0)] [.box (.pr (dD AId i) (.pr (.Ak 2) (.pr (.mp 3) (.pr (.Ak 7) .u)))),.row 145 .Ai (.Au AIe (.Au AIe .unit)) d,.row 104 .Ai AIg j,.map .Ai Aa AIh o none,.AH,.box (.pr (dI w) (.pr (dI x) .u)),.box (.pr (dI y) (.pr (dI a1) .u)),.row 253 .Ai Aa l]
def Dx(a:Int)(b c:AHX)(g:Int)(i:AHY)(d:List (AHZ×(AHZ×Unit)))(j:AH7)(k:List (AHG×AHW))(l:AHW)(w x y a1:Int):Option (List (AHG×AHW)):=
 if((Bh Aa AIh k (w,x,())).length+([(y,a1,())]:AHW).length)*16<=140737488355328 then
 bif T8 Aa AIh (BS Aa AIh k (w,x,()) (Bh Aa AIh k (w,x,()))) (w,x,()) (Vp Aa AIh k (w,x,()))then
 bif Ba Aa (w,x,()) (w,x,())then
 some (BS Aa AIh (BS Aa AIh k (w,x,()) (Bh Aa AIh k (w,x,()))) (w,x,()) ((Bh Aa AIh k (w,x,()))++([(y,a1,())]:AHW)))
 else
 none
 else
 none
 else none
noncomputable def qM(a:Int)(b c:AHX)(g:Int)(i:AHY)(d:List (AHZ×(AHZ×Unit)))(j:AH7)(k:List (AHG×AHW))(l:AHW)(w x y a1:Int):Option Unit:=if((Bh Aa AIh k (w,x,())).length+([(y,a1,())]:AHW).length)*16<=140737488355328 then bif T8 Aa AIh (BS Aa AIh k (w,x,()) (Bh Aa AIh k (w,x,()))) (w,x,()) (Vp Aa AIh k (w,x,()))then bif Ba Aa (w,x,()) (w,x,())then Sl (jl a b c g i d j k l w x y a1 (BS Aa AIh (BS Aa AIh k (w,x,()) (Bh Aa AIh k (w,x,()))) (w,x,()) ((Bh Aa AIh k (w,x,()))++([(y,a1,())]:AHW)))) (jl a b c g i d j k l w x y a1 (BS Aa AIh (BS Aa AIh k (w,x,()) (Bh Aa AIh k (w,x,()))) (w,x,()) ((Bh Aa AIh k (w,x,()))++([(y,a1,())]:AHW))))else none else none else none
theorem Aj6(a:Int)(b c:AHX)(g:Int)(i:AHY)(d:List (AHZ×(AHZ×Unit)))(j:AH7)(k:List (AHG×AHW))(l:AHW)(w x y a1:Int):Rk Ob 5 18 (sb (cd f149 60) 6) 2810 (yf a b c g i d j k l w x y a1) (Dx a b c g i d j k l w x y a1) (jl a b c g i d j k l w x y a1):=by
 unfold Rk;have h:tH Ob 5 18 (sb (cd f149 60) 6) (pt 2810) (yf a b c g i d j k l w x y a1) =
 if((Bh Aa AIh k (w,x,())).length+([(y,a1,())]:AHW).length)*16<=140737488355328 then bif T8 Aa AIh (BS Aa AIh k (w,x,()) (Bh Aa AIh k (w,x,()))) (w,x,()) (Vp Aa AIh k (w,x,()))then bif Ba Aa (w,x,()) (w,x,())then(((qM a b c g i d j k l w x y a1).bind λ_=>qM a b c g i d j k l w x y a1).bind λ_=>some (jl a b c g i d j k l w x y a1 (BS Aa AIh (BS Aa AIh k (w,x,()) (Bh Aa AIh k (w,x,()))) (w,x,()) ((Bh Aa AIh k (w,x,()))++([(y,a1,())]:AHW)))))else none else none else none:=by kernel_rfl
 rw[h];unfold Dx;simp only[AHE,mS,mO];clear h;by_cases GR:((Bh Aa AIh k (w,x,())).length+([(y,a1,())]:AHW).length)*16<=140737488355328
 ·rw[AHd GR,AHd GR];cases OS:(T8 Aa AIh (BS Aa AIh k (w,x,()) (Bh Aa AIh k (w,x,()))) (w,x,()) (Vp Aa AIh k (w,x,())))with
  |true =>
   simp only[AHb];cases qa:(Ba Aa (w,x,()) (w,x,()))with
   |true =>
    simp only[AHb];simp only[qM,AHb,AHd GR,OS,qa,if_true,AGV,G7]
   |false =>
    simp only[AHa]
    all_goals first |rfl |simp
  |false =>
   simp only[AHa]
   all_goals first |rfl |simp
 ·simp only[if_true,AHe GR]
def ye(a:Int) b c g i d j (k:(List (AHG×AHW))) l b1 c1:=sT 132 [(0,.ptr 0 a [] 0),(8,dD AIj b),(9,dD AIj c),(10,dI g),(11,.ptr 5 0 [] 0),(12,.ptr 6 0 [] 0)] [.box (.pr (dD AId i) (.pr (.Ak 2) (.pr (.mp 3) (.pr (.Ak 7) .u)))),.row 145 .Ai (.Au AIe (.Au AIe .unit)) d,.row 104 .Ai AIg j,.map .Ai Aa AIh k none,.AH,.box (dD Ab b1),.box (dD Ab c1),.row 253 .Ai Aa l]
def Y5(a:Int) b c g i d j (k:(List (AHG×AHW))) l (b1:AHH) (c1:AHH):=λ(d1:(Int×Int×Int×Int))=>sT 132 [(0,.ptr 0 a [] 0),(8,dD AIj b),(9,dD AIj c),(10,dI g),(13,.ptr 5 0 [] 0),(14,.ptr 6 0 [] 0)] [.box (.pr (dD AId i) (.pr (.Ak 2) (.pr (.mp 3) (.pr (.Ak 7) .u)))),.row 145 .Ai (.Au AIe (.Au AIe .unit)) d,.row 104 .Ai AIg j,.map .Ai Aa AIh k none,.AH,.box (.pr (dI d1.1) (.pr (dI d1.2.1) .u)),.box (.pr (dI d1.2.2.1) (.pr (dI d1.2.2.2) .u)),.row 253 .Ai Aa l]
def MV(a:Int)(b c:AHX)(g:Int)(i:AHY)(d:List (AHZ×(AHZ×Unit)))(j:AH7)(k:List (AHG×AHW))(l:AHW)(b1 c1:AHH):Option (Int×Int×Int×Int):=
 some (b1.2.1,b1.2.2.1,c1.2.1,c1.2.2.1)
theorem Aj5(a:Int)(b c:AHX)(g:Int)(i:AHY)(d:List (AHZ×(AHZ×Unit)))(j:AH7)(k:List (AHG×AHW))(l:AHW)(b1 c1:AHH):Rk Ob 5 17 (sb (cd f149 60) 6) 1404 (ye a b c g i d j k l b1 c1) (MV a b c g i d j k l b1 c1) (Y5 a b c g i d j k l b1 c1):=by
 unfold Rk;have h:tH Ob 5 17 (sb (cd f149 60) 6) (pt 1404) (ye a b c g i d j k l b1 c1) =
 (((Sl (Y5 a b c g i d j k l b1 c1 (b1.2.1,b1.2.2.1,c1.2.1,c1.2.2.1)) (Y5 a b c g i d j k l b1 c1 (b1.2.1,b1.2.2.1,c1.2.1,c1.2.2.1))).bind λ_=>Sl (Y5 a b c g i d j k l b1 c1 (b1.2.1,b1.2.2.1,c1.2.1,c1.2.2.1)) (Y5 a b c g i d j k l b1 c1 (b1.2.1,b1.2.2.1,c1.2.1,c1.2.2.1))).bind λ_=>some (Y5 a b c g i d j k l b1 c1 (b1.2.1,b1.2.2.1,c1.2.1,c1.2.2.1))):=by kernel_rfl
 rw[h];unfold MV;simp only[AHE,mS,mO];clear h;simp only[if_true,AGV,G7]
def qE(a:Int) b c g i d j (k:(List (AHG×AHW))) l:=sT 132 [(0,.ptr 0 a [] 0),(8,dD AIj b),(9,dD AIj c),(10,dI g),(11,.ptr 5 0 [] 0),(12,.ptr 6 0 [] 0)] [.box (.pr (dD AId i) (.pr (.Ak 2) (.pr (.mp 3) (.pr (.Ak 7) .u)))),.row 145 .Ai (.Au AIe (.Au AIe .unit)) d,.row 104 .Ai AIg j,.map .Ai Aa AIh k none,.AH,.box (dD Ab (b.getD g.toNat Ab.zero)),.box (dD Ab (c.getD g.toNat Ab.zero)),.row 253 .Ai Aa l]
def qv(a:Int)(b c:AHX)(g:Int)(i:AHY)(d:List (AHZ×(AHZ×Unit)))(j:AH7)(k:List (AHG×AHW))(l:AHW)(m0:Bool):Ex×St:=(.normal,sT 132 [(0,.ptr 0 a [] 0),(8,dD AIj b),(9,dD AIj c),(10,dI g),(11,.ptr 5 0 [] 0),(12,.ptr 6 0 [] 0),(91,dB m0)] [.box (.pr (dD AId i) (.pr (.Ak 2) (.pr (.mp 3) (.pr (.Ak 7) .u)))),.row 145 .Ai (.Au AIe (.Au AIe .unit)) d,.row 104 .Ai AIg j,.map .Ai Aa AIh k none,.AH,.box (dD Ab (b.getD g.toNat Ab.zero)),.box (dD Ab (c.getD g.toNat Ab.zero)),.row 253 .Ai Aa l])
theorem Aj4 a b c g i d j k l:MY Ob 5 17 (sb (cd f149 60) 6) (pt 350) (qE a b c g i d j k l)=some (qv a b c g i d j k l (((b.getD g.toNat Ab.zero).1==1)&&((c.getD g.toNat Ab.zero).1==1))):=by
 have h0:MY Ob 5 17 (sb (cd f149 60) 6) (pt 350) (qE a b c g i d j k l) =
 bif (b.getD g.toNat Ab.zero).1==1 then
 some (qv a b c g i d j k l ((c.getD g.toNat Ab.zero).1==1))
 else
 some (qv a b c g i d j k l false):=by kernel_rfl
 rw[h0];cases ((b.getD g.toNat Ab.zero).1==1)
 ·rfl
 ·rfl
def qD(a:Int) b c g i d j (k:(List (AHG×AHW))) l:=sT 132 [(0,.ptr 0 a [] 0),(8,dD AIj b),(9,dD AIj c),(10,dI g),(11,.ptr 5 0 [] 0),(12,.ptr 6 0 [] 0)] [.box (.pr (dD AId i) (.pr (.Ak 2) (.pr (.mp 3) (.pr (.Ak 7) .u)))),.row 145 .Ai (.Au AIe (.Au AIe .unit)) d,.row 104 .Ai AIg j,.map .Ai Aa AIh k none,.AH,.box (dD Ab (b.getD g.toNat Ab.zero)),.box (dD Ab (c.getD g.toNat Ab.zero)),.row 253 .Ai Aa l]
def qu(a:Int)(b c:AHX)(g:Int)(i:AHY)(d:List (AHZ×(AHZ×Unit)))(j:AH7)(k:List (AHG×AHW))(l:AHW)(m0:Bool):Ex×St:=(.normal,sT 132 [(0,.ptr 0 a [] 0),(8,dD AIj b),(9,dD AIj c),(10,dI g),(11,.ptr 5 0 [] 0),(12,.ptr 6 0 [] 0),(76,dB m0)] [.box (.pr (dD AId i) (.pr (.Ak 2) (.pr (.mp 3) (.pr (.Ak 7) .u)))),.row 145 .Ai (.Au AIe (.Au AIe .unit)) d,.row 104 .Ai AIg j,.map .Ai Aa AIh k none,.AH,.box (dD Ab (b.getD g.toNat Ab.zero)),.box (dD Ab (c.getD g.toNat Ab.zero)),.row 253 .Ai Aa l])
theorem Aj3 a b c g i d j k l:MY Ob 5 15 (sb (cd f149 60) 6) (pt 86) (qD a b c g i d j k l)=some (qu a b c g i d j k l (((b.getD g.toNat Ab.zero).1==1)&&((c.getD g.toNat Ab.zero).1==0))):=by
 have h0:MY Ob 5 15 (sb (cd f149 60) 6) (pt 86) (qD a b c g i d j k l) =
 bif (b.getD g.toNat Ab.zero).1==1 then
 some (qu a b c g i d j k l ((c.getD g.toNat Ab.zero).1==0))
 else
 some (qu a b c g i d j k l false):=by kernel_rfl
 rw[h0];cases ((b.getD g.toNat Ab.zero).1==1)
 ·rfl
 ·rfl
def qC(a:Int) b c g i d j (k:(List (AHG×AHW))) l:=sT 132 [(0,.ptr 0 a [] 0),(8,dD AIj b),(9,dD AIj c),(10,dI g),(11,.ptr 5 0 [] 0),(12,.ptr 6 0 [] 0)] [.box (.pr (dD AId i) (.pr (.Ak 2) (.pr (.mp 3) (.pr (.Ak 7) .u)))),.row 145 .Ai (.Au AIe (.Au AIe .unit)) d,.row 104 .Ai AIg j,.map .Ai Aa AIh k none,.AH,.box (dD Ab (b.getD g.toNat Ab.zero)),.box (dD Ab (c.getD g.toNat Ab.zero)),.row 253 .Ai Aa l]
def qt(a:Int)(b c:AHX)(g:Int)(i:AHY)(d:List (AHZ×(AHZ×Unit)))(j:AH7)(k:List (AHG×AHW))(l:AHW)(m0:Bool):Ex×St:=(.normal,sT 132 [(0,.ptr 0 a [] 0),(8,dD AIj b),(9,dD AIj c),(10,dI g),(11,.ptr 5 0 [] 0),(12,.ptr 6 0 [] 0),(61,dB m0)] [.box (.pr (dD AId i) (.pr (.Ak 2) (.pr (.mp 3) (.pr (.Ak 7) .u)))),.row 145 .Ai (.Au AIe (.Au AIe .unit)) d,.row 104 .Ai AIg j,.map .Ai Aa AIh k none,.AH,.box (dD Ab (b.getD g.toNat Ab.zero)),.box (dD Ab (c.getD g.toNat Ab.zero)),.row 253 .Ai Aa l])
theorem Aj2 a b c g i d j k l:MY Ob 5 13 (sb (cd f149 60) 6) (pt 20) (qC a b c g i d j k l)=some (qt a b c g i d j k l (((b.getD g.toNat Ab.zero).1==0)&&((c.getD g.toNat Ab.zero).1==1))):=by
 have h0:MY Ob 5 13 (sb (cd f149 60) 6) (pt 20) (qC a b c g i d j k l) =
 bif (b.getD g.toNat Ab.zero).1==0 then
 some (qt a b c g i d j k l ((c.getD g.toNat Ab.zero).1==1))
 else
 some (qt a b c g i d j k l false):=by kernel_rfl
 rw[h0];cases ((b.getD g.toNat Ab.zero).1==0)
 ·rfl
 ·rfl
def yd(a:Int) b c g i d j (k:(List (AHG×AHW))) l:=sT 132 [(0,.ptr 0 a [] 0),(8,dD AIj b),(9,dD AIj c),(10,dI g)] [.box (.pr (dD AId i) (.pr (.Ak 2) (.pr (.mp 3) (.pr (.Ak 5) .u)))),.row 145 .Ai (.Au AIe (.Au AIe .unit)) d,.row 104 .Ai AIg j,.map .Ai Aa AIh k none,.AH,.row 253 .Ai Aa l]
def jk(a:Int) b c g i d j (k:(List (AHG×AHW))) l:=λ(e1:Unit)=>sT 132 [(0,.ptr 0 a [] 0),(8,dD AIj b),(9,dD AIj c),(10,dI g),(11,.ptr 5 0 [] 0),(12,.ptr 6 0 [] 0)] [.box (.pr (dD AId i) (.pr (.Ak 2) (.pr (.mp 3) (.pr (.Ak 7) .u)))),.row 145 .Ai (.Au AIe (.Au AIe .unit)) d,.row 104 .Ai AIg j,.map .Ai Aa AIh k none,.AH,.box (dD Ab (b.getD g.toNat Ab.zero)),.box (dD Ab (c.getD g.toNat Ab.zero)),.row 253 .Ai Aa l]
def Ii(a:Int)(b c:AHX)(g:Int)(i:AHY)(d:List (AHZ×(AHZ×Unit)))(j:AH7)(k:List (AHG×AHW))(l:AHW):Option Unit:=
 if 0<=g/\g<b.length then
 if 0<=g/\g<c.length then
 some ()
 else none
 else none
noncomputable def FH(a:Int)(b c:AHX)(g:Int)(i:AHY)(d:List (AHZ×(AHZ×Unit)))(j:AH7)(k:List (AHG×AHW))(l:AHW):Option Unit:=Sl (jk a b c g i d j k l ()) (jk a b c g i d j k l ())
def QY(w:Option Unit):Option Unit:=cc w w
theorem Aj1(a:Int)(b c:AHX)(g:Int)(i:AHY)(d:List (AHZ×(AHZ×Unit)))(j:AH7)(k:List (AHG×AHW))(l:AHW):Rk Ob 5 11 (sb (cd f149 60) 6) 4 (yd a b c g i d j k l) (Ii a b c g i d j k l) (jk a b c g i d j k l):=by
 unfold Rk;have h:tH Ob 5 11 (sb (cd f149 60) 6) (pt 4) (yd a b c g i d j k l) =
 if 0<=g/\g<b.length then if 0<=g/\g<c.length then((if 0<=g/\g<b.length then if 0<=g/\g<c.length then((QY (FH a b c g i d j k l)).bind λ_=>((FH a b c g i d j k l).bind λ_=>(FH a b c g i d j k l).bind λ_=>(FH a b c g i d j k l)).bind λ_=>(FH a b c g i d j k l).bind λ_=>(FH a b c g i d j k l).bind λ_=>(FH a b c g i d j k l)).bind λ_=>((QY (FH a b c g i d j k l)).bind λ_=>(QY (FH a b c g i d j k l)).bind λ_=>(FH a b c g i d j k l).bind λ_=>(FH a b c g i d j k l)).bind λ_=>(((FH a b c g i d j k l).bind λ_=>(FH a b c g i d j k l).bind λ_=>(FH a b c g i d j k l)).bind λ_=>(QY (FH a b c g i d j k l)).bind λ_=>(QY (FH a b c g i d j k l)).bind λ_=>(FH a b c g i d j k l)).bind λ_=>((FH a b c g i d j k l).bind λ_=>(FH a b c g i d j k l).bind λ_=>(FH a b c g i d j k l)).bind λ_=>(QY (FH a b c g i d j k l)).bind λ_=>(QY (FH a b c g i d j k l)).bind λ_=>(FH a b c g i d j k l)else none else none).bind λ_=>some (jk a b c g i d j k l ()))else none else none:=by kernel_rfl
 rw[h];unfold Ii;simp only[AHE,mS,mO];clear h;by_cases GR:(0:Int)<=g/\g<(b.length:Int)
 ·rw[AHd GR,AHd GR];by_cases OS:(0:Int)<=g/\g<(c.length:Int)
  ·rw[AHd OS,AHd OS];simp only[QY,cc,FH,AHb,AHd GR,AHd OS,if_true,AGV,G7]
  ·simp only[AHd GR,if_true,AHe OS]
 ·simp only[if_true,AHe GR]
def EF(a:Int)(b c:AHX)(g:Int)(i:AHY)(d:List (AHZ×(AHZ×Unit)))(j:AH7)(k:List (AHG×AHW))(l:AHW):Option (AHY×AH7×(List (AHG×AHW))×AHW):=
 (Ii a b c g i d j k l).bind λe1=>P2 (qC a b c g i d j k l) (
 bif ((b.getD g.toNat Ab.zero).1==0)&&((c.getD g.toNat Ab.zero).1==1)then
 (Bf a (c.getD g.toNat Ab.zero).2.1 (c.getD g.toNat Ab.zero).2.2.1 i j l).bind λg1=>some (g1.1,g1.2.1,k,g1.2.2)
 else
 P2 (qD a b c g i d j k l) (
 bif ((b.getD g.toNat Ab.zero).1==1)&&((c.getD g.toNat Ab.zero).1==0)then
 (Bf a (b.getD g.toNat Ab.zero).2.1 (b.getD g.toNat Ab.zero).2.2.1 i j l).bind λi1=>some (i1.1,i1.2.1,k,i1.2.2)
 else
 P2 (qE a b c g i d j k l) (
 bif ((b.getD g.toNat Ab.zero).1==1)&&((c.getD g.toNat Ab.zero).1==1)then
 (MV a b c g i d j k l (b.getD g.toNat Ab.zero) (c.getD g.toNat Ab.zero)).bind λd1=>(Dx a b c g i d j k l d1.1 d1.2.1 d1.2.2.1 d1.2.2.2).bind λo=>(Dy a b c g i d j o l d1.1 d1.2.1 d1.2.2.1 d1.2.2.2).bind λv=>some (i,j,v,l)
 else
 some (i,j,k,l))))
theorem Aeh a b c g i d j k l:AZ Ob 5 10 (cd f149 60) 6 (Aef a b c g i d j k l) (EF a b c g i d j k l) (Aed a b c g i d j k l):=by
 unfold AZ;simp only[EF,AHE];simp(disch:=refine id ?_;kernel_rfl) only[Vf (Aj1 ..) (K:=Te Ob 5 10),F4 (Aj2 ..) (K:=Te Ob 5 10),F4 (Aj3 ..) (K:=Te Ob 5 10),F4 (Aj4 ..) (K:=Te Ob 5 10),Vf (Aj5 ..) (K:=Te Ob 5 10),Vf (Aj6 ..) (K:=Te Ob 5 10),Vf (Aj7 ..) (K:=Te Ob 5 10)];kernel_rfl
def FP(a:Int)(b c:AHX)(d:List (AHZ×(AHZ×Unit)))(g:Int)(i:AHY)(j:AH7)(k:List (AHG×AHW))(l:AHW):Option ((Int×AHY×AH7×(List (AHG×AHW))×AHW)⊕(AHY×AH7×(List (AHG×AHW))×AHW)):=
 bif decide (g<(b.length:Int))then
 (EF a b c g i d j k l).bind λn=>some (.inl (wI (g+1),n.1,n.2.1,n.2.2.1,n.2.2.2))
 else
 some (.inr (i,j,k,l))
def CJ a b c d (z_:Int×AHY×AH7×(List (AHG×AHW))×AHW):=FP a b c d z_.1 z_.2.1 z_.2.2.1 z_.2.2.2.1 z_.2.2.2.2
def Hp a b c d g i j k l:=fix (CJ a b c d) (g,i,j,k,l)
theorem Aei a b c d:A5 Ob 5 9 (code f149) 30 (Aeg a b c d) (CJ a b c d) (Aee a b c d):=by
 intro _;simp only[CJ,FP,AHE];simp(disch:=refine id ?_;kernel_rfl) only[Bg (Aeh ..) (K:=Ld Ob 5 9)];kernel_rfl
def AiL(a:Int) j1 k1 d (l1:(List (AHG×AHW))) n1 o1 (z_:Int×AHY×AH7×AHW):=sT 132 [(0,.ptr 0 a [] 0),(1,.AA [1] AIe j1),(2,.AA [1] AIe k1),(18,.Ak 5),(19,dI o1),(20,dI z_.1)] [.box (.pr (dD AId z_.2.1) (.pr (.Ak 2) (.pr (.mp 3) (.pr (.Ak 6) .u)))),.row 145 .Ai (.Au AIe (.Au AIe .unit)) d,.row 104 .Ai AIg z_.2.2.1,.map .Ai Aa AIh l1 none,.AH,.row 238 (.sh [1]) Ae n1,.row 253 .Ai Aa z_.2.2.2]
def Ahu(a:Int) j1 k1 d (l1:(List (AHG×AHW))) (n1:AHZ) (o1:Int):=λ(q1:(AHY×AH7×AHW))=>(Ex.exit 0,sT 132 [(0,.ptr 0 a [] 0),(1,.AA [1] AIe j1),(2,.AA [1] AIe k1)] [.box (.pr (dD AId q1.1) (.pr (.Ak 2) (.pr (.mp 3) (.pr (.Ak 5) .u)))),.row 145 .Ai (.Au AIe (.Au AIe .unit)) d,.row 104 .Ai AIg q1.2.1,.map .Ai Aa AIh l1 none,.AH,.row 253 .Ai Aa q1.2.2])
def AiK(a:Int) j1 k1 o1 s1 t1 d u1 (l1:(List (AHG×AHW))) n1 v1:=sT 132 [(0,.ptr 0 a [] 0),(1,.AA [1] AIe j1),(2,.AA [1] AIe k1),(18,.Ak 5),(19,dI o1),(20,dI s1)] [.box (.pr (dD AId t1) (.pr (.Ak 2) (.pr (.mp 3) (.pr (.Ak 6) .u)))),.row 145 .Ai (.Au AIe (.Au AIe .unit)) d,.row 104 .Ai AIg u1,.map .Ai Aa AIh l1 none,.AH,.row 238 (.sh [1]) Ae n1,.row 253 .Ai Aa v1]
def Aht(a:Int) j1 k1 o1 s1 (t1:AHY) d (u1:AH7) (l1:(List (AHG×AHW))) n1 (v1:AHW):=λ(w1:(AHY×AH7×AHW))=>(Ex.normal,sT 132 [(0,.ptr 0 a [] 0),(1,.AA [1] AIe j1),(2,.AA [1] AIe k1),(18,.Ak 5),(19,dI o1),(20,dI s1)] [.box (.pr (dD AId w1.1) (.pr (.Ak 2) (.pr (.mp 3) (.pr (.Ak 6) .u)))),.row 145 .Ai (.Au AIe (.Au AIe .unit)) d,.row 104 .Ai AIg w1.2.1,.map .Ai Aa AIh l1 none,.AH,.row 238 (.sh [1]) Ae n1,.row 253 .Ai Aa w1.2.2])
def FA(a:Int)(j1 k1:AHZ)(o1 s1:Int)(t1:AHY)(d:List (AHZ×(AHZ×Unit)))(u1:AH7)(l1:List (AHG×AHW))(n1:AHZ)(v1:AHW):Option (AHY×AH7×AHW):=
 if 0<=s1/\s1<n1.length then
 bif decide ((n1.getD s1.toNat Ae.zero).1>=0)then
 (Bf a (n1.getD s1.toNat Ae.zero).1 (n1.getD s1.toNat Ae.zero).2.1 t1 u1 v1).bind λx1=>(Bf a (n1.getD s1.toNat Ae.zero).1 (wI ((n1.getD s1.toNat Ae.zero).2.1+(n1.getD s1.toNat Ae.zero).2.2.1)) x1.1 x1.2.1 x1.2.2).bind λy1=>some (y1.1,y1.2.1,y1.2.2)
 else
 some (t1,u1,v1)
 else none
theorem AjZ a j1 k1 o1 s1 t1 d u1 l1 n1 v1:AZ Ob 5 6 (cd f149 20) 14 (AiK a j1 k1 o1 s1 t1 d u1 l1 n1 v1) (FA a j1 k1 o1 s1 t1 d u1 l1 n1 v1) (Aht a j1 k1 o1 s1 t1 d u1 l1 n1 v1):=by
 unfold AZ;simp only[FA,AHE];kernel_rfl
def GY(a:Int)(j1 k1:AHZ)(d:List (AHZ×(AHZ×Unit)))(l1:List (AHG×AHW))(n1:AHZ)(o1 s1:Int)(t1:AHY)(u1:AH7)(v1:AHW):Option ((Int×AHY×AH7×AHW)⊕(AHY×AH7×AHW)):=
 bif decide (s1<o1)then
 (FA a j1 k1 o1 s1 t1 d u1 l1 n1 v1).bind λw1=>some (.inl (wI (s1+1),w1.1,w1.2.1,w1.2.2))
 else
 some (.inr (t1,u1,v1))
def CR a j1 k1 d l1 n1 o1 (z_:Int×AHY×AH7×AHW):=GY a j1 k1 d l1 n1 o1 z_.1 z_.2.1 z_.2.2.1 z_.2.2.2
def Ih a j1 k1 d l1 n1 o1 s1 t1 u1 v1:=fix (CR a j1 k1 d l1 n1 o1) (s1,t1,u1,v1)
theorem Aj0 a j1 k1 d l1 n1 o1:A5 Ob 5 1 (code f149) 10 (AiL a j1 k1 d l1 n1 o1) (CR a j1 k1 d l1 n1 o1) (Ahu a j1 k1 d l1 n1 o1):=by
 intro _;simp only[CR,GY,AHE];simp(disch:=refine id ?_;kernel_rfl) only[Bg (AjZ ..) (K:=Ld Ob 5 1)];kernel_rfl
def F9(a:Int)(j1 k1:AHZ)(a2:AHY)(d:List (AHZ×(AHZ×Unit)))(b2:AH7)(l1:List (AHG×AHW))(c2:AHW):Option (AHY×(List (AHZ×(AHZ×Unit)))×AH7×(List (AHG×AHW))×AHW):=
 (EU ([j1,k1]:AH9)).bind λn1=>(Ih a j1 k1 d l1 n1 (n1.length:Int) 0 a2 b2 c2).bind λq1=>(Ht j1).bind λb=>(Ht k1).bind λc=>(Hp a b c d 1 q1.1 q1.2.1 l1 q1.2.2).bind λe=>some (e.1,d,e.2.1,e.2.2.1,e.2.2.2)
theorem AyU R a j1 k1 a2 d b2 l1 c2 K:AW Ob f149 R [.ptr 0 a [] 0,.AA [1] AIe j1,.AA [1] AIe k1] [.box (.pr (dD AId a2) (.pr (.Ak 2) (.pr (.mp 3) (.pr (.Ak 4) .u)))),.row 145 .Ai (.Au AIe (.Au AIe .unit)) d,.row 104 .Ai AIg b2,.map .Ai Aa AIh l1 none,.row 253 .Ai Aa c2] K=(F9 a j1 k1 a2 d b2 l1 c2).bind λr=>K .nil [.box (.pr (dD AId r.1) (.pr (.Ak 2) (.pr (.mp 3) (.pr (.Ak 5) .u)))),.row 145 .Ai (.Au AIe (.Au AIe .unit)) r.2.1,.row 104 .Ai AIg r.2.2.1,.map .Ai Aa AIh r.2.2.2.1 none,.AH,.row 253 .Ai Aa r.2.2.2.2]:=by
 simp only[F9,AHF];simp(disch:=refine id ?_;kernel_rfl) only[Ih,AF (Aj0 _ _ _ _ _ _ _) (K:=A4 Ob f149 5 R K),Hp,AF (Aei _ _ _ _) (K:=A4 Ob f149 5 R K)];kernel_rfl
def AuY:=Cx [.Vu,.Vu,.Vu] [⟨[.ptr 0 [] 0,.AA [1] AIe,.AA [1] AIe],[.box (.pr (.AA [] AId) (.pr (.k (.Ak 2)) (.pr (.k (.mp 3)) (.pr (.k (.Ak 4)) (.k .u))))),.row 145 .Ai (.Au AIe (.Au AIe .unit)),.row 104 .Ai AIg,.map .Ai Aa AIh,.row 253 .Ai Aa],AHY×(List (AHZ×(AHZ×Unit)))×AH7×(List (AHG×AHW))×AHW,λp=>F9 p.1.1 p.1.2.1 p.1.2.2.1 p.2.1.1 p.2.2.1 p.2.2.2.1 p.2.2.2.2.1 p.2.2.2.2.2.1,λr=>(.nil,[.box (.pr (dD AId r.1) (.pr (.Ak 2) (.pr (.mp 3) (.pr (.Ak 5) .u)))),.row 145 .Ai (.Au AIe (.Au AIe .unit)) r.2.1,.row 104 .Ai AIg r.2.2.1,.map .Ai Aa AIh r.2.2.2.1 none,.AH,.row 253 .Ai Aa r.2.2.2.2])⟩]
theorem zw:As prog 149 AuY:=Aw ⟨⟨Ob,pk ⟨ck,z1,z6,trivial⟩,λ_ _ _=>AyU ..⟩,trivial⟩
abbrev Xj:Bd:=⟨A7,Az [(203,Aez)],{Ai:=true,take:=[37],A9:=[(1,{Ap:=[0,2],mvp:=[(0,[3])]}),(6,{Ap:=[0,2,45,46,47]}),(12,{Ap:=[2,7,68,69,70]}),(15,{Ap:=[2,7,8,68,69,70,75,76,77]})],BQ:=[(1,{Ap:=[0,2]}),(6,{Ap:=[0,2]}),(12,{Ap:=[2,7]}),(15,{Ap:=[2,7,68,69,70]})],BP:=[(19,{Ap:=[2,7,8,68,69,70,75,76,77]})],Yl:=[(18,{Ap:=[2,7,8,68,69,70,75,76,77],Wa:=true})],D2:=[(19,[2,7,8,68,69,70,75,76,77])],ZW:=[(18,[2,7,8,10,68,69,70,75,76,77])],stl:=[90]}⟩
def AiQ(a:List (AHG×AHW)) b c d e (z_:Int×AH6):=sT 98 [(2,.ptr 4 0 [] 0),(7,.ptr 5 0 [] 0),(68,.Ak 1),(69,dI b),(70,dI z_.1)] [.box (.pr (dD AId c) (.pr (.Ak 1) (.pr (.mp 2) (.pr (.Ak 6) .u)))),.row 104 .Ai AIg d,.map .Ai Aa AIh a none,.AH,.box (.pr .zs .u),.box (.pr (.Ak 7) .u),.row 253 .Ai Aa e,.row 72 .Ai AIf z_.2]
def Ahz(a:List (AHG×AHW))(b:Int) c d e:=λ(g:AH6)=>(Ex.exit 4,sT 98 [(2,.ptr 4 0 [] 0),(7,.ptr 5 0 [] 0)] [.box (.pr (dD AId c) (.pr (.Ak 1) (.pr (.mp 2) (.pr (.Ak 6) .u)))),.row 104 .Ai AIg d,.map .Ai Aa AIh a none,.AH,.box (.pr .zs .u),.box (.pr (.Ak 7) .u),.row 253 .Ai Aa e,.row 72 .Ai AIf g])
def AiP i b c d (a:(List (AHG×AHW))) e j k (z_:Int×AH6):=sT 98 [(2,.ptr 4 0 [] 0),(7,.ptr 5 0 [] 0),(8,dI i),(68,.Ak 1),(69,dI b),(70,dI i),(75,.AA [1] AIg j),(76,dI k),(77,dI z_.1)] [.box (.pr (dD AId c) (.pr (.Ak 1) (.pr (.mp 2) (.pr (.Ak 6) .u)))),.row 104 .Ai AIg d,.map .Ai Aa AIh a none,.AH,.box (.pr .zs .u),.box (.pr (.Ak 7) .u),.row 253 .Ai Aa e,.row 72 .Ai AIf z_.2]
def Ahy i b c d (a:(List (AHG×AHW))) e (j:AHU) (k:Int):=λ(l:AH6)=>(Ex.exit 6,sT 98 [(2,.ptr 4 0 [] 0),(7,.ptr 5 0 [] 0),(68,.Ak 1),(69,dI b),(70,dI i)] [.box (.pr (dD AId c) (.pr (.Ak 1) (.pr (.mp 2) (.pr (.Ak 6) .u)))),.row 104 .Ai AIg d,.map .Ai Aa AIh a none,.AH,.box (.pr .zs .u),.box (.pr (.Ak 7) .u),.row 253 .Ai Aa e,.row 72 .Ai AIf l])
def AiO i b j k n c d (a:(List (AHG×AHW))) e o:=sT 98 [(2,.ptr 4 0 [] 0),(7,.ptr 5 0 [] 0),(8,dI i),(68,.Ak 1),(69,dI b),(70,dI i),(75,.AA [1] AIg j),(76,dI k),(77,dI n)] [.box (.pr (dD AId c) (.pr (.Ak 1) (.pr (.mp 2) (.pr (.Ak 6) .u)))),.row 104 .Ai AIg d,.map .Ai Aa AIh a none,.AH,.box (.pr .zs .u),.box (.pr (.Ak 7) .u),.row 253 .Ai Aa e,.row 72 .Ai AIf o]
def Ahx i b j k n c d (a:(List (AHG×AHW))) e (o:AH6):=λ(q:AH6)=>(Ex.normal,sT 98 [(2,.ptr 4 0 [] 0),(7,.ptr 5 0 [] 0),(8,dI i),(68,.Ak 1),(69,dI b),(70,dI i),(75,.AA [1] AIg j),(76,dI k),(77,dI n)] [.box (.pr (dD AId c) (.pr (.Ak 1) (.pr (.mp 2) (.pr (.Ak 6) .u)))),.row 104 .Ai AIg d,.map .Ai Aa AIh a none,.AH,.box (.pr .zs .u),.box (.pr (.Ak 7) .u),.row 253 .Ai Aa e,.row 72 .Ai AIf q])
def yh i n b j k c d (a:(List (AHG×AHW))) e o:=sT 98 [(2,.ptr 4 0 [] 0),(7,.ptr 5 0 [] 0),(8,dI i),(10,dI n),(68,.Ak 1),(69,dI b),(70,dI i),(75,.AA [1] AIg j),(76,dI k),(77,dI n)] [.box (.pr (dD AId c) (.pr (.Ak 1) (.pr (.mp 2) (.pr (.Ak 6) .u)))),.row 104 .Ai AIg d,.map .Ai Aa AIh a none,.AH,.box (.pr .zs .u),.box (.pr (.Ak 7) .u),.row 253 .Ai Aa e,.row 72 .Ai AIf o]
def Y6 i n b j k c d (a:(List (AHG×AHW))) e (o:AH6):=λ(s:Unit)=>sT 98 [(2,.ptr 4 0 [] 0),(7,.ptr 5 0 [] 0),(8,dI i),(68,.Ak 1),(69,dI b),(70,dI i),(75,.AA [1] AIg j),(76,dI k),(77,dI n)] [.box (.pr (dD AId c) (.pr (.Ak 1) (.pr (.mp 2) (.pr (.Ak 6) .u)))),.row 104 .Ai AIg d,.map .Ai Aa AIh a none,.AH,.box (.pr .zs .u),.box (.pr (.Ak 7) .u),.row 253 .Ai Aa e,.row 72 .Ai AIf (o.set i.toNat ((o.getD i.toNat AIf.zero)++([n]:AHT)))]
def Hm(i n b:Int)(j:AHU)(k:Int)(c:AHY)(d:AH7)(a:List (AHG×AHW))(e:AHW)(o:AH6):Option Unit:=
 if 0<=i/\i<o.length then
 if((o.getD i.toNat AIf.zero).length+([n]:AHT).length)*8<=140737488355328 then
 if 0<=i/\i<o.length then
 if i=i then
 some ()
 else none
 else none
 else none
 else none
theorem Aka(i n b:Int)(j:AHU)(k:Int)(c:AHY)(d:AH7)(a:List (AHG×AHW))(e:AHW)(o:AH6):Rk Xj 4 18 (sb (sb (cd f150 244) 460) 14) 22 (yh i n b j k c d a e o) (Hm i n b j k c d a e o) (Y6 i n b j k c d a e o):=by
 unfold Rk;have h:tH Xj 4 18 (sb (sb (cd f150 244) 460) 14) (pt 22) (yh i n b j k c d a e o) =
 if 0<=i/\i<o.length then
 if((o.getD i.toNat AIf.zero).length+([n]:AHT).length)*8<=140737488355328 then
 if 0<=i/\i<o.length then
 if i=i then
 ((if 0<=i/\i<o.length then
 (if((o.getD i.toNat AIf.zero).length+([n]:AHT).length)*8<=140737488355328 then
 if 0<=i/\i<o.length then
 if i=i then
 Sl (Y6 i n b j k c d a e o ()) (Y6 i n b j k c d a e o ())
 else none
 else none
 else none).bind λ_=>if((o.getD i.toNat AIf.zero).length+([n]:AHT).length)*8<=140737488355328 then
 if 0<=i/\i<o.length then
 if i=i then
 Sl (Y6 i n b j k c d a e o ()) (Y6 i n b j k c d a e o ())
 else none
 else none
 else none
 else none).bind λ_=>some (Y6 i n b j k c d a e o ()))
 else none
 else none
 else none
 else none:=by kernel_rfl
 rw[h];unfold Hm;simp only[AHE,mS,mO];clear h;by_cases GR:(0:Int)<=i/\i<(o.length:Int)
 ·rw[AHd GR,AHd GR];by_cases OS:((o.getD i.toNat AIf.zero).length+([n]:AHT).length)*8<=140737488355328
  ·rw[AHd OS,AHd OS];simp only[AHd GR,AHd OS,if_true,AGV,G7]
  ·simp only[AHd GR,if_true,AHe OS]
 ·simp only[if_true,AHe GR]
def EE(i b:Int)(j:AHU)(k n:Int)(c:AHY)(d:AH7)(a:List (AHG×AHW))(e:AHW)(o:AH6):Option AH6:=
 if 0<=n/\n<j.length then
 bif j.getD n.toNat (Ty.zero .bool)then
 (Hm i n b j k c d a e o).bind λs=>some (o.set i.toNat ((o.getD i.toNat AIf.zero)++([n]:AHT)))
 else
 some o
 else none
theorem Akb i b j k n c d a e o:AZ Xj 4 19 (sb (cd f150 244) 460) 14 (AiO i b j k n c d a e o) (EE i b j k n c d a e o) (Ahx i b j k n c d a e o):=by
 unfold AZ;simp only[EE,AHE];simp(disch:=refine id ?_;kernel_rfl) only[Vf (Aka ..) (K:=Te Xj 4 19)];kernel_rfl
def FN(i b:Int)(c:AHY)(d:AH7)(a:List (AHG×AHW))(e:AHW)(j:AHU)(k n:Int)(o:AH6):Option ((Int×AH6)⊕AH6):=
 bif decide (n<k)then
 (EE i b j k n c d a e o).bind λq=>some (.inl (wI (n+1),q))
 else
 some (.inr o)
def CG i b c d a e j k (z_:Int×AH6):=FN i b c d a e j k z_.1 z_.2
def Hn i b c d a e j k n o:=fix (CG i b c d a e j k) (n,o)
theorem Akc i b c d a e j k:A5 Xj 4 15 (cd f150 244) 230 (AiP i b c d a e j k) (CG i b c d a e j k) (Ahy i b c d a e j k):=by
 intro _;simp only[CG,FN,AHE];simp(disch:=refine id ?_;kernel_rfl) only[Bg (Akb ..) (K:=Ld Xj 4 15)];kernel_rfl
def FO(a:List (AHG×AHW))(b:Int)(c:AHY)(d:AH7)(e:AHW)(i:Int)(t:AH6):Option ((Int×AH6)⊕AH6):=
 bif decide (i<b)then
 if 0<=i/\i<d.length then
 (Hn i b c d a e (d.getD i.toNat AIg.zero) ((d.getD i.toNat AIg.zero).length:Int) 0 t).bind λl=>some (.inl (wI (i+1),l))
 else none
 else
 some (.inr t)
def CH a b c d e (z_:Int×AH6):=FO a b c d e z_.1 z_.2
def Ho a b c d e i t:=fix (CH a b c d e) (i,t)
theorem Akd a b c d e:A5 Xj 4 12 (code f150) 122 (AiQ a b c d e) (CH a b c d e) (Ahz a b c d e):=by
 intro _;simp only[CH,FO,AHE];simp(disch:=refine id ?_;kernel_rfl) only[Hn,AF (Akc _ _ _ _ _ _ _ _) (K:=Ld Xj 4 12)];kernel_rfl
def AiN(u:Int)(a:List (AHG×AHW))(z_:AHY×AH7×AHW):=sT 98 [(0,.ptr 0 u [] 0),(2,.ptr 4 0 [] 0)] [.box (.pr (dD AId z_.1) (.pr (.Ak 1) (.pr (.mp 2) (.pr (.Ak 5) .u)))),.row 104 .Ai AIg z_.2.1,.map .Ai Aa AIh a none,.AH,.box (.pr .zs .u),.row 253 .Ai Aa z_.2.2]
def Ahw(u:Int)(a:List (AHG×AHW)):=λ(v:(AHY×AH7×AHW))=>(Ex.exit 0,sT 98 [(0,.ptr 0 u [] 0),(2,.ptr 4 0 [] 0)] [.box (.pr (dD AId v.1) (.pr (.Ak 1) (.pr (.mp 2) (.pr (.Ak 5) .u)))),.row 104 .Ai AIg v.2.1,.map .Ai Aa AIh a none,.AH,.box (.pr .zs .u),.row 253 .Ai Aa v.2.2])
def AiM(u:Int)(a:List (AHG×AHW)) w x (z_:Int×AHY×AH7×AHW):=sT 98 [(0,.ptr 0 u [] 0),(2,.ptr 4 0 [] 0),(45,.AA [2] AIh w),(46,dI x),(47,dI z_.1)] [.box (.pr (dD AId z_.2.1) (.pr (.Ak 1) (.pr (.mp 2) (.pr (.Ak 5) .u)))),.row 104 .Ai AIg z_.2.2.1,.map .Ai Aa AIh a none,.AH,.box (.pr .zs .u),.row 253 .Ai Aa z_.2.2.2]
def Ahv(u:Int)(a:List (AHG×AHW))(w:AHW)(x:Int):=λ(y:(AHY×AH7×AHW))=>(Ex.exit 2,sT 98 [(0,.ptr 0 u [] 0),(2,.ptr 4 0 [] 0)] [.box (.pr (dD AId y.1) (.pr (.Ak 1) (.pr (.mp 2) (.pr (.Ak 5) .u)))),.row 104 .Ai AIg y.2.1,.map .Ai Aa AIh a none,.AH,.box (.pr .zs .u),.row 253 .Ai Aa y.2.2])
def FK(u:Int)(a:List (AHG×AHW))(w:AHW)(x a1:Int)(b1:AHY)(c1:AH7)(d1:AHW):Option ((Int×AHY×AH7×AHW)⊕(AHY×AH7×AHW)):=
 bif decide (a1<x)then
 if 0<=a1/\a1<w.length then
 (Bf u (w.getD a1.toNat Aa.zero).1 (w.getD a1.toNat Aa.zero).2.1 b1 c1 d1).bind λe1=>some (.inl (wI (a1+1),e1.1,e1.2.1,e1.2.2))
 else none
 else
 some (.inr (b1,c1,d1))
def CF u a w x (z_:Int×AHY×AH7×AHW):=FK u a w x z_.1 z_.2.1 z_.2.2.1 z_.2.2.2
def ED u a w x a1 b1 c1 d1:=fix (CF u a w x) (a1,b1,c1,d1)
theorem Aj8 u a w x:A5 Xj 4 6 (cd f150 24) 222 (AiM u a w x) (CF u a w x) (Ahv u a w x):=by
 intro _;simp only[CF,FK,AHE];kernel_rfl
def Jh(u:Int)(a:List (AHG×AHW))(g1:AHY)(i1:AH7)(j1:AHW):Option ((AHY×AH7×AHW)⊕(AHY×AH7×AHW)):=
 bif decide ((j1.length:Int)>0)then
 if 0<=(wI ((j1.length:Int)-1))/\(wI ((j1.length:Int)-1))<j1.length then
 if(0:Int)<=(wI ((j1.length:Int)-1))/\(wI ((j1.length:Int)-1))<=(j1.length:Int)then
 (ED u a (Bh Aa AIh a (j1.getD (wI ((j1.length:Int)-1)).toNat Aa.zero)) ((Bh Aa AIh a (j1.getD (wI ((j1.length:Int)-1)).toNat Aa.zero)).length:Int) 0 g1 i1 (j1.take (wI ((j1.length:Int)-1)).toNat)).bind λy=>some (.inl (y.1,y.2.1,y.2.2))
 else none
 else none
 else
 some (.inr (g1,i1,j1))
def FL u a (z_:AHY×AH7×AHW):=Jh u a z_.1 z_.2.1 z_.2.2
def Hl u a g1 i1 j1:=fix (FL u a) (g1,i1,j1)
theorem Aj9 u a:A5 Xj 4 1 (code f150) 12 (AiN u a) (FL u a) (Ahw u a):=by
 intro _;simp only[FL,Jh,AHE];simp(disch:=refine id ?_;kernel_rfl) only[ED,AF (Aj8 _ _ _ _) (K:=Ld Xj 4 1)];kernel_rfl
def Hk(u:Int)(k1:AHY)(l1:AH7)(a:List (AHG×AHW))(n1:AHW):Option (AHY×AH7×(List (AHG×AHW))×AH6×AHW):=
 (Hl u a k1 l1 n1).bind λv=>if Ty.row AIf=true/\(0:Int)<=(v.1.length:Int)/\(v.1.length:Int)<=(v.1.length:Int)/\((24:Nat):Int)*(v.1.length:Int)<=(281474976710656:Int)/\(v.1.length:Int)<=(9223372036854775807:Int)then
 (Ho a (v.2.1.length:Int) v.1 v.2.1 v.2.2 0 (List.replicate (v.1.length:Int).toNat ([]:AHT))).bind λg=>some (v.1,v.2.1,a,g,v.2.2)
 else none
theorem AyV R u k1 l1 a n1 K:AW Xj f150 R [.ptr 0 u [] 0] [.box (.pr (dD AId k1) (.pr (.Ak 1) (.pr (.mp 2) (.pr (.Ak 3) .u)))),.row 104 .Ai AIg l1,.map .Ai Aa AIh a none,.row 253 .Ai Aa n1] K=(Hk u k1 l1 a n1).bind λr=>K (.pr (.Ak 4) .u) [.box (.pr (dD AId r.1) (.pr (.Ak 1) (.pr (.mp 2) (.pr (.Ak 5) .u)))),.row 104 .Ai AIg r.2.1,.map .Ai Aa AIh r.2.2.1 none,.AH,.row 72 .Ai AIf r.2.2.2.1,.row 253 .Ai Aa r.2.2.2.2]:=by
 simp only[Hk,AHF];simp(disch:=refine id ?_;kernel_rfl) only[Hl,AF (Aj9 _ _) (K:=A4 Xj f150 4 R K),Ho,AF (Akd _ _ _ _ _) (K:=A4 Xj f150 4 R K)];kernel_rfl
def AuZ:=Cx [.Vu] [⟨[.ptr 0 [] 0],[.box (.pr (.AA [] AId) (.pr (.k (.Ak 1)) (.pr (.k (.mp 2)) (.pr (.k (.Ak 3)) (.k .u))))),.row 104 .Ai AIg,.map .Ai Aa AIh,.row 253 .Ai Aa],AHY×AH7×(List (AHG×AHW))×AH6×AHW,λp=>Hk p.1.1 p.2.1.1 p.2.2.1 p.2.2.2.1 p.2.2.2.2.1,λr=>(.pr (.Ak 4) .u,[.box (.pr (dD AId r.1) (.pr (.Ak 1) (.pr (.mp 2) (.pr (.Ak 5) .u)))),.row 104 .Ai AIg r.2.1,.map .Ai Aa AIh r.2.2.1 none,.AH,.row 72 .Ai AIf r.2.2.2.1,.row 253 .Ai Aa r.2.2.2.2])⟩]
theorem zx:As prog 150 AuZ:=Aw ⟨⟨Xj,pk ⟨ck,trivial⟩,λ_ _ _=>AyV ..⟩,trivial⟩
abbrev u7:Bd:=⟨A7,Az [(83,c83),(146,AuW),(147,Alp),(148,AuX),(149,AuY),(150,AuZ)],{Ai:=true,A9:=[(8,{Ap:=[6,10,36,37,38]})],BQ:=[(8,{Ap:=[6,10]})],BP:=[(2,{Ap:=[0,1,5,6,22]})],D2:=[(2,[0,1,5,6])],dT:=[(0,.row [0] 72 AIf true)]}⟩
def AiS(a:Int) b (z_:Int×AHY×(List (AHZ×(AHZ×Unit)))×AH7×(List (AHG×AHW))×AHW):=sT 51 [(6,.ptr 0 0 [] 0),(10,.ptr 1 a [] 0),(36,.Ak 2),(37,dI b),(38,dI z_.1)] [.box (.pr .zs .u),.box (.pr (dD AId z_.2.1) (.pr (.Ak 3) (.pr (.mp 4) (.pr (.Ak 5) .u)))),.row 145 .Ai (.Au AIe (.Au AIe .unit)) z_.2.2.1,.row 104 .Ai AIg z_.2.2.2.1,.map .Ai Aa AIh z_.2.2.2.2.1 none,.row 253 .Ai Aa z_.2.2.2.2.2]
def AhB(a b:Int):=λ(c:(AHY×AH7×(List (AHG×AHW))×AHW))=>(Ex.exit 0,sT 51 [(6,.ptr 0 0 [] 0),(10,.ptr 1 a [] 0)] [.box (.pr .zs .u),.box (.pr (dD AId c.1) (.pr (.Ak 2) (.pr (.mp 3) (.pr (.Ak 4) .u)))),.row 104 .Ai AIg c.2.1,.map .Ai Aa AIh c.2.2.1 none,.row 253 .Ai Aa c.2.2.2])
def Ie(a b d:Int)(e:AHY)(g:List (AHZ×(AHZ×Unit)))(i:AH7)(j:List (AHG×AHW))(k:AHW):Option ((Int×AHY×(List (AHZ×(AHZ×Unit)))×AH7×(List (AHG×AHW))×AHW)⊕(AHY×AH7×(List (AHG×AHW))×AHW)):=
 bif decide (d<b)then
 if 0<=d/\d<g.length then
 (F9 a (g.getD d.toNat (Ty.zero (.Au AIe (.Au AIe .unit)))).1 (g.getD d.toNat (Ty.zero (.Au AIe (.Au AIe .unit)))).2.1 e g i j k).bind λl=>some (.inl (wI (d+1),l.1,l.2.1,l.2.2.1,l.2.2.2.1,l.2.2.2.2))
 else none
 else
 some (.inr (e,i,j,k))
def Dw a b (z_:Int×AHY×(List (AHZ×(AHZ×Unit)))×AH7×(List (AHG×AHW))×AHW):=Ie a b z_.1 z_.2.1 z_.2.2.1 z_.2.2.2.1 z_.2.2.2.2.1 z_.2.2.2.2.2
def KC a b d e g i j k:=fix (Dw a b) (d,e,g,i,j,k)
theorem Akf a b:A5 u7 0 8 (code f81) 506 (AiS a b) (Dw a b) (AhB a b):=by
 intro _;simp only[Dw,Ie,AHE];kernel_rfl
def AiR n o q:=sT 51 [(0,dD AId n),(1,dD AIi o),(5,.ptr 0 0 [] 0),(6,.ptr 1 0 [] 0)] [.box (dD Aj q),.box (.pr .zs .u)]
def AhA n o q:=λ(s:Bool)=>(Ex.normal,sT 51 [(0,dD AId n),(1,dD AIi o),(5,.ptr 0 0 [] 0),(6,.ptr 1 0 [] 0),(22,dB s)] [.box (dD Aj q),.box (.pr .zs .u)])
def KB(n:AHY)(o:AH0)(q:AHN):Option Bool:=
 (OA n q).bind λt=>bif !t then
 some true
 else
 (DX n o).bind λu=>some (!u)
theorem Ake n o q:AZ u7 0 2 (code f81) 12 (AiR n o q) (KB n o q) (AhA n o q):=by
 unfold AZ;simp only[KB,AHE];kernel_rfl
def Gw(n:AHY)(o:AH0)(q:AHN):Option (Bool×AH6):=
 (KB n o q).bind λs=>bif s then
 some (false,([]:AH6))
 else
 (Ln n o).bind λv=>bif !v.1 then
 some (false,([]:AH6))
 else
 (IJ n q).bind λw=>(KC w.1 (v.2.length:Int) 0 w.2.1 v.2 w.2.2.1 w.2.2.2.1 w.2.2.2.2).bind λc=>(Hk w.1 c.1 c.2.1 c.2.2.1 c.2.2.2).bind λx=>some (true,x.2.2.2.1)
theorem AyW R n o q K:AW u7 f81 R [dD AId n,dD AIi o,dD Aj q] [] K=(Gw n o q).bind λr=>K (.cons (.pr (.Ak 0) .u) (.cons (dB r.1) .nil)) [.row 72 .Ai AIf r.2]:=by
 simp only[Gw,AHF];simp(disch:=refine id ?_;kernel_rfl) only[Bg (Ake ..) (K:=A4 u7 f81 0 R K),KC,AF (Akf _ _) (K:=A4 u7 f81 0 R K)];kernel_rfl
def c81:=Cx [.d AId,.d AIi,.d Aj] [⟨[.AA [] AId,.AA [] AIi,.AA [] Aj],[],Bool×AH6,λp=>Gw p.1.1 p.1.2.1 p.1.2.2.1,λr=>(.cons (.pr (.Ak 0) .u) (.cons (dB r.1) .nil),[.row 72 .Ai AIf r.2])⟩]
theorem AeT:As prog 81 c81:=Aw ⟨⟨u7,pk ⟨jJ,zt,mL,zu,zw,zx,trivial⟩,λ_ _ _=>AyW ..⟩,trivial⟩
noncomputable def Au5:Va.Callee:=Xq 2 AIa 8
noncomputable abbrev Av3:Bd:={A7:=A7,fns:=Az [],fi:={}}
theorem Ae5:Iv Tryz.prog Av3:=(pk (l:=[]) trivial)
theorem zD:As Tryz.prog 162 Au5:=
 Zf (fn:=Tryz.f162) Ae5 (by kernel_rfl) (by kernel_rfl) rfl rfl rfl ⟨rfl,rfl,rfl⟩ ⟨rfl,rfl,rfl⟩ (ti:=⟨.sl AIa,[],2,24,0,0,false⟩) (by kernel_rfl) rfl (by kernel_rfl) (λxs=>by kernel_rfl) (λxs=>by kernel_rfl)
  λxs h=>by
   have h0:ev Av3 0 (sub (code Tryz.f162) [1,1]) (Ex×St) ⟨[.AA [] AIf xs,.un 0,.zs,.AA [] AIf xs,.bool false,.un 0,.un 0,.un 0],[]⟩ Nk=if xs.length*8<=140737488355328 then some (.ret,⟨[.AA [] AIf xs,.un 0,.Ak 0,.AA [] AIf xs,.bool false,.zs,.AA [] AIf xs,.Ak 0],[.row 2 .Ai AIa xs]⟩)else none:=by kernel_rfl
   exact h0.trans (AHd h)
abbrev jh:Bd:=⟨A7,Az [(162,Au5)],{Ai:=true,A9:=[(3,{Ap:=[0,5,13,14,15],B6:=[(5,false,.row [] 157 Ab true)]}),(7,{Ap:=[0,5,6,8,13,14,15,28,29,30],B6:=[(5,false,.row [] 157 Ab true)]})],BQ:=[(3,{Ap:=[5]}),(7,{Ap:=[0,5,13,14,15]})],Yl:=[(6,{Ap:=[0,5,6,8,13,14,15,28,29,30],Wa:=true,Rj:=[(28,false,AIf)]})],ZW:=[(6,[0,5,6,7,8,13,14,15])]}⟩
def AiU a b c (z_:Int×AHX):=sT 47 [(0,dD AId a),(5,.Ak 0),(13,dD AIn b),(14,dI c),(15,dI z_.1)] [.row 157 .Ai Ab z_.2]
def AhD(a:AHY)(b:AH6)(c:Int):=λ(d:AHX)=>(Ex.exit 0,sT 47 [(5,.Ak 0)] [.row 157 .Ai Ab d])
def AiT a e b c g i (z_:Int×Int×AHX):=sT 47 [(0,dD AId a),(5,.Ak 0),(6,dI e),(8,dI z_.1),(13,dD AIn b),(14,dI c),(15,dI e),(28,dD AIf g),(29,dI i),(30,dI z_.2.1)] [.row 157 .Ai Ab z_.2.2]
def AhC a e b c (g:AHT) (i:Int):=λ(j:AHX)=>(Ex.exit 2,sT 47 [(0,dD AId a),(5,.Ak 0),(13,dD AIn b),(14,dI c),(15,dI e)] [.row 157 .Ai Ab j])
def Jp(a:AHY)(e:Int)(b:AH6)(c:Int)(g:AHT)(i k l:Int)(n:AHX):Option ((Int×Int×AHX)⊕AHX):=
 bif decide (l<i)then
 if 0<=l/\l<g.length then
 if(n.length+([(e,k,wI ((g.getD l.toNat AIa.zero)-k),())]:AHX).length)*24<=140737488355328 then
 some (.inl (g.getD l.toNat AIa.zero,wI (l+1),n++([(e,k,wI ((g.getD l.toNat AIa.zero)-k),())]:AHX)))
 else none
 else none
 else
 some (.inr n)
def Ef a e b c g i (z_:Int×Int×AHX):=Jp a e b c g i z_.1 z_.2.1 z_.2.2
def L9 a e b c g i k l n:=fix (Ef a e b c g i) (k,l,n)
theorem Akh a e b c g i:A5 jh 0 7 (cd f86 116) 462 (AiT a e b c g i) (Ef a e b c g i) (AhC a e b c g i):=by
 intro _;simp only[Ef,Jp,AHE];kernel_rfl
def yi a e b c o q:=sT 47 [(0,dD AId a),(5,.Ak 0),(6,dI e),(7,dD AIf q),(8,dI 0),(13,dD AIn b),(14,dI c),(15,dI e)] [.row 157 .Ai Ab o]
def jo a e b c o (q:AHT):=λ(s:(AHT×Int))=>sT 47 [(0,dD AId a),(5,.Ak 0),(6,dI e),(8,dI 0),(13,dD AIn b),(14,dI c),(15,dI e),(28,dD AIf s.1),(29,dI s.2),(30,dI 0)] [.row 157 .Ai Ab o]
def IP(a:AHY)(e:Int)(b:AH6)(c:Int)(o:AHX)(q:AHT):Option (AHT×Int):=
 if q.length*8<=140737488355328 then
 if 0<=e/\e<a.length then
 if(q.length+([(a.getD e.toNat Ad.zero).2.1]:AHT).length)*8<=140737488355328 then
 some (q++([(a.getD e.toNat Ad.zero).2.1]:AHT),((q++([(a.getD e.toNat Ad.zero).2.1]:AHT)).length:Int))
 else none
 else none
 else none
noncomputable def jB(a:AHY)(e:Int)(b:AH6)(c:Int)(o:AHX)(q:AHT):Option Unit:=if q.length*8<=140737488355328 then if(q.length+([(a.getD e.toNat Ad.zero).2.1]:AHT).length)*8<=140737488355328 then Sl (jo a e b c o q (q++([(a.getD e.toNat Ad.zero).2.1]:AHT),((q++([(a.getD e.toNat Ad.zero).2.1]:AHT)).length:Int))) (jo a e b c o q (q++([(a.getD e.toNat Ad.zero).2.1]:AHT),((q++([(a.getD e.toNat Ad.zero).2.1]:AHT)).length:Int)))else none else none
theorem Akg(a:AHY)(e:Int)(b:AH6)(c:Int)(o:AHX)(q:AHT):Rk jh 0 6 (cd f86 116) 230 (yi a e b c o q) (IP a e b c o q) (jo a e b c o q):=by
 unfold Rk;have h:tH jh 0 6 (cd f86 116) (pt 230) (yi a e b c o q) =
 if q.length*8<=140737488355328 then if 0<=e/\e<a.length then if(q.length+([(a.getD e.toNat Ad.zero).2.1]:AHT).length)*8<=140737488355328 then((if 0<=e/\e<a.length then(jB a e b c o q).bind λ_=>(jB a e b c o q).bind λ_=>jB a e b c o q else none).bind λ_=>some (jo a e b c o q (q++([(a.getD e.toNat Ad.zero).2.1]:AHT),((q++([(a.getD e.toNat Ad.zero).2.1]:AHT)).length:Int))))else none else none else none:=by kernel_rfl
 rw[h];unfold IP;simp only[AHE,mS,mO];clear h;by_cases GR:q.length*8<=140737488355328
 ·rw[AHd GR,AHd GR];by_cases OS:(0:Int)<=e/\e<(a.length:Int)
  ·rw[AHd OS,AHd OS];by_cases qa:(q.length+([(a.getD e.toNat Ad.zero).2.1]:AHT).length)*8<=140737488355328
   ·rw[AHd qa,AHd qa];simp only[jB,AHb,AHd GR,AHd OS,AHd qa,if_true,AGV,G7]
   ·simp only[AHd GR,AHd OS,if_true,AHe qa]
  ·simp only[AHd GR,if_true,AHe OS]
 ·simp only[if_true,AHe GR]
def Jq(a:AHY)(b:AH6)(c e:Int)(o:AHX):Option ((Int×AHX)⊕AHX):=
 bif decide (e<c)then
 if 0<=e/\e<b.length then
 (IP a e b c o (b.getD e.toNat AIf.zero)).bind λs=>(L9 a e b c s.1 s.2 0 0 o).bind λj=>some (.inl (wI (e+1),j))
 else none
 else
 some (.inr o)
def Eg a b c (z_:Int×AHX):=Jq a b c z_.1 z_.2
def Ma a b c e o:=fix (Eg a b c) (e,o)
theorem Aki a b c:A5 jh 0 3 (code f86) 58 (AiU a b c) (Eg a b c) (AhD a b c):=by
 intro _;simp only[Eg,Jq,AHE];simp(disch:=refine id ?_;kernel_rfl) only[Vf (Akg ..) (K:=Ld jh 0 3),L9,AF (Akh _ _ _ _ _ _) (K:=Ld jh 0 3)];kernel_rfl
def Ki(a:AHY)(t:AHN):Option AHX:=
 (Ma a t.1 (t.1.length:Int) 0 ([]:AHX)).bind λd=>some d
theorem AyX R a t K:AW jh f86 R [dD AId a,dD Aj t] [] K=(Ki a t).bind λr=>K (.Ak 0) [.row 157 .Ai Ab r]:=by
 simp only[Ki,AHF];simp(disch:=refine id ?_;kernel_rfl) only[Ma,AF (Aki _ _ _) (K:=A4 jh f86 0 R K)];kernel_rfl
def c86:=Cx [.d AId,.d Aj] [⟨[.AA [] AId,.AA [] Aj],[],AHX,λp=>Ki p.1.1 p.1.2.1,λr=>(.Ak 0,[.row 157 .Ai Ab r])⟩]
theorem AeW:As prog 86 c86:=Aw ⟨⟨jh,pk ⟨zD,trivial⟩,λ_ _ _=>AyX ..⟩,trivial⟩
abbrev AdY:Bd:=⟨A7,Az [],{Ai:=true,A9:=[(3,{Ap:=[3,7,8,9]})],BQ:=[(3,{Ap:=[3]})]}⟩
def AiV a b (z_:Int×(List (AHG×Int))):=sT 23 [(3,.mp 0),(7,dD AIj a),(8,dI b),(9,dI z_.1)] [.map .Ai Aa AIa z_.2 none]
def AhE(a:AHX)(b:Int):=λ(c:(List (AHG×Int)))=>(Ex.exit 0,sT 23 [(3,.mp 0)] [.map .Ai Aa AIa c none])
def Jj(a:AHX)(b d:Int)(e:List (AHG×Int)):Option ((Int×(List (AHG×Int)))⊕(List (AHG×Int))):=
 bif decide (d<b)then
 if 0<=d/\d<a.length then
 some (.inl (wI (d+1),BS Aa AIa e ((a.getD d.toNat Ab.zero).1,(a.getD d.toNat Ab.zero).2.1,()) d))
 else none
 else
 some (.inr e)
def Eb a b (z_:Int×(List (AHG×Int))):=Jj a b z_.1 z_.2
def L0 a b d e:=fix (Eb a b) (d,e)
theorem Akj a b:A5 AdY 0 3 (code f85) 58 (AiV a b) (Eb a b) (AhE a b):=by
 intro _;simp only[Eb,Jj,AHE];kernel_rfl
def Kh(a:AHX):Option (List (AHG×Int)):=
 (L0 a (a.length:Int) 0 ([]:List (AHG×Int))).bind λc=>some c
theorem AyY R a K:AW AdY f85 R [dD AIj a] [] K=(Kh a).bind λr=>K (.mp 0) [.map .Ai Aa AIa r none]:=by
 simp only[Kh,AHF];simp(disch:=refine id ?_;kernel_rfl) only[L0,AF (Akj _ _) (K:=A4 AdY f85 0 R K)];kernel_rfl
def c85:=Cx [.d AIj] [⟨[.AA [] AIj],[],List (AHG×Int),λp=>Kh p.1.1,λr=>(.mp 0,[.map .Ai Aa AIa r none])⟩]
theorem AeV:As prog 85 c85:=Aw ⟨⟨AdY,pk trivial,λ_ _ _=>AyY ..⟩,trivial⟩
end
end Go.Proofs.X
