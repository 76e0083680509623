import Derived.KernelRfl
import Derived.Test.YtlohhmmaibiimaaGreatK4
set_option linter.unusedVariables false
set_option linter.unusedSimpArgs false
namespace Go.Proofs.X
open Go Go.Va Go.Proofs.Tryz
set_option maxRecDepth 100000
noncomputable section
abbrev E40:Bd:=⟨A7,Az [(52,c52),(119,Aes)],{Ai:=true,A9:=[(4,{Ap:=[0,3,5]}),(7,{Ap:=[0,3,5,6]})],BQ:=[(4,{Ap:=[4]}),(7,{Ap:=[0,3,4,5]})],BP:=[(2,{Ap:=[0,3,17]}),(10,{Ap:=[0,3,5,6,74]})],D2:=[(2,[0,3]),(10,[0,3,5,6])]}⟩
def Aqv a b (z_:Int):=sT 75 [(0,dD AId a),(3,.ptr 0 0 [] 0),(5,dI z_)] [.box (dD Aj b)]
def Aon(a:AHY)(b:AHN):=Sum.elim (λ(c:Unit)=>(Ex.ret,sT 75 [(4,dB false)] [])) (λ(d:Unit)=>(Ex.exit 0,sT 75 [] []))
def Aqu a e b (z_:Int):=sT 75 [(0,dD AId a),(3,.ptr 0 0 [] 0),(5,dI e),(6,dI z_)] [.box (dD Aj b)]
def Aom a e b:=Sum.elim (λ(g:Unit)=>(Ex.ret,sT 75 [(0,dD AId a),(3,.ptr 0 0 [] 0),(4,dB false),(5,dI e)] [.box (dD Aj b)])) (λ(i:Unit)=>(Ex.exit 2,sT 75 [(0,dD AId a),(3,.ptr 0 0 [] 0),(5,dI e)] [.box (dD Aj b)]))
def Aqt a e j b:=sT 75 [(0,dD AId a),(3,.ptr 0 0 [] 0),(5,dI e),(6,dI j)] [.box (dD Aj b)]
def Aol a e j b:=λ(k:Bool)=>(Ex.normal,sT 75 [(0,dD AId a),(3,.ptr 0 0 [] 0),(5,dI e),(6,dI j),(74,dB k)] [.box (dD Aj b)])
def LB(a:AHY)(e j:Int)(b:AHN):Option Bool:=
 if 0<=e/\e<b.1.length then
 if 0<=j/\j<(b.1.getD e.toNat AIf.zero).length then
 if 0<=e/\e<a.length then
 bif !(Bz ((b.1.getD e.toNat AIf.zero).getD j.toNat AIa.zero) 1 (wI ((a.getD e.toNat Ad.zero).2.1-1)))then
 some true
 else
 bif decide (j>0)then
 if 0<=e/\e<b.1.length then
 if 0<=j/\j<(b.1.getD e.toNat AIf.zero).length then
 if 0<=e/\e<b.1.length then
 if 0<=(wI (j-1))/\(wI (j-1))<(b.1.getD e.toNat AIf.zero).length then
 some (decide (((b.1.getD e.toNat AIf.zero).getD j.toNat AIa.zero)<=((b.1.getD e.toNat AIf.zero).getD (wI (j-1)).toNat AIa.zero)))
 else none
 else none
 else none
 else none
 else
 some false
 else none
 else none
 else none
theorem AsK a e j b:AZ E40 0 10 (sb (cd f70 116) 100) 24 (Aqt a e j b) (LB a e j b) (Aol a e j b):=by
 unfold AZ;simp only[LB,AHE];kernel_rfl
def Mf(a:AHY)(e:Int)(b:AHN)(j:Int):Option (Int⊕(Unit⊕Unit)):=
 if 0<=e/\e<b.1.length then
 bif decide (j<((b.1.getD e.toNat AIf.zero).length:Int))then
 (LB a e j b).bind λk=>bif k then
 some (.inr (.inl ()))
 else
 some (.inl (wI (j+1)))
 else
 some (.inr (.inr ()))
 else none
def IV a e b (z_:Int):=Mf a e b z_
def SU a e b j:=fix (IV a e b) j
theorem AsL a e b:A5 E40 0 7 (cd f70 116) 50 (Aqu a e b) (IV a e b) (Aom a e b):=by
 intro _;simp only[IV,Mf,AHE];simp(disch:=refine id ?_;kernel_rfl) only[Bg (AsK ..) (K:=Ld E40 0 7)];kernel_rfl
def Mg(a:AHY)(b:AHN)(e:Int):Option (Int⊕(Unit⊕Unit)):=
 bif decide (e<(b.1.length:Int))then
 (SU a e b 0).bind (Sum.elim (λg=>some (.inr (.inl ()))) (λi=>some (.inl (wI (e+1)))))
 else
 some (.inr (.inr ()))
def IW a b (z_:Int):=Mg a b z_
def SV a b e:=fix (IW a b) e
theorem AsM a b:A5 E40 0 4 (code f70) 58 (Aqv a b) (IW a b) (Aon a b):=by
 intro _;simp only[IW,Mg,AHE];simp(disch:=refine id ?_;kernel_rfl) only[SU,AF (AsL _ _ _) (K:=Ld E40 0 4)];kernel_rfl
def Aqs a b:=sT 75 [(0,dD AId a),(3,.ptr 0 0 [] 0)] [.box (dD Aj b)]
def Aok a b:=λ(l:Bool)=>(Ex.normal,sT 75 [(0,dD AId a),(3,.ptr 0 0 [] 0),(17,dB l)] [.box (dD Aj b)])
def Ps(a:AHY)(b:AHN):Option Bool:=
 (HK a).bind λn=>bif !n then
 some true
 else
 some ((b.1.length:Int) !=(a.length:Int))
theorem AsJ a b:AZ E40 0 2 (code f70) 12 (Aqs a b) (Ps a b) (Aok a b):=by
 unfold AZ;simp only[Ps,AHE];kernel_rfl
def HJ(a:AHY)(b:AHN):Option Bool:=
 (Ps a b).bind λl=>bif l then
 some false
 else
 (SV a b 0).bind (Sum.elim (λc=>some false) (λd=>some true))
theorem U40 R a b K:AW E40 f70 R [dD AId a,dD Aj b] [] K=(HJ a b).bind λr=>K (dB r) []:=by
 simp only[HJ,AHF];simp(disch:=refine id ?_;kernel_rfl) only[Bg (AsJ ..) (K:=A4 E40 f70 0 R K),SV,AF (AsM _ _) (K:=A4 E40 f70 0 R K)];kernel_rfl
def c70:=Cx [.d AId,.d Aj] [⟨[.AA [] AId,.AA [] Aj],[],Bool,λp=>HJ p.1.1 p.1.2.1,λr=>(dB r,[])⟩]
theorem aT:As prog 70 c70:=Aw ⟨⟨E40,pk ⟨Tj,cf,trivial⟩,λ_ _ _=>U40 ..⟩,trivial⟩
abbrev E41:Bd:=⟨A7,Az [],{Ai:=true,A9:=[(3,{Ap:=[0,3,5,6],B6:=[(5,false,.row [] 104 AIg true)]}),(7,{Ap:=[0,3,5,6,7,8]})],BQ:=[(3,{Ap:=[5]}),(7,{Ap:=[0,3,5,6,7]})]}⟩
def Aqx a b (z_:Int×AH7):=sT 48 [(0,dD AId a),(3,.ptr 0 0 [] 0),(5,.Ak 1),(6,dI z_.1)] [.box (dD Aj b),.row 104 .Ai AIg z_.2]
def Aop(a:AHY)(b:AHN):=λ(c:AH7)=>(Ex.exit 0,sT 48 [(5,.Ak 0)] [.row 104 .Ai AIg c])
def Aqw a d b e (z_:Int×AHU):=sT 48 [(0,dD AId a),(3,.ptr 0 0 [] 0),(5,.Ak 1),(6,dI d),(7,.Ak 2),(8,dI z_.1)] [.box (dD Aj b),.row 104 .Ai AIg e,.row 4 .Ai .bool z_.2]
def Aoo a d b e:=λ(g:AHU)=>(Ex.exit 2,sT 48 [(0,dD AId a),(3,.ptr 0 0 [] 0),(5,.Ak 1),(6,dI d),(7,.Ak 2)] [.box (dD Aj b),.row 104 .Ai AIg e,.row 4 .Ai .bool g])
def K6(a:AHY)(d:Int)(b:AHN)(e:AH7)(i:Int)(j:AHU):Option ((Int×AHU)⊕AHU):=
 if 0<=d/\d<b.1.length then
 bif decide (i<((b.1.getD d.toNat AIf.zero).length:Int))then
 if 0<=d/\d<b.1.length then
 if 0<=i/\i<(b.1.getD d.toNat AIf.zero).length then
 if(0:Int)<=((b.1.getD d.toNat AIf.zero).getD i.toNat AIa.zero)/\((b.1.getD d.toNat AIf.zero).getD i.toNat AIa.zero)<(j.length:Int)then
 some (.inl (wI (i+1),j.set ((b.1.getD d.toNat AIf.zero).getD i.toNat AIa.zero).toNat true))
 else none
 else none
 else none
 else
 some (.inr j)
 else none
def Fh a d b e (z_:Int×AHU):=K6 a d b e z_.1 z_.2
def N3 a d b e i j:=fix (Fh a d b e) (i,j)
theorem AsN a d b e:A5 E41 0 7 (cd f75 116) 202 (Aqw a d b e) (Fh a d b e) (Aoo a d b e):=by
 intro _;simp only[Fh,K6,AHE];kernel_rfl
def K7(a:AHY)(b:AHN)(d:Int)(e:AH7):Option ((Int×AH7)⊕AH7):=
 bif decide (d<(a.length:Int))then
 if 0<=d/\d<a.length then
 if Ty.row .bool=true/\(0:Int)<=(wI ((a.getD d.toNat Ad.zero).2.1+1))/\(wI ((a.getD d.toNat Ad.zero).2.1+1))<=(wI ((a.getD d.toNat Ad.zero).2.1+1))/\((1:Nat):Int)*(wI ((a.getD d.toNat Ad.zero).2.1+1))<=(281474976710656:Int)/\(wI ((a.getD d.toNat Ad.zero).2.1+1))<=(9223372036854775807:Int)then
 (N3 a d b e 0 (List.replicate (wI ((a.getD d.toNat Ad.zero).2.1+1)).toNat false)).bind λg=>if(e.length+([g]:AH7).length)*24<=140737488355328 then
 some (.inl (wI (d+1),e++([g]:AH7)))
 else none
 else none
 else none
 else
 some (.inr e)
def Fj a b (z_:Int×AH7):=K7 a b z_.1 z_.2
def RH a b d e:=fix (Fj a b) (d,e)
theorem AsO a b:A5 E41 0 3 (code f75) 58 (Aqx a b) (Fj a b) (Aop a b):=by
 intro _;simp only[Fj,K7,AHE];simp(disch:=refine id ?_;kernel_rfl) only[N3,AF (AsN _ _ _ _) (K:=Ld E41 0 3)];kernel_rfl
def JQ(a:AHY)(b:AHN):Option AH7:=
 (RH a b 0 ([]:AH7)).bind λc=>some c
theorem U41 R a b K:AW E41 f75 R [dD AId a,dD Aj b] [] K=(JQ a b).bind λr=>K (.Ak 0) [.row 104 .Ai AIg r]:=by
 simp only[JQ,AHF];simp(disch:=refine id ?_;kernel_rfl) only[RH,AF (AsO _ _) (K:=A4 E41 f75 0 R K)];kernel_rfl
def c75:=Cx [.d AId,.d Aj] [⟨[.AA [] AId,.AA [] Aj],[],AH7,λp=>JQ p.1.1 p.1.2.1,λr=>(.Ak 0,[.row 104 .Ai AIg r])⟩]
theorem tA:As prog 75 c75:=Aw ⟨⟨E41,pk trivial,λ_ _ _=>U41 ..⟩,trivial⟩
abbrev E42:Bd:=⟨A7,Az [(188,Aey)],{Ai:=true,A9:=[(3,{Ap:=[0,3,4],B6:=[(3,false,.row [] 199 Aa true)]}),(6,{Ap:=[0,3,4,5],B6:=[(3,false,.row [] 199 Aa true)]})],BQ:=[(3,{Ap:=[3]}),(6,{Ap:=[0,3,4]})],BP:=[(7,{Ap:=[0,3,4,5]})],D2:=[(7,[0,3,4,5])]}⟩
def AqA a (z_:Int×AHW):=sT 57 [(0,dD AIe a),(3,.Ak 0),(4,dI z_.1)] [.row 199 .Ai Aa z_.2]
def Aos(a:AHZ):=λ(b:AHW)=>(Ex.exit 0,sT 57 [(3,.Ak 0)] [.row 199 .Ai Aa b])
def Aqz a c (z_:Int×AHW):=sT 57 [(0,dD AIe a),(3,.Ak 0),(4,dI c),(5,dI z_.1)] [.row 199 .Ai Aa z_.2]
def Aor a c:=λ(d:AHW)=>(Ex.exit 2,sT 57 [(0,dD AIe a),(3,.Ak 0),(4,dI c)] [.row 199 .Ai Aa d])
def Aqy a c e g:=sT 57 [(0,dD AIe a),(3,.Ak 0),(4,dI c),(5,dI e)] [.row 199 .Ai Aa g]
def Aoq a c e (g:AHW):=λ(i:AHW)=>(Ex.normal,sT 57 [(0,dD AIe a),(3,.Ak 0),(4,dI c),(5,dI e)] [.row 199 .Ai Aa i])
def PD(a:AHZ)(c e:Int)(g:AHW):Option AHW:=
 if 0<=c/\c<a.length then
 bif decide ((a.getD c.toNat Ae.zero).1<0)then
 if 0<=c/\c<a.length then
 (GL (a.getD c.toNat Ae.zero).2.2.2.1 e).bind λj=>if(g.length+([(-1,wI j,())]:AHW).length)*16<=140737488355328 then
 some (g++([(-1,wI j,())]:AHW))
 else none
 else none
 else
 if 0<=c/\c<a.length then
 if 0<=c/\c<a.length then
 if(g.length+([((a.getD c.toNat Ae.zero).1,wI ((a.getD c.toNat Ae.zero).2.1+e),())]:AHW).length)*16<=140737488355328 then
 some (g++([((a.getD c.toNat Ae.zero).1,wI ((a.getD c.toNat Ae.zero).2.1+e),())]:AHW))
 else none
 else none
 else none
 else none
theorem AsP a c e g:AZ E42 0 7 (sb (cd f122 116) 100) 6 (Aqy a c e g) (PD a c e g) (Aoq a c e g):=by
 unfold AZ;simp only[PD,AHE];kernel_rfl
def Mu(a:AHZ)(c e:Int)(g:AHW):Option ((Int×AHW)⊕AHW):=
 if 0<=c/\c<a.length then
 bif decide (e<(a.getD c.toNat Ae.zero).2.2.1)then
 (PD a c e g).bind λi=>some (.inl (wI (e+1),i))
 else
 some (.inr g)
 else none
def Gi a c (z_:Int×AHW):=Mu a c z_.1 z_.2
def PE a c e g:=fix (Gi a c) (e,g)
theorem AsQ a c:A5 E42 0 6 (cd f122 116) 50 (Aqz a c) (Gi a c) (Aor a c):=by
 intro _;simp only[Gi,Mu,AHE];simp(disch:=refine id ?_;kernel_rfl) only[Bg (AsP ..) (K:=Ld E42 0 6)];kernel_rfl
def Mv(a:AHZ)(c:Int)(k:AHW):Option ((Int×AHW)⊕AHW):=
 bif decide (c<(a.length:Int))then
 (PE a c 0 k).bind λd=>some (.inl (wI (c+1),d))
 else
 some (.inr k)
def En a (z_:Int×AHW):=Mv a z_.1 z_.2
def S4 a c k:=fix (En a) (c,k)
theorem AsR a:A5 E42 0 3 (code f122) 58 (AqA a) (En a) (Aos a):=by
 intro _;simp only[En,Mv,AHE];simp(disch:=refine id ?_;kernel_rfl) only[PE,AF (AsQ _ _) (K:=Ld E42 0 3)];kernel_rfl
def OL(a:AHZ):Option AHW:=
 (S4 a 0 ([]:AHW)).bind λb=>some b
theorem U42 R a K:AW E42 f122 R [dD AIe a] [] K=(OL a).bind λr=>K (.Ak 0) [.row 199 .Ai Aa r]:=by
 simp only[OL,AHF];simp(disch:=refine id ?_;kernel_rfl) only[S4,AF (AsR _) (K:=A4 E42 f122 0 R K)];kernel_rfl
def AuN:=Cx [.d AIe] [⟨[.AA [] AIe],[],AHW,λp=>OL p.1.1,λr=>(.Ak 0,[.row 199 .Ai Aa r])⟩]
theorem zj:As prog 122 AuN:=Aw ⟨⟨E42,pk ⟨cj,trivial⟩,λ_ _ _=>U42 ..⟩,trivial⟩
abbrev E43:Bd:=⟨A7,Az [(122,AuN)],{Ai:=true,A9:=[(3,{Ap:=[0,2,3,4],B6:=[(3,true,.row [1] 4 .bool true)]}),(6,{Ap:=[0,2,3,4,5],B6:=[(3,true,.row [1] 4 .bool true)]})],BQ:=[(3,{Ap:=[2,3]}),(6,{Ap:=[0,2,3,4]})]}⟩
def AqC a b (z_:Int×AHU):=sT 32 [(0,dD AIe a),(2,.ptr 0 0 [] 0),(3,.ptr 1 0 [] 0),(4,dI z_.1)] [.box (.pr .zs (.pr .zs .u)),.box (.pr (.Ak 2) (.pr (.Ak 3) .u)),.row 199 .Ai Aa b,.row 4 .Ai .bool z_.2]
def Aou(a:AHZ) b:=λ(c:AHU)=>(Ex.exit 0,sT 32 [(2,.ptr 0 0 [] 0),(3,.ptr 1 0 [] 0)] [.box (.pr .zs (.pr .zs .u)),.box (.pr (.Ak 2) (.pr (.Ak 3) .u)),.row 199 .Ai Aa b,.row 4 .Ai .bool c])
def AqB a d b (z_:Int×AHU):=sT 32 [(0,dD AIe a),(2,.ptr 0 0 [] 0),(3,.ptr 1 0 [] 0),(4,dI d),(5,dI z_.1)] [.box (.pr .zs (.pr .zs .u)),.box (.pr (.Ak 2) (.pr (.Ak 3) .u)),.row 199 .Ai Aa b,.row 4 .Ai .bool z_.2]
def Aot a d b:=λ(e:AHU)=>(Ex.exit 2,sT 32 [(0,dD AIe a),(2,.ptr 0 0 [] 0),(3,.ptr 1 0 [] 0),(4,dI d)] [.box (.pr .zs (.pr .zs .u)),.box (.pr (.Ak 2) (.pr (.Ak 3) .u)),.row 199 .Ai Aa b,.row 4 .Ai .bool e])
def MH(a:AHZ)(d:Int)(b:AHW)(g:Int)(i:AHU):Option ((Int×AHU)⊕AHU):=
 if 0<=d/\d<a.length then
 bif decide (g<(a.getD d.toNat Ae.zero).2.2.1)then
 if(i.length+([g==0]:AHU).length)*1<=140737488355328 then
 some (.inl (wI (g+1),i++([g==0]:AHU)))
 else none
 else
 some (.inr i)
 else none
def Gp a d b (z_:Int×AHU):=MH a d b z_.1 z_.2
def PS a d b g i:=fix (Gp a d b) (g,i)
theorem AsS a d b:A5 E43 0 6 (cd f74 116) 50 (AqB a d b) (Gp a d b) (Aot a d b):=by
 intro _;simp only[Gp,MH,AHE];kernel_rfl
def MI(a:AHZ)(b:AHW)(d:Int)(j:AHU):Option ((Int×AHU)⊕AHU):=
 bif decide (d<(a.length:Int))then
 (PS a d b 0 j).bind λe=>some (.inl (wI (d+1),e))
 else
 some (.inr j)
def Gq a b (z_:Int×AHU):=MI a b z_.1 z_.2
def PT a b d j:=fix (Gq a b) (d,j)
theorem AsT a b:A5 E43 0 3 (code f74) 58 (AqC a b) (Gq a b) (Aou a b):=by
 intro _;simp only[Gq,MI,AHE];simp(disch:=refine id ?_;kernel_rfl) only[PS,AF (AsS _ _ _) (K:=Ld E43 0 3)];kernel_rfl
def HP(a:AHZ):Option (AHW×AHU):=
 (OL a).bind λb=>(PT a b 0 ([]:AHU)).bind λc=>some (b,c)
theorem U43 R a K:AW E43 f74 R [dD AIe a] [] K=(HP a).bind λr=>K (.pr (.Ak 0) (.pr (.Ak 1) .u)) [.row 199 .Ai Aa r.1,.row 4 .Ai .bool r.2]:=by
 simp only[HP,AHF];simp(disch:=refine id ?_;kernel_rfl) only[PT,AF (AsT _ _) (K:=A4 E43 f74 0 R K)];kernel_rfl
def c74:=Cx [.d AIe] [⟨[.AA [] AIe],[],AHW×AHU,λp=>HP p.1.1,λr=>(.pr (.Ak 0) (.pr (.Ak 1) .u),[.row 199 .Ai Aa r.1,.row 4 .Ai .bool r.2])⟩]
theorem tz:As prog 74 c74:=Aw ⟨⟨E43,pk ⟨zj,trivial⟩,λ_ _ _=>U43 ..⟩,trivial⟩
abbrev E44:Bd:=⟨A7,Az [],{Ai:=true}⟩
def CW(a:AHO)(b:AH7)(c:Int):Option Bool:=
 if 0<=c/\c<a.2.1.length then
 bif a.2.1.getD c.toNat (Ty.zero .bool)then
 some true
 else
 if 0<=c/\c<a.1.length then
 bif decide ((a.1.getD c.toNat Aa.zero).1>=0)then
 if 0<=c/\c<a.1.length then
 if(0:Int)<=(a.1.getD c.toNat Aa.zero).1/\(a.1.getD c.toNat Aa.zero).1<(b.length:Int)then
 if 0<=c/\c<a.1.length then
 if(0:Int)<=(a.1.getD c.toNat Aa.zero).2.1/\(a.1.getD c.toNat Aa.zero).2.1<((b.getD (a.1.getD c.toNat Aa.zero).1.toNat AIg.zero).length:Int)then
 some ((b.getD (a.1.getD c.toNat Aa.zero).1.toNat AIg.zero).getD (a.1.getD c.toNat Aa.zero).2.1.toNat (Ty.zero .bool))
 else none
 else none
 else none
 else none
 else
 some false
 else none
 else none
theorem U44 R a b c K:AW E44 f78 R [dD An a,dD AIo b,dI c] [] K=(CW a b c).bind λr=>K (dB r) []:=by
 simp only[CW,AHF];kernel_rfl
def c78:=Cx [.d An,.d AIo,.d AIa] [⟨[.AA [] An,.AA [] AIo,.AA [] AIa],[],Bool,λp=>CW p.1.1 p.1.2.1 p.1.2.2.1,λr=>(dB r,[])⟩]
theorem jI:As prog 78 c78:=Aw ⟨⟨E44,pk trivial,λ_ _ _=>U44 ..⟩,trivial⟩
abbrev E45:Bd:=⟨A7,Az [(78,c78)],{Ai:=true}⟩
def Gr(a:AHO)(b:AH7)(c:Int):Option Bool:=
 (CW a b c).bind λd=>bif !d then
 if 0<=c/\c<a.1.length then
 some (decide ((a.1.getD c.toNat Aa.zero).1>=0))
 else none
 else
 some false
theorem U45 R a b c K:AW E45 f201 R [dD An a,dD AIo b,dI c] [] K=(Gr a b c).bind λr=>K (dB r) []:=by
 simp only[Gr,AHF];kernel_rfl
def Avp:=Cx [.d An,.d AIo,.d AIa] [⟨[.AA [] An,.AA [] AIo,.AA [] AIa],[],Bool,λp=>Gr p.1.1 p.1.2.1 p.1.2.2.1,λr=>(dB r,[])⟩]
theorem zY:As prog 201 Avp:=Aw ⟨⟨E45,pk ⟨jI,trivial⟩,λ_ _ _=>U45 ..⟩,trivial⟩
abbrev Y4:Bd:=⟨A7,Az [(53,c53),(74,c74),(78,c78),(201,Avp)],{Ai:=true,AfN:=[(59,4),(67,4),(151,4)],A9:=[(6,{Ap:=[2,7,9,10],B6:=[(9,false,.row [] 126 An true)]}),(9,{Ap:=[2,7,9,10,11]}),(17,{Ap:=[2,9,13]}),(20,{Ap:=[2,9,13,14]}),(24,{Ap:=[2,9,13,14,15,16]}),(31,{Ap:=[2,9,13,14,15,16,17,18]})],BQ:=[(6,{Ap:=[2,9]}),(9,{Ap:=[2,7,9,10]}),(17,{Ap:=[]}),(20,{Ap:=[2,9,13]}),(24,{Ap:=[2,9,13,14]}),(31,{Ap:=[2,9,13,14,15,16]})],BP:=[(10,{Ap:=[2,7,9,10,11]}),(25,{Ap:=[2,9,13,14,15,16]}),(29,{Ap:=[2,9,13,14,15,16,17]}),(30,{Ap:=[2,9,13,14,15,16,17]}),(32,{Ap:=[2,9,13,14,15,16,17,18]}),(36,{Ap:=[2,9,13,14,15,16,17,18,20,142]})],D2:=[(10,[2,7,9,10,11]),(25,[2,9,13,14,15,16]),(29,[2,9,13,14,15,16,17]),(30,[2,9,13,14,15,16,17]),(32,[2,9,13,14,15,16,17,18]),(36,[2,9,13,14,15,16,17,18,19,20])]}⟩
def AjG a (z_:Bool×AH7):=sT 159 [(2,.Ak 0),(9,.Ak 1),(13,dB z_.1)] [.row 104 .Ai AIg z_.2,.row 126 .Ai An a]
def Aip(a:AH3):=λ(b:AH7)=>(Ex.exit 4,sT 159 [] [.row 104 .Ai AIg b])
def AjF a (z_:Bool×Int×AH7):=sT 159 [(2,.Ak 0),(9,.Ak 1),(13,dB z_.1),(14,dI z_.2.1)] [.row 104 .Ai AIg z_.2.2,.row 126 .Ai An a]
def Aio a:=λ(c:(Bool×AH7))=>(Ex.exit 6,sT 159 [(2,.Ak 0),(9,.Ak 1),(13,dB c.1)] [.row 104 .Ai AIg c.2,.row 126 .Ai An a])
def AjE d a e (z_:Bool×Int×AH7):=sT 159 [(2,.Ak 0),(9,.Ak 1),(13,dB z_.1),(14,dI d),(15,dI e),(16,dI z_.2.1)] [.row 104 .Ai AIg z_.2.2,.row 126 .Ai An a]
def Ain d a (e:Int):=λ(g:(Bool×AH7))=>(Ex.exit 8,sT 159 [(2,.Ak 0),(9,.Ak 1),(13,dB g.1),(14,dI d)] [.row 104 .Ai AIg g.2,.row 126 .Ai An a])
def AjD i d e j k a:=sT 159 [(2,.Ak 0),(9,.Ak 1),(13,dB i),(14,dI d),(15,dI e),(16,dI j)] [.row 104 .Ai AIg k,.row 126 .Ai An a]
def Aim(i:Bool) d e j (k:AH7) a:=λ(l:(Bool×AH7))=>(Ex.normal,sT 159 [(2,.Ak 0),(9,.Ak 1),(13,dB l.1),(14,dI d),(15,dI e),(16,dI j)] [.row 104 .Ai AIg l.2,.row 126 .Ai An a])
def AqJ d e j a n (z_:Bool×Int×AH7):=sT 159 [(2,.Ak 0),(9,.Ak 1),(13,dB z_.1),(14,dI d),(15,dI e),(16,dI j),(17,dI n),(18,dI z_.2.1)] [.row 104 .Ai AIg z_.2.2,.row 126 .Ai An a]
def AoB d e j a (n:Int):=λ(o:(Bool×AH7))=>(Ex.exit 10,sT 159 [(2,.Ak 0),(9,.Ak 1),(13,dB o.1),(14,dI d),(15,dI e),(16,dI j)] [.row 104 .Ai AIg o.2,.row 126 .Ai An a])
def AqI q d e j n s t a:=sT 159 [(2,.Ak 0),(9,.Ak 1),(13,dB q),(14,dI d),(15,dI e),(16,dI j),(17,dI n),(18,dI s)] [.row 104 .Ai AIg t,.row 126 .Ai An a]
def AoA(q:Bool) d e j n s (t:AH7) a:=λ(u:(Bool×AH7))=>(Ex.normal,sT 159 [(2,.Ak 0),(9,.Ak 1),(13,dB u.1),(14,dI d),(15,dI e),(16,dI j),(17,dI n),(18,dI s)] [.row 104 .Ai AIg u.2,.row 126 .Ai An a])
def AqH q d e j n s t a v w:=sT 159 [(2,.Ak 0),(9,.Ak 1),(13,dB q),(14,dI d),(15,dI e),(16,dI j),(17,dI n),(18,dI s),(19,.ptr 2 0 [] 0),(20,.ptr 3 0 [] 0)] [.row 104 .Ai AIg t,.row 126 .Ai An a,.box (.AA [1] An v),.box (.AA [1] An w)]
def Aoz q d e j n s t a (v:AHO) w:=λ(x:Bool)=>(Ex.normal,sT 159 [(2,.Ak 0),(9,.Ak 1),(13,dB q),(14,dI d),(15,dI e),(16,dI j),(17,dI n),(18,dI s),(20,.ptr 2 0 [] 0),(142,dB x)] [.row 104 .Ai AIg t,.row 126 .Ai An a,.box (.AA [1] An w)])
def NZ(q:Bool)(d e j n s:Int)(t:AH7)(a:AH3)(v w:AHO):Option Bool:=
 (CW v t n).bind λy=>bif y then
 (Gr w t n).bind λa1=>some a1
 else
 some false
theorem AsZ q d e j n s t a v w:AZ Y4 1 36 (sb (sb (sb (sb (sb (cd f141 1016) 108) 204) 6) 188) 6) 22 (AqH q d e j n s t a v w) (NZ q d e j n s t a v w) (Aoz q d e j n s t a v w):=by
 unfold AZ;simp only[NZ,AHE];kernel_rfl
def Kc(q:Bool)(d e j n s:Int)(t:AH7)(a:AH3):Option (Bool×AH7):=
 if 0<=(wI (d+s))/\(wI (d+s))<a.length then
 if 0<=(wI ((wI (d+1))-s))/\(wI ((wI (d+1))-s))<a.length then
 (NZ q d e j n s t a (a.getD (wI (d+s)).toNat An.zero) (a.getD (wI ((wI (d+1))-s)).toNat An.zero)).bind λx=>bif x then
 if 0<=n/\n<(a.getD (wI ((wI (d+1))-s)).toNat An.zero).1.length then
 if(0:Int)<=((a.getD (wI ((wI (d+1))-s)).toNat An.zero).1.getD n.toNat Aa.zero).1/\((a.getD (wI ((wI (d+1))-s)).toNat An.zero).1.getD n.toNat Aa.zero).1<(t.length:Int)then
 if 0<=n/\n<(a.getD (wI ((wI (d+1))-s)).toNat An.zero).1.length then
 if(0:Int)<=((a.getD (wI ((wI (d+1))-s)).toNat An.zero).1.getD n.toNat Aa.zero).2.1/\((a.getD (wI ((wI (d+1))-s)).toNat An.zero).1.getD n.toNat Aa.zero).2.1<(t.getD ((a.getD (wI ((wI (d+1))-s)).toNat An.zero).1.getD n.toNat Aa.zero).1.toNat AIg.zero).length then
 some (true,t.set ((a.getD (wI ((wI (d+1))-s)).toNat An.zero).1.getD n.toNat Aa.zero).1.toNat ((t.getD ((a.getD (wI ((wI (d+1))-s)).toNat An.zero).1.getD n.toNat Aa.zero).1.toNat AIg.zero).set ((a.getD (wI ((wI (d+1))-s)).toNat An.zero).1.getD n.toNat Aa.zero).2.1.toNat true))
 else none
 else none
 else none
 else none
 else
 some (q,t)
 else none
 else none
theorem As0 q d e j n s t a:AZ Y4 1 32 (sb (sb (sb (sb (cd f141 1016) 108) 204) 6) 188) 6 (AqI q d e j n s t a) (Kc q d e j n s t a) (AoA q d e j n s t a):=by
 unfold AZ;simp only[Kc,AHE];simp(disch:=refine id ?_;kernel_rfl) only[Bg (AsZ ..) (K:=Te Y4 1 32)];kernel_rfl
def K5(d e j:Int)(a:AH3)(n:Int)(q:Bool)(s:Int)(t:AH7):Option ((Bool×Int×AH7)⊕(Bool×AH7)):=
 bif decide (s<2)then
 (Kc q d e j n s t a).bind λu=>some (.inl (u.1,wI (s+1),u.2))
 else
 some (.inr (q,t))
def Fg d e j a n (z_:Bool×Int×AH7):=K5 d e j a n z_.1 z_.2.1 z_.2.2
def N0 d e j a n q s t:=fix (Fg d e j a n) (q,s,t)
theorem As1 d e j a n:A5 Y4 1 31 (sb (sb (sb (cd f141 1016) 108) 204) 6) 94 (AqJ d e j a n) (Fg d e j a n) (AoB d e j a n):=by
 intro _;simp only[Fg,K5,AHE];simp(disch:=refine id ?_;kernel_rfl) only[Bg (As0 ..) (K:=Ld Y4 1 31)];kernel_rfl
def AqG i d e j k a b1:=sT 159 [(2,.Ak 0),(9,.Ak 1),(13,dB i),(14,dI d),(15,dI e),(16,dI j),(17,dI b1)] [.row 104 .Ai AIg k,.row 126 .Ai An a]
def Aoy i d e j k a b1:=Sum.elim (λ(c1:Unit)=>(Ex.exit 9,sT 159 [(2,.Ak 0),(9,.Ak 1),(13,dB i),(14,dI d),(15,dI e),(16,dI j),(17,dI b1)] [.row 104 .Ai AIg k,.row 126 .Ai An a])) (λ(d1:Unit)=>(Ex.normal,sT 159 [(2,.Ak 0),(9,.Ak 1),(13,dB i),(14,dI d),(15,dI e),(16,dI j),(17,dI b1)] [.row 104 .Ai AIg k,.row 126 .Ai An a]))
def NY(i:Bool)(d e j:Int)(k:AH7)(a:AH3)(b1:Int):Option (Unit⊕Unit):=
 bif decide (b1<1)then
 some (.inl ())
 else
 bif decide (b1>=e)then
 some (.inl ())
 else
 some (.inr ())
theorem AsY i d e j k a b1:AZ Y4 1 30 (sb (sb (sb (cd f141 1016) 108) 204) 6) 22 (AqG i d e j k a b1) (NY i d e j k a b1) (Aoy i d e j k a b1):=by
 unfold AZ;simp only[NY,AHE];kernel_rfl
def yv i d e j k a:=sT 159 [(2,.Ak 0),(9,.Ak 1),(13,dB i),(14,dI d),(15,dI e),(16,dI j),(17,dI j)] [.row 104 .Ai AIg k,.row 126 .Ai An a]
def xT(i:Bool)(d e j:Int)(k:AH7)(a:AH3)(m0:Int):Ex×St:=(.normal,sT 159 [(2,.Ak 0),(9,.Ak 1),(13,dB i),(14,dI d),(15,dI e),(16,dI j),(17,dI m0)] [.row 104 .Ai AIg k,.row 126 .Ai An a])
theorem AsX i d e j k a:MY Y4 1 29 (sb (sb (sb (cd f141 1016) 108) 204) 6) (pt 10) (yv i d e j k a)=some (xT i d e j k a (bif decide (j>=e)then(wI ((wI (2*e))-j))else j)):=by
 have h0:MY Y4 1 29 (sb (sb (sb (cd f141 1016) 108) 204) 6) (pt 10) (yv i d e j k a) =
 bif decide (j>=e)then
 some (xT i d e j k a (wI ((wI (2*e))-j)))
 else
 some (xT i d e j k a j):=by kernel_rfl
 rw[h0];cases (decide (j>=e))
 ·rfl
 ·rfl
def I5(i:Bool)(d e j:Int)(k:AH7)(a:AH3):Option (Bool×AH7):=
 P2 (yv i d e j k a) (
 (NY i d e j k a (bif decide (j>=e)then(wI ((wI (2*e))-j))else j)).bind (Sum.elim (λc1=>some (i,k)) (λd1=>(N0 d e j a (bif decide (j>=e)then(wI ((wI (2*e))-j))else j) i 0 k).bind λo=>some (o.1,o.2))))
theorem Ak9 i d e j k a:AZ Y4 1 25 (sb (sb (cd f141 1016) 108) 204) 6 (AjD i d e j k a) (I5 i d e j k a) (Aim i d e j k a):=by
 unfold AZ;simp only[I5,AHE];simp(disch:=refine id ?_;kernel_rfl) only[F4 (AsX ..) (K:=Te Y4 1 25),Bg (AsY ..) (K:=Te Y4 1 25),N0,AF (As1 _ _ _ _ _) (K:=Te Y4 1 25)];kernel_rfl
def JK(d:Int)(a:AH3)(e:Int)(i:Bool)(j:Int)(k:AH7):Option ((Bool×Int×AH7)⊕(Bool×AH7)):=
 bif decide (j<(wI (2*e)))then
 (I5 i d e j k a).bind λl=>some (.inl (l.1,wI (j+1),l.2))
 else
 some (.inr (i,k))
def Eo d a e (z_:Bool×Int×AH7):=JK d a e z_.1 z_.2.1 z_.2.2
def MA d a e i j k:=fix (Eo d a e) (i,j,k)
theorem Ala d a e:A5 Y4 1 24 (sb (cd f141 1016) 108) 102 (AjE d a e) (Eo d a e) (Ain d a e):=by
 intro _;simp only[Eo,JK,AHE];simp(disch:=refine id ?_;kernel_rfl) only[Bg (Ak9 ..) (K:=Ld Y4 1 24)];kernel_rfl
def JM(a:AH3)(e1:Bool)(d:Int)(g1:AH7):Option ((Bool×Int×AH7)⊕(Bool×AH7)):=
 bif decide (d<(a.length:Int))then
 if 0<=d/\d<a.length then
 (MA d a ((a.getD d.toNat An.zero).1.length:Int) e1 1 g1).bind λg=>some (.inl (g.1,wI (d+2),g.2))
 else none
 else
 some (.inr (e1,g1))
def Ep a (z_:Bool×Int×AH7):=JM a z_.1 z_.2.1 z_.2.2
def MB a e1 d g1:=fix (Ep a) (e1,d,g1)
theorem Alb a:A5 Y4 1 20 (cd f141 1016) 54 (AjF a) (Ep a) (Aio a):=by
 intro _;simp only[Ep,JM,AHE];simp(disch:=refine id ?_;kernel_rfl) only[MA,AF (Ala _ _ _) (K:=Ld Y4 1 20)];kernel_rfl
def Oo(a:AH3)(i1:Bool)(j1:AH7):Option ((Bool×AH7)⊕AH7):=
 bif i1 then
 (MB a false 0 j1).bind λc=>some (.inl (c.1,c.2))
 else
 some (.inr j1)
def JO a (z_:Bool×AH7):=Oo a z_.1 z_.2
def MC a i1 j1:=fix (JO a) (i1,j1)
theorem Alc a:A5 Y4 1 17 (code f141) 508 (AjG a) (JO a) (Aip a):=by
 intro _;simp only[JO,Oo,AHE];simp(disch:=refine id ?_;kernel_rfl) only[MB,AF (Alb _) (K:=Ld Y4 1 17)];kernel_rfl
def AqF k1 (z_:Int×AH7×AH3):=sT 159 [(2,.Ak 0),(7,.Ak 1),(9,.Ak 2),(10,dI z_.1)] [.row 104 .Ai AIg z_.2.1,.row 121 .Ai AIe k1,.row 126 .Ai An z_.2.2]
def Aox(k1:AH9):=λ(l1:(AH7×AH3))=>(Ex.exit 0,sT 159 [(2,.Ak 0),(9,.Ak 1)] [.row 104 .Ai AIg l1.1,.row 126 .Ai An l1.2])
def AqE n1 k1 o1 (z_:Int×AH7):=sT 159 [(2,.Ak 0),(7,.Ak 1),(9,.Ak 2),(10,dI n1),(11,dI z_.1)] [.row 104 .Ai AIg z_.2,.row 121 .Ai AIe k1,.row 126 .Ai An o1]
def Aow n1 k1 o1:=λ(q1:AH7)=>(Ex.exit 2,sT 159 [(2,.Ak 0),(7,.Ak 1),(9,.Ak 2),(10,dI n1)] [.row 104 .Ai AIg q1,.row 121 .Ai AIe k1,.row 126 .Ai An o1])
def AqD n1 s1 t1 k1 o1:=sT 159 [(2,.Ak 0),(7,.Ak 1),(9,.Ak 2),(10,dI n1),(11,dI s1)] [.row 104 .Ai AIg t1,.row 121 .Ai AIe k1,.row 126 .Ai An o1]
def Aov n1 s1 (t1:AH7) k1 o1:=λ(u1:AH7)=>(Ex.normal,sT 159 [(2,.Ak 0),(7,.Ak 1),(9,.Ak 2),(10,dI n1),(11,dI s1)] [.row 104 .Ai AIg u1,.row 121 .Ai AIe k1,.row 126 .Ai An o1])
def Kb(n1 s1:Int)(t1:AH7)(k1:AH9)(o1:AH3):Option AH7:=
 if 0<=n1/\n1<k1.length then
 if 0<=s1/\s1<(k1.getD n1.toNat AIe.zero).length then
 bif decide (((k1.getD n1.toNat AIe.zero).getD s1.toNat Ae.zero).1>=0)then
 if(0:Int)<=((k1.getD n1.toNat AIe.zero).getD s1.toNat Ae.zero).1/\((k1.getD n1.toNat AIe.zero).getD s1.toNat Ae.zero).1<(t1.length:Int)then
 if(0:Int)<=((k1.getD n1.toNat AIe.zero).getD s1.toNat Ae.zero).2.1/\((k1.getD n1.toNat AIe.zero).getD s1.toNat Ae.zero).2.1<(t1.getD ((k1.getD n1.toNat AIe.zero).getD s1.toNat Ae.zero).1.toNat AIg.zero).length then
 if(0:Int)<=((k1.getD n1.toNat AIe.zero).getD s1.toNat Ae.zero).1/\((k1.getD n1.toNat AIe.zero).getD s1.toNat Ae.zero).1<((t1.set ((k1.getD n1.toNat AIe.zero).getD s1.toNat Ae.zero).1.toNat ((t1.getD ((k1.getD n1.toNat AIe.zero).getD s1.toNat Ae.zero).1.toNat AIg.zero).set ((k1.getD n1.toNat AIe.zero).getD s1.toNat Ae.zero).2.1.toNat true)).length:Int)then
 if(0:Int)<=(wI (((k1.getD n1.toNat AIe.zero).getD s1.toNat Ae.zero).2.1+((k1.getD n1.toNat AIe.zero).getD s1.toNat Ae.zero).2.2.1))/\(wI (((k1.getD n1.toNat AIe.zero).getD s1.toNat Ae.zero).2.1+((k1.getD n1.toNat AIe.zero).getD s1.toNat Ae.zero).2.2.1))<((t1.set ((k1.getD n1.toNat AIe.zero).getD s1.toNat Ae.zero).1.toNat ((t1.getD ((k1.getD n1.toNat AIe.zero).getD s1.toNat Ae.zero).1.toNat AIg.zero).set ((k1.getD n1.toNat AIe.zero).getD s1.toNat Ae.zero).2.1.toNat true)).getD ((k1.getD n1.toNat AIe.zero).getD s1.toNat Ae.zero).1.toNat AIg.zero).length then
 some ((t1.set ((k1.getD n1.toNat AIe.zero).getD s1.toNat Ae.zero).1.toNat ((t1.getD ((k1.getD n1.toNat AIe.zero).getD s1.toNat Ae.zero).1.toNat AIg.zero).set ((k1.getD n1.toNat AIe.zero).getD s1.toNat Ae.zero).2.1.toNat true)).set ((k1.getD n1.toNat AIe.zero).getD s1.toNat Ae.zero).1.toNat (((t1.set ((k1.getD n1.toNat AIe.zero).getD s1.toNat Ae.zero).1.toNat ((t1.getD ((k1.getD n1.toNat AIe.zero).getD s1.toNat Ae.zero).1.toNat AIg.zero).set ((k1.getD n1.toNat AIe.zero).getD s1.toNat Ae.zero).2.1.toNat true)).getD ((k1.getD n1.toNat AIe.zero).getD s1.toNat Ae.zero).1.toNat AIg.zero).set (wI (((k1.getD n1.toNat AIe.zero).getD s1.toNat Ae.zero).2.1+((k1.getD n1.toNat AIe.zero).getD s1.toNat Ae.zero).2.2.1)).toNat true))
 else none
 else none
 else none
 else none
 else
 some t1
 else none
 else none
theorem AsU n1 s1 t1 k1 o1:AZ Y4 1 10 (sb (cd f141 500) 196) 6 (AqD n1 s1 t1 k1 o1) (Kb n1 s1 t1 k1 o1) (Aov n1 s1 t1 k1 o1):=by
 unfold AZ;simp only[Kb,AHE];kernel_rfl
def K3(n1:Int)(k1:AH9)(o1:AH3)(s1:Int)(t1:AH7):Option ((Int×AH7)⊕AH7):=
 if 0<=n1/\n1<k1.length then
 bif decide (s1<((k1.getD n1.toNat AIe.zero).length:Int))then
 (Kb n1 s1 t1 k1 o1).bind λu1=>some (.inl (wI (s1+1),u1))
 else
 some (.inr t1)
 else none
def Fe n1 k1 o1 (z_:Int×AH7):=K3 n1 k1 o1 z_.1 z_.2
def NU n1 k1 o1 s1 t1:=fix (Fe n1 k1 o1) (s1,t1)
theorem AsV n1 k1 o1:A5 Y4 1 9 (cd f141 500) 98 (AqE n1 k1 o1) (Fe n1 k1 o1) (Aow n1 k1 o1):=by
 intro _;simp only[Fe,K3,AHE];simp(disch:=refine id ?_;kernel_rfl) only[Bg (AsU ..) (K:=Ld Y4 1 9)];kernel_rfl
def K4(k1:AH9)(n1:Int)(v1:AH7)(o1:AH3):Option ((Int×AH7×AH3)⊕(AH7×AH3)):=
 bif decide (n1<(k1.length:Int))then
 (NU n1 k1 o1 0 v1).bind λq1=>if 0<=n1/\n1<k1.length then
 (HP (k1.getD n1.toNat AIe.zero)).bind λw1=>if(o1.length+([(w1.1,w1.2,())]:AH3).length)*48<=140737488355328 then
 some (.inl (wI (n1+1),q1,o1++([(w1.1,w1.2,())]:AH3)))
 else none
 else none
 else
 some (.inr (v1,o1))
def Ff k1 (z_:Int×AH7×AH3):=K4 k1 z_.1 z_.2.1 z_.2.2
def NW k1 n1 v1 o1:=fix (Ff k1) (n1,v1,o1)
theorem AsW k1:A5 Y4 1 6 (code f141) 250 (AqF k1) (Ff k1) (Aox k1):=by
 intro _;simp only[Ff,K4,AHE];simp(disch:=refine id ?_;kernel_rfl) only[NU,AF (AsV _ _ _) (K:=Ld Y4 1 6)];kernel_rfl
def PQ(x1:AHY)(y1:AH0)(a2:AH7):Option (Bool×AH7):=
 (JR x1 y1).bind λb2=>bif !b2.1 then
 some (false,a2)
 else
 (NW b2.2 0 a2 ([]:AH3)).bind λl1=>(MC l1.2 true l1.1).bind λb=>some (true,b)
theorem U46 R x1 y1 a2 K:AW Y4 f141 R [dD AId x1,dD AIi y1,.Ak 0] [.row 104 .Ai AIg a2] K=(PQ x1 y1 a2).bind λr=>K (dB r.1) [.row 104 .Ai AIg r.2]:=by
 simp only[PQ,AHF];simp(disch:=refine id ?_;kernel_rfl) only[NW,AF (AsW _) (K:=A4 Y4 f141 1 R K),MC,AF (Alc _) (K:=A4 Y4 f141 1 R K)];kernel_rfl
def AuR:=Cx [.d AId,.d AIi,.Vu] [⟨[.AA [] AId,.AA [] AIi,.k (.Ak 0)],[.row 104 .Ai AIg],Bool×AH7,λp=>PQ p.1.1 p.1.2.1 p.2.1,λr=>(dB r.1,[.row 104 .Ai AIg r.2])⟩]
theorem zn:As prog 141 AuR:=Aw ⟨⟨Y4,pk ⟨tu,tz,jI,zY,trivial⟩,λ_ _ _=>U46 ..⟩,trivial⟩
abbrev E47:Bd:=⟨A7,Az [],{Ai:=true,A9:=[(3,{Ap:=[0,2,3,4],B6:=[(3,true,.row [0] 72 AIf true)]}),(7,{Ap:=[0,2,3,4,5,6],B6:=[(5,false,.row [] 2 AIa true)]})],BQ:=[(3,{Ap:=[2,3]}),(7,{Ap:=[0,2,3,4,5]})],BP:=[(8,{Ap:=[0,2,3,4,5,6],B6:=[(5,false,.row [] 2 AIa true)]})],D2:=[(8,[0,2,3,4,5,6])]}⟩
def AqM a (z_:Int×AH6):=sT 43 [(0,dD AIo a),(2,.ptr 0 0 [] 0),(3,.ptr 1 0 [] 0),(4,dI z_.1)] [.box (.pr .zs .u),.box (.pr (.Ak 2) .u),.row 72 .Ai AIf z_.2]
def AoE(a:AH7):=λ(b:AH6)=>(Ex.exit 0,sT 43 [(2,.ptr 0 0 [] 0),(3,.ptr 1 0 [] 0)] [.box (.pr .zs .u),.box (.pr (.Ak 2) .u),.row 72 .Ai AIf b])
def AqL a c d (z_:Int×AHT):=sT 43 [(0,dD AIo a),(2,.ptr 0 0 [] 0),(3,.ptr 1 0 [] 0),(4,dI c),(5,.Ak 2),(6,dI z_.1)] [.box (.pr .zs .u),.box (.pr (.Ak 3) .u),.row 2 .Ai AIa z_.2,.row 72 .Ai AIf d]
def AoD a c d:=λ(e:AHT)=>(Ex.exit 2,sT 43 [(0,dD AIo a),(2,.ptr 0 0 [] 0),(3,.ptr 1 0 [] 0),(4,dI c),(5,.Ak 2)] [.box (.pr .zs .u),.box (.pr (.Ak 3) .u),.row 2 .Ai AIa e,.row 72 .Ai AIf d])
def AqK a c g i d:=sT 43 [(0,dD AIo a),(2,.ptr 0 0 [] 0),(3,.ptr 1 0 [] 0),(4,dI c),(5,.Ak 2),(6,dI g)] [.box (.pr .zs .u),.box (.pr (.Ak 3) .u),.row 2 .Ai AIa i,.row 72 .Ai AIf d]
def AoC a c g (i:AHT) d:=λ(j:AHT)=>(Ex.normal,sT 43 [(0,dD AIo a),(2,.ptr 0 0 [] 0),(3,.ptr 1 0 [] 0),(4,dI c),(5,.Ak 2),(6,dI g)] [.box (.pr .zs .u),.box (.pr (.Ak 3) .u),.row 2 .Ai AIa j,.row 72 .Ai AIf d])
def LL(a:AH7)(c g:Int)(i:AHT)(d:AH6):Option AHT:=
 if 0<=c/\c<a.length then
 if 0<=g/\g<(a.getD c.toNat AIg.zero).length then
 bif (a.getD c.toNat AIg.zero).getD g.toNat (Ty.zero .bool)then
 if(i.length+([g]:AHT).length)*8<=140737488355328 then
 some (i++([g]:AHT))
 else none
 else
 some i
 else none
 else none
theorem As2 a c g i d:AZ E47 0 8 (sb (cd f142 116) 404) 6 (AqK a c g i d) (LL a c g i d) (AoC a c g i d):=by
 unfold AZ;simp only[LL,AHE];kernel_rfl
def MD(a:AH7)(c:Int)(d:AH6)(g:Int)(i:AHT):Option ((Int×AHT)⊕AHT):=
 if 0<=c/\c<a.length then
 bif decide ((wI (g+1))<((a.getD c.toNat AIg.zero).length:Int))then
 (LL a c g i d).bind λj=>some (.inl (wI (g+1),j))
 else
 some (.inr i)
 else none
def Gl a c d (z_:Int×AHT):=MD a c d z_.1 z_.2
def PR a c d g i:=fix (Gl a c d) (g,i)
theorem As3 a c d:A5 E47 0 7 (cd f142 116) 202 (AqL a c d) (Gl a c d) (AoD a c d):=by
 intro _;simp only[Gl,MD,AHE];simp(disch:=refine id ?_;kernel_rfl) only[Bg (As2 ..) (K:=Ld E47 0 7)];kernel_rfl
def ME(a:AH7)(c:Int)(d:AH6):Option ((Int×AH6)⊕AH6):=
 bif decide (c<(a.length:Int))then
 (PR a c d 1 ([]:AHT)).bind λe=>if(d.length+([e]:AH6).length)*24<=140737488355328 then
 some (.inl (wI (c+1),d++([e]:AH6)))
 else none
 else
 some (.inr d)
def Gm a (z_:Int×AH6):=ME a z_.1 z_.2
def S5 a c d:=fix (Gm a) (c,d)
theorem As4 a:A5 E47 0 3 (code f142) 58 (AqM a) (Gm a) (AoE a):=by
 intro _;simp only[Gm,ME,AHE];simp(disch:=refine id ?_;kernel_rfl) only[PR,AF (As3 _ _ _) (K:=Ld E47 0 3)];kernel_rfl
def OP(a:AH7):Option AH6:=
 (S5 a 0 ([]:AH6)).bind λb=>some b
theorem U47 R a K:AW E47 f142 R [dD AIo a] [] K=(OP a).bind λr=>K (.pr (.Ak 0) .u) [.row 72 .Ai AIf r]:=by
 simp only[OP,AHF];simp(disch:=refine id ?_;kernel_rfl) only[S5,AF (As4 _) (K:=A4 E47 f142 0 R K)];kernel_rfl
def AuS:=Cx [.d AIo] [⟨[.AA [] AIo],[],AH6,λp=>OP p.1.1,λr=>(.pr (.Ak 0) .u,[.row 72 .Ai AIf r])⟩]
theorem zo:As prog 142 AuS:=Aw ⟨⟨E47,pk trivial,λ_ _ _=>U47 ..⟩,trivial⟩
abbrev E48:Bd:=⟨A7,Az [(51,c51),(70,c70),(75,c75),(141,AuR),(142,AuS)],{Ai:=true,BP:=[(2,{Ap:=[0,1,5,6,18]})],D2:=[(2,[0,1,5,6])],Rj:=[(0,Aj),(1,.bool)]}⟩
def AqN a b c:=sT 31 [(0,dD AId a),(1,dD AIi b),(5,.ptr 0 0 [] 0),(6,.ptr 1 0 [] 0)] [.box (dD Aj c),.box (.pr .zs .u)]
def AoF a b c:=λ(d:Bool)=>(Ex.normal,sT 31 [(0,dD AId a),(1,dD AIi b),(5,.ptr 0 0 [] 0),(6,.ptr 1 0 [] 0),(18,dB d)] [.box (dD Aj c),.box (.pr .zs .u)])
def KQ(a:AHY)(b:AH0)(c:AHN):Option Bool:=
 (HJ a c).bind λe=>bif !e then
 some true
 else
 (DZ a b).bind λg=>some (!g)
theorem As5 a b c:AZ E48 0 2 (code f71) 12 (AqN a b c) (KQ a b c) (AoF a b c):=by
 unfold AZ;simp only[KQ,AHE];kernel_rfl
def Dt(a:AHY)(b:AH0)(c:AHN):Option (AHN×Bool):=
 (KQ a b c).bind λd=>bif d then
 some ((([]:AH6),()),false)
 else
 (JQ a c).bind λi=>(PQ a b i).bind λj=>bif !j.1 then
 some ((([]:AH6),()),false)
 else
 (OP j.2).bind λk=>some ((k,()),true)
theorem U48 R a b c K:AW E48 f71 R [dD AId a,dD AIi b,dD Aj c] [] K=(Dt a b c).bind λr=>K (.cons (dD Aj r.1) (.cons (dB r.2) .nil)) []:=by
 simp only[Dt,AHF];simp(disch:=refine id ?_;kernel_rfl) only[Bg (As5 ..) (K:=A4 E48 f71 0 R K)];kernel_rfl
def c71:=Cx [.d AId,.d AIi,.d Aj] [⟨[.AA [] AId,.AA [] AIi,.AA [] Aj],[],AHN×Bool,λp=>Dt p.1.1 p.1.2.1 p.1.2.2.1,λr=>(.cons (dD Aj r.1) (.cons (dB r.2) .nil),[])⟩]
theorem tv:As prog 71 c71:=Aw ⟨⟨E48,pk ⟨jH,aT,tA,zn,zo,trivial⟩,λ_ _ _=>U48 ..⟩,trivial⟩
abbrev E49:Bd:=⟨A7,Az [(70,c70)],{Ai:=true,A9:=[(5,{Ap:=[0,3,5,6],B6:=[(5,false,.row [] 157 Ab true)]}),(9,{Ap:=[0,3,5,6,7,8],B6:=[(5,false,.row [] 157 Ab true)]})],BQ:=[(5,{Ap:=[5]}),(9,{Ap:=[0,3,5,6]})],BP:=[(14,{Ap:=[0,3,5,6,7,8,9]})],D2:=[(14,[0,3,5,6,7,8,9])],dT:=[(0,.row [] 157 Ab true)]}⟩
def AqQ a b (z_:Int×AHX):=sT 64 [(0,dD AId a),(3,.ptr 0 0 [] 0),(5,.Ak 1),(6,dI z_.1)] [.box (dD Aj b),.row 157 .Ai Ab z_.2]
def AoI(a:AHY)(b:AHN):=λ(c:AHX)=>(Ex.exit 0,sT 64 [(5,.Ak 0)] [.row 157 .Ai Ab c])
def AqP a d b (z_:Int×Int×AHX):=sT 64 [(0,dD AId a),(3,.ptr 0 0 [] 0),(5,.Ak 1),(6,dI d),(7,dI z_.1),(8,dI z_.2.1)] [.box (dD Aj b),.row 157 .Ai Ab z_.2.2]
def AoH a d b:=λ(e:AHX)=>(Ex.exit 2,sT 64 [(0,dD AId a),(3,.ptr 0 0 [] 0),(5,.Ak 1),(6,dI d)] [.box (dD Aj b),.row 157 .Ai Ab e])
def AqO a d g i b j k:=sT 64 [(0,dD AId a),(3,.ptr 0 0 [] 0),(5,.Ak 1),(6,dI d),(7,dI g),(8,dI i),(9,dI k)] [.box (dD Aj b),.row 157 .Ai Ab j]
def AoG a d g i b j (k:Int):=λ(l:Int)=>(Ex.normal,sT 64 [(0,dD AId a),(3,.ptr 0 0 [] 0),(5,.Ak 1),(6,dI d),(7,dI g),(8,dI i),(9,dI l)] [.box (dD Aj b),.row 157 .Ai Ab j])
def I0(a:AHY)(d g i:Int)(b:AHN)(j:AHX)(k:Int):Option Int:=
 if 0<=d/\d<b.1.length then
 bif decide (i<((b.1.getD d.toNat AIf.zero).length:Int))then
 if 0<=d/\d<b.1.length then
 if 0<=i/\i<(b.1.getD d.toNat AIf.zero).length then
 some ((b.1.getD d.toNat AIf.zero).getD i.toNat AIa.zero)
 else none
 else none
 else
 some k
 else none
theorem As6 a d g i b j k:AZ E49 0 14 (sb (cd f77 244) 204) 50 (AqO a d g i b j k) (I0 a d g i b j k) (AoG a d g i b j k):=by
 unfold AZ;simp only[I0,AHE];kernel_rfl
def JE(a:AHY)(d:Int)(b:AHN)(g i:Int)(j:AHX):Option ((Int×Int×AHX)⊕AHX):=
 if 0<=d/\d<b.1.length then
 bif decide (i<=((b.1.getD d.toNat AIf.zero).length:Int))then
 if 0<=d/\d<a.length then
 (I0 a d g i b j (a.getD d.toNat Ad.zero).2.1).bind λl=>if(j.length+([(d,g,wI (l-g),())]:AHX).length)*24<=140737488355328 then
 some (.inl (l,wI (i+1),j++([(d,g,wI (l-g),())]:AHX)))
 else none
 else none
 else
 some (.inr j)
 else none
def Ej a d b (z_:Int×Int×AHX):=JE a d b z_.1 z_.2.1 z_.2.2
def Mj a d b g i j:=fix (Ej a d b) (g,i,j)
theorem As7 a d b:A5 E49 0 9 (cd f77 244) 102 (AqP a d b) (Ej a d b) (AoH a d b):=by
 intro _;simp only[Ej,JE,AHE];simp(disch:=refine id ?_;kernel_rfl) only[Bg (As6 ..) (K:=Ld E49 0 9)];kernel_rfl
def JF(a:AHY)(b:AHN)(d:Int)(n:AHX):Option ((Int×AHX)⊕AHX):=
 bif decide (d<(a.length:Int))then
 (Mj a d b 0 0 n).bind λe=>some (.inl (wI (d+1),e))
 else
 some (.inr n)
def El a b (z_:Int×AHX):=JF a b z_.1 z_.2
def Mk a b d n:=fix (El a b) (d,n)
theorem As8 a b:A5 E49 0 5 (code f77) 122 (AqQ a b) (El a b) (AoI a b):=by
 intro _;simp only[El,JF,AHE];simp(disch:=refine id ?_;kernel_rfl) only[Mj,AF (As7 _ _ _) (K:=Ld E49 0 5)];kernel_rfl
def Ey(a:AHY)(b:AHN):Option AHX:=
 (HJ a b).bind λo=>bif !o then
 some ([]:AHX)
 else
 (Mk a b 0 ([]:AHX)).bind λc=>some c
theorem U49 R a b K:AW E49 f77 R [dD AId a,dD Aj b] [] K=(Ey a b).bind λr=>K (.Ak 0) [.row 157 .Ai Ab r]:=by
 simp only[Ey,AHF];simp(disch:=refine id ?_;kernel_rfl) only[Mk,AF (As8 _ _) (K:=A4 E49 f77 0 R K)];kernel_rfl
def c77:=Cx [.d AId,.d Aj] [⟨[.AA [] AId,.AA [] Aj],[],AHX,λp=>Ey p.1.1 p.1.2.1,λr=>(.Ak 0,[.row 157 .Ai Ab r])⟩]
theorem aU:As prog 77 c77:=Aw ⟨⟨E49,pk ⟨aT,trivial⟩,λ_ _ _=>U49 ..⟩,trivial⟩
abbrev E50:Bd:=⟨A7,Az [],{A9:=[(3,{Ap:=[0,3,4],B6:=[(3,true,.row [2] 2 AIa true)]})],BQ:=[(3,{Ap:=[3]})]}⟩
def AqR a b (z_:Int×AHT):=sT 25 [(0,dI a),(3,.ptr 0 0 [] 0),(4,dI z_.1)] [.box (.pr (.Ak 1) (.pr .zs (.pr (.Ak 2) .u))),.row 83 (.sh []) Ah b,.row 2 .Ai AIa z_.2]
def AoJ(a:Int) b:=λ(c:AHT)=>(Ex.exit 0,sT 25 [(3,.ptr 0 0 [] 0)] [.box (.pr (.Ak 1) (.pr .zs (.pr (.Ak 2) .u))),.row 83 (.sh []) Ah b,.row 2 .Ai AIa c])
def N9(a:Int)(b:AH2)(d:Int)(e:AHT):Option ((Int×AHT)⊕AHT):=
 bif decide (d<a)then
 if(e.length+([d]:AHT).length)*8<=140737488355328 then
 some (.inl (wI (d+1),e++([d]:AHT)))
 else none
 else
 some (.inr e)
def Hh a b (z_:Int×AHT):=N9 a b z_.1 z_.2
def TU a b d e:=fix (Hh a b) (d,e)
theorem As9 a b:A5 E50 0 3 (code f96) 58 (AqR a b) (Hh a b) (AoJ a b):=by
 intro _;simp only[Hh,N9,AHE];kernel_rfl
def QG(a:Int):Option (Int×AH2×AHT):=
 if Ty.row Ah=true/\(0:Int)<=a/\a<=a/\((32:Nat):Int)*a<=(281474976710656:Int)/\a<=(9223372036854775807:Int)then
 (TU a (List.replicate a.toNat (0,([]:AHT),())) 0 ([]:AHT)).bind λc=>some (0,List.replicate a.toNat (0,([]:AHT),()),c)
 else none
theorem U50 R a K:AW E50 f96 R [dI a] [] K=(QG a).bind λr=>K (.ptr 0 r.1 [] 0) [.box (.pr (.Ak 1) (.pr .zs (.pr (.Ak 2) .u))),.row 83 (.sh []) Ah r.2.1,.row 2 .Ai AIa r.2.2]:=by
 simp only[QG,AHF];simp(disch:=refine id ?_;kernel_rfl) only[TU,AF (As9 _ _) (K:=A4 E50 f96 0 R K)];kernel_rfl
def c96:=Cx [.d AIa] [⟨[.AA [] AIa],[],Int×AH2×AHT,λp=>QG p.1.1,λr=>(.ptr 0 r.1 [] 0,[.box (.pr (.Ak 1) (.pr .zs (.pr (.Ak 2) .u))),.row 83 (.sh []) Ah r.2.1,.row 2 .Ai AIa r.2.2])⟩]
theorem AeZ:As prog 96 c96:=Aw ⟨⟨E50,pk trivial,λ_ _ _=>U50 ..⟩,trivial⟩
abbrev E51:Bd:=⟨A7,Az [(70,c70)],{Ai:=true,A9:=[(5,{Ap:=[3,5,6]})],BQ:=[(5,{Ap:=[5]})]}⟩
def AqS a (z_:Int×Int):=sT 29 [(3,.ptr 0 0 [] 0),(5,dI z_.1),(6,dI z_.2)] [.box (dD Aj a)]
def AoK(a:AHN):=λ(b:Int)=>(Ex.exit 0,sT 29 [(5,dI b)] [])
def NI(a:AHN)(c d:Int):Option ((Int×Int)⊕Int):=
 bif decide (d<(a.1.length:Int))then
 if 0<=d/\d<a.1.length then
 some (.inl (wI (c+((a.1.getD d.toNat AIf.zero).length:Int)),wI (d+1)))
 else none
 else
 some (.inr c)
def Hf a (z_:Int×Int):=NI a z_.1 z_.2
def QU a c d:=fix (Hf a) (c,d)
theorem Ata a:A5 E51 0 5 (code f72) 122 (AqS a) (Hf a) (AoK a):=by
 intro _;simp only[Hf,NI,AHE];kernel_rfl
def Om(e:AHY)(a:AHN):Option Int:=
 (HJ e a).bind λg=>bif !g then
 some (-1)
 else
 (QU a (e.length:Int) 0).bind λb=>some b
theorem U51 R e a K:AW E51 f72 R [dD AId e,dD Aj a] [] K=(Om e a).bind λr=>K (dI r) []:=by
 simp only[Om,AHF];simp(disch:=refine id ?_;kernel_rfl) only[QU,AF (Ata _) (K:=A4 E51 f72 0 R K)];kernel_rfl
def c72:=Cx [.d AId,.d Aj] [⟨[.AA [] AId,.AA [] Aj],[],Int,λp=>Om p.1.1 p.1.2.1,λr=>(dI r,[])⟩]
theorem AeQ:As prog 72 c72:=Aw ⟨⟨E51,pk ⟨aT,trivial⟩,λ_ _ _=>U51 ..⟩,trivial⟩
abbrev E52:Bd:=⟨A7,Az [(77,c77)],{Ai:=true,AfN:=[(53,2)],A9:=[(3,{Ap:=[0,3,5,6],B6:=[(5,false,.row [] 72 AIf true)]}),(7,{Ap:=[0,3,5,6,7,8]}),(13,{Ap:=[5,9,10],Rj:=[(9,false,AIj)]})],BQ:=[(3,{Ap:=[0,3,5]}),(7,{Ap:=[0,3,5,6,7]}),(13,{Ap:=[5]})]}⟩
def AqV a (z_:Int×AH6):=sT 62 [(5,.Ak 0),(9,dD AIj a),(10,dI z_.1)] [.row 72 .Ai AIf z_.2]
def AoN(a:AHX):=λ(b:AH6)=>(Ex.exit 4,sT 62 [(5,.Ak 0)] [.row 72 .Ai AIf b])
def La(a:AHX)(c:Int)(d:AH6):Option ((Int×AH6)⊕AH6):=
 bif decide (c<(a.length:Int))then
 if 0<=c/\c<a.length then
 if(0:Int)<=(a.getD c.toNat Ab.zero).1/\(a.getD c.toNat Ab.zero).1<(d.length:Int)then
 if 0<=c/\c<a.length then
 if(0:Int)<=(a.getD c.toNat Ab.zero).2.1/\(a.getD c.toNat Ab.zero).2.1<(d.getD (a.getD c.toNat Ab.zero).1.toNat AIf.zero).length then
 some (.inl (wI (c+1),d.set (a.getD c.toNat Ab.zero).1.toNat ((d.getD (a.getD c.toNat Ab.zero).1.toNat AIf.zero).set (a.getD c.toNat Ab.zero).2.1.toNat c)))
 else none
 else none
 else none
 else none
 else
 some (.inr d)
def Fq a (z_:Int×AH6):=La a z_.1 z_.2
def N6 a c d:=fix (Fq a) (c,d)
theorem Atd a:A5 E52 0 13 (code f76) 250 (AqV a) (Fq a) (AoN a):=by
 intro _;simp only[Fq,La,AHE];kernel_rfl
def AqU e g (z_:Int×AH6):=sT 62 [(0,dD AId e),(3,.ptr 0 0 [] 0),(5,.Ak 1),(6,dI z_.1)] [.box (dD Aj g),.row 72 .Ai AIf z_.2]
def AoM e g:=λ(i:AH6)=>(Ex.exit 0,sT 62 [(0,dD AId e),(3,.ptr 0 0 [] 0),(5,.Ak 1)] [.box (dD Aj g),.row 72 .Ai AIf i])
def AqT e j g k (z_:Int×AHT):=sT 62 [(0,dD AId e),(3,.ptr 0 0 [] 0),(5,.Ak 1),(6,dI j),(7,.Ak 2),(8,dI z_.1)] [.box (dD Aj g),.row 72 .Ai AIf k,.row 2 .Ai AIa z_.2]
def AoL e j g k:=λ(l:AHT)=>(Ex.exit 2,sT 62 [(0,dD AId e),(3,.ptr 0 0 [] 0),(5,.Ak 1),(6,dI j),(7,.Ak 2)] [.box (dD Aj g),.row 72 .Ai AIf k,.row 2 .Ai AIa l])
def K8(e:AHY)(j:Int)(g:AHN)(k:AH6)(n:Int)(o:AHT):Option ((Int×AHT)⊕AHT):=
 bif decide (n<(o.length:Int))then
 if 0<=n/\n<o.length then
 some (.inl (wI (n+1),o.set n.toNat (-1)))
 else none
 else
 some (.inr o)
def Fl e j g k (z_:Int×AHT):=K8 e j g k z_.1 z_.2
def N4 e j g k n o:=fix (Fl e j g k) (n,o)
theorem Atb e j g k:A5 E52 0 7 (cd f76 116) 202 (AqT e j g k) (Fl e j g k) (AoL e j g k):=by
 intro _;simp only[Fl,K8,AHE];kernel_rfl
def K9(e:AHY)(g:AHN)(j:Int)(k:AH6):Option ((Int×AH6)⊕AH6):=
 bif decide (j<(e.length:Int))then
 if 0<=j/\j<e.length then
 if Ty.row AIa=true/\(0:Int)<=(e.getD j.toNat Ad.zero).2.1/\(e.getD j.toNat Ad.zero).2.1<=(e.getD j.toNat Ad.zero).2.1/\((8:Nat):Int)*(e.getD j.toNat Ad.zero).2.1<=(281474976710656:Int)/\(e.getD j.toNat Ad.zero).2.1<=(9223372036854775807:Int)then
 (N4 e j g k 0 (List.replicate (e.getD j.toNat Ad.zero).2.1.toNat 0)).bind λl=>if(k.length+([l]:AH6).length)*24<=140737488355328 then
 some (.inl (wI (j+1),k++([l]:AH6)))
 else none
 else none
 else none
 else
 some (.inr k)
def Fp e g (z_:Int×AH6):=K9 e g z_.1 z_.2
def N5 e g j k:=fix (Fp e g) (j,k)
theorem Atc e g:A5 E52 0 3 (code f76) 58 (AqU e g) (Fp e g) (AoM e g):=by
 intro _;simp only[Fp,K9,AHE];simp(disch:=refine id ?_;kernel_rfl) only[N4,AF (Atb _ _ _ _) (K:=Ld E52 0 3)];kernel_rfl
def MF(e:AHY)(g:AHN):Option AH6:=
 (N5 e g 0 ([]:AH6)).bind λi=>(Ey e g).bind λa=>(N6 a 0 i).bind λb=>some b
theorem U52 R e g K:AW E52 f76 R [dD AId e,dD Aj g] [] K=(MF e g).bind λr=>K (.Ak 0) [.row 72 .Ai AIf r]:=by
 simp only[MF,AHF];simp(disch:=refine id ?_;kernel_rfl) only[N5,AF (Atc _ _) (K:=A4 E52 f76 0 R K),N6,AF (Atd _) (K:=A4 E52 f76 0 R K)];kernel_rfl
def c76:=Cx [.d AId,.d Aj] [⟨[.AA [] AId,.AA [] Aj],[],AH6,λp=>MF p.1.1 p.1.2.1,λr=>(.Ak 0,[.row 72 .Ai AIf r])⟩]
theorem AeR:As prog 76 c76:=Aw ⟨⟨E52,pk ⟨aU,trivial⟩,λ_ _ _=>U52 ..⟩,trivial⟩
abbrev E53:Bd:=⟨A7,Az [(111,Alm)],{Ai:=true,A9:=[(4,{Ap:=[4,5,10,12,13],B6:=[(12,false,.row [] 5 AIc true)]}),(15,{Ap:=[4,5,10,16,17]})],BQ:=[(4,{Ap:=[10,11,12],Rj:=[(12,false,AIm)]}),(15,{Ap:=[10,11,16]})],BP:=[(13,{Ap:=[3,4,5,10,16,86]})],D2:=[(13,[2,3,4,5,10,16])],dT:=[(0,.row [1,1] 216 AIb true)]}⟩
def AqY a b c (z_:Int):=sT 103 [(4,dI a),(5,.ptr 0 0 [] 0),(10,.ptr 1 0 [] 0),(16,dI c),(17,dI z_)] [.box (dD An b),.box (.pr (dI 0) (.pr (.pr (dI 0) (.pr .zs .u)) .u))]
def AoQ(a:Int)(b:AHO) c:=Sum.elim (λ(d:Unit)=>(Ex.ret,sT 103 [(10,.ptr 0 0 [] 0),(11,dB false),(16,dI c)] [.box (.pr (dI 0) (.pr (.pr (dI 0) (.pr .zs .u)) .u))])) (λ(e:Unit)=>(Ex.exit 2,sT 103 [(10,.ptr 0 0 [] 0),(16,dI c)] [.box (.pr (dI 0) (.pr (.pr (dI 0) (.pr .zs .u)) .u))]))
def Mz(a:Int)(b:AHO)(c g:Int):Option (Int⊕(Unit⊕Unit)):=
 bif decide (g<a)then
 if 0<=g/\g<b.2.1.length then
 bif b.2.1.getD g.toNat (Ty.zero .bool)then
 some (.inr (.inl ()))
 else
 some (.inl (wI (g+1)))
 else none
 else
 some (.inr (.inr ()))
def Gk a b c (z_:Int):=Mz a b c z_
def PO a b c g:=fix (Gk a b c) g
theorem Atg a b c:A5 E53 0 15 (code f79) 250 (AqY a b c) (Gk a b c) (AoQ a b c):=by
 intro _;simp only[Gk,Mz,AHE];kernel_rfl
def AqX i j a b k:=sT 103 [(2,dD AIj i),(3,dI j),(4,dI a),(5,.ptr 0 0 [] 0),(10,.ptr 1 0 [] 0),(16,dI k)] [.box (dD An b),.box (.pr (dI 0) (.pr (.pr (dI 0) (.pr .zs .u)) .u))]
def AoP(i:AHX) j a b k:=λ(l:Bool)=>(Ex.normal,sT 103 [(3,dI j),(4,dI a),(5,.ptr 0 0 [] 0),(10,.ptr 1 0 [] 0),(16,dI k),(86,dB l)] [.box (dD An b),.box (.pr (dI 0) (.pr (.pr (dI 0) (.pr .zs .u)) .u))])
def LK(i:AHX)(j a:Int)(b:AHO)(k:Int):Option Bool:=
 bif decide (k<0)then
 some true
 else
 if 0<=k/\k<i.length then
 some ((i.getD k.toNat Ab.zero).2.2.1 !=(wI (a-j)))
 else none
theorem Atf i j a b k:AZ E53 0 13 (code f79) 60 (AqX i j a b k) (LK i j a b k) (AoP i j a b k):=by
 unfold AZ;simp only[LK,AHE];kernel_rfl
def AqW a b (z_:Int×AHT):=sT 103 [(4,dI a),(5,.ptr 0 0 [] 0),(10,.ptr 1 0 [] 0),(12,.Ak 2),(13,dI z_.1)] [.box (dD An b),.box (.pr (dI 0) (.pr (.pr (dI 0) (.pr .zs .u)) .u)),.row 5 .Ai AIc z_.2]
def AoO(a:Int)(b:AHO):=Sum.elim (λ(n:AHT)=>(Ex.ret,sT 103 [(10,.ptr 0 0 [] 0),(11,dB false),(12,dD AIm n)] [.box (.pr (dI 0) (.pr (.pr (dI 0) (.pr .zs .u)) .u))])) (λ(o:AHT)=>(Ex.exit 0,sT 103 [(10,.ptr 0 0 [] 0),(12,dD AIm o)] [.box (.pr (dI 0) (.pr (.pr (dI 0) (.pr .zs .u)) .u))]))
def My(a:Int)(b:AHO)(q:Int)(s:AHT):Option ((Int×AHT)⊕(AHT⊕AHT)):=
 bif decide (q<a)then
 if 0<=q/\q<b.1.length then
 bif decide ((b.1.getD q.toNat Aa.zero).1>=0)then
 some (.inr (.inl s))
 else
 if 0<=q/\q<b.1.length then
 if(s.length+([IntKind.u8.wrap (b.1.getD q.toNat Aa.zero).2.1]:AHT).length)*1<=140737488355328 then
 some (.inl (wI (q+1),s++([IntKind.u8.wrap (b.1.getD q.toNat Aa.zero).2.1]:AHT)))
 else none
 else none
 else none
 else
 some (.inr (.inr s))
def Gj a b (z_:Int×AHT):=My a b z_.1 z_.2
def PN a b q s:=fix (Gj a b) (q,s)
theorem Ate a b:A5 E53 0 4 (code f79) 426 (AqW a b) (Gj a b) (AoO a b):=by
 intro _;simp only[Gj,My,AHE];kernel_rfl
def LJ(b:AHO)(t:AH6)(i:AHX)(j a:Int):Option (Int×Int×Bool×AHT):=
 if 0<=j/\j<b.1.length then
 bif decide ((b.1.getD j.toNat Aa.zero).1<0)then
 (PN a b j ([]:AHT)).bind (Sum.elim (λn=>some (0,0,false,([]:AHT))) (λo=>(LC o).bind λu=>some (-1,u.1,true,u.2.2)))
 else
 if 0<=j/\j<b.1.length then
 if(0:Int)<=(b.1.getD j.toNat Aa.zero).1/\(b.1.getD j.toNat Aa.zero).1<(t.length:Int)then
 if 0<=j/\j<b.1.length then
 if(0:Int)<=(b.1.getD j.toNat Aa.zero).2.1/\(b.1.getD j.toNat Aa.zero).2.1<((t.getD (b.1.getD j.toNat Aa.zero).1.toNat AIf.zero).length:Int)then
 (LK i j a b ((t.getD (b.1.getD j.toNat Aa.zero).1.toNat AIf.zero).getD (b.1.getD j.toNat Aa.zero).2.1.toNat AIa.zero)).bind λl=>bif l then
 some (0,0,false,([]:AHT))
 else
 (PO a b ((t.getD (b.1.getD j.toNat Aa.zero).1.toNat AIf.zero).getD (b.1.getD j.toNat Aa.zero).2.1.toNat AIa.zero) (wI (j+1))).bind (Sum.elim (λd=>some (0,0,false,([]:AHT))) (λe=>some ((t.getD (b.1.getD j.toNat Aa.zero).1.toNat AIf.zero).getD (b.1.getD j.toNat Aa.zero).2.1.toNat AIa.zero,0,true,([]:AHT))))
 else none
 else none
 else none
 else none
 else none
theorem U53 R b t i j a K:AW E53 f79 R [dD An b,dD AIn t,dD AIj i,dI j,dI a] [] K=(LJ b t i j a).bind λr=>K (.cons (.pr (dI r.1) (.pr (.pr (dI r.2.1) (.pr (.Ak 0) .u)) .u)) (.cons (dB r.2.2.1) .nil)) [.row 216 .Ai AIb r.2.2.2]:=by
 simp only[LJ,AHF];simp(disch:=refine id ?_;kernel_rfl) only[PN,AF (Ate _ _) (K:=A4 E53 f79 0 R K),Bg (Atf ..) (K:=A4 E53 f79 0 R K),PO,AF (Atg _ _ _) (K:=A4 E53 f79 0 R K)];kernel_rfl
def c79:=Cx [.d An,.d AIn,.d AIj,.d AIa,.d AIa] [⟨[.AA [] An,.AA [] AIn,.AA [] AIj,.AA [] AIa,.AA [] AIa],[],Int×Int×Bool×AHT,λp=>LJ p.1.1 p.1.2.1 p.1.2.2.1 p.1.2.2.2.1 p.1.2.2.2.2.1,λr=>(.cons (.pr (dI r.1) (.pr (.pr (dI r.2.1) (.pr (.Ak 0) .u)) .u)) (.cons (dB r.2.2.1) .nil),[.row 216 .Ai AIb r.2.2.2])⟩]
theorem AeS:As prog 79 c79:=Aw ⟨⟨E53,pk ⟨mH,trivial⟩,λ_ _ _=>U53 ..⟩,trivial⟩
abbrev qn:Bd:=⟨A7,Az [(51,c51),(70,c70),(71,c71),(72,c72),(73,c73),(74,c74),(75,c75),(76,c76),(77,c77),(78,c78),(79,c79)],{A9:=[(17,{Ap:=[8,15,16,17,18,19,20,21,22],Rj:=[(17,false,AIo),(18,false,AIn),(19,false,AIj)],B6:=[(20,false,.row [] 139 Aq false)]})],BQ:=[(17,{Ap:=[6,7,20]})],BP:=[(3,{Ap:=[0,4,5,8,38]}),(6,{Ap:=[0,4,5,8,58]}),(18,{Ap:=[6,7,8,15,16,17,18,19,20,21,22],B6:=[(20,false,.row [] 139 Aq false)]}),(20,{Ap:=[8,15,16,17,18,19,20,21,22]}),(23,{Ap:=[8,15,16,17,18,19,20,21,22,23,25,137]})],D2:=[(3,[0,4,5,8]),(6,[0,4,5,8,9,10]),(18,[8,15,16,17,18,19,20,21,22]),(20,[8,15,16,17,18,19,20,21,22]),(23,[8,15,16,17,18,19,20,21,22,23,24,25,26])],fA:=[(35,AIi),(43,AIi)],dT:=[(0,.row [] 139 Aq false)]}⟩
def AjH a b c d e g i (z_:Int×Int×AH5):=sT 150 [(8,.zs),(15,.ptr 0 0 [] 0),(16,.ptr 1 0 [] 0),(17,dD AIo a),(18,dD AIn b),(19,dD AIj c),(20,.Ak 2),(21,dI z_.1),(22,dI z_.2.1)] [.box (.pr (.Ak 3) (.pr (.Ak 4) .u)),.box (.pr (.Ak 5) (.pr (.Ak 6) .u)),.row 139 (.sh []) Aq z_.2.2,.row 199 .Ai Aa d,.row 4 .Ai .bool e,.row 199 .Ai Aa g,.row 4 .Ai .bool i]
def Aiq(a:AH7)(b:AH6)(c:AHX)(d:AHW)(e:AHU)(g:AHW)(i:AHU):=Sum.elim (λ(j:AH5)=>(Ex.ret,sT 150 [(6,.zs),(7,dB false),(20,.Ak 0)] [.row 139 (.sh []) Aq j])) (λ(k:AH5)=>(Ex.exit 0,sT 150 [(20,.Ak 0)] [.row 139 (.sh []) Aq k]))
def Aq2 a b c l n o d e g i:=sT 150 [(8,.zs),(15,.ptr 0 0 [] 0),(16,.ptr 1 0 [] 0),(17,dD AIo a),(18,dD AIn b),(19,dD AIj c),(20,.Ak 2),(21,dI l),(22,dI n)] [.box (.pr (.Ak 3) (.pr (.Ak 4) .u)),.box (.pr (.Ak 5) (.pr (.Ak 6) .u)),.row 139 (.sh []) Aq o,.row 199 .Ai Aa d,.row 4 .Ai .bool e,.row 199 .Ai Aa g,.row 4 .Ai .bool i]
def AoU a b c l n o d e g i:=Sum.elim (λ(q:(Int×AH5))=>(Ex.normal,sT 150 [(8,.zs),(15,.ptr 0 0 [] 0),(16,.ptr 1 0 [] 0),(17,dD AIo a),(18,dD AIn b),(19,dD AIj c),(20,.Ak 2),(21,dI q.1),(22,dI n)] [.box (.pr (.Ak 3) (.pr (.Ak 4) .u)),.box (.pr (.Ak 5) (.pr (.Ak 6) .u)),.row 139 (.sh []) Aq q.2,.row 199 .Ai Aa d,.row 4 .Ai .bool e,.row 199 .Ai Aa g,.row 4 .Ai .bool i])) (λ(s:Unit)=>(Ex.ret,sT 150 [(6,.zs),(7,dB false),(8,.zs),(15,.ptr 0 0 [] 0),(16,.ptr 1 0 [] 0),(17,dD AIo a),(18,dD AIn b),(19,dD AIj c),(20,.Ak 2),(21,dI l),(22,dI n)] [.box (.pr (.Ak 3) (.pr (.Ak 4) .u)),.box (.pr (.Ak 5) (.pr (.Ak 6) .u)),.row 139 (.sh []) Aq o,.row 199 .Ai Aa d,.row 4 .Ai .bool e,.row 199 .Ai Aa g,.row 4 .Ai .bool i]))
def yw a b c l n (t:(Int×Int×Bool×AHT)) (u:(Int×Int×Bool×AHT)) o d e g i:=sT 150 [(8,.zs),(15,.ptr 0 0 [] 0),(16,.ptr 1 0 [] 0),(17,dD AIo a),(18,dD AIn b),(19,dD AIj c),(20,.Ak 2),(21,dI l),(22,dI n),(23,.ptr 3 0 [] 0),(24,dB t.2.2.1),(25,.ptr 4 0 [] 0),(26,dB u.2.2.1)] [.box (.pr (.Ak 5) (.pr (.Ak 6) .u)),.box (.pr (.Ak 7) (.pr (.Ak 8) .u)),.row 139 (.sh []) Aq o,.box (.pr (dI t.1) (.pr (.pr (dI t.2.1) (.pr (.Ak 9) .u)) .u)),.box (.pr (dI u.1) (.pr (.pr (dI u.2.1) (.pr (.Ak 10) .u)) .u)),.row 199 .Ai Aa d,.row 4 .Ai .bool e,.row 199 .Ai Aa g,.row 4 .Ai .bool i,.row 216 .Ai AIb t.2.2.2,.row 216 .Ai AIb u.2.2.2]
def xU(a:AH7)(b:AH6)(c:AHX)(l n:Int)(t u:Int×Int×Bool×AHT)(o:AH5)(d:AHW)(e:AHU)(g:AHW)(i:AHU)(m0:Bool):Ex×St:=(.normal,sT 150 [(8,.zs),(15,.ptr 0 0 [] 0),(16,.ptr 1 0 [] 0),(17,dD AIo a),(18,dD AIn b),(19,dD AIj c),(20,.Ak 2),(21,dI l),(22,dI n),(23,.ptr 3 0 [] 0),(25,.ptr 4 0 [] 0),(137,dB m0)] [.box (.pr (.Ak 5) (.pr (.Ak 6) .u)),.box (.pr (.Ak 7) (.pr (.Ak 8) .u)),.row 139 (.sh []) Aq o,.box (.pr (dI t.1) (.pr (.pr (dI t.2.1) (.pr (.Ak 9) .u)) .u)),.box (.pr (dI u.1) (.pr (.pr (dI u.2.1) (.pr (.Ak 10) .u)) .u)),.row 199 .Ai Aa d,.row 4 .Ai .bool e,.row 199 .Ai Aa g,.row 4 .Ai .bool i,.row 216 .Ai AIb t.2.2.2,.row 216 .Ai AIb u.2.2.2])
theorem Atk a b c l n t u o d e g i:MY qn 0 23 (sb (cd f23 524276) 6) (pt 92) (yw a b c l n t u o d e g i)=some (xU a b c l n t u o d e g i ((!t.2.2.1)||(!u.2.2.1))):=by
 have h0:MY qn 0 23 (sb (cd f23 524276) 6) (pt 92) (yw a b c l n t u o d e g i) =
 bif !t.2.2.1 then
 some (xU a b c l n t u o d e g i true)
 else
 some (xU a b c l n t u o d e g i (!u.2.2.1)):=by kernel_rfl
 rw[h0];cases (!t.2.2.1)
 ·rfl
 ·rfl
def Aq1 a b c l n o d e g i:=sT 150 [(8,.zs),(15,.ptr 0 0 [] 0),(16,.ptr 1 0 [] 0),(17,dD AIo a),(18,dD AIn b),(19,dD AIj c),(20,.Ak 2),(21,dI l),(22,dI n)] [.box (.pr (.Ak 3) (.pr (.Ak 4) .u)),.box (.pr (.Ak 5) (.pr (.Ak 6) .u)),.row 139 (.sh []) Aq o,.row 199 .Ai Aa d,.row 4 .Ai .bool e,.row 199 .Ai Aa g,.row 4 .Ai .bool i]
def AoT a b c l n o d e g i:=Sum.elim (λ(v:Unit)=>(Ex.exit 1,sT 150 [(8,.zs),(15,.ptr 0 0 [] 0),(16,.ptr 1 0 [] 0),(17,dD AIo a),(18,dD AIn b),(19,dD AIj c),(20,.Ak 2),(21,dI l),(22,dI n)] [.box (.pr (.Ak 3) (.pr (.Ak 4) .u)),.box (.pr (.Ak 5) (.pr (.Ak 6) .u)),.row 139 (.sh []) Aq o,.row 199 .Ai Aa d,.row 4 .Ai .bool e,.row 199 .Ai Aa g,.row 4 .Ai .bool i])) (λ(w:Unit)=>(Ex.normal,sT 150 [(8,.zs),(15,.ptr 0 0 [] 0),(16,.ptr 1 0 [] 0),(17,dD AIo a),(18,dD AIn b),(19,dD AIj c),(20,.Ak 2),(21,dI l),(22,dI n)] [.box (.pr (.Ak 3) (.pr (.Ak 4) .u)),.box (.pr (.Ak 5) (.pr (.Ak 6) .u)),.row 139 (.sh []) Aq o,.row 199 .Ai Aa d,.row 4 .Ai .bool e,.row 199 .Ai Aa g,.row 4 .Ai .bool i]))
def Ei(a:AH7)(b:AH6)(c:AHX)(l n:Int)(o:AH5)(d:AHW)(e:AHU)(g:AHW)(i:AHU):Option (Unit⊕Unit):=
 bif decide (n<(d.length:Int))then
 (CW (d,e,()) a n).bind λx=>bif !x then
 (CW (g,i,()) a n).bind λy=>bif !y then
 some (.inl ())
 else
 some (.inr ())
 else
 some (.inr ())
 else
 some (.inr ())
theorem Atj a b c l n o d e g i:AZ qn 0 20 (sb (cd f23 524276) 6) 4 (Aq1 a b c l n o d e g i) (Ei a b c l n o d e g i) (AoT a b c l n o d e g i):=by
 unfold AZ;simp only[Ei,AHE];kernel_rfl
def IZ(a:AH7)(b:AH6)(c:AHX)(l n:Int)(o:AH5)(d:AHW)(e:AHU)(g:AHW)(i:AHU):Option ((Int×AH5)⊕Unit):=
 (Ei a b c l n o d e g i).bind (Sum.elim (λv=>some (.inl (l,o))) (λw=>(LJ (d,e,()) b c l n).bind λt=>(LJ (g,i,()) b c l n).bind λu=>P2 (yw a b c l n t u o d e g i) (
 bif (!t.2.2.1)||(!u.2.2.1)then
 some (.inr ())
 else
 if(o.length+([((t.1,(t.2.1,t.2.2.2,()),()),(u.1,(u.2.1,u.2.2.2,()),()),wI (n-l),())]:AH5).length)*88<=140737488355328 then
 some (.inl (n,o++([((t.1,(t.2.1,t.2.2.2,()),()),(u.1,(u.2.1,u.2.2.2,()),()),wI (n-l),())]:AH5)))
 else none)))
theorem Atl a b c l n o d e g i:AZ qn 0 18 (cd f23 524276) 6 (Aq2 a b c l n o d e g i) (IZ a b c l n o d e g i) (AoU a b c l n o d e g i):=by
 unfold AZ;simp only[IZ,AHE];simp(disch:=refine id ?_;kernel_rfl) only[Bg (Atj ..) (K:=Te qn 0 18),F4 (Atk ..) (K:=Te qn 0 18)];kernel_rfl
def Is(a:AH7)(b:AH6)(c:AHX)(d:AHW)(e:AHU)(g:AHW)(i:AHU)(l n:Int)(o:AH5):Option ((Int×Int×AH5)⊕(AH5⊕AH5)):=
 bif decide (n<=(d.length:Int))then
 (IZ a b c l n o d e g i).bind (Sum.elim (λq=>some (.inl (q.1,wI (n+1),q.2))) (λs=>some (.inr (.inl o))))
 else
 some (.inr (.inr o))
def DL a b c d e g i (z_:Int×Int×AH5):=Is a b c d e g i z_.1 z_.2.1 z_.2.2
def KV a b c d e g i l n o:=fix (DL a b c d e g i) (l,n,o)
theorem Ald a b c d e g i:A5 qn 0 17 (code f23) 262138 (AjH a b c d e g i) (DL a b c d e g i) (Aiq a b c d e g i):=by
 intro _;simp only[DL,Is,AHE];simp(disch:=refine id ?_;kernel_rfl) only[Bg (Atl ..) (K:=Ld qn 0 17)];kernel_rfl
def Aq0 a1 b1 c1 d1 e1:=sT 150 [(0,dD AId a1),(4,.ptr 0 0 [] 0),(5,.ptr 1 0 [] 0),(8,.zs),(9,.ptr 2 0 [] 0),(10,dB d1)] [.box (dD Af b1),.box (dD Aj c1),.box (dD Aj e1)]
def AoS a1 b1 c1 (d1:Bool) (e1:AHN):=λ(g1:Bool)=>(Ex.normal,sT 150 [(0,dD AId a1),(4,.ptr 0 0 [] 0),(5,.ptr 1 0 [] 0),(8,.zs),(58,dB g1)] [.box (dD Af b1),.box (dD Aj c1)])
def Mi(a1:AHY)(b1:AHK)(c1:AHN)(d1:Bool)(e1:AHN):Option Bool:=
 bif !d1 then
 some true
 else
 (Om a1 e1).bind λi1=>(Om a1 c1).bind λj1=>some (i1 !=j1)
theorem Ati a1 b1 c1 d1 e1:AZ qn 0 6 (code f23) 124 (Aq0 a1 b1 c1 d1 e1) (Mi a1 b1 c1 d1 e1) (AoS a1 b1 c1 d1 e1):=by
 unfold AZ;simp only[Mi,AHE];kernel_rfl
def AqZ a1 b1 c1:=sT 150 [(0,dD AId a1),(4,.ptr 0 0 [] 0),(5,.ptr 1 0 [] 0),(8,.zs)] [.box (dD Af b1),.box (dD Aj c1)]
def AoR a1 b1 c1:=λ(k1:Bool)=>(Ex.normal,sT 150 [(0,dD AId a1),(4,.ptr 0 0 [] 0),(5,.ptr 1 0 [] 0),(8,.zs),(38,dB k1)] [.box (dD Af b1),.box (dD Aj c1)])
def Mh(a1:AHY)(b1:AHK)(c1:AHN):Option Bool:=
 (HJ a1 c1).bind λl1=>bif !l1 then
 some true
 else
 (DZ a1 ([b1]:AH0)).bind λn1=>some (!n1)
theorem Ath a1 b1 c1:AZ qn 0 3 (code f23) 28 (AqZ a1 b1 c1) (Mh a1 b1 c1) (AoR a1 b1 c1):=by
 unfold AZ;simp only[Mh,AHE];kernel_rfl
def Ko(a1:AHY)(b1:AHK)(c1:AHN):Option (Bool×AH5):=
 (Mh a1 b1 c1).bind λk1=>bif k1 then
 some (false,([]:AH5))
 else
 (Dt a1 ([b1]:AH0) c1).bind λo1=>(Mi a1 b1 c1 o1.2 o1.1).bind λg1=>bif g1 then
 some (false,([]:AH5))
 else
 (CM a1 b1.2.2.1).bind λq1=>(CM a1 b1.2.2.2.1).bind λs1=>(HP q1.2).bind λt1=>(HP s1.2).bind λu1=>(JQ a1 c1).bind λa=>(MF a1 c1).bind λb=>(Ey a1 c1).bind λc=>(KV a b c t1.1 t1.2 u1.1 u1.2 0 1 ([]:AH5)).bind (Sum.elim (λj=>some (false,([]:AH5))) (λk=>some (true,k)))
theorem U54 R a1 b1 c1 K:AW qn f23 R [dD AId a1,dD Af b1,dD Aj c1] [] K=(Ko a1 b1 c1).bind λr=>K (.cons (.Ak 0) (.cons (dB r.1) .nil)) [.row 139 (.sh []) Aq r.2]:=by
 simp only[Ko,AHF];simp(disch:=refine id ?_;kernel_rfl) only[Bg (Ath ..) (K:=A4 qn f23 0 R K),Bg (Ati ..) (K:=A4 qn f23 0 R K),KV,AF (Ald _ _ _ _ _ _ _) (K:=A4 qn f23 0 R K)];kernel_rfl
def c23:=Cx [.d AId,.d Af,.d Aj] [⟨[.AA [] AId,.AA [] Af,.AA [] Aj],[],Bool×AH5,λp=>Ko p.1.1 p.1.2.1 p.1.2.2.1,λr=>(.cons (.Ak 0) (.cons (dB r.1) .nil),[.row 139 (.sh []) Aq r.2])⟩]
theorem AeC:As prog 23 c23:=Aw ⟨⟨qn,pk ⟨jH,aT,tv,AeQ,tw,tz,tA,AeR,aU,jI,AeS,trivial⟩,λ_ _ _=>U54 ..⟩,trivial⟩
abbrev E55:Bd:=⟨A7,Az [],{Ai:=true,A9:=[(4,{Ap:=[2,3,5]})],BQ:=[(4,{Ap:=[4]})],BP:=[(2,{Ap:=[2,3,19]})],D2:=[(2,[2,3])]}⟩
def Aq3 a b (z_:Int):=sT 38 [(2,.ptr 0 0 [] 0),(3,.ptr 1 0 [] 0),(5,dI z_)] [.box (dD Ah a),.box (dD Ah b)]
def AoV(a b:AHM):=Sum.elim (λ(c:Unit)=>(Ex.ret,sT 38 [(4,dB false)] [])) (λ(d:Unit)=>(Ex.exit 0,sT 38 [] []))
def HO(a b:AHM)(e:Int):Option (Int⊕(Unit⊕Unit)):=
 bif decide (e<(a.2.1.length:Int))then
 if 0<=e/\e<a.2.1.length then
 if 0<=e/\e<b.2.1.length then
 bif (a.2.1.getD e.toNat AIb.zero) !=(b.2.1.getD e.toNat AIb.zero)then
 some (.inr (.inl ()))
 else
 some (.inl (wI (e+1)))
 else none
 else none
 else
 some (.inr (.inr ()))
def Da a b (z_:Int):=HO a b z_
def S0 a b e:=fix (Da a b) e
theorem Atn a b:A5 E55 0 4 (code f167) 58 (Aq3 a b) (Da a b) (AoV a b):=by
 intro _;simp only[Da,HO,AHE];kernel_rfl
def yx a b:=sT 38 [(2,.ptr 0 0 [] 0),(3,.ptr 1 0 [] 0)] [.box (dD Ah a),.box (dD Ah b)]
def xV(a b:AHM)(m0:Bool):Ex×St:=(.normal,sT 38 [(2,.ptr 0 0 [] 0),(3,.ptr 1 0 [] 0),(19,dB m0)] [.box (dD Ah a),.box (dD Ah b)])
theorem Atm a b:MY E55 0 2 (code f167) (pt 12) (yx a b)=some (xV a b ((a.1 !=b.1)||((a.2.1.length:Int) !=(b.2.1.length:Int)))):=by
 have h0:MY E55 0 2 (code f167) (pt 12) (yx a b) =
 bif a.1 !=b.1 then
 some (xV a b true)
 else
 some (xV a b ((a.2.1.length:Int) !=(b.2.1.length:Int))):=by kernel_rfl
 rw[h0];cases (a.1 !=b.1)
 ·rfl
 ·rfl
def Fu(a b:AHM):Option Bool:=
 P2 (yx a b) (
 bif (a.1 !=b.1)||((a.2.1.length:Int) !=(b.2.1.length:Int))then
 some false
 else
 (S0 a b 0).bind (Sum.elim (λc=>some false) (λd=>some true)))
theorem U55 R a b K:AW E55 f167 R [dD Ah a,dD Ah b] [] K=(Fu a b).bind λr=>K (dB r) []:=by
 simp only[Fu,AHF];simp(disch:=refine id ?_;kernel_rfl) only[F4 (Atm ..) (K:=A4 E55 f167 0 R K),S0,AF (Atn _ _) (K:=A4 E55 f167 0 R K)];kernel_rfl
def Au9:=Cx [.d Ah,.d Ah] [⟨[.AA [] Ah,.AA [] Ah],[],Bool,λp=>Fu p.1.1 p.1.2.1,λr=>(dB r,[])⟩]
theorem zH:As prog 167 Au9:=Aw ⟨⟨E55,pk trivial,λ_ _ _=>U55 ..⟩,trivial⟩
abbrev sX:Type:=AHX->Int->Int->AHU->Option (Bool×AHU×AHT)
def zJ(rc:sX):Va.Callee:=Cx [.d AIj,.Vu,.d AIa,.d AIa] [⟨[.AA [] AIj,.k (.Ak 0),.AA [] AIa,.AA [] AIa],[.row 4 .Ai .bool],Bool×AHU×AHT,λp=>rc p.1.1 p.1.2.2.1 p.1.2.2.2.1 p.2.1,λr=>(.cons (.Ak 1) (.cons (dB r.1) .nil),[.row 4 .Ai .bool r.2.1,.row 2 .Ai AIa r.2.2])⟩]
abbrev E56(rc:sX):Bd:=⟨A7,Az [(168,zJ rc)],{Ai:=true,A9:=[(4,{Ap:=[0,1,2,3,10]})],BQ:=[(4,{Ap:=[8,9]})],BP:=[(5,{Ap:=[0,1,2,3,8,9,10]}),(7,{Ap:=[0,1,2,3,10]})],D2:=[(5,[0,1,2,3,10]),(7,[0,1,2,3,10])],dT:=[(0,.row [] 2 AIa true)]}⟩
def Aq6 a b c (z_:Int×AHU):=sT 80 [(0,dD AIj a),(1,.Ak 0),(2,dI b),(3,dI c),(10,dI z_.1)] [.row 4 .Ai .bool z_.2]
def AoY(a:AHX)(b c:Int):=Sum.elim (λ(d:(AHU×AHT))=>(Ex.ret,sT 80 [(8,.Ak 1),(9,dB true)] [.row 4 .Ai .bool d.1,.row 2 .Ai AIa d.2])) (λ(e:AHU)=>(Ex.exit 0,sT 80 [] [.row 4 .Ai .bool e]))
def Aq5 a b c g i:=sT 80 [(0,dD AIj a),(1,.Ak 0),(2,dI b),(3,dI c),(10,dI g)] [.row 4 .Ai .bool i]
def AoX a b c g (i:AHU):=Sum.elim (λ(j:AHU)=>(Ex.normal,sT 80 [(0,dD AIj a),(1,.Ak 0),(2,dI b),(3,dI c),(10,dI g)] [.row 4 .Ai .bool j])) (λ(k:(AHU×AHT))=>(Ex.ret,sT 80 [(0,dD AIj a),(1,.Ak 0),(2,dI b),(3,dI c),(8,.Ak 1),(9,dB true),(10,dI g)] [.row 4 .Ai .bool k.1,.row 2 .Ai AIa k.2]))
def Aq4 a b c g i:=sT 80 [(0,dD AIj a),(1,.Ak 0),(2,dI b),(3,dI c),(10,dI g)] [.row 4 .Ai .bool i]
def AoW a b c g i:=Sum.elim (λ(l:Unit)=>(Ex.exit 1,sT 80 [(0,dD AIj a),(1,.Ak 0),(2,dI b),(3,dI c),(10,dI g)] [.row 4 .Ai .bool i])) (λ(n:Unit)=>(Ex.normal,sT 80 [(0,dD AIj a),(1,.Ak 0),(2,dI b),(3,dI c),(10,dI g)] [.row 4 .Ai .bool i]))
def QW(rc:sX)(a:AHX)(b c g:Int)(i:AHU):Option (Unit⊕Unit):=
 if 0<=g/\g<i.length then
 bif i.getD g.toNat (Ty.zero .bool)then
 some (.inl ())
 else
 if 0<=g/\g<a.length then
 bif (a.getD g.toNat Ab.zero).1 !=b then
 if 0<=g/\g<a.length then
 bif (a.getD g.toNat Ab.zero).2.1 !=b then
 some (.inl ())
 else
 some (.inr ())
 else none
 else
 some (.inr ())
 else none
 else none
theorem Ato(rc:sX) a b c g i:AZ (E56 rc) 1 7 (sb (cd f168 116) 6) 4 (Aq4 a b c g i) (QW rc a b c g i) (AoW a b c g i):=by
 unfold AZ;simp only[QW,AHE];kernel_rfl
def QX(rc:sX)(a:AHX)(b c g:Int)(i:AHU):Option (AHU⊕(AHU×AHT)):=
 (QW rc a b c g i).bind (Sum.elim (λl=>some (.inl i)) (λn=>if 0<=g/\g<i.length then
 if 0<=g/\g<a.length then
 if 0<=g/\g<a.length then
 (rc a (wI ((wI ((a.getD g.toNat Ab.zero).1+(a.getD g.toNat Ab.zero).2.1))-b)) c (i.set g.toNat true)).bind λo=>bif o.1 then
 if 0<=g/\g<a.length then
 if(([(a.getD g.toNat Ab.zero).2.2.1]:AHT).length+o.2.2.length)*8<=140737488355328 then
 some (.inr (o.2.1,([(a.getD g.toNat Ab.zero).2.2.1]:AHT)++o.2.2))
 else none
 else none
 else
 some (.inl o.2.1)
 else none
 else none
 else none))
theorem Atp(rc:sX) a b c g i:AZ (E56 rc) 1 5 (cd f168 116) 6 (Aq5 a b c g i) (QX rc a b c g i) (AoX a b c g i):=by
 unfold AZ;simp only[QX,AHE];simp(disch:=refine id ?_;kernel_rfl) only[Bg (Ato ..) (K:=Te (E56 rc) 1 5)];kernel_rfl
def RL(rc:sX)(a:AHX)(b c g:Int)(i:AHU):Option ((Int×AHU)⊕((AHU×AHT)⊕AHU)):=
 bif decide (g<(a.length:Int))then
 (QX rc a b c g i).bind (Sum.elim (λj=>some (.inl (wI (g+1),j))) (λk=>some (.inr (.inl (k.1,k.2)))))
 else
 some (.inr (.inr i))
def N8(rc:sX) a b c (z_:Int×AHU):=RL rc a b c z_.1 z_.2
def TT(rc:sX) a b c g i:=fix (N8 rc a b c) (g,i)
theorem Atq(rc:sX) a b c:A5 (E56 rc) 1 4 (code f168) 58 (Aq6 a b c) (N8 rc a b c) (AoY a b c):=by
 intro _;simp only[N8,RL,AHE];simp(disch:=refine id ?_;kernel_rfl) only[Bg (Atp ..) (K:=Ld (E56 rc) 1 4)];kernel_rfl
def PV(rc:sX)(a:AHX)(b c:Int)(q:AHU):Option (Bool×AHU×AHT):=
 bif b==c then
 some (true,q,([]:AHT))
 else
 (TT rc a b c 0 q).bind (Sum.elim (λd=>some (true,d.1,d.2)) (λe=>some (false,e,([]:AHT))))
theorem U56 R (rc:sX) a b c q K:AW (E56 rc) f168 R [dD AIj a,.Ak 0,dI b,dI c] [.row 4 .Ai .bool q] K=(PV rc a b c q).bind λr=>K (.cons (.Ak 1) (.cons (dB r.1) .nil)) [.row 4 .Ai .bool r.2.1,.row 2 .Ai AIa r.2.2]:=by
 simp only[PV,AHF];simp(disch:=refine id ?_;kernel_rfl) only[TT,AF (Atq _ _ _ _) (K:=A4 (E56 rc) f168 1 R K)];kernel_rfl
def HQ:Nat->sX
 |0=>λ_ _ _ _=>none
 |n+1=>PV (HQ n)
def XT:sX:=HQ 1000000
def Ava:Va.Callee:=zJ XT
theorem mT:∀n,As prog 168 (zJ (HQ n))
 |0=>Aep ⟨λ_=>rfl,trivial⟩
 |n+1=>Aw (fn:=f168) ⟨⟨E56 (HQ n),pk ⟨mT n,trivial⟩,λp R K=>U56 R (HQ n) p.1.1 p.1.2.2.1 p.1.2.2.2.1 p.2.1 K⟩,trivial⟩
theorem zI:As prog 168 Ava:=mT _
abbrev E57:Bd:=⟨A7,Az [],{Ai:=true,A9:=[(2,{Ap:=[0,1,5]})],BQ:=[(2,{Ap:=[4]})]}⟩
def Aq7 a b (z_:Int):=sT 18 [(0,dD AIf a),(1,dI b),(5,dI z_)] []
def AoZ(a:AHT)(b:Int):=Sum.elim (λ(c:Unit)=>(Ex.ret,sT 18 [(4,dB true)] [])) (λ(d:Unit)=>(Ex.exit 0,sT 18 [] []))
def RF(a:AHT)(b e:Int):Option (Int⊕(Unit⊕Unit)):=
 bif decide (e<(a.length:Int))then
 if 0<=e/\e<a.length then
 bif (a.getD e.toNat AIa.zero)==b then
 some (.inr (.inl ()))
 else
 some (.inl (wI (e+1)))
 else none
 else
 some (.inr (.inr ()))
def NK a b (z_:Int):=RF a b z_
def QV a b e:=fix (NK a b) e
theorem Atr a b:A5 E57 0 2 (code f128) 26 (Aq7 a b) (NK a b) (AoZ a b):=by
 intro _;simp only[NK,RF,AHE];kernel_rfl
def QA(a:AHT)(b:Int):Option Bool:=
 (QV a b 0).bind (Sum.elim (λc=>some true) (λd=>some false))
theorem U57 R a b K:AW E57 f128 R [dD AIf a,dI b] [] K=(QA a b).bind λr=>K (dB r) []:=by
 simp only[QA,AHF];simp(disch:=refine id ?_;kernel_rfl) only[QV,AF (Atr _ _) (K:=A4 E57 f128 0 R K)];kernel_rfl
def AuO:=Cx [.d AIf,.d AIa] [⟨[.AA [] AIf,.AA [] AIa],[],Bool,λp=>QA p.1.1 p.1.2.1,λr=>(dB r,[])⟩]
theorem zk:As prog 128 AuO:=Aw ⟨⟨E57,pk trivial,λ_ _ _=>U57 ..⟩,trivial⟩
abbrev E58:Bd:=⟨A7,Az [(128,AuO)],{Ai:=true,A9:=[(3,{Ap:=[0,3,4],B6:=[(3,false,.row [] 2 AIa true)]}),(8,{Ap:=[0,3,4,5]})],BQ:=[(3,{Ap:=[3]}),(8,{Ap:=[0,3,4,5]})],BP:=[(4,{Ap:=[0,3,4],B6:=[(3,false,.row [] 2 AIa true)]}),(9,{Ap:=[0,3,4,5]})],D2:=[(4,[0,3,4]),(9,[0,3,4,5])]}⟩
def Arb a (z_:Int×AHT):=sT 60 [(0,dD AIf a),(3,.Ak 0),(4,dI z_.1)] [.row 2 .Ai AIa z_.2]
def Ao3(a:AHT):=λ(b:AHT)=>(Ex.exit 0,sT 60 [(3,.Ak 0)] [.row 2 .Ai AIa b])
def Ara a c d:=sT 60 [(0,dD AIf a),(3,.Ak 0),(4,dI c)] [.row 2 .Ai AIa d]
def Ao2 a c (d:AHT):=λ(e:AHT)=>(Ex.normal,sT 60 [(0,dD AIf a),(3,.Ak 0),(4,dI c)] [.row 2 .Ai AIa e])
def Aq9 a c (z_:Int×AHT):=sT 60 [(0,dD AIf a),(3,.Ak 0),(4,dI c),(5,dI z_.1)] [.row 2 .Ai AIa z_.2]
def Ao1 a c:=λ(g:(Int×AHT))=>(Ex.exit 2,sT 60 [(0,dD AIf a),(3,.Ak 0),(4,dI c),(5,dI g.1)] [.row 2 .Ai AIa g.2])
def Aq8 a c i j:=sT 60 [(0,dD AIf a),(3,.Ak 0),(4,dI c),(5,dI i)] [.row 2 .Ai AIa j]
def Ao0 a c i j:=Sum.elim (λ(k:Unit)=>(Ex.normal,sT 60 [(0,dD AIf a),(3,.Ak 0),(4,dI c),(5,dI i)] [.row 2 .Ai AIa j])) (λ(l:Unit)=>(Ex.exit 2,sT 60 [(0,dD AIf a),(3,.Ak 0),(4,dI c),(5,dI i)] [.row 2 .Ai AIa j]))
def MJ(a:AHT)(c i:Int)(j:AHT):Option (Unit⊕Unit):=
 bif decide (i>0)then
 if 0<=(wI (i-1))/\(wI (i-1))<j.length then
 if 0<=c/\c<a.length then
 bif decide ((j.getD (wI (i-1)).toNat AIa.zero)>(a.getD c.toNat AIa.zero))then
 some (.inl ())
 else
 some (.inr ())
 else none
 else none
 else
 some (.inr ())
theorem Ats a c i j:AZ E58 0 9 (sb (sb (cd f169 116) 6) 184) 2 (Aq8 a c i j) (MJ a c i j) (Ao0 a c i j):=by
 unfold AZ;simp only[MJ,AHE];kernel_rfl
def Oq(a:AHT)(c i:Int)(j:AHT):Option ((Int×AHT)⊕(Int×AHT)):=
 (MJ a c i j).bind (Sum.elim (λk=>if 0<=(wI (i-1))/\(wI (i-1))<j.length then
 if 0<=i/\i<j.length then
 some (.inl (wI (i-1),j.set i.toNat (j.getD (wI (i-1)).toNat AIa.zero)))
 else none
 else none) (λl=>some (.inr (i,j))))
def JU a c (z_:Int×AHT):=Oq a c z_.1 z_.2
def QE a c i j:=fix (JU a c) (i,j)
theorem Att a c:A5 E58 0 8 (sb (cd f169 116) 6) 92 (Aq9 a c) (JU a c) (Ao1 a c):=by
 intro _;simp only[JU,Oq,AHE];simp(disch:=refine id ?_;kernel_rfl) only[Bg (Ats ..) (K:=Ld E58 0 8)];kernel_rfl
def MK(a:AHT)(c:Int)(d:AHT):Option AHT:=
 if 0<=c/\c<a.length then
 (QA d (a.getD c.toNat AIa.zero)).bind λn=>bif n then
 some d
 else
 if 0<=c/\c<a.length then
 if(d.length+([a.getD c.toNat AIa.zero]:AHT).length)*8<=140737488355328 then
 (QE a c (d.length:Int) (d++([a.getD c.toNat AIa.zero]:AHT))).bind λg=>if 0<=c/\c<a.length then
 if(0:Int)<=g.1/\g.1<(g.2.length:Int)then
 some (g.2.set g.1.toNat (a.getD c.toNat AIa.zero))
 else none
 else none
 else none
 else none
 else none
theorem Atu a c d:AZ E58 0 4 (cd f169 116) 6 (Ara a c d) (MK a c d) (Ao2 a c d):=by
 unfold AZ;simp only[MK,AHE];simp(disch:=refine id ?_;kernel_rfl) only[QE,AF (Att _ _) (K:=Te E58 0 4)];kernel_rfl
def Ot(a:AHT)(c:Int)(d:AHT):Option ((Int×AHT)⊕AHT):=
 bif decide (c<(a.length:Int))then
 (MK a c d).bind λe=>some (.inl (wI (c+1),e))
 else
 some (.inr d)
def JV a (z_:Int×AHT):=Ot a z_.1 z_.2
def QF a c d:=fix (JV a) (c,d)
theorem Atv a:A5 E58 0 3 (code f169) 58 (Arb a) (JV a) (Ao3 a):=by
 intro _;simp only[JV,Ot,AHE];simp(disch:=refine id ?_;kernel_rfl) only[Bg (Atu ..) (K:=Ld E58 0 3)];kernel_rfl
def Kq(a:AHT):Option AHT:=
 (QF a 0 ([]:AHT)).bind λb=>some b
theorem U58 R a K:AW E58 f169 R [dD AIf a] [] K=(Kq a).bind λr=>K (.Ak 0) [.row 2 .Ai AIa r]:=by
 simp only[Kq,AHF];simp(disch:=refine id ?_;kernel_rfl) only[QF,AF (Atv _) (K:=A4 E58 f169 0 R K)];kernel_rfl
def Avb:=Cx [.d AIf] [⟨[.AA [] AIf],[],AHT,λp=>Kq p.1.1,λr=>(.Ak 0,[.row 2 .Ai AIa r])⟩]
theorem zK:As prog 169 Avb:=Aw ⟨⟨E58,pk ⟨zk,trivial⟩,λ_ _ _=>U58 ..⟩,trivial⟩
abbrev E59:Bd:=⟨A7,Az [],{Ai:=true,A9:=[(3,{Ap:=[0,6,7,8]})],BQ:=[(3,{Ap:=[]})],BP:=[(4,{Ap:=[0,6,7,8]})],D2:=[(4,[0,6,7,8])]}⟩
def Ard a b (z_:Int×AHT):=sT 43 [(0,.Ak 0),(6,dI a),(7,dI b),(8,dI z_.1)] [.row 2 .Ai AIa z_.2]
def Ao5(a b:Int):=λ(c:AHT)=>(Ex.exit 0,sT 43 [] [.row 2 .Ai AIa c])
def Arc a b d e:=sT 43 [(0,.Ak 0),(6,dI a),(7,dI b),(8,dI d)] [.row 2 .Ai AIa e]
def Ao4 a b d (e:AHT):=λ(g:AHT)=>(Ex.normal,sT 43 [(0,.Ak 0),(6,dI a),(7,dI b),(8,dI d)] [.row 2 .Ai AIa g])
def N7(a b d:Int)(e:AHT):Option AHT:=
 if 0<=d/\d<e.length then
 bif (e.getD d.toNat AIa.zero)==b then
 if 0<=d/\d<e.length then
 some (e.set d.toNat a)
 else none
 else
 some e
 else none
theorem Atw a b d e:AZ E59 1 4 (cd f170 60) 6 (Arc a b d e) (N7 a b d e) (Ao4 a b d e):=by
 unfold AZ;simp only[N7,AHE];kernel_rfl
def Lc(a b d:Int)(e:AHT):Option ((Int×AHT)⊕AHT):=
 bif decide (d<(e.length:Int))then
 (N7 a b d e).bind λg=>some (.inl (wI (d+1),g))
 else
 some (.inr e)
def Fs a b (z_:Int×AHT):=Lc a b z_.1 z_.2
def RJ a b d e:=fix (Fs a b) (d,e)
theorem Atx a b:A5 E59 1 3 (code f170) 30 (Ard a b) (Fs a b) (Ao5 a b):=by
 intro _;simp only[Fs,Lc,AHE];simp(disch:=refine id ?_;kernel_rfl) only[Bg (Atw ..) (K:=Ld E59 1 3)];kernel_rfl
def JS(i j:Int)(k:AHT):Option AHT:=
 if 0<=i/\i<k.length then
 if 0<=j/\j<k.length then
 if 0<=i/\i<k.length then
 if 0<=j/\j<k.length then
 (RJ (if(k.getD j.toNat AIa.zero)<(k.getD i.toNat AIa.zero)then(k.getD j.toNat AIa.zero)else(k.getD i.toNat AIa.zero)) (if(k.getD j.toNat AIa.zero)>(k.getD i.toNat AIa.zero)then(k.getD j.toNat AIa.zero)else(k.getD i.toNat AIa.zero)) 0 k).bind λc=>some c
 else none
 else none
 else none
 else none
theorem U59 R i j k K:AW E59 f170 R [.Ak 0,dI i,dI j] [.row 2 .Ai AIa k] K=(JS i j k).bind λr=>K .nil [.row 2 .Ai AIa r]:=by
 simp only[JS,AHF];simp(disch:=refine id ?_;kernel_rfl) only[RJ,AF (Atx _ _) (K:=A4 E59 f170 1 R K)];kernel_rfl
def Avc:=Cx [.Vu,.d AIa,.d AIa] [⟨[.k (.Ak 0),.AA [] AIa,.AA [] AIa],[.row 2 .Ai AIa],AHT,λp=>JS p.1.2.1 p.1.2.2.1 p.2.1,λr=>(.nil,[.row 2 .Ai AIa r])⟩]
theorem zL:As prog 170 Avc:=Aw ⟨⟨E59,pk trivial,λ_ _ _=>U59 ..⟩,trivial⟩
abbrev E60:Bd:=⟨A7,Az [],{Yl:=[(3,{Ap:=[0]}),(4,{Ap:=[0]})],ZW:=[(3,[0,3]),(4,[0])],TH:=[.mv 0 [0],.AH 1,.mv 0 [2],.AH 3]}⟩
def Ags(a:Int) b c d:=sT 41 [(0,.ptr 0 a [] 0)] [.box (.pr (.Ak 4) (.pr (.Ak 2) (.pr (.Ak 3) .u))),.AH,.row 257 .Ai Ab b,.row 2 .Ai AIa c,.row 83 (.sh []) Ah d]
def sS(a:Int) b (c:AHT) d:=λ(e:Unit)=>sT 41 [(0,.ptr 0 a [] 0)] [.box (.pr (.Ak 4) (.pr (.Ak 2) (.pr (.Ak 5) .u))),.AH,.row 257 .Ai Ab b,.AH,.row 83 (.sh []) Ah d,.row 2 .Ai AIa (c++([(c.length:Int)]:AHT))]
def JY(a:Int)(b:AHX)(c:AHT)(d:AH2):Option Unit:=
 if(c.length+([(c.length:Int)]:AHT).length)*8<=140737488355328 then
 some ()
 else none
noncomputable def Agu(a:Int)(b:AHX)(c:AHT)(d:AH2):Option Unit:=if(c.length+([(c.length:Int)]:AHT).length)*8<=140737488355328 then Sl (sS a b c d ()) (sS a b c d ())else none
def s7(w:Option Unit):Option Unit:=cc (cc w (cc w (cc w (cc w w)))) (cc (cc w (cc w (cc w w))) (cc (cc w (cc w w)) (cc (cc w w) w)))
theorem Atz(a:Int)(b:AHX)(c:AHT)(d:AH2):Rk E60 4 4 (code f166) 30 (Ags a b c d) (JY a b c d) (sS a b c d):=by
 unfold Rk;have h:tH E60 4 4 (code f166) (pt 30) (Ags a b c d) =
 if(c.length+([(c.length:Int)]:AHT).length)*8<=140737488355328 then((s7 (Agu a b c d)).bind λ_=>some (sS a b c d ()))else none:=by kernel_rfl
 rw[h];unfold JY;simp only[AHE,mS,mO];clear h;by_cases GR:(c.length+([(c.length:Int)]:AHT).length)*8<=140737488355328
 ·rw[AHd GR,AHd GR];simp only[s7,cc,Agu,AHb,AHd GR,if_true,AGV,G7]
 ·simp only[if_true,AHe GR]
def Agr(a:Int) g b c i:=sT 41 [(0,.ptr 0 a [] 0),(3,.ptr 4 0 [] 0)] [.box (.pr (.Ak 1) (.pr (.Ak 2) (.pr (.Ak 3) .u))),.row 83 (.sh []) Ah g,.row 257 .Ai Ab b,.row 2 .Ai AIa c,.box (dD B4 i)]
def sR(a:Int)(g:AH2) b c (i:AHS):=λ(j:Unit)=>sT 41 [(0,.ptr 0 a [] 0)] [.box (.pr (.Ak 4) (.pr (.Ak 2) (.pr (.Ak 3) .u))),.AH,.row 257 .Ai Ab b,.row 2 .Ai AIa c,.row 83 (.sh []) Ah (g++([i.2.1]:AH2))]
def JX(a:Int)(g:AH2)(b:AHX)(c:AHT)(i:AHS):Option Unit:=
 if(g.length+([i.2.1]:AH2).length)*32<=140737488355328 then
 some ()
 else none
noncomputable def bT(a:Int)(g:AH2)(b:AHX)(c:AHT)(i:AHS):Option Unit:=if(g.length+([i.2.1]:AH2).length)*32<=140737488355328 then Sl (sR a g b c i ()) (sR a g b c i ())else none
theorem Aty(a:Int)(g:AH2)(b:AHX)(c:AHT)(i:AHS):Rk E60 4 3 (code f166) 14 (Agr a g b c i) (JX a g b c i) (sR a g b c i):=by
 unfold Rk;have h:tH E60 4 3 (code f166) (pt 14) (Agr a g b c i) =
 if(g.length+([i.2.1]:AH2).length)*32<=140737488355328 then((((bT a g b c i).bind λ_=>(bT a g b c i).bind λ_=>bT a g b c i).bind λ_=>((bT a g b c i).bind λ_=>bT a g b c i).bind λ_=>bT a g b c i).bind λ_=>some (sR a g b c i ()))else none:=by kernel_rfl
 rw[h];unfold JX;simp only[AHE,mS,mO];clear h;by_cases GR:(g.length+([i.2.1]:AH2).length)*32<=140737488355328
 ·rw[AHd GR,AHd GR];simp only[bT,AHb,AHd GR,if_true,AGV,G7]
 ·simp only[if_true,AHe GR]
def Fw(a:Int)(i:AHS)(g:AH2)(b:AHX)(c:AHT):Option (Int×AHX×AH2×AHT):=
 bif decide (i.1>=0)then
 some (i.1,b,g,c)
 else
 (JX a g b c i).bind λj=>(JY a b c (g++([i.2.1]:AH2))).bind λe=>some (wI (((c++([(c.length:Int)]:AHT)).length:Int)-1),b,g++([i.2.1]:AH2),c++([(c.length:Int)]:AHT))
theorem U60 R a i g b c K:AW E60 f166 R [.ptr 0 a [] 0,dD B4 i] [.box (.pr (.Ak 1) (.pr (.Ak 2) (.pr (.Ak 3) .u))),.row 83 (.sh []) Ah g,.row 257 .Ai Ab b,.row 2 .Ai AIa c] K=(Fw a i g b c).bind λr=>K (dI r.1) [.box (.pr (.Ak 4) (.pr (.Ak 2) (.pr (.Ak 5) .u))),.AH,.row 257 .Ai Ab r.2.1,.AH,.row 83 (.sh []) Ah r.2.2.1,.row 2 .Ai AIa r.2.2.2]:=by
 simp only[Fw,AHF];simp(disch:=refine id ?_;kernel_rfl) only[Vf (Aty ..) (K:=A4 E60 f166 4 R K),Vf (Atz ..) (K:=A4 E60 f166 4 R K)];kernel_rfl
def Au8:=Cx [.Vu,.d B4] [⟨[.ptr 0 [] 0,.AA [] B4],[.box (.pr (.k (.Ak 1)) (.pr (.k (.Ak 2)) (.pr (.k (.Ak 3)) (.k .u)))),.row 83 (.sh []) Ah,.row 257 .Ai Ab,.row 2 .Ai AIa],Int×AHX×AH2×AHT,λp=>Fw p.1.1 p.1.2.1 p.2.2.1 p.2.2.2.1 p.2.2.2.2.1,λr=>(dI r.1,[.box (.pr (.Ak 4) (.pr (.Ak 2) (.pr (.Ak 5) .u))),.AH,.row 257 .Ai Ab r.2.1,.AH,.row 83 (.sh []) Ah r.2.2.1,.row 2 .Ai AIa r.2.2.2])⟩]
theorem zG:As prog 166 Au8:=Aw ⟨⟨E60,pk trivial,λ_ _ _=>U60 ..⟩,trivial⟩
abbrev E61:Bd:=⟨A7,Az [],{Ai:=true,A9:=[(2,{Ap:=[0,1,5]})],BQ:=[(2,{Ap:=[4]})],BP:=[(5,{Ap:=[0,1,5,40]})],D2:=[(5,[0,1,5])]}⟩
def Arf(a:Int) b c d e (z_:Int):=sT 42 [(0,.ptr 0 a [] 0),(1,dI b),(5,dI z_)] [.box (.pr (.Ak 1) (.pr (.Ak 2) (.pr (.Ak 3) .u))),.row 83 (.sh []) Ah c,.row 257 .Ai Ab d,.row 2 .Ai AIa e]
def Ao7(a b:Int) c d e:=Sum.elim (λ(g:Int)=>(Ex.ret,sT 42 [(4,dI g)] [.box (.pr (.Ak 1) (.pr (.Ak 2) (.pr (.Ak 3) .u))),.row 83 (.sh []) Ah c,.row 257 .Ai Ab d,.row 2 .Ai AIa e])) (λ(i:Unit)=>(Ex.exit 0,sT 42 [] [.box (.pr (.Ak 1) (.pr (.Ak 2) (.pr (.Ak 3) .u))),.row 83 (.sh []) Ah c,.row 257 .Ai Ab d,.row 2 .Ai AIa e]))
def Are(a:Int) b j c d e:=sT 42 [(0,.ptr 0 a [] 0),(1,dI b),(5,dI j)] [.box (.pr (.Ak 1) (.pr (.Ak 2) (.pr (.Ak 3) .u))),.row 83 (.sh []) Ah c,.row 257 .Ai Ab d,.row 2 .Ai AIa e]
def Ao6(a:Int) b j c d e:=λ(k:Bool)=>(Ex.normal,sT 42 [(0,.ptr 0 a [] 0),(1,dI b),(5,dI j),(40,dB k)] [.box (.pr (.Ak 1) (.pr (.Ak 2) (.pr (.Ak 3) .u))),.row 83 (.sh []) Ah c,.row 257 .Ai Ab d,.row 2 .Ai AIa e])
def Iu(a b j:Int)(c:AH2)(d:AHX)(e:AHT):Option Bool:=
 if 0<=j/\j<e.length then
 if 0<=b/\b<e.length then
 bif (e.getD j.toNat AIa.zero)==(e.getD b.toNat AIa.zero)then
 if 0<=j/\j<c.length then
 some (decide ((c.getD j.toNat Ah.zero).1>0))
 else none
 else
 some false
 else none
 else none
theorem AtA a b j c d e:AZ E61 4 5 (cd f98 52) 24 (Are a b j c d e) (Iu a b j c d e) (Ao6 a b j c d e):=by
 unfold AZ;simp only[Iu,AHE];kernel_rfl
def Kx(a b:Int)(c:AH2)(d:AHX)(e:AHT)(j:Int):Option (Int⊕(Int⊕Unit)):=
 bif decide (j<(e.length:Int))then
 (Iu a b j c d e).bind λk=>bif k then
 some (.inr (.inl j))
 else
 some (.inl (wI (j+1)))
 else
 some (.inr (.inr ()))
def G0 a b c d e (z_:Int):=Kx a b c d e z_
def M0 a b c d e j:=fix (G0 a b c d e) j
theorem AtB a b c d e:A5 E61 4 2 (code f98) 26 (Arf a b c d e) (G0 a b c d e) (Ao7 a b c d e):=by
 intro _;simp only[G0,Kx,AHE];simp(disch:=refine id ?_;kernel_rfl) only[Bg (AtA ..) (K:=Ld E61 4 2)];kernel_rfl
def Db(a b:Int)(c:AH2)(d:AHX)(e:AHT):Option (Int×AH2×AHX×AHT):=
 (M0 a b c d e 0).bind (Sum.elim (λg=>some (g,c,d,e)) (λi=>some (-1,c,d,e)))
theorem U61 R a b c d e K:AW E61 f98 R [.ptr 0 a [] 0,dI b] [.box (.pr (.Ak 1) (.pr (.Ak 2) (.pr (.Ak 3) .u))),.row 83 (.sh []) Ah c,.row 257 .Ai Ab d,.row 2 .Ai AIa e] K=(Db a b c d e).bind λr=>K (dI r.1) [.box (.pr (.Ak 1) (.pr (.Ak 2) (.pr (.Ak 3) .u))),.row 83 (.sh []) Ah r.2.1,.row 257 .Ai Ab r.2.2.1,.row 2 .Ai AIa r.2.2.2]:=by
 simp only[Db,AHF];simp(disch:=refine id ?_;kernel_rfl) only[M0,AF (AtB _ _ _ _ _) (K:=A4 E61 f98 4 R K)];kernel_rfl
def c98:=Cx [.Vu,.d AIa] [⟨[.ptr 0 [] 0,.AA [] AIa],[.box (.pr (.k (.Ak 1)) (.pr (.k (.Ak 2)) (.pr (.k (.Ak 3)) (.k .u)))),.row 83 (.sh []) Ah,.row 257 .Ai Ab,.row 2 .Ai AIa],Int×AH2×AHX×AHT,λp=>Db p.1.1 p.1.2.1 p.2.2.1 p.2.2.2.1 p.2.2.2.2.1,λr=>(dI r.1,[.box (.pr (.Ak 1) (.pr (.Ak 2) (.pr (.Ak 3) .u))),.row 83 (.sh []) Ah r.2.1,.row 257 .Ai Ab r.2.2.1,.row 2 .Ai AIa r.2.2.2])⟩]
theorem tE:As prog 98 c98:=Aw ⟨⟨E61,pk trivial,λ_ _ _=>U61 ..⟩,trivial⟩
abbrev E62:Bd:=⟨A7,Az [(98,c98),(166,Au8),(167,Au9),(168,Ava),(169,Avb),(170,Avc)],{Ai:=true,BP:=[(9,{Ap:=[0,8,9,10,11,80]})],D2:=[(9,[0,8,9,10,11])],TH:=[.mv 0 [1],.AH 2],dT:=[(0,.row [] 2 AIa true)]}⟩
def Arh(a:Int) b c d e g i j:=sT 107 [(0,.ptr 0 a [] 0),(8,dI b),(9,dI c),(10,dI d),(11,dI e)] [.box (.pr (.Ak 4) (.pr (.Ak 5) (.pr (.Ak 6) .u))),.AH,.AH,.AH,.row 83 (.sh []) Ah g,.row 257 .Ai Ab i,.row 2 .Ai AIa j]
def Ao8(a:Int) b c d e g i j:=λ(k:Bool)=>(Ex.normal,sT 107 [(0,.ptr 0 a [] 0),(8,dI b),(9,dI c),(10,dI d),(11,dI e),(80,dB k)] [.box (.pr (.Ak 4) (.pr (.Ak 5) (.pr (.Ak 6) .u))),.AH,.AH,.AH,.row 83 (.sh []) Ah g,.row 257 .Ai Ab i,.row 2 .Ai AIa j])
def JW(a b c d e:Int)(g:AH2)(i:AHX)(j:AHT):Option Bool:=
 bif decide (d>=0)then
 bif decide (e>=0)then
 if 0<=d/\d<g.length then
 if 0<=e/\e<g.length then
 (Fu (g.getD d.toNat Ah.zero) (g.getD e.toNat Ah.zero)).bind λl=>some (!l)
 else none
 else none
 else
 some false
 else
 some false
theorem AtC a b c d e g i j:AZ E62 4 9 (code f97) 1020 (Arh a b c d e g i j) (JW a b c d e g i j) (Ao8 a b c d e g i j):=by
 unfold AZ;simp only[JW,AHE];kernel_rfl
def Hg(a:Int)(n:AHQ)(o:Int)(q:AH2)(s:AHX)(t:AHT):Option (Bool×AHT×AH2×AHX×AHT):=
 (Fw a n.1 q s t).bind λu=>(Fw a n.2.1 u.2.2.1 u.2.1 u.2.2.2).bind λv=>if(0:Int)<=u.1/\u.1<(v.2.2.2.length:Int)then
 if(0:Int)<=v.1/\v.1<(v.2.2.2.length:Int)then
 bif (v.2.2.2.getD u.1.toNat AIa.zero)==(v.2.2.2.getD v.1.toNat AIa.zero)then
 some (true,([]:AHT),v.2.2.1,v.2.1,v.2.2.2)
 else
 (Db a u.1 v.2.2.1 v.2.1 v.2.2.2).bind λw=>(Db a v.1 w.2.1 w.2.2.1 w.2.2.2).bind λx=>if(x.2.2.1.length+([(u.1,v.1,o,())]:AHX).length)*24<=140737488355328 then
 (JW a u.1 v.1 w.1 x.1 x.2.1 (x.2.2.1++([(u.1,v.1,o,())]:AHX)) x.2.2.2).bind λk=>bif k then
 if Ty.row .bool=true/\(0:Int)<=((x.2.2.1++([(u.1,v.1,o,())]:AHX)).length:Int)/\((x.2.2.1++([(u.1,v.1,o,())]:AHX)).length:Int)<=((x.2.2.1++([(u.1,v.1,o,())]:AHX)).length:Int)/\((1:Nat):Int)*((x.2.2.1++([(u.1,v.1,o,())]:AHX)).length:Int)<=(281474976710656:Int)/\((x.2.2.1++([(u.1,v.1,o,())]:AHX)).length:Int)<=(9223372036854775807:Int)then
 (XT (x.2.2.1++([(u.1,v.1,o,())]:AHX)) w.1 x.1 (List.replicate ((x.2.2.1++([(u.1,v.1,o,())]:AHX)).length:Int).toNat false)).bind λy=>(Kq y.2.2).bind λa1=>some (false,a1,x.2.1,x.2.2.1++([(u.1,v.1,o,())]:AHX),x.2.2.2)
 else none
 else
 (JS u.1 v.1 x.2.2.2).bind λb1=>some (true,([]:AHT),x.2.1,x.2.2.1++([(u.1,v.1,o,())]:AHX),b1)
 else none
 else none
 else none
theorem U62 R a n o q s t K:AW E62 f97 R [.ptr 0 a [] 0,dD Aq n,dI o] [.box (.pr (.Ak 1) (.pr (.Ak 2) (.pr (.Ak 3) .u))),.row 83 (.sh []) Ah q,.row 257 .Ai Ab s,.row 2 .Ai AIa t] K=(Hg a n o q s t).bind λr=>K (.cons (.Ak 4) (.cons (dB r.1) .nil)) [.box (.pr (.Ak 5) (.pr (.Ak 6) (.pr (.Ak 7) .u))),.AH,.AH,.AH,.row 2 .Ai AIa r.2.1,.row 83 (.sh []) Ah r.2.2.1,.row 257 .Ai Ab r.2.2.2.1,.row 2 .Ai AIa r.2.2.2.2]:=by
 simp only[Hg,AHF];simp(disch:=refine id ?_;kernel_rfl) only[Bg (AtC ..) (K:=A4 E62 f97 4 R K)];kernel_rfl
def c97:=Cx [.Vu,.d Aq,.d AIa] [⟨[.ptr 0 [] 0,.AA [] Aq,.AA [] AIa],[.box (.pr (.k (.Ak 1)) (.pr (.k (.Ak 2)) (.pr (.k (.Ak 3)) (.k .u)))),.row 83 (.sh []) Ah,.row 257 .Ai Ab,.row 2 .Ai AIa],Bool×AHT×AH2×AHX×AHT,λp=>Hg p.1.1 p.1.2.1 p.1.2.2.1 p.2.2.1 p.2.2.2.1 p.2.2.2.2.1,λr=>(.cons (.Ak 4) (.cons (dB r.1) .nil),[.box (.pr (.Ak 5) (.pr (.Ak 6) (.pr (.Ak 7) .u))),.AH,.AH,.AH,.row 2 .Ai AIa r.2.1,.row 83 (.sh []) Ah r.2.2.1,.row 257 .Ai Ab r.2.2.2.1,.row 2 .Ai AIa r.2.2.2.2])⟩]
theorem Ae0:As prog 97 c97:=Aw ⟨⟨E62,pk ⟨tE,zG,zH,zI,zK,zL,trivial⟩,λ_ _ _=>U62 ..⟩,trivial⟩
abbrev E63:Bd:=⟨A7,Az [],{Ai:=true}⟩
def Kd(a:AHM):Option (Int×AHT):=
 if a.2.1.length*8<=140737488355328 then
 some (a.1,a.2.1)
 else none
theorem U63 R a K:AW E63 f99 R [dD Ah a] [] K=(Kd a).bind λr=>K (.pr (dI r.1) (.pr (.Ak 0) .u)) [.row 216 .Ai AIb r.2]:=by
 simp only[Kd,AHF];kernel_rfl
def c99:=Cx [.d Ah] [⟨[.AA [] Ah],[],Int×AHT,λp=>Kd p.1.1,λr=>(.pr (dI r.1) (.pr (.Ak 0) .u),[.row 216 .Ai AIb r.2])⟩]
theorem Ae1:As prog 99 c99:=Aw ⟨⟨E63,pk trivial,λ_ _ _=>U63 ..⟩,trivial⟩
end
end Go.Proofs.X
