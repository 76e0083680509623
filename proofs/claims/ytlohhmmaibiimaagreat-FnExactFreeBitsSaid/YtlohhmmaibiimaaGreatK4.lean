import Derived.Test.YtlohhmmaibiimaaGreatShelf
import Derived.Test.YtlohhmmaibiimaaGreatProg
import Derived.KernelRfl
import Derived.Test.YtlohhmmaibiimaaGreatK3
set_option linter.unusedVariables false
set_option linter.unusedSimpArgs false
namespace Go.Proofs.X
open Go Go.Va Go.Proofs.Tryz
set_option maxRecDepth 100000
abbrev Tlaws_Decl:Ty:=(.Au .str (.Au (.int .i64) .unit))
abbrev bR:Ty:=(.Au (.int .i64) (.Au (.sl (.int .u64)) .unit))
abbrev VD:Ty:=(.Au (.int .i64) (.Au (.int .i64) (.Au (.int .i64) (.Au (.int .i64) (.Au bR (.Au (.sl (.int .i64)) .unit))))))
abbrev Xl:Ty:=(.Au (.sl VD) .unit)
abbrev Tlaws_Literal:Ty:=(.Au (.int .i64) (.Au .bool (.Au Xl (.Au Xl .unit))))
abbrev Ah:Ty:=(.Au (.int .i64) (.Au (.sl (.int .u64)) .unit))
abbrev Ad:Ty:=(.Au .str (.Au (.int .i64) .unit))
abbrev Ag:Ty:=(.Au (.int .i64) (.Au (.int .i64) (.Au (.int .i64) (.Au (.int .i64) (.Au Ah (.Au (.sl (.int .i64)) .unit))))))
abbrev Ar:Ty:=(.Au (.sl Ag) .unit)
abbrev Af:Ty:=(.Au (.int .i64) (.Au .bool (.Au Ar (.Au Ar .unit))))
abbrev B4:Ty:=(.Au (.int .i64) (.Au Ah .unit))
abbrev Aq:Ty:=(.Au B4 (.Au B4 (.Au (.int .i64) .unit)))
abbrev Aj:Ty:=(.Au (.sl (.sl (.int .i64))) .unit)
abbrev Ao:Ty:=(.Au (.sl (.int .i64)) (.Au .bool (.Au Ah .unit)))
abbrev Ca:Ty:=(.Au Aj (.Au (.sl Ao) (.Au (.sl (.int .i64)) .unit)))
abbrev Ae:Ty:=(.Au (.int .i64) (.Au (.int .i64) (.Au (.int .i64) (.Au Ah .unit))))
abbrev Aa:Ty:=(.Au (.int .i64) (.Au (.int .i64) .unit))
abbrev An:Ty:=(.Au (.sl Aa) (.Au (.sl .bool) .unit))
abbrev Ab:Ty:=(.Au (.int .i64) (.Au (.int .i64) (.Au (.int .i64) .unit)))
abbrev me:Ty:=(.Au (.sl Ad) (.Au (.sl Af) (.Au (.sl (.Au (.sl Ae) (.Au (.sl Ae) .unit))) (.Au Aj (.Au (.sl Ab) (.Au (.P3 1) .unit))))))
abbrev Ux:Ty:=(.Au (.int .i64) (.Au (.int .i64) (.Au (.int .i64) .unit)))
abbrev mg:Ty:=(.Au (.sl Ah) (.Au (.sl Ux) (.Au (.sl (.int .i64)) .unit)))
abbrev G6:Ty:=(.Au Ae (.Au (.int .i64) .unit))
abbrev jz:Ty:=(.Au (.sl Ad) (.Au (.sl (.sl .bool)) (.Au (.P3 1) (.Au (.sl (.Au (.int .i64) (.Au (.int .i64) .unit))) .unit))))
abbrev bQ:Ty:=(.Au (.int .i64) (.Au (.int .i64) (.Au (.int .i64) .unit)))
abbrev jA:Ty:=(.Au (.sl (.int .i64)) (.Au (.sl (.int .i64)) (.Au (.P3 1) (.Au (.sl Ux) .unit))))
abbrev AIa:Ty:=.int .i64
abbrev AIb:Ty:=.int .u64
abbrev AIc:Ty:=.int .u8
abbrev AId:Ty:=.sl Ad
abbrev AIe:Ty:=.sl Ae
abbrev AIf:Ty:=.sl AIa
abbrev AIg:Ty:=.sl .bool
abbrev AIh:Ty:=.sl Aa
abbrev AIi:Ty:=.sl Af
abbrev AIj:Ty:=.sl Ab
abbrev AIk:Ty:=.sl AIb
abbrev AIl:Ty:=.sl Ag
abbrev AIm:Ty:=.sl AIc
abbrev AIn:Ty:=.sl AIf
abbrev AIo:Ty:=.sl AIg
abbrev AIp:Ty:=.sl AIe
abbrev AIq:Ty:=.sl AIh
abbrev AHG:=Aa.V
abbrev AHH:=Ab.V
abbrev AHI:=Ad.V
abbrev AHJ:=Ae.V
abbrev AHK:=Af.V
abbrev AHL:=Ag.V
abbrev AHM:=Ah.V
abbrev AHN:=Aj.V
abbrev AHO:=An.V
abbrev AHP:=Ao.V
abbrev AHQ:=Aq.V
abbrev AHR:=Ar.V
abbrev AHS:=B4.V
abbrev AHT:=List Int
abbrev AHU:=List Bool
abbrev AHV:=List Nat
abbrev AHW:=List AHG
abbrev AHX:=List AHH
abbrev AHY:=List AHI
abbrev AHZ:=List AHJ
abbrev AH0:=List AHK
abbrev AH1:=List AHL
abbrev AH2:=List AHM
abbrev AH3:=List AHO
abbrev AH4:=List AHP
abbrev AH5:=List AHQ
abbrev AH6:=List AHT
abbrev AH7:=List AHU
abbrev AH8:=List AHW
abbrev AH9:=List AHZ
def A7:sZ:=[
 (2,⟨AIa,[],0,8,0,0,false⟩),
 (3,⟨AIa,[],0,8,0,0,false⟩),
 (4,⟨.bool,[],0,1,0,0,false⟩),
 (5,⟨AIc,[],0,1,0,0,false⟩),
 (9,⟨.str,[],0,16,0,0,false⟩),
 (22,⟨.sl Tlaws_Decl,[],94,24,0,0,false⟩),
 (23,⟨.sl Tlaws_Literal,[],45,24,0,0,false⟩),
 (26,⟨.sl Ah,[],83,24,0,0,false⟩),
 (30,⟨AId,[],109,24,0,0,false⟩),
 (32,⟨AIi,[],58,24,0,0,false⟩),
 (41,⟨.sl VD,[],268,24,0,0,false⟩),
 (43,⟨Xl,[0],0,24,0,0,false⟩),
 (45,⟨Tlaws_Literal,[0,1,2,3],0,64,0,0,false⟩),
 (46,⟨AIn,[],72,24,0,0,false⟩),
 (51,⟨.sl Aq,[],139,24,0,0,false⟩),
 (54,⟨AIl,[],231,24,0,0,false⟩),
 (56,⟨Ar,[0],0,24,0,0,false⟩),
 (58,⟨Af,[0,1,2,3],0,64,0,0,false⟩),
 (60,⟨Aj,[0],0,24,0,0,false⟩),
 (71,⟨.sl Ao,[],155,24,0,0,false⟩),
 (72,⟨AIf,[],2,24,0,0,false⟩),
 (74,⟨Ca,[0,1,2],0,72,0,0,false⟩),
 (81,⟨AIk,[],216,24,0,0,false⟩),
 (83,⟨Ah,[0,1],0,32,0,0,false⟩),
 (94,⟨Tlaws_Decl,[0,1],0,24,0,0,false⟩),
 (97,⟨AIp,[],121,24,0,0,false⟩),
 (104,⟨AIg,[],4,24,0,0,false⟩),
 (109,⟨Ad,[0,1],0,24,0,0,false⟩),
 (121,⟨AIe,[],238,24,0,0,false⟩),
 (124,⟨AIh,[],199,24,0,0,false⟩),
 (126,⟨An,[0,1],0,48,0,0,false⟩),
 (128,⟨AIo,[],104,24,0,0,false⟩),
 (131,⟨AIj,[],157,24,0,0,false⟩),
 (135,⟨B4,[0,1],0,40,0,0,false⟩),
 (139,⟨Aq,[0,3,6],0,88,0,0,false⟩),
 (141,⟨.sl (.Au AIe (.Au AIe .unit)),[],145,24,0,0,false⟩),
 (145,⟨.Au AIe (.Au AIe .unit),[],121,48,2,0,false⟩),
 (147,⟨.P3 1,[],2,8,0,253,false⟩),
 (155,⟨Ao,[0,1,2],0,64,0,0,false⟩),
 (157,⟨Ab,[0,1,2],0,24,0,0,false⟩),
 (162,⟨me,[0,1,2,3,4,5],0,128,0,0,false⟩),
 (167,⟨.sl Ux,[],257,24,0,0,false⟩),
 (169,⟨mg,[0,1,2],0,72,0,0,false⟩),
 (180,⟨AIm,[],5,24,0,0,false⟩),
 (199,⟨Aa,[0,1],0,16,0,0,false⟩),
 (216,⟨AIb,[],0,8,0,0,false⟩),
 (231,⟨Ag,[0,1,2,3,4,6],0,88,0,0,false⟩),
 (234,⟨AIq,[],124,24,0,0,false⟩),
 (238,⟨Ae,[0,1,2,3],0,56,0,0,false⟩),
 (250,⟨G6,[0,5],0,64,0,0,false⟩),
 (253,⟨.Au AIa (.Au AIa .unit),[],2,16,2,0,false⟩),
 (257,⟨Ux,[0,1,2],0,24,0,0,false⟩),
 (266,⟨bR,[0,1],0,32,0,0,false⟩),
 (268,⟨VD,[0,1,2,3,4,6],0,88,0,0,false⟩),
 (269,⟨AIb,[],0,8,0,0,false⟩),
 (290,⟨.sl An,[],126,24,0,0,false⟩),
 (291,⟨.P3 1,[],292,8,0,253,false⟩),
 (292,⟨.sl (.Au AIa (.Au AIa .unit)),[],253,24,0,0,false⟩),
 (294,⟨jz,[0,1,2,3],0,80,0,0,false⟩),
 (297,⟨.sl bQ,[],300,24,0,0,false⟩),
 (300,⟨bQ,[0,1,2],0,24,0,0,false⟩),
 (308,⟨.P3 1,[],83,8,0,2,false⟩),
 (310,⟨jA,[0,1,2,3],0,80,0,0,false⟩),
 (313,⟨.P3 1,[],3,8,0,2,false⟩),
 (342,⟨.P3 1,[],167,8,0,2,false⟩),
 (343,⟨.P3 1,[],257,8,0,2,false⟩)]
theorem Axx:au prog A7=true:=by kernel_rfl
theorem mixed:prog.follows .mixedOrders=true:=by kernel_rfl
theorem pk{l fi}(h:xM prog l):Iv prog ⟨A7,Az l,fi⟩:=⟨⟨Axx,Aa2 h⟩,mixed⟩
noncomputable section
abbrev E0:Bd:=⟨A7,Az [],{Ai:=true}⟩
def Hw(a:AHI)(b:Int):Int:=(bif decide ((wI (b-(a.1.size:Int)))<0)then(-1)else(wI (b-(a.1.size:Int))))
theorem U0 R a b K:AW E0 f50 R [dD Ad a,dI b] [] K=K (dI (Hw a b)) []:=by
 have h:AW E0 f50 R [dD Ad a,dI b] [] K =
 bif decide ((wI (b-(a.1.size:Int)))<0)then
 K (dI (-1)) []
 else
 K (dI (wI (b-(a.1.size:Int)))) []:=by kernel_rfl
 rw[h];unfold Hw;cases (decide ((wI (b-(a.1.size:Int)))<0))
 ·rfl
 ·rfl
def c50:=Cx [.d Ad,.d AIa] [⟨[.AA [] Ad,.AA [] AIa],[],Int,λp=>some (Hw p.1.1 p.1.2.1),λr=>(dI r,[])⟩]
theorem AeL:As prog 50 c50:=Aw ⟨⟨E0,pk trivial,λ_ _ _=>U0 ..⟩,trivial⟩
abbrev E1:Bd:=⟨A7,Az [(50,c50)],{Ai:=true,A9:=[(5,{Ap:=[0,1,5]})],BQ:=[(5,{Ap:=[1,4]})]}⟩
def AyH a (z_:Int×Int):=sT 27 [(0,dD AId a),(1,dI z_.1),(5,dI z_.2)] []
def AyE(a:AHY):=Sum.elim (λ(b:Int)=>(Ex.ret,sT 27 [(1,dI b),(4,dI (-1))] [])) (λ(c:Int)=>(Ex.exit 0,sT 27 [(1,dI c)] []))
def Tq(a:AHY)(d e:Int):Option ((Int×Int)⊕(Int⊕Int)):=
 bif decide (e<(a.length:Int))then
 if 0<=e/\e<a.length then
 bif decide ((Hw (a.getD e.toNat Ad.zero) d)<0)then
 some (.inr (.inl (Hw (a.getD e.toNat Ad.zero) d)))
 else
 some (.inl (Hw (a.getD e.toNat Ad.zero) d,wI (e+1)))
 else none
 else
 some (.inr (.inr d))
def KM a (z_:Int×Int):=Tq a z_.1 z_.2
def Vo a d e:=fix (KM a) (d,e)
theorem AyK a:A5 E1 0 5 (code f8) 122 (AyH a) (KM a) (AyE a):=by
 intro _;simp only[KM,Tq,AHE];kernel_rfl
def Pj(a:AHY)(g:Int):Option Int:=
 bif decide ((wI (g-(a.length:Int)))<0)then
 some (-1)
 else
 (Vo a (wI (g-(a.length:Int))) 0).bind (Sum.elim (λb=>some (-1)) (λc=>some c))
theorem U1 R a g K:AW E1 f8 R [dD AId a,dI g] [] K=(Pj a g).bind λr=>K (dI r) []:=by
 simp only[Pj,AHF];simp(disch:=refine id ?_;kernel_rfl) only[Vo,AF (AyK _) (K:=A4 E1 f8 0 R K)];kernel_rfl
def c8:=Cx [.d AId,.d AIa] [⟨[.AA [] AId,.AA [] AIa],[],Int,λp=>Pj p.1.1 p.1.2.1,λr=>(dI r,[])⟩]
theorem AlA:As prog 8 c8:=Aw ⟨⟨E1,pk ⟨AeL,trivial⟩,λ_ _ _=>U1 ..⟩,trivial⟩
abbrev E2:Bd:=⟨A7,Az [],{Ai:=true}⟩
def B9(a:AHT)(b:Int):Int:=(bif decide ((wI (b-(a.length:Int)))<0)then(-1)else(wI (b-(a.length:Int))))
theorem U2 R a b K:AW E2 f246 R [dD AIk a,dI b] [] K=K (dI (B9 a b)) []:=by
 have h:AW E2 f246 R [dD AIk a,dI b] [] K =
 bif decide ((wI (b-(a.length:Int)))<0)then
 K (dI (-1)) []
 else
 K (dI (wI (b-(a.length:Int)))) []:=by kernel_rfl
 rw[h];unfold B9;cases (decide ((wI (b-(a.length:Int)))<0))
 ·rfl
 ·rfl
def AvM:=Cx [.d AIk,.d AIa] [⟨[.AA [] AIk,.AA [] AIa],[],Int,λp=>some (B9 p.1.1 p.1.2.1),λr=>(dI r,[])⟩]
theorem Aar:As prog 246 AvM:=Aw ⟨⟨E2,pk trivial,λ_ _ _=>U2 ..⟩,trivial⟩
abbrev E3:Bd:=⟨A7,Az [(246,AvM)],{Ai:=true}⟩
def Ct(a:AHM)(b:Int):Int:=(bif decide ((B9 a.2.1 b)<0)then(-1)else(B9 a.2.1 b))
theorem U3 R a b K:AW E3 f217 R [dD Ah a,dI b] [] K=K (dI (Ct a b)) []:=by
 have h:AW E3 f217 R [dD Ah a,dI b] [] K =
 bif decide ((B9 a.2.1 b)<0)then
 K (dI (-1)) []
 else
 K (dI (B9 a.2.1 b)) []:=by kernel_rfl
 rw[h];unfold Ct;cases (decide ((B9 a.2.1 b)<0))
 ·rfl
 ·rfl
def Avz:=Cx [.d Ah,.d AIa] [⟨[.AA [] Ah,.AA [] AIa],[],Int,λp=>some (Ct p.1.1 p.1.2.1),λr=>(dI r,[])⟩]
theorem Aae:As prog 217 Avz:=Aw ⟨⟨E3,pk ⟨Aar,trivial⟩,λ_ _ _=>U3 ..⟩,trivial⟩
abbrev E4:Bd:=⟨A7,Az [],{Ai:=true}⟩
def Cv(a:AHT)(b:Int):Int:=(bif decide ((wI (b-(a.length:Int)))<0)then(-1)else(wI (b-(a.length:Int))))
theorem U4 R a b K:AW E4 f140 R [dD AIf a,dI b] [] K=K (dI (Cv a b)) []:=by
 have h:AW E4 f140 R [dD AIf a,dI b] [] K =
 bif decide ((wI (b-(a.length:Int)))<0)then
 K (dI (-1)) []
 else
 K (dI (wI (b-(a.length:Int)))) []:=by kernel_rfl
 rw[h];unfold Cv;cases (decide ((wI (b-(a.length:Int)))<0))
 ·rfl
 ·rfl
def AuQ:=Cx [.d AIf,.d AIa] [⟨[.AA [] AIf,.AA [] AIa],[],Int,λp=>some (Cv p.1.1 p.1.2.1),λr=>(dI r,[])⟩]
theorem zm:As prog 140 AuQ:=Aw ⟨⟨E4,pk trivial,λ_ _ _=>U4 ..⟩,trivial⟩
abbrev E5:Bd:=⟨A7,Az [(140,AuQ),(217,Avz)],{Ai:=true}⟩
def FT(a:AHL)(b:Int):Int:=(bif decide ((Ct a.2.2.2.2.1 b)<0)then(-1)else(bif decide ((Cv a.2.2.2.2.2.1 (Ct a.2.2.2.2.1 b))<0)then(-1)else(Cv a.2.2.2.2.2.1 (Ct a.2.2.2.2.1 b))))
theorem U5 R a b K:AW E5 f177 R [dD Ag a,dI b] [] K=K (dI (FT a b)) []:=by
 have h:AW E5 f177 R [dD Ag a,dI b] [] K =
 bif decide ((Ct a.2.2.2.2.1 b)<0)then
 K (dI (-1)) []
 else
 bif decide ((Cv a.2.2.2.2.2.1 (Ct a.2.2.2.2.1 b))<0)then
 K (dI (-1)) []
 else
 K (dI (Cv a.2.2.2.2.2.1 (Ct a.2.2.2.2.1 b))) []:=by kernel_rfl
 rw[h];unfold FT;cases (decide ((Ct a.2.2.2.2.1 b)<0))
 ·cases (decide ((Cv a.2.2.2.2.2.1 (Ct a.2.2.2.2.1 b))<0))
  ·rfl
  ·rfl
 ·rfl
def Avh:=Cx [.d Ag,.d AIa] [⟨[.AA [] Ag,.AA [] AIa],[],Int,λp=>some (FT p.1.1 p.1.2.1),λr=>(dI r,[])⟩]
theorem zQ:As prog 177 Avh:=Aw ⟨⟨E5,pk ⟨zm,Aae,trivial⟩,λ_ _ _=>U5 ..⟩,trivial⟩
abbrev E6:Bd:=⟨A7,Az [(177,Avh)],{Ai:=true,A9:=[(5,{Ap:=[0,1,5]})],BQ:=[(5,{Ap:=[1,4]})]}⟩
def AyI a (z_:Int×Int):=sT 27 [(0,dD AIl a),(1,dI z_.1),(5,dI z_.2)] []
def AyF(a:AH1):=Sum.elim (λ(b:Int)=>(Ex.ret,sT 27 [(1,dI b),(4,dI (-1))] [])) (λ(c:Int)=>(Ex.exit 0,sT 27 [(1,dI c)] []))
def SB(a:AH1)(d e:Int):Option ((Int×Int)⊕(Int⊕Int)):=
 bif decide (e<(a.length:Int))then
 if 0<=e/\e<a.length then
 bif decide ((FT (a.getD e.toNat Ag.zero) d)<0)then
 some (.inr (.inl (FT (a.getD e.toNat Ag.zero) d)))
 else
 some (.inl (FT (a.getD e.toNat Ag.zero) d,wI (e+1)))
 else none
 else
 some (.inr (.inr d))
def Ju a (z_:Int×Int):=SB a z_.1 z_.2
def Ul a d e:=fix (Ju a) (d,e)
theorem AyL a:A5 E6 0 5 (code f109) 122 (AyI a) (Ju a) (AyF a):=by
 intro _;simp only[Ju,SB,AHE];kernel_rfl
def Kk(a:AH1)(g:Int):Option Int:=
 bif decide ((wI (g-(a.length:Int)))<0)then
 some (-1)
 else
 (Ul a (wI (g-(a.length:Int))) 0).bind (Sum.elim (λb=>some (-1)) (λc=>some c))
theorem U6 R a g K:AW E6 f109 R [dD AIl a,dI g] [] K=(Kk a g).bind λr=>K (dI r) []:=by
 simp only[Kk,AHF];simp(disch:=refine id ?_;kernel_rfl) only[Ul,AF (AyL _) (K:=A4 E6 f109 0 R K)];kernel_rfl
def AuJ:=Cx [.d AIl,.d AIa] [⟨[.AA [] AIl,.AA [] AIa],[],Int,λp=>Kk p.1.1 p.1.2.1,λr=>(dI r,[])⟩]
theorem zf:As prog 109 AuJ:=Aw ⟨⟨E6,pk ⟨zQ,trivial⟩,λ_ _ _=>U6 ..⟩,trivial⟩
abbrev E7:Bd:=⟨A7,Az [(109,AuJ)],{Ai:=true}⟩
def I9(a:AHR)(b:Int):Option Int:=
 (Kk a.1 b).bind λc=>bif decide (c<0)then
 some (-1)
 else
 some c
theorem U7 R a b K:AW E7 f41 R [dD Ar a,dI b] [] K=(I9 a b).bind λr=>K (dI r) []:=by
 simp only[I9,AHF];kernel_rfl
def c41:=Cx [.d Ar,.d AIa] [⟨[.AA [] Ar,.AA [] AIa],[],Int,λp=>I9 p.1.1 p.1.2.1,λr=>(dI r,[])⟩]
theorem AeH:As prog 41 c41:=Aw ⟨⟨E7,pk ⟨zf,trivial⟩,λ_ _ _=>U7 ..⟩,trivial⟩
end
noncomputable section
abbrev E8:Bd:=⟨A7,Az [(41,c41)],{Ai:=true}⟩
def Lu(a:AHK)(b:Int):Option Int:=
 (I9 a.2.2.1 b).bind λc=>bif decide (c<0)then
 some (-1)
 else
 (I9 a.2.2.2.1 c).bind λd=>bif decide (d<0)then
 some (-1)
 else
 some d
theorem U8 R a b K:AW E8 f21 R [dD Af a,dI b] [] K=(Lu a b).bind λr=>K (dI r) []:=by
 simp only[Lu,AHF];kernel_rfl
def c21:=Cx [.d Af,.d AIa] [⟨[.AA [] Af,.AA [] AIa],[],Int,λp=>Lu p.1.1 p.1.2.1,λr=>(dI r,[])⟩]
theorem AeB:As prog 21 c21:=Aw ⟨⟨E8,pk ⟨AeH,trivial⟩,λ_ _ _=>U8 ..⟩,trivial⟩
abbrev E9:Bd:=⟨A7,Az [(21,c21)],{Ai:=true,A9:=[(5,{Ap:=[0,1,5]})],BQ:=[(5,{Ap:=[1,4]})]}⟩
def AyJ a (z_:Int×Int):=sT 27 [(0,dD AIi a),(1,dI z_.1),(5,dI z_.2)] []
def AyG(a:AH0):=Sum.elim (λ(b:Int)=>(Ex.ret,sT 27 [(1,dI b),(4,dI (-1))] [])) (λ(c:Int)=>(Ex.exit 0,sT 27 [(1,dI c)] []))
def Q6(a:AH0)(d e:Int):Option ((Int×Int)⊕(Int⊕Int)):=
 bif decide (e<(a.length:Int))then
 if 0<=e/\e<a.length then
 (Lu (a.getD e.toNat Af.zero) d).bind λg=>bif decide (g<0)then
 some (.inr (.inl g))
 else
 some (.inl (g,wI (e+1)))
 else none
 else
 some (.inr (.inr d))
def Hy a (z_:Int×Int):=Q6 a z_.1 z_.2
def SA a d e:=fix (Hy a) (d,e)
theorem AyM a:A5 E9 0 5 (code f9) 122 (AyJ a) (Hy a) (AyG a):=by
 intro _;simp only[Hy,Q6,AHE];kernel_rfl
def J8(a:AH0)(i:Int):Option Int:=
 bif decide ((wI (i-(a.length:Int)))<0)then
 some (-1)
 else
 (SA a (wI (i-(a.length:Int))) 0).bind (Sum.elim (λb=>some (-1)) (λc=>some c))
theorem U9 R a i K:AW E9 f9 R [dD AIi a,dI i] [] K=(J8 a i).bind λr=>K (dI r) []:=by
 simp only[J8,AHF];simp(disch:=refine id ?_;kernel_rfl) only[SA,AF (AyM _) (K:=A4 E9 f9 0 R K)];kernel_rfl
def c9:=Cx [.d AIi,.d AIa] [⟨[.AA [] AIi,.AA [] AIa],[],Int,λp=>J8 p.1.1 p.1.2.1,λr=>(dI r,[])⟩]
theorem AlB:As prog 9 c9:=Aw ⟨⟨E9,pk ⟨AeB,trivial⟩,λ_ _ _=>U9 ..⟩,trivial⟩
abbrev E10:Bd:=⟨A7,Az [],{Ai:=true}⟩
def OJ(a:AHI):(ByteArray×Int):=(a.1,a.2.1)
theorem U10 R a K:AW E10 f57 R [dD Ad a] [] K=K (.pr (dD .str (OJ a).1) (.pr (dI (OJ a).2) .u)) []:=by
 kernel_rfl
def c57:=Cx [.d Ad] [⟨[.AA [] Ad],[],ByteArray×Int,λp=>some (OJ p.1.1),λr=>(.pr (dD .str r.1) (.pr (dI r.2) .u),[])⟩]
theorem AeN:As prog 57 c57:=Aw ⟨⟨E10,pk trivial,λ_ _ _=>U10 ..⟩,trivial⟩
abbrev E11:Bd:=⟨A7,Az [(57,c57)],{Ai:=true,A9:=[(3,{Ap:=[0,3,4]})],BQ:=[(3,{Ap:=[3]})]}⟩
def ApT a (z_:Int×AHY):=sT 23 [(0,dD AId a),(3,.Ak 0),(4,dI z_.1)] [.row 109 .Ai Ad z_.2]
def AnL(a:AHY):=λ(b:AHY)=>(Ex.exit 0,sT 23 [(3,.Ak 0)] [.row 109 .Ai Ad b])
def Ts(a:AHY)(c:Int)(d:AHY):Option ((Int×AHY)⊕AHY):=
 bif decide (c<(a.length:Int))then
 if 0<=c/\c<a.length then
 if 0<=c/\c<d.length then
 some (.inl (wI (c+1),d.set c.toNat ((OJ (a.getD c.toNat Ad.zero)).1,(OJ (a.getD c.toNat Ad.zero)).2,())))
 else none
 else none
 else
 some (.inr d)
def KN a (z_:Int×AHY):=Ts a z_.1 z_.2
def Rw a c d:=fix (KN a) (c,d)
theorem Ar1 a:A5 E11 0 3 (code f11) 58 (ApT a) (KN a) (AnL a):=by
 intro _;simp only[KN,Ts,AHE];kernel_rfl
def Hz(a:AHY):Option AHY:=
 if Ty.row Ad=true/\(0:Int)<=(a.length:Int)/\(a.length:Int)<=(a.length:Int)/\((24:Nat):Int)*(a.length:Int)<=(281474976710656:Int)/\(a.length:Int)<=(9223372036854775807:Int)then
 (Rw a 0 (List.replicate (a.length:Int).toNat ((⟨#[]⟩:ByteArray),0,()))).bind λb=>some b
 else none
theorem U11 R a K:AW E11 f11 R [dD AId a] [] K=(Hz a).bind λr=>K (.Ak 0) [.row 109 .Ai Ad r]:=by
 simp only[Hz,AHF];simp(disch:=refine id ?_;kernel_rfl) only[Rw,AF (Ar1 _) (K:=A4 E11 f11 0 R K)];kernel_rfl
def c11:=Cx [.d AId] [⟨[.AA [] AId],[],AHY,λp=>Hz p.1.1,λr=>(.Ak 0,[.row 109 .Ai Ad r])⟩]
theorem Aet:As prog 11 c11:=Aw ⟨⟨E11,pk ⟨AeN,trivial⟩,λ_ _ _=>U11 ..⟩,trivial⟩
abbrev E12:Bd:=⟨A7,Az [],{Ai:=true,A9:=[(3,{Ap:=[0,3,4]})],BQ:=[(3,{Ap:=[3]})]}⟩
def ApU a (z_:Int×AHT):=sT 22 [(0,dD AIk a),(3,.Ak 0),(4,dI z_.1)] [.row 216 .Ai AIb z_.2]
def AnM(a:AHT):=λ(b:AHT)=>(Ex.exit 0,sT 22 [(3,.Ak 0)] [.row 216 .Ai AIb b])
def RQ(a:AHT)(c:Int)(d:AHT):Option ((Int×AHT)⊕AHT):=
 bif decide (c<(a.length:Int))then
 if 0<=c/\c<a.length then
 if 0<=c/\c<d.length then
 some (.inl (wI (c+1),d.set c.toNat (a.getD c.toNat AIb.zero)))
 else none
 else none
 else
 some (.inr d)
def Ir a (z_:Int×AHT):=RQ a z_.1 z_.2
def Pk a c d:=fix (Ir a) (c,d)
theorem Ar2 a:A5 E12 0 3 (code f247) 58 (ApU a) (Ir a) (AnM a):=by
 intro _;simp only[Ir,RQ,AHE];kernel_rfl
def GC(a:AHT):Option AHT:=
 if Ty.row AIb=true/\(0:Int)<=(a.length:Int)/\(a.length:Int)<=(a.length:Int)/\((8:Nat):Int)*(a.length:Int)<=(281474976710656:Int)/\(a.length:Int)<=(9223372036854775807:Int)then
 (Pk a 0 (List.replicate (a.length:Int).toNat 0)).bind λb=>some b
 else none
theorem U12 R a K:AW E12 f247 R [dD AIk a] [] K=(GC a).bind λr=>K (.Ak 0) [.row 216 .Ai AIb r]:=by
 simp only[GC,AHF];simp(disch:=refine id ?_;kernel_rfl) only[Pk,AF (Ar2 _) (K:=A4 E12 f247 0 R K)];kernel_rfl
def AvN:=Cx [.d AIk] [⟨[.AA [] AIk],[],AHT,λp=>GC p.1.1,λr=>(.Ak 0,[.row 216 .Ai AIb r])⟩]
theorem Aas:As prog 247 AvN:=Aw ⟨⟨E12,pk trivial,λ_ _ _=>U12 ..⟩,trivial⟩
abbrev E13:Bd:=⟨A7,Az [(247,AvN)],{Ai:=true}⟩
def Q7(a:AHM):Option (Int×AHT):=
 (GC a.2.1).bind λb=>some (a.1,b)
theorem U13 R a K:AW E13 f218 R [dD Ah a] [] K=(Q7 a).bind λr=>K (.pr (dI r.1) (.pr (.Ak 0) .u)) [.row 216 .Ai AIb r.2]:=by
 simp only[Q7,AHF];kernel_rfl
def AvA:=Cx [.d Ah] [⟨[.AA [] Ah],[],Int×AHT,λp=>Q7 p.1.1,λr=>(.pr (dI r.1) (.pr (.Ak 0) .u),[.row 216 .Ai AIb r.2])⟩]
theorem Aaf:As prog 218 AvA:=Aw ⟨⟨E13,pk ⟨Aas,trivial⟩,λ_ _ _=>U13 ..⟩,trivial⟩
abbrev E14:Bd:=⟨A7,Az [],{Ai:=true,A9:=[(3,{Ap:=[0,3,4]})],BQ:=[(3,{Ap:=[3]})]}⟩
def ApV a (z_:Int×AHT):=sT 22 [(0,dD AIf a),(3,.Ak 0),(4,dI z_.1)] [.row 2 .Ai AIa z_.2]
def AnN(a:AHT):=λ(b:AHT)=>(Ex.exit 0,sT 22 [(3,.Ak 0)] [.row 2 .Ai AIa b])
def SD(a:AHT)(c:Int)(d:AHT):Option ((Int×AHT)⊕AHT):=
 bif decide (c<(a.length:Int))then
 if 0<=c/\c<a.length then
 if 0<=c/\c<d.length then
 some (.inl (wI (c+1),d.set c.toNat (a.getD c.toNat AIa.zero)))
 else none
 else none
 else
 some (.inr d)
def Jv a (z_:Int×AHT):=SD a z_.1 z_.2
def Qq a c d:=fix (Jv a) (c,d)
theorem Ar3 a:A5 E14 0 3 (code f145) 58 (ApV a) (Jv a) (AnN a):=by
 intro _;simp only[Jv,SD,AHE];kernel_rfl
def HZ(a:AHT):Option AHT:=
 if Ty.row AIa=true/\(0:Int)<=(a.length:Int)/\(a.length:Int)<=(a.length:Int)/\((8:Nat):Int)*(a.length:Int)<=(281474976710656:Int)/\(a.length:Int)<=(9223372036854775807:Int)then
 (Qq a 0 (List.replicate (a.length:Int).toNat 0)).bind λb=>some b
 else none
theorem U14 R a K:AW E14 f145 R [dD AIf a] [] K=(HZ a).bind λr=>K (.Ak 0) [.row 2 .Ai AIa r]:=by
 simp only[HZ,AHF];simp(disch:=refine id ?_;kernel_rfl) only[Qq,AF (Ar3 _) (K:=A4 E14 f145 0 R K)];kernel_rfl
def AuV:=Cx [.d AIf] [⟨[.AA [] AIf],[],AHT,λp=>HZ p.1.1,λr=>(.Ak 0,[.row 2 .Ai AIa r])⟩]
theorem zr:As prog 145 AuV:=Aw ⟨⟨E14,pk trivial,λ_ _ _=>U14 ..⟩,trivial⟩
abbrev E15:Bd:=⟨A7,Az [(145,AuV),(218,AvA)],{Ai:=true}⟩
def Md(a:AHL):Option (Int×Int×Int×Int×Int×AHT×AHT):=
 (Q7 a.2.2.2.2.1).bind λb=>(HZ a.2.2.2.2.2.1).bind λc=>some (a.1,a.2.1,a.2.2.1,a.2.2.2.1,b.1,b.2,c)
theorem U15 R a K:AW E15 f179 R [dD Ag a] [] K=(Md a).bind λr=>K (.pr (dI r.1) (.pr (dI r.2.1) (.pr (dI r.2.2.1) (.pr (dI r.2.2.2.1) (.pr (.pr (dI r.2.2.2.2.1) (.pr (.Ak 0) .u)) (.pr (.Ak 1) .u)))))) [.row 216 .Ai AIb r.2.2.2.2.2.1,.row 2 .Ai AIa r.2.2.2.2.2.2]:=by
 simp only[Md,AHF];kernel_rfl
def Avi:=Cx [.d Ag] [⟨[.AA [] Ag],[],Int×Int×Int×Int×Int×AHT×AHT,λp=>Md p.1.1,λr=>(.pr (dI r.1) (.pr (dI r.2.1) (.pr (dI r.2.2.1) (.pr (dI r.2.2.2.1) (.pr (.pr (dI r.2.2.2.2.1) (.pr (.Ak 0) .u)) (.pr (.Ak 1) .u))))),[.row 216 .Ai AIb r.2.2.2.2.2.1,.row 2 .Ai AIa r.2.2.2.2.2.2])⟩]
theorem zR:As prog 179 Avi:=Aw ⟨⟨E15,pk ⟨zr,Aaf,trivial⟩,λ_ _ _=>U15 ..⟩,trivial⟩
abbrev E16:Bd:=⟨A7,Az [(179,Avi)],{Ai:=true,A9:=[(3,{Ap:=[0,3,4]})],BQ:=[(3,{Ap:=[3]})]}⟩
def ApW a (z_:Int×AH1):=sT 23 [(0,dD AIl a),(3,.Ak 0),(4,dI z_.1)] [.row 231 .Ai Ag z_.2]
def AnO(a:AH1):=λ(b:AH1)=>(Ex.exit 0,sT 23 [(3,.Ak 0)] [.row 231 .Ai Ag b])
def SE(a:AH1)(c:Int)(d:AH1):Option ((Int×AH1)⊕AH1):=
 bif decide (c<(a.length:Int))then
 if 0<=c/\c<a.length then
 (Md (a.getD c.toNat Ag.zero)).bind λe=>if 0<=c/\c<d.length then
 some (.inl (wI (c+1),d.set c.toNat (e.1,e.2.1,e.2.2.1,e.2.2.2.1,(e.2.2.2.2.1,e.2.2.2.2.2.1,()),e.2.2.2.2.2.2,())))
 else none
 else none
 else
 some (.inr d)
def Jw a (z_:Int×AH1):=SE a z_.1 z_.2
def Qr a c d:=fix (Jw a) (c,d)
theorem Ar4 a:A5 E16 0 3 (code f112) 58 (ApW a) (Jw a) (AnO a):=by
 intro _;simp only[Jw,SE,AHE];kernel_rfl
def Kl(a:AH1):Option AH1:=
 if Ty.row Ag=true/\(0:Int)<=(a.length:Int)/\(a.length:Int)<=(a.length:Int)/\((88:Nat):Int)*(a.length:Int)<=(281474976710656:Int)/\(a.length:Int)<=(9223372036854775807:Int)then
 (Qr a 0 (List.replicate (a.length:Int).toNat (0,0,0,0,(0,([]:AHT),()),([]:AHT),()))).bind λb=>some b
 else none
theorem U16 R a K:AW E16 f112 R [dD AIl a] [] K=(Kl a).bind λr=>K (.Ak 0) [.row 231 .Ai Ag r]:=by
 simp only[Kl,AHF];simp(disch:=refine id ?_;kernel_rfl) only[Qr,AF (Ar4 _) (K:=A4 E16 f112 0 R K)];kernel_rfl
def AuK:=Cx [.d AIl] [⟨[.AA [] AIl],[],AH1,λp=>Kl p.1.1,λr=>(.Ak 0,[.row 231 .Ai Ag r])⟩]
theorem zg:As prog 112 AuK:=Aw ⟨⟨E16,pk ⟨zR,trivial⟩,λ_ _ _=>U16 ..⟩,trivial⟩
abbrev E17:Bd:=⟨A7,Az [(112,AuK)],{Ai:=true}⟩
def Lv(a:AHR):Option AH1:=
 (Kl a.1).bind λb=>some b
theorem U17 R a K:AW E17 f43 R [dD Ar a] [] K=(Lv a).bind λr=>K (.pr (.Ak 0) .u) [.row 231 .Ai Ag r]:=by
 simp only[Lv,AHF];kernel_rfl
def c43:=Cx [.d Ar] [⟨[.AA [] Ar],[],AH1,λp=>Lv p.1.1,λr=>(.pr (.Ak 0) .u,[.row 231 .Ai Ag r])⟩]
theorem AeI:As prog 43 c43:=Aw ⟨⟨E17,pk ⟨zg,trivial⟩,λ_ _ _=>U17 ..⟩,trivial⟩
abbrev E18:Bd:=⟨A7,Az [(43,c43)],{Ai:=true}⟩
def IQ(a:AHK):Option (Int×Bool×AH1×AH1):=
 (Lv a.2.2.1).bind λb=>(Lv a.2.2.2.1).bind λc=>some (a.1,a.2.1,b,c)
theorem U18 R a K:AW E18 f24 R [dD Af a] [] K=(IQ a).bind λr=>K (.pr (dI r.1) (.pr (dB r.2.1) (.pr (.pr (.Ak 0) .u) (.pr (.pr (.Ak 1) .u) .u)))) [.row 231 .Ai Ag r.2.2.1,.row 231 .Ai Ag r.2.2.2]:=by
 simp only[IQ,AHF];kernel_rfl
def c24:=Cx [.d Af] [⟨[.AA [] Af],[],Int×Bool×AH1×AH1,λp=>IQ p.1.1,λr=>(.pr (dI r.1) (.pr (dB r.2.1) (.pr (.pr (.Ak 0) .u) (.pr (.pr (.Ak 1) .u) .u))),[.row 231 .Ai Ag r.2.2.1,.row 231 .Ai Ag r.2.2.2])⟩]
theorem AeD:As prog 24 c24:=Aw ⟨⟨E18,pk ⟨AeI,trivial⟩,λ_ _ _=>U18 ..⟩,trivial⟩
abbrev E19:Bd:=⟨A7,Az [(24,c24)],{Ai:=true,A9:=[(3,{Ap:=[0,3,4]})],BQ:=[(3,{Ap:=[3]})]}⟩
def ApX a (z_:Int×AH0):=sT 23 [(0,dD AIi a),(3,.Ak 0),(4,dI z_.1)] [.row 58 .Ai Af z_.2]
def AnP(a:AH0):=λ(b:AH0)=>(Ex.exit 0,sT 23 [(3,.Ak 0)] [.row 58 .Ai Af b])
def Q8(a:AH0)(c:Int)(d:AH0):Option ((Int×AH0)⊕AH0):=
 bif decide (c<(a.length:Int))then
 if 0<=c/\c<a.length then
 (IQ (a.getD c.toNat Af.zero)).bind λe=>if 0<=c/\c<d.length then
 some (.inl (wI (c+1),d.set c.toNat (e.1,e.2.1,(e.2.2.1,()),(e.2.2.2,()),())))
 else none
 else none
 else
 some (.inr d)
def HA a (z_:Int×AH0):=Q8 a z_.1 z_.2
def Oh a c d:=fix (HA a) (c,d)
theorem Ar5 a:A5 E19 0 3 (code f12) 58 (ApX a) (HA a) (AnP a):=by
 intro _;simp only[HA,Q8,AHE];kernel_rfl
def DY(a:AH0):Option AH0:=
 if Ty.row Af=true/\(0:Int)<=(a.length:Int)/\(a.length:Int)<=(a.length:Int)/\((64:Nat):Int)*(a.length:Int)<=(281474976710656:Int)/\(a.length:Int)<=(9223372036854775807:Int)then
 (Oh a 0 (List.replicate (a.length:Int).toNat (0,false,(([]:AH1),()),(([]:AH1),()),()))).bind λb=>some b
 else none
theorem U19 R a K:AW E19 f12 R [dD AIi a] [] K=(DY a).bind λr=>K (.Ak 0) [.row 58 .Ai Af r]:=by
 simp only[DY,AHF];simp(disch:=refine id ?_;kernel_rfl) only[Oh,AF (Ar5 _) (K:=A4 E19 f12 0 R K)];kernel_rfl
def c12:=Cx [.d AIi] [⟨[.AA [] AIi],[],AH0,λp=>DY p.1.1,λr=>(.Ak 0,[.row 58 .Ai Af r])⟩]
theorem Aeu:As prog 12 c12:=Aw ⟨⟨E19,pk ⟨AeD,trivial⟩,λ_ _ _=>U19 ..⟩,trivial⟩
abbrev E20:Bd:=⟨A7,Az [],{Ai:=true}⟩
def Mm(a:Int):Bool:=((decide (a>=48))&&(decide (a<=57)))
theorem U20 R a K:AW E20 f222 R [dD AIc a] [] K=K (dB (Mm a)) []:=by
 have h:AW E20 f222 R [dD AIc a] [] K =
 bif decide (a>=48)then
 K (dB (decide (a<=57))) []
 else
 K (dB false) []:=by kernel_rfl
 rw[h];unfold Mm;cases (decide (a>=48))
 ·rfl
 ·rfl
def AvE:=Cx [.d AIc] [⟨[.AA [] AIc],[],Bool,λp=>some (Mm p.1.1),λr=>(dB r,[])⟩]
theorem Aaj:As prog 222 AvE:=Aw ⟨⟨E20,pk trivial,λ_ _ _=>U20 ..⟩,trivial⟩
abbrev E21:Bd:=⟨A7,Az [(222,AvE)],{Ai:=true,A9:=[(4,{Ap:=[0,3]})],BQ:=[(4,{Ap:=[2]})],BP:=[(2,{Ap:=[0,16]}),(7,{Ap:=[0,3,39]})],D2:=[(2,[0]),(7,[0,3])]}⟩
def Ap0 a (z_:Int):=sT 40 [(0,dD .str a),(3,dI z_)] []
def AnS(a:ByteArray):=Sum.elim (λ(b:Unit)=>(Ex.ret,sT 40 [(2,dB false)] [])) (λ(c:Unit)=>(Ex.exit 0,sT 40 [] []))
def ApZ a d:=sT 40 [(0,dD .str a),(3,dI d)] []
def AnR a d:=λ(e:Bool)=>(Ex.normal,sT 40 [(0,dD .str a),(3,dI d),(39,dB e)] [])
def LF(a:ByteArray)(d:Int):Option Bool:=
 if(0:Int)<=d/\d<(a.size:Int)then
 bif !(Mm (CB a d))then
 if(0:Int)<=d/\d<(a.size:Int)then
 bif decide ((CB a d)<97)then
 some true
 else
 if(0:Int)<=d/\d<(a.size:Int)then
 some (decide ((CB a d)>122))
 else none
 else none
 else
 some false
 else none
theorem Ar7 a d:AZ E21 0 7 (cd f186 116) 24 (ApZ a d) (LF a d) (AnR a d):=by
 unfold AZ;simp only[LF,AHE];kernel_rfl
def Mp(a:ByteArray)(d:Int):Option (Int⊕(Unit⊕Unit)):=
 bif decide (d<(a.size:Int))then
 (LF a d).bind λe=>bif e then
 some (.inr (.inl ()))
 else
 some (.inl (wI (d+1)))
 else
 some (.inr (.inr ()))
def I2 a (z_:Int):=Mp a z_
def SY a d:=fix (I2 a) d
theorem Ar8 a:A5 E21 0 4 (code f186) 58 (Ap0 a) (I2 a) (AnS a):=by
 intro _;simp only[I2,Mp,AHE];simp(disch:=refine id ?_;kernel_rfl) only[Bg (Ar7 ..) (K:=Ld E21 0 4)];kernel_rfl
def ApY a:=sT 40 [(0,dD .str a)] []
def AnQ a:=λ(g:Bool)=>(Ex.normal,sT 40 [(0,dD .str a),(16,dB g)] [])
def Px(a:ByteArray):Option Bool:=
 bif decide ((a.size:Int)<1)then
 some true
 else
 bif decide ((a.size:Int)>12)then
 some true
 else
 if(0:Int)<=(0:Int)/\(0:Int)<(a.size:Int)then
 some (Mm (CB a 0))
 else none
theorem Ar6 a:AZ E21 0 2 (code f186) 12 (ApY a) (Px a) (AnQ a):=by
 unfold AZ;simp only[Px,AHE];kernel_rfl
def LD(a:ByteArray):Option Bool:=
 (Px a).bind λg=>bif g then
 some false
 else
 (SY a 0).bind (Sum.elim (λb=>some false) (λc=>some true))
theorem U21 R a K:AW E21 f186 R [dD .str a] [] K=(LD a).bind λr=>K (dB r) []:=by
 simp only[LD,AHF];simp(disch:=refine id ?_;kernel_rfl) only[Bg (Ar6 _) (K:=A4 E21 f186 0 R K),SY,AF (Ar8 _) (K:=A4 E21 f186 0 R K)];kernel_rfl
def Avn:=Cx [.d .str] [⟨[.AA [] .str],[],Bool,λp=>LD p.1.1,λr=>(dB r,[])⟩]
theorem zW:As prog 186 Avn:=Aw ⟨⟨E21,pk ⟨Aaj,trivial⟩,λ_ _ _=>U21 ..⟩,trivial⟩
abbrev E22:Bd:=⟨A7,Az [],{Ai:=true}⟩
def Bz(a b c:Int):Bool:=((decide (a>=b))&&(decide (a<=c)))
theorem U22 R a b c K:AW E22 f52 R [dI a,dI b,dI c] [] K=K (dB (Bz a b c)) []:=by
 have h:AW E22 f52 R [dI a,dI b,dI c] [] K =
 bif decide (a>=b)then
 K (dB (decide (a<=c))) []
 else
 K (dB false) []:=by kernel_rfl
 rw[h];unfold Bz;cases (decide (a>=b))
 ·rfl
 ·rfl
def c52:=Cx [.d AIa,.d AIa,.d AIa] [⟨[.AA [] AIa,.AA [] AIa,.AA [] AIa],[],Bool,λp=>some (Bz p.1.1 p.1.2.1 p.1.2.2.1),λr=>(dB r,[])⟩]
theorem Tj:As prog 52 c52:=Aw ⟨⟨E22,pk trivial,λ_ _ _=>U22 ..⟩,trivial⟩
abbrev E23:Bd:=⟨A7,Az [(52,c52),(186,Avn)],{Ai:=true,A9:=[(5,{Ap:=[0,3,4]}),(10,{Ap:=[0,3,4,5]})],BQ:=[(5,{Ap:=[2,3]}),(10,{Ap:=[0,2,3,4]})],BP:=[(8,{Ap:=[0,3,4,30]})],D2:=[(8,[0,3,4])]}⟩
def Ap3 a (z_:Int×Int):=sT 56 [(0,dD AId a),(3,dI z_.1),(4,dI z_.2)] []
def AnV(a:AHY):=Sum.elim (λ(b:Int)=>(Ex.ret,sT 56 [(2,dB false),(3,dI b)] [])) (λ(c:Int)=>(Ex.exit 0,sT 56 [(3,dI c)] []))
def Ap2 a d e (z_:Int):=sT 56 [(0,dD AId a),(3,dI d),(4,dI e),(5,dI z_)] []
def AnU a d e:=Sum.elim (λ(g:Unit)=>(Ex.ret,sT 56 [(0,dD AId a),(2,dB false),(3,dI d),(4,dI e)] [])) (λ(i:Unit)=>(Ex.exit 2,sT 56 [(0,dD AId a),(3,dI d),(4,dI e)] []))
def KR(a:AHY)(d e j:Int):Option (Int⊕(Unit⊕Unit)):=
 bif decide (j<e)then
 if 0<=j/\j<a.length then
 if 0<=e/\e<a.length then
 bif Ia (a.getD j.toNat Ad.zero).1 (a.getD e.toNat Ad.zero).1 then
 some (.inr (.inl ()))
 else
 some (.inl (wI (j+1)))
 else none
 else none
 else
 some (.inr (.inr ()))
def HL a d e (z_:Int):=KR a d e z_
def RB a d e j:=fix (HL a d e) j
theorem Asa a d e:A5 E23 0 10 (cd f119 244) 202 (Ap2 a d e) (HL a d e) (AnU a d e):=by
 intro _;simp only[HL,KR,AHE];kernel_rfl
def Ap1 a d e:=sT 56 [(0,dD AId a),(3,dI d),(4,dI e)] []
def AnT a d e:=λ(k:Bool)=>(Ex.normal,sT 56 [(0,dD AId a),(3,dI d),(4,dI e),(30,dB k)] [])
def NG(a:AHY)(d e:Int):Option Bool:=
 if 0<=e/\e<a.length then
 (LD (a.getD e.toNat Ad.zero).1).bind λl=>bif !l then
 some true
 else
 if 0<=e/\e<a.length then
 some (!(Bz (a.getD e.toNat Ad.zero).2.1 1 4096))
 else none
 else none
theorem Ar9 a d e:AZ E23 0 8 (cd f119 244) 48 (Ap1 a d e) (NG a d e) (AnT a d e):=by
 unfold AZ;simp only[NG,AHE];kernel_rfl
def KS(a:AHY)(d e:Int):Option ((Int×Int)⊕(Int⊕Int)):=
 bif decide (e<(a.length:Int))then
 (NG a d e).bind λk=>bif k then
 some (.inr (.inl d))
 else
 (RB a d e 0).bind (Sum.elim (λg=>some (.inr (.inl d))) (λi=>if 0<=e/\e<a.length then
 some (.inl (wI (d+(a.getD e.toNat Ad.zero).2.1),wI (e+1)))
 else none))
 else
 some (.inr (.inr d))
def HM a (z_:Int×Int):=KS a z_.1 z_.2
def RD a d e:=fix (HM a) (d,e)
theorem Asb a:A5 E23 0 5 (code f119) 122 (Ap3 a) (HM a) (AnV a):=by
 intro _;simp only[HM,KS,AHE];simp(disch:=refine id ?_;kernel_rfl) only[Bg (Ar9 ..) (K:=Ld E23 0 5),RB,AF (Asa _ _ _) (K:=Ld E23 0 5)];kernel_rfl
def HK(a:AHY):Option Bool:=
 bif decide ((a.length:Int)>60)then
 some false
 else
 (RD a 0 0).bind (Sum.elim (λb=>some false) (λc=>some (decide (c<=20000))))
theorem U23 R a K:AW E23 f119 R [dD AId a] [] K=(HK a).bind λr=>K (dB r) []:=by
 simp only[HK,AHF];simp(disch:=refine id ?_;kernel_rfl) only[RD,AF (Asb _) (K:=A4 E23 f119 0 R K)];kernel_rfl
def Aes:=Cx [.d AId] [⟨[.AA [] AId],[],Bool,λp=>HK p.1.1,λr=>(dB r,[])⟩]
theorem cf:As prog 119 Aes:=Aw ⟨⟨E23,pk ⟨Tj,zW,trivial⟩,λ_ _ _=>U23 ..⟩,trivial⟩
abbrev E24:Bd:=⟨A7,Az [],{Ai:=true}⟩
def Cw(a:AHM):Bool:=((a.1==0)&&((a.2.1.length:Int)==0))
theorem U24 R a K:AW E24 f251 R [dD Ah a] [] K=K (dB (Cw a)) []:=by
 have h:AW E24 f251 R [dD Ah a] [] K =
 bif a.1==0 then
 K (dB ((a.2.1.length:Int)==0)) []
 else
 K (dB false) []:=by kernel_rfl
 rw[h];unfold Cw;cases (a.1==0)
 ·rfl
 ·rfl
def AvR:=Cx [.d Ah] [⟨[.AA [] Ah],[],Bool,λp=>some (Cw p.1.1),λr=>(dB r,[])⟩]
theorem Aaw:As prog 251 AvR:=Aw ⟨⟨E24,pk trivial,λ_ _ _=>U24 ..⟩,trivial⟩
abbrev E25:Bd:=⟨A7,Az [(52,c52)],{Ai:=true}⟩
def A1(a:Int):Bool:=(Bz a 4 9)
theorem U25 R a K:AW E25 f252 R [dI a] [] K=K (dB (A1 a)) []:=by
 kernel_rfl
def AvS:=Cx [.d AIa] [⟨[.AA [] AIa],[],Bool,λp=>some (A1 p.1.1),λr=>(dB r,[])⟩]
theorem Aax:As prog 252 AvS:=Aw ⟨⟨E25,pk ⟨Tj,trivial⟩,λ_ _ _=>U25 ..⟩,trivial⟩
abbrev E26:Bd:=⟨A7,Az [],{Ai:=true}⟩
def GL(a:AHM)(b:Int):Option Int:=
 if 0<=(wI (Int.tdiv b 64))/\(wI (Int.tdiv b 64))<a.2.1.length then
 if(IntKind.u64.wrap (Int.tmod b 64))<(0:Int)then none else
 some (IntKind.u8.wrap (fp .u64 (RA .u64 (a.2.1.getD (wI (Int.tdiv b 64)).toNat AIb.zero) (IntKind.u64.wrap (Int.tmod b 64))) 1))
 else none
theorem U26 R a b K:AW E26 f188 R [dD Ah a,dI b] [] K=(GL a b).bind λr=>K (dD AIc r) []:=by
 simp only[GL,AHF];kernel_rfl
def Aey:=Cx [.d Ah,.d AIa] [⟨[.AA [] Ah,.AA [] AIa],[],Int,λp=>GL p.1.1 p.1.2.1,λr=>(dD AIc r,[])⟩]
theorem cj:As prog 188 Aey:=Aw ⟨⟨E26,pk trivial,λ_ _ _=>U26 ..⟩,trivial⟩
abbrev E27:Bd:=⟨A7,Az [(52,c52),(188,Aey)],{Ai:=true,A9:=[(4,{Ap:=[1,3]})],BQ:=[(4,{Ap:=[2]})],BP:=[(2,{Ap:=[1,17]})],D2:=[(2,[1])]}⟩
def Ap4 a (z_:Int):=sT 32 [(1,.ptr 0 0 [] 0),(3,dI z_)] [.box (dD Ah a)]
def AnW(a:AHM):=Sum.elim (λ(b:Unit)=>(Ex.ret,sT 32 [(2,dB false)] [])) (λ(c:Unit)=>(Ex.exit 0,sT 32 [] []))
def Me(a:AHM)(d:Int):Option (Int⊕(Unit⊕Unit)):=
 bif decide (d<(wI (64*(a.2.1.length:Int))))then
 (GL a d).bind λe=>bif e !=0 then
 some (.inr (.inl ()))
 else
 some (.inl (wI (d+1)))
 else
 some (.inr (.inr ()))
def IU a (z_:Int):=Me a z_
def SS a d:=fix (IU a) d
theorem Ase a:A5 E27 0 4 (code f253) 58 (Ap4 a) (IU a) (AnW a):=by
 intro _;simp only[IU,Me,AHE];kernel_rfl
def ym a:=sT 32 [(1,.ptr 0 0 [] 0)] [.box (dD Ah a)]
def xO(a:AHM)(m0:Bool):Ex×St:=(.normal,sT 32 [(1,.ptr 0 0 [] 0),(17,dB m0)] [.box (dD Ah a)])
theorem Asd a:MY E27 0 2 (code f253) (pt 12) (ym a)=some (xO a ((!(Bz a.1 1 4096))||((a.2.1.length:Int) !=(wI (Int.tdiv (wI (a.1+63)) 64))))):=by
 have h0:MY E27 0 2 (code f253) (pt 12) (ym a) =
 bif !(Bz a.1 1 4096)then
 some (xO a true)
 else
 some (xO a ((a.2.1.length:Int) !=(wI (Int.tdiv (wI (a.1+63)) 64)))):=by kernel_rfl
 rw[h0];cases (!(Bz a.1 1 4096))
 ·rfl
 ·rfl
def Ly(a:AHM):Option Bool:=
 P2 (ym a) (
 bif (!(Bz a.1 1 4096))||((a.2.1.length:Int) !=(wI (Int.tdiv (wI (a.1+63)) 64)))then
 some false
 else
 (SS a a.1).bind (Sum.elim (λb=>some false) (λc=>some true)))
theorem U27 R a K:AW E27 f253 R [dD Ah a] [] K=(Ly a).bind λr=>K (dB r) []:=by
 simp only[Ly,AHF];simp(disch:=refine id ?_;kernel_rfl) only[F4 (Asd _) (K:=A4 E27 f253 0 R K),SS,AF (Ase _) (K:=A4 E27 f253 0 R K)];kernel_rfl
def AvT:=Cx [.d Ah] [⟨[.AA [] Ah],[],Bool,λp=>Ly p.1.1,λr=>(dB r,[])⟩]
theorem Aay:As prog 253 AvT:=Aw ⟨⟨E27,pk ⟨Tj,cj,trivial⟩,λ_ _ _=>U27 ..⟩,trivial⟩
abbrev E28:Bd:=⟨A7,Az [(52,c52),(251,AvR),(252,AvS),(253,AvT)],{Ai:=true,A9:=[(2,{Ap:=[0,2,4,7]})],BQ:=[(2,{Ap:=[0,4,6]})],BP:=[(7,{Ap:=[0,4,63]}),(8,{Ap:=[0,4,6]})],D2:=[(7,[0,4]),(8,[0,4])]}⟩
def Ap6 a b:=sT 109 [(0,dD AId a),(4,.ptr 0 0 [] 0)] [.box (dD Ag b)]
def AnY a b:=Sum.elim (λ(c:Unit)=>(Ex.ret,sT 109 [(0,dD AId a),(4,.ptr 0 0 [] 0),(6,dB false)] [.box (dD Ag b)])) (λ(d:Unit)=>(Ex.normal,sT 109 [(0,dD AId a),(4,.ptr 0 0 [] 0)] [.box (dD Ag b)]))
def yn a b:=sT 109 [(0,dD AId a),(4,.ptr 0 0 [] 0)] [.box (dD Ag b)]
def Kz(a:AHY)(b:AHL)(m0:Bool):Ex×St:=(.normal,sT 109 [(0,dD AId a),(4,.ptr 0 0 [] 0),(63,dB m0)] [.box (dD Ag b)])
theorem Asg a b:MY E28 0 7 (cd f223 14) (pt 2) (yn a b)=some (Kz a b (bif b.1 !=1 then((b.2.1 !=0)||(bif b.1 !=2 then((!(Cw b.2.2.2.2.1))||(bif b.1 !=4 then((b.2.2.2.1 !=0)||((!(A1 b.1))&&(b.2.2.1 !=0)))else((!(A1 b.1))&&(b.2.2.1 !=0))))else(bif b.1 !=4 then((b.2.2.2.1 !=0)||((!(A1 b.1))&&(b.2.2.1 !=0)))else((!(A1 b.1))&&(b.2.2.1 !=0)))))else(bif b.1 !=2 then((!(Cw b.2.2.2.2.1))||(bif b.1 !=4 then((b.2.2.2.1 !=0)||((!(A1 b.1))&&(b.2.2.1 !=0)))else((!(A1 b.1))&&(b.2.2.1 !=0))))else(bif b.1 !=4 then((b.2.2.2.1 !=0)||((!(A1 b.1))&&(b.2.2.1 !=0)))else((!(A1 b.1))&&(b.2.2.1 !=0)))))):=by
 have h0:MY E28 0 7 (cd f223 14) (pt 2) (yn a b) =
 bif b.1 !=1 then
 bif b.2.1 !=0 then
 some (Kz a b true)
 else
 bif b.1 !=2 then
 bif !(Cw b.2.2.2.2.1)then
 some (Kz a b true)
 else
 bif b.1 !=4 then
 bif b.2.2.2.1 !=0 then
 some (Kz a b true)
 else
 bif !(A1 b.1)then
 some (Kz a b (b.2.2.1 !=0))
 else
 some (Kz a b false)
 else
 bif !(A1 b.1)then
 some (Kz a b (b.2.2.1 !=0))
 else
 some (Kz a b false)
 else
 bif b.1 !=4 then
 bif b.2.2.2.1 !=0 then
 some (Kz a b true)
 else
 bif !(A1 b.1)then
 some (Kz a b (b.2.2.1 !=0))
 else
 some (Kz a b false)
 else
 bif !(A1 b.1)then
 some (Kz a b (b.2.2.1 !=0))
 else
 some (Kz a b false)
 else
 bif b.1 !=2 then
 bif !(Cw b.2.2.2.2.1)then
 some (Kz a b true)
 else
 bif b.1 !=4 then
 bif b.2.2.2.1 !=0 then
 some (Kz a b true)
 else
 bif !(A1 b.1)then
 some (Kz a b (b.2.2.1 !=0))
 else
 some (Kz a b false)
 else
 bif !(A1 b.1)then
 some (Kz a b (b.2.2.1 !=0))
 else
 some (Kz a b false)
 else
 bif b.1 !=4 then
 bif b.2.2.2.1 !=0 then
 some (Kz a b true)
 else
 bif !(A1 b.1)then
 some (Kz a b (b.2.2.1 !=0))
 else
 some (Kz a b false)
 else
 bif !(A1 b.1)then
 some (Kz a b (b.2.2.1 !=0))
 else
 some (Kz a b false):=by kernel_rfl
 rw[h0];cases (b.1 !=1)
 ·cases (b.1 !=2)
  ·cases (b.1 !=4)
   ·cases (!(A1 b.1))
    ·rfl
    ·rfl
   ·cases (b.2.2.2.1 !=0)
    ·cases (!(A1 b.1))
     ·rfl
     ·rfl
    ·rfl
  ·cases (!(Cw b.2.2.2.2.1))
   ·cases (b.1 !=4)
    ·cases (!(A1 b.1))
     ·rfl
     ·rfl
    ·cases (b.2.2.2.1 !=0)
     ·cases (!(A1 b.1))
      ·rfl
      ·rfl
     ·rfl
   ·rfl
 ·cases (b.2.1 !=0)
  ·cases (b.1 !=2)
   ·cases (b.1 !=4)
    ·cases (!(A1 b.1))
     ·rfl
     ·rfl
    ·cases (b.2.2.2.1 !=0)
     ·cases (!(A1 b.1))
      ·rfl
      ·rfl
     ·rfl
   ·cases (!(Cw b.2.2.2.2.1))
    ·cases (b.1 !=4)
     ·cases (!(A1 b.1))
      ·rfl
      ·rfl
     ·cases (b.2.2.2.1 !=0)
      ·cases (!(A1 b.1))
       ·rfl
       ·rfl
      ·rfl
    ·rfl
  ·rfl
def Py(a:AHY)(b:AHL):Option (Unit⊕Unit):=
 P2 (yn a b) (
 bif bif (b.1 !=1)then((b.2.1 !=0)||(bif (b.1 !=2)then((!(Cw b.2.2.2.2.1))||(bif (b.1 !=4)then((b.2.2.2.1 !=0)||((!(A1 b.1))&&(b.2.2.1 !=0)))else((!(A1 b.1))&&(b.2.2.1 !=0))))else(bif (b.1 !=4)then((b.2.2.2.1 !=0)||((!(A1 b.1))&&(b.2.2.1 !=0)))else((!(A1 b.1))&&(b.2.2.1 !=0)))))else(bif (b.1 !=2)then((!(Cw b.2.2.2.2.1))||(bif (b.1 !=4)then((b.2.2.2.1 !=0)||((!(A1 b.1))&&(b.2.2.1 !=0)))else((!(A1 b.1))&&(b.2.2.1 !=0))))else(bif (b.1 !=4)then((b.2.2.2.1 !=0)||((!(A1 b.1))&&(b.2.2.1 !=0)))else((!(A1 b.1))&&(b.2.2.1 !=0))))then
 some (.inl ())
 else
 some (.inr ()))
theorem Ash a b:AZ E28 0 8 (code f223) 14 (Ap6 a b) (Py a b) (AnY a b):=by
 unfold AZ;simp only[Py,AHE];simp(disch:=refine id ?_;kernel_rfl) only[F4 (Asg ..) (K:=Te E28 0 8)];kernel_rfl
def Ap5 a e b (z_:Int):=sT 109 [(0,dD AId a),(2,dI e),(4,.ptr 0 0 [] 0),(7,dI z_)] [.box (dD Ag b)]
def AnX a (e:Int) b:=Sum.elim (λ(g:Unit)=>(Ex.ret,sT 109 [(0,dD AId a),(4,.ptr 0 0 [] 0),(6,dB false)] [.box (dD Ag b)])) (λ(i:Unit)=>(Ex.exit 0,sT 109 [(0,dD AId a),(4,.ptr 0 0 [] 0)] [.box (dD Ag b)]))
def Mq(a:AHY)(e:Int)(b:AHL)(j:Int):Option (Int⊕(Unit⊕Unit)):=
 bif decide (j<(b.2.2.2.2.2.1.length:Int))then
 if 0<=j/\j<b.2.2.2.2.2.1.length then
 bif !(Bz (b.2.2.2.2.2.1.getD j.toNat AIa.zero) 0 (wI (e-1)))then
 some (.inr (.inl ()))
 else
 some (.inl (wI (j+1)))
 else none
 else
 some (.inr (.inr ()))
def I3 a e b (z_:Int):=Mq a e b z_
def SZ a e b j:=fix (I3 a e b) j
theorem Asf a e b:A5 E28 0 2 (code f223) 26 (Ap5 a e b) (I3 a e b) (AnX a e b):=by
 intro _;simp only[I3,Mq,AHE];kernel_rfl
def LG(a:AHY)(b:AHL)(e:Int):Option Bool:=
 (SZ a e b 0).bind (Sum.elim (λg=>some false) (λi=>(Py a b).bind (Sum.elim (λc=>some false) (λd=>bif b.1==1 then
 bif (b.2.2.2.2.2.1.length:Int)==0 then
 some (Bz b.2.1 0 (wI ((a.length:Int)-1)))
 else
 some false
 else
 bif b.1==2 then
 bif (b.2.2.2.2.2.1.length:Int)==0 then
 (Ly b.2.2.2.2.1).bind λk=>some k
 else
 some false
 else
 bif b.1==3 then
 some (decide ((b.2.2.2.2.2.1.length:Int)>=2))
 else
 bif A1 b.1 then
 some ((b.2.2.2.2.2.1.length:Int)==1)
 else
 some false))))
theorem U28 R a b e K:AW E28 f223 R [dD AId a,dD Ag b,dI e] [] K=(LG a b e).bind λr=>K (dB r) []:=by
 simp only[LG,AHF];simp(disch:=refine id ?_;kernel_rfl) only[SZ,AF (Asf _ _ _) (K:=A4 E28 f223 0 R K),Bg (Ash ..) (K:=A4 E28 f223 0 R K)];kernel_rfl
def AvF:=Cx [.d AId,.d Ag,.d AIa] [⟨[.AA [] AId,.AA [] Ag,.AA [] AIa],[],Bool,λp=>LG p.1.1 p.1.2.1 p.1.2.2.1,λr=>(dB r,[])⟩]
theorem Aak:As prog 223 AvF:=Aw ⟨⟨E28,pk ⟨Tj,Aaw,Aax,Aay,trivial⟩,λ_ _ _=>U28 ..⟩,trivial⟩
abbrev qm:Bd:=⟨A7,Az [(52,c52)],{Ai:=true,A9:=[(3,{Ap:=[0,2,4,7,8]})],BQ:=[(3,{Ap:=[0,4,7]})],BP:=[(13,{Ap:=[4,59]}),(17,{Ap:=[4,7,28,66]}),(22,{Ap:=[4,7,28,77]}),(28,{Ap:=[6,7]})],D2:=[(13,[4,7]),(17,[4,7,28]),(22,[4,7,28]),(28,[0,4,7])]}⟩
def Ap8 a b c:=sT 95 [(0,dD AId a),(4,.ptr 0 0 [] 0),(7,dI b)] [.box (dD Ag c)]
def An0(a:AHY) b (c:AHL):=Sum.elim (λ(d:Int)=>(Ex.ret,sT 95 [(6,dI d),(7,dI b)] [])) (Sum.elim (λ(e:Int)=>(Ex.ret,sT 95 [(6,dI e)] [])) (λ(g:Unit)=>(Ex.normal,sT 95 [(7,dI b)] [])))
def yq b (c:AHL):=sT 95 [(4,.ptr 0 0 [] 0),(7,dI b),(28,dI c.1)] [.box (dD Ag c)]
def xQ(b:Int)(c:AHL)(m0:Bool):Ex×St:=(.normal,sT 95 [(4,.ptr 0 0 [] 0),(7,dI b),(28,dI c.1),(77,dB m0)] [.box (dD Ag c)])
theorem Asm b c:MY qm 0 22 (cd f224 30) (pt 3582) (yq b c)=some (xQ b c (bif c.1==7 then(c.1==7)else(c.1==8))):=by
 have h0:MY qm 0 22 (cd f224 30) (pt 3582) (yq b c) =
 bif c.1==7 then
 some (xQ b c (c.1==7))
 else
 some (xQ b c (c.1==8)):=by kernel_rfl
 rw[h0];cases (c.1==7)
 ·rfl
 ·rfl
def yp b (c:AHL):=sT 95 [(4,.ptr 0 0 [] 0),(7,dI b),(28,dI c.1)] [.box (dD Ag c)]
def xP(b:Int)(c:AHL)(m0:Bool):Ex×St:=(.normal,sT 95 [(4,.ptr 0 0 [] 0),(7,dI b),(28,dI c.1),(66,dB m0)] [.box (dD Ag c)])
theorem Asl b c:MY qm 0 17 (cd f224 30) (pt 894) (yp b c)=some (xP b c (bif c.1==5 then(c.1==5)else(c.1==6))):=by
 have h0:MY qm 0 17 (cd f224 30) (pt 894) (yp b c) =
 bif c.1==5 then
 some (xP b c (c.1==5))
 else
 some (xP b c (c.1==6)):=by kernel_rfl
 rw[h0];cases (c.1==5)
 ·rfl
 ·rfl
def yo b c:=sT 95 [(4,.ptr 0 0 [] 0),(7,dI b)] [.box (dD Ag c)]
def sQ(c:AHL)(m0:Bool):Ex×St:=(.normal,sT 95 [(4,.ptr 0 0 [] 0),(59,dB m0)] [.box (dD Ag c)])
theorem Asj b c:MY qm 0 13 (cd f224 30) (pt 1784) (yo b c)=some (sQ c ((decide (c.2.2.2.1<0))||((decide (c.2.2.1<c.2.2.2.1))||(decide (c.2.2.1>=b))))):=by
 have h0:MY qm 0 13 (cd f224 30) (pt 1784) (yo b c) =
 bif decide (c.2.2.2.1<0)then
 some (sQ c true)
 else
 bif decide (c.2.2.1<c.2.2.2.1)then
 some (sQ c true)
 else
 some (sQ c (decide (c.2.2.1>=b))):=by kernel_rfl
 rw[h0];cases (decide (c.2.2.2.1<0))
 ·cases (decide (c.2.2.1<c.2.2.2.1))
  ·rfl
  ·rfl
 ·rfl
def Pz(a:AHY)(b:Int)(c:AHL):Option (Int⊕(Int⊕Unit)):=
 bif c.1==1 then
 if(0:Int)<=c.2.1/\c.2.1<(a.length:Int)then
 some (.inl (a.getD c.2.1.toNat Ad.zero).2.1)
 else none
 else
 bif c.1==2 then
 some (.inl c.2.2.2.2.1.1)
 else
 bif c.1==4 then
 P2 (yo b c) (
 bif (decide (c.2.2.2.1<0))||((decide (c.2.2.1<c.2.2.2.1))||(decide (c.2.2.1>=b)))then
 some (.inr (.inl (-1)))
 else
 some (.inr (.inl (wI ((wI (c.2.2.1-c.2.2.2.1))+1)))))
 else
 P2 (yp b c) (
 bif bif (c.1==5)then(c.1==5)else(c.1==6)then
 bif !(Bz c.2.2.1 0 4096)then
 some (.inl (-1))
 else
 some (.inl (wI (b+c.2.2.1)))
 else
 P2 (yq b c) (
 bif bif (c.1==7)then(c.1==7)else(c.1==8)then
 bif !(Bz c.2.2.1 0 4096)then
 some (.inl (-1))
 else
 some (.inr (.inr ()))
 else
 bif c.1==9 then
 bif !(Bz c.2.2.1 1 4096)then
 some (.inl (-1))
 else
 some (.inl (wI (b*c.2.2.1)))
 else
 some (.inr (.inr ()))))
theorem Asn a b c:AZ qm 0 28 (code f224) 30 (Ap8 a b c) (Pz a b c) (An0 a b c):=by
 unfold AZ;simp only[Pz,AHE];simp(disch:=refine id ?_;kernel_rfl) only[F4 (Asj ..) (K:=Te qm 0 28),F4 (Asl ..) (K:=Te qm 0 28),F4 (Asm ..) (K:=Te qm 0 28)];kernel_rfl
def Ap7 a i c (z_:Int×Int):=sT 95 [(0,dD AId a),(2,dD AIf i),(4,.ptr 0 0 [] 0),(7,dI z_.1),(8,dI z_.2)] [.box (dD Ag c)]
def AnZ a (i:AHT) c:=λ(b:Int)=>(Ex.exit 0,sT 95 [(0,dD AId a),(4,.ptr 0 0 [] 0),(7,dI b)] [.box (dD Ag c)])
def Mr(a:AHY)(i:AHT)(c:AHL)(j k:Int):Option ((Int×Int)⊕Int):=
 bif decide (k<(c.2.2.2.2.2.1.length:Int))then
 if 0<=k/\k<c.2.2.2.2.2.1.length then
 if(0:Int)<=(c.2.2.2.2.2.1.getD k.toNat AIa.zero)/\(c.2.2.2.2.2.1.getD k.toNat AIa.zero)<(i.length:Int)then
 some (.inl ((if(wI (j+(i.getD (c.2.2.2.2.2.1.getD k.toNat AIa.zero).toNat AIa.zero)))<8192 then(wI (j+(i.getD (c.2.2.2.2.2.1.getD k.toNat AIa.zero).toNat AIa.zero)))else 8192),wI (k+1)))
 else none
 else none
 else
 some (.inr j)
def Gh a i c (z_:Int×Int):=Mr a i c z_.1 z_.2
def S3 a i c j k:=fix (Gh a i c) (j,k)
theorem Asi a i c:A5 qm 0 3 (code f224) 58 (Ap7 a i c) (Gh a i c) (AnZ a i c):=by
 intro _;simp only[Gh,Mr,AHE];kernel_rfl
def LH(a:AHY)(c:AHL)(i:AHT):Option Int:=
 (S3 a i c 0 0).bind λb=>(Pz a b c).bind (Sum.elim (λd=>some d) (Sum.elim (λe=>some e) (λg=>some b)))
theorem U29 R a c i K:AW qm f224 R [dD AId a,dD Ag c,dD AIf i] [] K=(LH a c i).bind λr=>K (dI r) []:=by
 simp only[LH,AHF];simp(disch:=refine id ?_;kernel_rfl) only[S3,AF (Asi _ _ _) (K:=A4 qm f224 0 R K),Bg (Asn ..) (K:=A4 qm f224 0 R K)];kernel_rfl
def AvG:=Cx [.d AId,.d Ag,.d AIf] [⟨[.AA [] AId,.AA [] Ag,.AA [] AIf],[],Int,λp=>LH p.1.1 p.1.2.1 p.1.2.2.1,λr=>(dI r,[])⟩]
theorem Aal:As prog 224 AvG:=Aw ⟨⟨qm,pk ⟨Tj,trivial⟩,λ_ _ _=>U29 ..⟩,trivial⟩
abbrev E30:Bd:=⟨A7,Az [(52,c52),(119,Aes),(223,AvF),(224,AvG)],{Ai:=true,A9:=[(7,{Ap:=[0,3,5,6,7,8],B6:=[(6,false,.row [] 2 AIa true)]}),(16,{Ap:=[0,3,5,6,7,8,10]}),(20,{Ap:=[5,6,7,11]})],BQ:=[(7,{Ap:=[4,5,6,7],Rj:=[(7,false,AIg)]}),(16,{Ap:=[0,3,5,6,7,8]}),(20,{Ap:=[4,6]})],BP:=[(3,{Ap:=[0,3,5,27]})],D2:=[(3,[0,3,5])],dT:=[(0,.row [] 2 AIa true)]}⟩
def Aqc a b (z_:Int):=sT 103 [(5,.zs),(6,.Ak 0),(7,dD AIg a),(11,dI z_)] [.row 2 .Ai AIa b]
def An4(a:AHU) b:=Sum.elim (λ(c:Unit)=>(Ex.ret,sT 103 [(4,.zs),(6,.Ak 0)] [.row 2 .Ai AIa b])) (λ(d:Unit)=>(Ex.exit 4,sT 103 [(6,.Ak 0)] [.row 2 .Ai AIa b]))
def JJ(a:AHU)(b:AHT)(e:Int):Option (Int⊕(Unit⊕Unit)):=
 bif decide ((wI (e+1))<(a.length:Int))then
 if 0<=e/\e<a.length then
 bif !(a.getD e.toNat (Ty.zero .bool))then
 some (.inr (.inl ()))
 else
 some (.inl (wI (e+1)))
 else none
 else
 some (.inr (.inr ()))
def GQ a b (z_:Int):=JJ a b z_
def QB a b e:=fix (GQ a b) e
theorem Asr a b:A5 E30 0 20 (code f187) 1018 (Aqc a b) (GQ a b) (An4 a b):=by
 intro _;simp only[GQ,JJ,AHE];kernel_rfl
def Aqb g i (z_:Int×AHT×AHU):=sT 103 [(0,dD AId g),(3,.ptr 0 0 [] 0),(5,.zs),(6,.Ak 1),(7,.Ak 2),(8,dI z_.1)] [.box (dD Ar i),.row 2 .Ai AIa z_.2.1,.row 4 .Ai .bool z_.2.2]
def An3(g:AHY)(i:AHR):=Sum.elim (λ(j:(AHU×AHT))=>(Ex.ret,sT 103 [(4,.zs),(5,.zs),(6,.Ak 0),(7,dD AIg j.1)] [.row 2 .Ai AIa j.2])) (λ(k:(AHU×AHT))=>(Ex.exit 0,sT 103 [(5,.zs),(6,.Ak 0),(7,dD AIg k.1)] [.row 2 .Ai AIa k.2]))
def Aqa g l i n (z_:Int×AHU):=sT 103 [(0,dD AId g),(3,.ptr 0 0 [] 0),(5,.zs),(6,.Ak 1),(7,.Ak 2),(8,dI l),(10,dI z_.1)] [.box (dD Ar i),.row 2 .Ai AIa n,.row 4 .Ai .bool z_.2]
def An2 g l i n:=λ(o:AHU)=>(Ex.exit 2,sT 103 [(0,dD AId g),(3,.ptr 0 0 [] 0),(5,.zs),(6,.Ak 1),(7,.Ak 2),(8,dI l)] [.box (dD Ar i),.row 2 .Ai AIa n,.row 4 .Ai .bool o])
def JH(g:AHY)(l:Int)(i:AHR)(n:AHT)(q:Int)(s:AHU):Option ((Int×AHU)⊕AHU):=
 if 0<=l/\l<i.1.length then
 bif decide (q<((i.1.getD l.toNat Ag.zero).2.2.2.2.2.1.length:Int))then
 if 0<=l/\l<i.1.length then
 if 0<=q/\q<(i.1.getD l.toNat Ag.zero).2.2.2.2.2.1.length then
 if(0:Int)<=((i.1.getD l.toNat Ag.zero).2.2.2.2.2.1.getD q.toNat AIa.zero)/\((i.1.getD l.toNat Ag.zero).2.2.2.2.2.1.getD q.toNat AIa.zero)<(s.length:Int)then
 some (.inl (wI (q+1),s.set ((i.1.getD l.toNat Ag.zero).2.2.2.2.2.1.getD q.toNat AIa.zero).toNat true))
 else none
 else none
 else none
 else
 some (.inr s)
 else none
def GM g l i n (z_:Int×AHU):=JH g l i n z_.1 z_.2
def Ms g l i n q s:=fix (GM g l i n) (q,s)
theorem Asp g l i n:A5 E30 0 16 (cd f187 1012) 830 (Aqa g l i n) (GM g l i n) (An2 g l i n):=by
 intro _;simp only[GM,JH,AHE];kernel_rfl
def JI(g:AHY)(i:AHR)(l:Int)(t:AHT)(u:AHU):Option ((Int×AHT×AHU)⊕((AHU×AHT)⊕(AHU×AHT))):=
 bif decide (l<(i.1.length:Int))then
 if 0<=l/\l<i.1.length then
 (LG g (i.1.getD l.toNat Ag.zero) l).bind λv=>bif !v then
 some (.inr (.inl (u,t)))
 else
 if 0<=l/\l<i.1.length then
 (LH g (i.1.getD l.toNat Ag.zero) t).bind λw=>bif !(Bz w 1 4096)then
 some (.inr (.inl (u,t)))
 else
 if(t.length+([w]:AHT).length)*8<=140737488355328 then
 (Ms g l i (t++([w]:AHT)) 0 u).bind λo=>some (.inl (wI (l+1),t++([w]:AHT),o))
 else none
 else none
 else none
 else
 some (.inr (.inr (u,t)))
def GN g i (z_:Int×AHT×AHU):=JI g i z_.1 z_.2.1 z_.2.2
def Mt g i l t u:=fix (GN g i) (l,t,u)
theorem Asq g i:A5 E30 0 7 (code f187) 506 (Aqb g i) (GN g i) (An3 g i):=by
 intro _;simp only[GN,JI,AHE];simp(disch:=refine id ?_;kernel_rfl) only[Ms,AF (Asp _ _ _ _) (K:=Ld E30 0 7)];kernel_rfl
def Ap9 g i:=sT 103 [(0,dD AId g),(3,.ptr 0 0 [] 0),(5,.zs)] [.box (dD Ar i)]
def An1 g i:=λ(x:Bool)=>(Ex.normal,sT 103 [(0,dD AId g),(3,.ptr 0 0 [] 0),(5,.zs),(27,dB x)] [.box (dD Ar i)])
def I4(g:AHY)(i:AHR):Option Bool:=
 (HK g).bind λy=>bif !y then
 some true
 else
 bif decide ((i.1.length:Int)<1)then
 some true
 else
 some (decide ((i.1.length:Int)>400))
theorem Aso g i:AZ E30 0 3 (code f187) 28 (Ap9 g i) (I4 g i) (An1 g i):=by
 unfold AZ;simp only[I4,AHE];kernel_rfl
def Kp(g:AHY)(i:AHR):Option AHT:=
 (I4 g i).bind λx=>bif x then
 some ([]:AHT)
 else
 if Ty.row .bool=true/\(0:Int)<=(i.1.length:Int)/\(i.1.length:Int)<=(i.1.length:Int)/\((1:Nat):Int)*(i.1.length:Int)<=(281474976710656:Int)/\(i.1.length:Int)<=(9223372036854775807:Int)then
 (Mt g i 0 ([]:AHT) (List.replicate (i.1.length:Int).toNat false)).bind (Sum.elim (λj=>some ([]:AHT)) (λk=>(QB k.1 k.2 0).bind (Sum.elim (λc=>some ([]:AHT)) (λd=>some k.2))))
 else none
theorem U30 R g i K:AW E30 f187 R [dD AId g,dD Ar i] [] K=(Kp g i).bind λr=>K (.Ak 0) [.row 2 .Ai AIa r]:=by
 simp only[Kp,AHF];simp(disch:=refine id ?_;kernel_rfl) only[Bg (Aso ..) (K:=A4 E30 f187 0 R K),Mt,AF (Asq _ _) (K:=A4 E30 f187 0 R K),QB,AF (Asr _ _) (K:=A4 E30 f187 0 R K)];kernel_rfl
def Avo:=Cx [.d AId,.d Ar] [⟨[.AA [] AId,.AA [] Ar],[],AHT,λp=>Kp p.1.1 p.1.2.1,λr=>(.Ak 0,[.row 2 .Ai AIa r])⟩]
theorem zX:As prog 187 Avo:=Aw ⟨⟨E30,pk ⟨Tj,cf,Aak,Aal,trivial⟩,λ_ _ _=>U30 ..⟩,trivial⟩
abbrev E31:Bd:=⟨A7,Az [(187,Avo)],{Ai:=true}⟩
def Du(a:AHY)(b:AHR):Option Int:=
 (Kp a b).bind λc=>bif (c.length:Int)==0 then
 some (-1)
 else
 if 0<=(wI ((c.length:Int)-1))/\(wI ((c.length:Int)-1))<c.length then
 some (c.getD (wI ((c.length:Int)-1)).toNat AIa.zero)
 else none
theorem U31 R a b K:AW E31 f120 R [dD AId a,dD Ar b] [] K=(Du a b).bind λr=>K (dI r) []:=by
 simp only[Du,AHF];kernel_rfl
def Alo:=Cx [.d AId,.d Ar] [⟨[.AA [] AId,.AA [] Ar],[],Int,λp=>Du p.1.1 p.1.2.1,λr=>(dI r,[])⟩]
theorem mK:As prog 120 Alo:=Aw ⟨⟨E31,pk ⟨zX,trivial⟩,λ_ _ _=>U31 ..⟩,trivial⟩
abbrev E32:Bd:=⟨A7,Az [(52,c52),(119,Aes),(120,Alo)],{Ai:=true,A9:=[(4,{Ap:=[0,1,5]})],BQ:=[(4,{Ap:=[4]})],BP:=[(2,{Ap:=[0,1,14]}),(8,{Ap:=[0,1,5,67]})],D2:=[(2,[0,1]),(8,[0,1,5,6])]}⟩
def Aqf a b (z_:Int):=sT 68 [(0,dD AId a),(1,dD AIi b),(5,dI z_)] []
def An7(a:AHY)(b:AH0):=Sum.elim (λ(c:Unit)=>(Ex.ret,sT 68 [(4,dB false)] [])) (λ(d:Unit)=>(Ex.exit 0,sT 68 [] []))
def Aqe a b e g:=sT 68 [(0,dD AId a),(1,dD AIi b),(5,dI e),(6,dI g)] []
def An6 a b e (g:Int):=λ(i:Bool)=>(Ex.normal,sT 68 [(0,dD AId a),(1,dD AIi b),(5,dI e),(67,dB i)] [])
def GK(a:AHY)(b:AH0)(e g:Int):Option Bool:=
 if 0<=e/\e<b.length then
 bif !(Bz (b.getD e.toNat Af.zero).1 1 1000000)then
 some true
 else
 bif decide (e>0)then
 if 0<=e/\e<b.length then
 if 0<=(wI (e-1))/\(wI (e-1))<b.length then
 bif decide ((b.getD e.toNat Af.zero).1<=(b.getD (wI (e-1)).toNat Af.zero).1)then
 some true
 else
 bif decide (g<0)then
 some true
 else
 if 0<=e/\e<b.length then
 (Du a (b.getD e.toNat Af.zero).2.2.2.1).bind λj=>some (j !=g)
 else none
 else none
 else none
 else
 bif decide (g<0)then
 some true
 else
 if 0<=e/\e<b.length then
 (Du a (b.getD e.toNat Af.zero).2.2.2.1).bind λk=>some (k !=g)
 else none
 else none
theorem Ast a b e g:AZ E32 0 8 (cd f51 116) 50 (Aqe a b e g) (GK a b e g) (An6 a b e g):=by
 unfold AZ;simp only[GK,AHE];kernel_rfl
def HN(a:AHY)(b:AH0)(e:Int):Option (Int⊕(Unit⊕Unit)):=
 bif decide (e<(b.length:Int))then
 if 0<=e/\e<b.length then
 (Du a (b.getD e.toNat Af.zero).2.2.1).bind λg=>(GK a b e g).bind λi=>bif i then
 some (.inr (.inl ()))
 else
 some (.inl (wI (e+1)))
 else none
 else
 some (.inr (.inr ()))
def EJ a b (z_:Int):=HN a b z_
def On a b e:=fix (EJ a b) e
theorem Asu a b:A5 E32 0 4 (code f51) 58 (Aqf a b) (EJ a b) (An7 a b):=by
 intro _;simp only[EJ,HN,AHE];simp(disch:=refine id ?_;kernel_rfl) only[Bg (Ast ..) (K:=Ld E32 0 4)];kernel_rfl
def Aqd a b:=sT 68 [(0,dD AId a),(1,dD AIi b)] []
def An5 a b:=λ(l:Bool)=>(Ex.normal,sT 68 [(0,dD AId a),(1,dD AIi b),(14,dB l)] [])
def GJ(a:AHY)(b:AH0):Option Bool:=
 (HK a).bind λn=>bif !n then
 some true
 else
 some (decide ((b.length:Int)>60))
theorem Ass a b:AZ E32 0 2 (code f51) 12 (Aqd a b) (GJ a b) (An5 a b):=by
 unfold AZ;simp only[GJ,AHE];kernel_rfl
def DZ(a:AHY)(b:AH0):Option Bool:=
 (GJ a b).bind λl=>bif l then
 some false
 else
 (On a b 0).bind (Sum.elim (λc=>some false) (λd=>some true))
theorem U32 R a b K:AW E32 f51 R [dD AId a,dD AIi b] [] K=(DZ a b).bind λr=>K (dB r) []:=by
 simp only[DZ,AHF];simp(disch:=refine id ?_;kernel_rfl) only[Bg (Ass ..) (K:=A4 E32 f51 0 R K),On,AF (Asu _ _) (K:=A4 E32 f51 0 R K)];kernel_rfl
def c51:=Cx [.d AId,.d AIi] [⟨[.AA [] AId,.AA [] AIi],[],Bool,λp=>DZ p.1.1 p.1.2.1,λr=>(dB r,[])⟩]
theorem jH:As prog 51 c51:=Aw ⟨⟨E32,pk ⟨Tj,cf,mK,trivial⟩,λ_ _ _=>U32 ..⟩,trivial⟩
abbrev ZR:Bd:=⟨A7,Az [(188,Aey)],{Ai:=true,A9:=[(5,{Ap:=[0,4,7,8],B6:=[(7,false,.row [] 199 Aa true)]}),(10,{Ap:=[4,7,9],B6:=[(7,false,.row [] 199 Aa true)]}),(15,{Ap:=[2,7,10],B6:=[(7,false,.row [] 199 Aa true)]}),(27,{Ap:=[4,7,11,12]}),(40,{Ap:=[2,4,7,15],B6:=[(7,false,.row [] 199 Aa true)]})],BQ:=[(5,{Ap:=[7]}),(10,{Ap:=[7]}),(15,{Ap:=[7]}),(27,{Ap:=[7]}),(40,{Ap:=[7]})],BP:=[(22,{Ap:=[2,4,7,18,84]}),(25,{Ap:=[2,4,7,11]}),(32,{Ap:=[2,4,7,18,116]}),(36,{Ap:=[2,7,13,14]}),(43,{Ap:=[7],B6:=[(7,false,.row [] 199 Aa true)]})],D2:=[(22,[2,4,7,18]),(25,[2,4,7,11]),(32,[2,4,7,18]),(36,[2,4,7,13,14]),(43,[0,2,4,7])]}⟩
def AjB a b c:=sT 167 [(0,dD AId a),(2,dD AIq b),(4,.ptr 0 0 [] 0),(7,.zs)] [.box (dD Ag c)]
def Aik(a:AHY)(b:AH8)(c:AHL):=λ(d:AHW)=>(Ex.normal,sT 167 [(7,.Ak 0)] [.row 199 .Ai Aa d])
def AjA b c (z_:Int×AHW):=sT 167 [(2,dD AIq b),(4,.ptr 0 0 [] 0),(7,.Ak 1),(15,dI z_.1)] [.box (dD Ag c),.row 199 .Ai Aa z_.2]
def Aij(b:AH8)(c:AHL):=λ(e:AHW)=>(Ex.exit 9,sT 167 [(7,.Ak 0)] [.row 199 .Ai Aa e])
def K2(b:AH8)(c:AHL)(g:Int)(i:AHW):Option ((Int×AHW)⊕AHW):=
 bif decide (g<c.2.2.1)then
 if(0:Int)<=(0:Int)/\(0:Int)<(b.length:Int)then
 if(i.length+(b.getD 0 AIh.zero).length)*16<=140737488355328 then
 some (.inl (wI (g+1),i++(b.getD 0 AIh.zero)))
 else none
 else none
 else
 some (.inr i)
def Fc b c (z_:Int×AHW):=K2 b c z_.1 z_.2
def NS b c g i:=fix (Fc b c) (g,i)
theorem Ak6 b c:A5 ZR 0 40 (cd f143 14) 458746 (AjA b c) (Fc b c) (Aij b c):=by
 intro _;simp only[Fc,K2,AHE];kernel_rfl
def Ajz b c j k:=sT 167 [(2,dD AIq b),(4,.ptr 0 0 [] 0),(7,.zs),(13,dI j),(14,dI k)] [.box (dD Ag c)]
def Aii b (c:AHL) j (k:Int):=λ(l:Int)=>(Ex.normal,sT 167 [(2,dD AIq b),(7,.zs),(13,dI j),(14,dI l)] [])
def Ka(b:AH8)(c:AHL)(j k:Int):Option Int:=
 bif c.1==8 then
 if j=(0:Int)then none else
 some (Int.tmod (wI (j-k)) j)
 else
 some k
theorem Ak5 b c j k:AZ ZR 0 36 (cd f143 14) 229366 (Ajz b c j k) (Ka b c j k) (Aii b c j k):=by
 unfold AZ;simp only[Ka,AHE];kernel_rfl
def qJ b (c:AHL):=sT 167 [(2,dD AIq b),(4,.ptr 0 0 [] 0),(7,.zs),(18,dI c.1)] [.box (dD Ag c)]
def qA(b:AH8)(c:AHL)(m0:Bool):Ex×St:=(.normal,sT 167 [(2,dD AIq b),(4,.ptr 0 0 [] 0),(7,.zs),(18,dI c.1),(116,dB m0)] [.box (dD Ag c)])
theorem Ak4 b c:MY ZR 0 32 (cd f143 14) (pt 14334) (qJ b c)=some (qA b c (bif c.1==7 then(c.1==7)else(c.1==8))):=by
 have h0:MY ZR 0 32 (cd f143 14) (pt 14334) (qJ b c) =
 bif c.1==7 then
 some (qA b c (c.1==7))
 else
 some (qA b c (c.1==8)):=by kernel_rfl
 rw[h0];cases (c.1==7)
 ·rfl
 ·rfl
def Ajy c (z_:Int×AHW):=sT 167 [(4,.ptr 0 0 [] 0),(7,.Ak 1),(11,.ptr 2 0 [] 0),(12,dI z_.1)] [.box (dD Ag c),.row 199 .Ai Aa z_.2,.box (.pr (dI (-1)) (.pr (dI 0) .u))]
def Aih(c:AHL):=λ(n:AHW)=>(Ex.exit 7,sT 167 [(7,.Ak 0)] [.row 199 .Ai Aa n])
def K1(c:AHL)(o:Int)(q:AHW):Option ((Int×AHW)⊕AHW):=
 bif decide (o<c.2.2.1)then
 if(q.length+([(-1,0,())]:AHW).length)*16<=140737488355328 then
 some (.inl (wI (o+1),q++([(-1,0,())]:AHW)))
 else none
 else
 some (.inr q)
def Fb c (z_:Int×AHW):=K1 c z_.1 z_.2
def NR c o q:=fix (Fb c) (o,q)
theorem Ak3 c:A5 ZR 0 27 (cd f143 14) 229342 (Ajy c) (Fb c) (Aih c):=by
 intro _;simp only[Fb,K1,AHE];kernel_rfl
def Ajx c s (z_:Int×AHW):=sT 167 [(4,.ptr 0 0 [] 0),(7,.Ak 1),(11,.ptr 2 0 [] 0),(12,dI z_.1)] [.box (dD Ag c),.row 199 .Ai Aa z_.2,.box (dD Aa s)]
def Aig(c:AHL)(s:AHG):=λ(t:AHW)=>(Ex.exit 7,sT 167 [(7,.Ak 0)] [.row 199 .Ai Aa t])
def K0(c:AHL)(s:AHG)(u:Int)(v:AHW):Option ((Int×AHW)⊕AHW):=
 bif decide (u<c.2.2.1)then
 if(v.length+([s]:AHW).length)*16<=140737488355328 then
 some (.inl (wI (u+1),v++([s]:AHW)))
 else none
 else
 some (.inr v)
def Fa c s (z_:Int×AHW):=K0 c s z_.1 z_.2
def NQ c s u v:=fix (Fa c s) (u,v)
theorem Ak2 c s:A5 ZR 0 27 (cd f143 14) 229342 (Ajx c s) (Fa c s) (Aig c s):=by
 intro _;simp only[Fa,K0,AHE];kernel_rfl
def Ajw b c:=sT 167 [(2,dD AIq b),(4,.ptr 0 0 [] 0),(7,.zs),(11,.ptr 1 0 [] 0)] [.box (dD Ag c),.box (.pr (dI (-1)) (.pr (dI 0) .u))]
def Aif b c:=Sum.elim (λ(w:Unit)=>(Ex.normal,sT 167 [(2,dD AIq b),(4,.ptr 0 0 [] 0),(7,.zs),(11,.ptr 1 0 [] 0)] [.box (dD Ag c),.box (dD Aa ((b.getD 0 AIh.zero).getD (wI (((b.getD 0 AIh.zero).length:Int)-1)).toNat Aa.zero))])) (λ(x:Unit)=>(Ex.normal,sT 167 [(2,dD AIq b),(4,.ptr 0 0 [] 0),(7,.zs),(11,.ptr 1 0 [] 0)] [.box (dD Ag c),.box (.pr (dI (-1)) (.pr (dI 0) .u))]))
def Fv(b:AH8)(c:AHL):Option (Unit⊕Unit):=
 bif c.1==6 then
 if(0:Int)<=(0:Int)/\(0:Int)<(b.length:Int)then
 if(0:Int)<=(0:Int)/\(0:Int)<(b.length:Int)then
 if 0<=(wI (((b.getD 0 AIh.zero).length:Int)-1))/\(wI (((b.getD 0 AIh.zero).length:Int)-1))<(b.getD 0 AIh.zero).length then
 some (.inl ())
 else none
 else none
 else none
 else
 some (.inr ())
theorem Ak1 b c:AZ ZR 0 25 (cd f143 14) 28666 (Ajw b c) (Fv b c) (Aif b c):=by
 unfold AZ;simp only[Fv,AHE];kernel_rfl
def qI b (c:AHL):=sT 167 [(2,dD AIq b),(4,.ptr 0 0 [] 0),(7,.zs),(18,dI c.1)] [.box (dD Ag c)]
def qz(b:AH8)(c:AHL)(m0:Bool):Ex×St:=(.normal,sT 167 [(2,dD AIq b),(4,.ptr 0 0 [] 0),(7,.zs),(18,dI c.1),(84,dB m0)] [.box (dD Ag c)])
theorem Ak0 b c:MY ZR 0 22 (cd f143 14) (pt 3582) (qI b c)=some (qz b c (bif c.1==5 then(c.1==5)else(c.1==6))):=by
 have h0:MY ZR 0 22 (cd f143 14) (pt 3582) (qI b c) =
 bif c.1==5 then
 some (qz b c (c.1==5))
 else
 some (qz b c (c.1==6)):=by kernel_rfl
 rw[h0];cases (c.1==5)
 ·rfl
 ·rfl
def Ajv b (z_:Int×AHW):=sT 167 [(2,dD AIq b),(7,.Ak 0),(10,dI z_.1)] [.row 199 .Ai Aa z_.2]
def Aie(b:AH8):=λ(y:AHW)=>(Ex.exit 5,sT 167 [(7,.Ak 0)] [.row 199 .Ai Aa y])
def KZ(b:AH8)(a1:Int)(b1:AHW):Option ((Int×AHW)⊕AHW):=
 bif decide (a1>=0)then
 if 0<=a1/\a1<b.length then
 if(b1.length+(b.getD a1.toNat AIh.zero).length)*16<=140737488355328 then
 some (.inl (wI (a1-1),b1++(b.getD a1.toNat AIh.zero)))
 else none
 else none
 else
 some (.inr b1)
def Dv b (z_:Int×AHW):=KZ b z_.1 z_.2
def NP b a1 b1:=fix (Dv b) (a1,b1)
theorem AkZ b:A5 ZR 0 15 (cd f143 14) 1786 (Ajv b) (Dv b) (Aie b):=by
 intro _;simp only[Dv,KZ,AHE];kernel_rfl
def Aju c (z_:Int×AHW):=sT 167 [(4,.ptr 0 0 [] 0),(7,.Ak 1),(9,dI z_.1)] [.box (dD Ag c),.row 199 .Ai Aa z_.2]
def Aid(c:AHL):=λ(c1:AHW)=>(Ex.exit 3,sT 167 [(7,.Ak 0)] [.row 199 .Ai Aa c1])
def KY(c:AHL)(d1:Int)(e1:AHW):Option ((Int×AHW)⊕AHW):=
 bif decide (d1<c.2.2.2.2.1.1)then
 (GL c.2.2.2.2.1 d1).bind λg1=>if(e1.length+([(-1,wI g1,())]:AHW).length)*16<=140737488355328 then
 some (.inl (wI (d1+1),e1++([(-1,wI g1,())]:AHW)))
 else none
 else
 some (.inr e1)
def EZ c (z_:Int×AHW):=KY c z_.1 z_.2
def NN c d1 e1:=fix (EZ c) (d1,e1)
theorem AkY c:A5 ZR 0 10 (cd f143 14) 442 (Aju c) (EZ c) (Aid c):=by
 intro _;simp only[EZ,KY,AHE];kernel_rfl
def Ajt a c (z_:Int×AHW):=sT 167 [(0,dD AId a),(4,.ptr 0 0 [] 0),(7,.Ak 1),(8,dI z_.1)] [.box (dD Ag c),.row 199 .Ai Aa z_.2]
def Aic(a:AHY)(c:AHL):=λ(i1:AHW)=>(Ex.exit 1,sT 167 [(7,.Ak 0)] [.row 199 .Ai Aa i1])
def KX(a:AHY)(c:AHL)(j1:Int)(k1:AHW):Option ((Int×AHW)⊕AHW):=
 if(0:Int)<=c.2.1/\c.2.1<(a.length:Int)then
 bif decide (j1<(a.getD c.2.1.toNat Ad.zero).2.1)then
 if(k1.length+([(c.2.1,j1,())]:AHW).length)*16<=140737488355328 then
 some (.inl (wI (j1+1),k1++([(c.2.1,j1,())]:AHW)))
 else none
 else
 some (.inr k1)
 else none
def EY a c (z_:Int×AHW):=KX a c z_.1 z_.2
def NL a c j1 k1:=fix (EY a c) (j1,k1)
theorem AkX a c:A5 ZR 0 5 (cd f143 14) 106 (Ajt a c) (EY a c) (Aic a c):=by
 intro _;simp only[EY,KX,AHE];kernel_rfl
def NT(a:AHY)(b:AH8)(c:AHL):Option AHW:=
 bif c.1==1 then
 (NL a c 0 ([]:AHW)).bind λi1=>some i1
 else
 bif c.1==2 then
 (NN c 0 ([]:AHW)).bind λc1=>some c1
 else
 bif c.1==3 then
 (NP b (wI ((b.length:Int)-1)) ([]:AHW)).bind λy=>some y
 else
 bif c.1==4 then
 if(0:Int)<=(0:Int)/\(0:Int)<(b.length:Int)then
 if(0:Int)<=c.2.2.2.1/\c.2.2.2.1<=(wI (c.2.2.1+1))/\(wI (c.2.2.1+1))<=((b.getD 0 AIh.zero).length:Int)then
 if(((b.getD 0 AIh.zero).take (wI (c.2.2.1+1)).toNat).drop c.2.2.2.1.toNat).length*16<=140737488355328 then
 some (((b.getD 0 AIh.zero).take (wI (c.2.2.1+1)).toNat).drop c.2.2.2.1.toNat)
 else none
 else none
 else none
 else
 P2 (qI b c) (
 bif bif (c.1==5)then(c.1==5)else(c.1==6)then
 (Fv b c).bind (Sum.elim (λw=>if(0:Int)<=(0:Int)/\(0:Int)<(b.length:Int)then
 if(b.getD 0 AIh.zero).length*16<=140737488355328 then
 (NQ c ((b.getD 0 AIh.zero).getD (wI (((b.getD 0 AIh.zero).length:Int)-1)).toNat Aa.zero) 0 (b.getD 0 AIh.zero)).bind λt=>some t
 else none
 else none) (λx=>if(0:Int)<=(0:Int)/\(0:Int)<(b.length:Int)then
 if(b.getD 0 AIh.zero).length*16<=140737488355328 then
 (NR c 0 (b.getD 0 AIh.zero)).bind λn=>some n
 else none
 else none))
 else
 P2 (qJ b c) (
 bif bif (c.1==7)then(c.1==7)else(c.1==8)then
 if(0:Int)<=(0:Int)/\(0:Int)<(b.length:Int)then
 if((b.getD 0 AIh.zero).length:Int)=(0:Int)then none else
 (Ka b c ((b.getD 0 AIh.zero).length:Int) (Int.tmod c.2.2.1 ((b.getD 0 AIh.zero).length:Int))).bind λl=>if(0:Int)<=(0:Int)/\(0:Int)<(b.length:Int)then
 if(0:Int)<=(wI (((b.getD 0 AIh.zero).length:Int)-l))/\(wI (((b.getD 0 AIh.zero).length:Int)-l))<=((b.getD 0 AIh.zero).length:Int)/\((b.getD 0 AIh.zero).length:Int)<=((b.getD 0 AIh.zero).length:Int)then
 if(((b.getD 0 AIh.zero).take ((b.getD 0 AIh.zero).length:Int).toNat).drop (wI (((b.getD 0 AIh.zero).length:Int)-l)).toNat).length*16<=140737488355328 then
 if(0:Int)<=(0:Int)/\(0:Int)<(b.length:Int)then
 if(0:Int)<=(0:Int)/\(0:Int)<=(wI (((b.getD 0 AIh.zero).length:Int)-l))/\(wI (((b.getD 0 AIh.zero).length:Int)-l))<=((b.getD 0 AIh.zero).length:Int)then
 if((((b.getD 0 AIh.zero).take ((b.getD 0 AIh.zero).length:Int).toNat).drop (wI (((b.getD 0 AIh.zero).length:Int)-l)).toNat).length+(((b.getD 0 AIh.zero).take (wI (((b.getD 0 AIh.zero).length:Int)-l)).toNat).drop 0).length)*16<=140737488355328 then
 some ((((b.getD 0 AIh.zero).take ((b.getD 0 AIh.zero).length:Int).toNat).drop (wI (((b.getD 0 AIh.zero).length:Int)-l)).toNat)++(((b.getD 0 AIh.zero).take (wI (((b.getD 0 AIh.zero).length:Int)-l)).toNat).drop 0))
 else none
 else none
 else none
 else none
 else none
 else none
 else none
 else
 bif c.1==9 then
 (NS b c 0 ([]:AHW)).bind λe=>some e
 else
 some ([]:AHW)))
theorem Ak7 a b c:AZ ZR 0 43 (code f143) 14 (AjB a b c) (NT a b c) (Aik a b c):=by
 unfold AZ;simp only[NT,AHE];simp(disch:=refine id ?_;kernel_rfl) only[NL,AF (AkX _ _) (K:=Te ZR 0 43),NN,AF (AkY _) (K:=Te ZR 0 43),NP,AF (AkZ _) (K:=Te ZR 0 43),F4 (Ak0 ..) (K:=Te ZR 0 43),Bg (Ak1 ..) (K:=Te ZR 0 43),NQ,AF (Ak2 _ _) (K:=Te ZR 0 43),NR,AF (Ak3 _) (K:=Te ZR 0 43),F4 (Ak4 ..) (K:=Te ZR 0 43),Bg (Ak5 ..) (K:=Te ZR 0 43),NS,AF (Ak6 _ _) (K:=Te ZR 0 43)];kernel_rfl
def OO(a:AHY)(c:AHL)(b:AH8):Option AHW:=
 (NT a b c).bind λd=>some d
theorem U33 R a c b K:AW ZR f143 R [dD AId a,dD Ag c,dD AIq b] [] K=(OO a c b).bind λr=>K (.Ak 0) [.row 199 .Ai Aa r]:=by
 simp only[OO,AHF];simp(disch:=refine id ?_;kernel_rfl) only[Bg (Ak7 ..) (K:=A4 ZR f143 0 R K)];kernel_rfl
def AuT:=Cx [.d AId,.d Ag,.d AIq] [⟨[.AA [] AId,.AA [] Ag,.AA [] AIq],[],AHW,λp=>OO p.1.1 p.1.2.1 p.1.2.2.1,λr=>(.Ak 0,[.row 199 .Ai Aa r])⟩]
theorem zp:As prog 143 AuT:=Aw ⟨⟨ZR,pk ⟨cj,trivial⟩,λ_ _ _=>U33 ..⟩,trivial⟩
abbrev E34:Bd:=⟨A7,Az [],{Ai:=true,A9:=[(5,{Ap:=[0,2,4,5]})],BQ:=[(5,{Ap:=[2,4]})],BP:=[(2,{Ap:=[0,2,13]})],D2:=[(2,[0,2])],dT:=[(0,.row [1] 216 AIb true)]}⟩
def Aqg a b (z_:Int×AHT):=sT 51 [(0,dD AIm a),(2,.ptr 0 0 [] 0),(4,.ptr 1 0 [] 0),(5,dI z_.1)] [.box (.pr (dI 0) (.pr .zs .u)),.box (.pr (dI b) (.pr (.Ak 2) .u)),.row 216 .Ai AIb z_.2]
def An8(a:AHT) b:=λ(c:AHT)=>(Ex.exit 0,sT 51 [(2,.ptr 0 0 [] 0),(4,.ptr 1 0 [] 0)] [.box (.pr (dI 0) (.pr .zs .u)),.box (.pr (dI b) (.pr (.Ak 2) .u)),.row 216 .Ai AIb c])
def Mn(a:AHT)(b d:Int)(e:AHT):Option ((Int×AHT)⊕AHT):=
 bif decide (d<(a.length:Int))then
 if 0<=(wI (Int.tdiv d 64))/\(wI (Int.tdiv d 64))<e.length then
 if 0<=d/\d<a.length then
 if(IntKind.u64.wrap (Int.tmod d 64))<(0:Int)then none else
 if 0<=(wI (Int.tdiv d 64))/\(wI (Int.tdiv d 64))<e.length then
 some (.inl (wI (d+1),e.set (wI (Int.tdiv d 64)).toNat (aO .u64 (e.getD (wI (Int.tdiv d 64)).toNat AIb.zero) (Nl .u64 (IntKind.u64.wrap (a.getD d.toNat AIc.zero)) (IntKind.u64.wrap (Int.tmod d 64))))))
 else none
 else none
 else none
 else
 some (.inr e)
def I1 a b (z_:Int×AHT):=Mn a b z_.1 z_.2
def SX a b d e:=fix (I1 a b) (d,e)
theorem Asw a b:A5 E34 0 5 (code f111) 122 (Aqg a b) (I1 a b) (An8 a b):=by
 intro _;simp only[I1,Mn,AHE];kernel_rfl
def yr a:=sT 51 [(0,dD AIm a),(2,.ptr 0 0 [] 0)] [.box (.pr (dI 0) (.pr .zs .u))]
def xR(a:AHT)(m0:Bool):Ex×St:=(.normal,sT 51 [(0,dD AIm a),(2,.ptr 0 0 [] 0),(13,dB m0)] [.box (.pr (dI 0) (.pr .zs .u))])
theorem Asv a:MY E34 0 2 (code f111) (pt 12) (yr a)=some (xR a ((decide ((a.length:Int)<1))||(decide ((a.length:Int)>4096)))):=by
 have h0:MY E34 0 2 (code f111) (pt 12) (yr a) =
 bif decide ((a.length:Int)<1)then
 some (xR a true)
 else
 some (xR a (decide ((a.length:Int)>4096))):=by kernel_rfl
 rw[h0];cases (decide ((a.length:Int)<1))
 ·rfl
 ·rfl
def LC(a:AHT):Option (Int×Bool×AHT):=
 P2 (yr a) (
 bif (decide ((a.length:Int)<1))||(decide ((a.length:Int)>4096))then
 some (0,false,([]:AHT))
 else
 if Ty.row AIb=true/\(0:Int)<=(wI (Int.tdiv (wI ((a.length:Int)+63)) 64))/\(wI (Int.tdiv (wI ((a.length:Int)+63)) 64))<=(wI (Int.tdiv (wI ((a.length:Int)+63)) 64))/\((8:Nat):Int)*(wI (Int.tdiv (wI ((a.length:Int)+63)) 64))<=(281474976710656:Int)/\(wI (Int.tdiv (wI ((a.length:Int)+63)) 64))<=(9223372036854775807:Int)then
 (SX a (a.length:Int) 0 (List.replicate (wI (Int.tdiv (wI ((a.length:Int)+63)) 64)).toNat 0)).bind λc=>some ((a.length:Int),true,c)
 else none)
theorem U34 R a K:AW E34 f111 R [dD AIm a] [] K=(LC a).bind λr=>K (.cons (.pr (dI r.1) (.pr (.Ak 0) .u)) (.cons (dB r.2.1) .nil)) [.row 216 .Ai AIb r.2.2]:=by
 simp only[LC,AHF];simp(disch:=refine id ?_;kernel_rfl) only[F4 (Asv _) (K:=A4 E34 f111 0 R K),SX,AF (Asw _ _) (K:=A4 E34 f111 0 R K)];kernel_rfl
def Alm:=Cx [.d AIm] [⟨[.AA [] AIm],[],Int×Bool×AHT,λp=>LC p.1.1,λr=>(.cons (.pr (dI r.1) (.pr (.Ak 0) .u)) (.cons (dB r.2.1) .nil),[.row 216 .Ai AIb r.2.2])⟩]
theorem mH:As prog 111 Alm:=Aw ⟨⟨E34,pk trivial,λ_ _ _=>U34 ..⟩,trivial⟩
abbrev sO:Bd:=⟨A7,Az [(111,Alm)],{Ai:=true,A9:=[(3,{Ap:=[0,4,5],B6:=[(4,false,.row [] 238 Ae true)]}),(7,{Ap:=[0,4,6,7]}),(12,{Ap:=[0,4,5,6]})],BQ:=[(3,{Ap:=[4]}),(7,{Ap:=[0,4,6,7],Rj:=[(7,false,AIm)]}),(12,{Ap:=[0,4,5,6]})],BP:=[(8,{Ap:=[0,4,6,7]}),(13,{Ap:=[0,4,5,6]}),(15,{Ap:=[0,4,6]})],D2:=[(8,[0,4,6,7]),(13,[0,4,5,6]),(15,[0,4,5,6])]}⟩
def AjC a (z_:Int×AHZ):=sT 121 [(0,dD AIh a),(4,.Ak 0),(5,dI z_.1)] [.row 238 .Ai Ae z_.2]
def Ail(a:AHW):=λ(b:AHZ)=>(Ex.exit 0,sT 121 [(4,.Ak 0)] [.row 238 .Ai Ae b])
def Aql a c d e:=sT 121 [(0,dD AIh a),(4,.Ak 0),(5,dI c),(6,dI e)] [.row 238 .Ai Ae d]
def Aod a (c:Int) (d:AHZ) (e:Int):=λ(g:(Int×AHZ))=>(Ex.normal,sT 121 [(0,dD AIh a),(4,.Ak 0),(6,dI g.1)] [.row 238 .Ai Ae g.2])
def Aqk a c d (z_:Int):=sT 121 [(0,dD AIh a),(4,.Ak 0),(5,dI c),(6,dI z_)] [.row 238 .Ai Ae d]
def Aoc a c d:=λ(i:Int)=>(Ex.exit 4,sT 121 [(0,dD AIh a),(4,.Ak 0),(5,dI c),(6,dI i)] [.row 238 .Ai Ae d])
def Aqj a c j d:=sT 121 [(0,dD AIh a),(4,.Ak 0),(5,dI c),(6,dI j)] [.row 238 .Ai Ae d]
def Aob a c j d:=Sum.elim (λ(k:Unit)=>(Ex.normal,sT 121 [(0,dD AIh a),(4,.Ak 0),(5,dI c),(6,dI j)] [.row 238 .Ai Ae d])) (λ(l:Unit)=>(Ex.exit 4,sT 121 [(0,dD AIh a),(4,.Ak 0),(5,dI c),(6,dI j)] [.row 238 .Ai Ae d]))
def PI(a:AHW)(c j:Int)(d:AHZ):Option (Unit⊕Unit):=
 bif decide (j<(a.length:Int))then
 if 0<=j/\j<a.length then
 if 0<=c/\c<a.length then
 bif (a.getD j.toNat Aa.zero).1==(a.getD c.toNat Aa.zero).1 then
 if 0<=j/\j<a.length then
 if 0<=(wI (j-1))/\(wI (j-1))<a.length then
 bif (a.getD j.toNat Aa.zero).2.1==(wI ((a.getD (wI (j-1)).toNat Aa.zero).2.1+1))then
 some (.inl ())
 else
 some (.inr ())
 else none
 else none
 else
 some (.inr ())
 else none
 else none
 else
 some (.inr ())
theorem Asz a c j d:AZ sO 0 13 (sb (sb (cd f144 120) 26) 56) 2 (Aqj a c j d) (PI a c j d) (Aob a c j d):=by
 unfold AZ;simp only[PI,AHE];kernel_rfl
def QD(a:AHW)(c:Int)(d:AHZ)(j:Int):Option (Int⊕Int):=
 (PI a c j d).bind (Sum.elim (λk=>some (.inl (wI (j+1)))) (λl=>some (.inr j)))
def Mx a c d (z_:Int):=QD a c d z_
def PK a c d j:=fix (Mx a c d) j
theorem AsA a c d:A5 sO 0 12 (sb (cd f144 120) 26) 28 (Aqk a c d) (Mx a c d) (Aoc a c d):=by
 intro _;simp only[Mx,QD,AHE];simp(disch:=refine id ?_;kernel_rfl) only[Bg (Asz ..) (K:=Ld sO 0 12)];kernel_rfl
def Aqi a d (z_:Int×AHT):=sT 121 [(0,dD AIh a),(4,.Ak 0),(6,dI z_.1),(7,.Ak 1)] [.row 238 .Ai Ae d,.row 5 .Ai AIc z_.2]
def Aoa a d:=λ(n:(Int×AHT))=>(Ex.exit 2,sT 121 [(0,dD AIh a),(4,.Ak 0),(6,dI n.1),(7,dD AIm n.2)] [.row 238 .Ai Ae d])
def Aqh a o d q:=sT 121 [(0,dD AIh a),(4,.Ak 0),(6,dI o),(7,.Ak 1)] [.row 238 .Ai Ae d,.row 5 .Ai AIc q]
def An9 a o d q:=Sum.elim (λ(s:Unit)=>(Ex.normal,sT 121 [(0,dD AIh a),(4,.Ak 0),(6,dI o),(7,.Ak 1)] [.row 238 .Ai Ae d,.row 5 .Ai AIc q])) (λ(t:Unit)=>(Ex.exit 2,sT 121 [(0,dD AIh a),(4,.Ak 0),(6,dI o),(7,.Ak 1)] [.row 238 .Ai Ae d,.row 5 .Ai AIc q]))
def PG(a:AHW)(o:Int)(d:AHZ)(q:AHT):Option (Unit⊕Unit):=
 bif decide (o<(a.length:Int))then
 if 0<=o/\o<a.length then
 bif decide ((a.getD o.toNat Aa.zero).1<0)then
 some (.inl ())
 else
 some (.inr ())
 else none
 else
 some (.inr ())
theorem Asx a o d q:AZ sO 0 8 (sb (sb (cd f144 120) 26) 104) 2 (Aqh a o d q) (PG a o d q) (An9 a o d q):=by
 unfold AZ;simp only[PG,AHE];kernel_rfl
def QC(a:AHW)(d:AHZ)(o:Int)(q:AHT):Option ((Int×AHT)⊕(Int×AHT)):=
 (PG a o d q).bind (Sum.elim (λs=>if 0<=o/\o<a.length then
 if(q.length+([IntKind.u8.wrap (a.getD o.toNat Aa.zero).2.1]:AHT).length)*1<=140737488355328 then
 some (.inl (wI (o+1),q++([IntKind.u8.wrap (a.getD o.toNat Aa.zero).2.1]:AHT)))
 else none
 else none) (λt=>some (.inr (o,q))))
def Mw a d (z_:Int×AHT):=QC a d z_.1 z_.2
def PH a d o q:=fix (Mw a d) (o,q)
theorem Asy a d:A5 sO 0 7 (sb (cd f144 120) 26) 52 (Aqi a d) (Mw a d) (Aoa a d):=by
 intro _;simp only[Mw,QC,AHE];simp(disch:=refine id ?_;kernel_rfl) only[Bg (Asx ..) (K:=Ld sO 0 7)];kernel_rfl
def PL(a:AHW)(c:Int)(d:AHZ)(e:Int):Option (Int×AHZ):=
 if 0<=c/\c<a.length then
 bif decide ((a.getD c.toNat Aa.zero).1<0)then
 if 0<=c/\c<a.length then
 (PH a d e ([IntKind.u8.wrap (a.getD c.toNat Aa.zero).2.1]:AHT)).bind λn=>(LC n.2).bind λu=>if(d.length+([(-1,0,u.1,(u.1,u.2.2,()),())]:AHZ).length)*56<=140737488355328 then
 some (n.1,d++([(-1,0,u.1,(u.1,u.2.2,()),())]:AHZ))
 else none
 else none
 else
 (PK a c d e).bind λi=>if 0<=c/\c<a.length then
 if 0<=c/\c<a.length then
 if(d.length+([((a.getD c.toNat Aa.zero).1,(a.getD c.toNat Aa.zero).2.1,wI (i-c),(0,([]:AHT),()),())]:AHZ).length)*56<=140737488355328 then
 some (i,d++([((a.getD c.toNat Aa.zero).1,(a.getD c.toNat Aa.zero).2.1,wI (i-c),(0,([]:AHT),()),())]:AHZ))
 else none
 else none
 else none
 else none
theorem AsB a c d e:AZ sO 0 15 (cd f144 120) 26 (Aql a c d e) (PL a c d e) (Aod a c d e):=by
 unfold AZ;simp only[PL,AHE];simp(disch:=refine id ?_;kernel_rfl) only[PH,AF (Asy _ _) (K:=Te sO 0 15),PK,AF (AsA _ _ _) (K:=Te sO 0 15)];kernel_rfl
def PF(a:AHW)(c:Int)(d:AHZ):Option ((Int×AHZ)⊕AHZ):=
 bif decide (c<(a.length:Int))then
 (PL a c d (wI (c+1))).bind λg=>some (.inl (g.1,g.2))
 else
 some (.inr d)
def KW a (z_:Int×AHZ):=PF a z_.1 z_.2
def RG a c d:=fix (KW a) (c,d)
theorem Ak8 a:A5 sO 0 3 (code f144) 60 (AjC a) (KW a) (Ail a):=by
 intro _;simp only[KW,PF,AHE];simp(disch:=refine id ?_;kernel_rfl) only[Bg (AsB ..) (K:=Ld sO 0 3)];kernel_rfl
def OM(a:AHW):Option (Bool×AHZ):=
 (RG a 0 ([]:AHZ)).bind λb=>some (decide ((b.length:Int)<=2000),b)
theorem U35 R a K:AW sO f144 R [dD AIh a] [] K=(OM a).bind λr=>K (.cons (.Ak 0) (.cons (dB r.1) .nil)) [.row 238 .Ai Ae r.2]:=by
 simp only[OM,AHF];simp(disch:=refine id ?_;kernel_rfl) only[RG,AF (Ak8 _) (K:=A4 sO f144 0 R K)];kernel_rfl
def AuU:=Cx [.d AIh] [⟨[.AA [] AIh],[],Bool×AHZ,λp=>OM p.1.1,λr=>(.cons (.Ak 0) (.cons (dB r.1) .nil),[.row 238 .Ai Ae r.2])⟩]
theorem zq:As prog 144 AuU:=Aw ⟨⟨sO,pk ⟨mH,trivial⟩,λ_ _ _=>U35 ..⟩,trivial⟩
abbrev E36:Bd:=⟨A7,Az [(120,Alo),(143,AuT),(144,AuU)],{A9:=[(6,{Ap:=[0,3,6,7,8],B6:=[(6,false,.row [] 124 AIh false),(7,false,.row [] 238 Ae true)]}),(10,{Ap:=[0,3,6,8,9,10],B6:=[(9,false,.row [] 124 AIh false)]})],BQ:=[(6,{Ap:=[4,5,7]}),(10,{Ap:=[0,3,6,8,9],Rj:=[(9,false,AIq)]})],dT:=[(0,.row [] 238 Ae true)]}⟩
def Aqn a b (z_:Int×AH8×AHZ):=sT 77 [(0,dD AId a),(3,.ptr 0 0 [] 0),(6,.Ak 1),(7,.Ak 2),(8,dI z_.1)] [.box (dD Ar b),.row 124 (.sh []) AIh z_.2.1,.row 238 .Ai Ae z_.2.2]
def Aof(a:AHY)(b:AHR):=Sum.elim (λ(c:Unit)=>(Ex.ret,sT 77 [(4,.zs),(5,dB false)] [])) (λ(d:AHZ)=>(Ex.exit 0,sT 77 [(7,.Ak 0)] [.row 238 .Ai Ae d]))
def Aqm a e b g (z_:Int×AH8):=sT 77 [(0,dD AId a),(3,.ptr 0 0 [] 0),(6,.Ak 1),(8,dI e),(9,.Ak 2),(10,dI z_.1)] [.box (dD Ar b),.row 124 (.sh []) AIh g,.row 124 (.sh []) AIh z_.2]
def Aoe a e b g:=λ(i:AH8)=>(Ex.exit 2,sT 77 [(0,dD AId a),(3,.ptr 0 0 [] 0),(6,.Ak 1),(8,dI e),(9,dD AIq i)] [.box (dD Ar b),.row 124 (.sh []) AIh g])
def KT(a:AHY)(e:Int)(b:AHR)(g:AH8)(j:Int)(k:AH8):Option ((Int×AH8)⊕AH8):=
 if 0<=e/\e<b.1.length then
 bif decide (j<((b.1.getD e.toNat Ag.zero).2.2.2.2.2.1.length:Int))then
 if 0<=e/\e<b.1.length then
 if 0<=j/\j<(b.1.getD e.toNat Ag.zero).2.2.2.2.2.1.length then
 if(0:Int)<=((b.1.getD e.toNat Ag.zero).2.2.2.2.2.1.getD j.toNat AIa.zero)/\((b.1.getD e.toNat Ag.zero).2.2.2.2.2.1.getD j.toNat AIa.zero)<(g.length:Int)then
 if(k.length+([g.getD ((b.1.getD e.toNat Ag.zero).2.2.2.2.2.1.getD j.toNat AIa.zero).toNat AIh.zero]:AH8).length)*24<=140737488355328 then
 some (.inl (wI (j+1),k++([g.getD ((b.1.getD e.toNat Ag.zero).2.2.2.2.2.1.getD j.toNat AIa.zero).toNat AIh.zero]:AH8)))
 else none
 else none
 else none
 else none
 else
 some (.inr k)
 else none
def EX a e b g (z_:Int×AH8):=KT a e b g z_.1 z_.2
def NH a e b g j k:=fix (EX a e b g) (j,k)
theorem AsC a e b g:A5 E36 0 10 (cd f73 500) 202 (Aqm a e b g) (EX a e b g) (Aoe a e b g):=by
 intro _;simp only[EX,KT,AHE];kernel_rfl
def Pu(a:AHY)(b:AHR)(e:Int)(g:AH8)(l:AHZ):Option ((Int×AH8×AHZ)⊕(Unit⊕AHZ)):=
 bif decide (e<(b.1.length:Int))then
 (NH a e b g 0 ([]:AH8)).bind λi=>if 0<=e/\e<b.1.length then
 (OO a (b.1.getD e.toNat Ag.zero) i).bind λn=>(OM n).bind λo=>bif !o.1 then
 some (.inr (.inl ()))
 else
 if(g.length+([n]:AH8).length)*24<=140737488355328 then
 some (.inl (wI (e+1),g++([n]:AH8),o.2))
 else none
 else none
 else
 some (.inr (.inr l))
def KU a b (z_:Int×AH8×AHZ):=Pu a b z_.1 z_.2.1 z_.2.2
def RE a b e g l:=fix (KU a b) (e,g,l)
theorem AsD a b:A5 E36 0 6 (code f73) 250 (Aqn a b) (KU a b) (Aof a b):=by
 intro _;simp only[KU,Pu,AHE];simp(disch:=refine id ?_;kernel_rfl) only[NH,AF (AsC _ _ _ _) (K:=Ld E36 0 6)];kernel_rfl
def CM(a:AHY)(b:AHR):Option (Bool×AHZ):=
 (Du a b).bind λq=>bif decide (q<0)then
 some (false,([]:AHZ))
 else
 (RE a b 0 ([]:AH8) ([]:AHZ)).bind (Sum.elim (λc=>some (false,([]:AHZ))) (λd=>some (true,d)))
theorem U36 R a b K:AW E36 f73 R [dD AId a,dD Ar b] [] K=(CM a b).bind λr=>K (.cons (.Ak 0) (.cons (dB r.1) .nil)) [.row 238 .Ai Ae r.2]:=by
 simp only[CM,AHF];simp(disch:=refine id ?_;kernel_rfl) only[RE,AF (AsD _ _) (K:=A4 E36 f73 0 R K)];kernel_rfl
def c73:=Cx [.d AId,.d Ar] [⟨[.AA [] AId,.AA [] Ar],[],Bool×AHZ,λp=>CM p.1.1 p.1.2.1,λr=>(.cons (.Ak 0) (.cons (dB r.1) .nil),[.row 238 .Ai Ae r.2])⟩]
theorem tw:As prog 73 c73:=Aw ⟨⟨E36,pk ⟨mK,zp,zq,trivial⟩,λ_ _ _=>U36 ..⟩,trivial⟩
abbrev E37:Bd:=⟨A7,Az [(73,c73)],{Ai:=true,A9:=[(3,{Ap:=[0,1,6,7],B6:=[(6,false,.row [] 121 AIe true)]})],BQ:=[(3,{Ap:=[4,5,6]})],BP:=[(8,{Ap:=[0,1,6,7,8,10,44]})],D2:=[(8,[0,1,6,7,8,9,10,11])]}⟩
def Aqo a b (z_:Int×AH9):=sT 52 [(0,dD AId a),(1,dD AIi b),(6,.Ak 0),(7,dI z_.1)] [.row 121 .Ai AIe z_.2]
def Aog(a:AHY)(b:AH0):=Sum.elim (λ(c:AH9)=>(Ex.ret,sT 52 [(4,.Ak 0),(5,dB false),(6,.Ak 0)] [.row 121 .Ai AIe c])) (λ(d:AH9)=>(Ex.exit 0,sT 52 [(6,.Ak 0)] [.row 121 .Ai AIe d]))
def yu a b e (g:(Bool×AHZ)) (i:(Bool×AHZ)) j:=sT 52 [(0,dD AId a),(1,dD AIi b),(6,.Ak 0),(7,dI e),(8,.Ak 1),(9,dB g.1),(10,.Ak 2),(11,dB i.1)] [.row 121 .Ai AIe j,.row 238 .Ai Ae g.2,.row 238 .Ai Ae i.2]
def xS(a:AHY)(b:AH0)(e:Int)(g i:Bool×AHZ)(j:AH9)(m0:Bool):Ex×St:=(.normal,sT 52 [(0,dD AId a),(1,dD AIi b),(6,.Ak 0),(7,dI e),(8,.Ak 1),(10,.Ak 2),(44,dB m0)] [.row 121 .Ai AIe j,.row 238 .Ai Ae g.2,.row 238 .Ai Ae i.2])
theorem AsE a b e g i j:MY E37 0 8 (cd f53 116) (pt 204) (yu a b e g i j)=some (xS a b e g i j ((!g.1)||(!i.1))):=by
 have h0:MY E37 0 8 (cd f53 116) (pt 204) (yu a b e g i j) =
 bif !g.1 then
 some (xS a b e g i j true)
 else
 some (xS a b e g i j (!i.1)):=by kernel_rfl
 rw[h0];cases (!g.1)
 ·rfl
 ·rfl
def PU(a:AHY)(b:AH0)(e:Int)(j:AH9):Option ((Int×AH9)⊕(AH9⊕AH9)):=
 bif decide (e<(b.length:Int))then
 if 0<=e/\e<b.length then
 (CM a (b.getD e.toNat Af.zero).2.2.1).bind λg=>if 0<=e/\e<b.length then
 (CM a (b.getD e.toNat Af.zero).2.2.2.1).bind λi=>P2 (yu a b e g i j) (
 bif (!g.1)||(!i.1)then
 some (.inr (.inl j))
 else
 if(j.length+([g.2,i.2]:AH9).length)*24<=140737488355328 then
 some (.inl (wI (e+1),j++([g.2,i.2]:AH9)))
 else none)
 else none
 else none
 else
 some (.inr (.inr j))
def Lb a b (z_:Int×AH9):=PU a b z_.1 z_.2
def RI a b e j:=fix (Lb a b) (e,j)
theorem AsF a b:A5 E37 0 3 (code f53) 58 (Aqo a b) (Lb a b) (Aog a b):=by
 intro _;simp only[Lb,PU,AHE];simp(disch:=refine id ?_;kernel_rfl) only[F4 (AsE ..) (K:=Ld E37 0 3)];kernel_rfl
def JR(a:AHY)(b:AH0):Option (Bool×AH9):=
 (RI a b 0 ([]:AH9)).bind (Sum.elim (λc=>some (false,c)) (λd=>some (true,d)))
theorem U37 R a b K:AW E37 f53 R [dD AId a,dD AIi b] [] K=(JR a b).bind λr=>K (.cons (.Ak 0) (.cons (dB r.1) .nil)) [.row 121 .Ai AIe r.2]:=by
 simp only[JR,AHF];simp(disch:=refine id ?_;kernel_rfl) only[RI,AF (AsF _ _) (K:=A4 E37 f53 0 R K)];kernel_rfl
def c53:=Cx [.d AId,.d AIi] [⟨[.AA [] AId,.AA [] AIi],[],Bool×AH9,λp=>JR p.1.1 p.1.2.1,λr=>(.cons (.Ak 0) (.cons (dB r.1) .nil),[.row 121 .Ai AIe r.2])⟩]
theorem tu:As prog 53 c53:=Aw ⟨⟨E37,pk ⟨tw,trivial⟩,λ_ _ _=>U37 ..⟩,trivial⟩
abbrev E38:Bd:=⟨A7,Az [],{A9:=[(3,{Ap:=[0,3,4],B6:=[(3,false,.row [] 58 Af false)]})],BQ:=[(3,{Ap:=[3]})],BP:=[(4,{Ap:=[0,3,4],B6:=[(3,false,.row [] 58 Af false)]})],D2:=[(4,[0,3,4])]}⟩
def Aqq a (z_:Int×AH0):=sT 25 [(0,dD AIi a),(3,.Ak 0),(4,dI z_.1)] [.row 58 (.sh []) Af z_.2]
def Aoi(a:AH0):=λ(b:AH0)=>(Ex.exit 0,sT 25 [(3,.Ak 0)] [.row 58 (.sh []) Af b])
def Aqp a c d:=sT 25 [(0,dD AIi a),(3,.Ak 0),(4,dI c)] [.row 58 (.sh []) Af d]
def Aoh a c (d:AH0):=λ(e:AH0)=>(Ex.normal,sT 25 [(0,dD AIi a),(3,.Ak 0),(4,dI c)] [.row 58 (.sh []) Af e])
def Ml(a:AH0)(c:Int)(d:AH0):Option AH0:=
 if 0<=c/\c<a.length then
 bif (a.getD c.toNat Af.zero).2.1 then
 if 0<=c/\c<a.length then
 if(d.length+([a.getD c.toNat Af.zero]:AH0).length)*64<=140737488355328 then
 some (d++([a.getD c.toNat Af.zero]:AH0))
 else none
 else none
 else
 some d
 else none
theorem AsG a c d:AZ E38 0 4 (cd f93 116) 6 (Aqp a c d) (Ml a c d) (Aoh a c d):=by
 unfold AZ;simp only[Ml,AHE];kernel_rfl
def JG(a:AH0)(c:Int)(d:AH0):Option ((Int×AH0)⊕AH0):=
 bif decide (c<(a.length:Int))then
 (Ml a c d).bind λe=>some (.inl (wI (c+1),e))
 else
 some (.inr d)
def Em a (z_:Int×AH0):=JG a z_.1 z_.2
def Qz a c d:=fix (Em a) (c,d)
theorem AsH a:A5 E38 0 3 (code f93) 58 (Aqq a) (Em a) (Aoi a):=by
 intro _;simp only[Em,JG,AHE];simp(disch:=refine id ?_;kernel_rfl) only[Bg (AsG ..) (K:=Ld E38 0 3)];kernel_rfl
def H7(a:AH0):Option AH0:=
 (Qz a 0 ([]:AH0)).bind λb=>some b
theorem U38 R a K:AW E38 f93 R [dD AIi a] [] K=(H7 a).bind λr=>K (.Ak 0) [.row 58 (.sh []) Af r]:=by
 simp only[H7,AHF];simp(disch:=refine id ?_;kernel_rfl) only[Qz,AF (AsH _) (K:=A4 E38 f93 0 R K)];kernel_rfl
def c93:=Cx [.d AIi] [⟨[.AA [] AIi],[],AH0,λp=>H7 p.1.1,λr=>(.Ak 0,[.row 58 (.sh []) Af r])⟩]
theorem tB:As prog 93 c93:=Aw ⟨⟨E38,pk trivial,λ_ _ _=>U38 ..⟩,trivial⟩
abbrev E39:Bd:=⟨A7,Az [],{Ai:=true,A9:=[(3,{Ap:=[0,2,3,4],B6:=[(3,true,.row [0] 72 AIf true)]})],BQ:=[(3,{Ap:=[2,3]})]}⟩
def Aqr a (z_:Int×AH6):=sT 19 [(0,dD AId a),(2,.ptr 0 0 [] 0),(3,.ptr 1 0 [] 0),(4,dI z_.1)] [.box (.pr .zs .u),.box (.pr (.Ak 2) .u),.row 72 .Ai AIf z_.2]
def Aoj(a:AHY):=λ(b:AH6)=>(Ex.exit 0,sT 19 [(2,.ptr 0 0 [] 0),(3,.ptr 1 0 [] 0)] [.box (.pr .zs .u),.box (.pr (.Ak 2) .u),.row 72 .Ai AIf b])
def MG(a:AHY)(c:Int)(d:AH6):Option ((Int×AH6)⊕AH6):=
 bif decide (c<(a.length:Int))then
 if(d.length+([([]:AHT)]:AH6).length)*24<=140737488355328 then
 some (.inl (wI (c+1),d++([([]:AHT)]:AH6)))
 else none
 else
 some (.inr d)
def Gn a (z_:Int×AH6):=MG a z_.1 z_.2
def S6 a c d:=fix (Gn a) (c,d)
theorem AsI a:A5 E39 0 3 (code f94) 58 (Aqr a) (Gn a) (Aoj a):=by
 intro _;simp only[Gn,MG,AHE];kernel_rfl
def LN(a:AHY):Option AH6:=
 (S6 a 0 ([]:AH6)).bind λb=>some b
theorem U39 R a K:AW E39 f94 R [dD AId a] [] K=(LN a).bind λr=>K (.pr (.Ak 0) .u) [.row 72 .Ai AIf r]:=by
 simp only[LN,AHF];simp(disch:=refine id ?_;kernel_rfl) only[S6,AF (AsI _) (K:=A4 E39 f94 0 R K)];kernel_rfl
def c94:=Cx [.d AId] [⟨[.AA [] AId],[],AH6,λp=>LN p.1.1,λr=>(.pr (.Ak 0) .u,[.row 72 .Ai AIf r])⟩]
theorem tC:As prog 94 c94:=Aw ⟨⟨E39,pk trivial,λ_ _ _=>U39 ..⟩,trivial⟩
end
end Go.Proofs.X
