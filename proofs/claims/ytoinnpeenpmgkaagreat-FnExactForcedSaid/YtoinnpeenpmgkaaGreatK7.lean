import Derived.KernelRfl
import Derived.Test.YtoinnpeenpmgkaaGreatK6
set_option linter.unusedVariables false
set_option linter.unusedSimpArgs false
namespace Go.Proofs.X
open Go Go.Va Go.Proofs.Tryz
set_option maxRecDepth 100000
noncomputable section
abbrev AIk:=eN [(28,c28)] {}
def JM(a b:ASu):ATP Bool:=
 bif a.1 !=b.1 then
 some false
 else
 bif !(a.2.1==b.2.1)then
 some false
 else
 (Kb a.2.2.1 b.2.2.1).bind λc=>bif !c then
 some false
 else
 (Kb a.2.2.2.1 b.2.2.2.1).bind λd=>bif !d then
 some false
 else
 some true
def c54:=Ck [.d Ah,.d Ah] [⟨[.AB [] Ah,.AB [] Ah],[],Bool,λp=>JM p.1.1 p.1.2.1,λr=>(dB r,[])⟩]
theorem Aly:An prog 54 c54:=Av (fn:=f54) ⟨⟨AIk,pk ⟨Abc,trivial⟩,λ_ R K=>by
 simp only[JM,ASn];kernel_rfl⟩,trivial⟩
abbrev Ao1:=eN [(54,c54)] {Ba:=[(4,[0,1,5])],BN:=[(4,[4])]}
def Asg a b (z_:Int):=sT 27 [(0,Bl a),(1,Bl b),(5,dI z_)] []
def Aqs(a b:ASK):=Sum.elim (λ(c:Unit)=>xR 27 mD []) (λ(d:Unit)=>xE 0 27 [] [])
def TK(a b:ASK)(e:Int):ATP (Int⊕(Unit⊕Unit)):=
 bif decide (e<(a.length:Int))then
 if 0<=e/\e<a.length then
 if 0<=e/\e<b.length then
 (JM (a.getD e.toNat Ah.zero) (b.getD e.toNat Ah.zero)).bind λg=>bif !g then
 some (.inr (.inl ()))
 else
 some (.inl (wI (e+1)))
 else none
 else none
 else
 some (.inr (.inr ()))
def Ix a b (z_:Int):=TK a b z_
def Vr a b e:=fix (Ix a b) e
theorem Aur a b:A8 Ao1 0 4 (code f16) 58 (Asg a b) (Ix a b) (Aqs a b):=by
 intro _;simp only[Ix,TK,ASm];kernel_rfl
def Py(a b:ASK):ATP Bool:=
 bif (a.length:Int) !=(b.length:Int)then
 some false
 else
 (Vr a b 0).bind (Sum.elim (λc=>some false) (λd=>some true))
def c16:=Ck [.d ATG,.d ATG] [⟨[.AB [] ATG,.AB [] ATG],[],Bool,λp=>Py p.1.1 p.1.2.1,λr=>(dB r,[])⟩]
theorem Alc:An prog 16 c16:=Av (fn:=f16) ⟨⟨Ao1,pk ⟨Aly,trivial⟩,λ_ R K=>by
 simp(disch:=refine id ?_;kernel_rfl) only[Py,ASn,Vr,AJ (Aur _ _) (K:=A2 Ao1 f16 0 R K)];kernel_rfl⟩,trivial⟩
abbrev Ao2:=eN [] {Ba:=[(4,[0,3])],BN:=[(4,[3])]}
def Ash(z_:Int×ByteArray):=sT 20 [(0,dI z_.1),(3,HZ z_.2)] []
def Aqt:=λ(a:ByteArray)=>xE 0 20 [(3,HZ a)] []
def Qf(b:Int)(c:ByteArray):ATP ((Int×ByteArray)⊕ByteArray):=
 bif decide (b>0)then
 if(bytesOf ([IntKind.u8.wrap (wI (48+(Int.tmod b 10)))]:ASC)).size+c.size<=9223372036854775807 then
 some (.inl (wI (Int.tdiv b 10),(bytesOf ([IntKind.u8.wrap (wI (48+(Int.tmod b 10)))]:ASC))++c))
 else none
 else
 some (.inr c)
def KB(z_:Int×ByteArray):=Qf z_.1 z_.2
def Sx b c:=fix (KB) (b,c)
theorem Aus:A8 Ao2 0 4 (code f56) 60 (Ash) (KB) (Aqt):=by
 intro _;simp only[KB,Qf,ASm];kernel_rfl
def O6(d:Int):ATP ByteArray:=
 bif decide (d<=0)then
 some (⟨#[109,48]⟩:ByteArray)
 else
 (Sx d (⟨#[]⟩:ByteArray)).bind λa=>if(⟨#[109]⟩:ByteArray).size+a.size<=9223372036854775807 then
 some ((⟨#[109]⟩:ByteArray)++a)
 else none
def c56:=Ck [.d ATy] [⟨[.AB [] ATy],[],ByteArray,λp=>O6 p.1.1,λr=>(HZ r,[])⟩]
theorem Alz:An prog 56 c56:=Av (fn:=f56) ⟨⟨Ao2,pk trivial,λ_ R K=>by
 simp(disch:=refine id ?_;kernel_rfl) only[O6,ASn,Sx,AJ (Aus) (K:=A2 Ao2 f56 0 R K)];kernel_rfl⟩,trivial⟩
abbrev Ao3:=eN [(56,c56)] {Ba:=[(2,[0,1,5])],BN:=[(2,[1])]}
def Asi(z_:Int×Int×ASG):=sT 28 (Lm z_.1 z_.2.1) [Ye z_.2.2]
def Aqu:=λ(a:(Int×ASG))=>xE 0 28 [(1,dI a.1)] [Ye a.2]
def Jt(b c:Int)(d:ASG):ATP ((Int×Int×ASG)⊕(Int×ASG)):=
 bif decide (c<(d.length:Int))then
 (O6 b).bind λe=>if 0<=c/\c<d.length then
 if 0<=c/\c<(d.set c.toNat (e,(d.getD c.toNat Ab.zero).2)).length then
 some (.inl (wI ((wI (b+1))+1),wI (c+1),(d.set c.toNat (e,(d.getD c.toNat Ab.zero).2)).set c.toNat (((d.set c.toNat (e,(d.getD c.toNat Ab.zero).2)).getD c.toNat Ab.zero).1,wI (b+1),((d.set c.toNat (e,(d.getD c.toNat Ab.zero).2)).getD c.toNat Ab.zero).2.2)))
 else none
 else none
 else
 some (.inr (b,d))
def En(z_:Int×Int×ASG):=Jt z_.1 z_.2.1 z_.2.2
def Ra b c d:=fix (En) (b,c,d)
theorem Aut:A8 Ao3 1 2 (code f18) 26 (Asi) (En) (Aqu):=by
 intro _;simp only[En,Jt,ASm];kernel_rfl
def M8(g:Int)(i:ASG):ATP (Int×ASG):=
 (Ra g 0 i).bind λa=>some (a.1,a.2)
def c18:=Ck [.VE,.d ATy] [⟨[.k H7,.AB [] ATy],[.row 105 .Aw Ab],Int×ASG,λp=>M8 p.1.2.1 p.2.1,λr=>(dI r.1,[Ye r.2])⟩]
theorem Ald:An prog 18 c18:=Av (fn:=f18) ⟨⟨Ao3,pk ⟨Alz,trivial⟩,λ_ R K=>by
 simp(disch:=refine id ?_;kernel_rfl) only[M8,ASn,Ra,AJ (Aut) (K:=A2 Ao3 f18 1 R K)];kernel_rfl⟩,trivial⟩
abbrev Ao4:=eN [] {Ba:=[(2,[0,1,5])],BN:=[(2,[1])]}
def Asj(z_:Int×Int×ASC):=sT 20 (Lm z_.1 z_.2.1) [tF z_.2.2]
def Aqv:=λ(a:ASZ)=>xE 0 20 [(1,dI a.1)] [tF a.2]
def FP(b c:Int)(d:ASC):ATP (ATk⊕ASZ):=
 bif decide (c<(d.length:Int))then
 if 0<=c/\c<d.length then
 some (.inl (wI (b+1),wI (c+1),d.set c.toNat (IntKind.u64.wrap b)))
 else none
 else
 some (.inr (b,d))
def CL(z_:Int×Int×ASC):=FP z_.1 z_.2.1 z_.2.2
def LP b c d:=fix (CL) (b,c,d)
theorem Auu:A8 Ao4 1 2 (code f76) 26 (Asj) (CL) (Aqv):=by
 intro _;simp only[CL,FP,ASm];kernel_rfl
def Dy(e:Int)(g:ASC):ATP ASZ:=
 (LP e 0 g).bind λa=>some (a.1,a.2)
abbrev Ao5:=eN [] {Ba:=[(2,[0,1,5])],BN:=[(2,[1])]}
def Asl(z_:Int×Int×ASC):=sT 20 (Lm z_.1 z_.2.1) [Bj z_.2.2]
def Aqw:=λ(a:ASZ)=>xE 0 20 [(1,dI a.1)] [Bj a.2]
def Qy(b c:Int)(d:ASC):ATP (ATk⊕ASZ):=
 bif decide (c<(d.length:Int))then
 if 0<=c/\c<d.length then
 some (.inl (wI (b+1),wI (c+1),d.set c.toNat (IntKind.u64.wrap b)))
 else none
 else
 some (.inr (b,d))
def JQ(z_:Int×Int×ASC):=Qy z_.1 z_.2.1 z_.2.2
def Sd b c d:=fix (JQ) (b,c,d)
theorem Auv:A8 Ao5 1 2 (code f76) 26 (Asl) (JQ) (Aqw):=by
 intro _;simp only[JQ,Qy,ASm];kernel_rfl
def KC(e:Int)(g:ASC):ATP ASZ:=
 (Sd e 0 g).bind λa=>some (a.1,a.2)
def c76:=Ck [.VE,.d ATy] [⟨[.k H7,.AB [] ATy],[.row 0 .Aw ATz],ASZ,λp=>Dy p.1.2.1 p.2.1,λr=>(dI r.1,[tF r.2])⟩,⟨[.k H7,.AB [] ATy],[.row 199 .Aw ATz],ASZ,λp=>KC p.1.2.1 p.2.1,λr=>(dI r.1,[Bj r.2])⟩]
theorem qO:An prog 76 c76:=Av (fn:=f76) ⟨⟨Ao4,pk trivial,λ_ R K=>by
 simp(disch:=refine id ?_;kernel_rfl) only[Dy,ASn,LP,AJ (Auu) (K:=A2 Ao4 f76 1 R K)];kernel_rfl⟩,⟨Ao5,pk trivial,λ_ R K=>by
 simp(disch:=refine id ?_;kernel_rfl) only[KC,ASn,Sd,AJ (Auv) (K:=A2 Ao5 f76 1 R K)];kernel_rfl⟩,trivial⟩
abbrev Ao6:=eN [] {Ba:=[(2,[0,1,5])],BN:=[(2,[1])]}
def Asm(z_:Int×Int×ASC):=sT 19 (Lm z_.1 z_.2.1) [tG z_.2.2]
def Aqx:=λ(a:ASZ)=>xE 0 19 [(1,dI a.1)] [tG a.2]
def Iy(b c:Int)(d:ASC):ATP (ATk⊕ASZ):=
 bif decide (c<(d.length:Int))then
 if 0<=c/\c<d.length then
 some (.inl (wI (b+1),wI (c+1),d.set c.toNat b))
 else none
 else
 some (.inr (b,d))
def DJ(z_:Int×Int×ASC):=Iy z_.1 z_.2.1 z_.2.2
def Qe b c d:=fix (DJ) (b,c,d)
theorem Auw:A8 Ao6 1 2 (code f35) 26 (Asm) (DJ) (Aqx):=by
 intro _;simp only[DJ,Iy,ASm];kernel_rfl
def Ij(e:Int)(g:ASC):ATP ASZ:=
 (Qe e 0 g).bind λa=>some (a.1,a.2)
def c35:=Ck [.VE,.d ATy] [⟨[.k H7,.AB [] ATy],[.row 0 .Aw ATy],ASZ,λp=>Ij p.1.2.1 p.2.1,λr=>(dI r.1,[tG r.2])⟩]
theorem Abd:An prog 35 c35:=Av (fn:=f35) ⟨⟨Ao6,pk trivial,λ_ R K=>by
 simp(disch:=refine id ?_;kernel_rfl) only[Ij,ASn,Qe,AJ (Auw) (K:=A2 Ao6 f35 1 R K)];kernel_rfl⟩,trivial⟩
abbrev qm:=eN [(35,c35),(76,c76)] {wH:=[(53,199),(60,2)],Ba:=[(2,[0,1,5])],BN:=[(2,[1])],BM:=[(3,[0,1,5]),(9,[0,1,5]),(13,[0,1,5])],Du:=[(3,[0,1,5]),(9,[0,1,5]),(13,[0,1,5])]}
def Asq(z_:Int×Int×ASJ):=sT 64 (Lm z_.1 z_.2.1) [U1 z_.2.2]
def AqB:=λ(a:AS7)=>xE 0 64 [(1,dI a.1)] [U1 a.2]
def Asp b c d:=sT 64 (Lm b c) [U1 d]
def AqA(b:Int) c (d:ASJ):=λ(e:AS7)=>xN 64 (Lm e.1 c) [U1 e.2]
def Aso c g i:=sT 64 (Lm g c) [U1 i]
def Aqz c g (i:ASJ):=λ(j:ASJ)=>xN 64 (Lm g c) [U1 j]
def IE(c g:Int)(i:ASJ):ATP ASJ:=
 if 0<=c/\c<i.length then
 some (i.set c.toNat ((i.getD c.toNat Ag.zero).1,(i.getD c.toNat Ag.zero).2.1,(i.getD c.toNat Ag.zero).2.2.1,(i.getD c.toNat Ag.zero).2.2.2.1,(g,(i.getD c.toNat Ag.zero).2.2.2.2.1.2),(i.getD c.toNat Ag.zero).2.2.2.2.2))
 else none
theorem Auy c g i:AX qm 1 13 (sb (cd f57 52) 6) 1534 (Aso c g i) (IE c g i) (Aqz c g i):=by
 unfold AX;simp only[IE,ASm];kernel_rfl
def Asn c k l:=sT 64 (Lm k c) [U1 l]
def Aqy c k (l:ASJ):=λ(n:ASJ)=>xN 64 (Lm k c) [U1 n]
def ID(c k:Int)(l:ASJ):ATP ASJ:=
 if 0<=c/\c<l.length then
 some (l.set c.toNat ((l.getD c.toNat Ag.zero).1,(l.getD c.toNat Ag.zero).2.1,k,(l.getD c.toNat Ag.zero).2.2.2))
 else none
theorem Aux c k l:AX qm 1 9 (sb (cd f57 52) 6) 94 (Asn c k l) (ID c k l) (Aqy c k l):=by
 unfold AX;simp only[ID,ASm];kernel_rfl
def IG(b c:Int)(d:ASJ):ATP AS7:=
 if 0<=c/\c<d.length then
 if 0<=c/\c<(d.set c.toNat (b,(d.getD c.toNat Ag.zero).2)).length then
 (ID c (wI ((wI (b+1))+1)) ((d.set c.toNat (b,(d.getD c.toNat Ag.zero).2)).set c.toNat (((d.set c.toNat (b,(d.getD c.toNat Ag.zero).2)).getD c.toNat Ag.zero).1,wI (b+1),((d.set c.toNat (b,(d.getD c.toNat Ag.zero).2)).getD c.toNat Ag.zero).2.2))).bind λn=>if 0<=c/\c<n.length then
 (IE c (wI ((wI ((wI ((wI (b+1))+1))+1))+1)) (n.set c.toNat ((n.getD c.toNat Ag.zero).1,(n.getD c.toNat Ag.zero).2.1,(n.getD c.toNat Ag.zero).2.2.1,wI ((wI ((wI (b+1))+1))+1),(n.getD c.toNat Ag.zero).2.2.2.2))).bind λj=>if 0<=c/\c<j.length then
 (Dy (wI ((wI ((wI ((wI ((wI (b+1))+1))+1))+1))+1)) (j.getD c.toNat Ag.zero).2.2.2.2.1.2.1).bind λo=>if 0<=c/\c<(j.set c.toNat ((j.getD c.toNat Ag.zero).1,(j.getD c.toNat Ag.zero).2.1,(j.getD c.toNat Ag.zero).2.2.1,(j.getD c.toNat Ag.zero).2.2.2.1,((j.getD c.toNat Ag.zero).2.2.2.2.1.1,o.2,(j.getD c.toNat Ag.zero).2.2.2.2.1.2.2),(j.getD c.toNat Ag.zero).2.2.2.2.2)).length then
 (Ij o.1 ((j.set c.toNat ((j.getD c.toNat Ag.zero).1,(j.getD c.toNat Ag.zero).2.1,(j.getD c.toNat Ag.zero).2.2.1,(j.getD c.toNat Ag.zero).2.2.2.1,((j.getD c.toNat Ag.zero).2.2.2.2.1.1,o.2,(j.getD c.toNat Ag.zero).2.2.2.2.1.2.2),(j.getD c.toNat Ag.zero).2.2.2.2.2)).getD c.toNat Ag.zero).2.2.2.2.2.1).bind λq=>some (q.1,(j.set c.toNat ((j.getD c.toNat Ag.zero).1,(j.getD c.toNat Ag.zero).2.1,(j.getD c.toNat Ag.zero).2.2.1,(j.getD c.toNat Ag.zero).2.2.2.1,((j.getD c.toNat Ag.zero).2.2.2.2.1.1,o.2,(j.getD c.toNat Ag.zero).2.2.2.2.1.2.2),(j.getD c.toNat Ag.zero).2.2.2.2.2)).set c.toNat (((j.set c.toNat ((j.getD c.toNat Ag.zero).1,(j.getD c.toNat Ag.zero).2.1,(j.getD c.toNat Ag.zero).2.2.1,(j.getD c.toNat Ag.zero).2.2.2.1,((j.getD c.toNat Ag.zero).2.2.2.2.1.1,o.2,(j.getD c.toNat Ag.zero).2.2.2.2.1.2.2),(j.getD c.toNat Ag.zero).2.2.2.2.2)).getD c.toNat Ag.zero).1,((j.set c.toNat ((j.getD c.toNat Ag.zero).1,(j.getD c.toNat Ag.zero).2.1,(j.getD c.toNat Ag.zero).2.2.1,(j.getD c.toNat Ag.zero).2.2.2.1,((j.getD c.toNat Ag.zero).2.2.2.2.1.1,o.2,(j.getD c.toNat Ag.zero).2.2.2.2.1.2.2),(j.getD c.toNat Ag.zero).2.2.2.2.2)).getD c.toNat Ag.zero).2.1,((j.set c.toNat ((j.getD c.toNat Ag.zero).1,(j.getD c.toNat Ag.zero).2.1,(j.getD c.toNat Ag.zero).2.2.1,(j.getD c.toNat Ag.zero).2.2.2.1,((j.getD c.toNat Ag.zero).2.2.2.2.1.1,o.2,(j.getD c.toNat Ag.zero).2.2.2.2.1.2.2),(j.getD c.toNat Ag.zero).2.2.2.2.2)).getD c.toNat Ag.zero).2.2.1,((j.set c.toNat ((j.getD c.toNat Ag.zero).1,(j.getD c.toNat Ag.zero).2.1,(j.getD c.toNat Ag.zero).2.2.1,(j.getD c.toNat Ag.zero).2.2.2.1,((j.getD c.toNat Ag.zero).2.2.2.2.1.1,o.2,(j.getD c.toNat Ag.zero).2.2.2.2.1.2.2),(j.getD c.toNat Ag.zero).2.2.2.2.2)).getD c.toNat Ag.zero).2.2.2.1,((j.set c.toNat ((j.getD c.toNat Ag.zero).1,(j.getD c.toNat Ag.zero).2.1,(j.getD c.toNat Ag.zero).2.2.1,(j.getD c.toNat Ag.zero).2.2.2.1,((j.getD c.toNat Ag.zero).2.2.2.2.1.1,o.2,(j.getD c.toNat Ag.zero).2.2.2.2.1.2.2),(j.getD c.toNat Ag.zero).2.2.2.2.2)).getD c.toNat Ag.zero).2.2.2.2.1,q.2,((j.set c.toNat ((j.getD c.toNat Ag.zero).1,(j.getD c.toNat Ag.zero).2.1,(j.getD c.toNat Ag.zero).2.2.1,(j.getD c.toNat Ag.zero).2.2.2.1,((j.getD c.toNat Ag.zero).2.2.2.2.1.1,o.2,(j.getD c.toNat Ag.zero).2.2.2.2.1.2.2),(j.getD c.toNat Ag.zero).2.2.2.2.2)).getD c.toNat Ag.zero).2.2.2.2.2.2))
 else none
 else none
 else none
 else none
 else none
theorem Auz b c d:AX qm 1 3 (cd f57 52) 6 (Asp b c d) (IG b c d) (AqA b c d):=by
 unfold AX;simp(disch:=refine id ?_;kernel_rfl) only[IG,ASm,Bf (Aux ..) (K:=Ui qm 1 3),Bf (Auy ..) (K:=Ui qm 1 3)];kernel_rfl
def GG(b c:Int)(d:ASJ):ATP ((Int×Int×ASJ)⊕AS7):=
 bif decide (c<(d.length:Int))then
 (IG b c d).bind λe=>some (.inl (e.1,wI (c+1),e.2))
 else
 some (.inr (b,d))
def C8(z_:Int×Int×ASJ):=GG z_.1 z_.2.1 z_.2.2
def Na b c d:=fix (C8) (b,c,d)
theorem AuA:A8 qm 1 2 (code f57) 26 (Asq) (C8) (AqB):=by
 intro _;simp(disch:=refine id ?_;kernel_rfl) only[C8,GG,ASm,Bf (Auz ..) (K:=Ka qm 1 2)];kernel_rfl
def D6(s:Int)(t:ASJ):ATP AS7:=
 (Na s 0 t).bind λa=>some (a.1,a.2)
abbrev qn:=eN [(35,c35),(76,c76)] {wH:=[(53,199),(60,2)],Ba:=[(2,[0,1,5])],BN:=[(2,[1])],BM:=[(3,[0,1,5]),(9,[0,1,5]),(13,[0,1,5])],Du:=[(3,[0,1,5]),(9,[0,1,5]),(13,[0,1,5])]}
def Asu(z_:Int×Int×ASJ):=sT 64 (Lm z_.1 z_.2.1) [I1 z_.2.2]
def AqF:=λ(a:AS7)=>xE 0 64 [(1,dI a.1)] [I1 a.2]
def Ast b c d:=sT 64 (Lm b c) [I1 d]
def AqE(b:Int) c (d:ASJ):=λ(e:AS7)=>xN 64 (Lm e.1 c) [I1 e.2]
def Ass c g i:=sT 64 (Lm g c) [I1 i]
def AqD c g (i:ASJ):=λ(j:ASJ)=>xN 64 (Lm g c) [I1 j]
def Nc(c g:Int)(i:ASJ):ATP ASJ:=
 if 0<=c/\c<i.length then
 some (i.set c.toNat ((i.getD c.toNat Ag.zero).1,(i.getD c.toNat Ag.zero).2.1,(i.getD c.toNat Ag.zero).2.2.1,(i.getD c.toNat Ag.zero).2.2.2.1,(g,(i.getD c.toNat Ag.zero).2.2.2.2.1.2),(i.getD c.toNat Ag.zero).2.2.2.2.2))
 else none
theorem AuC c g i:AX qn 1 13 (sb (cd f57 52) 6) 1534 (Ass c g i) (Nc c g i) (AqD c g i):=by
 unfold AX;simp only[Nc,ASm];kernel_rfl
def Asr c k l:=sT 64 (Lm k c) [I1 l]
def AqC c k (l:ASJ):=λ(n:ASJ)=>xN 64 (Lm k c) [I1 n]
def Nb(c k:Int)(l:ASJ):ATP ASJ:=
 if 0<=c/\c<l.length then
 some (l.set c.toNat ((l.getD c.toNat Ag.zero).1,(l.getD c.toNat Ag.zero).2.1,k,(l.getD c.toNat Ag.zero).2.2.2))
 else none
theorem AuB c k l:AX qn 1 9 (sb (cd f57 52) 6) 94 (Asr c k l) (Nb c k l) (AqC c k l):=by
 unfold AX;simp only[Nb,ASm];kernel_rfl
def Nf(b c:Int)(d:ASJ):ATP AS7:=
 if 0<=c/\c<d.length then
 if 0<=c/\c<(d.set c.toNat (b,(d.getD c.toNat Ag.zero).2)).length then
 (Nb c (wI ((wI (b+1))+1)) ((d.set c.toNat (b,(d.getD c.toNat Ag.zero).2)).set c.toNat (((d.set c.toNat (b,(d.getD c.toNat Ag.zero).2)).getD c.toNat Ag.zero).1,wI (b+1),((d.set c.toNat (b,(d.getD c.toNat Ag.zero).2)).getD c.toNat Ag.zero).2.2))).bind λn=>if 0<=c/\c<n.length then
 (Nc c (wI ((wI ((wI ((wI (b+1))+1))+1))+1)) (n.set c.toNat ((n.getD c.toNat Ag.zero).1,(n.getD c.toNat Ag.zero).2.1,(n.getD c.toNat Ag.zero).2.2.1,wI ((wI ((wI (b+1))+1))+1),(n.getD c.toNat Ag.zero).2.2.2.2))).bind λj=>if 0<=c/\c<j.length then
 (Dy (wI ((wI ((wI ((wI ((wI (b+1))+1))+1))+1))+1)) (j.getD c.toNat Ag.zero).2.2.2.2.1.2.1).bind λo=>if 0<=c/\c<(j.set c.toNat ((j.getD c.toNat Ag.zero).1,(j.getD c.toNat Ag.zero).2.1,(j.getD c.toNat Ag.zero).2.2.1,(j.getD c.toNat Ag.zero).2.2.2.1,((j.getD c.toNat Ag.zero).2.2.2.2.1.1,o.2,(j.getD c.toNat Ag.zero).2.2.2.2.1.2.2),(j.getD c.toNat Ag.zero).2.2.2.2.2)).length then
 (Ij o.1 ((j.set c.toNat ((j.getD c.toNat Ag.zero).1,(j.getD c.toNat Ag.zero).2.1,(j.getD c.toNat Ag.zero).2.2.1,(j.getD c.toNat Ag.zero).2.2.2.1,((j.getD c.toNat Ag.zero).2.2.2.2.1.1,o.2,(j.getD c.toNat Ag.zero).2.2.2.2.1.2.2),(j.getD c.toNat Ag.zero).2.2.2.2.2)).getD c.toNat Ag.zero).2.2.2.2.2.1).bind λq=>some (q.1,(j.set c.toNat ((j.getD c.toNat Ag.zero).1,(j.getD c.toNat Ag.zero).2.1,(j.getD c.toNat Ag.zero).2.2.1,(j.getD c.toNat Ag.zero).2.2.2.1,((j.getD c.toNat Ag.zero).2.2.2.2.1.1,o.2,(j.getD c.toNat Ag.zero).2.2.2.2.1.2.2),(j.getD c.toNat Ag.zero).2.2.2.2.2)).set c.toNat (((j.set c.toNat ((j.getD c.toNat Ag.zero).1,(j.getD c.toNat Ag.zero).2.1,(j.getD c.toNat Ag.zero).2.2.1,(j.getD c.toNat Ag.zero).2.2.2.1,((j.getD c.toNat Ag.zero).2.2.2.2.1.1,o.2,(j.getD c.toNat Ag.zero).2.2.2.2.1.2.2),(j.getD c.toNat Ag.zero).2.2.2.2.2)).getD c.toNat Ag.zero).1,((j.set c.toNat ((j.getD c.toNat Ag.zero).1,(j.getD c.toNat Ag.zero).2.1,(j.getD c.toNat Ag.zero).2.2.1,(j.getD c.toNat Ag.zero).2.2.2.1,((j.getD c.toNat Ag.zero).2.2.2.2.1.1,o.2,(j.getD c.toNat Ag.zero).2.2.2.2.1.2.2),(j.getD c.toNat Ag.zero).2.2.2.2.2)).getD c.toNat Ag.zero).2.1,((j.set c.toNat ((j.getD c.toNat Ag.zero).1,(j.getD c.toNat Ag.zero).2.1,(j.getD c.toNat Ag.zero).2.2.1,(j.getD c.toNat Ag.zero).2.2.2.1,((j.getD c.toNat Ag.zero).2.2.2.2.1.1,o.2,(j.getD c.toNat Ag.zero).2.2.2.2.1.2.2),(j.getD c.toNat Ag.zero).2.2.2.2.2)).getD c.toNat Ag.zero).2.2.1,((j.set c.toNat ((j.getD c.toNat Ag.zero).1,(j.getD c.toNat Ag.zero).2.1,(j.getD c.toNat Ag.zero).2.2.1,(j.getD c.toNat Ag.zero).2.2.2.1,((j.getD c.toNat Ag.zero).2.2.2.2.1.1,o.2,(j.getD c.toNat Ag.zero).2.2.2.2.1.2.2),(j.getD c.toNat Ag.zero).2.2.2.2.2)).getD c.toNat Ag.zero).2.2.2.1,((j.set c.toNat ((j.getD c.toNat Ag.zero).1,(j.getD c.toNat Ag.zero).2.1,(j.getD c.toNat Ag.zero).2.2.1,(j.getD c.toNat Ag.zero).2.2.2.1,((j.getD c.toNat Ag.zero).2.2.2.2.1.1,o.2,(j.getD c.toNat Ag.zero).2.2.2.2.1.2.2),(j.getD c.toNat Ag.zero).2.2.2.2.2)).getD c.toNat Ag.zero).2.2.2.2.1,q.2,((j.set c.toNat ((j.getD c.toNat Ag.zero).1,(j.getD c.toNat Ag.zero).2.1,(j.getD c.toNat Ag.zero).2.2.1,(j.getD c.toNat Ag.zero).2.2.2.1,((j.getD c.toNat Ag.zero).2.2.2.2.1.1,o.2,(j.getD c.toNat Ag.zero).2.2.2.2.1.2.2),(j.getD c.toNat Ag.zero).2.2.2.2.2)).getD c.toNat Ag.zero).2.2.2.2.2.2))
 else none
 else none
 else none
 else none
 else none
theorem AuD b c d:AX qn 1 3 (cd f57 52) 6 (Ast b c d) (Nf b c d) (AqE b c d):=by
 unfold AX;simp(disch:=refine id ?_;kernel_rfl) only[Nf,ASm,Bf (AuB ..) (K:=Ui qn 1 3),Bf (AuC ..) (K:=Ui qn 1 3)];kernel_rfl
def Rb(b c:Int)(d:ASJ):ATP ((Int×Int×ASJ)⊕AS7):=
 bif decide (c<(d.length:Int))then
 (Nf b c d).bind λe=>some (.inl (e.1,wI (c+1),e.2))
 else
 some (.inr (b,d))
def KA(z_:Int×Int×ASJ):=Rb z_.1 z_.2.1 z_.2.2
def TL b c d:=fix (KA) (b,c,d)
theorem AuE:A8 qn 1 2 (code f57) 26 (Asu) (KA) (AqF):=by
 intro _;simp(disch:=refine id ?_;kernel_rfl) only[KA,Rb,ASm,Bf (AuD ..) (K:=Ka qn 1 2)];kernel_rfl
def Mc(s:Int)(t:ASJ):ATP AS7:=
 (TL s 0 t).bind λa=>some (a.1,a.2)
def c57:=Ck [.VE,.d ATy] [⟨[.k H7,.AB [] ATy],[.row 0 .Aw Ag],AS7,λp=>D6 p.1.2.1 p.2.1,λr=>(dI r.1,[U1 r.2])⟩,⟨[.k H7,.AB [] ATy],[.row 182 .Aw Ag],AS7,λp=>Mc p.1.2.1 p.2.1,λr=>(dI r.1,[I1 r.2])⟩]
theorem Abg:An prog 57 c57:=Av (fn:=f57) ⟨⟨qm,pk ⟨Abd,qO,trivial⟩,λ_ R K=>by
 simp(disch:=refine id ?_;kernel_rfl) only[D6,ASn,Na,AJ (AuA) (K:=A2 qm f57 1 R K)];kernel_rfl⟩,⟨qn,pk ⟨Abd,qO,trivial⟩,λ_ R K=>by
 simp(disch:=refine id ?_;kernel_rfl) only[Mc,ASn,TL,AJ (AuE) (K:=A2 qn f57 1 R K)];kernel_rfl⟩,trivial⟩
abbrev qo:=eN [(57,c57)] {wH:=[(33,182),(41,182)],Ba:=[(2,[0,1,5])],BN:=[(2,[1])],BM:=[(3,[0,1,5]),(7,[0,1,5]),(9,[0,1,5])],Du:=[(3,[0,1,5]),(7,[0,1,5]),(9,[0,1,5])]}
def Asy(z_:Int×Int×ASK):=sT 45 (Lm z_.1 z_.2.1) [Ot z_.2.2]
def AqJ:=λ(a:ATc)=>xE 0 45 [(1,dI a.1)] [Ot a.2]
def Asx b c d:=sT 45 (Lm b c) [Ot d]
def AqI(b:Int) c (d:ASK):=λ(e:ATc)=>xN 45 (Lm e.1 c) [Ot e.2]
def Asw c g i:=sT 45 (Lm i c) [Ot g]
def AqH c (g:ASK) (i:Int):=λ(j:ATc)=>xN 45 (Lm j.1 c) [Ot j.2]
def IB(c:Int)(g:ASK)(i:Int):ATP ATc:=
 if 0<=c/\c<g.length then
 (D6 i (g.getD c.toNat Ah.zero).2.2.1.1).bind λk=>some (k.1,g.set c.toNat ((g.getD c.toNat Ah.zero).1,(g.getD c.toNat Ah.zero).2.1,(k.2,(g.getD c.toNat Ah.zero).2.2.1.2),(g.getD c.toNat Ah.zero).2.2.2))
 else none
theorem AuG c g i:AX qo 1 9 (sb (cd f19 52) 6) 94 (Asw c g i) (IB c g i) (AqH c g i):=by
 unfold AX;simp only[IB,ASm];kernel_rfl
def Asv c l n:=sT 45 (Lm l c) [Ot n]
def AqG c l (n:ASK):=λ(g:ASK)=>xN 45 (Lm l c) [Ot g]
def IA(c l:Int)(n:ASK):ATP ASK:=
 if 0<=c/\c<n.length then
 some (n.set c.toNat ((n.getD c.toNat Ah.zero).1,(Int.tmod l 3)==0,(n.getD c.toNat Ah.zero).2.2))
 else none
theorem AuF c l n:AX qo 1 7 (sb (cd f19 52) 6) 22 (Asv c l n) (IA c l n) (AqG c l n):=by
 unfold AX;simp only[IA,ASm];kernel_rfl
def IC(b c:Int)(d:ASK):ATP ATc:=
 if 0<=c/\c<d.length then
 (IA c (wI (b+1)) (d.set c.toNat (b,(d.getD c.toNat Ah.zero).2))).bind λg=>(IB c g (wI ((wI (b+1))+1))).bind λj=>if 0<=c/\c<j.2.length then
 (D6 j.1 (j.2.getD c.toNat Ah.zero).2.2.2.1.1).bind λo=>some (o.1,j.2.set c.toNat ((j.2.getD c.toNat Ah.zero).1,(j.2.getD c.toNat Ah.zero).2.1,(j.2.getD c.toNat Ah.zero).2.2.1,(o.2,(j.2.getD c.toNat Ah.zero).2.2.2.1.2),(j.2.getD c.toNat Ah.zero).2.2.2.2))
 else none
 else none
theorem AuH b c d:AX qo 1 3 (cd f19 52) 6 (Asx b c d) (IC b c d) (AqI b c d):=by
 unfold AX;simp(disch:=refine id ?_;kernel_rfl) only[IC,ASm,Bf (AuF ..) (K:=Ui qo 1 3),Bf (AuG ..) (K:=Ui qo 1 3)];kernel_rfl
def GF(b c:Int)(d:ASK):ATP ((Int×Int×ASK)⊕ATc):=
 bif decide (c<(d.length:Int))then
 (IC b c d).bind λe=>some (.inl (e.1,wI (c+1),e.2))
 else
 some (.inr (b,d))
def C7(z_:Int×Int×ASK):=GF z_.1 z_.2.1 z_.2.2
def M9 b c d:=fix (C7) (b,c,d)
theorem AuI:A8 qo 1 2 (code f19) 26 (Asy) (C7) (AqJ):=by
 intro _;simp(disch:=refine id ?_;kernel_rfl) only[C7,GF,ASm,Bf (AuH ..) (K:=Ka qo 1 2)];kernel_rfl
def Iz(q:Int)(s:ASK):ATP ATc:=
 (M9 q 0 s).bind λa=>some (a.1,a.2)
def c19:=Ck [.VE,.d ATy] [⟨[.k H7,.AB [] ATy],[.row 87 .Aw Ah],ATc,λp=>Iz p.1.2.1 p.2.1,λr=>(dI r.1,[Ot r.2])⟩]
theorem Ale:An prog 19 c19:=Av (fn:=f19) ⟨⟨qo,pk ⟨Abg,trivial⟩,λ_ R K=>by
 simp(disch:=refine id ?_;kernel_rfl) only[Iz,ASn,M9,AJ (AuI) (K:=A2 qo f19 1 R K)];kernel_rfl⟩,trivial⟩
abbrev AIl:=eN [(57,c57)] {}
def O5(a:Int)(b:ASJ):ATP AS7:=
 (Mc a b).bind λc=>some (c.1,c.2)
def c29:=Ck [.VE,.d ATy] [⟨[.pr (.k H7) (.k .u),.AB [] ATy],[.row 182 .Aw Ag],AS7,λp=>O5 p.1.2.1 p.2.1,λr=>(dI r.1,[I1 r.2])⟩]
theorem Alh:An prog 29 c29:=Av (fn:=f29) ⟨⟨AIl,pk ⟨Abg,trivial⟩,λ_ R K=>by
 simp only[O5,ASn];kernel_rfl⟩,trivial⟩
abbrev AIm:=eN [(76,c76)] {}
def Lv(a b:Int)(c:ASC):ATP ASZ:=
 (KC b c).bind λd=>some (d.1,d.2)
def c30:=Ck [.VE,.d ATy] [⟨[.pr (.AB [] ATy) (.pr (.k H7) (.k .u)),.AB [] ATy],[.row 199 .Aw ATz],ASZ,λp=>Lv p.1.1.1 p.1.2.1 p.2.1,λr=>(dI r.1,[Bj r.2])⟩]
theorem Ali:An prog 30 c30:=Av (fn:=f30) ⟨⟨AIm,pk ⟨qO,trivial⟩,λ_ R K=>by
 simp only[Lv,ASn];kernel_rfl⟩,trivial⟩
abbrev Ao7:=eN [] {Ba:=[(2,[0,1,5])],BN:=[(2,[1,4])]}
def Asz a (z_:Int×Int):=sT 22 [(0,Tm a),(1,dI z_.1),(5,dI z_.2)] []
def AqK(a:ASC):=Sum.elim (λ(b:Int)=>xR 22 [(1,dI b),(4,dI (-1))] []) (λ(c:Int)=>xE 0 22 [(1,dI c)] [])
def HW(a:ASC)(d e:Int):ATP (AS1⊕(Int⊕Int)):=
 bif decide (e<(a.length:Int))then
 if 0<=e/\e<a.length then
 bif (a.getD e.toNat ATz.zero) !=(IntKind.u64.wrap d)then
 some (.inr (.inl d))
 else
 some (.inl (wI (d+1),wI (e+1)))
 else none
 else
 some (.inr (.inr d))
def Dm a (z_:Int×Int):=HW a z_.1 z_.2
def OM a d e:=fix (Dm a) (d,e)
theorem AuJ a:A8 Ao7 0 2 (code f77) 26 (Asz a) (Dm a) (AqK a):=by
 intro _;simp only[Dm,HW,ASm];kernel_rfl
def JO(a:ASC)(g:Int):ATP Int:=
 (OM a g 0).bind (Sum.elim (λb=>some (-1)) (λc=>some c))
def c77:=Ck [.d ATI,.d ATy] [⟨[.AB [] ATI,.AB [] ATy],[],Int,λp=>JO p.1.1 p.1.2.1,λr=>(dI r,[])⟩]
theorem AlK:An prog 77 c77:=Av (fn:=f77) ⟨⟨Ao7,pk trivial,λ_ R K=>by
 simp(disch:=refine id ?_;kernel_rfl) only[JO,ASn,OM,AJ (AuJ _) (K:=A2 Ao7 f77 0 R K)];kernel_rfl⟩,trivial⟩
abbrev AIn:=eN [(77,c77)] {}
def GQ(a:ASv)(b:Int):ATP Int:=
 (JO a.2.1 b).bind λc=>bif decide (c<0)then
 some (-1)
 else
 some c
def c31:=Ck [.d Ai,.d ATy] [⟨[.AB [] Ai,.AB [] ATy],[],Int,λp=>GQ p.1.1 p.1.2.1,λr=>(dI r,[])⟩]
theorem Alj:An prog 31 c31:=Av (fn:=f31) ⟨⟨AIn,pk ⟨AlK,trivial⟩,λ_ R K=>by
 simp only[GQ,ASn];kernel_rfl⟩,trivial⟩
abbrev cr:=eN [(6,c6),(7,c7),(10,gU),(11,c11),(15,c15),(16,c16),(18,c18),(19,c19),(23,c23),(24,c24),(25,c25),(26,c26),(27,c27),(28,c28),(29,c29),(30,c30),(31,c31)] {BM:=[(17,[0,1,5,8,9,10,11,12,13,14,15,16,77]),(29,[0,1,5,8,9,10,14,15,120]),(44,[14,15,18,165])],W8:=[(11,{Be:=[0,1,5,8,9,10],Xu:=true}),(42,{Be:=[8,9,10,14,15,18,20,21,22],Xu:=true})],Du:=[(17,[0,1,5,8,9,10,11,12,13,14,15,16]),(29,[0,1,5,8,9,10,14,15,16,17]),(44,[8,9,10,14,15,18,20,21,22])],Yl:=[(11,[0,1,5]),(42,[0,1,5,8,9,10,14,15,18])],kv:=[(40,ATE),(42,ATG),(44,Ap),(80,ATE),(85,ATG),(90,Ap),(142,ATE),(144,ATG),(146,Ap)]}
def AsC a b c d e g i j k l n o q s t:=sT 179 (AoI a b c) (AoJ d e g i j k l n o q s t)
def AqN(a:Int) b (c:Int) (d:Int) (e:Int) g i (j:Int) (k:Int) (l:ASC) (n:ASC) o q (s:ASC) (t:ASC):=λ(u:Bool)=>xN 179 [(14,Aq),(15,AZ),(18,dI b),(165,dB u)] (Acz g i o q)
def HV(a b c d e g i j k:Int)(l n o q s t:ASC):ATP Bool:=
 (Fv (j,s,()) (d,l,())).bind λv=>bif !v then
 some true
 else
 (Fv (k,t,()) (e,n,())).bind λw=>bif !w then
 some true
 else
 some (c !=a)
theorem AuO a b c d e g i j k l n o q s t:AX cr 0 44 (code f4) 34359738364 (AsC a b c d e g i j k l n o q s t) (HV a b c d e g i j k l n o q s t) (AqN a b c d e g i j k l n o q s t):=by
 unfold AX;simp only[HV,ASm];kernel_rfl
def AfD x y a1 b1 c1 d1 e1 g1 i1 j1 k1 l1 n1:=sT 179 [(0,Ar x),(1,Bl y),(5,Aq),(8,AZ),(9,Dr),(10,dI b1),(14,J8),(15,Ns),(18,dI c1)] (Akr a1 d1 e1 g1 i1 j1 k1 l1 n1)
def yW(x:ASG)(y:ASK)(a1:ASz) b1 c1 d1 e1 g1 i1 j1 k1 l1 n1:=λ(o1:AS5)=>sT 179 (AoI b1 c1 o1.1) (AoJ d1 e1 g1 i1 o1.2.1 o1.2.2.1 j1 k1 l1 n1 o1.2.2.2.1 o1.2.2.2.2)
def HU(x:ASG)(y:ASK)(a1:ASz)(b1 c1 d1 e1 g1 i1:Int)(j1 k1 l1 n1:ASC):ATP AS5:=
 (Bz x).bind λq1=>(AL y).bind λs1=>(AF a1).bind λt1=>(A1 q1 s1 (t1,())).bind λu1=>some (u1.2.2.1,u1.1,u1.2.1,u1.2.2.2.1,u1.2.2.2.2)
theorem AuN(x:ASG)(y:ASK)(a1:ASz)(b1 c1 d1 e1 g1 i1:Int)(j1 k1 l1 n1:ASC):MQ cr 0 42 (code f4) 8589934590 (AfD x y a1 b1 c1 d1 e1 g1 i1 j1 k1 l1 n1) (HU x y a1 b1 c1 d1 e1 g1 i1 j1 k1 l1 n1) (yW x y a1 b1 c1 d1 e1 g1 i1 j1 k1 l1 n1):=by
 unfold MQ;have h:re cr 0 42 (code f4) (pt 8589934590) (AfD x y a1 b1 c1 d1 e1 g1 i1 j1 k1 l1 n1) =
(λ(w_:_->St)=>(Bz x).bind λq1=>(AL y).bind λs1=>(AF a1).bind λt1=>(A1 q1 s1 (t1,())).bind λu1=>((((Bz x).bind λv1=>((AL y).bind λw1=>((AF a1).bind λx1=>((A1 v1 w1 (x1,())).bind λy1=>(C2 (w_ y1) (w_ u1)).bind λ_=>C2 (w_ y1) (w_ u1)).bind λ_=>(((A1 v1 w1 (x1,())).bind λa2=>C2 (w_ a2) (w_ u1)).bind λ_=>(A1 v1 w1 (x1,())).bind λb2=>C2 (w_ b2) (w_ u1)).bind λ_=>((A1 v1 w1 (x1,())).bind λc2=>C2 (w_ c2) (w_ u1)).bind λ_=>(A1 v1 w1 (x1,())).bind λd2=>C2 (w_ d2) (w_ u1)).bind λ_=>(((AF a1).bind λe2=>((A1 v1 w1 (e2,())).bind λg2=>C2 (w_ g2) (w_ u1)).bind λ_=>(A1 v1 w1 (e2,())).bind λi2=>C2 (w_ i2) (w_ u1)).bind λ_=>(AF a1).bind λj2 =>
(A1 v1 w1 (j2,())).bind λk2=>C2 (w_ k2) (w_ u1)).bind λ_=>((AF a1).bind λl2=>((A1 v1 w1 (l2,())).bind λn2=>C2 (w_ n2) (w_ u1)).bind λ_=>(A1 v1 w1 (l2,())).bind λo2=>C2 (w_ o2) (w_ u1)).bind λ_=>(AF a1).bind λq2 =>
(A1 v1 w1 (q2,())).bind λs2=>C2 (w_ s2) (w_ u1)).bind λ_=>(((AL y).bind λt2=>((AF a1).bind λu2=>((A1 v1 t2 (u2,())).bind λv2=>C2 (w_ v2) (w_ u1)).bind λ_=>(A1 v1 t2 (u2,())).bind λw2=>C2 (w_ w2) (w_ u1)).bind λ_=>(AF a1).bind λx2 =>
(A1 v1 t2 (x2,())).bind λy2=>C2 (w_ y2) (w_ u1)).bind λ_=>(AL y).bind λa3 =>
(AF a1).bind λb3 =>
(A1 v1 a3 (b3,())).bind λc3=>C2 (w_ c3) (w_ u1)).bind λ_=>((AL y).bind λd3=>((AF a1).bind λe3=>((A1 v1 d3 (e3,())).bind λg3=>C2 (w_ g3) (w_ u1)).bind λ_=>(A1 v1 d3 (e3,())).bind λi3=>C2 (w_ i3) (w_ u1)).bind λ_=>(AF a1).bind λj3 =>
(A1 v1 d3 (j3,())).bind λk3=>C2 (w_ k3) (w_ u1)).bind λ_=>(AL y).bind λl3 =>
(AF a1).bind λn3 =>
(A1 v1 l3 (n3,())).bind λo3=>C2 (w_ o3) (w_ u1)).bind λ_=>(((Bz x).bind λq3=>((AL y).bind λs3=>((AF a1).bind λt3=>((A1 q3 s3 (t3,())).bind λu3=>C2 (w_ u3) (w_ u1)).bind λ_=>(A1 q3 s3 (t3,())).bind λv3=>C2 (w_ v3) (w_ u1)).bind λ_=>(AF a1).bind λw3 =>
(A1 q3 s3 (w3,())).bind λx3=>C2 (w_ x3) (w_ u1)).bind λ_=>(AL y).bind λy3 =>
(AF a1).bind λa4 =>
(A1 q3 y3 (a4,())).bind λb4=>C2 (w_ b4) (w_ u1)).bind λ_=>(Bz x).bind λc4 =>
(AL y).bind λd4 =>
(AF a1).bind λe4 =>
(A1 c4 d4 (e4,())).bind λg4=>C2 (w_ g4) (w_ u1)).bind λ_=>((Bz x).bind λi4=>((AL y).bind λj4=>((AF a1).bind λk4=>((A1 i4 j4 (k4,())).bind λl4=>C2 (w_ l4) (w_ u1)).bind λ_=>(A1 i4 j4 (k4,())).bind λn4=>C2 (w_ n4) (w_ u1)).bind λ_=>(AF a1).bind λo4 =>
(A1 i4 j4 (o4,())).bind λq4=>C2 (w_ q4) (w_ u1)).bind λ_=>(AL y).bind λs4 =>
(AF a1).bind λt4 =>
(A1 i4 s4 (t4,())).bind λu4=>C2 (w_ u4) (w_ u1)).bind λ_=>(Bz x).bind λv4 =>
(AL y).bind λw4 =>
(AF a1).bind λx4 =>
(A1 v4 w4 (x4,())).bind λy4=>C2 (w_ y4) (w_ u1)).bind λ_=>some (yW x y a1 b1 c1 d1 e1 g1 i1 j1 k1 l1 n1 (u1.2.2.1,u1.1,u1.2.1,u1.2.2.2.1,u1.2.2.2.2)))) (λv_=>yW x y a1 b1 c1 d1 e1 g1 i1 j1 k1 l1 n1 (v_.2.2.1,v_.1,v_.2.1,v_.2.2.2.1,v_.2.2.2.2)):=by kernel_rfl
 rw[h];unfold HU;simp only[ASm,mS,mO];clear h;cases GM:Bz x with
 |none=>rfl
 |some q1 =>
  simp only[AP9];cases Pk:AL y with
  |none=>rfl
  |some s1 =>
   simp only[AP9];cases oN:AF a1 with
   |none=>rfl
   |some t1 =>
    simp only[AP9];cases hc3:A1 q1 s1 (t1,())with
    |none=>rfl
    |some u1 =>
     simp only[AP9];simp only[GM,Pk,oN,hc3,AQV,AP9,DY,DD]
def AsB x y a1 a5 b5 c5 d5 e5 g5 i5 j5 k5 l5 n5:=sT 179 [(0,Ar x),(1,Bl y),(5,Aq),(8,AZ),(9,Dr),(10,dI a5),(14,J8),(15,Ns),(16,dI b5),(17,dI c5)] (Akr a1 d5 e5 g5 i5 j5 k5 l5 n5)
def AqM x y a1 a5 (b5:Int) (c5:Int) d5 e5 g5 i5 j5 k5 l5 n5:=λ(o5:Bool)=>xN 179 [(0,Ar x),(1,Bl y),(5,Aq),(8,AZ),(9,Dr),(10,dI a5),(14,J8),(15,Ns),(120,dB o5)] (Akr a1 d5 e5 g5 i5 j5 k5 l5 n5)
def HT(x:ASG)(y:ASK)(a1:ASz)(a5 b5 c5 d5 e5 g5 i5:Int)(j5 k5 l5 n5:ASC):ATP Bool:=
 bif decide (c5<0)then
 some true
 else
 (Fv (g5,l5,()) (d5,j5,())).bind λq5=>bif !q5 then
 some true
 else
 (Fv (i5,n5,()) (e5,k5,())).bind λs5=>bif !s5 then
 some true
 else
 some (b5 !=a5)
theorem AuM x y a1 a5 b5 c5 d5 e5 g5 i5 j5 k5 l5 n5:AX cr 0 29 (code f4) 16777212 (AsB x y a1 a5 b5 c5 d5 e5 g5 i5 j5 k5 l5 n5) (HT x y a1 a5 b5 c5 d5 e5 g5 i5 j5 k5 l5 n5) (AqM x y a1 a5 b5 c5 d5 e5 g5 i5 j5 k5 l5 n5):=by
 unfold AX;simp only[HT,ASm];kernel_rfl
def AsA x y a1 t5 u5 v5 w5 x5 y5 a6 b6 c6 d6 e6 g6 i6:=sT 179 [(0,Ar x),(1,Bl y),(5,Aq),(8,AZ),(9,Dr),(10,dI w5),(11,.AK 3),(12,.AK 4),(13,LS),(14,V0),(15,fO),(16,dI x5)] (AoK a1 y5 a6 t5 u5 b6 c6 d6 e6 v5 g6 i6)
def AqL x y a1 t5 u5 v5 w5 x5 y5 a6 b6 c6 d6 e6 g6 i6:=λ(j6:Bool)=>xN 179 [(0,Ar x),(1,Bl y),(5,Aq),(8,AZ),(9,Dr),(10,dI w5),(11,.AK 3),(12,.AK 4),(13,LS),(14,V0),(15,fO),(16,dI x5),(77,dB j6)] (AoK a1 y5 a6 t5 u5 b6 c6 d6 e6 v5 g6 i6)
def HS(x:ASG)(y:ASK)(a1:ASz)(t5:ASG)(u5:ASK)(v5:ASJ)(w5 x5 y5 a6 b6 c6:Int)(d6 e6 g6 i6:ASC):ATP Bool:=
 (Fv (b6,g6,()) (y5,d6,())).bind λk6=>bif !k6 then
 some true
 else
 (Fv (c6,i6,()) (a6,e6,())).bind λl6=>bif !l6 then
 some true
 else
 some (x5 !=w5)
theorem AuL x y a1 t5 u5 v5 w5 x5 y5 a6 b6 c6 d6 e6 g6 i6:AX cr 0 17 (code f4) 65532 (AsA x y a1 t5 u5 v5 w5 x5 y5 a6 b6 c6 d6 e6 g6 i6) (HS x y a1 t5 u5 v5 w5 x5 y5 a6 b6 c6 d6 e6 g6 i6) (AqL x y a1 t5 u5 v5 w5 x5 y5 a6 b6 c6 d6 e6 g6 i6):=by
 unfold AX;simp only[HS,ASm];kernel_rfl
def AfC x y a1:=sT 179 [(0,Ar x),(1,Bl y),(5,Aq)] [.box (LR a1)]
def yV x y a1:=λ(n6:AS5)=>sT 179 [(0,Ar x),(1,Bl y),(5,Aq),(8,AZ),(9,Dr),(10,dI n6.1)] [.box (LR a1),.box (.pr (dI n6.2.1) nZ),.box (.pr (dI n6.2.2.1) gN),Bj n6.2.2.2.1,Bj n6.2.2.2.2]
def HR(x:ASG)(y:ASK)(a1:ASz):ATP AS5:=
 (Bz x).bind λo6=>(AL y).bind λq6=>(AF a1).bind λs6=>(A4 o6 q6 (s6,())).bind λt6=>some (t6.2.2.1,t6.1,t6.2.1,t6.2.2.2.1,t6.2.2.2.2)
theorem AuK(x:ASG)(y:ASK)(a1:ASz):MQ cr 0 11 (code f4) 1022 (AfC x y a1) (HR x y a1) (yV x y a1):=by
 unfold MQ;have h:re cr 0 11 (code f4) (pt 1022) (AfC x y a1) =
(λ(w_:_->St)=>(Bz x).bind λo6=>(AL y).bind λq6=>(AF a1).bind λs6=>(A4 o6 q6 (s6,())).bind λt6=>((((Bz x).bind λu6=>((AL y).bind λv6=>((AF a1).bind λw6=>((A4 u6 v6 (w6,())).bind λx6=>(C2 (w_ x6) (w_ t6)).bind λ_=>C2 (w_ x6) (w_ t6)).bind λ_=>(((A4 u6 v6 (w6,())).bind λy6=>C2 (w_ y6) (w_ t6)).bind λ_=>(A4 u6 v6 (w6,())).bind λa7=>C2 (w_ a7) (w_ t6)).bind λ_=>((A4 u6 v6 (w6,())).bind λb7=>C2 (w_ b7) (w_ t6)).bind λ_=>(A4 u6 v6 (w6,())).bind λc7=>C2 (w_ c7) (w_ t6)).bind λ_=>(((AF a1).bind λd7=>((A4 u6 v6 (d7,())).bind λe7=>C2 (w_ e7) (w_ t6)).bind λ_=>(A4 u6 v6 (d7,())).bind λg7=>C2 (w_ g7) (w_ t6)).bind λ_=>(AF a1).bind λi7 =>
(A4 u6 v6 (i7,())).bind λj7=>C2 (w_ j7) (w_ t6)).bind λ_=>((AF a1).bind λk7=>((A4 u6 v6 (k7,())).bind λl7=>C2 (w_ l7) (w_ t6)).bind λ_=>(A4 u6 v6 (k7,())).bind λn7=>C2 (w_ n7) (w_ t6)).bind λ_=>(AF a1).bind λo7 =>
(A4 u6 v6 (o7,())).bind λq7=>C2 (w_ q7) (w_ t6)).bind λ_=>(((AL y).bind λs7=>((AF a1).bind λt7=>((A4 u6 s7 (t7,())).bind λu7=>C2 (w_ u7) (w_ t6)).bind λ_=>(A4 u6 s7 (t7,())).bind λv7=>C2 (w_ v7) (w_ t6)).bind λ_=>(AF a1).bind λw7 =>
(A4 u6 s7 (w7,())).bind λx7=>C2 (w_ x7) (w_ t6)).bind λ_=>(AL y).bind λy7 =>
(AF a1).bind λa8 =>
(A4 u6 y7 (a8,())).bind λb8=>C2 (w_ b8) (w_ t6)).bind λ_=>((AL y).bind λc8=>((AF a1).bind λd8=>((A4 u6 c8 (d8,())).bind λe8=>C2 (w_ e8) (w_ t6)).bind λ_=>(A4 u6 c8 (d8,())).bind λg8=>C2 (w_ g8) (w_ t6)).bind λ_=>(AF a1).bind λi8 =>
(A4 u6 c8 (i8,())).bind λj8=>C2 (w_ j8) (w_ t6)).bind λ_=>(AL y).bind λk8 =>
(AF a1).bind λl8 =>
(A4 u6 k8 (l8,())).bind λn8=>C2 (w_ n8) (w_ t6)).bind λ_=>(((Bz x).bind λo8=>((AL y).bind λq8=>((AF a1).bind λs8=>((A4 o8 q8 (s8,())).bind λt8=>C2 (w_ t8) (w_ t6)).bind λ_=>(A4 o8 q8 (s8,())).bind λu8=>C2 (w_ u8) (w_ t6)).bind λ_=>(AF a1).bind λv8 =>
(A4 o8 q8 (v8,())).bind λw8=>C2 (w_ w8) (w_ t6)).bind λ_=>(AL y).bind λx8 =>
(AF a1).bind λy8 =>
(A4 o8 x8 (y8,())).bind λa9=>C2 (w_ a9) (w_ t6)).bind λ_=>(Bz x).bind λb9 =>
(AL y).bind λc9 =>
(AF a1).bind λd9 =>
(A4 b9 c9 (d9,())).bind λe9=>C2 (w_ e9) (w_ t6)).bind λ_=>((Bz x).bind λg9=>((AL y).bind λi9=>((AF a1).bind λj9=>((A4 g9 i9 (j9,())).bind λk9=>C2 (w_ k9) (w_ t6)).bind λ_=>(A4 g9 i9 (j9,())).bind λl9=>C2 (w_ l9) (w_ t6)).bind λ_=>(AF a1).bind λn9 =>
(A4 g9 i9 (n9,())).bind λo9=>C2 (w_ o9) (w_ t6)).bind λ_=>(AL y).bind λq9 =>
(AF a1).bind λs9 =>
(A4 g9 q9 (s9,())).bind λt9=>C2 (w_ t9) (w_ t6)).bind λ_=>(Bz x).bind λu9 =>
(AL y).bind λv9 =>
(AF a1).bind λw9 =>
(A4 u9 v9 (w9,())).bind λx9=>C2 (w_ x9) (w_ t6)).bind λ_=>some (yV x y a1 (t6.2.2.1,t6.1,t6.2.1,t6.2.2.2.1,t6.2.2.2.2)))) (λv_=>yV x y a1 (v_.2.2.1,v_.1,v_.2.1,v_.2.2.2.1,v_.2.2.2.2)):=by kernel_rfl
 rw[h];unfold HR;simp only[ASm,mS,mO];clear h;cases GM:Bz x with
 |none=>rfl
 |some o6 =>
  simp only[AP9];cases Pk:AL y with
  |none=>rfl
  |some q6 =>
   simp only[AP9];cases oN:AF a1 with
   |none=>rfl
   |some s6 =>
    simp only[AP9];cases hc3:A4 o6 q6 (s6,())with
    |none=>rfl
    |some t6 =>
     simp only[AP9];simp only[GM,Pk,oN,hc3,AQV,AP9,DY,DD]
def Kx(x:ASG)(y:ASK)(a1:ASz):ATP Bool:=
 (UR x 1048576).bind λy9=>bif decide (y9<0)then
 some true
 else
 (Pz y y9).bind λa10=>bif decide (a10<0)then
 some true
 else
 (Qz a1 a10).bind λb10=>bif decide (b10<0)then
 some true
 else
 (HR x y a1).bind λn6=>(Bz x).bind λt5=>(AL y).bind λu5=>(AF a1).bind λv5=>(A1 t5 u5 (v5,())).bind λgU=>(HS x y a1 t5 u5 v5 n6.1 gU.2.2.1 n6.2.1 n6.2.2.1 gU.1 gU.2.1 n6.2.2.2.1 n6.2.2.2.2 gU.2.2.2.1 gU.2.2.2.2).bind λj6=>bif j6 then
 some false
 else
 (Bz x).bind λd10=>(UQ t5 d10).bind λe10=>bif !e10 then
 some false
 else
 (AL y).bind λg10=>(Py u5 g10).bind λi10=>bif !i10 then
 some false
 else
 (AF a1).bind λj10=>(Kb (v5,()) (j10,())).bind λk10=>bif !k10 then
 some false
 else
 (M8 1 t5).bind λl10=>(Iz l10.1 u5).bind λn10=>(O5 n10.1 v5).bind λo10=>(HT x y a1 n6.1 gU.2.2.1 o10.1 n6.2.1 n6.2.2.1 gU.1 gU.2.1 n6.2.2.2.1 n6.2.2.2.2 gU.2.2.2.1 gU.2.2.2.2).bind λo5=>bif o5 then
 some false
 else
 (Lv gU.1 1 gU.2.2.2.1).bind λq10=>(Lv gU.2.1 q10.1 gU.2.2.2.2).bind λs10=>(GQ (gU.1,q10.2,()) 1).bind λt10=>bif decide (t10<0)then
 some false
 else
 (GQ (gU.2.1,s10.2,()) t10).bind λu10=>bif decide (u10<0)then
 some false
 else
 bif u10 !=s10.1 then
 some false
 else
 (HU x y a1 n6.1 s10.1 n6.2.1 n6.2.2.1 gU.1 gU.2.1 n6.2.2.2.1 n6.2.2.2.2 q10.2 s10.2).bind λo1=>(HV n6.1 s10.1 o1.1 n6.2.1 n6.2.2.1 gU.1 gU.2.1 o1.2.1 o1.2.2.1 n6.2.2.2.1 n6.2.2.2.2 q10.2 s10.2 o1.2.2.2.1 o1.2.2.2.2).bind λu=>bif u then
 some false
 else
 (GQ (gU.1,q10.2,()) 1).bind λv10=>bif decide (v10<0)then
 some false
 else
 (GQ (gU.2.1,s10.2,()) v10).bind λw10=>bif decide (w10<0)then
 some false
 else
 bif w10 !=s10.1 then
 some false
 else
 some true
theorem laws_FnExactForced_run R (x:ASG) (y:ASK) (a1:ASz) K:TT cr f4 R [Ar x,Bl y,LR a1] [] K=(Kx x y a1).bind λr=>K (dB r) []:=by
 simp(disch:=refine id ?_;kernel_rfl) only[Kx,ASn,Tv (AuK ..) (K:=A2 cr f4 0 R K),Bf (AuL ..) (K:=A2 cr f4 0 R K),Bf (AuM ..) (K:=A2 cr f4 0 R K),Tv (AuN ..) (K:=A2 cr f4 0 R K),Bf (AuO ..) (K:=A2 cr f4 0 R K)];kernel_rfl
theorem laws_FnExactForced_ok:Jz prog cr:=(pk ⟨Avs,Avt,Ak4,Ak5,Ala,Alc,Ald,Ale,Aa9,Alf,Aba,Alg,Abb,Abc,Alh,Ali,Alj,trivial⟩)
end
end Go.Proofs.X
namespace Go.Va
def Ay{A:Type}(x:ATP A)(Q:A->Prop):Prop:=∃a,x=some a/\Q a
section
variable {A B S T:Type} {x y:ATP A} {P Q:A->Prop}
theorem Ay.mk{a:A}(h:Q a):Ay (some a) Q:=⟨a,rfl,h⟩
theorem Ay.of{a:A}(h:x=some a)(hq:Q a):Ay x Q:=⟨a,h,hq⟩
theorem Ay.eq_{a:A}(h:Ay x (·=a)):x=some a:=by obtain⟨b,h1,h2⟩:=h;rw[h1,h2]
theorem Ay.mono(h:Ay x P)(hq:∀a,P a->Q a):Ay x Q:=by obtain⟨a,h1,h2⟩:=h;exact⟨a,h1,hq a h2⟩
theorem Ay.bind{R:B->Prop}{f:A->ATP B}(h:Ay x P)(k:∀a,P a->Ay (f a) R):Ay (x.bind f) R:=by
 obtain⟨a,h1,h2⟩:=h;rw[h1];exact k a h2
theorem Ay.cond{c:Bool}(h1:c=true->Ay x Q)(h2:c=false->Ay y Q):Ay (bif c then x else y) Q:=by
 cases c
 ·exact h2 rfl
 ·exact h1 rfl
theorem Ay.ite{c:Prop}[Decidable c](hc:c)(h:Ay x Q):Ay (if c then x else none) Q:=by rw[AQr hc];exact h
theorem Ay.elim{R:B->Prop}{C D:Type}{f:C->ATP B}{g:D->ATP B}{z:C⊕D}(h1:∀c,z=.inl c->Ay (f c) R)(h2:∀d,z=.inr d->Ay (g d) R):Ay (Sum.elim f g z) R:=by
 cases z with
 |inl c=>exact h1 c rfl
 |inr d=>exact h2 d rfl
theorem BB{f:S->ATP (S⊕T)}(I:Nat->S->Prop){Q:T->Prop}(step:∀n s,I n s->Ay (f s) λr=>match r with |.inl s'=>∃m,m<n/\I m s' |.inr t=>Q t):∀n s,I n s->Ay (fix f s) Q:=by
 intro n;induction n using Nat.strongRecOn with
 |_ n ih =>
  intro s hI;obtain⟨r,h1,h2⟩:=step n s hI;cases r with
  |inl s' =>
   obtain⟨m,hm,hI'⟩:=h2;rw[OW h1];exact ih m hm s' hI'
  |inr t=>exact⟨t,K9 h1,h2⟩
theorem Abw{f:S->ATP (S⊕T)}(st:Nat->S){t:T}:∀(n k:Nat),(∀i,k<=i->i<k+n->f (st i)=some (.inl (st (i+1))))->f (st (k+n))=some (.inr t)->fix f (st k)=some t
 |0,k,_,he=>K9 he
 |n+1,k,hs,he=>by
  rw[OW (hs k (AQf _) (by omega))];exact Abw st n (k+1) (λi h1 h2=>hs i (by omega) (by omega)) (by rw[show k+1+n=k+(n+1) by omega];exact he)
theorem AW{f:S->ATP (S⊕T)}(st:Nat->S){t:T}(n:Nat)(hs:∀i,i<n->f (st i)=some (.inl (st (i+1))))(he:f (st n)=some (.inr t)):fix f (st 0)=some t :=
 Abw st n 0 (λi _ h=>hs i (by omega)) (by rw[AQF];exact he)
end
theorem BU{x:Int}(h1:-9223372036854775808<=x:=by omega)(h2:x<9223372036854775808:=by omega):wI x=x:=by
 simp only[wI,IntKind.wrap,IntKind.bits,IntKind.signed];simp;omega
theorem tv{x:Int}(h1:0<=x)(h2:x<18446744073709551616):IntKind.u64.wrap x=x:=by
 simp only[wI,IntKind.wrap,IntKind.bits,IntKind.signed];simp;omega
theorem qb{k n:Nat}(hk:k<n)(hn:n<=maxLen):wI ((k:Int)+1)=((k+1:Nat):Int):=by
 unfold maxLen at hn;rw[BU];omega
def YJ{A:Type}(F:A->A->ATP Bool)(a:A):Prop:=∀b,Ay (F a b) λr=>r=true↔a=b
theorem Abv{A:Type}{F:A->A->ATP Bool}{z:A}{a b:ATO A}(hl:a.length=b.length)(hn:a.length<=maxLen)(hF:∀x∈a,YJ F x){f:Int->ATP (Int⊕(Unit⊕Unit))}
    (hs:∀k:Nat,k<a.length->f (k:Int)=(F (a.getD k z) (b.getD k z)).bind λr=>bif !r then some (.inr (.inl ()))else some (.inl (wI ((k:Int)+1)))) (he:f (a.length:Int)=some (.inr (.inr ()))) :
    Ay (fix f 0) λt=>(t=.inr ()/\a=b)\/(t=.inl ()/\a≠b):=by
 refine BB (λm (i:Int)=>∃k:Nat,i=(k:Int)/\k<=a.length/\m=a.length-k/\a.take k=b.take k) (λm i hI=>?_) (a.length) 0 ⟨0,rfl,AQW _,rfl,rfl⟩;obtain⟨k,rfl,hk,rfl,ht⟩:=hI;rcases AQk k a.length with h |h
 ·rw[hs k h];have ha:a.getD k z=a[k]:=by simp[List.getD,h]
  have hb:b.getD k z=b[k]'(by omega):=by simp[List.getD,show k<b.length by omega]
  refine Ay.bind (hF (a.getD k z) (by rw[ha];exact AQR h) (b.getD k z)) λr hr=>?_;cases r with
  |false =>
   refine Ay.mk (.inr ⟨rfl,λe=>?_⟩);have:a.getD k z=b.getD k z:=by rw[e]
   have:=hr.2 this;cases this
  |true =>
   have e:=hr.1 rfl;refine Ay.mk ⟨a.length-(k+1),by omega,k+1,qb h hn,h,rfl,?_⟩;rw[AQ5 h,AQ5 (show k<b.length by omega),ht,<-ha,<-hb,e]
 ·have XC:k=a.length:=by omega
  subst XC;rw[he];refine Ay.mk (.inl ⟨rfl,?_⟩);rw[AQj (AQf _),AQj (by omega)]at ht;exact ht
end Go.Va
namespace Go.Va
theorem Di{k n:Nat}(h:k<n):decide ((k:Int)<(n:Int))=true:=by simp;exact h
theorem Ew(n:Nat):decide ((n:Int)<(n:Int))=false:=by simp
theorem Bq{k n:Nat}(h:k<n):(0:Int)<=(k:Int)/\(k:Int)<(n:Int):=⟨by omega,by omega⟩
theorem eR{A:Type}{F:A->A->ATP Bool}{z:A}{G:ATO A->ATO A->ATP Bool}{r:ATO A->ATO A->Int->ATP (Int⊕(Unit⊕Unit))}
    (hG:∀a b,G a b=bif (a.length:Int) !=(b.length:Int)then some false else(fix (r a b) 0).bind (Sum.elim (λ_=>some false) λ_=>some true))
    (hr:∀a b i,r a b i=bif decide (i<(a.length:Int))then(if(0:Int)<=i/\i<(a.length:Int)then(if(0:Int)<=i/\i<(b.length:Int)then
     (F (a.getD i.toNat z) (b.getD i.toNat z)).bind λq=>bif !q then some (.inr (.inl ()))else some (.inl (wI (i+1)))else none)else none)else some (.inr (.inr ())))
    {a:ATO A} (hn:a.length<=maxLen) (hF:∀x∈a,YJ F x):YJ G a:=by
 intro b;rw[hG];refine Ay.cond (λh=>Ay.mk ⟨λh=>by(cases h),λe=>?_⟩) λh=>?_
 ·subst e;simp at h
 ·have hl:a.length=b.length:=by
    have:(a.length:Int)=(b.length:Int):=by simpa using h
    omega
  refine Ay.bind (Abv (z:=z) hl hn hF (λk hk=>?_) ?_) λt ht=>?_
  ·rw[hr,Di hk,AQp,AQr (Bq hk),AQr (Bq (by omega))];rfl
  ·rw[hr,Ew,AQo]
  ·rcases ht with ⟨rfl,e⟩|⟨rfl,e⟩
   ·exact Ay.mk ⟨λ_=>e,λ_=>rfl⟩
   ·exact Ay.mk ⟨λh=>by(cases h),λh=>(e h).elim⟩
end Go.Va
namespace Go.Proofs.X
open Go Go.Va
set_option maxRecDepth 100000
theorem Xz(s t:ByteArray):Jf s t=true↔s=t:=by
 unfold Jf;rw[ByteArray.toList_eq,ByteArray.toList_eq,ARd];constructor
 ·intro h;cases s with
  |mk a=>cases t with
   |mk b=>simp at h;rw[h]
 ·rintro rfl;rfl
theorem rj{a:ASC}(hn:a.length<=maxLen):YJ Q9 a :=
 eR (F:=λx y=>some (x==y)) (z :=ATz.zero) (r:=Js) (λ_ _=>rfl) (λ_ _ _=>rfl) hn λx _ y=>Ay.mk (by simp)
theorem vd{a:ASC}(hn:a.length<=maxLen):YJ Td a :=
 eR (F:=λx y=>some (x==y)) (z :=ATy.zero) (r:=Ky) (λ_ _=>rfl) (λ_ _ _=>rfl) hn λx _ y=>Ay.mk (by simp)
theorem eQ{a:ASv}(h:Ty.Wf Ai a):YJ Fv a:=by
 intro b;obtain⟨w,ws,_⟩:=a;obtain⟨w',mQ,_⟩:=b;unfold Fv;refine Ay.cond (λh1=>Ay.mk (by simp at h1;simp[h1])) λh1=>Ay.bind (rj h.2.1.1 mQ) λr hr=>Ay.cond (λh2=>Ay.mk (by simp at h1 h2;simp_all)) λh2=>Ay.mk (by simp at h1 h2;simp_all)
theorem Adf(a:ASq):YJ (λx y=>some (M7 x y)) a:=by
 intro b;obtain⟨n,w,_⟩:=a;obtain⟨n',w',_⟩:=b;refine Ay.mk ?_;simp[M7,Xz]
theorem zx{a:ASG}(h:Ty.Wf ATE a):YJ UQ a :=
 eR (F:=λx y=>some (M7 x y)) (z :=Ab.zero) (r:=Mb) (λ_ _=>rfl) (λ_ _ _=>rfl) h.1 λx hx=>Adf x
theorem zy{a:ASt}(h:Ty.Wf Ag a):YJ NR a:=by
 intro b;obtain⟨o,v,A,B,x,k,_⟩:=a;obtain⟨o',v',A',B',x',k',_⟩:=b;unfold NR;refine Ay.cond (λh1=>Ay.mk (by simp at h1;simp[h1])) λh1=>Ay.cond (λh2=>Ay.mk (by simp at h1 h2;simp[h2])) λh2=>Ay.cond (λh3=>Ay.mk (by simp at h1 h3;simp[h3])) λh3=>Ay.cond (λh3=>Ay.mk (by simp at h1 h3;simp[h3])) λh5 =>
  Ay.bind (eQ h.2.2.2.2.1 x') λr hr=>Ay.cond (λh4=>Ay.mk (by simp at h1 h2 h3 h4;simp_all)) λh4=>Ay.bind (vd h.2.2.2.2.2.1.1 k') λr2 hr2=>Ay.cond (λh6=>Ay.mk (by simp at h1 h2 h3 h4 h6;simp_all)) λh6=>Ay.mk (by simp at h1 h2 h3 h4 h5 h6;simp_all)
theorem ve{a:ASJ}(h:Ty.Wf ATK a):YJ Te a :=
 eR (F:=NR) (z :=Ag.zero) (r:=Kz) (λ_ _=>rfl) (λ_ _ _=>rfl) h.1 λx hx=>zy (h.2 x hx)
theorem eU{a:ASz}(h:Ty.Wf Ap a):YJ Kb a:=by
 intro b;obtain⟨n,_⟩:=a;obtain⟨n',_⟩:=b;unfold Kb;refine Ay.bind (ve h.1 n') λr1 gd=>Ay.cond (λh1=>Ay.mk (by simp at h1;simp_all)) λh1=>Ay.mk (by simp at h1;simp_all)
theorem ri{a:ASu}(h:Ty.Wf Ah a):YJ JM a:=by
 intro b;obtain⟨i,e,s,t,_⟩:=a;obtain⟨i',e',s',t',_⟩:=b;unfold JM;refine Ay.cond (λh1=>Ay.mk (by simp at h1;simp[h1])) λh1=>Ay.cond (λh2=>Ay.mk (by simp at h1 h2;simp[h2])) λh2 =>
  Ay.bind (eU h.2.2.1 s') λr hr=>Ay.cond (λh4=>Ay.mk (by simp at h1 h2 h4;simp_all)) λh4=>Ay.bind (eU h.2.2.2.1 t') λr2 hr2=>Ay.cond (λh6=>Ay.mk (by simp at h1 h2 h4 h6;simp_all)) λh6=>Ay.mk (by simp at h1 h2 h4 h6;simp_all)
theorem mZ{a:ASK}(h:Ty.Wf ATG a):YJ Py a :=
 eR (F:=JM) (z :=Ah.zero) (r:=Ix) (λ_ _=>rfl) (λ_ _ _=>rfl) h.1 λx hx=>ri (h.2 x hx)
end Go.Proofs.X
namespace Go.Va
open Go.Proofs.X
def wt:(t:Ty)->t.V->Nat
 |.str,s=>s.size
 |.AG a b,x=>wt a x.1+wt b x.2
 |.sl t,xs=>xs.length+(xs.map (wt t)).sum
 |.int _,_=>0
 |.bool,_=>0
 |.unit,_=>0
 |.R4 _,_=>0
def gT(t:Ty)(F:t.V->Int->ATP Int)(x:t.V):Prop:=∀left:Int,0<=left->left<=1048576->F x left=some (if(wt t x:Int)<=left then left-(wt t x:Int)else -1)
theorem AaC{t:Ty}{F:t.V->Int->ATP Int}{z:t.V}{G:ATO t.V->Int->ATP Int}{r:ATO t.V->Int×Int->ATP (AS1⊕(Int⊕Int))}
    (hG:∀a left,G a left=bif decide ((wI (left-(a.length:Int)))<0)then some (-1)else(fix (r a) (wI (left-(a.length:Int)),0)).bind (Sum.elim (λ_=>some (-1)) λy=>some y))
    (hr:∀a x,r a x=bif decide (x.2<(a.length:Int))then(if(0:Int)<=x.2/\x.2<(a.length:Int)then
     (F (a.getD x.2.toNat z) x.1).bind λq=>bif decide (q<0)then some (.inr (.inl q))else some (.inl (q,wI (x.2+1)))else none)else some (.inr (.inr x.1)))
    {a:ATO t.V} (hn:a.length<=maxLen) (hF:∀x∈a,gT t F x):gT (.sl t) G a:=by
 intro left h0 h1;have hm:maxLen=140737488355327\/True:=.inr trivial;have hw:wI (left-(a.length:Int))=left-(a.length:Int):=by unfold maxLen at hn;exact BU
 rw[hG,hw];have hwt:wt (.sl t) a=a.length+(a.map (wt t)).sum:=rfl;rw[hwt];by_cases AGp:left-(a.length:Int)<0
 ·rw[show decide (left-(a.length:Int)<0)=true by simpa using AGp,AQp,QK]
 ·rw[show decide (left-(a.length:Int)<0)=false by simpa using AGp,AQo];have key:Ay (fix (r a) (left-(a.length:Int),0)) λy=>(∃q,y=.inl q/\left<((a.length+(a.map (wt t)).sum:Nat):Int))\/y=.inr (left-((a.length+(a.map (wt t)).sum:Nat):Int))/\((a.length+(a.map (wt t)).sum:Nat):Int)<=left:=by
   refine BB (λm (x:Int×Int)=>∃k:Nat,x.2=(k:Int)/\k<=a.length/\m=a.length-k/\x.1=left-(a.length:Int)-(((a.take k).map (wt t)).sum:Nat)/\0<=x.1) (λm x hI=>?_) a.length _ ⟨0,rfl,AQW _,rfl,by simp,by show 0<=left-(a.length:Int);omega⟩;obtain⟨l,i⟩:=x;obtain⟨k,hk1,hk,rfl,hl,iK⟩:=hI;simp only at hk1 hl iK;subst hk1;rw[hr];simp only;rcases AQk k a.length with h |h
   ·rw[Di h,AQp,AQr (Bq h)];have ha:a.getD k z=a[k]:=by simp[List.getD,h]
    have Aid:((a.take (k+1)).map (wt t)).sum=((a.take k).map (wt t)).sum+wt t a[k]:=by
     rw[AQ5 h,AQT,AR0];simp
    have AKo:((a.take (k+1)).map (wt t)).sum<=(a.map (wt t)).sum:=by
     conv=>rhs;rw[<-ARj (k+1) a,AQT,AR0]
     omega
    rw[show(k:Int).toNat=k from AQa k,ha,hF _ (AQR h) l iK (by omega),AP9];split
    ·rename_i S5;rw[show decide (l-(wt t a[k]:Int)<0)=false by simpa using S5,AQo];exact Ay.mk ⟨a.length-(k+1),by omega,k+1,qb h hn,h,rfl,by rw[Aid,hl];push_cast;omega,by show 0<=l-_;omega⟩
    ·rename_i hgt;refine Ay.mk (.inl ⟨_,rfl,?_⟩)
     push_cast
     rw[Aid]at AKo;omega
   ·have XC:k=a.length:=by omega
    subst XC;rw[Ew,AQo];rw[AQj (AQf _)]at hl;exact Ay.mk (.inr ⟨by rw[hl];push_cast;rw[Int.sub_sub],by push_cast;omega⟩)
  obtain⟨y,hy,hq⟩:=key;rw[hy];rcases hq with ⟨q,rfl,Bw⟩|⟨rfl,S5⟩
  ·rw[QK];rfl
  ·rw[AQr S5];rfl
end Go.Va
namespace Go.Proofs.X
open Go Go.Va
theorem Ace{A:Type}{xs:ATO A}{left:Int}(h0:0<=left)(h1:left<=1048576)(hn:xs.length<=maxLen):(bif decide ((wI (left-(xs.length:Int)))<0)then(-1)else wI (left-(xs.length:Int)))=if(xs.length:Int)<=left then left-(xs.length:Int)else -1:=by
 unfold maxLen at hn;rw[BU];split
 ·rw[show decide (left-(xs.length:Int)<0)=false by simp;omega];rfl
 ·rw[show decide (left-(xs.length:Int)<0)=true by simp;omega];rfl
theorem xB{A:Type}{f:A->Nat}(h:∀x,f x=0)(xs:ATO A):(xs.map f).sum=0:=by
 induction xs with
 |nil=>rfl
 |cons x xs ih=>simp[h,ih]
theorem AaO(a:ASC):wt ATI a=a.length:=congrArg (a.length+·) (xB (λ_=>rfl) a)
theorem AaN(a:ASC):wt ATD a=a.length:=congrArg (a.length+·) (xB (λ_=>rfl) a)
theorem sZ{a:ASC}(hn:a.length<=maxLen):gT ATI (λx l=>some (CW x l)) a:=λleft h0 h1=>by
 show some (CW a left)=_;rw[CW,Ace h0 h1 hn,AaO]
theorem xC{a:ASC}(hn:a.length<=maxLen):gT ATD (λx l=>some (Dq x l)) a:=λleft h0 h1=>by
 show some (Dq a left)=_;rw[Dq,Ace h0 h1 hn,AaN]
end Go.Proofs.X
namespace Go.Va
open Go.Proofs.X
section
variable {A B:Type} {Q:A->Prop} {x y:ATP A}
theorem TS{a:A}:Ay (some a) Q↔Q a:=⟨λ⟨_,h,q⟩=>by grind,λh=>⟨a,rfl,h⟩⟩
end
theorem B4{X S T:Type}{f:X->ATP (X⊕T)}(st:Nat->S->X)(n:Nat)(I:Nat->S->Prop){Q:T->Prop}
    (h:∀k s,k<n->I k s->Ay (f (st k s)) λr=>match r with |.inl x=>∃s',x=st (k+1) s'/\I (k+1) s' |.inr t=>Q t)
    (he:∀s,I n s->Ay (f (st n s)) λr=>match r with |.inl _=>False |.inr t=>Q t) {s0:S} (h0:I 0 s0):Ay (fix f (st 0 s0)) Q:=by
 refine BB (λm x=>∃k s,x=st k s/\k<=n/\m=n-k/\I k s) (λm x hI=>?_) n _ ⟨0,s0,rfl,AQW _,rfl,h0⟩;obtain⟨k,s,rfl,hk,rfl,hI⟩:=hI;rcases AQk k n with Bw |ag
 ·refine(h k s Bw hI).mono λr hr=>?_;cases r with
  |inl x =>
   obtain⟨s',rfl,hI'⟩:=hr;exact⟨n-(k+1),by omega,k+1,s',rfl,Bw,rfl,hI'⟩
  |inr t=>grind
 ·have:k=n:=by omega
  subst this;refine(he s hI).mono λr hr=>?_
  grind
def QG(x:Int):Prop:=0<=x/\x<18446744073709551616
def tb(x:Int)(j:Nat):Bool:=x.toNat.testBit j
theorem QG.toNat{x:Int}(h:QG x):x.toNat<2^64:=by unfold QG at h;omega
theorem QG.of{n:Nat}(h:n<2^64):QG (n:Int):=by unfold QG;omega
theorem Z1{x:Int}(h:QG x){j:Nat}(hj:64<=j):tb x j=false :=
 Nat.testBit_lt_two_pow (AQL h.toNat (Nat.pow_le_pow_right (by decide) hj))
theorem QG.ext{x y:Int}(hx:QG x)(hy:QG y)(h:∀j,j<64->tb x j=tb y j):x=y:=by
 have :=Nat.eq_of_testBit_eq λj=>by
  rcases AQk j 64 with hj |hj
  ·exact h j hj
  ·exact(Z1 hx hj).trans (Z1 hy hj).symm
 unfold QG at hx hy;omega
theorem mq{n:Nat}(h:n<2^64):IntKind.u64.wrap (n:Int)=(n:Int):=tv (by omega) (by omega)
theorem Wo{x:Int}(h:QG x):(BitVec.ofInt 64 x).toNat=x.toNat:=by
 unfold QG at h;simp;omega
theorem AiQ{a b:Int}(ha:QG a)(hb:QG b):fC .u64 a b=((a.toNat ||| b.toNat:Nat):Int):=by
 show IntKind.u64.wrap (((BitVec.ofInt 64 a ||| BitVec.ofInt 64 b).toNat))=_;rw[mq (BitVec.isLt _),BitVec.toNat_or,Wo ha,Wo hb]
theorem Aa1{a b:Int}(ha:QG a)(hb:QG b):cA .u64 a b=((a.toNat &&& b.toNat:Nat):Int):=by
 show IntKind.u64.wrap (((BitVec.ofInt 64 a &&& BitVec.ofInt 64 b).toNat))=_;rw[mq (BitVec.isLt _),BitVec.toNat_and,Wo ha,Wo hb]
theorem mj{a b:Int}(ha:QG a)(hb:QG b):QG (fC .u64 a b):=by
 rw[AiQ ha hb];exact .of (Nat.or_lt_two_pow ha.toNat hb.toNat)
theorem Ack{a b:Int}(ha:QG a)(hb:QG b):QG (cA .u64 a b):=by
 rw[Aa1 ha hb];exact .of (Nat.and_lt_two_pow _ hb.toNat)
theorem xG{a b:Int}(ha:QG a)(hb:QG b)(j:Nat):tb (fC .u64 a b) j=(tb a j||tb b j):=by
 rw[AiQ ha hb,tb,AQa,Nat.testBit_or];rfl
theorem AjM{a b:Int}(ha:QG a)(hb:QG b)(j:Nat):tb (cA .u64 a b) j=(tb a j&&tb b j):=by
 rw[Aa1 ha hb,tb,AQa,Nat.testBit_and];rfl
theorem Ab9{a:Int}(ha:QG a){s:Int}{n:Nat}(hs:s=(n:Int))(hn:n<=64):SF .u64 a s=((a.toNat/2^n:Nat):Int):=by
 subst hs;unfold QG at ha;obtain⟨m,rfl⟩:∃m:Nat,a=m:=⟨a.toNat,by omega⟩;have h:SF .u64 _ n=Int.fdiv m (2^min _ 64):=rfl
 grind
theorem dU{a:Int}(ha:QG a){s:Int}{n:Nat}(hs:s=(n:Int))(hn:n<=64):QG (SF .u64 a s):=by
 rw[Ab9 ha hs hn];exact .of (Nat.lt_of_le_of_lt (Nat.div_le_self _ _) ha.toNat)
theorem bW{a:Int}(ha:QG a){s:Int}{n:Nat}(hs:s=(n:Int))(hn:n<=64)(j:Nat):tb (SF .u64 a s) j=tb a (j+n):=by
 rw[Ab9 ha hs hn,tb,AQa,Nat.testBit_div_two_pow,tb]
theorem sL{a:Int}(ha:QG a){s:Int}{n:Nat}(hs:s=(n:Int))(hn:n<=64):NS .u64 a s=((a.toNat*2^n%18446744073709551616:Nat):Int):=by
 subst hs;unfold QG at ha;obtain⟨m,rfl⟩:∃m:Nat,a=m:=⟨a.toNat,by omega⟩;have h:NS .u64 _ n=IntKind.u64.wrap (m*2^min _ 64):=rfl;have hw:∀x ,IntKind.u64.wrap x=x%18446744073709551616:=λx=>by simp[IntKind.wrap,IntKind.bits,IntKind.signed]
 grind
theorem ja{a:Int}(ha:QG a){s:Int}{n:Nat}(hs:s=(n:Int))(hn:n<=64):QG (NS .u64 a s):=by
 rw[sL ha hs hn];exact .of (Nat.mod_lt _ (by omega))
theorem tf{a:Int}(ha:QG a){s:Int}{n:Nat}(hs:s=(n:Int))(hn:n<=64)(j:Nat):tb (NS .u64 a s) j=(decide (j<64)&&(decide (n<=j)&&tb a (j-n))):=by
 rw[sL ha hs hn,tb,AQa,show 18446744073709551616=2^64 from by decide,Nat.testBit_mod_two_pow,Nat.testBit_mul_two_pow,tb]
theorem X7(j:Nat):tb 0 j=false:=by simp[tb]
theorem Zt:QG 0:=by unfold QG;omega
theorem Yb:QG 1:=by unfold QG;omega
theorem AbX{s:Int}{n:Nat}(hs:s=(n:Int))(hn:n<64):IntKind.u64.wrap (NS .u64 1 s-1)=((2^n-1:Nat):Int):=by
 have h1 :=Nat.two_pow_pos n;have h2:2^n<2^64:=Nat.pow_lt_pow_right (by decide) hn;rw[sL Yb hs (by omega)];rw[show(1:Int).toNat*2^n%18446744073709551616=2^n by grind];rw[show((2^n:Nat))-1=((2^n-1:Nat):Int) by omega];exact mq (by omega)
theorem AjS{s:Int}{n:Nat}(hs:s=(n:Int))(hn:n<64):QG (IntKind.u64.wrap (NS .u64 1 s-1)):=by
 have h2:2^n<2^64:=Nat.pow_lt_pow_right (by decide) hn;rw[AbX hs hn];exact .of (by omega)
theorem Am8{s:Int}{n:Nat}(hs:s=(n:Int))(hn:n<64)(j:Nat):tb (IntKind.u64.wrap (NS .u64 1 s-1)) j=decide (j<n):=by
 rw[AbX hs hn,tb,AQa,Nat.testBit_two_pow_sub_one]
theorem AaE(j:Nat):tb 1 j=decide (j=0):=by
 show Nat.testBit 1 j=_;cases j with
 |zero=>rfl
 |succ j=>grind
theorem oG{a:Int}(ha:QG a):cA .u64 a 1=if tb a 0 then 1 else 0:=by
 refine QG.ext (Ack ha Yb) (by split<;>first |exact Yb |exact Zt) λj _=>?_
 rw[AjM ha Yb];by_cases h:j=0
 ·subst h;cases h:tb a 0<;>simp[X7]
 ·cases h':tb a 0<;>simp[AaE,X7,h]
def CQ(ws:ASC):Prop:=∀x∈ws,QG x
def bt(ws:ASC)(i:Nat):Bool:=tb (ws.getD (i/64) 0) (i%64)
theorem CQ.getD{ws:ASC}(h:CQ ws)(k:Nat):QG (ws.getD k 0):=by
 rcases AQk k _ with hk |hk
 ·rw[show ws.getD k 0=ws[k] by grind];exact h _ (AQR hk)
 ·rw[show ws.getD k 0=0 by grind];exact Zt
theorem CQ.set{ws:ASC}(h:CQ ws){k:Nat}{x:Int}(hx:QG x):CQ (ws.set k x):=λy hy=>by
 rcases List.mem_or_eq_of_mem_set hy with h' |rfl
 ·exact h y h'
 ·grind
theorem CQ.rep{n:Nat}:CQ (List.replicate n 0):=λx hx=>by rw[(List.mem_replicate.1 hx).2];exact Zt
theorem qJ(n i:Nat):bt (List.replicate n 0) i=false:=by
 unfold bt;rw[show(List.replicate n (0:Int)).getD _ 0=0 by grind];exact X7 _
theorem ZB{ws:ASC}{i:Nat}(h:64*ws.length<=i):bt ws i=false:=by
 unfold bt;rw[show ws.getD _ 0=0 by grind];exact X7 _
theorem YT{ws:ASC}{k:Nat}{x:Int}(hk:k<ws.length)(i:Nat):bt (ws.set k x) i=if i/64=k then tb x (i%64)else bt ws i:=by
 unfold bt
 grind
theorem QF{a b:ASC}(ha:CQ a)(hb:CQ b)(hl:a.length=b.length)(h:∀i,i<64*a.length->bt a i=bt b i):a=b:=by
 refine ARp hl λk h1 h2=>QG.ext (ha _ (AQR h1)) (hb _ (AQR h2)) λj hj=>?_;have:=h (64*k+j) (by omega);unfold bt at this
 grind
def pk(f:Nat->Bool):Nat->Nat
 |0=>0
 |n+1=>(if f n then 2^n else 0)+pk f n
theorem AiU(f:Nat->Bool):∀n,pk f n<2^n
 |0=>by simp[pk]
 |n+1=>by
  have:=AiU f n;unfold pk;split<;>omega
theorem Aai(f:Nat->Bool):∀n j,(pk f n).testBit j=(decide (j<n)&&f j)
 |0,j=>by simp[pk]
 |n+1,j=>by
  have hl:=AiU f n;unfold pk;cases hf:f n with
  |false =>
   simp only[AQX,ARA,AQF,Aai f n j]
   grind
  |true =>
   simp;rcases Nat.lt_trichotomy j n with h |h |h
   ·rw[Nat.testBit_two_pow_add_gt h,Aai f n j];simp[h];omega
   ·subst h;rw[Nat.testBit_two_pow_add_eq,Nat.testBit_lt_two_pow hl];simp[hf]
   ·rw[Nat.testBit_lt_two_pow (AQL (show 2^n+pk f n<2^(n+1) by omega) (Nat.pow_le_pow_right (by decide) h))];simp;omega
def eh(f:Nat->Bool)(m:Nat):ASC:=(List.range m).map λk=>(pk (λj=>f (64*k+j)) 64:Int)
theorem EC(f:Nat->Bool)(m:Nat):(eh f m).length=m:=by simp[eh]
theorem DL(f:Nat->Bool)(m:Nat):CQ (eh f m):=λx hx=>by
 obtain⟨k,_,rfl⟩:=List.mem_map.1 hx;exact .of (AiU _ _)
theorem lh(f:Nat->Bool)(m i:Nat):bt (eh f m) i=(decide (i<64*m)&&f i):=by
 rcases AQk i (64*m)with h |h
 ·unfold bt eh;rw[show((List.range m).map _).getD _ 0=(pk (λj=>f (64*(i/64)+j)) 64:Int) by
   grind,tb,AQa,Aai,show 64*(i/64)+i%64=i by omega]
  simp[h];omega
 ·rw[ZB (by rw[EC];exact h)];simp;omega
theorem AjU{ws:ASC}(h:CQ ws){f:Nat->Bool}(hf:∀i,i<64*ws.length->bt ws i=f i):ws=eh f ws.length :=
 QF h (DL _ _) (EC _ _).symm λi hi=>by rw[hf i hi,lh];simp[hi]
theorem AdO{f g:Nat->Bool}{m:Nat}(h:∀i,i<64*m->f i=g i):eh f m=eh g m :=
 QF (DL _ _) (DL _ _) (by rw[EC,EC]) λi hi=>by rw[EC]at hi;rw[lh,lh,h i hi]
def low(f:Nat->Bool)(n:Nat):Nat->Bool:=λi=>decide (i<n)&&f i
def nw(n:Nat):Nat:=(n+63)/64
end Go.Va
namespace Go.Proofs.X
open Go Go.Va
set_option maxRecDepth 100000
theorem bX{i:Nat}(h:i<4611686018427387904):wI (Int.tdiv (i:Int) 64)=((i/64:Nat):Int):=by
 rw[Int.tdiv_eq_ediv_of_nonneg (by omega),BU];omega
theorem WU(i:Nat):Int.tmod (i:Int) 64=((i%64:Nat):Int):=by
 rw[Int.tmod_eq_emod_of_nonneg (by omega)];omega
theorem Z4{n:Nat}(h:n<=1048576):wI (Int.tdiv (wI ((n:Int)+63)) 64)=((nw n:Nat):Int):=by
 rw[BU (x:=(n:Int)+63),show(n:Int)+63=((n+63:Nat):Int) by omega,bX (by omega)];rfl
def mkB(n:Nat)(f:Nat->Bool):ASv:=((n:Int),eh (low f n) (nw n),())
def bI(b:Bool):Int:=if b then 1 else 0
def oc(n:Nat)(ws:ASC):Prop:=1<=n/\n<=4096/\ws.length=nw n/\CQ ws/\∀i,n<=i->bt ws i=false
theorem oc.eq{n:Nat}{ws:ASC}(h:oc n ws):ws=eh (low (bt ws) n) (nw n):=by
 obtain⟨_,_,hl,hw,hz⟩:=h
 conv=>lhs;rw[AjU hw (f:=low (bt ws) n) λi hi=>by
  unfold low;by_cases h:i<n
  ·simp[h]
  ·rw[hz i (by omega)];simp]
 rw[hl]
theorem qH{n:Nat}{f:Nat->Bool}{i:Nat}(hi:i<n):bt (eh (low f n) (nw n)) i=f i:=by
 rw[lh];unfold nw low;simp[hi];omega
theorem Hj{n:Nat}{f:Nat->Bool}{i:Nat}:bt (eh (low f n) (nw n)) i=(decide (i<n)&&f i):=by
 by_cases h:i<n
 ·rw[qH h];simp[h]
 ·rw[lh];unfold low;simp[h]
theorem AdN{n:Nat}{f g:Nat->Bool}(h:∀i,i<n->f i=g i):mkB n f=mkB n g:=by
 unfold mkB;rw[AdO λi _=>show low f n i=low g n i by
  unfold low;by_cases hi:i<n
  ·simp[hi,h i hi]
  ·simp[hi]]
theorem kW{w:Int}{ws:ASC}(hw:CQ ws){i:Nat}(hi:i<64*ws.length)(hn:ws.length<=1048576):Jb (w,ws,()) (i:Int)=some (bI (bt ws i)):=by
 unfold Jb;rw[bX (by omega),WU,tv (by omega) (by omega)];rw[AQr ⟨by omega,by show((i/64:Nat):Int)<(ws.length:Int);omega⟩,QK,AQa];show some (IntKind.u8.wrap (cA .u64 (SF .u64 (ws.getD (i/64) 0) ((i%64:Nat):Int)) 1))=_;rw[show IntKind.u8.wrap (cA .u64 (SF .u64 (ws.getD (i/64) 0) ((i%64:Nat):Int)) 1)=bI (bt ws i) by
  rw[oG (dU (hw.getD _) rfl (by omega)),bW (hw.getD _) rfl (by omega),AQF];show IntKind.u8.wrap (bI (bt ws i))=_;cases bt ws i<;>rfl]
theorem AjV{ws:ASC}(h:∀x∈ws,(IntKind.u64).min<=x/\x<=(IntKind.u64).max):CQ ws:=λx hx=>by
 have:=h x hx;unfold QG;simp only[IntKind.min,IntKind.max,IntKind.bits,IntKind.signed]at this;simp at this;omega
theorem nQ{w:Int}{ws:ASC}(hw:CQ ws)(hn:ws.length<=1048576):Ay (QA (w,ws,())) λr=>r=true↔∃n:Nat,w=(n:Int)/\oc n ws:=by
 unfold QA OQ;refine Ay.cond (λh=>Ay.mk ?_) λh=>?_
 ·simp only[AQX,false_iff,not_exists,not_and]
  rintro n rfl ⟨h1,h2,h3,_⟩
  unfold nw at h3;simp only[BO,Z4 (show n<=1048576 by omega),ARr,ARv,ARM,AQ0,ART]at h;unfold nw at h;omega
 ·have hb:1<=w/\w<=4096:=by
    simp only[BO,ARc,Bool.not_eq_false',AQg,ARo]at h;omega
  obtain⟨n,rfl⟩:∃n:Nat,w=(n:Int):=⟨w.toNat,by omega⟩;have hl:ws.length=nw n:=by
   simp only[ARc,ARF]at h;have h:=h.2;rw[Z4 (by omega)]at h;omega
  have key:Ay (VJ ((n:Int),ws,()) (n:Int)) λt=>(t=.inl ()/\¬∀i,n<=i->bt ws i=false)\/(t=.inr ()/\∀i,n<=i->bt ws i=false):=by
   have S5:n<=64*ws.length:=by rw[hl];unfold nw;omega
   have hwr:wI (64*(ws.length:Int))=((64*ws.length:Nat):Int):=by
    rw[BU];omega
   refine B4 (λk (_:Unit)=>((n+k:Nat):Int)) (64*ws.length-n) (λk _=>∀i,n<=i->i<n+k->bt ws i=false) (λk _ hk hI=>?_) (λ_ hI=>?_) (s0:=()) (λi h1 h2=>by omega)
   ·unfold JS NT;rw[show wI (64*((((n:Int),ws,()):ASv).2.1.length:Int))=((64*ws.length:Nat):Int)from hwr,Di (by omega),AQp,kW hw (by omega) hn,AP9];cases hb:bt ws (n+k)with
    |true=>exact Ay.mk (.inl ⟨rfl,λh=>by rw[h _ (by omega)]at hb;cases hb⟩)
    |false =>
     refine Ay.mk ⟨(),?_,λi h1 h2=>?_⟩
     ·rw[BU];omega
     ·rcases AQk i (n+k)with h |h
      ·exact hI i h1 h
      ·rw[show i=n+k by omega];exact hb
   ·unfold JS NT;rw[show wI (64*((((n:Int),ws,()):ASv).2.1.length:Int))=((64*ws.length:Nat):Int)from hwr,show n+(64*ws.length-n)=64*ws.length by omega,Ew,AQo];refine Ay.mk (.inr ⟨rfl,λi h=>?_⟩);rcases AQk i (64*ws.length)with h' |h'
    ·exact hI i h (by omega)
    ·exact ZB h'
  refine Ay.bind key λt ht=>?_;rcases ht with ⟨rfl,h'⟩|⟨rfl,h'⟩
  ·refine Ay.mk ?_;simp only[AQX,false_iff,not_exists,not_and];intro m hm hp;obtain rfl:m=n:=by omega
   exact h' hp.2.2.2.2
  ·exact Ay.mk ⟨λ_=>⟨n,rfl,by omega,by omega,hl,hw,h'⟩,λ_=>rfl⟩
theorem nz{w:Int}{ws:ASC}(hw:CQ ws)(hn:ws.length<=1048576):Ay (Qu (w,ws,())) λr=>r=true↔∃n:Nat,w=(n:Int)/\oc n ws:=by
 unfold Qu OQ;refine Ay.cond (λh=>Ay.mk ?_) λh=>?_
 ·simp only[AQX,false_iff,not_exists,not_and]
  rintro n rfl ⟨h1,h2,h3,_⟩
  unfold nw at h3;simp only[AY,Ct,Z4 (show n<=1048576 by omega),ARr,ARv,ARM,AQ0,ART]at h;unfold nw at h;omega
 ·have hb:1<=w/\w<=4096:=by
    simp only[AY,ARc,Bool.not_eq_false',AQg,ARo]at h;omega
  obtain⟨n,rfl⟩:∃n:Nat,w=(n:Int):=⟨w.toNat,by omega⟩;have hl:ws.length=nw n:=by
   simp only[ARc,ARF]at h;have h:=h.2;rw[Ct,Z4 (by omega)]at h;omega
  have e1:((n:Int),ws,()).1=(n:Int):=rfl;have iff:(∃m:Nat,(n:Int)=(m:Int)/\oc m ws)↔∀i,n<=i->bt ws i=false:=by
   constructor
   ·rintro⟨m,hm,hp⟩
    obtain rfl:n=m:=by omega
    exact hp.2.2.2.2
   ·exact λh=>⟨n,rfl,by omega,by omega,hl,hw,h⟩
  rw[iff];refine Ay.cond (λh=>Ay.mk ?_) λh=>?_
  ·have h:Int.tmod (n:Int) 64=0:=by simpa using h
   rw[WU]at h;refine⟨λ_ i hi=>ZB (by rw[hl];unfold nw;omega),λ_=>rfl⟩
  ·have h:Int.tmod (n:Int) 64≠0:=by simpa using h
   rw[WU]at h;have B5:0<ws.length:=by rw[hl];unfold nw;omega
   have fZ:wI ((ws.length:Int)-1)=((ws.length-1:Nat):Int):=by rw[BU];omega
   have e2:wI (((((n:Int),ws,()):ASv).2.1.length:Int)-1)=((ws.length-1:Nat):Int):=fZ;rw[e2,AQr ⟨by omega,by show((ws.length-1:Nat):Int)<(ws.length:Int);omega⟩];rw[show Int.tmod (((n:Int),ws,()):ASv).1 64=((n%64:Nat):Int)from WU n,QK,AQa];refine Ay.mk ?_;rw[ARd];have ny:=hw.getD (ws.length-1);have h0:SF .u64 (ws.getD (ws.length-1) 0) ((n%64:Nat):Int)=0↔∀j,j<64->tb (ws.getD (ws.length-1) 0) (j+n%64)=false :=
    ⟨λe j _=>by rw[<-bW ny rfl (by omega),e,X7],λe=>QG.ext (dU ny rfl (by omega)) Zt λj hj=>by rw[bW ny rfl (by omega),X7];exact e j hj⟩
   refine h0.trans ⟨λe i hi=>?_,λe j hj=>?_⟩
   ·rcases AQk i (64*ws.length)with h' |h'
    ·unfold bt;rw[show i/64=ws.length-1 by rw[hl]at h'⊢;unfold nw at *;omega];have:=e (i%64-n%64) (by omega);rwa [show i%64-n%64+n%64=i%64 by rw[hl]at h';unfold nw at *;omega]at this
    ·exact ZB h'
   ·rcases AQk (j+n%64) 64 with h' |h'
    ·have:=e (64*(ws.length-1)+(j+n%64)) (by rw[hl];unfold nw;omega);unfold bt at this;rwa [show(64*(ws.length-1)+(j+n%64))/64=ws.length-1 by omega,show(64*(ws.length-1)+(j+n%64))%64=j+n%64 by omega]at this
    ·exact Z1 ny h'
theorem Aco(k:IntKind):(Ty.zero (.int k):Int)=0:=rfl
theorem Aop{a k:Nat}(h:a+64*k<1073741824):wI ((a:Int)+wI (64*(k:Int)))=((a+64*k:Nat):Int):=by
 rw[BU (x:=64*k),BU];omega
theorem A6{x:Int}{n:Nat}(h:x=(n:Int):=by omega)(hn:n<4611686018427387904:=by omega):wI x=(n:Int):=by rw[BU,h]
theorem Ww{n:Nat}(h:n<=1048576):DZ (n:Int)=some ((n:Int),List.replicate (nw n) 0):=by
 have hn:nw n<=1048576:=by unfold nw;omega
 unfold DZ Ct;rw[Z4 h,AQr ⟨rfl,by omega,by omega,by omega,by omega⟩,AQa]
theorem Ak3{ws:ASC}{k j:Nat}(hj:j<64):bt ws (64*k+j)=tb (ws.getD k 0) j:=by
 unfold bt
 grind
theorem Awx{a k:Nat}{d b:Int}{low row:ASC}(hw:CQ low)(hr:CQ row)(hk:k<low.length)(hb:a+64*k<1073741824)(Gh:(a+64*k)/64<row.length) :
    Ay (JC (a:Int) low d (k:Int) row b) λr=>CQ r/\r.length=row.length/\∀i,i<64*row.length->bt r i=(bt row i||(decide (a+64*k<=i)&&(decide (i<a+64*k+64)&&bt low (i-a)))):=by
 unfold JC OQ;obtain⟨q,hq⟩:∃q,q=(a+64*k)/64:=⟨_,rfl⟩;obtain⟨m,hm⟩:∃m,m=(a+64*k)%64:=⟨_,rfl⟩;have e1:wI (Int.tdiv (((a+64*k:Nat):Int)) 64)=(q:Int):=by rw[bX (by omega),hq]
 have e2:Int.tmod (((a+64*k:Nat):Int)) 64=(m:Int):=by rw[WU,hm]
 have e3:wI ((q:Int)+1)=((q+1:Nat):Int):=A6;have e4:wI (64-(m:Int))=((64-m:Nat):Int):=A6;have hlk:QG (low.getD k 0):=hw.getD k;have Amk:∀i,a+64*k<=i->i<a+64*k+64->bt low (i-a)=tb (low.getD k 0) (i-a-64*k):=λi h1 h2=>by
  rw[<-Ak3 (ws:=low) (k:=k) (by omega)];congr 1;omega
 simp only[Aop hb,e1,e2,e3,e4,AQi,AQa,Aco];rw[AQr (Bq hk),AQr ⟨by omega,by omega⟩,QK,AQr ⟨by omega,by omega⟩];have hsh:QG (NS .u64 (low.getD k 0) (m:Int)):=ja hlk rfl (by omega);have hor:QG (fC .u64 (row.getD q 0) (NS .u64 (low.getD k 0) (m:Int))):=mj (hr.getD q) hsh;have hqr:q<row.length:=by omega
 have OY:∀i,bt (row.set q (fC .u64 (row.getD q 0) (NS .u64 (low.getD k 0) (m:Int)))) i=(bt row i||(decide (i/64=q)&&(decide (a+64*k<=i)&&bt low (i-a)))):=λi=>by
  rw[YT hqr];by_cases h:i/64=q
  ·rw[AQr h,xG (hr.getD q) hsh,tf hlk rfl (by omega)];have:bt row i=tb (row.getD q 0) (i%64):=by unfold bt;rw[h]
   rw[this];by_cases h2:a+64*k<=i
   ·rw[Amk i h2 (by omega),show i-a-64*k=i%64-m by omega];simp[h,h2,show i%64<64 by omega,show m<=i%64 by omega]
   ·simp[h,h2,show ¬m<=i%64 by omega]
  ·rw[AQs h];simp[h]
 have H6:CQ (row.set q (fC .u64 (row.getD q 0) (NS .u64 (low.getD k 0) (m:Int)))):=hr.set hor;refine Ay.cond (λh=>?_) λh=>?_
 ·simp only[AQg,ART,ARo]at h;have zN:m≠0:=by omega
  have hq1:q+1<row.length:=by omega
  rw[AQr ⟨by omega,by omega⟩,QK,AQr ⟨by omega,by omega⟩];have hsr:QG (SF .u64 (low.getD k 0) ((64-m:Nat):Int)):=dU hlk rfl (by omega);refine Ay.mk ⟨H6.set (mj (H6.getD _) hsr),by rw[AQi,AQi],λi hi=>?_⟩;show bt (List.set _ (q+1) (fC .u64 (List.getD _ (q+1) 0) (SF .u64 (low.getD k 0) ((64-m:Nat):Int)))) i=_;rw[YT (by rw[AQi];exact hq1)];by_cases h1:i/64=q+1
  ·rw[AQr h1,xG (H6.getD _) hsr,bW hlk rfl (by omega)];have:tb ((row.set q (fC .u64 (row.getD q 0) (NS .u64 (low.getD k 0) (m:Int)))).getD (q+1) 0) (i%64)=bt (row.set q (fC .u64 (row.getD q 0) (NS .u64 (low.getD k 0) (m:Int)))) i:=by unfold bt;rw[h1]
   rw[this,OY];rw[show decide (i/64=q)=false by simp;omega,show decide (a+64*k<=i)=true by simp;omega];by_cases h2:i<a+64*k+64
   ·rw[Amk i (by omega) h2,show i-a-64*k=i%64+(64-m) by omega];simp[h2]
   ·rw[Z1 hlk (by omega)];simp[h2]
  ·rw[AQs h1,OY];by_cases h2:i/64=q
   ·simp only[h2,decide_true,AR8];by_cases h3:a+64*k<=i
    ·simp[h3,show i<a+64*k+64 by omega]
    ·simp[h3]
   ·rw [show(decide (a+64*k<=i)&&(decide (i<a+64*k+64)&&bt low (i-a)))=false by
      by_cases h3:a+64*k<=i
      ·simp[show ¬i<a+64*k+64 by omega]
      ·simp[h3]]
    simp[h2]
 ·refine Ay.mk ⟨H6,AQi,λi hi=>?_⟩;have h':m=0\/row.length<=q+1:=by
   rcases AQx m with h0 |h0
   ·exact .inl h0
   ·refine .inr ?_;simp only[ARM,ARF,AQ0]at h;omega
  show bt (row.set q (fC .u64 (row.getD q 0) (NS .u64 (low.getD k 0) (m:Int)))) i=_;rw[OY];by_cases h2:i/64=q
  ·simp only[h2,decide_true,AR8];by_cases h3:a+64*k<=i
   ·simp[h3,show i<a+64*k+64 by omega]
   ·simp[h3]
  ·rw [show(decide (a+64*k<=i)&&(decide (i<a+64*k+64)&&bt low (i-a)))=false by
     by_cases h3:a+64*k<=i
     ·simp[show ¬i<a+64*k+64 by omega]
     ·simp[h3]]
   simp[h2]
theorem AiY{w b:Int}{a:Nat}{low row:ASC}(hw:CQ low)(hr:CQ row)(hl:low.length<=1048576)(ha:a<=1048576)(Gh:∀k,k<low.length->(a+64*k)/64<row.length) :
    Ay (OZ b (a:Int) (w,low,()) row) λr=>CQ r/\r.length=row.length/\∀i,i<64*row.length->bt r i=(bt row i||(decide (a<=i)&&bt low (i-a))):=by
 refine Ay.bind (B4 (λk (s:ASC)=>((k:Int),s)) low.length (λk s=>CQ s/\s.length=row.length/\∀i,i<64*row.length->bt s i=(bt row i||(decide (a<=i)&&(decide (i<a+64*k)&&bt low (i-a))))) (Q:=λr=>CQ r/\r.length=row.length/\∀i,i<64*row.length->bt r i=(bt row i||(decide (a<=i)&&bt low (i-a)))) (λk s hk hI=>?_) (λs hI=>?_) (s0:=row) ⟨hr,rfl,λi _=>by
     grind⟩) λr h=>Ay.mk h
 ·unfold Hn Kk;rw[Di hk];refine Ay.bind (Awx hw hI.1 hk (by omega) (by grind)) λr h=>Ay.mk ⟨r,?_,h.1,h.2.1.trans hI.2.1,λi hi=>?_⟩
  ·rw[show wI ((k:Int)+1)=((k+1:Nat):Int)from A6]
  grind
 ·unfold Hn Kk;rw[Ew];refine Ay.mk ⟨hI.1,hI.2.1,λi hi=>?_⟩;rw[hI.2.2 i hi];by_cases h1:a<=i
  ·by_cases h2:i<a+64*low.length
   ·grind
   ·rw[ZB (by omega:64*low.length<=i-a)];simp
  ·grind
theorem AmR{n m:Nat}{f g:Nat->Bool}(hn:n+m<=8192):Hm (mkB n f) (mkB m g)=some (((n+m:Nat):Int),eh (low (λi=>if i<m then g i else f (i-m)) (n+m)) (nw (n+m))):=by
 unfold Hm mkB;refine Ay.eq_ ?_;rw[show wI _=((n+m:Nat))from A6,Ww (by omega),AP9];refine Ay.bind (AiY (a:=0) (DL _ _) CQ.rep (by rw[EC];unfold nw;omega) (by omega) λk hk=>by rw[EC]at hk;rw[AQG];unfold nw at *;omega) λr1 h1=>?_;rw[AQG]at h1;refine Ay.bind (AiY  (DL _ _) h1.1 (by rw[EC];unfold nw;omega) (by omega) λk hk=>by rw[EC]at hk;unfold nw at *;omega) λr2 h2=>Ay.mk ?_;refine congrArg _ (QF h2.1 (DL _ _) (by rw[h2.2.1,h1.2.1,EC]) λi hi=>?_);have tK:i<64*nw (n+m):=by grind
 rw[h2.2.2 i (by grind),h1.2.2 i tK,qJ,Hj,Hj,Hj]
 grind
theorem Avx{a k:Nat}{w w1 w2 j:Int}{ws row:ASC}(hw:CQ ws)(hr:CQ row)(hk:k<row.length)(hb:a+64*k<1073741824)(Gh:(a+64*k)/64<ws.length) :
    Ay (JB (a:Int) w1 w2 (k:Int) (w,ws,()) j row) λr=>CQ r/\r.length=row.length/\∀i,bt r i=if i/64=k then bt ws (a+i)else bt row i:=by
 unfold JB OQ;obtain⟨q,hq⟩:∃q,q=(a+64*k)/64:=⟨_,rfl⟩;obtain⟨m,hm⟩:∃m,m=(a+64*k)%64:=⟨_,rfl⟩;have e1:wI (Int.tdiv (((a+64*k:Nat):Int)) 64)=(q:Int):=by rw[bX (by omega),hq]
 have e2:Int.tmod (((a+64*k:Nat):Int)) 64=(m:Int):=by rw[WU,hm]
 have e3:wI ((q:Int)+1)=((q+1:Nat):Int):=A6;have e4:wI (64-(m:Int))=((64-m:Nat):Int):=A6;simp only[Aop hb,e1,e2,e3,e4,AQi,AQa,Aco];rw[AQr ⟨by omega,by omega⟩,QK,AQr (Bq hk)];have hsr:QG (SF .u64 (ws.getD q 0) (m:Int)):=dU (hw.getD q) rfl (by omega);have H6:CQ (row.set k (SF .u64 (ws.getD q 0) (m:Int))):=hr.set hsr;have Y6:(row.set k (SF .u64 (ws.getD q 0) (m:Int))).getD k 0=SF .u64 (ws.getD q 0) (m:Int):=by simp[List.getD,hk]
 refine Ay.cond (λh=>?_) λh=>?_
 ·simp only[AQg,ART,ARo]at h;rw[AQr (Bq hk),AQr ⟨by omega,by omega⟩,QK,AQr (Bq hk),Y6];have Jc:QG (NS .u64 (ws.getD (q+1) 0) ((64-m:Nat):Int)):=ja (hw.getD _) rfl (by omega);refine Ay.mk ⟨H6.set (mj hsr Jc),by rw[AQi,AQi],λi=>?_⟩;rw[YT (by rw[AQi];exact hk)];by_cases h1:i/64=k
  ·rw[AQr h1,AQr h1,xG hsr Jc,bW (hw.getD _) rfl (by omega),tf (hw.getD _) rfl (by omega)];by_cases h2:i%64+m<64
   ·rw[show decide (64-m<=i%64)=false by simp;omega];unfold bt;rw[show(a+i)/64=q by omega,show(a+i)%64=i%64+m by omega];simp
   ·rw[Z1 (hw.getD _) (by omega)];unfold bt;rw[show(a+i)/64=q+1 by omega,show(a+i)%64=i%64-(64-m) by omega];simp[show i%64<64 by omega,show 64<=i%64+m by omega]
  ·rw[AQs h1,AQs h1,YT hk,AQs h1]
 ·have h':m=0\/ws.length<=q+1:=by
    rcases AQx m with h0 |h0
    ·exact .inl h0
    ·refine .inr ?_;simp only[ARM,ARF,AQ0]at h;omega
  refine Ay.mk ⟨H6,AQi,λi=>?_⟩;rw[YT hk];by_cases h1:i/64=k
  ·rw[AQr h1,AQr h1,bW (hw.getD _) rfl (by omega)];by_cases h2:i%64+m<64
   ·unfold bt;rw[show(a+i)/64=q by omega,show(a+i)%64=i%64+m by omega]
   ·rw[Z1 (hw.getD _) (by omega),ZB (by omega)]
  ·rw[AQs h1,AQs h1]
theorem Avy{n a w:Nat}{f:Nat->Bool}(hn:n<=1048576)(h1:1<=w)(h:a+w<=n):EZ (mkB n f) (a:Int) (w:Int)=some ((w:Int),eh (low (λi=>f (a+i)) w) (nw w)):=by
 unfold EZ mkB;refine Ay.eq_ ?_;rw[Ww (by omega),AP9];show Ay ((Nz (a:Int) (w:Int) ((n:Int),eh (low f n) (nw n),()) (((List.replicate (nw w) (0:Int)).length:Nat):Int) (w:Int) 0 (List.replicate (nw w) 0)).bind _) _;rw[AQG];have hwl:1<=nw w:=by unfold nw;omega
 refine Ay.bind (P:=λr=>CQ r/\r.length=nw w/\∀i,i<64*nw w->bt r i=bt (eh (low f n) (nw n)) (a+i)) ?_ λr hr=>?_
 ·unfold Nz;refine B4 (λk (s:ASC)=>((k:Int),s)) (nw w) (λk s=>CQ s/\s.length=nw w/\∀i,i<64*k->bt s i=bt (eh (low f n) (nw n)) (a+i)) (λk s hk hI=>?_) (λs hI=>?_) (s0:=List.replicate (nw w) 0) ⟨CQ.rep,AQG,λi hi=>by omega⟩
  ·unfold Hl Kj;simp only;rw[Di hk,AQp];refine Ay.bind (Avx (DL _ _) hI.1 (by rw[hI.2.1];exact hk) (by unfold nw at hk;omega) (by rw[EC];unfold nw at *;omega)) λr h=>Ay.mk ⟨r,?_,h.1,h.2.1.trans hI.2.1,λi hi=>?_⟩
   ·rw[show wI ((k:Int)+1)=((k+1:Nat):Int)from A6 (by omega) (by unfold nw at hk;omega)]
   ·rw[h.2.2 i];by_cases h3:i/64=k
    ·rw[AQr h3]
    ·rw[AQs h3,hI.2.2 i (by omega)]
  ·unfold Hl Kj;simp only;rw[Ew,AQo];exact Ay.mk hI
 ·unfold NA;obtain⟨m,hm⟩:∃m,m=w%64:=⟨_,rfl⟩;have e2:Int.tmod (w:Int) 64=(m:Int):=by rw[WU,hm]
  have e3:wI ((r.length:Int)-1)=((nw w-1:Nat):Int):=by rw[hr.2.1];exact A6 (by omega) (by unfold nw;omega)
  simp only[e2,e3,AQa,Aco];refine Ay.bind (P:=λx=>x=eh (low (λi=>f (a+i)) w) (nw w)) (Ay.cond (λh=>?_) λh=>?_) λx hx=>Ay.mk (by rw[hx])
  ·simp only[ART]at h;rw[AQr ⟨by omega,by rw[hr.2.1];omega⟩,QK,AQr ⟨by omega,by rw[hr.2.1];omega⟩];have rK:QG (IntKind.u64.wrap (NS .u64 1 (m:Int)-1)):=AjS rfl (by omega);refine Ay.mk (QF (hr.1.set (Ack (hr.1.getD _) rK)) (DL _ _) (by rw[AQi,hr.2.1,EC]) λi hi=>?_);rw[AQi,hr.2.1]at hi;rw[YT (by rw[hr.2.1];omega),Hj];by_cases h3:i/64=nw w-1
   ·rw[AQr h3,AjM (hr.1.getD _) rK,Am8 rfl (by omega)];have:tb (r.getD (nw w-1) 0) (i%64)=bt r i:=by unfold bt;rw[h3]
    rw[this,hr.2.2 i hi,Hj];unfold nw at h3;by_cases h4:i<w
    ·simp[h4,show a+i<n by omega,show i%64<m by omega]
    ·simp[h4,show ¬i%64<m by omega]
   ·rw[AQs h3,hr.2.2 i hi,Hj];unfold nw at h3 hi;simp[show i<w by omega,show a+i<n by omega]
  ·have h0:m=0:=by
     have:(m:Int)=0:=by simpa using h
     omega
   refine Ay.mk (QF hr.1 (DL _ _) (by rw[hr.2.1,EC]) λi hi=>?_);rw[hr.2.1]at hi;rw[hr.2.2 i hi,Hj,Hj];unfold nw at hi;simp[show i<w by omega,show a+i<n by omega]
theorem ZS{l:ASD}(h1:1<=l.length)(h2:l.length<=4096):Kg (l.map bI)=some ((l.length:Int),true,eh (low (λi=>l.getD i false) l.length) (nw l.length)):=by
 unfold Kg OQ;refine Ay.eq_ ?_;rw[AQl];have hn:nw l.length<=1048576:=by unfold nw;omega
 rw[show(decide ((l.length:Int)<1)||decide ((l.length:Int)>4096))=false by simp;omega,AQo,Z4 (by omega),AQr ⟨rfl,by omega,by omega,by omega,by omega⟩,AQa];unfold VK;refine Ay.bind (B4 (λk (s:ASC)=>((k:Int),s)) l.length (λk s=>CQ s/\s.length=nw l.length/\∀i,bt s i=(decide (i<k)&&l.getD i false)) (Q:=λr=>r=eh (low (λi=>l.getD i false) l.length) (nw l.length)) (λk s hk hI=>?_) (λs hI=>?_) (s0:=List.replicate (nw l.length) 0) ⟨CQ.rep,AQG,λi=>by rw[qJ];simp⟩) λr hr=>Ay.mk (by rw[hr])
 ·unfold JY N4;have hq:k/64<s.length:=by rw[hI.2.1];unfold nw;omega
  have AFU:QG (bI (l.getD k false)):=by unfold bI;split<;>first |exact Yb |exact Zt
  have AKt:IntKind.u64.wrap (bI (l.getD k false))=bI (l.getD k false):=by cases l.getD k false<;>rfl
  have Xg:(l.map bI).getD k 0=bI (l.getD k false):=by simp[List.getD,hk]
  simp only[AQl,bX (show k<4611686018427387904 by omega),WU,AQa,Aco,Xg,AKt,tv (show(0:Int)<=((k%64:Nat):Int) by omega) (by omega)];rw[Di hk,AQp,AQr ⟨by omega,by omega⟩,AQr (Bq hk),QK,AQr ⟨by omega,by omega⟩];have Jc:QG (NS .u64 (bI (l.getD k false)) ((k%64:Nat):Int)):=ja AFU rfl (by omega);refine Ay.mk ⟨_,by rw[show wI ((k:Int)+1)=((k+1:Nat):Int)from A6],hI.1.set (mj (hI.1.getD _) Jc),by rw[AQi];exact hI.2.1,λi=>?_⟩;rw[YT hq];have tbb:∀b j,tb (bI b) j=(decide (j=0)&&b):=λb j=>by cases b<;>simp[bI,AaE,X7]
  by_cases h3:i/64=k/64
  ·rw[AQr h3,xG (hI.1.getD _) Jc,tf AFU rfl (by omega),tbb];have:tb (s.getD (k/64) 0) (i%64)=bt s i:=by unfold bt;rw[h3]
   rw[this,hI.2.2 i];rcases Nat.lt_trichotomy i k with h |h |h
   ·simp[h,show i<k+1 by omega,show ¬k%64<=i%64 by omega]
   ·subst h;simp[show i%64<64 by omega]
   ·simp[show ¬i<k by omega,show ¬i<k+1 by omega];omega
  ·rw[AQs h3,hI.2.2 i];by_cases h:i<k
   ·simp[h,show i<k+1 by omega]
   ·simp[h,show ¬i<k+1 by omega]
 ·unfold JY N4;rw[AQl,Ew,AQo];refine Ay.mk (QF hI.1 (DL _ _) (by rw[EC];exact hI.2.1) λi hi=>?_);rw[hI.2.2 i,Hj]
theorem cH{w:Int}{ws:ASC}(h:ws.length<=1048576):Dp (w,ws,())=some (w,ws):=by
 unfold Dp;rw[AQr (by grind)]
def Small(f:ASI):Prop:=f.length<=1048576/\∀s∈f,s.2.2.2.1.2.1.length<=1048576
theorem AO{A:Type}{l:ATO A}{z:A}{k:Nat}(h:k<l.length):l.getD k z∈l:=by
 rw[show l.getD k z=l[k] by simp[List.getD,h]];exact AQR h
theorem A3{A:Type}{l:ATO A}{z:A}{k:Nat}(h:k<l.length):l.take (k+1)=l.take k++[l.getD k z]:=by
 rw[AQ5 h,show l.getD k z=l[k] by simp[List.getD,h]]
theorem Bp{k n:Nat}(hk:k<n)(hn:n<=1048576):wI ((k:Int)+1)=((k+1:Nat):Int):=A6
def CU{A:Type}(g:Nat->A)(z:A)(n k:Nat):ATO A:=(List.range n).map λi=>if i<k then g i else z
theorem MU{A:Type}(g:Nat->A)(z:A)(n:Nat):CU g z n 0=List.replicate n z:=by
 refine ARp (by simp[CU]) λi h1 h2=>by simp[CU]
theorem Qq{A:Type}(g:Nat->A)(z:A){n k:Nat}:(CU g z n k).set k (g k)=CU g z n (k+1):=by
 refine ARp (by simp[CU]) λi h1 h2=>?_;simp only[CU,List.getElem_set,List.getElem_map,List.getElem_range];by_cases h:k=i
 ·subst h;simp
 ·rw[AQs h];by_cases h3:i<k
  ·rw[AQr h3,WA]
  ·rw[AQs h3,QK]
theorem Ih{A:Type}(g:Nat->A)(z:A)(n k:Nat):(CU g z n k).length=n:=by simp[CU]
theorem km{A:Type}(l:ATO A)(y z:A):CU (λi=>l.getD i y) z l.length l.length=l:=by
 refine ARp (by simp[CU]) λi h1 h2=>by simp[CU,List.getD,h2]
theorem qV{f:ASI}(h:Small f):MX f=some f:=by
 unfold MX QW;have h1:=h.1;rw[AQr ⟨rfl,by omega,by omega,by omega,by omega⟩,AQa];rw[show fix (Dd f (f.length:Int)) (0,List.replicate f.length (0,0,0,(0,([]:ASC),()),()))=some f from by
  have:=AW (f:=Dd f (f.length:Int)) (λk=>((k:Int),CU (λi=>f.getD i Af.zero) (0,0,0,(0,([]:ASC),()),()) f.length k)) (t:=f) f.length (λk hk=>by
   unfold Dd Ji;simp only[Di hk,AQp,AQr (Bq hk),AQa,Ih];rw[cH (h.2 _ (AO hk)),AP9,Bp hk h1,<-Qq]) (by
   unfold Dd Ji;simp only[Ew,AQo,km])
  rw[MU]at this;exact this]
 rfl
theorem lQ{a:ASC}(hn:a.length<=maxLen):YJ Jv a :=
 eR (F:=λx y=>some (x==y)) (z :=ATz.zero) (r:=λa b=>Fg a b a.length) (λ_ _=>rfl) (λ_ _ _=>rfl) hn λx _ y=>Ay.mk (by simp)
theorem ux{a:ASv}(h:a.2.1.length<=maxLen):YJ MW a:=by
 intro b;obtain⟨w,ws,_⟩:=a;obtain⟨w',mQ,_⟩:=b;unfold MW;refine Ay.cond (λh1=>Ay.bind (lQ h mQ) λr hr=>Ay.mk (by simp at h1;simp[hr,h1])) λh1=>Ay.mk (by simp at h1;simp[h1])
theorem Ad9:(1048576:Nat)<=maxLen:=by decide
theorem wZ{a:ASv}(h:a.2.1.length<=maxLen):YJ Im a:=by
 intro b;obtain⟨w,ws,_⟩:=a;obtain⟨w',mQ,_⟩:=b;unfold Im OQ;refine Ay.cond (λh1=>Ay.mk ?_) λh1=>?_
 ·simp only[ARr,ART]at h1;simp only[AQX,false_iff,AQm,and_true,not_and]
  rintro rfl rfl
  simp at h1
 ·simp only[ARc,ARF]at h1;have h1:w=w'/\(ws.length:Int)=(mQ.length:Int):=h1;refine Ay.bind (Abv (F:=λx y=>some (x==y)) (z :=ATz.zero) (a:=ws) (b:=mQ) (f:=DN (w,ws,()) (w',mQ,())) (by omega) h (λx _ y=>Ay.mk (by simp)) (λk hk=>?_) ?_) λt ht=>?_
  ·unfold DN IX;simp only[Di hk,AQp,AQr (Bq hk),AQr (Bq (show k<mQ.length by omega)),AQa];rfl
  ·unfold DN IX;simp only[Ew,AQo]
  ·rcases ht with ⟨rfl,e⟩|⟨rfl,e⟩
   ·exact Ay.mk ⟨λ_=>by rw[h1.1,e],λ_=>rfl⟩
   ·exact Ay.mk ⟨λh=>by(cases h),λh'=>(e (congrArg (λx=>x.2.1) h')).elim⟩
end Go.Proofs.X
namespace Go.Va
open Go.Proofs.X
inductive Bt
 |co (b:Bool)
 |va (v a:Nat)
inductive Sg
 |co (b:ASD)
 |va (v l n:Nat)
def Sg.bits:Sg->ATO Bt
 |.co b=>b.map .co
 |.va v l n=>(List.range n).map λk=>.va v (l+k)
def Sg.w:Sg->Nat
 |.co b=>b.length
 |.va _ _ n=>n
def Bt.sg:Bt->Sg
 |.co b=>.co [b]
 |.va v a=>.va v a 1
def Sg.join:Sg->Sg->ATP Sg
 |.co a,.co b=>some (.co (a++b))
 |.va v l n,.va v' l' n'=>if v=v'/\l+n=l' then some (.va v l (n+n'))else none
 |_,_=>none
def Sg.du(a b:Sg):Bool:=(a.join b).isSome
def Ic(f:ATO Sg)(s:Sg):ATO Sg :=
 match f.getLast? with
 |none=>[s]
 |some l=>match l.join s with
  |some j=>f.dropLast++[j]
  |none=>f++[s]
def Um(f ss:ATO Sg):ATO Sg:=ss.foldl Ic f
def YO(f:ATO Sg)(bs:ATO Bt):ATO Sg:=bs.foldl (λf b=>Ic f b.sg) f
def Az(bs:ATO Bt):ATO Sg:=YO [] bs
def Dz(f:ATO Sg):ATO Bt:=f.flatMap Sg.bits
def Bn(f:ATO Sg):Nat:=(f.map Sg.w).sum
theorem VD(s:Sg):Ic [] s=[s]:=rfl
theorem Fx(g:ATO Sg)(l s:Sg):Ic (g++[l]) s=match l.join s with |some j=>g++[j]|none=>g++[l,s]:=by
 unfold Ic;rw[List.getLast?_append];simp only[List.getLast?_singleton,Option.some_or,List.dropLast_concat];cases l.join s<;>simp
theorem Iq(s:Sg):s.bits.length=s.w:=by cases s<;>simp[Sg.bits,Sg.w]
theorem Lp(f:ATO Sg):(Dz f).length=Bn f:=by
 induction f with
 |nil=>rfl
 |cons s f ih=>simp only[Dz,Bn,List.flatMap_cons,AQd,Iq,AQU,ARP]at *;rw[ih]
theorem oU{a b j:Sg}(h:a.join b=some j):j.bits=a.bits++b.bits:=by
 cases a<;>cases b<;>simp only[Sg.join]at h
 ·cases h;simp[Sg.bits]
 ·cases h
 ·cases h
 ·rename_i v l n v' l' n';split at h
  ·rename_i hc;cases h;obtain⟨rfl,rfl⟩:=hc;simp only[Sg.bits];rw[List.range_add,AQT,ARW];congr 1;refine AQY λk _=>?_;simp[ARe]
  ·cases h
theorem gw(f:ATO Sg)(s:Sg):Dz (Ic f s)=Dz f++s.bits:=by
 rcases ARk f with rfl |⟨g,l,rfl⟩
 ·simp[VD,Dz]
 ·rw[ARl,Fx];cases h:l.join s with
  |none=>simp[Dz]
  |some j=>simp[Dz,oU h]
theorem AcP(f:ATO Sg)(bs:ATO Bt):Dz (YO f bs)=Dz f++bs:=by
 induction bs generalizing f with
 |nil=>simp[YO]
 |cons b bs ih =>
  rw[show YO f (b::bs)=YO (Ic f b.sg) bs from rfl,ih,gw];cases b<;>simp[Bt.sg,Sg.bits]
theorem EP(bs:ATO Bt):Dz (Az bs)=bs:=AcP [] bs
theorem MR(f:ATO Sg)(a b:ATO Bt):YO f (a++b)=YO (YO f a) b:=AR1
theorem Aaw(s:Sg)(h:2<=s.w):∃(t:Sg) (b:Bt),1<=t.w/\t.w<s.w/\s.bits=t.bits++[b]/\t.join b.sg=some s/\(∀l j:Sg,l.join t=some j->j.join b.sg=l.join s)/\(∀l:Sg,l.join t=none->l.join s=none):=by
 cases s with
 |co bs =>
  simp only[Sg.w]at h;rcases ARk bs with rfl |⟨cs,x,rfl⟩
  ·simp at h
  ·rw[ARl]at h⊢;refine⟨.co cs,.co x,?_,?_,?_,rfl,λl j hj=>?_,λl hl=>?_⟩
   ·simp[Sg.w]at h⊢;omega
   ·simp[Sg.w]
   ·simp[Sg.bits]
   ·cases l<;>simp only[Sg.join]at hj
    ·cases hj;simp[Sg.join,Bt.sg]
    ·cases hj
   ·cases l<;>simp[Sg.join]at hl⊢
 |va v l n =>
  simp only[Sg.w]at h;obtain⟨m,rfl⟩:∃m,n=m+1:=⟨n-1,by omega⟩;refine⟨.va v l m,.va v (l+m),by simp[Sg.w];omega,by simp[Sg.w],?_,by simp[Sg.join,Bt.sg],λk j hj=>?_,λk hk=>?_⟩
  ·simp[Sg.bits,ARh]
  ·cases k<;>simp only[Sg.join]at hj
   ·cases hj
   ·split at hj
    ·rename_i hc;cases hj;obtain⟨rfl,rfl⟩:=hc;simp[Sg.join,Bt.sg,ARe]
    ·cases hj
  ·cases k with
   |co b=>rfl
   |va v' l' n' =>
    simp only[Sg.join]at hk⊢;split at hk
    ·cases hk
    ·rename_i hc;rw[AQs hc]
theorem Zj:∀(n:Nat) (s:Sg) (f:ATO Sg),s.w=n->1<=n->Ic f s=YO f s.bits:=by
 intro n;induction n using Nat.strongRecOn with
 |_ n ih =>
  intro s f hn h1;rcases AQk 1 n with h |h
  ·obtain⟨t,b,ht1,ht2,hb,hj,hlj,hln⟩:=Aaw s (by omega);rw[hb,MR,<-ih t.w (by omega) t f rfl ht1];show _=Ic (Ic f t) b.sg;rcases ARk f with rfl |⟨g,l,rfl⟩
   ·rw[VD,VD,show[t]=[]++[t]from rfl,Fx,hj];rfl
   ·rw[ARl,Fx,Fx];cases hl:l.join t with
    |none =>
     rw[hln l hl];simp only;rw[show g++[l,t]=(g++[l])++[t] by simp,Fx,hj];simp
    |some j =>
     simp only;rw[Fx,hlj l j hl];cases hls:l.join s with
     |some k=>rfl
     |none =>
      have:=hlj l j hl;rw[hls]at this
      exfalso
      cases l<;>cases s<;>cases t<;>simp[Sg.join]at hl hls hj
      all_goals first |(cases b<;>simp[Bt.sg,Sg.join]at hj<;>done)|skip
      all_goals (cases b<;>simp[Bt.sg,Sg.join]at hj;try omega)
  ·have:n=1:=by omega
   subst this;have hs:∃b:Bt,s=b.sg/\s.bits=[b]:=by
    cases s with
    |co bs =>
     simp only[Sg.w]at hn;obtain⟨x,rfl⟩:=List.length_eq_one_iff.1 hn;exact⟨.co x,rfl,rfl⟩
    |va v l m =>
     simp only[Sg.w]at hn;subst hn;exact⟨.va v l,rfl,by simp[Sg.bits]⟩
   obtain⟨b,hb,AFV⟩:=hs;rw[AFV,hb];rfl
def Z8(f:ATO Sg):Prop:=∀s∈f,1<=s.w
theorem gC{f ss:ATO Sg}(h:Z8 ss):Um f ss=YO f (Dz ss):=by
 induction ss generalizing f with
 |nil=>rfl
 |cons s ss ih =>
  rw[show Um f (s::ss)=Um (Ic f s) ss from rfl,ih λx hx=>h x (AQB _ hx),Zj _ s f rfl (h s AQE),show Dz (s::ss)=s.bits++Dz ss from rfl,MR]
theorem Awl{a b j:Sg}(h:a.join b=some j):j.w=a.w+b.w:=by rw[<-Iq,oU h,AQd,Iq,Iq]
theorem gA{f:ATO Sg}{s:Sg}(hf:Z8 f)(hs:1<=s.w):Z8 (Ic f s):=by
 rcases ARk f with rfl |⟨g,l,rfl⟩
 ·intro x hx;rw[VD,AQA]at hx;rw[hx];exact hs
 ·rw[ARl]at hf⊢;rw[Fx];have hl:=hf l (by simp);cases h:l.join s with
  |none =>
   intro x hx;simp only[ARD,ARI,ASh,or_false]at hx;rcases hx with hx |rfl |rfl
   ·exact hf x (by simp[hx])
   ·exact hl
   ·exact hs
  |some j =>
   intro x hx;simp only[ARD,ARI,ASh,or_false]at hx;rcases hx with hx |rfl
   ·exact hf x (by simp[hx])
   ·rw[Awl h];omega
theorem AwC(b:Bt):b.sg.w=1:=by cases b<;>rfl
theorem AcQ{f:ATO Sg}(hf:Z8 f)(bs:ATO Bt):Z8 (YO f bs):=by
 induction bs generalizing f with
 |nil=>exact hf
 |cons b bs ih=>exact ih (gA hf (by rw[AwC];exact AQf _))
theorem CM(bs:ATO Bt):Z8 (Az bs):=AcQ (λx hx=>by cases hx) bs
theorem Ce(bs:ATO Bt):Bn (Az bs)=bs.length:=by rw[<-Lp,EP]
theorem wW(a b:ATO Bt):Um (Az a) (Az b)=Az (a++b):=by
 rw[gC (CM b),EP];exact(MR [] a b).symm
theorem CX{f:ATO Sg}(h:Z8 f):f.length<=Bn f:=by
 induction f with
 |nil=>exact AQf _
 |cons s f ih =>
  have:=ih λx hx=>h x (AQB _ hx);have:=h s AQE;simp only[Bn,AQ4,AQU,ARP]at *;omega
end Go.Va
namespace Go.Proofs.X
open Go Go.Va
set_option maxRecDepth 100000
def fu(bs:ASD):ASv:=mkB bs.length λi=>bs.getD i false
def Ik:Sg->ASs
 |.co bs=>(-1,0,(bs.length:Int),fu bs,())
 |.va v l n=>((v:Int),(l:Int),(n:Int),(0,[],()),())
def Wa:Bt->ASp
 |.co b=>(-1,bI b,())
 |.va v a=>((v:Int),(a:Int),())
def fV(f:ATO Sg):ASI:=f.map Ik
def bV(f:ATO Bt):ASF:=f.map Wa
def WW:Sg->Prop
 |.co bs=>bs.length<=4096
 |.va v l n=>v<=4096/\l+n<=4096
theorem z7{bs:ASD}{n:Nat}{f:Nat->Bool}(hl:bs.length=n)(h:∀i,i<n->bs.getD i false=f i):fu bs=mkB n f:=by
 unfold fu;rw[hl];exact AdN h
theorem AiR{a b:ASD}(h:a.length+b.length<=8192):∃r,Hm (fu b) (fu a)=some r/\(r.1,r.2,())=fu (a++b):=by
 refine⟨_,AmR (by omega),(z7 (by grind) λi hi=>?_).symm⟩
 grind
theorem Abo{bs:ASD}{a w:Nat}(hn:bs.length<=8192)(h1:1<=w)(h:a+w<=bs.length):∃r,EZ (fu bs) (a:Int) (w:Int)=some r/\(r.1,r.2,())=fu ((bs.drop a).take w):=by
 refine⟨_,Avy (by omega) h1 h,(z7 (by grind) λi hi=>?_).symm⟩;simp[hi]
theorem Aiz{a b:Sg}(ha:WW a):D3 (Ik a) (Ik b)=a.du b:=by
 cases a with
 |co x =>
  cases b with
  |co y=>simp[D3,Ik,Sg.du,Sg.join]
  |va v l n =>
   simp only[D3,Ik,Sg.du,Sg.join,ARM];simp
 |va v l n =>
  cases b with
  |co y =>
   simp only[D3,Ik,Sg.du,Sg.join,ARM];simp
  |va v' l' n' =>
   simp only[WW]at ha;simp only[D3,Ik,Sg.du,Sg.join];rw[show wI _=((l+n))from A6]
   grind
theorem Adn{A:Type}(g:ATO A)(x z:A):(g++[x]).getD g.length z=x:=by grind
theorem lM{A:Type}(g:ATO A)(x y:A):(g++[x]).set g.length y=g++[y]:=by simp
theorem Sm(f g:ATO Sg):fV (f++g)=fV f++fV g:=AQT
theorem Cm(f:ATO Sg):(fV f).length=f.length:=AQl _
theorem Fq{A B:Type}(f:A->B){l:ATO A}{k:Nat}{y:A}{z:B}(h:k<l.length):(l.map f).getD k z=f (l.getD k y):=by grind
theorem Aal{ss f:ATO Sg}{k:Nat}{b:Int}(hk:k<ss.length)(hs:WW (ss.getD k (.co [])))(hf:∀s∈f,WW s)(hl:f.length<=1048576):O3 (fV ss) b (k:Int) (fV f)=some (fV (Ic f (ss.getD k (.co [])))):=by
 obtain⟨s,ib⟩:∃s,s=ss.getD k (.co []):=⟨_,rfl⟩;have Xg:(fV ss).getD k Af.zero=Ik s:=by rw[ib];exact Fq Ik hk
 rw[<-ib]at hs⊢;unfold O3;rw[AQr (Bq (by rw[Cm];exact hk)),AQa,Xg];rcases ARk f with rfl |⟨g,l,rfl⟩
 ·rfl
 ·rw[ARl]at hf hl⊢;have hbl:WW l:=hf l (by simp);have hfl:(fV (g++[l])).length=g.length+1:=by rw[Cm,AQd];rfl
  have e1:wI (((fV (g++[l])).length:Int)-1)=(g.length:Int):=by
   exact A6 (by omega) (by grind)
  have hgl:(fV (g++[l])).getD g.length Af.zero=Ik l:=by
   rw[Sm,<-Cm g];exact Adn _ _ _
  have e2:decide ((g.length:Int)<0)=false:=by simp
  have e3:(0:Int)<=(g.length:Int)/\(g.length:Int)<((fV (g++[l])).length:Int):=⟨by omega,by omega⟩;rw[e1,Fx];unfold S8;rw[e2,AQo,AQr e3,AQa,hgl,Aiz hbl];cases hj:l.join s with
  |none =>
   rw[show l.du s=false by unfold Sg.du;rw[hj];rfl];show(if(_+1)*56<=_ then _ else none)=_;rw[AQr (by grind)];simp[fV]
  |some j =>
   rw[show l.du s=true by unfold Sg.du;rw[hj];rfl];show(O2 (fV ss) b (k:Int) (fV (g++[l])) (g.length:Int) (Ik s)).bind _=_;unfold O2;cases l with
   |co x =>
    cases s with
    |va v' l' n'=>simp[Sg.join]at hj
    |co y =>
     simp only[Sg.join,AQb]at hj;subst hj;simp only[WW]at hbl hs;obtain⟨r,gd,hr2⟩:=AiR (a:=x) (b:=y) (by omega);rw[show((Ik (.co y)).1==(-1:Int))=true from rfl,AQp,AQr e3,AQa,hgl];rw[show Hm (Ik (.co y)).2.2.2.1 (Ik (.co x)).2.2.2.1=some r from gd,AP9,AQr e3,hr2,AP9];have e4:(0:Int)<=(g.length:Int)/\(g.length:Int)<(((fV (g++[Sg.co x])).set g.length ((Ik (.co x)).1,(Ik (.co x)).2.1,(Ik (.co x)).2.2.1,fu (x++y),(Ik (.co x)).2.2.2.2)).length:Int):=by grind
     rw[AQr e4,AQr e4];have H6:(fV (g++[Sg.co x])).set g.length ((Ik (.co x)).1,(Ik (.co x)).2.1,(Ik (.co x)).2.2.1,fu (x++y),(Ik (.co x)).2.2.2.2)=fV g++[(-1,0,(x.length:Int),fu (x++y),())]:=by
      rw[Sm,<-Cm g];exact lM _ _ _
     rw[H6,show(fV g++[((-1,0,(x.length:Int),fu (x++y),()):ASs)]).getD g.length Af.zero=(-1,0,(x.length:Int),fu (x++y),()) by grind];rw[show wI ((x.length:Int)+(Ik (.co y)).2.2.1)=(((x++y).length:Nat):Int) by
      rw[AQd];exact A6 (by show(x.length:Int)+(y.length:Int)=_;omega) (by omega)]
     rw[Sm,<-Cm g,lM];rfl
   |va v l n =>
    cases s with
    |co y=>simp[Sg.join]at hj
    |va v' l' n' =>
     simp only[WW]at hbl hs;simp only[Sg.join]at hj;split at hj
     ·cases hj;rw[show((Ik (.va v' l' n')).1==(-1:Int))=false by simp[Ik],AQo,AP9,AQr e3,AQr e3];rw[hgl];rw[show wI ((Ik (.va v l n)).2.2.1+(Ik (.va v' l' n')).2.2.1)=((n+n':Nat):Int)from A6 (by show(n:Int)+(n':Int)=_;omega) (by omega)];rw[Sm,<-Cm g];show some (List.set (fV g++[Ik (.va v l n)]) (fV g).length _)=_;rw[lM,Sm];rfl
     ·grind
theorem dH{f:ATO Sg}{s:Sg}(hf:∀x∈f,WW x)(hs:WW s)(hw:Bn f+s.w<=4096):∀x∈Ic f s,WW x:=by
 rcases ARk f with rfl |⟨g,l,rfl⟩
 ·intro x hx;rw[VD,AQA]at hx;rw[hx];exact hs
 ·rw[ARl]at hf hw⊢;rw[Fx];have hl:=hf l (by simp);cases h:l.join s with
  |none =>
   grind
  |some j =>
   intro x hx;simp only[ARD,ARI,ASh,or_false]at hx;rcases hx with hx |rfl
   ·grind
   ·cases l<;>cases s<;>simp only[Sg.join]at h
    ·cases h;simp only[Bn,AQT,AR0,AQU,ARP,Sg.w]at hw;simp only[WW,AQd];omega
    ·grind
    ·grind
    ·split at h
     ·cases h;simp only[WW]at hl hs⊢;omega
     ·grind
theorem lD(f:ATO Sg)(s:Sg):Bn (Ic f s)=Bn f+s.w:=by
 rw[<-Lp,gw,AQd,Lp,Iq]
theorem FA{f:ATO Sg}{k:Nat}(h:k<f.length):Bn (f.take (k+1))=Bn (f.take k)+(f.getD k (.co [])).w:=by
 rw[A3 h (z:=.co [])];simp[Bn]
theorem Fj(f:ATO Sg)(k:Nat):Bn (f.take k)<=Bn f:=by
 have:Bn f=Bn (f.take k)+Bn (f.drop k):=by
  unfold Bn;rw[<-AR0,<-AQT,ARj]
 omega
theorem wV{ss f:ATO Sg}(h1:Z8 ss)(h2:Z8 f)(hs:∀s∈ss,WW s)(hf:∀s∈f,WW s)(hw:Bn f+Bn ss<=4096):EM (fV ss) (fV f)=some (fV (Um f ss)):=by
 unfold EM WE;have hlen:=CX h1;have Xj:∀k,k<=ss.length->Z8 (Um f (ss.take k))/\(∀s∈Um f (ss.take k),WW s)/\Bn (Um f (ss.take k))=Bn f+Bn (ss.take k):=by
  intro k;induction k with
  |zero=>exact λ_=>⟨h2,hf,rfl⟩
  |succ k ih =>
   intro hk;obtain⟨i1,i2,i3⟩:=ih (by omega);have hm:ss.getD k (.co [])∈ss:=AO (by omega);have hwk:=FA (show k<ss.length by omega);have:=Fj ss (k+1);have e:Um f (ss.take (k+1))=Ic (Um f (ss.take k)) (ss.getD k (.co [])):=by
    rw[A3 (show k<ss.length by omega)];exact AR1
   rw[e];exact⟨gA i1 (h1 _ hm),dH i2 (hs _ hm) (by omega),by rw[lD,hwk];omega⟩
 have:=AW (f:=Gj _ ((fV ss).length)) (λk=>(k,fV _))  ss.length (λk hk=>by
  obtain⟨i1,i2,i3⟩:=Xj k (by omega);have hm:ss.getD k (.co [])∈ss:=AO hk;have:=Fj ss k;unfold Gj Pn;rw[Cm,Di hk,AQp];rw[Aal hk (hs _ hm) i2 (by have:=CX i1;omega),AP9,Bp hk (by omega),A3 hk ];rw[show Um f (ss.take k++[ss.getD k _])=Ic (Um f _) _ from AR1]) (by
  unfold Gj Pn;rw[Cm,Ew,AQo,AQj (AQf _)])
 rw[show fix (Gj _ _) (0,fV f)=some _ from this];rfl
theorem rz{f:ATO Sg}(h1:Z8 f)(hw:Bn f<=4096):Fu (fV f)=some (Bn f:Int):=by
 unfold Fu QX;have hlen:=CX h1;have:=AW (f:=De _ ((fV f).length)) (λk=>((Bn _),k))  f.length (λk hk=>by
  have h1:=FA hk;have h2:=Fj f (k+1);unfold De Jm;rw[Cm,Di hk,AQp,AQr (Bq hk),AQa];rw[Bp hk (by omega),show(fV f).getD k _=Ik _ from Fq Ik hk];rw[show(Ik _).2.2.1=((f.getD k _).w) by cases f.getD k _<;>rfl];rw[show wI ((Bn (f.take k))+((f.getD k (.co [])).w))=(Bn (f.take (k+1)))from A6]) (by
  unfold De Jm;rw[Cm,Ew,AQo,AQj (AQf _)])
 rw[show fix (De _ _) (0,0)=some _ from this];rfl
def part(s:Sg)(a w:Nat):Sg :=
 match s with
 |.co bs=>.co ((bs.drop a).take w)
 |.va v l _=>.va v (l+a) w
theorem pJ{s:Sg}{a w:Nat}(h:a+w<=s.w):(part s a w).bits=(s.bits.drop a).take w:=by
 cases s with
 |co bs=>simp[part,Sg.bits]
 |va v l n =>
  simp only[Sg.w]at h;simp only[part,Sg.bits];refine ARp (by grind) λi h1 h2=>?_;simp[ARe]
theorem Aaf{s:Sg}{a w:Nat}(h:a+w<=s.w):(part s a w).w=w:=by
 rw[<-Iq,pJ h,AQu,AQJ,Iq];omega
theorem Aae{s:Sg}{a w:Nat}(hs:WW s)(h:a+w<=s.w):WW (part s a w):=by
 cases s with
 |co bs=>simp only[part,WW,AQu,AQJ]at *;omega
 |va v l n=>simp only[part,WW,Sg.w]at *;omega
theorem Aap{s:Sg}{a w:Nat}(hs:WW s)(h1:1<=w)(h:a+w<=s.w):∃r,O0 (Ik s) (a:Int) (w:Int)=some r/\(r.1,r.2.1,r.2.2.1,(r.2.2.2.1,r.2.2.2.2,()),())=Ik (part s a w):=by
 unfold O0;cases s with
 |co bs =>
  simp only[WW]at hs;simp only[Sg.w]at h;obtain⟨r,gd,hr2⟩:=Abo (show bs.length<=8192 by omega) h1 h;rw[show((Ik _).1==-1)=true from rfl,show EZ (Ik (.co bs)).2.2.2.1 _ w=some r from gd];refine⟨_,rfl,?_⟩;have hw:r.1=w:=by
   have:=congrArg (λx =>x.1) hr2;have e:r.1=((((bs.drop a).take w).length)):=this;rw[e,AQu,AQJ];omega
  show(-1,0,r.1,(r.1,r.2,()),())=Ik (.co _);rw[hr2];rw[show Ik _=(-1,0,(((bs.drop a).take w).length:Int),fu _,())from rfl,hw,show((bs.drop a).take w).length=w by grind]
 |va v l n =>
  simp only[WW]at hs;simp only[Sg.w]at h;refine⟨_,rfl,?_⟩;simp only[part,Ik];rw[show wI _=((l+a:Nat))from A6]
theorem gW{f:ATO Sg}{k:Nat}(h:k<f.length):(fV f).getD k Af.zero=Ik (f.getD k (.co [])):=Fq Ik h
theorem T6{f:ATO Sg}{k:Nat}(h:k<f.length):Dz (f.take (k+1))=Dz (f.take k)++(f.getD k (.co [])).bits:=by
 rw[A3 h (z:=.co [])];simp[Dz]
theorem Zl(s:Sg):(Ik s).2.2.1=(s.w:Int):=by cases s<;>rfl
theorem Ahb{B S:ATO Bt}{lo w:Nat}:((B++S).drop lo).take w=(B.drop lo).take w++(S.drop (max lo B.length-B.length)).take (min (lo+w) (B.length+S.length)-max lo B.length):=by
 rw[List.drop_append,List.take_append,AQJ];congr 1;rw[show max lo B.length-B.length=lo-B.length by omega,List.take_eq_take_iff,AQJ];omega
theorem Qh{bs:ATO Bt}(hb:∀b∈bs,WW b.sg)(hl:bs.length<=4096):∀s∈Az bs,WW s:=by
 have:∀(bs:ATO Bt) (f:ATO Sg),(∀b∈bs,WW b.sg)->(∀s∈f,WW s)->Bn f+bs.length<=4096->∀s∈YO f bs,WW s:=λbs=>by
  induction bs with
  |nil=>exact λf _ h _=>h
  |cons b bs ih =>
   intro f hb hf hw;simp only[AQ4]at hw;exact ih _ (λx hx=>hb x (AQB _ hx)) (dH hf (hb b AQE) (by rw[AwC];omega)) (by rw[lD,AwC];omega)
 exact this bs [] hb (λs hs=>by grind) (by show 0+_<=_;omega)
theorem vk{f:ATO Sg}{lo w:Nat}(h1:Z8 f)(hf:∀s∈f,WW s)(hb:∀b∈Dz f,WW b.sg)(hw:Bn f<=4096)(hlo:lo+w<=8192):Fa (fV f) (lo:Int) (w:Int)=some (fV (Az (((Dz f).drop lo).take w))):=by
 unfold Fa Sr;have hlen:=CX h1;have:=AW (f:=EI (lo:Int) (w:Int) (fV f) ((fV f).length:Int)) (λk=>((Bn (f.take k):Int),(k:Int),fV (Az (((Dz (f.take k)).drop lo).take w)))) (t:=fV (Az (((Dz f).drop lo).take w))) f.length (λk hk=>by
  have hwk:=FA hk;have S5:=Fj f (k+1);have hm:f.getD k (.co [])∈f:=AO hk;obtain⟨s,hs⟩:∃s,s=f.getD k (.co []):=⟨_,rfl⟩;have hB:(Dz (f.take k)).length=Bn (f.take k):=Lp _;have Ah5:∀b∈((Dz (f.take k)).drop lo).take w,b∈Dz f:=λb hb=>by
   have:=ASj (ARt hb);rw[show Dz f=Dz (f.take k)++Dz (f.drop k) by unfold Dz;rw[<-ARR,ARj]];exact AQH _ this
  unfold EI Kp;simp only;rw[Cm,Di hk,AQp,AQr (Bq hk),AQa,gW hk,Bp hk (by omega),T6 hk,Ahb,hB,Iq,hwk];rw[<-hs]at hm hwk⊢;rw[Zl,show wI ((Bn (f.take k):Int)+(s.w:Int))=((Bn (f.take k)+s.w:Nat):Int)from A6,show wI ((lo:Int)+(w:Int))=((lo+w:Nat):Int)from A6];generalize hA:Bn (f.take k)=A at *;rw[show(if(A:Int)>(lo:Int)then(A:Int)else(lo:Int))=((max lo A:Nat):Int) by split<;>omega];rw[show(if((A+s.w:Nat):Int)<((lo+w:Nat):Int)then((A+s.w:Nat):Int)else((lo+w:Nat):Int))=((min (lo+w) (A+s.w):Nat):Int) by split<;>omega];unfold NF;by_cases Bw:max lo A<min (lo+w) (A+s.w)
  ·rw[show decide (((max lo A:Nat):Int)<((min (lo+w) (A+s.w):Nat):Int))=true by simp only[ARo];omega,AQp];rw[show wI (((max lo A:Nat):Int)-(A:Int))=((max lo A-A:Nat):Int)from A6,show wI (((min (lo+w) (A+s.w):Nat):Int)-((max lo A:Nat):Int))=((min (lo+w) (A+s.w)-max lo A:Nat):Int)from A6];have Gh:max lo A-A+(min (lo+w) (A+s.w)-max lo A)<=s.w:=by omega
   obtain⟨r,gd,hr2⟩:=Aap (a:=max lo A-A) (w:=min (lo+w) (A+s.w)-max lo A) (hf s hm) (by omega) Gh;rw[gd,AP9,hr2];rw[show([Ik (part s (max lo A-A) (min (lo+w) (A+s.w)-max lo A))]:ASI)=fV [part s (max lo A-A) (min (lo+w) (A+s.w)-max lo A)]from rfl];rw[wV (λx hx=>by rw[AQA]at hx;rw[hx,Aaf Gh];omega) (CM _) (λx hx=>by rw[AQA]at hx;rw[hx];exact Aae (hf s hm) Gh)
    (Qh (λb zG=>hb b (Ah5 b zG)) (by rw[AQu,AQJ,hB];omega)) (by
     rw[Ce,AQu,AQJ,hB];show _+(Bn [part s _ _])<=_;rw[show Bn [part s (max lo A-A) (min (lo+w) (A+s.w)-max lo A)]=min (lo+w) (A+s.w)-max lo A by simp only[Bn,AQU,ARz,ARP,List.sum_nil,Aaf Gh];rfl];omega)]
   simp only[AP9];rw[gC (λx hx=>by rw[AQA]at hx;rw[hx,Aaf Gh];omega)];rw[show Dz [part s (max lo A-A) (min (lo+w) (A+s.w)-max lo A)]=(s.bits.drop (max lo A-A)).take (min (lo+w) (A+s.w)-max lo A) by simp[Dz,pJ Gh]];rw[show ∀a b:ATO Bt,YO (Az a) b=Az (a++b)from λa b=>(MR [] a b).symm]
  ·rw[show decide (((max lo A:Nat):Int)<((min (lo+w) (A+s.w):Nat):Int))=false by simp only[AQ0];omega,AQo];simp only[AP9];rw[show min (lo+w) (A+s.w)-max lo A=0 by omega,AR2,AQO]) (by
  unfold EI Kp;simp only;rw[Cm,Ew,AQo,AQj (AQf _)])
 have h0:((Bn (f.take 0):Int),((0:Nat):Int),fV (Az (((Dz (f.take 0)).drop lo).take w)))=((0:Int),(0:Int),([]:ASI)):=by
  simp[Bn,Dz,Az,YO,fV]
 rw[h0]at this;rw[this];rfl
def BtB:Bt->Prop
 |.co _=>True
 |.va v a=>v<=4096/\a+1<=4096
theorem eG{b:Bt}(h:BtB b):WW b.sg:=by
 cases b with
 |co b=>simp[Bt.sg,WW]
 |va v a=>exact h
theorem CR(f:ATO Bt):(bV f).length=f.length:=AQl _
theorem W3(f g:ATO Bt):bV (f++g)=bV f++bV g:=AQT
theorem cC{f:ATO Bt}{k:Nat}(h:k<f.length):(bV f).getD k Aa.zero=Wa (f.getD k (.co false)):=Fq Wa h
theorem HE{f:ATO Bt}{k:Nat}(h:k<f.length):f.take (k+1)=f.take k++[f.getD k (.co false)]:=A3 h
theorem pC(bs:ASD):(fu bs).2.1.length=nw bs.length/\CQ (fu bs).2.1:=⟨EC _ _,DL _ _⟩
theorem AmL{bs:ASD}{k:Nat}(h:k<bs.length)(hl:bs.length<=8192):Jb (fu bs) (k:Int)=some (bI (bs.getD k false)):=by
 have:=kW (w:=bs.length) (DL (low (λi=>bs.getD i false) bs.length) (nw bs.length)) (i:=k) (by rw[EC];unfold nw;omega) (by rw[EC];unfold nw;omega);rw[qH h]at this;exact this
theorem zY{f:ATO Sg}{i:Nat}{B:ATO Bt}(hi:i<f.length)(hs:WW (f.getD i (.co [])))(hB:B.length<=8192):VO (fV f) (i:Int) 0 (bV B)=some (bV (B++(f.getD i (.co [])).bits)):=by
 obtain⟨s,ib⟩:∃s,s=f.getD i (.co []):=⟨_,rfl⟩;rw[<-ib]at hs⊢;have hsw:s.w<=4096:=by cases s<;>simp only[WW,Sg.w]at *<;>omega
 have:=AW (f:=G6 _ _) (λk=>(k,bV (B++s.bits.take k)))  s.w (λk hk=>by
  unfold G6 N9 Ry;simp only;have tL:0<=(i:Int)/\i<((fV f).length:Int):=Bq (by rw[Cm];exact hi);rw[AQr tL,AQa,gW hi,<-ib,Zl,Di hk,AQp,AQr tL];have hlen:(bV (B++s.bits.take k)).length<=20000:=by rw[CR,AQd,AQu];omega
  have XC:k<s.bits.length:=by rw[Iq];exact hk
  rw[Bp hk (by omega),HE XC,<-AQh,show bV (B++s.bits.take k++[s.bits.getD k _])=bV _++[Wa _]from W3 _ _];cases s with
  |co bs =>
   simp only[Sg.w]at hk hsw;rw[show decide _=true from rfl,AQp,AQr tL,show Jb (Ik (.co bs)).2.2.2.1 _=some _ from AmL hk (by omega),AP9];rw[AQr (by grind)];rw[show wI _=bI (bs.getD k _) by cases bs.getD k _<;>rfl];rw[show(Sg.co bs).bits.getD k _=.co (bs.getD k _) by simp[Sg.bits,hk]];rfl
  |va v l n =>
   simp only[Sg.w,WW]at hk hs hsw;rw[show decide ((Ik (.va v l n)).1<0)=false from AQc (show ¬((v:Int)<0) by omega),AQo,AQr tL,AQr tL,AQr (by grind)];rw[show wI _=((l+k))from A6 (by show l+(k:Int)=_;omega) (by omega)];rw[show(Sg.va v l n).bits.getD k _=.va v (l+k) by simp[Sg.bits,hk]];rfl) (by
  unfold G6 N9;have tL:0<=(i:Int)/\i<((fV f).length:Int):=Bq (by rw[Cm];exact hi);rw[AQr tL,AQa,gW hi,<-ib,Zl,Ew,AQo,<-Iq,AQj (AQf _)])
 rw[AR2,AQO]at this;exact this
theorem oZ{f:ATO Sg}(h1:Z8 f)(hf:∀s∈f,WW s)(hw:Bn f<=4096):IY (fV f)=some (bV (Dz f)):=by
 unfold IY VP;have hlen:=CX h1;have:=AW (f:=EV _) (λk=>(k,bV (Dz (f.take k))))  _ (λk hk=>by
  unfold EV Oa;have:=Fj f k;rw[Cm,Di hk,AQp,zY hk (hf _ (AO hk)) (by rw[Lp];omega),AP9,Bp hk (by omega),T6 hk]) (by
  unfold EV Oa;rw[Cm,Ew,AQo,AQj (AQf _)])
 rw[show fix (EV _) (0,[])=some _ from this];rfl
theorem Ak2(b:Bt):decide ((Wa b).1<0)=(match b with |.co _=>true |.va _ _=>false):=by
 cases b with
 |co b=>rfl
 |va v a=>exact AQc (show ¬((v:Int)<0) by omega)
theorem AwA{B:ATO Bt}{D:ASI}{i:Nat}{b:Bool}(hi:i<B.length)(hb:B.getD i (.co false)=.co b)(hl:B.length<=4096) :
    Ay (VQ (bV B) D ((i+1:Nat):Int) [bI b]) λr=>∃bs:ASD,r=(((i+bs.length:Nat):Int),bs.map bI)/\1<=bs.length/\i+bs.length<=B.length/\bs.getD 0 false=b/\B.take (i+bs.length)=B.take i++bs.map .co/\(i+bs.length<B.length->∃v a,B.getD (i+bs.length) (.co false)=.va v a):=by
 refine BB (λm x=>∃bs:ASD,x=(((i+bs.length:Nat):Int),bs.map bI)/\1<=bs.length/\i+bs.length<=B.length/\bs.getD 0 false=b/\B.take (i+bs.length)=B.take i++bs.map .co/\m=B.length-(i+bs.length)) (λm x hI=>?_) _ _ ⟨[b],rfl,by simp,hi,rfl,by
  show B.take (i+1)=_;rw[HE hi,hb];rfl,rfl⟩
 obtain⟨bs,rfl,h1,h2,h3,h4,rfl⟩:=hI;unfold Ob SS RA;rcases AQk _ _ with h |h
 ·rw[CR,Di h,AQr (Bq h),AQa,cC h];cases hx:B.getD _ _ with
  |co y =>
   rw[AQr (Bq h),AQr (by grind),Bp h (by omega)];refine Ay.mk ⟨_,?_,bs++[y],?_,by simp,by grind,?_,?_,rfl⟩
   ·grind
   ·rw[show IntKind.u8.wrap _=bI y by cases y<;>rfl];simp[ARe]
   ·grind
   ·rw[AQd];show B.take (i+bs.length+1)=_;rw[HE h,h4,hx,AQT,AQh];rfl
  |va v a =>
   exact Ay.mk ⟨bs,rfl,h1,h2,h3,h4,λ_=>⟨v,a,hx⟩⟩
 ·rw[CR,show decide _=false from I3,AQo,AP9];exact Ay.mk ⟨bs,rfl,h1,h2,h3,h4,λh'=>absurd h' (by omega)⟩
theorem AwB{B:ATO Bt}{D:ASI}{i v a:Nat}(hi:i<B.length)(hb:B.getD i (.co false)=.va v a)(hB:∀b∈B,BtB b)(hl:B.length<=4096) :
    Ay (RD (bV B) (i:Int) D ((i+1:Nat):Int)) λr=>∃n,r=((i+n:Nat):Int)/\1<=n/\i+n<=B.length/\B.take (i+n)=B.take i++(Sg.va v a n).bits/\(i+n<B.length->(Sg.va v a n).join (B.getD (i+n) (.co false)).sg=none):=by
 unfold RD;refine BB (λm (x:Int)=>∃n,x=((i+n:Nat):Int)/\1<=n/\i+n<=B.length/\B.take (i+n)=B.take i++(Sg.va v a n).bits/\m=B.length-(i+n)) (λm x hI=>?_) (B.length-(i+1)) _ ⟨1,rfl,by omega,hi,by
  rw[HE hi,hb];rfl,rfl⟩
 obtain⟨n,rfl,h1,h2,h4,rfl⟩:=hI;unfold Oc SU RB;have Aoe:B.getD (i+n-1) (.co false)=.va v (a+n-1):=by
  have e:(B.take (i+n)).getD (i+n-1) (.co false)=B.getD (i+n-1) (.co false):=by
   simp only[List.getD,AQ8,show i+n-1<i+n by omega,AQV]
  rw[<-e,h4];have hti:(B.take i).length=i:=by rw[AQu];omega
  simp only[List.getD,AQz,hti,show ¬i+n-1<i by omega,ARA];rw[show i+n-1-i=n-1 by omega];simp only[Sg.bits,AQC,ARQ,show n-1<n by omega,Option.map_some,Option.getD_some];congr 1;omega
 have OB:=hB (.va v (a+n-1)) (by rw[<-Aoe];exact AO (by omega));simp only[BtB]at OB;rcases AQk (i+n) B.length with h |h
 ·rw[CR,Di h,AQp,AQr (Bq h),AQa,AQa,cC h,AQr (Bq hi),cC hi,hb];rw[show wI (((i+n:Nat):Int)-1)=((i+n-1:Nat):Int)from A6,AQa,cC (by omega),Aoe,AQr (Bq h),AQr (Bq (by omega))];rw[show wI ((Wa (.va v (a+n-1))).2.1+1)=((a+n:Nat):Int)from A6 (by show((a+n-1:Nat):Int)+1=_;omega) (by omega)];by_cases hc:B.getD (i+n) (.co false)=.va v (a+n)
  ·rw[hc];rw[show((Wa (.va v (a+n))).1==(Wa (.va v a)).1)=true from ASi (v:Int),AQp,show((Wa (.va v (a+n))).2.1==((a+n:Nat):Int))=true from ASi _,AQp,AP9,ARq,Bp h (by omega)];refine Ay.mk ⟨_,?_,n+1,by rw[ARe],by omega,by omega,?_,rfl⟩
   ·omega
   ·rw[<-ARe,HE h,h4,hc];simp[Sg.bits,ARh]
  ·have ah:(bif (Wa (B.getD (i+n) (.co false))).1==(Wa (.va v a)).1 then(bif (Wa (B.getD (i+n) (.co false))).2.1==((a+n:Nat):Int)then some (.inl ())else some (.inr ()))else some (.inr ()):ATP (Unit⊕Unit))=some (.inr ()):=by
     cases hx:B.getD (i+n) (.co false)with
     |co y=>rw[show((Wa (.co y)).1==(Wa (.va v a)).1)=false by simp[Wa]];rfl
     |va v' a' =>
      by_cases hv:v'=v
      ·by_cases ha:a'=a+n
       ·subst hv ha;exact absurd hx hc
       ·rw[show((Wa (.va v' a')).2.1==((a+n:Nat):Int))=false from beq_eq_false_iff_ne.2 λe=>ha (Int.ofNat.inj e)];cases ((Wa (.va v' a')).1==(Wa (.va v a)).1)<;>rfl
      ·rw[show((Wa (.va v' a')).1==(Wa (.va v a)).1)=false from beq_eq_false_iff_ne.2 λe=>hv (Int.ofNat.inj e)];rfl
   refine Ay.of (a:=.inr ((i+n:Nat):Int)) (by
    have:=congrArg (λo=>o.bind (Sum.elim (λ(_:Unit)=>some (.inl (wI (((i+n:Nat):Int)+1)))) (λ(_:Unit)=>some (.inr ((i+n:Nat):Int):Int⊕Int)))) ah;exact this) ?_
   refine⟨n,rfl,h1,h2,h4,λ_=>?_⟩;cases hx:B.getD (i+n) (.co false)with
   |co y=>rfl
   |va v' a' =>
    simp only[Sg.join,Bt.sg];rw[AQs]
    rintro⟨rfl,rfl⟩
    exact hc hx
 ·rw[CR,show decide (((i+n:Nat):Int)<(B.length:Int))=false from I3,AQo,AP9,ARa];exact Ay.mk ⟨n,rfl,h1,h2,h4,λh'=>absurd h' (by omega)⟩
theorem AjJ{l s:Sg}{b:Bt}{r:ATO Bt}(hs:s.bits=b::r)(h:l.join b.sg=none):l.join s=none:=by
 cases s with
 |co bs =>
  cases bs with
  |nil=>simp[Sg.bits]at hs
  |cons x xs =>
   obtain⟨rfl,_⟩:=hs;cases l<;>simp[Sg.join,Bt.sg]at h⊢
 |va v a n =>
  cases n with
  |zero=>simp[Sg.bits]at hs
  |succ n =>
   simp only[Sg.bits,List.range_succ_eq_map,ARZ]at hs;obtain⟨rfl,_⟩:=hs;cases l with
   |co y=>rfl
   |va v' l' n' =>
    simp only[Sg.join,Bt.sg,AR3]at h⊢
    grind
def Stop(f:ATO Sg)(b:Bt):Prop:=∀l,f.getLast?=some l->l.join b.sg=none
theorem Aay{f:ATO Sg}{s:Sg}{b:Bt}{r:ATO Bt}(h:Stop f b)(hs:s.bits=b::r):Ic f s=f++[s]:=by
 unfold Ic;cases hl:f.getLast? with
 |none=>rw[List.getLast?_eq_none_iff]at hl;subst hl;rfl
 |some l=>simp only[AjJ hs (h l hl)]
theorem AiK{B:ATO Bt}{s:Sg}{b:Bt}{r:ATO Bt}(h:Stop (Az B) b)(hs:s.bits=b::r)(hw:1<=s.w):Az (B++s.bits)=Az B++[s]:=by
 rw[show Az _=YO (Az B) _ from MR [] B _,<-Zj _ s _ rfl hw,Aay h hs]
theorem AdF{B:ATO Bt}(hB:∀b∈B,BtB b)(hl:B.length<=4096):T0 (bV B)=some (decide ((Az B).length<=2000),fV (Az B)):=by
 unfold T0 Ur;refine Ay.eq_ (Ay.bind (P:=λr=>r=fV (Az B)) ?_ λr hr=>Ay.mk (by
  rw[hr,Cm];congr 1;rw[ARB];omega))
 refine BB (λm (x:Int×ASI)=>∃i:Nat,x=((i:Int),fV (Az (B.take i)))/\i<=B.length/\(i<B.length->Stop (Az (B.take i)) (B.getD i (.co false)))/\m=B.length-i) (λm x hI=>?_) B.length _ ⟨0,rfl,AQW _,λ_ l hl=>by simp[Az,YO]at hl,rfl⟩;obtain⟨i,rfl,hi,BX,rfl⟩:=hI;unfold Mt Rz;simp only;rcases AQk i B.length with h |h
 ·rw[CR,Di h,AQp,Bp h (by omega)];have hfl:(fV (Az (B.take i))).length<=4096:=by
   have h1:=CX (CM (B.take i));rw[Ce,AQu]at h1;rw[Cm];omega
  have key:∀s:Sg,∀n,n=s.w->1<=n->i+n<=B.length->B.take (i+n)=B.take i++s.bits->(i+n<B.length->s.join (B.getD (i+n) (.co false)).sg=none)->(s.bits.head?=some (B.getD i (.co false))) ->
      (fV (Az (B.take i))++[Ik s]=fV (Az (B.take (i+n))))/\(i+n<B.length->Stop (Az (B.take (i+n))) (B.getD (i+n) (.co false))):=by
   rintro s n rfl h1 h2 h3 h4 h5
   obtain⟨r,hr⟩:∃r,s.bits=B.getD i (.co false)::r:=by
    cases hs:s.bits with
    |nil=>rw[hs]at h5;cases h5
    |cons c r=>rw[hs]at h5;simp only[List.head?_cons,AQb]at h5;exact⟨r,by rw[h5]⟩
   have hn:=AiK (BX h) hr h1;rw[h3,hn];refine⟨by rw[Sm];rfl,λBw l hl=>?_⟩;rw[List.getLast?_append]at hl;simp only[List.getLast?_singleton,Option.some_or,AQb]at hl;subst hl;exact h4 Bw
  unfold RE;rw[CR,AQr (Bq h),AQa,cC h,Ak2];cases hx:B.getD i (.co false)with
  |co b =>
   simp only[AQp];rw[AQr (Bq h),show IntKind.u8.wrap (Wa (.co b)).2.1=bI b by cases b<;>rfl];have Es:=AwA (D:=fV (Az (B.take i))) h hx hl;refine Ay.bind (P:=λy=>∃n,y=(((i+n:Nat):Int),fV (Az (B.take (i+n))))/\1<=n/\i+n<=B.length/\(i+n<B.length->Stop (Az (B.take (i+n))) (B.getD (i+n) (.co false)))) (Es.bind λy hy=>?_) λy hy=>?_
   ·obtain⟨bs,rfl,h1,h2,h3,h4,h5⟩:=hy;have hk:=key (.co bs) bs.length rfl h1 h2 h4 (λBw=>by obtain⟨v,a,e⟩:=h5 Bw;rw[e];rfl) (by
     rw[hx];cases bs with
     |nil=>simp at h1
     |cons z zs=>simp only[Sg.bits,AQU,List.head?_cons];rw[<-h3];rfl)
    rw[ZS h1 (by omega),AP9,AQr (by show(_+1)*56<=_;omega)];exact Ay.mk ⟨bs.length,by rw[<-hk.1];rfl,h1,h2,hk.2⟩
   ·obtain⟨n,rfl,h1,h2,h3⟩:=hy;exact Ay.mk ⟨B.length-(i+n),by omega,i+n,rfl,h2,h3,rfl⟩
  |va v a =>
   simp only[AQo];have Es:=AwB (D:=fV (Az (B.take i))) h hx hB hl;refine Ay.bind (P:=λy=>∃n,y=(((i+n:Nat):Int),fV (Az (B.take (i+n))))/\1<=n/\i+n<=B.length/\(i+n<B.length->Stop (Az (B.take (i+n))) (B.getD (i+n) (.co false)))) (Es.bind λy hy=>?_) λy hy=>?_
   ·obtain⟨n,rfl,h1,h2,h4,h5⟩:=hy;have hk:=key (.va v a n) n rfl h1 h2 h4 h5 (by
     rw[hx];obtain⟨m,rfl⟩:∃m,n=m+1:=⟨n-1,by omega⟩;simp[Sg.bits,List.range_succ_eq_map])
    rw[AQr (Bq h),AQr (Bq h),AQr (by show(_+1)*56<=_;omega),show wI (((i+n:Nat):Int)-(i:Int))=(n:Int)from A6];exact Ay.mk ⟨n,by rw[<-hk.1];rfl,h1,h2,hk.2⟩
   ·obtain⟨n,rfl,h1,h2,h3⟩:=hy;exact Ay.mk ⟨B.length-(i+n),by omega,i+n,rfl,h2,h3,rfl⟩
 ·have:i=B.length:=by omega
  subst this;rw[CR,Ew,AQo,AQj (AQf _)];exact Ay.mk rfl
def kg(c:Int):Prop:=48<=c/\c<=57
def Uk(c:Int):Prop:=97<=c/\c<=122
instance (c:Int):Decidable (kg c):=inferInstanceAs (Decidable (_/\_))
instance (c:Int):Decidable (Uk c):=inferInstanceAs (Decidable (_/\_))
def tV(s:ByteArray):Prop:=1<=s.size/\s.size<=12/\¬kg (Dc s 0)/\∀i:Nat,i<s.size->kg (Dc s i)\/Uk (Dc s i)
theorem kX(c:Int):N3 c=decide (kg c):=(AQ7 _ _).symm
theorem sS{s:ByteArray}{i:Nat}(hi:i<s.size):Np s (i:Int)=some (decide ¬(kg (Dc s i)\/Uk (Dc s i))):=by
 unfold Np;rw[AQr (Bq hi),AQr (Bq hi),AQr (Bq hi),kX];generalize Dc s _=c;by_cases h1:kg c
 ·grind
 ·rw[AQc h1];by_cases h2:c<97
  ·rw[AQe h2,AQe (p:=¬(kg c\/Uk c)) (by unfold Uk;rintro(h |h);exact h1 h;omega)];rfl
  ·rw[AQc h2];refine congrArg some (decide_eq_decide.2 ?_);unfold Uk kg at *;omega
theorem rY{s:ByteArray}{i:Nat}(hi:i<s.size):M3 s (i:Int)=some (decide ¬(kg (Dc s i)\/Uk (Dc s i))):=by
 unfold M3;simp only[AQr (Bq hi)];generalize Dc s i=c;by_cases h1:c<97
 ·rw[AQe h1];by_cases h2:c<48
  ·rw[AQe h2];exact congrArg some (AQe (by unfold kg Uk;omega)).symm
  ·rw[AQc h2];exact congrArg some (decide_eq_decide.2 (by unfold kg Uk;omega))
 ·rw[AQc h1];by_cases h2:c>122
  ·rw[AQe h2];by_cases h3:c<48
   ·omega
   ·rw[AQc h3];exact congrArg some (decide_eq_decide.2 (by unfold kg Uk;omega))
  ·rw[AQc h2];exact congrArg some (AQc (by unfold kg Uk;omega)).symm
theorem xn(s:ByteArray):Ay (QB s) λr=>r=true↔tV s:=by
 unfold QB Rv;by_cases h1:s.size<1
 ·rw[MM];exact Ay.mk ⟨λh=>by grind,λh=>absurd h.1 (by omega)⟩
 ·rw[I3,AQo];by_cases h2:s.size>12
  ·rw[MM];exact Ay.mk ⟨λh=>by grind,λh=>absurd h.2.1 (by omega)⟩
  ·rw[I3,AQo,AQr ⟨by omega,by omega⟩,AP9,kX];by_cases h3:kg (Dc s 0)
   ·rw[AQe h3];exact Ay.mk ⟨λh=>by grind,λh=>absurd h3 h.2.2.1⟩
   ·rw[AQc h3];refine Ay.bind (P:=λt=>(t=.inl ()/\¬∀i ,i<s.size->kg (Dc s i)\/Uk (Dc s i))\/(t=.inr ()/\∀i ,i<s.size->kg (Dc s i)\/Uk (Dc s i))) ?_ λt ht=>?_
    ·refine B4 (λk _=>(k:Int)) s.size (λk _=>∀i ,i<k->kg (Dc s i)\/Uk (Dc s i)) (λk _ hk hI=>?_) (λ_ hI=>?_) (s0:=()) (λi h=>by omega)
     ·unfold JZ N5;rw[Di hk,sS hk,AP9];by_cases h:kg (Dc s k)\/Uk (Dc s k)
      ·rw[AQc (λhn=>hn h),Bp hk (by omega)];refine Ay.mk ⟨(),rfl,λi hi=>?_⟩
       grind
      ·rw[AQe h];exact Ay.mk (.inl ⟨rfl,λh'=>h (h' k hk)⟩)
     ·unfold JZ N5;rw[Ew];exact Ay.mk (.inr ⟨rfl,hI⟩)
    ·rcases ht with ⟨rfl,h⟩|⟨rfl,h⟩
     ·exact Ay.mk ⟨λh=>by grind,λh'=>absurd h'.2.2.2 h⟩
     ·exact Ay.mk ⟨λ_=>⟨by omega,by omega,h3,h⟩,λ_=>rfl⟩
theorem wm(s:ByteArray):Ay (Qx s) λr=>r=true↔tV s:=by
 unfold Qx Q1;by_cases h1:s.size<1
 ·rw[MM];exact Ay.mk ⟨λh=>by grind,λh=>absurd h.1 (by omega)⟩
 ·rw[I3,AQo];by_cases h2:s.size>12
  ·rw[MM];exact Ay.mk ⟨λh=>by grind,λh=>absurd h.2.1 (by omega)⟩
  ·rw[I3,AQo,AQr ⟨by omega,by omega⟩,AQr ⟨by omega,by omega⟩];by_cases h3:Uk (Dc s 0)
   ·have h4:(bif decide (Dc s 0<97)then some true else some (decide (Dc s 0>122)))=some false:=by
      unfold Uk at h3
      grind
    rw[h4,AP9];refine Ay.bind (P:=λt=>(t=.inl ()/\¬∀i ,i<s.size->kg (Dc s i)\/Uk (Dc s i))\/(t=.inr ()/\∀i ,i<s.size->kg (Dc s i)\/Uk (Dc s i))) ?_ λt ht=>?_
    ·refine B4 (λk _=>(k:Int)) s.size (λk _=>∀i ,i<k->kg (Dc s i)\/Uk (Dc s i)) (λk _ hk hI=>?_) (λ_ hI=>?_) (s0:=()) (λi h=>by omega)
     ·unfold JI NH;rw[Di hk,rY hk,AP9];by_cases h:kg (Dc s k)\/Uk (Dc s k)
      ·rw[AQc (λhn=>hn h),Bp hk (by omega)];refine Ay.mk ⟨(),rfl,λi hi=>?_⟩
       grind
      ·rw[AQe h];exact Ay.mk (.inl ⟨rfl,λh'=>h (h' k hk)⟩)
     ·unfold JI NH;rw[Ew];exact Ay.mk (.inr ⟨rfl,hI⟩)
    ·rcases ht with ⟨rfl,h⟩|⟨rfl,h⟩
     ·exact Ay.mk ⟨λh=>by grind,λh'=>absurd h'.2.2.2 h⟩
     ·refine Ay.mk ⟨λ_=>⟨by omega,by omega,?_,h⟩,λ_=>rfl⟩;unfold Uk at h3;unfold kg;omega
   ·have h4:(bif decide (Dc s 0<97)then some true else some (decide (Dc s 0>122)))=some true:=by
      unfold Uk at h3
      grind
    rw[h4,AP9];refine Ay.mk ⟨λh=>by grind,λh=>?_⟩;rcases h.2.2.2 0 (by omega)with h' |h'
    ·exact absurd h' h.2.2.1
    ·grind
theorem Tc(n a b:Int):BO n a b=decide (a<=n/\n<=b):=by unfold BO;rw[AQ7]
theorem Lu(n a b:Int):AY n a b=decide (a<=n/\n<=b):=by unfold AY;rw[AQ7]
def jY(d:ASG)(i:Nat):ASq:=d.getD i Ab.zero
def dw(d:ASG)(i:Nat):Int:=(jY d i).2.1
def K8(d:ASG)(k:Nat):Int:=((d.take k).map λx=>x.2.1).sum
theorem W7{d:ASG}{k:Nat}(h:k<d.length):K8 d (k+1)=K8 d k+dw d k:=by
 unfold K8;rw[A3 h (z:=Ty.zero _),AQT];simp[dw,jY]
def fP(d:ASG)(i:Nat):Prop:=tV (jY d i).1/\(1<=dw d i/\dw d i<=4096)/\∀k,k<i->(jY d k).1≠(jY d i).1
def AE(d:ASG):Prop:=d.length<=60/\(∀i,i<d.length->fP d i)/\K8 d d.length<=20000
theorem Hk{d:ASG}{k:Nat}(hk:k<=d.length)(h:∀i,i<k->fP d i):0<=K8 d k/\K8 d k<=4096*k:=by
 induction k with
 |zero=>simp[K8]
 |succ k ih =>
  rw[W7 (by omega)];have:=ih (by omega) λi hi=>h i (by omega);have:=(h k (by omega)).2.1;omega
theorem UU(d:ASG):Ay (KP d) λr=>r=true↔AE d:=by
 unfold KP;by_cases hl:d.length<=60
 ·rw[I3];refine Ay.bind (P:=λt=>(∃x,t=.inl x/\¬∀i,i<d.length->fP d i)\/(t=.inr (K8 d d.length)/\∀i,i<d.length->fP d i)) (B4 (λk _=>(K8 d k,(k:Int))) d.length (λk _=>∀i,i<k->fP d i) (λk _ hk hI=>?_) (λ_ hI=>?_) (s0:=()) (λi h=>by omega)) λt ht=>?_
  ·unfold IV Mj PF;rw[Di hk,AQr (Bq hk),AQa];show Ay (((QB (jY d k).1).bind _).bind _) _;obtain⟨r,hr,hq⟩:=xn _;rw[hr,AP9];by_cases h1:tV (jY d k).1
   ·rw[hq.2 h1];simp only[AQS,AQo];rw[AQr (Bq hk),AQr (Bq hk),AP9];by_cases h2:1<=dw d k/\dw d k<=4096
    ·rw[show BO (d.getD k _).2.1 1 4096=true from(Tc _ _ _).trans (AQe h2)];refine Ay.bind (P:=λt=>(t=.inl ()/\¬∀j,j<k->(jY d j).1≠(jY d k).1)\/(t=.inr ()/\∀j,j<k->(jY d j).1≠(jY d k).1)) ?_ λt ht=>?_
     ·refine B4 (λj _=>(j:Int)) k (λj _=>∀i,i<j->(jY d i).1≠(jY d k).1) (λj _ hj hJ=>?_) (λ_ hJ=>?_) (s0:=()) (λi h=>by omega)
      ·unfold IU Mi;rw[Di hj,AQr (Bq (by omega)),AQr (Bq hk),AQa];show Ay (bif Jf (jY d j).1 (jY d k).1 then _ else _) _;cases he:Jf _ _ with
       |true=>exact Ay.mk (.inl ⟨rfl,λh=>h j hj ((Xz _ _).1 he)⟩)
       |false =>
        rw[Bp hj (by omega)];refine Ay.mk ⟨(),rfl,λi hi=>?_⟩;rcases AQk i j with h' |h'
        ·grind
        ·rw[show i=j by omega];intro e;rw[(Xz _ _).2 e]at he;cases he
      ·unfold IU Mi;rw[Ew];exact Ay.mk (.inr ⟨rfl,hJ⟩)
     ·rcases ht with ⟨rfl,h⟩|⟨rfl,h⟩
      ·exact Ay.mk (.inl ⟨_,rfl,λh'=>h (h' k hk).2.2⟩)
      ·rw[Bp hk (by omega)];have hb:=Hk (by omega) hI;rw[show wI _=K8 d _ by
        rw[W7 hk];have:(d.getD k _).2.1=dw d k:=rfl;rw[this,BU]]
       refine Ay.mk ⟨(),rfl,λi hi=>?_⟩;rcases AQk i k with h' |h'
       ·grind
       ·rw[show i=k by omega];exact⟨h1,h2,h⟩
    ·rw[show BO (d.getD k _).2.1 1 4096=false from(Tc _ _ _).trans (AQc h2)];exact Ay.mk (.inl ⟨_,rfl,λh=>h2 (h k hk).2.1⟩)
   ·rw[show r=false by grind];exact Ay.mk (.inl ⟨_,rfl,λh=>h1 (h k hk).1⟩)
  ·unfold IV Mj;rw[Ew];exact Ay.mk (.inr ⟨rfl,hI⟩)
  ·rcases ht with ⟨x,rfl,h⟩|⟨rfl,h⟩
   ·exact Ay.mk ⟨λh=>by grind,λh'=>absurd h'.2.1 h⟩
   ·refine Ay.mk ⟨λh'=>⟨hl,h,ASd h'⟩,λh'=>AQe h'.2.2⟩
 ·rw[MM];exact Ay.mk ⟨λh=>by grind,λh=>absurd h.1 hl⟩
theorem uX{d:ASG}{i:Nat}{name:ByteArray}(hi:i<=d.length)(hl:d.length<=1048576):Ay (Ls ((d.take i).drop 0) name) λr=>0<=r↔∃j,j<i/\(jY d j).1=name:=by
 unfold Ls HX I9;have hlen:(d.take i).length=i:=by grind
 rw[ASf,hlen];refine Ay.bind  (Ay.bind (P:=λt=>(∃j:Nat,t=.inl j/\j<i/\(jY d j).1=name)\/(t=.inr ()/\∀j,j<i->(jY d j).1≠name)) ?_ λt ht=>?_) λr hr=>Ay.mk hr
 ·refine B4 (λj _=>(j:Int)) i (λj _=>∀k,k<j->(jY d k).1≠name) (λj _ hj hJ=>?_) (λ_ hJ=>?_) (s0:=()) (λi h=>by omega)
  ·unfold CY Ea;have hg:(d.take i).getD j (Ty.zero _)=jY d j:=by simp[jY,hj]
   rw[Di hj,hlen,AQr (Bq hj),AQa,hg];unfold T9;cases he:Jf _ name with
   |true=>exact Ay.mk (.inl ⟨j,rfl,hj,(Xz _ _).1 he⟩)
   |false =>
    rw[Bp hj (by omega)];refine Ay.mk ⟨(),rfl,λk hk=>?_⟩;rcases AQk k j with h' |h'
    ·grind
    ·rw[show k=j by omega];intro e;rw[(Xz _ _).2 e]at he;cases he
  ·unfold CY Ea;rw[Ew];exact Ay.mk (.inr ⟨rfl,hJ⟩)
 ·rcases ht with ⟨j,rfl,h1,h2⟩|⟨rfl,h⟩
  ·exact Ay.mk ⟨λ_=>⟨j,h1,h2⟩,λ_=>by omega⟩
  ·exact Ay.mk ⟨λh'=>absurd (show 0<=-1 from h') (by omega),λ⟨j,h1,h2⟩=>absurd h2 (h j h1)⟩
theorem XS(d:ASG):Ay (Kl d) λr=>r=true↔AE d:=by
 unfold Kl;by_cases hl:d.length<=60
 ·rw[I3];refine Ay.bind (P:=λt=>(∃x,t=.inl x/\¬∀i,i<d.length->fP d i)\/(t=.inr (K8 d d.length)/\∀i,i<d.length->fP d i)) (B4 (λk _=>(K8 d k,(k:Int))) d.length (λk _=>∀i,i<k->fP d i) (λk _ hk hI=>?_) (λ_ hI=>?_) (s0:=()) (λi h=>by omega)) λt ht=>?_
  ·unfold Ir L0 Pl;rw[Di hk,AQr (Bq hk),AQa];show Ay (((Qx (jY d k).1).bind _).bind _) _;obtain⟨r,hr,hq⟩:=wm _;rw[hr,AP9];by_cases h1:tV (jY d k).1
   ·rw[hq.2 h1];by_cases h2:1<=dw d k/\dw d k<=4096
    ·rw[show AY (d.getD k _).2.1 1 4096=true from(Lu _ _ _).trans (AQe h2)];simp only[AQS,AQo];rw[AQr ⟨by omega,by omega,by omega⟩];obtain⟨r',hr',rN⟩:=uX (d:=d) (i:=k)  (by omega) (by omega);rw[show Ls _ _=some r' from hr',AP9,AP9];by_cases h3:0<=r'
     ·rw[AQe (show r'>=0 from h3)];obtain⟨j,hj1,hj2⟩:=rN.1 h3;exact Ay.mk (.inl ⟨_,rfl,λh=>(h k hk).2.2 j hj1 hj2⟩)
     ·rw[AQc (show ¬r'>=0 from h3),Bp hk (by omega)];have hb:=Hk (by omega) hI;rw[show wI _=K8 d _ by
       rw[W7 hk];have:(d.getD k _).2.1=dw d k:=rfl;rw[this,BU]]
      refine Ay.mk ⟨(),rfl,λi hi=>?_⟩;rcases AQk i k with h' |h'
      ·grind
      ·rw[show i=k by omega];exact⟨h1,h2,λj hj e=>h3 (rN.2 ⟨j,hj,e⟩)⟩
    ·rw[show AY (d.getD k _).2.1 1 4096=false from(Lu _ _ _).trans (AQc h2)];exact Ay.mk (.inl ⟨_,rfl,λh=>h2 (h k hk).2.1⟩)
   ·rw[show r=false by grind];exact Ay.mk (.inl ⟨_,rfl,λh=>h1 (h k hk).1⟩)
  ·unfold Ir L0;rw[Ew];exact Ay.mk (.inr ⟨rfl,hI⟩)
  ·rcases ht with ⟨x,rfl,h⟩|⟨rfl,h⟩
   ·exact Ay.mk ⟨λh=>by grind,λh'=>absurd h'.2.1 h⟩
   ·refine Ay.mk ⟨λh'=>⟨hl,h,ASd h'⟩,λh'=>AQe h'.2.2⟩
 ·rw[MM];exact Ay.mk ⟨λh=>by grind,λh=>absurd h.1 hl⟩
def BW(n:ASt):Int:=n.1
def Ib(n:ASt):Int:=n.2.1
def nA(n:ASt):Int:=n.2.2.1
def nB(n:ASt):Int:=n.2.2.2.1
def nW(n:ASt):Int:=n.2.2.2.2.1.1
def gu(n:ASt):ASC:=n.2.2.2.2.1.2.1
def AP(n:ASt):ASC:=n.2.2.2.2.2.1
def YL(n:ASt):Prop:=(AP n).length<=1048576/\(gu n).length<=1048576/\CQ (gu n)
def Oz(n:ASt)(i:Nat):Prop:=∀k∈AP n,0<=k/\k<(i:Int)
def NoB(n:ASt):Prop:=nW n=0/\(gu n).length=0
def cu(n:ASt):Prop:=4<=BW n/\BW n<=9
instance (n:ASt):Decidable (NoB n):=inferInstanceAs (Decidable (_/\_))
instance (n:ASt):Decidable (cu n):=inferInstanceAs (Decidable (_/\_))
def XD(n:ASt):Prop:=(BW n≠1->Ib n=0)/\(BW n≠2->NoB n)/\(BW n≠4->nB n=0)/\(¬cu n->nA n=0)
def uh(n:ASt):Prop:=∃m:Nat,nW n=(m:Int)/\oc m (gu n)
def LV(d:ASG)(n:ASt):Prop :=
 (BW n=1/\(AP n).length=0/\0<=Ib n/\Ib n<(d.length:Int))\/(BW n=2/\(AP n).length=0/\uh n)\/(BW n=3/\2<=(AP n).length)\/(4<=BW n/\BW n<=9/\(AP n).length=1)
def Hg(d:ASG)(n:ASt)(s:Int):Int :=
 if BW n=1 then dw d (Ib n).toNat else if BW n=2 then nW n else
 if BW n=4 then(if 0<=nB n/\nB n<=nA n/\nA n<s then nA n-nB n+1 else -1)else
 if BW n=5\/BW n=6 then(if 0<=nA n/\nA n<=4096 then s+nA n else -1)else
 if BW n=7\/BW n=8 then(if 0<=nA n/\nA n<=4096 then s else -1)else
 if BW n=9 then(if 1<=nA n/\nA n<=4096 then s*nA n else -1)else s
def Hs(BS:ASC)(n:ASt):ASC:=(AP n).map λk=>BS.getD k.toNat 0
def tW(d:ASG)(BS:ASC)(n:ASt)(w:Int):Prop :=
 Oz n BS.length/\XD n/\LV d n/\w=Hg d n (Hs BS n).sum/\1<=w/\w<=4096
theorem qF{A:Type}(l:ATO A):((l.length:Int)==0)=decide (l.length=0):=by
 grind
theorem UL{a b:Int}:(a !=b)=decide (a≠b):=by
 grind
theorem UK{a b:Int}:(a==b)=decide (a=b):=by
 grind
theorem pF(n:ASt):C1 n.2.2.2.2.1=decide (NoB n):=by
 have h1:(nW n==0)=decide _:=UK;have h2:=qF (gu n);show((nW n==0)&&(((gu n).length:Int)==0))=_;rw[h2];exact(AQ7 _ _).symm
theorem wx(n:ASt):Bc n.1=decide (cu n):=by
 exact Tc _ _ _
theorem xm{d:ASG}{n:ASt}{i:Nat}(hn:YL n)(hi:i<=1048576)(hd:d.length<=1048576):Ay (QC d n (i:Int)) λr=>r=true↔Oz n i/\XD n/\LV d n:=by
 unfold QC;refine Ay.bind (P:=λt=>(t=.inl ()/\¬Oz n i)\/(t=.inr ()/\Oz n i)) ?_ λt ht=>?_
 ·unfold VM;refine B4 (λj (_:Unit)=>(j:Int)) (AP n).length (λj _=>∀k,k<j->0<=(AP n).getD k 0/\(AP n).getD k 0<(i:Int)) (λj _ hj hJ=>?_) (λ_ hJ=>?_) (s0:=()) (λi h=>by omega)
  ·unfold J0 N6;have hlen:=hn.1;show Ay (bif decide ((j:Int)<((AP n).length:Int))then(if 0<=(j:Int)/\(j:Int)<((AP n).length:Int)then(bif !BO ((AP n).getD (j:Int).toNat 0) 0 (wI ((i:Int)-1))then _ else _)else none)else _) _;rw[Di hj,AQp,AQr (Bq hj),AQa,BU (x:=(i:Int)-1),Tc];by_cases h:0<=(AP n).getD j 0/\(AP n).getD j 0<(i:Int)
   ·rw[MM];simp only[AQS,AQo];rw[Bp hj (by omega)];refine Ay.mk ⟨(),rfl,λk hk=>?_⟩;rcases AQk k j with h' |h'
    ·exact hJ k h'
    ·rw[show k=j by omega];exact h
   ·rw[I3];exact Ay.mk (.inl ⟨rfl,λhk=>h (hk _ (AO hj))⟩)
  ·unfold J0 N6;show Ay (bif decide (((AP n).length:Int)<((AP n).length:Int))then _ else _) _;rw[Ew,AQo];refine Ay.mk (.inr ⟨rfl,λk hk=>?_⟩);obtain⟨m,hm,rfl⟩:=ARb hk;have:=hJ m hm;rwa [show(AP n).getD m 0=(AP n)[m] by simp[List.getD,hm]]at this
 ·rcases ht with ⟨rfl,h⟩|⟨rfl,h⟩
  ·exact Ay.mk ⟨λh=>by(cases h),λh'=>absurd h'.1 h⟩
  ·refine Ay.bind (P:=λt=>(t=.inl ()/\¬XD n)\/(t=.inr ()/\XD n)) ?_ λt ht=>?_
   ·unfold Rw OQ;have hb:=pF n;have h1:=wx n;have e1:∀x:Int,(n.1 !=x)=decide (BW n≠x):=λx=>UL;have e2:(n.2.1 !=(0:Int))=decide (Ib n≠0):=UL;have e3:(n.2.2.2.1 !=(0:Int))=decide (nB n≠0):=UL;have e4:(n.2.2.1 !=(0:Int))=decide (nA n≠0):=UL;rw[hb,h1,e1,e1,e1,e2,e3,e4];unfold XD;by_cases a1:BW n=1<;>by_cases a2:BW n=2<;>by_cases a3:BW n=4<;>by_cases a4:cu n<;>by_cases a5:Ib n=0<;>by_cases a6:NoB n<;>by_cases a7:nB n=0<;>by_cases a8:nA n=0 <;>
     first |(exfalso;omega)|(simp[a1,a2,a3,a4,a5,a6,a7,a8,TS];done)
   ·rcases ht with ⟨rfl,h2⟩|⟨rfl,h2⟩
    ·exact Ay.mk ⟨λh=>by(cases h),λh'=>absurd h'.2.1 h2⟩
    ·have hk:=hn.1;have e1:∀x:Int,(n.1==x)=decide (BW n=x):=λx=>UK;have e2:((n.2.2.2.2.2.1.length:Int)==0)=decide ((AP n).length=0):=qF (AP n);have e3:((n.2.2.2.2.2.1.length:Int)==1)=decide ((AP n).length=1):=by
      show(((AP n).length:Int)==1)=_;rw[UK,ARB];omega
     have e4:decide ((n.2.2.2.2.2.1.length:Int)>=2)=decide (2<=(AP n).length):=by
      show decide (((AP n).length:Int)>=2)=_;rw[ARB];omega
     have e5:BO n.2.1 0 (wI ((d.length:Int)-1))=decide (0<=Ib n/\Ib n<(d.length:Int)):=by
      rw[Tc,BU (x:=(d.length:Int)-1),ARB];show 0<=Ib n/\Ib n<=(d.length:Int)-1↔_;omega
     obtain⟨r,hr,hq⟩:=nQ (w:=nW n) hn.2.2 hn.2.1;have e6:QA n.2.2.2.2.1=some r:=hr;have hv:uh n↔r=true:=hq.symm;have h1:=wx n;simp only[ARa];rw[e1,e1,e1,e2,e3,e4,e5,e6,h1];unfold LV;rw[show(4<=BW n/\BW n<=9/\(AP n).length=1)=(cu n/\(AP n).length=1)from propext and_assoc.symm,hv];have Y3:cu n↔4<=BW n/\BW n<=9:=Iff.rfl;by_cases a1:BW n=1
     ·have a4:¬cu n:=by rw[Y3];omega
      by_cases a5:(AP n).length=0
      ·simp[a1,a4,a5,h,h2,TS]
      ·simp[a1,a4,a5,h,h2,TS]
     ·by_cases a2:BW n=2
      ·have a4:¬cu n:=by rw[Y3];omega
       by_cases a5:(AP n).length=0
       ·simp[a2,a4,a5,h,h2,TS]
       ·simp[a2,a4,a5,h,h2,TS]
      ·by_cases a3:BW n=3
       ·have a4:¬cu n:=by rw[Y3];omega
        simp[a3,a4,h,h2,TS]
       ·by_cases a4:cu n
        ·simp[a1,a2,a3,a4,h,h2,TS]
        ·simp[a1,a2,a3,a4,h,h2,TS]
def UY(BS:ASC)(n:ASt):Int:=(Hs BS n).sum
def jv(BS:ASC):Prop:=BS.length<=1048576/\∀w∈BS,1<=w/\w<=4096
theorem mn{BS:ASC}(h:jv BS){k:Int}(hk:0<=k/\k<(BS.length:Int)):1<=BS.getD k.toNat 0/\BS.getD k.toNat 0<=4096:=h.2 _ (AO (by omega))
theorem fp{BS:ASC}{n:ASt}{k:Nat}(hk:k<(AP n).length):((Hs BS n).take (k+1)).sum=((Hs BS n).take k).sum+BS.getD ((AP n).getD k 0).toNat 0:=by
 have hl:k<(Hs BS n).length:=by unfold Hs;rw[AQl];exact hk
 rw[A3 hl (z:=0)];unfold Hs
 grind
theorem br{BS:ASC}{n:ASt}(hw:jv BS)(Gh:Oz n BS.length):∀k,k<=(AP n).length->(k:Int)<=((Hs BS n).take k).sum/\((Hs BS n).take k).sum<=4096*k:=by
 intro k;induction k with
 |zero=>simp
 |succ k ih =>
  intro hk;rw[fp (by omega)];have:=mn hw (Gh _ (AO (z:=0) (show k<(AP n).length by omega)));omega
theorem oY(BS:ASC)(n:ASt):(Hs BS n).take (AP n).length=Hs BS n:=AQj (by unfold Hs;grind)
theorem X6{BS:ASC}{n:ASt}(hw:jv BS)(Gh:Oz n BS.length):((AP n).length:Int)<=UY BS n/\UY BS n<=4096*(AP n).length:=by
 have:=br hw Gh _ (AQf _);rw[oY]at this;exact this
theorem xu{d:ASG}{BS:ASC}{n:ASt}(hn:YL n)(hw:jv BS)(Gh:Oz n BS.length)(hf:LV d n):Ay (TY d n BS) λr=>r=Hg d n (min 8192 (UY BS n)):=by
 have hlen:=hn.1;refine Ay.bind (P:=λt=>t=min 8192 (UY BS n)) ?_ λt ht=>?_
 ·have h0:min 8192 (((Hs BS n).take 0).sum)=0:=rfl;have:=B4 (f:=N7 d BS n) (λk (_:Unit)=>(min 8192 (((Hs BS n).take k).sum),(k:Int))) (AP n).length (λ_ _=>True) (Q:=λt=>t=min 8192 (UY BS n)) (λk _ hk _=>?_) (λ_ _=>?_) (s0:=()) trivial
  ·exact this
  ·have Amj:=Gh _ (AO (z:=0) hk);have hb:=br hw Gh k (by omega);have hwk:=mn hw Amj;show Ay (bif decide ((k:Int)<((AP n).length:Int))then(if 0<=(k:Int)/\(k:Int)<((AP n).length:Int)then(if 0<=(AP n).getD (k:Int).toNat 0/\(AP n).getD (k:Int).toNat 0<(BS.length:Int)then some (Sum.inl (if wI (min 8192 (((Hs BS n).take k).sum)+BS.getD ((AP n).getD (k:Int).toNat 0).toNat 0)<8192 then wI (min 8192 (((Hs BS n).take k).sum)+BS.getD ((AP n).getD (k:Int).toNat 0).toNat 0)else 8192,wI ((k:Int)+1)))else none)else none)else _) _;rw[Di hk,AQr (Bq hk),AQa,AQr Amj,Bp hk (by omega)];refine Ay.mk ⟨(),?_,trivial⟩;rw[BU,fp hk]
   grind
  ·show Ay (bif decide (((AP n).length:Int)<((AP n).length:Int))then _ else _) _;rw[Ew];refine Ay.mk ?_;rw[oY];rfl
 ·subst ht;generalize hS:min 8192 (UY BS n)=S;have hSb:0<=S/\S<=8192:=by have:=X6 hw Gh;omega
  have e1:∀x:Int,(n.1==x)=decide (BW n=x):=λx=>UK;have e2:BO n.2.2.1 0 4096=decide (0<=nA n/\nA n<=4096):=Tc _ _ _;have e3:BO n.2.2.1 1 4096=decide (1<=nA n/\nA n<=4096):=Tc _ _ _;have e4:(decide (n.2.2.2.1<0)||(decide (n.2.2.1<n.2.2.2.1)||decide (n.2.2.1>=S)))=decide (¬(0<=nB n/\nB n<=nA n/\nA n<S)):=by
   show(decide (nB n<0)||(decide (nA n<nB n)||decide (nA n>=S)))=_
   grind
  unfold Rx Hg OQ;rw[e1,e1,e1,e1,e1,e1,e1,e1,e2,e3,e4];by_cases a1:BW n=1
  ·have hv:0<=Ib n/\Ib n<(d.length:Int):=by
     rcases hf with h |h |h |h
     ·grind
     ·omega
     ·omega
     ·omega
   rw[AQr a1,AQe a1,AQr (show 0<=n.2.1/\n.2.1<(d.length:Int)from hv)];exact Ay.mk rfl
  ·rw[AQs a1,AQc a1];by_cases a2:BW n=2
   ·rw[AQr a2,AQe a2];exact Ay.mk rfl
   ·rw[AQs a2,AQc a2];by_cases a4:BW n=4
    ·rw[AQr a4,AQe a4];by_cases h:0<=nB n/\nB n<=nA n/\nA n<S
     ·rw[AQr h,AQc (λhh=>hh h)];refine Ay.mk ?_;show wI (wI (nA n-nB n)+1)=_;rw[BU (x:=nA n-nB n),BU]
     ·rw[AQs h,AQe h];exact Ay.mk rfl
    ·rw[AQs a4,AQc a4];by_cases a5:BW n=5\/BW n=6
     ·rw[AQr a5];have hc:(bif decide (BW n=5)then decide (BW n=5)else decide (BW n=6))=true:=by
       grind
      rw[hc];by_cases h:0<=nA n/\nA n<=4096
      ·rw[AQr h,AQe h];refine Ay.mk ?_;show wI (S+nA n)=_;rw[BU]
      ·rw[AQs h,AQc h];exact Ay.mk rfl
     ·rw[AQs a5];have hc:(bif decide (BW n=5)then decide (BW n=5)else decide (BW n=6))=false:=by
       grind
      rw[hc];by_cases a7:BW n=7\/BW n=8
      ·rw[AQr a7];have hc:(bif decide (BW n=7)then decide (BW n=7)else decide (BW n=8))=true:=by
        grind
       rw[hc];by_cases h:0<=nA n/\nA n<=4096
       ·rw[AQr h,AQe h];exact Ay.mk rfl
       ·rw[AQs h,AQc h];exact Ay.mk rfl
      ·rw[AQs a7];have hc:(bif decide (BW n=7)then decide (BW n=7)else decide (BW n=8))=false:=by
        grind
       rw[hc];by_cases a9:BW n=9
       ·rw[AQr a9,AQe a9];by_cases h:1<=nA n/\nA n<=4096
        ·rw[AQr h,AQe h];refine Ay.mk ?_;show wI (S*nA n)=_;have h1:0<=S*nA n:=Int.mul_nonneg hSb.1 (by omega);have h2:S*nA n<=8192*4096:=Int.mul_le_mul hSb.2 h.2 (by omega) (by omega);rw[BU]
        ·rw[AQs h,AQc h];exact Ay.mk rfl
       ·rw[AQs a9,AQc a9];exact Ay.mk rfl
theorem AjT{d:ASG}{BS:ASC}{n:ASt}(hw:jv BS)(Gh:Oz n BS.length)(hf:LV d n):Hg d n (min 8192 (UY BS n))=Hg d n (UY BS n)\/(4096<Hg d n (min 8192 (UY BS n))/\4096<Hg d n (UY BS n)):=by
 have hb:=X6 hw Gh;rcases hf with h |h |h |h
 ·grind
 ·grind
 ·by_cases hs:UY BS n<=8192
  ·grind
  ·have e:∀S,Hg d n S=S:=λS=>by simp[Hg,h.1]
   rw[e,e];omega
 grind
instance (n:ASt):Decidable (XD n):=inferInstanceAs (Decidable (_/\_/\_/\_))
theorem AiW(n:ASt):EG n=decide (XD n):=by
 have hb:((n.2.2.2.2.1.1==(0:Int))&&((n.2.2.2.2.1.2.1.length:Int)==0))=decide (NoB n):=pF n;have h1:(decide (n.1>=4)&&decide (n.1<=9))=decide (cu n):=(AQ7 _ _).symm;have e1:∀x:Int,(n.1 !=x)=decide (BW n≠x):=λx=>UL;have e0:(n.1==(2:Int))=decide (BW n=2):=UK;have e2:(n.2.1 !=(0:Int))=decide (Ib n≠0):=UL;have e3:(n.2.2.2.1 !=(0:Int))=decide (nB n≠0):=UL;have e4:(n.2.2.1 !=(0:Int))=decide (nA n≠0):=UL;have hp:decide (XD n)=decide ((BW n≠1->Ib n=0)/\(BW n≠2->NoB n)/\(BW n≠4->nB n=0)/\(¬cu n->nA n=0)):=rfl;rw[hp];unfold EG;rw[hb,h1,e1,e1,e0,e2,e3,e4];by_cases a1:BW n=1<;>by_cases a2:BW n=2<;>by_cases a3:BW n=4<;>by_cases a4:cu n<;>by_cases a5:Ib n=0<;>by_cases a6:NoB n<;>by_cases a7:nB n=0<;>by_cases a8:nA n=0 <;>
  first |(exfalso;omega)|(simp[a1,a2,a3,a4,a5,a6,a7,a8];done)
theorem wu{d:ASG}{BS:ASC}{n:ASt}(hn:YL n)(hw:jv BS)(hd:d.length<=1048576)(Gh:Oz n BS.length):Ay (GY n d (Hs BS n)) λr=>(LV d n->r=Hg d n (UY BS n))/\(¬LV d n->r=-1):=by
 have hlen:=hn.1;have rI:(Hs BS n).length=(AP n).length:=by unfold Hs;rw[AQl]
 have hS:=X6 hw Gh;have e1:∀x:Int,(n.1==x)=decide (BW n=x):=λx=>UK;have e2:((((Hs BS n).length:Nat):Int)==0)=decide ((AP n).length=0):=by rw[qF,rI]
 have e3:((((Hs BS n).length:Nat):Int) !=1)=decide ((AP n).length≠1):=by rw[UL,ARB];omega
 have e4:decide ((((Hs BS n).length:Nat):Int)>1)=decide (2<=(AP n).length):=by rw[ARB];omega
 have e5:AY n.2.1 0 (wI ((d.length:Int)-1))=decide (0<=Ib n/\Ib n<(d.length:Int)):=by
  rw[Lu,BU (x:=(d.length:Int)-1),ARB];show 0<=Ib n/\Ib n<=(d.length:Int)-1↔_;omega
 have e6:AY n.2.2.1 0 4096=decide (0<=nA n/\nA n<=4096):=Lu _ _ _;have e7:AY n.2.2.1 1 4096=decide (1<=nA n/\nA n<=4096):=Lu _ _ _;have Y3:cu n↔4<=BW n/\BW n<=9:=Iff.rfl;obtain⟨f,hf⟩:∃f,f=(bif decide ((((Hs BS n).length:Nat):Int)>0)then(Hs BS n).getD 0 0 else 0):=⟨_,rfl⟩;have hf1:(AP n).length=1->f=UY BS n:=λh=>by
  rw[hf,MM,AQp];unfold UY;obtain⟨x,hx⟩:=List.length_eq_one_iff.1 (show(Hs BS n).length=1 by omega);rw[hx];simp
 unfold GY OQ;rw[show Gp n d (Hs BS n)=some f by
  unfold Gp;rw[hf];by_cases h:(AP n).length=0
  ·rw[I3];rfl
  ·rw[MM,AQp,AQp,AQr ⟨by omega,by omega⟩];rfl,AP9,e5,e6,e7]
 rw[e1,e1,e1,e1,e1,e1,e1,e1,e2,e3,e4];have hF:LV d n↔(BW n=1/\(AP n).length=0/\0<=Ib n/\Ib n<(d.length:Int))\/(BW n=2/\(AP n).length=0/\uh n)\/(BW n=3/\2<=(AP n).length)\/(4<=BW n/\BW n<=9/\(AP n).length=1):=Iff.rfl;have AGX:¬LV d n->Ay (some (-1:Int)) λr=>(LV d n->r=Hg d n (UY BS n))/\(¬LV d n->r=-1):=λh=>Ay.mk ⟨λh'=>absurd h' h,λ_=>rfl⟩;have pos:∀v:Int,LV d n->v=Hg d n (UY BS n)->Ay (some v) λr=>(LV d n->r=Hg d n (UY BS n))/\(¬LV d n->r=-1):=λv h e=>Ay.mk ⟨λ_=>e,λh'=>absurd h h'⟩;by_cases c1:BW n=1/\(AP n).length=0/\(0<=Ib n/\Ib n<(d.length:Int))
 ·rw[<-AQ7,<-AQ7,AQe c1,AQp,AQr (show 0<=n.2.1/\n.2.1<(d.length:Int)from c1.2.2)];exact pos _ (hF.2 (.inl c1)) (by unfold Hg;rw[AQr c1.1];rfl)
 ·rw[<-AQ7,<-AQ7,AQc c1,AQo];obtain⟨b,gY,oM⟩:∃b,Gq n (Hs BS n) f=some b/\(b=true↔BW n=2/\(AP n).length=0/\uh n):=by
   unfold Gq;rw[e1,e2];obtain⟨r,hr,hq⟩:=nz (w:=nW n) hn.2.2 hn.2.1;have e6:Qu n.2.2.2.2.1=some r:=hr;rw[e6];have hq:r=true↔uh n:=hq;by_cases a2:BW n=2
   ·by_cases a3:(AP n).length=0
    ·rw[AQe a2,AQe a3];exact⟨r,rfl,by rw[hq];exact⟨λh=>⟨a2,a3,h⟩,λh=>h.2.2⟩⟩
    ·rw[AQe a2,AQc a3];exact⟨false,rfl,λh=>by(cases h),λh=>absurd h.2.1 a3⟩
   ·rw[AQc a2];exact⟨false,rfl,λh=>by(cases h),λh=>absurd h.1 a2⟩
  rw[gY,AP9];cases b with
  |true =>
   have c2:=oM.1 rfl;exact pos _ (hF.2 (.inr (.inl c2))) (by unfold Hg;rw[QK,AQr c2.1];rfl)
  |false =>
   have c2:¬(BW n=2/\(AP n).length=0/\uh n):=λh=>by have:=oM.2 h;cases this
   rw[AQo,<-AQ7];by_cases c3:BW n=3/\2<=(AP n).length
   ·rw[AQe c3,AQp];unfold OD;have:=AW (f:=Cz (Hs BS n) (((Hs BS n).length:Nat):Int)) (λk=>((((Hs BS n).take k).sum:Int),(k:Int))) (t:=UY BS n) (Hs BS n).length (λk hk=>by
     unfold Cz HJ;rw[rI]at hk;have hb:=br hw Gh k (by omega);have hwk:=mn hw (Gh _ (AO (z:=0) hk));have hg:(Hs BS n).getD k 0=BS.getD ((AP n).getD k 0).toNat 0:=by unfold Hs;exact Fq (λk=>BS.getD k.toNat 0) hk
     simp only;rw[rI,Di hk,AQp,AQr (Bq hk),AQa,Bp hk (by omega),fp hk];show some (Sum.inl (wI (((Hs BS n).take k).sum+(Hs BS n).getD k 0),_))=_;rw[hg,BU]) (by
     unfold Cz HJ;simp only;rw[Ew,AQo,AQj (AQf _)];rfl)
    rw[show fix (Cz (Hs BS n) (((Hs BS n).length:Nat):Int)) (0,0)=some (UY BS n)from this];exact pos _ (hF.2 (.inr (.inr (.inl c3)))) (by unfold Hg;simp[c3.1])
   ·rw[AQc c3,AQo];by_cases c4:(AP n).length=1
    ·rw[AQc (λh=>h c4),AQo];have hfS:=hf1 c4;have hSb:0<=f/\f<=4096:=by omega
     have B5:4<=BW n/\BW n<=9->LV d n:=λh=>hF.2 (.inr (.inr (.inr ⟨h.1,h.2,c4⟩)));have e4':(decide (n.2.2.2.1>=0)&&(decide (n.2.2.2.1<=n.2.2.1)&&decide (n.2.2.1<f)))=decide (0<=nB n/\nB n<=nA n/\nA n<f):=by
      show(decide (nB n>=0)&&(decide (nB n<=nA n)&&decide (nA n<f)))=_;rw[<-AQ7,<-AQ7]
     rw[e4',<-AQ7,<-AQ7,<-AQ7,<-AQ7];have ecx:(n.2.2.1:Int)=nA n:=rfl;have ecb:(n.2.2.2.1:Int)=nB n:=rfl;have hw0:∀v,v=Hg d n f->v=Hg d n (UY BS n):=λv h=>by rw[<-hfS];exact h
     by_cases a4:BW n=4
     ·by_cases h:0<=nB n/\nB n<=nA n/\nA n<f
      ·rw[AQe ⟨a4,h⟩,AQp];refine pos _ (B5 (by omega)) (hw0 _ ?_);show wI (wI (nA n-nB n)+1)=_;rw[BU (x:=nA n-nB n),BU];unfold Hg;simp[a4,h]
      ·have:∀v:Int,v=-1->v=Hg d n f:=λv hv=>by unfold Hg;simp[a4,h,hv]
       simp[a4,h];exact pos _ (B5 (by omega)) (hw0 _ (this _ rfl))
     ·by_cases a5:BW n=5\/BW n=6
      ·by_cases h:0<=nA n/\nA n<=4096
       ·have:(bif decide (BW n=5)then decide (0<=nA n/\nA n<=4096)else decide (BW n=6/\0<=nA n/\nA n<=4096))=true:=by
          rcases a5 with h' |h'<;>simp[h',h]
        rw[I3,AQo,this,AQp];refine pos _ (B5 (by omega)) (hw0 _ ?_);show wI (f+nA n)=_;rw[BU];unfold Hg;rcases a5 with h' |h'<;>simp[h',h]
       ·have:∀v:Int,v=-1->v=Hg d n f:=λv hv=>by unfold Hg;rcases a5 with h' |h'<;>simp[h',h,hv]
        have h2:=pos _ (B5 (by omega)) (hw0 _ (this _ rfl));rcases a5 with h' |h'<;>simp[h',h]<;>exact h2
      ·by_cases a7:BW n=7\/BW n=8
       ·by_cases h:0<=nA n/\nA n<=4096
        ·have h2:=pos f (B5 (by omega)) (hw0 _ (by unfold Hg;rcases a7 with h' |h'<;>simp[h',h]));rcases a7 with h' |h'<;>simp[h',h]<;>exact h2
        ·have:∀v:Int,v=-1->v=Hg d n f:=λv hv=>by unfold Hg;rcases a7 with h' |h'<;>simp[h',h,hv]
         have h2:=pos _ (B5 (by omega)) (hw0 _ (this _ rfl));rcases a7 with h' |h'<;>simp[h',h]<;>exact h2
       ·by_cases a9:BW n=9
        ·by_cases h:1<=nA n/\nA n<=4096
         ·have h1:0<=f*nA n:=Int.mul_nonneg hSb.1 (by omega);have h2:f*nA n<=4096*4096:=Int.mul_le_mul hSb.2 h.2 (by omega) (by omega);have h3:=pos (wI (f*nA n)) (B5 (by omega)) (hw0 _ (by rw[BU];unfold Hg;simp[a9,h]));simp[a9,h];exact h3
         ·have:∀v:Int,v=-1->v=Hg d n f:=λv hv=>by unfold Hg;simp[a9,h,hv]
          have h2:=pos _ (B5 (by omega)) (hw0 _ (this _ rfl));simp[a9,h];exact h2
        ·simp only[not_or]at a5 a7;have h2:=AGX (by rw[hF];omega);simp[a4,a5,a7,a9];exact h2
    ·rw[AQe c4,AQp];exact AGX (by rw[hF];intro h;rcases h with h |h |h |h;exact c1 h;exact c2 h;exact c3 h;exact c4 h.2.2)
def nd(t:ASJ)(i:Nat):ASt:=t.getD i Ag.zero
def mH(d:ASG)(t:ASJ)(ws:ASC):Prop:=ws.length<=t.length/\∀j,j<ws.length->tW d (ws.take j) (nd t j) (ws.getD j 0)
def eA(t:ASJ)(k i:Nat):Prop:=∃j,j<i/\(k:Int)∈AP (nd t j)
def Ou(d:ASG)(t:ASJ)(ws:ASC):Prop:=1<=t.length/\t.length<=400/\ws.length=t.length/\mH d t ws/\∀k,k+1<t.length->eA t k t.length
def OS(t:ASJ):Prop:=t.length<=1048576/\∀n∈t,YL n
theorem mH.take{d:ASG}{t:ASJ}{ws:ASC}(h:mH d t ws)(i:Nat):mH d t (ws.take i):=by
 have hl:=h.1;refine⟨by grind,λj hj=>?_⟩;rw[AQu]at hj;have:=h.2 j (by omega)
 grind
theorem mH.unique{d:ASG}{t:ASJ}{a b:ASC}(ha:mH d t a)(hb:mH d t b)(hl:a.length=b.length):a=b:=by
 have:∀k,k<=a.length->a.take k=b.take k:=by
  intro k;induction k with
  |zero=>simp
  |succ k ih =>
   intro hk;have e:=ih (by omega);have h1:=ha.2 k (by omega);have h2:=hb.2 k (by omega);rw[A3 (show k<a.length by omega),A3 (show k<b.length by omega),e];rw[e]at h1;rw[h1.2.2.2.1,h2.2.2.2.1]
 have:=this _ (AQf _)
 grind
theorem mH.BS{d:ASG}{t:ASJ}{ws:ASC}(h:mH d t ws)(hl:t.length<=1048576):jv ws:=by
 refine⟨AQD h.1 hl,λw hw=>?_⟩;obtain⟨j,hj,rfl⟩:=ARb hw;have:=(h.2 j hj).2.2.2.2
 grind
theorem mH.snoc{d:ASG}{t:ASJ}{ws:ASC}{w:Int}(h:mH d t ws)(hl:ws.length<t.length)(hn:tW d ws (nd t ws.length) w):mH d t (ws++[w]):=by
 refine⟨by grind,λj hj=>?_⟩;rw[AQd]at hj;simp only[AQ4,List.length_nil]at hj;rcases AQk j ws.length with h' |h'
 ·rw[ARf (by omega),show(ws++[w]).getD j 0=ws.getD j 0 by grind];exact h.2 j h'
 grind
theorem Ou.node{d:ASG}{t:ASJ}{ws mQ:ASC}(h:Ou d t mQ)(hp:mH d t ws)(hl:ws.length<t.length):∃w,tW d ws (nd t ws.length) w:=by
 have e:ws=mQ.take ws.length:=hp.unique (h.2.2.2.1.take _) (by rw[AQu,h.2.2.1];omega);have:=h.2.2.2.1.2 _ (by rw[h.2.2.1];exact hl)
 grind
theorem AdD(BS:ASC)(n:ASt):CU (λm=>BS.getD ((AP n).getD m 0).toNat 0) 0 (AP n).length (AP n).length=Hs BS n:=by
 refine ARp (by simp[CU,Hs]) λi h1 h2=>?_;have :=by simpa [CU]using h1
 simp[CU,Hs,this]
theorem XW{l:ASC}{x:Int}:x∈l↔∃m,m<l.length/\l.getD m 0=x:=by
 constructor
 ·intro h;obtain⟨m,hm,rfl⟩:=ARb h;exact⟨m,hm,by grind⟩
 grind
theorem ng{l:ASD}{k j:Nat}(hk:k<l.length):(l.set k true).getD j false=if j=k then true else l.getD j false:=by
 grind
theorem wi{D:ASG}{C E:Int}{t:ASz}{q:ASt}{ws out:ASC}{V3:ASD}{n:ASt}{N:Nat}(hn:YL n)(hl:ws.length<N)(hN:N<=1048576)(ho:out=ws++List.replicate (N-ws.length) 0)(hu:V3.length=N) :
    Ay (Q7 D C (ws.length:Int) E t out q (AP n) ((AP n).length:Int) 0 V3 (List.replicate (AP n).length 0)) λr=>(∃x,r=.inl x/\¬Oz n ws.length)\/(∃u,r=.inr (Hs ws n,u)/\Oz n ws.length/\u.length=N/\∀k:Nat,k<N->(u.getD k false=true↔V3.getD k false=true\/(k:Int)∈AP n)):=by
 have hlen:=hn.1;have hol:out.length=N:=by grind
 have Xg:∀k:Nat,k<ws.length->out.getD k 0=ws.getD k 0:=λk hk=>by grind
 have:=B4 (f:=G2 D C (ws.length:Int) E t out q (AP n) ((AP n).length:Int)) (λj (u:ASD)=>((j:Int),u,CU (λm=>ws.getD ((AP n).getD m 0).toNat 0) 0 (AP n).length j)) (AP n).length
  (λj u=>(∀m,m<j->0<=(AP n).getD m 0/\(AP n).getD m 0<(ws.length:Int))/\u.length=N/\∀k:Nat,k<N->(u.getD k false=true↔V3.getD k false=true\/∃m,m<j/\(AP n).getD m 0=(k:Int)))
  (Q:=λr=>(∃x,r=.inl x/\¬Oz n ws.length)\/(∃u,r=.inr (Hs ws n,u)/\Oz n ws.length/\u.length=N/\∀k:Nat,k<N->(u.getD k false=true↔V3.getD k false=true\/(k:Int)∈AP n))) (λj u hj hI=>?_) (λu hI=>?_) (s0:=V3) ⟨λm hm=>by omega,hu,λk _=>⟨λh=>.inl h,λh=>by grind⟩⟩
 ·rw[MU]at this;exact this
 ·unfold G2 NP;rw[Di hj,AQr (Bq hj),AQa,Lu,BU (x:=(ws.length:Int)-1)];show Ay (bif !decide (0<=(AP n).getD j 0/\(AP n).getD j 0<=(ws.length:Int)-1)then _ else _) _;by_cases h:0<=(AP n).getD j 0/\(AP n).getD j 0<=(ws.length:Int)-1
  ·rw[AQe h];obtain⟨k,hk⟩:∃k:Nat,(AP n).getD j 0=(k:Int):=⟨((AP n).getD j 0).toNat,by omega⟩;have rI:k<ws.length:=by omega
   rw[show(AP n).getD j ATy.zero=(k:Int)from hk,AQa,AQr ⟨by omega,by omega⟩,AQr ⟨by omega,by grind⟩,Ih,AQr (Bq hj),Bp hj (by omega)];refine Ay.mk ⟨u.set k true,?_,λm hm=>?_,by grind,λi hi=>?_⟩
   ·rw[<-Qq];have hg:out.getD k ATy.zero=ws.getD ((AP n).getD j 0).toNat 0:=by
     grind
    rw[hg]
   ·rcases AQk m j with h' |h'
    ·exact hI.1 m h'
    ·rw[show m=j by omega];omega
   ·rw[ng (by omega)];by_cases hik:i=k
    ·subst hik;simp only[AQV,true_iff];exact .inr ⟨j,by omega,hk⟩
    ·rw[AQs hik,hI.2.2 i hi];constructor
     ·rintro(h |⟨m,h1,h2⟩)
      ·exact .inl h
      ·exact .inr ⟨m,by omega,h2⟩
     ·rintro(h |⟨m,h1,h2⟩)
      ·exact .inl h
      ·rcases AQk m j with h' |h'
       ·exact .inr ⟨m,h',h2⟩
       ·have:m=j:=by omega
        subst this;omega
  ·rw[AQc h];exact Ay.mk (.inl ⟨_,rfl,λhk=>h (by have:=hk _ (AO (z:=0) hj);omega)⟩)
 ·unfold G2 NP;rw[Ew];refine Ay.mk (.inr ⟨u,by rw[AdD],λk hk=>?_,hI.2.1,λk hk=>?_⟩)
  ·obtain⟨m,hm,rfl⟩:=XW.1 hk;exact hI.1 m hm
  ·rw[hI.2.2 k hk,XW]
theorem uU{u:ASD}(hl:u.length<=1048576):Ay (IP u false) λr=>r=true↔∃k,k<u.length/\u.getD k false=false:=by
 refine Ay.bind (P:=λr=>0<=r↔∃k,k<u.length/\u.getD k false=false) (Ay.bind (P:=λt=>(∃j:Nat,t=.inl j/\j<u.length/\u.getD j false=false)\/(t=.inr ()/\∀j,j<u.length->u.getD j false=true)) ?_ λt ht=>?_) λr hr=>Ay.mk (by grind)
 ·refine B4 (λj _=>(j:Int)) u.length (λj _=>∀k,k<j->u.getD k false=true) (λj _ hj hJ=>?_) (λ_ hJ=>?_) (s0:=()) (λi h=>by omega)
  ·unfold Eb GL;rw[Di hj,AQr (Bq hj)];show Ay (bif false==u.getD j false then _ else _) _;cases he:u.getD j _ with
   |false=>exact Ay.mk (.inl ⟨j,rfl,hj,he⟩)
   |true =>
    rw[Bp hj (by omega)];refine Ay.mk ⟨(),rfl,λk hk=>?_⟩
    grind
  ·unfold Eb GL;rw[Ew];exact Ay.mk (.inr ⟨rfl,hJ⟩)
 ·rcases ht with ⟨j,rfl,h1,h2⟩|⟨rfl,h⟩
  ·exact Ay.mk ⟨λ_=>⟨j,h1,h2⟩,λ_=>by omega⟩
  ·exact Ay.mk ⟨λh'=>absurd (show 0<=-1 from h') (by omega),λ⟨j,h1,h2⟩=>by grind⟩
theorem nF{d:ASG}{t:ASJ}(ht:OS t)(hd:d.length<=1048576):Ay (TJ d (t,())) λr=>(r.1=true/\Ou d t r.2)\/(r.1=false/\¬∃ws,Ou d t ws):=by
 unfold TJ OQ;show Ay (bif decide ((t.length:Int)<1)||decide ((t.length:Int)>400)then _ else _) _;by_cases hl:1<=t.length/\t.length<=400
 ·rw[I3,I3,Bool.or_false,AQo];rw[show M6 d (t,()) (t.length:Int)=some (List.replicate t.length 0,List.replicate t.length false) by
   unfold M6;rw[AQr ⟨rfl,by omega,by omega,by omega,by omega⟩,AQr ⟨rfl,by omega,by omega,by omega,by omega⟩,AQa],AP9]
  refine Ay.bind (P:=λr=>(∃x,r=.inl x/\¬∃ws,Ou d t ws)\/(∃ws u,r=.inr (u,ws)/\ws.length=t.length/\mH d t ws/\u.length=t.length/\∀k:Nat,k<t.length->(u.getD k false=true↔eA t k t.length))) ?_ λr hr=>?_
  ·unfold Vn;have:=B4 (f:=G3 d (t,()) (t.length:Int) (t.length:Int)) (λi (s:ASC×ASD)=>((i:Int),s.1,s.2)) t.length
    (λi s=>∃ws:ASC,ws.length=i/\mH d t ws/\s.1=ws++List.replicate (t.length-i) 0/\s.2.length=t.length/\∀k:Nat,k<t.length->(s.2.getD k false=true↔eA t k i))
    (Q:=λr=>(∃x,r=.inl x/\¬∃ws,Ou d t ws)\/(∃ws u,r=.inr (u,ws)/\ws.length=t.length/\mH d t ws/\u.length=t.length/\∀k:Nat,k<t.length->(u.getD k false=true↔eA t k t.length))) (λi s hi hI=>?_) (λs hI=>?_) (s0:=(List.replicate t.length 0,List.replicate t.length false)) ⟨[],rfl,⟨AQW _,λj hj=>by simp at hj⟩,rfl,AQG,λk hk=>by
     have h0:(List.replicate t.length false).getD k false=false:=by simp[List.getD,hk]
     constructor
     ·intro h;rw[h0]at h;cases h
     ·rintro⟨j,hj,_⟩;omega⟩
   ·exact this
   ·obtain⟨out,V3⟩:=s;obtain⟨ws,rfl,hp,ho,ym,hu⟩:=hI;simp only at ho ym hu;have hn:YL (nd t ws.length):=ht.2 _ (AO hi);have rI:=hn.1;unfold G3 NQ;simp only;rw[show decide ((ws.length:Int)<(t.length:Int))=true from Di hi,AQp,AQr (Bq hi),AQa];show Ay (bif decide (((AP (nd t ws.length)).length:Int)>4096)then _ else if Ty.row ATy=true/\(0:Int)<=((AP (nd t ws.length)).length:Int)/\((AP (nd t ws.length)).length:Int)<=((AP (nd t ws.length)).length:Int)/\((8:Nat):Int)*((AP (nd t ws.length)).length:Int)<=(281474976710656:Int)/\((AP (nd t ws.length)).length:Int)<=(9223372036854775807:Int)then(Q7 d (t.length:Int) (ws.length:Int) (t.length:Int) (t,()) out (nd t ws.length) (AP (nd t ws.length)) ((AP (nd t ws.length)).length:Int) 0 V3 (List.replicate ((AP (nd t ws.length)).length:Int).toNat 0)).bind _ else none) _;by_cases hk4:(AP (nd t ws.length)).length>4096
    ·rw[MM];refine Ay.mk (.inl ⟨_,rfl,λ⟨mQ,h'⟩=>?_⟩);obtain⟨w,hw⟩:=h'.node hp hi;have hb:=X6 (hp.BS ht.1) hw.1;have az:=hw.2.2.1;have heq:=hw.2.2.2.1;have hw4:=hw.2.2.2.2.2;rcases az with h |h |h |h
     ·omega
     ·omega
     ·have:Hg d (nd t ws.length) (Hs ws (nd t ws.length)).sum=UY ws (nd t ws.length):=by unfold UY Hg;simp[h.1]
      omega
     ·omega
    ·rw[I3,AQo,AQr ⟨rfl,by omega,by omega,by omega,by omega⟩,AQa];refine Ay.bind (wi hn hi ht.1 ho ym) λr hr=>?_;rcases hr with ⟨x,rfl,h⟩|⟨u,rfl,Gh,AKu,hu'⟩
     ·refine Ay.mk (.inl ⟨_,rfl,λ⟨mQ,h'⟩=>?_⟩);obtain⟨w,hw⟩:=h'.node hp hi;exact h hw.1
     ·simp only[ARa];obtain⟨r,hr,hq⟩:=wu (d:=d) hn (hp.BS ht.1) hd Gh;rw[show GY (t.getD ws.length Ag.zero) d (Hs ws (nd t ws.length))=some r from hr,AP9];have hol:out.length=t.length:=by rw[ho,AQd,AQG];omega
      rw[AQr ⟨by omega,by rw[hol];omega⟩];unfold Q8;rw[show EG (t.getD ws.length Ag.zero)=_ from AiW (nd t ws.length),AQi,AQr ⟨by omega,by rw[hol];omega⟩,AQa];have hgs:(out.set ws.length r).getD ws.length ATy.zero=r:=by simp[List.getD,hol,hi]
      rw[hgs,Lu];have H6:out.set ws.length r=(ws++[r])++List.replicate (t.length-(ws.length+1)) 0:=by
       rw[ho,show t.length-ws.length=(t.length-(ws.length+1))+1 by omega,AR6];simp
      by_cases vR:XD (nd t ws.length)
      ·by_cases tL:1<=r/\r<=4096
       ·rw[AQe vR,AQe tL];simp only[AQS,AQo,AP9];have az:LV d (nd t ws.length):=by
         by_cases hf:LV d (nd t ws.length)
         ·exact hf
         ·have:=hq.2 hf;omega
        have AhY:tW d ws (nd t ws.length) r:=⟨Gh,vR,az,hq.1 az,tL⟩;refine Ay.mk ⟨(out.set ws.length r,u),by rw[Bp hi ht.1],ws++[r],by simp,hp.snoc hi AhY,H6,AKu,λk hk=>?_⟩;rw[hu' k hk,hu k hk];constructor
        ·rintro(⟨j,h1,h2⟩|h)
         ·exact⟨j,by omega,h2⟩
         ·exact⟨ws.length,by omega,h⟩
        ·rintro⟨j,h1,h2⟩
         rcases AQk j ws.length with h' |h'
         ·exact .inl ⟨j,h',h2⟩
         ·rw[show j=ws.length by omega]at h2;exact .inr h2
       ·rw[AQe vR,AQc tL];refine Ay.mk (.inl ⟨_,rfl,λ⟨mQ,h'⟩=>?_⟩);obtain⟨w,hw⟩:=h'.node hp hi;have:=hq.1 hw.2.2.1;have h3:=hw.2.2.2;unfold UY at this;rw[<-this]at h3;exact tL (by rw[<-h3.1];exact h3.2)
      ·rw[AQc vR];refine Ay.mk (.inl ⟨_,rfl,λ⟨mQ,h'⟩=>?_⟩);obtain⟨w,hw⟩:=h'.node hp hi;exact vR hw.2.1
   ·obtain⟨out,V3⟩:=s;obtain⟨ws,hwl,hp,ho,ym,hu⟩:=hI;simp only at ho ym hu;unfold G3 NQ;simp only;rw[Ew,AQo];rw[ARV,List.replicate_zero,AQO]at ho;subst ho;exact Ay.mk (.inr ⟨out,V3,rfl,hwl,hp,ym,hu⟩)
  ·rcases hr with ⟨x,rfl,h⟩|⟨ws,u,rfl,hwl,hp,ym,hu⟩
   ·exact Ay.mk (.inr ⟨rfl,h⟩)
   ·simp only[ARa];have e1:wI ((t.length:Int)-1)=((t.length-1:Nat):Int):=A6;rw[e1,AQr ⟨by omega,by omega,by rw[ym];omega⟩,AQa,ASf];have htl:(u.take (t.length-1)).length=t.length-1:=by rw[AQu];omega
    have hgt:∀k,k<t.length-1->(u.take (t.length-1)).getD k false=u.getD k false:=λk hk=>by simp[List.getD,hk]
    refine Ay.bind (uU (by omega)) λr hr=>Ay.mk ?_;rw[htl]at hr;cases r with
    |false =>
     refine .inl ⟨rfl,hl.1,hl.2,hwl,hp,λk hk=>(hu k (by omega)).1 ?_⟩;cases hc:u.getD k false with
     |true=>rfl
     |false=>have:=hr.2 ⟨k,by omega,by rw[hgt k (by omega)];exact hc⟩;cases this
    |true =>
     obtain⟨k,hk,hf⟩:=hr.1 rfl;rw[hgt k hk]at hf;refine .inr ⟨rfl,λ⟨mQ,h'⟩=>?_⟩;have:=(hu k (by omega)).2 (h'.2.2.2.2 k (by omega));rw[this]at hf;cases hf
 ·have hc:(decide ((t.length:Int)<1)||decide ((t.length:Int)>400))=true:=by simp;omega
  rw[hc];exact Ay.mk (.inr ⟨rfl,λ⟨ws,h⟩=>hl ⟨h.1,h.2.1⟩⟩)
theorem xr{D:ASG}{W:ASC}{t:ASJ}{i:Nat}{V3:ASD}(hi:i<t.length)(hn:YL (nd t i))(Gh:Oz (nd t i) V3.length) :
    Ay (SQ D (i:Int) (t,()) W 0 V3) λu=>u.length=V3.length/\∀k:Nat,k<V3.length->(u.getD k false=true↔V3.getD k false=true\/(k:Int)∈AP (nd t i)):=by
 have hlen:=hn.1;refine B4 (λj u=>((j:Int),u)) (AP (nd t i)).length (λj u=>u.length=V3.length/\∀k ,k<V3.length->(u.getD k false=true↔V3.getD k _=true\/∃m,m<j/\(AP (nd t i)).getD m 0=k)) (λj u hj hI=>?_) (λu hI=>?_)  ⟨rfl,λk _=>⟨λh=>.inl h,λh=>by grind⟩⟩
 ·unfold HB KU;rw[AQr (Bq hi),AQr (Bq hi)];show Ay (bif decide (j<((AP (nd t i)).length:Int))then(if 0<=(j:Int)/\j<((AP (nd t i)).length:Int)then(if 0<=(AP _).getD j 0/\(AP (nd t i)).getD j 0<u.length then some (Sum.inl (wI _,u.set ((AP (nd t i)).getD j 0).toNat true))else none)else none)else _) _;have Amj:=Gh _ (AO (z:=0) hj);rw[Di hj,AQr (Bq hj),AQr ⟨Amj.1,by grind⟩,Bp hj (by omega)];obtain⟨k,hk⟩:∃k:Nat,(AP (nd t i)).getD j 0=k:=⟨((AP (nd t i)).getD j 0).toNat,by omega⟩;rw[hk,AQa];refine Ay.mk ⟨_,rfl,by grind,λi' tK=>?_⟩
  grind
 ·unfold HB KU;rw[AQr (Bq hi)];show Ay (bif decide (((AP _).length)<((AP (nd t i)).length:Int))then _ else some _) _;rw[Ew];refine Ay.mk ⟨hI.1,λk hk=>?_⟩;rw[hI.2 k hk,XW]
theorem nT{d:ASG}{t:ASJ}(ht:OS t)(hd:d.length<=1048576):Ay (Lz d (t,())) λr=>(AE d/\Ou d t r)\/(r=[]/\¬(AE d/\∃ws,Ou d t ws)):=by
 unfold Lz;have htb:=ht.1;obtain⟨b,gY,oM⟩:∃b,G5 d (t,())=some b/\(b=false↔AE d/\1<=t.length/\t.length<=400):=by
  obtain⟨r,hr,hq⟩:=UU d;unfold G5;rw[hr,AP9];show ∃b,(bif !r then some true else bif decide ((t.length:Int)<1)then some true else some (decide ((t.length:Int)>400)))=some b/\_;cases r with
  |false=>exact⟨true,rfl,λh=>by(cases h),λh=>by have:=hq.2 h.1;cases this⟩
  |true =>
   have gZ:=hq.1 rfl;by_cases h1:(t.length:Int)<1
   ·rw[AQe h1];exact⟨true,rfl,λh=>by(cases h),λh=>by omega⟩
   ·rw[AQc h1];refine⟨_,rfl,?_⟩;rw[AQ0];exact⟨λh=>⟨gZ,by omega,by omega⟩,λh=>by omega⟩
 rw[gY,AP9];cases b with
 |true =>
  refine Ay.mk (.inr ⟨rfl,λh=>?_⟩);obtain⟨h1,ws,h2⟩:=h;have:=oM.2 ⟨h1,h2.1,h2.2.1⟩;cases this
 |false =>
  obtain⟨gZ,UN,iL⟩:=oM.1 rfl;rw[AQo];show Ay (if Ty.row .bool=true/\(0:Int)<=(t.length:Int)/\(t.length:Int)<=(t.length:Int)/\((1:Nat):Int)*(t.length:Int)<=(281474976710656:Int)/\(t.length:Int)<=(9223372036854775807:Int)then(N8 d (t,()) 0 [] (List.replicate (t.length:Int).toNat false)).bind _ else none) _;rw[AQr ⟨rfl,by omega,by omega,by omega,by omega⟩,AQa];refine Ay.bind (P:=λr=>(∃x,r=.inl x/\¬∃ws,Ou d t ws)\/(∃ws u,r=.inr (u,ws)/\ws.length=t.length/\mH d t ws/\u.length=t.length/\∀k:Nat,k<t.length->(u.getD k false=true↔eA t k t.length))) ?_ λr hr=>?_
  ·unfold N8;refine B4 (λi (s:ASC×ASD)=>((i:Int),s.1,s.2)) t.length
    (λi s=>s.1.length=i/\mH d t s.1/\s.2.length=t.length/\∀k:Nat,k<t.length->(s.2.getD k false=true↔eA t k i))
    (λi s hi hI=>?_) (λs hI=>?_) (s0:=(([]:ASC),List.replicate t.length false)) ⟨rfl,⟨AQW _,λj hj=>by simp at hj⟩,AQG,λk hk=>by
     have h0:(List.replicate t.length false).getD k false=false:=by simp[List.getD,hk]
     constructor
     ·intro h;rw[h0]at h;cases h
     ·rintro⟨j,hj,_⟩;omega⟩
   ·obtain⟨ws,V3⟩:=s;obtain⟨hwl,hp,ym,hu⟩:=hI;simp only at hwl hp ym hu;subst hwl;have hn:YL (nd t ws.length):=ht.2 _ (AO hi);unfold HC KV;simp only;rw[show decide ((ws.length:Int)<(t.length:Int))=true from Di hi,AQp,AQr (Bq hi),AQa];obtain⟨r,hr,hq⟩:=xm (d:=d) (i:=ws.length) hn (by omega) hd;rw[show QC d (t.getD ws.length Ag.zero) (ws.length:Int)=some r from hr,AP9];cases r with
    |false =>
     refine Ay.mk (.inl ⟨_,rfl,λ⟨mQ,h'⟩=>?_⟩);obtain⟨w,hw⟩:=h'.node hp hi;have:=hq.2 ⟨hw.1,hw.2.1,hw.2.2.1⟩;cases this
    |true =>
     obtain⟨Gh,vR,az⟩:=hq.1 rfl;simp only[AQS,AQo];rw[AQr (Bq hi)];have hwb:=hp.BS htb;obtain⟨w,hw,hwe⟩:=xu (d:=d) hn hwb Gh az;rw[show TY d (t.getD ws.length Ag.zero) ws=some w from hw,AP9,Tc];have An1:=AjT hwb Gh az;by_cases tL:1<=w/\w<=4096
     ·rw[AQe tL];simp only[AQS,AQo];have AhY:tW d ws (nd t ws.length) w:=⟨Gh,vR,az,by
       rcases An1 with h |h
       ·rw[hwe,h];rfl
       ·omega,tL⟩
      rw[AQr (by show(_+1)*8<=_;omega)];refine Ay.bind (xr hi hn (by rw[ym];exact λk hk=>by have:=Gh k hk;omega)) λu hu'=>Ay.mk ⟨(ws++[w],u),by rw[Bp hi htb],by simp,hp.snoc hi AhY,hu'.1.trans ym,λk hk=>?_⟩;rw[hu'.2 k (by omega),hu k hk];constructor
      ·rintro(⟨j,h1,h2⟩|h)
       ·exact⟨j,by omega,h2⟩
       ·exact⟨ws.length,by omega,h⟩
      ·rintro⟨j,h1,h2⟩
       rcases AQk j ws.length with h' |h'
       ·exact .inl ⟨j,h',h2⟩
       ·rw[show j=ws.length by omega]at h2;exact .inr h2
     ·rw[AQc tL];refine Ay.mk (.inl ⟨_,rfl,λ⟨mQ,h'⟩=>?_⟩);obtain⟨v,hv⟩:=h'.node hp hi;have h3:=hv.2.2.2;have e:(Hs ws (nd t ws.length)).sum=UY ws (nd t ws.length):=rfl;rw[e]at h3;rcases An1 with h |h
      ·rw[hwe,h]at tL;exact tL (by rw[<-h3.1];exact h3.2)
      ·omega
   ·obtain⟨ws,V3⟩:=s;obtain⟨hwl,hp,ym,hu⟩:=hI;unfold HC KV;simp only;rw[Ew,AQo];exact Ay.mk (.inr ⟨ws,V3,rfl,hwl,hp,ym,hu⟩)
  ·rcases hr with ⟨x,rfl,h⟩|⟨ws,u,rfl,hwl,hp,ym,hu⟩
   ·exact Ay.mk (.inr ⟨rfl,λhh=>h hh.2⟩)
   ·simp only[ARa];refine Ay.bind (P:=λr=>(r=.inl ()/\¬∀k,k+1<t.length->u.getD k false=true)\/(r=.inr ()/\∀k,k+1<t.length->u.getD k false=true)) ?_ λr hr=>?_
    ·unfold SR;refine B4 (λj (_:Unit)=>(j:Int)) (t.length-1) (λj _=>∀k,k<j->u.getD k false=true) (λj _ hj hJ=>?_) (λ_ hJ=>?_) (s0:=()) (λi h=>by omega)
     ·unfold HD KW;rw[Bp (show j<t.length by omega) htb,ym,show decide (((j+1:Nat):Int)<(t.length:Int))=true from MM,AQp,AQr (Bq (by omega)),AQa];show Ay (bif !(u.getD j false)then _ else _) _;cases hc:u.getD j false with
      |false=>exact Ay.mk (.inl ⟨rfl,λh=>by rw[h j (by omega)]at hc;cases hc⟩)
      |true =>
       refine Ay.mk ⟨(),rfl,λk hk=>?_⟩;rcases AQk k j with h' |h'
       ·exact hJ k h'
       ·rw[show k=j by omega];exact hc
     ·unfold HD KW;rw[show wI (((t.length-1:Nat):Int)+1)=(t.length:Int)from A6,ym,Ew,AQo];exact Ay.mk (.inr ⟨rfl,λk hk=>hJ k (by omega)⟩)
    ·rcases hr with ⟨rfl,h⟩|⟨rfl,h⟩
     ·exact Ay.mk (.inr ⟨rfl,λ⟨_,mQ,h'⟩=>h λk hk=>(hu k (by omega)).2 (h'.2.2.2.2 k hk)⟩)
     ·exact Ay.mk (.inl ⟨gZ,UN,iL,hwl,hp,λk hk=>(hu k (by omega)).1 (h k hk)⟩)
open Classical in
noncomputable def GV(d:ASG)(t:ASJ):Int:=if h:∃ws,Ou d t ws then h.choose.getD (t.length-1) 0 else -1
theorem Zs{d:ASG}{t:ASJ}{ws:ASC}(h:Ou d t ws):GV d t=ws.getD (t.length-1) 0:=by
 have he:∃ws,Ou d t ws:=⟨ws,h⟩;unfold GV;rw[dif_pos he];have h1:=he.choose_spec;rw[h1.2.2.2.1.unique h.2.2.2.1 (by rw[h1.2.2.1,h.2.2.1])]
theorem VY{d:ASG}{t:ASJ}(h:¬∃ws,Ou d t ws):GV d t=-1:=by
 unfold GV;rw[dif_neg h]
theorem qa{d:ASG}{t:ASJ}{ws:ASC}(h:Ou d t ws):1<=GV d t/\GV d t<=4096:=by
 rw[Zs h];have:=h.1;exact(h.2.2.2.1.2 _ (by rw[h.2.2.1];omega)).2.2.2.2
theorem MV{d:ASG}{t:ASJ}(ht:OS t)(hd:d.length<=1048576):Fc d (t,())=some (GV d t):=by
 refine Ay.eq_ (Ay.bind (nF ht hd) λr hr=>?_);rcases hr with ⟨h1,h2⟩|⟨h1,h2⟩
 ·rw[h1];have:=h2.1;have hb:=ht.1;rw[h2.2.2.1,show wI _=((t.length-1:Nat))from A6,AQr ⟨by omega,by omega⟩];exact Ay.mk (Zs h2).symm
 ·rw[h1];exact Ay.mk (VY h2).symm
theorem VI{d:ASG}{t:ASJ}(ht:OS t)(hd:d.length<=1048576)(gZ:AE d):Fh d (t,())=some (GV d t):=by
 refine Ay.eq_ (Ay.bind (nT ht hd) λr hr=>?_);rcases hr with ⟨_,h2⟩|⟨rfl,h2⟩
 ·have:=h2.1;have hb:=ht.1;rw[h2.2.2.1,UK,I3,show wI _=((t.length-1:Nat))from A6,AQr ⟨by omega,by omega⟩];exact Ay.mk (Zs h2).symm
 ·exact Ay.mk (VY λh=>h2 ⟨gZ,h⟩).symm
def li(l:ASK)(i:Nat):ASu:=l.getD i Ah.zero
def cg(l:ASK)(i:Nat):Int:=(li l i).1
def lS(l:ASK)(i:Nat):ASJ:=(li l i).2.2.1.1
def lT(l:ASK)(i:Nat):ASJ:=(li l i).2.2.2.1.1
def WZ(d:ASG)(l:ASK)(i:Nat):Prop:=(1<=cg l i/\cg l i<=1000000)/\(0<i->cg l (i-1)<cg l i)/\0<=GV d (lS l i)/\GV d (lT l i)=GV d (lS l i)
def FD(d:ASG)(l:ASK):Prop:=l.length<=60/\∀i,i<l.length->WZ d l i
def MK(x:ASu):Prop:=OS x.2.2.1.1/\OS x.2.2.2.1.1
theorem Zm{d:ASG}{l:ASK}(hl:∀x∈l,MK x):Ay (Gl d l) λr=>r=true↔AE d/\FD d l:=by
 unfold Gl;obtain⟨b,gY,oM⟩:∃b,Hz d l=some b/\(b=false↔AE d/\l.length<=60):=by
  obtain⟨r,hr,hq⟩:=UU d;unfold Hz;rw[hr,AP9];cases r with
  |false=>exact⟨true,rfl,λh=>by(cases h),λh=>by have:=hq.2 h.1;cases this⟩
  |true =>
   have gZ:=hq.1 rfl;refine⟨decide ((l.length:Int)>60),rfl,?_⟩;rw[AQ0];exact⟨λh=>⟨gZ,by omega⟩,λh=>by omega⟩
 rw[gY,AP9];cases b with
 |true=>exact Ay.mk ⟨λh=>by(cases h),λh=>by have:=oM.2 ⟨h.1,h.2.1⟩;cases this⟩
 |false =>
  obtain⟨gZ,hlen⟩:=oM.1 rfl;have hd:=gZ.1;rw[AQo];refine Ay.bind (P:=λt=>(t=.inl ()/\¬∀i,i<l.length->WZ d l i)\/(t=.inr ()/\∀i,i<l.length->WZ d l i)) ?_ λt ht=>?_
  ·unfold Qj;refine B4 (λj (_:Unit)=>(j:Int)) l.length (λj _=>∀k,k<j->WZ d l k) (λj _ hj hJ=>?_) (λ_ hJ=>?_) (s0:=()) (λi h=>by omega)
   ·unfold Fz IW;have hB:=hl _ (AO (z :=Ah.zero) hj);have e1:Fh d (l.getD j Ah.zero).2.2.1=some (GV d (lS l j)):=VI hB.1 (by omega) gZ;have e2:Fh d (l.getD j Ah.zero).2.2.2.1=some (GV d (lT l j)):=VI hB.2 (by omega) gZ;have e3:(l.getD j Ah.zero).1=cg l j:=rfl;rw[Di hj,AQp,AQr (Bq hj),AQa,e1,AP9];obtain⟨b,gY,oM⟩:∃b,HA d l (j:Int) (GV d (lS l j))=some b/\(b=false↔WZ d l j):=by
     unfold HA WZ;rw[AQr (Bq hj),AQr (Bq hj),AQa,e3,Tc,e2,AP9];by_cases h1:1<=cg l j/\cg l j<=1000000
     ·rw[AQe h1];simp only[AQS,AQo];have last:∃b,(bif decide (GV d (lS l j)<0)then some true else some (GV d (lT l j) !=GV d (lS l j)))=some b/\(b=false↔0<=GV d (lS l j)/\GV d (lT l j)=GV d (lS l j)):=by
       by_cases h2:GV d (lS l j)<0
       ·rw[AQe h2];exact⟨true,rfl,λh=>by(cases h),λh=>by omega⟩
       ·rw[AQc h2,AQo];refine⟨_,rfl,?_⟩;rw[ARF];exact⟨λh=>⟨by omega,h⟩,λh=>h.2⟩
      obtain⟨b,hb,hq⟩:=last;by_cases h2:0<j
      ·rw[AQe (show(j:Int)>0 by omega),AQp,show wI ((j:Int)-1)=((j-1:Nat):Int)from A6,AQr (Bq (by omega)),AQa];have e4:(l.getD (j-1) Ah.zero).1=cg l (j-1):=rfl;rw[e4];by_cases h3:cg l j<=cg l (j-1)
       ·rw[AQe h3];exact⟨true,rfl,λh=>by(cases h),λh=>by have:=h.2.1 h2;omega⟩
       ·rw[AQc h3,AQo,AQr (Bq hj),hb];exact⟨b,rfl,hq.trans ⟨λh=>⟨h1,λ_=>by omega,h⟩,λh=>h.2.2⟩⟩
      ·rw[AQc (show ¬(j:Int)>0 by omega),AQo,AQr (Bq hj),hb];exact⟨b,rfl,hq.trans ⟨λh=>⟨h1,λh'=>absurd h' h2,h⟩,λh=>h.2.2⟩⟩
     ·rw[AQc h1];exact⟨true,rfl,λh=>by(cases h),λh=>absurd h.1 h1⟩
    rw[gY,AP9];cases b with
    |true=>exact Ay.mk (.inl ⟨rfl,λh=>by have:=oM.2 (h j hj);cases this⟩)
    |false =>
     rw[AQo,Bp hj (by omega)];refine Ay.mk ⟨(),rfl,λk hk=>?_⟩;rcases AQk k j with h' |h'
     ·exact hJ k h'
     ·rw[show k=j by omega];exact oM.1 rfl
   ·unfold Fz IW;rw[Ew,AQo];exact Ay.mk (.inr ⟨rfl,hJ⟩)
  ·rcases ht with ⟨rfl,h⟩|⟨rfl,h⟩
   ·exact Ay.mk ⟨λh=>by(cases h),λh'=>absurd h'.2.2 h⟩
   ·exact Ay.mk ⟨λ_=>⟨gZ,hlen,h⟩,λ_=>rfl⟩
theorem wj{d:ASG}{l:ASK}(hl:∀x∈l,MK x):Ay (Lc d l) λr=>r=true↔AE d/\FD d l:=by
 unfold Lc;obtain⟨r,hr,hq⟩:=XS d;rw[hr,AP9];cases r with
 |false=>exact Ay.mk ⟨λh=>by(cases h),λh=>by have:=hq.2 h.1;cases this⟩
 |true =>
  have gZ:=hq.1 rfl;have hd:=gZ.1;rw[AQp];unfold Gi;by_cases hlen:l.length<=60
  ·rw[AQc (by omega:¬(l.length:Int)>60),AQo];refine Ay.bind (P:=λr=>r=true↔AE d/\FD d l) (Ay.bind (P:=λt=>(t=.inl ()/\¬∀i,i<l.length->WZ d l i)\/(t=.inr ()/\∀i,i<l.length->WZ d l i)) ?_ λt ht=>?_) λr h=>Ay.mk h
   ·unfold Qb;have:=B4 (f:=B6 d l (l.length:Int)) (λj (_:Unit)=>((if j=0 then 0 else cg l (j-1):Int),(j:Int))) l.length (λj _=>∀k,k<j->WZ d l k) (Q:=λt=>(t=.inl ()/\¬∀i,i<l.length->WZ d l i)\/(t=.inr ()/\∀i,i<l.length->WZ d l i)) (λj _ hj hJ=>?_) (λ_ hJ=>?_) (s0:=()) (λi h=>by omega)
    ·exact this
    ·unfold B6 DI;have hB:=hl _ (AO (z :=Ah.zero) hj);have e1:Fc d (l.getD j Ah.zero).2.2.1=some (GV d (lS l j)):=MV hB.1 (by omega);have e2:Fc d (l.getD j Ah.zero).2.2.2.1=some (GV d (lT l j)):=MV hB.2 (by omega);have e3:(l.getD j Ah.zero).1=cg l j:=rfl;simp only;rw[Di hj,AQp,AQr (Bq hj),AQa,e1,AP9];obtain⟨c,hc⟩:∃c:Int,c=if j=0 then 0 else cg l (j-1):=⟨_,rfl⟩;have hcb:0<=c/\c<=1000000/\(0<j->c=cg l (j-1))/\(j=0->c=0):=by
      by_cases h0:j=0
      ·rw[AQr h0]at hc;exact⟨by omega,by omega,λh=>by omega,λ_=>hc⟩
      ·rw[AQs h0]at hc;have:=(hJ (j-1) (by omega)).1;exact⟨by omega,by omega,λ_=>hc,λh=>absurd h h0⟩
     rw[<-hc];obtain⟨b,gY,oM⟩:∃b,Dx d c (GV d (lS l j)) l (l.length:Int) (j:Int) (l.getD j Ah.zero)=some b/\(b=false↔WZ d l j):=by
      unfold Dx WZ;rw[e3,Lu,BU (x:=c+1),e2,AP9];by_cases h1:c+1<=cg l j/\cg l j<=1000000
      ·rw[AQe h1];simp only[AQS,AQo];by_cases h2:GV d (lS l j)<0
       ·rw[AQe h2];exact⟨true,rfl,λh=>by(cases h),λh=>by omega⟩
       ·rw[AQc h2,AQo];refine⟨_,rfl,?_⟩;rw[ARF];exact⟨λh=>⟨by omega,λh'=>by have:=hcb.2.2.1 h';omega,by omega,h.symm⟩,λh=>h.2.2.2.symm⟩
      ·rw[AQc h1];refine⟨true,rfl,λh=>by(cases h),λh=>?_⟩
       exfalso
       apply h1;rcases AQx j with h0 |h0
       ·have:=hcb.2.2.2 h0;omega
       ·have:=hcb.2.2.1 h0;have:=h.2.1 h0;omega
     rw[gY,AP9];cases b with
     |true=>exact Ay.mk (.inl ⟨rfl,λh=>by have:=oM.2 (h j hj);cases this⟩)
     |false =>
      rw[AQo,Bp hj (by omega)];refine Ay.mk ⟨(),rfl,λk hk=>?_⟩;rcases AQk k j with h' |h'
      ·exact hJ k h'
      ·rw[show k=j by omega];exact oM.1 rfl
    ·unfold B6 DI;simp only;rw[Ew,AQo];exact Ay.mk (.inr ⟨rfl,hJ⟩)
   ·rcases ht with ⟨rfl,h⟩|⟨rfl,h⟩
    ·exact Ay.mk ⟨λh=>by(cases h),λh'=>absurd h'.2.2 h⟩
    ·exact Ay.mk ⟨λ_=>⟨gZ,hlen,h⟩,λ_=>rfl⟩
  ·rw[AQe (by omega:(l.length:Int)>60)];exact Ay.mk ⟨λh=>by(cases h),λh=>absurd h.2.1 hlen⟩
end Go.Proofs.X
namespace Go.Va
open Go.Proofs.X
theorem vx{T:Type}{f:Int×ATO T->ATP ((Int×ATO T)⊕ATO T)}(N:Nat)(it:Nat->ATO T)(a0:ATO T)
    (hs:∀k,k<N->f ((k:Int),a0++(List.range k).flatMap it)=some (.inl (((k+1:Nat):Int),a0++(List.range k).flatMap it++it k)))
    (he:f ((N:Int),a0++(List.range N).flatMap it)=some (.inr (a0++(List.range N).flatMap it))):fix f (0,a0)=some (a0++(List.range N).flatMap it):=by
 have:=AW (f:=f) (λk=>((k:Int),a0++(List.range k).flatMap it)) N (λk hk=>by
  rw[hs k hk,ARh,ARR,AQh];simp) he
 simpa using this
theorem fU{A B:Type}(g:A->B)(l:ATO A):l.flatMap (λx=>[g x])=l.map g:=by
 induction l with
 |nil=>rfl
 |cons x l ih=>simp[ih]
theorem ku{A B:Type}(b:ATO B)(l:ATO A):l.flatMap (λ_=>b)=(List.replicate l.length b).flatten:=by
 induction l with
 |nil=>rfl
 |cons x l ih=>simp[ih,AR6]
end Go.Va
namespace Go.Proofs.X
open Go Go.Va
set_option maxRecDepth 100000
def OP(n:ASt)(w:Nat):Nat:=if BW n=8 then(w-(nA n).toNat%w)%w else(nA n).toNat%w
def BF(d:ASG)(n:ASt)(kids:ATO (ATO Bt)):ATO Bt :=
 if BW n=1 then(List.range (dw d (Ib n).toNat).toNat).map λa=>.va (Ib n).toNat a
 else if BW n=2 then(List.range (nW n).toNat).map λk=>.co (bt (gu n) k)
 else if BW n=3 then kids.reverse.flatten
 else if BW n=4 then((kids.getD 0 []).take ((nA n).toNat+1)).drop (nB n).toNat
 else if BW n=5 then kids.getD 0 []++List.replicate (nA n).toNat (.co false)
 else if BW n=6 then kids.getD 0 []++List.replicate (nA n).toNat ((kids.getD 0 []).getD ((kids.getD 0 []).length-1) (.co false))
 else if BW n=9 then(List.replicate (nA n).toNat (kids.getD 0 [])).flatten
 else(kids.getD 0 []).drop ((kids.getD 0 []).length-OP n (kids.getD 0 []).length)++(kids.getD 0 []).take ((kids.getD 0 []).length-OP n (kids.getD 0 []).length)
def LU(d:ASG):Bt->Prop
 |.co _=>True
 |.va v a=>v<d.length/\((a:Nat):Int)<dw d v
def kU(kids:ATO (ATO Bt)):Int:=((kids.map List.length).sum:Nat)
def Bv(d:ASG)(B:ATO Bt):Prop:=1<=B.length/\B.length<=4096/\∀b∈B,LU d b
structure NB (d:ASG) (n:ASt) (kids:List (List Bt)):Prop where
 hd:AE d
 hf:LV d n
 hb:YL n
 hk:kids.length=(AP n).length
 hw:1<=Hg d n (kU kids)/\Hg d n (kU kids)<=4096
 Gh:∀B∈kids,Bv d B
theorem Sk{d:ASG}(hd:AE d){b:Bt}(h:LU d b):BtB b:=by
 cases b with
 |co b=>trivial
 |va v a =>
  obtain⟨h1,h2⟩:=h;have:=(hd.2.1 v h1).2.1;have:=hd.1;exact⟨by omega,by omega⟩
theorem NB.one{d:ASG}{n:ASt}{kids:ATO (ATO Bt)}(h:NB d n kids)(h1:BW n≠1)(h2:BW n≠2)(h3:BW n≠3):4<=BW n/\BW n<=9/\∃B,kids=[B]/\Bv d B/\kU kids=(B.length:Int):=by
 have hf:=h.hf;unfold LV at hf;have:4<=BW n/\BW n<=9/\(AP n).length=1:=by omega
 obtain⟨h4,h9,hl⟩:=this;have hk:=h.hk;rw[hl]at hk
 match kids,hk,h.Gh with
 |[B],_,Gh=>exact⟨h4,h9,B,rfl,Gh B AQE,by simp[kU]⟩
theorem tj{n:ASt}{w:Nat}(h:1<=w):OP n w<w:=by
 unfold OP;split<;>exact Nat.mod_lt _ (by omega)
theorem gF(l:ASE):l.reverse.sum=l.sum:=by
 induction l with
 |nil=>rfl
 |cons x l ih=>simp[ih];omega
theorem dx{d:ASG}{n:ASt}{kids:ATO (ATO Bt)}(h:NB d n kids):((BF d n kids).length:Int)=Hg d n (kU kids):=by
 have hw:=h.hw;by_cases h1:BW n=1
 ·simp only[BF,Hg,AQr h1,AQl,AQQ]at hw⊢;omega
 by_cases h2:BW n=2
 ·simp only[BF,Hg,AQs h1,AQr h2,AQl,AQQ]at hw⊢;omega
 by_cases h3:BW n=3
 ·have e:¬BW n=4/\¬(BW n=5\/BW n=6)/\¬(BW n=7\/BW n=8)/\¬BW n=9:=by omega
  simp only[BF,Hg,AQs h1,AQs h2,AQr h3,AQs e.1,AQs e.2.1,AQs e.2.2.1,AQs e.2.2.2,kU];rw[ARG,List.map_reverse,gF]
 obtain⟨h4,h9,B,rfl,hB,hs⟩:=h.one h1 h2 h3;have hl:=hB.1;rw[hs]at hw⊢;by_cases vy:BW n=4
 ·simp only[BF,Hg,AQs h1,AQs h2,AQs h3,AQr vy,ARx,AQJ,AQu]at hw⊢;split at hw<;>rename_i hc
  ·rw[AQr hc];omega
  ·omega
 by_cases h5:BW n=5
 ·have yh:BW n=5\/BW n=6:=.inl h5;simp only[BF,Hg,AQs h1,AQs h2,AQs h3,AQs vy,AQr h5,AQr yh,ARx,AQd,AQG]at hw⊢;split at hw<;>rename_i hc
  ·rw[AQr hc];omega
  ·omega
 by_cases h6:BW n=6
 ·have yh:BW n=5\/BW n=6:=.inr h6;simp only[BF,Hg,AQs h1,AQs h2,AQs h3,AQs vy,AQs h5,AQr h6,AQr yh,ARx,AQd,AQG]at hw⊢;split at hw<;>rename_i hc
  ·rw[AQr hc];omega
  ·omega
 have yh:¬(BW n=5\/BW n=6):=by omega
 by_cases h9':BW n=9
 ·have h78:¬(BW n=7\/BW n=8):=by omega
  simp only[BF,Hg,AQs h1,AQs h2,AQs h3,AQs vy,AQs h5,AQs h6,AQs yh,AQs h78,AQr h9',ARx,ARG,ARX,ARU]at hw⊢;split at hw<;>rename_i hc
  ·rw[AQr hc];have:(nA n)=((nA n).toNat:Int):=by omega
   rw[this,AQa,Int.natCast_mul,Int.mul_comm]
  ·omega
 ·have h78:BW n=7\/BW n=8:=by omega
  have ht:=tj (n:=n) hl;simp only[BF,Hg,AQs h1,AQs h2,AQs h3,AQs vy,AQs h5,AQs h6,AQs yh,AQr h78,AQs h9',ARx,AQd,AQJ,AQu]at hw⊢;split at hw<;>rename_i hc
  ·rw[AQr hc];omega
  ·omega
theorem Wn{d:ASG}{n:ASt}{kids:ATO (ATO Bt)}(h:NB d n kids):Bv d (BF d n kids):=by
 have hl:=dx h;refine⟨by have:=h.hw;omega,by have:=h.hw;omega,λb hb=>?_⟩;by_cases h1:BW n=1
 ·have hf:=h.hf;unfold LV at hf;have hv:0<=Ib n/\Ib n<(d.length:Int):=by omega
  simp only[BF,AQr h1,List.mem_map,List.mem_range]at hb;obtain⟨a,ha,rfl⟩:=hb;exact⟨by omega,by omega⟩
 by_cases h2:BW n=2
 ·simp only[BF,AQs h1,AQr h2,List.mem_map,List.mem_range]at hb;obtain⟨a,ha,rfl⟩:=hb;trivial
 by_cases h3:BW n=3
 ·simp only[BF,AQs h1,AQs h2,AQr h3,List.mem_flatten,List.mem_reverse]at hb;obtain⟨B,hB,hb⟩:=hb;exact(h.Gh B hB).2.2 b hb
 obtain⟨h4,h9,B,rfl,hB,hs⟩:=h.one h1 h2 h3;have hz:B.getD (B.length-1) (.co false)∈B:=AO (by have:=hB.1;omega);simp only[BF,AQs h1,AQs h2,AQs h3,ARx]at hb;split at hb
 ·exact hB.2.2 b (ARt (ASj hb))
 split at hb
 ·rcases List.mem_append.1 hb with hb |hb
  ·exact hB.2.2 b hb
  ·rw[(List.mem_replicate.1 hb).2];trivial
 split at hb
 ·rcases List.mem_append.1 hb with hb |hb
  ·exact hB.2.2 b hb
  ·rw[(List.mem_replicate.1 hb).2];exact hB.2.2 _ hz
 split at hb
 ·obtain⟨C,hC,hb⟩:=List.mem_flatten.1 hb;rw[(List.mem_replicate.1 hC).2]at hb;exact hB.2.2 b hb
 ·rcases List.mem_append.1 hb with hb |hb
  ·exact hB.2.2 b (ASj hb)
  ·exact hB.2.2 b (ARt hb)
end Go.Proofs.X
namespace Go.Va
open Go.Proofs.X
theorem Y1{T:Type}{f:Int×ATO T->ATP ((Int×ATO T)⊕ATO T)}(N:Nat)(g:Nat->T)(a0:ATO T)
    (hs:∀k acc,k<N->acc.length=a0.length+k->f ((k:Int),acc)=some (.inl (((k+1:Nat):Int),acc++[g k]))) (he:∀acc,f ((N:Int),acc)=some (.inr acc)):fix f (0,a0)=some (a0++(List.range N).map g):=by
 have:=vx  N (λk=>[g k]) a0 (λk hk=>hs k _ hk (by rw[fU];simp)) (he _);rw[fU]at this;exact this
end Go.Va
namespace Go.Proofs.X
open Go Go.Va
set_option maxRecDepth 100000
theorem AGR(kids:ATO (ATO Bt))(k:Nat):(kids.map bV).getD k ATC.zero=bV (kids.getD k []):=by
 simp;cases kids[k]?<;>rfl
theorem Acn{x:Int}(h1:-4611686018427387904<=x)(h2:x<4611686018427387904):wI x=x:=BU
theorem Ab5{A:Type}{l:ATO A}{z:A}{k:Nat}(h:k<l.length):l.reverse.getD k z=l.getD (l.length-1-k) z:=by
 grind
theorem df(kids:ATO (ATO Bt))(k:Nat):((kids.reverse.take k).flatten).length<=(kids.map List.length).sum:=by
 rw[<-gF,<-List.map_reverse,ARG]
 conv=>rhs;rw[<-ARj k kids.reverse,AQT,AR0]
 omega
theorem Ahc{a:Nat}:decide ((a:Int)>=0)=true:=MM
theorem Aau{d:ASG}{n:ASt}{kids:ATO (ATO Bt)}(h:NB d n kids)(h3:BW n=3):Us (kids.map bV) (wI (((kids.map bV).length:Int)-1)) []=some (bV kids.reverse.flatten):=by
 have hlen:kids.length<=1048576:=by rw[h.hk];exact h.hb.1
 have Aid:(kids.map List.length).sum<=4096:=by
  have hw:=h.hw;have e :=by omega
  simp only[Hg,kU]at hw;omega
 rw[AQl,Acn (by omega) (by omega)];have:=AW (f:=F0 (kids.map bV)) (λk=>(kids.length-1-k,bV (kids.reverse.take k).flatten))  kids.length (λk hk=>by
  unfold F0 Mw;have e:kids.length-1-k=((kids.length-1-k:Nat):Int):=by omega
  have hb:=df kids k;have Gh:=h.Gh (kids.getD (kids.length-1-k) []) (AO (by omega));rw[e,Ahc,AQp,AQl,AQr ⟨by omega,by omega⟩,AQa,AGR,CR,CR,AQr (by have:=Gh.2.1;omega),Acn (by omega) (by omega)];rw[A3 (z:=[]) (show k<kids.reverse.length by grind),Ab5 hk,List.flatten_append,<-W3]
  grind) (by
  unfold F0 Mw;rw[I3,AQo,AQj (by grind)])
 have xH :=this;rw[show kids.length-1-((0:Nat))=(kids.length:Int)-1 by omega]at xH;exact xH
theorem xo{d:ASG}{n:ASt}{kids:ATO (ATO Bt)}(h:NB d n kids):T1 d n (kids.map bV)=some (bV (BF d n kids)):=by
 have e1:∀x:Int,(n.1==x)=decide (BW n=x):=λx=>UK;have hbl:=Wn h;have YD:=hbl.2.1;unfold T1 PV OQ;simp only[e1];by_cases h1:BW n=1
 ·rw[AQe h1,AQp];have hf:=h.hf;unfold LV at hf;have hv:0<=Ib n/\Ib n<(d.length:Int):=by omega
  obtain⟨N,hN⟩:∃N:Nat,dw d (Ib n).toNat=(N:Int):=by
   have:=(h.hd.2.1 (Ib n).toNat (by omega)).2.1;exact⟨(dw d (Ib n).toNat).toNat,by omega⟩
  have hN4:N<=4096:=by have:=(h.hd.2.1 (Ib n).toNat (by omega)).2.1;omega
  rw[show PQ d n 0 []=some (bV (BF d n kids)) by
   unfold PQ;rw[Y1 (f:=FY d n) N (λa=>Wa (.va (Ib n).toNat a)) [] (λk acc hk ha=>by
    unfold FY Mu;simp only;rw[AQr (show(0:Int)<=n.2.1/\n.2.1<(d.length:Int)from hv),show(d.getD n.2.1.toNat Ab.zero).2.1=(N:Int)from hN,Di hk,AQp,Bp hk (by omega)];simp at ha;rw[AQr (by show(_+1)*16<=_;omega)];have:n.2.1=(((Ib n).toNat:Nat):Int):=by show Ib n=_;omega
    rw[this];rfl) (λacc=>by
    unfold FY Mu;simp only;rw[AQr (show(0:Int)<=n.2.1/\n.2.1<(d.length:Int)from hv),show(d.getD n.2.1.toNat Ab.zero).2.1=(N:Int)from hN,Ew,AQo])]
   simp only[BF,AQr h1,hN,AQa,bV,ARg,ARW];rfl]
  rfl
 rw[AQc h1,AQo];by_cases h2:BW n=2
 ·rw[AQe h2,AQp];have hf:=h.hf;unfold LV at hf;obtain⟨m,UB,S6⟩:uh n:=by
   rcases hf with h |h |h |h
   ·omega
   ·exact h.2.2
   ·omega
   ·omega
  rw[show PR n 0 []=some (bV (BF d n kids)) by
   unfold PR;rw[Y1 (f:=FZ n) m (λk=>Wa (.co (bt (gu n) k))) [] (λk acc hk ha=>by
    unfold FZ Mv;simp only;have hb:Jb n.2.2.2.2.1 (k:Int)=some (bI (bt (gu n) k)):=kW (w:=nW n) S6.2.2.2.1 (by rw[S6.2.2.1];unfold nw;omega) h.hb.2.1;have h4:=S6.2.1;rw[show n.2.2.2.2.1.1=(m:Int)from UB,Di hk,AQp,hb,AP9,Bp hk (by omega)];simp at ha;rw[AQr (by show(_+1)*16<=_;omega)];rw[show wI (bI (bt (gu n) k))=bI (bt (gu n) k) by cases bt (gu n) k<;>rfl];rfl) (λacc=>by
    unfold FZ Mv;simp only;rw[show n.2.2.2.2.1.1=(m:Int)from UB,Ew,AQo])]
   simp only[BF,AQs h1,AQr h2,UB,AQa,bV,ARg,ARW];rfl]
  rfl
 rw[AQc h2,AQo];by_cases h3:BW n=3
 ·rw[AQe h3,AQp,Aau h h3];simp only[BF,AQs h1,AQs h2,AQr h3];rfl
 rw[AQc h3,AQo];obtain⟨h4,h9,B,rfl,hB,hs⟩:=h.one h1 h2 h3;have hl:=hB.1;have hl4:=hB.2.1;have hw:=h.hw;have g0:([B].map bV).getD 0 ATC.zero=bV B:=rfl;have r0:(0:Int)<=(0:Int)/\(0:Int)<(([B].map bV).length:Int):=⟨by omega,by simp⟩;rw[hs]at hw;simp only[BF,AQs h1,AQs h2,AQs h3,ARx]at YD⊢;simp only[Hg,AQs h1,AQs h2]at hw;by_cases vy:BW n=4
 ·simp only[AQr vy]at hw YD⊢;split at hw<;>rename_i hc
  ·obtain⟨A,hA⟩:∃A:Nat,nA n=(A:Int):=⟨(nA n).toNat,by omega⟩;obtain⟨L,hL⟩:∃L:Nat,nB n=(L:Int):=⟨(nB n).toNat,by omega⟩;have kC:n.2.2.1=(A:Int):=hA;have hL':n.2.2.2.1=(L:Int):=hL;rw[AQe vy,AQp,AQr r0,g0,kC,hL',show wI ((A:Int)+1)=((A+1:Nat):Int)from A6,CR];rw[AQr (show(0:Int)<=(L:Int)/\(L:Int)<=((A+1:Nat):Int)/\((A+1:Nat):Int)<=(B.length:Int)from⟨by omega,by omega,by omega⟩),AQa,AQa,hA,hL,AQa,AQa];rw[show(List.drop L (List.take (A+1) (bV B)))=bV ((B.take (A+1)).drop L) by simp[bV,List.map_drop,List.map_take],CR,AQJ,AQu,WA];rfl
  ·omega
 rw[AQc vy,AQo];simp only[AQs vy]at hw YD⊢;by_cases yh:BW n=5\/BW n=6
 ·simp only[AQr yh]at hw;split at hw<;>rename_i hc
  ·obtain⟨A,hA⟩:∃A:Nat,nA n=(A:Int):=⟨(nA n).toNat,by omega⟩;have kC:n.2.2.1=(A:Int):=hA;have GM:(bif decide (BW n=5)then decide (BW n=5)else decide (BW n=6))=true:=by
    rcases yh with h |h<;>simp[h]
   have fZ:wI (((bV B).length:Int)-1)=((B.length-1:Nat):Int):=by rw[CR];exact A6
   rw[GM,AQp];by_cases h6:BW n=6
   ·have h5:¬BW n=5:=by omega
    simp only[AQs h5,AQr h6,hA,AQa,AQd,AQG]at YD⊢;rw[show Gm ([B].map bV) n=some (.inl ()) by
     unfold Gm;rw[e1,AQe h6,AQp,AQr r0,AQr r0,g0,fZ,CR,AQr ⟨by omega,by omega⟩],AP9]
    simp only[ARq];rw[AQr r0,g0,fZ,AQa,CR,WA,cC (by omega)];rw[show PS n (Wa (B.getD (B.length-1) (.co false))) 0 (bV B)=some (bV (B++List.replicate A (B.getD (B.length-1) (.co false)))) by
     unfold PS;rw[Y1 (f:=F3 n (Wa (B.getD (B.length-1) (.co false)))) A (λ_=>Wa (B.getD (B.length-1) (.co false))) (bV B) (λk acc hk ha=>by
      unfold F3 Mx;simp only;rw[CR]at ha;rw[kC,Di hk,AQp,Bp hk (by omega),AQr (by show(_+1)*16<=_;omega)]) (λacc=>by
      unfold F3 Mx;simp only;rw[kC,Ew,AQo])]
     rw[W3];simp[bV,List.map_const']]
    rfl
   ·have h5:BW n=5:=by omega
    simp only[AQr h5,hA,AQa,AQd,AQG]at YD⊢;rw[show Gm ([B].map bV) n=some (.inr ()) by
     unfold Gm;rw[e1,AQc h6,AQo],AP9]
    simp only[ARa];rw[AQr r0,g0,CR,WA];rw[show PT n 0 (bV B)=some (bV (B++List.replicate A (.co false))) by
     unfold PT;rw[Y1 (f:=F4 n) A (λ_=>Wa (.co false)) (bV B) (λk acc hk ha=>by
      unfold F4 My;simp only;rw[CR]at ha;rw[kC,Di hk,AQp,Bp hk (by omega),AQr (by show(_+1)*16<=_;omega)];rfl) (λacc=>by
      unfold F4 My;simp only;rw[kC,Ew,AQo])]
     rw[W3];simp[bV,List.map_const']]
    rfl
  ·omega
 have h5:¬BW n=5:=by omega
 have h6:¬BW n=6:=by omega
 have GM:(bif decide (BW n=5)then decide (BW n=5)else decide (BW n=6))=false:=by simp[h5,h6]
 rw[GM,AQo];simp only[AQs h5,AQs h6,AQs yh]at hw YD⊢;by_cases h78:BW n=7\/BW n=8
 ·simp only[AQr h78]at hw;split at hw<;>rename_i hc
  ·obtain⟨A,hA⟩:∃A:Nat,nA n=(A:Int):=⟨(nA n).toNat,by omega⟩;have kC:n.2.2.1=(A:Int):=hA;have h9':¬BW n=9:=by omega
   have Pk:(bif decide (BW n=7)then decide (BW n=7)else decide (BW n=8))=true:=by
    rcases h78 with h |h<;>simp[h]
   have ht:=tj (n:=n) hl;simp only[AQs h9',AQd,AQJ,AQu]at YD⊢;rw[Pk,AQp,AQr r0,g0,kC,CR,QK];have AhV:Int.tmod (A:Int) (B.length:Int)=((A%B.length:Nat):Int):=rfl;have hml:A%B.length<B.length:=Nat.mod_lt _ (by omega);rw[show Li ([B].map bV) n (B.length:Int) (Int.tmod (A:Int) (B.length:Int))=some ((OP n B.length:Nat):Int) by
    unfold Li OP;rw[e1,AhV,hA,AQa];by_cases h8:BW n=8
    ·rw[AQe h8,AQp,QK,AQr h8,show wI ((B.length:Int)-((A%B.length:Nat):Int))=((B.length-A%B.length:Nat):Int)from A6];rfl
    ·rw[AQc h8,AQo,AQs h8],AP9]
   have bn:wI ((B.length:Int)-((OP n B.length:Nat):Int))=((B.length-OP n B.length:Nat):Int):=A6;rw[AQr r0,bn,AQr ⟨by omega,by omega,by omega⟩,AQa,AQa];generalize hq:B.length-OP n B.length=q at *;rw[show(List.drop q (List.take B.length (bV B)))=bV (B.drop q) by rw[AQj (by rw[CR];omega)];simp[bV,List.map_drop],show(List.drop 0 (List.take q (bV B)))=bV (B.take q) by simp[bV,List.map_take],WA,AQr r0,AQr ⟨by omega,by omega,by omega⟩,WA,<-W3];rfl
  ·omega
 have h9':BW n=9:=by omega
 have Pk:(bif decide (BW n=7)then decide (BW n=7)else decide (BW n=8))=false:=by
  rw[show ¬BW n=7/\¬BW n=8 by omega |> λh=>(AQc h.1:decide (BW n=7)=false),AQo];exact I3
 simp only[AQs h78,AQr h9']at hw YD⊢;split at hw<;>rename_i hc
 ·obtain⟨A,hA⟩:∃A:Nat,nA n=(A:Int):=⟨(nA n).toNat,by omega⟩;have kC:n.2.2.1=(A:Int):=hA;rw[Pk,AQo,AQe h9',AQp];rw[hA]at hw YD;simp only[AQa,ARG,ARX,ARU]at YD;rw[show PU ([B].map bV) n 0 []=some (bV (List.replicate A B).flatten) by
   unfold PU;rw[vx (f:=F5 ([B].map bV) n) A (λ_=>bV B) [] (λk hk=>by
    unfold F5 Mz;simp only;have rI:k*B.length<=A*B.length:=AQ3 _ (by omega);rw[kC,Di hk,AQp,AQr r0,g0,Bp hk (by omega),AQr (by
     rw[ARg,ku,ARG,ARX,ARU,AQQ,CR];omega)]) (by
    unfold F5 Mz;simp only;rw[kC,Ew,AQo])]
   rw[ARg,ku,AQQ];simp[bV,List.map_flatten,ARX]]
  rw[hA];rfl
 ·omega
end Go.Proofs.X
namespace Go.Proofs.X
open Go Go.Va
set_option maxRecDepth 100000
def fN(B:ATO Bt):ASI:=fV (Az B)
theorem AnX(kids:ATO (ATO Bt))(k:Nat):(kids.map fN).getD k ATB.zero=fN (kids.getD k []):=by
 simp;cases kids[k]?<;>rfl
theorem sF{d:ASG}(hd:AE d){a b:ATO Bt}(ha:∀x∈a,LU d x)(hb:∀x∈b,LU d x)(hl:a.length+b.length<=4096):EM (fN b) (fN a)=some (fN (a++b)):=by
 unfold fN;rw[wV (CM b) (CM a) (Qh (λx hx=>eG (Sk hd (hb x hx))) (by omega)) (Qh (λx hx=>eG (Sk hd (ha x hx))) (by omega)) (by rw[Ce,Ce];exact hl),wW]
theorem AiJ{s:Sg}(h:1<=s.w):Az s.bits=[s]:=by
 have:=Zj s.w s [] rfl h;exact this.symm
theorem Avz(b:Bt):fN [b]=[Ik b.sg]:=rfl
theorem AmU{d:ASG}(hd:AE d){a:ATO Bt}{b:Bt}(ha:∀x∈a,LU d x)(hb:LU d b)(hl:a.length+1<=4096):EM [Ik b.sg] (fN a)=some (fN (a++[b])) :=
 sF hd ha (b:=[b]) (λx hx=>by grind) hl
theorem AaM{d:ASG}{B:ATO Bt}(h:Bv d B):Fu (fN B)=some (B.length:Int):=by
 unfold fN;rw[rz (CM B) (by rw[Ce];exact h.2.1),Ce]
theorem Ab1{d:ASG}(hd:AE d){B:ATO Bt}(h:Bv d B){lo w:Nat}(hlo:lo+w<=8192):Fa (fN B) (lo:Int) (w:Int)=some (fN ((B.drop lo).take w)):=by
 have hs :=λx hx=>eG (Sk hd (h.2.2 x hx));unfold fN;rw[vk (CM B) (Qh hs h.2.1) (by rw[EP];exact hs) (by rw[Ce];exact h.2.1) hlo,EP]
theorem pW{d:ASG}(hd:AE d){B:ATO Bt}{b:Bt}{A:Nat}(hB:Bv d B)(hb:LU d b)(hl:B.length+A<=4096){f:Int×ASI->ATP (ATb⊕ASI)}
    (hs:∀x:Int×ASI,f x=bif decide (x.1<(A:Int))then(EM [Ik b.sg] x.2).bind λo=>some (.inl (wI (x.1+1),o))else some (.inr x.2)):fix f (0,fN B)=some (fN (B++List.replicate A b)):=by
 have:=AW (f:=f) (λk=>((k:Int),fN (B++List.replicate k b))) (t:=fN (B++List.replicate A b)) A (λk hk=>by
  rw[hs];rw[Di hk,AQp,AmU hd (λx hx=>by
   rcases List.mem_append.1 hx with hx |hx
   ·exact hB.2.2 x hx
   grind) hb (by grind),AP9,Bp hk (by omega),AQh,<-ASk]) (by
  grind)
 grind
theorem zU{d:ASG}{n:ASt}{kids:ATO (ATO Bt)}(h:NB d n kids)(h3:BW n=3):LF (kids.map fN) (wI (((kids.map fN).length:Int)-1)) []=some (fN kids.reverse.flatten):=by
 have hlen:kids.length<=1048576:=by rw[h.hk];exact h.hb.1
 have Aid:(kids.map List.length).sum<=4096:=by
  have hw:=h.hw;have e :=by omega
  simp only[Hg,kU]at hw;omega
 rw[AQl,Acn (by omega) (by omega)];have:=AW (f:=CG (kids.map fN)) (λk=>(kids.length-1-k,fN (kids.reverse.take k).flatten))  kids.length (λk hk=>by
  unfold CG FF;have e:kids.length-1-k=((kids.length-1-k:Nat):Int):=by omega
  have hb:=df kids (k+1);have Gh:=h.Gh (kids.getD (kids.length-1-k) []) (AO (by omega));rw[A3 (z:=[]) (show k<kids.reverse.length by grind),Ab5 hk,List.flatten_append]at hb⊢;simp only[List.flatten_cons,List.flatten_nil,AQO]at hb⊢;rw[AQd]at hb;rw[e,Ahc,AQp,AQl,AQr ⟨by omega,by omega⟩,AQa,AnX,sF h.hd (λx hx=>by
   obtain⟨C,hC,hx⟩:=List.mem_flatten.1 hx;exact(h.Gh C (List.mem_reverse.1 (ARt hC))).2.2 x hx) Gh.2.2 (by omega),AP9,Acn (by omega) (by omega)]
  grind) (by
  unfold CG FF;rw[I3,AQo,AQj (by grind)])
 have xH :=this;rw[show kids.length-1-((0:Nat))=(kids.length:Int)-1 by omega]at xH;exact xH
theorem lN{s:Sg}{v:ASs}(h:1<=s.w)(e:Ik s=v):([v]:ASI)=fN s.bits:=by
 unfold fN;rw[AiJ h,<-e];rfl
theorem wo{d:ASG}{n:ASt}{kids:ATO (ATO Bt)}(h:NB d n kids):Ho n d (kids.map fN)=some (fN (BF d n kids)):=by
 have e1:∀x:Int,(n.1==x)=decide (BW n=x):=λx=>UK;have hbl:=Wn h;have YD:=hbl.2.1;unfold Ho OQ;simp only[e1];by_cases h1:BW n=1
 ·rw[AQe h1,AQp];have hf:=h.hf;unfold LV at hf;have hv:0<=Ib n/\Ib n<(d.length:Int):=by omega
  have hdw:=(h.hd.2.1 (Ib n).toNat (by omega)).2.1;obtain⟨N,hN⟩:∃N:Nat,dw d (Ib n).toNat=(N:Int):=⟨(dw d (Ib n).toNat).toNat,by omega⟩;rw[AQr (show(0:Int)<=n.2.1/\n.2.1<(d.length:Int)from hv),show(d.getD n.2.1.toNat Ab.zero).2.1=(N:Int)from hN];rw[lN (s:=.va (Ib n).toNat 0 N) (by show 1<=N;omega) (by
   show((((Ib n).toNat:Nat):Int),((0:Nat):Int),(N:Int),((0:Int),([]:ASC),()),())=_;rw[show(((Ib n).toNat:Nat):Int)=n.2.1 by show _=Ib n;omega];rfl)]
  simp only[BF,AQr h1,hN,AQa,Sg.bits,AQF]
 rw[AQc h1,AQo];by_cases h2:BW n=2
 ·rw[AQe h2,AQp];have hf:=h.hf;unfold LV at hf;obtain⟨m,UB,S6⟩:uh n:=by
   rcases hf with h |h |h |h
   ·omega
   ·exact h.2.2
   ·omega
   ·omega
  have hl:((List.range m).map λk=>bt (gu n) k).length=m:=by simp
  rw[show Dp n.2.2.2.2.1=some (nW n,gu n)from cH h.hb.2.1,AP9];rw[lN (s:=.co ((List.range m).map λk=>bt (gu n) k)) (by show 1<=List.length _;rw[hl];exact S6.1) (by
   show(-1,0,((((List.range m).map λk=>bt (gu n) k).length:Nat):Int),fu ((List.range m).map λk=>bt (gu n) k),())=_;rw[z7 (f:=bt (gu n)) hl (λi hi=>by simp[List.getD,hi]),hl,show mkB m (bt (gu n))=((m:Int),gu n,()) by unfold mkB;rw[<-S6.eq]];simp only[AQ];rw[UB])]
  simp only[BF,AQs h1,AQr h2,UB,AQa,Sg.bits,ARW];rfl
 rw[AQc h2,AQo];by_cases h3:BW n=3
 ·rw[AQe h3,AQp,zU h h3];simp only[BF,AQs h1,AQs h2,AQr h3];rfl
 rw[AQc h3,AQo];obtain⟨h4,h9,B,rfl,hB,hs⟩:=h.one h1 h2 h3;have hl:=hB.1;have hl4:=hB.2.1;have hw:=h.hw;have g0:([B].map fN).getD 0 ATB.zero=fN B:=rfl;have r0:(0:Int)<=(0:Int)/\(0:Int)<(([B].map fN).length:Int):=⟨by omega,by simp⟩;have AMa:(fN B).length<=4096:=by
  unfold fN;rw[Cm];have:=CX (CM B);rw[Ce]at this;omega
 rw[hs]at hw;rw[AQr r0,g0,AaM hB,AP9];simp only[BF,AQs h1,AQs h2,AQs h3,ARx]at YD⊢;simp only[Hg,AQs h1,AQs h2]at hw;by_cases vy:BW n=4
 ·simp only[AQr vy]at hw YD⊢;split at hw<;>rename_i hc
  ·obtain⟨A,hA⟩:∃A:Nat,nA n=(A:Int):=⟨(nA n).toNat,by omega⟩;obtain⟨L,hL⟩:∃L:Nat,nB n=(L:Int):=⟨(nB n).toNat,by omega⟩;have kC:n.2.2.1=(A:Int):=hA;have hL':n.2.2.2.1=(L:Int):=hL;rw[AQe vy,AQp,kC,hL',show wI ((A:Int)-(L:Int))=((A-L:Nat):Int)from A6,show wI (((A-L:Nat):Int)+1)=((A-L+1:Nat):Int)from A6,Ab1 h.hd hB (by omega),hA,hL,AQa,AQa];rw[List.drop_take,show A+1-L=A-L+1 by omega];rfl
  ·omega
 rw[AQc vy,AQo];simp only[AQs vy]at hw YD⊢;by_cases h78:BW n=7\/BW n=8
 ·have yh:¬(BW n=5\/BW n=6):=by omega
  have h5:¬BW n=5:=by omega
  have h6:¬BW n=6:=by omega
  have h9':¬BW n=9:=by omega
  simp only[AQs h5,AQs h6,AQs h9',AQs yh,AQr h78]at hw⊢;split at hw<;>rename_i hc
  ·obtain⟨A,hA⟩:∃A:Nat,nA n=(A:Int):=⟨(nA n).toNat,by omega⟩;have kC:n.2.2.1=(A:Int):=hA;have Pk:(bif decide (BW n=7)then decide (BW n=7)else decide (BW n=8))=true:=by
    rcases h78 with h |h<;>simp[h]
   have ht:=tj (n:=n) hl;rw[Pk,AQp,QK,kC];have AhV:Int.tmod (A:Int) (B.length:Int)=((A%B.length:Nat):Int):=rfl;have hml:A%B.length<B.length:=Nat.mod_lt _ (by omega);rw[show EE n (B.length:Int) (fN B) (Int.tmod (A:Int) (B.length:Int))=some ((OP n B.length:Nat):Int) by
    unfold EE OP;rw[e1,AhV,hA,AQa];by_cases h8:BW n=8
    ·rw[AQe h8,AQp,QK,AQr h8,show wI ((B.length:Int)-((A%B.length:Nat):Int))=((B.length-A%B.length:Nat):Int)from A6];rfl
    ·rw[AQc h8,AQo,AQs h8],AP9]
   have bn:wI ((B.length:Int)-((OP n B.length:Nat):Int))=((B.length-OP n B.length:Nat):Int):=A6;have hz:(0:Int)=((0:Nat):Int):=rfl;rw[bn,Ab1 h.hd hB (by omega),AP9,hz,Ab1 h.hd hB (by omega),AP9,ASf,show List.take (OP n B.length) (List.drop (B.length-OP n B.length) B)=List.drop (B.length-OP n B.length) B from AQj (by rw[AQJ];omega)];rw[sF h.hd (λx hx=>hB.2.2 x (ASj hx)) (λx hx=>hB.2.2 x (ARt hx)) (by rw[AQJ,AQu];omega)];rfl
  ·omega
 have Pk:(bif decide (BW n=7)then decide (BW n=7)else decide (BW n=8))=false:=by
  rw[show ¬BW n=7/\¬BW n=8 by omega |> λh=>(AQc h.1:decide (BW n=7)=false),AQo];exact I3
 rw[Pk,AQo];by_cases h9':BW n=9
 ·have yh:¬(BW n=5\/BW n=6):=by omega
  have h5:¬BW n=5:=by omega
  have h6:¬BW n=6:=by omega
  simp only[AQs h5,AQs h6,AQr h9',AQs yh,AQs h78]at hw YD⊢;split at hw<;>rename_i hc
  ·obtain⟨A,hA⟩:∃A:Nat,nA n=(A:Int):=⟨(nA n).toNat,by omega⟩;have kC:n.2.2.1=(A:Int):=hA;rw[hA]at hw YD;simp only[AQa,ARG,ARX,ARU]at YD;rw[AQe h9',AQp,kC];rw[show HI (fN B) (A:Int) 0 []=some (fN (List.replicate A B).flatten) by
    unfold HI;have:=AW (f:=CH (fN B) (A:Int)) (λk=>((k:Int),fN (List.replicate k B).flatten)) (t:=fN (List.replicate A B).flatten) A (λk hk=>by
     unfold CH FG;simp only;have rI:(k+1)*B.length<=A*B.length:=AQ3 _ (by omega);have AOl:(k+1)*B.length=k*B.length+B.length:=Nat.succ_mul _ _;have hA2:A<=A*B.length:=AR7 _ (by omega);rw[Di hk,AQp,sF h.hd (λx hx=>by
      obtain⟨C,hC,hx⟩:=List.mem_flatten.1 hx;rw[(List.mem_replicate.1 hC).2]at hx;exact hB.2.2 x hx) hB.2.2 (by rw[ARG,ARX,ARU];omega),AP9,Bp hk (by omega),ASk,List.flatten_append]
     simp) (by
     unfold CH FG;simp only;rw[Ew,AQo])
    exact this,hA]
   rfl
  ·omega
 have yh:BW n=5\/BW n=6:=by omega
 rw[AQc h9',AQo];simp only[AQs h9',AQr yh]at hw YD⊢;split at hw<;>rename_i hc
 ·obtain⟨A,hA⟩:∃A:Nat,nA n=(A:Int):=⟨(nA n).toNat,by omega⟩;have kC:n.2.2.1=(A:Int):=hA;have hz1:DZ 1=some (1,[0]):=Ww (n:=1) (by omega);rw[hz1,AP9];rw[WA];by_cases h6:BW n=6
  ·have h5:¬BW n=5:=by omega
   have fZ:LU d (B.getD (B.length-1) (.co false)):=hB.2.2 _ (AO (by omega));rw[show Cy n (B.length:Int) (fN B) (fN B) (AQ 1 [0]).1 (AQ 1 [0]).2.1 (AQ 1 [0]).2.2.1 (AQ 1 [0]).2.2.2.1 (AQ 1 [0]).2.2.2.2=some (.inl (Ik (B.getD (B.length-1) (.co false)).sg)) by
    unfold Cy;rw[e1,AQe h6,AQp,show wI ((B.length:Int)-1)=((B.length-1:Nat):Int)from A6,show(1:Int)=((1:Nat):Int)from rfl,Ab1 h.hd hB (by omega),AP9];have:(B.drop (B.length-1)).take 1=[B.getD (B.length-1) (.co false)]:=by
     rw[ARN (by omega),show B.getD (B.length-1) (.co false)=B[B.length-1] by simp[List.getD,show B.length-1<B.length by omega]];rfl
    rw[this,Avz,AQr ⟨by omega,by simp⟩];rfl,AP9]
   simp only[ARq,AQs h5,AQr h6,hA,AQa];rw[kC];unfold LG;rw[pW (f:=FH (Ik (B.getD (B.length-1) (.co false)).sg) (A:Int)) h.hd hB fZ (A:=A) (by omega) (λx=>rfl)];rfl
  ·have h5:BW n=5:=by omega
   rw[show Cy n (B.length:Int) (fN B) (fN B) (AQ 1 [0]).1 (AQ 1 [0]).2.1 (AQ 1 [0]).2.2.1 (AQ 1 [0]).2.2.2.1 (AQ 1 [0]).2.2.2.2=some (.inr ()) by
    unfold Cy;rw[e1,AQc h6,AQo],AP9]
   simp only[ARa,AQr h5,hA,AQa];rw[kC];have hco:((AQ 1 [0]).1,(AQ 1 [0]).2.1,(AQ 1 [0]).2.2.1,((AQ 1 [0]).2.2.2.1,(AQ 1 [0]).2.2.2.2,()),())=Ik (Bt.co false).sg:=rfl;rw[hco];unfold LH;rw[pW (f:=FJ (A:Int) (Ik (Bt.co false).sg)) h.hd hB (show LU d (.co false)from trivial) (A:=A) (by omega) (λx=>rfl)];rfl
 ·omega
def Zc(all:ATO (ATO Bt))(n:ASt):ATO (ATO Bt):=(AP n).map λk=>all.getD k.toNat []
def TB(d:ASG)(t:ASJ):Nat->ATO (ATO Bt)
 |0=>[]
 |i+1=>TB d t i++[BF d (nd t i) (Zc (TB d t i) (nd t i))]
theorem Ve(d:ASG)(t:ASJ):∀i,(TB d t i).length=i
 |0=>rfl
 |i+1=>by simp only[TB,AQd,Ve d t i];rfl
theorem qz(d:ASG)(t:ASJ){i j k:Nat}(h:j<i)(hk:i<=k):(TB d t k).getD j []=(TB d t i).getD j []:=by
 induction k with
 |zero=>omega
 |succ k ih =>
  rcases AQk k i with h1 |h1
  ·grind
  ·rw[<-ih h1];simp only[TB,List.getD];rw[AQw (by rw[Ve];omega)]
theorem iB(d:ASG)(t:ASJ)(i:Nat):(TB d t (i+1)).getD i []=BF d (nd t i) (Zc (TB d t i) (nd t i)):=by
 simp only[TB,List.getD];rw[AQv (by rw[Ve];omega),Ve];simp
theorem AjK{A:Type}(f:A->Nat)(l:ATO A):(((l.map f).sum:Nat):Int)=(l.map λx=>(f x:Int)).sum:=by
 induction l with
 |nil=>rfl
 |cons x l ih=>grind
theorem sA{d:ASG}{t:ASJ}{ws:ASC}{i:Nat}(hd:AE d)(ht:OS t)(h:Ou d t ws)(hi:i<t.length)(hp:∀j,j<i->Bv d ((TB d t i).getD j [])/\(((TB d t i).getD j []).length:Int)=ws.getD j 0) :
    NB d (nd t i) (Zc (TB d t i) (nd t i))/\Hg d (nd t i) (kU (Zc (TB d t i) (nd t i)))=ws.getD i 0/\Oz (nd t i) i:=by
 obtain⟨_,_,hl,⟨_,Ah5⟩,_⟩:=h;have hn:=Ah5 i (by omega);obtain⟨Gh,_,hf,hw,h1,h2⟩:=hn;have hwl:(ws.take i).length=i:=by grind
 rw[hwl]at Gh;have hs:kU (Zc (TB d t i) (nd t i))=(Hs (ws.take i) (nd t i)).sum:=by
  unfold kU Zc Hs;rw[ARW,AjK];congr 1;refine AQY λk hk=>?_;have:=Gh k hk
  grind
 refine⟨⟨hd,hf,ht.2 _ (AO hi),by simp[Zc],by grind,λB hB=>?_⟩,by grind,Gh⟩;obtain⟨k,hk,rfl⟩:=List.mem_map.1 hB;have:=Gh k hk;exact(hp k.toNat (by omega)).1
theorem lZ{d:ASG}{t:ASJ}{ws:ASC}(hd:AE d)(ht:OS t)(h:Ou d t ws):∀i,i<=t.length->∀j,j<i->Bv d ((TB d t i).getD j [])/\(((TB d t i).getD j []).length:Int)=ws.getD j 0
 |0,_,j,hj=>by omega
 |i+1,hi,j,hj=>by
  have ih:=lZ hd ht h i (by omega);rcases AQk j i with h1 |h1
  ·rw[qz d t h1 (AQK i)];exact ih j h1
  ·have:j=i:=by omega
   subst this;obtain⟨vN,hw,_⟩:=sA hd ht h (by omega) ih;rw[iB];exact⟨Wn vN,by rw[dx vN,hw]⟩
def tZ(d:ASG)(t:ASJ)(n:Nat):Prop:=∀i,i<n->(Az ((TB d t n).getD i [])).length<=2000
def kZ(d:ASG)(t:ASJ):ATO Bt:=(TB d t t.length).getD (t.length-1) []
open Classical in
noncomputable def D1(d:ASG)(t:ASJ):Bool×ASI:=if(∃ws,Ou d t ws)/\tZ d t t.length then(true,fN (kZ d t))else(false,[])
theorem tZ.succ{d:ASG}{t:ASJ}{n:Nat}:tZ d t (n+1)↔tZ d t n/\(Az (BF d (nd t n) (Zc (TB d t n) (nd t n)))).length<=2000:=by
 constructor
 ·intro h;refine⟨λi hi=>?_,?_⟩
  ·have:=h i (by omega);rw[qz d t hi (AQK n)]at this;exact this
  ·have:=h n (by omega);rw[iB]at this;exact this
 ·rintro⟨h1,h2⟩ i hi
  rcases AQk i n with h |h
  ·rw[qz d t h (AQK n)];exact h1 i h
  ·have:i=n:=by omega
   subst this;rw[iB];exact h2
theorem tZ.mono{d:ASG}{t:ASJ}{m n:Nat}(h:tZ d t n)(hm:m<=n):tZ d t m:=λi hi=>by
 have:=h i (by omega);rw[qz d t hi hm]at this;exact this
theorem rW{a:ASG}{g c:Int}{b:ASz}{j:ASt}{all:ATO (ATO Bt)}{pad:AST}{n:ASt}(hn:(AP n).length<=1048576)(Gh:Oz n all.length) :
    Ua a g c b (all.map fN++pad) j (AP n) ((AP n).length:Int) 0 (List.replicate (AP n).length [])=some ((Zc all n).map fN):=by
 have Xg:∀m,m<(AP n).length->(all.map fN++pad).getD ((AP n).getD m 0).toNat []=fN (all.getD ((AP n).getD m 0).toNat []):=λm hm=>by
  have:=Gh _ (AO (z:=(0:Int)) hm)
  grind
 have:=AW (f:=FK a g c b (all.map fN++pad) j (AP n) ((AP n).length:Int)) (λk=>((k:Int),CU (λm=>(all.map fN++pad).getD ((AP n).getD m 0).toNat []) [] (AP n).length k)) (t:=(Zc all n).map fN) (AP n).length (λk hk=>by
  unfold FK L4;have hk2:=Gh _ (AO (z:=(0:Int)) hk);have e0:(Ty.zero ATy:Int)=0:=rfl;rw[e0,Di hk,AQp,AQr (Bq hk),AQa,AQr ⟨hk2.1,by grind⟩,Ih,AQr (Bq hk),Bp hk (by omega)];rw[show ATB.zero=([]:ASI)from rfl,Qq (λm=>(all.map fN++pad).getD ((AP n).getD m 0).toNat []) [] (n:=(AP n).length) (k:=k)]) (by
  unfold FK L4;rw[Ew,AQo];congr 2;unfold CU Zc;refine ARp (by simp) λi h1 h2=>?_
  grind)
 rw[show CU (λm=>(all.map fN++pad).getD ((AP n).getD m 0).toNat []) [] (AP n).length 0=List.replicate (AP n).length []from MU _ _ _]at this;exact this
theorem rq(B:ATO Bt):(fN B).length=(Az B).length:=Cm _
theorem Ajg{d:ASG}{B:ATO Bt}(h:Bv d B):Small (fN B):=by
 have hlen:=CX (CM B);rw[Ce]at hlen;have h4:=h.2.1;refine⟨by rw[rq];omega,λs hs=>?_⟩;obtain⟨q,hq,rfl⟩:=List.mem_map.1 hs;cases q with
 |co bs =>
  show(fu bs).2.1.length<=1048576;rw[(pC bs).1];have :=by
   have:∀(l:ATO Sg) (s:Sg),s∈l->s.w<=Bn l:=λl s hs=>by
    induction l with
    |nil=>grind
    |cons a l ih =>
     simp only[Bn,AQU,ARP];rcases List.mem_cons.1 hs with rfl |hs
     ·omega
     ·have:=ih hs;unfold Bn at this;omega
   exact this _ _ hq
  rw[Ce]at this;have e:(Sg.co bs).w=bs.length:=rfl;unfold nw;omega
 |va v l n=>show[].length<=_;simp
theorem Vl{d:ASG}{t:ASJ}{ws:ASC}(hd:AE d)(ht:OS t)(h:Ou d t ws):GC d (t,())=some (D1 d t):=by
 have UN:=h.1;have iL:=h.2.1;refine Ay.eq_ ?_;unfold GC;rw[AQr ⟨rfl,by omega,by omega,by grind,by grind⟩];refine Ay.bind (P:=λr=>(∃x,r=.inl x/\¬tZ d t t.length)\/(r=.inr ((TB d t t.length).map fN)/\tZ d t t.length)) ?_ λr hr=>?_
 ·refine BB (λm (x:Int×ATO _)=>∃i:Nat,i<=t.length/\m=t.length-i/\x=((i:Int),(TB d t i).map fN++List.replicate (t.length-i) [])/\tZ d t i) (λm x hI=>?_) _ _ ⟨0,AQW _,rfl,by simp[TB],λi hi=>by omega⟩;obtain⟨i,hi,rfl,rfl,ga⟩:=hI;unfold L5 QY;rcases AQk i _ with Bw |ag
  ·obtain⟨vN,hw,Gh⟩:=sA hd ht h Bw (lZ hd ht h i hi);have rI:=vN.hb.1;have S7:t.getD i _=nd t i:=rfl;have WY:(nd t i).2.2.2.2.2.1=AP _:=rfl;rw[Di Bw,AQr (Bq Bw),AQa,S7,WY,AQr ⟨rfl,by omega,by omega,by omega,by omega⟩,AQa];rw[rW rI (by rw[Ve];exact Gh),AP9,wo vN,AP9];have hlen:((TB d t i).map fN++List.replicate (t.length-i) []).length=t.length:=by rw[AQd,AQl,Ve,AQG];omega
   have H6:((TB d t i).map fN++List.replicate (t.length-i) []).set i (fN (BF d (nd t i) (Zc (TB d t i) (nd t i))))=(TB d t (i+1)).map fN++List.replicate (t.length-(i+1)) []:=by
    rw[ARy _ _ (by grind),AQl,Ve,ARV,show t.length-i=(t.length-(i+1))+1 by omega,AR6];simp only[TB,AQT,AQh];rfl
   have Xg:((TB d t (i+1)).map fN++List.replicate (t.length-(i+1)) ([]:ASI)).getD i (Ty.zero (.sl _))=fN (BF d (nd t i) (Zc (TB d t i) (nd t i))):=by
    grind
   rw[hlen,AQr (Bq Bw),AQi,hlen,AQr (Bq Bw),H6,Xg,rq];by_cases hc:(Az (BF d (nd t i) (Zc (TB d t i) (nd t i)))).length<=2000
   ·rw[I3,Bp Bw (by omega)];exact Ay.mk ⟨t.length-(i+1),by omega,i+1,Bw,rfl,rfl,tZ.succ.2 ⟨ga,hc⟩⟩
   ·rw[MM];exact Ay.mk (.inl ⟨_,rfl,λh'=>hc (tZ.succ.1 (h'.mono Bw)).2⟩)
  ·have:i=t.length:=by omega
   subst this;rw[Ew];exact Ay.mk (.inr ⟨by simp,ga⟩)
 ·rcases hr with ⟨x,rfl,ah⟩|⟨rfl,ga⟩
  ·refine Ay.mk ?_;unfold D1;rw[AQs (λh'=>ah h'.2)]
  ·simp only[ARa];have fZ:wI ((((TB d t t.length).map fN).length)-1)=((t.length-1:Nat)):=by rw[AQl,Ve];exact A6
   rw[fZ,AQl,Ve,AQr ⟨by omega,by omega⟩,AQa,AnX];have hb:=(lZ hd ht h _ (AQf _) (t.length-1) (by omega)).1;rw[qV (Ajg hb)];refine Ay.mk ?_;unfold D1;rw[AQr ⟨⟨ws,h⟩,ga⟩];rfl
theorem Hw{d:ASG}{t:ASJ}(hd:AE d)(ht:OS t):BK d (t,())=some (D1 d t):=by
 refine Ay.eq_ ?_;unfold BK;have AJE:=hd.1;rw[VI ht (by omega) hd,AP9];by_cases hw:∃ws,Ou d t ws
 ·obtain⟨ws,h⟩:=hw;have UN:=h.1;have iL:=h.2.1;have hp:=qa h;rw[I3,AQo];refine Ay.bind (P:=λr=>(r=.inl ()/\¬tZ d t t.length)\/(r=.inr (fN (kZ d t))/\tZ d t t.length)) ?_ λr hr=>?_
  ·unfold Uo;refine BB (λm (x:Int×ASS×ASI)=>∃i:Nat,i<=t.length/\m=t.length-i/\x.1=(i:Int)/\x.2.1=(TB d t i).map bV/\(0<i->x.2.2=fN ((TB d t i).getD (i-1) []))/\tZ d t i) (λm x hI=>?_) t.length _ ⟨0,AQW _,rfl,rfl,rfl,λh=>by omega,λi hi=>by omega⟩;obtain⟨x1,x2,x3⟩:=x;obtain⟨i,hi,rfl,h1,h2,h3,ga⟩:=hI;simp only at h1 h2 h3;subst h1 h2;unfold Ml Rq;simp only;rcases AQk i t.length with Bw |ag
   ·obtain⟨vN,hw,Gh⟩:=sA hd ht h Bw (lZ hd ht h i hi);have rI:=vN.hb.1;have S7:t.getD i Ag.zero=nd t i:=rfl;have WY:(nd t i).2.2.2.2.2.1=AP (nd t i):=rfl;have AGd:PG d (i:Int) (t,()) ((TB d t i).map bV) 0 []=some ((Zc (TB d t i) (nd t i)).map bV):=by
     unfold PG;rw[Y1 (f:=FU d (i:Int) (t,()) ((TB d t i).map bV)) (AP (nd t i)).length (λm=>bV ((TB d t i).getD ((AP (nd t i)).getD m 0).toNat [])) [] (λk acc hk ha=>by
      unfold FU Mk;simp only;have hk2:=Gh _ (AO (z:=(0:Int)) hk);simp at ha;have e0:(Ty.zero ATy:Int)=0:=rfl;rw[AQr (Bq Bw),AQa,S7,WY,Di hk,AQp,AQr (Bq Bw),AQr (Bq hk),AQa,e0,AQr ⟨hk2.1,by rw[AQl,Ve];exact hk2.2⟩,AGR,Bp hk (by omega),AQr (by show(_+1)*24<=_;omega)]) (λacc=>by
      unfold FU Mk;simp only;rw[AQr (Bq Bw),AQa,S7,WY,Ew,AQo])]
     rw[ARg];congr 1;unfold Zc;rw[ARW];refine ARp (by simp) λq h1 h2=>?_;simp only[List.getElem_map,List.getElem_range,Function.comp];have hq:q<(AP (nd t i)).length:=by simpa using h1
     simp[List.getD,hq]
    rw[Di Bw,AQp,AGd,AP9,AQr (Bq Bw),AQa,S7,xo vN,AP9];have hb:=Wn vN;rw[AdF (λb zG=>Sk hd (hb.2.2 b zG)) hb.2.1,AP9];by_cases hc:(Az (BF d (nd t i) (Zc (TB d t i) (nd t i)))).length<=2000
    ·simp only[AQe hc,AQS,AQo];rw[AQl,Ve,AQr (by show(_+1)*24<=_;omega),Bp Bw (by omega)];refine Ay.mk ⟨t.length-(i+1),by omega,i+1,Bw,rfl,rfl,?_,λ_=>?_,tZ.succ.2 ⟨ga,hc⟩⟩
     ·simp only[TB,AQT,AQU,ARz]
     ·simp only[AQM];rw[iB];rfl
    ·simp only[AQc hc,ARu,AQp];exact Ay.mk (.inl ⟨rfl,λh'=>hc (tZ.succ.1 (h'.mono Bw)).2⟩)
   ·have:i=t.length:=by omega
    subst this;rw[Ew,AQo];exact Ay.mk (.inr ⟨by rw[h3 (by omega)];rfl,ga⟩)
  ·rcases hr with ⟨rfl,ah⟩|⟨rfl,ga⟩
   ·simp only[ARq];refine Ay.mk ?_;unfold D1;rw[AQs (λh'=>ah h'.2)]
   ·simp only[ARa];refine Ay.mk ?_;unfold D1;rw[AQr ⟨⟨ws,h⟩,ga⟩]
 ·rw[VY hw,MM,AQp];refine Ay.mk ?_;unfold D1;rw[AQs (λh'=>hw h'.1)]
end Go.Proofs.X
namespace Go.Va
open Go.Proofs.X
def brk:ATO Bt->Nat
 |a::b::r=>(if a.sg.join b.sg=none then 1 else 0)+brk (b::r)
 |_=>0
theorem AfW(B:ATO Bt)(c b:Bt):brk (B++[c,b])=brk (B++[c])+if c.sg.join b.sg=none then 1 else 0:=by
 induction B with
 |nil=>simp[brk]
 |cons a B ih =>
  cases B with
  |nil=>simp only[ARg,AR4,brk]at *;omega
  |cons x B=>simp only[AR4,brk]at *;omega
theorem Aik{l s j:Sg}(h:l.join s=some j)(x:Bt):j.join x.sg=none↔s.join x.sg=none:=by
 cases l<;>cases s<;>simp only[Sg.join]at h
 ·cases h;cases x<;>simp[Sg.join,Bt.sg]
 ·cases h
 ·cases h
 ·split at h
  ·rename_i hc;cases h;cases x with
   |co b=>simp[Sg.join,Bt.sg]
   |va v a =>
    simp only[Sg.join,Bt.sg,hc.1,<-hc.2,ARe];split<;>simp
  ·cases h
theorem AiI(B:ATO Bt)(c:Bt):∃g l,Az (B++[c])=g++[l]/\∀x:Bt,l.join x.sg=none↔c.sg.join x.sg=none:=by
 have e:Az (B++[c])=Ic (Az B) c.sg:=by unfold Az;rw[MR];rfl
 rw[e];rcases ARk (Az B)with h |⟨g,l,h⟩
 ·rw[h];exact⟨[],c.sg,rfl,λx=>Iff.rfl⟩
 ·rw[h,ARl,Fx];cases hj:l.join c.sg with
  |none=>exact⟨g++[l],c.sg,by simp,λx=>Iff.rfl⟩
  |some j=>exact⟨g,j,rfl,Aik hj⟩
theorem wM(B:ATO Bt)(c:Bt):(Az (B++[c])).length=brk (B++[c])+1:=by
 have key:∀(n:Nat) (B:ATO Bt) (c:Bt),B.length=n->(Az (B++[c])).length=brk (B++[c])+1:=by
  intro n;induction n with
  |zero=>intro B c h;rw[List.length_eq_zero_iff.1 h];simp[Az,YO,Ic,brk]
  |succ n ih =>
   intro B c h;rcases ARk B with rfl |⟨B0,x,rfl⟩
   ·simp at h
   ·rw[ARl]at h⊢;rw[AQh];simp only[AR4,ARg];have i:=ih B0 x (by simp at h;omega);obtain⟨g,l,hg,hl⟩:=AiI B0 x;have e:Az (B0++[x,c])=Ic (Az (B0++[x])) c.sg:=by
     rw[show B0++[x,c]=(B0++[x])++[c] by simp];unfold Az;rw[MR];rfl
    rw[AfW,e,hg,Fx];rw[hg]at i;simp only[AQd,AQ4,List.length_nil]at i;cases hj:l.join c.sg with
    |none=>rw[AQr ((hl c).1 hj)];simp;omega
    |some j =>
     rw[AQs (λh'=>by rw[(hl c).2 h']at hj;cases hj)];simp;omega
 exact key _ B c rfl
end Go.Va
namespace Go.Proofs.X
open Go Go.Va
set_option maxRecDepth 100000
def AeU(d:ASG)(B:ATO Bt):Prop:=Bv d B/\(Az B).length<=2000
theorem AeU.pos{d:ASG}{B:ATO Bt}(h:AeU d B):1<=(Az B).length:=by
 rcases ARk B with rfl |⟨B0,x,rfl⟩
 ·have:=h.1.1;simp at this
 ·rw[ARl,wM];omega
def V8(d:ASG):Sg->Prop
 |.co bs=>1<=bs.length/\bs.length<=4096
 |.va v l n=>v<d.length/\1<=n/\((l+n:Nat):Int)<=dw d v
theorem Zk{d:ASG}{B:ATO Bt}(h:Bv d B){s:Sg}(hs:s∈Az B):V8 d s/\s.w<=4096:=by
 have hw:=CM B s hs;have hb:∀b∈s.bits,LU d b:=λb hb=>h.2.2 b (by
  rw[<-EP B];exact List.mem_flatMap.2 ⟨s,hs,hb⟩)
 have S5:s.w<=4096:=by
  have:∀(l:ATO Sg) (s:Sg),s∈l->s.w<=Bn l:=λl s hs=>by
   induction l with
   |nil=>cases hs
   |cons a l ih =>
    simp only[Bn,AQU,ARP];rcases List.mem_cons.1 hs with rfl |hs
    ·omega
    ·have:=ih hs;unfold Bn at this;omega
  have:=this _ _ hs;rw[Ce]at this;have:=h.2.1;omega
 refine⟨?_,S5⟩;cases s with
 |co bs=>exact⟨hw,S5⟩
 |va v l n =>
  have hn:1<=n:=hw;have h0:=hb (.va v l) (List.mem_map.2 ⟨0,List.mem_range.2 hn,by simp⟩);have h1:=hb (.va v (l+(n-1))) (List.mem_map.2 ⟨n-1,List.mem_range.2 (by omega),rfl⟩);have:=h1.2;exact⟨h0.1,hn,by omega⟩
def AH4(B:ATO Bt)(hi lo:Int):Prop:=0<=lo/\lo<=hi/\hi<(B.length:Int)
instance (B:List Bt) (hi lo:Int):Decidable (AH4 B hi lo):=inferInstanceAs (Decidable (_/\_))
def Axz(A B:ATO Bt):Prop:=A.length+B.length<=4096/\(Az (B++A)).length<=2000
instance (A B:List Bt):Decidable (Axz A B):=inferInstanceAs (Decidable (_/\_))
end Go.Proofs.X
namespace Go.Proofs.X
open Go Go.Va
set_option maxRecDepth 100000
theorem wy{d:ASG}{t:ASJ}{ws:ASC}(hd:AE d)(ht:OS t)(h:Ou d t ws):Bv d (kZ d t):=by
 have:=h.1;exact(lZ hd ht h t.length (AQf _) (t.length-1) (by omega)).1
theorem kq{d:ASG}{t:ASJ}(hd:AE d)(ht:OS t)(h:(D1 d t).1=true):AeU d (kZ d t)/\(D1 d t).2=fN (kZ d t):=by
 unfold D1 at h⊢;split at h
 ·rename_i hc;rw[AQr hc];obtain⟨⟨ws,hw⟩,ga⟩:=hc;have:=hw.1;exact⟨⟨wy hd ht hw,ga _ (by omega)⟩,rfl⟩
 ·cases h
theorem X8{d:ASG}{t:ASJ}(h:0<=GV d t):∃ws,Ou d t ws :=
 Classical.byContradiction λh'=>by rw[VY h']at h;omega
def jo(d:ASG)(l:ASK)(i:Nat):Prop:=(D1 d (lS l i)).1=true/\(D1 d (lT l i)).1=true
def CF(d:ASG)(l:ASK):Prop:=∀i,i<l.length->jo d l i
theorem sE{a b:Bool}:(!a||!b)=false↔a=true/\b=true:=by cases a<;>cases b<;>decide
def yB(l:ASK)(id:Int)(i:Nat):Prop:=(li l i).1=id/\(li l i).2.1=true
def yA(l:ASK)(id g:Int):Prop:=(g=-1/\∀i,i<l.length->¬yB l id i)\/∃k:Nat,g=(k:Int)/\k<l.length/\yB l id k/\∀i,i<k->¬yB l id i
theorem yA.unique{l:ASK}{id g h:Int}(hg:yA l id g)(hh:yA l id h):g=h:=by
 rcases hg with ⟨rfl,h1⟩|⟨k,rfl,hk,hp,hn⟩
 ·rcases hh with ⟨rfl,_⟩|⟨k,rfl,hk,hp,_⟩
  ·rfl
  ·exact absurd hp (h1 k hk)
 ·rcases hh with ⟨rfl,h1⟩|⟨j,rfl,hj,hq,hm⟩
  ·exact absurd hp (h1 k hk)
  ·rcases Nat.lt_trichotomy k j with h |h |h
   ·exact absurd hp (hm k h)
   ·rw[h]
   ·exact absurd hq (hn j h)
theorem n1:Jf ⟨#[105]⟩ ⟨#[]⟩=false:=by kernel_rfl
theorem n2:Jf ⟨#[116]⟩ ⟨#[]⟩=false:=by kernel_rfl
theorem n3:Jf ⟨#[105,106]⟩ ⟨#[]⟩=false:=by kernel_rfl
theorem n4:Jf ⟨#[105,112]⟩ ⟨#[]⟩=false:=by kernel_rfl
theorem n5:Jf ⟨#[]⟩ ⟨#[]⟩=true:=by kernel_rfl
def DW(c:ASQ)(v:Nat):ASC:=c.getD v []
def Lb(l:ASC)(i:Nat):Int:=l.getD i 0
def PlP(l:ASC)(w:Int)(i:Nat):Prop:=1<=Lb l i/\Lb l i<=w-1/\(0<i->Lb l (i-1)<Lb l i)
def cw(l:ASC)(w:Int):Prop:=∀i,i<l.length->PlP l w i
def Dn(d:ASG)(c:ASQ):Prop:=c.length=d.length/\∀v,v<d.length->cw (DW c v) (dw d v)
def YB(c:ASQ):Prop:=c.length<=1048576/\∀x∈c,x.length<=1048576
theorem YB.row{c:ASQ}(h:YB c)(v:Nat):(DW c v).length<=1048576:=by
 unfold DW;by_cases hv:v<c.length
 ·exact h.2 _ (AO hv)
 ·grind
theorem oC{d:ASG}(hd:AE d){v:Nat}(hv:v<d.length):1<=dw d v/\dw d v<=4096:=(hd.2.1 v hv).2.1
theorem sQ{d:ASG}{c:ASQ}(hd:AE d)(hl:c.length=d.length){v j:Nat}(hv:v<d.length)(hj:j<(DW c v).length)(hb:(DW c v).length<=1048576)(hp:∀i,i<j->PlP (DW c v) (dw d v) i) :
    ∃b,Nn d (v:Int) (j:Int) (c,())=some b/\(b=false↔PlP (DW c v) (dw d v) j):=by
 have hw:=oC hd hv;unfold Nn;have e1:(c.getD v ATD.zero)=DW c v:=rfl;have e2:(d.getD v _).2.1=dw d v:=rfl;have e3:(DW c v).getD j ATy.zero=Lb _ j:=rfl;simp only[AQa,e1,e2,e3];rw[AQr (Bq (by omega)),AQr (Bq hj),AQr (Bq hv),Tc,BU  (by omega) (by omega)];by_cases h1:1<=Lb (DW c v) j/\Lb (DW c v) j<=dw d v-1
 ·rw[AQe h1];rcases AQx j with h0 |h0
  ·subst h0;exact⟨false,by simp,λ_=>⟨h1.1,h1.2,λh=>by omega⟩,λ_=>rfl⟩
  ·rw[MM,A6  (n:=j-1) (by omega) (by omega),AQr (Bq (by omega)),AQr (Bq hj),AQr (Bq (by omega)),AQr (Bq (by omega))];have e4:(DW c v).getD _ _=Lb _ (j-1):=rfl;refine⟨_,rfl,?_⟩;rw[AQ0];exact⟨λh=>⟨h1.1,h1.2,λ_=>Int.not_le.1 h⟩,λh=>Int.not_le.2 (h.2.2 h0)⟩
 ·rw[AQc h1];exact⟨true,rfl,λh=>by grind,λh=>(h1 ⟨h.1,h.2.1⟩).elim⟩
theorem Wt{d:ASG}{c:ASQ}(hc:YB c):Ay (Ke d (c,())) λr=>r=true↔AE d/\Dn d c:=by
 unfold Ke Rp;obtain⟨r,hr,hq⟩:=UU d;rw[hr];cases r with
 |false=>exact Ay.mk ⟨λh=>by grind,λh=>by grind⟩
 |true =>
  have hd:=hq.1 rfl;simp;by_cases hl:c.length=d.length
  ·rw[show(c.length !=(d.length:Int))=false by grind];refine Ay.bind (P:=λt=>(t=.inl ()/\¬Dn d c)\/(t=.inr ()/\Dn d c)) ?_ λt ht=>?_
   ·refine B4 (λv _=>(v:Int)) c.length (λv _=>∀u,u<v->cw (DW c u) (dw d u)) (λv _ hv hI=>?_) (λ_ hI=>?_) (s0:=()) (λu hu=>by omega)
    ·unfold JV NW;rw[Di hv];refine Ay.bind (P:=λt=>(t=.inl ()/\¬cw (DW c v) (dw d v))\/(t=.inr ()/\cw (DW c v) (dw d v))) ?_ λt ht=>?_
     ·refine B4 (λj _=>(j:Int)) (DW c v).length (λj _=>∀i,i<j->PlP (DW c v) (dw d v) i) (λj _ hj hJ=>?_) (λ_ hJ=>?_) (s0:=()) (λi hi=>by omega)
      ·unfold JU NU;obtain⟨b,h1,h2⟩:=sQ hd hl (by omega) hj (hc.row v) hJ;have e1:(c.getD v ATD.zero)=DW c v:=rfl;simp only[AQa,e1];rw[AQr (Bq hv),Di hj,h1,AP9];cases b with
       |true=>exact Ay.mk (.inl ⟨rfl,λh=>by have:=h2.2 (h j hj);cases this⟩)
       |false =>
        rw[Bp hj (hc.row v)];refine Ay.mk ⟨(),rfl,λi hi=>?_⟩
        grind
      ·unfold JU NU;have e1:(c.getD v ATD.zero)=DW c v:=rfl;simp only[AQa,e1];rw[AQr (Bq hv),Ew];exact Ay.mk (.inr ⟨rfl,hJ⟩)
     ·rcases ht with ⟨rfl,h⟩|⟨rfl,h⟩
      ·exact Ay.mk (.inl ⟨rfl,λh'=>h (h'.2 v (by omega))⟩)
      ·rw[Bp hv hc.1];refine Ay.mk ⟨(),rfl,λu hu=>?_⟩
       grind
    ·unfold JV NW;rw[Ew];exact Ay.mk (.inr ⟨rfl,hl,λv hv=>hI v (by omega)⟩)
   ·rcases ht with ⟨rfl,h⟩|⟨rfl,h⟩
    ·exact Ay.mk ⟨λh=>by grind,λh'=>absurd h'.2 h⟩
    ·exact Ay.mk ⟨λ_=>⟨hd,h⟩,λ_=>rfl⟩
  ·rw[show(c.length !=(d.length:Int))=true by grind];exact Ay.mk ⟨λh=>by grind,λh=>absurd h.2.1 hl⟩
theorem rV{d:ASG}{c:ASQ}(hc:YB c)(hd:AE d):Ay (TD d (c,())) λr=>r=true↔Dn d c:=by
 unfold TD;by_cases hl:c.length=d.length
 ·rw[show(c.length !=(d.length:Int))=false by grind];refine Ay.bind (P:=λt=>(t=.inl ()/\¬Dn d c)\/(t=.inr ()/\Dn d c)) ?_ λt ht=>?_
  ·refine B4 (λv _=>(v:Int)) c.length (λv _=>∀u,u<v->cw (DW c u) (dw d u)) (λv _ hv hI=>?_) (λ_ hI=>?_) (s0:=()) (λu hu=>by omega)
   ·unfold JF ND;have e1:(c.getD v _)=DW c v:=rfl;have hw:=oC hd (show v<d.length by omega);rw[Di hv,AQr (Bq hv)];refine Ay.bind (P:=λt=>(t=.inl ()/\¬cw (DW c v) (dw d v))\/(t=.inr ()/\cw (DW c v) (dw d v))) ?_ λt ht=>?_
    ·have:=B4 (f:=GZ d v c c.length (DW c v) ((DW c v).length)) (λj _=>((if j=0 then 0 else Lb (DW c v) (j-1)),j)) (DW c v).length (λj _=>∀i,i<j->PlP (DW c v) (dw d v) i) (Q:=λt=>(t=.inl ()/\¬cw (DW c v) (dw d v))\/(t=.inr ()/\cw (DW c v) (dw d v))) (λj _ hj hJ=>?_) (λ_ hJ=>?_) (s0:=()) (λi hi=>by omega)
     ·exact this
     ·unfold GZ NC;have e2:(d.getD v _).2.1=dw d v:=rfl;have e3:(DW c v).getD j ATy.zero=Lb _ j:=rfl;simp only[AQa,e2,e3];obtain⟨q,hq⟩:∃q:Int,q=if j=0 then 0 else Lb (DW c v) (j-1):=⟨_,rfl⟩;have hqb:0<=q/\q<=4096/\(0<j->q=Lb (DW c v) (j-1))/\(j=0->q=0):=by
       by_cases h0:j=0
       ·grind
       ·rw[AQs h0]at hq;have:=hJ (j-1) (by omega);exact⟨by have:=this.1;omega,by have:=this.2.1;omega,λ_=>hq,λh=>absurd h h0⟩
      rw[<-hq,Di hj,AQr (Bq hj),AQr (Bq (by omega)),Lu,BU (x:=dw d v-1),BU  (by omega) (by omega)];by_cases h1:q+1<=Lb (DW c v) j/\Lb (DW c v) j<=dw d v-1
      ·rw[AQe h1];rw[Bp hj (hc.row v)];refine Ay.mk ⟨(),by simp,λi hi=>?_⟩;rcases AQk i j with h |h
       ·grind
       ·rw[show i=j by omega];exact⟨by omega,h1.2,λh0=>by omega⟩
      ·rw[AQc h1];refine Ay.mk (.inl ⟨rfl,λh=>h1 ?_⟩);have:=h j hj;refine⟨?_,this.2.1⟩;rcases AQx j with h0 |h0
       ·have:=(h j hj).1;omega
       ·have:=(h j hj).2.2 h0;omega
     ·unfold GZ NC;rw[Ew];exact Ay.mk (.inr ⟨rfl,hJ⟩)
    ·rcases ht with ⟨rfl,h⟩|⟨rfl,h⟩
     ·exact Ay.mk (.inl ⟨rfl,λh'=>h (h'.2 v (by omega))⟩)
     ·rw[Bp hv hc.1];refine Ay.mk ⟨(),rfl,λu hu=>?_⟩
      grind
   ·unfold JF ND;rw[Ew];exact Ay.mk (.inr ⟨rfl,hl,λv hv=>hI v (by omega)⟩)
  ·rcases ht with ⟨rfl,h⟩|⟨rfl,h⟩
   ·exact Ay.mk ⟨λh=>by grind,λh'=>absurd h' h⟩
   ·exact Ay.mk ⟨λ_=>h,λ_=>rfl⟩
 ·rw[show(c.length !=(d.length:Int))=true by grind];exact Ay.mk ⟨λh=>by grind,λh=>absurd h.1 hl⟩
theorem wh{d:ASG}{c:ASQ}(hc:YB c):Ay (TC d (c,())) λr=>r=true↔AE d/\Dn d c:=by
 unfold TC;obtain⟨r,hr,hq⟩:=XS d;rw[hr,AP9];cases r with
 |false=>exact Ay.mk ⟨λh=>by grind,λh=>by grind⟩
 |true =>
  have hd:=hq.1 rfl;refine Ay.bind (rV hc hd) λr hr=>Ay.mk ⟨λh=>⟨hd,hr.1 h⟩,λh=>hr.2 h.2⟩
def Hv(n:Nat)(f:Nat->Bool):ASD:=(List.range n).map f
def W(d:ASG)(v:Nat):Nat:=(dw d v).toNat
def mark(f:Nat->Nat->Bool)(v p:Nat):Nat->Nat->Bool:=λu q=>f u q||(u==v&&q==p)
def M(d:ASG)(x:Nat)(f:Nat->Nat->Bool):ASR:=(List.range d.length).map λv=>Hv (W d v+x) (f v)
theorem Lh(n:Nat)(f:Nat->Bool):(Hv n f).length=n:=by simp[Hv]
theorem dJ{n:Nat}{f:Nat->Bool}{p:Nat}{z:Bool}(h:p<n):(Hv n f).getD p z=f p:=by simp[Hv,h]
theorem VG{n:Nat}{f g:Nat->Bool}(h:∀p,p<n->f p=g p):Hv n f=Hv n g:=AQY λp hp=>h p (List.mem_range.1 hp)
theorem lH(n:Nat)(f:Nat->Bool)(p:Nat):(Hv n f).set p true=Hv n λq=>f q||q==p:=by
 apply ARn;intro q;rw[AQy];by_cases hq:q<n
 ·by_cases e:p=q
  ·subst e;simp[Hv,hq]
  ·have:¬q=p:=λh=>e h.symm;simp[Hv,hq,e,this]
 ·have h1:(Hv n λq=>f q||q==p)[q]?=none:=by simp[Hv];omega
  have h2:(Hv n f)[q]?=none:=by simp[Hv];omega
  grind
theorem lG(n:Nat):Hv n (λ_=>false)=List.replicate n false:=by
 apply ARp<;>simp[Hv]
theorem Yh(d:ASG)(x:Nat)(f:Nat->Nat->Bool):(M d x f).length=d.length:=by simp[M]
theorem YK{d:ASG}{x:Nat}{f:Nat->Nat->Bool}{v:Nat}{z:ASD}(h:v<d.length):(M d x f).getD v z=Hv (W d v+x) (f v):=by simp[M,h]
theorem qs{d:ASG}{x:Nat}{f:Nat->Nat->Bool}{v p:Nat}{z:ASD}(h:v<d.length):(M d x f).set v (((M d x f).getD v z).set p true)=M d x (mark f v p):=by
 rw[YK h,lH];apply ARn;intro u;rw[AQy];by_cases hu:u<d.length
 ·by_cases e:v=u
  ·subst e;simp[M,hu,mark,Hv]
  ·have:¬u=v:=λh=>e h.symm;rw[AQs e];simp only[M,AQC,ARQ hu];exact congrArg some (VG λp _=>by simp[mark,this])
 ·have h1:(M d x (mark f v p))[u]?=none:=by simp[M];omega
  rw[h1,QK];simp[M];omega
theorem P6{d:ASG}(hd:AE d){v:Nat}(hv:v<d.length):dw d v=(W d v:Int)/\1<=W d v/\W d v<=4096:=by
 have:=oC hd hv;unfold W;omega
def C0(c:ASQ):Nat->Nat->Bool:=λv p=>(DW c v).contains (p:Int)
def Bb(w:Nat)(f:Nat->Bool):ASC:=((List.range w).filter λp=>decide (1<=p)&&f p).map Int.ofNat
def Ax(d:ASG)(f:Nat->Nat->Bool):ASQ:=(List.range d.length).map λv=>Bb (W d v) (f v)
theorem nK{w:Nat}{f g:Nat->Bool}(h:∀p,p<w->1<=p->f p=g p):Bb w f=Bb w g:=by
 unfold Bb;congr 1;refine List.filter_congr λp hp=>?_
 grind
theorem rb{d:ASG}{f g:Nat->Nat->Bool}(h:∀v p,v<d.length->p<W d v->1<=p->f v p=g v p):Ax d f=Ax d g :=
 AQY λv hv=>nK λp hp h1=>h v p (List.mem_range.1 hv) hp h1
theorem X0(w:Nat)(f:Nat->Bool)(hw:w<=1):Bb w f=[]:=by
 unfold Bb
 grind
theorem dF(w:Nat)(f:Nat->Bool)(hw:1<=w):Bb (w+1) f=if f w then Bb w f++[(w:Int)]else Bb w f:=by
 unfold Bb;rw[ARh,ASb];cases h:f w<;>simp[hw,h]
theorem Zi(w:Nat)(f:Nat->Bool):(Bb w f).length<=w:=by
 unfold Bb
 grind
theorem D7{A:Type}(g:Nat->A)(k:Nat):(List.range (k+1)).map g=(List.range k).map g++[g k]:=by rw[ARh,AQT];rfl
theorem AwL{x:Int}(h1:0<=x)(h2:x<4611686018427387904):wI x=x:=BU
theorem sH{l:ASC}{w:Int}(h:cw l w){x:Int}(hx:x∈l):1<=x/\x<=w-1:=by
 obtain⟨i,hi,rfl⟩:=ARb hx;have:=h i hi;have e:Lb l i=l[i]:=by simp[Lb,hi]
 exact⟨by have:=this.1;omega,by have:=this.2.1;omega⟩
theorem aN{l:ASC}{i:Nat}(hi:i<l.length)(q:Int):(l.take (i+1)).contains q=((l.take i).contains q||q==Lb l i):=by
 rw[A3 (z:=0) hi,List.contains_eq_any_beq,List.contains_eq_any_beq];simp[Lb]
theorem r5(a b:Nat):((a:Int)==(b:Int))=(a==b):=by
 grind
theorem dQ{d:ASG}{c:ASQ}(hd:AE d)(hc:Dn d c)(hb:YB c):Oi d (c,())=some (M d 1 (C0 c)):=by
 unfold Oi Ux;have fe:=hd.1;rw[AQ1];refine⟨_,?_,rfl⟩;have:=AW (f:=Ga d (c,())) (λv=>(v,(List.range v).map λu=>Hv (W d u+1) (C0 c u))) (t:=M d 1 (C0 c)) d.length (λv hv=>?_) ?_
 ·grind
 ·unfold Ga ME;obtain⟨e0,iO,kL⟩:=P6 hd hv;have hp:=hc.2 v hv;have e2:(d.getD v _).2.1=(W d v):=e0;simp only[AQa,e2];rw[Di hv,AQp,AQr (Bq hv),AwL  (by omega) (by omega),AQr ⟨rfl,by omega,by omega,by omega,by omega⟩];have OY:Uw d v (c,()) ((List.range v).map λu=>Hv (W d u+1) (C0 c u)) 0 (List.replicate ((W d v:Int)+1).toNat false)=some (Hv (W d v+1) (C0 c v)):=by
   have:=AW (f:=F9 d v (c,()) ((List.range v).map λu=>Hv (W d u+1) (C0 c u))) (λi=>(i,Hv (W d v+1) λp=>((DW c v).take i).contains p)) (t:=Hv (W d v+1) (C0 c v)) (DW c v).length (λi hi=>?_) ?_
   ·have e:List.replicate ((W d v:Int)+1).toNat false=Hv (W d v+1) λp=>((DW c v).take 0).contains p:=by
      rw[<-lG];exact VG λp _=>by simp
    rw[e];exact this
   ·unfold F9 MD;have e1:(c.getD v ATD.zero)=DW c v:=rfl;have e3:(DW c v).getD i ATy.zero=Lb _ i:=rfl;have hpi:=hp i hi;obtain⟨p,hpp⟩:∃p:Nat,Lb (DW c v) i=p:=⟨(Lb (DW c v) i).toNat,by have:=hpi.1;omega⟩;have vR :=by have:=hpi.2.1;omega
    simp only[AQa,e1,e3,hpp];rw[AQr (Bq (by rw[hc.1];exact hv)),Di hi,AQp,AQr (Bq (by rw[hc.1];exact hv)),AQr (Bq hi),AQr (by rw[Lh];exact Bq (by omega)),Bp hi (hb.row v),lH];have e5:(Hv _ _)=Hv (W d v+1) λq=>((DW c v).take _).contains q:=VG λq _=>by rw[aN hi,hpp,r5]
    rw[e5]
   ·unfold F9 MD;have e1:(c.getD v ATD.zero)=DW c v:=rfl;simp only[AQa,e1];rw[AQr (Bq (by rw[hc.1];exact hv)),Ew,AQj (AQf _)];rfl
  rw[OY,AP9,AQr (by grind),Bp hv (by omega),D7]
 ·unfold Ga ME;rw[Ew];rfl
theorem nR{d:ASG}(hd:AE d)(f:Nat->Nat->Bool):T2 (M d 1 f)=some (Ax d f):=by
 unfold T2 VS;have fe:=hd.1;rw[AQ1];refine⟨_,?_,rfl⟩;have:=AW (f:=Ha (M d 1 f)) (λv=>(v,(List.range v).map λu=>Bb (W d u) (f u))) (t:=Ax d f) d.length (λv hv=>?_) ?_
 ·grind
 ·unfold Ha Oh;obtain⟨e0,iO,kL⟩:=P6 hd hv;rw[Yh,Di hv,AQp];have OY:VR (M d 1 f) v ((List.range v).map λu=>Bb (W d u) (f u)) 1 []=some (Bb (W d v) (f v)):=by
   have:=AW (f:=G9 (M d 1 f) v ((List.range v).map λu=>Bb (W d u) (f u))) (λi=>(((i+1:Nat)),Bb (i+1) (f v))) (t:=Bb (W d v) (f v)) (W d v-1) (λi hi=>?_) ?_
   ·have e:Bb (0+1) (f v)=[]:=X0 _ _ (by omega);exact this
   ·unfold G9 Og;have hlen:=Zi (i+1) (f v);rw[Yh,AQr (Bq hv),AQa,YK hv,Lh,A6  (n:=i+1+1) (by omega) (by omega),Di (show i+1+1<W d v+1 by omega)];have:Nr (M d 1 f) v ((i+1:Nat)) (Bb (i+1) (f v)) ((List.range v).map λu=>Bb (W d u) (f u))=some (Bb (i+1+1) (f v)):=by
     unfold Nr;rw[Yh,AQr (Bq hv),AQa,YK hv,Lh,AQr (Bq (by omega)),AQa,dJ (by omega),dF (i+1) _ (by omega)]
     grind
    rw[this];rfl
   ·unfold G9 Og;rw[Yh,AQr (Bq hv),AQa,YK hv,Lh,A6  (n:=W d v+1) (by omega) (by omega),Ew,AQo,show W d v-1+1=W d v by omega]
  rw[OY,AP9,AQr (by grind),Bp hv (by omega),D7]
 ·unfold Ha Oh;rw[Yh,Ew];rfl
theorem zW{d:ASG}(hd:AE d){f:Nat->Nat->Bool}(hf:∀v,f v 0=false){a:ATO ASW}{c:ASG}{e:ASF} :
    M0 a (d.length:Int) c (M d 0 f) e 0 (List.replicate d.length [])=some (Ax d f):=by
 have fe:=hd.1;have:=AW (f:=C5 a d.length c (M d 0 f) e) (λv=>(v,CU (λu=>Bb (W d u) (f u)) [] d.length v)) (t:=Ax d f) d.length (λv hv=>?_) ?_
 ·rw[<-MU (λu=>Bb _ _)];exact this
 ·unfold C5 Gz;obtain⟨e0,iO,kL⟩:=P6 hd hv;rw[Di hv,AQp,AQr (by rw[Yh];exact Bq hv),AQa,YK hv,Lh];have OY:MZ v d.length c (M d 0 f) a e (Hv (W d v+0) (f v)) ((W d v+0:Nat)) 0 (CU (λu=>Bb (W d u) (f u)) [] d.length v)=some ((CU (λu=>Bb (W d u) (f u)) [] d.length v).set v (Bb (W d v) (f v))):=by
   have:=AW (f:=C4 v d.length c (M d 0 f) a e (Hv (W d v+0) (f v)) ((W d v+0:Nat))) (λi=>(i,(CU (λu=>Bb (W d u) (f u)) [] d.length v).set v (Bb i (f v)))) (t:=(CU (λu=>Bb (W d u) (f u)) [] d.length v).set v (Bb (W d v) (f v))) (W d v+0) (λi hi=>?_) ?_
   ·have e1:(CU (λu=>Bb (W d u) (f u)) [] d.length v).set v (Bb 0 (f v))=CU (λu=>Bb (W d u) (f u)) [] d.length v:=by
      apply ARn;intro u;rw[AQy];split
      ·rename_i h;subst h;simp[CU,hv,Bb]
      ·rfl
    rw[e1]at this;exact this
   ·unfold C4 Gy;have hlen:=Zi i (f v);rw[Di hi,AQp];have:Fs v d.length (Hv (W d v+0) (f v)) ((W d v+0:Nat)) i c (M d 0 f) a e ((CU (λu=>Bb (W d u) (f u)) [] d.length v).set v (Bb i (f v)))=some ((CU (λu=>Bb (W d u) (f u)) [] d.length v).set v (Bb (i+1) (f v))):=by
     unfold Fs Iu;have Xg:((CU (λu=>Bb (W d u) (f u)) [] d.length v).set v (Bb i (f v))).getD v ATD.zero=Bb i (f v):=by
      simp[Ih,hv]
     rw[Lh,AQr (Bq hi)];simp only[AQa,Xg,AQi,Ih,ASe];rw[dJ hi];rcases AQx i with h0 |h0
     ·subst h0;rw[hf v,AQo];have e1:Bb 0 (f v)=Bb (0+1) (f v):=by rw[X0 0 _ (by omega),X0 _ _ (by omega)]
      rw[e1]
     ·rw[dF _ _ h0]
      grind
    rw[this,AP9,Bp hi (by omega)]
   ·unfold C4 Gy;rw[Ew];rfl
  rw[OY,AP9,Qq,Bp hv (by omega)]
 ·unfold C5 Gz;rw[Ew,AQo];have:CU (λu=>Bb (W d u) (f u)) [] d.length d.length=Ax d f:=by
   exact AQY λv hv=>by grind
  rw[this]
def frs(s:Sg):ASD:=(List.range s.w).map (·==0)
def spot(s:Sg)(k:Nat):ASr:=if k=0 then(0,0,0,())else match s with |.co _=>(2,0,0,())|.va v l _=>(1,(v:Int),((l+k:Nat):Int),())
def spt(s:Sg):ASH:=(List.range s.w).map (spot s)
def Ym(f:ATO Sg):ASD:=f.flatMap frs
def ei(f:ATO Sg):ASH:=f.flatMap spt
theorem Vj{A:Type}{F:Sg->ATO A}(hF:∀s,(F s).length=s.w)(f:ATO Sg):(f.flatMap F).length=Bn f:=by
 rw[List.length_flatMap];exact congrArg _ (AQY λs _=>hF s)
theorem rB(s:Sg):(frs s).length=s.w:=by simp[frs]
theorem sU(s:Sg):(spt s).length=s.w:=by simp[spt]
theorem ZJ{A:Type}(F:Sg->ATO A){f:ATO Sg}{i:Nat}(hi:i<f.length):(f.take (i+1)).flatMap F=(f.take i).flatMap F++F (f.getD i (.co [])):=by
 rw[A3 (z:=.co []) hi];simp
theorem flat_get{A:Type}{F:Sg->ATO A}(hF:∀s,(F s).length=s.w){f:ATO Sg}{i k:Nat}{z:A}(hi:i<f.length)(hk:k<(f.getD i (.co [])).w):(f.flatMap F).getD (Bn (f.take i)+k) z=(F (f.getD i (.co []))).getD k z:=by
 have e:f.flatMap F=(f.take i).flatMap F++(F (f.getD i (.co []))++(f.drop (i+1)).flatMap F):=by
  rw[<-AQh,<-ZJ F hi,<-ARR,ARj]
 rw[e];simp;rw[AQv (by rw[Vj hF];omega),Vj hF,show Bn _+k-Bn _=k by omega,AQw (by grind)]
theorem Ai4:∀{f:ATO Sg} {p:Nat},p<Bn f->∃i k,i<f.length/\k<(f.getD i (.co [])).w/\p=Bn (f.take i)+k
 |[],p,h=>by simp[Bn]at h
 |s::f,p,h=>by
  have e:Bn (s::f)=s.w+Bn f:=by simp[Bn]
  by_cases hp:p<s.w
  ·exact⟨0,p,by simp,by grind,by simp[Bn]⟩
  ·obtain⟨i,k,h1,h2,h3⟩:=Ai4 (f:=f) (p:=p-s.w) (by omega);refine⟨i+1,k,by grind,by grind,?_⟩;have:Bn ((s::f).take (i+1))=s.w+Bn (f.take i):=by simp[Bn]
   omega
theorem ZY{f:ATO Sg}{i:Nat}(hi:i<f.length):Bn (f.take i)+(f.getD i (.co [])).w<=Bn f:=by
 rw[<-FA hi];exact Fj f _
theorem Gk{A:Type}{g:Nat->A}{n k:Nat}{z:A}(h:k<n):((List.range n).map g).getD k z=g k:=by grind
theorem TQ{f:ATO Sg}{i k:Nat}(hi:i<f.length)(hk:k<(f.getD i (.co [])).w) :
    (Dz f).getD (Bn (f.take i)+k) (.co false)=(f.getD i (.co [])).bits.getD k (.co false)/\(Ym f).getD (Bn (f.take i)+k) false=(k==0)/\(ei f).getD (Bn (f.take i)+k) Ae.zero=spot (f.getD i (.co [])) k:=by
 refine⟨flat_get Iq hi hk,?_,?_⟩
 ·unfold Ym;rw[flat_get rB hi hk];exact Gk hk
 ·unfold ei;rw[flat_get sU hi hk];exact Gk hk
theorem xq{f:ATO Sg}(h1:Z8 f)(hf:∀s∈f,WW s)(hw:Bn f<=4096):Kh (fV f)=some (bV (Dz f),Ym f):=by
 unfold Kh;have hlen:=CX h1;rw[oZ h1 hf hw,AP9];have:VW (fV f) (bV (Dz f)) 0 []=some (Ym f):=by
  have:=AW (f:=He (fV f) (bV (Dz f))) (λi=>(i,Ym (f.take i))) (t:=Ym f) f.length (λi hi=>?_) ?_
  ·exact this
  ·unfold He Om;rw[Cm,Di hi,AQp];have he:=ZY hi;have Gh:VU (fV f) i (bV (Dz f)) 0 (Ym (f.take i))=some (Ym (f.take (i+1))):=by
    have:=AW (f:=Hd (fV f) i (bV (Dz f))) (λk=>(k,Ym (f.take i)++(List.range k).map (·==0))) (t:=Ym (f.take (i+1))) (f.getD i (.co [])).w (λk hk=>?_) ?_
    ·rw[show Ym _=Ym (f.take i)++(List.range 0).map _ by simp];exact this
    ·unfold Hd Ol;simp only[AQa,gW hi,Zl];have hl:(Ym (f.take i)++(List.range k).map (·==0)).length=Bn (f.take i)+k:=by
      rw[AQd,show(Ym _).length=Bn _ from Vj rB _];simp
     rw[Cm,AQr (Bq hi),Di hk,AQp,AQr (by grind),Bp hk (by omega),D7,AQh,show((k:Int)==0)=(k==0)from r5 k 0]
    ·unfold Hd Ol;simp only[AQa,gW hi,Zl];rw[Cm,AQr (Bq hi),Ew];unfold Ym;rw[ZJ frs hi];rfl
   rw[Gh,AP9,Bp hi (by omega)]
  ·unfold He Om;rw[Cm,Ew,AQo,AQj (AQf _)]
 rw[this];rfl
theorem rZ{f:ATO Sg}(h1:Z8 f)(hf:∀s∈f,WW s)(hw:Bn f<=4096):Kw (fV f)=some (ei f):=by
 unfold Kw;have hlen:=CX h1;have:Pr (fV f) ((fV f).length:Int) 0 []=some (ei f):=by
  unfold Pr;rw[Cm];have:=AW (f:=FO (fV f) (f.length:Int)) (λi=>((i:Int),ei (f.take i))) (t:=ei f) f.length (λi hi=>?_) ?_
  ·exact this
  ·unfold FO Ma;simp only[AQa,gW hi];have hwt:=Fj f i;have he:=ZY hi;have h1i:=h1 _ (AO (z:=.co []) hi);have hfi:=hf _ (AO (z:=.co []) hi);have ia:(ei (f.take i)).length=Bn (f.take i):=Vj sU _;rw[Cm,Di hi,AQp,AQr (Bq hi),AQr (by rw[ia];simp;omega)];have Gh:Pq (fV f) (f.length:Int) (i:Int) (Ik (f.getD i (.co []))) 1 (ei (f.take i)++[(0,0,0,())])=some (ei (f.take (i+1))):=by
    unfold Pq;have:=AW (f:=FN (fV f) (f.length:Int) (i:Int) (Ik (f.getD i (.co [])))) (λk=>(((k+1:Nat):Int),ei (f.take i)++(List.range (k+1)).map (spot (f.getD i (.co []))))) (t:=ei (f.take (i+1))) ((f.getD i (.co [])).w-1) (λk hk=>?_) ?_
    ·exact this
    ·unfold FN L9;simp only[Zl];have hl:(ei (f.take i)++(List.range (k+1)).map (spot (f.getD i (.co [])))).length=Bn (f.take i)+(k+1):=by
      rw[AQd,ia];simp
     rw[Di (show k+1<(f.getD i (.co [])).w by omega),AQp];have:Le ((k+1:Nat):Int) (fV f) (f.length:Int) (i:Int) (ei (f.take i)++(List.range (k+1)).map (spot (f.getD i (.co [])))) (Ik (f.getD i (.co [])))=some (ei (f.take i)++(List.range (k+1+1)).map (spot (f.getD i (.co [])))):=by
      unfold Le;rw[D7 _ (k+1),<-AQh];cases hs:f.getD i (.co [])with
      |co b =>
       rw[hs]at hl;rw[show((Ik (.co b)).1==-1)=true from rfl,AQp,AQr (by rw[hl];simp;omega)];rfl
      |va v l n =>
       rw[hs]at hl hk hfi he;simp only[Sg.w,WW]at hk hfi he;rw[show((Ik (.va v l n)).1==-1)=false from beq_eq_false_iff_ne.2 (show(v:Int)≠-1 by omega),AQo,AQr (by rw[hl];simp;omega)];rw[show wI ((Ik (.va v l n)).2.1+((k+1:Nat):Int))=((l+(k+1):Nat):Int)from A6 (by show(l:Int)+((k+1:Nat):Int)=_;omega) (by omega)];rfl
     rw[this,AP9,A6 (x:=((k+1:Nat):Int)+1) (n:=k+1+1)]
    ·unfold FN L9;simp only[Zl];rw[show(f.getD i (.co [])).w-1+1=(f.getD i (.co [])).w by omega,Ew,AQo];unfold ei;rw[ZJ spt hi];rfl
   rw[Gh,AP9,Bp hi (by omega)]
  ·unfold FO Ma;simp only;rw[Ew,AQo,AQj (AQf _)]
 rw[this];rfl
def fst(B:ATO Bt)(p:Nat):Bool:=(Ym (Az B)).getD p false
def LC(B:ATO Bt)(p:Nat):Bt:=B.getD p (.co false)
def Adr(h:Nat->Nat->Bool):Bt->Bool
 |.co _=>false
 |.va v a=>h v a
def kP:Bt->Bool
 |.co _=>false
 |.va _ _=>true
def T5(B:ATO Bt)(h:Nat->Nat->Bool)(p:Nat):Bool:=fst B p||Adr h (LC B p)
theorem sB{d:ASG}{B:ATO Bt}(hd:AE d)(h:Bv d B):Z8 (Az B)/\(∀s∈Az B,WW s)/\Bn (Az B)=B.length :=
 ⟨CM B,Qh (λb hb=>eG (Sk hd (h.2.2 b hb))) h.2.1,Ce B⟩
theorem AiP{d:ASG}{B:ATO Bt}(hd:AE d)(h:Bv d B):Kh (fN B)=some (bV B,Ym (Az B)):=by
 obtain⟨h1,h2,h3⟩:=sB hd h;have:=xq h1 h2 (by rw[h3];exact h.2.1);rw[EP]at this;exact this
theorem AjF{d:ASG}{B:ATO Bt}(hd:AE d)(h:Bv d B):Kw (fN B)=some (ei (Az B)):=by
 obtain⟨h1,h2,h3⟩:=sB hd h;exact rZ h1 h2 (by rw[h3];exact h.2.1)
theorem Abz(B:ATO Bt):(Ym (Az B)).length=B.length:=by rw[show(Ym _).length=Bn _ from Vj rB _,Ce]
theorem iY(B:ATO Bt):(ei (Az B)).length=B.length:=by rw[show(ei _).length=Bn _ from Vj sU _,Ce]
theorem jB{d:ASG}{B:ATO Bt}(h:Bv d B){p:Nat}(hp:p<B.length):∃i k,i<(Az B).length/\k<((Az B).getD i (.co [])).w/\p=Bn ((Az B).take i)+k/\V8 d ((Az B).getD i (.co [])) /\
    LC B p=((Az B).getD i (.co [])).bits.getD k (.co false)/\fst B p=(k==0)/\(ei (Az B)).getD p Ae.zero=spot ((Az B).getD i (.co [])) k:=by
 obtain⟨i,k,h1,h2,rfl⟩:=Ai4   (by rw[Ce];exact hp);obtain⟨e1,e2,e3⟩:=TQ h1 h2;rw[EP]at e1;exact⟨i,k,h1,h2,rfl,(Zk h (AO h1)).1,e1,e2,e3⟩
theorem Z2{v l n k:Nat}(h:k<n):(Sg.va v l n).bits.getD k (.co false)=.va v (l+k):=by simp[Sg.bits,h]
theorem cL{b:ASD}{k:Nat}(h:k<b.length):(Sg.co b).bits.getD k (.co false)=.co (b.getD k false):=by simp[Sg.bits,h]
theorem Z0{d:ASG}{B:ATO Bt}(h:Bv d B){p:Nat}(hp:p<B.length):(fst B p=true/\(ei (Az B)).getD p Ae.zero=(0,0,0,())) \/
    (fst B p=false/\((∃b,LC B p=.co b)/\(ei (Az B)).getD p Ae.zero=(2,0,0,())\/∃v a,LC B p=.va v a/\v<d.length/\1<=a/\a<W d v/\(ei (Az B)).getD p Ae.zero=(1,(v:Int),(a:Int),()))):=by
 obtain⟨i,k,h1,h2,h3,h4,h5,h6,h7⟩:=jB h hp;rw[h5,h6,h7];rcases AQx k with h0 |h0
 ·subst h0;exact .inl ⟨rfl,rfl⟩
 ·refine .inr ⟨by grind,?_⟩;have hk:¬k=0:=by omega
  cases hs:(Az B).getD i _ with
  |co b =>
   rw[hs]at h2;exact .inl ⟨⟨_,cL h2⟩,by simp[spot,hk]⟩
  |va v l n =>
   rw[hs]at h2 h4;simp only[Sg.w,V8]at h2 h4;exact .inr ⟨v,l+k,Z2 h2,h4.1,by omega,by unfold W;omega,by simp[spot,hk]⟩
theorem AfQ{d:ASG}{B:ATO Bt}(h:Bv d B){p:Nat}(hp:p<B.length):LU d (LC B p):=h.2.2 _ (AO hp)
theorem SG{d:ASG}(hd:AE d){B:ATO Bt}(h:Bv d B){f:Nat->Nat->Bool}{p:Nat}(hp:p<B.length):Ez (bV B,Ym (Az B),()) (M d 1 f) (p:Int)=some (T5 B f p):=by
 unfold Ez;have e1:(Ym _).getD p (Ty.zero .bool)=fst B p:=rfl;have e2:(bV B).getD p _=Wa (LC B p):=cC hp;simp only[AQa,e1,e2];rw[Abz,CR,AQr (Bq hp)];unfold T5;cases fst B p with
 |true=>rfl
 |false =>
  rw[AQr (Bq hp)];have hb:=AfQ h hp;cases hbb:LC B p with
  |co b=>rfl
  |va v a =>
   rw[hbb]at hb;obtain⟨h1,h2⟩:=hb;obtain⟨hw,_,_⟩:=P6 hd h1;rw[show(Wa _).1=v from rfl,show(Wa _).2.1=a from rfl,show decide ((v:Int)>=0)=true from MM,AQr (Bq hp),Yh,AQr (Bq h1),AQr (Bq hp),AQa,YK h1,Lh,AQr (Bq (by omega)),dJ (by omega)];rfl
theorem xt{d:ASG}(hd:AE d){B:ATO Bt}(h:Bv d B){f:Nat->Nat->Bool}{p:Nat}(hp:p<B.length):J5 (bV B,Ym (Az B),()) (M d 1 f) (p:Int)=some (!T5 B f p&&kP (LC B p)):=by
 unfold J5;have e2:(bV B).getD p _=Wa (LC B p):=cC hp;rw[SG hd h hp,AP9];simp only[AQa,e2];cases T5 B f p with
 |true=>rfl
 |false =>
  rw[CR,ARu,AQr (Bq hp)];cases LC B p with
  |co b=>rfl
  |va v a =>
   rfl
section
variable {kt vt:Ty}
theorem pB(hr:∀x:kt.V,Bm kt x x=true)(k:kt.V)(v:vt.V):∀es:ATO (kt.V×vt.V),YF kt vt (Cs kt vt es k v) k=YF kt vt es k/\Ul kt vt (Cs kt vt es k v) k=true
 |[]=>by simp[Cs,YF,Ul,O9,hr]
 |x::es=>by
  obtain⟨h1,h2⟩:=pB hr k v es;unfold Cs;cases hx:Bm kt k x.1 with
  |true=>simp[YF,Ul,O9,hr,hx]
  |false =>
   unfold Ul at h2⊢;simp only[YF,O9,hx,AQo];exact⟨by omega,h2⟩
theorem kl(hr:∀x:kt.V,Bm kt x x=true)(k:kt.V)(v:vt.V)(es:ATO (kt.V×vt.V)):W9 kt vt (Cs kt vt es k v) k (Yv kt vt es k)=true:=by
 obtain⟨h1,h2⟩:=pB hr k v es;unfold W9 Yv;rw[h1,h2];simp
theorem XX(he:∀x y:kt.V,Bm kt x y=true↔x=y)(k k':kt.V)(v:vt.V):∀es:ATO (kt.V×vt.V),O9 kt vt (Cs kt vt es k v) k'=bif Bm kt k' k then some v else O9 kt vt es k'
 |[]=>by simp[Cs,O9]
 |x::es=>by
  unfold Cs;cases hx:Bm kt k x.1 with
  |true =>
   have:=(he _ _).1 hx;simp only[AQp,O9]
   grind
  |false =>
   simp only[AQo,O9];rw[XX he k k' v es]
   grind
theorem ft(he:∀x y:kt.V,Bm kt x y=true↔x=y)(k k':kt.V)(v:vt.V)(es:ATO (kt.V×vt.V)):BA kt vt (Cs kt vt es k v) k'=bif Bm kt k' k then v else BA kt vt es k':=by
 unfold BA;rw[XX he];cases Bm kt k' k<;>rfl
end
theorem il(x y:ASp):Bm Aa x y=true↔x=y:=by
 obtain⟨a,b,_⟩:=x;obtain⟨a',b',_⟩:=y;simp[Bm]
theorem ZQ(x:ASp):Bm Aa x x=true:=(il x x).2 rfl
def aI(d:ASG):ATO (Nat×Nat):=(List.range d.length).flatMap λv=>(List.range (W d v)).map λp=>(v,p)
def free(d:ASG)(f:Nat->Nat->Bool):Nat:=(aI d).countP λx=>!f x.1 x.2
theorem AdU{d:ASG}{v p:Nat}(hv:v<d.length)(hp:p<W d v):(v,p)∈aI d :=
 List.mem_flatMap.2 ⟨v,List.mem_range.2 hv,List.mem_map.2 ⟨p,List.mem_range.2 hp,rfl⟩⟩
theorem XL{A:Type}{F:Nat->ATO A}{m:Nat}:∀{n:Nat},(∀v,v<n->(F v).length<=m)->((List.range n).flatMap F).length<=m*n
 |0,_=>by simp
 |n+1,h=>by
  rw[ARh,ARR,AQd,Nat.mul_succ];have h1:=XL (n:=n) λv hv=>h v (by omega)
  grind
theorem Amc{d:ASG}(hd:AE d)(f:Nat->Nat->Bool):free d f<=245760:=by
 have h1:(aI d).length<=4096*d.length:=XL λv hv=>by simp;exact(P6 hd hv).2.2
 have h2:=List.countP_le_length (p:=λx =>!f x.1 x.2) (l:=aI d);have:=hd.1;unfold free;omega
theorem eO{A:Type}{q q':A->Bool}:∀{l:ATO A} {x:A},(∀y,q' y=true->q y=true)->x∈l->q x=true->q' x=false->l.countP q'+1<=l.countP q
 |[],_,_,h,_,_=>by grind
 |y::l,x,hq,h,h1,h2=>by
  have S5:l.countP q'<=l.countP q:=List.countP_mono_left λy _=>hq y;rw[List.countP_cons,List.countP_cons];rcases List.mem_cons.1 h with e |h
  ·grind
  ·have:=eO hq h h1 h2
   grind
theorem eZ{d:ASG}{f:Nat->Nat->Bool}{v p:Nat}(hv:v<d.length)(hp:p<W d v)(h:f v p=false):free d (mark f v p)+1<=free d f :=
 eO (λy hy=>by simp[mark]at hy⊢;exact hy.1) (AdU hv hp) (by grind) (by simp[mark])
abbrev SC:Type:=(Nat->Nat->Bool)×ASF
open Classical in
noncomputable def ML(d:ASG)(s:SC)(v p:Nat):SC:=if 0<p/\p<W d v/\s.1 v p=false then(mark s.1 v p,s.2++[((v:Int),(p:Int),())])else s
theorem gj{d:ASG}(hd:AE d){v p:Nat}(hv:v<d.length){r:Nat->Bool}{t:ASR}{g:ASF}{a:Int}(ht:t.length=d.length)(hr:t.getD v ATF.zero=Hv (W d v) r)(hg:g.length<=1000000) :
    BQ a (v:Int) (p:Int) d t g=some (if 0<p/\p<W d v/\r p=false then(d,t.set v ((Hv (W d v) r).set p true),g++[((v:Int),(p:Int),())])else(d,t,g)):=by
 obtain⟨e0,iO,kL⟩:=P6 hd hv;have e2:(d.getD v Ab.zero).2.1=(W d v:Int):=e0;have key:Hp a (v:Int) (p:Int) d t g=some (decide (0<p/\p<W d v/\r p=false)):=by
  unfold Hp;simp only[AQa,e2,hr];rcases AQx p with h0 |h0
  ·grind
  ·rw[show decide ((p:Int)>0)=true from MM,AQr (Bq hv)];by_cases hp:p<W d v
   ·rw[AQr (by grind),AQr (by rw[Lh];exact Bq hp),dJ hp];cases r p<;>simp[h0,hp]
   ·grind
 unfold BQ;rw[key,AP9];by_cases h:0<p/\p<W d v/\r p=false
 ·rw[AQe h,AQp,AQr h];simp only[AQa,hr];rw[AQr (by grind),AQr (by rw[Lh];omega),AQr (by grind)]
 grind
theorem Vk{d:ASG}(hd:AE d){v p:Nat}(hv:v<d.length)(s:SC){a:Int}(hg:s.2.length<=1000000):BQ a (v:Int) (p:Int) d (M d 0 s.1) s.2=some (d,M d 0 (ML d s v p).1,(ML d s v p).2):=by
 rw[gj hd hv (Yh _ _ _) (YK hv) hg];unfold ML;by_cases h:0<p/\p<W d v/\s.1 v p=false
 ·rw[AQr h,AQr h];have:=qs (x:=0) (f:=s.1) (p:=p) (z:=[]) hv;rw[YK hv]at this;rw[<-this];rfl
 ·grind
structure CI (d:ASG) (f0:Nat->Nat->Bool) (s:SC):Prop where
 le:∀v p,f0 v p=true->s.1 v p=true
 ak:∀v p,s.1 v p=true->v<d.length/\1<=p/\p<W d v
 Bi:∀x∈s.2,∃v p:Nat,x=((v:Int),(p:Int),())/\s.1 v p=true
 len:s.2.length+free d s.1<=500000
def uf(s:SC):Prop:=∀v p,s.1 v p=true->((v:Int),(p:Int),())∈s.2
def QM(f g:Nat->Nat->Bool):Prop:=∀v p,f v p=true->g v p=true
def Hit(d:ASG)(f:Nat->Nat->Bool)(v p:Nat):Prop:=0<p->p<W d v->f v p=true
theorem Hit.mono{d:ASG}{f g:Nat->Nat->Bool}(h:QM f g){v p:Nat}(hh:Hit d f v p):Hit d g v p:=λh1 h2=>h v p (hh h1 h2)
theorem Fw{f:Nat->Nat->Bool}{v p u q:Nat}:mark f v p u q=true↔f u q=true\/(u=v/\q=p):=by simp[mark]
theorem aZ{d:ASG}(s:SC)(v p:Nat):QM s.1 (ML d s v p).1:=λu q h=>by
 unfold ML;split
 ·exact Fw.2 (.inl h)
 ·omega
theorem cQ{d:ASG}(s:SC)(v p:Nat):Hit d (ML d s v p).1 v p:=λh1 h2=>by
 unfold ML;split
 ·exact Fw.2 (.inr ⟨rfl,rfl⟩)
 grind
theorem cS{d:ASG}{s:SC}{v p:Nat}{h:Nat->Nat->Bool}(hu:QM s.1 h)(hh:Hit d h v p):QM (ML d s v p).1 h:=λu q hq=>by
 unfold ML at hq;split at hq
 ·rename_i hc;rcases Fw.1 hq with h1 |⟨rfl,rfl⟩
  ·exact hu u q h1
  ·exact hh hc.1 hc.2.1
 ·exact hu u q hq
theorem CI.cut{d:ASG}{f0:Nat->Nat->Bool}{s:SC}(h:CI d f0 s){v p:Nat}(hv:v<d.length):CI d f0 (ML d s v p):=by
 refine⟨λu q hq=>aZ s v p u q (h.le u q hq),λu q hq=>?_,λx hx=>?_,?_⟩
 ·unfold ML at hq;split at hq
  ·rename_i hc;rcases Fw.1 hq with h1 |⟨rfl,rfl⟩
   ·exact h.ak u q h1
   ·omega
  ·exact h.ak u q hq
 ·unfold ML at hx⊢;split at hx
  ·rename_i hc;rw[AQr hc];rcases List.mem_append.1 hx with hx |hx
   ·obtain⟨u,q,e,h1⟩:=h.Bi x hx;exact⟨u,q,e,Fw.2 (.inl h1)⟩
   ·rw[AQA]at hx;exact⟨v,p,hx,Fw.2 (.inr ⟨rfl,rfl⟩)⟩
  ·rename_i hc;rw[AQs hc];exact h.Bi x hx
 ·unfold ML;split
  ·rename_i hc;have:=eZ hv hc.2.1 hc.2.2;have:=h.len
   grind
  ·exact h.len
theorem uf.cut{d:ASG}{s:SC}(h:uf s){v p:Nat}:uf (ML d s v p):=λu q hq=>by
 unfold ML at hq⊢;split
 ·rename_i hc;rw[AQr hc]at hq;rcases Fw.1 hq with h1 |⟨rfl,rfl⟩
  ·exact AQH _ (h u q h1)
  grind
 ·rename_i hc;rw[AQs hc]at hq;exact h u q hq
theorem Aan{l:ASC}{w:Int}(h:cw l w):∀{j i:Nat},i<j->j<l.length->Lb l i<Lb l j
 |j+1,i,zJ,hj=>by
  have h1:=(h _ hj).2.2 (by omega);simp only[AQM]at h1;rcases AQk i j with h2 |h2
  ·have:=Aan h h2 (by omega);omega
  grind
theorem Ai3{l:ASC}{w:Int}(h:cw l w):∀{i:Nat},i<l.length->((i:Int)+1)<=Lb l i
 |0,hi=>by have:=(h 0 hi).1;omega
 |i+1,hi=>by
  have h1:=Ai3 h (i:=i) (by omega);have h2:=(h _ hi).2.2 (by omega)
  grind
theorem Wr{l:ASC}{w:Int}(h:cw l w)(hw:1<=w):(l.length:Int)<=w:=by
 rcases AQx l.length with h0 |h0
 ·omega
 ·have h1:=Ai3 h (i:=l.length-1) (by omega);have h2:=(h (l.length-1) (by omega)).2.1;omega
theorem AjL{l:ASC}{w:Int}(h:cw l w){i:Nat}(hi:i<l.length):(l.take i).contains (Lb l i)=false:=by
 rw[Bool.eq_false_iff];intro hc;have hm:Lb l i∈l.take i:=by grind
 obtain⟨j,hj,e⟩:=ARb hm;rw[AQu]at hj;rw[List.getElem_take]at e;have h1:=Aan h (i:=j)  (by omega) hi;have h2:Lb l j=l[j]'(by omega):=by simp[Lb,show j<l.length by omega]
 omega
def g0(c:ASQ)(n:Nat):ASF:=(List.range n).flatMap λv=>(DW c v).map λp=>((v:Int),p,())
theorem sw{d:ASG}{c:ASQ}(hd:AE d)(hc:Dn d c)(hb:YB c):M4 d (c,())=some (0,d,M d 0 (C0 c),[],g0 c d.length):=by
 have fe:=hd.1;have hgl:∀n,n<=d.length->(g0 c n).length<=4096*n:=λn hn=>XL λv hv=>by
  obtain⟨e0,iO,kL⟩:=P6 hd (show v<d.length by omega);have:=Wr (hc.2 v (by omega)) (by omega);rw[AQl];omega
 unfold M4;rw[AQr ⟨rfl,by omega,by omega,by omega,by omega⟩,AQa];have:Q3 d (c,()) d.length 0 d (List.replicate d.length []) []=some (d,M d 0 (C0 c),g0 c d.length):=by
  have:=AW (f:=El d (c,()) d.length) (λv=>(v,d,CU (λu=>Hv (W d u+0) (C0 c u)) [] d.length v,g0 c v)) (t:=(d,M d 0 (C0 c),g0 c d.length)) d.length (λv hv=>?_) ?_
  ·rw[<-MU (λu=>Hv _ _)];exact this
  ·unfold El Jq;obtain⟨e0,iO,kL⟩:=P6 hd hv;have hp:=hc.2 v hv;have e1:(c.getD v ATD.zero)=DW c v:=rfl;have e2:(d.getD v _).2.1=(W d v):=e0;simp only[AQa,e1,e2];rw[Di hv,AQp,AQr (Bq hv),AQr (show Ty.row _=true/\0<=(W d v:Int)/\(W d v)<=(W d v:Int)/\((1:Nat))*(W d v:Int)<=281474976710656/\(W d v:Int)<=9223372036854775807 from⟨rfl,by omega,by omega,by omega,by omega⟩),Ih,AQr (Bq hv),AQr (Bq (by rw[hc.1];exact hv))];have hrl :=by have:=Wr hp (by omega);omega
   have Gh:Q2 v d d.length (c,()) (DW c v) ((DW c v).length) 0 d ((CU (λu=>Hv (W d u+0) (C0 c u)) [] d.length v).set v (List.replicate (W d v) false)) (g0 c v)=some (d,CU (λu=>Hv (W d u+0) (C0 c u)) [] d.length (v+1),g0 c (v+1)):=by
    have:=AW (f:=Ej v d d.length (c,()) (DW c v) ((DW c v).length)) (λi=>(i,d,(CU (λu=>Hv (W d u+0) (C0 c u)) [] d.length v).set v (Hv (W d v) λp=>((DW c v).take i).contains p),g0 c v++((DW c v).take i).map λp=>((v:Int),p,()))) (t:=(d,CU (λu=>Hv (W d u+0) (C0 c u)) [] d.length (v+1),g0 c (v+1))) (DW c v).length (λi hi=>?_) ?_
    ·have e:List.replicate (W d v) false=Hv (W d v) λp=>((DW c v).take 0).contains p:=by
       rw[<-lG];exact VG λp _=>by simp
     rw[e,show g0 c v=g0 c v++((DW c v).take 0).map _ by simp];exact this
    ·unfold Ej Jp;have hpi:=hp i hi;obtain⟨p,hpp⟩:∃p:Nat,Lb (DW c v) i=p:=⟨(Lb (DW c v) i).toNat,by have:=hpi.1;omega⟩;have vR:p<W d v:=by have:=hpi.2.1;omega
     have e3:(DW c v).getD i ATy.zero=p:=hpp;have ah:=AjL hp hi;rw[hpp]at ah;simp only[AQa,e3];rw[Di hi,AQr (Bq hi),gj hd hv (r:=λp=>((DW c v).take i).contains p) (by rw[AQi,Ih]) (by simp[Ih,hv]) (by grind),AQr ⟨by have:=hpi.1;omega,vR,ah⟩,Bp hi (by omega),ASe,lH];have e5:(Hv _ _)=Hv (W d v) λq=>((DW c v).take _).contains q:=VG λq _=>by rw[aN hi,hpp,r5]
     rw[e5,A3  hi,AQT,<-AQh,show(DW c v).getD i 0=p from hpp];rfl
    ·unfold Ej Jp;rw[Ew,AQo,AQj (AQf _)];have e6:(CU (λu=>Hv (W d u+0) (C0 c u)) [] _ v).set v (Hv (W d v) λp=>(DW c v).contains p)=CU (λu=>Hv _ _) [] d.length _:=Qq _ _;have e7:g0 c v++(DW c v).map (λp=>((v:Int),p,()))=g0 c (v+1):=by
      unfold g0;rw[ARh];simp
     rw[e6,e7]
   rw[Gh,AP9,Bp hv (by omega)]
  ·unfold El Jq;rw[Ew,AQo];have:CU (λu=>Hv (W d u+0) (C0 c u)) [] d.length d.length=M d 0 (C0 c):=by
    exact AQY λv hv=>by grind
   rw[this]
 rw[this];rfl
theorem yr{d:ASG}{c:ASQ}(hd:AE d)(hc:Dn d c){v p:Nat}(h:C0 c v p=true):v<d.length/\1<=p/\p<W d v:=by
 have hm :=by simpa [C0]using h
 have hv:v<d.length:=by
  rw[<-hc.1];rcases AQk v c.length with h1 |h1
  ·grind
  ·unfold DW at hm
   grind
 obtain⟨e0,iO,kL⟩:=P6 hd hv;have:=sH (hc.2 v hv) hm;exact⟨hv,by omega,by omega⟩
theorem AjI{d:ASG}{c:ASQ}(hd:AE d)(hc:Dn d c):CI d (C0 c) (C0 c,g0 c d.length)/\uf (C0 c,g0 c d.length):=by
 refine⟨⟨λ_ _ h=>h,λv p h=>yr hd hc h,λx hx=>?_,?_⟩,λv p h=>?_⟩
 ·obtain⟨v,hv,hx⟩:=List.mem_flatMap.1 hx;obtain⟨q,hq,rfl⟩:=List.mem_map.1 hx;have hq1:=sH (hc.2 v (List.mem_range.1 hv)) hq;refine⟨v,q.toNat,by grind,?_⟩;simp only[C0]
  grind
 ·have h1:=Amc hd (C0 c);have h2:(g0 c _).length<=4096*d.length:=XL λv hv=>by
   obtain⟨e0,iO,kL⟩:=P6 hd hv;have:=Wr (hc.2 v hv) (by omega);rw[AQl];omega
  have:=hd.1;simp only;omega
 ·have:=yr hd hc h;exact List.mem_flatMap.2 ⟨v,List.mem_range.2 this.1,List.mem_map.2 ⟨p,by simpa [C0]using h,rfl⟩⟩
def pe(x y:Nat):Nat->Nat
 |0=>0
 |1=>x
 |_=>x+y
def pq{A:Type}(x y:ATO A):Nat->ATO A
 |0=>[]
 |1=>x
 |_=>x++y
theorem qY{a b:ASI}(h0:1<=a.length)(ha:a.length<=100000000)(hb:b.length<=100000000):IK [a,b]=some (a++b):=by
 unfold IK;have iL:([a,b]).length=2:=rfl;have h1:Ni [a,b] (([a,b]).length) 0 0=some (((a.length+b.length:Nat):Int)):=by
  have:=AW (f:=C9 [a,b] (([a,b]).length)) (λk=>((pe a.length b.length k),k)) (t:=(((a.length+b.length)))) 2 (λk hk=>?_) ?_
  ·exact this
  ·unfold C9 GI IL;simp only[AQa];rw[iL,Di hk,AQr (Bq hk)]
   match k,hk with
   |0,_ =>
    simp;rw[show wI _=a.length from A6 (by simp[pe]) (by omega),I3];rfl
   |1,_ =>
    simp;rw[show wI _=((a.length+b.length))from A6 (by simp[pe]) (by omega),I3];rfl
  ·unfold C9 GI;rfl
 rw[h1,AP9,I3,show wI _=((a.length+b.length:Nat))from A6,show decide _=true from MM,AQr ⟨by omega,by omega⟩,AR2];have h2:Nj [a,b] (([a,b]).length) 0 []=some (a++b):=by
  have:=AW (f:=Da [a,b] (([a,b]).length)) (λk=>(k,pq a b k)) (t:=a++b) 2 (λk hk=>?_) ?_
  ·exact this
  ·unfold Da GJ;rw[iL,Di hk,AQr (Bq hk)]
   match k,hk with
   |0,_ =>
    rw[AQr (by simp[pq];omega)];rfl
   |1,_ =>
    rw[AQr (by simp[pq];omega)];rfl
  ·unfold Da GJ;rfl
 rw[h2];rfl
theorem qX{a b:ASC}(h0:1<=a.length)(ha:a.length<=100000000)(hb:b.length<=100000000):Gt [a,b]=some (a++b):=by
 unfold Gt;have iL:([a,b]).length=2:=rfl;have h1:KI [a,b] (([a,b]).length) 0 0=some (((a.length+b.length:Nat):Int)):=by
  have:=AW (f:=Cu [a,b] (([a,b]).length)) (λk=>((pe a.length b.length k),k)) (t:=(((a.length+b.length)))) 2 (λk hk=>?_) ?_
  ·exact this
  ·unfold Cu Fe GK;simp only[AQa];rw[iL,Di hk,AQr (Bq hk)]
   match k,hk with
   |0,_ =>
    simp;rw[show wI _=a.length from A6 (by simp[pe]) (by omega),I3];rfl
   |1,_ =>
    simp;rw[show wI _=((a.length+b.length))from A6 (by simp[pe]) (by omega),I3];rfl
  ·unfold Cu Fe;rfl
 rw[h1,AP9,I3,show wI _=((a.length+b.length:Nat))from A6,show decide _=true from MM,AQr ⟨by omega,by omega⟩,AR2];have h2:KJ [a,b] (([a,b]).length) 0 []=some (a++b):=by
  have:=AW (f:=Cv [a,b] (([a,b]).length)) (λk=>(k,pq a b k)) (t:=a++b) 2 (λk hk=>?_) ?_
  ·exact this
  ·unfold Cv Ff;rw[iL,Di hk,AQr (Bq hk)]
   match k,hk with
   |0,_ =>
    rw[AQr (by simp[pq];omega)];rfl
   |1,_ =>
    rw[AQr (by simp[pq];omega)];rfl
  ·unfold Cv Ff;rfl
 rw[h2];rfl
abbrev NX:Type:=List ASW
def nk(v p:Nat):ASp:=((v:Int),(p:Int),())
def nx(o:NX)(v p:Nat):ASF:=BA Aa ATC o (nk v p)
def lnk(o:NX)(k x:ASp):NX:=Cs Aa ATC (Cs Aa ATC o k (BA Aa ATC o k)) k (BA Aa ATC o k++[x])
theorem Zf{v p u q:Nat}:nk v p=nk u q↔v=u/\p=q:=by
 constructor
 ·intro h;injection h with h1 h2;injection h2 with h2 _;omega
 ·grind
theorem AiM(o:NX)(k x:ASp)(v p:Nat):nx (lnk o k x) v p=bif Bm Aa (nk v p) k then BA Aa ATC o k++[x]else nx o v p:=by
 unfold nx lnk;rw[ft il,ft il]
 grind
theorem XY{o:NX}{k x:ASp}{v p:Nat}{y:ASp}:y∈nx (lnk o k x) v p↔y∈nx o v p\/(nk v p=k/\y=x):=by
 rw[AiM];cases hk:Bm _ _ k with
 |true =>
  have e:=(il _ _).1 hk;rw[AQp,ARD,AQA];simp only[e,true_and];unfold nx;rw[e]
 |false =>
  have e:nk v p≠k:=λe=>by rw[(il _ _).2 e]at hk;cases hk
  simp[e]
theorem Aac{o:NX}{k x:ASp}{v p N:Nat}(h:∀v p,(nx o v p).length<=N):(nx (lnk o k x) v p).length<=N+1:=by
 rw[AiM];cases hk:Bm _ _ k with
 |true =>
  have e:=(il _ _).1 hk;have:=h v p;unfold nx at this
  grind
 |false=>grind
theorem Air{o:NX}{a:Int}{b c:ASH}{g:Int}{i:ASG}{dd:ATO ATi}{j:ASR}{l:ASF}{v p u q:Nat}(h:(nx o v p).length<=1000000) :
    Eg a b c g i dd j o l (v:Int) (p:Int) (u:Int) (q:Int)=some (lnk o (nk v p) (nk u q)):=by
 unfold Eg;have h':(BA _ (.sl _) o (v,p,())).length<=1000000:=h;rw[AQr (by grind),kl ZQ,ZQ];rfl
theorem Ais{o:NX}{a:Int}{b c:ASH}{g:Int}{i:ASG}{dd:ATO ATi}{j:ASR}{l:ASF}{v p u q:Nat}(h:(nx o v p).length<=1000000) :
    Eh a b c g i dd j o l (u:Int) (q:Int) (v:Int) (p:Int)=some (lnk o (nk v p) (nk u q)):=by
 unfold Eh;have h':(BA _ (.sl _) o (v,p,())).length<=1000000:=h;rw[AQr (by grind),kl ZQ,ZQ];rfl
def Sj(d:ASG)(h:Nat->Nat->Bool):Sg->Prop
 |.co _=>True
 |.va v l n=>Hit d h v l/\Hit d h v (l+n)
def SP(B1 B2:ATO Bt)(h:Nat->Nat->Bool):Prop:=∀p,1<=p->p<B1.length->(T5 B1 h p=true->kP (LC B2 p)=true->T5 B2 h p=true)/\(T5 B2 h p=true->kP (LC B1 p)=true->T5 B1 h p=true)
def mT(d:ASG)(B1 B2:ATO Bt)(h:Nat->Nat->Bool):Prop:=(∀s∈Az B1++Az B2,Sj d h s)/\SP B1 B2 h
inductive Zw (d:ASG) (B1 B2:List Bt) (p:Nat) (s:SC) (o:NX):SC->NX->Prop
 |one (v a:Nat):fst B1 p=true->fst B2 p=false->LC B2 p=.va v a->v<d.length->1<=a->a<W d v->Zw d B1 B2 p s o (ML d s v a) o
 |gH (v a:Nat):fst B2 p=true->fst B1 p=false->LC B1 p=.va v a->v<d.length->1<=a->a<W d v->Zw d B1 B2 p s o (ML d s v a) o
 |both (v a u b:Nat):fst B1 p=false->fst B2 p=false->LC B1 p=.va v a->LC B2 p=.va u b->v<d.length->u<d.length->Zw d B1 B2 p s o s (lnk (lnk o (nk v a) (nk u b)) (nk u b) (nk v a))
 |none:(fst B1 p=true/\fst B2 p=true\/(∃b,LC B1 p=.co b/\fst B1 p=false)\/∃b,LC B2 p=.co b/\fst B2 p=false)->Zw d B1 B2 p s o s o
theorem Awv{d:ASG}(hd:AE d){B1 B2:ATO Bt}(h1:Bv d B1)(h2:Bv d B2)(hl:B1.length=B2.length){p:Nat}(hp:p<B1.length){s:SC}{o:NX}(hs:s.2.length<=1000000)(hn:∀v p,(nx o v p).length<=900000){a:Int}{dd:ATO ATi} :
    ∃s' o',Ft a (ei (Az B1)) (ei (Az B2)) (p:Int) d dd (M d 0 s.1) o s.2=some (d,M d 0 s'.1,o',s'.2)/\Zw d B1 B2 p s o s' o':=by
 unfold Ft Jj OQ;rw[iY,iY,AQr (Bq hp),AQr (Bq (by omega))];simp only[AQa];rcases Z0 h1 hp with ⟨f1,e1⟩|⟨f1,⟨⟨b1,c1⟩,e1⟩|⟨v,x,c1,hv,kM,yn,e1⟩⟩<;>rcases Z0 h2 (show p<B2.length by omega)with ⟨f2,e2⟩|⟨f2,⟨⟨b2,c2⟩,e2⟩|⟨u,y,c2,hu,hy1,hy2,e2⟩⟩<;>rw[e1,e2]
 ·exact⟨s,o,rfl,.none (.inl ⟨f1,f2⟩)⟩
 ·exact⟨s,o,rfl,.none (.inr (.inr ⟨b2,c2,f2⟩))⟩
 ·refine⟨ML d s u y,o,?_,.one u y f1 f2 c2 hu hy1 hy2⟩;rw[Vk hd hu s hs];rfl
 ·exact⟨s,o,rfl,.none (.inr (.inl ⟨b1,c1,f1⟩))⟩
 ·exact⟨s,o,rfl,.none (.inr (.inl ⟨b1,c1,f1⟩))⟩
 ·exact⟨s,o,rfl,.none (.inr (.inl ⟨b1,c1,f1⟩))⟩
 ·refine⟨ML d s v x,o,?_,.gH v x f2 f1 c1 hv kM yn⟩;rw[Vk hd hv s hs];rfl
 ·exact⟨s,o,rfl,.none (.inr (.inr ⟨b2,c2,f2⟩))⟩
 ·refine⟨s,lnk _ _ _,?_,.both v x u y f1 f2 c1 c2 hv hu⟩;show(Eg a _ _ _ d dd _ o _ v x u y).bind (λo=>(Eh a _ _ _ d dd _ o _ v x u y).bind _)=_;rw[Air (by grind),AP9,Ais (by have:=Aac (k:=nk v x) (x:=nk u y) (v:=u) (p:=y) hn;omega),AP9]
def NJ(d:ASG)(h:Nat->Nat->Bool)(o:NX):Prop:=∀v p u q:Nat,nk u q∈nx o v p->h v p=true->Hit d h u q
def NV(d:ASG)(o:NX):Prop:=∀v p x,x∈nx o v p->∃u q:Nat,x=nk u q/\u<d.length
def Yj(B1 B2:ATO Bt)(f:Nat->Nat->Bool)(o:NX)(p:Nat):Prop :=
 (fst B1 p=true->fst B2 p=false->∀v a,LC B2 p=.va v a->f v a=true)/\(fst B2 p=true->fst B1 p=false->∀v a,LC B1 p=.va v a->f v a=true) /\
 (fst B1 p=false->fst B2 p=false->∀v a u b,LC B1 p=.va v a->LC B2 p=.va u b->nk u b∈nx o v a/\nk v a∈nx o u b)
theorem Yj.mono{B1 B2:ATO Bt}{f f':Nat->Nat->Bool}{o o':NX}{p:Nat}(h:Yj B1 B2 f o p)(hf:QM f f')(ho:∀v p x,x∈nx o v p->x∈nx o' v p):Yj B1 B2 f' o' p :=
 ⟨λa b v x c=>hf v x (h.1 a b v x c),λa b v x c=>hf v x (h.2.1 a b v x c),λa b v x u y c e=>⟨ho _ _ _ (h.2.2 a b v x u y c e).1,ho _ _ _ (h.2.2 a b v x u y c e).2⟩⟩
structure LI (d:ASG) (f0:Nat->Nat->Bool) (s:SC) (o:NX) (N:Nat):Prop where
 ci:CI d f0 s
 todo:uf s
 nv:NV d o
 nl:∀v p,(nx o v p).length<=N
theorem AmS{d:ASG}{B1 B2:ATO Bt}{p:Nat}{s s':SC}{o o':NX}{f0:Nat->Nat->Bool}{N:Nat}(cf:1<=p)(hp:p<B1.length)(h:LI d f0 s o N)(st:Zw d B1 B2 p s o s' o') :
    LI d f0 s' o' (N+2)/\QM s.1 s'.1/\(∀v p x,x∈nx o v p->x∈nx o' v p)/\Yj B1 B2 s'.1 o' p/\∀h,SP B1 B2 h->QM s.1 h->NJ d h o->QM s'.1 h/\NJ d h o':=by
 have ct1:∀{h:Nat->Nat->Bool},fst B1 p=true->T5 B1 h p=true:=λe=>by simp[T5,e]
 have ct2:∀{h:Nat->Nat->Bool},fst B2 p=true->T5 B2 h p=true:=λe=>by simp[T5,e]
 have no1:∀{h:Nat->Nat->Bool} {v a:Nat},fst B1 p=false->LC B1 p=.va v a->T5 B1 h p=h v a:=λe c=>by simp[T5,e,c,Adr]
 have no2:∀{h:Nat->Nat->Bool} {v a:Nat},fst B2 p=false->LC B2 p=.va v a->T5 B2 h p=h v a:=λe c=>by simp[T5,e,c,Adr]
 have nl2:∀v p,(nx o v p).length<=N+2:=λv p=>by have:=h.nl v p;omega
 cases st with
 |one v a f1 f2 c2 hv ha1 ha2 =>
  refine⟨⟨h.ci.cut hv,h.todo.cut,h.nv,nl2⟩,aZ s v a,λ_ _ _ hx=>hx,⟨λ_ _ u b c=>?_,λe _=>(by grind),λe=>(by grind)⟩,λg hg hu hj=>⟨cS hu λ_ _=>?_,hj⟩⟩
  ·rw[c2]at c;injection c with e1 e2;subst e1;subst e2;exact cQ s v a ha1 ha2
  ·have:=(hg p cf hp).1 (ct1 f1) (by rw[c2];rfl);rwa [no2 f2 c2]at this
 |gH v a f2 f1 c1 hv ha1 ha2 =>
  refine⟨⟨h.ci.cut hv,h.todo.cut,h.nv,nl2⟩,aZ s v a,λ_ _ _ hx=>hx,⟨λe=>(by grind),λ_ _ u b c=>?_,λ_ e=>(by grind)⟩,λg hg hu hj=>⟨cS hu λ_ _=>?_,hj⟩⟩
  ·rw[c1]at c;injection c with e1 e2;subst e1;subst e2;exact cQ s v a ha1 ha2
  ·have:=(hg p cf hp).2 (ct2 f2) (by rw[c1];rfl);rwa [no1 f1 c1]at this
 |both v a u b f1 f2 c1 c2 hv hu =>
  refine⟨⟨h.ci,h.todo,λw q x hx=>?_,λw q=>?_⟩,λ_ _ h=>h,λw q x hx=>XY.2 (.inl (XY.2 (.inl hx))),⟨λe=>(by grind),λe=>(by grind),λ_ _ v' a' u' b' e1 e2=>?_⟩,λg hg S5 hj=>⟨S5,λw q w' q' hm hh=>?_⟩⟩
  ·rcases XY.1 hx with hx |⟨_,rfl⟩
   ·rcases XY.1 hx with hx |⟨_,rfl⟩
    ·exact h.nv w q x hx
    ·grind
   ·grind
  ·exact Aac λw q=>Aac h.nl
  ·rw[c1]at e1;injection e1 with q1 q2;subst q1;subst q2;rw[c2]at e2;injection e2 with q1 q2;subst q1;subst q2;exact⟨XY.2 (.inl (XY.2 (.inr ⟨rfl,rfl⟩))),XY.2 (.inr ⟨rfl,rfl⟩)⟩
  ·have hs:=hg p cf hp;rw[no1 f1 c1,no2 f2 c2]at hs;rcases XY.1 hm with hm |⟨e1,e2⟩
   ·rcases XY.1 hm with hm |⟨e1,e2⟩
    ·exact hj w q w' q' hm hh
    ·obtain⟨rfl,rfl⟩:=Zf.1 e1;obtain⟨rfl,rfl⟩:=Zf.1 e2;exact λ_ _=>hs.1 hh (by rw[c2];rfl)
   ·obtain⟨rfl,rfl⟩:=Zf.1 e1;obtain⟨rfl,rfl⟩:=Zf.1 e2;exact λ_ _=>hs.2 hh (by rw[c1];rfl)
 |none hc =>
  refine⟨⟨h.ci,h.todo,h.nv,nl2⟩,λ_ _ h=>h,λ_ _ _ hx=>hx,⟨λe1 e2 v a c=>?_,λe1 e2 v a c=>?_,λe1 e2 v a u b c c'=>?_⟩,λg _ hu hj=>⟨hu,hj⟩⟩
  ·grind
  ·grind
  grind
noncomputable def YC(d:ASG)(s:SC):Sg->SC
 |.co _=>s
 |.va v l n=>ML d (ML d s v l) v (l+n)
theorem kj{d:ASG}{f0:Nat->Nat->Bool}:∀(fs:ATO Sg) (s:SC),(∀x∈fs,V8 d x)->CI d f0 s->uf s->CI d f0 (fs.foldl (YC d) s)/\uf (fs.foldl (YC d) s)/\QM s.1 (fs.foldl (YC d) s).1/\(∀x∈fs,Sj d (fs.foldl (YC d) s).1 x) /\
    ∀h,(∀x∈fs,Sj d h x)->QM s.1 h->QM (fs.foldl (YC d) s).1 h
 |[],s,_,h1,h2=>⟨h1,h2,λ_ _ h=>h,λx hx=>(by grind),λ_ _ h=>h⟩
 |x::fs,s,Gh,h1,h2=>by
  have key:CI d f0 (YC d s x)/\uf (YC d s x)/\QM s.1 (YC d s x).1/\Sj d (YC d s x).1 x/\∀h,Sj d h x->QM s.1 h->QM (YC d s x).1 h:=by
   cases x with
   |co b=>exact⟨h1,h2,λ_ _ h=>h,trivial,λ_ _ h=>h⟩
   |va v l n =>
    have hv:=(Gh _ AQE).1;exact⟨(h1.cut hv).cut hv,h2.cut.cut,λu q h=>aZ _ v _ u q (aZ s v l u q h),⟨(cQ s v l).mono (aZ _ v _),cQ _ v _⟩,λh hh hs=>cS (cS hs hh.1) hh.2⟩
  obtain⟨k1,k2,k3,k4,k5⟩:=key;obtain⟨i1,i2,i3,i4,i5⟩:=kj fs _ (λy hy=>Gh y (AQB _ hy)) k1 k2;refine⟨i1,i2,λu q h=>i3 u q (k3 u q h),λy hy=>?_,λh hh hs=>i5 h (λy hy=>hh y (AQB _ hy)) (k5 h (hh x AQE) hs)⟩;rcases List.mem_cons.1 hy with rfl |hy
  ·cases y with
   |co b=>trivial
   |va v l n=>exact⟨k4.1.mono i3,k4.2.mono i3⟩
  ·grind
theorem Aiq{d:ASG}(hd:AE d){fs:ATO Sg}{i:Nat}(hi:i<fs.length)(Gh:V8 d (fs.getD i (.co []))){s:SC}(h1:s.2.length<=900000){a o1:Int}{x y:ASI}{dd:ATO ATi}{o:NX} :
    Gr a x y o1 (i:Int) d dd (M d 0 s.1) o (fV fs) s.2=some (d,M d 0 (YC d s (fs.getD i (.co []))).1,(YC d s (fs.getD i (.co []))).2):=by
 unfold Gr;simp only[AQa,gW hi];rw[Cm,AQr (Bq hi)];cases hs:fs.getD i _ with
 |co b=>rfl
 |va v l n =>
  rw[hs]at Gh;obtain⟨hv,hn,hw⟩:=Gh;obtain⟨e0,iO,kL⟩:=P6 hd hv;have S5:(ML d s v l).2.length<=s.2.length+1:=by unfold ML;split<;>simp
  have e1:BQ a (Ik (.va v l n)).1 (Ik (.va v l n)).2.1 d _ s.2=some _:=Vk hd hv s (by omega);have e2:wI ((Ik (.va v l n)).2.1+(Ik (.va v l n)).2.2.1)=((l+n:Nat)):=A6 (show l+(n:Int)=_ by omega) (by omega);have e3:BQ a (Ik (.va v l n)).1 _ d _ _=some (d,M d 0 _,(ML d (ML d s v l) v (l+n)).2):=Vk hd hv _ (by omega);rw[e1,AP9,e2,e3];rfl
theorem AmG{d:ASG}(hd:AE d){B1 B2:ATO Bt}(h1:Bv d B1)(h2:Bv d B2)(hl:B1.length=B2.length){f0:Nat->Nat->Bool}{s:SC}{o:NX}{N:Nat}(hI:LI d f0 s o N)(hN:N<=800000){a:Int}{dd:ATO ATi} :
    ∃s' o',JE a (fN B1) (fN B2) d dd (M d 0 s.1) o s.2=some (d,dd,M d 0 s'.1,o',s'.2)/\LI d f0 s' o' (N+8192)/\QM s.1 s'.1/\(∀v p x,x∈nx o v p->x∈nx o' v p)/\(∀x∈Az B1++Az B2,Sj d s'.1 x)/\(∀p,1<=p->p<B1.length->Yj B1 B2 s'.1 o' p) /\
     ∀h,mT d B1 B2 h->QM s.1 h->NJ d h o->QM s'.1 h/\NJ d h o':=by
 unfold JE;have hn1:(fN B1).length<=4096/\(fN B2).length<=4096/\1<=(fN B1).length:=by
  unfold fN;rw[Cm,Cm];have a1:=CX (CM B1);have a2:=CX (CM B2);rw[Ce]at a1 a2;have:=h1.1;have:=h2.2.1;rcases AQx _ with h0 |h0
  ·have e:Az B1=[]:=AQ2 h0;have:=Ce B1;rw[e]at this;simp[Bn]at this;omega
  ·omega
 rw[qY hn1.2.2 (by omega) (by omega),AP9];have efs:fN B1++fN B2=fV _:=(Sm _ _).symm;rw[efs];have vT:∀x∈Az B1++Az B2,V8 d x:=λx hx=>by
  rcases List.mem_append.1 hx with hx |hx
  ·exact(Zk h1 hx).1
  ·exact(Zk h2 hx).1
 have hfl:(Az B1++Az B2).length<=8192:=by
  have:=hn1.2.1;unfold fN at *;rw[Cm]at *;rw[AQd];omega
 have iL:OE a (fN B1) (fN B2) dd o (fV (Az B1++Az B2)) ((fV (Az B1++Az B2)).length) 0 d (M d 0 s.1) s.2=some (d,M d 0 ((Az B1++Az B2).foldl (YC d) s).1,((Az B1++Az B2).foldl (YC d) s).2):=by
  generalize Az B1++Az B2=fs at *;rw[Cm];have:=AW (f:=Dj a (fN B1) (fN B2) dd o (fV fs) fs.length) (λk=>(k,d,M d 0 ((fs.take k).foldl (YC d) s).1,((fs.take k).foldl (YC d) s).2)) (t:=(d,M d 0 (fs.foldl (YC d) s).1,(fs.foldl (YC d) s).2)) fs.length (λk hk=>?_) ?_
  ·exact this
  ·unfold Dj HK;have hci:=(kj (fs.take k) s (λx hx=>vT x (ARt hx)) hI.ci hI.todo).1;rw[Di hk,Aiq hd hk (vT _ (AO hk)) (by have:=hci.len;omega),Bp hk (by omega),A3  hk,AR1];rfl
  ·unfold Dj HK
   grind
 rw[iL,AP9,AjF hd h1,AP9,AjF hd h2,AP9];obtain⟨i1,i2,i3,i4,i5⟩:=kj _ s vT hI.ci hI.todo;generalize (Az B1++Az B2).foldl _ s=s1 at *;have vL:Ay (M1 a (ei (Az B1)) (ei (Az B2)) dd 1 d (M d 0 s1.1) o s1.2) λr=>∃s' o',r=(d,M d 0 s'.1,o',s'.2)/\LI d f0 s' o' (N+2*(B1.length-1))/\QM s1.1 s'.1/\(∀v p x,x∈nx o v p->x∈nx o' v p)/\(∀p,1<=p->p<B1.length-1+1->Yj B1 B2 s'.1 o' p) /\
     ∀h,SP B1 B2 h->QM s1.1 h->NJ d h o->QM s'.1 h/\NJ d h o':=by
  have:=B4 (f:=C6 a (ei (Az B1)) (ei (Az B2)) dd) (λk x=>(((k+1:Nat)),d,M d 0 x.1.1,x.2,x.1.2)) (B1.length-1)
   (λk x=>LI d f0 x.1 x.2 (N+2*k)/\QM s1.1 x.1.1/\(∀v p y,y∈nx o v p->y∈nx x.2 v p)/\(∀p,1<=p->p<k+1->Yj B1 B2 x.1.1 x.2 p)/\∀h,SP B1 B2 h->QM s1.1 h->NJ d h o->QM x.1.1 h/\NJ d h x.2)
   (Q:=λr=>∃s' o',r=(d,M d 0 s'.1,o',s'.2)/\LI d f0 s' o' (N+2*(B1.length-1))/\QM s1.1 s'.1/\(∀v p x,x∈nx o v p->x∈nx o' v p)/\(∀p,1<=p->p<B1.length-1+1->Yj B1 B2 s'.1 o' p)/\∀h,SP B1 B2 h->QM s1.1 h->NJ d h o->QM s'.1 h/\NJ d h o')
   (λk x hk hx=>?_) (λx hx=>?_) (s0:=(s1,o)) ⟨⟨i1,i2,hI.nv,λv p=>hI.nl v p⟩,λ_ _ h=>h,λ_ _ _ h=>h,λp h1 h2=>by omega,λh _ hu hj=>⟨hu,hj⟩⟩
  ·exact this
  ·obtain⟨j1,j2,j3,j4,j5⟩:=hx;have hb:=h1.2.1;unfold C6 GA;obtain⟨s',o',e1,st⟩:=Awv hd h1 h2 hl (show k+1<B1.length by omega) (s:=x.1) (o:=x.2) (by have:=j1.ci.len;omega) (λv p=>by have:=j1.nl v p;omega);obtain⟨k1,k2,k3,k4,k5⟩:=AmS (by omega) (show k+1<B1.length by omega) j1 st;rw[iY,Di (show k+1<B1.length by omega),e1,A6  (n:=k+1+1) (by omega) (by omega)];refine Ay.mk ⟨(s',o'),rfl,k1,λu q h=>k2 u q (j2 u q h),λv p y hy=>k3 v p y (j3 v p y hy),λp cf gb=>?_,λh hs hu hj=>?_⟩
   ·rcases AQk p _ with Bw |ag
    ·exact(j4 p cf Bw).mono k2 k3
    grind
   grind
  ·unfold C6 GA;have:=h1.1;rw[iY,show B1.length-1+1=B1.length by omega,Ew];refine Ay.mk ⟨x.1,x.2,rfl,hx.1,hx.2.1,hx.2.2.1,?_,hx.2.2.2.2⟩
   grind
 obtain⟨r,hr,s',o',rfl,j1,j2,j3,j4,j5⟩:=vL;rw[hr];have hb:=h1.2.1;refine⟨s',o',rfl,⟨j1.ci,j1.todo,j1.nv,λv p=>by have:=j1.nl v p;omega⟩,λu q h=>j2 u q (i3 u q h),j3,λx hx=>?_,λp cf gb=>j4 p cf (by omega),λh hs hu hj=>j5 h hs.2 (i5 h hs.1 hu) hj⟩;cases x with
 |co b=>trivial
 |va v l n=>exact⟨(i4 _ hx).1.mono j2,(i4 _ hx).2.mono j2⟩
abbrev ub:Type:=ASI×ASI×Unit
abbrev AzG:ub:=([],[],())
noncomputable def Ox(d:ASG)(l:ASK)(i:Nat):ub:=((D1 d (lS l i)).2,(D1 d (lT l i)).2,())
theorem WB{d:ASG}{l:ASK}(hd:AE d)(hl:∀x∈l,MK x)(hp:FD d l):Ay (Qc d l) λr=>(r.1=true/\CF d l/\r.2=(List.range l.length).map (Ox d l))\/(r.1=false/\¬CF d l):=by
 unfold Qc;have hlen:=hp.1;rw[AQr ⟨rfl,by omega,by omega,by omega,by omega⟩];refine Ay.bind (P:=λt=>(∃x,t=.inl x/\¬CF d l)\/(t=.inr ((List.range l.length).map (Ox d l))/\CF d l)) ?_ λt ht=>?_
 ·have z0:∀n,CU (Ox d l) _ n 0=List.replicate n ([],[],()):=λn=>MU _ _ _;refine BB (λm x=>∃k:Nat,k<=l.length/\m=l.length-k/\x=((k:Int),CU (Ox d l) (AzG) l.length k)/\∀i,i<k->jo d l i) (λm x hI=>?_) _ _ ⟨0,AQW _,rfl,by grind,λi hi=>by omega⟩;obtain⟨k,hk,rfl,rfl,h3⟩:=hI;unfold Po Ub OQ;rcases AQk k _ with h |h
  ·have hB:=hl _ (AO (z:=Ty.zero _) h);have vK:=hp.2 k h;obtain⟨ws,hw⟩:=X8 vK.2.2.1;obtain⟨mQ,ny⟩:=X8 (show 0<=GV d _ by rw[vK.2.2.2];exact vK.2.2.1);have e1:GC d (l.getD k _).2.2.1=some (D1 d (lS l k)):=Vl hd hB.1 hw;have e2:GC d (l.getD k _).2.2.2.1=some (D1 d (lT l k)):=Vl hd hB.2 ny;rw[Di h,AQr (Bq h),AQa,e1,AP9,e2,AP9];cases hc:(!(D1 d _).1||!(D1 d _).1)with
   |true =>
    refine Ay.mk (.inl ⟨_,rfl,λh'=>?_⟩);have:=sE.2 (h' k h);rw[hc]at this;cases this
   |false =>
    rw[Ih,AQr (Bq h),Bp h (by omega)];refine Ay.mk ⟨l.length-(k+1),by omega,k+1,h,rfl,?_,λi hi=>?_⟩
    ·rw[<-Qq];rfl
    ·rcases AQk i k with h' |h'
     ·grind
     ·rw[show i=k by omega];exact sE.1 hc
  ·have:k=l.length:=by omega
   subst this;rw[Ew];refine Ay.mk (.inr ⟨?_,h3⟩);congr 1;refine AQY λi hi=>?_;rw[AQr (List.mem_range.1 hi)]
 ·rcases ht with ⟨x,rfl,h⟩|⟨rfl,h⟩
  ·exact Ay.mk (.inr ⟨rfl,h⟩)
  ·exact Ay.mk (.inl ⟨rfl,h,rfl⟩)
def b1(d:ASG)(l:ASK)(i:Nat):ATO Bt:=kZ d (lS l i)
def b2(d:ASG)(l:ASK)(i:Nat):ATO Bt:=kZ d (lT l i)
theorem PE{d:ASG}{l:ASK}(hd:AE d)(hl:∀x∈l,MK x)(hp:FD d l)(hs:CF d l){i:Nat}(hi:i<l.length) :
    Bv d (b1 d l i)/\Bv d (b2 d l i)/\(b1 d l i).length=(b2 d l i).length/\Ox d l i=(fN (b1 d l i),fN (b2 d l i),())/\(D1 d (lS l i))=(true,fN (b1 d l i))/\(D1 d (lT l i))=(true,fN (b2 d l i)):=by
 have hB:=hl _ (AO (z:=Ty.zero _) hi);obtain⟨h1,h2⟩:=hs i hi;have vK:=hp.2 i hi;obtain⟨ws,hw⟩:=X8 vK.2.2.1;obtain⟨mQ,ny⟩:=X8 (show 0<=GV d _ by rw[vK.2.2.2];exact vK.2.2.1);obtain⟨a1,a2⟩:=kq hd hB.1 h1;obtain⟨c1,c2⟩:=kq hd hB.2 h2;have t1:=(lZ (t:=lS l i) hd hB.1 hw _ (AQf _) ((lS l i).length-1) (by have:=hw.1;omega)).2;have t2:=(lZ (t:=lT l i) hd hB.2 ny _ (AQf _) ((lT l i).length-1) (by have:=ny.1;omega)).2;have e:=vK.2.2.2;rw[Zs hw,Zs ny]at e;refine⟨a1.1,c1.1,?_,?_,Prod.ext h1 a2,Prod.ext h2 c2⟩
 ·have e1:((b1 d l i).length)=ws.getD _ 0:=t1;have e2:((b2 d l i).length)=mQ.getD _ 0:=t2;omega
 ·unfold Ox;rw[show(D1 d (lS l i)).2=fN (b1 d l i)from a2,show(D1 d (lT l i)).2=fN (b2 d l i)from c2]
def EB(d:ASG)(l:ASK)(h:Nat->Nat->Bool):Prop:=∀i,i<l.length->mT d (b1 d l i) (b2 d l i) h
structure jk (d:ASG) (l:ASK) (c:ASQ) (f:Nat->Nat->Bool):Prop where
 le:QM (C0 c) f
 ak:∀v p,f v p=true->v<d.length/\1<=p/\p<W d v
 cl:EB d l f
 min:∀h,EB d l h->QM (C0 c) h->QM f h
theorem jk.unique{d:ASG}{l:ASK}{c:ASQ}{f g:Nat->Nat->Bool}(hf:jk d l c f)(hg:jk d l c g):f=g:=by
 funext v p
 rw[ASa];exact⟨hf.min g hg.cl hg.le v p,hg.min f hf.cl hf.le v p⟩
theorem Am5{d:ASG}{B1 B2:ATO Bt}(h1:Bv d B1)(h2:Bv d B2)(hl:B1.length=B2.length){f:Nat->Nat->Bool}{o:NX}(he:∀x∈Az B1++Az B2,Sj d f x)(hp:∀p,1<=p->p<B1.length->Yj B1 B2 f o p)
    (hc:∀v p u q:Nat,f v p=true->nk u q∈nx o v p->Hit d f u q):mT d B1 B2 f:=by
 have vac:∀{b:Bt},kP b=true->∃v a,b=.va v a:=λ{b} h=>by
  cases b with
  |co _=>cases h
  |va v a=>grind
 refine⟨he,λp cf gb=>⟨λfW hva=>?_,λfW hva=>?_⟩⟩
 ·obtain⟨u,b,e2⟩:=vac hva;unfold T5;cases f2:fst B2 p with
  |true=>rfl
  |false =>
   rw[e2];have hb:1<=b/\b<W d u:=by
    rcases Z0 h2 (show p<B2.length by omega)with ⟨q,_⟩|⟨_,⟨⟨_,q⟩,_⟩|⟨v,a,q,_,q1,q2,_⟩⟩
    ·grind
    ·grind
    grind
   cases f1:fst B1 p with
   |true=>exact(hp p cf gb).1 f1 f2 u b e2
   |false =>
    unfold T5 at fW;rw[f1]at fW;cases e1:LC B1 p with
    |co c=>rw[e1]at fW;cases fW
    |va v a =>
     rw[e1]at fW;exact hc v a u b fW ((hp p cf gb).2.2 f1 f2 v a u b e1 e2).1 hb.1 hb.2
 ·obtain⟨u,b,e1⟩:=vac hva;unfold T5;cases f1:fst B1 p with
  |true=>rfl
  |false =>
   rw[e1];have hb:1<=b/\b<W d u:=by
    rcases Z0 h1 gb with ⟨q,_⟩|⟨_,⟨⟨_,q⟩,_⟩|⟨v,a,q,_,q1,q2,_⟩⟩
    ·grind
    ·grind
    grind
   cases f2:fst B2 p with
   |true=>exact(hp p cf gb).2.1 f2 f1 u b e1
   |false =>
    unfold T5 at fW;rw[f2]at fW;cases e2:LC B2 p with
    |co c=>rw[e2]at fW;cases fW
    |va v a =>
     rw[e2]at fW;exact hc v a u b fW ((hp p cf gb).2.2 f1 f2 u b v a e1 e2).2 hb.1 hb.2
noncomputable def UM(d:ASG)(s:SC)(w:ASF):SC:=w.foldl (λs x=>ML d s x.1.toNat x.2.1.toNat) s
theorem Ac9{d:ASG}{s:SC}{v p:Nat}(hv:v<d.length):(∀x∈s.2,x∈(ML d s v p).2)/\(∀u q,(ML d s v p).1 u q=true->s.1 u q=true\/nk u q∈(ML d s v p).2)/\(ML d s v p).2.length+free d (ML d s v p).1<=s.2.length+free d s.1:=by
 unfold ML;split
 ·rename_i hc;refine⟨λx hx=>AQH _ hx,λu q h=>?_,?_⟩
  ·rcases Fw.1 h with h |⟨rfl,rfl⟩
   ·grind
   ·exact .inr (AQI _ (List.mem_singleton.2 rfl))
  ·have:=eZ hv hc.2.1 hc.2.2
   grind
 grind
theorem jX{d:ASG}{f0:Nat->Nat->Bool}:∀(w:ASF) (s:SC),(∀x∈w,∃u q:Nat,x=nk u q/\u<d.length)->CI d f0 s->CI d f0 (UM d s w)/\QM s.1 (UM d s w).1/\(∀u q,nk u q∈w->Hit d (UM d s w).1 u q) /\
    (∀x∈s.2,x∈(UM d s w).2)/\(∀u q,(UM d s w).1 u q=true->s.1 u q=true\/nk u q∈(UM d s w).2)/\(UM d s w).2.length+free d (UM d s w).1<=s.2.length+free d s.1/\∀h,(∀u q,nk u q∈w->Hit d h u q)->QM s.1 h->QM (UM d s w).1 h
 |[],s,_,h1=>⟨h1,λ_ _ h=>h,λ_ _ h=>(by grind),λ_ h=>h,λ_ _ h=>.inl h,AQf _,λ_ _ h=>h⟩
 |x::w,s,hv,h1=>by
  obtain⟨u,q,rfl,hu⟩:=hv x AQE;have e:UM d s (nk u q::w)=UM d (ML d s u q) w:=by simp[UM,nk]
  obtain⟨k1,k2,k3⟩:=Ac9 (s:=s) (p:=q) hu;obtain⟨i1,i2,i3,i4,i5,i6,i7⟩:=jX w (ML d s u q) (λy hy=>hv y (AQB _ hy)) (h1.cut hu);refine⟨i1,λa b h=>i2 a b (aZ s u q a b h),λa b h=>?_,λy hy=>i4 y (k1 y hy),λa b h=>?_,AQD i6 k3,λh hh hs=>i7 h (λa b hm=>hh a b (AQB _ hm)) (cS hs (hh u q AQE))⟩
  ·rcases List.mem_cons.1 h with h |h
   ·obtain⟨rfl,rfl⟩:=Zf.1 h;exact(cQ s a b).mono i2
   ·grind
  grind
theorem Ac3{d:ASG}(hd:AE d){f0:Nat->Nat->Bool}{w:ASF}{s:SC}(hv:∀x∈w,∃u q:Nat,x=nk u q/\u<d.length)(hw:w.length<=1000000)(hs:CI d f0 s){a:Int}{o:NX} :
    Is a o w (w.length:Int) 0 d (M d 0 s.1) s.2=some (d,M d 0 (UM d s w).1,(UM d s w).2):=by
 have:=AW (f:=C3 a o w w.length) (λk=>(k,d,M d 0 (UM d s (w.take k)).1,(UM d s (w.take k)).2)) (t:=(d,M d 0 (UM d s w).1,(UM d s w).2)) w.length (λk hk=>?_) ?_
 ·exact this
 ·unfold C3 Gw;obtain⟨u,q,e,hu⟩:=hv _ (AO (z:=Ty.zero _) hk);have hci:=(jX (w.take k) s (λx hx=>hv x (ARt hx)) hs).1;simp only[AQa,e];have e1:BQ a (nk u q).1 (nk u q).2.1 d _ _=some (d,M d 0 _,(ML d (UM d s (w.take k)) u q).2):=Vk hd hu _ (by have:=hci.len;omega);have e2:UM d s (w.take (k+1))=ML d (UM d s (w.take k)) u q:=by
   rw[A3  hk,e];simp[UM,nk]
  rw[Di hk,AQp,AQr (Bq hk),e1,AP9,Bp hk (by omega),e2]
 ·unfold C3 Gw
  grind
theorem Ac4{d:ASG}(hd:AE d){f0:Nat->Nat->Bool}{s1:SC}{o:NX}{N:Nat}(hI:LI d f0 s1 o N)(hN:N<=1000000){a:Int} :
    Ay (MY a o d (M d 0 s1.1) s1.2) λr=>∃s:SC,r=(d,M d 0 s.1,s.2)/\CI d f0 s/\QM s1.1 s.1/\(∀v p u q:Nat,s.1 v p=true->nk u q∈nx o v p->Hit d s.1 u q)/\∀h,QM s1.1 h->NJ d h o->QM s.1 h:=by
 refine BB (λm (x:ASG×ASR×ASF)=>∃s:SC,x=(d,M d 0 s.1,s.2)/\m=s.2.length+free d s.1/\CI d f0 s/\QM s1.1 s.1/\(∀v p,s.1 v p=true->nk v p∈s.2\/∀u q,nk u q∈nx o v p->Hit d s.1 u q)/\∀h,QM s1.1 h->NJ d h o->QM s.1 h) (λm x hx=>?_) _ _ ⟨s1,rfl,rfl,hI.ci,λ_ _ h=>h,λv p h=>.inl (hI.todo v p h),λh hh _=>hh⟩;obtain⟨s,rfl,rfl,hci,S5,OC,Adt⟩:=hx;unfold Gx Km;simp only;rcases AQx s.2.length with h0 |h0
 ·have e0:s.2=[]:=AQ2 h0;rw[show decide ((s.2.length:Int)>0)=false from I3];refine Ay.mk ⟨s,rfl,hci,S5,λv p u q h hm=>?_,Adt⟩
  grind
 ·have hlen:=hci.len;obtain⟨v,p,ev,hvp⟩:=hci.Bi _ (AO (z :=Aa.zero) (show s.2.length-1<s.2.length by omega));have ev:s.2.getD (s.2.length-1) Aa.zero=nk v p:=ev;rw[show decide ((s.2.length:Int)>0)=true from MM,A6 (x:=(s.2.length:Int)-1) (n:=s.2.length-1),AQr (Bq (by omega)),AQr ⟨by omega,by omega⟩];simp only[AQa,ev];have rP:s.2=s.2.take (s.2.length-1)++[nk v p]:=by
   have:=A3 (z :=Aa.zero) (l:=s.2) (k:=s.2.length-1) (by omega)
   grind
  have AFY:CI d f0 (s.1,s.2.take (s.2.length-1)):=⟨hci.le,hci.ak,λx hx=>hci.Bi x (ARt hx),by grind⟩;obtain⟨i1,i2,i3,i4,i5,i6,i7⟩:=jX (nx o v p) (s.1,s.2.take (s.2.length-1)) (λx hx=>hI.nv v p x hx) AFY;have e1:=Ac3 hd (s:=(s.1,s.2.take (s.2.length-1))) (w:=nx o v p) (a:=a) (o:=o) (λx hx=>hI.nv v p x hx) (by have:=hI.nl v p;omega) AFY;have e1':Is a o (BA Aa ATC o (nk v p)) ((BA Aa ATC o (nk v p)).length:Int) 0 d (M d 0 s.1) (s.2.take (s.2.length-1))=_:=e1;rw[e1'];simp only[AQu]at i6;refine Ay.mk ⟨(UM d (s.1,s.2.take (s.2.length-1)) (nx o v p)).2.length+free d (UM d (s.1,s.2.take (s.2.length-1)) (nx o v p)).1,by omega,_,rfl,rfl,i1,λu q h=>i2 u q (S5 u q h),λu q h=>?_,λh h1 h2=>?_⟩
  ·rcases i5 u q h with h |h
   ·rcases OC u q h with h |h
    ·rw[rP]at h;rcases List.mem_append.1 h with h |h
     ·grind
     ·obtain⟨rfl,rfl⟩:=Zf.1 (List.mem_singleton.1 h);exact .inr λa b hm=>i3 a b hm
    ·exact .inr λa b hm=>(h a b hm).mono i2
   ·grind
  ·exact i7 h (λu q hm=>h2 v p u q hm (Adt h h1 h2 v p hvp)) (Adt h h1 h2)
theorem rX{d:ASG}{l:ASK}(hd:AE d)(hl:∀x∈l,MK x):Ay (Gi d l) λr=>r=true↔FD d l:=by
 have hdd:=hd.1;unfold Gi;by_cases hlen:l.length<=60
 ·rw[AQc (by omega:¬(l.length:Int)>60)];refine Ay.bind (P:=λt=>(t=.inl ()/\¬∀i,i<l.length->WZ d l i)\/(t=.inr ()/\∀i,i<l.length->WZ d l i)) ?_ λt ht=>?_
  ·have:=B4 (f:=B6 d l (l.length:Int)) (λj (_:Unit)=>((if j=0 then 0 else cg l (j-1):Int),(j:Int))) l.length (λj _=>∀k,k<j->WZ d l k) (Q:=λt=>(t=.inl ()/\¬∀i,i<l.length->WZ d l i)\/(t=.inr ()/\∀i,i<l.length->WZ d l i)) (λj _ hj hJ=>?_) (λ_ hJ=>?_) (s0:=()) (λi h=>by omega)
   ·exact this
   ·unfold B6 DI;have hB:=hl _ (AO (z :=Ah.zero) hj);have e1:Fc d (l.getD j Ah.zero).2.2.1=some (GV d (lS l j)):=MV hB.1 (by omega);have e2:Fc d (l.getD j Ah.zero).2.2.2.1=some (GV d (lT l j)):=MV hB.2 (by omega);have e3:(l.getD j Ah.zero).1=cg l j:=rfl;rw[Di hj,AQr (Bq hj),AQa,e1,AP9];obtain⟨c,hc⟩:∃c:Int,c=if j=0 then 0 else cg l (j-1):=⟨_,rfl⟩;have hcb:0<=c/\c<=1000000/\(0<j->c=cg l (j-1))/\(j=0->c=0):=by
     by_cases h0:j=0
     ·omega
     ·rw[AQs h0]at hc;have:=(hJ (j-1) (by omega)).1;omega
    rw[<-hc];obtain⟨b,gY,oM⟩:∃b,Dx d c (GV d (lS l j)) l (l.length:Int) (j:Int) (l.getD j Ah.zero)=some b/\(b=false↔WZ d l j):=by
     unfold Dx WZ;rw[e3,Lu,BU (x:=c+1),e2];by_cases h1:c+1<=cg l j/\cg l j<=1000000
     ·rw[AQe h1];by_cases h2:GV d (lS l j)<0
      ·rw[AQe h2];exact⟨true,rfl,λh=>by grind,λh=>by omega⟩
      ·rw[AQc h2];refine⟨_,rfl,?_⟩
       grind
     ·rw[AQc h1];refine⟨true,rfl,λh=>by grind,λh=>?_⟩;omega
    rw[gY,AP9];cases b with
    |true=>exact Ay.mk (.inl ⟨rfl,λh=>by grind⟩)
    |false =>
     rw[Bp hj (by omega)];refine Ay.mk ⟨(),rfl,λk hk=>?_⟩
     grind
   ·unfold B6 DI;rw[Ew];exact Ay.mk (.inr ⟨rfl,hJ⟩)
  ·rcases ht with ⟨rfl,h⟩|⟨rfl,h⟩
   ·exact Ay.mk ⟨λh=>by grind,λh'=>absurd h'.2 h⟩
   ·exact Ay.mk ⟨λ_=>⟨hlen,h⟩,λ_=>rfl⟩
 ·rw[AQe (by omega:(l.length:Int)>60)];exact Ay.mk ⟨λh=>by grind,λh=>absurd h.1 hlen⟩
theorem rU{d:ASG}{l:ASK}{c:ASQ}(hc:YB c)(hl:∀x∈l,MK x):Ay (JD d l (c,())) λr =>
    (r=(false,[])/\¬(AE d/\Dn d c/\FD d l/\CF d l))\/(AE d/\Dn d c/\FD d l/\CF d l/\∃f,r=(true,Ax d f)/\jk d l c f):=by
 unfold JD LY;obtain⟨r1,e1,q1⟩:=wh (d:=d) hc;rw[e1,AP9];cases r1 with
 |false=>exact Ay.mk (.inl ⟨rfl,λh=>by have:=q1.2 ⟨h.1,h.2.1⟩;cases this⟩)
 |true =>
  obtain⟨hd,ZN⟩:=q1.1 rfl;obtain⟨r2,e2,q2⟩:=rX (d:=d) hd hl;simp only[AQS,AQo,e2,AP9];cases r2 with
  |false=>exact Ay.mk (.inl ⟨rfl,λh=>by have:=q2.2 h.2.2.1;cases this⟩)
  |true =>
   have Ov:=q2.1 rfl;simp only[AQS,AQo];refine Ay.bind (WB hd hl Ov) λv hv=>?_;rcases hv with ⟨f1,hs,f2⟩|⟨f1,hs⟩
   ·rw[f1,f2];simp only[AQS,AQo];rw[sw hd ZN hc,AP9];simp only;have hln:=Ov.1;obtain⟨Sf,Qn⟩:=AjI hd ZN;have n0:∀v p,nx ([]:NX) v p=[]:=λv p=>rfl;have vL:Ay (LZ 0 (((List.range l.length).map (Ox d l)).length:Int) 0 d ((List.range l.length).map (Ox d l)) (M d 0 (C0 c)) [] (g0 c d.length)) λr=>∃s o,r=(d,M d 0 s.1,o,s.2)/\LI d (C0 c) s o (8192*l.length)/\(∀i,i<l.length->(∀x∈Az (b1 d l i)++Az (b2 d l i),Sj d s.1 x)/\∀p,1<=p->p<(b1 d l i).length->Yj (b1 d l i) (b2 d l i) s.1 o p)/\∀h,EB d l h->QM (C0 c) h->QM s.1 h/\NJ d h o:=by
     unfold LZ;have:=B4 (f:=Ef 0 (((List.range l.length).map (Ox d l)).length:Int)) (λk (x:SC×NX)=>((k:Int),d,(List.range l.length).map (Ox d l),M d 0 x.1.1,x.2,x.1.2)) l.length
      (λk x=>LI d (C0 c) x.1 x.2 (8192*k)/\(∀i,i<k->(∀y∈Az (b1 d l i)++Az (b2 d l i),Sj d x.1.1 y)/\∀p,1<=p->p<(b1 d l i).length->Yj (b1 d l i) (b2 d l i) x.1.1 x.2 p)/\∀h,EB d l h->QM (C0 c) h->QM x.1.1 h/\NJ d h x.2)
      (Q:=λr=>∃s o,r=(d,M d 0 s.1,o,s.2)/\LI d (C0 c) s o (8192*l.length)/\(∀i,i<l.length->(∀x∈Az (b1 d l i)++Az (b2 d l i),Sj d s.1 x)/\∀p,1<=p->p<(b1 d l i).length->Yj (b1 d l i) (b2 d l i) s.1 o p)/\∀h,EB d l h->QM (C0 c) h->QM s.1 h/\NJ d h o)
      (λk x hk hx=>?_) (λx hx=>?_) (s0:=((C0 c,g0 c d.length),[])) ⟨⟨Sf,Qn,λv p x hx=>(by rw[n0]at hx;cases hx),λv p=>(by rw[n0];simp)⟩,λi hi=>by omega,λh _ hh=>⟨hh,λv p u q hm=>(by rw[n0]at hm;cases hm)⟩⟩
     ·exact this
     ·obtain⟨j1,j2,j3⟩:=hx;obtain⟨s1,s2,s3,s4,_,_⟩:=PE hd hl Ov hs hk;have eg:((List.range l.length).map (Ox d l)).getD k (Ty.zero (.AG ATB (.AG ATB .unit)))=(fN (b1 d l k),fN (b2 d l k),()):=by
       rw[<-s4];exact Gk hk
      unfold Ef Jh;simp only[AQa,eg];obtain⟨s',o',k1,k2,k3,k4,k5,k6,k7⟩:=AmG hd s1 s2 s3 j1 (by omega) (a:=0) (dd:=(List.range l.length).map (Ox d l));rw[AQl,AQQ,Di hk,AQp,AQr (Bq hk),k1,AP9,Bp hk (by omega)];refine Ay.mk ⟨(s',o'),rfl,by rw[show 8192*(k+1)=8192*k+8192 by omega];exact k2,λi hi=>?_,λh hh GM=>?_⟩
      ·rcases AQk i k with Bw |ag
       ·obtain⟨a1,a2⟩:=j2 i Bw;refine⟨λy hy=>?_,λp p1 p2=>(a2 p p1 p2).mono k3 k4⟩;have:=a1 y hy;cases y with
        |co b=>trivial
        |va v l n=>exact⟨this.1.mono k3,this.2.mono k3⟩
       ·rw[show i=k by omega];exact⟨k5,k6⟩
      ·obtain⟨a1,a2⟩:=j3 h hh GM;exact k7 h (hh k hk) a1 a2
     ·unfold Ef Jh;simp only;rw[AQl,AQQ,Ew,AQo];exact Ay.mk ⟨x.1,x.2,rfl,hx⟩
    obtain⟨r,hr,s,o,rfl,j1,j2,j3⟩:=vL;rw[hr,AP9];unfold L1;simp only;obtain⟨r,hr,s',rfl,k1,k2,k3,k4⟩:=Ac4 hd j1 (by omega) (a:=0);have fe:=hd.1;rw[hr,AP9];simp only;rw[AQr (show Ty.row ATD=true/\(0:Int)<=(d.length:Int)/\(d.length:Int)<=(d.length:Int)/\((24:Nat):Int)*(d.length:Int)<=281474976710656/\(d.length:Int)<=9223372036854775807 from⟨rfl,by omega,by omega,by omega,by omega⟩),Yh,AQa,
     zW hd (λv=>by cases hv:s'.1 v 0 with |false=>rfl |true=>have:=(k1.ak v 0 hv).2.1;omega),AP9,AP9]
    refine Ay.mk (.inr ⟨hd,ZN,Ov,hs,s'.1,rfl,k1.le,k1.ak,λi hi=>?_,λh h1 h2=>?_⟩)
    ·obtain⟨s1,s2,s3,_,_,_⟩:=PE hd hl Ov hs hi;obtain⟨a1,a2⟩:=j2 i hi;refine Am5 s1 s2 s3 (o:=o) (λy hy=>?_) (λp p1 p2=>(a2 p p1 p2).mono k2 λ_ _ _ h=>h) k3;have:=a1 y hy;cases y with
     |co b=>trivial
     |va v l n=>exact⟨this.1.mono k2,this.2.mono k2⟩
    ·obtain⟨a1,a2⟩:=j3 h h1 h2;exact k4 h a1 a2
   ·rw[f1];exact Ay.mk (.inl ⟨rfl,λh=>hs h.2.2.2⟩)
end Go.Proofs.X
