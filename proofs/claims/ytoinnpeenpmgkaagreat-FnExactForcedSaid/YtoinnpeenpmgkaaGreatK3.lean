import Derived.KernelRfl
import Derived.Test.YtoinnpeenpmgkaaGreatK2
set_option linter.unusedVariables false
set_option linter.unusedSimpArgs false
namespace Go.Proofs.X
open Go Go.Va Go.Proofs.Tryz
set_option maxRecDepth 100000
noncomputable section
abbrev E16:=eN [(116,AED)] {Ba:=[(3,[0,3,4])],BN:=[(3,[3])]}
def AzK a (z_:Int×ASJ):=sT 23 [(0,jb a),(3,.AK 0),(4,dI z_.1)] [I1 z_.2]
def AxD(a:ASJ):=λ(b:ASJ)=>xE 0 23 mr [I1 b]
def Vw(a:ASJ)(c:Int)(d:ASJ):ATP (AS7⊕ASJ):=
 bif decide (c<(a.length:Int))then
 if 0<=c/\c<a.length then
 (Re (a.getD c.toNat Ag.zero)).bind λe=>if 0<=c/\c<d.length then
 some (.inl (wI (c+1),d.set c.toNat (e.1,e.2.1,e.2.2.1,e.2.2.2.1,(e.2.2.2.2.1,e.2.2.2.2.2.1,()),e.2.2.2.2.2.2,())))
 else none
 else none
 else
 some (.inr d)
def KF a (z_:Int×ASJ):=Vw a z_.1 z_.2
def Sz a c d:=fix (KF a) (c,d)
theorem ABR a:A8 E16 0 3 (code f68) 58 (AzK a) (KF a) (AxD a):=by
 intro _;simp only[KF,Vw,ASm];kernel_rfl
def O7(a:ASJ):ATP ASJ:=
 if Ty.row Ag=true/\(0:Int)<=(a.length:Int)/\(a.length:Int)<=(a.length:Int)/\((88:Nat):Int)*(a.length:Int)<=(281474976710656:Int)/\(a.length:Int)<=(9223372036854775807:Int)then
 (Sz a 0 (List.replicate (a.length:Int).toNat (0,0,0,0,(0,([]:ASC),()),([]:ASC),()))).bind λb=>some b
 else none
def c68:=Ck [.d ATK] [⟨[.AB [] ATK],[],ASJ,λp=>O7 p.1.1,λr=>(.AK 0,[I1 r])⟩]
theorem AlD:An prog 68 c68:=Av (fn:=f68) ⟨⟨E16,pk ⟨Af9,trivial⟩,λ_ R K=>by
 simp(disch:=refine id ?_;kernel_rfl) only[O7,ASn,Sz,AJ (ABR _) (K:=A2 E16 f68 0 R K)];kernel_rfl⟩,trivial⟩
abbrev E17:=eN [(68,c68)] {}
def AF(a:ASz):ATP ASJ:=
 (O7 a.1).bind λb=>some b
def c25:=Ck [.d Ap] [⟨[.AB [] Ap],[],ASJ,λp=>AF p.1.1,λr=>(.pr H7 .u,[I1 r])⟩]
theorem Aba:An prog 25 c25:=Av (fn:=f25) ⟨⟨E17,pk ⟨AlD,trivial⟩,λ_ R K=>by
 simp only[AF,ASn];kernel_rfl⟩,trivial⟩
abbrev E18:=eN [(25,c25)] {}
def Nh(a:ASu):ATP (Int×Bool×ASJ×ASJ):=
 (AF a.2.2.1).bind λb=>(AF a.2.2.2.1).bind λc=>some (a.1,a.2.1,b,c)
def c48:=Ck [.d Ah] [⟨[.AB [] Ah],[],Int×Bool×ASJ×ASJ,λp=>Nh p.1.1,λr=>(.pr (dI r.1) (.pr (dB r.2.1) (.pr Pj (.pr dZ .u))),[I1 r.2.2.1,I1 r.2.2.2])⟩]
theorem Alu:An prog 48 c48:=Av (fn:=f48) ⟨⟨E18,pk ⟨Aba,trivial⟩,λ_ R K=>by
 simp only[Nh,ASn];kernel_rfl⟩,trivial⟩
abbrev E19:=eN [(48,c48)] {Ba:=[(3,[0,3,4])],BN:=[(3,[3])]}
def AzL a (z_:Int×ASK):=sT 23 (Anh a z_.1) [Ot z_.2]
def AxE(a:ASK):=λ(b:ASK)=>xE 0 23 mr [Ot b]
def TN(a:ASK)(c:Int)(d:ASK):ATP (ATc⊕ASK):=
 bif decide (c<(a.length:Int))then
 if 0<=c/\c<a.length then
 (Nh (a.getD c.toNat Ah.zero)).bind λe=>if 0<=c/\c<d.length then
 some (.inl (wI (c+1),d.set c.toNat (e.1,e.2.1,(e.2.2.1,()),(e.2.2.2,()),())))
 else none
 else none
 else
 some (.inr d)
def II a (z_:Int×ASK):=TN a z_.1 z_.2
def Qg a c d:=fix (II a) (c,d)
theorem ABS a:A8 E19 0 3 (code f11) 58 (AzL a) (II a) (AxE a):=by
 intro _;simp only[II,TN,ASm];kernel_rfl
def AL(a:ASK):ATP ASK:=
 if Ty.row Ah=true/\(0:Int)<=(a.length:Int)/\(a.length:Int)<=(a.length:Int)/\((64:Nat):Int)*(a.length:Int)<=(281474976710656:Int)/\(a.length:Int)<=(9223372036854775807:Int)then
 (Qg a 0 (List.replicate (a.length:Int).toNat (0,false,(([]:ASJ),()),(([]:ASJ),()),()))).bind λb=>some b
 else none
def c11:=Ck [.d ATG] [⟨[.AB [] ATG],[],ASK,λp=>AL p.1.1,λr=>(.AK 0,[Ot r])⟩]
theorem Ak5:An prog 11 c11:=Av (fn:=f11) ⟨⟨E19,pk ⟨Alu,trivial⟩,λ_ R K=>by
 simp(disch:=refine id ?_;kernel_rfl) only[AL,ASn,Qg,AJ (ABS _) (K:=A2 E19 f11 0 R K)];kernel_rfl⟩,trivial⟩
abbrev E20:=eN [] {}
def N3(a:Int):Bool:=((decide (a>=48))&&(decide (a<=57)))
theorem U20 R a K:TT E20 f181 R [dD ATA a] [] K=K (dB (N3 a)) []:=by
 refine .trans (b:=
 bif decide (a>=48)then
 K (dB (decide (a<=57))) []
 else
 K (dB false) []) (by kernel_rfl) ?_
 unfold N3;cases (decide (a>=48));rfl;rfl
def AFn:=Ck [.d ATA] [⟨[.AB [] ATA],[],Bool,λp=>some (N3 p.1.1),λr=>(dB r,[])⟩]
theorem AgU:An prog 181 AFn:=Av ⟨⟨E20,pk trivial,λ_ _ _=>U20 ..⟩,trivial⟩
abbrev E21:=eN [(181,AFn)] {Ba:=[(4,[0,3])],BN:=[(4,[2])],BM:=[(2,[0,16]),(7,[0,3,39])],Du:=[(2,[0]),(7,[0,3])]}
def AzO a (z_:Int):=sT 40 [(0,HZ a),(3,dI z_)] []
def AxH(a:ByteArray):=Sum.elim (λ(b:Unit)=>xR 40 [(2,dB false)] []) (λ(c:Unit)=>xE 0 40 [] [])
def AzN a d:=sT 40 [(0,HZ a),(3,dI d)] []
def AxG a d:=λ(e:Bool)=>xN 40 [(0,HZ a),(3,dI d),(39,dB e)] []
def Np(a:ByteArray)(d:Int):ATP Bool:=
 if(0:Int)<=d/\d<(a.size:Int)then
 bif !(N3 (Dc a d))then
 if(0:Int)<=d/\d<(a.size:Int)then
 bif decide ((Dc a d)<97)then
 some true
 else
 if(0:Int)<=d/\d<(a.size:Int)then
 some (decide ((Dc a d)>122))
 else none
 else none
 else
 some false
 else none
theorem ABU a d:AX E21 0 7 (cd f158 116) 24 (AzN a d) (Np a d) (AxG a d):=by
 unfold AX;simp only[Np,ASm];kernel_rfl
def N5(a:ByteArray)(d:Int):ATP (Int⊕(Unit⊕Unit)):=
 bif decide (d<(a.size:Int))then
 (Np a d).bind λe=>bif e then
 some (.inr (.inl ()))
 else
 some (.inl (wI (d+1)))
 else
 some (.inr (.inr ()))
def JZ a (z_:Int):=N5 a z_
def Zp a d:=fix (JZ a) d
theorem ABV a:A8 E21 0 4 (code f158) 58 (AzO a) (JZ a) (AxH a):=by
 intro _;simp(disch:=refine id ?_;kernel_rfl) only[JZ,N5,ASm,Bf (ABU ..) (K:=Ka E21 0 4)];kernel_rfl
def AzM a:=sT 40 [(0,HZ a)] []
def AxF a:=λ(g:Bool)=>xN 40 [(0,HZ a),(16,dB g)] []
def Rv(a:ByteArray):ATP Bool:=
 bif decide ((a.size:Int)<1)then
 some true
 else
 bif decide ((a.size:Int)>12)then
 some true
 else
 if(0:Int)<=(0:Int)/\(0:Int)<(a.size:Int)then
 some (N3 (Dc a 0))
 else none
theorem ABT a:AX E21 0 2 (code f158) 12 (AzM a) (Rv a) (AxF a):=by
 unfold AX;simp only[Rv,ASm];kernel_rfl
def QB(a:ByteArray):ATP Bool:=
 (Rv a).bind λg=>bif g then
 some false
 else
 (Zp a 0).bind (Sum.elim (λb=>some false) (λc=>some true))
def AE5:=Ck [.d .str] [⟨[.AB [] .str],[],Bool,λp=>QB p.1.1,λr=>(dB r,[])⟩]
theorem AgC:An prog 158 AE5:=Av (fn:=f158) ⟨⟨E21,pk ⟨AgU,trivial⟩,λ_ R K=>by
 simp(disch:=refine id ?_;kernel_rfl) only[QB,ASn,Bf (ABT _) (K:=A2 E21 f158 0 R K),Zp,AJ (ABV _) (K:=A2 E21 f158 0 R K)];kernel_rfl⟩,trivial⟩
abbrev E22:=eN [] {}
def BO(a b c:Int):Bool:=((decide (a>=b))&&(decide (a<=c)))
theorem U22 R a b c K:TT E22 f133 R [dI a,dI b,dI c] [] K=K (dB (BO a b c)) []:=by
 refine .trans (b:=
 bif decide (a>=b)then
 K (dB (decide (a<=c))) []
 else
 K (dB false) []) (by kernel_rfl) ?_
 unfold BO;cases (decide (a>=b));rfl;rfl
def qK:=Ck [.d ATy,.d ATy,.d ATy] [⟨[.AB [] ATy,.AB [] ATy,.AB [] ATy],[],Bool,λp=>some (BO p.1.1 p.1.2.1 p.1.2.2.1),λr=>(dB r,[])⟩]
theorem Ts:An prog 133 qK:=Av ⟨⟨E22,pk trivial,λ_ _ _=>U22 ..⟩,trivial⟩
abbrev E23:=eN [(133,qK),(158,AE5)] {Ba:=[(5,[0,3,4]),(10,[0,3,4,5])],BN:=[(5,[2,3]),(10,[0,2,3,4])],BM:=[(8,[0,3,4,30])],Du:=[(8,[0,3,4])]}
def AzR a (z_:Int×Int):=sT 56 [(0,Ar a),(3,dI z_.1),(4,dI z_.2)] []
def AxK(a:ASG):=Sum.elim (λ(b:Int)=>xR 56 [(2,dB false),(3,dI b)] []) (λ(c:Int)=>xE 0 56 [(3,dI c)] [])
def AzQ a d e (z_:Int):=sT 56 [(0,Ar a),(3,dI d),(4,dI e),(5,dI z_)] []
def AxJ a d e:=Sum.elim (λ(g:Unit)=>xR 56 [(0,Ar a),(2,dB false),(3,dI d),(4,dI e)] []) (λ(i:Unit)=>xE 2 56 [(0,Ar a),(3,dI d),(4,dI e)] [])
def Mi(a:ASG)(d e j:Int):ATP (Int⊕(Unit⊕Unit)):=
 bif decide (j<e)then
 if 0<=j/\j<a.length then
 if 0<=e/\e<a.length then
 bif Jf (a.getD j.toNat Ab.zero).1 (a.getD e.toNat Ab.zero).1 then
 some (.inr (.inl ()))
 else
 some (.inl (wI (j+1)))
 else none
 else none
 else
 some (.inr (.inr ()))
def IU a d e (z_:Int):=Mi a d e z_
def Yw a d e j:=fix (IU a d e) j
theorem ABX a d e:A8 E23 0 10 (cd f132 244) 202 (AzQ a d e) (IU a d e) (AxJ a d e):=by
 intro _;simp only[IU,Mi,ASm];kernel_rfl
def AzP a d e:=sT 56 [(0,Ar a),(3,dI d),(4,dI e)] []
def AxI a d e:=λ(k:Bool)=>xN 56 [(0,Ar a),(3,dI d),(4,dI e),(30,dB k)] []
def PF(a:ASG)(d e:Int):ATP Bool:=
 if 0<=e/\e<a.length then
 (QB (a.getD e.toNat Ab.zero).1).bind λl=>bif !l then
 some true
 else
 if 0<=e/\e<a.length then
 some (!(BO (a.getD e.toNat Ab.zero).2.1 1 4096))
 else none
 else none
theorem ABW a d e:AX E23 0 8 (cd f132 244) 48 (AzP a d e) (PF a d e) (AxI a d e):=by
 unfold AX;simp only[PF,ASm];kernel_rfl
def Mj(a:ASG)(d e:Int):ATP (AS1⊕(Int⊕Int)):=
 bif decide (e<(a.length:Int))then
 (PF a d e).bind λk=>bif k then
 some (.inr (.inl d))
 else
 (Yw a d e 0).bind (Sum.elim (λg=>some (.inr (.inl d))) (λi=>if 0<=e/\e<a.length then
 some (.inl (wI (d+(a.getD e.toNat Ab.zero).2.1),wI (e+1)))
 else none))
 else
 some (.inr (.inr d))
def IV a (z_:Int×Int):=Mj a z_.1 z_.2
def Yx a d e:=fix (IV a) (d,e)
theorem ABY a:A8 E23 0 5 (code f132) 122 (AzR a) (IV a) (AxK a):=by
 intro _;simp(disch:=refine id ?_;kernel_rfl) only[IV,Mj,ASm,Bf (ABW ..) (K:=Ka E23 0 5),Yw,AJ (ABX _ _ _) (K:=Ka E23 0 5)];kernel_rfl
def KP(a:ASG):ATP Bool:=
 bif decide ((a.length:Int)>60)then
 some false
 else
 (Yx a 0 0).bind (Sum.elim (λb=>some false) (λc=>some (decide (c<=20000))))
def Ak7:=Ck [.d ATE] [⟨[.AB [] ATE],[],Bool,λp=>KP p.1.1,λr=>(dB r,[])⟩]
theorem jH:An prog 132 Ak7:=Av (fn:=f132) ⟨⟨E23,pk ⟨Ts,AgC,trivial⟩,λ_ R K=>by
 simp(disch:=refine id ?_;kernel_rfl) only[KP,ASn,Yx,AJ (ABY _) (K:=A2 E23 f132 0 R K)];kernel_rfl⟩,trivial⟩
abbrev E24:=eN [] {}
def C1(a:ASv):Bool:=((a.1==0)&&((a.2.1.length:Int)==0))
theorem U24 R a K:TT E24 f187 R [Jy a] [] K=K (dB (C1 a)) []:=by
 refine .trans (b:=
 bif a.1==0 then
 K (dB ((a.2.1.length:Int)==0)) []
 else
 K (dB false) []) (by kernel_rfl) ?_
 unfold C1;cases (a.1==0);rfl;rfl
def AFq:=Ck [.d Ai] [⟨[.AB [] Ai],[],Bool,λp=>some (C1 p.1.1),λr=>(dB r,[])⟩]
theorem AgX:An prog 187 AFq:=Av ⟨⟨E24,pk trivial,λ_ _ _=>U24 ..⟩,trivial⟩
abbrev E25:=eN [(133,qK)] {}
def Bc(a:Int):Bool:=(BO a 4 9)
def AFr:=Ck [.d ATy] [⟨[.AB [] ATy],[],Bool,λp=>some (Bc p.1.1),λr=>(dB r,[])⟩]
theorem AgY:An prog 188 AFr:=Av (fn:=f188) ⟨⟨E25,pk ⟨Ts,trivial⟩,λ_ _ _=>by kernel_rfl⟩,trivial⟩
abbrev E26:=eN [] {}
def Jb(a:ASv)(b:Int):ATP Int:=
 if 0<=(wI (Int.tdiv b 64))/\(wI (Int.tdiv b 64))<a.2.1.length then
 if(IntKind.u64.wrap (Int.tmod b 64))<(0:Int)then none else
 some (IntKind.u8.wrap (cA .u64 (SF .u64 (a.2.1.getD (wI (Int.tdiv b 64)).toNat ATz.zero) (IntKind.u64.wrap (Int.tmod b 64))) 1))
 else none
def Ak9:=Ck [.d Ai,.d ATy] [⟨[.AB [] Ai,.AB [] ATy],[],Int,λp=>Jb p.1.1 p.1.2.1,λr=>(dD ATA r,[])⟩]
theorem jJ:An prog 149 Ak9:=Av (fn:=f149) ⟨⟨E26,pk trivial,λ_ R K=>by
 simp only[Jb,ASn];kernel_rfl⟩,trivial⟩
abbrev E27:=eN [(133,qK),(149,Ak9)] {Ba:=[(4,[1,3])],BN:=[(4,[2])],BM:=[(2,[1,17])],Du:=[(2,[1])]}
def AzS a (z_:Int):=sT 32 [(1,Aq),(3,dI z_)] [.box (Jy a)]
def AxL(a:ASv):=Sum.elim (λ(b:Unit)=>xR 32 [(2,dB false)] []) (λ(c:Unit)=>xE 0 32 [] [])
def NT(a:ASv)(d:Int):ATP (Int⊕(Unit⊕Unit)):=
 bif decide (d<(wI (64*(a.2.1.length:Int))))then
 (Jb a d).bind λe=>bif e !=0 then
 some (.inr (.inl ()))
 else
 some (.inl (wI (d+1)))
 else
 some (.inr (.inr ()))
def JS a (z_:Int):=NT a z_
def VJ a d:=fix (JS a) d
theorem AB0 a:A8 E27 0 4 (code f189) 58 (AzS a) (JS a) (AxL a):=by
 intro _;simp only[JS,NT,ASm];kernel_rfl
def Anl a:=sT 32 [(1,Aq)] [.box (Jy a)]
def AeV(a:ASv)(m0:Bool):Ex×St:=xN 32 [(1,Aq),(17,dB m0)] [.box (Jy a)]
theorem ABZ a:Xk E27 0 2 (code f189) (pt 12) (Anl a)=some (AeV a ((!(BO a.1 1 4096))||((a.2.1.length:Int) !=(wI (Int.tdiv (wI (a.1+63)) 64))))):=by
 refine .trans (b:=
 bif !(BO a.1 1 4096)then
 some (AeV a true)
 else
 some (AeV a ((a.2.1.length:Int) !=(wI (Int.tdiv (wI (a.1+63)) 64))))) (by kernel_rfl) ?_
 cases (!(BO a.1 1 4096));rfl;rfl
def QA(a:ASv):ATP Bool:=
 OQ (Anl a) (
 bif (!(BO a.1 1 4096))||((a.2.1.length:Int) !=(wI (Int.tdiv (wI (a.1+63)) 64)))then
 some false
 else
 (VJ a a.1).bind (Sum.elim (λb=>some false) (λc=>some true)))
def AFs:=Ck [.d Ai] [⟨[.AB [] Ai],[],Bool,λp=>QA p.1.1,λr=>(dB r,[])⟩]
theorem AgZ:An prog 189 AFs:=Av (fn:=f189) ⟨⟨E27,pk ⟨Ts,jJ,trivial⟩,λ_ R K=>by
 simp(disch:=refine id ?_;kernel_rfl) only[QA,ASn,Ey (ABZ _) (K:=A2 E27 f189 0 R K),VJ,AJ (AB0 _) (K:=A2 E27 f189 0 R K)];kernel_rfl⟩,trivial⟩
abbrev E28:=eN [(133,qK),(187,AFq),(188,AFr),(189,AFs)] {Ba:=[(2,[0,2,4,7])],BN:=[(2,[0,4,6])],BM:=[(7,[0,4,63]),(8,[0,4,6])],Du:=[(7,[0,4]),(8,[0,4])]}
def AzU a b:=sT 109 [(0,Ar a),(4,Aq)] (VZ b)
def AxN a b:=Sum.elim (λ(c:Unit)=>xR 109 [(0,Ar a),(4,Aq),(6,dB false)] (VZ b)) (λ(d:Unit)=>xN 109 [(0,Ar a),(4,Aq)] (VZ b))
def Anm a b:=sT 109 [(0,Ar a),(4,Aq)] (VZ b)
def LW(a:ASG)(b:ASt)(m0:Bool):Ex×St:=xN 109 [(0,Ar a),(4,Aq),(63,dB m0)] (VZ b)
theorem AB2 a b:Xk E28 0 7 (cd f171 14) (pt 2) (Anm a b)=some (LW a b (bif b.1 !=1 then((b.2.1 !=0)||(bif b.1 !=2 then((!(C1 b.2.2.2.2.1))||(bif b.1 !=4 then((b.2.2.2.1 !=0)||((!(Bc b.1))&&(b.2.2.1 !=0)))else((!(Bc b.1))&&(b.2.2.1 !=0))))else(bif b.1 !=4 then((b.2.2.2.1 !=0)||((!(Bc b.1))&&(b.2.2.1 !=0)))else((!(Bc b.1))&&(b.2.2.1 !=0)))))else(bif b.1 !=2 then((!(C1 b.2.2.2.2.1))||(bif b.1 !=4 then((b.2.2.2.1 !=0)||((!(Bc b.1))&&(b.2.2.1 !=0)))else((!(Bc b.1))&&(b.2.2.1 !=0))))else(bif b.1 !=4 then((b.2.2.2.1 !=0)||((!(Bc b.1))&&(b.2.2.1 !=0)))else((!(Bc b.1))&&(b.2.2.1 !=0)))))):=by
 refine .trans (b:=
 bif b.1 !=1 then
 bif b.2.1 !=0 then
 some (LW a b true)
 else
 bif b.1 !=2 then
 bif !(C1 b.2.2.2.2.1)then
 some (LW a b true)
 else
 bif b.1 !=4 then
 bif b.2.2.2.1 !=0 then
 some (LW a b true)
 else
 bif !(Bc b.1)then
 some (LW a b (b.2.2.1 !=0))
 else
 some (LW a b false)
 else
 bif !(Bc b.1)then
 some (LW a b (b.2.2.1 !=0))
 else
 some (LW a b false)
 else
 bif b.1 !=4 then
 bif b.2.2.2.1 !=0 then
 some (LW a b true)
 else
 bif !(Bc b.1)then
 some (LW a b (b.2.2.1 !=0))
 else
 some (LW a b false)
 else
 bif !(Bc b.1)then
 some (LW a b (b.2.2.1 !=0))
 else
 some (LW a b false)
 else
 bif b.1 !=2 then
 bif !(C1 b.2.2.2.2.1)then
 some (LW a b true)
 else
 bif b.1 !=4 then
 bif b.2.2.2.1 !=0 then
 some (LW a b true)
 else
 bif !(Bc b.1)then
 some (LW a b (b.2.2.1 !=0))
 else
 some (LW a b false)
 else
 bif !(Bc b.1)then
 some (LW a b (b.2.2.1 !=0))
 else
 some (LW a b false)
 else
 bif b.1 !=4 then
 bif b.2.2.2.1 !=0 then
 some (LW a b true)
 else
 bif !(Bc b.1)then
 some (LW a b (b.2.2.1 !=0))
 else
 some (LW a b false)
 else
 bif !(Bc b.1)then
 some (LW a b (b.2.2.1 !=0))
 else
 some (LW a b false)) (by kernel_rfl) ?_
 cases (b.1 !=1);cases (b.1 !=2);cases (b.1 !=4);cases (!(Bc b.1));rfl;rfl;cases (b.2.2.2.1 !=0);cases (!(Bc b.1));rfl;rfl;rfl;cases (!(C1 b.2.2.2.2.1));cases (b.1 !=4);cases (!(Bc b.1));rfl;rfl;cases (b.2.2.2.1 !=0);cases (!(Bc b.1));rfl;rfl;rfl;rfl;cases (b.2.1 !=0);cases (b.1 !=2);cases (b.1 !=4);cases (!(Bc b.1));rfl;rfl;cases (b.2.2.2.1 !=0);cases (!(Bc b.1));rfl;rfl;rfl;cases (!(C1 b.2.2.2.2.1));cases (b.1 !=4);cases (!(Bc b.1));rfl;rfl;cases (b.2.2.2.1 !=0);cases (!(Bc b.1));rfl;rfl;rfl;rfl;rfl
def Rw(a:ASG)(b:ASt):ATP (Unit⊕Unit):=
 OQ (Anm a b) (
 bif bif (b.1 !=1)then((b.2.1 !=0)||(bif (b.1 !=2)then((!(C1 b.2.2.2.2.1))||(bif (b.1 !=4)then((b.2.2.2.1 !=0)||((!(Bc b.1))&&(b.2.2.1 !=0)))else((!(Bc b.1))&&(b.2.2.1 !=0))))else(bif (b.1 !=4)then((b.2.2.2.1 !=0)||((!(Bc b.1))&&(b.2.2.1 !=0)))else((!(Bc b.1))&&(b.2.2.1 !=0)))))else(bif (b.1 !=2)then((!(C1 b.2.2.2.2.1))||(bif (b.1 !=4)then((b.2.2.2.1 !=0)||((!(Bc b.1))&&(b.2.2.1 !=0)))else((!(Bc b.1))&&(b.2.2.1 !=0))))else(bif (b.1 !=4)then((b.2.2.2.1 !=0)||((!(Bc b.1))&&(b.2.2.1 !=0)))else((!(Bc b.1))&&(b.2.2.1 !=0))))then
 some (.inl ())
 else
 some (.inr ()))
theorem AB3 a b:AX E28 0 8 (code f171) 14 (AzU a b) (Rw a b) (AxN a b):=by
 unfold AX;simp(disch:=refine id ?_;kernel_rfl) only[Rw,ASm,Ey (AB2 ..) (K:=Ui E28 0 8)];kernel_rfl
def AzT a e b (z_:Int):=sT 109 [(0,Ar a),(2,dI e),(4,Aq),(7,dI z_)] (VZ b)
def AxM a (e:Int) b:=Sum.elim (λ(g:Unit)=>xR 109 [(0,Ar a),(4,Aq),(6,dB false)] (VZ b)) (λ(i:Unit)=>xE 0 109 [(0,Ar a),(4,Aq)] (VZ b))
def N6(a:ASG)(e:Int)(b:ASt)(j:Int):ATP (Int⊕(Unit⊕Unit)):=
 bif decide (j<(b.2.2.2.2.2.1.length:Int))then
 if 0<=j/\j<b.2.2.2.2.2.1.length then
 bif !(BO (b.2.2.2.2.2.1.getD j.toNat ATy.zero) 0 (wI (e-1)))then
 some (.inr (.inl ()))
 else
 some (.inl (wI (j+1)))
 else none
 else
 some (.inr (.inr ()))
def J0 a e b (z_:Int):=N6 a e b z_
def VM a e b j:=fix (J0 a e b) j
theorem AB1 a e b:A8 E28 0 2 (code f171) 26 (AzT a e b) (J0 a e b) (AxM a e b):=by
 intro _;simp only[J0,N6,ASm];kernel_rfl
def QC(a:ASG)(b:ASt)(e:Int):ATP Bool:=
 (VM a e b 0).bind (Sum.elim (λg=>some false) (λi=>(Rw a b).bind (Sum.elim (λc=>some false) (λd=>bif b.1==1 then
 bif (b.2.2.2.2.2.1.length:Int)==0 then
 some (BO b.2.1 0 (wI ((a.length:Int)-1)))
 else
 some false
 else
 bif b.1==2 then
 bif (b.2.2.2.2.2.1.length:Int)==0 then
 (QA b.2.2.2.2.1).bind λk=>some k
 else
 some false
 else
 bif b.1==3 then
 some (decide ((b.2.2.2.2.2.1.length:Int)>=2))
 else
 bif Bc b.1 then
 some ((b.2.2.2.2.2.1.length:Int)==1)
 else
 some false))))
def AFf:=Ck [.d ATE,.d Ag,.d ATy] [⟨[.AB [] ATE,.AB [] Ag,.AB [] ATy],[],Bool,λp=>QC p.1.1 p.1.2.1 p.1.2.2.1,λr=>(dB r,[])⟩]
theorem AgM:An prog 171 AFf:=Av (fn:=f171) ⟨⟨E28,pk ⟨Ts,AgX,AgY,AgZ,trivial⟩,λ_ R K=>by
 simp(disch:=refine id ?_;kernel_rfl) only[QC,ASn,VM,AJ (AB1 _ _ _) (K:=A2 E28 f171 0 R K),Bf (AB3 ..) (K:=A2 E28 f171 0 R K)];kernel_rfl⟩,trivial⟩
abbrev E29:=eN [(133,qK)] {Ba:=[(3,[0,2,4,7,8])],BN:=[(3,[0,4,7])],BM:=[(13,[4,59]),(17,[4,7,28,66]),(22,[4,7,28,77]),(28,[6,7])],Du:=[(13,[4,7]),(17,[4,7,28]),(22,[4,7,28]),(28,[0,4,7])]}
def AzW a b c:=sT 95 [(0,Ar a),(4,Aq),(7,dI b)] (VZ c)
def AxP(a:ASG) b (c:ASt):=Sum.elim (λ(d:Int)=>xR 95 [(6,dI d),(7,dI b)] []) (Sum.elim (λ(e:Int)=>xR 95 [(6,dI e)] []) (λ(g:Unit)=>xN 95 [(7,dI b)] []))
def Anp b (c:ASt):=sT 95 [(4,Aq),(7,dI b),(28,dI c.1)] (VZ c)
def AeX(b:Int)(c:ASt)(m0:Bool):Ex×St:=xN 95 [(4,Aq),(7,dI b),(28,dI c.1),(77,dB m0)] (VZ c)
theorem AB7 b c:Xk E29 0 22 (cd f172 30) (pt 3582) (Anp b c)=some (AeX b c (bif c.1==7 then(c.1==7)else(c.1==8))):=by
 refine .trans (b:=
 bif c.1==7 then
 some (AeX b c (c.1==7))
 else
 some (AeX b c (c.1==8))) (by kernel_rfl) ?_
 cases (c.1==7);rfl;rfl
def Ano b (c:ASt):=sT 95 [(4,Aq),(7,dI b),(28,dI c.1)] (VZ c)
def AeW(b:Int)(c:ASt)(m0:Bool):Ex×St:=xN 95 [(4,Aq),(7,dI b),(28,dI c.1),(66,dB m0)] (VZ c)
theorem AB6 b c:Xk E29 0 17 (cd f172 30) (pt 894) (Ano b c)=some (AeW b c (bif c.1==5 then(c.1==5)else(c.1==6))):=by
 refine .trans (b:=
 bif c.1==5 then
 some (AeW b c (c.1==5))
 else
 some (AeW b c (c.1==6))) (by kernel_rfl) ?_
 cases (c.1==5);rfl;rfl
def Ann b c:=sT 95 [(4,Aq),(7,dI b)] (VZ c)
def AaS(c:ASt)(m0:Bool):Ex×St:=xN 95 [(4,Aq),(59,dB m0)] (VZ c)
theorem AB5 b c:Xk E29 0 13 (cd f172 30) (pt 1784) (Ann b c)=some (AaS c ((decide (c.2.2.2.1<0))||((decide (c.2.2.1<c.2.2.2.1))||(decide (c.2.2.1>=b))))):=by
 refine .trans (b:=
 bif decide (c.2.2.2.1<0)then
 some (AaS c true)
 else
 bif decide (c.2.2.1<c.2.2.2.1)then
 some (AaS c true)
 else
 some (AaS c (decide (c.2.2.1>=b)))) (by kernel_rfl) ?_
 cases (decide (c.2.2.2.1<0));cases (decide (c.2.2.1<c.2.2.2.1));rfl;rfl;rfl
def Rx(a:ASG)(b:Int)(c:ASt):ATP (Int⊕(Int⊕Unit)):=
 bif c.1==1 then
 if(0:Int)<=c.2.1/\c.2.1<(a.length:Int)then
 some (.inl (a.getD c.2.1.toNat Ab.zero).2.1)
 else none
 else
 bif c.1==2 then
 some (.inl c.2.2.2.2.1.1)
 else
 bif c.1==4 then
 OQ (Ann b c) (
 bif (decide (c.2.2.2.1<0))||((decide (c.2.2.1<c.2.2.2.1))||(decide (c.2.2.1>=b)))then
 some (.inr (.inl (-1)))
 else
 some (.inr (.inl (wI ((wI (c.2.2.1-c.2.2.2.1))+1)))))
 else
 OQ (Ano b c) (
 bif bif (c.1==5)then(c.1==5)else(c.1==6)then
 bif !(BO c.2.2.1 0 4096)then
 some (.inl (-1))
 else
 some (.inl (wI (b+c.2.2.1)))
 else
 OQ (Anp b c) (
 bif bif (c.1==7)then(c.1==7)else(c.1==8)then
 bif !(BO c.2.2.1 0 4096)then
 some (.inl (-1))
 else
 some (.inr (.inr ()))
 else
 bif c.1==9 then
 bif !(BO c.2.2.1 1 4096)then
 some (.inl (-1))
 else
 some (.inl (wI (b*c.2.2.1)))
 else
 some (.inr (.inr ()))))
theorem AB8 a b c:AX E29 0 28 (code f172) 30 (AzW a b c) (Rx a b c) (AxP a b c):=by
 unfold AX;simp(disch:=refine id ?_;kernel_rfl) only[Rx,ASm,Ey (AB5 ..) (K:=Ui E29 0 28),Ey (AB6 ..) (K:=Ui E29 0 28),Ey (AB7 ..) (K:=Ui E29 0 28)];kernel_rfl
def AzV a i c (z_:Int×Int):=sT 95 [(0,Ar a),(2,B8 i),(4,Aq),(7,dI z_.1),(8,dI z_.2)] (VZ c)
def AxO a (i:ASC) c:=λ(b:Int)=>xE 0 95 [(0,Ar a),(4,Aq),(7,dI b)] (VZ c)
def Xw(a:ASG)(i:ASC)(c:ASt)(j k:Int):ATP (AS1⊕Int):=
 bif decide (k<(c.2.2.2.2.2.1.length:Int))then
 if 0<=k/\k<c.2.2.2.2.2.1.length then
 if(0:Int)<=(c.2.2.2.2.2.1.getD k.toNat ATy.zero)/\(c.2.2.2.2.2.1.getD k.toNat ATy.zero)<(i.length:Int)then
 some (.inl ((if(wI (j+(i.getD (c.2.2.2.2.2.1.getD k.toNat ATy.zero).toNat ATy.zero)))<8192 then(wI (j+(i.getD (c.2.2.2.2.2.1.getD k.toNat ATy.zero).toNat ATy.zero)))else 8192),wI (k+1)))
 else none
 else none
 else
 some (.inr j)
def N7 a i c (z_:Int×Int):=Xw a i c z_.1 z_.2
def Zq a i c j k:=fix (N7 a i c) (j,k)
theorem AB4 a i c:A8 E29 0 3 (code f172) 58 (AzV a i c) (N7 a i c) (AxO a i c):=by
 intro _;simp only[N7,Xw,ASm];kernel_rfl
def TY(a:ASG)(c:ASt)(i:ASC):ATP Int:=
 (Zq a i c 0 0).bind λb=>(Rx a b c).bind (Sum.elim (λd=>some d) (Sum.elim (λe=>some e) (λg=>some b)))
def AFg:=Ck [.d ATE,.d Ag,.d ATD] [⟨[.AB [] ATE,.AB [] Ag,.AB [] ATD],[],Int,λp=>TY p.1.1 p.1.2.1 p.1.2.2.1,λr=>(dI r,[])⟩]
theorem AgN:An prog 172 AFg:=Av (fn:=f172) ⟨⟨E29,pk ⟨Ts,trivial⟩,λ_ R K=>by
 simp(disch:=refine id ?_;kernel_rfl) only[TY,ASn,Zq,AJ (AB4 _ _ _) (K:=A2 E29 f172 0 R K),Bf (AB8 ..) (K:=A2 E29 f172 0 R K)];kernel_rfl⟩,trivial⟩
abbrev E30:=eN [(132,Ak7),(133,qK),(171,AFf),(172,AFg)] {Ba:=[(7,{Be:=[0,3,5,6,7,8],Cj:=[(6,false,.row [] 2 ATy true)]}),(16,[0,3,5,6,7,8,10]),(20,[5,6,7,11])],BN:=[(7,{Be:=[4,5,6,7],RU:=[(7,false,ATF)]}),(16,[0,3,5,6,7,8]),(20,[4,6])],BM:=[(3,[0,3,5,27])],Du:=[(3,[0,3,5])],iq:=[(0,.row [] 2 ATy true)]}
def Az0 a b (z_:Int):=sT 103 [(5,.zs),(6,.AK 0),(7,Z5 a),(11,dI z_)] [AA b]
def AxT(a:ASD) b:=Sum.elim (λ(c:Unit)=>xR 103 [(4,.zs),(6,.AK 0)] [AA b]) (λ(d:Unit)=>xE 4 103 [(6,.AK 0)] [AA b])
def KW(a:ASD)(b:ASC)(e:Int):ATP (Int⊕(Unit⊕Unit)):=
 bif decide ((wI (e+1))<(a.length:Int))then
 if 0<=e/\e<a.length then
 bif !(a.getD e.toNat (Ty.zero .bool))then
 some (.inr (.inl ()))
 else
 some (.inl (wI (e+1)))
 else none
 else
 some (.inr (.inr ()))
def HD a b (z_:Int):=KW a b z_
def SR a b e:=fix (HD a b) e
theorem ACc a b:A8 E30 0 20 (code f148) 1018 (Az0 a b) (HD a b) (AxT a b):=by
 intro _;simp only[HD,KW,ASm];kernel_rfl
def AzZ g i (z_:Int×ASC×ASD):=sT 103 [(0,Ar g),(3,Aq),(5,.zs),(6,.AK 1),(7,.AK 2),(8,dI z_.1)] (tB i z_.2.1 z_.2.2)
def AxS(g:ASG)(i:ASz):=Sum.elim (λ(j:AS6)=>xR 103 [(4,.zs),(5,.zs),(6,.AK 0),(7,Z5 j.1)] [AA j.2]) (λ(k:AS6)=>xE 0 103 [(5,.zs),(6,.AK 0),(7,Z5 k.1)] [AA k.2])
def AzY g l i n (z_:Int×ASD):=sT 103 [(0,Ar g),(3,Aq),(5,.zs),(6,.AK 1),(7,.AK 2),(8,dI l),(10,dI z_.1)] (tB i n z_.2)
def AxR g l i n:=λ(o:ASD)=>xE 2 103 [(0,Ar g),(3,Aq),(5,.zs),(6,.AK 1),(7,.AK 2),(8,dI l)] (tB i n o)
def KU(g:ASG)(l:Int)(i:ASz)(n:ASC)(q:Int)(s:ASD):ATP ((Int×ASD)⊕ASD):=
 if 0<=l/\l<i.1.length then
 bif decide (q<((i.1.getD l.toNat Ag.zero).2.2.2.2.2.1.length:Int))then
 if 0<=l/\l<i.1.length then
 if 0<=q/\q<(i.1.getD l.toNat Ag.zero).2.2.2.2.2.1.length then
 if(0:Int)<=((i.1.getD l.toNat Ag.zero).2.2.2.2.2.1.getD q.toNat ATy.zero)/\((i.1.getD l.toNat Ag.zero).2.2.2.2.2.1.getD q.toNat ATy.zero)<(s.length:Int)then
 some (.inl (wI (q+1),s.set ((i.1.getD l.toNat Ag.zero).2.2.2.2.2.1.getD q.toNat ATy.zero).toNat true))
 else none
 else none
 else none
 else
 some (.inr s)
 else none
def HB g l i n (z_:Int×ASD):=KU g l i n z_.1 z_.2
def SQ g l i n q s:=fix (HB g l i n) (q,s)
theorem ACa g l i n:A8 E30 0 16 (cd f148 1012) 830 (AzY g l i n) (HB g l i n) (AxR g l i n):=by
 intro _;simp only[HB,KU,ASm];kernel_rfl
def KV(g:ASG)(i:ASz)(l:Int)(t:ASC)(u:ASD):ATP ((Int×ASC×ASD)⊕(AS6⊕AS6)):=
 bif decide (l<(i.1.length:Int))then
 if 0<=l/\l<i.1.length then
 (QC g (i.1.getD l.toNat Ag.zero) l).bind λv=>bif !v then
 some (.inr (.inl (u,t)))
 else
 if 0<=l/\l<i.1.length then
 (TY g (i.1.getD l.toNat Ag.zero) t).bind λw=>bif !(BO w 1 4096)then
 some (.inr (.inl (u,t)))
 else
 if(t.length+([w]:ASC).length)*8<=140737488355328 then
 (SQ g l i (t++([w]:ASC)) 0 u).bind λo=>some (.inl (wI (l+1),t++([w]:ASC),o))
 else none
 else none
 else none
 else
 some (.inr (.inr (u,t)))
def HC g i (z_:Int×ASC×ASD):=KV g i z_.1 z_.2.1 z_.2.2
def N8 g i l t u:=fix (HC g i) (l,t,u)
theorem ACb g i:A8 E30 0 7 (code f148) 506 (AzZ g i) (HC g i) (AxS g i):=by
 intro _;simp(disch:=refine id ?_;kernel_rfl) only[HC,KV,ASm,SQ,AJ (ACa _ _ _ _) (K:=Ka E30 0 7)];kernel_rfl
def AzX g i:=sT 103 [(0,Ar g),(3,Aq),(5,.zs)] [.box (LR i)]
def AxQ g i:=λ(x:Bool)=>xN 103 [(0,Ar g),(3,Aq),(5,.zs),(27,dB x)] [.box (LR i)]
def G5(g:ASG)(i:ASz):ATP Bool:=
 (KP g).bind λy=>bif !y then
 some true
 else
 bif decide ((i.1.length:Int)<1)then
 some true
 else
 some (decide ((i.1.length:Int)>400))
theorem AB9 g i:AX E30 0 3 (code f148) 28 (AzX g i) (G5 g i) (AxQ g i):=by
 unfold AX;simp only[G5,ASm];kernel_rfl
def Lz(g:ASG)(i:ASz):ATP ASC:=
 (G5 g i).bind λx=>bif x then
 some ([]:ASC)
 else
 if Ty.row .bool=true/\(0:Int)<=(i.1.length:Int)/\(i.1.length:Int)<=(i.1.length:Int)/\((1:Nat):Int)*(i.1.length:Int)<=(281474976710656:Int)/\(i.1.length:Int)<=(9223372036854775807:Int)then
 (N8 g i 0 ([]:ASC) (List.replicate (i.1.length:Int).toNat false)).bind (Sum.elim (λj=>some ([]:ASC)) (λk=>(SR k.1 k.2 0).bind (Sum.elim (λc=>some ([]:ASC)) (λd=>some k.2))))
 else none
def AEX:=Ck [.d ATE,.d Ap] [⟨[.AB [] ATE,.AB [] Ap],[],ASC,λp=>Lz p.1.1 p.1.2.1,λr=>(.AK 0,[AA r])⟩]
theorem Agu:An prog 148 AEX:=Av (fn:=f148) ⟨⟨E30,pk ⟨jH,Ts,AgM,AgN,trivial⟩,λ_ R K=>by
 simp(disch:=refine id ?_;kernel_rfl) only[Lz,ASn,Bf (AB9 ..) (K:=A2 E30 f148 0 R K),N8,AJ (ACb _ _) (K:=A2 E30 f148 0 R K),SR,AJ (ACc _ _) (K:=A2 E30 f148 0 R K)];kernel_rfl⟩,trivial⟩
abbrev E31:=eN [(148,AEX)] {}
def Fh(a:ASG)(b:ASz):ATP Int:=
 (Lz a b).bind λc=>bif (c.length:Int)==0 then
 some (-1)
 else
 if 0<=(wI ((c.length:Int)-1))/\(wI ((c.length:Int)-1))<c.length then
 some (c.getD (wI ((c.length:Int)-1)).toNat ATy.zero)
 else none
def Avf:=Ck [.d ATE,.d Ap] [⟨[.AB [] ATE,.AB [] Ap],[],Int,λp=>Fh p.1.1 p.1.2.1,λr=>(dI r,[])⟩]
theorem uB:An prog 111 Avf:=Av (fn:=f111) ⟨⟨E31,pk ⟨Agu,trivial⟩,λ_ R K=>by
 simp only[Fh,ASn];kernel_rfl⟩,trivial⟩
abbrev E32:=eN [(111,Avf),(132,Ak7),(133,qK)] {Ba:=[(4,[0,1,5])],BN:=[(4,[4])],BM:=[(2,[0,1,14]),(8,[0,1,5,67])],Du:=[(2,[0,1]),(8,[0,1,5,6])]}
def Az3 a b (z_:Int):=sT 68 [(0,Ar a),(1,Bl b),(5,dI z_)] []
def AxW(a:ASG)(b:ASK):=Sum.elim (λ(c:Unit)=>xR 68 mD []) (λ(d:Unit)=>xE 0 68 [] [])
def Az2 a b e g:=sT 68 [(0,Ar a),(1,Bl b),(5,dI e),(6,dI g)] []
def AxV a b e (g:Int):=λ(i:Bool)=>xN 68 [(0,Ar a),(1,Bl b),(5,dI e),(67,dB i)] []
def HA(a:ASG)(b:ASK)(e g:Int):ATP Bool:=
 if 0<=e/\e<b.length then
 bif !(BO (b.getD e.toNat Ah.zero).1 1 1000000)then
 some true
 else
 bif decide (e>0)then
 if 0<=e/\e<b.length then
 if 0<=(wI (e-1))/\(wI (e-1))<b.length then
 bif decide ((b.getD e.toNat Ah.zero).1<=(b.getD (wI (e-1)).toNat Ah.zero).1)then
 some true
 else
 bif decide (g<0)then
 some true
 else
 if 0<=e/\e<b.length then
 (Fh a (b.getD e.toNat Ah.zero).2.2.2.1).bind λj=>some (j !=g)
 else none
 else none
 else none
 else
 bif decide (g<0)then
 some true
 else
 if 0<=e/\e<b.length then
 (Fh a (b.getD e.toNat Ah.zero).2.2.2.1).bind λk=>some (k !=g)
 else none
 else none
theorem ACe a b e g:AX E32 0 8 (cd f84 116) 50 (Az2 a b e g) (HA a b e g) (AxV a b e g):=by
 unfold AX;simp only[HA,ASm];kernel_rfl
def IW(a:ASG)(b:ASK)(e:Int):ATP (Int⊕(Unit⊕Unit)):=
 bif decide (e<(b.length:Int))then
 if 0<=e/\e<b.length then
 (Fh a (b.getD e.toNat Ah.zero).2.2.1).bind λg=>(HA a b e g).bind λi=>bif i then
 some (.inr (.inl ()))
 else
 some (.inl (wI (e+1)))
 else none
 else
 some (.inr (.inr ()))
def Fz a b (z_:Int):=IW a b z_
def Qj a b e:=fix (Fz a b) e
theorem ACf a b:A8 E32 0 4 (code f84) 58 (Az3 a b) (Fz a b) (AxW a b):=by
 intro _;simp(disch:=refine id ?_;kernel_rfl) only[Fz,IW,ASm,Bf (ACe ..) (K:=Ka E32 0 4)];kernel_rfl
def Az1 a b:=sT 68 [(0,Ar a),(1,Bl b)] []
def AxU a b:=λ(l:Bool)=>xN 68 [(0,Ar a),(1,Bl b),(14,dB l)] []
def Hz(a:ASG)(b:ASK):ATP Bool:=
 (KP a).bind λn=>bif !n then
 some true
 else
 some (decide ((b.length:Int)>60))
theorem ACd a b:AX E32 0 2 (code f84) 12 (Az1 a b) (Hz a b) (AxU a b):=by
 unfold AX;simp only[Hz,ASm];kernel_rfl
def Gl(a:ASG)(b:ASK):ATP Bool:=
 (Hz a b).bind λl=>bif l then
 some false
 else
 (Qj a b 0).bind (Sum.elim (λc=>some false) (λd=>some true))
def c84:=Ck [.d ATE,.d ATG] [⟨[.AB [] ATE,.AB [] ATG],[],Bool,λp=>Gl p.1.1 p.1.2.1,λr=>(dB r,[])⟩]
theorem qP:An prog 84 c84:=Av (fn:=f84) ⟨⟨E32,pk ⟨uB,jH,Ts,trivial⟩,λ_ R K=>by
 simp(disch:=refine id ?_;kernel_rfl) only[Gl,ASn,Bf (ACd ..) (K:=A2 E32 f84 0 R K),Qj,AJ (ACf _ _) (K:=A2 E32 f84 0 R K)];kernel_rfl⟩,trivial⟩
abbrev jj:=eN [(149,Ak9)] {Ba:=[(5,{Be:=[0,4,7,8],Cj:=[(7,false,.row [] 198 Aa true)]}),(10,{Be:=[4,7,9],Cj:=[(7,false,.row [] 198 Aa true)]}),(15,{Be:=[2,7,10],Cj:=[(7,false,.row [] 198 Aa true)]}),(27,[4,7,11,12]),(40,{Be:=[2,4,7,15],Cj:=[(7,false,.row [] 198 Aa true)]})],BN:=[(5,[7]),(10,[7]),(15,[7]),(27,[7]),(40,[7])],BM:=[(22,[2,4,7,18,84]),(25,[2,4,7,11]),(32,[2,4,7,18,116]),(36,[2,7,13,14]),(43,{Be:=[7],Cj:=[(7,false,.row [] 198 Aa true)]})],Du:=[(22,[2,4,7,18]),(25,[2,4,7,11]),(32,[2,4,7,18]),(36,[2,4,7,13,14]),(43,[0,2,4,7])]}
def AsL a b c:=sT 167 [(0,Ar a),(2,RQ b),(4,Aq),(7,.zs)] (VZ c)
def AqW(a:ASG)(b:ASS)(c:ASt):=λ(d:ASF)=>xN 167 nY [EY d]
def AsK b c (z_:Int×ASF):=sT 167 [(2,RQ b),(4,Aq),(7,.AK 1),(15,dI z_.1)] [.box (WV c),EY z_.2]
def AqV(b:ASS)(c:ASt):=λ(e:ASF)=>xE 9 167 nY [EY e]
def Mz(b:ASS)(c:ASt)(g:Int)(i:ASF):ATP (ATj⊕ASF):=
 bif decide (g<c.2.2.1)then
 if(0:Int)<=(0:Int)/\(0:Int)<(b.length:Int)then
 if(i.length+(b.getD 0 ATC.zero).length)*16<=140737488355328 then
 some (.inl (wI (g+1),i++(b.getD 0 ATC.zero)))
 else none
 else none
 else
 some (.inr i)
def F5 b c (z_:Int×ASF):=Mz b c z_.1 z_.2
def PU b c g i:=fix (F5 b c) (g,i)
theorem AuY b c:A8 jj 0 40 (cd f112 14) 458746 (AsK b c) (F5 b c) (AqV b c):=by
 intro _;simp only[F5,Mz,ASm];kernel_rfl
def AsJ b c j k:=sT 167 [(2,RQ b),(4,Aq),(7,.zs),(13,dI j),(14,dI k)] (VZ c)
def AqU b (c:ASt) j (k:Int):=λ(l:Int)=>xN 167 [(2,RQ b),(7,.zs),(13,dI j),(14,dI l)] []
def Li(b:ASS)(c:ASt)(j k:Int):ATP Int:=
 bif c.1==8 then
 if j=(0:Int)then none else
 some (Int.tmod (wI (j-k)) j)
 else
 some k
theorem AuX b c j k:AX jj 0 36 (cd f112 14) 229366 (AsJ b c j k) (Li b c j k) (AqU b c j k):=by
 unfold AX;simp only[Li,ASm];kernel_rfl
def AfF b (c:ASt):=sT 167 [(2,RQ b),(4,Aq),(7,.zs),(18,dI c.1)] (VZ c)
def yY(b:ASS)(c:ASt)(m0:Bool):Ex×St:=xN 167 [(2,RQ b),(4,Aq),(7,.zs),(18,dI c.1),(116,dB m0)] (VZ c)
theorem AuW b c:Xk jj 0 32 (cd f112 14) (pt 14334) (AfF b c)=some (yY b c (bif c.1==7 then(c.1==7)else(c.1==8))):=by
 refine .trans (b:=
 bif c.1==7 then
 some (yY b c (c.1==7))
 else
 some (yY b c (c.1==8))) (by kernel_rfl) ?_
 cases (c.1==7);rfl;rfl
def AsI c (z_:Int×ASF):=sT 167 [(4,Aq),(7,.AK 1),(11,Dr),(12,dI z_.1)] [.box (WV c),EY z_.2,.box (.pr (dI (-1)) (.pr (dI 0) .u))]
def AqT(c:ASt):=λ(n:ASF)=>xE 7 167 nY [EY n]
def My(c:ASt)(o:Int)(q:ASF):ATP (ATj⊕ASF):=
 bif decide (o<c.2.2.1)then
 if(q.length+([(-1,0,())]:ASF).length)*16<=140737488355328 then
 some (.inl (wI (o+1),q++([(-1,0,())]:ASF)))
 else none
 else
 some (.inr q)
def F4 c (z_:Int×ASF):=My c z_.1 z_.2
def PT c o q:=fix (F4 c) (o,q)
theorem AuV c:A8 jj 0 27 (cd f112 14) 229342 (AsI c) (F4 c) (AqT c):=by
 intro _;simp only[F4,My,ASm];kernel_rfl
def AsH c s (z_:Int×ASF):=sT 167 [(4,Aq),(7,.AK 1),(11,Dr),(12,dI z_.1)] [.box (WV c),EY z_.2,.box (dD Aa s)]
def AqS(c:ASt)(s:ASp):=λ(t:ASF)=>xE 7 167 nY [EY t]
def Mx(c:ASt)(s:ASp)(u:Int)(v:ASF):ATP (ATj⊕ASF):=
 bif decide (u<c.2.2.1)then
 if(v.length+([s]:ASF).length)*16<=140737488355328 then
 some (.inl (wI (u+1),v++([s]:ASF)))
 else none
 else
 some (.inr v)
def F3 c s (z_:Int×ASF):=Mx c s z_.1 z_.2
def PS c s u v:=fix (F3 c s) (u,v)
theorem AuU c s:A8 jj 0 27 (cd f112 14) 229342 (AsH c s) (F3 c s) (AqS c s):=by
 intro _;simp only[F3,Mx,ASm];kernel_rfl
def AsG b c:=sT 167 (AwN b) [.box (WV c),.box (.pr (dI (-1)) (.pr (dI 0) .u))]
def AqR b c:=Sum.elim (λ(w:Unit)=>xN 167 (AwN b) [.box (WV c),.box (dD Aa ((b.getD 0 ATC.zero).getD (wI (((b.getD 0 ATC.zero).length:Int)-1)).toNat Aa.zero))]) (λ(x:Unit)=>xN 167 (AwN b) [.box (WV c),.box (.pr (dI (-1)) (.pr (dI 0) .u))])
def Gm(b:ASS)(c:ASt):ATP (Unit⊕Unit):=
 bif c.1==6 then
 if(0:Int)<=(0:Int)/\(0:Int)<(b.length:Int)then
 if(0:Int)<=(0:Int)/\(0:Int)<(b.length:Int)then
 if 0<=(wI (((b.getD 0 ATC.zero).length:Int)-1))/\(wI (((b.getD 0 ATC.zero).length:Int)-1))<(b.getD 0 ATC.zero).length then
 some (.inl ())
 else none
 else none
 else none
 else
 some (.inr ())
theorem AuT b c:AX jj 0 25 (cd f112 14) 28666 (AsG b c) (Gm b c) (AqR b c):=by
 unfold AX;simp only[Gm,ASm];kernel_rfl
def AfE b (c:ASt):=sT 167 [(2,RQ b),(4,Aq),(7,.zs),(18,dI c.1)] (VZ c)
def yX(b:ASS)(c:ASt)(m0:Bool):Ex×St:=xN 167 [(2,RQ b),(4,Aq),(7,.zs),(18,dI c.1),(84,dB m0)] (VZ c)
theorem AuS b c:Xk jj 0 22 (cd f112 14) (pt 3582) (AfE b c)=some (yX b c (bif c.1==5 then(c.1==5)else(c.1==6))):=by
 refine .trans (b:=
 bif c.1==5 then
 some (yX b c (c.1==5))
 else
 some (yX b c (c.1==6))) (by kernel_rfl) ?_
 cases (c.1==5);rfl;rfl
def AsF b (z_:Int×ASF):=sT 167 [(2,RQ b),(7,.AK 0),(10,dI z_.1)] [EY z_.2]
def AqQ(b:ASS):=λ(y:ASF)=>xE 5 167 nY [EY y]
def Mw(b:ASS)(a1:Int)(b1:ASF):ATP (ATj⊕ASF):=
 bif decide (a1>=0)then
 if 0<=a1/\a1<b.length then
 if(b1.length+(b.getD a1.toNat ATC.zero).length)*16<=140737488355328 then
 some (.inl (wI (a1-1),b1++(b.getD a1.toNat ATC.zero)))
 else none
 else none
 else
 some (.inr b1)
def F0 b (z_:Int×ASF):=Mw b z_.1 z_.2
def Us b a1 b1:=fix (F0 b) (a1,b1)
theorem AuR b:A8 jj 0 15 (cd f112 14) 1786 (AsF b) (F0 b) (AqQ b):=by
 intro _;simp only[F0,Mw,ASm];kernel_rfl
def AsE c (z_:Int×ASF):=sT 167 [(4,Aq),(7,.AK 1),(9,dI z_.1)] [.box (WV c),EY z_.2]
def AqP(c:ASt):=λ(c1:ASF)=>xE 3 167 nY [EY c1]
def Mv(c:ASt)(d1:Int)(e1:ASF):ATP (ATj⊕ASF):=
 bif decide (d1<c.2.2.2.2.1.1)then
 (Jb c.2.2.2.2.1 d1).bind λg1=>if(e1.length+([(-1,wI g1,())]:ASF).length)*16<=140737488355328 then
 some (.inl (wI (d1+1),e1++([(-1,wI g1,())]:ASF)))
 else none
 else
 some (.inr e1)
def FZ c (z_:Int×ASF):=Mv c z_.1 z_.2
def PR c d1 e1:=fix (FZ c) (d1,e1)
theorem AuQ c:A8 jj 0 10 (cd f112 14) 442 (AsE c) (FZ c) (AqP c):=by
 intro _;simp only[FZ,Mv,ASm];kernel_rfl
def AsD a c (z_:Int×ASF):=sT 167 [(0,Ar a),(4,Aq),(7,.AK 1),(8,dI z_.1)] [.box (WV c),EY z_.2]
def AqO(a:ASG)(c:ASt):=λ(i1:ASF)=>xE 1 167 nY [EY i1]
def Mu(a:ASG)(c:ASt)(j1:Int)(k1:ASF):ATP (ATj⊕ASF):=
 if(0:Int)<=c.2.1/\c.2.1<(a.length:Int)then
 bif decide (j1<(a.getD c.2.1.toNat Ab.zero).2.1)then
 if(k1.length+([(c.2.1,j1,())]:ASF).length)*16<=140737488355328 then
 some (.inl (wI (j1+1),k1++([(c.2.1,j1,())]:ASF)))
 else none
 else
 some (.inr k1)
 else none
def FY a c (z_:Int×ASF):=Mu a c z_.1 z_.2
def PQ a c j1 k1:=fix (FY a c) (j1,k1)
theorem AuP a c:A8 jj 0 5 (cd f112 14) 106 (AsD a c) (FY a c) (AqO a c):=by
 intro _;simp only[FY,Mu,ASm];kernel_rfl
def PV(a:ASG)(b:ASS)(c:ASt):ATP ASF:=
 bif c.1==1 then
 (PQ a c 0 ([]:ASF)).bind λi1=>some i1
 else
 bif c.1==2 then
 (PR c 0 ([]:ASF)).bind λc1=>some c1
 else
 bif c.1==3 then
 (Us b (wI ((b.length:Int)-1)) ([]:ASF)).bind λy=>some y
 else
 bif c.1==4 then
 if(0:Int)<=(0:Int)/\(0:Int)<(b.length:Int)then
 if(0:Int)<=c.2.2.2.1/\c.2.2.2.1<=(wI (c.2.2.1+1))/\(wI (c.2.2.1+1))<=((b.getD 0 ATC.zero).length:Int)then
 if(((b.getD 0 ATC.zero).take (wI (c.2.2.1+1)).toNat).drop c.2.2.2.1.toNat).length*16<=140737488355328 then
 some (((b.getD 0 ATC.zero).take (wI (c.2.2.1+1)).toNat).drop c.2.2.2.1.toNat)
 else none
 else none
 else none
 else
 OQ (AfE b c) (
 bif bif (c.1==5)then(c.1==5)else(c.1==6)then
 (Gm b c).bind (Sum.elim (λw=>if(0:Int)<=(0:Int)/\(0:Int)<(b.length:Int)then
 if(b.getD 0 ATC.zero).length*16<=140737488355328 then
 (PS c ((b.getD 0 ATC.zero).getD (wI (((b.getD 0 ATC.zero).length:Int)-1)).toNat Aa.zero) 0 (b.getD 0 ATC.zero)).bind λt=>some t
 else none
 else none) (λx=>if(0:Int)<=(0:Int)/\(0:Int)<(b.length:Int)then
 if(b.getD 0 ATC.zero).length*16<=140737488355328 then
 (PT c 0 (b.getD 0 ATC.zero)).bind λn=>some n
 else none
 else none))
 else
 OQ (AfF b c) (
 bif bif (c.1==7)then(c.1==7)else(c.1==8)then
 if(0:Int)<=(0:Int)/\(0:Int)<(b.length:Int)then
 if((b.getD 0 ATC.zero).length:Int)=(0:Int)then none else
 (Li b c ((b.getD 0 ATC.zero).length:Int) (Int.tmod c.2.2.1 ((b.getD 0 ATC.zero).length:Int))).bind λl=>if(0:Int)<=(0:Int)/\(0:Int)<(b.length:Int)then
 if(0:Int)<=(wI (((b.getD 0 ATC.zero).length:Int)-l))/\(wI (((b.getD 0 ATC.zero).length:Int)-l))<=((b.getD 0 ATC.zero).length:Int)/\((b.getD 0 ATC.zero).length:Int)<=((b.getD 0 ATC.zero).length:Int)then
 if(((b.getD 0 ATC.zero).take ((b.getD 0 ATC.zero).length:Int).toNat).drop (wI (((b.getD 0 ATC.zero).length:Int)-l)).toNat).length*16<=140737488355328 then
 if(0:Int)<=(0:Int)/\(0:Int)<(b.length:Int)then
 if(0:Int)<=(0:Int)/\(0:Int)<=(wI (((b.getD 0 ATC.zero).length:Int)-l))/\(wI (((b.getD 0 ATC.zero).length:Int)-l))<=((b.getD 0 ATC.zero).length:Int)then
 if((((b.getD 0 ATC.zero).take ((b.getD 0 ATC.zero).length:Int).toNat).drop (wI (((b.getD 0 ATC.zero).length:Int)-l)).toNat).length+(((b.getD 0 ATC.zero).take (wI (((b.getD 0 ATC.zero).length:Int)-l)).toNat).drop 0).length)*16<=140737488355328 then
 some ((((b.getD 0 ATC.zero).take ((b.getD 0 ATC.zero).length:Int).toNat).drop (wI (((b.getD 0 ATC.zero).length:Int)-l)).toNat)++(((b.getD 0 ATC.zero).take (wI (((b.getD 0 ATC.zero).length:Int)-l)).toNat).drop 0))
 else none
 else none
 else none
 else none
 else none
 else none
 else none
 else
 bif c.1==9 then
 (PU b c 0 ([]:ASF)).bind λe=>some e
 else
 some ([]:ASF)))
theorem AuZ a b c:AX jj 0 43 (code f112) 14 (AsL a b c) (PV a b c) (AqW a b c):=by
 unfold AX;simp(disch:=refine id ?_;kernel_rfl) only[PV,ASm,PQ,AJ (AuP _ _) (K:=Ui jj 0 43),PR,AJ (AuQ _) (K:=Ui jj 0 43),Us,AJ (AuR _) (K:=Ui jj 0 43),Ey (AuS ..) (K:=Ui jj 0 43),Bf (AuT ..) (K:=Ui jj 0 43),PS,AJ (AuU _ _) (K:=Ui jj 0 43),PT,AJ (AuV _) (K:=Ui jj 0 43),Ey (AuW ..) (K:=Ui jj 0 43),Bf (AuX ..) (K:=Ui jj 0 43),PU,AJ (AuY _ _) (K:=Ui jj 0 43)];kernel_rfl
def T1(a:ASG)(c:ASt)(b:ASS):ATP ASF:=
 (PV a b c).bind λd=>some d
def AEA:=Ck [.d ATE,.d Ag,.d (.sl ATC)] [⟨[.AB [] ATE,.AB [] Ag,.AB [] (.sl ATC)],[],ASF,λp=>T1 p.1.1 p.1.2.1 p.1.2.2.1,λr=>(.AK 0,[EY r])⟩]
theorem Af6:An prog 112 AEA:=Av (fn:=f112) ⟨⟨jj,pk ⟨jJ,trivial⟩,λ_ R K=>by
 simp(disch:=refine id ?_;kernel_rfl) only[T1,ASn,Bf (AuZ ..) (K:=A2 jj f112 0 R K)];kernel_rfl⟩,trivial⟩
abbrev E34:=eN [] {Ba:=[(5,[0,2,4,5])],BN:=[(5,[2,4])],BM:=[(2,[0,2,13])],Du:=[(2,[0,2])],iq:=[(0,.row [1] 199 ATz true)]}
def Az4 a b (z_:Int×ASC):=sT 51 [(0,Z6 a),(2,Aq),(4,AZ),(5,dI z_.1)] (Akq b z_.2)
def AxX(a:ASC) b:=λ(c:ASC)=>xE 0 51 [(2,Aq),(4,AZ)] (Akq b c)
def N4(a:ASC)(b d:Int)(e:ASC):ATP (ASZ⊕ASC):=
 bif decide (d<(a.length:Int))then
 if 0<=(wI (Int.tdiv d 64))/\(wI (Int.tdiv d 64))<e.length then
 if 0<=d/\d<a.length then
 if(IntKind.u64.wrap (Int.tmod d 64))<(0:Int)then none else
 if 0<=(wI (Int.tdiv d 64))/\(wI (Int.tdiv d 64))<e.length then
 some (.inl (wI (d+1),e.set (wI (Int.tdiv d 64)).toNat (fC .u64 (e.getD (wI (Int.tdiv d 64)).toNat ATz.zero) (NS .u64 (IntKind.u64.wrap (a.getD d.toNat ATA.zero)) (IntKind.u64.wrap (Int.tmod d 64))))))
 else none
 else none
 else none
 else
 some (.inr e)
def JY a b (z_:Int×ASC):=N4 a b z_.1 z_.2
def VK a b d e:=fix (JY a b) (d,e)
theorem ACh a b:A8 E34 0 5 (code f67) 122 (Az4 a b) (JY a b) (AxX a b):=by
 intro _;simp only[JY,N4,ASm];kernel_rfl
def Anq a:=sT 51 [(0,Z6 a),(2,Aq)] [.box S3]
def AeY(a:ASC)(m0:Bool):Ex×St:=xN 51 [(0,Z6 a),(2,Aq),(13,dB m0)] [.box S3]
theorem ACg a:Xk E34 0 2 (code f67) (pt 12) (Anq a)=some (AeY a ((decide ((a.length:Int)<1))||(decide ((a.length:Int)>4096)))):=by
 refine .trans (b:=
 bif decide ((a.length:Int)<1)then
 some (AeY a true)
 else
 some (AeY a (decide ((a.length:Int)>4096)))) (by kernel_rfl) ?_
 cases (decide ((a.length:Int)<1));rfl;rfl
def Kg(a:ASC):ATP (Int×Bool×ASC):=
 OQ (Anq a) (
 bif (decide ((a.length:Int)<1))||(decide ((a.length:Int)>4096))then
 some (0,false,([]:ASC))
 else
 if Ty.row ATz=true/\(0:Int)<=(wI (Int.tdiv (wI ((a.length:Int)+63)) 64))/\(wI (Int.tdiv (wI ((a.length:Int)+63)) 64))<=(wI (Int.tdiv (wI ((a.length:Int)+63)) 64))/\((8:Nat):Int)*(wI (Int.tdiv (wI ((a.length:Int)+63)) 64))<=(281474976710656:Int)/\(wI (Int.tdiv (wI ((a.length:Int)+63)) 64))<=(9223372036854775807:Int)then
 (VK a (a.length:Int) 0 (List.replicate (wI (Int.tdiv (wI ((a.length:Int)+63)) 64)).toNat 0)).bind λc=>some ((a.length:Int),true,c)
 else none)
def c67:=Ck [.d (.sl ATA)] [⟨[.AB [] (.sl ATA)],[],Int×Bool×ASC,λp=>Kg p.1.1,λr=>(.cons (.pr (dI r.1) Pj) (.cons (dB r.2.1) .nil),[Bj r.2.2])⟩]
theorem qM:An prog 67 c67:=Av (fn:=f67) ⟨⟨E34,pk trivial,λ_ R K=>by
 simp(disch:=refine id ?_;kernel_rfl) only[Kg,ASn,Ey (ACg _) (K:=A2 E34 f67 0 R K),VK,AJ (ACh _ _) (K:=A2 E34 f67 0 R K)];kernel_rfl⟩,trivial⟩
abbrev E35:=eN [(67,c67)] {Ba:=[(3,{Be:=[0,4,5],Cj:=[(4,false,.row [] 218 Af true)]}),(7,[0,4,6,7]),(12,[0,4,5,6])],BN:=[(3,[4]),(7,{Be:=[0,4,6,7],RU:=[(7,false,.sl ATA)]}),(12,[0,4,5,6])],BM:=[(8,[0,4,6,7]),(13,[0,4,5,6]),(15,[0,4,6])],Du:=[(8,[0,4,6,7]),(13,[0,4,5,6]),(15,[0,4,5,6])]}
def AsM a (z_:Int×ASI):=sT 121 [(0,Tl a),(4,.AK 0),(5,dI z_.1)] [Ca z_.2]
def AqX(a:ASF):=λ(b:ASI)=>xE 0 121 [(4,.AK 0)] [Ca b]
def Az9 a c d e:=sT 121 (Aex a c e) [Ca d]
def Ax2 a (c:Int) (d:ASI) (e:Int):=λ(g:ATb)=>xN 121 [(0,Tl a),(4,.AK 0),(6,dI g.1)] [Ca g.2]
def Az8 a c d (z_:Int):=sT 121 (Aex a c z_) [Ca d]
def Ax1 a c d:=λ(i:Int)=>xE 4 121 (Aex a c i) [Ca d]
def Az7 a c j d:=sT 121 (Aex a c j) [Ca d]
def Ax0 a c j d:=Sum.elim (λ(k:Unit)=>xN 121 (Aex a c j) [Ca d]) (λ(l:Unit)=>xE 4 121 (Aex a c j) [Ca d])
def RB(a:ASF)(c j:Int)(d:ASI):ATP (Unit⊕Unit):=
 bif decide (j<(a.length:Int))then
 if 0<=j/\j<a.length then
 if 0<=c/\c<a.length then
 bif (a.getD j.toNat Aa.zero).1==(a.getD c.toNat Aa.zero).1 then
 if 0<=j/\j<a.length then
 if 0<=(wI (j-1))/\(wI (j-1))<a.length then
 bif (a.getD j.toNat Aa.zero).2.1==(wI ((a.getD (wI (j-1)).toNat Aa.zero).2.1+1))then
 some (.inl ())
 else
 some (.inr ())
 else none
 else none
 else
 some (.inr ())
 else none
 else none
 else
 some (.inr ())
theorem ACk a c j d:AX E35 0 13 (sb (sb (cd f113 120) 26) 56) 2 (Az7 a c j d) (RB a c j d) (Ax0 a c j d):=by
 unfold AX;simp only[RB,ASm];kernel_rfl
def SU(a:ASF)(c:Int)(d:ASI)(j:Int):ATP (Int⊕Int):=
 (RB a c j d).bind (Sum.elim (λk=>some (.inl (wI (j+1)))) (λl=>some (.inr j)))
def Oc a c d (z_:Int):=SU a c d z_
def RD a c d j:=fix (Oc a c d) j
theorem ACl a c d:A8 E35 0 12 (sb (cd f113 120) 26) 28 (Az8 a c d) (Oc a c d) (Ax1 a c d):=by
 intro _;simp(disch:=refine id ?_;kernel_rfl) only[Oc,SU,ASm,Bf (ACk ..) (K:=Ka E35 0 12)];kernel_rfl
def Az6 a d (z_:Int×ASC):=sT 121 (Acr a z_.1) [Ca d,K7 z_.2]
def AxZ a d:=λ(n:ASZ)=>xE 2 121 [(0,Tl a),(4,.AK 0),(6,dI n.1),(7,Z6 n.2)] [Ca d]
def Az5 a o d q:=sT 121 (Acr a o) [Ca d,K7 q]
def AxY a o d q:=Sum.elim (λ(s:Unit)=>xN 121 (Acr a o) [Ca d,K7 q]) (λ(t:Unit)=>xE 2 121 (Acr a o) [Ca d,K7 q])
def RA(a:ASF)(o:Int)(d:ASI)(q:ASC):ATP (Unit⊕Unit):=
 bif decide (o<(a.length:Int))then
 if 0<=o/\o<a.length then
 bif decide ((a.getD o.toNat Aa.zero).1<0)then
 some (.inl ())
 else
 some (.inr ())
 else none
 else
 some (.inr ())
theorem ACi a o d q:AX E35 0 8 (sb (sb (cd f113 120) 26) 104) 2 (Az5 a o d q) (RA a o d q) (AxY a o d q):=by
 unfold AX;simp only[RA,ASm];kernel_rfl
def SS(a:ASF)(d:ASI)(o:Int)(q:ASC):ATP (ASZ⊕ASZ):=
 (RA a o d q).bind (Sum.elim (λs=>if 0<=o/\o<a.length then
 if(q.length+([IntKind.u8.wrap (a.getD o.toNat Aa.zero).2.1]:ASC).length)*1<=140737488355328 then
 some (.inl (wI (o+1),q++([IntKind.u8.wrap (a.getD o.toNat Aa.zero).2.1]:ASC)))
 else none
 else none) (λt=>some (.inr (o,q))))
def Ob a d (z_:Int×ASC):=SS a d z_.1 z_.2
def VQ a d o q:=fix (Ob a d) (o,q)
theorem ACj a d:A8 E35 0 7 (sb (cd f113 120) 26) 52 (Az6 a d) (Ob a d) (AxZ a d):=by
 intro _;simp(disch:=refine id ?_;kernel_rfl) only[Ob,SS,ASm,Bf (ACi ..) (K:=Ka E35 0 7)];kernel_rfl
def RE(a:ASF)(c:Int)(d:ASI)(e:Int):ATP ATb:=
 if 0<=c/\c<a.length then
 bif decide ((a.getD c.toNat Aa.zero).1<0)then
 if 0<=c/\c<a.length then
 (VQ a d e ([IntKind.u8.wrap (a.getD c.toNat Aa.zero).2.1]:ASC)).bind λn=>(Kg n.2).bind λu=>if(d.length+([(-1,0,u.1,(u.1,u.2.2,()),())]:ASI).length)*56<=140737488355328 then
 some (n.1,d++([(-1,0,u.1,(u.1,u.2.2,()),())]:ASI))
 else none
 else none
 else
 (RD a c d e).bind λi=>if 0<=c/\c<a.length then
 if 0<=c/\c<a.length then
 if(d.length+([((a.getD c.toNat Aa.zero).1,(a.getD c.toNat Aa.zero).2.1,wI (i-c),(0,([]:ASC),()),())]:ASI).length)*56<=140737488355328 then
 some (i,d++([((a.getD c.toNat Aa.zero).1,(a.getD c.toNat Aa.zero).2.1,wI (i-c),(0,([]:ASC),()),())]:ASI))
 else none
 else none
 else none
 else none
theorem ACm a c d e:AX E35 0 15 (cd f113 120) 26 (Az9 a c d e) (RE a c d e) (Ax2 a c d e):=by
 unfold AX;simp(disch:=refine id ?_;kernel_rfl) only[RE,ASm,VQ,AJ (ACj _ _) (K:=Ui E35 0 15),RD,AJ (ACl _ _ _) (K:=Ui E35 0 15)];kernel_rfl
def Rz(a:ASF)(c:Int)(d:ASI):ATP (ATb⊕ASI):=
 bif decide (c<(a.length:Int))then
 (RE a c d (wI (c+1))).bind λg=>some (.inl (g.1,g.2))
 else
 some (.inr d)
def Mt a (z_:Int×ASI):=Rz a z_.1 z_.2
def Ur a c d:=fix (Mt a) (c,d)
theorem Au0 a:A8 E35 0 3 (code f113) 60 (AsM a) (Mt a) (AqX a):=by
 intro _;simp(disch:=refine id ?_;kernel_rfl) only[Mt,Rz,ASm,Bf (ACm ..) (K:=Ka E35 0 3)];kernel_rfl
def T0(a:ASF):ATP AS2:=
 (Ur a 0 ([]:ASI)).bind λb=>some (decide ((b.length:Int)<=2000),b)
def AEB:=Ck [.d ATC] [⟨[.AB [] ATC],[],AS2,λp=>T0 p.1.1,λr=>(.cons H7 (.cons (dB r.1) .nil),[Ca r.2])⟩]
theorem Af7:An prog 113 AEB:=Av (fn:=f113) ⟨⟨E35,pk ⟨qM,trivial⟩,λ_ R K=>by
 simp(disch:=refine id ?_;kernel_rfl) only[T0,ASn,Ur,AJ (Au0 _) (K:=A2 E35 f113 0 R K)];kernel_rfl⟩,trivial⟩
abbrev E36:=eN [(111,Avf),(112,AEA),(113,AEB)] {Aw:=false,Ba:=[(6,{Be:=[0,3,6,7,8],Cj:=[(6,false,.row [] 153 ATC false),(7,false,.row [] 218 Af true)]}),(10,{Be:=[0,3,6,8,9,10],Cj:=[(9,false,.row [] 153 ATC false)]})],BN:=[(6,[4,5,7]),(10,{Be:=[0,3,6,8,9],RU:=[(9,false,.sl ATC)]})],iq:=[(0,.row [] 218 Af true)]}
def AAb a b (z_:Int×ASS×ASI):=sT 77 [(0,Ar a),(3,Aq),(6,.AK 1),(7,.AK 2),(8,dI z_.1)] [.box (LR b),jd z_.2.1,Ca z_.2.2]
def Ax4(a:ASG)(b:ASz):=Sum.elim (λ(c:Unit)=>xR 77 [(4,.zs),(5,dB false)] []) (λ(d:ASI)=>xE 0 77 nY [Ca d])
def AAa a e b g (z_:Int×ASS):=sT 77 [(0,Ar a),(3,Aq),(6,.AK 1),(8,dI e),(9,.AK 2),(10,dI z_.1)] [.box (LR b),jd g,jd z_.2]
def Ax3 a e b g:=λ(i:ASS)=>xE 2 77 [(0,Ar a),(3,Aq),(6,.AK 1),(8,dI e),(9,RQ i)] [.box (LR b),jd g]
def Mk(a:ASG)(e:Int)(b:ASz)(g:ASS)(j:Int)(k:ASS):ATP ((Int×ASS)⊕ASS):=
 if 0<=e/\e<b.1.length then
 bif decide (j<((b.1.getD e.toNat Ag.zero).2.2.2.2.2.1.length:Int))then
 if 0<=e/\e<b.1.length then
 if 0<=j/\j<(b.1.getD e.toNat Ag.zero).2.2.2.2.2.1.length then
 if(0:Int)<=((b.1.getD e.toNat Ag.zero).2.2.2.2.2.1.getD j.toNat ATy.zero)/\((b.1.getD e.toNat Ag.zero).2.2.2.2.2.1.getD j.toNat ATy.zero)<(g.length:Int)then
 if(k.length+([g.getD ((b.1.getD e.toNat Ag.zero).2.2.2.2.2.1.getD j.toNat ATy.zero).toNat ATC.zero]:ASS).length)*24<=140737488355328 then
 some (.inl (wI (j+1),k++([g.getD ((b.1.getD e.toNat Ag.zero).2.2.2.2.2.1.getD j.toNat ATy.zero).toNat ATC.zero]:ASS)))
 else none
 else none
 else none
 else none
 else
 some (.inr k)
 else none
def FU a e b g (z_:Int×ASS):=Mk a e b g z_.1 z_.2
def PG a e b g j k:=fix (FU a e b g) (j,k)
theorem ACn a e b g:A8 E36 0 10 (cd f64 500) 202 (AAa a e b g) (FU a e b g) (Ax3 a e b g):=by
 intro _;simp only[FU,Mk,ASm];kernel_rfl
def Rq(a:ASG)(b:ASz)(e:Int)(g:ASS)(l:ASI):ATP ((Int×ASS×ASI)⊕(Unit⊕ASI)):=
 bif decide (e<(b.1.length:Int))then
 (PG a e b g 0 ([]:ASS)).bind λi=>if 0<=e/\e<b.1.length then
 (T1 a (b.1.getD e.toNat Ag.zero) i).bind λn=>(T0 n).bind λo=>bif !o.1 then
 some (.inr (.inl ()))
 else
 if(g.length+([n]:ASS).length)*24<=140737488355328 then
 some (.inl (wI (e+1),g++([n]:ASS),o.2))
 else none
 else none
 else
 some (.inr (.inr l))
def Ml a b (z_:Int×ASS×ASI):=Rq a b z_.1 z_.2.1 z_.2.2
def Uo a b e g l:=fix (Ml a b) (e,g,l)
theorem ACo a b:A8 E36 0 6 (code f64) 250 (AAb a b) (Ml a b) (Ax4 a b):=by
 intro _;simp(disch:=refine id ?_;kernel_rfl) only[Ml,Rq,ASm,PG,AJ (ACn _ _ _ _) (K:=Ka E36 0 6)];kernel_rfl
def BK(a:ASG)(b:ASz):ATP AS2:=
 (Fh a b).bind λq=>bif decide (q<0)then
 some (false,([]:ASI))
 else
 (Uo a b 0 ([]:ASS) ([]:ASI)).bind (Sum.elim (λc=>some (false,([]:ASI))) (λd=>some (true,d)))
def c64:=Ck [.d ATE,.d Ap] [⟨[.AB [] ATE,.AB [] Ap],[],AS2,λp=>BK p.1.1 p.1.2.1,λr=>(.cons H7 (.cons (dB r.1) .nil),[Ca r.2])⟩]
theorem iE:An prog 64 c64:=Av (fn:=f64) ⟨⟨E36,pk ⟨uB,Af6,Af7,trivial⟩,λ_ R K=>by
 simp(disch:=refine id ?_;kernel_rfl) only[BK,ASn,Uo,AJ (ACo _ _) (K:=A2 E36 f64 0 R K)];kernel_rfl⟩,trivial⟩
abbrev E37:=eN [(64,c64)] {Ba:=[(3,{Be:=[0,1,6,7],Cj:=[(6,false,.row [] 122 ATB true)]})],BN:=[(3,[4,5,6])],BM:=[(8,[0,1,6,7,8,10,44])],Du:=[(8,[0,1,6,7,8,9,10,11])]}
def AAc a b (z_:Int×AST):=sT 52 [(0,Ar a),(1,Bl b),(6,.AK 0),(7,dI z_.1)] [RS z_.2]
def Ax5(a:ASG)(b:ASK):=Sum.elim (λ(c:AST)=>xR 52 [(4,.AK 0),(5,dB false),(6,.AK 0)] [RS c]) (λ(d:AST)=>xE 0 52 [(6,.AK 0)] [RS d])
def Anr a b e (g:AS2) (i:AS2) j:=sT 52 [(0,Ar a),(1,Bl b),(6,.AK 0),(7,dI e),(8,.AK 1),(9,dB g.1),(10,.AK 2),(11,dB i.1)] [RS j,Ca g.2,Ca i.2]
def AeZ(a:ASG)(b:ASK)(e:Int)(g i:AS2)(j:AST)(m0:Bool):Ex×St:=xN 52 [(0,Ar a),(1,Bl b),(6,.AK 0),(7,dI e),(8,.AK 1),(10,.AK 2),(44,dB m0)] [RS j,Ca g.2,Ca i.2]
theorem ACp a b e g i j:Xk E37 0 8 (cd f109 116) (pt 204) (Anr a b e g i j)=some (AeZ a b e g i j ((!g.1)||(!i.1))):=by
 refine .trans (b:=
 bif !g.1 then
 some (AeZ a b e g i j true)
 else
 some (AeZ a b e g i j (!i.1))) (by kernel_rfl) ?_
 cases (!g.1);rfl;rfl
def RL(a:ASG)(b:ASK)(e:Int)(j:AST):ATP ((Int×AST)⊕(AST⊕AST)):=
 bif decide (e<(b.length:Int))then
 if 0<=e/\e<b.length then
 (BK a (b.getD e.toNat Ah.zero).2.2.1).bind λg=>if 0<=e/\e<b.length then
 (BK a (b.getD e.toNat Ah.zero).2.2.2.1).bind λi=>OQ (Anr a b e g i j) (
 bif (!g.1)||(!i.1)then
 some (.inr (.inl j))
 else
 if(j.length+([g.2,i.2]:AST).length)*24<=140737488355328 then
 some (.inl (wI (e+1),j++([g.2,i.2]:AST)))
 else none)
 else none
 else none
 else
 some (.inr (.inr j))
def MI a b (z_:Int×AST):=RL a b z_.1 z_.2
def Yy a b e j:=fix (MI a b) (e,j)
theorem ACq a b:A8 E37 0 3 (code f109) 58 (AAc a b) (MI a b) (Ax5 a b):=by
 intro _;simp(disch:=refine id ?_;kernel_rfl) only[MI,RL,ASm,Ey (ACp ..) (K:=Ka E37 0 3)];kernel_rfl
def RJ(a:ASG)(b:ASK):ATP (Bool×AST):=
 (Yy a b 0 ([]:AST)).bind (Sum.elim (λc=>some (false,c)) (λd=>some (true,d)))
def Ave:=Ck [.d ATE,.d ATG] [⟨[.AB [] ATE,.AB [] ATG],[],Bool×AST,λp=>RJ p.1.1 p.1.2.1,λr=>(.cons H7 (.cons (dB r.1) .nil),[RS r.2])⟩]
theorem uA:An prog 109 Ave:=Av (fn:=f109) ⟨⟨E37,pk ⟨iE,trivial⟩,λ_ R K=>by
 simp(disch:=refine id ?_;kernel_rfl) only[RJ,ASn,Yy,AJ (ACq _ _) (K:=A2 E37 f109 0 R K)];kernel_rfl⟩,trivial⟩
abbrev E38:=eN [] {Aw:=false,Ba:=[(3,{Be:=[0,3,4],Cj:=[(3,false,.row [] 87 Ah false)]})],BN:=[(3,[3])],BM:=[(4,{Be:=[0,3,4],Cj:=[(3,false,.row [] 87 Ah false)]})],Du:=[(4,[0,3,4])]}
def AAe a (z_:Int×ASK):=sT 25 (Anh a z_.1) [Tn z_.2]
def Ax7(a:ASK):=λ(b:ASK)=>xE 0 25 mr [Tn b]
def AAd a c d:=sT 25 (Anh a c) [Tn d]
def Ax6 a c (d:ASK):=λ(e:ASK)=>xN 25 (Anh a c) [Tn e]
def N0(a:ASK)(c:Int)(d:ASK):ATP ASK:=
 if 0<=c/\c<a.length then
 bif (a.getD c.toNat Ah.zero).2.1 then
 if 0<=c/\c<a.length then
 if(d.length+([a.getD c.toNat Ah.zero]:ASK).length)*64<=140737488355328 then
 some (d++([a.getD c.toNat Ah.zero]:ASK))
 else none
 else none
 else
 some d
 else none
theorem ACr a c d:AX E38 0 4 (cd f66 116) 6 (AAd a c d) (N0 a c d) (Ax6 a c d):=by
 unfold AX;simp only[N0,ASm];kernel_rfl
def KS(a:ASK)(c:Int)(d:ASK):ATP (ATc⊕ASK):=
 bif decide (c<(a.length:Int))then
 (N0 a c d).bind λe=>some (.inl (wI (c+1),e))
 else
 some (.inr d)
def EU a (z_:Int×ASK):=KS a z_.1 z_.2
def SN a c d:=fix (EU a) (c,d)
theorem ACs a:A8 E38 0 3 (code f66) 58 (AAe a) (EU a) (Ax7 a):=by
 intro _;simp(disch:=refine id ?_;kernel_rfl) only[EU,KS,ASm,Bf (ACr ..) (K:=Ka E38 0 3)];kernel_rfl
def Ly(a:ASK):ATP ASK:=
 (SN a 0 ([]:ASK)).bind λb=>some b
def c66:=Ck [.d ATG] [⟨[.AB [] ATG],[],ASK,λp=>Ly p.1.1,λr=>(.AK 0,[Tn r])⟩]
theorem Abh:An prog 66 c66:=Av (fn:=f66) ⟨⟨E38,pk trivial,λ_ R K=>by
 simp(disch:=refine id ?_;kernel_rfl) only[Ly,ASn,SN,AJ (ACs _) (K:=A2 E38 f66 0 R K)];kernel_rfl⟩,trivial⟩
abbrev E39:=eN [] {Ba:=[(3,{Be:=[0,2,3,4],Cj:=[(3,true,.row [0] 32 ATD true)]})],BN:=[(3,[2,3])]}
def AAf a (z_:Int×ASQ):=sT 19 [(0,Ar a),(2,Aq),(3,AZ),(4,dI z_.1)] (Acs z_.2)
def Ax8(a:ASG):=λ(b:ASQ)=>xE 0 19 [(2,Aq),(3,AZ)] (Acs b)
def Oj(a:ASG)(c:Int)(d:ASQ):ATP ((Int×ASQ)⊕ASQ):=
 bif decide (c<(a.length:Int))then
 if(d.length+([([]:ASC)]:ASQ).length)*24<=140737488355328 then
 some (.inl (wI (c+1),d++([([]:ASC)]:ASQ)))
 else none
 else
 some (.inr d)
def Hb a (z_:Int×ASQ):=Oj a z_.1 z_.2
def VT a c d:=fix (Hb a) (c,d)
theorem ACt a:A8 E39 0 3 (code f110) 58 (AAf a) (Hb a) (Ax8 a):=by
 intro _;simp only[Hb,Oj,ASm];kernel_rfl
def T3(a:ASG):ATP ASQ:=
 (VT a 0 ([]:ASQ)).bind λb=>some b
def AEz:=Ck [.d ATE] [⟨[.AB [] ATE],[],ASQ,λp=>T3 p.1.1,λr=>(.pr H7 .u,[Dt r])⟩]
theorem Af5:An prog 110 AEz:=Av (fn:=f110) ⟨⟨E39,pk trivial,λ_ R K=>by
 simp(disch:=refine id ?_;kernel_rfl) only[T3,ASn,VT,AJ (ACt _) (K:=A2 E39 f110 0 R K)];kernel_rfl⟩,trivial⟩
abbrev E40:=eN [(132,Ak7),(133,qK)] {Ba:=[(4,[0,3,5]),(7,[0,3,5,6])],BN:=[(4,[4]),(7,[0,3,4,5])],BM:=[(2,[0,3,17]),(10,[0,3,5,6,74])],Du:=[(2,[0,3]),(10,[0,3,5,6])]}
def AAj a b (z_:Int):=sT 75 [(0,Ar a),(3,Aq),(5,dI z_)] [.box (BP b)]
def Ayc(a:ASG)(b:ASx):=Sum.elim (λ(c:Unit)=>xR 75 mD []) (λ(d:Unit)=>xE 0 75 [] [])
def AAi a e b (z_:Int):=sT 75 [(0,Ar a),(3,Aq),(5,dI e),(6,dI z_)] [.box (BP b)]
def Ayb a e b:=Sum.elim (λ(g:Unit)=>xR 75 [(0,Ar a),(3,Aq),(4,dB false),(5,dI e)] [.box (BP b)]) (λ(i:Unit)=>xE 2 75 [(0,Ar a),(3,Aq),(5,dI e)] [.box (BP b)])
def AAh a e j b:=sT 75 [(0,Ar a),(3,Aq),(5,dI e),(6,dI j)] [.box (BP b)]
def Aya a e j b:=λ(k:Bool)=>xN 75 [(0,Ar a),(3,Aq),(5,dI e),(6,dI j),(74,dB k)] [.box (BP b)]
def Nn(a:ASG)(e j:Int)(b:ASx):ATP Bool:=
 if 0<=e/\e<b.1.length then
 if 0<=j/\j<(b.1.getD e.toNat ATD.zero).length then
 if 0<=e/\e<a.length then
 bif !(BO ((b.1.getD e.toNat ATD.zero).getD j.toNat ATy.zero) 1 (wI ((a.getD e.toNat Ab.zero).2.1-1)))then
 some true
 else
 bif decide (j>0)then
 if 0<=e/\e<b.1.length then
 if 0<=j/\j<(b.1.getD e.toNat ATD.zero).length then
 if 0<=e/\e<b.1.length then
 if 0<=(wI (j-1))/\(wI (j-1))<(b.1.getD e.toNat ATD.zero).length then
 some (decide (((b.1.getD e.toNat ATD.zero).getD j.toNat ATy.zero)<=((b.1.getD e.toNat ATD.zero).getD (wI (j-1)).toNat ATy.zero)))
 else none
 else none
 else none
 else none
 else
 some false
 else none
 else none
 else none
theorem ACv a e j b:AX E40 0 10 (sb (cd f83 116) 100) 24 (AAh a e j b) (Nn a e j b) (Aya a e j b):=by
 unfold AX;simp only[Nn,ASm];kernel_rfl
def NU(a:ASG)(e:Int)(b:ASx)(j:Int):ATP (Int⊕(Unit⊕Unit)):=
 if 0<=e/\e<b.1.length then
 bif decide (j<((b.1.getD e.toNat ATD.zero).length:Int))then
 (Nn a e j b).bind λk=>bif k then
 some (.inr (.inl ()))
 else
 some (.inl (wI (j+1)))
 else
 some (.inr (.inr ()))
 else none
def JU a e b (z_:Int):=NU a e b z_
def Zn a e b j:=fix (JU a e b) j
theorem ACw a e b:A8 E40 0 7 (cd f83 116) 50 (AAi a e b) (JU a e b) (Ayb a e b):=by
 intro _;simp(disch:=refine id ?_;kernel_rfl) only[JU,NU,ASm,Bf (ACv ..) (K:=Ka E40 0 7)];kernel_rfl
def NW(a:ASG)(b:ASx)(e:Int):ATP (Int⊕(Unit⊕Unit)):=
 bif decide (e<(b.1.length:Int))then
 (Zn a e b 0).bind (Sum.elim (λg=>some (.inr (.inl ()))) (λi=>some (.inl (wI (e+1)))))
 else
 some (.inr (.inr ()))
def JV a b (z_:Int):=NW a b z_
def Zo a b e:=fix (JV a b) e
theorem ACx a b:A8 E40 0 4 (code f83) 58 (AAj a b) (JV a b) (Ayc a b):=by
 intro _;simp(disch:=refine id ?_;kernel_rfl) only[JV,NW,ASm,Zn,AJ (ACw _ _ _) (K:=Ka E40 0 4)];kernel_rfl
def AAg a b:=sT 75 [(0,Ar a),(3,Aq)] [.box (BP b)]
def Ax9 a b:=λ(l:Bool)=>xN 75 [(0,Ar a),(3,Aq),(17,dB l)] [.box (BP b)]
def Rp(a:ASG)(b:ASx):ATP Bool:=
 (KP a).bind λn=>bif !n then
 some true
 else
 some ((b.1.length:Int) !=(a.length:Int))
theorem ACu a b:AX E40 0 2 (code f83) 12 (AAg a b) (Rp a b) (Ax9 a b):=by
 unfold AX;simp only[Rp,ASm];kernel_rfl
def Ke(a:ASG)(b:ASx):ATP Bool:=
 (Rp a b).bind λl=>bif l then
 some false
 else
 (Zo a b 0).bind (Sum.elim (λc=>some false) (λd=>some true))
def c83:=Ck [.d ATE,.d Am] [⟨[.AB [] ATE,.AB [] Am],[],Bool,λp=>Ke p.1.1 p.1.2.1,λr=>(dB r,[])⟩]
theorem iF:An prog 83 c83:=Av (fn:=f83) ⟨⟨E40,pk ⟨jH,Ts,trivial⟩,λ_ R K=>by
 simp(disch:=refine id ?_;kernel_rfl) only[Ke,ASn,Bf (ACu ..) (K:=A2 E40 f83 0 R K),Zo,AJ (ACx _ _) (K:=A2 E40 f83 0 R K)];kernel_rfl⟩,trivial⟩
abbrev E41:=eN [] {Ba:=[(3,{Be:=[0,3,5,6],Cj:=[(5,false,.row [] 154 ATF true)]}),(7,[0,3,5,6,7,8])],BN:=[(3,[5]),(7,[0,3,5,6,7])]}
def AAl a b (z_:Int×ASR):=sT 48 (Acu a z_.1) [.box (BP b),Cg z_.2]
def Aye(a:ASG)(b:ASx):=λ(c:ASR)=>xE 0 48 [(5,.AK 0)] [Cg c]
def AAk a d b e (z_:Int×ASD):=sT 48 [(0,Ar a),(3,Aq),(5,.AK 1),(6,dI d),(7,.AK 2),(8,dI z_.1)] [.box (BP b),Cg e,Ig z_.2]
def Ayd a d b e:=λ(g:ASD)=>xE 2 48 [(0,Ar a),(3,Aq),(5,.AK 1),(6,dI d),(7,.AK 2)] [.box (BP b),Cg e,Ig g]
def MD(a:ASG)(d:Int)(b:ASx)(e:ASR)(i:Int)(j:ASD):ATP ((Int×ASD)⊕ASD):=
 if 0<=d/\d<b.1.length then
 bif decide (i<((b.1.getD d.toNat ATD.zero).length:Int))then
 if 0<=d/\d<b.1.length then
 if 0<=i/\i<(b.1.getD d.toNat ATD.zero).length then
 if(0:Int)<=((b.1.getD d.toNat ATD.zero).getD i.toNat ATy.zero)/\((b.1.getD d.toNat ATD.zero).getD i.toNat ATy.zero)<(j.length:Int)then
 some (.inl (wI (i+1),j.set ((b.1.getD d.toNat ATD.zero).getD i.toNat ATy.zero).toNat true))
 else none
 else none
 else none
 else
 some (.inr j)
 else none
def F9 a d b e (z_:Int×ASD):=MD a d b e z_.1 z_.2
def Uw a d b e i j:=fix (F9 a d b e) (i,j)
theorem ACy a d b e:A8 E41 0 7 (cd f85 116) 202 (AAk a d b e) (F9 a d b e) (Ayd a d b e):=by
 intro _;simp only[F9,MD,ASm];kernel_rfl
def ME(a:ASG)(b:ASx)(d:Int)(e:ASR):ATP ((Int×ASR)⊕ASR):=
 bif decide (d<(a.length:Int))then
 if 0<=d/\d<a.length then
 if Ty.row .bool=true/\(0:Int)<=(wI ((a.getD d.toNat Ab.zero).2.1+1))/\(wI ((a.getD d.toNat Ab.zero).2.1+1))<=(wI ((a.getD d.toNat Ab.zero).2.1+1))/\((1:Nat):Int)*(wI ((a.getD d.toNat Ab.zero).2.1+1))<=(281474976710656:Int)/\(wI ((a.getD d.toNat Ab.zero).2.1+1))<=(9223372036854775807:Int)then
 (Uw a d b e 0 (List.replicate (wI ((a.getD d.toNat Ab.zero).2.1+1)).toNat false)).bind λg=>if(e.length+([g]:ASR).length)*24<=140737488355328 then
 some (.inl (wI (d+1),e++([g]:ASR)))
 else none
 else none
 else none
 else
 some (.inr e)
def Ga a b (z_:Int×ASR):=ME a b z_.1 z_.2
def Ux a b d e:=fix (Ga a b) (d,e)
theorem ACz a b:A8 E41 0 3 (code f85) 58 (AAl a b) (Ga a b) (Aye a b):=by
 intro _;simp(disch:=refine id ?_;kernel_rfl) only[Ga,ME,ASm,Uw,AJ (ACy _ _ _ _) (K:=Ka E41 0 3)];kernel_rfl
def Oi(a:ASG)(b:ASx):ATP ASR:=
 (Ux a b 0 ([]:ASR)).bind λc=>some c
def c85:=Ck [.d ATE,.d Am] [⟨[.AB [] ATE,.AB [] Am],[],ASR,λp=>Oi p.1.1 p.1.2.1,λr=>(.AK 0,[Cg r])⟩]
theorem Abi:An prog 85 c85:=Av (fn:=f85) ⟨⟨E41,pk trivial,λ_ R K=>by
 simp(disch:=refine id ?_;kernel_rfl) only[Oi,ASn,Ux,AJ (ACz _ _) (K:=A2 E41 f85 0 R K)];kernel_rfl⟩,trivial⟩
abbrev E42:=eN [(149,Ak9)] {Ba:=[(3,{Be:=[0,3,4],Cj:=[(3,false,.row [] 198 Aa true)]}),(6,{Be:=[0,3,4,5],Cj:=[(3,false,.row [] 198 Aa true)]})],BN:=[(3,[3]),(6,[0,3,4])],BM:=[(7,[0,3,4,5])],Du:=[(7,[0,3,4,5])]}
def AAo a (z_:Int×ASF):=sT 57 [(0,B3 a),(3,.AK 0),(4,dI z_.1)] [EY z_.2]
def Ayh(a:ASI):=λ(b:ASF)=>xE 0 57 mr [EY b]
def AAn a c (z_:Int×ASF):=sT 57 (AjY a c z_.1) [EY z_.2]
def Ayg a c:=λ(d:ASF)=>xE 2 57 [(0,B3 a),(3,.AK 0),(4,dI c)] [EY d]
def AAm a c e g:=sT 57 (AjY a c e) [EY g]
def Ayf a c e (g:ASF):=λ(i:ASF)=>xN 57 (AjY a c e) [EY i]
def Ry(a:ASI)(c e:Int)(g:ASF):ATP ASF:=
 if 0<=c/\c<a.length then
 bif decide ((a.getD c.toNat Af.zero).1<0)then
 if 0<=c/\c<a.length then
 (Jb (a.getD c.toNat Af.zero).2.2.2.1 e).bind λj=>if(g.length+([(-1,wI j,())]:ASF).length)*16<=140737488355328 then
 some (g++([(-1,wI j,())]:ASF))
 else none
 else none
 else
 if 0<=c/\c<a.length then
 if 0<=c/\c<a.length then
 if(g.length+([((a.getD c.toNat Af.zero).1,wI ((a.getD c.toNat Af.zero).2.1+e),())]:ASF).length)*16<=140737488355328 then
 some (g++([((a.getD c.toNat Af.zero).1,wI ((a.getD c.toNat Af.zero).2.1+e),())]:ASF))
 else none
 else none
 else none
 else none
theorem ACA a c e g:AX E42 0 7 (sb (cd f114 116) 100) 6 (AAm a c e g) (Ry a c e g) (Ayf a c e g):=by
 unfold AX;simp only[Ry,ASm];kernel_rfl
def N9(a:ASI)(c e:Int)(g:ASF):ATP (ATj⊕ASF):=
 if 0<=c/\c<a.length then
 bif decide (e<(a.getD c.toNat Af.zero).2.2.1)then
 (Ry a c e g).bind λi=>some (.inl (wI (e+1),i))
 else
 some (.inr g)
 else none
def G6 a c (z_:Int×ASF):=N9 a c z_.1 z_.2
def VO a c e g:=fix (G6 a c) (e,g)
theorem ACB a c:A8 E42 0 6 (cd f114 116) 50 (AAn a c) (G6 a c) (Ayg a c):=by
 intro _;simp(disch:=refine id ?_;kernel_rfl) only[G6,N9,ASm,Bf (ACA ..) (K:=Ka E42 0 6)];kernel_rfl
def Oa(a:ASI)(c:Int)(k:ASF):ATP (ATj⊕ASF):=
 bif decide (c<(a.length:Int))then
 (VO a c 0 k).bind λd=>some (.inl (wI (c+1),d))
 else
 some (.inr k)
def EV a (z_:Int×ASF):=Oa a z_.1 z_.2
def VP a c k:=fix (EV a) (c,k)
theorem ACC a:A8 E42 0 3 (code f114) 58 (AAo a) (EV a) (Ayh a):=by
 intro _;simp(disch:=refine id ?_;kernel_rfl) only[EV,Oa,ASm,VO,AJ (ACB _ _) (K:=Ka E42 0 3)];kernel_rfl
def IY(a:ASI):ATP ASF:=
 (VP a 0 ([]:ASF)).bind λb=>some b
def Avg:=Ck [.d ATB] [⟨[.AB [] ATB],[],ASF,λp=>IY p.1.1,λr=>(.AK 0,[EY r])⟩]
theorem uC:An prog 114 Avg:=Av (fn:=f114) ⟨⟨E42,pk ⟨jJ,trivial⟩,λ_ R K=>by
 simp(disch:=refine id ?_;kernel_rfl) only[IY,ASn,VP,AJ (ACC _) (K:=A2 E42 f114 0 R K)];kernel_rfl⟩,trivial⟩
abbrev E43:=eN [(114,Avg)] {Ba:=[(3,{Be:=[0,2,3,4],Cj:=[(3,true,.row [1] 4 .bool true)]}),(6,{Be:=[0,2,3,4,5],Cj:=[(3,true,.row [1] 4 .bool true)]})],BN:=[(3,[2,3]),(6,[0,2,3,4])]}
def AAq a b (z_:Int×ASD):=sT 32 [(0,B3 a),(2,Aq),(3,AZ),(4,dI z_.1)] (Acv b z_.2)
def Ayj(a:ASI) b:=λ(c:ASD)=>xE 0 32 [(2,Aq),(3,AZ)] (Acv b c)
def AAp a d b (z_:Int×ASD):=sT 32 [(0,B3 a),(2,Aq),(3,AZ),(4,dI d),(5,dI z_.1)] (Acv b z_.2)
def Ayi a d b:=λ(e:ASD)=>xE 2 32 [(0,B3 a),(2,Aq),(3,AZ),(4,dI d)] (Acv b e)
def Ol(a:ASI)(d:Int)(b:ASF)(g:Int)(i:ASD):ATP ((Int×ASD)⊕ASD):=
 if 0<=d/\d<a.length then
 bif decide (g<(a.getD d.toNat Af.zero).2.2.1)then
 if(i.length+([g==0]:ASD).length)*1<=140737488355328 then
 some (.inl (wI (g+1),i++([g==0]:ASD)))
 else none
 else
 some (.inr i)
 else none
def Hd a d b (z_:Int×ASD):=Ol a d b z_.1 z_.2
def VU a d b g i:=fix (Hd a d b) (g,i)
theorem ACD a d b:A8 E43 0 6 (cd f89 116) 50 (AAp a d b) (Hd a d b) (Ayi a d b):=by
 intro _;simp only[Hd,Ol,ASm];kernel_rfl
def Om(a:ASI)(b:ASF)(d:Int)(j:ASD):ATP ((Int×ASD)⊕ASD):=
 bif decide (d<(a.length:Int))then
 (VU a d b 0 j).bind λe=>some (.inl (wI (d+1),e))
 else
 some (.inr j)
def He a b (z_:Int×ASD):=Om a b z_.1 z_.2
def VW a b d j:=fix (He a b) (d,j)
theorem ACE a b:A8 E43 0 3 (code f89) 58 (AAq a b) (He a b) (Ayj a b):=by
 intro _;simp(disch:=refine id ?_;kernel_rfl) only[He,Om,ASm,VU,AJ (ACD _ _ _) (K:=Ka E43 0 3)];kernel_rfl
def Kh(a:ASI):ATP (ASF×ASD):=
 (IY a).bind λb=>(VW a b 0 ([]:ASD)).bind λc=>some (b,c)
def c89:=Ck [.d ATB] [⟨[.AB [] ATB],[],ASF×ASD,λp=>Kh p.1.1,λr=>(.pr H7 dZ,[EY r.1,Ig r.2])⟩]
theorem Abj:An prog 89 c89:=Av (fn:=f89) ⟨⟨E43,pk ⟨uC,trivial⟩,λ_ R K=>by
 simp(disch:=refine id ?_;kernel_rfl) only[Kh,ASn,VW,AJ (ACE _ _) (K:=A2 E43 f89 0 R K)];kernel_rfl⟩,trivial⟩
abbrev E44:=eN [] {}
def Ez(a:ASB)(b:ASR)(c:Int):ATP Bool:=
 if 0<=c/\c<a.2.1.length then
 bif a.2.1.getD c.toNat (Ty.zero .bool)then
 some true
 else
 if 0<=c/\c<a.1.length then
 bif decide ((a.1.getD c.toNat Aa.zero).1>=0)then
 if 0<=c/\c<a.1.length then
 if(0:Int)<=(a.1.getD c.toNat Aa.zero).1/\(a.1.getD c.toNat Aa.zero).1<(b.length:Int)then
 if 0<=c/\c<a.1.length then
 if(0:Int)<=(a.1.getD c.toNat Aa.zero).2.1/\(a.1.getD c.toNat Aa.zero).2.1<((b.getD (a.1.getD c.toNat Aa.zero).1.toNat ATF.zero).length:Int)then
 some ((b.getD (a.1.getD c.toNat Aa.zero).1.toNat ATF.zero).getD (a.1.getD c.toNat Aa.zero).2.1.toNat (Ty.zero .bool))
 else none
 else none
 else none
 else none
 else
 some false
 else none
 else none
def c91:=Ck [.d Au,.d ATL,.d ATy] [⟨[.AB [] Au,.AB [] ATL,.AB [] ATy],[],Bool,λp=>Ez p.1.1 p.1.2.1 p.1.2.2.1,λr=>(dB r,[])⟩]
theorem qQ:An prog 91 c91:=Av (fn:=f91) ⟨⟨E44,pk trivial,λ_ R K=>by
 simp only[Ez,ASn];kernel_rfl⟩,trivial⟩
abbrev E45:=eN [(91,c91)] {}
def J5(a:ASB)(b:ASR)(c:Int):ATP Bool:=
 (Ez a b c).bind λd=>bif !d then
 if 0<=c/\c<a.1.length then
 some (decide ((a.1.getD c.toNat Aa.zero).1>=0))
 else none
 else
 some false
def AEM:=Ck [.d Au,.d ATL,.d ATy] [⟨[.AB [] Au,.AB [] ATL,.AB [] ATy],[],Bool,λp=>J5 p.1.1 p.1.2.1 p.1.2.2.1,λr=>(dB r,[])⟩]
theorem Agj:An prog 134 AEM:=Av (fn:=f134) ⟨⟨E45,pk ⟨qQ,trivial⟩,λ_ R K=>by
 simp only[J5,ASn];kernel_rfl⟩,trivial⟩
abbrev gR:=eN [(89,c89),(91,c91),(109,Ave),(134,AEM)] {wH:=[(59,4),(67,4),(151,4)],Ba:=[(6,{Be:=[2,7,9,10],Cj:=[(9,false,.row [] 156 Au true)]}),(9,[2,7,9,10,11]),(17,[2,9,13]),(20,[2,9,13,14]),(24,[2,9,13,14,15,16]),(31,[2,9,13,14,15,16,17,18])],BN:=[(6,[2,9]),(9,[2,7,9,10]),(17,{Be:=[]}),(20,[2,9,13]),(24,[2,9,13,14]),(31,[2,9,13,14,15,16])],BM:=[(10,[2,7,9,10,11]),(25,[2,9,13,14,15,16]),(29,[2,9,13,14,15,16,17]),(30,[2,9,13,14,15,16,17]),(32,[2,9,13,14,15,16,17,18]),(36,[2,9,13,14,15,16,17,18,20,142])],Du:=[(10,[2,7,9,10,11]),(25,[2,9,13,14,15,16]),(29,[2,9,13,14,15,16,17]),(30,[2,9,13,14,15,16,17]),(32,[2,9,13,14,15,16,17,18]),(36,[2,9,13,14,15,16,17,18,19,20])]}
def AsQ a (z_:Bool×ASR):=sT 159 [(2,.AK 0),(9,.AK 1),(13,dB z_.1)] (T4 z_.2 a)
def Aq1(a:ASP):=λ(b:ASR)=>xE 4 159 [] [Cg b]
def AsP a (z_:Bool×Int×ASR):=sT 159 [(2,.AK 0),(9,.AK 1),(13,dB z_.1),(14,dI z_.2.1)] (T4 z_.2.2 a)
def Aq0 a:=λ(c:AS8)=>xE 6 159 [(2,.AK 0),(9,.AK 1),(13,dB c.1)] (T4 c.2 a)
def AsO d a e (z_:Bool×Int×ASR):=sT 159 (Acw z_.1 d e z_.2.1) (T4 z_.2.2 a)
def AqZ d a (e:Int):=λ(g:AS8)=>xE 8 159 [(2,.AK 0),(9,.AK 1),(13,dB g.1),(14,dI d)] (T4 g.2 a)
def AsN i d e j k a:=sT 159 (Acw i d e j) (T4 k a)
def AqY(i:Bool) d e j (k:ASR) a:=λ(l:AS8)=>xN 159 (Acw l.1 d e j) (T4 l.2 a)
def AAx d e j a n (z_:Bool×Int×ASR):=sT 159 (AjZ z_.1 d e j n z_.2.1) (T4 z_.2.2 a)
def Ayq d e j a (n:Int):=λ(o:AS8)=>xE 10 159 (Acw o.1 d e j) (T4 o.2 a)
def AAw q d e j n s t a:=sT 159 (AjZ q d e j n s) (T4 t a)
def Ayp(q:Bool) d e j n s (t:ASR) a:=λ(u:AS8)=>xN 159 (AjZ u.1 d e j n s) (T4 u.2 a)
def AAv q d e j n s t a v w:=sT 159 [(2,.AK 0),(9,.AK 1),(13,dB q),(14,dI d),(15,dI e),(16,dI j),(17,dI n),(18,dI s),(19,Dr),(20,J8)] [Cg t,Wx a,.box (.AB [1] Au v),.box (.AB [1] Au w)]
def Ayo q d e j n s t a (v:ASB) w:=λ(x:Bool)=>xN 159 [(2,.AK 0),(9,.AK 1),(13,dB q),(14,dI d),(15,dI e),(16,dI j),(17,dI n),(18,dI s),(20,Dr),(142,dB x)] [Cg t,Wx a,.box (.AB [1] Au w)]
def PX(q:Bool)(d e j n s:Int)(t:ASR)(a:ASP)(v w:ASB):ATP Bool:=
 (Ez v t n).bind λy=>bif y then
 (J5 w t n).bind λa1=>some a1
 else
 some false
theorem ACK q d e j n s t a v w:AX gR 1 36 (sb (sb (sb (sb (sb (cd f86 1016) 108) 204) 6) 188) 6) 22 (AAv q d e j n s t a v w) (PX q d e j n s t a v w) (Ayo q d e j n s t a v w):=by
 unfold AX;simp only[PX,ASm];kernel_rfl
def Lk(q:Bool)(d e j n s:Int)(t:ASR)(a:ASP):ATP AS8:=
 if 0<=(wI (d+s))/\(wI (d+s))<a.length then
 if 0<=(wI ((wI (d+1))-s))/\(wI ((wI (d+1))-s))<a.length then
 (PX q d e j n s t a (a.getD (wI (d+s)).toNat Au.zero) (a.getD (wI ((wI (d+1))-s)).toNat Au.zero)).bind λx=>bif x then
 if 0<=n/\n<(a.getD (wI ((wI (d+1))-s)).toNat Au.zero).1.length then
 if(0:Int)<=((a.getD (wI ((wI (d+1))-s)).toNat Au.zero).1.getD n.toNat Aa.zero).1/\((a.getD (wI ((wI (d+1))-s)).toNat Au.zero).1.getD n.toNat Aa.zero).1<(t.length:Int)then
 if 0<=n/\n<(a.getD (wI ((wI (d+1))-s)).toNat Au.zero).1.length then
 if(0:Int)<=((a.getD (wI ((wI (d+1))-s)).toNat Au.zero).1.getD n.toNat Aa.zero).2.1/\((a.getD (wI ((wI (d+1))-s)).toNat Au.zero).1.getD n.toNat Aa.zero).2.1<(t.getD ((a.getD (wI ((wI (d+1))-s)).toNat Au.zero).1.getD n.toNat Aa.zero).1.toNat ATF.zero).length then
 some (true,t.set ((a.getD (wI ((wI (d+1))-s)).toNat Au.zero).1.getD n.toNat Aa.zero).1.toNat ((t.getD ((a.getD (wI ((wI (d+1))-s)).toNat Au.zero).1.getD n.toNat Aa.zero).1.toNat ATF.zero).set ((a.getD (wI ((wI (d+1))-s)).toNat Au.zero).1.getD n.toNat Aa.zero).2.1.toNat true))
 else none
 else none
 else none
 else none
 else
 some (q,t)
 else none
 else none
theorem ACN q d e j n s t a:AX gR 1 32 (sb (sb (sb (sb (cd f86 1016) 108) 204) 6) 188) 6 (AAw q d e j n s t a) (Lk q d e j n s t a) (Ayp q d e j n s t a):=by
 unfold AX;simp(disch:=refine id ?_;kernel_rfl) only[Lk,ASm,Bf (ACK ..) (K:=Ui gR 1 32)];kernel_rfl
def MC(d e j:Int)(a:ASP)(n:Int)(q:Bool)(s:Int)(t:ASR):ATP ((Bool×Int×ASR)⊕AS8):=
 bif decide (s<2)then
 (Lk q d e j n s t a).bind λu=>some (.inl (u.1,wI (s+1),u.2))
 else
 some (.inr (q,t))
def F8 d e j a n (z_:Bool×Int×ASR):=MC d e j a n z_.1 z_.2.1 z_.2.2
def Uv d e j a n q s t:=fix (F8 d e j a n) (q,s,t)
theorem ACO d e j a n:A8 gR 1 31 (sb (sb (sb (cd f86 1016) 108) 204) 6) 94 (AAx d e j a n) (F8 d e j a n) (Ayq d e j a n):=by
 intro _;simp(disch:=refine id ?_;kernel_rfl) only[F8,MC,ASm,Bf (ACN ..) (K:=Ka gR 1 31)];kernel_rfl
def AAu i d e j k a b1:=sT 159 (xQ i d e j b1) (T4 k a)
def Ayn i d e j k a b1:=Sum.elim (λ(c1:Unit)=>xE 9 159 (xQ i d e j b1) (T4 k a)) (λ(d1:Unit)=>xN 159 (xQ i d e j b1) (T4 k a))
def PW(i:Bool)(d e j:Int)(k:ASR)(a:ASP)(b1:Int):ATP (Unit⊕Unit):=
 bif decide (b1<1)then
 some (.inl ())
 else
 bif decide (b1>=e)then
 some (.inl ())
 else
 some (.inr ())
theorem ACJ i d e j k a b1:AX gR 1 30 (sb (sb (sb (cd f86 1016) 108) 204) 6) 22 (AAu i d e j k a b1) (PW i d e j k a b1) (Ayn i d e j k a b1):=by
 unfold AX;simp only[PW,ASm];kernel_rfl
def Ans i d e j k a:=sT 159 (xQ i d e j j) (T4 k a)
def Ae0(i:Bool)(d e j:Int)(k:ASR)(a:ASP)(m0:Int):Ex×St:=xN 159 (xQ i d e j m0) (T4 k a)
theorem ACI i d e j k a:Xk gR 1 29 (sb (sb (sb (cd f86 1016) 108) 204) 6) (pt 10) (Ans i d e j k a)=some (Ae0 i d e j k a (bif decide (j>=e)then(wI ((wI (2*e))-j))else j)):=by
 refine .trans (b:=
 bif decide (j>=e)then
 some (Ae0 i d e j k a (wI ((wI (2*e))-j)))
 else
 some (Ae0 i d e j k a j)) (by kernel_rfl) ?_
 cases (decide (j>=e));rfl;rfl
def J4(i:Bool)(d e j:Int)(k:ASR)(a:ASP):ATP AS8:=
 OQ (Ans i d e j k a) (
 (PW i d e j k a (bif decide (j>=e)then(wI ((wI (2*e))-j))else j)).bind (Sum.elim (λc1=>some (i,k)) (λd1=>(Uv d e j a (bif decide (j>=e)then(wI ((wI (2*e))-j))else j) i 0 k).bind λo=>some (o.1,o.2))))
theorem Au1 i d e j k a:AX gR 1 25 (sb (sb (cd f86 1016) 108) 204) 6 (AsN i d e j k a) (J4 i d e j k a) (AqY i d e j k a):=by
 unfold AX;simp(disch:=refine id ?_;kernel_rfl) only[J4,ASm,Ey (ACI ..) (K:=Ui gR 1 25),Bf (ACJ ..) (K:=Ui gR 1 25),Uv,AJ (ACO _ _ _ _ _) (K:=Ui gR 1 25)];kernel_rfl
def KX(d:Int)(a:ASP)(e:Int)(i:Bool)(j:Int)(k:ASR):ATP ((Bool×Int×ASR)⊕AS8):=
 bif decide (j<(wI (2*e)))then
 (J4 i d e j k a).bind λl=>some (.inl (l.1,wI (j+1),l.2))
 else
 some (.inr (i,k))
def EW d a e (z_:Bool×Int×ASR):=KX d a e z_.1 z_.2.1 z_.2.2
def SV d a e i j k:=fix (EW d a e) (i,j,k)
theorem Au2 d a e:A8 gR 1 24 (sb (cd f86 1016) 108) 102 (AsO d a e) (EW d a e) (AqZ d a e):=by
 intro _;simp(disch:=refine id ?_;kernel_rfl) only[EW,KX,ASm,Bf (Au1 ..) (K:=Ka gR 1 24)];kernel_rfl
def KY(a:ASP)(e1:Bool)(d:Int)(g1:ASR):ATP ((Bool×Int×ASR)⊕AS8):=
 bif decide (d<(a.length:Int))then
 if 0<=d/\d<a.length then
 (SV d a ((a.getD d.toNat Au.zero).1.length:Int) e1 1 g1).bind λg=>some (.inl (g.1,wI (d+2),g.2))
 else none
 else
 some (.inr (e1,g1))
def EX a (z_:Bool×Int×ASR):=KY a z_.1 z_.2.1 z_.2.2
def SX a e1 d g1:=fix (EX a) (e1,d,g1)
theorem Au3 a:A8 gR 1 20 (cd f86 1016) 54 (AsP a) (EX a) (Aq0 a):=by
 intro _;simp(disch:=refine id ?_;kernel_rfl) only[EX,KY,ASm,SV,AJ (Au2 _ _ _) (K:=Ka gR 1 20)];kernel_rfl
def Qk(a:ASP)(i1:Bool)(j1:ASR):ATP (AS8⊕ASR):=
 bif i1 then
 (SX a false 0 j1).bind λc=>some (.inl (c.1,c.2))
 else
 some (.inr j1)
def KZ a (z_:Bool×ASR):=Qk a z_.1 z_.2
def SY a i1 j1:=fix (KZ a) (i1,j1)
theorem Au4 a:A8 gR 1 17 (code f86) 508 (AsQ a) (KZ a) (Aq1 a):=by
 intro _;simp(disch:=refine id ?_;kernel_rfl) only[KZ,Qk,ASm,SX,AJ (Au3 _) (K:=Ka gR 1 17)];kernel_rfl
def AAt k1 (z_:Int×ASR×ASP):=sT 159 [(2,.AK 0),(7,.AK 1),(9,.AK 2),(10,dI z_.1)] [Cg z_.2.1,RS k1,Wx z_.2.2]
def Aym(k1:AST):=λ(l1:(ASR×ASP))=>xE 0 159 [(2,.AK 0),(9,.AK 1)] (T4 l1.1 l1.2)
def AAs n1 k1 o1 (z_:Int×ASR):=sT 159 (Aj0 n1 z_.1) [Cg z_.2,RS k1,Wx o1]
def Ayl n1 k1 o1:=λ(q1:ASR)=>xE 2 159 [(2,.AK 0),(7,.AK 1),(9,.AK 2),(10,dI n1)] [Cg q1,RS k1,Wx o1]
def AAr n1 s1 t1 k1 o1:=sT 159 (Aj0 n1 s1) [Cg t1,RS k1,Wx o1]
def Ayk n1 s1 (t1:ASR) k1 o1:=λ(u1:ASR)=>xN 159 (Aj0 n1 s1) [Cg u1,RS k1,Wx o1]
def Lj(n1 s1:Int)(t1:ASR)(k1:AST)(o1:ASP):ATP ASR:=
 if 0<=n1/\n1<k1.length then
 if 0<=s1/\s1<(k1.getD n1.toNat ATB.zero).length then
 bif decide (((k1.getD n1.toNat ATB.zero).getD s1.toNat Af.zero).1>=0)then
 if(0:Int)<=((k1.getD n1.toNat ATB.zero).getD s1.toNat Af.zero).1/\((k1.getD n1.toNat ATB.zero).getD s1.toNat Af.zero).1<(t1.length:Int)then
 if(0:Int)<=((k1.getD n1.toNat ATB.zero).getD s1.toNat Af.zero).2.1/\((k1.getD n1.toNat ATB.zero).getD s1.toNat Af.zero).2.1<(t1.getD ((k1.getD n1.toNat ATB.zero).getD s1.toNat Af.zero).1.toNat ATF.zero).length then
 if(0:Int)<=((k1.getD n1.toNat ATB.zero).getD s1.toNat Af.zero).1/\((k1.getD n1.toNat ATB.zero).getD s1.toNat Af.zero).1<((t1.set ((k1.getD n1.toNat ATB.zero).getD s1.toNat Af.zero).1.toNat ((t1.getD ((k1.getD n1.toNat ATB.zero).getD s1.toNat Af.zero).1.toNat ATF.zero).set ((k1.getD n1.toNat ATB.zero).getD s1.toNat Af.zero).2.1.toNat true)).length:Int)then
 if(0:Int)<=(wI (((k1.getD n1.toNat ATB.zero).getD s1.toNat Af.zero).2.1+((k1.getD n1.toNat ATB.zero).getD s1.toNat Af.zero).2.2.1))/\(wI (((k1.getD n1.toNat ATB.zero).getD s1.toNat Af.zero).2.1+((k1.getD n1.toNat ATB.zero).getD s1.toNat Af.zero).2.2.1))<((t1.set ((k1.getD n1.toNat ATB.zero).getD s1.toNat Af.zero).1.toNat ((t1.getD ((k1.getD n1.toNat ATB.zero).getD s1.toNat Af.zero).1.toNat ATF.zero).set ((k1.getD n1.toNat ATB.zero).getD s1.toNat Af.zero).2.1.toNat true)).getD ((k1.getD n1.toNat ATB.zero).getD s1.toNat Af.zero).1.toNat ATF.zero).length then
 some ((t1.set ((k1.getD n1.toNat ATB.zero).getD s1.toNat Af.zero).1.toNat ((t1.getD ((k1.getD n1.toNat ATB.zero).getD s1.toNat Af.zero).1.toNat ATF.zero).set ((k1.getD n1.toNat ATB.zero).getD s1.toNat Af.zero).2.1.toNat true)).set ((k1.getD n1.toNat ATB.zero).getD s1.toNat Af.zero).1.toNat (((t1.set ((k1.getD n1.toNat ATB.zero).getD s1.toNat Af.zero).1.toNat ((t1.getD ((k1.getD n1.toNat ATB.zero).getD s1.toNat Af.zero).1.toNat ATF.zero).set ((k1.getD n1.toNat ATB.zero).getD s1.toNat Af.zero).2.1.toNat true)).getD ((k1.getD n1.toNat ATB.zero).getD s1.toNat Af.zero).1.toNat ATF.zero).set (wI (((k1.getD n1.toNat ATB.zero).getD s1.toNat Af.zero).2.1+((k1.getD n1.toNat ATB.zero).getD s1.toNat Af.zero).2.2.1)).toNat true))
 else none
 else none
 else none
 else none
 else
 some t1
 else none
 else none
theorem ACF n1 s1 t1 k1 o1:AX gR 1 10 (sb (cd f86 500) 196) 6 (AAr n1 s1 t1 k1 o1) (Lj n1 s1 t1 k1 o1) (Ayk n1 s1 t1 k1 o1):=by
 unfold AX;simp only[Lj,ASm];kernel_rfl
def MA(n1:Int)(k1:AST)(o1:ASP)(s1:Int)(t1:ASR):ATP ((Int×ASR)⊕ASR):=
 if 0<=n1/\n1<k1.length then
 bif decide (s1<((k1.getD n1.toNat ATB.zero).length:Int))then
 (Lj n1 s1 t1 k1 o1).bind λu1=>some (.inl (wI (s1+1),u1))
 else
 some (.inr t1)
 else none
def F6 n1 k1 o1 (z_:Int×ASR):=MA n1 k1 o1 z_.1 z_.2
def Ut n1 k1 o1 s1 t1:=fix (F6 n1 k1 o1) (s1,t1)
theorem ACG n1 k1 o1:A8 gR 1 9 (cd f86 500) 98 (AAs n1 k1 o1) (F6 n1 k1 o1) (Ayl n1 k1 o1):=by
 intro _;simp(disch:=refine id ?_;kernel_rfl) only[F6,MA,ASm,Bf (ACF ..) (K:=Ka gR 1 9)];kernel_rfl
def MB(k1:AST)(n1:Int)(v1:ASR)(o1:ASP):ATP ((Int×ASR×ASP)⊕(ASR×ASP)):=
 bif decide (n1<(k1.length:Int))then
 (Ut n1 k1 o1 0 v1).bind λq1=>if 0<=n1/\n1<k1.length then
 (Kh (k1.getD n1.toNat ATB.zero)).bind λw1=>if(o1.length+([(w1.1,w1.2,())]:ASP).length)*48<=140737488355328 then
 some (.inl (wI (n1+1),q1,o1++([(w1.1,w1.2,())]:ASP)))
 else none
 else none
 else
 some (.inr (v1,o1))
def F7 k1 (z_:Int×ASR×ASP):=MB k1 z_.1 z_.2.1 z_.2.2
def Uu k1 n1 v1 o1:=fix (F7 k1) (n1,v1,o1)
theorem ACH k1:A8 gR 1 6 (code f86) 250 (AAt k1) (F7 k1) (Aym k1):=by
 intro _;simp(disch:=refine id ?_;kernel_rfl) only[F7,MB,ASm,Ut,AJ (ACG _ _ _) (K:=Ka gR 1 6)];kernel_rfl
def UW(x1:ASG)(y1:ASK)(a2:ASR):ATP AS8:=
 (RJ x1 y1).bind λb2=>bif !b2.1 then
 some (false,a2)
 else
 (Uu b2.2 0 a2 ([]:ASP)).bind λl1=>(SY l1.2 true l1.1).bind λb=>some (true,b)
def c86:=Ck [.d ATE,.d ATG,.VE] [⟨[.AB [] ATE,.AB [] ATG,.k H7],[.row 154 .Aw ATF],AS8,λp=>UW p.1.1 p.1.2.1 p.2.1,λr=>(dB r.1,[Cg r.2])⟩]
theorem AlP:An prog 86 c86:=Av (fn:=f86) ⟨⟨gR,pk ⟨Abj,qQ,uA,Agj,trivial⟩,λ_ R K=>by
 simp(disch:=refine id ?_;kernel_rfl) only[UW,ASn,Uu,AJ (ACH _) (K:=A2 gR f86 1 R K),SY,AJ (Au4 _) (K:=A2 gR f86 1 R K)];kernel_rfl⟩,trivial⟩
abbrev E47:=eN [] {Ba:=[(3,{Be:=[0,2,3,4],Cj:=[(3,true,.row [0] 32 ATD true)]}),(7,{Be:=[0,2,3,4,5,6],Cj:=[(5,false,.row [] 2 ATy true)]})],BN:=[(3,[2,3]),(7,[0,2,3,4,5])],BM:=[(8,{Be:=[0,2,3,4,5,6],Cj:=[(5,false,.row [] 2 ATy true)]})],Du:=[(8,[0,2,3,4,5,6])]}
def AAA a (z_:Int×ASQ):=sT 43 [(0,Yc a),(2,Aq),(3,AZ),(4,dI z_.1)] (Acs z_.2)
def Ayt(a:ASR):=λ(b:ASQ)=>xE 0 43 [(2,Aq),(3,AZ)] (Acs b)
def AAz a c d (z_:Int×ASC):=sT 43 (Aj1 a c z_.1) (Acx z_.2 d)
def Ays a c d:=λ(e:ASC)=>xE 2 43 [(0,Yc a),(2,Aq),(3,AZ),(4,dI c),(5,.AK 2)] (Acx e d)
def AAy a c g i d:=sT 43 (Aj1 a c g) (Acx i d)
def Ayr a c g (i:ASC) d:=λ(j:ASC)=>xN 43 (Aj1 a c g) (Acx j d)
def Nr(a:ASR)(c g:Int)(i:ASC)(d:ASQ):ATP ASC:=
 if 0<=c/\c<a.length then
 if 0<=g/\g<(a.getD c.toNat ATF.zero).length then
 bif (a.getD c.toNat ATF.zero).getD g.toNat (Ty.zero .bool)then
 if(i.length+([g]:ASC).length)*8<=140737488355328 then
 some (i++([g]:ASC))
 else none
 else
 some i
 else none
 else none
theorem ACP a c g i d:AX E47 0 8 (sb (cd f87 116) 404) 6 (AAy a c g i d) (Nr a c g i d) (Ayr a c g i d):=by
 unfold AX;simp only[Nr,ASm];kernel_rfl
def Og(a:ASR)(c:Int)(d:ASQ)(g:Int)(i:ASC):ATP (ASZ⊕ASC):=
 if 0<=c/\c<a.length then
 bif decide ((wI (g+1))<((a.getD c.toNat ATF.zero).length:Int))then
 (Nr a c g i d).bind λj=>some (.inl (wI (g+1),j))
 else
 some (.inr i)
 else none
def G9 a c d (z_:Int×ASC):=Og a c d z_.1 z_.2
def VR a c d g i:=fix (G9 a c d) (g,i)
theorem ACQ a c d:A8 E47 0 7 (cd f87 116) 202 (AAz a c d) (G9 a c d) (Ays a c d):=by
 intro _;simp(disch:=refine id ?_;kernel_rfl) only[G9,Og,ASm,Bf (ACP ..) (K:=Ka E47 0 7)];kernel_rfl
def Oh(a:ASR)(c:Int)(d:ASQ):ATP ((Int×ASQ)⊕ASQ):=
 bif decide (c<(a.length:Int))then
 (VR a c d 1 ([]:ASC)).bind λe=>if(d.length+([e]:ASQ).length)*24<=140737488355328 then
 some (.inl (wI (c+1),d++([e]:ASQ)))
 else none
 else
 some (.inr d)
def Ha a (z_:Int×ASQ):=Oh a z_.1 z_.2
def VS a c d:=fix (Ha a) (c,d)
theorem ACR a:A8 E47 0 3 (code f87) 58 (AAA a) (Ha a) (Ayt a):=by
 intro _;simp(disch:=refine id ?_;kernel_rfl) only[Ha,Oh,ASm,VR,AJ (ACQ _ _ _) (K:=Ka E47 0 3)];kernel_rfl
def T2(a:ASR):ATP ASQ:=
 (VS a 0 ([]:ASQ)).bind λb=>some b
def c87:=Ck [.d ATL] [⟨[.AB [] ATL],[],ASQ,λp=>T2 p.1.1,λr=>(.pr H7 .u,[Dt r])⟩]
theorem AlQ:An prog 87 c87:=Av (fn:=f87) ⟨⟨E47,pk trivial,λ_ R K=>by
 simp(disch:=refine id ?_;kernel_rfl) only[T2,ASn,VS,AJ (ACR _) (K:=A2 E47 f87 0 R K)];kernel_rfl⟩,trivial⟩
end
end Go.Proofs.X
