import Derived.KernelRfl
import Derived.Test.YtoinnpeenpmgkaaGreatK2
set_option linter.unusedVariables false
set_option linter.unusedSimpArgs false
namespace Go.Proofs.X
open Go Go.Va Go.Proofs.Tryz
set_option maxRecDepth 100000
noncomputable section
abbrev E16:=eN [(116,AES)] {A5:=[(3,[0,3,4])],BB:=[(3,[3])]}
def AzT a (z_:Int×ASP):=sT 23 [(0,jC a),(3,.AG 0),(4,dI z_.1)] [Ib z_.2]
def AxJ(a:ASP):=λ(b:ASP)=>xE 0 23 tC [Ib b]
def VX(a:ASP)(c:Int)(d:ASP):ATV (ATc⊕ASP):=
 bif decide (c<(a.length:Int))then
 if 0<=c/\c<a.length then
 (Ru (a.getD c.toNat Ah.zero)).bind λe=>if 0<=c/\c<d.length then
 some (.inl (wI (c+1),d.set c.toNat (e.1,e.2.1,e.2.2.1,e.2.2.2.1,(e.2.2.2.2.1,e.2.2.2.2.2.1,()),e.2.2.2.2.2.2,())))
 else none
 else none
 else
 some (.inr d)
def KP a (z_:Int×ASP):=VX a z_.1 z_.2
def SX a c d:=fix (KP a) (c,d)
theorem AB3 a:A3 E16 0 3 (code f68) 58 (AzT a) (KP a) (AxJ a):=by
 intro _;simp only[KP,VX,ASr];kernel_rfl
def Pk(a:ASP):ATV ASP:=
 if Ty.row Ah=true/\(0:Int)<=(a.length:Int)/\(a.length:Int)<=(a.length:Int)/\((88:Nat):Int)*(a.length:Int)<=(281474976710656:Int)/\(a.length:Int)<=(9223372036854775807:Int)then
 (SX a 0 (List.replicate (a.length:Int).toNat (0,0,0,0,(0,([]:ASH),()),([]:ASH),()))).bind λb=>some b
 else none
def c68:=Ci [.d ATQ] [⟨[.AB [] ATQ],[],ASP,λp=>Pk p.1.1,λr=>(.AG 0,[Ib r])⟩]
theorem Alm:Ao prog 68 c68:=Av (fn:=f68) ⟨⟨E16,pk ⟨AfJ,trivial⟩,λ_ R K=>by
 simp(disch:=refine id ?_;kernel_rfl) only[Pk,ASs,SX,AF (AB3 _) (K:=A0 E16 f68 0 R K)];kernel_rfl⟩,trivial⟩
abbrev E17:=eN [(68,c68)] {}
def G2(a:ASD):ATV ASP:=
 (Pk a.1).bind λb=>some b
def c25:=Ci [.d An] [⟨[.AB [] An],[],ASP,λp=>G2 p.1.1,λr=>(.pr HS .u,[Ib r])⟩]
theorem AaR:Ao prog 25 c25:=Av (fn:=f25) ⟨⟨E17,pk ⟨Alm,trivial⟩,λ_ R K=>by
 simp only[G2,ASs];kernel_rfl⟩,trivial⟩
abbrev E18:=eN [(25,c25)] {}
def Nm(a:ASx):ATV (Int×Bool×ASP×ASP):=
 (G2 a.2.2.1).bind λb=>(G2 a.2.2.2.1).bind λc=>some (a.1,a.2.1,b,c)
def c48:=Ci [.d Af] [⟨[.AB [] Af],[],Int×Bool×ASP×ASP,λp=>Nm p.1.1,λr=>(.pr (dI r.1) (.pr (dB r.2.1) (.pr Ps (.pr fe .u))),[Ib r.2.2.1,Ib r.2.2.2])⟩]
theorem Alc:Ao prog 48 c48:=Av (fn:=f48) ⟨⟨E18,pk ⟨AaR,trivial⟩,λ_ R K=>by
 simp only[Nm,ASs];kernel_rfl⟩,trivial⟩
abbrev E19:=eN [(48,c48)] {A5:=[(3,[0,3,4])],BB:=[(3,[3])]}
def AzU a (z_:Int×ASN):=sT 23 (AmZ a z_.1) [MP z_.2]
def AxK(a:ASN):=λ(b:ASN)=>xE 0 23 tC [MP b]
def T1(a:ASN)(c:Int)(d:ASN):ATV (ATf⊕ASN):=
 bif decide (c<(a.length:Int))then
 if 0<=c/\c<a.length then
 (Nm (a.getD c.toNat Af.zero)).bind λe=>if 0<=c/\c<d.length then
 some (.inl (wI (c+1),d.set c.toNat (e.1,e.2.1,(e.2.2.1,()),(e.2.2.2,()),())))
 else none
 else none
 else
 some (.inr d)
def IU a (z_:Int×ASN):=T1 a z_.1 z_.2
def Qp a c d:=fix (IU a) (c,d)
theorem AB4 a:A3 E19 0 3 (code f11) 58 (AzU a) (IU a) (AxK a):=by
 intro _;simp only[IU,T1,ASr];kernel_rfl
def Ew(a:ASN):ATV ASN:=
 if Ty.row Af=true/\(0:Int)<=(a.length:Int)/\(a.length:Int)<=(a.length:Int)/\((64:Nat):Int)*(a.length:Int)<=(281474976710656:Int)/\(a.length:Int)<=(9223372036854775807:Int)then
 (Qp a 0 (List.replicate (a.length:Int).toNat (0,false,(([]:ASP),()),(([]:ASP),()),()))).bind λb=>some b
 else none
def c11:=Ci [.d ATL] [⟨[.AB [] ATL],[],ASN,λp=>Ew p.1.1,λr=>(.AG 0,[MP r])⟩]
theorem AkO:Ao prog 11 c11:=Av (fn:=f11) ⟨⟨E19,pk ⟨Alc,trivial⟩,λ_ R K=>by
 simp(disch:=refine id ?_;kernel_rfl) only[Ew,ASs,Qp,AF (AB4 _) (K:=A0 E19 f11 0 R K)];kernel_rfl⟩,trivial⟩
abbrev E20:=eN [] {}
def Oc(a:Int):Bool:=((decide (a>=48))&&(decide (a<=57)))
theorem U20 R a K:T6 E20 f181 R [dD ATG a] [] K=K (dB (Oc a)) []:=by
 refine .trans (b:=
 bif decide (a>=48)then
 K (dB (decide (a<=57))) []
 else
 K (dB false) []) (by kernel_rfl) ?_
 unfold Oc;cases (decide (a>=48));rfl;rfl
def AFD:=Ci [.d ATG] [⟨[.AB [] ATG],[],Bool,λp=>some (Oc p.1.1),λr=>(dB r,[])⟩]
theorem Agv:Ao prog 181 AFD:=Av ⟨⟨E20,pk trivial,λ_ _ _=>U20 ..⟩,trivial⟩
abbrev E21:=eN [(181,AFD)] {A5:=[(4,[0,3])],BB:=[(4,[2])],Bw:=[(2,[0,16]),(7,[0,3,39])],Da:=[(2,[0]),(7,[0,3])]}
def AzX a (z_:Int):=sT 40 [(0,Ia a),(3,dI z_)] []
def AxN(a:ByteArray):=Sum.elim (λ(b:Unit)=>xR 40 [(2,dB false)] []) (λ(c:Unit)=>xE 0 40 [] [])
def AzW a d:=sT 40 [(0,Ia a),(3,dI d)] []
def AxM a d:=λ(e:Bool)=>xN 40 [(0,Ia a),(3,dI d),(39,dB e)] []
def Nw(a:ByteArray)(d:Int):ATV Bool:=
 if(0:Int)<=d/\d<(a.size:Int)then
 bif !(Oc (C8 a d))then
 if(0:Int)<=d/\d<(a.size:Int)then
 bif decide ((C8 a d)<97)then
 some true
 else
 if(0:Int)<=d/\d<(a.size:Int)then
 some (decide ((C8 a d)>122))
 else none
 else none
 else
 some false
 else none
theorem AB6 a d:AQ E21 0 7 (cd f158 116) 24 (AzW a d) (Nw a d) (AxM a d):=by
 unfold AQ;simp only[Nw,ASr];kernel_rfl
def Oe(a:ByteArray)(d:Int):ATV (Int⊕(Unit⊕Unit)):=
 bif decide (d<(a.size:Int))then
 (Nw a d).bind λe=>bif e then
 some (.inr (.inl ()))
 else
 some (.inl (wI (d+1)))
 else
 some (.inr (.inr ()))
def Ke a (z_:Int):=Oe a z_
def ZQ a d:=fix (Ke a) d
theorem AB7 a:A3 E21 0 4 (code f158) 58 (AzX a) (Ke a) (AxN a):=by
 intro _;simp(disch:=refine id ?_;kernel_rfl) only[Ke,Oe,ASr,Ba (AB6 ..) (K:=JG E21 0 4)];kernel_rfl
def AzV a:=sT 40 [(0,Ia a)] []
def AxL a:=λ(g:Bool)=>xN 40 [(0,Ia a),(16,dB g)] []
def RR(a:ByteArray):ATV Bool:=
 bif decide ((a.size:Int)<1)then
 some true
 else
 bif decide ((a.size:Int)>12)then
 some true
 else
 if(0:Int)<=(0:Int)/\(0:Int)<(a.size:Int)then
 some (Oc (C8 a 0))
 else none
theorem AB5 a:AQ E21 0 2 (code f158) 12 (AzV a) (RR a) (AxL a):=by
 unfold AQ;simp only[RR,ASr];kernel_rfl
def QJ(a:ByteArray):ATV Bool:=
 (RR a).bind λg=>bif g then
 some false
 else
 (ZQ a 0).bind (Sum.elim (λb=>some false) (λc=>some true))
def AFl:=Ci [.d .str] [⟨[.AB [] .str],[],Bool,λp=>QJ p.1.1,λr=>(dB r,[])⟩]
theorem Agd:Ao prog 158 AFl:=Av (fn:=f158) ⟨⟨E21,pk ⟨Agv,trivial⟩,λ_ R K=>by
 simp(disch:=refine id ?_;kernel_rfl) only[QJ,ASs,Ba (AB5 _) (K:=A0 E21 f158 0 R K),ZQ,AF (AB7 _) (K:=A0 E21 f158 0 R K)];kernel_rfl⟩,trivial⟩
abbrev E22:=eN [] {}
def BL(a b c:Int):Bool:=((decide (a>=b))&&(decide (a<=c)))
theorem U22 R a b c K:T6 E22 f133 R [dI a,dI b,dI c] [] K=K (dB (BL a b c)) []:=by
 refine .trans (b:=
 bif decide (a>=b)then
 K (dB (decide (a<=c))) []
 else
 K (dB false) []) (by kernel_rfl) ?_
 unfold BL;cases (decide (a>=b));rfl;rfl
def qN:=Ci [.d ATE,.d ATE,.d ATE] [⟨[.AB [] ATE,.AB [] ATE,.AB [] ATE],[],Bool,λp=>some (BL p.1.1 p.1.2.1 p.1.2.2.1),λr=>(dB r,[])⟩]
theorem TH:Ao prog 133 qN:=Av ⟨⟨E22,pk trivial,λ_ _ _=>U22 ..⟩,trivial⟩
abbrev E23:=eN [(133,qN),(158,AFl)] {A5:=[(5,[0,3,4]),(10,[0,3,4,5])],BB:=[(5,[2,3]),(10,[0,2,3,4])],Bw:=[(8,[0,3,4,30])],Da:=[(8,[0,3,4])]}
def Az0 a (z_:Int×Int):=sT 56 [(0,Ar a),(3,dI z_.1),(4,dI z_.2)] []
def AxQ(a:ASL):=Sum.elim (λ(b:Int)=>xR 56 [(2,dB false),(3,dI b)] []) (λ(c:Int)=>xE 0 56 [(3,dI c)] [])
def AzZ a d e (z_:Int):=sT 56 [(0,Ar a),(3,dI d),(4,dI e),(5,dI z_)] []
def AxP a d e:=Sum.elim (λ(g:Unit)=>xR 56 [(0,Ar a),(2,dB false),(3,dI d),(4,dI e)] []) (λ(i:Unit)=>xE 2 56 [(0,Ar a),(3,dI d),(4,dI e)] [])
def Mn(a:ASL)(d e j:Int):ATV (Int⊕(Unit⊕Unit)):=
 bif decide (j<e)then
 if 0<=j/\j<a.length then
 if 0<=e/\e<a.length then
 bif Jn (a.getD j.toNat Ab.zero).1 (a.getD e.toNat Ab.zero).1 then
 some (.inr (.inl ()))
 else
 some (.inl (wI (j+1)))
 else none
 else none
 else
 some (.inr (.inr ()))
def I1 a d e (z_:Int):=Mn a d e z_
def YT a d e j:=fix (I1 a d e) j
theorem AB9 a d e:A3 E23 0 10 (cd f132 244) 202 (AzZ a d e) (I1 a d e) (AxP a d e):=by
 intro _;simp only[I1,Mn,ASr];kernel_rfl
def AzY a d e:=sT 56 [(0,Ar a),(3,dI d),(4,dI e)] []
def AxO a d e:=λ(k:Bool)=>xN 56 [(0,Ar a),(3,dI d),(4,dI e),(30,dB k)] []
def PR(a:ASL)(d e:Int):ATV Bool:=
 if 0<=e/\e<a.length then
 (QJ (a.getD e.toNat Ab.zero).1).bind λl=>bif !l then
 some true
 else
 if 0<=e/\e<a.length then
 some (!(BL (a.getD e.toNat Ab.zero).2.1 1 4096))
 else none
 else none
theorem AB8 a d e:AQ E23 0 8 (cd f132 244) 48 (AzY a d e) (PR a d e) (AxO a d e):=by
 unfold AQ;simp only[PR,ASr];kernel_rfl
def Mp(a:ASL)(d e:Int):ATV (AS7⊕(Int⊕Int)):=
 bif decide (e<(a.length:Int))then
 (PR a d e).bind λk=>bif k then
 some (.inr (.inl d))
 else
 (YT a d e 0).bind (Sum.elim (λg=>some (.inr (.inl d))) (λi=>if 0<=e/\e<a.length then
 some (.inl (wI (d+(a.getD e.toNat Ab.zero).2.1),wI (e+1)))
 else none))
 else
 some (.inr (.inr d))
def I2 a (z_:Int×Int):=Mp a z_.1 z_.2
def YU a d e:=fix (I2 a) (d,e)
theorem ACa a:A3 E23 0 5 (code f132) 122 (Az0 a) (I2 a) (AxQ a):=by
 intro _;simp(disch:=refine id ?_;kernel_rfl) only[I2,Mp,ASr,Ba (AB8 ..) (K:=JG E23 0 5),YT,AF (AB9 _ _ _) (K:=JG E23 0 5)];kernel_rfl
def KY(a:ASL):ATV Bool:=
 bif decide ((a.length:Int)>60)then
 some false
 else
 (YU a 0 0).bind (Sum.elim (λb=>some false) (λc=>some (decide (c<=20000))))
def AkQ:=Ci [.d ATK] [⟨[.AB [] ATK],[],Bool,λp=>KY p.1.1,λr=>(dB r,[])⟩]
theorem j9:Ao prog 132 AkQ:=Av (fn:=f132) ⟨⟨E23,pk ⟨TH,Agd,trivial⟩,λ_ R K=>by
 simp(disch:=refine id ?_;kernel_rfl) only[KY,ASs,YU,AF (ACa _) (K:=A0 E23 f132 0 R K)];kernel_rfl⟩,trivial⟩
end
end Go.Proofs.X
namespace Go.Proofs.X
open Go Go.Va Go.Proofs.Tryz
set_option maxRecDepth 100000
noncomputable section
abbrev E24:=eN [] {}
def CU(a:ASA):Bool:=((a.1==0)&&((a.2.1.length:Int)==0))
theorem U24 R a K:T6 E24 f187 R [JK a] [] K=K (dB (CU a)) []:=by
 refine .trans (b:=
 bif a.1==0 then
 K (dB ((a.2.1.length:Int)==0)) []
 else
 K (dB false) []) (by kernel_rfl) ?_
 unfold CU;cases (a.1==0);rfl;rfl
def AFG:=Ci [.d Ai] [⟨[.AB [] Ai],[],Bool,λp=>some (CU p.1.1),λr=>(dB r,[])⟩]
theorem Agy:Ao prog 187 AFG:=Av ⟨⟨E24,pk trivial,λ_ _ _=>U24 ..⟩,trivial⟩
abbrev E25:=eN [(133,qN)] {}
def A9(a:Int):Bool:=(BL a 4 9)
def AFH:=Ci [.d ATE] [⟨[.AB [] ATE],[],Bool,λp=>some (A9 p.1.1),λr=>(dB r,[])⟩]
theorem Agz:Ao prog 188 AFH:=Av (fn:=f188) ⟨⟨E25,pk ⟨TH,trivial⟩,λ_ _ _=>by kernel_rfl⟩,trivial⟩
abbrev E26:=eN [] {}
def Jj(a:ASA)(b:Int):ATV Int:=
 if 0<=(wI (Int.tdiv b 64))/\(wI (Int.tdiv b 64))<a.2.1.length then
 if(IntKind.u64.wrap (Int.tmod b 64))<(0:Int)then none else
 some (IntKind.u8.wrap (fq .u64 (T8 .u64 (a.2.1.getD (wI (Int.tdiv b 64)).toNat ATF.zero) (IntKind.u64.wrap (Int.tmod b 64))) 1))
 else none
def AkS:=Ci [.d Ai,.d ATE] [⟨[.AB [] Ai,.AB [] ATE],[],Int,λp=>Jj p.1.1 p.1.2.1,λr=>(dD ATG r,[])⟩]
theorem kh:Ao prog 149 AkS:=Av (fn:=f149) ⟨⟨E26,pk trivial,λ_ R K=>by
 simp only[Jj,ASs];kernel_rfl⟩,trivial⟩
abbrev E27:=eN [(133,qN),(149,AkS)] {A5:=[(4,[1,3])],BB:=[(4,[2])],Bw:=[(2,[1,17])],Da:=[(2,[1])]}
def Az1 a (z_:Int):=sT 32 [(1,Aq),(3,dI z_)] [.box (JK a)]
def AxR(a:ASA):=Sum.elim (λ(b:Unit)=>xR 32 [(2,dB false)] []) (λ(c:Unit)=>xE 0 32 [] [])
def N6(a:ASA)(d:Int):ATV (Int⊕(Unit⊕Unit)):=
 bif decide (d<(wI (64*(a.2.1.length:Int))))then
 (Jj a d).bind λe=>bif e !=0 then
 some (.inr (.inl ()))
 else
 some (.inl (wI (d+1)))
 else
 some (.inr (.inr ()))
def J7 a (z_:Int):=N6 a z_
def V9 a d:=fix (J7 a) d
theorem ACc a:A3 E27 0 4 (code f189) 58 (Az1 a) (J7 a) (AxR a):=by
 intro _;simp only[J7,N6,ASr];kernel_rfl
def Am3 a:=sT 32 [(1,Aq)] [.box (JK a)]
def Aex(a:ASA)(m0:Bool):Ex×St:=xN 32 [(1,Aq),(17,dB m0)] [.box (JK a)]
theorem ACb a:XJ E27 0 2 (code f189) (pt 12) (Am3 a)=some (Aex a ((!(BL a.1 1 4096))||((a.2.1.length:Int) !=(wI (Int.tdiv (wI (a.1+63)) 64))))):=by
 refine .trans (b:=
 bif !(BL a.1 1 4096)then
 some (Aex a true)
 else
 some (Aex a ((a.2.1.length:Int) !=(wI (Int.tdiv (wI (a.1+63)) 64))))) (by kernel_rfl) ?_
 cases (!(BL a.1 1 4096));rfl;rfl
def Uc(a:ASA):ATV Bool:=
 Po (Am3 a) (
 bif (!(BL a.1 1 4096))||((a.2.1.length:Int) !=(wI (Int.tdiv (wI (a.1+63)) 64)))then
 some false
 else
 (V9 a a.1).bind (Sum.elim (λb=>some false) (λc=>some true)))
def AFI:=Ci [.d Ai] [⟨[.AB [] Ai],[],Bool,λp=>Uc p.1.1,λr=>(dB r,[])⟩]
theorem AgA:Ao prog 189 AFI:=Av (fn:=f189) ⟨⟨E27,pk ⟨TH,kh,trivial⟩,λ_ R K=>by
 simp(disch:=refine id ?_;kernel_rfl) only[Uc,ASs,Ev (ACb _) (K:=A0 E27 f189 0 R K),V9,AF (ACc _) (K:=A0 E27 f189 0 R K)];kernel_rfl⟩,trivial⟩
abbrev E28:=eN [(133,qN),(187,AFG),(188,AFH),(189,AFI)] {A5:=[(2,[0,2,4,7])],BB:=[(2,[0,4,6])],Bw:=[(7,[0,4,63]),(8,[0,4,6])],Da:=[(7,[0,4]),(8,[0,4])]}
def Az3 a b:=sT 109 [(0,Ar a),(4,Aq)] (Wr b)
def AxT a b:=Sum.elim (λ(c:Unit)=>xR 109 [(0,Ar a),(4,Aq),(6,dB false)] (Wr b)) (λ(d:Unit)=>xN 109 [(0,Ar a),(4,Aq)] (Wr b))
def Am4 a b:=sT 109 [(0,Ar a),(4,Aq)] (Wr b)
def LZ(a:ASL)(b:ASz)(m0:Bool):Ex×St:=xN 109 [(0,Ar a),(4,Aq),(63,dB m0)] (Wr b)
theorem ACe a b:XJ E28 0 7 (cd f171 14) (pt 2) (Am4 a b)=some (LZ a b (bif b.1 !=1 then((b.2.1 !=0)||(bif b.1 !=2 then((!(CU b.2.2.2.2.1))||(bif b.1 !=4 then((b.2.2.2.1 !=0)||((!(A9 b.1))&&(b.2.2.1 !=0)))else((!(A9 b.1))&&(b.2.2.1 !=0))))else(bif b.1 !=4 then((b.2.2.2.1 !=0)||((!(A9 b.1))&&(b.2.2.1 !=0)))else((!(A9 b.1))&&(b.2.2.1 !=0)))))else(bif b.1 !=2 then((!(CU b.2.2.2.2.1))||(bif b.1 !=4 then((b.2.2.2.1 !=0)||((!(A9 b.1))&&(b.2.2.1 !=0)))else((!(A9 b.1))&&(b.2.2.1 !=0))))else(bif b.1 !=4 then((b.2.2.2.1 !=0)||((!(A9 b.1))&&(b.2.2.1 !=0)))else((!(A9 b.1))&&(b.2.2.1 !=0)))))):=by
 refine .trans (b:=
 bif b.1 !=1 then
 bif b.2.1 !=0 then
 some (LZ a b true)
 else
 bif b.1 !=2 then
 bif !(CU b.2.2.2.2.1)then
 some (LZ a b true)
 else
 bif b.1 !=4 then
 bif b.2.2.2.1 !=0 then
 some (LZ a b true)
 else
 bif !(A9 b.1)then
 some (LZ a b (b.2.2.1 !=0))
 else
 some (LZ a b false)
 else
 bif !(A9 b.1)then
 some (LZ a b (b.2.2.1 !=0))
 else
 some (LZ a b false)
 else
 bif b.1 !=4 then
 bif b.2.2.2.1 !=0 then
 some (LZ a b true)
 else
 bif !(A9 b.1)then
 some (LZ a b (b.2.2.1 !=0))
 else
 some (LZ a b false)
 else
 bif !(A9 b.1)then
 some (LZ a b (b.2.2.1 !=0))
 else
 some (LZ a b false)
 else
 bif b.1 !=2 then
 bif !(CU b.2.2.2.2.1)then
 some (LZ a b true)
 else
 bif b.1 !=4 then
 bif b.2.2.2.1 !=0 then
 some (LZ a b true)
 else
 bif !(A9 b.1)then
 some (LZ a b (b.2.2.1 !=0))
 else
 some (LZ a b false)
 else
 bif !(A9 b.1)then
 some (LZ a b (b.2.2.1 !=0))
 else
 some (LZ a b false)
 else
 bif b.1 !=4 then
 bif b.2.2.2.1 !=0 then
 some (LZ a b true)
 else
 bif !(A9 b.1)then
 some (LZ a b (b.2.2.1 !=0))
 else
 some (LZ a b false)
 else
 bif !(A9 b.1)then
 some (LZ a b (b.2.2.1 !=0))
 else
 some (LZ a b false)) (by kernel_rfl) ?_
 cases (b.1 !=1);cases (b.1 !=2);cases (b.1 !=4);cases (!(A9 b.1));rfl;rfl;cases (b.2.2.2.1 !=0);cases (!(A9 b.1));rfl;rfl;rfl;cases (!(CU b.2.2.2.2.1));cases (b.1 !=4);cases (!(A9 b.1));rfl;rfl;cases (b.2.2.2.1 !=0);cases (!(A9 b.1));rfl;rfl;rfl;rfl;cases (b.2.1 !=0);cases (b.1 !=2);cases (b.1 !=4);cases (!(A9 b.1));rfl;rfl;cases (b.2.2.2.1 !=0);cases (!(A9 b.1));rfl;rfl;rfl;cases (!(CU b.2.2.2.2.1));cases (b.1 !=4);cases (!(A9 b.1));rfl;rfl;cases (b.2.2.2.1 !=0);cases (!(A9 b.1));rfl;rfl;rfl;rfl;rfl
def RS(a:ASL)(b:ASz):ATV (Unit⊕Unit):=
 Po (Am4 a b) (
 bif bif (b.1 !=1)then((b.2.1 !=0)||(bif (b.1 !=2)then((!(CU b.2.2.2.2.1))||(bif (b.1 !=4)then((b.2.2.2.1 !=0)||((!(A9 b.1))&&(b.2.2.1 !=0)))else((!(A9 b.1))&&(b.2.2.1 !=0))))else(bif (b.1 !=4)then((b.2.2.2.1 !=0)||((!(A9 b.1))&&(b.2.2.1 !=0)))else((!(A9 b.1))&&(b.2.2.1 !=0)))))else(bif (b.1 !=2)then((!(CU b.2.2.2.2.1))||(bif (b.1 !=4)then((b.2.2.2.1 !=0)||((!(A9 b.1))&&(b.2.2.1 !=0)))else((!(A9 b.1))&&(b.2.2.1 !=0))))else(bif (b.1 !=4)then((b.2.2.2.1 !=0)||((!(A9 b.1))&&(b.2.2.1 !=0)))else((!(A9 b.1))&&(b.2.2.1 !=0))))then
 some (.inl ())
 else
 some (.inr ()))
theorem ACf a b:AQ E28 0 8 (code f171) 14 (Az3 a b) (RS a b) (AxT a b):=by
 unfold AQ;simp(disch:=refine id ?_;kernel_rfl) only[RS,ASr,Ev (ACe ..) (K:=Uk E28 0 8)];kernel_rfl
def Az2 a e b (z_:Int):=sT 109 [(0,Ar a),(2,dI e),(4,Aq),(7,dI z_)] (Wr b)
def AxS a (e:Int) b:=Sum.elim (λ(g:Unit)=>xR 109 [(0,Ar a),(4,Aq),(6,dB false)] (Wr b)) (λ(i:Unit)=>xE 0 109 [(0,Ar a),(4,Aq)] (Wr b))
def Og(a:ASL)(e:Int)(b:ASz)(j:Int):ATV (Int⊕(Unit⊕Unit)):=
 bif decide (j<(b.2.2.2.2.2.1.length:Int))then
 if 0<=j/\j<b.2.2.2.2.2.1.length then
 bif !(BL (b.2.2.2.2.2.1.getD j.toNat ATE.zero) 0 (wI (e-1)))then
 some (.inr (.inl ()))
 else
 some (.inl (wI (j+1)))
 else none
 else
 some (.inr (.inr ()))
def Kg a e b (z_:Int):=Og a e b z_
def Wd a e b j:=fix (Kg a e b) j
theorem ACd a e b:A3 E28 0 2 (code f171) 26 (Az2 a e b) (Kg a e b) (AxS a e b):=by
 intro _;simp only[Kg,Og,ASr];kernel_rfl
def QK(a:ASL)(b:ASz)(e:Int):ATV Bool:=
 (Wd a e b 0).bind (Sum.elim (λg=>some false) (λi=>(RS a b).bind (Sum.elim (λc=>some false) (λd=>bif b.1==1 then
 bif (b.2.2.2.2.2.1.length:Int)==0 then
 some (BL b.2.1 0 (wI ((a.length:Int)-1)))
 else
 some false
 else
 bif b.1==2 then
 bif (b.2.2.2.2.2.1.length:Int)==0 then
 (Uc b.2.2.2.2.1).bind λk=>some k
 else
 some false
 else
 bif b.1==3 then
 some (decide ((b.2.2.2.2.2.1.length:Int)>=2))
 else
 bif A9 b.1 then
 some ((b.2.2.2.2.2.1.length:Int)==1)
 else
 some false))))
def AFv:=Ci [.d ATK,.d Ah,.d ATE] [⟨[.AB [] ATK,.AB [] Ah,.AB [] ATE],[],Bool,λp=>QK p.1.1 p.1.2.1 p.1.2.2.1,λr=>(dB r,[])⟩]
theorem Agn:Ao prog 171 AFv:=Av (fn:=f171) ⟨⟨E28,pk ⟨TH,Agy,Agz,AgA,trivial⟩,λ_ R K=>by
 simp(disch:=refine id ?_;kernel_rfl) only[QK,ASs,Wd,AF (ACd _ _ _) (K:=A0 E28 f171 0 R K),Ba (ACf ..) (K:=A0 E28 f171 0 R K)];kernel_rfl⟩,trivial⟩
abbrev E29:=eN [(133,qN)] {A5:=[(3,[0,2,4,7,8])],BB:=[(3,[0,4,7])],Bw:=[(13,[4,59]),(17,[4,7,28,66]),(22,[4,7,28,77]),(28,[6,7])],Da:=[(13,[4,7]),(17,[4,7,28]),(22,[4,7,28]),(28,[0,4,7])]}
def Az5 a b c:=sT 95 [(0,Ar a),(4,Aq),(7,dI b)] (Wr c)
def AxV(a:ASL) b (c:ASz):=Sum.elim (λ(d:Int)=>xR 95 [(6,dI d),(7,dI b)] []) (Sum.elim (λ(e:Int)=>xR 95 [(6,dI e)] []) (λ(g:Unit)=>xN 95 [(7,dI b)] []))
def Am7 b (c:ASz):=sT 95 [(4,Aq),(7,dI b),(28,dI c.1)] (Wr c)
def Aez(b:Int)(c:ASz)(m0:Bool):Ex×St:=xN 95 [(4,Aq),(7,dI b),(28,dI c.1),(77,dB m0)] (Wr c)
theorem ACj b c:XJ E29 0 22 (cd f172 30) (pt 3582) (Am7 b c)=some (Aez b c (bif c.1==7 then(c.1==7)else(c.1==8))):=by
 refine .trans (b:=
 bif c.1==7 then
 some (Aez b c (c.1==7))
 else
 some (Aez b c (c.1==8))) (by kernel_rfl) ?_
 cases (c.1==7);rfl;rfl
def Am6 b (c:ASz):=sT 95 [(4,Aq),(7,dI b),(28,dI c.1)] (Wr c)
def Aey(b:Int)(c:ASz)(m0:Bool):Ex×St:=xN 95 [(4,Aq),(7,dI b),(28,dI c.1),(66,dB m0)] (Wr c)
theorem ACi b c:XJ E29 0 17 (cd f172 30) (pt 894) (Am6 b c)=some (Aey b c (bif c.1==5 then(c.1==5)else(c.1==6))):=by
 refine .trans (b:=
 bif c.1==5 then
 some (Aey b c (c.1==5))
 else
 some (Aey b c (c.1==6))) (by kernel_rfl) ?_
 cases (c.1==5);rfl;rfl
def Am5 b c:=sT 95 [(4,Aq),(7,dI b)] (Wr c)
def Aaz(c:ASz)(m0:Bool):Ex×St:=xN 95 [(4,Aq),(59,dB m0)] (Wr c)
theorem ACh b c:XJ E29 0 13 (cd f172 30) (pt 1784) (Am5 b c)=some (Aaz c ((decide (c.2.2.2.1<0))||((decide (c.2.2.1<c.2.2.2.1))||(decide (c.2.2.1>=b))))):=by
 refine .trans (b:=
 bif decide (c.2.2.2.1<0)then
 some (Aaz c true)
 else
 bif decide (c.2.2.1<c.2.2.2.1)then
 some (Aaz c true)
 else
 some (Aaz c (decide (c.2.2.1>=b)))) (by kernel_rfl) ?_
 cases (decide (c.2.2.2.1<0));cases (decide (c.2.2.1<c.2.2.2.1));rfl;rfl;rfl
def RU(a:ASL)(b:Int)(c:ASz):ATV (Int⊕(Int⊕Unit)):=
 bif c.1==1 then
 if(0:Int)<=c.2.1/\c.2.1<(a.length:Int)then
 some (.inl (a.getD c.2.1.toNat Ab.zero).2.1)
 else none
 else
 bif c.1==2 then
 some (.inl c.2.2.2.2.1.1)
 else
 bif c.1==4 then
 Po (Am5 b c) (
 bif (decide (c.2.2.2.1<0))||((decide (c.2.2.1<c.2.2.2.1))||(decide (c.2.2.1>=b)))then
 some (.inr (.inl (-1)))
 else
 some (.inr (.inl (wI ((wI (c.2.2.1-c.2.2.2.1))+1)))))
 else
 Po (Am6 b c) (
 bif bif (c.1==5)then(c.1==5)else(c.1==6)then
 bif !(BL c.2.2.1 0 4096)then
 some (.inl (-1))
 else
 some (.inl (wI (b+c.2.2.1)))
 else
 Po (Am7 b c) (
 bif bif (c.1==7)then(c.1==7)else(c.1==8)then
 bif !(BL c.2.2.1 0 4096)then
 some (.inl (-1))
 else
 some (.inr (.inr ()))
 else
 bif c.1==9 then
 bif !(BL c.2.2.1 1 4096)then
 some (.inl (-1))
 else
 some (.inl (wI (b*c.2.2.1)))
 else
 some (.inr (.inr ()))))
theorem ACk a b c:AQ E29 0 28 (code f172) 30 (Az5 a b c) (RU a b c) (AxV a b c):=by
 unfold AQ;simp(disch:=refine id ?_;kernel_rfl) only[RU,ASr,Ev (ACh ..) (K:=Uk E29 0 28),Ev (ACi ..) (K:=Uk E29 0 28),Ev (ACj ..) (K:=Uk E29 0 28)];kernel_rfl
def Az4 a i c (z_:Int×Int):=sT 95 [(0,Ar a),(2,BJ i),(4,Aq),(7,dI z_.1),(8,dI z_.2)] (Wr c)
def AxU a (i:ASH) c:=λ(b:Int)=>xE 0 95 [(0,Ar a),(4,Aq),(7,dI b)] (Wr c)
def XU(a:ASL)(i:ASH)(c:ASz)(j k:Int):ATV (AS7⊕Int):=
 bif decide (k<(c.2.2.2.2.2.1.length:Int))then
 if 0<=k/\k<c.2.2.2.2.2.1.length then
 if(0:Int)<=(c.2.2.2.2.2.1.getD k.toNat ATE.zero)/\(c.2.2.2.2.2.1.getD k.toNat ATE.zero)<(i.length:Int)then
 some (.inl ((if(wI (j+(i.getD (c.2.2.2.2.2.1.getD k.toNat ATE.zero).toNat ATE.zero)))<8192 then(wI (j+(i.getD (c.2.2.2.2.2.1.getD k.toNat ATE.zero).toNat ATE.zero)))else 8192),wI (k+1)))
 else none
 else none
 else
 some (.inr j)
def Oh a i c (z_:Int×Int):=XU a i c z_.1 z_.2
def ZR a i c j k:=fix (Oh a i c) (j,k)
theorem ACg a i c:A3 E29 0 3 (code f172) 58 (Az4 a i c) (Oh a i c) (AxU a i c):=by
 intro _;simp only[Oh,XU,ASr];kernel_rfl
def Ud(a:ASL)(c:ASz)(i:ASH):ATV Int:=
 (ZR a i c 0 0).bind λb=>(RU a b c).bind (Sum.elim (λd=>some d) (Sum.elim (λe=>some e) (λg=>some b)))
def AFw:=Ci [.d ATK,.d Ah,.d ATJ] [⟨[.AB [] ATK,.AB [] Ah,.AB [] ATJ],[],Int,λp=>Ud p.1.1 p.1.2.1 p.1.2.2.1,λr=>(dI r,[])⟩]
theorem Ago:Ao prog 172 AFw:=Av (fn:=f172) ⟨⟨E29,pk ⟨TH,trivial⟩,λ_ R K=>by
 simp(disch:=refine id ?_;kernel_rfl) only[Ud,ASs,ZR,AF (ACg _ _ _) (K:=A0 E29 f172 0 R K),Ba (ACk ..) (K:=A0 E29 f172 0 R K)];kernel_rfl⟩,trivial⟩
abbrev E30:=eN [(132,AkQ),(133,qN),(171,AFv),(172,AFw)] {A5:=[(7,{A7:=[0,3,5,6,7,8],Cg:=[(6,false,.row [] 2 ATE true)]}),(16,[0,3,5,6,7,8,10]),(20,[5,6,7,11])],BB:=[(7,{A7:=[4,5,6,7],O4:=[(7,false,ATM)]}),(16,[0,3,5,6,7,8]),(20,[4,6])],Bw:=[(3,[0,3,5,27])],Da:=[(3,[0,3,5])],gk:=[(0,.row [] 2 ATE true)]}
def Az9 a b (z_:Int):=sT 103 [(5,.zs),(6,.AG 0),(7,aL a),(11,dI z_)] [Ay b]
def AxZ(a:ASI) b:=Sum.elim (λ(c:Unit)=>xR 103 [(4,.zs),(6,.AG 0)] [Ay b]) (λ(d:Unit)=>xE 4 103 tE [Ay b])
def K5(a:ASI)(b:ASH)(e:Int):ATV (Int⊕(Unit⊕Unit)):=
 bif decide ((wI (e+1))<(a.length:Int))then
 if 0<=e/\e<a.length then
 bif !(a.getD e.toNat (Ty.zero .bool))then
 some (.inr (.inl ()))
 else
 some (.inl (wI (e+1)))
 else none
 else
 some (.inr (.inr ()))
def HO a b (z_:Int):=K5 a b z_
def Ta a b e:=fix (HO a b) e
theorem ACo a b:A3 E30 0 20 (code f148) 1018 (Az9 a b) (HO a b) (AxZ a b):=by
 intro _;simp only[HO,K5,ASr];kernel_rfl
def Az8 g i (z_:Int×ASH×ASI):=sT 103 [(0,Ar g),(3,Aq),(5,.zs),(6,.AG 1),(7,.AG 2),(8,dI z_.1)] (tF i z_.2.1 z_.2.2)
def AxY(g:ASL)(i:ASD):=Sum.elim (λ(j:ATb)=>xR 103 [(4,.zs),(5,.zs),(6,.AG 0),(7,aL j.1)] [Ay j.2]) (λ(k:ATb)=>xE 0 103 [(5,.zs),(6,.AG 0),(7,aL k.1)] [Ay k.2])
def Az7 g l i n (z_:Int×ASI):=sT 103 [(0,Ar g),(3,Aq),(5,.zs),(6,.AG 1),(7,.AG 2),(8,dI l),(10,dI z_.1)] (tF i n z_.2)
def AxX g l i n:=λ(o:ASI)=>xE 2 103 [(0,Ar g),(3,Aq),(5,.zs),(6,.AG 1),(7,.AG 2),(8,dI l)] (tF i n o)
def K3(g:ASL)(l:Int)(i:ASD)(n:ASH)(q:Int)(s:ASI):ATV ((Int×ASI)⊕ASI):=
 if 0<=l/\l<i.1.length then
 bif decide (q<((i.1.getD l.toNat Ah.zero).2.2.2.2.2.1.length:Int))then
 if 0<=l/\l<i.1.length then
 if 0<=q/\q<(i.1.getD l.toNat Ah.zero).2.2.2.2.2.1.length then
 if(0:Int)<=((i.1.getD l.toNat Ah.zero).2.2.2.2.2.1.getD q.toNat ATE.zero)/\((i.1.getD l.toNat Ah.zero).2.2.2.2.2.1.getD q.toNat ATE.zero)<(s.length:Int)then
 some (.inl (wI (q+1),s.set ((i.1.getD l.toNat Ah.zero).2.2.2.2.2.1.getD q.toNat ATE.zero).toNat true))
 else none
 else none
 else none
 else
 some (.inr s)
 else none
def HM g l i n (z_:Int×ASI):=K3 g l i n z_.1 z_.2
def S9 g l i n q s:=fix (HM g l i n) (q,s)
theorem ACm g l i n:A3 E30 0 16 (cd f148 1012) 830 (Az7 g l i n) (HM g l i n) (AxX g l i n):=by
 intro _;simp only[HM,K3,ASr];kernel_rfl
def K4(g:ASL)(i:ASD)(l:Int)(t:ASH)(u:ASI):ATV ((Int×ASH×ASI)⊕(ATb⊕ATb)):=
 bif decide (l<(i.1.length:Int))then
 if 0<=l/\l<i.1.length then
 (QK g (i.1.getD l.toNat Ah.zero) l).bind λv=>bif !v then
 some (.inr (.inl (u,t)))
 else
 if 0<=l/\l<i.1.length then
 (Ud g (i.1.getD l.toNat Ah.zero) t).bind λw=>bif !(BL w 1 4096)then
 some (.inr (.inl (u,t)))
 else
 if(t.length+([w]:ASH).length)*8<=140737488355328 then
 (S9 g l i (t++([w]:ASH)) 0 u).bind λo=>some (.inl (wI (l+1),t++([w]:ASH),o))
 else none
 else none
 else none
 else
 some (.inr (.inr (u,t)))
def HN g i (z_:Int×ASH×ASI):=K4 g i z_.1 z_.2.1 z_.2.2
def Oi g i l t u:=fix (HN g i) (l,t,u)
theorem ACn g i:A3 E30 0 7 (code f148) 506 (Az8 g i) (HN g i) (AxY g i):=by
 intro _;simp(disch:=refine id ?_;kernel_rfl) only[HN,K4,ASr,S9,AF (ACm _ _ _ _) (K:=JG E30 0 7)];kernel_rfl
def Az6 g i:=sT 103 [(0,Ar g),(3,Aq),(5,.zs)] [.box (G0 i)]
def AxW g i:=λ(x:Bool)=>xN 103 [(0,Ar g),(3,Aq),(5,.zs),(27,dB x)] [.box (G0 i)]
def Hf(g:ASL)(i:ASD):ATV Bool:=
 (KY g).bind λy=>bif !y then
 some true
 else
 bif decide ((i.1.length:Int)<1)then
 some true
 else
 some (decide ((i.1.length:Int)>400))
theorem ACl g i:AQ E30 0 3 (code f148) 28 (Az6 g i) (Hf g i) (AxW g i):=by
 unfold AQ;simp only[Hf,ASr];kernel_rfl
def LH(g:ASL)(i:ASD):ATV ASH:=
 (Hf g i).bind λx=>bif x then
 some ([]:ASH)
 else
 if Ty.row .bool=true/\(0:Int)<=(i.1.length:Int)/\(i.1.length:Int)<=(i.1.length:Int)/\((1:Nat):Int)*(i.1.length:Int)<=(281474976710656:Int)/\(i.1.length:Int)<=(9223372036854775807:Int)then
 (Oi g i 0 ([]:ASH) (List.replicate (i.1.length:Int).toNat false)).bind (Sum.elim (λj=>some ([]:ASH)) (λk=>(Ta k.1 k.2 0).bind (Sum.elim (λc=>some ([]:ASH)) (λd=>some k.2))))
 else none
def AFd:=Ci [.d ATK,.d An] [⟨[.AB [] ATK,.AB [] An],[],ASH,λp=>LH p.1.1 p.1.2.1,λr=>(.AG 0,[Ay r])⟩]
theorem Af5:Ao prog 148 AFd:=Av (fn:=f148) ⟨⟨E30,pk ⟨j9,TH,Agn,Ago,trivial⟩,λ_ R K=>by
 simp(disch:=refine id ?_;kernel_rfl) only[LH,ASs,Ba (ACl ..) (K:=A0 E30 f148 0 R K),Oi,AF (ACn _ _) (K:=A0 E30 f148 0 R K),Ta,AF (ACo _ _) (K:=A0 E30 f148 0 R K)];kernel_rfl⟩,trivial⟩
abbrev E31:=eN [(148,AFd)] {}
def Fv(a:ASL)(b:ASD):ATV Int:=
 (LH a b).bind λc=>bif (c.length:Int)==0 then
 some (-1)
 else
 if 0<=(wI ((c.length:Int)-1))/\(wI ((c.length:Int)-1))<c.length then
 some (c.getD (wI ((c.length:Int)-1)).toNat ATE.zero)
 else none
def Avl:=Ci [.d ATK,.d An] [⟨[.AB [] ATK,.AB [] An],[],Int,λp=>Fv p.1.1 p.1.2.1,λr=>(dI r,[])⟩]
theorem uC:Ao prog 111 Avl:=Av (fn:=f111) ⟨⟨E31,pk ⟨Af5,trivial⟩,λ_ R K=>by
 simp only[Fv,ASs];kernel_rfl⟩,trivial⟩
end
end Go.Proofs.X
namespace Go.Proofs.X
open Go Go.Va Go.Proofs.Tryz
set_option maxRecDepth 100000
noncomputable section
abbrev E32:=eN [(111,Avl),(132,AkQ),(133,qN)] {A5:=[(4,[0,1,5])],BB:=[(4,[4])],Bw:=[(2,[0,1,14]),(8,[0,1,5,67])],Da:=[(2,[0,1]),(8,[0,1,5,6])]}
def AAc a b (z_:Int):=sT 68 [(0,Ar a),(1,Bb b),(5,dI z_)] []
def Ax2(a:ASL)(b:ASN):=Sum.elim (λ(c:Unit)=>xR 68 mQ []) (λ(d:Unit)=>xE 0 68 [] [])
def AAb a b e g:=sT 68 [(0,Ar a),(1,Bb b),(5,dI e),(6,dI g)] []
def Ax1 a b e (g:Int):=λ(i:Bool)=>xN 68 [(0,Ar a),(1,Bb b),(5,dI e),(67,dB i)] []
def HK(a:ASL)(b:ASN)(e g:Int):ATV Bool:=
 if 0<=e/\e<b.length then
 bif !(BL (b.getD e.toNat Af.zero).1 1 1000000)then
 some true
 else
 bif decide (e>0)then
 if 0<=e/\e<b.length then
 if 0<=(wI (e-1))/\(wI (e-1))<b.length then
 bif decide ((b.getD e.toNat Af.zero).1<=(b.getD (wI (e-1)).toNat Af.zero).1)then
 some true
 else
 bif decide (g<0)then
 some true
 else
 if 0<=e/\e<b.length then
 (Fv a (b.getD e.toNat Af.zero).2.2.2.1).bind λj=>some (j !=g)
 else none
 else none
 else none
 else
 bif decide (g<0)then
 some true
 else
 if 0<=e/\e<b.length then
 (Fv a (b.getD e.toNat Af.zero).2.2.2.1).bind λk=>some (k !=g)
 else none
 else none
theorem ACq a b e g:AQ E32 0 8 (cd f84 116) 50 (AAb a b e g) (HK a b e g) (Ax1 a b e g):=by
 unfold AQ;simp only[HK,ASr];kernel_rfl
def I3(a:ASL)(b:ASN)(e:Int):ATV (Int⊕(Unit⊕Unit)):=
 bif decide (e<(b.length:Int))then
 if 0<=e/\e<b.length then
 (Fv a (b.getD e.toNat Af.zero).2.2.1).bind λg=>(HK a b e g).bind λi=>bif i then
 some (.inr (.inl ()))
 else
 some (.inl (wI (e+1)))
 else none
 else
 some (.inr (.inr ()))
def FH a b (z_:Int):=I3 a b z_
def Wa a b e:=fix (FH a b) e
theorem ACr a b:A3 E32 0 4 (code f84) 58 (AAc a b) (FH a b) (Ax2 a b):=by
 intro _;simp(disch:=refine id ?_;kernel_rfl) only[FH,I3,ASr,Ba (ACq ..) (K:=JG E32 0 4)];kernel_rfl
def AAa a b:=sT 68 [(0,Ar a),(1,Bb b)] []
def Ax0 a b:=λ(l:Bool)=>xN 68 [(0,Ar a),(1,Bb b),(14,dB l)] []
def HJ(a:ASL)(b:ASN):ATV Bool:=
 (KY a).bind λn=>bif !n then
 some true
 else
 some (decide ((b.length:Int)>60))
theorem ACp a b:AQ E32 0 2 (code f84) 12 (AAa a b) (HJ a b) (Ax0 a b):=by
 unfold AQ;simp only[HJ,ASr];kernel_rfl
def Gu(a:ASL)(b:ASN):ATV Bool:=
 (HJ a b).bind λl=>bif l then
 some false
 else
 (Wa a b 0).bind (Sum.elim (λc=>some false) (λd=>some true))
def c84:=Ci [.d ATK,.d ATL] [⟨[.AB [] ATK,.AB [] ATL],[],Bool,λp=>Gu p.1.1 p.1.2.1,λr=>(dB r,[])⟩]
theorem qT:Ao prog 84 c84:=Av (fn:=f84) ⟨⟨E32,pk ⟨uC,j9,TH,trivial⟩,λ_ R K=>by
 simp(disch:=refine id ?_;kernel_rfl) only[Gu,ASs,Ba (ACp ..) (K:=A0 E32 f84 0 R K),Wa,AF (ACr _ _) (K:=A0 E32 f84 0 R K)];kernel_rfl⟩,trivial⟩
abbrev jK:=eN [(149,AkS)] {A5:=[(5,{A7:=[0,4,7,8],Cg:=[(7,false,.row [] 198 Aa true)]}),(10,{A7:=[4,7,9],Cg:=[(7,false,.row [] 198 Aa true)]}),(15,{A7:=[2,7,10],Cg:=[(7,false,.row [] 198 Aa true)]}),(27,[4,7,11,12]),(40,{A7:=[2,4,7,15],Cg:=[(7,false,.row [] 198 Aa true)]})],BB:=[(5,[7]),(10,[7]),(15,[7]),(27,[7]),(40,[7])],Bw:=[(22,[2,4,7,18,84]),(25,[2,4,7,11]),(32,[2,4,7,18,116]),(36,[2,7,13,14]),(43,{A7:=[7],Cg:=[(7,false,.row [] 198 Aa true)]})],Da:=[(22,[2,4,7,18]),(25,[2,4,7,11]),(32,[2,4,7,18]),(36,[2,4,7,13,14]),(43,[0,2,4,7])]}
def AsL a b c:=sT 167 [(0,Ar a),(2,Sd b),(4,Aq),(7,.zs)] (Wr c)
def AqO(a:ASL)(b:ASX)(c:ASz):=λ(d:ASK)=>xN 167 oi [Fc d]
def AsK b c (z_:Int×ASK):=sT 167 [(2,Sd b),(4,Aq),(7,.AG 1),(15,dI z_.1)] [.box (Xk c),Fc z_.2]
def AqN(b:ASX)(c:ASz):=λ(e:ASK)=>xE 9 167 oi [Fc e]
def ME(b:ASX)(c:ASz)(g:Int)(i:ASK):ATV (ATp⊕ASK):=
 bif decide (g<c.2.2.1)then
 if(0:Int)<=(0:Int)/\(0:Int)<(b.length:Int)then
 if(i.length+(b.getD 0 ATI.zero).length)*16<=140737488355328 then
 some (.inl (wI (g+1),i++(b.getD 0 ATI.zero)))
 else none
 else none
 else
 some (.inr i)
def Ge b c (z_:Int×ASK):=ME b c z_.1 z_.2
def P4 b c g i:=fix (Ge b c) (g,i)
theorem Au4 b c:A3 jK 0 40 (cd f112 14) 458746 (AsK b c) (Ge b c) (AqN b c):=by
 intro _;simp only[Ge,ME,ASr];kernel_rfl
def AsJ b c j k:=sT 167 [(2,Sd b),(4,Aq),(7,.zs),(13,dI j),(14,dI k)] (Wr c)
def AqM b (c:ASz) j (k:Int):=λ(l:Int)=>xN 167 [(2,Sd b),(7,.zs),(13,dI j),(14,dI l)] []
def Lr(b:ASX)(c:ASz)(j k:Int):ATV Int:=
 bif c.1==8 then
 if j=(0:Int)then none else
 some (Int.tmod (wI (j-k)) j)
 else
 some k
theorem Au3 b c j k:AQ jK 0 36 (cd f112 14) 229366 (AsJ b c j k) (Lr b c j k) (AqM b c j k):=by
 unfold AQ;simp only[Lr,ASr];kernel_rfl
def Aff b (c:ASz):=sT 167 [(2,Sd b),(4,Aq),(7,.zs),(18,dI c.1)] (Wr c)
def yM(b:ASX)(c:ASz)(m0:Bool):Ex×St:=xN 167 [(2,Sd b),(4,Aq),(7,.zs),(18,dI c.1),(116,dB m0)] (Wr c)
theorem Au2 b c:XJ jK 0 32 (cd f112 14) (pt 14334) (Aff b c)=some (yM b c (bif c.1==7 then(c.1==7)else(c.1==8))):=by
 refine .trans (b:=
 bif c.1==7 then
 some (yM b c (c.1==7))
 else
 some (yM b c (c.1==8))) (by kernel_rfl) ?_
 cases (c.1==7);rfl;rfl
def AsI c (z_:Int×ASK):=sT 167 [(4,Aq),(7,.AG 1),(11,EB),(12,dI z_.1)] [.box (Xk c),Fc z_.2,.box (.pr (dI (-1)) (.pr (dI 0) .u))]
def AqL(c:ASz):=λ(n:ASK)=>xE 7 167 oi [Fc n]
def MD(c:ASz)(o:Int)(q:ASK):ATV (ATp⊕ASK):=
 bif decide (o<c.2.2.1)then
 if(q.length+([(-1,0,())]:ASK).length)*16<=140737488355328 then
 some (.inl (wI (o+1),q++([(-1,0,())]:ASK)))
 else none
 else
 some (.inr q)
def Gc c (z_:Int×ASK):=MD c z_.1 z_.2
def P3 c o q:=fix (Gc c) (o,q)
theorem Au1 c:A3 jK 0 27 (cd f112 14) 229342 (AsI c) (Gc c) (AqL c):=by
 intro _;simp only[Gc,MD,ASr];kernel_rfl
def AsH c s (z_:Int×ASK):=sT 167 [(4,Aq),(7,.AG 1),(11,EB),(12,dI z_.1)] [.box (Xk c),Fc z_.2,.box (dD Aa s)]
def AqK(c:ASz)(s:ASu):=λ(t:ASK)=>xE 7 167 oi [Fc t]
def MC(c:ASz)(s:ASu)(u:Int)(v:ASK):ATV (ATp⊕ASK):=
 bif decide (u<c.2.2.1)then
 if(v.length+([s]:ASK).length)*16<=140737488355328 then
 some (.inl (wI (u+1),v++([s]:ASK)))
 else none
 else
 some (.inr v)
def Gb c s (z_:Int×ASK):=MC c s z_.1 z_.2
def P2 c s u v:=fix (Gb c s) (u,v)
theorem Au0 c s:A3 jK 0 27 (cd f112 14) 229342 (AsH c s) (Gb c s) (AqK c s):=by
 intro _;simp only[Gb,MC,ASr];kernel_rfl
def AsG b c:=sT 167 (AwV b) [.box (Xk c),.box (.pr (dI (-1)) (.pr (dI 0) .u))]
def AqJ b c:=Sum.elim (λ(w:Unit)=>xN 167 (AwV b) [.box (Xk c),.box (dD Aa ((b.getD 0 ATI.zero).getD (wI (((b.getD 0 ATI.zero).length:Int)-1)).toNat Aa.zero))]) (λ(x:Unit)=>xN 167 (AwV b) [.box (Xk c),.box (.pr (dI (-1)) (.pr (dI 0) .u))])
def Gv(b:ASX)(c:ASz):ATV (Unit⊕Unit):=
 bif c.1==6 then
 if(0:Int)<=(0:Int)/\(0:Int)<(b.length:Int)then
 if(0:Int)<=(0:Int)/\(0:Int)<(b.length:Int)then
 if 0<=(wI (((b.getD 0 ATI.zero).length:Int)-1))/\(wI (((b.getD 0 ATI.zero).length:Int)-1))<(b.getD 0 ATI.zero).length then
 some (.inl ())
 else none
 else none
 else none
 else
 some (.inr ())
theorem AuZ b c:AQ jK 0 25 (cd f112 14) 28666 (AsG b c) (Gv b c) (AqJ b c):=by
 unfold AQ;simp only[Gv,ASr];kernel_rfl
def Afe b (c:ASz):=sT 167 [(2,Sd b),(4,Aq),(7,.zs),(18,dI c.1)] (Wr c)
def yL(b:ASX)(c:ASz)(m0:Bool):Ex×St:=xN 167 [(2,Sd b),(4,Aq),(7,.zs),(18,dI c.1),(84,dB m0)] (Wr c)
theorem AuY b c:XJ jK 0 22 (cd f112 14) (pt 3582) (Afe b c)=some (yL b c (bif c.1==5 then(c.1==5)else(c.1==6))):=by
 refine .trans (b:=
 bif c.1==5 then
 some (yL b c (c.1==5))
 else
 some (yL b c (c.1==6))) (by kernel_rfl) ?_
 cases (c.1==5);rfl;rfl
def AsF b (z_:Int×ASK):=sT 167 [(2,Sd b),(7,.AG 0),(10,dI z_.1)] [Fc z_.2]
def AqI(b:ASX):=λ(y:ASK)=>xE 5 167 oi [Fc y]
def MB(b:ASX)(a1:Int)(b1:ASK):ATV (ATp⊕ASK):=
 bif decide (a1>=0)then
 if 0<=a1/\a1<b.length then
 if(b1.length+(b.getD a1.toNat ATI.zero).length)*16<=140737488355328 then
 some (.inl (wI (a1-1),b1++(b.getD a1.toNat ATI.zero)))
 else none
 else none
 else
 some (.inr b1)
def Ga b (z_:Int×ASK):=MB b z_.1 z_.2
def UG b a1 b1:=fix (Ga b) (a1,b1)
theorem AuX b:A3 jK 0 15 (cd f112 14) 1786 (AsF b) (Ga b) (AqI b):=by
 intro _;simp only[Ga,MB,ASr];kernel_rfl
def AsE c (z_:Int×ASK):=sT 167 [(4,Aq),(7,.AG 1),(9,dI z_.1)] [.box (Xk c),Fc z_.2]
def AqH(c:ASz):=λ(c1:ASK)=>xE 3 167 oi [Fc c1]
def MA(c:ASz)(d1:Int)(e1:ASK):ATV (ATp⊕ASK):=
 bif decide (d1<c.2.2.2.2.1.1)then
 (Jj c.2.2.2.2.1 d1).bind λg1=>if(e1.length+([(-1,wI g1,())]:ASK).length)*16<=140737488355328 then
 some (.inl (wI (d1+1),e1++([(-1,wI g1,())]:ASK)))
 else none
 else
 some (.inr e1)
def F9 c (z_:Int×ASK):=MA c z_.1 z_.2
def P0 c d1 e1:=fix (F9 c) (d1,e1)
theorem AuW c:A3 jK 0 10 (cd f112 14) 442 (AsE c) (F9 c) (AqH c):=by
 intro _;simp only[F9,MA,ASr];kernel_rfl
def AsD a c (z_:Int×ASK):=sT 167 [(0,Ar a),(4,Aq),(7,.AG 1),(8,dI z_.1)] [.box (Xk c),Fc z_.2]
def AqG(a:ASL)(c:ASz):=λ(i1:ASK)=>xE 1 167 oi [Fc i1]
def Mz(a:ASL)(c:ASz)(j1:Int)(k1:ASK):ATV (ATp⊕ASK):=
 if(0:Int)<=c.2.1/\c.2.1<(a.length:Int)then
 bif decide (j1<(a.getD c.2.1.toNat Ab.zero).2.1)then
 if(k1.length+([(c.2.1,j1,())]:ASK).length)*16<=140737488355328 then
 some (.inl (wI (j1+1),k1++([(c.2.1,j1,())]:ASK)))
 else none
 else
 some (.inr k1)
 else none
def F8 a c (z_:Int×ASK):=Mz a c z_.1 z_.2
def PZ a c j1 k1:=fix (F8 a c) (j1,k1)
theorem AuV a c:A3 jK 0 5 (cd f112 14) 106 (AsD a c) (F8 a c) (AqG a c):=by
 intro _;simp only[F8,Mz,ASr];kernel_rfl
def P5(a:ASL)(b:ASX)(c:ASz):ATV ASK:=
 bif c.1==1 then
 (PZ a c 0 ([]:ASK)).bind λi1=>some i1
 else
 bif c.1==2 then
 (P0 c 0 ([]:ASK)).bind λc1=>some c1
 else
 bif c.1==3 then
 (UG b (wI ((b.length:Int)-1)) ([]:ASK)).bind λy=>some y
 else
 bif c.1==4 then
 if(0:Int)<=(0:Int)/\(0:Int)<(b.length:Int)then
 if(0:Int)<=c.2.2.2.1/\c.2.2.2.1<=(wI (c.2.2.1+1))/\(wI (c.2.2.1+1))<=((b.getD 0 ATI.zero).length:Int)then
 if(((b.getD 0 ATI.zero).take (wI (c.2.2.1+1)).toNat).drop c.2.2.2.1.toNat).length*16<=140737488355328 then
 some (((b.getD 0 ATI.zero).take (wI (c.2.2.1+1)).toNat).drop c.2.2.2.1.toNat)
 else none
 else none
 else none
 else
 Po (Afe b c) (
 bif bif (c.1==5)then(c.1==5)else(c.1==6)then
 (Gv b c).bind (Sum.elim (λw=>if(0:Int)<=(0:Int)/\(0:Int)<(b.length:Int)then
 if(b.getD 0 ATI.zero).length*16<=140737488355328 then
 (P2 c ((b.getD 0 ATI.zero).getD (wI (((b.getD 0 ATI.zero).length:Int)-1)).toNat Aa.zero) 0 (b.getD 0 ATI.zero)).bind λt=>some t
 else none
 else none) (λx=>if(0:Int)<=(0:Int)/\(0:Int)<(b.length:Int)then
 if(b.getD 0 ATI.zero).length*16<=140737488355328 then
 (P3 c 0 (b.getD 0 ATI.zero)).bind λn=>some n
 else none
 else none))
 else
 Po (Aff b c) (
 bif bif (c.1==7)then(c.1==7)else(c.1==8)then
 if(0:Int)<=(0:Int)/\(0:Int)<(b.length:Int)then
 if((b.getD 0 ATI.zero).length:Int)=(0:Int)then none else
 (Lr b c ((b.getD 0 ATI.zero).length:Int) (Int.tmod c.2.2.1 ((b.getD 0 ATI.zero).length:Int))).bind λl=>if(0:Int)<=(0:Int)/\(0:Int)<(b.length:Int)then
 if(0:Int)<=(wI (((b.getD 0 ATI.zero).length:Int)-l))/\(wI (((b.getD 0 ATI.zero).length:Int)-l))<=((b.getD 0 ATI.zero).length:Int)/\((b.getD 0 ATI.zero).length:Int)<=((b.getD 0 ATI.zero).length:Int)then
 if(((b.getD 0 ATI.zero).take ((b.getD 0 ATI.zero).length:Int).toNat).drop (wI (((b.getD 0 ATI.zero).length:Int)-l)).toNat).length*16<=140737488355328 then
 if(0:Int)<=(0:Int)/\(0:Int)<(b.length:Int)then
 if(0:Int)<=(0:Int)/\(0:Int)<=(wI (((b.getD 0 ATI.zero).length:Int)-l))/\(wI (((b.getD 0 ATI.zero).length:Int)-l))<=((b.getD 0 ATI.zero).length:Int)then
 if((((b.getD 0 ATI.zero).take ((b.getD 0 ATI.zero).length:Int).toNat).drop (wI (((b.getD 0 ATI.zero).length:Int)-l)).toNat).length+(((b.getD 0 ATI.zero).take (wI (((b.getD 0 ATI.zero).length:Int)-l)).toNat).drop 0).length)*16<=140737488355328 then
 some ((((b.getD 0 ATI.zero).take ((b.getD 0 ATI.zero).length:Int).toNat).drop (wI (((b.getD 0 ATI.zero).length:Int)-l)).toNat)++(((b.getD 0 ATI.zero).take (wI (((b.getD 0 ATI.zero).length:Int)-l)).toNat).drop 0))
 else none
 else none
 else none
 else none
 else none
 else none
 else none
 else
 bif c.1==9 then
 (P4 b c 0 ([]:ASK)).bind λe=>some e
 else
 some ([]:ASK)))
theorem Au5 a b c:AQ jK 0 43 (code f112) 14 (AsL a b c) (P5 a b c) (AqO a b c):=by
 unfold AQ;simp(disch:=refine id ?_;kernel_rfl) only[P5,ASr,PZ,AF (AuV _ _) (K:=Uk jK 0 43),P0,AF (AuW _) (K:=Uk jK 0 43),UG,AF (AuX _) (K:=Uk jK 0 43),Ev (AuY ..) (K:=Uk jK 0 43),Ba (AuZ ..) (K:=Uk jK 0 43),P2,AF (Au0 _ _) (K:=Uk jK 0 43),P3,AF (Au1 _) (K:=Uk jK 0 43),Ev (Au2 ..) (K:=Uk jK 0 43),Ba (Au3 ..) (K:=Uk jK 0 43),P4,AF (Au4 _ _) (K:=Uk jK 0 43)];kernel_rfl
def Uf(a:ASL)(c:ASz)(b:ASX):ATV ASK:=
 (P5 a b c).bind λd=>some d
def AEP:=Ci [.d ATK,.d Ah,.d (.sl ATI)] [⟨[.AB [] ATK,.AB [] Ah,.AB [] (.sl ATI)],[],ASK,λp=>Uf p.1.1 p.1.2.1 p.1.2.2.1,λr=>(.AG 0,[Fc r])⟩]
theorem AfG:Ao prog 112 AEP:=Av (fn:=f112) ⟨⟨jK,pk ⟨kh,trivial⟩,λ_ R K=>by
 simp(disch:=refine id ?_;kernel_rfl) only[Uf,ASs,Ba (Au5 ..) (K:=A0 jK f112 0 R K)];kernel_rfl⟩,trivial⟩
abbrev E34:=eN [] {A5:=[(5,[0,2,4,5])],BB:=[(5,[2,4])],Bw:=[(2,[0,2,13])],Da:=[(2,[0,2])],gk:=[(0,.row [1] 199 ATF true)]}
def AAd a b (z_:Int×ASH):=sT 51 [(0,aM a),(2,Aq),(4,A1),(5,dI z_.1)] (Aj7 b z_.2)
def Ax3(a:ASH) b:=λ(c:ASH)=>xE 0 51 [(2,Aq),(4,A1)] (Aj7 b c)
def Od(a:ASH)(b d:Int)(e:ASH):ATV (AS5⊕ASH):=
 bif decide (d<(a.length:Int))then
 if 0<=(wI (Int.tdiv d 64))/\(wI (Int.tdiv d 64))<e.length then
 if 0<=d/\d<a.length then
 if(IntKind.u64.wrap (Int.tmod d 64))<(0:Int)then none else
 if 0<=(wI (Int.tdiv d 64))/\(wI (Int.tdiv d 64))<e.length then
 some (.inl (wI (d+1),e.set (wI (Int.tdiv d 64)).toNat (gg .u64 (e.getD (wI (Int.tdiv d 64)).toNat ATF.zero) (N5 .u64 (IntKind.u64.wrap (a.getD d.toNat ATG.zero)) (IntKind.u64.wrap (Int.tmod d 64))))))
 else none
 else none
 else none
 else
 some (.inr e)
def Kd a b (z_:Int×ASH):=Od a b z_.1 z_.2
def Wb a b d e:=fix (Kd a b) (d,e)
theorem ACt a b:A3 E34 0 5 (code f67) 122 (AAd a b) (Kd a b) (Ax3 a b):=by
 intro _;simp only[Kd,Od,ASr];kernel_rfl
def Am8 a:=sT 51 [(0,aM a),(2,Aq)] [.box Tj]
def AeA(a:ASH)(m0:Bool):Ex×St:=xN 51 [(0,aM a),(2,Aq),(13,dB m0)] [.box Tj]
theorem ACs a:XJ E34 0 2 (code f67) (pt 12) (Am8 a)=some (AeA a ((decide ((a.length:Int)<1))||(decide ((a.length:Int)>4096)))):=by
 refine .trans (b:=
 bif decide ((a.length:Int)<1)then
 some (AeA a true)
 else
 some (AeA a (decide ((a.length:Int)>4096)))) (by kernel_rfl) ?_
 cases (decide ((a.length:Int)<1));rfl;rfl
def Kp(a:ASH):ATV (Int×Bool×ASH):=
 Po (Am8 a) (
 bif (decide ((a.length:Int)<1))||(decide ((a.length:Int)>4096))then
 some (0,false,([]:ASH))
 else
 if Ty.row ATF=true/\(0:Int)<=(wI (Int.tdiv (wI ((a.length:Int)+63)) 64))/\(wI (Int.tdiv (wI ((a.length:Int)+63)) 64))<=(wI (Int.tdiv (wI ((a.length:Int)+63)) 64))/\((8:Nat):Int)*(wI (Int.tdiv (wI ((a.length:Int)+63)) 64))<=(281474976710656:Int)/\(wI (Int.tdiv (wI ((a.length:Int)+63)) 64))<=(9223372036854775807:Int)then
 (Wb a (a.length:Int) 0 (List.replicate (wI (Int.tdiv (wI ((a.length:Int)+63)) 64)).toNat 0)).bind λc=>some ((a.length:Int),true,c)
 else none)
def c67:=Ci [.d (.sl ATG)] [⟨[.AB [] (.sl ATG)],[],Int×Bool×ASH,λp=>Kp p.1.1,λr=>(.cons (.pr (dI r.1) Ps) (.cons (dB r.2.1) .nil),[Bq r.2.2])⟩]
theorem qR:Ao prog 67 c67:=Av (fn:=f67) ⟨⟨E34,pk trivial,λ_ R K=>by
 simp(disch:=refine id ?_;kernel_rfl) only[Kp,ASs,Ev (ACs _) (K:=A0 E34 f67 0 R K),Wb,AF (ACt _ _) (K:=A0 E34 f67 0 R K)];kernel_rfl⟩,trivial⟩
abbrev E35:=eN [(67,c67)] {A5:=[(3,{A7:=[0,4,5],Cg:=[(4,false,.row [] 218 Ag true)]}),(7,[0,4,6,7]),(12,[0,4,5,6])],BB:=[(3,[4]),(7,{A7:=[0,4,6,7],O4:=[(7,false,.sl ATG)]}),(12,[0,4,5,6])],Bw:=[(8,[0,4,6,7]),(13,[0,4,5,6]),(15,[0,4,6])],Da:=[(8,[0,4,6,7]),(13,[0,4,5,6]),(15,[0,4,5,6])]}
def AsM a (z_:Int×ASO):=sT 121 [(0,TE a),(4,.AG 0),(5,dI z_.1)] [B5 z_.2]
def AqP(a:ASK):=λ(b:ASO)=>xE 0 121 [(4,.AG 0)] [B5 b]
def AAi a c d e:=sT 121 (qf a c e) [B5 d]
def Ax8 a (c:Int) (d:ASO) (e:Int):=λ(g:ATh)=>xN 121 [(0,TE a),(4,.AG 0),(6,dI g.1)] [B5 g.2]
def AAh a c d (z_:Int):=sT 121 (qf a c z_) [B5 d]
def Ax7 a c d:=λ(i:Int)=>xE 4 121 (qf a c i) [B5 d]
def AAg a c j d:=sT 121 (qf a c j) [B5 d]
def Ax6 a c j d:=Sum.elim (λ(k:Unit)=>xN 121 (qf a c j) [B5 d]) (λ(l:Unit)=>xE 4 121 (qf a c j) [B5 d])
def RZ(a:ASK)(c j:Int)(d:ASO):ATV (Unit⊕Unit):=
 bif decide (j<(a.length:Int))then
 if 0<=j/\j<a.length then
 if 0<=c/\c<a.length then
 bif (a.getD j.toNat Aa.zero).1==(a.getD c.toNat Aa.zero).1 then
 if 0<=j/\j<a.length then
 if 0<=(wI (j-1))/\(wI (j-1))<a.length then
 bif (a.getD j.toNat Aa.zero).2.1==(wI ((a.getD (wI (j-1)).toNat Aa.zero).2.1+1))then
 some (.inl ())
 else
 some (.inr ())
 else none
 else none
 else
 some (.inr ())
 else none
 else none
 else
 some (.inr ())
theorem ACw a c j d:AQ E35 0 13 (sb (sb (cd f113 120) 26) 56) 2 (AAg a c j d) (RZ a c j d) (Ax6 a c j d):=by
 unfold AQ;simp only[RZ,ASr];kernel_rfl
def Tc(a:ASK)(c:Int)(d:ASO)(j:Int):ATV (Int⊕Int):=
 (RZ a c j d).bind (Sum.elim (λk=>some (.inl (wI (j+1)))) (λl=>some (.inr j)))
def On a c d (z_:Int):=Tc a c d z_
def R1 a c d j:=fix (On a c d) j
theorem ACx a c d:A3 E35 0 12 (sb (cd f113 120) 26) 28 (AAh a c d) (On a c d) (Ax7 a c d):=by
 intro _;simp(disch:=refine id ?_;kernel_rfl) only[On,Tc,ASr,Ba (ACw ..) (K:=JG E35 0 12)];kernel_rfl
def AAf a d (z_:Int×ASH):=sT 121 (Ab5 a z_.1) [B5 d,Lg z_.2]
def Ax5 a d:=λ(n:AS5)=>xE 2 121 [(0,TE a),(4,.AG 0),(6,dI n.1),(7,aM n.2)] [B5 d]
def AAe a o d q:=sT 121 (Ab5 a o) [B5 d,Lg q]
def Ax4 a o d q:=Sum.elim (λ(s:Unit)=>xN 121 (Ab5 a o) [B5 d,Lg q]) (λ(t:Unit)=>xE 2 121 (Ab5 a o) [B5 d,Lg q])
def RY(a:ASK)(o:Int)(d:ASO)(q:ASH):ATV (Unit⊕Unit):=
 bif decide (o<(a.length:Int))then
 if 0<=o/\o<a.length then
 bif decide ((a.getD o.toNat Aa.zero).1<0)then
 some (.inl ())
 else
 some (.inr ())
 else none
 else
 some (.inr ())
theorem ACu a o d q:AQ E35 0 8 (sb (sb (cd f113 120) 26) 104) 2 (AAe a o d q) (RY a o d q) (Ax4 a o d q):=by
 unfold AQ;simp only[RY,ASr];kernel_rfl
def Tb(a:ASK)(d:ASO)(o:Int)(q:ASH):ATV (AS5⊕AS5):=
 (RY a o d q).bind (Sum.elim (λs=>if 0<=o/\o<a.length then
 if(q.length+([IntKind.u8.wrap (a.getD o.toNat Aa.zero).2.1]:ASH).length)*1<=140737488355328 then
 some (.inl (wI (o+1),q++([IntKind.u8.wrap (a.getD o.toNat Aa.zero).2.1]:ASH)))
 else none
 else none) (λt=>some (.inr (o,q))))
def Om a d (z_:Int×ASH):=Tb a d z_.1 z_.2
def Wj a d o q:=fix (Om a d) (o,q)
theorem ACv a d:A3 E35 0 7 (sb (cd f113 120) 26) 52 (AAf a d) (Om a d) (Ax5 a d):=by
 intro _;simp(disch:=refine id ?_;kernel_rfl) only[Om,Tb,ASr,Ba (ACu ..) (K:=JG E35 0 7)];kernel_rfl
def R3(a:ASK)(c:Int)(d:ASO)(e:Int):ATV ATh:=
 if 0<=c/\c<a.length then
 bif decide ((a.getD c.toNat Aa.zero).1<0)then
 if 0<=c/\c<a.length then
 (Wj a d e ([IntKind.u8.wrap (a.getD c.toNat Aa.zero).2.1]:ASH)).bind λn=>(Kp n.2).bind λu=>if(d.length+([(-1,0,u.1,(u.1,u.2.2,()),())]:ASO).length)*56<=140737488355328 then
 some (n.1,d++([(-1,0,u.1,(u.1,u.2.2,()),())]:ASO))
 else none
 else none
 else
 (R1 a c d e).bind λi=>if 0<=c/\c<a.length then
 if 0<=c/\c<a.length then
 if(d.length+([((a.getD c.toNat Aa.zero).1,(a.getD c.toNat Aa.zero).2.1,wI (i-c),(0,([]:ASH),()),())]:ASO).length)*56<=140737488355328 then
 some (i,d++([((a.getD c.toNat Aa.zero).1,(a.getD c.toNat Aa.zero).2.1,wI (i-c),(0,([]:ASH),()),())]:ASO))
 else none
 else none
 else none
 else none
theorem ACy a c d e:AQ E35 0 15 (cd f113 120) 26 (AAi a c d e) (R3 a c d e) (Ax8 a c d e):=by
 unfold AQ;simp(disch:=refine id ?_;kernel_rfl) only[R3,ASr,Wj,AF (ACv _ _) (K:=Uk E35 0 15),R1,AF (ACx _ _ _) (K:=Uk E35 0 15)];kernel_rfl
def RX(a:ASK)(c:Int)(d:ASO):ATV (ATh⊕ASO):=
 bif decide (c<(a.length:Int))then
 (R3 a c d (wI (c+1))).bind λg=>some (.inl (g.1,g.2))
 else
 some (.inr d)
def My a (z_:Int×ASO):=RX a z_.1 z_.2
def UF a c d:=fix (My a) (c,d)
theorem Au6 a:A3 E35 0 3 (code f113) 60 (AsM a) (My a) (AqP a):=by
 intro _;simp(disch:=refine id ?_;kernel_rfl) only[My,RX,ASr,Ba (ACy ..) (K:=JG E35 0 3)];kernel_rfl
def Ue(a:ASK):ATV AS8:=
 (UF a 0 ([]:ASO)).bind λb=>some (decide ((b.length:Int)<=2000),b)
def AEQ:=Ci [.d ATI] [⟨[.AB [] ATI],[],AS8,λp=>Ue p.1.1,λr=>(.cons HS (.cons (dB r.1) .nil),[B5 r.2])⟩]
theorem AfH:Ao prog 113 AEQ:=Av (fn:=f113) ⟨⟨E35,pk ⟨qR,trivial⟩,λ_ R K=>by
 simp(disch:=refine id ?_;kernel_rfl) only[Ue,ASs,UF,AF (Au6 _) (K:=A0 E35 f113 0 R K)];kernel_rfl⟩,trivial⟩
abbrev E36:=eN [(111,Avl),(112,AEP),(113,AEQ)] {Aw:=false,A5:=[(6,{A7:=[0,3,6,7,8],Cg:=[(6,false,.row [] 153 ATI false),(7,false,.row [] 218 Ag true)]}),(10,{A7:=[0,3,6,8,9,10],Cg:=[(9,false,.row [] 153 ATI false)]})],BB:=[(6,[4,5,7]),(10,{A7:=[0,3,6,8,9],O4:=[(9,false,.sl ATI)]})],gk:=[(0,.row [] 218 Ag true)]}
def AAk a b (z_:Int×ASX×ASO):=sT 77 [(0,Ar a),(3,Aq),(6,.AG 1),(7,.AG 2),(8,dI z_.1)] [.box (G0 b),jE z_.2.1,B5 z_.2.2]
def Aya(a:ASL)(b:ASD):=Sum.elim (λ(c:Unit)=>xR 77 [(4,.zs),(5,dB false)] []) (λ(d:ASO)=>xE 0 77 oi [B5 d])
def AAj a e b g (z_:Int×ASX):=sT 77 [(0,Ar a),(3,Aq),(6,.AG 1),(8,dI e),(9,.AG 2),(10,dI z_.1)] [.box (G0 b),jE g,jE z_.2]
def Ax9 a e b g:=λ(i:ASX)=>xE 2 77 [(0,Ar a),(3,Aq),(6,.AG 1),(8,dI e),(9,Sd i)] [.box (G0 b),jE g]
def Mq(a:ASL)(e:Int)(b:ASD)(g:ASX)(j:Int)(k:ASX):ATV ((Int×ASX)⊕ASX):=
 if 0<=e/\e<b.1.length then
 bif decide (j<((b.1.getD e.toNat Ah.zero).2.2.2.2.2.1.length:Int))then
 if 0<=e/\e<b.1.length then
 if 0<=j/\j<(b.1.getD e.toNat Ah.zero).2.2.2.2.2.1.length then
 if(0:Int)<=((b.1.getD e.toNat Ah.zero).2.2.2.2.2.1.getD j.toNat ATE.zero)/\((b.1.getD e.toNat Ah.zero).2.2.2.2.2.1.getD j.toNat ATE.zero)<(g.length:Int)then
 if(k.length+([g.getD ((b.1.getD e.toNat Ah.zero).2.2.2.2.2.1.getD j.toNat ATE.zero).toNat ATI.zero]:ASX).length)*24<=140737488355328 then
 some (.inl (wI (j+1),k++([g.getD ((b.1.getD e.toNat Ah.zero).2.2.2.2.2.1.getD j.toNat ATE.zero).toNat ATI.zero]:ASX)))
 else none
 else none
 else none
 else none
 else
 some (.inr k)
 else none
def F4 a e b g (z_:Int×ASX):=Mq a e b g z_.1 z_.2
def PS a e b g j k:=fix (F4 a e b g) (j,k)
theorem ACz a e b g:A3 E36 0 10 (cd f64 500) 202 (AAj a e b g) (F4 a e b g) (Ax9 a e b g):=by
 intro _;simp only[F4,Mq,ASr];kernel_rfl
def RH(a:ASL)(b:ASD)(e:Int)(g:ASX)(l:ASO):ATV ((Int×ASX×ASO)⊕(Unit⊕ASO)):=
 bif decide (e<(b.1.length:Int))then
 (PS a e b g 0 ([]:ASX)).bind λi=>if 0<=e/\e<b.1.length then
 (Uf a (b.1.getD e.toNat Ah.zero) i).bind λn=>(Ue n).bind λo=>bif !o.1 then
 some (.inr (.inl ()))
 else
 if(g.length+([n]:ASX).length)*24<=140737488355328 then
 some (.inl (wI (e+1),g++([n]:ASX),o.2))
 else none
 else none
 else
 some (.inr (.inr l))
def Mr a b (z_:Int×ASX×ASO):=RH a b z_.1 z_.2.1 z_.2.2
def UC a b e g l:=fix (Mr a b) (e,g,l)
theorem ACA a b:A3 E36 0 6 (code f64) 250 (AAk a b) (Mr a b) (Aya a b):=by
 intro _;simp(disch:=refine id ?_;kernel_rfl) only[Mr,RH,ASr,PS,AF (ACz _ _ _ _) (K:=JG E36 0 6)];kernel_rfl
def BG(a:ASL)(b:ASD):ATV AS8:=
 (Fv a b).bind λq=>bif decide (q<0)then
 some (false,([]:ASO))
 else
 (UC a b 0 ([]:ASX) ([]:ASO)).bind (Sum.elim (λc=>some (false,([]:ASO))) (λd=>some (true,d)))
def c64:=Ci [.d ATK,.d An] [⟨[.AB [] ATK,.AB [] An],[],AS8,λp=>BG p.1.1 p.1.2.1,λr=>(.cons HS (.cons (dB r.1) .nil),[B5 r.2])⟩]
theorem jd:Ao prog 64 c64:=Av (fn:=f64) ⟨⟨E36,pk ⟨uC,AfG,AfH,trivial⟩,λ_ R K=>by
 simp(disch:=refine id ?_;kernel_rfl) only[BG,ASs,UC,AF (ACA _ _) (K:=A0 E36 f64 0 R K)];kernel_rfl⟩,trivial⟩
abbrev E37:=eN [(64,c64)] {A5:=[(3,{A7:=[0,1,6,7],Cg:=[(6,false,.row [] 122 ATH true)]})],BB:=[(3,[4,5,6])],Bw:=[(8,[0,1,6,7,8,10,44])],Da:=[(8,[0,1,6,7,8,9,10,11])]}
def AAl a b (z_:Int×ASZ):=sT 52 [(0,Ar a),(1,Bb b),(6,.AG 0),(7,dI z_.1)] [Sf z_.2]
def Ayb(a:ASL)(b:ASN):=Sum.elim (λ(c:ASZ)=>xR 52 [(4,.AG 0),(5,dB false),(6,.AG 0)] [Sf c]) (λ(d:ASZ)=>xE 0 52 tE [Sf d])
def Am9 a b e (g:AS8) (i:AS8) j:=sT 52 [(0,Ar a),(1,Bb b),(6,.AG 0),(7,dI e),(8,.AG 1),(9,dB g.1),(10,.AG 2),(11,dB i.1)] [Sf j,B5 g.2,B5 i.2]
def AeB(a:ASL)(b:ASN)(e:Int)(g i:AS8)(j:ASZ)(m0:Bool):Ex×St:=xN 52 [(0,Ar a),(1,Bb b),(6,.AG 0),(7,dI e),(8,.AG 1),(10,.AG 2),(44,dB m0)] [Sf j,B5 g.2,B5 i.2]
theorem ACB a b e g i j:XJ E37 0 8 (cd f109 116) (pt 204) (Am9 a b e g i j)=some (AeB a b e g i j ((!g.1)||(!i.1))):=by
 refine .trans (b:=
 bif !g.1 then
 some (AeB a b e g i j true)
 else
 some (AeB a b e g i j (!i.1))) (by kernel_rfl) ?_
 cases (!g.1);rfl;rfl
def R8(a:ASL)(b:ASN)(e:Int)(j:ASZ):ATV ((Int×ASZ)⊕(ASZ⊕ASZ)):=
 bif decide (e<(b.length:Int))then
 if 0<=e/\e<b.length then
 (BG a (b.getD e.toNat Af.zero).2.2.1).bind λg=>if 0<=e/\e<b.length then
 (BG a (b.getD e.toNat Af.zero).2.2.2.1).bind λi=>Po (Am9 a b e g i j) (
 bif (!g.1)||(!i.1)then
 some (.inr (.inl j))
 else
 if(j.length+([g.2,i.2]:ASZ).length)*24<=140737488355328 then
 some (.inl (wI (e+1),j++([g.2,i.2]:ASZ)))
 else none)
 else none
 else none
 else
 some (.inr (.inr j))
def MN a b (z_:Int×ASZ):=R8 a b z_.1 z_.2
def YV a b e j:=fix (MN a b) (e,j)
theorem ACC a b:A3 E37 0 3 (code f109) 58 (AAl a b) (MN a b) (Ayb a b):=by
 intro _;simp(disch:=refine id ?_;kernel_rfl) only[MN,R8,ASr,Ev (ACB ..) (K:=JG E37 0 3)];kernel_rfl
def R7(a:ASL)(b:ASN):ATV (Bool×ASZ):=
 (YV a b 0 ([]:ASZ)).bind (Sum.elim (λc=>some (false,c)) (λd=>some (true,d)))
def Avk:=Ci [.d ATK,.d ATL] [⟨[.AB [] ATK,.AB [] ATL],[],Bool×ASZ,λp=>R7 p.1.1 p.1.2.1,λr=>(.cons HS (.cons (dB r.1) .nil),[Sf r.2])⟩]
theorem uB:Ao prog 109 Avk:=Av (fn:=f109) ⟨⟨E37,pk ⟨jd,trivial⟩,λ_ R K=>by
 simp(disch:=refine id ?_;kernel_rfl) only[R7,ASs,YV,AF (ACC _ _) (K:=A0 E37 f109 0 R K)];kernel_rfl⟩,trivial⟩
abbrev E38:=eN [] {Aw:=false,A5:=[(3,{A7:=[0,3,4],Cg:=[(3,false,.row [] 87 Af false)]})],BB:=[(3,{A7:=[3],O4:=[(3,false,ATL)]})],Bw:=[(4,{A7:=[0,3,4],Cg:=[(3,false,.row [] 87 Af false)]})],Da:=[(4,[0,3,4])],O4:=[(0,ATL)]}
def AAn a (z_:Int×ASN):=sT 25 (AmZ a z_.1) [OC z_.2]
def Ayd(a:ASN):=λ(b:ASN)=>xE 0 25 [(3,Bb b)] []
def AAm a c d:=sT 25 (AmZ a c) [OC d]
def Ayc a c (d:ASN):=λ(e:ASN)=>xN 25 (AmZ a c) [OC e]
def Ob(a:ASN)(c:Int)(d:ASN):ATV ASN:=
 if 0<=c/\c<a.length then
 bif (a.getD c.toNat Af.zero).2.1 then
 if 0<=c/\c<a.length then
 if(d.length+([a.getD c.toNat Af.zero]:ASN).length)*64<=140737488355328 then
 some (d++([a.getD c.toNat Af.zero]:ASN))
 else none
 else none
 else
 some d
 else none
theorem ACD a c d:AQ E38 0 4 (cd f66 116) 6 (AAm a c d) (Ob a c d) (Ayc a c d):=by
 unfold AQ;simp only[Ob,ASr];kernel_rfl
def K1(a:ASN)(c:Int)(d:ASN):ATV (ATf⊕ASN):=
 bif decide (c<(a.length:Int))then
 (Ob a c d).bind λe=>some (.inl (wI (c+1),e))
 else
 some (.inr d)
def EY a (z_:Int×ASN):=K1 a z_.1 z_.2
def S8 a c d:=fix (EY a) (c,d)
theorem ACE a:A3 E38 0 3 (code f66) 58 (AAn a) (EY a) (Ayd a):=by
 intro _;simp(disch:=refine id ?_;kernel_rfl) only[EY,K1,ASr,Ba (ACD ..) (K:=JG E38 0 3)];kernel_rfl
def Ji(a:ASN):ATV ASN:=
 (S8 a 0 ([]:ASN)).bind λb=>some b
def c66:=Ci [.d ATL] [⟨[.AB [] ATL],[],ASN,λp=>Ji p.1.1,λr=>(Bb r,[])⟩]
theorem qQ:Ao prog 66 c66:=Av (fn:=f66) ⟨⟨E38,pk trivial,λ_ R K=>by
 simp(disch:=refine id ?_;kernel_rfl) only[Ji,ASs,S8,AF (ACE _) (K:=A0 E38 f66 0 R K)];kernel_rfl⟩,trivial⟩
abbrev E39:=eN [] {A5:=[(3,{A7:=[0,2,3,4],Cg:=[(3,true,.row [0] 32 ATJ true)]})],BB:=[(3,[2,3])]}
def AAo a (z_:Int×ASV):=sT 19 [(0,Ar a),(2,Aq),(3,A1),(4,dI z_.1)] (Ab6 z_.2)
def Aye(a:ASL):=λ(b:ASV)=>xE 0 19 [(2,Aq),(3,A1)] (Ab6 b)
def Ow(a:ASL)(c:Int)(d:ASV):ATV ((Int×ASV)⊕ASV):=
 bif decide (c<(a.length:Int))then
 if(d.length+([([]:ASH)]:ASV).length)*24<=140737488355328 then
 some (.inl (wI (c+1),d++([([]:ASH)]:ASV)))
 else none
 else
 some (.inr d)
def Hm a (z_:Int×ASV):=Ow a z_.1 z_.2
def Wm a c d:=fix (Hm a) (c,d)
theorem ACF a:A3 E39 0 3 (code f110) 58 (AAo a) (Hm a) (Aye a):=by
 intro _;simp only[Hm,Ow,ASr];kernel_rfl
def Uh(a:ASL):ATV ASV:=
 (Wm a 0 ([]:ASV)).bind λb=>some b
def AEO:=Ci [.d ATK] [⟨[.AB [] ATK],[],ASV,λp=>Uh p.1.1,λr=>(.pr HS .u,[Dn r])⟩]
theorem AfF:Ao prog 110 AEO:=Av (fn:=f110) ⟨⟨E39,pk trivial,λ_ R K=>by
 simp(disch:=refine id ?_;kernel_rfl) only[Uh,ASs,Wm,AF (ACF _) (K:=A0 E39 f110 0 R K)];kernel_rfl⟩,trivial⟩
end
end Go.Proofs.X
namespace Go.Proofs.X
open Go Go.Va Go.Proofs.Tryz
set_option maxRecDepth 100000
noncomputable section
abbrev E40:=eN [(132,AkQ),(133,qN)] {A5:=[(4,[0,3,5]),(7,[0,3,5,6])],BB:=[(4,[4]),(7,[0,3,4,5])],Bw:=[(2,[0,3,17]),(10,[0,3,5,6,74])],Da:=[(2,[0,3]),(10,[0,3,5,6])]}
def AAs a b (z_:Int):=sT 75 [(0,Ar a),(3,Aq),(5,dI z_)] [.box (BM b)]
def Ayi(a:ASL)(b:ASC):=Sum.elim (λ(c:Unit)=>xR 75 mQ []) (λ(d:Unit)=>xE 0 75 [] [])
def AAr a e b (z_:Int):=sT 75 [(0,Ar a),(3,Aq),(5,dI e),(6,dI z_)] [.box (BM b)]
def Ayh a e b:=Sum.elim (λ(g:Unit)=>xR 75 [(0,Ar a),(3,Aq),(4,dB false),(5,dI e)] [.box (BM b)]) (λ(i:Unit)=>xE 2 75 [(0,Ar a),(3,Aq),(5,dI e)] [.box (BM b)])
def AAq a e j b:=sT 75 [(0,Ar a),(3,Aq),(5,dI e),(6,dI j)] [.box (BM b)]
def Ayg a e j b:=λ(k:Bool)=>xN 75 [(0,Ar a),(3,Aq),(5,dI e),(6,dI j),(74,dB k)] [.box (BM b)]
def Nt(a:ASL)(e j:Int)(b:ASC):ATV Bool:=
 if 0<=e/\e<b.1.length then
 if 0<=j/\j<(b.1.getD e.toNat ATJ.zero).length then
 if 0<=e/\e<a.length then
 bif !(BL ((b.1.getD e.toNat ATJ.zero).getD j.toNat ATE.zero) 1 (wI ((a.getD e.toNat Ab.zero).2.1-1)))then
 some true
 else
 bif decide (j>0)then
 if 0<=e/\e<b.1.length then
 if 0<=j/\j<(b.1.getD e.toNat ATJ.zero).length then
 if 0<=e/\e<b.1.length then
 if 0<=(wI (j-1))/\(wI (j-1))<(b.1.getD e.toNat ATJ.zero).length then
 some (decide (((b.1.getD e.toNat ATJ.zero).getD j.toNat ATE.zero)<=((b.1.getD e.toNat ATJ.zero).getD (wI (j-1)).toNat ATE.zero)))
 else none
 else none
 else none
 else none
 else
 some false
 else none
 else none
 else none
theorem ACH a e j b:AQ E40 0 10 (sb (cd f83 116) 100) 24 (AAq a e j b) (Nt a e j b) (Ayg a e j b):=by
 unfold AQ;simp only[Nt,ASr];kernel_rfl
def N7(a:ASL)(e:Int)(b:ASC)(j:Int):ATV (Int⊕(Unit⊕Unit)):=
 if 0<=e/\e<b.1.length then
 bif decide (j<((b.1.getD e.toNat ATJ.zero).length:Int))then
 (Nt a e j b).bind λk=>bif k then
 some (.inr (.inl ()))
 else
 some (.inl (wI (j+1)))
 else
 some (.inr (.inr ()))
 else none
def J8 a e b (z_:Int):=N7 a e b z_
def ZO a e b j:=fix (J8 a e b) j
theorem ACI a e b:A3 E40 0 7 (cd f83 116) 50 (AAr a e b) (J8 a e b) (Ayh a e b):=by
 intro _;simp(disch:=refine id ?_;kernel_rfl) only[J8,N7,ASr,Ba (ACH ..) (K:=JG E40 0 7)];kernel_rfl
def N8(a:ASL)(b:ASC)(e:Int):ATV (Int⊕(Unit⊕Unit)):=
 bif decide (e<(b.1.length:Int))then
 (ZO a e b 0).bind (Sum.elim (λg=>some (.inr (.inl ()))) (λi=>some (.inl (wI (e+1)))))
 else
 some (.inr (.inr ()))
def J9 a b (z_:Int):=N8 a b z_
def ZP a b e:=fix (J9 a b) e
theorem ACJ a b:A3 E40 0 4 (code f83) 58 (AAs a b) (J9 a b) (Ayi a b):=by
 intro _;simp(disch:=refine id ?_;kernel_rfl) only[J9,N8,ASr,ZO,AF (ACI _ _ _) (K:=JG E40 0 4)];kernel_rfl
def AAp a b:=sT 75 [(0,Ar a),(3,Aq)] [.box (BM b)]
def Ayf a b:=λ(l:Bool)=>xN 75 [(0,Ar a),(3,Aq),(17,dB l)] [.box (BM b)]
def RG(a:ASL)(b:ASC):ATV Bool:=
 (KY a).bind λn=>bif !n then
 some true
 else
 some ((b.1.length:Int) !=(a.length:Int))
theorem ACG a b:AQ E40 0 2 (code f83) 12 (AAp a b) (RG a b) (Ayf a b):=by
 unfold AQ;simp only[RG,ASr];kernel_rfl
def Ko(a:ASL)(b:ASC):ATV Bool:=
 (RG a b).bind λl=>bif l then
 some false
 else
 (ZP a b 0).bind (Sum.elim (λc=>some false) (λd=>some true))
def c83:=Ci [.d ATK,.d Am] [⟨[.AB [] ATK,.AB [] Am],[],Bool,λp=>Ko p.1.1 p.1.2.1,λr=>(dB r,[])⟩]
theorem je:Ao prog 83 c83:=Av (fn:=f83) ⟨⟨E40,pk ⟨j9,TH,trivial⟩,λ_ R K=>by
 simp(disch:=refine id ?_;kernel_rfl) only[Ko,ASs,Ba (ACG ..) (K:=A0 E40 f83 0 R K),ZP,AF (ACJ _ _) (K:=A0 E40 f83 0 R K)];kernel_rfl⟩,trivial⟩
abbrev E41:=eN [] {A5:=[(3,{A7:=[0,3,5,6],Cg:=[(5,false,.row [] 154 ATM true)]}),(7,[0,3,5,6,7,8])],BB:=[(3,[5]),(7,[0,3,5,6,7])]}
def AAu a b (z_:Int×ASW):=sT 48 (Ab7 a z_.1) [.box (BM b),Ce z_.2]
def Ayk(a:ASL)(b:ASC):=λ(c:ASW)=>xE 0 48 [(5,.AG 0)] [Ce c]
def AAt a d b e (z_:Int×ASI):=sT 48 [(0,Ar a),(3,Aq),(5,.AG 1),(6,dI d),(7,.AG 2),(8,dI z_.1)] [.box (BM b),Ce e,Il z_.2]
def Ayj a d b e:=λ(g:ASI)=>xE 2 48 [(0,Ar a),(3,Aq),(5,.AG 1),(6,dI d),(7,.AG 2)] [.box (BM b),Ce e,Il g]
def MI(a:ASL)(d:Int)(b:ASC)(e:ASW)(i:Int)(j:ASI):ATV ((Int×ASI)⊕ASI):=
 if 0<=d/\d<b.1.length then
 bif decide (i<((b.1.getD d.toNat ATJ.zero).length:Int))then
 if 0<=d/\d<b.1.length then
 if 0<=i/\i<(b.1.getD d.toNat ATJ.zero).length then
 if(0:Int)<=((b.1.getD d.toNat ATJ.zero).getD i.toNat ATE.zero)/\((b.1.getD d.toNat ATJ.zero).getD i.toNat ATE.zero)<(j.length:Int)then
 some (.inl (wI (i+1),j.set ((b.1.getD d.toNat ATJ.zero).getD i.toNat ATE.zero).toNat true))
 else none
 else none
 else none
 else
 some (.inr j)
 else none
def Gi a d b e (z_:Int×ASI):=MI a d b e z_.1 z_.2
def UK a d b e i j:=fix (Gi a d b e) (i,j)
theorem ACK a d b e:A3 E41 0 7 (cd f85 116) 202 (AAt a d b e) (Gi a d b e) (Ayj a d b e):=by
 intro _;simp only[Gi,MI,ASr];kernel_rfl
def MJ(a:ASL)(b:ASC)(d:Int)(e:ASW):ATV ((Int×ASW)⊕ASW):=
 bif decide (d<(a.length:Int))then
 if 0<=d/\d<a.length then
 if Ty.row .bool=true/\(0:Int)<=(wI ((a.getD d.toNat Ab.zero).2.1+1))/\(wI ((a.getD d.toNat Ab.zero).2.1+1))<=(wI ((a.getD d.toNat Ab.zero).2.1+1))/\((1:Nat):Int)*(wI ((a.getD d.toNat Ab.zero).2.1+1))<=(281474976710656:Int)/\(wI ((a.getD d.toNat Ab.zero).2.1+1))<=(9223372036854775807:Int)then
 (UK a d b e 0 (List.replicate (wI ((a.getD d.toNat Ab.zero).2.1+1)).toNat false)).bind λg=>if(e.length+([g]:ASW).length)*24<=140737488355328 then
 some (.inl (wI (d+1),e++([g]:ASW)))
 else none
 else none
 else none
 else
 some (.inr e)
def Gj a b (z_:Int×ASW):=MJ a b z_.1 z_.2
def UL a b d e:=fix (Gj a b) (d,e)
theorem ACN a b:A3 E41 0 3 (code f85) 58 (AAu a b) (Gj a b) (Ayk a b):=by
 intro _;simp(disch:=refine id ?_;kernel_rfl) only[Gj,MJ,ASr,UK,AF (ACK _ _ _ _) (K:=JG E41 0 3)];kernel_rfl
def Ov(a:ASL)(b:ASC):ATV ASW:=
 (UL a b 0 ([]:ASW)).bind λc=>some c
def c85:=Ci [.d ATK,.d Am] [⟨[.AB [] ATK,.AB [] Am],[],ASW,λp=>Ov p.1.1 p.1.2.1,λr=>(.AG 0,[Ce r])⟩]
theorem Aa1:Ao prog 85 c85:=Av (fn:=f85) ⟨⟨E41,pk trivial,λ_ R K=>by
 simp(disch:=refine id ?_;kernel_rfl) only[Ov,ASs,UL,AF (ACN _ _) (K:=A0 E41 f85 0 R K)];kernel_rfl⟩,trivial⟩
abbrev E42:=eN [(149,AkS)] {A5:=[(3,{A7:=[0,3,4],Cg:=[(3,false,.row [] 198 Aa true)]}),(6,{A7:=[0,3,4,5],Cg:=[(3,false,.row [] 198 Aa true)]})],BB:=[(3,[3]),(6,[0,3,4])],Bw:=[(7,[0,3,4,5])],Da:=[(7,[0,3,4,5])]}
def AAx a (z_:Int×ASK):=sT 57 [(0,BV a),(3,.AG 0),(4,dI z_.1)] [Fc z_.2]
def Ayn(a:ASO):=λ(b:ASK)=>xE 0 57 tC [Fc b]
def AAw a c (z_:Int×ASK):=sT 57 (AjB a c z_.1) [Fc z_.2]
def Aym a c:=λ(d:ASK)=>xE 2 57 [(0,BV a),(3,.AG 0),(4,dI c)] [Fc d]
def AAv a c e g:=sT 57 (AjB a c e) [Fc g]
def Ayl a c e (g:ASK):=λ(i:ASK)=>xN 57 (AjB a c e) [Fc i]
def RV(a:ASO)(c e:Int)(g:ASK):ATV ASK:=
 if 0<=c/\c<a.length then
 bif decide ((a.getD c.toNat Ag.zero).1<0)then
 if 0<=c/\c<a.length then
 (Jj (a.getD c.toNat Ag.zero).2.2.2.1 e).bind λj=>if(g.length+([(-1,wI j,())]:ASK).length)*16<=140737488355328 then
 some (g++([(-1,wI j,())]:ASK))
 else none
 else none
 else
 if 0<=c/\c<a.length then
 if 0<=c/\c<a.length then
 if(g.length+([((a.getD c.toNat Ag.zero).1,wI ((a.getD c.toNat Ag.zero).2.1+e),())]:ASK).length)*16<=140737488355328 then
 some (g++([((a.getD c.toNat Ag.zero).1,wI ((a.getD c.toNat Ag.zero).2.1+e),())]:ASK))
 else none
 else none
 else none
 else none
theorem ACO a c e g:AQ E42 0 7 (sb (cd f114 116) 100) 6 (AAv a c e g) (RV a c e g) (Ayl a c e g):=by
 unfold AQ;simp only[RV,ASr];kernel_rfl
def Oj(a:ASO)(c e:Int)(g:ASK):ATV (ATp⊕ASK):=
 if 0<=c/\c<a.length then
 bif decide (e<(a.getD c.toNat Ag.zero).2.2.1)then
 (RV a c e g).bind λi=>some (.inl (wI (e+1),i))
 else
 some (.inr g)
 else none
def Hg a c (z_:Int×ASK):=Oj a c z_.1 z_.2
def Wh a c e g:=fix (Hg a c) (e,g)
theorem ACP a c:A3 E42 0 6 (cd f114 116) 50 (AAw a c) (Hg a c) (Aym a c):=by
 intro _;simp(disch:=refine id ?_;kernel_rfl) only[Hg,Oj,ASr,Ba (ACO ..) (K:=JG E42 0 6)];kernel_rfl
def Ol(a:ASO)(c:Int)(k:ASK):ATV (ATp⊕ASK):=
 bif decide (c<(a.length:Int))then
 (Wh a c 0 k).bind λd=>some (.inl (wI (c+1),d))
 else
 some (.inr k)
def EZ a (z_:Int×ASK):=Ol a z_.1 z_.2
def Wi a c k:=fix (EZ a) (c,k)
theorem ACQ a:A3 E42 0 3 (code f114) 58 (AAx a) (EZ a) (Ayn a):=by
 intro _;simp(disch:=refine id ?_;kernel_rfl) only[EZ,Ol,ASr,Wh,AF (ACP _ _) (K:=JG E42 0 3)];kernel_rfl
def I5(a:ASO):ATV ASK:=
 (Wi a 0 ([]:ASK)).bind λb=>some b
def Avm:=Ci [.d ATH] [⟨[.AB [] ATH],[],ASK,λp=>I5 p.1.1,λr=>(.AG 0,[Fc r])⟩]
theorem uD:Ao prog 114 Avm:=Av (fn:=f114) ⟨⟨E42,pk ⟨kh,trivial⟩,λ_ R K=>by
 simp(disch:=refine id ?_;kernel_rfl) only[I5,ASs,Wi,AF (ACQ _) (K:=A0 E42 f114 0 R K)];kernel_rfl⟩,trivial⟩
abbrev E43:=eN [(114,Avm)] {A5:=[(3,{A7:=[0,2,3,4],Cg:=[(3,true,.row [1] 4 .bool true)]}),(6,{A7:=[0,2,3,4,5],Cg:=[(3,true,.row [1] 4 .bool true)]})],BB:=[(3,[2,3]),(6,[0,2,3,4])]}
def AAz a b (z_:Int×ASI):=sT 32 [(0,BV a),(2,Aq),(3,A1),(4,dI z_.1)] (Ab8 b z_.2)
def Ayp(a:ASO) b:=λ(c:ASI)=>xE 0 32 [(2,Aq),(3,A1)] (Ab8 b c)
def AAy a d b (z_:Int×ASI):=sT 32 [(0,BV a),(2,Aq),(3,A1),(4,dI d),(5,dI z_.1)] (Ab8 b z_.2)
def Ayo a d b:=λ(e:ASI)=>xE 2 32 [(0,BV a),(2,Aq),(3,A1),(4,dI d)] (Ab8 b e)
def Ox(a:ASO)(d:Int)(b:ASK)(g:Int)(i:ASI):ATV ((Int×ASI)⊕ASI):=
 if 0<=d/\d<a.length then
 bif decide (g<(a.getD d.toNat Ag.zero).2.2.1)then
 if(i.length+([g==0]:ASI).length)*1<=140737488355328 then
 some (.inl (wI (g+1),i++([g==0]:ASI)))
 else none
 else
 some (.inr i)
 else none
def Hn a d b (z_:Int×ASI):=Ox a d b z_.1 z_.2
def Wn a d b g i:=fix (Hn a d b) (g,i)
theorem ACR a d b:A3 E43 0 6 (cd f89 116) 50 (AAy a d b) (Hn a d b) (Ayo a d b):=by
 intro _;simp only[Hn,Ox,ASr];kernel_rfl
def Oy(a:ASO)(b:ASK)(d:Int)(j:ASI):ATV ((Int×ASI)⊕ASI):=
 bif decide (d<(a.length:Int))then
 (Wn a d b 0 j).bind λe=>some (.inl (wI (d+1),e))
 else
 some (.inr j)
def Ho a b (z_:Int×ASI):=Oy a b z_.1 z_.2
def Wo a b d j:=fix (Ho a b) (d,j)
theorem ACS a b:A3 E43 0 3 (code f89) 58 (AAz a b) (Ho a b) (Ayp a b):=by
 intro _;simp(disch:=refine id ?_;kernel_rfl) only[Ho,Oy,ASr,Wn,AF (ACR _ _ _) (K:=JG E43 0 3)];kernel_rfl
def Kq(a:ASO):ATV (ASK×ASI):=
 (I5 a).bind λb=>(Wo a b 0 ([]:ASI)).bind λc=>some (b,c)
def c89:=Ci [.d ATH] [⟨[.AB [] ATH],[],ASK×ASI,λp=>Kq p.1.1,λr=>(.pr HS fe,[Fc r.1,Il r.2])⟩]
theorem Aa2:Ao prog 89 c89:=Av (fn:=f89) ⟨⟨E43,pk ⟨uD,trivial⟩,λ_ R K=>by
 simp(disch:=refine id ?_;kernel_rfl) only[Kq,ASs,Wo,AF (ACS _ _) (K:=A0 E43 f89 0 R K)];kernel_rfl⟩,trivial⟩
abbrev E44:=eN [] {}
def Ez(a:ASG)(b:ASW)(c:Int):ATV Bool:=
 if 0<=c/\c<a.2.1.length then
 bif a.2.1.getD c.toNat (Ty.zero .bool)then
 some true
 else
 if 0<=c/\c<a.1.length then
 bif decide ((a.1.getD c.toNat Aa.zero).1>=0)then
 if 0<=c/\c<a.1.length then
 if(0:Int)<=(a.1.getD c.toNat Aa.zero).1/\(a.1.getD c.toNat Aa.zero).1<(b.length:Int)then
 if 0<=c/\c<a.1.length then
 if(0:Int)<=(a.1.getD c.toNat Aa.zero).2.1/\(a.1.getD c.toNat Aa.zero).2.1<((b.getD (a.1.getD c.toNat Aa.zero).1.toNat ATM.zero).length:Int)then
 some ((b.getD (a.1.getD c.toNat Aa.zero).1.toNat ATM.zero).getD (a.1.getD c.toNat Aa.zero).2.1.toNat (Ty.zero .bool))
 else none
 else none
 else none
 else none
 else
 some false
 else none
 else none
def c91:=Ci [.d Au,.d ATR,.d ATE] [⟨[.AB [] Au,.AB [] ATR,.AB [] ATE],[],Bool,λp=>Ez p.1.1 p.1.2.1 p.1.2.2.1,λr=>(dB r,[])⟩]
theorem qU:Ao prog 91 c91:=Av (fn:=f91) ⟨⟨E44,pk trivial,λ_ R K=>by
 simp only[Ez,ASs];kernel_rfl⟩,trivial⟩
abbrev E45:=eN [(91,c91)] {}
def Ki(a:ASG)(b:ASW)(c:Int):ATV Bool:=
 (Ez a b c).bind λd=>bif !d then
 if 0<=c/\c<a.1.length then
 some (decide ((a.1.getD c.toNat Aa.zero).1>=0))
 else none
 else
 some false
def AE2:=Ci [.d Au,.d ATR,.d ATE] [⟨[.AB [] Au,.AB [] ATR,.AB [] ATE],[],Bool,λp=>Ki p.1.1 p.1.2.1 p.1.2.2.1,λr=>(dB r,[])⟩]
theorem AfU:Ao prog 134 AE2:=Av (fn:=f134) ⟨⟨E45,pk ⟨qU,trivial⟩,λ_ R K=>by
 simp only[Ki,ASs];kernel_rfl⟩,trivial⟩
abbrev iE:=eN [(89,c89),(91,c91),(109,Avk),(134,AE2)] {wD:=[(59,4),(67,4),(151,4)],A5:=[(6,{A7:=[2,7,9,10],Cg:=[(9,false,.row [] 156 Au true)]}),(9,[2,7,9,10,11]),(17,[2,9,13]),(20,[2,9,13,14]),(24,[2,9,13,14,15,16]),(31,[2,9,13,14,15,16,17,18])],BB:=[(6,[2,9]),(9,[2,7,9,10]),(17,{A7:=[]}),(20,[2,9,13]),(24,[2,9,13,14]),(31,[2,9,13,14,15,16])],Bw:=[(10,[2,7,9,10,11]),(25,[2,9,13,14,15,16]),(29,[2,9,13,14,15,16,17]),(30,[2,9,13,14,15,16,17]),(32,[2,9,13,14,15,16,17,18]),(36,[2,9,13,14,15,16,17,18,20,142])],Da:=[(10,[2,7,9,10,11]),(25,[2,9,13,14,15,16]),(29,[2,9,13,14,15,16,17]),(30,[2,9,13,14,15,16,17]),(32,[2,9,13,14,15,16,17,18]),(36,[2,9,13,14,15,16,17,18,19,20])]}
def AsQ a (z_:Bool×ASW):=sT 159 [(2,.AG 0),(9,.AG 1),(13,dB z_.1)] (Ui z_.2 a)
def AqT(a:ASU):=λ(b:ASW)=>xE 4 159 [] [Ce b]
def AsP a (z_:Bool×Int×ASW):=sT 159 [(2,.AG 0),(9,.AG 1),(13,dB z_.1),(14,dI z_.2.1)] (Ui z_.2.2 a)
def AqS a:=λ(c:ATd)=>xE 6 159 [(2,.AG 0),(9,.AG 1),(13,dB c.1)] (Ui c.2 a)
def AsO d a e (z_:Bool×Int×ASW):=sT 159 (Ab9 z_.1 d e z_.2.1) (Ui z_.2.2 a)
def AqR d a (e:Int):=λ(g:ATd)=>xE 8 159 [(2,.AG 0),(9,.AG 1),(13,dB g.1),(14,dI d)] (Ui g.2 a)
def AsN i d e j k a:=sT 159 (Ab9 i d e j) (Ui k a)
def AqQ(i:Bool) d e j (k:ASW) a:=λ(l:ATd)=>xN 159 (Ab9 l.1 d e j) (Ui l.2 a)
def AAG d e j a n (z_:Bool×Int×ASW):=sT 159 (AjC z_.1 d e j n z_.2.1) (Ui z_.2.2 a)
def Ayw d e j a (n:Int):=λ(o:ATd)=>xE 10 159 (Ab9 o.1 d e j) (Ui o.2 a)
def AAF q d e j n s t a:=sT 159 (AjC q d e j n s) (Ui t a)
def Ayv(q:Bool) d e j n s (t:ASW) a:=λ(u:ATd)=>xN 159 (AjC u.1 d e j n s) (Ui u.2 a)
def AAE q d e j n s t a v w:=sT 159 [(2,.AG 0),(9,.AG 1),(13,dB q),(14,dI d),(15,dI e),(16,dI j),(17,dI n),(18,dI s),(19,EB),(20,Nz)] [Ce t,WZ a,.box (.AB [1] Au v),.box (.AB [1] Au w)]
def Ayu q d e j n s t a (v:ASG) w:=λ(x:Bool)=>xN 159 [(2,.AG 0),(9,.AG 1),(13,dB q),(14,dI d),(15,dI e),(16,dI j),(17,dI n),(18,dI s),(20,EB),(142,dB x)] [Ce t,WZ a,.box (.AB [1] Au w)]
def P7(q:Bool)(d e j n s:Int)(t:ASW)(a:ASU)(v w:ASG):ATV Bool:=
 (Ez v t n).bind λy=>bif y then
 (Ki w t n).bind λa1=>some a1
 else
 some false
theorem ACY q d e j n s t a v w:AQ iE 1 36 (sb (sb (sb (sb (sb (cd f86 1016) 108) 204) 6) 188) 6) 22 (AAE q d e j n s t a v w) (P7 q d e j n s t a v w) (Ayu q d e j n s t a v w):=by
 unfold AQ;simp only[P7,ASr];kernel_rfl
def Lt(q:Bool)(d e j n s:Int)(t:ASW)(a:ASU):ATV ATd:=
 if 0<=(wI (d+s))/\(wI (d+s))<a.length then
 if 0<=(wI ((wI (d+1))-s))/\(wI ((wI (d+1))-s))<a.length then
 (P7 q d e j n s t a (a.getD (wI (d+s)).toNat Au.zero) (a.getD (wI ((wI (d+1))-s)).toNat Au.zero)).bind λx=>bif x then
 if 0<=n/\n<(a.getD (wI ((wI (d+1))-s)).toNat Au.zero).1.length then
 if(0:Int)<=((a.getD (wI ((wI (d+1))-s)).toNat Au.zero).1.getD n.toNat Aa.zero).1/\((a.getD (wI ((wI (d+1))-s)).toNat Au.zero).1.getD n.toNat Aa.zero).1<(t.length:Int)then
 if 0<=n/\n<(a.getD (wI ((wI (d+1))-s)).toNat Au.zero).1.length then
 if(0:Int)<=((a.getD (wI ((wI (d+1))-s)).toNat Au.zero).1.getD n.toNat Aa.zero).2.1/\((a.getD (wI ((wI (d+1))-s)).toNat Au.zero).1.getD n.toNat Aa.zero).2.1<(t.getD ((a.getD (wI ((wI (d+1))-s)).toNat Au.zero).1.getD n.toNat Aa.zero).1.toNat ATM.zero).length then
 some (true,t.set ((a.getD (wI ((wI (d+1))-s)).toNat Au.zero).1.getD n.toNat Aa.zero).1.toNat ((t.getD ((a.getD (wI ((wI (d+1))-s)).toNat Au.zero).1.getD n.toNat Aa.zero).1.toNat ATM.zero).set ((a.getD (wI ((wI (d+1))-s)).toNat Au.zero).1.getD n.toNat Aa.zero).2.1.toNat true))
 else none
 else none
 else none
 else none
 else
 some (q,t)
 else none
 else none
theorem ACZ q d e j n s t a:AQ iE 1 32 (sb (sb (sb (sb (cd f86 1016) 108) 204) 6) 188) 6 (AAF q d e j n s t a) (Lt q d e j n s t a) (Ayv q d e j n s t a):=by
 unfold AQ;simp(disch:=refine id ?_;kernel_rfl) only[Lt,ASr,Ba (ACY ..) (K:=Uk iE 1 32)];kernel_rfl
def MH(d e j:Int)(a:ASU)(n:Int)(q:Bool)(s:Int)(t:ASW):ATV ((Bool×Int×ASW)⊕ATd):=
 bif decide (s<2)then
 (Lt q d e j n s t a).bind λu=>some (.inl (u.1,wI (s+1),u.2))
 else
 some (.inr (q,t))
def Gh d e j a n (z_:Bool×Int×ASW):=MH d e j a n z_.1 z_.2.1 z_.2.2
def UJ d e j a n q s t:=fix (Gh d e j a n) (q,s,t)
theorem AC0 d e j a n:A3 iE 1 31 (sb (sb (sb (cd f86 1016) 108) 204) 6) 94 (AAG d e j a n) (Gh d e j a n) (Ayw d e j a n):=by
 intro _;simp(disch:=refine id ?_;kernel_rfl) only[Gh,MH,ASr,Ba (ACZ ..) (K:=JG iE 1 31)];kernel_rfl
def AAD i d e j k a b1:=sT 159 (xG i d e j b1) (Ui k a)
def Ayt i d e j k a b1:=Sum.elim (λ(c1:Unit)=>xE 9 159 (xG i d e j b1) (Ui k a)) (λ(d1:Unit)=>xN 159 (xG i d e j b1) (Ui k a))
def P6(i:Bool)(d e j:Int)(k:ASW)(a:ASU)(b1:Int):ATV (Unit⊕Unit):=
 bif decide (b1<1)then
 some (.inl ())
 else
 bif decide (b1>=e)then
 some (.inl ())
 else
 some (.inr ())
theorem ACX i d e j k a b1:AQ iE 1 30 (sb (sb (sb (cd f86 1016) 108) 204) 6) 22 (AAD i d e j k a b1) (P6 i d e j k a b1) (Ayt i d e j k a b1):=by
 unfold AQ;simp only[P6,ASr];kernel_rfl
def Ana i d e j k a:=sT 159 (xG i d e j j) (Ui k a)
def AeC(i:Bool)(d e j:Int)(k:ASW)(a:ASU)(m0:Int):Ex×St:=xN 159 (xG i d e j m0) (Ui k a)
theorem ACW i d e j k a:XJ iE 1 29 (sb (sb (sb (cd f86 1016) 108) 204) 6) (pt 10) (Ana i d e j k a)=some (AeC i d e j k a (bif decide (j>=e)then(wI ((wI (2*e))-j))else j)):=by
 refine .trans (b:=
 bif decide (j>=e)then
 some (AeC i d e j k a (wI ((wI (2*e))-j)))
 else
 some (AeC i d e j k a j)) (by kernel_rfl) ?_
 cases (decide (j>=e));rfl;rfl
def Kh(i:Bool)(d e j:Int)(k:ASW)(a:ASU):ATV ATd:=
 Po (Ana i d e j k a) (
 (P6 i d e j k a (bif decide (j>=e)then(wI ((wI (2*e))-j))else j)).bind (Sum.elim (λc1=>some (i,k)) (λd1=>(UJ d e j a (bif decide (j>=e)then(wI ((wI (2*e))-j))else j) i 0 k).bind λo=>some (o.1,o.2))))
theorem Au7 i d e j k a:AQ iE 1 25 (sb (sb (cd f86 1016) 108) 204) 6 (AsN i d e j k a) (Kh i d e j k a) (AqQ i d e j k a):=by
 unfold AQ;simp(disch:=refine id ?_;kernel_rfl) only[Kh,ASr,Ev (ACW ..) (K:=Uk iE 1 25),Ba (ACX ..) (K:=Uk iE 1 25),UJ,AF (AC0 _ _ _ _ _) (K:=Uk iE 1 25)];kernel_rfl
def K6(d:Int)(a:ASU)(e:Int)(i:Bool)(j:Int)(k:ASW):ATV ((Bool×Int×ASW)⊕ATd):=
 bif decide (j<(wI (2*e)))then
 (Kh i d e j k a).bind λl=>some (.inl (l.1,wI (j+1),l.2))
 else
 some (.inr (i,k))
def Fa d a e (z_:Bool×Int×ASW):=K6 d a e z_.1 z_.2.1 z_.2.2
def Td d a e i j k:=fix (Fa d a e) (i,j,k)
theorem Au8 d a e:A3 iE 1 24 (sb (cd f86 1016) 108) 102 (AsO d a e) (Fa d a e) (AqR d a e):=by
 intro _;simp(disch:=refine id ?_;kernel_rfl) only[Fa,K6,ASr,Ba (Au7 ..) (K:=JG iE 1 24)];kernel_rfl
def K7(a:ASU)(e1:Bool)(d:Int)(g1:ASW):ATV ((Bool×Int×ASW)⊕ATd):=
 bif decide (d<(a.length:Int))then
 if 0<=d/\d<a.length then
 (Td d a ((a.getD d.toNat Au.zero).1.length:Int) e1 1 g1).bind λg=>some (.inl (g.1,wI (d+2),g.2))
 else none
 else
 some (.inr (e1,g1))
def Fb a (z_:Bool×Int×ASW):=K7 a z_.1 z_.2.1 z_.2.2
def Te a e1 d g1:=fix (Fb a) (e1,d,g1)
theorem Au9 a:A3 iE 1 20 (cd f86 1016) 54 (AsP a) (Fb a) (AqS a):=by
 intro _;simp(disch:=refine id ?_;kernel_rfl) only[Fb,K7,ASr,Td,AF (Au8 _ _ _) (K:=JG iE 1 20)];kernel_rfl
def Qs(a:ASU)(i1:Bool)(j1:ASW):ATV (ATd⊕ASW):=
 bif i1 then
 (Te a false 0 j1).bind λc=>some (.inl (c.1,c.2))
 else
 some (.inr j1)
def K8 a (z_:Bool×ASW):=Qs a z_.1 z_.2
def Tf a i1 j1:=fix (K8 a) (i1,j1)
theorem Ava a:A3 iE 1 17 (code f86) 508 (AsQ a) (K8 a) (AqT a):=by
 intro _;simp(disch:=refine id ?_;kernel_rfl) only[K8,Qs,ASr,Te,AF (Au9 _) (K:=JG iE 1 17)];kernel_rfl
def AAC k1 (z_:Int×ASW×ASU):=sT 159 [(2,.AG 0),(7,.AG 1),(9,.AG 2),(10,dI z_.1)] [Ce z_.2.1,Sf k1,WZ z_.2.2]
def Ays(k1:ASZ):=λ(l1:(ASW×ASU))=>xE 0 159 [(2,.AG 0),(9,.AG 1)] (Ui l1.1 l1.2)
def AAB n1 k1 o1 (z_:Int×ASW):=sT 159 (AjD n1 z_.1) [Ce z_.2,Sf k1,WZ o1]
def Ayr n1 k1 o1:=λ(q1:ASW)=>xE 2 159 [(2,.AG 0),(7,.AG 1),(9,.AG 2),(10,dI n1)] [Ce q1,Sf k1,WZ o1]
def AAA n1 s1 t1 k1 o1:=sT 159 (AjD n1 s1) [Ce t1,Sf k1,WZ o1]
def Ayq n1 s1 (t1:ASW) k1 o1:=λ(u1:ASW)=>xN 159 (AjD n1 s1) [Ce u1,Sf k1,WZ o1]
def Ls(n1 s1:Int)(t1:ASW)(k1:ASZ)(o1:ASU):ATV ASW:=
 if 0<=n1/\n1<k1.length then
 if 0<=s1/\s1<(k1.getD n1.toNat ATH.zero).length then
 bif decide (((k1.getD n1.toNat ATH.zero).getD s1.toNat Ag.zero).1>=0)then
 if(0:Int)<=((k1.getD n1.toNat ATH.zero).getD s1.toNat Ag.zero).1/\((k1.getD n1.toNat ATH.zero).getD s1.toNat Ag.zero).1<(t1.length:Int)then
 if(0:Int)<=((k1.getD n1.toNat ATH.zero).getD s1.toNat Ag.zero).2.1/\((k1.getD n1.toNat ATH.zero).getD s1.toNat Ag.zero).2.1<(t1.getD ((k1.getD n1.toNat ATH.zero).getD s1.toNat Ag.zero).1.toNat ATM.zero).length then
 if(0:Int)<=((k1.getD n1.toNat ATH.zero).getD s1.toNat Ag.zero).1/\((k1.getD n1.toNat ATH.zero).getD s1.toNat Ag.zero).1<((t1.set ((k1.getD n1.toNat ATH.zero).getD s1.toNat Ag.zero).1.toNat ((t1.getD ((k1.getD n1.toNat ATH.zero).getD s1.toNat Ag.zero).1.toNat ATM.zero).set ((k1.getD n1.toNat ATH.zero).getD s1.toNat Ag.zero).2.1.toNat true)).length:Int)then
 if(0:Int)<=(wI (((k1.getD n1.toNat ATH.zero).getD s1.toNat Ag.zero).2.1+((k1.getD n1.toNat ATH.zero).getD s1.toNat Ag.zero).2.2.1))/\(wI (((k1.getD n1.toNat ATH.zero).getD s1.toNat Ag.zero).2.1+((k1.getD n1.toNat ATH.zero).getD s1.toNat Ag.zero).2.2.1))<((t1.set ((k1.getD n1.toNat ATH.zero).getD s1.toNat Ag.zero).1.toNat ((t1.getD ((k1.getD n1.toNat ATH.zero).getD s1.toNat Ag.zero).1.toNat ATM.zero).set ((k1.getD n1.toNat ATH.zero).getD s1.toNat Ag.zero).2.1.toNat true)).getD ((k1.getD n1.toNat ATH.zero).getD s1.toNat Ag.zero).1.toNat ATM.zero).length then
 some ((t1.set ((k1.getD n1.toNat ATH.zero).getD s1.toNat Ag.zero).1.toNat ((t1.getD ((k1.getD n1.toNat ATH.zero).getD s1.toNat Ag.zero).1.toNat ATM.zero).set ((k1.getD n1.toNat ATH.zero).getD s1.toNat Ag.zero).2.1.toNat true)).set ((k1.getD n1.toNat ATH.zero).getD s1.toNat Ag.zero).1.toNat (((t1.set ((k1.getD n1.toNat ATH.zero).getD s1.toNat Ag.zero).1.toNat ((t1.getD ((k1.getD n1.toNat ATH.zero).getD s1.toNat Ag.zero).1.toNat ATM.zero).set ((k1.getD n1.toNat ATH.zero).getD s1.toNat Ag.zero).2.1.toNat true)).getD ((k1.getD n1.toNat ATH.zero).getD s1.toNat Ag.zero).1.toNat ATM.zero).set (wI (((k1.getD n1.toNat ATH.zero).getD s1.toNat Ag.zero).2.1+((k1.getD n1.toNat ATH.zero).getD s1.toNat Ag.zero).2.2.1)).toNat true))
 else none
 else none
 else none
 else none
 else
 some t1
 else none
 else none
theorem ACT n1 s1 t1 k1 o1:AQ iE 1 10 (sb (cd f86 500) 196) 6 (AAA n1 s1 t1 k1 o1) (Ls n1 s1 t1 k1 o1) (Ayq n1 s1 t1 k1 o1):=by
 unfold AQ;simp only[Ls,ASr];kernel_rfl
def MF(n1:Int)(k1:ASZ)(o1:ASU)(s1:Int)(t1:ASW):ATV ((Int×ASW)⊕ASW):=
 if 0<=n1/\n1<k1.length then
 bif decide (s1<((k1.getD n1.toNat ATH.zero).length:Int))then
 (Ls n1 s1 t1 k1 o1).bind λu1=>some (.inl (wI (s1+1),u1))
 else
 some (.inr t1)
 else none
def Gf n1 k1 o1 (z_:Int×ASW):=MF n1 k1 o1 z_.1 z_.2
def UH n1 k1 o1 s1 t1:=fix (Gf n1 k1 o1) (s1,t1)
theorem ACU n1 k1 o1:A3 iE 1 9 (cd f86 500) 98 (AAB n1 k1 o1) (Gf n1 k1 o1) (Ayr n1 k1 o1):=by
 intro _;simp(disch:=refine id ?_;kernel_rfl) only[Gf,MF,ASr,Ba (ACT ..) (K:=JG iE 1 9)];kernel_rfl
def MG(k1:ASZ)(n1:Int)(v1:ASW)(o1:ASU):ATV ((Int×ASW×ASU)⊕(ASW×ASU)):=
 bif decide (n1<(k1.length:Int))then
 (UH n1 k1 o1 0 v1).bind λq1=>if 0<=n1/\n1<k1.length then
 (Kq (k1.getD n1.toNat ATH.zero)).bind λw1=>if(o1.length+([(w1.1,w1.2,())]:ASU).length)*48<=140737488355328 then
 some (.inl (wI (n1+1),q1,o1++([(w1.1,w1.2,())]:ASU)))
 else none
 else none
 else
 some (.inr (v1,o1))
def Gg k1 (z_:Int×ASW×ASU):=MG k1 z_.1 z_.2.1 z_.2.2
def UI k1 n1 v1 o1:=fix (Gg k1) (n1,v1,o1)
theorem ACV k1:A3 iE 1 6 (code f86) 250 (AAC k1) (Gg k1) (Ays k1):=by
 intro _;simp(disch:=refine id ?_;kernel_rfl) only[Gg,MG,ASr,UH,AF (ACU _ _ _) (K:=JG iE 1 6)];kernel_rfl
def Vm(x1:ASL)(y1:ASN)(a2:ASW):ATV ATd:=
 (R7 x1 y1).bind λb2=>bif !b2.1 then
 some (false,a2)
 else
 (UI b2.2 0 a2 ([]:ASU)).bind λl1=>(Tf l1.2 true l1.1).bind λb=>some (true,b)
def c86:=Ci [.d ATK,.d ATL,.VA] [⟨[.AB [] ATK,.AB [] ATL,.k HS],[.row 154 .Aw ATM],ATd,λp=>Vm p.1.1 p.1.2.1 p.2.1,λr=>(dB r.1,[Ce r.2])⟩]
theorem Alw:Ao prog 86 c86:=Av (fn:=f86) ⟨⟨iE,pk ⟨Aa2,qU,uB,AfU,trivial⟩,λ_ R K=>by
 simp(disch:=refine id ?_;kernel_rfl) only[Vm,ASs,UI,AF (ACV _) (K:=A0 iE f86 1 R K),Tf,AF (Ava _) (K:=A0 iE f86 1 R K)];kernel_rfl⟩,trivial⟩
abbrev E47:=eN [] {A5:=[(3,{A7:=[0,2,3,4],Cg:=[(3,true,.row [0] 32 ATJ true)]}),(7,{A7:=[0,2,3,4,5,6],Cg:=[(5,false,.row [] 2 ATE true)]})],BB:=[(3,[2,3]),(7,[0,2,3,4,5])],Bw:=[(8,{A7:=[0,2,3,4,5,6],Cg:=[(5,false,.row [] 2 ATE true)]})],Da:=[(8,[0,2,3,4,5,6])]}
def AAJ a (z_:Int×ASV):=sT 43 [(0,Yy a),(2,Aq),(3,A1),(4,dI z_.1)] (Ab6 z_.2)
def Ayz(a:ASW):=λ(b:ASV)=>xE 0 43 [(2,Aq),(3,A1)] (Ab6 b)
def AAI a c d (z_:Int×ASH):=sT 43 (AjE a c z_.1) (Aca z_.2 d)
def Ayy a c d:=λ(e:ASH)=>xE 2 43 [(0,Yy a),(2,Aq),(3,A1),(4,dI c),(5,.AG 2)] (Aca e d)
def AAH a c g i d:=sT 43 (AjE a c g) (Aca i d)
def Ayx a c g (i:ASH) d:=λ(j:ASH)=>xN 43 (AjE a c g) (Aca j d)
def Ny(a:ASW)(c g:Int)(i:ASH)(d:ASV):ATV ASH:=
 if 0<=c/\c<a.length then
 if 0<=g/\g<(a.getD c.toNat ATM.zero).length then
 bif (a.getD c.toNat ATM.zero).getD g.toNat (Ty.zero .bool)then
 if(i.length+([g]:ASH).length)*8<=140737488355328 then
 some (i++([g]:ASH))
 else none
 else
 some i
 else none
 else none
theorem AC1 a c g i d:AQ E47 0 8 (sb (cd f87 116) 404) 6 (AAH a c g i d) (Ny a c g i d) (Ayx a c g i d):=by
 unfold AQ;simp only[Ny,ASr];kernel_rfl
def Ot(a:ASW)(c:Int)(d:ASV)(g:Int)(i:ASH):ATV (AS5⊕ASH):=
 if 0<=c/\c<a.length then
 bif decide ((wI (g+1))<((a.getD c.toNat ATM.zero).length:Int))then
 (Ny a c g i d).bind λj=>some (.inl (wI (g+1),j))
 else
 some (.inr i)
 else none
def Hk a c d (z_:Int×ASH):=Ot a c d z_.1 z_.2
def Wk a c d g i:=fix (Hk a c d) (g,i)
theorem AC2 a c d:A3 E47 0 7 (cd f87 116) 202 (AAI a c d) (Hk a c d) (Ayy a c d):=by
 intro _;simp(disch:=refine id ?_;kernel_rfl) only[Hk,Ot,ASr,Ba (AC1 ..) (K:=JG E47 0 7)];kernel_rfl
def Ou(a:ASW)(c:Int)(d:ASV):ATV ((Int×ASV)⊕ASV):=
 bif decide (c<(a.length:Int))then
 (Wk a c d 1 ([]:ASH)).bind λe=>if(d.length+([e]:ASV).length)*24<=140737488355328 then
 some (.inl (wI (c+1),d++([e]:ASV)))
 else none
 else
 some (.inr d)
def Hl a (z_:Int×ASV):=Ou a z_.1 z_.2
def Wl a c d:=fix (Hl a) (c,d)
theorem AC3 a:A3 E47 0 3 (code f87) 58 (AAJ a) (Hl a) (Ayz a):=by
 intro _;simp(disch:=refine id ?_;kernel_rfl) only[Hl,Ou,ASr,Wk,AF (AC2 _ _ _) (K:=JG E47 0 3)];kernel_rfl
def Ug(a:ASW):ATV ASV:=
 (Wl a 0 ([]:ASV)).bind λb=>some b
def c87:=Ci [.d ATR] [⟨[.AB [] ATR],[],ASV,λp=>Ug p.1.1,λr=>(.pr HS .u,[Dn r])⟩]
theorem Alx:Ao prog 87 c87:=Av (fn:=f87) ⟨⟨E47,pk trivial,λ_ R K=>by
 simp(disch:=refine id ?_;kernel_rfl) only[Ug,ASs,Wl,AF (AC3 _) (K:=A0 E47 f87 0 R K)];kernel_rfl⟩,trivial⟩
end
end Go.Proofs.X
