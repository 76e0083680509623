import Derived.KernelRfl
import Derived.Test.YtniphlhooggimaaGreatK2
set_option linter.unusedVariables false
set_option linter.unusedSimpArgs false
namespace Go.Proofs.X
open Go Go.Va Go.Proofs.Tryz
set_option maxRecDepth 100000
noncomputable section
abbrev E24:=eN [] {}
def CP(a:ASk):Bool:=((a.1==0)&&((a.2.1.length:Int)==0))
theorem U24 R a K:TP E24 f171 R [GK a] [] K=K (dB (CP a)) []:=by
 refine .trans (b:=
 bif a.1==0 then
 K (dB ((a.2.1.length:Int)==0)) []
 else
 K (dB false) []) (by kernel_rfl) ?_
 unfold CP;cases (a.1==0);rfl;rfl
def AE3:=Cc [.d Ah] [⟨[.AA [] Ah],[],Bool,λp=>some (CP p.1.1),λr=>(dB r,[])⟩]
theorem Agn:Am prog 171 AE3:=As ⟨⟨E24,pk trivial,λ_ _ _=>U24 ..⟩,trivial⟩
abbrev E25:=eN [(81,c81)] {}
def A6(a:Int):Bool:=(BM a 4 9)
def AE4:=Cc [.d ATl] [⟨[.AA [] ATl],[],Bool,λp=>some (A6 p.1.1),λr=>(dB r,[])⟩]
theorem Ago:Am prog 172 AE4:=As (fn:=f172) ⟨⟨E25,pk ⟨V1,trivial⟩,λ_ _ _=>by kernel_rfl⟩,trivial⟩
abbrev E26:=eN [] {}
def I7(a:ASk)(b:Int):ATC Int:=
 if 0<=(wI (Int.tdiv b 64))/\(wI (Int.tdiv b 64))<a.2.1.length then
 if(IntKind.u64.wrap (Int.tmod b 64))<(0:Int)then none else
 some (IntKind.u8.wrap (ib .u64 (SG .u64 (a.2.1.getD (wI (Int.tdiv b 64)).toNat ATm.zero) (IntKind.u64.wrap (Int.tmod b 64))) 1))
 else none
def AkF:=Cc [.d Ah,.d ATl] [⟨[.AA [] Ah,.AA [] ATl],[],Int,λp=>I7 p.1.1 p.1.2.1,λr=>(dD ATn r,[])⟩]
theorem jN:Am prog 152 AkF:=As (fn:=f152) ⟨⟨E26,pk trivial,λ_ R K=>by
 simp only[I7,ASc];kernel_rfl⟩,trivial⟩
abbrev E27:=eN [(81,c81),(152,AkF)] {A4:=[(4,[1,3])],BD:=[(4,[2])],BR:=[(2,[1,17])],DR:=[(2,[1])]}
def AzC a (z_:Int):=sT 32 [(1,Au),(3,dI z_)] [.box (GK a)]
def Axv(a:ASk):=Sum.elim (λ(b:Unit)=>xR 32 [(2,dB false)] []) (λ(c:Unit)=>xE 0 32 [] [])
def NP(a:ASk)(d:Int):ATC (Int⊕(Unit⊕Unit)):=
 bif decide (d<(wI (64*(a.2.1.length:Int))))then
 (I7 a d).bind λe=>bif e !=0 then
 some (.inr (.inl ()))
 else
 some (.inl (wI (d+1)))
 else
 some (.inr (.inr ()))
def JV a (z_:Int):=NP a z_
def VB a d:=fix (JV a) d
theorem ABK a:A3 E27 0 4 (code f173) 58 (AzC a) (JV a) (Axv a):=by
 intro _;simp only[JV,NP,ASb];kernel_rfl
def Am4 a:=sT 32 [(1,Au)] [.box (GK a)]
def Aev(a:ASk)(m0:Bool):Ex×St:=xN 32 [(1,Au),(17,dB m0)] [.box (GK a)]
theorem ABJ a:Za E27 0 2 (code f173) (pt 12) (Am4 a)=some (Aev a ((!(BM a.1 1 4096))||((a.2.1.length:Int) !=(wI (Int.tdiv (wI (a.1+63)) 64))))):=by
 refine .trans (b:=
 bif !(BM a.1 1 4096)then
 some (Aev a true)
 else
 some (Aev a ((a.2.1.length:Int) !=(wI (Int.tdiv (wI (a.1+63)) 64))))) (by kernel_rfl) ?_
 cases (!(BM a.1 1 4096));rfl;rfl
def QE(a:ASk):ATC Bool:=
 R3 (Am4 a) (
 bif (!(BM a.1 1 4096))||((a.2.1.length:Int) !=(wI (Int.tdiv (wI (a.1+63)) 64)))then
 some false
 else
 (VB a a.1).bind (Sum.elim (λb=>some false) (λc=>some true)))
def AE5:=Cc [.d Ah] [⟨[.AA [] Ah],[],Bool,λp=>QE p.1.1,λr=>(dB r,[])⟩]
theorem Agp:Am prog 173 AE5:=As (fn:=f173) ⟨⟨E27,pk ⟨V1,jN,trivial⟩,λ_ R K=>by
 simp(disch:=refine id ?_;kernel_rfl) only[QE,ASc,GN (ABJ _) (K:=A2 E27 f173 0 R K),VB,AG (ABK _) (K:=A2 E27 f173 0 R K)];kernel_rfl⟩,trivial⟩
abbrev E28:=eN [(81,c81),(171,AE3),(172,AE4),(173,AE5)] {A4:=[(2,[0,2,4,7])],BD:=[(2,[0,4,6])],BR:=[(7,[0,4,63]),(8,[0,4,6])],DR:=[(7,[0,4]),(8,[0,4])]}
def AzE a b:=sT 109 [(0,Ar a),(4,Au)] (VO b)
def Axx a b:=Sum.elim (λ(c:Unit)=>xR 109 [(0,Ar a),(4,Au),(6,dB false)] (VO b)) (λ(d:Unit)=>xN 109 [(0,Ar a),(4,Au)] (VO b))
def Am5 a b:=sT 109 [(0,Ar a),(4,Au)] (VO b)
def LR(a:ASw)(b:ASj)(m0:Bool):Ex×St:=xN 109 [(0,Ar a),(4,Au),(63,dB m0)] (VO b)
theorem ABM a b:Za E28 0 7 (cd f150 14) (pt 2) (Am5 a b)=some (LR a b (bif b.1 !=1 then((b.2.1 !=0)||(bif b.1 !=2 then((!(CP b.2.2.2.2.1))||(bif b.1 !=4 then((b.2.2.2.1 !=0)||((!(A6 b.1))&&(b.2.2.1 !=0)))else((!(A6 b.1))&&(b.2.2.1 !=0))))else(bif b.1 !=4 then((b.2.2.2.1 !=0)||((!(A6 b.1))&&(b.2.2.1 !=0)))else((!(A6 b.1))&&(b.2.2.1 !=0)))))else(bif b.1 !=2 then((!(CP b.2.2.2.2.1))||(bif b.1 !=4 then((b.2.2.2.1 !=0)||((!(A6 b.1))&&(b.2.2.1 !=0)))else((!(A6 b.1))&&(b.2.2.1 !=0))))else(bif b.1 !=4 then((b.2.2.2.1 !=0)||((!(A6 b.1))&&(b.2.2.1 !=0)))else((!(A6 b.1))&&(b.2.2.1 !=0)))))):=by
 refine .trans (b:=
 bif b.1 !=1 then
 bif b.2.1 !=0 then
 some (LR a b true)
 else
 bif b.1 !=2 then
 bif !(CP b.2.2.2.2.1)then
 some (LR a b true)
 else
 bif b.1 !=4 then
 bif b.2.2.2.1 !=0 then
 some (LR a b true)
 else
 bif !(A6 b.1)then
 some (LR a b (b.2.2.1 !=0))
 else
 some (LR a b false)
 else
 bif !(A6 b.1)then
 some (LR a b (b.2.2.1 !=0))
 else
 some (LR a b false)
 else
 bif b.1 !=4 then
 bif b.2.2.2.1 !=0 then
 some (LR a b true)
 else
 bif !(A6 b.1)then
 some (LR a b (b.2.2.1 !=0))
 else
 some (LR a b false)
 else
 bif !(A6 b.1)then
 some (LR a b (b.2.2.1 !=0))
 else
 some (LR a b false)
 else
 bif b.1 !=2 then
 bif !(CP b.2.2.2.2.1)then
 some (LR a b true)
 else
 bif b.1 !=4 then
 bif b.2.2.2.1 !=0 then
 some (LR a b true)
 else
 bif !(A6 b.1)then
 some (LR a b (b.2.2.1 !=0))
 else
 some (LR a b false)
 else
 bif !(A6 b.1)then
 some (LR a b (b.2.2.1 !=0))
 else
 some (LR a b false)
 else
 bif b.1 !=4 then
 bif b.2.2.2.1 !=0 then
 some (LR a b true)
 else
 bif !(A6 b.1)then
 some (LR a b (b.2.2.1 !=0))
 else
 some (LR a b false)
 else
 bif !(A6 b.1)then
 some (LR a b (b.2.2.1 !=0))
 else
 some (LR a b false)) (by kernel_rfl) ?_
 cases (b.1 !=1);cases (b.1 !=2);cases (b.1 !=4);cases (!(A6 b.1));rfl;rfl;cases (b.2.2.2.1 !=0);cases (!(A6 b.1));rfl;rfl;rfl;cases (!(CP b.2.2.2.2.1));cases (b.1 !=4);cases (!(A6 b.1));rfl;rfl;cases (b.2.2.2.1 !=0);cases (!(A6 b.1));rfl;rfl;rfl;rfl;cases (b.2.1 !=0);cases (b.1 !=2);cases (b.1 !=4);cases (!(A6 b.1));rfl;rfl;cases (b.2.2.2.1 !=0);cases (!(A6 b.1));rfl;rfl;rfl;cases (!(CP b.2.2.2.2.1));cases (b.1 !=4);cases (!(A6 b.1));rfl;rfl;cases (b.2.2.2.1 !=0);cases (!(A6 b.1));rfl;rfl;rfl;rfl;rfl
def Rz(a:ASw)(b:ASj):ATC (Unit⊕Unit):=
 R3 (Am5 a b) (
 bif bif (b.1 !=1)then((b.2.1 !=0)||(bif (b.1 !=2)then((!(CP b.2.2.2.2.1))||(bif (b.1 !=4)then((b.2.2.2.1 !=0)||((!(A6 b.1))&&(b.2.2.1 !=0)))else((!(A6 b.1))&&(b.2.2.1 !=0))))else(bif (b.1 !=4)then((b.2.2.2.1 !=0)||((!(A6 b.1))&&(b.2.2.1 !=0)))else((!(A6 b.1))&&(b.2.2.1 !=0)))))else(bif (b.1 !=2)then((!(CP b.2.2.2.2.1))||(bif (b.1 !=4)then((b.2.2.2.1 !=0)||((!(A6 b.1))&&(b.2.2.1 !=0)))else((!(A6 b.1))&&(b.2.2.1 !=0))))else(bif (b.1 !=4)then((b.2.2.2.1 !=0)||((!(A6 b.1))&&(b.2.2.1 !=0)))else((!(A6 b.1))&&(b.2.2.1 !=0))))then
 some (.inl ())
 else
 some (.inr ()))
theorem ABN a b:AP E28 0 8 (code f150) 14 (AzE a b) (Rz a b) (Axx a b):=by
 unfold AP;simp(disch:=refine id ?_;kernel_rfl) only[Rz,ASb,GN (ABM ..) (K:=Ud E28 0 8)];kernel_rfl
def AzD a e b (z_:Int):=sT 109 [(0,Ar a),(2,dI e),(4,Au),(7,dI z_)] (VO b)
def Axw a (e:Int) b:=Sum.elim (λ(g:Unit)=>xR 109 [(0,Ar a),(4,Au),(6,dB false)] (VO b)) (λ(i:Unit)=>xE 0 109 [(0,Ar a),(4,Au)] (VO b))
def N3(a:ASw)(e:Int)(b:ASj)(j:Int):ATC (Int⊕(Unit⊕Unit)):=
 bif decide (j<(b.2.2.2.2.2.1.length:Int))then
 if 0<=j/\j<b.2.2.2.2.2.1.length then
 bif !(BM (b.2.2.2.2.2.1.getD j.toNat ATl.zero) 0 (wI (e-1)))then
 some (.inr (.inl ()))
 else
 some (.inl (wI (j+1)))
 else none
 else
 some (.inr (.inr ()))
def J7 a e b (z_:Int):=N3 a e b z_
def VD a e b j:=fix (J7 a e b) j
theorem ABL a e b:A3 E28 0 2 (code f150) 26 (AzD a e b) (J7 a e b) (Axw a e b):=by
 intro _;simp only[J7,N3,ASb];kernel_rfl
def QH(a:ASw)(b:ASj)(e:Int):ATC Bool:=
 (VD a e b 0).bind (Sum.elim (λg=>some false) (λi=>(Rz a b).bind (Sum.elim (λc=>some false) (λd=>bif b.1==1 then
 bif (b.2.2.2.2.2.1.length:Int)==0 then
 some (BM b.2.1 0 (wI ((a.length:Int)-1)))
 else
 some false
 else
 bif b.1==2 then
 bif (b.2.2.2.2.2.1.length:Int)==0 then
 (QE b.2.2.2.2.1).bind λk=>some k
 else
 some false
 else
 bif b.1==3 then
 some (decide ((b.2.2.2.2.2.1.length:Int)>=2))
 else
 bif A6 b.1 then
 some ((b.2.2.2.2.2.1.length:Int)==1)
 else
 some false))))
def AEN:=Cc [.d ATr,.d Ag,.d ATl] [⟨[.AA [] ATr,.AA [] Ag,.AA [] ATl],[],Bool,λp=>QH p.1.1 p.1.2.1 p.1.2.2.1,λr=>(dB r,[])⟩]
theorem Af7:Am prog 150 AEN:=As (fn:=f150) ⟨⟨E28,pk ⟨V1,Agn,Ago,Agp,trivial⟩,λ_ R K=>by
 simp(disch:=refine id ?_;kernel_rfl) only[QH,ASc,VD,AG (ABL _ _ _) (K:=A2 E28 f150 0 R K),A8 (ABN ..) (K:=A2 E28 f150 0 R K)];kernel_rfl⟩,trivial⟩
abbrev E29:=eN [(81,c81)] {A4:=[(3,[0,2,4,7,8])],BD:=[(3,[0,4,7])],BR:=[(13,[4,59]),(17,[4,7,28,66]),(22,[4,7,28,77]),(28,[6,7])],DR:=[(13,[4,7]),(17,[4,7,28]),(22,[4,7,28]),(28,[0,4,7])]}
def AzG a b c:=sT 95 [(0,Ar a),(4,Au),(7,dI b)] (VO c)
def Axz(a:ASw) b (c:ASj):=Sum.elim (λ(d:Int)=>xR 95 [(6,dI d),(7,dI b)] []) (Sum.elim (λ(e:Int)=>xR 95 [(6,dI e)] []) (λ(g:Unit)=>xN 95 [(7,dI b)] []))
def Am8 b (c:ASj):=sT 95 [(4,Au),(7,dI b),(28,dI c.1)] (VO c)
def Aex(b:Int)(c:ASj)(m0:Bool):Ex×St:=xN 95 [(4,Au),(7,dI b),(28,dI c.1),(77,dB m0)] (VO c)
theorem ABR b c:Za E29 0 22 (cd f151 30) (pt 3582) (Am8 b c)=some (Aex b c (bif c.1==7 then(c.1==7)else(c.1==8))):=by
 refine .trans (b:=
 bif c.1==7 then
 some (Aex b c (c.1==7))
 else
 some (Aex b c (c.1==8))) (by kernel_rfl) ?_
 cases (c.1==7);rfl;rfl
def Am7 b (c:ASj):=sT 95 [(4,Au),(7,dI b),(28,dI c.1)] (VO c)
def Aew(b:Int)(c:ASj)(m0:Bool):Ex×St:=xN 95 [(4,Au),(7,dI b),(28,dI c.1),(66,dB m0)] (VO c)
theorem ABQ b c:Za E29 0 17 (cd f151 30) (pt 894) (Am7 b c)=some (Aew b c (bif c.1==5 then(c.1==5)else(c.1==6))):=by
 refine .trans (b:=
 bif c.1==5 then
 some (Aew b c (c.1==5))
 else
 some (Aew b c (c.1==6))) (by kernel_rfl) ?_
 cases (c.1==5);rfl;rfl
def Am6 b c:=sT 95 [(4,Au),(7,dI b)] (VO c)
def Aad(c:ASj)(m0:Bool):Ex×St:=xN 95 [(4,Au),(59,dB m0)] (VO c)
theorem ABP b c:Za E29 0 13 (cd f151 30) (pt 1784) (Am6 b c)=some (Aad c ((decide (c.2.2.2.1<0))||((decide (c.2.2.1<c.2.2.2.1))||(decide (c.2.2.1>=b))))):=by
 refine .trans (b:=
 bif decide (c.2.2.2.1<0)then
 some (Aad c true)
 else
 bif decide (c.2.2.1<c.2.2.2.1)then
 some (Aad c true)
 else
 some (Aad c (decide (c.2.2.1>=b)))) (by kernel_rfl) ?_
 cases (decide (c.2.2.2.1<0));cases (decide (c.2.2.1<c.2.2.2.1));rfl;rfl;rfl
def RA(a:ASw)(b:Int)(c:ASj):ATC (Int⊕(Int⊕Unit)):=
 bif c.1==1 then
 if(0:Int)<=c.2.1/\c.2.1<(a.length:Int)then
 some (.inl (a.getD c.2.1.toNat Ab.zero).2.1)
 else none
 else
 bif c.1==2 then
 some (.inl c.2.2.2.2.1.1)
 else
 bif c.1==4 then
 R3 (Am6 b c) (
 bif (decide (c.2.2.2.1<0))||((decide (c.2.2.1<c.2.2.2.1))||(decide (c.2.2.1>=b)))then
 some (.inr (.inl (-1)))
 else
 some (.inr (.inl (wI ((wI (c.2.2.1-c.2.2.2.1))+1)))))
 else
 R3 (Am7 b c) (
 bif bif (c.1==5)then(c.1==5)else(c.1==6)then
 bif !(BM c.2.2.1 0 4096)then
 some (.inl (-1))
 else
 some (.inl (wI (b+c.2.2.1)))
 else
 R3 (Am8 b c) (
 bif bif (c.1==7)then(c.1==7)else(c.1==8)then
 bif !(BM c.2.2.1 0 4096)then
 some (.inl (-1))
 else
 some (.inr (.inr ()))
 else
 bif c.1==9 then
 bif !(BM c.2.2.1 1 4096)then
 some (.inl (-1))
 else
 some (.inl (wI (b*c.2.2.1)))
 else
 some (.inr (.inr ()))))
theorem ABS a b c:AP E29 0 28 (code f151) 30 (AzG a b c) (RA a b c) (Axz a b c):=by
 unfold AP;simp(disch:=refine id ?_;kernel_rfl) only[RA,ASb,GN (ABP ..) (K:=Ud E29 0 28),GN (ABQ ..) (K:=Ud E29 0 28),GN (ABR ..) (K:=Ud E29 0 28)];kernel_rfl
def AzF a i c (z_:Int×Int):=sT 95 [(0,Ar a),(2,DT i),(4,Au),(7,dI z_.1),(8,dI z_.2)] (VO c)
def Axy a (i:ASs) c:=λ(b:Int)=>xE 0 95 [(0,Ar a),(4,Au),(7,dI b)] (VO c)
def Xo(a:ASw)(i:ASs)(c:ASj)(j k:Int):ATC (ASR⊕Int):=
 bif decide (k<(c.2.2.2.2.2.1.length:Int))then
 if 0<=k/\k<c.2.2.2.2.2.1.length then
 if(0:Int)<=(c.2.2.2.2.2.1.getD k.toNat ATl.zero)/\(c.2.2.2.2.2.1.getD k.toNat ATl.zero)<(i.length:Int)then
 some (.inl ((if(wI (j+(i.getD (c.2.2.2.2.2.1.getD k.toNat ATl.zero).toNat ATl.zero)))<8192 then(wI (j+(i.getD (c.2.2.2.2.2.1.getD k.toNat ATl.zero).toNat ATl.zero)))else 8192),wI (k+1)))
 else none
 else none
 else
 some (.inr j)
def N4 a i c (z_:Int×Int):=Xo a i c z_.1 z_.2
def Zo a i c j k:=fix (N4 a i c) (j,k)
theorem ABO a i c:A3 E29 0 3 (code f151) 58 (AzF a i c) (N4 a i c) (Axy a i c):=by
 intro _;simp only[N4,Xo,ASb];kernel_rfl
def TW(a:ASw)(c:ASj)(i:ASs):ATC Int:=
 (Zo a i c 0 0).bind λb=>(RA a b c).bind (Sum.elim (λd=>some d) (Sum.elim (λe=>some e) (λg=>some b)))
def AEO:=Cc [.d ATr,.d Ag,.d ATo] [⟨[.AA [] ATr,.AA [] Ag,.AA [] ATo],[],Int,λp=>TW p.1.1 p.1.2.1 p.1.2.2.1,λr=>(dI r,[])⟩]
theorem Af8:Am prog 151 AEO:=As (fn:=f151) ⟨⟨E29,pk ⟨V1,trivial⟩,λ_ R K=>by
 simp(disch:=refine id ?_;kernel_rfl) only[TW,ASc,Zo,AG (ABO _ _ _) (K:=A2 E29 f151 0 R K),A8 (ABS ..) (K:=A2 E29 f151 0 R K)];kernel_rfl⟩,trivial⟩
abbrev E30:=eN [(79,c79),(81,c81),(150,AEN),(151,AEO)] {A4:=[(7,{Bc:=[0,3,5,6,7,8],Ce:=[(6,false,.row [] 2 ATl true)]}),(16,[0,3,5,6,7,8,10]),(20,[5,6,7,11])],BD:=[(7,{Bc:=[4,5,6,7],Sp:=[(7,false,ATs)]}),(16,[0,3,5,6,7,8]),(20,[4,6])],BR:=[(3,[0,3,5,27])],DR:=[(3,[0,3,5])],jc:=[(0,.row [] 2 ATl true)]}
def AzK a b (z_:Int):=sT 103 [(5,.zs),(6,.AH 0),(7,Z4 a),(11,dI z_)] [Az b]
def AxD(a:ASt) b:=Sum.elim (λ(c:Unit)=>xR 103 [(4,.zs),(6,.AH 0)] [Az b]) (λ(d:Unit)=>xE 4 103 xn [Az b])
def K2(a:ASt)(b:ASs)(e:Int):ATC (Int⊕(Unit⊕Unit)):=
 bif decide ((wI (e+1))<(a.length:Int))then
 if 0<=e/\e<a.length then
 bif !(a.getD e.toNat (Ty.zero .bool))then
 some (.inr (.inl ()))
 else
 some (.inl (wI (e+1)))
 else none
 else
 some (.inr (.inr ()))
def HD a b (z_:Int):=K2 a b z_
def SR a b e:=fix (HD a b) e
theorem ABW a b:A3 E30 0 20 (code f116) 1018 (AzK a b) (HD a b) (AxD a b):=by
 intro _;simp only[HD,K2,ASb];kernel_rfl
def AzJ g i (z_:Int×ASs×ASt):=sT 103 [(0,Ar g),(3,Au),(5,.zs),(6,.AH 1),(7,.AH 2),(8,dI z_.1)] (sX i z_.2.1 z_.2.2)
def AxC(g:ASw)(i:ASq):=Sum.elim (λ(j:AST)=>xR 103 [(4,.zs),(5,.zs),(6,.AH 0),(7,Z4 j.1)] [Az j.2]) (λ(k:AST)=>xE 0 103 [(5,.zs),(6,.AH 0),(7,Z4 k.1)] [Az k.2])
def AzI g l i n (z_:Int×ASt):=sT 103 [(0,Ar g),(3,Au),(5,.zs),(6,.AH 1),(7,.AH 2),(8,dI l),(10,dI z_.1)] (sX i n z_.2)
def AxB g l i n:=λ(o:ASt)=>xE 2 103 [(0,Ar g),(3,Au),(5,.zs),(6,.AH 1),(7,.AH 2),(8,dI l)] (sX i n o)
def K0(g:ASw)(l:Int)(i:ASq)(n:ASs)(q:Int)(s:ASt):ATC ((Int×ASt)⊕ASt):=
 if 0<=l/\l<i.1.length then
 bif decide (q<((i.1.getD l.toNat Ag.zero).2.2.2.2.2.1.length:Int))then
 if 0<=l/\l<i.1.length then
 if 0<=q/\q<(i.1.getD l.toNat Ag.zero).2.2.2.2.2.1.length then
 if(0:Int)<=((i.1.getD l.toNat Ag.zero).2.2.2.2.2.1.getD q.toNat ATl.zero)/\((i.1.getD l.toNat Ag.zero).2.2.2.2.2.1.getD q.toNat ATl.zero)<(s.length:Int)then
 some (.inl (wI (q+1),s.set ((i.1.getD l.toNat Ag.zero).2.2.2.2.2.1.getD q.toNat ATl.zero).toNat true))
 else none
 else none
 else none
 else
 some (.inr s)
 else none
def HB g l i n (z_:Int×ASt):=K0 g l i n z_.1 z_.2
def SQ g l i n q s:=fix (HB g l i n) (q,s)
theorem ABU g l i n:A3 E30 0 16 (cd f116 1012) 830 (AzI g l i n) (HB g l i n) (AxB g l i n):=by
 intro _;simp only[HB,K0,ASb];kernel_rfl
def K1(g:ASw)(i:ASq)(l:Int)(t:ASs)(u:ASt):ATC ((Int×ASs×ASt)⊕(AST⊕AST)):=
 bif decide (l<(i.1.length:Int))then
 if 0<=l/\l<i.1.length then
 (QH g (i.1.getD l.toNat Ag.zero) l).bind λv=>bif !v then
 some (.inr (.inl (u,t)))
 else
 if 0<=l/\l<i.1.length then
 (TW g (i.1.getD l.toNat Ag.zero) t).bind λw=>bif !(BM w 1 4096)then
 some (.inr (.inl (u,t)))
 else
 if(t.length+([w]:ASs).length)*8<=140737488355328 then
 (SQ g l i (t++([w]:ASs)) 0 u).bind λo=>some (.inl (wI (l+1),t++([w]:ASs),o))
 else none
 else none
 else none
 else
 some (.inr (.inr (u,t)))
def HC g i (z_:Int×ASs×ASt):=K1 g i z_.1 z_.2.1 z_.2.2
def N5 g i l t u:=fix (HC g i) (l,t,u)
theorem ABV g i:A3 E30 0 7 (code f116) 506 (AzJ g i) (HC g i) (AxC g i):=by
 intro _;simp(disch:=refine id ?_;kernel_rfl) only[HC,K1,ASb,SQ,AG (ABU _ _ _ _) (K:=Kk E30 0 7)];kernel_rfl
def AzH g i:=sT 103 [(0,Ar g),(3,Au),(5,.zs)] [.box (Qr i)]
def AxA g i:=λ(x:Bool)=>xN 103 [(0,Ar g),(3,Au),(5,.zs),(27,dB x)] [.box (Qr i)]
def J8(g:ASw)(i:ASq):ATC Bool:=
 (KU g).bind λy=>bif !y then
 some true
 else
 bif decide ((i.1.length:Int)<1)then
 some true
 else
 some (decide ((i.1.length:Int)>400))
theorem ABT g i:AP E30 0 3 (code f116) 28 (AzH g i) (J8 g i) (AxA g i):=by
 unfold AP;simp only[J8,ASb];kernel_rfl
def Po(g:ASw)(i:ASq):ATC ASs:=
 (J8 g i).bind λx=>bif x then
 some ([]:ASs)
 else
 if Ty.row .bool=true/\(0:Int)<=(i.1.length:Int)/\(i.1.length:Int)<=(i.1.length:Int)/\((1:Nat):Int)*(i.1.length:Int)<=(281474976710656:Int)/\(i.1.length:Int)<=(9223372036854775807:Int)then
 (N5 g i 0 ([]:ASs) (List.replicate (i.1.length:Int).toNat false)).bind (Sum.elim (λj=>some ([]:ASs)) (λk=>(SR k.1 k.2 0).bind (Sum.elim (λc=>some ([]:ASs)) (λd=>some k.2))))
 else none
def AEn:=Cc [.d ATr,.d Aw] [⟨[.AA [] ATr,.AA [] Aw],[],ASs,λp=>Po p.1.1 p.1.2.1,λr=>(.AH 0,[Az r])⟩]
theorem AfG:Am prog 116 AEn:=As (fn:=f116) ⟨⟨E30,pk ⟨qC,V1,Af7,Af8,trivial⟩,λ_ R K=>by
 simp(disch:=refine id ?_;kernel_rfl) only[Po,ASc,A8 (ABT ..) (K:=A2 E30 f116 0 R K),N5,AG (ABV _ _) (K:=A2 E30 f116 0 R K),SR,AG (ABW _ _) (K:=A2 E30 f116 0 R K)];kernel_rfl⟩,trivial⟩
abbrev E31:=eN [(116,AEn)] {}
def GH(a:ASw)(b:ASq):ATC Int:=
 (Po a b).bind λc=>bif (c.length:Int)==0 then
 some (-1)
 else
 if 0<=(wI ((c.length:Int)-1))/\(wI ((c.length:Int)-1))<c.length then
 some (c.getD (wI ((c.length:Int)-1)).toNat ATl.zero)
 else none
def c80:=Cc [.d ATr,.d Aw] [⟨[.AA [] ATr,.AA [] Aw],[],Int,λp=>GH p.1.1 p.1.2.1,λr=>(dI r,[])⟩]
theorem AaE:Am prog 80 c80:=As (fn:=f80) ⟨⟨E31,pk ⟨AfG,trivial⟩,λ_ R K=>by
 simp only[GH,ASc];kernel_rfl⟩,trivial⟩
abbrev E32:=eN [(79,c79),(80,c80),(81,c81)] {A4:=[(4,[0,1,5])],BD:=[(4,[4])],BR:=[(2,[0,1,14]),(8,[0,1,5,67])],DR:=[(2,[0,1]),(8,[0,1,5,6])]}
def AzN a b (z_:Int):=sT 68 [(0,Ar a),(1,Bw b),(5,dI z_)] []
def AxG(a:ASw)(b:ASy):=Sum.elim (λ(c:Unit)=>xR 68 fW []) (λ(d:Unit)=>xE 0 68 [] [])
def AzM a b e g:=sT 68 [(0,Ar a),(1,Bw b),(5,dI e),(6,dI g)] []
def AxF a b e (g:Int):=λ(i:Bool)=>xN 68 [(0,Ar a),(1,Bw b),(5,dI e),(67,dB i)] []
def Hz(a:ASw)(b:ASy)(e g:Int):ATC Bool:=
 if 0<=e/\e<b.length then
 bif !(BM (b.getD e.toNat Ae.zero).1 1 1000000)then
 some true
 else
 bif decide (e>0)then
 if 0<=e/\e<b.length then
 if 0<=(wI (e-1))/\(wI (e-1))<b.length then
 bif decide ((b.getD e.toNat Ae.zero).1<=(b.getD (wI (e-1)).toNat Ae.zero).1)then
 some true
 else
 bif decide (g<0)then
 some true
 else
 if 0<=e/\e<b.length then
 (GH a (b.getD e.toNat Ae.zero).2.2.2.1).bind λj=>some (j !=g)
 else none
 else none
 else none
 else
 bif decide (g<0)then
 some true
 else
 if 0<=e/\e<b.length then
 (GH a (b.getD e.toNat Ae.zero).2.2.2.1).bind λk=>some (k !=g)
 else none
 else none
theorem ABY a b e g:AP E32 0 8 (cd f54 116) 50 (AzM a b e g) (Hz a b e g) (AxF a b e g):=by
 unfold AP;simp only[Hz,ASb];kernel_rfl
def IW(a:ASw)(b:ASy)(e:Int):ATC (Int⊕(Unit⊕Unit)):=
 bif decide (e<(b.length:Int))then
 if 0<=e/\e<b.length then
 (GH a (b.getD e.toNat Ae.zero).2.2.1).bind λg=>(Hz a b e g).bind λi=>bif i then
 some (.inr (.inl ()))
 else
 some (.inl (wI (e+1)))
 else none
 else
 some (.inr (.inr ()))
def Ft a b (z_:Int):=IW a b z_
def Ql a b e:=fix (Ft a b) e
theorem ABZ a b:A3 E32 0 4 (code f54) 58 (AzN a b) (Ft a b) (AxG a b):=by
 intro _;simp(disch:=refine id ?_;kernel_rfl) only[Ft,IW,ASb,A8 (ABY ..) (K:=Kk E32 0 4)];kernel_rfl
def AzL a b:=sT 68 [(0,Ar a),(1,Bw b)] []
def AxE a b:=λ(l:Bool)=>xN 68 [(0,Ar a),(1,Bw b),(14,dB l)] []
def Hy(a:ASw)(b:ASy):ATC Bool:=
 (KU a).bind λn=>bif !n then
 some true
 else
 some (decide ((b.length:Int)>60))
theorem ABX a b:AP E32 0 2 (code f54) 12 (AzL a b) (Hy a b) (AxE a b):=by
 unfold AP;simp only[Hy,ASb];kernel_rfl
def Es(a:ASw)(b:ASy):ATC Bool:=
 (Hy a b).bind λl=>bif l then
 some false
 else
 (Ql a b 0).bind (Sum.elim (λc=>some false) (λd=>some true))
def c54:=Cc [.d ATr,.d ATt] [⟨[.AA [] ATr,.AA [] ATt],[],Bool,λp=>Es p.1.1 p.1.2.1,λr=>(dB r,[])⟩]
theorem iI:Am prog 54 c54:=As (fn:=f54) ⟨⟨E32,pk ⟨qC,AaE,V1,trivial⟩,λ_ R K=>by
 simp(disch:=refine id ?_;kernel_rfl) only[Es,ASc,A8 (ABX ..) (K:=A2 E32 f54 0 R K),Ql,AG (ABZ _ _) (K:=A2 E32 f54 0 R K)];kernel_rfl⟩,trivial⟩
abbrev js:=eN [(152,AkF)] {A4:=[(5,{Bc:=[0,4,7,8],Ce:=[(7,false,.row [] 209 Aa true)]}),(10,{Bc:=[4,7,9],Ce:=[(7,false,.row [] 209 Aa true)]}),(15,{Bc:=[2,7,10],Ce:=[(7,false,.row [] 209 Aa true)]}),(27,[4,7,11,12]),(40,{Bc:=[2,4,7,15],Ce:=[(7,false,.row [] 209 Aa true)]})],BD:=[(5,[7]),(10,[7]),(15,[7]),(27,[7]),(40,[7])],BR:=[(22,[2,4,7,18,84]),(25,[2,4,7,11]),(32,[2,4,7,18,116]),(36,[2,7,13,14]),(43,{Bc:=[7],Ce:=[(7,false,.row [] 209 Aa true)]})],DR:=[(22,[2,4,7,18]),(25,[2,4,7,11]),(32,[2,4,7,18]),(36,[2,4,7,13,14]),(43,[0,2,4,7])]}
def Asx a b c:=sT 167 [(0,Ar a),(2,RR b),(4,Au),(7,.zs)] (VO c)
def AqG(a:ASw)(b:ASI)(c:ASj):=λ(d:ASv)=>xN 167 nM [EY d]
def Asw b c (z_:Int×ASv):=sT 167 [(2,RR b),(4,Au),(7,.AH 1),(15,dI z_.1)] [.box (WN c),EY z_.2]
def AqF(b:ASI)(c:ASj):=λ(e:ASv)=>xE 9 167 nM [EY e]
def Mt(b:ASI)(c:ASj)(g:Int)(i:ASv):ATC (AS8⊕ASv):=
 bif decide (g<c.2.2.1)then
 if(0:Int)<=(0:Int)/\(0:Int)<(b.length:Int)then
 if(i.length+(b.getD 0 ATp.zero).length)*16<=140737488355328 then
 some (.inl (wI (g+1),i++(b.getD 0 ATp.zero)))
 else none
 else none
 else
 some (.inr i)
def FU b c (z_:Int×ASv):=Mt b c z_.1 z_.2
def PW b c g i:=fix (FU b c) (g,i)
theorem AuG b c:A3 js 0 40 (cd f117 14) 458746 (Asw b c) (FU b c) (AqF b c):=by
 intro _;simp only[FU,Mt,ASb];kernel_rfl
def Asv b c j k:=sT 167 [(2,RR b),(4,Au),(7,.zs),(13,dI j),(14,dI k)] (VO c)
def AqE b (c:ASj) j (k:Int):=λ(l:Int)=>xN 167 [(2,RR b),(7,.zs),(13,dI j),(14,dI l)] []
def Lm(b:ASI)(c:ASj)(j k:Int):ATC Int:=
 bif c.1==8 then
 if j=(0:Int)then none else
 some (Int.tmod (wI (j-k)) j)
 else
 some k
theorem AuF b c j k:AP js 0 36 (cd f117 14) 229366 (Asv b c j k) (Lm b c j k) (AqE b c j k):=by
 unfold AP;simp only[Lm,ASb];kernel_rfl
def Ae6 b (c:ASj):=sT 167 [(2,RR b),(4,Au),(7,.zs),(18,dI c.1)] (VO c)
def yl(b:ASI)(c:ASj)(m0:Bool):Ex×St:=xN 167 [(2,RR b),(4,Au),(7,.zs),(18,dI c.1),(116,dB m0)] (VO c)
theorem AuE b c:Za js 0 32 (cd f117 14) (pt 14334) (Ae6 b c)=some (yl b c (bif c.1==7 then(c.1==7)else(c.1==8))):=by
 refine .trans (b:=
 bif c.1==7 then
 some (yl b c (c.1==7))
 else
 some (yl b c (c.1==8))) (by kernel_rfl) ?_
 cases (c.1==7);rfl;rfl
def Asu c (z_:Int×ASv):=sT 167 [(4,Au),(7,.AH 1),(11,Lb),(12,dI z_.1)] [.box (WN c),EY z_.2,.box (.pr (dI (-1)) (.pr (dI 0) .u))]
def AqD(c:ASj):=λ(n:ASv)=>xE 7 167 nM [EY n]
def Ms(c:ASj)(o:Int)(q:ASv):ATC (AS8⊕ASv):=
 bif decide (o<c.2.2.1)then
 if(q.length+([(-1,0,())]:ASv).length)*16<=140737488355328 then
 some (.inl (wI (o+1),q++([(-1,0,())]:ASv)))
 else none
 else
 some (.inr q)
def FT c (z_:Int×ASv):=Ms c z_.1 z_.2
def PV c o q:=fix (FT c) (o,q)
theorem AuD c:A3 js 0 27 (cd f117 14) 229342 (Asu c) (FT c) (AqD c):=by
 intro _;simp only[FT,Ms,ASb];kernel_rfl
def Ast c s (z_:Int×ASv):=sT 167 [(4,Au),(7,.AH 1),(11,Lb),(12,dI z_.1)] [.box (WN c),EY z_.2,.box (dD Aa s)]
def AqC(c:ASj)(s:ASe):=λ(t:ASv)=>xE 7 167 nM [EY t]
def Mr(c:ASj)(s:ASe)(u:Int)(v:ASv):ATC (AS8⊕ASv):=
 bif decide (u<c.2.2.1)then
 if(v.length+([s]:ASv).length)*16<=140737488355328 then
 some (.inl (wI (u+1),v++([s]:ASv)))
 else none
 else
 some (.inr v)
def FR c s (z_:Int×ASv):=Mr c s z_.1 z_.2
def PU c s u v:=fix (FR c s) (u,v)
theorem AuC c s:A3 js 0 27 (cd f117 14) 229342 (Ast c s) (FR c s) (AqC c s):=by
 intro _;simp only[FR,Mr,ASb];kernel_rfl
def Ass b c:=sT 167 (AwB b) [.box (WN c),.box (.pr (dI (-1)) (.pr (dI 0) .u))]
def AqB b c:=Sum.elim (λ(w:Unit)=>xN 167 (AwB b) [.box (WN c),.box (dD Aa ((b.getD 0 ATp.zero).getD (wI (((b.getD 0 ATp.zero).length:Int)-1)).toNat Aa.zero))]) (λ(x:Unit)=>xN 167 (AwB b) [.box (WN c),.box (.pr (dI (-1)) (.pr (dI 0) .u))])
def F9(b:ASI)(c:ASj):ATC (Unit⊕Unit):=
 bif c.1==6 then
 if(0:Int)<=(0:Int)/\(0:Int)<(b.length:Int)then
 if(0:Int)<=(0:Int)/\(0:Int)<(b.length:Int)then
 if 0<=(wI (((b.getD 0 ATp.zero).length:Int)-1))/\(wI (((b.getD 0 ATp.zero).length:Int)-1))<(b.getD 0 ATp.zero).length then
 some (.inl ())
 else none
 else none
 else none
 else
 some (.inr ())
theorem AuB b c:AP js 0 25 (cd f117 14) 28666 (Ass b c) (F9 b c) (AqB b c):=by
 unfold AP;simp only[F9,ASb];kernel_rfl
def Ae5 b (c:ASj):=sT 167 [(2,RR b),(4,Au),(7,.zs),(18,dI c.1)] (VO c)
def yk(b:ASI)(c:ASj)(m0:Bool):Ex×St:=xN 167 [(2,RR b),(4,Au),(7,.zs),(18,dI c.1),(84,dB m0)] (VO c)
theorem AuA b c:Za js 0 22 (cd f117 14) (pt 3582) (Ae5 b c)=some (yk b c (bif c.1==5 then(c.1==5)else(c.1==6))):=by
 refine .trans (b:=
 bif c.1==5 then
 some (yk b c (c.1==5))
 else
 some (yk b c (c.1==6))) (by kernel_rfl) ?_
 cases (c.1==5);rfl;rfl
def Asr b (z_:Int×ASv):=sT 167 [(2,RR b),(7,.AH 0),(10,dI z_.1)] [EY z_.2]
def AqA(b:ASI):=λ(y:ASv)=>xE 5 167 nM [EY y]
def Mq(b:ASI)(a1:Int)(b1:ASv):ATC (AS8⊕ASv):=
 bif decide (a1>=0)then
 if 0<=a1/\a1<b.length then
 if(b1.length+(b.getD a1.toNat ATp.zero).length)*16<=140737488355328 then
 some (.inl (wI (a1-1),b1++(b.getD a1.toNat ATp.zero)))
 else none
 else none
 else
 some (.inr b1)
def FQ b (z_:Int×ASv):=Mq b z_.1 z_.2
def Uk b a1 b1:=fix (FQ b) (a1,b1)
theorem Auz b:A3 js 0 15 (cd f117 14) 1786 (Asr b) (FQ b) (AqA b):=by
 intro _;simp only[FQ,Mq,ASb];kernel_rfl
def Asq c (z_:Int×ASv):=sT 167 [(4,Au),(7,.AH 1),(9,dI z_.1)] [.box (WN c),EY z_.2]
def Aqz(c:ASj):=λ(c1:ASv)=>xE 3 167 nM [EY c1]
def Mp(c:ASj)(d1:Int)(e1:ASv):ATC (AS8⊕ASv):=
 bif decide (d1<c.2.2.2.2.1.1)then
 (I7 c.2.2.2.2.1 d1).bind λg1=>if(e1.length+([(-1,wI g1,())]:ASv).length)*16<=140737488355328 then
 some (.inl (wI (d1+1),e1++([(-1,wI g1,())]:ASv)))
 else none
 else
 some (.inr e1)
def FP c (z_:Int×ASv):=Mp c z_.1 z_.2
def PT c d1 e1:=fix (FP c) (d1,e1)
theorem Auy c:A3 js 0 10 (cd f117 14) 442 (Asq c) (FP c) (Aqz c):=by
 intro _;simp only[FP,Mp,ASb];kernel_rfl
def Asp a c (z_:Int×ASv):=sT 167 [(0,Ar a),(4,Au),(7,.AH 1),(8,dI z_.1)] [.box (WN c),EY z_.2]
def Aqy(a:ASw)(c:ASj):=λ(i1:ASv)=>xE 1 167 nM [EY i1]
def Mn(a:ASw)(c:ASj)(j1:Int)(k1:ASv):ATC (AS8⊕ASv):=
 if(0:Int)<=c.2.1/\c.2.1<(a.length:Int)then
 bif decide (j1<(a.getD c.2.1.toNat Ab.zero).2.1)then
 if(k1.length+([(c.2.1,j1,())]:ASv).length)*16<=140737488355328 then
 some (.inl (wI (j1+1),k1++([(c.2.1,j1,())]:ASv)))
 else none
 else
 some (.inr k1)
 else none
def FO a c (z_:Int×ASv):=Mn a c z_.1 z_.2
def PS a c j1 k1:=fix (FO a c) (j1,k1)
theorem Aux a c:A3 js 0 5 (cd f117 14) 106 (Asp a c) (FO a c) (Aqy a c):=by
 intro _;simp only[FO,Mn,ASb];kernel_rfl
def PX(a:ASw)(b:ASI)(c:ASj):ATC ASv:=
 bif c.1==1 then
 (PS a c 0 ([]:ASv)).bind λi1=>some i1
 else
 bif c.1==2 then
 (PT c 0 ([]:ASv)).bind λc1=>some c1
 else
 bif c.1==3 then
 (Uk b (wI ((b.length:Int)-1)) ([]:ASv)).bind λy=>some y
 else
 bif c.1==4 then
 if(0:Int)<=(0:Int)/\(0:Int)<(b.length:Int)then
 if(0:Int)<=c.2.2.2.1/\c.2.2.2.1<=(wI (c.2.2.1+1))/\(wI (c.2.2.1+1))<=((b.getD 0 ATp.zero).length:Int)then
 if(((b.getD 0 ATp.zero).take (wI (c.2.2.1+1)).toNat).drop c.2.2.2.1.toNat).length*16<=140737488355328 then
 some (((b.getD 0 ATp.zero).take (wI (c.2.2.1+1)).toNat).drop c.2.2.2.1.toNat)
 else none
 else none
 else none
 else
 R3 (Ae5 b c) (
 bif bif (c.1==5)then(c.1==5)else(c.1==6)then
 (F9 b c).bind (Sum.elim (λw=>if(0:Int)<=(0:Int)/\(0:Int)<(b.length:Int)then
 if(b.getD 0 ATp.zero).length*16<=140737488355328 then
 (PU c ((b.getD 0 ATp.zero).getD (wI (((b.getD 0 ATp.zero).length:Int)-1)).toNat Aa.zero) 0 (b.getD 0 ATp.zero)).bind λt=>some t
 else none
 else none) (λx=>if(0:Int)<=(0:Int)/\(0:Int)<(b.length:Int)then
 if(b.getD 0 ATp.zero).length*16<=140737488355328 then
 (PV c 0 (b.getD 0 ATp.zero)).bind λn=>some n
 else none
 else none))
 else
 R3 (Ae6 b c) (
 bif bif (c.1==7)then(c.1==7)else(c.1==8)then
 if(0:Int)<=(0:Int)/\(0:Int)<(b.length:Int)then
 if((b.getD 0 ATp.zero).length:Int)=(0:Int)then none else
 (Lm b c ((b.getD 0 ATp.zero).length:Int) (Int.tmod c.2.2.1 ((b.getD 0 ATp.zero).length:Int))).bind λl=>if(0:Int)<=(0:Int)/\(0:Int)<(b.length:Int)then
 if(0:Int)<=(wI (((b.getD 0 ATp.zero).length:Int)-l))/\(wI (((b.getD 0 ATp.zero).length:Int)-l))<=((b.getD 0 ATp.zero).length:Int)/\((b.getD 0 ATp.zero).length:Int)<=((b.getD 0 ATp.zero).length:Int)then
 if(((b.getD 0 ATp.zero).take ((b.getD 0 ATp.zero).length:Int).toNat).drop (wI (((b.getD 0 ATp.zero).length:Int)-l)).toNat).length*16<=140737488355328 then
 if(0:Int)<=(0:Int)/\(0:Int)<(b.length:Int)then
 if(0:Int)<=(0:Int)/\(0:Int)<=(wI (((b.getD 0 ATp.zero).length:Int)-l))/\(wI (((b.getD 0 ATp.zero).length:Int)-l))<=((b.getD 0 ATp.zero).length:Int)then
 if((((b.getD 0 ATp.zero).take ((b.getD 0 ATp.zero).length:Int).toNat).drop (wI (((b.getD 0 ATp.zero).length:Int)-l)).toNat).length+(((b.getD 0 ATp.zero).take (wI (((b.getD 0 ATp.zero).length:Int)-l)).toNat).drop 0).length)*16<=140737488355328 then
 some ((((b.getD 0 ATp.zero).take ((b.getD 0 ATp.zero).length:Int).toNat).drop (wI (((b.getD 0 ATp.zero).length:Int)-l)).toNat)++(((b.getD 0 ATp.zero).take (wI (((b.getD 0 ATp.zero).length:Int)-l)).toNat).drop 0))
 else none
 else none
 else none
 else none
 else none
 else none
 else none
 else
 bif c.1==9 then
 (PW b c 0 ([]:ASv)).bind λe=>some e
 else
 some ([]:ASv)))
theorem AuH a b c:AP js 0 43 (code f117) 14 (Asx a b c) (PX a b c) (AqG a b c):=by
 unfold AP;simp(disch:=refine id ?_;kernel_rfl) only[PX,ASb,PS,AG (Aux _ _) (K:=Ud js 0 43),PT,AG (Auy _) (K:=Ud js 0 43),Uk,AG (Auz _) (K:=Ud js 0 43),GN (AuA ..) (K:=Ud js 0 43),A8 (AuB ..) (K:=Ud js 0 43),PU,AG (AuC _ _) (K:=Ud js 0 43),PV,AG (AuD _) (K:=Ud js 0 43),GN (AuE ..) (K:=Ud js 0 43),A8 (AuF ..) (K:=Ud js 0 43),PW,AG (AuG _ _) (K:=Ud js 0 43)];kernel_rfl
def T0(a:ASw)(c:ASj)(b:ASI):ATC ASv:=
 (PX a b c).bind λd=>some d
def AEo:=Cc [.d ATr,.d Ag,.d (.sl ATp)] [⟨[.AA [] ATr,.AA [] Ag,.AA [] (.sl ATp)],[],ASv,λp=>T0 p.1.1 p.1.2.1 p.1.2.2.1,λr=>(.AH 0,[EY r])⟩]
theorem AfH:Am prog 117 AEo:=As (fn:=f117) ⟨⟨js,pk ⟨jN,trivial⟩,λ_ R K=>by
 simp(disch:=refine id ?_;kernel_rfl) only[T0,ASc,A8 (AuH ..) (K:=A2 js f117 0 R K)];kernel_rfl⟩,trivial⟩
abbrev E34:=eN [] {A4:=[(5,[0,2,4,5])],BD:=[(5,[2,4])],BR:=[(2,[0,2,13])],DR:=[(2,[0,2])],jc:=[(0,.row [1] 88 ATm true)]}
def AzO a b (z_:Int×ASs):=sT 51 [(0,Z5 a),(2,Au),(4,A9),(5,dI z_.1)] (xg b z_.2)
def AxH(a:ASs) b:=λ(c:ASs)=>xE 0 51 [(2,Au),(4,A9)] (xg b c)
def NZ(a:ASs)(b d:Int)(e:ASs):ATC (ASP⊕ASs):=
 bif decide (d<(a.length:Int))then
 if 0<=(wI (Int.tdiv d 64))/\(wI (Int.tdiv d 64))<e.length then
 if 0<=d/\d<a.length then
 if(IntKind.u64.wrap (Int.tmod d 64))<(0:Int)then none else
 if 0<=(wI (Int.tdiv d 64))/\(wI (Int.tdiv d 64))<e.length then
 some (.inl (wI (d+1),e.set (wI (Int.tdiv d 64)).toNat (iz .u64 (e.getD (wI (Int.tdiv d 64)).toNat ATm.zero) (Ph .u64 (IntKind.u64.wrap (a.getD d.toNat ATn.zero)) (IntKind.u64.wrap (Int.tmod d 64))))))
 else none
 else none
 else none
 else
 some (.inr e)
def J5 a b (z_:Int×ASs):=NZ a b z_.1 z_.2
def VC a b d e:=fix (J5 a b) (d,e)
theorem AB1 a b:A3 E34 0 5 (code f125) 122 (AzO a b) (J5 a b) (AxH a b):=by
 intro _;simp only[J5,NZ,ASb];kernel_rfl
def Am9 a:=sT 51 [(0,Z5 a),(2,Au)] [.box ta]
def Aey(a:ASs)(m0:Bool):Ex×St:=xN 51 [(0,Z5 a),(2,Au),(13,dB m0)] [.box ta]
theorem AB0 a:Za E34 0 2 (code f125) (pt 12) (Am9 a)=some (Aey a ((decide ((a.length:Int)<1))||(decide ((a.length:Int)>4096)))):=by
 refine .trans (b:=
 bif decide ((a.length:Int)<1)then
 some (Aey a true)
 else
 some (Aey a (decide ((a.length:Int)>4096)))) (by kernel_rfl) ?_
 cases (decide ((a.length:Int)<1));rfl;rfl
def QF(a:ASs):ATC (Int×Bool×ASs):=
 R3 (Am9 a) (
 bif (decide ((a.length:Int)<1))||(decide ((a.length:Int)>4096))then
 some (0,false,([]:ASs))
 else
 if Ty.row ATm=true/\(0:Int)<=(wI (Int.tdiv (wI ((a.length:Int)+63)) 64))/\(wI (Int.tdiv (wI ((a.length:Int)+63)) 64))<=(wI (Int.tdiv (wI ((a.length:Int)+63)) 64))/\((8:Nat):Int)*(wI (Int.tdiv (wI ((a.length:Int)+63)) 64))<=(281474976710656:Int)/\(wI (Int.tdiv (wI ((a.length:Int)+63)) 64))<=(9223372036854775807:Int)then
 (VC a (a.length:Int) 0 (List.replicate (wI (Int.tdiv (wI ((a.length:Int)+63)) 64)).toNat 0)).bind λc=>some ((a.length:Int),true,c)
 else none)
def AuX:=Cc [.d (.sl ATn)] [⟨[.AA [] (.sl ATn)],[],Int×Bool×ASs,λp=>QF p.1.1,λr=>(.cons (.pr (dI r.1) Si) (.cons (dB r.2.1) .nil),[C9 r.2.2])⟩]
theorem uf:Am prog 125 AuX:=As (fn:=f125) ⟨⟨E34,pk trivial,λ_ R K=>by
 simp(disch:=refine id ?_;kernel_rfl) only[QF,ASc,GN (AB0 _) (K:=A2 E34 f125 0 R K),VC,AG (AB1 _ _) (K:=A2 E34 f125 0 R K)];kernel_rfl⟩,trivial⟩
abbrev E35:=eN [(125,AuX)] {A4:=[(3,{Bc:=[0,4,5],Ce:=[(4,false,.row [] 142 Af true)]}),(7,[0,4,6,7]),(12,[0,4,5,6])],BD:=[(3,[4]),(7,{Bc:=[0,4,6,7],Sp:=[(7,false,.sl ATn)]}),(12,[0,4,5,6])],BR:=[(8,[0,4,6,7]),(13,[0,4,5,6]),(15,[0,4,6])],DR:=[(8,[0,4,6,7]),(13,[0,4,5,6]),(15,[0,4,5,6])]}
def Asy a (z_:Int×ASz):=sT 121 [(0,dY a),(4,.AH 0),(5,dI z_.1)] [Cj z_.2]
def AqH(a:ASv):=λ(b:ASz)=>xE 0 121 [(4,.AH 0)] [Cj b]
def AzT a c d e:=sT 121 (pT a c e) [Cj d]
def AxM a (c:Int) (d:ASz) (e:Int):=λ(g:AS1)=>xN 121 [(0,dY a),(4,.AH 0),(6,dI g.1)] [Cj g.2]
def AzS a c d (z_:Int):=sT 121 (pT a c z_) [Cj d]
def AxL a c d:=λ(i:Int)=>xE 4 121 (pT a c i) [Cj d]
def AzR a c j d:=sT 121 (pT a c j) [Cj d]
def AxK a c j d:=Sum.elim (λ(k:Unit)=>xN 121 (pT a c j) [Cj d]) (λ(l:Unit)=>xE 4 121 (pT a c j) [Cj d])
def RF(a:ASv)(c j:Int)(d:ASz):ATC (Unit⊕Unit):=
 bif decide (j<(a.length:Int))then
 if 0<=j/\j<a.length then
 if 0<=c/\c<a.length then
 bif (a.getD j.toNat Aa.zero).1==(a.getD c.toNat Aa.zero).1 then
 if 0<=j/\j<a.length then
 if 0<=(wI (j-1))/\(wI (j-1))<a.length then
 bif (a.getD j.toNat Aa.zero).2.1==(wI ((a.getD (wI (j-1)).toNat Aa.zero).2.1+1))then
 some (.inl ())
 else
 some (.inr ())
 else none
 else none
 else
 some (.inr ())
 else none
 else none
 else
 some (.inr ())
theorem AB4 a c j d:AP E35 0 13 (sb (sb (cd f118 120) 26) 56) 2 (AzR a c j d) (RF a c j d) (AxK a c j d):=by
 unfold AP;simp only[RF,ASb];kernel_rfl
def SU(a:ASv)(c:Int)(d:ASz)(j:Int):ATC (Int⊕Int):=
 (RF a c j d).bind (Sum.elim (λk=>some (.inl (wI (j+1)))) (λl=>some (.inr j)))
def N9 a c d (z_:Int):=SU a c d z_
def RG a c d j:=fix (N9 a c d) j
theorem AB5 a c d:A3 E35 0 12 (sb (cd f118 120) 26) 28 (AzS a c d) (N9 a c d) (AxL a c d):=by
 intro _;simp(disch:=refine id ?_;kernel_rfl) only[N9,SU,ASb,A8 (AB4 ..) (K:=Kk E35 0 12)];kernel_rfl
def AzQ a d (z_:Int×ASs):=sT 121 (AbR a z_.1) [Cj d,eu z_.2]
def AxJ a d:=λ(n:ASP)=>xE 2 121 [(0,dY a),(4,.AH 0),(6,dI n.1),(7,Z5 n.2)] [Cj d]
def AzP a o d q:=sT 121 (AbR a o) [Cj d,eu q]
def AxI a o d q:=Sum.elim (λ(s:Unit)=>xN 121 (AbR a o) [Cj d,eu q]) (λ(t:Unit)=>xE 2 121 (AbR a o) [Cj d,eu q])
def RE(a:ASv)(o:Int)(d:ASz)(q:ASs):ATC (Unit⊕Unit):=
 bif decide (o<(a.length:Int))then
 if 0<=o/\o<a.length then
 bif decide ((a.getD o.toNat Aa.zero).1<0)then
 some (.inl ())
 else
 some (.inr ())
 else none
 else
 some (.inr ())
theorem AB2 a o d q:AP E35 0 8 (sb (sb (cd f118 120) 26) 104) 2 (AzP a o d q) (RE a o d q) (AxI a o d q):=by
 unfold AP;simp only[RE,ASb];kernel_rfl
def SS(a:ASv)(d:ASz)(o:Int)(q:ASs):ATC (ASP⊕ASP):=
 (RE a o d q).bind (Sum.elim (λs=>if 0<=o/\o<a.length then
 if(q.length+([IntKind.u8.wrap (a.getD o.toNat Aa.zero).2.1]:ASs).length)*1<=140737488355328 then
 some (.inl (wI (o+1),q++([IntKind.u8.wrap (a.getD o.toNat Aa.zero).2.1]:ASs)))
 else none
 else none) (λt=>some (.inr (o,q))))
def N8 a d (z_:Int×ASs):=SS a d z_.1 z_.2
def VH a d o q:=fix (N8 a d) (o,q)
theorem AB3 a d:A3 E35 0 7 (sb (cd f118 120) 26) 52 (AzQ a d) (N8 a d) (AxJ a d):=by
 intro _;simp(disch:=refine id ?_;kernel_rfl) only[N8,SS,ASb,A8 (AB2 ..) (K:=Kk E35 0 7)];kernel_rfl
def RH(a:ASv)(c:Int)(d:ASz)(e:Int):ATC AS1:=
 if 0<=c/\c<a.length then
 bif decide ((a.getD c.toNat Aa.zero).1<0)then
 if 0<=c/\c<a.length then
 (VH a d e ([IntKind.u8.wrap (a.getD c.toNat Aa.zero).2.1]:ASs)).bind λn=>(QF n.2).bind λu=>if(d.length+([(-1,0,u.1,(u.1,u.2.2,()),())]:ASz).length)*56<=140737488355328 then
 some (n.1,d++([(-1,0,u.1,(u.1,u.2.2,()),())]:ASz))
 else none
 else none
 else
 (RG a c d e).bind λi=>if 0<=c/\c<a.length then
 if 0<=c/\c<a.length then
 if(d.length+([((a.getD c.toNat Aa.zero).1,(a.getD c.toNat Aa.zero).2.1,wI (i-c),(0,([]:ASs),()),())]:ASz).length)*56<=140737488355328 then
 some (i,d++([((a.getD c.toNat Aa.zero).1,(a.getD c.toNat Aa.zero).2.1,wI (i-c),(0,([]:ASs),()),())]:ASz))
 else none
 else none
 else none
 else none
theorem AB6 a c d e:AP E35 0 15 (cd f118 120) 26 (AzT a c d e) (RH a c d e) (AxM a c d e):=by
 unfold AP;simp(disch:=refine id ?_;kernel_rfl) only[RH,ASb,VH,AG (AB3 _ _) (K:=Ud E35 0 15),RG,AG (AB5 _ _ _) (K:=Ud E35 0 15)];kernel_rfl
def RD(a:ASv)(c:Int)(d:ASz):ATC (AS1⊕ASz):=
 bif decide (c<(a.length:Int))then
 (RH a c d (wI (c+1))).bind λg=>some (.inl (g.1,g.2))
 else
 some (.inr d)
def Mm a (z_:Int×ASz):=RD a z_.1 z_.2
def Uj a c d:=fix (Mm a) (c,d)
theorem AuI a:A3 E35 0 3 (code f118) 60 (Asy a) (Mm a) (AqH a):=by
 intro _;simp(disch:=refine id ?_;kernel_rfl) only[Mm,RD,ASb,A8 (AB6 ..) (K:=Kk E35 0 3)];kernel_rfl
def TY(a:ASv):ATC ASV:=
 (Uj a 0 ([]:ASz)).bind λb=>some (decide ((b.length:Int)<=2000),b)
def AEp:=Cc [.d ATp] [⟨[.AA [] ATp],[],ASV,λp=>TY p.1.1,λr=>(.cons Kd (.cons (dB r.1) .nil),[Cj r.2])⟩]
theorem AfI:Am prog 118 AEp:=As (fn:=f118) ⟨⟨E35,pk ⟨uf,trivial⟩,λ_ R K=>by
 simp(disch:=refine id ?_;kernel_rfl) only[TY,ASc,Uj,AG (AuI _) (K:=A2 E35 f118 0 R K)];kernel_rfl⟩,trivial⟩
abbrev E36:=eN [(80,c80),(117,AEo),(118,AEp)] {Av:=false,A4:=[(6,{Bc:=[0,3,6,7,8],Ce:=[(6,false,.row [] 174 ATp false),(7,false,.row [] 142 Af true)]}),(10,{Bc:=[0,3,6,8,9,10],Ce:=[(9,false,.row [] 174 ATp false)]})],BD:=[(6,[4,5,7]),(10,{Bc:=[0,3,6,8,9],Sp:=[(9,false,.sl ATp)]})],jc:=[(0,.row [] 142 Af true)]}
def AzV a b (z_:Int×ASI×ASz):=sT 77 [(0,Ar a),(3,Au),(6,.AH 1),(7,.AH 2),(8,dI z_.1)] [.box (Qr b),jk z_.2.1,Cj z_.2.2]
def AxO(a:ASw)(b:ASq):=Sum.elim (λ(c:Unit)=>xR 77 [(4,.zs),(5,dB false)] []) (λ(d:ASz)=>xE 0 77 nM [Cj d])
def AzU a e b g (z_:Int×ASI):=sT 77 [(0,Ar a),(3,Au),(6,.AH 1),(8,dI e),(9,.AH 2),(10,dI z_.1)] [.box (Qr b),jk g,jk z_.2]
def AxN a e b g:=λ(i:ASI)=>xE 2 77 [(0,Ar a),(3,Au),(6,.AH 1),(8,dI e),(9,RR i)] [.box (Qr b),jk g]
def Mg(a:ASw)(e:Int)(b:ASq)(g:ASI)(j:Int)(k:ASI):ATC ((Int×ASI)⊕ASI):=
 if 0<=e/\e<b.1.length then
 bif decide (j<((b.1.getD e.toNat Ag.zero).2.2.2.2.2.1.length:Int))then
 if 0<=e/\e<b.1.length then
 if 0<=j/\j<(b.1.getD e.toNat Ag.zero).2.2.2.2.2.1.length then
 if(0:Int)<=((b.1.getD e.toNat Ag.zero).2.2.2.2.2.1.getD j.toNat ATl.zero)/\((b.1.getD e.toNat Ag.zero).2.2.2.2.2.1.getD j.toNat ATl.zero)<(g.length:Int)then
 if(k.length+([g.getD ((b.1.getD e.toNat Ag.zero).2.2.2.2.2.1.getD j.toNat ATl.zero).toNat ATp.zero]:ASI).length)*24<=140737488355328 then
 some (.inl (wI (j+1),k++([g.getD ((b.1.getD e.toNat Ag.zero).2.2.2.2.2.1.getD j.toNat ATl.zero).toNat ATp.zero]:ASI)))
 else none
 else none
 else none
 else none
 else
 some (.inr k)
 else none
def FN a e b g (z_:Int×ASI):=Mg a e b g z_.1 z_.2
def PL a e b g j k:=fix (FN a e b g) (j,k)
theorem AB7 a e b g:A3 E36 0 10 (cd f82 500) 202 (AzU a e b g) (FN a e b g) (AxN a e b g):=by
 intro _;simp only[FN,Mg,ASb];kernel_rfl
def Rv(a:ASw)(b:ASq)(e:Int)(g:ASI)(l:ASz):ATC ((Int×ASI×ASz)⊕(Unit⊕ASz)):=
 bif decide (e<(b.1.length:Int))then
 (PL a e b g 0 ([]:ASI)).bind λi=>if 0<=e/\e<b.1.length then
 (T0 a (b.1.getD e.toNat Ag.zero) i).bind λn=>(TY n).bind λo=>bif !o.1 then
 some (.inr (.inl ()))
 else
 if(g.length+([n]:ASI).length)*24<=140737488355328 then
 some (.inl (wI (e+1),g++([n]:ASI),o.2))
 else none
 else none
 else
 some (.inr (.inr l))
def Mh a b (z_:Int×ASI×ASz):=Rv a b z_.1 z_.2.1 z_.2.2
def Ui a b e g l:=fix (Mh a b) (e,g,l)
theorem AB8 a b:A3 E36 0 6 (code f82) 250 (AzV a b) (Mh a b) (AxO a b):=by
 intro _;simp(disch:=refine id ?_;kernel_rfl) only[Mh,Rv,ASb,PL,AG (AB7 _ _ _ _) (K:=Kk E36 0 6)];kernel_rfl
def Dn(a:ASw)(b:ASq):ATC ASV:=
 (GH a b).bind λq=>bif decide (q<0)then
 some (false,([]:ASz))
 else
 (Ui a b 0 ([]:ASI) ([]:ASz)).bind (Sum.elim (λc=>some (false,([]:ASz))) (λd=>some (true,d)))
def c82:=Cc [.d ATr,.d Aw] [⟨[.AA [] ATr,.AA [] Aw],[],ASV,λp=>Dn p.1.1 p.1.2.1,λr=>(.cons Kd (.cons (dB r.1) .nil),[Cj r.2])⟩]
theorem AaF:Am prog 82 c82:=As (fn:=f82) ⟨⟨E36,pk ⟨AaE,AfH,AfI,trivial⟩,λ_ R K=>by
 simp(disch:=refine id ?_;kernel_rfl) only[Dn,ASc,Ui,AG (AB8 _ _) (K:=A2 E36 f82 0 R K)];kernel_rfl⟩,trivial⟩
abbrev E37:=eN [(82,c82)] {A4:=[(3,{Bc:=[0,1,6,7],Ce:=[(6,false,.row [] 71 ATq true)]})],BD:=[(3,[4,5,6])],BR:=[(8,[0,1,6,7,8,10,44])],DR:=[(8,[0,1,6,7,8,9,10,11])]}
def AzW a b (z_:Int×ASJ):=sT 52 [(0,Ar a),(1,Bw b),(6,.AH 0),(7,dI z_.1)] [RU z_.2]
def AxP(a:ASw)(b:ASy):=Sum.elim (λ(c:ASJ)=>xR 52 [(4,.AH 0),(5,dB false),(6,.AH 0)] [RU c]) (λ(d:ASJ)=>xE 0 52 xn [RU d])
def Ana a b e (g:ASV) (i:ASV) j:=sT 52 [(0,Ar a),(1,Bw b),(6,.AH 0),(7,dI e),(8,.AH 1),(9,dB g.1),(10,.AH 2),(11,dB i.1)] [RU j,Cj g.2,Cj i.2]
def Aez(a:ASw)(b:ASy)(e:Int)(g i:ASV)(j:ASJ)(m0:Bool):Ex×St:=xN 52 [(0,Ar a),(1,Bw b),(6,.AH 0),(7,dI e),(8,.AH 1),(10,.AH 2),(44,dB m0)] [RU j,Cj g.2,Cj i.2]
theorem AB9 a b e g i j:Za E37 0 8 (cd f55 116) (pt 204) (Ana a b e g i j)=some (Aez a b e g i j ((!g.1)||(!i.1))):=by
 refine .trans (b:=
 bif !g.1 then
 some (Aez a b e g i j true)
 else
 some (Aez a b e g i j (!i.1))) (by kernel_rfl) ?_
 cases (!g.1);rfl;rfl
def RN(a:ASw)(b:ASy)(e:Int)(j:ASJ):ATC ((Int×ASJ)⊕(ASJ⊕ASJ)):=
 bif decide (e<(b.length:Int))then
 if 0<=e/\e<b.length then
 (Dn a (b.getD e.toNat Ae.zero).2.2.1).bind λg=>if 0<=e/\e<b.length then
 (Dn a (b.getD e.toNat Ae.zero).2.2.2.1).bind λi=>R3 (Ana a b e g i j) (
 bif (!g.1)||(!i.1)then
 some (.inr (.inl j))
 else
 if(j.length+([g.2,i.2]:ASJ).length)*24<=140737488355328 then
 some (.inl (wI (e+1),j++([g.2,i.2]:ASJ)))
 else none)
 else none
 else none
 else
 some (.inr (.inr j))
def MC a b (z_:Int×ASJ):=RN a b z_.1 z_.2
def Ys a b e j:=fix (MC a b) (e,j)
theorem ACa a b:A3 E37 0 3 (code f55) 58 (AzW a b) (MC a b) (AxP a b):=by
 intro _;simp(disch:=refine id ?_;kernel_rfl) only[MC,RN,ASb,GN (AB9 ..) (K:=Kk E37 0 3)];kernel_rfl
def Oj(a:ASw)(b:ASy):ATC (Bool×ASJ):=
 (Ys a b 0 ([]:ASJ)).bind (Sum.elim (λc=>some (false,c)) (λd=>some (true,d)))
def c55:=Cc [.d ATr,.d ATt] [⟨[.AA [] ATr,.AA [] ATt],[],Bool×ASJ,λp=>Oj p.1.1 p.1.2.1,λr=>(.cons Kd (.cons (dB r.1) .nil),[RU r.2])⟩]
theorem qA:Am prog 55 c55:=As (fn:=f55) ⟨⟨E37,pk ⟨AaF,trivial⟩,λ_ R K=>by
 simp(disch:=refine id ?_;kernel_rfl) only[Oj,ASc,Ys,AG (ACa _ _) (K:=A2 E37 f55 0 R K)];kernel_rfl⟩,trivial⟩
abbrev E38:=eN [] {Av:=false,A4:=[(3,{Bc:=[0,3,4],Ce:=[(3,false,.row [] 61 Ae false)]})],BD:=[(3,[3])],BR:=[(4,{Bc:=[0,3,4],Ce:=[(3,false,.row [] 61 Ae false)]})],DR:=[(4,[0,3,4])]}
def AzY a (z_:Int×ASy):=sT 25 (Am0 a z_.1) [Tl z_.2]
def AxR(a:ASy):=λ(b:ASy)=>xE 0 25 mb [Tl b]
def AzX a c d:=sT 25 (Am0 a c) [Tl d]
def AxQ a c (d:ASy):=λ(e:ASy)=>xN 25 (Am0 a c) [Tl e]
def NW(a:ASy)(c:Int)(d:ASy):ATC ASy:=
 if 0<=c/\c<a.length then
 bif (a.getD c.toNat Ae.zero).2.1 then
 if 0<=c/\c<a.length then
 if(d.length+([a.getD c.toNat Ae.zero]:ASy).length)*64<=140737488355328 then
 some (d++([a.getD c.toNat Ae.zero]:ASy))
 else none
 else none
 else
 some d
 else none
theorem ACb a c d:AP E38 0 4 (cd f29 116) 6 (AzX a c d) (NW a c d) (AxQ a c d):=by
 unfold AP;simp only[NW,ASb];kernel_rfl
def KZ(a:ASy)(c:Int)(d:ASy):ATC (AS2⊕ASy):=
 bif decide (c<(a.length:Int))then
 (NW a c d).bind λe=>some (.inl (wI (c+1),e))
 else
 some (.inr d)
def ET a (z_:Int×ASy):=KZ a z_.1 z_.2
def SN a c d:=fix (ET a) (c,d)
theorem ACc a:A3 E38 0 3 (code f29) 58 (AzY a) (ET a) (AxR a):=by
 intro _;simp(disch:=refine id ?_;kernel_rfl) only[ET,KZ,ASb,A8 (ACb ..) (K:=Kk E38 0 3)];kernel_rfl
def LB(a:ASy):ATC ASy:=
 (SN a 0 ([]:ASy)).bind λb=>some b
def c29:=Cc [.d ATt] [⟨[.AA [] ATt],[],ASy,λp=>LB p.1.1,λr=>(.AH 0,[Tl r])⟩]
theorem Aau:Am prog 29 c29:=As (fn:=f29) ⟨⟨E38,pk trivial,λ_ R K=>by
 simp(disch:=refine id ?_;kernel_rfl) only[LB,ASc,SN,AG (ACc _) (K:=A2 E38 f29 0 R K)];kernel_rfl⟩,trivial⟩
abbrev E39:=eN [] {A4:=[(3,{Bc:=[0,2,3,4],Ce:=[(3,true,.row [0] 78 ATo true)]})],BD:=[(3,[2,3])]}
def AzZ a (z_:Int×ASG):=sT 19 [(0,Ar a),(2,Au),(3,A9),(4,dI z_.1)] (AbS z_.2)
def AxS(a:ASw):=λ(b:ASG)=>xE 0 19 [(2,Au),(3,A9)] (AbS b)
def Og(a:ASw)(c:Int)(d:ASG):ATC (ASX⊕ASG):=
 bif decide (c<(a.length:Int))then
 if(d.length+([([]:ASs)]:ASG).length)*24<=140737488355328 then
 some (.inl (wI (c+1),d++([([]:ASs)]:ASG)))
 else none
 else
 some (.inr d)
def Hd a (z_:Int×ASG):=Og a z_.1 z_.2
def VK a c d:=fix (Hd a) (c,d)
theorem ACd a:A3 E39 0 3 (code f57) 58 (AzZ a) (Hd a) (AxS a):=by
 intro _;simp only[Hd,Og,ASb];kernel_rfl
def QJ(a:ASw):ATC ASG:=
 (VK a 0 ([]:ASG)).bind λb=>some b
def c57:=Cc [.d ATr] [⟨[.AA [] ATr],[],ASG,λp=>QJ p.1.1,λr=>(.pr Kd .u,[Bl r])⟩]
theorem AaA:Am prog 57 c57:=As (fn:=f57) ⟨⟨E39,pk trivial,λ_ R K=>by
 simp(disch:=refine id ?_;kernel_rfl) only[QJ,ASc,VK,AG (ACd _) (K:=A2 E39 f57 0 R K)];kernel_rfl⟩,trivial⟩
abbrev E40:=eN [(79,c79),(81,c81)] {A4:=[(4,[0,3,5]),(7,[0,3,5,6])],BD:=[(4,[4]),(7,[0,3,4,5])],BR:=[(2,[0,3,17]),(10,[0,3,5,6,74])],DR:=[(2,[0,3]),(10,[0,3,5,6])]}
def Az3 a b (z_:Int):=sT 75 [(0,Ar a),(3,Au),(5,dI z_)] [.box (BV b)]
def AxW(a:ASw)(b:ASl):=Sum.elim (λ(c:Unit)=>xR 75 fW []) (λ(d:Unit)=>xE 0 75 [] [])
def Az2 a e b (z_:Int):=sT 75 [(0,Ar a),(3,Au),(5,dI e),(6,dI z_)] [.box (BV b)]
def AxV a e b:=Sum.elim (λ(g:Unit)=>xR 75 [(0,Ar a),(3,Au),(4,dB false),(5,dI e)] [.box (BV b)]) (λ(i:Unit)=>xE 2 75 [(0,Ar a),(3,Au),(5,dI e)] [.box (BV b)])
def Az1 a e j b:=sT 75 [(0,Ar a),(3,Au),(5,dI e),(6,dI j)] [.box (BV b)]
def AxU a e j b:=λ(k:Bool)=>xN 75 [(0,Ar a),(3,Au),(5,dI e),(6,dI j),(74,dB k)] [.box (BV b)]
def Nf(a:ASw)(e j:Int)(b:ASl):ATC Bool:=
 if 0<=e/\e<b.1.length then
 if 0<=j/\j<(b.1.getD e.toNat ATo.zero).length then
 if 0<=e/\e<a.length then
 bif !(BM ((b.1.getD e.toNat ATo.zero).getD j.toNat ATl.zero) 1 (wI ((a.getD e.toNat Ab.zero).2.1-1)))then
 some true
 else
 bif decide (j>0)then
 if 0<=e/\e<b.1.length then
 if 0<=j/\j<(b.1.getD e.toNat ATo.zero).length then
 if 0<=e/\e<b.1.length then
 if 0<=(wI (j-1))/\(wI (j-1))<(b.1.getD e.toNat ATo.zero).length then
 some (decide (((b.1.getD e.toNat ATo.zero).getD j.toNat ATl.zero)<=((b.1.getD e.toNat ATo.zero).getD (wI (j-1)).toNat ATl.zero)))
 else none
 else none
 else none
 else none
 else
 some false
 else none
 else none
 else none
theorem ACf a e j b:AP E40 0 10 (sb (cd f88 116) 100) 24 (Az1 a e j b) (Nf a e j b) (AxU a e j b):=by
 unfold AP;simp only[Nf,ASb];kernel_rfl
def NQ(a:ASw)(e:Int)(b:ASl)(j:Int):ATC (Int⊕(Unit⊕Unit)):=
 if 0<=e/\e<b.1.length then
 bif decide (j<((b.1.getD e.toNat ATo.zero).length:Int))then
 (Nf a e j b).bind λk=>bif k then
 some (.inr (.inl ()))
 else
 some (.inl (wI (j+1)))
 else
 some (.inr (.inr ()))
 else none
def JX a e b (z_:Int):=NQ a e b z_
def Zl a e b j:=fix (JX a e b) j
theorem ACg a e b:A3 E40 0 7 (cd f88 116) 50 (Az2 a e b) (JX a e b) (AxV a e b):=by
 intro _;simp(disch:=refine id ?_;kernel_rfl) only[JX,NQ,ASb,A8 (ACf ..) (K:=Kk E40 0 7)];kernel_rfl
def NR(a:ASw)(b:ASl)(e:Int):ATC (Int⊕(Unit⊕Unit)):=
 bif decide (e<(b.1.length:Int))then
 (Zl a e b 0).bind (Sum.elim (λg=>some (.inr (.inl ()))) (λi=>some (.inl (wI (e+1)))))
 else
 some (.inr (.inr ()))
def JY a b (z_:Int):=NR a b z_
def Zm a b e:=fix (JY a b) e
theorem ACh a b:A3 E40 0 4 (code f88) 58 (Az3 a b) (JY a b) (AxW a b):=by
 intro _;simp(disch:=refine id ?_;kernel_rfl) only[JY,NR,ASb,Zl,AG (ACg _ _ _) (K:=Kk E40 0 4)];kernel_rfl
def Az0 a b:=sT 75 [(0,Ar a),(3,Au)] [.box (BV b)]
def AxT a b:=λ(l:Bool)=>xN 75 [(0,Ar a),(3,Au),(17,dB l)] [.box (BV b)]
def Ru(a:ASw)(b:ASl):ATC Bool:=
 (KU a).bind λn=>bif !n then
 some true
 else
 some ((b.1.length:Int) !=(a.length:Int))
theorem ACe a b:AP E40 0 2 (code f88) 12 (Az0 a b) (Ru a b) (AxT a b):=by
 unfold AP;simp only[Ru,ASb];kernel_rfl
def Kl(a:ASw)(b:ASl):ATC Bool:=
 (Ru a b).bind λl=>bif l then
 some false
 else
 (Zm a b 0).bind (Sum.elim (λc=>some false) (λd=>some true))
def c88:=Cc [.d ATr,.d Ak] [⟨[.AA [] ATr,.AA [] Ak],[],Bool,λp=>Kl p.1.1 p.1.2.1,λr=>(dB r,[])⟩]
theorem iJ:Am prog 88 c88:=As (fn:=f88) ⟨⟨E40,pk ⟨qC,V1,trivial⟩,λ_ R K=>by
 simp(disch:=refine id ?_;kernel_rfl) only[Kl,ASc,A8 (ACe ..) (K:=A2 E40 f88 0 R K),Zm,AG (ACh _ _) (K:=A2 E40 f88 0 R K)];kernel_rfl⟩,trivial⟩
abbrev E41:=eN [] {A4:=[(3,{Bc:=[0,3,5,6],Ce:=[(5,false,.row [] 95 ATs true)]}),(7,[0,3,5,6,7,8])],BD:=[(3,[5]),(7,[0,3,5,6,7])]}
def Az5 a b (z_:Int×ASH):=sT 48 (AbT a z_.1) [.box (BV b),Ca z_.2]
def AxY(a:ASw)(b:ASl):=λ(c:ASH)=>xE 0 48 [(5,.AH 0)] [Ca c]
def Az4 a d b e (z_:Int×ASt):=sT 48 [(0,Ar a),(3,Au),(5,.AH 1),(6,dI d),(7,.AH 2),(8,dI z_.1)] [.box (BV b),Ca e,Dm z_.2]
def AxX a d b e:=λ(g:ASt)=>xE 2 48 [(0,Ar a),(3,Au),(5,.AH 1),(6,dI d),(7,.AH 2)] [.box (BV b),Ca e,Dm g]
def Mx(a:ASw)(d:Int)(b:ASl)(e:ASH)(i:Int)(j:ASt):ATC ((Int×ASt)⊕ASt):=
 if 0<=d/\d<b.1.length then
 bif decide (i<((b.1.getD d.toNat ATo.zero).length:Int))then
 if 0<=d/\d<b.1.length then
 if 0<=i/\i<(b.1.getD d.toNat ATo.zero).length then
 if(0:Int)<=((b.1.getD d.toNat ATo.zero).getD i.toNat ATl.zero)/\((b.1.getD d.toNat ATo.zero).getD i.toNat ATl.zero)<(j.length:Int)then
 some (.inl (wI (i+1),j.set ((b.1.getD d.toNat ATo.zero).getD i.toNat ATl.zero).toNat true))
 else none
 else none
 else none
 else
 some (.inr j)
 else none
def FY a d b e (z_:Int×ASt):=Mx a d b e z_.1 z_.2
def Uo a d b e i j:=fix (FY a d b e) (i,j)
theorem ACi a d b e:A3 E41 0 7 (cd f89 116) 202 (Az4 a d b e) (FY a d b e) (AxX a d b e):=by
 intro _;simp only[FY,Mx,ASb];kernel_rfl
def My(a:ASw)(b:ASl)(d:Int)(e:ASH):ATC ((Int×ASH)⊕ASH):=
 bif decide (d<(a.length:Int))then
 if 0<=d/\d<a.length then
 if Ty.row .bool=true/\(0:Int)<=(wI ((a.getD d.toNat Ab.zero).2.1+1))/\(wI ((a.getD d.toNat Ab.zero).2.1+1))<=(wI ((a.getD d.toNat Ab.zero).2.1+1))/\((1:Nat):Int)*(wI ((a.getD d.toNat Ab.zero).2.1+1))<=(281474976710656:Int)/\(wI ((a.getD d.toNat Ab.zero).2.1+1))<=(9223372036854775807:Int)then
 (Uo a d b e 0 (List.replicate (wI ((a.getD d.toNat Ab.zero).2.1+1)).toNat false)).bind λg=>if(e.length+([g]:ASH).length)*24<=140737488355328 then
 some (.inl (wI (d+1),e++([g]:ASH)))
 else none
 else none
 else none
 else
 some (.inr e)
def FZ a b (z_:Int×ASH):=My a b z_.1 z_.2
def Up a b d e:=fix (FZ a b) (d,e)
theorem ACj a b:A3 E41 0 3 (code f89) 58 (Az5 a b) (FZ a b) (AxY a b):=by
 intro _;simp(disch:=refine id ?_;kernel_rfl) only[FZ,My,ASb,Uo,AG (ACi _ _ _ _) (K:=Kk E41 0 3)];kernel_rfl
def Oe(a:ASw)(b:ASl):ATC ASH:=
 (Up a b 0 ([]:ASH)).bind λc=>some c
def c89:=Cc [.d ATr,.d Ak] [⟨[.AA [] ATr,.AA [] Ak],[],ASH,λp=>Oe p.1.1 p.1.2.1,λr=>(.AH 0,[Ca r])⟩]
theorem AaH:Am prog 89 c89:=As (fn:=f89) ⟨⟨E41,pk trivial,λ_ R K=>by
 simp(disch:=refine id ?_;kernel_rfl) only[Oe,ASc,Up,AG (ACj _ _) (K:=A2 E41 f89 0 R K)];kernel_rfl⟩,trivial⟩
abbrev E42:=eN [(152,AkF)] {A4:=[(3,{Bc:=[0,3,4],Ce:=[(3,false,.row [] 209 Aa true)]}),(6,{Bc:=[0,3,4,5],Ce:=[(3,false,.row [] 209 Aa true)]})],BD:=[(3,[3]),(6,[0,3,4])],BR:=[(7,[0,3,4,5])],DR:=[(7,[0,3,4,5])]}
def Az8 a (z_:Int×ASv):=sT 57 [(0,Dv a),(3,.AH 0),(4,dI z_.1)] [EY z_.2]
def Ax1(a:ASz):=λ(b:ASv)=>xE 0 57 mb [EY b]
def Az7 a c (z_:Int×ASv):=sT 57 (Ajv a c z_.1) [EY z_.2]
def Ax0 a c:=λ(d:ASv)=>xE 2 57 [(0,Dv a),(3,.AH 0),(4,dI c)] [EY d]
def Az6 a c e g:=sT 57 (Ajv a c e) [EY g]
def AxZ a c e (g:ASv):=λ(i:ASv)=>xN 57 (Ajv a c e) [EY i]
def RB(a:ASz)(c e:Int)(g:ASv):ATC ASv:=
 if 0<=c/\c<a.length then
 bif decide ((a.getD c.toNat Af.zero).1<0)then
 if 0<=c/\c<a.length then
 (I7 (a.getD c.toNat Af.zero).2.2.2.1 e).bind λj=>if(g.length+([(-1,wI j,())]:ASv).length)*16<=140737488355328 then
 some (g++([(-1,wI j,())]:ASv))
 else none
 else none
 else
 if 0<=c/\c<a.length then
 if 0<=c/\c<a.length then
 if(g.length+([((a.getD c.toNat Af.zero).1,wI ((a.getD c.toNat Af.zero).2.1+e),())]:ASv).length)*16<=140737488355328 then
 some (g++([((a.getD c.toNat Af.zero).1,wI ((a.getD c.toNat Af.zero).2.1+e),())]:ASv))
 else none
 else none
 else none
 else none
theorem ACk a c e g:AP E42 0 7 (sb (cd f124 116) 100) 6 (Az6 a c e g) (RB a c e g) (AxZ a c e g):=by
 unfold AP;simp only[RB,ASb];kernel_rfl
def N6(a:ASz)(c e:Int)(g:ASv):ATC (AS8⊕ASv):=
 if 0<=c/\c<a.length then
 bif decide (e<(a.getD c.toNat Af.zero).2.2.1)then
 (RB a c e g).bind λi=>some (.inl (wI (e+1),i))
 else
 some (.inr g)
 else none
def G7 a c (z_:Int×ASv):=N6 a c z_.1 z_.2
def VF a c e g:=fix (G7 a c) (e,g)
theorem ACl a c:A3 E42 0 6 (cd f124 116) 50 (Az7 a c) (G7 a c) (Ax0 a c):=by
 intro _;simp(disch:=refine id ?_;kernel_rfl) only[G7,N6,ASb,A8 (ACk ..) (K:=Kk E42 0 6)];kernel_rfl
def N7(a:ASz)(c:Int)(k:ASv):ATC (AS8⊕ASv):=
 bif decide (c<(a.length:Int))then
 (VF a c 0 k).bind λd=>some (.inl (wI (c+1),d))
 else
 some (.inr k)
def EU a (z_:Int×ASv):=N7 a z_.1 z_.2
def VG a c k:=fix (EU a) (c,k)
theorem ACm a:A3 E42 0 3 (code f124) 58 (Az8 a) (EU a) (Ax1 a):=by
 intro _;simp(disch:=refine id ?_;kernel_rfl) only[EU,N7,ASb,VF,AG (ACl _ _) (K:=Kk E42 0 3)];kernel_rfl
def TX(a:ASz):ATC ASv:=
 (VG a 0 ([]:ASv)).bind λb=>some b
def AEv:=Cc [.d ATq] [⟨[.AA [] ATq],[],ASv,λp=>TX p.1.1,λr=>(.AH 0,[EY r])⟩]
theorem AfP:Am prog 124 AEv:=As (fn:=f124) ⟨⟨E42,pk ⟨jN,trivial⟩,λ_ R K=>by
 simp(disch:=refine id ?_;kernel_rfl) only[TX,ASc,VG,AG (ACm _) (K:=A2 E42 f124 0 R K)];kernel_rfl⟩,trivial⟩
abbrev E43:=eN [(124,AEv)] {A4:=[(3,{Bc:=[0,2,3,4],Ce:=[(3,true,.row [1] 4 .bool true)]}),(6,{Bc:=[0,2,3,4,5],Ce:=[(3,true,.row [1] 4 .bool true)]})],BD:=[(3,[2,3]),(6,[0,2,3,4])]}
def AAa a b (z_:Int×ASt):=sT 32 [(0,Dv a),(2,Au),(3,A9),(4,dI z_.1)] (AbU b z_.2)
def Ax3(a:ASz) b:=λ(c:ASt)=>xE 0 32 [(2,Au),(3,A9)] (AbU b c)
def Az9 a d b (z_:Int×ASt):=sT 32 [(0,Dv a),(2,Au),(3,A9),(4,dI d),(5,dI z_.1)] (AbU b z_.2)
def Ax2 a d b:=λ(e:ASt)=>xE 2 32 [(0,Dv a),(2,Au),(3,A9),(4,dI d)] (AbU b e)
def Oh(a:ASz)(d:Int)(b:ASv)(g:Int)(i:ASt):ATC ((Int×ASt)⊕ASt):=
 if 0<=d/\d<a.length then
 bif decide (g<(a.getD d.toNat Af.zero).2.2.1)then
 if(i.length+([g==0]:ASt).length)*1<=140737488355328 then
 some (.inl (wI (g+1),i++([g==0]:ASt)))
 else none
 else
 some (.inr i)
 else none
def He a d b (z_:Int×ASt):=Oh a d b z_.1 z_.2
def VL a d b g i:=fix (He a d b) (g,i)
theorem ACn a d b:A3 E43 0 6 (cd f92 116) 50 (Az9 a d b) (He a d b) (Ax2 a d b):=by
 intro _;simp only[He,Oh,ASb];kernel_rfl
def Oi(a:ASz)(b:ASv)(d:Int)(j:ASt):ATC ((Int×ASt)⊕ASt):=
 bif decide (d<(a.length:Int))then
 (VL a d b 0 j).bind λe=>some (.inl (wI (d+1),e))
 else
 some (.inr j)
def Hf a b (z_:Int×ASt):=Oi a b z_.1 z_.2
def VM a b d j:=fix (Hf a b) (d,j)
theorem ACo a b:A3 E43 0 3 (code f92) 58 (AAa a b) (Hf a b) (Ax3 a b):=by
 intro _;simp(disch:=refine id ?_;kernel_rfl) only[Hf,Oi,ASb,VL,AG (ACn _ _ _) (K:=Kk E43 0 3)];kernel_rfl
def Km(a:ASz):ATC (ASv×ASt):=
 (TX a).bind λb=>(VM a b 0 ([]:ASt)).bind λc=>some (b,c)
def c92:=Cc [.d ATq] [⟨[.AA [] ATq],[],ASv×ASt,λp=>Km p.1.1,λr=>(.pr Kd (.pr Gl .u),[EY r.1,Dm r.2])⟩]
theorem AaI:Am prog 92 c92:=As (fn:=f92) ⟨⟨E43,pk ⟨AfP,trivial⟩,λ_ R K=>by
 simp(disch:=refine id ?_;kernel_rfl) only[Km,ASc,VM,AG (ACo _ _) (K:=A2 E43 f92 0 R K)];kernel_rfl⟩,trivial⟩
abbrev E44:=eN [] {}
def Eu(a:ASp)(b:ASH)(c:Int):ATC Bool:=
 if 0<=c/\c<a.2.1.length then
 bif a.2.1.getD c.toNat (Ty.zero .bool)then
 some true
 else
 if 0<=c/\c<a.1.length then
 bif decide ((a.1.getD c.toNat Aa.zero).1>=0)then
 if 0<=c/\c<a.1.length then
 if(0:Int)<=(a.1.getD c.toNat Aa.zero).1/\(a.1.getD c.toNat Aa.zero).1<(b.length:Int)then
 if 0<=c/\c<a.1.length then
 if(0:Int)<=(a.1.getD c.toNat Aa.zero).2.1/\(a.1.getD c.toNat Aa.zero).2.1<((b.getD (a.1.getD c.toNat Aa.zero).1.toNat ATs.zero).length:Int)then
 some ((b.getD (a.1.getD c.toNat Aa.zero).1.toNat ATs.zero).getD (a.1.getD c.toNat Aa.zero).2.1.toNat (Ty.zero .bool))
 else none
 else none
 else none
 else none
 else
 some false
 else none
 else none
def c94:=Cc [.d Aq,.d ATA,.d ATl] [⟨[.AA [] Aq,.AA [] ATA,.AA [] ATl],[],Bool,λp=>Eu p.1.1 p.1.2.1 p.1.2.2.1,λr=>(dB r,[])⟩]
theorem qE:Am prog 94 c94:=As (fn:=f94) ⟨⟨E44,pk trivial,λ_ R K=>by
 simp only[Eu,ASc];kernel_rfl⟩,trivial⟩
abbrev E45:=eN [(94,c94)] {}
def Ka(a:ASp)(b:ASH)(c:Int):ATC Bool:=
 (Eu a b c).bind λd=>bif !d then
 if 0<=c/\c<a.1.length then
 some (decide ((a.1.getD c.toNat Aa.zero).1>=0))
 else none
 else
 some false
def AEu:=Cc [.d Aq,.d ATA,.d ATl] [⟨[.AA [] Aq,.AA [] ATA,.AA [] ATl],[],Bool,λp=>Ka p.1.1 p.1.2.1 p.1.2.2.1,λr=>(dB r,[])⟩]
theorem AfO:Am prog 123 AEu:=As (fn:=f123) ⟨⟨E45,pk ⟨qE,trivial⟩,λ_ R K=>by
 simp only[Ka,ASc];kernel_rfl⟩,trivial⟩
abbrev gZ:=eN [(55,c55),(92,c92),(94,c94),(123,AEu)] {vV:=[(59,4),(67,4),(151,4)],A4:=[(6,{Bc:=[2,7,9,10],Ce:=[(9,false,.row [] 176 Aq true)]}),(9,[2,7,9,10,11]),(17,[2,9,13]),(20,[2,9,13,14]),(24,[2,9,13,14,15,16]),(31,[2,9,13,14,15,16,17,18])],BD:=[(6,[2,9]),(9,[2,7,9,10]),(17,{Bc:=[]}),(20,[2,9,13]),(24,[2,9,13,14]),(31,[2,9,13,14,15,16])],BR:=[(10,[2,7,9,10,11]),(25,[2,9,13,14,15,16]),(29,[2,9,13,14,15,16,17]),(30,[2,9,13,14,15,16,17]),(32,[2,9,13,14,15,16,17,18]),(36,[2,9,13,14,15,16,17,18,20,142])],DR:=[(10,[2,7,9,10,11]),(25,[2,9,13,14,15,16]),(29,[2,9,13,14,15,16,17]),(30,[2,9,13,14,15,16,17]),(32,[2,9,13,14,15,16,17,18]),(36,[2,9,13,14,15,16,17,18,19,20])]}
def AsC a (z_:Bool×ASH):=sT 159 [(2,.AH 0),(9,.AH 1),(13,dB z_.1)] (T2 z_.2 a)
def AqL(a:ASF):=λ(b:ASH)=>xE 4 159 [] [Ca b]
def AsB a (z_:Bool×Int×ASH):=sT 159 [(2,.AH 0),(9,.AH 1),(13,dB z_.1),(14,dI z_.2.1)] (T2 z_.2.2 a)
def AqK a:=λ(c:ASW)=>xE 6 159 [(2,.AH 0),(9,.AH 1),(13,dB c.1)] (T2 c.2 a)
def AsA d a e (z_:Bool×Int×ASH):=sT 159 (AbV z_.1 d e z_.2.1) (T2 z_.2.2 a)
def AqJ d a (e:Int):=λ(g:ASW)=>xE 8 159 [(2,.AH 0),(9,.AH 1),(13,dB g.1),(14,dI d)] (T2 g.2 a)
def Asz i d e j k a:=sT 159 (AbV i d e j) (T2 k a)
def AqI(i:Bool) d e j (k:ASH) a:=λ(l:ASW)=>xN 159 (AbV l.1 d e j) (T2 l.2 a)
def AAh d e j a n (z_:Bool×Int×ASH):=sT 159 (Ajw z_.1 d e j n z_.2.1) (T2 z_.2.2 a)
def Aya d e j a (n:Int):=λ(o:ASW)=>xE 10 159 (AbV o.1 d e j) (T2 o.2 a)
def AAg q d e j n s t a:=sT 159 (Ajw q d e j n s) (T2 t a)
def Ax9(q:Bool) d e j n s (t:ASH) a:=λ(u:ASW)=>xN 159 (Ajw u.1 d e j n s) (T2 u.2 a)
def AAf q d e j n s t a v w:=sT 159 [(2,.AH 0),(9,.AH 1),(13,dB q),(14,dI d),(15,dI e),(16,dI j),(17,dI n),(18,dI s),(19,Lb),(20,cb)] [Ca t,Wr a,.box (.AA [1] Aq v),.box (.AA [1] Aq w)]
def Ax8 q d e j n s t a (v:ASp) w:=λ(x:Bool)=>xN 159 [(2,.AH 0),(9,.AH 1),(13,dB q),(14,dI d),(15,dI e),(16,dI j),(17,dI n),(18,dI s),(20,Lb),(142,dB x)] [Ca t,Wr a,.box (.AA [1] Aq w)]
def PZ(q:Bool)(d e j n s:Int)(t:ASH)(a:ASF)(v w:ASp):ATC Bool:=
 (Eu v t n).bind λy=>bif y then
 (Ka w t n).bind λa1=>some a1
 else
 some false
theorem ACu q d e j n s t a v w:AP gZ 1 36 (sb (sb (sb (sb (sb (cd f90 1016) 108) 204) 6) 188) 6) 22 (AAf q d e j n s t a v w) (PZ q d e j n s t a v w) (Ax8 q d e j n s t a v w):=by
 unfold AP;simp only[PZ,ASb];kernel_rfl
def Lp(q:Bool)(d e j n s:Int)(t:ASH)(a:ASF):ATC ASW:=
 if 0<=(wI (d+s))/\(wI (d+s))<a.length then
 if 0<=(wI ((wI (d+1))-s))/\(wI ((wI (d+1))-s))<a.length then
 (PZ q d e j n s t a (a.getD (wI (d+s)).toNat Aq.zero) (a.getD (wI ((wI (d+1))-s)).toNat Aq.zero)).bind λx=>bif x then
 if 0<=n/\n<(a.getD (wI ((wI (d+1))-s)).toNat Aq.zero).1.length then
 if(0:Int)<=((a.getD (wI ((wI (d+1))-s)).toNat Aq.zero).1.getD n.toNat Aa.zero).1/\((a.getD (wI ((wI (d+1))-s)).toNat Aq.zero).1.getD n.toNat Aa.zero).1<(t.length:Int)then
 if 0<=n/\n<(a.getD (wI ((wI (d+1))-s)).toNat Aq.zero).1.length then
 if(0:Int)<=((a.getD (wI ((wI (d+1))-s)).toNat Aq.zero).1.getD n.toNat Aa.zero).2.1/\((a.getD (wI ((wI (d+1))-s)).toNat Aq.zero).1.getD n.toNat Aa.zero).2.1<(t.getD ((a.getD (wI ((wI (d+1))-s)).toNat Aq.zero).1.getD n.toNat Aa.zero).1.toNat ATs.zero).length then
 some (true,t.set ((a.getD (wI ((wI (d+1))-s)).toNat Aq.zero).1.getD n.toNat Aa.zero).1.toNat ((t.getD ((a.getD (wI ((wI (d+1))-s)).toNat Aq.zero).1.getD n.toNat Aa.zero).1.toNat ATs.zero).set ((a.getD (wI ((wI (d+1))-s)).toNat Aq.zero).1.getD n.toNat Aa.zero).2.1.toNat true))
 else none
 else none
 else none
 else none
 else
 some (q,t)
 else none
 else none
theorem ACv q d e j n s t a:AP gZ 1 32 (sb (sb (sb (sb (cd f90 1016) 108) 204) 6) 188) 6 (AAg q d e j n s t a) (Lp q d e j n s t a) (Ax9 q d e j n s t a):=by
 unfold AP;simp(disch:=refine id ?_;kernel_rfl) only[Lp,ASb,A8 (ACu ..) (K:=Ud gZ 1 32)];kernel_rfl
def Mw(d e j:Int)(a:ASF)(n:Int)(q:Bool)(s:Int)(t:ASH):ATC ((Bool×Int×ASH)⊕ASW):=
 bif decide (s<2)then
 (Lp q d e j n s t a).bind λu=>some (.inl (u.1,wI (s+1),u.2))
 else
 some (.inr (q,t))
def FX d e j a n (z_:Bool×Int×ASH):=Mw d e j a n z_.1 z_.2.1 z_.2.2
def Un d e j a n q s t:=fix (FX d e j a n) (q,s,t)
theorem ACw d e j a n:A3 gZ 1 31 (sb (sb (sb (cd f90 1016) 108) 204) 6) 94 (AAh d e j a n) (FX d e j a n) (Aya d e j a n):=by
 intro _;simp(disch:=refine id ?_;kernel_rfl) only[FX,Mw,ASb,A8 (ACv ..) (K:=Kk gZ 1 31)];kernel_rfl
def AAe i d e j k a b1:=sT 159 (xh i d e j b1) (T2 k a)
def Ax7 i d e j k a b1:=Sum.elim (λ(c1:Unit)=>xE 9 159 (xh i d e j b1) (T2 k a)) (λ(d1:Unit)=>xN 159 (xh i d e j b1) (T2 k a))
def PY(i:Bool)(d e j:Int)(k:ASH)(a:ASF)(b1:Int):ATC (Unit⊕Unit):=
 bif decide (b1<1)then
 some (.inl ())
 else
 bif decide (b1>=e)then
 some (.inl ())
 else
 some (.inr ())
theorem ACt i d e j k a b1:AP gZ 1 30 (sb (sb (sb (cd f90 1016) 108) 204) 6) 22 (AAe i d e j k a b1) (PY i d e j k a b1) (Ax7 i d e j k a b1):=by
 unfold AP;simp only[PY,ASb];kernel_rfl
def Anb i d e j k a:=sT 159 (xh i d e j j) (T2 k a)
def AeA(i:Bool)(d e j:Int)(k:ASH)(a:ASF)(m0:Int):Ex×St:=xN 159 (xh i d e j m0) (T2 k a)
theorem ACs i d e j k a:Za gZ 1 29 (sb (sb (sb (cd f90 1016) 108) 204) 6) (pt 10) (Anb i d e j k a)=some (AeA i d e j k a (bif decide (j>=e)then(wI ((wI (2*e))-j))else j)):=by
 refine .trans (b:=
 bif decide (j>=e)then
 some (AeA i d e j k a (wI ((wI (2*e))-j)))
 else
 some (AeA i d e j k a j)) (by kernel_rfl) ?_
 cases (decide (j>=e));rfl;rfl
def J9(i:Bool)(d e j:Int)(k:ASH)(a:ASF):ATC ASW:=
 R3 (Anb i d e j k a) (
 (PY i d e j k a (bif decide (j>=e)then(wI ((wI (2*e))-j))else j)).bind (Sum.elim (λc1=>some (i,k)) (λd1=>(Un d e j a (bif decide (j>=e)then(wI ((wI (2*e))-j))else j) i 0 k).bind λo=>some (o.1,o.2))))
theorem AuJ i d e j k a:AP gZ 1 25 (sb (sb (cd f90 1016) 108) 204) 6 (Asz i d e j k a) (J9 i d e j k a) (AqI i d e j k a):=by
 unfold AP;simp(disch:=refine id ?_;kernel_rfl) only[J9,ASb,GN (ACs ..) (K:=Ud gZ 1 25),A8 (ACt ..) (K:=Ud gZ 1 25),Un,AG (ACw _ _ _ _ _) (K:=Ud gZ 1 25)];kernel_rfl
def K3(d:Int)(a:ASF)(e:Int)(i:Bool)(j:Int)(k:ASH):ATC ((Bool×Int×ASH)⊕ASW):=
 bif decide (j<(wI (2*e)))then
 (J9 i d e j k a).bind λl=>some (.inl (l.1,wI (j+1),l.2))
 else
 some (.inr (i,k))
def EV d a e (z_:Bool×Int×ASH):=K3 d a e z_.1 z_.2.1 z_.2.2
def SX d a e i j k:=fix (EV d a e) (i,j,k)
theorem AuK d a e:A3 gZ 1 24 (sb (cd f90 1016) 108) 102 (AsA d a e) (EV d a e) (AqJ d a e):=by
 intro _;simp(disch:=refine id ?_;kernel_rfl) only[EV,K3,ASb,A8 (AuJ ..) (K:=Kk gZ 1 24)];kernel_rfl
def K4(a:ASF)(e1:Bool)(d:Int)(g1:ASH):ATC ((Bool×Int×ASH)⊕ASW):=
 bif decide (d<(a.length:Int))then
 if 0<=d/\d<a.length then
 (SX d a ((a.getD d.toNat Aq.zero).1.length:Int) e1 1 g1).bind λg=>some (.inl (g.1,wI (d+2),g.2))
 else none
 else
 some (.inr (e1,g1))
def EW a (z_:Bool×Int×ASH):=K4 a z_.1 z_.2.1 z_.2.2
def SY a e1 d g1:=fix (EW a) (e1,d,g1)
theorem AuL a:A3 gZ 1 20 (cd f90 1016) 54 (AsB a) (EW a) (AqK a):=by
 intro _;simp(disch:=refine id ?_;kernel_rfl) only[EW,K4,ASb,SX,AG (AuK _ _ _) (K:=Kk gZ 1 20)];kernel_rfl
def Qm(a:ASF)(i1:Bool)(j1:ASH):ATC (ASW⊕ASH):=
 bif i1 then
 (SY a false 0 j1).bind λc=>some (.inl (c.1,c.2))
 else
 some (.inr j1)
def K5 a (z_:Bool×ASH):=Qm a z_.1 z_.2
def SZ a i1 j1:=fix (K5 a) (i1,j1)
theorem AuM a:A3 gZ 1 17 (code f90) 508 (AsC a) (K5 a) (AqL a):=by
 intro _;simp(disch:=refine id ?_;kernel_rfl) only[K5,Qm,ASb,SY,AG (AuL _) (K:=Kk gZ 1 17)];kernel_rfl
def AAd k1 (z_:Int×ASH×ASF):=sT 159 [(2,.AH 0),(7,.AH 1),(9,.AH 2),(10,dI z_.1)] [Ca z_.2.1,RU k1,Wr z_.2.2]
def Ax6(k1:ASJ):=λ(l1:(ASH×ASF))=>xE 0 159 [(2,.AH 0),(9,.AH 1)] (T2 l1.1 l1.2)
def AAc n1 k1 o1 (z_:Int×ASH):=sT 159 (Ajx n1 z_.1) [Ca z_.2,RU k1,Wr o1]
def Ax5 n1 k1 o1:=λ(q1:ASH)=>xE 2 159 [(2,.AH 0),(7,.AH 1),(9,.AH 2),(10,dI n1)] [Ca q1,RU k1,Wr o1]
def AAb n1 s1 t1 k1 o1:=sT 159 (Ajx n1 s1) [Ca t1,RU k1,Wr o1]
def Ax4 n1 s1 (t1:ASH) k1 o1:=λ(u1:ASH)=>xN 159 (Ajx n1 s1) [Ca u1,RU k1,Wr o1]
def Ln(n1 s1:Int)(t1:ASH)(k1:ASJ)(o1:ASF):ATC ASH:=
 if 0<=n1/\n1<k1.length then
 if 0<=s1/\s1<(k1.getD n1.toNat ATq.zero).length then
 bif decide (((k1.getD n1.toNat ATq.zero).getD s1.toNat Af.zero).1>=0)then
 if(0:Int)<=((k1.getD n1.toNat ATq.zero).getD s1.toNat Af.zero).1/\((k1.getD n1.toNat ATq.zero).getD s1.toNat Af.zero).1<(t1.length:Int)then
 if(0:Int)<=((k1.getD n1.toNat ATq.zero).getD s1.toNat Af.zero).2.1/\((k1.getD n1.toNat ATq.zero).getD s1.toNat Af.zero).2.1<(t1.getD ((k1.getD n1.toNat ATq.zero).getD s1.toNat Af.zero).1.toNat ATs.zero).length then
 if(0:Int)<=((k1.getD n1.toNat ATq.zero).getD s1.toNat Af.zero).1/\((k1.getD n1.toNat ATq.zero).getD s1.toNat Af.zero).1<((t1.set ((k1.getD n1.toNat ATq.zero).getD s1.toNat Af.zero).1.toNat ((t1.getD ((k1.getD n1.toNat ATq.zero).getD s1.toNat Af.zero).1.toNat ATs.zero).set ((k1.getD n1.toNat ATq.zero).getD s1.toNat Af.zero).2.1.toNat true)).length:Int)then
 if(0:Int)<=(wI (((k1.getD n1.toNat ATq.zero).getD s1.toNat Af.zero).2.1+((k1.getD n1.toNat ATq.zero).getD s1.toNat Af.zero).2.2.1))/\(wI (((k1.getD n1.toNat ATq.zero).getD s1.toNat Af.zero).2.1+((k1.getD n1.toNat ATq.zero).getD s1.toNat Af.zero).2.2.1))<((t1.set ((k1.getD n1.toNat ATq.zero).getD s1.toNat Af.zero).1.toNat ((t1.getD ((k1.getD n1.toNat ATq.zero).getD s1.toNat Af.zero).1.toNat ATs.zero).set ((k1.getD n1.toNat ATq.zero).getD s1.toNat Af.zero).2.1.toNat true)).getD ((k1.getD n1.toNat ATq.zero).getD s1.toNat Af.zero).1.toNat ATs.zero).length then
 some ((t1.set ((k1.getD n1.toNat ATq.zero).getD s1.toNat Af.zero).1.toNat ((t1.getD ((k1.getD n1.toNat ATq.zero).getD s1.toNat Af.zero).1.toNat ATs.zero).set ((k1.getD n1.toNat ATq.zero).getD s1.toNat Af.zero).2.1.toNat true)).set ((k1.getD n1.toNat ATq.zero).getD s1.toNat Af.zero).1.toNat (((t1.set ((k1.getD n1.toNat ATq.zero).getD s1.toNat Af.zero).1.toNat ((t1.getD ((k1.getD n1.toNat ATq.zero).getD s1.toNat Af.zero).1.toNat ATs.zero).set ((k1.getD n1.toNat ATq.zero).getD s1.toNat Af.zero).2.1.toNat true)).getD ((k1.getD n1.toNat ATq.zero).getD s1.toNat Af.zero).1.toNat ATs.zero).set (wI (((k1.getD n1.toNat ATq.zero).getD s1.toNat Af.zero).2.1+((k1.getD n1.toNat ATq.zero).getD s1.toNat Af.zero).2.2.1)).toNat true))
 else none
 else none
 else none
 else none
 else
 some t1
 else none
 else none
theorem ACp n1 s1 t1 k1 o1:AP gZ 1 10 (sb (cd f90 500) 196) 6 (AAb n1 s1 t1 k1 o1) (Ln n1 s1 t1 k1 o1) (Ax4 n1 s1 t1 k1 o1):=by
 unfold AP;simp only[Ln,ASb];kernel_rfl
def Mu(n1:Int)(k1:ASJ)(o1:ASF)(s1:Int)(t1:ASH):ATC ((Int×ASH)⊕ASH):=
 if 0<=n1/\n1<k1.length then
 bif decide (s1<((k1.getD n1.toNat ATq.zero).length:Int))then
 (Ln n1 s1 t1 k1 o1).bind λu1=>some (.inl (wI (s1+1),u1))
 else
 some (.inr t1)
 else none
def FV n1 k1 o1 (z_:Int×ASH):=Mu n1 k1 o1 z_.1 z_.2
def Ul n1 k1 o1 s1 t1:=fix (FV n1 k1 o1) (s1,t1)
theorem ACq n1 k1 o1:A3 gZ 1 9 (cd f90 500) 98 (AAc n1 k1 o1) (FV n1 k1 o1) (Ax5 n1 k1 o1):=by
 intro _;simp(disch:=refine id ?_;kernel_rfl) only[FV,Mu,ASb,A8 (ACp ..) (K:=Kk gZ 1 9)];kernel_rfl
def Mv(k1:ASJ)(n1:Int)(v1:ASH)(o1:ASF):ATC ((Int×ASH×ASF)⊕(ASH×ASF)):=
 bif decide (n1<(k1.length:Int))then
 (Ul n1 k1 o1 0 v1).bind λq1=>if 0<=n1/\n1<k1.length then
 (Km (k1.getD n1.toNat ATq.zero)).bind λw1=>if(o1.length+([(w1.1,w1.2,())]:ASF).length)*48<=140737488355328 then
 some (.inl (wI (n1+1),q1,o1++([(w1.1,w1.2,())]:ASF)))
 else none
 else none
 else
 some (.inr (v1,o1))
def FW k1 (z_:Int×ASH×ASF):=Mv k1 z_.1 z_.2.1 z_.2.2
def Um k1 n1 v1 o1:=fix (FW k1) (n1,v1,o1)
theorem ACr k1:A3 gZ 1 6 (code f90) 250 (AAd k1) (FW k1) (Ax6 k1):=by
 intro _;simp(disch:=refine id ?_;kernel_rfl) only[FW,Mv,ASb,Ul,AG (ACq _ _ _) (K:=Kk gZ 1 6)];kernel_rfl
def UL(x1:ASw)(y1:ASy)(a2:ASH):ATC ASW:=
 (Oj x1 y1).bind λb2=>bif !b2.1 then
 some (false,a2)
 else
 (Um b2.2 0 a2 ([]:ASF)).bind λl1=>(SZ l1.2 true l1.1).bind λb=>some (true,b)
def c90:=Cc [.d ATr,.d ATt,.UY] [⟨[.AA [] ATr,.AA [] ATt,.k Kd],[.row 95 .Av ATs],ASW,λp=>UL p.1.1 p.1.2.1 p.2.1,λr=>(dB r.1,[Ca r.2])⟩]
theorem Aly:Am prog 90 c90:=As (fn:=f90) ⟨⟨gZ,pk ⟨qA,AaI,qE,AfO,trivial⟩,λ_ R K=>by
 simp(disch:=refine id ?_;kernel_rfl) only[UL,ASc,Um,AG (ACr _) (K:=A2 gZ f90 1 R K),SZ,AG (AuM _) (K:=A2 gZ f90 1 R K)];kernel_rfl⟩,trivial⟩
abbrev E47:=eN [] {A4:=[(3,{Bc:=[0,2,3,4],Ce:=[(3,true,.row [0] 78 ATo true)]}),(7,{Bc:=[0,2,3,4,5,6],Ce:=[(5,false,.row [] 2 ATl true)]})],BD:=[(3,[2,3]),(7,[0,2,3,4,5])],BR:=[(8,{Bc:=[0,2,3,4,5,6],Ce:=[(5,false,.row [] 2 ATl true)]})],DR:=[(8,[0,2,3,4,5,6])]}
def AAk a (z_:Int×ASG):=sT 43 [(0,X5 a),(2,Au),(3,A9),(4,dI z_.1)] (AbS z_.2)
def Ayd(a:ASH):=λ(b:ASG)=>xE 0 43 [(2,Au),(3,A9)] (AbS b)
def AAj a c d (z_:Int×ASs):=sT 43 (Ajy a c z_.1) (AbW z_.2 d)
def Ayc a c d:=λ(e:ASs)=>xE 2 43 [(0,X5 a),(2,Au),(3,A9),(4,dI c),(5,.AH 2)] (AbW e d)
def AAi a c g i d:=sT 43 (Ajy a c g) (AbW i d)
def Ayb a c g (i:ASs) d:=λ(j:ASs)=>xN 43 (Ajy a c g) (AbW j d)
def Nj(a:ASH)(c g:Int)(i:ASs)(d:ASG):ATC ASs:=
 if 0<=c/\c<a.length then
 if 0<=g/\g<(a.getD c.toNat ATs.zero).length then
 bif (a.getD c.toNat ATs.zero).getD g.toNat (Ty.zero .bool)then
 if(i.length+([g]:ASs).length)*8<=140737488355328 then
 some (i++([g]:ASs))
 else none
 else
 some i
 else none
 else none
theorem ACx a c g i d:AP E47 0 8 (sb (cd f91 116) 404) 6 (AAi a c g i d) (Nj a c g i d) (Ayb a c g i d):=by
 unfold AP;simp only[Nj,ASb];kernel_rfl
def Oc(a:ASH)(c:Int)(d:ASG)(g:Int)(i:ASs):ATC (ASP⊕ASs):=
 if 0<=c/\c<a.length then
 bif decide ((wI (g+1))<((a.getD c.toNat ATs.zero).length:Int))then
 (Nj a c g i d).bind λj=>some (.inl (wI (g+1),j))
 else
 some (.inr i)
 else none
def Ha a c d (z_:Int×ASs):=Oc a c d z_.1 z_.2
def VI a c d g i:=fix (Ha a c d) (g,i)
theorem ACy a c d:A3 E47 0 7 (cd f91 116) 202 (AAj a c d) (Ha a c d) (Ayc a c d):=by
 intro _;simp(disch:=refine id ?_;kernel_rfl) only[Ha,Oc,ASb,A8 (ACx ..) (K:=Kk E47 0 7)];kernel_rfl
def Od(a:ASH)(c:Int)(d:ASG):ATC (ASX⊕ASG):=
 bif decide (c<(a.length:Int))then
 (VI a c d 1 ([]:ASs)).bind λe=>if(d.length+([e]:ASG).length)*24<=140737488355328 then
 some (.inl (wI (c+1),d++([e]:ASG)))
 else none
 else
 some (.inr d)
def Hb a (z_:Int×ASG):=Od a z_.1 z_.2
def VJ a c d:=fix (Hb a) (c,d)
theorem ACz a:A3 E47 0 3 (code f91) 58 (AAk a) (Hb a) (Ayd a):=by
 intro _;simp(disch:=refine id ?_;kernel_rfl) only[Hb,Od,ASb,VI,AG (ACy _ _ _) (K:=Kk E47 0 3)];kernel_rfl
def T1(a:ASH):ATC ASG:=
 (VJ a 0 ([]:ASG)).bind λb=>some b
def c91:=Cc [.d ATA] [⟨[.AA [] ATA],[],ASG,λp=>T1 p.1.1,λr=>(.pr Kd .u,[Bl r])⟩]
theorem Alz:Am prog 91 c91:=As (fn:=f91) ⟨⟨E47,pk trivial,λ_ R K=>by
 simp(disch:=refine id ?_;kernel_rfl) only[T1,ASc,VJ,AG (ACz _) (K:=A2 E47 f91 0 R K)];kernel_rfl⟩,trivial⟩
end
end Go.Proofs.X
