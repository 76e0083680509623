import Derived.KernelRfl
import Derived.Test.YtniphlhooggimaaGreatK2
set_option linter.unusedVariables false
set_option linter.unusedSimpArgs false
namespace Go.Proofs.X
open Go Go.Va Go.Proofs.Tryz
set_option maxRecDepth 100000
noncomputable section
abbrev E24:=eN [] {}
def CQ(a:AOr):Bool:=((a.1==0)&&((a.2.1.length:Int)==0))
theorem U24 R a K:Sr E24 f171 R [Gr a] [] K=K (dB (CQ a)) []:=by
 refine .trans (b:=
 bif a.1==0 then
 K (dB ((a.2.1.length:Int)==0)) []
 else
 K (dB false) []) (by kernel_rfl) ?_
 unfold CQ;cases (a.1==0);rfl;rfl
def ABw:=Cx [.d Ah] [⟨[.AB [] Ah],[],Bool,λp=>some (CQ p.1.1),λr=>(dB r,[])⟩]
theorem Aep:Aq prog 171 ABw:=Av ⟨⟨E24,pk trivial,λ_ _ _=>U24 ..⟩,trivial⟩
abbrev E25:=eN [(81,c81)] {}
def A5(a:Int):Bool:=(BF a 4 9)
def ABx:=Cx [.d APr] [⟨[.AB [] APr],[],Bool,λp=>some (A5 p.1.1),λr=>(dB r,[])⟩]
theorem Aeq:Aq prog 172 ABx:=Av (fn:=f172) ⟨⟨E25,pk ⟨UO,trivial⟩,λ_ _ _=>by kernel_rfl⟩,trivial⟩
abbrev E26:=eN [] {}
def Iq(a:AOr)(b:Int):APJ Int:=
 if 0<=(wI (Int.tdiv b 64))/\(wI (Int.tdiv b 64))<a.2.1.length then
 if(IntKind.u64.wrap (Int.tmod b 64))<(0:Int)then none else
 some (IntKind.u8.wrap (fa .u64 (Ro .u64 (a.2.1.getD (wI (Int.tdiv b 64)).toNat APs.zero) (IntKind.u64.wrap (Int.tmod b 64))) 1))
 else none
def AiE:=Cx [.d Ah,.d APr] [⟨[.AB [] Ah,.AB [] APr],[],Int,λp=>Iq p.1.1 p.1.2.1,λr=>(dD APt r,[])⟩]
theorem gR:Aq prog 152 AiE:=Av (fn:=f152) ⟨⟨E26,pk trivial,λ_ R K=>by
 simp only[Iq,AOj];kernel_rfl⟩,trivial⟩
abbrev E27:=eN [(81,c81),(152,AiE)] {A8:=[(4,[1,3])],BW:=[(4,[2])],BS:=[(2,[1,17])],DD:=[(2,[1])]}
def Awa a (z_:Int):=sT 32 [(1,Ar),(3,dI z_)] [.box (Gr a)]
def At5(a:AOr):=Sum.elim (λ(b:Unit)=>xR 32 [(2,dB false)] []) (λ(c:Unit)=>xE 0 32 [] [])
def ML(a:AOr)(d:Int):APJ (Int⊕(Unit⊕Unit)):=
 bif decide (d<(wI (64*(a.2.1.length:Int))))then
 (Iq a d).bind λe=>bif e !=0 then
 some (.inr (.inl ()))
 else
 some (.inl (wI (d+1)))
 else
 some (.inr (.inr ()))
def I9 a (z_:Int):=ML a z_
def Un a d:=fix (I9 a) d
theorem Ayg a:A4 E27 0 4 (code f173) 58 (Awa a) (I9 a) (At5 a):=by
 intro _;simp only[I9,ML,AOi];kernel_rfl
def AkH a:=sT 32 [(1,Ar)] [.box (Gr a)]
def Acv(a:AOr)(m0:Bool):Ex×St:=xN 32 [(1,Ar),(17,dB m0)] [.box (Gr a)]
theorem Ayf a:Xn E27 0 2 (code f173) (pt 12) (AkH a)=some (Acv a ((!(BF a.1 1 4096))||((a.2.1.length:Int) !=(wI (Int.tdiv (wI (a.1+63)) 64))))):=by
 refine .trans (b:=
 bif !(BF a.1 1 4096)then
 some (Acv a true)
 else
 some (Acv a ((a.2.1.length:Int) !=(wI (Int.tdiv (wI (a.1+63)) 64))))) (by kernel_rfl) ?_
 cases (!(BF a.1 1 4096));rfl;rfl
def Pn(a:AOr):APJ Bool:=
 PD (AkH a) (
 bif (!(BF a.1 1 4096))||((a.2.1.length:Int) !=(wI (Int.tdiv (wI (a.1+63)) 64)))then
 some false
 else
 (Un a a.1).bind (Sum.elim (λb=>some false) (λc=>some true)))
def ABy:=Cx [.d Ah] [⟨[.AB [] Ah],[],Bool,λp=>Pn p.1.1,λr=>(dB r,[])⟩]
theorem Aer:Aq prog 173 ABy:=Av (fn:=f173) ⟨⟨E27,pk ⟨UO,gR,trivial⟩,λ_ R K=>by
 simp(disch:=refine id ?_;kernel_rfl) only[Pn,AOj,Ft (Ayf _) (K:=A2 E27 f173 0 R K),Un,AH (Ayg _) (K:=A2 E27 f173 0 R K)];kernel_rfl⟩,trivial⟩
abbrev E28:=eN [(81,c81),(171,ABw),(172,ABx),(173,ABy)] {A8:=[(2,[0,2,4,7])],BW:=[(2,[0,4,6])],BS:=[(7,[0,4,63]),(8,[0,4,6])],DD:=[(7,[0,4]),(8,[0,4])]}
def Awc a b:=sT 109 [(0,Au a),(4,Ar)] (UB b)
def At7 a b:=Sum.elim (λ(c:Unit)=>xR 109 [(0,Au a),(4,Ar),(6,dB false)] (UB b)) (λ(d:Unit)=>xN 109 [(0,Au a),(4,Ar)] (UB b))
def AkI a b:=sT 109 [(0,Au a),(4,Ar)] (UB b)
def K0(a:AOE)(b:AOq)(m0:Bool):Ex×St:=xN 109 [(0,Au a),(4,Ar),(63,dB m0)] (UB b)
theorem Ayi a b:Xn E28 0 7 (cd f150 14) (pt 2) (AkI a b)=some (K0 a b (bif b.1 !=1 then((b.2.1 !=0)||(bif b.1 !=2 then((!(CQ b.2.2.2.2.1))||(bif b.1 !=4 then((b.2.2.2.1 !=0)||((!(A5 b.1))&&(b.2.2.1 !=0)))else((!(A5 b.1))&&(b.2.2.1 !=0))))else(bif b.1 !=4 then((b.2.2.2.1 !=0)||((!(A5 b.1))&&(b.2.2.1 !=0)))else((!(A5 b.1))&&(b.2.2.1 !=0)))))else(bif b.1 !=2 then((!(CQ b.2.2.2.2.1))||(bif b.1 !=4 then((b.2.2.2.1 !=0)||((!(A5 b.1))&&(b.2.2.1 !=0)))else((!(A5 b.1))&&(b.2.2.1 !=0))))else(bif b.1 !=4 then((b.2.2.2.1 !=0)||((!(A5 b.1))&&(b.2.2.1 !=0)))else((!(A5 b.1))&&(b.2.2.1 !=0)))))):=by
 refine .trans (b:=
 bif b.1 !=1 then
 bif b.2.1 !=0 then
 some (K0 a b true)
 else
 bif b.1 !=2 then
 bif !(CQ b.2.2.2.2.1)then
 some (K0 a b true)
 else
 bif b.1 !=4 then
 bif b.2.2.2.1 !=0 then
 some (K0 a b true)
 else
 bif !(A5 b.1)then
 some (K0 a b (b.2.2.1 !=0))
 else
 some (K0 a b false)
 else
 bif !(A5 b.1)then
 some (K0 a b (b.2.2.1 !=0))
 else
 some (K0 a b false)
 else
 bif b.1 !=4 then
 bif b.2.2.2.1 !=0 then
 some (K0 a b true)
 else
 bif !(A5 b.1)then
 some (K0 a b (b.2.2.1 !=0))
 else
 some (K0 a b false)
 else
 bif !(A5 b.1)then
 some (K0 a b (b.2.2.1 !=0))
 else
 some (K0 a b false)
 else
 bif b.1 !=2 then
 bif !(CQ b.2.2.2.2.1)then
 some (K0 a b true)
 else
 bif b.1 !=4 then
 bif b.2.2.2.1 !=0 then
 some (K0 a b true)
 else
 bif !(A5 b.1)then
 some (K0 a b (b.2.2.1 !=0))
 else
 some (K0 a b false)
 else
 bif !(A5 b.1)then
 some (K0 a b (b.2.2.1 !=0))
 else
 some (K0 a b false)
 else
 bif b.1 !=4 then
 bif b.2.2.2.1 !=0 then
 some (K0 a b true)
 else
 bif !(A5 b.1)then
 some (K0 a b (b.2.2.1 !=0))
 else
 some (K0 a b false)
 else
 bif !(A5 b.1)then
 some (K0 a b (b.2.2.1 !=0))
 else
 some (K0 a b false)) (by kernel_rfl) ?_
 cases (b.1 !=1);cases (b.1 !=2);cases (b.1 !=4);cases (!(A5 b.1));rfl;rfl;cases (b.2.2.2.1 !=0);cases (!(A5 b.1));rfl;rfl;rfl;cases (!(CQ b.2.2.2.2.1));cases (b.1 !=4);cases (!(A5 b.1));rfl;rfl;cases (b.2.2.2.1 !=0);cases (!(A5 b.1));rfl;rfl;rfl;rfl;cases (b.2.1 !=0);cases (b.1 !=2);cases (b.1 !=4);cases (!(A5 b.1));rfl;rfl;cases (b.2.2.2.1 !=0);cases (!(A5 b.1));rfl;rfl;rfl;cases (!(CQ b.2.2.2.2.1));cases (b.1 !=4);cases (!(A5 b.1));rfl;rfl;cases (b.2.2.2.1 !=0);cases (!(A5 b.1));rfl;rfl;rfl;rfl;rfl
def Qw(a:AOE)(b:AOq):APJ (Unit⊕Unit):=
 PD (AkI a b) (
 bif bif (b.1 !=1)then((b.2.1 !=0)||(bif (b.1 !=2)then((!(CQ b.2.2.2.2.1))||(bif (b.1 !=4)then((b.2.2.2.1 !=0)||((!(A5 b.1))&&(b.2.2.1 !=0)))else((!(A5 b.1))&&(b.2.2.1 !=0))))else(bif (b.1 !=4)then((b.2.2.2.1 !=0)||((!(A5 b.1))&&(b.2.2.1 !=0)))else((!(A5 b.1))&&(b.2.2.1 !=0)))))else(bif (b.1 !=2)then((!(CQ b.2.2.2.2.1))||(bif (b.1 !=4)then((b.2.2.2.1 !=0)||((!(A5 b.1))&&(b.2.2.1 !=0)))else((!(A5 b.1))&&(b.2.2.1 !=0))))else(bif (b.1 !=4)then((b.2.2.2.1 !=0)||((!(A5 b.1))&&(b.2.2.1 !=0)))else((!(A5 b.1))&&(b.2.2.1 !=0))))then
 some (.inl ())
 else
 some (.inr ()))
theorem Ayj a b:AY E28 0 8 (code f150) 14 (Awc a b) (Qw a b) (At7 a b):=by
 unfold AY;simp(disch:=refine id ?_;kernel_rfl) only[Qw,AOi,Ft (Ayi ..) (K:=UH E28 0 8)];kernel_rfl
def Awb a e b (z_:Int):=sT 109 [(0,Au a),(2,dI e),(4,Ar),(7,dI z_)] (UB b)
def At6 a (e:Int) b:=Sum.elim (λ(g:Unit)=>xR 109 [(0,Au a),(4,Ar),(6,dB false)] (UB b)) (λ(i:Unit)=>xE 0 109 [(0,Au a),(4,Ar)] (UB b))
def MW(a:AOE)(e:Int)(b:AOq)(j:Int):APJ (Int⊕(Unit⊕Unit)):=
 bif decide (j<(b.2.2.2.2.2.1.length:Int))then
 if 0<=j/\j<b.2.2.2.2.2.1.length then
 bif !(BF (b.2.2.2.2.2.1.getD j.toNat APr.zero) 0 (wI (e-1)))then
 some (.inr (.inl ()))
 else
 some (.inl (wI (j+1)))
 else none
 else
 some (.inr (.inr ()))
def Jh a e b (z_:Int):=MW a e b z_
def Up a e b j:=fix (Jh a e b) j
theorem Ayh a e b:A4 E28 0 2 (code f150) 26 (Awb a e b) (Jh a e b) (At6 a e b):=by
 intro _;simp only[Jh,MW,AOi];kernel_rfl
def Pq(a:AOE)(b:AOq)(e:Int):APJ Bool:=
 (Up a e b 0).bind (Sum.elim (λg=>some false) (λi=>(Qw a b).bind (Sum.elim (λc=>some false) (λd=>bif b.1==1 then
 bif (b.2.2.2.2.2.1.length:Int)==0 then
 some (BF b.2.1 0 (wI ((a.length:Int)-1)))
 else
 some false
 else
 bif b.1==2 then
 bif (b.2.2.2.2.2.1.length:Int)==0 then
 (Pn b.2.2.2.2.1).bind λk=>some k
 else
 some false
 else
 bif b.1==3 then
 some (decide ((b.2.2.2.2.2.1.length:Int)>=2))
 else
 bif A5 b.1 then
 some ((b.2.2.2.2.2.1.length:Int)==1)
 else
 some false))))
def ABg:=Cx [.d APx,.d Ag,.d APr] [⟨[.AB [] APx,.AB [] Ag,.AB [] APr],[],Bool,λp=>Pq p.1.1 p.1.2.1 p.1.2.2.1,λr=>(dB r,[])⟩]
theorem Ad9:Aq prog 150 ABg:=Av (fn:=f150) ⟨⟨E28,pk ⟨UO,Aep,Aeq,Aer,trivial⟩,λ_ R K=>by
 simp(disch:=refine id ?_;kernel_rfl) only[Pq,AOj,Up,AH (Ayh _ _ _) (K:=A2 E28 f150 0 R K),Bc (Ayj ..) (K:=A2 E28 f150 0 R K)];kernel_rfl⟩,trivial⟩
abbrev E29:=eN [(81,c81)] {A8:=[(3,[0,2,4,7,8])],BW:=[(3,[0,4,7])],BS:=[(13,[4,59]),(17,[4,7,28,66]),(22,[4,7,28,77]),(28,[6,7])],DD:=[(13,[4,7]),(17,[4,7,28]),(22,[4,7,28]),(28,[0,4,7])]}
def Awe a b c:=sT 95 [(0,Au a),(4,Ar),(7,dI b)] (UB c)
def At9(a:AOE) b (c:AOq):=Sum.elim (λ(d:Int)=>xR 95 [(6,dI d),(7,dI b)] []) (Sum.elim (λ(e:Int)=>xR 95 [(6,dI e)] []) (λ(g:Unit)=>xN 95 [(7,dI b)] []))
def AkL b (c:AOq):=sT 95 [(4,Ar),(7,dI b),(28,dI c.1)] (UB c)
def Acx(b:Int)(c:AOq)(m0:Bool):Ex×St:=xN 95 [(4,Ar),(7,dI b),(28,dI c.1),(77,dB m0)] (UB c)
theorem Ayn b c:Xn E29 0 22 (cd f151 30) (pt 3582) (AkL b c)=some (Acx b c (bif c.1==7 then(c.1==7)else(c.1==8))):=by
 refine .trans (b:=
 bif c.1==7 then
 some (Acx b c (c.1==7))
 else
 some (Acx b c (c.1==8))) (by kernel_rfl) ?_
 cases (c.1==7);rfl;rfl
def AkK b (c:AOq):=sT 95 [(4,Ar),(7,dI b),(28,dI c.1)] (UB c)
def Acw(b:Int)(c:AOq)(m0:Bool):Ex×St:=xN 95 [(4,Ar),(7,dI b),(28,dI c.1),(66,dB m0)] (UB c)
theorem Aym b c:Xn E29 0 17 (cd f151 30) (pt 894) (AkK b c)=some (Acw b c (bif c.1==5 then(c.1==5)else(c.1==6))):=by
 refine .trans (b:=
 bif c.1==5 then
 some (Acw b c (c.1==5))
 else
 some (Acw b c (c.1==6))) (by kernel_rfl) ?_
 cases (c.1==5);rfl;rfl
def AkJ b c:=sT 95 [(4,Ar),(7,dI b)] (UB c)
def x9(c:AOq)(m0:Bool):Ex×St:=xN 95 [(4,Ar),(59,dB m0)] (UB c)
theorem Ayl b c:Xn E29 0 13 (cd f151 30) (pt 1784) (AkJ b c)=some (x9 c ((decide (c.2.2.2.1<0))||((decide (c.2.2.1<c.2.2.2.1))||(decide (c.2.2.1>=b))))):=by
 refine .trans (b:=
 bif decide (c.2.2.2.1<0)then
 some (x9 c true)
 else
 bif decide (c.2.2.1<c.2.2.2.1)then
 some (x9 c true)
 else
 some (x9 c (decide (c.2.2.1>=b)))) (by kernel_rfl) ?_
 cases (decide (c.2.2.2.1<0));cases (decide (c.2.2.1<c.2.2.2.1));rfl;rfl;rfl
def Qx(a:AOE)(b:Int)(c:AOq):APJ (Int⊕(Int⊕Unit)):=
 bif c.1==1 then
 if(0:Int)<=c.2.1/\c.2.1<(a.length:Int)then
 some (.inl (a.getD c.2.1.toNat Ad.zero).2.1)
 else none
 else
 bif c.1==2 then
 some (.inl c.2.2.2.2.1.1)
 else
 bif c.1==4 then
 PD (AkJ b c) (
 bif (decide (c.2.2.2.1<0))||((decide (c.2.2.1<c.2.2.2.1))||(decide (c.2.2.1>=b)))then
 some (.inr (.inl (-1)))
 else
 some (.inr (.inl (wI ((wI (c.2.2.1-c.2.2.2.1))+1)))))
 else
 PD (AkK b c) (
 bif bif (c.1==5)then(c.1==5)else(c.1==6)then
 bif !(BF c.2.2.1 0 4096)then
 some (.inl (-1))
 else
 some (.inl (wI (b+c.2.2.1)))
 else
 PD (AkL b c) (
 bif bif (c.1==7)then(c.1==7)else(c.1==8)then
 bif !(BF c.2.2.1 0 4096)then
 some (.inl (-1))
 else
 some (.inr (.inr ()))
 else
 bif c.1==9 then
 bif !(BF c.2.2.1 1 4096)then
 some (.inl (-1))
 else
 some (.inl (wI (b*c.2.2.1)))
 else
 some (.inr (.inr ()))))
theorem Ayo a b c:AY E29 0 28 (code f151) 30 (Awe a b c) (Qx a b c) (At9 a b c):=by
 unfold AY;simp(disch:=refine id ?_;kernel_rfl) only[Qx,AOi,Ft (Ayl ..) (K:=UH E29 0 28),Ft (Aym ..) (K:=UH E29 0 28),Ft (Ayn ..) (K:=UH E29 0 28)];kernel_rfl
def Awd a i c (z_:Int×Int):=sT 95 [(0,Au a),(2,DW i),(4,Ar),(7,dI z_.1),(8,dI z_.2)] (UB c)
def At8 a (i:AOz) c:=λ(b:Int)=>xE 0 95 [(0,Au a),(4,Ar),(7,dI b)] (UB c)
def Wd(a:AOE)(i:AOz)(c:AOq)(j k:Int):APJ (AOY⊕Int):=
 bif decide (k<(c.2.2.2.2.2.1.length:Int))then
 if 0<=k/\k<c.2.2.2.2.2.1.length then
 if(0:Int)<=(c.2.2.2.2.2.1.getD k.toNat APr.zero)/\(c.2.2.2.2.2.1.getD k.toNat APr.zero)<(i.length:Int)then
 some (.inl ((if(wI (j+(i.getD (c.2.2.2.2.2.1.getD k.toNat APr.zero).toNat APr.zero)))<8192 then(wI (j+(i.getD (c.2.2.2.2.2.1.getD k.toNat APr.zero).toNat APr.zero)))else 8192),wI (k+1)))
 else none
 else none
 else
 some (.inr j)
def MX a i c (z_:Int×Int):=Wd a i c z_.1 z_.2
def Ya a i c j k:=fix (MX a i c) (j,k)
theorem Ayk a i c:A4 E29 0 3 (code f151) 58 (Awd a i c) (MX a i c) (At8 a i c):=by
 intro _;simp only[MX,Wd,AOi];kernel_rfl
def Sz(a:AOE)(c:AOq)(i:AOz):APJ Int:=
 (Ya a i c 0 0).bind λb=>(Qx a b c).bind (Sum.elim (λd=>some d) (Sum.elim (λe=>some e) (λg=>some b)))
def ABh:=Cx [.d APx,.d Ag,.d APw] [⟨[.AB [] APx,.AB [] Ag,.AB [] APw],[],Int,λp=>Sz p.1.1 p.1.2.1 p.1.2.2.1,λr=>(dI r,[])⟩]
theorem Aea:Aq prog 151 ABh:=Av (fn:=f151) ⟨⟨E29,pk ⟨UO,trivial⟩,λ_ R K=>by
 simp(disch:=refine id ?_;kernel_rfl) only[Sz,AOj,Ya,AH (Ayk _ _ _) (K:=A2 E29 f151 0 R K),Bc (Ayo ..) (K:=A2 E29 f151 0 R K)];kernel_rfl⟩,trivial⟩
abbrev E30:=eN [(79,c79),(81,c81),(150,ABg),(151,ABh)] {A8:=[(7,{Bb:=[0,3,5,6,7,8],Cg:=[(6,false,.row [] 2 APr true)]}),(16,[0,3,5,6,7,8,10]),(20,[5,6,7,11])],BW:=[(7,{Bb:=[4,5,6,7],RF:=[(7,false,APy)]}),(16,[0,3,5,6,7,8]),(20,[4,6])],BS:=[(3,[0,3,5,27])],DD:=[(3,[0,3,5])],jw:=[(0,.row [] 2 APr true)]}
def Awi a b (z_:Int):=sT 103 [(5,.zs),(6,.AG 0),(7,YT a),(11,dI z_)] [AA b]
def Aud(a:AOA) b:=Sum.elim (λ(c:Unit)=>xR 103 [(4,.zs),(6,.AG 0)] [AA b]) (λ(d:Unit)=>xE 4 103 [(6,.AG 0)] [AA b])
def Kc(a:AOA)(b:AOz)(e:Int):APJ (Int⊕(Unit⊕Unit)):=
 bif decide ((wI (e+1))<(a.length:Int))then
 if 0<=e/\e<a.length then
 bif !(a.getD e.toNat (Ty.zero .bool))then
 some (.inr (.inl ()))
 else
 some (.inl (wI (e+1)))
 else none
 else
 some (.inr (.inr ()))
def Ha a b (z_:Int):=Kc a b z_
def Ru a b e:=fix (Ha a b) e
theorem Ays a b:A4 E30 0 20 (code f116) 1018 (Awi a b) (Ha a b) (Aud a b):=by
 intro _;simp only[Ha,Kc,AOi];kernel_rfl
def Awh g i (z_:Int×AOz×AOA):=sT 103 [(0,Au g),(3,Ar),(5,.zs),(6,.AG 1),(7,.AG 2),(8,dI z_.1)] (qJ i z_.2.1 z_.2.2)
def Auc(g:AOE)(i:AOu):=Sum.elim (λ(j:AO1)=>xR 103 [(4,.zs),(5,.zs),(6,.AG 0),(7,YT j.1)] [AA j.2]) (λ(k:AO1)=>xE 0 103 [(5,.zs),(6,.AG 0),(7,YT k.1)] [AA k.2])
def Awg g l i n (z_:Int×AOA):=sT 103 [(0,Au g),(3,Ar),(5,.zs),(6,.AG 1),(7,.AG 2),(8,dI l),(10,dI z_.1)] (qJ i n z_.2)
def Aub g l i n:=λ(o:AOA)=>xE 2 103 [(0,Au g),(3,Ar),(5,.zs),(6,.AG 1),(7,.AG 2),(8,dI l)] (qJ i n o)
def Ka(g:AOE)(l:Int)(i:AOu)(n:AOz)(q:Int)(s:AOA):APJ ((Int×AOA)⊕AOA):=
 if 0<=l/\l<i.1.length then
 bif decide (q<((i.1.getD l.toNat Ag.zero).2.2.2.2.2.1.length:Int))then
 if 0<=l/\l<i.1.length then
 if 0<=q/\q<(i.1.getD l.toNat Ag.zero).2.2.2.2.2.1.length then
 if(0:Int)<=((i.1.getD l.toNat Ag.zero).2.2.2.2.2.1.getD q.toNat APr.zero)/\((i.1.getD l.toNat Ag.zero).2.2.2.2.2.1.getD q.toNat APr.zero)<(s.length:Int)then
 some (.inl (wI (q+1),s.set ((i.1.getD l.toNat Ag.zero).2.2.2.2.2.1.getD q.toNat APr.zero).toNat true))
 else none
 else none
 else none
 else
 some (.inr s)
 else none
def G8 g l i n (z_:Int×AOA):=Ka g l i n z_.1 z_.2
def Rt g l i n q s:=fix (G8 g l i n) (q,s)
theorem Ayq g l i n:A4 E30 0 16 (cd f116 1012) 830 (Awg g l i n) (G8 g l i n) (Aub g l i n):=by
 intro _;simp only[G8,Ka,AOi];kernel_rfl
def Kb(g:AOE)(i:AOu)(l:Int)(t:AOz)(u:AOA):APJ ((Int×AOz×AOA)⊕(AO1⊕AO1)):=
 bif decide (l<(i.1.length:Int))then
 if 0<=l/\l<i.1.length then
 (Pq g (i.1.getD l.toNat Ag.zero) l).bind λv=>bif !v then
 some (.inr (.inl (u,t)))
 else
 if 0<=l/\l<i.1.length then
 (Sz g (i.1.getD l.toNat Ag.zero) t).bind λw=>bif !(BF w 1 4096)then
 some (.inr (.inl (u,t)))
 else
 if(t.length+([w]:AOz).length)*8<=140737488355328 then
 (Rt g l i (t++([w]:AOz)) 0 u).bind λo=>some (.inl (wI (l+1),t++([w]:AOz),o))
 else none
 else none
 else none
 else
 some (.inr (.inr (u,t)))
def G9 g i (z_:Int×AOz×AOA):=Kb g i z_.1 z_.2.1 z_.2.2
def MY g i l t u:=fix (G9 g i) (l,t,u)
theorem Ayr g i:A4 E30 0 7 (code f116) 506 (Awh g i) (G9 g i) (Auc g i):=by
 intro _;simp(disch:=refine id ?_;kernel_rfl) only[G9,Kb,AOi,Rt,AH (Ayq _ _ _ _) (K:=KJ E30 0 7)];kernel_rfl
def Awf g i:=sT 103 [(0,Au g),(3,Ar),(5,.zs)] [.box (FY i)]
def Aua g i:=λ(x:Bool)=>xN 103 [(0,Au g),(3,Ar),(5,.zs),(27,dB x)] [.box (FY i)]
def Ji(g:AOE)(i:AOu):APJ Bool:=
 (J5 g).bind λy=>bif !y then
 some true
 else
 bif decide ((i.1.length:Int)<1)then
 some true
 else
 some (decide ((i.1.length:Int)>400))
theorem Ayp g i:AY E30 0 3 (code f116) 28 (Awf g i) (Ji g i) (Aua g i):=by
 unfold AY;simp only[Ji,AOi];kernel_rfl
def Ob(g:AOE)(i:AOu):APJ AOz:=
 (Ji g i).bind λx=>bif x then
 some ([]:AOz)
 else
 if Ty.row .bool=true/\(0:Int)<=(i.1.length:Int)/\(i.1.length:Int)<=(i.1.length:Int)/\((1:Nat):Int)*(i.1.length:Int)<=(281474976710656:Int)/\(i.1.length:Int)<=(9223372036854775807:Int)then
 (MY g i 0 ([]:AOz) (List.replicate (i.1.length:Int).toNat false)).bind (Sum.elim (λj=>some ([]:AOz)) (λk=>(Ru k.1 k.2 0).bind (Sum.elim (λc=>some ([]:AOz)) (λd=>some k.2))))
 else none
def AAQ:=Cx [.d APx,.d An] [⟨[.AB [] APx,.AB [] An],[],AOz,λp=>Ob p.1.1 p.1.2.1,λr=>(.AG 0,[AA r])⟩]
theorem AdI:Aq prog 116 AAQ:=Av (fn:=f116) ⟨⟨E30,pk ⟨oo,UO,Ad9,Aea,trivial⟩,λ_ R K=>by
 simp(disch:=refine id ?_;kernel_rfl) only[Ob,AOj,Bc (Ayp ..) (K:=A2 E30 f116 0 R K),MY,AH (Ayr _ _) (K:=A2 E30 f116 0 R K),Ru,AH (Ays _ _) (K:=A2 E30 f116 0 R K)];kernel_rfl⟩,trivial⟩
abbrev E31:=eN [(116,AAQ)] {}
def Gq(a:AOE)(b:AOu):APJ Int:=
 (Ob a b).bind λc=>bif (c.length:Int)==0 then
 some (-1)
 else
 if 0<=(wI ((c.length:Int)-1))/\(wI ((c.length:Int)-1))<c.length then
 some (c.getD (wI ((c.length:Int)-1)).toNat APr.zero)
 else none
def c80:=Cx [.d APx,.d An] [⟨[.AB [] APx,.AB [] An],[],Int,λp=>Gq p.1.1 p.1.2.1,λr=>(dI r,[])⟩]
theorem yD:Aq prog 80 c80:=Av (fn:=f80) ⟨⟨E31,pk ⟨AdI,trivial⟩,λ_ R K=>by
 simp only[Gq,AOj];kernel_rfl⟩,trivial⟩
abbrev E32:=eN [(79,c79),(80,c80),(81,c81)] {A8:=[(4,[0,1,5])],BW:=[(4,[4])],BS:=[(2,[0,1,14]),(8,[0,1,5,67])],DD:=[(2,[0,1]),(8,[0,1,5,6])]}
def Awl a b (z_:Int):=sT 68 [(0,Au a),(1,Bo b),(5,dI z_)] []
def Auh(a:AOE)(b:AOG):=Sum.elim (λ(c:Unit)=>xR 68 fz []) (λ(d:Unit)=>xE 0 68 [] [])
def Awk a b e g:=sT 68 [(0,Au a),(1,Bo b),(5,dI e),(6,dI g)] []
def Auf a b e (g:Int):=λ(i:Bool)=>xN 68 [(0,Au a),(1,Bo b),(5,dI e),(67,dB i)] []
def G7(a:AOE)(b:AOG)(e g:Int):APJ Bool:=
 if 0<=e/\e<b.length then
 bif !(BF (b.getD e.toNat Af.zero).1 1 1000000)then
 some true
 else
 bif decide (e>0)then
 if 0<=e/\e<b.length then
 if 0<=(wI (e-1))/\(wI (e-1))<b.length then
 bif decide ((b.getD e.toNat Af.zero).1<=(b.getD (wI (e-1)).toNat Af.zero).1)then
 some true
 else
 bif decide (g<0)then
 some true
 else
 if 0<=e/\e<b.length then
 (Gq a (b.getD e.toNat Af.zero).2.2.2.1).bind λj=>some (j !=g)
 else none
 else none
 else none
 else
 bif decide (g<0)then
 some true
 else
 if 0<=e/\e<b.length then
 (Gq a (b.getD e.toNat Af.zero).2.2.2.1).bind λk=>some (k !=g)
 else none
 else none
theorem Ayu a b e g:AY E32 0 8 (cd f54 116) 50 (Awk a b e g) (G7 a b e g) (Auf a b e g):=by
 unfold AY;simp only[G7,AOi];kernel_rfl
def Ic(a:AOE)(b:AOG)(e:Int):APJ (Int⊕(Unit⊕Unit)):=
 bif decide (e<(b.length:Int))then
 if 0<=e/\e<b.length then
 (Gq a (b.getD e.toNat Af.zero).2.2.1).bind λg=>(G7 a b e g).bind λi=>bif i then
 some (.inr (.inl ()))
 else
 some (.inl (wI (e+1)))
 else none
 else
 some (.inr (.inr ()))
def EY a b (z_:Int):=Ic a b z_
def O3 a b e:=fix (EY a b) e
theorem Ayv a b:A4 E32 0 4 (code f54) 58 (Awl a b) (EY a b) (Auh a b):=by
 intro _;simp(disch:=refine id ?_;kernel_rfl) only[EY,Ic,AOi,Bc (Ayu ..) (K:=KJ E32 0 4)];kernel_rfl
def Awj a b:=sT 68 [(0,Au a),(1,Bo b)] []
def Aue a b:=λ(l:Bool)=>xN 68 [(0,Au a),(1,Bo b),(14,dB l)] []
def G6(a:AOE)(b:AOG):APJ Bool:=
 (J5 a).bind λn=>bif !n then
 some true
 else
 some (decide ((b.length:Int)>60))
theorem Ayt a b:AY E32 0 2 (code f54) 12 (Awj a b) (G6 a b) (Aue a b):=by
 unfold AY;simp only[G6,AOi];kernel_rfl
def Ee(a:AOE)(b:AOG):APJ Bool:=
 (G6 a b).bind λl=>bif l then
 some false
 else
 (O3 a b 0).bind (Sum.elim (λc=>some false) (λd=>some true))
def c54:=Cx [.d APx,.d APz] [⟨[.AB [] APx,.AB [] APz],[],Bool,λp=>Ee p.1.1 p.1.2.1,λr=>(dB r,[])⟩]
theorem fD:Aq prog 54 c54:=Av (fn:=f54) ⟨⟨E32,pk ⟨oo,yD,UO,trivial⟩,λ_ R K=>by
 simp(disch:=refine id ?_;kernel_rfl) only[Ee,AOj,Bc (Ayt ..) (K:=A2 E32 f54 0 R K),O3,AH (Ayv _ _) (K:=A2 E32 f54 0 R K)];kernel_rfl⟩,trivial⟩
abbrev gp:=eN [(152,AiE)] {A8:=[(5,{Bb:=[0,4,7,8],Cg:=[(7,false,.row [] 209 Aa true)]}),(10,{Bb:=[4,7,9],Cg:=[(7,false,.row [] 209 Aa true)]}),(15,{Bb:=[2,7,10],Cg:=[(7,false,.row [] 209 Aa true)]}),(27,[4,7,11,12]),(40,{Bb:=[2,4,7,15],Cg:=[(7,false,.row [] 209 Aa true)]})],BW:=[(5,[7]),(10,[7]),(15,[7]),(27,[7]),(40,[7])],BS:=[(22,[2,4,7,18,84]),(25,[2,4,7,11]),(32,[2,4,7,18,116]),(36,[2,7,13,14]),(43,{Bb:=[7],Cg:=[(7,false,.row [] 209 Aa true)]})],DD:=[(22,[2,4,7,18]),(25,[2,4,7,11]),(32,[2,4,7,18]),(36,[2,4,7,13,14]),(43,[0,2,4,7])]}
def Apq a b c:=sT 167 [(0,Au a),(2,QL b),(4,Ar),(7,.zs)] (UB c)
def AnT(a:AOE)(b:AOP)(c:AOq):=λ(d:AOC)=>xN 167 lf [EF d]
def Apo b c (z_:Int×AOC):=sT 167 [(2,QL b),(4,Ar),(7,.AG 1),(15,dI z_.1)] [.box (VA c),EF z_.2]
def AnS(b:AOP)(c:AOq):=λ(e:AOC)=>xE 9 167 lf [EF e]
def Lz(b:AOP)(c:AOq)(g:Int)(i:AOC):APJ (APe⊕AOC):=
 bif decide (g<c.2.2.1)then
 if(0:Int)<=(0:Int)/\(0:Int)<(b.length:Int)then
 if(i.length+(b.getD 0 APv.zero).length)*16<=140737488355328 then
 some (.inl (wI (g+1),i++(b.getD 0 APv.zero)))
 else none
 else none
 else
 some (.inr i)
def FE b c (z_:Int×AOC):=Lz b c z_.1 z_.2
def OH b c g i:=fix (FE b c) (g,i)
theorem Arf b c:A4 gp 0 40 (cd f117 14) 458746 (Apo b c) (FE b c) (AnS b c):=by
 intro _;simp only[FE,Lz,AOi];kernel_rfl
def Apn b c j k:=sT 167 [(2,QL b),(4,Ar),(7,.zs),(13,dI j),(14,dI k)] (UB c)
def AnR b (c:AOq) j (k:Int):=λ(l:Int)=>xN 167 [(2,QL b),(7,.zs),(13,dI j),(14,dI l)] []
def Kx(b:AOP)(c:AOq)(j k:Int):APJ Int:=
 bif c.1==8 then
 if j=(0:Int)then none else
 some (Int.tmod (wI (j-k)) j)
 else
 some k
theorem Are b c j k:AY gp 0 36 (cd f117 14) 229366 (Apn b c j k) (Kx b c j k) (AnR b c j k):=by
 unfold AY;simp only[Kx,AOi];kernel_rfl
def Ac7 b (c:AOq):=sT 167 [(2,QL b),(4,Ar),(7,.zs),(18,dI c.1)] (UB c)
def vW(b:AOP)(c:AOq)(m0:Bool):Ex×St:=xN 167 [(2,QL b),(4,Ar),(7,.zs),(18,dI c.1),(116,dB m0)] (UB c)
theorem Ard b c:Xn gp 0 32 (cd f117 14) (pt 14334) (Ac7 b c)=some (vW b c (bif c.1==7 then(c.1==7)else(c.1==8))):=by
 refine .trans (b:=
 bif c.1==7 then
 some (vW b c (c.1==7))
 else
 some (vW b c (c.1==8))) (by kernel_rfl) ?_
 cases (c.1==7);rfl;rfl
def Apm c (z_:Int×AOC):=sT 167 [(4,Ar),(7,.AG 1),(11,HC),(12,dI z_.1)] [.box (VA c),EF z_.2,.box (.pr (dI (-1)) (.pr (dI 0) .u))]
def AnQ(c:AOq):=λ(n:AOC)=>xE 7 167 lf [EF n]
def Ly(c:AOq)(o:Int)(q:AOC):APJ (APe⊕AOC):=
 bif decide (o<c.2.2.1)then
 if(q.length+([(-1,0,())]:AOC).length)*16<=140737488355328 then
 some (.inl (wI (o+1),q++([(-1,0,())]:AOC)))
 else none
 else
 some (.inr q)
def FD c (z_:Int×AOC):=Ly c z_.1 z_.2
def OG c o q:=fix (FD c) (o,q)
theorem Arc c:A4 gp 0 27 (cd f117 14) 229342 (Apm c) (FD c) (AnQ c):=by
 intro _;simp only[FD,Ly,AOi];kernel_rfl
def Apl c s (z_:Int×AOC):=sT 167 [(4,Ar),(7,.AG 1),(11,HC),(12,dI z_.1)] [.box (VA c),EF z_.2,.box (dD Aa s)]
def AnP(c:AOq)(s:AOl):=λ(t:AOC)=>xE 7 167 lf [EF t]
def Lx(c:AOq)(s:AOl)(u:Int)(v:AOC):APJ (APe⊕AOC):=
 bif decide (u<c.2.2.1)then
 if(v.length+([s]:AOC).length)*16<=140737488355328 then
 some (.inl (wI (u+1),v++([s]:AOC)))
 else none
 else
 some (.inr v)
def FC c s (z_:Int×AOC):=Lx c s z_.1 z_.2
def OE c s u v:=fix (FC c s) (u,v)
theorem Arb c s:A4 gp 0 27 (cd f117 14) 229342 (Apl c s) (FC c s) (AnP c s):=by
 intro _;simp only[FC,Lx,AOi];kernel_rfl
def Apk b c:=sT 167 (As8 b) [.box (VA c),.box (.pr (dI (-1)) (.pr (dI 0) .u))]
def AnO b c:=Sum.elim (λ(w:Unit)=>xN 167 (As8 b) [.box (VA c),.box (dD Aa ((b.getD 0 APv.zero).getD (wI (((b.getD 0 APv.zero).length:Int)-1)).toNat Aa.zero))]) (λ(x:Unit)=>xN 167 (As8 b) [.box (VA c),.box (.pr (dI (-1)) (.pr (dI 0) .u))])
def FW(b:AOP)(c:AOq):APJ (Unit⊕Unit):=
 bif c.1==6 then
 if(0:Int)<=(0:Int)/\(0:Int)<(b.length:Int)then
 if(0:Int)<=(0:Int)/\(0:Int)<(b.length:Int)then
 if 0<=(wI (((b.getD 0 APv.zero).length:Int)-1))/\(wI (((b.getD 0 APv.zero).length:Int)-1))<(b.getD 0 APv.zero).length then
 some (.inl ())
 else none
 else none
 else none
 else
 some (.inr ())
theorem Ara b c:AY gp 0 25 (cd f117 14) 28666 (Apk b c) (FW b c) (AnO b c):=by
 unfold AY;simp only[FW,AOi];kernel_rfl
def Ac6 b (c:AOq):=sT 167 [(2,QL b),(4,Ar),(7,.zs),(18,dI c.1)] (UB c)
def vV(b:AOP)(c:AOq)(m0:Bool):Ex×St:=xN 167 [(2,QL b),(4,Ar),(7,.zs),(18,dI c.1),(84,dB m0)] (UB c)
theorem Aq9 b c:Xn gp 0 22 (cd f117 14) (pt 3582) (Ac6 b c)=some (vV b c (bif c.1==5 then(c.1==5)else(c.1==6))):=by
 refine .trans (b:=
 bif c.1==5 then
 some (vV b c (c.1==5))
 else
 some (vV b c (c.1==6))) (by kernel_rfl) ?_
 cases (c.1==5);rfl;rfl
def Apj b (z_:Int×AOC):=sT 167 [(2,QL b),(7,.AG 0),(10,dI z_.1)] [EF z_.2]
def AnN(b:AOP):=λ(y:AOC)=>xE 5 167 lf [EF y]
def Lw(b:AOP)(a1:Int)(b1:AOC):APJ (APe⊕AOC):=
 bif decide (a1>=0)then
 if 0<=a1/\a1<b.length then
 if(b1.length+(b.getD a1.toNat APv.zero).length)*16<=140737488355328 then
 some (.inl (wI (a1-1),b1++(b.getD a1.toNat APv.zero)))
 else none
 else none
 else
 some (.inr b1)
def FB b (z_:Int×AOC):=Lw b z_.1 z_.2
def Ta b a1 b1:=fix (FB b) (a1,b1)
theorem Aq8 b:A4 gp 0 15 (cd f117 14) 1786 (Apj b) (FB b) (AnN b):=by
 intro _;simp only[FB,Lw,AOi];kernel_rfl
def Api c (z_:Int×AOC):=sT 167 [(4,Ar),(7,.AG 1),(9,dI z_.1)] [.box (VA c),EF z_.2]
def AnM(c:AOq):=λ(c1:AOC)=>xE 3 167 lf [EF c1]
def Lv(c:AOq)(d1:Int)(e1:AOC):APJ (APe⊕AOC):=
 bif decide (d1<c.2.2.2.2.1.1)then
 (Iq c.2.2.2.2.1 d1).bind λg1=>if(e1.length+([(-1,wI g1,())]:AOC).length)*16<=140737488355328 then
 some (.inl (wI (d1+1),e1++([(-1,wI g1,())]:AOC)))
 else none
 else
 some (.inr e1)
def FA c (z_:Int×AOC):=Lv c z_.1 z_.2
def OD c d1 e1:=fix (FA c) (d1,e1)
theorem Aq7 c:A4 gp 0 10 (cd f117 14) 442 (Api c) (FA c) (AnM c):=by
 intro _;simp only[FA,Lv,AOi];kernel_rfl
def Aph a c (z_:Int×AOC):=sT 167 [(0,Au a),(4,Ar),(7,.AG 1),(8,dI z_.1)] [.box (VA c),EF z_.2]
def AnL(a:AOE)(c:AOq):=λ(i1:AOC)=>xE 1 167 lf [EF i1]
def Lu(a:AOE)(c:AOq)(j1:Int)(k1:AOC):APJ (APe⊕AOC):=
 if(0:Int)<=c.2.1/\c.2.1<(a.length:Int)then
 bif decide (j1<(a.getD c.2.1.toNat Ad.zero).2.1)then
 if(k1.length+([(c.2.1,j1,())]:AOC).length)*16<=140737488355328 then
 some (.inl (wI (j1+1),k1++([(c.2.1,j1,())]:AOC)))
 else none
 else
 some (.inr k1)
 else none
def Fz a c (z_:Int×AOC):=Lu a c z_.1 z_.2
def OC a c j1 k1:=fix (Fz a c) (j1,k1)
theorem Aq6 a c:A4 gp 0 5 (cd f117 14) 106 (Aph a c) (Fz a c) (AnL a c):=by
 intro _;simp only[Fz,Lu,AOi];kernel_rfl
def OI(a:AOE)(b:AOP)(c:AOq):APJ AOC:=
 bif c.1==1 then
 (OC a c 0 ([]:AOC)).bind λi1=>some i1
 else
 bif c.1==2 then
 (OD c 0 ([]:AOC)).bind λc1=>some c1
 else
 bif c.1==3 then
 (Ta b (wI ((b.length:Int)-1)) ([]:AOC)).bind λy=>some y
 else
 bif c.1==4 then
 if(0:Int)<=(0:Int)/\(0:Int)<(b.length:Int)then
 if(0:Int)<=c.2.2.2.1/\c.2.2.2.1<=(wI (c.2.2.1+1))/\(wI (c.2.2.1+1))<=((b.getD 0 APv.zero).length:Int)then
 if(((b.getD 0 APv.zero).take (wI (c.2.2.1+1)).toNat).drop c.2.2.2.1.toNat).length*16<=140737488355328 then
 some (((b.getD 0 APv.zero).take (wI (c.2.2.1+1)).toNat).drop c.2.2.2.1.toNat)
 else none
 else none
 else none
 else
 PD (Ac6 b c) (
 bif bif (c.1==5)then(c.1==5)else(c.1==6)then
 (FW b c).bind (Sum.elim (λw=>if(0:Int)<=(0:Int)/\(0:Int)<(b.length:Int)then
 if(b.getD 0 APv.zero).length*16<=140737488355328 then
 (OE c ((b.getD 0 APv.zero).getD (wI (((b.getD 0 APv.zero).length:Int)-1)).toNat Aa.zero) 0 (b.getD 0 APv.zero)).bind λt=>some t
 else none
 else none) (λx=>if(0:Int)<=(0:Int)/\(0:Int)<(b.length:Int)then
 if(b.getD 0 APv.zero).length*16<=140737488355328 then
 (OG c 0 (b.getD 0 APv.zero)).bind λn=>some n
 else none
 else none))
 else
 PD (Ac7 b c) (
 bif bif (c.1==7)then(c.1==7)else(c.1==8)then
 if(0:Int)<=(0:Int)/\(0:Int)<(b.length:Int)then
 if((b.getD 0 APv.zero).length:Int)=(0:Int)then none else
 (Kx b c ((b.getD 0 APv.zero).length:Int) (Int.tmod c.2.2.1 ((b.getD 0 APv.zero).length:Int))).bind λl=>if(0:Int)<=(0:Int)/\(0:Int)<(b.length:Int)then
 if(0:Int)<=(wI (((b.getD 0 APv.zero).length:Int)-l))/\(wI (((b.getD 0 APv.zero).length:Int)-l))<=((b.getD 0 APv.zero).length:Int)/\((b.getD 0 APv.zero).length:Int)<=((b.getD 0 APv.zero).length:Int)then
 if(((b.getD 0 APv.zero).take ((b.getD 0 APv.zero).length:Int).toNat).drop (wI (((b.getD 0 APv.zero).length:Int)-l)).toNat).length*16<=140737488355328 then
 if(0:Int)<=(0:Int)/\(0:Int)<(b.length:Int)then
 if(0:Int)<=(0:Int)/\(0:Int)<=(wI (((b.getD 0 APv.zero).length:Int)-l))/\(wI (((b.getD 0 APv.zero).length:Int)-l))<=((b.getD 0 APv.zero).length:Int)then
 if((((b.getD 0 APv.zero).take ((b.getD 0 APv.zero).length:Int).toNat).drop (wI (((b.getD 0 APv.zero).length:Int)-l)).toNat).length+(((b.getD 0 APv.zero).take (wI (((b.getD 0 APv.zero).length:Int)-l)).toNat).drop 0).length)*16<=140737488355328 then
 some ((((b.getD 0 APv.zero).take ((b.getD 0 APv.zero).length:Int).toNat).drop (wI (((b.getD 0 APv.zero).length:Int)-l)).toNat)++(((b.getD 0 APv.zero).take (wI (((b.getD 0 APv.zero).length:Int)-l)).toNat).drop 0))
 else none
 else none
 else none
 else none
 else none
 else none
 else none
 else
 bif c.1==9 then
 (OH b c 0 ([]:AOC)).bind λe=>some e
 else
 some ([]:AOC)))
theorem Arh a b c:AY gp 0 43 (code f117) 14 (Apq a b c) (OI a b c) (AnT a b c):=by
 unfold AY;simp(disch:=refine id ?_;kernel_rfl) only[OI,AOi,OC,AH (Aq6 _ _) (K:=UH gp 0 43),OD,AH (Aq7 _) (K:=UH gp 0 43),Ta,AH (Aq8 _) (K:=UH gp 0 43),Ft (Aq9 ..) (K:=UH gp 0 43),Bc (Ara ..) (K:=UH gp 0 43),OE,AH (Arb _ _) (K:=UH gp 0 43),OG,AH (Arc _) (K:=UH gp 0 43),Ft (Ard ..) (K:=UH gp 0 43),Bc (Are ..) (K:=UH gp 0 43),OH,AH (Arf _ _) (K:=UH gp 0 43)];kernel_rfl
def SD(a:AOE)(c:AOq)(b:AOP):APJ AOC:=
 (OI a b c).bind λd=>some d
def AAR:=Cx [.d APx,.d Ag,.d (.sl APv)] [⟨[.AB [] APx,.AB [] Ag,.AB [] (.sl APv)],[],AOC,λp=>SD p.1.1 p.1.2.1 p.1.2.2.1,λr=>(.AG 0,[EF r])⟩]
theorem AdJ:Aq prog 117 AAR:=Av (fn:=f117) ⟨⟨gp,pk ⟨gR,trivial⟩,λ_ R K=>by
 simp(disch:=refine id ?_;kernel_rfl) only[SD,AOj,Bc (Arh ..) (K:=A2 gp f117 0 R K)];kernel_rfl⟩,trivial⟩
abbrev E34:=eN [] {A8:=[(5,[0,2,4,5])],BW:=[(5,[2,4])],BS:=[(2,[0,2,13])],DD:=[(2,[0,2])],jw:=[(0,.row [1] 88 APs true)]}
def Awm a b (z_:Int×AOz):=sT 51 [(0,YU a),(2,Ar),(4,A6),(5,dI z_.1)] (AhS b z_.2)
def Aui(a:AOz) b:=λ(c:AOz)=>xE 0 51 [(2,Ar),(4,A6)] (AhS b c)
def MU(a:AOz)(b d:Int)(e:AOz):APJ (AOW⊕AOz):=
 bif decide (d<(a.length:Int))then
 if 0<=(wI (Int.tdiv d 64))/\(wI (Int.tdiv d 64))<e.length then
 if 0<=d/\d<a.length then
 if(IntKind.u64.wrap (Int.tmod d 64))<(0:Int)then none else
 if 0<=(wI (Int.tdiv d 64))/\(wI (Int.tdiv d 64))<e.length then
 some (.inl (wI (d+1),e.set (wI (Int.tdiv d 64)).toNat (fq .u64 (e.getD (wI (Int.tdiv d 64)).toNat APs.zero) (N6 .u64 (IntKind.u64.wrap (a.getD d.toNat APt.zero)) (IntKind.u64.wrap (Int.tmod d 64))))))
 else none
 else none
 else none
 else
 some (.inr e)
def Jf a b (z_:Int×AOz):=MU a b z_.1 z_.2
def Uo a b d e:=fix (Jf a b) (d,e)
theorem Ayx a b:A4 E34 0 5 (code f125) 122 (Awm a b) (Jf a b) (Aui a b):=by
 intro _;simp only[Jf,MU,AOi];kernel_rfl
def AkM a:=sT 51 [(0,YU a),(2,Ar)] [.box qN]
def Acy(a:AOz)(m0:Bool):Ex×St:=xN 51 [(0,YU a),(2,Ar),(13,dB m0)] [.box qN]
theorem Ayw a:Xn E34 0 2 (code f125) (pt 12) (AkM a)=some (Acy a ((decide ((a.length:Int)<1))||(decide ((a.length:Int)>4096)))):=by
 refine .trans (b:=
 bif decide ((a.length:Int)<1)then
 some (Acy a true)
 else
 some (Acy a (decide ((a.length:Int)>4096)))) (by kernel_rfl) ?_
 cases (decide ((a.length:Int)<1));rfl;rfl
def Po(a:AOz):APJ (Int×Bool×AOz):=
 PD (AkM a) (
 bif (decide ((a.length:Int)<1))||(decide ((a.length:Int)>4096))then
 some (0,false,([]:AOz))
 else
 if Ty.row APs=true/\(0:Int)<=(wI (Int.tdiv (wI ((a.length:Int)+63)) 64))/\(wI (Int.tdiv (wI ((a.length:Int)+63)) 64))<=(wI (Int.tdiv (wI ((a.length:Int)+63)) 64))/\((8:Nat):Int)*(wI (Int.tdiv (wI ((a.length:Int)+63)) 64))<=(281474976710656:Int)/\(wI (Int.tdiv (wI ((a.length:Int)+63)) 64))<=(9223372036854775807:Int)then
 (Uo a (a.length:Int) 0 (List.replicate (wI (Int.tdiv (wI ((a.length:Int)+63)) 64)).toNat 0)).bind λc=>some ((a.length:Int),true,c)
 else none)
def Arw:=Cx [.d (.sl APt)] [⟨[.AB [] (.sl APt)],[],Int×Bool×AOz,λp=>Po p.1.1,λr=>(.cons (.pr (dI r.1) Q5) (.cons (dB r.2.1) .nil),[Da r.2.2])⟩]
theorem rF:Aq prog 125 Arw:=Av (fn:=f125) ⟨⟨E34,pk trivial,λ_ R K=>by
 simp(disch:=refine id ?_;kernel_rfl) only[Po,AOj,Ft (Ayw _) (K:=A2 E34 f125 0 R K),Uo,AH (Ayx _ _) (K:=A2 E34 f125 0 R K)];kernel_rfl⟩,trivial⟩
abbrev E35:=eN [(125,Arw)] {A8:=[(3,{Bb:=[0,4,5],Cg:=[(4,false,.row [] 142 Ae true)]}),(7,[0,4,6,7]),(12,[0,4,5,6])],BW:=[(3,[4]),(7,{Bb:=[0,4,6,7],RF:=[(7,false,.sl APt)]}),(12,[0,4,5,6])],BS:=[(8,[0,4,6,7]),(13,[0,4,5,6]),(15,[0,4,6])],DD:=[(8,[0,4,6,7]),(13,[0,4,5,6]),(15,[0,4,5,6])]}
def Aps a (z_:Int×AOF):=sT 121 [(0,cb a),(4,.AG 0),(5,dI z_.1)] [Cf z_.2]
def AnU(a:AOC):=λ(b:AOF)=>xE 0 121 [(4,.AG 0)] [Cf b]
def Awr a c d e:=sT 121 (Ab5 a c e) [Cf d]
def Aun a (c:Int) (d:AOF) (e:Int):=λ(g:AO7)=>xN 121 [(0,cb a),(4,.AG 0),(6,dI g.1)] [Cf g.2]
def Awq a c d (z_:Int):=sT 121 (Ab5 a c z_) [Cf d]
def Aum a c d:=λ(i:Int)=>xE 4 121 (Ab5 a c i) [Cf d]
def Awp a c j d:=sT 121 (Ab5 a c j) [Cf d]
def Aul a c j d:=Sum.elim (λ(k:Unit)=>xN 121 (Ab5 a c j) [Cf d]) (λ(l:Unit)=>xE 4 121 (Ab5 a c j) [Cf d])
def QB(a:AOC)(c j:Int)(d:AOF):APJ (Unit⊕Unit):=
 bif decide (j<(a.length:Int))then
 if 0<=j/\j<a.length then
 if 0<=c/\c<a.length then
 bif (a.getD j.toNat Aa.zero).1==(a.getD c.toNat Aa.zero).1 then
 if 0<=j/\j<a.length then
 if 0<=(wI (j-1))/\(wI (j-1))<a.length then
 bif (a.getD j.toNat Aa.zero).2.1==(wI ((a.getD (wI (j-1)).toNat Aa.zero).2.1+1))then
 some (.inl ())
 else
 some (.inr ())
 else none
 else none
 else
 some (.inr ())
 else none
 else none
 else
 some (.inr ())
theorem AyA a c j d:AY E35 0 13 (sb (sb (cd f118 120) 26) 56) 2 (Awp a c j d) (QB a c j d) (Aul a c j d):=by
 unfold AY;simp only[QB,AOi];kernel_rfl
def Rw(a:AOC)(c:Int)(d:AOF)(j:Int):APJ (Int⊕Int):=
 (QB a c j d).bind (Sum.elim (λk=>some (.inl (wI (j+1)))) (λl=>some (.inr j)))
def M3 a c d (z_:Int):=Rw a c d z_
def QC a c d j:=fix (M3 a c d) j
theorem AyB a c d:A4 E35 0 12 (sb (cd f118 120) 26) 28 (Awq a c d) (M3 a c d) (Aum a c d):=by
 intro _;simp(disch:=refine id ?_;kernel_rfl) only[M3,Rw,AOi,Bc (AyA ..) (K:=KJ E35 0 12)];kernel_rfl
def Awo a d (z_:Int×AOz):=sT 121 (zY a z_.1) [Cf d,cm z_.2]
def Auk a d:=λ(n:AOW)=>xE 2 121 [(0,cb a),(4,.AG 0),(6,dI n.1),(7,YU n.2)] [Cf d]
def Awn a o d q:=sT 121 (zY a o) [Cf d,cm q]
def Auj a o d q:=Sum.elim (λ(s:Unit)=>xN 121 (zY a o) [Cf d,cm q]) (λ(t:Unit)=>xE 2 121 (zY a o) [Cf d,cm q])
def QA(a:AOC)(o:Int)(d:AOF)(q:AOz):APJ (Unit⊕Unit):=
 bif decide (o<(a.length:Int))then
 if 0<=o/\o<a.length then
 bif decide ((a.getD o.toNat Aa.zero).1<0)then
 some (.inl ())
 else
 some (.inr ())
 else none
 else
 some (.inr ())
theorem Ayy a o d q:AY E35 0 8 (sb (sb (cd f118 120) 26) 104) 2 (Awn a o d q) (QA a o d q) (Auj a o d q):=by
 unfold AY;simp only[QA,AOi];kernel_rfl
def Rv(a:AOC)(d:AOF)(o:Int)(q:AOz):APJ (AOW⊕AOW):=
 (QA a o d q).bind (Sum.elim (λs=>if 0<=o/\o<a.length then
 if(q.length+([IntKind.u8.wrap (a.getD o.toNat Aa.zero).2.1]:AOz).length)*1<=140737488355328 then
 some (.inl (wI (o+1),q++([IntKind.u8.wrap (a.getD o.toNat Aa.zero).2.1]:AOz)))
 else none
 else none) (λt=>some (.inr (o,q))))
def M1 a d (z_:Int×AOz):=Rv a d z_.1 z_.2
def Ut a d o q:=fix (M1 a d) (o,q)
theorem Ayz a d:A4 E35 0 7 (sb (cd f118 120) 26) 52 (Awo a d) (M1 a d) (Auk a d):=by
 intro _;simp(disch:=refine id ?_;kernel_rfl) only[M1,Rv,AOi,Bc (Ayy ..) (K:=KJ E35 0 7)];kernel_rfl
def QD(a:AOC)(c:Int)(d:AOF)(e:Int):APJ AO7:=
 if 0<=c/\c<a.length then
 bif decide ((a.getD c.toNat Aa.zero).1<0)then
 if 0<=c/\c<a.length then
 (Ut a d e ([IntKind.u8.wrap (a.getD c.toNat Aa.zero).2.1]:AOz)).bind λn=>(Po n.2).bind λu=>if(d.length+([(-1,0,u.1,(u.1,u.2.2,()),())]:AOF).length)*56<=140737488355328 then
 some (n.1,d++([(-1,0,u.1,(u.1,u.2.2,()),())]:AOF))
 else none
 else none
 else
 (QC a c d e).bind λi=>if 0<=c/\c<a.length then
 if 0<=c/\c<a.length then
 if(d.length+([((a.getD c.toNat Aa.zero).1,(a.getD c.toNat Aa.zero).2.1,wI (i-c),(0,([]:AOz),()),())]:AOF).length)*56<=140737488355328 then
 some (i,d++([((a.getD c.toNat Aa.zero).1,(a.getD c.toNat Aa.zero).2.1,wI (i-c),(0,([]:AOz),()),())]:AOF))
 else none
 else none
 else none
 else none
theorem AyC a c d e:AY E35 0 15 (cd f118 120) 26 (Awr a c d e) (QD a c d e) (Aun a c d e):=by
 unfold AY;simp(disch:=refine id ?_;kernel_rfl) only[QD,AOi,Ut,AH (Ayz _ _) (K:=UH E35 0 15),QC,AH (AyB _ _ _) (K:=UH E35 0 15)];kernel_rfl
def Qz(a:AOC)(c:Int)(d:AOF):APJ (AO7⊕AOF):=
 bif decide (c<(a.length:Int))then
 (QD a c d (wI (c+1))).bind λg=>some (.inl (g.1,g.2))
 else
 some (.inr d)
def Lt a (z_:Int×AOF):=Qz a z_.1 z_.2
def S9 a c d:=fix (Lt a) (c,d)
theorem Ari a:A4 E35 0 3 (code f118) 60 (Aps a) (Lt a) (AnU a):=by
 intro _;simp(disch:=refine id ?_;kernel_rfl) only[Lt,Qz,AOi,Bc (AyC ..) (K:=KJ E35 0 3)];kernel_rfl
def SB(a:AOC):APJ AO2:=
 (S9 a 0 ([]:AOF)).bind λb=>some (decide ((b.length:Int)<=2000),b)
def AAS:=Cx [.d APv] [⟨[.AB [] APv],[],AO2,λp=>SB p.1.1,λr=>(.cons QO (.cons (dB r.1) .nil),[Cf r.2])⟩]
theorem AdK:Aq prog 118 AAS:=Av (fn:=f118) ⟨⟨E35,pk ⟨rF,trivial⟩,λ_ R K=>by
 simp(disch:=refine id ?_;kernel_rfl) only[SB,AOj,S9,AH (Ari _) (K:=A2 E35 f118 0 R K)];kernel_rfl⟩,trivial⟩
abbrev E36:=eN [(80,c80),(117,AAR),(118,AAS)] {Aw:=false,A8:=[(6,{Bb:=[0,3,6,7,8],Cg:=[(6,false,.row [] 174 APv false),(7,false,.row [] 142 Ae true)]}),(10,{Bb:=[0,3,6,8,9,10],Cg:=[(9,false,.row [] 174 APv false)]})],BW:=[(6,[4,5,7]),(10,{Bb:=[0,3,6,8,9],RF:=[(9,false,.sl APv)]})],jw:=[(0,.row [] 142 Ae true)]}
def Awt a b (z_:Int×AOP×AOF):=sT 77 [(0,Au a),(3,Ar),(6,.AG 1),(7,.AG 2),(8,dI z_.1)] [.box (FY b),gi z_.2.1,Cf z_.2.2]
def Aup(a:AOE)(b:AOu):=Sum.elim (λ(c:Unit)=>xR 77 [(4,.zs),(5,dB false)] []) (λ(d:AOF)=>xE 0 77 lf [Cf d])
def Aws a e b g (z_:Int×AOP):=sT 77 [(0,Au a),(3,Ar),(6,.AG 1),(8,dI e),(9,.AG 2),(10,dI z_.1)] [.box (FY b),gi g,gi z_.2]
def Auo a e b g:=λ(i:AOP)=>xE 2 77 [(0,Au a),(3,Ar),(6,.AG 1),(8,dI e),(9,QL i)] [.box (FY b),gi g]
def Ln(a:AOE)(e:Int)(b:AOu)(g:AOP)(j:Int)(k:AOP):APJ ((Int×AOP)⊕AOP):=
 if 0<=e/\e<b.1.length then
 bif decide (j<((b.1.getD e.toNat Ag.zero).2.2.2.2.2.1.length:Int))then
 if 0<=e/\e<b.1.length then
 if 0<=j/\j<(b.1.getD e.toNat Ag.zero).2.2.2.2.2.1.length then
 if(0:Int)<=((b.1.getD e.toNat Ag.zero).2.2.2.2.2.1.getD j.toNat APr.zero)/\((b.1.getD e.toNat Ag.zero).2.2.2.2.2.1.getD j.toNat APr.zero)<(g.length:Int)then
 if(k.length+([g.getD ((b.1.getD e.toNat Ag.zero).2.2.2.2.2.1.getD j.toNat APr.zero).toNat APv.zero]:AOP).length)*24<=140737488355328 then
 some (.inl (wI (j+1),k++([g.getD ((b.1.getD e.toNat Ag.zero).2.2.2.2.2.1.getD j.toNat APr.zero).toNat APv.zero]:AOP)))
 else none
 else none
 else none
 else none
 else
 some (.inr k)
 else none
def Fy a e b g (z_:Int×AOP):=Ln a e b g z_.1 z_.2
def Ox a e b g j k:=fix (Fy a e b g) (j,k)
theorem AyD a e b g:A4 E36 0 10 (cd f82 500) 202 (Aws a e b g) (Fy a e b g) (Auo a e b g):=by
 intro _;simp only[Fy,Ln,AOi];kernel_rfl
def Qr(a:AOE)(b:AOu)(e:Int)(g:AOP)(l:AOF):APJ ((Int×AOP×AOF)⊕(Unit⊕AOF)):=
 bif decide (e<(b.1.length:Int))then
 (Ox a e b g 0 ([]:AOP)).bind λi=>if 0<=e/\e<b.1.length then
 (SD a (b.1.getD e.toNat Ag.zero) i).bind λn=>(SB n).bind λo=>bif !o.1 then
 some (.inr (.inl ()))
 else
 if(g.length+([n]:AOP).length)*24<=140737488355328 then
 some (.inl (wI (e+1),g++([n]:AOP),o.2))
 else none
 else none
 else
 some (.inr (.inr l))
def Lp a b (z_:Int×AOP×AOF):=Qr a b z_.1 z_.2.1 z_.2.2
def S8 a b e g l:=fix (Lp a b) (e,g,l)
theorem AyE a b:A4 E36 0 6 (code f82) 250 (Awt a b) (Lp a b) (Aup a b):=by
 intro _;simp(disch:=refine id ?_;kernel_rfl) only[Lp,Qr,AOi,Ox,AH (AyD _ _ _ _) (K:=KJ E36 0 6)];kernel_rfl
def Di(a:AOE)(b:AOu):APJ AO2:=
 (Gq a b).bind λq=>bif decide (q<0)then
 some (false,([]:AOF))
 else
 (S8 a b 0 ([]:AOP) ([]:AOF)).bind (Sum.elim (λc=>some (false,([]:AOF))) (λd=>some (true,d)))
def c82:=Cx [.d APx,.d An] [⟨[.AB [] APx,.AB [] An],[],AO2,λp=>Di p.1.1 p.1.2.1,λr=>(.cons QO (.cons (dB r.1) .nil),[Cf r.2])⟩]
theorem yE:Aq prog 82 c82:=Av (fn:=f82) ⟨⟨E36,pk ⟨yD,AdJ,AdK,trivial⟩,λ_ R K=>by
 simp(disch:=refine id ?_;kernel_rfl) only[Di,AOj,S8,AH (AyE _ _) (K:=A2 E36 f82 0 R K)];kernel_rfl⟩,trivial⟩
abbrev E37:=eN [(82,c82)] {A8:=[(3,{Bb:=[0,1,6,7],Cg:=[(6,false,.row [] 71 APu true)]})],BW:=[(3,[4,5,6])],BS:=[(8,[0,1,6,7,8,10,44])],DD:=[(8,[0,1,6,7,8,9,10,11])]}
def Awu a b (z_:Int×AOQ):=sT 52 [(0,Au a),(1,Bo b),(6,.AG 0),(7,dI z_.1)] [QN z_.2]
def Auq(a:AOE)(b:AOG):=Sum.elim (λ(c:AOQ)=>xR 52 [(4,.AG 0),(5,dB false),(6,.AG 0)] [QN c]) (λ(d:AOQ)=>xE 0 52 [(6,.AG 0)] [QN d])
def AkN a b e (g:AO2) (i:AO2) j:=sT 52 [(0,Au a),(1,Bo b),(6,.AG 0),(7,dI e),(8,.AG 1),(9,dB g.1),(10,.AG 2),(11,dB i.1)] [QN j,Cf g.2,Cf i.2]
def Acz(a:AOE)(b:AOG)(e:Int)(g i:AO2)(j:AOQ)(m0:Bool):Ex×St:=xN 52 [(0,Au a),(1,Bo b),(6,.AG 0),(7,dI e),(8,.AG 1),(10,.AG 2),(44,dB m0)] [QN j,Cf g.2,Cf i.2]
theorem AyF a b e g i j:Xn E37 0 8 (cd f55 116) (pt 204) (AkN a b e g i j)=some (Acz a b e g i j ((!g.1)||(!i.1))):=by
 refine .trans (b:=
 bif !g.1 then
 some (Acz a b e g i j true)
 else
 some (Acz a b e g i j (!i.1))) (by kernel_rfl) ?_
 cases (!g.1);rfl;rfl
def QH(a:AOE)(b:AOG)(e:Int)(j:AOQ):APJ ((Int×AOQ)⊕(AOQ⊕AOQ)):=
 bif decide (e<(b.length:Int))then
 if 0<=e/\e<b.length then
 (Di a (b.getD e.toNat Af.zero).2.2.1).bind λg=>if 0<=e/\e<b.length then
 (Di a (b.getD e.toNat Af.zero).2.2.2.1).bind λi=>PD (AkN a b e g i j) (
 bif (!g.1)||(!i.1)then
 some (.inr (.inl j))
 else
 if(j.length+([g.2,i.2]:AOQ).length)*24<=140737488355328 then
 some (.inl (wI (e+1),j++([g.2,i.2]:AOQ)))
 else none)
 else none
 else none
 else
 some (.inr (.inr j))
def LK a b (z_:Int×AOQ):=QH a b z_.1 z_.2
def Xf a b e j:=fix (LK a b) (e,j)
theorem AyG a b:A4 E37 0 3 (code f55) 58 (Awu a b) (LK a b) (Auq a b):=by
 intro _;simp(disch:=refine id ?_;kernel_rfl) only[LK,QH,AOi,Ft (AyF ..) (K:=KJ E37 0 3)];kernel_rfl
def Nc(a:AOE)(b:AOG):APJ (Bool×AOQ):=
 (Xf a b 0 ([]:AOQ)).bind (Sum.elim (λc=>some (false,c)) (λd=>some (true,d)))
def c55:=Cx [.d APx,.d APz] [⟨[.AB [] APx,.AB [] APz],[],Bool×AOQ,λp=>Nc p.1.1 p.1.2.1,λr=>(.cons QO (.cons (dB r.1) .nil),[QN r.2])⟩]
theorem oi:Aq prog 55 c55:=Av (fn:=f55) ⟨⟨E37,pk ⟨yE,trivial⟩,λ_ R K=>by
 simp(disch:=refine id ?_;kernel_rfl) only[Nc,AOj,Xf,AH (AyG _ _) (K:=A2 E37 f55 0 R K)];kernel_rfl⟩,trivial⟩
abbrev E38:=eN [] {Aw:=false,A8:=[(3,{Bb:=[0,3,4],Cg:=[(3,false,.row [] 61 Af false)]})],BW:=[(3,[3])],BS:=[(4,{Bb:=[0,3,4],Cg:=[(3,false,.row [] 61 Af false)]})],DD:=[(4,[0,3,4])]}
def Aww a (z_:Int×AOG):=sT 25 (AkD a z_.1) [RZ z_.2]
def Aus(a:AOG):=λ(b:AOG)=>xE 0 25 jY [RZ b]
def Awv a c d:=sT 25 (AkD a c) [RZ d]
def Aur a c (d:AOG):=λ(e:AOG)=>xN 25 (AkD a c) [RZ e]
def MQ(a:AOG)(c:Int)(d:AOG):APJ AOG:=
 if 0<=c/\c<a.length then
 bif (a.getD c.toNat Af.zero).2.1 then
 if 0<=c/\c<a.length then
 if(d.length+([a.getD c.toNat Af.zero]:AOG).length)*64<=140737488355328 then
 some (d++([a.getD c.toNat Af.zero]:AOG))
 else none
 else none
 else
 some d
 else none
theorem AyH a c d:AY E38 0 4 (cd f29 116) 6 (Awv a c d) (MQ a c d) (Aur a c d):=by
 unfold AY;simp only[MQ,AOi];kernel_rfl
def J9(a:AOG)(c:Int)(d:AOG):APJ ((Int×AOG)⊕AOG):=
 bif decide (c<(a.length:Int))then
 (MQ a c d).bind λe=>some (.inl (wI (c+1),e))
 else
 some (.inr d)
def EA a (z_:Int×AOG):=J9 a z_.1 z_.2
def Rs a c d:=fix (EA a) (c,d)
theorem AyI a:A4 E38 0 3 (code f29) 58 (Aww a) (EA a) (Aus a):=by
 intro _;simp(disch:=refine id ?_;kernel_rfl) only[EA,J9,AOi,Bc (AyH ..) (K:=KJ E38 0 3)];kernel_rfl
def KN(a:AOG):APJ AOG:=
 (Rs a 0 ([]:AOG)).bind λb=>some b
def c29:=Cx [.d APz] [⟨[.AB [] APz],[],AOG,λp=>KN p.1.1,λr=>(.AG 0,[RZ r])⟩]
theorem yu:Aq prog 29 c29:=Av (fn:=f29) ⟨⟨E38,pk trivial,λ_ R K=>by
 simp(disch:=refine id ?_;kernel_rfl) only[KN,AOj,Rs,AH (AyI _) (K:=A2 E38 f29 0 R K)];kernel_rfl⟩,trivial⟩
abbrev E39:=eN [] {A8:=[(3,{Bb:=[0,2,3,4],Cg:=[(3,true,.row [0] 78 APw true)]})],BW:=[(3,[2,3])]}
def Awx a (z_:Int×AON):=sT 19 [(0,Au a),(2,Ar),(3,A6),(4,dI z_.1)] (zZ z_.2)
def Aut(a:AOE):=λ(b:AON)=>xE 0 19 [(2,Ar),(3,A6)] (zZ b)
def M9(a:AOE)(c:Int)(d:AON):APJ ((Int×AON)⊕AON):=
 bif decide (c<(a.length:Int))then
 if(d.length+([([]:AOz)]:AON).length)*24<=140737488355328 then
 some (.inl (wI (c+1),d++([([]:AOz)]:AON)))
 else none
 else
 some (.inr d)
def GM a (z_:Int×AON):=M9 a z_.1 z_.2
def Uw a c d:=fix (GM a) (c,d)
theorem AyJ a:A4 E39 0 3 (code f57) 58 (Awx a) (GM a) (Aut a):=by
 intro _;simp only[GM,M9,AOi];kernel_rfl
def Ps(a:AOE):APJ AON:=
 (Uw a 0 ([]:AON)).bind λb=>some b
def c57:=Cx [.d APx] [⟨[.AB [] APx],[],AON,λp=>Ps p.1.1,λr=>(.pr QO .u,[Dh r])⟩]
theorem yw:Aq prog 57 c57:=Av (fn:=f57) ⟨⟨E39,pk trivial,λ_ R K=>by
 simp(disch:=refine id ?_;kernel_rfl) only[Ps,AOj,Uw,AH (AyJ _) (K:=A2 E39 f57 0 R K)];kernel_rfl⟩,trivial⟩
abbrev E40:=eN [(79,c79),(81,c81)] {A8:=[(4,[0,3,5]),(7,[0,3,5,6])],BW:=[(4,[4]),(7,[0,3,4,5])],BS:=[(2,[0,3,17]),(10,[0,3,5,6,74])],DD:=[(2,[0,3]),(10,[0,3,5,6])]}
def AwB a b (z_:Int):=sT 75 [(0,Au a),(3,Ar),(5,dI z_)] [.box (BQ b)]
def Aux(a:AOE)(b:AOt):=Sum.elim (λ(c:Unit)=>xR 75 fz []) (λ(d:Unit)=>xE 0 75 [] [])
def AwA a e b (z_:Int):=sT 75 [(0,Au a),(3,Ar),(5,dI e),(6,dI z_)] [.box (BQ b)]
def Auw a e b:=Sum.elim (λ(g:Unit)=>xR 75 [(0,Au a),(3,Ar),(4,dB false),(5,dI e)] [.box (BQ b)]) (λ(i:Unit)=>xE 2 75 [(0,Au a),(3,Ar),(5,dI e)] [.box (BQ b)])
def Awz a e j b:=sT 75 [(0,Au a),(3,Ar),(5,dI e),(6,dI j)] [.box (BQ b)]
def Auv a e j b:=λ(k:Bool)=>xN 75 [(0,Au a),(3,Ar),(5,dI e),(6,dI j),(74,dB k)] [.box (BQ b)]
def Mi(a:AOE)(e j:Int)(b:AOt):APJ Bool:=
 if 0<=e/\e<b.1.length then
 if 0<=j/\j<(b.1.getD e.toNat APw.zero).length then
 if 0<=e/\e<a.length then
 bif !(BF ((b.1.getD e.toNat APw.zero).getD j.toNat APr.zero) 1 (wI ((a.getD e.toNat Ad.zero).2.1-1)))then
 some true
 else
 bif decide (j>0)then
 if 0<=e/\e<b.1.length then
 if 0<=j/\j<(b.1.getD e.toNat APw.zero).length then
 if 0<=e/\e<b.1.length then
 if 0<=(wI (j-1))/\(wI (j-1))<(b.1.getD e.toNat APw.zero).length then
 some (decide (((b.1.getD e.toNat APw.zero).getD j.toNat APr.zero)<=((b.1.getD e.toNat APw.zero).getD (wI (j-1)).toNat APr.zero)))
 else none
 else none
 else none
 else none
 else
 some false
 else none
 else none
 else none
theorem AyL a e j b:AY E40 0 10 (sb (cd f88 116) 100) 24 (Awz a e j b) (Mi a e j b) (Auv a e j b):=by
 unfold AY;simp only[Mi,AOi];kernel_rfl
def MM(a:AOE)(e:Int)(b:AOt)(j:Int):APJ (Int⊕(Unit⊕Unit)):=
 if 0<=e/\e<b.1.length then
 bif decide (j<((b.1.getD e.toNat APw.zero).length:Int))then
 (Mi a e j b).bind λk=>bif k then
 some (.inr (.inl ()))
 else
 some (.inl (wI (j+1)))
 else
 some (.inr (.inr ()))
 else none
def Jb a e b (z_:Int):=MM a e b z_
def X7 a e b j:=fix (Jb a e b) j
theorem AyM a e b:A4 E40 0 7 (cd f88 116) 50 (AwA a e b) (Jb a e b) (Auw a e b):=by
 intro _;simp(disch:=refine id ?_;kernel_rfl) only[Jb,MM,AOi,Bc (AyL ..) (K:=KJ E40 0 7)];kernel_rfl
def MN(a:AOE)(b:AOt)(e:Int):APJ (Int⊕(Unit⊕Unit)):=
 bif decide (e<(b.1.length:Int))then
 (X7 a e b 0).bind (Sum.elim (λg=>some (.inr (.inl ()))) (λi=>some (.inl (wI (e+1)))))
 else
 some (.inr (.inr ()))
def Jc a b (z_:Int):=MN a b z_
def X8 a b e:=fix (Jc a b) e
theorem AyN a b:A4 E40 0 4 (code f88) 58 (AwB a b) (Jc a b) (Aux a b):=by
 intro _;simp(disch:=refine id ?_;kernel_rfl) only[Jc,MN,AOi,X7,AH (AyM _ _ _) (K:=KJ E40 0 4)];kernel_rfl
def Awy a b:=sT 75 [(0,Au a),(3,Ar)] [.box (BQ b)]
def Auu a b:=λ(l:Bool)=>xN 75 [(0,Au a),(3,Ar),(17,dB l)] [.box (BQ b)]
def Qq(a:AOE)(b:AOt):APJ Bool:=
 (J5 a).bind λn=>bif !n then
 some true
 else
 some ((b.1.length:Int) !=(a.length:Int))
theorem AyK a b:AY E40 0 2 (code f88) 12 (Awy a b) (Qq a b) (Auu a b):=by
 unfold AY;simp only[Qq,AOi];kernel_rfl
def Jt(a:AOE)(b:AOt):APJ Bool:=
 (Qq a b).bind λl=>bif l then
 some false
 else
 (X8 a b 0).bind (Sum.elim (λc=>some false) (λd=>some true))
def c88:=Cx [.d APx,.d Am] [⟨[.AB [] APx,.AB [] Am],[],Bool,λp=>Jt p.1.1 p.1.2.1,λr=>(dB r,[])⟩]
theorem fE:Aq prog 88 c88:=Av (fn:=f88) ⟨⟨E40,pk ⟨oo,UO,trivial⟩,λ_ R K=>by
 simp(disch:=refine id ?_;kernel_rfl) only[Jt,AOj,Bc (AyK ..) (K:=A2 E40 f88 0 R K),X8,AH (AyN _ _) (K:=A2 E40 f88 0 R K)];kernel_rfl⟩,trivial⟩
abbrev E41:=eN [] {A8:=[(3,{Bb:=[0,3,5,6],Cg:=[(5,false,.row [] 95 APy true)]}),(7,[0,3,5,6,7,8])],BW:=[(3,[5]),(7,[0,3,5,6,7])]}
def AwD a b (z_:Int×AOO):=sT 48 (z6 a z_.1) [.box (BQ b),Ca z_.2]
def Auz(a:AOE)(b:AOt):=λ(c:AOO)=>xE 0 48 [(5,.AG 0)] [Ca c]
def AwC a d b e (z_:Int×AOA):=sT 48 [(0,Au a),(3,Ar),(5,.AG 1),(6,dI d),(7,.AG 2),(8,dI z_.1)] [.box (BQ b),Ca e,HD z_.2]
def Auy a d b e:=λ(g:AOA)=>xE 2 48 [(0,Au a),(3,Ar),(5,.AG 1),(6,dI d),(7,.AG 2)] [.box (BQ b),Ca e,HD g]
def LD(a:AOE)(d:Int)(b:AOt)(e:AOO)(i:Int)(j:AOA):APJ ((Int×AOA)⊕AOA):=
 if 0<=d/\d<b.1.length then
 bif decide (i<((b.1.getD d.toNat APw.zero).length:Int))then
 if 0<=d/\d<b.1.length then
 if 0<=i/\i<(b.1.getD d.toNat APw.zero).length then
 if(0:Int)<=((b.1.getD d.toNat APw.zero).getD i.toNat APr.zero)/\((b.1.getD d.toNat APw.zero).getD i.toNat APr.zero)<(j.length:Int)then
 some (.inl (wI (i+1),j.set ((b.1.getD d.toNat APw.zero).getD i.toNat APr.zero).toNat true))
 else none
 else none
 else none
 else
 some (.inr j)
 else none
def FJ a d b e (z_:Int×AOA):=LD a d b e z_.1 z_.2
def Te a d b e i j:=fix (FJ a d b e) (i,j)
theorem AyO a d b e:A4 E41 0 7 (cd f89 116) 202 (AwC a d b e) (FJ a d b e) (Auy a d b e):=by
 intro _;simp only[FJ,LD,AOi];kernel_rfl
def LF(a:AOE)(b:AOt)(d:Int)(e:AOO):APJ ((Int×AOO)⊕AOO):=
 bif decide (d<(a.length:Int))then
 if 0<=d/\d<a.length then
 if Ty.row .bool=true/\(0:Int)<=(wI ((a.getD d.toNat Ad.zero).2.1+1))/\(wI ((a.getD d.toNat Ad.zero).2.1+1))<=(wI ((a.getD d.toNat Ad.zero).2.1+1))/\((1:Nat):Int)*(wI ((a.getD d.toNat Ad.zero).2.1+1))<=(281474976710656:Int)/\(wI ((a.getD d.toNat Ad.zero).2.1+1))<=(9223372036854775807:Int)then
 (Te a d b e 0 (List.replicate (wI ((a.getD d.toNat Ad.zero).2.1+1)).toNat false)).bind λg=>if(e.length+([g]:AOO).length)*24<=140737488355328 then
 some (.inl (wI (d+1),e++([g]:AOO)))
 else none
 else none
 else none
 else
 some (.inr e)
def FK a b (z_:Int×AOO):=LF a b z_.1 z_.2
def Tf a b d e:=fix (FK a b) (d,e)
theorem AyP a b:A4 E41 0 3 (code f89) 58 (AwD a b) (FK a b) (Auz a b):=by
 intro _;simp(disch:=refine id ?_;kernel_rfl) only[FK,LF,AOi,Te,AH (AyO _ _ _ _) (K:=KJ E41 0 3)];kernel_rfl
def M8(a:AOE)(b:AOt):APJ AOO:=
 (Tf a b 0 ([]:AOO)).bind λc=>some c
def c89:=Cx [.d APx,.d Am] [⟨[.AB [] APx,.AB [] Am],[],AOO,λp=>M8 p.1.1 p.1.2.1,λr=>(.AG 0,[Ca r])⟩]
theorem yG:Aq prog 89 c89:=Av (fn:=f89) ⟨⟨E41,pk trivial,λ_ R K=>by
 simp(disch:=refine id ?_;kernel_rfl) only[M8,AOj,Tf,AH (AyP _ _) (K:=A2 E41 f89 0 R K)];kernel_rfl⟩,trivial⟩
abbrev E42:=eN [(152,AiE)] {A8:=[(3,{Bb:=[0,3,4],Cg:=[(3,false,.row [] 209 Aa true)]}),(6,{Bb:=[0,3,4,5],Cg:=[(3,false,.row [] 209 Aa true)]})],BW:=[(3,[3]),(6,[0,3,4])],BS:=[(7,[0,3,4,5])],DD:=[(7,[0,3,4,5])]}
def AwG a (z_:Int×AOC):=sT 57 [(0,Cc a),(3,.AG 0),(4,dI z_.1)] [EF z_.2]
def AuC(a:AOF):=λ(b:AOC)=>xE 0 57 jY [EF b]
def AwF a c (z_:Int×AOC):=sT 57 (Ahs a c z_.1) [EF z_.2]
def AuB a c:=λ(d:AOC)=>xE 2 57 [(0,Cc a),(3,.AG 0),(4,dI c)] [EF d]
def AwE a c e g:=sT 57 (Ahs a c e) [EF g]
def AuA a c e (g:AOC):=λ(i:AOC)=>xN 57 (Ahs a c e) [EF i]
def Qy(a:AOF)(c e:Int)(g:AOC):APJ AOC:=
 if 0<=c/\c<a.length then
 bif decide ((a.getD c.toNat Ae.zero).1<0)then
 if 0<=c/\c<a.length then
 (Iq (a.getD c.toNat Ae.zero).2.2.2.1 e).bind λj=>if(g.length+([(-1,wI j,())]:AOC).length)*16<=140737488355328 then
 some (g++([(-1,wI j,())]:AOC))
 else none
 else none
 else
 if 0<=c/\c<a.length then
 if 0<=c/\c<a.length then
 if(g.length+([((a.getD c.toNat Ae.zero).1,wI ((a.getD c.toNat Ae.zero).2.1+e),())]:AOC).length)*16<=140737488355328 then
 some (g++([((a.getD c.toNat Ae.zero).1,wI ((a.getD c.toNat Ae.zero).2.1+e),())]:AOC))
 else none
 else none
 else none
 else none
theorem AyQ a c e g:AY E42 0 7 (sb (cd f124 116) 100) 6 (AwE a c e g) (Qy a c e g) (AuA a c e g):=by
 unfold AY;simp only[Qy,AOi];kernel_rfl
def MZ(a:AOF)(c e:Int)(g:AOC):APJ (APe⊕AOC):=
 if 0<=c/\c<a.length then
 bif decide (e<(a.getD c.toNat Ae.zero).2.2.1)then
 (Qy a c e g).bind λi=>some (.inl (wI (e+1),i))
 else
 some (.inr g)
 else none
def GH a c (z_:Int×AOC):=MZ a c z_.1 z_.2
def Ur a c e g:=fix (GH a c) (e,g)
theorem AyR a c:A4 E42 0 6 (cd f124 116) 50 (AwF a c) (GH a c) (AuB a c):=by
 intro _;simp(disch:=refine id ?_;kernel_rfl) only[GH,MZ,AOi,Bc (AyQ ..) (K:=KJ E42 0 6)];kernel_rfl
def M0(a:AOF)(c:Int)(k:AOC):APJ (APe⊕AOC):=
 bif decide (c<(a.length:Int))then
 (Ur a c 0 k).bind λd=>some (.inl (wI (c+1),d))
 else
 some (.inr k)
def EB a (z_:Int×AOC):=M0 a z_.1 z_.2
def Us a c k:=fix (EB a) (c,k)
theorem AyS a:A4 E42 0 3 (code f124) 58 (AwG a) (EB a) (AuC a):=by
 intro _;simp(disch:=refine id ?_;kernel_rfl) only[EB,M0,AOi,Ur,AH (AyR _ _) (K:=KJ E42 0 3)];kernel_rfl
def SA(a:AOF):APJ AOC:=
 (Us a 0 ([]:AOC)).bind λb=>some b
def AAY:=Cx [.d APu] [⟨[.AB [] APu],[],AOC,λp=>SA p.1.1,λr=>(.AG 0,[EF r])⟩]
theorem AdR:Aq prog 124 AAY:=Av (fn:=f124) ⟨⟨E42,pk ⟨gR,trivial⟩,λ_ R K=>by
 simp(disch:=refine id ?_;kernel_rfl) only[SA,AOj,Us,AH (AyS _) (K:=A2 E42 f124 0 R K)];kernel_rfl⟩,trivial⟩
abbrev E43:=eN [(124,AAY)] {A8:=[(3,{Bb:=[0,2,3,4],Cg:=[(3,true,.row [1] 4 .bool true)]}),(6,{Bb:=[0,2,3,4,5],Cg:=[(3,true,.row [1] 4 .bool true)]})],BW:=[(3,[2,3]),(6,[0,2,3,4])]}
def AwI a b (z_:Int×AOA):=sT 32 [(0,Cc a),(2,Ar),(3,A6),(4,dI z_.1)] (z7 b z_.2)
def AuE(a:AOF) b:=λ(c:AOA)=>xE 0 32 [(2,Ar),(3,A6)] (z7 b c)
def AwH a d b (z_:Int×AOA):=sT 32 [(0,Cc a),(2,Ar),(3,A6),(4,dI d),(5,dI z_.1)] (z7 b z_.2)
def AuD a d b:=λ(e:AOA)=>xE 2 32 [(0,Cc a),(2,Ar),(3,A6),(4,dI d)] (z7 b e)
def Na(a:AOF)(d:Int)(b:AOC)(g:Int)(i:AOA):APJ ((Int×AOA)⊕AOA):=
 if 0<=d/\d<a.length then
 bif decide (g<(a.getD d.toNat Ae.zero).2.2.1)then
 if(i.length+([g==0]:AOA).length)*1<=140737488355328 then
 some (.inl (wI (g+1),i++([g==0]:AOA)))
 else none
 else
 some (.inr i)
 else none
def GN a d b (z_:Int×AOA):=Na a d b z_.1 z_.2
def Ux a d b g i:=fix (GN a d b) (g,i)
theorem AyT a d b:A4 E43 0 6 (cd f92 116) 50 (AwH a d b) (GN a d b) (AuD a d b):=by
 intro _;simp only[GN,Na,AOi];kernel_rfl
def Nb(a:AOF)(b:AOC)(d:Int)(j:AOA):APJ ((Int×AOA)⊕AOA):=
 bif decide (d<(a.length:Int))then
 (Ux a d b 0 j).bind λe=>some (.inl (wI (d+1),e))
 else
 some (.inr j)
def GQ a b (z_:Int×AOA):=Nb a b z_.1 z_.2
def Uy a b d j:=fix (GQ a b) (d,j)
theorem AyU a b:A4 E43 0 3 (code f92) 58 (AwI a b) (GQ a b) (AuE a b):=by
 intro _;simp(disch:=refine id ?_;kernel_rfl) only[GQ,Nb,AOi,Ux,AH (AyT _ _ _) (K:=KJ E43 0 3)];kernel_rfl
def Ju(a:AOF):APJ (AOC×AOA):=
 (SA a).bind λb=>(Uy a b 0 ([]:AOA)).bind λc=>some (b,c)
def c92:=Cx [.d APu] [⟨[.AB [] APu],[],AOC×AOA,λp=>Ju p.1.1,λr=>(.pr QO (.pr F8 .u),[EF r.1,HD r.2])⟩]
theorem yH:Aq prog 92 c92:=Av (fn:=f92) ⟨⟨E43,pk ⟨AdR,trivial⟩,λ_ R K=>by
 simp(disch:=refine id ?_;kernel_rfl) only[Ju,AOj,Uy,AH (AyU _ _) (K:=A2 E43 f92 0 R K)];kernel_rfl⟩,trivial⟩
abbrev E44:=eN [] {}
def Eg(a:AOx)(b:AOO)(c:Int):APJ Bool:=
 if 0<=c/\c<a.2.1.length then
 bif a.2.1.getD c.toNat (Ty.zero .bool)then
 some true
 else
 if 0<=c/\c<a.1.length then
 bif decide ((a.1.getD c.toNat Aa.zero).1>=0)then
 if 0<=c/\c<a.1.length then
 if(0:Int)<=(a.1.getD c.toNat Aa.zero).1/\(a.1.getD c.toNat Aa.zero).1<(b.length:Int)then
 if 0<=c/\c<a.1.length then
 if(0:Int)<=(a.1.getD c.toNat Aa.zero).2.1/\(a.1.getD c.toNat Aa.zero).2.1<((b.getD (a.1.getD c.toNat Aa.zero).1.toNat APy.zero).length:Int)then
 some ((b.getD (a.1.getD c.toNat Aa.zero).1.toNat APy.zero).getD (a.1.getD c.toNat Aa.zero).2.1.toNat (Ty.zero .bool))
 else none
 else none
 else none
 else none
 else
 some false
 else none
 else none
def c94:=Cx [.d As,.d APF,.d APr] [⟨[.AB [] As,.AB [] APF,.AB [] APr],[],Bool,λp=>Eg p.1.1 p.1.2.1 p.1.2.2.1,λr=>(dB r,[])⟩]
theorem ou:Aq prog 94 c94:=Av (fn:=f94) ⟨⟨E44,pk trivial,λ_ R K=>by
 simp only[Eg,AOj];kernel_rfl⟩,trivial⟩
abbrev E45:=eN [(94,c94)] {}
def Jk(a:AOx)(b:AOO)(c:Int):APJ Bool:=
 (Eg a b c).bind λd=>bif !d then
 if 0<=c/\c<a.1.length then
 some (decide ((a.1.getD c.toNat Aa.zero).1>=0))
 else none
 else
 some false
def AAX:=Cx [.d As,.d APF,.d APr] [⟨[.AB [] As,.AB [] APF,.AB [] APr],[],Bool,λp=>Jk p.1.1 p.1.2.1 p.1.2.2.1,λr=>(dB r,[])⟩]
theorem AdQ:Aq prog 123 AAX:=Av (fn:=f123) ⟨⟨E45,pk ⟨ou,trivial⟩,λ_ R K=>by
 simp only[Jk,AOj];kernel_rfl⟩,trivial⟩
abbrev eV:=eN [(55,c55),(92,c92),(94,c94),(123,AAX)] {Af4:=[(59,4),(67,4),(151,4)],A8:=[(6,{Bb:=[2,7,9,10],Cg:=[(9,false,.row [] 176 As true)]}),(9,[2,7,9,10,11]),(17,[2,9,13]),(20,[2,9,13,14]),(24,[2,9,13,14,15,16]),(31,[2,9,13,14,15,16,17,18])],BW:=[(6,[2,9]),(9,[2,7,9,10]),(17,{Bb:=[]}),(20,[2,9,13]),(24,[2,9,13,14]),(31,[2,9,13,14,15,16])],BS:=[(10,[2,7,9,10,11]),(25,[2,9,13,14,15,16]),(29,[2,9,13,14,15,16,17]),(30,[2,9,13,14,15,16,17]),(32,[2,9,13,14,15,16,17,18]),(36,[2,9,13,14,15,16,17,18,20,142])],DD:=[(10,[2,7,9,10,11]),(25,[2,9,13,14,15,16]),(29,[2,9,13,14,15,16,17]),(30,[2,9,13,14,15,16,17]),(32,[2,9,13,14,15,16,17,18]),(36,[2,9,13,14,15,16,17,18,19,20])]}
def Apw a (z_:Bool×AOO):=sT 159 [(2,.AG 0),(9,.AG 1),(13,dB z_.1)] (SF z_.2 a)
def AnY(a:AOM):=λ(b:AOO)=>xE 4 159 [] [Ca b]
def Apv a (z_:Bool×Int×AOO):=sT 159 [(2,.AG 0),(9,.AG 1),(13,dB z_.1),(14,dI z_.2.1)] (SF z_.2.2 a)
def AnX a:=λ(c:AO3)=>xE 6 159 [(2,.AG 0),(9,.AG 1),(13,dB c.1)] (SF c.2 a)
def Apu d a e (z_:Bool×Int×AOO):=sT 159 (z8 z_.1 d e z_.2.1) (SF z_.2.2 a)
def AnW d a (e:Int):=λ(g:AO3)=>xE 8 159 [(2,.AG 0),(9,.AG 1),(13,dB g.1),(14,dI d)] (SF g.2 a)
def Apt i d e j k a:=sT 159 (z8 i d e j) (SF k a)
def AnV(i:Bool) d e j (k:AOO) a:=λ(l:AO3)=>xN 159 (z8 l.1 d e j) (SF l.2 a)
def AwP d e j a n (z_:Bool×Int×AOO):=sT 159 (Aht z_.1 d e j n z_.2.1) (SF z_.2.2 a)
def AuL d e j a (n:Int):=λ(o:AO3)=>xE 10 159 (z8 o.1 d e j) (SF o.2 a)
def AwO q d e j n s t a:=sT 159 (Aht q d e j n s) (SF t a)
def AuK(q:Bool) d e j n s (t:AOO) a:=λ(u:AO3)=>xN 159 (Aht u.1 d e j n s) (SF u.2 a)
def AwN q d e j n s t a v w:=sT 159 [(2,.AG 0),(9,.AG 1),(13,dB q),(14,dI d),(15,dI e),(16,dI j),(17,dI n),(18,dI s),(19,HC),(20,WV)] [Ca t,Vh a,.box (.AB [1] As v),.box (.AB [1] As w)]
def AuJ q d e j n s t a (v:AOx) w:=λ(x:Bool)=>xN 159 [(2,.AG 0),(9,.AG 1),(13,dB q),(14,dI d),(15,dI e),(16,dI j),(17,dI n),(18,dI s),(20,HC),(142,dB x)] [Ca t,Vh a,.box (.AB [1] As w)]
def OL(q:Bool)(d e j n s:Int)(t:AOO)(a:AOM)(v w:AOx):APJ Bool:=
 (Eg v t n).bind λy=>bif y then
 (Jk w t n).bind λa1=>some a1
 else
 some false
theorem Ay0 q d e j n s t a v w:AY eV 1 36 (sb (sb (sb (sb (sb (cd f90 1016) 108) 204) 6) 188) 6) 22 (AwN q d e j n s t a v w) (OL q d e j n s t a v w) (AuJ q d e j n s t a v w):=by
 unfold AY;simp only[OL,AOi];kernel_rfl
def Kz(q:Bool)(d e j n s:Int)(t:AOO)(a:AOM):APJ AO3:=
 if 0<=(wI (d+s))/\(wI (d+s))<a.length then
 if 0<=(wI ((wI (d+1))-s))/\(wI ((wI (d+1))-s))<a.length then
 (OL q d e j n s t a (a.getD (wI (d+s)).toNat As.zero) (a.getD (wI ((wI (d+1))-s)).toNat As.zero)).bind λx=>bif x then
 if 0<=n/\n<(a.getD (wI ((wI (d+1))-s)).toNat As.zero).1.length then
 if(0:Int)<=((a.getD (wI ((wI (d+1))-s)).toNat As.zero).1.getD n.toNat Aa.zero).1/\((a.getD (wI ((wI (d+1))-s)).toNat As.zero).1.getD n.toNat Aa.zero).1<(t.length:Int)then
 if 0<=n/\n<(a.getD (wI ((wI (d+1))-s)).toNat As.zero).1.length then
 if(0:Int)<=((a.getD (wI ((wI (d+1))-s)).toNat As.zero).1.getD n.toNat Aa.zero).2.1/\((a.getD (wI ((wI (d+1))-s)).toNat As.zero).1.getD n.toNat Aa.zero).2.1<(t.getD ((a.getD (wI ((wI (d+1))-s)).toNat As.zero).1.getD n.toNat Aa.zero).1.toNat APy.zero).length then
 some (true,t.set ((a.getD (wI ((wI (d+1))-s)).toNat As.zero).1.getD n.toNat Aa.zero).1.toNat ((t.getD ((a.getD (wI ((wI (d+1))-s)).toNat As.zero).1.getD n.toNat Aa.zero).1.toNat APy.zero).set ((a.getD (wI ((wI (d+1))-s)).toNat As.zero).1.getD n.toNat Aa.zero).2.1.toNat true))
 else none
 else none
 else none
 else none
 else
 some (q,t)
 else none
 else none
theorem Ay1 q d e j n s t a:AY eV 1 32 (sb (sb (sb (sb (cd f90 1016) 108) 204) 6) 188) 6 (AwO q d e j n s t a) (Kz q d e j n s t a) (AuK q d e j n s t a):=by
 unfold AY;simp(disch:=refine id ?_;kernel_rfl) only[Kz,AOi,Bc (Ay0 ..) (K:=UH eV 1 32)];kernel_rfl
def LC(d e j:Int)(a:AOM)(n:Int)(q:Bool)(s:Int)(t:AOO):APJ ((Bool×Int×AOO)⊕AO3):=
 bif decide (s<2)then
 (Kz q d e j n s t a).bind λu=>some (.inl (u.1,wI (s+1),u.2))
 else
 some (.inr (q,t))
def FH d e j a n (z_:Bool×Int×AOO):=LC d e j a n z_.1 z_.2.1 z_.2.2
def Td d e j a n q s t:=fix (FH d e j a n) (q,s,t)
theorem Ay2 d e j a n:A4 eV 1 31 (sb (sb (sb (cd f90 1016) 108) 204) 6) 94 (AwP d e j a n) (FH d e j a n) (AuL d e j a n):=by
 intro _;simp(disch:=refine id ?_;kernel_rfl) only[FH,LC,AOi,Bc (Ay1 ..) (K:=KJ eV 1 31)];kernel_rfl
def AwM i d e j k a b1:=sT 159 (uS i d e j b1) (SF k a)
def AuI i d e j k a b1:=Sum.elim (λ(c1:Unit)=>xE 9 159 (uS i d e j b1) (SF k a)) (λ(d1:Unit)=>xN 159 (uS i d e j b1) (SF k a))
def OJ(i:Bool)(d e j:Int)(k:AOO)(a:AOM)(b1:Int):APJ (Unit⊕Unit):=
 bif decide (b1<1)then
 some (.inl ())
 else
 bif decide (b1>=e)then
 some (.inl ())
 else
 some (.inr ())
theorem AyZ i d e j k a b1:AY eV 1 30 (sb (sb (sb (cd f90 1016) 108) 204) 6) 22 (AwM i d e j k a b1) (OJ i d e j k a b1) (AuI i d e j k a b1):=by
 unfold AY;simp only[OJ,AOi];kernel_rfl
def AkO i d e j k a:=sT 159 (uS i d e j j) (SF k a)
def AcA(i:Bool)(d e j:Int)(k:AOO)(a:AOM)(m0:Int):Ex×St:=xN 159 (uS i d e j m0) (SF k a)
theorem AyY i d e j k a:Xn eV 1 29 (sb (sb (sb (cd f90 1016) 108) 204) 6) (pt 10) (AkO i d e j k a)=some (AcA i d e j k a (bif decide (j>=e)then(wI ((wI (2*e))-j))else j)):=by
 refine .trans (b:=
 bif decide (j>=e)then
 some (AcA i d e j k a (wI ((wI (2*e))-j)))
 else
 some (AcA i d e j k a j)) (by kernel_rfl) ?_
 cases (decide (j>=e));rfl;rfl
def Jj(i:Bool)(d e j:Int)(k:AOO)(a:AOM):APJ AO3:=
 PD (AkO i d e j k a) (
 (OJ i d e j k a (bif decide (j>=e)then(wI ((wI (2*e))-j))else j)).bind (Sum.elim (λc1=>some (i,k)) (λd1=>(Td d e j a (bif decide (j>=e)then(wI ((wI (2*e))-j))else j) i 0 k).bind λo=>some (o.1,o.2))))
theorem Arj i d e j k a:AY eV 1 25 (sb (sb (cd f90 1016) 108) 204) 6 (Apt i d e j k a) (Jj i d e j k a) (AnV i d e j k a):=by
 unfold AY;simp(disch:=refine id ?_;kernel_rfl) only[Jj,AOi,Ft (AyY ..) (K:=UH eV 1 25),Bc (AyZ ..) (K:=UH eV 1 25),Td,AH (Ay2 _ _ _ _ _) (K:=UH eV 1 25)];kernel_rfl
def Kd(d:Int)(a:AOM)(e:Int)(i:Bool)(j:Int)(k:AOO):APJ ((Bool×Int×AOO)⊕AO3):=
 bif decide (j<(wI (2*e)))then
 (Jj i d e j k a).bind λl=>some (.inl (l.1,wI (j+1),l.2))
 else
 some (.inr (i,k))
def EC d a e (z_:Bool×Int×AOO):=Kd d a e z_.1 z_.2.1 z_.2.2
def Rx d a e i j k:=fix (EC d a e) (i,j,k)
theorem Ark d a e:A4 eV 1 24 (sb (cd f90 1016) 108) 102 (Apu d a e) (EC d a e) (AnW d a e):=by
 intro _;simp(disch:=refine id ?_;kernel_rfl) only[EC,Kd,AOi,Bc (Arj ..) (K:=KJ eV 1 24)];kernel_rfl
def Ke(a:AOM)(e1:Bool)(d:Int)(g1:AOO):APJ ((Bool×Int×AOO)⊕AO3):=
 bif decide (d<(a.length:Int))then
 if 0<=d/\d<a.length then
 (Rx d a ((a.getD d.toNat As.zero).1.length:Int) e1 1 g1).bind λg=>some (.inl (g.1,wI (d+2),g.2))
 else none
 else
 some (.inr (e1,g1))
def ED a (z_:Bool×Int×AOO):=Ke a z_.1 z_.2.1 z_.2.2
def Ry a e1 d g1:=fix (ED a) (e1,d,g1)
theorem Arl a:A4 eV 1 20 (cd f90 1016) 54 (Apv a) (ED a) (AnX a):=by
 intro _;simp(disch:=refine id ?_;kernel_rfl) only[ED,Ke,AOi,Rx,AH (Ark _ _ _) (K:=KJ eV 1 20)];kernel_rfl
def O4(a:AOM)(i1:Bool)(j1:AOO):APJ (AO3⊕AOO):=
 bif i1 then
 (Ry a false 0 j1).bind λc=>some (.inl (c.1,c.2))
 else
 some (.inr j1)
def Kg a (z_:Bool×AOO):=O4 a z_.1 z_.2
def Rz a i1 j1:=fix (Kg a) (i1,j1)
theorem Arm a:A4 eV 1 17 (code f90) 508 (Apw a) (Kg a) (AnY a):=by
 intro _;simp(disch:=refine id ?_;kernel_rfl) only[Kg,O4,AOi,Ry,AH (Arl _) (K:=KJ eV 1 17)];kernel_rfl
def AwL k1 (z_:Int×AOO×AOM):=sT 159 [(2,.AG 0),(7,.AG 1),(9,.AG 2),(10,dI z_.1)] [Ca z_.2.1,QN k1,Vh z_.2.2]
def AuH(k1:AOQ):=λ(l1:(AOO×AOM))=>xE 0 159 [(2,.AG 0),(9,.AG 1)] (SF l1.1 l1.2)
def AwK n1 k1 o1 (z_:Int×AOO):=sT 159 (Ahu n1 z_.1) [Ca z_.2,QN k1,Vh o1]
def AuG n1 k1 o1:=λ(q1:AOO)=>xE 2 159 [(2,.AG 0),(7,.AG 1),(9,.AG 2),(10,dI n1)] [Ca q1,QN k1,Vh o1]
def AwJ n1 s1 t1 k1 o1:=sT 159 (Ahu n1 s1) [Ca t1,QN k1,Vh o1]
def AuF n1 s1 (t1:AOO) k1 o1:=λ(u1:AOO)=>xN 159 (Ahu n1 s1) [Ca u1,QN k1,Vh o1]
def Ky(n1 s1:Int)(t1:AOO)(k1:AOQ)(o1:AOM):APJ AOO:=
 if 0<=n1/\n1<k1.length then
 if 0<=s1/\s1<(k1.getD n1.toNat APu.zero).length then
 bif decide (((k1.getD n1.toNat APu.zero).getD s1.toNat Ae.zero).1>=0)then
 if(0:Int)<=((k1.getD n1.toNat APu.zero).getD s1.toNat Ae.zero).1/\((k1.getD n1.toNat APu.zero).getD s1.toNat Ae.zero).1<(t1.length:Int)then
 if(0:Int)<=((k1.getD n1.toNat APu.zero).getD s1.toNat Ae.zero).2.1/\((k1.getD n1.toNat APu.zero).getD s1.toNat Ae.zero).2.1<(t1.getD ((k1.getD n1.toNat APu.zero).getD s1.toNat Ae.zero).1.toNat APy.zero).length then
 if(0:Int)<=((k1.getD n1.toNat APu.zero).getD s1.toNat Ae.zero).1/\((k1.getD n1.toNat APu.zero).getD s1.toNat Ae.zero).1<((t1.set ((k1.getD n1.toNat APu.zero).getD s1.toNat Ae.zero).1.toNat ((t1.getD ((k1.getD n1.toNat APu.zero).getD s1.toNat Ae.zero).1.toNat APy.zero).set ((k1.getD n1.toNat APu.zero).getD s1.toNat Ae.zero).2.1.toNat true)).length:Int)then
 if(0:Int)<=(wI (((k1.getD n1.toNat APu.zero).getD s1.toNat Ae.zero).2.1+((k1.getD n1.toNat APu.zero).getD s1.toNat Ae.zero).2.2.1))/\(wI (((k1.getD n1.toNat APu.zero).getD s1.toNat Ae.zero).2.1+((k1.getD n1.toNat APu.zero).getD s1.toNat Ae.zero).2.2.1))<((t1.set ((k1.getD n1.toNat APu.zero).getD s1.toNat Ae.zero).1.toNat ((t1.getD ((k1.getD n1.toNat APu.zero).getD s1.toNat Ae.zero).1.toNat APy.zero).set ((k1.getD n1.toNat APu.zero).getD s1.toNat Ae.zero).2.1.toNat true)).getD ((k1.getD n1.toNat APu.zero).getD s1.toNat Ae.zero).1.toNat APy.zero).length then
 some ((t1.set ((k1.getD n1.toNat APu.zero).getD s1.toNat Ae.zero).1.toNat ((t1.getD ((k1.getD n1.toNat APu.zero).getD s1.toNat Ae.zero).1.toNat APy.zero).set ((k1.getD n1.toNat APu.zero).getD s1.toNat Ae.zero).2.1.toNat true)).set ((k1.getD n1.toNat APu.zero).getD s1.toNat Ae.zero).1.toNat (((t1.set ((k1.getD n1.toNat APu.zero).getD s1.toNat Ae.zero).1.toNat ((t1.getD ((k1.getD n1.toNat APu.zero).getD s1.toNat Ae.zero).1.toNat APy.zero).set ((k1.getD n1.toNat APu.zero).getD s1.toNat Ae.zero).2.1.toNat true)).getD ((k1.getD n1.toNat APu.zero).getD s1.toNat Ae.zero).1.toNat APy.zero).set (wI (((k1.getD n1.toNat APu.zero).getD s1.toNat Ae.zero).2.1+((k1.getD n1.toNat APu.zero).getD s1.toNat Ae.zero).2.2.1)).toNat true))
 else none
 else none
 else none
 else none
 else
 some t1
 else none
 else none
theorem AyV n1 s1 t1 k1 o1:AY eV 1 10 (sb (cd f90 500) 196) 6 (AwJ n1 s1 t1 k1 o1) (Ky n1 s1 t1 k1 o1) (AuF n1 s1 t1 k1 o1):=by
 unfold AY;simp only[Ky,AOi];kernel_rfl
def LA(n1:Int)(k1:AOQ)(o1:AOM)(s1:Int)(t1:AOO):APJ ((Int×AOO)⊕AOO):=
 if 0<=n1/\n1<k1.length then
 bif decide (s1<((k1.getD n1.toNat APu.zero).length:Int))then
 (Ky n1 s1 t1 k1 o1).bind λu1=>some (.inl (wI (s1+1),u1))
 else
 some (.inr t1)
 else none
def FF n1 k1 o1 (z_:Int×AOO):=LA n1 k1 o1 z_.1 z_.2
def Tb n1 k1 o1 s1 t1:=fix (FF n1 k1 o1) (s1,t1)
theorem AyW n1 k1 o1:A4 eV 1 9 (cd f90 500) 98 (AwK n1 k1 o1) (FF n1 k1 o1) (AuG n1 k1 o1):=by
 intro _;simp(disch:=refine id ?_;kernel_rfl) only[FF,LA,AOi,Bc (AyV ..) (K:=KJ eV 1 9)];kernel_rfl
def LB(k1:AOQ)(n1:Int)(v1:AOO)(o1:AOM):APJ ((Int×AOO×AOM)⊕(AOO×AOM)):=
 bif decide (n1<(k1.length:Int))then
 (Tb n1 k1 o1 0 v1).bind λq1=>if 0<=n1/\n1<k1.length then
 (Ju (k1.getD n1.toNat APu.zero)).bind λw1=>if(o1.length+([(w1.1,w1.2,())]:AOM).length)*48<=140737488355328 then
 some (.inl (wI (n1+1),q1,o1++([(w1.1,w1.2,())]:AOM)))
 else none
 else none
 else
 some (.inr (v1,o1))
def FG k1 (z_:Int×AOO×AOM):=LB k1 z_.1 z_.2.1 z_.2.2
def Tc k1 n1 v1 o1:=fix (FG k1) (n1,v1,o1)
theorem AyX k1:A4 eV 1 6 (code f90) 250 (AwL k1) (FG k1) (AuH k1):=by
 intro _;simp(disch:=refine id ?_;kernel_rfl) only[FG,LB,AOi,Tb,AH (AyW _ _ _) (K:=KJ eV 1 6)];kernel_rfl
def TD(x1:AOE)(y1:AOG)(a2:AOO):APJ AO3:=
 (Nc x1 y1).bind λb2=>bif !b2.1 then
 some (false,a2)
 else
 (Tc b2.2 0 a2 ([]:AOM)).bind λl1=>(Rz l1.2 true l1.1).bind λb=>some (true,b)
def c90:=Cx [.d APx,.d APz,.WH] [⟨[.AB [] APx,.AB [] APz,.k QO],[.row 95 .Aw APy],AO3,λp=>TD p.1.1 p.1.2.1 p.2.1,λr=>(dB r.1,[Ca r.2])⟩]
theorem Ajf:Aq prog 90 c90:=Av (fn:=f90) ⟨⟨eV,pk ⟨oi,yH,ou,AdQ,trivial⟩,λ_ R K=>by
 simp(disch:=refine id ?_;kernel_rfl) only[TD,AOj,Tc,AH (AyX _) (K:=A2 eV f90 1 R K),Rz,AH (Arm _) (K:=A2 eV f90 1 R K)];kernel_rfl⟩,trivial⟩
abbrev E47:=eN [] {A8:=[(3,{Bb:=[0,2,3,4],Cg:=[(3,true,.row [0] 78 APw true)]}),(7,{Bb:=[0,2,3,4,5,6],Cg:=[(5,false,.row [] 2 APr true)]})],BW:=[(3,[2,3]),(7,[0,2,3,4,5])],BS:=[(8,{Bb:=[0,2,3,4,5,6],Cg:=[(5,false,.row [] 2 APr true)]})],DD:=[(8,[0,2,3,4,5,6])]}
def AwS a (z_:Int×AON):=sT 43 [(0,WT a),(2,Ar),(3,A6),(4,dI z_.1)] (zZ z_.2)
def AuO(a:AOO):=λ(b:AON)=>xE 0 43 [(2,Ar),(3,A6)] (zZ b)
def AwR a c d (z_:Int×AOz):=sT 43 (Ahv a c z_.1) (Aaa z_.2 d)
def AuN a c d:=λ(e:AOz)=>xE 2 43 [(0,WT a),(2,Ar),(3,A6),(4,dI c),(5,.AG 2)] (Aaa e d)
def AwQ a c g i d:=sT 43 (Ahv a c g) (Aaa i d)
def AuM a c g (i:AOz) d:=λ(j:AOz)=>xN 43 (Ahv a c g) (Aaa j d)
def Mm(a:AOO)(c g:Int)(i:AOz)(d:AON):APJ AOz:=
 if 0<=c/\c<a.length then
 if 0<=g/\g<(a.getD c.toNat APy.zero).length then
 bif (a.getD c.toNat APy.zero).getD g.toNat (Ty.zero .bool)then
 if(i.length+([g]:AOz).length)*8<=140737488355328 then
 some (i++([g]:AOz))
 else none
 else
 some i
 else none
 else none
theorem Ay3 a c g i d:AY E47 0 8 (sb (cd f91 116) 404) 6 (AwQ a c g i d) (Mm a c g i d) (AuM a c g i d):=by
 unfold AY;simp only[Mm,AOi];kernel_rfl
def M6(a:AOO)(c:Int)(d:AON)(g:Int)(i:AOz):APJ (AOW⊕AOz):=
 if 0<=c/\c<a.length then
 bif decide ((wI (g+1))<((a.getD c.toNat APy.zero).length:Int))then
 (Mm a c g i d).bind λj=>some (.inl (wI (g+1),j))
 else
 some (.inr i)
 else none
def GK a c d (z_:Int×AOz):=M6 a c d z_.1 z_.2
def Uu a c d g i:=fix (GK a c d) (g,i)
theorem Ay4 a c d:A4 E47 0 7 (cd f91 116) 202 (AwR a c d) (GK a c d) (AuN a c d):=by
 intro _;simp(disch:=refine id ?_;kernel_rfl) only[GK,M6,AOi,Bc (Ay3 ..) (K:=KJ E47 0 7)];kernel_rfl
def M7(a:AOO)(c:Int)(d:AON):APJ ((Int×AON)⊕AON):=
 bif decide (c<(a.length:Int))then
 (Uu a c d 1 ([]:AOz)).bind λe=>if(d.length+([e]:AON).length)*24<=140737488355328 then
 some (.inl (wI (c+1),d++([e]:AON)))
 else none
 else
 some (.inr d)
def GL a (z_:Int×AON):=M7 a z_.1 z_.2
def Uv a c d:=fix (GL a) (c,d)
theorem Ay5 a:A4 E47 0 3 (code f91) 58 (AwS a) (GL a) (AuO a):=by
 intro _;simp(disch:=refine id ?_;kernel_rfl) only[GL,M7,AOi,Uu,AH (Ay4 _ _ _) (K:=KJ E47 0 3)];kernel_rfl
def SE(a:AOO):APJ AON:=
 (Uv a 0 ([]:AON)).bind λb=>some b
def c91:=Cx [.d APF] [⟨[.AB [] APF],[],AON,λp=>SE p.1.1,λr=>(.pr QO .u,[Dh r])⟩]
theorem Ajg:Aq prog 91 c91:=Av (fn:=f91) ⟨⟨E47,pk trivial,λ_ R K=>by
 simp(disch:=refine id ?_;kernel_rfl) only[SE,AOj,Uv,AH (Ay5 _) (K:=A2 E47 f91 0 R K)];kernel_rfl⟩,trivial⟩
end
end Go.Proofs.X
