import Derived.KernelRfl
import Derived.Test.YtoinnpeenpmgkaaGreatK2
set_option linter.unusedVariables false
set_option linter.unusedSimpArgs false
namespace Go.Proofs.X
open Go Go.Va Go.Proofs.Tryz
set_option maxRecDepth 100000
noncomputable section
abbrev E24:=eN [] {}
def MA(a:Int):Bool:=((decide (a>=48))&&(decide (a<=57)))
theorem U24 R a K:R4 E24 f181 R [dD ALR a] [] K=K (dB (MA a)) []:=by
 refine .trans (b:=
 bif decide (a>=48)then
 K (dB (decide (a<=57))) []
 else
 K (dB false) []) (by kernel_rfl) ?_
 unfold MA;cases (decide (a>=48));rfl;rfl
def AyE:=B6 [.d ALR] [⟨[.Ax [] ALR],[],Bool,λp=>some (MA p.1.1),λr=>(dB r,[])⟩]
theorem AbY:Ap prog 181 AyE:=As ⟨⟨E24,pk trivial,λ_ _ _=>U24 ..⟩,trivial⟩
abbrev E25:=eN [(181,AyE)] {A1:=[(4,[0,3])],Bv:=[(4,[2])],BR:=[(2,[0,16]),(7,[0,3,39])],D2:=[(2,[0]),(7,[0,3])]}
def Atc a (z_:Int):=sT 40 [(0,dD .str a),(3,dI z_)] []
def Aq5(a:ByteArray):=Sum.elim (λ(b:Unit)=>xR 40 [(2,dB false)] []) (λ(c:Unit)=>xE 0 40 [] [])
def Atb a d:=sT 40 [(0,dD .str a),(3,dI d)] []
def Aq4 a d:=λ(e:Bool)=>xN 40 [(0,dD .str a),(3,dI d),(39,dB e)] []
def LV(a:ByteArray)(d:Int):AL8 Bool:=
 if(0:Int)<=d/\d<(a.size:Int)then
 bif !(MA (Cz a d))then
 if(0:Int)<=d/\d<(a.size:Int)then
 bif decide ((Cz a d)<97)then
 some true
 else
 if(0:Int)<=d/\d<(a.size:Int)then
 some (decide ((Cz a d)>122))
 else none
 else none
 else
 some false
 else none
theorem Avj a d:AP E25 0 7 (cd f158 116) 24 (Atb a d) (LV a d) (Aq4 a d):=by
 unfold AP;simp only[LV,ALh];kernel_rfl
def MC(a:ByteArray)(d:Int):AL8 (Int⊕(Unit⊕Unit)):=
 bif decide (d<(a.size:Int))then
 (LV a d).bind λe=>bif e then
 some (.inr (.inl ()))
 else
 some (.inl (wI (d+1)))
 else
 some (.inr (.inr ()))
def Je a (z_:Int):=MC a z_
def T8 a d:=fix (Je a) d
theorem Avk a:A0 E25 0 4 (code f158) 58 (Atc a) (Je a) (Aq5 a):=by
 intro _;simp only[Je,MC,ALh];simp(disch:=refine id ?_;kernel_rfl) only[A8 (Avj ..) (K:=LP E25 0 4)];kernel_rfl
def Ata a:=sT 40 [(0,dD .str a)] []
def Aq3 a:=λ(g:Bool)=>xN 40 [(0,dD .str a),(16,dB g)] []
def Qc(a:ByteArray):AL8 Bool:=
 bif decide ((a.size:Int)<1)then
 some true
 else
 bif decide ((a.size:Int)>12)then
 some true
 else
 if(0:Int)<=(0:Int)/\(0:Int)<(a.size:Int)then
 some (MA (Cz a 0))
 else none
theorem Avi a:AP E25 0 2 (code f158) 12 (Ata a) (Qc a) (Aq3 a):=by
 unfold AP;simp only[Qc,ALh];kernel_rfl
def Pm(a:ByteArray):AL8 Bool:=
 (Qc a).bind λg=>bif g then
 some false
 else
 (T8 a 0).bind (Sum.elim (λb=>some false) (λc=>some true))
def Aym:=B6 [.d .str] [⟨[.Ax [] .str],[],Bool,λp=>Pm p.1.1,λr=>(dB r,[])⟩]
theorem AbG:Ap prog 158 Aym:=As (fn:=f158) ⟨⟨E25,pk ⟨AbY,trivial⟩,λ_ R K=>by
 simp only[Pm,ALi];simp(disch:=refine id ?_;kernel_rfl) only[A8 (Avi _) (K:=AY E25 f158 0 R K),T8,Az (Avk _) (K:=AY E25 f158 0 R K)];kernel_rfl⟩,trivial⟩
abbrev E26:=eN [] {}
def Bw(a b c:Int):Bool:=((decide (a>=b))&&(decide (a<=c)))
theorem U26 R a b c K:R4 E26 f133 R [dI a,dI b,dI c] [] K=K (dB (Bw a b c)) []:=by
 refine .trans (b:=
 bif decide (a>=b)then
 K (dB (decide (a<=c))) []
 else
 K (dB false) []) (by kernel_rfl) ?_
 unfold Bw;cases (decide (a>=b));rfl;rfl
def l7:=B6 [.d ALP,.d ALP,.d ALP] [⟨[.Ax [] ALP,.Ax [] ALP,.Ax [] ALP],[],Bool,λp=>some (Bw p.1.1 p.1.2.1 p.1.2.2.1),λr=>(dB r,[])⟩]
theorem RG:Ap prog 133 l7:=As ⟨⟨E26,pk trivial,λ_ _ _=>U26 ..⟩,trivial⟩
abbrev E27:=eN [(133,l7),(158,Aym)] {A1:=[(5,[0,3,4]),(10,[0,3,4,5])],Bv:=[(5,[2,3]),(10,[0,2,3,4])],BR:=[(8,[0,3,4,30])],D2:=[(8,[0,3,4])]}
def Atf a (z_:Int×Int):=sT 56 [(0,dD ALU a),(3,dI z_.1),(4,dI z_.2)] []
def Aq8(a:ALC):=Sum.elim (λ(b:Int)=>xR 56 [(2,dB false),(3,dI b)] []) (λ(c:Int)=>xE 0 56 [(3,dI c)] [])
def Ate a d e (z_:Int):=sT 56 [(0,dD ALU a),(3,dI d),(4,dI e),(5,dI z_)] []
def Aq7 a d e:=Sum.elim (λ(g:Unit)=>xR 56 [(0,dD ALU a),(2,dB false),(3,dI d),(4,dI e)] []) (λ(i:Unit)=>xE 2 56 [(0,dD ALU a),(3,dI d),(4,dI e)] [])
def K4(a:ALC)(d e j:Int):AL8 (Int⊕(Unit⊕Unit)):=
 bif decide (j<e)then
 if 0<=j/\j<a.length then
 if 0<=e/\e<a.length then
 bif Jj (a.getD j.toNat Ad.zero).1 (a.getD e.toNat Ad.zero).1 then
 some (.inr (.inl ()))
 else
 some (.inl (wI (j+1)))
 else none
 else none
 else
 some (.inr (.inr ()))
def H5 a d e (z_:Int):=K4 a d e z_
def SE a d e j:=fix (H5 a d e) j
theorem Avm a d e:A0 E27 0 10 (cd f132 244) 202 (Ate a d e) (H5 a d e) (Aq7 a d e):=by
 intro _;simp only[H5,K4,ALh];kernel_rfl
def Atd a d e:=sT 56 [(0,dD ALU a),(3,dI d),(4,dI e)] []
def Aq6 a d e:=λ(k:Bool)=>xN 56 [(0,dD ALU a),(3,dI d),(4,dI e),(30,dB k)] []
def Od(a:ALC)(d e:Int):AL8 Bool:=
 if 0<=e/\e<a.length then
 (Pm (a.getD e.toNat Ad.zero).1).bind λl=>bif !l then
 some true
 else
 if 0<=e/\e<a.length then
 some (!(Bw (a.getD e.toNat Ad.zero).2.1 1 4096))
 else none
 else none
theorem Avl a d e:AP E27 0 8 (cd f132 244) 48 (Atd a d e) (Od a d e) (Aq6 a d e):=by
 unfold AP;simp only[Od,ALh];kernel_rfl
def K5(a:ALC)(d e:Int):AL8 ((Int×Int)⊕(Int⊕Int)):=
 bif decide (e<(a.length:Int))then
 (Od a d e).bind λk=>bif k then
 some (.inr (.inl d))
 else
 (SE a d e 0).bind (Sum.elim (λg=>some (.inr (.inl d))) (λi=>if 0<=e/\e<a.length then
 some (.inl (wI (d+(a.getD e.toNat Ad.zero).2.1),wI (e+1)))
 else none))
 else
 some (.inr (.inr d))
def H6 a (z_:Int×Int):=K5 a z_.1 z_.2
def SF a d e:=fix (H6 a) (d,e)
theorem Avn a:A0 E27 0 5 (code f132) 122 (Atf a) (H6 a) (Aq8 a):=by
 intro _;simp only[H6,K5,ALh];simp(disch:=refine id ?_;kernel_rfl) only[A8 (Avl ..) (K:=LP E27 0 5),SE,Az (Avm _ _ _) (K:=LP E27 0 5)];kernel_rfl
def JY(a:ALC):AL8 Bool:=
 bif decide ((a.length:Int)>60)then
 some false
 else
 (SF a 0 0).bind (Sum.elim (λb=>some false) (λc=>some (decide (c<=20000))))
def AfN:=B6 [.d ALU] [⟨[.Ax [] ALU],[],Bool,λp=>JY p.1.1,λr=>(dB r,[])⟩]
theorem eK:Ap prog 132 AfN:=As (fn:=f132) ⟨⟨E27,pk ⟨RG,AbG,trivial⟩,λ_ R K=>by
 simp only[JY,ALi];simp(disch:=refine id ?_;kernel_rfl) only[SF,Az (Avn _) (K:=AY E27 f132 0 R K)];kernel_rfl⟩,trivial⟩
abbrev E28:=eN [(132,AfN),(133,l7)] {A1:=[(4,[0,3,5]),(7,[0,3,5,6])],Bv:=[(4,[4]),(7,[0,3,4,5])],BR:=[(2,[0,3,17]),(10,[0,3,5,6,74])],D2:=[(2,[0,3]),(10,[0,3,5,6])]}
def Atj a b (z_:Int):=sT 75 [(0,dD ALU a),(3,.ptr 0 0 [] 0),(5,dI z_)] [.box (dD Aj b)]
def Arc(a:ALC)(b:ALr):=Sum.elim (λ(c:Unit)=>xR 75 [(4,dB false)] []) (λ(d:Unit)=>xE 0 75 [] [])
def Ati a e b (z_:Int):=sT 75 [(0,dD ALU a),(3,.ptr 0 0 [] 0),(5,dI e),(6,dI z_)] [.box (dD Aj b)]
def Arb a e b:=Sum.elim (λ(g:Unit)=>xR 75 [(0,dD ALU a),(3,.ptr 0 0 [] 0),(4,dB false),(5,dI e)] [.box (dD Aj b)]) (λ(i:Unit)=>xE 2 75 [(0,dD ALU a),(3,.ptr 0 0 [] 0),(5,dI e)] [.box (dD Aj b)])
def Ath a e j b:=sT 75 [(0,dD ALU a),(3,.ptr 0 0 [] 0),(5,dI e),(6,dI j)] [.box (dD Aj b)]
def Ara a e j b:=λ(k:Bool)=>xN 75 [(0,dD ALU a),(3,.ptr 0 0 [] 0),(5,dI e),(6,dI j),(74,dB k)] [.box (dD Aj b)]
def LU(a:ALC)(e j:Int)(b:ALr):AL8 Bool:=
 if 0<=e/\e<b.1.length then
 if 0<=j/\j<(b.1.getD e.toNat ALT.zero).length then
 if 0<=e/\e<a.length then
 bif !(Bw ((b.1.getD e.toNat ALT.zero).getD j.toNat ALP.zero) 1 (wI ((a.getD e.toNat Ad.zero).2.1-1)))then
 some true
 else
 bif decide (j>0)then
 if 0<=e/\e<b.1.length then
 if 0<=j/\j<(b.1.getD e.toNat ALT.zero).length then
 if 0<=e/\e<b.1.length then
 if 0<=(wI (j-1))/\(wI (j-1))<(b.1.getD e.toNat ALT.zero).length then
 some (decide (((b.1.getD e.toNat ALT.zero).getD j.toNat ALP.zero)<=((b.1.getD e.toNat ALT.zero).getD (wI (j-1)).toNat ALP.zero)))
 else none
 else none
 else none
 else none
 else
 some false
 else none
 else none
 else none
theorem Avp a e j b:AP E28 0 10 (sb (cd f83 116) 100) 24 (Ath a e j b) (LU a e j b) (Ara a e j b):=by
 unfold AP;simp only[LU,ALh];kernel_rfl
def Mu(a:ALC)(e:Int)(b:ALr)(j:Int):AL8 (Int⊕(Unit⊕Unit)):=
 if 0<=e/\e<b.1.length then
 bif decide (j<((b.1.getD e.toNat ALT.zero).length:Int))then
 (LU a e j b).bind λk=>bif k then
 some (.inr (.inl ()))
 else
 some (.inl (wI (j+1)))
 else
 some (.inr (.inr ()))
 else none
def I9 a e b (z_:Int):=Mu a e b z_
def T4 a e b j:=fix (I9 a e b) j
theorem Avq a e b:A0 E28 0 7 (cd f83 116) 50 (Ati a e b) (I9 a e b) (Arb a e b):=by
 intro _;simp only[I9,Mu,ALh];simp(disch:=refine id ?_;kernel_rfl) only[A8 (Avp ..) (K:=LP E28 0 7)];kernel_rfl
def Mv(a:ALC)(b:ALr)(e:Int):AL8 (Int⊕(Unit⊕Unit)):=
 bif decide (e<(b.1.length:Int))then
 (T4 a e b 0).bind (Sum.elim (λg=>some (.inr (.inl ()))) (λi=>some (.inl (wI (e+1)))))
 else
 some (.inr (.inr ()))
def Ja a b (z_:Int):=Mv a b z_
def T5 a b e:=fix (Ja a b) e
theorem Avr a b:A0 E28 0 4 (code f83) 58 (Atj a b) (Ja a b) (Arc a b):=by
 intro _;simp only[Ja,Mv,ALh];simp(disch:=refine id ?_;kernel_rfl) only[T4,Az (Avq _ _ _) (K:=LP E28 0 4)];kernel_rfl
def Atg a b:=sT 75 [(0,dD ALU a),(3,.ptr 0 0 [] 0)] [.box (dD Aj b)]
def Aq9 a b:=λ(l:Bool)=>xN 75 [(0,dD ALU a),(3,.ptr 0 0 [] 0),(17,dB l)] [.box (dD Aj b)]
def Qa(a:ALC)(b:ALr):AL8 Bool:=
 (JY a).bind λn=>bif !n then
 some true
 else
 some ((b.1.length:Int) !=(a.length:Int))
theorem Avo a b:AP E28 0 2 (code f83) 12 (Atg a b) (Qa a b) (Aq9 a b):=by
 unfold AP;simp only[Qa,ALh];kernel_rfl
def Jn(a:ALC)(b:ALr):AL8 Bool:=
 (Qa a b).bind λl=>bif l then
 some false
 else
 (T5 a b 0).bind (Sum.elim (λc=>some false) (λd=>some true))
def c83:=B6 [.d ALU,.d Aj] [⟨[.Ax [] ALU,.Ax [] Aj],[],Bool,λp=>Jn p.1.1 p.1.2.1,λr=>(dB r,[])⟩]
theorem dq:Ap prog 83 c83:=As (fn:=f83) ⟨⟨E28,pk ⟨eK,RG,trivial⟩,λ_ R K=>by
 simp only[Jn,ALi];simp(disch:=refine id ?_;kernel_rfl) only[A8 (Avo ..) (K:=AY E28 f83 0 R K),T5,Az (Avr _ _) (K:=AY E28 f83 0 R K)];kernel_rfl⟩,trivial⟩
abbrev E29:=eN [] {}
def Cx(a:ALq):Bool:=((a.1==0)&&((a.2.1.length:Int)==0))
theorem U29 R a K:R4 E29 f187 R [dD Ah a] [] K=K (dB (Cx a)) []:=by
 refine .trans (b:=
 bif a.1==0 then
 K (dB ((a.2.1.length:Int)==0)) []
 else
 K (dB false) []) (by kernel_rfl) ?_
 unfold Cx;cases (a.1==0);rfl;rfl
def AyH:=B6 [.d Ah] [⟨[.Ax [] Ah],[],Bool,λp=>some (Cx p.1.1),λr=>(dB r,[])⟩]
theorem Ab1:Ap prog 187 AyH:=As ⟨⟨E29,pk trivial,λ_ _ _=>U29 ..⟩,trivial⟩
abbrev E30:=eN [(133,l7)] {}
def A2(a:Int):Bool:=(Bw a 4 9)
def AyI:=B6 [.d ALP] [⟨[.Ax [] ALP],[],Bool,λp=>some (A2 p.1.1),λr=>(dB r,[])⟩]
theorem Ab2:Ap prog 188 AyI:=As (fn:=f188) ⟨⟨E30,pk ⟨RG,trivial⟩,λ_ _ _=>by kernel_rfl⟩,trivial⟩
abbrev E31:=eN [] {}
def Ij(a:ALq)(b:Int):AL8 Int:=
 if 0<=(wI (Int.tdiv b 64))/\(wI (Int.tdiv b 64))<a.2.1.length then
 if(IntKind.u64.wrap (Int.tmod b 64))<(0:Int)then none else
 some (IntKind.u8.wrap (iF .u64 (SD .u64 (a.2.1.getD (wI (Int.tdiv b 64)).toNat ALQ.zero) (IntKind.u64.wrap (Int.tmod b 64))) 1))
 else none
def AfQ:=B6 [.d Ah,.d ALP] [⟨[.Ax [] Ah,.Ax [] ALP],[],Int,λp=>Ij p.1.1 p.1.2.1,λr=>(dD ALR r,[])⟩]
theorem eO:Ap prog 149 AfQ:=As (fn:=f149) ⟨⟨E31,pk trivial,λ_ R K=>by
 simp only[Ij,ALi];kernel_rfl⟩,trivial⟩
abbrev E32:=eN [(133,l7),(149,AfQ)] {A1:=[(4,[1,3])],Bv:=[(4,[2])],BR:=[(2,[1,17])],D2:=[(2,[1])]}
def Atk a (z_:Int):=sT 32 [(1,.ptr 0 0 [] 0),(3,dI z_)] [.box (dD Ah a)]
def Ard(a:ALq):=Sum.elim (λ(b:Unit)=>xR 32 [(2,dB false)] []) (λ(c:Unit)=>xE 0 32 [] [])
def Mt(a:ALq)(d:Int):AL8 (Int⊕(Unit⊕Unit)):=
 bif decide (d<(wI (64*(a.2.1.length:Int))))then
 (Ij a d).bind λe=>bif e !=0 then
 some (.inr (.inl ()))
 else
 some (.inl (wI (d+1)))
 else
 some (.inr (.inr ()))
def I8 a (z_:Int):=Mt a z_
def T3 a d:=fix (I8 a) d
theorem Avt a:A0 E32 0 4 (code f189) 58 (Atk a) (I8 a) (Ard a):=by
 intro _;simp only[I8,Mt,ALh];kernel_rfl
def AhY a:=sT 32 [(1,.ptr 0 0 [] 0)] [.box (dD Ah a)]
def z8(a:ALq)(m0:Bool):Ex×St:=xN 32 [(1,.ptr 0 0 [] 0),(17,dB m0)] [.box (dD Ah a)]
theorem Avs a:Xe E32 0 2 (code f189) (pt 12) (AhY a)=some (z8 a ((!(Bw a.1 1 4096))||((a.2.1.length:Int) !=(wI (Int.tdiv (wI (a.1+63)) 64))))):=by
 refine .trans (b:=
 bif !(Bw a.1 1 4096)then
 some (z8 a true)
 else
 some (z8 a ((a.2.1.length:Int) !=(wI (Int.tdiv (wI (a.1+63)) 64))))) (by kernel_rfl) ?_
 cases (!(Bw a.1 1 4096));rfl;rfl
def Pk(a:ALq):AL8 Bool:=
 QF (AhY a) (
 bif (!(Bw a.1 1 4096))||((a.2.1.length:Int) !=(wI (Int.tdiv (wI (a.1+63)) 64)))then
 some false
 else
 (T3 a a.1).bind (Sum.elim (λb=>some false) (λc=>some true)))
def AyJ:=B6 [.d Ah] [⟨[.Ax [] Ah],[],Bool,λp=>Pk p.1.1,λr=>(dB r,[])⟩]
theorem Ab3:Ap prog 189 AyJ:=As (fn:=f189) ⟨⟨E32,pk ⟨RG,eO,trivial⟩,λ_ R K=>by
 simp only[Pk,ALi];simp(disch:=refine id ?_;kernel_rfl) only[F8 (Avs _) (K:=AY E32 f189 0 R K),T3,Az (Avt _) (K:=AY E32 f189 0 R K)];kernel_rfl⟩,trivial⟩
abbrev E33:=eN [(133,l7),(187,AyH),(188,AyI),(189,AyJ)] {A1:=[(2,[0,2,4,7])],Bv:=[(2,[0,4,6])],BR:=[(7,[0,4,63]),(8,[0,4,6])],D2:=[(7,[0,4]),(8,[0,4])]}
def Atm a b:=sT 109 [(0,dD ALU a),(4,.ptr 0 0 [] 0)] [.box (dD Af b)]
def Arf a b:=Sum.elim (λ(c:Unit)=>xR 109 [(0,dD ALU a),(4,.ptr 0 0 [] 0),(6,dB false)] [.box (dD Af b)]) (λ(d:Unit)=>xN 109 [(0,dD ALU a),(4,.ptr 0 0 [] 0)] [.box (dD Af b)])
def AhZ a b:=sT 109 [(0,dD ALU a),(4,.ptr 0 0 [] 0)] [.box (dD Af b)]
def KJ(a:ALC)(b:ALo)(m0:Bool):Ex×St:=xN 109 [(0,dD ALU a),(4,.ptr 0 0 [] 0),(63,dB m0)] [.box (dD Af b)]
theorem Avv a b:Xe E33 0 7 (cd f171 14) (pt 2) (AhZ a b)=some (KJ a b (bif b.1 !=1 then((b.2.1 !=0)||(bif b.1 !=2 then((!(Cx b.2.2.2.2.1))||(bif b.1 !=4 then((b.2.2.2.1 !=0)||((!(A2 b.1))&&(b.2.2.1 !=0)))else((!(A2 b.1))&&(b.2.2.1 !=0))))else(bif b.1 !=4 then((b.2.2.2.1 !=0)||((!(A2 b.1))&&(b.2.2.1 !=0)))else((!(A2 b.1))&&(b.2.2.1 !=0)))))else(bif b.1 !=2 then((!(Cx b.2.2.2.2.1))||(bif b.1 !=4 then((b.2.2.2.1 !=0)||((!(A2 b.1))&&(b.2.2.1 !=0)))else((!(A2 b.1))&&(b.2.2.1 !=0))))else(bif b.1 !=4 then((b.2.2.2.1 !=0)||((!(A2 b.1))&&(b.2.2.1 !=0)))else((!(A2 b.1))&&(b.2.2.1 !=0)))))):=by
 refine .trans (b:=
 bif b.1 !=1 then
 bif b.2.1 !=0 then
 some (KJ a b true)
 else
 bif b.1 !=2 then
 bif !(Cx b.2.2.2.2.1)then
 some (KJ a b true)
 else
 bif b.1 !=4 then
 bif b.2.2.2.1 !=0 then
 some (KJ a b true)
 else
 bif !(A2 b.1)then
 some (KJ a b (b.2.2.1 !=0))
 else
 some (KJ a b false)
 else
 bif !(A2 b.1)then
 some (KJ a b (b.2.2.1 !=0))
 else
 some (KJ a b false)
 else
 bif b.1 !=4 then
 bif b.2.2.2.1 !=0 then
 some (KJ a b true)
 else
 bif !(A2 b.1)then
 some (KJ a b (b.2.2.1 !=0))
 else
 some (KJ a b false)
 else
 bif !(A2 b.1)then
 some (KJ a b (b.2.2.1 !=0))
 else
 some (KJ a b false)
 else
 bif b.1 !=2 then
 bif !(Cx b.2.2.2.2.1)then
 some (KJ a b true)
 else
 bif b.1 !=4 then
 bif b.2.2.2.1 !=0 then
 some (KJ a b true)
 else
 bif !(A2 b.1)then
 some (KJ a b (b.2.2.1 !=0))
 else
 some (KJ a b false)
 else
 bif !(A2 b.1)then
 some (KJ a b (b.2.2.1 !=0))
 else
 some (KJ a b false)
 else
 bif b.1 !=4 then
 bif b.2.2.2.1 !=0 then
 some (KJ a b true)
 else
 bif !(A2 b.1)then
 some (KJ a b (b.2.2.1 !=0))
 else
 some (KJ a b false)
 else
 bif !(A2 b.1)then
 some (KJ a b (b.2.2.1 !=0))
 else
 some (KJ a b false)) (by kernel_rfl) ?_
 cases (b.1 !=1);cases (b.1 !=2);cases (b.1 !=4);cases (!(A2 b.1));rfl;rfl;cases (b.2.2.2.1 !=0);cases (!(A2 b.1));rfl;rfl;rfl;cases (!(Cx b.2.2.2.2.1));cases (b.1 !=4);cases (!(A2 b.1));rfl;rfl;cases (b.2.2.2.1 !=0);cases (!(A2 b.1));rfl;rfl;rfl;rfl;cases (b.2.1 !=0);cases (b.1 !=2);cases (b.1 !=4);cases (!(A2 b.1));rfl;rfl;cases (b.2.2.2.1 !=0);cases (!(A2 b.1));rfl;rfl;rfl;cases (!(Cx b.2.2.2.2.1));cases (b.1 !=4);cases (!(A2 b.1));rfl;rfl;cases (b.2.2.2.1 !=0);cases (!(A2 b.1));rfl;rfl;rfl;rfl;rfl
def Qd(a:ALC)(b:ALo):AL8 (Unit⊕Unit):=
 QF (AhZ a b) (
 bif bif (b.1 !=1)then((b.2.1 !=0)||(bif (b.1 !=2)then((!(Cx b.2.2.2.2.1))||(bif (b.1 !=4)then((b.2.2.2.1 !=0)||((!(A2 b.1))&&(b.2.2.1 !=0)))else((!(A2 b.1))&&(b.2.2.1 !=0))))else(bif (b.1 !=4)then((b.2.2.2.1 !=0)||((!(A2 b.1))&&(b.2.2.1 !=0)))else((!(A2 b.1))&&(b.2.2.1 !=0)))))else(bif (b.1 !=2)then((!(Cx b.2.2.2.2.1))||(bif (b.1 !=4)then((b.2.2.2.1 !=0)||((!(A2 b.1))&&(b.2.2.1 !=0)))else((!(A2 b.1))&&(b.2.2.1 !=0))))else(bif (b.1 !=4)then((b.2.2.2.1 !=0)||((!(A2 b.1))&&(b.2.2.1 !=0)))else((!(A2 b.1))&&(b.2.2.1 !=0))))then
 some (.inl ())
 else
 some (.inr ()))
theorem Avw a b:AP E33 0 8 (code f171) 14 (Atm a b) (Qd a b) (Arf a b):=by
 unfold AP;simp only[Qd,ALh];simp(disch:=refine id ?_;kernel_rfl) only[F8 (Avv ..) (K:=Ta E33 0 8)];kernel_rfl
def Atl a e b (z_:Int):=sT 109 [(0,dD ALU a),(2,dI e),(4,.ptr 0 0 [] 0),(7,dI z_)] [.box (dD Af b)]
def Are a (e:Int) b:=Sum.elim (λ(g:Unit)=>xR 109 [(0,dD ALU a),(4,.ptr 0 0 [] 0),(6,dB false)] [.box (dD Af b)]) (λ(i:Unit)=>xE 0 109 [(0,dD ALU a),(4,.ptr 0 0 [] 0)] [.box (dD Af b)])
def MD(a:ALC)(e:Int)(b:ALo)(j:Int):AL8 (Int⊕(Unit⊕Unit)):=
 bif decide (j<(b.2.2.2.2.2.1.length:Int))then
 if 0<=j/\j<b.2.2.2.2.2.1.length then
 bif !(Bw (b.2.2.2.2.2.1.getD j.toNat ALP.zero) 0 (wI (e-1)))then
 some (.inr (.inl ()))
 else
 some (.inl (wI (j+1)))
 else none
 else
 some (.inr (.inr ()))
def Jf a e b (z_:Int):=MD a e b z_
def T9 a e b j:=fix (Jf a e b) j
theorem Avu a e b:A0 E33 0 2 (code f171) 26 (Atl a e b) (Jf a e b) (Are a e b):=by
 intro _;simp only[Jf,MD,ALh];kernel_rfl
def Pn(a:ALC)(b:ALo)(e:Int):AL8 Bool:=
 (T9 a e b 0).bind (Sum.elim (λg=>some false) (λi=>(Qd a b).bind (Sum.elim (λc=>some false) (λd=>bif b.1==1 then
 bif (b.2.2.2.2.2.1.length:Int)==0 then
 some (Bw b.2.1 0 (wI ((a.length:Int)-1)))
 else
 some false
 else
 bif b.1==2 then
 bif (b.2.2.2.2.2.1.length:Int)==0 then
 (Pk b.2.2.2.2.1).bind λk=>some k
 else
 some false
 else
 bif b.1==3 then
 some (decide ((b.2.2.2.2.2.1.length:Int)>=2))
 else
 bif A2 b.1 then
 some ((b.2.2.2.2.2.1.length:Int)==1)
 else
 some false))))
def Ayw:=B6 [.d ALU,.d Af,.d ALP] [⟨[.Ax [] ALU,.Ax [] Af,.Ax [] ALP],[],Bool,λp=>Pn p.1.1 p.1.2.1 p.1.2.2.1,λr=>(dB r,[])⟩]
theorem AbQ:Ap prog 171 Ayw:=As (fn:=f171) ⟨⟨E33,pk ⟨RG,Ab1,Ab2,Ab3,trivial⟩,λ_ R K=>by
 simp only[Pn,ALi];simp(disch:=refine id ?_;kernel_rfl) only[T9,Az (Avu _ _ _) (K:=AY E33 f171 0 R K),A8 (Avw ..) (K:=AY E33 f171 0 R K)];kernel_rfl⟩,trivial⟩
abbrev z1:=eN [(133,l7)] {A1:=[(3,[0,2,4,7,8])],Bv:=[(3,[0,4,7])],BR:=[(13,[4,59]),(17,[4,7,28,66]),(22,[4,7,28,77]),(28,[6,7])],D2:=[(13,[4,7]),(17,[4,7,28]),(22,[4,7,28]),(28,[0,4,7])]}
def Ato a b c:=sT 95 [(0,dD ALU a),(4,.ptr 0 0 [] 0),(7,dI b)] [.box (dD Af c)]
def Ari(a:ALC) b (c:ALo):=Sum.elim (λ(d:Int)=>xR 95 [(6,dI d),(7,dI b)] []) (Sum.elim (λ(e:Int)=>xR 95 [(6,dI e)] []) (λ(g:Unit)=>xN 95 [(7,dI b)] []))
def Ah2 b (c:ALo):=sT 95 [(4,.ptr 0 0 [] 0),(7,dI b),(28,dI c.1)] [.box (dD Af c)]
def Aab(b:Int)(c:ALo)(m0:Bool):Ex×St:=xN 95 [(4,.ptr 0 0 [] 0),(7,dI b),(28,dI c.1),(77,dB m0)] [.box (dD Af c)]
theorem AvA b c:Xe z1 0 22 (cd f172 30) (pt 3582) (Ah2 b c)=some (Aab b c (bif c.1==7 then(c.1==7)else(c.1==8))):=by
 refine .trans (b:=
 bif c.1==7 then
 some (Aab b c (c.1==7))
 else
 some (Aab b c (c.1==8))) (by kernel_rfl) ?_
 cases (c.1==7);rfl;rfl
def Ah1 b (c:ALo):=sT 95 [(4,.ptr 0 0 [] 0),(7,dI b),(28,dI c.1)] [.box (dD Af c)]
def Aaa(b:Int)(c:ALo)(m0:Bool):Ex×St:=xN 95 [(4,.ptr 0 0 [] 0),(7,dI b),(28,dI c.1),(66,dB m0)] [.box (dD Af c)]
theorem Avz b c:Xe z1 0 17 (cd f172 30) (pt 894) (Ah1 b c)=some (Aaa b c (bif c.1==5 then(c.1==5)else(c.1==6))):=by
 refine .trans (b:=
 bif c.1==5 then
 some (Aaa b c (c.1==5))
 else
 some (Aaa b c (c.1==6))) (by kernel_rfl) ?_
 cases (c.1==5);rfl;rfl
def Ah0 b c:=sT 95 [(4,.ptr 0 0 [] 0),(7,dI b)] [.box (dD Af c)]
def vo(c:ALo)(m0:Bool):Ex×St:=xN 95 [(4,.ptr 0 0 [] 0),(59,dB m0)] [.box (dD Af c)]
theorem Avy b c:Xe z1 0 13 (cd f172 30) (pt 1784) (Ah0 b c)=some (vo c ((decide (c.2.2.2.1<0))||((decide (c.2.2.1<c.2.2.2.1))||(decide (c.2.2.1>=b))))):=by
 refine .trans (b:=
 bif decide (c.2.2.2.1<0)then
 some (vo c true)
 else
 bif decide (c.2.2.1<c.2.2.2.1)then
 some (vo c true)
 else
 some (vo c (decide (c.2.2.1>=b)))) (by kernel_rfl) ?_
 cases (decide (c.2.2.2.1<0));cases (decide (c.2.2.1<c.2.2.2.1));rfl;rfl;rfl
def Qe(a:ALC)(b:Int)(c:ALo):AL8 (Int⊕(Int⊕Unit)):=
 bif c.1==1 then
 if(0:Int)<=c.2.1/\c.2.1<(a.length:Int)then
 some (.inl (a.getD c.2.1.toNat Ad.zero).2.1)
 else none
 else
 bif c.1==2 then
 some (.inl c.2.2.2.2.1.1)
 else
 bif c.1==4 then
 QF (Ah0 b c) (
 bif (decide (c.2.2.2.1<0))||((decide (c.2.2.1<c.2.2.2.1))||(decide (c.2.2.1>=b)))then
 some (.inr (.inl (-1)))
 else
 some (.inr (.inl (wI ((wI (c.2.2.1-c.2.2.2.1))+1)))))
 else
 QF (Ah1 b c) (
 bif bif (c.1==5)then(c.1==5)else(c.1==6)then
 bif !(Bw c.2.2.1 0 4096)then
 some (.inl (-1))
 else
 some (.inl (wI (b+c.2.2.1)))
 else
 QF (Ah2 b c) (
 bif bif (c.1==7)then(c.1==7)else(c.1==8)then
 bif !(Bw c.2.2.1 0 4096)then
 some (.inl (-1))
 else
 some (.inr (.inr ()))
 else
 bif c.1==9 then
 bif !(Bw c.2.2.1 1 4096)then
 some (.inl (-1))
 else
 some (.inl (wI (b*c.2.2.1)))
 else
 some (.inr (.inr ()))))
theorem AvB a b c:AP z1 0 28 (code f172) 30 (Ato a b c) (Qe a b c) (Ari a b c):=by
 unfold AP;simp only[Qe,ALh];simp(disch:=refine id ?_;kernel_rfl) only[F8 (Avy ..) (K:=Ta z1 0 28),F8 (Avz ..) (K:=Ta z1 0 28),F8 (AvA ..) (K:=Ta z1 0 28)];kernel_rfl
def Atn a i c (z_:Int×Int):=sT 95 [(0,dD ALU a),(2,dD ALT i),(4,.ptr 0 0 [] 0),(7,dI z_.1),(8,dI z_.2)] [.box (dD Af c)]
def Arh a (i:ALx) c:=λ(b:Int)=>xE 0 95 [(0,dD ALU a),(4,.ptr 0 0 [] 0),(7,dI b)] [.box (dD Af c)]
def ME(a:ALC)(i:ALx)(c:ALo)(j k:Int):AL8 ((Int×Int)⊕Int):=
 bif decide (k<(c.2.2.2.2.2.1.length:Int))then
 if 0<=k/\k<c.2.2.2.2.2.1.length then
 if(0:Int)<=(c.2.2.2.2.2.1.getD k.toNat ALP.zero)/\(c.2.2.2.2.2.1.getD k.toNat ALP.zero)<(i.length:Int)then
 some (.inl ((if(wI (j+(i.getD (c.2.2.2.2.2.1.getD k.toNat ALP.zero).toNat ALP.zero)))<8192 then(wI (j+(i.getD (c.2.2.2.2.2.1.getD k.toNat ALP.zero).toNat ALP.zero)))else 8192),wI (k+1)))
 else none
 else none
 else
 some (.inr j)
def Gn a i c (z_:Int×Int):=ME a i c z_.1 z_.2
def Ub a i c j k:=fix (Gn a i c) (j,k)
theorem Avx a i c:A0 z1 0 3 (code f172) 58 (Atn a i c) (Gn a i c) (Arh a i c):=by
 intro _;simp only[Gn,ME,ALh];kernel_rfl
def Po(a:ALC)(c:ALo)(i:ALx):AL8 Int:=
 (Ub a i c 0 0).bind λb=>(Qe a b c).bind (Sum.elim (λd=>some d) (Sum.elim (λe=>some e) (λg=>some b)))
def Ayx:=B6 [.d ALU,.d Af,.d ALT] [⟨[.Ax [] ALU,.Ax [] Af,.Ax [] ALT],[],Int,λp=>Po p.1.1 p.1.2.1 p.1.2.2.1,λr=>(dI r,[])⟩]
theorem AbR:Ap prog 172 Ayx:=As (fn:=f172) ⟨⟨z1,pk ⟨RG,trivial⟩,λ_ R K=>by
 simp only[Po,ALi];simp(disch:=refine id ?_;kernel_rfl) only[Ub,Az (Avx _ _ _) (K:=AY z1 f172 0 R K),A8 (AvB ..) (K:=AY z1 f172 0 R K)];kernel_rfl⟩,trivial⟩
abbrev E35:=eN [(132,AfN),(133,l7),(171,Ayw),(172,Ayx)] {A1:=[(7,{Bb:=[0,3,5,6,7,8],Ck:=[(6,false,.row [] 2 ALP true)]}),(16,[0,3,5,6,7,8,10]),(20,[5,6,7,11])],Bv:=[(7,{Bb:=[4,5,6,7],Sj:=[(7,false,ALW)]}),(16,[0,3,5,6,7,8]),(20,[4,6])],BR:=[(3,[0,3,5,27])],D2:=[(3,[0,3,5])],dM:=[(0,.row [] 2 ALP true)]}
def Ats a b (z_:Int):=sT 103 [(5,.zs),(6,.Am 0),(7,dD ALW a),(11,dI z_)] [.row 2 .Ai ALP b]
def Arm(a:ALy) b:=Sum.elim (λ(c:Unit)=>xR 103 [(4,.zs),(6,.Am 0)] [.row 2 .Ai ALP b]) (λ(d:Unit)=>xE 4 103 [(6,.Am 0)] [.row 2 .Ai ALP b])
def J6(a:ALy)(b:ALx)(e:Int):AL8 (Int⊕(Unit⊕Unit)):=
 bif decide ((wI (e+1))<(a.length:Int))then
 if 0<=e/\e<a.length then
 bif !(a.getD e.toNat (Ty.zero .bool))then
 some (.inr (.inl ()))
 else
 some (.inl (wI (e+1)))
 else none
 else
 some (.inr (.inr ()))
def GV a b (z_:Int):=J6 a b z_
def Re a b e:=fix (GV a b) e
theorem AvF a b:A0 E35 0 20 (code f148) 1018 (Ats a b) (GV a b) (Arm a b):=by
 intro _;simp only[GV,J6,ALh];kernel_rfl
def Atr g i (z_:Int×ALx×ALy):=sT 103 [(0,dD ALU g),(3,.ptr 0 0 [] 0),(5,.zs),(6,.Am 1),(7,.Am 2),(8,dI z_.1)] [.box (dD Ar i),.row 2 .Ai ALP z_.2.1,.row 4 .Ai .bool z_.2.2]
def Arl(g:ALC)(i:ALv):=Sum.elim (λ(j:(ALy×ALx))=>xR 103 [(4,.zs),(5,.zs),(6,.Am 0),(7,dD ALW j.1)] [.row 2 .Ai ALP j.2]) (λ(k:(ALy×ALx))=>xE 0 103 [(5,.zs),(6,.Am 0),(7,dD ALW k.1)] [.row 2 .Ai ALP k.2])
def Atq g l i n (z_:Int×ALy):=sT 103 [(0,dD ALU g),(3,.ptr 0 0 [] 0),(5,.zs),(6,.Am 1),(7,.Am 2),(8,dI l),(10,dI z_.1)] [.box (dD Ar i),.row 2 .Ai ALP n,.row 4 .Ai .bool z_.2]
def Ark g l i n:=λ(o:ALy)=>xE 2 103 [(0,dD ALU g),(3,.ptr 0 0 [] 0),(5,.zs),(6,.Am 1),(7,.Am 2),(8,dI l)] [.box (dD Ar i),.row 2 .Ai ALP n,.row 4 .Ai .bool o]
def J4(g:ALC)(l:Int)(i:ALv)(n:ALx)(q:Int)(s:ALy):AL8 ((Int×ALy)⊕ALy):=
 if 0<=l/\l<i.1.length then
 bif decide (q<((i.1.getD l.toNat Af.zero).2.2.2.2.2.1.length:Int))then
 if 0<=l/\l<i.1.length then
 if 0<=q/\q<(i.1.getD l.toNat Af.zero).2.2.2.2.2.1.length then
 if(0:Int)<=((i.1.getD l.toNat Af.zero).2.2.2.2.2.1.getD q.toNat ALP.zero)/\((i.1.getD l.toNat Af.zero).2.2.2.2.2.1.getD q.toNat ALP.zero)<(s.length:Int)then
 some (.inl (wI (q+1),s.set ((i.1.getD l.toNat Af.zero).2.2.2.2.2.1.getD q.toNat ALP.zero).toNat true))
 else none
 else none
 else none
 else
 some (.inr s)
 else none
def GR g l i n (z_:Int×ALy):=J4 g l i n z_.1 z_.2
def MF g l i n q s:=fix (GR g l i n) (q,s)
theorem AvD g l i n:A0 E35 0 16 (cd f148 1012) 830 (Atq g l i n) (GR g l i n) (Ark g l i n):=by
 intro _;simp only[GR,J4,ALh];kernel_rfl
def J5(g:ALC)(i:ALv)(l:Int)(t:ALx)(u:ALy):AL8 ((Int×ALx×ALy)⊕((ALy×ALx)⊕(ALy×ALx))):=
 bif decide (l<(i.1.length:Int))then
 if 0<=l/\l<i.1.length then
 (Pn g (i.1.getD l.toNat Af.zero) l).bind λv=>bif !v then
 some (.inr (.inl (u,t)))
 else
 if 0<=l/\l<i.1.length then
 (Po g (i.1.getD l.toNat Af.zero) t).bind λw=>bif !(Bw w 1 4096)then
 some (.inr (.inl (u,t)))
 else
 if(t.length+([w]:ALx).length)*8<=140737488355328 then
 (MF g l i (t++([w]:ALx)) 0 u).bind λo=>some (.inl (wI (l+1),t++([w]:ALx),o))
 else none
 else none
 else none
 else
 some (.inr (.inr (u,t)))
def GU g i (z_:Int×ALx×ALy):=J5 g i z_.1 z_.2.1 z_.2.2
def MG g i l t u:=fix (GU g i) (l,t,u)
theorem AvE g i:A0 E35 0 7 (code f148) 506 (Atr g i) (GU g i) (Arl g i):=by
 intro _;simp only[GU,J5,ALh];simp(disch:=refine id ?_;kernel_rfl) only[MF,Az (AvD _ _ _ _) (K:=LP E35 0 7)];kernel_rfl
def Atp g i:=sT 103 [(0,dD ALU g),(3,.ptr 0 0 [] 0),(5,.zs)] [.box (dD Ar i)]
def Arj g i:=λ(x:Bool)=>xN 103 [(0,dD ALU g),(3,.ptr 0 0 [] 0),(5,.zs),(27,dB x)] [.box (dD Ar i)]
def Jg(g:ALC)(i:ALv):AL8 Bool:=
 (JY g).bind λy=>bif !y then
 some true
 else
 bif decide ((i.1.length:Int)<1)then
 some true
 else
 some (decide ((i.1.length:Int)>400))
theorem AvC g i:AP E35 0 3 (code f148) 28 (Atp g i) (Jg g i) (Arj g i):=by
 unfold AP;simp only[Jg,ALh];kernel_rfl
def NS(g:ALC)(i:ALv):AL8 ALx:=
 (Jg g i).bind λx=>bif x then
 some ([]:ALx)
 else
 if Ty.row .bool=true/\(0:Int)<=(i.1.length:Int)/\(i.1.length:Int)<=(i.1.length:Int)/\((1:Nat):Int)*(i.1.length:Int)<=(281474976710656:Int)/\(i.1.length:Int)<=(9223372036854775807:Int)then
 (MG g i 0 ([]:ALx) (List.replicate (i.1.length:Int).toNat false)).bind (Sum.elim (λj=>some ([]:ALx)) (λk=>(Re k.1 k.2 0).bind (Sum.elim (λc=>some ([]:ALx)) (λd=>some k.2))))
 else none
def Ayf:=B6 [.d ALU,.d Ar] [⟨[.Ax [] ALU,.Ax [] Ar],[],ALx,λp=>NS p.1.1 p.1.2.1,λr=>(.Am 0,[.row 2 .Ai ALP r])⟩]
theorem Abz:Ap prog 148 Ayf:=As (fn:=f148) ⟨⟨E35,pk ⟨eK,RG,AbQ,AbR,trivial⟩,λ_ R K=>by
 simp only[NS,ALi];simp(disch:=refine id ?_;kernel_rfl) only[A8 (AvC ..) (K:=AY E35 f148 0 R K),MG,Az (AvE _ _) (K:=AY E35 f148 0 R K),Re,Az (AvF _ _) (K:=AY E35 f148 0 R K)];kernel_rfl⟩,trivial⟩
abbrev E36:=eN [(148,Ayf)] {}
def EA(a:ALC)(b:ALv):AL8 Int:=
 (NS a b).bind λc=>bif (c.length:Int)==0 then
 some (-1)
 else
 if 0<=(wI ((c.length:Int)-1))/\(wI ((c.length:Int)-1))<c.length then
 some (c.getD (wI ((c.length:Int)-1)).toNat ALP.zero)
 else none
def AoJ:=B6 [.d ALU,.d Ar] [⟨[.Ax [] ALU,.Ax [] Ar],[],Int,λp=>EA p.1.1 p.1.2.1,λr=>(dI r,[])⟩]
theorem pK:Ap prog 111 AoJ:=As (fn:=f111) ⟨⟨E36,pk ⟨Abz,trivial⟩,λ_ R K=>by
 simp only[EA,ALi];kernel_rfl⟩,trivial⟩
abbrev E37:=eN [(111,AoJ),(132,AfN),(133,l7)] {A1:=[(4,[0,1,5])],Bv:=[(4,[4])],BR:=[(2,[0,1,14]),(8,[0,1,5,67])],D2:=[(2,[0,1]),(8,[0,1,5,6])]}
def Atv a b (z_:Int):=sT 68 [(0,dD ALU a),(1,dD ALY b),(5,dI z_)] []
def Arp(a:ALC)(b:ALF):=Sum.elim (λ(c:Unit)=>xR 68 [(4,dB false)] []) (λ(d:Unit)=>xE 0 68 [] [])
def Atu a b e g:=sT 68 [(0,dD ALU a),(1,dD ALY b),(5,dI e),(6,dI g)] []
def Aro a b e (g:Int):=λ(i:Bool)=>xN 68 [(0,dD ALU a),(1,dD ALY b),(5,dI e),(67,dB i)] []
def GQ(a:ALC)(b:ALF)(e g:Int):AL8 Bool:=
 if 0<=e/\e<b.length then
 bif !(Bw (b.getD e.toNat Ag.zero).1 1 1000000)then
 some true
 else
 bif decide (e>0)then
 if 0<=e/\e<b.length then
 if 0<=(wI (e-1))/\(wI (e-1))<b.length then
 bif decide ((b.getD e.toNat Ag.zero).1<=(b.getD (wI (e-1)).toNat Ag.zero).1)then
 some true
 else
 bif decide (g<0)then
 some true
 else
 if 0<=e/\e<b.length then
 (EA a (b.getD e.toNat Ag.zero).2.2.2.1).bind λj=>some (j !=g)
 else none
 else none
 else none
 else
 bif decide (g<0)then
 some true
 else
 if 0<=e/\e<b.length then
 (EA a (b.getD e.toNat Ag.zero).2.2.2.1).bind λk=>some (k !=g)
 else none
 else none
theorem AvH a b e g:AP E37 0 8 (cd f84 116) 50 (Atu a b e g) (GQ a b e g) (Aro a b e g):=by
 unfold AP;simp only[GQ,ALh];kernel_rfl
def H7(a:ALC)(b:ALF)(e:Int):AL8 (Int⊕(Unit⊕Unit)):=
 bif decide (e<(b.length:Int))then
 if 0<=e/\e<b.length then
 (EA a (b.getD e.toNat Ag.zero).2.2.1).bind λg=>(GQ a b e g).bind λi=>bif i then
 some (.inr (.inl ()))
 else
 some (.inl (wI (e+1)))
 else none
 else
 some (.inr (.inr ()))
def EM a b (z_:Int):=H7 a b z_
def OX a b e:=fix (EM a b) e
theorem AvI a b:A0 E37 0 4 (code f84) 58 (Atv a b) (EM a b) (Arp a b):=by
 intro _;simp only[EM,H7,ALh];simp(disch:=refine id ?_;kernel_rfl) only[A8 (AvH ..) (K:=LP E37 0 4)];kernel_rfl
def Att a b:=sT 68 [(0,dD ALU a),(1,dD ALY b)] []
def Arn a b:=λ(l:Bool)=>xN 68 [(0,dD ALU a),(1,dD ALY b),(14,dB l)] []
def GN(a:ALC)(b:ALF):AL8 Bool:=
 (JY a).bind λn=>bif !n then
 some true
 else
 some (decide ((b.length:Int)>60))
theorem AvG a b:AP E37 0 2 (code f84) 12 (Att a b) (GN a b) (Arn a b):=by
 unfold AP;simp only[GN,ALh];kernel_rfl
def Hp(a:ALC)(b:ALF):AL8 Bool:=
 (GN a b).bind λl=>bif l then
 some false
 else
 (OX a b 0).bind (Sum.elim (λc=>some false) (λd=>some true))
def c84:=B6 [.d ALU,.d ALY] [⟨[.Ax [] ALU,.Ax [] ALY],[],Bool,λp=>Hp p.1.1 p.1.2.1,λr=>(dB r,[])⟩]
theorem vU:Ap prog 84 c84:=As (fn:=f84) ⟨⟨E37,pk ⟨pK,eK,RG,trivial⟩,λ_ R K=>by
 simp only[Hp,ALi];simp(disch:=refine id ?_;kernel_rfl) only[A8 (AvG ..) (K:=AY E37 f84 0 R K),OX,Az (AvI _ _) (K:=AY E37 f84 0 R K)];kernel_rfl⟩,trivial⟩
abbrev E38:=eN [] {A1:=[(3,{Bb:=[0,3,5,6],Ck:=[(5,false,.row [] 154 ALW true)]}),(7,[0,3,5,6,7,8])],Bv:=[(3,[5]),(7,[0,3,5,6,7])]}
def Atx a b (z_:Int×ALM):=sT 48 [(0,dD ALU a),(3,.ptr 0 0 [] 0),(5,.Am 1),(6,dI z_.1)] [.box (dD Aj b),.row 154 .Ai ALW z_.2]
def Arr(a:ALC)(b:ALr):=λ(c:ALM)=>xE 0 48 [(5,.Am 0)] [.row 154 .Ai ALW c]
def Atw a d b e (z_:Int×ALy):=sT 48 [(0,dD ALU a),(3,.ptr 0 0 [] 0),(5,.Am 1),(6,dI d),(7,.Am 2),(8,dI z_.1)] [.box (dD Aj b),.row 154 .Ai ALW e,.row 4 .Ai .bool z_.2]
def Arq a d b e:=λ(g:ALy)=>xE 2 48 [(0,dD ALU a),(3,.ptr 0 0 [] 0),(5,.Am 1),(6,dI d),(7,.Am 2)] [.box (dD Aj b),.row 154 .Ai ALW e,.row 4 .Ai .bool g]
def Lj(a:ALC)(d:Int)(b:ALr)(e:ALM)(i:Int)(j:ALy):AL8 ((Int×ALy)⊕ALy):=
 if 0<=d/\d<b.1.length then
 bif decide (i<((b.1.getD d.toNat ALT.zero).length:Int))then
 if 0<=d/\d<b.1.length then
 if 0<=i/\i<(b.1.getD d.toNat ALT.zero).length then
 if(0:Int)<=((b.1.getD d.toNat ALT.zero).getD i.toNat ALP.zero)/\((b.1.getD d.toNat ALT.zero).getD i.toNat ALP.zero)<(j.length:Int)then
 some (.inl (wI (i+1),j.set ((b.1.getD d.toNat ALT.zero).getD i.toNat ALP.zero).toNat true))
 else none
 else none
 else none
 else
 some (.inr j)
 else none
def Fq a d b e (z_:Int×ALy):=Lj a d b e z_.1 z_.2
def Oy a d b e i j:=fix (Fq a d b e) (i,j)
theorem AvJ a d b e:A0 E38 0 7 (cd f85 116) 202 (Atw a d b e) (Fq a d b e) (Arq a d b e):=by
 intro _;simp only[Fq,Lj,ALh];kernel_rfl
def Lk(a:ALC)(b:ALr)(d:Int)(e:ALM):AL8 ((Int×ALM)⊕ALM):=
 bif decide (d<(a.length:Int))then
 if 0<=d/\d<a.length then
 if Ty.row .bool=true/\(0:Int)<=(wI ((a.getD d.toNat Ad.zero).2.1+1))/\(wI ((a.getD d.toNat Ad.zero).2.1+1))<=(wI ((a.getD d.toNat Ad.zero).2.1+1))/\((1:Nat):Int)*(wI ((a.getD d.toNat Ad.zero).2.1+1))<=(281474976710656:Int)/\(wI ((a.getD d.toNat Ad.zero).2.1+1))<=(9223372036854775807:Int)then
 (Oy a d b e 0 (List.replicate (wI ((a.getD d.toNat Ad.zero).2.1+1)).toNat false)).bind λg=>if(e.length+([g]:ALM).length)*24<=140737488355328 then
 some (.inl (wI (d+1),e++([g]:ALM)))
 else none
 else none
 else none
 else
 some (.inr e)
def Fs a b (z_:Int×ALM):=Lk a b z_.1 z_.2
def SK a b d e:=fix (Fs a b) (d,e)
theorem AvK a b:A0 E38 0 3 (code f85) 58 (Atx a b) (Fs a b) (Arr a b):=by
 intro _;simp only[Fs,Lk,ALh];simp(disch:=refine id ?_;kernel_rfl) only[Oy,Az (AvJ _ _ _ _) (K:=LP E38 0 3)];kernel_rfl
def MS(a:ALC)(b:ALr):AL8 ALM:=
 (SK a b 0 ([]:ALM)).bind λc=>some c
def c85:=B6 [.d ALU,.d Aj] [⟨[.Ax [] ALU,.Ax [] Aj],[],ALM,λp=>MS p.1.1 p.1.2.1,λr=>(.Am 0,[.row 154 .Ai ALW r])⟩]
theorem vV:Ap prog 85 c85:=As (fn:=f85) ⟨⟨E38,pk trivial,λ_ R K=>by
 simp only[MS,ALi];simp(disch:=refine id ?_;kernel_rfl) only[SK,Az (AvK _ _) (K:=AY E38 f85 0 R K)];kernel_rfl⟩,trivial⟩
abbrev dW:=eN [(149,AfQ)] {A1:=[(5,{Bb:=[0,4,7,8],Ck:=[(7,false,.row [] 198 Aa true)]}),(10,{Bb:=[4,7,9],Ck:=[(7,false,.row [] 198 Aa true)]}),(15,{Bb:=[2,7,10],Ck:=[(7,false,.row [] 198 Aa true)]}),(27,[4,7,11,12]),(40,{Bb:=[2,4,7,15],Ck:=[(7,false,.row [] 198 Aa true)]})],Bv:=[(5,[7]),(10,[7]),(15,[7]),(27,[7]),(40,[7])],BR:=[(22,[2,4,7,18,84]),(25,[2,4,7,11]),(32,[2,4,7,18,116]),(36,[2,7,13,14]),(43,{Bb:=[7],Ck:=[(7,false,.row [] 198 Aa true)]})],D2:=[(22,[2,4,7,18]),(25,[2,4,7,11]),(32,[2,4,7,18]),(36,[2,4,7,13,14]),(43,[0,2,4,7])]}
def AmB a b c:=sT 167 [(0,dD ALU a),(2,dD AL6 b),(4,.ptr 0 0 [] 0),(7,.zs)] [.box (dD Af c)]
def AkX(a:ALC)(b:ALN)(c:ALo):=λ(d:ALA)=>xN 167 [(7,.Am 0)] [.row 198 .Ai Aa d]
def AmA b c (z_:Int×ALA):=sT 167 [(2,dD AL6 b),(4,.ptr 0 0 [] 0),(7,.Am 1),(15,dI z_.1)] [.box (dD Af c),.row 198 .Ai Aa z_.2]
def AkW(b:ALN)(c:ALo):=λ(e:ALA)=>xE 9 167 [(7,.Am 0)] [.row 198 .Ai Aa e]
def Lf(b:ALN)(c:ALo)(g:Int)(i:ALA):AL8 ((Int×ALA)⊕ALA):=
 bif decide (g<c.2.2.1)then
 if(0:Int)<=(0:Int)/\(0:Int)<(b.length:Int)then
 if(i.length+(b.getD 0 ALV.zero).length)*16<=140737488355328 then
 some (.inl (wI (g+1),i++(b.getD 0 ALV.zero)))
 else none
 else none
 else
 some (.inr i)
def Fh b c (z_:Int×ALA):=Lf b c z_.1 z_.2
def Oo b c g i:=fix (Fh b c) (g,i)
theorem Aou b c:A0 dW 0 40 (cd f112 14) 458746 (AmA b c) (Fh b c) (AkW b c):=by
 intro _;simp only[Fh,Lf,ALh];kernel_rfl
def Amz b c j k:=sT 167 [(2,dD AL6 b),(4,.ptr 0 0 [] 0),(7,.zs),(13,dI j),(14,dI k)] [.box (dD Af c)]
def AkV b (c:ALo) j (k:Int):=λ(l:Int)=>xN 167 [(2,dD AL6 b),(7,.zs),(13,dI j),(14,dI l)] []
def Kp(b:ALN)(c:ALo)(j k:Int):AL8 Int:=
 bif c.1==8 then
 if j=(0:Int)then none else
 some (Int.tmod (wI (j-k)) j)
 else
 some k
theorem Aot b c j k:AP dW 0 36 (cd f112 14) 229366 (Amz b c j k) (Kp b c j k) (AkV b c j k):=by
 unfold AP;simp only[Kp,ALh];kernel_rfl
def AaJ b (c:ALo):=sT 167 [(2,dD AL6 b),(4,.ptr 0 0 [] 0),(7,.zs),(18,dI c.1)] [.box (dD Af c)]
def ta(b:ALN)(c:ALo)(m0:Bool):Ex×St:=xN 167 [(2,dD AL6 b),(4,.ptr 0 0 [] 0),(7,.zs),(18,dI c.1),(116,dB m0)] [.box (dD Af c)]
theorem Aos b c:Xe dW 0 32 (cd f112 14) (pt 14334) (AaJ b c)=some (ta b c (bif c.1==7 then(c.1==7)else(c.1==8))):=by
 refine .trans (b:=
 bif c.1==7 then
 some (ta b c (c.1==7))
 else
 some (ta b c (c.1==8))) (by kernel_rfl) ?_
 cases (c.1==7);rfl;rfl
def Amy c (z_:Int×ALA):=sT 167 [(4,.ptr 0 0 [] 0),(7,.Am 1),(11,.ptr 2 0 [] 0),(12,dI z_.1)] [.box (dD Af c),.row 198 .Ai Aa z_.2,.box (.pr (dI (-1)) (.pr (dI 0) .u))]
def AkU(c:ALo):=λ(n:ALA)=>xE 7 167 [(7,.Am 0)] [.row 198 .Ai Aa n]
def Le(c:ALo)(o:Int)(q:ALA):AL8 ((Int×ALA)⊕ALA):=
 bif decide (o<c.2.2.1)then
 if(q.length+([(-1,0,())]:ALA).length)*16<=140737488355328 then
 some (.inl (wI (o+1),q++([(-1,0,())]:ALA)))
 else none
 else
 some (.inr q)
def Fg c (z_:Int×ALA):=Le c z_.1 z_.2
def On c o q:=fix (Fg c) (o,q)
theorem Aor c:A0 dW 0 27 (cd f112 14) 229342 (Amy c) (Fg c) (AkU c):=by
 intro _;simp only[Fg,Le,ALh];kernel_rfl
def Amx c s (z_:Int×ALA):=sT 167 [(4,.ptr 0 0 [] 0),(7,.Am 1),(11,.ptr 2 0 [] 0),(12,dI z_.1)] [.box (dD Af c),.row 198 .Ai Aa z_.2,.box (dD Aa s)]
def AkT(c:ALo)(s:ALk):=λ(t:ALA)=>xE 7 167 [(7,.Am 0)] [.row 198 .Ai Aa t]
def Ld(c:ALo)(s:ALk)(u:Int)(v:ALA):AL8 ((Int×ALA)⊕ALA):=
 bif decide (u<c.2.2.1)then
 if(v.length+([s]:ALA).length)*16<=140737488355328 then
 some (.inl (wI (u+1),v++([s]:ALA)))
 else none
 else
 some (.inr v)
def Ff c s (z_:Int×ALA):=Ld c s z_.1 z_.2
def Om c s u v:=fix (Ff c s) (u,v)
theorem Aoq c s:A0 dW 0 27 (cd f112 14) 229342 (Amx c s) (Ff c s) (AkT c s):=by
 intro _;simp only[Ff,Ld,ALh];kernel_rfl
def Amw b c:=sT 167 [(2,dD AL6 b),(4,.ptr 0 0 [] 0),(7,.zs),(11,.ptr 1 0 [] 0)] [.box (dD Af c),.box (.pr (dI (-1)) (.pr (dI 0) .u))]
def AkS b c:=Sum.elim (λ(w:Unit)=>xN 167 [(2,dD AL6 b),(4,.ptr 0 0 [] 0),(7,.zs),(11,.ptr 1 0 [] 0)] [.box (dD Af c),.box (dD Aa ((b.getD 0 ALV.zero).getD (wI (((b.getD 0 ALV.zero).length:Int)-1)).toNat Aa.zero))]) (λ(x:Unit)=>xN 167 [(2,dD AL6 b),(4,.ptr 0 0 [] 0),(7,.zs),(11,.ptr 1 0 [] 0)] [.box (dD Af c),.box (.pr (dI (-1)) (.pr (dI 0) .u))])
def Fz(b:ALN)(c:ALo):AL8 (Unit⊕Unit):=
 bif c.1==6 then
 if(0:Int)<=(0:Int)/\(0:Int)<(b.length:Int)then
 if(0:Int)<=(0:Int)/\(0:Int)<(b.length:Int)then
 if 0<=(wI (((b.getD 0 ALV.zero).length:Int)-1))/\(wI (((b.getD 0 ALV.zero).length:Int)-1))<(b.getD 0 ALV.zero).length then
 some (.inl ())
 else none
 else none
 else none
 else
 some (.inr ())
theorem Aop b c:AP dW 0 25 (cd f112 14) 28666 (Amw b c) (Fz b c) (AkS b c):=by
 unfold AP;simp only[Fz,ALh];kernel_rfl
def AaI b (c:ALo):=sT 167 [(2,dD AL6 b),(4,.ptr 0 0 [] 0),(7,.zs),(18,dI c.1)] [.box (dD Af c)]
def s9(b:ALN)(c:ALo)(m0:Bool):Ex×St:=xN 167 [(2,dD AL6 b),(4,.ptr 0 0 [] 0),(7,.zs),(18,dI c.1),(84,dB m0)] [.box (dD Af c)]
theorem Aoo b c:Xe dW 0 22 (cd f112 14) (pt 3582) (AaI b c)=some (s9 b c (bif c.1==5 then(c.1==5)else(c.1==6))):=by
 refine .trans (b:=
 bif c.1==5 then
 some (s9 b c (c.1==5))
 else
 some (s9 b c (c.1==6))) (by kernel_rfl) ?_
 cases (c.1==5);rfl;rfl
def Amv b (z_:Int×ALA):=sT 167 [(2,dD AL6 b),(7,.Am 0),(10,dI z_.1)] [.row 198 .Ai Aa z_.2]
def AkR(b:ALN):=λ(y:ALA)=>xE 5 167 [(7,.Am 0)] [.row 198 .Ai Aa y]
def Lc(b:ALN)(a1:Int)(b1:ALA):AL8 ((Int×ALA)⊕ALA):=
 bif decide (a1>=0)then
 if 0<=a1/\a1<b.length then
 if(b1.length+(b.getD a1.toNat ALV.zero).length)*16<=140737488355328 then
 some (.inl (wI (a1-1),b1++(b.getD a1.toNat ALV.zero)))
 else none
 else none
 else
 some (.inr b1)
def Dy b (z_:Int×ALA):=Lc b z_.1 z_.2
def Ol b a1 b1:=fix (Dy b) (a1,b1)
theorem Aon b:A0 dW 0 15 (cd f112 14) 1786 (Amv b) (Dy b) (AkR b):=by
 intro _;simp only[Dy,Lc,ALh];kernel_rfl
def Amu c (z_:Int×ALA):=sT 167 [(4,.ptr 0 0 [] 0),(7,.Am 1),(9,dI z_.1)] [.box (dD Af c),.row 198 .Ai Aa z_.2]
def AkQ(c:ALo):=λ(c1:ALA)=>xE 3 167 [(7,.Am 0)] [.row 198 .Ai Aa c1]
def Lb(c:ALo)(d1:Int)(e1:ALA):AL8 ((Int×ALA)⊕ALA):=
 bif decide (d1<c.2.2.2.2.1.1)then
 (Ij c.2.2.2.2.1 d1).bind λg1=>if(e1.length+([(-1,wI g1,())]:ALA).length)*16<=140737488355328 then
 some (.inl (wI (d1+1),e1++([(-1,wI g1,())]:ALA)))
 else none
 else
 some (.inr e1)
def Fe c (z_:Int×ALA):=Lb c z_.1 z_.2
def Oj c d1 e1:=fix (Fe c) (d1,e1)
theorem Aom c:A0 dW 0 10 (cd f112 14) 442 (Amu c) (Fe c) (AkQ c):=by
 intro _;simp only[Fe,Lb,ALh];kernel_rfl
def Amt a c (z_:Int×ALA):=sT 167 [(0,dD ALU a),(4,.ptr 0 0 [] 0),(7,.Am 1),(8,dI z_.1)] [.box (dD Af c),.row 198 .Ai Aa z_.2]
def AkP(a:ALC)(c:ALo):=λ(i1:ALA)=>xE 1 167 [(7,.Am 0)] [.row 198 .Ai Aa i1]
def La(a:ALC)(c:ALo)(j1:Int)(k1:ALA):AL8 ((Int×ALA)⊕ALA):=
 if(0:Int)<=c.2.1/\c.2.1<(a.length:Int)then
 bif decide (j1<(a.getD c.2.1.toNat Ad.zero).2.1)then
 if(k1.length+([(c.2.1,j1,())]:ALA).length)*16<=140737488355328 then
 some (.inl (wI (j1+1),k1++([(c.2.1,j1,())]:ALA)))
 else none
 else
 some (.inr k1)
 else none
def Fc a c (z_:Int×ALA):=La a c z_.1 z_.2
def Oi a c j1 k1:=fix (Fc a c) (j1,k1)
theorem Aol a c:A0 dW 0 5 (cd f112 14) 106 (Amt a c) (Fc a c) (AkP a c):=by
 intro _;simp only[Fc,La,ALh];kernel_rfl
def Oq(a:ALC)(b:ALN)(c:ALo):AL8 ALA:=
 bif c.1==1 then
 (Oi a c 0 ([]:ALA)).bind λi1=>some i1
 else
 bif c.1==2 then
 (Oj c 0 ([]:ALA)).bind λc1=>some c1
 else
 bif c.1==3 then
 (Ol b (wI ((b.length:Int)-1)) ([]:ALA)).bind λy=>some y
 else
 bif c.1==4 then
 if(0:Int)<=(0:Int)/\(0:Int)<(b.length:Int)then
 if(0:Int)<=c.2.2.2.1/\c.2.2.2.1<=(wI (c.2.2.1+1))/\(wI (c.2.2.1+1))<=((b.getD 0 ALV.zero).length:Int)then
 if(((b.getD 0 ALV.zero).take (wI (c.2.2.1+1)).toNat).drop c.2.2.2.1.toNat).length*16<=140737488355328 then
 some (((b.getD 0 ALV.zero).take (wI (c.2.2.1+1)).toNat).drop c.2.2.2.1.toNat)
 else none
 else none
 else none
 else
 QF (AaI b c) (
 bif bif (c.1==5)then(c.1==5)else(c.1==6)then
 (Fz b c).bind (Sum.elim (λw=>if(0:Int)<=(0:Int)/\(0:Int)<(b.length:Int)then
 if(b.getD 0 ALV.zero).length*16<=140737488355328 then
 (Om c ((b.getD 0 ALV.zero).getD (wI (((b.getD 0 ALV.zero).length:Int)-1)).toNat Aa.zero) 0 (b.getD 0 ALV.zero)).bind λt=>some t
 else none
 else none) (λx=>if(0:Int)<=(0:Int)/\(0:Int)<(b.length:Int)then
 if(b.getD 0 ALV.zero).length*16<=140737488355328 then
 (On c 0 (b.getD 0 ALV.zero)).bind λn=>some n
 else none
 else none))
 else
 QF (AaJ b c) (
 bif bif (c.1==7)then(c.1==7)else(c.1==8)then
 if(0:Int)<=(0:Int)/\(0:Int)<(b.length:Int)then
 if((b.getD 0 ALV.zero).length:Int)=(0:Int)then none else
 (Kp b c ((b.getD 0 ALV.zero).length:Int) (Int.tmod c.2.2.1 ((b.getD 0 ALV.zero).length:Int))).bind λl=>if(0:Int)<=(0:Int)/\(0:Int)<(b.length:Int)then
 if(0:Int)<=(wI (((b.getD 0 ALV.zero).length:Int)-l))/\(wI (((b.getD 0 ALV.zero).length:Int)-l))<=((b.getD 0 ALV.zero).length:Int)/\((b.getD 0 ALV.zero).length:Int)<=((b.getD 0 ALV.zero).length:Int)then
 if(((b.getD 0 ALV.zero).take ((b.getD 0 ALV.zero).length:Int).toNat).drop (wI (((b.getD 0 ALV.zero).length:Int)-l)).toNat).length*16<=140737488355328 then
 if(0:Int)<=(0:Int)/\(0:Int)<(b.length:Int)then
 if(0:Int)<=(0:Int)/\(0:Int)<=(wI (((b.getD 0 ALV.zero).length:Int)-l))/\(wI (((b.getD 0 ALV.zero).length:Int)-l))<=((b.getD 0 ALV.zero).length:Int)then
 if((((b.getD 0 ALV.zero).take ((b.getD 0 ALV.zero).length:Int).toNat).drop (wI (((b.getD 0 ALV.zero).length:Int)-l)).toNat).length+(((b.getD 0 ALV.zero).take (wI (((b.getD 0 ALV.zero).length:Int)-l)).toNat).drop 0).length)*16<=140737488355328 then
 some ((((b.getD 0 ALV.zero).take ((b.getD 0 ALV.zero).length:Int).toNat).drop (wI (((b.getD 0 ALV.zero).length:Int)-l)).toNat)++(((b.getD 0 ALV.zero).take (wI (((b.getD 0 ALV.zero).length:Int)-l)).toNat).drop 0))
 else none
 else none
 else none
 else none
 else none
 else none
 else none
 else
 bif c.1==9 then
 (Oo b c 0 ([]:ALA)).bind λe=>some e
 else
 some ([]:ALA)))
theorem Aov a b c:AP dW 0 43 (code f112) 14 (AmB a b c) (Oq a b c) (AkX a b c):=by
 unfold AP;simp only[Oq,ALh];simp(disch:=refine id ?_;kernel_rfl) only[Oi,Az (Aol _ _) (K:=Ta dW 0 43),Oj,Az (Aom _) (K:=Ta dW 0 43),Ol,Az (Aon _) (K:=Ta dW 0 43),F8 (Aoo ..) (K:=Ta dW 0 43),A8 (Aop ..) (K:=Ta dW 0 43),Om,Az (Aoq _ _) (K:=Ta dW 0 43),On,Az (Aor _) (K:=Ta dW 0 43),F8 (Aos ..) (K:=Ta dW 0 43),A8 (Aot ..) (K:=Ta dW 0 43),Oo,Az (Aou _ _) (K:=Ta dW 0 43)];kernel_rfl
def Sb(a:ALC)(c:ALo)(b:ALN):AL8 ALA:=
 (Oq a b c).bind λd=>some d
def AxT:=B6 [.d ALU,.d Af,.d AL6] [⟨[.Ax [] ALU,.Ax [] Af,.Ax [] AL6],[],ALA,λp=>Sb p.1.1 p.1.2.1 p.1.2.2.1,λr=>(.Am 0,[.row 198 .Ai Aa r])⟩]
theorem Abd:Ap prog 112 AxT:=As (fn:=f112) ⟨⟨dW,pk ⟨eO,trivial⟩,λ_ R K=>by
 simp only[Sb,ALi];simp(disch:=refine id ?_;kernel_rfl) only[A8 (Aov ..) (K:=AY dW f112 0 R K)];kernel_rfl⟩,trivial⟩
abbrev E40:=eN [] {A1:=[(5,[0,2,4,5])],Bv:=[(5,[2,4])],BR:=[(2,[0,2,13])],D2:=[(2,[0,2])],dM:=[(0,.row [1] 199 ALQ true)]}
def Aty a b (z_:Int×ALx):=sT 51 [(0,dD AL1 a),(2,.ptr 0 0 [] 0),(4,.ptr 1 0 [] 0),(5,dI z_.1)] [.box (.pr (dI 0) (.pr .zs .u)),.box (.pr (dI b) (.pr (.Am 2) .u)),.row 199 .Ai ALQ z_.2]
def Ars(a:ALx) b:=λ(c:ALx)=>xE 0 51 [(2,.ptr 0 0 [] 0),(4,.ptr 1 0 [] 0)] [.box (.pr (dI 0) (.pr .zs .u)),.box (.pr (dI b) (.pr (.Am 2) .u)),.row 199 .Ai ALQ c]
def MB(a:ALx)(b d:Int)(e:ALx):AL8 ((Int×ALx)⊕ALx):=
 bif decide (d<(a.length:Int))then
 if 0<=(wI (Int.tdiv d 64))/\(wI (Int.tdiv d 64))<e.length then
 if 0<=d/\d<a.length then
 if(IntKind.u64.wrap (Int.tmod d 64))<(0:Int)then none else
 if 0<=(wI (Int.tdiv d 64))/\(wI (Int.tdiv d 64))<e.length then
 some (.inl (wI (d+1),e.set (wI (Int.tdiv d 64)).toNat (de .u64 (e.getD (wI (Int.tdiv d 64)).toNat ALQ.zero) (NL .u64 (IntKind.u64.wrap (a.getD d.toNat ALR.zero)) (IntKind.u64.wrap (Int.tmod d 64))))))
 else none
 else none
 else none
 else
 some (.inr e)
def Jd a b (z_:Int×ALx):=MB a b z_.1 z_.2
def T6 a b d e:=fix (Jd a b) (d,e)
theorem AvM a b:A0 E40 0 5 (code f67) 122 (Aty a b) (Jd a b) (Ars a b):=by
 intro _;simp only[Jd,MB,ALh];kernel_rfl
def Ah3 a:=sT 51 [(0,dD AL1 a),(2,.ptr 0 0 [] 0)] [.box (.pr (dI 0) (.pr .zs .u))]
def Aac(a:ALx)(m0:Bool):Ex×St:=xN 51 [(0,dD AL1 a),(2,.ptr 0 0 [] 0),(13,dB m0)] [.box (.pr (dI 0) (.pr .zs .u))]
theorem AvL a:Xe E40 0 2 (code f67) (pt 12) (Ah3 a)=some (Aac a ((decide ((a.length:Int)<1))||(decide ((a.length:Int)>4096)))):=by
 refine .trans (b:=
 bif decide ((a.length:Int)<1)then
 some (Aac a true)
 else
 some (Aac a (decide ((a.length:Int)>4096)))) (by kernel_rfl) ?_
 cases (decide ((a.length:Int)<1));rfl;rfl
def Pl(a:ALx):AL8 (Int×Bool×ALx):=
 QF (Ah3 a) (
 bif (decide ((a.length:Int)<1))||(decide ((a.length:Int)>4096))then
 some (0,false,([]:ALx))
 else
 if Ty.row ALQ=true/\(0:Int)<=(wI (Int.tdiv (wI ((a.length:Int)+63)) 64))/\(wI (Int.tdiv (wI ((a.length:Int)+63)) 64))<=(wI (Int.tdiv (wI ((a.length:Int)+63)) 64))/\((8:Nat):Int)*(wI (Int.tdiv (wI ((a.length:Int)+63)) 64))<=(281474976710656:Int)/\(wI (Int.tdiv (wI ((a.length:Int)+63)) 64))<=(9223372036854775807:Int)then
 (T6 a (a.length:Int) 0 (List.replicate (wI (Int.tdiv (wI ((a.length:Int)+63)) 64)).toNat 0)).bind λc=>some ((a.length:Int),true,c)
 else none)
def c67:=B6 [.d AL1] [⟨[.Ax [] AL1],[],Int×Bool×ALx,λp=>Pl p.1.1,λr=>(.cons (.pr (dI r.1) (.pr (.Am 0) .u)) (.cons (dB r.2.1) .nil),[.row 199 .Ai ALQ r.2.2])⟩]
theorem vR:Ap prog 67 c67:=As (fn:=f67) ⟨⟨E40,pk trivial,λ_ R K=>by
 simp only[Pl,ALi];simp(disch:=refine id ?_;kernel_rfl) only[F8 (AvL _) (K:=AY E40 f67 0 R K),T6,Az (AvM _ _) (K:=AY E40 f67 0 R K)];kernel_rfl⟩,trivial⟩
abbrev xC:=eN [(67,c67)] {A1:=[(3,{Bb:=[0,4,5],Ck:=[(4,false,.row [] 218 Ae true)]}),(7,[0,4,6,7]),(12,[0,4,5,6])],Bv:=[(3,[4]),(7,{Bb:=[0,4,6,7],Sj:=[(7,false,AL1)]}),(12,[0,4,5,6])],BR:=[(8,[0,4,6,7]),(13,[0,4,5,6]),(15,[0,4,6])],D2:=[(8,[0,4,6,7]),(13,[0,4,5,6]),(15,[0,4,5,6])]}
def AmC a (z_:Int×ALD):=sT 121 [(0,dD ALV a),(4,.Am 0),(5,dI z_.1)] [.row 218 .Ai Ae z_.2]
def AkY(a:ALA):=λ(b:ALD)=>xE 0 121 [(4,.Am 0)] [.row 218 .Ai Ae b]
def AtE a c d e:=sT 121 [(0,dD ALV a),(4,.Am 0),(5,dI c),(6,dI e)] [.row 218 .Ai Ae d]
def Arx a (c:Int) (d:ALD) (e:Int):=λ(g:(Int×ALD))=>xN 121 [(0,dD ALV a),(4,.Am 0),(6,dI g.1)] [.row 218 .Ai Ae g.2]
def AtC a c d (z_:Int):=sT 121 [(0,dD ALV a),(4,.Am 0),(5,dI c),(6,dI z_)] [.row 218 .Ai Ae d]
def Arw a c d:=λ(i:Int)=>xE 4 121 [(0,dD ALV a),(4,.Am 0),(5,dI c),(6,dI i)] [.row 218 .Ai Ae d]
def AtB a c j d:=sT 121 [(0,dD ALV a),(4,.Am 0),(5,dI c),(6,dI j)] [.row 218 .Ai Ae d]
def Arv a c j d:=Sum.elim (λ(k:Unit)=>xN 121 [(0,dD ALV a),(4,.Am 0),(5,dI c),(6,dI j)] [.row 218 .Ai Ae d]) (λ(l:Unit)=>xE 4 121 [(0,dD ALV a),(4,.Am 0),(5,dI c),(6,dI j)] [.row 218 .Ai Ae d])
def Qk(a:ALA)(c j:Int)(d:ALD):AL8 (Unit⊕Unit):=
 bif decide (j<(a.length:Int))then
 if 0<=j/\j<a.length then
 if 0<=c/\c<a.length then
 bif (a.getD j.toNat Aa.zero).1==(a.getD c.toNat Aa.zero).1 then
 if 0<=j/\j<a.length then
 if 0<=(wI (j-1))/\(wI (j-1))<a.length then
 bif (a.getD j.toNat Aa.zero).2.1==(wI ((a.getD (wI (j-1)).toNat Aa.zero).2.1+1))then
 some (.inl ())
 else
 some (.inr ())
 else none
 else none
 else
 some (.inr ())
 else none
 else none
 else
 some (.inr ())
theorem AvP a c j d:AP xC 0 13 (sb (sb (cd f113 120) 26) 56) 2 (AtB a c j d) (Qk a c j d) (Arv a c j d):=by
 unfold AP;simp only[Qk,ALh];kernel_rfl
def Rh(a:ALA)(c:Int)(d:ALD)(j:Int):AL8 (Int⊕Int):=
 (Qk a c j d).bind (Sum.elim (λk=>some (.inl (wI (j+1)))) (λl=>some (.inr j)))
def MK a c d (z_:Int):=Rh a c d z_
def Ql a c d j:=fix (MK a c d) j
theorem AvQ a c d:A0 xC 0 12 (sb (cd f113 120) 26) 28 (AtC a c d) (MK a c d) (Arw a c d):=by
 intro _;simp only[MK,Rh,ALh];simp(disch:=refine id ?_;kernel_rfl) only[A8 (AvP ..) (K:=LP xC 0 12)];kernel_rfl
def AtA a d (z_:Int×ALx):=sT 121 [(0,dD ALV a),(4,.Am 0),(6,dI z_.1),(7,.Am 1)] [.row 218 .Ai Ae d,.row 5 .Ai ALR z_.2]
def Aru a d:=λ(n:(Int×ALx))=>xE 2 121 [(0,dD ALV a),(4,.Am 0),(6,dI n.1),(7,dD AL1 n.2)] [.row 218 .Ai Ae d]
def Atz a o d q:=sT 121 [(0,dD ALV a),(4,.Am 0),(6,dI o),(7,.Am 1)] [.row 218 .Ai Ae d,.row 5 .Ai ALR q]
def Art a o d q:=Sum.elim (λ(s:Unit)=>xN 121 [(0,dD ALV a),(4,.Am 0),(6,dI o),(7,.Am 1)] [.row 218 .Ai Ae d,.row 5 .Ai ALR q]) (λ(t:Unit)=>xE 2 121 [(0,dD ALV a),(4,.Am 0),(6,dI o),(7,.Am 1)] [.row 218 .Ai Ae d,.row 5 .Ai ALR q])
def Qi(a:ALA)(o:Int)(d:ALD)(q:ALx):AL8 (Unit⊕Unit):=
 bif decide (o<(a.length:Int))then
 if 0<=o/\o<a.length then
 bif decide ((a.getD o.toNat Aa.zero).1<0)then
 some (.inl ())
 else
 some (.inr ())
 else none
 else
 some (.inr ())
theorem AvN a o d q:AP xC 0 8 (sb (sb (cd f113 120) 26) 104) 2 (Atz a o d q) (Qi a o d q) (Art a o d q):=by
 unfold AP;simp only[Qi,ALh];kernel_rfl
def Rf(a:ALA)(d:ALD)(o:Int)(q:ALx):AL8 ((Int×ALx)⊕(Int×ALx)):=
 (Qi a o d q).bind (Sum.elim (λs=>if 0<=o/\o<a.length then
 if(q.length+([IntKind.u8.wrap (a.getD o.toNat Aa.zero).2.1]:ALx).length)*1<=140737488355328 then
 some (.inl (wI (o+1),q++([IntKind.u8.wrap (a.getD o.toNat Aa.zero).2.1]:ALx)))
 else none
 else none) (λt=>some (.inr (o,q))))
def MJ a d (z_:Int×ALx):=Rf a d z_.1 z_.2
def Qj a d o q:=fix (MJ a d) (o,q)
theorem AvO a d:A0 xC 0 7 (sb (cd f113 120) 26) 52 (AtA a d) (MJ a d) (Aru a d):=by
 intro _;simp only[MJ,Rf,ALh];simp(disch:=refine id ?_;kernel_rfl) only[A8 (AvN ..) (K:=LP xC 0 7)];kernel_rfl
def Qm(a:ALA)(c:Int)(d:ALD)(e:Int):AL8 (Int×ALD):=
 if 0<=c/\c<a.length then
 bif decide ((a.getD c.toNat Aa.zero).1<0)then
 if 0<=c/\c<a.length then
 (Qj a d e ([IntKind.u8.wrap (a.getD c.toNat Aa.zero).2.1]:ALx)).bind λn=>(Pl n.2).bind λu=>if(d.length+([(-1,0,u.1,(u.1,u.2.2,()),())]:ALD).length)*56<=140737488355328 then
 some (n.1,d++([(-1,0,u.1,(u.1,u.2.2,()),())]:ALD))
 else none
 else none
 else
 (Ql a c d e).bind λi=>if 0<=c/\c<a.length then
 if 0<=c/\c<a.length then
 if(d.length+([((a.getD c.toNat Aa.zero).1,(a.getD c.toNat Aa.zero).2.1,wI (i-c),(0,([]:ALx),()),())]:ALD).length)*56<=140737488355328 then
 some (i,d++([((a.getD c.toNat Aa.zero).1,(a.getD c.toNat Aa.zero).2.1,wI (i-c),(0,([]:ALx),()),())]:ALD))
 else none
 else none
 else none
 else none
theorem AvR a c d e:AP xC 0 15 (cd f113 120) 26 (AtE a c d e) (Qm a c d e) (Arx a c d e):=by
 unfold AP;simp only[Qm,ALh];simp(disch:=refine id ?_;kernel_rfl) only[Qj,Az (AvO _ _) (K:=Ta xC 0 15),Ql,Az (AvQ _ _ _) (K:=Ta xC 0 15)];kernel_rfl
def Qh(a:ALA)(c:Int)(d:ALD):AL8 ((Int×ALD)⊕ALD):=
 bif decide (c<(a.length:Int))then
 (Qm a c d (wI (c+1))).bind λg=>some (.inl (g.1,g.2))
 else
 some (.inr d)
def K9 a (z_:Int×ALD):=Qh a z_.1 z_.2
def SJ a c d:=fix (K9 a) (c,d)
theorem Aow a:A0 xC 0 3 (code f113) 60 (AmC a) (K9 a) (AkY a):=by
 intro _;simp only[K9,Qh,ALh];simp(disch:=refine id ?_;kernel_rfl) only[A8 (AvR ..) (K:=LP xC 0 3)];kernel_rfl
def R9(a:ALA):AL8 (Bool×ALD):=
 (SJ a 0 ([]:ALD)).bind λb=>some (decide ((b.length:Int)<=2000),b)
def AxU:=B6 [.d ALV] [⟨[.Ax [] ALV],[],Bool×ALD,λp=>R9 p.1.1,λr=>(.cons (.Am 0) (.cons (dB r.1) .nil),[.row 218 .Ai Ae r.2])⟩]
theorem Abe:Ap prog 113 AxU:=As (fn:=f113) ⟨⟨xC,pk ⟨vR,trivial⟩,λ_ R K=>by
 simp only[R9,ALi];simp(disch:=refine id ?_;kernel_rfl) only[SJ,Az (Aow _) (K:=AY xC f113 0 R K)];kernel_rfl⟩,trivial⟩
abbrev E42:=eN [(111,AoJ),(112,AxT),(113,AxU)] {Ai:=false,A1:=[(6,{Bb:=[0,3,6,7,8],Ck:=[(6,false,.row [] 153 ALV false),(7,false,.row [] 218 Ae true)]}),(10,{Bb:=[0,3,6,8,9,10],Ck:=[(9,false,.row [] 153 ALV false)]})],Bv:=[(6,[4,5,7]),(10,{Bb:=[0,3,6,8,9],Sj:=[(9,false,AL6)]})],dM:=[(0,.row [] 218 Ae true)]}
def AtG a b (z_:Int×ALN×ALD):=sT 77 [(0,dD ALU a),(3,.ptr 0 0 [] 0),(6,.Am 1),(7,.Am 2),(8,dI z_.1)] [.box (dD Ar b),.row 153 (.sh []) ALV z_.2.1,.row 218 .Ai Ae z_.2.2]
def Arz(a:ALC)(b:ALv):=Sum.elim (λ(c:Unit)=>xR 77 [(4,.zs),(5,dB false)] []) (λ(d:ALD)=>xE 0 77 [(7,.Am 0)] [.row 218 .Ai Ae d])
def AtF a e b g (z_:Int×ALN):=sT 77 [(0,dD ALU a),(3,.ptr 0 0 [] 0),(6,.Am 1),(8,dI e),(9,.Am 2),(10,dI z_.1)] [.box (dD Ar b),.row 153 (.sh []) ALV g,.row 153 (.sh []) ALV z_.2]
def Ary a e b g:=λ(i:ALN)=>xE 2 77 [(0,dD ALU a),(3,.ptr 0 0 [] 0),(6,.Am 1),(8,dI e),(9,dD AL6 i)] [.box (dD Ar b),.row 153 (.sh []) ALV g]
def K6(a:ALC)(e:Int)(b:ALv)(g:ALN)(j:Int)(k:ALN):AL8 ((Int×ALN)⊕ALN):=
 if 0<=e/\e<b.1.length then
 bif decide (j<((b.1.getD e.toNat Af.zero).2.2.2.2.2.1.length:Int))then
 if 0<=e/\e<b.1.length then
 if 0<=j/\j<(b.1.getD e.toNat Af.zero).2.2.2.2.2.1.length then
 if(0:Int)<=((b.1.getD e.toNat Af.zero).2.2.2.2.2.1.getD j.toNat ALP.zero)/\((b.1.getD e.toNat Af.zero).2.2.2.2.2.1.getD j.toNat ALP.zero)<(g.length:Int)then
 if(k.length+([g.getD ((b.1.getD e.toNat Af.zero).2.2.2.2.2.1.getD j.toNat ALP.zero).toNat ALV.zero]:ALN).length)*24<=140737488355328 then
 some (.inl (wI (j+1),k++([g.getD ((b.1.getD e.toNat Af.zero).2.2.2.2.2.1.getD j.toNat ALP.zero).toNat ALV.zero]:ALN)))
 else none
 else none
 else none
 else none
 else
 some (.inr k)
 else none
def Fb a e b g (z_:Int×ALN):=K6 a e b g z_.1 z_.2
def Oe a e b g j k:=fix (Fb a e b g) (j,k)
theorem AvS a e b g:A0 E42 0 10 (cd f64 500) 202 (AtF a e b g) (Fb a e b g) (Ary a e b g):=by
 intro _;simp only[Fb,K6,ALh];kernel_rfl
def Qb(a:ALC)(b:ALv)(e:Int)(g:ALN)(l:ALD):AL8 ((Int×ALN×ALD)⊕(Unit⊕ALD)):=
 bif decide (e<(b.1.length:Int))then
 (Oe a e b g 0 ([]:ALN)).bind λi=>if 0<=e/\e<b.1.length then
 (Sb a (b.1.getD e.toNat Af.zero) i).bind λn=>(R9 n).bind λo=>bif !o.1 then
 some (.inr (.inl ()))
 else
 if(g.length+([n]:ALN).length)*24<=140737488355328 then
 some (.inl (wI (e+1),g++([n]:ALN),o.2))
 else none
 else none
 else
 some (.inr (.inr l))
def K7 a b (z_:Int×ALN×ALD):=Qb a b z_.1 z_.2.1 z_.2.2
def SG a b e g l:=fix (K7 a b) (e,g,l)
theorem AvT a b:A0 E42 0 6 (code f64) 250 (AtG a b) (K7 a b) (Arz a b):=by
 intro _;simp only[K7,Qb,ALh];simp(disch:=refine id ?_;kernel_rfl) only[Oe,Az (AvS _ _ _ _) (K:=LP E42 0 6)];kernel_rfl
def C3(a:ALC)(b:ALv):AL8 (Bool×ALD):=
 (EA a b).bind λq=>bif decide (q<0)then
 some (false,([]:ALD))
 else
 (SG a b 0 ([]:ALN) ([]:ALD)).bind (Sum.elim (λc=>some (false,([]:ALD))) (λd=>some (true,d)))
def c64:=B6 [.d ALU,.d Ar] [⟨[.Ax [] ALU,.Ax [] Ar],[],Bool×ALD,λp=>C3 p.1.1 p.1.2.1,λr=>(.cons (.Am 0) (.cons (dB r.1) .nil),[.row 218 .Ai Ae r.2])⟩]
theorem vQ:Ap prog 64 c64:=As (fn:=f64) ⟨⟨E42,pk ⟨pK,Abd,Abe,trivial⟩,λ_ R K=>by
 simp only[C3,ALi];simp(disch:=refine id ?_;kernel_rfl) only[SG,Az (AvT _ _) (K:=AY E42 f64 0 R K)];kernel_rfl⟩,trivial⟩
abbrev E43:=eN [(64,c64)] {A1:=[(3,{Bb:=[0,1,6,7],Ck:=[(6,false,.row [] 122 ALS true)]})],Bv:=[(3,[4,5,6])],BR:=[(8,[0,1,6,7,8,10,44])],D2:=[(8,[0,1,6,7,8,9,10,11])]}
def AtH a b (z_:Int×ALO):=sT 52 [(0,dD ALU a),(1,dD ALY b),(6,.Am 0),(7,dI z_.1)] [.row 122 .Ai ALS z_.2]
def ArA(a:ALC)(b:ALF):=Sum.elim (λ(c:ALO)=>xR 52 [(4,.Am 0),(5,dB false),(6,.Am 0)] [.row 122 .Ai ALS c]) (λ(d:ALO)=>xE 0 52 [(6,.Am 0)] [.row 122 .Ai ALS d])
def Ah4 a b e (g:(Bool×ALD)) (i:(Bool×ALD)) j:=sT 52 [(0,dD ALU a),(1,dD ALY b),(6,.Am 0),(7,dI e),(8,.Am 1),(9,dB g.1),(10,.Am 2),(11,dB i.1)] [.row 122 .Ai ALS j,.row 218 .Ai Ae g.2,.row 218 .Ai Ae i.2]
def Aad(a:ALC)(b:ALF)(e:Int)(g i:Bool×ALD)(j:ALO)(m0:Bool):Ex×St:=xN 52 [(0,dD ALU a),(1,dD ALY b),(6,.Am 0),(7,dI e),(8,.Am 1),(10,.Am 2),(44,dB m0)] [.row 122 .Ai ALS j,.row 218 .Ai Ae g.2,.row 218 .Ai Ae i.2]
theorem AvU a b e g i j:Xe E43 0 8 (cd f109 116) (pt 204) (Ah4 a b e g i j)=some (Aad a b e g i j ((!g.1)||(!i.1))):=by
 refine .trans (b:=
 bif !g.1 then
 some (Aad a b e g i j true)
 else
 some (Aad a b e g i j (!i.1))) (by kernel_rfl) ?_
 cases (!g.1);rfl;rfl
def Qv(a:ALC)(b:ALF)(e:Int)(j:ALO):AL8 ((Int×ALO)⊕(ALO⊕ALO)):=
 bif decide (e<(b.length:Int))then
 if 0<=e/\e<b.length then
 (C3 a (b.getD e.toNat Ag.zero).2.2.1).bind λg=>if 0<=e/\e<b.length then
 (C3 a (b.getD e.toNat Ag.zero).2.2.2.1).bind λi=>QF (Ah4 a b e g i j) (
 bif (!g.1)||(!i.1)then
 some (.inr (.inl j))
 else
 if(j.length+([g.2,i.2]:ALO).length)*24<=140737488355328 then
 some (.inl (wI (e+1),j++([g.2,i.2]:ALO)))
 else none)
 else none
 else none
 else
 some (.inr (.inr j))
def Lp a b (z_:Int×ALO):=Qv a b z_.1 z_.2
def SN a b e j:=fix (Lp a b) (e,j)
theorem AvV a b:A0 E43 0 3 (code f109) 58 (AtH a b) (Lp a b) (ArA a b):=by
 intro _;simp only[Lp,Qv,ALh];simp(disch:=refine id ?_;kernel_rfl) only[F8 (AvU ..) (K:=LP E43 0 3)];kernel_rfl
def Qu(a:ALC)(b:ALF):AL8 (Bool×ALO):=
 (SN a b 0 ([]:ALO)).bind (Sum.elim (λc=>some (false,c)) (λd=>some (true,d)))
def AxS:=B6 [.d ALU,.d ALY] [⟨[.Ax [] ALU,.Ax [] ALY],[],Bool×ALO,λp=>Qu p.1.1 p.1.2.1,λr=>(.cons (.Am 0) (.cons (dB r.1) .nil),[.row 122 .Ai ALS r.2])⟩]
theorem Abc:Ap prog 109 AxS:=As (fn:=f109) ⟨⟨E43,pk ⟨vQ,trivial⟩,λ_ R K=>by
 simp only[Qu,ALi];simp(disch:=refine id ?_;kernel_rfl) only[SN,Az (AvV _ _) (K:=AY E43 f109 0 R K)];kernel_rfl⟩,trivial⟩
abbrev E44:=eN [(149,AfQ)] {A1:=[(3,{Bb:=[0,3,4],Ck:=[(3,false,.row [] 198 Aa true)]}),(6,{Bb:=[0,3,4,5],Ck:=[(3,false,.row [] 198 Aa true)]})],Bv:=[(3,[3]),(6,[0,3,4])],BR:=[(7,[0,3,4,5])],D2:=[(7,[0,3,4,5])]}
def AtL a (z_:Int×ALA):=sT 57 [(0,dD ALS a),(3,.Am 0),(4,dI z_.1)] [.row 198 .Ai Aa z_.2]
def ArD(a:ALD):=λ(b:ALA)=>xE 0 57 [(3,.Am 0)] [.row 198 .Ai Aa b]
def AtJ a c (z_:Int×ALA):=sT 57 [(0,dD ALS a),(3,.Am 0),(4,dI c),(5,dI z_.1)] [.row 198 .Ai Aa z_.2]
def ArC a c:=λ(d:ALA)=>xE 2 57 [(0,dD ALS a),(3,.Am 0),(4,dI c)] [.row 198 .Ai Aa d]
def AtI a c e g:=sT 57 [(0,dD ALS a),(3,.Am 0),(4,dI c),(5,dI e)] [.row 198 .Ai Aa g]
def ArB a c e (g:ALA):=λ(i:ALA)=>xN 57 [(0,dD ALS a),(3,.Am 0),(4,dI c),(5,dI e)] [.row 198 .Ai Aa i]
def Qf(a:ALD)(c e:Int)(g:ALA):AL8 ALA:=
 if 0<=c/\c<a.length then
 bif decide ((a.getD c.toNat Ae.zero).1<0)then
 if 0<=c/\c<a.length then
 (Ij (a.getD c.toNat Ae.zero).2.2.2.1 e).bind λj=>if(g.length+([(-1,wI j,())]:ALA).length)*16<=140737488355328 then
 some (g++([(-1,wI j,())]:ALA))
 else none
 else none
 else
 if 0<=c/\c<a.length then
 if 0<=c/\c<a.length then
 if(g.length+([((a.getD c.toNat Ae.zero).1,wI ((a.getD c.toNat Ae.zero).2.1+e),())]:ALA).length)*16<=140737488355328 then
 some (g++([((a.getD c.toNat Ae.zero).1,wI ((a.getD c.toNat Ae.zero).2.1+e),())]:ALA))
 else none
 else none
 else none
 else none
theorem AvW a c e g:AP E44 0 7 (sb (cd f114 116) 100) 6 (AtI a c e g) (Qf a c e g) (ArB a c e g):=by
 unfold AP;simp only[Qf,ALh];kernel_rfl
def MH(a:ALD)(c e:Int)(g:ALA):AL8 ((Int×ALA)⊕ALA):=
 if 0<=c/\c<a.length then
 bif decide (e<(a.getD c.toNat Ae.zero).2.2.1)then
 (Qf a c e g).bind λi=>some (.inl (wI (e+1),i))
 else
 some (.inr g)
 else none
def Gp a c (z_:Int×ALA):=MH a c z_.1 z_.2
def Qg a c e g:=fix (Gp a c) (e,g)
theorem AvX a c:A0 E44 0 6 (cd f114 116) 50 (AtJ a c) (Gp a c) (ArC a c):=by
 intro _;simp only[Gp,MH,ALh];simp(disch:=refine id ?_;kernel_rfl) only[A8 (AvW ..) (K:=LP E44 0 6)];kernel_rfl
def MI(a:ALD)(c:Int)(k:ALA):AL8 ((Int×ALA)⊕ALA):=
 bif decide (c<(a.length:Int))then
 (Qg a c 0 k).bind λd=>some (.inl (wI (c+1),d))
 else
 some (.inr k)
def Ei a (z_:Int×ALA):=MI a z_.1 z_.2
def Uc a c k:=fix (Ei a) (c,k)
theorem AvY a:A0 E44 0 3 (code f114) 58 (AtL a) (Ei a) (ArD a):=by
 intro _;simp only[Ei,MI,ALh];simp(disch:=refine id ?_;kernel_rfl) only[Qg,Az (AvX _ _) (K:=LP E44 0 3)];kernel_rfl
def R8(a:ALD):AL8 ALA:=
 (Uc a 0 ([]:ALA)).bind λb=>some b
def AxV:=B6 [.d ALS] [⟨[.Ax [] ALS],[],ALA,λp=>R8 p.1.1,λr=>(.Am 0,[.row 198 .Ai Aa r])⟩]
theorem Abf:Ap prog 114 AxV:=As (fn:=f114) ⟨⟨E44,pk ⟨eO,trivial⟩,λ_ R K=>by
 simp only[R8,ALi];simp(disch:=refine id ?_;kernel_rfl) only[Uc,Az (AvY _) (K:=AY E44 f114 0 R K)];kernel_rfl⟩,trivial⟩
abbrev E45:=eN [(114,AxV)] {A1:=[(3,{Bb:=[0,2,3,4],Ck:=[(3,true,.row [1] 4 .bool true)]}),(6,{Bb:=[0,2,3,4,5],Ck:=[(3,true,.row [1] 4 .bool true)]})],Bv:=[(3,[2,3]),(6,[0,2,3,4])]}
def AtN a b (z_:Int×ALy):=sT 32 [(0,dD ALS a),(2,.ptr 0 0 [] 0),(3,.ptr 1 0 [] 0),(4,dI z_.1)] [.box (.pr .zs (.pr .zs .u)),.box (.pr (.Am 2) (.pr (.Am 3) .u)),.row 198 .Ai Aa b,.row 4 .Ai .bool z_.2]
def ArF(a:ALD) b:=λ(c:ALy)=>xE 0 32 [(2,.ptr 0 0 [] 0),(3,.ptr 1 0 [] 0)] [.box (.pr .zs (.pr .zs .u)),.box (.pr (.Am 2) (.pr (.Am 3) .u)),.row 198 .Ai Aa b,.row 4 .Ai .bool c]
def AtM a d b (z_:Int×ALy):=sT 32 [(0,dD ALS a),(2,.ptr 0 0 [] 0),(3,.ptr 1 0 [] 0),(4,dI d),(5,dI z_.1)] [.box (.pr .zs (.pr .zs .u)),.box (.pr (.Am 2) (.pr (.Am 3) .u)),.row 198 .Ai Aa b,.row 4 .Ai .bool z_.2]
def ArE a d b:=λ(e:ALy)=>xE 2 32 [(0,dD ALS a),(2,.ptr 0 0 [] 0),(3,.ptr 1 0 [] 0),(4,dI d)] [.box (.pr .zs (.pr .zs .u)),.box (.pr (.Am 2) (.pr (.Am 3) .u)),.row 198 .Ai Aa b,.row 4 .Ai .bool e]
def MU(a:ALD)(d:Int)(b:ALA)(g:Int)(i:ALy):AL8 ((Int×ALy)⊕ALy):=
 if 0<=d/\d<a.length then
 bif decide (g<(a.getD d.toNat Ae.zero).2.2.1)then
 if(i.length+([g==0]:ALy).length)*1<=140737488355328 then
 some (.inl (wI (g+1),i++([g==0]:ALy)))
 else none
 else
 some (.inr i)
 else none
def Gu a d b (z_:Int×ALy):=MU a d b z_.1 z_.2
def Qr a d b g i:=fix (Gu a d b) (g,i)
theorem AvZ a d b:A0 E45 0 6 (cd f89 116) 50 (AtM a d b) (Gu a d b) (ArE a d b):=by
 intro _;simp only[Gu,MU,ALh];kernel_rfl
def MV(a:ALD)(b:ALA)(d:Int)(j:ALy):AL8 ((Int×ALy)⊕ALy):=
 bif decide (d<(a.length:Int))then
 (Qr a d b 0 j).bind λe=>some (.inl (wI (d+1),e))
 else
 some (.inr j)
def Gv a b (z_:Int×ALy):=MV a b z_.1 z_.2
def Qs a b d j:=fix (Gv a b) (d,j)
theorem Av0 a b:A0 E45 0 3 (code f89) 58 (AtN a b) (Gv a b) (ArF a b):=by
 intro _;simp only[Gv,MV,ALh];simp(disch:=refine id ?_;kernel_rfl) only[Qr,Az (AvZ _ _ _) (K:=LP E45 0 3)];kernel_rfl
def Jo(a:ALD):AL8 (ALA×ALy):=
 (R8 a).bind λb=>(Qs a b 0 ([]:ALy)).bind λc=>some (b,c)
def c89:=B6 [.d ALS] [⟨[.Ax [] ALS],[],ALA×ALy,λp=>Jo p.1.1,λr=>(.pr (.Am 0) (.pr (.Am 1) .u),[.row 198 .Ai Aa r.1,.row 4 .Ai .bool r.2])⟩]
theorem vW:Ap prog 89 c89:=As (fn:=f89) ⟨⟨E45,pk ⟨Abf,trivial⟩,λ_ R K=>by
 simp only[Jo,ALi];simp(disch:=refine id ?_;kernel_rfl) only[Qs,Az (Av0 _ _) (K:=AY E45 f89 0 R K)];kernel_rfl⟩,trivial⟩
abbrev E46:=eN [] {}
def DX(a:ALt)(b:ALM)(c:Int):AL8 Bool:=
 if 0<=c/\c<a.2.1.length then
 bif a.2.1.getD c.toNat (Ty.zero .bool)then
 some true
 else
 if 0<=c/\c<a.1.length then
 bif decide ((a.1.getD c.toNat Aa.zero).1>=0)then
 if 0<=c/\c<a.1.length then
 if(0:Int)<=(a.1.getD c.toNat Aa.zero).1/\(a.1.getD c.toNat Aa.zero).1<(b.length:Int)then
 if 0<=c/\c<a.1.length then
 if(0:Int)<=(a.1.getD c.toNat Aa.zero).2.1/\(a.1.getD c.toNat Aa.zero).2.1<((b.getD (a.1.getD c.toNat Aa.zero).1.toNat ALW.zero).length:Int)then
 some ((b.getD (a.1.getD c.toNat Aa.zero).1.toNat ALW.zero).getD (a.1.getD c.toNat Aa.zero).2.1.toNat (Ty.zero .bool))
 else none
 else none
 else none
 else none
 else
 some false
 else none
 else none
def c91:=B6 [.d Ao,.d AL4,.d ALP] [⟨[.Ax [] Ao,.Ax [] AL4,.Ax [] ALP],[],Bool,λp=>DX p.1.1 p.1.2.1 p.1.2.2.1,λr=>(dB r,[])⟩]
theorem ma:Ap prog 91 c91:=As (fn:=f91) ⟨⟨E46,pk trivial,λ_ R K=>by
 simp only[DX,ALi];kernel_rfl⟩,trivial⟩
abbrev E47:=eN [(91,c91)] {}
def Ji(a:ALt)(b:ALM)(c:Int):AL8 Bool:=
 (DX a b c).bind λd=>bif !d then
 if 0<=c/\c<a.1.length then
 some (decide ((a.1.getD c.toNat Aa.zero).1>=0))
 else none
 else
 some false
def Ax3:=B6 [.d Ao,.d AL4,.d ALP] [⟨[.Ax [] Ao,.Ax [] AL4,.Ax [] ALP],[],Bool,λp=>Ji p.1.1 p.1.2.1 p.1.2.2.1,λr=>(dB r,[])⟩]
theorem Abn:Ap prog 134 Ax3:=As (fn:=f134) ⟨⟨E47,pk ⟨ma,trivial⟩,λ_ R K=>by
 simp only[Ji,ALi];kernel_rfl⟩,trivial⟩
end
end Go.Proofs.X
