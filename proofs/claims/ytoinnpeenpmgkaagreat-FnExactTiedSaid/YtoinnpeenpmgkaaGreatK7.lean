import Derived.KernelRfl
import Derived.Test.YtoinnpeenpmgkaaGreatK6
set_option linter.unusedVariables false
set_option linter.unusedSimpArgs false
namespace Go.Proofs.X
open Go Go.Va Go.Proofs.Tryz
set_option maxRecDepth 100000
noncomputable section
abbrev Axw:=eN [(98,c98),(99,c99),(100,AEH),(101,AEI)] {}
def c50:=zE [.VA,.VA,.VA] Axw f50
theorem Ald:Ao prog 50 c50:=dR (pk ⟨AlF,qV,Afy,Afz,trivial⟩)
abbrev Axx:=eN [(50,c50),(51,c51),(79,c79),(122,AEV),(123,AEW)] {iI:=[(18,ATL),(20,Am)]}
def c71:=zE [.VA,.VA] Axx f71
theorem Alo:Ao prog 71 c71:=dR (pk ⟨Ald,Ale,AaZ,AfM,AfN,trivial⟩)
abbrev iD:=eN [(69,c69),(70,c70),(71,c71),(72,c72),(73,c73)] {Bw:=[(6,{A7:=[6,7,9,11,12,13,39],O4:=[(9,false,ATH)]})],YH:=[(10,[6,7,8])],Da:=[(6,[6,7,9,10,11,12,13])],Zm:=[(10,[6,7,14,15])],iI:=[(51,.sl ATP)],gk:=[(0,.row [1] 199 ATF true),(1,.row [1] 199 ATF true)]}
def Afd a b c d:=sT 57 [(6,Aq),(7,A1),(14,EB),(15,Nz)] (mK a b c d)
def jN a b c d:=λ(e:Unit)=>sT 57 [(6,Aq),(7,A1),(8,dI 0)] (AjJ a b c d)
def Q5(a b:Int)(c d:ASH):ATV Unit:=
 some ()
theorem Aum(a b:Int)(c d:ASH):Qf iD 0 10 (code f26) 510 (Afd a b c d) (Q5 a b c d) (jN a b c d):=by
 unfold Qf;have h:u0 iD 0 10 (code f26) (pt 510) (Afd a b c d) =
 ((((Eu (jN a b c d ())).bind λ_=>Eu (jN a b c d ())).bind λ_=>Eu (jN a b c d ())).bind λ_=>some (jN a b c d ())):=by kernel_rfl
 rw[h];unfold Q5;simp only[ASr,mS,mO];clear h;simp only[AQ2,AQf,Eu,EJ]
def Afc(g:AS8)(i:ATD):=sT 57 [(6,Aq),(7,A1),(9,.AG 2),(10,dB g.1),(11,Nz),(12,Qy),(13,dI 0)] [.box Tj,.box Tj,B5 g.2,.box (.pr (Ar i.1) (.pr (Bb i.2.1) (.pr (.AG 5) (.pr xT (.pr (.AG 7) (.pr (.mp 8) .u)))))),.box (.pr xT (.pr (.AG 9) (.pr (.AG 10) .u))),CS i.2.2.1,Dn i.2.2.2.1,DG i.2.2.2.2.1,HR i.2.2.2.2.2.1 none,Fx i.2.2.2.2.2.2.1,Ay i.2.2.2.2.2.2.2]
def yK(g:AS8)(i:ATD)(m0:Bool):Ex×St:=xN 57 [(6,Aq),(7,A1),(9,BV g.2),(11,EB),(12,Nz),(13,dI 0),(39,dB m0)] [.box Tj,.box Tj,.box (.pr (Ar i.1) (.pr (Bb i.2.1) (.pr UV (.pr ZW (.pr (.AG 6) (.pr (.mp 7) .u)))))),.box (.pr ZW (.pr (.AG 8) (.pr (.AG 9) .u))),CS i.2.2.1,Dn i.2.2.2.1,DG i.2.2.2.2.1,HR i.2.2.2.2.2.1 none,Fx i.2.2.2.2.2.2.1,Ay i.2.2.2.2.2.2.2]
theorem Aul g i:XJ iD 0 6 (code f26) (pt 124) (Afc g i)=some (yK g i ((!g.1)||false)):=by
 refine .trans (b:=
 bif !g.1 then
 some (yK g i true)
 else
 some (yK g i false)) (by kernel_rfl) ?_
 cases (!g.1);rfl;rfl
def Afb(g:AS8):=sT 57 [(6,Aq),(7,A1),(9,.AG 2),(10,dB g.1),(11,.KQ),(12,Nz),(13,dI 2)] (Aj4 g.2)
def yJ(g:AS8)(m0:Bool):Ex×St:=xN 57 [(6,Aq),(7,A1),(9,BV g.2),(11,.KQ),(12,EB),(13,dI 2),(39,dB m0)] [.box Tj,.box Tj,.box iZ]
theorem Auk g:XJ iD 0 6 (code f26) (pt 124) (Afb g)=some (yJ g ((!g.1)||false)):=by
 refine .trans (b:=
 bif !g.1 then
 some (yJ g true)
 else
 some (yJ g false)) (by kernel_rfl) ?_
 cases (!g.1);rfl;rfl
def Afa(g:AS8):=sT 57 (Aor g.1) (Aj4 g.2)
def yI(g:AS8):Ex×St:=xN 57 (Aos g.2) [.box Tj,.box Tj,.box iZ]
theorem Auj g:XJ iD 0 6 (code f26) (pt 124) (Afa g)=some (yI g):=by
 refine .trans (b:=
 bif !g.1 then
 some (yI g)
 else
 some (yI g)) (by kernel_rfl) ?_
 cases (!g.1);rfl;rfl
def Ae9(g:AS8):=sT 57 (Aor g.1) (Aj4 g.2)
def yH(g:AS8):Ex×St:=xN 57 (Aos g.2) [.box Tj,.box Tj,.box iZ]
theorem Aui g:XJ iD 0 6 (code f26) (pt 124) (Ae9 g)=some (yH g):=by
 refine .trans (b:=
 bif !g.1 then
 some (yH g)
 else
 some (yH g)) (by kernel_rfl) ?_
 cases (!g.1);rfl;rfl
def MY(j:ASL)(k:ASN)(l:ASD):ATV ATi:=
 (Kx j).bind λn=>bif !n then
 some (0,0,1,([]:ASH),([]:ASH))
 else
 (TS j l).bind λg=>(L8 j k).bind λo=>bif !o then
 Po (Ae9 g) (
 some (0,0,1,([]:ASH),([]:ASH)))
 else
 (Ip k).bind λq=>(TT j).bind λs=>(JU j q (s,())).bind λt=>bif !t.1 then
 Po (Afa g) (
 some (0,0,1,([]:ASH),([]:ASH)))
 else
 (Qk j q).bind λu=>(Pg j (t.2,())).bind λv=>(O9 v).bind λw=>(HD 0 j q u.2 t.2 v w).bind λi=>bif decide ((i.2.2.2.2.2.2.2.length:Int)>0)then
 Po (Afb g) (
 bif (!g.1)||false then
 some (0,0,1,([]:ASH),([]:ASH))
 else
 some (0,0,2,([]:ASH),([]:ASH)))
 else
 Po (Afc g i) (
 bif (!g.1)||false then
 some (0,0,1,([]:ASH),([]:ASH))
 else
 (JY 0 i.1 i.2.1 i.2.2.2.1 i.2.2.2.2.2.2.1 i.2.2.2.2.2.2.2 i.2.2.1 i.2.2.2.2.1 i.2.2.2.2.2.1).bind λx=>(TR g.2 x.2.2.2.2.2.2.2.2).bind λy=>(Q5 y.1 y.2.1 y.2.2.1 y.2.2.2).bind λe=>some (y.1,y.2.1,0,y.2.2.1,y.2.2.2))
def c26:=Ci [.d ATK,.d ATL,.d An] [⟨[.AB [] ATK,.AB [] ATL,.AB [] An],[],ATi,λp=>MY p.1.1 p.1.2.1 p.1.2.2.1,λr=>(.cons (.pr (dI r.1) Ps) (.cons (.pr (dI r.2.1) fe) (.cons (dI r.2.2.1) .nil)),[Bq r.2.2.2.1,Bq r.2.2.2.2])⟩]
theorem AkZ:Ao prog 26 c26:=Av (fn:=f26) ⟨⟨iD,pk ⟨qS,Aln,Alo,Alp,Alq,trivial⟩,λ_ R K=>by
 simp(disch:=refine id ?_;kernel_rfl) only[MY,ASs,Ev (Aui _) (K:=A0 iD f26 0 R K),Ev (Auj _) (K:=A0 iD f26 0 R K),Ev (Auk _) (K:=A0 iD f26 0 R K),Ev (Aul ..) (K:=A0 iD f26 0 R K),VE (Aum ..) (K:=A0 iD f26 0 R K)];kernel_rfl⟩,trivial⟩
abbrev Axy:=eN [] {Aw:=false,take:=[25]}
def AE0:=zE [.VA,.VA] Axy f130
theorem AfS:Ao prog 130 AE0:=dR (pk trivial)
abbrev qn:=eN [(130,AE0)] {Aw:=false,A5:=[(3,[0,3,9,10,11]),(11,{A7:=[6,25,26,27],Cg:=[(6,false,.row [] 87 Af false)]})],BB:=[(3,[0,3]),(11,[6])],Bw:=[(8,[0,3,9,10,11])],Da:=[(8,[0,3,9,10,11])]}
def Ar6 a b (z_:Int×ASN):=sT 36 [(6,.AG 0),(25,Vq a),(26,dI b),(27,dI z_.1)] [OC z_.2]
def Aqb(a:ASY)(b:Int):=λ(c:ASN)=>xE 2 36 tE [OC c]
def D7(a:ASY)(b d:Int)(e:ASN):ATV (ATf⊕ASN):=
 bif decide (d<b)then
 if 0<=d/\d<a.length then
 if(e.length+(a.getD d.toNat ATL.zero).length)*64<=140737488355328 then
 some (.inl (wI (d+1),e++(a.getD d.toNat ATL.zero)))
 else none
 else none
 else
 some (.inr e)
def Cd a b (z_:Int×ASN):=D7 a b z_.1 z_.2
def Fq a b d e:=fix (Cd a b) (d,e)
theorem Auq a b:A3 qn 0 11 (code f80) 250 (Ar6 a b) (Cd a b) (Aqb a b):=by
 intro _;simp only[Cd,D7,ASr];kernel_rfl
def Ar5 a g (z_:Int×ASN):=sT 36 [(6,.AG 0),(25,Vq a),(26,dI g),(27,dI z_.1)] [OC z_.2]
def Aqa(a:ASY)(g:Int):=λ(i:ASN)=>xE 2 36 tE [OC i]
def D6(a:ASY)(g j:Int)(k:ASN):ATV (ATf⊕ASN):=
 bif decide (j<g)then
 if 0<=j/\j<a.length then
 if(k.length+(a.getD j.toNat ATL.zero).length)*64<=140737488355328 then
 some (.inl (wI (j+1),k++(a.getD j.toNat ATL.zero)))
 else none
 else none
 else
 some (.inr k)
def Cc a g (z_:Int×ASN):=D6 a g z_.1 z_.2
def Fp a g j k:=fix (Cc a g) (j,k)
theorem Aup a g:A3 qn 0 11 (code f80) 250 (Ar5 a g) (Cc a g) (Aqa a g):=by
 intro _;simp only[Cc,D6,ASr];kernel_rfl
def Ar4 a l (z_:Int×Int):=sT 36 [(0,Vq a),(3,dI z_.1),(9,Vq a),(10,dI l),(11,dI z_.2)] []
def Ap9 a (l:Int):=λ(n:Int)=>xE 0 36 [(0,Vq a),(3,dI n)] []
def Ar3 a o l q:=sT 36 [(0,Vq a),(3,dI o),(9,Vq a),(10,dI l),(11,dI q)] []
def Ap8 a (o:Int) l (q:Int):=λ(s:Unit)=>xN 36 [(0,Vq a),(3,dI (wI (o+((a.getD q.toNat ATL.zero).length:Int)))),(9,Vq a),(10,dI l),(11,dI q)] []
def Fj(a:ASY)(o l q:Int):ATV Unit:=
 if 0<=q/\q<a.length then
 bif decide ((wI (o+((a.getD q.toNat ATL.zero).length:Int)))<0)then
 none
 else
 some ()
 else none
theorem Aun a o l q:AQ qn 0 8 (cd f80 116) 14 (Ar3 a o l q) (Fj a o l q) (Ap8 a o l q):=by
 unfold AQ;simp only[Fj,ASr];kernel_rfl
def D5(a:ASY)(l o q:Int):ATV (AS7⊕Int):=
 bif decide (q<l)then
 (Fj a o l q).bind λs=>some (.inl (wI (o+((a.getD q.toNat ATL.zero).length:Int)),wI (q+1)))
 else
 some (.inr o)
def Cb a l (z_:Int×Int):=D5 a l z_.1 z_.2
def Fl a l o q:=fix (Cb a l) (o,q)
theorem Auo a l:A3 qn 0 3 (code f80) 58 (Ar4 a l) (Cb a l) (Ap9 a l):=by
 intro _;simp(disch:=refine id ?_;kernel_rfl) only[Cb,D5,ASr,Ba (Aun ..) (K:=JG qn 0 3)];kernel_rfl
def EH(a:ASY):ATV ASN:=
 (Fl a (a.length:Int) 0 0).bind λn=>bif decide (n<0)then
 none
 else
 bif decide ((wI (n-0))>0)then
 if(0:Int)<=(wI (n-0))/\(wI (n-0))*((64:Nat):Int)<=(140737488355328:Int)then
 if(0:Int)<=(0:Int)/\(0:Int)<=((List.replicate (wI (n-0)).toNat (0,false,(([]:ASP),()),(([]:ASP),()),())).length:Int)then
 (Fp a (a.length:Int) 0 ((List.replicate (wI (n-0)).toNat (0,false,(([]:ASP),()),(([]:ASP),()),())).take 0)).bind λi=>some i
 else none
 else none
 else
 (Fq a (a.length:Int) 0 ([]:ASN)).bind λc=>some c
def c80:=Ci [.d (.sl ATL)] [⟨[.AB [] (.sl ATL)],[],ASN,λp=>EH p.1.1,λr=>(.AG 0,[OC r])⟩]
theorem Alu:Ao prog 80 c80:=Av (fn:=f80) ⟨⟨qn,pk ⟨AfS,trivial⟩,λ_ R K=>by
 simp(disch:=refine id ?_;kernel_rfl) only[EH,ASs,Fl,AF (Auo _ _) (K:=A0 qn f80 0 R K),Fp,AF (Aup _ _) (K:=A0 qn f80 0 R K),Fq,AF (Auq _ _) (K:=A0 qn f80 0 R K)];kernel_rfl⟩,trivial⟩
abbrev qo:=eN [(26,c26),(79,c79),(80,c80),(81,c81)] {Aw:=false,A5:=[(6,[0,5,8,9,11,12]),(14,{A7:=[17,67,68,69],Cg:=[(17,false,.row [] 2 ATE true)]})],BB:=[(6,[11]),(14,[17])],Bw:=[(7,{A7:=[0,5,8,9,11,12],O4:=[(11,false,ATL)]}),(11,[0,5,8,9,11,12,13,64])],Da:=[(7,[0,5,8,9,11,12]),(11,[0,5,8,9,11,12,13,14,15])],iI:=[(47,.sl ATL)],gk:=[(0,.row [] 2 ATE false)]}
def Asa a b (z_:Int×ASH):=sT 80 [(17,.AG 0),(67,Bb a),(68,dI b),(69,dI z_.1)] [Ay z_.2]
def Aqf(a:ASN)(b:Int):=λ(c:ASH)=>xE 2 80 [(17,.AG 0)] [Ay c]
def Q8(a:ASN)(b d:Int)(e:ASH):ATV (AS5⊕ASH):=
 bif decide (d<b)then
 if 0<=d/\d<a.length then
 if(e.length+([(a.getD d.toNat Af.zero).1]:ASH).length)*8<=140737488355328 then
 some (.inl (wI (d+1),e++([(a.getD d.toNat Af.zero).1]:ASH)))
 else none
 else none
 else
 some (.inr e)
def JV a b (z_:Int×ASH):=Q8 a b z_.1 z_.2
def U8 a b d e:=fix (JV a b) (d,e)
theorem Auu a b:A3 qo 0 14 (code f33) 1018 (Asa a b) (JV a b) (Aqf a b):=by
 intro _;simp only[JV,Q8,ASr];kernel_rfl
def Ar9 g i j k l n (z_:ASN×Int):=sT 80 (Aj5 g z_.1 z_.2) (Aj6 i j k l n)
def Aqe(g:ASL)(i:ASD)(j k:Int)(l n:ASH):=λ(a:ASN)=>xE 0 80 [(11,Bb a)] []
def Ar8 g o q i j k l n:=sT 80 (Aj5 g o q) (Aj6 i j k l n)
def Aqd g (o:ASN) q i j k l n:=λ(s:ASN)=>xN 80 (Aj5 g s q) (Aj6 i j k l n)
def Ar7 g o q i j k t l n u v w x:=sT 80 [(0,Ar g),(5,Aq),(8,A1),(9,EB),(11,Bb o),(12,dI q),(13,.AG 3),(14,Qy),(15,OZ)] [.box (G0 i),.box (.pr (dI j) xT),.box (.pr (dI k) Aj9),OC t,.box (.pr (dI u) (.pr (.AG 8) .u)),.box (.pr (dI v) (.pr (.AG 9) .u)),Bq l,Bq n,Bq w,Bq x]
def Aqc g o q i j k t l n (u:Int) (v:Int) (w:ASH) (x:ASH):=λ(y:Bool)=>xN 80 [(0,Ar g),(5,Aq),(8,A1),(9,EB),(11,Bb o),(12,dI q),(13,.AG 3),(64,dB y)] [.box (G0 i),.box (.pr (dI j) eZ),.box (.pr (dI k) ZW),OC t,Bq l,Bq n]
def NN(g:ASL)(o:ASN)(q:Int)(i:ASD)(j k:Int)(t:ASN)(l n:ASH)(u v:Int)(w x:ASH):ATV Bool:=
 (HA (u,w,()) (j,l,())).bind λa1=>bif a1 then
 (HA (v,x,()) (k,n,())).bind λb1=>some b1
 else
 some false
theorem Aur g o q i j k t l n u v w x:AQ qo 0 11 (sb (cd f33 500) 6) 22 (Ar7 g o q i j k t l n u v w x) (NN g o q i j k t l n u v w x) (Aqc g o q i j k t l n u v w x):=by
 unfold AQ;simp only[NN,ASr];kernel_rfl
def U7(g:ASL)(o:ASN)(q:Int)(i:ASD)(j k:Int)(l n:ASH):ATV ASN:=
 if(0:Int)<=(0:Int)/\(0:Int)<=q/\q<=(o.length:Int)then
 if(0:Int)<=(wI (q+1))/\(wI (q+1))<=(o.length:Int)/\(o.length:Int)<=(o.length:Int)then
 (EH ([(o.take q.toNat).drop 0,(o.take (o.length:Int).toNat).drop (wI (q+1)).toNat]:ASY)).bind λt=>(MY g t i).bind λc1=>(NN g o q i j k t l n c1.1 c1.2.1 c1.2.2.2.1 c1.2.2.2.2).bind λy=>bif y then
 some t
 else
 some o
 else none
 else none
theorem Aus g o q i j k l n:AQ qo 0 7 (cd f33 500) 6 (Ar8 g o q i j k l n) (U7 g o q i j k l n) (Aqd g o q i j k l n):=by
 unfold AQ;simp(disch:=refine id ?_;kernel_rfl) only[U7,ASr,Ba (Aur ..) (K:=Uk qo 0 7)];kernel_rfl
def Q7(g:ASL)(i:ASD)(j k:Int)(l n:ASH)(o:ASN)(q:Int):ATV ((ASN×Int)⊕ASN):=
 bif decide (q>=0)then
 (U7 g o q i j k l n).bind λs=>some (.inl (s,wI (q-1)))
 else
 some (.inr o)
def MZ g i j k l n (z_:ASN×Int):=Q7 g i j k l n z_.1 z_.2
def Q6 g i j k l n o q:=fix (MZ g i j k l n) (o,q)
theorem Aut g i j k l n:A3 qo 0 6 (code f33) 250 (Ar9 g i j k l n) (MZ g i j k l n) (Aqe g i j k l n):=by
 intro _;simp(disch:=refine id ?_;kernel_rfl) only[MZ,Q7,ASr,Ba (Aus ..) (K:=JG qo 0 6)];kernel_rfl
def Vw(g:ASL)(d1:ASN)(i:ASD):ATV AS5:=
 (MY g d1 i).bind λe1=>bif e1.2.2.1 !=0 then
 some (e1.2.2.1,([]:ASH))
 else
 (Ip d1).bind λg1=>(Q6 g i e1.1 e1.2.1 e1.2.2.2.1 e1.2.2.2.2 g1 (wI ((g1.length:Int)-1))).bind λa=>(U8 a (a.length:Int) 0 ([]:ASH)).bind λc=>some (0,c)
def c33:=Ci [.d ATK,.d ATL,.d An] [⟨[.AB [] ATK,.AB [] ATL,.AB [] An],[],AS5,λp=>Vw p.1.1 p.1.2.1 p.1.2.2.1,λr=>(.cons HS (.cons (dI r.1) .nil),[Ay r.2])⟩]
theorem Ak3:Ao prog 33 c33:=Av (fn:=f33) ⟨⟨qo,pk ⟨AkZ,AaZ,Alu,Aa0,trivial⟩,λ_ R K=>by
 simp(disch:=refine id ?_;kernel_rfl) only[Vw,ASs,Q6,AF (Aut _ _ _ _ _ _) (K:=A0 qo f33 0 R K),U8,AF (Auu _ _) (K:=A0 qo f33 0 R K)];kernel_rfl⟩,trivial⟩
abbrev AoF:=eN [] {A5:=[(4,[0,1,5])],BB:=[(4,[4])]}
def Asb a b (z_:Int):=sT 26 [(0,BJ a),(1,BJ b),(5,dI z_)] []
def Aqg(a b:ASH):=Sum.elim (λ(c:Unit)=>xR 26 mQ []) (λ(d:Unit)=>xE 0 26 [] [])
def VQ(a b:ASH)(e:Int):ATV (Int⊕(Unit⊕Unit)):=
 bif decide (e<(a.length:Int))then
 if 0<=e/\e<a.length then
 if 0<=e/\e<b.length then
 bif (a.getD e.toNat ATE.zero) !=(b.getD e.toNat ATE.zero)then
 some (.inr (.inl ()))
 else
 some (.inl (wI (e+1)))
 else none
 else none
 else
 some (.inr (.inr ()))
def KI a b (z_:Int):=VQ a b z_
def XK a b e:=fix (KI a b) e
theorem Auv a b:A3 AoF 0 4 (code f34) 58 (Asb a b) (KI a b) (Aqg a b):=by
 intro _;simp only[KI,VQ,ASr];kernel_rfl
def Jb(a b:ASH):ATV Bool:=
 bif (a.length:Int) !=(b.length:Int)then
 some false
 else
 (XK a b 0).bind (Sum.elim (λc=>some false) (λd=>some true))
def c34:=Ci [.d ATJ,.d ATJ] [⟨[.AB [] ATJ,.AB [] ATJ],[],Bool,λp=>Jb p.1.1 p.1.2.1,λr=>(dB r,[])⟩]
theorem AaT:Ao prog 34 c34:=Av (fn:=f34) ⟨⟨AoF,pk trivial,λ_ R K=>by
 simp(disch:=refine id ?_;kernel_rfl) only[Jb,ASs,XK,AF (Auv _ _) (K:=A0 AoF f34 0 R K)];kernel_rfl⟩,trivial⟩
abbrev Axk:=eN [] {}
def QH(a b:ASv):Bool:=((!(!(Jn a.1 b.1)))&&((!(a.2.1 !=b.2.1))&&true))
theorem AI3 R a b K:T6 Axk f53 R [eV a,eV b] [] K=K (dB (QH a b)) []:=by
 refine .trans (b:=
 bif !(Jn a.1 b.1)then
 K (dB false) []
 else
 bif a.2.1 !=b.2.1 then
 K (dB false) []
 else
 K (dB true) []) (by kernel_rfl) ?_
 unfold QH;cases (!(Jn a.1 b.1));cases (a.2.1 !=b.2.1);rfl;rfl;rfl
def c53:=Ci [.d Ab,.d Ab] [⟨[.AB [] Ab,.AB [] Ab],[],Bool,λp=>some (QH p.1.1 p.1.2.1),λr=>(dB r,[])⟩]
theorem Alf:Ao prog 53 c53:=Av ⟨⟨Axk,pk trivial,λ_ _ _=>AI3 ..⟩,trivial⟩
abbrev AoG:=eN [(53,c53)] {A5:=[(4,[0,1,5])],BB:=[(4,[4])]}
def Asd a b (z_:Int):=sT 27 [(0,Ar a),(1,Ar b),(5,dI z_)] []
def Aqh(a b:ASL):=Sum.elim (λ(c:Unit)=>xR 27 mQ []) (λ(d:Unit)=>xE 0 27 [] [])
def WI(a b:ASL)(e:Int):ATV (Int⊕(Unit⊕Unit)):=
 bif decide (e<(a.length:Int))then
 if 0<=e/\e<a.length then
 if 0<=e/\e<b.length then
 bif !(QH (a.getD e.toNat Ab.zero) (b.getD e.toNat Ab.zero))then
 some (.inr (.inl ()))
 else
 some (.inl (wI (e+1)))
 else none
 else none
 else
 some (.inr (.inr ()))
def Mf a b (z_:Int):=WI a b z_
def YP a b e:=fix (Mf a b) e
theorem Auw a b:A3 AoG 0 4 (code f15) 58 (Asd a b) (Mf a b) (Aqh a b):=by
 intro _;simp only[Mf,WI,ASr];kernel_rfl
def Vd(a b:ASL):ATV Bool:=
 bif (a.length:Int) !=(b.length:Int)then
 some false
 else
 (YP a b 0).bind (Sum.elim (λc=>some false) (λd=>some true))
def c15:=Ci [.d ATK,.d ATK] [⟨[.AB [] ATK,.AB [] ATK],[],Bool,λp=>Vd p.1.1 p.1.2.1,λr=>(dB r,[])⟩]
theorem AkT:Ao prog 15 c15:=Av (fn:=f15) ⟨⟨AoG,pk ⟨Alf,trivial⟩,λ_ R K=>by
 simp(disch:=refine id ?_;kernel_rfl) only[Vd,ASs,YP,AF (Auw _ _) (K:=A0 AoG f15 0 R K)];kernel_rfl⟩,trivial⟩
abbrev AoH:=eN [] {A5:=[(4,[0,1,5])],BB:=[(4,[4])]}
def Ase a b (z_:Int):=sT 26 [(0,Vp a),(1,Vp b),(5,dI z_)] []
def Aqi(a b:ASH):=Sum.elim (λ(c:Unit)=>xR 26 mQ []) (λ(d:Unit)=>xE 0 26 [] [])
def US(a b:ASH)(e:Int):ATV (Int⊕(Unit⊕Unit)):=
 bif decide (e<(a.length:Int))then
 if 0<=e/\e<a.length then
 if 0<=e/\e<b.length then
 bif (a.getD e.toNat ATF.zero) !=(b.getD e.toNat ATF.zero)then
 some (.inr (.inl ()))
 else
 some (.inl (wI (e+1)))
 else none
 else none
 else
 some (.inr (.inr ()))
def JD a b (z_:Int):=US a b z_
def WJ a b e:=fix (JD a b) e
theorem Aux a b:A3 AoH 0 4 (code f74) 58 (Ase a b) (JD a b) (Aqi a b):=by
 intro _;simp only[JD,US,ASr];kernel_rfl
def Rp(a b:ASH):ATV Bool:=
 bif (a.length:Int) !=(b.length:Int)then
 some false
 else
 (WJ a b 0).bind (Sum.elim (λc=>some false) (λd=>some true))
def c74:=Ci [.d ATO,.d ATO] [⟨[.AB [] ATO,.AB [] ATO],[],Bool,λp=>Rp p.1.1 p.1.2.1,λr=>(dB r,[])⟩]
theorem Alr:Ao prog 74 c74:=Av (fn:=f74) ⟨⟨AoH,pk trivial,λ_ R K=>by
 simp(disch:=refine id ?_;kernel_rfl) only[Rp,ASs,WJ,AF (Aux _ _) (K:=A0 AoH f74 0 R K)];kernel_rfl⟩,trivial⟩
abbrev AIz:=eN [(74,c74)] {}
def WH(a b:ASA):ATV Bool:=
 bif a.1 !=b.1 then
 some false
 else
 (Rp a.2.1 b.2.1).bind λc=>bif !c then
 some false
 else
 some true
def c27:=Ci [.d Ai,.d Ai] [⟨[.AB [] Ai,.AB [] Ai],[],Bool,λp=>WH p.1.1 p.1.2.1,λr=>(dB r,[])⟩]
theorem Ak0:Ao prog 27 c27:=Av (fn:=f27) ⟨⟨AIz,pk ⟨Alr,trivial⟩,λ_ R K=>by
 simp only[WH,ASs];kernel_rfl⟩,trivial⟩
end
end Go.Proofs.X
namespace Go.Proofs.X
open Go Go.Va Go.Proofs.Tryz
set_option maxRecDepth 100000
noncomputable section
abbrev AIA:=eN [(27,c27),(34,c34)] {}
def Ve(a b:ASz):ATV Bool:=
 bif a.1 !=b.1 then
 some false
 else
 bif a.2.1 !=b.2.1 then
 some false
 else
 bif a.2.2.1 !=b.2.2.1 then
 some false
 else
 bif a.2.2.2.1 !=b.2.2.2.1 then
 some false
 else
 (WH a.2.2.2.2.1 b.2.2.2.2.1).bind λc=>bif !c then
 some false
 else
 (Jb a.2.2.2.2.2.1 b.2.2.2.2.2.1).bind λd=>bif !d then
 some false
 else
 some true
def AEZ:=Ci [.d Ah,.d Ah] [⟨[.AB [] Ah,.AB [] Ah],[],Bool,λp=>Ve p.1.1 p.1.2.1,λr=>(dB r,[])⟩]
theorem AfR:Ao prog 129 AEZ:=Av (fn:=f129) ⟨⟨AIA,pk ⟨Ak0,AaT,trivial⟩,λ_ R K=>by
 simp only[Ve,ASs];kernel_rfl⟩,trivial⟩
abbrev AoI:=eN [(129,AEZ)] {A5:=[(4,[0,1,5])],BB:=[(4,[4])]}
def Asf a b (z_:Int):=sT 27 [(0,jC a),(1,jC b),(5,dI z_)] []
def Aqj(a b:ASP):=Sum.elim (λ(c:Unit)=>xR 27 mQ []) (λ(d:Unit)=>xE 0 27 [] [])
def VS(a b:ASP)(e:Int):ATV (Int⊕(Unit⊕Unit)):=
 bif decide (e<(a.length:Int))then
 if 0<=e/\e<a.length then
 if 0<=e/\e<b.length then
 (Ve (a.getD e.toNat Ah.zero) (b.getD e.toNat Ah.zero)).bind λg=>bif !g then
 some (.inr (.inl ()))
 else
 some (.inl (wI (e+1)))
 else none
 else none
 else
 some (.inr (.inr ()))
def Qm a b (z_:Int):=VS a b z_
def XL a b e:=fix (Qm a b) e
theorem Auy a b:A3 AoI 0 4 (code f75) 58 (Asf a b) (Qm a b) (Aqj a b):=by
 intro _;simp only[Qm,VS,ASr];kernel_rfl
def Tw(a b:ASP):ATV Bool:=
 bif (a.length:Int) !=(b.length:Int)then
 some false
 else
 (XL a b 0).bind (Sum.elim (λc=>some false) (λd=>some true))
def c75:=Ci [.d ATQ,.d ATQ] [⟨[.AB [] ATQ,.AB [] ATQ],[],Bool,λp=>Tw p.1.1 p.1.2.1,λr=>(dB r,[])⟩]
theorem Als:Ao prog 75 c75:=Av (fn:=f75) ⟨⟨AoI,pk ⟨AfR,trivial⟩,λ_ R K=>by
 simp(disch:=refine id ?_;kernel_rfl) only[Tw,ASs,XL,AF (Auy _ _) (K:=A0 AoI f75 0 R K)];kernel_rfl⟩,trivial⟩
abbrev AIB:=eN [(75,c75)] {}
def Nb(a b:ASD):ATV Bool:=
 (Tw a.1 b.1).bind λc=>bif !c then
 some false
 else
 some true
def c28:=Ci [.d An,.d An] [⟨[.AB [] An,.AB [] An],[],Bool,λp=>Nb p.1.1 p.1.2.1,λr=>(dB r,[])⟩]
theorem AaS:Ao prog 28 c28:=Av (fn:=f28) ⟨⟨AIB,pk ⟨Als,trivial⟩,λ_ R K=>by
 simp only[Nb,ASs];kernel_rfl⟩,trivial⟩
abbrev AIC:=eN [(28,c28)] {}
def Ro(a b:ASx):ATV Bool:=
 bif a.1 !=b.1 then
 some false
 else
 bif !(a.2.1==b.2.1)then
 some false
 else
 (Nb a.2.2.1 b.2.2.1).bind λc=>bif !c then
 some false
 else
 (Nb a.2.2.2.1 b.2.2.2.1).bind λd=>bif !d then
 some false
 else
 some true
def c54:=Ci [.d Af,.d Af] [⟨[.AB [] Af,.AB [] Af],[],Bool,λp=>Ro p.1.1 p.1.2.1,λr=>(dB r,[])⟩]
theorem Alg:Ao prog 54 c54:=Av (fn:=f54) ⟨⟨AIC,pk ⟨AaS,trivial⟩,λ_ R K=>by
 simp only[Ro,ASs];kernel_rfl⟩,trivial⟩
abbrev AoJ:=eN [(54,c54)] {A5:=[(4,[0,1,5])],BB:=[(4,[4])]}
def Asg a b (z_:Int):=sT 27 [(0,Bb a),(1,Bb b),(5,dI z_)] []
def Aqk(a b:ASN):=Sum.elim (λ(c:Unit)=>xR 27 mQ []) (λ(d:Unit)=>xE 0 27 [] [])
def TW(a b:ASN)(e:Int):ATV (Int⊕(Unit⊕Unit)):=
 bif decide (e<(a.length:Int))then
 if 0<=e/\e<a.length then
 if 0<=e/\e<b.length then
 (Ro (a.getD e.toNat Af.zero) (b.getD e.toNat Af.zero)).bind λg=>bif !g then
 some (.inr (.inl ()))
 else
 some (.inl (wI (e+1)))
 else none
 else none
 else
 some (.inr (.inr ()))
def Na a b (z_:Int):=TW a b z_
def VR a b e:=fix (Na a b) e
theorem Auz a b:A3 AoJ 0 4 (code f16) 58 (Asg a b) (Na a b) (Aqk a b):=by
 intro _;simp only[Na,TW,ASr];kernel_rfl
def PL(a b:ASN):ATV Bool:=
 bif (a.length:Int) !=(b.length:Int)then
 some false
 else
 (VR a b 0).bind (Sum.elim (λc=>some false) (λd=>some true))
def c16:=Ci [.d ATL,.d ATL] [⟨[.AB [] ATL,.AB [] ATL],[],Bool,λp=>PL p.1.1 p.1.2.1,λr=>(dB r,[])⟩]
theorem AkV:Ao prog 16 c16:=Av (fn:=f16) ⟨⟨AoJ,pk ⟨Alg,trivial⟩,λ_ R K=>by
 simp(disch:=refine id ?_;kernel_rfl) only[PL,ASs,VR,AF (Auz _ _) (K:=A0 AoJ f16 0 R K)];kernel_rfl⟩,trivial⟩
abbrev AoK:=eN [] {A5:=[(4,[0,3])],BB:=[(4,[3])]}
def Ash(z_:Int×ByteArray):=sT 20 [(0,dI z_.1),(3,Ia z_.2)] []
def Aql:=λ(a:ByteArray)=>xE 0 20 [(3,Ia a)] []
def Qo(b:Int)(c:ByteArray):ATV ((Int×ByteArray)⊕ByteArray):=
 bif decide (b>0)then
 if(bytesOf ([IntKind.u8.wrap (wI (48+(Int.tmod b 10)))]:ASH)).size+c.size<=9223372036854775807 then
 some (.inl (wI (Int.tdiv b 10),(bytesOf ([IntKind.u8.wrap (wI (48+(Int.tmod b 10)))]:ASH))++c))
 else none
 else
 some (.inr c)
def KM(z_:Int×ByteArray):=Qo z_.1 z_.2
def SU b c:=fix (KM) (b,c)
theorem AuA:A3 AoK 0 4 (code f56) 60 (Ash) (KM) (Aql):=by
 intro _;simp only[KM,Qo,ASr];kernel_rfl
def Pj(d:Int):ATV ByteArray:=
 bif decide (d<=0)then
 some (⟨#[109,48]⟩:ByteArray)
 else
 (SU d (⟨#[]⟩:ByteArray)).bind λa=>if(⟨#[109]⟩:ByteArray).size+a.size<=9223372036854775807 then
 some ((⟨#[109]⟩:ByteArray)++a)
 else none
def c56:=Ci [.d ATE] [⟨[.AB [] ATE],[],ByteArray,λp=>Pj p.1.1,λr=>(Ia r,[])⟩]
theorem Alh:Ao prog 56 c56:=Av (fn:=f56) ⟨⟨AoK,pk trivial,λ_ R K=>by
 simp(disch:=refine id ?_;kernel_rfl) only[Pj,ASs,SU,AF (AuA) (K:=A0 AoK f56 0 R K)];kernel_rfl⟩,trivial⟩
abbrev AoL:=eN [(56,c56)] {A5:=[(2,[0,1,5])],BB:=[(2,[1])]}
def Asi(z_:Int×Int×ASL):=sT 28 (Lv z_.1 z_.2.1) [W0 z_.2.2]
def Aqm:=λ(a:(Int×ASL))=>xE 0 28 [(1,dI a.1)] [W0 a.2]
def JE(b c:Int)(d:ASL):ATV ((Int×Int×ASL)⊕(Int×ASL)):=
 bif decide (c<(d.length:Int))then
 (Pj b).bind λe=>if 0<=c/\c<d.length then
 if 0<=c/\c<(d.set c.toNat (e,(d.getD c.toNat Ab.zero).2)).length then
 some (.inl (wI ((wI (b+1))+1),wI (c+1),(d.set c.toNat (e,(d.getD c.toNat Ab.zero).2)).set c.toNat (((d.set c.toNat (e,(d.getD c.toNat Ab.zero).2)).getD c.toNat Ab.zero).1,wI (b+1),((d.set c.toNat (e,(d.getD c.toNat Ab.zero).2)).getD c.toNat Ab.zero).2.2)))
 else none
 else none
 else
 some (.inr (b,d))
def El(z_:Int×Int×ASL):=JE z_.1 z_.2.1 z_.2.2
def Rq b c d:=fix (El) (b,c,d)
theorem AuB:A3 AoL 1 2 (code f18) 26 (Asi) (El) (Aqm):=by
 intro _;simp only[El,JE,ASr];kernel_rfl
def Nc(g:Int)(i:ASL):ATV (Int×ASL):=
 (Rq g 0 i).bind λa=>some (a.1,a.2)
def c18:=Ci [.VA,.d ATE] [⟨[.k HS,.AB [] ATE],[.row 105 .Aw Ab],Int×ASL,λp=>Nc p.1.2.1 p.2.1,λr=>(dI r.1,[W0 r.2])⟩]
theorem AkW:Ao prog 18 c18:=Av (fn:=f18) ⟨⟨AoL,pk ⟨Alh,trivial⟩,λ_ R K=>by
 simp(disch:=refine id ?_;kernel_rfl) only[Nc,ASs,Rq,AF (AuB) (K:=A0 AoL f18 1 R K)];kernel_rfl⟩,trivial⟩
abbrev AoM:=eN [] {A5:=[(2,[0,1,5])],BB:=[(2,[1])]}
def Asj(z_:Int×Int×ASH):=sT 20 (Lv z_.1 z_.2.1) [tJ z_.2.2]
def Aqn:=λ(a:AS5)=>xE 0 20 [(1,dI a.1)] [tJ a.2]
def H7(b c:Int)(d:ASH):ATV (ATq⊕AS5):=
 bif decide (c<(d.length:Int))then
 if 0<=c/\c<d.length then
 some (.inl (wI (b+1),wI (c+1),d.set c.toNat (IntKind.u64.wrap b)))
 else none
 else
 some (.inr (b,d))
def Dj(z_:Int×Int×ASH):=H7 z_.1 z_.2.1 z_.2.2
def OW b c d:=fix (Dj) (b,c,d)
theorem AuC:A3 AoM 1 2 (code f76) 26 (Asj) (Dj) (Aqn):=by
 intro _;simp only[Dj,H7,ASr];kernel_rfl
def He(e:Int)(g:ASH):ATV AS5:=
 (OW e 0 g).bind λa=>some (a.1,a.2)
def c76:=Ci [.VA,.d ATE] [⟨[.k HS,.AB [] ATE],[.row 0 .Aw ATF],AS5,λp=>He p.1.2.1 p.2.1,λr=>(dI r.1,[tJ r.2])⟩]
theorem AaX:Ao prog 76 c76:=Av (fn:=f76) ⟨⟨AoM,pk trivial,λ_ R K=>by
 simp(disch:=refine id ?_;kernel_rfl) only[He,ASs,OW,AF (AuC) (K:=A0 AoM f76 1 R K)];kernel_rfl⟩,trivial⟩
end
end Go.Proofs.X
namespace Go.Proofs.X
open Go Go.Va Go.Proofs.Tryz
set_option maxRecDepth 100000
noncomputable section
abbrev AoN:=eN [] {A5:=[(2,[0,1,5])],BB:=[(2,[1])]}
def Asl(z_:Int×Int×ASH):=sT 19 (Lv z_.1 z_.2.1) [tK z_.2.2]
def Aqo:=λ(a:AS5)=>xE 0 19 [(1,dI a.1)] [tK a.2]
def GN(b c:Int)(d:ASH):ATV (ATq⊕AS5):=
 bif decide (c<(d.length:Int))then
 if 0<=c/\c<d.length then
 some (.inl (wI (b+1),wI (c+1),d.set c.toNat b))
 else none
 else
 some (.inr (b,d))
def C2(z_:Int×Int×ASH):=GN z_.1 z_.2.1 z_.2.2
def Nf b c d:=fix (C2) (b,c,d)
theorem AuD:A3 AoN 1 2 (code f35) 26 (Asl) (C2) (Aqo):=by
 intro _;simp only[C2,GN,ASr];kernel_rfl
def FY(e:Int)(g:ASH):ATV AS5:=
 (Nf e 0 g).bind λa=>some (a.1,a.2)
abbrev AoO:=eN [] {A5:=[(2,[0,1,5])],BB:=[(2,[1])]}
def Asm(z_:Int×Int×ASH):=sT 19 (Lv z_.1 z_.2.1) [Ay z_.2.2]
def Aqp:=λ(a:AS5)=>xE 0 19 [(1,dI a.1)] [Ay a.2]
def Rr(b c:Int)(d:ASH):ATV (ATq⊕AS5):=
 bif decide (c<(d.length:Int))then
 if 0<=c/\c<d.length then
 some (.inl (wI (b+1),wI (c+1),d.set c.toNat b))
 else none
 else
 some (.inr (b,d))
def KJ(z_:Int×Int×ASH):=Rr z_.1 z_.2.1 z_.2.2
def TX b c d:=fix (KJ) (b,c,d)
theorem AuE:A3 AoO 1 2 (code f35) 26 (Asm) (KJ) (Aqp):=by
 intro _;simp only[KJ,Rr,ASr];kernel_rfl
def Mg(e:Int)(g:ASH):ATV AS5:=
 (TX e 0 g).bind λa=>some (a.1,a.2)
def c35:=Ci [.VA,.d ATE] [⟨[.k HS,.AB [] ATE],[.row 0 .Aw ATE],AS5,λp=>FY p.1.2.1 p.2.1,λr=>(dI r.1,[tK r.2])⟩,⟨[.k HS,.AB [] ATE],[.row 2 .Aw ATE],AS5,λp=>Mg p.1.2.1 p.2.1,λr=>(dI r.1,[Ay r.2])⟩]
theorem qO:Ao prog 35 c35:=Av (fn:=f35) ⟨⟨AoN,pk trivial,λ_ R K=>by
 simp(disch:=refine id ?_;kernel_rfl) only[FY,ASs,Nf,AF (AuD) (K:=A0 AoN f35 1 R K)];kernel_rfl⟩,⟨AoO,pk trivial,λ_ R K=>by
 simp(disch:=refine id ?_;kernel_rfl) only[Mg,ASs,TX,AF (AuE) (K:=A0 AoO f35 1 R K)];kernel_rfl⟩,trivial⟩
abbrev qp:=eN [(35,c35),(76,c76)] {wD:=[(53,199),(60,2)],A5:=[(2,[0,1,5])],BB:=[(2,[1])],Bw:=[(3,[0,1,5]),(9,[0,1,5]),(13,[0,1,5])],Da:=[(3,[0,1,5]),(9,[0,1,5]),(13,[0,1,5])]}
def Asq(z_:Int×Int×ASP):=sT 64 (Lv z_.1 z_.2.1) [Vs z_.2.2]
def Aqt:=λ(a:ATc)=>xE 0 64 [(1,dI a.1)] [Vs a.2]
def Asp b c d:=sT 64 (Lv b c) [Vs d]
def Aqs(b:Int) c (d:ASP):=λ(e:ATc)=>xN 64 (Lv e.1 c) [Vs e.2]
def Aso c g i:=sT 64 (Lv g c) [Vs i]
def Aqr c g (i:ASP):=λ(j:ASP)=>xN 64 (Lv g c) [Vs j]
def IL(c g:Int)(i:ASP):ATV ASP:=
 if 0<=c/\c<i.length then
 some (i.set c.toNat ((i.getD c.toNat Ah.zero).1,(i.getD c.toNat Ah.zero).2.1,(i.getD c.toNat Ah.zero).2.2.1,(i.getD c.toNat Ah.zero).2.2.2.1,(g,(i.getD c.toNat Ah.zero).2.2.2.2.1.2),(i.getD c.toNat Ah.zero).2.2.2.2.2))
 else none
theorem AuG c g i:AQ qp 1 13 (sb (cd f57 52) 6) 1534 (Aso c g i) (IL c g i) (Aqr c g i):=by
 unfold AQ;simp only[IL,ASr];kernel_rfl
def Asn c k l:=sT 64 (Lv k c) [Vs l]
def Aqq c k (l:ASP):=λ(n:ASP)=>xN 64 (Lv k c) [Vs n]
def IK(c k:Int)(l:ASP):ATV ASP:=
 if 0<=c/\c<l.length then
 some (l.set c.toNat ((l.getD c.toNat Ah.zero).1,(l.getD c.toNat Ah.zero).2.1,k,(l.getD c.toNat Ah.zero).2.2.2))
 else none
theorem AuF c k l:AQ qp 1 9 (sb (cd f57 52) 6) 94 (Asn c k l) (IK c k l) (Aqq c k l):=by
 unfold AQ;simp only[IK,ASr];kernel_rfl
def IP(b c:Int)(d:ASP):ATV ATc:=
 if 0<=c/\c<d.length then
 if 0<=c/\c<(d.set c.toNat (b,(d.getD c.toNat Ah.zero).2)).length then
 (IK c (wI ((wI (b+1))+1)) ((d.set c.toNat (b,(d.getD c.toNat Ah.zero).2)).set c.toNat (((d.set c.toNat (b,(d.getD c.toNat Ah.zero).2)).getD c.toNat Ah.zero).1,wI (b+1),((d.set c.toNat (b,(d.getD c.toNat Ah.zero).2)).getD c.toNat Ah.zero).2.2))).bind λn=>if 0<=c/\c<n.length then
 (IL c (wI ((wI ((wI ((wI (b+1))+1))+1))+1)) (n.set c.toNat ((n.getD c.toNat Ah.zero).1,(n.getD c.toNat Ah.zero).2.1,(n.getD c.toNat Ah.zero).2.2.1,wI ((wI ((wI (b+1))+1))+1),(n.getD c.toNat Ah.zero).2.2.2.2))).bind λj=>if 0<=c/\c<j.length then
 (He (wI ((wI ((wI ((wI ((wI (b+1))+1))+1))+1))+1)) (j.getD c.toNat Ah.zero).2.2.2.2.1.2.1).bind λo=>if 0<=c/\c<(j.set c.toNat ((j.getD c.toNat Ah.zero).1,(j.getD c.toNat Ah.zero).2.1,(j.getD c.toNat Ah.zero).2.2.1,(j.getD c.toNat Ah.zero).2.2.2.1,((j.getD c.toNat Ah.zero).2.2.2.2.1.1,o.2,(j.getD c.toNat Ah.zero).2.2.2.2.1.2.2),(j.getD c.toNat Ah.zero).2.2.2.2.2)).length then
 (FY o.1 ((j.set c.toNat ((j.getD c.toNat Ah.zero).1,(j.getD c.toNat Ah.zero).2.1,(j.getD c.toNat Ah.zero).2.2.1,(j.getD c.toNat Ah.zero).2.2.2.1,((j.getD c.toNat Ah.zero).2.2.2.2.1.1,o.2,(j.getD c.toNat Ah.zero).2.2.2.2.1.2.2),(j.getD c.toNat Ah.zero).2.2.2.2.2)).getD c.toNat Ah.zero).2.2.2.2.2.1).bind λq=>some (q.1,(j.set c.toNat ((j.getD c.toNat Ah.zero).1,(j.getD c.toNat Ah.zero).2.1,(j.getD c.toNat Ah.zero).2.2.1,(j.getD c.toNat Ah.zero).2.2.2.1,((j.getD c.toNat Ah.zero).2.2.2.2.1.1,o.2,(j.getD c.toNat Ah.zero).2.2.2.2.1.2.2),(j.getD c.toNat Ah.zero).2.2.2.2.2)).set c.toNat (((j.set c.toNat ((j.getD c.toNat Ah.zero).1,(j.getD c.toNat Ah.zero).2.1,(j.getD c.toNat Ah.zero).2.2.1,(j.getD c.toNat Ah.zero).2.2.2.1,((j.getD c.toNat Ah.zero).2.2.2.2.1.1,o.2,(j.getD c.toNat Ah.zero).2.2.2.2.1.2.2),(j.getD c.toNat Ah.zero).2.2.2.2.2)).getD c.toNat Ah.zero).1,((j.set c.toNat ((j.getD c.toNat Ah.zero).1,(j.getD c.toNat Ah.zero).2.1,(j.getD c.toNat Ah.zero).2.2.1,(j.getD c.toNat Ah.zero).2.2.2.1,((j.getD c.toNat Ah.zero).2.2.2.2.1.1,o.2,(j.getD c.toNat Ah.zero).2.2.2.2.1.2.2),(j.getD c.toNat Ah.zero).2.2.2.2.2)).getD c.toNat Ah.zero).2.1,((j.set c.toNat ((j.getD c.toNat Ah.zero).1,(j.getD c.toNat Ah.zero).2.1,(j.getD c.toNat Ah.zero).2.2.1,(j.getD c.toNat Ah.zero).2.2.2.1,((j.getD c.toNat Ah.zero).2.2.2.2.1.1,o.2,(j.getD c.toNat Ah.zero).2.2.2.2.1.2.2),(j.getD c.toNat Ah.zero).2.2.2.2.2)).getD c.toNat Ah.zero).2.2.1,((j.set c.toNat ((j.getD c.toNat Ah.zero).1,(j.getD c.toNat Ah.zero).2.1,(j.getD c.toNat Ah.zero).2.2.1,(j.getD c.toNat Ah.zero).2.2.2.1,((j.getD c.toNat Ah.zero).2.2.2.2.1.1,o.2,(j.getD c.toNat Ah.zero).2.2.2.2.1.2.2),(j.getD c.toNat Ah.zero).2.2.2.2.2)).getD c.toNat Ah.zero).2.2.2.1,((j.set c.toNat ((j.getD c.toNat Ah.zero).1,(j.getD c.toNat Ah.zero).2.1,(j.getD c.toNat Ah.zero).2.2.1,(j.getD c.toNat Ah.zero).2.2.2.1,((j.getD c.toNat Ah.zero).2.2.2.2.1.1,o.2,(j.getD c.toNat Ah.zero).2.2.2.2.1.2.2),(j.getD c.toNat Ah.zero).2.2.2.2.2)).getD c.toNat Ah.zero).2.2.2.2.1,q.2,((j.set c.toNat ((j.getD c.toNat Ah.zero).1,(j.getD c.toNat Ah.zero).2.1,(j.getD c.toNat Ah.zero).2.2.1,(j.getD c.toNat Ah.zero).2.2.2.1,((j.getD c.toNat Ah.zero).2.2.2.2.1.1,o.2,(j.getD c.toNat Ah.zero).2.2.2.2.1.2.2),(j.getD c.toNat Ah.zero).2.2.2.2.2)).getD c.toNat Ah.zero).2.2.2.2.2.2))
 else none
 else none
 else none
 else none
 else none
theorem AuH b c d:AQ qp 1 3 (cd f57 52) 6 (Asp b c d) (IP b c d) (Aqs b c d):=by
 unfold AQ;simp(disch:=refine id ?_;kernel_rfl) only[IP,ASr,Ba (AuF ..) (K:=Uk qp 1 3),Ba (AuG ..) (K:=Uk qp 1 3)];kernel_rfl
def GR(b c:Int)(d:ASP):ATV ((Int×Int×ASP)⊕ATc):=
 bif decide (c<(d.length:Int))then
 (IP b c d).bind λe=>some (.inl (e.1,wI (c+1),e.2))
 else
 some (.inr (b,d))
def C4(z_:Int×Int×ASP):=GR z_.1 z_.2.1 z_.2.2
def Nh b c d:=fix (C4) (b,c,d)
theorem AuI:A3 qp 1 2 (code f57) 26 (Asq) (C4) (Aqt):=by
 intro _;simp(disch:=refine id ?_;kernel_rfl) only[C4,GR,ASr,Ba (AuH ..) (K:=JG qp 1 2)];kernel_rfl
def D1(s:Int)(t:ASP):ATV ATc:=
 (Nh s 0 t).bind λa=>some (a.1,a.2)
abbrev qq:=eN [(35,c35),(76,c76)] {wD:=[(53,199),(60,2)],A5:=[(2,[0,1,5])],BB:=[(2,[1])],Bw:=[(3,[0,1,5]),(9,[0,1,5]),(13,[0,1,5])],Da:=[(3,[0,1,5]),(9,[0,1,5]),(13,[0,1,5])]}
def Asu(z_:Int×Int×ASP):=sT 64 (Lv z_.1 z_.2.1) [Ib z_.2.2]
def Aqx:=λ(a:ATc)=>xE 0 64 [(1,dI a.1)] [Ib a.2]
def Ast b c d:=sT 64 (Lv b c) [Ib d]
def Aqw(b:Int) c (d:ASP):=λ(e:ATc)=>xN 64 (Lv e.1 c) [Ib e.2]
def Ass c g i:=sT 64 (Lv g c) [Ib i]
def Aqv c g (i:ASP):=λ(j:ASP)=>xN 64 (Lv g c) [Ib j]
def Nj(c g:Int)(i:ASP):ATV ASP:=
 if 0<=c/\c<i.length then
 some (i.set c.toNat ((i.getD c.toNat Ah.zero).1,(i.getD c.toNat Ah.zero).2.1,(i.getD c.toNat Ah.zero).2.2.1,(i.getD c.toNat Ah.zero).2.2.2.1,(g,(i.getD c.toNat Ah.zero).2.2.2.2.1.2),(i.getD c.toNat Ah.zero).2.2.2.2.2))
 else none
theorem AuK c g i:AQ qq 1 13 (sb (cd f57 52) 6) 1534 (Ass c g i) (Nj c g i) (Aqv c g i):=by
 unfold AQ;simp only[Nj,ASr];kernel_rfl
def Asr c k l:=sT 64 (Lv k c) [Ib l]
def Aqu c k (l:ASP):=λ(n:ASP)=>xN 64 (Lv k c) [Ib n]
def Ni(c k:Int)(l:ASP):ATV ASP:=
 if 0<=c/\c<l.length then
 some (l.set c.toNat ((l.getD c.toNat Ah.zero).1,(l.getD c.toNat Ah.zero).2.1,k,(l.getD c.toNat Ah.zero).2.2.2))
 else none
theorem AuJ c k l:AQ qq 1 9 (sb (cd f57 52) 6) 94 (Asr c k l) (Ni c k l) (Aqu c k l):=by
 unfold AQ;simp only[Ni,ASr];kernel_rfl
def Nk(b c:Int)(d:ASP):ATV ATc:=
 if 0<=c/\c<d.length then
 if 0<=c/\c<(d.set c.toNat (b,(d.getD c.toNat Ah.zero).2)).length then
 (Ni c (wI ((wI (b+1))+1)) ((d.set c.toNat (b,(d.getD c.toNat Ah.zero).2)).set c.toNat (((d.set c.toNat (b,(d.getD c.toNat Ah.zero).2)).getD c.toNat Ah.zero).1,wI (b+1),((d.set c.toNat (b,(d.getD c.toNat Ah.zero).2)).getD c.toNat Ah.zero).2.2))).bind λn=>if 0<=c/\c<n.length then
 (Nj c (wI ((wI ((wI ((wI (b+1))+1))+1))+1)) (n.set c.toNat ((n.getD c.toNat Ah.zero).1,(n.getD c.toNat Ah.zero).2.1,(n.getD c.toNat Ah.zero).2.2.1,wI ((wI ((wI (b+1))+1))+1),(n.getD c.toNat Ah.zero).2.2.2.2))).bind λj=>if 0<=c/\c<j.length then
 (He (wI ((wI ((wI ((wI ((wI (b+1))+1))+1))+1))+1)) (j.getD c.toNat Ah.zero).2.2.2.2.1.2.1).bind λo=>if 0<=c/\c<(j.set c.toNat ((j.getD c.toNat Ah.zero).1,(j.getD c.toNat Ah.zero).2.1,(j.getD c.toNat Ah.zero).2.2.1,(j.getD c.toNat Ah.zero).2.2.2.1,((j.getD c.toNat Ah.zero).2.2.2.2.1.1,o.2,(j.getD c.toNat Ah.zero).2.2.2.2.1.2.2),(j.getD c.toNat Ah.zero).2.2.2.2.2)).length then
 (FY o.1 ((j.set c.toNat ((j.getD c.toNat Ah.zero).1,(j.getD c.toNat Ah.zero).2.1,(j.getD c.toNat Ah.zero).2.2.1,(j.getD c.toNat Ah.zero).2.2.2.1,((j.getD c.toNat Ah.zero).2.2.2.2.1.1,o.2,(j.getD c.toNat Ah.zero).2.2.2.2.1.2.2),(j.getD c.toNat Ah.zero).2.2.2.2.2)).getD c.toNat Ah.zero).2.2.2.2.2.1).bind λq=>some (q.1,(j.set c.toNat ((j.getD c.toNat Ah.zero).1,(j.getD c.toNat Ah.zero).2.1,(j.getD c.toNat Ah.zero).2.2.1,(j.getD c.toNat Ah.zero).2.2.2.1,((j.getD c.toNat Ah.zero).2.2.2.2.1.1,o.2,(j.getD c.toNat Ah.zero).2.2.2.2.1.2.2),(j.getD c.toNat Ah.zero).2.2.2.2.2)).set c.toNat (((j.set c.toNat ((j.getD c.toNat Ah.zero).1,(j.getD c.toNat Ah.zero).2.1,(j.getD c.toNat Ah.zero).2.2.1,(j.getD c.toNat Ah.zero).2.2.2.1,((j.getD c.toNat Ah.zero).2.2.2.2.1.1,o.2,(j.getD c.toNat Ah.zero).2.2.2.2.1.2.2),(j.getD c.toNat Ah.zero).2.2.2.2.2)).getD c.toNat Ah.zero).1,((j.set c.toNat ((j.getD c.toNat Ah.zero).1,(j.getD c.toNat Ah.zero).2.1,(j.getD c.toNat Ah.zero).2.2.1,(j.getD c.toNat Ah.zero).2.2.2.1,((j.getD c.toNat Ah.zero).2.2.2.2.1.1,o.2,(j.getD c.toNat Ah.zero).2.2.2.2.1.2.2),(j.getD c.toNat Ah.zero).2.2.2.2.2)).getD c.toNat Ah.zero).2.1,((j.set c.toNat ((j.getD c.toNat Ah.zero).1,(j.getD c.toNat Ah.zero).2.1,(j.getD c.toNat Ah.zero).2.2.1,(j.getD c.toNat Ah.zero).2.2.2.1,((j.getD c.toNat Ah.zero).2.2.2.2.1.1,o.2,(j.getD c.toNat Ah.zero).2.2.2.2.1.2.2),(j.getD c.toNat Ah.zero).2.2.2.2.2)).getD c.toNat Ah.zero).2.2.1,((j.set c.toNat ((j.getD c.toNat Ah.zero).1,(j.getD c.toNat Ah.zero).2.1,(j.getD c.toNat Ah.zero).2.2.1,(j.getD c.toNat Ah.zero).2.2.2.1,((j.getD c.toNat Ah.zero).2.2.2.2.1.1,o.2,(j.getD c.toNat Ah.zero).2.2.2.2.1.2.2),(j.getD c.toNat Ah.zero).2.2.2.2.2)).getD c.toNat Ah.zero).2.2.2.1,((j.set c.toNat ((j.getD c.toNat Ah.zero).1,(j.getD c.toNat Ah.zero).2.1,(j.getD c.toNat Ah.zero).2.2.1,(j.getD c.toNat Ah.zero).2.2.2.1,((j.getD c.toNat Ah.zero).2.2.2.2.1.1,o.2,(j.getD c.toNat Ah.zero).2.2.2.2.1.2.2),(j.getD c.toNat Ah.zero).2.2.2.2.2)).getD c.toNat Ah.zero).2.2.2.2.1,q.2,((j.set c.toNat ((j.getD c.toNat Ah.zero).1,(j.getD c.toNat Ah.zero).2.1,(j.getD c.toNat Ah.zero).2.2.1,(j.getD c.toNat Ah.zero).2.2.2.1,((j.getD c.toNat Ah.zero).2.2.2.2.1.1,o.2,(j.getD c.toNat Ah.zero).2.2.2.2.1.2.2),(j.getD c.toNat Ah.zero).2.2.2.2.2)).getD c.toNat Ah.zero).2.2.2.2.2.2))
 else none
 else none
 else none
 else none
 else none
theorem AuL b c d:AQ qq 1 3 (cd f57 52) 6 (Ast b c d) (Nk b c d) (Aqw b c d):=by
 unfold AQ;simp(disch:=refine id ?_;kernel_rfl) only[Nk,ASr,Ba (AuJ ..) (K:=Uk qq 1 3),Ba (AuK ..) (K:=Uk qq 1 3)];kernel_rfl
def Rs(b c:Int)(d:ASP):ATV ((Int×Int×ASP)⊕ATc):=
 bif decide (c<(d.length:Int))then
 (Nk b c d).bind λe=>some (.inl (e.1,wI (c+1),e.2))
 else
 some (.inr (b,d))
def KL(z_:Int×Int×ASP):=Rs z_.1 z_.2.1 z_.2.2
def TY b c d:=fix (KL) (b,c,d)
theorem AuM:A3 qq 1 2 (code f57) 26 (Asu) (KL) (Aqx):=by
 intro _;simp(disch:=refine id ?_;kernel_rfl) only[KL,Rs,ASr,Ba (AuL ..) (K:=JG qq 1 2)];kernel_rfl
def Mh(s:Int)(t:ASP):ATV ATc:=
 (TY s 0 t).bind λa=>some (a.1,a.2)
def c57:=Ci [.VA,.d ATE] [⟨[.k HS,.AB [] ATE],[.row 0 .Aw Ah],ATc,λp=>D1 p.1.2.1 p.2.1,λr=>(dI r.1,[Vs r.2])⟩,⟨[.k HS,.AB [] ATE],[.row 182 .Aw Ah],ATc,λp=>Mh p.1.2.1 p.2.1,λr=>(dI r.1,[Ib r.2])⟩]
theorem AaW:Ao prog 57 c57:=Av (fn:=f57) ⟨⟨qp,pk ⟨qO,AaX,trivial⟩,λ_ R K=>by
 simp(disch:=refine id ?_;kernel_rfl) only[D1,ASs,Nh,AF (AuI) (K:=A0 qp f57 1 R K)];kernel_rfl⟩,⟨qq,pk ⟨qO,AaX,trivial⟩,λ_ R K=>by
 simp(disch:=refine id ?_;kernel_rfl) only[Mh,ASs,TY,AF (AuM) (K:=A0 qq f57 1 R K)];kernel_rfl⟩,trivial⟩
abbrev qs:=eN [(57,c57)] {wD:=[(33,182),(41,182)],A5:=[(2,[0,1,5])],BB:=[(2,[1])],Bw:=[(3,[0,1,5]),(7,[0,1,5]),(9,[0,1,5])],Da:=[(3,[0,1,5]),(7,[0,1,5]),(9,[0,1,5])]}
def Asy(z_:Int×Int×ASN):=sT 45 (Lv z_.1 z_.2.1) [MP z_.2.2]
def AqB:=λ(a:ATf)=>xE 0 45 [(1,dI a.1)] [MP a.2]
def Asx b c d:=sT 45 (Lv b c) [MP d]
def AqA(b:Int) c (d:ASN):=λ(e:ATf)=>xN 45 (Lv e.1 c) [MP e.2]
def Asw c g i:=sT 45 (Lv i c) [MP g]
def Aqz c (g:ASN) (i:Int):=λ(j:ATf)=>xN 45 (Lv j.1 c) [MP j.2]
def II(c:Int)(g:ASN)(i:Int):ATV ATf:=
 if 0<=c/\c<g.length then
 (D1 i (g.getD c.toNat Af.zero).2.2.1.1).bind λk=>some (k.1,g.set c.toNat ((g.getD c.toNat Af.zero).1,(g.getD c.toNat Af.zero).2.1,(k.2,(g.getD c.toNat Af.zero).2.2.1.2),(g.getD c.toNat Af.zero).2.2.2))
 else none
theorem AuO c g i:AQ qs 1 9 (sb (cd f19 52) 6) 94 (Asw c g i) (II c g i) (Aqz c g i):=by
 unfold AQ;simp only[II,ASr];kernel_rfl
def Asv c l n:=sT 45 (Lv l c) [MP n]
def Aqy c l (n:ASN):=λ(g:ASN)=>xN 45 (Lv l c) [MP g]
def IH(c l:Int)(n:ASN):ATV ASN:=
 if 0<=c/\c<n.length then
 some (n.set c.toNat ((n.getD c.toNat Af.zero).1,(Int.tmod l 3)==0,(n.getD c.toNat Af.zero).2.2))
 else none
theorem AuN c l n:AQ qs 1 7 (sb (cd f19 52) 6) 22 (Asv c l n) (IH c l n) (Aqy c l n):=by
 unfold AQ;simp only[IH,ASr];kernel_rfl
def IJ(b c:Int)(d:ASN):ATV ATf:=
 if 0<=c/\c<d.length then
 (IH c (wI (b+1)) (d.set c.toNat (b,(d.getD c.toNat Af.zero).2))).bind λg=>(II c g (wI ((wI (b+1))+1))).bind λj=>if 0<=c/\c<j.2.length then
 (D1 j.1 (j.2.getD c.toNat Af.zero).2.2.2.1.1).bind λo=>some (o.1,j.2.set c.toNat ((j.2.getD c.toNat Af.zero).1,(j.2.getD c.toNat Af.zero).2.1,(j.2.getD c.toNat Af.zero).2.2.1,(o.2,(j.2.getD c.toNat Af.zero).2.2.2.1.2),(j.2.getD c.toNat Af.zero).2.2.2.2))
 else none
 else none
theorem AuP b c d:AQ qs 1 3 (cd f19 52) 6 (Asx b c d) (IJ b c d) (AqA b c d):=by
 unfold AQ;simp(disch:=refine id ?_;kernel_rfl) only[IJ,ASr,Ba (AuN ..) (K:=Uk qs 1 3),Ba (AuO ..) (K:=Uk qs 1 3)];kernel_rfl
def GQ(b c:Int)(d:ASN):ATV ((Int×Int×ASN)⊕ATf):=
 bif decide (c<(d.length:Int))then
 (IJ b c d).bind λe=>some (.inl (e.1,wI (c+1),e.2))
 else
 some (.inr (b,d))
def C3(z_:Int×Int×ASN):=GQ z_.1 z_.2.1 z_.2.2
def Ng b c d:=fix (C3) (b,c,d)
theorem AuQ:A3 qs 1 2 (code f19) 26 (Asy) (C3) (AqB):=by
 intro _;simp(disch:=refine id ?_;kernel_rfl) only[C3,GQ,ASr,Ba (AuP ..) (K:=JG qs 1 2)];kernel_rfl
def IG(q:Int)(s:ASN):ATV ATf:=
 (Ng q 0 s).bind λa=>some (a.1,a.2)
def c19:=Ci [.VA,.d ATE] [⟨[.k HS,.AB [] ATE],[.row 87 .Aw Af],ATf,λp=>IG p.1.2.1 p.2.1,λr=>(dI r.1,[MP r.2])⟩]
theorem AkX:Ao prog 19 c19:=Av (fn:=f19) ⟨⟨qs,pk ⟨AaW,trivial⟩,λ_ R K=>by
 simp(disch:=refine id ?_;kernel_rfl) only[IG,ASs,Ng,AF (AuQ) (K:=A0 qs f19 1 R K)];kernel_rfl⟩,trivial⟩
abbrev AID:=eN [(57,c57)] {}
def Ph(a:Int)(b:ASP):ATV ATc:=
 (Mh a b).bind λc=>some (c.1,c.2)
def c29:=Ci [.VA,.d ATE] [⟨[.pr (.k HS) (.k .u),.AB [] ATE],[.row 182 .Aw Ah],ATc,λp=>Ph p.1.2.1 p.2.1,λr=>(dI r.1,[Ib r.2])⟩]
theorem Ak1:Ao prog 29 c29:=Av (fn:=f29) ⟨⟨AID,pk ⟨AaW,trivial⟩,λ_ R K=>by
 simp only[Ph,ASs];kernel_rfl⟩,trivial⟩
abbrev AoP:=eN [] {A5:=[(2,[0,1,5])],BB:=[(2,[1,4])]}
def Asz a (z_:Int×Int):=sT 21 [(0,BJ a),(1,dI z_.1),(5,dI z_.2)] []
def AqC(a:ASH):=Sum.elim (λ(b:Int)=>xR 21 [(1,dI b),(4,dI (-1))] []) (λ(c:Int)=>xE 0 21 [(1,dI c)] [])
def IE(a:ASH)(d e:Int):ATV (AS7⊕(Int⊕Int)):=
 bif decide (e<(a.length:Int))then
 if 0<=e/\e<a.length then
 bif (a.getD e.toNat ATE.zero) !=d then
 some (.inr (.inl d))
 else
 some (.inl (wI (d+1),wI (e+1)))
 else none
 else
 some (.inr (.inr d))
def Dy a (z_:Int×Int):=IE a z_.1 z_.2
def Qn a d e:=fix (Dy a) (d,e)
theorem AuR a:A3 AoP 0 2 (code f36) 26 (Asz a) (Dy a) (AqC a):=by
 intro _;simp only[Dy,IE,ASr];kernel_rfl
def Iq(a:ASH)(g:Int):ATV Int:=
 (Qn a g 0).bind (Sum.elim (λb=>some (-1)) (λc=>some c))
def c36:=Ci [.d ATJ,.d ATE] [⟨[.AB [] ATJ,.AB [] ATE],[],Int,λp=>Iq p.1.1 p.1.2.1,λr=>(dI r,[])⟩]
theorem Ak4:Ao prog 36 c36:=Av (fn:=f36) ⟨⟨AoP,pk trivial,λ_ R K=>by
 simp(disch:=refine id ?_;kernel_rfl) only[Iq,ASs,Qn,AF (AuR _) (K:=A0 AoP f36 0 R K)];kernel_rfl⟩,trivial⟩
abbrev tT:=eN [(6,c6),(7,c7),(10,c10),(11,c11),(15,c15),(16,c16),(18,c18),(19,c19),(23,c23),(25,c25),(28,c28),(29,c29),(32,c32),(33,c33),(34,c34),(35,c35),(36,c36)] {Bw:=[(17,{A7:=[0,1,5,8,9,10,11,12,13,14,66],O4:=[(8,false,ATJ)]}),(29,[0,1,5,8,9,13,103]),(40,{A7:=[13,16,133],O4:=[(13,false,ATJ)]})],Da:=[(17,[0,1,5,8,9,10,11,12,13,14]),(29,[0,1,5,8,9,13,14,15]),(40,[8,9,13,16,18,19])],iI:=[(37,ATK),(39,ATL),(41,An),(69,ATK),(74,ATL),(79,An),(117,ATK),(119,ATL),(121,An)]}
def AsC a b c d e g:=sT 142 [(8,BJ a),(9,dI b),(13,.AG 0),(16,dI c),(18,.AG 1),(19,dI d)] [Ay e,Ay g]
def AqF(a:ASH)(b:Int) c (d:Int) e (g:ASH):=λ(i:Bool)=>xN 142 [(13,BJ e),(16,dI c),(133,dB i)] []
def JC(a:ASH)(b c d:Int)(e g:ASH):ATV Bool:=
 (Jb g a).bind λj=>bif !j then
 some true
 else
 some (d !=b)
theorem AuU a b c d e g:AQ tT 0 40 (code f5) 4294967292 (AsC a b c d e g) (JC a b c d e g) (AqF a b c d e g):=by
 unfold AQ;simp only[JC,ASr];kernel_rfl
def AsB k l n o q s t u:=sT 142 [(0,Ar k),(1,Bb l),(5,Aq),(8,BJ o),(9,dI q),(13,.AG 1),(14,dI s),(15,dI t)] [.box (G0 n),Ay u]
def AqE k l n o q (s:Int) (t:Int) u:=λ(v:Bool)=>xN 142 [(0,Ar k),(1,Bb l),(5,Aq),(8,BJ o),(9,dI q),(13,.AG 1),(103,dB v)] [.box (G0 n),Ay u]
def JB(k:ASL)(l:ASN)(n:ASD)(o:ASH)(q s t:Int)(u:ASH):ATV Bool:=
 bif decide (t<0)then
 some true
 else
 (Jb u o).bind λw=>bif !w then
 some true
 else
 some (s !=q)
theorem AuT k l n o q s t u:AQ tT 0 29 (code f5) 16777212 (AsB k l n o q s t u) (JB k l n o q s t u) (AqE k l n o q s t u):=by
 unfold AQ;simp only[JB,ASr];kernel_rfl
def AsA k l n x y a1 b1 c1 d1 e1:=sT 142 [(0,Ar k),(1,Bb l),(5,Aq),(8,.AG 1),(9,dI b1),(10,.AG 2),(11,.AG 3),(12,Qy),(13,.AG 5),(14,dI c1)] [.box (G0 n),Ay d1,W0 x,MP y,.box xT,Ay e1,Ib a1]
def AqD k l n x y a1 b1 c1 d1 e1:=λ(g1:Bool)=>xN 142 [(0,Ar k),(1,Bb l),(5,Aq),(8,BJ d1),(9,dI b1),(10,.AG 1),(11,.AG 2),(12,Nz),(13,.AG 4),(14,dI c1),(66,dB g1)] [.box (G0 n),W0 x,MP y,.box ZW,Ay e1,Ib a1]
def JA(k:ASL)(l:ASN)(n:ASD)(x:ASL)(y:ASN)(a1:ASP)(b1 c1:Int)(d1 e1:ASH):ATV Bool:=
 (Jb e1 d1).bind λi1=>bif !i1 then
 some true
 else
 some (c1 !=b1)
theorem AuS k l n x y a1 b1 c1 d1 e1:AQ tT 0 17 (code f5) 65532 (AsA k l n x y a1 b1 c1 d1 e1) (JA k l n x y a1 b1 c1 d1 e1) (AqD k l n x y a1 b1 c1 d1 e1):=by
 unfold AQ;simp only[JA,ASr];kernel_rfl
def N4(k:ASL)(l:ASN)(n:ASD):ATV Bool:=
 (Vf k 1048576).bind λj1=>bif decide (j1<0)then
 some true
 else
 (PN l j1).bind λk1=>bif decide (k1<0)then
 some true
 else
 (QI n k1).bind λl1=>bif decide (l1<0)then
 some true
 else
 (IR k).bind λn1=>(Ew l).bind λo1=>(G2 n).bind λq1=>(XT n1 o1 (q1,())).bind λs1=>(IR k).bind λx=>(Ew l).bind λy=>(G2 n).bind λa1=>(Vw x y (a1,())).bind λt1=>(JA k l n x y a1 s1.1 t1.1 s1.2 t1.2).bind λg1=>bif g1 then
 some false
 else
 (IR k).bind λu1=>(Vd x u1).bind λv1=>bif !v1 then
 some false
 else
 (Ew l).bind λw1=>(PL y w1).bind λx1=>bif !x1 then
 some false
 else
 (G2 n).bind λy1=>(Nb (a1,()) (y1,())).bind λa2=>bif !a2 then
 some false
 else
 (Nc 1 x).bind λb2=>(IG b2.1 y).bind λc2=>(Ph c2.1 a1).bind λd2=>(JB k l n s1.2 s1.1 t1.1 d2.1 t1.2).bind λv=>bif v then
 some false
 else
 (Mg 1 t1.2).bind λe2=>(Iq e2.2 1).bind λg2=>bif decide (g2<0)then
 some false
 else
 bif g2 !=e2.1 then
 some false
 else
 (IR k).bind λi2=>(Ew l).bind λj2=>(G2 n).bind λk2=>(Vw i2 j2 (k2,())).bind λl2=>(JC s1.2 s1.1 e2.1 l2.1 e2.2 l2.2).bind λi=>bif i then
 some false
 else
 (Iq e2.2 1).bind λn2=>bif decide (n2<0)then
 some false
 else
 bif n2 !=e2.1 then
 some false
 else
 some true
theorem laws_FnExactTied_run R (k:ASL) (l:ASN) (n:ASD) K:T6 tT f5 R [Ar k,Bb l,G0 n] [] K=(N4 k l n).bind λr=>K (dB r) []:=by
 simp(disch:=refine id ?_;kernel_rfl) only[N4,ASs,Ba (AuS ..) (K:=A0 tT f5 0 R K),Ba (AuT ..) (K:=A0 tT f5 0 R K),Ba (AuU ..) (K:=A0 tT f5 0 R K)];kernel_rfl
theorem laws_FnExactTied_ok:JM prog tT:=(pk ⟨Avy,Avz,AkN,AkO,AkT,AkV,AkW,AkX,AaQ,AaR,AaS,Ak1,Ak2,Ak3,AaT,qO,Ak4,trivial⟩)
end
end Go.Proofs.X
namespace Go.Va
def Az{A:Type}(x:ATV A)(Q:A->Prop):Prop:=∃a,x=some a/\Q a
section
variable {A B S T:Type} {x y:ATV A} {P Q:A->Prop}
theorem Az.mk{a:A}(h:Q a):Az (some a) Q:=⟨a,rfl,h⟩
theorem Az.of{a:A}(h:x=some a)(hq:Q a):Az x Q:=⟨a,h,hq⟩
theorem Az.eq_{a:A}(h:Az x (·=a)):x=some a:=by obtain⟨b,h1,h2⟩:=h;rw[h1,h2]
theorem Az.mono(h:Az x P)(hq:∀a,P a->Q a):Az x Q:=by obtain⟨a,h1,h2⟩:=h;exact⟨a,h1,hq a h2⟩
theorem Az.bind{R:B->Prop}{f:A->ATV B}(h:Az x P)(k:∀a,P a->Az (f a) R):Az (x.bind f) R:=by
 obtain⟨a,h1,h2⟩:=h;rw[h1];exact k a h2
theorem Az.cond{c:Bool}(h1:c=true->Az x Q)(h2:c=false->Az y Q):Az (bif c then x else y) Q:=by
 grind
theorem Az.ite{c:Prop}[Decidable c](hc:c)(h:Az x Q):Az (if c then x else none) Q:=by grind
theorem Az.elim{R:B->Prop}{C D:Type}{f:C->ATV B}{g:D->ATV B}{z:C⊕D}(h1:∀c,z=.inl c->Az (f c) R)(h2:∀d,z=.inr d->Az (g d) R):Az (Sum.elim f g z) R:=by
 grind
theorem Bu{f:S->ATV (S⊕T)}(I:Nat->S->Prop){Q:T->Prop}(step:∀n s,I n s->Az (f s) λr=>match r with |.inl s'=>∃m,m<n/\I m s' |.inr t=>Q t):∀n s,I n s->Az (fix f s) Q:=by
 intro n;induction n using Nat.strongRecOn with
 |_ n ih =>
  intro s hI;obtain⟨r,h1,h2⟩:=step n s hI;cases r with
  |inl s' =>
   obtain⟨m,hm,hI'⟩:=h2;rw[Li h1];exact ih m hm s' hI'
  |inr t=>exact⟨t,Ix h1,h2⟩
theorem Abf{f:S->ATV (S⊕T)}(st:Nat->S){t:T}:∀(n k:Nat),(∀i,k<=i->i<k+n->f (st i)=some (.inl (st (i+1))))->f (st (k+n))=some (.inr t)->fix f (st k)=some t
 |0,k,_,he=>Ix he
 |n+1,k,hs,he=>by
  rw[Li (hs k (AQl _) (by omega))];exact Abf st n _ (λi h1 h2=>hs i (by omega) (by omega)) (by grind)
theorem AP{f:S->ATV (S⊕T)}(st:Nat->S){t:T}(n:Nat)(hs:∀i,i<n->f (st i)=some (.inl (st (i+1))))(he:f (st n)=some (.inr t)):fix f (st 0)=some t :=
 Abf st n 0 (λi _ h=>hs i (by omega)) (by grind)
end
theorem BH{x:Int}(h1:-9223372036854775808<=x:=by omega)(h2:x<9223372036854775808:=by omega):wI x=x:=by
 simp only[wI,IntKind.wrap,IntKind.bits,IntKind.signed];simp;omega
theorem tw{x:Int}(h1:0<=x)(h2:x<18446744073709551616):IntKind.u64.wrap x=x:=by
 simp only[wI,IntKind.wrap,IntKind.bits,IntKind.signed];simp;omega
theorem qb{k n:Nat}(hk:k<n)(hn:n<=maxLen):wI ((k:Int)+1)=((k+1:Nat):Int):=by
 unfold maxLen at hn;rw[BH];omega
def Y7{A:Type}(F:A->A->ATV Bool)(a:A):Prop:=∀b,Az (F a b) λr=>r=true↔a=b
theorem Abe{A:Type}{F:A->A->ATV Bool}{z:A}{a b:ATU A}(hl:a.length=b.length)(hn:a.length<=maxLen)(hF:∀x∈a,Y7 F x){f:Int->ATV (Int⊕(Unit⊕Unit))}
    (hs:∀k:Nat,k<a.length->f (k:Int)=(F (a.getD k z) (b.getD k z)).bind λr=>bif !r then some (.inr (.inl ()))else some (.inl (wI ((k:Int)+1)))) (he:f (a.length:Int)=some (.inr (.inr ()))) :
    Az (fix f 0) λt=>(t=.inr ()/\a=b)\/(t=.inl ()/\a≠b):=by
 refine Bu (λm (i:Int)=>∃k:Nat,i=(k:Int)/\k<=a.length/\m=a.length-k/\a.take k=b.take k) (λm i hI=>?_) (a.length) 0 ⟨0,rfl,AQ1 _,rfl,rfl⟩;obtain⟨k,rfl,hk,rfl,ht⟩:=hI;rcases AQq k a.length with h |h
 ·rw[hs k h];have ha:a.getD k z=a[k]:=by grind
  have hb:b.getD k z=b[k]'(by omega):=by grind
  refine Az.bind (hF (a.getD k z) (by grind) (b.getD k z)) λr hr=>?_;cases r with
  |false =>
   refine Az.mk (.inr ⟨rfl,λe=>?_⟩)
   grind
  |true =>
   have e:=hr.1 rfl;refine Az.mk ⟨a.length-(k+1),by omega,k+1,qb h hn,h,rfl,?_⟩;rw[AQ9 h,AQ9 (show k<b.length by omega),ht,<-ha,<-hb,e]
 ·have X0:k=a.length:=by omega
  subst X0;rw[he];refine Az.mk (.inl ⟨rfl,?_⟩)
  grind
end Go.Va
namespace Go.Va
theorem C9{k n:Nat}(h:k<n):decide ((k:Int)<(n:Int))=true:=by grind
theorem DU(n:Nat):decide ((n:Int)<(n:Int))=false:=by simp
theorem Bj{k n:Nat}(h:k<n):(0:Int)<=(k:Int)/\(k:Int)<(n:Int):=⟨by omega,by omega⟩
theorem fF{A:Type}{F:A->A->ATV Bool}{z:A}{G:ATU A->ATU A->ATV Bool}{r:ATU A->ATU A->Int->ATV (Int⊕(Unit⊕Unit))}
    (hG:∀a b,G a b=bif (a.length:Int) !=(b.length:Int)then some false else(fix (r a b) 0).bind (Sum.elim (λ_=>some false) λ_=>some true))
    (hr:∀a b i,r a b i=bif decide (i<(a.length:Int))then(if(0:Int)<=i/\i<(a.length:Int)then(if(0:Int)<=i/\i<(b.length:Int)then
     (F (a.getD i.toNat z) (b.getD i.toNat z)).bind λq=>bif !q then some (.inr (.inl ()))else some (.inl (wI (i+1)))else none)else none)else some (.inr (.inr ())))
    {a:ATU A} (hn:a.length<=maxLen) (hF:∀x∈a,Y7 F x):Y7 G a:=by
 intro b;rw[hG];refine Az.cond (λh=>Az.mk ⟨λh=>by grind,λe=>?_⟩) λh=>?_
 ·grind
 ·have hl:a.length=b.length:=by
    grind
  refine Az.bind (Abe (z:=z) hl hn hF (λk hk=>?_) ?_) λt ht=>?_
  ·grind
  ·grind
  ·rcases ht with ⟨rfl,e⟩|⟨rfl,e⟩
   ·exact Az.mk ⟨λ_=>e,λ_=>rfl⟩
   ·exact Az.mk ⟨λh=>by grind,λh=>(e h).elim⟩
end Go.Va
namespace Go.Proofs.X
open Go Go.Va
set_option maxRecDepth 100000
theorem XX(s t:ByteArray):Jn s t=true↔s=t:=by
 unfold Jn;rw[ByteArray.toList_eq,ByteArray.toList_eq,ARm];constructor
 ·intro h;cases s with
  |mk a=>cases t with
   |mk b=>simp at h;rw[h]
 ·grind
theorem rm{a:ASH}(hn:a.length<=maxLen):Y7 Rp a :=
 fF   (r:=JD) (λ_ _=>rfl) (λ_ _ _=>rfl) hn λx _ y=>Az.mk (by simp)
theorem gF{a:ASH}(hn:a.length<=maxLen):Y7 Jb a :=
 fF   (r:=KI) (λ_ _=>rfl) (λ_ _ _=>rfl) hn λx _ y=>Az.mk (by simp)
theorem AcR{a:ASA}(h:Ty.Wf Ai a):Y7 WH a:=by
 intro b;obtain⟨w,ws,_⟩:=a;obtain⟨w',mY,_⟩:=b;refine Az.cond (λh1=>Az.mk (by grind)) λh1=>Az.bind (rm h.2.1.1 mY) λr hr=>Az.cond (λh2=>Az.mk (by grind)) λh2=>Az.mk (by grind)
theorem AcS(a:ASv):Y7 (λx y=>some (QH x y)) a:=by
 intro b;obtain⟨n,w,_⟩:=a;obtain⟨n',w',_⟩:=b;refine Az.mk ?_;simp[QH,XX]
theorem zg{a:ASL}(h:Ty.Wf ATK a):Y7 Vd a :=
 fF   (r:=Mf) (λ_ _=>rfl) (λ_ _ _=>rfl) h.1 λx hx=>AcS x
theorem zh{a:ASz}(h:Ty.Wf Ah a):Y7 Ve a:=by
 intro b;obtain⟨o,v,A,B,x,k,_⟩:=a;obtain⟨o',v',A',B',x',k',_⟩:=b;refine Az.cond (λh1=>Az.mk (by grind)) λh1=>Az.cond (λh2=>Az.mk (by grind)) λh2=>Az.cond (λh3=>Az.mk (by grind)) λh3=>Az.cond (λh3=>Az.mk (by grind)) λh5 =>
  Az.bind (AcR h.2.2.2.2.1 x') λr hr=>Az.cond (λh4=>Az.mk (by grind)) λh4=>Az.bind (gF h.2.2.2.2.2.1.1 k') λr2 hr2=>Az.cond (λh6=>Az.mk (by grind)) λh6=>Az.mk (by grind)
theorem vd{a:ASP}(h:Ty.Wf ATQ a):Y7 Tw a :=
 fF    (λ_ _=>rfl) (λ_ _ _=>rfl) h.1 λx hx=>zh (h.2 x hx)
theorem fG{a:ASD}(h:Ty.Wf An a):Y7 Nb a:=by
 intro b;obtain⟨n,_⟩:=a;obtain⟨n',_⟩:=b;refine Az.bind (vd h.1 n') λr1 gQ=>Az.cond (λh1=>Az.mk (by grind)) λh1=>Az.mk (by grind)
theorem rl{a:ASx}(h:Ty.Wf Af a):Y7 Ro a:=by
 intro b;obtain⟨i,e,s,t,_⟩:=a;obtain⟨i',e',s',t',_⟩:=b;refine Az.cond (λh1=>Az.mk (by grind)) λh1=>Az.cond (λh2=>Az.mk (by grind)) λh2 =>
  Az.bind (fG h.2.2.1 s') λr hr=>Az.cond (λh4=>Az.mk (by grind)) λh4=>Az.bind (fG h.2.2.2.1 t') λr2 hr2=>Az.cond (λh6=>Az.mk (by grind)) λh6=>Az.mk (by grind)
theorem nq{a:ASN}(h:Ty.Wf ATL a):Y7 PL a :=
 fF    (λ_ _=>rfl) (λ_ _ _=>rfl) h.1 λx hx=>rl (h.2 x hx)
end Go.Proofs.X
namespace Go.Va
open Go.Proofs.X
def wt:(t:Ty)->t.V->Nat
 |.str,s=>s.size
 |.AH a b,x=>wt a x.1+wt b x.2
 |.sl t,xs=>xs.length+(xs.map (wt t)).sum
 |.int _,_=>0
 |.bool,_=>0
 |.unit,_=>0
 |.Sp _,_=>0
def iF(t:Ty)(F:t.V->Int->ATV Int)(x:t.V):Prop:=∀left:Int,0<=left->left<=1048576->F x left=some (if(wt t x:Int)<=left then left-(wt t x:Int)else -1)
theorem Aak{t:Ty}{F:t.V->Int->ATV Int}{z:t.V}{G:ATU t.V->Int->ATV Int}{r:ATU t.V->Int×Int->ATV (AS7⊕(Int⊕Int))}
    (hG:∀a left,G a left=bif decide ((wI (left-(a.length:Int)))<0)then some (-1)else(fix (r a) (wI (left-(a.length:Int)),0)).bind (Sum.elim (λ_=>some (-1)) λy=>some y))
    (hr:∀a x,r a x=bif decide (x.2<(a.length:Int))then(if(0:Int)<=x.2/\x.2<(a.length:Int)then
     (F (a.getD x.2.toNat z) x.1).bind λq=>bif decide (q<0)then some (.inr (.inl q))else some (.inl (q,wI (x.2+1)))else none)else some (.inr (.inr x.1)))
    {a:ATU t.V} (hn:a.length<=maxLen) (hF:∀x∈a,iF t F x):iF (.sl t) G a:=by
 intro left h0 h1;have hm:maxLen=140737488355327\/True:=.inr trivial;have hw:wI (left-(a.length:Int))=left-(a.length:Int):=by unfold maxLen at hn;exact BH
 rw[hG,hw];have hwt:wt (.sl t) a=a.length+(a.map (wt t)).sum:=rfl;rw[hwt];by_cases AGF:left-(a.length:Int)<0
 ·rw[show decide (left-(a.length:Int)<0)=true by simpa using AGF,AQv,Q4]
 ·rw[show decide (left-(a.length:Int)<0)=false by simpa using AGF,AQu];have key:Az (fix (r a) (left-(a.length:Int),0)) λy=>(∃q,y=.inl q/\left<((a.length+(a.map (wt t)).sum:Nat):Int))\/y=.inr (left-((a.length+(a.map (wt t)).sum:Nat):Int))/\((a.length+(a.map (wt t)).sum:Nat):Int)<=left:=by
   refine Bu (λm (x:Int×Int)=>∃k:Nat,x.2=(k:Int)/\k<=a.length/\m=a.length-k/\x.1=left-(a.length:Int)-(((a.take k).map (wt t)).sum:Nat)/\0<=x.1) (λm x hI=>?_) a.length _ ⟨0,rfl,AQ1 _,rfl,by simp,by show 0<=left-(a.length:Int);omega⟩;obtain⟨l,i⟩:=x;obtain⟨k,hk1,hk,rfl,hl,jk⟩:=hI;simp only at hk1 hl jk;subst hk1;rw[hr];simp only;rcases AQq k a.length with h |h
   ·rw[C9 h,AQv,AQx (Bj h)];have ha:a.getD k z=a[k]:=by simp[List.getD,h]
    have AhQ:((a.take (k+1)).map (wt t)).sum=((a.take k).map (wt t)).sum+wt t a[k]:=by
     rw[AQ9 h,AQY,AR4];simp
    have AKJ:((a.take (k+1)).map (wt t)).sum<=(a.map (wt t)).sum:=by
     conv=>rhs;rw[<-ARp (k+1) a,AQY,AR4]
     omega
    rw[show(k:Int).toNat=k from AQg k,ha,hF _ (AQX h) l jk (by omega),AQf];split
    ·rename_i Tl;rw[show decide (l-(wt t a[k]:Int)<0)=false by simpa using Tl,AQu];exact Az.mk ⟨a.length-(k+1),by omega,k+1,qb h hn,h,rfl,by rw[AhQ,hl];push_cast;omega,by show 0<=l-_;omega⟩
    ·rename_i hgt;refine Az.mk (.inl ⟨_,rfl,?_⟩)
     push_cast
     rw[AhQ]at AKJ;omega
   ·have X0:k=a.length:=by omega
    subst X0;rw[DU,AQu];rw[AQp (AQl _)]at hl;exact Az.mk (.inr ⟨by rw[hl];push_cast;rw[Int.sub_sub],by push_cast;omega⟩)
  obtain⟨y,hy,hq⟩:=key;rw[hy];rcases hq with ⟨q,rfl,Bp⟩|⟨rfl,Tl⟩
  ·rw[Q4];rfl
  ·rw[AQx Tl];rfl
end Go.Va
namespace Go.Proofs.X
open Go Go.Va
theorem AbT{A:Type}{xs:ATU A}{left:Int}(h0:0<=left)(h1:left<=1048576)(hn:xs.length<=maxLen):(bif decide ((wI (left-(xs.length:Int)))<0)then(-1)else wI (left-(xs.length:Int)))=if(xs.length:Int)<=left then left-(xs.length:Int)else -1:=by
 unfold maxLen at hn;rw[BH]
 grind
theorem xp{A:Type}{f:A->Nat}(h:∀x,f x=0)(xs:ATU A):(xs.map f).sum=0:=by
 induction xs with
 |nil=>rfl
 |cons x xs ih=>grind
theorem Aaw(a:ASH):wt ATO a=a.length:=congrArg _ (xp (λ_=>rfl) a)
theorem Aav(a:ASH):wt ATJ a=a.length:=congrArg _ (xp (λ_=>rfl) a)
theorem ta{a:ASH}(hn:a.length<=maxLen):iF ATO (λx l=>some (Dm x l)) a:=λleft h0 h1=>by
 show some _=_;rw[Dm,AbT h0 h1 hn,Aaw]
theorem xq{a:ASH}(hn:a.length<=maxLen):iF ATJ (λx l=>some (DT x l)) a:=λleft h0 h1=>by
 show some _=_;rw[DT,AbT h0 h1 hn,Aav]
end Go.Proofs.X
namespace Go.Va
open Go.Proofs.X
section
variable {A B:Type} {Q:A->Prop} {x y:ATV A}
theorem T5{a:A}:Az (some a) Q↔Q a:=⟨λ⟨_,h,q⟩=>by grind,λh=>⟨a,rfl,h⟩⟩
end
theorem BW{X S T:Type}{f:X->ATV (X⊕T)}(st:Nat->S->X)(n:Nat)(I:Nat->S->Prop){Q:T->Prop}
    (h:∀k s,k<n->I k s->Az (f (st k s)) λr=>match r with |.inl x=>∃s',x=st (k+1) s'/\I (k+1) s' |.inr t=>Q t)
    (he:∀s,I n s->Az (f (st n s)) λr=>match r with |.inl _=>False |.inr t=>Q t) {s0:S} (h0:I 0 s0):Az (fix f (st 0 s0)) Q:=by
 refine Bu (λm x=>∃k s,x=st k s/\k<=n/\m=n-k/\I k s) (λm x hI=>?_) n _ ⟨0,s0,rfl,AQ1 _,rfl,h0⟩;obtain⟨k,s,rfl,hk,rfl,hI⟩:=hI;rcases AQq k n with Bp |aS
 ·refine(h k s Bp hI).mono λr hr=>?_;cases r with
  |inl x =>
   obtain⟨s',rfl,hI'⟩:=hr;exact⟨n-(k+1),by omega,k+1,s',rfl,Bp,rfl,hI'⟩
  |inr t=>grind
 ·have:k=n:=by omega
  subst this;refine(he s hI).mono λr hr=>?_
  grind
def QR(x:Int):Prop:=0<=x/\x<18446744073709551616
def tb(x:Int)(j:Nat):Bool:=x.toNat.testBit j
theorem QR.toNat{x:Int}(h:QR x):x.toNat<2^64:=by unfold QR at h;omega
theorem QR.of{n:Nat}(h:n<2^64):QR (n:Int):=by unfold QR;omega
theorem aH{x:Int}(h:QR x){j:Nat}(hj:64<=j):tb x j=false :=
 Nat.testBit_lt_two_pow (AQR h.toNat (Nat.pow_le_pow_right (by decide) hj))
theorem QR.ext{x y:Int}(hx:QR x)(hy:QR y)(h:∀j,j<64->tb x j=tb y j):x=y:=by
 have :=Nat.eq_of_testBit_eq λj=>by
  rcases AQq j 64 with hj |hj
  ·exact h j hj
  ·exact(aH hx hj).trans (aH hy hj).symm
 unfold QR at hx hy;omega
theorem mH{n:Nat}(h:n<2^64):IntKind.u64.wrap (n:Int)=(n:Int):=tw (by omega) (by omega)
theorem WQ{x:Int}(h:QR x):(BitVec.ofInt 64 x).toNat=x.toNat:=by
 unfold QR at h;simp;omega
theorem Ait{a b:Int}(ha:QR a)(hb:QR b):gg .u64 a b=((a.toNat ||| b.toNat:Nat):Int):=by
 show IntKind.u64.wrap (((BitVec.ofInt 64 a ||| BitVec.ofInt 64 b).toNat))=_;rw[mH (BitVec.isLt _),BitVec.toNat_or,WQ ha,WQ hb]
theorem AaI{a b:Int}(ha:QR a)(hb:QR b):fq .u64 a b=((a.toNat &&& b.toNat:Nat):Int):=by
 show IntKind.u64.wrap (((BitVec.ofInt 64 a &&& BitVec.ofInt 64 b).toNat))=_;rw[mH (BitVec.isLt _),BitVec.toNat_and,WQ ha,WQ hb]
theorem mD{a b:Int}(ha:QR a)(hb:QR b):QR (gg .u64 a b):=by
 rw[Ait ha hb];exact .of (Nat.or_lt_two_pow ha.toNat hb.toNat)
theorem AbZ{a b:Int}(ha:QR a)(hb:QR b):QR (fq .u64 a b):=by
 rw[AaI ha hb];exact .of (Nat.and_lt_two_pow _ hb.toNat)
theorem xu{a b:Int}(ha:QR a)(hb:QR b)(j:Nat):tb (gg .u64 a b) j=(tb a j||tb b j):=by
 rw[Ait ha hb,tb,AQg,Nat.testBit_or];rfl
theorem Ajp{a b:Int}(ha:QR a)(hb:QR b)(j:Nat):tb (fq .u64 a b) j=(tb a j&&tb b j):=by
 rw[AaI ha hb,tb,AQg,Nat.testBit_and];rfl
theorem AbP{a:Int}(ha:QR a){s:Int}{n:Nat}(hs:s=(n:Int))(hn:n<=64):T8 .u64 a s=((a.toNat/2^n:Nat):Int):=by
 subst hs;unfold QR at ha;obtain⟨m,rfl⟩:∃m:Nat,a=m:=⟨a.toNat,by omega⟩;have h:T8 .u64 _ n=Int.fdiv m (2^min _ 64):=rfl
 grind
theorem eU{a:Int}(ha:QR a){s:Int}{n:Nat}(hs:s=(n:Int))(hn:n<=64):QR (T8 .u64 a s):=by
 rw[AbP ha hs hn];exact .of (Nat.lt_of_le_of_lt (Nat.div_le_self _ _) ha.toNat)
theorem cH{a:Int}(ha:QR a){s:Int}{n:Nat}(hs:s=(n:Int))(hn:n<=64)(j:Nat):tb (T8 .u64 a s) j=tb a (j+n):=by
 rw[AbP ha hs hn,tb,AQg,Nat.testBit_div_two_pow,tb]
theorem sP{a:Int}(ha:QR a){s:Int}{n:Nat}(hs:s=(n:Int))(hn:n<=64):N5 .u64 a s=((a.toNat*2^n%18446744073709551616:Nat):Int):=by
 subst hs;unfold QR at ha;obtain⟨m,rfl⟩:∃m:Nat,a=m:=⟨a.toNat,by omega⟩;have h:N5 .u64 _ n=IntKind.u64.wrap (m*2^min _ 64):=rfl;have hw:∀x ,IntKind.u64.wrap x=x%18446744073709551616:=λx=>by simp[IntKind.wrap,IntKind.bits,IntKind.signed]
 grind
theorem jB{a:Int}(ha:QR a){s:Int}{n:Nat}(hs:s=(n:Int))(hn:n<=64):QR (N5 .u64 a s):=by
 rw[sP ha hs hn];exact .of (Nat.mod_lt _ (by omega))
theorem tg{a:Int}(ha:QR a){s:Int}{n:Nat}(hs:s=(n:Int))(hn:n<=64)(j:Nat):tb (N5 .u64 a s) j=(decide (j<64)&&(decide (n<=j)&&tb a (j-n))):=by
 rw[sP ha hs hn,tb,AQg,show 18446744073709551616=2^64 from by decide,Nat.testBit_mod_two_pow,Nat.testBit_mul_two_pow,tb]
theorem Yt(j:Nat):tb 0 j=false:=by simp[tb]
theorem ZU:QR 0:=by unfold QR;omega
theorem Yx:QR 1:=by unfold QR;omega
theorem AbD{s:Int}{n:Nat}(hs:s=(n:Int))(hn:n<64):IntKind.u64.wrap (N5 .u64 1 s-1)=((2^n-1:Nat):Int):=by
 have h1 :=Nat.two_pow_pos n;have h2:2^n<2^64:=Nat.pow_lt_pow_right (by decide) hn;rw[sP Yx hs (by omega)];rw[show(1:Int).toNat*2^n%18446744073709551616=2^n by grind];rw[show((2^n:Nat))-1=((2^n-1:Nat):Int) by omega];exact mH (by omega)
theorem Ajv{s:Int}{n:Nat}(hs:s=(n:Int))(hn:n<64):QR (IntKind.u64.wrap (N5 .u64 1 s-1)):=by
 have h2:2^n<2^64:=Nat.pow_lt_pow_right (by decide) hn;rw[AbD hs hn];exact .of (by omega)
theorem AmQ{s:Int}{n:Nat}(hs:s=(n:Int))(hn:n<64)(j:Nat):tb (IntKind.u64.wrap (N5 .u64 1 s-1)) j=decide (j<n):=by
 rw[AbD hs hn,tb,AQg,Nat.testBit_two_pow_sub_one]
theorem Aam(j:Nat):tb 1 j=decide (j=0):=by
 show Nat.testBit 1 j=_;cases j with
 |zero=>rfl
 |succ j=>grind
theorem oO{a:Int}(ha:QR a):fq .u64 a 1=if tb a 0 then 1 else 0:=by
 refine QR.ext (AbZ ha Yx) (by split<;>first |exact Yx |exact ZU) λj _=>?_
 rw[Ajp ha Yx];by_cases h:j=0
 ·subst h;cases h:tb a 0<;>simp[Yt]
 ·cases h':tb a 0<;>simp[Aam,Yt,h]
def CW(ws:ASH):Prop:=∀x∈ws,QR x
def bt(ws:ASH)(i:Nat):Bool:=tb (ws.getD (i/64) 0) (i%64)
theorem CW.getD{ws:ASH}(h:CW ws)(k:Nat):QR (ws.getD k 0):=by
 rcases AQq k _ with hk |hk
 ·rw[show ws.getD k 0=ws[k] by grind];exact h _ (AQX hk)
 ·rw[show ws.getD k 0=0 by grind];exact ZU
theorem CW.set{ws:ASH}(h:CW ws){k:Nat}{x:Int}(hx:QR x):CW (ws.set k x):=λy hy=>by
 rcases List.mem_or_eq_of_mem_set hy with h' |rfl
 ·exact h y h'
 ·grind
theorem CW.rep{n:Nat}:CW (List.replicate n 0):=λx hx=>by rw[(List.mem_replicate.1 hx).2];exact ZU
theorem qM(n i:Nat):bt (List.replicate n 0) i=false:=by
 unfold bt;rw[show(List.replicate n (0:Int)).getD _ 0=0 by grind];exact Yt _
theorem Z3{ws:ASH}{i:Nat}(h:64*ws.length<=i):bt ws i=false:=by
 unfold bt;rw[show ws.getD _ 0=0 by grind];exact Yt _
theorem Zi{ws:ASH}{k:Nat}{x:Int}(hk:k<ws.length)(i:Nat):bt (ws.set k x) i=if i/64=k then tb x (i%64)else bt ws i:=by
 unfold bt
 grind
theorem QN{a b:ASH}(ha:CW a)(hb:CW b)(hl:a.length=b.length)(h:∀i,i<64*a.length->bt a i=bt b i):a=b:=by
 refine ARx hl λk h1 h2=>QR.ext (ha _ (AQX h1)) (hb _ (AQX h2)) λj hj=>?_;have:=h (64*k+j) (by omega);unfold bt at this
 grind
def pk(f:Nat->Bool):Nat->Nat
 |0=>0
 |n+1=>(if f n then 2^n else 0)+pk f n
theorem Aix(f:Nat->Bool):∀n,pk f n<2^n
 |0=>by simp[pk]
 |n+1=>by
  have:=Aix f n;unfold pk;split<;>omega
theorem zU(f:Nat->Bool):∀n j,(pk f n).testBit j=(decide (j<n)&&f j)
 |0,j=>by simp[pk]
 |n+1,j=>by
  have hl:=Aix f n;unfold pk;cases hf:f n with
  |false =>
   simp only[AQ6,ARH,AQL,zU f n j]
   grind
  |true =>
   simp;rcases Nat.lt_trichotomy j n with h |h |h
   ·rw[Nat.testBit_two_pow_add_gt h,zU f n j];simp[h];omega
   ·subst h;rw[Nat.testBit_two_pow_add_eq,Nat.testBit_lt_two_pow hl];simp[hf]
   ·rw[Nat.testBit_lt_two_pow (AQR (show 2^n+pk f n<2^(n+1) by omega) (Nat.pow_le_pow_right (by decide) h))];simp;omega
def cP(f:Nat->Bool)(m:Nat):ASH:=(List.range m).map λk=>(pk (λj=>f (64*k+j)) 64:Int)
theorem ED(f:Nat->Bool)(m:Nat):(cP f m).length=m:=by simp[cP]
theorem DC(f:Nat->Bool)(m:Nat):CW (cP f m):=λx hx=>by
 obtain⟨k,_,rfl⟩:=List.mem_map.1 hx;exact .of (Aix _ _)
theorem lF(f:Nat->Bool)(m i:Nat):bt (cP f m) i=(decide (i<64*m)&&f i):=by
 rcases AQq i (64*m)with h |h
 ·unfold bt cP;rw[show((List.range m).map _).getD _ 0=(pk (λj=>f (64*(i/64)+j)) 64:Int) by
   grind,tb,AQg,zU,show 64*(i/64)+i%64=i by omega]
  simp[h];omega
 ·rw[Z3 (by rw[ED];exact h)];simp;omega
theorem Ajx{ws:ASH}(h:CW ws){f:Nat->Bool}(hf:∀i,i<64*ws.length->bt ws i=f i):ws=cP f ws.length :=
 QN h (DC _ _) (ED _ _).symm λi hi=>by rw[hf i hi,lF];simp[hi]
theorem Adr{f g:Nat->Bool}{m:Nat}(h:∀i,i<64*m->f i=g i):cP f m=cP g m :=
 QN (DC _ _) (DC _ _) (by rw[ED,ED]) λi hi=>by rw[ED]at hi;rw[lF,lF,h i hi]
def low(f:Nat->Bool)(n:Nat):Nat->Bool:=λi=>decide (i<n)&&f i
def nw(n:Nat):Nat:=(n+63)/64
end Go.Va
namespace Go.Proofs.X
open Go Go.Va
set_option maxRecDepth 100000
theorem cJ{i:Nat}(h:i<4611686018427387904):wI (Int.tdiv (i:Int) 64)=((i/64:Nat):Int):=by
 rw[Int.tdiv_eq_ediv_of_nonneg (by omega),BH];omega
theorem Xj(i:Nat):Int.tmod (i:Int) 64=((i%64:Nat):Int):=by
 grind
theorem aK{n:Nat}(h:n<=1048576):wI (Int.tdiv (wI ((n:Int)+63)) 64)=((nw n:Nat):Int):=by
 rw[BH (x:=n+63),show n+63=((n+63:Nat):Int) by omega,cJ (by omega)];rfl
def mkB(n:Nat)(f:Nat->Bool):ASA:=((n:Int),cP (low f n) (nw n),())
def bI(b:Bool):Int:=if b then 1 else 0
def oq(n:Nat)(ws:ASH):Prop:=1<=n/\n<=4096/\ws.length=nw n/\CW ws/\∀i,n<=i->bt ws i=false
theorem oq.eq{n:Nat}{ws:ASH}(h:oq n ws):ws=cP (low (bt ws) n) (nw n):=by
 obtain⟨_,_,hl,hw,hz⟩:=h
 conv=>lhs;rw[Ajx hw (f:=low (bt ws) n) λi hi=>by
  unfold low
  grind]
 rw[hl]
theorem qK{n:Nat}{f:Nat->Bool}{i:Nat}(hi:i<n):bt (cP (low f n) (nw n)) i=f i:=by
 rw[lF];unfold nw low;simp[hi];omega
theorem EI{n:Nat}{f:Nat->Bool}{i:Nat}:bt (cP (low f n) (nw n)) i=(decide (i<n)&&f i):=by
 by_cases h:i<n
 ·rw[qK h];simp[h]
 ·rw[lF];unfold low;simp[h]
theorem Adq{n:Nat}{f g:Nat->Bool}(h:∀i,i<n->f i=g i):mkB n f=mkB n g:=by
 unfold mkB;rw[Adr λi _=>show low f n i=low g n i by
  unfold low
  grind]
theorem lu{w:Int}{ws:ASH}(hw:CW ws){i:Nat}(hi:i<64*ws.length)(hn:ws.length<=1048576):Jj (w,ws,()) (i:Int)=some (bI (bt ws i)):=by
 unfold Jj;rw[cJ (by omega),Xj,tw (by omega) (by omega)];rw[AQx ⟨by omega,by grind⟩,AQg];show some (IntKind.u8.wrap (fq .u64 (T8 .u64 (ws.getD _ 0) _) 1))=_;rw[show IntKind.u8.wrap _=bI (bt ws i) by
  rw[oO (eU (hw.getD _) rfl (by omega)),cH (hw.getD _) rfl (by omega),AQL];show IntKind.u8.wrap (bI (bt ws i))=_;cases bt ws i<;>rfl]
theorem Ajy{ws:ASH}(h:∀x∈ws,(IntKind.u64).min<=x/\x<=(IntKind.u64).max):CW ws:=λx hx=>by
 have:=h x hx;unfold QR;simp only[IntKind.min,IntKind.max,IntKind.bits,IntKind.signed]at this;simp at this;omega
theorem nZ{w:Int}{ws:ASH}(hw:CW ws)(hn:ws.length<=1048576):Az (Uc (w,ws,())) λr=>r=true↔∃n:Nat,w=(n:Int)/\oq n ws:=by
 refine Az.cond (λh=>Az.mk ?_) λh=>?_
 ·simp
  rintro n rfl ⟨h1,h2,h3,_⟩
  unfold nw at h3;simp only[BL,aK (show n<=1048576 by omega),ARA,ARC,ARS,ARa,ARY]at h;unfold nw at h;omega
 ·have hb :=by
    simp only[BL,ARj,Bool.not_eq_false',AQm,ARv]at h;omega
  obtain⟨n,rfl⟩:∃n:Nat,w=n:=⟨w.toNat,by omega⟩;have hl:ws.length=nw n:=by
   simp only[ARj,ASc]at h;rw[aK (by omega)]at h;omega
  have key:Az (V9 (n,ws,()) n) λt=>(t=.inl ()/\¬∀i,n<=i->bt ws i=false)\/(t=.inr ()/\∀i,n<=i->bt ws i=false):=by
   have Tl:n<=64*ws.length:=by rw[hl];unfold nw;omega
   have hwr:wI (64*ws.length)=((64*ws.length:Nat)):=by
    rw[BH];omega
   refine BW (λk _=>((n+k:Nat):Int)) (64*ws.length-n) (λk _=>∀i,n<=i->i<n+k->bt ws i=false) (λk _ hk hI=>?_) (λ_ hI=>?_) (s0:=()) (λi h1 h2=>by omega)
   ·unfold J7 N6;rw[show wI _=((64*ws.length:Nat))from hwr,C9 (by omega),lu hw (by omega) hn];cases hb:bt ws _ with
    |true=>exact Az.mk (.inl ⟨rfl,λh=>by grind⟩)
    |false =>
     refine Az.mk ⟨(),?_,λi h1 h2=>?_⟩
     ·rw[BH];omega
     grind
   ·unfold J7 N6;rw[show wI _=((64*ws.length:Nat))from hwr,show n+(64*ws.length-n)=64*ws.length by omega,DU];refine Az.mk (.inr ⟨rfl,λi h=>?_⟩);rcases AQq i (64*ws.length)with h' |h'
    ·grind
    ·exact Z3 h'
  refine Az.bind key λt ht=>?_;rcases ht with ⟨rfl,h'⟩|⟨rfl,h'⟩
  ·refine Az.mk ?_;simp;intro m hm hp;obtain rfl:m=n:=by omega
   exact h' hp.2.2.2.2
  ·exact Az.mk ⟨λ_=>⟨n,rfl,by omega,by omega,hl,hw,h'⟩,λ_=>rfl⟩
theorem nK{w:Int}{ws:ASH}(hw:CW ws)(hn:ws.length<=1048576):Az (QD (w,ws,())) λr=>r=true↔∃n:Nat,w=(n:Int)/\oq n ws:=by
 unfold QD Po;refine Az.cond (λh=>Az.mk ?_) λh=>?_
 ·simp only[AQ6,false_iff,not_exists,not_and]
  rintro n rfl ⟨h1,h2,h3,_⟩
  unfold nw at h3;simp only[AW,Cs,aK (show n<=1048576 by omega),ARA,ARC,ARS,ARa,ARY]at h;unfold nw at h;omega
 ·have hb:1<=w/\w<=4096:=by
    simp only[AW,ARj,Bool.not_eq_false',AQm,ARv]at h;omega
  obtain⟨n,rfl⟩:∃n:Nat,w=(n:Int):=⟨w.toNat,by omega⟩;have hl:ws.length=nw n:=by
   simp only[ARj,ASc]at h;have h:=h.2;rw[Cs,aK (by omega)]at h;omega
  have e1:((n:Int),ws,()).1=(n:Int):=rfl;have iff:(∃m:Nat,(n:Int)=(m:Int)/\oq m ws)↔∀i,n<=i->bt ws i=false:=by
   constructor
   ·rintro⟨m,hm,hp⟩
    obtain rfl:n=m:=by omega
    exact hp.2.2.2.2
   ·exact λh=>⟨n,rfl,by omega,by omega,hl,hw,h⟩
  rw[iff];refine Az.cond (λh=>Az.mk ?_) λh=>?_
  ·have h:Int.tmod (n:Int) 64=0:=by simpa using h
   rw[Xj]at h;refine⟨λ_ i hi=>Z3 (by rw[hl];unfold nw;omega),λ_=>rfl⟩
  ·have h:Int.tmod (n:Int) 64≠0:=by simpa using h
   rw[Xj]at h;have BX:0<ws.length:=by rw[hl];unfold nw;omega
   have gN:wI ((ws.length:Int)-1)=((ws.length-1:Nat):Int):=by rw[BH];omega
   have e2:wI (((((n:Int),ws,()):ASA).2.1.length:Int)-1)=((ws.length-1:Nat):Int):=gN;rw[e2,AQx ⟨by omega,by show((ws.length-1:Nat):Int)<(ws.length:Int);omega⟩];rw[show Int.tmod (((n:Int),ws,()):ASA).1 64=((n%64:Nat):Int)from Xj n,Q4,AQg];refine Az.mk ?_;rw[ARm];have nJ:=hw.getD (ws.length-1);have h0:T8 .u64 (ws.getD (ws.length-1) 0) ((n%64:Nat):Int)=0↔∀j,j<64->tb (ws.getD (ws.length-1) 0) (j+n%64)=false :=
    ⟨λe j _=>by rw[<-cH nJ rfl (by omega),e,Yt],λe=>QR.ext (eU nJ rfl (by omega)) ZU λj hj=>by rw[cH nJ rfl (by omega),Yt];exact e j hj⟩
   refine h0.trans ⟨λe i hi=>?_,λe j hj=>?_⟩
   ·rcases AQq i (64*ws.length)with h' |h'
    ·unfold bt;rw[show i/64=ws.length-1 by rw[hl]at h'⊢;unfold nw at *;omega];have:=e (i%64-n%64) (by omega);rwa [show i%64-n%64+n%64=i%64 by rw[hl]at h';unfold nw at *;omega]at this
    ·exact Z3 h'
   ·rcases AQq (j+n%64) 64 with h' |h'
    ·have:=e (64*(ws.length-1)+(j+n%64)) (by rw[hl];unfold nw;omega);unfold bt at this;rwa [show(64*(ws.length-1)+(j+n%64))/64=ws.length-1 by omega,show(64*(ws.length-1)+(j+n%64))%64=j+n%64 by omega]at this
    ·exact aH nJ h'
end Go.Proofs.X
namespace Go.Proofs.X
open Go Go.Va
set_option maxRecDepth 100000
theorem Ab3(k:IntKind):(Ty.zero (.int k):Int)=0:=rfl
theorem An9{a k:Nat}(h:a+64*k<1073741824):wI ((a:Int)+wI (64*(k:Int)))=((a+64*k:Nat):Int):=by
 rw[BH (x:=64*k),BH];omega
theorem AZ{x:Int}{n:Nat}(h:x=(n:Int):=by omega)(hn:n<4611686018427387904:=by omega):wI x=(n:Int):=by rw[BH,h]
theorem WY{n:Nat}(h:n<=1048576):DR (n:Int)=some ((n:Int),List.replicate (nw n) 0):=by
 have hn:nw n<=1048576:=by unfold nw;omega
 unfold DR Cs;rw[aK h,AQx ⟨rfl,by omega,by omega,by omega,by omega⟩,AQg]
theorem AkM{ws:ASH}{k j:Nat}(hj:j<64):bt ws (64*k+j)=tb (ws.getD k 0) j:=by
 unfold bt
 grind
theorem AwF{a k:Nat}{d b:Int}{low row:ASH}(hw:CW low)(hr:CW row)(hk:k<low.length)(hb:a+64*k<1073741824)(Gq:(a+64*k)/64<row.length) :
    Az (JS (a:Int) low d (k:Int) row b) λr=>CW r/\r.length=row.length/\∀i,i<64*row.length->bt r i=(bt row i||(decide (a+64*k<=i)&&(decide (i<a+64*k+64)&&bt low (i-a)))):=by
 unfold JS Po;obtain⟨q,hq⟩:∃q,q=(a+64*k)/64:=⟨_,rfl⟩;obtain⟨m,hm⟩:∃m,m=(a+64*k)%64:=⟨_,rfl⟩;have e1:wI (Int.tdiv (((a+64*k:Nat):Int)) 64)=(q:Int):=by rw[cJ (by omega),hq]
 have e2:Int.tmod (((a+64*k:Nat):Int)) 64=(m:Int):=by rw[Xj,hm]
 have e3:wI ((q:Int)+1)=((q+1:Nat):Int):=AZ;have e4:wI (64-(m:Int))=((64-m:Nat):Int):=AZ;have hlk:QR (low.getD k 0):=hw.getD k;have Al1:∀i,a+64*k<=i->i<a+64*k+64->bt low (i-a)=tb (low.getD k 0) (i-a-64*k):=λi h1 h2=>by
  rw[<-AkM (ws:=low) (k:=k) (by omega)];congr 1;omega
 simp only[An9 hb,e1,e2,e3,e4,AQo,AQg,Ab3];rw[AQx (Bj hk),AQx ⟨by omega,by omega⟩,Q4,AQx ⟨by omega,by omega⟩];have hsh:QR (N5 .u64 (low.getD k 0) (m:Int)):=jB hlk rfl (by omega);have hor:QR (gg .u64 (row.getD q 0) (N5 .u64 (low.getD k 0) (m:Int))):=mD (hr.getD q) hsh;have hqr:q<row.length:=by omega
 have O6:∀i,bt (row.set q (gg .u64 (row.getD q 0) (N5 .u64 (low.getD k 0) (m:Int)))) i=(bt row i||(decide (i/64=q)&&(decide (a+64*k<=i)&&bt low (i-a)))):=λi=>by
  rw[Zi hqr];by_cases h:i/64=q
  ·rw[AQx h,xu (hr.getD q) hsh,tg hlk rfl (by omega)];have:bt row i=tb (row.getD q 0) (i%64):=by unfold bt;rw[h]
   rw[this];by_cases h2:a+64*k<=i
   ·rw[Al1 i h2 (by omega),show i-a-64*k=i%64-m by omega];simp[h,h2,show i%64<64 by omega,show m<=i%64 by omega]
   ·simp[h,h2,show ¬m<=i%64 by omega]
  ·rw[AQy h];simp[h]
 have Ie:CW (row.set q (gg .u64 (row.getD q 0) (N5 .u64 (low.getD k 0) (m:Int)))):=hr.set hor;refine Az.cond (λh=>?_) λh=>?_
 ·simp only[AQm,ARY,ARv]at h;have zw:m≠0:=by omega
  have hq1:q+1<row.length:=by omega
  rw[AQx ⟨by omega,by omega⟩,Q4,AQx ⟨by omega,by omega⟩];have hsr:QR (T8 .u64 (low.getD k 0) ((64-m:Nat):Int)):=eU hlk rfl (by omega);refine Az.mk ⟨Ie.set (mD (Ie.getD _) hsr),by rw[AQo,AQo],λi hi=>?_⟩;show bt (List.set _ (q+1) (gg .u64 (List.getD _ (q+1) 0) (T8 .u64 (low.getD k 0) ((64-m:Nat):Int)))) i=_;rw[Zi (by rw[AQo];exact hq1)];by_cases h1:i/64=q+1
  ·rw[AQx h1,xu (Ie.getD _) hsr,cH hlk rfl (by omega)];have:tb ((row.set q (gg .u64 (row.getD q 0) (N5 .u64 (low.getD k 0) (m:Int)))).getD (q+1) 0) (i%64)=bt (row.set q (gg .u64 (row.getD q 0) (N5 .u64 (low.getD k 0) (m:Int)))) i:=by unfold bt;rw[h1]
   rw[this,O6];rw[show decide (i/64=q)=false by simp;omega,show decide (a+64*k<=i)=true by simp;omega];by_cases h2:i<a+64*k+64
   ·rw[Al1 i (by omega) h2,show i-a-64*k=i%64+(64-m) by omega];simp[h2]
   ·rw[aH hlk (by omega)];simp[h2]
  ·rw[AQy h1,O6];by_cases h2:i/64=q
   ·simp only[h2,decide_true,ARU];by_cases h3:a+64*k<=i
    ·simp[h3,show i<a+64*k+64 by omega]
    ·simp[h3]
   ·rw [show(decide (a+64*k<=i)&&(decide (i<a+64*k+64)&&bt low (i-a)))=false by
      by_cases h3:a+64*k<=i
      ·simp[show ¬i<a+64*k+64 by omega]
      ·simp[h3]]
    simp[h2]
 ·refine Az.mk ⟨Ie,AQo,λi hi=>?_⟩;have h':m=0\/row.length<=q+1:=by
   rcases AQD m with h0 |h0
   ·exact .inl h0
   ·refine .inr ?_;simp only[ARS,ASc,ARa]at h;omega
  show bt (row.set q (gg .u64 (row.getD q 0) (N5 .u64 (low.getD k 0) (m:Int)))) i=_;rw[O6];by_cases h2:i/64=q
  ·simp only[h2,decide_true,ARU];by_cases h3:a+64*k<=i
   ·simp[h3,show i<a+64*k+64 by omega]
   ·simp[h3]
  ·rw [show(decide (a+64*k<=i)&&(decide (i<a+64*k+64)&&bt low (i-a)))=false by
     by_cases h3:a+64*k<=i
     ·simp[show ¬i<a+64*k+64 by omega]
     ·simp[h3]]
   simp[h2]
theorem AiB{w b:Int}{a:Nat}{low row:ASH}(hw:CW low)(hr:CW row)(hl:low.length<=1048576)(ha:a<=1048576)(Gq:∀k,k<low.length->(a+64*k)/64<row.length) :
    Az (O7 b (a:Int) (w,low,()) row) λr=>CW r/\r.length=row.length/\∀i,i<64*row.length->bt r i=(bt row i||(decide (a<=i)&&bt low (i-a))):=by
 refine Az.bind (BW (λk (s:ASH)=>((k:Int),s)) low.length (λk s=>CW s/\s.length=row.length/\∀i,i<64*row.length->bt s i=(bt row i||(decide (a<=i)&&(decide (i<a+64*k)&&bt low (i-a))))) (Q:=λr=>CW r/\r.length=row.length/\∀i,i<64*row.length->bt r i=(bt row i||(decide (a<=i)&&bt low (i-a)))) (λk s hk hI=>?_) (λs hI=>?_) (s0:=row) ⟨hr,rfl,λi _=>by
     grind⟩) λr h=>Az.mk h
 ·unfold Hz Kw;rw[C9 hk];refine Az.bind (AwF hw hI.1 hk (by omega) (by grind)) λr h=>Az.mk ⟨r,?_,h.1,h.2.1.trans hI.2.1,λi hi=>?_⟩
  ·rw[show wI ((k:Int)+1)=((k+1:Nat):Int)from AZ]
  grind
 ·unfold Hz Kw;rw[DU];refine Az.mk ⟨hI.1,hI.2.1,λi hi=>?_⟩;rw[hI.2.2 i hi];by_cases h1:a<=i
  ·by_cases h2:i<a+64*low.length
   ·grind
   ·rw[Z3 (by omega:64*low.length<=i-a)];simp
  ·grind
theorem Amz{n m:Nat}{f g:Nat->Bool}(hn:n+m<=8192):Hy (mkB n f) (mkB m g)=some (((n+m:Nat):Int),cP (low (λi=>if i<m then g i else f (i-m)) (n+m)) (nw (n+m))):=by
 unfold Hy mkB;refine Az.eq_ ?_;rw[show wI _=((n+m:Nat))from AZ,WY (by omega),AQf];refine Az.bind (AiB (a:=0) (DC _ _) CW.rep (by rw[ED];unfold nw;omega) (by omega) λk hk=>by rw[ED]at hk;rw[AQM];unfold nw at *;omega) λr1 h1=>?_;rw[AQM]at h1;refine Az.bind (AiB  (DC _ _) h1.1 (by rw[ED];unfold nw;omega) (by omega) λk hk=>by rw[ED]at hk;unfold nw at *;omega) λr2 h2=>Az.mk ?_;refine congrArg _ (QN h2.1 (DC _ _) (by rw[h2.2.1,h1.2.1,ED]) λi hi=>?_);have tN:i<64*nw (n+m):=by grind
 rw[h2.2.2 i (by grind),h1.2.2 i tN,qM,EI,EI,EI]
 grind
end Go.Proofs.X
namespace Go.Proofs.X
open Go Go.Va
set_option maxRecDepth 100000
theorem AvD{a k:Nat}{w w1 w2 j:Int}{ws row:ASH}(hw:CW ws)(hr:CW row)(hk:k<row.length)(hb:a+64*k<1073741824)(Gq:(a+64*k)/64<ws.length) :
    Az (JR (a:Int) w1 w2 (k:Int) (w,ws,()) j row) λr=>CW r/\r.length=row.length/\∀i,bt r i=if i/64=k then bt ws (a+i)else bt row i:=by
 unfold JR Po;obtain⟨q,hq⟩:∃q,q=(a+64*k)/64:=⟨_,rfl⟩;obtain⟨m,hm⟩:∃m,m=(a+64*k)%64:=⟨_,rfl⟩;have e1:wI (Int.tdiv (((a+64*k:Nat):Int)) 64)=(q:Int):=by rw[cJ (by omega),hq]
 have e2:Int.tmod (((a+64*k:Nat):Int)) 64=(m:Int):=by rw[Xj,hm]
 have e3:wI ((q:Int)+1)=((q+1:Nat):Int):=AZ;have e4:wI (64-(m:Int))=((64-m:Nat):Int):=AZ;simp only[An9 hb,e1,e2,e3,e4,AQo,AQg,Ab3];rw[AQx ⟨by omega,by omega⟩,Q4,AQx (Bj hk)];have hsr:QR (T8 .u64 (ws.getD q 0) (m:Int)):=eU (hw.getD q) rfl (by omega);have Ie:CW (row.set k (T8 .u64 (ws.getD q 0) (m:Int))):=hr.set hsr;have Zw:(row.set k (T8 .u64 (ws.getD q 0) (m:Int))).getD k 0=T8 .u64 (ws.getD q 0) (m:Int):=by simp[List.getD,hk]
 refine Az.cond (λh=>?_) λh=>?_
 ·simp only[AQm,ARY,ARv]at h;rw[AQx (Bj hk),AQx ⟨by omega,by omega⟩,Q4,AQx (Bj hk),Zw];have Jk:QR (N5 .u64 (ws.getD (q+1) 0) ((64-m:Nat):Int)):=jB (hw.getD _) rfl (by omega);refine Az.mk ⟨Ie.set (mD hsr Jk),by rw[AQo,AQo],λi=>?_⟩;rw[Zi (by rw[AQo];exact hk)];by_cases h1:i/64=k
  ·rw[AQx h1,AQx h1,xu hsr Jk,cH (hw.getD _) rfl (by omega),tg (hw.getD _) rfl (by omega)];by_cases h2:i%64+m<64
   ·rw[show decide (64-m<=i%64)=false by simp;omega];unfold bt;rw[show(a+i)/64=q by omega,show(a+i)%64=i%64+m by omega];simp
   ·rw[aH (hw.getD _) (by omega)];unfold bt;rw[show(a+i)/64=q+1 by omega,show(a+i)%64=i%64-(64-m) by omega];simp[show i%64<64 by omega,show 64<=i%64+m by omega]
  ·rw[AQy h1,AQy h1,Zi hk,AQy h1]
 ·have h':m=0\/ws.length<=q+1:=by
    rcases AQD m with h0 |h0
    ·exact .inl h0
    ·refine .inr ?_;simp only[ARS,ASc,ARa]at h;omega
  refine Az.mk ⟨Ie,AQo,λi=>?_⟩;rw[Zi hk];by_cases h1:i/64=k
  ·rw[AQx h1,AQx h1,cH (hw.getD _) rfl (by omega)];by_cases h2:i%64+m<64
   ·unfold bt;rw[show(a+i)/64=q by omega,show(a+i)%64=i%64+m by omega]
   ·rw[aH (hw.getD _) (by omega),Z3 (by omega)]
  ·rw[AQy h1,AQy h1]
theorem AvE{n a w:Nat}{f:Nat->Bool}(hn:n<=1048576)(h1:1<=w)(h:a+w<=n):Fe (mkB n f) (a:Int) (w:Int)=some ((w:Int),cP (low (λi=>f (a+i)) w) (nw w)):=by
 unfold Fe mkB;refine Az.eq_ ?_;rw[WY (by omega),AQf];show Az ((NK (a:Int) (w:Int) ((n:Int),cP (low f n) (nw n),()) (((List.replicate (nw w) (0:Int)).length:Nat):Int) (w:Int) 0 (List.replicate (nw w) 0)).bind _) _;rw[AQM];have hwl:1<=nw w:=by unfold nw;omega
 refine Az.bind (P:=λr=>CW r/\r.length=nw w/\∀i,i<64*nw w->bt r i=bt (cP (low f n) (nw n)) (a+i)) ?_ λr hr=>?_
 ·unfold NK;refine BW (λk (s:ASH)=>((k:Int),s)) (nw w) (λk s=>CW s/\s.length=nw w/\∀i,i<64*k->bt s i=bt (cP (low f n) (nw n)) (a+i)) (λk s hk hI=>?_) (λs hI=>?_) (s0:=List.replicate (nw w) 0) ⟨CW.rep,AQM,λi hi=>by omega⟩
  ·unfold Hw Kv;simp only;rw[C9 hk,AQv];refine Az.bind (AvD (DC _ _) hI.1 (by rw[hI.2.1];exact hk) (by unfold nw at hk;omega) (by rw[ED];unfold nw at *;omega)) λr h=>Az.mk ⟨r,?_,h.1,h.2.1.trans hI.2.1,λi hi=>?_⟩
   ·rw[show wI ((k:Int)+1)=((k+1:Nat):Int)from AZ (by omega) (by unfold nw at hk;omega)]
   ·rw[h.2.2 i];by_cases h3:i/64=k
    ·rw[AQx h3]
    ·rw[AQy h3,hI.2.2 i (by omega)]
  ·unfold Hw Kv;simp only;rw[DU,AQu];exact Az.mk hI
 ·unfold NL;obtain⟨m,hm⟩:∃m,m=w%64:=⟨_,rfl⟩;have e2:Int.tmod (w:Int) 64=(m:Int):=by rw[Xj,hm]
  have e3:wI ((r.length:Int)-1)=((nw w-1:Nat):Int):=by rw[hr.2.1];exact AZ (by omega) (by unfold nw;omega)
  simp only[e2,e3,AQg,Ab3];refine Az.bind (P:=λx=>x=cP (low (λi=>f (a+i)) w) (nw w)) (Az.cond (λh=>?_) λh=>?_) λx hx=>Az.mk (by rw[hx])
  ·simp only[ARY]at h;rw[AQx ⟨by omega,by rw[hr.2.1];omega⟩,Q4,AQx ⟨by omega,by rw[hr.2.1];omega⟩];have rN:QR (IntKind.u64.wrap (N5 .u64 1 (m:Int)-1)):=Ajv rfl (by omega);refine Az.mk (QN (hr.1.set (AbZ (hr.1.getD _) rN)) (DC _ _) (by rw[AQo,hr.2.1,ED]) λi hi=>?_);rw[AQo,hr.2.1]at hi;rw[Zi (by rw[hr.2.1];omega),EI];by_cases h3:i/64=nw w-1
   ·rw[AQx h3,Ajp (hr.1.getD _) rN,AmQ rfl (by omega)];have:tb (r.getD (nw w-1) 0) (i%64)=bt r i:=by unfold bt;rw[h3]
    rw[this,hr.2.2 i hi,EI];unfold nw at h3;by_cases h4:i<w
    ·simp[h4,show a+i<n by omega,show i%64<m by omega]
    ·simp[h4,show ¬i%64<m by omega]
   ·rw[AQy h3,hr.2.2 i hi,EI];unfold nw at h3 hi;simp[show i<w by omega,show a+i<n by omega]
  ·have h0:m=0:=by
     have:(m:Int)=0:=by simpa using h
     omega
   refine Az.mk (QN hr.1 (DC _ _) (by rw[hr.2.1,ED]) λi hi=>?_);rw[hr.2.1]at hi;rw[hr.2.2 i hi,EI,EI];unfold nw at hi;simp[show i<w by omega,show a+i<n by omega]
theorem ay{l:ASI}(h1:1<=l.length)(h2:l.length<=4096):Kp (l.map bI)=some ((l.length:Int),true,cP (low (λi=>l.getD i false) l.length) (nw l.length)):=by
 unfold Kp Po;refine Az.eq_ ?_;rw[AQr];have hn:nw l.length<=1048576:=by unfold nw;omega
 rw[show(decide ((l.length:Int)<1)||decide ((l.length:Int)>4096))=false by simp;omega,AQu,aK (by omega),AQx ⟨rfl,by omega,by omega,by omega,by omega⟩,AQg];unfold Wb;refine Az.bind (BW (λk (s:ASH)=>((k:Int),s)) l.length (λk s=>CW s/\s.length=nw l.length/\∀i,bt s i=(decide (i<k)&&l.getD i false)) (Q:=λr=>r=cP (low (λi=>l.getD i false) l.length) (nw l.length)) (λk s hk hI=>?_) (λs hI=>?_) (s0:=List.replicate (nw l.length) 0) ⟨CW.rep,AQM,λi=>by rw[qM];simp⟩) λr hr=>Az.mk (by rw[hr])
 ·unfold Kd Od;have hq:k/64<s.length:=by rw[hI.2.1];unfold nw;omega
  have AGa:QR (bI (l.getD k false)):=by unfold bI;split<;>first |exact Yx |exact ZU
  have AKO:IntKind.u64.wrap (bI (l.getD k false))=bI (l.getD k false):=by cases l.getD k false<;>rfl
  have XF:(l.map bI).getD k 0=bI (l.getD k false):=by simp[List.getD,hk]
  simp only[AQr,cJ (show k<4611686018427387904 by omega),Xj,AQg,Ab3,XF,AKO,tw (show(0:Int)<=((k%64:Nat):Int) by omega) (by omega)];rw[C9 hk,AQv,AQx ⟨by omega,by omega⟩,AQx (Bj hk),Q4,AQx ⟨by omega,by omega⟩];have Jk:QR (N5 .u64 (bI (l.getD k false)) ((k%64:Nat):Int)):=jB AGa rfl (by omega);refine Az.mk ⟨_,by rw[show wI ((k:Int)+1)=((k+1:Nat):Int)from AZ],hI.1.set (mD (hI.1.getD _) Jk),by rw[AQo];exact hI.2.1,λi=>?_⟩;rw[Zi hq];have tbb:∀b j,tb (bI b) j=(decide (j=0)&&b):=λb j=>by cases b<;>simp[bI,Aam,Yt]
  by_cases h3:i/64=k/64
  ·rw[AQx h3,xu (hI.1.getD _) Jk,tg AGa rfl (by omega),tbb];have:tb (s.getD (k/64) 0) (i%64)=bt s i:=by unfold bt;rw[h3]
   rw[this,hI.2.2 i];rcases Nat.lt_trichotomy i k with h |h |h
   ·simp[h,show i<k+1 by omega,show ¬k%64<=i%64 by omega]
   ·subst h;simp[show i%64<64 by omega]
   ·simp[show ¬i<k by omega,show ¬i<k+1 by omega];omega
  ·rw[AQy h3,hI.2.2 i];by_cases h:i<k
   ·simp[h,show i<k+1 by omega]
   ·simp[h,show ¬i<k+1 by omega]
 ·unfold Kd Od;rw[AQr,DU,AQu];refine Az.mk (QN hI.1 (DC _ _) (by rw[ED];exact hI.2.1) λi hi=>?_);rw[hI.2.2 i,EI]
theorem dh{w:Int}{ws:ASH}(h:ws.length<=1048576):Dl (w,ws,())=some (w,ws):=by
 unfold Dl;rw[AQx (by grind)]
end Go.Proofs.X
namespace Go.Proofs.X
open Go Go.Va
set_option maxRecDepth 100000
def Small(f:ASO):Prop:=f.length<=1048576/\∀s∈f,s.2.2.2.1.2.1.length<=1048576
theorem AK{A:Type}{l:ATU A}{z:A}{k:Nat}(h:k<l.length):l.getD k z∈l:=by
 rw[show l.getD k z=l[k] by simp[List.getD,h]];exact AQX h
theorem AY{A:Type}{l:ATU A}{z:A}{k:Nat}(h:k<l.length):l.take (k+1)=l.take k++[l.getD k z]:=by
 rw[AQ9 h,show l.getD k z=l[k] by simp[List.getD,h]]
theorem Bl{k n:Nat}(hk:k<n)(hn:n<=1048576):wI ((k:Int)+1)=((k+1:Nat):Int):=AZ
def CO{A:Type}(g:Nat->A)(z:A)(n k:Nat):ATU A:=(List.range n).map λi=>if i<k then g i else z
theorem MW{A:Type}(g:Nat->A)(z:A)(n:Nat):CO g z n 0=List.replicate n z:=by
 refine ARx (by simp[CO]) λi h1 h2=>by simp[CO]
theorem QA{A:Type}(g:Nat->A)(z:A){n k:Nat}:(CO g z n k).set k (g k)=CO g z n (k+1):=by
 refine ARx (by simp[CO]) λi h1 h2=>?_;simp only[CO,List.getElem_set,List.getElem_map,List.getElem_range];by_cases h:k=i
 ·subst h;simp
 ·rw[AQy h];by_cases h3:i<k
  ·rw[AQx h3,VI]
  ·rw[AQy h3,Q4]
theorem Im{A:Type}(g:Nat->A)(z:A)(n k:Nat):(CO g z n k).length=n:=by simp[CO]
theorem kI{A:Type}(l:ATU A)(y z:A):CO (λi=>l.getD i y) z l.length l.length=l:=by
 refine ARx (by simp[CO]) λi h1 h2=>by simp[CO,List.getD,h2]
theorem qZ{f:ASO}(h:Small f):M0 f=some f:=by
 unfold M0 Q9;have h1:=h.1;rw[AQx ⟨rfl,by omega,by omega,by omega,by omega⟩,AQg];rw[show fix (Db f (f.length:Int)) (0,List.replicate f.length (0,0,0,(0,([]:ASH),()),()))=some f from by
  have:=AP (f:=Db f (f.length:Int)) (λk=>((k:Int),CO (λi=>f.getD i Ag.zero) (0,0,0,(0,([]:ASH),()),()) f.length k)) (t:=f) f.length (λk hk=>by
   unfold Db Jq;simp only[C9 hk,AQv,AQx (Bj hk),AQg,Im];rw[dh (h.2 _ (AK hk)),AQf,Bl hk h1,<-QA]) (by
   unfold Db Jq;simp only[DU,AQu,kI])
  rw[MW]at this;exact this]
 rfl
theorem l9{a:ASH}(hn:a.length<=maxLen):Y7 JH a :=
 fF (F:=λx y=>some (x==y)) (z :=ATF.zero) (r:=λa b=>Fu a b a.length) (λ_ _=>rfl) (λ_ _ _=>rfl) hn λx _ y=>Az.mk (by simp)
theorem Zg{a:ASA}(h:a.2.1.length<=maxLen):Y7 HA a:=by
 intro b;obtain⟨w,ws,_⟩:=a;obtain⟨w',mY,_⟩:=b;unfold HA;refine Az.cond (λh1=>Az.bind (l9 h mY) λr hr=>Az.mk (by simp at h1;simp[hr,h1])) λh1=>Az.mk (by simp at h1;simp[h1])
theorem AdN:(1048576:Nat)<=maxLen:=by decide
theorem im{a:ASA}(h:a.2.1.length<=maxLen):Y7 Ey a:=by
 intro b;obtain⟨w,ws,_⟩:=a;obtain⟨w',mY,_⟩:=b;unfold Ey Po;refine Az.cond (λh1=>Az.mk ?_) λh1=>?_
 ·simp only[ARA,ARY]at h1;simp only[AQ6,false_iff,AQs,and_true,not_and]
  rintro rfl rfl
  simp at h1
 ·simp only[ARj,ASc]at h1;have h1:w=w'/\(ws.length:Int)=(mY.length:Int):=h1;refine Az.bind (Abe (F:=λx y=>some (x==y)) (z :=ATF.zero) (a:=ws) (b:=mY) (f:=DD (w,ws,()) (w',mY,())) (by omega) h (λx _ y=>Az.mk (by simp)) (λk hk=>?_) ?_) λt ht=>?_
  ·unfold DD I4;simp only[C9 hk,AQv,AQx (Bj hk),AQx (Bj (show k<mY.length by omega)),AQg];rfl
  ·unfold DD I4;simp only[DU,AQu]
  ·rcases ht with ⟨rfl,e⟩|⟨rfl,e⟩
   ·exact Az.mk ⟨λ_=>by rw[h1.1,e],λ_=>rfl⟩
   ·exact Az.mk ⟨λh=>by(cases h),λh'=>(e (congrArg (λx=>x.2.1) h')).elim⟩
end Go.Proofs.X
namespace Go.Va
open Go.Proofs.X
inductive Bt
 |co (b:Bool)
 |va (v a:Nat)
inductive Sg
 |co (b:ASI)
 |va (v l n:Nat)
def Sg.bits:Sg->ATU Bt
 |.co b=>b.map .co
 |.va v l n=>(List.range n).map λk=>.va v (l+k)
def Sg.w:Sg->Nat
 |.co b=>b.length
 |.va _ _ n=>n
def Bt.sg:Bt->Sg
 |.co b=>.co [b]
 |.va v a=>.va v a 1
def Sg.join:Sg->Sg->ATV Sg
 |.co a,.co b=>some (.co (a++b))
 |.va v l n,.va v' l' n'=>if v=v'/\l+n=l' then some (.va v l (n+n'))else none
 |_,_=>none
def Sg.dW(a b:Sg):Bool:=(a.join b).isSome
def Jd(f:ATU Sg)(s:Sg):ATU Sg :=
 match f.getLast? with
 |none=>[s]
 |some l=>match l.join s with
  |some j=>f.dropLast++[j]
  |none=>f++[s]
def UA(f ss:ATU Sg):ATU Sg:=ss.foldl Jd f
def Zc(f:ATU Sg)(bs:ATU Bt):ATU Sg:=bs.foldl (λf b=>Jd f b.sg) f
def AA(bs:ATU Bt):ATU Sg:=Zc [] bs
def Dt(f:ATU Sg):ATU Bt:=f.flatMap Sg.bits
def Bh(f:ATU Sg):Nat:=(f.map Sg.w).sum
theorem V4(s:Sg):Jd [] s=[s]:=rfl
theorem FF(g:ATU Sg)(l s:Sg):Jd (g++[l]) s=match l.join s with |some j=>g++[j]|none=>g++[l,s]:=by
 unfold Jd
 grind
theorem Iw(s:Sg):s.bits.length=s.w:=by cases s<;>simp[Sg.bits,Sg.w]
theorem Lx(f:ATU Sg):(Dt f).length=Bh f:=by
 induction f with
 |nil=>rfl
 |cons s f ih=>simp only[Dt,Bh,List.flatMap_cons,AQj,Iw,AQ0,ARV]at *;rw[ih]
theorem o5{a b j:Sg}(h:a.join b=some j):j.bits=a.bits++b.bits:=by
 cases a<;>cases b<;>simp only[Sg.join]at h
 ·cases h;simp[Sg.bits]
 ·grind
 ·grind
 ·split at h
  ·rename_i hc;cases h;obtain⟨rfl,rfl⟩:=hc;simp only[Sg.bits];rw[List.range_add,AQY];congr 1;simp[ARk]
  ·grind
theorem ig(f:ATU Sg)(s:Sg):Dt (Jd f s)=Dt f++s.bits:=by
 rcases ARq f with rfl |⟨g,l,rfl⟩
 ·simp[V4,Dt]
 ·rw[ARr,FF];cases h:l.join s with
  |none=>simp[Dt]
  |some j=>simp[Dt,o5 h]
theorem Acr(f:ATU Sg)(bs:ATU Bt):Dt (Zc f bs)=Dt f++bs:=by
 induction bs generalizing f with
 |nil=>simp[Zc]
 |cons b bs ih =>
  rw[show Zc f _=Zc (Jd f b.sg) bs from rfl,ih,ig];cases b<;>simp[Bt.sg,Sg.bits]
theorem EU(bs:ATU Bt):Dt (AA bs)=bs:=Acr [] bs
theorem MU(f:ATU Sg)(a b:ATU Bt):Zc f (a++b)=Zc (Zc f a) b:=AR5
theorem Aae(s:Sg)(h:2<=s.w):∃(t:Sg) (b:Bt),1<=t.w/\t.w<s.w/\s.bits=t.bits++[b]/\t.join b.sg=some s/\(∀l j:Sg,l.join t=some j->j.join b.sg=l.join s)/\(∀l:Sg,l.join t=none->l.join s=none):=by
 cases s with
 |co bs =>
  simp only[Sg.w]at h;rcases ARq bs with rfl |⟨cs,x,rfl⟩
  ·grind
  ·rw[ARr]at h⊢;refine⟨.co cs,.co x,?_,?_,?_,rfl,λl j hj=>?_,λl hl=>?_⟩
   ·simp[Sg.w]at h⊢;omega
   ·simp[Sg.w]
   ·simp[Sg.bits]
   ·cases l<;>simp only[Sg.join]at hj
    ·cases hj;simp[Sg.join,Bt.sg]
    ·grind
   ·cases l<;>simp[Sg.join]at hl⊢
 |va v l n =>
  simp only[Sg.w]at h;obtain⟨m,rfl⟩:∃m,n=m+1:=⟨n-1,by omega⟩;refine⟨.va v l m,.va v (l+m),by simp[Sg.w];omega,by simp[Sg.w],?_,by simp[Sg.join,Bt.sg],λk j hj=>?_,λk hk=>?_⟩
  ·simp[Sg.bits,ARn]
  ·cases k<;>simp only[Sg.join]at hj
   ·grind
   ·split at hj
    ·rename_i hc;cases hj;obtain⟨rfl,rfl⟩:=hc;simp[Sg.join,Bt.sg,ARk]
    ·grind
  ·cases k with
   |co b=>rfl
   |va v' l' n' =>
    simp only[Sg.join]at hk⊢
    grind
theorem ZK:∀(n:Nat) (s:Sg) (f:ATU Sg),s.w=n->1<=n->Jd f s=Zc f s.bits:=by
 intro n;induction n using Nat.strongRecOn with
 |_ n ih =>
  intro s f hn h1;rcases AQq 1 n with h |h
  ·obtain⟨t,b,ht1,ht2,hb,hj,hlj,hln⟩:=Aae s (by omega);rw[hb,MU,<-ih t.w (by omega) t f rfl ht1];show _=Jd _ b.sg;rcases ARq f with rfl |⟨g,l,rfl⟩
   ·rw[V4,V4,show[t]=[]++[t]from rfl,FF,hj];rfl
   ·rw[ARr,FF,FF];cases hl:l.join t with
    |none =>
     rw[hln l hl];rw[show g++[l,t]=(g++[l])++[t] by simp,FF,hj];simp
    |some j =>
     rw[FF,hlj l j hl];cases hls:l.join s with
     |some k=>rfl
     |none =>
      have:=hlj l j hl;cases l<;>cases s<;>cases t<;>simp[Sg.join]at hl hls hj
      all_goals grind
  ·have:n=1:=by omega
   subst this;have hs:∃b:Bt,s=b.sg/\s.bits=[b]:=by
    cases s with
    |co bs =>
     obtain⟨x,rfl⟩:=List.length_eq_one_iff.1 hn;exact⟨.co x,rfl,rfl⟩
    |va v l m =>
     subst hn;exact⟨.va v l,rfl,by simp[Sg.bits]⟩
   obtain⟨b,hb,AGb⟩:=hs;rw[AGb,hb];rfl
def aO(f:ATU Sg):Prop:=∀s∈f,1<=s.w
theorem il{f ss:ATU Sg}(h:aO ss):UA f ss=Zc f (Dt ss):=by
 induction ss generalizing f with
 |nil=>rfl
 |cons s ss ih =>
  rw[show UA f _=UA (Jd f s) ss from rfl,ih λx hx=>h x (AQH _ hx),ZK _ s f rfl (h s AQK),show Dt (s::ss)=s.bits++Dt ss from rfl,MU]
theorem Awt{a b j:Sg}(h:a.join b=some j):j.w=a.w+b.w:=by rw[<-Iw,o5 h,AQj,Iw,Iw]
theorem ik{f:ATU Sg}{s:Sg}(hf:aO f)(hs:1<=s.w):aO (Jd f s):=by
 rcases ARq f with rfl |⟨g,l,rfl⟩
 ·intro x hx;rw[V4,AQG]at hx;rw[hx];exact hs
 ·rw[ARr]at hf⊢;rw[FF];have hl:=hf l (by simp);cases h:l.join s with
  |none =>
   intro x hx;simp only[ARL,ARP,ASn,or_false]at hx;rcases hx with hx |rfl |rfl
   ·exact hf x (by grind)
   ·grind
   ·grind
  |some j =>
   intro x hx;simp only[ARL,ARP,ASn,or_false]at hx;rcases hx with hx |rfl
   ·exact hf x (by grind)
   ·rw[Awt h];omega
theorem AwK(b:Bt):b.sg.w=1:=by cases b<;>rfl
theorem Acs{f:ATU Sg}(hf:aO f)(bs:ATU Bt):aO (Zc f bs):=by
 induction bs generalizing f with
 |nil=>exact hf
 |cons b bs ih=>exact ih (ik hf (by rw[AwK];exact AQl _))
theorem CJ(bs:ATU Bt):aO (AA bs):=Acs (λx hx=>by grind) bs
theorem B9(bs:ATU Bt):Bh (AA bs)=bs.length:=by rw[<-Lx,EU]
theorem wS(a b:ATU Bt):UA (AA a) (AA b)=AA (a++b):=by
 rw[il (CJ b),EU];exact(MU [] a b).symm
theorem CQ{f:ATU Sg}(h:aO f):f.length<=Bh f:=by
 induction f with
 |nil=>grind
 |cons s f ih =>
  have:=ih λx hx=>h x (AQH _ hx);have:=h s AQK;simp only[Bh,ARe,AQ0,ARV]at *;omega
end Go.Va
namespace Go.Proofs.X
open Go Go.Va
set_option maxRecDepth 100000
def fW(bs:ASI):ASA:=mkB bs.length λi=>bs.getD i false
def Ir:Sg->ASy
 |.co bs=>(-1,0,(bs.length:Int),fW bs,())
 |.va v l n=>((v:Int),(l:Int),(n:Int),(0,[],()),())
def WA:Bt->ASu
 |.co b=>(-1,bI b,())
 |.va v a=>((v:Int),(a:Int),())
def fV(f:ATU Sg):ASO:=f.map Ir
def bV(f:ATU Bt):ASK:=f.map WA
def Xl:Sg->Prop
 |.co bs=>bs.length<=4096
 |.va v l n=>v<=4096/\l+n<=4096
theorem zJ{bs:ASI}{n:Nat}{f:Nat->Bool}(hl:bs.length=n)(h:∀i,i<n->bs.getD i false=f i):fW bs=mkB n f:=by
 unfold fW;rw[hl];exact Adq h
theorem Aiu{a b:ASI}(h:a.length+b.length<=8192):∃r,Hy (fW b) (fW a)=some r/\(r.1,r.2,())=fW (a++b):=by
 refine⟨_,Amz (by omega),(zJ (by grind) λi hi=>?_).symm⟩
 grind
theorem Aa7{bs:ASI}{a w:Nat}(hn:bs.length<=8192)(h1:1<=w)(h:a+w<=bs.length):∃r,Fe (fW bs) (a:Int) (w:Int)=some r/\(r.1,r.2,())=fW ((bs.drop a).take w):=by
 refine⟨_,AvE (by omega) h1 h,(zJ (by grind) λi hi=>?_).symm⟩;simp[hi]
theorem Aic{a b:Sg}(ha:Xl a):DX (Ir a) (Ir b)=a.dW b:=by
 cases a with
 |co x =>
  cases b with
  |co y=>simp[DX,Ir,Sg.dW,Sg.join]
  |va v l n =>
   simp only[DX,Ir,Sg.dW,Sg.join,ARS];simp
 |va v l n =>
  cases b with
  |co y =>
   simp only[DX,Ir,Sg.dW,Sg.join,ARS];simp
  |va v' l' n' =>
   simp only[Xl]at ha;simp only[DX,Ir,Sg.dW,Sg.join];rw[show wI _=((l+n))from AZ]
   grind
theorem Ac0{A:Type}(g:ATU A)(x z:A):(g++[x]).getD g.length z=x:=by grind
theorem l6{A:Type}(g:ATU A)(x y:A):(g++[x]).set g.length y=g++[y]:=by simp
theorem SG(f g:ATU Sg):fV (f++g)=fV f++fV g:=AQY
theorem Cj(f:ATU Sg):(fV f).length=f.length:=AQr _
theorem FA{A B:Type}(f:A->B){l:ATU A}{k:Nat}{y:A}{z:B}(h:k<l.length):(l.map f).getD k z=f (l.getD k y):=by grind
theorem zX{ss f:ATU Sg}{k:Nat}{b:Int}(hk:k<ss.length)(hs:Xl (ss.getD k (.co [])))(hf:∀s∈f,Xl s)(hl:f.length<=1048576):Pf (fV ss) b (k:Int) (fV f)=some (fV (Jd f (ss.getD k (.co [])))):=by
 obtain⟨s,iM⟩:∃s,s=ss.getD k (.co []):=⟨_,rfl⟩;have XF:(fV ss).getD k Ag.zero=Ir s:=by rw[iM];exact FA Ir hk
 rw[<-iM]at hs⊢;unfold Pf;rw[AQx (Bj (by rw[Cj];exact hk)),AQg,XF];rcases ARq f with rfl |⟨g,l,rfl⟩
 ·rfl
 ·rw[ARr]at hf hl⊢;have hbl:Xl l:=hf l (by simp);have hfl:(fV (g++[l])).length=g.length+1:=by rw[Cj,AQj];rfl
  have e1:wI (((fV (g++[l])).length:Int)-1)=(g.length:Int):=by
   exact AZ (by omega) (by grind)
  have hgl:(fV (g++[l])).getD g.length Ag.zero=Ir l:=by
   rw[SG,<-Cj g];exact Ac0 _ _ _
  have e2:decide ((g.length:Int)<0)=false:=by simp
  have e3:(0:Int)<=(g.length:Int)/\(g.length:Int)<((fV (g++[l])).length:Int):=⟨by omega,by omega⟩;rw[e1,FF];unfold Tp;rw[e2,AQu,AQx e3,AQg,hgl,Aic hbl];cases hj:l.join s with
  |none =>
   rw[show l.dW s=false by unfold Sg.dW;rw[hj];rfl];show(if(_+1)*56<=_ then _ else none)=_;rw[AQx (by grind)];simp[fV]
  |some j =>
   rw[show l.dW s=true by unfold Sg.dW;rw[hj];rfl];show(Pb (fV ss) b (k:Int) (fV (g++[l])) (g.length:Int) (Ir s)).bind _=_;unfold Pb;cases l with
   |co x =>
    cases s with
    |va v' l' n'=>simp[Sg.join]at hj
    |co y =>
     simp only[Sg.join,AQh]at hj;subst hj;simp only[Xl]at hbl hs;obtain⟨r,gQ,hr2⟩:=Aiu (a:=x) (b:=y) (by omega);rw[show((Ir (.co y)).1==(-1:Int))=true from rfl,AQv,AQx e3,AQg,hgl];rw[show Hy (Ir (.co y)).2.2.2.1 (Ir (.co x)).2.2.2.1=some r from gQ,AQf,AQx e3,hr2,AQf];have e4:(0:Int)<=(g.length:Int)/\(g.length:Int)<(((fV (g++[Sg.co x])).set g.length ((Ir (.co x)).1,(Ir (.co x)).2.1,(Ir (.co x)).2.2.1,fW (x++y),(Ir (.co x)).2.2.2.2)).length:Int):=by grind
     rw[AQx e4,AQx e4];have Ie:(fV (g++[Sg.co x])).set g.length ((Ir (.co x)).1,(Ir (.co x)).2.1,(Ir (.co x)).2.2.1,fW (x++y),(Ir (.co x)).2.2.2.2)=fV g++[(-1,0,(x.length:Int),fW (x++y),())]:=by
      rw[SG,<-Cj g];exact l6 _ _ _
     rw[Ie,show(fV g++[((-1,0,(x.length:Int),fW (x++y),()):ASy)]).getD g.length Ag.zero=(-1,0,(x.length:Int),fW (x++y),()) by grind];rw[show wI ((x.length:Int)+(Ir (.co y)).2.2.1)=(((x++y).length:Nat):Int) by
      rw[AQj];exact AZ (by show(x.length:Int)+(y.length:Int)=_;omega) (by omega)]
     rw[SG,<-Cj g,l6];rfl
   |va v l n =>
    cases s with
    |co y=>simp[Sg.join]at hj
    |va v' l' n' =>
     simp only[Xl]at hbl hs;simp only[Sg.join]at hj;split at hj
     ·cases hj;rw[show((Ir (.va v' l' n')).1==(-1:Int))=false by simp[Ir],AQu,AQf,AQx e3,AQx e3];rw[hgl];rw[show wI ((Ir (.va v l n)).2.2.1+(Ir (.va v' l' n')).2.2.1)=((n+n':Nat):Int)from AZ (by show(n:Int)+(n':Int)=_;omega) (by omega)];rw[SG,<-Cj g];show some (List.set (fV g++[Ir (.va v l n)]) (fV g).length _)=_;rw[l6,SG];rfl
     ·grind
theorem eA{f:ATU Sg}{s:Sg}(hf:∀x∈f,Xl x)(hs:Xl s)(hw:Bh f+s.w<=4096):∀x∈Jd f s,Xl x:=by
 rcases ARq f with rfl |⟨g,l,rfl⟩
 ·intro x hx;rw[V4,AQG]at hx;rw[hx];exact hs
 ·rw[ARr]at hf hw⊢;rw[FF];have hl:=hf l (by simp);cases h:l.join s with
  |none =>
   grind
  |some j =>
   intro x hx;simp only[ARL,ARP,ASn,or_false]at hx;rcases hx with hx |rfl
   ·grind
   ·cases l<;>cases s<;>simp only[Sg.join]at h
    ·cases h;simp only[Bh,AQY,AR4,AQ0,ARV,Sg.w]at hw;simp only[Xl,AQj];omega
    ·grind
    ·grind
    ·split at h
     ·cases h;simp only[Xl]at hl hs⊢;omega
     ·grind
theorem lR(f:ATU Sg)(s:Sg):Bh (Jd f s)=Bh f+s.w:=by
 rw[<-Lx,ig,AQj,Lx,Iw]
theorem FJ{f:ATU Sg}{k:Nat}(h:k<f.length):Bh (f.take (k+1))=Bh (f.take k)+(f.getD k (.co [])).w:=by
 rw[AY h (z:=.co [])];simp[Bh]
theorem Fw(f:ATU Sg)(k:Nat):Bh (f.take k)<=Bh f:=by
 have:Bh f=Bh (f.take k)+Bh (f.drop k):=by
  unfold Bh;rw[<-AR4,<-AQY,ARp]
 omega
theorem wR{ss f:ATU Sg}(h1:aO ss)(h2:aO f)(hs:∀s∈ss,Xl s)(hf:∀s∈f,Xl s)(hw:Bh f+Bh ss<=4096):ER (fV ss) (fV f)=some (fV (UA f ss)):=by
 unfold ER W5;have hlen:=CQ h1;have XI:∀k,k<=ss.length->aO (UA f (ss.take k))/\(∀s∈UA f (ss.take k),Xl s)/\Bh (UA f (ss.take k))=Bh f+Bh (ss.take k):=by
  intro k;induction k with
  |zero=>exact λ_=>⟨h2,hf,rfl⟩
  |succ k ih =>
   intro hk;obtain⟨i1,i2,i3⟩:=ih (by omega);have hm:ss.getD k (.co [])∈ss:=AK (by omega);have hwk:=FJ (show k<ss.length by omega);have:=Fw ss (k+1);have e:UA f (ss.take (k+1))=Jd (UA f (ss.take k)) (ss.getD k (.co [])):=by
    rw[AY (show k<ss.length by omega)];exact AR5
   rw[e];exact⟨ik i1 (h1 _ hm),eA i2 (hs _ hm) (by omega),by rw[lR,hwk];omega⟩
 have:=AP (f:=Gs _ ((fV ss).length)) (λk=>(k,fV _))  ss.length (λk hk=>by
  obtain⟨i1,i2,i3⟩:=XI k (by omega);have hm:ss.getD k (.co [])∈ss:=AK hk;have:=Fw ss k;unfold Gs Py;rw[Cj,C9 hk,AQv];rw[zX hk (hs _ hm) i2 (by have:=CQ i1;omega),AQf,Bl hk (by omega),AY hk ];rw[show UA f (ss.take k++[ss.getD k _])=Jd (UA f _) _ from AR5]) (by
  unfold Gs Py;rw[Cj,DU,AQu,AQp (AQl _)])
 rw[show fix (Gs _ _) (0,fV f)=some _ from this];rfl
theorem rC{f:ATU Sg}(h1:aO f)(hw:Bh f<=4096):FD (fV f)=some (Bh f:Int):=by
 unfold FD Ra;have hlen:=CQ h1;have:=AP (f:=Dc _ ((fV f).length)) (λk=>((Bh _),k))  f.length (λk hk=>by
  have h1:=FJ hk;have h2:=Fw f (k+1);unfold Dc Ju;rw[Cj,C9 hk,AQv,AQx (Bj hk),AQg];rw[Bl hk (by omega),show(fV f).getD k _=Ir _ from FA Ir hk];rw[show(Ir _).2.2.1=((f.getD k _).w) by cases f.getD k _<;>rfl];rw[show wI ((Bh (f.take k))+((f.getD k (.co [])).w))=(Bh (f.take (k+1)))from AZ]) (by
  unfold Dc Ju;rw[Cj,DU,AQu,AQp (AQl _)])
 rw[show fix (Dc _ _) (0,0)=some _ from this];rfl
end Go.Proofs.X
namespace Go.Proofs.X
open Go Go.Va
set_option maxRecDepth 100000
def part(s:Sg)(a w:Nat):Sg :=
 match s with
 |.co bs=>.co ((bs.drop a).take w)
 |.va v l _=>.va v (l+a) w
theorem pI{s:Sg}{a w:Nat}(h:a+w<=s.w):(part s a w).bits=(s.bits.drop a).take w:=by
 cases s with
 |co bs=>simp[part,Sg.bits]
 |va v l n =>
  simp only[Sg.w]at h;simp only[part,Sg.bits];refine ARx (by grind) λi h1 h2=>?_;simp[ARk]
theorem zQ{s:Sg}{a w:Nat}(h:a+w<=s.w):(part s a w).w=w:=by
 rw[<-Iw,pI h,AQA,AQP,Iw];omega
theorem zP{s:Sg}{a w:Nat}(hs:Xl s)(h:a+w<=s.w):Xl (part s a w):=by
 cases s with
 |co bs=>simp only[part,Xl,AQA,AQP]at *;omega
 |va v l n=>simp only[part,Xl,Sg.w]at *;omega
theorem z7{s:Sg}{a w:Nat}(hs:Xl s)(h1:1<=w)(h:a+w<=s.w):∃r,O8 (Ir s) (a:Int) (w:Int)=some r/\(r.1,r.2.1,r.2.2.1,(r.2.2.2.1,r.2.2.2.2,()),())=Ir (part s a w):=by
 unfold O8;cases s with
 |co bs =>
  simp only[Xl]at hs;simp only[Sg.w]at h;obtain⟨r,gQ,hr2⟩:=Aa7 (show bs.length<=8192 by omega) h1 h;rw[show((Ir _).1==-1)=true from rfl,show Fe (Ir (.co bs)).2.2.2.1 _ w=some r from gQ];refine⟨_,rfl,?_⟩;have hw:r.1=w:=by
   have:=congrArg (λx =>x.1) hr2;have e:r.1=((((bs.drop a).take w).length)):=this;rw[e,AQA,AQP];omega
  show(-1,0,r.1,(r.1,r.2,()),())=Ir (.co _);rw[hr2];rw[show Ir _=(-1,0,(((bs.drop a).take w).length:Int),fW _,())from rfl,hw,show((bs.drop a).take w).length=w by grind]
 |va v l n =>
  simp only[Xl]at hs;simp only[Sg.w]at h;refine⟨_,rfl,?_⟩;simp only[part,Ir];rw[show wI _=((l+a:Nat))from AZ]
theorem iH{f:ATU Sg}{k:Nat}(h:k<f.length):(fV f).getD k Ag.zero=Ir (f.getD k (.co [])):=FA Ir h
theorem Ul{f:ATU Sg}{k:Nat}(h:k<f.length):Dt (f.take (k+1))=Dt (f.take k)++(f.getD k (.co [])).bits:=by
 rw[AY h (z:=.co [])];simp[Dt]
theorem ZM(s:Sg):(Ir s).2.2.1=(s.w:Int):=by cases s<;>rfl
theorem AgM{B S:ATU Bt}{lo w:Nat}:((B++S).drop lo).take w=(B.drop lo).take w++(S.drop (max lo B.length-B.length)).take (min (lo+w) (B.length+S.length)-max lo B.length):=by
 rw[List.drop_append,List.take_append,AQP];congr 1;rw[show max lo B.length-B.length=lo-B.length by omega,List.take_eq_take_iff,AQP];omega
theorem Qq{bs:ATU Bt}(hb:∀b∈bs,Xl b.sg)(hl:bs.length<=4096):∀s∈AA bs,Xl s:=by
 have:∀(bs:ATU Bt) (f:ATU Sg),(∀b∈bs,Xl b.sg)->(∀s∈f,Xl s)->Bh f+bs.length<=4096->∀s∈Zc f bs,Xl s:=λbs=>by
  induction bs with
  |nil=>exact λf _ h _=>h
  |cons b bs ih =>
   intro f hb hf hw;simp only[ARe]at hw;exact ih _ (λx hx=>hb x (AQH _ hx)) (eA hf (hb b AQK) (by rw[AwK];omega)) (by rw[lR,AwK];omega)
 exact this bs [] hb (λs hs=>by grind) (by show 0+_<=_;omega)
theorem vj{f:ATU Sg}{lo w:Nat}(h1:aO f)(hf:∀s∈f,Xl s)(hb:∀b∈Dt f,Xl b.sg)(hw:Bh f<=4096)(hlo:lo+w<=8192):Ff (fV f) (lo:Int) (w:Int)=some (fV (AA (((Dt f).drop lo).take w))):=by
 unfold Ff SN;have hlen:=CQ h1;have:=AP (f:=EN (lo:Int) (w:Int) (fV f) ((fV f).length:Int)) (λk=>((Bh (f.take k):Int),(k:Int),fV (AA (((Dt (f.take k)).drop lo).take w)))) (t:=fV (AA (((Dt f).drop lo).take w))) f.length (λk hk=>by
  have hwk:=FJ hk;have Tl:=Fw f (k+1);have hm:f.getD k (.co [])∈f:=AK hk;obtain⟨s,hs⟩:∃s,s=f.getD k (.co []):=⟨_,rfl⟩;have hB:(Dt (f.take k)).length=Bh (f.take k):=Lx _;have AhI:∀b∈((Dt (f.take k)).drop lo).take w,b∈Dt f:=λb hb=>by
   have:=AR6 (ARw hb);rw[show Dt f=Dt (f.take k)++Dt (f.drop k) by unfold Dt;rw[<-ASd,ARp]];exact AQN _ this
  unfold EN KB;simp only;rw[Cj,C9 hk,AQv,AQx (Bj hk),AQg,iH hk,Bl hk (by omega),Ul hk,AgM,hB,Iw,hwk];rw[<-hs]at hm hwk⊢;rw[ZM,show wI ((Bh (f.take k):Int)+(s.w:Int))=((Bh (f.take k)+s.w:Nat):Int)from AZ,show wI ((lo:Int)+(w:Int))=((lo+w:Nat):Int)from AZ];generalize hA:Bh (f.take k)=A at *;rw[show(if(A:Int)>(lo:Int)then(A:Int)else(lo:Int))=((max lo A:Nat):Int) by split<;>omega];rw[show(if((A+s.w:Nat):Int)<((lo+w:Nat):Int)then((A+s.w:Nat):Int)else((lo+w:Nat):Int))=((min (lo+w) (A+s.w):Nat):Int) by split<;>omega];unfold NR;by_cases Bp:max lo A<min (lo+w) (A+s.w)
  ·rw[show decide (((max lo A:Nat):Int)<((min (lo+w) (A+s.w):Nat):Int))=true by simp only[ARv];omega,AQv];rw[show wI (((max lo A:Nat):Int)-(A:Int))=((max lo A-A:Nat):Int)from AZ,show wI (((min (lo+w) (A+s.w):Nat):Int)-((max lo A:Nat):Int))=((min (lo+w) (A+s.w)-max lo A:Nat):Int)from AZ];have Gq:max lo A-A+(min (lo+w) (A+s.w)-max lo A)<=s.w:=by omega
   obtain⟨r,gQ,hr2⟩:=z7 (a:=max lo A-A) (w:=min (lo+w) (A+s.w)-max lo A) (hf s hm) (by omega) Gq;rw[gQ,AQf,hr2];rw[show([Ir (part s (max lo A-A) (min (lo+w) (A+s.w)-max lo A))]:ASO)=fV [part s (max lo A-A) (min (lo+w) (A+s.w)-max lo A)]from rfl];rw[wR (λx hx=>by rw[AQG]at hx;rw[hx,zQ Gq];omega) (CJ _) (λx hx=>by rw[AQG]at hx;rw[hx];exact zP (hf s hm) Gq)
    (Qq (λb zo=>hb b (AhI b zo)) (by rw[AQA,AQP,hB];omega)) (by
     rw[B9,AQA,AQP,hB];show _+(Bh [part s _ _])<=_;rw[show Bh [part s (max lo A-A) (min (lo+w) (A+s.w)-max lo A)]=min (lo+w) (A+s.w)-max lo A by simp only[Bh,AQ0,ARN,ARV,List.sum_nil,zQ Gq];rfl];omega)]
   simp only[AQf];rw[il (λx hx=>by rw[AQG]at hx;rw[hx,zQ Gq];omega)];rw[show Dt [part s (max lo A-A) (min (lo+w) (A+s.w)-max lo A)]=(s.bits.drop (max lo A-A)).take (min (lo+w) (A+s.w)-max lo A) by simp[Dt,pI Gq]];rw[show ∀a b:ATU Bt,Zc (AA a) b=AA (a++b)from λa b=>(MU [] a b).symm]
  ·rw[show decide (((max lo A:Nat):Int)<((min (lo+w) (A+s.w):Nat):Int))=false by simp only[ARa];omega,AQu];simp only[AQf];rw[show min (lo+w) (A+s.w)-max lo A=0 by omega,AR9,AQU]) (by
  unfold EN KB;simp only;rw[Cj,DU,AQu,AQp (AQl _)])
 have h0:((Bh (f.take 0):Int),((0:Nat):Int),fV (AA (((Dt (f.take 0)).drop lo).take w)))=((0:Int),(0:Int),([]:ASO)):=by
  simp[Bh,Dt,AA,Zc,fV]
 rw[h0]at this;rw[this];rfl
def BtB:Bt->Prop
 |.co _=>True
 |.va v a=>v<=4096/\a+1<=4096
theorem fy{b:Bt}(h:BtB b):Xl b.sg:=by
 cases b with
 |co b=>simp[Bt.sg,Xl]
 |va v a=>exact h
theorem CM(f:ATU Bt):(bV f).length=f.length:=AQr _
theorem Xt(f g:ATU Bt):bV (f++g)=bV f++bV g:=AQY
theorem db{f:ATU Bt}{k:Nat}(h:k<f.length):(bV f).getD k Aa.zero=WA (f.getD k (.co false)):=FA WA h
theorem HP{f:ATU Bt}{k:Nat}(h:k<f.length):f.take (k+1)=f.take k++[f.getD k (.co false)]:=AY h
theorem pB(bs:ASI):(fW bs).2.1.length=nw bs.length/\CW (fW bs).2.1:=⟨ED _ _,DC _ _⟩
theorem Amt{bs:ASI}{k:Nat}(h:k<bs.length)(hl:bs.length<=8192):Jj (fW bs) (k:Int)=some (bI (bs.getD k false)):=by
 have:=lu (w:=bs.length) (DC (low (λi=>bs.getD i false) bs.length) (nw bs.length)) (i:=k) (by rw[ED];unfold nw;omega) (by rw[ED];unfold nw;omega);rw[qK h]at this;exact this
theorem zG{f:ATU Sg}{i:Nat}{B:ATU Bt}(hi:i<f.length)(hs:Xl (f.getD i (.co [])))(hB:B.length<=8192):Wh (fV f) (i:Int) 0 (bV B)=some (bV (B++(f.getD i (.co [])).bits)):=by
 obtain⟨s,iM⟩:∃s,s=f.getD i (.co []):=⟨_,rfl⟩;rw[<-iM]at hs⊢;have hsw:s.w<=4096:=by cases s<;>simp only[Xl,Sg.w]at *<;>omega
 have:=AP (f:=Hg _ _) (λk=>(k,bV (B++s.bits.take k)))  s.w (λk hk=>by
  unfold Hg Oj RV;simp only;have tO:0<=(i:Int)/\i<((fV f).length:Int):=Bj (by rw[Cj];exact hi);rw[AQx tO,AQg,iH hi,<-iM,ZM,C9 hk,AQv,AQx tO];have hlen:(bV (B++s.bits.take k)).length<=20000:=by rw[CM,AQj,AQA];omega
  have X0:k<s.bits.length:=by rw[Iw];exact hk
  rw[Bl hk (by omega),HP X0,<-AQn,show bV (B++s.bits.take k++[s.bits.getD k _])=bV _++[WA _]from Xt _ _];cases s with
  |co bs =>
   simp only[Sg.w]at hk hsw;rw[show decide _=true from rfl,AQv,AQx tO,show Jj (Ir (.co bs)).2.2.2.1 _=some _ from Amt hk (by omega),AQf];rw[AQx (by grind)];rw[show wI _=bI (bs.getD k _) by cases bs.getD k _<;>rfl];rw[show(Sg.co bs).bits.getD k _=.co (bs.getD k _) by simp[Sg.bits,hk]];rfl
  |va v l n =>
   simp only[Sg.w,Xl]at hk hs hsw;rw[show decide ((Ir (.va v l n)).1<0)=false from AQi (show ¬((v:Int)<0) by omega),AQu,AQx tO,AQx tO,AQx (by grind)];rw[show wI _=((l+k))from AZ (by show l+(k:Int)=_;omega) (by omega)];rw[show(Sg.va v l n).bits.getD k _=.va v (l+k) by simp[Sg.bits,hk]];rfl) (by
  unfold Hg Oj;have tO:0<=(i:Int)/\i<((fV f).length:Int):=Bj (by rw[Cj];exact hi);rw[AQx tO,AQg,iH hi,<-iM,ZM,DU,AQu,<-Iw,AQp (AQl _)])
 rw[AR9,AQU]at this;exact this
theorem pd{f:ATU Sg}(h1:aO f)(hf:∀s∈f,Xl s)(hw:Bh f<=4096):I5 (fV f)=some (bV (Dt f)):=by
 unfold I5 Wi;have hlen:=CQ h1;have:=AP (f:=EZ _) (λk=>(k,bV (Dt (f.take k))))  _ (λk hk=>by
  unfold EZ Ol;have:=Fw f k;rw[Cj,C9 hk,AQv,zG hk (hf _ (AK hk)) (by rw[Lx];omega),AQf,Bl hk (by omega),Ul hk]) (by
  unfold EZ Ol;rw[Cj,DU,AQu,AQp (AQl _)])
 rw[show fix (EZ _) (0,[])=some _ from this];rfl
end Go.Proofs.X
namespace Go.Proofs.X
open Go Go.Va
set_option maxRecDepth 100000
theorem AkL(b:Bt):decide ((WA b).1<0)=(match b with |.co _=>true |.va _ _=>false):=by
 cases b with
 |co b=>rfl
 |va v a=>exact AQi (show ¬((v:Int)<0) by omega)
theorem AwI{B:ATU Bt}{D:ASO}{i:Nat}{b:Bool}(hi:i<B.length)(hb:B.getD i (.co false)=.co b)(hl:B.length<=4096) :
    Az (Wj (bV B) D ((i+1:Nat):Int) [bI b]) λr=>∃bs:ASI,r=(((i+bs.length:Nat):Int),bs.map bI)/\1<=bs.length/\i+bs.length<=B.length/\bs.getD 0 false=b/\B.take (i+bs.length)=B.take i++bs.map .co/\(i+bs.length<B.length->∃v a,B.getD (i+bs.length) (.co false)=.va v a):=by
 refine Bu (λm x=>∃bs:ASI,x=(((i+bs.length:Nat):Int),bs.map bI)/\1<=bs.length/\i+bs.length<=B.length/\bs.getD 0 false=b/\B.take (i+bs.length)=B.take i++bs.map .co/\m=B.length-(i+bs.length)) (λm x hI=>?_) _ _ ⟨[b],rfl,by simp,hi,rfl,by
  show B.take (i+1)=_;rw[HP hi,hb];rfl,rfl⟩
 obtain⟨bs,rfl,h1,h2,h3,h4,rfl⟩:=hI;unfold Om Tb RY;rcases AQq _ _ with h |h
 ·rw[CM,C9 h,AQx (Bj h),AQg,db h];cases hx:B.getD _ _ with
  |co y =>
   rw[AQx (Bj h),AQx (by grind),Bl h (by omega)];refine Az.mk ⟨_,?_,bs++[y],?_,by simp,by grind,?_,?_,rfl⟩
   ·grind
   ·rw[show IntKind.u8.wrap _=bI y by cases y<;>rfl];simp[ARk]
   ·grind
   ·rw[AQj];show B.take (i+bs.length+1)=_;rw[HP h,h4,hx,AQY,AQn];rfl
  |va v a =>
   exact Az.mk ⟨bs,rfl,h1,h2,h3,h4,λ_=>⟨v,a,hx⟩⟩
 ·rw[CM,show decide _=false from Ic,AQu,AQf];exact Az.mk ⟨bs,rfl,h1,h2,h3,h4,λh'=>absurd h' (by omega)⟩
theorem AwJ{B:ATU Bt}{D:ASO}{i v a:Nat}(hi:i<B.length)(hb:B.getD i (.co false)=.va v a)(hB:∀b∈B,BtB b)(hl:B.length<=4096) :
    Az (R1 (bV B) (i:Int) D ((i+1:Nat):Int)) λr=>∃n,r=((i+n:Nat):Int)/\1<=n/\i+n<=B.length/\B.take (i+n)=B.take i++(Sg.va v a n).bits/\(i+n<B.length->(Sg.va v a n).join (B.getD (i+n) (.co false)).sg=none):=by
 unfold R1;refine Bu (λm (x:Int)=>∃n,x=((i+n:Nat):Int)/\1<=n/\i+n<=B.length/\B.take (i+n)=B.take i++(Sg.va v a n).bits/\m=B.length-(i+n)) (λm x hI=>?_) (B.length-(i+1)) _ ⟨1,rfl,by omega,hi,by
  rw[HP hi,hb];rfl,rfl⟩
 obtain⟨n,rfl,h1,h2,h4,rfl⟩:=hI;unfold On Tc RZ;have AnY:B.getD (i+n-1) (.co false)=.va v (a+n-1):=by
  have e:(B.take (i+n)).getD (i+n-1) (.co false)=B.getD (i+n-1) (.co false):=by
   simp only[List.getD,ARg,show i+n-1<i+n by omega,AQ2]
  rw[<-e,h4];have hti:(B.take i).length=i:=by rw[AQA];omega
  simp only[List.getD,AQF,hti,show ¬i+n-1<i by omega,ARH];rw[show i+n-1-i=n-1 by omega];simp only[Sg.bits,AQI,ARW,show n-1<n by omega,Option.map_some,Option.getD_some];congr 1;omega
 have OM:=hB (.va v (a+n-1)) (by rw[<-AnY];exact AK (by omega));simp only[BtB]at OM;rcases AQq (i+n) B.length with h |h
 ·rw[CM,C9 h,AQv,AQx (Bj h),AQg,AQg,db h,AQx (Bj hi),db hi,hb];rw[show wI (((i+n:Nat):Int)-1)=((i+n-1:Nat):Int)from AZ,AQg,db (by omega),AnY,AQx (Bj h),AQx (Bj (by omega))];rw[show wI ((WA (.va v (a+n-1))).2.1+1)=((a+n:Nat):Int)from AZ (by show((a+n-1:Nat):Int)+1=_;omega) (by omega)];by_cases hc:B.getD (i+n) (.co false)=.va v (a+n)
  ·rw[hc];rw[show((WA (.va v (a+n))).1==(WA (.va v a)).1)=true from ASo (v:Int),AQv,show((WA (.va v (a+n))).2.1==((a+n:Nat):Int))=true from ASo _,AQv,AQf,ARy,Bl h (by omega)];refine Az.mk ⟨_,?_,n+1,by rw[ARk],by omega,by omega,?_,rfl⟩
   ·omega
   ·rw[<-ARk,HP h,h4,hc];simp[Sg.bits,ARn]
  ·have aT:(bif (WA (B.getD (i+n) (.co false))).1==(WA (.va v a)).1 then(bif (WA (B.getD (i+n) (.co false))).2.1==((a+n:Nat):Int)then some (.inl ())else some (.inr ()))else some (.inr ()):ATV (Unit⊕Unit))=some (.inr ()):=by
     cases hx:B.getD (i+n) (.co false)with
     |co y=>rw[show((WA (.co y)).1==(WA (.va v a)).1)=false by simp[WA]];rfl
     |va v' a' =>
      by_cases hv:v'=v
      ·by_cases ha:a'=a+n
       ·subst hv ha;exact absurd hx hc
       ·rw[show((WA (.va v' a')).2.1==((a+n:Nat):Int))=false from beq_eq_false_iff_ne.2 λe=>ha (Int.ofNat.inj e)];cases ((WA (.va v' a')).1==(WA (.va v a)).1)<;>rfl
      ·rw[show((WA (.va v' a')).1==(WA (.va v a)).1)=false from beq_eq_false_iff_ne.2 λe=>hv (Int.ofNat.inj e)];rfl
   refine Az.of (a:=.inr ((i+n:Nat):Int)) (by
    have:=congrArg (λo=>o.bind (Sum.elim (λ(_:Unit)=>some (.inl (wI (((i+n:Nat):Int)+1)))) (λ(_:Unit)=>some (.inr ((i+n:Nat):Int):Int⊕Int)))) aT;exact this) ?_
   refine⟨n,rfl,h1,h2,h4,λ_=>?_⟩;cases hx:B.getD (i+n) (.co false)with
   |co y=>rfl
   |va v' a' =>
    simp only[Sg.join,Bt.sg];rw[AQy]
    rintro⟨rfl,rfl⟩
    exact hc hx
 ·rw[CM,show decide (((i+n:Nat):Int)<(B.length:Int))=false from Ic,AQu,AQf,ARi];exact Az.mk ⟨n,rfl,h1,h2,h4,λh'=>absurd h' (by omega)⟩
theorem Ajm{l s:Sg}{b:Bt}{r:ATU Bt}(hs:s.bits=b::r)(h:l.join b.sg=none):l.join s=none:=by
 cases s with
 |co bs =>
  cases bs with
  |nil=>simp[Sg.bits]at hs
  |cons x xs =>
   obtain⟨rfl,_⟩:=hs;cases l<;>simp[Sg.join,Bt.sg]at h⊢
 |va v a n =>
  cases n with
  |zero=>simp[Sg.bits]at hs
  |succ n =>
   simp only[Sg.bits,List.range_succ_eq_map,AR3]at hs;obtain⟨rfl,_⟩:=hs;cases l with
   |co y=>rfl
   |va v' l' n' =>
    simp only[Sg.join,Bt.sg,ASj]at h⊢
    grind
def Stop(f:ATU Sg)(b:Bt):Prop:=∀l,f.getLast?=some l->l.join b.sg=none
theorem Aag{f:ATU Sg}{s:Sg}{b:Bt}{r:ATU Bt}(h:Stop f b)(hs:s.bits=b::r):Jd f s=f++[s]:=by
 unfold Jd;cases hl:f.getLast? with
 |none=>rw[List.getLast?_eq_none_iff]at hl;subst hl;rfl
 |some l=>simp only[Ajm hs (h l hl)]
theorem Ain{B:ATU Bt}{s:Sg}{b:Bt}{r:ATU Bt}(h:Stop (AA B) b)(hs:s.bits=b::r)(hw:1<=s.w):AA (B++s.bits)=AA B++[s]:=by
 rw[show AA _=Zc (AA B) _ from MU [] B _,<-ZK _ s _ rfl hw,Aag h hs]
theorem Adi{B:ATU Bt}(hB:∀b∈B,BtB b)(hl:B.length<=4096):Ue (bV B)=some (decide ((AA B).length<=2000),fV (AA B)):=by
 unfold Ue UF;refine Az.eq_ (Az.bind (P:=λr=>r=fV (AA B)) ?_ λr hr=>Az.mk (by
  rw[hr,Cj];congr 1;rw[ARI];omega))
 refine Bu (λm (x:Int×ASO)=>∃i:Nat,x=((i:Int),fV (AA (B.take i)))/\i<=B.length/\(i<B.length->Stop (AA (B.take i)) (B.getD i (.co false)))/\m=B.length-i) (λm x hI=>?_) B.length _ ⟨0,rfl,AQ1 _,λ_ l hl=>by simp[AA,Zc]at hl,rfl⟩;obtain⟨i,rfl,hi,BS,rfl⟩:=hI;unfold My RX;simp only;rcases AQq i B.length with h |h
 ·rw[CM,C9 h,AQv,Bl h (by omega)];have hfl:(fV (AA (B.take i))).length<=4096:=by
   have h1:=CQ (CJ (B.take i));rw[B9,AQA]at h1;rw[Cj];omega
  have key:∀s:Sg,∀n,n=s.w->1<=n->i+n<=B.length->B.take (i+n)=B.take i++s.bits->(i+n<B.length->s.join (B.getD (i+n) (.co false)).sg=none)->(s.bits.head?=some (B.getD i (.co false))) ->
      (fV (AA (B.take i))++[Ir s]=fV (AA (B.take (i+n))))/\(i+n<B.length->Stop (AA (B.take (i+n))) (B.getD (i+n) (.co false))):=by
   rintro s n rfl h1 h2 h3 h4 h5
   obtain⟨r,hr⟩:∃r,s.bits=B.getD i (.co false)::r:=by
    cases hs:s.bits with
    |nil=>rw[hs]at h5;cases h5
    |cons c r=>rw[hs]at h5;simp only[List.head?_cons,AQh]at h5;exact⟨r,by rw[h5]⟩
   have hn:=Ain (BS h) hr h1;rw[h3,hn];refine⟨by rw[SG];rfl,λBp l hl=>?_⟩;rw[List.getLast?_append]at hl;simp only[List.getLast?_singleton,Option.some_or,AQh]at hl;subst hl;exact h4 Bp
  unfold R3;rw[CM,AQx (Bj h),AQg,db h,AkL];cases hx:B.getD i (.co false)with
  |co b =>
   simp only[AQv];rw[AQx (Bj h),show IntKind.u8.wrap (WA (.co b)).2.1=bI b by cases b<;>rfl];have Ep:=AwI (D:=fV (AA (B.take i))) h hx hl;refine Az.bind (P:=λy=>∃n,y=(((i+n:Nat):Int),fV (AA (B.take (i+n))))/\1<=n/\i+n<=B.length/\(i+n<B.length->Stop (AA (B.take (i+n))) (B.getD (i+n) (.co false)))) (Ep.bind λy hy=>?_) λy hy=>?_
   ·obtain⟨bs,rfl,h1,h2,h3,h4,h5⟩:=hy;have hk:=key (.co bs) bs.length rfl h1 h2 h4 (λBp=>by obtain⟨v,a,e⟩:=h5 Bp;rw[e];rfl) (by
     rw[hx];cases bs with
     |nil=>simp at h1
     |cons z zs=>simp only[Sg.bits,AQ0,List.head?_cons];rw[<-h3];rfl)
    rw[ay h1 (by omega),AQf,AQx (by show(_+1)*56<=_;omega)];exact Az.mk ⟨bs.length,by rw[<-hk.1];rfl,h1,h2,hk.2⟩
   ·obtain⟨n,rfl,h1,h2,h3⟩:=hy;exact Az.mk ⟨B.length-(i+n),by omega,i+n,rfl,h2,h3,rfl⟩
  |va v a =>
   simp only[AQu];have Ep:=AwJ (D:=fV (AA (B.take i))) h hx hB hl;refine Az.bind (P:=λy=>∃n,y=(((i+n:Nat):Int),fV (AA (B.take (i+n))))/\1<=n/\i+n<=B.length/\(i+n<B.length->Stop (AA (B.take (i+n))) (B.getD (i+n) (.co false)))) (Ep.bind λy hy=>?_) λy hy=>?_
   ·obtain⟨n,rfl,h1,h2,h4,h5⟩:=hy;have hk:=key (.va v a n) n rfl h1 h2 h4 h5 (by
     rw[hx];obtain⟨m,rfl⟩:∃m,n=m+1:=⟨n-1,by omega⟩;simp[Sg.bits,List.range_succ_eq_map])
    rw[AQx (Bj h),AQx (Bj h),AQx (by show(_+1)*56<=_;omega),show wI (((i+n:Nat):Int)-(i:Int))=(n:Int)from AZ];exact Az.mk ⟨n,by rw[<-hk.1];rfl,h1,h2,hk.2⟩
   ·obtain⟨n,rfl,h1,h2,h3⟩:=hy;exact Az.mk ⟨B.length-(i+n),by omega,i+n,rfl,h2,h3,rfl⟩
 ·have:i=B.length:=by omega
  subst this;rw[CM,DU,AQu,AQp (AQl _)];exact Az.mk rfl
end Go.Proofs.X
namespace Go.Proofs.X
open Go Go.Va
set_option maxRecDepth 100000
def kD(c:Int):Prop:=48<=c/\c<=57
def Uy(c:Int):Prop:=97<=c/\c<=122
instance (c:Int):Decidable (kD c):=inferInstanceAs (Decidable (_/\_))
instance (c:Int):Decidable (Uy c):=inferInstanceAs (Decidable (_/\_))
def tX(s:ByteArray):Prop:=1<=s.size/\s.size<=12/\¬kD (C8 s 0)/\∀i:Nat,i<s.size->kD (C8 s i)\/Uy (C8 s i)
theorem ly(c:Int):Oc c=decide (kD c):=(ARf _ _).symm
theorem sY{s:ByteArray}{i:Nat}(hi:i<s.size):Nw s (i:Int)=some (decide ¬(kD (C8 s i)\/Uy (C8 s i))):=by
 unfold Nw;rw[AQx (Bj hi),AQx (Bj hi),AQx (Bj hi),ly];generalize C8 s _=c;by_cases h1:kD c
 ·grind
 ·rw[AQi h1];by_cases h2:c<97
  ·rw[AQk h2,AQk (p:=¬(kD c\/Uy c)) (by unfold Uy;rintro(h |h);exact h1 h;omega)];rfl
  ·rw[AQi h2];refine congrArg some (decide_eq_decide.2 ?_);unfold Uy kD at *;omega
theorem r7{s:ByteArray}{i:Nat}(hi:i<s.size):M6 s (i:Int)=some (decide ¬(kD (C8 s i)\/Uy (C8 s i))):=by
 unfold M6;simp only[AQx (Bj hi)];generalize C8 s i=c;by_cases h1:c<97
 ·rw[AQk h1];by_cases h2:c<48
  ·rw[AQk h2];exact congrArg some (AQk (by unfold kD Uy;omega)).symm
  ·rw[AQi h2];exact congrArg some (decide_eq_decide.2 (by unfold kD Uy;omega))
 ·rw[AQi h1];by_cases h2:c>122
  ·rw[AQk h2];by_cases h3:c<48
   ·omega
   ·rw[AQi h3];exact congrArg some (decide_eq_decide.2 (by unfold kD Uy;omega))
  ·rw[AQi h2];exact congrArg some (AQi (by unfold kD Uy;omega)).symm
theorem xe(s:ByteArray):Az (QJ s) λr=>r=true↔tX s:=by
 unfold QJ RR;by_cases h1:s.size<1
 ·rw[LL];exact Az.mk ⟨λh=>by grind,λh=>absurd h.1 (by omega)⟩
 ·rw[Ic,AQu];by_cases h2:s.size>12
  ·rw[LL];exact Az.mk ⟨λh=>by grind,λh=>absurd h.2.1 (by omega)⟩
  ·rw[Ic,AQu,AQx ⟨by omega,by omega⟩,AQf,ly];by_cases h3:kD (C8 s 0)
   ·rw[AQk h3];exact Az.mk ⟨λh=>by grind,λh=>absurd h3 h.2.2.1⟩
   ·rw[AQi h3];refine Az.bind (P:=λt=>(t=.inl ()/\¬∀i ,i<s.size->kD (C8 s i)\/Uy (C8 s i))\/(t=.inr ()/\∀i ,i<s.size->kD (C8 s i)\/Uy (C8 s i))) ?_ λt ht=>?_
    ·refine BW (λk _=>(k:Int)) s.size (λk _=>∀i ,i<k->kD (C8 s i)\/Uy (C8 s i)) (λk _ hk hI=>?_) (λ_ hI=>?_) (s0:=()) (λi h=>by omega)
     ·unfold Ke Oe;rw[C9 hk,sY hk,AQf];by_cases h:kD (C8 s k)\/Uy (C8 s k)
      ·rw[AQi (λhn=>hn h),Bl hk (by omega)];refine Az.mk ⟨(),rfl,λi hi=>?_⟩
       grind
      ·rw[AQk h];exact Az.mk (.inl ⟨rfl,λh'=>h (h' k hk)⟩)
     ·unfold Ke Oe;rw[DU];exact Az.mk (.inr ⟨rfl,hI⟩)
    ·rcases ht with ⟨rfl,h⟩|⟨rfl,h⟩
     ·exact Az.mk ⟨λh=>by grind,λh'=>absurd h'.2.2.2 h⟩
     ·exact Az.mk ⟨λ_=>⟨by omega,by omega,h3,h⟩,λ_=>rfl⟩
theorem v8(s:ByteArray):Az (QG s) λr=>r=true↔tX s:=by
 unfold QG Rf;by_cases h1:s.size<1
 ·rw[LL];exact Az.mk ⟨λh=>by grind,λh=>absurd h.1 (by omega)⟩
 ·rw[Ic,AQu];by_cases h2:s.size>12
  ·rw[LL];exact Az.mk ⟨λh=>by grind,λh=>absurd h.2.1 (by omega)⟩
  ·rw[Ic,AQu,AQx ⟨by omega,by omega⟩,AQx ⟨by omega,by omega⟩];by_cases h3:Uy (C8 s 0)
   ·have h4:(bif decide (C8 s 0<97)then some true else some (decide (C8 s 0>122)))=some false:=by
      unfold Uy at h3
      grind
    rw[h4,AQf];refine Az.bind (P:=λt=>(t=.inl ()/\¬∀i ,i<s.size->kD (C8 s i)\/Uy (C8 s i))\/(t=.inr ()/\∀i ,i<s.size->kD (C8 s i)\/Uy (C8 s i))) ?_ λt ht=>?_
    ·refine BW (λk _=>(k:Int)) s.size (λk _=>∀i ,i<k->kD (C8 s i)\/Uy (C8 s i)) (λk _ hk hI=>?_) (λ_ hI=>?_) (s0:=()) (λi h=>by omega)
     ·unfold J0 NT;rw[C9 hk,r7 hk,AQf];by_cases h:kD (C8 s k)\/Uy (C8 s k)
      ·rw[AQi (λhn=>hn h),Bl hk (by omega)];refine Az.mk ⟨(),rfl,λi hi=>?_⟩
       grind
      ·rw[AQk h];exact Az.mk (.inl ⟨rfl,λh'=>h (h' k hk)⟩)
     ·unfold J0 NT;rw[DU];exact Az.mk (.inr ⟨rfl,hI⟩)
    ·rcases ht with ⟨rfl,h⟩|⟨rfl,h⟩
     ·exact Az.mk ⟨λh=>by grind,λh'=>absurd h'.2.2.2 h⟩
     ·refine Az.mk ⟨λ_=>⟨by omega,by omega,?_,h⟩,λ_=>rfl⟩;unfold Uy at h3;unfold kD;omega
   ·have h4:(bif decide (C8 s 0<97)then some true else some (decide (C8 s 0>122)))=some true:=by
      unfold Uy at h3
      grind
    rw[h4,AQf];refine Az.mk ⟨λh=>by grind,λh=>?_⟩;rcases h.2.2.2 0 (by omega)with h' |h'
    ·exact absurd h' h.2.2.1
    ·grind
theorem Tv(n a b:Int):BL n a b=decide (a<=n/\n<=b):=by unfold BL;rw[ARf]
theorem LD(n a b:Int):AW n a b=decide (a<=n/\n<=b):=by unfold AW;rw[ARf]
def kB(d:ASL)(i:Nat):ASv:=d.getD i Ab.zero
def dw(d:ASL)(i:Nat):Int:=(kB d i).2.1
def Lh(d:ASL)(k:Nat):Int:=((d.take k).map λx=>x.2.1).sum
theorem Xx{d:ASL}{k:Nat}(h:k<d.length):Lh d (k+1)=Lh d k+dw d k:=by
 unfold Lh;rw[AY h (z:=Ty.zero _),AQY];simp[dw,kB]
def gA(d:ASL)(i:Nat):Prop:=tX (kB d i).1/\(1<=dw d i/\dw d i<=4096)/\∀k,k<i->(kB d k).1≠(kB d i).1
def AE(d:ASL):Prop:=d.length<=60/\(∀i,i<d.length->gA d i)/\Lh d d.length<=20000
theorem Hv{d:ASL}{k:Nat}(hk:k<=d.length)(h:∀i,i<k->gA d i):0<=Lh d k/\Lh d k<=4096*k:=by
 induction k with
 |zero=>simp[Lh]
 |succ k ih =>
  rw[Xx (by omega)];have:=ih (by omega) λi hi=>h i (by omega);have:=(h k (by omega)).2.1;omega
theorem Vi(d:ASL):Az (KY d) λr=>r=true↔AE d:=by
 unfold KY;by_cases hl:d.length<=60
 ·rw[Ic];refine Az.bind (P:=λt=>(∃x,t=.inl x/\¬∀i,i<d.length->gA d i)\/(t=.inr (Lh d d.length)/\∀i,i<d.length->gA d i)) (BW (λk _=>(Lh d k,(k:Int))) d.length (λk _=>∀i,i<k->gA d i) (λk _ hk hI=>?_) (λ_ hI=>?_) (s0:=()) (λi h=>by omega)) λt ht=>?_
  ·unfold I2 Mp PR;rw[C9 hk,AQx (Bj hk),AQg];show Az (((QJ (kB d k).1).bind _).bind _) _;obtain⟨r,hr,hq⟩:=xe _;rw[hr,AQf];by_cases h1:tX (kB d k).1
   ·rw[hq.2 h1];simp only[AQZ,AQu];rw[AQx (Bj hk),AQx (Bj hk),AQf];by_cases h2:1<=dw d k/\dw d k<=4096
    ·rw[show BL (d.getD k _).2.1 1 4096=true from(Tv _ _ _).trans (AQk h2)];refine Az.bind (P:=λt=>(t=.inl ()/\¬∀j,j<k->(kB d j).1≠(kB d k).1)\/(t=.inr ()/\∀j,j<k->(kB d j).1≠(kB d k).1)) ?_ λt ht=>?_
     ·refine BW (λj _=>(j:Int)) k (λj _=>∀i,i<j->(kB d i).1≠(kB d k).1) (λj _ hj hJ=>?_) (λ_ hJ=>?_) (s0:=()) (λi h=>by omega)
      ·unfold I1 Mn;rw[C9 hj,AQx (Bj (by omega)),AQx (Bj hk),AQg];show Az (bif Jn (kB d j).1 (kB d k).1 then _ else _) _;cases he:Jn _ _ with
       |true=>exact Az.mk (.inl ⟨rfl,λh=>h j hj ((XX _ _).1 he)⟩)
       |false =>
        rw[Bl hj (by omega)];refine Az.mk ⟨(),rfl,λi hi=>?_⟩;rcases AQq i j with h' |h'
        ·grind
        ·rw[show i=j by omega];intro e;rw[(XX _ _).2 e]at he;cases he
      ·unfold I1 Mn;rw[DU];exact Az.mk (.inr ⟨rfl,hJ⟩)
     ·rcases ht with ⟨rfl,h⟩|⟨rfl,h⟩
      ·exact Az.mk (.inl ⟨_,rfl,λh'=>h (h' k hk).2.2⟩)
      ·rw[Bl hk (by omega)];have hb:=Hv (by omega) hI;rw[show wI _=Lh d _ by
        rw[Xx hk];have:(d.getD k _).2.1=dw d k:=rfl;rw[this,BH]]
       refine Az.mk ⟨(),rfl,λi hi=>?_⟩;rcases AQq i k with h' |h'
       ·grind
       ·rw[show i=k by omega];exact⟨h1,h2,h⟩
    ·rw[show BL (d.getD k _).2.1 1 4096=false from(Tv _ _ _).trans (AQi h2)];exact Az.mk (.inl ⟨_,rfl,λh=>h2 (h k hk).2.1⟩)
   ·rw[show r=false by grind];exact Az.mk (.inl ⟨_,rfl,λh=>h1 (h k hk).1⟩)
  ·unfold I2 Mp;rw[DU];exact Az.mk (.inr ⟨rfl,hI⟩)
  ·rcases ht with ⟨x,rfl,h⟩|⟨rfl,h⟩
   ·exact Az.mk ⟨λh=>by grind,λh'=>absurd h'.2.1 h⟩
   ·refine Az.mk ⟨λh'=>⟨hl,h,ASi h'⟩,λh'=>AQk h'.2.2⟩
 ·rw[LL];exact Az.mk ⟨λh=>by grind,λh=>absurd h.1 hl⟩
theorem uY{d:ASL}{i:Nat}{name:ByteArray}(hi:i<=d.length)(hl:d.length<=1048576):Az (LA ((d.take i).drop 0) name) λr=>0<=r↔∃j,j<i/\(kB d j).1=name:=by
 unfold LA H8 Jg;have hlen:(d.take i).length=i:=by grind
 rw[AR8,hlen];refine Az.bind  (Az.bind (P:=λt=>(∃j:Nat,t=.inl j/\j<i/\(kB d j).1=name)\/(t=.inr ()/\∀j,j<i->(kB d j).1≠name)) ?_ λt ht=>?_) λr hr=>Az.mk hr
 ·refine BW (λj _=>(j:Int)) i (λj _=>∀k,k<j->(kB d k).1≠name) (λj _ hj hJ=>?_) (λ_ hJ=>?_) (s0:=()) (λi h=>by omega)
  ·unfold CR D8;have hg:(d.take i).getD j (Ty.zero _)=kB d j:=by simp[kB,hj]
   rw[C9 hj,hlen,AQx (Bj hj),AQg,hg];unfold Uo;cases he:Jn _ name with
   |true=>exact Az.mk (.inl ⟨j,rfl,hj,(XX _ _).1 he⟩)
   |false =>
    rw[Bl hj (by omega)];refine Az.mk ⟨(),rfl,λk hk=>?_⟩;rcases AQq k j with h' |h'
    ·grind
    ·rw[show k=j by omega];intro e;rw[(XX _ _).2 e]at he;cases he
  ·unfold CR D8;rw[DU];exact Az.mk (.inr ⟨rfl,hJ⟩)
 ·rcases ht with ⟨j,rfl,h1,h2⟩|⟨rfl,h⟩
  ·exact Az.mk ⟨λ_=>⟨j,h1,h2⟩,λ_=>by omega⟩
  ·exact Az.mk ⟨λh'=>absurd (show 0<=-1 from h') (by omega),λ⟨j,h1,h2⟩=>absurd h2 (h j h1)⟩
theorem Yh(d:ASL):Az (Kx d) λr=>r=true↔AE d:=by
 unfold Kx;by_cases hl:d.length<=60
 ·rw[Ic];refine Az.bind (P:=λt=>(∃x,t=.inl x/\¬∀i,i<d.length->gA d i)\/(t=.inr (Lh d d.length)/\∀i,i<d.length->gA d i)) (BW (λk _=>(Lh d k,(k:Int))) d.length (λk _=>∀i,i<k->gA d i) (λk _ hk hI=>?_) (λ_ hI=>?_) (s0:=()) (λi h=>by omega)) λt ht=>?_
  ·unfold Iz L5 Pv;rw[C9 hk,AQx (Bj hk),AQg];show Az (((QG (kB d k).1).bind _).bind _) _;obtain⟨r,hr,hq⟩:=v8 _;rw[hr,AQf];by_cases h1:tX (kB d k).1
   ·rw[hq.2 h1];by_cases h2:1<=dw d k/\dw d k<=4096
    ·rw[show AW (d.getD k _).2.1 1 4096=true from(LD _ _ _).trans (AQk h2)];simp only[AQZ,AQu];rw[AQx ⟨by omega,by omega,by omega⟩];obtain⟨r',hr',rR⟩:=uY (d:=d) (i:=k)  (by omega) (by omega);rw[show LA _ _=some r' from hr',AQf,AQf];by_cases h3:0<=r'
     ·rw[AQk (show r'>=0 from h3)];obtain⟨j,hj1,hj2⟩:=rR.1 h3;exact Az.mk (.inl ⟨_,rfl,λh=>(h k hk).2.2 j hj1 hj2⟩)
     ·rw[AQi (show ¬r'>=0 from h3),Bl hk (by omega)];have hb:=Hv (by omega) hI;rw[show wI _=Lh d _ by
       rw[Xx hk];have:(d.getD k _).2.1=dw d k:=rfl;rw[this,BH]]
      refine Az.mk ⟨(),rfl,λi hi=>?_⟩;rcases AQq i k with h' |h'
      ·grind
      ·rw[show i=k by omega];exact⟨h1,h2,λj hj e=>h3 (rR.2 ⟨j,hj,e⟩)⟩
    ·rw[show AW (d.getD k _).2.1 1 4096=false from(LD _ _ _).trans (AQi h2)];exact Az.mk (.inl ⟨_,rfl,λh=>h2 (h k hk).2.1⟩)
   ·rw[show r=false by grind];exact Az.mk (.inl ⟨_,rfl,λh=>h1 (h k hk).1⟩)
  ·unfold Iz L5;rw[DU];exact Az.mk (.inr ⟨rfl,hI⟩)
  ·rcases ht with ⟨x,rfl,h⟩|⟨rfl,h⟩
   ·exact Az.mk ⟨λh=>by grind,λh'=>absurd h'.2.1 h⟩
   ·refine Az.mk ⟨λh'=>⟨hl,h,ASi h'⟩,λh'=>AQk h'.2.2⟩
 ·rw[LL];exact Az.mk ⟨λh=>by grind,λh=>absurd h.1 hl⟩
end Go.Proofs.X
namespace Go.Proofs.X
open Go Go.Va
set_option maxRecDepth 100000
def BR(n:ASz):Int:=n.1
def Jc(n:ASz):Int:=n.2.1
def nA(n:ASz):Int:=n.2.2.1
def nB(n:ASz):Int:=n.2.2.2.1
def nW(n:ASz):Int:=n.2.2.2.2.1.1
def ib(n:ASz):ASH:=n.2.2.2.2.1.2.1
def AL(n:ASz):ASH:=n.2.2.2.2.2.1
def Y9(n:ASz):Prop:=(AL n).length<=1048576/\(ib n).length<=1048576/\CW (ib n)
def OJ(n:ASz)(i:Nat):Prop:=∀k∈AL n,0<=k/\k<(i:Int)
def NoB(n:ASz):Prop:=nW n=0/\(ib n).length=0
def cW(n:ASz):Prop:=4<=BR n/\BR n<=9
instance (n:ASz):Decidable (NoB n):=inferInstanceAs (Decidable (_/\_))
instance (n:ASz):Decidable (cW n):=inferInstanceAs (Decidable (_/\_))
def X3(n:ASz):Prop:=(BR n≠1->Jc n=0)/\(BR n≠2->NoB n)/\(BR n≠4->nB n=0)/\(¬cW n->nA n=0)
def uj(n:ASz):Prop:=∃m:Nat,nW n=(m:Int)/\oq m (ib n)
def LY(d:ASL)(n:ASz):Prop :=
 (BR n=1/\(AL n).length=0/\0<=Jc n/\Jc n<(d.length:Int))\/(BR n=2/\(AL n).length=0/\uj n)\/(BR n=3/\2<=(AL n).length)\/(4<=BR n/\BR n<=9/\(AL n).length=1)
def Hq(d:ASL)(n:ASz)(s:Int):Int :=
 if BR n=1 then dw d (Jc n).toNat else if BR n=2 then nW n else
 if BR n=4 then(if 0<=nB n/\nB n<=nA n/\nA n<s then nA n-nB n+1 else -1)else
 if BR n=5\/BR n=6 then(if 0<=nA n/\nA n<=4096 then s+nA n else -1)else
 if BR n=7\/BR n=8 then(if 0<=nA n/\nA n<=4096 then s else -1)else
 if BR n=9 then(if 1<=nA n/\nA n<=4096 then s*nA n else -1)else s
def HE(BP:ASH)(n:ASz):ASH:=(AL n).map λk=>BP.getD k.toNat 0
def tY(d:ASL)(BP:ASH)(n:ASz)(w:Int):Prop :=
 OJ n BP.length/\X3 n/\LY d n/\w=Hq d n (HE BP n).sum/\1<=w/\w<=4096
theorem qI{A:Type}(l:ATU A):((l.length:Int)==0)=decide (l.length=0):=by
 grind
theorem UZ{a b:Int}:(a !=b)=decide (a≠b):=by
 grind
theorem UY{a b:Int}:(a==b)=decide (a=b):=by
 grind
theorem pE(n:ASz):CU n.2.2.2.2.1=decide (NoB n):=by
 have h1:(nW n==0)=decide _:=UY;have h2:=qI (ib n);show((nW n==0)&&(((ib n).length:Int)==0))=_;rw[h2];exact(ARf _ _).symm
theorem wo(n:ASz):A9 n.1=decide (cW n):=by
 exact Tv _ _ _
theorem xd{d:ASL}{n:ASz}{i:Nat}(hn:Y9 n)(hi:i<=1048576)(hd:d.length<=1048576):Az (QK d n (i:Int)) λr=>r=true↔OJ n i/\X3 n/\LY d n:=by
 unfold QK;refine Az.bind (P:=λt=>(t=.inl ()/\¬OJ n i)\/(t=.inr ()/\OJ n i)) ?_ λt ht=>?_
 ·unfold Wd;refine BW (λj (_:Unit)=>(j:Int)) (AL n).length (λj _=>∀k,k<j->0<=(AL n).getD k 0/\(AL n).getD k 0<(i:Int)) (λj _ hj hJ=>?_) (λ_ hJ=>?_) (s0:=()) (λi h=>by omega)
  ·unfold Kg Og;have hlen:=hn.1;show Az (bif decide ((j:Int)<((AL n).length:Int))then(if 0<=(j:Int)/\(j:Int)<((AL n).length:Int)then(bif !BL ((AL n).getD (j:Int).toNat 0) 0 (wI ((i:Int)-1))then _ else _)else none)else _) _;rw[C9 hj,AQv,AQx (Bj hj),AQg,BH (x:=(i:Int)-1),Tv];by_cases h:0<=(AL n).getD j 0/\(AL n).getD j 0<(i:Int)
   ·rw[LL];simp only[AQZ,AQu];rw[Bl hj (by omega)];refine Az.mk ⟨(),rfl,λk hk=>?_⟩;rcases AQq k j with h' |h'
    ·exact hJ k h'
    ·rw[show k=j by omega];exact h
   ·rw[Ic];exact Az.mk (.inl ⟨rfl,λhk=>h (hk _ (AK hj))⟩)
  ·unfold Kg Og;show Az (bif decide (((AL n).length:Int)<((AL n).length:Int))then _ else _) _;rw[DU,AQu];refine Az.mk (.inr ⟨rfl,λk hk=>?_⟩);obtain⟨m,hm,rfl⟩:=ARb hk;have:=hJ m hm;rwa [show(AL n).getD m 0=(AL n)[m] by simp[List.getD,hm]]at this
 ·rcases ht with ⟨rfl,h⟩|⟨rfl,h⟩
  ·exact Az.mk ⟨λh=>by(cases h),λh'=>absurd h'.1 h⟩
  ·refine Az.bind (P:=λt=>(t=.inl ()/\¬X3 n)\/(t=.inr ()/\X3 n)) ?_ λt ht=>?_
   ·unfold RS Po;have hb:=pE n;have h1:=wo n;have e1:∀x:Int,(n.1 !=x)=decide (BR n≠x):=λx=>UZ;have e2:(n.2.1 !=(0:Int))=decide (Jc n≠0):=UZ;have e3:(n.2.2.2.1 !=(0:Int))=decide (nB n≠0):=UZ;have e4:(n.2.2.1 !=(0:Int))=decide (nA n≠0):=UZ;rw[hb,h1,e1,e1,e1,e2,e3,e4];unfold X3;by_cases a1:BR n=1<;>by_cases a2:BR n=2<;>by_cases a3:BR n=4<;>by_cases a4:cW n<;>by_cases a5:Jc n=0<;>by_cases a6:NoB n<;>by_cases a7:nB n=0<;>by_cases a8:nA n=0 <;>
     first |(exfalso;omega)|(simp[a1,a2,a3,a4,a5,a6,a7,a8,T5];done)
   ·rcases ht with ⟨rfl,h2⟩|⟨rfl,h2⟩
    ·exact Az.mk ⟨λh=>by(cases h),λh'=>absurd h'.2.1 h2⟩
    ·have hk:=hn.1;have e1:∀x:Int,(n.1==x)=decide (BR n=x):=λx=>UY;have e2:((n.2.2.2.2.2.1.length:Int)==0)=decide ((AL n).length=0):=qI (AL n);have e3:((n.2.2.2.2.2.1.length:Int)==1)=decide ((AL n).length=1):=by
      show(((AL n).length:Int)==1)=_;rw[UY,ARI];omega
     have e4:decide ((n.2.2.2.2.2.1.length:Int)>=2)=decide (2<=(AL n).length):=by
      show decide (((AL n).length:Int)>=2)=_;rw[ARI];omega
     have e5:BL n.2.1 0 (wI ((d.length:Int)-1))=decide (0<=Jc n/\Jc n<(d.length:Int)):=by
      rw[Tv,BH (x:=(d.length:Int)-1),ARI];show 0<=Jc n/\Jc n<=(d.length:Int)-1↔_;omega
     obtain⟨r,hr,hq⟩:=nZ (w:=nW n) hn.2.2 hn.2.1;have e6:Uc n.2.2.2.2.1=some r:=hr;have hv:uj n↔r=true:=hq.symm;have h1:=wo n;simp only[ARi];rw[e1,e1,e1,e2,e3,e4,e5,e6,h1];unfold LY;rw[show(4<=BR n/\BR n<=9/\(AL n).length=1)=(cW n/\(AL n).length=1)from propext and_assoc.symm,hv];have Zt:cW n↔4<=BR n/\BR n<=9:=Iff.rfl;by_cases a1:BR n=1
     ·have a4:¬cW n:=by rw[Zt];omega
      by_cases a5:(AL n).length=0
      ·simp[a1,a4,a5,h,h2,T5]
      ·simp[a1,a4,a5,h,h2,T5]
     ·by_cases a2:BR n=2
      ·have a4:¬cW n:=by rw[Zt];omega
       by_cases a5:(AL n).length=0
       ·simp[a2,a4,a5,h,h2,T5]
       ·simp[a2,a4,a5,h,h2,T5]
      ·by_cases a3:BR n=3
       ·have a4:¬cW n:=by rw[Zt];omega
        simp[a3,a4,h,h2,T5]
       ·by_cases a4:cW n
        ·simp[a1,a2,a3,a4,h,h2,T5]
        ·simp[a1,a2,a3,a4,h,h2,T5]
def Vo(BP:ASH)(n:ASz):Int:=(HE BP n).sum
def jS(BP:ASH):Prop:=BP.length<=1048576/\∀w∈BP,1<=w/\w<=4096
theorem mG{BP:ASH}(h:jS BP){k:Int}(hk:0<=k/\k<(BP.length:Int)):1<=BP.getD k.toNat 0/\BP.getD k.toNat 0<=4096:=h.2 _ (AK (by omega))
theorem fS{BP:ASH}{n:ASz}{k:Nat}(hk:k<(AL n).length):((HE BP n).take (k+1)).sum=((HE BP n).take k).sum+BP.getD ((AL n).getD k 0).toNat 0:=by
 have hl:k<(HE BP n).length:=by unfold HE;rw[AQr];exact hk
 rw[AY hl (z:=0)];unfold HE
 grind
theorem cg{BP:ASH}{n:ASz}(hw:jS BP)(Gq:OJ n BP.length):∀k,k<=(AL n).length->(k:Int)<=((HE BP n).take k).sum/\((HE BP n).take k).sum<=4096*k:=by
 intro k;induction k with
 |zero=>simp
 |succ k ih =>
  intro hk;rw[fS (by omega)];have:=mG hw (Gq _ (AK (z:=0) (show k<(AL n).length by omega)));omega
theorem o9(BP:ASH)(n:ASz):(HE BP n).take (AL n).length=HE BP n:=AQp (by unfold HE;grind)
theorem Ys{BP:ASH}{n:ASz}(hw:jS BP)(Gq:OJ n BP.length):((AL n).length:Int)<=Vo BP n/\Vo BP n<=4096*(AL n).length:=by
 have:=cg hw Gq _ (AQl _);rw[o9]at this;exact this
theorem xk{d:ASL}{BP:ASH}{n:ASz}(hn:Y9 n)(hw:jS BP)(Gq:OJ n BP.length)(hf:LY d n):Az (Ud d n BP) λr=>r=Hq d n (min 8192 (Vo BP n)):=by
 have hlen:=hn.1;refine Az.bind (P:=λt=>t=min 8192 (Vo BP n)) ?_ λt ht=>?_
 ·have h0:min 8192 (((HE BP n).take 0).sum)=0:=rfl;have:=BW (f:=Oh d BP n) (λk (_:Unit)=>(min 8192 (((HE BP n).take k).sum),(k:Int))) (AL n).length (λ_ _=>True) (Q:=λt=>t=min 8192 (Vo BP n)) (λk _ hk _=>?_) (λ_ _=>?_) (s0:=()) trivial
  ·exact this
  ·have Al0:=Gq _ (AK (z:=0) hk);have hb:=cg hw Gq k (by omega);have hwk:=mG hw Al0;show Az (bif decide ((k:Int)<((AL n).length:Int))then(if 0<=(k:Int)/\(k:Int)<((AL n).length:Int)then(if 0<=(AL n).getD (k:Int).toNat 0/\(AL n).getD (k:Int).toNat 0<(BP.length:Int)then some (Sum.inl (if wI (min 8192 (((HE BP n).take k).sum)+BP.getD ((AL n).getD (k:Int).toNat 0).toNat 0)<8192 then wI (min 8192 (((HE BP n).take k).sum)+BP.getD ((AL n).getD (k:Int).toNat 0).toNat 0)else 8192,wI ((k:Int)+1)))else none)else none)else _) _;rw[C9 hk,AQx (Bj hk),AQg,AQx Al0,Bl hk (by omega)];refine Az.mk ⟨(),?_,trivial⟩;rw[BH,fS hk]
   grind
  ·show Az (bif decide (((AL n).length:Int)<((AL n).length:Int))then _ else _) _;rw[DU];refine Az.mk ?_;rw[o9];rfl
 ·subst ht;generalize hS:min 8192 (Vo BP n)=S;have hSb:0<=S/\S<=8192:=by have:=Ys hw Gq;omega
  have e1:∀x:Int,(n.1==x)=decide (BR n=x):=λx=>UY;have e2:BL n.2.2.1 0 4096=decide (0<=nA n/\nA n<=4096):=Tv _ _ _;have e3:BL n.2.2.1 1 4096=decide (1<=nA n/\nA n<=4096):=Tv _ _ _;have e4:(decide (n.2.2.2.1<0)||(decide (n.2.2.1<n.2.2.2.1)||decide (n.2.2.1>=S)))=decide (¬(0<=nB n/\nB n<=nA n/\nA n<S)):=by
   show(decide (nB n<0)||(decide (nA n<nB n)||decide (nA n>=S)))=_
   grind
  unfold RU Hq Po;rw[e1,e1,e1,e1,e1,e1,e1,e1,e2,e3,e4];by_cases a1:BR n=1
  ·have hv:0<=Jc n/\Jc n<(d.length:Int):=by
     rcases hf with h |h |h |h
     ·grind
     ·omega
     ·omega
     ·omega
   rw[AQx a1,AQk a1,AQx (show 0<=n.2.1/\n.2.1<(d.length:Int)from hv)];exact Az.mk rfl
  ·rw[AQy a1,AQi a1];by_cases a2:BR n=2
   ·rw[AQx a2,AQk a2];exact Az.mk rfl
   ·rw[AQy a2,AQi a2];by_cases a4:BR n=4
    ·rw[AQx a4,AQk a4];by_cases h:0<=nB n/\nB n<=nA n/\nA n<S
     ·rw[AQx h,AQi (λhh=>hh h)];refine Az.mk ?_;show wI (wI (nA n-nB n)+1)=_;rw[BH (x:=nA n-nB n),BH]
     ·rw[AQy h,AQk h];exact Az.mk rfl
    ·rw[AQy a4,AQi a4];by_cases a5:BR n=5\/BR n=6
     ·rw[AQx a5];have hc:(bif decide (BR n=5)then decide (BR n=5)else decide (BR n=6))=true:=by
       grind
      rw[hc];by_cases h:0<=nA n/\nA n<=4096
      ·rw[AQx h,AQk h];refine Az.mk ?_;show wI (S+nA n)=_;rw[BH]
      ·rw[AQy h,AQi h];exact Az.mk rfl
     ·rw[AQy a5];have hc:(bif decide (BR n=5)then decide (BR n=5)else decide (BR n=6))=false:=by
       grind
      rw[hc];by_cases a7:BR n=7\/BR n=8
      ·rw[AQx a7];have hc:(bif decide (BR n=7)then decide (BR n=7)else decide (BR n=8))=true:=by
        grind
       rw[hc];by_cases h:0<=nA n/\nA n<=4096
       ·rw[AQx h,AQk h];exact Az.mk rfl
       ·rw[AQy h,AQi h];exact Az.mk rfl
      ·rw[AQy a7];have hc:(bif decide (BR n=7)then decide (BR n=7)else decide (BR n=8))=false:=by
        grind
       rw[hc];by_cases a9:BR n=9
       ·rw[AQx a9,AQk a9];by_cases h:1<=nA n/\nA n<=4096
        ·rw[AQx h,AQk h];refine Az.mk ?_;show wI (S*nA n)=_;have h1:0<=S*nA n:=Int.mul_nonneg hSb.1 (by omega);have h2:S*nA n<=8192*4096:=Int.mul_le_mul hSb.2 h.2 (by omega) (by omega);rw[BH]
        ·rw[AQy h,AQi h];exact Az.mk rfl
       ·rw[AQy a9,AQi a9];exact Az.mk rfl
end Go.Proofs.X
namespace Go.Proofs.X
open Go Go.Va
set_option maxRecDepth 100000
theorem Ajw{d:ASL}{BP:ASH}{n:ASz}(hw:jS BP)(Gq:OJ n BP.length)(hf:LY d n):Hq d n (min 8192 (Vo BP n))=Hq d n (Vo BP n)\/(4096<Hq d n (min 8192 (Vo BP n))/\4096<Hq d n (Vo BP n)):=by
 have hb:=Ys hw Gq;rcases hf with h |h |h |h
 ·grind
 ·grind
 ·by_cases hs:Vo BP n<=8192
  ·grind
  ·have e:∀S,Hq d n S=S:=λS=>by simp[Hq,h.1]
   rw[e,e];omega
 grind
instance (n:ASz):Decidable (X3 n):=inferInstanceAs (Decidable (_/\_/\_/\_))
theorem Aiz(n:ASz):EK n=decide (X3 n):=by
 have hb:((n.2.2.2.2.1.1==(0:Int))&&((n.2.2.2.2.1.2.1.length:Int)==0))=decide (NoB n):=pE n;have h1:(decide (n.1>=4)&&decide (n.1<=9))=decide (cW n):=(ARf _ _).symm;have e1:∀x:Int,(n.1 !=x)=decide (BR n≠x):=λx=>UZ;have e0:(n.1==(2:Int))=decide (BR n=2):=UY;have e2:(n.2.1 !=(0:Int))=decide (Jc n≠0):=UZ;have e3:(n.2.2.2.1 !=(0:Int))=decide (nB n≠0):=UZ;have e4:(n.2.2.1 !=(0:Int))=decide (nA n≠0):=UZ;have hp:decide (X3 n)=decide ((BR n≠1->Jc n=0)/\(BR n≠2->NoB n)/\(BR n≠4->nB n=0)/\(¬cW n->nA n=0)):=rfl;rw[hp];unfold EK;rw[hb,h1,e1,e1,e0,e2,e3,e4];by_cases a1:BR n=1<;>by_cases a2:BR n=2<;>by_cases a3:BR n=4<;>by_cases a4:cW n<;>by_cases a5:Jc n=0<;>by_cases a6:NoB n<;>by_cases a7:nB n=0<;>by_cases a8:nA n=0 <;>
  first |(exfalso;omega)|(simp[a1,a2,a3,a4,a5,a6,a7,a8];done)
theorem wj{d:ASL}{BP:ASH}{n:ASz}(hn:Y9 n)(hw:jS BP)(hd:d.length<=1048576)(Gq:OJ n BP.length):Az (G6 n d (HE BP n)) λr=>(LY d n->r=Hq d n (Vo BP n))/\(¬LY d n->r=-1):=by
 have hlen:=hn.1;have rL:(HE BP n).length=(AL n).length:=by unfold HE;rw[AQr]
 have hS:=Ys hw Gq;have e1:∀x:Int,(n.1==x)=decide (BR n=x):=λx=>UY;have e2:((((HE BP n).length:Nat):Int)==0)=decide ((AL n).length=0):=by rw[qI,rL]
 have e3:((((HE BP n).length:Nat):Int) !=1)=decide ((AL n).length≠1):=by rw[UZ,ARI];omega
 have e4:decide ((((HE BP n).length:Nat):Int)>1)=decide (2<=(AL n).length):=by rw[ARI];omega
 have e5:AW n.2.1 0 (wI ((d.length:Int)-1))=decide (0<=Jc n/\Jc n<(d.length:Int)):=by
  rw[LD,BH (x:=(d.length:Int)-1),ARI];show 0<=Jc n/\Jc n<=(d.length:Int)-1↔_;omega
 have e6:AW n.2.2.1 0 4096=decide (0<=nA n/\nA n<=4096):=LD _ _ _;have e7:AW n.2.2.1 1 4096=decide (1<=nA n/\nA n<=4096):=LD _ _ _;have Zt:cW n↔4<=BR n/\BR n<=9:=Iff.rfl;obtain⟨f,hf⟩:∃f,f=(bif decide ((((HE BP n).length:Nat):Int)>0)then(HE BP n).getD 0 0 else 0):=⟨_,rfl⟩;have hf1:(AL n).length=1->f=Vo BP n:=λh=>by
  rw[hf,LL,AQv];unfold Vo;obtain⟨x,hx⟩:=List.length_eq_one_iff.1 (show(HE BP n).length=1 by omega);rw[hx];simp
 unfold G6 Po;rw[show Gx n d (HE BP n)=some f by
  unfold Gx;rw[hf];by_cases h:(AL n).length=0
  ·rw[Ic];rfl
  ·rw[LL,AQv,AQv,AQx ⟨by omega,by omega⟩];rfl,AQf,e5,e6,e7]
 rw[e1,e1,e1,e1,e1,e1,e1,e1,e2,e3,e4];have hF:LY d n↔(BR n=1/\(AL n).length=0/\0<=Jc n/\Jc n<(d.length:Int))\/(BR n=2/\(AL n).length=0/\uj n)\/(BR n=3/\2<=(AL n).length)\/(4<=BR n/\BR n<=9/\(AL n).length=1):=Iff.rfl;have AHe:¬LY d n->Az (some (-1:Int)) λr=>(LY d n->r=Hq d n (Vo BP n))/\(¬LY d n->r=-1):=λh=>Az.mk ⟨λh'=>absurd h' h,λ_=>rfl⟩;have pos:∀v:Int,LY d n->v=Hq d n (Vo BP n)->Az (some v) λr=>(LY d n->r=Hq d n (Vo BP n))/\(¬LY d n->r=-1):=λv h e=>Az.mk ⟨λ_=>e,λh'=>absurd h h'⟩;by_cases c1:BR n=1/\(AL n).length=0/\(0<=Jc n/\Jc n<(d.length:Int))
 ·rw[<-ARf,<-ARf,AQk c1,AQv,AQx (show 0<=n.2.1/\n.2.1<(d.length:Int)from c1.2.2)];exact pos _ (hF.2 (.inl c1)) (by unfold Hq;rw[AQx c1.1];rfl)
 ·rw[<-ARf,<-ARf,AQi c1,AQu];obtain⟨b,iK,vA⟩:∃b,Gy n (HE BP n) f=some b/\(b=true↔BR n=2/\(AL n).length=0/\uj n):=by
   unfold Gy;rw[e1,e2];obtain⟨r,hr,hq⟩:=nK (w:=nW n) hn.2.2 hn.2.1;have e6:QD n.2.2.2.2.1=some r:=hr;rw[e6];have hq:r=true↔uj n:=hq;by_cases a2:BR n=2
   ·by_cases a3:(AL n).length=0
    ·rw[AQk a2,AQk a3];exact⟨r,rfl,by rw[hq];exact⟨λh=>⟨a2,a3,h⟩,λh=>h.2.2⟩⟩
    ·rw[AQk a2,AQi a3];exact⟨false,rfl,λh=>by(cases h),λh=>absurd h.2.1 a3⟩
   ·rw[AQi a2];exact⟨false,rfl,λh=>by(cases h),λh=>absurd h.1 a2⟩
  rw[iK,AQf];cases b with
  |true =>
   have c2:=vA.1 rfl;exact pos _ (hF.2 (.inr (.inl c2))) (by unfold Hq;rw[Q4,AQx c2.1];rfl)
  |false =>
   have c2:¬(BR n=2/\(AL n).length=0/\uj n):=λh=>by have:=vA.2 h;cases this
   rw[AQu,<-ARf];by_cases c3:BR n=3/\2<=(AL n).length
   ·rw[AQk c3,AQv];unfold OP;have:=AP (f:=Cx (HE BP n) (((HE BP n).length:Nat):Int)) (λk=>((((HE BP n).take k).sum:Int),(k:Int))) (t:=Vo BP n) (HE BP n).length (λk hk=>by
     unfold Cx HV;rw[rL]at hk;have hb:=cg hw Gq k (by omega);have hwk:=mG hw (Gq _ (AK (z:=0) hk));have hg:(HE BP n).getD k 0=BP.getD ((AL n).getD k 0).toNat 0:=by unfold HE;exact FA (λk=>BP.getD k.toNat 0) hk
     simp only;rw[rL,C9 hk,AQv,AQx (Bj hk),AQg,Bl hk (by omega),fS hk];show some (Sum.inl (wI (((HE BP n).take k).sum+(HE BP n).getD k 0),_))=_;rw[hg,BH]) (by
     unfold Cx HV;simp only;rw[DU,AQu,AQp (AQl _)];rfl)
    rw[show fix (Cx (HE BP n) (((HE BP n).length:Nat):Int)) (0,0)=some (Vo BP n)from this];exact pos _ (hF.2 (.inr (.inr (.inl c3)))) (by unfold Hq;simp[c3.1])
   ·rw[AQi c3,AQu];by_cases c4:(AL n).length=1
    ·rw[AQi (λh=>h c4),AQu];have hfS:=hf1 c4;have hSb:0<=f/\f<=4096:=by omega
     have BX:4<=BR n/\BR n<=9->LY d n:=λh=>hF.2 (.inr (.inr (.inr ⟨h.1,h.2,c4⟩)));have e4':(decide (n.2.2.2.1>=0)&&(decide (n.2.2.2.1<=n.2.2.1)&&decide (n.2.2.1<f)))=decide (0<=nB n/\nB n<=nA n/\nA n<f):=by
      show(decide (nB n>=0)&&(decide (nB n<=nA n)&&decide (nA n<f)))=_;rw[<-ARf,<-ARf]
     rw[e4',<-ARf,<-ARf,<-ARf,<-ARf];have ecx:(n.2.2.1:Int)=nA n:=rfl;have ecb:(n.2.2.2.1:Int)=nB n:=rfl;have hw0:∀v,v=Hq d n f->v=Hq d n (Vo BP n):=λv h=>by rw[<-hfS];exact h
     by_cases a4:BR n=4
     ·by_cases h:0<=nB n/\nB n<=nA n/\nA n<f
      ·rw[AQk ⟨a4,h⟩,AQv];refine pos _ (BX (by omega)) (hw0 _ ?_);show wI (wI (nA n-nB n)+1)=_;rw[BH (x:=nA n-nB n),BH];unfold Hq;simp[a4,h]
      ·have:∀v:Int,v=-1->v=Hq d n f:=λv hv=>by unfold Hq;simp[a4,h,hv]
       simp[a4,h];exact pos _ (BX (by omega)) (hw0 _ (this _ rfl))
     ·by_cases a5:BR n=5\/BR n=6
      ·by_cases h:0<=nA n/\nA n<=4096
       ·have:(bif decide (BR n=5)then decide (0<=nA n/\nA n<=4096)else decide (BR n=6/\0<=nA n/\nA n<=4096))=true:=by
          rcases a5 with h' |h'<;>simp[h',h]
        rw[Ic,AQu,this,AQv];refine pos _ (BX (by omega)) (hw0 _ ?_);show wI (f+nA n)=_;rw[BH];unfold Hq;rcases a5 with h' |h'<;>simp[h',h]
       ·have:∀v:Int,v=-1->v=Hq d n f:=λv hv=>by unfold Hq;rcases a5 with h' |h'<;>simp[h',h,hv]
        have h2:=pos _ (BX (by omega)) (hw0 _ (this _ rfl));rcases a5 with h' |h'<;>simp[h',h]<;>exact h2
      ·by_cases a7:BR n=7\/BR n=8
       ·by_cases h:0<=nA n/\nA n<=4096
        ·have h2:=pos f (BX (by omega)) (hw0 _ (by unfold Hq;rcases a7 with h' |h'<;>simp[h',h]));rcases a7 with h' |h'<;>simp[h',h]<;>exact h2
        ·have:∀v:Int,v=-1->v=Hq d n f:=λv hv=>by unfold Hq;rcases a7 with h' |h'<;>simp[h',h,hv]
         have h2:=pos _ (BX (by omega)) (hw0 _ (this _ rfl));rcases a7 with h' |h'<;>simp[h',h]<;>exact h2
       ·by_cases a9:BR n=9
        ·by_cases h:1<=nA n/\nA n<=4096
         ·have h1:0<=f*nA n:=Int.mul_nonneg hSb.1 (by omega);have h2:f*nA n<=4096*4096:=Int.mul_le_mul hSb.2 h.2 (by omega) (by omega);have h3:=pos (wI (f*nA n)) (BX (by omega)) (hw0 _ (by rw[BH];unfold Hq;simp[a9,h]));simp[a9,h];exact h3
         ·have:∀v:Int,v=-1->v=Hq d n f:=λv hv=>by unfold Hq;simp[a9,h,hv]
          have h2:=pos _ (BX (by omega)) (hw0 _ (this _ rfl));simp[a9,h];exact h2
        ·simp only[not_or]at a5 a7;have h2:=AHe (by rw[hF];omega);simp[a4,a5,a7,a9];exact h2
    ·rw[AQk c4,AQv];exact AHe (by rw[hF];intro h;rcases h with h |h |h |h;exact c1 h;exact c2 h;exact c3 h;exact c4 h.2.2)
end Go.Proofs.X
namespace Go.Proofs.X
open Go Go.Va
set_option maxRecDepth 100000
def nd(t:ASP)(i:Nat):ASz:=t.getD i Ah.zero
def mT(d:ASL)(t:ASP)(ws:ASH):Prop:=ws.length<=t.length/\∀j,j<ws.length->tY d (ws.take j) (nd t j) (ws.getD j 0)
def fp(t:ASP)(k i:Nat):Prop:=∃j,j<i/\(k:Int)∈AL (nd t j)
def OD(d:ASL)(t:ASP)(ws:ASH):Prop:=1<=t.length/\t.length<=400/\ws.length=t.length/\mT d t ws/\∀k,k+1<t.length->fp t k t.length
def L0(t:ASP):Prop:=t.length<=1048576/\∀n∈t,Y9 n
theorem mT.take{d:ASL}{t:ASP}{ws:ASH}(h:mT d t ws)(i:Nat):mT d t (ws.take i):=by
 have hl:=h.1;refine⟨by grind,λj hj=>?_⟩;rw[AQA]at hj;have:=h.2 j (by omega)
 grind
theorem mT.unique{d:ASL}{t:ASP}{a b:ASH}(ha:mT d t a)(hb:mT d t b)(hl:a.length=b.length):a=b:=by
 have:∀k,k<=a.length->a.take k=b.take k:=by
  intro k;induction k with
  |zero=>simp
  |succ k ih =>
   intro hk;have e:=ih (by omega);have h1:=ha.2 k (by omega);have h2:=hb.2 k (by omega);rw[AY (show k<a.length by omega),AY (show k<b.length by omega),e];rw[e]at h1;rw[h1.2.2.2.1,h2.2.2.2.1]
 have:=this _ (AQl _)
 grind
theorem mT.BP{d:ASL}{t:ASP}{ws:ASH}(h:mT d t ws)(hl:t.length<=1048576):jS ws:=by
 refine⟨AQJ h.1 hl,λw hw=>?_⟩;obtain⟨j,hj,rfl⟩:=ARb hw;have:=(h.2 j hj).2.2.2.2
 grind
theorem mT.snoc{d:ASL}{t:ASP}{ws:ASH}{w:Int}(h:mT d t ws)(hl:ws.length<t.length)(hn:tY d ws (nd t ws.length) w):mT d t (ws++[w]):=by
 refine⟨by grind,λj hj=>?_⟩;rw[AQj]at hj;simp only[ARe,ASg]at hj;rcases AQq j ws.length with h' |h'
 ·rw[ARl (by omega),show(ws++[w]).getD j 0=ws.getD j 0 by grind];exact h.2 j h'
 grind
theorem OD.node{d:ASL}{t:ASP}{ws mY:ASH}(h:OD d t mY)(hp:mT d t ws)(hl:ws.length<t.length):∃w,tY d ws (nd t ws.length) w:=by
 have e:ws=mY.take ws.length:=hp.unique (h.2.2.2.1.take _) (by rw[AQA,h.2.2.1];omega);have:=h.2.2.2.1.2 _ (by rw[h.2.2.1];exact hl)
 grind
theorem Adg(BP:ASH)(n:ASz):CO (λm=>BP.getD ((AL n).getD m 0).toNat 0) 0 (AL n).length (AL n).length=HE BP n:=by
 refine ARx (by simp[CO,HE]) λi h1 h2=>?_;have :=by simpa [CO]using h1
 simp[CO,HE,this]
theorem Yk{l:ASH}{x:Int}:x∈l↔∃m,m<l.length/\l.getD m 0=x:=by
 constructor
 ·intro h;obtain⟨m,hm,rfl⟩:=ARb h;exact⟨m,hm,by grind⟩
 grind
theorem nz{l:ASI}{k j:Nat}(hk:k<l.length):(l.set k true).getD j false=if j=k then true else l.getD j false:=by
 grind
theorem vZ{D:ASL}{C E:Int}{t:ASD}{q:ASz}{ws out:ASH}{Wu:ASI}{n:ASz}{N:Nat}(hn:Y9 n)(hl:ws.length<N)(hN:N<=1048576)(ho:out=ws++List.replicate (N-ws.length) 0)(hu:Wu.length=N) :
    Az (Rm D C (ws.length:Int) E t out q (AL n) ((AL n).length:Int) 0 Wu (List.replicate (AL n).length 0)) λr=>(∃x,r=.inl x/\¬OJ n ws.length)\/(∃u,r=.inr (HE ws n,u)/\OJ n ws.length/\u.length=N/\∀k:Nat,k<N->(u.getD k false=true↔Wu.getD k false=true\/(k:Int)∈AL n)):=by
 have hlen:=hn.1;have hol:out.length=N:=by grind
 have XF:∀k:Nat,k<ws.length->out.getD k 0=ws.getD k 0:=λk hk=>by grind
 have:=BW (f:=Ha D C (ws.length:Int) E t out q (AL n) ((AL n).length:Int)) (λj (u:ASI)=>((j:Int),u,CO (λm=>ws.getD ((AL n).getD m 0).toNat 0) 0 (AL n).length j)) (AL n).length
  (λj u=>(∀m,m<j->0<=(AL n).getD m 0/\(AL n).getD m 0<(ws.length:Int))/\u.length=N/\∀k:Nat,k<N->(u.getD k false=true↔Wu.getD k false=true\/∃m,m<j/\(AL n).getD m 0=(k:Int)))
  (Q:=λr=>(∃x,r=.inl x/\¬OJ n ws.length)\/(∃u,r=.inr (HE ws n,u)/\OJ n ws.length/\u.length=N/\∀k:Nat,k<N->(u.getD k false=true↔Wu.getD k false=true\/(k:Int)∈AL n))) (λj u hj hI=>?_) (λu hI=>?_) (s0:=Wu) ⟨λm hm=>by omega,hu,λk _=>⟨λh=>.inl h,λh=>by grind⟩⟩
 ·rw[MW]at this;exact this
 ·unfold Ha N0;rw[C9 hj,AQx (Bj hj),AQg,LD,BH (x:=(ws.length:Int)-1)];show Az (bif !decide (0<=(AL n).getD j 0/\(AL n).getD j 0<=(ws.length:Int)-1)then _ else _) _;by_cases h:0<=(AL n).getD j 0/\(AL n).getD j 0<=(ws.length:Int)-1
  ·rw[AQk h];obtain⟨k,hk⟩:∃k:Nat,(AL n).getD j 0=(k:Int):=⟨((AL n).getD j 0).toNat,by omega⟩;have rL:k<ws.length:=by omega
   rw[show(AL n).getD j ATE.zero=(k:Int)from hk,AQg,AQx ⟨by omega,by omega⟩,AQx ⟨by omega,by grind⟩,Im,AQx (Bj hj),Bl hj (by omega)];refine Az.mk ⟨u.set k true,?_,λm hm=>?_,by grind,λi hi=>?_⟩
   ·rw[<-QA];have hg:out.getD k ATE.zero=ws.getD ((AL n).getD j 0).toNat 0:=by
     grind
    rw[hg]
   ·rcases AQq m j with h' |h'
    ·exact hI.1 m h'
    ·rw[show m=j by omega];omega
   ·rw[nz (by omega)];by_cases hik:i=k
    ·subst hik;simp only[AQ2,true_iff];exact .inr ⟨j,by omega,hk⟩
    ·rw[AQy hik,hI.2.2 i hi];constructor
     ·rintro(h |⟨m,h1,h2⟩)
      ·exact .inl h
      ·exact .inr ⟨m,by omega,h2⟩
     ·rintro(h |⟨m,h1,h2⟩)
      ·exact .inl h
      ·rcases AQq m j with h' |h'
       ·exact .inr ⟨m,h',h2⟩
       ·have:m=j:=by omega
        subst this;omega
  ·rw[AQi h];exact Az.mk (.inl ⟨_,rfl,λhk=>h (by have:=hk _ (AK (z:=0) hj);omega)⟩)
 ·unfold Ha N0;rw[DU];refine Az.mk (.inr ⟨u,by rw[Adg],λk hk=>?_,hI.2.1,λk hk=>?_⟩)
  ·obtain⟨m,hm,rfl⟩:=Yk.1 hk;exact hI.1 m hm
  ·rw[hI.2.2 k hk,Yk]
theorem uV{u:ASI}(hl:u.length<=1048576):Az (IY u false) λr=>r=true↔∃k,k<u.length/\u.getD k false=false:=by
 refine Az.bind (P:=λr=>0<=r↔∃k,k<u.length/\u.getD k false=false) (Az.bind (P:=λt=>(∃j:Nat,t=.inl j/\j<u.length/\u.getD j false=false)\/(t=.inr ()/\∀j,j<u.length->u.getD j false=true)) ?_ λt ht=>?_) λr hr=>Az.mk (by grind)
 ·refine BW (λj _=>(j:Int)) u.length (λj _=>∀k,k<j->u.getD k false=true) (λj _ hj hJ=>?_) (λ_ hJ=>?_) (s0:=()) (λi h=>by omega)
  ·unfold D9 GZ;rw[C9 hj,AQx (Bj hj)];show Az (bif false==u.getD j false then _ else _) _;cases he:u.getD j _ with
   |false=>exact Az.mk (.inl ⟨j,rfl,hj,he⟩)
   |true =>
    rw[Bl hj (by omega)];refine Az.mk ⟨(),rfl,λk hk=>?_⟩
    grind
  ·unfold D9 GZ;rw[DU];exact Az.mk (.inr ⟨rfl,hJ⟩)
 ·rcases ht with ⟨j,rfl,h1,h2⟩|⟨rfl,h⟩
  ·exact Az.mk ⟨λ_=>⟨j,h1,h2⟩,λ_=>by omega⟩
  ·exact Az.mk ⟨λh'=>absurd (show 0<=-1 from h') (by omega),λ⟨j,h1,h2⟩=>by grind⟩
theorem nO{d:ASL}{t:ASP}(ht:L0 t)(hd:d.length<=1048576):Az (TV d (t,())) λr=>(r.1=true/\OD d t r.2)\/(r.1=false/\¬∃ws,OD d t ws):=by
 unfold TV Po;show Az (bif decide ((t.length:Int)<1)||decide ((t.length:Int)>400)then _ else _) _;by_cases hl:1<=t.length/\t.length<=400
 ·rw[Ic,Ic,Bool.or_false,AQu];rw[show M9 d (t,()) (t.length:Int)=some (List.replicate t.length 0,List.replicate t.length false) by
   unfold M9;rw[AQx ⟨rfl,by omega,by omega,by omega,by omega⟩,AQx ⟨rfl,by omega,by omega,by omega,by omega⟩,AQg],AQf]
  refine Az.bind (P:=λr=>(∃x,r=.inl x/\¬∃ws,OD d t ws)\/(∃ws u,r=.inr (u,ws)/\ws.length=t.length/\mT d t ws/\u.length=t.length/\∀k:Nat,k<t.length->(u.getD k false=true↔fp t k t.length))) ?_ λr hr=>?_
  ·unfold VN;have:=BW (f:=Hb d (t,()) (t.length:Int) (t.length:Int)) (λi (s:ASH×ASI)=>((i:Int),s.1,s.2)) t.length
    (λi s=>∃ws:ASH,ws.length=i/\mT d t ws/\s.1=ws++List.replicate (t.length-i) 0/\s.2.length=t.length/\∀k:Nat,k<t.length->(s.2.getD k false=true↔fp t k i))
    (Q:=λr=>(∃x,r=.inl x/\¬∃ws,OD d t ws)\/(∃ws u,r=.inr (u,ws)/\ws.length=t.length/\mT d t ws/\u.length=t.length/\∀k:Nat,k<t.length->(u.getD k false=true↔fp t k t.length))) (λi s hi hI=>?_) (λs hI=>?_) (s0:=(List.replicate t.length 0,List.replicate t.length false)) ⟨[],rfl,⟨AQ1 _,λj hj=>by simp at hj⟩,rfl,AQM,λk hk=>by
     have h0:(List.replicate t.length false).getD k false=false:=by simp[List.getD,hk]
     constructor
     ·intro h;rw[h0]at h;cases h
     ·rintro⟨j,hj,_⟩;omega⟩
   ·exact this
   ·obtain⟨out,Wu⟩:=s;obtain⟨ws,rfl,hp,ho,yc,hu⟩:=hI;simp only at ho yc hu;have hn:Y9 (nd t ws.length):=ht.2 _ (AK hi);have rL:=hn.1;unfold Hb N3;simp only;rw[show decide ((ws.length:Int)<(t.length:Int))=true from C9 hi,AQv,AQx (Bj hi),AQg];show Az (bif decide (((AL (nd t ws.length)).length:Int)>4096)then _ else if Ty.row ATE=true/\(0:Int)<=((AL (nd t ws.length)).length:Int)/\((AL (nd t ws.length)).length:Int)<=((AL (nd t ws.length)).length:Int)/\((8:Nat):Int)*((AL (nd t ws.length)).length:Int)<=(281474976710656:Int)/\((AL (nd t ws.length)).length:Int)<=(9223372036854775807:Int)then(Rm d (t.length:Int) (ws.length:Int) (t.length:Int) (t,()) out (nd t ws.length) (AL (nd t ws.length)) ((AL (nd t ws.length)).length:Int) 0 Wu (List.replicate ((AL (nd t ws.length)).length:Int).toNat 0)).bind _ else none) _;by_cases hk4:(AL (nd t ws.length)).length>4096
    ·rw[LL];refine Az.mk (.inl ⟨_,rfl,λ⟨mY,h'⟩=>?_⟩);obtain⟨w,hw⟩:=h'.node hp hi;have hb:=Ys (hp.BP ht.1) hw.1;have bh:=hw.2.2.1;have heq:=hw.2.2.2.1;have hw4:=hw.2.2.2.2.2;rcases bh with h |h |h |h
     ·omega
     ·omega
     ·have:Hq d (nd t ws.length) (HE ws (nd t ws.length)).sum=Vo ws (nd t ws.length):=by unfold Vo Hq;simp[h.1]
      omega
     ·omega
    ·rw[Ic,AQu,AQx ⟨rfl,by omega,by omega,by omega,by omega⟩,AQg];refine Az.bind (vZ hn hi ht.1 ho yc) λr hr=>?_;rcases hr with ⟨x,rfl,h⟩|⟨u,rfl,Gq,AKP,hu'⟩
     ·refine Az.mk (.inl ⟨_,rfl,λ⟨mY,h'⟩=>?_⟩);obtain⟨w,hw⟩:=h'.node hp hi;exact h hw.1
     ·simp only[ARi];obtain⟨r,hr,hq⟩:=wj (d:=d) hn (hp.BP ht.1) hd Gq;rw[show G6 (t.getD ws.length Ah.zero) d (HE ws (nd t ws.length))=some r from hr,AQf];have hol:out.length=t.length:=by rw[ho,AQj,AQM];omega
      rw[AQx ⟨by omega,by rw[hol];omega⟩];unfold Rn;rw[show EK (t.getD ws.length Ah.zero)=_ from Aiz (nd t ws.length),AQo,AQx ⟨by omega,by rw[hol];omega⟩,AQg];have hgs:(out.set ws.length r).getD ws.length ATE.zero=r:=by simp[List.getD,hol,hi]
      rw[hgs,LD];have Ie:out.set ws.length r=(ws++[r])++List.replicate (t.length-(ws.length+1)) 0:=by
       rw[ho,show t.length-ws.length=(t.length-(ws.length+1))+1 by omega,List.replicate_succ];simp
      by_cases vP:X3 (nd t ws.length)
      ·by_cases tO:1<=r/\r<=4096
       ·rw[AQk vP,AQk tO];simp only[AQZ,AQu,AQf];have bh:LY d (nd t ws.length):=by
         by_cases hf:LY d (nd t ws.length)
         ·exact hf
         ·have:=hq.2 hf;omega
        have AhB:tY d ws (nd t ws.length) r:=⟨Gq,vP,bh,hq.1 bh,tO⟩;refine Az.mk ⟨(out.set ws.length r,u),by rw[Bl hi ht.1],ws++[r],by simp,hp.snoc hi AhB,Ie,AKP,λk hk=>?_⟩;rw[hu' k hk,hu k hk];constructor
        ·rintro(⟨j,h1,h2⟩|h)
         ·exact⟨j,by omega,h2⟩
         ·exact⟨ws.length,by omega,h⟩
        ·rintro⟨j,h1,h2⟩
         rcases AQq j ws.length with h' |h'
         ·exact .inl ⟨j,h',h2⟩
         ·rw[show j=ws.length by omega]at h2;exact .inr h2
       ·rw[AQk vP,AQi tO];refine Az.mk (.inl ⟨_,rfl,λ⟨mY,h'⟩=>?_⟩);obtain⟨w,hw⟩:=h'.node hp hi;have:=hq.1 hw.2.2.1;have h3:=hw.2.2.2;unfold Vo at this;rw[<-this]at h3;exact tO (by rw[<-h3.1];exact h3.2)
      ·rw[AQi vP];refine Az.mk (.inl ⟨_,rfl,λ⟨mY,h'⟩=>?_⟩);obtain⟨w,hw⟩:=h'.node hp hi;exact vP hw.2.1
   ·obtain⟨out,Wu⟩:=s;obtain⟨ws,hwl,hp,ho,yc,hu⟩:=hI;simp only at ho yc hu;unfold Hb N3;simp only;rw[DU,AQu];rw[ASa,List.replicate_zero,AQU]at ho;subst ho;exact Az.mk (.inr ⟨out,Wu,rfl,hwl,hp,yc,hu⟩)
  ·rcases hr with ⟨x,rfl,h⟩|⟨ws,u,rfl,hwl,hp,yc,hu⟩
   ·exact Az.mk (.inr ⟨rfl,h⟩)
   ·simp only[ARi];have e1:wI ((t.length:Int)-1)=((t.length-1:Nat):Int):=AZ;rw[e1,AQx ⟨by omega,by omega,by rw[yc];omega⟩,AQg,AR8];have htl:(u.take (t.length-1)).length=t.length-1:=by rw[AQA];omega
    have hgt:∀k,k<t.length-1->(u.take (t.length-1)).getD k false=u.getD k false:=λk hk=>by simp[List.getD,hk]
    refine Az.bind (uV (by omega)) λr hr=>Az.mk ?_;rw[htl]at hr;cases r with
    |false =>
     refine .inl ⟨rfl,hl.1,hl.2,hwl,hp,λk hk=>(hu k (by omega)).1 ?_⟩;cases hc:u.getD k false with
     |true=>rfl
     |false=>have:=hr.2 ⟨k,by omega,by rw[hgt k (by omega)];exact hc⟩;cases this
    |true =>
     obtain⟨k,hk,hf⟩:=hr.1 rfl;rw[hgt k hk]at hf;refine .inr ⟨rfl,λ⟨mY,h'⟩=>?_⟩;have:=(hu k (by omega)).2 (h'.2.2.2.2 k (by omega));rw[this]at hf;cases hf
 ·have hc:(decide ((t.length:Int)<1)||decide ((t.length:Int)>400))=true:=by simp;omega
  rw[hc];exact Az.mk (.inr ⟨rfl,λ⟨ws,h⟩=>hl ⟨h.1,h.2.1⟩⟩)
end Go.Proofs.X
namespace Go.Proofs.X
open Go Go.Va
set_option maxRecDepth 100000
theorem xi{D:ASL}{W:ASH}{t:ASP}{i:Nat}{Wu:ASI}(hi:i<t.length)(hn:Y9 (nd t i))(Gq:OJ (nd t i) Wu.length) :
    Az (S9 D (i:Int) (t,()) W 0 Wu) λu=>u.length=Wu.length/\∀k:Nat,k<Wu.length->(u.getD k false=true↔Wu.getD k false=true\/(k:Int)∈AL (nd t i)):=by
 have hlen:=hn.1;refine BW (λj u=>((j:Int),u)) (AL (nd t i)).length (λj u=>u.length=Wu.length/\∀k ,k<Wu.length->(u.getD k false=true↔Wu.getD k _=true\/∃m,m<j/\(AL (nd t i)).getD m 0=k)) (λj u hj hI=>?_) (λu hI=>?_)  ⟨rfl,λk _=>⟨λh=>.inl h,λh=>by grind⟩⟩
 ·unfold HM K3;rw[AQx (Bj hi),AQx (Bj hi)];show Az (bif decide (j<((AL (nd t i)).length:Int))then(if 0<=(j:Int)/\j<((AL (nd t i)).length:Int)then(if 0<=(AL _).getD j 0/\(AL (nd t i)).getD j 0<u.length then some (Sum.inl (wI _,u.set ((AL (nd t i)).getD j 0).toNat true))else none)else none)else _) _;have Al0:=Gq _ (AK (z:=0) hj);rw[C9 hj,AQx (Bj hj),AQx ⟨Al0.1,by grind⟩,Bl hj (by omega)];obtain⟨k,hk⟩:∃k:Nat,(AL (nd t i)).getD j 0=k:=⟨((AL (nd t i)).getD j 0).toNat,by omega⟩;rw[hk,AQg];refine Az.mk ⟨_,rfl,by grind,λi' tN=>?_⟩
  grind
 ·unfold HM K3;rw[AQx (Bj hi)];show Az (bif decide (((AL _).length)<((AL (nd t i)).length:Int))then _ else some _) _;rw[DU];refine Az.mk ⟨hI.1,λk hk=>?_⟩;rw[hI.2 k hk,Yk]
theorem od{d:ASL}{t:ASP}(ht:L0 t)(hd:d.length<=1048576):Az (LH d (t,())) λr=>(AE d/\OD d t r)\/(r=[]/\¬(AE d/\∃ws,OD d t ws)):=by
 unfold LH;have htb:=ht.1;obtain⟨b,iK,vA⟩:∃b,Hf d (t,())=some b/\(b=false↔AE d/\1<=t.length/\t.length<=400):=by
  obtain⟨r,hr,hq⟩:=Vi d;unfold Hf;rw[hr,AQf];show ∃b,(bif !r then some true else bif decide ((t.length:Int)<1)then some true else some (decide ((t.length:Int)>400)))=some b/\_;cases r with
  |false=>exact⟨true,rfl,λh=>by(cases h),λh=>by have:=hq.2 h.1;cases this⟩
  |true =>
   have kV:=hq.1 rfl;by_cases h1:(t.length:Int)<1
   ·rw[AQk h1];exact⟨true,rfl,λh=>by(cases h),λh=>by omega⟩
   ·rw[AQi h1];refine⟨_,rfl,?_⟩;rw[ARa];exact⟨λh=>⟨kV,by omega,by omega⟩,λh=>by omega⟩
 rw[iK,AQf];cases b with
 |true =>
  refine Az.mk (.inr ⟨rfl,λh=>?_⟩);obtain⟨h1,ws,h2⟩:=h;have:=vA.2 ⟨h1,h2.1,h2.2.1⟩;cases this
 |false =>
  obtain⟨kV,U6,b9⟩:=vA.1 rfl;rw[AQu];show Az (if Ty.row .bool=true/\(0:Int)<=(t.length:Int)/\(t.length:Int)<=(t.length:Int)/\((1:Nat):Int)*(t.length:Int)<=(281474976710656:Int)/\(t.length:Int)<=(9223372036854775807:Int)then(Oi d (t,()) 0 [] (List.replicate (t.length:Int).toNat false)).bind _ else none) _;rw[AQx ⟨rfl,by omega,by omega,by omega,by omega⟩,AQg];refine Az.bind (P:=λr=>(∃x,r=.inl x/\¬∃ws,OD d t ws)\/(∃ws u,r=.inr (u,ws)/\ws.length=t.length/\mT d t ws/\u.length=t.length/\∀k:Nat,k<t.length->(u.getD k false=true↔fp t k t.length))) ?_ λr hr=>?_
  ·unfold Oi;refine BW (λi (s:ASH×ASI)=>((i:Int),s.1,s.2)) t.length
    (λi s=>s.1.length=i/\mT d t s.1/\s.2.length=t.length/\∀k:Nat,k<t.length->(s.2.getD k false=true↔fp t k i))
    (λi s hi hI=>?_) (λs hI=>?_) (s0:=(([]:ASH),List.replicate t.length false)) ⟨rfl,⟨AQ1 _,λj hj=>by simp at hj⟩,AQM,λk hk=>by
     have h0:(List.replicate t.length false).getD k false=false:=by simp[List.getD,hk]
     constructor
     ·intro h;rw[h0]at h;cases h
     ·rintro⟨j,hj,_⟩;omega⟩
   ·obtain⟨ws,Wu⟩:=s;obtain⟨hwl,hp,yc,hu⟩:=hI;simp only at hwl hp yc hu;subst hwl;have hn:Y9 (nd t ws.length):=ht.2 _ (AK hi);unfold HN K4;simp only;rw[show decide ((ws.length:Int)<(t.length:Int))=true from C9 hi,AQv,AQx (Bj hi),AQg];obtain⟨r,hr,hq⟩:=xd (d:=d) (i:=ws.length) hn (by omega) hd;rw[show QK d (t.getD ws.length Ah.zero) (ws.length:Int)=some r from hr,AQf];cases r with
    |false =>
     refine Az.mk (.inl ⟨_,rfl,λ⟨mY,h'⟩=>?_⟩);obtain⟨w,hw⟩:=h'.node hp hi;have:=hq.2 ⟨hw.1,hw.2.1,hw.2.2.1⟩;cases this
    |true =>
     obtain⟨Gq,vP,bh⟩:=hq.1 rfl;simp only[AQZ,AQu];rw[AQx (Bj hi)];have hwb:=hp.BP htb;obtain⟨w,hw,hwe⟩:=xk (d:=d) hn hwb Gq bh;rw[show Ud d (t.getD ws.length Ah.zero) ws=some w from hw,AQf,Tv];have AnL:=Ajw hwb Gq bh;by_cases tO:1<=w/\w<=4096
     ·rw[AQk tO];simp only[AQZ,AQu];have AhB:tY d ws (nd t ws.length) w:=⟨Gq,vP,bh,by
       rcases AnL with h |h
       ·rw[hwe,h];rfl
       ·omega,tO⟩
      rw[AQx (by show(_+1)*8<=_;omega)];refine Az.bind (xi hi hn (by rw[yc];exact λk hk=>by have:=Gq k hk;omega)) λu hu'=>Az.mk ⟨(ws++[w],u),by rw[Bl hi htb],by simp,hp.snoc hi AhB,hu'.1.trans yc,λk hk=>?_⟩;rw[hu'.2 k (by omega),hu k hk];constructor
      ·rintro(⟨j,h1,h2⟩|h)
       ·exact⟨j,by omega,h2⟩
       ·exact⟨ws.length,by omega,h⟩
      ·rintro⟨j,h1,h2⟩
       rcases AQq j ws.length with h' |h'
       ·exact .inl ⟨j,h',h2⟩
       ·rw[show j=ws.length by omega]at h2;exact .inr h2
     ·rw[AQi tO];refine Az.mk (.inl ⟨_,rfl,λ⟨mY,h'⟩=>?_⟩);obtain⟨v,hv⟩:=h'.node hp hi;have h3:=hv.2.2.2;have e:(HE ws (nd t ws.length)).sum=Vo ws (nd t ws.length):=rfl;rw[e]at h3;rcases AnL with h |h
      ·rw[hwe,h]at tO;exact tO (by rw[<-h3.1];exact h3.2)
      ·omega
   ·obtain⟨ws,Wu⟩:=s;obtain⟨hwl,hp,yc,hu⟩:=hI;unfold HN K4;simp only;rw[DU,AQu];exact Az.mk (.inr ⟨ws,Wu,rfl,hwl,hp,yc,hu⟩)
  ·rcases hr with ⟨x,rfl,h⟩|⟨ws,u,rfl,hwl,hp,yc,hu⟩
   ·exact Az.mk (.inr ⟨rfl,λhh=>h hh.2⟩)
   ·simp only[ARi];refine Az.bind (P:=λr=>(r=.inl ()/\¬∀k,k+1<t.length->u.getD k false=true)\/(r=.inr ()/\∀k,k+1<t.length->u.getD k false=true)) ?_ λr hr=>?_
    ·unfold Ta;refine BW (λj (_:Unit)=>(j:Int)) (t.length-1) (λj _=>∀k,k<j->u.getD k false=true) (λj _ hj hJ=>?_) (λ_ hJ=>?_) (s0:=()) (λi h=>by omega)
     ·unfold HO K5;rw[Bl (show j<t.length by omega) htb,yc,show decide (((j+1:Nat):Int)<(t.length:Int))=true from LL,AQv,AQx (Bj (by omega)),AQg];show Az (bif !(u.getD j false)then _ else _) _;cases hc:u.getD j false with
      |false=>exact Az.mk (.inl ⟨rfl,λh=>by rw[h j (by omega)]at hc;cases hc⟩)
      |true =>
       refine Az.mk ⟨(),rfl,λk hk=>?_⟩;rcases AQq k j with h' |h'
       ·exact hJ k h'
       ·rw[show k=j by omega];exact hc
     ·unfold HO K5;rw[show wI (((t.length-1:Nat):Int)+1)=(t.length:Int)from AZ,yc,DU,AQu];exact Az.mk (.inr ⟨rfl,λk hk=>hJ k (by omega)⟩)
    ·rcases hr with ⟨rfl,h⟩|⟨rfl,h⟩
     ·exact Az.mk (.inr ⟨rfl,λ⟨_,mY,h'⟩=>h λk hk=>(hu k (by omega)).2 (h'.2.2.2.2 k hk)⟩)
     ·exact Az.mk (.inl ⟨kV,U6,b9,hwl,hp,λk hk=>(hu k (by omega)).1 (h k hk)⟩)
open Classical in
noncomputable def Ig(d:ASL)(t:ASP):Int:=if h:∃ws,OD d t ws then h.choose.getD (t.length-1) 0 else -1
theorem ZT{d:ASL}{t:ASP}{ws:ASH}(h:OD d t ws):Ig d t=ws.getD (t.length-1) 0:=by
 have he:∃ws,OD d t ws:=⟨ws,h⟩;unfold Ig;rw[dif_pos he];have h1:=he.choose_spec;rw[h1.2.2.2.1.unique h.2.2.2.1 (by rw[h1.2.2.1,h.2.2.1])]
theorem Wq{d:ASL}{t:ASP}(h:¬∃ws,OD d t ws):Ig d t=-1:=by
 unfold Ig;rw[dif_neg h]
theorem p9{d:ASL}{t:ASP}{ws:ASH}(h:OD d t ws):1<=Ig d t/\Ig d t<=4096:=by
 rw[ZT h];have:=h.1;exact(h.2.2.2.1.2 _ (by rw[h.2.2.1];omega)).2.2.2.2
theorem MX{d:ASL}{t:ASP}(ht:L0 t)(hd:d.length<=1048576):Fh d (t,())=some (Ig d t):=by
 refine Az.eq_ (Az.bind (nO ht hd) λr hr=>?_);rcases hr with ⟨h1,h2⟩|⟨h1,h2⟩
 ·rw[h1];have:=h2.1;have hb:=ht.1;rw[h2.2.2.1,show wI _=((t.length-1:Nat))from AZ,AQx ⟨by omega,by omega⟩];exact Az.mk (ZT h2).symm
 ·rw[h1];exact Az.mk (Wq h2).symm
theorem V8{d:ASL}{t:ASP}(ht:L0 t)(hd:d.length<=1048576)(kV:AE d):Fv d (t,())=some (Ig d t):=by
 refine Az.eq_ (Az.bind (od ht hd) λr hr=>?_);rcases hr with ⟨_,h2⟩|⟨rfl,h2⟩
 ·have:=h2.1;have hb:=ht.1;rw[h2.2.2.1,UY,Ic,show wI _=((t.length-1:Nat))from AZ,AQx ⟨by omega,by omega⟩];exact Az.mk (ZT h2).symm
 ·exact Az.mk (Wq λh=>h2 ⟨kV,h⟩).symm
end Go.Proofs.X
namespace Go.Proofs.X
open Go Go.Va
set_option maxRecDepth 100000
def li(l:ASN)(i:Nat):ASx:=l.getD i Af.zero
def gX(l:ASN)(i:Nat):Int:=(li l i).1
def lS(l:ASN)(i:Nat):ASP:=(li l i).2.2.1.1
def lT(l:ASN)(i:Nat):ASP:=(li l i).2.2.2.1.1
def Xo(d:ASL)(l:ASN)(i:Nat):Prop:=(1<=gX l i/\gX l i<=1000000)/\(0<i->gX l (i-1)<gX l i)/\0<=Ig d (lS l i)/\Ig d (lT l i)=Ig d (lS l i)
def Fz(d:ASL)(l:ASN):Prop:=l.length<=60/\∀i,i<l.length->Xo d l i
def Kr(x:ASx):Prop:=L0 x.2.2.1.1/\L0 x.2.2.2.1.1
theorem ZN{d:ASL}{l:ASN}(hl:∀x∈l,Kr x):Az (Gu d l) λr=>r=true↔AE d/\Fz d l:=by
 unfold Gu;obtain⟨b,iK,vA⟩:∃b,HJ d l=some b/\(b=false↔AE d/\l.length<=60):=by
  obtain⟨r,hr,hq⟩:=Vi d;unfold HJ
  grind
 rw[iK,AQf];cases b with
 |true=>exact Az.mk ⟨λh=>by grind,λh=>by have:=vA.2 ⟨h.1,h.2.1⟩;cases this⟩
 |false =>
  obtain⟨kV,hlen⟩:=vA.1 rfl;have hd:=kV.1;refine Az.bind (P:=λt=>(t=.inl ()/\¬∀i,i<l.length->Xo d l i)\/(t=.inr ()/\∀i,i<l.length->Xo d l i)) ?_ λt ht=>?_
  ·refine BW (λj (_:Unit)=>(j:Int)) l.length (λj _=>∀k,k<j->Xo d l k) (λj _ hj hJ=>?_) (λ_ hJ=>?_) (s0:=()) (λi h=>by omega)
   ·unfold FH I3;have hB:=hl _ (AK (z :=Af.zero) hj);have e1:Fv d (l.getD j Af.zero).2.2.1=some (Ig d (lS l j)):=V8 hB.1 (by omega) kV;have e2:Fv d (l.getD j Af.zero).2.2.2.1=some (Ig d (lT l j)):=V8 hB.2 (by omega) kV;have e3:(l.getD j Af.zero).1=gX l j:=rfl;rw[C9 hj,AQx (Bj hj),AQg,e1,AQf];obtain⟨b,iK,vA⟩:∃b,HK d l (j:Int) (Ig d (lS l j))=some b/\(b=false↔Xo d l j):=by
     unfold HK Xo;rw[AQx (Bj hj),AQx (Bj hj),AQg,e3,Tv,e2,AQf];by_cases h1:1<=gX l j/\gX l j<=1000000
     ·rw[AQk h1];have last:∃b,(bif decide (Ig d (lS l j)<0)then some true else some (Ig d (lT l j) !=Ig d (lS l j)))=some b/\(b=false↔0<=Ig d (lS l j)/\Ig d (lT l j)=Ig d (lS l j)):=by
       grind
      obtain⟨b,hb,hq⟩:=last;by_cases h2:0<j
      ·rw[AQk (show(j:Int)>0 by omega),show wI ((j:Int)-1)=((j-1:Nat):Int)from AZ,AQx (Bj (by omega)),AQg];have e4:(l.getD (j-1) Af.zero).1=gX l (j-1):=rfl
       grind
      grind
     grind
    rw[iK,AQf];cases b with
    |true=>exact Az.mk (.inl ⟨rfl,λh=>by have:=vA.2 (h j hj);cases this⟩)
    |false =>
     rw[Bl hj (by omega)];refine Az.mk ⟨(),rfl,λk hk=>?_⟩;rcases AQq k j with h' |h'
     ·exact hJ k h'
     ·grind
   ·unfold FH I3;rw[DU];exact Az.mk (.inr ⟨rfl,hJ⟩)
  ·rcases ht with ⟨rfl,h⟩|⟨rfl,h⟩
   ·exact Az.mk ⟨λh=>by(cases h),λh'=>absurd h'.2.2 h⟩
   ·exact Az.mk ⟨λ_=>⟨kV,hlen,h⟩,λ_=>rfl⟩
theorem v7{d:ASL}{l:ASN}(hl:∀x∈l,Kr x):Az (Ll d l) λr=>r=true↔AE d/\Fz d l:=by
 unfold Ll;obtain⟨r,hr,hq⟩:=Yh d;rw[hr,AQf];cases r with
 |false=>exact Az.mk ⟨λh=>by grind,λh=>by grind⟩
 |true =>
  have kV:=hq.1 rfl;have hd:=kV.1;unfold Gr;by_cases hlen:l.length<=60
  ·rw[AQi (by omega:¬(l.length:Int)>60)];refine Az.bind (P:=λr=>r=true↔AE d/\Fz d l) (Az.bind (P:=λt=>(t=.inl ()/\¬∀i,i<l.length->Xo d l i)\/(t=.inr ()/\∀i,i<l.length->Xo d l i)) ?_ λt ht=>?_) λr h=>Az.mk h
   ·have:=BW (f:=BZ d l (l.length:Int)) (λj (_:Unit)=>((if j=0 then 0 else gX l (j-1):Int),(j:Int))) l.length (λj _=>∀k,k<j->Xo d l k) (Q:=λt=>(t=.inl ()/\¬∀i,i<l.length->Xo d l i)\/(t=.inr ()/\∀i,i<l.length->Xo d l i)) (λj _ hj hJ=>?_) (λ_ hJ=>?_) (s0:=()) (λi h=>by omega)
    ·exact this
    ·unfold BZ Dx;have hB:=hl _ (AK (z :=Af.zero) hj);have e1:Fh d (l.getD j Af.zero).2.2.1=some (Ig d (lS l j)):=MX hB.1 (by omega);have e2:Fh d (l.getD j Af.zero).2.2.2.1=some (Ig d (lT l j)):=MX hB.2 (by omega);have e3:(l.getD j Af.zero).1=gX l j:=rfl;rw[C9 hj,AQx (Bj hj),AQg,e1,AQf];obtain⟨c,hc⟩:∃c:Int,c=if j=0 then 0 else gX l (j-1):=⟨_,rfl⟩;have hcb:0<=c/\c<=1000000/\(0<j->c=gX l (j-1))/\(j=0->c=0):=by
      by_cases h0:j=0
      ·grind
      ·rw[AQy h0]at hc;have:=(hJ (j-1) (by omega)).1
       grind
     rw[<-hc];obtain⟨b,iK,vA⟩:∃b,Dr d c (Ig d (lS l j)) l (l.length:Int) (j:Int) (l.getD j Af.zero)=some b/\(b=false↔Xo d l j):=by
      unfold Dr Xo;rw[e3,LD,BH (x:=c+1),e2]
      grind
     rw[iK,AQf];cases b with
     |true=>exact Az.mk (.inl ⟨rfl,λh=>by grind⟩)
     |false =>
      rw[Bl hj (by omega)];refine Az.mk ⟨(),rfl,λk hk=>?_⟩
      grind
    ·unfold BZ Dx;rw[DU];exact Az.mk (.inr ⟨rfl,hJ⟩)
   ·rcases ht with ⟨rfl,h⟩|⟨rfl,h⟩
    ·exact Az.mk ⟨λh=>by grind,λh'=>absurd h'.2.2 h⟩
    ·exact Az.mk ⟨λ_=>⟨kV,hlen,h⟩,λ_=>rfl⟩
  ·rw[AQk (by omega:(l.length:Int)>60)];exact Az.mk ⟨λh=>by grind,λh=>absurd h.2.1 hlen⟩
end Go.Proofs.X
namespace Go.Va
open Go.Proofs.X
theorem vu{T:Type}{f:Int×ATU T->ATV ((Int×ATU T)⊕ATU T)}(N:Nat)(it:Nat->ATU T)(a0:ATU T)
    (hs:∀k,k<N->f ((k:Int),a0++(List.range k).flatMap it)=some (.inl (((k+1:Nat):Int),a0++(List.range k).flatMap it++it k)))
    (he:f ((N:Int),a0++(List.range N).flatMap it)=some (.inr (a0++(List.range N).flatMap it))):fix f (0,a0)=some (a0++(List.range N).flatMap it):=by
 have:=AP  (λk=>((k:Int),a0++(List.range k).flatMap it)) N (λk hk=>by
  rw[hs k hk,ARn,AQn];simp) he
 simpa using this
theorem gH{A B:Type}(g:A->B)(l:ATU A):l.flatMap (λx=>[g x])=l.map g:=by
 induction l with
 |nil=>rfl
 |cons x l ih=>grind
theorem kN{A B:Type}(b:ATU B)(l:ATU A):l.flatMap (λ_=>b)=(List.replicate l.length b).flatten:=by
 induction l with
 |nil=>rfl
 |cons x l ih=>grind
end Go.Va
namespace Go.Proofs.X
open Go Go.Va
set_option maxRecDepth 100000
def OY(n:ASz)(w:Nat):Nat:=if BR n=8 then(w-(nA n).toNat%w)%w else(nA n).toNat%w
def Bz(d:ASL)(n:ASz)(kids:ATU (ATU Bt)):ATU Bt :=
 if BR n=1 then(List.range (dw d (Jc n).toNat).toNat).map λa=>.va (Jc n).toNat a
 else if BR n=2 then(List.range (nW n).toNat).map λk=>.co (bt (ib n) k)
 else if BR n=3 then kids.reverse.flatten
 else if BR n=4 then((kids.getD 0 []).take ((nA n).toNat+1)).drop (nB n).toNat
 else if BR n=5 then kids.getD 0 []++List.replicate (nA n).toNat (.co false)
 else if BR n=6 then kids.getD 0 []++List.replicate (nA n).toNat ((kids.getD 0 []).getD ((kids.getD 0 []).length-1) (.co false))
 else if BR n=9 then(List.replicate (nA n).toNat (kids.getD 0 [])).flatten
 else(kids.getD 0 []).drop ((kids.getD 0 []).length-OY n (kids.getD 0 []).length)++(kids.getD 0 []).take ((kids.getD 0 []).length-OY n (kids.getD 0 []).length)
def MS(d:ASL):Bt->Prop
 |.co _=>True
 |.va v a=>v<d.length/\((a:Nat):Int)<dw d v
def lr(kids:ATU (ATU Bt)):Int:=((kids.map List.length).sum:Nat)
def Bm(d:ASL)(B:ATU Bt):Prop:=1<=B.length/\B.length<=4096/\∀b∈B,MS d b
structure NB (d:ASL) (n:ASz) (kids:List (List Bt)):Prop where
 hd:AE d
 hf:LY d n
 hb:Y9 n
 hk:kids.length=(AL n).length
 hw:1<=Hq d n (lr kids)/\Hq d n (lr kids)<=4096
 Gq:∀B∈kids,Bm d B
theorem SE{d:ASL}(hd:AE d){b:Bt}(h:MS d b):BtB b:=by
 cases b with
 |co b=>trivial
 |va v a =>
  obtain⟨h1,h2⟩:=h;have:=(hd.2.1 v h1).2.1;have:=hd.1;exact⟨by omega,by omega⟩
theorem NB.one{d:ASL}{n:ASz}{kids:ATU (ATU Bt)}(h:NB d n kids)(h1:BR n≠1)(h2:BR n≠2)(h3:BR n≠3):4<=BR n/\BR n<=9/\∃B,kids=[B]/\Bm d B/\lr kids=(B.length:Int):=by
 have hf:=h.hf;unfold LY at hf;have:4<=BR n/\BR n<=9/\(AL n).length=1:=by omega
 obtain⟨h4,h9,hl⟩:=this;have hk:=h.hk;rw[hl]at hk
 match kids,hk,h.Gq with
 |[B],_,Gq=>exact⟨h4,h9,B,rfl,Gq B AQK,by simp[lr]⟩
theorem tm{n:ASz}{w:Nat}(h:1<=w):OY n w<w:=by
 unfold OY;split<;>exact Nat.mod_lt _ (by omega)
theorem iw(l:ASJ):l.reverse.sum=l.sum:=by
 grind
theorem dY{d:ASL}{n:ASz}{kids:ATU (ATU Bt)}(h:NB d n kids):((Bz d n kids).length:Int)=Hq d n (lr kids):=by
 have hw:=h.hw;by_cases h1:BR n=1
 ·simp only[Bz,Hq,AQx h1,AQr,AQW]at hw⊢;omega
 by_cases h2:BR n=2
 ·simp only[Bz,Hq,AQy h1,AQx h2,AQr,AQW]at hw⊢;omega
 by_cases h3:BR n=3
 ·have e:¬BR n=4/\¬(BR n=5\/BR n=6)/\¬(BR n=7\/BR n=8)/\¬BR n=9:=by omega
  simp only[Bz,Hq,AQy h1,AQy h2,AQx h3,AQy e.1,AQy e.2.1,AQy e.2.2.1,AQy e.2.2.2,lr];rw[ARM,List.map_reverse,iw]
 obtain⟨h4,h9,B,rfl,hB,hs⟩:=h.one h1 h2 h3;have hl:=hB.1;rw[hs]at hw⊢;by_cases vw:BR n=4
 ·simp only[Bz,Hq,AQy h1,AQy h2,AQy h3,AQx vw,ARc,AQP,AQA]at hw⊢;split at hw<;>rename_i hc
  ·rw[AQx hc];omega
  ·omega
 by_cases h5:BR n=5
 ·have xX:BR n=5\/BR n=6:=.inl h5;simp only[Bz,Hq,AQy h1,AQy h2,AQy h3,AQy vw,AQx h5,AQx xX,ARc,AQj,AQM]at hw⊢;split at hw<;>rename_i hc
  ·rw[AQx hc];omega
  ·omega
 by_cases h6:BR n=6
 ·have xX:BR n=5\/BR n=6:=.inr h6;simp only[Bz,Hq,AQy h1,AQy h2,AQy h3,AQy vw,AQy h5,AQx h6,AQx xX,ARc,AQj,AQM]at hw⊢;split at hw<;>rename_i hc
  ·rw[AQx hc];omega
  ·omega
 have xX:¬(BR n=5\/BR n=6):=by omega
 by_cases h9':BR n=9
 ·have h78:¬(BR n=7\/BR n=8):=by omega
  simp only[Bz,Hq,AQy h1,AQy h2,AQy h3,AQy vw,AQy h5,AQy h6,AQy xX,AQy h78,AQx h9',ARc,ARM,AR0,ARZ]at hw⊢;split at hw<;>rename_i hc
  ·rw[AQx hc];have:(nA n)=((nA n).toNat:Int):=by omega
   rw[this,AQg,Int.natCast_mul,Int.mul_comm]
  ·omega
 ·have h78:BR n=7\/BR n=8:=by omega
  have ht:=tm (n:=n) hl;simp only[Bz,Hq,AQy h1,AQy h2,AQy h3,AQy vw,AQy h5,AQy h6,AQy xX,AQx h78,AQy h9',ARc,AQj,AQP,AQA]at hw⊢;split at hw<;>rename_i hc
  ·rw[AQx hc];omega
  ·omega
theorem WO{d:ASL}{n:ASz}{kids:ATU (ATU Bt)}(h:NB d n kids):Bm d (Bz d n kids):=by
 have hl:=dY h;refine⟨by have:=h.hw;omega,by have:=h.hw;omega,λb hb=>?_⟩;by_cases h1:BR n=1
 ·have hf:=h.hf;unfold LY at hf;simp only[Bz,AQx h1,List.mem_map,List.mem_range]at hb;obtain⟨a,ha,rfl⟩:=hb;exact⟨by omega,by omega⟩
 by_cases h2:BR n=2
 ·simp only[Bz,AQy h1,AQx h2,List.mem_map]at hb;obtain⟨a,ha,rfl⟩:=hb;trivial
 by_cases h3:BR n=3
 ·simp only[Bz,AQy h1,AQy h2,AQx h3,List.mem_flatten,List.mem_reverse]at hb;obtain⟨B,hB,hb⟩:=hb;exact(h.Gq B hB).2.2 b hb
 obtain⟨h4,h9,B,rfl,hB,hs⟩:=h.one h1 h2 h3;have hz:B.getD (B.length-1) (.co false)∈B:=AK (by have:=hB.1;omega);simp only[Bz,AQy h1,AQy h2,AQy h3]at hb;split at hb
 ·exact hB.2.2 b (ARw (AR6 hb))
 split at hb
 ·rcases List.mem_append.1 hb with hb |hb
  ·exact hB.2.2 b hb
  ·rw[(List.mem_replicate.1 hb).2];trivial
 split at hb
 ·rcases List.mem_append.1 hb with hb |hb
  ·exact hB.2.2 b hb
  ·rw[(List.mem_replicate.1 hb).2];exact hB.2.2 _ hz
 split at hb
 ·obtain⟨C,hC,hb⟩:=List.mem_flatten.1 hb;rw[(List.mem_replicate.1 hC).2]at hb;exact hB.2.2 b hb
 ·rcases List.mem_append.1 hb with hb |hb
  ·exact hB.2.2 b (AR6 hb)
  ·exact hB.2.2 b (ARw hb)
end Go.Proofs.X
namespace Go.Va
open Go.Proofs.X
theorem Zr{T:Type}{f:Int×ATU T->ATV ((Int×ATU T)⊕ATU T)}(N:Nat)(g:Nat->T)(a0:ATU T)
    (hs:∀k acc,k<N->acc.length=a0.length+k->f ((k:Int),acc)=some (.inl (((k+1:Nat):Int),acc++[g k]))) (he:∀acc,f ((N:Int),acc)=some (.inr acc)):fix f (0,a0)=some (a0++(List.range N).map g):=by
 have:=vu  N (λk=>[g k]) a0 (λk hk=>hs k _ hk (by rw[gH];simp)) (he _);rw[gH]at this;exact this
end Go.Va
namespace Go.Proofs.X
open Go Go.Va
set_option maxRecDepth 100000
theorem AG8(kids:ATU (ATU Bt))(k:Nat):(kids.map bV).getD k ATI.zero=bV (kids.getD k []):=by
 simp;cases kids[k]?<;>rfl
theorem Ab2{x:Int}(h1:-4611686018427387904<=x)(h2:x<4611686018427387904):wI x=x:=BH
theorem AbL{A:Type}{l:ATU A}{z:A}{k:Nat}(h:k<l.length):l.reverse.getD k z=l.getD (l.length-1-k) z:=by
 grind
theorem dK(kids:ATU (ATU Bt))(k:Nat):((kids.reverse.take k).flatten).length<=(kids.map List.length).sum:=by
 rw[<-iw,<-List.map_reverse,ARM]
 conv=>rhs;rw[<-ARp k kids.reverse,AQY,AR4]
 omega
theorem AgN{a:Nat}:decide ((a:Int)>=0)=true:=LL
theorem Aad{d:ASL}{n:ASz}{kids:ATU (ATU Bt)}(h:NB d n kids)(h3:BR n=3):UG (kids.map bV) (wI (((kids.map bV).length:Int)-1)) []=some (bV kids.reverse.flatten):=by
 have hlen:kids.length<=1048576:=by rw[h.hk];exact h.hb.1
 have AhQ:(kids.map List.length).sum<=4096:=by
  have hw:=h.hw;have e :=by omega
  simp only[Hq,lr]at hw;omega
 rw[AQr,Ab2 (by omega) (by omega)];have:=AP (f:=Ga (kids.map bV)) (λk=>(kids.length-1-k,bV (kids.reverse.take k).flatten))  kids.length (λk hk=>by
  unfold Ga MB;have e:kids.length-1-k=((kids.length-1-k:Nat):Int):=by omega
  have hb:=dK kids k;have Gq:=h.Gq (kids.getD (kids.length-1-k) []) (AK (by omega));rw[e,AgN,AQv,AQr,AQx ⟨by omega,by omega⟩,AQg,AG8,CM,CM,AQx (by have:=Gq.2.1;omega),Ab2 (by omega) (by omega)];rw[AY (z:=[]) (show k<kids.reverse.length by grind),AbL hk,List.flatten_append,<-Xt]
  grind) (by
  unfold Ga MB;rw[Ic,AQu,AQp (by grind)])
 have xw :=this;rw[show kids.length-1-((0:Nat))=(kids.length:Int)-1 by omega]at xw;exact xw
theorem xf{d:ASL}{n:ASz}{kids:ATU (ATU Bt)}(h:NB d n kids):Uf d n (kids.map bV)=some (bV (Bz d n kids)):=by
 have e1:∀x:Int,(n.1==x)=decide (BR n=x):=λx=>UY;have hbl:=WO h;have Y0:=hbl.2.1;unfold Uf P5 Po;simp only[e1];by_cases h1:BR n=1
 ·rw[AQk h1,AQv];have hf:=h.hf;unfold LY at hf;have hv:0<=Jc n/\Jc n<(d.length:Int):=by omega
  obtain⟨N,hN⟩:∃N:Nat,dw d (Jc n).toNat=(N:Int):=by
   have:=(h.hd.2.1 (Jc n).toNat (by omega)).2.1;exact⟨(dw d (Jc n).toNat).toNat,by omega⟩
  have hN4:N<=4096:=by have:=(h.hd.2.1 (Jc n).toNat (by omega)).2.1;omega
  rw[show PZ d n 0 []=some (bV (Bz d n kids)) by
   unfold PZ;rw[Zr (f:=F8 d n) N (λa=>WA (.va (Jc n).toNat a)) [] (λk acc hk ha=>by
    unfold F8 Mz;simp only;rw[AQx (show(0:Int)<=n.2.1/\n.2.1<(d.length:Int)from hv),show(d.getD n.2.1.toNat Ab.zero).2.1=(N:Int)from hN,C9 hk,AQv,Bl hk (by omega)];simp at ha;rw[AQx (by show(_+1)*16<=_;omega)];have:n.2.1=(((Jc n).toNat:Nat):Int):=by show Jc n=_;omega
    rw[this];rfl) (λacc=>by
    unfold F8 Mz;simp only;rw[AQx (show(0:Int)<=n.2.1/\n.2.1<(d.length:Int)from hv),show(d.getD n.2.1.toNat Ab.zero).2.1=(N:Int)from hN,DU,AQu])]
   simp only[Bz,AQx h1,hN,AQg,bV,ARz,ASb];rfl]
  rfl
 rw[AQi h1,AQu];by_cases h2:BR n=2
 ·rw[AQk h2,AQv];have hf:=h.hf;unfold LY at hf;obtain⟨m,UO,Tm⟩:uj n:=by
   rcases hf with h |h |h |h
   ·omega
   ·exact h.2.2
   ·omega
   ·omega
  rw[show P0 n 0 []=some (bV (Bz d n kids)) by
   unfold P0;rw[Zr (f:=F9 n) m (λk=>WA (.co (bt (ib n) k))) [] (λk acc hk ha=>by
    unfold F9 MA;simp only;have hb:Jj n.2.2.2.2.1 (k:Int)=some (bI (bt (ib n) k)):=lu (w:=nW n) Tm.2.2.2.1 (by rw[Tm.2.2.1];unfold nw;omega) h.hb.2.1;have h4:=Tm.2.1;rw[show n.2.2.2.2.1.1=(m:Int)from UO,C9 hk,AQv,hb,AQf,Bl hk (by omega)];simp at ha;rw[AQx (by show(_+1)*16<=_;omega)];rw[show wI (bI (bt (ib n) k))=bI (bt (ib n) k) by cases bt (ib n) k<;>rfl];rfl) (λacc=>by
    unfold F9 MA;simp only;rw[show n.2.2.2.2.1.1=(m:Int)from UO,DU,AQu])]
   simp only[Bz,AQy h1,AQx h2,UO,AQg,bV,ARz,ASb];rfl]
  rfl
 rw[AQi h2,AQu];by_cases h3:BR n=3
 ·rw[AQk h3,AQv,Aad h h3];simp only[Bz,AQy h1,AQy h2,AQx h3];rfl
 rw[AQi h3,AQu];obtain⟨h4,h9,B,rfl,hB,hs⟩:=h.one h1 h2 h3;have hl:=hB.1;have hl4:=hB.2.1;have hw:=h.hw;have g0:([B].map bV).getD 0 ATI.zero=bV B:=rfl;have r0:(0:Int)<=(0:Int)/\(0:Int)<(([B].map bV).length:Int):=⟨by omega,by simp⟩;rw[hs]at hw;simp only[Bz,AQy h1,AQy h2,AQy h3,ARc]at Y0⊢;simp only[Hq,AQy h1,AQy h2]at hw;by_cases vw:BR n=4
 ·simp only[AQx vw]at hw Y0⊢;split at hw<;>rename_i hc
  ·obtain⟨A,hA⟩:∃A:Nat,nA n=(A:Int):=⟨(nA n).toNat,by omega⟩;obtain⟨L,hL⟩:∃L:Nat,nB n=(L:Int):=⟨(nB n).toNat,by omega⟩;have kT:n.2.2.1=(A:Int):=hA;have hL':n.2.2.2.1=(L:Int):=hL;rw[AQk vw,AQv,AQx r0,g0,kT,hL',show wI ((A:Int)+1)=((A+1:Nat):Int)from AZ,CM];rw[AQx (show(0:Int)<=(L:Int)/\(L:Int)<=((A+1:Nat):Int)/\((A+1:Nat):Int)<=(B.length:Int)from⟨by omega,by omega,by omega⟩),AQg,AQg,hA,hL,AQg,AQg];rw[show(List.drop L (List.take (A+1) (bV B)))=bV ((B.take (A+1)).drop L) by simp[bV,List.map_drop,List.map_take],CM,AQP,AQA,VI];rfl
  ·omega
 rw[AQi vw,AQu];simp only[AQy vw]at hw Y0⊢;by_cases xX:BR n=5\/BR n=6
 ·simp only[AQx xX]at hw;split at hw<;>rename_i hc
  ·obtain⟨A,hA⟩:∃A:Nat,nA n=(A:Int):=⟨(nA n).toNat,by omega⟩;have kT:n.2.2.1=(A:Int):=hA;have Hs:(bif decide (BR n=5)then decide (BR n=5)else decide (BR n=6))=true:=by
    rcases xX with h |h<;>simp[h]
   have gN:wI (((bV B).length:Int)-1)=((B.length-1:Nat):Int):=by rw[CM];exact AZ
   rw[Hs,AQv];by_cases h6:BR n=6
   ·have h5:¬BR n=5:=by omega
    simp only[AQy h5,AQx h6,hA,AQg,AQj,AQM]at Y0⊢;rw[show Gv ([B].map bV) n=some (.inl ()) by
     unfold Gv;rw[e1,AQk h6,AQv,AQx r0,AQx r0,g0,gN,CM,AQx ⟨by omega,by omega⟩],AQf]
    simp only[ARy];rw[AQx r0,g0,gN,AQg,CM,VI,db (by omega)];rw[show P2 n (WA (B.getD (B.length-1) (.co false))) 0 (bV B)=some (bV (B++List.replicate A (B.getD (B.length-1) (.co false)))) by
     unfold P2;rw[Zr (f:=Gb n (WA (B.getD (B.length-1) (.co false)))) A (λ_=>WA (B.getD (B.length-1) (.co false))) (bV B) (λk acc hk ha=>by
      unfold Gb MC;simp only;rw[CM]at ha;rw[kT,C9 hk,AQv,Bl hk (by omega),AQx (by show(_+1)*16<=_;omega)]) (λacc=>by
      unfold Gb MC;simp only;rw[kT,DU,AQu])]
     rw[Xt];simp[bV,List.map_const']]
    rfl
   ·have h5:BR n=5:=by omega
    simp only[AQx h5,hA,AQg,AQj,AQM]at Y0⊢;rw[show Gv ([B].map bV) n=some (.inr ()) by
     unfold Gv;rw[e1,AQi h6,AQu],AQf]
    simp only[ARi];rw[AQx r0,g0,CM,VI];rw[show P3 n 0 (bV B)=some (bV (B++List.replicate A (.co false))) by
     unfold P3;rw[Zr (f:=Gc n) A (λ_=>WA (.co false)) (bV B) (λk acc hk ha=>by
      unfold Gc MD;simp only;rw[CM]at ha;rw[kT,C9 hk,AQv,Bl hk (by omega),AQx (by show(_+1)*16<=_;omega)];rfl) (λacc=>by
      unfold Gc MD;simp only;rw[kT,DU,AQu])]
     rw[Xt];simp[bV,List.map_const']]
    rfl
  ·omega
 have h5:¬BR n=5:=by omega
 have h6:¬BR n=6:=by omega
 have Hs:(bif decide (BR n=5)then decide (BR n=5)else decide (BR n=6))=false:=by simp[h5,h6]
 rw[Hs,AQu];simp only[AQy h5,AQy h6,AQy xX]at hw Y0⊢;by_cases h78:BR n=7\/BR n=8
 ·simp only[AQx h78]at hw;split at hw<;>rename_i hc
  ·obtain⟨A,hA⟩:∃A:Nat,nA n=(A:Int):=⟨(nA n).toNat,by omega⟩;have kT:n.2.2.1=(A:Int):=hA;have h9':¬BR n=9:=by omega
   have QS:(bif decide (BR n=7)then decide (BR n=7)else decide (BR n=8))=true:=by
    rcases h78 with h |h<;>simp[h]
   have ht:=tm (n:=n) hl;simp only[AQy h9',AQj,AQP,AQA]at Y0⊢;rw[QS,AQv,AQx r0,g0,kT,CM,Q4];have Ahy:Int.tmod (A:Int) (B.length:Int)=((A%B.length:Nat):Int):=rfl;have rO:A%B.length<B.length:=Nat.mod_lt _ (by omega);rw[show Lr ([B].map bV) n (B.length:Int) (Int.tmod (A:Int) (B.length:Int))=some ((OY n B.length:Nat):Int) by
    unfold Lr OY;rw[e1,Ahy,hA,AQg];by_cases h8:BR n=8
    ·rw[AQk h8,AQv,Q4,AQx h8,show wI ((B.length:Int)-((A%B.length:Nat):Int))=((B.length-A%B.length:Nat):Int)from AZ];rfl
    ·rw[AQi h8,AQu,AQy h8],AQf]
   have Y2:wI ((B.length:Int)-((OY n B.length:Nat):Int))=((B.length-OY n B.length:Nat):Int):=AZ;rw[AQx r0,Y2,AQx ⟨by omega,by omega,by omega⟩,AQg,AQg];generalize hq:B.length-OY n B.length=q at *;rw[show(List.drop q (List.take B.length (bV B)))=bV (B.drop q) by rw[AQp (by rw[CM];omega)];simp[bV,List.map_drop],show(List.drop 0 (List.take q (bV B)))=bV (B.take q) by simp[bV,List.map_take],VI,AQx r0,AQx ⟨by omega,by omega,by omega⟩,VI,<-Xt];rfl
  ·omega
 have h9':BR n=9:=by omega
 have QS:(bif decide (BR n=7)then decide (BR n=7)else decide (BR n=8))=false:=by
  rw[show ¬BR n=7/\¬BR n=8 by omega |> λh=>(AQi h.1:decide (BR n=7)=false),AQu];exact Ic
 simp only[AQy h78,AQx h9']at hw Y0⊢;split at hw<;>rename_i hc
 ·obtain⟨A,hA⟩:∃A:Nat,nA n=(A:Int):=⟨(nA n).toNat,by omega⟩;have kT:n.2.2.1=(A:Int):=hA;rw[QS,AQu,AQk h9',AQv];rw[hA]at hw Y0;simp only[AQg,ARM,AR0,ARZ]at Y0;rw[show P4 ([B].map bV) n 0 []=some (bV (List.replicate A B).flatten) by
   unfold P4;rw[vu (f:=Ge ([B].map bV) n) A (λ_=>bV B) [] (λk hk=>by
    unfold Ge ME;simp only;have rL:k*B.length<=A*B.length:=AQ8 _ (by omega);rw[kT,C9 hk,AQv,AQx r0,g0,Bl hk (by omega),AQx (by
     rw[ARz,kN,ARM,AR0,ARZ,AQW,CM];omega)]) (by
    unfold Ge ME;simp only;rw[kT,DU,AQu])]
   rw[ARz,kN,AQW];simp[bV,List.map_flatten,AR0]]
  rw[hA];rfl
 ·omega
end Go.Proofs.X
namespace Go.Proofs.X
open Go Go.Va
set_option maxRecDepth 100000
def fN(B:ATU Bt):ASO:=fV (AA B)
theorem AnG(kids:ATU (ATU Bt))(k:Nat):(kids.map fN).getD k ATH.zero=fN (kids.getD k []):=by
 simp;cases kids[k]?<;>rfl
theorem sJ{d:ASL}(hd:AE d){a b:ATU Bt}(ha:∀x∈a,MS d x)(hb:∀x∈b,MS d x)(hl:a.length+b.length<=4096):ER (fN b) (fN a)=some (fN (a++b)):=by
 unfold fN;rw[wR (CJ b) (CJ a) (Qq (λx hx=>fy (SE hd (hb x hx))) (by omega)) (Qq (λx hx=>fy (SE hd (ha x hx))) (by omega)) (by rw[B9,B9];exact hl),wS]
theorem Aim{s:Sg}(h:1<=s.w):AA s.bits=[s]:=by
 have:=ZK s.w s [] rfl h;exact this.symm
theorem AvF(b:Bt):fN [b]=[Ir b.sg]:=rfl
theorem AmC{d:ASL}(hd:AE d){a:ATU Bt}{b:Bt}(ha:∀x∈a,MS d x)(hb:MS d b)(hl:a.length+1<=4096):ER [Ir b.sg] (fN a)=some (fN (a++[b])) :=
 sJ hd ha (b:=[b]) (λx hx=>by grind) hl
theorem Aau{d:ASL}{B:ATU Bt}(h:Bm d B):FD (fN B)=some (B.length:Int):=by
 unfold fN;rw[rC (CJ B) (by rw[B9];exact h.2.1),B9]
theorem AbH{d:ASL}(hd:AE d){B:ATU Bt}(h:Bm d B){lo w:Nat}(hlo:lo+w<=8192):Ff (fN B) (lo:Int) (w:Int)=some (fN ((B.drop lo).take w)):=by
 have hs :=λx hx=>fy (SE hd (h.2.2 x hx));unfold fN;rw[vj (CJ B) (Qq hs h.2.1) (by rw[EU];exact hs) (by rw[B9];exact h.2.1) hlo,EU]
theorem pV{d:ASL}(hd:AE d){B:ATU Bt}{b:Bt}{A:Nat}(hB:Bm d B)(hb:MS d b)(hl:B.length+A<=4096){f:Int×ASO->ATV (ATh⊕ASO)}
    (hs:∀x:Int×ASO,f x=bif decide (x.1<(A:Int))then(ER [Ir b.sg] x.2).bind λo=>some (.inl (wI (x.1+1),o))else some (.inr x.2)):fix f (0,fN B)=some (fN (B++List.replicate A b)):=by
 have:=AP (f:=f) (λk=>((k:Int),fN (B++List.replicate k b))) (t:=fN (B++List.replicate A b)) A (λk hk=>by
  rw[hs];rw[C9 hk,AQv,AmC hd (λx hx=>by
   rcases List.mem_append.1 hx with hx |hx
   ·exact hB.2.2 x hx
   grind) hb (by grind),AQf,Bl hk (by omega),AQn,<-ASp]) (by
  grind)
 grind
theorem zC{d:ASL}{n:ASz}{kids:ATU (ATU Bt)}(h:NB d n kids)(h3:BR n=3):LO (kids.map fN) (wI (((kids.map fN).length:Int)-1)) []=some (fN kids.reverse.flatten):=by
 have hlen:kids.length<=1048576:=by rw[h.hk];exact h.hb.1
 have AhQ:(kids.map List.length).sum<=4096:=by
  have hw:=h.hw;have e :=by omega
  simp only[Hq,lr]at hw;omega
 rw[AQr,Ab2 (by omega) (by omega)];have:=AP (f:=CB (kids.map fN)) (λk=>(kids.length-1-k,fN (kids.reverse.take k).flatten))  kids.length (λk hk=>by
  unfold CB FO;have e:kids.length-1-k=((kids.length-1-k:Nat):Int):=by omega
  have hb:=dK kids (k+1);have Gq:=h.Gq (kids.getD (kids.length-1-k) []) (AK (by omega));rw[AY (z:=[]) (show k<kids.reverse.length by grind),AbL hk,List.flatten_append]at hb⊢;simp only[List.flatten_cons,List.flatten_nil,AQU]at hb⊢;rw[AQj]at hb;rw[e,AgN,AQv,AQr,AQx ⟨by omega,by omega⟩,AQg,AnG,sJ h.hd (λx hx=>by
   obtain⟨C,hC,hx⟩:=List.mem_flatten.1 hx;exact(h.Gq C (List.mem_reverse.1 (ARw hC))).2.2 x hx) Gq.2.2 (by omega),AQf,Ab2 (by omega) (by omega)]
  grind) (by
  unfold CB FO;rw[Ic,AQu,AQp (by grind)])
 have xw :=this;rw[show kids.length-1-((0:Nat))=(kids.length:Int)-1 by omega]at xw;exact xw
theorem l7{s:Sg}{v:ASy}(h:1<=s.w)(e:Ir s=v):([v]:ASO)=fN s.bits:=by
 unfold fN;rw[Aim h,<-e];rfl
theorem wh{d:ASL}{n:ASz}{kids:ATU (ATU Bt)}(h:NB d n kids):HB n d (kids.map fN)=some (fN (Bz d n kids)):=by
 have e1:∀x:Int,(n.1==x)=decide (BR n=x):=λx=>UY;have hbl:=WO h;have Y0:=hbl.2.1;unfold HB Po;simp only[e1];by_cases h1:BR n=1
 ·rw[AQk h1,AQv];have hf:=h.hf;unfold LY at hf;have hv:0<=Jc n/\Jc n<(d.length:Int):=by omega
  have hdw:=(h.hd.2.1 (Jc n).toNat (by omega)).2.1;obtain⟨N,hN⟩:∃N:Nat,dw d (Jc n).toNat=(N:Int):=⟨(dw d (Jc n).toNat).toNat,by omega⟩;rw[AQx (show(0:Int)<=n.2.1/\n.2.1<(d.length:Int)from hv),show(d.getD n.2.1.toNat Ab.zero).2.1=(N:Int)from hN];rw[l7 (s:=.va (Jc n).toNat 0 N) (by show 1<=N;omega) (by
   show((((Jc n).toNat:Nat):Int),((0:Nat):Int),(N:Int),((0:Int),([]:ASH),()),())=_;rw[show(((Jc n).toNat:Nat):Int)=n.2.1 by show _=Jc n;omega];rfl)]
  simp only[Bz,AQx h1,hN,AQg,Sg.bits,AQL]
 rw[AQi h1,AQu];by_cases h2:BR n=2
 ·rw[AQk h2,AQv];have hf:=h.hf;unfold LY at hf;obtain⟨m,UO,Tm⟩:uj n:=by
   rcases hf with h |h |h |h
   ·omega
   ·exact h.2.2
   ·omega
   ·omega
  have hl:((List.range m).map λk=>bt (ib n) k).length=m:=by simp
  rw[show Dl n.2.2.2.2.1=some (nW n,ib n)from dh h.hb.2.1,AQf];rw[l7 (s:=.co ((List.range m).map λk=>bt (ib n) k)) (by show 1<=List.length _;rw[hl];exact Tm.1) (by
   show(-1,0,((((List.range m).map λk=>bt (ib n) k).length:Nat):Int),fW ((List.range m).map λk=>bt (ib n) k),())=_;rw[zJ (f:=bt (ib n)) hl (λi hi=>by simp[List.getD,hi]),hl,show mkB m (bt (ib n))=((m:Int),ib n,()) by unfold mkB;rw[<-Tm.eq]];simp only[AO];rw[UO])]
  simp only[Bz,AQy h1,AQx h2,UO,AQg,Sg.bits,ASb];rfl
 rw[AQi h2,AQu];by_cases h3:BR n=3
 ·rw[AQk h3,AQv,zC h h3];simp only[Bz,AQy h1,AQy h2,AQx h3];rfl
 rw[AQi h3,AQu];obtain⟨h4,h9,B,rfl,hB,hs⟩:=h.one h1 h2 h3;have hl:=hB.1;have hl4:=hB.2.1;have hw:=h.hw;have g0:([B].map fN).getD 0 ATH.zero=fN B:=rfl;have r0:(0:Int)<=(0:Int)/\(0:Int)<(([B].map fN).length:Int):=⟨by omega,by simp⟩;have AMt:(fN B).length<=4096:=by
  unfold fN;rw[Cj];have:=CQ (CJ B);rw[B9]at this;omega
 rw[hs]at hw;rw[AQx r0,g0,Aau hB,AQf];simp only[Bz,AQy h1,AQy h2,AQy h3,ARc]at Y0⊢;simp only[Hq,AQy h1,AQy h2]at hw;by_cases vw:BR n=4
 ·simp only[AQx vw]at hw Y0⊢;split at hw<;>rename_i hc
  ·obtain⟨A,hA⟩:∃A:Nat,nA n=(A:Int):=⟨(nA n).toNat,by omega⟩;obtain⟨L,hL⟩:∃L:Nat,nB n=(L:Int):=⟨(nB n).toNat,by omega⟩;have kT:n.2.2.1=(A:Int):=hA;have hL':n.2.2.2.1=(L:Int):=hL;rw[AQk vw,AQv,kT,hL',show wI ((A:Int)-(L:Int))=((A-L:Nat):Int)from AZ,show wI (((A-L:Nat):Int)+1)=((A-L+1:Nat):Int)from AZ,AbH h.hd hB (by omega),hA,hL,AQg,AQg];rw[List.drop_take,show A+1-L=A-L+1 by omega];rfl
  ·omega
 rw[AQi vw,AQu];simp only[AQy vw]at hw Y0⊢;by_cases h78:BR n=7\/BR n=8
 ·have xX:¬(BR n=5\/BR n=6):=by omega
  have h5:¬BR n=5:=by omega
  have h6:¬BR n=6:=by omega
  have h9':¬BR n=9:=by omega
  simp only[AQy h5,AQy h6,AQy h9',AQy xX,AQx h78]at hw⊢;split at hw<;>rename_i hc
  ·obtain⟨A,hA⟩:∃A:Nat,nA n=(A:Int):=⟨(nA n).toNat,by omega⟩;have kT:n.2.2.1=(A:Int):=hA;have QS:(bif decide (BR n=7)then decide (BR n=7)else decide (BR n=8))=true:=by
    rcases h78 with h |h<;>simp[h]
   have ht:=tm (n:=n) hl;rw[QS,AQv,Q4,kT];have Ahy:Int.tmod (A:Int) (B.length:Int)=((A%B.length:Nat):Int):=rfl;have rO:A%B.length<B.length:=Nat.mod_lt _ (by omega);rw[show EF n (B.length:Int) (fN B) (Int.tmod (A:Int) (B.length:Int))=some ((OY n B.length:Nat):Int) by
    unfold EF OY;rw[e1,Ahy,hA,AQg];by_cases h8:BR n=8
    ·rw[AQk h8,AQv,Q4,AQx h8,show wI ((B.length:Int)-((A%B.length:Nat):Int))=((B.length-A%B.length:Nat):Int)from AZ];rfl
    ·rw[AQi h8,AQu,AQy h8],AQf]
   have Y2:wI ((B.length:Int)-((OY n B.length:Nat):Int))=((B.length-OY n B.length:Nat):Int):=AZ;have hz:(0:Int)=((0:Nat):Int):=rfl;rw[Y2,AbH h.hd hB (by omega),AQf,hz,AbH h.hd hB (by omega),AQf,AR8,show List.take (OY n B.length) (List.drop (B.length-OY n B.length) B)=List.drop (B.length-OY n B.length) B from AQp (by rw[AQP];omega)];rw[sJ h.hd (λx hx=>hB.2.2 x (AR6 hx)) (λx hx=>hB.2.2 x (ARw hx)) (by rw[AQP,AQA];omega)];rfl
  ·omega
 have QS:(bif decide (BR n=7)then decide (BR n=7)else decide (BR n=8))=false:=by
  rw[show ¬BR n=7/\¬BR n=8 by omega |> λh=>(AQi h.1:decide (BR n=7)=false),AQu];exact Ic
 rw[QS,AQu];by_cases h9':BR n=9
 ·have xX:¬(BR n=5\/BR n=6):=by omega
  have h5:¬BR n=5:=by omega
  have h6:¬BR n=6:=by omega
  simp only[AQy h5,AQy h6,AQx h9',AQy xX,AQy h78]at hw Y0⊢;split at hw<;>rename_i hc
  ·obtain⟨A,hA⟩:∃A:Nat,nA n=(A:Int):=⟨(nA n).toNat,by omega⟩;have kT:n.2.2.1=(A:Int):=hA;rw[hA]at hw Y0;simp only[AQg,ARM,AR0,ARZ]at Y0;rw[AQk h9',AQv,kT];rw[show HU (fN B) (A:Int) 0 []=some (fN (List.replicate A B).flatten) by
    unfold HU;have:=AP (f:=CF (fN B) (A:Int)) (λk=>((k:Int),fN (List.replicate k B).flatten)) (t:=fN (List.replicate A B).flatten) A (λk hk=>by
     unfold CF FP;simp only;have rL:(k+1)*B.length<=A*B.length:=AQ8 _ (by omega);have AOA:(k+1)*B.length=k*B.length+B.length:=Nat.succ_mul _ _;have hA2:A<=A*B.length:=ASe _ (by omega);rw[C9 hk,AQv,sJ h.hd (λx hx=>by
      obtain⟨C,hC,hx⟩:=List.mem_flatten.1 hx;rw[(List.mem_replicate.1 hC).2]at hx;exact hB.2.2 x hx) hB.2.2 (by rw[ARM,AR0,ARZ];omega),AQf,Bl hk (by omega),ASp,List.flatten_append]
     simp) (by
     unfold CF FP;simp only;rw[DU,AQu])
    exact this,hA]
   rfl
  ·omega
 have xX:BR n=5\/BR n=6:=by omega
 rw[AQi h9',AQu];simp only[AQy h9',AQx xX]at hw Y0⊢;split at hw<;>rename_i hc
 ·obtain⟨A,hA⟩:∃A:Nat,nA n=(A:Int):=⟨(nA n).toNat,by omega⟩;have kT:n.2.2.1=(A:Int):=hA;have hz1:DR 1=some (1,[0]):=WY (n:=1) (by omega);rw[hz1,AQf];rw[VI];by_cases h6:BR n=6
  ·have h5:¬BR n=5:=by omega
   have gN:MS d (B.getD (B.length-1) (.co false)):=hB.2.2 _ (AK (by omega));rw[show Cw n (B.length:Int) (fN B) (fN B) (AO 1 [0]).1 (AO 1 [0]).2.1 (AO 1 [0]).2.2.1 (AO 1 [0]).2.2.2.1 (AO 1 [0]).2.2.2.2=some (.inl (Ir (B.getD (B.length-1) (.co false)).sg)) by
    unfold Cw;rw[e1,AQk h6,AQv,show wI ((B.length:Int)-1)=((B.length-1:Nat):Int)from AZ,show(1:Int)=((1:Nat):Int)from rfl,AbH h.hd hB (by omega),AQf];have:(B.drop (B.length-1)).take 1=[B.getD (B.length-1) (.co false)]:=by
     rw[AR7 (by omega),show B.getD (B.length-1) (.co false)=B[B.length-1] by simp[List.getD,show B.length-1<B.length by omega]];rfl
    rw[this,AvF,AQx ⟨by omega,by simp⟩];rfl,AQf]
   simp only[ARy,AQy h5,AQx h6,hA,AQg];rw[kT];unfold LP;rw[pV (f:=FQ (Ir (B.getD (B.length-1) (.co false)).sg) (A:Int)) h.hd hB gN (A:=A) (by omega) (λx=>rfl)];rfl
  ·have h5:BR n=5:=by omega
   rw[show Cw n (B.length:Int) (fN B) (fN B) (AO 1 [0]).1 (AO 1 [0]).2.1 (AO 1 [0]).2.2.1 (AO 1 [0]).2.2.2.1 (AO 1 [0]).2.2.2.2=some (.inr ()) by
    unfold Cw;rw[e1,AQi h6,AQu],AQf]
   simp only[ARi,AQx h5,hA,AQg];rw[kT];have hco:((AO 1 [0]).1,(AO 1 [0]).2.1,(AO 1 [0]).2.2.1,((AO 1 [0]).2.2.2.1,(AO 1 [0]).2.2.2.2,()),())=Ir (Bt.co false).sg:=rfl;rw[hco];unfold LQ;rw[pV (f:=FT (A:Int) (Ir (Bt.co false).sg)) h.hd hB (show MS d (.co false)from trivial) (A:=A) (by omega) (λx=>rfl)];rfl
 ·omega
end Go.Proofs.X
namespace Go.Proofs.X
open Go Go.Va
set_option maxRecDepth 100000
def ZC(all:ATU (ATU Bt))(n:ASz):ATU (ATU Bt):=(AL n).map λk=>all.getD k.toNat []
def TB(d:ASL)(t:ASP):Nat->ATU (ATU Bt)
 |0=>[]
 |i+1=>TB d t i++[Bz d (nd t i) (ZC (TB d t i) (nd t i))]
theorem VB(d:ASL)(t:ASP):∀i,(TB d t i).length=i
 |0=>rfl
 |i+1=>by simp only[TB,AQj,VB d t i];rfl
theorem qC(d:ASL)(t:ASP){i j k:Nat}(h:j<i)(hk:i<=k):(TB d t k).getD j []=(TB d t i).getD j []:=by
 induction k with
 |zero=>omega
 |succ k ih =>
  rcases AQq k i with h1 |h1
  ·grind
  ·rw[<-ih h1];simp only[TB,List.getD];rw[AQC (by rw[VB];omega)]
theorem ja(d:ASL)(t:ASP)(i:Nat):(TB d t (i+1)).getD i []=Bz d (nd t i) (ZC (TB d t i) (nd t i)):=by
 simp only[TB,List.getD];rw[AQB (by rw[VB];omega),VB];simp
theorem Ajn{A:Type}(f:A->Nat)(l:ATU A):(((l.map f).sum:Nat):Int)=(l.map λx=>(f x:Int)).sum:=by
 induction l with
 |nil=>rfl
 |cons x l ih=>grind
theorem sE{d:ASL}{t:ASP}{ws:ASH}{i:Nat}(hd:AE d)(ht:L0 t)(h:OD d t ws)(hi:i<t.length)(hp:∀j,j<i->Bm d ((TB d t i).getD j [])/\(((TB d t i).getD j []).length:Int)=ws.getD j 0) :
    NB d (nd t i) (ZC (TB d t i) (nd t i))/\Hq d (nd t i) (lr (ZC (TB d t i) (nd t i)))=ws.getD i 0/\OJ (nd t i) i:=by
 obtain⟨_,_,hl,⟨_,AhI⟩,_⟩:=h;have hn:=AhI i (by omega);obtain⟨Gq,_,hf,hw,h1,h2⟩:=hn;have hwl:(ws.take i).length=i:=by grind
 rw[hwl]at Gq;have hs:lr (ZC (TB d t i) (nd t i))=(HE (ws.take i) (nd t i)).sum:=by
  unfold lr ZC HE;rw[ASb,Ajn];congr 1;refine AQ4 λk hk=>?_;have:=Gq k hk
  grind
 refine⟨⟨hd,hf,ht.2 _ (AK hi),by simp[ZC],by grind,λB hB=>?_⟩,by grind,Gq⟩;obtain⟨k,hk,rfl⟩:=List.mem_map.1 hB;have:=Gq k hk;exact(hp k.toNat (by omega)).1
theorem ml{d:ASL}{t:ASP}{ws:ASH}(hd:AE d)(ht:L0 t)(h:OD d t ws):∀i,i<=t.length->∀j,j<i->Bm d ((TB d t i).getD j [])/\(((TB d t i).getD j []).length:Int)=ws.getD j 0
 |0,_,j,hj=>by omega
 |i+1,hi,j,hj=>by
  have ih:=ml hd ht h i (by omega);rcases AQq j i with h1 |h1
  ·rw[qC d t h1 (AQQ i)];exact ih j h1
  ·have:j=i:=by omega
   subst this;obtain⟨vL,hw,_⟩:=sE hd ht h (by omega) ih;rw[ja];exact⟨WO vL,by rw[dY vL,hw]⟩
def ub(d:ASL)(t:ASP)(n:Nat):Prop:=∀i,i<n->(AA ((TB d t n).getD i [])).length<=2000
def OE(d:ASL)(t:ASP):ATU Bt:=(TB d t t.length).getD (t.length-1) []
open Classical in
noncomputable def DV(d:ASL)(t:ASP):Bool×ASO:=if(∃ws,OD d t ws)/\ub d t t.length then(true,fN (OE d t))else(false,[])
theorem ub.succ{d:ASL}{t:ASP}{n:Nat}:ub d t (n+1)↔ub d t n/\(AA (Bz d (nd t n) (ZC (TB d t n) (nd t n)))).length<=2000:=by
 constructor
 ·intro h;refine⟨λi hi=>?_,?_⟩
  ·have:=h i (by omega);rw[qC d t hi (AQQ n)]at this;exact this
  ·have:=h n (by omega);rw[ja]at this;exact this
 ·rintro⟨h1,h2⟩ i hi
  rcases AQq i n with h |h
  ·rw[qC d t h (AQQ n)];exact h1 i h
  ·have:i=n:=by omega
   subst this;rw[ja];exact h2
theorem ub.mono{d:ASL}{t:ASP}{m n:Nat}(h:ub d t n)(hm:m<=n):ub d t m:=λi hi=>by
 have:=h i (by omega);rw[qC d t hi hm]at this;exact this
theorem r5{a:ASL}{g c:Int}{b:ASD}{j:ASz}{all:ATU (ATU Bt)}{pad:ASZ}{n:ASz}(hn:(AL n).length<=1048576)(Gq:OJ n all.length) :
    Up a g c b (all.map fN++pad) j (AL n) ((AL n).length:Int) 0 (List.replicate (AL n).length [])=some ((ZC all n).map fN):=by
 have XF:∀m,m<(AL n).length->(all.map fN++pad).getD ((AL n).getD m 0).toNat []=fN (all.getD ((AL n).getD m 0).toNat []):=λm hm=>by
  have:=Gq _ (AK (z:=(0:Int)) hm)
  grind
 have:=AP (f:=FU a g c b (all.map fN++pad) j (AL n) ((AL n).length:Int)) (λk=>((k:Int),CO (λm=>(all.map fN++pad).getD ((AL n).getD m 0).toNat []) [] (AL n).length k)) (t:=(ZC all n).map fN) (AL n).length (λk hk=>by
  unfold FU L9;have hk2:=Gq _ (AK (z:=(0:Int)) hk);have e0:(Ty.zero ATE:Int)=0:=rfl;rw[e0,C9 hk,AQv,AQx (Bj hk),AQg,AQx ⟨hk2.1,by grind⟩,Im,AQx (Bj hk),Bl hk (by omega)];rw[show ATH.zero=([]:ASO)from rfl,QA (λm=>(all.map fN++pad).getD ((AL n).getD m 0).toNat []) [] (n:=(AL n).length) (k:=k)]) (by
  unfold FU L9;rw[DU,AQu];congr 2;unfold CO ZC;refine ARx (by simp) λi h1 h2=>?_
  grind)
 rw[show CO (λm=>(all.map fN++pad).getD ((AL n).getD m 0).toNat []) [] (AL n).length 0=List.replicate (AL n).length []from MW _ _ _]at this;exact this
theorem rz(B:ATU Bt):(fN B).length=(AA B).length:=Cj _
theorem AiT{d:ASL}{B:ATU Bt}(h:Bm d B):Small (fN B):=by
 have hlen:=CQ (CJ B);rw[B9]at hlen;have h4:=h.2.1;refine⟨by rw[rz];omega,λs hs=>?_⟩;obtain⟨q,hq,rfl⟩:=List.mem_map.1 hs;cases q with
 |co bs =>
  show(fW bs).2.1.length<=1048576;rw[(pB bs).1];have :=by
   have:∀(l:ATU Sg) (s:Sg),s∈l->s.w<=Bh l:=λl s hs=>by
    induction l with
    |nil=>grind
    |cons a l ih =>
     simp only[Bh,AQ0,ARV];rcases List.mem_cons.1 hs with rfl |hs
     ·omega
     ·have:=ih hs;unfold Bh at this;omega
   exact this _ _ hq
  rw[B9]at this;have e:(Sg.co bs).w=bs.length:=rfl;unfold nw;omega
 |va v l n=>show[].length<=_;simp
theorem VK{d:ASL}{t:ASP}{ws:ASH}(hd:AE d)(ht:L0 t)(h:OD d t ws):GL d (t,())=some (DV d t):=by
 have U6:=h.1;have b9:=h.2.1;refine Az.eq_ ?_;unfold GL;rw[AQx ⟨rfl,by omega,by omega,by grind,by grind⟩];refine Az.bind (P:=λr=>(∃x,r=.inl x/\¬ub d t t.length)\/(r=.inr ((TB d t t.length).map fN)/\ub d t t.length)) ?_ λr hr=>?_
 ·refine Bu (λm (x:Int×ATU _)=>∃i:Nat,i<=t.length/\m=t.length-i/\x=((i:Int),(TB d t i).map fN++List.replicate (t.length-i) [])/\ub d t i) (λm x hI=>?_) _ _ ⟨0,AQ1 _,rfl,by simp[TB],λi hi=>by omega⟩;obtain⟨i,hi,rfl,rfl,gO⟩:=hI;unfold Ma Rb;rcases AQq i _ with Bp |aS
  ·obtain⟨vL,hw,Gq⟩:=sE hd ht h Bp (ml hd ht h i hi);have rL:=vL.hb.1;have Tn:t.getD i _=nd t i:=rfl;have Xn:(nd t i).2.2.2.2.2.1=AL _:=rfl;rw[C9 Bp,AQx (Bj Bp),AQg,Tn,Xn,AQx ⟨rfl,by omega,by omega,by omega,by omega⟩,AQg];rw[r5 rL (by rw[VB];exact Gq),AQf,wh vL,AQf];have hlen:((TB d t i).map fN++List.replicate (t.length-i) []).length=t.length:=by rw[AQj,AQr,VB,AQM];omega
   have Ie:((TB d t i).map fN++List.replicate (t.length-i) []).set i (fN (Bz d (nd t i) (ZC (TB d t i) (nd t i))))=(TB d t (i+1)).map fN++List.replicate (t.length-(i+1)) []:=by
    rw[ARF _ _ (by grind),AQr,VB,ASa,show t.length-i=(t.length-(i+1))+1 by omega,List.replicate_succ];simp only[TB,AQY,AQn];rfl
   have XF:((TB d t (i+1)).map fN++List.replicate (t.length-(i+1)) ([]:ASO)).getD i (Ty.zero (.sl _))=fN (Bz d (nd t i) (ZC (TB d t i) (nd t i))):=by
    grind
   rw[hlen,AQx (Bj Bp),AQo,hlen,AQx (Bj Bp),Ie,XF,rz];by_cases hc:(AA (Bz d (nd t i) (ZC (TB d t i) (nd t i)))).length<=2000
   ·rw[Ic,Bl Bp (by omega)];exact Az.mk ⟨t.length-(i+1),by omega,i+1,Bp,rfl,rfl,ub.succ.2 ⟨gO,hc⟩⟩
   ·rw[LL];exact Az.mk (.inl ⟨_,rfl,λh'=>hc (ub.succ.1 (h'.mono Bp)).2⟩)
  ·have:i=t.length:=by omega
   subst this;rw[DU];exact Az.mk (.inr ⟨by simp,gO⟩)
 ·rcases hr with ⟨x,rfl,aT⟩|⟨rfl,gO⟩
  ·refine Az.mk ?_;unfold DV;rw[AQy (λh'=>aT h'.2)]
  ·simp only[ARi];have gN:wI ((((TB d t t.length).map fN).length)-1)=((t.length-1:Nat)):=by rw[AQr,VB];exact AZ
   rw[gN,AQr,VB,AQx ⟨by omega,by omega⟩,AQg,AnG];have hb:=(ml hd ht h _ (AQl _) (t.length-1) (by omega)).1;rw[qZ (AiT hb)];refine Az.mk ?_;unfold DV;rw[AQx ⟨⟨ws,h⟩,gO⟩];rfl
theorem HH{d:ASL}{t:ASP}(hd:AE d)(ht:L0 t):BG d (t,())=some (DV d t):=by
 refine Az.eq_ ?_;unfold BG;have AJZ:=hd.1;rw[V8 ht (by omega) hd,AQf];by_cases hw:∃ws,OD d t ws
 ·obtain⟨ws,h⟩:=hw;have U6:=h.1;have b9:=h.2.1;have hp:=p9 h;rw[Ic,AQu];refine Az.bind (P:=λr=>(r=.inl ()/\¬ub d t t.length)\/(r=.inr (fN (OE d t))/\ub d t t.length)) ?_ λr hr=>?_
  ·unfold UC;refine Bu (λm (x:Int×ASX×ASO)=>∃i:Nat,i<=t.length/\m=t.length-i/\x.1=(i:Int)/\x.2.1=(TB d t i).map bV/\(0<i->x.2.2=fN ((TB d t i).getD (i-1) []))/\ub d t i) (λm x hI=>?_) t.length _ ⟨0,AQ1 _,rfl,rfl,rfl,λh=>by omega,λi hi=>by omega⟩;obtain⟨x1,x2,x3⟩:=x;obtain⟨i,hi,rfl,h1,h2,h3,gO⟩:=hI;simp only at h1 h2 h3;subst h1 h2;unfold Mr RH;simp only;rcases AQq i t.length with Bp |aS
   ·obtain⟨vL,hw,Gq⟩:=sE hd ht h Bp (ml hd ht h i hi);have rL:=vL.hb.1;have Tn:t.getD i Ah.zero=nd t i:=rfl;have Xn:(nd t i).2.2.2.2.2.1=AL (nd t i):=rfl;have AGs:PS d (i:Int) (t,()) ((TB d t i).map bV) 0 []=some ((ZC (TB d t i) (nd t i)).map bV):=by
     unfold PS;rw[Zr (f:=F4 d (i:Int) (t,()) ((TB d t i).map bV)) (AL (nd t i)).length (λm=>bV ((TB d t i).getD ((AL (nd t i)).getD m 0).toNat [])) [] (λk acc hk ha=>by
      unfold F4 Mq;simp only;have hk2:=Gq _ (AK (z:=(0:Int)) hk);simp at ha;have e0:(Ty.zero ATE:Int)=0:=rfl;rw[AQx (Bj Bp),AQg,Tn,Xn,C9 hk,AQv,AQx (Bj Bp),AQx (Bj hk),AQg,e0,AQx ⟨hk2.1,by rw[AQr,VB];exact hk2.2⟩,AG8,Bl hk (by omega),AQx (by show(_+1)*24<=_;omega)]) (λacc=>by
      unfold F4 Mq;simp only;rw[AQx (Bj Bp),AQg,Tn,Xn,DU,AQu])]
     rw[ARz];congr 1;unfold ZC;rw[ASb];refine ARx (by simp) λq h1 h2=>?_;simp only[List.getElem_map,List.getElem_range,Function.comp];have hq:q<(AL (nd t i)).length:=by simpa using h1
     simp[List.getD,hq]
    rw[C9 Bp,AQv,AGs,AQf,AQx (Bj Bp),AQg,Tn,xf vL,AQf];have hb:=WO vL;rw[Adi (λb zo=>SE hd (hb.2.2 b zo)) hb.2.1,AQf];by_cases hc:(AA (Bz d (nd t i) (ZC (TB d t i) (nd t i)))).length<=2000
    ·simp only[AQk hc,AQZ,AQu];rw[AQr,VB,AQx (by show(_+1)*24<=_;omega),Bl Bp (by omega)];refine Az.mk ⟨t.length-(i+1),by omega,i+1,Bp,rfl,rfl,?_,λ_=>?_,ub.succ.2 ⟨gO,hc⟩⟩
     ·simp only[TB,AQY,AQ0,ARN]
     ·simp only[AQS];rw[ja];rfl
    ·simp only[AQi hc,ARK,AQv];exact Az.mk (.inl ⟨rfl,λh'=>hc (ub.succ.1 (h'.mono Bp)).2⟩)
   ·have:i=t.length:=by omega
    subst this;rw[DU,AQu];exact Az.mk (.inr ⟨by rw[h3 (by omega)];rfl,gO⟩)
  ·rcases hr with ⟨rfl,aT⟩|⟨rfl,gO⟩
   ·simp only[ARy];refine Az.mk ?_;unfold DV;rw[AQy (λh'=>aT h'.2)]
   ·simp only[ARi];refine Az.mk ?_;unfold DV;rw[AQx ⟨⟨ws,h⟩,gO⟩]
 ·rw[Wq hw,LL,AQv];refine Az.mk ?_;unfold DV;rw[AQy (λh'=>hw h'.1)]
end Go.Proofs.X
namespace Go.Va
open Go.Proofs.X
def brk:ATU Bt->Nat
 |a::b::r=>(if a.sg.join b.sg=none then 1 else 0)+brk (b::r)
 |_=>0
theorem Afw(B:ATU Bt)(c b:Bt):brk (B++[c,b])=brk (B++[c])+if c.sg.join b.sg=none then 1 else 0:=by
 induction B with
 |nil=>simp[brk]
 |cons a B ih =>
  cases B with
  |nil=>simp only[ARz,ASm,brk]at *;omega
  |cons x B=>simp only[ASm,brk]at *;omega
theorem AhX{l s j:Sg}(h:l.join s=some j)(x:Bt):j.join x.sg=none↔s.join x.sg=none:=by
 cases l<;>cases s<;>simp only[Sg.join]at h
 ·cases h;cases x<;>simp[Sg.join,Bt.sg]
 ·grind
 ·grind
 ·split at h
  ·rename_i hc;cases h;cases x with
   |co b=>simp[Sg.join,Bt.sg]
   |va v a =>
    simp only[Sg.join,Bt.sg,hc.1,<-hc.2,ARk];split<;>simp
  ·grind
theorem Ail(B:ATU Bt)(c:Bt):∃g l,AA (B++[c])=g++[l]/\∀x:Bt,l.join x.sg=none↔c.sg.join x.sg=none:=by
 have e:AA (B++[c])=Jd (AA B) c.sg:=by unfold AA;rw[MU];rfl
 rw[e];rcases ARq (AA B)with h |⟨g,l,h⟩
 ·rw[h];exact⟨[],c.sg,rfl,λx=>Iff.rfl⟩
 ·rw[h,ARr,FF];cases hj:l.join c.sg with
  |none=>exact⟨g++[l],c.sg,by simp,λx=>Iff.rfl⟩
  |some j=>exact⟨g,j,rfl,AhX hj⟩
theorem wH(B:ATU Bt)(c:Bt):(AA (B++[c])).length=brk (B++[c])+1:=by
 have key:∀(n:Nat) (B:ATU Bt) (c:Bt),B.length=n->(AA (B++[c])).length=brk (B++[c])+1:=by
  intro n;induction n with
  |zero=>intro B c h;rw[List.length_eq_zero_iff.1 h];simp[AA,Zc,Jd,brk]
  |succ n ih =>
   intro B c h;rcases ARq B with rfl |⟨B0,x,rfl⟩
   ·grind
   ·rw[ARr]at h⊢;rw[AQn];simp;have i:=ih B0 x (by grind);obtain⟨g,l,hg,hl⟩:=Ail B0 x;have e:AA (B0++[x,c])=Jd (AA (B0++[x])) c.sg:=by
     rw[show B0++[x,c]=(B0++[x])++[c] by simp];unfold AA;rw[MU];rfl
    rw[Afw,e,hg,FF]
    grind
 exact key _ B c rfl
end Go.Va
namespace Go.Proofs.X
open Go Go.Va
set_option maxRecDepth 100000
def Aew(d:ASL)(B:ATU Bt):Prop:=Bm d B/\(AA B).length<=2000
theorem Aew.pos{d:ASL}{B:ATU Bt}(h:Aew d B):1<=(AA B).length:=by
 rcases ARq B with rfl |⟨B0,x,rfl⟩
 ·have:=h.1.1;simp at this
 ·rw[ARr,wH];omega
def Wy(d:ASL):Sg->Prop
 |.co bs=>1<=bs.length/\bs.length<=4096
 |.va v l n=>v<d.length/\1<=n/\((l+n:Nat):Int)<=dw d v
theorem ZL{d:ASL}{B:ATU Bt}(h:Bm d B){s:Sg}(hs:s∈AA B):Wy d s/\s.w<=4096:=by
 have hw:=CJ B s hs;have hb :=λb hb=>h.2.2 b (by
  rw[<-EU B];exact List.mem_flatMap.2 ⟨s,hs,hb⟩)
 have Tl:s.w<=4096:=by
  have:∀(l:ATU Sg) (s:Sg),s∈l->s.w<=Bh l:=λl s hs=>by
   induction l with
   |nil=>grind
   |cons a l ih =>
    simp only[Bh,AQ0,ARV];rcases List.mem_cons.1 hs with rfl |hs
    ·omega
    ·have:=ih hs;unfold Bh at this;omega
  have:=this _ _ hs;rw[B9]at this;have:=h.2.1;omega
 refine⟨?_,Tl⟩;cases s with
 |co bs=>exact⟨hw,Tl⟩
 |va v l n =>
  have hn:1<=n:=hw;have h0:=hb (.va v l) (List.mem_map.2 ⟨0,List.mem_range.2 hn,by simp⟩);have h1:=hb _ (List.mem_map.2 ⟨n-1,List.mem_range.2 (by omega),rfl⟩);have:=h1.2;exact⟨h0.1,hn,by omega⟩
def AIl(B:ATU Bt)(hi lo:Int):Prop:=0<=lo/\lo<=hi/\hi<(B.length:Int)
instance (B:List Bt) (hi lo:Int):Decidable (AIl B hi lo):=inferInstanceAs (Decidable (_/\_))
def AxF(A B:ATU Bt):Prop:=A.length+B.length<=4096/\(AA (B++A)).length<=2000
instance (A B:List Bt):Decidable (AxF A B):=inferInstanceAs (Decidable (_/\_))
end Go.Proofs.X
namespace Go.Proofs.X
open Go Go.Va
set_option maxRecDepth 100000
theorem wq{d:ASL}{t:ASP}{ws:ASH}(hd:AE d)(ht:L0 t)(h:OD d t ws):Bm d (OE d t):=by
 have:=h.1;exact(ml hd ht h _ (AQl _) _ (by omega)).1
theorem kL{d:ASL}{t:ASP}(hd:AE d)(ht:L0 t)(h:(DV d t).1=true):Aew d (OE d t)/\(DV d t).2=fN (OE d t):=by
 unfold DV at h⊢;split at h
 ·rename_i hc;rw[AQx hc];obtain⟨⟨ws,hw⟩,gO⟩:=hc;have:=hw.1;exact⟨⟨wq hd ht hw,gO _ (by omega)⟩,rfl⟩
 ·grind
theorem Yu{d:ASL}{t:ASP}(h:0<=Ig d t):∃ws,OD d t ws :=
 Classical.byContradiction λh'=>by rw[Wq h']at h;omega
def jO(d:ASL)(l:ASN)(i:Nat):Prop:=(DV d (lS l i)).1=true/\(DV d (lT l i)).1=true
def Cz(d:ASL)(l:ASN):Prop:=∀i,i<l.length->jO d l i
theorem sI{a b:Bool}:(!a||!b)=false↔a=true/\b=true:=by grind
def yp(l:ASN)(id:Int)(i:Nat):Prop:=(li l i).1=id/\(li l i).2.1=true
def yo(l:ASN)(id g:Int):Prop:=(g=-1/\∀i,i<l.length->¬yp l id i)\/∃k:Nat,g=(k:Int)/\k<l.length/\yp l id k/\∀i,i<k->¬yp l id i
theorem yo.unique{l:ASN}{id g h:Int}(hg:yo l id g)(hh:yo l id h):g=h:=by
 rcases hg with ⟨rfl,h1⟩|⟨k,rfl,hk,hp,hn⟩
 ·rcases hh with ⟨rfl,_⟩|⟨k,rfl,hk,hp,_⟩
  ·rfl
  ·grind
 ·rcases hh with ⟨rfl,h1⟩|⟨j,rfl,hj,hq,hm⟩
  ·grind
  grind
theorem n1:Jn ⟨#[105]⟩ ⟨#[]⟩=false:=by kernel_rfl
theorem n2:Jn ⟨#[116]⟩ ⟨#[]⟩=false:=by kernel_rfl
theorem n3:Jn ⟨#[105,106]⟩ ⟨#[]⟩=false:=by kernel_rfl
theorem n4:Jn ⟨#[105,112]⟩ ⟨#[]⟩=false:=by kernel_rfl
theorem n5:Jn ⟨#[]⟩ ⟨#[]⟩=true:=by kernel_rfl
end Go.Proofs.X
namespace Go.Proofs.X
open Go Go.Va
set_option maxRecDepth 100000
def DJ(c:ASV)(v:Nat):ASH:=c.getD v []
def Lk(l:ASH)(i:Nat):Int:=l.getD i 0
def PlP(l:ASH)(w:Int)(i:Nat):Prop:=1<=Lk l i/\Lk l i<=w-1/\(0<i->Lk l (i-1)<Lk l i)
def cX(l:ASH)(w:Int):Prop:=∀i,i<l.length->PlP l w i
def Dk(d:ASL)(c:ASV):Prop:=c.length=d.length/\∀v,v<d.length->cX (DJ c v) (dw d v)
def YY(c:ASV):Prop:=c.length<=1048576/\∀x∈c,x.length<=1048576
theorem YY.row{c:ASV}(h:YY c)(v:Nat):(DJ c v).length<=1048576:=by
 unfold DJ;by_cases hv:v<c.length
 ·exact h.2 _ (AK hv)
 ·grind
theorem oK{d:ASL}(hd:AE d){v:Nat}(hv:v<d.length):1<=dw d v/\dw d v<=4096:=(hd.2.1 v hv).2.1
theorem sW{d:ASL}{c:ASV}(hd:AE d)(hl:c.length=d.length){v j:Nat}(hv:v<d.length)(hj:j<(DJ c v).length)(hb:(DJ c v).length<=1048576)(hp:∀i,i<j->PlP (DJ c v) (dw d v) i) :
    ∃b,Nt d (v:Int) (j:Int) (c,())=some b/\(b=false↔PlP (DJ c v) (dw d v) j):=by
 have hw:=oK hd hv;unfold Nt;have e1:(c.getD v ATJ.zero)=DJ c v:=rfl;have e2:(d.getD v _).2.1=dw d v:=rfl;have e3:(DJ c v).getD j ATE.zero=Lk _ j:=rfl;simp only[AQg,e1,e2,e3];rw[AQx (Bj (by omega)),AQx (Bj hj),AQx (Bj hv),Tv,BH  (by omega) (by omega)];by_cases h1:1<=Lk (DJ c v) j/\Lk (DJ c v) j<=dw d v-1
 ·rw[AQk h1];rcases AQD j with h0 |h0
  ·subst h0;exact⟨false,by simp,λ_=>⟨h1.1,h1.2,λh=>by omega⟩,λ_=>rfl⟩
  ·rw[LL,AZ  (n:=j-1) (by omega) (by omega),AQx (Bj (by omega)),AQx (Bj hj),AQx (Bj (by omega)),AQx (Bj (by omega))];have e4:(DJ c v).getD _ _=Lk _ (j-1):=rfl;refine⟨_,rfl,?_⟩;rw[ARa];exact⟨λh=>⟨h1.1,h1.2,λ_=>Int.not_le.1 h⟩,λh=>Int.not_le.2 (h.2.2 h0)⟩
 ·rw[AQi h1];exact⟨true,rfl,λh=>by grind,λh=>(h1 ⟨h.1,h.2.1⟩).elim⟩
theorem WV{d:ASL}{c:ASV}(hc:YY c):Az (Ko d (c,())) λr=>r=true↔AE d/\Dk d c:=by
 unfold Ko RG;obtain⟨r,hr,hq⟩:=Vi d;rw[hr];cases r with
 |false=>exact Az.mk ⟨λh=>by grind,λh=>by grind⟩
 |true =>
  have hd:=hq.1 rfl;simp;by_cases hl:c.length=d.length
  ·rw[show(c.length !=(d.length:Int))=false by grind];refine Az.bind (P:=λt=>(t=.inl ()/\¬Dk d c)\/(t=.inr ()/\Dk d c)) ?_ λt ht=>?_
   ·refine BW (λv _=>(v:Int)) c.length (λv _=>∀u,u<v->cX (DJ c u) (dw d u)) (λv _ hv hI=>?_) (λ_ hI=>?_) (s0:=()) (λu hu=>by omega)
    ·unfold J9 N8;rw[C9 hv];refine Az.bind (P:=λt=>(t=.inl ()/\¬cX (DJ c v) (dw d v))\/(t=.inr ()/\cX (DJ c v) (dw d v))) ?_ λt ht=>?_
     ·refine BW (λj _=>(j:Int)) (DJ c v).length (λj _=>∀i,i<j->PlP (DJ c v) (dw d v) i) (λj _ hj hJ=>?_) (λ_ hJ=>?_) (s0:=()) (λi hi=>by omega)
      ·unfold J8 N7;obtain⟨b,h1,h2⟩:=sW hd hl (by omega) hj (hc.row v) hJ;have e1:(c.getD v ATJ.zero)=DJ c v:=rfl;simp only[AQg,e1];rw[AQx (Bj hv),C9 hj,h1,AQf];cases b with
       |true=>exact Az.mk (.inl ⟨rfl,λh=>by have:=h2.2 (h j hj);cases this⟩)
       |false =>
        rw[Bl hj (hc.row v)];refine Az.mk ⟨(),rfl,λi hi=>?_⟩
        grind
      ·unfold J8 N7;have e1:(c.getD v ATJ.zero)=DJ c v:=rfl;simp only[AQg,e1];rw[AQx (Bj hv),DU];exact Az.mk (.inr ⟨rfl,hJ⟩)
     ·rcases ht with ⟨rfl,h⟩|⟨rfl,h⟩
      ·exact Az.mk (.inl ⟨rfl,λh'=>h (h'.2 v (by omega))⟩)
      ·rw[Bl hv hc.1];refine Az.mk ⟨(),rfl,λu hu=>?_⟩
       grind
    ·unfold J9 N8;rw[DU];exact Az.mk (.inr ⟨rfl,hl,λv hv=>hI v (by omega)⟩)
   ·rcases ht with ⟨rfl,h⟩|⟨rfl,h⟩
    ·exact Az.mk ⟨λh=>by grind,λh'=>absurd h'.2 h⟩
    ·exact Az.mk ⟨λ_=>⟨hd,h⟩,λ_=>rfl⟩
  ·rw[show(c.length !=(d.length:Int))=true by grind];exact Az.mk ⟨λh=>by grind,λh=>absurd h.2.1 hl⟩
theorem rZ{d:ASL}{c:ASV}(hc:YY c)(hd:AE d):Az (TQ d (c,())) λr=>r=true↔Dk d c:=by
 unfold TQ;by_cases hl:c.length=d.length
 ·rw[show(c.length !=(d.length:Int))=false by grind];refine Az.bind (P:=λt=>(t=.inl ()/\¬Dk d c)\/(t=.inr ()/\Dk d c)) ?_ λt ht=>?_
  ·refine BW (λv _=>(v:Int)) c.length (λv _=>∀u,u<v->cX (DJ c u) (dw d u)) (λv _ hv hI=>?_) (λ_ hI=>?_) (s0:=()) (λu hu=>by omega)
   ·unfold JX NQ;have e1:(c.getD v _)=DJ c v:=rfl;have hw:=oK hd (show v<d.length by omega);rw[C9 hv,AQx (Bj hv)];refine Az.bind (P:=λt=>(t=.inl ()/\¬cX (DJ c v) (dw d v))\/(t=.inr ()/\cX (DJ c v) (dw d v))) ?_ λt ht=>?_
    ·have:=BW (f:=G7 d v c c.length (DJ c v) ((DJ c v).length)) (λj _=>((if j=0 then 0 else Lk (DJ c v) (j-1)),j)) (DJ c v).length (λj _=>∀i,i<j->PlP (DJ c v) (dw d v) i) (Q:=λt=>(t=.inl ()/\¬cX (DJ c v) (dw d v))\/(t=.inr ()/\cX (DJ c v) (dw d v))) (λj _ hj hJ=>?_) (λ_ hJ=>?_) (s0:=()) (λi hi=>by omega)
     ·exact this
     ·unfold G7 NP;have e2:(d.getD v _).2.1=dw d v:=rfl;have e3:(DJ c v).getD j ATE.zero=Lk _ j:=rfl;simp only[AQg,e2,e3];obtain⟨q,hq⟩:∃q:Int,q=if j=0 then 0 else Lk (DJ c v) (j-1):=⟨_,rfl⟩;have hqb:0<=q/\q<=4096/\(0<j->q=Lk (DJ c v) (j-1))/\(j=0->q=0):=by
       by_cases h0:j=0
       ·grind
       ·rw[AQy h0]at hq;have:=hJ (j-1) (by omega);exact⟨by have:=this.1;omega,by have:=this.2.1;omega,λ_=>hq,λh=>absurd h h0⟩
      rw[<-hq,C9 hj,AQx (Bj hj),AQx (Bj (by omega)),LD,BH (x:=dw d v-1),BH  (by omega) (by omega)];by_cases h1:q+1<=Lk (DJ c v) j/\Lk (DJ c v) j<=dw d v-1
      ·rw[AQk h1];rw[Bl hj (hc.row v)];refine Az.mk ⟨(),by simp,λi hi=>?_⟩;rcases AQq i j with h |h
       ·grind
       ·rw[show i=j by omega];exact⟨by omega,h1.2,λh0=>by omega⟩
      ·rw[AQi h1];refine Az.mk (.inl ⟨rfl,λh=>h1 ?_⟩);have:=h j hj;refine⟨?_,this.2.1⟩;rcases AQD j with h0 |h0
       ·have:=(h j hj).1;omega
       ·have:=(h j hj).2.2 h0;omega
     ·unfold G7 NP;rw[DU];exact Az.mk (.inr ⟨rfl,hJ⟩)
    ·rcases ht with ⟨rfl,h⟩|⟨rfl,h⟩
     ·exact Az.mk (.inl ⟨rfl,λh'=>h (h'.2 v (by omega))⟩)
     ·rw[Bl hv hc.1];refine Az.mk ⟨(),rfl,λu hu=>?_⟩
      grind
   ·unfold JX NQ;rw[DU];exact Az.mk (.inr ⟨rfl,hl,λv hv=>hI v (by omega)⟩)
  ·rcases ht with ⟨rfl,h⟩|⟨rfl,h⟩
   ·exact Az.mk ⟨λh=>by grind,λh'=>absurd h' h⟩
   ·exact Az.mk ⟨λ_=>h,λ_=>rfl⟩
 ·rw[show(c.length !=(d.length:Int))=true by grind];exact Az.mk ⟨λh=>by grind,λh=>absurd h.1 hl⟩
theorem vY{d:ASL}{c:ASV}(hc:YY c):Az (TP d (c,())) λr=>r=true↔AE d/\Dk d c:=by
 unfold TP;obtain⟨r,hr,hq⟩:=Yh d;rw[hr,AQf];cases r with
 |false=>exact Az.mk ⟨λh=>by grind,λh=>by grind⟩
 |true =>
  have hd:=hq.1 rfl;refine Az.bind (rZ hc hd) λr hr=>Az.mk ⟨λh=>⟨hd,hr.1 h⟩,λh=>hr.2 h.2⟩
def HG(n:Nat)(f:Nat->Bool):ASI:=(List.range n).map f
def W(d:ASL)(v:Nat):Nat:=(dw d v).toNat
def mark(f:Nat->Nat->Bool)(v p:Nat):Nat->Nat->Bool:=λu q=>f u q||(u==v&&q==p)
def M(d:ASL)(x:Nat)(f:Nat->Nat->Bool):ASW:=(List.range d.length).map λv=>HG (W d v+x) (f v)
theorem Lq(n:Nat)(f:Nat->Bool):(HG n f).length=n:=by simp[HG]
theorem eB{n:Nat}{f:Nat->Bool}{p:Nat}{z:Bool}(h:p<n):(HG n f).getD p z=f p:=by simp[HG,h]
theorem V6{n:Nat}{f g:Nat->Bool}(h:∀p,p<n->f p=g p):HG n f=HG n g:=AQ4 λp hp=>h p (List.mem_range.1 hp)
theorem lW(n:Nat)(f:Nat->Bool)(p:Nat):(HG n f).set p true=HG n λq=>f q||q==p:=by
 apply ARu;intro q;rw[AQE];by_cases hq:q<n
 ·by_cases e:p=q
  ·subst e;simp[HG,hq]
  ·have:¬q=p:=λh=>e h.symm;simp[HG,hq,e,this]
 ·have h1:(HG n λq=>f q||q==p)[q]?=none:=by simp[HG];omega
  have h2:(HG n f)[q]?=none:=by simp[HG];omega
  grind
theorem lV(n:Nat):HG n (λ_=>false)=List.replicate n false:=by
 apply ARx<;>simp[HG]
theorem YD(d:ASL)(x:Nat)(f:Nat->Nat->Bool):(M d x f).length=d.length:=by simp[M]
theorem Y8{d:ASL}{x:Nat}{f:Nat->Nat->Bool}{v:Nat}{z:ASI}(h:v<d.length):(M d x f).getD v z=HG (W d v+x) (f v):=by simp[M,h]
theorem qv{d:ASL}{x:Nat}{f:Nat->Nat->Bool}{v p:Nat}{z:ASI}(h:v<d.length):(M d x f).set v (((M d x f).getD v z).set p true)=M d x (mark f v p):=by
 rw[Y8 h,lW];apply ARu;intro u;rw[AQE];by_cases hu:u<d.length
 ·by_cases e:v=u
  ·subst e;simp[M,hu,mark,HG]
  ·have:¬u=v:=λh=>e h.symm;rw[AQy e];simp only[M,AQI,ARW hu];exact congrArg some (V6 λp _=>by simp[mark,this])
 ·have h1:(M d x (mark f v p))[u]?=none:=by simp[M];omega
  rw[h1,Q4];simp[M];omega
theorem Qg{d:ASL}(hd:AE d){v:Nat}(hv:v<d.length):dw d v=(W d v:Int)/\1<=W d v/\W d v<=4096:=by
 have:=oK hd hv;unfold W;omega
end Go.Proofs.X
namespace Go.Proofs.X
open Go Go.Va
set_option maxRecDepth 100000
def C0(c:ASV):Nat->Nat->Bool:=λv p=>(DJ c v).contains (p:Int)
def A8(w:Nat)(f:Nat->Bool):ASH:=((List.range w).filter λp=>decide (1<=p)&&f p).map Int.ofNat
def Ax(d:ASL)(f:Nat->Nat->Bool):ASV:=(List.range d.length).map λv=>A8 (W d v) (f v)
theorem nS{w:Nat}{f g:Nat->Bool}(h:∀p,p<w->1<=p->f p=g p):A8 w f=A8 w g:=by
 unfold A8;congr 1;refine List.filter_congr λp hp=>?_
 grind
theorem ri{d:ASL}{f g:Nat->Nat->Bool}(h:∀v p,v<d.length->p<W d v->1<=p->f v p=g v p):Ax d f=Ax d g :=
 AQ4 λv hv=>nS λp hp h1=>h v p (List.mem_range.1 hv) hp h1
theorem Yo(w:Nat)(f:Nat->Bool)(hw:w<=1):A8 w f=[]:=by
 unfold A8
 grind
theorem et(w:Nat)(f:Nat->Bool)(hw:1<=w):A8 (w+1) f=if f w then A8 w f++[(w:Int)]else A8 w f:=by
 unfold A8;rw[ARn,ASf];cases h:f w<;>simp[hw,h]
theorem ZI(w:Nat)(f:Nat->Bool):(A8 w f).length<=w:=by
 unfold A8
 grind
theorem D2{A:Type}(g:Nat->A)(k:Nat):(List.range (k+1)).map g=(List.range k).map g++[g k]:=by rw[ARn,AQY];rfl
theorem AwT{x:Int}(h1:0<=x)(h2:x<4611686018427387904):wI x=x:=BH
theorem sL{l:ASH}{w:Int}(h:cX l w){x:Int}(hx:x∈l):1<=x/\x<=w-1:=by
 obtain⟨i,hi,rfl⟩:=ARb hx;have:=h i hi;have e:Lk l i=l[i]:=by simp[Lk,hi]
 exact⟨by have:=this.1;omega,by have:=this.2.1;omega⟩
theorem bJ{l:ASH}{i:Nat}(hi:i<l.length)(q:Int):(l.take (i+1)).contains q=((l.take i).contains q||q==Lk l i):=by
 rw[AY (z:=0) hi,List.contains_eq_any_beq,List.contains_eq_any_beq];simp[Lk]
theorem r9(a b:Nat):((a:Int)==(b:Int))=(a==b):=by
 grind
theorem eM{d:ASL}{c:ASV}(hd:AE d)(hc:Dk d c)(hb:YY c):Ov d (c,())=some (M d 1 (C0 c)):=by
 unfold Ov UL;have Zs:=hd.1;rw[AQ5];refine⟨_,?_,rfl⟩;have:=AP (f:=Gj d (c,())) (λv=>(v,(List.range v).map λu=>HG (W d u+1) (C0 c u))) (t:=M d 1 (C0 c)) d.length (λv hv=>?_) ?_
 ·grind
 ·unfold Gj MJ;obtain⟨e0,fO,gT⟩:=Qg hd hv;have hp:=hc.2 v hv;have e2:(d.getD v _).2.1=(W d v):=e0;simp only[AQg,e2];rw[C9 hv,AQv,AQx (Bj hv),AwT  (by omega) (by omega),AQx ⟨rfl,by omega,by omega,by omega,by omega⟩];have O6:UK d v (c,()) ((List.range v).map λu=>HG (W d u+1) (C0 c u)) 0 (List.replicate ((W d v:Int)+1).toNat false)=some (HG (W d v+1) (C0 c v)):=by
   have:=AP (f:=Gi d v (c,()) ((List.range v).map λu=>HG (W d u+1) (C0 c u))) (λi=>(i,HG (W d v+1) λp=>((DJ c v).take i).contains p)) (t:=HG (W d v+1) (C0 c v)) (DJ c v).length (λi hi=>?_) ?_
   ·have e:List.replicate ((W d v:Int)+1).toNat false=HG (W d v+1) λp=>((DJ c v).take 0).contains p:=by
      rw[<-lV];exact V6 λp _=>by simp
    rw[e];exact this
   ·unfold Gi MI;have e1:(c.getD v ATJ.zero)=DJ c v:=rfl;have e3:(DJ c v).getD i ATE.zero=Lk _ i:=rfl;have hpi:=hp i hi;obtain⟨p,hpp⟩:∃p:Nat,Lk (DJ c v) i=p:=⟨(Lk (DJ c v) i).toNat,by have:=hpi.1;omega⟩;have vP :=by have:=hpi.2.1;omega
    simp only[AQg,e1,e3,hpp];rw[AQx (Bj (by rw[hc.1];exact hv)),C9 hi,AQv,AQx (Bj (by rw[hc.1];exact hv)),AQx (Bj hi),AQx (by rw[Lq];exact Bj (by omega)),Bl hi (hb.row v),lW];have e5:(HG _ _)=HG (W d v+1) λq=>((DJ c v).take _).contains q:=V6 λq _=>by rw[bJ hi,hpp,r9]
    rw[e5]
   ·unfold Gi MI;have e1:(c.getD v ATJ.zero)=DJ c v:=rfl;simp only[AQg,e1];rw[AQx (Bj (by rw[hc.1];exact hv)),DU,AQp (AQl _)];rfl
  rw[O6,AQf,AQx (by grind),Bl hv (by omega),D2]
 ·unfold Gj MJ;rw[DU];rfl
theorem oa{d:ASL}(hd:AE d)(f:Nat->Nat->Bool):Ug (M d 1 f)=some (Ax d f):=by
 unfold Ug Wl;have Zs:=hd.1;rw[AQ5];refine⟨_,?_,rfl⟩;have:=AP (f:=Hl (M d 1 f)) (λv=>(v,(List.range v).map λu=>A8 (W d u) (f u))) (t:=Ax d f) d.length (λv hv=>?_) ?_
 ·grind
 ·unfold Hl Ou;obtain⟨e0,fO,gT⟩:=Qg hd hv;rw[YD,C9 hv,AQv];have O6:Wk (M d 1 f) v ((List.range v).map λu=>A8 (W d u) (f u)) 1 []=some (A8 (W d v) (f v)):=by
   have:=AP (f:=Hk (M d 1 f) v ((List.range v).map λu=>A8 (W d u) (f u))) (λi=>(((i+1:Nat)),A8 (i+1) (f v))) (t:=A8 (W d v) (f v)) (W d v-1) (λi hi=>?_) ?_
   ·have e:A8 (0+1) (f v)=[]:=Yo _ _ (by omega);exact this
   ·unfold Hk Ot;have hlen:=ZI (i+1) (f v);rw[YD,AQx (Bj hv),AQg,Y8 hv,Lq,AZ  (n:=i+1+1) (by omega) (by omega),C9 (show i+1+1<W d v+1 by omega)];have:Ny (M d 1 f) v ((i+1:Nat)) (A8 (i+1) (f v)) ((List.range v).map λu=>A8 (W d u) (f u))=some (A8 (i+1+1) (f v)):=by
     unfold Ny;rw[YD,AQx (Bj hv),AQg,Y8 hv,Lq,AQx (Bj (by omega)),AQg,eB (by omega),et (i+1) _ (by omega)]
     grind
    rw[this];rfl
   ·unfold Hk Ot;rw[YD,AQx (Bj hv),AQg,Y8 hv,Lq,AZ  (n:=W d v+1) (by omega) (by omega),DU,AQu,show W d v-1+1=W d v by omega]
  rw[O6,AQf,AQx (by grind),Bl hv (by omega),D2]
 ·unfold Hl Ou;rw[YD,DU];rfl
theorem zD{d:ASL}(hd:AE d){f:Nat->Nat->Bool}(hf:∀v,f v 0=false){a:ATU AS2}{c:ASL}{e:ASK} :
    M4 a (d.length:Int) c (M d 0 f) e 0 (List.replicate d.length [])=some (Ax d f):=by
 have Zs:=hd.1;have:=AP (f:=CZ a d.length c (M d 0 f) e) (λv=>(v,CO (λu=>A8 (W d u) (f u)) [] d.length v)) (t:=Ax d f) d.length (λv hv=>?_) ?_
 ·rw[<-MW (λu=>A8 _ _)];exact this
 ·unfold CZ GJ;obtain⟨e0,fO,gT⟩:=Qg hd hv;rw[C9 hv,AQv,AQx (by rw[YD];exact Bj hv),AQg,Y8 hv,Lq];have O6:M3 v d.length c (M d 0 f) a e (HG (W d v+0) (f v)) ((W d v+0:Nat)) 0 (CO (λu=>A8 (W d u) (f u)) [] d.length v)=some ((CO (λu=>A8 (W d u) (f u)) [] d.length v).set v (A8 (W d v) (f v))):=by
   have:=AP (f:=CY v d.length c (M d 0 f) a e (HG (W d v+0) (f v)) ((W d v+0:Nat))) (λi=>(i,(CO (λu=>A8 (W d u) (f u)) [] d.length v).set v (A8 i (f v)))) (t:=(CO (λu=>A8 (W d u) (f u)) [] d.length v).set v (A8 (W d v) (f v))) (W d v+0) (λi hi=>?_) ?_
   ·have e1:(CO (λu=>A8 (W d u) (f u)) [] d.length v).set v (A8 0 (f v))=CO (λu=>A8 (W d u) (f u)) [] d.length v:=by
      apply ARu;intro u;rw[AQE];split
      ·rename_i h;subst h;simp[CO,hv,A8]
      ·rfl
    rw[e1]at this;exact this
   ·unfold CY GI;have hlen:=ZI i (f v);rw[C9 hi,AQv];have:FB v d.length (HG (W d v+0) (f v)) ((W d v+0:Nat)) i c (M d 0 f) a e ((CO (λu=>A8 (W d u) (f u)) [] d.length v).set v (A8 i (f v)))=some ((CO (λu=>A8 (W d u) (f u)) [] d.length v).set v (A8 (i+1) (f v))):=by
     unfold FB IB;have XF:((CO (λu=>A8 (W d u) (f u)) [] d.length v).set v (A8 i (f v))).getD v ATJ.zero=A8 i (f v):=by
      simp[Im,hv]
     rw[Lq,AQx (Bj hi)];simp only[AQg,XF,AQo,Im,ASk];rw[eB hi];rcases AQD i with h0 |h0
     ·subst h0;rw[hf v,AQu];have e1:A8 0 (f v)=A8 (0+1) (f v):=by rw[Yo 0 _ (by omega),Yo _ _ (by omega)]
      rw[e1]
     ·rw[et _ _ h0]
      grind
    rw[this,AQf,Bl hi (by omega)]
   ·unfold CY GI;rw[DU];rfl
  rw[O6,AQf,QA,Bl hv (by omega)]
 ·unfold CZ GJ;rw[DU,AQu];have:CO (λu=>A8 (W d u) (f u)) [] d.length d.length=Ax d f:=by
   exact AQ4 λv hv=>by grind
  rw[this]
end Go.Proofs.X
namespace Go.Proofs.X
open Go Go.Va
set_option maxRecDepth 100000
def frs(s:Sg):ASI:=(List.range s.w).map (·==0)
def spot(s:Sg)(k:Nat):ASw:=if k=0 then(0,0,0,())else match s with |.co _=>(2,0,0,())|.va v l _=>(1,(v:Int),((l+k:Nat):Int),())
def spt(s:Sg):ASM:=(List.range s.w).map (spot s)
def YI(f:ATU Sg):ASI:=f.flatMap frs
def fh(f:ATU Sg):ASM:=f.flatMap spt
theorem VH{A:Type}{F:Sg->ATU A}(hF:∀s,(F s).length=s.w)(f:ATU Sg):(f.flatMap F).length=Bh f:=by
 rw[List.length_flatMap];exact congrArg _ (AQ4 λs _=>hF s)
theorem rE(s:Sg):(frs s).length=s.w:=by simp[frs]
theorem sZ(s:Sg):(spt s).length=s.w:=by simp[spt]
theorem af{A:Type}(F:Sg->ATU A){f:ATU Sg}{i:Nat}(hi:i<f.length):(f.take (i+1)).flatMap F=(f.take i).flatMap F++F (f.getD i (.co [])):=by
 rw[AY (z:=.co []) hi];simp
theorem flat_get{A:Type}{F:Sg->ATU A}(hF:∀s,(F s).length=s.w){f:ATU Sg}{i k:Nat}{z:A}(hi:i<f.length)(hk:k<(f.getD i (.co [])).w):(f.flatMap F).getD (Bh (f.take i)+k) z=(F (f.getD i (.co []))).getD k z:=by
 have e:f.flatMap F=(f.take i).flatMap F++(F (f.getD i (.co []))++(f.drop (i+1)).flatMap F):=by
  rw[<-AQn,<-af F hi,<-ASd,ARp]
 rw[e];simp;rw[AQB (by rw[VH hF];omega),VH hF,show Bh _+k-Bh _=k by omega,AQC (by grind)]
theorem AiH:∀{f:ATU Sg} {p:Nat},p<Bh f->∃i k,i<f.length/\k<(f.getD i (.co [])).w/\p=Bh (f.take i)+k
 |[],p,h=>by simp[Bh]at h
 |s::f,p,h=>by
  have e:Bh (s::f)=s.w+Bh f:=by simp[Bh]
  by_cases hp:p<s.w
  ·exact⟨0,p,by simp,by grind,by simp[Bh]⟩
  ·obtain⟨i,k,h1,h2,h3⟩:=AiH (f:=f) (p:=p-s.w) (by omega);refine⟨i+1,k,by grind,by grind,?_⟩;have:Bh ((s::f).take (i+1))=s.w+Bh (f.take i):=by simp[Bh]
   omega
theorem aE{f:ATU Sg}{i:Nat}(hi:i<f.length):Bh (f.take i)+(f.getD i (.co [])).w<=Bh f:=by
 rw[<-FJ hi];exact Fw f _
theorem Gt{A:Type}{g:Nat->A}{n k:Nat}{z:A}(h:k<n):((List.range n).map g).getD k z=g k:=by grind
theorem T3{f:ATU Sg}{i k:Nat}(hi:i<f.length)(hk:k<(f.getD i (.co [])).w) :
    (Dt f).getD (Bh (f.take i)+k) (.co false)=(f.getD i (.co [])).bits.getD k (.co false)/\(YI f).getD (Bh (f.take i)+k) false=(k==0)/\(fh f).getD (Bh (f.take i)+k) Ae.zero=spot (f.getD i (.co [])) k:=by
 refine⟨flat_get Iw hi hk,?_,?_⟩
 ·unfold YI;rw[flat_get rE hi hk];exact Gt hk
 ·unfold fh;rw[flat_get sZ hi hk];exact Gt hk
theorem xh{f:ATU Sg}(h1:aO f)(hf:∀s∈f,Xl s)(hw:Bh f<=4096):Kq (fV f)=some (bV (Dt f),YI f):=by
 unfold Kq;have hlen:=CQ h1;rw[pd h1 hf hw,AQf];have:Wo (fV f) (bV (Dt f)) 0 []=some (YI f):=by
  have:=AP (f:=Ho (fV f) (bV (Dt f))) (λi=>(i,YI (f.take i))) (t:=YI f) f.length (λi hi=>?_) ?_
  ·exact this
  ·unfold Ho Oy;rw[Cj,C9 hi,AQv];have he:=aE hi;have Gq:Wn (fV f) i (bV (Dt f)) 0 (YI (f.take i))=some (YI (f.take (i+1))):=by
    have:=AP (f:=Hn (fV f) i (bV (Dt f))) (λk=>(k,YI (f.take i)++(List.range k).map (·==0))) (t:=YI (f.take (i+1))) (f.getD i (.co [])).w (λk hk=>?_) ?_
    ·rw[show YI _=YI (f.take i)++(List.range 0).map _ by simp];exact this
    ·unfold Hn Ox;simp only[AQg,iH hi,ZM];have hl:(YI (f.take i)++(List.range k).map (·==0)).length=Bh (f.take i)+k:=by
      rw[AQj,show(YI _).length=Bh _ from VH rE _];simp
     rw[Cj,AQx (Bj hi),C9 hk,AQv,AQx (by grind),Bl hk (by omega),D2,AQn,show((k:Int)==0)=(k==0)from r9 k 0]
    ·unfold Hn Ox;simp only[AQg,iH hi,ZM];rw[Cj,AQx (Bj hi),DU];unfold YI;rw[af frs hi];rfl
   rw[Gq,AQf,Bl hi (by omega)]
  ·unfold Ho Oy;rw[Cj,DU,AQu,AQp (AQl _)]
 rw[this];rfl
theorem r8{f:ATU Sg}(h1:aO f)(hf:∀s∈f,Xl s)(hw:Bh f<=4096):KH (fV f)=some (fh f):=by
 unfold KH;have hlen:=CQ h1;have:PF (fV f) ((fV f).length:Int) 0 []=some (fh f):=by
  unfold PF;rw[Cj];have:=AP (f:=FX (fV f) (f.length:Int)) (λi=>((i:Int),fh (f.take i))) (t:=fh f) f.length (λi hi=>?_) ?_
  ·exact this
  ·unfold FX Me;simp only[AQg,iH hi];have hwt:=Fw f i;have he:=aE hi;have h1i:=h1 _ (AK (z:=.co []) hi);have hfi:=hf _ (AK (z:=.co []) hi);have dO:(fh (f.take i)).length=Bh (f.take i):=VH sZ _;rw[Cj,C9 hi,AQv,AQx (Bj hi),AQx (by rw[dO];simp;omega)];have Gq:PE (fV f) (f.length:Int) (i:Int) (Ir (f.getD i (.co []))) 1 (fh (f.take i)++[(0,0,0,())])=some (fh (f.take (i+1))):=by
    unfold PE;have:=AP (f:=FW (fV f) (f.length:Int) (i:Int) (Ir (f.getD i (.co [])))) (λk=>(((k+1:Nat):Int),fh (f.take i)++(List.range (k+1)).map (spot (f.getD i (.co []))))) (t:=fh (f.take (i+1))) ((f.getD i (.co [])).w-1) (λk hk=>?_) ?_
    ·exact this
    ·unfold FW Md;simp only[ZM];have hl:(fh (f.take i)++(List.range (k+1)).map (spot (f.getD i (.co [])))).length=Bh (f.take i)+(k+1):=by
      rw[AQj,dO];simp
     rw[C9 (show k+1<(f.getD i (.co [])).w by omega),AQv];have:Lm ((k+1:Nat):Int) (fV f) (f.length:Int) (i:Int) (fh (f.take i)++(List.range (k+1)).map (spot (f.getD i (.co [])))) (Ir (f.getD i (.co [])))=some (fh (f.take i)++(List.range (k+1+1)).map (spot (f.getD i (.co [])))):=by
      unfold Lm;rw[D2 _ (k+1),<-AQn];cases hs:f.getD i (.co [])with
      |co b =>
       rw[hs]at hl;rw[show((Ir (.co b)).1==-1)=true from rfl,AQv,AQx (by rw[hl];simp;omega)];rfl
      |va v l n =>
       rw[hs]at hl hk hfi he;simp only[Sg.w,Xl]at hk hfi he;rw[show((Ir (.va v l n)).1==-1)=false from beq_eq_false_iff_ne.2 (show(v:Int)≠-1 by omega),AQu,AQx (by rw[hl];simp;omega)];rw[show wI ((Ir (.va v l n)).2.1+((k+1:Nat):Int))=((l+(k+1):Nat):Int)from AZ (by show(l:Int)+((k+1:Nat):Int)=_;omega) (by omega)];rfl
     rw[this,AQf,AZ (x:=((k+1:Nat):Int)+1) (n:=k+1+1)]
    ·unfold FW Md;simp only[ZM];rw[show(f.getD i (.co [])).w-1+1=(f.getD i (.co [])).w by omega,DU,AQu];unfold fh;rw[af spt hi];rfl
   rw[Gq,AQf,Bl hi (by omega)]
  ·unfold FX Me;simp only;rw[DU,AQu,AQp (AQl _)]
 rw[this];rfl
def fst(B:ATU Bt)(p:Nat):Bool:=(YI (AA B)).getD p false
def JO(B:ATU Bt)(p:Nat):Bt:=B.getD p (.co false)
def Ac4(h:Nat->Nat->Bool):Bt->Bool
 |.co _=>false
 |.va v a=>h v a
def lh:Bt->Bool
 |.co _=>false
 |.va _ _=>true
def Uj(B:ATU Bt)(h:Nat->Nat->Bool)(p:Nat):Bool:=fst B p||Ac4 h (JO B p)
theorem sF{d:ASL}{B:ATU Bt}(hd:AE d)(h:Bm d B):aO (AA B)/\(∀s∈AA B,Xl s)/\Bh (AA B)=B.length :=
 ⟨CJ B,Qq (λb hb=>fy (SE hd (h.2.2 b hb))) h.2.1,B9 B⟩
theorem Ais{d:ASL}{B:ATU Bt}(hd:AE d)(h:Bm d B):Kq (fN B)=some (bV B,YI (AA B)):=by
 obtain⟨h1,h2,h3⟩:=sF hd h;have:=xh h1 h2 (by rw[h3];exact h.2.1);rw[EU]at this;exact this
theorem Aji{d:ASL}{B:ATU Bt}(hd:AE d)(h:Bm d B):KH (fN B)=some (fh (AA B)):=by
 obtain⟨h1,h2,h3⟩:=sF hd h;exact r8 h1 h2 (by rw[h3];exact h.2.1)
theorem Abi(B:ATU Bt):(YI (AA B)).length=B.length:=by rw[show(YI _).length=Bh _ from VH rE _,B9]
theorem jz(B:ATU Bt):(fh (AA B)).length=B.length:=by rw[show(fh _).length=Bh _ from VH sZ _,B9]
theorem jX{d:ASL}{B:ATU Bt}(h:Bm d B){p:Nat}(hp:p<B.length):∃i k,i<(AA B).length/\k<((AA B).getD i (.co [])).w/\p=Bh ((AA B).take i)+k/\Wy d ((AA B).getD i (.co [])) /\
    JO B p=((AA B).getD i (.co [])).bits.getD k (.co false)/\fst B p=(k==0)/\(fh (AA B)).getD p Ae.zero=spot ((AA B).getD i (.co [])) k:=by
 obtain⟨i,k,h1,h2,rfl⟩:=AiH   (by rw[B9];exact hp);obtain⟨e1,e2,e3⟩:=T3 h1 h2;rw[EU]at e1;exact⟨i,k,h1,h2,rfl,(ZL h (AK h1)).1,e1,e2,e3⟩
theorem aI{v l n k:Nat}(h:k<n):(Sg.va v l n).bits.getD k (.co false)=.va v (l+k):=by simp[Sg.bits,h]
theorem dk{b:ASI}{k:Nat}(h:k<b.length):(Sg.co b).bits.getD k (.co false)=.co (b.getD k false):=by simp[Sg.bits,h]
theorem aG{d:ASL}{B:ATU Bt}(h:Bm d B){p:Nat}(hp:p<B.length):(fst B p=true/\(fh (AA B)).getD p Ae.zero=(0,0,0,())) \/
    (fst B p=false/\((∃b,JO B p=.co b)/\(fh (AA B)).getD p Ae.zero=(2,0,0,())\/∃v a,JO B p=.va v a/\v<d.length/\1<=a/\a<W d v/\(fh (AA B)).getD p Ae.zero=(1,(v:Int),(a:Int),()))):=by
 obtain⟨i,k,h1,h2,h3,h4,h5,h6,h7⟩:=jX h hp;rw[h5,h6,h7];rcases AQD k with h0 |h0
 ·subst h0;exact .inl ⟨rfl,rfl⟩
 ·refine .inr ⟨by grind,?_⟩;have hk:¬k=0:=by omega
  cases hs:(AA B).getD i _ with
  |co b =>
   rw[hs]at h2;exact .inl ⟨⟨_,dk h2⟩,by simp[spot,hk]⟩
  |va v l n =>
   rw[hs]at h2 h4;simp only[Sg.w,Wy]at h2 h4;exact .inr ⟨v,l+k,aI h2,h4.1,by omega,by unfold W;omega,by simp[spot,hk]⟩
theorem Afq{d:ASL}{B:ATU Bt}(h:Bm d B){p:Nat}(hp:p<B.length):MS d (JO B p):=h.2.2 _ (AK hp)
theorem S4{d:ASL}(hd:AE d){B:ATU Bt}(h:Bm d B){f:Nat->Nat->Bool}{p:Nat}(hp:p<B.length):Ez (bV B,YI (AA B),()) (M d 1 f) (p:Int)=some (Uj B f p):=by
 unfold Ez;have e1:(YI _).getD p (Ty.zero .bool)=fst B p:=rfl;have e2:(bV B).getD p _=WA (JO B p):=db hp;simp only[AQg,e1,e2];rw[Abi,CM,AQx (Bj hp)];unfold Uj;cases fst B p with
 |true=>rfl
 |false =>
  rw[AQx (Bj hp)];have hb:=Afq h hp;cases hbb:JO B p with
  |co b=>rfl
  |va v a =>
   rw[hbb]at hb;obtain⟨h1,h2⟩:=hb;obtain⟨hw,_,_⟩:=Qg hd h1;rw[show(WA _).1=v from rfl,show(WA _).2.1=a from rfl,show decide ((v:Int)>=0)=true from LL,AQx (Bj hp),YD,AQx (Bj h1),AQx (Bj hp),AQg,Y8 h1,Lq,AQx (Bj (by omega)),eB (by omega)];rfl
theorem xj{d:ASL}(hd:AE d){B:ATU Bt}(h:Bm d B){f:Nat->Nat->Bool}{p:Nat}(hp:p<B.length):Ki (bV B,YI (AA B),()) (M d 1 f) (p:Int)=some (!Uj B f p&&lh (JO B p)):=by
 unfold Ki;have e2:(bV B).getD p _=WA (JO B p):=db hp;rw[S4 hd h hp,AQf];simp only[AQg,e2];cases Uj B f p with
 |true=>rfl
 |false =>
  rw[CM,ARK,AQx (Bj hp)];cases JO B p with
  |co b=>rfl
  |va v a =>
   rfl
end Go.Proofs.X
namespace Go.Proofs.X
open Go Go.Va
set_option maxRecDepth 100000
section
variable {kt vt:Ty}
theorem pA(hr:∀x:kt.V,Bg kt x x=true)(k:kt.V)(v:vt.V):∀es:ATU (kt.V×vt.V),Y3 kt vt (Cr kt vt es k v) k=Y3 kt vt es k/\Uz kt vt (Cr kt vt es k v) k=true
 |[]=>by simp[Cr,Y3,Uz,Pm,hr]
 |x::es=>by
  obtain⟨h1,h2⟩:=pA hr k v es;unfold Cr;cases hx:Bg kt k x.1 with
  |true=>simp[Y3,Uz,Pm,hr,hx]
  |false =>
   unfold Uz at h2⊢;simp only[Y3,Pm,hx,AQu];exact⟨by omega,h2⟩
theorem kH(hr:∀x:kt.V,Bg kt x x=true)(k:kt.V)(v:vt.V)(es:ATU (kt.V×vt.V)):Xy kt vt (Cr kt vt es k v) k (YS kt vt es k)=true:=by
 obtain⟨h1,h2⟩:=pA hr k v es;unfold Xy YS;rw[h1,h2];simp
theorem Yl(he:∀x y:kt.V,Bg kt x y=true↔x=y)(k k':kt.V)(v:vt.V):∀es:ATU (kt.V×vt.V),Pm kt vt (Cr kt vt es k v) k'=bif Bg kt k' k then some v else Pm kt vt es k'
 |[]=>by simp[Cr,Pm]
 |x::es=>by
  unfold Cr;cases hx:Bg kt k x.1 with
  |true =>
   have:=(he _ _).1 hx;simp only[AQv,Pm]
   grind
  |false =>
   simp only[AQu,Pm];rw[Yl he k k' v es]
   grind
theorem fU(he:∀x y:kt.V,Bg kt x y=true↔x=y)(k k':kt.V)(v:vt.V)(es:ATU (kt.V×vt.V)):Bs kt vt (Cr kt vt es k v) k'=bif Bg kt k' k then v else Bs kt vt es k':=by
 unfold Bs;rw[Yl he];cases Bg kt k' k<;>rfl
end
theorem iQ(x y:ASu):Bg Aa x y=true↔x=y:=by
 obtain⟨a,b,_⟩:=x;obtain⟨a',b',_⟩:=y;simp[Bg]
theorem ao(x:ASu):Bg Aa x x=true:=(iQ x x).2 rfl
def bD(d:ASL):ATU (Nat×Nat):=(List.range d.length).flatMap λv=>(List.range (W d v)).map λp=>(v,p)
def free(d:ASL)(f:Nat->Nat->Bool):Nat:=(bD d).countP λx=>!f x.1 x.2
theorem Adx{d:ASL}{v p:Nat}(hv:v<d.length)(hp:p<W d v):(v,p)∈bD d :=
 List.mem_flatMap.2 ⟨v,List.mem_range.2 hv,List.mem_map.2 ⟨p,List.mem_range.2 hp,rfl⟩⟩
theorem Ya{A:Type}{F:Nat->ATU A}{m:Nat}:∀{n:Nat},(∀v,v<n->(F v).length<=m)->((List.range n).flatMap F).length<=m*n
 |0,_=>by simp
 |n+1,h=>by
  rw[ARn,ASd,AQj,Nat.mul_succ];have h1:=Ya (n:=n) λv hv=>h v (by omega)
  grind
theorem AlT{d:ASL}(hd:AE d)(f:Nat->Nat->Bool):free d f<=245760:=by
 have h1:(bD d).length<=4096*d.length:=Ya λv hv=>by simp;exact(Qg hd hv).2.2
 have h2:=List.countP_le_length (p:=λx =>!f x.1 x.2) (l:=bD d);have:=hd.1;unfold free;omega
theorem fD{A:Type}{q q':A->Bool}:∀{l:ATU A} {x:A},(∀y,q' y=true->q y=true)->x∈l->q x=true->q' x=false->l.countP q'+1<=l.countP q
 |[],_,_,h,_,_=>by grind
 |y::l,x,hq,h,h1,h2=>by
  have Tl:l.countP q'<=l.countP q:=List.countP_mono_left λy _=>hq y;rw[List.countP_cons,List.countP_cons];rcases List.mem_cons.1 h with e |h
  ·grind
  ·have:=fD hq h h1 h2
   grind
theorem fJ{d:ASL}{f:Nat->Nat->Bool}{v p:Nat}(hv:v<d.length)(hp:p<W d v)(h:f v p=false):free d (mark f v p)+1<=free d f :=
 fD (λy hy=>by simp[mark]at hy⊢;exact hy.1) (Adx hv hp) (by grind) (by simp[mark])
abbrev SC:Type:=(Nat->Nat->Bool)×ASK
open Classical in
noncomputable def MQ(d:ASL)(s:SC)(v p:Nat):SC:=if 0<p/\p<W d v/\s.1 v p=false then(mark s.1 v p,s.2++[((v:Int),(p:Int),())])else s
theorem gV{d:ASL}(hd:AE d){v p:Nat}(hv:v<d.length){r:Nat->Bool}{t:ASW}{g:ASK}{a:Int}(ht:t.length=d.length)(hr:t.getD v ATM.zero=HG (W d v) r)(hg:g.length<=1000000) :
    BN a (v:Int) (p:Int) d t g=some (if 0<p/\p<W d v/\r p=false then(d,t.set v ((HG (W d v) r).set p true),g++[((v:Int),(p:Int),())])else(d,t,g)):=by
 obtain⟨e0,fO,gT⟩:=Qg hd hv;have e2:(d.getD v Ab.zero).2.1=(W d v:Int):=e0;have key:HC a (v:Int) (p:Int) d t g=some (decide (0<p/\p<W d v/\r p=false)):=by
  unfold HC;simp only[AQg,e2,hr];rcases AQD p with h0 |h0
  ·grind
  ·rw[show decide ((p:Int)>0)=true from LL,AQx (Bj hv)];by_cases hp:p<W d v
   ·rw[AQx (by grind),AQx (by rw[Lq];exact Bj hp),eB hp];cases r p<;>simp[h0,hp]
   ·grind
 unfold BN;rw[key,AQf];by_cases h:0<p/\p<W d v/\r p=false
 ·rw[AQk h,AQv,AQx h];simp only[AQg,hr];rw[AQx (by grind),AQx (by rw[Lq];omega),AQx (by grind)]
 grind
theorem VJ{d:ASL}(hd:AE d){v p:Nat}(hv:v<d.length)(s:SC){a:Int}(hg:s.2.length<=1000000):BN a (v:Int) (p:Int) d (M d 0 s.1) s.2=some (d,M d 0 (MQ d s v p).1,(MQ d s v p).2):=by
 rw[gV hd hv (YD _ _ _) (Y8 hv) hg];unfold MQ;by_cases h:0<p/\p<W d v/\s.1 v p=false
 ·rw[AQx h,AQx h];have:=qv (x:=0) (f:=s.1) (p:=p) (z:=[]) hv;rw[Y8 hv]at this;rw[<-this];rfl
 ·grind
structure CI (d:ASL) (f0:Nat->Nat->Bool) (s:SC):Prop where
 le:∀v p,f0 v p=true->s.1 v p=true
 aX:∀v p,s.1 v p=true->v<d.length/\1<=p/\p<W d v
 Bf:∀x∈s.2,∃v p:Nat,x=((v:Int),(p:Int),())/\s.1 v p=true
 len:s.2.length+free d s.1<=500000
def uh(s:SC):Prop:=∀v p,s.1 v p=true->((v:Int),(p:Int),())∈s.2
def QU(f g:Nat->Nat->Bool):Prop:=∀v p,f v p=true->g v p=true
def Hit(d:ASL)(f:Nat->Nat->Bool)(v p:Nat):Prop:=0<p->p<W d v->f v p=true
theorem Hit.mono{d:ASL}{f g:Nat->Nat->Bool}(h:QU f g){v p:Nat}(hh:Hit d f v p):Hit d g v p:=λh1 h2=>h v p (hh h1 h2)
theorem FE{f:Nat->Nat->Bool}{v p u q:Nat}:mark f v p u q=true↔f u q=true\/(u=v/\q=p):=by simp[mark]
theorem bY{d:ASL}(s:SC)(v p:Nat):QU s.1 (MQ d s v p).1:=λu q h=>by
 unfold MQ;split
 ·exact FE.2 (.inl h)
 ·omega
theorem du{d:ASL}(s:SC)(v p:Nat):Hit d (MQ d s v p).1 v p:=λh1 h2=>by
 unfold MQ;split
 ·exact FE.2 (.inr ⟨rfl,rfl⟩)
 grind
theorem dv{d:ASL}{s:SC}{v p:Nat}{h:Nat->Nat->Bool}(hu:QU s.1 h)(hh:Hit d h v p):QU (MQ d s v p).1 h:=λu q hq=>by
 unfold MQ at hq;split at hq
 ·rename_i hc;rcases FE.1 hq with h1 |⟨rfl,rfl⟩
  ·exact hu u q h1
  ·exact hh hc.1 hc.2.1
 ·exact hu u q hq
theorem CI.cut{d:ASL}{f0:Nat->Nat->Bool}{s:SC}(h:CI d f0 s){v p:Nat}(hv:v<d.length):CI d f0 (MQ d s v p):=by
 refine⟨λu q hq=>bY s v p u q (h.le u q hq),λu q hq=>?_,λx hx=>?_,?_⟩
 ·unfold MQ at hq;split at hq
  ·rename_i hc;rcases FE.1 hq with h1 |⟨rfl,rfl⟩
   ·exact h.aX u q h1
   ·omega
  ·exact h.aX u q hq
 ·unfold MQ at hx⊢;split at hx
  ·rename_i hc;rw[AQx hc];rcases List.mem_append.1 hx with hx |hx
   ·obtain⟨u,q,e,h1⟩:=h.Bf x hx;exact⟨u,q,e,FE.2 (.inl h1)⟩
   ·rw[AQG]at hx;exact⟨v,p,hx,FE.2 (.inr ⟨rfl,rfl⟩)⟩
  ·rename_i hc;rw[AQy hc];exact h.Bf x hx
 ·unfold MQ;split
  ·rename_i hc;have:=fJ hv hc.2.1 hc.2.2;have:=h.len
   grind
  ·exact h.len
theorem uh.cut{d:ASL}{s:SC}(h:uh s){v p:Nat}:uh (MQ d s v p):=λu q hq=>by
 unfold MQ at hq⊢;split
 ·rename_i hc;rw[AQx hc]at hq;rcases FE.1 hq with h1 |⟨rfl,rfl⟩
  ·exact AQN _ (h u q h1)
  grind
 ·rename_i hc;rw[AQy hc]at hq;exact h u q hq
theorem zZ{l:ASH}{w:Int}(h:cX l w):∀{j i:Nat},i<j->j<l.length->Lk l i<Lk l j
 |j+1,i,zq,hj=>by
  have h1:=(h _ hj).2.2 (by omega);simp only[AQS]at h1;rcases AQq i j with h2 |h2
  ·have:=zZ h h2 (by omega);omega
  grind
theorem AiG{l:ASH}{w:Int}(h:cX l w):∀{i:Nat},i<l.length->((i:Int)+1)<=Lk l i
 |0,hi=>by have:=(h 0 hi).1;omega
 |i+1,hi=>by
  have h1:=AiG h (i:=i) (by omega);have h2:=(h _ hi).2.2 (by omega)
  grind
theorem WT{l:ASH}{w:Int}(h:cX l w)(hw:1<=w):(l.length:Int)<=w:=by
 rcases AQD l.length with h0 |h0
 ·omega
 ·have h1:=AiG h (i:=l.length-1) (by omega);have h2:=(h (l.length-1) (by omega)).2.1;omega
theorem Ajo{l:ASH}{w:Int}(h:cX l w){i:Nat}(hi:i<l.length):(l.take i).contains (Lk l i)=false:=by
 rw[Bool.eq_false_iff];intro hc;have hm:Lk l i∈l.take i:=by grind
 obtain⟨j,hj,e⟩:=ARb hm;rw[AQA]at hj;rw[List.getElem_take]at e;have h1:=zZ h (i:=j)  (by omega) hi;have h2:Lk l j=l[j]'(by omega):=by simp[Lk,show j<l.length by omega]
 omega
def g0(c:ASV)(n:Nat):ASK:=(List.range n).flatMap λv=>(DJ c v).map λp=>((v:Int),p,())
theorem sB{d:ASL}{c:ASV}(hd:AE d)(hc:Dk d c)(hb:YY c):M7 d (c,())=some (0,d,M d 0 (C0 c),[],g0 c d.length):=by
 have Zs:=hd.1;have hgl:∀n,n<=d.length->(g0 c n).length<=4096*n:=λn hn=>Ya λv hv=>by
  obtain⟨e0,fO,gT⟩:=Qg hd (show v<d.length by omega);have:=WT (hc.2 v (by omega)) (by omega);rw[AQr];omega
 unfold M7;rw[AQx ⟨rfl,by omega,by omega,by omega,by omega⟩,AQg];have:Ri d (c,()) d.length 0 d (List.replicate d.length []) []=some (d,M d 0 (C0 c),g0 c d.length):=by
  have:=AP (f:=Ei d (c,()) d.length) (λv=>(v,d,CO (λu=>HG (W d u+0) (C0 c u)) [] d.length v,g0 c v)) (t:=(d,M d 0 (C0 c),g0 c d.length)) d.length (λv hv=>?_) ?_
  ·rw[<-MW (λu=>HG _ _)];exact this
  ·unfold Ei Jy;obtain⟨e0,fO,gT⟩:=Qg hd hv;have hp:=hc.2 v hv;have e1:(c.getD v ATJ.zero)=DJ c v:=rfl;have e2:(d.getD v _).2.1=(W d v):=e0;simp only[AQg,e1,e2];rw[C9 hv,AQv,AQx (Bj hv),AQx (show Ty.row _=true/\0<=(W d v:Int)/\(W d v)<=(W d v:Int)/\((1:Nat))*(W d v:Int)<=281474976710656/\(W d v:Int)<=9223372036854775807 from⟨rfl,by omega,by omega,by omega,by omega⟩),Im,AQx (Bj hv),AQx (Bj (by rw[hc.1];exact hv))];have hrl :=by have:=WT hp (by omega);omega
   have Gq:Rh v d d.length (c,()) (DJ c v) ((DJ c v).length) 0 d ((CO (λu=>HG (W d u+0) (C0 c u)) [] d.length v).set v (List.replicate (W d v) false)) (g0 c v)=some (d,CO (λu=>HG (W d u+0) (C0 c u)) [] d.length (v+1),g0 c (v+1)):=by
    have:=AP (f:=Eh v d d.length (c,()) (DJ c v) ((DJ c v).length)) (λi=>(i,d,(CO (λu=>HG (W d u+0) (C0 c u)) [] d.length v).set v (HG (W d v) λp=>((DJ c v).take i).contains p),g0 c v++((DJ c v).take i).map λp=>((v:Int),p,()))) (t:=(d,CO (λu=>HG (W d u+0) (C0 c u)) [] d.length (v+1),g0 c (v+1))) (DJ c v).length (λi hi=>?_) ?_
    ·have e:List.replicate (W d v) false=HG (W d v) λp=>((DJ c v).take 0).contains p:=by
       rw[<-lV];exact V6 λp _=>by simp
     rw[e,show g0 c v=g0 c v++((DJ c v).take 0).map _ by simp];exact this
    ·unfold Eh Jx;have hpi:=hp i hi;obtain⟨p,hpp⟩:∃p:Nat,Lk (DJ c v) i=p:=⟨(Lk (DJ c v) i).toNat,by have:=hpi.1;omega⟩;have vP:p<W d v:=by have:=hpi.2.1;omega
     have e3:(DJ c v).getD i ATE.zero=p:=hpp;have aT:=Ajo hp hi;rw[hpp]at aT;simp only[AQg,e3];rw[C9 hi,AQx (Bj hi),gV hd hv (r:=λp=>((DJ c v).take i).contains p) (by rw[AQo,Im]) (by simp[Im,hv]) (by grind),AQx ⟨by have:=hpi.1;omega,vP,aT⟩,Bl hi (by omega),ASk,lW];have e5:(HG _ _)=HG (W d v) λq=>((DJ c v).take _).contains q:=V6 λq _=>by rw[bJ hi,hpp,r9]
     rw[e5,AY  hi,AQY,<-AQn,show(DJ c v).getD i 0=p from hpp];rfl
    ·unfold Eh Jx;rw[DU,AQu,AQp (AQl _)];have e6:(CO (λu=>HG (W d u+0) (C0 c u)) [] _ v).set v (HG (W d v) λp=>(DJ c v).contains p)=CO (λu=>HG _ _) [] d.length _:=QA _ _;have e7:g0 c v++(DJ c v).map (λp=>((v:Int),p,()))=g0 c (v+1):=by
      unfold g0;rw[ARn];simp
     rw[e6,e7]
   rw[Gq,AQf,Bl hv (by omega)]
  ·unfold Ei Jy;rw[DU,AQu];have:CO (λu=>HG (W d u+0) (C0 c u)) [] d.length d.length=M d 0 (C0 c):=by
    exact AQ4 λv hv=>by grind
   rw[this]
 rw[this];rfl
theorem yh{d:ASL}{c:ASV}(hd:AE d)(hc:Dk d c){v p:Nat}(h:C0 c v p=true):v<d.length/\1<=p/\p<W d v:=by
 have hm :=by simpa [C0]using h
 have hv:v<d.length:=by
  rw[<-hc.1];rcases AQq v c.length with h1 |h1
  ·grind
  ·unfold DJ at hm
   grind
 obtain⟨e0,fO,gT⟩:=Qg hd hv;have:=sL (hc.2 v hv) hm;exact⟨hv,by omega,by omega⟩
theorem Ajl{d:ASL}{c:ASV}(hd:AE d)(hc:Dk d c):CI d (C0 c) (C0 c,g0 c d.length)/\uh (C0 c,g0 c d.length):=by
 refine⟨⟨λ_ _ h=>h,λv p h=>yh hd hc h,λx hx=>?_,?_⟩,λv p h=>?_⟩
 ·obtain⟨v,hv,hx⟩:=List.mem_flatMap.1 hx;obtain⟨q,hq,rfl⟩:=List.mem_map.1 hx;have hq1:=sL (hc.2 v (List.mem_range.1 hv)) hq;refine⟨v,q.toNat,by grind,?_⟩;simp only[C0]
  grind
 ·have h1:=AlT hd (C0 c);have h2:(g0 c _).length<=4096*d.length:=Ya λv hv=>by
   obtain⟨e0,fO,gT⟩:=Qg hd hv;have:=WT (hc.2 v hv) (by omega);rw[AQr];omega
  have:=hd.1;simp only;omega
 ·have:=yh hd hc h;exact List.mem_flatMap.2 ⟨v,List.mem_range.2 this.1,List.mem_map.2 ⟨p,by simpa [C0]using h,rfl⟩⟩
end Go.Proofs.X
namespace Go.Proofs.X
open Go Go.Va
set_option maxRecDepth 100000
def ZD(x y:Nat):Nat->Nat
 |0=>0
 |1=>x
 |_=>x+y
def YR{A:Type}(x y:ATU A):Nat->ATU A
 |0=>[]
 |1=>x
 |_=>x++y
theorem rf{a b:ASO}(h0:1<=a.length)(ha:a.length<=100000000)(hb:b.length<=100000000):IW [a,b]=some (a++b):=by
 unfold IW;have b9:([a,b]).length=2:=rfl;have h1:Nn [a,b] (([a,b]).length) 0 0=some (((a.length+b.length:Nat):Int)):=by
  have:=AP (f:=C5 [a,b] (([a,b]).length)) (λk=>((ZD a.length b.length k),k)) (t:=(((a.length+b.length)))) 2 (λk hk=>?_) ?_
  ·exact this
  ·unfold C5 GV IX;simp only[AQg];rw[b9,C9 hk,AQx (Bj hk)]
   match k,hk with
   |0,_ =>
    simp;rw[show wI _=a.length from AZ (by simp[ZD]) (by omega),Ic];rfl
   |1,_ =>
    simp;rw[show wI _=((a.length+b.length))from AZ (by simp[ZD]) (by omega),Ic];rfl
  ·unfold C5 GV;rfl
 rw[h1,AQf,Ic,show wI _=((a.length+b.length:Nat))from AZ,show decide _=true from LL,AQx ⟨by omega,by omega⟩,AR9];have h2:Np [a,b] (([a,b]).length) 0 []=some (a++b):=by
  have:=AP (f:=C6 [a,b] (([a,b]).length)) (λk=>(k,YR a b k)) (t:=a++b) 2 (λk hk=>?_) ?_
  ·exact this
  ·unfold C6 GX;rw[b9,C9 hk,AQx (Bj hk)]
   match k,hk with
   |0,_ =>
    rw[AQx (by simp[YR];omega)];rfl
   |1,_ =>
    rw[AQx (by simp[YR];omega)];rfl
  ·unfold C6 GX;rfl
 rw[h2];rfl
theorem rb{a b:ASH}(h0:1<=a.length)(ha:a.length<=100000000)(hb:b.length<=100000000):GC [a,b]=some (a++b):=by
 unfold GC;have b9:([a,b]).length=2:=rfl;have h1:KS [a,b] (([a,b]).length) 0 0=some (((a.length+b.length:Nat):Int)):=by
  have:=AP (f:=Ct [a,b] (([a,b]).length)) (λk=>((ZD a.length b.length k),k)) (t:=(((a.length+b.length)))) 2 (λk hk=>?_) ?_
  ·exact this
  ·unfold Ct Fs GY;simp only[AQg];rw[b9,C9 hk,AQx (Bj hk)]
   match k,hk with
   |0,_ =>
    simp;rw[show wI _=a.length from AZ (by simp[ZD]) (by omega),Ic];rfl
   |1,_ =>
    simp;rw[show wI _=((a.length+b.length))from AZ (by simp[ZD]) (by omega),Ic];rfl
  ·unfold Ct Fs;rfl
 rw[h1,AQf,Ic,show wI _=((a.length+b.length:Nat))from AZ,show decide _=true from LL,AQx ⟨by omega,by omega⟩,AR9];have h2:KT [a,b] (([a,b]).length) 0 []=some (a++b):=by
  have:=AP (f:=Cu [a,b] (([a,b]).length)) (λk=>(k,YR a b k)) (t:=a++b) 2 (λk hk=>?_) ?_
  ·exact this
  ·unfold Cu Ft;rw[b9,C9 hk,AQx (Bj hk)]
   match k,hk with
   |0,_ =>
    rw[AQx (by simp[YR];omega)];rfl
   |1,_ =>
    rw[AQx (by simp[YR];omega)];rfl
  ·unfold Cu Ft;rfl
 rw[h2];rfl
abbrev NX:Type:=List AS2
def nk(v p:Nat):ASu:=((v:Int),(p:Int),())
def nx(o:NX)(v p:Nat):ASK:=Bs Aa ATI o (nk v p)
def lnk(o:NX)(k x:ASu):NX:=Cr Aa ATI (Cr Aa ATI o k (Bs Aa ATI o k)) k (Bs Aa ATI o k++[x])
theorem ZF{v p u q:Nat}:nk v p=nk u q↔v=u/\p=q:=by
 constructor
 ·intro h;injection h with h1 h2;injection h2 with h2 _;omega
 ·grind
theorem Aip(o:NX)(k x:ASu)(v p:Nat):nx (lnk o k x) v p=bif Bg Aa (nk v p) k then Bs Aa ATI o k++[x]else nx o v p:=by
 unfold nx lnk;rw[fU iQ,fU iQ]
 grind
theorem Ym{o:NX}{k x:ASu}{v p:Nat}{y:ASu}:y∈nx (lnk o k x) v p↔y∈nx o v p\/(nk v p=k/\y=x):=by
 rw[Aip];cases hk:Bg _ _ k with
 |true =>
  have e:=(iQ _ _).1 hk;rw[AQv,ARL,AQG];simp only[e,true_and];unfold nx;rw[e]
 |false =>
  have e:nk v p≠k:=λe=>by rw[(iQ _ _).2 e]at hk;cases hk
  simp[e]
theorem zN{o:NX}{k x:ASu}{v p N:Nat}(h:∀v p,(nx o v p).length<=N):(nx (lnk o k x) v p).length<=N+1:=by
 rw[Aip];cases hk:Bg _ _ k with
 |true =>
  have e:=(iQ _ _).1 hk;have:=h v p;unfold nx at this
  grind
 |false=>grind
theorem Ah4{o:NX}{a:Int}{b c:ASM}{g:Int}{i:ASL}{dd:ATU ATo}{j:ASW}{l:ASK}{v p u q:Nat}(h:(nx o v p).length<=1000000) :
    Ee a b c g i dd j o l (v:Int) (p:Int) (u:Int) (q:Int)=some (lnk o (nk v p) (nk u q)):=by
 unfold Ee;have h':(Bs _ (.sl _) o (v,p,())).length<=1000000:=h;rw[AQx (by grind),kH ao,ao];rfl
theorem Ah5{o:NX}{a:Int}{b c:ASM}{g:Int}{i:ASL}{dd:ATU ATo}{j:ASW}{l:ASK}{v p u q:Nat}(h:(nx o v p).length<=1000000) :
    Ef a b c g i dd j o l (u:Int) (q:Int) (v:Int) (p:Int)=some (lnk o (nk v p) (nk u q)):=by
 unfold Ef;have h':(Bs _ (.sl _) o (v,p,())).length<=1000000:=h;rw[AQx (by grind),kH ao,ao];rfl
def SD(d:ASL)(h:Nat->Nat->Bool):Sg->Prop
 |.co _=>True
 |.va v l n=>Hit d h v l/\Hit d h v (l+n)
def SP(B1 B2:ATU Bt)(h:Nat->Nat->Bool):Prop:=∀p,1<=p->p<B1.length->(Uj B1 h p=true->lh (JO B2 p)=true->Uj B2 h p=true)/\(Uj B2 h p=true->lh (JO B1 p)=true->Uj B1 h p=true)
def nc(d:ASL)(B1 B2:ATU Bt)(h:Nat->Nat->Bool):Prop:=(∀s∈AA B1++AA B2,SD d h s)/\SP B1 B2 h
inductive ZY (d:ASL) (B1 B2:List Bt) (p:Nat) (s:SC) (o:NX):SC->NX->Prop
 |one (v a:Nat):fst B1 p=true->fst B2 p=false->JO B2 p=.va v a->v<d.length->1<=a->a<W d v->ZY d B1 B2 p s o (MQ d s v a) o
 |iW (v a:Nat):fst B2 p=true->fst B1 p=false->JO B1 p=.va v a->v<d.length->1<=a->a<W d v->ZY d B1 B2 p s o (MQ d s v a) o
 |both (v a u b:Nat):fst B1 p=false->fst B2 p=false->JO B1 p=.va v a->JO B2 p=.va u b->v<d.length->u<d.length->ZY d B1 B2 p s o s (lnk (lnk o (nk v a) (nk u b)) (nk u b) (nk v a))
 |none:(fst B1 p=true/\fst B2 p=true\/(∃b,JO B1 p=.co b/\fst B1 p=false)\/∃b,JO B2 p=.co b/\fst B2 p=false)->ZY d B1 B2 p s o s o
theorem AwD{d:ASL}(hd:AE d){B1 B2:ATU Bt}(h1:Bm d B1)(h2:Bm d B2)(hl:B1.length=B2.length){p:Nat}(hp:p<B1.length){s:SC}{o:NX}(hs:s.2.length<=1000000)(hn:∀v p,(nx o v p).length<=900000){a:Int}{dd:ATU ATo} :
    ∃s' o',FC a (fh (AA B1)) (fh (AA B2)) (p:Int) d dd (M d 0 s.1) o s.2=some (d,M d 0 s'.1,o',s'.2)/\ZY d B1 B2 p s o s' o':=by
 unfold FC Jr Po;rw[jz,jz,AQx (Bj hp),AQx (Bj (by omega))];simp only[AQg];rcases aG h1 hp with ⟨f1,e1⟩|⟨f1,⟨⟨b1,c1⟩,e1⟩|⟨v,x,c1,hv,k9,yd,e1⟩⟩<;>rcases aG h2 (show p<B2.length by omega)with ⟨f2,e2⟩|⟨f2,⟨⟨b2,c2⟩,e2⟩|⟨u,y,c2,hu,hy1,hy2,e2⟩⟩<;>rw[e1,e2]
 ·exact⟨s,o,rfl,.none (.inl ⟨f1,f2⟩)⟩
 ·exact⟨s,o,rfl,.none (.inr (.inr ⟨b2,c2,f2⟩))⟩
 ·refine⟨MQ d s u y,o,?_,.one u y f1 f2 c2 hu hy1 hy2⟩;rw[VJ hd hu s hs];rfl
 ·exact⟨s,o,rfl,.none (.inr (.inl ⟨b1,c1,f1⟩))⟩
 ·exact⟨s,o,rfl,.none (.inr (.inl ⟨b1,c1,f1⟩))⟩
 ·exact⟨s,o,rfl,.none (.inr (.inl ⟨b1,c1,f1⟩))⟩
 ·refine⟨MQ d s v x,o,?_,.iW v x f2 f1 c1 hv k9 yd⟩;rw[VJ hd hv s hs];rfl
 ·exact⟨s,o,rfl,.none (.inr (.inr ⟨b2,c2,f2⟩))⟩
 ·refine⟨s,lnk _ _ _,?_,.both v x u y f1 f2 c1 c2 hv hu⟩;show(Ee a _ _ _ d dd _ o _ v x u y).bind (λo=>(Ef a _ _ _ d dd _ o _ v x u y).bind _)=_;rw[Ah4 (by grind),AQf,Ah5 (by have:=zN (k:=nk v x) (x:=nk u y) (v:=u) (p:=y) hn;omega),AQf]
def NJ(d:ASL)(h:Nat->Nat->Bool)(o:NX):Prop:=∀v p u q:Nat,nk u q∈nx o v p->h v p=true->Hit d h u q
def NV(d:ASL)(o:NX):Prop:=∀v p x,x∈nx o v p->∃u q:Nat,x=nk u q/\u<d.length
def YF(B1 B2:ATU Bt)(f:Nat->Nat->Bool)(o:NX)(p:Nat):Prop :=
 (fst B1 p=true->fst B2 p=false->∀v a,JO B2 p=.va v a->f v a=true)/\(fst B2 p=true->fst B1 p=false->∀v a,JO B1 p=.va v a->f v a=true) /\
 (fst B1 p=false->fst B2 p=false->∀v a u b,JO B1 p=.va v a->JO B2 p=.va u b->nk u b∈nx o v a/\nk v a∈nx o u b)
theorem YF.mono{B1 B2:ATU Bt}{f f':Nat->Nat->Bool}{o o':NX}{p:Nat}(h:YF B1 B2 f o p)(hf:QU f f')(ho:∀v p x,x∈nx o v p->x∈nx o' v p):YF B1 B2 f' o' p :=
 ⟨λa b v x c=>hf v x (h.1 a b v x c),λa b v x c=>hf v x (h.2.1 a b v x c),λa b v x u y c e=>⟨ho _ _ _ (h.2.2 a b v x u y c e).1,ho _ _ _ (h.2.2 a b v x u y c e).2⟩⟩
structure LI (d:ASL) (f0:Nat->Nat->Bool) (s:SC) (o:NX) (N:Nat):Prop where
 ci:CI d f0 s
 todo:uh s
 nv:NV d o
 nl:∀v p,(nx o v p).length<=N
theorem AmA{d:ASL}{B1 B2:ATU Bt}{p:Nat}{s s':SC}{o o':NX}{f0:Nat->Nat->Bool}{N:Nat}(cO:1<=p)(hp:p<B1.length)(h:LI d f0 s o N)(st:ZY d B1 B2 p s o s' o') :
    LI d f0 s' o' (N+2)/\QU s.1 s'.1/\(∀v p x,x∈nx o v p->x∈nx o' v p)/\YF B1 B2 s'.1 o' p/\∀h,SP B1 B2 h->QU s.1 h->NJ d h o->QU s'.1 h/\NJ d h o':=by
 have ct1:∀{h:Nat->Nat->Bool},fst B1 p=true->Uj B1 h p=true:=λe=>by simp[Uj,e]
 have ct2:∀{h:Nat->Nat->Bool},fst B2 p=true->Uj B2 h p=true:=λe=>by simp[Uj,e]
 have no1:∀{h:Nat->Nat->Bool} {v a:Nat},fst B1 p=false->JO B1 p=.va v a->Uj B1 h p=h v a:=λe c=>by simp[Uj,e,c,Ac4]
 have no2:∀{h:Nat->Nat->Bool} {v a:Nat},fst B2 p=false->JO B2 p=.va v a->Uj B2 h p=h v a:=λe c=>by simp[Uj,e,c,Ac4]
 have nl2:∀v p,(nx o v p).length<=N+2:=λv p=>by have:=h.nl v p;omega
 cases st with
 |one v a f1 f2 c2 hv ha1 ha2 =>
  refine⟨⟨h.ci.cut hv,h.todo.cut,h.nv,nl2⟩,bY s v a,λ_ _ _ hx=>hx,⟨λ_ _ u b c=>?_,λe _=>(by grind),λe=>(by grind)⟩,λg hg hu hj=>⟨dv hu λ_ _=>?_,hj⟩⟩
  ·rw[c2]at c;injection c with e1 e2;subst e1;subst e2;exact du s v a ha1 ha2
  ·have:=(hg p cO hp).1 (ct1 f1) (by rw[c2];rfl);rwa [no2 f2 c2]at this
 |iW v a f2 f1 c1 hv ha1 ha2 =>
  refine⟨⟨h.ci.cut hv,h.todo.cut,h.nv,nl2⟩,bY s v a,λ_ _ _ hx=>hx,⟨λe=>(by grind),λ_ _ u b c=>?_,λ_ e=>(by grind)⟩,λg hg hu hj=>⟨dv hu λ_ _=>?_,hj⟩⟩
  ·rw[c1]at c;injection c with e1 e2;subst e1;subst e2;exact du s v a ha1 ha2
  ·have:=(hg p cO hp).2 (ct2 f2) (by rw[c1];rfl);rwa [no1 f1 c1]at this
 |both v a u b f1 f2 c1 c2 hv hu =>
  refine⟨⟨h.ci,h.todo,λw q x hx=>?_,λw q=>?_⟩,λ_ _ h=>h,λw q x hx=>Ym.2 (.inl (Ym.2 (.inl hx))),⟨λe=>(by grind),λe=>(by grind),λ_ _ v' a' u' b' e1 e2=>?_⟩,λg hg Tl hj=>⟨Tl,λw q w' q' hm hh=>?_⟩⟩
  ·rcases Ym.1 hx with hx |⟨_,rfl⟩
   ·rcases Ym.1 hx with hx |⟨_,rfl⟩
    ·exact h.nv w q x hx
    ·grind
   ·grind
  ·exact zN λw q=>zN h.nl
  ·rw[c1]at e1;injection e1 with q1 q2;subst q1;subst q2;rw[c2]at e2;injection e2 with q1 q2;subst q1;subst q2;exact⟨Ym.2 (.inl (Ym.2 (.inr ⟨rfl,rfl⟩))),Ym.2 (.inr ⟨rfl,rfl⟩)⟩
  ·have hs:=hg p cO hp;rw[no1 f1 c1,no2 f2 c2]at hs;rcases Ym.1 hm with hm |⟨e1,e2⟩
   ·rcases Ym.1 hm with hm |⟨e1,e2⟩
    ·exact hj w q w' q' hm hh
    ·obtain⟨rfl,rfl⟩:=ZF.1 e1;obtain⟨rfl,rfl⟩:=ZF.1 e2;exact λ_ _=>hs.1 hh (by rw[c2];rfl)
   ·obtain⟨rfl,rfl⟩:=ZF.1 e1;obtain⟨rfl,rfl⟩:=ZF.1 e2;exact λ_ _=>hs.2 hh (by rw[c1];rfl)
 |none hc =>
  refine⟨⟨h.ci,h.todo,h.nv,nl2⟩,λ_ _ h=>h,λ_ _ _ hx=>hx,⟨λe1 e2 v a c=>?_,λe1 e2 v a c=>?_,λe1 e2 v a u b c c'=>?_⟩,λg _ hu hj=>⟨hu,hj⟩⟩
  ·grind
  ·grind
  grind
end Go.Proofs.X
namespace Go.Proofs.X
open Go Go.Va
set_option maxRecDepth 100000
noncomputable def YZ(d:ASL)(s:SC):Sg->SC
 |.co _=>s
 |.va v l n=>MQ d (MQ d s v l) v (l+n)
theorem kG{d:ASL}{f0:Nat->Nat->Bool}:∀(fs:ATU Sg) (s:SC),(∀x∈fs,Wy d x)->CI d f0 s->uh s->CI d f0 (fs.foldl (YZ d) s)/\uh (fs.foldl (YZ d) s)/\QU s.1 (fs.foldl (YZ d) s).1/\(∀x∈fs,SD d (fs.foldl (YZ d) s).1 x) /\
    ∀h,(∀x∈fs,SD d h x)->QU s.1 h->QU (fs.foldl (YZ d) s).1 h
 |[],s,_,h1,h2=>⟨h1,h2,λ_ _ h=>h,λx hx=>(by grind),λ_ _ h=>h⟩
 |x::fs,s,Gq,h1,h2=>by
  have key:CI d f0 (YZ d s x)/\uh (YZ d s x)/\QU s.1 (YZ d s x).1/\SD d (YZ d s x).1 x/\∀h,SD d h x->QU s.1 h->QU (YZ d s x).1 h:=by
   cases x with
   |co b=>exact⟨h1,h2,λ_ _ h=>h,trivial,λ_ _ h=>h⟩
   |va v l n =>
    have hv:=(Gq _ AQK).1;exact⟨(h1.cut hv).cut hv,h2.cut.cut,λu q h=>bY _ v _ u q (bY s v l u q h),⟨(du s v l).mono (bY _ v _),du _ v _⟩,λh hh hs=>dv (dv hs hh.1) hh.2⟩
  obtain⟨k1,k2,k3,k4,k5⟩:=key;obtain⟨i1,i2,i3,i4,i5⟩:=kG fs _ (λy hy=>Gq y (AQH _ hy)) k1 k2;refine⟨i1,i2,λu q h=>i3 u q (k3 u q h),λy hy=>?_,λh hh hs=>i5 h (λy hy=>hh y (AQH _ hy)) (k5 h (hh x AQK) hs)⟩;rcases List.mem_cons.1 hy with rfl |hy
  ·cases y with
   |co b=>trivial
   |va v l n=>exact⟨k4.1.mono i3,k4.2.mono i3⟩
  ·grind
theorem Ah3{d:ASL}(hd:AE d){fs:ATU Sg}{i:Nat}(hi:i<fs.length)(Gq:Wy d (fs.getD i (.co []))){s:SC}(h1:s.2.length<=900000){a o1:Int}{x y:ASO}{dd:ATU ATo}{o:NX} :
    Gz a x y o1 (i:Int) d dd (M d 0 s.1) o (fV fs) s.2=some (d,M d 0 (YZ d s (fs.getD i (.co []))).1,(YZ d s (fs.getD i (.co []))).2):=by
 unfold Gz;simp only[AQg,iH hi];rw[Cj,AQx (Bj hi)];cases hs:fs.getD i _ with
 |co b=>rfl
 |va v l n =>
  rw[hs]at Gq;obtain⟨hv,hn,hw⟩:=Gq;obtain⟨e0,fO,gT⟩:=Qg hd hv;have Tl:(MQ d s v l).2.length<=s.2.length+1:=by unfold MQ;split<;>simp
  have e1:BN a (Ir (.va v l n)).1 (Ir (.va v l n)).2.1 d _ s.2=some _:=VJ hd hv s (by omega);have e2:wI ((Ir (.va v l n)).2.1+(Ir (.va v l n)).2.2.1)=((l+n:Nat)):=AZ (show l+(n:Int)=_ by omega) (by omega);have e3:BN a (Ir (.va v l n)).1 _ d _ _=some (d,M d 0 _,(MQ d (MQ d s v l) v (l+n)).2):=VJ hd hv _ (by omega);rw[e1,AQf,e2,e3];rfl
theorem Amn{d:ASL}(hd:AE d){B1 B2:ATU Bt}(h1:Bm d B1)(h2:Bm d B2)(hl:B1.length=B2.length){f0:Nat->Nat->Bool}{s:SC}{o:NX}{N:Nat}(hI:LI d f0 s o N)(hN:N<=800000){a:Int}{dd:ATU ATo} :
    ∃s' o',JW a (fN B1) (fN B2) d dd (M d 0 s.1) o s.2=some (d,dd,M d 0 s'.1,o',s'.2)/\LI d f0 s' o' (N+8192)/\QU s.1 s'.1/\(∀v p x,x∈nx o v p->x∈nx o' v p)/\(∀x∈AA B1++AA B2,SD d s'.1 x)/\(∀p,1<=p->p<B1.length->YF B1 B2 s'.1 o' p) /\
     ∀h,nc d B1 B2 h->QU s.1 h->NJ d h o->QU s'.1 h/\NJ d h o':=by
 unfold JW;have x7:(fN B1).length<=4096/\(fN B2).length<=4096/\1<=(fN B1).length:=by
  unfold fN;rw[Cj,Cj];have a1:=CQ (CJ B1);have a2:=CQ (CJ B2);rw[B9]at a1 a2;have:=h1.1;have:=h2.2.1;rcases AQD _ with h0 |h0
  ·have e:AA B1=[]:=AQ7 h0;have:=B9 B1;rw[e]at this;simp[Bh]at this;omega
  ·omega
 rw[rf x7.2.2 (by omega) (by omega),AQf];have efs:fN B1++fN B2=fV _:=(SG _ _).symm;rw[efs];have vR:∀x∈AA B1++AA B2,Wy d x:=λx hx=>by
  rcases List.mem_append.1 hx with hx |hx
  ·exact(ZL h1 hx).1
  ·exact(ZL h2 hx).1
 have hfl:(AA B1++AA B2).length<=8192:=by
  have:=x7.2.1;unfold fN at *;rw[Cj]at *;rw[AQj];omega
 have b9:OQ a (fN B1) (fN B2) dd o (fV (AA B1++AA B2)) ((fV (AA B1++AA B2)).length) 0 d (M d 0 s.1) s.2=some (d,M d 0 ((AA B1++AA B2).foldl (YZ d) s).1,((AA B1++AA B2).foldl (YZ d) s).2):=by
  generalize AA B1++AA B2=fs at *;rw[Cj];have:=AP (f:=Df a (fN B1) (fN B2) dd o (fV fs) fs.length) (λk=>(k,d,M d 0 ((fs.take k).foldl (YZ d) s).1,((fs.take k).foldl (YZ d) s).2)) (t:=(d,M d 0 (fs.foldl (YZ d) s).1,(fs.foldl (YZ d) s).2)) fs.length (λk hk=>?_) ?_
  ·exact this
  ·unfold Df HW;have hci:=(kG (fs.take k) s (λx hx=>vR x (ARw hx)) hI.ci hI.todo).1;rw[C9 hk,Ah3 hd hk (vR _ (AK hk)) (by have:=hci.len;omega),Bl hk (by omega),AY  hk,AR5];rfl
  ·unfold Df HW
   grind
 rw[b9,AQf,Aji hd h1,AQf,Aji hd h2,AQf];obtain⟨i1,i2,i3,i4,i5⟩:=kG _ s vR hI.ci hI.todo;generalize (AA B1++AA B2).foldl _ s=s1 at *;have vJ:Az (M5 a (fh (AA B1)) (fh (AA B2)) dd 1 d (M d 0 s1.1) o s1.2) λr=>∃s' o',r=(d,M d 0 s'.1,o',s'.2)/\LI d f0 s' o' (N+2*(B1.length-1))/\QU s1.1 s'.1/\(∀v p x,x∈nx o v p->x∈nx o' v p)/\(∀p,1<=p->p<B1.length-1+1->YF B1 B2 s'.1 o' p) /\
     ∀h,SP B1 B2 h->QU s1.1 h->NJ d h o->QU s'.1 h/\NJ d h o':=by
  have:=BW (f:=C1 a (fh (AA B1)) (fh (AA B2)) dd) (λk x=>(((k+1:Nat)),d,M d 0 x.1.1,x.2,x.1.2)) (B1.length-1)
   (λk x=>LI d f0 x.1 x.2 (N+2*k)/\QU s1.1 x.1.1/\(∀v p y,y∈nx o v p->y∈nx x.2 v p)/\(∀p,1<=p->p<k+1->YF B1 B2 x.1.1 x.2 p)/\∀h,SP B1 B2 h->QU s1.1 h->NJ d h o->QU x.1.1 h/\NJ d h x.2)
   (Q:=λr=>∃s' o',r=(d,M d 0 s'.1,o',s'.2)/\LI d f0 s' o' (N+2*(B1.length-1))/\QU s1.1 s'.1/\(∀v p x,x∈nx o v p->x∈nx o' v p)/\(∀p,1<=p->p<B1.length-1+1->YF B1 B2 s'.1 o' p)/\∀h,SP B1 B2 h->QU s1.1 h->NJ d h o->QU s'.1 h/\NJ d h o')
   (λk x hk hx=>?_) (λx hx=>?_) (s0:=(s1,o)) ⟨⟨i1,i2,hI.nv,λv p=>hI.nl v p⟩,λ_ _ h=>h,λ_ _ _ h=>h,λp h1 h2=>by omega,λh _ hu hj=>⟨hu,hj⟩⟩
  ·exact this
  ·obtain⟨j1,j2,j3,j4,j5⟩:=hx;have hb:=h1.2.1;unfold C1 GK;obtain⟨s',o',e1,st⟩:=AwD hd h1 h2 hl (show k+1<B1.length by omega) (s:=x.1) (o:=x.2) (by have:=j1.ci.len;omega) (λv p=>by have:=j1.nl v p;omega);obtain⟨k1,k2,k3,k4,k5⟩:=AmA (by omega) (show k+1<B1.length by omega) j1 st;rw[jz,C9 (show k+1<B1.length by omega),e1,AZ  (n:=k+1+1) (by omega) (by omega)];refine Az.mk ⟨(s',o'),rfl,k1,λu q h=>k2 u q (j2 u q h),λv p y hy=>k3 v p y (j3 v p y hy),λp cO gP=>?_,λh hs hu hj=>?_⟩
   ·rcases AQq p _ with Bp |aS
    ·exact(j4 p cO Bp).mono k2 k3
    grind
   grind
  ·unfold C1 GK;have:=h1.1;rw[jz,show B1.length-1+1=B1.length by omega,DU];refine Az.mk ⟨x.1,x.2,rfl,hx.1,hx.2.1,hx.2.2.1,?_,hx.2.2.2.2⟩
   grind
 obtain⟨r,hr,s',o',rfl,j1,j2,j3,j4,j5⟩:=vJ;rw[hr];have hb:=h1.2.1;refine⟨s',o',rfl,⟨j1.ci,j1.todo,j1.nv,λv p=>by have:=j1.nl v p;omega⟩,λu q h=>j2 u q (i3 u q h),j3,λx hx=>?_,λp cO gP=>j4 p cO (by omega),λh hs hu hj=>j5 h hs.2 (i5 h hs.1 hu) hj⟩;cases x with
 |co b=>trivial
 |va v l n=>exact⟨(i4 _ hx).1.mono j2,(i4 _ hx).2.mono j2⟩
abbrev ud:Type:=ASO×ASO×Unit
abbrev AzP:ud:=([],[],())
noncomputable def OH(d:ASL)(l:ASN)(i:Nat):ud:=((DV d (lS l i)).2,(DV d (lT l i)).2,())
theorem W3{d:ASL}{l:ASN}(hd:AE d)(hl:∀x∈l,Kr x)(hp:Fz d l):Az (Qk d l) λr=>(r.1=true/\Cz d l/\r.2=(List.range l.length).map (OH d l))\/(r.1=false/\¬Cz d l):=by
 unfold Qk;have hlen:=hp.1;rw[AQx ⟨rfl,by omega,by omega,by omega,by omega⟩];refine Az.bind (P:=λt=>(∃x,t=.inl x/\¬Cz d l)\/(t=.inr ((List.range l.length).map (OH d l))/\Cz d l)) ?_ λt ht=>?_
 ·have z0:∀n,CO (OH d l) _ n 0=List.replicate n ([],[],()):=λn=>MW _ _ _;refine Bu (λm x=>∃k:Nat,k<=l.length/\m=l.length-k/\x=((k:Int),CO (OH d l) (AzP) l.length k)/\∀i,i<k->jO d l i) (λm x hI=>?_) _ _ ⟨0,AQ1 _,rfl,by grind,λi hi=>by omega⟩;obtain⟨k,hk,rfl,rfl,h3⟩:=hI;unfold Pz Uq Po;rcases AQq k _ with h |h
  ·have hB:=hl _ (AK (z:=Ty.zero _) h);have vI:=hp.2 k h;obtain⟨ws,hw⟩:=Yu vI.2.2.1;obtain⟨mY,nJ⟩:=Yu (show 0<=Ig d _ by rw[vI.2.2.2];exact vI.2.2.1);have e1:GL d (l.getD k _).2.2.1=some (DV d (lS l k)):=VK hd hB.1 hw;have e2:GL d (l.getD k _).2.2.2.1=some (DV d (lT l k)):=VK hd hB.2 nJ;rw[C9 h,AQx (Bj h),AQg,e1,AQf,e2,AQf];cases hc:(!(DV d _).1||!(DV d _).1)with
   |true =>
    refine Az.mk (.inl ⟨_,rfl,λh'=>?_⟩);have:=sI.2 (h' k h);rw[hc]at this;cases this
   |false =>
    rw[Im,AQx (Bj h),Bl h (by omega)];refine Az.mk ⟨l.length-(k+1),by omega,k+1,h,rfl,?_,λi hi=>?_⟩
    ·rw[<-QA];rfl
    ·rcases AQq i k with h' |h'
     ·grind
     ·rw[show i=k by omega];exact sI.1 hc
  ·have:k=l.length:=by omega
   subst this;rw[DU];refine Az.mk (.inr ⟨?_,h3⟩);congr 1;refine AQ4 λi hi=>?_;rw[AQx (List.mem_range.1 hi)]
 ·rcases ht with ⟨x,rfl,h⟩|⟨rfl,h⟩
  ·exact Az.mk (.inr ⟨rfl,h⟩)
  ·exact Az.mk (.inl ⟨rfl,h,rfl⟩)
def b1(d:ASL)(l:ASN)(i:Nat):ATU Bt:=OE d (lS l i)
def b2(d:ASL)(l:ASN)(i:Nat):ATU Bt:=OE d (lT l i)
theorem PQ{d:ASL}{l:ASN}(hd:AE d)(hl:∀x∈l,Kr x)(hp:Fz d l)(hs:Cz d l){i:Nat}(hi:i<l.length) :
    Bm d (b1 d l i)/\Bm d (b2 d l i)/\(b1 d l i).length=(b2 d l i).length/\OH d l i=(fN (b1 d l i),fN (b2 d l i),())/\(DV d (lS l i))=(true,fN (b1 d l i))/\(DV d (lT l i))=(true,fN (b2 d l i)):=by
 have hB:=hl _ (AK (z:=Ty.zero _) hi);obtain⟨h1,h2⟩:=hs i hi;have vI:=hp.2 i hi;obtain⟨ws,hw⟩:=Yu vI.2.2.1;obtain⟨mY,nJ⟩:=Yu (show 0<=Ig d _ by rw[vI.2.2.2];exact vI.2.2.1);obtain⟨a1,a2⟩:=kL hd hB.1 h1;obtain⟨c1,c2⟩:=kL hd hB.2 h2;have t1:=(ml (t:=lS l i) hd hB.1 hw _ (AQl _) ((lS l i).length-1) (by have:=hw.1;omega)).2;have t2:=(ml (t:=lT l i) hd hB.2 nJ _ (AQl _) ((lT l i).length-1) (by have:=nJ.1;omega)).2;have e:=vI.2.2.2;rw[ZT hw,ZT nJ]at e;refine⟨a1.1,c1.1,?_,?_,Prod.ext h1 a2,Prod.ext h2 c2⟩
 ·have e1:((b1 d l i).length)=ws.getD _ 0:=t1;have e2:((b2 d l i).length)=mY.getD _ 0:=t2;omega
 ·unfold OH;rw[show(DV d (lS l i)).2=fN (b1 d l i)from a2,show(DV d (lT l i)).2=fN (b2 d l i)from c2]
end Go.Proofs.X
namespace Go.Proofs.X
open Go Go.Va
set_option maxRecDepth 100000
def EC(d:ASL)(l:ASN)(h:Nat->Nat->Bool):Prop:=∀i,i<l.length->nc d (b1 d l i) (b2 d l i) h
structure jL (d:ASL) (l:ASN) (c:ASV) (f:Nat->Nat->Bool):Prop where
 le:QU (C0 c) f
 aX:∀v p,f v p=true->v<d.length/\1<=p/\p<W d v
 cl:EC d l f
 min:∀h,EC d l h->QU (C0 c) h->QU f h
theorem jL.unique{d:ASL}{l:ASN}{c:ASV}{f g:Nat->Nat->Bool}(hf:jL d l c f)(hg:jL d l c g):f=g:=by
 funext v p
 rw[AR2];exact⟨hf.min g hg.cl hg.le v p,hg.min f hf.cl hf.le v p⟩
theorem AmN{d:ASL}{B1 B2:ATU Bt}(h1:Bm d B1)(h2:Bm d B2)(hl:B1.length=B2.length){f:Nat->Nat->Bool}{o:NX}(he:∀x∈AA B1++AA B2,SD d f x)(hp:∀p,1<=p->p<B1.length->YF B1 B2 f o p)
    (hc:∀v p u q:Nat,f v p=true->nk u q∈nx o v p->Hit d f u q):nc d B1 B2 f:=by
 have vac:∀{b:Bt},lh b=true->∃v a,b=.va v a:=λ{b} h=>by
  cases b with
  |co _=>cases h
  |va v a=>grind
 refine⟨he,λp cO gP=>⟨λgK hva=>?_,λgK hva=>?_⟩⟩
 ·obtain⟨u,b,e2⟩:=vac hva;unfold Uj;cases f2:fst B2 p with
  |true=>rfl
  |false =>
   rw[e2];have hb:1<=b/\b<W d u:=by
    rcases aG h2 (show p<B2.length by omega)with ⟨q,_⟩|⟨_,⟨⟨_,q⟩,_⟩|⟨v,a,q,_,q1,q2,_⟩⟩
    ·grind
    ·grind
    grind
   cases f1:fst B1 p with
   |true=>exact(hp p cO gP).1 f1 f2 u b e2
   |false =>
    unfold Uj at gK;rw[f1]at gK;cases e1:JO B1 p with
    |co c=>rw[e1]at gK;cases gK
    |va v a =>
     rw[e1]at gK;exact hc v a u b gK ((hp p cO gP).2.2 f1 f2 v a u b e1 e2).1 hb.1 hb.2
 ·obtain⟨u,b,e1⟩:=vac hva;unfold Uj;cases f1:fst B1 p with
  |true=>rfl
  |false =>
   rw[e1];have hb:1<=b/\b<W d u:=by
    rcases aG h1 gP with ⟨q,_⟩|⟨_,⟨⟨_,q⟩,_⟩|⟨v,a,q,_,q1,q2,_⟩⟩
    ·grind
    ·grind
    grind
   cases f2:fst B2 p with
   |true=>exact(hp p cO gP).2.1 f2 f1 u b e1
   |false =>
    unfold Uj at gK;rw[f2]at gK;cases e2:JO B2 p with
    |co c=>rw[e2]at gK;cases gK
    |va v a =>
     rw[e2]at gK;exact hc v a u b gK ((hp p cO gP).2.2 f1 f2 u b v a e1 e2).2 hb.1 hb.2
noncomputable def U1(d:ASL)(s:SC)(w:ASK):SC:=w.foldl (λs x=>MQ d s x.1.toNat x.2.1.toNat) s
theorem AcM{d:ASL}{s:SC}{v p:Nat}(hv:v<d.length):(∀x∈s.2,x∈(MQ d s v p).2)/\(∀u q,(MQ d s v p).1 u q=true->s.1 u q=true\/nk u q∈(MQ d s v p).2)/\(MQ d s v p).2.length+free d (MQ d s v p).1<=s.2.length+free d s.1:=by
 unfold MQ;split
 ·rename_i hc;refine⟨λx hx=>AQN _ hx,λu q h=>?_,?_⟩
  ·rcases FE.1 h with h |⟨rfl,rfl⟩
   ·grind
   ·exact .inr (AQO _ (List.mem_singleton.2 rfl))
  ·have:=fJ hv hc.2.1 hc.2.2
   grind
 grind
theorem kA{d:ASL}{f0:Nat->Nat->Bool}:∀(w:ASK) (s:SC),(∀x∈w,∃u q:Nat,x=nk u q/\u<d.length)->CI d f0 s->CI d f0 (U1 d s w)/\QU s.1 (U1 d s w).1/\(∀u q,nk u q∈w->Hit d (U1 d s w).1 u q) /\
    (∀x∈s.2,x∈(U1 d s w).2)/\(∀u q,(U1 d s w).1 u q=true->s.1 u q=true\/nk u q∈(U1 d s w).2)/\(U1 d s w).2.length+free d (U1 d s w).1<=s.2.length+free d s.1/\∀h,(∀u q,nk u q∈w->Hit d h u q)->QU s.1 h->QU (U1 d s w).1 h
 |[],s,_,h1=>⟨h1,λ_ _ h=>h,λ_ _ h=>(by grind),λ_ h=>h,λ_ _ h=>.inl h,AQl _,λ_ _ h=>h⟩
 |x::w,s,hv,h1=>by
  obtain⟨u,q,rfl,hu⟩:=hv x AQK;have e:U1 d s (nk u q::w)=U1 d (MQ d s u q) w:=by simp[U1,nk]
  obtain⟨k1,k2,k3⟩:=AcM (s:=s) (p:=q) hu;obtain⟨i1,i2,i3,i4,i5,i6,i7⟩:=kA w (MQ d s u q) (λy hy=>hv y (AQH _ hy)) (h1.cut hu);refine⟨i1,λa b h=>i2 a b (bY s u q a b h),λa b h=>?_,λy hy=>i4 y (k1 y hy),λa b h=>?_,AQJ i6 k3,λh hh hs=>i7 h (λa b hm=>hh a b (AQH _ hm)) (dv hs (hh u q AQK))⟩
  ·rcases List.mem_cons.1 h with h |h
   ·obtain⟨rfl,rfl⟩:=ZF.1 h;exact(du s a b).mono i2
   ·grind
  grind
theorem AcG{d:ASL}(hd:AE d){f0:Nat->Nat->Bool}{w:ASK}{s:SC}(hv:∀x∈w,∃u q:Nat,x=nk u q/\u<d.length)(hw:w.length<=1000000)(hs:CI d f0 s){a:Int}{o:NX} :
    IA a o w (w.length:Int) 0 d (M d 0 s.1) s.2=some (d,M d 0 (U1 d s w).1,(U1 d s w).2):=by
 have:=AP (f:=CX a o w w.length) (λk=>(k,d,M d 0 (U1 d s (w.take k)).1,(U1 d s (w.take k)).2)) (t:=(d,M d 0 (U1 d s w).1,(U1 d s w).2)) w.length (λk hk=>?_) ?_
 ·exact this
 ·unfold CX GG;obtain⟨u,q,e,hu⟩:=hv _ (AK (z:=Ty.zero _) hk);have hci:=(kA (w.take k) s (λx hx=>hv x (ARw hx)) hs).1;simp only[AQg,e];have e1:BN a (nk u q).1 (nk u q).2.1 d _ _=some (d,M d 0 _,(MQ d (U1 d s (w.take k)) u q).2):=VJ hd hu _ (by have:=hci.len;omega);have e2:U1 d s (w.take (k+1))=MQ d (U1 d s (w.take k)) u q:=by
   rw[AY  hk,e];simp[U1,nk]
  rw[C9 hk,AQv,AQx (Bj hk),e1,AQf,Bl hk (by omega),e2]
 ·unfold CX GG
  grind
theorem AcH{d:ASL}(hd:AE d){f0:Nat->Nat->Bool}{s1:SC}{o:NX}{N:Nat}(hI:LI d f0 s1 o N)(hN:N<=1000000){a:Int} :
    Az (M1 a o d (M d 0 s1.1) s1.2) λr=>∃s:SC,r=(d,M d 0 s.1,s.2)/\CI d f0 s/\QU s1.1 s.1/\(∀v p u q:Nat,s.1 v p=true->nk u q∈nx o v p->Hit d s.1 u q)/\∀h,QU s1.1 h->NJ d h o->QU s.1 h:=by
 refine Bu (λm (x:ASL×ASW×ASK)=>∃s:SC,x=(d,M d 0 s.1,s.2)/\m=s.2.length+free d s.1/\CI d f0 s/\QU s1.1 s.1/\(∀v p,s.1 v p=true->nk v p∈s.2\/∀u q,nk u q∈nx o v p->Hit d s.1 u q)/\∀h,QU s1.1 h->NJ d h o->QU s.1 h) (λm x hx=>?_) _ _ ⟨s1,rfl,rfl,hI.ci,λ_ _ h=>h,λv p h=>.inl (hI.todo v p h),λh hh _=>hh⟩;obtain⟨s,rfl,rfl,hci,Tl,OO,Ac6⟩:=hx;unfold GH Ky;simp only;rcases AQD s.2.length with h0 |h0
 ·have e0:s.2=[]:=AQ7 h0;rw[show decide ((s.2.length:Int)>0)=false from Ic];refine Az.mk ⟨s,rfl,hci,Tl,λv p u q h hm=>?_,Ac6⟩
  grind
 ·have hlen:=hci.len;obtain⟨v,p,ev,hvp⟩:=hci.Bf _ (AK (z :=Aa.zero) (show s.2.length-1<s.2.length by omega));have ev:s.2.getD (s.2.length-1) Aa.zero=nk v p:=ev;rw[show decide ((s.2.length:Int)>0)=true from LL,AZ (x:=(s.2.length:Int)-1) (n:=s.2.length-1),AQx (Bj (by omega)),AQx ⟨by omega,by omega⟩];simp only[AQg,ev];have rT:s.2=s.2.take (s.2.length-1)++[nk v p]:=by
   have:=AY (z :=Aa.zero) (l:=s.2) (k:=s.2.length-1) (by omega)
   grind
  have AGe:CI d f0 (s.1,s.2.take (s.2.length-1)):=⟨hci.le,hci.aX,λx hx=>hci.Bf x (ARw hx),by grind⟩;obtain⟨i1,i2,i3,i4,i5,i6,i7⟩:=kA (nx o v p) (s.1,s.2.take (s.2.length-1)) (λx hx=>hI.nv v p x hx) AGe;have e1:=AcG hd (s:=(s.1,s.2.take (s.2.length-1))) (w:=nx o v p) (a:=a) (o:=o) (λx hx=>hI.nv v p x hx) (by have:=hI.nl v p;omega) AGe;have e1':IA a o (Bs Aa ATI o (nk v p)) ((Bs Aa ATI o (nk v p)).length:Int) 0 d (M d 0 s.1) (s.2.take (s.2.length-1))=_:=e1;rw[e1'];simp only[AQA]at i6;refine Az.mk ⟨(U1 d (s.1,s.2.take (s.2.length-1)) (nx o v p)).2.length+free d (U1 d (s.1,s.2.take (s.2.length-1)) (nx o v p)).1,by omega,_,rfl,rfl,i1,λu q h=>i2 u q (Tl u q h),λu q h=>?_,λh h1 h2=>?_⟩
  ·rcases i5 u q h with h |h
   ·rcases OO u q h with h |h
    ·rw[rT]at h;rcases List.mem_append.1 h with h |h
     ·grind
     ·obtain⟨rfl,rfl⟩:=ZF.1 (List.mem_singleton.1 h);exact .inr λa b hm=>i3 a b hm
    ·exact .inr λa b hm=>(h a b hm).mono i2
   ·grind
  ·exact i7 h (λu q hm=>h2 v p u q hm (Ac6 h h1 h2 v p hvp)) (Ac6 h h1 h2)
theorem r6{d:ASL}{l:ASN}(hd:AE d)(hl:∀x∈l,Kr x):Az (Gr d l) λr=>r=true↔Fz d l:=by
 have hdd:=hd.1;unfold Gr;by_cases hlen:l.length<=60
 ·rw[AQi (by omega:¬(l.length:Int)>60)];refine Az.bind (P:=λt=>(t=.inl ()/\¬∀i,i<l.length->Xo d l i)\/(t=.inr ()/\∀i,i<l.length->Xo d l i)) ?_ λt ht=>?_
  ·have:=BW (f:=BZ d l (l.length:Int)) (λj (_:Unit)=>((if j=0 then 0 else gX l (j-1):Int),(j:Int))) l.length (λj _=>∀k,k<j->Xo d l k) (Q:=λt=>(t=.inl ()/\¬∀i,i<l.length->Xo d l i)\/(t=.inr ()/\∀i,i<l.length->Xo d l i)) (λj _ hj hJ=>?_) (λ_ hJ=>?_) (s0:=()) (λi h=>by omega)
   ·exact this
   ·unfold BZ Dx;have hB:=hl _ (AK (z :=Af.zero) hj);have e1:Fh d (l.getD j Af.zero).2.2.1=some (Ig d (lS l j)):=MX hB.1 (by omega);have e2:Fh d (l.getD j Af.zero).2.2.2.1=some (Ig d (lT l j)):=MX hB.2 (by omega);have e3:(l.getD j Af.zero).1=gX l j:=rfl;rw[C9 hj,AQx (Bj hj),AQg,e1,AQf];obtain⟨c,hc⟩:∃c:Int,c=if j=0 then 0 else gX l (j-1):=⟨_,rfl⟩;have hcb:0<=c/\c<=1000000/\(0<j->c=gX l (j-1))/\(j=0->c=0):=by
     by_cases h0:j=0
     ·omega
     ·rw[AQy h0]at hc;have:=(hJ (j-1) (by omega)).1;omega
    rw[<-hc];obtain⟨b,iK,vA⟩:∃b,Dr d c (Ig d (lS l j)) l (l.length:Int) (j:Int) (l.getD j Af.zero)=some b/\(b=false↔Xo d l j):=by
     unfold Dr Xo;rw[e3,LD,BH (x:=c+1),e2];by_cases h1:c+1<=gX l j/\gX l j<=1000000
     ·rw[AQk h1];by_cases h2:Ig d (lS l j)<0
      ·rw[AQk h2];exact⟨true,rfl,λh=>by grind,λh=>by omega⟩
      ·rw[AQi h2];refine⟨_,rfl,?_⟩
       grind
     ·rw[AQi h1];refine⟨true,rfl,λh=>by grind,λh=>?_⟩;omega
    rw[iK,AQf];cases b with
    |true=>exact Az.mk (.inl ⟨rfl,λh=>by grind⟩)
    |false =>
     rw[Bl hj (by omega)];refine Az.mk ⟨(),rfl,λk hk=>?_⟩
     grind
   ·unfold BZ Dx;rw[DU];exact Az.mk (.inr ⟨rfl,hJ⟩)
  ·rcases ht with ⟨rfl,h⟩|⟨rfl,h⟩
   ·exact Az.mk ⟨λh=>by grind,λh'=>absurd h'.2 h⟩
   ·exact Az.mk ⟨λ_=>⟨hlen,h⟩,λ_=>rfl⟩
 ·rw[AQk (by omega:(l.length:Int)>60)];exact Az.mk ⟨λh=>by grind,λh=>absurd h.1 hlen⟩
theorem rY{d:ASL}{l:ASN}{c:ASV}(hc:YY c)(hl:∀x∈l,Kr x):Az (JU d l (c,())) λr =>
    (r=(false,[])/\¬(AE d/\Dk d c/\Fz d l/\Cz d l))\/(AE d/\Dk d c/\Fz d l/\Cz d l/\∃f,r=(true,Ax d f)/\jL d l c f):=by
 unfold JU L3;obtain⟨r1,e1,q1⟩:=vY (d:=d) hc;rw[e1,AQf];cases r1 with
 |false=>exact Az.mk (.inl ⟨rfl,λh=>by have:=q1.2 ⟨h.1,h.2.1⟩;cases this⟩)
 |true =>
  obtain⟨hd,aj⟩:=q1.1 rfl;obtain⟨r2,e2,q2⟩:=r6 (d:=d) hd hl;simp only[AQZ,AQu,e2,AQf];cases r2 with
  |false=>exact Az.mk (.inl ⟨rfl,λh=>by have:=q2.2 h.2.2.1;cases this⟩)
  |true =>
   have NA:=q2.1 rfl;simp only[AQZ,AQu];refine Az.bind (W3 hd hl NA) λv hv=>?_;rcases hv with ⟨f1,hs,f2⟩|⟨f1,hs⟩
   ·rw[f1,f2];simp only[AQZ,AQu];rw[sB hd aj hc,AQf];simp only;have hln:=NA.1;obtain⟨SA,Qw⟩:=Ajl hd aj;have n0:∀v p,nx ([]:NX) v p=[]:=λv p=>rfl;have vJ:Az (L4 0 (((List.range l.length).map (OH d l)).length:Int) 0 d ((List.range l.length).map (OH d l)) (M d 0 (C0 c)) [] (g0 c d.length)) λr=>∃s o,r=(d,M d 0 s.1,o,s.2)/\LI d (C0 c) s o (8192*l.length)/\(∀i,i<l.length->(∀x∈AA (b1 d l i)++AA (b2 d l i),SD d s.1 x)/\∀p,1<=p->p<(b1 d l i).length->YF (b1 d l i) (b2 d l i) s.1 o p)/\∀h,EC d l h->QU (C0 c) h->QU s.1 h/\NJ d h o:=by
     unfold L4;have:=BW (f:=Ec 0 (((List.range l.length).map (OH d l)).length:Int)) (λk (x:SC×NX)=>((k:Int),d,(List.range l.length).map (OH d l),M d 0 x.1.1,x.2,x.1.2)) l.length
      (λk x=>LI d (C0 c) x.1 x.2 (8192*k)/\(∀i,i<k->(∀y∈AA (b1 d l i)++AA (b2 d l i),SD d x.1.1 y)/\∀p,1<=p->p<(b1 d l i).length->YF (b1 d l i) (b2 d l i) x.1.1 x.2 p)/\∀h,EC d l h->QU (C0 c) h->QU x.1.1 h/\NJ d h x.2)
      (Q:=λr=>∃s o,r=(d,M d 0 s.1,o,s.2)/\LI d (C0 c) s o (8192*l.length)/\(∀i,i<l.length->(∀x∈AA (b1 d l i)++AA (b2 d l i),SD d s.1 x)/\∀p,1<=p->p<(b1 d l i).length->YF (b1 d l i) (b2 d l i) s.1 o p)/\∀h,EC d l h->QU (C0 c) h->QU s.1 h/\NJ d h o)
      (λk x hk hx=>?_) (λx hx=>?_) (s0:=((C0 c,g0 c d.length),[])) ⟨⟨SA,Qw,λv p x hx=>(by rw[n0]at hx;cases hx),λv p=>(by rw[n0];simp)⟩,λi hi=>by omega,λh _ hh=>⟨hh,λv p u q hm=>(by rw[n0]at hm;cases hm)⟩⟩
     ·exact this
     ·obtain⟨j1,j2,j3⟩:=hx;obtain⟨s1,s2,s3,s4,_,_⟩:=PQ hd hl NA hs hk;have eg:((List.range l.length).map (OH d l)).getD k (Ty.zero (.AH ATH (.AH ATH .unit)))=(fN (b1 d l k),fN (b2 d l k),()):=by
       rw[<-s4];exact Gt hk
      unfold Ec Jp;simp only[AQg,eg];obtain⟨s',o',k1,k2,k3,k4,k5,k6,k7⟩:=Amn hd s1 s2 s3 j1 (by omega) (a:=0) (dd:=(List.range l.length).map (OH d l));rw[AQr,AQW,C9 hk,AQv,AQx (Bj hk),k1,AQf,Bl hk (by omega)];refine Az.mk ⟨(s',o'),rfl,by rw[show 8192*(k+1)=8192*k+8192 by omega];exact k2,λi hi=>?_,λh hh Hs=>?_⟩
      ·rcases AQq i k with Bp |aS
       ·obtain⟨a1,a2⟩:=j2 i Bp;refine⟨λy hy=>?_,λp p1 p2=>(a2 p p1 p2).mono k3 k4⟩;have:=a1 y hy;cases y with
        |co b=>trivial
        |va v l n=>exact⟨this.1.mono k3,this.2.mono k3⟩
       ·rw[show i=k by omega];exact⟨k5,k6⟩
      ·obtain⟨a1,a2⟩:=j3 h hh Hs;exact k7 h (hh k hk) a1 a2
     ·unfold Ec Jp;simp only;rw[AQr,AQW,DU,AQu];exact Az.mk ⟨x.1,x.2,rfl,hx⟩
    obtain⟨r,hr,s,o,rfl,j1,j2,j3⟩:=vJ;rw[hr,AQf];unfold L6;simp only;obtain⟨r,hr,s',rfl,k1,k2,k3,k4⟩:=AcH hd j1 (by omega) (a:=0);have Zs:=hd.1;rw[hr,AQf];simp only;rw[AQx (show Ty.row ATJ=true/\(0:Int)<=(d.length:Int)/\(d.length:Int)<=(d.length:Int)/\((24:Nat):Int)*(d.length:Int)<=281474976710656/\(d.length:Int)<=9223372036854775807 from⟨rfl,by omega,by omega,by omega,by omega⟩),YD,AQg,
     zD hd (λv=>by cases hv:s'.1 v 0 with |false=>rfl |true=>have:=(k1.aX v 0 hv).2.1;omega),AQf,AQf]
    refine Az.mk (.inr ⟨hd,aj,NA,hs,s'.1,rfl,k1.le,k1.aX,λi hi=>?_,λh h1 h2=>?_⟩)
    ·obtain⟨s1,s2,s3,_,_,_⟩:=PQ hd hl NA hs hi;obtain⟨a1,a2⟩:=j2 i hi;refine AmN s1 s2 s3 (o:=o) (λy hy=>?_) (λp p1 p2=>(a2 p p1 p2).mono k2 λ_ _ _ h=>h) k3;have:=a1 y hy;cases y with
     |co b=>trivial
     |va v l n=>exact⟨this.1.mono k2,this.2.mono k2⟩
    ·obtain⟨a1,a2⟩:=j3 h h1 h2;exact k4 h a1 a2
   ·rw[f1];exact Az.mk (.inl ⟨rfl,λh=>hs h.2.2.2⟩)
end Go.Proofs.X
