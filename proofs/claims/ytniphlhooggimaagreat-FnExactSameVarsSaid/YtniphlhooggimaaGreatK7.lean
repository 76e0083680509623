import Derived.KernelRfl
import Derived.Test.YtniphlhooggimaaGreatK6
set_option linter.unusedVariables false
set_option linter.unusedSimpArgs false
namespace Go.Proofs.X
open Go Go.Va Go.Proofs.Tryz
set_option maxRecDepth 100000
noncomputable section
abbrev AoB:=eN [] {A4:=[(1,[0,1])],BD:=[(1,[1])]}
def ArH(a:Int) b (c:ATb) d (z_:Int×ASs):=sT 41 [(0,.ptr 0 a [] 0),(1,dI z_.1)] [.box eB,Az z_.2,Az b,Kc c none,C1 d]
def ApS(a:Int) b (c:ATb) d:=λ(e:ASP)=>xE 0 41 [(1,dI e.1)] [.box eB,Az e.2,Az b,Kc c none,C1 d]
def LO(a:Int)(b:ASs)(c:ATb)(d:ASx)(g:Int)(i:ASs):ATC (ASP⊕ASP):=
 if 0<=g/\g<i.length then
 bif (i.getD g.toNat ATl.zero) !=g then
 if 0<=g/\g<i.length then
 if(0:Int)<=(i.getD g.toNat ATl.zero)/\(i.getD g.toNat ATl.zero)<(i.length:Int)then
 if 0<=g/\g<i.length then
 if 0<=g/\g<(i.set g.toNat (i.getD (i.getD g.toNat ATl.zero).toNat ATl.zero)).length then
 some (.inl ((i.set g.toNat (i.getD (i.getD g.toNat ATl.zero).toNat ATl.zero)).getD g.toNat ATl.zero,i.set g.toNat (i.getD (i.getD g.toNat ATl.zero).toNat ATl.zero)))
 else none
 else none
 else none
 else none
 else
 some (.inr (g,i))
 else none
def HP a b c d (z_:Int×ASs):=LO a b c d z_.1 z_.2
def OJ a b c d g i:=fix (HP a b c d) (g,i)
theorem AtM a b c d:A3 AoB 5 1 (code f145) 12 (ArH a b c d) (HP a b c d) (ApS a b c d):=by
 intro _;simp only[HP,LO,ASb];kernel_rfl
def EI(a j:Int)(k b:ASs)(c:ATb)(d:ASx):ATC (Int×ASs×ASs×ATb×ASx):=
 (OJ a b c d j k).bind λe=>some (e.1,e.2,b,c,d)
def Au2:=Cc [.UY,.d ATl] [⟨[.ptr 0 [] 0,.AA [] ATl],[.box (.pr (.k Gl) (.pr (.k Qu) (.pr (.k (.mp 3)) (.pr (.k Ox) (.k .u))))),.row 2 .Av ATl,.row 2 .Av ATl,.map (.sh []) ATl Ah,.row 204 .Av Ad],Int×ASs×ASs×ATb×ASx,λp=>EI p.1.1 p.1.2.1 p.2.2.1 p.2.2.2.1 p.2.2.2.2.1 p.2.2.2.2.2.1,λr=>(dI r.1,[.box eB,Az r.2.1,Az r.2.2.1,Kc r.2.2.2.1 none,C1 r.2.2.2.2])⟩]
theorem uk:Am prog 145 Au2:=As (fn:=f145) ⟨⟨AoB,pk trivial,λ_ R K=>by
 simp(disch:=refine id ?_;kernel_rfl) only[EI,ASc,OJ,AG (AtM _ _ _ _) (K:=A2 AoB f145 5 R K)];kernel_rfl⟩,trivial⟩
abbrev gY:=eN [(144,AEI),(145,Au2),(146,AEJ),(147,AEK)] {BR:=[(8,[0,10,11,12,13,63]),(11,[0,6,7,10,11,12,13]),(14,[0,10,12,109]),(15,{Bc:=[]})],ao:=[(1,[0,2,8,9])],DR:=[(8,[0,10,11,12,13]),(11,[0,10,11,12,13]),(14,[0,10,12,13]),(15,[0,10,12,13])],cO:=[(1,[0,2,4])],WO:=[.mv 0 [3],.Ba 4],jc:=[(0,.row [] 2 ATl true)]}
def ArJ(a:Int) b c d (e:ATb) g i j:=sT 117 [(0,.ptr 0 a [] 0),(10,dI c),(12,dI b),(13,dI d)] (gW e g i j)
def ApU(a b c d:Int)(e:ATb) g (i:ASs) j:=λ(k:ASs)=>xN 117 [] (gW e g k j)
def Ae3(a:Int) c b d (e:ATb) g i j:=sT 117 [(0,.ptr 0 a [] 0),(10,dI c),(12,dI b),(13,dI d)] (gW e g i j)
def yi(a c b:Int)(e:ATb)(g i:ASs)(j:ASx)(m0:Bool):Ex×St:=xN 117 [(0,.ptr 0 a [] 0),(10,dI c),(12,dI b),(109,dB m0)] (gW e g i j)
theorem AtQ a c b d e g i j:Za gY 5 14 (cd f111 2046) (pt 2) (Ae3 a c b d e g i j)=some (yi a c b e g i j ((decide (b>=0))&&(decide (d>=0)))):=by
 refine .trans (b:=
 bif decide (b>=0)then
 some (yi a c b e g i j (decide (d>=0)))
 else
 some (yi a c b e g i j false)) (by kernel_rfl) ?_
 cases (decide (b>=0));rfl;rfl
def Ec(a b c d:Int)(e:ATb)(g i:ASs)(j:ASx):ATC ASs:=
 R3 (Ae3 a c b d e g i j) (
 bif (decide (b>=0))&&(decide (d>=0))then
 if 0<=c/\c<i.length then
 some (i.set c.toNat b)
 else none
 else
 some i)
theorem AtR a b c d e g i j:AP gY 5 15 (code f111) 2046 (ArJ a b c d e g i j) (Ec a b c d e g i j) (ApU a b c d e g i j):=by
 unfold AP;simp(disch:=refine id ?_;kernel_rfl) only[Ec,ASb,GN (AtQ ..) (K:=Ud gY 5 15)];kernel_rfl
def ArI(a:Int) l n o q (s:ATb) t u v:=sT 117 (AjR a l n o q) (gW s t u v)
def ApT(a:Int) l n o q (s:ATb) t u v:=Sum.elim (λ(w:ASs)=>xR 117 [(0,.ptr 0 a [] 0),(6,.AH 5),(7,dB false),(10,dI l),(11,dI n),(12,dI o),(13,dI q)] [.box (.pr (.AH 6) (.pr (.AH 7) (.pr (.mp 3) (.pr (.AH 8) .u)))),.Ba,.Ba,Kc s none,.Ba,Az w,Az t,Az u,C1 v]) (λ(b:Int)=>xN 117 (AjR a l n b q) (gW s t u v))
def Ae2(a:Int) l n o q (s:ATb) t u v:=sT 117 (AjR a l n o q) (gW s t u v)
def yh(a l n o q:Int)(s:ATb)(t u:ASs)(v:ASx)(m0:Bool):Ex×St:=xN 117 [(0,.ptr 0 a [] 0),(10,dI l),(11,dI n),(12,dI o),(13,dI q),(63,dB m0)] (gW s t u v)
theorem AtO a l n o q s t u v:Za gY 5 8 (cd f111 254) (pt 2) (Ae2 a l n o q s t u v)=some (yh a l n o q s t u v ((decide (o>=0))&&(decide (q>=0)))):=by
 refine .trans (b:=
 bif decide (o>=0)then
 some (yh a l n o q s t u v (decide (q>=0)))
 else
 some (yh a l n o q s t u v false)) (by kernel_rfl) ?_
 cases (decide (o>=0));rfl;rfl
def Jm(a l n o q:Int)(s:ATb)(t u:ASs)(v:ASx):ATC (ASs⊕Int):=
 R3 (Ae2 a l n o q s t u v) (
 bif (decide (o>=0))&&(decide (q>=0))then
 (MR (Bv ATl Ah s o) (Bv ATl Ah s q)).bind λx=>bif !x then
 (XK v o q).bind λy=>some (.inl y)
 else
 some (.inr (if q<o then q else o))
 else
 some (.inr o))
theorem AtP a l n o q s t u v:AP gY 5 11 (code f111) 254 (ArI a l n o q s t u v) (Jm a l n o q s t u v) (ApT a l n o q s t u v):=by
 unfold AP;simp(disch:=refine id ?_;kernel_rfl) only[Jm,ASb,GN (AtO ..) (K:=Ud gY 5 11)];kernel_rfl
def Ae1(a:Int) a1 b1 c1 (d1:ATb) e1 g1:=sT 117 [(0,.ptr 0 a [] 0),(2,dI a1),(4,Qs)] [.box eB,Az b1,Az c1,Kc d1 none,C1 e1,.box (dD Ao g1)]
def YI(a:Int) a1 (b1:ASs) (c1:ASs) (d1:ATb) (e1:ASx) (g1:ASn):=λ(i1:(Int×Int×ATb×ASx×ASs×ASs))=>sT 117 [(0,.ptr 0 a [] 0),(2,dI a1),(8,dI i1.1),(9,dI i1.2.1)] [.box (.pr (.AH 5) (.pr (.AH 6) (.pr (.mp 3) (.pr Ox .u)))),.Ba,.Ba,Kc i1.2.2.1 none,C1 i1.2.2.2.1,Az i1.2.2.2.2.1,Az i1.2.2.2.2.2]
def Jl(a a1:Int)(b1 c1:ASs)(d1:ATb)(e1:ASx)(g1:ASn):ATC (Int×Int×ATb×ASx×ASs×ASs):=
 (Bm a g1.1 b1 c1 d1 e1).bind λj1=>(Bm a g1.2.1 j1.2.2.2.1 j1.2.2.2.2 j1.2.1 j1.2.2.1).bind λk1=>some (j1.1,k1.1,k1.2.1,k1.2.2.1,k1.2.2.2.1,k1.2.2.2.2)
theorem AtN(a a1:Int)(b1 c1:ASs)(d1:ATb)(e1:ASx)(g1:ASn):Sj gY 5 1 (code f111) 6 (Ae1 a a1 b1 c1 d1 e1 g1) (Jl a a1 b1 c1 d1 e1 g1) (YI a a1 b1 c1 d1 e1 g1):=by
 unfold Sj;have h:yI gY 5 1 (code f111) (pt 6) (Ae1 a a1 b1 c1 d1 e1 g1) =
 (Bm a g1.1 b1 c1 d1 e1).bind λj1=>(Bm a g1.2.1 j1.2.2.2.1 j1.2.2.2.2 j1.2.1 j1.2.2.1).bind λk1=>(((((Bm a g1.1 b1 c1 d1 e1).bind λl1 =>
(Bm a g1.2.1 l1.2.2.2.1 l1.2.2.2.2 l1.2.1 l1.2.2.1).bind λn1=>mH (YI a a1 b1 c1 d1 e1 g1 (l1.1,n1.1,n1.2.1,n1.2.2.1,n1.2.2.2.1,n1.2.2.2.2)) (YI a a1 b1 c1 d1 e1 g1 (j1.1,k1.1,k1.2.1,k1.2.2.1,k1.2.2.2.1,k1.2.2.2.2))).bind λ_=>(Bm a g1.1 b1 c1 d1 e1).bind λo1 =>
(Bm a g1.2.1 o1.2.2.2.1 o1.2.2.2.2 o1.2.1 o1.2.2.1).bind λq1=>mH (YI a a1 b1 c1 d1 e1 g1 (o1.1,q1.1,q1.2.1,q1.2.2.1,q1.2.2.2.1,q1.2.2.2.2)) (YI a a1 b1 c1 d1 e1 g1 (j1.1,k1.1,k1.2.1,k1.2.2.1,k1.2.2.2.1,k1.2.2.2.2))).bind λ_=>(Bm a g1.1 b1 c1 d1 e1).bind λs1 =>
(Bm a g1.2.1 s1.2.2.2.1 s1.2.2.2.2 s1.2.1 s1.2.2.1).bind λt1=>mH (YI a a1 b1 c1 d1 e1 g1 (s1.1,t1.1,t1.2.1,t1.2.2.1,t1.2.2.2.1,t1.2.2.2.2)) (YI a a1 b1 c1 d1 e1 g1 (j1.1,k1.1,k1.2.1,k1.2.2.1,k1.2.2.2.1,k1.2.2.2.2))).bind λ_=>some (YI a a1 b1 c1 d1 e1 g1 (j1.1,k1.1,k1.2.1,k1.2.2.1,k1.2.2.2.1,k1.2.2.2.2))):=by kernel_rfl
 rw[h];unfold Jl;simp only[ASb,mS,mO];clear h;cases Gb:Bm a g1.1 b1 c1 d1 e1 with
 |none=>rfl
 |some j1 =>
  simp only[APW];cases Pp:Bm a g1.2.1 j1.2.2.2.1 j1.2.2.2.2 j1.2.1 j1.2.2.1 with
  |none=>rfl
  |some k1 =>
   simp only[APW];simp only[Gb,Pp,AQJ,APW,Ja,GX]
def JH(a:Int)(g1:ASn)(a1:Int)(b1 c1:ASs)(d1:ATb)(e1:ASx):ATC (Bool×ATb×ASs×ASs×ASs×ASx):=
 (Jl a a1 b1 c1 d1 e1 g1).bind λi1=>(EI a i1.1 i1.2.2.2.2.1 i1.2.2.2.2.2 i1.2.2.1 i1.2.2.2.1).bind λu1=>(EI a i1.2.1 u1.2.1 u1.2.2.1 u1.2.2.2.1 u1.2.2.2.2).bind λv1=>bif u1.1==v1.1 then
 some (true,v1.2.2.2.1,([]:ASs),v1.2.1,v1.2.2.1,v1.2.2.2.2)
 else
 if(v1.2.2.2.2.length+([(i1.1,i1.2.1,a1,())]:ASx).length)*24<=140737488355328 then
 if(0:Int)<=u1.1/\u1.1<(v1.2.2.1.length:Int)then
 if(0:Int)<=v1.1/\v1.1<(v1.2.2.1.length:Int)then
 (Jm a u1.1 v1.1 (v1.2.2.1.getD u1.1.toNat ATl.zero) (v1.2.2.1.getD v1.1.toNat ATl.zero) v1.2.2.2.1 v1.2.1 v1.2.2.1 (v1.2.2.2.2++([(i1.1,i1.2.1,a1,())]:ASx))).bind (Sum.elim (λw=>some (false,v1.2.2.2.1,w,v1.2.1,v1.2.2.1,v1.2.2.2.2++([(i1.1,i1.2.1,a1,())]:ASx))) (λb=>if(0:Int)<=v1.1/\v1.1<(v1.2.1.length:Int)then
 if(0:Int)<=u1.1/\u1.1<(v1.2.2.1.length:Int)then
 (Ec a b u1.1 (v1.2.2.1.getD v1.1.toNat ATl.zero) v1.2.2.2.1 (v1.2.1.set v1.1.toNat u1.1) (v1.2.2.1.set u1.1.toNat (if(v1.2.2.1.getD v1.1.toNat ATl.zero)>b then(v1.2.2.1.getD v1.1.toNat ATl.zero)else b)) (v1.2.2.2.2++([(i1.1,i1.2.1,a1,())]:ASx))).bind λk=>some (true,v1.2.2.2.1,([]:ASs),v1.2.1.set v1.1.toNat u1.1,k,v1.2.2.2.2++([(i1.1,i1.2.1,a1,())]:ASx))
 else none
 else none))
 else none
 else none
 else none
def AEi:=Cc [.UY,.d Ao,.d ATl] [⟨[.ptr 0 [] 0,.AA [] Ao,.AA [] ATl],[.box (.pr (.k Gl) (.pr (.k Qu) (.pr (.k (.mp 3)) (.pr (.k Ox) (.k .u))))),.row 2 .Av ATl,.row 2 .Av ATl,.map (.sh []) ATl Ah,.row 204 .Av Ad],Bool×ATb×ASs×ASs×ASs×ASx,λp=>JH p.1.1 p.1.2.1 p.1.2.2.1 p.2.2.1 p.2.2.2.1 p.2.2.2.2.1 p.2.2.2.2.2.1,λr=>(.cons (.AH 5) (.cons (dB r.1) .nil),[.box (.pr (.AH 6) (.pr (.AH 7) (.pr (.mp 3) (.pr (.AH 8) .u)))),.Ba,.Ba,Kc r.2.1 none,.Ba,Az r.2.2.1,Az r.2.2.2.1,Az r.2.2.2.2.1,C1 r.2.2.2.2.2])⟩]
theorem AfB:Am prog 111 AEi:=As (fn:=f111) ⟨⟨gY,pk ⟨Af2,uk,Af3,Af4,trivial⟩,λ_ R K=>by
 simp(disch:=refine id ?_;kernel_rfl) only[JH,ASc,W1 (AtN ..) (K:=A2 gY f111 5 R K),A8 (AtP ..) (K:=A2 gY f111 5 R K),A8 (AtR ..) (K:=A2 gY f111 5 R K)];kernel_rfl⟩,trivial⟩
abbrev xS:=eN [(132,AkB),(145,Au2)] {A4:=[(4,{Bc:=[0,5,6,15,16],Ce:=[(5,false,.row [] 150 An true)]})],BD:=[(4,[5])],BR:=[(15,{Bc:=[0,5,6,7,9,11,15,16],Ce:=[(11,true,.row [2,1] 88 ATm true)]}),(16,{Bc:=[0,5,6,7,9,15,16],Ce:=[(5,false,.row [] 150 An true)]})],DR:=[(15,[0,5,6,7,8,9,11,15,16]),(16,[0,5,6,7,8,9,10,15,16])],stl:=[64]}
def ArM(a:Int) b (z_:Int×ASs×ASs×ATb×ASx×ASC×ATf):=sT 72 [(0,.ptr 0 a [] 0),(5,.AH 5),(6,.mp 6),(15,dI b),(16,dI z_.1)] (AjS z_.2.1 z_.2.2.1 z_.2.2.2.1 z_.2.2.2.2.1 z_.2.2.2.2.2.1 z_.2.2.2.2.2.2)
def ApX(a b:Int):=λ(c:ATi)=>xE 0 72 [(5,.AH 5)] [.box eB,Az c.1,Az c.2.1,Kc c.2.2.1 none,C1 c.2.2.2.1,GL c.2.2.2.2]
def ArL(a:Int) d b e (g:ATf) i j k l n (o:ATb) q:=sT 72 [(0,.ptr 0 a [] 0),(5,.AH 5),(6,.mp 6),(7,dI d),(8,dI i),(9,dI j),(10,dB k),(15,dI b),(16,dI d)] (AjS l n o q e g)
def ApW(a:Int) d b (e:ASC) (g:ATf) (i:Int) (j:Int) (k:Bool) l n (o:ATb) q:=λ(s:(Int×ASC×ATf))=>xN 72 [(0,.ptr 0 a [] 0),(5,.AH 5),(6,.mp 6),(7,dI d),(9,dI s.1),(15,dI b),(16,dI d)] (AjS l n o q s.2.1 s.2.2)
def ArK(a:Int) d i b l n (o:ATb) q e t (u:ATf):=sT 72 [(0,.ptr 0 a [] 0),(5,.AH 5),(6,.mp 6),(7,dI d),(8,dI i),(9,dI t),(11,.ptr 7 0 [] 0),(15,dI b),(16,dI d)] [.box eB,Az l,Az n,Kc o none,C1 q,GL e,Aab u none,.box (.pr .zs (.pr (dB false) (.pr ta .u)))]
def ApV(a:Int) d (i:Int) b l n (o:ATb) q e t (u:ATf):=λ(v:(Bool×Int×ASs))=>xN 72 [(0,.ptr 0 a [] 0),(5,.AH 5),(6,.mp 6),(7,dI d),(9,dI t),(11,.ptr 7 0 [] 0),(15,dI b),(16,dI d)] [.box eB,Az l,Az n,Kc o none,C1 q,GL e,Aab u none,.box (.pr .zs (.pr (dB v.1) (.pr (.pr (dI v.2.1) (.pr (.AH 8) .u)) .u))),C9 v.2.2]
def DZ(a d i b:Int)(l n:ASs)(o:ATb)(q:ASx)(e:ASC)(t:Int)(u:ATf):ATC (Bool×Int×ASs):=
 if 0<=i/\i<n.length then
 bif decide ((n.getD i.toNat ATl.zero)>=0)then
 (Dk (Bv ATl Ah o (n.getD i.toNat ATl.zero))).bind λw=>some (true,w.1,w.2)
 else
 some (false,0,([]:ASs))
 else none
theorem AtS a d i b l n o q e t u:AP xS 5 15 (sb (cd f112 244) 462) 110 (ArK a d i b l n o q e t u) (DZ a d i b l n o q e t u) (ApV a d i b l n o q e t u):=by
 unfold AP;simp only[DZ,ASb];kernel_rfl
def Gv(a d b:Int)(e:ASC)(g:ATf)(i j:Int)(k:Bool)(l n:ASs)(o:ATb)(q:ASx):ATC (Int×ASC×ATf):=
 bif !k then
 (DZ a d i b l n o q e (e.length:Int) (Cf ATl ATl g i (e.length:Int))).bind λv=>if(e.length+([(([]:ASs),v.1,(v.2.1,v.2.2,()),())]:ASC).length)*64<=140737488355328 then
 some ((e.length:Int),e++([(([]:ASs),v.1,(v.2.1,v.2.2,()),())]:ASC),Cf ATl ATl g i (e.length:Int))
 else none
 else
 some (j,e,g)
theorem AtT a d b e g i j k l n o q:AP xS 5 16 (cd f112 244) 462 (ArL a d b e g i j k l n o q) (Gv a d b e g i j k l n o q) (ApW a d b e g i j k l n o q):=by
 unfold AP;simp(disch:=refine id ?_;kernel_rfl) only[Gv,ASb,A8 (AtS ..) (K:=Ud xS 5 16)];kernel_rfl
def I1(a b d:Int)(x y:ASs)(a1:ATb)(b1:ASx)(e:ASC)(g:ATf):ATC ((Int×ASs×ASs×ATb×ASx×ASC×ATf)⊕ATi):=
 bif decide (d<b)then
 (EI a d x y a1 b1).bind λc1=>(Gv a d b e g c1.1 (Bv ATl ATl g c1.1) (Uf ATl ATl g c1.1) c1.2.1 c1.2.2.1 c1.2.2.2.1 c1.2.2.2.2).bind λs=>if(0:Int)<=s.1/\s.1<(s.2.1.length:Int)then
 if((s.2.1.getD s.1.toNat An.zero).1.length+([d]:ASs).length)*8<=140737488355328 then
 if(0:Int)<=s.1/\s.1<(s.2.1.length:Int)then
 if s.1=s.1 then
 some (.inl (wI (d+1),c1.2.1,c1.2.2.1,c1.2.2.2.1,c1.2.2.2.2,s.2.1.set s.1.toNat ((s.2.1.getD s.1.toNat An.zero).1++([d]:ASs),(s.2.1.getD s.1.toNat An.zero).2),s.2.2))
 else none
 else none
 else none
 else none
 else
 some (.inr (x,y,a1,b1,e))
def Fc a b (z_:Int×ASs×ASs×ATb×ASx×ASC×ATf):=I1 a b z_.1 z_.2.1 z_.2.2.1 z_.2.2.2.1 z_.2.2.2.2.1 z_.2.2.2.2.2.1 z_.2.2.2.2.2.2
def Kx a b d x y a1 b1 e g:=fix (Fc a b) (d,x,y,a1,b1,e,g)
theorem AtU a b:A3 xS 5 4 (code f112) 122 (ArM a b) (Fc a b) (ApX a b):=by
 intro _;simp(disch:=refine id ?_;kernel_rfl) only[-eq_self,Fc,I1,ASb,A8 (AtT ..) (K:=Kk xS 5 4)];kernel_rfl
def Gi(a b:Int)(d1 e1:ASs)(g1:ATb)(i1:ASx):ATC ATi:=
 (Kx a b 0 d1 e1 g1 i1 ([]:ASC) ([]:ATB ASR)).bind λc=>some (c.1,c.2.1,c.2.2.1,c.2.2.2.1,c.2.2.2.2)
def AEj:=Cc [.UY,.d ATl] [⟨[.ptr 0 [] 0,.AA [] ATl],[.box (.pr (.k Gl) (.pr (.k Qu) (.pr (.k (.mp 3)) (.pr (.k Ox) (.k .u))))),.row 2 .Av ATl,.row 2 .Av ATl,.map (.sh []) ATl Ah,.row 204 .Av Ad],ATi,λp=>Gi p.1.1 p.1.2.1 p.2.2.1 p.2.2.2.1 p.2.2.2.2.1 p.2.2.2.2.2.1,λr=>(.AH 5,[.box eB,Az r.1,Az r.2.1,Kc r.2.2.1 none,C1 r.2.2.2.1,GL r.2.2.2.2])⟩]
theorem AfC:Am prog 112 AEj:=As (fn:=f112) ⟨⟨xS,pk ⟨jL,uk,trivial⟩,λ_ R K=>by
 simp(disch:=refine id ?_;kernel_rfl) only[Gi,ASc,Kx,AG (AtU _ _) (K:=A2 xS f112 5 R K)];kernel_rfl⟩,trivial⟩
abbrev xT:=eN [(109,AEg),(110,AEh),(111,AEi),(112,AEj)] {A4:=[(4,{Bc:=[0,2,3,4,25,26,27],Ce:=[(4,true,.row [3] 204 Ad true)]}),(8,{Bc:=[0,2,3,4,6,25,26,27,37,38,39],Ce:=[(4,true,.row [3] 204 Ad true)]})],BD:=[(4,[0,2,3,4]),(8,[0,2,3,4,25,26,27])],BR:=[(15,{Bc:=[0,2,3,4,25,26,27],Ce:=[(4,true,.row [3] 204 Ad true)]})],DR:=[(15,[0,2,3,4,25,26,27])],jc:=[(0,.row [1] 150 An true),(0,.row [2] 2 ATl true)]}
def ArP(a:Int) b (c:Int) d (z_:Int×ASw×ASy×ATg×ASG×ASx×ATc×ASs×ASs×ATb×ASx):=sT 67 (pX a c b d z_.1) (xr z_.2.1 z_.2.2.1 z_.2.2.2.1 z_.2.2.2.2.1 z_.2.2.2.2.2.1 z_.2.2.2.2.2.2.1 z_.2.2.2.2.2.2.2.1 z_.2.2.2.2.2.2.2.2.1 z_.2.2.2.2.2.2.2.2.2.1 z_.2.2.2.2.2.2.2.2.2.2)
def Ap0(a:Int)(b:ASy)(c d:Int):=Sum.elim (λ(e:ATj)=>xR 67 [(0,.ptr 0 a [] 0),(2,Qs),(3,X6),(4,.ptr 7 c [] 0)] (AjT e.1 e.2.1 e.2.2.1 e.2.2.2.1 e.2.2.2.2.1 e.2.2.2.2.2.1 e.2.2.2.2.2.2.1 e.2.2.2.2.2.2.2.1 e.2.2.2.2.2.2.2.2.1 e.2.2.2.2.2.2.2.2.2.1 e.2.2.2.2.2.2.2.2.2.2)) (λ(g:ATk)=>xE 0 67 [(0,.ptr 0 a [] 0),(2,Qs),(3,X6),(4,.ptr 7 c [] 0)] (xr g.1 g.2.1 g.2.2.1 g.2.2.2.1 g.2.2.2.2.1 g.2.2.2.2.2.1 g.2.2.2.2.2.2.1 g.2.2.2.2.2.2.2.1 g.2.2.2.2.2.2.2.2.1 g.2.2.2.2.2.2.2.2.2))
def ArO(a c:Int) b d i j k l n o (q:ATc) s t (u:ATb) v:=sT 67 (pX a c b d i) (xr j k l n o q s t u v)
def ApZ(a c:Int) b d i (j:ASw) (k:ASy) (l:ATg) (n:ASG) (o:ASx) (q:ATc) (s:ASs) (t:ASs) (u:ATb) (v:ASx):=Sum.elim (λ(w:ATk)=>xN 67 (pX a c b d i) (xr w.1 w.2.1 w.2.2.1 w.2.2.2.1 w.2.2.2.2.1 w.2.2.2.2.2.1 w.2.2.2.2.2.2.1 w.2.2.2.2.2.2.2.1 w.2.2.2.2.2.2.2.2.1 w.2.2.2.2.2.2.2.2.2)) (λ(x:ATj)=>xR 67 (pX a c b d i) (AjT x.1 x.2.1 x.2.2.1 x.2.2.2.1 x.2.2.2.2.1 x.2.2.2.2.2.1 x.2.2.2.2.2.2.1 x.2.2.2.2.2.2.2.1 x.2.2.2.2.2.2.2.2.1 x.2.2.2.2.2.2.2.2.2.1 x.2.2.2.2.2.2.2.2.2.2))
def ArN(a c:Int) b d i y a1 b1 c1 d1 e1 g1 (i1:ATc) j1 (z_:Int×ASs×ASs×ATb×ASx):=sT 67 [(0,.ptr 0 a [] 0),(2,Qs),(3,X6),(4,.ptr 7 c [] 0),(6,sY),(25,Bw b),(26,dI d),(27,dI i),(37,Z6 y),(38,dI a1),(39,dI z_.1)] [.box (.pr (Ar b1) (.pr (Bw c1) AjV)),C8 d1,Bl e1,Ey g1,I8 i1 none,.box xw,.box (.pr Zt xt),.box Aop,.box (dZ j1),Az z_.2.1,Az z_.2.2.1,Kc z_.2.2.2.1 none,C1 z_.2.2.2.2]
def ApY(a c:Int) b d i (y:ASD) (a1:Int) b1 c1 d1 e1 g1 (i1:ATc) (j1:ASh):=Sum.elim (λ(k1:(ASs×ASs×ASs×ATb×ASx))=>xR 67 (pX a c b d i) (AjT b1 c1 d1 e1 g1 i1 k1.1 k1.2.1 k1.2.2.1 k1.2.2.2.1 k1.2.2.2.2)) (λ(l1:(ASs×ASs×ATb×ASx))=>xE 2 67 (pX a c b d i) (xr b1 c1 d1 e1 g1 i1 l1.1 l1.2.1 l1.2.2.1 l1.2.2.2))
def DC(a c:Int)(b:ASy)(d i:Int)(y:ASD)(a1:Int)(b1:ASw)(c1:ASy)(d1:ATg)(e1:ASG)(g1:ASx)(i1:ATc)(j1:ASh)(n1:Int)(o1 q1:ASs)(s1:ATb)(t1:ASx):ATC ((Int×ASs×ASs×ATb×ASx)⊕((ASs×ASs×ASs×ATb×ASx)⊕(ASs×ASs×ATb×ASx))):=
 bif decide (n1<a1)then
 if 0<=n1/\n1<y.length then
 (JH c (y.getD n1.toNat Ao.zero) j1.1 o1 q1 s1 t1).bind λu1=>bif !u1.1 then
 some (.inr (.inl (u1.2.2.1,u1.2.2.2.1,u1.2.2.2.2.1,u1.2.1,u1.2.2.2.2.2)))
 else
 some (.inl (wI (n1+1),u1.2.2.2.1,u1.2.2.2.2.1,u1.2.1,u1.2.2.2.2.2))
 else none
 else
 some (.inr (.inr (o1,q1,s1,t1)))
def Cz a c b d i y a1 b1 c1 d1 e1 g1 i1 j1 (z_:Int×ASs×ASs×ATb×ASx):=DC a c b d i y a1 b1 c1 d1 e1 g1 i1 j1 z_.1 z_.2.1 z_.2.2.1 z_.2.2.2.1 z_.2.2.2.2
def Dd a c b d i y a1 b1 c1 d1 e1 g1 i1 j1 n1 o1 q1 s1 t1:=fix (Cz a c b d i y a1 b1 c1 d1 e1 g1 i1 j1) (n1,o1,q1,s1,t1)
theorem AtV a c b d i y a1 b1 c1 d1 e1 g1 i1 j1:A3 xT 5 8 (sb (cd f73 244) 14) 46 (ArN a c b d i y a1 b1 c1 d1 e1 g1 i1 j1) (Cz a c b d i y a1 b1 c1 d1 e1 g1 i1 j1) (ApY a c b d i y a1 b1 c1 d1 e1 g1 i1 j1):=by
 intro _;simp only[Cz,DC,ASb];kernel_rfl
def De(a c:Int)(b:ASy)(d i:Int)(j:ASw)(k:ASy)(l:ATg)(n:ASG)(o:ASx)(q:ATc)(s t:ASs)(u:ATb)(v:ASx):ATC (ATk⊕ATj):=
 if 0<=i/\i<b.length then
 bif !(b.getD i.toNat Ae.zero).2.1 then
 some (.inl (j,k,l,n,o,q,s,t,u,v))
 else
 (Is a i j k l n o q).bind λv1=>(Dd a c b d i v1.1 (v1.1.length:Int) v1.2.1 v1.2.2.1 v1.2.2.2.1 v1.2.2.2.2.1 v1.2.2.2.2.2.1 v1.2.2.2.2.2.2 (b.getD i.toNat Ae.zero) 0 s t u v).bind (Sum.elim (λk1=>some (.inr (v1.2.1,v1.2.2.1,v1.2.2.2.1,v1.2.2.2.2.1,v1.2.2.2.2.2.1,v1.2.2.2.2.2.2,k1.1,k1.2.1,k1.2.2.1,k1.2.2.2.1,k1.2.2.2.2))) (λl1=>some (.inl (v1.2.1,v1.2.2.1,v1.2.2.2.1,v1.2.2.2.2.1,v1.2.2.2.2.2.1,v1.2.2.2.2.2.2,l1.1,l1.2.1,l1.2.2.1,l1.2.2.2))))
 else none
theorem AtW a c b d i j k l n o q s t u v:AP xT 5 15 (cd f73 244) 14 (ArO a c b d i j k l n o q s t u v) (De a c b d i j k l n o q s t u v) (ApZ a c b d i j k l n o q s t u v):=by
 unfold AP;simp(disch:=refine id ?_;kernel_rfl) only[De,ASb,Dd,AG (AtV _ _ _ _ _ _ _ _ _ _ _ _ _ _) (K:=Ud xT 5 15)];kernel_rfl
def CB(a:Int)(b:ASy)(c d i:Int)(j:ASw)(k:ASy)(l:ATg)(n:ASG)(o:ASx)(q:ATc)(s t:ASs)(u:ATb)(v:ASx):ATC ((Int×ASw×ASy×ATg×ASG×ASx×ATc×ASs×ASs×ATb×ASx)⊕(ATj⊕ATk)):=
 bif decide (i<d)then
 (De a c b d i j k l n o q s t u v).bind (Sum.elim (λw=>some (.inl (wI (i+1),w.1,w.2.1,w.2.2.1,w.2.2.2.1,w.2.2.2.2.1,w.2.2.2.2.2.1,w.2.2.2.2.2.2.1,w.2.2.2.2.2.2.2.1,w.2.2.2.2.2.2.2.2.1,w.2.2.2.2.2.2.2.2.2))) (λx=>some (.inr (.inl (x.1,x.2.1,x.2.2.1,x.2.2.2.1,x.2.2.2.2.1,x.2.2.2.2.2.1,x.2.2.2.2.2.2.1,x.2.2.2.2.2.2.2.1,x.2.2.2.2.2.2.2.2.1,x.2.2.2.2.2.2.2.2.2.1,x.2.2.2.2.2.2.2.2.2.2)))))
 else
 some (.inr (.inr (j,k,l,n,o,q,s,t,u,v)))
def B8 a b c d (z_:Int×ASw×ASy×ATg×ASG×ASx×ATc×ASs×ASs×ATb×ASx):=CB a b c d z_.1 z_.2.1 z_.2.2.1 z_.2.2.2.1 z_.2.2.2.2.1 z_.2.2.2.2.2.1 z_.2.2.2.2.2.2.1 z_.2.2.2.2.2.2.2.1 z_.2.2.2.2.2.2.2.2.1 z_.2.2.2.2.2.2.2.2.2.1 z_.2.2.2.2.2.2.2.2.2.2
def Cv a b c d i j k l n o q s t u v:=fix (B8 a b c d) (i,j,k,l,n,o,q,s,t,u,v)
theorem AtX a b c d:A3 xT 5 4 (code f73) 122 (ArP a b c d) (B8 a b c d) (Ap0 a b c d):=by
 intro _;simp(disch:=refine id ?_;kernel_rfl) only[B8,CB,ASb,A8 (AtW ..) (K:=Kk xT 5 4)];kernel_rfl
def Ho(a:Int)(w1:ASw)(b:ASy)(x1:ATg)(y1:ASG)(a2:ASx)(b2:ATc):ATC (ASw×ASy×ATg×ASG×ASx×ATc×ASC×ASs):=
 (M0 (a2.length:Int)).bind λc2=>(Cv a b c2.1 (b.length:Int) 0 w1 b x1 y1 a2 b2 c2.2.1 c2.2.2.1 c2.2.2.2 ([]:ASx)).bind (Sum.elim (λe=>some (e.1,e.2.1,e.2.2.1,e.2.2.2.1,e.2.2.2.2.1,e.2.2.2.2.2.1,([]:ASC),e.2.2.2.2.2.2.1)) (λg=>(Gi c2.1 (g.2.2.2.2.1.length:Int) g.2.2.2.2.2.2.1 g.2.2.2.2.2.2.2.1 g.2.2.2.2.2.2.2.2.1 g.2.2.2.2.2.2.2.2.2).bind λd2=>some (g.1,g.2.1,g.2.2.1,g.2.2.2.1,g.2.2.2.2.1,g.2.2.2.2.2.1,d2.2.2.2.2,([]:ASs))))
def c73:=Cc [.UY] [⟨[.ptr 0 [] 0],[.box (.pr (.AA [] ATr) (.pr (.AA [] ATt) (.pr (.k Gl) (.pr (.pr (.k Qu) (.k .u)) (.pr (.k (.AH 3)) (.pr (.k (.mp 4)) (.k .u))))))),.row 222 .Av (.AE ATq (.AE ATq .unit)),.row 78 .Av ATo,.row 152 .Av Ad,.map .Av Aa ATl],ASw×ASy×ATg×ASG×ASx×ATc×ASC×ASs,λp=>Ho p.1.1 p.2.1.1 p.2.1.2.1 p.2.2.1 p.2.2.2.1 p.2.2.2.2.1 p.2.2.2.2.2.1,λr=>(.pr Zt Am1,[.box (.pr (Ar r.1) (.pr (Bw r.2.1) AjV)),C8 r.2.2.1,Bl r.2.2.2.1,Ey r.2.2.2.2.1,I8 r.2.2.2.2.2.1 none,GL r.2.2.2.2.2.2.1,Az r.2.2.2.2.2.2.2])⟩]
theorem Aln:Am prog 73 c73:=As (fn:=f73) ⟨⟨xT,pk ⟨Afz,AfA,AfB,AfC,trivial⟩,λ_ R K=>by
 simp(disch:=refine id ?_;kernel_rfl) only[Ho,ASc,Cv,AG (AtX _ _ _ _) (K:=A2 xT f73 5 R K)];kernel_rfl⟩,trivial⟩
abbrev AHN:=eN [] {}
def O1(a:ASk)(b:Int):ATC Int:=
 if 0<=(wI (Int.tdiv b 64))/\(wI (Int.tdiv b 64))<a.2.1.length then
 if(Int.tmod b 64)<(0:Int)then none else
 some (ib .u64 (SG .u64 (a.2.1.getD (wI (Int.tdiv b 64)).toNat ATm.zero) (Int.tmod b 64)) 1)
 else none
def c74:=Cc [.d Ah,.d ATl] [⟨[.AA [] Ah,.AA [] ATl],[],Int,λp=>O1 p.1.1 p.1.2.1,λr=>(dD ATm r,[])⟩]
theorem Alo:Am prog 74 c74:=As (fn:=f74) ⟨⟨AHN,pk trivial,λ_ R K=>by
 simp only[O1,ASc];kernel_rfl⟩,trivial⟩
abbrev jr:=eN [(74,c74)] {vV:=[(79,90)],A4:=[(3,[0,3,5,24,25,26]),(8,[0,5,39,40,41]),(11,[0,5,8,9,39,40,41,47,48,49]),(15,[0,5,8,9,12,39,40,41,47,48,49,61,62])],BD:=[(3,[0,3,5]),(8,[5]),(11,[0,5,39,40,41]),(15,[0,5,8,9,39,40,41,47,48,49])],BR:=[(20,[0,5,8,9,12,13,14,39,40,41,47,48,49,61,62])],DR:=[(20,[0,5,8,9,12,13,14,39,40,41,47,48,49,61,62])]}
def ArU(a:Int) b c d e g i j (k:ATc) l (z_:Int×ASK):=sT 90 [(0,.ptr 0 a [] 0),(5,.AH 7),(39,.AH 2),(40,dI l),(41,dI z_.1)] (AjU b c d e g i j k z_.2)
def Ap5(a:Int) b c d e g i j (k:ATc) (l:Int):=λ(n:ASK)=>xE 2 90 [(5,.AH 7)] (AjU b c d e g i j k n)
def ArT(a:Int) o l b c d e g i j (k:ATc) q s t (z_:Int×ASK):=sT 90 (Aol a o l o q s z_.1) [.box (.pr (Ar b) (.pr (Bw c) s9)),Bl d,GL e,Az g,C8 i,Ey j,I8 k none,HX z_.2,.box (.AA [2] An t)]
def Ap4(a:Int) o l b c d e g i j (k:ATc) (q:ASs) (s:Int) (t:ASm):=λ(u:ASK)=>xE 4 90 [(0,.ptr 0 a [] 0),(5,.AH 7),(39,.AH 2),(40,dI l),(41,dI o)] (AjU b c d e g i j k u)
def ArS(a:Int) o l q s v b c d e g i j (k:ATc) t w x (z_:Int×ASK):=sT 90 [(0,.ptr 0 a [] 0),(5,.AH 7),(8,dI o),(9,sY),(12,.ptr 9 0 [] 0),(39,.AH 2),(40,dI l),(41,dI o),(47,.AA [2] ATo q),(48,dI s),(49,dI v),(61,dI w),(62,dI z_.1)] [.box (.pr (Ar b) (.pr (Bw c) s9)),Bl d,GL e,Az g,C8 i,Ey j,I8 k none,HX z_.2,.box (.AA [2] An t),.box (EA x)]
def Ap3(a:Int) o l q s v b c d e g i j (k:ATc) t (w:Int) (x:ASg):=λ(y:ASK)=>xE 6 90 (Aol a o l o q s v) [.box (.pr (Ar b) (.pr (Bw c) s9)),Bl d,GL e,Az g,C8 i,Ey j,I8 k none,HX y,.box (.AA [2] An t)]
def ArR(a:Int) o a1 l q s v w b c d e g i j (k:ATc) b1 t x:=sT 90 (Aom a o a1 l o q s v w a1) [.box (.pr (Ar b) (.pr (Bw c) s9)),Bl d,GL e,Az g,C8 i,Ey j,I8 k none,HX b1,.box (.AA [2] An t),.box (EA x),.box (.pr (dI o) (.pr (dI a1) (.pr (dD ATm 0) .u)))]
def Ap2(a:Int) o a1 l q s v w b c d e g i j (k:ATc) b1 t x:=λ(c1:(Int×Int×Int))=>xN 90 (Aom a o a1 l o q s v w a1) [.box (.pr (Ar b) (.pr (Bw c) s9)),Bl d,GL e,Az g,C8 i,Ey j,I8 k none,HX b1,.box (.AA [2] An t),.box (EA x),.box (.pr (dI c1.1) (.pr (dI c1.2.1) (.pr (dD ATm c1.2.2) .u)))]
def Ji(a o a1 l:Int)(q:ASs)(s v w:Int)(b:ASw)(c:ASy)(d:ASG)(e:ASC)(g:ASs)(i:ATg)(j:ASx)(k:ATc)(b1:ASK)(t:ASm)(x:ASg):ATC (Int×Int×Int):=
 bif t.2.1 then
 (O1 t.2.2.1 a1).bind λd1=>some (-1,0,d1)
 else
 some (o,a1,0)
theorem AtZ a o a1 l q s v w b c d e g i j k b1 t x:AP jr 7 20 (sb (sb (cd f37 244) 460) 924) 230 (ArR a o a1 l q s v w b c d e g i j k b1 t x) (Ji a o a1 l q s v w b c d e g i j k b1 t x) (Ap2 a o a1 l q s v w b c d e g i j k b1 t x):=by
 unfold AP;simp only[Ji,ASb];kernel_rfl
def LK(a o l:Int)(q:ASs)(s v:Int)(b:ASw)(c:ASy)(d:ASG)(e:ASC)(g:ASs)(i:ATg)(j:ASx)(k:ATc)(t:ASm)(w:Int)(x:ASg)(a1:Int)(b1:ASK):ATC ((Int×ASK)⊕ASK):=
 bif decide (a1<w)then
 (Ji a o a1 l q s v w b c d e g i j k b1 t x).bind λc1=>if(0:Int)<=x.1/\x.1<(b1.length:Int)then
 if(0:Int)<=(wI (x.2.1+a1))/\(wI (x.2.1+a1))<(b1.getD x.1.toNat ATw.zero).length then
 some (.inl (wI (a1+1),b1.set x.1.toNat ((b1.getD x.1.toNat ATw.zero).set (wI (x.2.1+a1)).toNat (c1.1,c1.2.1,c1.2.2,()))))
 else none
 else none
 else
 some (.inr b1)
def HM a o l q s v b c d e g i j k t w x (z_:Int×ASK):=LK a o l q s v b c d e g i j k t w x z_.1 z_.2
def Jj a o l q s v b c d e g i j k t w x a1 b1:=fix (HM a o l q s v b c d e g i j k t w x) (a1,b1)
theorem At0 a o l q s v b c d e g i j k t w x:A3 jr 7 15 (sb (cd f37 244) 460) 462 (ArS a o l q s v b c d e g i j k t w x) (HM a o l q s v b c d e g i j k t w x) (Ap3 a o l q s v b c d e g i j k t w x):=by
 intro _;simp(disch:=refine id ?_;kernel_rfl) only[HM,LK,ASb,A8 (AtZ ..) (K:=Kk jr 7 15)];kernel_rfl
def LL(a o l:Int)(b:ASw)(c:ASy)(d:ASG)(e:ASC)(g:ASs)(i:ATg)(j:ASx)(k:ATc)(q:ASs)(s:Int)(t:ASm)(v:Int)(e1:ASK):ATC ((Int×ASK)⊕ASK):=
 bif decide (v<s)then
 if 0<=v/\v<q.length then
 if(0:Int)<=(q.getD v.toNat ATl.zero)/\(q.getD v.toNat ATl.zero)<(j.length:Int)then
 (Jj a o l q s v b c d e g i j k t (j.getD (q.getD v.toNat ATl.zero).toNat Ad.zero).2.2.1 (j.getD (q.getD v.toNat ATl.zero).toNat Ad.zero) 0 e1).bind λy=>some (.inl (wI (v+1),y))
 else none
 else none
 else
 some (.inr e1)
def HN a o l b c d e g i j k q s t (z_:Int×ASK):=LL a o l b c d e g i j k q s t z_.1 z_.2
def OH a o l b c d e g i j k q s t v e1:=fix (HN a o l b c d e g i j k q s t) (v,e1)
theorem At1 a o l b c d e g i j k q s t:A3 jr 7 11 (cd f37 244) 230 (ArT a o l b c d e g i j k q s t) (HN a o l b c d e g i j k q s t) (Ap4 a o l b c d e g i j k q s t):=by
 intro _;simp(disch:=refine id ?_;kernel_rfl) only[HN,LL,ASb,Jj,AG (At0 _ _ _ _ _ _ _ _ _ _ _ _ _ _ _ _ _) (K:=Kk jr 7 11)];kernel_rfl
def LN(a:Int)(b:ASw)(c:ASy)(d:ASG)(e:ASC)(g:ASs)(i:ATg)(j:ASx)(k:ATc)(l o:Int)(g1:ASK):ATC ((Int×ASK)⊕ASK):=
 bif decide (o<l)then
 if 0<=o/\o<e.length then
 (OH a o l b c d e g i j k (e.getD o.toNat An.zero).1 ((e.getD o.toNat An.zero).1.length:Int) (e.getD o.toNat An.zero) 0 g1).bind λu=>some (.inl (wI (o+1),u))
 else none
 else
 some (.inr g1)
def HO a b c d e g i j k l (z_:Int×ASK):=LN a b c d e g i j k l z_.1 z_.2
def OI a b c d e g i j k l o g1:=fix (HO a b c d e g i j k l) (o,g1)
theorem At2 a b c d e g i j k l:A3 jr 7 8 (code f37) 122 (ArU a b c d e g i j k l) (HO a b c d e g i j k l) (Ap5 a b c d e g i j k l):=by
 intro _;simp(disch:=refine id ?_;kernel_rfl) only[HO,LN,ASb,OH,AG (At1 _ _ _ _ _ _ _ _ _ _ _ _ _ _) (K:=Kk jr 7 8)];kernel_rfl
def ArQ(a:Int) b c d e g i j (k:ATc) i1 (z_:Int×ASK):=sT 90 [(0,.ptr 0 a [] 0),(3,.ptr 7 0 [] 0),(5,.AH 8),(24,Ar b),(25,dI i1),(26,dI z_.1)] [.box (.pr (Ar b) (.pr (Bw c) s9)),Bl d,GL e,Az g,C8 i,Ey j,I8 k none,.box (.pr (.pr Gl .u) pY),HX z_.2]
def Ap1(a:Int) b c d e g i j (k:ATc) (i1:Int):=λ(j1:ASK)=>xE 0 90 [(0,.ptr 0 a [] 0),(3,.ptr 7 0 [] 0),(5,.AH 8)] [.box (.pr (Ar b) (.pr (Bw c) s9)),Bl d,GL e,Az g,C8 i,Ey j,I8 k none,.box (.pr (.pr Gl .u) pY),HX j1]
def LJ(a:Int)(b:ASw)(c:ASy)(d:ASG)(e:ASC)(g:ASs)(i:ATg)(j:ASx)(k:ATc)(i1 k1:Int)(l1:ASK):ATC ((Int×ASK)⊕ASK):=
 bif decide (k1<i1)then
 if 0<=k1/\k1<b.length then
 if Ty.row Ap=true/\(0:Int)<=(b.getD k1.toNat Ab.zero).2.1/\(b.getD k1.toNat Ab.zero).2.1<=(b.getD k1.toNat Ab.zero).2.1/\((24:Nat):Int)*(b.getD k1.toNat Ab.zero).2.1<=(281474976710656:Int)/\(b.getD k1.toNat Ab.zero).2.1<=(9223372036854775807:Int)then
 if 0<=k1/\k1<l1.length then
 some (.inl (wI (k1+1),l1.set k1.toNat (List.replicate (b.getD k1.toNat Ab.zero).2.1.toNat (0,0,0,()))))
 else none
 else none
 else none
 else
 some (.inr l1)
def HK a b c d e g i j k i1 (z_:Int×ASK):=LJ a b c d e g i j k i1 z_.1 z_.2
def OG a b c d e g i j k i1 k1 l1:=fix (HK a b c d e g i j k i1) (k1,l1)
theorem AtY a b c d e g i j k i1:A3 jr 7 3 (code f37) 58 (ArQ a b c d e g i j k i1) (HK a b c d e g i j k i1) (Ap1 a b c d e g i j k i1):=by
 intro _;simp only[HK,LJ,ASb];kernel_rfl
def JG(a:Int)(b:ASw)(c:ASy)(d:ASG)(e:ASC)(g:ASs)(i:ATg)(j:ASx)(k:ATc):ATC (ASw×ASy×ASG×ASC×ASs×ATg×ASx×ATc×ASK):=
 if Ty.row ATw=true/\(0:Int)<=(b.length:Int)/\(b.length:Int)<=(b.length:Int)/\((24:Nat):Int)*(b.length:Int)<=(281474976710656:Int)/\(b.length:Int)<=(9223372036854775807:Int)then
 (OG a b c d e g i j k (b.length:Int) 0 (List.replicate (b.length:Int).toNat ([]:ASE))).bind λj1=>(OI a b c d e g i j k (e.length:Int) 0 j1).bind λn=>some (b,c,d,e,g,i,j,k,n)
 else none
def c37:=Cc [.UY,.UY] [⟨[.ptr 0 [] 0,.pr (.pr (.k Gl) (.k .u)) (.pr (.k Qu) (.pr (.k (.AH 3)) (.k .u)))],[.box (.pr (.AA [] ATr) (.pr (.AA [] ATt) (.pr (.k Ox) (.pr (.pr (.k Gl) (.k .u)) (.pr (.k (.AH 5)) (.pr (.k (.mp 6)) (.k .u))))))),.row 78 .Av ATo,.row 150 .Av An,.row 2 .Av ATl,.row 222 .Av (.AE ATq (.AE ATq .unit)),.row 152 .Av Ad,.map .Av Aa ATl],ASw×ASy×ASG×ASC×ASs×ATg×ASx×ATc×ASK,λp=>JG p.1.1 p.2.1.1 p.2.1.2.1 p.2.2.1 p.2.2.2.1 p.2.2.2.2.1 p.2.2.2.2.2.1 p.2.2.2.2.2.2.1 p.2.2.2.2.2.2.2.1,λr=>(.AH 7,[.box (.pr (Ar r.1) (.pr (Bw r.2.1) s9)),Bl r.2.2.1,GL r.2.2.2.1,Az r.2.2.2.2.1,C8 r.2.2.2.2.2.1,Ey r.2.2.2.2.2.2.1,I8 r.2.2.2.2.2.2.2.1 none,HX r.2.2.2.2.2.2.2.2])⟩]
theorem AkZ:Am prog 37 c37:=As (fn:=f37) ⟨⟨jr,pk ⟨Alo,trivial⟩,λ_ R K=>by
 simp(disch:=refine id ?_;kernel_rfl) only[JG,ASc,OG,AG (AtY _ _ _ _ _ _ _ _ _ _) (K:=A2 jr f37 7 R K),OI,AG (At2 _ _ _ _ _ _ _ _ _ _) (K:=A2 jr f37 7 R K)];kernel_rfl⟩,trivial⟩
abbrev AoC:=eN [] {A4:=[(4,[0,1,12,13])],BD:=[(4,[4])]}
def ArV a b c (z_:Int):=sT 26 [(0,dD ATw a),(1,dD ATw b),(12,dI c),(13,dI z_)] []
def Ap6(a b:ASE)(c:Int):=Sum.elim (λ(d:Unit)=>xR 26 fW []) (λ(e:Unit)=>xE 0 26 [] [])
def Rn(a b:ASE)(c g:Int):ATC (Int⊕(Unit⊕Unit)):=
 bif decide (g<c)then
 if 0<=g/\g<a.length then
 if 0<=g/\g<b.length then
 bif !(OA Ap (a.getD g.toNat Ap.zero) (b.getD g.toNat Ap.zero))then
 some (.inr (.inl ()))
 else
 some (.inl (wI (g+1)))
 else none
 else none
 else
 some (.inr (.inr ()))
def GD a b c (z_:Int):=Rn a b c z_
def TU a b c g:=fix (GD a b c) g
theorem At3 a b c:A3 AoC 0 4 (code f38) 58 (ArV a b c) (GD a b c) (Ap6 a b c):=by
 intro _;simp only[GD,Rn,ASb];kernel_rfl
def IP(a b:ASE):ATC Bool:=
 bif (a.length:Int) !=(b.length:Int)then
 some false
 else
 (TU a b (a.length:Int) 0).bind (Sum.elim (λd=>some false) (λe=>some true))
def c38:=Cc [.d ATw,.d ATw] [⟨[.AA [] ATw,.AA [] ATw],[],Bool,λp=>IP p.1.1 p.1.2.1,λr=>(dB r,[])⟩]
theorem Ak0:Am prog 38 c38:=As (fn:=f38) ⟨⟨AoC,pk trivial,λ_ R K=>by
 simp(disch:=refine id ?_;kernel_rfl) only[IP,ASc,TU,AG (At3 _ _ _) (K:=A2 AoC f38 0 R K)];kernel_rfl⟩,trivial⟩
abbrev AHO:=eN [(38,c38)] {}
def Le(a:ASs)(b:ASK)(c:Int):ATC Bool:=
 if(0:Int)<=(0:Int)/\(0:Int)<(a.length:Int)then
 if(0:Int)<=(a.getD 0 ATl.zero)/\(a.getD 0 ATl.zero)<(b.length:Int)then
 if 0<=c/\c<b.length then
 (IP (b.getD (a.getD 0 ATl.zero).toNat ATw.zero) (b.getD c.toNat ATw.zero)).bind λd=>some d
 else none
 else none
 else none
def c45:=Cc [.d ATo,.p (.sl ATw),.p ATl] [⟨[.AA [] ATo,.Fw [] (.sl ATw),.Fw [] ATl],[],Bool,λp=>Le p.1.1 p.1.2.1 p.1.2.2.1,λr=>(dB r,[])⟩]
theorem Ak6:Am prog 45 c45:=As (fn:=f45) ⟨⟨AHO,pk ⟨Ak0,trivial⟩,λ_ R K=>by
 simp only[Le,ASc];kernel_rfl⟩,trivial⟩
abbrev AoD:=eN [(45,c45)] {A4:=[(2,[0,1,7,8])],BD:=[(2,[4])]}
def ArW a (b:Int) (c:Int) d e g (z_:Int):=sT 19 [(0,Dw a),(1,.fn 45 (.cons (.ptr 0 b [] 0) (.cons (.ptr 1 c [] 0) .nil))),(7,dI g),(8,dI z_)] [.box Qu,.box (dI d),HX e]
def Ap7(a:ASG)(b c:Int) d e (g:Int):=Sum.elim (λ(i:Int)=>xR 19 [(4,dI i)] [.box Qu,.box (dI d),HX e]) (λ(j:Unit)=>xE 0 19 [] [.box Qu,.box (dI d),HX e])
def GF(a:ASG)(b c d:Int)(e:ASK)(g k:Int):ATC (Int⊕(Int⊕Unit)):=
 bif decide (k<g)then
 if 0<=k/\k<a.length then
 (Le (a.getD k.toNat ATo.zero) e d).bind λl=>bif l then
 some (.inr (.inl k))
 else
 some (.inl (wI (k+1)))
 else none
 else
 some (.inr (.inr ()))
def DN a b c d e g (z_:Int):=GF a b c d e g z_
def Ez a b c d e g k:=fix (DN a b c d e g) k
theorem At4 a b c d e g:A3 AoD 3 2 (code f44) 26 (ArW a b c d e g) (DN a b c d e g) (Ap7 a b c d e g):=by
 intro _;simp only[DN,GF,ASb];kernel_rfl
def D4(a:ASG)(b c d:Int)(e:ASK):ATC (Int×Int×ASK):=
 (Ez a b c d e (a.length:Int) 0).bind (Sum.elim (λi=>some (i,d,e)) (λj=>some (-1,d,e)))
def c44:=Cc [.d ATy,.UY] [⟨[.AA [] ATy,.fn 45 (.cons (.ptr 0 [] 0) (.cons (.ptr 1 [] 0) (.k .nil)))],[.box (.k Qu),.box (.AA [] ATl),.row 87 .Av ATw],Int×Int×ASK,λp=>D4 p.1.1 p.1.2.1.1 p.1.2.1.2.1 p.2.2.1 p.2.2.2.1,λr=>(dI r.1,[.box Qu,.box (dI r.2.1),HX r.2.2])⟩]
theorem Ak5:Am prog 44 c44:=As (fn:=f44) ⟨⟨AoD,pk ⟨Ak6,trivial⟩,λ_ R K=>by
 simp(disch:=refine id ?_;kernel_rfl) only[D4,ASc,Ez,AG (At4 _ _ _ _ _ _) (K:=A2 AoD f44 3 R K)];kernel_rfl⟩,trivial⟩
abbrev Axd:=eN [(105,Aky),(106,AEd),(107,AEe),(108,AEf)] {}
def c70:=Ac7 [.UY,.UY,.UY] Axd f70
theorem Alj:Am prog 70 c70:=iW (pk ⟨jK,Afw,Afx,Afy,trivial⟩)
abbrev Axc:=eN [(69,c69),(70,c70),(71,c71),(72,c72),(73,c73)] {ig:=[(18,ATt),(20,Ak)]}
def c35:=Ac7 [.UY,.UY] Axc f35
theorem AkY:Am prog 35 c35:=iW (pk ⟨Ali,Alj,Alk,Alm,Aln,trivial⟩)
theorem Au7(W:World)(x:tF):Proofs.FnGives prog 47 #[] #[oB x] (.bool (decide ((x.2.1:Int)<2))) W:=by
 show Calls prog 47 #[.slice x.1 x.2.1 x.2.2] W _
 go_enter func47,ntmps47
 go_wp2
 all_goals (go_ret;exact⟨by simp_all,0,rfl⟩)
def c46:Va.Callee:=AgA 47
theorem Ak7:Am prog 46 c46:=AlL (fn:=f46) lay10 Au7 (enters_of func47 (by kernel_rfl) rfl) zeroValue78 rfl (by kernel_rfl) (by kernel_rfl) (by kernel_rfl)
abbrev tA:=eN [(35,c35),(37,c37),(44,c44),(46,c46)] {A4:=[(7,{Bc:=[9,10,28,29],Ce:=[(10,false,.row [] 78 ATo true)]})],BD:=[(7,[10])],BR:=[(13,[9,10,28,29])],ao:=[(12,{Bc:=[9,10,28,29],Yp:=true})],DR:=[(13,[9,10,28,29])],cO:=[(12,[9,10,11,12,28,29])],stl:=[47],jc:=[(0,.row [] 78 ATo true)]}
def ArY a (z_:Int×ASG×ASK):=sT 55 (Ab3 a z_.1) [.box Qu,Bl z_.2.1,HX z_.2.2]
def Ap9(a:Int):=λ(b:ASG)=>xE 0 55 [(10,.AH 0)] [Bl b]
def ArX a c d e:=sT 55 (Ab3 a c) [.box Qu,Bl d,HX e]
def Ap8 a c (d:ASG) (e:ASK):=λ(g:(ASG×ASK))=>xN 55 (Ab3 a c) [.box Qu,Bl g.1,HX g.2]
def Ae4 a c d i j k:=sT 55 [(9,Au),(10,.AH 1),(11,Lb),(12,dI i),(28,dI a),(29,dI c)] [.box (.AH 3),Bl d,.box (dI j),HX k]
def yj a c (d:ASG) (i:Int) (j:Int) k:=λ(l:ASG)=>sT 55 (Ab3 a c) [.box Qu,Bl l,HX k]
def Nw(a c:Int)(d:ASG)(i j:Int)(k:ASK):ATC ASG:=
 if 0<=i/\i<d.length then
 if((d.getD i.toNat ATo.zero).length+([j]:ASs).length)*8<=140737488355328 then
 if 0<=i/\i<d.length then
 if i=i then
 some (d.set i.toNat ((d.getD i.toNat ATo.zero)++([j]:ASs)))
 else none
 else none
 else none
 else none
noncomputable def yu(a c:Int)(d:ASG)(i j:Int)(k:ASK):ATC Unit:=if((d.getD i.toNat ATo.zero).length+([j]:ASs).length)*8<=140737488355328 then if 0<=i/\i<d.length then if i=i then Ja (yj a c d i j k (d.set i.toNat ((d.getD i.toNat ATo.zero)++([j]:ASs))))else none else none else none
theorem At5(a c:Int)(d:ASG)(i j:Int)(k:ASK):Sj tA 0 12 (sb (cd f17 1012) 14) 47 (Ae4 a c d i j k) (Nw a c d i j k) (yj a c d i j k):=by
 unfold Sj;have h:yI tA 0 12 (sb (cd f17 1012) 14) (pt 47) (Ae4 a c d i j k) =
 if 0<=i/\i<d.length then if((d.getD i.toNat ATo.zero).length+([j]:ASs).length)*8<=140737488355328 then if 0<=i/\i<d.length then if i=i then((if 0<=i/\i<d.length then(yu a c d i j k).bind λ_=>yu a c d i j k else none).bind λ_=>some (yj a c d i j k (d.set i.toNat ((d.getD i.toNat ATo.zero)++([j]:ASs)))))else none else none else none else none:=by kernel_rfl
 rw[h];unfold Nw;simp only[ASb,mS,mO];clear h;by_cases Gb:(0:Int)<=i/\i<(d.length:Int)
 ·rw[AQe Gb,AQe Gb];by_cases Pp:((d.getD i.toNat ATo.zero).length+([j]:ASs).length)*8<=140737488355328
  ·rw[AQe Pp,AQe Pp];simp only[yu,AQc,AQe Gb,AQe Pp,AQJ,APW,Ja,GX]
  ·simp only[AQe Gb,AQJ,AQf Pp]
 ·simp only[AQJ,AQf Gb]
def Nx(a c:Int)(d:ASG)(e:ASK):ATC (ASG×ASK):=
 (D4 d 0 0 c e).bind λn=>bif decide (n.1<0)then
 if(d.length+([([n.2.1]:ASs)]:ASG).length)*24<=140737488355328 then
 some (d++([([n.2.1]:ASs)]:ASG),n.2.2)
 else none
 else
 (Nw a c d n.1 n.2.1 n.2.2).bind λl=>some (l,n.2.2)
theorem At6 a c d e:AP tA 0 13 (cd f17 1012) 14 (ArX a c d e) (Nx a c d e) (Ap8 a c d e):=by
 unfold AP;simp(disch:=refine id ?_;kernel_rfl) only[Nx,ASb,W1 (At5 ..) (K:=Ud tA 0 13)];kernel_rfl
def Kr(a c:Int)(d:ASG)(e:ASK):ATC ((Int×ASG×ASK)⊕ASG):=
 bif decide (c<a)then
 (Nx a c d e).bind λg=>some (.inl (wI (c+1),g.1,g.2))
 else
 some (.inr d)
def EE a (z_:Int×ASG×ASK):=Kr a z_.1 z_.2.1 z_.2.2
def Ny a c d e:=fix (EE a) (c,d,e)
theorem At7 a:A3 tA 0 7 (code f17) 506 (ArY a) (EE a) (Ap9 a):=by
 intro _;simp(disch:=refine id ?_;kernel_rfl) only[EE,Kr,ASb,A8 (At6 ..) (K:=Kk tA 0 7)];kernel_rfl
def Ls(o:ASw)(q:ASy):ATC ASX:=
 (LZ o q).bind λs=>bif !s then
 some (1,([]:ASG))
 else
 (Lf q).bind λt=>(TA o).bind λu=>(JD o t (u,())).bind λv=>bif !v.1 then
 some (1,([]:ASG))
 else
 (Qd o t).bind λw=>(O7 o (v.2,())).bind λx=>(O4 x).bind λy=>(Ho 0 o t w.2 v.2 x y).bind λa1=>bif decide ((a1.2.2.2.2.2.2.2.length:Int)>0)then
 some (2,([]:ASG))
 else
 (JG 0 a1.1 a1.2.1 a1.2.2.2.1 a1.2.2.2.2.2.2.1 a1.2.2.2.2.2.2.2 a1.2.2.1 a1.2.2.2.2.1 a1.2.2.2.2.2.1).bind λb1=>(Ny (o.length:Int) 0 ([]:ASG) b1.2.2.2.2.2.2.2.2).bind λb=>some (0,dn b)
def c17:=Cc [.d ATr,.d ATt] [⟨[.AA [] ATr,.AA [] ATt],[],ASX,λp=>Ls p.1.1 p.1.2.1,λr=>(.cons Kd (.cons (dI r.1) .nil),[Bl r.2])⟩]
theorem AkJ:Am prog 17 c17:=As (fn:=f17) ⟨⟨tA,pk ⟨AkY,AkZ,Ak5,Ak7,trivial⟩,λ_ R K=>by
 simp(disch:=refine id ?_;kernel_rfl) only[Ls,ASc,Ny,AG (At7 _) (K:=A2 tA f17 0 R K)];kernel_rfl⟩,trivial⟩
abbrev AoE:=eN [] {A4:=[(4,[0,1,5])],BD:=[(4,[4])]}
def ArZ a b (z_:Int):=sT 26 [(0,DT a),(1,DT b),(5,dI z_)] []
def Aqa(a b:ASs):=Sum.elim (λ(c:Unit)=>xR 26 fW []) (λ(d:Unit)=>xE 0 26 [] [])
def Vf(a b:ASs)(e:Int):ATC (Int⊕(Unit⊕Unit)):=
 bif decide (e<(a.length:Int))then
 if 0<=e/\e<a.length then
 if 0<=e/\e<b.length then
 bif (a.getD e.toNat ATl.zero) !=(b.getD e.toNat ATl.zero)then
 some (.inr (.inl ()))
 else
 some (.inl (wI (e+1)))
 else none
 else none
 else
 some (.inr (.inr ()))
def KD a b (z_:Int):=Vf a b z_
def Xf a b e:=fix (KD a b) e
theorem At8 a b:A3 AoE 0 4 (code f48) 58 (ArZ a b) (KD a b) (Aqa a b):=by
 intro _;simp only[KD,Vf,ASb];kernel_rfl
def Lx(a b:ASs):ATC Bool:=
 bif (a.length:Int) !=(b.length:Int)then
 some false
 else
 (Xf a b 0).bind (Sum.elim (λc=>some false) (λd=>some true))
def c48:=Cc [.d ATo,.d ATo] [⟨[.AA [] ATo,.AA [] ATo],[],Bool,λp=>Lx p.1.1 p.1.2.1,λr=>(dB r,[])⟩]
theorem Aax:Am prog 48 c48:=As (fn:=f48) ⟨⟨AoE,pk trivial,λ_ R K=>by
 simp(disch:=refine id ?_;kernel_rfl) only[Lx,ASc,Xf,AG (At8 _ _) (K:=A2 AoE f48 0 R K)];kernel_rfl⟩,trivial⟩
abbrev AoF:=eN [(48,c48)] {A4:=[(4,[0,1,5])],BD:=[(4,[4])]}
def Ar0 a b (z_:Int):=sT 27 [(0,Dw a),(1,Dw b),(5,dI z_)] []
def Aqb(a b:ASG):=Sum.elim (λ(c:Unit)=>xR 27 fW []) (λ(d:Unit)=>xE 0 27 [] [])
def Uv(a b:ASG)(e:Int):ATC (Int⊕(Unit⊕Unit)):=
 bif decide (e<(a.length:Int))then
 if 0<=e/\e<a.length then
 if 0<=e/\e<b.length then
 (Lx (a.getD e.toNat ATo.zero) (b.getD e.toNat ATo.zero)).bind λg=>bif !g then
 some (.inr (.inl ()))
 else
 some (.inl (wI (e+1)))
 else none
 else none
 else
 some (.inr (.inr ()))
def Jq a b (z_:Int):=Uv a b z_
def Wa a b e:=fix (Jq a b) e
theorem At9 a b:A3 AoF 0 4 (code f18) 58 (Ar0 a b) (Jq a b) (Aqb a b):=by
 intro _;simp only[Jq,Uv,ASb];kernel_rfl
def JM(a b:ASG):ATC Bool:=
 bif (a.length:Int) !=(b.length:Int)then
 some false
 else
 (Wa a b 0).bind (Sum.elim (λc=>some false) (λd=>some true))
def c18:=Cc [.d ATy,.d ATy] [⟨[.AA [] ATy,.AA [] ATy],[],Bool,λp=>JM p.1.1 p.1.2.1,λr=>(dB r,[])⟩]
theorem AkK:Am prog 18 c18:=As (fn:=f18) ⟨⟨AoF,pk ⟨Aax,trivial⟩,λ_ R K=>by
 simp(disch:=refine id ?_;kernel_rfl) only[JM,ASc,Wa,AG (At9 _ _) (K:=A2 AoF f18 0 R K)];kernel_rfl⟩,trivial⟩
abbrev AwZ:=eN [] {}
def M3(a b:ASf):Bool:=((!(!(Jd a.1 b.1)))&&((!(a.2.1 !=b.2.1))&&true))
theorem AIi R a b K:TP AwZ f40 R [d9 a,d9 b] [] K=K (dB (M3 a b)) []:=by
 refine .trans (b:=
 bif !(Jd a.1 b.1)then
 K (dB false) []
 else
 bif a.2.1 !=b.2.1 then
 K (dB false) []
 else
 K (dB true) []) (by kernel_rfl) ?_
 unfold M3;cases (!(Jd a.1 b.1));cases (a.2.1 !=b.2.1);rfl;rfl;rfl
def c40:=Cc [.d Ab,.d Ab] [⟨[.AA [] Ab,.AA [] Ab],[],Bool,λp=>some (M3 p.1.1 p.1.2.1),λr=>(dB r,[])⟩]
theorem Ak1:Am prog 40 c40:=As ⟨⟨AwZ,pk trivial,λ_ _ _=>AIi ..⟩,trivial⟩
abbrev AoG:=eN [(40,c40)] {A4:=[(4,[0,1,5])],BD:=[(4,[4])]}
def Ar1 a b (z_:Int):=sT 27 [(0,Ar a),(1,Ar b),(5,dI z_)] []
def Aqc(a b:ASw):=Sum.elim (λ(c:Unit)=>xR 27 fW []) (λ(d:Unit)=>xE 0 27 [] [])
def V9(a b:ASw)(e:Int):ATC (Int⊕(Unit⊕Unit)):=
 bif decide (e<(a.length:Int))then
 if 0<=e/\e<a.length then
 if 0<=e/\e<b.length then
 bif !(M3 (a.getD e.toNat Ab.zero) (b.getD e.toNat Ab.zero))then
 some (.inr (.inl ()))
 else
 some (.inl (wI (e+1)))
 else none
 else none
 else
 some (.inr (.inr ()))
def L6 a b (z_:Int):=V9 a b z_
def Ym a b e:=fix (L6 a b) e
theorem Aua a b:A3 AoG 0 4 (code f13) 58 (Ar1 a b) (L6 a b) (Aqc a b):=by
 intro _;simp only[L6,V9,ASb];kernel_rfl
def UE(a b:ASw):ATC Bool:=
 bif (a.length:Int) !=(b.length:Int)then
 some false
 else
 (Ym a b 0).bind (Sum.elim (λc=>some false) (λd=>some true))
def c13:=Cc [.d ATr,.d ATr] [⟨[.AA [] ATr,.AA [] ATr],[],Bool,λp=>UE p.1.1 p.1.2.1,λr=>(dB r,[])⟩]
theorem AkD:Am prog 13 c13:=As (fn:=f13) ⟨⟨AoG,pk ⟨Ak1,trivial⟩,λ_ R K=>by
 simp(disch:=refine id ?_;kernel_rfl) only[UE,ASc,Ym,AG (Aua _ _) (K:=A2 AoG f13 0 R K)];kernel_rfl⟩,trivial⟩
abbrev AoH:=eN [] {A4:=[(4,[0,1,5])],BD:=[(4,[4])]}
def Ar2 a b (z_:Int):=sT 26 [(0,UO a),(1,UO b),(5,dI z_)] []
def Aqd(a b:ASs):=Sum.elim (λ(c:Unit)=>xR 26 fW []) (λ(d:Unit)=>xE 0 26 [] [])
def Uw(a b:ASs)(e:Int):ATC (Int⊕(Unit⊕Unit)):=
 bif decide (e<(a.length:Int))then
 if 0<=e/\e<a.length then
 if 0<=e/\e<b.length then
 bif (a.getD e.toNat ATm.zero) !=(b.getD e.toNat ATm.zero)then
 some (.inr (.inl ()))
 else
 some (.inl (wI (e+1)))
 else none
 else none
 else
 some (.inr (.inr ()))
def Jr a b (z_:Int):=Uw a b z_
def Wb a b e:=fix (Jr a b) e
theorem Aub a b:A3 AoH 0 4 (code f148) 58 (Ar2 a b) (Jr a b) (Aqd a b):=by
 intro _;simp only[Jr,Uw,ASb];kernel_rfl
def Q9(a b:ASs):ATC Bool:=
 bif (a.length:Int) !=(b.length:Int)then
 some false
 else
 (Wb a b 0).bind (Sum.elim (λc=>some false) (λd=>some true))
def AEL:=Cc [.d ATv,.d ATv] [⟨[.AA [] ATv,.AA [] ATv],[],Bool,λp=>Q9 p.1.1 p.1.2.1,λr=>(dB r,[])⟩]
theorem Af5:Am prog 148 AEL:=As (fn:=f148) ⟨⟨AoH,pk trivial,λ_ R K=>by
 simp(disch:=refine id ?_;kernel_rfl) only[Q9,ASc,Wb,AG (Aub _ _) (K:=A2 AoH f148 0 R K)];kernel_rfl⟩,trivial⟩
abbrev AHQ:=eN [(148,AEL)] {}
def TE(a b:ASk):ATC Bool:=
 bif a.1 !=b.1 then
 some false
 else
 (Q9 a.2.1 b.2.1).bind λc=>bif !c then
 some false
 else
 some true
def AEk:=Cc [.d Ah,.d Ah] [⟨[.AA [] Ah,.AA [] Ah],[],Bool,λp=>TE p.1.1 p.1.2.1,λr=>(dB r,[])⟩]
theorem AfD:Am prog 113 AEk:=As (fn:=f113) ⟨⟨AHQ,pk ⟨Af5,trivial⟩,λ_ R K=>by
 simp only[TE,ASc];kernel_rfl⟩,trivial⟩
abbrev AHR:=eN [(48,c48),(113,AEk)] {}
def NN(a b:ASj):ATC Bool:=
 bif a.1 !=b.1 then
 some false
 else
 bif a.2.1 !=b.2.1 then
 some false
 else
 bif a.2.2.1 !=b.2.2.1 then
 some false
 else
 bif a.2.2.2.1 !=b.2.2.2.1 then
 some false
 else
 (TE a.2.2.2.2.1 b.2.2.2.2.1).bind λc=>bif !c then
 some false
 else
 (Lx a.2.2.2.2.2.1 b.2.2.2.2.2.1).bind λd=>bif !d then
 some false
 else
 some true
def c75:=Cc [.d Ag,.d Ag] [⟨[.AA [] Ag,.AA [] Ag],[],Bool,λp=>NN p.1.1 p.1.2.1,λr=>(dB r,[])⟩]
theorem Alp:Am prog 75 c75:=As (fn:=f75) ⟨⟨AHR,pk ⟨Aax,AfD,trivial⟩,λ_ R K=>by
 simp only[NN,ASc];kernel_rfl⟩,trivial⟩
abbrev AoI:=eN [(75,c75)] {A4:=[(4,[0,1,5])],BD:=[(4,[4])]}
def Ar3 a b (z_:Int):=sT 27 [(0,ji a),(1,ji b),(5,dI z_)] []
def Aqe(a b:ASA):=Sum.elim (λ(c:Unit)=>xR 27 fW []) (λ(d:Unit)=>xE 0 27 [] [])
def Vh(a b:ASA)(e:Int):ATC (Int⊕(Unit⊕Unit)):=
 bif decide (e<(a.length:Int))then
 if 0<=e/\e<a.length then
 if 0<=e/\e<b.length then
 (NN (a.getD e.toNat Ag.zero) (b.getD e.toNat Ag.zero)).bind λg=>bif !g then
 some (.inr (.inl ()))
 else
 some (.inl (wI (e+1)))
 else none
 else none
 else
 some (.inr (.inr ()))
def KE a b (z_:Int):=Vh a b z_
def Xg a b e:=fix (KE a b) e
theorem Auc a b:A3 AoI 0 4 (code f42) 58 (Ar3 a b) (KE a b) (Aqe a b):=by
 intro _;simp only[KE,Vh,ASb];kernel_rfl
def Te(a b:ASA):ATC Bool:=
 bif (a.length:Int) !=(b.length:Int)then
 some false
 else
 (Xg a b 0).bind (Sum.elim (λc=>some false) (λd=>some true))
def c42:=Cc [.d ATx,.d ATx] [⟨[.AA [] ATx,.AA [] ATx],[],Bool,λp=>Te p.1.1 p.1.2.1,λr=>(dB r,[])⟩]
theorem Ak3:Am prog 42 c42:=As (fn:=f42) ⟨⟨AoI,pk ⟨Alp,trivial⟩,λ_ R K=>by
 simp(disch:=refine id ?_;kernel_rfl) only[Te,ASc,Xg,AG (Auc _ _) (K:=A2 AoI f42 0 R K)];kernel_rfl⟩,trivial⟩
abbrev AHS:=eN [(42,c42)] {}
def QC(a b:ASq):ATC Bool:=
 (Te a.1 b.1).bind λc=>bif !c then
 some false
 else
 some true
def c15:=Cc [.d Aw,.d Aw] [⟨[.AA [] Aw,.AA [] Aw],[],Bool,λp=>QC p.1.1 p.1.2.1,λr=>(dB r,[])⟩]
theorem AkG:Am prog 15 c15:=As (fn:=f15) ⟨⟨AHS,pk ⟨Ak3,trivial⟩,λ_ R K=>by
 simp only[QC,ASc];kernel_rfl⟩,trivial⟩
abbrev AHT:=eN [(15,c15)] {}
def JO(a b:ASh):ATC Bool:=
 bif a.1 !=b.1 then
 some false
 else
 bif !(a.2.1==b.2.1)then
 some false
 else
 (QC a.2.2.1 b.2.2.1).bind λc=>bif !c then
 some false
 else
 (QC a.2.2.2.1 b.2.2.2.1).bind λd=>bif !d then
 some false
 else
 some true
def c41:=Cc [.d Ae,.d Ae] [⟨[.AA [] Ae,.AA [] Ae],[],Bool,λp=>JO p.1.1 p.1.2.1,λr=>(dB r,[])⟩]
theorem Ak2:Am prog 41 c41:=As (fn:=f41) ⟨⟨AHT,pk ⟨AkG,trivial⟩,λ_ R K=>by
 simp only[JO,ASc];kernel_rfl⟩,trivial⟩
abbrev AoJ:=eN [(41,c41)] {A4:=[(4,[0,1,5])],BD:=[(4,[4])]}
def Ar4 a b (z_:Int):=sT 27 [(0,Bw a),(1,Bw b),(5,dI z_)] []
def Aqf(a b:ASy):=Sum.elim (λ(c:Unit)=>xR 27 fW []) (λ(d:Unit)=>xE 0 27 [] [])
def TF(a b:ASy)(e:Int):ATC (Int⊕(Unit⊕Unit)):=
 bif decide (e<(a.length:Int))then
 if 0<=e/\e<a.length then
 if 0<=e/\e<b.length then
 (JO (a.getD e.toNat Ae.zero) (b.getD e.toNat Ae.zero)).bind λg=>bif !g then
 some (.inr (.inl ()))
 else
 some (.inl (wI (e+1)))
 else none
 else none
 else
 some (.inr (.inr ()))
def Iw a b (z_:Int):=TF a b z_
def Vg a b e:=fix (Iw a b) e
theorem Aud a b:A3 AoJ 0 4 (code f14) 58 (Ar4 a b) (Iw a b) (Aqf a b):=by
 intro _;simp only[Iw,TF,ASb];kernel_rfl
def PF(a b:ASy):ATC Bool:=
 bif (a.length:Int) !=(b.length:Int)then
 some false
 else
 (Vg a b 0).bind (Sum.elim (λc=>some false) (λd=>some true))
def c14:=Cc [.d ATt,.d ATt] [⟨[.AA [] ATt,.AA [] ATt],[],Bool,λp=>PF p.1.1 p.1.2.1,λr=>(dB r,[])⟩]
theorem AkE:Am prog 14 c14:=As (fn:=f14) ⟨⟨AoJ,pk ⟨Ak2,trivial⟩,λ_ R K=>by
 simp(disch:=refine id ?_;kernel_rfl) only[PF,ASc,Vg,AG (Aud _ _) (K:=A2 AoJ f14 0 R K)];kernel_rfl⟩,trivial⟩
abbrev AoK:=eN [] {A4:=[(4,[0,3])],BD:=[(4,[3])]}
def Ar5(z_:Int×ByteArray):=sT 20 [(0,dI z_.1),(3,HW z_.2)] []
def Aqg:=λ(a:ByteArray)=>xE 0 20 [(3,HW a)] []
def Qi(b:Int)(c:ByteArray):ATC ((Int×ByteArray)⊕ByteArray):=
 bif decide (b>0)then
 if(bytesOf ([IntKind.u8.wrap (wI (48+(Int.tmod b 10)))]:ASs)).size+c.size<=9223372036854775807 then
 some (.inl (wI (Int.tdiv b 10),(bytesOf ([IntKind.u8.wrap (wI (48+(Int.tmod b 10)))]:ASs))++c))
 else none
 else
 some (.inr c)
def KI(z_:Int×ByteArray):=Qi z_.1 z_.2
def Sz b c:=fix (KI) (b,c)
theorem Aue:A3 AoK 0 4 (code f49) 60 (Ar5) (KI) (Aqg):=by
 intro _;simp only[KI,Qi,ASb];kernel_rfl
def O8(d:Int):ATC ByteArray:=
 bif decide (d<=0)then
 some (⟨#[109,48]⟩:ByteArray)
 else
 (Sz d (⟨#[]⟩:ByteArray)).bind λa=>if(⟨#[109]⟩:ByteArray).size+a.size<=9223372036854775807 then
 some ((⟨#[109]⟩:ByteArray)++a)
 else none
def c49:=Cc [.d ATl] [⟨[.AA [] ATl],[],ByteArray,λp=>O8 p.1.1,λr=>(HW r,[])⟩]
theorem Ak8:Am prog 49 c49:=As (fn:=f49) ⟨⟨AoK,pk trivial,λ_ R K=>by
 simp(disch:=refine id ?_;kernel_rfl) only[O8,ASc,Sz,AG (Aue) (K:=A2 AoK f49 0 R K)];kernel_rfl⟩,trivial⟩
abbrev AoL:=eN [(49,c49)] {A4:=[(2,[0,1,5])],BD:=[(2,[1])]}
def Ar6(z_:Int×Int×ASw):=sT 28 (Sf z_.1 z_.2.1) [Ws z_.2.2]
def Aqh:=λ(a:(Int×ASw))=>xE 0 28 [(1,dI a.1)] [Ws a.2]
def Js(b c:Int)(d:ASw):ATC ((Int×Int×ASw)⊕(Int×ASw)):=
 bif decide (c<(d.length:Int))then
 (O8 b).bind λe=>if 0<=c/\c<d.length then
 if 0<=c/\c<(d.set c.toNat (e,(d.getD c.toNat Ab.zero).2)).length then
 some (.inl (wI ((wI (b+1))+1),wI (c+1),(d.set c.toNat (e,(d.getD c.toNat Ab.zero).2)).set c.toNat (((d.set c.toNat (e,(d.getD c.toNat Ab.zero).2)).getD c.toNat Ab.zero).1,wI (b+1),((d.set c.toNat (e,(d.getD c.toNat Ab.zero).2)).getD c.toNat Ab.zero).2.2)))
 else none
 else none
 else
 some (.inr (b,d))
def Eg(z_:Int×Int×ASw):=Js z_.1 z_.2.1 z_.2.2
def Ra b c d:=fix (Eg) (b,c,d)
theorem Auf:A3 AoL 1 2 (code f19) 26 (Ar6) (Eg) (Aqh):=by
 intro _;simp only[Eg,Js,ASb];kernel_rfl
def M4(g:Int)(i:ASw):ATC (Int×ASw):=
 (Ra g 0 i).bind λa=>some (a.1,a.2)
def c19:=Cc [.UY,.d ATl] [⟨[.k Kd,.AA [] ATl],[.row 66 .Av Ab],Int×ASw,λp=>M4 p.1.2.1 p.2.1,λr=>(dI r.1,[Ws r.2])⟩]
theorem AkL:Am prog 19 c19:=As (fn:=f19) ⟨⟨AoL,pk ⟨Ak8,trivial⟩,λ_ R K=>by
 simp(disch:=refine id ?_;kernel_rfl) only[M4,ASc,Ra,AG (Auf) (K:=A2 AoL f19 1 R K)];kernel_rfl⟩,trivial⟩
abbrev AoM:=eN [] {A4:=[(2,[0,1,5])],BD:=[(2,[1])]}
def Ar7(z_:Int×Int×ASs):=sT 20 (Sf z_.1 z_.2.1) [s7 z_.2.2]
def Aqi:=λ(a:ASP)=>xE 0 20 [(1,dI a.1)] [s7 a.2]
def HS(b c:Int)(d:ASs):ATC ((Int×Int×ASs)⊕ASP):=
 bif decide (c<(d.length:Int))then
 if 0<=c/\c<d.length then
 some (.inl (wI (b+1),wI (c+1),d.set c.toNat (IntKind.u64.wrap b)))
 else none
 else
 some (.inr (b,d))
def Di(z_:Int×Int×ASs):=HS z_.1 z_.2.1 z_.2.2
def OP b c d:=fix (Di) (b,c,d)
theorem Auh:A3 AoM 1 2 (code f76) 26 (Ar7) (Di) (Aqi):=by
 intro _;simp only[Di,HS,ASb];kernel_rfl
def JR(e:Int)(g:ASs):ATC ASP:=
 (OP e 0 g).bind λa=>some (a.1,a.2)
def c76:=Cc [.UY,.d ATl] [⟨[.k Kd,.AA [] ATl],[.row 0 .Av ATm],ASP,λp=>JR p.1.2.1 p.2.1,λr=>(dI r.1,[s7 r.2])⟩]
theorem Alq:Am prog 76 c76:=As (fn:=f76) ⟨⟨AoM,pk trivial,λ_ R K=>by
 simp(disch:=refine id ?_;kernel_rfl) only[JR,ASc,OP,AG (Auh) (K:=A2 AoM f76 1 R K)];kernel_rfl⟩,trivial⟩
abbrev AoN:=eN [] {A4:=[(2,[0,1,5])],BD:=[(2,[1])]}
def Ar8(z_:Int×Int×ASs):=sT 19 (Sf z_.1 z_.2.1) [s8 z_.2.2]
def Aqj:=λ(a:ASP)=>xE 0 19 [(1,dI a.1)] [s8 a.2]
def Iy(b c:Int)(d:ASs):ATC ((Int×Int×ASs)⊕ASP):=
 bif decide (c<(d.length:Int))then
 if 0<=c/\c<d.length then
 some (.inl (wI (b+1),wI (c+1),d.set c.toNat b))
 else none
 else
 some (.inr (b,d))
def DG(z_:Int×Int×ASs):=Iy z_.1 z_.2.1 z_.2.2
def Qg b c d:=fix (DG) (b,c,d)
theorem Aui:A3 AoN 1 2 (code f51) 26 (Ar8) (DG) (Aqj):=by
 intro _;simp only[DG,Iy,ASb];kernel_rfl
def Ia(e:Int)(g:ASs):ATC ASP:=
 (Qg e 0 g).bind λa=>some (a.1,a.2)
def c51:=Cc [.UY,.d ATl] [⟨[.k Kd,.AA [] ATl],[.row 0 .Av ATl],ASP,λp=>Ia p.1.2.1 p.2.1,λr=>(dI r.1,[s8 r.2])⟩]
theorem Aay:Am prog 51 c51:=As (fn:=f51) ⟨⟨AoN,pk trivial,λ_ R K=>by
 simp(disch:=refine id ?_;kernel_rfl) only[Ia,ASc,Qg,AG (Aui) (K:=A2 AoN f51 1 R K)];kernel_rfl⟩,trivial⟩
abbrev qa:=eN [(51,c51),(76,c76)] {vV:=[(53,88),(60,2)],A4:=[(2,[0,1,5])],BD:=[(2,[1])],BR:=[(3,[0,1,5]),(9,[0,1,5]),(13,[0,1,5])],DR:=[(3,[0,1,5]),(9,[0,1,5]),(13,[0,1,5])]}
def Asd(z_:Int×Int×ASA):=sT 64 (Sf z_.1 z_.2.1) [UQ z_.2.2]
def Aqn:=λ(a:(Int×ASA))=>xE 0 64 [(1,dI a.1)] [UQ a.2]
def Asb b c d:=sT 64 (Sf b c) [UQ d]
def Aqm(b:Int) c (d:ASA):=λ(e:(Int×ASA))=>xN 64 (Sf e.1 c) [UQ e.2]
def Asa c g i:=sT 64 (Sf g c) [UQ i]
def Aql c g (i:ASA):=λ(j:ASA)=>xN 64 (Sf g c) [UQ j]
def KG(c g:Int)(i:ASA):ATC ASA:=
 if 0<=c/\c<i.length then
 some (i.set c.toNat ((i.getD c.toNat Ag.zero).1,(i.getD c.toNat Ag.zero).2.1,(i.getD c.toNat Ag.zero).2.2.1,(i.getD c.toNat Ag.zero).2.2.2.1,(g,(i.getD c.toNat Ag.zero).2.2.2.2.1.2),(i.getD c.toNat Ag.zero).2.2.2.2.2))
 else none
theorem Auk c g i:AP qa 1 13 (sb (cd f50 52) 6) 1534 (Asa c g i) (KG c g i) (Aql c g i):=by
 unfold AP;simp only[KG,ASb];kernel_rfl
def Ar9 c k l:=sT 64 (Sf k c) [UQ l]
def Aqk c k (l:ASA):=λ(n:ASA)=>xN 64 (Sf k c) [UQ n]
def KF(c k:Int)(l:ASA):ATC ASA:=
 if 0<=c/\c<l.length then
 some (l.set c.toNat ((l.getD c.toNat Ag.zero).1,(l.getD c.toNat Ag.zero).2.1,k,(l.getD c.toNat Ag.zero).2.2.2))
 else none
theorem Auj c k l:AP qa 1 9 (sb (cd f50 52) 6) 94 (Ar9 c k l) (KF c k l) (Aqk c k l):=by
 unfold AP;simp only[KF,ASb];kernel_rfl
def KH(b c:Int)(d:ASA):ATC (Int×ASA):=
 if 0<=c/\c<d.length then
 if 0<=c/\c<(d.set c.toNat (b,(d.getD c.toNat Ag.zero).2)).length then
 (KF c (wI ((wI (b+1))+1)) ((d.set c.toNat (b,(d.getD c.toNat Ag.zero).2)).set c.toNat (((d.set c.toNat (b,(d.getD c.toNat Ag.zero).2)).getD c.toNat Ag.zero).1,wI (b+1),((d.set c.toNat (b,(d.getD c.toNat Ag.zero).2)).getD c.toNat Ag.zero).2.2))).bind λn=>if 0<=c/\c<n.length then
 (KG c (wI ((wI ((wI ((wI (b+1))+1))+1))+1)) (n.set c.toNat ((n.getD c.toNat Ag.zero).1,(n.getD c.toNat Ag.zero).2.1,(n.getD c.toNat Ag.zero).2.2.1,wI ((wI ((wI (b+1))+1))+1),(n.getD c.toNat Ag.zero).2.2.2.2))).bind λj=>if 0<=c/\c<j.length then
 (JR (wI ((wI ((wI ((wI ((wI (b+1))+1))+1))+1))+1)) (j.getD c.toNat Ag.zero).2.2.2.2.1.2.1).bind λo=>if 0<=c/\c<(j.set c.toNat ((j.getD c.toNat Ag.zero).1,(j.getD c.toNat Ag.zero).2.1,(j.getD c.toNat Ag.zero).2.2.1,(j.getD c.toNat Ag.zero).2.2.2.1,((j.getD c.toNat Ag.zero).2.2.2.2.1.1,o.2,(j.getD c.toNat Ag.zero).2.2.2.2.1.2.2),(j.getD c.toNat Ag.zero).2.2.2.2.2)).length then
 (Ia o.1 ((j.set c.toNat ((j.getD c.toNat Ag.zero).1,(j.getD c.toNat Ag.zero).2.1,(j.getD c.toNat Ag.zero).2.2.1,(j.getD c.toNat Ag.zero).2.2.2.1,((j.getD c.toNat Ag.zero).2.2.2.2.1.1,o.2,(j.getD c.toNat Ag.zero).2.2.2.2.1.2.2),(j.getD c.toNat Ag.zero).2.2.2.2.2)).getD c.toNat Ag.zero).2.2.2.2.2.1).bind λq=>some (q.1,(j.set c.toNat ((j.getD c.toNat Ag.zero).1,(j.getD c.toNat Ag.zero).2.1,(j.getD c.toNat Ag.zero).2.2.1,(j.getD c.toNat Ag.zero).2.2.2.1,((j.getD c.toNat Ag.zero).2.2.2.2.1.1,o.2,(j.getD c.toNat Ag.zero).2.2.2.2.1.2.2),(j.getD c.toNat Ag.zero).2.2.2.2.2)).set c.toNat (((j.set c.toNat ((j.getD c.toNat Ag.zero).1,(j.getD c.toNat Ag.zero).2.1,(j.getD c.toNat Ag.zero).2.2.1,(j.getD c.toNat Ag.zero).2.2.2.1,((j.getD c.toNat Ag.zero).2.2.2.2.1.1,o.2,(j.getD c.toNat Ag.zero).2.2.2.2.1.2.2),(j.getD c.toNat Ag.zero).2.2.2.2.2)).getD c.toNat Ag.zero).1,((j.set c.toNat ((j.getD c.toNat Ag.zero).1,(j.getD c.toNat Ag.zero).2.1,(j.getD c.toNat Ag.zero).2.2.1,(j.getD c.toNat Ag.zero).2.2.2.1,((j.getD c.toNat Ag.zero).2.2.2.2.1.1,o.2,(j.getD c.toNat Ag.zero).2.2.2.2.1.2.2),(j.getD c.toNat Ag.zero).2.2.2.2.2)).getD c.toNat Ag.zero).2.1,((j.set c.toNat ((j.getD c.toNat Ag.zero).1,(j.getD c.toNat Ag.zero).2.1,(j.getD c.toNat Ag.zero).2.2.1,(j.getD c.toNat Ag.zero).2.2.2.1,((j.getD c.toNat Ag.zero).2.2.2.2.1.1,o.2,(j.getD c.toNat Ag.zero).2.2.2.2.1.2.2),(j.getD c.toNat Ag.zero).2.2.2.2.2)).getD c.toNat Ag.zero).2.2.1,((j.set c.toNat ((j.getD c.toNat Ag.zero).1,(j.getD c.toNat Ag.zero).2.1,(j.getD c.toNat Ag.zero).2.2.1,(j.getD c.toNat Ag.zero).2.2.2.1,((j.getD c.toNat Ag.zero).2.2.2.2.1.1,o.2,(j.getD c.toNat Ag.zero).2.2.2.2.1.2.2),(j.getD c.toNat Ag.zero).2.2.2.2.2)).getD c.toNat Ag.zero).2.2.2.1,((j.set c.toNat ((j.getD c.toNat Ag.zero).1,(j.getD c.toNat Ag.zero).2.1,(j.getD c.toNat Ag.zero).2.2.1,(j.getD c.toNat Ag.zero).2.2.2.1,((j.getD c.toNat Ag.zero).2.2.2.2.1.1,o.2,(j.getD c.toNat Ag.zero).2.2.2.2.1.2.2),(j.getD c.toNat Ag.zero).2.2.2.2.2)).getD c.toNat Ag.zero).2.2.2.2.1,q.2,((j.set c.toNat ((j.getD c.toNat Ag.zero).1,(j.getD c.toNat Ag.zero).2.1,(j.getD c.toNat Ag.zero).2.2.1,(j.getD c.toNat Ag.zero).2.2.2.1,((j.getD c.toNat Ag.zero).2.2.2.2.1.1,o.2,(j.getD c.toNat Ag.zero).2.2.2.2.1.2.2),(j.getD c.toNat Ag.zero).2.2.2.2.2)).getD c.toNat Ag.zero).2.2.2.2.2.2))
 else none
 else none
 else none
 else none
 else none
theorem Aul b c d:AP qa 1 3 (cd f50 52) 6 (Asb b c d) (KH b c d) (Aqm b c d):=by
 unfold AP;simp(disch:=refine id ?_;kernel_rfl) only[KH,ASb,A8 (Auj ..) (K:=Ud qa 1 3),A8 (Auk ..) (K:=Ud qa 1 3)];kernel_rfl
def ID(b c:Int)(d:ASA):ATC ((Int×Int×ASA)⊕(Int×ASA)):=
 bif decide (c<(d.length:Int))then
 (KH b c d).bind λe=>some (.inl (e.1,wI (c+1),e.2))
 else
 some (.inr (b,d))
def DI(z_:Int×Int×ASA):=ID z_.1 z_.2.1 z_.2.2
def Qh b c d:=fix (DI) (b,c,d)
theorem Aum:A3 qa 1 2 (code f50) 26 (Asd) (DI) (Aqn):=by
 intro _;simp(disch:=refine id ?_;kernel_rfl) only[DI,ID,ASb,A8 (Aul ..) (K:=Kk qa 1 2)];kernel_rfl
def Ib(s:Int)(t:ASA):ATC (Int×ASA):=
 (Qh s 0 t).bind λa=>some (a.1,a.2)
def c50:=Cc [.UY,.d ATl] [⟨[.k Kd,.AA [] ATl],[.row 0 .Av Ag],Int×ASA,λp=>Ib p.1.2.1 p.2.1,λr=>(dI r.1,[UQ r.2])⟩]
theorem Ak9:Am prog 50 c50:=As (fn:=f50) ⟨⟨qa,pk ⟨Aay,Alq,trivial⟩,λ_ R K=>by
 simp(disch:=refine id ?_;kernel_rfl) only[Ib,ASc,Qh,AG (Aum) (K:=A2 qa f50 1 R K)];kernel_rfl⟩,trivial⟩
abbrev qb:=eN [(50,c50)] {vV:=[(33,132),(41,132)],A4:=[(2,[0,1,5])],BD:=[(2,[1])],BR:=[(3,[0,1,5]),(7,[0,1,5]),(9,[0,1,5])],DR:=[(3,[0,1,5]),(7,[0,1,5]),(9,[0,1,5])]}
def Ash(z_:Int×Int×ASy):=sT 45 (Sf z_.1 z_.2.1) [ME z_.2.2]
def Aqr:=λ(a:AS2)=>xE 0 45 [(1,dI a.1)] [ME a.2]
def Asg b c d:=sT 45 (Sf b c) [ME d]
def Aqq(b:Int) c (d:ASy):=λ(e:AS2)=>xN 45 (Sf e.1 c) [ME e.2]
def Asf c g i:=sT 45 (Sf i c) [ME g]
def Aqp c (g:ASy) (i:Int):=λ(j:AS2)=>xN 45 (Sf j.1 c) [ME j.2]
def IB(c:Int)(g:ASy)(i:Int):ATC AS2:=
 if 0<=c/\c<g.length then
 (Ib i (g.getD c.toNat Ae.zero).2.2.1.1).bind λk=>some (k.1,g.set c.toNat ((g.getD c.toNat Ae.zero).1,(g.getD c.toNat Ae.zero).2.1,(k.2,(g.getD c.toNat Ae.zero).2.2.1.2),(g.getD c.toNat Ae.zero).2.2.2))
 else none
theorem Auo c g i:AP qb 1 9 (sb (cd f20 52) 6) 94 (Asf c g i) (IB c g i) (Aqp c g i):=by
 unfold AP;simp only[IB,ASb];kernel_rfl
def Ase c l n:=sT 45 (Sf l c) [ME n]
def Aqo c l (n:ASy):=λ(g:ASy)=>xN 45 (Sf l c) [ME g]
def IA(c l:Int)(n:ASy):ATC ASy:=
 if 0<=c/\c<n.length then
 some (n.set c.toNat ((n.getD c.toNat Ae.zero).1,(Int.tmod l 3)==0,(n.getD c.toNat Ae.zero).2.2))
 else none
theorem Aun c l n:AP qb 1 7 (sb (cd f20 52) 6) 22 (Ase c l n) (IA c l n) (Aqo c l n):=by
 unfold AP;simp only[IA,ASb];kernel_rfl
def IC(b c:Int)(d:ASy):ATC AS2:=
 if 0<=c/\c<d.length then
 (IA c (wI (b+1)) (d.set c.toNat (b,(d.getD c.toNat Ae.zero).2))).bind λg=>(IB c g (wI ((wI (b+1))+1))).bind λj=>if 0<=c/\c<j.2.length then
 (Ib j.1 (j.2.getD c.toNat Ae.zero).2.2.2.1.1).bind λo=>some (o.1,j.2.set c.toNat ((j.2.getD c.toNat Ae.zero).1,(j.2.getD c.toNat Ae.zero).2.1,(j.2.getD c.toNat Ae.zero).2.2.1,(o.2,(j.2.getD c.toNat Ae.zero).2.2.2.1.2),(j.2.getD c.toNat Ae.zero).2.2.2.2))
 else none
 else none
theorem Aup b c d:AP qb 1 3 (cd f20 52) 6 (Asg b c d) (IC b c d) (Aqq b c d):=by
 unfold AP;simp(disch:=refine id ?_;kernel_rfl) only[IC,ASb,A8 (Aun ..) (K:=Ud qb 1 3),A8 (Auo ..) (K:=Ud qb 1 3)];kernel_rfl
def Gx(b c:Int)(d:ASy):ATC ((Int×Int×ASy)⊕AS2):=
 bif decide (c<(d.length:Int))then
 (IC b c d).bind λe=>some (.inl (e.1,wI (c+1),e.2))
 else
 some (.inr (b,d))
def CX(z_:Int×Int×ASy):=Gx z_.1 z_.2.1 z_.2.2
def M5 b c d:=fix (CX) (b,c,d)
theorem Auq:A3 qb 1 2 (code f20) 26 (Ash) (CX) (Aqr):=by
 intro _;simp(disch:=refine id ?_;kernel_rfl) only[CX,Gx,ASb,A8 (Aup ..) (K:=Kk qb 1 2)];kernel_rfl
def Iz(q:Int)(s:ASy):ATC AS2:=
 (M5 q 0 s).bind λa=>some (a.1,a.2)
def c20:=Cc [.UY,.d ATl] [⟨[.k Kd,.AA [] ATl],[.row 61 .Av Ae],AS2,λp=>Iz p.1.2.1 p.2.1,λr=>(dI r.1,[ME r.2])⟩]
theorem AkM:Am prog 20 c20:=As (fn:=f20) ⟨⟨qb,pk ⟨Ak9,trivial⟩,λ_ R K=>by
 simp(disch:=refine id ?_;kernel_rfl) only[Iz,ASc,M5,AG (Auq) (K:=A2 qb f20 1 R K)];kernel_rfl⟩,trivial⟩
abbrev AoO:=eN [(51,c51)] {vV:=[(15,2)],A4:=[(2,[0,1,5])],BD:=[(2,[1])]}
def Asi(z_:Int×Int×ASG):=sT 19 (Sf z_.1 z_.2.1) [Bl z_.2.2]
def Aqs:=λ(a:ASX)=>xE 0 19 [(1,dI a.1)] [Bl a.2]
def HR(b c:Int)(d:ASG):ATC ((Int×Int×ASG)⊕ASX):=
 bif decide (c<(d.length:Int))then
 if 0<=c/\c<d.length then
 (Ia b (d.getD c.toNat ATo.zero)).bind λe=>some (.inl (e.1,wI (c+1),d.set c.toNat e.2))
 else none
 else
 some (.inr (b,d))
def Dh(z_:Int×Int×ASG):=HR z_.1 z_.2.1 z_.2.2
def OO b c d:=fix (Dh) (b,c,d)
theorem Aur:A3 AoO 1 2 (code f21) 26 (Asi) (Dh) (Aqs):=by
 intro _;simp only[Dh,HR,ASb];kernel_rfl
def JQ(g:Int)(i:ASG):ATC ASX:=
 (OO g 0 i).bind λa=>some (a.1,a.2)
def c21:=Cc [.UY,.d ATl] [⟨[.k Kd,.AA [] ATl],[.row 78 .Av ATo],ASX,λp=>JQ p.1.2.1 p.2.1,λr=>(dI r.1,[Bl r.2])⟩]
theorem AkN:Am prog 21 c21:=As (fn:=f21) ⟨⟨AoO,pk ⟨Aay,trivial⟩,λ_ R K=>by
 simp(disch:=refine id ?_;kernel_rfl) only[JQ,ASc,OO,AG (Aur) (K:=A2 AoO f21 1 R K)];kernel_rfl⟩,trivial⟩
abbrev AoP:=eN [] {A4:=[(2,[0,1,5])],BD:=[(2,[1,4])]}
def Asj a (z_:Int×Int):=sT 21 [(0,DT a),(1,dI z_.1),(5,dI z_.2)] []
def Aqt(a:ASs):=Sum.elim (λ(b:Int)=>xR 21 (Aju b) []) (λ(c:Int)=>xE 0 21 [(1,dI c)] [])
def Ix(a:ASs)(d e:Int):ATC (ASR⊕(Int⊕Int)):=
 bif decide (e<(a.length:Int))then
 if 0<=e/\e<a.length then
 bif (a.getD e.toNat ATl.zero) !=d then
 some (.inr (.inl d))
 else
 some (.inl (wI (d+1),wI (e+1)))
 else none
 else
 some (.inr (.inr d))
def DF a (z_:Int×Int):=Ix a z_.1 z_.2
def Qf a d e:=fix (DF a) (d,e)
theorem Aus a:A3 AoP 0 2 (code f52) 26 (Asj a) (DF a) (Aqt a):=by
 intro _;simp only[DF,Ix,ASb];kernel_rfl
def Li(a:ASs)(g:Int):ATC Int:=
 (Qf a g 0).bind (Sum.elim (λb=>some (-1)) (λc=>some c))
def c52:=Cc [.d ATo,.d ATl] [⟨[.AA [] ATo,.AA [] ATl],[],Int,λp=>Li p.1.1 p.1.2.1,λr=>(dI r,[])⟩]
theorem Ala:Am prog 52 c52:=As (fn:=f52) ⟨⟨AoP,pk trivial,λ_ R K=>by
 simp(disch:=refine id ?_;kernel_rfl) only[Li,ASc,Qf,AG (Aus _) (K:=A2 AoP f52 0 R K)];kernel_rfl⟩,trivial⟩
abbrev AoQ:=eN [(52,c52)] {A4:=[(2,[0,1,5])],BD:=[(2,[1,4])]}
def Asl a (z_:Int×Int):=sT 21 [(0,Dw a),(1,dI z_.1),(5,dI z_.2)] []
def Aqu(a:ASG):=Sum.elim (λ(b:Int)=>xR 21 (Aju b) []) (λ(c:Int)=>xE 0 21 [(1,dI c)] [])
def HQ(a:ASG)(d e:Int):ATC (ASR⊕(Int⊕Int)):=
 bif decide (e<(a.length:Int))then
 if 0<=e/\e<a.length then
 (Li (a.getD e.toNat ATo.zero) d).bind λg=>bif decide (g<0)then
 some (.inr (.inl g))
 else
 some (.inl (g,wI (e+1)))
 else none
 else
 some (.inr (.inr d))
def Df a (z_:Int×Int):=HQ a z_.1 z_.2
def OM a d e:=fix (Df a) (d,e)
theorem Aut a:A3 AoQ 0 2 (code f22) 26 (Asl a) (Df a) (Aqu a):=by
 intro _;simp only[Df,HQ,ASb];kernel_rfl
def G4(a:ASG)(i:Int):ATC Int:=
 (OM a i 0).bind (Sum.elim (λb=>some (-1)) (λc=>some c))
def c22:=Cc [.d ATy,.d ATl] [⟨[.AA [] ATy,.AA [] ATl],[],Int,λp=>G4 p.1.1 p.1.2.1,λr=>(dI r,[])⟩]
theorem AkO:Am prog 22 c22:=As (fn:=f22) ⟨⟨AoQ,pk ⟨Ala,trivial⟩,λ_ R K=>by
 simp(disch:=refine id ?_;kernel_rfl) only[G4,ASc,OM,AG (Aut _) (K:=A2 AoQ f22 0 R K)];kernel_rfl⟩,trivial⟩
abbrev tB:=eN [(5,c5),(6,c6),(9,c9),(10,c10),(13,c13),(14,c14),(16,c16),(17,c17),(18,c18),(19,c19),(20,c20),(21,c21),(22,c22)] {BR:=[(13,{Bc:=[0,1,6,7,8,9,10,11,53],Sp:=[(6,false,ATy)]}),(22,[0,1,6,7,10,82]),(33,{Bc:=[10,13,110],Sp:=[(10,false,ATy)]})],DR:=[(13,[0,1,6,7,8,9,10,11]),(22,[0,1,6,7,10,11,12]),(33,[6,7,10,13,15,16])],ig:=[(29,ATr),(31,ATt),(56,ATr),(61,ATt),(96,ATr),(98,ATt)]}
def Aso a b c d e g:=sT 119 [(6,Dw a),(7,dI b),(10,.AH 0),(13,dI c),(15,.AH 1),(16,dI d)] [Bl e,Bl g]
def Aqx(a:ASG)(b:Int) c (d:Int) e (g:ASG):=λ(i:Bool)=>xN 119 [(10,Dw e),(13,dI c),(110,dB i)] []
def FJ(a:ASG)(b c d:Int)(e g:ASG):ATC Bool:=
 (JM g a).bind λj=>bif !j then
 some true
 else
 some (d !=b)
theorem Auw a b c d e g:AP tB 0 33 (code f4) 134217724 (Aso a b c d e g) (FJ a b c d e g) (Aqx a b c d e g):=by
 unfold AP;simp only[FJ,ASb];kernel_rfl
def Asn k l n o q s t:=sT 119 [(0,Ar k),(1,Bw l),(6,Dw n),(7,dI o),(10,.AH 0),(11,dI q),(12,dI s)] [Bl t]
def Aqw k l n o (q:Int) (s:Int) t:=λ(u:Bool)=>xN 119 [(0,Ar k),(1,Bw l),(6,Dw n),(7,dI o),(10,.AH 0),(82,dB u)] [Bl t]
def FH(k:ASw)(l:ASy)(n:ASG)(o q s:Int)(t:ASG):ATC Bool:=
 bif decide (s<0)then
 some true
 else
 (JM t n).bind λv=>bif !v then
 some true
 else
 some (q !=o)
theorem Auv k l n o q s t:AP tB 0 22 (code f4) 524284 (Asn k l n o q s t) (FH k l n o q s t) (Aqw k l n o q s t):=by
 unfold AP;simp only[FH,ASb];kernel_rfl
def Asm k l w x y a1 b1 c1:=sT 119 [(0,Ar k),(1,Bw l),(6,.AH 0),(7,dI y),(8,.AH 1),(9,.AH 2),(10,.AH 3),(11,dI a1)] [Bl b1,Ws w,ME x,Bl c1]
def Aqv k l w x y a1 b1 c1:=λ(d1:Bool)=>xN 119 [(0,Ar k),(1,Bw l),(6,Dw b1),(7,dI y),(8,.AH 0),(9,.AH 1),(10,.AH 2),(11,dI a1),(53,dB d1)] [Ws w,ME x,Bl c1]
def FF(k:ASw)(l:ASy)(w:ASw)(x:ASy)(y a1:Int)(b1 c1:ASG):ATC Bool:=
 (JM c1 b1).bind λe1=>bif !e1 then
 some true
 else
 some (a1 !=y)
theorem Auu k l w x y a1 b1 c1:AP tB 0 13 (code f4) 8188 (Asm k l w x y a1 b1 c1) (FF k l w x y a1 b1 c1) (Aqv k l w x y a1 b1 c1):=by
 unfold AP;simp only[FF,ASb];kernel_rfl
def Iv(k:ASw)(l:ASy):ATC Bool:=
 (UF k 1048576).bind λg1=>bif decide (g1<0)then
 some true
 else
 (PG l g1).bind λi1=>bif decide (i1<0)then
 some true
 else
 (IG k).bind λj1=>(Er l).bind λk1=>(Pl j1 k1).bind λl1=>(IG k).bind λw=>(Er l).bind λx=>(Ls w x).bind λn1=>(FF k l w x l1.1 n1.1 l1.2 n1.2).bind λd1=>bif d1 then
 some false
 else
 (IG k).bind λo1=>(UE w o1).bind λq1=>bif !q1 then
 some false
 else
 (Er l).bind λs1=>(PF x s1).bind λt1=>bif !t1 then
 some false
 else
 (M4 1 w).bind λu1=>(Iz u1.1 x).bind λv1=>(FH k l l1.2 l1.1 n1.1 v1.1 n1.2).bind λu=>bif u then
 some false
 else
 (JQ 1 n1.2).bind λw1=>(G4 w1.2 1).bind λx1=>bif decide (x1<0)then
 some false
 else
 bif x1 !=w1.1 then
 some false
 else
 (IG k).bind λy1=>(Er l).bind λa2=>(Ls y1 a2).bind λb2=>(FJ l1.2 l1.1 w1.1 b2.1 w1.2 b2.2).bind λi=>bif i then
 some false
 else
 (G4 w1.2 1).bind λc2=>bif decide (c2<0)then
 some false
 else
 bif c2 !=w1.1 then
 some false
 else
 some true
theorem laws_FnExactSameVars_run R (k:ASw) (l:ASy) K:TP tB f4 R [Ar k,Bw l] [] K=(Iv k l).bind λr=>K (dB r) []:=by
 simp(disch:=refine id ?_;kernel_rfl) only[Iv,ASc,A8 (Auu ..) (K:=A2 tB f4 0 R K),A8 (Auv ..) (K:=A2 tB f4 0 R K),A8 (Auw ..) (K:=A2 tB f4 0 R K)];kernel_rfl
theorem laws_FnExactSameVars_ok:Jy prog tB:=(pk ⟨Au8,Ava,Avc,Akz,AkD,AkE,AkI,AkJ,AkK,AkL,AkM,AkN,AkO,trivial⟩)
end
end Go.Proofs.X
namespace Go.Va
def Ax{A:Type}(x:ATC A)(Q:A->Prop):Prop:=∃a,x=some a/\Q a
section
variable {A B S T:Type} {x y:ATC A} {P Q:A->Prop}
theorem Ax.mk{a:A}(h:Q a):Ax (some a) Q:=⟨a,rfl,h⟩
theorem Ax.of{a:A}(h:x=some a)(hq:Q a):Ax x Q:=⟨a,h,hq⟩
theorem Ax.eq_{a:A}(h:Ax x (·=a)):x=some a:=by obtain⟨b,h1,h2⟩:=h;rw[h1,h2]
theorem Ax.mono(h:Ax x P)(hq:∀a,P a->Q a):Ax x Q:=by obtain⟨a,h1,h2⟩:=h;exact⟨a,h1,hq a h2⟩
theorem Ax.bind{R:B->Prop}{f:A->ATC B}(h:Ax x P)(k:∀a,P a->Ax (f a) R):Ax (x.bind f) R:=by
 obtain⟨a,h1,h2⟩:=h;rw[h1];exact k a h2
theorem Ax.cond{c:Bool}(h1:c=true->Ax x Q)(h2:c=false->Ax y Q):Ax (bif c then x else y) Q:=by
 cases c
 ·exact h2 rfl
 ·exact h1 rfl
theorem Ax.ite{c:Prop}[Decidable c](hc:c)(h:Ax x Q):Ax (if c then x else none) Q:=by rw[AQe hc];exact h
theorem Ax.elim{R:B->Prop}{C D:Type}{f:C->ATC B}{g:D->ATC B}{z:C⊕D}(h1:∀c,z=.inl c->Ax (f c) R)(h2:∀d,z=.inr d->Ax (g d) R):Ax (Sum.elim f g z) R:=by
 cases z with
 |inl c=>exact h1 c rfl
 |inr d=>exact h2 d rfl
theorem Bn{f:S->ATC (S⊕T)}(I:Nat->S->Prop){Q:T->Prop}(step:∀n s,I n s->Ax (f s) λr=>match r with |.inl s'=>∃m,m<n/\I m s' |.inr t=>Q t):∀n s,I n s->Ax (fix f s) Q:=by
 intro n;induction n using Nat.strongRecOn with
 |_ n ih =>
  intro s hI;obtain⟨r,h1,h2⟩:=step n s hI;cases r with
  |inl s' =>
   obtain⟨m,hm,hI'⟩:=h2;rw[OZ h1];exact ih m hm s' hI'
  |inr t=>exact⟨t,Jz h1,h2⟩
theorem AaT{f:S->ATC (S⊕T)}(st:Nat->S){t:T}:∀(n k:Nat),(∀i,k<=i->i<k+n->f (st i)=some (.inl (st (i+1))))->f (st (k+n))=some (.inr t)->fix f (st k)=some t
 |0,k,_,he=>Jz he
 |n+1,k,hs,he=>by
  rw[OZ (hs k (AP2 _) (by omega))];exact AaT st n (k+1) (λi h1 h2=>hs i (by omega) (by omega)) (by rw[show k+1+n=k+(n+1) by omega];exact he)
theorem AW{f:S->ATC (S⊕T)}(st:Nat->S){t:T}(n:Nat)(hs:∀i,i<n->f (st i)=some (.inl (st (i+1))))(he:f (st n)=some (.inr t)):fix f (st 0)=some t :=
 AaT st n 0 (λi _ h=>hs i (by omega)) (by rw[AQs];exact he)
end
theorem BX{x:Int}(h1:-9223372036854775808<=x:=by omega)(h2:x<9223372036854775808:=by omega):wI x=x:=by
 simp only[wI,IntKind.wrap,IntKind.bits,IntKind.signed];simp;omega
theorem sU{x:Int}(h1:0<=x)(h2:x<18446744073709551616):IntKind.u64.wrap x=x:=by
 simp only[wI,IntKind.wrap,IntKind.bits,IntKind.signed];simp;omega
theorem pP{k n:Nat}(hk:k<n)(hn:n<=maxLen):wI ((k:Int)+1)=((k+1:Nat):Int):=by
 unfold maxLen at hn;rw[BX];omega
def Xx{A:Type}(F:A->A->ATC Bool)(a:A):Prop:=∀b,Ax (F a b) λr=>r=true↔a=b
theorem AaS{A:Type}{F:A->A->ATC Bool}{z:A}{a b:ATB A}(hl:a.length=b.length)(hn:a.length<=maxLen)(hF:∀x∈a,Xx F x){f:Int->ATC (Int⊕(Unit⊕Unit))}
    (hs:∀k:Nat,k<a.length->f (k:Int)=(F (a.getD k z) (b.getD k z)).bind λr=>bif !r then some (.inr (.inl ()))else some (.inl (wI ((k:Int)+1)))) (he:f (a.length:Int)=some (.inr (.inr ()))) :
    Ax (fix f 0) λt=>(t=.inr ()/\a=b)\/(t=.inl ()/\a≠b):=by
 refine Bn (λm (i:Int)=>∃k:Nat,i=(k:Int)/\k<=a.length/\m=a.length-k/\a.take k=b.take k) (λm i hI=>?_) (a.length) 0 ⟨0,rfl,AQH _,rfl,rfl⟩;obtain⟨k,rfl,hk,rfl,ht⟩:=hI;rcases AP7 k a.length with h |h
 ·rw[hs k h];have ha:a.getD k z=a[k]:=by simp[List.getD,h]
  have hb:b.getD k z=b[k]'(by omega):=by simp[List.getD,show k<b.length by omega]
  refine Ax.bind (hF (a.getD k z) (by rw[ha];exact AQE h) (b.getD k z)) λr hr=>?_;cases r with
  |false =>
   refine Ax.mk (.inr ⟨rfl,λe=>?_⟩);have:a.getD k z=b.getD k z:=by rw[e]
   have:=hr.2 this;cases this
  |true =>
   have e:=hr.1 rfl;refine Ax.mk ⟨a.length-(k+1),by omega,k+1,pP h hn,h,rfl,?_⟩;rw[AQO h,AQO (show k<b.length by omega),ht,<-ha,<-hb,e]
 ·have YB:k=a.length:=by omega
  subst YB;rw[he];refine Ax.mk (.inl ⟨rfl,?_⟩);rw[AP6 (AP2 _),AP6 (by omega)]at ht;exact ht
end Go.Va
namespace Go.Va
theorem Da{k n:Nat}(h:k<n):decide ((k:Int)<(n:Int))=true:=by simp;exact h
theorem Ep(n:Nat):decide ((n:Int)<(n:Int))=false:=by simp
theorem Bg{k n:Nat}(h:k<n):(0:Int)<=(k:Int)/\(k:Int)<(n:Int):=⟨by omega,by omega⟩
theorem YS{A:Type}{F:A->A->ATC Bool}{z:A}{G:ATB A->ATB A->ATC Bool}{r:ATB A->ATB A->Int->ATC (Int⊕(Unit⊕Unit))}
    (hG:∀a b,G a b=bif (a.length:Int) !=(b.length:Int)then some false else(fix (r a b) 0).bind (Sum.elim (λ_=>some false) λ_=>some true))
    (hr:∀a b i,r a b i=bif decide (i<(a.length:Int))then(if(0:Int)<=i/\i<(a.length:Int)then(if(0:Int)<=i/\i<(b.length:Int)then
     (F (a.getD i.toNat z) (b.getD i.toNat z)).bind λq=>bif !q then some (.inr (.inl ()))else some (.inl (wI (i+1)))else none)else none)else some (.inr (.inr ())))
    {a:ATB A} (hn:a.length<=maxLen) (hF:∀x∈a,Xx F x):Xx G a:=by
 intro b;rw[hG];refine Ax.cond (λh=>Ax.mk ⟨λh=>by(cases h),λe=>?_⟩) λh=>?_
 ·subst e;simp at h
 ·have hl:a.length=b.length:=by
    have:(a.length:Int)=(b.length:Int):=by simpa using h
    omega
  refine Ax.bind (AaS (z:=z) hl hn hF (λk hk=>?_) ?_) λt ht=>?_
  ·rw[hr,Da hk,AQc,AQe (Bg hk),AQe (Bg (by omega))];rfl
  ·rw[hr,Ep,AQb]
  ·rcases ht with ⟨rfl,e⟩|⟨rfl,e⟩
   ·exact Ax.mk ⟨λ_=>e,λ_=>rfl⟩
   ·exact Ax.mk ⟨λh=>by(cases h),λh=>(e h).elim⟩
end Go.Va
namespace Go.Proofs.X
open Go Go.Va
set_option maxRecDepth 100000
theorem Xr(s t:ByteArray):Jd s t=true↔s=t:=by
 unfold Jd;rw[ByteArray.toList_eq,ByteArray.toList_eq,AQ8];constructor
 ·intro h;cases s with
  |mk a=>cases t with
   |mk b=>simp at h;rw[h]
 ·rintro rfl;rfl
theorem qT{a:ASs}(hn:a.length<=maxLen):Xx Q9 a :=
 YS (F:=λx y=>some (x==y)) (z :=ATm.zero) (r:=Jr) (λ_ _=>rfl) (λ_ _ _=>rfl) hn λx _ y=>Ax.mk (by simp)
theorem gb{a:ASs}(hn:a.length<=maxLen):Xx Lx a :=
 YS (F:=λx y=>some (x==y)) (z :=ATl.zero) (r:=KD) (λ_ _=>rfl) (λ_ _ _=>rfl) hn λx _ y=>Ax.mk (by simp)
theorem AcI{a:ASk}(h:Ty.Wf Ah a):Xx TE a:=by
 intro b;obtain⟨w,ws,_⟩:=a;obtain⟨w',my,_⟩:=b;unfold TE;refine Ax.cond (λh1=>Ax.mk (by simp at h1;simp[h1])) λh1=>Ax.bind (qT h.2.1.1 my) λr hr=>Ax.cond (λh2=>Ax.mk (by simp at h1 h2;simp_all)) λh2=>Ax.mk (by simp at h1 h2;simp_all)
theorem AcJ(a:ASf):Xx (λx y=>some (M3 x y)) a:=by
 intro b;obtain⟨n,w,_⟩:=a;obtain⟨n',w',_⟩:=b;refine Ax.mk ?_;simp[M3,Xr]
theorem yL{a:ASw}(h:Ty.Wf ATr a):Xx UE a :=
 YS (F:=λx y=>some (M3 x y)) (z :=Ab.zero) (r:=L6) (λ_ _=>rfl) (λ_ _ _=>rfl) h.1 λx hx=>AcJ x
theorem yM{a:ASj}(h:Ty.Wf Ag a):Xx NN a:=by
 intro b;obtain⟨o,v,A,B,x,k,_⟩:=a;obtain⟨o',v',A',B',x',k',_⟩:=b;unfold NN;refine Ax.cond (λh1=>Ax.mk (by simp at h1;simp[h1])) λh1=>Ax.cond (λh2=>Ax.mk (by simp at h1 h2;simp[h2])) λh2=>Ax.cond (λh3=>Ax.mk (by simp at h1 h3;simp[h3])) λh3=>Ax.cond (λh3=>Ax.mk (by simp at h1 h3;simp[h3])) λh5 =>
  Ax.bind (AcI h.2.2.2.2.1 x') λr hr=>Ax.cond (λh4=>Ax.mk (by simp at h1 h2 h3 h4;simp_all)) λh4=>Ax.bind (gb h.2.2.2.2.2.1.1 k') λr2 hr2=>Ax.cond (λh6=>Ax.mk (by simp at h1 h2 h3 h4 h6;simp_all)) λh6=>Ax.mk (by simp at h1 h2 h3 h4 h5 h6;simp_all)
theorem uK{a:ASA}(h:Ty.Wf ATx a):Xx Te a :=
 YS (F:=NN) (z :=Ag.zero) (r:=KE) (λ_ _=>rfl) (λ_ _ _=>rfl) h.1 λx hx=>yM (h.2 x hx)
theorem oo{a:ASq}(h:Ty.Wf Aw a):Xx QC a:=by
 intro b;obtain⟨n,_⟩:=a;obtain⟨n',_⟩:=b;unfold QC;refine Ax.bind (uK h.1 n') λr1 gp=>Ax.cond (λh1=>Ax.mk (by simp at h1;simp_all)) λh1=>Ax.mk (by simp at h1;simp_all)
theorem qS{a:ASh}(h:Ty.Wf Ae a):Xx JO a:=by
 intro b;obtain⟨i,e,s,t,_⟩:=a;obtain⟨i',e',s',t',_⟩:=b;unfold JO;refine Ax.cond (λh1=>Ax.mk (by simp at h1;simp[h1])) λh1=>Ax.cond (λh2=>Ax.mk (by simp at h1 h2;simp[h2])) λh2 =>
  Ax.bind (oo h.2.2.1 s') λr hr=>Ax.cond (λh4=>Ax.mk (by simp at h1 h2 h4;simp_all)) λh4=>Ax.bind (oo h.2.2.2.1 t') λr2 hr2=>Ax.cond (λh6=>Ax.mk (by simp at h1 h2 h4 h6;simp_all)) λh6=>Ax.mk (by simp at h1 h2 h4 h6;simp_all)
theorem mG{a:ASy}(h:Ty.Wf ATt a):Xx PF a :=
 YS (F:=JO) (z :=Ae.zero) (r:=Iw) (λ_ _=>rfl) (λ_ _ _=>rfl) h.1 λx hx=>qS (h.2 x hx)
end Go.Proofs.X
namespace Go.Va
open Go.Proofs.X
def wt:(t:Ty)->t.V->Nat
 |.str,s=>s.size
 |.AE a b,x=>wt a x.1+wt b x.2
 |.sl t,xs=>xs.length+(xs.map (wt t)).sum
 |.int _,_=>0
 |.bool,_=>0
 |.unit,_=>0
 |.R4 _,_=>0
def ia(t:Ty)(F:t.V->Int->ATC Int)(x:t.V):Prop:=∀left:Int,0<=left->left<=1048576->F x left=some (if(wt t x:Int)<=left then left-(wt t x:Int)else -1)
theorem zQ{t:Ty}{F:t.V->Int->ATC Int}{z:t.V}{G:ATB t.V->Int->ATC Int}{r:ATB t.V->Int×Int->ATC (ASR⊕(Int⊕Int))}
    (hG:∀a left,G a left=bif decide ((wI (left-(a.length:Int)))<0)then some (-1)else(fix (r a) (wI (left-(a.length:Int)),0)).bind (Sum.elim (λ_=>some (-1)) λy=>some y))
    (hr:∀a x,r a x=bif decide (x.2<(a.length:Int))then(if(0:Int)<=x.2/\x.2<(a.length:Int)then
     (F (a.getD x.2.toNat z) x.1).bind λq=>bif decide (q<0)then some (.inr (.inl q))else some (.inl (q,wI (x.2+1)))else none)else some (.inr (.inr x.1)))
    {a:ATB t.V} (hn:a.length<=maxLen) (hF:∀x∈a,ia t F x):ia (.sl t) G a:=by
 intro left h0 h1;have hm:maxLen=140737488355327\/True:=.inr trivial;have hw:wI (left-(a.length:Int))=left-(a.length:Int):=by unfold maxLen at hn;exact BX
 rw[hG,hw];have hwt:wt (.sl t) a=a.length+(a.map (wt t)).sum:=rfl;rw[hwt];by_cases AF2:left-(a.length:Int)<0
 ·rw[show decide (left-(a.length:Int)<0)=true by simpa using AF2,AQc,P9]
 ·rw[show decide (left-(a.length:Int)<0)=false by simpa using AF2,AQb];have key:Ax (fix (r a) (left-(a.length:Int),0)) λy=>(∃q,y=.inl q/\left<((a.length+(a.map (wt t)).sum:Nat):Int))\/y=.inr (left-((a.length+(a.map (wt t)).sum:Nat):Int))/\((a.length+(a.map (wt t)).sum:Nat):Int)<=left:=by
   refine Bn (λm (x:Int×Int)=>∃k:Nat,x.2=(k:Int)/\k<=a.length/\m=a.length-k/\x.1=left-(a.length:Int)-(((a.take k).map (wt t)).sum:Nat)/\0<=x.1) (λm x hI=>?_) a.length _ ⟨0,rfl,AQH _,rfl,by simp,by show 0<=left-(a.length:Int);omega⟩;obtain⟨l,i⟩:=x;obtain⟨k,hk1,hk,rfl,hl,kG⟩:=hI;simp only at hk1 hl kG;subst hk1;rw[hr];simp only;rcases AP7 k a.length with h |h
   ·rw[Da h,AQc,AQe (Bg h)];have ha:a.getD k z=a[k]:=by simp[List.getD,h]
    have Ac2:((a.take (k+1)).map (wt t)).sum=((a.take k).map (wt t)).sum+wt t a[k]:=by
     rw[AQO h,AQG,ARq];simp
    have AJR:((a.take (k+1)).map (wt t)).sum<=(a.map (wt t)).sum:=by
     conv=>rhs;rw[<-ARa (k+1) a,AQG,ARq]
     omega
    rw[show(k:Int).toNat=k from APX k,ha,hF _ (AQE h) l kG (by omega),APW];split
    ·rename_i QP;rw[show decide (l-(wt t a[k]:Int)<0)=false by simpa using QP,AQb];exact Ax.mk ⟨a.length-(k+1),by omega,k+1,pP h hn,h,rfl,by rw[Ac2,hl];push_cast;omega,by show 0<=l-_;omega⟩
    ·rename_i hgt;refine Ax.mk (.inl ⟨_,rfl,?_⟩)
     push_cast
     rw[Ac2]at AJR;omega
   ·have YB:k=a.length:=by omega
    subst YB;rw[Ep,AQb];rw[AP6 (AP2 _)]at hl;exact Ax.mk (.inr ⟨by rw[hl];push_cast;rw[Int.sub_sub],by push_cast;omega⟩)
  obtain⟨y,hy,hq⟩:=key;rw[hy];rcases hq with ⟨q,rfl,Bp⟩|⟨rfl,QP⟩
  ·rw[P9];rfl
  ·rw[AQe QP];rfl
end Go.Va
namespace Go.Proofs.X
open Go Go.Va
theorem AbD{A:Type}{xs:ATB A}{left:Int}(h0:0<=left)(h1:left<=1048576)(hn:xs.length<=maxLen):(bif decide ((wI (left-(xs.length:Int)))<0)then(-1)else wI (left-(xs.length:Int)))=if(xs.length:Int)<=left then left-(xs.length:Int)else -1:=by
 unfold maxLen at hn;rw[BX];split
 ·rw[show decide (left-(xs.length:Int)<0)=false by simp;omega];rfl
 ·rw[show decide (left-(xs.length:Int)<0)=true by simp;omega];rfl
theorem wX{A:Type}{f:A->Nat}(h:∀x,f x=0)(xs:ATB A):(xs.map f).sum=0:=by
 induction xs with
 |nil=>rfl
 |cons x xs ih=>simp[h,ih]
theorem z8(a:ASs):wt ATv a=a.length:=congrArg (a.length+·) (wX (λ_=>rfl) a)
theorem z7(a:ASs):wt ATo a=a.length:=congrArg (a.length+·) (wX (λ_=>rfl) a)
theorem sJ{a:ASs}(hn:a.length<=maxLen):ia ATv (λx l=>some (CM x l)) a:=λleft h0 h1=>by
 show some (CM a left)=_;rw[CM,AbD h0 h1 hn,z8]
theorem wY{a:ASs}(hn:a.length<=maxLen):ia ATo (λx l=>some (Dl x l)) a:=λleft h0 h1=>by
 show some (Dl a left)=_;rw[Dl,AbD h0 h1 hn,z7]
end Go.Proofs.X
namespace Go.Va
open Go.Proofs.X
section
variable {A B:Type} {Q:A->Prop} {x y:ATC A}
theorem TN{a:A}:Ax (some a) Q↔Q a:=⟨λ⟨_,h,q⟩=>by grind,λh=>⟨a,rfl,h⟩⟩
end
theorem BW{X S T:Type}{f:X->ATC (X⊕T)}(st:Nat->S->X)(n:Nat)(I:Nat->S->Prop){Q:T->Prop}
    (h:∀k s,k<n->I k s->Ax (f (st k s)) λr=>match r with |.inl x=>∃s',x=st (k+1) s'/\I (k+1) s' |.inr t=>Q t)
    (he:∀s,I n s->Ax (f (st n s)) λr=>match r with |.inl _=>False |.inr t=>Q t) {s0:S} (h0:I 0 s0):Ax (fix f (st 0 s0)) Q:=by
 refine Bn (λm x=>∃k s,x=st k s/\k<=n/\m=n-k/\I k s) (λm x hI=>?_) n _ ⟨0,s0,rfl,AQH _,rfl,h0⟩;obtain⟨k,s,rfl,hk,rfl,hI⟩:=hI;rcases AP7 k n with Bp |ZO
 ·refine(h k s Bp hI).mono λr hr=>?_;cases r with
  |inl x =>
   obtain⟨s',rfl,hI'⟩:=hr;exact⟨n-(k+1),by omega,k+1,s',rfl,Bp,rfl,hI'⟩
  |inr t=>grind
 ·have:k=n:=by omega
  subst this;refine(he s hI).mono λr hr=>?_
  grind
def QQ(x:Int):Prop:=0<=x/\x<18446744073709551616
def tb(x:Int)(j:Nat):Bool:=x.toNat.testBit j
theorem QQ.toNat{x:Int}(h:QQ x):x.toNat<2^64:=by unfold QQ at h;omega
theorem QQ.of{n:Nat}(h:n<2^64):QQ (n:Int):=by unfold QQ;omega
theorem Z0{x:Int}(h:QQ x){j:Nat}(hj:64<=j):tb x j=false :=
 Nat.testBit_lt_two_pow (AQy h.toNat (Nat.pow_le_pow_right (by decide) hj))
theorem QQ.ext{x y:Int}(hx:QQ x)(hy:QQ y)(h:∀j,j<64->tb x j=tb y j):x=y:=by
 have :=Nat.eq_of_testBit_eq λj=>by
  rcases AP7 j 64 with hj |hj
  ·exact h j hj
  ·exact(Z0 hx hj).trans (Z0 hy hj).symm
 unfold QQ at hx hy;omega
theorem ma{n:Nat}(h:n<2^64):IntKind.u64.wrap (n:Int)=(n:Int):=sU (by omega) (by omega)
theorem Wj{x:Int}(h:QQ x):(BitVec.ofInt 64 x).toNat=x.toNat:=by
 unfold QQ at h;simp;omega
theorem Aii{a b:Int}(ha:QQ a)(hb:QQ b):iz .u64 a b=((a.toNat ||| b.toNat:Nat):Int):=by
 show IntKind.u64.wrap (((BitVec.ofInt 64 a ||| BitVec.ofInt 64 b).toNat))=_;rw[ma (BitVec.isLt _),BitVec.toNat_or,Wj ha,Wj hb]
theorem Aam{a b:Int}(ha:QQ a)(hb:QQ b):ib .u64 a b=((a.toNat &&& b.toNat:Nat):Int):=by
 show IntKind.u64.wrap (((BitVec.ofInt 64 a &&& BitVec.ofInt 64 b).toNat))=_;rw[ma (BitVec.isLt _),BitVec.toNat_and,Wj ha,Wj hb]
theorem sP{a b:Int}(ha:QQ a)(hb:QQ b):QQ (iz .u64 a b):=by
 rw[Aii ha hb];exact .of (Nat.or_lt_two_pow ha.toNat hb.toNat)
theorem AbL{a b:Int}(ha:QQ a)(hb:QQ b):QQ (ib .u64 a b):=by
 rw[Aam ha hb];exact .of (Nat.and_lt_two_pow _ hb.toNat)
theorem AbF{a b:Int}(ha:QQ a)(hb:QQ b)(j:Nat):tb (iz .u64 a b) j=(tb a j||tb b j):=by
 rw[Aii ha hb,tb,APX,Nat.testBit_or];rfl
theorem Ajf{a b:Int}(ha:QQ a)(hb:QQ b)(j:Nat):tb (ib .u64 a b) j=(tb a j&&tb b j):=by
 rw[Aam ha hb,tb,APX,Nat.testBit_and];rfl
theorem Abz{a:Int}(ha:QQ a){s:Int}{n:Nat}(hs:s=(n:Int))(hn:n<=64):SG .u64 a s=((a.toNat/2^n:Nat):Int):=by
 subst hs;unfold QQ at ha;obtain⟨m,rfl⟩:∃m:Nat,a=m:=⟨a.toNat,by omega⟩;have h:SG .u64 _ n=Int.fdiv m (2^min _ 64):=rfl
 grind
theorem dX{a:Int}(ha:QQ a){s:Int}{n:Nat}(hs:s=(n:Int))(hn:n<=64):QQ (SG .u64 a s):=by
 rw[Abz ha hs hn];exact .of (Nat.lt_of_le_of_lt (Nat.div_le_self _ _) ha.toNat)
theorem b6{a:Int}(ha:QQ a){s:Int}{n:Nat}(hs:s=(n:Int))(hn:n<=64)(j:Nat):tb (SG .u64 a s) j=tb a (j+n):=by
 rw[Abz ha hs hn,tb,APX,Nat.testBit_div_two_pow,tb]
theorem sx{a:Int}(ha:QQ a){s:Int}{n:Nat}(hs:s=(n:Int))(hn:n<=64):Ph .u64 a s=((a.toNat*2^n%18446744073709551616:Nat):Int):=by
 subst hs;unfold QQ at ha;obtain⟨m,rfl⟩:∃m:Nat,a=m:=⟨a.toNat,by omega⟩;have h:Ph .u64 _ n=IntKind.u64.wrap (m*2^min _ 64):=rfl;have hw:∀x ,IntKind.u64.wrap x=x%18446744073709551616:=λx=>by simp[IntKind.wrap,IntKind.bits,IntKind.signed]
 grind
theorem sQ{a:Int}(ha:QQ a){s:Int}{n:Nat}(hs:s=(n:Int))(hn:n<=64):QQ (Ph .u64 a s):=by
 rw[sx ha hs hn];exact .of (Nat.mod_lt _ (by omega))
theorem zT{a:Int}(ha:QQ a){s:Int}{n:Nat}(hs:s=(n:Int))(hn:n<=64)(j:Nat):tb (Ph .u64 a s) j=(decide (j<64)&&(decide (n<=j)&&tb a (j-n))):=by
 rw[sx ha hs hn,tb,APX,show 18446744073709551616=2^64 from by decide,Nat.testBit_mod_two_pow,Nat.testBit_mul_two_pow,tb]
theorem XX(j:Nat):tb 0 j=false:=by simp[tb]
theorem Zq:QQ 0:=by unfold QQ;omega
theorem dW:QQ 1:=by unfold QQ;omega
theorem Abn{s:Int}{n:Nat}(hs:s=(n:Int))(hn:n<64):IntKind.u64.wrap (Ph .u64 1 s-1)=((2^n-1:Nat):Int):=by
 have h1 :=Nat.two_pow_pos n;have h2:2^n<2^64:=Nat.pow_lt_pow_right (by decide) hn;rw[sx dW hs (by omega)];rw[show(1:Int).toNat*2^n%18446744073709551616=2^n by grind];rw[show((2^n:Nat))-1=((2^n-1:Nat):Int) by omega];exact ma (by omega)
theorem Ajn{s:Int}{n:Nat}(hs:s=(n:Int))(hn:n<64):QQ (IntKind.u64.wrap (Ph .u64 1 s-1)):=by
 have h2:2^n<2^64:=Nat.pow_lt_pow_right (by decide) hn;rw[Abn hs hn];exact .of (by omega)
theorem AmS{s:Int}{n:Nat}(hs:s=(n:Int))(hn:n<64)(j:Nat):tb (IntKind.u64.wrap (Ph .u64 1 s-1)) j=decide (j<n):=by
 rw[Abn hs hn,tb,APX,Nat.testBit_two_pow_sub_one]
theorem Ajg(j:Nat):tb 1 j=decide (j=0):=by
 show Nat.testBit 1 j=_;cases j with
 |zero=>rfl
 |succ j=>grind
theorem oq{a:Int}(ha:QQ a):ib .u64 a 1=if tb a 0 then 1 else 0:=by
 refine QQ.ext (AbL ha dW) (by split<;>first |exact dW |exact Zq) λj _=>?_
 rw[Ajf ha dW];by_cases h:j=0
 ·subst h;cases h:tb a 0<;>simp[XX]
 ·cases h':tb a 0<;>simp[Ajg,XX,h]
def Em(ws:ASs):Prop:=∀x∈ws,QQ x
def bt(ws:ASs)(i:Nat):Bool:=tb (ws.getD (i/64) 0) (i%64)
theorem Em.getD{ws:ASs}(h:Em ws)(k:Nat):QQ (ws.getD k 0):=by
 rcases AP7 k _ with hk |hk
 ·rw[show ws.getD k 0=ws[k] by grind];exact h _ (AQE hk)
 ·rw[show ws.getD k 0=0 by grind];exact Zq
theorem Em.set{ws:ASs}(h:Em ws){k:Nat}{x:Int}(hx:QQ x):Em (ws.set k x):=λy hy=>by
 rcases List.mem_or_eq_of_mem_set hy with h' |rfl
 ·exact h y h'
 ·grind
theorem Em.rep{n:Nat}:Em (List.replicate n 0):=λx hx=>by rw[(List.mem_replicate.1 hx).2];exact Zq
theorem Afq(n i:Nat):bt (List.replicate n 0) i=false:=by
 unfold bt;rw[show(List.replicate n (0:Int)).getD _ 0=0 by grind];exact XX _
theorem Zz{ws:ASs}{i:Nat}(h:64*ws.length<=i):bt ws i=false:=by
 unfold bt;rw[show ws.getD _ 0=0 by grind];exact XX _
theorem aY{ws:ASs}{k:Nat}{x:Int}(hk:k<ws.length)(i:Nat):bt (ws.set k x) i=if i/64=k then tb x (i%64)else bt ws i:=by
 unfold bt
 grind
theorem UZ{a b:ASs}(ha:Em a)(hb:Em b)(hl:a.length=b.length)(h:∀i,i<64*a.length->bt a i=bt b i):a=b:=by
 refine AQV hl λk h1 h2=>QQ.ext (ha _ (AQE h1)) (hb _ (AQE h2)) λj hj=>?_;have:=h (64*k+j) (by omega);unfold bt at this
 grind
def pk(f:Nat->Bool):Nat->Nat
 |0=>0
 |n+1=>(if f n then 2^n else 0)+pk f n
theorem Aim(f:Nat->Bool):∀n,pk f n<2^n
 |0=>by simp[pk]
 |n+1=>by
  have:=Aim f n;unfold pk;split<;>omega
theorem zw(f:Nat->Bool):∀n j,(pk f n).testBit j=(decide (j<n)&&f j)
 |0,j=>by simp[pk]
 |n+1,j=>by
  have hl:=Aim f n;unfold pk;cases hf:f n with
  |false =>
   simp only[AQM,ARo,AQs,zw f n j]
   grind
  |true =>
   simp;rcases Nat.lt_trichotomy j n with h |h |h
   ·rw[Nat.testBit_two_pow_add_gt h,zw f n j];simp[h];omega
   ·subst h;rw[Nat.testBit_two_pow_add_eq,Nat.testBit_lt_two_pow hl];simp[hf]
   ·rw[Nat.testBit_lt_two_pow (AQy (show 2^n+pk f n<2^(n+1) by omega) (Nat.pow_le_pow_right (by decide) h))];simp;omega
def k8(f:Nat->Bool)(m:Nat):ASs:=(List.range m).map λk=>(pk (λj=>f (64*k+j)) 64:Int)
theorem HT(f:Nat->Bool)(m:Nat):(k8 f m).length=m:=by simp[k8]
theorem G5(f:Nat->Bool)(m:Nat):Em (k8 f m):=λx hx=>by
 obtain⟨k,_,rfl⟩:=List.mem_map.1 hx;exact .of (Aim _ _)
theorem k9(f:Nat->Bool)(m i:Nat):bt (k8 f m) i=(decide (i<64*m)&&f i):=by
 rcases AP7 i (64*m)with h |h
 ·unfold bt k8;rw[show((List.range m).map _).getD _ 0=(pk (λj=>f (64*(i/64)+j)) 64:Int) by
   grind,tb,APX,zw,show 64*(i/64)+i%64=i by omega]
  simp[h];omega
 ·rw[Zz (by rw[HT];exact h)];simp;omega
theorem Ajq{ws:ASs}(h:Em ws){f:Nat->Bool}(hf:∀i,i<64*ws.length->bt ws i=f i):ws=k8 f ws.length :=
 UZ h (G5 _ _) (HT _ _).symm λi hi=>by rw[hf i hi,k9];simp[hi]
theorem Ado{f g:Nat->Bool}{m:Nat}(h:∀i,i<64*m->f i=g i):k8 f m=k8 g m :=
 UZ (G5 _ _) (G5 _ _) (by rw[HT,HT]) λi hi=>by rw[HT]at hi;rw[k9,k9,h i hi]
def low(f:Nat->Bool)(n:Nat):Nat->Bool:=λi=>decide (i<n)&&f i
def nw(n:Nat):Nat:=(n+63)/64
end Go.Va
namespace Go.Proofs.X
open Go Go.Va
set_option maxRecDepth 100000
theorem fS{i:Nat}(h:i<4611686018427387904):wI (Int.tdiv (i:Int) 64)=((i/64:Nat):Int):=by
 rw[Int.tdiv_eq_ediv_of_nonneg (by omega),BX];omega
theorem X3(i:Nat):Int.tmod (i:Int) 64=((i%64:Nat):Int):=by
 rw[Int.tmod_eq_emod_of_nonneg (by omega)];omega
theorem Z3{n:Nat}(h:n<=1048576):wI (Int.tdiv (wI ((n:Int)+63)) 64)=((nw n:Nat):Int):=by
 rw[BX (x:=(n:Int)+63),show(n:Int)+63=((n+63:Nat):Int) by omega,fS (by omega)];rfl
def mkB(n:Nat)(f:Nat->Bool):ASk:=((n:Int),k8 (low f n) (nw n),())
def bI(b:Bool):Int:=if b then 1 else 0
def nO(n:Nat)(ws:ASs):Prop:=1<=n/\n<=4096/\ws.length=nw n/\Em ws/\∀i,n<=i->bt ws i=false
theorem nO.eq{n:Nat}{ws:ASs}(h:nO n ws):ws=k8 (low (bt ws) n) (nw n):=by
 obtain⟨_,_,hl,hw,hz⟩:=h
 conv=>lhs;rw[Ajq hw (f:=low (bt ws) n) λi hi=>by
  unfold low;by_cases h:i<n
  ·simp[h]
  ·rw[hz i (by omega)];simp]
 rw[hl]
theorem qz{n:Nat}{f:Nat->Bool}{i:Nat}(hi:i<n):bt (k8 (low f n) (nw n)) i=f i:=by
 rw[k9];unfold nw low;simp[hi];omega
theorem Kn{n:Nat}{f:Nat->Bool}{i:Nat}:bt (k8 (low f n) (nw n)) i=(decide (i<n)&&f i):=by
 by_cases h:i<n
 ·rw[qz h];simp[h]
 ·rw[k9];unfold low;simp[h]
theorem Adn{n:Nat}{f g:Nat->Bool}(h:∀i,i<n->f i=g i):mkB n f=mkB n g:=by
 unfold mkB;rw[Ado λi _=>show low f n i=low g n i by
  unfold low;by_cases hi:i<n
  ·simp[hi,h i hi]
  ·simp[hi]]
theorem kT{w:Int}{ws:ASs}(hw:Em ws){i:Nat}(hi:i<64*ws.length)(hn:ws.length<=1048576):I7 (w,ws,()) (i:Int)=some (bI (bt ws i)):=by
 unfold I7;rw[fS (by omega),X3,sU (by omega) (by omega)];rw[AQe ⟨by omega,by show((i/64:Nat):Int)<(ws.length:Int);omega⟩,P9,APX];show some (IntKind.u8.wrap (ib .u64 (SG .u64 (ws.getD (i/64) 0) ((i%64:Nat):Int)) 1))=_;rw[show IntKind.u8.wrap (ib .u64 (SG .u64 (ws.getD (i/64) 0) ((i%64:Nat):Int)) 1)=bI (bt ws i) by
  rw[oq (dX (hw.getD _) rfl (by omega)),b6 (hw.getD _) rfl (by omega),AQs];show IntKind.u8.wrap (bI (bt ws i))=_;cases bt ws i<;>rfl]
theorem Ajr{ws:ASs}(h:∀x∈ws,(IntKind.u64).min<=x/\x<=(IntKind.u64).max):Em ws:=λx hx=>by
 have:=h x hx;unfold QQ;simp only[IntKind.min,IntKind.max,IntKind.bits,IntKind.signed]at this;simp at this;omega
theorem nE{w:Int}{ws:ASs}(hw:Em ws)(hn:ws.length<=1048576):Ax (QE (w,ws,())) λr=>r=true↔∃n:Nat,w=(n:Int)/\nO n ws:=by
 unfold QE R3;refine Ax.cond (λh=>Ax.mk ?_) λh=>?_
 ·simp only[AQM,false_iff,not_exists,not_and]
  rintro n rfl ⟨h1,h2,h3,_⟩
  unfold nw at h3;simp only[BM,Z3 (show n<=1048576 by omega),ARh,ARk,ARv,AQN,ARt]at h;unfold nw at h;omega
 ·have hb:1<=w/\w<=4096:=by
    simp only[BM,AQ0,Bool.not_eq_false',AP3,AQ3]at h;omega
  obtain⟨n,rfl⟩:∃n:Nat,w=(n:Int):=⟨w.toNat,by omega⟩;have hl:ws.length=nw n:=by
   simp only[AQ0,ARr]at h;have h:=h.2;rw[Z3 (by omega)]at h;omega
  have key:Ax (VB ((n:Int),ws,()) (n:Int)) λt=>(t=.inl ()/\¬∀i,n<=i->bt ws i=false)\/(t=.inr ()/\∀i,n<=i->bt ws i=false):=by
   have QP:n<=64*ws.length:=by rw[hl];unfold nw;omega
   have hwr:wI (64*(ws.length:Int))=((64*ws.length:Nat):Int):=by
    rw[BX];omega
   refine BW (λk (_:Unit)=>((n+k:Nat):Int)) (64*ws.length-n) (λk _=>∀i,n<=i->i<n+k->bt ws i=false) (λk _ hk hI=>?_) (λ_ hI=>?_) (s0:=()) (λi h1 h2=>by omega)
   ·unfold JV NP;rw[show wI (64*((((n:Int),ws,()):ASk).2.1.length:Int))=((64*ws.length:Nat):Int)from hwr,Da (by omega),AQc,kT hw (by omega) hn,APW];cases hb:bt ws (n+k)with
    |true=>exact Ax.mk (.inl ⟨rfl,λh=>by rw[h _ (by omega)]at hb;cases hb⟩)
    |false =>
     refine Ax.mk ⟨(),?_,λi h1 h2=>?_⟩
     ·rw[BX];omega
     ·rcases AP7 i (n+k)with h |h
      ·exact hI i h1 h
      ·rw[show i=n+k by omega];exact hb
   ·unfold JV NP;rw[show wI (64*((((n:Int),ws,()):ASk).2.1.length:Int))=((64*ws.length:Nat):Int)from hwr,show n+(64*ws.length-n)=64*ws.length by omega,Ep,AQb];refine Ax.mk (.inr ⟨rfl,λi h=>?_⟩);rcases AP7 i (64*ws.length)with h' |h'
    ·exact hI i h (by omega)
    ·exact Zz h'
  refine Ax.bind key λt ht=>?_;rcases ht with ⟨rfl,h'⟩|⟨rfl,h'⟩
  ·refine Ax.mk ?_;simp only[AQM,false_iff,not_exists,not_and];intro m hm hp;obtain rfl:m=n:=by omega
   exact h' hp.2.2.2.2
  ·exact Ax.mk ⟨λ_=>⟨n,rfl,by omega,by omega,hl,hw,h'⟩,λ_=>rfl⟩
theorem mY{w:Int}{ws:ASs}(hw:Em ws)(hn:ws.length<=1048576):Ax (Qy (w,ws,())) λr=>r=true↔∃n:Nat,w=(n:Int)/\nO n ws:=by
 unfold Qy R3;refine Ax.cond (λh=>Ax.mk ?_) λh=>?_
 ·simp only[AQM,false_iff,not_exists,not_and]
  rintro n rfl ⟨h1,h2,h3,_⟩
  unfold nw at h3;simp only[AQ,Ck,Z3 (show n<=1048576 by omega),ARh,ARk,ARv,AQN,ARt]at h;unfold nw at h;omega
 ·have hb:1<=w/\w<=4096:=by
    simp only[AQ,AQ0,Bool.not_eq_false',AP3,AQ3]at h;omega
  obtain⟨n,rfl⟩:∃n:Nat,w=(n:Int):=⟨w.toNat,by omega⟩;have hl:ws.length=nw n:=by
   simp only[AQ0,ARr]at h;have h:=h.2;rw[Ck,Z3 (by omega)]at h;omega
  have e1:((n:Int),ws,()).1=(n:Int):=rfl;have iff:(∃m:Nat,(n:Int)=(m:Int)/\nO m ws)↔∀i,n<=i->bt ws i=false:=by
   constructor
   ·rintro⟨m,hm,hp⟩
    obtain rfl:n=m:=by omega
    exact hp.2.2.2.2
   ·exact λh=>⟨n,rfl,by omega,by omega,hl,hw,h⟩
  rw[iff];refine Ax.cond (λh=>Ax.mk ?_) λh=>?_
  ·have h:Int.tmod (n:Int) 64=0:=by simpa using h
   rw[X3]at h;refine⟨λ_ i hi=>Zz (by rw[hl];unfold nw;omega),λ_=>rfl⟩
  ·have h:Int.tmod (n:Int) 64≠0:=by simpa using h
   rw[X3]at h;have BU:0<ws.length:=by rw[hl];unfold nw;omega
   have gl:wI ((ws.length:Int)-1)=((ws.length-1:Nat):Int):=by rw[BX];omega
   have e2:wI (((((n:Int),ws,()):ASk).2.1.length:Int)-1)=((ws.length-1:Nat):Int):=gl;rw[e2,AQe ⟨by omega,by show((ws.length-1:Nat):Int)<(ws.length:Int);omega⟩];rw[show Int.tmod (((n:Int),ws,()):ASk).1 64=((n%64:Nat):Int)from X3 n,P9,APX];refine Ax.mk ?_;rw[AQ8];have mX:=hw.getD (ws.length-1);have h0:SG .u64 (ws.getD (ws.length-1) 0) ((n%64:Nat):Int)=0↔∀j,j<64->tb (ws.getD (ws.length-1) 0) (j+n%64)=false :=
    ⟨λe j _=>by rw[<-b6 mX rfl (by omega),e,XX],λe=>QQ.ext (dX mX rfl (by omega)) Zq λj hj=>by rw[b6 mX rfl (by omega),XX];exact e j hj⟩
   refine h0.trans ⟨λe i hi=>?_,λe j hj=>?_⟩
   ·rcases AP7 i (64*ws.length)with h' |h'
    ·unfold bt;rw[show i/64=ws.length-1 by rw[hl]at h'⊢;unfold nw at *;omega];have:=e (i%64-n%64) (by omega);rwa [show i%64-n%64+n%64=i%64 by rw[hl]at h';unfold nw at *;omega]at this
    ·exact Zz h'
   ·rcases AP7 (j+n%64) 64 with h' |h'
    ·have:=e (64*(ws.length-1)+(j+n%64)) (by rw[hl];unfold nw;omega);unfold bt at this;rwa [show(64*(ws.length-1)+(j+n%64))/64=ws.length-1 by omega,show(64*(ws.length-1)+(j+n%64))%64=j+n%64 by omega]at this
    ·exact Z0 mX h'
theorem AbP(k:IntKind):(Ty.zero (.int k):Int)=0:=rfl
theorem An6{a k:Nat}(h:a+64*k<1073741824):wI ((a:Int)+wI (64*(k:Int)))=((a+64*k:Nat):Int):=by
 rw[BX (x:=64*k),BX];omega
theorem A0{x:Int}{n:Nat}(h:x=(n:Int):=by omega)(hn:n<4611686018427387904:=by omega):wI x=(n:Int):=by rw[BX,h]
theorem Zr{n:Nat}(h:n<=1048576):GM (n:Int)=some ((n:Int),List.replicate (nw n) 0):=by
 have hn:nw n<=1048576:=by unfold nw;omega
 unfold GM Ck;rw[Z3 h,AQe ⟨rfl,by omega,by omega,by omega,by omega⟩,APX]
theorem Akx{ws:ASs}{k j:Nat}(hj:j<64):bt ws (64*k+j)=tb (ws.getD k 0) j:=by
 unfold bt
 grind
theorem Awk{a k:Nat}{d b:Int}{low row:ASs}(hw:Em low)(hr:Em row)(hk:k<low.length)(hb:a+64*k<1073741824)(Ge:(a+64*k)/64<row.length) :
    Ax (JC (a:Int) low d (k:Int) row b) λr=>Em r/\r.length=row.length/\∀i,i<64*row.length->bt r i=(bt row i||(decide (a+64*k<=i)&&(decide (i<a+64*k+64)&&bt low (i-a)))):=by
 unfold JC R3;obtain⟨q,hq⟩:∃q,q=(a+64*k)/64:=⟨_,rfl⟩;obtain⟨m,hm⟩:∃m,m=(a+64*k)%64:=⟨_,rfl⟩;have e1:wI (Int.tdiv (((a+64*k:Nat):Int)) 64)=(q:Int):=by rw[fS (by omega),hq]
 have e2:Int.tmod (((a+64*k:Nat):Int)) 64=(m:Int):=by rw[X3,hm]
 have e3:wI ((q:Int)+1)=((q+1:Nat):Int):=A0;have e4:wI (64-(m:Int))=((64-m:Nat):Int):=A0;have hlk:QQ (low.getD k 0):=hw.getD k;have Al1:∀i,a+64*k<=i->i<a+64*k+64->bt low (i-a)=tb (low.getD k 0) (i-a-64*k):=λi h1 h2=>by
  rw[<-Akx (ws:=low) (k:=k) (by omega)];congr 1;omega
 simp only[An6 hb,e1,e2,e3,e4,AP5,APX,AbP];rw[AQe (Bg hk),AQe ⟨by omega,by omega⟩,P9,AQe ⟨by omega,by omega⟩];have hsh:QQ (Ph .u64 (low.getD k 0) (m:Int)):=sQ hlk rfl (by omega);have hor:QQ (iz .u64 (row.getD q 0) (Ph .u64 (low.getD k 0) (m:Int))):=sP (hr.getD q) hsh;have hqr:q<row.length:=by omega
 have MP:∀i,bt (row.set q (iz .u64 (row.getD q 0) (Ph .u64 (low.getD k 0) (m:Int)))) i=(bt row i||(decide (i/64=q)&&(decide (a+64*k<=i)&&bt low (i-a)))):=λi=>by
  rw[aY hqr];by_cases h:i/64=q
  ·rw[AQe h,AbF (hr.getD q) hsh,zT hlk rfl (by omega)];have:bt row i=tb (row.getD q 0) (i%64):=by unfold bt;rw[h]
   rw[this];by_cases h2:a+64*k<=i
   ·rw[Al1 i h2 (by omega),show i-a-64*k=i%64-m by omega];simp[h,h2,show i%64<64 by omega,show m<=i%64 by omega]
   ·simp[h,h2,show ¬m<=i%64 by omega]
  ·rw[AQf h];simp[h]
 have HY:Em (row.set q (iz .u64 (row.getD q 0) (Ph .u64 (low.getD k 0) (m:Int)))):=hr.set hor;refine Ax.cond (λh=>?_) λh=>?_
 ·simp only[AP3,ARt,AQ3]at h;have yX:m≠0:=by omega
  have hq1:q+1<row.length:=by omega
  rw[AQe ⟨by omega,by omega⟩,P9,AQe ⟨by omega,by omega⟩];have hsr:QQ (SG .u64 (low.getD k 0) ((64-m:Nat):Int)):=dX hlk rfl (by omega);refine Ax.mk ⟨HY.set (sP (HY.getD _) hsr),by rw[AP5,AP5],λi hi=>?_⟩;show bt (List.set _ (q+1) (iz .u64 (List.getD _ (q+1) 0) (SG .u64 (low.getD k 0) ((64-m:Nat):Int)))) i=_;rw[aY (by rw[AP5];exact hq1)];by_cases h1:i/64=q+1
  ·rw[AQe h1,AbF (HY.getD _) hsr,b6 hlk rfl (by omega)];have:tb ((row.set q (iz .u64 (row.getD q 0) (Ph .u64 (low.getD k 0) (m:Int)))).getD (q+1) 0) (i%64)=bt (row.set q (iz .u64 (row.getD q 0) (Ph .u64 (low.getD k 0) (m:Int)))) i:=by unfold bt;rw[h1]
   rw[this,MP];rw[show decide (i/64=q)=false by simp;omega,show decide (a+64*k<=i)=true by simp;omega];by_cases h2:i<a+64*k+64
   ·rw[Al1 i (by omega) h2,show i-a-64*k=i%64+(64-m) by omega];simp[h2]
   ·rw[Z0 hlk (by omega)];simp[h2]
  ·rw[AQf h1,MP];by_cases h2:i/64=q
   ·simp only[h2,decide_true,ARY];by_cases h3:a+64*k<=i
    ·simp[h3,show i<a+64*k+64 by omega]
    ·simp[h3]
   ·rw [show(decide (a+64*k<=i)&&(decide (i<a+64*k+64)&&bt low (i-a)))=false by
      by_cases h3:a+64*k<=i
      ·simp[show ¬i<a+64*k+64 by omega]
      ·simp[h3]]
    simp[h2]
 ·refine Ax.mk ⟨HY,AP5,λi hi=>?_⟩;have h':m=0\/row.length<=q+1:=by
   rcases AQk m with h0 |h0
   ·exact .inl h0
   ·refine .inr ?_;simp only[ARv,ARr,AQN]at h;omega
  show bt (row.set q (iz .u64 (row.getD q 0) (Ph .u64 (low.getD k 0) (m:Int)))) i=_;rw[MP];by_cases h2:i/64=q
  ·simp only[h2,decide_true,ARY];by_cases h3:a+64*k<=i
   ·simp[h3,show i<a+64*k+64 by omega]
   ·simp[h3]
  ·rw [show(decide (a+64*k<=i)&&(decide (i<a+64*k+64)&&bt low (i-a)))=false by
     by_cases h3:a+64*k<=i
     ·simp[show ¬i<a+64*k+64 by omega]
     ·simp[h3]]
   simp[h2]
theorem Aiq{w b:Int}{a:Nat}{low row:ASs}(hw:Em low)(hr:Em row)(hl:low.length<=1048576)(ha:a<=1048576)(Ge:∀k,k<low.length->(a+64*k)/64<row.length) :
    Ax (O2 b (a:Int) (w,low,()) row) λr=>Em r/\r.length=row.length/\∀i,i<64*row.length->bt r i=(bt row i||(decide (a<=i)&&bt low (i-a))):=by
 refine Ax.bind (BW (λk (s:ASs)=>((k:Int),s)) low.length (λk s=>Em s/\s.length=row.length/\∀i,i<64*row.length->bt s i=(bt row i||(decide (a<=i)&&(decide (i<a+64*k)&&bt low (i-a))))) (Q:=λr=>Em r/\r.length=row.length/\∀i,i<64*row.length->bt r i=(bt row i||(decide (a<=i)&&bt low (i-a)))) (λk s hk hI=>?_) (λs hI=>?_) (s0:=row) ⟨hr,rfl,λi _=>by
     grind⟩) λr h=>Ax.mk h
 ·unfold Hl Kq;rw[Da hk];refine Ax.bind (Awk hw hI.1 hk (by omega) (by grind)) λr h=>Ax.mk ⟨r,?_,h.1,h.2.1.trans hI.2.1,λi hi=>?_⟩
  ·rw[show wI ((k:Int)+1)=((k+1:Nat):Int)from A0]
  grind
 ·unfold Hl Kq;rw[Ep];refine Ax.mk ⟨hI.1,hI.2.1,λi hi=>?_⟩;rw[hI.2.2 i hi];by_cases h1:a<=i
  ·by_cases h2:i<a+64*low.length
   ·grind
   ·rw[Zz (by omega:64*low.length<=i-a)];simp
  ·grind
theorem AmB{n m:Nat}{f g:Nat->Bool}(hn:n+m<=8192):Hk (mkB n f) (mkB m g)=some (((n+m:Nat):Int),k8 (low (λi=>if i<m then g i else f (i-m)) (n+m)) (nw (n+m))):=by
 unfold Hk mkB;refine Ax.eq_ ?_;rw[show wI _=((n+m:Nat))from A0,Zr (by omega),APW];refine Ax.bind (Aiq (a:=0) (G5 _ _) Em.rep (by rw[HT];unfold nw;omega) (by omega) λk hk=>by rw[HT]at hk;rw[AQt];unfold nw at *;omega) λr1 h1=>?_;rw[AQt]at h1;refine Ax.bind (Aiq  (G5 _ _) h1.1 (by rw[HT];unfold nw;omega) (by omega) λk hk=>by rw[HT]at hk;unfold nw at *;omega) λr2 h2=>Ax.mk ?_;refine congrArg _ (UZ h2.1 (G5 _ _) (by rw[h2.2.1,h1.2.1,HT]) λi hi=>?_);have tm:i<64*nw (n+m):=by grind
 rw[h2.2.2 i (by grind),h1.2.2 i tm,Afq,Kn,Kn,Kn]
 grind
theorem Avg{a k:Nat}{w w1 w2 j:Int}{ws row:ASs}(hw:Em ws)(hr:Em row)(hk:k<row.length)(hb:a+64*k<1073741824)(Ge:(a+64*k)/64<ws.length) :
    Ax (JB (a:Int) w1 w2 (k:Int) (w,ws,()) j row) λr=>Em r/\r.length=row.length/\∀i,bt r i=if i/64=k then bt ws (a+i)else bt row i:=by
 unfold JB R3;obtain⟨q,hq⟩:∃q,q=(a+64*k)/64:=⟨_,rfl⟩;obtain⟨m,hm⟩:∃m,m=(a+64*k)%64:=⟨_,rfl⟩;have e1:wI (Int.tdiv (((a+64*k:Nat):Int)) 64)=(q:Int):=by rw[fS (by omega),hq]
 have e2:Int.tmod (((a+64*k:Nat):Int)) 64=(m:Int):=by rw[X3,hm]
 have e3:wI ((q:Int)+1)=((q+1:Nat):Int):=A0;have e4:wI (64-(m:Int))=((64-m:Nat):Int):=A0;simp only[An6 hb,e1,e2,e3,e4,AP5,APX,AbP];rw[AQe ⟨by omega,by omega⟩,P9,AQe (Bg hk)];have hsr:QQ (SG .u64 (ws.getD q 0) (m:Int)):=dX (hw.getD q) rfl (by omega);have HY:Em (row.set k (SG .u64 (ws.getD q 0) (m:Int))):=hr.set hsr;have Y3:(row.set k (SG .u64 (ws.getD q 0) (m:Int))).getD k 0=SG .u64 (ws.getD q 0) (m:Int):=by simp[List.getD,hk]
 refine Ax.cond (λh=>?_) λh=>?_
 ·simp only[AP3,ARt,AQ3]at h;rw[AQe (Bg hk),AQe ⟨by omega,by omega⟩,P9,AQe (Bg hk),Y3];have Im:QQ (Ph .u64 (ws.getD (q+1) 0) ((64-m:Nat):Int)):=sQ (hw.getD _) rfl (by omega);refine Ax.mk ⟨HY.set (sP hsr Im),by rw[AP5,AP5],λi=>?_⟩;rw[aY (by rw[AP5];exact hk)];by_cases h1:i/64=k
  ·rw[AQe h1,AQe h1,AbF hsr Im,b6 (hw.getD _) rfl (by omega),zT (hw.getD _) rfl (by omega)];by_cases h2:i%64+m<64
   ·rw[show decide (64-m<=i%64)=false by simp;omega];unfold bt;rw[show(a+i)/64=q by omega,show(a+i)%64=i%64+m by omega];simp
   ·rw[Z0 (hw.getD _) (by omega)];unfold bt;rw[show(a+i)/64=q+1 by omega,show(a+i)%64=i%64-(64-m) by omega];simp[show i%64<64 by omega,show 64<=i%64+m by omega]
  ·rw[AQf h1,AQf h1,aY hk,AQf h1]
 ·have h':m=0\/ws.length<=q+1:=by
    rcases AQk m with h0 |h0
    ·exact .inl h0
    ·refine .inr ?_;simp only[ARv,ARr,AQN]at h;omega
  refine Ax.mk ⟨HY,AP5,λi=>?_⟩;rw[aY hk];by_cases h1:i/64=k
  ·rw[AQe h1,AQe h1,b6 (hw.getD _) rfl (by omega)];by_cases h2:i%64+m<64
   ·unfold bt;rw[show(a+i)/64=q by omega,show(a+i)%64=i%64+m by omega]
   ·rw[Z0 (hw.getD _) (by omega),Zz (by omega)]
  ·rw[AQf h1,AQf h1]
theorem Avh{n a w:Nat}{f:Nat->Bool}(hn:n<=1048576)(h1:1<=w)(h:a+w<=n):Fa (mkB n f) (a:Int) (w:Int)=some ((w:Int),k8 (low (λi=>f (a+i)) w) (nw w)):=by
 unfold Fa mkB;refine Ax.eq_ ?_;rw[Zr (by omega),APW];show Ax ((Nt (a:Int) (w:Int) ((n:Int),k8 (low f n) (nw n),()) (((List.replicate (nw w) (0:Int)).length:Nat):Int) (w:Int) 0 (List.replicate (nw w) 0)).bind _) _;rw[AQt];have hwl:1<=nw w:=by unfold nw;omega
 refine Ax.bind (P:=λr=>Em r/\r.length=nw w/\∀i,i<64*nw w->bt r i=bt (k8 (low f n) (nw n)) (a+i)) ?_ λr hr=>?_
 ·unfold Nt;refine BW (λk (s:ASs)=>((k:Int),s)) (nw w) (λk s=>Em s/\s.length=nw w/\∀i,i<64*k->bt s i=bt (k8 (low f n) (nw n)) (a+i)) (λk s hk hI=>?_) (λs hI=>?_) (s0:=List.replicate (nw w) 0) ⟨Em.rep,AQt,λi hi=>by omega⟩
  ·unfold Hj Kp;simp only;rw[Da hk,AQc];refine Ax.bind (Avg (G5 _ _) hI.1 (by rw[hI.2.1];exact hk) (by unfold nw at hk;omega) (by rw[HT];unfold nw at *;omega)) λr h=>Ax.mk ⟨r,?_,h.1,h.2.1.trans hI.2.1,λi hi=>?_⟩
   ·rw[show wI ((k:Int)+1)=((k+1:Nat):Int)from A0 (by omega) (by unfold nw at hk;omega)]
   ·rw[h.2.2 i];by_cases h3:i/64=k
    ·rw[AQe h3]
    ·rw[AQf h3,hI.2.2 i (by omega)]
  ·unfold Hj Kp;simp only;rw[Ep,AQb];exact Ax.mk hI
 ·unfold Nu;obtain⟨m,hm⟩:∃m,m=w%64:=⟨_,rfl⟩;have e2:Int.tmod (w:Int) 64=(m:Int):=by rw[X3,hm]
  have e3:wI ((r.length:Int)-1)=((nw w-1:Nat):Int):=by rw[hr.2.1];exact A0 (by omega) (by unfold nw;omega)
  simp only[e2,e3,APX,AbP];refine Ax.bind (P:=λx=>x=k8 (low (λi=>f (a+i)) w) (nw w)) (Ax.cond (λh=>?_) λh=>?_) λx hx=>Ax.mk (by rw[hx])
  ·simp only[ARt]at h;rw[AQe ⟨by omega,by rw[hr.2.1];omega⟩,P9,AQe ⟨by omega,by rw[hr.2.1];omega⟩];have rA:QQ (IntKind.u64.wrap (Ph .u64 1 (m:Int)-1)):=Ajn rfl (by omega);refine Ax.mk (UZ (hr.1.set (AbL (hr.1.getD _) rA)) (G5 _ _) (by rw[AP5,hr.2.1,HT]) λi hi=>?_);rw[AP5,hr.2.1]at hi;rw[aY (by rw[hr.2.1];omega),Kn];by_cases h3:i/64=nw w-1
   ·rw[AQe h3,Ajf (hr.1.getD _) rA,AmS rfl (by omega)];have:tb (r.getD (nw w-1) 0) (i%64)=bt r i:=by unfold bt;rw[h3]
    rw[this,hr.2.2 i hi,Kn];unfold nw at h3;by_cases h4:i<w
    ·simp[h4,show a+i<n by omega,show i%64<m by omega]
    ·simp[h4,show ¬i%64<m by omega]
   ·rw[AQf h3,hr.2.2 i hi,Kn];unfold nw at h3 hi;simp[show i<w by omega,show a+i<n by omega]
  ·have h0:m=0:=by
     have:(m:Int)=0:=by simpa using h
     omega
   refine Ax.mk (UZ hr.1 (G5 _ _) (by rw[hr.2.1,HT]) λi hi=>?_);rw[hr.2.1]at hi;rw[hr.2.2 i hi,Kn,Kn];unfold nw at hi;simp[show i<w by omega,show a+i<n by omega]
theorem oN{l:ASt}(h1:1<=l.length)(h2:l.length<=4096):QF (l.map bI)=some ((l.length:Int),true,k8 (low (λi=>l.getD i false) l.length) (nw l.length)):=by
 unfold QF R3;refine Ax.eq_ ?_;rw[AP8];have hn:nw l.length<=1048576:=by unfold nw;omega
 rw[show(decide ((l.length:Int)<1)||decide ((l.length:Int)>4096))=false by simp;omega,AQb,Z3 (by omega),AQe ⟨rfl,by omega,by omega,by omega,by omega⟩,APX];unfold VC;refine Ax.bind (BW (λk (s:ASs)=>((k:Int),s)) l.length (λk s=>Em s/\s.length=nw l.length/\∀i,bt s i=(decide (i<k)&&l.getD i false)) (Q:=λr=>r=k8 (low (λi=>l.getD i false) l.length) (nw l.length)) (λk s hk hI=>?_) (λs hI=>?_) (s0:=List.replicate (nw l.length) 0) ⟨Em.rep,AQt,λi=>by rw[Afq];simp⟩) λr hr=>Ax.mk (by rw[hr])
 ·unfold J5 NZ;have hq:k/64<s.length:=by rw[hI.2.1];unfold nw;omega
  have AFv:QQ (bI (l.getD k false)):=by unfold bI;split<;>first |exact dW |exact Zq
  have AJW:IntKind.u64.wrap (bI (l.getD k false))=bI (l.getD k false):=by cases l.getD k false<;>rfl
  have Xa:(l.map bI).getD k 0=bI (l.getD k false):=by simp[List.getD,hk]
  simp only[AP8,fS (show k<4611686018427387904 by omega),X3,APX,AbP,Xa,AJW,sU (show(0:Int)<=((k%64:Nat):Int) by omega) (by omega)];rw[Da hk,AQc,AQe ⟨by omega,by omega⟩,AQe (Bg hk),P9,AQe ⟨by omega,by omega⟩];have Im:QQ (Ph .u64 (bI (l.getD k false)) ((k%64:Nat):Int)):=sQ AFv rfl (by omega);refine Ax.mk ⟨_,by rw[show wI ((k:Int)+1)=((k+1:Nat):Int)from A0],hI.1.set (sP (hI.1.getD _) Im),by rw[AP5];exact hI.2.1,λi=>?_⟩;rw[aY hq];have tbb:∀b j,tb (bI b) j=(decide (j=0)&&b):=λb j=>by cases b<;>simp[bI,Ajg,XX]
  by_cases h3:i/64=k/64
  ·rw[AQe h3,AbF (hI.1.getD _) Im,zT AFv rfl (by omega),tbb];have:tb (s.getD (k/64) 0) (i%64)=bt s i:=by unfold bt;rw[h3]
   rw[this,hI.2.2 i];rcases Nat.lt_trichotomy i k with h |h |h
   ·simp[h,show i<k+1 by omega,show ¬k%64<=i%64 by omega]
   ·subst h;simp[show i%64<64 by omega]
   ·simp[show ¬i<k by omega,show ¬i<k+1 by omega];omega
  ·rw[AQf h3,hI.2.2 i];by_cases h:i<k
   ·simp[h,show i<k+1 by omega]
   ·simp[h,show ¬i<k+1 by omega]
 ·unfold J5 NZ;rw[AP8,Ep,AQb];refine Ax.mk (UZ hI.1 (G5 _ _) (by rw[HT];exact hI.2.1) λi hi=>?_);rw[hI.2.2 i,Kn]
theorem cB{w:Int}{ws:ASs}(h:ws.length<=1048576):Dk (w,ws,())=some (w,ws):=by
 unfold Dk;rw[AQe (by grind)]
def Small(f:ASz):Prop:=f.length<=1048576/\∀s∈f,s.2.2.2.1.2.1.length<=1048576
theorem AL{A:Type}{l:ATB A}{z:A}{k:Nat}(h:k<l.length):l.getD k z∈l:=by
 rw[show l.getD k z=l[k] by simp[List.getD,h]];exact AQE h
theorem AX{A:Type}{l:ATB A}{z:A}{k:Nat}(h:k<l.length):l.take (k+1)=l.take k++[l.getD k z]:=by
 rw[AQO h,show l.getD k z=l[k] by simp[List.getD,h]]
theorem Bj{k n:Nat}(hk:k<n)(hn:n<=1048576):wI ((k:Int)+1)=((k+1:Nat):Int):=A0
def CL{A:Type}(g:Nat->A)(z:A)(n k:Nat):ATB A:=(List.range n).map λi=>if i<k then g i else z
theorem MO{A:Type}(g:Nat->A)(z:A)(n:Nat):CL g z n 0=List.replicate n z:=by
 refine AQV (by simp[CL]) λi h1 h2=>by simp[CL]
theorem Qw{A:Type}(g:Nat->A)(z:A){n k:Nat}:(CL g z n k).set k (g k)=CL g z n (k+1):=by
 refine AQV (by simp[CL]) λi h1 h2=>?_;simp only[CL,List.getElem_set,List.getElem_map,List.getElem_range];by_cases h:k=i
 ·subst h;simp
 ·rw[AQf h];by_cases h3:i<k
  ·rw[AQe h3,Wv]
  ·rw[AQf h3,P9]
theorem H8{A:Type}(g:Nat->A)(z:A)(n k:Nat):(CL g z n k).length=n:=by simp[CL]
theorem kp{A:Type}(l:ATB A)(y z:A):CL (λi=>l.getD i y) z l.length l.length=l:=by
 refine AQV (by simp[CL]) λi h1 h2=>by simp[CL,List.getD,h2]
theorem qI{f:ASz}(h:Small f):MS f=some f:=by
 unfold MS QZ;have h1:=h.1;rw[AQe ⟨rfl,by omega,by omega,by omega,by omega⟩,APX];rw[show fix (C4 f (f.length:Int)) (0,List.replicate f.length (0,0,0,(0,([]:ASs),()),()))=some f from by
  have:=AW (f:=C4 f (f.length:Int)) (λk=>((k:Int),CL (λi=>f.getD i Af.zero) (0,0,0,(0,([]:ASs),()),()) f.length k)) (t:=f) f.length (λk hk=>by
   unfold C4 Jg;simp only[Da hk,AQc,AQe (Bg hk),APX,H8];rw[cB (h.2 _ (AL hk)),APW,Bj hk h1,<-Qw]) (by
   unfold C4 Jg;simp only[Ep,AQb,kp])
  rw[MO]at this;exact this]
 rfl
theorem lO{a:ASs}(hn:a.length<=maxLen):Xx Ju a :=
 YS (F:=λx y=>some (x==y)) (z :=ATm.zero) (r:=λa b=>Fg a b a.length) (λ_ _=>rfl) (λ_ _ _=>rfl) hn λx _ y=>Ax.mk (by simp)
theorem ua{a:ASk}(h:a.2.1.length<=maxLen):Xx MR a:=by
 intro b;obtain⟨w,ws,_⟩:=a;obtain⟨w',my,_⟩:=b;unfold MR;refine Ax.cond (λh1=>Ax.bind (lO h my) λr hr=>Ax.mk (by simp at h1;simp[hr,h1])) λh1=>Ax.mk (by simp at h1;simp[h1])
theorem ZY:(1048576:Nat)<=maxLen:=by decide
theorem gK{a:ASk}(h:a.2.1.length<=maxLen):Xx Et a:=by
 intro b;obtain⟨w,ws,_⟩:=a;obtain⟨w',my,_⟩:=b;unfold Et R3;refine Ax.cond (λh1=>Ax.mk ?_) λh1=>?_
 ·simp only[ARh,ARt]at h1;simp only[AQM,false_iff,AP9,and_true,not_and]
  rintro rfl rfl
  simp at h1
 ·simp only[AQ0,ARr]at h1;have h1:w=w'/\(ws.length:Int)=(my.length:Int):=h1;refine Ax.bind (AaS (F:=λx y=>some (x==y)) (z :=ATm.zero) (a:=ws) (b:=my) (f:=DK (w,ws,()) (w',my,())) (by omega) h (λx _ y=>Ax.mk (by simp)) (λk hk=>?_) ?_) λt ht=>?_
  ·unfold DK IY;simp only[Da hk,AQc,AQe (Bg hk),AQe (Bg (show k<my.length by omega)),APX];rfl
  ·unfold DK IY;simp only[Ep,AQb]
  ·rcases ht with ⟨rfl,e⟩|⟨rfl,e⟩
   ·exact Ax.mk ⟨λ_=>by rw[h1.1,e],λ_=>rfl⟩
   ·exact Ax.mk ⟨λh=>by(cases h),λh'=>(e (congrArg (λx=>x.2.1) h')).elim⟩
end Go.Proofs.X
namespace Go.Va
open Go.Proofs.X
inductive Bt
 |co (b:Bool)
 |va (v a:Nat)
inductive Sg
 |co (b:ASt)
 |va (v l n:Nat)
def Sg.bits:Sg->ATB Bt
 |.co b=>b.map .co
 |.va v l n=>(List.range n).map λk=>.va v (l+k)
def Sg.w:Sg->Nat
 |.co b=>b.length
 |.va _ _ n=>n
def Bt.sg:Bt->Sg
 |.co b=>.co [b]
 |.va v a=>.va v a 1
def Sg.join:Sg->Sg->ATC Sg
 |.co a,.co b=>some (.co (a++b))
 |.va v l n,.va v' l' n'=>if v=v'/\l+n=l' then some (.va v l (n+n'))else none
 |_,_=>none
def Sg.du(a b:Sg):Bool:=(a.join b).isSome
def H6(f:ATB Sg)(s:Sg):ATB Sg :=
 match f.getLast? with
 |none=>[s]
 |some l=>match l.join s with
  |some j=>f.dropLast++[j]
  |none=>f++[s]
def Ug(f ss:ATB Sg):ATB Sg:=ss.foldl H6 f
def YK(f:ATB Sg)(bs:ATB Bt):ATB Sg:=bs.foldl (λf b=>H6 f b.sg) f
def Ay(bs:ATB Bt):ATB Sg:=YK [] bs
def DV(f:ATB Sg):ATB Bt:=f.flatMap Sg.bits
def Bh(f:ATB Sg):Nat:=(f.map Sg.w).sum
theorem Vv(s:Sg):H6 [] s=[s]:=rfl
theorem Fs(g:ATB Sg)(l s:Sg):H6 (g++[l]) s=match l.join s with |some j=>g++[j]|none=>g++[l,s]:=by
 unfold H6;rw[List.getLast?_append];simp only[List.getLast?_singleton,Option.some_or,List.dropLast_concat];cases l.join s<;>simp
theorem Hh(s:Sg):s.bits.length=s.w:=by cases s<;>simp[Sg.bits,Sg.w]
theorem OW(f:ATB Sg):(DV f).length=Bh f:=by
 induction f with
 |nil=>rfl
 |cons s f ih=>simp only[DV,Bh,List.flatMap_cons,AP0,Hh,AQI,ARu]at *;rw[ih]
theorem oI{a b j:Sg}(h:a.join b=some j):j.bits=a.bits++b.bits:=by
 cases a<;>cases b<;>simp only[Sg.join]at h
 ·cases h;simp[Sg.bits]
 ·cases h
 ·cases h
 ·rename_i v l n v' l' n';split at h
  ·rename_i hc;cases h;obtain⟨rfl,rfl⟩:=hc;simp only[Sg.bits];rw[List.range_add,AQG,ARV];congr 1;refine AQK λk _=>?_;simp[AQ1]
  ·cases h
theorem gG(f:ATB Sg)(s:Sg):DV (H6 f s)=DV f++s.bits:=by
 rcases ARb f with rfl |⟨g,l,rfl⟩
 ·simp[Vv,DV]
 ·rw[ARc,Fs];cases h:l.join s with
  |none=>simp[DV]
  |some j=>simp[DV,oI h]
theorem Ace(f:ATB Sg)(bs:ATB Bt):DV (YK f bs)=DV f++bs:=by
 induction bs generalizing f with
 |nil=>simp[YK]
 |cons b bs ih =>
  rw[show YK f (b::bs)=YK (H6 f b.sg) bs from rfl,ih,gG];cases b<;>simp[Bt.sg,Sg.bits]
theorem Ic(bs:ATB Bt):DV (Ay bs)=bs:=Ace [] bs
theorem ML(f:ATB Sg)(a b:ATB Bt):YK f (a++b)=YK (YK f a) b:=ARR
theorem zK(s:Sg)(h:2<=s.w):∃(t:Sg) (b:Bt),1<=t.w/\t.w<s.w/\s.bits=t.bits++[b]/\t.join b.sg=some s/\(∀l j:Sg,l.join t=some j->j.join b.sg=l.join s)/\(∀l:Sg,l.join t=none->l.join s=none):=by
 cases s with
 |co bs =>
  simp only[Sg.w]at h;rcases ARb bs with rfl |⟨cs,x,rfl⟩
  ·simp at h
  ·rw[ARc]at h⊢;refine⟨.co cs,.co x,?_,?_,?_,rfl,λl j hj=>?_,λl hl=>?_⟩
   ·simp[Sg.w]at h⊢;omega
   ·simp[Sg.w]
   ·simp[Sg.bits]
   ·cases l<;>simp only[Sg.join]at hj
    ·cases hj;simp[Sg.join,Bt.sg]
    ·cases hj
   ·cases l<;>simp[Sg.join]at hl⊢
 |va v l n =>
  simp only[Sg.w]at h;obtain⟨m,rfl⟩:∃m,n=m+1:=⟨n-1,by omega⟩;refine⟨.va v l m,.va v (l+m),by simp[Sg.w];omega,by simp[Sg.w],?_,by simp[Sg.join,Bt.sg],λk j hj=>?_,λk hk=>?_⟩
  ·simp[Sg.bits,AQ6]
  ·cases k<;>simp only[Sg.join]at hj
   ·cases hj
   ·split at hj
    ·rename_i hc;cases hj;obtain⟨rfl,rfl⟩:=hc;simp[Sg.join,Bt.sg,AQ1]
    ·cases hj
  ·cases k with
   |co b=>rfl
   |va v' l' n' =>
    simp only[Sg.join]at hk⊢;split at hk
    ·cases hk
    ·rename_i hc;rw[AQf hc]
theorem Zj:∀(n:Nat) (s:Sg) (f:ATB Sg),s.w=n->1<=n->H6 f s=YK f s.bits:=by
 intro n;induction n using Nat.strongRecOn with
 |_ n ih =>
  intro s f hn h1;rcases AP7 1 n with h |h
  ·obtain⟨t,b,ht1,ht2,hb,hj,hlj,hln⟩:=zK s (by omega);rw[hb,ML,<-ih t.w (by omega) t f rfl ht1];show _=H6 (H6 f t) b.sg;rcases ARb f with rfl |⟨g,l,rfl⟩
   ·rw[Vv,Vv,show[t]=[]++[t]from rfl,Fs,hj];rfl
   ·rw[ARc,Fs,Fs];cases hl:l.join t with
    |none =>
     rw[hln l hl];simp only;rw[show g++[l,t]=(g++[l])++[t] by simp,Fs,hj];simp
    |some j =>
     simp only;rw[Fs,hlj l j hl];cases hls:l.join s with
     |some k=>rfl
     |none =>
      have:=hlj l j hl;rw[hls]at this
      exfalso
      cases l<;>cases s<;>cases t<;>simp[Sg.join]at hl hls hj
      all_goals first |(cases b<;>simp[Bt.sg,Sg.join]at hj<;>done)|skip
      all_goals (cases b<;>simp[Bt.sg,Sg.join]at hj;try omega)
  ·have:n=1:=by omega
   subst this;have hs:∃b:Bt,s=b.sg/\s.bits=[b]:=by
    cases s with
    |co bs =>
     simp only[Sg.w]at hn;obtain⟨x,rfl⟩:=List.length_eq_one_iff.1 hn;exact⟨.co x,rfl,rfl⟩
    |va v l m =>
     simp only[Sg.w]at hn;subst hn;exact⟨.va v l,rfl,by simp[Sg.bits]⟩
   obtain⟨b,hb,AFw⟩:=hs;rw[AFw,hb];rfl
def Z8(f:ATB Sg):Prop:=∀s∈f,1<=s.w
theorem gJ{f ss:ATB Sg}(h:Z8 ss):Ug f ss=YK f (DV ss):=by
 induction ss generalizing f with
 |nil=>rfl
 |cons s ss ih =>
  rw[show Ug f (s::ss)=Ug (H6 f s) ss from rfl,ih λx hx=>h x (AQo _ hx),Zj _ s f rfl (h s AQr),show DV (s::ss)=s.bits++DV ss from rfl,ML]
theorem Av9{a b j:Sg}(h:a.join b=some j):j.w=a.w+b.w:=by rw[<-Hh,oI h,AP0,Hh,Hh]
theorem gH{f:ATB Sg}{s:Sg}(hf:Z8 f)(hs:1<=s.w):Z8 (H6 f s):=by
 rcases ARb f with rfl |⟨g,l,rfl⟩
 ·intro x hx;rw[Vv,AQn]at hx;rw[hx];exact hs
 ·rw[ARc]at hf⊢;rw[Fs];have hl:=hf l (by simp);cases h:l.join s with
  |none =>
   intro x hx;simp only[ARl,ARC,AR7,or_false]at hx;rcases hx with hx |rfl |rfl
   ·exact hf x (by simp[hx])
   ·exact hl
   ·exact hs
  |some j =>
   intro x hx;simp only[ARl,ARC,AR7,or_false]at hx;rcases hx with hx |rfl
   ·exact hf x (by simp[hx])
   ·rw[Av9 h];omega
theorem Awo(b:Bt):b.sg.w=1:=by cases b<;>rfl
theorem Acf{f:ATB Sg}(hf:Z8 f)(bs:ATB Bt):Z8 (YK f bs):=by
 induction bs generalizing f with
 |nil=>exact hf
 |cons b bs ih=>exact ih (gH hf (by rw[Awo];exact AP2 _))
theorem Dj(bs:ATB Bt):Z8 (Ay bs):=Acf (λx hx=>by cases hx) bs
theorem Cw(bs:ATB Bt):Bh (Ay bs)=bs.length:=by rw[<-OW,Ic]
theorem wv(a b:ATB Bt):Ug (Ay a) (Ay b)=Ay (a++b):=by
 rw[gJ (Dj b),Ic];exact(ML [] a b).symm
theorem C6{f:ATB Sg}(h:Z8 f):f.length<=Bh f:=by
 induction f with
 |nil=>exact AP2 _
 |cons s f ih =>
  have:=ih λx hx=>h x (AQo _ hx);have:=h s AQr;simp only[Bh,AQL,AQI,ARu]at *;omega
end Go.Va
namespace Go.Proofs.X
open Go Go.Va
set_option maxRecDepth 100000
def Zc(bs:ASt):ASk:=mkB bs.length λi=>bs.getD i false
def JU:Sg->ASi
 |.co bs=>(-1,0,(bs.length:Int),Zc bs,())
 |.va v l n=>((v:Int),(l:Int),(n:Int),(0,[],()),())
def WY:Bt->ASe
 |.co b=>(-1,bI b,())
 |.va v a=>((v:Int),(a:Int),())
def fV(f:ATB Sg):ASz:=f.map JU
def bV(f:ATB Bt):ASv:=f.map WY
def XA:Sg->Prop
 |.co bs=>bs.length<=4096
 |.va v l n=>v<=4096/\l+n<=4096
theorem zk{bs:ASt}{n:Nat}{f:Nat->Bool}(hl:bs.length=n)(h:∀i,i<n->bs.getD i false=f i):Zc bs=mkB n f:=by
 unfold Zc;rw[hl];exact Adn h
theorem Aij{a b:ASt}(h:a.length+b.length<=8192):∃r,Hk (Zc b) (Zc a)=some r/\(r.1,r.2,())=Zc (a++b):=by
 refine⟨_,AmB (by omega),(zk (by grind) λi hi=>?_).symm⟩
 grind
theorem AaL{bs:ASt}{a w:Nat}(hn:bs.length<=8192)(h1:1<=w)(h:a+w<=bs.length):∃r,Fa (Zc bs) (a:Int) (w:Int)=some r/\(r.1,r.2,())=Zc ((bs.drop a).take w):=by
 refine⟨_,Avh (by omega) h1 h,(zk (by grind) λi hi=>?_).symm⟩;simp[hi]
theorem Ah0{a b:Sg}(ha:XA a):DY (JU a) (JU b)=a.du b:=by
 cases a with
 |co x =>
  cases b with
  |co y=>simp[DY,JU,Sg.du,Sg.join]
  |va v l n =>
   simp only[DY,JU,Sg.du,Sg.join,ARv];simp
 |va v l n =>
  cases b with
  |co y =>
   simp only[DY,JU,Sg.du,Sg.join,ARv];simp
  |va v' l' n' =>
   simp only[XA]at ha;simp only[DY,JU,Sg.du,Sg.join];rw[show wI _=((l+n))from A0]
   grind
theorem AcS{A:Type}(g:ATB A)(x z:A):(g++[x]).getD g.length z=x:=by grind
theorem lK{A:Type}(g:ATB A)(x y:A):(g++[x]).set g.length y=g++[y]:=by simp
theorem Sn(f g:ATB Sg):fV (f++g)=fV f++fV g:=AQG
theorem Cd(f:ATB Sg):(fV f).length=f.length:=AP8 _
theorem Fj{A B:Type}(f:A->B){l:ATB A}{k:Nat}{y:A}{z:B}(h:k<l.length):(l.map f).getD k z=f (l.getD k y):=by grind
theorem zA{ss f:ATB Sg}{k:Nat}{b:Int}(hk:k<ss.length)(hs:XA (ss.getD k (.co [])))(hf:∀s∈f,XA s)(hl:f.length<=1048576):O6 (fV ss) b (k:Int) (fV f)=some (fV (H6 f (ss.getD k (.co [])))):=by
 obtain⟨s,af⟩:∃s,s=ss.getD k (.co []):=⟨_,rfl⟩;have Xa:(fV ss).getD k Af.zero=JU s:=by rw[af];exact Fj JU hk
 rw[<-af]at hs⊢;unfold O6;rw[AQe (Bg (by rw[Cd];exact hk)),APX,Xa];rcases ARb f with rfl |⟨g,l,rfl⟩
 ·rfl
 ·rw[ARc]at hf hl⊢;have hbl:XA l:=hf l (by simp);have hfl:(fV (g++[l])).length=g.length+1:=by rw[Cd,AP0];rfl
  have e1:wI (((fV (g++[l])).length:Int)-1)=(g.length:Int):=by
   exact A0 (by omega) (by grind)
  have hgl:(fV (g++[l])).getD g.length Af.zero=JU l:=by
   rw[Sn,<-Cd g];exact AcS _ _ _
  have e2:decide ((g.length:Int)<0)=false:=by simp
  have e3:(0:Int)<=(g.length:Int)/\(g.length:Int)<((fV (g++[l])).length:Int):=⟨by omega,by omega⟩;rw[e1,Fs];unfold S9;rw[e2,AQb,AQe e3,APX,hgl,Ah0 hbl];cases hj:l.join s with
  |none =>
   rw[show l.du s=false by unfold Sg.du;rw[hj];rfl];show(if(_+1)*56<=_ then _ else none)=_;rw[AQe (by grind)];simp[fV]
  |some j =>
   rw[show l.du s=true by unfold Sg.du;rw[hj];rfl];show(O5 (fV ss) b (k:Int) (fV (g++[l])) (g.length:Int) (JU s)).bind _=_;unfold O5;cases l with
   |co x =>
    cases s with
    |va v' l' n'=>simp[Sg.join]at hj
    |co y =>
     simp only[Sg.join,APY]at hj;subst hj;simp only[XA]at hbl hs;obtain⟨r,gp,hr2⟩:=Aij (a:=x) (b:=y) (by omega);rw[show((JU (.co y)).1==(-1:Int))=true from rfl,AQc,AQe e3,APX,hgl];rw[show Hk (JU (.co y)).2.2.2.1 (JU (.co x)).2.2.2.1=some r from gp,APW,AQe e3,hr2,APW];have e4:(0:Int)<=(g.length:Int)/\(g.length:Int)<(((fV (g++[Sg.co x])).set g.length ((JU (.co x)).1,(JU (.co x)).2.1,(JU (.co x)).2.2.1,Zc (x++y),(JU (.co x)).2.2.2.2)).length:Int):=by grind
     rw[AQe e4,AQe e4];have HY:(fV (g++[Sg.co x])).set g.length ((JU (.co x)).1,(JU (.co x)).2.1,(JU (.co x)).2.2.1,Zc (x++y),(JU (.co x)).2.2.2.2)=fV g++[(-1,0,(x.length:Int),Zc (x++y),())]:=by
      rw[Sn,<-Cd g];exact lK _ _ _
     rw[HY,show(fV g++[((-1,0,(x.length:Int),Zc (x++y),()):ASi)]).getD g.length Af.zero=(-1,0,(x.length:Int),Zc (x++y),()) by grind];rw[show wI ((x.length:Int)+(JU (.co y)).2.2.1)=(((x++y).length:Nat):Int) by
      rw[AP0];exact A0 (by show(x.length:Int)+(y.length:Int)=_;omega) (by omega)]
     rw[Sn,<-Cd g,lK];rfl
   |va v l n =>
    cases s with
    |co y=>simp[Sg.join]at hj
    |va v' l' n' =>
     simp only[XA]at hbl hs;simp only[Sg.join]at hj;split at hj
     ·cases hj;rw[show((JU (.va v' l' n')).1==(-1:Int))=false by simp[JU],AQb,APW,AQe e3,AQe e3];rw[hgl];rw[show wI ((JU (.va v l n)).2.2.1+(JU (.va v' l' n')).2.2.1)=((n+n':Nat):Int)from A0 (by show(n:Int)+(n':Int)=_;omega) (by omega)];rw[Sn,<-Cd g];show some (List.set (fV g++[JU (.va v l n)]) (fV g).length _)=_;rw[lK,Sn];rfl
     ·grind
theorem dK{f:ATB Sg}{s:Sg}(hf:∀x∈f,XA x)(hs:XA s)(hw:Bh f+s.w<=4096):∀x∈H6 f s,XA x:=by
 rcases ARb f with rfl |⟨g,l,rfl⟩
 ·intro x hx;rw[Vv,AQn]at hx;rw[hx];exact hs
 ·rw[ARc]at hf hw⊢;rw[Fs];have hl:=hf l (by simp);cases h:l.join s with
  |none =>
   grind
  |some j =>
   intro x hx;simp only[ARl,ARC,AR7,or_false]at hx;rcases hx with hx |rfl
   ·grind
   ·cases l<;>cases s<;>simp only[Sg.join]at h
    ·cases h;simp only[Bh,AQG,ARq,AQI,ARu,Sg.w]at hw;simp only[XA,AP0];omega
    ·grind
    ·grind
    ·split at h
     ·cases h;simp only[XA]at hl hs⊢;omega
     ·grind
theorem lB(f:ATB Sg)(s:Sg):Bh (H6 f s)=Bh f+s.w:=by
 rw[<-OW,gG,AP0,OW,Hh]
theorem Fu{f:ATB Sg}{k:Nat}(h:k<f.length):Bh (f.take (k+1))=Bh (f.take k)+(f.getD k (.co [])).w:=by
 rw[AX h (z:=.co [])];simp[Bh]
theorem GJ(f:ATB Sg)(k:Nat):Bh (f.take k)<=Bh f:=by
 have:Bh f=Bh (f.take k)+Bh (f.drop k):=by
  unfold Bh;rw[<-ARq,<-AQG,ARa]
 omega
theorem wu{ss f:ATB Sg}(h1:Z8 ss)(h2:Z8 f)(hs:∀s∈ss,XA s)(hf:∀s∈f,XA s)(hw:Bh f+Bh ss<=4096):EM (fV ss) (fV f)=some (fV (Ug f ss)):=by
 unfold EM Wy;have hlen:=C6 h1;have Xe:∀k,k<=ss.length->Z8 (Ug f (ss.take k))/\(∀s∈Ug f (ss.take k),XA s)/\Bh (Ug f (ss.take k))=Bh f+Bh (ss.take k):=by
  intro k;induction k with
  |zero=>exact λ_=>⟨h2,hf,rfl⟩
  |succ k ih =>
   intro hk;obtain⟨i1,i2,i3⟩:=ih (by omega);have hm:ss.getD k (.co [])∈ss:=AL (by omega);have hwk:=Fu (show k<ss.length by omega);have:=GJ ss (k+1);have e:Ug f (ss.take (k+1))=H6 (Ug f (ss.take k)) (ss.getD k (.co [])):=by
    rw[AX (show k<ss.length by omega)];exact ARR
   rw[e];exact⟨gH i1 (h1 _ hm),dK i2 (hs _ hm) (by omega),by rw[lB,hwk];omega⟩
 have:=AW (f:=F8 _ ((fV ss).length)) (λk=>(k,fV _))  ss.length (λk hk=>by
  obtain⟨i1,i2,i3⟩:=Xe k (by omega);have hm:ss.getD k (.co [])∈ss:=AL hk;have:=GJ ss k;unfold F8 Ps;rw[Cd,Da hk,AQc];rw[zA hk (hs _ hm) i2 (by have:=C6 i1;omega),APW,Bj hk (by omega),AX hk ];rw[show Ug f (ss.take k++[ss.getD k _])=H6 (Ug f _) _ from ARR]) (by
  unfold F8 Ps;rw[Cd,Ep,AQb,AP6 (AP2 _)])
 rw[show fix (F8 _ _) (0,fV f)=some _ from this];rfl
theorem qZ{f:ATB Sg}(h1:Z8 f)(hw:Bh f<=4096):Hp (fV f)=some (Bh f:Int):=by
 unfold Hp Q0;have hlen:=C6 h1;have:=AW (f:=C5 _ ((fV f).length)) (λk=>((Bh _),k))  f.length (λk hk=>by
  have h1:=Fu hk;have h2:=GJ f (k+1);unfold C5 Jk;rw[Cd,Da hk,AQc,AQe (Bg hk),APX];rw[Bj hk (by omega),show(fV f).getD k _=JU _ from Fj JU hk];rw[show(JU _).2.2.1=((f.getD k _).w) by cases f.getD k _<;>rfl];rw[show wI ((Bh (f.take k))+((f.getD k (.co [])).w))=(Bh (f.take (k+1)))from A0]) (by
  unfold C5 Jk;rw[Cd,Ep,AQb,AP6 (AP2 _)])
 rw[show fix (C5 _ _) (0,0)=some _ from this];rfl
def part(s:Sg)(a w:Nat):Sg :=
 match s with
 |.co bs=>.co ((bs.drop a).take w)
 |.va v l _=>.va v (l+a) w
theorem pg{s:Sg}{a w:Nat}(h:a+w<=s.w):(part s a w).bits=(s.bits.drop a).take w:=by
 cases s with
 |co bs=>simp[part,Sg.bits]
 |va v l n =>
  simp only[Sg.w]at h;simp only[part,Sg.bits];refine AQV (by grind) λi h1 h2=>?_;simp[AQ1]
theorem zr{s:Sg}{a w:Nat}(h:a+w<=s.w):(part s a w).w=w:=by
 rw[<-Hh,pg h,AQh,AQw,Hh];omega
theorem zq{s:Sg}{a w:Nat}(hs:XA s)(h:a+w<=s.w):XA (part s a w):=by
 cases s with
 |co bs=>simp only[part,XA,AQh,AQw]at *;omega
 |va v l n=>simp only[part,XA,Sg.w]at *;omega
theorem zE{s:Sg}{a w:Nat}(hs:XA s)(h1:1<=w)(h:a+w<=s.w):∃r,O3 (JU s) (a:Int) (w:Int)=some r/\(r.1,r.2.1,r.2.2.1,(r.2.2.2.1,r.2.2.2.2,()),())=JU (part s a w):=by
 unfold O3;cases s with
 |co bs =>
  simp only[XA]at hs;simp only[Sg.w]at h;obtain⟨r,gp,hr2⟩:=AaL (show bs.length<=8192 by omega) h1 h;rw[show((JU _).1==-1)=true from rfl,show Fa (JU (.co bs)).2.2.2.1 _ w=some r from gp];refine⟨_,rfl,?_⟩;have hw:r.1=w:=by
   have:=congrArg (λx =>x.1) hr2;have e:r.1=((((bs.drop a).take w).length)):=this;rw[e,AQh,AQw];omega
  show(-1,0,r.1,(r.1,r.2,()),())=JU (.co _);rw[hr2];rw[show JU _=(-1,0,(((bs.drop a).take w).length:Int),Zc _,())from rfl,hw,show((bs.drop a).take w).length=w by grind]
 |va v l n =>
  simp only[XA]at hs;simp only[Sg.w]at h;refine⟨_,rfl,?_⟩;simp only[part,JU];rw[show wI _=((l+a:Nat))from A0]
theorem ko{f:ATB Sg}{k:Nat}(h:k<f.length):(fV f).getD k Af.zero=JU (f.getD k (.co [])):=Fj JU h
theorem Yd{f:ATB Sg}{k:Nat}(h:k<f.length):DV (f.take (k+1))=DV (f.take k)++(f.getD k (.co [])).bits:=by
 rw[AX h (z:=.co [])];simp[DV]
theorem aM(s:Sg):(JU s).2.2.1=(s.w:Int):=by cases s<;>rfl
theorem Agy{B S:ATB Bt}{lo w:Nat}:((B++S).drop lo).take w=(B.drop lo).take w++(S.drop (max lo B.length-B.length)).take (min (lo+w) (B.length+S.length)-max lo B.length):=by
 rw[List.drop_append,List.take_append,AQw];congr 1;rw[show max lo B.length-B.length=lo-B.length by omega,List.take_eq_take_iff,AQw];omega
theorem Vs{bs:ATB Bt}(hb:∀b∈bs,XA b.sg)(hl:bs.length<=4096):∀s∈Ay bs,XA s:=by
 have:∀(bs:ATB Bt) (f:ATB Sg),(∀b∈bs,XA b.sg)->(∀s∈f,XA s)->Bh f+bs.length<=4096->∀s∈YK f bs,XA s:=λbs=>by
  induction bs with
  |nil=>exact λf _ h _=>h
  |cons b bs ih =>
   intro f hb hf hw;simp only[AQL]at hw;exact ih _ (λx hx=>hb x (AQo _ hx)) (dK hf (hb b AQr) (by rw[Awo];omega)) (by rw[lB,Awo];omega)
 exact this bs [] hb (λs hs=>by grind) (by show 0+_<=_;omega)
theorem uQ{f:ATB Sg}{lo w:Nat}(h1:Z8 f)(hf:∀s∈f,XA s)(hb:∀b∈DV f,XA b.sg)(hw:Bh f<=4096)(hlo:lo+w<=8192):Fb (fV f) (lo:Int) (w:Int)=some (fV (Ay (((DV f).drop lo).take w))):=by
 unfold Fb Sw;have hlen:=C6 h1;have:=AW (f:=EH (lo:Int) (w:Int) (fV f) ((fV f).length:Int)) (λk=>((Bh (f.take k):Int),(k:Int),fV (Ay (((DV (f.take k)).drop lo).take w)))) (t:=fV (Ay (((DV f).drop lo).take w))) f.length (λk hk=>by
  have hwk:=Fu hk;have QP:=GJ f (k+1);have hm:f.getD k (.co [])∈f:=AL hk;obtain⟨s,hs⟩:∃s,s=f.getD k (.co []):=⟨_,rfl⟩;have hB:(DV (f.take k)).length=Bh (f.take k):=OW _;have Ahv:∀b∈((DV (f.take k)).drop lo).take w,b∈DV f:=λb hb=>by
   have:=AR8 (ARi hb);rw[show DV f=DV (f.take k)++DV (f.drop k) by unfold DV;rw[<-ARD,ARa]];exact AQu _ this
  unfold EH Kw;simp only;rw[Cd,Da hk,AQc,AQe (Bg hk),APX,ko hk,Bj hk (by omega),Yd hk,Agy,hB,Hh,hwk];rw[<-hs]at hm hwk⊢;rw[aM,show wI ((Bh (f.take k):Int)+(s.w:Int))=((Bh (f.take k)+s.w:Nat):Int)from A0,show wI ((lo:Int)+(w:Int))=((lo+w:Nat):Int)from A0];generalize hA:Bh (f.take k)=A at *;rw[show(if(A:Int)>(lo:Int)then(A:Int)else(lo:Int))=((max lo A:Nat):Int) by split<;>omega];rw[show(if((A+s.w:Nat):Int)<((lo+w:Nat):Int)then((A+s.w:Nat):Int)else((lo+w:Nat):Int))=((min (lo+w) (A+s.w):Nat):Int) by split<;>omega];unfold NC;by_cases Bp:max lo A<min (lo+w) (A+s.w)
  ·rw[show decide (((max lo A:Nat):Int)<((min (lo+w) (A+s.w):Nat):Int))=true by simp only[AQ3];omega,AQc];rw[show wI (((max lo A:Nat):Int)-(A:Int))=((max lo A-A:Nat):Int)from A0,show wI (((min (lo+w) (A+s.w):Nat):Int)-((max lo A:Nat):Int))=((min (lo+w) (A+s.w)-max lo A:Nat):Int)from A0];have Ge:max lo A-A+(min (lo+w) (A+s.w)-max lo A)<=s.w:=by omega
   obtain⟨r,gp,hr2⟩:=zE (a:=max lo A-A) (w:=min (lo+w) (A+s.w)-max lo A) (hf s hm) (by omega) Ge;rw[gp,APW,hr2];rw[show([JU (part s (max lo A-A) (min (lo+w) (A+s.w)-max lo A))]:ASz)=fV [part s (max lo A-A) (min (lo+w) (A+s.w)-max lo A)]from rfl];rw[wu (λx hx=>by rw[AQn]at hx;rw[hx,zr Ge];omega) (Dj _) (λx hx=>by rw[AQn]at hx;rw[hx];exact zq (hf s hm) Ge)
    (Vs (λb hb'=>hb b (Ahv b hb')) (by rw[AQh,AQw,hB];omega)) (by
     rw[Cw,AQh,AQw,hB];show _+(Bh [part s _ _])<=_;rw[show Bh [part s (max lo A-A) (min (lo+w) (A+s.w)-max lo A)]=min (lo+w) (A+s.w)-max lo A by simp only[Bh,AQI,ARK,ARu,List.sum_nil,zr Ge];rfl];omega)]
   simp only[APW];rw[gJ (λx hx=>by rw[AQn]at hx;rw[hx,zr Ge];omega)];rw[show DV [part s (max lo A-A) (min (lo+w) (A+s.w)-max lo A)]=(s.bits.drop (max lo A-A)).take (min (lo+w) (A+s.w)-max lo A) by simp[DV,pg Ge]];rw[show ∀a b:ATB Bt,YK (Ay a) b=Ay (a++b)from λa b=>(ML [] a b).symm]
  ·rw[show decide (((max lo A:Nat):Int)<((min (lo+w) (A+s.w):Nat):Int))=false by simp only[AQN];omega,AQb];simp only[APW];rw[show min (lo+w) (A+s.w)-max lo A=0 by omega,AR5,AQB]) (by
  unfold EH Kw;simp only;rw[Cd,Ep,AQb,AP6 (AP2 _)])
 have h0:((Bh (f.take 0):Int),((0:Nat):Int),fV (Ay (((DV (f.take 0)).drop lo).take w)))=((0:Int),(0:Int),([]:ASz)):=by
  simp[Bh,DV,Ay,YK,fV]
 rw[h0]at this;rw[this];rfl
def BtB:Bt->Prop
 |.co _=>True
 |.va v a=>v<=4096/\a+1<=4096
theorem qy{b:Bt}(h:BtB b):XA b.sg:=by
 cases b with
 |co b=>simp[Bt.sg,XA]
 |va v a=>exact h
theorem Dr(f:ATB Bt):(bV f).length=f.length:=AP8 _
theorem WW(f g:ATB Bt):bV (f++g)=bV f++bV g:=AQG
theorem jF{f:ATB Bt}{k:Nat}(h:k<f.length):(bV f).getD k Aa.zero=WY (f.getD k (.co false)):=Fj WY h
theorem Nk{f:ATB Bt}{k:Nat}(h:k<f.length):f.take (k+1)=f.take k++[f.getD k (.co false)]:=AX h
theorem fB(bs:ASt):(Zc bs).2.1.length=nw bs.length/\Em (Zc bs).2.1:=⟨HT _ _,G5 _ _⟩
theorem Amx{bs:ASt}{k:Nat}(h:k<bs.length)(hl:bs.length<=8192):I7 (Zc bs) (k:Int)=some (bI (bs.getD k false)):=by
 have:=kT (w:=bs.length) (G5 (low (λi=>bs.getD i false) bs.length) (nw bs.length)) (i:=k) (by rw[HT];unfold nw;omega) (by rw[HT];unfold nw;omega);rw[qz h]at this;exact this
theorem zh{f:ATB Sg}{i:Nat}{B:ATB Bt}(hi:i<f.length)(hs:XA (f.getD i (.co [])))(hB:B.length<=8192):VF (fV f) (i:Int) 0 (bV B)=some (bV (B++(f.getD i (.co [])).bits)):=by
 obtain⟨s,af⟩:∃s,s=f.getD i (.co []):=⟨_,rfl⟩;rw[<-af]at hs⊢;have hsw:s.w<=4096:=by cases s<;>simp only[XA,Sg.w]at *<;>omega
 have:=AW (f:=G7 _ _) (λk=>(k,bV (B++s.bits.take k)))  s.w (λk hk=>by
  unfold G7 N6 RB;simp only;have tt:0<=(i:Int)/\i<((fV f).length:Int):=Bg (by rw[Cd];exact hi);rw[AQe tt,APX,ko hi,<-af,aM,Da hk,AQc,AQe tt];have hlen:(bV (B++s.bits.take k)).length<=20000:=by rw[Dr,AP0,AQh];omega
  have YB:k<s.bits.length:=by rw[Hh];exact hk
  rw[Bj hk (by omega),Nk YB,<-AP4,show bV (B++s.bits.take k++[s.bits.getD k _])=bV _++[WY _]from WW _ _];cases s with
  |co bs =>
   simp only[Sg.w]at hk hsw;rw[show decide _=true from rfl,AQc,AQe tt,show I7 (JU (.co bs)).2.2.2.1 _=some _ from Amx hk (by omega),APW];rw[AQe (by grind)];rw[show wI _=bI (bs.getD k _) by cases bs.getD k _<;>rfl];rw[show(Sg.co bs).bits.getD k _=.co (bs.getD k _) by simp[Sg.bits,hk]];rfl
  |va v l n =>
   simp only[Sg.w,XA]at hk hs hsw;rw[show decide ((JU (.va v l n)).1<0)=false from APZ (show ¬((v:Int)<0) by omega),AQb,AQe tt,AQe tt,AQe (by grind)];rw[show wI _=((l+k))from A0 (by show l+(k:Int)=_;omega) (by omega)];rw[show(Sg.va v l n).bits.getD k _=.va v (l+k) by simp[Sg.bits,hk]];rfl) (by
  unfold G7 N6;have tt:0<=(i:Int)/\i<((fV f).length:Int):=Bg (by rw[Cd];exact hi);rw[AQe tt,APX,ko hi,<-af,aM,Ep,AQb,<-Hh,AP6 (AP2 _)])
 rw[AR5,AQB]at this;exact this
theorem Adc{f:ATB Sg}(h1:Z8 f)(hf:∀s∈f,XA s)(hw:Bh f<=4096):TX (fV f)=some (bV (DV f)):=by
 unfold TX VG;have hlen:=C6 h1;have:=AW (f:=EU _) (λk=>(k,bV (DV (f.take k))))  _ (λk hk=>by
  unfold EU N7;have:=GJ f k;rw[Cd,Da hk,AQc,zh hk (hf _ (AL hk)) (by rw[OW];omega),APW,Bj hk (by omega),Yd hk]) (by
  unfold EU N7;rw[Cd,Ep,AQb,AP6 (AP2 _)])
 rw[show fix (EU _) (0,[])=some _ from this];rfl
theorem Akw(b:Bt):decide ((WY b).1<0)=(match b with |.co _=>true |.va _ _=>false):=by
 cases b with
 |co b=>rfl
 |va v a=>exact APZ (show ¬((v:Int)<0) by omega)
theorem Awm{B:ATB Bt}{D:ASz}{i:Nat}{b:Bool}(hi:i<B.length)(hb:B.getD i (.co false)=.co b)(hl:B.length<=4096) :
    Ax (VH (bV B) D ((i+1:Nat):Int) [bI b]) λr=>∃bs:ASt,r=(((i+bs.length:Nat):Int),bs.map bI)/\1<=bs.length/\i+bs.length<=B.length/\bs.getD 0 false=b/\B.take (i+bs.length)=B.take i++bs.map .co/\(i+bs.length<B.length->∃v a,B.getD (i+bs.length) (.co false)=.va v a):=by
 refine Bn (λm x=>∃bs:ASt,x=(((i+bs.length:Nat):Int),bs.map bI)/\1<=bs.length/\i+bs.length<=B.length/\bs.getD 0 false=b/\B.take (i+bs.length)=B.take i++bs.map .co/\m=B.length-(i+bs.length)) (λm x hI=>?_) _ _ ⟨[b],rfl,by simp,hi,rfl,by
  show B.take (i+1)=_;rw[Nk hi,hb];rfl,rfl⟩
 obtain⟨bs,rfl,h1,h2,h3,h4,rfl⟩:=hI;unfold N8 SS RE;rcases AP7 _ _ with h |h
 ·rw[Dr,Da h,AQe (Bg h),APX,jF h];cases hx:B.getD _ _ with
  |co y =>
   rw[AQe (Bg h),AQe (by grind),Bj h (by omega)];refine Ax.mk ⟨_,?_,bs++[y],?_,by simp,by grind,?_,?_,rfl⟩
   ·grind
   ·rw[show IntKind.u8.wrap _=bI y by cases y<;>rfl];simp[AQ1]
   ·grind
   ·rw[AP0];show B.take (i+bs.length+1)=_;rw[Nk h,h4,hx,AQG,AP4];rfl
  |va v a =>
   exact Ax.mk ⟨bs,rfl,h1,h2,h3,h4,λ_=>⟨v,a,hx⟩⟩
 ·rw[Dr,show decide _=false from Kg,AQb,APW];exact Ax.mk ⟨bs,rfl,h1,h2,h3,h4,λh'=>absurd h' (by omega)⟩
theorem Awn{B:ATB Bt}{D:ASz}{i v a:Nat}(hi:i<B.length)(hb:B.getD i (.co false)=.va v a)(hB:∀b∈B,BtB b)(hl:B.length<=4096) :
    Ax (RG (bV B) (i:Int) D ((i+1:Nat):Int)) λr=>∃n,r=((i+n:Nat):Int)/\1<=n/\i+n<=B.length/\B.take (i+n)=B.take i++(Sg.va v a n).bits/\(i+n<B.length->(Sg.va v a n).join (B.getD (i+n) (.co false)).sg=none):=by
 unfold RG;refine Bn (λm (x:Int)=>∃n,x=((i+n:Nat):Int)/\1<=n/\i+n<=B.length/\B.take (i+n)=B.take i++(Sg.va v a n).bits/\m=B.length-(i+n)) (λm x hI=>?_) (B.length-(i+1)) _ ⟨1,rfl,by omega,hi,by
  rw[Nk hi,hb];rfl,rfl⟩
 obtain⟨n,rfl,h1,h2,h4,rfl⟩:=hI;unfold N9 SU RF;have AnW:B.getD (i+n-1) (.co false)=.va v (a+n-1):=by
  have e:(B.take (i+n)).getD (i+n-1) (.co false)=B.getD (i+n-1) (.co false):=by
   simp only[List.getD,AQT,show i+n-1<i+n by omega,AQJ]
  rw[<-e,h4];have hti:(B.take i).length=i:=by rw[AQh];omega
  simp only[List.getD,AQm,hti,show ¬i+n-1<i by omega,ARo];rw[show i+n-1-i=n-1 by omega];simp only[Sg.bits,AQp,ARW,show n-1<n by omega,Option.map_some,Option.getD_some];congr 1;omega
 have OB:=hB (.va v (a+n-1)) (by rw[<-AnW];exact AL (by omega));simp only[BtB]at OB;rcases AP7 (i+n) B.length with h |h
 ·rw[Dr,Da h,AQc,AQe (Bg h),APX,APX,jF h,AQe (Bg hi),jF hi,hb];rw[show wI (((i+n:Nat):Int)-1)=((i+n-1:Nat):Int)from A0,APX,jF (by omega),AnW,AQe (Bg h),AQe (Bg (by omega))];rw[show wI ((WY (.va v (a+n-1))).2.1+1)=((a+n:Nat):Int)from A0 (by show((a+n-1:Nat):Int)+1=_;omega) (by omega)];by_cases hc:B.getD (i+n) (.co false)=.va v (a+n)
  ·rw[hc];rw[show((WY (.va v (a+n))).1==(WY (.va v a)).1)=true from ARU (v:Int),AQc,show((WY (.va v (a+n))).2.1==((a+n:Nat):Int))=true from ARU _,AQc,APW,ARd,Bj h (by omega)];refine Ax.mk ⟨_,?_,n+1,by rw[AQ1],by omega,by omega,?_,rfl⟩
   ·omega
   ·rw[<-AQ1,Nk h,h4,hc];simp[Sg.bits,AQ6]
  ·have VT:(bif (WY (B.getD (i+n) (.co false))).1==(WY (.va v a)).1 then(bif (WY (B.getD (i+n) (.co false))).2.1==((a+n:Nat):Int)then some (.inl ())else some (.inr ()))else some (.inr ()):ATC (Unit⊕Unit))=some (.inr ()):=by
     cases hx:B.getD (i+n) (.co false)with
     |co y=>rw[show((WY (.co y)).1==(WY (.va v a)).1)=false by simp[WY]];rfl
     |va v' a' =>
      by_cases hv:v'=v
      ·by_cases ha:a'=a+n
       ·subst hv ha;exact absurd hx hc
       ·rw[show((WY (.va v' a')).2.1==((a+n:Nat):Int))=false from beq_eq_false_iff_ne.2 λe=>ha (Int.ofNat.inj e)];cases ((WY (.va v' a')).1==(WY (.va v a)).1)<;>rfl
      ·rw[show((WY (.va v' a')).1==(WY (.va v a)).1)=false from beq_eq_false_iff_ne.2 λe=>hv (Int.ofNat.inj e)];rfl
   refine Ax.of (a:=.inr ((i+n:Nat):Int)) (by
    have:=congrArg (λo=>o.bind (Sum.elim (λ(_:Unit)=>some (.inl (wI (((i+n:Nat):Int)+1)))) (λ(_:Unit)=>some (.inr ((i+n:Nat):Int):Int⊕Int)))) VT;exact this) ?_
   refine⟨n,rfl,h1,h2,h4,λ_=>?_⟩;cases hx:B.getD (i+n) (.co false)with
   |co y=>rfl
   |va v' a' =>
    simp only[Sg.join,Bt.sg];rw[AQf]
    rintro⟨rfl,rfl⟩
    exact hc hx
 ·rw[Dr,show decide (((i+n:Nat):Int)<(B.length:Int))=false from Kg,AQb,APW,AQW];exact Ax.mk ⟨n,rfl,h1,h2,h4,λh'=>absurd h' (by omega)⟩
theorem Ajb{l s:Sg}{b:Bt}{r:ATB Bt}(hs:s.bits=b::r)(h:l.join b.sg=none):l.join s=none:=by
 cases s with
 |co bs =>
  cases bs with
  |nil=>simp[Sg.bits]at hs
  |cons x xs =>
   obtain⟨rfl,_⟩:=hs;cases l<;>simp[Sg.join,Bt.sg]at h⊢
 |va v a n =>
  cases n with
  |zero=>simp[Sg.bits]at hs
  |succ n =>
   simp only[Sg.bits,List.range_succ_eq_map,ARO]at hs;obtain⟨rfl,_⟩:=hs;cases l with
   |co y=>rfl
   |va v' l' n' =>
    simp only[Sg.join,Bt.sg,AR2]at h⊢
    grind
def Stop(f:ATB Sg)(b:Bt):Prop:=∀l,f.getLast?=some l->l.join b.sg=none
theorem zM{f:ATB Sg}{s:Sg}{b:Bt}{r:ATB Bt}(h:Stop f b)(hs:s.bits=b::r):H6 f s=f++[s]:=by
 unfold H6;cases hl:f.getLast? with
 |none=>rw[List.getLast?_eq_none_iff]at hl;subst hl;rfl
 |some l=>simp only[Ajb hs (h l hl)]
theorem Aic{B:ATB Bt}{s:Sg}{b:Bt}{r:ATB Bt}(h:Stop (Ay B) b)(hs:s.bits=b::r)(hw:1<=s.w):Ay (B++s.bits)=Ay B++[s]:=by
 rw[show Ay _=YK (Ay B) _ from ML [] B _,<-Zj _ s _ rfl hw,zM h hs]
theorem Ade{B:ATB Bt}(hB:∀b∈B,BtB b)(hl:B.length<=4096):TY (bV B)=some (decide ((Ay B).length<=2000),fV (Ay B)):=by
 unfold TY Uj;refine Ax.eq_ (Ax.bind (P:=λr=>r=fV (Ay B)) ?_ λr hr=>Ax.mk (by
  rw[hr,Cd];congr 1;rw[ARH];omega))
 refine Bn (λm (x:Int×ASz)=>∃i:Nat,x=((i:Int),fV (Ay (B.take i)))/\i<=B.length/\(i<B.length->Stop (Ay (B.take i)) (B.getD i (.co false)))/\m=B.length-i) (λm x hI=>?_) B.length _ ⟨0,rfl,AQH _,λ_ l hl=>by simp[Ay,YK]at hl,rfl⟩;obtain⟨i,rfl,hi,BO,rfl⟩:=hI;unfold Mm RD;simp only;rcases AP7 i B.length with h |h
 ·rw[Dr,Da h,AQc,Bj h (by omega)];have hfl:(fV (Ay (B.take i))).length<=4096:=by
   have h1:=C6 (Dj (B.take i));rw[Cw,AQh]at h1;rw[Cd];omega
  have key:∀s:Sg,∀n,n=s.w->1<=n->i+n<=B.length->B.take (i+n)=B.take i++s.bits->(i+n<B.length->s.join (B.getD (i+n) (.co false)).sg=none)->(s.bits.head?=some (B.getD i (.co false))) ->
      (fV (Ay (B.take i))++[JU s]=fV (Ay (B.take (i+n))))/\(i+n<B.length->Stop (Ay (B.take (i+n))) (B.getD (i+n) (.co false))):=by
   rintro s n rfl h1 h2 h3 h4 h5
   obtain⟨r,hr⟩:∃r,s.bits=B.getD i (.co false)::r:=by
    cases hs:s.bits with
    |nil=>rw[hs]at h5;cases h5
    |cons c r=>rw[hs]at h5;simp only[List.head?_cons,APY]at h5;exact⟨r,by rw[h5]⟩
   have hn:=Aic (BO h) hr h1;rw[h3,hn];refine⟨by rw[Sn];rfl,λBp l hl=>?_⟩;rw[List.getLast?_append]at hl;simp only[List.getLast?_singleton,Option.some_or,APY]at hl;subst hl;exact h4 Bp
  unfold RH;rw[Dr,AQe (Bg h),APX,jF h,Akw];cases hx:B.getD i (.co false)with
  |co b =>
   simp only[AQc];rw[AQe (Bg h),show IntKind.u8.wrap (WY (.co b)).2.1=bI b by cases b<;>rfl];have El:=Awm (D:=fV (Ay (B.take i))) h hx hl;refine Ax.bind (P:=λy=>∃n,y=(((i+n:Nat):Int),fV (Ay (B.take (i+n))))/\1<=n/\i+n<=B.length/\(i+n<B.length->Stop (Ay (B.take (i+n))) (B.getD (i+n) (.co false)))) (El.bind λy hy=>?_) λy hy=>?_
   ·obtain⟨bs,rfl,h1,h2,h3,h4,h5⟩:=hy;have hk:=key (.co bs) bs.length rfl h1 h2 h4 (λBp=>by obtain⟨v,a,e⟩:=h5 Bp;rw[e];rfl) (by
     rw[hx];cases bs with
     |nil=>simp at h1
     |cons z zs=>simp only[Sg.bits,AQI,List.head?_cons];rw[<-h3];rfl)
    rw[oN h1 (by omega),APW,AQe (by show(_+1)*56<=_;omega)];exact Ax.mk ⟨bs.length,by rw[<-hk.1];rfl,h1,h2,hk.2⟩
   ·obtain⟨n,rfl,h1,h2,h3⟩:=hy;exact Ax.mk ⟨B.length-(i+n),by omega,i+n,rfl,h2,h3,rfl⟩
  |va v a =>
   simp only[AQb];have El:=Awn (D:=fV (Ay (B.take i))) h hx hB hl;refine Ax.bind (P:=λy=>∃n,y=(((i+n:Nat):Int),fV (Ay (B.take (i+n))))/\1<=n/\i+n<=B.length/\(i+n<B.length->Stop (Ay (B.take (i+n))) (B.getD (i+n) (.co false)))) (El.bind λy hy=>?_) λy hy=>?_
   ·obtain⟨n,rfl,h1,h2,h4,h5⟩:=hy;have hk:=key (.va v a n) n rfl h1 h2 h4 h5 (by
     rw[hx];obtain⟨m,rfl⟩:∃m,n=m+1:=⟨n-1,by omega⟩;simp[Sg.bits,List.range_succ_eq_map])
    rw[AQe (Bg h),AQe (Bg h),AQe (by show(_+1)*56<=_;omega),show wI (((i+n:Nat):Int)-(i:Int))=(n:Int)from A0];exact Ax.mk ⟨n,by rw[<-hk.1];rfl,h1,h2,hk.2⟩
   ·obtain⟨n,rfl,h1,h2,h3⟩:=hy;exact Ax.mk ⟨B.length-(i+n),by omega,i+n,rfl,h2,h3,rfl⟩
 ·have:i=B.length:=by omega
  subst this;rw[Dr,Ep,AQb,AP6 (AP2 _)];exact Ax.mk rfl
def ki(c:Int):Prop:=48<=c/\c<=57
def Vn(c:Int):Prop:=97<=c/\c<=122
instance (c:Int):Decidable (ki c):=inferInstanceAs (Decidable (_/\_))
instance (c:Int):Decidable (Vn c):=inferInstanceAs (Decidable (_/\_))
def tH(s:ByteArray):Prop:=1<=s.size/\s.size<=12/\¬ki (C2 s 0)/\∀i:Nat,i<s.size->ki (C2 s i)\/Vn (C2 s i)
theorem kU(c:Int):NY c=decide (ki c):=(AQX _ _).symm
theorem sE{s:ByteArray}{i:Nat}(hi:i<s.size):Nh s (i:Int)=some (decide ¬(ki (C2 s i)\/Vn (C2 s i))):=by
 unfold Nh;rw[AQe (Bg hi),AQe (Bg hi),AQe (Bg hi),kU];generalize C2 s _=c;by_cases h1:ki c
 ·grind
 ·rw[APZ h1];by_cases h2:c<97
  ·rw[AP1 h2,AP1 (p:=¬(ki c\/Vn c)) (by unfold Vn;rintro(h |h);exact h1 h;omega)];rfl
  ·rw[APZ h2];refine congrArg some (decide_eq_decide.2 ?_);unfold Vn ki at *;omega
theorem rN{s:ByteArray}{i:Nat}(hi:i<s.size):MY s (i:Int)=some (decide ¬(ki (C2 s i)\/Vn (C2 s i))):=by
 unfold MY;simp only[AQe (Bg hi)];generalize C2 s i=c;by_cases h1:c<97
 ·rw[AP1 h1];by_cases h2:c<48
  ·rw[AP1 h2];exact congrArg some (AP1 (by unfold ki Vn;omega)).symm
  ·rw[APZ h2];exact congrArg some (decide_eq_decide.2 (by unfold ki Vn;omega))
 ·rw[APZ h1];by_cases h2:c>122
  ·rw[AP1 h2];by_cases h3:c<48
   ·omega
   ·rw[APZ h3];exact congrArg some (decide_eq_decide.2 (by unfold ki Vn;omega))
  ·rw[APZ h2];exact congrArg some (APZ (by unfold ki Vn;omega)).symm
theorem wL(s:ByteArray):Ax (QG s) λr=>r=true↔tH s:=by
 unfold QG Ry;by_cases h1:s.size<1
 ·rw[MN];exact Ax.mk ⟨λh=>by grind,λh=>absurd h.1 (by omega)⟩
 ·rw[Kg,AQb];by_cases h2:s.size>12
  ·rw[MN];exact Ax.mk ⟨λh=>by grind,λh=>absurd h.2.1 (by omega)⟩
  ·rw[Kg,AQb,AQe ⟨by omega,by omega⟩,APW,kU];by_cases h3:ki (C2 s 0)
   ·rw[AP1 h3];exact Ax.mk ⟨λh=>by grind,λh=>absurd h3 h.2.2.1⟩
   ·rw[APZ h3];refine Ax.bind (P:=λt=>(t=.inl ()/\¬∀i ,i<s.size->ki (C2 s i)\/Vn (C2 s i))\/(t=.inr ()/\∀i ,i<s.size->ki (C2 s i)\/Vn (C2 s i))) ?_ λt ht=>?_
    ·refine BW (λk _=>(k:Int)) s.size (λk _=>∀i ,i<k->ki (C2 s i)\/Vn (C2 s i)) (λk _ hk hI=>?_) (λ_ hI=>?_) (s0:=()) (λi h=>by omega)
     ·unfold J6 N0;rw[Da hk,sE hk,APW];by_cases h:ki (C2 s k)\/Vn (C2 s k)
      ·rw[APZ (λhn=>hn h),Bj hk (by omega)];refine Ax.mk ⟨(),rfl,λi hi=>?_⟩
       grind
      ·rw[AP1 h];exact Ax.mk (.inl ⟨rfl,λh'=>h (h' k hk)⟩)
     ·unfold J6 N0;rw[Ep];exact Ax.mk (.inr ⟨rfl,hI⟩)
    ·rcases ht with ⟨rfl,h⟩|⟨rfl,h⟩
     ·exact Ax.mk ⟨λh=>by grind,λh'=>absurd h'.2.2.2 h⟩
     ·exact Ax.mk ⟨λ_=>⟨by omega,by omega,h3,h⟩,λ_=>rfl⟩
theorem vI(s:ByteArray):Ax (QB s) λr=>r=true↔tH s:=by
 unfold QB Q2;by_cases h1:s.size<1
 ·rw[MN];exact Ax.mk ⟨λh=>by grind,λh=>absurd h.1 (by omega)⟩
 ·rw[Kg,AQb];by_cases h2:s.size>12
  ·rw[MN];exact Ax.mk ⟨λh=>by grind,λh=>absurd h.2.1 (by omega)⟩
  ·rw[Kg,AQb,AQe ⟨by omega,by omega⟩,AQe ⟨by omega,by omega⟩];by_cases h3:Vn (C2 s 0)
   ·have h4:(bif decide (C2 s 0<97)then some true else some (decide (C2 s 0>122)))=some false:=by
      unfold Vn at h3
      grind
    rw[h4,APW];refine Ax.bind (P:=λt=>(t=.inl ()/\¬∀i ,i<s.size->ki (C2 s i)\/Vn (C2 s i))\/(t=.inr ()/\∀i ,i<s.size->ki (C2 s i)\/Vn (C2 s i))) ?_ λt ht=>?_
    ·refine BW (λk _=>(k:Int)) s.size (λk _=>∀i ,i<k->ki (C2 s i)\/Vn (C2 s i)) (λk _ hk hI=>?_) (λ_ hI=>?_) (s0:=()) (λi h=>by omega)
     ·unfold JI ND;rw[Da hk,rN hk,APW];by_cases h:ki (C2 s k)\/Vn (C2 s k)
      ·rw[APZ (λhn=>hn h),Bj hk (by omega)];refine Ax.mk ⟨(),rfl,λi hi=>?_⟩
       grind
      ·rw[AP1 h];exact Ax.mk (.inl ⟨rfl,λh'=>h (h' k hk)⟩)
     ·unfold JI ND;rw[Ep];exact Ax.mk (.inr ⟨rfl,hI⟩)
    ·rcases ht with ⟨rfl,h⟩|⟨rfl,h⟩
     ·exact Ax.mk ⟨λh=>by grind,λh'=>absurd h'.2.2.2 h⟩
     ·refine Ax.mk ⟨λ_=>⟨by omega,by omega,?_,h⟩,λ_=>rfl⟩;unfold Vn at h3;unfold ki;omega
   ·have h4:(bif decide (C2 s 0<97)then some true else some (decide (C2 s 0>122)))=some true:=by
      unfold Vn at h3
      grind
    rw[h4,APW];refine Ax.mk ⟨λh=>by grind,λh=>?_⟩;rcases h.2.2.2 0 (by omega)with h' |h'
    ·exact absurd h' h.2.2.1
    ·grind
theorem Td(n a b:Int):BM n a b=decide (a<=n/\n<=b):=by unfold BM;rw[AQX]
theorem Lw(n a b:Int):AQ n a b=decide (a<=n/\n<=b):=by unfold AQ;rw[AQX]
def j9(d:ASw)(i:Nat):ASf:=d.getD i Ab.zero
def dw(d:ASw)(i:Nat):Int:=(j9 d i).2.1
def eV(d:ASw)(k:Nat):Int:=((d.take k).map λx=>x.2.1).sum
theorem eW{d:ASw}{k:Nat}(h:k<d.length):eV d (k+1)=eV d k+dw d k:=by
 unfold eV;rw[AX h (z:=Ty.zero _),AQG];simp[dw,j9]
def fX(d:ASw)(i:Nat):Prop:=tH (j9 d i).1/\(1<=dw d i/\dw d i<=4096)/\∀k,k<i->(j9 d k).1≠(j9 d i).1
def AB(d:ASw):Prop:=d.length<=60/\(∀i,i<d.length->fX d i)/\eV d d.length<=20000
theorem j8{d:ASw}{k:Nat}(hk:k<=d.length)(h:∀i,i<k->fX d i):0<=eV d k/\eV d k<=4096*k:=by
 induction k with
 |zero=>simp[eV]
 |succ k ih =>
  rw[eW (by omega)];have:=ih (by omega) λi hi=>h i (by omega);have:=(h k (by omega)).2.1;omega
theorem XT(d:ASw):Ax (KU d) λr=>r=true↔AB d:=by
 unfold KU;by_cases hl:d.length<=60
 ·rw[Kg];refine Ax.bind (P:=λt=>(∃x,t=.inl x/\¬∀i,i<d.length->fX d i)\/(t=.inr (eV d d.length)/\∀i,i<d.length->fX d i)) (BW (λk _=>(eV d k,(k:Int))) d.length (λk _=>∀i,i<k->fX d i) (λk _ hk hI=>?_) (λ_ hI=>?_) (s0:=()) (λi h=>by omega)) λt ht=>?_
  ·unfold IV Mf PK;rw[Da hk,AQe (Bg hk),APX];show Ax (((QG (j9 d k).1).bind _).bind _) _;obtain⟨r,hr,hq⟩:=wL _;rw[hr,APW];by_cases h1:tH (j9 d k).1
   ·rw[hq.2 h1];simp only[AQF,AQb];rw[AQe (Bg hk),AQe (Bg hk),APW];by_cases h2:1<=dw d k/\dw d k<=4096
    ·rw[show BM (d.getD k _).2.1 1 4096=true from(Td _ _ _).trans (AP1 h2)];refine Ax.bind (P:=λt=>(t=.inl ()/\¬∀j,j<k->(j9 d j).1≠(j9 d k).1)\/(t=.inr ()/\∀j,j<k->(j9 d j).1≠(j9 d k).1)) ?_ λt ht=>?_
     ·refine BW (λj _=>(j:Int)) k (λj _=>∀i,i<j->(j9 d i).1≠(j9 d k).1) (λj _ hj hJ=>?_) (λ_ hJ=>?_) (s0:=()) (λi h=>by omega)
      ·unfold IU Me;rw[Da hj,AQe (Bg (by omega)),AQe (Bg hk),APX];show Ax (bif Jd (j9 d j).1 (j9 d k).1 then _ else _) _;cases he:Jd _ _ with
       |true=>exact Ax.mk (.inl ⟨rfl,λh=>h j hj ((Xr _ _).1 he)⟩)
       |false =>
        rw[Bj hj (by omega)];refine Ax.mk ⟨(),rfl,λi hi=>?_⟩;rcases AP7 i j with h' |h'
        ·grind
        ·rw[show i=j by omega];intro e;rw[(Xr _ _).2 e]at he;cases he
      ·unfold IU Me;rw[Ep];exact Ax.mk (.inr ⟨rfl,hJ⟩)
     ·rcases ht with ⟨rfl,h⟩|⟨rfl,h⟩
      ·exact Ax.mk (.inl ⟨_,rfl,λh'=>h (h' k hk).2.2⟩)
      ·rw[Bj hk (by omega)];have hb:=j8 (by omega) hI;rw[show wI _=eV d _ by
        rw[eW hk];have:(d.getD k _).2.1=dw d k:=rfl;rw[this,BX]]
       refine Ax.mk ⟨(),rfl,λi hi=>?_⟩;rcases AP7 i k with h' |h'
       ·grind
       ·rw[show i=k by omega];exact⟨h1,h2,h⟩
    ·rw[show BM (d.getD k _).2.1 1 4096=false from(Td _ _ _).trans (APZ h2)];exact Ax.mk (.inl ⟨_,rfl,λh=>h2 (h k hk).2.1⟩)
   ·rw[show r=false by grind];exact Ax.mk (.inl ⟨_,rfl,λh=>h1 (h k hk).1⟩)
  ·unfold IV Mf;rw[Ep];exact Ax.mk (.inr ⟨rfl,hI⟩)
  ·rcases ht with ⟨x,rfl,h⟩|⟨rfl,h⟩
   ·exact Ax.mk ⟨λh=>by grind,λh'=>absurd h'.2.1 h⟩
   ·refine Ax.mk ⟨λh'=>⟨hl,h,AR1 h'⟩,λh'=>AP1 h'.2.2⟩
 ·rw[MN];exact Ax.mk ⟨λh=>by grind,λh=>absurd h.1 hl⟩
theorem uF{d:ASw}{i:Nat}{name:ByteArray}(hi:i<=d.length)(hl:d.length<=1048576):Ax (Lu ((d.take i).drop 0) name) λr=>0<=r↔∃j,j<i/\(j9 d j).1=name:=by
 unfold Lu HU I5;have hlen:(d.take i).length=i:=by grind
 rw[AR4,hlen];refine Ax.bind  (Ax.bind (P:=λt=>(∃j:Nat,t=.inl j/\j<i/\(j9 d j).1=name)\/(t=.inr ()/\∀j,j<i->(j9 d j).1≠name)) ?_ λt ht=>?_) λr hr=>Ax.mk hr
 ·refine BW (λj _=>(j:Int)) i (λj _=>∀k,k<j->(j9 d k).1≠name) (λj _ hj hJ=>?_) (λ_ hJ=>?_) (s0:=()) (λi h=>by omega)
  ·unfold CO D3;have hg:(d.take i).getD j (Ty.zero _)=j9 d j:=by simp[j9,hj]
   rw[Da hj,hlen,AQe (Bg hj),APX,hg];unfold T6;cases he:Jd _ name with
   |true=>exact Ax.mk (.inl ⟨j,rfl,hj,(Xr _ _).1 he⟩)
   |false =>
    rw[Bj hj (by omega)];refine Ax.mk ⟨(),rfl,λk hk=>?_⟩;rcases AP7 k j with h' |h'
    ·grind
    ·rw[show k=j by omega];intro e;rw[(Xr _ _).2 e]at he;cases he
  ·unfold CO D3;rw[Ep];exact Ax.mk (.inr ⟨rfl,hJ⟩)
 ·rcases ht with ⟨j,rfl,h1,h2⟩|⟨rfl,h⟩
  ·exact Ax.mk ⟨λ_=>⟨j,h1,h2⟩,λ_=>by omega⟩
  ·exact Ax.mk ⟨λh'=>absurd (show 0<=-1 from h') (by omega),λ⟨j,h1,h2⟩=>absurd h2 (h j h1)⟩
theorem di(d:ASw):Ax (Nv d) λr=>r=true↔AB d:=by
 unfold Nv;by_cases hl:d.length<=60
 ·rw[Kg];refine Ax.bind (P:=λt=>(∃x,t=.inl x/\¬∀i,i<d.length->fX d i)\/(t=.inr (eV d d.length)/\∀i,i<d.length->fX d i)) (BW (λk _=>(eV d k,(k:Int))) d.length (λk _=>∀i,i<k->fX d i) (λk _ hk hI=>?_) (λ_ hI=>?_) (s0:=()) (λi h=>by omega)) λt ht=>?_
  ·unfold Io LX Pq;rw[Da hk,AQe (Bg hk),APX];show Ax (((QB (j9 d k).1).bind _).bind _) _;obtain⟨r,hr,hq⟩:=vI _;rw[hr,APW];by_cases h1:tH (j9 d k).1
   ·rw[hq.2 h1];by_cases h2:1<=dw d k/\dw d k<=4096
    ·rw[show AQ (d.getD k _).2.1 1 4096=true from(Lw _ _ _).trans (AP1 h2)];simp only[AQF,AQb];rw[AQe ⟨by omega,by omega,by omega⟩];obtain⟨r',hr',vw⟩:=uF (d:=d) (i:=k)  (by omega) (by omega);rw[show Lu _ _=some r' from hr',APW,APW];by_cases h3:0<=r'
     ·rw[AP1 (show r'>=0 from h3)];obtain⟨j,hj1,hj2⟩:=vw.1 h3;exact Ax.mk (.inl ⟨_,rfl,λh=>(h k hk).2.2 j hj1 hj2⟩)
     ·rw[APZ (show ¬r'>=0 from h3),Bj hk (by omega)];have hb:=j8 (by omega) hI;rw[show wI _=eV d _ by
       rw[eW hk];have:(d.getD k _).2.1=dw d k:=rfl;rw[this,BX]]
      refine Ax.mk ⟨(),rfl,λi hi=>?_⟩;rcases AP7 i k with h' |h'
      ·grind
      ·rw[show i=k by omega];exact⟨h1,h2,λj hj e=>h3 (vw.2 ⟨j,hj,e⟩)⟩
    ·rw[show AQ (d.getD k _).2.1 1 4096=false from(Lw _ _ _).trans (APZ h2)];exact Ax.mk (.inl ⟨_,rfl,λh=>h2 (h k hk).2.1⟩)
   ·rw[show r=false by grind];exact Ax.mk (.inl ⟨_,rfl,λh=>h1 (h k hk).1⟩)
  ·unfold Io LX;rw[Ep];exact Ax.mk (.inr ⟨rfl,hI⟩)
  ·rcases ht with ⟨x,rfl,h⟩|⟨rfl,h⟩
   ·exact Ax.mk ⟨λh=>by grind,λh'=>absurd h'.2.1 h⟩
   ·refine Ax.mk ⟨λh'=>⟨hl,h,AR1 h'⟩,λh'=>AP1 h'.2.2⟩
 ·rw[MN];exact Ax.mk ⟨λh=>by grind,λh=>absurd h.1 hl⟩
def BQ(n:ASj):Int:=n.1
def H5(n:ASj):Int:=n.2.1
def nA(n:ASj):Int:=n.2.2.1
def nB(n:ASj):Int:=n.2.2.2.1
def nW(n:ASj):Int:=n.2.2.2.2.1.1
def gF(n:ASj):ASs:=n.2.2.2.2.1.2.1
def AJ(n:ASj):ASs:=n.2.2.2.2.2.1
def YH(n:ASj):Prop:=(AJ n).length<=1048576/\(gF n).length<=1048576/\Em (gF n)
def Oy(n:ASj)(i:Nat):Prop:=∀k∈AJ n,0<=k/\k<(i:Int)
def NoB(n:ASj):Prop:=nW n=0/\(gF n).length=0
def cr(n:ASj):Prop:=4<=BQ n/\BQ n<=9
instance (n:ASj):Decidable (NoB n):=inferInstanceAs (Decidable (_/\_))
instance (n:ASj):Decidable (cr n):=inferInstanceAs (Decidable (_/\_))
def Xy(n:ASj):Prop:=(BQ n≠1->H5 n=0)/\(BQ n≠2->NoB n)/\(BQ n≠4->nB n=0)/\(¬cr n->nA n=0)
def tP(n:ASj):Prop:=∃m:Nat,nW n=(m:Int)/\nO m (gF n)
def LQ(d:ASw)(n:ASj):Prop :=
 (BQ n=1/\(AJ n).length=0/\0<=H5 n/\H5 n<(d.length:Int))\/(BQ n=2/\(AJ n).length=0/\tP n)\/(BQ n=3/\2<=(AJ n).length)\/(4<=BQ n/\BQ n<=9/\(AJ n).length=1)
def Hg(d:ASw)(n:ASj)(s:Int):Int :=
 if BQ n=1 then dw d (H5 n).toNat else if BQ n=2 then nW n else
 if BQ n=4 then(if 0<=nB n/\nB n<=nA n/\nA n<s then nA n-nB n+1 else -1)else
 if BQ n=5\/BQ n=6 then(if 0<=nA n/\nA n<=4096 then s+nA n else -1)else
 if BQ n=7\/BQ n=8 then(if 0<=nA n/\nA n<=4096 then s else -1)else
 if BQ n=9 then(if 1<=nA n/\nA n<=4096 then s*nA n else -1)else s
def Hq(BP:ASs)(n:ASj):ASs:=(AJ n).map λk=>BP.getD k.toNat 0
def tJ(d:ASw)(BP:ASs)(n:ASj)(w:Int):Prop :=
 Oy n BP.length/\Xy n/\LQ d n/\w=Hg d n (Hq BP n).sum/\1<=w/\w<=4096
theorem qw{A:Type}(l:ATB A):((l.length:Int)==0)=decide (l.length=0):=by
 grind
theorem UB{a b:Int}:(a !=b)=decide (a≠b):=by
 grind
theorem UA{a b:Int}:(a==b)=decide (a=b):=by
 grind
theorem o7(n:ASj):CP n.2.2.2.2.1=decide (NoB n):=by
 have h1:(nW n==0)=decide _:=UA;have h2:=qw (gF n);show((nW n==0)&&(((gF n).length:Int)==0))=_;rw[h2];exact(AQX _ _).symm
theorem vO(n:ASj):A6 n.1=decide (cr n):=by
 exact Td _ _ _
theorem wK{d:ASw}{n:ASj}{i:Nat}(hn:YH n)(hi:i<=1048576)(hd:d.length<=1048576):Ax (QH d n (i:Int)) λr=>r=true↔Oy n i/\Xy n/\LQ d n:=by
 unfold QH;refine Ax.bind (P:=λt=>(t=.inl ()/\¬Oy n i)\/(t=.inr ()/\Oy n i)) ?_ λt ht=>?_
 ·unfold VD;refine BW (λj (_:Unit)=>(j:Int)) (AJ n).length (λj _=>∀k,k<j->0<=(AJ n).getD k 0/\(AJ n).getD k 0<(i:Int)) (λj _ hj hJ=>?_) (λ_ hJ=>?_) (s0:=()) (λi h=>by omega)
  ·unfold J7 N3;have hlen:=hn.1;show Ax (bif decide ((j:Int)<((AJ n).length:Int))then(if 0<=(j:Int)/\(j:Int)<((AJ n).length:Int)then(bif !BM ((AJ n).getD (j:Int).toNat 0) 0 (wI ((i:Int)-1))then _ else _)else none)else _) _;rw[Da hj,AQc,AQe (Bg hj),APX,BX (x:=(i:Int)-1),Td];by_cases h:0<=(AJ n).getD j 0/\(AJ n).getD j 0<(i:Int)
   ·rw[MN];simp only[AQF,AQb];rw[Bj hj (by omega)];refine Ax.mk ⟨(),rfl,λk hk=>?_⟩;rcases AP7 k j with h' |h'
    ·exact hJ k h'
    ·rw[show k=j by omega];exact h
   ·rw[Kg];exact Ax.mk (.inl ⟨rfl,λhk=>h (hk _ (AL hj))⟩)
  ·unfold J7 N3;show Ax (bif decide (((AJ n).length:Int)<((AJ n).length:Int))then _ else _) _;rw[Ep,AQb];refine Ax.mk (.inr ⟨rfl,λk hk=>?_⟩);obtain⟨m,hm,rfl⟩:=AQZ hk;have:=hJ m hm;rwa [show(AJ n).getD m 0=(AJ n)[m] by simp[List.getD,hm]]at this
 ·rcases ht with ⟨rfl,h⟩|⟨rfl,h⟩
  ·exact Ax.mk ⟨λh=>by(cases h),λh'=>absurd h'.1 h⟩
  ·refine Ax.bind (P:=λt=>(t=.inl ()/\¬Xy n)\/(t=.inr ()/\Xy n)) ?_ λt ht=>?_
   ·unfold Rz R3;have hb:=o7 n;have h1:=vO n;have e1:∀x:Int,(n.1 !=x)=decide (BQ n≠x):=λx=>UB;have e2:(n.2.1 !=(0:Int))=decide (H5 n≠0):=UB;have e3:(n.2.2.2.1 !=(0:Int))=decide (nB n≠0):=UB;have e4:(n.2.2.1 !=(0:Int))=decide (nA n≠0):=UB;rw[hb,h1,e1,e1,e1,e2,e3,e4];unfold Xy;by_cases a1:BQ n=1<;>by_cases a2:BQ n=2<;>by_cases a3:BQ n=4<;>by_cases a4:cr n<;>by_cases a5:H5 n=0<;>by_cases a6:NoB n<;>by_cases a7:nB n=0<;>by_cases a8:nA n=0 <;>
     first |(exfalso;omega)|(simp[a1,a2,a3,a4,a5,a6,a7,a8,TN];done)
   ·rcases ht with ⟨rfl,h2⟩|⟨rfl,h2⟩
    ·exact Ax.mk ⟨λh=>by(cases h),λh'=>absurd h'.2.1 h2⟩
    ·have hk:=hn.1;have e1:∀x:Int,(n.1==x)=decide (BQ n=x):=λx=>UA;have e2:((n.2.2.2.2.2.1.length:Int)==0)=decide ((AJ n).length=0):=qw (AJ n);have e3:((n.2.2.2.2.2.1.length:Int)==1)=decide ((AJ n).length=1):=by
      show(((AJ n).length:Int)==1)=_;rw[UA,ARH];omega
     have e4:decide ((n.2.2.2.2.2.1.length:Int)>=2)=decide (2<=(AJ n).length):=by
      show decide (((AJ n).length:Int)>=2)=_;rw[ARH];omega
     have e5:BM n.2.1 0 (wI ((d.length:Int)-1))=decide (0<=H5 n/\H5 n<(d.length:Int)):=by
      rw[Td,BX (x:=(d.length:Int)-1),ARH];show 0<=H5 n/\H5 n<=(d.length:Int)-1↔_;omega
     obtain⟨r,hr,hq⟩:=nE (w:=nW n) hn.2.2 hn.2.1;have e6:QE n.2.2.2.2.1=some r:=hr;have hv:tP n↔r=true:=hq.symm;have h1:=vO n;simp only[AQW];rw[e1,e1,e1,e2,e3,e4,e5,e6,h1];unfold LQ;rw[show(4<=BQ n/\BQ n<=9/\(AJ n).length=1)=(cr n/\(AJ n).length=1)from propext and_assoc.symm,hv];have bz:cr n↔4<=BQ n/\BQ n<=9:=Iff.rfl;by_cases a1:BQ n=1
     ·have a4:¬cr n:=by rw[bz];omega
      by_cases a5:(AJ n).length=0
      ·simp[a1,a4,a5,h,h2,TN]
      ·simp[a1,a4,a5,h,h2,TN]
     ·by_cases a2:BQ n=2
      ·have a4:¬cr n:=by rw[bz];omega
       by_cases a5:(AJ n).length=0
       ·simp[a2,a4,a5,h,h2,TN]
       ·simp[a2,a4,a5,h,h2,TN]
      ·by_cases a3:BQ n=3
       ·have a4:¬cr n:=by rw[bz];omega
        simp[a3,a4,h,h2,TN]
       ·by_cases a4:cr n
        ·simp[a1,a2,a3,a4,h,h2,TN]
        ·simp[a1,a2,a3,a4,h,h2,TN]
def UN(BP:ASs)(n:ASj):Int:=(Hq BP n).sum
def jz(BP:ASs):Prop:=BP.length<=1048576/\∀w∈BP,1<=w/\w<=4096
theorem l9{BP:ASs}(h:jz BP){k:Int}(hk:0<=k/\k<(BP.length:Int)):1<=BP.getD k.toNat 0/\BP.getD k.toNat 0<=4096:=h.2 _ (AL (by omega))
theorem fy{BP:ASs}{n:ASj}{k:Nat}(hk:k<(AJ n).length):((Hq BP n).take (k+1)).sum=((Hq BP n).take k).sum+BP.getD ((AJ n).getD k 0).toNat 0:=by
 have hl:k<(Hq BP n).length:=by unfold Hq;rw[AP8];exact hk
 rw[AX hl (z:=0)];unfold Hq
 grind
theorem bG{BP:ASs}{n:ASj}(hw:jz BP)(Ge:Oy n BP.length):∀k,k<=(AJ n).length->(k:Int)<=((Hq BP n).take k).sum/\((Hq BP n).take k).sum<=4096*k:=by
 intro k;induction k with
 |zero=>simp
 |succ k ih =>
  intro hk;rw[fy (by omega)];have:=l9 hw (Ge _ (AL (z:=0) (show k<(AJ n).length by omega)));omega
theorem oM(BP:ASs)(n:ASj):(Hq BP n).take (AJ n).length=Hq BP n:=AP6 (by unfold Hq;grind)
theorem XW{BP:ASs}{n:ASj}(hw:jz BP)(Ge:Oy n BP.length):((AJ n).length:Int)<=UN BP n/\UN BP n<=4096*(AJ n).length:=by
 have:=bG hw Ge _ (AP2 _);rw[oM]at this;exact this
theorem wS{d:ASw}{BP:ASs}{n:ASj}(hn:YH n)(hw:jz BP)(Ge:Oy n BP.length)(hf:LQ d n):Ax (TW d n BP) λr=>r=Hg d n (min 8192 (UN BP n)):=by
 have hlen:=hn.1;refine Ax.bind (P:=λt=>t=min 8192 (UN BP n)) ?_ λt ht=>?_
 ·have h0:min 8192 (((Hq BP n).take 0).sum)=0:=rfl;have:=BW (f:=N4 d BP n) (λk (_:Unit)=>(min 8192 (((Hq BP n).take k).sum),(k:Int))) (AJ n).length (λ_ _=>True) (Q:=λt=>t=min 8192 (UN BP n)) (λk _ hk _=>?_) (λ_ _=>?_) (s0:=()) trivial
  ·exact this
  ·have Al0:=Ge _ (AL (z:=0) hk);have hb:=bG hw Ge k (by omega);have hwk:=l9 hw Al0;show Ax (bif decide ((k:Int)<((AJ n).length:Int))then(if 0<=(k:Int)/\(k:Int)<((AJ n).length:Int)then(if 0<=(AJ n).getD (k:Int).toNat 0/\(AJ n).getD (k:Int).toNat 0<(BP.length:Int)then some (Sum.inl (if wI (min 8192 (((Hq BP n).take k).sum)+BP.getD ((AJ n).getD (k:Int).toNat 0).toNat 0)<8192 then wI (min 8192 (((Hq BP n).take k).sum)+BP.getD ((AJ n).getD (k:Int).toNat 0).toNat 0)else 8192,wI ((k:Int)+1)))else none)else none)else _) _;rw[Da hk,AQe (Bg hk),APX,AQe Al0,Bj hk (by omega)];refine Ax.mk ⟨(),?_,trivial⟩;rw[BX,fy hk]
   grind
  ·show Ax (bif decide (((AJ n).length:Int)<((AJ n).length:Int))then _ else _) _;rw[Ep];refine Ax.mk ?_;rw[oM];rfl
 ·subst ht;generalize hS:min 8192 (UN BP n)=S;have hSb:0<=S/\S<=8192:=by have:=XW hw Ge;omega
  have e1:∀x:Int,(n.1==x)=decide (BQ n=x):=λx=>UA;have e2:BM n.2.2.1 0 4096=decide (0<=nA n/\nA n<=4096):=Td _ _ _;have e3:BM n.2.2.1 1 4096=decide (1<=nA n/\nA n<=4096):=Td _ _ _;have e4:(decide (n.2.2.2.1<0)||(decide (n.2.2.1<n.2.2.2.1)||decide (n.2.2.1>=S)))=decide (¬(0<=nB n/\nB n<=nA n/\nA n<S)):=by
   show(decide (nB n<0)||(decide (nA n<nB n)||decide (nA n>=S)))=_
   grind
  unfold RA Hg R3;rw[e1,e1,e1,e1,e1,e1,e1,e1,e2,e3,e4];by_cases a1:BQ n=1
  ·have hv:0<=H5 n/\H5 n<(d.length:Int):=by
     rcases hf with h |h |h |h
     ·grind
     ·omega
     ·omega
     ·omega
   rw[AQe a1,AP1 a1,AQe (show 0<=n.2.1/\n.2.1<(d.length:Int)from hv)];exact Ax.mk rfl
  ·rw[AQf a1,APZ a1];by_cases a2:BQ n=2
   ·rw[AQe a2,AP1 a2];exact Ax.mk rfl
   ·rw[AQf a2,APZ a2];by_cases a4:BQ n=4
    ·rw[AQe a4,AP1 a4];by_cases h:0<=nB n/\nB n<=nA n/\nA n<S
     ·rw[AQe h,APZ (λhh=>hh h)];refine Ax.mk ?_;show wI (wI (nA n-nB n)+1)=_;rw[BX (x:=nA n-nB n),BX]
     ·rw[AQf h,AP1 h];exact Ax.mk rfl
    ·rw[AQf a4,APZ a4];by_cases a5:BQ n=5\/BQ n=6
     ·rw[AQe a5];have hc:(bif decide (BQ n=5)then decide (BQ n=5)else decide (BQ n=6))=true:=by
       grind
      rw[hc];by_cases h:0<=nA n/\nA n<=4096
      ·rw[AQe h,AP1 h];refine Ax.mk ?_;show wI (S+nA n)=_;rw[BX]
      ·rw[AQf h,APZ h];exact Ax.mk rfl
     ·rw[AQf a5];have hc:(bif decide (BQ n=5)then decide (BQ n=5)else decide (BQ n=6))=false:=by
       grind
      rw[hc];by_cases a7:BQ n=7\/BQ n=8
      ·rw[AQe a7];have hc:(bif decide (BQ n=7)then decide (BQ n=7)else decide (BQ n=8))=true:=by
        grind
       rw[hc];by_cases h:0<=nA n/\nA n<=4096
       ·rw[AQe h,AP1 h];exact Ax.mk rfl
       ·rw[AQf h,APZ h];exact Ax.mk rfl
      ·rw[AQf a7];have hc:(bif decide (BQ n=7)then decide (BQ n=7)else decide (BQ n=8))=false:=by
        grind
       rw[hc];by_cases a9:BQ n=9
       ·rw[AQe a9,AP1 a9];by_cases h:1<=nA n/\nA n<=4096
        ·rw[AQe h,AP1 h];refine Ax.mk ?_;show wI (S*nA n)=_;have h1:0<=S*nA n:=Int.mul_nonneg hSb.1 (by omega);have h2:S*nA n<=8192*4096:=Int.mul_le_mul hSb.2 h.2 (by omega) (by omega);rw[BX]
        ·rw[AQf h,APZ h];exact Ax.mk rfl
       ·rw[AQf a9,APZ a9];exact Ax.mk rfl
theorem Ajo{d:ASw}{BP:ASs}{n:ASj}(hw:jz BP)(Ge:Oy n BP.length)(hf:LQ d n):Hg d n (min 8192 (UN BP n))=Hg d n (UN BP n)\/(4096<Hg d n (min 8192 (UN BP n))/\4096<Hg d n (UN BP n)):=by
 have hb:=XW hw Ge;rcases hf with h |h |h |h
 ·grind
 ·grind
 ·by_cases hs:UN BP n<=8192
  ·grind
  ·have e:∀S,Hg d n S=S:=λS=>by simp[Hg,h.1]
   rw[e,e];omega
 grind
instance (n:ASj):Decidable (Xy n):=inferInstanceAs (Decidable (_/\_/\_/\_))
theorem Aio(n:ASj):EF n=decide (Xy n):=by
 have hb:((n.2.2.2.2.1.1==(0:Int))&&((n.2.2.2.2.1.2.1.length:Int)==0))=decide (NoB n):=o7 n;have h1:(decide (n.1>=4)&&decide (n.1<=9))=decide (cr n):=(AQX _ _).symm;have e1:∀x:Int,(n.1 !=x)=decide (BQ n≠x):=λx=>UB;have e0:(n.1==(2:Int))=decide (BQ n=2):=UA;have e2:(n.2.1 !=(0:Int))=decide (H5 n≠0):=UB;have e3:(n.2.2.2.1 !=(0:Int))=decide (nB n≠0):=UB;have e4:(n.2.2.1 !=(0:Int))=decide (nA n≠0):=UB;have hp:decide (Xy n)=decide ((BQ n≠1->H5 n=0)/\(BQ n≠2->NoB n)/\(BQ n≠4->nB n=0)/\(¬cr n->nA n=0)):=rfl;rw[hp];unfold EF;rw[hb,h1,e1,e1,e0,e2,e3,e4];by_cases a1:BQ n=1<;>by_cases a2:BQ n=2<;>by_cases a3:BQ n=4<;>by_cases a4:cr n<;>by_cases a5:H5 n=0<;>by_cases a6:NoB n<;>by_cases a7:nB n=0<;>by_cases a8:nA n=0 <;>
  first |(exfalso;omega)|(simp[a1,a2,a3,a4,a5,a6,a7,a8];done)
theorem vM{d:ASw}{BP:ASs}{n:ASj}(hn:YH n)(hw:jz BP)(hd:d.length<=1048576)(Ge:Oy n BP.length):Ax (GY n d (Hq BP n)) λr=>(LQ d n->r=Hg d n (UN BP n))/\(¬LQ d n->r=-1):=by
 have hlen:=hn.1;have ru:(Hq BP n).length=(AJ n).length:=by unfold Hq;rw[AP8]
 have hS:=XW hw Ge;have e1:∀x:Int,(n.1==x)=decide (BQ n=x):=λx=>UA;have e2:((((Hq BP n).length:Nat):Int)==0)=decide ((AJ n).length=0):=by rw[qw,ru]
 have e3:((((Hq BP n).length:Nat):Int) !=1)=decide ((AJ n).length≠1):=by rw[UB,ARH];omega
 have e4:decide ((((Hq BP n).length:Nat):Int)>1)=decide (2<=(AJ n).length):=by rw[ARH];omega
 have e5:AQ n.2.1 0 (wI ((d.length:Int)-1))=decide (0<=H5 n/\H5 n<(d.length:Int)):=by
  rw[Lw,BX (x:=(d.length:Int)-1),ARH];show 0<=H5 n/\H5 n<=(d.length:Int)-1↔_;omega
 have e6:AQ n.2.2.1 0 4096=decide (0<=nA n/\nA n<=4096):=Lw _ _ _;have e7:AQ n.2.2.1 1 4096=decide (1<=nA n/\nA n<=4096):=Lw _ _ _;have bz:cr n↔4<=BQ n/\BQ n<=9:=Iff.rfl;obtain⟨f,hf⟩:∃f,f=(bif decide ((((Hq BP n).length:Nat):Int)>0)then(Hq BP n).getD 0 0 else 0):=⟨_,rfl⟩;have hf1:(AJ n).length=1->f=UN BP n:=λh=>by
  rw[hf,MN,AQc];unfold UN;obtain⟨x,hx⟩:=List.length_eq_one_iff.1 (show(Hq BP n).length=1 by omega);rw[hx];simp
 unfold GY R3;rw[show Gf n d (Hq BP n)=some f by
  unfold Gf;rw[hf];by_cases h:(AJ n).length=0
  ·rw[Kg];rfl
  ·rw[MN,AQc,AQc,AQe ⟨by omega,by omega⟩];rfl,APW,e5,e6,e7]
 rw[e1,e1,e1,e1,e1,e1,e1,e1,e2,e3,e4];have hF:LQ d n↔(BQ n=1/\(AJ n).length=0/\0<=H5 n/\H5 n<(d.length:Int))\/(BQ n=2/\(AJ n).length=0/\tP n)\/(BQ n=3/\2<=(AJ n).length)\/(4<=BQ n/\BQ n<=9/\(AJ n).length=1):=Iff.rfl;have AGy:¬LQ d n->Ax (some (-1:Int)) λr=>(LQ d n->r=Hg d n (UN BP n))/\(¬LQ d n->r=-1):=λh=>Ax.mk ⟨λh'=>absurd h' h,λ_=>rfl⟩;have pos:∀v:Int,LQ d n->v=Hg d n (UN BP n)->Ax (some v) λr=>(LQ d n->r=Hg d n (UN BP n))/\(¬LQ d n->r=-1):=λv h e=>Ax.mk ⟨λ_=>e,λh'=>absurd h h'⟩;by_cases c1:BQ n=1/\(AJ n).length=0/\(0<=H5 n/\H5 n<(d.length:Int))
 ·rw[<-AQX,<-AQX,AP1 c1,AQc,AQe (show 0<=n.2.1/\n.2.1<(d.length:Int)from c1.2.2)];exact pos _ (hF.2 (.inl c1)) (by unfold Hg;rw[AQe c1.1];rfl)
 ·rw[<-AQX,<-AQX,APZ c1,AQb];obtain⟨b,ik,oA⟩:∃b,Gg n (Hq BP n) f=some b/\(b=true↔BQ n=2/\(AJ n).length=0/\tP n):=by
   unfold Gg;rw[e1,e2];obtain⟨r,hr,hq⟩:=mY (w:=nW n) hn.2.2 hn.2.1;have e6:Qy n.2.2.2.2.1=some r:=hr;rw[e6];have hq:r=true↔tP n:=hq;by_cases a2:BQ n=2
   ·by_cases a3:(AJ n).length=0
    ·rw[AP1 a2,AP1 a3];exact⟨r,rfl,by rw[hq];exact⟨λh=>⟨a2,a3,h⟩,λh=>h.2.2⟩⟩
    ·rw[AP1 a2,APZ a3];exact⟨false,rfl,λh=>by(cases h),λh=>absurd h.2.1 a3⟩
   ·rw[APZ a2];exact⟨false,rfl,λh=>by(cases h),λh=>absurd h.1 a2⟩
  rw[ik,APW];cases b with
  |true =>
   have c2:=oA.1 rfl;exact pos _ (hF.2 (.inr (.inl c2))) (by unfold Hg;rw[P9,AQe c2.1];rfl)
  |false =>
   have c2:¬(BQ n=2/\(AJ n).length=0/\tP n):=λh=>by have:=oA.2 h;cases this
   rw[AQb,<-AQX];by_cases c3:BQ n=3/\2<=(AJ n).length
   ·rw[AP1 c3,AQc];unfold OC;have:=AW (f:=Cu (Hq BP n) (((Hq BP n).length:Nat):Int)) (λk=>((((Hq BP n).take k).sum:Int),(k:Int))) (t:=UN BP n) (Hq BP n).length (λk hk=>by
     unfold Cu HI;rw[ru]at hk;have hb:=bG hw Ge k (by omega);have hwk:=l9 hw (Ge _ (AL (z:=0) hk));have hg:(Hq BP n).getD k 0=BP.getD ((AJ n).getD k 0).toNat 0:=by unfold Hq;exact Fj (λk=>BP.getD k.toNat 0) hk
     simp only;rw[ru,Da hk,AQc,AQe (Bg hk),APX,Bj hk (by omega),fy hk];show some (Sum.inl (wI (((Hq BP n).take k).sum+(Hq BP n).getD k 0),_))=_;rw[hg,BX]) (by
     unfold Cu HI;simp only;rw[Ep,AQb,AP6 (AP2 _)];rfl)
    rw[show fix (Cu (Hq BP n) (((Hq BP n).length:Nat):Int)) (0,0)=some (UN BP n)from this];exact pos _ (hF.2 (.inr (.inr (.inl c3)))) (by unfold Hg;simp[c3.1])
   ·rw[APZ c3,AQb];by_cases c4:(AJ n).length=1
    ·rw[APZ (λh=>h c4),AQb];have hfS:=hf1 c4;have hSb:0<=f/\f<=4096:=by omega
     have BU:4<=BQ n/\BQ n<=9->LQ d n:=λh=>hF.2 (.inr (.inr (.inr ⟨h.1,h.2,c4⟩)));have e4':(decide (n.2.2.2.1>=0)&&(decide (n.2.2.2.1<=n.2.2.1)&&decide (n.2.2.1<f)))=decide (0<=nB n/\nB n<=nA n/\nA n<f):=by
      show(decide (nB n>=0)&&(decide (nB n<=nA n)&&decide (nA n<f)))=_;rw[<-AQX,<-AQX]
     rw[e4',<-AQX,<-AQX,<-AQX,<-AQX];have ecx:(n.2.2.1:Int)=nA n:=rfl;have ecb:(n.2.2.2.1:Int)=nB n:=rfl;have hw0:∀v,v=Hg d n f->v=Hg d n (UN BP n):=λv h=>by rw[<-hfS];exact h
     by_cases a4:BQ n=4
     ·by_cases h:0<=nB n/\nB n<=nA n/\nA n<f
      ·rw[AP1 ⟨a4,h⟩,AQc];refine pos _ (BU (by omega)) (hw0 _ ?_);show wI (wI (nA n-nB n)+1)=_;rw[BX (x:=nA n-nB n),BX];unfold Hg;simp[a4,h]
      ·have:∀v:Int,v=-1->v=Hg d n f:=λv hv=>by unfold Hg;simp[a4,h,hv]
       simp[a4,h];exact pos _ (BU (by omega)) (hw0 _ (this _ rfl))
     ·by_cases a5:BQ n=5\/BQ n=6
      ·by_cases h:0<=nA n/\nA n<=4096
       ·have:(bif decide (BQ n=5)then decide (0<=nA n/\nA n<=4096)else decide (BQ n=6/\0<=nA n/\nA n<=4096))=true:=by
          rcases a5 with h' |h'<;>simp[h',h]
        rw[Kg,AQb,this,AQc];refine pos _ (BU (by omega)) (hw0 _ ?_);show wI (f+nA n)=_;rw[BX];unfold Hg;rcases a5 with h' |h'<;>simp[h',h]
       ·have:∀v:Int,v=-1->v=Hg d n f:=λv hv=>by unfold Hg;rcases a5 with h' |h'<;>simp[h',h,hv]
        have h2:=pos _ (BU (by omega)) (hw0 _ (this _ rfl));rcases a5 with h' |h'<;>simp[h',h]<;>exact h2
      ·by_cases a7:BQ n=7\/BQ n=8
       ·by_cases h:0<=nA n/\nA n<=4096
        ·have h2:=pos f (BU (by omega)) (hw0 _ (by unfold Hg;rcases a7 with h' |h'<;>simp[h',h]));rcases a7 with h' |h'<;>simp[h',h]<;>exact h2
        ·have:∀v:Int,v=-1->v=Hg d n f:=λv hv=>by unfold Hg;rcases a7 with h' |h'<;>simp[h',h,hv]
         have h2:=pos _ (BU (by omega)) (hw0 _ (this _ rfl));rcases a7 with h' |h'<;>simp[h',h]<;>exact h2
       ·by_cases a9:BQ n=9
        ·by_cases h:1<=nA n/\nA n<=4096
         ·have h1:0<=f*nA n:=Int.mul_nonneg hSb.1 (by omega);have h2:f*nA n<=4096*4096:=Int.mul_le_mul hSb.2 h.2 (by omega) (by omega);have h3:=pos (wI (f*nA n)) (BU (by omega)) (hw0 _ (by rw[BX];unfold Hg;simp[a9,h]));simp[a9,h];exact h3
         ·have:∀v:Int,v=-1->v=Hg d n f:=λv hv=>by unfold Hg;simp[a9,h,hv]
          have h2:=pos _ (BU (by omega)) (hw0 _ (this _ rfl));simp[a9,h];exact h2
        ·simp only[not_or]at a5 a7;have h2:=AGy (by rw[hF];omega);simp[a4,a5,a7,a9];exact h2
    ·rw[AP1 c4,AQc];exact AGy (by rw[hF];intro h;rcases h with h |h |h |h;exact c1 h;exact c2 h;exact c3 h;exact c4 h.2.2)
def nd(t:ASA)(i:Nat):ASj:=t.getD i Ag.zero
def ml(d:ASw)(t:ASA)(ws:ASs):Prop:=ws.length<=t.length/\∀j,j<ws.length->tJ d (ws.take j) (nd t j) (ws.getD j 0)
def eG(t:ASA)(k i:Nat):Prop:=∃j,j<i/\(k:Int)∈AJ (nd t j)
def MK(d:ASw)(t:ASA)(ws:ASs):Prop:=1<=t.length/\t.length<=400/\ws.length=t.length/\ml d t ws/\∀k,k+1<t.length->eG t k t.length
def LS(t:ASA):Prop:=t.length<=1048576/\∀n∈t,YH n
theorem ml.take{d:ASw}{t:ASA}{ws:ASs}(h:ml d t ws)(i:Nat):ml d t (ws.take i):=by
 have hl:=h.1;refine⟨by grind,λj hj=>?_⟩;rw[AQh]at hj;have:=h.2 j (by omega)
 grind
theorem ml.unique{d:ASw}{t:ASA}{a b:ASs}(ha:ml d t a)(hb:ml d t b)(hl:a.length=b.length):a=b:=by
 have:∀k,k<=a.length->a.take k=b.take k:=by
  intro k;induction k with
  |zero=>simp
  |succ k ih =>
   intro hk;have e:=ih (by omega);have h1:=ha.2 k (by omega);have h2:=hb.2 k (by omega);rw[AX (show k<a.length by omega),AX (show k<b.length by omega),e];rw[e]at h1;rw[h1.2.2.2.1,h2.2.2.2.1]
 have:=this _ (AP2 _)
 grind
theorem ml.BP{d:ASw}{t:ASA}{ws:ASs}(h:ml d t ws)(hl:t.length<=1048576):jz ws:=by
 refine⟨AQq h.1 hl,λw hw=>?_⟩;obtain⟨j,hj,rfl⟩:=AQZ hw;have:=(h.2 j hj).2.2.2.2
 grind
theorem ml.snoc{d:ASw}{t:ASA}{ws:ASs}{w:Int}(h:ml d t ws)(hl:ws.length<t.length)(hn:tJ d ws (nd t ws.length) w):ml d t (ws++[w]):=by
 refine⟨by grind,λj hj=>?_⟩;rw[AP0]at hj;simp only[AQL,ARP]at hj;rcases AP7 j ws.length with h' |h'
 ·rw[AQ4 (by omega),show(ws++[w]).getD j 0=ws.getD j 0 by grind];exact h.2 j h'
 grind
theorem MK.node{d:ASw}{t:ASA}{ws my:ASs}(h:MK d t my)(hp:ml d t ws)(hl:ws.length<t.length):∃w,tJ d ws (nd t ws.length) w:=by
 have e:ws=my.take ws.length:=hp.unique (h.2.2.2.1.take _) (by rw[AQh,h.2.2.1];omega);have:=h.2.2.2.1.2 _ (by rw[h.2.2.1];exact hl)
 grind
theorem Ada(BP:ASs)(n:ASj):CL (λm=>BP.getD ((AJ n).getD m 0).toNat 0) 0 (AJ n).length (AJ n).length=Hq BP n:=by
 refine AQV (by simp[CL,Hq]) λi h1 h2=>?_;have :=by simpa [CL]using h1
 simp[CL,Hq,this]
theorem XM{l:ASs}{x:Int}:x∈l↔∃m,m<l.length/\l.getD m 0=x:=by
 constructor
 ·intro h;obtain⟨m,hm,rfl⟩:=AQZ h;exact⟨m,hm,by grind⟩
 grind
theorem mK{l:ASt}{k j:Nat}(hk:k<l.length):(l.set k true).getD j false=if j=k then true else l.getD j false:=by
 grind
theorem vG{D:ASw}{C E:Int}{t:ASq}{q:ASj}{ws out:ASs}{VW:ASt}{n:ASj}{N:Nat}(hn:YH n)(hl:ws.length<N)(hN:N<=1048576)(ho:out=ws++List.replicate (N-ws.length) 0)(hu:VW.length=N) :
    Ax (Q7 D C (ws.length:Int) E t out q (AJ n) ((AJ n).length:Int) 0 VW (List.replicate (AJ n).length 0)) λr=>(∃x,r=.inl x/\¬Oy n ws.length)\/(∃u,r=.inr (Hq ws n,u)/\Oy n ws.length/\u.length=N/\∀k:Nat,k<N->(u.getD k false=true↔VW.getD k false=true\/(k:Int)∈AJ n)):=by
 have hlen:=hn.1;have hol:out.length=N:=by grind
 have Xa:∀k:Nat,k<ws.length->out.getD k 0=ws.getD k 0:=λk hk=>by grind
 have:=BW (f:=G1 D C (ws.length:Int) E t out q (AJ n) ((AJ n).length:Int)) (λj (u:ASt)=>((j:Int),u,CL (λm=>ws.getD ((AJ n).getD m 0).toNat 0) 0 (AJ n).length j)) (AJ n).length
  (λj u=>(∀m,m<j->0<=(AJ n).getD m 0/\(AJ n).getD m 0<(ws.length:Int))/\u.length=N/\∀k:Nat,k<N->(u.getD k false=true↔VW.getD k false=true\/∃m,m<j/\(AJ n).getD m 0=(k:Int)))
  (Q:=λr=>(∃x,r=.inl x/\¬Oy n ws.length)\/(∃u,r=.inr (Hq ws n,u)/\Oy n ws.length/\u.length=N/\∀k:Nat,k<N->(u.getD k false=true↔VW.getD k false=true\/(k:Int)∈AJ n))) (λj u hj hI=>?_) (λu hI=>?_) (s0:=VW) ⟨λm hm=>by omega,hu,λk _=>⟨λh=>.inl h,λh=>by grind⟩⟩
 ·rw[MO]at this;exact this
 ·unfold G1 NK;rw[Da hj,AQe (Bg hj),APX,Lw,BX (x:=(ws.length:Int)-1)];show Ax (bif !decide (0<=(AJ n).getD j 0/\(AJ n).getD j 0<=(ws.length:Int)-1)then _ else _) _;by_cases h:0<=(AJ n).getD j 0/\(AJ n).getD j 0<=(ws.length:Int)-1
  ·rw[AP1 h];obtain⟨k,hk⟩:∃k:Nat,(AJ n).getD j 0=(k:Int):=⟨((AJ n).getD j 0).toNat,by omega⟩;have ru:k<ws.length:=by omega
   rw[show(AJ n).getD j ATl.zero=(k:Int)from hk,APX,AQe ⟨by omega,by omega⟩,AQe ⟨by omega,by grind⟩,H8,AQe (Bg hj),Bj hj (by omega)];refine Ax.mk ⟨u.set k true,?_,λm hm=>?_,by grind,λi hi=>?_⟩
   ·rw[<-Qw];have hg:out.getD k ATl.zero=ws.getD ((AJ n).getD j 0).toNat 0:=by
     grind
    rw[hg]
   ·rcases AP7 m j with h' |h'
    ·exact hI.1 m h'
    ·rw[show m=j by omega];omega
   ·rw[mK (by omega)];by_cases hik:i=k
    ·subst hik;simp only[AQJ,true_iff];exact .inr ⟨j,by omega,hk⟩
    ·rw[AQf hik,hI.2.2 i hi];constructor
     ·rintro(h |⟨m,h1,h2⟩)
      ·exact .inl h
      ·exact .inr ⟨m,by omega,h2⟩
     ·rintro(h |⟨m,h1,h2⟩)
      ·exact .inl h
      ·rcases AP7 m j with h' |h'
       ·exact .inr ⟨m,h',h2⟩
       ·have:m=j:=by omega
        subst this;omega
  ·rw[APZ h];exact Ax.mk (.inl ⟨_,rfl,λhk=>h (by have:=hk _ (AL (z:=0) hj);omega)⟩)
 ·unfold G1 NK;rw[Ep];refine Ax.mk (.inr ⟨u,by rw[Ada],λk hk=>?_,hI.2.1,λk hk=>?_⟩)
  ·obtain⟨m,hm,rfl⟩:=XM.1 hk;exact hI.1 m hm
  ·rw[hI.2.2 k hk,XM]
theorem uB{u:ASt}(hl:u.length<=1048576):Ax (IL u false) λr=>r=true↔∃k,k<u.length/\u.getD k false=false:=by
 refine Ax.bind (P:=λr=>0<=r↔∃k,k<u.length/\u.getD k false=false) (Ax.bind (P:=λt=>(∃j:Nat,t=.inl j/\j<u.length/\u.getD j false=false)\/(t=.inr ()/\∀j,j<u.length->u.getD j false=true)) ?_ λt ht=>?_) λr hr=>Ax.mk (by grind)
 ·refine BW (λj _=>(j:Int)) u.length (λj _=>∀k,k<j->u.getD k false=true) (λj _ hj hJ=>?_) (λ_ hJ=>?_) (s0:=()) (λi h=>by omega)
  ·unfold D5 GG;rw[Da hj,AQe (Bg hj)];show Ax (bif false==u.getD j false then _ else _) _;cases he:u.getD j _ with
   |false=>exact Ax.mk (.inl ⟨j,rfl,hj,he⟩)
   |true =>
    rw[Bj hj (by omega)];refine Ax.mk ⟨(),rfl,λk hk=>?_⟩
    grind
  ·unfold D5 GG;rw[Ep];exact Ax.mk (.inr ⟨rfl,hJ⟩)
 ·rcases ht with ⟨j,rfl,h1,h2⟩|⟨rfl,h⟩
  ·exact Ax.mk ⟨λ_=>⟨j,h1,h2⟩,λ_=>by omega⟩
  ·exact Ax.mk ⟨λh'=>absurd (show 0<=-1 from h') (by omega),λ⟨j,h1,h2⟩=>by grind⟩
theorem ng{d:ASw}{t:ASA}(ht:LS t)(hd:d.length<=1048576):Ax (TD d (t,())) λr=>(r.1=true/\MK d t r.2)\/(r.1=false/\¬∃ws,MK d t ws):=by
 unfold TD R3;show Ax (bif decide ((t.length:Int)<1)||decide ((t.length:Int)>400)then _ else _) _;by_cases hl:1<=t.length/\t.length<=400
 ·rw[Kg,Kg,Bool.or_false,AQb];rw[show M1 d (t,()) (t.length:Int)=some (List.replicate t.length 0,List.replicate t.length false) by
   unfold M1;rw[AQe ⟨rfl,by omega,by omega,by omega,by omega⟩,AQe ⟨rfl,by omega,by omega,by omega,by omega⟩,APX],APW]
  refine Ax.bind (P:=λr=>(∃x,r=.inl x/\¬∃ws,MK d t ws)\/(∃ws u,r=.inr (u,ws)/\ws.length=t.length/\ml d t ws/\u.length=t.length/\∀k:Nat,k<t.length->(u.getD k false=true↔eG t k t.length))) ?_ λr hr=>?_
  ·unfold Vd;have:=BW (f:=G2 d (t,()) (t.length:Int) (t.length:Int)) (λi (s:ASs×ASt)=>((i:Int),s.1,s.2)) t.length
    (λi s=>∃ws:ASs,ws.length=i/\ml d t ws/\s.1=ws++List.replicate (t.length-i) 0/\s.2.length=t.length/\∀k:Nat,k<t.length->(s.2.getD k false=true↔eG t k i))
    (Q:=λr=>(∃x,r=.inl x/\¬∃ws,MK d t ws)\/(∃ws u,r=.inr (u,ws)/\ws.length=t.length/\ml d t ws/\u.length=t.length/\∀k:Nat,k<t.length->(u.getD k false=true↔eG t k t.length))) (λi s hi hI=>?_) (λs hI=>?_) (s0:=(List.replicate t.length 0,List.replicate t.length false)) ⟨[],rfl,⟨AQH _,λj hj=>by simp at hj⟩,rfl,AQt,λk hk=>by
     have h0:(List.replicate t.length false).getD k false=false:=by simp[List.getD,hk]
     constructor
     ·intro h;rw[h0]at h;cases h
     ·rintro⟨j,hj,_⟩;omega⟩
   ·exact this
   ·obtain⟨out,VW⟩:=s;obtain⟨ws,rfl,hp,ho,kL,hu⟩:=hI;simp only at ho kL hu;have hn:YH (nd t ws.length):=ht.2 _ (AL hi);have ru:=hn.1;unfold G2 NL;simp only;rw[show decide ((ws.length:Int)<(t.length:Int))=true from Da hi,AQc,AQe (Bg hi),APX];show Ax (bif decide (((AJ (nd t ws.length)).length:Int)>4096)then _ else if Ty.row ATl=true/\(0:Int)<=((AJ (nd t ws.length)).length:Int)/\((AJ (nd t ws.length)).length:Int)<=((AJ (nd t ws.length)).length:Int)/\((8:Nat):Int)*((AJ (nd t ws.length)).length:Int)<=(281474976710656:Int)/\((AJ (nd t ws.length)).length:Int)<=(9223372036854775807:Int)then(Q7 d (t.length:Int) (ws.length:Int) (t.length:Int) (t,()) out (nd t ws.length) (AJ (nd t ws.length)) ((AJ (nd t ws.length)).length:Int) 0 VW (List.replicate ((AJ (nd t ws.length)).length:Int).toNat 0)).bind _ else none) _;by_cases hk4:(AJ (nd t ws.length)).length>4096
    ·rw[MN];refine Ax.mk (.inl ⟨_,rfl,λ⟨my,h'⟩=>?_⟩);obtain⟨w,hw⟩:=h'.node hp hi;have hb:=XW (hp.BP ht.1) hw.1;have az:=hw.2.2.1;have heq:=hw.2.2.2.1;have hw4:=hw.2.2.2.2.2;rcases az with h |h |h |h
     ·omega
     ·omega
     ·have:Hg d (nd t ws.length) (Hq ws (nd t ws.length)).sum=UN ws (nd t ws.length):=by unfold UN Hg;simp[h.1]
      omega
     ·omega
    ·rw[Kg,AQb,AQe ⟨rfl,by omega,by omega,by omega,by omega⟩,APX];refine Ax.bind (vG hn hi ht.1 ho kL) λr hr=>?_;rcases hr with ⟨x,rfl,h⟩|⟨u,rfl,Ge,AJX,hu'⟩
     ·refine Ax.mk (.inl ⟨_,rfl,λ⟨my,h'⟩=>?_⟩);obtain⟨w,hw⟩:=h'.node hp hi;exact h hw.1
     ·simp only[AQW];obtain⟨r,hr,hq⟩:=vM (d:=d) hn (hp.BP ht.1) hd Ge;rw[show GY (t.getD ws.length Ag.zero) d (Hq ws (nd t ws.length))=some r from hr,APW];have hol:out.length=t.length:=by rw[ho,AP0,AQt];omega
      rw[AQe ⟨by omega,by rw[hol];omega⟩];unfold Q8;rw[show EF (t.getD ws.length Ag.zero)=_ from Aio (nd t ws.length),AP5,AQe ⟨by omega,by rw[hol];omega⟩,APX];have hgs:(out.set ws.length r).getD ws.length ATl.zero=r:=by simp[List.getD,hol,hi]
      rw[hgs,Lw];have HY:out.set ws.length r=(ws++[r])++List.replicate (t.length-(ws.length+1)) 0:=by
       rw[ho,show t.length-ws.length=(t.length-(ws.length+1))+1 by omega,List.replicate_succ];simp
      by_cases vu:Xy (nd t ws.length)
      ·by_cases tt:1<=r/\r<=4096
       ·rw[AP1 vu,AP1 tt];simp only[AQF,AQb,APW];have az:LQ d (nd t ws.length):=by
         by_cases hf:LQ d (nd t ws.length)
         ·exact hf
         ·have:=hq.2 hf;omega
        have Aho:tJ d ws (nd t ws.length) r:=⟨Ge,vu,az,hq.1 az,tt⟩;refine Ax.mk ⟨(out.set ws.length r,u),by rw[Bj hi ht.1],ws++[r],by simp,hp.snoc hi Aho,HY,AJX,λk hk=>?_⟩;rw[hu' k hk,hu k hk];constructor
        ·rintro(⟨j,h1,h2⟩|h)
         ·exact⟨j,by omega,h2⟩
         ·exact⟨ws.length,by omega,h⟩
        ·rintro⟨j,h1,h2⟩
         rcases AP7 j ws.length with h' |h'
         ·exact .inl ⟨j,h',h2⟩
         ·rw[show j=ws.length by omega]at h2;exact .inr h2
       ·rw[AP1 vu,APZ tt];refine Ax.mk (.inl ⟨_,rfl,λ⟨my,h'⟩=>?_⟩);obtain⟨w,hw⟩:=h'.node hp hi;have:=hq.1 hw.2.2.1;have h3:=hw.2.2.2;unfold UN at this;rw[<-this]at h3;exact tt (by rw[<-h3.1];exact h3.2)
      ·rw[APZ vu];refine Ax.mk (.inl ⟨_,rfl,λ⟨my,h'⟩=>?_⟩);obtain⟨w,hw⟩:=h'.node hp hi;exact vu hw.2.1
   ·obtain⟨out,VW⟩:=s;obtain⟨ws,hwl,hp,ho,kL,hu⟩:=hI;simp only at ho kL hu;unfold G2 NL;simp only;rw[Ep,AQb];rw[Nat.sub_self,List.replicate_zero,AQB]at ho;subst ho;exact Ax.mk (.inr ⟨out,VW,rfl,hwl,hp,kL,hu⟩)
  ·rcases hr with ⟨x,rfl,h⟩|⟨ws,u,rfl,hwl,hp,kL,hu⟩
   ·exact Ax.mk (.inr ⟨rfl,h⟩)
   ·simp only[AQW];have e1:wI ((t.length:Int)-1)=((t.length-1:Nat):Int):=A0;rw[e1,AQe ⟨by omega,by omega,by rw[kL];omega⟩,APX,AR4];have htl:(u.take (t.length-1)).length=t.length-1:=by rw[AQh];omega
    have hgt:∀k,k<t.length-1->(u.take (t.length-1)).getD k false=u.getD k false:=λk hk=>by simp[List.getD,hk]
    refine Ax.bind (uB (by omega)) λr hr=>Ax.mk ?_;rw[htl]at hr;cases r with
    |false =>
     refine .inl ⟨rfl,hl.1,hl.2,hwl,hp,λk hk=>(hu k (by omega)).1 ?_⟩;cases hc:u.getD k false with
     |true=>rfl
     |false=>have:=hr.2 ⟨k,by omega,by rw[hgt k (by omega)];exact hc⟩;cases this
    |true =>
     obtain⟨k,hk,hf⟩:=hr.1 rfl;rw[hgt k hk]at hf;refine .inr ⟨rfl,λ⟨my,h'⟩=>?_⟩;have:=(hu k (by omega)).2 (h'.2.2.2.2 k (by omega));rw[this]at hf;cases hf
 ·have hc:(decide ((t.length:Int)<1)||decide ((t.length:Int)>400))=true:=by simp;omega
  rw[hc];exact Ax.mk (.inr ⟨rfl,λ⟨ws,h⟩=>hl ⟨h.1,h.2.1⟩⟩)
theorem wQ{D:ASw}{W:ASs}{t:ASA}{i:Nat}{VW:ASt}(hi:i<t.length)(hn:YH (nd t i))(Ge:Oy (nd t i) VW.length) :
    Ax (SQ D (i:Int) (t,()) W 0 VW) λu=>u.length=VW.length/\∀k:Nat,k<VW.length->(u.getD k false=true↔VW.getD k false=true\/(k:Int)∈AJ (nd t i)):=by
 have hlen:=hn.1;refine BW (λj u=>((j:Int),u)) (AJ (nd t i)).length (λj u=>u.length=VW.length/\∀k ,k<VW.length->(u.getD k false=true↔VW.getD k _=true\/∃m,m<j/\(AJ (nd t i)).getD m 0=k)) (λj u hj hI=>?_) (λu hI=>?_)  ⟨rfl,λk _=>⟨λh=>.inl h,λh=>by grind⟩⟩
 ·unfold HB K0;rw[AQe (Bg hi),AQe (Bg hi)];show Ax (bif decide (j<((AJ (nd t i)).length:Int))then(if 0<=(j:Int)/\j<((AJ (nd t i)).length:Int)then(if 0<=(AJ _).getD j 0/\(AJ (nd t i)).getD j 0<u.length then some (Sum.inl (wI _,u.set ((AJ (nd t i)).getD j 0).toNat true))else none)else none)else _) _;have Al0:=Ge _ (AL (z:=0) hj);rw[Da hj,AQe (Bg hj),AQe ⟨Al0.1,by grind⟩,Bj hj (by omega)];obtain⟨k,hk⟩:∃k:Nat,(AJ (nd t i)).getD j 0=k:=⟨((AJ (nd t i)).getD j 0).toNat,by omega⟩;rw[hk,APX];refine Ax.mk ⟨_,rfl,by grind,λi' tm=>?_⟩
  grind
 ·unfold HB K0;rw[AQe (Bg hi)];show Ax (bif decide (((AJ _).length)<((AJ (nd t i)).length:Int))then _ else some _) _;rw[Ep];refine Ax.mk ⟨hI.1,λk hk=>?_⟩;rw[hI.2 k hk,XM]
theorem nH{d:ASw}{t:ASA}(ht:LS t)(hd:d.length<=1048576):Ax (Po d (t,())) λr=>(AB d/\MK d t r)\/(r=[]/\¬(AB d/\∃ws,MK d t ws)):=by
 unfold Po;have htb:=ht.1;obtain⟨b,ik,oA⟩:∃b,J8 d (t,())=some b/\(b=false↔AB d/\1<=t.length/\t.length<=400):=by
  obtain⟨r,hr,hq⟩:=XT d;unfold J8;rw[hr,APW];show ∃b,(bif !r then some true else bif decide ((t.length:Int)<1)then some true else some (decide ((t.length:Int)>400)))=some b/\_;cases r with
  |false=>exact⟨true,rfl,λh=>by(cases h),λh=>by have:=hq.2 h.1;cases this⟩
  |true =>
   have iO:=hq.1 rfl;by_cases h1:(t.length:Int)<1
   ·rw[AP1 h1];exact⟨true,rfl,λh=>by(cases h),λh=>by omega⟩
   ·rw[APZ h1];refine⟨_,rfl,?_⟩;rw[AQN];exact⟨λh=>⟨iO,by omega,by omega⟩,λh=>by omega⟩
 rw[ik,APW];cases b with
 |true =>
  refine Ax.mk (.inr ⟨rfl,λh=>?_⟩);obtain⟨h1,ws,h2⟩:=h;have:=oA.2 ⟨h1,h2.1,h2.2.1⟩;cases this
 |false =>
  obtain⟨iO,VS,iP⟩:=oA.1 rfl;rw[AQb];show Ax (if Ty.row .bool=true/\(0:Int)<=(t.length:Int)/\(t.length:Int)<=(t.length:Int)/\((1:Nat):Int)*(t.length:Int)<=(281474976710656:Int)/\(t.length:Int)<=(9223372036854775807:Int)then(N5 d (t,()) 0 [] (List.replicate (t.length:Int).toNat false)).bind _ else none) _;rw[AQe ⟨rfl,by omega,by omega,by omega,by omega⟩,APX];refine Ax.bind (P:=λr=>(∃x,r=.inl x/\¬∃ws,MK d t ws)\/(∃ws u,r=.inr (u,ws)/\ws.length=t.length/\ml d t ws/\u.length=t.length/\∀k:Nat,k<t.length->(u.getD k false=true↔eG t k t.length))) ?_ λr hr=>?_
  ·unfold N5;refine BW (λi (s:ASs×ASt)=>((i:Int),s.1,s.2)) t.length
    (λi s=>s.1.length=i/\ml d t s.1/\s.2.length=t.length/\∀k:Nat,k<t.length->(s.2.getD k false=true↔eG t k i))
    (λi s hi hI=>?_) (λs hI=>?_) (s0:=(([]:ASs),List.replicate t.length false)) ⟨rfl,⟨AQH _,λj hj=>by simp at hj⟩,AQt,λk hk=>by
     have h0:(List.replicate t.length false).getD k false=false:=by simp[List.getD,hk]
     constructor
     ·intro h;rw[h0]at h;cases h
     ·rintro⟨j,hj,_⟩;omega⟩
   ·obtain⟨ws,VW⟩:=s;obtain⟨hwl,hp,kL,hu⟩:=hI;simp only at hwl hp kL hu;subst hwl;have hn:YH (nd t ws.length):=ht.2 _ (AL hi);unfold HC K1;simp only;rw[show decide ((ws.length:Int)<(t.length:Int))=true from Da hi,AQc,AQe (Bg hi),APX];obtain⟨r,hr,hq⟩:=wK (d:=d) (i:=ws.length) hn (by omega) hd;rw[show QH d (t.getD ws.length Ag.zero) (ws.length:Int)=some r from hr,APW];cases r with
    |false =>
     refine Ax.mk (.inl ⟨_,rfl,λ⟨my,h'⟩=>?_⟩);obtain⟨w,hw⟩:=h'.node hp hi;have:=hq.2 ⟨hw.1,hw.2.1,hw.2.2.1⟩;cases this
    |true =>
     obtain⟨Ge,vu,az⟩:=hq.1 rfl;simp only[AQF,AQb];rw[AQe (Bg hi)];have hwb:=hp.BP htb;obtain⟨w,hw,hwe⟩:=wS (d:=d) hn hwb Ge az;rw[show TW d (t.getD ws.length Ag.zero) ws=some w from hw,APW,Td];have AnH:=Ajo hwb Ge az;by_cases tt:1<=w/\w<=4096
     ·rw[AP1 tt];simp only[AQF,AQb];have Aho:tJ d ws (nd t ws.length) w:=⟨Ge,vu,az,by
       rcases AnH with h |h
       ·rw[hwe,h];rfl
       ·omega,tt⟩
      rw[AQe (by show(_+1)*8<=_;omega)];refine Ax.bind (wQ hi hn (by rw[kL];exact λk hk=>by have:=Ge k hk;omega)) λu hu'=>Ax.mk ⟨(ws++[w],u),by rw[Bj hi htb],by simp,hp.snoc hi Aho,hu'.1.trans kL,λk hk=>?_⟩;rw[hu'.2 k (by omega),hu k hk];constructor
      ·rintro(⟨j,h1,h2⟩|h)
       ·exact⟨j,by omega,h2⟩
       ·exact⟨ws.length,by omega,h⟩
      ·rintro⟨j,h1,h2⟩
       rcases AP7 j ws.length with h' |h'
       ·exact .inl ⟨j,h',h2⟩
       ·rw[show j=ws.length by omega]at h2;exact .inr h2
     ·rw[APZ tt];refine Ax.mk (.inl ⟨_,rfl,λ⟨my,h'⟩=>?_⟩);obtain⟨v,hv⟩:=h'.node hp hi;have h3:=hv.2.2.2;have e:(Hq ws (nd t ws.length)).sum=UN ws (nd t ws.length):=rfl;rw[e]at h3;rcases AnH with h |h
      ·rw[hwe,h]at tt;exact tt (by rw[<-h3.1];exact h3.2)
      ·omega
   ·obtain⟨ws,VW⟩:=s;obtain⟨hwl,hp,kL,hu⟩:=hI;unfold HC K1;simp only;rw[Ep,AQb];exact Ax.mk (.inr ⟨ws,VW,rfl,hwl,hp,kL,hu⟩)
  ·rcases hr with ⟨x,rfl,h⟩|⟨ws,u,rfl,hwl,hp,kL,hu⟩
   ·exact Ax.mk (.inr ⟨rfl,λhh=>h hh.2⟩)
   ·simp only[AQW];refine Ax.bind (P:=λr=>(r=.inl ()/\¬∀k,k+1<t.length->u.getD k false=true)\/(r=.inr ()/\∀k,k+1<t.length->u.getD k false=true)) ?_ λr hr=>?_
    ·unfold SR;refine BW (λj (_:Unit)=>(j:Int)) (t.length-1) (λj _=>∀k,k<j->u.getD k false=true) (λj _ hj hJ=>?_) (λ_ hJ=>?_) (s0:=()) (λi h=>by omega)
     ·unfold HD K2;rw[Bj (show j<t.length by omega) htb,kL,show decide (((j+1:Nat):Int)<(t.length:Int))=true from MN,AQc,AQe (Bg (by omega)),APX];show Ax (bif !(u.getD j false)then _ else _) _;cases hc:u.getD j false with
      |false=>exact Ax.mk (.inl ⟨rfl,λh=>by rw[h j (by omega)]at hc;cases hc⟩)
      |true =>
       refine Ax.mk ⟨(),rfl,λk hk=>?_⟩;rcases AP7 k j with h' |h'
       ·exact hJ k h'
       ·rw[show k=j by omega];exact hc
     ·unfold HD K2;rw[show wI (((t.length-1:Nat):Int)+1)=(t.length:Int)from A0,kL,Ep,AQb];exact Ax.mk (.inr ⟨rfl,λk hk=>hJ k (by omega)⟩)
    ·rcases hr with ⟨rfl,h⟩|⟨rfl,h⟩
     ·exact Ax.mk (.inr ⟨rfl,λ⟨_,my,h'⟩=>h λk hk=>(hu k (by omega)).2 (h'.2.2.2.2 k hk)⟩)
     ·exact Ax.mk (.inl ⟨iO,VS,iP,hwl,hp,λk hk=>(hu k (by omega)).1 (h k hk)⟩)
open Classical in
noncomputable def D8(d:ASw)(t:ASA):Int:=if h:∃ws,MK d t ws then h.choose.getD (t.length-1) 0 else -1
theorem Xt{d:ASw}{t:ASA}{ws:ASs}(h:MK d t ws):D8 d t=ws.getD (t.length-1) 0:=by
 have he:∃ws,MK d t ws:=⟨ws,h⟩;unfold D8;rw[dif_pos he];have h1:=he.choose_spec;rw[h1.2.2.2.1.unique h.2.2.2.1 (by rw[h1.2.2.1,h.2.2.1])]
theorem XY{d:ASw}{t:ASA}(h:¬∃ws,MK d t ws):D8 d t=-1:=by
 unfold D8;rw[dif_neg h]
theorem pM{d:ASw}{t:ASA}{ws:ASs}(h:MK d t ws):1<=D8 d t/\D8 d t<=4096:=by
 rw[Xt h];have:=h.1;exact(h.2.2.2.1.2 _ (by rw[h.2.2.1];omega)).2.2.2.2
theorem QY{d:ASw}{t:ASA}(ht:LS t)(hd:d.length<=1048576):Gw d (t,())=some (D8 d t):=by
 refine Ax.eq_ (Ax.bind (ng ht hd) λr hr=>?_);rcases hr with ⟨h1,h2⟩|⟨h1,h2⟩
 ·rw[h1];have:=h2.1;have hb:=ht.1;rw[h2.2.2.1,show wI _=((t.length-1:Nat))from A0,AQe ⟨by omega,by omega⟩];exact Ax.mk (Xt h2).symm
 ·rw[h1];exact Ax.mk (XY h2).symm
theorem VA{d:ASw}{t:ASA}(ht:LS t)(hd:d.length<=1048576)(iO:AB d):GH d (t,())=some (D8 d t):=by
 refine Ax.eq_ (Ax.bind (nH ht hd) λr hr=>?_);rcases hr with ⟨_,h2⟩|⟨rfl,h2⟩
 ·have:=h2.1;have hb:=ht.1;rw[h2.2.2.1,UA,Kg,show wI _=((t.length-1:Nat))from A0,AQe ⟨by omega,by omega⟩];exact Ax.mk (Xt h2).symm
 ·exact Ax.mk (XY λh=>h2 ⟨iO,h⟩).symm
def li(l:ASy)(i:Nat):ASh:=l.getD i Ae.zero
def cj(l:ASy)(i:Nat):Int:=(li l i).1
def lS(l:ASy)(i:Nat):ASA:=(li l i).2.2.1.1
def lT(l:ASy)(i:Nat):ASA:=(li l i).2.2.2.1.1
def WS(d:ASw)(l:ASy)(i:Nat):Prop:=(1<=cj l i/\cj l i<=1000000)/\(0<i->cj l (i-1)<cj l i)/\0<=D8 d (lS l i)/\D8 d (lT l i)=D8 d (lS l i)
def CJ(d:ASw)(l:ASy):Prop:=l.length<=60/\∀i,i<l.length->WS d l i
def Gm(x:ASh):Prop:=LS x.2.2.1.1/\LS x.2.2.2.1.1
theorem Wo{d:ASw}{l:ASy}(hl:∀x∈l,Gm x):Ax (Es d l) λr=>r=true↔AB d/\CJ d l:=by
 unfold Es;obtain⟨b,ik,oA⟩:∃b,Hy d l=some b/\(b=false↔AB d/\l.length<=60):=by
  obtain⟨r,hr,hq⟩:=XT d;unfold Hy;rw[hr,APW];cases r with
  |false=>exact⟨true,rfl,λh=>by(cases h),λh=>by have:=hq.2 h.1;cases this⟩
  |true =>
   have iO:=hq.1 rfl;refine⟨decide ((l.length:Int)>60),rfl,?_⟩;rw[AQN];exact⟨λh=>⟨iO,by omega⟩,λh=>by omega⟩
 rw[ik,APW];cases b with
 |true=>exact Ax.mk ⟨λh=>by(cases h),λh=>by have:=oA.2 ⟨h.1,h.2.1⟩;cases this⟩
 |false =>
  obtain⟨iO,hlen⟩:=oA.1 rfl;have hd:=iO.1;rw[AQb];refine Ax.bind (P:=λt=>(t=.inl ()/\¬∀i,i<l.length->WS d l i)\/(t=.inr ()/\∀i,i<l.length->WS d l i)) ?_ λt ht=>?_
  ·unfold Ql;refine BW (λj (_:Unit)=>(j:Int)) l.length (λj _=>∀k,k<j->WS d l k) (λj _ hj hJ=>?_) (λ_ hJ=>?_) (s0:=()) (λi h=>by omega)
   ·unfold Ft IW;have hB:=hl _ (AL (z :=Ae.zero) hj);have e1:GH d (l.getD j Ae.zero).2.2.1=some (D8 d (lS l j)):=VA hB.1 (by omega) iO;have e2:GH d (l.getD j Ae.zero).2.2.2.1=some (D8 d (lT l j)):=VA hB.2 (by omega) iO;have e3:(l.getD j Ae.zero).1=cj l j:=rfl;rw[Da hj,AQc,AQe (Bg hj),APX,e1,APW];obtain⟨b,ik,oA⟩:∃b,Hz d l (j:Int) (D8 d (lS l j))=some b/\(b=false↔WS d l j):=by
     unfold Hz WS;rw[AQe (Bg hj),AQe (Bg hj),APX,e3,Td,e2,APW];by_cases h1:1<=cj l j/\cj l j<=1000000
     ·rw[AP1 h1];simp only[AQF,AQb];have last:∃b,(bif decide (D8 d (lS l j)<0)then some true else some (D8 d (lT l j) !=D8 d (lS l j)))=some b/\(b=false↔0<=D8 d (lS l j)/\D8 d (lT l j)=D8 d (lS l j)):=by
       by_cases h2:D8 d (lS l j)<0
       ·rw[AP1 h2];exact⟨true,rfl,λh=>by(cases h),λh=>by omega⟩
       ·rw[APZ h2,AQb];refine⟨_,rfl,?_⟩;rw[ARr];exact⟨λh=>⟨by omega,h⟩,λh=>h.2⟩
      obtain⟨b,hb,hq⟩:=last;by_cases h2:0<j
      ·rw[AP1 (show(j:Int)>0 by omega),AQc,show wI ((j:Int)-1)=((j-1:Nat):Int)from A0,AQe (Bg (by omega)),APX];have e4:(l.getD (j-1) Ae.zero).1=cj l (j-1):=rfl;rw[e4];by_cases h3:cj l j<=cj l (j-1)
       ·rw[AP1 h3];exact⟨true,rfl,λh=>by(cases h),λh=>by have:=h.2.1 h2;omega⟩
       ·rw[APZ h3,AQb,AQe (Bg hj),hb];exact⟨b,rfl,hq.trans ⟨λh=>⟨h1,λ_=>by omega,h⟩,λh=>h.2.2⟩⟩
      ·rw[APZ (show ¬(j:Int)>0 by omega),AQb,AQe (Bg hj),hb];exact⟨b,rfl,hq.trans ⟨λh=>⟨h1,λh'=>absurd h' h2,h⟩,λh=>h.2.2⟩⟩
     ·rw[APZ h1];exact⟨true,rfl,λh=>by(cases h),λh=>absurd h.1 h1⟩
    rw[ik,APW];cases b with
    |true=>exact Ax.mk (.inl ⟨rfl,λh=>by have:=oA.2 (h j hj);cases this⟩)
    |false =>
     rw[AQb,Bj hj (by omega)];refine Ax.mk ⟨(),rfl,λk hk=>?_⟩;rcases AP7 k j with h' |h'
     ·exact hJ k h'
     ·rw[show k=j by omega];exact oA.1 rfl
   ·unfold Ft IW;rw[Ep,AQb];exact Ax.mk (.inr ⟨rfl,hJ⟩)
  ·rcases ht with ⟨rfl,h⟩|⟨rfl,h⟩
   ·exact Ax.mk ⟨λh=>by(cases h),λh'=>absurd h'.2.2 h⟩
   ·exact Ax.mk ⟨λ_=>⟨iO,hlen,h⟩,λ_=>rfl⟩
theorem vH{d:ASw}{l:ASy}(hl:∀x∈l,Gm x):Ax (Ld d l) λr=>r=true↔AB d/\CJ d l:=by
 unfold Ld;obtain⟨r,hr,hq⟩:=di d;rw[hr,APW];cases r with
 |false=>exact Ax.mk ⟨λh=>by(cases h),λh=>by have:=hq.2 h.1;cases this⟩
 |true =>
  have iO:=hq.1 rfl;have hd:=iO.1;rw[AQc];unfold F7;by_cases hlen:l.length<=60
  ·rw[APZ (by omega:¬(l.length:Int)>60),AQb];refine Ax.bind (P:=λr=>r=true↔AB d/\CJ d l) (Ax.bind (P:=λt=>(t=.inl ()/\¬∀i,i<l.length->WS d l i)\/(t=.inr ()/\∀i,i<l.length->WS d l i)) ?_ λt ht=>?_) λr h=>Ax.mk h
   ·unfold Qc;have:=BW (f:=B4 d l (l.length:Int)) (λj (_:Unit)=>((if j=0 then 0 else cj l (j-1):Int),(j:Int))) l.length (λj _=>∀k,k<j->WS d l k) (Q:=λt=>(t=.inl ()/\¬∀i,i<l.length->WS d l i)\/(t=.inr ()/\∀i,i<l.length->WS d l i)) (λj _ hj hJ=>?_) (λ_ hJ=>?_) (s0:=()) (λi h=>by omega)
    ·exact this
    ·unfold B4 DD;have hB:=hl _ (AL (z :=Ae.zero) hj);have e1:Gw d (l.getD j Ae.zero).2.2.1=some (D8 d (lS l j)):=QY hB.1 (by omega);have e2:Gw d (l.getD j Ae.zero).2.2.2.1=some (D8 d (lT l j)):=QY hB.2 (by omega);have e3:(l.getD j Ae.zero).1=cj l j:=rfl;simp only;rw[Da hj,AQc,AQe (Bg hj),APX,e1,APW];obtain⟨c,hc⟩:∃c:Int,c=if j=0 then 0 else cj l (j-1):=⟨_,rfl⟩;have hcb:0<=c/\c<=1000000/\(0<j->c=cj l (j-1))/\(j=0->c=0):=by
      by_cases h0:j=0
      ·rw[AQe h0]at hc;exact⟨by omega,by omega,λh=>by omega,λ_=>hc⟩
      ·rw[AQf h0]at hc;have:=(hJ (j-1) (by omega)).1;exact⟨by omega,by omega,λ_=>hc,λh=>absurd h h0⟩
     rw[<-hc];obtain⟨b,ik,oA⟩:∃b,Du d c (D8 d (lS l j)) l (l.length:Int) (j:Int) (l.getD j Ae.zero)=some b/\(b=false↔WS d l j):=by
      unfold Du WS;rw[e3,Lw,BX (x:=c+1),e2,APW];by_cases h1:c+1<=cj l j/\cj l j<=1000000
      ·rw[AP1 h1];simp only[AQF,AQb];by_cases h2:D8 d (lS l j)<0
       ·rw[AP1 h2];exact⟨true,rfl,λh=>by(cases h),λh=>by omega⟩
       ·rw[APZ h2,AQb];refine⟨_,rfl,?_⟩;rw[ARr];exact⟨λh=>⟨by omega,λh'=>by have:=hcb.2.2.1 h';omega,by omega,h.symm⟩,λh=>h.2.2.2.symm⟩
      ·rw[APZ h1];refine⟨true,rfl,λh=>by(cases h),λh=>?_⟩
       exfalso
       apply h1;rcases AQk j with h0 |h0
       ·have:=hcb.2.2.2 h0;omega
       ·have:=hcb.2.2.1 h0;have:=h.2.1 h0;omega
     rw[ik,APW];cases b with
     |true=>exact Ax.mk (.inl ⟨rfl,λh=>by have:=oA.2 (h j hj);cases this⟩)
     |false =>
      rw[AQb,Bj hj (by omega)];refine Ax.mk ⟨(),rfl,λk hk=>?_⟩;rcases AP7 k j with h' |h'
      ·exact hJ k h'
      ·rw[show k=j by omega];exact oA.1 rfl
    ·unfold B4 DD;simp only;rw[Ep,AQb];exact Ax.mk (.inr ⟨rfl,hJ⟩)
   ·rcases ht with ⟨rfl,h⟩|⟨rfl,h⟩
    ·exact Ax.mk ⟨λh=>by(cases h),λh'=>absurd h'.2.2 h⟩
    ·exact Ax.mk ⟨λ_=>⟨iO,hlen,h⟩,λ_=>rfl⟩
  ·rw[AP1 (by omega:(l.length:Int)>60)];exact Ax.mk ⟨λh=>by(cases h),λh=>absurd h.2.1 hlen⟩
end Go.Proofs.X
namespace Go.Va
open Go.Proofs.X
theorem uW{T:Type}{f:Int×ATB T->ATC ((Int×ATB T)⊕ATB T)}(N:Nat)(it:Nat->ATB T)(a0:ATB T)
    (hs:∀k,k<N->f ((k:Int),a0++(List.range k).flatMap it)=some (.inl (((k+1:Nat):Int),a0++(List.range k).flatMap it++it k)))
    (he:f ((N:Int),a0++(List.range N).flatMap it)=some (.inr (a0++(List.range N).flatMap it))):fix f (0,a0)=some (a0++(List.range N).flatMap it):=by
 have:=AW (f:=f) (λk=>((k:Int),a0++(List.range k).flatMap it)) N (λk hk=>by
  rw[hs k hk,AQ6,ARD,AP4];simp) he
 simpa using this
theorem gi{A B:Type}(g:A->B)(l:ATB A):l.flatMap (λx=>[g x])=l.map g:=by
 induction l with
 |nil=>rfl
 |cons x l ih=>simp[ih]
theorem kv{A B:Type}(b:ATB B)(l:ATB A):l.flatMap (λ_=>b)=(List.replicate l.length b).flatten:=by
 induction l with
 |nil=>rfl
 |cons x l ih=>simp[ih,List.replicate_succ]
end Go.Va
namespace Go.Proofs.X
open Go Go.Va
set_option maxRecDepth 100000
def OS(n:ASj)(w:Nat):Nat:=if BQ n=8 then(w-(nA n).toNat%w)%w else(nA n).toNat%w
def BB(d:ASw)(n:ASj)(kids:ATB (ATB Bt)):ATB Bt :=
 if BQ n=1 then(List.range (dw d (H5 n).toNat).toNat).map λa=>.va (H5 n).toNat a
 else if BQ n=2 then(List.range (nW n).toNat).map λk=>.co (bt (gF n) k)
 else if BQ n=3 then kids.reverse.flatten
 else if BQ n=4 then((kids.getD 0 []).take ((nA n).toNat+1)).drop (nB n).toNat
 else if BQ n=5 then kids.getD 0 []++List.replicate (nA n).toNat (.co false)
 else if BQ n=6 then kids.getD 0 []++List.replicate (nA n).toNat ((kids.getD 0 []).getD ((kids.getD 0 []).length-1) (.co false))
 else if BQ n=9 then(List.replicate (nA n).toNat (kids.getD 0 [])).flatten
 else(kids.getD 0 []).drop ((kids.getD 0 []).length-OS n (kids.getD 0 []).length)++(kids.getD 0 []).take ((kids.getD 0 []).length-OS n (kids.getD 0 []).length)
def YE(d:ASw):Bt->Prop
 |.co _=>True
 |.va v a=>v<d.length/\((a:Nat):Int)<dw d v
def kS(kids:ATB (ATB Bt)):Int:=((kids.map List.length).sum:Nat)
def Bo(d:ASw)(B:ATB Bt):Prop:=1<=B.length/\B.length<=4096/\∀b∈B,YE d b
structure NB (d:ASw) (n:ASj) (kids:List (List Bt)):Prop where
 hd:AB d
 hf:LQ d n
 hb:YH n
 hk:kids.length=(AJ n).length
 hw:1<=Hg d n (kS kids)/\Hg d n (kS kids)<=4096
 Ge:∀B∈kids,Bo d B
theorem WX{d:ASw}(hd:AB d){b:Bt}(h:YE d b):BtB b:=by
 cases b with
 |co b=>trivial
 |va v a =>
  obtain⟨h1,h2⟩:=h;have:=(hd.2.1 v h1).2.1;have:=hd.1;exact⟨by omega,by omega⟩
theorem NB.one{d:ASw}{n:ASj}{kids:ATB (ATB Bt)}(h:NB d n kids)(h1:BQ n≠1)(h2:BQ n≠2)(h3:BQ n≠3):4<=BQ n/\BQ n<=9/\∃B,kids=[B]/\Bo d B/\kS kids=(B.length:Int):=by
 have hf:=h.hf;unfold LQ at hf;have:4<=BQ n/\BQ n<=9/\(AJ n).length=1:=by omega
 obtain⟨h4,h9,hl⟩:=this;have hk:=h.hk;rw[hl]at hk
 match kids,hk,h.Ge with
 |[B],_,Ge=>exact⟨h4,h9,B,rfl,Ge B AQr,by simp[kS]⟩
theorem sN{n:ASj}{w:Nat}(h:1<=w):OS n w<w:=by
 unfold OS;split<;>exact Nat.mod_lt _ (by omega)
theorem gO(l:ASu):l.reverse.sum=l.sum:=by
 induction l with
 |nil=>rfl
 |cons x l ih=>simp[ih];omega
theorem dz{d:ASw}{n:ASj}{kids:ATB (ATB Bt)}(h:NB d n kids):((BB d n kids).length:Int)=Hg d n (kS kids):=by
 have hw:=h.hw;by_cases h1:BQ n=1
 ·simp only[BB,Hg,AQe h1,AP8,AQD]at hw⊢;omega
 by_cases h2:BQ n=2
 ·simp only[BB,Hg,AQf h1,AQe h2,AP8,AQD]at hw⊢;omega
 by_cases h3:BQ n=3
 ·have e:¬BQ n=4/\¬(BQ n=5\/BQ n=6)/\¬(BQ n=7\/BQ n=8)/\¬BQ n=9:=by omega
  simp only[BB,Hg,AQf h1,AQf h2,AQe h3,AQf e.1,AQf e.2.1,AQf e.2.2.1,AQf e.2.2.2,kS];rw[ARs,List.map_reverse,gO]
 obtain⟨h4,h9,B,rfl,hB,hs⟩:=h.one h1 h2 h3;have hl:=hB.1;rw[hs]at hw⊢;by_cases uY:BQ n=4
 ·simp only[BB,Hg,AQf h1,AQf h2,AQf h3,AQe uY,AQ9,AQw,AQh]at hw⊢;split at hw<;>rename_i hc
  ·rw[AQe hc];omega
  ·omega
 by_cases h5:BQ n=5
 ·have xD:BQ n=5\/BQ n=6:=.inl h5;simp only[BB,Hg,AQf h1,AQf h2,AQf h3,AQf uY,AQe h5,AQe xD,AQ9,AP0,AQt]at hw⊢;split at hw<;>rename_i hc
  ·rw[AQe hc];omega
  ·omega
 by_cases h6:BQ n=6
 ·have xD:BQ n=5\/BQ n=6:=.inr h6;simp only[BB,Hg,AQf h1,AQf h2,AQf h3,AQf uY,AQf h5,AQe h6,AQe xD,AQ9,AP0,AQt]at hw⊢;split at hw<;>rename_i hc
  ·rw[AQe hc];omega
  ·omega
 have xD:¬(BQ n=5\/BQ n=6):=by omega
 by_cases h9':BQ n=9
 ·have h78:¬(BQ n=7\/BQ n=8):=by omega
  simp only[BB,Hg,AQf h1,AQf h2,AQf h3,AQf uY,AQf h5,AQf h6,AQf xD,AQf h78,AQe h9',AQ9,ARs,ARN,ARJ]at hw⊢;split at hw<;>rename_i hc
  ·rw[AQe hc];have:(nA n)=((nA n).toNat:Int):=by omega
   rw[this,APX,Int.natCast_mul,Int.mul_comm]
  ·omega
 ·have h78:BQ n=7\/BQ n=8:=by omega
  have ht:=sN (n:=n) hl;simp only[BB,Hg,AQf h1,AQf h2,AQf h3,AQf uY,AQf h5,AQf h6,AQf xD,AQe h78,AQf h9',AQ9,AP0,AQw,AQh]at hw⊢;split at hw<;>rename_i hc
  ·rw[AQe hc];omega
  ·omega
theorem Wi{d:ASw}{n:ASj}{kids:ATB (ATB Bt)}(h:NB d n kids):Bo d (BB d n kids):=by
 have hl:=dz h;refine⟨by have:=h.hw;omega,by have:=h.hw;omega,λb hb=>?_⟩;by_cases h1:BQ n=1
 ·have hf:=h.hf;unfold LQ at hf;have hv:0<=H5 n/\H5 n<(d.length:Int):=by omega
  simp only[BB,AQe h1,List.mem_map,List.mem_range]at hb;obtain⟨a,ha,rfl⟩:=hb;exact⟨by omega,by omega⟩
 by_cases h2:BQ n=2
 ·simp only[BB,AQf h1,AQe h2,List.mem_map,List.mem_range]at hb;obtain⟨a,ha,rfl⟩:=hb;trivial
 by_cases h3:BQ n=3
 ·simp only[BB,AQf h1,AQf h2,AQe h3,List.mem_flatten,List.mem_reverse]at hb;obtain⟨B,hB,hb⟩:=hb;exact(h.Ge B hB).2.2 b hb
 obtain⟨h4,h9,B,rfl,hB,hs⟩:=h.one h1 h2 h3;have hz:B.getD (B.length-1) (.co false)∈B:=AL (by have:=hB.1;omega);simp only[BB,AQf h1,AQf h2,AQf h3,AQ9]at hb;split at hb
 ·exact hB.2.2 b (ARi (AR8 hb))
 split at hb
 ·rcases List.mem_append.1 hb with hb |hb
  ·exact hB.2.2 b hb
  ·rw[(List.mem_replicate.1 hb).2];trivial
 split at hb
 ·rcases List.mem_append.1 hb with hb |hb
  ·exact hB.2.2 b hb
  ·rw[(List.mem_replicate.1 hb).2];exact hB.2.2 _ hz
 split at hb
 ·obtain⟨C,hC,hb⟩:=List.mem_flatten.1 hb;rw[(List.mem_replicate.1 hC).2]at hb;exact hB.2.2 b hb
 ·rcases List.mem_append.1 hb with hb |hb
  ·exact hB.2.2 b (AR8 hb)
  ·exact hB.2.2 b (ARi hb)
end Go.Proofs.X
namespace Go.Va
open Go.Proofs.X
theorem YY{T:Type}{f:Int×ATB T->ATC ((Int×ATB T)⊕ATB T)}(N:Nat)(g:Nat->T)(a0:ATB T)
    (hs:∀k acc,k<N->acc.length=a0.length+k->f ((k:Int),acc)=some (.inl (((k+1:Nat):Int),acc++[g k]))) (he:∀acc,f ((N:Int),acc)=some (.inr acc)):fix f (0,a0)=some (a0++(List.range N).map g):=by
 have:=uW  N (λk=>[g k]) a0 (λk hk=>hs k _ hk (by rw[gi];simp)) (he _);rw[gi]at this;exact this
end Go.Va
namespace Go.Proofs.X
open Go Go.Va
set_option maxRecDepth 100000
theorem AGr(kids:ATB (ATB Bt))(k:Nat):(kids.map bV).getD k ATp.zero=bV (kids.getD k []):=by
 simp;cases kids[k]?<;>rfl
theorem AbO{x:Int}(h1:-4611686018427387904<=x)(h2:x<4611686018427387904):wI x=x:=BX
theorem Abw{A:Type}{l:ATB A}{z:A}{k:Nat}(h:k<l.length):l.reverse.getD k z=l.getD (l.length-1-k) z:=by
 grind
theorem da(kids:ATB (ATB Bt))(k:Nat):((kids.reverse.take k).flatten).length<=(kids.map List.length).sum:=by
 rw[<-gO,<-List.map_reverse,ARs]
 conv=>rhs;rw[<-ARa k kids.reverse,AQG,ARq]
 omega
theorem Agz{a:Nat}:decide ((a:Int)>=0)=true:=MN
theorem zI{d:ASw}{n:ASj}{kids:ATB (ATB Bt)}(h:NB d n kids)(h3:BQ n=3):Uk (kids.map bV) (wI (((kids.map bV).length:Int)-1)) []=some (bV kids.reverse.flatten):=by
 have hlen:kids.length<=1048576:=by rw[h.hk];exact h.hb.1
 have Ac2:(kids.map List.length).sum<=4096:=by
  have hw:=h.hw;have e :=by omega
  simp only[Hg,kS]at hw;omega
 rw[AP8,AbO (by omega) (by omega)];have:=AW (f:=FQ (kids.map bV)) (λk=>(kids.length-1-k,bV (kids.reverse.take k).flatten))  kids.length (λk hk=>by
  unfold FQ Mq;have e:kids.length-1-k=((kids.length-1-k:Nat):Int):=by omega
  have hb:=da kids k;have Ge:=h.Ge (kids.getD (kids.length-1-k) []) (AL (by omega));rw[e,Agz,AQc,AP8,AQe ⟨by omega,by omega⟩,APX,AGr,Dr,Dr,AQe (by have:=Ge.2.1;omega),AbO (by omega) (by omega)];rw[AX (z:=[]) (show k<kids.reverse.length by grind),Abw hk,List.flatten_append,<-WW]
  grind) (by
  unfold FQ Mq;rw[Kg,AQb,AP6 (by grind)])
 have w6 :=this;rw[show kids.length-1-((0:Nat))=(kids.length:Int)-1 by omega]at w6;exact w6
theorem wM{d:ASw}{n:ASj}{kids:ATB (ATB Bt)}(h:NB d n kids):T0 d n (kids.map bV)=some (bV (BB d n kids)):=by
 have e1:∀x:Int,(n.1==x)=decide (BQ n=x):=λx=>UA;have hbl:=Wi h;have Yy:=hbl.2.1;unfold T0 PX R3;simp only[e1];by_cases h1:BQ n=1
 ·rw[AP1 h1,AQc];have hf:=h.hf;unfold LQ at hf;have hv:0<=H5 n/\H5 n<(d.length:Int):=by omega
  obtain⟨N,hN⟩:∃N:Nat,dw d (H5 n).toNat=(N:Int):=by
   have:=(h.hd.2.1 (H5 n).toNat (by omega)).2.1;exact⟨(dw d (H5 n).toNat).toNat,by omega⟩
  have hN4:N<=4096:=by have:=(h.hd.2.1 (H5 n).toNat (by omega)).2.1;omega
  rw[show PS d n 0 []=some (bV (BB d n kids)) by
   unfold PS;rw[YY (f:=FO d n) N (λa=>WY (.va (H5 n).toNat a)) [] (λk acc hk ha=>by
    unfold FO Mn;simp only;rw[AQe (show(0:Int)<=n.2.1/\n.2.1<(d.length:Int)from hv),show(d.getD n.2.1.toNat Ab.zero).2.1=(N:Int)from hN,Da hk,AQc,Bj hk (by omega)];simp at ha;rw[AQe (by show(_+1)*16<=_;omega)];have:n.2.1=(((H5 n).toNat:Nat):Int):=by show H5 n=_;omega
    rw[this];rfl) (λacc=>by
    unfold FO Mn;simp only;rw[AQe (show(0:Int)<=n.2.1/\n.2.1<(d.length:Int)from hv),show(d.getD n.2.1.toNat Ab.zero).2.1=(N:Int)from hN,Ep,AQb])]
   simp only[BB,AQe h1,hN,APX,bV,AQ5,ARV];rfl]
  rfl
 rw[APZ h1,AQb];by_cases h2:BQ n=2
 ·rw[AP1 h2,AQc];have hf:=h.hf;unfold LQ at hf;obtain⟨m,Ut,S7⟩:tP n:=by
   rcases hf with h |h |h |h
   ·omega
   ·exact h.2.2
   ·omega
   ·omega
  rw[show PT n 0 []=some (bV (BB d n kids)) by
   unfold PT;rw[YY (f:=FP n) m (λk=>WY (.co (bt (gF n) k))) [] (λk acc hk ha=>by
    unfold FP Mp;simp only;have hb:I7 n.2.2.2.2.1 (k:Int)=some (bI (bt (gF n) k)):=kT (w:=nW n) S7.2.2.2.1 (by rw[S7.2.2.1];unfold nw;omega) h.hb.2.1;have h4:=S7.2.1;rw[show n.2.2.2.2.1.1=(m:Int)from Ut,Da hk,AQc,hb,APW,Bj hk (by omega)];simp at ha;rw[AQe (by show(_+1)*16<=_;omega)];rw[show wI (bI (bt (gF n) k))=bI (bt (gF n) k) by cases bt (gF n) k<;>rfl];rfl) (λacc=>by
    unfold FP Mp;simp only;rw[show n.2.2.2.2.1.1=(m:Int)from Ut,Ep,AQb])]
   simp only[BB,AQf h1,AQe h2,Ut,APX,bV,AQ5,ARV];rfl]
  rfl
 rw[APZ h2,AQb];by_cases h3:BQ n=3
 ·rw[AP1 h3,AQc,zI h h3];simp only[BB,AQf h1,AQf h2,AQe h3];rfl
 rw[APZ h3,AQb];obtain⟨h4,h9,B,rfl,hB,hs⟩:=h.one h1 h2 h3;have hl:=hB.1;have hl4:=hB.2.1;have hw:=h.hw;have g0:([B].map bV).getD 0 ATp.zero=bV B:=rfl;have r0:(0:Int)<=(0:Int)/\(0:Int)<(([B].map bV).length:Int):=⟨by omega,by simp⟩;rw[hs]at hw;simp only[BB,AQf h1,AQf h2,AQf h3,AQ9]at Yy⊢;simp only[Hg,AQf h1,AQf h2]at hw;by_cases uY:BQ n=4
 ·simp only[AQe uY]at hw Yy⊢;split at hw<;>rename_i hc
  ·obtain⟨A,hA⟩:∃A:Nat,nA n=(A:Int):=⟨(nA n).toNat,by omega⟩;obtain⟨L,hL⟩:∃L:Nat,nB n=(L:Int):=⟨(nB n).toNat,by omega⟩;have kC:n.2.2.1=(A:Int):=hA;have hL':n.2.2.2.1=(L:Int):=hL;rw[AP1 uY,AQc,AQe r0,g0,kC,hL',show wI ((A:Int)+1)=((A+1:Nat):Int)from A0,Dr];rw[AQe (show(0:Int)<=(L:Int)/\(L:Int)<=((A+1:Nat):Int)/\((A+1:Nat):Int)<=(B.length:Int)from⟨by omega,by omega,by omega⟩),APX,APX,hA,hL,APX,APX];rw[show(List.drop L (List.take (A+1) (bV B)))=bV ((B.take (A+1)).drop L) by simp[bV,List.map_drop,List.map_take],Dr,AQw,AQh,Wv];rfl
  ·omega
 rw[APZ uY,AQb];simp only[AQf uY]at hw Yy⊢;by_cases xD:BQ n=5\/BQ n=6
 ·simp only[AQe xD]at hw;split at hw<;>rename_i hc
  ·obtain⟨A,hA⟩:∃A:Nat,nA n=(A:Int):=⟨(nA n).toNat,by omega⟩;have kC:n.2.2.1=(A:Int):=hA;have Gb:(bif decide (BQ n=5)then decide (BQ n=5)else decide (BQ n=6))=true:=by
    rcases xD with h |h<;>simp[h]
   have gl:wI (((bV B).length:Int)-1)=((B.length-1:Nat):Int):=by rw[Dr];exact A0
   rw[Gb,AQc];by_cases h6:BQ n=6
   ·have h5:¬BQ n=5:=by omega
    simp only[AQf h5,AQe h6,hA,APX,AP0,AQt]at Yy⊢;rw[show F9 ([B].map bV) n=some (.inl ()) by
     unfold F9;rw[e1,AP1 h6,AQc,AQe r0,AQe r0,g0,gl,Dr,AQe ⟨by omega,by omega⟩],APW]
    simp only[ARd];rw[AQe r0,g0,gl,APX,Dr,Wv,jF (by omega)];rw[show PU n (WY (B.getD (B.length-1) (.co false))) 0 (bV B)=some (bV (B++List.replicate A (B.getD (B.length-1) (.co false)))) by
     unfold PU;rw[YY (f:=FR n (WY (B.getD (B.length-1) (.co false)))) A (λ_=>WY (B.getD (B.length-1) (.co false))) (bV B) (λk acc hk ha=>by
      unfold FR Mr;simp only;rw[Dr]at ha;rw[kC,Da hk,AQc,Bj hk (by omega),AQe (by show(_+1)*16<=_;omega)]) (λacc=>by
      unfold FR Mr;simp only;rw[kC,Ep,AQb])]
     rw[WW];simp[bV,List.map_const']]
    rfl
   ·have h5:BQ n=5:=by omega
    simp only[AQe h5,hA,APX,AP0,AQt]at Yy⊢;rw[show F9 ([B].map bV) n=some (.inr ()) by
     unfold F9;rw[e1,APZ h6,AQb],APW]
    simp only[AQW];rw[AQe r0,g0,Dr,Wv];rw[show PV n 0 (bV B)=some (bV (B++List.replicate A (.co false))) by
     unfold PV;rw[YY (f:=FT n) A (λ_=>WY (.co false)) (bV B) (λk acc hk ha=>by
      unfold FT Ms;simp only;rw[Dr]at ha;rw[kC,Da hk,AQc,Bj hk (by omega),AQe (by show(_+1)*16<=_;omega)];rfl) (λacc=>by
      unfold FT Ms;simp only;rw[kC,Ep,AQb])]
     rw[WW];simp[bV,List.map_const']]
    rfl
  ·omega
 have h5:¬BQ n=5:=by omega
 have h6:¬BQ n=6:=by omega
 have Gb:(bif decide (BQ n=5)then decide (BQ n=5)else decide (BQ n=6))=false:=by simp[h5,h6]
 rw[Gb,AQb];simp only[AQf h5,AQf h6,AQf xD]at hw Yy⊢;by_cases h78:BQ n=7\/BQ n=8
 ·simp only[AQe h78]at hw;split at hw<;>rename_i hc
  ·obtain⟨A,hA⟩:∃A:Nat,nA n=(A:Int):=⟨(nA n).toNat,by omega⟩;have kC:n.2.2.1=(A:Int):=hA;have h9':¬BQ n=9:=by omega
   have Pp:(bif decide (BQ n=7)then decide (BQ n=7)else decide (BQ n=8))=true:=by
    rcases h78 with h |h<;>simp[h]
   have ht:=sN (n:=n) hl;simp only[AQf h9',AP0,AQw,AQh]at Yy⊢;rw[Pp,AQc,AQe r0,g0,kC,Dr,P9];have Ahl:Int.tmod (A:Int) (B.length:Int)=((A%B.length:Nat):Int):=rfl;have tq:A%B.length<B.length:=Nat.mod_lt _ (by omega);rw[show Lm ([B].map bV) n (B.length:Int) (Int.tmod (A:Int) (B.length:Int))=some ((OS n B.length:Nat):Int) by
    unfold Lm OS;rw[e1,Ahl,hA,APX];by_cases h8:BQ n=8
    ·rw[AP1 h8,AQc,P9,AQe h8,show wI ((B.length:Int)-((A%B.length:Nat):Int))=((B.length-A%B.length:Nat):Int)from A0];rfl
    ·rw[APZ h8,AQb,AQf h8],APW]
   have bD:wI ((B.length:Int)-((OS n B.length:Nat):Int))=((B.length-OS n B.length:Nat):Int):=A0;rw[AQe r0,bD,AQe ⟨by omega,by omega,by omega⟩,APX,APX];generalize hq:B.length-OS n B.length=q at *;rw[show(List.drop q (List.take B.length (bV B)))=bV (B.drop q) by rw[AP6 (by rw[Dr];omega)];simp[bV,List.map_drop],show(List.drop 0 (List.take q (bV B)))=bV (B.take q) by simp[bV,List.map_take],Wv,AQe r0,AQe ⟨by omega,by omega,by omega⟩,Wv,<-WW];rfl
  ·omega
 have h9':BQ n=9:=by omega
 have Pp:(bif decide (BQ n=7)then decide (BQ n=7)else decide (BQ n=8))=false:=by
  rw[show ¬BQ n=7/\¬BQ n=8 by omega |> λh=>(APZ h.1:decide (BQ n=7)=false),AQb];exact Kg
 simp only[AQf h78,AQe h9']at hw Yy⊢;split at hw<;>rename_i hc
 ·obtain⟨A,hA⟩:∃A:Nat,nA n=(A:Int):=⟨(nA n).toNat,by omega⟩;have kC:n.2.2.1=(A:Int):=hA;rw[Pp,AQb,AP1 h9',AQc];rw[hA]at hw Yy;simp only[APX,ARs,ARN,ARJ]at Yy;rw[show PW ([B].map bV) n 0 []=some (bV (List.replicate A B).flatten) by
   unfold PW;rw[uW (f:=FU ([B].map bV) n) A (λ_=>bV B) [] (λk hk=>by
    unfold FU Mt;simp only;have ru:k*B.length<=A*B.length:=AQS _ (by omega);rw[kC,Da hk,AQc,AQe r0,g0,Bj hk (by omega),AQe (by
     rw[AQ5,kv,ARs,ARN,ARJ,AQD,Dr];omega)]) (by
    unfold FU Mt;simp only;rw[kC,Ep,AQb])]
   rw[AQ5,kv,AQD];simp[bV,List.map_flatten,ARN]]
  rw[hA];rfl
 ·omega
end Go.Proofs.X
namespace Go.Proofs.X
open Go Go.Va
set_option maxRecDepth 100000
def fN(B:ATB Bt):ASz:=fV (Ay B)
theorem AnD(kids:ATB (ATB Bt))(k:Nat):(kids.map fN).getD k ATq.zero=fN (kids.getD k []):=by
 simp;cases kids[k]?<;>rfl
theorem sc{d:ASw}(hd:AB d){a b:ATB Bt}(ha:∀x∈a,YE d x)(hb:∀x∈b,YE d x)(hl:a.length+b.length<=4096):EM (fN b) (fN a)=some (fN (a++b)):=by
 unfold fN;rw[wu (Dj b) (Dj a) (Vs (λx hx=>qy (WX hd (hb x hx))) (by omega)) (Vs (λx hx=>qy (WX hd (ha x hx))) (by omega)) (by rw[Cw,Cw];exact hl),wv]
theorem v7{s:Sg}(h:1<=s.w):Ay s.bits=[s]:=by
 have:=Zj s.w s [] rfl h;exact this.symm
theorem Avi(b:Bt):fN [b]=[JU b.sg]:=rfl
theorem AmE{d:ASw}(hd:AB d){a:ATB Bt}{b:Bt}(ha:∀x∈a,YE d x)(hb:YE d b)(hl:a.length+1<=4096):EM [JU b.sg] (fN a)=some (fN (a++[b])) :=
 sc hd ha (b:=[b]) (λx hx=>by grind) hl
theorem Ajp{d:ASw}{B:ATB Bt}(h:Bo d B):Hp (fN B)=some (B.length:Int):=by
 unfold fN;rw[qZ (Dj B) (by rw[Cw];exact h.2.1),Cw]
theorem Abr{d:ASw}(hd:AB d){B:ATB Bt}(h:Bo d B){lo w:Nat}(hlo:lo+w<=8192):Fb (fN B) (lo:Int) (w:Int)=some (fN ((B.drop lo).take w)):=by
 have hs :=λx hx=>qy (WX hd (h.2.2 x hx));unfold fN;rw[uQ (Dj B) (Vs hs h.2.1) (by rw[Ic];exact hs) (by rw[Cw];exact h.2.1) hlo,Ic]
theorem pF{d:ASw}(hd:AB d){B:ATB Bt}{b:Bt}{A:Nat}(hB:Bo d B)(hb:YE d b)(hl:B.length+A<=4096){f:Int×ASz->ATC (AS1⊕ASz)}
    (hs:∀x:Int×ASz,f x=bif decide (x.1<(A:Int))then(EM [JU b.sg] x.2).bind λo=>some (.inl (wI (x.1+1),o))else some (.inr x.2)):fix f (0,fN B)=some (fN (B++List.replicate A b)):=by
 have:=AW (f:=f) (λk=>((k:Int),fN (B++List.replicate k b))) (t:=fN (B++List.replicate A b)) A (λk hk=>by
  rw[hs];rw[Da hk,AQc,AmE hd (λx hx=>by
   rcases List.mem_append.1 hx with hx |hx
   ·exact hB.2.2 x hx
   grind) hb (by grind),APW,Bj hk (by omega),AP4,<-AR9]) (by
  grind)
 grind
theorem zc{d:ASw}{n:ASj}{kids:ATB (ATB Bt)}(h:NB d n kids)(h3:BQ n=3):LF (kids.map fN) (wI (((kids.map fN).length:Int)-1)) []=some (fN kids.reverse.flatten):=by
 have hlen:kids.length<=1048576:=by rw[h.hk];exact h.hb.1
 have Ac2:(kids.map List.length).sum<=4096:=by
  have hw:=h.hw;have e :=by omega
  simp only[Hg,kS]at hw;omega
 rw[AP8,AbO (by omega) (by omega)];have:=AW (f:=Cx (kids.map fN)) (λk=>(kids.length-1-k,fN (kids.reverse.take k).flatten))  kids.length (λk hk=>by
  unfold Cx Fy;have e:kids.length-1-k=((kids.length-1-k:Nat):Int):=by omega
  have hb:=da kids (k+1);have Ge:=h.Ge (kids.getD (kids.length-1-k) []) (AL (by omega));rw[AX (z:=[]) (show k<kids.reverse.length by grind),Abw hk,List.flatten_append]at hb⊢;simp only[List.flatten_cons,List.flatten_nil,AQB]at hb⊢;rw[AP0]at hb;rw[e,Agz,AQc,AP8,AQe ⟨by omega,by omega⟩,APX,AnD,sc h.hd (λx hx=>by
   obtain⟨C,hC,hx⟩:=List.mem_flatten.1 hx;exact(h.Ge C (List.mem_reverse.1 (ARi hC))).2.2 x hx) Ge.2.2 (by omega),APW,AbO (by omega) (by omega)]
  grind) (by
  unfold Cx Fy;rw[Kg,AQb,AP6 (by grind)])
 have w6 :=this;rw[show kids.length-1-((0:Nat))=(kids.length:Int)-1 by omega]at w6;exact w6
theorem lM{s:Sg}{v:ASi}(h:1<=s.w)(e:JU s=v):([v]:ASz)=fN s.bits:=by
 unfold fN;rw[v7 h,<-e];rfl
theorem vJ{d:ASw}{n:ASj}{kids:ATB (ATB Bt)}(h:NB d n kids):Hm n d (kids.map fN)=some (fN (BB d n kids)):=by
 have e1:∀x:Int,(n.1==x)=decide (BQ n=x):=λx=>UA;have hbl:=Wi h;have Yy:=hbl.2.1;unfold Hm R3;simp only[e1];by_cases h1:BQ n=1
 ·rw[AP1 h1,AQc];have hf:=h.hf;unfold LQ at hf;have hv:0<=H5 n/\H5 n<(d.length:Int):=by omega
  have hdw:=(h.hd.2.1 (H5 n).toNat (by omega)).2.1;obtain⟨N,hN⟩:∃N:Nat,dw d (H5 n).toNat=(N:Int):=⟨(dw d (H5 n).toNat).toNat,by omega⟩;rw[AQe (show(0:Int)<=n.2.1/\n.2.1<(d.length:Int)from hv),show(d.getD n.2.1.toNat Ab.zero).2.1=(N:Int)from hN];rw[lM (s:=.va (H5 n).toNat 0 N) (by show 1<=N;omega) (by
   show((((H5 n).toNat:Nat):Int),((0:Nat):Int),(N:Int),((0:Int),([]:ASs),()),())=_;rw[show(((H5 n).toNat:Nat):Int)=n.2.1 by show _=H5 n;omega];rfl)]
  simp only[BB,AQe h1,hN,APX,Sg.bits,AQs]
 rw[APZ h1,AQb];by_cases h2:BQ n=2
 ·rw[AP1 h2,AQc];have hf:=h.hf;unfold LQ at hf;obtain⟨m,Ut,S7⟩:tP n:=by
   rcases hf with h |h |h |h
   ·omega
   ·exact h.2.2
   ·omega
   ·omega
  have hl:((List.range m).map λk=>bt (gF n) k).length=m:=by simp
  rw[show Dk n.2.2.2.2.1=some (nW n,gF n)from cB h.hb.2.1,APW];rw[lM (s:=.co ((List.range m).map λk=>bt (gF n) k)) (by show 1<=List.length _;rw[hl];exact S7.1) (by
   show(-1,0,((((List.range m).map λk=>bt (gF n) k).length:Nat):Int),Zc ((List.range m).map λk=>bt (gF n) k),())=_;rw[zk (f:=bt (gF n)) hl (λi hi=>by simp[List.getD,hi]),hl,show mkB m (bt (gF n))=((m:Int),gF n,()) by unfold mkB;rw[<-S7.eq]];simp only[AK];rw[Ut])]
  simp only[BB,AQf h1,AQe h2,Ut,APX,Sg.bits,ARV];rfl
 rw[APZ h2,AQb];by_cases h3:BQ n=3
 ·rw[AP1 h3,AQc,zc h h3];simp only[BB,AQf h1,AQf h2,AQe h3];rfl
 rw[APZ h3,AQb];obtain⟨h4,h9,B,rfl,hB,hs⟩:=h.one h1 h2 h3;have hl:=hB.1;have hl4:=hB.2.1;have hw:=h.hw;have g0:([B].map fN).getD 0 ATq.zero=fN B:=rfl;have r0:(0:Int)<=(0:Int)/\(0:Int)<(([B].map fN).length:Int):=⟨by omega,by simp⟩;have ALV:(fN B).length<=4096:=by
  unfold fN;rw[Cd];have:=C6 (Dj B);rw[Cw]at this;omega
 rw[hs]at hw;rw[AQe r0,g0,Ajp hB,APW];simp only[BB,AQf h1,AQf h2,AQf h3,AQ9]at Yy⊢;simp only[Hg,AQf h1,AQf h2]at hw;by_cases uY:BQ n=4
 ·simp only[AQe uY]at hw Yy⊢;split at hw<;>rename_i hc
  ·obtain⟨A,hA⟩:∃A:Nat,nA n=(A:Int):=⟨(nA n).toNat,by omega⟩;obtain⟨L,hL⟩:∃L:Nat,nB n=(L:Int):=⟨(nB n).toNat,by omega⟩;have kC:n.2.2.1=(A:Int):=hA;have hL':n.2.2.2.1=(L:Int):=hL;rw[AP1 uY,AQc,kC,hL',show wI ((A:Int)-(L:Int))=((A-L:Nat):Int)from A0,show wI (((A-L:Nat):Int)+1)=((A-L+1:Nat):Int)from A0,Abr h.hd hB (by omega),hA,hL,APX,APX];rw[List.drop_take,show A+1-L=A-L+1 by omega];rfl
  ·omega
 rw[APZ uY,AQb];simp only[AQf uY]at hw Yy⊢;by_cases h78:BQ n=7\/BQ n=8
 ·have xD:¬(BQ n=5\/BQ n=6):=by omega
  have h5:¬BQ n=5:=by omega
  have h6:¬BQ n=6:=by omega
  have h9':¬BQ n=9:=by omega
  simp only[AQf h5,AQf h6,AQf h9',AQf xD,AQe h78]at hw⊢;split at hw<;>rename_i hc
  ·obtain⟨A,hA⟩:∃A:Nat,nA n=(A:Int):=⟨(nA n).toNat,by omega⟩;have kC:n.2.2.1=(A:Int):=hA;have Pp:(bif decide (BQ n=7)then decide (BQ n=7)else decide (BQ n=8))=true:=by
    rcases h78 with h |h<;>simp[h]
   have ht:=sN (n:=n) hl;rw[Pp,AQc,P9,kC];have Ahl:Int.tmod (A:Int) (B.length:Int)=((A%B.length:Nat):Int):=rfl;have tq:A%B.length<B.length:=Nat.mod_lt _ (by omega);rw[show EB n (B.length:Int) (fN B) (Int.tmod (A:Int) (B.length:Int))=some ((OS n B.length:Nat):Int) by
    unfold EB OS;rw[e1,Ahl,hA,APX];by_cases h8:BQ n=8
    ·rw[AP1 h8,AQc,P9,AQe h8,show wI ((B.length:Int)-((A%B.length:Nat):Int))=((B.length-A%B.length:Nat):Int)from A0];rfl
    ·rw[APZ h8,AQb,AQf h8],APW]
   have bD:wI ((B.length:Int)-((OS n B.length:Nat):Int))=((B.length-OS n B.length:Nat):Int):=A0;have hz:(0:Int)=((0:Nat):Int):=rfl;rw[bD,Abr h.hd hB (by omega),APW,hz,Abr h.hd hB (by omega),APW,AR4,show List.take (OS n B.length) (List.drop (B.length-OS n B.length) B)=List.drop (B.length-OS n B.length) B from AP6 (by rw[AQw];omega)];rw[sc h.hd (λx hx=>hB.2.2 x (AR8 hx)) (λx hx=>hB.2.2 x (ARi hx)) (by rw[AQw,AQh];omega)];rfl
  ·omega
 have Pp:(bif decide (BQ n=7)then decide (BQ n=7)else decide (BQ n=8))=false:=by
  rw[show ¬BQ n=7/\¬BQ n=8 by omega |> λh=>(APZ h.1:decide (BQ n=7)=false),AQb];exact Kg
 rw[Pp,AQb];by_cases h9':BQ n=9
 ·have xD:¬(BQ n=5\/BQ n=6):=by omega
  have h5:¬BQ n=5:=by omega
  have h6:¬BQ n=6:=by omega
  simp only[AQf h5,AQf h6,AQe h9',AQf xD,AQf h78]at hw Yy⊢;split at hw<;>rename_i hc
  ·obtain⟨A,hA⟩:∃A:Nat,nA n=(A:Int):=⟨(nA n).toNat,by omega⟩;have kC:n.2.2.1=(A:Int):=hA;rw[hA]at hw Yy;simp only[APX,ARs,ARN,ARJ]at Yy;rw[AP1 h9',AQc,kC];rw[show HH (fN B) (A:Int) 0 []=some (fN (List.replicate A B).flatten) by
    unfold HH;have:=AW (f:=Cy (fN B) (A:Int)) (λk=>((k:Int),fN (List.replicate k B).flatten)) (t:=fN (List.replicate A B).flatten) A (λk hk=>by
     unfold Cy Fz;simp only;have ru:(k+1)*B.length<=A*B.length:=AQS _ (by omega);have AN8:(k+1)*B.length=k*B.length+B.length:=Nat.succ_mul _ _;have hA2:A<=A*B.length:=ARX _ (by omega);rw[Da hk,AQc,sc h.hd (λx hx=>by
      obtain⟨C,hC,hx⟩:=List.mem_flatten.1 hx;rw[(List.mem_replicate.1 hC).2]at hx;exact hB.2.2 x hx) hB.2.2 (by rw[ARs,ARN,ARJ];omega),APW,Bj hk (by omega),AR9,List.flatten_append]
     simp) (by
     unfold Cy Fz;simp only;rw[Ep,AQb])
    exact this,hA]
   rfl
  ·omega
 have xD:BQ n=5\/BQ n=6:=by omega
 rw[APZ h9',AQb];simp only[AQf h9',AQe xD]at hw Yy⊢;split at hw<;>rename_i hc
 ·obtain⟨A,hA⟩:∃A:Nat,nA n=(A:Int):=⟨(nA n).toNat,by omega⟩;have kC:n.2.2.1=(A:Int):=hA;have hz1:GM 1=some (1,[0]):=Zr (n:=1) (by omega);rw[hz1,APW];rw[Wv];by_cases h6:BQ n=6
  ·have h5:¬BQ n=5:=by omega
   have gl:YE d (B.getD (B.length-1) (.co false)):=hB.2.2 _ (AL (by omega));rw[show Ct n (B.length:Int) (fN B) (fN B) (AK 1 [0]).1 (AK 1 [0]).2.1 (AK 1 [0]).2.2.1 (AK 1 [0]).2.2.2.1 (AK 1 [0]).2.2.2.2=some (.inl (JU (B.getD (B.length-1) (.co false)).sg)) by
    unfold Ct;rw[e1,AP1 h6,AQc,show wI ((B.length:Int)-1)=((B.length-1:Nat):Int)from A0,show(1:Int)=((1:Nat):Int)from rfl,Abr h.hd hB (by omega),APW];have:(B.drop (B.length-1)).take 1=[B.getD (B.length-1) (.co false)]:=by
     rw[ARx (by omega),show B.getD (B.length-1) (.co false)=B[B.length-1] by simp[List.getD,show B.length-1<B.length by omega]];rfl
    rw[this,Avi,AQe ⟨by omega,by simp⟩];rfl,APW]
   simp only[ARd,AQf h5,AQe h6,hA,APX];rw[kC];unfold LG;rw[pF (f:=FA (JU (B.getD (B.length-1) (.co false)).sg) (A:Int)) h.hd hB gl (A:=A) (by omega) (λx=>rfl)];rfl
  ·have h5:BQ n=5:=by omega
   rw[show Ct n (B.length:Int) (fN B) (fN B) (AK 1 [0]).1 (AK 1 [0]).2.1 (AK 1 [0]).2.2.1 (AK 1 [0]).2.2.2.1 (AK 1 [0]).2.2.2.2=some (.inr ()) by
    unfold Ct;rw[e1,APZ h6,AQb],APW]
   simp only[AQW,AQe h5,hA,APX];rw[kC];have hco:((AK 1 [0]).1,(AK 1 [0]).2.1,(AK 1 [0]).2.2.1,((AK 1 [0]).2.2.2.1,(AK 1 [0]).2.2.2.2,()),())=JU (Bt.co false).sg:=rfl;rw[hco];unfold LH;rw[pF (f:=FB (A:Int) (JU (Bt.co false).sg)) h.hd hB (show YE d (.co false)from trivial) (A:=A) (by omega) (λx=>rfl)];rfl
 ·omega
def Zb(all:ATB (ATB Bt))(n:ASj):ATB (ATB Bt):=(AJ n).map λk=>all.getD k.toNat []
def TB(d:ASw)(t:ASA):Nat->ATB (ATB Bt)
 |0=>[]
 |i+1=>TB d t i++[BB d (nd t i) (Zb (TB d t i) (nd t i))]
theorem U1(d:ASw)(t:ASA):∀i,(TB d t i).length=i
 |0=>rfl
 |i+1=>by simp only[TB,AP0,U1 d t i];rfl
theorem qn(d:ASw)(t:ASA){i j k:Nat}(h:j<i)(hk:i<=k):(TB d t k).getD j []=(TB d t i).getD j []:=by
 induction k with
 |zero=>omega
 |succ k ih =>
  rcases AP7 k i with h1 |h1
  ·grind
  ·rw[<-ih h1];simp only[TB,List.getD];rw[AQj (by rw[U1];omega)]
theorem iF(d:ASw)(t:ASA)(i:Nat):(TB d t (i+1)).getD i []=BB d (nd t i) (Zb (TB d t i) (nd t i)):=by
 simp only[TB,List.getD];rw[AQi (by rw[U1];omega),U1];simp
theorem Ajc{A:Type}(f:A->Nat)(l:ATB A):(((l.map f).sum:Nat):Int)=(l.map λx=>(f x:Int)).sum:=by
 induction l with
 |nil=>rfl
 |cons x l ih=>grind
theorem r7{d:ASw}{t:ASA}{ws:ASs}{i:Nat}(hd:AB d)(ht:LS t)(h:MK d t ws)(hi:i<t.length)(hp:∀j,j<i->Bo d ((TB d t i).getD j [])/\(((TB d t i).getD j []).length:Int)=ws.getD j 0) :
    NB d (nd t i) (Zb (TB d t i) (nd t i))/\Hg d (nd t i) (kS (Zb (TB d t i) (nd t i)))=ws.getD i 0/\Oy (nd t i) i:=by
 obtain⟨_,_,hl,⟨_,Ahv⟩,_⟩:=h;have hn:=Ahv i (by omega);obtain⟨Ge,_,hf,hw,h1,h2⟩:=hn;have hwl:(ws.take i).length=i:=by grind
 rw[hwl]at Ge;have hs:kS (Zb (TB d t i) (nd t i))=(Hq (ws.take i) (nd t i)).sum:=by
  unfold kS Zb Hq;rw[ARV,Ajc];congr 1;refine AQK λk hk=>?_;have:=Ge k hk
  grind
 refine⟨⟨hd,hf,ht.2 _ (AL hi),by simp[Zb],by grind,λB hB=>?_⟩,by grind,Ge⟩;obtain⟨k,hk,rfl⟩:=List.mem_map.1 hB;have:=Ge k hk;exact(hp k.toNat (by omega)).1
theorem gQ{d:ASw}{t:ASA}{ws:ASs}(hd:AB d)(ht:LS t)(h:MK d t ws):∀i,i<=t.length->∀j,j<i->Bo d ((TB d t i).getD j [])/\(((TB d t i).getD j []).length:Int)=ws.getD j 0
 |0,_,j,hj=>by omega
 |i+1,hi,j,hj=>by
  have ih:=gQ hd ht h i (by omega);rcases AP7 j i with h1 |h1
  ·rw[qn d t h1 (AQx i)];exact ih j h1
  ·have:j=i:=by omega
   subst this;obtain⟨kI,hw,_⟩:=r7 hd ht h (by omega) ih;rw[iF];exact⟨Wi kI,by rw[dz kI,hw]⟩
def tf(d:ASw)(t:ASA)(n:Nat):Prop:=∀i,i<n->(Ay ((TB d t n).getD i [])).length<=2000
def Yl(d:ASw)(t:ASA):ATB Bt:=(TB d t t.length).getD (t.length-1) []
open Classical in
noncomputable def DX(d:ASw)(t:ASA):Bool×ASz:=if(∃ws,MK d t ws)/\tf d t t.length then(true,fN (Yl d t))else(false,[])
theorem tf.succ{d:ASw}{t:ASA}{n:Nat}:tf d t (n+1)↔tf d t n/\(Ay (BB d (nd t n) (Zb (TB d t n) (nd t n)))).length<=2000:=by
 constructor
 ·intro h;refine⟨λi hi=>?_,?_⟩
  ·have:=h i (by omega);rw[qn d t hi (AQx n)]at this;exact this
  ·have:=h n (by omega);rw[iF]at this;exact this
 ·rintro⟨h1,h2⟩ i hi
  rcases AP7 i n with h |h
  ·rw[qn d t h (AQx n)];exact h1 i h
  ·have:i=n:=by omega
   subst this;rw[iF];exact h2
theorem tf.mono{d:ASw}{t:ASA}{m n:Nat}(h:tf d t n)(hm:m<=n):tf d t m:=λi hi=>by
 have:=h i (by omega);rw[qn d t hi hm]at this;exact this
theorem rL{a:ASw}{g c:Int}{b:ASq}{j:ASj}{all:ATB (ATB Bt)}{pad:ASJ}{n:ASj}(hn:(AJ n).length<=1048576)(Ge:Oy n all.length) :
    T7 a g c b (all.map fN++pad) j (AJ n) ((AJ n).length:Int) 0 (List.replicate (AJ n).length [])=some ((Zb all n).map fN):=by
 have Xa:∀m,m<(AJ n).length->(all.map fN++pad).getD ((AJ n).getD m 0).toNat []=fN (all.getD ((AJ n).getD m 0).toNat []):=λm hm=>by
  have:=Ge _ (AL (z:=(0:Int)) hm)
  grind
 have:=AW (f:=FC a g c b (all.map fN++pad) j (AJ n) ((AJ n).length:Int)) (λk=>((k:Int),CL (λm=>(all.map fN++pad).getD ((AJ n).getD m 0).toNat []) [] (AJ n).length k)) (t:=(Zb all n).map fN) (AJ n).length (λk hk=>by
  unfold FC L0;have hk2:=Ge _ (AL (z:=(0:Int)) hk);have e0:(Ty.zero ATl:Int)=0:=rfl;rw[e0,Da hk,AQc,AQe (Bg hk),APX,AQe ⟨hk2.1,by grind⟩,H8,AQe (Bg hk),Bj hk (by omega)];rw[show ATq.zero=([]:ASz)from rfl,Qw (λm=>(all.map fN++pad).getD ((AJ n).getD m 0).toNat []) [] (n:=(AJ n).length) (k:=k)]) (by
  unfold FC L0;rw[Ep,AQb];congr 2;unfold CL Zb;refine AQV (by simp) λi h1 h2=>?_
  grind)
 rw[show CL (λm=>(all.map fN++pad).getD ((AJ n).getD m 0).toNat []) [] (AJ n).length 0=List.replicate (AJ n).length []from MO _ _ _]at this;exact this
theorem AgN(B:ATB Bt):(fN B).length=(Ay B).length:=Cd _
theorem AiJ{d:ASw}{B:ATB Bt}(h:Bo d B):Small (fN B):=by
 have hlen:=C6 (Dj B);rw[Cw]at hlen;have h4:=h.2.1;refine⟨by rw[AgN];omega,λs hs=>?_⟩;obtain⟨q,hq,rfl⟩:=List.mem_map.1 hs;cases q with
 |co bs =>
  show(Zc bs).2.1.length<=1048576;rw[(fB bs).1];have :=by
   have:∀(l:ATB Sg) (s:Sg),s∈l->s.w<=Bh l:=λl s hs=>by
    induction l with
    |nil=>grind
    |cons a l ih =>
     simp only[Bh,AQI,ARu];rcases List.mem_cons.1 hs with rfl |hs
     ·omega
     ·have:=ih hs;unfold Bh at this;omega
   exact this _ _ hq
  rw[Cw]at this;have e:(Sg.co bs).w=bs.length:=rfl;unfold nw;omega
 |va v l n=>show[].length<=_;simp
theorem Y6{d:ASw}{t:ASA}{ws:ASs}(hd:AB d)(ht:LS t)(h:MK d t ws):Iu d (t,())=some (DX d t):=by
 have VS:=h.1;have iP:=h.2.1;refine Ax.eq_ ?_;unfold Iu;rw[AQe ⟨rfl,by omega,by omega,by grind,by grind⟩];refine Ax.bind (P:=λr=>(∃x,r=.inl x/\¬tf d t t.length)\/(r=.inr ((TB d t t.length).map fN)/\tf d t t.length)) ?_ λr hr=>?_
 ·refine Bn (λm (x:Int×ATB _)=>∃i:Nat,i<=t.length/\m=t.length-i/\x=((i:Int),(TB d t i).map fN++List.replicate (t.length-i) [])/\tf d t i) (λm x hI=>?_) _ _ ⟨0,AQH _,rfl,by simp[TB],λi hi=>by omega⟩;obtain⟨i,hi,rfl,rfl,gm⟩:=hI;unfold L3 Q1;rcases AP7 i _ with Bp |ZO
  ·obtain⟨kI,hw,Ge⟩:=r7 hd ht h Bp (gQ hd ht h i hi);have ru:=kI.hb.1;have S8:t.getD i _=nd t i:=rfl;have WR:(nd t i).2.2.2.2.2.1=AJ _:=rfl;rw[Da Bp,AQe (Bg Bp),APX,S8,WR,AQe ⟨rfl,by omega,by omega,by omega,by omega⟩,APX];rw[rL ru (by rw[U1];exact Ge),APW,vJ kI,APW];have hlen:((TB d t i).map fN++List.replicate (t.length-i) []).length=t.length:=by rw[AP0,AP8,U1,AQt];omega
   have HY:((TB d t i).map fN++List.replicate (t.length-i) []).set i (fN (BB d (nd t i) (Zb (TB d t i) (nd t i))))=(TB d t (i+1)).map fN++List.replicate (t.length-(i+1)) []:=by
    rw[ARm _ _ (by grind),AP8,U1,Nat.sub_self,show t.length-i=(t.length-(i+1))+1 by omega,List.replicate_succ];simp only[TB,AQG,AP4];rfl
   have Xa:((TB d t (i+1)).map fN++List.replicate (t.length-(i+1)) ([]:ASz)).getD i (Ty.zero (.sl _))=fN (BB d (nd t i) (Zb (TB d t i) (nd t i))):=by
    grind
   rw[hlen,AQe (Bg Bp),AP5,hlen,AQe (Bg Bp),HY,Xa,AgN];by_cases hc:(Ay (BB d (nd t i) (Zb (TB d t i) (nd t i)))).length<=2000
   ·rw[Kg,Bj Bp (by omega)];exact Ax.mk ⟨t.length-(i+1),by omega,i+1,Bp,rfl,rfl,tf.succ.2 ⟨gm,hc⟩⟩
   ·rw[MN];exact Ax.mk (.inl ⟨_,rfl,λh'=>hc (tf.succ.1 (h'.mono Bp)).2⟩)
  ·have:i=t.length:=by omega
   subst this;rw[Ep];exact Ax.mk (.inr ⟨by simp,gm⟩)
 ·rcases hr with ⟨x,rfl,VT⟩|⟨rfl,gm⟩
  ·refine Ax.mk ?_;unfold DX;rw[AQf (λh'=>VT h'.2)]
  ·simp only[AQW];have gl:wI ((((TB d t t.length).map fN).length)-1)=((t.length-1:Nat)):=by rw[AP8,U1];exact A0
   rw[gl,AP8,U1,AQe ⟨by omega,by omega⟩,APX,AnD];have hb:=(gQ hd ht h _ (AP2 _) (t.length-1) (by omega)).1;rw[qI (AiJ hb)];refine Ax.mk ?_;unfold DX;rw[AQe ⟨⟨ws,h⟩,gm⟩];rfl
theorem Rr{d:ASw}{t:ASA}(hd:AB d)(ht:LS t):Dn d (t,())=some (DX d t):=by
 refine Ax.eq_ ?_;unfold Dn;have ANQ:=hd.1;rw[VA ht (by omega) hd,APW];by_cases hw:∃ws,MK d t ws
 ·obtain⟨ws,h⟩:=hw;have VS:=h.1;have iP:=h.2.1;have hp:=pM h;rw[Kg,AQb];refine Ax.bind (P:=λr=>(r=.inl ()/\¬tf d t t.length)\/(r=.inr (fN (Yl d t))/\tf d t t.length)) ?_ λr hr=>?_
  ·unfold Ui;refine Bn (λm (x:Int×ASI×ASz)=>∃i:Nat,i<=t.length/\m=t.length-i/\x.1=(i:Int)/\x.2.1=(TB d t i).map bV/\(0<i->x.2.2=fN ((TB d t i).getD (i-1) []))/\tf d t i) (λm x hI=>?_) t.length _ ⟨0,AQH _,rfl,rfl,rfl,λh=>by omega,λi hi=>by omega⟩;obtain⟨x1,x2,x3⟩:=x;obtain⟨i,hi,rfl,h1,h2,h3,gm⟩:=hI;simp only at h1 h2 h3;subst h1 h2;unfold Mh Rv;simp only;rcases AP7 i t.length with Bp |ZO
   ·obtain⟨kI,hw,Ge⟩:=r7 hd ht h Bp (gQ hd ht h i hi);have ru:=kI.hb.1;have S8:t.getD i Ag.zero=nd t i:=rfl;have WR:(nd t i).2.2.2.2.2.1=AJ (nd t i):=rfl;have AFQ:PL d (i:Int) (t,()) ((TB d t i).map bV) 0 []=some ((Zb (TB d t i) (nd t i)).map bV):=by
     unfold PL;rw[YY (f:=FN d (i:Int) (t,()) ((TB d t i).map bV)) (AJ (nd t i)).length (λm=>bV ((TB d t i).getD ((AJ (nd t i)).getD m 0).toNat [])) [] (λk acc hk ha=>by
      unfold FN Mg;simp only;have hk2:=Ge _ (AL (z:=(0:Int)) hk);simp at ha;have e0:(Ty.zero ATl:Int)=0:=rfl;rw[AQe (Bg Bp),APX,S8,WR,Da hk,AQc,AQe (Bg Bp),AQe (Bg hk),APX,e0,AQe ⟨hk2.1,by rw[AP8,U1];exact hk2.2⟩,AGr,Bj hk (by omega),AQe (by show(_+1)*24<=_;omega)]) (λacc=>by
      unfold FN Mg;simp only;rw[AQe (Bg Bp),APX,S8,WR,Ep,AQb])]
     rw[AQ5];congr 1;unfold Zb;rw[ARV];refine AQV (by simp) λq h1 h2=>?_;simp only[List.getElem_map,List.getElem_range,Function.comp];have hq:q<(AJ (nd t i)).length:=by simpa using h1
     simp[List.getD,hq]
    rw[Da Bp,AQc,AFQ,APW,AQe (Bg Bp),APX,S8,wM kI,APW];have hb:=Wi kI;rw[Ade (λb hb'=>WX hd (hb.2.2 b hb')) hb.2.1,APW];by_cases hc:(Ay (BB d (nd t i) (Zb (TB d t i) (nd t i)))).length<=2000
    ·simp only[AP1 hc,AQF,AQb];rw[AP8,U1,AQe (by show(_+1)*24<=_;omega),Bj Bp (by omega)];refine Ax.mk ⟨t.length-(i+1),by omega,i+1,Bp,rfl,rfl,?_,λ_=>?_,tf.succ.2 ⟨gm,hc⟩⟩
     ·simp only[TB,AQG,AQI,ARK]
     ·simp only[AQz];rw[iF];rfl
    ·simp only[APZ hc,ARg,AQc];exact Ax.mk (.inl ⟨rfl,λh'=>hc (tf.succ.1 (h'.mono Bp)).2⟩)
   ·have:i=t.length:=by omega
    subst this;rw[Ep,AQb];exact Ax.mk (.inr ⟨by rw[h3 (by omega)];rfl,gm⟩)
  ·rcases hr with ⟨rfl,VT⟩|⟨rfl,gm⟩
   ·simp only[ARd];refine Ax.mk ?_;unfold DX;rw[AQf (λh'=>VT h'.2)]
   ·simp only[AQW];refine Ax.mk ?_;unfold DX;rw[AQe ⟨⟨ws,h⟩,gm⟩]
 ·rw[XY hw,MN,AQc];refine Ax.mk ?_;unfold DX;rw[AQf (λh'=>hw h'.1)]
end Go.Proofs.X
namespace Go.Va
open Go.Proofs.X
def brk:ATB Bt->Nat
 |a::b::r=>(if a.sg.join b.sg=none then 1 else 0)+brk (b::r)
 |_=>0
theorem Afo(B:ATB Bt)(c b:Bt):brk (B++[c,b])=brk (B++[c])+if c.sg.join b.sg=none then 1 else 0:=by
 induction B with
 |nil=>simp[brk]
 |cons a B ih =>
  cases B with
  |nil=>simp only[AQ5,ART,brk]at *;omega
  |cons x B=>simp only[ART,brk]at *;omega
theorem AhK{l s j:Sg}(h:l.join s=some j)(x:Bt):j.join x.sg=none↔s.join x.sg=none:=by
 cases l<;>cases s<;>simp only[Sg.join]at h
 ·cases h;cases x<;>simp[Sg.join,Bt.sg]
 ·cases h
 ·cases h
 ·split at h
  ·rename_i hc;cases h;cases x with
   |co b=>simp[Sg.join,Bt.sg]
   |va v a =>
    simp only[Sg.join,Bt.sg,hc.1,<-hc.2,AQ1];split<;>simp
  ·cases h
theorem Aib(B:ATB Bt)(c:Bt):∃g l,Ay (B++[c])=g++[l]/\∀x:Bt,l.join x.sg=none↔c.sg.join x.sg=none:=by
 have e:Ay (B++[c])=H6 (Ay B) c.sg:=by unfold Ay;rw[ML];rfl
 rw[e];rcases ARb (Ay B)with h |⟨g,l,h⟩
 ·rw[h];exact⟨[],c.sg,rfl,λx=>Iff.rfl⟩
 ·rw[h,ARc,Fs];cases hj:l.join c.sg with
  |none=>exact⟨g++[l],c.sg,by simp,λx=>Iff.rfl⟩
  |some j=>exact⟨g,j,rfl,AhK hj⟩
theorem vZ(B:ATB Bt)(c:Bt):(Ay (B++[c])).length=brk (B++[c])+1:=by
 have key:∀(n:Nat) (B:ATB Bt) (c:Bt),B.length=n->(Ay (B++[c])).length=brk (B++[c])+1:=by
  intro n;induction n with
  |zero=>intro B c h;rw[List.length_eq_zero_iff.1 h];simp[Ay,YK,H6,brk]
  |succ n ih =>
   intro B c h;rcases ARb B with rfl |⟨B0,x,rfl⟩
   ·simp at h
   ·rw[ARc]at h⊢;rw[AP4];simp only[ART,AQ5];have i:=ih B0 x (by simp at h;omega);obtain⟨g,l,hg,hl⟩:=Aib B0 x;have e:Ay (B0++[x,c])=H6 (Ay (B0++[x])) c.sg:=by
     rw[show B0++[x,c]=(B0++[x])++[c] by simp];unfold Ay;rw[ML];rfl
    rw[Afo,e,hg,Fs];rw[hg]at i;simp only[AP0,AQL,ARP]at i;cases hj:l.join c.sg with
    |none=>rw[AQe ((hl c).1 hj)];simp;omega
    |some j =>
     rw[AQf (λh'=>by rw[(hl c).2 h']at hj;cases hj)];simp;omega
 exact key _ B c rfl
end Go.Va
namespace Go.Proofs.X
open Go Go.Va
set_option maxRecDepth 100000
def Aeu(d:ASw)(B:ATB Bt):Prop:=Bo d B/\(Ay B).length<=2000
theorem Aeu.pos{d:ASw}{B:ATB Bt}(h:Aeu d B):1<=(Ay B).length:=by
 rcases ARb B with rfl |⟨B0,x,rfl⟩
 ·have:=h.1.1;simp at this
 ·rw[ARc,vZ];omega
def V0(d:ASw):Sg->Prop
 |.co bs=>1<=bs.length/\bs.length<=4096
 |.va v l n=>v<d.length/\1<=n/\((l+n:Nat):Int)<=dw d v
theorem Zk{d:ASw}{B:ATB Bt}(h:Bo d B){s:Sg}(hs:s∈Ay B):V0 d s/\s.w<=4096:=by
 have hw:=Dj B s hs;have hb:∀b∈s.bits,YE d b:=λb hb=>h.2.2 b (by
  rw[<-Ic B];exact List.mem_flatMap.2 ⟨s,hs,hb⟩)
 have QP:s.w<=4096:=by
  have:∀(l:ATB Sg) (s:Sg),s∈l->s.w<=Bh l:=λl s hs=>by
   induction l with
   |nil=>cases hs
   |cons a l ih =>
    simp only[Bh,AQI,ARu];rcases List.mem_cons.1 hs with rfl |hs
    ·omega
    ·have:=ih hs;unfold Bh at this;omega
  have:=this _ _ hs;rw[Cw]at this;have:=h.2.1;omega
 refine⟨?_,QP⟩;cases s with
 |co bs=>exact⟨hw,QP⟩
 |va v l n =>
  have hn:1<=n:=hw;have h0:=hb (.va v l) (List.mem_map.2 ⟨0,List.mem_range.2 hn,by simp⟩);have h1:=hb (.va v (l+(n-1))) (List.mem_map.2 ⟨n-1,List.mem_range.2 (by omega),rfl⟩);have:=h1.2;exact⟨h0.1,hn,by omega⟩
def AHD(B:ATB Bt)(hi lo:Int):Prop:=0<=lo/\lo<=hi/\hi<(B.length:Int)
instance (B:List Bt) (hi lo:Int):Decidable (AHD B hi lo):=inferInstanceAs (Decidable (_/\_))
def Axj(A B:ATB Bt):Prop:=A.length+B.length<=4096/\(Ay (B++A)).length<=2000
instance (A B:List Bt):Decidable (Axj A B):=inferInstanceAs (Decidable (_/\_))
end Go.Proofs.X
namespace Go.Proofs.X
open Go Go.Va
set_option maxRecDepth 100000
theorem AhQ{d:ASw}{t:ASA}{ws:ASs}(hd:AB d)(ht:LS t)(h:MK d t ws):Bo d (Yl d t):=by
 have:=h.1;exact(gQ hd ht h t.length (AP2 _) (t.length-1) (by omega)).1
theorem ku{d:ASw}{t:ASA}(hd:AB d)(ht:LS t)(h:(DX d t).1=true):Aeu d (Yl d t)/\(DX d t).2=fN (Yl d t):=by
 unfold DX at h⊢;split at h
 ·rename_i hc;rw[AQe hc];obtain⟨⟨ws,hw⟩,gm⟩:=hc;have:=hw.1;exact⟨⟨AhQ hd ht hw,gm _ (by omega)⟩,rfl⟩
 ·cases h
theorem XZ{d:ASw}{t:ASA}(h:0<=D8 d t):∃ws,MK d t ws :=
 Classical.byContradiction λh'=>by rw[XY h']at h;omega
def ju(d:ASw)(l:ASy)(i:Nat):Prop:=(DX d (lS l i)).1=true/\(DX d (lT l i)).1=true
def BF(d:ASw)(l:ASy):Prop:=∀i,i<l.length->ju d l i
theorem sa{a b:Bool}:(!a||!b)=false↔a=true/\b=true:=by cases a<;>cases b<;>decide
def xW(l:ASy)(id:Int)(i:Nat):Prop:=(li l i).1=id/\(li l i).2.1=true
def xV(l:ASy)(id g:Int):Prop:=(g=-1/\∀i,i<l.length->¬xW l id i)\/∃k:Nat,g=(k:Int)/\k<l.length/\xW l id k/\∀i,i<k->¬xW l id i
theorem xV.unique{l:ASy}{id g h:Int}(hg:xV l id g)(hh:xV l id h):g=h:=by
 rcases hg with ⟨rfl,h1⟩|⟨k,rfl,hk,hp,hn⟩
 ·rcases hh with ⟨rfl,_⟩|⟨k,rfl,hk,hp,_⟩
  ·rfl
  ·exact absurd hp (h1 k hk)
 ·rcases hh with ⟨rfl,h1⟩|⟨j,rfl,hj,hq,hm⟩
  ·exact absurd hp (h1 k hk)
  ·rcases Nat.lt_trichotomy k j with h |h |h
   ·exact absurd hp (hm k h)
   ·rw[h]
   ·exact absurd hq (hn j h)
theorem n1:Jd ⟨#[105]⟩ ⟨#[]⟩=false:=by kernel_rfl
theorem n2:Jd ⟨#[116]⟩ ⟨#[]⟩=false:=by kernel_rfl
theorem n3:Jd ⟨#[105,106]⟩ ⟨#[]⟩=false:=by kernel_rfl
theorem n4:Jd ⟨#[105,112]⟩ ⟨#[]⟩=false:=by kernel_rfl
theorem n5:Jd ⟨#[]⟩ ⟨#[]⟩=true:=by kernel_rfl
def Dx(c:ASG)(v:Nat):ASs:=c.getD v []
def Kh(l:ASs)(i:Nat):Int:=l.getD i 0
def PlP(l:ASs)(w:Int)(i:Nat):Prop:=1<=Kh l i/\Kh l i<=w-1/\(0<i->Kh l (i-1)<Kh l i)
def aS(l:ASs)(w:Int):Prop:=∀i,i<l.length->PlP l w i
def CQ(d:ASw)(c:ASG):Prop:=c.length=d.length/\∀v,v<d.length->aS (Dx c v) (dw d v)
def Yv(c:ASG):Prop:=c.length<=1048576/\∀x∈c,x.length<=1048576
theorem Yv.row{c:ASG}(h:Yv c)(v:Nat):(Dx c v).length<=1048576:=by
 unfold Dx;by_cases hv:v<c.length
 ·exact h.2 _ (AL hv)
 ·grind
theorem AgE{d:ASw}(hd:AB d){v:Nat}(hv:v<d.length):1<=dw d v/\dw d v<=4096:=(hd.2.1 v hv).2.1
theorem sD{d:ASw}{c:ASG}(hd:AB d)(hl:c.length=d.length){v j:Nat}(hv:v<d.length)(hj:j<(Dx c v).length)(hb:(Dx c v).length<=1048576)(hp:∀i,i<j->PlP (Dx c v) (dw d v) i) :
    ∃b,Nf d (v:Int) (j:Int) (c,())=some b/\(b=false↔PlP (Dx c v) (dw d v) j):=by
 have hw:=AgE hd hv;unfold Nf;have e1:(c.getD v ATo.zero)=Dx c v:=rfl;have e2:(d.getD v _).2.1=dw d v:=rfl;have e3:(Dx c v).getD j ATl.zero=Kh _ j:=rfl;simp only[APX,e1,e2,e3];rw[AQe (Bg (by omega)),AQe (Bg hj),AQe (Bg hv),Td,BX  (by omega) (by omega)];by_cases h1:1<=Kh (Dx c v) j/\Kh (Dx c v) j<=dw d v-1
 ·rw[AP1 h1];rcases AQk j with h0 |h0
  ·subst h0;exact⟨false,by simp,λ_=>⟨h1.1,h1.2,λh=>by omega⟩,λ_=>rfl⟩
  ·rw[MN,A0  (n:=j-1) (by omega) (by omega),AQe (Bg (by omega)),AQe (Bg hj),AQe (Bg (by omega)),AQe (Bg (by omega))];have e4:(Dx c v).getD _ _=Kh _ (j-1):=rfl;refine⟨_,rfl,?_⟩;rw[AQN];exact⟨λh=>⟨h1.1,h1.2,λ_=>Int.not_le.1 h⟩,λh=>Int.not_le.2 (h.2.2 h0)⟩
 ·rw[APZ h1];exact⟨true,rfl,λh=>by grind,λh=>(h1 ⟨h.1,h.2.1⟩).elim⟩
theorem Wn{d:ASw}{c:ASG}(hc:Yv c):Ax (Kl d (c,())) λr=>r=true↔AB d/\CQ d c:=by
 unfold Kl Ru;obtain⟨r,hr,hq⟩:=XT d;rw[hr];cases r with
 |false=>exact Ax.mk ⟨λh=>by grind,λh=>by grind⟩
 |true =>
  have hd:=hq.1 rfl;simp;by_cases hl:c.length=d.length
  ·rw[show(c.length !=(d.length:Int))=false by grind];refine Ax.bind (P:=λt=>(t=.inl ()/\¬CQ d c)\/(t=.inr ()/\CQ d c)) ?_ λt ht=>?_
   ·refine BW (λv _=>(v:Int)) c.length (λv _=>∀u,u<v->aS (Dx c u) (dw d u)) (λv _ hv hI=>?_) (λ_ hI=>?_) (s0:=()) (λu hu=>by omega)
    ·unfold JY NR;rw[Da hv];refine Ax.bind (P:=λt=>(t=.inl ()/\¬aS (Dx c v) (dw d v))\/(t=.inr ()/\aS (Dx c v) (dw d v))) ?_ λt ht=>?_
     ·refine BW (λj _=>(j:Int)) (Dx c v).length (λj _=>∀i,i<j->PlP (Dx c v) (dw d v) i) (λj _ hj hJ=>?_) (λ_ hJ=>?_) (s0:=()) (λi hi=>by omega)
      ·unfold JX NQ;obtain⟨b,h1,h2⟩:=sD hd hl (by omega) hj (hc.row v) hJ;have e1:(c.getD v ATo.zero)=Dx c v:=rfl;simp only[APX,e1];rw[AQe (Bg hv),Da hj,h1,APW];cases b with
       |true=>exact Ax.mk (.inl ⟨rfl,λh=>by have:=h2.2 (h j hj);cases this⟩)
       |false =>
        rw[Bj hj (hc.row v)];refine Ax.mk ⟨(),rfl,λi hi=>?_⟩
        grind
      ·unfold JX NQ;have e1:(c.getD v ATo.zero)=Dx c v:=rfl;simp only[APX,e1];rw[AQe (Bg hv),Ep];exact Ax.mk (.inr ⟨rfl,hJ⟩)
     ·rcases ht with ⟨rfl,h⟩|⟨rfl,h⟩
      ·exact Ax.mk (.inl ⟨rfl,λh'=>h (h'.2 v (by omega))⟩)
      ·rw[Bj hv hc.1];refine Ax.mk ⟨(),rfl,λu hu=>?_⟩
       grind
    ·unfold JY NR;rw[Ep];exact Ax.mk (.inr ⟨rfl,hl,λv hv=>hI v (by omega)⟩)
   ·rcases ht with ⟨rfl,h⟩|⟨rfl,h⟩
    ·exact Ax.mk ⟨λh=>by grind,λh'=>absurd h'.2 h⟩
    ·exact Ax.mk ⟨λ_=>⟨hd,h⟩,λ_=>rfl⟩
  ·rw[show(c.length !=(d.length:Int))=true by grind];exact Ax.mk ⟨λh=>by grind,λh=>absurd h.2.1 hl⟩
theorem rK{d:ASw}{c:ASG}(hc:Yv c)(hd:AB d):Ax (Tz d (c,())) λr=>r=true↔CQ d c:=by
 unfold Tz;by_cases hl:c.length=d.length
 ·rw[show(c.length !=(d.length:Int))=false by grind];refine Ax.bind (P:=λt=>(t=.inl ()/\¬CQ d c)\/(t=.inr ()/\CQ d c)) ?_ λt ht=>?_
  ·refine BW (λv _=>(v:Int)) c.length (λv _=>∀u,u<v->aS (Dx c u) (dw d u)) (λv _ hv hI=>?_) (λ_ hI=>?_) (s0:=()) (λu hu=>by omega)
   ·unfold JF NA;have e1:(c.getD v _)=Dx c v:=rfl;have hw:=AgE hd (show v<d.length by omega);rw[Da hv,AQe (Bg hv)];refine Ax.bind (P:=λt=>(t=.inl ()/\¬aS (Dx c v) (dw d v))\/(t=.inr ()/\aS (Dx c v) (dw d v))) ?_ λt ht=>?_
    ·have:=BW (f:=GZ d v c c.length (Dx c v) ((Dx c v).length)) (λj _=>((if j=0 then 0 else Kh (Dx c v) (j-1)),j)) (Dx c v).length (λj _=>∀i,i<j->PlP (Dx c v) (dw d v) i) (Q:=λt=>(t=.inl ()/\¬aS (Dx c v) (dw d v))\/(t=.inr ()/\aS (Dx c v) (dw d v))) (λj _ hj hJ=>?_) (λ_ hJ=>?_) (s0:=()) (λi hi=>by omega)
     ·exact this
     ·unfold GZ Nz;have e2:(d.getD v _).2.1=dw d v:=rfl;have e3:(Dx c v).getD j ATl.zero=Kh _ j:=rfl;simp only[APX,e2,e3];obtain⟨q,hq⟩:∃q:Int,q=if j=0 then 0 else Kh (Dx c v) (j-1):=⟨_,rfl⟩;have hqb:0<=q/\q<=4096/\(0<j->q=Kh (Dx c v) (j-1))/\(j=0->q=0):=by
       by_cases h0:j=0
       ·grind
       ·rw[AQf h0]at hq;have:=hJ (j-1) (by omega);exact⟨by have:=this.1;omega,by have:=this.2.1;omega,λ_=>hq,λh=>absurd h h0⟩
      rw[<-hq,Da hj,AQe (Bg hj),AQe (Bg (by omega)),Lw,BX (x:=dw d v-1),BX  (by omega) (by omega)];by_cases h1:q+1<=Kh (Dx c v) j/\Kh (Dx c v) j<=dw d v-1
      ·rw[AP1 h1];rw[Bj hj (hc.row v)];refine Ax.mk ⟨(),by simp,λi hi=>?_⟩;rcases AP7 i j with h |h
       ·grind
       ·rw[show i=j by omega];exact⟨by omega,h1.2,λh0=>by omega⟩
      ·rw[APZ h1];refine Ax.mk (.inl ⟨rfl,λh=>h1 ?_⟩);have:=h j hj;refine⟨?_,this.2.1⟩;rcases AQk j with h0 |h0
       ·have:=(h j hj).1;omega
       ·have:=(h j hj).2.2 h0;omega
     ·unfold GZ Nz;rw[Ep];exact Ax.mk (.inr ⟨rfl,hJ⟩)
    ·rcases ht with ⟨rfl,h⟩|⟨rfl,h⟩
     ·exact Ax.mk (.inl ⟨rfl,λh'=>h (h'.2 v (by omega))⟩)
     ·rw[Bj hv hc.1];refine Ax.mk ⟨(),rfl,λu hu=>?_⟩
      grind
   ·unfold JF NA;rw[Ep];exact Ax.mk (.inr ⟨rfl,hl,λv hv=>hI v (by omega)⟩)
  ·rcases ht with ⟨rfl,h⟩|⟨rfl,h⟩
   ·exact Ax.mk ⟨λh=>by grind,λh'=>absurd h' h⟩
   ·exact Ax.mk ⟨λ_=>h,λ_=>rfl⟩
 ·rw[show(c.length !=(d.length:Int))=true by grind];exact Ax.mk ⟨λh=>by grind,λh=>absurd h.1 hl⟩
theorem vF{d:ASw}{c:ASG}(hc:Yv c):Ax (Tx d (c,())) λr=>r=true↔AB d/\CQ d c:=by
 unfold Tx;obtain⟨r,hr,hq⟩:=di d;rw[hr,APW];cases r with
 |false=>exact Ax.mk ⟨λh=>by grind,λh=>by grind⟩
 |true =>
  have hd:=hq.1 rfl;refine Ax.bind (rK hc hd) λr hr=>Ax.mk ⟨λh=>⟨hd,hr.1 h⟩,λh=>hr.2 h.2⟩
def Hv(n:Nat)(f:Nat->Bool):ASt:=(List.range n).map f
def W(d:ASw)(v:Nat):Nat:=(dw d v).toNat
def mark(f:Nat->Nat->Bool)(v p:Nat):Nat->Nat->Bool:=λu q=>f u q||(u==v&&q==p)
def M(d:ASw)(x:Nat)(f:Nat->Nat->Bool):ASH:=(List.range d.length).map λv=>Hv (W d v+x) (f v)
theorem Lk(n:Nat)(f:Nat->Bool):(Hv n f).length=n:=by simp[Hv]
theorem dL{n:Nat}{f:Nat->Bool}{p:Nat}{z:Bool}(h:p<n):(Hv n f).getD p z=f p:=by simp[Hv,h]
theorem Vx{n:Nat}{f g:Nat->Bool}(h:∀p,p<n->f p=g p):Hv n f=Hv n g:=AQK λp hp=>h p (List.mem_range.1 hp)
theorem lF(n:Nat)(f:Nat->Bool)(p:Nat):(Hv n f).set p true=Hv n λq=>f q||q==p:=by
 apply AQ2;intro q;rw[AQl];by_cases hq:q<n
 ·by_cases e:p=q
  ·subst e;simp[Hv,hq]
  ·have:¬q=p:=λh=>e h.symm;simp[Hv,hq,e,this]
 ·have h1:(Hv n λq=>f q||q==p)[q]?=none:=by simp[Hv];omega
  have h2:(Hv n f)[q]?=none:=by simp[Hv];omega
  grind
theorem lD(n:Nat):Hv n (λ_=>false)=List.replicate n false:=by
 apply AQV<;>simp[Hv]
theorem X9(d:ASw)(x:Nat)(f:Nat->Nat->Bool):(M d x f).length=d.length:=by simp[M]
theorem YG{d:ASw}{x:Nat}{f:Nat->Nat->Bool}{v:Nat}{z:ASt}(h:v<d.length):(M d x f).getD v z=Hv (W d v+x) (f v):=by simp[M,h]
theorem qe{d:ASw}{x:Nat}{f:Nat->Nat->Bool}{v p:Nat}{z:ASt}(h:v<d.length):(M d x f).set v (((M d x f).getD v z).set p true)=M d x (mark f v p):=by
 rw[YG h,lF];apply AQ2;intro u;rw[AQl];by_cases hu:u<d.length
 ·by_cases e:v=u
  ·subst e;simp[M,hu,mark,Hv]
  ·have:¬u=v:=λh=>e h.symm;rw[AQf e];simp only[M,AQp,ARW hu];exact congrArg some (Vx λp _=>by simp[mark,this])
 ·have h1:(M d x (mark f v p))[u]?=none:=by simp[M];omega
  rw[h1,P9];simp[M];omega
theorem MF{d:ASw}(hd:AB d){v:Nat}(hv:v<d.length):dw d v=(W d v:Int)/\1<=W d v/\W d v<=4096:=by
 have:=AgE hd hv;unfold W;omega
def C0(c:ASG):Nat->Nat->Bool:=λv p=>(Dx c v).contains (p:Int)
def A1(w:Nat)(f:Nat->Bool):ASs:=((List.range w).filter λp=>decide (1<=p)&&f p).map Int.ofNat
def Ai(d:ASw)(f:Nat->Nat->Bool):ASG:=(List.range d.length).map λv=>A1 (W d v) (f v)
theorem np{w:Nat}{f g:Nat->Bool}(h:∀p,p<w->1<=p->f p=g p):A1 w f=A1 w g:=by
 unfold A1;congr 1;refine List.filter_congr λp hp=>?_
 grind
theorem qO{d:ASw}{f g:Nat->Nat->Bool}(h:∀v p,v<d.length->p<W d v->1<=p->f v p=g v p):Ai d f=Ai d g :=
 AQK λv hv=>np λp hp h1=>h v p (List.mem_range.1 hv) hp h1
theorem XQ(w:Nat)(f:Nat->Bool)(hw:w<=1):A1 w f=[]:=by
 unfold A1
 grind
theorem dH(w:Nat)(f:Nat->Bool)(hw:1<=w):A1 (w+1) f=if f w then A1 w f++[(w:Int)]else A1 w f:=by
 unfold A1;rw[AQ6,ARM];cases h:f w<;>simp[hw,h]
theorem Zg(w:Nat)(f:Nat->Bool):(A1 w f).length<=w:=by
 unfold A1
 grind
theorem CN{A:Type}(g:Nat->A)(k:Nat):(List.range (k+1)).map g=(List.range k).map g++[g k]:=by rw[AQ6,AQG];rfl
theorem Awz{x:Int}(h1:0<=x)(h2:x<4611686018427387904):wI x=x:=BX
theorem jd{l:ASs}{w:Int}(h:aS l w){x:Int}(hx:x∈l):1<=x/\x<=w-1:=by
 obtain⟨i,hi,rfl⟩:=AQZ hx;have:=h i hi;have e:Kh l i=l[i]:=by simp[Kh,hi]
 exact⟨by have:=this.1;omega,by have:=this.2.1;omega⟩
theorem aO{l:ASs}{i:Nat}(hi:i<l.length)(q:Int):(l.take (i+1)).contains q=((l.take i).contains q||q==Kh l i):=by
 rw[AX (z:=0) hi,List.contains_eq_any_beq,List.contains_eq_any_beq];simp[Kh]
theorem rP(a b:Nat):((a:Int)==(b:Int))=(a==b):=by
 grind
theorem dS{d:ASw}{c:ASG}(hd:AB d)(hc:CQ d c)(hb:Yv c):Oe d (c,())=some (M d 1 (C0 c)):=by
 unfold Oe Up;have de:=hd.1;rw[AQP];refine⟨_,?_,rfl⟩;have:=AW (f:=FZ d (c,())) (λv=>(v,(List.range v).map λu=>Hv (W d u+1) (C0 c u))) (t:=M d 1 (C0 c)) d.length (λv hv=>?_) ?_
 ·grind
 ·unfold FZ My;obtain⟨e0,iq,iU⟩:=MF hd hv;have hp:=hc.2 v hv;have e2:(d.getD v _).2.1=(W d v):=e0;simp only[APX,e2];rw[Da hv,AQc,AQe (Bg hv),Awz  (by omega) (by omega),AQe ⟨rfl,by omega,by omega,by omega,by omega⟩];have MP:Uo d v (c,()) ((List.range v).map λu=>Hv (W d u+1) (C0 c u)) 0 (List.replicate ((W d v:Int)+1).toNat false)=some (Hv (W d v+1) (C0 c v)):=by
   have:=AW (f:=FY d v (c,()) ((List.range v).map λu=>Hv (W d u+1) (C0 c u))) (λi=>(i,Hv (W d v+1) λp=>((Dx c v).take i).contains p)) (t:=Hv (W d v+1) (C0 c v)) (Dx c v).length (λi hi=>?_) ?_
   ·have e:List.replicate ((W d v:Int)+1).toNat false=Hv (W d v+1) λp=>((Dx c v).take 0).contains p:=by
      rw[<-lD];exact Vx λp _=>by simp
    rw[e];exact this
   ·unfold FY Mx;have e1:(c.getD v ATo.zero)=Dx c v:=rfl;have e3:(Dx c v).getD i ATl.zero=Kh _ i:=rfl;have hpi:=hp i hi;obtain⟨p,hpp⟩:∃p:Nat,Kh (Dx c v) i=p:=⟨(Kh (Dx c v) i).toNat,by have:=hpi.1;omega⟩;have vu :=by have:=hpi.2.1;omega
    simp only[APX,e1,e3,hpp];rw[AQe (Bg (by rw[hc.1];exact hv)),Da hi,AQc,AQe (Bg (by rw[hc.1];exact hv)),AQe (Bg hi),AQe (by rw[Lk];exact Bg (by omega)),Bj hi (hb.row v),lF];have e5:(Hv _ _)=Hv (W d v+1) λq=>((Dx c v).take _).contains q:=Vx λq _=>by rw[aO hi,hpp,rP]
    rw[e5]
   ·unfold FY Mx;have e1:(c.getD v ATo.zero)=Dx c v:=rfl;simp only[APX,e1];rw[AQe (Bg (by rw[hc.1];exact hv)),Ep,AP6 (AP2 _)];rfl
  rw[MP,APW,AQe (by grind),Bj hv (by omega),CN]
 ·unfold FZ My;rw[Ep];rfl
theorem nF{d:ASw}(hd:AB d)(f:Nat->Nat->Bool):T1 (M d 1 f)=some (Ai d f):=by
 unfold T1 VJ;have de:=hd.1;rw[AQP];refine⟨_,?_,rfl⟩;have:=AW (f:=Hb (M d 1 f)) (λv=>(v,(List.range v).map λu=>A1 (W d u) (f u))) (t:=Ai d f) d.length (λv hv=>?_) ?_
 ·grind
 ·unfold Hb Od;obtain⟨e0,iq,iU⟩:=MF hd hv;rw[X9,Da hv,AQc];have MP:VI (M d 1 f) v ((List.range v).map λu=>A1 (W d u) (f u)) 1 []=some (A1 (W d v) (f v)):=by
   have:=AW (f:=Ha (M d 1 f) v ((List.range v).map λu=>A1 (W d u) (f u))) (λi=>(((i+1:Nat)),A1 (i+1) (f v))) (t:=A1 (W d v) (f v)) (W d v-1) (λi hi=>?_) ?_
   ·have e:A1 (0+1) (f v)=[]:=XQ _ _ (by omega);exact this
   ·unfold Ha Oc;have hlen:=Zg (i+1) (f v);rw[X9,AQe (Bg hv),APX,YG hv,Lk,A0  (n:=i+1+1) (by omega) (by omega),Da (show i+1+1<W d v+1 by omega)];have:Nj (M d 1 f) v ((i+1:Nat)) (A1 (i+1) (f v)) ((List.range v).map λu=>A1 (W d u) (f u))=some (A1 (i+1+1) (f v)):=by
     unfold Nj;rw[X9,AQe (Bg hv),APX,YG hv,Lk,AQe (Bg (by omega)),APX,dL (by omega),dH (i+1) _ (by omega)]
     grind
    rw[this];rfl
   ·unfold Ha Oc;rw[X9,AQe (Bg hv),APX,YG hv,Lk,A0  (n:=W d v+1) (by omega) (by omega),Ep,AQb,show W d v-1+1=W d v by omega]
  rw[MP,APW,AQe (by grind),Bj hv (by omega),CN]
 ·unfold Hb Od;rw[X9,Ep];rfl
theorem ze{d:ASw}(hd:AB d){f:Nat->Nat->Bool}(hf:∀v,f v 0=false){a:ATB ASM}{c:ASw}{e:ASv} :
    MW a (d.length:Int) c (M d 0 f) e 0 (List.replicate d.length [])=some (Ai d f):=by
 have de:=hd.1;have:=AW (f:=CU a d.length c (M d 0 f) e) (λv=>(v,CL (λu=>A1 (W d u) (f u)) [] d.length v)) (t:=Ai d f) d.length (λv hv=>?_) ?_
 ·rw[<-MO (λu=>A1 _ _)];exact this
 ·unfold CU Gt;obtain⟨e0,iq,iU⟩:=MF hd hv;rw[Da hv,AQc,AQe (by rw[X9];exact Bg hv),APX,YG hv,Lk];have MP:MV v d.length c (M d 0 f) a e (Hv (W d v+0) (f v)) ((W d v+0:Nat)) 0 (CL (λu=>A1 (W d u) (f u)) [] d.length v)=some ((CL (λu=>A1 (W d u) (f u)) [] d.length v).set v (A1 (W d v) (f v))):=by
   have:=AW (f:=CS v d.length c (M d 0 f) a e (Hv (W d v+0) (f v)) ((W d v+0:Nat))) (λi=>(i,(CL (λu=>A1 (W d u) (f u)) [] d.length v).set v (A1 i (f v)))) (t:=(CL (λu=>A1 (W d u) (f u)) [] d.length v).set v (A1 (W d v) (f v))) (W d v+0) (λi hi=>?_) ?_
   ·have e1:(CL (λu=>A1 (W d u) (f u)) [] d.length v).set v (A1 0 (f v))=CL (λu=>A1 (W d u) (f u)) [] d.length v:=by
      apply AQ2;intro u;rw[AQl];split
      ·rename_i h;subst h;simp[CL,hv,A1]
      ·rfl
    rw[e1]at this;exact this
   ·unfold CS Gs;have hlen:=Zg i (f v);rw[Da hi,AQc];have:Fl v d.length (Hv (W d v+0) (f v)) ((W d v+0:Nat)) i c (M d 0 f) a e ((CL (λu=>A1 (W d u) (f u)) [] d.length v).set v (A1 i (f v)))=some ((CL (λu=>A1 (W d u) (f u)) [] d.length v).set v (A1 (i+1) (f v))):=by
     unfold Fl Iq;have Xa:((CL (λu=>A1 (W d u) (f u)) [] d.length v).set v (A1 i (f v))).getD v ATo.zero=A1 i (f v):=by
      simp[H8,hv]
     rw[Lk,AQe (Bg hi)];simp only[APX,Xa,AP5,H8,AR3];rw[dL hi];rcases AQk i with h0 |h0
     ·subst h0;rw[hf v,AQb];have e1:A1 0 (f v)=A1 (0+1) (f v):=by rw[XQ 0 _ (by omega),XQ _ _ (by omega)]
      rw[e1]
     ·rw[dH _ _ h0]
      grind
    rw[this,APW,Bj hi (by omega)]
   ·unfold CS Gs;rw[Ep];rfl
  rw[MP,APW,Qw,Bj hv (by omega)]
 ·unfold CU Gt;rw[Ep,AQb];have:CL (λu=>A1 (W d u) (f u)) [] d.length d.length=Ai d f:=by
   exact AQK λv hv=>by grind
  rw[this]
def frs(s:Sg):ASt:=(List.range s.w).map (·==0)
def spot(s:Sg)(k:Nat):ASg:=if k=0 then(0,0,0,())else match s with |.co _=>(2,0,0,())|.va v l _=>(1,(v:Int),((l+k:Nat):Int),())
def spt(s:Sg):ASx:=(List.range s.w).map (spot s)
def Ye(f:ATB Sg):ASt:=f.flatMap frs
def eD(f:ATB Sg):ASx:=f.flatMap spt
theorem U9{A:Type}{F:Sg->ATB A}(hF:∀s,(F s).length=s.w)(f:ATB Sg):(f.flatMap F).length=Bh f:=by
 rw[List.length_flatMap];exact congrArg _ (AQK λs _=>hF s)
theorem q9(s:Sg):(frs s).length=s.w:=by simp[frs]
theorem sF(s:Sg):(spt s).length=s.w:=by simp[spt]
theorem ZK{A:Type}(F:Sg->ATB A){f:ATB Sg}{i:Nat}(hi:i<f.length):(f.take (i+1)).flatMap F=(f.take i).flatMap F++F (f.getD i (.co [])):=by
 rw[AX (z:=.co []) hi];simp
theorem flat_get{A:Type}{F:Sg->ATB A}(hF:∀s,(F s).length=s.w){f:ATB Sg}{i k:Nat}{z:A}(hi:i<f.length)(hk:k<(f.getD i (.co [])).w):(f.flatMap F).getD (Bh (f.take i)+k) z=(F (f.getD i (.co []))).getD k z:=by
 have e:f.flatMap F=(f.take i).flatMap F++(F (f.getD i (.co []))++(f.drop (i+1)).flatMap F):=by
  rw[<-AP4,<-ZK F hi,<-ARD,ARa]
 rw[e];simp;rw[AQi (by rw[U9 hF];omega),U9 hF,show Bh _+k-Bh _=k by omega,AQj (by grind)]
theorem Aiv:∀{f:ATB Sg} {p:Nat},p<Bh f->∃i k,i<f.length/\k<(f.getD i (.co [])).w/\p=Bh (f.take i)+k
 |[],p,h=>by simp[Bh]at h
 |s::f,p,h=>by
  have e:Bh (s::f)=s.w+Bh f:=by simp[Bh]
  by_cases hp:p<s.w
  ·exact⟨0,p,by simp,by grind,by simp[Bh]⟩
  ·obtain⟨i,k,h1,h2,h3⟩:=Aiv (f:=f) (p:=p-s.w) (by omega);refine⟨i+1,k,by grind,by grind,?_⟩;have:Bh ((s::f).take (i+1))=s.w+Bh (f.take i):=by simp[Bh]
   omega
theorem ZW{f:ATB Sg}{i:Nat}(hi:i<f.length):Bh (f.take i)+(f.getD i (.co [])).w<=Bh f:=by
 rw[<-Fu hi];exact GJ f _
theorem I2{A:Type}{g:Nat->A}{n k:Nat}{z:A}(h:k<n):((List.range n).map g).getD k z=g k:=by grind
theorem TL{f:ATB Sg}{i k:Nat}(hi:i<f.length)(hk:k<(f.getD i (.co [])).w) :
    (DV f).getD (Bh (f.take i)+k) (.co false)=(f.getD i (.co [])).bits.getD k (.co false)/\(Ye f).getD (Bh (f.take i)+k) false=(k==0)/\(eD f).getD (Bh (f.take i)+k) Ad.zero=spot (f.getD i (.co [])) k:=by
 refine⟨flat_get Hh hi hk,?_,?_⟩
 ·unfold Ye;rw[flat_get q9 hi hk];exact I2 hk
 ·unfold eD;rw[flat_get sF hi hk];exact I2 hk
theorem wN{f:ATB Sg}(h1:Z8 f)(hf:∀s∈f,XA s)(hw:Bh f<=4096):Km (fV f)=some (bV (DV f),Ye f):=by
 unfold Km;have hlen:=C6 h1;rw[Adc h1 hf hw,APW];have:VM (fV f) (bV (DV f)) 0 []=some (Ye f):=by
  have:=AW (f:=Hf (fV f) (bV (DV f))) (λi=>(i,Ye (f.take i))) (t:=Ye f) f.length (λi hi=>?_) ?_
  ·exact this
  ·unfold Hf Oi;rw[Cd,Da hi,AQc];have he:=ZW hi;have Ge:VL (fV f) i (bV (DV f)) 0 (Ye (f.take i))=some (Ye (f.take (i+1))):=by
    have:=AW (f:=He (fV f) i (bV (DV f))) (λk=>(k,Ye (f.take i)++(List.range k).map (·==0))) (t:=Ye (f.take (i+1))) (f.getD i (.co [])).w (λk hk=>?_) ?_
    ·rw[show Ye _=Ye (f.take i)++(List.range 0).map _ by simp];exact this
    ·unfold He Oh;simp only[APX,ko hi,aM];have hl:(Ye (f.take i)++(List.range k).map (·==0)).length=Bh (f.take i)+k:=by
      rw[AP0,show(Ye _).length=Bh _ from U9 q9 _];simp
     rw[Cd,AQe (Bg hi),Da hk,AQc,AQe (by grind),Bj hk (by omega),CN,AP4,show((k:Int)==0)=(k==0)from rP k 0]
    ·unfold He Oh;simp only[APX,ko hi,aM];rw[Cd,AQe (Bg hi),Ep];unfold Ye;rw[ZK frs hi];rfl
   rw[Ge,APW,Bj hi (by omega)]
  ·unfold Hf Oi;rw[Cd,Ep,AQb,AP6 (AP2 _)]
 rw[this];rfl
theorem rO{f:ATB Sg}(h1:Z8 f)(hf:∀s∈f,XA s)(hw:Bh f<=4096):KC (fV f)=some (eD f):=by
 unfold KC;have hlen:=C6 h1;have:Px (fV f) ((fV f).length:Int) 0 []=some (eD f):=by
  unfold Px;rw[Cd];have:=AW (f:=FE (fV f) (f.length:Int)) (λi=>((i:Int),eD (f.take i))) (t:=eD f) f.length (λi hi=>?_) ?_
  ·exact this
  ·unfold FE L5;simp only[APX,ko hi];have hwt:=GJ f i;have he:=ZW hi;have h1i:=h1 _ (AL (z:=.co []) hi);have hfi:=hf _ (AL (z:=.co []) hi);have fp:(eD (f.take i)).length=Bh (f.take i):=U9 sF _;rw[Cd,Da hi,AQc,AQe (Bg hi),AQe (by rw[fp];simp;omega)];have Ge:Pv (fV f) (f.length:Int) (i:Int) (JU (f.getD i (.co []))) 1 (eD (f.take i)++[(0,0,0,())])=some (eD (f.take (i+1))):=by
    unfold Pv;have:=AW (f:=FD (fV f) (f.length:Int) (i:Int) (JU (f.getD i (.co [])))) (λk=>(((k+1:Nat):Int),eD (f.take i)++(List.range (k+1)).map (spot (f.getD i (.co []))))) (t:=eD (f.take (i+1))) ((f.getD i (.co [])).w-1) (λk hk=>?_) ?_
    ·exact this
    ·unfold FD L4;simp only[aM];have hl:(eD (f.take i)++(List.range (k+1)).map (spot (f.getD i (.co [])))).length=Bh (f.take i)+(k+1):=by
      rw[AP0,fp];simp
     rw[Da (show k+1<(f.getD i (.co [])).w by omega),AQc];have:Lg ((k+1:Nat):Int) (fV f) (f.length:Int) (i:Int) (eD (f.take i)++(List.range (k+1)).map (spot (f.getD i (.co [])))) (JU (f.getD i (.co [])))=some (eD (f.take i)++(List.range (k+1+1)).map (spot (f.getD i (.co [])))):=by
      unfold Lg;rw[CN _ (k+1),<-AP4];cases hs:f.getD i (.co [])with
      |co b =>
       rw[hs]at hl;rw[show((JU (.co b)).1==-1)=true from rfl,AQc,AQe (by rw[hl];simp;omega)];rfl
      |va v l n =>
       rw[hs]at hl hk hfi he;simp only[Sg.w,XA]at hk hfi he;rw[show((JU (.va v l n)).1==-1)=false from beq_eq_false_iff_ne.2 (show(v:Int)≠-1 by omega),AQb,AQe (by rw[hl];simp;omega)];rw[show wI ((JU (.va v l n)).2.1+((k+1:Nat):Int))=((l+(k+1):Nat):Int)from A0 (by show(l:Int)+((k+1:Nat):Int)=_;omega) (by omega)];rfl
     rw[this,APW,A0 (x:=((k+1:Nat):Int)+1) (n:=k+1+1)]
    ·unfold FD L4;simp only[aM];rw[show(f.getD i (.co [])).w-1+1=(f.getD i (.co [])).w by omega,Ep,AQb];unfold eD;rw[ZK spt hi];rfl
   rw[Ge,APW,Bj hi (by omega)]
  ·unfold FE L5;simp only;rw[Ep,AQb,AP6 (AP2 _)]
 rw[this];rfl
def fst(B:ATB Bt)(p:Nat):Bool:=(Ye (Ay B)).getD p false
def QO(B:ATB Bt)(p:Nat):Bt:=B.getD p (.co false)
def AcW(h:Nat->Nat->Bool):Bt->Bool
 |.co _=>false
 |.va v a=>h v a
def kN:Bt->Bool
 |.co _=>false
 |.va _ _=>true
def T3(B:ATB Bt)(h:Nat->Nat->Bool)(p:Nat):Bool:=fst B p||AcW h (QO B p)
theorem r8{d:ASw}{B:ATB Bt}(hd:AB d)(h:Bo d B):Z8 (Ay B)/\(∀s∈Ay B,XA s)/\Bh (Ay B)=B.length :=
 ⟨Dj B,Vs (λb hb=>qy (WX hd (h.2.2 b hb))) h.2.1,Cw B⟩
theorem Aih{d:ASw}{B:ATB Bt}(hd:AB d)(h:Bo d B):Km (fN B)=some (bV B,Ye (Ay B)):=by
 obtain⟨h1,h2,h3⟩:=r8 hd h;have:=wN h1 h2 (by rw[h3];exact h.2.1);rw[Ic]at this;exact this
theorem Ai7{d:ASw}{B:ATB Bt}(hd:AB d)(h:Bo d B):KC (fN B)=some (eD (Ay B)):=by
 obtain⟨h1,h2,h3⟩:=r8 hd h;exact rO h1 h2 (by rw[h3];exact h.2.1)
theorem AaW(B:ATB Bt):(Ye (Ay B)).length=B.length:=by rw[show(Ye _).length=Bh _ from U9 q9 _,Cw]
theorem jg(B:ATB Bt):(eD (Ay B)).length=B.length:=by rw[show(eD _).length=Bh _ from U9 sF _,Cw]
theorem jD{d:ASw}{B:ATB Bt}(h:Bo d B){p:Nat}(hp:p<B.length):∃i k,i<(Ay B).length/\k<((Ay B).getD i (.co [])).w/\p=Bh ((Ay B).take i)+k/\V0 d ((Ay B).getD i (.co [])) /\
    QO B p=((Ay B).getD i (.co [])).bits.getD k (.co false)/\fst B p=(k==0)/\(eD (Ay B)).getD p Ad.zero=spot ((Ay B).getD i (.co [])) k:=by
 obtain⟨i,k,h1,h2,rfl⟩:=Aiv   (by rw[Cw];exact hp);obtain⟨e1,e2,e3⟩:=TL h1 h2;rw[Ic]at e1;exact⟨i,k,h1,h2,rfl,(Zk h (AL h1)).1,e1,e2,e3⟩
theorem Z1{v l n k:Nat}(h:k<n):(Sg.va v l n).bits.getD k (.co false)=.va v (l+k):=by simp[Sg.bits,h]
theorem cG{b:ASt}{k:Nat}(h:k<b.length):(Sg.co b).bits.getD k (.co false)=.co (b.getD k false):=by simp[Sg.bits,h]
theorem ZZ{d:ASw}{B:ATB Bt}(h:Bo d B){p:Nat}(hp:p<B.length):(fst B p=true/\(eD (Ay B)).getD p Ad.zero=(0,0,0,())) \/
    (fst B p=false/\((∃b,QO B p=.co b)/\(eD (Ay B)).getD p Ad.zero=(2,0,0,())\/∃v a,QO B p=.va v a/\v<d.length/\1<=a/\a<W d v/\(eD (Ay B)).getD p Ad.zero=(1,(v:Int),(a:Int),()))):=by
 obtain⟨i,k,h1,h2,h3,h4,h5,h6,h7⟩:=jD h hp;rw[h5,h6,h7];rcases AQk k with h0 |h0
 ·subst h0;exact .inl ⟨rfl,rfl⟩
 ·refine .inr ⟨by grind,?_⟩;have hk:¬k=0:=by omega
  cases hs:(Ay B).getD i _ with
  |co b =>
   rw[hs]at h2;exact .inl ⟨⟨_,cG h2⟩,by simp[spot,hk]⟩
  |va v l n =>
   rw[hs]at h2 h4;simp only[Sg.w,V0]at h2 h4;exact .inr ⟨v,l+k,Z1 h2,h4.1,by omega,by unfold W;omega,by simp[spot,hk]⟩
theorem Afi{d:ASw}{B:ATB Bt}(h:Bo d B){p:Nat}(hp:p<B.length):YE d (QO B p):=h.2.2 _ (AL hp)
theorem SI{d:ASw}(hd:AB d){B:ATB Bt}(h:Bo d B){f:Nat->Nat->Bool}{p:Nat}(hp:p<B.length):Eu (bV B,Ye (Ay B),()) (M d 1 f) (p:Int)=some (T3 B f p):=by
 unfold Eu;have e1:(Ye _).getD p (Ty.zero .bool)=fst B p:=rfl;have e2:(bV B).getD p _=WY (QO B p):=jF hp;simp only[APX,e1,e2];rw[AaW,Dr,AQe (Bg hp)];unfold T3;cases fst B p with
 |true=>rfl
 |false =>
  rw[AQe (Bg hp)];have hb:=Afi h hp;cases hbb:QO B p with
  |co b=>rfl
  |va v a =>
   rw[hbb]at hb;obtain⟨h1,h2⟩:=hb;obtain⟨hw,_,_⟩:=MF hd h1;rw[show(WY _).1=v from rfl,show(WY _).2.1=a from rfl,show decide ((v:Int)>=0)=true from MN,AQe (Bg hp),X9,AQe (Bg h1),AQe (Bg hp),APX,YG h1,Lk,AQe (Bg (by omega)),dL (by omega)];rfl
theorem wR{d:ASw}(hd:AB d){B:ATB Bt}(h:Bo d B){f:Nat->Nat->Bool}{p:Nat}(hp:p<B.length):Ka (bV B,Ye (Ay B),()) (M d 1 f) (p:Int)=some (!T3 B f p&&kN (QO B p)):=by
 unfold Ka;have e2:(bV B).getD p _=WY (QO B p):=jF hp;rw[SI hd h hp,APW];simp only[APX,e2];cases T3 B f p with
 |true=>rfl
 |false =>
  rw[Dr,ARg,AQe (Bg hp)];cases QO B p with
  |co b=>rfl
  |va v a =>
   rfl
section
variable {kt vt:Ty}
theorem o5(hr:∀x:kt.V,Bf kt x x=true)(k:kt.V)(v:vt.V):∀es:ATB (kt.V×vt.V),Yz kt vt (Cf kt vt es k v) k=Yz kt vt es k/\Uf kt vt (Cf kt vt es k v) k=true
 |[]=>by simp[Cf,Yz,Uf,Pf,hr]
 |x::es=>by
  obtain⟨h1,h2⟩:=o5 hr k v es;unfold Cf;cases hx:Bf kt k x.1 with
  |true=>simp[Yz,Uf,Pf,hr,hx]
  |false =>
   unfold Uf at h2⊢;simp only[Yz,Pf,hx,AQb];exact⟨by omega,h2⟩
theorem kn(hr:∀x:kt.V,Bf kt x x=true)(k:kt.V)(v:vt.V)(es:ATB (kt.V×vt.V)):W2 kt vt (Cf kt vt es k v) k (Yo kt vt es k)=true:=by
 obtain⟨h1,h2⟩:=o5 hr k v es;unfold W2 Yo;rw[h1,h2];simp
theorem XN(he:∀x y:kt.V,Bf kt x y=true↔x=y)(k k':kt.V)(v:vt.V):∀es:ATB (kt.V×vt.V),Pf kt vt (Cf kt vt es k v) k'=bif Bf kt k' k then some v else Pf kt vt es k'
 |[]=>by simp[Cf,Pf]
 |x::es=>by
  unfold Cf;cases hx:Bf kt k x.1 with
  |true =>
   have:=(he _ _).1 hx;simp only[AQc,Pf]
   grind
  |false =>
   simp only[AQb,Pf];rw[XN he k k' v es]
   grind
theorem fA(he:∀x y:kt.V,Bf kt x y=true↔x=y)(k k':kt.V)(v:vt.V)(es:ATB (kt.V×vt.V)):Bv kt vt (Cf kt vt es k v) k'=bif Bf kt k' k then v else Bv kt vt es k':=by
 unfold Bv;rw[XN he];cases Bf kt k' k<;>rfl
end
theorem iw(x y:ASe):Bf Aa x y=true↔x=y:=by
 obtain⟨a,b,_⟩:=x;obtain⟨a',b',_⟩:=y;simp[Bf]
theorem ZQ(x:ASe):Bf Aa x x=true:=(iw x x).2 rfl
def aJ(d:ASw):ATB ASZ:=(List.range d.length).flatMap λv=>(List.range (W d v)).map λp=>(v,p)
def free(d:ASw)(f:Nat->Nat->Bool):Nat:=(aJ d).countP λx=>!f x.1 x.2
theorem Adt{d:ASw}{v p:Nat}(hv:v<d.length)(hp:p<W d v):(v,p)∈aJ d :=
 List.mem_flatMap.2 ⟨v,List.mem_range.2 hv,List.mem_map.2 ⟨p,List.mem_range.2 hp,rfl⟩⟩
theorem XF{A:Type}{F:Nat->ATB A}{m:Nat}:∀{n:Nat},(∀v,v<n->(F v).length<=m)->((List.range n).flatMap F).length<=m*n
 |0,_=>by simp
 |n+1,h=>by
  rw[AQ6,ARD,AP0,Nat.mul_succ];have h1:=XF (n:=n) λv hv=>h v (by omega)
  grind
theorem AlU{d:ASw}(hd:AB d)(f:Nat->Nat->Bool):free d f<=245760:=by
 have h1:(aJ d).length<=4096*d.length:=XF λv hv=>by simp;exact(MF hd hv).2.2
 have h2:=List.countP_le_length (p:=λx =>!f x.1 x.2) (l:=aJ d);have:=hd.1;unfold free;omega
theorem ZC{A:Type}{q q':A->Bool}:∀{l:ATB A} {x:A},(∀y,q' y=true->q y=true)->x∈l->q x=true->q' x=false->l.countP q'+1<=l.countP q
 |[],_,_,h,_,_=>by grind
 |y::l,x,hq,h,h1,h2=>by
  have QP:l.countP q'<=l.countP q:=ARQ λy _=>hq y;rw[List.countP_cons,List.countP_cons];rcases List.mem_cons.1 h with e |h
  ·grind
  ·have:=ZC hq h h1 h2
   grind
theorem fb{d:ASw}{f:Nat->Nat->Bool}{v p:Nat}(hv:v<d.length)(hp:p<W d v)(h:f v p=false):free d (mark f v p)+1<=free d f :=
 ZC (λy hy=>by simp[mark]at hy⊢;exact hy.1) (Adt hv hp) (by grind) (by simp[mark])
abbrev SC:Type:=(Nat->Nat->Bool)×ASv
open Classical in
noncomputable def MH(d:ASw)(s:SC)(v p:Nat):SC:=if 0<p/\p<W d v/\s.1 v p=false then(mark s.1 v p,s.2++[((v:Int),(p:Int),())])else s
theorem gv{d:ASw}(hd:AB d){v p:Nat}(hv:v<d.length){r:Nat->Bool}{t:ASH}{g:ASv}{a:Int}(ht:t.length=d.length)(hr:t.getD v ATs.zero=Hv (W d v) r)(hg:g.length<=1000000) :
    BN a (v:Int) (p:Int) d t g=some (if 0<p/\p<W d v/\r p=false then(d,t.set v ((Hv (W d v) r).set p true),g++[((v:Int),(p:Int),())])else(d,t,g)):=by
 obtain⟨e0,iq,iU⟩:=MF hd hv;have e2:(d.getD v Ab.zero).2.1=(W d v:Int):=e0;have key:Hn a (v:Int) (p:Int) d t g=some (decide (0<p/\p<W d v/\r p=false)):=by
  unfold Hn;simp only[APX,e2,hr];rcases AQk p with h0 |h0
  ·grind
  ·rw[show decide ((p:Int)>0)=true from MN,AQe (Bg hv)];by_cases hp:p<W d v
   ·rw[AQe (by grind),AQe (by rw[Lk];exact Bg hp),dL hp];cases r p<;>simp[h0,hp]
   ·grind
 unfold BN;rw[key,APW];by_cases h:0<p/\p<W d v/\r p=false
 ·rw[AP1 h,AQc,AQe h];simp only[APX,hr];rw[AQe (by grind),AQe (by rw[Lk];omega),AQe (by grind)]
 grind
theorem Vb{d:ASw}(hd:AB d){v p:Nat}(hv:v<d.length)(s:SC){a:Int}(hg:s.2.length<=1000000):BN a (v:Int) (p:Int) d (M d 0 s.1) s.2=some (d,M d 0 (MH d s v p).1,(MH d s v p).2):=by
 rw[gv hd hv (X9 _ _ _) (YG hv) hg];unfold MH;by_cases h:0<p/\p<W d v/\s.1 v p=false
 ·rw[AQe h,AQe h];have:=qe (x:=0) (f:=s.1) (p:=p) (z:=[]) hv;rw[YG hv]at this;rw[<-this];rfl
 ·grind
structure CI (d:ASw) (f0:Nat->Nat->Bool) (s:SC):Prop where
 le:∀v p,f0 v p=true->s.1 v p=true
 Yt:∀v p,s.1 v p=true->v<d.length/\1<=p/\p<W d v
 BA:∀x∈s.2,∃v p:Nat,x=((v:Int),(p:Int),())/\s.1 v p=true
 len:s.2.length+free d s.1<=500000
def tN(s:SC):Prop:=∀v p,s.1 v p=true->((v:Int),(p:Int),())∈s.2
def QL(f g:Nat->Nat->Bool):Prop:=∀v p,f v p=true->g v p=true
def Hit(d:ASw)(f:Nat->Nat->Bool)(v p:Nat):Prop:=0<p->p<W d v->f v p=true
theorem Hit.mono{d:ASw}{f g:Nat->Nat->Bool}(h:QL f g){v p:Nat}(hh:Hit d f v p):Hit d g v p:=λh1 h2=>h v p (hh h1 h2)
theorem Fq{f:Nat->Nat->Bool}{v p u q:Nat}:mark f v p u q=true↔f u q=true\/(u=v/\q=p):=by simp[mark]
theorem bk{d:ASw}(s:SC)(v p:Nat):QL s.1 (MH d s v p).1:=λu q h=>by
 unfold MH;split
 ·exact Fq.2 (.inl h)
 ·omega
theorem cM{d:ASw}(s:SC)(v p:Nat):Hit d (MH d s v p).1 v p:=λh1 h2=>by
 unfold MH;split
 ·exact Fq.2 (.inr ⟨rfl,rfl⟩)
 grind
theorem cN{d:ASw}{s:SC}{v p:Nat}{h:Nat->Nat->Bool}(hu:QL s.1 h)(hh:Hit d h v p):QL (MH d s v p).1 h:=λu q hq=>by
 unfold MH at hq;split at hq
 ·rename_i hc;rcases Fq.1 hq with h1 |⟨rfl,rfl⟩
  ·exact hu u q h1
  ·exact hh hc.1 hc.2.1
 ·exact hu u q hq
theorem CI.cut{d:ASw}{f0:Nat->Nat->Bool}{s:SC}(h:CI d f0 s){v p:Nat}(hv:v<d.length):CI d f0 (MH d s v p):=by
 refine⟨λu q hq=>bk s v p u q (h.le u q hq),λu q hq=>?_,λx hx=>?_,?_⟩
 ·unfold MH at hq;split at hq
  ·rename_i hc;rcases Fq.1 hq with h1 |⟨rfl,rfl⟩
   ·exact h.Yt u q h1
   ·omega
  ·exact h.Yt u q hq
 ·unfold MH at hx⊢;split at hx
  ·rename_i hc;rw[AQe hc];rcases List.mem_append.1 hx with hx |hx
   ·obtain⟨u,q,e,h1⟩:=h.BA x hx;exact⟨u,q,e,Fq.2 (.inl h1)⟩
   ·rw[AQn]at hx;exact⟨v,p,hx,Fq.2 (.inr ⟨rfl,rfl⟩)⟩
  ·rename_i hc;rw[AQf hc];exact h.BA x hx
 ·unfold MH;split
  ·rename_i hc;have:=fb hv hc.2.1 hc.2.2;have:=h.len
   grind
  ·exact h.len
theorem tN.cut{d:ASw}{s:SC}(h:tN s){v p:Nat}:tN (MH d s v p):=λu q hq=>by
 unfold MH at hq⊢;split
 ·rename_i hc;rw[AQe hc]at hq;rcases Fq.1 hq with h1 |⟨rfl,rfl⟩
  ·exact AQu _ (h u q h1)
  grind
 ·rename_i hc;rw[AQf hc]at hq;exact h u q hq
theorem sj{l:ASs}{w:Int}(h:aS l w):∀{j i:Nat},i<j->j<l.length->Kh l i<Kh l j
 |j+1,i,vg,hj=>by
  have h1:=(h _ hj).2.2 (by omega);simp only[AQz]at h1;rcases AP7 i j with h2 |h2
  ·have:=sj h h2 (by omega);omega
  grind
theorem Aiu{l:ASs}{w:Int}(h:aS l w):∀{i:Nat},i<l.length->((i:Int)+1)<=Kh l i
 |0,hi=>by have:=(h 0 hi).1;omega
 |i+1,hi=>by
  have h1:=Aiu h (i:=i) (by omega);have h2:=(h _ hi).2.2 (by omega)
  grind
theorem Wm{l:ASs}{w:Int}(h:aS l w)(hw:1<=w):(l.length:Int)<=w:=by
 rcases AQk l.length with h0 |h0
 ·omega
 ·have h1:=Aiu h (i:=l.length-1) (by omega);have h2:=(h (l.length-1) (by omega)).2.1;omega
theorem Aje{l:ASs}{w:Int}(h:aS l w){i:Nat}(hi:i<l.length):(l.take i).contains (Kh l i)=false:=by
 rw[Bool.eq_false_iff];intro hc;have hm:Kh l i∈l.take i:=by grind
 obtain⟨j,hj,e⟩:=AQZ hm;rw[AQh]at hj;rw[List.getElem_take]at e;have h1:=sj h (i:=j)  (by omega) hi;have h2:Kh l j=l[j]'(by omega):=by simp[Kh,show j<l.length by omega]
 omega
def g0(c:ASG)(n:Nat):ASv:=(List.range n).flatMap λv=>(Dx c v).map λp=>((v:Int),p,())
theorem rZ{d:ASw}{c:ASG}(hd:AB d)(hc:CQ d c)(hb:Yv c):MZ d (c,())=some (0,d,M d 0 (C0 c),[],g0 c d.length):=by
 have de:=hd.1;have hgl:∀n,n<=d.length->(g0 c n).length<=4096*n:=λn hn=>XF λv hv=>by
  obtain⟨e0,iq,iU⟩:=MF hd (show v<d.length by omega);have:=Wm (hc.2 v (by omega)) (by omega);rw[AP8];omega
 unfold MZ;rw[AQe ⟨rfl,by omega,by omega,by omega,by omega⟩,APX];have:Q4 d (c,()) d.length 0 d (List.replicate d.length []) []=some (d,M d 0 (C0 c),g0 c d.length):=by
  have:=AW (f:=Ee d (c,()) d.length) (λv=>(v,d,CL (λu=>Hv (W d u+0) (C0 c u)) [] d.length v,g0 c v)) (t:=(d,M d 0 (C0 c),g0 c d.length)) d.length (λv hv=>?_) ?_
  ·rw[<-MO (λu=>Hv _ _)];exact this
  ·unfold Ee Jo;obtain⟨e0,iq,iU⟩:=MF hd hv;have hp:=hc.2 v hv;have e1:(c.getD v ATo.zero)=Dx c v:=rfl;have e2:(d.getD v _).2.1=(W d v):=e0;simp only[APX,e1,e2];rw[Da hv,AQc,AQe (Bg hv),AQe (show Ty.row _=true/\0<=(W d v:Int)/\(W d v)<=(W d v:Int)/\((1:Nat))*(W d v:Int)<=281474976710656/\(W d v:Int)<=9223372036854775807 from⟨rfl,by omega,by omega,by omega,by omega⟩),H8,AQe (Bg hv),AQe (Bg (by rw[hc.1];exact hv))];have hrl :=by have:=Wm hp (by omega);omega
   have Ge:Q3 v d d.length (c,()) (Dx c v) ((Dx c v).length) 0 d ((CL (λu=>Hv (W d u+0) (C0 c u)) [] d.length v).set v (List.replicate (W d v) false)) (g0 c v)=some (d,CL (λu=>Hv (W d u+0) (C0 c u)) [] d.length (v+1),g0 c (v+1)):=by
    have:=AW (f:=Ed v d d.length (c,()) (Dx c v) ((Dx c v).length)) (λi=>(i,d,(CL (λu=>Hv (W d u+0) (C0 c u)) [] d.length v).set v (Hv (W d v) λp=>((Dx c v).take i).contains p),g0 c v++((Dx c v).take i).map λp=>((v:Int),p,()))) (t:=(d,CL (λu=>Hv (W d u+0) (C0 c u)) [] d.length (v+1),g0 c (v+1))) (Dx c v).length (λi hi=>?_) ?_
    ·have e:List.replicate (W d v) false=Hv (W d v) λp=>((Dx c v).take 0).contains p:=by
       rw[<-lD];exact Vx λp _=>by simp
     rw[e,show g0 c v=g0 c v++((Dx c v).take 0).map _ by simp];exact this
    ·unfold Ed Jn;have hpi:=hp i hi;obtain⟨p,hpp⟩:∃p:Nat,Kh (Dx c v) i=p:=⟨(Kh (Dx c v) i).toNat,by have:=hpi.1;omega⟩;have vu:p<W d v:=by have:=hpi.2.1;omega
     have e3:(Dx c v).getD i ATl.zero=p:=hpp;have VT:=Aje hp hi;rw[hpp]at VT;simp only[APX,e3];rw[Da hi,AQe (Bg hi),gv hd hv (r:=λp=>((Dx c v).take i).contains p) (by rw[AP5,H8]) (by simp[H8,hv]) (by grind),AQe ⟨by have:=hpi.1;omega,vu,VT⟩,Bj hi (by omega),AR3,lF];have e5:(Hv _ _)=Hv (W d v) λq=>((Dx c v).take _).contains q:=Vx λq _=>by rw[aO hi,hpp,rP]
     rw[e5,AX  hi,AQG,<-AP4,show(Dx c v).getD i 0=p from hpp];rfl
    ·unfold Ed Jn;rw[Ep,AQb,AP6 (AP2 _)];have e6:(CL (λu=>Hv (W d u+0) (C0 c u)) [] _ v).set v (Hv (W d v) λp=>(Dx c v).contains p)=CL (λu=>Hv _ _) [] d.length _:=Qw _ _;have e7:g0 c v++(Dx c v).map (λp=>((v:Int),p,()))=g0 c (v+1):=by
      unfold g0;rw[AQ6];simp
     rw[e6,e7]
   rw[Ge,APW,Bj hv (by omega)]
  ·unfold Ee Jo;rw[Ep,AQb];have:CL (λu=>Hv (W d u+0) (C0 c u)) [] d.length d.length=M d 0 (C0 c):=by
    exact AQK λv hv=>by grind
   rw[this]
 rw[this];rfl
theorem xO{d:ASw}{c:ASG}(hd:AB d)(hc:CQ d c){v p:Nat}(h:C0 c v p=true):v<d.length/\1<=p/\p<W d v:=by
 have hm :=by simpa [C0]using h
 have hv:v<d.length:=by
  rw[<-hc.1];rcases AP7 v c.length with h1 |h1
  ·grind
  ·unfold Dx at hm
   grind
 obtain⟨e0,iq,iU⟩:=MF hd hv;have:=jd (hc.2 v hv) hm;exact⟨hv,by omega,by omega⟩
theorem Aja{d:ASw}{c:ASG}(hd:AB d)(hc:CQ d c):CI d (C0 c) (C0 c,g0 c d.length)/\tN (C0 c,g0 c d.length):=by
 refine⟨⟨λ_ _ h=>h,λv p h=>xO hd hc h,λx hx=>?_,?_⟩,λv p h=>?_⟩
 ·obtain⟨v,hv,hx⟩:=List.mem_flatMap.1 hx;obtain⟨q,hq,rfl⟩:=List.mem_map.1 hx;have hq1:=jd (hc.2 v (List.mem_range.1 hv)) hq;refine⟨v,q.toNat,by grind,?_⟩;simp only[C0]
  grind
 ·have h1:=AlU hd (C0 c);have h2:(g0 c _).length<=4096*d.length:=XF λv hv=>by
   obtain⟨e0,iq,iU⟩:=MF hd hv;have:=Wm (hc.2 v hv) (by omega);rw[AP8];omega
  have:=hd.1;simp only;omega
 ·have:=xO hd hc h;exact List.mem_flatMap.2 ⟨v,List.mem_range.2 this.1,List.mem_map.2 ⟨p,by simpa [C0]using h,rfl⟩⟩
def oQ(x y:Nat):Nat->Nat
 |0=>0
 |1=>x
 |_=>x+y
def oV{A:Type}(x y:ATB A):Nat->ATB A
 |0=>[]
 |1=>x
 |_=>x++y
theorem qM{a b:ASz}(h0:1<=a.length)(ha:a.length<=100000000)(hb:b.length<=100000000):IJ [a,b]=some (a++b):=by
 unfold IJ;have iP:([a,b]).length=2:=rfl;have h1:M9 [a,b] (([a,b]).length) 0 0=some (((a.length+b.length:Nat):Int)):=by
  have:=AW (f:=CY [a,b] (([a,b]).length)) (λk=>((oQ a.length b.length k),k)) (t:=(((a.length+b.length)))) 2 (λk hk=>?_) ?_
  ·exact this
  ·unfold CY Gz IK;simp only[APX];rw[iP,Da hk,AQe (Bg hk)]
   match k,hk with
   |0,_ =>
    simp;rw[show wI _=a.length from A0 (by simp[oQ]) (by omega),Kg];rfl
   |1,_ =>
    simp;rw[show wI _=((a.length+b.length))from A0 (by simp[oQ]) (by omega),Kg];rfl
  ·unfold CY Gz;rfl
 rw[h1,APW,Kg,show wI _=((a.length+b.length:Nat))from A0,show decide _=true from MN,AQe ⟨by omega,by omega⟩,AR5];have h2:Na [a,b] (([a,b]).length) 0 []=some (a++b):=by
  have:=AW (f:=CZ [a,b] (([a,b]).length)) (λk=>(k,oV a b k)) (t:=a++b) 2 (λk hk=>?_) ?_
  ·exact this
  ·unfold CZ GA;rw[iP,Da hk,AQe (Bg hk)]
   match k,hk with
   |0,_ =>
    rw[AQe (by simp[oV];omega)];rfl
   |1,_ =>
    rw[AQe (by simp[oV];omega)];rfl
  ·unfold CZ GA;rfl
 rw[h2];rfl
theorem qL{a b:ASs}(h0:1<=a.length)(ha:a.length<=100000000)(hb:b.length<=100000000):Gj [a,b]=some (a++b):=by
 unfold Gj;have iP:([a,b]).length=2:=rfl;have h1:KO [a,b] (([a,b]).length) 0 0=some (((a.length+b.length:Nat):Int)):=by
  have:=AW (f:=Cm [a,b] (([a,b]).length)) (λk=>((oQ a.length b.length k),k)) (t:=(((a.length+b.length)))) 2 (λk hk=>?_) ?_
  ·exact this
  ·unfold Cm Fe GC;simp only[APX];rw[iP,Da hk,AQe (Bg hk)]
   match k,hk with
   |0,_ =>
    simp;rw[show wI _=a.length from A0 (by simp[oQ]) (by omega),Kg];rfl
   |1,_ =>
    simp;rw[show wI _=((a.length+b.length))from A0 (by simp[oQ]) (by omega),Kg];rfl
  ·unfold Cm Fe;rfl
 rw[h1,APW,Kg,show wI _=((a.length+b.length:Nat))from A0,show decide _=true from MN,AQe ⟨by omega,by omega⟩,AR5];have h2:KP [a,b] (([a,b]).length) 0 []=some (a++b):=by
  have:=AW (f:=Cp [a,b] (([a,b]).length)) (λk=>(k,oV a b k)) (t:=a++b) 2 (λk hk=>?_) ?_
  ·exact this
  ·unfold Cp Ff;rw[iP,Da hk,AQe (Bg hk)]
   match k,hk with
   |0,_ =>
    rw[AQe (by simp[oV];omega)];rfl
   |1,_ =>
    rw[AQe (by simp[oV];omega)];rfl
  ·unfold Cp Ff;rfl
 rw[h2];rfl
abbrev NX:Type:=List ASM
def nk(v p:Nat):ASe:=((v:Int),(p:Int),())
def nx(o:NX)(v p:Nat):ASv:=Bv Aa ATp o (nk v p)
def lnk(o:NX)(k x:ASe):NX:=Cf Aa ATp (Cf Aa ATp o k (Bv Aa ATp o k)) k (Bv Aa ATp o k++[x])
theorem Zd{v p u q:Nat}:nk v p=nk u q↔v=u/\p=q:=by
 constructor
 ·intro h;injection h with h1 h2;injection h2 with h2 _;omega
 ·grind
theorem Aie(o:NX)(k x:ASe)(v p:Nat):nx (lnk o k x) v p=bif Bf Aa (nk v p) k then Bv Aa ATp o k++[x]else nx o v p:=by
 unfold nx lnk;rw[fA iw,fA iw]
 grind
theorem XO{o:NX}{k x:ASe}{v p:Nat}{y:ASe}:y∈nx (lnk o k x) v p↔y∈nx o v p\/(nk v p=k/\y=x):=by
 rw[Aie];cases hk:Bf _ _ k with
 |true =>
  have e:=(iw _ _).1 hk;rw[AQc,ARl,AQn];simp only[e,true_and];unfold nx;rw[e]
 |false =>
  have e:nk v p≠k:=λe=>by rw[(iw _ _).2 e]at hk;cases hk
  simp[e]
theorem zo{o:NX}{k x:ASe}{v p N:Nat}(h:∀v p,(nx o v p).length<=N):(nx (lnk o k x) v p).length<=N+1:=by
 rw[Aie];cases hk:Bf _ _ k with
 |true =>
  have e:=(iw _ _).1 hk;have:=h v p;unfold nx at this
  grind
 |false=>grind
theorem AhT{o:NX}{a:Int}{b c:ASx}{g:Int}{i:ASw}{dd:ATB AS7}{j:ASH}{l:ASv}{v p u q:Nat}(h:(nx o v p).length<=1000000) :
    Ea a b c g i dd j o l (v:Int) (p:Int) (u:Int) (q:Int)=some (lnk o (nk v p) (nk u q)):=by
 unfold Ea;have h':(Bv _ (.sl _) o (v,p,())).length<=1000000:=h;rw[AQe (by grind),kn ZQ,ZQ];rfl
theorem AhU{o:NX}{a:Int}{b c:ASx}{g:Int}{i:ASw}{dd:ATB AS7}{j:ASH}{l:ASv}{v p u q:Nat}(h:(nx o v p).length<=1000000) :
    Eb a b c g i dd j o l (u:Int) (q:Int) (v:Int) (p:Int)=some (lnk o (nk v p) (nk u q)):=by
 unfold Eb;have h':(Bv _ (.sl _) o (v,p,())).length<=1000000:=h;rw[AQe (by grind),kn ZQ,ZQ];rfl
def Sl(d:ASw)(h:Nat->Nat->Bool):Sg->Prop
 |.co _=>True
 |.va v l n=>Hit d h v l/\Hit d h v (l+n)
def SP(B1 B2:ATB Bt)(h:Nat->Nat->Bool):Prop:=∀p,1<=p->p<B1.length->(T3 B1 h p=true->kN (QO B2 p)=true->T3 B2 h p=true)/\(T3 B2 h p=true->kN (QO B1 p)=true->T3 B1 h p=true)
def eF(d:ASw)(B1 B2:ATB Bt)(h:Nat->Nat->Bool):Prop:=(∀s∈Ay B1++Ay B2,Sl d h s)/\SP B1 B2 h
inductive Zu (d:ASw) (B1 B2:List Bt) (p:Nat) (s:SC) (o:NX):SC->NX->Prop
 |one (v a:Nat):fst B1 p=true->fst B2 p=false->QO B2 p=.va v a->v<d.length->1<=a->a<W d v->Zu d B1 B2 p s o (MH d s v a) o
 |gR (v a:Nat):fst B2 p=true->fst B1 p=false->QO B1 p=.va v a->v<d.length->1<=a->a<W d v->Zu d B1 B2 p s o (MH d s v a) o
 |both (v a u b:Nat):fst B1 p=false->fst B2 p=false->QO B1 p=.va v a->QO B2 p=.va u b->v<d.length->u<d.length->Zu d B1 B2 p s o s (lnk (lnk o (nk v a) (nk u b)) (nk u b) (nk v a))
 |none:(fst B1 p=true/\fst B2 p=true\/(∃b,QO B1 p=.co b/\fst B1 p=false)\/∃b,QO B2 p=.co b/\fst B2 p=false)->Zu d B1 B2 p s o s o
theorem Awi{d:ASw}(hd:AB d){B1 B2:ATB Bt}(h1:Bo d B1)(h2:Bo d B2)(hl:B1.length=B2.length){p:Nat}(hp:p<B1.length){s:SC}{o:NX}(hs:s.2.length<=1000000)(hn:∀v p,(nx o v p).length<=900000){a:Int}{dd:ATB AS7} :
    ∃s' o',Fp a (eD (Ay B1)) (eD (Ay B2)) (p:Int) d dd (M d 0 s.1) o s.2=some (d,M d 0 s'.1,o',s'.2)/\Zu d B1 B2 p s o s' o':=by
 unfold Fp Jh R3;rw[jg,jg,AQe (Bg hp),AQe (Bg (by omega))];simp only[APX];rcases ZZ h1 hp with ⟨f1,e1⟩|⟨f1,⟨⟨b1,c1⟩,e1⟩|⟨v,x,c1,hv,kM,xK,e1⟩⟩<;>rcases ZZ h2 (show p<B2.length by omega)with ⟨f2,e2⟩|⟨f2,⟨⟨b2,c2⟩,e2⟩|⟨u,y,c2,hu,hy1,hy2,e2⟩⟩<;>rw[e1,e2]
 ·exact⟨s,o,rfl,.none (.inl ⟨f1,f2⟩)⟩
 ·exact⟨s,o,rfl,.none (.inr (.inr ⟨b2,c2,f2⟩))⟩
 ·refine⟨MH d s u y,o,?_,.one u y f1 f2 c2 hu hy1 hy2⟩;rw[Vb hd hu s hs];rfl
 ·exact⟨s,o,rfl,.none (.inr (.inl ⟨b1,c1,f1⟩))⟩
 ·exact⟨s,o,rfl,.none (.inr (.inl ⟨b1,c1,f1⟩))⟩
 ·exact⟨s,o,rfl,.none (.inr (.inl ⟨b1,c1,f1⟩))⟩
 ·refine⟨MH d s v x,o,?_,.gR v x f2 f1 c1 hv kM xK⟩;rw[Vb hd hv s hs];rfl
 ·exact⟨s,o,rfl,.none (.inr (.inr ⟨b2,c2,f2⟩))⟩
 ·refine⟨s,lnk _ _ _,?_,.both v x u y f1 f2 c1 c2 hv hu⟩;show(Ea a _ _ _ d dd _ o _ v x u y).bind (λo=>(Eb a _ _ _ d dd _ o _ v x u y).bind _)=_;rw[AhT (by grind),APW,AhU (by have:=zo (k:=nk v x) (x:=nk u y) (v:=u) (p:=y) hn;omega),APW]
def NJ(d:ASw)(h:Nat->Nat->Bool)(o:NX):Prop:=∀v p u q:Nat,nk u q∈nx o v p->h v p=true->Hit d h u q
def NV(d:ASw)(o:NX):Prop:=∀v p x,x∈nx o v p->∃u q:Nat,x=nk u q/\u<d.length
def Yb(B1 B2:ATB Bt)(f:Nat->Nat->Bool)(o:NX)(p:Nat):Prop :=
 (fst B1 p=true->fst B2 p=false->∀v a,QO B2 p=.va v a->f v a=true)/\(fst B2 p=true->fst B1 p=false->∀v a,QO B1 p=.va v a->f v a=true) /\
 (fst B1 p=false->fst B2 p=false->∀v a u b,QO B1 p=.va v a->QO B2 p=.va u b->nk u b∈nx o v a/\nk v a∈nx o u b)
theorem Yb.mono{B1 B2:ATB Bt}{f f':Nat->Nat->Bool}{o o':NX}{p:Nat}(h:Yb B1 B2 f o p)(hf:QL f f')(ho:∀v p x,x∈nx o v p->x∈nx o' v p):Yb B1 B2 f' o' p :=
 ⟨λa b v x c=>hf v x (h.1 a b v x c),λa b v x c=>hf v x (h.2.1 a b v x c),λa b v x u y c e=>⟨ho _ _ _ (h.2.2 a b v x u y c e).1,ho _ _ _ (h.2.2 a b v x u y c e).2⟩⟩
structure LI (d:ASw) (f0:Nat->Nat->Bool) (s:SC) (o:NX) (N:Nat):Prop where
 ci:CI d f0 s
 todo:tN s
 nv:NV d o
 nl:∀v p,(nx o v p).length<=N
theorem AmC{d:ASw}{B1 B2:ATB Bt}{p:Nat}{s s':SC}{o o':NX}{f0:Nat->Nat->Bool}{N:Nat}(cg:1<=p)(hp:p<B1.length)(h:LI d f0 s o N)(st:Zu d B1 B2 p s o s' o') :
    LI d f0 s' o' (N+2)/\QL s.1 s'.1/\(∀v p x,x∈nx o v p->x∈nx o' v p)/\Yb B1 B2 s'.1 o' p/\∀h,SP B1 B2 h->QL s.1 h->NJ d h o->QL s'.1 h/\NJ d h o':=by
 have ct1:∀{h:Nat->Nat->Bool},fst B1 p=true->T3 B1 h p=true:=λe=>by simp[T3,e]
 have ct2:∀{h:Nat->Nat->Bool},fst B2 p=true->T3 B2 h p=true:=λe=>by simp[T3,e]
 have no1:∀{h:Nat->Nat->Bool} {v a:Nat},fst B1 p=false->QO B1 p=.va v a->T3 B1 h p=h v a:=λe c=>by simp[T3,e,c,AcW]
 have no2:∀{h:Nat->Nat->Bool} {v a:Nat},fst B2 p=false->QO B2 p=.va v a->T3 B2 h p=h v a:=λe c=>by simp[T3,e,c,AcW]
 have nl2:∀v p,(nx o v p).length<=N+2:=λv p=>by have:=h.nl v p;omega
 cases st with
 |one v a f1 f2 c2 hv ha1 ha2 =>
  refine⟨⟨h.ci.cut hv,h.todo.cut,h.nv,nl2⟩,bk s v a,λ_ _ _ hx=>hx,⟨λ_ _ u b c=>?_,λe _=>(by grind),λe=>(by grind)⟩,λg hg hu hj=>⟨cN hu λ_ _=>?_,hj⟩⟩
  ·rw[c2]at c;injection c with e1 e2;subst e1;subst e2;exact cM s v a ha1 ha2
  ·have:=(hg p cg hp).1 (ct1 f1) (by rw[c2];rfl);rwa [no2 f2 c2]at this
 |gR v a f2 f1 c1 hv ha1 ha2 =>
  refine⟨⟨h.ci.cut hv,h.todo.cut,h.nv,nl2⟩,bk s v a,λ_ _ _ hx=>hx,⟨λe=>(by grind),λ_ _ u b c=>?_,λ_ e=>(by grind)⟩,λg hg hu hj=>⟨cN hu λ_ _=>?_,hj⟩⟩
  ·rw[c1]at c;injection c with e1 e2;subst e1;subst e2;exact cM s v a ha1 ha2
  ·have:=(hg p cg hp).2 (ct2 f2) (by rw[c1];rfl);rwa [no1 f1 c1]at this
 |both v a u b f1 f2 c1 c2 hv hu =>
  refine⟨⟨h.ci,h.todo,λw q x hx=>?_,λw q=>?_⟩,λ_ _ h=>h,λw q x hx=>XO.2 (.inl (XO.2 (.inl hx))),⟨λe=>(by grind),λe=>(by grind),λ_ _ v' a' u' b' e1 e2=>?_⟩,λg hg QP hj=>⟨QP,λw q w' q' hm hh=>?_⟩⟩
  ·rcases XO.1 hx with hx |⟨_,rfl⟩
   ·rcases XO.1 hx with hx |⟨_,rfl⟩
    ·exact h.nv w q x hx
    ·grind
   ·grind
  ·exact zo λw q=>zo h.nl
  ·rw[c1]at e1;injection e1 with q1 q2;subst q1;subst q2;rw[c2]at e2;injection e2 with q1 q2;subst q1;subst q2;exact⟨XO.2 (.inl (XO.2 (.inr ⟨rfl,rfl⟩))),XO.2 (.inr ⟨rfl,rfl⟩)⟩
  ·have hs:=hg p cg hp;rw[no1 f1 c1,no2 f2 c2]at hs;rcases XO.1 hm with hm |⟨e1,e2⟩
   ·rcases XO.1 hm with hm |⟨e1,e2⟩
    ·exact hj w q w' q' hm hh
    ·obtain⟨rfl,rfl⟩:=Zd.1 e1;obtain⟨rfl,rfl⟩:=Zd.1 e2;exact λ_ _=>hs.1 hh (by rw[c2];rfl)
   ·obtain⟨rfl,rfl⟩:=Zd.1 e1;obtain⟨rfl,rfl⟩:=Zd.1 e2;exact λ_ _=>hs.2 hh (by rw[c1];rfl)
 |none hc =>
  refine⟨⟨h.ci,h.todo,h.nv,nl2⟩,λ_ _ h=>h,λ_ _ _ hx=>hx,⟨λe1 e2 v a c=>?_,λe1 e2 v a c=>?_,λe1 e2 v a u b c c'=>?_⟩,λg _ hu hj=>⟨hu,hj⟩⟩
  ·grind
  ·grind
  grind
end Go.Proofs.X
