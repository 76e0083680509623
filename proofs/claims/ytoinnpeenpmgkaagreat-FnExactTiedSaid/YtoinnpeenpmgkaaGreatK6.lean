import Derived.KernelRfl
import Derived.Test.YtoinnpeenpmgkaaGreatK5
set_option linter.unusedVariables false
set_option linter.unusedSimpArgs false
namespace Go.Proofs.X
open Go Go.Va Go.Proofs.Tryz
set_option maxRecDepth 100000
noncomputable section
abbrev cT:=eN [(160,AkU)] {take:=[37],A5:=[(1,{A7:=[0,2],mvp:=[(0,[3])]}),(6,[0,2,45,46,47]),(12,[2,7,68,69,70]),(15,[2,7,8,68,69,70,75,76,77])],BB:=[(1,[0,2]),(6,[0,2]),(12,[2,7]),(15,[2,7,68,69,70])],Bw:=[(19,[2,7,8,68,69,70,75,76,77])],YH:=[(18,{A7:=[2,7,8,68,69,70,75,76,77],ZJ:=true})],Da:=[(19,[2,7,8,68,69,70,75,76,77])],Zm:=[(18,[2,7,8,10,68,69,70,75,76,77])],stl:=[90]}
def Arn(a:ATr) b c d e (z_:Int×ASV):=sT 98 [(2,Qy),(7,OZ),(68,.AG 1),(69,dI b),(70,dI z_.1)] (mP c d a e z_.2)
def Aps(a:ATr)(b:Int) c d e:=λ(g:ASV)=>xE 4 98 [(2,Qy),(7,OZ)] (mP c d a e g)
def Arm i b c d (a:ATr) e j k (z_:Int×ASV):=sT 98 (Acg i b i j k z_.1) (mP c d a e z_.2)
def Apq i b c d (a:ATr) e (j:ASI) (k:Int):=λ(l:ASV)=>xE 6 98 [(2,Qy),(7,OZ),(68,.AG 1),(69,dI b),(70,dI i)] (mP c d a e l)
def Arl i b j k n c d (a:ATr) e o:=sT 98 (Acg i b i j k n) (mP c d a e o)
def Apo i b j k n c d (a:ATr) e (o:ASV):=λ(q:ASV)=>xN 98 (Acg i b i j k n) (mP c d a e q)
def Ae0 i n b j k c d (a:ATr) e o:=sT 98 [(2,Qy),(7,OZ),(8,dI i),(10,dI n),(68,.AG 1),(69,dI b),(70,dI i),(75,.AB [1] ATM j),(76,dI k),(77,dI n)] (mP c d a e o)
def qx i n b j k c d (a:ATr) e (o:ASV):=λ(s:Unit)=>sT 98 (Acg i b i j k n) [.box (.pr (Ar c) Aot),Ce d,HQ a none,.Bd,.box Wv,.box Aj9,FK e,Dn (o.set i.toNat ((o.getD i.toNat ATJ.zero)++([n]:ASH)))]
def IB(i n b:Int)(j:ASI)(k:Int)(c:ASL)(d:ASW)(a:ATr)(e:ASK)(o:ASV):ATV Unit:=
 if 0<=i/\i<o.length then
 if((o.getD i.toNat ATJ.zero).length+([n]:ASH).length)*8<=140737488355328 then
 if 0<=i/\i<o.length then
 if i=i then
 some ()
 else none
 else none
 else none
 else none
theorem Ato(i n b:Int)(j:ASI)(k:Int)(c:ASL)(d:ASW)(a:ATr)(e:ASK)(o:ASV):Qf cT 4 18 (sb (sb (cd f140 244) 460) 14) 22 (Ae0 i n b j k c d a e o) (IB i n b j k c d a e o) (qx i n b j k c d a e o):=by
 unfold Qf;have h:u0 cT 4 18 (sb (sb (cd f140 244) 460) 14) (pt 22) (Ae0 i n b j k c d a e o) =
 if 0<=i/\i<o.length then
 if((o.getD i.toNat ATJ.zero).length+([n]:ASH).length)*8<=140737488355328 then
 if 0<=i/\i<o.length then
 if i=i then
 ((if 0<=i/\i<o.length then
 (if((o.getD i.toNat ATJ.zero).length+([n]:ASH).length)*8<=140737488355328 then
 if 0<=i/\i<o.length then
 if i=i then
 Eu (qx i n b j k c d a e o ())
 else none
 else none
 else none).bind λ_=>if((o.getD i.toNat ATJ.zero).length+([n]:ASH).length)*8<=140737488355328 then
 if 0<=i/\i<o.length then
 if i=i then
 Eu (qx i n b j k c d a e o ())
 else none
 else none
 else none
 else none).bind λ_=>some (qx i n b j k c d a e o ()))
 else none
 else none
 else none
 else none:=by kernel_rfl
 rw[h];unfold IB;simp only[ASr,mS,mO];clear h;by_cases Hs:(0:Int)<=i/\i<(o.length:Int)
 ·rw[AQx Hs,AQx Hs];by_cases QS:((o.getD i.toNat ATJ.zero).length+([n]:ASH).length)*8<=140737488355328
  ·rw[AQx QS,AQx QS];simp only[AQx Hs,AQx QS,AQ2,AQf,Eu,EJ]
  ·simp only[AQx Hs,AQ2,AQy QS]
 ·simp only[AQ2,AQy Hs]
def FB(i b:Int)(j:ASI)(k n:Int)(c:ASL)(d:ASW)(a:ATr)(e:ASK)(o:ASV):ATV ASV:=
 if 0<=n/\n<j.length then
 bif j.getD n.toNat (Ty.zero .bool)then
 (IB i n b j k c d a e o).bind λs=>some (o.set i.toNat ((o.getD i.toNat ATJ.zero)++([n]:ASH)))
 else
 some o
 else none
theorem Atp i b j k n c d a e o:AQ cT 4 19 (sb (cd f140 244) 460) 14 (Arl i b j k n c d a e o) (FB i b j k n c d a e o) (Apo i b j k n c d a e o):=by
 unfold AQ;simp(disch:=refine id ?_;kernel_rfl) only[FB,ASr,VE (Ato ..) (K:=Uk cT 4 19)];kernel_rfl
def GI(i b:Int)(c:ASL)(d:ASW)(a:ATr)(e:ASK)(j:ASI)(k n:Int)(o:ASV):ATV ((Int×ASV)⊕ASV):=
 bif decide (n<k)then
 (FB i b j k n c d a e o).bind λq=>some (.inl (wI (n+1),q))
 else
 some (.inr o)
def CY i b c d a e j k (z_:Int×ASV):=GI i b c d a e j k z_.1 z_.2
def M3 i b c d a e j k n o:=fix (CY i b c d a e j k) (n,o)
theorem Atq i b c d a e j k:A3 cT 4 15 (cd f140 244) 230 (Arm i b c d a e j k) (CY i b c d a e j k) (Apq i b c d a e j k):=by
 intro _;simp(disch:=refine id ?_;kernel_rfl) only[CY,GI,ASr,Ba (Atp ..) (K:=JG cT 4 15)];kernel_rfl
def GJ(a:ATr)(b:Int)(c:ASL)(d:ASW)(e:ASK)(i:Int)(t:ASV):ATV ((Int×ASV)⊕ASV):=
 bif decide (i<b)then
 if 0<=i/\i<d.length then
 (M3 i b c d a e (d.getD i.toNat ATM.zero) ((d.getD i.toNat ATM.zero).length:Int) 0 t).bind λl=>some (.inl (wI (i+1),l))
 else none
 else
 some (.inr t)
def CZ a b c d e (z_:Int×ASV):=GJ a b c d e z_.1 z_.2
def M4 a b c d e i t:=fix (CZ a b c d e) (i,t)
theorem Atr a b c d e:A3 cT 4 12 (code f140) 122 (Arn a b c d e) (CZ a b c d e) (Aps a b c d e):=by
 intro _;simp(disch:=refine id ?_;kernel_rfl) only[CZ,GJ,ASr,M3,AF (Atq _ _ _ _ _ _ _ _) (K:=JG cT 4 12)];kernel_rfl
def Ark(u:Int)(a:ATr)(z_:ASL×ASW×ASK):=sT 98 [(0,.ptr 0 u [] 0),(2,Qy)] (Ach z_.1 z_.2.1 a z_.2.2)
def Apn(u:Int)(a:ATr):=λ(v:AS9)=>xE 0 98 [(0,.ptr 0 u [] 0),(2,Qy)] (Ach v.1 v.2.1 a v.2.2)
def Arj(u:Int)(a:ATr) w x (z_:Int×ASL×ASW×ASK):=sT 98 [(0,.ptr 0 u [] 0),(2,Qy),(45,.AB [2] ATI w),(46,dI x),(47,dI z_.1)] (Ach z_.2.1 z_.2.2.1 a z_.2.2.2)
def Apm(u:Int)(a:ATr)(w:ASK)(x:Int):=λ(y:AS9)=>xE 2 98 [(0,.ptr 0 u [] 0),(2,Qy)] (Ach y.1 y.2.1 a y.2.2)
def GG(u:Int)(a:ATr)(w:ASK)(x a1:Int)(b1:ASL)(c1:ASW)(d1:ASK):ATV (ATn⊕AS9):=
 bif decide (a1<x)then
 if 0<=a1/\a1<w.length then
 (BN u (w.getD a1.toNat Aa.zero).1 (w.getD a1.toNat Aa.zero).2.1 b1 c1 d1).bind λe1=>some (.inl (wI (a1+1),e1.1,e1.2.1,e1.2.2))
 else none
 else
 some (.inr (b1,c1,d1))
def CX u a w x (z_:Int×ASL×ASW×ASK):=GG u a w x z_.1 z_.2.1 z_.2.2.1 z_.2.2.2
def IA u a w x a1 b1 c1 d1:=fix (CX u a w x) (a1,b1,c1,d1)
theorem Atm u a w x:A3 cT 4 6 (cd f140 24) 222 (Arj u a w x) (CX u a w x) (Apm u a w x):=by
 intro _;simp only[CX,GG,ASr];kernel_rfl
def Ky(u:Int)(a:ATr)(g1:ASL)(i1:ASW)(j1:ASK):ATV (AS9⊕AS9):=
 bif decide ((j1.length:Int)>0)then
 if 0<=(wI ((j1.length:Int)-1))/\(wI ((j1.length:Int)-1))<j1.length then
 if(0:Int)<=(wI ((j1.length:Int)-1))/\(wI ((j1.length:Int)-1))<=(j1.length:Int)then
 (IA u a (Bs Aa ATI a (j1.getD (wI ((j1.length:Int)-1)).toNat Aa.zero)) ((Bs Aa ATI a (j1.getD (wI ((j1.length:Int)-1)).toNat Aa.zero)).length:Int) 0 g1 i1 (j1.take (wI ((j1.length:Int)-1)).toNat)).bind λy=>some (.inl (y.1,y.2.1,y.2.2))
 else none
 else none
 else
 some (.inr (g1,i1,j1))
def GH u a (z_:ASL×ASW×ASK):=Ky u a z_.1 z_.2.1 z_.2.2
def M1 u a g1 i1 j1:=fix (GH u a) (g1,i1,j1)
theorem Atn u a:A3 cT 4 1 (code f140) 12 (Ark u a) (GH u a) (Apn u a):=by
 intro _;simp(disch:=refine id ?_;kernel_rfl) only[GH,Ky,ASr,IA,AF (Atm _ _ _ _) (K:=JG cT 4 1)];kernel_rfl
def L6(u:Int)(k1:ASL)(l1:ASW)(a:ATr)(n1:ASK):ATV (ASL×ASW×ATr×ASV×ASK):=
 (M1 u a k1 l1 n1).bind λv=>if Ty.row ATJ=true/\(0:Int)<=(v.1.length:Int)/\(v.1.length:Int)<=(v.1.length:Int)/\((24:Nat):Int)*(v.1.length:Int)<=(281474976710656:Int)/\(v.1.length:Int)<=(9223372036854775807:Int)then
 (M4 a (v.2.1.length:Int) v.1 v.2.1 v.2.2 0 (List.replicate (v.1.length:Int).toNat ([]:ASH))).bind λg=>some (v.1,v.2.1,a,g,v.2.2)
 else none
def AE7:=Ci [.VA] [⟨[.ptr 0 [] 0],[.box (.pr (.AB [] ATK) (.pr (.k I8) (.pr (.k (.mp 2)) (.pr (.k (.AG 3)) (.k .u))))),.row 154 .Aw ATM,.map .Aw Aa ATI,.row 225 .Aw Aa],ASL×ASW×ATr×ASV×ASK,λp=>L6 p.1.1 p.2.1.1 p.2.2.1 p.2.2.2.1 p.2.2.2.2.1,λr=>(.pr UV .u,[.box (.pr (Ar r.1) Aox),Ce r.2.1,HQ r.2.2.1 none,.Bd,Dn r.2.2.2.1,FK r.2.2.2.2])⟩]
theorem AfZ:Ao prog 140 AE7:=Av (fn:=f140) ⟨⟨cT,pk ⟨ki,trivial⟩,λ_ R K=>by
 simp(disch:=refine id ?_;kernel_rfl) only[L6,ASs,M1,AF (Atn _ _) (K:=A0 cT f140 4 R K),M4,AF (Atr _ _ _ _ _) (K:=A0 cT f140 4 R K)];kernel_rfl⟩,trivial⟩
abbrev Aet:=eN [(99,c99),(136,AE4),(137,Avq),(138,AE5),(139,AE6),(140,AE7)] {A5:=[(8,[6,10,36,37,38])],BB:=[(8,[6,10])],Bw:=[(2,[0,1,5,6,22])],Da:=[(2,[0,1,5,6])],gk:=[(0,.row [0] 32 ATJ true)]}
def Arp(a:Int) b (z_:Int×ASL×ATy×ASW×ATr×ASK):=sT 51 [(6,Aq),(10,.ptr 1 a [] 0),(36,.AG 2),(37,dI b),(38,dI z_.1)] [.box Wv,.box (.pr (Ar z_.2.1) (.pr (.AG 3) (.pr (.mp 4) ZW))),CS z_.2.2.1,Ce z_.2.2.2.1,HQ z_.2.2.2.2.1 none,FK z_.2.2.2.2.2]
def Apu(a b:Int):=λ(c:ATz)=>xE 0 51 [(6,Aq),(10,.ptr 1 a [] 0)] [.box Wv,.box (.pr (Ar c.1) Akb),Ce c.2.1,HQ c.2.2.1 none,FK c.2.2.2]
def Jp(a b d:Int)(e:ASL)(g:ATy)(i:ASW)(j:ATr)(k:ASK):ATV ((Int×ASL×ATy×ASW×ATr×ASK)⊕ATz):=
 bif decide (d<b)then
 if 0<=d/\d<g.length then
 (JW a (g.getD d.toNat (Ty.zero (.AH ATH (.AH ATH .unit)))).1 (g.getD d.toNat (Ty.zero (.AH ATH (.AH ATH .unit)))).2.1 e g i j k).bind λl=>some (.inl (wI (d+1),l.1,l.2.1,l.2.2.1,l.2.2.2.1,l.2.2.2.2))
 else none
 else
 some (.inr (e,i,j,k))
def Ec a b (z_:Int×ASL×ATy×ASW×ATr×ASK):=Jp a b z_.1 z_.2.1 z_.2.2.1 z_.2.2.2.1 z_.2.2.2.2.1 z_.2.2.2.2.2
def L4 a b d e g i j k:=fix (Ec a b) (d,e,g,i,j,k)
theorem Att a b:A3 Aet 0 8 (code f98) 506 (Arp a b) (Ec a b) (Apu a b):=by
 intro _;simp only[Ec,Jp,ASr];kernel_rfl
def Aro n o q:=sT 51 [(0,Ar n),(1,Bb o),(5,Aq),(6,A1)] [.box (BM q),.box Wv]
def Apt n o q:=λ(s:Bool)=>xN 51 [(0,Ar n),(1,Bb o),(5,Aq),(6,A1),(22,dB s)] [.box (BM q),.box Wv]
def L3(n:ASL)(o:ASN)(q:ASC):ATV Bool:=
 (TP n q).bind λt=>bif !t then
 some true
 else
 (Gr n o).bind λu=>some (!u)
theorem Ats n o q:AQ Aet 0 2 (code f98) 12 (Aro n o q) (L3 n o q) (Apt n o q):=by
 unfold AQ;simp only[L3,ASr];kernel_rfl
def JU(n:ASL)(o:ASN)(q:ASC):ATV (Bool×ASV):=
 (L3 n o q).bind λs=>bif s then
 some (false,([]:ASV))
 else
 (Qk n o).bind λv=>bif !v.1 then
 some (false,([]:ASV))
 else
 (M7 n q).bind λw=>(L4 w.1 (v.2.length:Int) 0 w.2.1 v.2 w.2.2.1 w.2.2.2.1 w.2.2.2.2).bind λc=>(L6 w.1 c.1 c.2.1 c.2.2.1 c.2.2.2).bind λx=>some (true,x.2.2.2.1)
def c98:=Ci [.d ATK,.d ATL,.d Am] [⟨[.AB [] ATK,.AB [] ATL,.AB [] Am],[],Bool×ASV,λp=>JU p.1.1 p.1.2.1 p.1.2.2.1,λr=>(.cons Ps (.cons (dB r.1) .nil),[Dn r.2])⟩]
theorem AlF:Ao prog 98 c98:=Av (fn:=f98) ⟨⟨Aet,pk ⟨qV,AfW,uH,AfX,AfY,AfZ,trivial⟩,λ_ R K=>by
 simp(disch:=refine id ?_;kernel_rfl) only[JU,ASs,Ba (Ats ..) (K:=A0 Aet f98 0 R K),L4,AF (Att _ _) (K:=A0 Aet f98 0 R K)];kernel_rfl⟩,trivial⟩
noncomputable def AE8:Va.Callee:=bU 2 ATE 8
noncomputable abbrev AFS:G5:={Eb:=Eb,fns:=Pl [],fi:={}}
theorem AlJ:JM Tryz.prog AFS:=(pk (l:=[]) trivial)
theorem Af0:Ao Tryz.prog 141 AE8:=
 fB (fn:=Tryz.f141) AlJ (by kernel_rfl) (by kernel_rfl) rfl rfl rfl ⟨rfl,rfl,rfl⟩ ⟨rfl,rfl,rfl⟩ (ti:=⟨.sl ATE,[],2,24,0,0,false⟩) (by kernel_rfl) rfl (by kernel_rfl) (λxs=>by kernel_rfl) (λxs=>by kernel_rfl)
  λxs h=>by
   have h0:ev AFS 0 (sub (code Tryz.f141) [1,1]) (Ex×St) ⟨[.AB [] ATJ xs,.un 0,.zs,.AB [] ATJ xs,.bool false,.un 0,.un 0,.un 0],[]⟩ Sz=if xs.length*8<=140737488355328 then some (.ret,⟨[.AB [] ATJ xs,.un 0,.AG 0,.AB [] ATJ xs,.bool false,.zs,.AB [] ATJ xs,.AG 0],[Ay xs]⟩)else none:=by kernel_rfl
   exact h0.trans (AQx h)
abbrev tP:=eN [(141,AE8)] {A5:=[(3,{A7:=[0,5,13,14,15],Cg:=[(5,false,.row [] 151 Ae true)]}),(7,{A7:=[0,5,6,8,13,14,15,28,29,30],Cg:=[(5,false,.row [] 151 Ae true)]})],BB:=[(3,[5]),(7,[0,5,13,14,15])],YH:=[(6,{A7:=[0,5,6,8,13,14,15,28,29,30],ZJ:=true,O4:=[(28,false,ATJ)]})],Zm:=[(6,[0,5,6,7,8,13,14,15])]}
def Arr a b c (z_:Int×ASM):=sT 47 [(0,Ar a),(5,.AG 0),(13,Ik b),(14,dI c),(15,dI z_.1)] [DG z_.2]
def Apw(a:ASL)(b:ASV)(c:Int):=λ(d:ASM)=>xE 0 47 [(5,.AG 0)] [DG d]
def Arq a e b c g i (z_:Int×Int×ASM):=sT 47 [(0,Ar a),(5,.AG 0),(6,dI e),(8,dI z_.1),(13,Ik b),(14,dI c),(15,dI e),(28,BJ g),(29,dI i),(30,dI z_.2.1)] [DG z_.2.2]
def Apv a e b c (g:ASH) (i:Int):=λ(j:ASM)=>xE 2 47 [(0,Ar a),(5,.AG 0),(13,Ik b),(14,dI c),(15,dI e)] [DG j]
def KF(a:ASL)(e:Int)(b:ASV)(c:Int)(g:ASH)(i k l:Int)(n:ASM):ATV ((Int×Int×ASM)⊕ASM):=
 bif decide (l<i)then
 if 0<=l/\l<g.length then
 if(n.length+([(e,k,wI ((g.getD l.toNat ATE.zero)-k),())]:ASM).length)*24<=140737488355328 then
 some (.inl (g.getD l.toNat ATE.zero,wI (l+1),n++([(e,k,wI ((g.getD l.toNat ATE.zero)-k),())]:ASM)))
 else none
 else none
 else
 some (.inr n)
def ES a e b c g i (z_:Int×Int×ASM):=KF a e b c g i z_.1 z_.2.1 z_.2.2
def SR a e b c g i k l n:=fix (ES a e b c g i) (k,l,n)
theorem Atv a e b c g i:A3 tP 0 7 (cd f100 116) 462 (Arq a e b c g i) (ES a e b c g i) (Apv a e b c g i):=by
 intro _;simp only[ES,KF,ASr];kernel_rfl
def Ae1 a e b c o q:=sT 47 [(0,Ar a),(5,.AG 0),(6,dI e),(7,BJ q),(8,dI 0),(13,Ik b),(14,dI c),(15,dI e)] [DG o]
def yB a e b c o (q:ASH):=λ(s:(ASH×Int))=>sT 47 [(0,Ar a),(5,.AG 0),(6,dI e),(8,dI 0),(13,Ik b),(14,dI c),(15,dI e),(28,BJ s.1),(29,dI s.2),(30,dI 0)] [DG o]
def J5(a:ASL)(e:Int)(b:ASV)(c:Int)(o:ASM)(q:ASH):ATV (ASH×Int):=
 if q.length*8<=140737488355328 then
 if 0<=e/\e<a.length then
 if(q.length+([(a.getD e.toNat Ab.zero).2.1]:ASH).length)*8<=140737488355328 then
 some (q++([(a.getD e.toNat Ab.zero).2.1]:ASH),((q++([(a.getD e.toNat Ab.zero).2.1]:ASH)).length:Int))
 else none
 else none
 else none
noncomputable def qF(a:ASL)(e:Int)(b:ASV)(c:Int)(o:ASM)(q:ASH):ATV Unit:=if q.length*8<=140737488355328 then if(q.length+([(a.getD e.toNat Ab.zero).2.1]:ASH).length)*8<=140737488355328 then Eu (yB a e b c o q (q++([(a.getD e.toNat Ab.zero).2.1]:ASH),((q++([(a.getD e.toNat Ab.zero).2.1]:ASH)).length:Int)))else none else none
theorem Atu(a:ASL)(e:Int)(b:ASV)(c:Int)(o:ASM)(q:ASH):Qf tP 0 6 (cd f100 116) 230 (Ae1 a e b c o q) (J5 a e b c o q) (yB a e b c o q):=by
 unfold Qf;have h:u0 tP 0 6 (cd f100 116) (pt 230) (Ae1 a e b c o q) =
 if q.length*8<=140737488355328 then if 0<=e/\e<a.length then if(q.length+([(a.getD e.toNat Ab.zero).2.1]:ASH).length)*8<=140737488355328 then((if 0<=e/\e<a.length then(qF a e b c o q).bind λ_=>(qF a e b c o q).bind λ_=>qF a e b c o q else none).bind λ_=>some (yB a e b c o q (q++([(a.getD e.toNat Ab.zero).2.1]:ASH),((q++([(a.getD e.toNat Ab.zero).2.1]:ASH)).length:Int))))else none else none else none:=by kernel_rfl
 rw[h];unfold J5;simp only[ASr,mS,mO];clear h;by_cases Hs:q.length*8<=140737488355328
 ·rw[AQx Hs,AQx Hs];by_cases QS:(0:Int)<=e/\e<(a.length:Int)
  ·rw[AQx QS,AQx QS];by_cases xZ:(q.length+([(a.getD e.toNat Ab.zero).2.1]:ASH).length)*8<=140737488355328
   ·rw[AQx xZ,AQx xZ];simp only[qF,AQv,AQx Hs,AQx QS,AQx xZ,AQ2,AQf,Eu,EJ]
   ·simp only[AQx Hs,AQx QS,AQ2,AQy xZ]
  ·simp only[AQx Hs,AQ2,AQy QS]
 ·simp only[AQ2,AQy Hs]
def KG(a:ASL)(b:ASV)(c e:Int)(o:ASM):ATV (AS6⊕ASM):=
 bif decide (e<c)then
 if 0<=e/\e<b.length then
 (J5 a e b c o (b.getD e.toNat ATJ.zero)).bind λs=>(SR a e b c s.1 s.2 0 0 o).bind λj=>some (.inl (wI (e+1),j))
 else none
 else
 some (.inr o)
def ET a b c (z_:Int×ASM):=KG a b c z_.1 z_.2
def SS a b c e o:=fix (ET a b c) (e,o)
theorem Atw a b c:A3 tP 0 3 (code f100) 58 (Arr a b c) (ET a b c) (Apw a b c):=by
 intro _;simp(disch:=refine id ?_;kernel_rfl) only[ET,KG,ASr,VE (Atu ..) (K:=JG tP 0 3),SR,AF (Atv _ _ _ _ _ _) (K:=JG tP 0 3)];kernel_rfl
def Pg(a:ASL)(t:ASC):ATV ASM:=
 (SS a t.1 (t.1.length:Int) 0 ([]:ASM)).bind λd=>some d
def AEH:=Ci [.d ATK,.d Am] [⟨[.AB [] ATK,.AB [] Am],[],ASM,λp=>Pg p.1.1 p.1.2.1,λr=>(.AG 0,[DG r])⟩]
theorem Afy:Ao prog 100 AEH:=Av (fn:=f100) ⟨⟨tP,pk ⟨Af0,trivial⟩,λ_ R K=>by
 simp(disch:=refine id ?_;kernel_rfl) only[Pg,ASs,SS,AF (Atw _ _ _) (K:=A0 tP f100 0 R K)];kernel_rfl⟩,trivial⟩
abbrev Aoz:=eN [] {A5:=[(3,[3,7,8,9])],BB:=[(3,[3])]}
def Ars a b (z_:Int×ATu):=sT 23 [(3,.mp 0),(7,Gw a),(8,dI b),(9,dI z_.1)] [HR z_.2 none]
def Apx(a:ASM)(b:Int):=λ(c:ATu)=>xE 0 23 [(3,.mp 0)] [HR c none]
def KA(a:ASM)(b d:Int)(e:ATu):ATV ((Int×ATu)⊕ATu):=
 bif decide (d<b)then
 if 0<=d/\d<a.length then
 some (.inl (wI (d+1),Cr Aa ATE e ((a.getD d.toNat Ae.zero).1,(a.getD d.toNat Ae.zero).2.1,()) d))
 else none
 else
 some (.inr e)
def EM a b (z_:Int×ATu):=KA a b z_.1 z_.2
def SK a b d e:=fix (EM a b) (d,e)
theorem Atx a b:A3 Aoz 0 3 (code f101) 58 (Ars a b) (EM a b) (Apx a b):=by
 intro _;simp only[EM,KA,ASr];kernel_rfl
def O9(a:ASM):ATV ATu:=
 (SK a (a.length:Int) 0 ([]:ATU AS4)).bind λc=>some c
def AEI:=Ci [.d ATN] [⟨[.AB [] ATN],[],ATu,λp=>O9 p.1.1,λr=>(.mp 0,[HR r none])⟩]
theorem Afz:Ao prog 101 AEI:=Av (fn:=f101) ⟨⟨Aoz,pk trivial,λ_ R K=>by
 simp(disch:=refine id ?_;kernel_rfl) only[O9,ASs,SK,AF (Atx _ _) (K:=A0 Aoz f101 0 R K)];kernel_rfl⟩,trivial⟩
abbrev AoA:=eN [] {Aw:=false,A5:=[(3,{A7:=[3,8,9],Cg:=[(3,true,.row [0] 2 ATE true),(3,true,.row [1] 2 ATE true)]})],BB:=[(3,[3])]}
def Art a (z_:Int×ASH×ASH):=sT 33 [(3,Aq),(8,dI a),(9,dI z_.1)] [.box (.pr I8 (.pr Pu (.pr (.mp 3) Wv))),Ay z_.2.1,Ay z_.2.2,Kk ([]:ATU AS1) none]
def Apy(a:Int):=λ(b:ATk)=>xE 0 33 [(3,Aq)] [.box (.pr I8 (.pr Pu (.pr (.mp 3) Wv))),Ay b.1,Ay b.2,Kk ([]:ATU AS1) none]
def Jz(a c:Int)(d e:ASH):ATV ((Int×ASH×ASH)⊕ATk):=
 bif decide (c<a)then
 if(d.length+([c]:ASH).length)*8<=140737488355328 then
 if(e.length+([-1]:ASH).length)*8<=140737488355328 then
 some (.inl (wI (c+1),d++([c]:ASH),e++([-1]:ASH)))
 else none
 else none
 else
 some (.inr (d,e))
def Ej a (z_:Int×ASH×ASH):=Jz a z_.1 z_.2.1 z_.2.2
def Rj a c d e:=fix (Ej a) (c,d,e)
theorem Aty a:A3 AoA 0 3 (code f102) 58 (Art a) (Ej a) (Apy a):=by
 intro _;simp only[Ej,Jz,ASr];kernel_rfl
def M8(a:Int):ATV (Int×ASH×ASH×ATt):=
 (Rj a 0 ([]:ASH) ([]:ASH)).bind λb=>some (0,b.1,b.2,([]:ATU AS1))
def AEJ:=Ci [.d ATE] [⟨[.AB [] ATE],[],Int×ASH×ASH×ATt,λp=>M8 p.1.1,λr=>(.ptr 0 r.1 [] 0,[.box (.pr I8 (.pr Pu (.pr (.mp 3) Wv))),Ay r.2.1,Ay r.2.2.1,Kk r.2.2.2 none])⟩]
theorem AfA:Ao prog 102 AEJ:=Av (fn:=f102) ⟨⟨AoA,pk trivial,λ_ R K=>by
 simp(disch:=refine id ?_;kernel_rfl) only[M8,ASs,Rj,AF (Aty _) (K:=A0 AoA f102 0 R K)];kernel_rfl⟩,trivial⟩
abbrev jI:=eN [] {A5:=[(4,{A7:=[3,5,6,12,13,14],Cg:=[(5,false,.row [] 2 ATE true)]}),(9,[3,5,6,8,12,13,14,30,31,32])],BB:=[(4,[5]),(9,[3,5,6,8,12,13,14])],Bw:=[(12,[3,5,6,8,10,12,13,14,30,31,32,48]),(13,[3,5,6,8,12,13,14,30,31,32]),(14,[3,5,6,8,12,13,14])],Da:=[(12,[3,5,6,8,10,12,13,14,30,31,32]),(13,[3,5,6,8,12,13,14,30,31,32]),(14,[3,5,6,8,12,13,14])]}
def Arx a b c (z_:Int×Int×ASH):=sT 65 [(3,Aq),(5,.AG 1),(6,dI z_.1),(12,BV a),(13,dI c),(14,dI z_.2.1)] [.box (BM b),Ay z_.2.2]
def ApC(a:ASO)(b:ASC)(c:Int):=λ(d:ASH)=>xE 0 65 [(5,.AG 0)] [Ay d]
def Arw e a c g b i j:=sT 65 (AjU e a c g) (iA b i j)
def ApB e a c g b (i:ASH) j:=λ(k:ASH)=>xN 65 (AjU e a c g) (iA b k j)
def Arv e a c g b j l n (z_:Int×ASH):=sT 65 (AjV e a c g l n z_.1) (iA b z_.2 j)
def ApA e a c g b j (l:ASH) (n:Int):=λ(o:ASH)=>xE 2 65 (AjU e a c g) (iA b o j)
def Aru e a c g l n q b s j:=sT 65 (AjV e a c g l n q) (iA b s j)
def Apz e a c g l n q b (s:ASH) j:=λ(t:ASH)=>xN 65 (AjV e a c g l n q) (iA b t j)
def Ae2 e (l:ASH) (q:Int) a c g n b s j:=sT 65 [(3,Aq),(5,.AG 1),(6,dI e),(8,EB),(10,dI (l.getD q.toNat ATE.zero)),(12,BV a),(13,dI c),(14,dI g),(30,BJ l),(31,dI n),(32,dI q)] (iA b s j)
def yC(e:Int)(l:ASH)(q:Int)(a:ASO)(c g n:Int)(b:ASC)(s:ASH)(j:ASy)(m0:Bool):Ex×St:=xN 65 [(3,Aq),(5,.AG 1),(6,dI e),(8,EB),(10,dI (l.getD q.toNat ATE.zero)),(12,BV a),(13,dI c),(14,dI g),(30,BJ l),(31,dI n),(32,dI q),(48,dB m0)] (iA b s j)
theorem Atz e l q a c g n b s j:XJ jI 0 12 (sb (sb (sb (cd f164 244) 230) 52) 14) (pt 10) (Ae2 e l q a c g n b s j)=some (yC e l q a c g n b s j ((decide ((l.getD q.toNat ATE.zero)>j.2.1))&&(decide ((l.getD q.toNat ATE.zero)<(wI (j.2.1+j.2.2.1)))))):=by
 refine .trans (b:=
 bif decide ((l.getD q.toNat ATE.zero)>j.2.1)then
 some (yC e l q a c g n b s j (decide ((l.getD q.toNat ATE.zero)<(wI (j.2.1+j.2.2.1)))))
 else
 some (yC e l q a c g n b s j false)) (by kernel_rfl) ?_
 cases (decide ((l.getD q.toNat ATE.zero)>j.2.1));rfl;rfl
def NU(e:Int)(a:ASO)(c g:Int)(l:ASH)(n q:Int)(b:ASC)(s:ASH)(j:ASy):ATV ASH:=
 if 0<=q/\q<l.length then
 Po (Ae2 e l q a c g n b s j) (
 bif (decide ((l.getD q.toNat ATE.zero)>j.2.1))&&(decide ((l.getD q.toNat ATE.zero)<(wI (j.2.1+j.2.2.1))))then
 if(s.length+([wI ((wI (e+(l.getD q.toNat ATE.zero)))-j.2.1)]:ASH).length)*8<=140737488355328 then
 some (s++([wI ((wI (e+(l.getD q.toNat ATE.zero)))-j.2.1)]:ASH))
 else none
 else
 some s)
 else none
theorem AtA e a c g l n q b s j:AQ jI 0 13 (sb (sb (cd f164 244) 230) 52) 14 (Aru e a c g l n q b s j) (NU e a c g l n q b s j) (Apz e a c g l n q b s j):=by
 unfold AQ;simp(disch:=refine id ?_;kernel_rfl) only[NU,ASr,Ev (Atz ..) (K:=Uk jI 0 13)];kernel_rfl
def KD(e:Int)(a:ASO)(c g:Int)(b:ASC)(j:ASy)(l:ASH)(n q:Int)(s:ASH):ATV (AS5⊕ASH):=
 bif decide (q<n)then
 (NU e a c g l n q b s j).bind λt=>some (.inl (wI (q+1),t))
 else
 some (.inr s)
def EO e a c g b j l n (z_:Int×ASH):=KD e a c g b j l n z_.1 z_.2
def NW e a c g b j l n q s:=fix (EO e a c g b j l n) (q,s)
theorem AtB e a c g b j l n:A3 jI 0 9 (sb (cd f164 244) 230) 26 (Arv e a c g b j l n) (EO e a c g b j l n) (ApA e a c g b j l n):=by
 intro _;simp(disch:=refine id ?_;kernel_rfl) only[EO,KD,ASr,Ba (AtA ..) (K:=JG jI 0 9)];kernel_rfl
def J4(e:Int)(a:ASO)(c g:Int)(b:ASC)(i:ASH)(j:ASy):ATV ASH:=
 bif decide (j.1>=0)then
 if(0:Int)<=j.1/\j.1<(b.1.length:Int)then
 (NW e a c g b j (b.1.getD j.1.toNat ATJ.zero) ((b.1.getD j.1.toNat ATJ.zero).length:Int) 0 i).bind λo=>some o
 else none
 else
 some i
theorem AtC e a c g b i j:AQ jI 0 14 (cd f164 244) 230 (Arw e a c g b i j) (J4 e a c g b i j) (ApB e a c g b i j):=by
 unfold AQ;simp(disch:=refine id ?_;kernel_rfl) only[J4,ASr,NW,AF (AtB _ _ _ _ _ _ _ _) (K:=Uk jI 0 14)];kernel_rfl
def KE(a:ASO)(b:ASC)(c e g:Int)(u:ASH):ATV (ATq⊕ASH):=
 bif decide (g<c)then
 if 0<=g/\g<a.length then
 if(u.length+([e]:ASH).length)*8<=140737488355328 then
 (J4 e a c g b (u++([e]:ASH)) (a.getD g.toNat Ag.zero)).bind λk=>some (.inl (wI (e+(a.getD g.toNat Ag.zero).2.2.1),wI (g+1),k))
 else none
 else none
 else
 some (.inr u)
def EP a b c (z_:Int×Int×ASH):=KE a b c z_.1 z_.2.1 z_.2.2
def NY a b c e g u:=fix (EP a b c) (e,g,u)
theorem AtE a b c:A3 jI 0 4 (code f164) 122 (Arx a b c) (EP a b c) (ApC a b c):=by
 intro _;simp(disch:=refine id ?_;kernel_rfl) only[EP,KE,ASr,Ba (AtC ..) (K:=JG jI 0 4)];kernel_rfl
def LC(a:ASO)(b:ASC):ATV ASH:=
 (NY a b (a.length:Int) 0 0 ([]:ASH)).bind λd=>some d
def AFq:=Ci [.d ATH,.d Am] [⟨[.AB [] ATH,.AB [] Am],[],ASH,λp=>LC p.1.1 p.1.2.1,λr=>(.AG 0,[Ay r])⟩]
theorem Agi:Ao prog 164 AFq:=Av (fn:=f164) ⟨⟨jI,pk trivial,λ_ R K=>by
 simp(disch:=refine id ?_;kernel_rfl) only[LC,ASs,NY,AF (AtE _ _ _) (K:=A0 jI f164 0 R K)];kernel_rfl⟩,trivial⟩
abbrev AxA:=eN [] {take:=[25]}
def AFF:=zE [.VA,.VA] AxA f183
theorem Agx:Ao prog 183 AFF:=dR (pk trivial)
abbrev qm:=eN [(183,AFF)] {A5:=[(3,[0,3,9,10,11]),(11,{A7:=[6,25,26,27],Cg:=[(6,false,.row [] 2 ATE true)]})],BB:=[(3,[0,3]),(11,[6])],Bw:=[(8,[0,3,9,10,11])],Da:=[(8,[0,3,9,10,11])]}
def ArB a b (z_:Int×ASH):=sT 36 [(6,.AG 0),(25,Ik a),(26,dI b),(27,dI z_.1)] [Ay z_.2]
def ApG(a:ASV)(b:Int):=λ(c:ASH)=>xE 2 36 tE [Ay c]
def Pp(a:ASV)(b d:Int)(e:ASH):ATV (AS5⊕ASH):=
 bif decide (d<b)then
 if 0<=d/\d<a.length then
 if(e.length+(a.getD d.toNat ATJ.zero).length)*8<=140737488355328 then
 some (.inl (wI (d+1),e++(a.getD d.toNat ATJ.zero)))
 else none
 else none
 else
 some (.inr e)
def Jf a b (z_:Int×ASH):=Pp a b z_.1 z_.2
def RA a b d e:=fix (Jf a b) (d,e)
theorem AtI a b:A3 qm 0 11 (code f163) 250 (ArB a b) (Jf a b) (ApG a b):=by
 intro _;simp only[Jf,Pp,ASr];kernel_rfl
def ArA a g (z_:Int×ASH):=sT 36 [(6,.AG 0),(25,Ik a),(26,dI g),(27,dI z_.1)] [Ay z_.2]
def ApF(a:ASV)(g:Int):=λ(i:ASH)=>xE 2 36 tE [Ay i]
def Ft(a:ASV)(g j:Int)(k:ASH):ATV (AS5⊕ASH):=
 bif decide (j<g)then
 if 0<=j/\j<a.length then
 if(k.length+(a.getD j.toNat ATJ.zero).length)*8<=140737488355328 then
 some (.inl (wI (j+1),k++(a.getD j.toNat ATJ.zero)))
 else none
 else none
 else
 some (.inr k)
def Cu a g (z_:Int×ASH):=Ft a g z_.1 z_.2
def KT a g j k:=fix (Cu a g) (j,k)
theorem AtH a g:A3 qm 0 11 (code f163) 250 (ArA a g) (Cu a g) (ApF a g):=by
 intro _;simp only[Cu,Ft,ASr];kernel_rfl
def Arz a l (z_:Int×Int):=sT 36 [(0,Ik a),(3,dI z_.1),(9,Ik a),(10,dI l),(11,dI z_.2)] []
def ApE a (l:Int):=λ(n:Int)=>xE 0 36 [(0,Ik a),(3,dI n)] []
def Ary a o l q:=sT 36 [(0,Ik a),(3,dI o),(9,Ik a),(10,dI l),(11,dI q)] []
def ApD a (o:Int) l (q:Int):=λ(s:Unit)=>xN 36 [(0,Ik a),(3,dI (wI (o+((a.getD q.toNat ATJ.zero).length:Int)))),(9,Ik a),(10,dI l),(11,dI q)] []
def GY(a:ASV)(o l q:Int):ATV Unit:=
 if 0<=q/\q<a.length then
 bif decide ((wI (o+((a.getD q.toNat ATJ.zero).length:Int)))<0)then
 none
 else
 some ()
 else none
theorem AtF a o l q:AQ qm 0 8 (cd f163 116) 14 (Ary a o l q) (GY a o l q) (ApD a o l q):=by
 unfold AQ;simp only[GY,ASr];kernel_rfl
def Fs(a:ASV)(l o q:Int):ATV (AS7⊕Int):=
 bif decide (q<l)then
 (GY a o l q).bind λs=>some (.inl (wI (o+((a.getD q.toNat ATJ.zero).length:Int)),wI (q+1)))
 else
 some (.inr o)
def Ct a l (z_:Int×Int):=Fs a l z_.1 z_.2
def KS a l o q:=fix (Ct a l) (o,q)
theorem AtG a l:A3 qm 0 3 (code f163) 58 (Arz a l) (Ct a l) (ApE a l):=by
 intro _;simp(disch:=refine id ?_;kernel_rfl) only[Ct,Fs,ASr,Ba (AtF ..) (K:=JG qm 0 3)];kernel_rfl
def GC(a:ASV):ATV ASH:=
 (KS a (a.length:Int) 0 0).bind λn=>bif decide (n<0)then
 none
 else
 bif decide ((wI (n-0))>0)then
 if(0:Int)<=(wI (n-0))/\(wI (n-0))*((8:Nat):Int)<=(140737488355328:Int)then
 if(0:Int)<=(0:Int)/\(0:Int)<=((List.replicate (wI (n-0)).toNat 0).length:Int)then
 (KT a (a.length:Int) 0 ((List.replicate (wI (n-0)).toNat 0).take 0)).bind λi=>some i
 else none
 else none
 else
 (RA a (a.length:Int) 0 ([]:ASH)).bind λc=>some c
def AFp:=Ci [.d ATT] [⟨[.AB [] ATT],[],ASH,λp=>GC p.1.1,λr=>(.AG 0,[Ay r])⟩]
theorem Agh:Ao prog 163 AFp:=Av (fn:=f163) ⟨⟨qm,pk ⟨Agx,trivial⟩,λ_ R K=>by
 simp(disch:=refine id ?_;kernel_rfl) only[GC,ASs,KS,AF (AtG _ _) (K:=A0 qm f163 0 R K),KT,AF (AtH _ _) (K:=A0 qm f163 0 R K),RA,AF (AtI _ _) (K:=A0 qm f163 0 R K)];kernel_rfl⟩,trivial⟩
abbrev AoB:=eN [] {A5:=[(2,[1,4,7,8,9])],BB:=[(2,[4])],O4:=[(0,Lw)]}
def ArC a b (z_:Int×Int):=sT 26 [(1,dI z_.1),(4,Aq),(7,BV a),(8,dI b),(9,dI z_.2)] [.box (.pr (.pr (dI 0) (.pr (dI 0) bP)) (.pr (dI 0) .u))]
def ApH(a:ASO)(b:Int):=Sum.elim (λ(c:(ASy×Int))=>xR 26 [(4,Aq)] [.box (.pr (Lf c.1) (.pr (dI c.2) .u))]) (λ(d:Unit)=>xE 0 26 [(4,Aq)] [.box (.pr (.pr (dI 0) (.pr (dI 0) bP)) (.pr (dI 0) .u))])
def Px(a:ASO)(b e g:Int):ATV (AS7⊕((ASy×Int)⊕Unit)):=
 bif decide (g<b)then
 if 0<=g/\g<a.length then
 bif decide (e<(a.getD g.toNat Ag.zero).2.2.1)then
 some (.inr (.inl (a.getD g.toNat Ag.zero,e)))
 else
 some (.inl (wI (e-(a.getD g.toNat Ag.zero).2.2.1),wI (g+1)))
 else none
 else
 some (.inr (.inr ()))
def Io a b (z_:Int×Int):=Px a b z_.1 z_.2
def W4 a b e g:=fix (Io a b) (e,g)
theorem AtJ a b:A3 AoB 0 2 (code f167) 26 (ArC a b) (Io a b) (ApH a b):=by
 intro _;simp only[Io,Px,ASr];kernel_rfl
def Qi(a:ASO)(i:Int):ATV Lw.V:=
 (W4 a (a.length:Int) i 0).bind (Sum.elim (λc=>some (c.1,c.2,())) (λd=>some ((0,0,0,(0,([]:ASH),()),()),0,())))
def AFr:=Ci [.d ATH,.d ATE] [⟨[.AB [] ATH,.AB [] ATE],[],Lw.V,λp=>Qi p.1.1 p.1.2.1,λr=>(dD Lw r,[])⟩]
theorem Agj:Ao prog 167 AFr:=Av (fn:=f167) ⟨⟨AoB,pk trivial,λ_ R K=>by
 simp(disch:=refine id ?_;kernel_rfl) only[Qi,ASs,W4,AF (AtJ _ _) (K:=A0 AoB f167 0 R K)];kernel_rfl⟩,trivial⟩
end
end Go.Proofs.X
namespace Go.Proofs.X
open Go Go.Va Go.Proofs.Tryz
set_option maxRecDepth 100000
noncomputable section
abbrev AIs:=eN [(186,Avx)] {gk:=[(0,.row [1,1] 199 ATF true)]}
def Lz(a:Lw.V)(b:Int)(c:ATu):ATV (Int×Int×ATu×ASH):=
 bif a.1.1==(-1)then
 (Fe a.1.2.2.2.1 a.2.1 b).bind λd=>some (-1,d.1,c,d.2)
 else
 some (Bs Aa ATE c (a.1.1,wI (a.1.2.1+a.2.1),()),0,c,([]:ASH))
def AFs:=Ci [.d Lw,.VA,.d ATE] [⟨[.AB [] Lw,.k (.mp 0),.AB [] ATE],[.map .Aw Aa ATE],Int×Int×ATu×ASH,λp=>Lz p.1.1 p.1.2.2.1 p.2.1,λr=>(.pr (dI r.1) (.pr (.pr (dI r.2.1) fe) .u),[HR r.2.2.1 none,Bq r.2.2.2])⟩]
theorem Agk:Ao prog 168 AFs:=Av (fn:=f168) ⟨⟨AIs,pk ⟨uO,trivial⟩,λ_ R K=>by
 simp only[Lz,ASs];kernel_rfl⟩,trivial⟩
def Avt:Va.Callee:=xc
theorem uK:Ao prog 165 Avt:=Aja (fn:=f165) lay53 rfl (by kernel_rfl) (by kernel_rfl) (by kernel_rfl)
def Avu:Va.Callee:=xC
theorem uL:Ao prog 166 Avu:=Ajt (fn:=f166) lay43 rfl (by kernel_rfl) (by kernel_rfl) (by kernel_rfl)
abbrev AoC:=eN [(124,AkP),(163,AFp),(164,AFq),(165,Avt),(166,Avu),(167,AFr),(168,AFs)] {A5:=[(6,{A7:=[0,1,3,9,10,35,36,37],O4:=[(9,false,ATJ)],Cg:=[(10,false,.row [] 96 As true)]})],BB:=[(6,[10])],iI:=[(20,ATT),(52,Lw),(58,Lw)]}
def ArD a b c d e (z_:Int×ATu×AST):=sT 68 [(0,BV a),(1,BV b),(3,.mp 0),(9,BJ c),(10,.AG 1),(35,.AB [2] ATJ d),(36,dI e),(37,dI z_.1)] [HR z_.2.1 none,tH z_.2.2,.Bd]
def ApI(a b:ASO)(c d:ASH)(e:Int):=λ(g:(ATu×AST))=>xE 0 68 [(10,.AG 1)] [HR g.1 none,tH g.2]
def NZ(a b:ASO)(c d:ASH)(e i:Int)(j:ATu)(k:AST):ATV ((Int×ATu×AST)⊕(ATu×AST)):=
 bif decide (i<e)then
 if 0<=i/\i<d.length then
 if 0<=(wI (i+1))/\(wI (i+1))<c.length then
 (Qi a (d.getD i.toNat ATE.zero)).bind λl=>(Lz l (wI ((c.getD (wI (i+1)).toNat ATE.zero)-(d.getD i.toNat ATE.zero))) j).bind λn=>(Qi b (d.getD i.toNat ATE.zero)).bind λo=>(Lz o (wI ((c.getD (wI (i+1)).toNat ATE.zero)-(d.getD i.toNat ATE.zero))) n.2.2.1).bind λq=>if(k.length+([((n.1,(n.2.1,n.2.2.2,()),()),(q.1,(q.2.1,q.2.2.2,()),()),wI ((c.getD (wI (i+1)).toNat ATE.zero)-(d.getD i.toNat ATE.zero)),())]:AST).length)*88<=140737488355328 then
 some (.inl (wI (i+1),q.2.2.1,k++([((n.1,(n.2.1,n.2.2.2,()),()),(q.1,(q.2.1,q.2.2.2,()),()),wI ((c.getD (wI (i+1)).toNat ATE.zero)-(d.getD i.toNat ATE.zero)),())]:AST)))
 else none
 else none
 else none
 else
 some (.inr (j,k))
def G9 a b c d e (z_:Int×ATu×AST):=NZ a b c d e z_.1 z_.2.1 z_.2.2
def Rk a b c d e i j k:=fix (G9 a b c d e) (i,j,k)
theorem AtL a b c d e:A3 AoC 1 6 (code f142) 506 (ArD a b c d e) (G9 a b c d e) (ApI a b c d e):=by
 intro _;simp only[G9,NZ,ASr];kernel_rfl
def TU(a b:ASO)(s:ASC)(t:ATu):ATV (ATu×AST):=
 (LC a s).bind λu=>(LC b s).bind λv=>(GC ([u,v]:ASV)).bind λw=>if w.length<4611686018427387904 then
 (FD a).bind λx=>if((OI (RE w)).length+([x]:ASH).length)*8<=140737488355328 then
 if(0:Int)<=(0:Int)/\(0:Int)<=(wI ((((OI (RE w))++([x]:ASH)).length:Int)-1))/\(wI ((((OI (RE w))++([x]:ASH)).length:Int)-1))<=(((OI (RE w))++([x]:ASH)).length:Int)then
 (Rk a b ((OI (RE w))++([x]:ASH)) ((((OI (RE w))++([x]:ASH)).take (wI ((((OI (RE w))++([x]:ASH)).length:Int)-1)).toNat).drop 0) (((((OI (RE w))++([x]:ASH)).take (wI ((((OI (RE w))++([x]:ASH)).length:Int)-1)).toNat).drop 0).length:Int) 0 t ([]:AST)).bind λg=>some (g.1,g.2)
 else none
 else none
 else none
def AE9:=Ci [.d ATH,.d ATH,.d Am,.VA] [⟨[.AB [] ATH,.AB [] ATH,.AB [] Am,.k (.mp 0)],[.map .Aw Aa ATE],ATu×AST,λp=>TU p.1.1 p.1.2.1 p.1.2.2.1 p.2.1,λr=>(.AG 1,[HR r.1 none,tH r.2])⟩]
theorem Af1:Ao prog 142 AE9:=Av (fn:=f142) ⟨⟨AoC,pk ⟨j8,Agh,Agi,uK,uL,Agj,Agk,trivial⟩,λ_ R K=>by
 simp(disch:=refine id ?_;kernel_rfl) only[TU,ASs,Rk,AF (AtL _ _ _ _ _) (K:=A0 AoC f142 1 R K)];kernel_rfl⟩,trivial⟩
abbrev AIt:=eN [(142,AE9)] {O4:=[(0,.sl As)]}
def ID(a b:Int)(c:ASL)(d:ASN)(e:ATy)(g:ASV)(i:ASM)(j:ATu):ATV (AST×ASL×ASN×ATy×ASV×ASM×ATu):=
 if 0<=b/\b<e.length then
 if 0<=b/\b<e.length then
 (TU (e.getD b.toNat (Ty.zero (.AH ATH (.AH ATH .unit)))).1 (e.getD b.toNat (Ty.zero (.AH ATH (.AH ATH .unit)))).2.1 (g,()) j).bind λk=>some (k.2,c,d,e,g,i,k.1)
 else none
 else none
def AEK:=Ci [.VA,.d ATE] [⟨[.ptr 0 [] 0,.AB [] ATE],[.box (.pr (.AB [] ATK) (.pr (.AB [] ATL) (.pr (.k I8) (.pr (.pr (.k Pu) (.k .u)) (.pr (.k (.AG 3)) (.pr (.k (.mp 4)) (.k .u))))))),.row 222 .Aw (.AH ATH (.AH ATH .unit)),.row 32 .Aw ATJ,.row 151 .Aw Ae,.map .Aw Aa ATE],AST×ASL×ASN×ATy×ASV×ASM×ATu,λp=>ID p.1.1 p.1.2.1 p.2.1.1 p.2.1.2.1 p.2.2.1 p.2.2.2.1 p.2.2.2.2.1 p.2.2.2.2.2.1,λr=>(tB r.1,[.box (.pr (Ar r.2.1) (.pr (Bb r.2.2.1) Aj8)),CS r.2.2.2.1,Dn r.2.2.2.2.1,DG r.2.2.2.2.2.1,HR r.2.2.2.2.2.2 none])⟩]
theorem AfB:Ao prog 103 AEK:=Av (fn:=f103) ⟨⟨AIt,pk ⟨Af1,trivial⟩,λ_ R K=>by
 simp only[ID,ASs];kernel_rfl⟩,trivial⟩
abbrev AoD:=eN [] {A5:=[(4,[0,1,12,13])],BB:=[(4,[4])]}
def ArE a b c (z_:Int):=sT 26 [(0,Vp a),(1,Vp b),(12,dI c),(13,dI z_)] []
def ApJ(a b:ASH)(c:Int):=Sum.elim (λ(d:Unit)=>xR 26 mQ []) (λ(e:Unit)=>xE 0 26 [] [])
def Pq(a b:ASH)(c g:Int):ATV (Int⊕(Unit⊕Unit)):=
 bif decide (g<c)then
 if 0<=g/\g<a.length then
 if 0<=g/\g<b.length then
 bif (a.getD g.toNat ATF.zero) !=(b.getD g.toNat ATF.zero)then
 some (.inr (.inl ()))
 else
 some (.inl (wI (g+1)))
 else none
 else none
 else
 some (.inr (.inr ()))
def Fu a b c (z_:Int):=Pq a b c z_
def RB a b c g:=fix (Fu a b c) g
theorem AtM a b c:A3 AoD 0 4 (code f131) 58 (ArE a b c) (Fu a b c) (ApJ a b c):=by
 intro _;simp only[Fu,Pq,ASr];kernel_rfl
def JH(a b:ASH):ATV Bool:=
 bif (a.length:Int) !=(b.length:Int)then
 some false
 else
 (RB a b (a.length:Int) 0).bind (Sum.elim (λd=>some false) (λe=>some true))
def AE1:=Ci [.d ATO,.d ATO] [⟨[.AB [] ATO,.AB [] ATO],[],Bool,λp=>JH p.1.1 p.1.2.1,λr=>(dB r,[])⟩]
theorem AfT:Ao prog 131 AE1:=Av (fn:=f131) ⟨⟨AoD,pk trivial,λ_ R K=>by
 simp(disch:=refine id ?_;kernel_rfl) only[JH,ASs,RB,AF (AtM _ _ _) (K:=A0 AoD f131 0 R K)];kernel_rfl⟩,trivial⟩
abbrev AIu:=eN [(131,AE1)] {}
def HA(a b:ASA):ATV Bool:=
 bif a.1==b.1 then
 (JH a.2.1 b.2.1).bind λc=>some c
 else
 some false
def c81:=Ci [.d Ai,.d Ai] [⟨[.AB [] Ai,.AB [] Ai],[],Bool,λp=>HA p.1.1 p.1.2.1,λr=>(dB r,[])⟩]
theorem Aa0:Ao prog 81 c81:=Av (fn:=f81) ⟨⟨AIu,pk ⟨AfT,trivial⟩,λ_ R K=>by
 simp only[HA,ASs];kernel_rfl⟩,trivial⟩
abbrev Y6:=eN [(165,Avt),(166,Avu)] {A5:=[(3,[1,2,7,20,21,22]),(10,[1,2,7,10,11]),(14,[1,2,7,10,11,71,72,73]),(23,{A7:=[1,10,17,18],Cg:=[(17,false,.row [] 2 ATE true)]})],BB:=[(3,[1,2,7]),(10,[1,2,10]),(14,[1,2,7,10,11]),(23,[17])],Bw:=[(20,[1,2,7,10,11,71,72,73])],YH:=[(5,{A7:=[1,2,7,9,20,21,22],ZJ:=true}),(6,{A7:=[1,2,7,20,21,22],ZJ:=true})],Da:=[(20,[1,2,7,10,11,71,72,73])],Zm:=[(5,[1,2,7,9,20,21,22]),(6,[1,2,7,9,20,21,22])],stl:=[32,42],AHk:=[60]}
def ArJ a (b:ATw) (z_:Int×ASH):=sT 116 [(1,dI a),(10,.mp 0),(17,.AG 1),(18,dI z_.1)] [Aax b none,Ay z_.2]
def ApO(a:Int)(b:ATw):=λ(c:ASH)=>xE 6 116 [(17,.AG 0)] [Ay c]
def Uw(a:Int)(b:ATw)(d:Int)(e:ASH):ATV (AS5⊕ASH):=
 bif d !=a then
 if(e.length+([(Bs ATE Ae b d).2.2.1]:ASH).length)*8<=140737488355328 then
 some (.inl ((Bs ATE Ae b d).1,e++([(Bs ATE Ae b d).2.2.1]:ASH)))
 else none
 else
 some (.inr e)
def PK a b (z_:Int×ASH):=Uw a b z_.1 z_.2
def bn a b d e:=fix (PK a b) (d,e)
theorem AtT a b:A3 Y6 0 23 (code f145) 2042 (ArJ a b) (PK a b) (ApO a b):=by
 intro _;simp only[PK,Uw,ASr];kernel_rfl
def ArI a g (i:ATv) (z_:ATw×ASH):=sT 116 [(1,dI a),(2,dI g),(7,.mp 0),(10,.mp 1),(11,.AG 2)] (xO i z_.1 z_.2)
def ApN a g (i:ATv):=λ(b:ATw)=>xE 2 116 [(1,dI a),(2,dI g),(10,.mp 0)] [Aax b none]
def ArH a g (i:ATv) j k (z_:Int×ATw×ASH):=sT 116 (AjW a g j k z_.1) (xO i z_.2.1 z_.2.2)
def ApM a g (i:ATv) (j:ASM) (k:Int):=λ(l:(ATw×ASH))=>xE 4 116 [(1,dI a),(2,dI g),(7,.mp 0),(10,.mp 1),(11,.AG 2)] (xO i l.1 l.2)
def ArG a g j k n (i:ATv) (o:ATw) q:=sT 116 (AjW a g j k n) (xO i o q)
def ApL a g j k n (i:ATv) (o:ATw) (q:ASH):=λ(s:(ATw×ASH))=>xN 116 (AjW a g j k n) (xO i s.1 s.2)
def Tt(a g:Int)(j:ASM)(k n:Int)(i:ATv)(o:ATw)(q:ASH):ATV (ATw×ASH):=
 if 0<=n/\n<j.length then
 bif !(Uz ATE Ae o (j.getD n.toNat Ae.zero).2.1)then
 bif decide ((q.length+([(j.getD n.toNat Ae.zero).2.1]:ASH).length)*8<=140737488355328)then
 some (Cr ATE Ae o (j.getD n.toNat Ae.zero).2.1 (j.getD n.toNat Ae.zero),q++([(j.getD n.toNat Ae.zero).2.1]:ASH))
 else
 none
 else
 some (o,q)
 else none
theorem AtQ a g j k n i o q:AQ Y6 0 20 (sb (cd f145 504) 220) 14 (ArG a g j k n i o q) (Tt a g j k n i o q) (ApL a g j k n i o q):=by
 unfold AQ;simp only[Tt,ASr];kernel_rfl
def Uu(a g:Int)(i:ATv)(j:ASM)(k n:Int)(o:ATw)(q:ASH):ATV ((Int×ATw×ASH)⊕(ATw×ASH)):=
 bif decide (n<k)then
 (Tt a g j k n i o q).bind λs=>some (.inl (wI (n+1),s.1,s.2))
 else
 some (.inr (o,q))
def PH a g i j k (z_:Int×ATw×ASH):=Uu a g i j k z_.1 z_.2.1 z_.2.2
def W7 a g i j k n o q:=fix (PH a g i j k) (n,o,q)
theorem AtR a g i j k:A3 Y6 0 14 (cd f145 504) 110 (ArH a g i j k) (PH a g i j k) (ApM a g i j k):=by
 intro _;simp(disch:=refine id ?_;kernel_rfl) only[PH,Uu,ASr,Ba (AtQ ..) (K:=JG Y6 0 14)];kernel_rfl
def Uv(a g:Int)(i:ATv)(t:ATw)(u:ASH):ATV ((ATw×ASH)⊕ATw):=
 bif decide ((u.length:Int)>0)then
 bif (decide ((0:Int)<=0))&&(decide (0<(u.length:Int)))then
 bif (decide ((0:Int)<=1))&&(decide (1<=(u.length:Int)))then
 (W7 a g i (Bs ATE ATN i (u.getD 0 ATE.zero)) ((Bs ATE ATN i (u.getD 0 ATE.zero)).length:Int) 0 t (u.drop 1)).bind λl=>some (.inl (l.1,l.2))
 else
 none
 else
 none
 else
 some (.inr t)
def PI a g i (z_:ATw×ASH):=Uv a g i z_.1 z_.2
def W8 a g i t u:=fix (PI a g i) (t,u)
theorem AtS a g i:A3 Y6 0 10 (code f145) 252 (ArI a g i) (PI a g i) (ApN a g i):=by
 intro _;simp(disch:=refine id ?_;kernel_rfl) only[PI,Uv,ASr,W7,AF (AtR _ _ _ _ _) (K:=JG Y6 0 10)];kernel_rfl
def ArF a g v w (z_:Int×ATv):=sT 116 [(1,dI a),(2,dI g),(7,.mp 0),(20,Gw v),(21,dI w),(22,dI z_.1)] [cM z_.2 none]
def ApK a g (v:ASM) (w:Int):=λ(i:ATv)=>xE 0 116 [(1,dI a),(2,dI g),(7,.mp 0)] [cM i none]
def Ae4 a g v w x (y:ATv) a1:=sT 116 (AjX a g v w x) [cM y none,.box (EE a1)]
def yE a g v w x (y:ATv) (a1:ASw):=λ(b1:ATv)=>sT 116 [(1,dI a),(2,dI g),(7,.mp 0),(20,Gw v),(21,dI w),(22,dI x)] [cM b1 none]
def Ts(a g:Int)(v:ASM)(w x:Int)(y:ATv)(a1:ASw):ATV ATv:=
 if((Bs ATE ATN y a1.2.1).length+([(a1.2.1,a1.1,a1.2.2.1,())]:ASM).length)*24<=140737488355328 then
 bif Bg ATE a1.2.1 a1.2.1 then
 some (Cr ATE ATN y a1.2.1 ((Bs ATE ATN y a1.2.1)++([(a1.2.1,a1.1,a1.2.2.1,())]:ASM)))
 else
 none
 else none
noncomputable def yR(a g:Int)(v:ASM)(w x:Int)(y:ATv)(a1:ASw):ATV Unit:=if((Bs ATE ATN y a1.2.1).length+([(a1.2.1,a1.1,a1.2.2.1,())]:ASM).length)*24<=140737488355328 then bif Bg ATE a1.2.1 a1.2.1 then Eu (yE a g v w x y a1 (Cr ATE ATN y a1.2.1 ((Bs ATE ATN y a1.2.1)++([(a1.2.1,a1.1,a1.2.2.1,())]:ASM))))else none else none
theorem AtO(a g:Int)(v:ASM)(w x:Int)(y:ATv)(a1:ASw):Qf Y6 0 6 (cd f145 116) 115 (Ae4 a g v w x y a1) (Ts a g v w x y a1) (yE a g v w x y a1):=by
 unfold Qf;have h:u0 Y6 0 6 (cd f145 116) (pt 115) (Ae4 a g v w x y a1) =
 if((Bs ATE ATN y a1.2.1).length+([(a1.2.1,a1.1,a1.2.2.1,())]:ASM).length)*24<=140737488355328 then bif Bg ATE a1.2.1 a1.2.1 then(((yR a g v w x y a1).bind λ_=>yR a g v w x y a1).bind λ_=>some (yE a g v w x y a1 (Cr ATE ATN y a1.2.1 ((Bs ATE ATN y a1.2.1)++([(a1.2.1,a1.1,a1.2.2.1,())]:ASM)))))else none else none:=by kernel_rfl
 rw[h];unfold Ts;simp only[ASr,mS,mO];clear h;by_cases Hs:((Bs ATE ATN y a1.2.1).length+([(a1.2.1,a1.1,a1.2.2.1,())]:ASM).length)*24<=140737488355328
 ·rw[AQx Hs,AQx Hs];cases QS:(Bg ATE a1.2.1 a1.2.1)with
  |true =>
   simp only[AQv];simp only[yR,AQv,AQx Hs,QS,AQ2,AQf,Eu,EJ]
  |false =>
   simp only[AQu]
   all_goals first |rfl |simp
 ·simp only[AQ2,AQy Hs]
def Ae3 a g v w x (c1:ATv) d1:=sT 116 (AjX a g v w x) [cM c1 none,.box (EE d1)]
def yD a g v w x (c1:ATv) d1:=λ(y:ATv)=>sT 116 (AjX a g v w x) [cM y none,.box (EE d1)]
def Tq(a g:Int)(v:ASM)(w x:Int)(c1:ATv)(d1:ASw):ATV ATv:=
 if((Bs ATE ATN c1 d1.1).length+([d1]:ASM).length)*24<=140737488355328 then
 bif Bg ATE d1.1 d1.1 then
 some (Cr ATE ATN c1 d1.1 ((Bs ATE ATN c1 d1.1)++([d1]:ASM)))
 else
 none
 else none
noncomputable def yQ(a g:Int)(v:ASM)(w x:Int)(c1:ATv)(d1:ASw):ATV Unit:=if((Bs ATE ATN c1 d1.1).length+([d1]:ASM).length)*24<=140737488355328 then bif Bg ATE d1.1 d1.1 then Eu (yD a g v w x c1 d1 (Cr ATE ATN c1 d1.1 ((Bs ATE ATN c1 d1.1)++([d1]:ASM))))else none else none
theorem AtN(a g:Int)(v:ASM)(w x:Int)(c1:ATv)(d1:ASw):Qf Y6 0 5 (cd f145 116) 114 (Ae3 a g v w x c1 d1) (Tq a g v w x c1 d1) (yD a g v w x c1 d1):=by
 unfold Qf;have h:u0 Y6 0 5 (cd f145 116) (pt 114) (Ae3 a g v w x c1 d1) =
 if((Bs ATE ATN c1 d1.1).length+([d1]:ASM).length)*24<=140737488355328 then bif Bg ATE d1.1 d1.1 then(((yQ a g v w x c1 d1).bind λ_=>yQ a g v w x c1 d1).bind λ_=>some (yD a g v w x c1 d1 (Cr ATE ATN c1 d1.1 ((Bs ATE ATN c1 d1.1)++([d1]:ASM)))))else none else none:=by kernel_rfl
 rw[h];unfold Tq;simp only[ASr,mS,mO];clear h;by_cases Hs:((Bs ATE ATN c1 d1.1).length+([d1]:ASM).length)*24<=140737488355328
 ·rw[AQx Hs,AQx Hs];cases QS:(Bg ATE d1.1 d1.1)with
  |true =>
   simp only[AQv];simp only[yQ,AQv,AQx Hs,QS,AQ2,AQf,Eu,EJ]
  |false =>
   simp only[AQu]
   all_goals first |rfl |simp
 ·simp only[AQ2,AQy Hs]
def Ut(a g:Int)(v:ASM)(w x:Int)(c1:ATv):ATV ((Int×ATv)⊕ATv):=
 bif decide (x<w)then
 if 0<=x/\x<v.length then
 (Tq a g v w x c1 (v.getD x.toNat Ae.zero)).bind λy=>(Ts a g v w x y (v.getD x.toNat Ae.zero)).bind λb1=>some (.inl (wI (x+1),b1))
 else none
 else
 some (.inr c1)
def PG a g v w (z_:Int×ATv):=Ut a g v w z_.1 z_.2
def W6 a g v w x c1:=fix (PG a g v w) (x,c1)
theorem AtP a g v w:A3 Y6 0 3 (code f145) 58 (ArF a g v w) (PG a g v w) (ApK a g v w):=by
 intro _;simp(disch:=refine id ?_;kernel_rfl) only[PG,Ut,ASr,VE (AtN ..) (K:=JG Y6 0 3),VE (AtO ..) (K:=JG Y6 0 3)];kernel_rfl
def Yi(v:ASM)(a g:Int):ATV ASH:=
 (W6 a g v (v.length:Int) 0 ([]:ATU AS6)).bind λi=>(W8 a g i (Cr ATE Ae ([]:ATU ATa) a (a,a,0,())) ([a]:ASH)).bind λb=>(bn a b g ([]:ASH)).bind λc=>if c.length<4611686018427387904 then
 some (OI (RE c))
 else none
def AFb:=Ci [.d ATN,.d ATE,.d ATE] [⟨[.AB [] ATN,.AB [] ATE,.AB [] ATE],[],ASH,λp=>Yi p.1.1 p.1.2.1 p.1.2.2.1,λr=>(.AG 0,[Ay r])⟩]
theorem Af3:Ao prog 145 AFb:=Av (fn:=f145) ⟨⟨Y6,pk ⟨uK,uL,trivial⟩,λ_ R K=>by
 simp(disch:=refine id ?_;kernel_rfl) only[Yi,ASs,W6,AF (AtP _ _ _ _) (K:=A0 Y6 f145 0 R K),W8,AF (AtS _ _ _) (K:=A0 Y6 f145 0 R K),bn,AF (AtT _ _) (K:=A0 Y6 f145 0 R K)];kernel_rfl⟩,trivial⟩
abbrev AIv:=eN [] {Xm:=[.mv 0 [0],.Bd 1,.mv 0 [1],.Bd 2]}
def Bn(a:Int)(b:ASt)(c d:ASH)(e:ATt)(g:ASM):ATV (Int×ATt×ASM×ASH×ASH):=
 bif decide (b.1>=0)then
 some (b.1,e,g,c,d)
 else
 if(c.length+([(c.length:Int)]:ASH).length)*8<=140737488355328 then
 if(d.length+([(c.length:Int)]:ASH).length)*8<=140737488355328 then
 some ((c.length:Int),Cr ATE Ai e (c.length:Int) b.2.1,g,c++([(c.length:Int)]:ASH),d++([(c.length:Int)]:ASH))
 else none
 else none
def AFa:=Ci [.VA,.d A6] [⟨[.ptr 0 [] 0,.AB [] A6],[.box (.pr (.k I8) (.pr (.k Pu) (.pr (.k (.mp 3)) (.pr (.k UV) (.k .u))))),.row 2 .Aw ATE,.row 2 .Aw ATE,.map (.sh []) ATE Ai,.row 164 .Aw Ae],Int×ATt×ASM×ASH×ASH,λp=>Bn p.1.1 p.1.2.1 p.2.2.1 p.2.2.2.1 p.2.2.2.2.1 p.2.2.2.2.2.1,λr=>(dI r.1,[.box (.pr (.AG 5) (.pr (.AG 6) (.pr (.mp 3) eZ))),.Bd,.Bd,Kk r.2.1 none,C7 r.2.2.1,Ay r.2.2.2.1,Ay r.2.2.2.2])⟩]
theorem Af2:Ao prog 143 AFa:=Av (fn:=f143) ⟨⟨AIv,pk trivial,λ_ R K=>by
 simp only[Bn,ASs];kernel_rfl⟩,trivial⟩
abbrev AoE:=eN [] {A5:=[(1,[0,1])],BB:=[(1,[1])]}
def ArK(a:Int) b (c:ATt) d (z_:Int×ASH):=sT 41 [(0,.ptr 0 a [] 0),(1,dI z_.1)] [.box fb,Ay z_.2,Ay b,Kk c none,C7 d]
def ApP(a:Int) b (c:ATt) d:=λ(e:AS5)=>xE 0 41 [(1,dI e.1)] [.box fb,Ay e.2,Ay b,Kk c none,C7 d]
def LW(a:Int)(b:ASH)(c:ATt)(d:ASM)(g:Int)(i:ASH):ATV (AS5⊕AS5):=
 if 0<=g/\g<i.length then
 bif (i.getD g.toNat ATE.zero) !=g then
 if 0<=g/\g<i.length then
 if(0:Int)<=(i.getD g.toNat ATE.zero)/\(i.getD g.toNat ATE.zero)<(i.length:Int)then
 if 0<=g/\g<i.length then
 if 0<=g/\g<(i.set g.toNat (i.getD (i.getD g.toNat ATE.zero).toNat ATE.zero)).length then
 some (.inl ((i.set g.toNat (i.getD (i.getD g.toNat ATE.zero).toNat ATE.zero)).getD g.toNat ATE.zero,i.set g.toNat (i.getD (i.getD g.toNat ATE.zero).toNat ATE.zero)))
 else none
 else none
 else none
 else none
 else
 some (.inr (g,i))
 else none
def H6 a b c d (z_:Int×ASH):=LW a b c d z_.1 z_.2
def UR a b c d g i:=fix (H6 a b c d) (g,i)
theorem AtU a b c d:A3 AoE 5 1 (code f144) 12 (ArK a b c d) (H6 a b c d) (ApP a b c d):=by
 intro _;simp only[H6,LW,ASr];kernel_rfl
def G8(a j:Int)(k b:ASH)(c:ATt)(d:ASM):ATV (Int×ASH×ASH×ATt×ASM):=
 (UR a b c d j k).bind λe=>some (e.1,e.2,b,c,d)
def Avr:=Ci [.VA,.d ATE] [⟨[.ptr 0 [] 0,.AB [] ATE],[.box (.pr (.k I8) (.pr (.k Pu) (.pr (.k (.mp 3)) (.pr (.k UV) (.k .u))))),.row 2 .Aw ATE,.row 2 .Aw ATE,.map (.sh []) ATE Ai,.row 164 .Aw Ae],Int×ASH×ASH×ATt×ASM,λp=>G8 p.1.1 p.1.2.1 p.2.2.1 p.2.2.2.1 p.2.2.2.2.1 p.2.2.2.2.2.1,λr=>(dI r.1,[.box fb,Ay r.2.1,Ay r.2.2.1,Kk r.2.2.2.1 none,C7 r.2.2.2.2])⟩]
theorem uI:Ao prog 144 Avr:=Av (fn:=f144) ⟨⟨AoE,pk trivial,λ_ R K=>by
 simp(disch:=refine id ?_;kernel_rfl) only[G8,ASs,UR,AF (AtU _ _ _ _) (K:=A0 AoE f144 5 R K)];kernel_rfl⟩,trivial⟩
end
end Go.Proofs.X
namespace Go.Proofs.X
open Go Go.Va Go.Proofs.Tryz
set_option maxRecDepth 100000
noncomputable section
abbrev iC:=eN [(81,c81),(143,AFa),(144,Avr),(145,AFb)] {Bw:=[(8,[0,10,11,12,13,63]),(11,[0,6,7,10,11,12,13]),(14,[0,10,12,109]),(15,{A7:=[]})],YH:=[(1,[0,2,8,9])],Da:=[(8,[0,10,11,12,13]),(11,[0,10,11,12,13]),(14,[0,10,12,13]),(15,[0,10,12,13])],Zm:=[(1,[0,2,4])],Xm:=[.mv 0 [3],.Bd 4],gk:=[(0,.row [] 2 ATE true)]}
def ArM(a:Int) b c d (e:ATt) g i j:=sT 117 [(0,.ptr 0 a [] 0),(10,dI c),(12,dI b),(13,dI d)] (iB e g i j)
def ApR(a b c d:Int)(e:ATt) g (i:ASH) j:=λ(k:ASH)=>xN 117 [] (iB e g k j)
def Ae7(a:Int) c b d (e:ATt) g i j:=sT 117 [(0,.ptr 0 a [] 0),(10,dI c),(12,dI b),(13,dI d)] (iB e g i j)
def yG(a c b:Int)(e:ATt)(g i:ASH)(j:ASM)(m0:Bool):Ex×St:=xN 117 [(0,.ptr 0 a [] 0),(10,dI c),(12,dI b),(109,dB m0)] (iB e g i j)
theorem AtY a c b d e g i j:XJ iC 5 14 (cd f104 2046) (pt 2) (Ae7 a c b d e g i j)=some (yG a c b e g i j ((decide (b>=0))&&(decide (d>=0)))):=by
 refine .trans (b:=
 bif decide (b>=0)then
 some (yG a c b e g i j (decide (d>=0)))
 else
 some (yG a c b e g i j false)) (by kernel_rfl) ?_
 cases (decide (b>=0));rfl;rfl
def Eg(a b c d:Int)(e:ATt)(g i:ASH)(j:ASM):ATV ASH:=
 Po (Ae7 a c b d e g i j) (
 bif (decide (b>=0))&&(decide (d>=0))then
 if 0<=c/\c<i.length then
 some (i.set c.toNat b)
 else none
 else
 some i)
theorem AtZ a b c d e g i j:AQ iC 5 15 (code f104) 2046 (ArM a b c d e g i j) (Eg a b c d e g i j) (ApR a b c d e g i j):=by
 unfold AQ;simp(disch:=refine id ?_;kernel_rfl) only[Eg,ASr,Ev (AtY ..) (K:=Uk iC 5 15)];kernel_rfl
def ArL(a:Int) l n o q (s:ATt) t u v:=sT 117 (AjY a l n o q) (iB s t u v)
def ApQ(a:Int) l n o q (s:ATt) t u v:=Sum.elim (λ(w:ASH)=>xR 117 [(0,.ptr 0 a [] 0),(6,.AG 5),(7,dB false),(10,dI l),(11,dI n),(12,dI o),(13,dI q)] [.box (.pr (.AG 6) (.pr (.AG 7) (.pr (.mp 3) (.pr (.AG 8) .u)))),.Bd,.Bd,Kk s none,.Bd,Ay w,Ay t,Ay u,C7 v]) (λ(b:Int)=>xN 117 (AjY a l n b q) (iB s t u v))
def Ae6(a:Int) l n o q (s:ATt) t u v:=sT 117 (AjY a l n o q) (iB s t u v)
def yF(a l n o q:Int)(s:ATt)(t u:ASH)(v:ASM)(m0:Bool):Ex×St:=xN 117 [(0,.ptr 0 a [] 0),(10,dI l),(11,dI n),(12,dI o),(13,dI q),(63,dB m0)] (iB s t u v)
theorem AtW a l n o q s t u v:XJ iC 5 8 (cd f104 254) (pt 2) (Ae6 a l n o q s t u v)=some (yF a l n o q s t u v ((decide (o>=0))&&(decide (q>=0)))):=by
 refine .trans (b:=
 bif decide (o>=0)then
 some (yF a l n o q s t u v (decide (q>=0)))
 else
 some (yF a l n o q s t u v false)) (by kernel_rfl) ?_
 cases (decide (o>=0));rfl;rfl
def Jw(a l n o q:Int)(s:ATt)(t u:ASH)(v:ASM):ATV (ASH⊕Int):=
 Po (Ae6 a l n o q s t u v) (
 bif (decide (o>=0))&&(decide (q>=0))then
 (HA (Bs ATE Ai s o) (Bs ATE Ai s q)).bind λx=>bif !x then
 (Yi v o q).bind λy=>some (.inl y)
 else
 some (.inr (if q<o then q else o))
 else
 some (.inr o))
theorem AtX a l n o q s t u v:AQ iC 5 11 (code f104) 254 (ArL a l n o q s t u v) (Jw a l n o q s t u v) (ApQ a l n o q s t u v):=by
 unfold AQ;simp(disch:=refine id ?_;kernel_rfl) only[Jw,ASr,Ev (AtW ..) (K:=Uk iC 5 11)];kernel_rfl
def Ae5(a:Int) a1 b1 c1 (d1:ATt) e1 g1:=sT 117 [(0,.ptr 0 a [] 0),(2,dI a1),(4,OZ)] [.box fb,Ay b1,Ay c1,Kk d1 none,C7 e1,.box (dD As g1)]
def Za(a:Int) a1 (b1:ASH) (c1:ASH) (d1:ATt) (e1:ASM) (g1:ASF):=λ(i1:(Int×Int×ATt×ASM×ASH×ASH))=>sT 117 [(0,.ptr 0 a [] 0),(2,dI a1),(8,dI i1.1),(9,dI i1.2.1)] [.box (.pr (.AG 5) (.pr (.AG 6) (.pr (.mp 3) eZ))),.Bd,.Bd,Kk i1.2.2.1 none,C7 i1.2.2.2.1,Ay i1.2.2.2.2.1,Ay i1.2.2.2.2.2]
def Jv(a a1:Int)(b1 c1:ASH)(d1:ATt)(e1:ASM)(g1:ASF):ATV (Int×Int×ATt×ASM×ASH×ASH):=
 (Bn a g1.1 b1 c1 d1 e1).bind λj1=>(Bn a g1.2.1 j1.2.2.2.1 j1.2.2.2.2 j1.2.1 j1.2.2.1).bind λk1=>some (j1.1,k1.1,k1.2.1,k1.2.2.1,k1.2.2.2.1,k1.2.2.2.2)
theorem AtV(a a1:Int)(b1 c1:ASH)(d1:ATt)(e1:ASM)(g1:ASF):Qf iC 5 1 (code f104) 6 (Ae5 a a1 b1 c1 d1 e1 g1) (Jv a a1 b1 c1 d1 e1 g1) (Za a a1 b1 c1 d1 e1 g1):=by
 unfold Qf;have h:u0 iC 5 1 (code f104) (pt 6) (Ae5 a a1 b1 c1 d1 e1 g1) =
 (Bn a g1.1 b1 c1 d1 e1).bind λj1=>(Bn a g1.2.1 j1.2.2.2.1 j1.2.2.2.2 j1.2.1 j1.2.2.1).bind λk1=>(((((Bn a g1.1 b1 c1 d1 e1).bind λl1 =>
(Bn a g1.2.1 l1.2.2.2.1 l1.2.2.2.2 l1.2.1 l1.2.2.1).bind λn1=>nt (Za a a1 b1 c1 d1 e1 g1 (l1.1,n1.1,n1.2.1,n1.2.2.1,n1.2.2.2.1,n1.2.2.2.2)) (Za a a1 b1 c1 d1 e1 g1 (j1.1,k1.1,k1.2.1,k1.2.2.1,k1.2.2.2.1,k1.2.2.2.2))).bind λ_=>(Bn a g1.1 b1 c1 d1 e1).bind λo1 =>
(Bn a g1.2.1 o1.2.2.2.1 o1.2.2.2.2 o1.2.1 o1.2.2.1).bind λq1=>nt (Za a a1 b1 c1 d1 e1 g1 (o1.1,q1.1,q1.2.1,q1.2.2.1,q1.2.2.2.1,q1.2.2.2.2)) (Za a a1 b1 c1 d1 e1 g1 (j1.1,k1.1,k1.2.1,k1.2.2.1,k1.2.2.2.1,k1.2.2.2.2))).bind λ_=>(Bn a g1.1 b1 c1 d1 e1).bind λs1 =>
(Bn a g1.2.1 s1.2.2.2.1 s1.2.2.2.2 s1.2.1 s1.2.2.1).bind λt1=>nt (Za a a1 b1 c1 d1 e1 g1 (s1.1,t1.1,t1.2.1,t1.2.2.1,t1.2.2.2.1,t1.2.2.2.2)) (Za a a1 b1 c1 d1 e1 g1 (j1.1,k1.1,k1.2.1,k1.2.2.1,k1.2.2.2.1,k1.2.2.2.2))).bind λ_=>some (Za a a1 b1 c1 d1 e1 g1 (j1.1,k1.1,k1.2.1,k1.2.2.1,k1.2.2.2.1,k1.2.2.2.2))):=by kernel_rfl
 rw[h];unfold Jv;simp only[ASr,mS,mO];clear h;cases Hs:Bn a g1.1 b1 c1 d1 e1 with
 |none=>rfl
 |some j1 =>
  simp only[AQf];cases QS:Bn a g1.2.1 j1.2.2.2.1 j1.2.2.2.2 j1.2.1 j1.2.2.1 with
  |none=>rfl
  |some k1 =>
   simp only[AQf];simp only[Hs,QS,AQ2,AQf,Eu,EJ]
def JZ(a:Int)(g1:ASF)(a1:Int)(b1 c1:ASH)(d1:ATt)(e1:ASM):ATV (Bool×ATt×ASH×ASH×ASH×ASM):=
 (Jv a a1 b1 c1 d1 e1 g1).bind λi1=>(G8 a i1.1 i1.2.2.2.2.1 i1.2.2.2.2.2 i1.2.2.1 i1.2.2.2.1).bind λu1=>(G8 a i1.2.1 u1.2.1 u1.2.2.1 u1.2.2.2.1 u1.2.2.2.2).bind λv1=>bif u1.1==v1.1 then
 some (true,v1.2.2.2.1,([]:ASH),v1.2.1,v1.2.2.1,v1.2.2.2.2)
 else
 if(v1.2.2.2.2.length+([(i1.1,i1.2.1,a1,())]:ASM).length)*24<=140737488355328 then
 if(0:Int)<=u1.1/\u1.1<(v1.2.2.1.length:Int)then
 if(0:Int)<=v1.1/\v1.1<(v1.2.2.1.length:Int)then
 (Jw a u1.1 v1.1 (v1.2.2.1.getD u1.1.toNat ATE.zero) (v1.2.2.1.getD v1.1.toNat ATE.zero) v1.2.2.2.1 v1.2.1 v1.2.2.1 (v1.2.2.2.2++([(i1.1,i1.2.1,a1,())]:ASM))).bind (Sum.elim (λw=>some (false,v1.2.2.2.1,w,v1.2.1,v1.2.2.1,v1.2.2.2.2++([(i1.1,i1.2.1,a1,())]:ASM))) (λb=>if(0:Int)<=v1.1/\v1.1<(v1.2.1.length:Int)then
 if(0:Int)<=u1.1/\u1.1<(v1.2.2.1.length:Int)then
 (Eg a b u1.1 (v1.2.2.1.getD v1.1.toNat ATE.zero) v1.2.2.2.1 (v1.2.1.set v1.1.toNat u1.1) (v1.2.2.1.set u1.1.toNat (if(v1.2.2.1.getD v1.1.toNat ATE.zero)>b then(v1.2.2.1.getD v1.1.toNat ATE.zero)else b)) (v1.2.2.2.2++([(i1.1,i1.2.1,a1,())]:ASM))).bind λk=>some (true,v1.2.2.2.1,([]:ASH),v1.2.1.set v1.1.toNat u1.1,k,v1.2.2.2.2++([(i1.1,i1.2.1,a1,())]:ASM))
 else none
 else none))
 else none
 else none
 else none
def AEL:=Ci [.VA,.d As,.d ATE] [⟨[.ptr 0 [] 0,.AB [] As,.AB [] ATE],[.box (.pr (.k I8) (.pr (.k Pu) (.pr (.k (.mp 3)) (.pr (.k UV) (.k .u))))),.row 2 .Aw ATE,.row 2 .Aw ATE,.map (.sh []) ATE Ai,.row 164 .Aw Ae],Bool×ATt×ASH×ASH×ASH×ASM,λp=>JZ p.1.1 p.1.2.1 p.1.2.2.1 p.2.2.1 p.2.2.2.1 p.2.2.2.2.1 p.2.2.2.2.2.1,λr=>(.cons (.AG 5) (.cons (dB r.1) .nil),[.box (.pr (.AG 6) (.pr (.AG 7) (.pr (.mp 3) (.pr (.AG 8) .u)))),.Bd,.Bd,Kk r.2.1 none,.Bd,Ay r.2.2.1,Ay r.2.2.2.1,Ay r.2.2.2.2.1,C7 r.2.2.2.2.2])⟩]
theorem AfC:Ao prog 104 AEL:=Av (fn:=f104) ⟨⟨iC,pk ⟨Aa0,Af2,uI,Af3,trivial⟩,λ_ R K=>by
 simp(disch:=refine id ?_;kernel_rfl) only[JZ,ASs,VE (AtV ..) (K:=A0 iC f104 5 R K),Ba (AtX ..) (K:=A0 iC f104 5 R K),Ba (AtZ ..) (K:=A0 iC f104 5 R K)];kernel_rfl⟩,trivial⟩
abbrev yk:=eN [(144,Avr),(146,AkR)] {A5:=[(4,{A7:=[0,5,6,15,16],Cg:=[(5,false,.row [] 102 Ap true)]})],BB:=[(4,[5])],Bw:=[(15,{A7:=[0,5,6,7,9,11,15,16],Cg:=[(11,true,.row [2,1] 199 ATF true)]}),(16,{A7:=[0,5,6,7,9,15,16],Cg:=[(5,false,.row [] 102 Ap true)]})],Da:=[(15,[0,5,6,7,8,9,11,15,16]),(16,[0,5,6,7,8,9,10,15,16])],stl:=[64]}
def ArP(a:Int) b (z_:Int×ASH×ASH×ATt×ASM×ASS×ATx):=sT 72 [(0,.ptr 0 a [] 0),(5,.AG 5),(6,.mp 6),(15,dI b),(16,dI z_.1)] (AjZ z_.2.1 z_.2.2.1 z_.2.2.2.1 z_.2.2.2.2.1 z_.2.2.2.2.2.1 z_.2.2.2.2.2.2)
def ApU(a b:Int):=λ(c:ATA)=>xE 0 72 [(5,.AG 5)] [.box fb,Ay c.1,Ay c.2.1,Kk c.2.2.1 none,C7 c.2.2.2.1,Fx c.2.2.2.2]
def ArO(a:Int) d b e (g:ATx) i j k l n (o:ATt) q:=sT 72 [(0,.ptr 0 a [] 0),(5,.AG 5),(6,.mp 6),(7,dI d),(8,dI i),(9,dI j),(10,dB k),(15,dI b),(16,dI d)] (AjZ l n o q e g)
def ApT(a:Int) d b (e:ASS) (g:ATx) (i:Int) (j:Int) (k:Bool) l n (o:ATt) q:=λ(s:(Int×ASS×ATx))=>xN 72 [(0,.ptr 0 a [] 0),(5,.AG 5),(6,.mp 6),(7,dI d),(9,dI s.1),(15,dI b),(16,dI d)] (AjZ l n o q s.2.1 s.2.2)
def ArN(a:Int) d i b l n (o:ATt) q e t (u:ATx):=sT 72 [(0,.ptr 0 a [] 0),(5,.AG 5),(6,.mp 6),(7,dI d),(8,dI i),(9,dI t),(11,.ptr 7 0 [] 0),(15,dI b),(16,dI d)] [.box fb,Ay l,Ay n,Kk o none,C7 q,Fx e,Aay u none,.box (.pr .zs (.pr (dB false) (.pr Tj .u)))]
def ApS(a:Int) d (i:Int) b l n (o:ATt) q e t (u:ATx):=λ(v:(Bool×Int×ASH))=>xN 72 [(0,.ptr 0 a [] 0),(5,.AG 5),(6,.mp 6),(7,dI d),(9,dI t),(11,.ptr 7 0 [] 0),(15,dI b),(16,dI d)] [.box fb,Ay l,Ay n,Kk o none,C7 q,Fx e,Aay u none,.box (.pr .zs (.pr (dB v.1) (.pr (.pr (dI v.2.1) (.pr (.AG 8) .u)) .u))),Bq v.2.2]
def DY(a d i b:Int)(l n:ASH)(o:ATt)(q:ASM)(e:ASS)(t:Int)(u:ATx):ATV (Bool×Int×ASH):=
 if 0<=i/\i<n.length then
 bif decide ((n.getD i.toNat ATE.zero)>=0)then
 (Dl (Bs ATE Ai o (n.getD i.toNat ATE.zero))).bind λw=>some (true,w.1,w.2)
 else
 some (false,0,([]:ASH))
 else none
theorem At0 a d i b l n o q e t u:AQ yk 5 15 (sb (cd f105 244) 462) 110 (ArN a d i b l n o q e t u) (DY a d i b l n o q e t u) (ApS a d i b l n o q e t u):=by
 unfold AQ;simp only[DY,ASr];kernel_rfl
def GM(a d b:Int)(e:ASS)(g:ATx)(i j:Int)(k:Bool)(l n:ASH)(o:ATt)(q:ASM):ATV (Int×ASS×ATx):=
 bif !k then
 (DY a d i b l n o q e (e.length:Int) (Cr ATE ATE g i (e.length:Int))).bind λv=>if(e.length+([(([]:ASH),v.1,(v.2.1,v.2.2,()),())]:ASS).length)*64<=140737488355328 then
 some ((e.length:Int),e++([(([]:ASH),v.1,(v.2.1,v.2.2,()),())]:ASS),Cr ATE ATE g i (e.length:Int))
 else none
 else
 some (j,e,g)
theorem At1 a d b e g i j k l n o q:AQ yk 5 16 (cd f105 244) 462 (ArO a d b e g i j k l n o q) (GM a d b e g i j k l n o q) (ApT a d b e g i j k l n o q):=by
 unfold AQ;simp(disch:=refine id ?_;kernel_rfl) only[GM,ASr,Ba (At0 ..) (K:=Uk yk 5 16)];kernel_rfl
def Ja(a b d:Int)(x y:ASH)(a1:ATt)(b1:ASM)(e:ASS)(g:ATx):ATV ((Int×ASH×ASH×ATt×ASM×ASS×ATx)⊕ATA):=
 bif decide (d<b)then
 (G8 a d x y a1 b1).bind λc1=>(GM a d b e g c1.1 (Bs ATE ATE g c1.1) (Uz ATE ATE g c1.1) c1.2.1 c1.2.2.1 c1.2.2.2.1 c1.2.2.2.2).bind λs=>if(0:Int)<=s.1/\s.1<(s.2.1.length:Int)then
 if((s.2.1.getD s.1.toNat Ap.zero).1.length+([d]:ASH).length)*8<=140737488355328 then
 if(0:Int)<=s.1/\s.1<(s.2.1.length:Int)then
 if s.1=s.1 then
 some (.inl (wI (d+1),c1.2.1,c1.2.2.1,c1.2.2.2.1,c1.2.2.2.2,s.2.1.set s.1.toNat ((s.2.1.getD s.1.toNat Ap.zero).1++([d]:ASH),(s.2.1.getD s.1.toNat Ap.zero).2),s.2.2))
 else none
 else none
 else none
 else none
 else
 some (.inr (x,y,a1,b1,e))
def Fg a b (z_:Int×ASH×ASH×ATt×ASM×ASS×ATx):=Ja a b z_.1 z_.2.1 z_.2.2.1 z_.2.2.2.1 z_.2.2.2.2.1 z_.2.2.2.2.2.1 z_.2.2.2.2.2.2
def KC a b d x y a1 b1 e g:=fix (Fg a b) (d,x,y,a1,b1,e,g)
theorem At2 a b:A3 yk 5 4 (code f105) 122 (ArP a b) (Fg a b) (ApU a b):=by
 intro _;simp(disch:=refine id ?_;kernel_rfl) only[-eq_self,Fg,Ja,ASr,Ba (At1 ..) (K:=JG yk 5 4)];kernel_rfl
def GA(a b:Int)(d1 e1:ASH)(g1:ATt)(i1:ASM):ATV ATA:=
 (KC a b 0 d1 e1 g1 i1 ([]:ASS) ([]:ATU AS7)).bind λc=>some (c.1,c.2.1,c.2.2.1,c.2.2.2.1,c.2.2.2.2)
def AEM:=Ci [.VA,.d ATE] [⟨[.ptr 0 [] 0,.AB [] ATE],[.box (.pr (.k I8) (.pr (.k Pu) (.pr (.k (.mp 3)) (.pr (.k UV) (.k .u))))),.row 2 .Aw ATE,.row 2 .Aw ATE,.map (.sh []) ATE Ai,.row 164 .Aw Ae],ATA,λp=>GA p.1.1 p.1.2.1 p.2.2.1 p.2.2.2.1 p.2.2.2.2.1 p.2.2.2.2.2.1,λr=>(.AG 5,[.box fb,Ay r.1,Ay r.2.1,Kk r.2.2.1 none,C7 r.2.2.2.1,Fx r.2.2.2.2])⟩]
theorem AfD:Ao prog 105 AEM:=Av (fn:=f105) ⟨⟨yk,pk ⟨uI,kg,trivial⟩,λ_ R K=>by
 simp(disch:=refine id ?_;kernel_rfl) only[GA,ASs,KC,AF (At2 _ _) (K:=A0 yk f105 5 R K)];kernel_rfl⟩,trivial⟩
abbrev yl:=eN [(102,AEJ),(103,AEK),(104,AEL),(105,AEM)] {A5:=[(4,{A7:=[0,2,3,4,25,26,27],Cg:=[(4,true,.row [3] 164 Ae true)]}),(8,{A7:=[0,2,3,4,6,25,26,27,37,38,39],Cg:=[(4,true,.row [3] 164 Ae true)]})],BB:=[(4,[0,2,3,4]),(8,[0,2,3,4,25,26,27])],Bw:=[(15,{A7:=[0,2,3,4,25,26,27],Cg:=[(4,true,.row [3] 164 Ae true)]})],Da:=[(15,[0,2,3,4,25,26,27])],gk:=[(0,.row [1] 102 Ap true),(0,.row [2] 2 ATE true)]}
def ArS(a:Int) b (c:Int) d (z_:Int×ASL×ASN×ATy×ASV×ASM×ATu×ASH×ASH×ATt×ASM):=sT 67 (qj a c b d z_.1) (xP z_.2.1 z_.2.2.1 z_.2.2.2.1 z_.2.2.2.2.1 z_.2.2.2.2.2.1 z_.2.2.2.2.2.2.1 z_.2.2.2.2.2.2.2.1 z_.2.2.2.2.2.2.2.2.1 z_.2.2.2.2.2.2.2.2.2.1 z_.2.2.2.2.2.2.2.2.2.2)
def ApX(a:Int)(b:ASN)(c d:Int):=Sum.elim (λ(e:ATB)=>xR 67 [(0,.ptr 0 a [] 0),(2,OZ),(3,YA),(4,.ptr 7 c [] 0)] (Aj0 e.1 e.2.1 e.2.2.1 e.2.2.2.1 e.2.2.2.2.1 e.2.2.2.2.2.1 e.2.2.2.2.2.2.1 e.2.2.2.2.2.2.2.1 e.2.2.2.2.2.2.2.2.1 e.2.2.2.2.2.2.2.2.2.1 e.2.2.2.2.2.2.2.2.2.2)) (λ(g:ATC)=>xE 0 67 [(0,.ptr 0 a [] 0),(2,OZ),(3,YA),(4,.ptr 7 c [] 0)] (xP g.1 g.2.1 g.2.2.1 g.2.2.2.1 g.2.2.2.2.1 g.2.2.2.2.2.1 g.2.2.2.2.2.2.1 g.2.2.2.2.2.2.2.1 g.2.2.2.2.2.2.2.2.1 g.2.2.2.2.2.2.2.2.2))
def ArR(a c:Int) b d i j k l n o (q:ATu) s t (u:ATt) v:=sT 67 (qj a c b d i) (xP j k l n o q s t u v)
def ApW(a c:Int) b d i (j:ASL) (k:ASN) (l:ATy) (n:ASV) (o:ASM) (q:ATu) (s:ASH) (t:ASH) (u:ATt) (v:ASM):=Sum.elim (λ(w:ATC)=>xN 67 (qj a c b d i) (xP w.1 w.2.1 w.2.2.1 w.2.2.2.1 w.2.2.2.2.1 w.2.2.2.2.2.1 w.2.2.2.2.2.2.1 w.2.2.2.2.2.2.2.1 w.2.2.2.2.2.2.2.2.1 w.2.2.2.2.2.2.2.2.2)) (λ(x:ATB)=>xR 67 (qj a c b d i) (Aj0 x.1 x.2.1 x.2.2.1 x.2.2.2.1 x.2.2.2.2.1 x.2.2.2.2.2.1 x.2.2.2.2.2.2.1 x.2.2.2.2.2.2.2.1 x.2.2.2.2.2.2.2.2.1 x.2.2.2.2.2.2.2.2.2.1 x.2.2.2.2.2.2.2.2.2.2))
def ArQ(a c:Int) b d i y a1 b1 c1 d1 e1 g1 (i1:ATu) j1 (z_:Int×ASH×ASH×ATt×ASM):=sT 67 [(0,.ptr 0 a [] 0),(2,OZ),(3,YA),(4,.ptr 7 c [] 0),(6,tG),(25,Bb b),(26,dI d),(27,dI i),(37,tB y),(38,dI a1),(39,dI z_.1)] [.box (.pr (Ar b1) (.pr (Bb c1) Aj8)),CS d1,Dn e1,DG g1,HR i1 none,.box iZ,.box (.pr cN xQ),.box Aov,.box (Yz j1),Ay z_.2.1,Ay z_.2.2.1,Kk z_.2.2.2.1 none,C7 z_.2.2.2.2]
def ApV(a c:Int) b d i (y:AST) (a1:Int) b1 c1 d1 e1 g1 (i1:ATu) (j1:ASx):=Sum.elim (λ(k1:(ASH×ASH×ASH×ATt×ASM))=>xR 67 (qj a c b d i) (Aj0 b1 c1 d1 e1 g1 i1 k1.1 k1.2.1 k1.2.2.1 k1.2.2.2.1 k1.2.2.2.2)) (λ(l1:(ASH×ASH×ATt×ASM))=>xE 2 67 (qj a c b d i) (xP b1 c1 d1 e1 g1 i1 l1.1 l1.2.1 l1.2.2.1 l1.2.2.2))
def Dw(a c:Int)(b:ASN)(d i:Int)(y:AST)(a1:Int)(b1:ASL)(c1:ASN)(d1:ATy)(e1:ASV)(g1:ASM)(i1:ATu)(j1:ASx)(n1:Int)(o1 q1:ASH)(s1:ATt)(t1:ASM):ATV ((Int×ASH×ASH×ATt×ASM)⊕((ASH×ASH×ASH×ATt×ASM)⊕(ASH×ASH×ATt×ASM))):=
 bif decide (n1<a1)then
 if 0<=n1/\n1<y.length then
 (JZ c (y.getD n1.toNat As.zero) j1.1 o1 q1 s1 t1).bind λu1=>bif !u1.1 then
 some (.inr (.inl (u1.2.2.1,u1.2.2.2.1,u1.2.2.2.2.1,u1.2.1,u1.2.2.2.2.2)))
 else
 some (.inl (wI (n1+1),u1.2.2.2.1,u1.2.2.2.2.1,u1.2.1,u1.2.2.2.2.2))
 else none
 else
 some (.inr (.inr (o1,q1,s1,t1)))
def CG a c b d i y a1 b1 c1 d1 e1 g1 i1 j1 (z_:Int×ASH×ASH×ATt×ASM):=Dw a c b d i y a1 b1 c1 d1 e1 g1 i1 j1 z_.1 z_.2.1 z_.2.2.1 z_.2.2.2.1 z_.2.2.2.2
def Dh a c b d i y a1 b1 c1 d1 e1 g1 i1 j1 n1 o1 q1 s1 t1:=fix (CG a c b d i y a1 b1 c1 d1 e1 g1 i1 j1) (n1,o1,q1,s1,t1)
theorem At3 a c b d i y a1 b1 c1 d1 e1 g1 i1 j1:A3 yl 5 8 (sb (cd f51 244) 14) 46 (ArQ a c b d i y a1 b1 c1 d1 e1 g1 i1 j1) (CG a c b d i y a1 b1 c1 d1 e1 g1 i1 j1) (ApV a c b d i y a1 b1 c1 d1 e1 g1 i1 j1):=by
 intro _;simp only[CG,Dw,ASr];kernel_rfl
def Di(a c:Int)(b:ASN)(d i:Int)(j:ASL)(k:ASN)(l:ATy)(n:ASV)(o:ASM)(q:ATu)(s t:ASH)(u:ATt)(v:ASM):ATV (ATC⊕ATB):=
 if 0<=i/\i<b.length then
 bif !(b.getD i.toNat Af.zero).2.1 then
 some (.inl (j,k,l,n,o,q,s,t,u,v))
 else
 (ID a i j k l n o q).bind λv1=>(Dh a c b d i v1.1 (v1.1.length:Int) v1.2.1 v1.2.2.1 v1.2.2.2.1 v1.2.2.2.2.1 v1.2.2.2.2.2.1 v1.2.2.2.2.2.2 (b.getD i.toNat Af.zero) 0 s t u v).bind (Sum.elim (λk1=>some (.inr (v1.2.1,v1.2.2.1,v1.2.2.2.1,v1.2.2.2.2.1,v1.2.2.2.2.2.1,v1.2.2.2.2.2.2,k1.1,k1.2.1,k1.2.2.1,k1.2.2.2.1,k1.2.2.2.2))) (λl1=>some (.inl (v1.2.1,v1.2.2.1,v1.2.2.2.1,v1.2.2.2.2.1,v1.2.2.2.2.2.1,v1.2.2.2.2.2.2,l1.1,l1.2.1,l1.2.2.1,l1.2.2.2))))
 else none
theorem At4 a c b d i j k l n o q s t u v:AQ yl 5 15 (cd f51 244) 14 (ArR a c b d i j k l n o q s t u v) (Di a c b d i j k l n o q s t u v) (ApW a c b d i j k l n o q s t u v):=by
 unfold AQ;simp(disch:=refine id ?_;kernel_rfl) only[Di,ASr,Dh,AF (At3 _ _ _ _ _ _ _ _ _ _ _ _ _ _) (K:=Uk yl 5 15)];kernel_rfl
def CH(a:Int)(b:ASN)(c d i:Int)(j:ASL)(k:ASN)(l:ATy)(n:ASV)(o:ASM)(q:ATu)(s t:ASH)(u:ATt)(v:ASM):ATV ((Int×ASL×ASN×ATy×ASV×ASM×ATu×ASH×ASH×ATt×ASM)⊕(ATB⊕ATC)):=
 bif decide (i<d)then
 (Di a c b d i j k l n o q s t u v).bind (Sum.elim (λw=>some (.inl (wI (i+1),w.1,w.2.1,w.2.2.1,w.2.2.2.1,w.2.2.2.2.1,w.2.2.2.2.2.1,w.2.2.2.2.2.2.1,w.2.2.2.2.2.2.2.1,w.2.2.2.2.2.2.2.2.1,w.2.2.2.2.2.2.2.2.2))) (λx=>some (.inr (.inl (x.1,x.2.1,x.2.2.1,x.2.2.2.1,x.2.2.2.2.1,x.2.2.2.2.2.1,x.2.2.2.2.2.2.1,x.2.2.2.2.2.2.2.1,x.2.2.2.2.2.2.2.2.1,x.2.2.2.2.2.2.2.2.2.1,x.2.2.2.2.2.2.2.2.2.2)))))
 else
 some (.inr (.inr (j,k,l,n,o,q,s,t,u,v)))
def B8 a b c d (z_:Int×ASL×ASN×ATy×ASV×ASM×ATu×ASH×ASH×ATt×ASM):=CH a b c d z_.1 z_.2.1 z_.2.2.1 z_.2.2.2.1 z_.2.2.2.2.1 z_.2.2.2.2.2.1 z_.2.2.2.2.2.2.1 z_.2.2.2.2.2.2.2.1 z_.2.2.2.2.2.2.2.2.1 z_.2.2.2.2.2.2.2.2.2.1 z_.2.2.2.2.2.2.2.2.2.2
def Cy a b c d i j k l n o q s t u v:=fix (B8 a b c d) (i,j,k,l,n,o,q,s,t,u,v)
theorem At5 a b c d:A3 yl 5 4 (code f51) 122 (ArS a b c d) (B8 a b c d) (ApX a b c d):=by
 intro _;simp(disch:=refine id ?_;kernel_rfl) only[B8,CH,ASr,Ba (At4 ..) (K:=JG yl 5 4)];kernel_rfl
def HD(a:Int)(w1:ASL)(b:ASN)(x1:ATy)(y1:ASV)(a2:ASM)(b2:ATu):ATV ATD:=
 (M8 (a2.length:Int)).bind λc2=>(Cy a b c2.1 (b.length:Int) 0 w1 b x1 y1 a2 b2 c2.2.1 c2.2.2.1 c2.2.2.2 ([]:ASM)).bind (Sum.elim (λe=>some (e.1,e.2.1,e.2.2.1,e.2.2.2.1,e.2.2.2.2.1,e.2.2.2.2.2.1,([]:ASS),e.2.2.2.2.2.2.1)) (λg=>(GA c2.1 (g.2.2.2.2.1.length:Int) g.2.2.2.2.2.2.1 g.2.2.2.2.2.2.2.1 g.2.2.2.2.2.2.2.2.1 g.2.2.2.2.2.2.2.2.2).bind λd2=>some (g.1,g.2.1,g.2.2.1,g.2.2.2.1,g.2.2.2.2.1,g.2.2.2.2.2.1,d2.2.2.2.2,([]:ASH))))
def c51:=Ci [.VA] [⟨[.ptr 0 [] 0],[.box (.pr (.AB [] ATK) (.pr (.AB [] ATL) (.pr (.k I8) (.pr (.pr (.k Pu) (.k .u)) (.pr (.k (.AG 3)) (.pr (.k (.mp 4)) (.k .u))))))),.row 222 .Aw (.AH ATH (.AH ATH .unit)),.row 32 .Aw ATJ,.row 151 .Aw Ae,.map .Aw Aa ATE],ATD,λp=>HD p.1.1 p.2.1.1 p.2.1.2.1 p.2.2.1 p.2.2.2.1 p.2.2.2.2.1 p.2.2.2.2.2.1,λr=>(.pr cN Am0,[.box (.pr (Ar r.1) (.pr (Bb r.2.1) Aj8)),CS r.2.2.1,Dn r.2.2.2.1,DG r.2.2.2.2.1,HR r.2.2.2.2.2.1 none,Fx r.2.2.2.2.2.2.1,Ay r.2.2.2.2.2.2.2])⟩]
theorem Ale:Ao prog 51 c51:=Av (fn:=f51) ⟨⟨yl,pk ⟨AfA,AfB,AfC,AfD,trivial⟩,λ_ R K=>by
 simp(disch:=refine id ?_;kernel_rfl) only[HD,ASs,Cy,AF (At5 _ _ _ _) (K:=A0 yl f51 5 R K)];kernel_rfl⟩,trivial⟩
abbrev AIw:=eN [] {}
def I9(a:ASA)(b:Int):ATV Int:=
 if 0<=(wI (Int.tdiv b 64))/\(wI (Int.tdiv b 64))<a.2.1.length then
 if(Int.tmod b 64)<(0:Int)then none else
 some (fq .u64 (T8 .u64 (a.2.1.getD (wI (Int.tdiv b 64)).toNat ATF.zero) (Int.tmod b 64)) 1)
 else none
def Avp:=Ci [.d Ai,.d ATE] [⟨[.AB [] Ai,.AB [] ATE],[],Int,λp=>I9 p.1.1 p.1.2.1,λr=>(dD ATF r,[])⟩]
theorem uG:Ao prog 128 Avp:=Av (fn:=f128) ⟨⟨AIw,pk trivial,λ_ R K=>by
 simp only[I9,ASs];kernel_rfl⟩,trivial⟩
abbrev jJ:=eN [(128,Avp)] {wD:=[(79,210)],A5:=[(3,[0,3,5,24,25,26]),(8,[0,5,39,40,41]),(11,[0,5,8,9,39,40,41,47,48,49]),(15,[0,5,8,9,12,39,40,41,47,48,49,61,62])],BB:=[(3,[0,3,5]),(8,[5]),(11,[0,5,39,40,41]),(15,[0,5,8,9,39,40,41,47,48,49])],Bw:=[(20,[0,5,8,9,12,13,14,39,40,41,47,48,49,61,62])],Da:=[(20,[0,5,8,9,12,13,14,39,40,41,47,48,49,61,62])]}
def ArX(a:Int) b c d e g i j (k:ATu) l (z_:Int×AS0):=sT 90 [(0,.ptr 0 a [] 0),(5,.AG 7),(39,.AG 2),(40,dI l),(41,dI z_.1)] (Aj1 b c d e g i j k z_.2)
def Ap2(a:Int) b c d e g i j (k:ATu) (l:Int):=λ(n:AS0)=>xE 2 90 [(5,.AG 7)] (Aj1 b c d e g i j k n)
def ArW(a:Int) o l b c d e g i j (k:ATu) q s t (z_:Int×AS0):=sT 90 (Aop a o l o q s z_.1) [.box (.pr (Ar b) (.pr (Bb c) tL)),Dn d,Fx e,Ay g,CS i,DG j,HR k none,Vr z_.2,.box (.AB [2] Ap t)]
def Ap1(a:Int) o l b c d e g i j (k:ATu) (q:ASH) (s:Int) (t:ASE):=λ(u:AS0)=>xE 4 90 [(0,.ptr 0 a [] 0),(5,.AG 7),(39,.AG 2),(40,dI l),(41,dI o)] (Aj1 b c d e g i j k u)
def ArV(a:Int) o l q s v b c d e g i j (k:ATu) t w x (z_:Int×AS0):=sT 90 [(0,.ptr 0 a [] 0),(5,.AG 7),(8,dI o),(9,tG),(12,.ptr 9 0 [] 0),(39,.AG 2),(40,dI l),(41,dI o),(47,.AB [2] ATJ q),(48,dI s),(49,dI v),(61,dI w),(62,dI z_.1)] [.box (.pr (Ar b) (.pr (Bb c) tL)),Dn d,Fx e,Ay g,CS i,DG j,HR k none,Vr z_.2,.box (.AB [2] Ap t),.box (EE x)]
def Ap0(a:Int) o l q s v b c d e g i j (k:ATu) t (w:Int) (x:ASw):=λ(y:AS0)=>xE 6 90 (Aop a o l o q s v) [.box (.pr (Ar b) (.pr (Bb c) tL)),Dn d,Fx e,Ay g,CS i,DG j,HR k none,Vr y,.box (.AB [2] Ap t)]
def ArU(a:Int) o a1 l q s v w b c d e g i j (k:ATu) b1 t x:=sT 90 (Aoq a o a1 l o q s v w a1) [.box (.pr (Ar b) (.pr (Bb c) tL)),Dn d,Fx e,Ay g,CS i,DG j,HR k none,Vr b1,.box (.AB [2] Ap t),.box (EE x),.box (.pr (dI o) (.pr (dI a1) (.pr (dD ATF 0) .u)))]
def ApZ(a:Int) o a1 l q s v w b c d e g i j (k:ATu) b1 t x:=λ(c1:(Int×Int×Int))=>xN 90 (Aoq a o a1 l o q s v w a1) [.box (.pr (Ar b) (.pr (Bb c) tL)),Dn d,Fx e,Ay g,CS i,DG j,HR k none,Vr b1,.box (.AB [2] Ap t),.box (EE x),.box (.pr (dI c1.1) (.pr (dI c1.2.1) (.pr (dD ATF c1.2.2) .u)))]
def Js(a o a1 l:Int)(q:ASH)(s v w:Int)(b:ASL)(c:ASN)(d:ASV)(e:ASS)(g:ASH)(i:ATy)(j:ASM)(k:ATu)(b1:AS0)(t:ASE)(x:ASw):ATV (Int×Int×Int):=
 bif t.2.1 then
 (I9 t.2.2.1 a1).bind λd1=>some (-1,0,d1)
 else
 some (o,a1,0)
theorem At7 a o a1 l q s v w b c d e g i j k b1 t x:AQ jJ 7 20 (sb (sb (cd f73 244) 460) 924) 230 (ArU a o a1 l q s v w b c d e g i j k b1 t x) (Js a o a1 l q s v w b c d e g i j k b1 t x) (ApZ a o a1 l q s v w b c d e g i j k b1 t x):=by
 unfold AQ;simp only[Js,ASr];kernel_rfl
def LS(a o l:Int)(q:ASH)(s v:Int)(b:ASL)(c:ASN)(d:ASV)(e:ASS)(g:ASH)(i:ATy)(j:ASM)(k:ATu)(t:ASE)(w:Int)(x:ASw)(a1:Int)(b1:AS0):ATV ((Int×AS0)⊕AS0):=
 bif decide (a1<w)then
 (Js a o a1 l q s v w b c d e g i j k b1 t x).bind λc1=>if(0:Int)<=x.1/\x.1<(b1.length:Int)then
 if(0:Int)<=(wI (x.2.1+a1))/\(wI (x.2.1+a1))<(b1.getD x.1.toNat ATP.zero).length then
 some (.inl (wI (a1+1),b1.set x.1.toNat ((b1.getD x.1.toNat ATP.zero).set (wI (x.2.1+a1)).toNat (c1.1,c1.2.1,c1.2.2,()))))
 else none
 else none
 else
 some (.inr b1)
def HY a o l q s v b c d e g i j k t w x (z_:Int×AS0):=LS a o l q s v b c d e g i j k t w x z_.1 z_.2
def Jt a o l q s v b c d e g i j k t w x a1 b1:=fix (HY a o l q s v b c d e g i j k t w x) (a1,b1)
theorem At8 a o l q s v b c d e g i j k t w x:A3 jJ 7 15 (sb (cd f73 244) 460) 462 (ArV a o l q s v b c d e g i j k t w x) (HY a o l q s v b c d e g i j k t w x) (Ap0 a o l q s v b c d e g i j k t w x):=by
 intro _;simp(disch:=refine id ?_;kernel_rfl) only[HY,LS,ASr,Ba (At7 ..) (K:=JG jJ 7 15)];kernel_rfl
def LU(a o l:Int)(b:ASL)(c:ASN)(d:ASV)(e:ASS)(g:ASH)(i:ATy)(j:ASM)(k:ATu)(q:ASH)(s:Int)(t:ASE)(v:Int)(e1:AS0):ATV ((Int×AS0)⊕AS0):=
 bif decide (v<s)then
 if 0<=v/\v<q.length then
 if(0:Int)<=(q.getD v.toNat ATE.zero)/\(q.getD v.toNat ATE.zero)<(j.length:Int)then
 (Jt a o l q s v b c d e g i j k t (j.getD (q.getD v.toNat ATE.zero).toNat Ae.zero).2.2.1 (j.getD (q.getD v.toNat ATE.zero).toNat Ae.zero) 0 e1).bind λy=>some (.inl (wI (v+1),y))
 else none
 else none
 else
 some (.inr e1)
def HZ a o l b c d e g i j k q s t (z_:Int×AS0):=LU a o l b c d e g i j k q s t z_.1 z_.2
def OT a o l b c d e g i j k q s t v e1:=fix (HZ a o l b c d e g i j k q s t) (v,e1)
theorem At9 a o l b c d e g i j k q s t:A3 jJ 7 11 (cd f73 244) 230 (ArW a o l b c d e g i j k q s t) (HZ a o l b c d e g i j k q s t) (Ap1 a o l b c d e g i j k q s t):=by
 intro _;simp(disch:=refine id ?_;kernel_rfl) only[HZ,LU,ASr,Jt,AF (At8 _ _ _ _ _ _ _ _ _ _ _ _ _ _ _ _ _) (K:=JG jJ 7 11)];kernel_rfl
def LV(a:Int)(b:ASL)(c:ASN)(d:ASV)(e:ASS)(g:ASH)(i:ATy)(j:ASM)(k:ATu)(l o:Int)(g1:AS0):ATV ((Int×AS0)⊕AS0):=
 bif decide (o<l)then
 if 0<=o/\o<e.length then
 (OT a o l b c d e g i j k (e.getD o.toNat Ap.zero).1 ((e.getD o.toNat Ap.zero).1.length:Int) (e.getD o.toNat Ap.zero) 0 g1).bind λu=>some (.inl (wI (o+1),u))
 else none
 else
 some (.inr g1)
def H5 a b c d e g i j k l (z_:Int×AS0):=LV a b c d e g i j k l z_.1 z_.2
def OU a b c d e g i j k l o g1:=fix (H5 a b c d e g i j k l) (o,g1)
theorem Aua a b c d e g i j k l:A3 jJ 7 8 (code f73) 122 (ArX a b c d e g i j k l) (H5 a b c d e g i j k l) (Ap2 a b c d e g i j k l):=by
 intro _;simp(disch:=refine id ?_;kernel_rfl) only[H5,LV,ASr,OT,AF (At9 _ _ _ _ _ _ _ _ _ _ _ _ _ _) (K:=JG jJ 7 8)];kernel_rfl
def ArT(a:Int) b c d e g i j (k:ATu) i1 (z_:Int×AS0):=sT 90 [(0,.ptr 0 a [] 0),(3,.ptr 7 0 [] 0),(5,.AG 8),(24,Ar b),(25,dI i1),(26,dI z_.1)] [.box (.pr (Ar b) (.pr (Bb c) tL)),Dn d,Fx e,Ay g,CS i,DG j,HR k none,.box (.pr fe qk),Vr z_.2]
def ApY(a:Int) b c d e g i j (k:ATu) (i1:Int):=λ(j1:AS0)=>xE 0 90 [(0,.ptr 0 a [] 0),(3,.ptr 7 0 [] 0),(5,.AG 8)] [.box (.pr (Ar b) (.pr (Bb c) tL)),Dn d,Fx e,Ay g,CS i,DG j,HR k none,.box (.pr fe qk),Vr j1]
def LR(a:Int)(b:ASL)(c:ASN)(d:ASV)(e:ASS)(g:ASH)(i:ATy)(j:ASM)(k:ATu)(i1 k1:Int)(l1:AS0):ATV ((Int×AS0)⊕AS0):=
 bif decide (k1<i1)then
 if 0<=k1/\k1<b.length then
 if Ty.row Ak=true/\(0:Int)<=(b.getD k1.toNat Ab.zero).2.1/\(b.getD k1.toNat Ab.zero).2.1<=(b.getD k1.toNat Ab.zero).2.1/\((24:Nat):Int)*(b.getD k1.toNat Ab.zero).2.1<=(281474976710656:Int)/\(b.getD k1.toNat Ab.zero).2.1<=(9223372036854775807:Int)then
 if 0<=k1/\k1<l1.length then
 some (.inl (wI (k1+1),l1.set k1.toNat (List.replicate (b.getD k1.toNat Ab.zero).2.1.toNat (0,0,0,()))))
 else none
 else none
 else none
 else
 some (.inr l1)
def HX a b c d e g i j k i1 (z_:Int×AS0):=LR a b c d e g i j k i1 z_.1 z_.2
def OS a b c d e g i j k i1 k1 l1:=fix (HX a b c d e g i j k i1) (k1,l1)
theorem At6 a b c d e g i j k i1:A3 jJ 7 3 (code f73) 58 (ArT a b c d e g i j k i1) (HX a b c d e g i j k i1) (ApY a b c d e g i j k i1):=by
 intro _;simp only[HX,LR,ASr];kernel_rfl
def JY(a:Int)(b:ASL)(c:ASN)(d:ASV)(e:ASS)(g:ASH)(i:ATy)(j:ASM)(k:ATu):ATV (ASL×ASN×ASV×ASS×ASH×ATy×ASM×ATu×AS0):=
 if Ty.row ATP=true/\(0:Int)<=(b.length:Int)/\(b.length:Int)<=(b.length:Int)/\((24:Nat):Int)*(b.length:Int)<=(281474976710656:Int)/\(b.length:Int)<=(9223372036854775807:Int)then
 (OS a b c d e g i j k (b.length:Int) 0 (List.replicate (b.length:Int).toNat ([]:ASR))).bind λj1=>(OU a b c d e g i j k (e.length:Int) 0 j1).bind λn=>some (b,c,d,e,g,i,j,k,n)
 else none
def c73:=Ci [.VA,.VA] [⟨[.ptr 0 [] 0,.pr (.pr (.k I8) (.k .u)) (.pr (.k Pu) (.pr (.k (.AG 3)) (.k .u)))],[.box (.pr (.AB [] ATK) (.pr (.AB [] ATL) (.pr (.k UV) (.pr (.pr (.k I8) (.k .u)) (.pr (.k (.AG 5)) (.pr (.k (.mp 6)) (.k .u))))))),.row 32 .Aw ATJ,.row 102 .Aw Ap,.row 2 .Aw ATE,.row 222 .Aw (.AH ATH (.AH ATH .unit)),.row 151 .Aw Ae,.map .Aw Aa ATE],ASL×ASN×ASV×ASS×ASH×ATy×ASM×ATu×AS0,λp=>JY p.1.1 p.2.1.1 p.2.1.2.1 p.2.2.1 p.2.2.2.1 p.2.2.2.2.1 p.2.2.2.2.2.1 p.2.2.2.2.2.2.1 p.2.2.2.2.2.2.2.1,λr=>(.AG 7,[.box (.pr (Ar r.1) (.pr (Bb r.2.1) tL)),Dn r.2.2.1,Fx r.2.2.2.1,Ay r.2.2.2.2.1,CS r.2.2.2.2.2.1,DG r.2.2.2.2.2.2.1,HR r.2.2.2.2.2.2.2.1 none,Vr r.2.2.2.2.2.2.2.2])⟩]
theorem Alq:Ao prog 73 c73:=Av (fn:=f73) ⟨⟨jJ,pk ⟨uG,trivial⟩,λ_ R K=>by
 simp(disch:=refine id ?_;kernel_rfl) only[JY,ASs,OS,AF (At6 _ _ _ _ _ _ _ _ _ _) (K:=A0 jJ f73 7 R K),OU,AF (Aua _ _ _ _ _ _ _ _ _ _) (K:=A0 jJ f73 7 R K)];kernel_rfl⟩,trivial⟩
abbrev ym:=eN [(128,Avp)] {A5:=[(3,{A7:=[1,5,10,11,12],Cg:=[(5,false,.row [] 210 Ak true)]}),(6,{A7:=[1,5,7,10,11,12,17,18],Cg:=[(5,false,.row [] 210 Ak true)]})],BB:=[(3,[5]),(6,[1,5,10,11,12])],Bw:=[(11,[1,5,7,10,11,12,17,18])],Da:=[(11,[1,5,7,10,11,12,17,18])]}
def Ar0 a b c (z_:Int×ASR):=sT 49 [(1,tA a),(5,.AG 0),(10,BV b),(11,dI c),(12,dI z_.1)] [YC z_.2]
def Ap5(a:AS0)(b:ASO)(c:Int):=λ(d:ASR)=>xE 0 49 [(5,.AG 0)] [YC d]
def ArZ a b c e g i (z_:Int×ASR):=sT 49 (Aj2 a b c e g z_.1) [YC z_.2,.box (Lf i)]
def Ap4 a b c e (g:Int) (i:ASy):=λ(j:ASR)=>xE 2 49 [(1,tA a),(5,.AG 0),(10,BV b),(11,dI c),(12,dI e)] [YC j]
def ArY a b c e g k l i:=sT 49 (Aj2 a b c e g k) [YC l,.box (Lf i)]
def Ap3 a b c e g k (l:ASR) i:=λ(n:ASR)=>xN 49 (Aj2 a b c e g k) [YC n,.box (Lf i)]
def PD(a:AS0)(b:ASO)(c e g k:Int)(l:ASR)(i:ASy):ATV ASR:=
 bif i.1==(-1)then
 (I9 i.2.2.2.1 k).bind λo=>if(l.length+([(-1,0,o,())]:ASR).length)*24<=140737488355328 then
 some (l++([(-1,0,o,())]:ASR))
 else none
 else
 if(0:Int)<=i.1/\i.1<(a.length:Int)then
 if 0<=(wI (i.2.1+k))/\(wI (i.2.1+k))<(a.getD i.1.toNat ATP.zero).length then
 if(l.length+([(a.getD i.1.toNat ATP.zero).getD (wI (i.2.1+k)).toNat Ak.zero]:ASR).length)*24<=140737488355328 then
 some (l++([(a.getD i.1.toNat ATP.zero).getD (wI (i.2.1+k)).toNat Ak.zero]:ASR))
 else none
 else none
 else none
theorem Aub a b c e g k l i:AQ ym 0 11 (sb (cd f126 116) 460) 14 (ArY a b c e g k l i) (PD a b c e g k l i) (Ap3 a b c e g k l i):=by
 unfold AQ;simp only[PD,ASr];kernel_rfl
def Mb(a:AS0)(b:ASO)(c e g:Int)(i:ASy)(k:Int)(l:ASR):ATV ((Int×ASR)⊕ASR):=
 bif decide (k<g)then
 (PD a b c e g k l i).bind λn=>some (.inl (wI (k+1),n))
 else
 some (.inr l)
def FV a b c e g i (z_:Int×ASR):=Mb a b c e g i z_.1 z_.2
def Ur a b c e g i k l:=fix (FV a b c e g i) (k,l)
theorem Auc a b c e g i:A3 ym 0 6 (cd f126 116) 230 (ArZ a b c e g i) (FV a b c e g i) (Ap4 a b c e g i):=by
 intro _;simp(disch:=refine id ?_;kernel_rfl) only[FV,Mb,ASr,Ba (Aub ..) (K:=JG ym 0 6)];kernel_rfl
def Mc(a:AS0)(b:ASO)(c e:Int)(q:ASR):ATV ((Int×ASR)⊕ASR):=
 bif decide (e<c)then
 if 0<=e/\e<b.length then
 (Ur a b c e (b.getD e.toNat Ag.zero).2.2.1 (b.getD e.toNat Ag.zero) 0 q).bind λj=>some (.inl (wI (e+1),j))
 else none
 else
 some (.inr q)
def DZ a b c (z_:Int×ASR):=Mc a b c z_.1 z_.2
def Us a b c e q:=fix (DZ a b c) (e,q)
theorem Aud a b c:A3 ym 0 3 (code f126) 58 (Ar0 a b c) (DZ a b c) (Ap5 a b c):=by
 intro _;simp(disch:=refine id ?_;kernel_rfl) only[DZ,Mc,ASr,Ur,AF (Auc _ _ _ _ _ _) (K:=JG ym 0 3)];kernel_rfl
def Rl(b:ASO)(a:AS0):ATV ASR:=
 (Us a b (b.length:Int) 0 ([]:ASR)).bind λd=>some d
def AEX:=Ci [.d ATH,.d (.sl ATP)] [⟨[.AB [] ATH,.AB [] (.sl ATP)],[],ASR,λp=>Rl p.1.1 p.1.2.1,λr=>(.AG 0,[YC r])⟩]
theorem AfP:Ao prog 126 AEX:=Av (fn:=f126) ⟨⟨ym,pk ⟨uG,trivial⟩,λ_ R K=>by
 simp(disch:=refine id ?_;kernel_rfl) only[Rl,ASs,Us,AF (Aud _ _ _) (K:=A0 ym f126 0 R K)];kernel_rfl⟩,trivial⟩
abbrev AIx:=eN [] {}
def Ly(a b:Int)(c:ASH):ATV ASH:=
 if 0<=(wI (Int.tdiv b 64))/\(wI (Int.tdiv b 64))<c.length then
 if(Int.tmod b 64)<(0:Int)then none else
 if 0<=(wI (Int.tdiv b 64))/\(wI (Int.tdiv b 64))<c.length then
 some (c.set (wI (Int.tdiv b 64)).toNat (gg .u64 (c.getD (wI (Int.tdiv b 64)).toNat ATF.zero) (N5 .u64 1 (Int.tmod b 64))))
 else none
 else none
def AEY:=Ci [.VA,.d ATE] [⟨[.pr (.AB [] ATE) (.pr (.k HS) (.k .u)),.AB [] ATE],[.row 199 .Aw ATF],ASH,λp=>Ly p.1.1.1 p.1.2.1 p.2.1,λr=>(.nil,[Bq r])⟩]
theorem AfQ:Ao prog 127 AEY:=Av (fn:=f127) ⟨⟨AIx,pk trivial,λ_ R K=>by
 simp only[Ly,ASs];kernel_rfl⟩,trivial⟩
abbrev tQ:=eN [(124,AkP),(125,AfO),(126,AEX),(127,AEY)] {A5:=[(4,{A7:=[4,5,7,8,19,20,21],O4:=[(19,false,ATP)]})],BB:=[(4,[4,5,7,8])],Bw:=[(10,[4,5,7,8,19,20,21])],YH:=[(11,[4,5])],Da:=[(10,[4,5,7,8,19,20,21])],Zm:=[(11,[4,5,7,8])]}
def Ae8 a b c d:=sT 41 [(4,Aq),(5,A1),(7,EB),(8,Nz)] (mK a b c d)
def jM a b c d:=λ(e:Unit)=>sT 41 [(4,Aq),(5,A1)] (AjJ a b c d)
def Re(a b:Int)(c d:ASH):ATV Unit:=
 some ()
theorem Auh(a b:Int)(c d:ASH):Qf tQ 0 11 (code f72) 62 (Ae8 a b c d) (Re a b c d) (jM a b c d):=by
 unfold Qf;have h:u0 tQ 0 11 (code f72) (pt 62) (Ae8 a b c d) =
 ((((Eu (jM a b c d ())).bind λ_=>Eu (jM a b c d ())).bind λ_=>Eu (jM a b c d ())).bind λ_=>some (jM a b c d ())):=by kernel_rfl
 rw[h];unfold Re;simp only[ASr,mS,mO];clear h;simp only[AQ2,AQf,Eu,EJ]
def Ar2 g i j k (z_:Int×ASH×ASH):=sT 41 (Aj3 g i z_.1) (mK j k z_.2.1 z_.2.2)
def Ap7(g:ASR)(i:Int) j k:=λ(l:ATk)=>xE 0 41 [(4,Aq),(5,A1),(7,EB),(8,Nz)] (mK j k l.1 l.2)
def Ar1 g i n j k o q:=sT 41 (Aj3 g i n) (mK j k o q)
def Ap6 g i n j k (o:ASH) (q:ASH):=λ(s:ATk)=>xN 41 (Aj3 g i n) (mK j k s.1 s.2)
def Rc(g:ASR)(i n j k:Int)(o q:ASH):ATV ATk:=
 if 0<=n/\n<g.length then
 bif decide ((g.getD n.toNat Ak.zero).1>=0)then
 some (o,q)
 else
 (Ly j n o).bind λt=>bif (g.getD n.toNat Ak.zero).2.2.1==1 then
 (Ly k n q).bind λu=>some (t,u)
 else
 some (t,q)
 else none
theorem Aue g i n j k o q:AQ tQ 0 10 (cd f72 244) 14 (Ar1 g i n j k o q) (Rc g i n j k o q) (Ap6 g i n j k o q):=by
 unfold AQ;simp only[Rc,ASr];kernel_rfl
def SQ(g:ASR)(i j k n:Int)(o q:ASH):ATV ((Int×ASH×ASH)⊕ATk):=
 bif decide (n<i)then
 (Rc g i n j k o q).bind λs=>some (.inl (wI (n+1),s.1,s.2))
 else
 some (.inr (o,q))
def NS g i j k (z_:Int×ASH×ASH):=SQ g i j k z_.1 z_.2.1 z_.2.2
def VL g i j k n o q:=fix (NS g i j k) (n,o,q)
theorem Auf g i j k:A3 tQ 0 4 (code f72) 122 (Ar2 g i j k) (NS g i j k) (Ap7 g i j k):=by
 intro _;simp(disch:=refine id ?_;kernel_rfl) only[NS,SQ,ASr,Ba (Aue ..) (K:=JG tQ 0 4)];kernel_rfl
def TR(v:ASO)(w:AS0):ATV (Int×Int×ASH×ASH):=
 (FD v).bind λx=>(DR x).bind λy=>(DR x).bind λa1=>(Rl v w).bind λg=>(VL g (g.length:Int) y.1 a1.1 0 y.2 a1.2).bind λl=>(Re y.1 a1.1 l.1 l.2).bind λe=>some (y.1,a1.1,l.1,l.2)
def c72:=Ci [.d ATH,.d (.sl ATP)] [⟨[.AB [] ATH,.AB [] (.sl ATP)],[],Int×Int×ASH×ASH,λp=>TR p.1.1 p.1.2.1,λr=>(.cons (.pr (dI r.1) Ps) (.cons (.pr (dI r.2.1) fe) .nil),[Bq r.2.2.1,Bq r.2.2.2])⟩]
theorem Alp:Ao prog 72 c72:=Av (fn:=f72) ⟨⟨tQ,pk ⟨j8,df,AfP,AfQ,trivial⟩,λ_ R K=>by
 simp(disch:=refine id ?_;kernel_rfl) only[TR,ASs,VL,AF (Auf _ _ _ _) (K:=A0 tQ f72 0 R K),VE (Auh ..) (K:=A0 tQ f72 0 R K)];kernel_rfl⟩,trivial⟩
end
end Go.Proofs.X
