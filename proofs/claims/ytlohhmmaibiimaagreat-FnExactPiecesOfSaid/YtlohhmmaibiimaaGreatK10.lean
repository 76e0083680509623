import Derived.KernelRfl
import Derived.Test.YtlohhmmaibiimaaGreatK9
set_option linter.unusedVariables false
set_option linter.unusedSimpArgs false
namespace Go.Proofs.X
open Go Go.Va
set_option maxRecDepth 100000
noncomputable section
abbrev Vx:Env:=⟨tab,As [(59,c59),(265,Ap8)],{deep:=true,heads:=[(11,{live:=[8,80,81,82]})],outs:=[(11,{live:=[8]})],joins:=[(4,{live:=[0,1,2,7]}),(5,{live:=[0,1,2,7,17]}),(7,{live:=[0,2,7,46]}),(9,{live:=[0,2,7,69]}),(19,{live:=[0,7,95]}),(21,{live:=[0,7,137]}),(23,{live:=[0,7,163]}),(25,{live:=[0,7,184]})],ents:=[(4,[0,1,2,7]),(5,[0,1,2,7]),(7,[0,2,7]),(9,[0,2,7]),(19,[0,7]),(21,[0,7]),(23,[0,7]),(25,[0,7])]}⟩
def vP(a:Axj)(b:Int):St:=sT 203 [(0,.rop [] Ae a),(7,dI b)] []
def uQ(a:Axj)(b:Int)(m0:Bool):Ex×St:=(.normal,sT 203 [(0,.rop [] Ae a),(7,dI b),(184,dB m0)] [])
theorem An9(a:Axj)(b:Int):Mn Vx 0 25 (code Tryz.f248) [1,1,1,0,0,1,1,1,1,1,1,1,1,1,1,1,1,1,1,0] (vP a b)=some (uQ a b ((a.1==9)&&(Ay a.2.2.1 1 4096))):=by
 have h0:Mn Vx 0 25 (code Tryz.f248) [1,1,1,0,0,1,1,1,1,1,1,1,1,1,1,1,1,1,1,0] (vP a b) =
 bif a.1==9 then
 some (uQ a b (Ay a.2.2.1 1 4096))
 else
 some (uQ a b false):=by kernel_rfl
 rw[h0];cases h1:(a.1==9)
 ·first | rfl | kernel_rfl
 ·first | rfl | kernel_rfl
def vO(a:Axj)(b:Int):St:=sT 203 [(0,.rop [] Ae a),(7,dI b)] []
def nJ(a:Axj)(b:Int)(m0:Bool):Ex×St:=(.normal,sT 203 [(0,.rop [] Ae a),(7,dI b),(163,dB m0)] [])
theorem An8(a:Axj)(b:Int):Mn Vx 0 23 (code Tryz.f248) [1,1,1,0,0,1,1,1,1,1,1,1,1,1,1,1,1,0] (vO a b)=some (nJ a b (bif a.1==7 then(Ay a.2.2.1 0 4096) else((a.1==8)&&(Ay a.2.2.1 0 4096)))):=by
 have h0:Mn Vx 0 23 (code Tryz.f248) [1,1,1,0,0,1,1,1,1,1,1,1,1,1,1,1,1,0] (vO a b) =
 bif a.1==7 then
 some (nJ a b (Ay a.2.2.1 0 4096))
 else
 bif a.1==8 then
 some (nJ a b (Ay a.2.2.1 0 4096))
 else
 some (nJ a b false):=by kernel_rfl
 rw[h0];cases h1:(a.1==7)
 ·cases h2:(a.1==8)
  ·first | rfl | kernel_rfl
  ·first | rfl | kernel_rfl
 ·first | rfl | kernel_rfl
def vN(a:Axj)(b:Int):St:=sT 203 [(0,.rop [] Ae a),(7,dI b)] []
def nI(a:Axj)(b:Int)(m0:Bool):Ex×St:=(.normal,sT 203 [(0,.rop [] Ae a),(7,dI b),(137,dB m0)] [])
theorem An7(a:Axj)(b:Int):Mn Vx 0 21 (code Tryz.f248) [1,1,1,0,0,1,1,1,1,1,1,1,1,1,1,0] (vN a b)=some (nI a b (bif a.1==5 then(Ay a.2.2.1 0 4096) else((a.1==6)&&(Ay a.2.2.1 0 4096)))):=by
 have h0:Mn Vx 0 21 (code Tryz.f248) [1,1,1,0,0,1,1,1,1,1,1,1,1,1,1,0] (vN a b) =
 bif a.1==5 then
 some (nI a b (Ay a.2.2.1 0 4096))
 else
 bif a.1==6 then
 some (nI a b (Ay a.2.2.1 0 4096))
 else
 some (nI a b false):=by kernel_rfl
 rw[h0];cases h1:(a.1==5)
 ·cases h2:(a.1==6)
  ·first | rfl | kernel_rfl
  ·first | rfl | kernel_rfl
 ·first | rfl | kernel_rfl
def vM(a:Axj)(b:Int):St:=sT 203 [(0,.rop [] Ae a),(7,dI b)] []
def dV(a:Axj)(b:Int)(m0:Bool):Ex×St:=(.normal,sT 203 [(0,.rop [] Ae a),(7,dI b),(95,dB m0)] [])
theorem An6(a:Axj)(b:Int):Mn Vx 0 19 (code Tryz.f248) [1,1,1,0,0,1,1,1,1,1,1,1,1,0] (vM a b)=some (dV a b ((a.1==4)&&((decide (a.2.2.2.1>=0))&&((decide (a.2.2.2.1<=a.2.2.1))&&(decide (a.2.2.1<b)))))):=by
 have h0:Mn Vx 0 19 (code Tryz.f248) [1,1,1,0,0,1,1,1,1,1,1,1,1,0] (vM a b) =
 bif a.1==4 then
 bif decide (a.2.2.2.1>=0) then
 bif decide (a.2.2.2.1<=a.2.2.1) then
 some (dV a b (decide (a.2.2.1<b)))
 else
 some (dV a b false)
 else
 some (dV a b false)
 else
 some (dV a b false):=by kernel_rfl
 rw[h0];cases h1:(a.1==4)
 ·first | rfl | kernel_rfl
 ·cases h2:(decide (a.2.2.2.1>=0))
  ·first | rfl | kernel_rfl
  ·cases h3:(decide (a.2.2.2.1<=a.2.2.1))
   ·first | rfl | kernel_rfl
   ·first | rfl | kernel_rfl
def AlG(c:Axs)(d:Int)(z_:Int×Int):St:=sT 203 [(8,dI z_.1),(80,dD (.sl (.int .i64)) c),(81,dI d),(82,dI z_.2)] []
def Ajt(c:Axs)(d:Int):Int->Ex×St:=λe=>((.exit 1),sT 203 [(8,dI e)] [])
def FB(c:Axs)(d g i:Int):Option ((Int×Int)⊕Int) :=
 bif decide (i<d) then
 if(0:Int)<=i/\i<(c.length:Int) then
 some (.inl ((wI (g+(c.getD i.toNat (Ty.zero (.int .i64))))),(wI (i+1))))
 else none
 else
 some (.inr g)
def Bu(c:Axs)(d:Int)(z_:Int×Int):=FB c d z_.1 z_.2
def KS(c:Axs)(d g i:Int):=fix (Bu c d) (g,i)
theorem An5(c:Axs)(d:Int):AU Vx 0 11 (code Tryz.f248) [1,1,1,0,0,1,1,1,1,1,0,1,0,1,0] (AlG c d) (Bu c d) (Ajt c d):=by
 intro _;simp only[Bu,FB,Axe];kernel_rfl
def vL(a:Axj)(c:Axs)(b:Int):St:=sT 203 [(0,.rop [] Ae a),(2,dD (.sl (.int .i64)) c),(7,dI b)] []
def uP(a:Axj)(c:Axs)(b:Int)(m0:Bool):Ex×St:=(.normal,sT 203 [(0,.rop [] Ae a),(2,dD (.sl (.int .i64)) c),(7,dI b),(69,dB m0)] [])
theorem An4(a:Axj)(c:Axs)(b:Int):Mn Vx 0 9 (code Tryz.f248) [1,1,1,0,0,1,1,1,1,0] (vL a c b)=some (uP a c b ((a.1==3)&&(decide ((c.length:Int)>1)))):=by
 have h0:Mn Vx 0 9 (code Tryz.f248) [1,1,1,0,0,1,1,1,1,0] (vL a c b) =
 bif a.1==3 then
 some (uP a c b (decide ((c.length:Int)>1)))
 else
 some (uP a c b false):=by kernel_rfl
 rw[h0];cases h1:(a.1==3)
 ·first | rfl | kernel_rfl
 ·first | rfl | kernel_rfl
def AlF(a:Axj)(c:Axs)(b:Int):St:=sT 203 [(0,.rop [] Ae a),(2,dD (.sl (.int .i64)) c),(7,dI b)] []
def Ajs(a:Axj)(c:Axs)(b:Int):Bool->Ex×St:=λj=>(.normal,sT 203 [(0,.rop [] Ae a),(2,dD (.sl (.int .i64)) c),(7,dI b),(46,dB j)] [])
def Ei(a:Axj)(c:Axs)(b:Int):Option Bool :=
 bif a.1==2 then
 bif (c.length:Int)==0 then
 (Js a.2.2.2.2.1).bind λk =>
 some k
 else
 some false
 else
 some false
theorem An3(a:Axj)(c:Axs)(b:Int):AL Vx 0 7 (code Tryz.f248) [1,1,1,0,0,1,1,0] (AlF a c b) (Ei a c b) (Ajs a c b):=by
 unfold AL;simp only[Ei,Axe];kernel_rfl
def vK(a:Axj)(l:Axw)(c:Axs)(b:Int):St:=sT 203 [(0,.rop [] Ae a),(1,dD (.sl Ab) l),(2,dD (.sl (.int .i64)) c),(7,dI b)] []
def nH(a:Axj)(l:Axw)(c:Axs)(b:Int)(m0:Bool):Ex×St:=(.normal,sT 203 [(0,.rop [] Ae a),(1,dD (.sl Ab) l),(2,dD (.sl (.int .i64)) c),(7,dI b),(17,dB m0)] [])
theorem An2(a:Axj)(l:Axw)(c:Axs)(b:Int):Mn Vx 0 5 (code Tryz.f248) [1,1,1,0,0,0] (vK a l c b)=some (nH a l c b ((a.1==1)&&(((c.length:Int)==0)&&(Ay a.2.1 0 (wI ((l.length:Int)-1)))))):=by
 have h0:Mn Vx 0 5 (code Tryz.f248) [1,1,1,0,0,0] (vK a l c b) =
 bif a.1==1 then
 bif (c.length:Int)==0 then
 some (nH a l c b (Ay a.2.1 0 (wI ((l.length:Int)-1))))
 else
 some (nH a l c b false)
 else
 some (nH a l c b false):=by kernel_rfl
 rw[h0];cases h1:(a.1==1)
 ·first | rfl | kernel_rfl
 ·cases h2:((c.length:Int)==0)
  ·first | rfl | kernel_rfl
  ·first | rfl | kernel_rfl
def AlE(a:Axj)(l:Axw)(c:Axs):St:=sT 203 [(0,.rop [] Ae a),(1,dD (.sl Ab) l),(2,dD (.sl (.int .i64)) c),(7,dI 0)] []
def Ajr(a:Axj)(l:Axw)(c:Axs):Int->Ex×St:=λb=>(.normal,sT 203 [(0,.rop [] Ae a),(1,dD (.sl Ab) l),(2,dD (.sl (.int .i64)) c),(7,dI b)] [])
def Eh(a:Axj)(l:Axw)(c:Axs):Option Int :=
 bif decide ((c.length:Int)>0) then
 if(0:Int)<=(0:Int)/\(0:Int)<(c.length:Int) then
 some (c.getD 0 (Ty.zero (.int .i64)))
 else none
 else
 some 0
theorem An1(a:Axj)(l:Axw)(c:Axs):AL Vx 0 4 (code Tryz.f248) [1,1,0] (AlE a l c) (Eh a l c) (Ajr a l c):=by
 unfold AL;simp only[Eh,Axe];kernel_rfl
def C2(a:Axj)(l:Axw)(c:Axs):Option Int :=
 (Eh a l c).bind λb =>
 N8 (vK a l c b) (
 bif (a.1==1)&&(((c.length:Int)==0)&&(Ay a.2.1 0 (wI ((l.length:Int)-1)))) then
 if(0:Int)<=a.2.1/\a.2.1<(l.length:Int) then
 some (l.getD a.2.1.toNat Ab.zero).2.1
 else none
 else
 (Ei a c b).bind λj =>
 bif j then
 some a.2.2.2.2.1.1
 else
 N8 (vL a c b) (
 bif (a.1==3)&&(decide ((c.length:Int)>1)) then
 (KS c (c.length:Int) 0 0).bind λe =>
 some e
 else
 bif (c.length:Int) !=1 then
 some (-1)
 else
 N8 (vM a b) (
 bif (a.1==4)&&((decide (a.2.2.2.1>=0))&&((decide (a.2.2.2.1<=a.2.2.1))&&(decide (a.2.2.1<b)))) then
 some (wI ((wI (a.2.2.1-a.2.2.2.1))+1))
 else
 N8 (vN a b) (
 bif bif (a.1==5) then(Ay a.2.2.1 0 4096) else((a.1==6)&&(Ay a.2.2.1 0 4096)) then
 some (wI (b+a.2.2.1))
 else
 N8 (vO a b) (
 bif bif (a.1==7) then(Ay a.2.2.1 0 4096) else((a.1==8)&&(Ay a.2.2.1 0 4096)) then
 some b
 else
 N8 (vP a b) (
 bif (a.1==9)&&(Ay a.2.2.1 1 4096) then
 some (wI (b*a.2.2.1))
 else
 some (-1)))))))
theorem U64(R:Type)(a:Axj)(l:Axw)(c:Axs)(K:AV->List Blk->Option R):AH Vx Tryz.f248 R [.rop [] Ae a,dD (.sl Ab) l,dD (.sl (.int .i64)) c] [] K=(C2 a l c).bind λr=>K (dI r) []:=by
 simp only[C2,Axf];simp(disch:=refine sI ?_<;>(repeat' refine sA ?_ ?_)<;>intro _<;>kernel_rfl) only[A6 (An1 _ _ _) (K:=AP Vx Tryz.f248 0 R K),F7 (An2 _ _ _ _) (K:=AP Vx Tryz.f248 0 R K),A6 (An3 _ _ _) (K:=AP Vx Tryz.f248 0 R K),F7 (An4 _ _ _) (K:=AP Vx Tryz.f248 0 R K),KS,Ax (An5 _ _) (K:=AP Vx Tryz.f248 0 R K),F7 (An6 _ _) (K:=AP Vx Tryz.f248 0 R K),F7 (An7 _ _) (K:=AP Vx Tryz.f248 0 R K),F7 (An8 _ _) (K:=AP Vx Tryz.f248 0 R K),F7 (An9 _ _) (K:=AP Vx Tryz.f248 0 R K)]
 kernel_rfl
def ApZ:Va.Callee:=BX [.p Ae,.d (.sl Ab),.d (.sl (.int .i64))] [⟨[.rop [] Ae,.dat [] (.sl Ab),.dat [] (.sl (.int .i64))],[],Int,λp=>C2 p.1.1 p.1.2.1 p.1.2.2.1,λr=>(dI r,[])⟩]
theorem yJ:An Tryz.prog 248 ApZ:=Ap (fn:=Tryz.f248) (by kernel_rfl) (by kernel_rfl) (by kernel_rfl) ⟨⟨Vx,⟨⟨Aw,Ao ⟨R9,yS,trivial⟩⟩,mixed⟩,λp R K=>U64 R p.1.1 p.1.2.1 p.1.2.2.1 K⟩,trivial⟩
abbrev E65:Env:=⟨tab,As [],{deep:=true,joins:=[(2,{live:=[0,3]}),(3,{live:=[0,52]})],ents:=[(2,[0]),(3,[0,3])]}⟩
def vR(a:Axj):St:=sT 75 [(0,.rop [] Ae a),(3,dB ((decide (a.1>=4))&&(decide (a.1<=9))))] []
def Q1(a:Axj)(m0:Bool):Ex×St:=(.normal,sT 75 [(0,.rop [] Ae a),(52,dB m0)] [])
theorem Aob(a:Axj):Mn E65 0 3 (code Tryz.f249) [1,1,0,0] (vR a)=some (Q1 a (bif !((decide (a.1>=4))&&(decide (a.1<=9))) then((a.2.2.1 !=0)||(bif a.1 !=4 then((a.2.2.2.1 !=0)||((a.1 !=1)&&(a.2.1 !=0))) else((a.1 !=1)&&(a.2.1 !=0)))) else(bif a.1 !=4 then((a.2.2.2.1 !=0)||((a.1 !=1)&&(a.2.1 !=0))) else((a.1 !=1)&&(a.2.1 !=0))))):=by
 have h0:Mn E65 0 3 (code Tryz.f249) [1,1,0,0] (vR a) =
 bif !((decide (a.1>=4))&&(decide (a.1<=9))) then
 bif a.2.2.1 !=0 then
 some (Q1 a true)
 else
 bif a.1 !=4 then
 bif a.2.2.2.1 !=0 then
 some (Q1 a true)
 else
 bif a.1 !=1 then
 some (Q1 a (a.2.1 !=0))
 else
 some (Q1 a false)
 else
 bif a.1 !=1 then
 some (Q1 a (a.2.1 !=0))
 else
 some (Q1 a false)
 else
 bif a.1 !=4 then
 bif a.2.2.2.1 !=0 then
 some (Q1 a true)
 else
 bif a.1 !=1 then
 some (Q1 a (a.2.1 !=0))
 else
 some (Q1 a false)
 else
 bif a.1 !=1 then
 some (Q1 a (a.2.1 !=0))
 else
 some (Q1 a false):=by kernel_rfl
 rw[h0];cases h1:(!((decide (a.1>=4))&&(decide (a.1<=9))))
 ·cases h2:(a.1 !=4)
  ·cases h3:(a.1 !=1)
   ·first | rfl | kernel_rfl
   ·first | rfl | kernel_rfl
  ·cases h3:(a.2.2.2.1 !=0)
   ·cases h4:(a.1 !=1)
    ·first | rfl | kernel_rfl
    ·first | rfl | kernel_rfl
   ·first | rfl | kernel_rfl
 ·cases h2:(a.2.2.1 !=0)
  ·cases h3:(a.1 !=4)
   ·cases h4:(a.1 !=1)
    ·first | rfl | kernel_rfl
    ·first | rfl | kernel_rfl
   ·cases h4:(a.2.2.2.1 !=0)
    ·cases h5:(a.1 !=1)
     ·first | rfl | kernel_rfl
     ·first | rfl | kernel_rfl
    ·first | rfl | kernel_rfl
  ·first | rfl | kernel_rfl
def vQ(a:Axj):St:=sT 75 [(0,.rop [] Ae a)] []
def uR(a:Axj)(m0:Bool):Ex×St:=(.normal,sT 75 [(0,.rop [] Ae a),(3,dB m0)] [])
theorem Aoa(a:Axj):Mn E65 0 2 (code Tryz.f249) [1,0] (vQ a)=some (uR a ((decide (a.1>=4))&&(decide (a.1<=9)))):=by
 have h0:Mn E65 0 2 (code Tryz.f249) [1,0] (vQ a) =
 bif decide (a.1>=4) then
 some (uR a (decide (a.1<=9)))
 else
 some (uR a false):=by kernel_rfl
 rw[h0];cases h1:(decide (a.1>=4))
 ·first | rfl | kernel_rfl
 ·first | rfl | kernel_rfl
def C1(a:Axj):Bool:=((!(bif !((decide (a.1>=4))&&(decide (a.1<=9))) then((a.2.2.1 !=0)||(bif a.1 !=4 then((a.2.2.2.1 !=0)||((a.1 !=1)&&(a.2.1 !=0))) else((a.1 !=1)&&(a.2.1 !=0)))) else(bif a.1 !=4 then((a.2.2.2.1 !=0)||((a.1 !=1)&&(a.2.1 !=0))) else((a.1 !=1)&&(a.2.1 !=0)))))&&((a.1==2)||((a.2.2.2.2.1.1==0)&&((a.2.2.2.2.1.2.1.length:Int)==0))))
theorem U65(R:Type)(a:Axj)(K:AV->List Blk->Option R):AH E65 Tryz.f249 R [.rop [] Ae a] [] K=K (dB (C1 a)) []:=by
 have h:AH E65 Tryz.f249 R [.rop [] Ae a] [] K =
 N8 (vQ a) (
 N8 (vR a) (
 bif bif (!((decide (a.1>=4))&&(decide (a.1<=9)))) then((a.2.2.1 !=0)||(bif (a.1 !=4) then((a.2.2.2.1 !=0)||((a.1 !=1)&&(a.2.1 !=0))) else((a.1 !=1)&&(a.2.1 !=0)))) else(bif (a.1 !=4) then((a.2.2.2.1 !=0)||((a.1 !=1)&&(a.2.1 !=0))) else((a.1 !=1)&&(a.2.1 !=0))) then
 K (dB false) []
 else
 bif a.1==2 then
 K (dB true) []
 else
 bif a.2.2.2.2.1.1==0 then
 K (dB ((a.2.2.2.2.1.2.1.length:Int)==0)) []
 else
 K (dB false) [])):=by
  simp(disch:=refine sI ?_<;>(repeat' refine sA ?_ ?_)<;>intro _<;>kernel_rfl) only[F7 (Aoa _) (K:=AP E65 Tryz.f249 0 R K),F7 (Aob _) (K:=AP E65 Tryz.f249 0 R K)]
  kernel_rfl
 rw[h];unfold C1;cases h1:(bif !((decide (a.1>=4))&&(decide (a.1<=9))) then((a.2.2.1 !=0)||(bif a.1 !=4 then((a.2.2.2.1 !=0)||((a.1 !=1)&&(a.2.1 !=0))) else((a.1 !=1)&&(a.2.1 !=0)))) else(bif a.1 !=4 then((a.2.2.2.1 !=0)||((a.1 !=1)&&(a.2.1 !=0))) else((a.1 !=1)&&(a.2.1 !=0))))
 ·cases h2:(a.1==2)
  ·cases h3:(a.2.2.2.2.1.1==0)
   ·first | rfl | kernel_rfl
   ·first | rfl | kernel_rfl
  ·first | rfl | kernel_rfl
 ·first | rfl | kernel_rfl
def Ap0:Va.Callee:=BX [.p Ae] [⟨[.rop [] Ae],[],Bool,λp=>some (C1 p.1.1),λr=>(dB r,[])⟩]
theorem yK:An Tryz.prog 249 Ap0:=Ap (fn:=Tryz.f249) (by kernel_rfl) (by kernel_rfl) (by kernel_rfl) ⟨⟨E65,⟨⟨Aw,Ao trivial⟩,mixed⟩,λp R K=>U65 R p.1.1 K⟩,trivial⟩
abbrev E66:Env:=⟨tab,As [],{deep:=true,heads:=[(2,{live:=[0,1,7,8]})],outs:=[(2,{live:=[4]})]}⟩
def AlH(a:Axt)(b:Bool)(c z_:Int):St:=sT 19 [(0,dD (.sl .bool) a),(1,dB b),(7,dI c),(8,dI z_)] []
def Aju(a:Axt)(b:Bool)(c:Int):(Int⊕Unit)->Ex×St:=Sum.elim (λd=>(.ret,sT 19 [(4,dI d)] [])) (λe=>((.exit 0),sT 19 [] []))
def ED(a:Axt)(b:Bool)(c g:Int):Option (Int⊕(Int⊕Unit)) :=
 bif decide (g<c) then
 if(0:Int)<=g/\g<(a.length:Int) then
 bif b==(a.getD g.toNat (Ty.zero .bool)) then
 some (.inr (.inl g))
 else
 some (.inl (wI (g+1)))
 else none
 else
 some (.inr (.inr ()))
def CF(a:Axt)(b:Bool)(c z_:Int):=ED a b c z_
def JJ(a:Axt)(b:Bool)(c g:Int):=fix (CF a b c) g
theorem Aoc(a:Axt)(b:Bool)(c:Int):AU E66 0 2 (code Tryz.f266) [1,0,1,0] (AlH a b c) (CF a b c) (Aju a b c):=by
 intro _;simp only[CF,ED,Axe];kernel_rfl
def Gj(a:Axt)(b:Bool):Option Int :=
 (JJ a b (a.length:Int) 0).bind (Sum.elim (λd =>
 some d) (λe =>
 some (-1)))
theorem U66(R:Type)(a:Axt)(b:Bool)(K:AV->List Blk->Option R):AH E66 Tryz.f266 R [dD (.sl .bool) a,dB b] [] K=(Gj a b).bind λr=>K (dI r) []:=by
 simp only[Gj,Axf];simp(disch:=refine sI ?_<;>(repeat' refine sA ?_ ?_)<;>intro _<;>kernel_rfl) only[JJ,Ax (Aoc _ _ _) (K:=AP E66 Tryz.f266 0 R K)]
 kernel_rfl
def Ap9:Va.Callee:=BX [.d (.sl .bool),.d .bool] [⟨[.dat [] (.sl .bool),.dat [] .bool],[],Int,λp=>Gj p.1.1 p.1.2.1,λr=>(dI r,[])⟩]
theorem yT:An Tryz.prog 266 Ap9:=Ap (fn:=Tryz.f266) (by kernel_rfl) (by kernel_rfl) (by kernel_rfl) ⟨⟨E66,⟨⟨Aw,Ao trivial⟩,mixed⟩,λp R K=>U66 R p.1.1 p.1.2.1 K⟩,trivial⟩
abbrev E67:Env:=⟨tab,As [(266,Ap9)],{deep:=true}⟩
def Cl(a:Axt)(b:Bool):Option Bool :=
 (Gj a b).bind λc =>
 some (decide (c>=0))
theorem U67(R:Type)(a:Axt)(b:Bool)(K:AV->List Blk->Option R):AH E67 Tryz.f250 R [dD (.sl .bool) a,dB b] [] K=(Cl a b).bind λr=>K (dB r) []:=by
 simp only[Cl,Axf];kernel_rfl
def Ap1:Va.Callee:=BX [.d (.sl .bool),.d .bool] [⟨[.dat [] (.sl .bool),.dat [] .bool],[],Bool,λp=>Cl p.1.1 p.1.2.1,λr=>(dB r,[])⟩]
theorem yL:An Tryz.prog 250 Ap1:=Ap (fn:=Tryz.f250) (by kernel_rfl) (by kernel_rfl) (by kernel_rfl) ⟨⟨E67,⟨⟨Aw,Ao ⟨yT,trivial⟩⟩,mixed⟩,λp R K=>U67 R p.1.1 p.1.2.1 K⟩,trivial⟩
abbrev jR:Env:=⟨tab,As [(59,c59),(248,ApZ),(249,Ap0),(250,Ap1)],{deep:=true,heads:=[(6,{live:=[0,3,6,7,8,29,30]}),(13,{live:=[0,3,6,7,8,9,10,11,29,30,52,53,54]})],outs:=[(6,{live:=[4,5,6,7,8],Ow:=[(8,false,(.sl .bool))]}),(13,{live:=[0,3,4,5,6,7,8,9,10,11,29,30],Ow:=[(11,false,(.sl (.int .i64)))]})],joins:=[(3,{live:=[0,3,6,22]}),(21,{live:=[0,3,6,7,8,29,30,92]})],draws:=[(4,{live:=[0,3,6,7,8],quiet:=true})],ents:=[(3,[0,3,6]),(21,[0,3,6,7,8,9,10,29,30])],fM:=[(4,[0,3,6])],res:=[(0,.row [] 2 (.int .i64) true)]}⟩
def AlK(a:Axw)(b:Axp)(c d:Int)(z_:Int×Axs×Axt):St:=sT 101 [(0,dD (.sl Ab) a),(3,.ptr 0 0 [] 0),(6,dI c),(7,.ref 1),(8,.ref 2),(29,dI d),(30,dI z_.1)] [.box (dD Ak b),.row 2 .deep (.int .i64) z_.2.1,.row 4 .deep .bool z_.2.2]
def Ajx(a:Axw)(b:Axp)(c d:Int):((Axt×Axs)⊕(Axt×Axs))->Ex×St:=Sum.elim (λe=>(.ret,sT 101 [(4,.zs),(5,dB false),(6,dI c),(7,.ref 0),(8,dD (.sl .bool) e.1)] [.row 2 .deep (.int .i64) e.2])) (λg=>((.exit 0),sT 101 [(6,dI c),(7,.ref 0),(8,dD (.sl .bool) g.1)] [.row 2 .deep (.int .i64) g.2]))
def AlJ(a:Axw)(c i d:Int)(b:Axp)(j:Axj)(k:Axs)(l:Axt):St:=sT 101 [(0,dD (.sl Ab) a),(3,.ptr 0 0 [] 0),(6,dI c),(7,.ref 1),(8,.ref 2),(9,dI i),(10,.rop [] Ae j),(29,dI d),(30,dI i)] [.box (dD Ak b),.row 2 .deep (.int .i64) k,.row 4 .deep .bool l]
def Ajw(a:Axw)(c i d:Int)(b:Axp)(j:Axj)(k:Axs)(l:Axt):Bool->Ex×St:=λn=>(.normal,sT 101 [(0,dD (.sl Ab) a),(3,.ptr 0 0 [] 0),(6,dI c),(7,.ref 1),(8,.ref 2),(29,dI d),(30,dI i),(92,dB n)] [.box (dD Ak b),.row 2 .deep (.int .i64) k,.row 4 .deep .bool l])
def MB(a:Axw)(c i d:Int)(b:Axp)(j:Axj)(k:Axs)(l:Axt):Option Bool :=
 bif !(C1 j) then
 some true
 else
 if(0:Int)<=i/\i<(k.length:Int) then
 some (!(Ay (k.getD i.toNat (Ty.zero (.int .i64))) 1 4096))
 else none
theorem Aog(a:Axw)(c i d:Int)(b:Axp)(j:Axj)(k:Axs)(l:Axt):AL jR 0 21 (sub (code Tryz.f221) [1,1,1,1,0,1,0,0]) [1,1,0,0,1,1,1,1,1,1,0] (AlJ a c i d b j k l) (MB a c i d b j k l) (Ajw a c i d b j k l):=by
 unfold AL;simp only[MB,Axe];kernel_rfl
def AlI(a:Axw)(c i d:Int)(b:Axp)(o:Axs)(q:Axj)(s:Axs)(t:Int)(z_:Int×Axt×Axs):St:=sT 101 [(0,dD (.sl Ab) a),(3,.ptr 0 0 [] 0),(6,dI c),(7,.ref 1),(8,.ref 2),(9,dI i),(10,.rop [] Ae q),(11,.ref 3),(29,dI d),(30,dI i),(52,dD (.sl (.int .i64)) s),(53,dI t),(54,dI z_.1)] [.box (dD Ak b),.row 2 .deep (.int .i64) o,.row 4 .deep .bool z_.2.1,.row 2 .deep (.int .i64) z_.2.2]
def Ajv(a:Axw)(c i d:Int)(b:Axp)(o:Axs)(q:Axj)(s:Axs)(t:Int):((Axs×Axt)⊕(Axs×Axt))->Ex×St:=Sum.elim (λu=>(.ret,sT 101 [(0,dD (.sl Ab) a),(3,.ptr 0 0 [] 0),(4,.zs),(5,dB false),(6,dI c),(7,.ref 1),(8,.ref 2),(9,dI i),(10,.rop [] Ae q),(11,dD (.sl (.int .i64)) u.1),(29,dI d),(30,dI i)] [.box (dD Ak b),.row 2 .deep (.int .i64) o,.row 4 .deep .bool u.2])) (λv=>((.exit 2),sT 101 [(0,dD (.sl Ab) a),(3,.ptr 0 0 [] 0),(6,dI c),(7,.ref 1),(8,.ref 2),(9,dI i),(10,.rop [] Ae q),(11,dD (.sl (.int .i64)) v.1),(29,dI d),(30,dI i)] [.box (dD Ak b),.row 2 .deep (.int .i64) o,.row 4 .deep .bool v.2]))
def Kh(a:Axw)(c i d:Int)(b:Axp)(o:Axs)(q:Axj)(s:Axs)(t w:Int)(x:Axt)(y:Axs):Option ((Int×Axt×Axs)⊕((Axs×Axt)⊕(Axs×Axt))) :=
 bif decide (w<t) then
 if(0:Int)<=w/\w<(s.length:Int) then
 bif !(Ay (s.getD w.toNat (Ty.zero (.int .i64))) 0 (wI (i-1))) then
 some (.inr (.inl (y,x)))
 else
 if(0:Int)<=(s.getD w.toNat (Ty.zero (.int .i64)))/\(s.getD w.toNat (Ty.zero (.int .i64)))<(o.length:Int) then
 if(0:Int)<=(s.getD w.toNat (Ty.zero (.int .i64)))/\(s.getD w.toNat (Ty.zero (.int .i64)))<(x.length:Int) then
 if(0:Int)<=w/\w<(y.length:Int) then
 some (.inl ((wI (w+1)),(x.set (s.getD w.toNat (Ty.zero (.int .i64))).toNat true),(y.set w.toNat (o.getD (s.getD w.toNat (Ty.zero (.int .i64))).toNat (Ty.zero (.int .i64))))))
 else none
 else none
 else none
 else none
 else
 some (.inr (.inr (y,x)))
def EN(a:Axw)(c i d:Int)(b:Axp)(o:Axs)(q:Axj)(s:Axs)(t:Int)(z_:Int×Axt×Axs):=Kh a c i d b o q s t z_.1 z_.2.1 z_.2.2
def Jx(a:Axw)(c i d:Int)(b:Axp)(o:Axs)(q:Axj)(s:Axs)(t w:Int)(x:Axt)(y:Axs):=fix (EN a c i d b o q s t) (w,x,y)
theorem Aof(a:Axw)(c i d:Int)(b:Axp)(o:Axs)(q:Axj)(s:Axs)(t:Int):AU jR 0 13 (sub (code Tryz.f221) [1,1,1,1,0,1,0,0]) [1,1,0,0,1,1,1,1,0,1,0] (AlI a c i d b o q s t) (EN a c i d b o q s t) (Ajv a c i d b o q s t):=by
 intro _;simp only[EN,Kh,Axe];kernel_rfl
def Ki(a:Axw)(b:Axp)(c d i:Int)(o:Axs)(a1:Axt):Option ((Int×Axs×Axt)⊕((Axt×Axs)⊕(Axt×Axs))) :=
 bif decide (i<d) then
 if(0:Int)<=i/\i<(b.1.length:Int) then
 bif decide (((b.1.getD i.toNat Ae.zero).2.2.2.2.2.1.length:Int)>4096) then
 some (.inr (.inl (a1,o)))
 else
 if Ty.row (.int .i64)=true/\(0:Int)<=((b.1.getD i.toNat Ae.zero).2.2.2.2.2.1.length:Int)/\((b.1.getD i.toNat Ae.zero).2.2.2.2.2.1.length:Int)<=((b.1.getD i.toNat Ae.zero).2.2.2.2.2.1.length:Int)/\((8:Nat):Int)*((b.1.getD i.toNat Ae.zero).2.2.2.2.2.1.length:Int)<=(281474976710656:Int)/\((b.1.getD i.toNat Ae.zero).2.2.2.2.2.1.length:Int)<=(9223372036854775807:Int) then
 (Jx a c i d b o (b.1.getD i.toNat Ae.zero) (b.1.getD i.toNat Ae.zero).2.2.2.2.2.1 ((b.1.getD i.toNat Ae.zero).2.2.2.2.2.1.length:Int) 0 a1 (List.replicate ((b.1.getD i.toNat Ae.zero).2.2.2.2.2.1.length:Int).toNat 0)).bind (Sum.elim (λu =>
 some (.inr (.inl (u.2,o)))) (λv =>
 (C2 (b.1.getD i.toNat Ae.zero) a v.1).bind λb1 =>
 if(0:Int)<=i/\i<(o.length:Int) then
 (MB a c i d b (b.1.getD i.toNat Ae.zero) (o.set i.toNat b1) v.2).bind λn =>
 bif n then
 some (.inr (.inl (v.2,(o.set i.toNat b1))))
 else
 some (.inl ((wI (i+1)),(o.set i.toNat b1),v.2))
 else none))
 else none
 else none
 else
 some (.inr (.inr (a1,o)))
def EO(a:Axw)(b:Axp)(c d:Int)(z_:Int×Axs×Axt):=Ki a b c d z_.1 z_.2.1 z_.2.2
def OZ(a:Axw)(b:Axp)(c d i:Int)(o:Axs)(a1:Axt):=fix (EO a b c d) (i,o,a1)
theorem Aoh(a:Axw)(b:Axp)(c d:Int):AU jR 0 6 (code Tryz.f221) [1,1,1,1,0,1,0] (AlK a b c d) (EO a b c d) (Ajx a b c d):=by
 intro _;simp only[EO,Ki,Axe];simp(disch:=refine sI ?_<;>(repeat' refine sA ?_ ?_)<;>intro _<;>kernel_rfl) only[Jx,Ax (Aof _ _ _ _ _ _ _ _ _) (K:=Be 0 (jR.hd 6) (jR.ot 6)),A6 (Aog _ _ _ _ _ _ _ _) (K:=Be 0 (jR.hd 6) (jR.ot 6))]
 kernel_rfl
def AdY(a:Axw)(b:Axp)(c1:Int):St:=sT 101 [(0,dD (.sl Ab) a),(3,.ptr 0 0 [] 0),(6,dI c1)] [.box (dD Ak b)]
def Yu(a:Axw)(b:Axp)(c1:Int):(Axs×Axt)->St:=λd1=>sT 101 [(0,dD (.sl Ab) a),(3,.ptr 0 0 [] 0),(6,dI c1),(7,.ref 1),(8,.ref 2)] [.box (dD Ak b),.row 2 .deep (.int .i64) d1.1,.row 4 .deep .bool d1.2]
def Jw(a:Axw)(b:Axp)(c1:Int):Option (Axs×Axt) :=
 if Ty.row (.int .i64)=true/\(0:Int)<=c1/\c1<=c1/\((8:Nat):Int)*c1<=(281474976710656:Int)/\c1<=(9223372036854775807:Int) then
 if Ty.row .bool=true/\(0:Int)<=c1/\c1<=c1/\((1:Nat):Int)*c1<=(281474976710656:Int)/\c1<=(9223372036854775807:Int) then
 some ((List.replicate c1.toNat 0),(List.replicate c1.toNat false))
 else none
 else none
theorem Aoe(a:Axw)(b:Axp)(c1:Int):S4 jR 0 4 (code Tryz.f221) [1,1,1,0] (AdY a b c1) (Jw a b c1) (Yu a b c1):=by
 unfold S4;have h:drS jR 0 4 (code Tryz.f221) [1,1,1,0] (AdY a b c1) =
 if Ty.row (.int .i64)=true/\(0:Int)<=c1/\c1<=c1/\((8:Nat):Int)*c1<=(281474976710656:Int)/\c1<=(9223372036854775807:Int) then
 if Ty.row .bool=true/\(0:Int)<=c1/\c1<=c1/\((1:Nat):Int)*c1<=(281474976710656:Int)/\c1<=(9223372036854775807:Int) then
 (((if Ty.row (.int .i64)=true/\(0:Int)<=c1/\c1<=c1/\((8:Nat):Int)*c1<=(281474976710656:Int)/\c1<=(9223372036854775807:Int) then
 if Ty.row .bool=true/\(0:Int)<=c1/\c1<=c1/\((1:Nat):Int)*c1<=(281474976710656:Int)/\c1<=(9223372036854775807:Int) then
 Ti (Yu a b c1 ((List.replicate c1.toNat 0),(List.replicate c1.toNat false))) (Yu a b c1 ((List.replicate c1.toNat 0),(List.replicate c1.toNat false)))
 else none
 else none).bind λ_ =>
 if Ty.row .bool=true/\(0:Int)<=c1/\c1<=c1/\((1:Nat):Int)*c1<=(281474976710656:Int)/\c1<=(9223372036854775807:Int) then
 if Ty.row (.int .i64)=true/\(0:Int)<=c1/\c1<=c1/\((8:Nat):Int)*c1<=(281474976710656:Int)/\c1<=(9223372036854775807:Int) then
 Ti (Yu a b c1 ((List.replicate c1.toNat 0),(List.replicate c1.toNat false))) (Yu a b c1 ((List.replicate c1.toNat 0),(List.replicate c1.toNat false)))
 else none
 else none).bind λ_=>some (Yu a b c1 ((List.replicate c1.toNat 0),(List.replicate c1.toNat false))))
 else none
 else none:=by kernel_rfl
 rw[h];unfold Jw;simp only[Axe,mS,mO];clear h;by_cases hc0:Ty.row (.int .i64)=true/\(0:Int)<=c1/\c1<=c1/\((8:Nat):Int)*c1<=(281474976710656:Int)/\c1<=(9223372036854775807:Int)
 ·rw[if_pos hc0,if_pos hc0];by_cases hc1:Ty.row .bool=true/\(0:Int)<=c1/\c1<=c1/\((1:Nat):Int)*c1<=(281474976710656:Int)/\c1<=(9223372036854775807:Int)
  ·rw[if_pos hc1,if_pos hc1];simp only[if_pos hc0,if_pos hc1,if_true,AwW,Nm]
  ·simp only[if_pos hc0,if_true,if_neg hc1]
 ·simp only[if_true,if_neg hc0]
def vS(a:Axw)(b:Axp):St:=sT 101 [(0,dD (.sl Ab) a),(3,.ptr 0 0 [] 0),(6,dI (b.1.length:Int))] [.box (dD Ak b)]
def uS(a:Axw)(b:Axp)(m0:Bool):Ex×St:=(.normal,sT 101 [(0,dD (.sl Ab) a),(3,.ptr 0 0 [] 0),(6,dI (b.1.length:Int)),(22,dB m0)] [.box (dD Ak b)])
theorem Aod(a:Axw)(b:Axp):Mn jR 0 3 (code Tryz.f221) [1,1,0,0] (vS a b)=some (uS a b ((decide ((b.1.length:Int)<1))||(decide ((b.1.length:Int)>400)))):=by
 have h0:Mn jR 0 3 (code Tryz.f221) [1,1,0,0] (vS a b) =
 bif decide ((b.1.length:Int)<1) then
 some (uS a b true)
 else
 some (uS a b (decide ((b.1.length:Int)>400))):=by kernel_rfl
 rw[h0];cases h1:(decide ((b.1.length:Int)<1))
 ·first | rfl | kernel_rfl
 ·first | rfl | kernel_rfl
def Mf(a:Axw)(b:Axp):Option (Bool×Axs) :=
 N8 (vS a b) (
 bif (decide ((b.1.length:Int)<1))||(decide ((b.1.length:Int)>400)) then
 some (false,([]:Axs))
 else
 (Jw a b (b.1.length:Int)).bind λd1 =>
 (OZ a b (b.1.length:Int) (b.1.length:Int) 0 d1.1 d1.2).bind (Sum.elim (λe =>
 some (false,([]:Axs))) (λg =>
 if(0:Int)<=(0:Int)/\(0:Int)<=(wI ((b.1.length:Int)-1))/\(wI ((b.1.length:Int)-1))<=(g.1.length:Int) then
 (Cl ((g.1.take (wI ((b.1.length:Int)-1)).toNat).drop 0) false).bind λe1 =>
 some ((!e1),g.2)
 else none)))
theorem U68(R:Type)(a:Axw)(b:Axp)(K:AV->List Blk->Option R):AH jR Tryz.f221 R [dD (.sl Ab) a,dD Ak b] [] K=(Mf a b).bind λr=>K (.cons (.ref 0) (.cons (dB r.1) .nil)) [.row 2 .deep (.int .i64) r.2]:=by
 simp only[Mf,Axf];simp(disch:=refine sI ?_<;>(repeat' refine sA ?_ ?_)<;>intro _<;>kernel_rfl) only[F7 (Aod _ _) (K:=AP jR Tryz.f221 0 R K),WW (Aoe _ _ _) (K:=AP jR Tryz.f221 0 R K),OZ,Ax (Aoh _ _ _ _) (K:=AP jR Tryz.f221 0 R K)]
 kernel_rfl
def ApS:Va.Callee:=BX [.d (.sl Ab),.d Ak] [⟨[.dat [] (.sl Ab),.dat [] Ak],[],(Bool×Axs),λp=>Mf p.1.1 p.1.2.1,λr=>(.cons (.ref 0) (.cons (dB r.1) .nil),[.row 2 .deep (.int .i64) r.2])⟩]
theorem yx:An Tryz.prog 221 ApS:=Ap (fn:=Tryz.f221) (by kernel_rfl) (by kernel_rfl) (by kernel_rfl) ⟨⟨jR,⟨⟨Aw,Ao ⟨R9,yJ,yK,yL,trivial⟩⟩,mixed⟩,λp R K=>U68 R p.1.1 p.1.2.1 K⟩,trivial⟩
abbrev E69:Env:=⟨tab,As [(221,ApS)],{deep:=true}⟩
def Eu(a:Axw)(b:Axp):Option Int :=
 (Mf a b).bind λc =>
 bif !c.1 then
 some (-1)
 else
 if(0:Int)<=(wI ((c.2.length:Int)-1))/\(wI ((c.2.length:Int)-1))<(c.2.length:Int) then
 some (c.2.getD (wI ((c.2.length:Int)-1)).toNat (Ty.zero (.int .i64)))
 else none
theorem U69(R:Type)(a:Axw)(b:Axp)(K:AV->List Blk->Option R):AH E69 Tryz.f182 R [dD (.sl Ab) a,dD Ak b] [] K=(Eu a b).bind λr=>K (dI r) []:=by
 simp only[Eu,Axf];kernel_rfl
def c182:Va.Callee:=BX [.d (.sl Ab),.d Ak] [⟨[.dat [] (.sl Ab),.dat [] Ak],[],Int,λp=>Eu p.1.1 p.1.2.1,λr=>(dI r,[])⟩]
theorem xR:An Tryz.prog 182 c182:=Ap (fn:=Tryz.f182) (by kernel_rfl) (by kernel_rfl) (by kernel_rfl) ⟨⟨E69,⟨⟨Aw,Ao ⟨yx,trivial⟩⟩,mixed⟩,λp R K=>U69 R p.1.1 p.1.2.1 K⟩,trivial⟩
abbrev E70:Env:=⟨tab,As [(59,c59),(182,c182)],{deep:=true,heads:=[(5,{live:=[0,5,12,13,14]})],outs:=[(5,{live:=[4]})],joins:=[(9,{live:=[0,7,12,13,14,39]})],ents:=[(9,[0,5,7,8,12,13,14])]}⟩
def AlM(a:Axw)(b:AxA)(c:Int)(z_:Int×Int):St:=sT 43 [(0,dD (.sl Ab) a),(5,dI z_.1),(12,dD (.sl Ag) b),(13,dI c),(14,dI z_.2)] []
def Ajz(a:Axw)(b:AxA)(c:Int):(Unit⊕Unit)->Ex×St:=Sum.elim (λd=>(.ret,sT 43 [(4,dB false)] [])) (λe=>((.exit 0),sT 43 [] []))
def AlL(a:Axw)(g i:Int)(b:AxA)(c j:Int)(k:Axl):St:=sT 43 [(0,dD (.sl Ab) a),(5,dI g),(7,.ptr 0 0 [] 0),(8,dI i),(12,dD (.sl Ag) b),(13,dI c),(14,dI j)] [.box (dD Ag k)]
def Ajy(a:Axw)(g i:Int)(b:AxA)(c j:Int)(k:Axl):Bool->Ex×St:=λl=>(.normal,sT 43 [(0,dD (.sl Ab) a),(7,.ptr 0 0 [] 0),(12,dD (.sl Ag) b),(13,dI c),(14,dI j),(39,dB l)] [.box (dD Ag k)])
def Fl(a:Axw)(g i:Int)(b:AxA)(c j:Int)(k:Axl):Option Bool :=
 bif !(Ay k.1 (wI (g+1)) 1000000) then
 some true
 else
 bif decide (i<0) then
 some true
 else
 (Eu a k.2.2.2.1).bind λn =>
 some (i !=n)
theorem Aoi(a:Axw)(g i:Int)(b:AxA)(c j:Int)(k:Axl):AL E70 0 9 (sub (code Tryz.f147) [1,1,1,0,1,0,0]) [1,1,0,0,1,1,0,0] (AlL a g i b c j k) (Fl a g i b c j k) (Ajy a g i b c j k):=by
 unfold AL;simp only[Fl,Axe];kernel_rfl
def F5(a:Axw)(b:AxA)(c g j:Int):Option ((Int×Int)⊕(Unit⊕Unit)) :=
 bif decide (j<c) then
 if(0:Int)<=j/\j<(b.length:Int) then
 (Eu a (b.getD j.toNat Ag.zero).2.2.1).bind λi =>
 (Fl a g i b c j (b.getD j.toNat Ag.zero)).bind λl =>
 bif l then
 some (.inr (.inl ()))
 else
 some (.inl ((b.getD j.toNat Ag.zero).1,(wI (j+1))))
 else none
 else
 some (.inr (.inr ()))
def Ce(a:Axw)(b:AxA)(c:Int)(z_:Int×Int):=F5 a b c z_.1 z_.2
def LR(a:Axw)(b:AxA)(c g j:Int):=fix (Ce a b c) (g,j)
theorem Aoj(a:Axw)(b:AxA)(c:Int):AU E70 0 5 (code Tryz.f147) [1,1,1,0,1,0] (AlM a b c) (Ce a b c) (Ajz a b c):=by
 intro _;simp only[Ce,F5,Axe];simp(disch:=refine sI ?_<;>(repeat' refine sA ?_ ?_)<;>intro _<;>kernel_rfl) only[A6 (Aoi _ _ _ _ _ _ _) (K:=Be 0 (E70.hd 5) (E70.ot 5))]
 kernel_rfl
def FO(a:Axw)(b:AxA):Option Bool :=
 bif decide ((b.length:Int)>60) then
 some false
 else
 (LR a b (b.length:Int) 0 0).bind (Sum.elim (λd =>
 some false) (λe =>
 some true))
theorem U70(R:Type)(a:Axw)(b:AxA)(K:AV->List Blk->Option R):AH E70 Tryz.f147 R [dD (.sl Ab) a,dD (.sl Ag) b] [] K=(FO a b).bind λr=>K (dB r) []:=by
 simp only[FO,Axf];simp(disch:=refine sI ?_<;>(repeat' refine sA ?_ ?_)<;>intro _<;>kernel_rfl) only[LR,Ax (Aoj _ _ _) (K:=AP E70 Tryz.f147 0 R K)]
 kernel_rfl
def Apv:Va.Callee:=BX [.d (.sl Ab),.d (.sl Ag)] [⟨[.dat [] (.sl Ab),.dat [] (.sl Ag)],[],Bool,λp=>FO p.1.1 p.1.2.1,λr=>(dB r,[])⟩]
theorem xg:An Tryz.prog 147 Apv:=Ap (fn:=Tryz.f147) (by kernel_rfl) (by kernel_rfl) (by kernel_rfl) ⟨⟨E70,⟨⟨Aw,Ao ⟨R9,xR,trivial⟩⟩,mixed⟩,λp R K=>U70 R p.1.1 p.1.2.1 K⟩,trivial⟩
noncomputable def ApW:Va.Callee:=Tb 216 (.int .u64) 8
noncomputable abbrev e245:Env:={tab:=tab,fns:=As [],fi:={}}
theorem Ac4:HB Tryz.prog e245:=⟨⟨Aw,Ao trivial⟩,mixed⟩
theorem yG:An Tryz.prog 245 ApW :=
 UL (fn:=Tryz.f245) Ac4 (by kernel_rfl) (by kernel_rfl) rfl rfl rfl ⟨rfl,rfl,rfl⟩ ⟨rfl,rfl,rfl⟩ (ti:=⟨.sl (.int .u64),[],216,24,0,0,false⟩) (by kernel_rfl) rfl (by kernel_rfl) (λxs=>by kernel_rfl) (λxs=>by kernel_rfl)
  λxs h=>by
   have h0:ev e245 0 (sub (code Tryz.f245) [1,1]) (Ex×St) ⟨[.dat [] (.sl (.int .u64)) xs,.un 0,.zs,.dat [] (.sl (.int .u64)) xs,.bool false,.un 0,.un 0,.un 0],[]⟩ Hz=if xs.length*8<=140737488355328 then some (.ret,⟨[.dat [] (.sl (.int .u64)) xs,.un 0,.ref 0,.dat [] (.sl (.int .u64)) xs,.bool false,.zs,.dat [] (.sl (.int .u64)) xs,.ref 0],[.row 216 .deep (.int .u64) xs]⟩) else none:=by kernel_rfl
   exact h0.trans (if_pos h)
abbrev E71:Env:=⟨tab,As [(245,ApW)],{deep:=true}⟩
def Dp(a:Axq):Option (Int×Axs) :=
 if a.2.1.length*8<=140737488355328 then
 some (a.1,a.2.1)
 else none
theorem U71(R:Type)(a:Axq)(K:AV->List Blk->Option R):AH E71 Tryz.f216 R [dD Am a] [] K=(Dp a).bind λr=>K (.pr (dI r.1) (.pr (.ref 0) .u)) [.row 216 .deep (.int .u64) r.2]:=by
 simp only[Dp,Axf];kernel_rfl
def Ag7:Va.Callee:=BX [.d Am] [⟨[.dat [] Am],[],(Int×Axs),λp=>Dp p.1.1,λr=>(.pr (dI r.1) (.pr (.ref 0) .u),[.row 216 .deep (.int .u64) r.2])⟩]
theorem fu:An Tryz.prog 216 Ag7:=Ap (fn:=Tryz.f216) (by kernel_rfl) (by kernel_rfl) (by kernel_rfl) ⟨⟨E71,⟨⟨Aw,Ao ⟨yG,trivial⟩⟩,mixed⟩,λp R K=>U71 R p.1.1 K⟩,trivial⟩
end
end Go.Proofs.X
namespace Go.Proofs.X
open Go Go.Va
set_option maxRecDepth 100000
noncomputable section
abbrev E72:Env:=⟨tab,As [],{deep:=true}⟩
def Ar(a:Int)(b:Axs):(Int×Int×Int×Int×Axs):=((-1),0,a,a,b)
theorem U72(R:Type)(a:Int)(b:Axs)(K:AV->List Blk->Option R):AH E72 Tryz.f229 R [.pr (dI a) (.pr (.ref 0) .u)] [.row 216 .deep (.int .u64) b] K=K (.pr (dI (Ar a b).1) (.pr (dI (Ar a b).2.1) (.pr (dI (Ar a b).2.2.1) (.pr (.pr (dI (Ar a b).2.2.2.1) (.pr (.ref 0) .u)) .u)))) [.row 216 .deep (.int .u64) (Ar a b).2.2.2.2]:=by
 kernel_rfl
def c229:Va.Callee:=BX [.raw] [⟨[.pr (.dat [] (.int .i64)) (.pr (.k (.ref 0)) (.k .u))],[.row 216 .deep (.int .u64)],(Int×Int×Int×Int×Axs),λp=>some (Ar p.1.1.1 p.2.1),λr=>(.pr (dI r.1) (.pr (dI r.2.1) (.pr (dI r.2.2.1) (.pr (.pr (dI r.2.2.2.1) (.pr (.ref 0) .u)) .u))),[.row 216 .deep (.int .u64) r.2.2.2.2])⟩]
theorem fA:An Tryz.prog 229 c229:=Ap (fn:=Tryz.f229) (by kernel_rfl) (by kernel_rfl) (by kernel_rfl) ⟨⟨E72,⟨⟨Aw,Ao trivial⟩,mixed⟩,λp R K=>U72 R p.1.1.1 p.2.1 K⟩,trivial⟩
abbrev E73:Env:=⟨tab,As [],{deep:=true}⟩
def Cv(a b:Axi):Bool:=((a.1==b.1)&&((a.1==(-1))||((wI (a.2.1+a.2.2.1))==b.2.1)))
theorem U73(R:Type)(a b:Axi)(K:AV->List Blk->Option R):AH E73 Tryz.f256 R [dD Ad a,dD Ad b] [] K=K (dB (Cv a b)) []:=by
 have h:AH E73 Tryz.f256 R [dD Ad a,dD Ad b] [] K =
 bif a.1==b.1 then
 bif a.1==(-1) then
 K (dB true) []
 else
 K (dB ((wI (a.2.1+a.2.2.1))==b.2.1)) []
 else
 K (dB false) []:=by kernel_rfl
 rw[h];unfold Cv;cases h1:(a.1==b.1)
 ·first | rfl | kernel_rfl
 ·cases h2:(a.1==(-1))
  ·first | rfl | kernel_rfl
  ·first | rfl | kernel_rfl
def Ap5:Va.Callee:=BX [.d Ad,.d Ad] [⟨[.dat [] Ad,.dat [] Ad],[],Bool,λp=>some (Cv p.1.1 p.1.2.1),λr=>(dB r,[])⟩]
theorem yP:An Tryz.prog 256 Ap5:=Ap (fn:=Tryz.f256) (by kernel_rfl) (by kernel_rfl) (by kernel_rfl) ⟨⟨E73,⟨⟨Aw,Ao trivial⟩,mixed⟩,λp R K=>U73 R p.1.1 p.1.2.1 K⟩,trivial⟩
abbrev E74:Env:=⟨tab,As [(200,Ag5)],{deep:=true}⟩
def Dh(a:Int):Option (Int×Axs) :=
 if Ty.row (.int .u64)=true/\(0:Int)<=(Bi a)/\(Bi a)<=(Bi a)/\((8:Nat):Int)*(Bi a)<=(281474976710656:Int)/\(Bi a)<=(9223372036854775807:Int) then
 some (a,(List.replicate (Bi a).toNat 0))
 else none
theorem U74(R:Type)(a:Int)(K:AV->List Blk->Option R):AH E74 Tryz.f138 R [dI a] [] K=(Dh a).bind λr=>K (.pr (dI r.1) (.pr (.ref 0) .u)) [.row 216 .deep (.int .u64) r.2]:=by
 simp only[Dh,Axf];kernel_rfl
def c138:Va.Callee:=BX [.d (.int .i64)] [⟨[.dat [] (.int .i64)],[],(Int×Axs),λp=>Dh p.1.1,λr=>(.pr (dI r.1) (.pr (.ref 0) .u),[.row 216 .deep (.int .u64) r.2])⟩]
theorem WC:An Tryz.prog 138 c138:=Ap (fn:=Tryz.f138) (by kernel_rfl) (by kernel_rfl) (by kernel_rfl) ⟨⟨E74,⟨⟨Aw,Ao ⟨eZ,trivial⟩⟩,mixed⟩,λp R K=>U74 R p.1.1 K⟩,trivial⟩
abbrev E75:Env:=⟨tab,As [],{deep:=true,heads:=[(2,{live:=[1,3,10,11,12]})],outs:=[(2,{live:=[]})],joins:=[(7,{live:=[1,3,7,8,10,11,12,44]}),(8,{live:=[1,3,10,11,12]})],ents:=[(7,[1,3,7,8,10,11,12]),(8,[1,3,10,11,12])]}⟩
def AlO(a b:Int)(c:Axs)(d:Int)(z_:Int×Axs):St:=sT 60 [(1,dI a),(3,.ptr 1 0 [] 0),(10,dD (.sl (.int .u64)) c),(11,dI d),(12,dI z_.1)] [.row 216 .deep (.int .u64) z_.2,.box (.pr (dI b) (.pr (.ref 0) .u))]
def AjB(a b:Int)(c:Axs)(d:Int):Axs->Ex×St:=λe=>((.exit 0),sT 60 [] [.row 216 .deep (.int .u64) e])
def AlN(a:Int)(c:Axs)(d g:Int)(i:Axs)(b:Int):St:=sT 60 [(1,dI a),(3,.ptr 1 0 [] 0),(10,dD (.sl (.int .u64)) c),(11,dI d),(12,dI g)] [.row 216 .deep (.int .u64) i,.box (.pr (dI b) (.pr (.ref 0) .u))]
def AjA(a:Int)(c:Axs)(d g:Int)(i:Axs)(b:Int):Axs->Ex×St:=λj=>(.normal,sT 60 [(1,dI a),(3,.ptr 1 0 [] 0),(10,dD (.sl (.int .u64)) c),(11,dI d),(12,dI g)] [.row 216 .deep (.int .u64) j,.box (.pr (dI b) (.pr (.ref 0) .u))])
def vT(a:Int)(c:Axs)(g d:Int)(i:Axs)(b:Int):St:=sT 60 [(1,dI a),(3,.ptr 1 0 [] 0),(7,dD (.int .u64) (c.getD g.toNat (Ty.zero (.int .u64)))),(8,dI (wI (a+(wI (64*g))))),(10,dD (.sl (.int .u64)) c),(11,dI d),(12,dI g)] [.row 216 .deep (.int .u64) (i.set (wI (Int.tdiv (wI (a+(wI (64*g)))) 64)).toNat (V4 .u64 (i.getD (wI (Int.tdiv (wI (a+(wI (64*g)))) 64)).toNat (Ty.zero (.int .u64))) (Lf .u64 (c.getD g.toNat (Ty.zero (.int .u64))) (Int.tmod (wI (a+(wI (64*g)))) 64)))),.box (.pr (dI b) (.pr (.ref 0) .u))]
def uT(a:Int)(c:Axs)(g d:Int)(i:Axs)(b:Int)(m0:Bool):Ex×St:=(.normal,sT 60 [(1,dI a),(3,.ptr 1 0 [] 0),(7,dD (.int .u64) (c.getD g.toNat (Ty.zero (.int .u64)))),(8,dI (wI (a+(wI (64*g))))),(10,dD (.sl (.int .u64)) c),(11,dI d),(12,dI g),(44,dB m0)] [.row 216 .deep (.int .u64) (i.set (wI (Int.tdiv (wI (a+(wI (64*g)))) 64)).toNat (V4 .u64 (i.getD (wI (Int.tdiv (wI (a+(wI (64*g)))) 64)).toNat (Ty.zero (.int .u64))) (Lf .u64 (c.getD g.toNat (Ty.zero (.int .u64))) (Int.tmod (wI (a+(wI (64*g)))) 64)))),.box (.pr (dI b) (.pr (.ref 0) .u))])
theorem Aok(a:Int)(c:Axs)(g d:Int)(i:Axs)(b:Int):Mn E75 1 7 (sub (sub (code Tryz.f267) [1,1,0,0]) [1,1,0]) [0,1,1,1,0] (vT a c g d i b)=some (uT a c g d i b (((Int.tmod (wI (a+(wI (64*g)))) 64) !=0)&&(decide ((wI ((wI (Int.tdiv (wI (a+(wI (64*g)))) 64))+1))<((i.set (wI (Int.tdiv (wI (a+(wI (64*g)))) 64)).toNat (V4 .u64 (i.getD (wI (Int.tdiv (wI (a+(wI (64*g)))) 64)).toNat (Ty.zero (.int .u64))) (Lf .u64 (c.getD g.toNat (Ty.zero (.int .u64))) (Int.tmod (wI (a+(wI (64*g)))) 64)))).length:Int))))):=by
 have h0:Mn E75 1 7 (sub (sub (code Tryz.f267) [1,1,0,0]) [1,1,0]) [0,1,1,1,0] (vT a c g d i b) =
 bif (Int.tmod (wI (a+(wI (64*g)))) 64) !=0 then
 some (uT a c g d i b (decide ((wI ((wI (Int.tdiv (wI (a+(wI (64*g)))) 64))+1))<((i.set (wI (Int.tdiv (wI (a+(wI (64*g)))) 64)).toNat (V4 .u64 (i.getD (wI (Int.tdiv (wI (a+(wI (64*g)))) 64)).toNat (Ty.zero (.int .u64))) (Lf .u64 (c.getD g.toNat (Ty.zero (.int .u64))) (Int.tmod (wI (a+(wI (64*g)))) 64)))).length:Int))))
 else
 some (uT a c g d i b false):=by kernel_rfl
 rw[h0];cases h1:((Int.tmod (wI (a+(wI (64*g)))) 64) !=0)
 ·first | rfl | kernel_rfl
 ·first | rfl | kernel_rfl
def G2(a:Int)(c:Axs)(d g:Int)(i:Axs)(b:Int):Option Axs :=
 if(0:Int)<=g/\g<(c.length:Int) then
 if(0:Int)<=(wI (Int.tdiv (wI (a+(wI (64*g)))) 64))/\(wI (Int.tdiv (wI (a+(wI (64*g)))) 64))<(i.length:Int) then
 if(Int.tmod (wI (a+(wI (64*g)))) 64)<(0:Int) then none else
 if(0:Int)<=(wI (Int.tdiv (wI (a+(wI (64*g)))) 64))/\(wI (Int.tdiv (wI (a+(wI (64*g)))) 64))<(i.length:Int) then
 N8 (vT a c g d i b) (
 bif ((Int.tmod (wI (a+(wI (64*g)))) 64) !=0)&&(decide ((wI ((wI (Int.tdiv (wI (a+(wI (64*g)))) 64))+1))<((i.set (wI (Int.tdiv (wI (a+(wI (64*g)))) 64)).toNat (V4 .u64 (i.getD (wI (Int.tdiv (wI (a+(wI (64*g)))) 64)).toNat (Ty.zero (.int .u64))) (Lf .u64 (c.getD g.toNat (Ty.zero (.int .u64))) (Int.tmod (wI (a+(wI (64*g)))) 64)))).length:Int))) then
 if(0:Int)<=(wI ((wI (Int.tdiv (wI (a+(wI (64*g)))) 64))+1))/\(wI ((wI (Int.tdiv (wI (a+(wI (64*g)))) 64))+1))<((i.set (wI (Int.tdiv (wI (a+(wI (64*g)))) 64)).toNat (V4 .u64 (i.getD (wI (Int.tdiv (wI (a+(wI (64*g)))) 64)).toNat (Ty.zero (.int .u64))) (Lf .u64 (c.getD g.toNat (Ty.zero (.int .u64))) (Int.tmod (wI (a+(wI (64*g)))) 64)))).length:Int) then
 if(wI (64-(Int.tmod (wI (a+(wI (64*g)))) 64)))<(0:Int) then none else
 if(0:Int)<=(wI ((wI (Int.tdiv (wI (a+(wI (64*g)))) 64))+1))/\(wI ((wI (Int.tdiv (wI (a+(wI (64*g)))) 64))+1))<((i.set (wI (Int.tdiv (wI (a+(wI (64*g)))) 64)).toNat (V4 .u64 (i.getD (wI (Int.tdiv (wI (a+(wI (64*g)))) 64)).toNat (Ty.zero (.int .u64))) (Lf .u64 (c.getD g.toNat (Ty.zero (.int .u64))) (Int.tmod (wI (a+(wI (64*g)))) 64)))).length:Int) then
 some ((i.set (wI (Int.tdiv (wI (a+(wI (64*g)))) 64)).toNat (V4 .u64 (i.getD (wI (Int.tdiv (wI (a+(wI (64*g)))) 64)).toNat (Ty.zero (.int .u64))) (Lf .u64 (c.getD g.toNat (Ty.zero (.int .u64))) (Int.tmod (wI (a+(wI (64*g)))) 64)))).set (wI ((wI (Int.tdiv (wI (a+(wI (64*g)))) 64))+1)).toNat (V4 .u64 ((i.set (wI (Int.tdiv (wI (a+(wI (64*g)))) 64)).toNat (V4 .u64 (i.getD (wI (Int.tdiv (wI (a+(wI (64*g)))) 64)).toNat (Ty.zero (.int .u64))) (Lf .u64 (c.getD g.toNat (Ty.zero (.int .u64))) (Int.tmod (wI (a+(wI (64*g)))) 64)))).getD (wI ((wI (Int.tdiv (wI (a+(wI (64*g)))) 64))+1)).toNat (Ty.zero (.int .u64))) (Oa .u64 (c.getD g.toNat (Ty.zero (.int .u64))) (wI (64-(Int.tmod (wI (a+(wI (64*g)))) 64))))))
 else none
 else none
 else
 some (i.set (wI (Int.tdiv (wI (a+(wI (64*g)))) 64)).toNat (V4 .u64 (i.getD (wI (Int.tdiv (wI (a+(wI (64*g)))) 64)).toNat (Ty.zero (.int .u64))) (Lf .u64 (c.getD g.toNat (Ty.zero (.int .u64))) (Int.tmod (wI (a+(wI (64*g)))) 64)))))
 else none
 else none
 else none
theorem Aol(a:Int)(c:Axs)(d g:Int)(i:Axs)(b:Int):AL E75 1 8 (sub (code Tryz.f267) [1,1,0,0]) [1,1,0] (AlN a c d g i b) (G2 a c d g i b) (AjA a c d g i b):=by
 unfold AL;simp only[G2,Axe];simp(disch:=refine sI ?_<;>(repeat' refine sA ?_ ?_)<;>intro _<;>kernel_rfl) only[F7 (Aok _ _ _ _ _ _) (K:=CU 1 (E75.jn 8))]
 kernel_rfl
def HF(a b:Int)(c:Axs)(d g:Int)(i:Axs):Option ((Int×Axs)⊕Axs) :=
 bif decide (g<d) then
 (G2 a c d g i b).bind λj =>
 some (.inl ((wI (g+1)),j))
 else
 some (.inr i)
def Fh(a b:Int)(c:Axs)(d:Int)(z_:Int×Axs):=HF a b c d z_.1 z_.2
def Nq(a b:Int)(c:Axs)(d g:Int)(i:Axs):=fix (Fh a b c d) (g,i)
theorem Aom(a b:Int)(c:Axs)(d:Int):AU E75 1 2 (code Tryz.f267) [1,1,0] (AlO a b c d) (Fh a b c d) (AjB a b c d):=by
 intro _;simp only[Fh,HF,Axe];simp(disch:=refine sI ?_<;>(repeat' refine sA ?_ ?_)<;>intro _<;>kernel_rfl) only[A6 (Aol _ _ _ _ _ _) (K:=Be 1 (E75.hd 2) (E75.ot 2))]
 kernel_rfl
def Gt(b a:Int)(k:Axq)(l:Axs):Option Axs :=
 (Nq a b k.2.1 (k.2.1.length:Int) 0 l).bind λe =>
 some e
theorem U75(R:Type)(b a:Int)(k:Axq)(l:Axs)(K:AV->List Blk->Option R):AH E75 Tryz.f267 R [.pr (dI b) (.pr (.ref 0) .u),dI a,dD Am k] [.row 216 .deep (.int .u64) l] K=(Gt b a k l).bind λr=>K .nil [.row 216 .deep (.int .u64) r]:=by
 simp only[Gt,Axf];simp(disch:=refine sI ?_<;>(repeat' refine sA ?_ ?_)<;>intro _<;>kernel_rfl) only[Nq,Ax (Aom _ _ _ _) (K:=AP E75 Tryz.f267 1 R K)]
 kernel_rfl
def Aqa:Va.Callee:=BX [.raw,.d (.int .i64),.d Am] [⟨[.pr (.dat [] (.int .i64)) (.pr (.k (.ref 0)) (.k .u)),.dat [] (.int .i64),.dat [] Am],[.row 216 .deep (.int .u64)],Axs,λp=>Gt p.1.1.1 p.1.2.1 p.1.2.2.1 p.2.1,λr=>(.nil,[.row 216 .deep (.int .u64) r])⟩]
theorem yU:An Tryz.prog 267 Aqa:=Ap (fn:=Tryz.f267) (by kernel_rfl) (by kernel_rfl) (by kernel_rfl) ⟨⟨E75,⟨⟨Aw,Ao trivial⟩,mixed⟩,λp R K=>U75 R p.1.1.1 p.1.2.1 p.1.2.2.1 p.2.1 K⟩,trivial⟩
abbrev E76:Env:=⟨tab,As [(138,c138),(267,Aqa)],{deep:=true}⟩
def Dm(a b:Axq):Option (Int×Axs) :=
 (Dh (wI (a.1+b.1))).bind λc =>
 (Gt c.1 0 b c.2).bind λd =>
 (Gt c.1 b.1 a d).bind λe =>
 some (c.1,e)
theorem U76(R:Type)(a b:Axq)(K:AV->List Blk->Option R):AH E76 Tryz.f257 R [dD Am a,dD Am b] [] K=(Dm a b).bind λr=>K (.pr (dI r.1) (.pr (.ref 0) .u)) [.row 216 .deep (.int .u64) r.2]:=by
 simp only[Dm,Axf];kernel_rfl
def Ap6:Va.Callee:=BX [.d Am,.d Am] [⟨[.dat [] Am,.dat [] Am],[],(Int×Axs),λp=>Dm p.1.1 p.1.2.1,λr=>(.pr (dI r.1) (.pr (.ref 0) .u),[.row 216 .deep (.int .u64) r.2])⟩]
theorem yQ:An Tryz.prog 257 Ap6:=Ap (fn:=Tryz.f257) (by kernel_rfl) (by kernel_rfl) (by kernel_rfl) ⟨⟨E76,⟨⟨Aw,Ao ⟨WC,yU,trivial⟩⟩,mixed⟩,λp R K=>U76 R p.1.1 p.1.2.1 K⟩,trivial⟩
abbrev uD:Env:=⟨tab,As [(256,Ap5),(257,Ap6)],{heads:=[(2,{live:=[0,8,9,10],mv:=[0]})],outs:=[(2,{live:=[0]})],joins:=[(6,{live:=[0,6,7,8,9,10,27]}),(9,{live:=[0,6,7,8,9,10]}),(10,{live:=[0,8,9,10],mv:=[0]})],ents:=[(6,[0,6,7,8,9,10]),(9,[0,6,7,8,9,10]),(10,[0,8,9,10])]}⟩
def AlS(a:Axx)(b:Int)(z_:Int×Axx):St:=sT 59 [(0,.ref 1),(8,dD (.sl Ad) a),(9,dI b),(10,dI z_.1)] [.dead,.row 238 (.sh []) Ad z_.2]
def AjF(a:Axx)(b:Int):Axx->Ex×St:=λc=>((.exit 0),sT 59 [(0,.ref 1)] [.dead,.row 238 (.sh []) Ad c])
def AlR(a:Axx)(b d:Int)(e:Axx):St:=sT 59 [(0,.ref 1),(8,dD (.sl Ad) a),(9,dI b),(10,dI d)] [.dead,.row 238 (.sh []) Ad e]
def AjE(a:Axx)(b d:Int)(e:Axx):Axx->Ex×St:=λg=>(.normal,sT 59 [(0,.ref 1),(8,dD (.sl Ad) a),(9,dI b),(10,dI d)] [.dead,.row 238 (.sh []) Ad g])
def AlQ(a:Axx)(b d:Int)(e:Axx)(i:Int)(j:Axi):St:=sT 59 [(0,.ref 1),(6,.ptr 2 0 [] 0),(7,dI i),(8,dD (.sl Ad) a),(9,dI b),(10,dI d)] [.dead,.row 238 (.sh []) Ad e,.box (dD Ad j)]
def AjD(a:Axx)(b d:Int)(e:Axx)(i:Int)(j:Axi):Axx->Ex×St:=λk=>(.normal,sT 59 [(0,.ref 1),(6,.ptr 2 0 [] 0),(7,dI i),(8,dD (.sl Ad) a),(9,dI b),(10,dI d)] [.dead,.row 238 (.sh []) Ad k,.box (dD Ad j)])
def K7(a:Axx)(b d:Int)(e:Axx)(i:Int)(j:Axi):Option Axx :=
 bif j.1==(-1) then
 if(0:Int)<=i/\i<(e.length:Int) then
 (Dm j.2.2.2.1 (e.getD i.toNat Ad.zero).2.2.2.1).bind λl =>
 if(0:Int)<=i/\i<(e.length:Int) then
 some (e.set i.toNat ((e.getD i.toNat Ad.zero).1,(e.getD i.toNat Ad.zero).2.1,(e.getD i.toNat Ad.zero).2.2.1,(l.1,l.2,()),(e.getD i.toNat Ad.zero).2.2.2.2))
 else none
 else none
 else
 some e
theorem Aoo(a:Axx)(b d:Int)(e:Axx)(i:Int)(j:Axi):AL uD 1 9 (sub (sub (code Tryz.f230) [1,0,1,0,0]) [1,1,0]) [0,1,1,1,0] (AlQ a b d e i j) (K7 a b d e i j) (AjD a b d e i j):=by
 unfold AL;simp only[K7,Axe];kernel_rfl
def AlP(a:Axx)(b d:Int)(e:Axx)(n:Int)(o:Axi):St:=sT 59 [(0,.ref 1),(6,.ptr 2 0 [] 0),(7,dI n),(8,dD (.sl Ad) a),(9,dI b),(10,dI d)] [.dead,.row 238 (.sh []) Ad e,.box (dD Ad o)]
def AjC(a:Axx)(b d:Int)(e:Axx)(n:Int)(o:Axi):Bool->Ex×St:=λq=>(.normal,sT 59 [(0,.ref 1),(6,.ptr 2 0 [] 0),(7,dI n),(8,dD (.sl Ad) a),(9,dI b),(10,dI d),(27,dB q)] [.dead,.row 238 (.sh []) Ad e,.box (dD Ad o)])
def K6(a:Axx)(b d:Int)(e:Axx)(n:Int)(o:Axi):Option Bool :=
 bif decide (n<0) then
 some true
 else
 if(0:Int)<=n/\n<(e.length:Int) then
 some (!(Cv (e.getD n.toNat Ad.zero) o))
 else none
theorem Aon(a:Axx)(b d:Int)(e:Axx)(n:Int)(o:Axi):AL uD 1 6 (sub (sub (code Tryz.f230) [1,0,1,0,0]) [1,1,0]) [0,1,1,0,0] (AlP a b d e n o) (K6 a b d e n o) (AjC a b d e n o):=by
 unfold AL;simp only[K6,Axe];kernel_rfl
def K8(a:Axx)(b d:Int)(e:Axx):Option Axx :=
 if(0:Int)<=d/\d<(a.length:Int) then
 (K6 a b d e (wI ((e.length:Int)-1)) (a.getD d.toNat Ad.zero)).bind λq =>
 bif q then
 if(e.length+([(a.getD d.toNat Ad.zero)]:Axx).length)*56<=140737488355328 then
 some (e++([(a.getD d.toNat Ad.zero)]:Axx))
 else none
 else
 (K7 a b d e (wI ((e.length:Int)-1)) (a.getD d.toNat Ad.zero)).bind λk =>
 if(0:Int)<=(wI ((e.length:Int)-1))/\(wI ((e.length:Int)-1))<(k.length:Int) then
 if(0:Int)<=(wI ((e.length:Int)-1))/\(wI ((e.length:Int)-1))<(k.length:Int) then
 some (k.set (wI ((e.length:Int)-1)).toNat ((k.getD (wI ((e.length:Int)-1)).toNat Ad.zero).1,(k.getD (wI ((e.length:Int)-1)).toNat Ad.zero).2.1,(wI ((k.getD (wI ((e.length:Int)-1)).toNat Ad.zero).2.2.1+(a.getD d.toNat Ad.zero).2.2.1)),(k.getD (wI ((e.length:Int)-1)).toNat Ad.zero).2.2.2))
 else none
 else none
 else none
theorem Aop(a:Axx)(b d:Int)(e:Axx):AL uD 1 10 (sub (code Tryz.f230) [1,0,1,0,0]) [1,1,0] (AlR a b d e) (K8 a b d e) (AjE a b d e):=by
 unfold AL;simp only[K8,Axe];simp(disch:=refine sI ?_<;>(repeat' refine sA ?_ ?_)<;>intro _<;>kernel_rfl) only[A6 (Aon _ _ _ _ _ _) (K:=CU 1 (uD.jn 10)),A6 (Aoo _ _ _ _ _ _) (K:=CU 1 (uD.jn 10))]
 kernel_rfl
def Lq(a:Axx)(b d:Int)(e:Axx):Option ((Int×Axx)⊕Axx) :=
 bif decide (d<b) then
 (K8 a b d e).bind λg =>
 some (.inl ((wI (d+1)),g))
 else
 some (.inr e)
def D9(a:Axx)(b:Int)(z_:Int×Axx):=Lq a b z_.1 z_.2
def P2(a:Axx)(b d:Int)(e:Axx):=fix (D9 a b) (d,e)
theorem Aoq(a:Axx)(b:Int):AU uD 1 2 (code Tryz.f230) [1,0,1,0] (AlS a b) (D9 a b) (AjF a b):=by
 intro _;simp only[D9,Lq,Axe];simp(disch:=refine sI ?_<;>(repeat' refine sA ?_ ?_)<;>intro _<;>kernel_rfl) only[A6 (Aop _ _ _ _) (K:=Be 1 (uD.hd 2) (uD.ot 2))]
 kernel_rfl
def Cw(a s:Axx):Option Axx :=
 (P2 a (a.length:Int) 0 s).bind λc =>
 some c
theorem U77(R:Type)(a s:Axx)(K:AV->List Blk->Option R):AH uD Tryz.f230 R [.ref 0,dD (.sl Ad) a] [.row 238 (.sh []) Ad s] K=(Cw a s).bind λr=>K (.ref 1) [.dead,.row 238 (.sh []) Ad r]:=by
 simp only[Cw,Axf];simp(disch:=refine sI ?_<;>(repeat' refine sA ?_ ?_)<;>intro _<;>kernel_rfl) only[P2,Ax (Aoq _ _) (K:=AP uD Tryz.f230 1 R K)]
 kernel_rfl
def Ag8:Va.Callee:=BX [.raw,.d (.sl Ad)] [⟨[.k (.ref 0),.dat [] (.sl Ad)],[.row 238 (.sh []) Ad],Axx,λp=>Cw p.1.2.1 p.2.1,λr=>(.ref 1,[.dead,.row 238 (.sh []) Ad r])⟩]
theorem fB:An Tryz.prog 230 Ag8:=Ap (fn:=Tryz.f230) (by kernel_rfl) (by kernel_rfl) (by kernel_rfl) ⟨⟨uD,⟨⟨Aw,Ao ⟨yP,yQ,trivial⟩⟩,mixed⟩,λp R K=>U77 R p.1.2.1 p.2.1 K⟩,trivial⟩
abbrev E78:Env:=⟨tab,As [],{deep:=true,heads:=[(3,{live:=[3,6,7,8]})],outs:=[(3,{live:=[3]})]}⟩
def AlT(a:Axx)(b:Int)(z_:Int×Int):St:=sT 18 [(3,dI z_.1),(6,dD (.sl Ad) a),(7,dI b),(8,dI z_.2)] []
def AjG(a:Axx)(b:Int):Int->Ex×St:=λc=>((.exit 0),sT 18 [(3,dI c)] [])
def GM(a:Axx)(b d e:Int):Option ((Int×Int)⊕Int) :=
 bif decide (e<b) then
 if(0:Int)<=e/\e<(a.length:Int) then
 some (.inl ((wI (d+(a.getD e.toNat Ad.zero).2.2.1)),(wI (e+1))))
 else none
 else
 some (.inr d)
def BV(a:Axx)(b:Int)(z_:Int×Int):=GM a b z_.1 z_.2
def Mx(a:Axx)(b d e:Int):=fix (BV a b) (d,e)
theorem Aor(a:Axx)(b:Int):AU E78 0 3 (code Tryz.f159) [1,1,0,1,0] (AlT a b) (BV a b) (AjG a b):=by
 intro _;simp only[BV,GM,Axe];kernel_rfl
def Du(a:Axx):Option Int :=
 (Mx a (a.length:Int) 0 0).bind λc =>
 some c
theorem U78(R:Type)(a:Axx)(K:AV->List Blk->Option R):AH E78 Tryz.f159 R [dD (.sl Ad) a] [] K=(Du a).bind λr=>K (dI r) []:=by
 simp only[Du,Axf];simp(disch:=refine sI ?_<;>(repeat' refine sA ?_ ?_)<;>intro _<;>kernel_rfl) only[Mx,Ax (Aor _ _) (K:=AP E78 Tryz.f159 0 R K)]
 kernel_rfl
def c159:Va.Callee:=BX [.d (.sl Ad)] [⟨[.dat [] (.sl Ad)],[],Int,λp=>Du p.1.1,λr=>(dI r,[])⟩]
theorem eY:An Tryz.prog 159 c159:=Ap (fn:=Tryz.f159) (by kernel_rfl) (by kernel_rfl) (by kernel_rfl) ⟨⟨E78,⟨⟨Aw,Ao trivial⟩,mixed⟩,λp R K=>U78 R p.1.1 K⟩,trivial⟩
abbrev uj:Env:=⟨tab,As [(138,c138)],{deep:=true,heads:=[(3,{live:=[1,2,3,6,7,15,16]})],outs:=[(3,{live:=[2,6,7]})],joins:=[(8,{live:=[1,2,3,6,7,8,9,15,16,47]}),(9,{live:=[1,2,3,6,7,15,16]}),(13,{live:=[6,7]})],ents:=[(8,[1,2,3,6,7,8,9,15,16]),(9,[1,2,3,6,7,15,16]),(13,[2,6,7])]}⟩
def AlW(a:Int)(b:Axs)(c:Int):St:=sT 85 [(2,dI a),(6,.ptr 0 0 [] 0),(7,.ptr 1 0 [] 0)] [.box (.pr (dI 0) (.pr .zs .u)),.box (.pr (dI c) (.pr (.ref 2) .u)),.row 216 .deep (.int .u64) b]
def AjJ(a:Int)(b:Axs)(c:Int):Axs->Ex×St:=λd=>(.normal,sT 85 [(6,.ptr 0 0 [] 0),(7,.ptr 1 0 [] 0)] [.box (.pr (dI 0) (.pr .zs .u)),.box (.pr (dI c) (.pr (.ref 2) .u)),.row 216 .deep (.int .u64) d])
def J3(a:Int)(b:Axs)(c:Int):Option Axs :=
 bif (Int.tmod a 64) !=0 then
 if(0:Int)<=(wI ((b.length:Int)-1))/\(wI ((b.length:Int)-1))<(b.length:Int) then
 if(Int.tmod a 64)<(0:Int) then none else
 if(0:Int)<=(wI ((b.length:Int)-1))/\(wI ((b.length:Int)-1))<(b.length:Int) then
 some (b.set (wI ((b.length:Int)-1)).toNat (XZ .u64 (b.getD (wI ((b.length:Int)-1)).toNat (Ty.zero (.int .u64))) (IntKind.u64.wrap ((Lf .u64 1 (Int.tmod a 64))-1))))
 else none
 else none
 else
 some b
theorem Aov(a:Int)(b:Axs)(c:Int):AL uj 0 13 (code Tryz.f211) [1,1,1,0] (AlW a b c) (J3 a b c) (AjJ a b c):=by
 unfold AL;simp only[J3,Axe];kernel_rfl
def AlV(e a:Int)(g:Axq)(i j:Int)(z_:Int×Axs):St:=sT 85 [(1,dI e),(2,dI a),(3,.ptr 0 0 [] 0),(6,.ptr 1 0 [] 0),(7,.ptr 2 0 [] 0),(15,dI i),(16,dI z_.1)] [.box (dD Am g),.box (.pr (dI 0) (.pr .zs .u)),.box (.pr (dI j) (.pr (.ref 3) .u)),.row 216 .deep (.int .u64) z_.2]
def AjI(e a:Int)(g:Axq)(i j:Int):Axs->Ex×St:=λb=>((.exit 0),sT 85 [(2,dI a),(6,.ptr 0 0 [] 0),(7,.ptr 1 0 [] 0)] [.box (.pr (dI 0) (.pr .zs .u)),.box (.pr (dI j) (.pr (.ref 2) .u)),.row 216 .deep (.int .u64) b])
def AlU(e a i k:Int)(g:Axq)(j:Int)(l:Axs):St:=sT 85 [(1,dI e),(2,dI a),(3,.ptr 0 0 [] 0),(6,.ptr 1 0 [] 0),(7,.ptr 2 0 [] 0),(15,dI i),(16,dI k)] [.box (dD Am g),.box (.pr (dI 0) (.pr .zs .u)),.box (.pr (dI j) (.pr (.ref 3) .u)),.row 216 .deep (.int .u64) l]
def AjH(e a i k:Int)(g:Axq)(j:Int)(l:Axs):Axs->Ex×St:=λn=>(.normal,sT 85 [(1,dI e),(2,dI a),(3,.ptr 0 0 [] 0),(6,.ptr 1 0 [] 0),(7,.ptr 2 0 [] 0),(15,dI i),(16,dI k)] [.box (dD Am g),.box (.pr (dI 0) (.pr .zs .u)),.box (.pr (dI j) (.pr (.ref 3) .u)),.row 216 .deep (.int .u64) n])
def vU(e a k i:Int)(g:Axq)(j:Int)(l:Axs):St:=sT 85 [(1,dI e),(2,dI a),(3,.ptr 0 0 [] 0),(6,.ptr 1 0 [] 0),(7,.ptr 2 0 [] 0),(8,dI k),(9,dI (wI (e+(wI (64*k))))),(15,dI i),(16,dI k)] [.box (dD Am g),.box (.pr (dI 0) (.pr .zs .u)),.box (.pr (dI j) (.pr (.ref 3) .u)),.row 216 .deep (.int .u64) (l.set k.toNat (Oa .u64 (g.2.1.getD (wI (Int.tdiv (wI (e+(wI (64*k)))) 64)).toNat (Ty.zero (.int .u64))) (Int.tmod (wI (e+(wI (64*k)))) 64)))]
def uU(e a k i:Int)(g:Axq)(j:Int)(l:Axs)(m0:Bool):Ex×St:=(.normal,sT 85 [(1,dI e),(2,dI a),(3,.ptr 0 0 [] 0),(6,.ptr 1 0 [] 0),(7,.ptr 2 0 [] 0),(8,dI k),(9,dI (wI (e+(wI (64*k))))),(15,dI i),(16,dI k),(47,dB m0)] [.box (dD Am g),.box (.pr (dI 0) (.pr .zs .u)),.box (.pr (dI j) (.pr (.ref 3) .u)),.row 216 .deep (.int .u64) (l.set k.toNat (Oa .u64 (g.2.1.getD (wI (Int.tdiv (wI (e+(wI (64*k)))) 64)).toNat (Ty.zero (.int .u64))) (Int.tmod (wI (e+(wI (64*k)))) 64)))])
theorem Aos(e a k i:Int)(g:Axq)(j:Int)(l:Axs):Mn uj 0 8 (sub (sub (code Tryz.f211) [1,1,0,1,0,0]) [1,1,0]) [0,1,1,1,0] (vU e a k i g j l)=some (uU e a k i g j l (((Int.tmod (wI (e+(wI (64*k)))) 64) !=0)&&(decide ((wI ((wI (Int.tdiv (wI (e+(wI (64*k)))) 64))+1))<(g.2.1.length:Int))))):=by
 have h0:Mn uj 0 8 (sub (sub (code Tryz.f211) [1,1,0,1,0,0]) [1,1,0]) [0,1,1,1,0] (vU e a k i g j l) =
 bif (Int.tmod (wI (e+(wI (64*k)))) 64) !=0 then
 some (uU e a k i g j l (decide ((wI ((wI (Int.tdiv (wI (e+(wI (64*k)))) 64))+1))<(g.2.1.length:Int))))
 else
 some (uU e a k i g j l false):=by kernel_rfl
 rw[h0];cases h1:((Int.tmod (wI (e+(wI (64*k)))) 64) !=0)
 ·first | rfl | kernel_rfl
 ·first | rfl | kernel_rfl
def G1(e a i k:Int)(g:Axq)(j:Int)(l:Axs):Option Axs :=
 if(0:Int)<=(wI (Int.tdiv (wI (e+(wI (64*k)))) 64))/\(wI (Int.tdiv (wI (e+(wI (64*k)))) 64))<(g.2.1.length:Int) then
 if(Int.tmod (wI (e+(wI (64*k)))) 64)<(0:Int) then none else
 if(0:Int)<=k/\k<(l.length:Int) then
 N8 (vU e a k i g j l) (
 bif ((Int.tmod (wI (e+(wI (64*k)))) 64) !=0)&&(decide ((wI ((wI (Int.tdiv (wI (e+(wI (64*k)))) 64))+1))<(g.2.1.length:Int))) then
 if(0:Int)<=k/\k<((l.set k.toNat (Oa .u64 (g.2.1.getD (wI (Int.tdiv (wI (e+(wI (64*k)))) 64)).toNat (Ty.zero (.int .u64))) (Int.tmod (wI (e+(wI (64*k)))) 64))).length:Int) then
 if(0:Int)<=(wI ((wI (Int.tdiv (wI (e+(wI (64*k)))) 64))+1))/\(wI ((wI (Int.tdiv (wI (e+(wI (64*k)))) 64))+1))<(g.2.1.length:Int) then
 if(wI (64-(Int.tmod (wI (e+(wI (64*k)))) 64)))<(0:Int) then none else
 if(0:Int)<=k/\k<((l.set k.toNat (Oa .u64 (g.2.1.getD (wI (Int.tdiv (wI (e+(wI (64*k)))) 64)).toNat (Ty.zero (.int .u64))) (Int.tmod (wI (e+(wI (64*k)))) 64))).length:Int) then
 some ((l.set k.toNat (Oa .u64 (g.2.1.getD (wI (Int.tdiv (wI (e+(wI (64*k)))) 64)).toNat (Ty.zero (.int .u64))) (Int.tmod (wI (e+(wI (64*k)))) 64))).set k.toNat (V4 .u64 ((l.set k.toNat (Oa .u64 (g.2.1.getD (wI (Int.tdiv (wI (e+(wI (64*k)))) 64)).toNat (Ty.zero (.int .u64))) (Int.tmod (wI (e+(wI (64*k)))) 64))).getD k.toNat (Ty.zero (.int .u64))) (Lf .u64 (g.2.1.getD (wI ((wI (Int.tdiv (wI (e+(wI (64*k)))) 64))+1)).toNat (Ty.zero (.int .u64))) (wI (64-(Int.tmod (wI (e+(wI (64*k)))) 64))))))
 else none
 else none
 else none
 else
 some (l.set k.toNat (Oa .u64 (g.2.1.getD (wI (Int.tdiv (wI (e+(wI (64*k)))) 64)).toNat (Ty.zero (.int .u64))) (Int.tmod (wI (e+(wI (64*k)))) 64))))
 else none
 else none
theorem Aot(e a i k:Int)(g:Axq)(j:Int)(l:Axs):AL uj 0 9 (sub (code Tryz.f211) [1,1,0,1,0,0]) [1,1,0] (AlU e a i k g j l) (G1 e a i k g j l) (AjH e a i k g j l):=by
 unfold AL;simp only[G1,Axe];simp(disch:=refine sI ?_<;>(repeat' refine sA ?_ ?_)<;>intro _<;>kernel_rfl) only[F7 (Aos _ _ _ _ _ _ _) (K:=CU 0 (uj.jn 9))]
 kernel_rfl
def HE(e a:Int)(g:Axq)(i j k:Int)(l:Axs):Option ((Int×Axs)⊕Axs) :=
 bif decide (k<i) then
 (G1 e a i k g j l).bind λn =>
 some (.inl ((wI (k+1)),n))
 else
 some (.inr l)
def Fg(e a:Int)(g:Axq)(i j:Int)(z_:Int×Axs):=HE e a g i j z_.1 z_.2
def J2(e a:Int)(g:Axq)(i j k:Int)(l:Axs):=fix (Fg e a g i j) (k,l)
theorem Aou(e a:Int)(g:Axq)(i j:Int):AU uj 0 3 (code Tryz.f211) [1,1,0,1,0] (AlV e a g i j) (Fg e a g i j) (AjI e a g i j):=by
 intro _;simp only[Fg,HE,Axe];simp(disch:=refine sI ?_<;>(repeat' refine sA ?_ ?_)<;>intro _<;>kernel_rfl) only[A6 (Aot _ _ _ _ _ _ _) (K:=Be 0 (uj.hd 3) (uj.ot 3))]
 kernel_rfl
def Cr(g:Axq)(e a:Int):Option (Int×Axs) :=
 (Dh a).bind λo =>
 (J2 e a g (o.2.length:Int) o.1 0 o.2).bind λb =>
 (J3 a b o.1).bind λd =>
 some (o.1,d)
theorem U79(R:Type)(g:Axq)(e a:Int)(K:AV->List Blk->Option R):AH uj Tryz.f211 R [dD Am g,dI e,dI a] [] K=(Cr g e a).bind λr=>K (.pr (dI r.1) (.pr (.ref 0) .u)) [.row 216 .deep (.int .u64) r.2]:=by
 simp only[Cr,Axf];simp(disch:=refine sI ?_<;>(repeat' refine sA ?_ ?_)<;>intro _<;>kernel_rfl) only[J2,Ax (Aou _ _ _ _ _) (K:=AP uj Tryz.f211 0 R K),A6 (Aov _ _ _) (K:=AP uj Tryz.f211 0 R K)]
 kernel_rfl
def Ag6:Va.Callee:=BX [.d Am,.d (.int .i64),.d (.int .i64)] [⟨[.dat [] Am,.dat [] (.int .i64),.dat [] (.int .i64)],[],(Int×Axs),λp=>Cr p.1.1 p.1.2.1 p.1.2.2.1,λr=>(.pr (dI r.1) (.pr (.ref 0) .u),[.row 216 .deep (.int .u64) r.2])⟩]
theorem fq:An Tryz.prog 211 Ag6:=Ap (fn:=Tryz.f211) (by kernel_rfl) (by kernel_rfl) (by kernel_rfl) ⟨⟨uj,⟨⟨Aw,Ao ⟨WC,trivial⟩⟩,mixed⟩,λp R K=>U79 R p.1.1 p.1.2.1 p.1.2.2.1 K⟩,trivial⟩
end
end Go.Proofs.X
namespace Go.Proofs.X
open Go Go.Va
set_option maxRecDepth 100000
noncomputable section
abbrev E80:Env:=⟨tab,As [(211,Ag6),(229,c229)],{deep:=true,res:=[(0,.row [3,1] 216 (.int .u64) true)]}⟩
def Iu(a:Axi)(b c:Int):Option (Int×Int×Int×Int×Axs) :=
 bif a.1==(-1) then
 (Cr a.2.2.2.1 b c).bind λd =>
 some ((Ar d.1 d.2).1,(Ar d.1 d.2).2.1,(Ar d.1 d.2).2.2.1,(Ar d.1 d.2).2.2.2.1,(Ar d.1 d.2).2.2.2.2)
 else
 some (a.1,(wI (a.2.1+b)),c,0,([]:Axs))
theorem U80(R:Type)(a:Axi)(b c:Int)(K:AV->List Blk->Option R):AH E80 Tryz.f258 R [dD Ad a,dI b,dI c] [] K=(Iu a b c).bind λr=>K (.pr (dI r.1) (.pr (dI r.2.1) (.pr (dI r.2.2.1) (.pr (.pr (dI r.2.2.2.1) (.pr (.ref 0) .u)) .u)))) [.row 216 .deep (.int .u64) r.2.2.2.2]:=by
 simp only[Iu,Axf];kernel_rfl
def Ap7:Va.Callee:=BX [.d Ad,.d (.int .i64),.d (.int .i64)] [⟨[.dat [] Ad,.dat [] (.int .i64),.dat [] (.int .i64)],[],(Int×Int×Int×Int×Axs),λp=>Iu p.1.1 p.1.2.1 p.1.2.2.1,λr=>(.pr (dI r.1) (.pr (dI r.2.1) (.pr (dI r.2.2.1) (.pr (.pr (dI r.2.2.2.1) (.pr (.ref 0) .u)) .u))),[.row 216 .deep (.int .u64) r.2.2.2.2])⟩]
theorem yR:An Tryz.prog 258 Ap7:=Ap (fn:=Tryz.f258) (by kernel_rfl) (by kernel_rfl) (by kernel_rfl) ⟨⟨E80,⟨⟨Aw,Ao ⟨fq,fA,trivial⟩⟩,mixed⟩,λp R K=>U80 R p.1.1 p.1.2.1 p.1.2.2.1 K⟩,trivial⟩
abbrev E81:Env:=⟨tab,As [(230,Ag8),(258,Ap7)],{deep:=true,heads:=[(4,{live:=[1,2,7,8,14,15,16],pre:=[(7,false,.row [] 238 Ad false)]})],outs:=[(4,{live:=[7]})],joins:=[(9,{live:=[1,2,7,8,10,14,15,16],pre:=[(7,false,.row [] 238 Ad false)]})],ents:=[(9,[1,2,7,8,10,11,12,14,15,16])],gK:=[(43,(.sl Ad))]}⟩
def AlY(a b:Int)(c:Axx)(d:Int)(z_:Int×Int×Axx):St:=sT 51 [(1,dI a),(2,dI b),(7,.ref 0),(8,dI z_.1),(14,dD (.sl Ad) c),(15,dI d),(16,dI z_.2.1)] [.row 238 (.sh []) Ad z_.2.2]
def AjL(a b:Int)(c:Axx)(d:Int):Axx->Ex×St:=λe=>((.exit 0),sT 51 [(7,.ref 0)] [.row 238 (.sh []) Ad e])
def AlX(a b g:Int)(c:Axx)(d i:Int)(j:Axx)(k l:Int)(n:Axi):St:=sT 51 [(1,dI a),(2,dI b),(7,.ref 0),(8,dI g),(10,.ptr 1 0 [] 0),(11,dI k),(12,dI l),(14,dD (.sl Ad) c),(15,dI d),(16,dI i)] [.row 238 (.sh []) Ad j,.box (dD Ad n)]
def AjK(a b g:Int)(c:Axx)(d i:Int)(j:Axx)(k l:Int)(n:Axi):Axx->Ex×St:=λo=>(.normal,sT 51 [(1,dI a),(2,dI b),(7,.ref 0),(8,dI g),(10,.ptr 1 0 [] 0),(14,dD (.sl Ad) c),(15,dI d),(16,dI i)] [.row 238 (.sh []) Ad o,.box (dD Ad n)])
def J8(a b g:Int)(c:Axx)(d i:Int)(j:Axx)(k l:Int)(n:Axi):Option Axx :=
 bif decide (k<l) then
 (Iu n (wI (k-g)) (wI (l-k))).bind λq =>
 (Cw ([(q.1,q.2.1,q.2.2.1,(q.2.2.2.1,q.2.2.2.2,()),())]:Axx) j).bind λs =>
 some s
 else
 some j
theorem Aow(a b g:Int)(c:Axx)(d i:Int)(j:Axx)(k l:Int)(n:Axi):AL E81 0 9 (sub (code Tryz.f231) [1,1,1,0,1,0,0]) [1,1,0,0,1,1,0] (AlX a b g c d i j k l n) (J8 a b g c d i j k l n) (AjK a b g c d i j k l n):=by
 unfold AL;simp only[J8,Axe];kernel_rfl
def HI(a b:Int)(c:Axx)(d g i:Int)(j:Axx):Option ((Int×Int×Axx)⊕Axx) :=
 bif decide (i<d) then
 if(0:Int)<=i/\i<(c.length:Int) then
 (J8 a b g c d i j (if g>a then g else a) (if(wI (g+(c.getD i.toNat Ad.zero).2.2.1))<(wI (a+b)) then(wI (g+(c.getD i.toNat Ad.zero).2.2.1)) else(wI (a+b))) (c.getD i.toNat Ad.zero)).bind λo =>
 some (.inl ((wI (g+(c.getD i.toNat Ad.zero).2.2.1)),(wI (i+1)),o))
 else none
 else
 some (.inr j)
def C4(a b:Int)(c:Axx)(d:Int)(z_:Int×Int×Axx):=HI a b c d z_.1 z_.2.1 z_.2.2
def Nr(a b:Int)(c:Axx)(d g i:Int)(j:Axx):=fix (C4 a b c d) (g,i,j)
theorem Aox(a b:Int)(c:Axx)(d:Int):AU E81 0 4 (code Tryz.f231) [1,1,1,0,1,0] (AlY a b c d) (C4 a b c d) (AjL a b c d):=by
 intro _;simp only[C4,HI,Axe];simp(disch:=refine sI ?_<;>(repeat' refine sA ?_ ?_)<;>intro _<;>kernel_rfl) only[A6 (Aow _ _ _ _ _ _ _ _ _ _) (K:=Be 0 (E81.hd 4) (E81.ot 4))]
 kernel_rfl
def Cs(c:Axx)(a b:Int):Option Axx :=
 (Nr a b c (c.length:Int) 0 0 ([]:Axx)).bind λe =>
 some e
theorem U81(R:Type)(c:Axx)(a b:Int)(K:AV->List Blk->Option R):AH E81 Tryz.f231 R [dD (.sl Ad) c,dI a,dI b] [] K=(Cs c a b).bind λr=>K (.ref 0) [.row 238 (.sh []) Ad r]:=by
 simp only[Cs,Axf];simp(disch:=refine sI ?_<;>(repeat' refine sA ?_ ?_)<;>intro _<;>kernel_rfl) only[Nr,Ax (Aox _ _ _ _) (K:=AP E81 Tryz.f231 0 R K)]
 kernel_rfl
def ApV:Va.Callee:=BX [.d (.sl Ad),.d (.int .i64),.d (.int .i64)] [⟨[.dat [] (.sl Ad),.dat [] (.int .i64),.dat [] (.int .i64)],[],Axx,λp=>Cs p.1.1 p.1.2.1 p.1.2.2.1,λr=>(.ref 0,[.row 238 (.sh []) Ad r])⟩]
theorem yE:An Tryz.prog 231 ApV:=Ap (fn:=Tryz.f231) (by kernel_rfl) (by kernel_rfl) (by kernel_rfl) ⟨⟨E81,⟨⟨Aw,Ao ⟨fB,yR,trivial⟩⟩,mixed⟩,λp R K=>U81 R p.1.1 p.1.2.1 p.1.2.2.1 K⟩,trivial⟩
noncomputable def c232:Va.Callee:=Tb 238 Ad 56
noncomputable abbrev e232:Env:={tab:=tab,fns:=As [],fi:={}}
theorem Ac3:HB Tryz.prog e232:=⟨⟨Aw,Ao trivial⟩,mixed⟩
theorem yF:An Tryz.prog 232 c232 :=
 UL (fn:=Tryz.f232) Ac3 (by kernel_rfl) (by kernel_rfl) rfl rfl rfl ⟨rfl,rfl,rfl⟩ ⟨rfl,rfl,rfl⟩ (ti:=⟨.sl Ad,[],238,24,0,0,false⟩) (by kernel_rfl) rfl (by kernel_rfl) (λxs=>by kernel_rfl) (λxs=>by kernel_rfl)
  λxs h=>by
   have h0:ev e232 0 (sub (code Tryz.f232) [1,1]) (Ex×St) ⟨[.dat [] (.sl Ad) xs,.un 0,.zs,.dat [] (.sl Ad) xs,.bool false,.un 0,.un 0,.un 0],[]⟩ Hz=if xs.length*56<=140737488355328 then some (.ret,⟨[.dat [] (.sl Ad) xs,.un 0,.ref 0,.dat [] (.sl Ad) xs,.bool false,.zs,.dat [] (.sl Ad) xs,.ref 0],[.row 238 (.sh []) Ad xs]⟩) else none:=by kernel_rfl
   exact h0.trans (if_pos h)
abbrev dR:Env:=⟨tab,As [(138,c138),(159,c159),(216,Ag7),(229,c229),(230,Ag8),(231,ApV),(232,c232)],{heads:=[(9,{live:=[2,7,8],pre:=[(7,false,.row [] 238 Ad false)]}),(27,{live:=[9,12,125,126],pre:=[(12,false,.row [] 238 Ad false)]}),(36,{live:=[13,14,151,152],Ow:=[(14,true,Ad)]})],outs:=[(9,{live:=[7]}),(27,{live:=[12]}),(36,{live:=[13]})],joins:=[(20,{live:=[0,9,10,69,88]}),(23,{live:=[9,10,11]}),(35,{live:=[0,13,14]})],ents:=[(20,[0,9,10,69]),(23,[0,9,10,11]),(35,[0,9,10,13,14])],gK:=[(117,(.sl Ad)),(156,(.sl Ad))]}⟩
def Al4(a:Int)(b:Axi)(z_:Int×Axx):St:=sT 160 [(13,.ref 0),(14,.ptr 1 0 [] 0),(151,dI a),(152,dI z_.1)] [.row 238 (.sh []) Ad z_.2,.box (dD Ad b)]
def AjR(a:Int)(b:Axi):Axx->Ex×St:=λc=>((.exit 6),sT 160 [(13,.ref 0)] [.row 238 (.sh []) Ad c])
def Mc(a:Int)(b:Axi)(d:Int)(e:Axx):Option ((Int×Axx)⊕Axx) :=
 bif decide (d<a) then
 (Cw ([b]:Axx) e).bind λg =>
 some (.inl ((wI (d+1)),g))
 else
 some (.inr e)
def DF(a:Int)(b:Axi)(z_:Int×Axx):=Mc a b z_.1 z_.2
def IE(a:Int)(b:Axi)(d:Int)(e:Axx):=fix (DF a b) (d,e)
theorem AoE(a:Int)(b:Axi):AU dR 0 36 (code Tryz.f206) [1,1,1,1,1,1,1,1,0,1,0] (Al4 a b) (DF a b) (AjR a b):=by
 intro _;simp only[DF,Mc,Axe];kernel_rfl
def Al3(i:Axi)(j:Int)(z_:Int×Axx):St:=sT 160 [(13,.ref 0),(14,.ptr 1 0 [] 0),(151,dI j),(152,dI z_.1)] [.row 238 (.sh []) Ad z_.2,.box (dD Ad i)]
def AjQ(i:Axi)(j:Int):Axx->Ex×St:=λk=>((.exit 6),sT 160 [(13,.ref 0)] [.row 238 (.sh []) Ad k])
def Mb(i:Axi)(j l:Int)(n:Axx):Option ((Int×Axx)⊕Axx) :=
 bif decide (l<j) then
 (Cw ([i]:Axx) n).bind λo =>
 some (.inl ((wI (l+1)),o))
 else
 some (.inr n)
def DD(i:Axi)(j:Int)(z_:Int×Axx):=Mb i j z_.1 z_.2
def ID(i:Axi)(j l:Int)(n:Axx):=fix (DD i j) (l,n)
theorem AoD(i:Axi)(j:Int):AU dR 0 36 (code Tryz.f206) [1,1,1,1,1,1,1,1,0,1,0] (Al3 i j) (DD i j) (AjQ i j):=by
 intro _;simp only[DD,Mb,Axe];kernel_rfl
def Al2(q:Axj)(s:Int)(t u:Axx)(v w x y:Int)(a1:Axs):St:=sT 160 [(0,.rop [] Ae q),(9,dD (.sl Ad) t),(10,dI s),(13,.ref 0),(14,.ptr 1 0 [] 0)] [.row 238 (.sh []) Ad u,.box (.pr (dI v) (.pr (dI w) (.pr (dI x) (.pr (.pr (dI y) (.pr (.ref 2) .u)) .u)))),.row 216 .deep (.int .u64) a1]
def AjP(q:Axj)(s:Int)(t u:Axx)(v w x y:Int)(a1:Axs):(Axi⊕Unit)->Ex×St:=Sum.elim (λi=>(.normal,sT 160 [(0,.rop [] Ae q),(13,.ref 0),(14,.ptr 1 0 [] 0)] [.row 238 (.sh []) Ad u,.box (dD Ad i)])) (λb1=>(.normal,sT 160 [(0,.rop [] Ae q),(13,.ref 0),(14,.ptr 1 0 [] 0)] [.row 238 (.sh []) Ad u,.box (.pr (dI v) (.pr (dI w) (.pr (dI x) (.pr (.pr (dI y) (.pr (.ref 2) .u)) .u)))),.row 216 .deep (.int .u64) a1]))
def Bs(q:Axj)(s:Int)(t u:Axx)(v w x y:Int)(a1:Axs):Option (Axi⊕Unit) :=
 bif q.1==6 then
 (Cs t (wI (s-1)) 1).bind λc1 =>
 if(0:Int)<=(0:Int)/\(0:Int)<(c1.length:Int) then
 some (.inl (c1.getD 0 Ad.zero))
 else none
 else
 some (.inr ())
theorem AoC(q:Axj)(s:Int)(t u:Axx)(v w x y:Int)(a1:Axs):AL dR 0 35 (code Tryz.f206) [1,1,1,1,1,1,1,0] (Al2 q s t u v w x y a1) (Bs q s t u v w x y a1) (AjP q s t u v w x y a1):=by
 unfold AL;simp only[Bs,Axe];kernel_rfl
def Al1(d1:Axx)(e1:Int)(z_:Int×Axx):St:=sT 160 [(9,dD (.sl Ad) d1),(12,.ref 0),(125,dI e1),(126,dI z_.1)] [.row 238 (.sh []) Ad z_.2]
def AjO(d1:Axx)(e1:Int):Axx->Ex×St:=λg1=>((.exit 4),sT 160 [(12,.ref 0)] [.row 238 (.sh []) Ad g1])
def DC(d1:Axx)(e1 i1:Int)(j1:Axx):Option ((Int×Axx)⊕Axx) :=
 bif decide (i1<e1) then
 (Cw d1 j1).bind λk1 =>
 some (.inl ((wI (i1+1)),k1))
 else
 some (.inr j1)
def BB(d1:Axx)(e1:Int)(z_:Int×Axx):=DC d1 e1 z_.1 z_.2
def FA(d1:Axx)(e1 i1:Int)(j1:Axx):=fix (BB d1 e1) (i1,j1)
theorem AoB(d1:Axx)(e1:Int):AU dR 0 27 (code Tryz.f206) [1,1,1,1,0,1,0,1,1,1,1,1,0,1,0,1,0] (Al1 d1 e1) (BB d1 e1) (AjO d1 e1):=by
 intro _;simp only[BB,DC,Axe];kernel_rfl
def Al0(q:Axj)(s:Int)(l1:Axx)(n1:Int):St:=sT 160 [(0,.rop [] Ae q),(9,dD (.sl Ad) l1),(10,dI s),(11,dI n1)] []
def AjN(q:Axj)(s:Int)(l1:Axx)(n1:Int):Int->Ex×St:=λo1=>(.normal,sT 160 [(9,dD (.sl Ad) l1),(10,dI s),(11,dI o1)] [])
def CV(q:Axj)(s:Int)(l1:Axx)(n1:Int):Option Int :=
 bif q.1==8 then
 if s=(0:Int) then none else
 some (Int.tmod (wI (s-n1)) s)
 else
 some n1
theorem AoA(q:Axj)(s:Int)(l1:Axx)(n1:Int):AL dR 0 23 (code Tryz.f206) [1,1,1,1,0,1,0,1,1,1,0,1,0] (Al0 q s l1 n1) (CV q s l1 n1) (AjN q s l1 n1):=by
 unfold AL;simp only[CV,Axe];kernel_rfl
def vV(q:Axj)(q1:AxG)(s:Int):St:=sT 160 [(0,.rop [] Ae q),(9,dD (.sl Ad) (q1.getD 0 (Ty.zero (.sl Ad)))),(10,dI s),(69,dI q.1)] []
def uV(q:Axj)(q1:AxG)(s:Int)(m0:Bool):Ex×St:=(.normal,sT 160 [(0,.rop [] Ae q),(9,dD (.sl Ad) (q1.getD 0 (Ty.zero (.sl Ad)))),(10,dI s),(69,dI q.1),(88,dB m0)] [])
theorem Aoz(q:Axj)(q1:AxG)(s:Int):Mn dR 0 20 (code Tryz.f206) [1,1,1,1,0,1,0,1,1,0] (vV q q1 s)=some (uV q q1 s (bif q.1==7 then(q.1==7) else(q.1==8))):=by
 have h0:Mn dR 0 20 (code Tryz.f206) [1,1,1,1,0,1,0,1,1,0] (vV q q1 s) =
 bif q.1==7 then
 some (uV q q1 s (q.1==7))
 else
 some (uV q q1 s (q.1==8)):=by kernel_rfl
 rw[h0];cases h1:(q.1==7)
 ·first | rfl | kernel_rfl
 ·first | rfl | kernel_rfl
def AlZ(q1:AxG)(z_:Int×Axx):St:=sT 160 [(2,dD (.sl (.sl Ad)) q1),(7,.ref 0),(8,dI z_.1)] [.row 238 (.sh []) Ad z_.2]
def AjM(q1:AxG):Axx->Ex×St:=λs1=>((.exit 1),sT 160 [(7,.ref 0)] [.row 238 (.sh []) Ad s1])
def Dz(q1:AxG)(t1:Int)(u1:Axx):Option ((Int×Axx)⊕Axx) :=
 bif decide (t1>=0) then
 if(0:Int)<=t1/\t1<(q1.length:Int) then
 (Cw (q1.getD t1.toNat (Ty.zero (.sl Ad))) u1).bind λv1 =>
 some (.inl ((wI (t1-1)),v1))
 else none
 else
 some (.inr u1)
def Bh(q1:AxG)(z_:Int×Axx):=Dz q1 z_.1 z_.2
def Fz(q1:AxG)(t1:Int)(u1:Axx):=fix (Bh q1) (t1,u1)
theorem Aoy(q1:AxG):AU dR 0 9 (code Tryz.f206) [1,0,1,0,1,1,1,1,1,0,1,0,1,0] (AlZ q1) (Bh q1) (AjM q1):=by
 intro _;simp only[Bh,Dz,Axe];kernel_rfl
def CZ(q:Axj)(w1:Axw)(q1:AxG):Option Axx :=
 bif q.1==1 then
 if(0:Int)<=q.2.1/\q.2.1<(w1.length:Int) then
 some ([(q.2.1,0,(w1.getD q.2.1.toNat Ab.zero).2.1,(0,([]:Axs),()),())]:Axx)
 else none
 else
 bif q.1==2 then
 (Dp q.2.2.2.2.1).bind λx1 =>
 some ([((Ar x1.1 x1.2).1,(Ar x1.1 x1.2).2.1,(Ar x1.1 x1.2).2.2.1,((Ar x1.1 x1.2).2.2.2.1,(Ar x1.1 x1.2).2.2.2.2,()),())]:Axx)
 else
 bif q.1==3 then
 (Fz q1 (wI ((q1.length:Int)-1)) ([]:Axx)).bind λs1 =>
 some s1
 else
 if(0:Int)<=(0:Int)/\(0:Int)<(q1.length:Int) then
 (Du (q1.getD 0 (Ty.zero (.sl Ad)))).bind λs =>
 bif q.1==4 then
 (Cs (q1.getD 0 (Ty.zero (.sl Ad))) q.2.2.2.1 (wI ((wI (q.2.2.1-q.2.2.2.1))+1))).bind λy1 =>
 some y1
 else
 N8 (vV q q1 s) (
 bif bif (q.1==7) then(q.1==7) else(q.1==8) then
 if s=(0:Int) then none else
 (CV q s (q1.getD 0 (Ty.zero (.sl Ad))) (Int.tmod q.2.2.1 s)).bind λo1 =>
 (Cs (q1.getD 0 (Ty.zero (.sl Ad))) (wI (s-o1)) o1).bind λa2 =>
 (Cs (q1.getD 0 (Ty.zero (.sl Ad))) 0 (wI (s-o1))).bind λb2 =>
 (Cw b2 a2).bind λc2 =>
 some c2
 else
 bif q.1==9 then
 (FA (q1.getD 0 (Ty.zero (.sl Ad))) q.2.2.1 0 ([]:Axx)).bind λg1 =>
 some g1
 else
 if(q1.getD 0 (Ty.zero (.sl Ad))).length*56<=140737488355328 then
 (Dh 1).bind λd2 =>
 (Bs q s (q1.getD 0 (Ty.zero (.sl Ad))) (q1.getD 0 (Ty.zero (.sl Ad))) (Ar d2.1 d2.2).1 (Ar d2.1 d2.2).2.1 (Ar d2.1 d2.2).2.2.1 (Ar d2.1 d2.2).2.2.2.1 (Ar d2.1 d2.2).2.2.2.2).bind (Sum.elim (λi =>
 (ID i q.2.2.1 0 (q1.getD 0 (Ty.zero (.sl Ad)))).bind λk =>
 some k) (λb1 =>
 (IE q.2.2.1 ((Ar d2.1 d2.2).1,(Ar d2.1 d2.2).2.1,(Ar d2.1 d2.2).2.2.1,((Ar d2.1 d2.2).2.2.2.1,(Ar d2.1 d2.2).2.2.2.2,()),()) 0 (q1.getD 0 (Ty.zero (.sl Ad)))).bind λc =>
 some c))
 else none)
 else none
theorem U82(R:Type)(q:Axj)(w1:Axw)(q1:AxG)(K:AV->List Blk->Option R):AH dR Tryz.f206 R [.rop [] Ae q,dD (.sl Ab) w1,dD (.sl (.sl Ad)) q1] [] K=(CZ q w1 q1).bind λr=>K (.ref 0) [.row 238 (.sh []) Ad r]:=by
 simp only[CZ,Axf];simp(disch:=refine sI ?_<;>(repeat' refine sA ?_ ?_)<;>intro _<;>kernel_rfl) only[Fz,Ax (Aoy _) (K:=AP dR Tryz.f206 0 R K),F7 (Aoz _ _ _) (K:=AP dR Tryz.f206 0 R K),A6 (AoA _ _ _ _) (K:=AP dR Tryz.f206 0 R K),FA,Ax (AoB _ _) (K:=AP dR Tryz.f206 0 R K),A6 (AoC _ _ _ _ _ _ _ _ _) (K:=AP dR Tryz.f206 0 R K),ID,Ax (AoD _ _) (K:=AP dR Tryz.f206 0 R K),IE,Ax (AoE _ _) (K:=AP dR Tryz.f206 0 R K)]
 kernel_rfl
def c206:Va.Callee:=BX [.p Ae,.d (.sl Ab),.d (.sl (.sl Ad))] [⟨[.rop [] Ae,.dat [] (.sl Ab),.dat [] (.sl (.sl Ad))],[],Axx,λp=>CZ p.1.1 p.1.2.1 p.1.2.2.1,λr=>(.ref 0,[.row 238 (.sh []) Ad r])⟩]
theorem x9:An Tryz.prog 206 c206:=Ap (fn:=Tryz.f206) (by kernel_rfl) (by kernel_rfl) (by kernel_rfl) ⟨⟨dR,⟨⟨Aw,Ao ⟨WC,eY,fu,fA,fB,yE,yF,trivial⟩⟩,mixed⟩,λp R K=>U82 R p.1.1 p.1.2.1 p.1.2.2.1 K⟩,trivial⟩
abbrev E83:Env:=⟨tab,As [(216,Ag7)],{deep:=true,heads:=[(3,{live:=[3,9,10,11]})],outs:=[(3,{live:=[3]})]}⟩
def Al5(a:Axx)(b:Int)(z_:Int×Axx):St:=sT 26 [(3,.ref 0),(9,dD (.sl Ad) a),(10,dI b),(11,dI z_.1)] [.row 238 .deep Ad z_.2]
def AjS(a:Axx)(b:Int):Axx->Ex×St:=λc=>((.exit 0),sT 26 [(3,.ref 0)] [.row 238 .deep Ad c])
def GJ(a:Axx)(b d:Int)(e:Axx):Option ((Int×Axx)⊕Axx) :=
 bif decide (d<b) then
 if(0:Int)<=d/\d<(a.length:Int) then
 (Dp (a.getD d.toNat Ad.zero).2.2.2.1).bind λg =>
 if(0:Int)<=d/\d<(e.length:Int) then
 some (.inl ((wI (d+1)),(e.set d.toNat ((a.getD d.toNat Ad.zero).1,(a.getD d.toNat Ad.zero).2.1,(a.getD d.toNat Ad.zero).2.2.1,(g.1,g.2,()),(a.getD d.toNat Ad.zero).2.2.2.2))))
 else none
 else none
 else
 some (.inr e)
def BU(a:Axx)(b:Int)(z_:Int×Axx):=GJ a b z_.1 z_.2
def Mw(a:Axx)(b d:Int)(e:Axx):=fix (BU a b) (d,e)
theorem AoF(a:Axx)(b:Int):AU E83 0 3 (code Tryz.f207) [1,1,0,1,0] (Al5 a b) (BU a b) (AjS a b):=by
 intro _;simp only[BU,GJ,Axe];kernel_rfl
def G3(a:Axx):Option Axx :=
 if Ty.row Ad=true/\(0:Int)<=(a.length:Int)/\(a.length:Int)<=(a.length:Int)/\((56:Nat):Int)*(a.length:Int)<=(281474976710656:Int)/\(a.length:Int)<=(9223372036854775807:Int) then
 (Mw a (a.length:Int) 0 (List.replicate (a.length:Int).toNat (0,0,0,(0,([]:Axs),()),()))).bind λc =>
 some c
 else none
theorem U83(R:Type)(a:Axx)(K:AV->List Blk->Option R):AH E83 Tryz.f207 R [dD (.sl Ad) a] [] K=(G3 a).bind λr=>K (.ref 0) [.row 238 .deep Ad r]:=by
 simp only[G3,Axf];simp(disch:=refine sI ?_<;>(repeat' refine sA ?_ ?_)<;>intro _<;>kernel_rfl) only[Mw,Ax (AoF _ _) (K:=AP E83 Tryz.f207 0 R K)]
 kernel_rfl
def ApO:Va.Callee:=BX [.d (.sl Ad)] [⟨[.dat [] (.sl Ad)],[],Axx,λp=>G3 p.1.1,λr=>(.ref 0,[.row 238 .deep Ad r])⟩]
theorem yc:An Tryz.prog 207 ApO:=Ap (fn:=Tryz.f207) (by kernel_rfl) (by kernel_rfl) (by kernel_rfl) ⟨⟨E83,⟨⟨Aw,Ao ⟨fu,trivial⟩⟩,mixed⟩,λp R K=>U83 R p.1.1 K⟩,trivial⟩
abbrev E84:Env:=⟨tab,As [(206,c206),(207,ApO)],{heads:=[(3,{live:=[0,3,6,18,19]}),(8,{live:=[0,3,6,7,8,9,18,19,35,36,37]})],outs:=[(3,{live:=[4,5,6],Ow:=[(6,false,(.sl (.sl Ad)))]}),(8,{live:=[0,3,6,7,8,9,18,19],Ow:=[(9,false,(.sl (.sl Ad)))]})],res:=[(0,.row [] 238 Ad true)]}⟩
def Al7(a:Axw)(b:Axp)(c:Int)(z_:Int×AxG):St:=sT 71 [(0,dD (.sl Ab) a),(3,.ptr 0 0 [] 0),(6,.ref 1),(18,dI c),(19,dI z_.1)] [.box (dD Ak b),.row 121 (.sh []) (.sl Ad) z_.2]
def AjU(a:Axw)(b:Axp)(c:Int):(AxG⊕AxG)->Ex×St:=Sum.elim (λd=>(.ret,sT 71 [(4,.zs),(5,dB false),(6,dD (.sl (.sl Ad)) d)] [])) (λe=>((.exit 0),sT 71 [(6,dD (.sl (.sl Ad)) e)] []))
def Al6(a:Axw)(g c:Int)(b:Axp)(i:AxG)(j:Axj)(k:Axs)(l:Int)(z_:Int×AxG):St:=sT 71 [(0,dD (.sl Ab) a),(3,.ptr 0 0 [] 0),(6,.ref 1),(7,dI g),(8,.rop [] Ae j),(9,.ref 2),(18,dI c),(19,dI g),(35,dD (.sl (.int .i64)) k),(36,dI l),(37,dI z_.1)] [.box (dD Ak b),.row 121 (.sh []) (.sl Ad) i,.row 121 (.sh []) (.sl Ad) z_.2]
def AjT(a:Axw)(g c:Int)(b:Axp)(i:AxG)(j:Axj)(k:Axs)(l:Int):AxG->Ex×St:=λn=>((.exit 2),sT 71 [(0,dD (.sl Ab) a),(3,.ptr 0 0 [] 0),(6,.ref 1),(7,dI g),(8,.rop [] Ae j),(9,dD (.sl (.sl Ad)) n),(18,dI c),(19,dI g)] [.box (dD Ak b),.row 121 (.sh []) (.sl Ad) i])
def IQ(a:Axw)(g c:Int)(b:Axp)(i:AxG)(j:Axj)(k:Axs)(l o:Int)(q:AxG):Option ((Int×AxG)⊕AxG) :=
 bif decide (o<l) then
 if(0:Int)<=o/\o<(k.length:Int) then
 if(0:Int)<=(k.getD o.toNat (Ty.zero (.int .i64)))/\(k.getD o.toNat (Ty.zero (.int .i64)))<(i.length:Int) then
 if(0:Int)<=o/\o<(q.length:Int) then
 some (.inl ((wI (o+1)),(q.set o.toNat (i.getD (k.getD o.toNat (Ty.zero (.int .i64))).toNat (Ty.zero (.sl Ad))))))
 else none
 else none
 else none
 else
 some (.inr q)
def DG(a:Axw)(g c:Int)(b:Axp)(i:AxG)(j:Axj)(k:Axs)(l:Int)(z_:Int×AxG):=IQ a g c b i j k l z_.1 z_.2
def Ln(a:Axw)(g c:Int)(b:Axp)(i:AxG)(j:Axj)(k:Axs)(l o:Int)(q:AxG):=fix (DG a g c b i j k l) (o,q)
theorem AoG(a:Axw)(g c:Int)(b:Axp)(i:AxG)(j:Axj)(k:Axs)(l:Int):AU E84 0 8 (sub (code Tryz.f154) [1,1,0,1,0,0]) [1,1,0,0,1,1,1,0,1,0] (Al6 a g c b i j k l) (DG a g c b i j k l) (AjT a g c b i j k l):=by
 intro _;simp only[DG,IQ,Axe];kernel_rfl
def My(a:Axw)(b:Axp)(c g:Int)(i:AxG):Option ((Int×AxG)⊕(AxG⊕AxG)) :=
 bif decide (g<c) then
 if(0:Int)<=g/\g<(b.1.length:Int) then
 if Ty.row (.sl Ad)=true/\(0:Int)<=((b.1.getD g.toNat Ae.zero).2.2.2.2.2.1.length:Int)/\((b.1.getD g.toNat Ae.zero).2.2.2.2.2.1.length:Int)<=((b.1.getD g.toNat Ae.zero).2.2.2.2.2.1.length:Int)/\((24:Nat):Int)*((b.1.getD g.toNat Ae.zero).2.2.2.2.2.1.length:Int)<=(281474976710656:Int)/\((b.1.getD g.toNat Ae.zero).2.2.2.2.2.1.length:Int)<=(9223372036854775807:Int) then
 (Ln a g c b i (b.1.getD g.toNat Ae.zero) (b.1.getD g.toNat Ae.zero).2.2.2.2.2.1 ((b.1.getD g.toNat Ae.zero).2.2.2.2.2.1.length:Int) 0 (List.replicate ((b.1.getD g.toNat Ae.zero).2.2.2.2.2.1.length:Int).toNat ([]:Axx))).bind λn =>
 (CZ (b.1.getD g.toNat Ae.zero) a n).bind λs =>
 if(0:Int)<=g/\g<(i.length:Int) then
 if(0:Int)<=g/\g<((i.set g.toNat s).length:Int) then
 bif decide ((((i.set g.toNat s).getD g.toNat (Ty.zero (.sl Ad))).length:Int)>2000) then
 some (.inr (.inl (i.set g.toNat s)))
 else
 some (.inl ((wI (g+1)),(i.set g.toNat s)))
 else none
 else none
 else none
 else none
 else
 some (.inr (.inr i))
def IR(a:Axw)(b:Axp)(c:Int)(z_:Int×AxG):=My a b c z_.1 z_.2
def Lp(a:Axw)(b:Axp)(c g:Int)(i:AxG):=fix (IR a b c) (g,i)
theorem AoH(a:Axw)(b:Axp)(c:Int):AU E84 0 3 (code Tryz.f154) [1,1,0,1,0] (Al7 a b c) (IR a b c) (AjU a b c):=by
 intro _;simp only[IR,My,Axe];simp(disch:=refine sI ?_<;>(repeat' refine sA ?_ ?_)<;>intro _<;>kernel_rfl) only[Ln,Ax (AoG _ _ _ _ _ _ _ _) (K:=Be 0 (E84.hd 3) (E84.ot 3))]
 kernel_rfl
def Et(a:Axw)(b:Axp):Option (Bool×Axx) :=
 if Ty.row (.sl Ad)=true/\(0:Int)<=(b.1.length:Int)/\(b.1.length:Int)<=(b.1.length:Int)/\((24:Nat):Int)*(b.1.length:Int)<=(281474976710656:Int)/\(b.1.length:Int)<=(9223372036854775807:Int) then
 (Lp a b (b.1.length:Int) 0 (List.replicate (b.1.length:Int).toNat ([]:Axx))).bind (Sum.elim (λd =>
 some (false,([]:Axx))) (λe =>
 if(0:Int)<=(wI ((e.length:Int)-1))/\(wI ((e.length:Int)-1))<(e.length:Int) then
 (G3 (e.getD (wI ((e.length:Int)-1)).toNat (Ty.zero (.sl Ad)))).bind λt =>
 some (true,t)
 else none))
 else none
theorem U84(R:Type)(a:Axw)(b:Axp)(K:AV->List Blk->Option R):AH E84 Tryz.f154 R [dD (.sl Ab) a,dD Ak b] [] K=(Et a b).bind λr=>K (.cons (.ref 0) (.cons (dB r.1) .nil)) [.row 238 .deep Ad r.2]:=by
 simp only[Et,Axf];simp(disch:=refine sI ?_<;>(repeat' refine sA ?_ ?_)<;>intro _<;>kernel_rfl) only[Lp,Ax (AoH _ _ _) (K:=AP E84 Tryz.f154 0 R K)]
 kernel_rfl
def c154:Va.Callee:=BX [.d (.sl Ab),.d Ak] [⟨[.dat [] (.sl Ab),.dat [] Ak],[],(Bool×Axx),λp=>Et p.1.1 p.1.2.1,λr=>(.cons (.ref 0) (.cons (dB r.1) .nil),[.row 238 .deep Ad r.2])⟩]
theorem xC:An Tryz.prog 154 c154:=Ap (fn:=Tryz.f154) (by kernel_rfl) (by kernel_rfl) (by kernel_rfl) ⟨⟨E84,⟨⟨Aw,Ao ⟨x9,yc,trivial⟩⟩,mixed⟩,λp R K=>U84 R p.1.1 p.1.2.1 K⟩,trivial⟩
abbrev E85:Env:=⟨tab,As [(154,c154)],{deep:=true,heads:=[(3,{live:=[0,6,16,17,18]})],outs:=[(3,{live:=[4,5,6]})],joins:=[(8,{live:=[0,6,7,9,11,16,17,18,42]})],ents:=[(8,[0,6,7,9,10,11,12,16,17,18])],res:=[(0,.row [] 145 (.pair (.sl Ad) (.pair (.sl Ad) .unit)) true)]}⟩
def Al8(a:Axw)(b:AxA)(c:Int)(z_:Int×(List (Axx×(Axx×Unit)))):St:=sT 51 [(0,dD (.sl Ab) a),(6,.ref 0),(16,dD (.sl Ag) b),(17,dI c),(18,dI z_.1)] [.row 145 .deep (.pair (.sl Ad) (.pair (.sl Ad) .unit)) z_.2]
def AjV(a:Axw)(b:AxA)(c:Int):((List (Axx×(Axx×Unit)))⊕(List (Axx×(Axx×Unit))))->Ex×St:=Sum.elim (λd=>(.ret,sT 51 [(4,.zs),(5,dB false),(6,.ref 0)] [.row 145 .deep (.pair (.sl Ad) (.pair (.sl Ad) .unit)) d])) (λe=>((.exit 0),sT 51 [(6,.ref 0)] [.row 145 .deep (.pair (.sl Ad) (.pair (.sl Ad) .unit)) e]))
def vW(a:Axw)(g:Int)(i j:Bool×Axx)(b:AxA)(c:Int)(k:List (Axx×(Axx×Unit))):St:=sT 51 [(0,dD (.sl Ab) a),(6,.ref 0),(7,dI g),(9,.ref 1),(10,dB i.1),(11,.ref 2),(12,dB j.1),(16,dD (.sl Ag) b),(17,dI c),(18,dI g)] [.row 145 .deep (.pair (.sl Ad) (.pair (.sl Ad) .unit)) k,.row 238 .deep Ad i.2,.row 238 .deep Ad j.2]
def uW(a:Axw)(g:Int)(i j:Bool×Axx)(b:AxA)(c:Int)(k:List (Axx×(Axx×Unit)))(m0:Bool):Ex×St:=(.normal,sT 51 [(0,dD (.sl Ab) a),(6,.ref 0),(7,dI g),(9,.ref 1),(11,.ref 2),(16,dD (.sl Ag) b),(17,dI c),(18,dI g),(42,dB m0)] [.row 145 .deep (.pair (.sl Ad) (.pair (.sl Ad) .unit)) k,.row 238 .deep Ad i.2,.row 238 .deep Ad j.2])
theorem AoI(a:Axw)(g:Int)(i j:Bool×Axx)(b:AxA)(c:Int)(k:List (Axx×(Axx×Unit))):Mn E85 0 8 (sub (code Tryz.f83) [1,1,0,1,0,0]) [1,1,0,0,1,1,1,0,0] (vW a g i j b c k)=some (uW a g i j b c k ((!i.1)||(!j.1))):=by
 have h0:Mn E85 0 8 (sub (code Tryz.f83) [1,1,0,1,0,0]) [1,1,0,0,1,1,1,0,0] (vW a g i j b c k) =
 bif !i.1 then
 some (uW a g i j b c k true)
 else
 some (uW a g i j b c k (!j.1)):=by kernel_rfl
 rw[h0];cases h1:(!i.1)
 ·first | rfl | kernel_rfl
 ·first | rfl | kernel_rfl
def N5(a:Axw)(b:AxA)(c g:Int)(k:List (Axx×(Axx×Unit))):Option ((Int×(List (Axx×(Axx×Unit))))⊕((List (Axx×(Axx×Unit)))⊕(List (Axx×(Axx×Unit))))) :=
 bif decide (g<c) then
 if(0:Int)<=g/\g<(b.length:Int) then
 (Et a (b.getD g.toNat Ag.zero).2.2.1).bind λi =>
 (Et a (b.getD g.toNat Ag.zero).2.2.2.1).bind λj =>
 N8 (vW a g i j b c k) (
 bif (!i.1)||(!j.1) then
 some (.inr (.inl k))
 else
 if(0:Int)<=g/\g<(k.length:Int) then
 some (.inl ((wI (g+1)),(k.set g.toNat (i.2,j.2,()))))
 else none)
 else none
 else
 some (.inr (.inr k))
def Lr(a:Axw)(b:AxA)(c:Int)(z_:Int×(List (Axx×(Axx×Unit)))):=N5 a b c z_.1 z_.2
def P3(a:Axw)(b:AxA)(c g:Int)(k:List (Axx×(Axx×Unit))):=fix (Lr a b c) (g,k)
theorem AoJ(a:Axw)(b:AxA)(c:Int):AU E85 0 3 (code Tryz.f83) [1,1,0,1,0] (Al8 a b c) (Lr a b c) (AjV a b c):=by
 intro _;simp only[Lr,N5,Axe];simp(disch:=refine sI ?_<;>(repeat' refine sA ?_ ?_)<;>intro _<;>kernel_rfl) only[F7 (AoI _ _ _ _ _ _ _) (K:=Be 0 (E85.hd 3) (E85.ot 3))]
 kernel_rfl
def LS(a:Axw)(b:AxA):Option (Bool×(List (Axx×(Axx×Unit)))) :=
 if Ty.row (.pair (.sl Ad) (.pair (.sl Ad) .unit))=true/\(0:Int)<=(b.length:Int)/\(b.length:Int)<=(b.length:Int)/\((48:Nat):Int)*(b.length:Int)<=(281474976710656:Int)/\(b.length:Int)<=(9223372036854775807:Int) then
 (P3 a b (b.length:Int) 0 (List.replicate (b.length:Int).toNat (([]:Axx),([]:Axx),()))).bind (Sum.elim (λd =>
 some (false,([]:List (Axx×(Axx×Unit))))) (λe =>
 some (true,e)))
 else none
theorem U85(R:Type)(a:Axw)(b:AxA)(K:AV->List Blk->Option R):AH E85 Tryz.f83 R [dD (.sl Ab) a,dD (.sl Ag) b] [] K=(LS a b).bind λr=>K (.cons (.ref 0) (.cons (dB r.1) .nil)) [.row 145 .deep (.pair (.sl Ad) (.pair (.sl Ad) .unit)) r.2]:=by
 simp only[LS,Axf];simp(disch:=refine sI ?_<;>(repeat' refine sA ?_ ?_)<;>intro _<;>kernel_rfl) only[P3,Ax (AoJ _ _ _) (K:=AP E85 Tryz.f83 0 R K)]
 kernel_rfl
def c83:Va.Callee:=BX [.d (.sl Ab),.d (.sl Ag)] [⟨[.dat [] (.sl Ab),.dat [] (.sl Ag)],[],(Bool×(List (Axx×(Axx×Unit)))),λp=>LS p.1.1 p.1.2.1,λr=>(.cons (.ref 0) (.cons (dB r.1) .nil),[.row 145 .deep (.pair (.sl Ad) (.pair (.sl Ad) .unit)) r.2])⟩]
theorem oz:An Tryz.prog 83 c83:=Ap (fn:=Tryz.f83) (by kernel_rfl) (by kernel_rfl) (by kernel_rfl) ⟨⟨E85,⟨⟨Aw,Ao ⟨xC,trivial⟩⟩,mixed⟩,λp R K=>U85 R p.1.1 p.1.2.1 K⟩,trivial⟩
abbrev E86:Env:=⟨tab,As [],{deep:=true,nest:=[(39,4)],joins:=[(1,{live:=[0,1,2,32]})],ents:=[(1,[0,1,2])],fin:=[.mv 0 [3],.dead 3]}⟩
def Al9(a b c:Int)(d:Axw)(e:AxE)(g:Axv):St:=sT 54 [(0,.ptr 0 a [] 0),(1,dI b),(2,dI c)] [.box (.pr (dD (.sl Ab) d) (.pr (.ref 1) (.pr (.mp 2) (.pr (.ref 3) .u)))),.row 104 .deep (.sl .bool) e,.dead,.row 253 .deep Aa g]
def AjW(a b c:Int)(d:Axw)(e:AxE)(g:Axv):Bool->Ex×St:=λi=>(.normal,sT 54 [(0,.ptr 0 a [] 0),(1,dI b),(2,dI c),(32,dB i)] [.box (.pr (dD (.sl Ab) d) (.pr (.ref 1) (.pr (.mp 2) (.pr (.ref 3) .u)))),.row 104 .deep (.sl .bool) e,.dead,.row 253 .deep Aa g])
def Fj(a b c:Int)(d:Axw)(e:AxE)(g:Axv):Option Bool :=
 bif decide (c>0) then
 if(0:Int)<=b/\b<(d.length:Int) then
 bif decide (c<(d.getD b.toNat Ab.zero).2.1) then
 if(0:Int)<=b/\b<(e.length:Int) then
 if(0:Int)<=c/\c<((e.getD b.toNat (Ty.zero (.sl .bool))).length:Int) then
 some (!((e.getD b.toNat (Ty.zero (.sl .bool))).getD c.toNat (Ty.zero .bool)))
 else none
 else none
 else
 some false
 else none
 else
 some false
theorem AoK(a b c:Int)(d:Axw)(e:AxE)(g:Axv):AL E86 4 1 (code Tryz.f203) [0] (Al9 a b c d e g) (Fj a b c d e g) (AjW a b c d e g):=by
 unfold AL;simp only[Fj,Axe];kernel_rfl
def AW(a b c:Int)(d:Axw)(e:AxE)(g:Axv):Option (Axw×AxE×Axv) :=
 (Fj a b c d e g).bind λi =>
 bif i then
 if(0:Int)<=b/\b<(e.length:Int) then
 if(0:Int)<=c/\c<(e.getD b.toNat (Ty.zero (.sl .bool))).length then
 if(g.length+([(b,c,())]:Axv).length)*16<=140737488355328 then
 some (d,(e.set b.toNat ((e.getD b.toNat (Ty.zero (.sl .bool))).set c.toNat true)),(g++([(b,c,())]:Axv)))
 else none
 else none
 else none
 else
 some (d,e,g)
theorem U86(R:Type)(a b c:Int)(d:Axw)(e:AxE)(g:Axv)(K:AV->List Blk->Option R):AH E86 Tryz.f203 R [.ptr 0 a [] 0,dI b,dI c] [.box (.pr (dD (.sl Ab) d) (.pr (.ref 1) (.pr (.mp 2) (.pr (.ref 3) .u)))),.row 104 .deep (.sl .bool) e,.dead,.row 253 .deep Aa g] K=(AW a b c d e g).bind λr=>K .nil [.box (.pr (dD (.sl Ab) r.1) (.pr (.ref 1) (.pr (.mp 2) (.pr (.ref 4) .u)))),.row 104 .deep (.sl .bool) r.2.1,.dead,.dead,.row 253 .deep Aa r.2.2]:=by
 simp only[AW,Axf];simp(disch:=refine sI ?_<;>(repeat' refine sA ?_ ?_)<;>intro _<;>kernel_rfl) only[A6 (AoK _ _ _ _ _ _) (K:=AP E86 Tryz.f203 4 R K)]
 kernel_rfl
def c203:Va.Callee:=Aej [2] (BX [.raw,.d (.int .i64),.d (.int .i64)] [⟨[.ptr 0 [] 0,.dat [] (.int .i64),.dat [] (.int .i64)],[.box (.pr (.dat [] (.sl Ab)) (.pr (.k (.ref 1)) (.pr (.k (.mp 2)) (.pr (.k (.ref 3)) (.k .u))))),.row 104 .deep (.sl .bool),.dead,.row 253 .deep Aa],(Axw×AxE×Axv),λp=>AW p.1.1 p.1.2.1 p.1.2.2.1 p.2.1.1 p.2.2.1 p.2.2.2.2.1,λr=>(.nil,[.box (.pr (dD (.sl Ab) r.1) (.pr (.ref 1) (.pr (.mp 2) (.pr (.ref 4) .u)))),.row 104 .deep (.sl .bool) r.2.1,.dead,.dead,.row 253 .deep Aa r.2.2])⟩])
theorem WG:An Tryz.prog 203 c203:=zY _ (Ap (fn:=Tryz.f203) (by kernel_rfl) (by kernel_rfl) (by kernel_rfl) ⟨⟨E86,⟨⟨Aw,Ao trivial⟩,mixed⟩,λp R K=>U86 R p.1.1 p.1.2.1 p.1.2.2.1 p.2.1.1 p.2.2.1 p.2.2.2.2.1 K⟩,trivial⟩)
abbrev E87:Env:=⟨tab,As [(203,c203)],{deep:=true,heads:=[(3,{live:=[3,5,17,18,19],pre:=[(5,true,.row [3] 253 Aa true)]}),(7,{live:=[3,5,6,17,18,19,37,38,39],pre:=[(5,true,.row [3] 253 Aa true)]})],outs:=[(3,{live:=[5]}),(7,{live:=[3,5,17,18,19]})]}⟩
def Amb(a:Axw)(b:Axm)(c:Int)(z_:Int×Axw×AxE×Axv):St:=sT 50 [(3,.ptr 0 0 [] 0),(5,.ptr 1 0 [] 0),(17,dD (.sl Ab) a),(18,dI c),(19,dI z_.1)] [.box (dD Ah b),.box (.pr (dD (.sl Ab) z_.2.1) (.pr (.ref 2) (.pr (.mp 3) (.pr (.ref 4) .u)))),.row 104 .deep (.sl .bool) z_.2.2.1,.map .deep Aa (.sl Aa) ([]:List (Axg×Axv)) none,.row 253 .deep Aa z_.2.2.2]
def AjY(a:Axw)(b:Axm)(c:Int):(Axw×AxE×Axv)->Ex×St:=λd=>((.exit 0),sT 50 [(5,.ptr 0 0 [] 0)] [.box (.pr (dD (.sl Ab) d.1) (.pr (.ref 1) (.pr (.mp 2) (.pr (.ref 3) .u)))),.row 104 .deep (.sl .bool) d.2.1,.map .deep Aa (.sl Aa) ([]:List (Axg×Axv)) none,.row 253 .deep Aa d.2.2])
def Ama(e:Int)(a:Axw)(c:Int)(b:Axm)(g:Axs)(i:Int)(z_:Int×Axw×AxE×Axv):St:=sT 50 [(3,.ptr 0 0 [] 0),(5,.ptr 1 0 [] 0),(6,dI e),(17,dD (.sl Ab) a),(18,dI c),(19,dI e),(37,dD (.sl (.int .i64)) g),(38,dI i),(39,dI z_.1)] [.box (dD Ah b),.box (.pr (dD (.sl Ab) z_.2.1) (.pr (.ref 2) (.pr (.mp 3) (.pr (.ref 4) .u)))),.row 104 .deep (.sl .bool) z_.2.2.1,.map .deep Aa (.sl Aa) ([]:List (Axg×Axv)) none,.row 253 .deep Aa z_.2.2.2]
def AjX(e:Int)(a:Axw)(c:Int)(b:Axm)(g:Axs)(i:Int):(Axw×AxE×Axv)->Ex×St:=λj=>((.exit 2),sT 50 [(3,.ptr 0 0 [] 0),(5,.ptr 1 0 [] 0),(17,dD (.sl Ab) a),(18,dI c),(19,dI e)] [.box (dD Ah b),.box (.pr (dD (.sl Ab) j.1) (.pr (.ref 2) (.pr (.mp 3) (.pr (.ref 4) .u)))),.row 104 .deep (.sl .bool) j.2.1,.map .deep Aa (.sl Aa) ([]:List (Axg×Axv)) none,.row 253 .deep Aa j.2.2])
def GN(e:Int)(a:Axw)(c:Int)(b:Axm)(g:Axs)(i k:Int)(l:Axw)(n:AxE)(o:Axv):Option ((Int×Axw×AxE×Axv)⊕(Axw×AxE×Axv)) :=
 bif decide (k<i) then
 if(0:Int)<=k/\k<(g.length:Int) then
 (AW 0 e (g.getD k.toNat (Ty.zero (.int .i64))) l n o).bind λq =>
 some (.inl ((wI (k+1)),q.1,q.2.1,q.2.2))
 else none
 else
 some (.inr (l,n,o))
def CM(e:Int)(a:Axw)(c:Int)(b:Axm)(g:Axs)(i:Int)(z_:Int×Axw×AxE×Axv):=GN e a c b g i z_.1 z_.2.1 z_.2.2.1 z_.2.2.2
def IU(e:Int)(a:Axw)(c:Int)(b:Axm)(g:Axs)(i k:Int)(l:Axw)(n:AxE)(o:Axv):=fix (CM e a c b g i) (k,l,n,o)
theorem AoL(e:Int)(a:Axw)(c:Int)(b:Axm)(g:Axs)(i:Int):AU E87 0 7 (sub (code Tryz.f148) [1,1,0,1,0,0]) [1,1,0,0,1,1,1,0] (Ama e a c b g i) (CM e a c b g i) (AjX e a c b g i):=by
 intro _;simp only[CM,GN,Axe];kernel_rfl
def GQ(a:Axw)(b:Axm)(c e:Int)(s:Axw)(t:AxE)(u:Axv):Option ((Int×Axw×AxE×Axv)⊕(Axw×AxE×Axv)) :=
 bif decide (e<c) then
 if(0:Int)<=e/\e<(a.length:Int) then
 if Ty.row .bool=true/\(0:Int)<=(a.getD e.toNat Ab.zero).2.1/\(a.getD e.toNat Ab.zero).2.1<=(a.getD e.toNat Ab.zero).2.1/\((1:Nat):Int)*(a.getD e.toNat Ab.zero).2.1<=(281474976710656:Int)/\(a.getD e.toNat Ab.zero).2.1<=(9223372036854775807:Int) then
 if(0:Int)<=e/\e<(t.length:Int) then
 if(0:Int)<=e/\e<(b.1.length:Int) then
 (IU e a c b (b.1.getD e.toNat (Ty.zero (.sl (.int .i64)))) ((b.1.getD e.toNat (Ty.zero (.sl (.int .i64)))).length:Int) 0 s (t.set e.toNat (List.replicate (a.getD e.toNat Ab.zero).2.1.toNat false)) u).bind λj =>
 some (.inl ((wI (e+1)),j.1,j.2.1,j.2.2))
 else none
 else none
 else none
 else none
 else
 some (.inr (s,t,u))
def CN(a:Axw)(b:Axm)(c:Int)(z_:Int×Axw×AxE×Axv):=GQ a b c z_.1 z_.2.1 z_.2.2.1 z_.2.2.2
def IV(a:Axw)(b:Axm)(c e:Int)(s:Axw)(t:AxE)(u:Axv):=fix (CN a b c) (e,s,t,u)
theorem AoM(a:Axw)(b:Axm)(c:Int):AU E87 0 3 (code Tryz.f148) [1,1,0,1,0] (Amb a b c) (CN a b c) (AjY a b c):=by
 intro _;simp only[CN,GQ,Axe];simp(disch:=refine sI ?_<;>(repeat' refine sA ?_ ?_)<;>intro _<;>kernel_rfl) only[IU,Ax (AoL _ _ _ _ _ _) (K:=Be 0 (E87.hd 3) (E87.ot 3))]
 kernel_rfl
def G6(a:Axw)(b:Axm):Option (Int×Axw×AxE×(List (Axg×Axv))×Axv) :=
 if Ty.row (.sl .bool)=true/\(0:Int)<=(a.length:Int)/\(a.length:Int)<=(a.length:Int)/\((24:Nat):Int)*(a.length:Int)<=(281474976710656:Int)/\(a.length:Int)<=(9223372036854775807:Int) then
 (IV a b (a.length:Int) 0 a (List.replicate (a.length:Int).toNat ([]:Axt)) ([]:Axv)).bind λd =>
 some (0,d.1,d.2.1,([]:List (Axg×Axv)),d.2.2)
 else none
theorem U87(R:Type)(a:Axw)(b:Axm)(K:AV->List Blk->Option R):AH E87 Tryz.f148 R [dD (.sl Ab) a,dD Ah b] [] K=(G6 a b).bind λr=>K (.ptr 0 r.1 [] 0) [.box (.pr (dD (.sl Ab) r.2.1) (.pr (.ref 1) (.pr (.mp 2) (.pr (.ref 3) .u)))),.row 104 .deep (.sl .bool) r.2.2.1,.map .deep Aa (.sl Aa) r.2.2.2.1 none,.row 253 .deep Aa r.2.2.2.2]:=by
 simp only[G6,Axf];simp(disch:=refine sI ?_<;>(repeat' refine sA ?_ ?_)<;>intro _<;>kernel_rfl) only[IV,Ax (AoM _ _ _) (K:=AP E87 Tryz.f148 0 R K)]
 kernel_rfl
def c148:Va.Callee:=BX [.d (.sl Ab),.d Ah] [⟨[.dat [] (.sl Ab),.dat [] Ah],[],(Int×Axw×AxE×(List (Axg×Axv))×Axv),λp=>G6 p.1.1 p.1.2.1,λr=>(.ptr 0 r.1 [] 0,[.box (.pr (dD (.sl Ab) r.2.1) (.pr (.ref 1) (.pr (.mp 2) (.pr (.ref 3) .u)))),.row 104 .deep (.sl .bool) r.2.2.1,.map .deep Aa (.sl Aa) r.2.2.2.1 none,.row 253 .deep Aa r.2.2.2.2])⟩]
theorem xk:An Tryz.prog 148 c148:=Ap (fn:=Tryz.f148) (by kernel_rfl) (by kernel_rfl) (by kernel_rfl) ⟨⟨E87,⟨⟨Aw,Ao ⟨WG,trivial⟩⟩,mixed⟩,λp R K=>U87 R p.1.1 p.1.2.1 K⟩,trivial⟩
end
end Go.Proofs.X
