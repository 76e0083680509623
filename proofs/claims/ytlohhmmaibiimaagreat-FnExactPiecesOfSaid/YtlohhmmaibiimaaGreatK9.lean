import Derived.KernelRfl
import Derived.Test.YtlohhmmaibiimaaGreatK8
set_option linter.unusedVariables false
set_option linter.unusedSimpArgs false
namespace Go.Proofs.X
open Go Go.Va
set_option maxRecDepth 100000
noncomputable section
abbrev E40:Env:=⟨tab,As [(120,Ag3),(143,c143),(144,Apu)],{heads:=[(6,{live:=[0,3,6,7,8],pre:=[(6,false,.row [] 124 (.sl Aa) false),(7,false,.row [] 238 Ad true)]}),(10,{live:=[0,3,6,8,9,10],pre:=[(9,false,.row [] 124 (.sl Aa) false)]})],outs:=[(6,{live:=[4,5,7]}),(10,{live:=[0,3,6,8,9],Ow:=[(9,false,(.sl (.sl Aa)))]})],res:=[(0,.row [] 238 Ad true)]}⟩
def AkY(a:Axw)(b:Axp)(z_:Int×AxF×Axx):St:=sT 77 [(0,dD (.sl Ab) a),(3,.ptr 0 0 [] 0),(6,.ref 1),(7,.ref 2),(8,dI z_.1)] [.box (dD Ak b),.row 124 (.sh []) (.sl Aa) z_.2.1,.row 238 .deep Ad z_.2.2]
def AiN(a:Axw)(b:Axp):(Unit⊕Axx)->Ex×St:=Sum.elim (λc=>(.ret,sT 77 [(4,.zs),(5,dB false)] [])) (λd=>((.exit 0),sT 77 [(7,.ref 0)] [.row 238 .deep Ad d]))
def AkX(a:Axw)(e:Int)(b:Axp)(g:AxF)(z_:Int×AxF):St:=sT 77 [(0,dD (.sl Ab) a),(3,.ptr 0 0 [] 0),(6,.ref 1),(8,dI e),(9,.ref 2),(10,dI z_.1)] [.box (dD Ak b),.row 124 (.sh []) (.sl Aa) g,.row 124 (.sh []) (.sl Aa) z_.2]
def AiM(a:Axw)(e:Int)(b:Axp)(g:AxF):AxF->Ex×St:=λi=>((.exit 2),sT 77 [(0,dD (.sl Ab) a),(3,.ptr 0 0 [] 0),(6,.ref 1),(8,dI e),(9,dD (.sl (.sl Aa)) i)] [.box (dD Ak b),.row 124 (.sh []) (.sl Aa) g])
def I5(a:Axw)(e:Int)(b:Axp)(g:AxF)(j:Int)(k:AxF):Option ((Int×AxF)⊕AxF) :=
 if(0:Int)<=e/\e<(b.1.length:Int) then
 bif decide (j<((b.1.getD e.toNat Ae.zero).2.2.2.2.2.1.length:Int)) then
 if(0:Int)<=e/\e<(b.1.length:Int) then
 if(0:Int)<=j/\j<((b.1.getD e.toNat Ae.zero).2.2.2.2.2.1.length:Int) then
 if(0:Int)<=((b.1.getD e.toNat Ae.zero).2.2.2.2.2.1.getD j.toNat (Ty.zero (.int .i64)))/\((b.1.getD e.toNat Ae.zero).2.2.2.2.2.1.getD j.toNat (Ty.zero (.int .i64)))<(g.length:Int) then
 if(k.length+([(g.getD ((b.1.getD e.toNat Ae.zero).2.2.2.2.2.1.getD j.toNat (Ty.zero (.int .i64))).toNat (Ty.zero (.sl Aa)))]:AxF).length)*24<=140737488355328 then
 some (.inl ((wI (j+1)),(k++([(g.getD ((b.1.getD e.toNat Ae.zero).2.2.2.2.2.1.getD j.toNat (Ty.zero (.int .i64))).toNat (Ty.zero (.sl Aa)))]:AxF))))
 else none
 else none
 else none
 else none
 else
 some (.inr k)
 else none
def DU(a:Axw)(e:Int)(b:Axp)(g:AxF)(z_:Int×AxF):=I5 a e b g z_.1 z_.2
def Lx(a:Axw)(e:Int)(b:Axp)(g:AxF)(j:Int)(k:AxF):=fix (DU a e b g) (j,k)
theorem Anh(a:Axw)(e:Int)(b:Axp)(g:AxF):AU E40 0 10 (sub (code Tryz.f73) [1,1,1,1,0,1,0,0]) [1,0,0,1,0,1,0] (AkX a e b g) (DU a e b g) (AiM a e b g):=by
 intro _;simp only[DU,I5,Axe];kernel_rfl
def MO(a:Axw)(b:Axp)(e:Int)(g:AxF)(l:Axx):Option ((Int×AxF×Axx)⊕(Unit⊕Axx)) :=
 bif decide (e<(b.1.length:Int)) then
 (Lx a e b g 0 ([]:AxF)).bind λi =>
 if(0:Int)<=e/\e<(b.1.length:Int) then
 (Mk a (b.1.getD e.toNat Ae.zero) i).bind λn =>
 (Mj n).bind λo =>
 bif !o.1 then
 some (.inr (.inl ()))
 else
 if(g.length+([n]:AxF).length)*24<=140737488355328 then
 some (.inl ((wI (e+1)),(g++([n]:AxF)),o.2))
 else none
 else none
 else
 some (.inr (.inr l))
def I6(a:Axw)(b:Axp)(z_:Int×AxF×Axx):=MO a b z_.1 z_.2.1 z_.2.2
def Od(a:Axw)(b:Axp)(e:Int)(g:AxF)(l:Axx):=fix (I6 a b) (e,g,l)
theorem Ani(a:Axw)(b:Axp):AU E40 0 6 (code Tryz.f73) [1,1,1,1,0,1,0] (AkY a b) (I6 a b) (AiN a b):=by
 intro _;simp only[I6,MO,Axe];simp(disch:=refine sI ?_<;>(repeat' refine sA ?_ ?_)<;>intro _<;>kernel_rfl) only[Lx,Ax (Anh _ _ _ _) (K:=Be 0 (E40.hd 6) (E40.ot 6))]
 kernel_rfl
def BS(a:Axw)(b:Axp):Option (Bool×Axx) :=
 (CG a b).bind λq =>
 bif decide (q<0) then
 some (false,([]:Axx))
 else
 (Od a b 0 ([]:AxF) ([]:Axx)).bind (Sum.elim (λc =>
 some (false,([]:Axx))) (λd =>
 some (true,d)))
theorem U40(R:Type)(a:Axw)(b:Axp)(K:AV->List Blk->Option R):AH E40 Tryz.f73 R [dD (.sl Ab) a,dD Ak b] [] K=(BS a b).bind λr=>K (.cons (.ref 0) (.cons (dB r.1) .nil)) [.row 238 .deep Ad r.2]:=by
 simp only[BS,Axf];simp(disch:=refine sI ?_<;>(repeat' refine sA ?_ ?_)<;>intro _<;>kernel_rfl) only[Od,Ax (Ani _ _) (K:=AP E40 Tryz.f73 0 R K)]
 kernel_rfl
def c73:Va.Callee:=BX [.d (.sl Ab),.d Ak] [⟨[.dat [] (.sl Ab),.dat [] Ak],[],(Bool×Axx),λp=>BS p.1.1 p.1.2.1,λr=>(.cons (.ref 0) (.cons (dB r.1) .nil),[.row 238 .deep Ad r.2])⟩]
theorem oo:An Tryz.prog 73 c73:=Ap (fn:=Tryz.f73) (by kernel_rfl) (by kernel_rfl) (by kernel_rfl) ⟨⟨E40,⟨⟨Aw,Ao ⟨eP,wY,wZ,trivial⟩⟩,mixed⟩,λp R K=>U40 R p.1.1 p.1.2.1 K⟩,trivial⟩
abbrev E41:Env:=⟨tab,As [(73,c73)],{deep:=true,heads:=[(3,{live:=[0,1,6,7],pre:=[(6,false,.row [] 121 (.sl Ad) true)]})],outs:=[(3,{live:=[4,5,6]})],joins:=[(8,{live:=[0,1,6,7,8,10,44]})],ents:=[(8,[0,1,6,7,8,9,10,11])]}⟩
def AkZ(a:Axw)(b:AxA)(z_:Int×AxG):St:=sT 52 [(0,dD (.sl Ab) a),(1,dD (.sl Ag) b),(6,.ref 0),(7,dI z_.1)] [.row 121 .deep (.sl Ad) z_.2]
def AiO(a:Axw)(b:AxA):(AxG⊕AxG)->Ex×St:=Sum.elim (λc=>(.ret,sT 52 [(4,.ref 0),(5,dB false),(6,.ref 0)] [.row 121 .deep (.sl Ad) c])) (λd=>((.exit 0),sT 52 [(6,.ref 0)] [.row 121 .deep (.sl Ad) d]))
def vG(a:Axw)(b:AxA)(e:Int)(g i:Bool×Axx)(j:AxG):St:=sT 52 [(0,dD (.sl Ab) a),(1,dD (.sl Ag) b),(6,.ref 0),(7,dI e),(8,.ref 1),(9,dB g.1),(10,.ref 2),(11,dB i.1)] [.row 121 .deep (.sl Ad) j,.row 238 .deep Ad g.2,.row 238 .deep Ad i.2]
def uL(a:Axw)(b:AxA)(e:Int)(g i:Bool×Axx)(j:AxG)(m0:Bool):Ex×St:=(.normal,sT 52 [(0,dD (.sl Ab) a),(1,dD (.sl Ag) b),(6,.ref 0),(7,dI e),(8,.ref 1),(10,.ref 2),(44,dB m0)] [.row 121 .deep (.sl Ad) j,.row 238 .deep Ad g.2,.row 238 .deep Ad i.2])
theorem Anj(a:Axw)(b:AxA)(e:Int)(g i:Bool×Axx)(j:AxG):Mn E41 0 8 (sub (code Tryz.f53) [1,1,0,1,0,0]) [1,0,0,1,1,0,0] (vG a b e g i j)=some (uL a b e g i j ((!g.1)||(!i.1))):=by
 have h0:Mn E41 0 8 (sub (code Tryz.f53) [1,1,0,1,0,0]) [1,0,0,1,1,0,0] (vG a b e g i j) =
 bif !g.1 then
 some (uL a b e g i j true)
 else
 some (uL a b e g i j (!i.1)):=by kernel_rfl
 rw[h0];cases h1:(!g.1)
 ·first | rfl | kernel_rfl
 ·first | rfl | kernel_rfl
def M8(a:Axw)(b:AxA)(e:Int)(j:AxG):Option ((Int×AxG)⊕(AxG⊕AxG)) :=
 bif decide (e<(b.length:Int)) then
 if(0:Int)<=e/\e<(b.length:Int) then
 (BS a (b.getD e.toNat Ag.zero).2.2.1).bind λg =>
 if(0:Int)<=e/\e<(b.length:Int) then
 (BS a (b.getD e.toNat Ag.zero).2.2.2.1).bind λi =>
 N8 (vG a b e g i j) (
 bif (!g.1)||(!i.1) then
 some (.inr (.inl j))
 else
 if(j.length+([g.2,i.2]:AxG).length)*24<=140737488355328 then
 some (.inl ((wI (e+1)),(j++([g.2,i.2]:AxG))))
 else none)
 else none
 else none
 else
 some (.inr (.inr j))
def Jn(a:Axw)(b:AxA)(z_:Int×AxG):=M8 a b z_.1 z_.2
def Oh(a:Axw)(b:AxA)(e:Int)(j:AxG):=fix (Jn a b) (e,j)
theorem Ank(a:Axw)(b:AxA):AU E41 0 3 (code Tryz.f53) [1,1,0,1,0] (AkZ a b) (Jn a b) (AiO a b):=by
 intro _;simp only[Jn,M8,Axe];simp(disch:=refine sI ?_<;>(repeat' refine sA ?_ ?_)<;>intro _<;>kernel_rfl) only[F7 (Anj _ _ _ _ _ _) (K:=Be 0 (E41.hd 3) (E41.ot 3))]
 kernel_rfl
def KP(a:Axw)(b:AxA):Option (Bool×AxG) :=
 (Oh a b 0 ([]:AxG)).bind (Sum.elim (λc =>
 some (false,c)) (λd =>
 some (true,d)))
theorem U41(R:Type)(a:Axw)(b:AxA)(K:AV->List Blk->Option R):AH E41 Tryz.f53 R [dD (.sl Ab) a,dD (.sl Ag) b] [] K=(KP a b).bind λr=>K (.cons (.ref 0) (.cons (dB r.1) .nil)) [.row 121 .deep (.sl Ad) r.2]:=by
 simp only[KP,Axf];simp(disch:=refine sI ?_<;>(repeat' refine sA ?_ ?_)<;>intro _<;>kernel_rfl) only[Oh,Ax (Ank _ _) (K:=AP E41 Tryz.f53 0 R K)]
 kernel_rfl
def c53:Va.Callee:=BX [.d (.sl Ab),.d (.sl Ag)] [⟨[.dat [] (.sl Ab),.dat [] (.sl Ag)],[],(Bool×AxG),λp=>KP p.1.1 p.1.2.1,λr=>(.cons (.ref 0) (.cons (dB r.1) .nil),[.row 121 .deep (.sl Ad) r.2])⟩]
theorem AcE:An Tryz.prog 53 c53:=Ap (fn:=Tryz.f53) (by kernel_rfl) (by kernel_rfl) (by kernel_rfl) ⟨⟨E41,⟨⟨Aw,Ao ⟨oo,trivial⟩⟩,mixed⟩,λp R K=>U41 R p.1.1 p.1.2.1 K⟩,trivial⟩
abbrev E42:Env:=⟨tab,As [(188,Aci)],{deep:=true,heads:=[(3,{live:=[0,3,4],pre:=[(3,false,.row [] 199 Aa true)]}),(6,{live:=[0,3,4,5],pre:=[(3,false,.row [] 199 Aa true)]})],outs:=[(3,{live:=[3]}),(6,{live:=[0,3,4]})],joins:=[(7,{live:=[0,3,4,5]})],ents:=[(7,[0,3,4,5])]}⟩
def Ak2(a:Axx)(z_:Int×Axv):St:=sT 57 [(0,dD (.sl Ad) a),(3,.ref 0),(4,dI z_.1)] [.row 199 .deep Aa z_.2]
def AiR(a:Axx):Axv->Ex×St:=λb=>((.exit 0),sT 57 [(3,.ref 0)] [.row 199 .deep Aa b])
def Ak1(a:Axx)(c:Int)(z_:Int×Axv):St:=sT 57 [(0,dD (.sl Ad) a),(3,.ref 0),(4,dI c),(5,dI z_.1)] [.row 199 .deep Aa z_.2]
def AiQ(a:Axx)(c:Int):Axv->Ex×St:=λd=>((.exit 2),sT 57 [(0,dD (.sl Ad) a),(3,.ref 0),(4,dI c)] [.row 199 .deep Aa d])
def Ak0(a:Axx)(c e:Int)(g:Axv):St:=sT 57 [(0,dD (.sl Ad) a),(3,.ref 0),(4,dI c),(5,dI e)] [.row 199 .deep Aa g]
def AiP(a:Axx)(c e:Int)(g:Axv):Axv->Ex×St:=λi=>(.normal,sT 57 [(0,dD (.sl Ad) a),(3,.ref 0),(4,dI c),(5,dI e)] [.row 199 .deep Aa i])
def MS(a:Axx)(c e:Int)(g:Axv):Option Axv :=
 if(0:Int)<=c/\c<(a.length:Int) then
 bif decide ((a.getD c.toNat Ad.zero).1<0) then
 if(0:Int)<=c/\c<(a.length:Int) then
 (Fv (a.getD c.toNat Ad.zero).2.2.2.1 e).bind λj =>
 if(g.length+([((-1),(wI j),())]:Axv).length)*16<=140737488355328 then
 some (g++([((-1),(wI j),())]:Axv))
 else none
 else none
 else
 if(0:Int)<=c/\c<(a.length:Int) then
 if(0:Int)<=c/\c<(a.length:Int) then
 if(g.length+([((a.getD c.toNat Ad.zero).1,(wI ((a.getD c.toNat Ad.zero).2.1+e)),())]:Axv).length)*16<=140737488355328 then
 some (g++([((a.getD c.toNat Ad.zero).1,(wI ((a.getD c.toNat Ad.zero).2.1+e)),())]:Axv))
 else none
 else none
 else none
 else none
theorem Anl(a:Axx)(c e:Int)(g:Axv):AL E42 0 7 (sub (sub (code Tryz.f122) [1,1,0,1,0,0]) [1,0,0,1,0,0]) [1,0] (Ak0 a c e g) (MS a c e g) (AiP a c e g):=by
 unfold AL;simp only[MS,Axe];kernel_rfl
def KA(a:Axx)(c e:Int)(g:Axv):Option ((Int×Axv)⊕Axv) :=
 if(0:Int)<=c/\c<(a.length:Int) then
 bif decide (e<(a.getD c.toNat Ad.zero).2.2.1) then
 (MS a c e g).bind λi =>
 some (.inl ((wI (e+1)),i))
 else
 some (.inr g)
 else none
def ET(a:Axx)(c:Int)(z_:Int×Axv):=KA a c z_.1 z_.2
def MU(a:Axx)(c e:Int)(g:Axv):=fix (ET a c) (e,g)
theorem Anm(a:Axx)(c:Int):AU E42 0 6 (sub (code Tryz.f122) [1,1,0,1,0,0]) [1,0,0,1,0] (Ak1 a c) (ET a c) (AiQ a c):=by
 intro _;simp only[ET,KA,Axe];simp(disch:=refine sI ?_<;>(repeat' refine sA ?_ ?_)<;>intro _<;>kernel_rfl) only[A6 (Anl _ _ _ _) (K:=Be 0 (E42.hd 6) (E42.ot 6))]
 kernel_rfl
def KB(a:Axx)(c:Int)(k:Axv):Option ((Int×Axv)⊕Axv) :=
 bif decide (c<(a.length:Int)) then
 (MU a c 0 k).bind λd =>
 some (.inl ((wI (c+1)),d))
 else
 some (.inr k)
def Dd(a:Axx)(z_:Int×Axv):=KB a z_.1 z_.2
def Pu(a:Axx)(c:Int)(k:Axv):=fix (Dd a) (c,k)
theorem Ann(a:Axx):AU E42 0 3 (code Tryz.f122) [1,1,0,1,0] (Ak2 a) (Dd a) (AiR a):=by
 intro _;simp only[Dd,KB,Axe];simp(disch:=refine sI ?_<;>(repeat' refine sA ?_ ?_)<;>intro _<;>kernel_rfl) only[MU,Ax (Anm _ _) (K:=Be 0 (E42.hd 3) (E42.ot 3))]
 kernel_rfl
def Mi(a:Axx):Option Axv :=
 (Pu a 0 ([]:Axv)).bind λb =>
 some b
theorem U42(R:Type)(a:Axx)(K:AV->List Blk->Option R):AH E42 Tryz.f122 R [dD (.sl Ad) a] [] K=(Mi a).bind λr=>K (.ref 0) [.row 199 .deep Aa r]:=by
 simp only[Mi,Axf];simp(disch:=refine sI ?_<;>(repeat' refine sA ?_ ?_)<;>intro _<;>kernel_rfl) only[Pu,Ax (Ann _) (K:=AP E42 Tryz.f122 0 R K)]
 kernel_rfl
def Aps:Va.Callee:=BX [.d (.sl Ad)] [⟨[.dat [] (.sl Ad)],[],Axv,λp=>Mi p.1.1,λr=>(.ref 0,[.row 199 .deep Aa r])⟩]
theorem wV:An Tryz.prog 122 Aps:=Ap (fn:=Tryz.f122) (by kernel_rfl) (by kernel_rfl) (by kernel_rfl) ⟨⟨E42,⟨⟨Aw,Ao ⟨WE,trivial⟩⟩,mixed⟩,λp R K=>U42 R p.1.1 K⟩,trivial⟩
abbrev E43:Env:=⟨tab,As [(122,Aps)],{deep:=true,heads:=[(3,{live:=[0,2,3,4],pre:=[(3,true,.row [1] 4 .bool true)]}),(6,{live:=[0,2,3,4,5],pre:=[(3,true,.row [1] 4 .bool true)]})],outs:=[(3,{live:=[2,3]}),(6,{live:=[0,2,3,4]})]}⟩
def Ak4(a:Axx)(b:Axv)(z_:Int×Axt):St:=sT 32 [(0,dD (.sl Ad) a),(2,.ptr 0 0 [] 0),(3,.ptr 1 0 [] 0),(4,dI z_.1)] [.box (.pr .zs (.pr .zs .u)),.box (.pr (.ref 2) (.pr (.ref 3) .u)),.row 199 .deep Aa b,.row 4 .deep .bool z_.2]
def AiT(a:Axx)(b:Axv):Axt->Ex×St:=λc=>((.exit 0),sT 32 [(2,.ptr 0 0 [] 0),(3,.ptr 1 0 [] 0)] [.box (.pr .zs (.pr .zs .u)),.box (.pr (.ref 2) (.pr (.ref 3) .u)),.row 199 .deep Aa b,.row 4 .deep .bool c])
def Ak3(a:Axx)(d:Int)(b:Axv)(z_:Int×Axt):St:=sT 32 [(0,dD (.sl Ad) a),(2,.ptr 0 0 [] 0),(3,.ptr 1 0 [] 0),(4,dI d),(5,dI z_.1)] [.box (.pr .zs (.pr .zs .u)),.box (.pr (.ref 2) (.pr (.ref 3) .u)),.row 199 .deep Aa b,.row 4 .deep .bool z_.2]
def AiS(a:Axx)(d:Int)(b:Axv):Axt->Ex×St:=λe=>((.exit 2),sT 32 [(0,dD (.sl Ad) a),(2,.ptr 0 0 [] 0),(3,.ptr 1 0 [] 0),(4,dI d)] [.box (.pr .zs (.pr .zs .u)),.box (.pr (.ref 2) (.pr (.ref 3) .u)),.row 199 .deep Aa b,.row 4 .deep .bool e])
def KN(a:Axx)(d:Int)(b:Axv)(g:Int)(i:Axt):Option ((Int×Axt)⊕Axt) :=
 if(0:Int)<=d/\d<(a.length:Int) then
 bif decide (g<(a.getD d.toNat Ad.zero).2.2.1) then
 if(i.length+([(g==0)]:Axt).length)*1<=140737488355328 then
 some (.inl ((wI (g+1)),(i++([(g==0)]:Axt))))
 else none
 else
 some (.inr i)
 else none
def EY(a:Axx)(d:Int)(b:Axv)(z_:Int×Axt):=KN a d b z_.1 z_.2
def M6(a:Axx)(d:Int)(b:Axv)(g:Int)(i:Axt):=fix (EY a d b) (g,i)
theorem Ano(a:Axx)(d:Int)(b:Axv):AU E43 0 6 (sub (code Tryz.f74) [1,1,0,1,0,0]) [1,0,0,1,0] (Ak3 a d b) (EY a d b) (AiS a d b):=by
 intro _;simp only[EY,KN,Axe];kernel_rfl
def KO(a:Axx)(b:Axv)(d:Int)(j:Axt):Option ((Int×Axt)⊕Axt) :=
 bif decide (d<(a.length:Int)) then
 (M6 a d b 0 j).bind λe =>
 some (.inl ((wI (d+1)),e))
 else
 some (.inr j)
def EZ(a:Axx)(b:Axv)(z_:Int×Axt):=KO a b z_.1 z_.2
def M7(a:Axx)(b:Axv)(d:Int)(j:Axt):=fix (EZ a b) (d,j)
theorem Anp(a:Axx)(b:Axv):AU E43 0 3 (code Tryz.f74) [1,1,0,1,0] (Ak4 a b) (EZ a b) (AiT a b):=by
 intro _;simp only[EZ,KO,Axe];simp(disch:=refine sI ?_<;>(repeat' refine sA ?_ ?_)<;>intro _<;>kernel_rfl) only[M6,Ax (Ano _ _ _) (K:=Be 0 (E43.hd 3) (E43.ot 3))]
 kernel_rfl
def Gq(a:Axx):Option (Axv×Axt) :=
 (Mi a).bind λb =>
 (M7 a b 0 ([]:Axt)).bind λc =>
 some (b,c)
theorem U43(R:Type)(a:Axx)(K:AV->List Blk->Option R):AH E43 Tryz.f74 R [dD (.sl Ad) a] [] K=(Gq a).bind λr=>K (.pr (.ref 0) (.pr (.ref 1) .u)) [.row 199 .deep Aa r.1,.row 4 .deep .bool r.2]:=by
 simp only[Gq,Axf];simp(disch:=refine sI ?_<;>(repeat' refine sA ?_ ?_)<;>intro _<;>kernel_rfl) only[M7,Ax (Anp _ _) (K:=AP E43 Tryz.f74 0 R K)]
 kernel_rfl
def c74:Va.Callee:=BX [.d (.sl Ad)] [⟨[.dat [] (.sl Ad)],[],(Axv×Axt),λp=>Gq p.1.1,λr=>(.pr (.ref 0) (.pr (.ref 1) .u),[.row 199 .deep Aa r.1,.row 4 .deep .bool r.2])⟩]
theorem oq:An Tryz.prog 74 c74:=Ap (fn:=Tryz.f74) (by kernel_rfl) (by kernel_rfl) (by kernel_rfl) ⟨⟨E43,⟨⟨Aw,Ao ⟨wV,trivial⟩⟩,mixed⟩,λp R K=>U43 R p.1.1 K⟩,trivial⟩
abbrev E44:Env:=⟨tab,As [],{deep:=true}⟩
def B8(a:Axo)(b:AxE)(c:Int):Option Bool :=
 if(0:Int)<=c/\c<(a.2.1.length:Int) then
 bif a.2.1.getD c.toNat (Ty.zero .bool) then
 some true
 else
 if(0:Int)<=c/\c<(a.1.length:Int) then
 bif decide ((a.1.getD c.toNat Aa.zero).1>=0) then
 if(0:Int)<=c/\c<(a.1.length:Int) then
 if(0:Int)<=(a.1.getD c.toNat Aa.zero).1/\(a.1.getD c.toNat Aa.zero).1<(b.length:Int) then
 if(0:Int)<=c/\c<(a.1.length:Int) then
 if(0:Int)<=(a.1.getD c.toNat Aa.zero).2.1/\(a.1.getD c.toNat Aa.zero).2.1<((b.getD (a.1.getD c.toNat Aa.zero).1.toNat (Ty.zero (.sl .bool))).length:Int) then
 some ((b.getD (a.1.getD c.toNat Aa.zero).1.toNat (Ty.zero (.sl .bool))).getD (a.1.getD c.toNat Aa.zero).2.1.toNat (Ty.zero .bool))
 else none
 else none
 else none
 else none
 else
 some false
 else none
 else none
theorem U44(R:Type)(a:Axo)(b:AxE)(c:Int)(K:AV->List Blk->Option R):AH E44 Tryz.f78 R [dD Aj a,dD (.sl (.sl .bool)) b,dI c] [] K=(B8 a b c).bind λr=>K (dB r) []:=by
 simp only[B8,Axf];kernel_rfl
def c78:Va.Callee:=BX [.d Aj,.d (.sl (.sl .bool)),.d (.int .i64)] [⟨[.dat [] Aj,.dat [] (.sl (.sl .bool)),.dat [] (.int .i64)],[],Bool,λp=>B8 p.1.1 p.1.2.1 p.1.2.2.1,λr=>(dB r,[])⟩]
theorem ZT:An Tryz.prog 78 c78:=Ap (fn:=Tryz.f78) (by kernel_rfl) (by kernel_rfl) (by kernel_rfl) ⟨⟨E44,⟨⟨Aw,Ao trivial⟩,mixed⟩,λp R K=>U44 R p.1.1 p.1.2.1 p.1.2.2.1 K⟩,trivial⟩
abbrev E45:Env:=⟨tab,As [(78,c78)],{deep:=true}⟩
def Fa(a:Axo)(b:AxE)(c:Int):Option Bool :=
 (B8 a b c).bind λd =>
 bif !d then
 if(0:Int)<=c/\c<(a.1.length:Int) then
 some (decide ((a.1.getD c.toNat Aa.zero).1>=0))
 else none
 else
 some false
theorem U45(R:Type)(a:Axo)(b:AxE)(c:Int)(K:AV->List Blk->Option R):AH E45 Tryz.f201 R [dD Aj a,dD (.sl (.sl .bool)) b,dI c] [] K=(Fa a b c).bind λr=>K (dB r) []:=by
 simp only[Fa,Axf];kernel_rfl
def c201:Va.Callee:=BX [.d Aj,.d (.sl (.sl .bool)),.d (.int .i64)] [⟨[.dat [] Aj,.dat [] (.sl (.sl .bool)),.dat [] (.int .i64)],[],Bool,λp=>Fa p.1.1 p.1.2.1 p.1.2.2.1,λr=>(dB r,[])⟩]
theorem xW:An Tryz.prog 201 c201:=Ap (fn:=Tryz.f201) (by kernel_rfl) (by kernel_rfl) (by kernel_rfl) ⟨⟨E45,⟨⟨Aw,Ao ⟨ZT,trivial⟩⟩,mixed⟩,λp R K=>U45 R p.1.1 p.1.2.1 p.1.2.2.1 K⟩,trivial⟩
abbrev SE:Env:=⟨tab,As [(53,c53),(74,c74),(78,c78),(201,c201)],{deep:=true,nest:=[(59,4),(67,4),(151,4)],heads:=[(6,{live:=[2,7,9,10],pre:=[(9,false,.row [] 126 Aj true)]}),(9,{live:=[2,7,9,10,11]}),(17,{live:=[2,9,13]}),(20,{live:=[2,9,13,14]}),(24,{live:=[2,9,13,14,15,16]}),(31,{live:=[2,9,13,14,15,16,17,18]})],outs:=[(6,{live:=[2,9]}),(9,{live:=[2,7,9,10]}),(17,{live:=[]}),(20,{live:=[2,9,13]}),(24,{live:=[2,9,13,14]}),(31,{live:=[2,9,13,14,15,16]})],joins:=[(10,{live:=[2,7,9,10,11]}),(25,{live:=[2,9,13,14,15,16]}),(29,{live:=[2,9,13,14,15,16,17]}),(30,{live:=[2,9,13,14,15,16,17]}),(32,{live:=[2,9,13,14,15,16,17,18]}),(36,{live:=[2,9,13,14,15,16,17,18,20,142]})],ents:=[(10,[2,7,9,10,11]),(25,[2,9,13,14,15,16]),(29,[2,9,13,14,15,16,17]),(30,[2,9,13,14,15,16,17]),(32,[2,9,13,14,15,16,17,18]),(36,[2,9,13,14,15,16,17,18,19,20])]}⟩
def Af8(a:AxC)(z_:Bool×AxE):St:=sT 159 [(2,.ref 0),(9,.ref 1),(13,dB z_.1)] [.row 104 .deep (.sl .bool) z_.2,.row 126 .deep Aj a]
def Afl(a:AxC):AxE->Ex×St:=λb=>((.exit 4),sT 159 [] [.row 104 .deep (.sl .bool) b])
def Af7(a:AxC)(z_:Bool×Int×AxE):St:=sT 159 [(2,.ref 0),(9,.ref 1),(13,dB z_.1),(14,dI z_.2.1)] [.row 104 .deep (.sl .bool) z_.2.2,.row 126 .deep Aj a]
def Afk(a:AxC):(Bool×AxE)->Ex×St:=λc=>((.exit 6),sT 159 [(2,.ref 0),(9,.ref 1),(13,dB c.1)] [.row 104 .deep (.sl .bool) c.2,.row 126 .deep Aj a])
def Af6(d:Int)(a:AxC)(e:Int)(z_:Bool×Int×AxE):St:=sT 159 [(2,.ref 0),(9,.ref 1),(13,dB z_.1),(14,dI d),(15,dI e),(16,dI z_.2.1)] [.row 104 .deep (.sl .bool) z_.2.2,.row 126 .deep Aj a]
def Afj(d:Int)(a:AxC)(e:Int):(Bool×AxE)->Ex×St:=λg=>((.exit 8),sT 159 [(2,.ref 0),(9,.ref 1),(13,dB g.1),(14,dI d)] [.row 104 .deep (.sl .bool) g.2,.row 126 .deep Aj a])
def Af5(i:Bool)(d e j:Int)(k:AxE)(a:AxC):St:=sT 159 [(2,.ref 0),(9,.ref 1),(13,dB i),(14,dI d),(15,dI e),(16,dI j)] [.row 104 .deep (.sl .bool) k,.row 126 .deep Aj a]
def Afi(i:Bool)(d e j:Int)(k:AxE)(a:AxC):(Bool×AxE)->Ex×St:=λl=>(.normal,sT 159 [(2,.ref 0),(9,.ref 1),(13,dB l.1),(14,dI d),(15,dI e),(16,dI j)] [.row 104 .deep (.sl .bool) l.2,.row 126 .deep Aj a])
def Alb(d e j:Int)(a:AxC)(n:Int)(z_:Bool×Int×AxE):St:=sT 159 [(2,.ref 0),(9,.ref 1),(13,dB z_.1),(14,dI d),(15,dI e),(16,dI j),(17,dI n),(18,dI z_.2.1)] [.row 104 .deep (.sl .bool) z_.2.2,.row 126 .deep Aj a]
def Ai0(d e j:Int)(a:AxC)(n:Int):(Bool×AxE)->Ex×St:=λo=>((.exit 10),sT 159 [(2,.ref 0),(9,.ref 1),(13,dB o.1),(14,dI d),(15,dI e),(16,dI j)] [.row 104 .deep (.sl .bool) o.2,.row 126 .deep Aj a])
def Ala(q:Bool)(d e j n s:Int)(t:AxE)(a:AxC):St:=sT 159 [(2,.ref 0),(9,.ref 1),(13,dB q),(14,dI d),(15,dI e),(16,dI j),(17,dI n),(18,dI s)] [.row 104 .deep (.sl .bool) t,.row 126 .deep Aj a]
def AiZ(q:Bool)(d e j n s:Int)(t:AxE)(a:AxC):(Bool×AxE)->Ex×St:=λu=>(.normal,sT 159 [(2,.ref 0),(9,.ref 1),(13,dB u.1),(14,dI d),(15,dI e),(16,dI j),(17,dI n),(18,dI s)] [.row 104 .deep (.sl .bool) u.2,.row 126 .deep Aj a])
def Ak9(q:Bool)(d e j n s:Int)(t:AxE)(a:AxC)(v w:Axo):St:=sT 159 [(2,.ref 0),(9,.ref 1),(13,dB q),(14,dI d),(15,dI e),(16,dI j),(17,dI n),(18,dI s),(19,.ptr 2 0 [] 0),(20,.ptr 3 0 [] 0)] [.row 104 .deep (.sl .bool) t,.row 126 .deep Aj a,.box (.dat [1] Aj v),.box (.dat [1] Aj w)]
def AiY(q:Bool)(d e j n s:Int)(t:AxE)(a:AxC)(v w:Axo):Bool->Ex×St:=λx=>(.normal,sT 159 [(2,.ref 0),(9,.ref 1),(13,dB q),(14,dI d),(15,dI e),(16,dI j),(17,dI n),(18,dI s),(20,.ptr 2 0 [] 0),(142,dB x)] [.row 104 .deep (.sl .bool) t,.row 126 .deep Aj a,.box (.dat [1] Aj w)])
def LL(q:Bool)(d e j n s:Int)(t:AxE)(a:AxC)(v w:Axo):Option Bool :=
 (B8 v t n).bind λy =>
 bif y then
 (Fa w t n).bind λa1 =>
 some a1
 else
 some false
theorem Anv(q:Bool)(d e j n s:Int)(t:AxE)(a:AxC)(v w:Axo):AL SE 1 36 (sub (sub (sub (sub (sub (sub (code Tryz.f141) [1,1,1,1,1,1,0,0,0]) [1,0,1,1,0,0]) [1,0,0,1,1,0,0]) [1,0]) [0,1,1,1,1,0,0]) [1,0]) [0,1,1,0] (Ak9 q d e j n s t a v w) (LL q d e j n s t a v w) (AiY q d e j n s t a v w):=by
 unfold AL;simp only[LL,Axe];kernel_rfl
def Is(q:Bool)(d e j n s:Int)(t:AxE)(a:AxC):Option (Bool×AxE) :=
 if(0:Int)<=(wI (d+s))/\(wI (d+s))<(a.length:Int) then
 if(0:Int)<=(wI ((wI (d+1))-s))/\(wI ((wI (d+1))-s))<(a.length:Int) then
 (LL q d e j n s t a (a.getD (wI (d+s)).toNat Aj.zero) (a.getD (wI ((wI (d+1))-s)).toNat Aj.zero)).bind λx =>
 bif x then
 if(0:Int)<=n/\n<((a.getD (wI ((wI (d+1))-s)).toNat Aj.zero).1.length:Int) then
 if(0:Int)<=((a.getD (wI ((wI (d+1))-s)).toNat Aj.zero).1.getD n.toNat Aa.zero).1/\((a.getD (wI ((wI (d+1))-s)).toNat Aj.zero).1.getD n.toNat Aa.zero).1<(t.length:Int) then
 if(0:Int)<=n/\n<((a.getD (wI ((wI (d+1))-s)).toNat Aj.zero).1.length:Int) then
 if(0:Int)<=((a.getD (wI ((wI (d+1))-s)).toNat Aj.zero).1.getD n.toNat Aa.zero).2.1/\((a.getD (wI ((wI (d+1))-s)).toNat Aj.zero).1.getD n.toNat Aa.zero).2.1<(t.getD ((a.getD (wI ((wI (d+1))-s)).toNat Aj.zero).1.getD n.toNat Aa.zero).1.toNat (Ty.zero (.sl .bool))).length then
 some (true,(t.set ((a.getD (wI ((wI (d+1))-s)).toNat Aj.zero).1.getD n.toNat Aa.zero).1.toNat ((t.getD ((a.getD (wI ((wI (d+1))-s)).toNat Aj.zero).1.getD n.toNat Aa.zero).1.toNat (Ty.zero (.sl .bool))).set ((a.getD (wI ((wI (d+1))-s)).toNat Aj.zero).1.getD n.toNat Aa.zero).2.1.toNat true)))
 else none
 else none
 else none
 else none
 else
 some (q,t)
 else none
 else none
theorem Anw(q:Bool)(d e j n s:Int)(t:AxE)(a:AxC):AL SE 1 32 (sub (sub (sub (sub (sub (code Tryz.f141) [1,1,1,1,1,1,0,0,0]) [1,0,1,1,0,0]) [1,0,0,1,1,0,0]) [1,0]) [0,1,1,1,1,0,0]) [1,0] (Ala q d e j n s t a) (Is q d e j n s t a) (AiZ q d e j n s t a):=by
 unfold AL;simp only[Is,Axe];simp(disch:=refine sI ?_<;>(repeat' refine sA ?_ ?_)<;>intro _<;>kernel_rfl) only[A6 (Anv _ _ _ _ _ _ _ _ _ _) (K:=CU 1 (SE.jn 32))]
 kernel_rfl
def Jh(d e j:Int)(a:AxC)(n:Int)(q:Bool)(s:Int)(t:AxE):Option ((Bool×Int×AxE)⊕(Bool×AxE)) :=
 bif decide (s<2) then
 (Is q d e j n s t a).bind λu =>
 some (.inl (u.1,(wI (s+1)),u.2))
 else
 some (.inr (q,t))
def D3(d e j:Int)(a:AxC)(n:Int)(z_:Bool×Int×AxE):=Jh d e j a n z_.1 z_.2.1 z_.2.2
def LM(d e j:Int)(a:AxC)(n:Int)(q:Bool)(s:Int)(t:AxE):=fix (D3 d e j a n) (q,s,t)
theorem Anx(d e j:Int)(a:AxC)(n:Int):AU SE 1 31 (sub (sub (sub (sub (code Tryz.f141) [1,1,1,1,1,1,0,0,0]) [1,0,1,1,0,0]) [1,0,0,1,1,0,0]) [1,0]) [0,1,1,1,1,0] (Alb d e j a n) (D3 d e j a n) (Ai0 d e j a n):=by
 intro _;simp only[D3,Jh,Axe];simp(disch:=refine sI ?_<;>(repeat' refine sA ?_ ?_)<;>intro _<;>kernel_rfl) only[A6 (Anw _ _ _ _ _ _ _ _) (K:=Be 1 (SE.hd 31) (SE.ot 31))]
 kernel_rfl
def Ak8(i:Bool)(d e j:Int)(k:AxE)(a:AxC)(b1:Int):St:=sT 159 [(2,.ref 0),(9,.ref 1),(13,dB i),(14,dI d),(15,dI e),(16,dI j),(17,dI b1)] [.row 104 .deep (.sl .bool) k,.row 126 .deep Aj a]
def AiX(i:Bool)(d e j:Int)(k:AxE)(a:AxC)(b1:Int):(Unit⊕Unit)->Ex×St:=Sum.elim (λc1=>((.exit 9),sT 159 [(2,.ref 0),(9,.ref 1),(13,dB i),(14,dI d),(15,dI e),(16,dI j),(17,dI b1)] [.row 104 .deep (.sl .bool) k,.row 126 .deep Aj a])) (λd1=>(.normal,sT 159 [(2,.ref 0),(9,.ref 1),(13,dB i),(14,dI d),(15,dI e),(16,dI j),(17,dI b1)] [.row 104 .deep (.sl .bool) k,.row 126 .deep Aj a]))
def LK(i:Bool)(d e j:Int)(k:AxE)(a:AxC)(b1:Int):Option (Unit⊕Unit) :=
 bif decide (b1<1) then
 some (.inl ())
 else
 bif decide (b1>=e) then
 some (.inl ())
 else
 some (.inr ())
theorem Anu(i:Bool)(d e j:Int)(k:AxE)(a:AxC)(b1:Int):AL SE 1 30 (sub (sub (sub (sub (code Tryz.f141) [1,1,1,1,1,1,0,0,0]) [1,0,1,1,0,0]) [1,0,0,1,1,0,0]) [1,0]) [0,1,1,0] (Ak8 i d e j k a b1) (LK i d e j k a b1) (AiX i d e j k a b1):=by
 unfold AL;simp only[LK,Axe];kernel_rfl
def vH(i:Bool)(d e j:Int)(k:AxE)(a:AxC):St:=sT 159 [(2,.ref 0),(9,.ref 1),(13,dB i),(14,dI d),(15,dI e),(16,dI j),(17,dI j)] [.row 104 .deep (.sl .bool) k,.row 126 .deep Aj a]
def uM(i:Bool)(d e j:Int)(k:AxE)(a:AxC)(m0:Int):Ex×St:=(.normal,sT 159 [(2,.ref 0),(9,.ref 1),(13,dB i),(14,dI d),(15,dI e),(16,dI j),(17,dI m0)] [.row 104 .deep (.sl .bool) k,.row 126 .deep Aj a])
theorem Ant(i:Bool)(d e j:Int)(k:AxE)(a:AxC):Mn SE 1 29 (sub (sub (sub (sub (code Tryz.f141) [1,1,1,1,1,1,0,0,0]) [1,0,1,1,0,0]) [1,0,0,1,1,0,0]) [1,0]) [0,1,0] (vH i d e j k a)=some (uM i d e j k a (bif decide (j>=e) then(wI ((wI (2*e))-j)) else j)):=by
 have h0:Mn SE 1 29 (sub (sub (sub (sub (code Tryz.f141) [1,1,1,1,1,1,0,0,0]) [1,0,1,1,0,0]) [1,0,0,1,1,0,0]) [1,0]) [0,1,0] (vH i d e j k a) =
 bif decide (j>=e) then
 some (uM i d e j k a (wI ((wI (2*e))-j)))
 else
 some (uM i d e j k a j):=by kernel_rfl
 rw[h0];cases h1:(decide (j>=e))
 ·first | rfl | kernel_rfl
 ·first | rfl | kernel_rfl
def Hs(i:Bool)(d e j:Int)(k:AxE)(a:AxC):Option (Bool×AxE) :=
 N8 (vH i d e j k a) (
 (LK i d e j k a (bif decide (j>=e) then(wI ((wI (2*e))-j)) else j)).bind (Sum.elim (λc1 =>
 some (i,k)) (λd1 =>
 (LM d e j a (bif decide (j>=e) then(wI ((wI (2*e))-j)) else j) i 0 k).bind λo =>
 some (o.1,o.2))))
theorem AgT(i:Bool)(d e j:Int)(k:AxE)(a:AxC):AL SE 1 25 (sub (sub (sub (code Tryz.f141) [1,1,1,1,1,1,0,0,0]) [1,0,1,1,0,0]) [1,0,0,1,1,0,0]) [1,0] (Af5 i d e j k a) (Hs i d e j k a) (Afi i d e j k a):=by
 unfold AL;simp only[Hs,Axe];simp(disch:=refine sI ?_<;>(repeat' refine sA ?_ ?_)<;>intro _<;>kernel_rfl) only[F7 (Ant _ _ _ _ _ _) (K:=CU 1 (SE.jn 25)),A6 (Anu _ _ _ _ _ _ _) (K:=CU 1 (SE.jn 25)),LM,Ax (Anx _ _ _ _ _) (K:=CU 1 (SE.jn 25))]
 kernel_rfl
def Ie(d:Int)(a:AxC)(e:Int)(i:Bool)(j:Int)(k:AxE):Option ((Bool×Int×AxE)⊕(Bool×AxE)) :=
 bif decide (j<(wI (2*e))) then
 (Hs i d e j k a).bind λl =>
 some (.inl (l.1,(wI (j+1)),l.2))
 else
 some (.inr (i,k))
def De(d:Int)(a:AxC)(e:Int)(z_:Bool×Int×AxE):=Ie d a e z_.1 z_.2.1 z_.2.2
def KG(d:Int)(a:AxC)(e:Int)(i:Bool)(j:Int)(k:AxE):=fix (De d a e) (i,j,k)
theorem AgU(d:Int)(a:AxC)(e:Int):AU SE 1 24 (sub (sub (code Tryz.f141) [1,1,1,1,1,1,0,0,0]) [1,0,1,1,0,0]) [1,0,0,1,1,0] (Af6 d a e) (De d a e) (Afj d a e):=by
 intro _;simp only[De,Ie,Axe];simp(disch:=refine sI ?_<;>(repeat' refine sA ?_ ?_)<;>intro _<;>kernel_rfl) only[A6 (AgT _ _ _ _ _ _) (K:=Be 1 (SE.hd 24) (SE.ot 24))]
 kernel_rfl
def Ig(a:AxC)(e1:Bool)(d:Int)(g1:AxE):Option ((Bool×Int×AxE)⊕(Bool×AxE)) :=
 bif decide (d<(a.length:Int)) then
 if(0:Int)<=d/\d<(a.length:Int) then
 (KG d a ((a.getD d.toNat Aj.zero).1.length:Int) e1 1 g1).bind λg =>
 some (.inl (g.1,(wI (d+2)),g.2))
 else none
 else
 some (.inr (e1,g1))
def Df(a:AxC)(z_:Bool×Int×AxE):=Ig a z_.1 z_.2.1 z_.2.2
def KH(a:AxC)(e1:Bool)(d:Int)(g1:AxE):=fix (Df a) (e1,d,g1)
theorem AgV(a:AxC):AU SE 1 20 (sub (code Tryz.f141) [1,1,1,1,1,1,0,0,0]) [1,0,1,1,0] (Af7 a) (Df a) (Afk a):=by
 intro _;simp only[Df,Ig,Axe];simp(disch:=refine sI ?_<;>(repeat' refine sA ?_ ?_)<;>intro _<;>kernel_rfl) only[KG,Ax (AgU _ _ _) (K:=Be 1 (SE.hd 20) (SE.ot 20))]
 kernel_rfl
def L4(a:AxC)(i1:Bool)(j1:AxE):Option ((Bool×AxE)⊕AxE) :=
 bif i1 then
 (KH a false 0 j1).bind λc =>
 some (.inl (c.1,c.2))
 else
 some (.inr j1)
def Ih(a:AxC)(z_:Bool×AxE):=L4 a z_.1 z_.2
def KI(a:AxC)(i1:Bool)(j1:AxE):=fix (Ih a) (i1,j1)
theorem AgW(a:AxC):AU SE 1 17 (code Tryz.f141) [1,1,1,1,1,1,0,0] (Af8 a) (Ih a) (Afl a):=by
 intro _;simp only[Ih,L4,Axe];simp(disch:=refine sI ?_<;>(repeat' refine sA ?_ ?_)<;>intro _<;>kernel_rfl) only[KH,Ax (AgV _) (K:=Be 1 (SE.hd 17) (SE.ot 17))]
 kernel_rfl
def Ak7(k1:AxG)(z_:Int×AxE×AxC):St:=sT 159 [(2,.ref 0),(7,.ref 1),(9,.ref 2),(10,dI z_.1)] [.row 104 .deep (.sl .bool) z_.2.1,.row 121 .deep (.sl Ad) k1,.row 126 .deep Aj z_.2.2]
def AiW(k1:AxG):(AxE×AxC)->Ex×St:=λl1=>((.exit 0),sT 159 [(2,.ref 0),(9,.ref 1)] [.row 104 .deep (.sl .bool) l1.1,.row 126 .deep Aj l1.2])
def Ak6(n1:Int)(k1:AxG)(o1:AxC)(z_:Int×AxE):St:=sT 159 [(2,.ref 0),(7,.ref 1),(9,.ref 2),(10,dI n1),(11,dI z_.1)] [.row 104 .deep (.sl .bool) z_.2,.row 121 .deep (.sl Ad) k1,.row 126 .deep Aj o1]
def AiV(n1:Int)(k1:AxG)(o1:AxC):AxE->Ex×St:=λq1=>((.exit 2),sT 159 [(2,.ref 0),(7,.ref 1),(9,.ref 2),(10,dI n1)] [.row 104 .deep (.sl .bool) q1,.row 121 .deep (.sl Ad) k1,.row 126 .deep Aj o1])
def Ak5(n1 s1:Int)(t1:AxE)(k1:AxG)(o1:AxC):St:=sT 159 [(2,.ref 0),(7,.ref 1),(9,.ref 2),(10,dI n1),(11,dI s1)] [.row 104 .deep (.sl .bool) t1,.row 121 .deep (.sl Ad) k1,.row 126 .deep Aj o1]
def AiU(n1 s1:Int)(t1:AxE)(k1:AxG)(o1:AxC):AxE->Ex×St:=λu1=>(.normal,sT 159 [(2,.ref 0),(7,.ref 1),(9,.ref 2),(10,dI n1),(11,dI s1)] [.row 104 .deep (.sl .bool) u1,.row 121 .deep (.sl Ad) k1,.row 126 .deep Aj o1])
def Ir(n1 s1:Int)(t1:AxE)(k1:AxG)(o1:AxC):Option AxE :=
 if(0:Int)<=n1/\n1<(k1.length:Int) then
 if(0:Int)<=s1/\s1<((k1.getD n1.toNat (Ty.zero (.sl Ad))).length:Int) then
 bif decide (((k1.getD n1.toNat (Ty.zero (.sl Ad))).getD s1.toNat Ad.zero).1>=0) then
 if(0:Int)<=((k1.getD n1.toNat (Ty.zero (.sl Ad))).getD s1.toNat Ad.zero).1/\((k1.getD n1.toNat (Ty.zero (.sl Ad))).getD s1.toNat Ad.zero).1<(t1.length:Int) then
 if(0:Int)<=((k1.getD n1.toNat (Ty.zero (.sl Ad))).getD s1.toNat Ad.zero).2.1/\((k1.getD n1.toNat (Ty.zero (.sl Ad))).getD s1.toNat Ad.zero).2.1<(t1.getD ((k1.getD n1.toNat (Ty.zero (.sl Ad))).getD s1.toNat Ad.zero).1.toNat (Ty.zero (.sl .bool))).length then
 if(0:Int)<=((k1.getD n1.toNat (Ty.zero (.sl Ad))).getD s1.toNat Ad.zero).1/\((k1.getD n1.toNat (Ty.zero (.sl Ad))).getD s1.toNat Ad.zero).1<((t1.set ((k1.getD n1.toNat (Ty.zero (.sl Ad))).getD s1.toNat Ad.zero).1.toNat ((t1.getD ((k1.getD n1.toNat (Ty.zero (.sl Ad))).getD s1.toNat Ad.zero).1.toNat (Ty.zero (.sl .bool))).set ((k1.getD n1.toNat (Ty.zero (.sl Ad))).getD s1.toNat Ad.zero).2.1.toNat true)).length:Int) then
 if(0:Int)<=(wI (((k1.getD n1.toNat (Ty.zero (.sl Ad))).getD s1.toNat Ad.zero).2.1+((k1.getD n1.toNat (Ty.zero (.sl Ad))).getD s1.toNat Ad.zero).2.2.1))/\(wI (((k1.getD n1.toNat (Ty.zero (.sl Ad))).getD s1.toNat Ad.zero).2.1+((k1.getD n1.toNat (Ty.zero (.sl Ad))).getD s1.toNat Ad.zero).2.2.1))<((t1.set ((k1.getD n1.toNat (Ty.zero (.sl Ad))).getD s1.toNat Ad.zero).1.toNat ((t1.getD ((k1.getD n1.toNat (Ty.zero (.sl Ad))).getD s1.toNat Ad.zero).1.toNat (Ty.zero (.sl .bool))).set ((k1.getD n1.toNat (Ty.zero (.sl Ad))).getD s1.toNat Ad.zero).2.1.toNat true)).getD ((k1.getD n1.toNat (Ty.zero (.sl Ad))).getD s1.toNat Ad.zero).1.toNat (Ty.zero (.sl .bool))).length then
 some ((t1.set ((k1.getD n1.toNat (Ty.zero (.sl Ad))).getD s1.toNat Ad.zero).1.toNat ((t1.getD ((k1.getD n1.toNat (Ty.zero (.sl Ad))).getD s1.toNat Ad.zero).1.toNat (Ty.zero (.sl .bool))).set ((k1.getD n1.toNat (Ty.zero (.sl Ad))).getD s1.toNat Ad.zero).2.1.toNat true)).set ((k1.getD n1.toNat (Ty.zero (.sl Ad))).getD s1.toNat Ad.zero).1.toNat (((t1.set ((k1.getD n1.toNat (Ty.zero (.sl Ad))).getD s1.toNat Ad.zero).1.toNat ((t1.getD ((k1.getD n1.toNat (Ty.zero (.sl Ad))).getD s1.toNat Ad.zero).1.toNat (Ty.zero (.sl .bool))).set ((k1.getD n1.toNat (Ty.zero (.sl Ad))).getD s1.toNat Ad.zero).2.1.toNat true)).getD ((k1.getD n1.toNat (Ty.zero (.sl Ad))).getD s1.toNat Ad.zero).1.toNat (Ty.zero (.sl .bool))).set (wI (((k1.getD n1.toNat (Ty.zero (.sl Ad))).getD s1.toNat Ad.zero).2.1+((k1.getD n1.toNat (Ty.zero (.sl Ad))).getD s1.toNat Ad.zero).2.2.1)).toNat true))
 else none
 else none
 else none
 else none
 else
 some t1
 else none
 else none
theorem Anq(n1 s1:Int)(t1:AxE)(k1:AxG)(o1:AxC):AL SE 1 10 (sub (sub (code Tryz.f141) [1,1,1,1,0,1,0,0]) [1,0,0,0,1,0,0]) [1,0] (Ak5 n1 s1 t1 k1 o1) (Ir n1 s1 t1 k1 o1) (AiU n1 s1 t1 k1 o1):=by
 unfold AL;simp only[Ir,Axe];kernel_rfl
def Jf(n1:Int)(k1:AxG)(o1:AxC)(s1:Int)(t1:AxE):Option ((Int×AxE)⊕AxE) :=
 if(0:Int)<=n1/\n1<(k1.length:Int) then
 bif decide (s1<((k1.getD n1.toNat (Ty.zero (.sl Ad))).length:Int)) then
 (Ir n1 s1 t1 k1 o1).bind λu1 =>
 some (.inl ((wI (s1+1)),u1))
 else
 some (.inr t1)
 else none
def D1(n1:Int)(k1:AxG)(o1:AxC)(z_:Int×AxE):=Jf n1 k1 o1 z_.1 z_.2
def LH(n1:Int)(k1:AxG)(o1:AxC)(s1:Int)(t1:AxE):=fix (D1 n1 k1 o1) (s1,t1)
theorem Anr(n1:Int)(k1:AxG)(o1:AxC):AU SE 1 9 (sub (code Tryz.f141) [1,1,1,1,0,1,0,0]) [1,0,0,0,1,0] (Ak6 n1 k1 o1) (D1 n1 k1 o1) (AiV n1 k1 o1):=by
 intro _;simp only[D1,Jf,Axe];simp(disch:=refine sI ?_<;>(repeat' refine sA ?_ ?_)<;>intro _<;>kernel_rfl) only[A6 (Anq _ _ _ _ _) (K:=Be 1 (SE.hd 9) (SE.ot 9))]
 kernel_rfl
def Jg(k1:AxG)(n1:Int)(v1:AxE)(o1:AxC):Option ((Int×AxE×AxC)⊕(AxE×AxC)) :=
 bif decide (n1<(k1.length:Int)) then
 (LH n1 k1 o1 0 v1).bind λq1 =>
 if(0:Int)<=n1/\n1<(k1.length:Int) then
 (Gq (k1.getD n1.toNat (Ty.zero (.sl Ad)))).bind λw1 =>
 if(o1.length+([(w1.1,w1.2,())]:AxC).length)*48<=140737488355328 then
 some (.inl ((wI (n1+1)),q1,(o1++([(w1.1,w1.2,())]:AxC))))
 else none
 else none
 else
 some (.inr (v1,o1))
def D2(k1:AxG)(z_:Int×AxE×AxC):=Jg k1 z_.1 z_.2.1 z_.2.2
def LJ(k1:AxG)(n1:Int)(v1:AxE)(o1:AxC):=fix (D2 k1) (n1,v1,o1)
theorem Ans(k1:AxG):AU SE 1 6 (code Tryz.f141) [1,1,1,1,0,1,0] (Ak7 k1) (D2 k1) (AiW k1):=by
 intro _;simp only[D2,Jg,Axe];simp(disch:=refine sI ?_<;>(repeat' refine sA ?_ ?_)<;>intro _<;>kernel_rfl) only[LH,Ax (Anr _ _ _) (K:=Be 1 (SE.hd 6) (SE.ot 6))]
 kernel_rfl
def M4(x1:Axw)(y1:AxA)(a2:AxE):Option (Bool×AxE) :=
 (KP x1 y1).bind λb2 =>
 bif !b2.1 then
 some (false,a2)
 else
 (LJ b2.2 0 a2 ([]:AxC)).bind λl1 =>
 (KI l1.2 true l1.1).bind λb =>
 some (true,b)
theorem U46(R:Type)(x1:Axw)(y1:AxA)(a2:AxE)(K:AV->List Blk->Option R):AH SE Tryz.f141 R [dD (.sl Ab) x1,dD (.sl Ag) y1,.ref 0] [.row 104 .deep (.sl .bool) a2] K=(M4 x1 y1 a2).bind λr=>K (dB r.1) [.row 104 .deep (.sl .bool) r.2]:=by
 simp only[M4,Axf];simp(disch:=refine sI ?_<;>(repeat' refine sA ?_ ?_)<;>intro _<;>kernel_rfl) only[LJ,Ax (Ans _) (K:=AP SE Tryz.f141 1 R K),KI,Ax (AgW _) (K:=AP SE Tryz.f141 1 R K)]
 kernel_rfl
def c141:Va.Callee:=BX [.d (.sl Ab),.d (.sl Ag),.raw] [⟨[.dat [] (.sl Ab),.dat [] (.sl Ag),.k (.ref 0)],[.row 104 .deep (.sl .bool)],(Bool×AxE),λp=>M4 p.1.1 p.1.2.1 p.2.1,λr=>(dB r.1,[.row 104 .deep (.sl .bool) r.2])⟩]
theorem wW:An Tryz.prog 141 c141:=Ap (fn:=Tryz.f141) (by kernel_rfl) (by kernel_rfl) (by kernel_rfl) ⟨⟨SE,⟨⟨Aw,Ao ⟨AcE,oq,ZT,xW,trivial⟩⟩,mixed⟩,λp R K=>U46 R p.1.1 p.1.2.1 p.2.1 K⟩,trivial⟩
abbrev E47:Env:=⟨tab,As [],{deep:=true,heads:=[(3,{live:=[0,2,3,4],pre:=[(3,true,.row [0] 72 (.sl (.int .i64)) true)]}),(7,{live:=[0,2,3,4,5,6],pre:=[(5,false,.row [] 2 (.int .i64) true)]})],outs:=[(3,{live:=[2,3]}),(7,{live:=[0,2,3,4,5]})],joins:=[(8,{live:=[0,2,3,4,5,6],pre:=[(5,false,.row [] 2 (.int .i64) true)]})],ents:=[(8,[0,2,3,4,5,6])]}⟩
def Ale(a:AxE)(z_:Int×AxD):St:=sT 43 [(0,dD (.sl (.sl .bool)) a),(2,.ptr 0 0 [] 0),(3,.ptr 1 0 [] 0),(4,dI z_.1)] [.box (.pr .zs .u),.box (.pr (.ref 2) .u),.row 72 .deep (.sl (.int .i64)) z_.2]
def Ai3(a:AxE):AxD->Ex×St:=λb=>((.exit 0),sT 43 [(2,.ptr 0 0 [] 0),(3,.ptr 1 0 [] 0)] [.box (.pr .zs .u),.box (.pr (.ref 2) .u),.row 72 .deep (.sl (.int .i64)) b])
def Ald(a:AxE)(c:Int)(d:AxD)(z_:Int×Axs):St:=sT 43 [(0,dD (.sl (.sl .bool)) a),(2,.ptr 0 0 [] 0),(3,.ptr 1 0 [] 0),(4,dI c),(5,.ref 2),(6,dI z_.1)] [.box (.pr .zs .u),.box (.pr (.ref 3) .u),.row 2 .deep (.int .i64) z_.2,.row 72 .deep (.sl (.int .i64)) d]
def Ai2(a:AxE)(c:Int)(d:AxD):Axs->Ex×St:=λe=>((.exit 2),sT 43 [(0,dD (.sl (.sl .bool)) a),(2,.ptr 0 0 [] 0),(3,.ptr 1 0 [] 0),(4,dI c),(5,.ref 2)] [.box (.pr .zs .u),.box (.pr (.ref 3) .u),.row 2 .deep (.int .i64) e,.row 72 .deep (.sl (.int .i64)) d])
def Alc(a:AxE)(c g:Int)(i:Axs)(d:AxD):St:=sT 43 [(0,dD (.sl (.sl .bool)) a),(2,.ptr 0 0 [] 0),(3,.ptr 1 0 [] 0),(4,dI c),(5,.ref 2),(6,dI g)] [.box (.pr .zs .u),.box (.pr (.ref 3) .u),.row 2 .deep (.int .i64) i,.row 72 .deep (.sl (.int .i64)) d]
def Ai1(a:AxE)(c g:Int)(i:Axs)(d:AxD):Axs->Ex×St:=λj=>(.normal,sT 43 [(0,dD (.sl (.sl .bool)) a),(2,.ptr 0 0 [] 0),(3,.ptr 1 0 [] 0),(4,dI c),(5,.ref 2),(6,dI g)] [.box (.pr .zs .u),.box (.pr (.ref 3) .u),.row 2 .deep (.int .i64) j,.row 72 .deep (.sl (.int .i64)) d])
def JV(a:AxE)(c g:Int)(i:Axs)(d:AxD):Option Axs :=
 if(0:Int)<=c/\c<(a.length:Int) then
 if(0:Int)<=g/\g<((a.getD c.toNat (Ty.zero (.sl .bool))).length:Int) then
 bif (a.getD c.toNat (Ty.zero (.sl .bool))).getD g.toNat (Ty.zero .bool) then
 if(i.length+([g]:Axs).length)*8<=140737488355328 then
 some (i++([g]:Axs))
 else none
 else
 some i
 else none
 else none
theorem Anz(a:AxE)(c g:Int)(i:Axs)(d:AxD):AL E47 0 8 (sub (sub (code Tryz.f142) [1,1,0,1,0,0]) [1,0,0,1,0,1,0,0]) [1,0] (Alc a c g i d) (JV a c g i d) (Ai1 a c g i d):=by
 unfold AL;simp only[JV,Axe];kernel_rfl
def KJ(a:AxE)(c:Int)(d:AxD)(g:Int)(i:Axs):Option ((Int×Axs)⊕Axs) :=
 if(0:Int)<=c/\c<(a.length:Int) then
 bif decide ((wI (g+1))<((a.getD c.toNat (Ty.zero (.sl .bool))).length:Int)) then
 (JV a c g i d).bind λj =>
 some (.inl ((wI (g+1)),j))
 else
 some (.inr i)
 else none
def EW(a:AxE)(c:Int)(d:AxD)(z_:Int×Axs):=KJ a c d z_.1 z_.2
def M5(a:AxE)(c:Int)(d:AxD)(g:Int)(i:Axs):=fix (EW a c d) (g,i)
theorem AnA(a:AxE)(c:Int)(d:AxD):AU E47 0 7 (sub (code Tryz.f142) [1,1,0,1,0,0]) [1,0,0,1,0,1,0] (Ald a c d) (EW a c d) (Ai2 a c d):=by
 intro _;simp only[EW,KJ,Axe];simp(disch:=refine sI ?_<;>(repeat' refine sA ?_ ?_)<;>intro _<;>kernel_rfl) only[A6 (Anz _ _ _ _ _) (K:=Be 0 (E47.hd 7) (E47.ot 7))]
 kernel_rfl
def KL(a:AxE)(c:Int)(d:AxD):Option ((Int×AxD)⊕AxD) :=
 bif decide (c<(a.length:Int)) then
 (M5 a c d 1 ([]:Axs)).bind λe =>
 if(d.length+([e]:AxD).length)*24<=140737488355328 then
 some (.inl ((wI (c+1)),(d++([e]:AxD))))
 else none
 else
 some (.inr d)
def EX(a:AxE)(z_:Int×AxD):=KL a z_.1 z_.2
def Pv(a:AxE)(c:Int)(d:AxD):=fix (EX a) (c,d)
theorem AnB(a:AxE):AU E47 0 3 (code Tryz.f142) [1,1,0,1,0] (Ale a) (EX a) (Ai3 a):=by
 intro _;simp only[EX,KL,Axe];simp(disch:=refine sI ?_<;>(repeat' refine sA ?_ ?_)<;>intro _<;>kernel_rfl) only[M5,Ax (AnA _ _ _) (K:=Be 0 (E47.hd 3) (E47.ot 3))]
 kernel_rfl
def Ml(a:AxE):Option AxD :=
 (Pv a 0 ([]:AxD)).bind λb =>
 some b
theorem U47(R:Type)(a:AxE)(K:AV->List Blk->Option R):AH E47 Tryz.f142 R [dD (.sl (.sl .bool)) a] [] K=(Ml a).bind λr=>K (.pr (.ref 0) .u) [.row 72 .deep (.sl (.int .i64)) r]:=by
 simp only[Ml,Axf];simp(disch:=refine sI ?_<;>(repeat' refine sA ?_ ?_)<;>intro _<;>kernel_rfl) only[Pv,Ax (AnB _) (K:=AP E47 Tryz.f142 0 R K)]
 kernel_rfl
def Apt:Va.Callee:=BX [.d (.sl (.sl .bool))] [⟨[.dat [] (.sl (.sl .bool))],[],AxD,λp=>Ml p.1.1,λr=>(.pr (.ref 0) .u,[.row 72 .deep (.sl (.int .i64)) r])⟩]
theorem wX:An Tryz.prog 142 Apt:=Ap (fn:=Tryz.f142) (by kernel_rfl) (by kernel_rfl) (by kernel_rfl) ⟨⟨E47,⟨⟨Aw,Ao trivial⟩,mixed⟩,λp R K=>U47 R p.1.1 K⟩,trivial⟩
end
end Go.Proofs.X
namespace Go.Proofs.X
open Go Go.Va
set_option maxRecDepth 100000
noncomputable section
abbrev E48:Env:=⟨tab,As [(51,c51),(70,c70),(75,c75),(141,c141),(142,Apt)],{deep:=true,joins:=[(2,{live:=[0,1,5,6,18]})],ents:=[(2,[0,1,5,6])],res:=[(0,.row [0] 72 (.sl (.int .i64)) true)]}⟩
def Alf(a:Axw)(b:AxA)(c:Axm):St:=sT 31 [(0,dD (.sl Ab) a),(1,dD (.sl Ag) b),(5,.ptr 0 0 [] 0),(6,.ptr 1 0 [] 0)] [.box (dD Ah c),.box (.pr .zs .u)]
def Ai4(a:Axw)(b:AxA)(c:Axm):Bool->Ex×St:=λd=>(.normal,sT 31 [(0,dD (.sl Ab) a),(1,dD (.sl Ag) b),(5,.ptr 0 0 [] 0),(6,.ptr 1 0 [] 0),(18,dB d)] [.box (dD Ah c),.box (.pr .zs .u)])
def I2(a:Axw)(b:AxA)(c:Axm):Option Bool :=
 (Gk a c).bind λe =>
 bif !e then
 some true
 else
 (Ee a b).bind λg =>
 some (!g)
theorem AnC(a:Axw)(b:AxA)(c:Axm):AL E48 0 2 (code Tryz.f71) [1,0,0] (Alf a b c) (I2 a b c) (Ai4 a b c):=by
 unfold AL;simp only[I2,Axe];kernel_rfl
def Fs(a:Axw)(b:AxA)(c:Axm):Option (Bool×AxD) :=
 (I2 a b c).bind λd =>
 bif d then
 some (false,([]:AxD))
 else
 (Ii a c).bind λi =>
 (M4 a b i).bind λj =>
 bif !j.1 then
 some (false,([]:AxD))
 else
 (Ml j.2).bind λk =>
 some (true,k)
theorem U48(R:Type)(a:Axw)(b:AxA)(c:Axm)(K:AV->List Blk->Option R):AH E48 Tryz.f71 R [dD (.sl Ab) a,dD (.sl Ag) b,dD Ah c] [] K=(Fs a b c).bind λr=>K (.cons (.pr (.ref 0) .u) (.cons (dB r.1) .nil)) [.row 72 .deep (.sl (.int .i64)) r.2]:=by
 simp only[Fs,Axf];simp(disch:=refine sI ?_<;>(repeat' refine sA ?_ ?_)<;>intro _<;>kernel_rfl) only[A6 (AnC _ _ _) (K:=AP E48 Tryz.f71 0 R K)]
 kernel_rfl
def c71:Va.Callee:=BX [.d (.sl Ab),.d (.sl Ag),.d Ah] [⟨[.dat [] (.sl Ab),.dat [] (.sl Ag),.dat [] Ah],[],(Bool×AxD),λp=>Fs p.1.1 p.1.2.1 p.1.2.2.1,λr=>(.cons (.pr (.ref 0) .u) (.cons (dB r.1) .nil),[.row 72 .deep (.sl (.int .i64)) r.2])⟩]
theorem AcK:An Tryz.prog 71 c71:=Ap (fn:=Tryz.f71) (by kernel_rfl) (by kernel_rfl) (by kernel_rfl) ⟨⟨E48,⟨⟨Aw,Ao ⟨om,V8,ou,wW,wX,trivial⟩⟩,mixed⟩,λp R K=>U48 R p.1.1 p.1.2.1 p.1.2.2.1 K⟩,trivial⟩
abbrev E49:Env:=⟨tab,As [(70,c70)],{deep:=true,heads:=[(5,{live:=[3,5,6]})],outs:=[(5,{live:=[5]})]}⟩
def Alg(a:Axm)(z_:Int×Int):St:=sT 29 [(3,.ptr 0 0 [] 0),(5,dI z_.1),(6,dI z_.2)] [.box (dD Ah a)]
def Ai5(a:Axm):Int->Ex×St:=λb=>((.exit 0),sT 29 [(5,dI b)] [])
def Ly(a:Axm)(c d:Int):Option ((Int×Int)⊕Int) :=
 bif decide (d<(a.1.length:Int)) then
 if(0:Int)<=d/\d<(a.1.length:Int) then
 some (.inl ((wI (c+((a.1.getD d.toNat (Ty.zero (.sl (.int .i64)))).length:Int))),(wI (d+1))))
 else none
 else
 some (.inr c)
def FV(a:Axm)(z_:Int×Int):=Ly a z_.1 z_.2
def NL(a:Axm)(c d:Int):=fix (FV a) (c,d)
theorem AnD(a:Axm):AU E49 0 5 (code Tryz.f72) [1,1,1,0,1,0] (Alg a) (FV a) (Ai5 a):=by
 intro _;simp only[FV,Ly,Axe];kernel_rfl
def L1(e:Axw)(a:Axm):Option Int :=
 (Gk e a).bind λg =>
 bif !g then
 some (-1)
 else
 (NL a (e.length:Int) 0).bind λb =>
 some b
theorem U49(R:Type)(e:Axw)(a:Axm)(K:AV->List Blk->Option R):AH E49 Tryz.f72 R [dD (.sl Ab) e,dD Ah a] [] K=(L1 e a).bind λr=>K (dI r) []:=by
 simp only[L1,Axf];simp(disch:=refine sI ?_<;>(repeat' refine sA ?_ ?_)<;>intro _<;>kernel_rfl) only[NL,Ax (AnD _) (K:=AP E49 Tryz.f72 0 R K)]
 kernel_rfl
def c72:Va.Callee:=BX [.d (.sl Ab),.d Ah] [⟨[.dat [] (.sl Ab),.dat [] Ah],[],Int,λp=>L1 p.1.1 p.1.2.1,λr=>(dI r,[])⟩]
theorem AcL:An Tryz.prog 72 c72:=Ap (fn:=Tryz.f72) (by kernel_rfl) (by kernel_rfl) (by kernel_rfl) ⟨⟨E49,⟨⟨Aw,Ao ⟨V8,trivial⟩⟩,mixed⟩,λp R K=>U49 R p.1.1 p.1.2.1 K⟩,trivial⟩
abbrev E50:Env:=⟨tab,As [(70,c70)],{deep:=true,heads:=[(5,{live:=[0,3,5,6],pre:=[(5,false,.row [] 157 Af true)]}),(9,{live:=[0,3,5,6,7,8],pre:=[(5,false,.row [] 157 Af true)]})],outs:=[(5,{live:=[5]}),(9,{live:=[0,3,5,6]})],joins:=[(14,{live:=[0,3,5,6,7,8,9]})],ents:=[(14,[0,3,5,6,7,8,9])],res:=[(0,.row [] 157 Af true)]}⟩
def Alj(a:Axw)(b:Axm)(z_:Int×Axz):St:=sT 64 [(0,dD (.sl Ab) a),(3,.ptr 0 0 [] 0),(5,.ref 1),(6,dI z_.1)] [.box (dD Ah b),.row 157 .deep Af z_.2]
def Ai8(a:Axw)(b:Axm):Axz->Ex×St:=λc=>((.exit 0),sT 64 [(5,.ref 0)] [.row 157 .deep Af c])
def Ali(a:Axw)(d:Int)(b:Axm)(z_:Int×Int×Axz):St:=sT 64 [(0,dD (.sl Ab) a),(3,.ptr 0 0 [] 0),(5,.ref 1),(6,dI d),(7,dI z_.1),(8,dI z_.2.1)] [.box (dD Ah b),.row 157 .deep Af z_.2.2]
def Ai7(a:Axw)(d:Int)(b:Axm):Axz->Ex×St:=λe=>((.exit 2),sT 64 [(0,dD (.sl Ab) a),(3,.ptr 0 0 [] 0),(5,.ref 1),(6,dI d)] [.box (dD Ah b),.row 157 .deep Af e])
def Alh(a:Axw)(d g i:Int)(b:Axm)(j:Axz)(k:Int):St:=sT 64 [(0,dD (.sl Ab) a),(3,.ptr 0 0 [] 0),(5,.ref 1),(6,dI d),(7,dI g),(8,dI i),(9,dI k)] [.box (dD Ah b),.row 157 .deep Af j]
def Ai6(a:Axw)(d g i:Int)(b:Axm)(j:Axz)(k:Int):Int->Ex×St:=λl=>(.normal,sT 64 [(0,dD (.sl Ab) a),(3,.ptr 0 0 [] 0),(5,.ref 1),(6,dI d),(7,dI g),(8,dI i),(9,dI l)] [.box (dD Ah b),.row 157 .deep Af j])
def Hl(a:Axw)(d g i:Int)(b:Axm)(j:Axz)(k:Int):Option Int :=
 if(0:Int)<=d/\d<(b.1.length:Int) then
 bif decide (i<((b.1.getD d.toNat (Ty.zero (.sl (.int .i64)))).length:Int)) then
 if(0:Int)<=d/\d<(b.1.length:Int) then
 if(0:Int)<=i/\i<((b.1.getD d.toNat (Ty.zero (.sl (.int .i64)))).length:Int) then
 some ((b.1.getD d.toNat (Ty.zero (.sl (.int .i64)))).getD i.toNat (Ty.zero (.int .i64)))
 else none
 else none
 else
 some k
 else none
theorem AnE(a:Axw)(d g i:Int)(b:Axm)(j:Axz)(k:Int):AL E50 0 14 (sub (sub (code Tryz.f77) [1,1,1,0,1,0,0]) [1,0,0,1,1,0,0]) [1,0,0,1,0] (Alh a d g i b j k) (Hl a d g i b j k) (Ai6 a d g i b j k):=by
 unfold AL;simp only[Hl,Axe];kernel_rfl
def H8(a:Axw)(d:Int)(b:Axm)(g i:Int)(j:Axz):Option ((Int×Int×Axz)⊕Axz) :=
 if(0:Int)<=d/\d<(b.1.length:Int) then
 bif decide (i<=((b.1.getD d.toNat (Ty.zero (.sl (.int .i64)))).length:Int)) then
 if(0:Int)<=d/\d<(a.length:Int) then
 (Hl a d g i b j (a.getD d.toNat Ab.zero).2.1).bind λl =>
 if(j.length+([(d,g,(wI (l-g)),())]:Axz).length)*24<=140737488355328 then
 some (.inl (l,(wI (i+1)),(j++([(d,g,(wI (l-g)),())]:Axz))))
 else none
 else none
 else
 some (.inr j)
 else none
def Db(a:Axw)(d:Int)(b:Axm)(z_:Int×Int×Axz):=H8 a d b z_.1 z_.2.1 z_.2.2
def Kq(a:Axw)(d:Int)(b:Axm)(g i:Int)(j:Axz):=fix (Db a d b) (g,i,j)
theorem AnF(a:Axw)(d:Int)(b:Axm):AU E50 0 9 (sub (code Tryz.f77) [1,1,1,0,1,0,0]) [1,0,0,1,1,0] (Ali a d b) (Db a d b) (Ai7 a d b):=by
 intro _;simp only[Db,H8,Axe];simp(disch:=refine sI ?_<;>(repeat' refine sA ?_ ?_)<;>intro _<;>kernel_rfl) only[A6 (AnE _ _ _ _ _ _ _) (K:=Be 0 (E50.hd 9) (E50.ot 9))]
 kernel_rfl
def H9(a:Axw)(b:Axm)(d:Int)(n:Axz):Option ((Int×Axz)⊕Axz) :=
 bif decide (d<(a.length:Int)) then
 (Kq a d b 0 0 n).bind λe =>
 some (.inl ((wI (d+1)),e))
 else
 some (.inr n)
def Dc(a:Axw)(b:Axm)(z_:Int×Axz):=H9 a b z_.1 z_.2
def Kr(a:Axw)(b:Axm)(d:Int)(n:Axz):=fix (Dc a b) (d,n)
theorem AnG(a:Axw)(b:Axm):AU E50 0 5 (code Tryz.f77) [1,1,1,0,1,0] (Alj a b) (Dc a b) (Ai8 a b):=by
 intro _;simp only[Dc,H9,Axe];simp(disch:=refine sI ?_<;>(repeat' refine sA ?_ ?_)<;>intro _<;>kernel_rfl) only[Kq,Ax (AnF _ _ _) (K:=Be 0 (E50.hd 5) (E50.ot 5))]
 kernel_rfl
def GF(a:Axw)(b:Axm):Option Axz :=
 (Gk a b).bind λo =>
 bif !o then
 some ([]:Axz)
 else
 (Kr a b 0 ([]:Axz)).bind λc =>
 some c
theorem U50(R:Type)(a:Axw)(b:Axm)(K:AV->List Blk->Option R):AH E50 Tryz.f77 R [dD (.sl Ab) a,dD Ah b] [] K=(GF a b).bind λr=>K (.ref 0) [.row 157 .deep Af r]:=by
 simp only[GF,Axf];simp(disch:=refine sI ?_<;>(repeat' refine sA ?_ ?_)<;>intro _<;>kernel_rfl) only[Kr,Ax (AnG _ _) (K:=AP E50 Tryz.f77 0 R K)]
 kernel_rfl
def c77:Va.Callee:=BX [.d (.sl Ab),.d Ah] [⟨[.dat [] (.sl Ab),.dat [] Ah],[],Axz,λp=>GF p.1.1 p.1.2.1,λr=>(.ref 0,[.row 157 .deep Af r])⟩]
theorem ow:An Tryz.prog 77 c77:=Ap (fn:=Tryz.f77) (by kernel_rfl) (by kernel_rfl) (by kernel_rfl) ⟨⟨E50,⟨⟨Aw,Ao ⟨V8,trivial⟩⟩,mixed⟩,λp R K=>U50 R p.1.1 p.1.2.1 K⟩,trivial⟩
abbrev E51:Env:=⟨tab,As [(77,c77)],{deep:=true,nest:=[(53,2)],heads:=[(3,{live:=[0,3,5,6],pre:=[(5,false,.row [] 72 (.sl (.int .i64)) true)]}),(7,{live:=[0,3,5,6,7,8]}),(13,{live:=[5,9,10],Ow:=[(9,false,(.sl Af))]})],outs:=[(3,{live:=[0,3,5]}),(7,{live:=[0,3,5,6,7]}),(13,{live:=[5]})]}⟩
def Aln(a:Axz)(z_:Int×AxD):St:=sT 62 [(5,.ref 0),(9,dD (.sl Af) a),(10,dI z_.1)] [.row 72 .deep (.sl (.int .i64)) z_.2]
def Ajb(a:Axz):AxD->Ex×St:=λb=>((.exit 4),sT 62 [(5,.ref 0)] [.row 72 .deep (.sl (.int .i64)) b])
def Jm(a:Axz)(c:Int)(d:AxD):Option ((Int×AxD)⊕AxD) :=
 bif decide (c<(a.length:Int)) then
 if(0:Int)<=c/\c<(a.length:Int) then
 if(0:Int)<=(a.getD c.toNat Af.zero).1/\(a.getD c.toNat Af.zero).1<(d.length:Int) then
 if(0:Int)<=c/\c<(a.length:Int) then
 if(0:Int)<=(a.getD c.toNat Af.zero).2.1/\(a.getD c.toNat Af.zero).2.1<(d.getD (a.getD c.toNat Af.zero).1.toNat (Ty.zero (.sl (.int .i64)))).length then
 some (.inl ((wI (c+1)),(d.set (a.getD c.toNat Af.zero).1.toNat ((d.getD (a.getD c.toNat Af.zero).1.toNat (Ty.zero (.sl (.int .i64)))).set (a.getD c.toNat Af.zero).2.1.toNat c))))
 else none
 else none
 else none
 else none
 else
 some (.inr d)
def D8(a:Axz)(z_:Int×AxD):=Jm a z_.1 z_.2
def LQ(a:Axz)(c:Int)(d:AxD):=fix (D8 a) (c,d)
theorem AnJ(a:Axz):AU E51 0 13 (code Tryz.f76) [1,1,1,1,0,1,0] (Aln a) (D8 a) (Ajb a):=by
 intro _;simp only[D8,Jm,Axe];kernel_rfl
def Alm(e:Axw)(g:Axm)(z_:Int×AxD):St:=sT 62 [(0,dD (.sl Ab) e),(3,.ptr 0 0 [] 0),(5,.ref 1),(6,dI z_.1)] [.box (dD Ah g),.row 72 .deep (.sl (.int .i64)) z_.2]
def Aja(e:Axw)(g:Axm):AxD->Ex×St:=λi=>((.exit 0),sT 62 [(0,dD (.sl Ab) e),(3,.ptr 0 0 [] 0),(5,.ref 1)] [.box (dD Ah g),.row 72 .deep (.sl (.int .i64)) i])
def Alk(e:Axw)(j:Int)(g:Axm)(k:AxD)(z_:Int×Axs):St:=sT 62 [(0,dD (.sl Ab) e),(3,.ptr 0 0 [] 0),(5,.ref 1),(6,dI j),(7,.ref 2),(8,dI z_.1)] [.box (dD Ah g),.row 72 .deep (.sl (.int .i64)) k,.row 2 .deep (.int .i64) z_.2]
def Ai9(e:Axw)(j:Int)(g:Axm)(k:AxD):Axs->Ex×St:=λl=>((.exit 2),sT 62 [(0,dD (.sl Ab) e),(3,.ptr 0 0 [] 0),(5,.ref 1),(6,dI j),(7,.ref 2)] [.box (dD Ah g),.row 72 .deep (.sl (.int .i64)) k,.row 2 .deep (.int .i64) l])
def Jk(e:Axw)(j:Int)(g:Axm)(k:AxD)(n:Int)(o:Axs):Option ((Int×Axs)⊕Axs) :=
 bif decide (n<(o.length:Int)) then
 if(0:Int)<=n/\n<(o.length:Int) then
 some (.inl ((wI (n+1)),(o.set n.toNat (-1))))
 else none
 else
 some (.inr o)
def D6(e:Axw)(j:Int)(g:Axm)(k:AxD)(z_:Int×Axs):=Jk e j g k z_.1 z_.2
def LO(e:Axw)(j:Int)(g:Axm)(k:AxD)(n:Int)(o:Axs):=fix (D6 e j g k) (n,o)
theorem AnH(e:Axw)(j:Int)(g:Axm)(k:AxD):AU E51 0 7 (sub (code Tryz.f76) [1,1,0,1,0,0]) [1,0,0,1,0,1,0] (Alk e j g k) (D6 e j g k) (Ai9 e j g k):=by
 intro _;simp only[D6,Jk,Axe];kernel_rfl
def Jl(e:Axw)(g:Axm)(j:Int)(k:AxD):Option ((Int×AxD)⊕AxD) :=
 bif decide (j<(e.length:Int)) then
 if(0:Int)<=j/\j<(e.length:Int) then
 if Ty.row (.int .i64)=true/\(0:Int)<=(e.getD j.toNat Ab.zero).2.1/\(e.getD j.toNat Ab.zero).2.1<=(e.getD j.toNat Ab.zero).2.1/\((8:Nat):Int)*(e.getD j.toNat Ab.zero).2.1<=(281474976710656:Int)/\(e.getD j.toNat Ab.zero).2.1<=(9223372036854775807:Int) then
 (LO e j g k 0 (List.replicate (e.getD j.toNat Ab.zero).2.1.toNat 0)).bind λl =>
 if(k.length+([l]:AxD).length)*24<=140737488355328 then
 some (.inl ((wI (j+1)),(k++([l]:AxD))))
 else none
 else none
 else none
 else
 some (.inr k)
def D7(e:Axw)(g:Axm)(z_:Int×AxD):=Jl e g z_.1 z_.2
def LP(e:Axw)(g:Axm)(j:Int)(k:AxD):=fix (D7 e g) (j,k)
theorem AnI(e:Axw)(g:Axm):AU E51 0 3 (code Tryz.f76) [1,1,0,1,0] (Alm e g) (D7 e g) (Aja e g):=by
 intro _;simp only[D7,Jl,Axe];simp(disch:=refine sI ?_<;>(repeat' refine sA ?_ ?_)<;>intro _<;>kernel_rfl) only[LO,Ax (AnH _ _ _ _) (K:=Be 0 (E51.hd 3) (E51.ot 3))]
 kernel_rfl
def KM(e:Axw)(g:Axm):Option AxD :=
 (LP e g 0 ([]:AxD)).bind λi =>
 (GF e g).bind λa =>
 (LQ a 0 i).bind λb =>
 some b
theorem U51(R:Type)(e:Axw)(g:Axm)(K:AV->List Blk->Option R):AH E51 Tryz.f76 R [dD (.sl Ab) e,dD Ah g] [] K=(KM e g).bind λr=>K (.ref 0) [.row 72 .deep (.sl (.int .i64)) r]:=by
 simp only[KM,Axf];simp(disch:=refine sI ?_<;>(repeat' refine sA ?_ ?_)<;>intro _<;>kernel_rfl) only[LP,Ax (AnI _ _) (K:=AP E51 Tryz.f76 0 R K),LQ,Ax (AnJ _) (K:=AP E51 Tryz.f76 0 R K)]
 kernel_rfl
def c76:Va.Callee:=BX [.d (.sl Ab),.d Ah] [⟨[.dat [] (.sl Ab),.dat [] Ah],[],AxD,λp=>KM p.1.1 p.1.2.1,λr=>(.ref 0,[.row 72 .deep (.sl (.int .i64)) r])⟩]
theorem AcM:An Tryz.prog 76 c76:=Ap (fn:=Tryz.f76) (by kernel_rfl) (by kernel_rfl) (by kernel_rfl) ⟨⟨E51,⟨⟨Aw,Ao ⟨ow,trivial⟩⟩,mixed⟩,λp R K=>U51 R p.1.1 p.1.2.1 K⟩,trivial⟩
abbrev E52:Env:=⟨tab,As [(111,Ag2)],{deep:=true,heads:=[(4,{live:=[4,5,10,12,13],pre:=[(12,false,.row [] 5 (.int .u8) true)]}),(15,{live:=[4,5,10,16,17]})],outs:=[(4,{live:=[10,11,12],Ow:=[(12,false,(.sl (.int .u8)))]}),(15,{live:=[10,11,16]})],joins:=[(13,{live:=[3,4,5,10,16,86]})],ents:=[(13,[2,3,4,5,10,16])],res:=[(0,.row [1,1] 216 (.int .u64) true)]}⟩
def Alq(a:Int)(b:Axo)(c z_:Int):St:=sT 103 [(4,dI a),(5,.ptr 0 0 [] 0),(10,.ptr 1 0 [] 0),(16,dI c),(17,dI z_)] [.box (dD Aj b),.box (.pr (dI 0) (.pr (.pr (dI 0) (.pr .zs .u)) .u))]
def Aje(a:Int)(b:Axo)(c:Int):(Unit⊕Unit)->Ex×St:=Sum.elim (λd=>(.ret,sT 103 [(10,.ptr 0 0 [] 0),(11,dB false),(16,dI c)] [.box (.pr (dI 0) (.pr (.pr (dI 0) (.pr .zs .u)) .u))])) (λe=>((.exit 2),sT 103 [(10,.ptr 0 0 [] 0),(16,dI c)] [.box (.pr (dI 0) (.pr (.pr (dI 0) (.pr .zs .u)) .u))]))
def KF(a:Int)(b:Axo)(c g:Int):Option (Int⊕(Unit⊕Unit)) :=
 bif decide (g<a) then
 if(0:Int)<=g/\g<(b.2.1.length:Int) then
 bif b.2.1.getD g.toNat (Ty.zero .bool) then
 some (.inr (.inl ()))
 else
 some (.inl (wI (g+1)))
 else none
 else
 some (.inr (.inr ()))
def EV(a:Int)(b:Axo)(c z_:Int):=KF a b c z_
def M3(a:Int)(b:Axo)(c g:Int):=fix (EV a b c) g
theorem AnM(a:Int)(b:Axo)(c:Int):AU E52 0 15 (code Tryz.f79) [1,1,1,1,0,1,0] (Alq a b c) (EV a b c) (Aje a b c):=by
 intro _;simp only[EV,KF,Axe];kernel_rfl
def Alp(i:Axz)(j a:Int)(b:Axo)(k:Int):St:=sT 103 [(2,dD (.sl Af) i),(3,dI j),(4,dI a),(5,.ptr 0 0 [] 0),(10,.ptr 1 0 [] 0),(16,dI k)] [.box (dD Aj b),.box (.pr (dI 0) (.pr (.pr (dI 0) (.pr .zs .u)) .u))]
def Ajd(i:Axz)(j a:Int)(b:Axo)(k:Int):Bool->Ex×St:=λl=>(.normal,sT 103 [(3,dI j),(4,dI a),(5,.ptr 0 0 [] 0),(10,.ptr 1 0 [] 0),(16,dI k),(86,dB l)] [.box (dD Aj b),.box (.pr (dI 0) (.pr (.pr (dI 0) (.pr .zs .u)) .u))])
def JU(i:Axz)(j a:Int)(b:Axo)(k:Int):Option Bool :=
 bif decide (k<0) then
 some true
 else
 if(0:Int)<=k/\k<(i.length:Int) then
 some ((i.getD k.toNat Af.zero).2.2.1 !=(wI (a-j)))
 else none
theorem AnL(i:Axz)(j a:Int)(b:Axo)(k:Int):AL E52 0 13 (code Tryz.f79) [1,1,1,0,0] (Alp i j a b k) (JU i j a b k) (Ajd i j a b k):=by
 unfold AL;simp only[JU,Axe];kernel_rfl
def Alo(a:Int)(b:Axo)(z_:Int×Axs):St:=sT 103 [(4,dI a),(5,.ptr 0 0 [] 0),(10,.ptr 1 0 [] 0),(12,.ref 2),(13,dI z_.1)] [.box (dD Aj b),.box (.pr (dI 0) (.pr (.pr (dI 0) (.pr .zs .u)) .u)),.row 5 .deep (.int .u8) z_.2]
def Ajc(a:Int)(b:Axo):(Axs⊕Axs)->Ex×St:=Sum.elim (λn=>(.ret,sT 103 [(10,.ptr 0 0 [] 0),(11,dB false),(12,dD (.sl (.int .u8)) n)] [.box (.pr (dI 0) (.pr (.pr (dI 0) (.pr .zs .u)) .u))])) (λo=>((.exit 0),sT 103 [(10,.ptr 0 0 [] 0),(12,dD (.sl (.int .u8)) o)] [.box (.pr (dI 0) (.pr (.pr (dI 0) (.pr .zs .u)) .u))]))
def KE(a:Int)(b:Axo)(q:Int)(s:Axs):Option ((Int×Axs)⊕(Axs⊕Axs)) :=
 bif decide (q<a) then
 if(0:Int)<=q/\q<(b.1.length:Int) then
 bif decide ((b.1.getD q.toNat Aa.zero).1>=0) then
 some (.inr (.inl s))
 else
 if(0:Int)<=q/\q<(b.1.length:Int) then
 if(s.length+([(IntKind.u8.wrap (b.1.getD q.toNat Aa.zero).2.1)]:Axs).length)*1<=140737488355328 then
 some (.inl ((wI (q+1)),(s++([(IntKind.u8.wrap (b.1.getD q.toNat Aa.zero).2.1)]:Axs))))
 else none
 else none
 else none
 else
 some (.inr (.inr s))
def EU(a:Int)(b:Axo)(z_:Int×Axs):=KE a b z_.1 z_.2
def M1(a:Int)(b:Axo)(q:Int)(s:Axs):=fix (EU a b) (q,s)
theorem AnK(a:Int)(b:Axo):AU E52 0 4 (code Tryz.f79) [1,0,1,0,1,0,1,0] (Alo a b) (EU a b) (Ajc a b):=by
 intro _;simp only[EU,KE,Axe];kernel_rfl
def JS(b:Axo)(t:AxD)(i:Axz)(j a:Int):Option (Int×Int×Bool×Axs) :=
 if(0:Int)<=j/\j<(b.1.length:Int) then
 bif decide ((b.1.getD j.toNat Aa.zero).1<0) then
 (M1 a b j ([]:Axs)).bind (Sum.elim (λn =>
 some (0,0,false,([]:Axs))) (λo =>
 (JM o).bind λu =>
 some ((-1),u.1,true,u.2.2)))
 else
 if(0:Int)<=j/\j<(b.1.length:Int) then
 if(0:Int)<=(b.1.getD j.toNat Aa.zero).1/\(b.1.getD j.toNat Aa.zero).1<(t.length:Int) then
 if(0:Int)<=j/\j<(b.1.length:Int) then
 if(0:Int)<=(b.1.getD j.toNat Aa.zero).2.1/\(b.1.getD j.toNat Aa.zero).2.1<((t.getD (b.1.getD j.toNat Aa.zero).1.toNat (Ty.zero (.sl (.int .i64)))).length:Int) then
 (JU i j a b ((t.getD (b.1.getD j.toNat Aa.zero).1.toNat (Ty.zero (.sl (.int .i64)))).getD (b.1.getD j.toNat Aa.zero).2.1.toNat (Ty.zero (.int .i64)))).bind λl =>
 bif l then
 some (0,0,false,([]:Axs))
 else
 (M3 a b ((t.getD (b.1.getD j.toNat Aa.zero).1.toNat (Ty.zero (.sl (.int .i64)))).getD (b.1.getD j.toNat Aa.zero).2.1.toNat (Ty.zero (.int .i64))) (wI (j+1))).bind (Sum.elim (λd =>
 some (0,0,false,([]:Axs))) (λe =>
 some (((t.getD (b.1.getD j.toNat Aa.zero).1.toNat (Ty.zero (.sl (.int .i64)))).getD (b.1.getD j.toNat Aa.zero).2.1.toNat (Ty.zero (.int .i64))),0,true,([]:Axs))))
 else none
 else none
 else none
 else none
 else none
theorem U52(R:Type)(b:Axo)(t:AxD)(i:Axz)(j a:Int)(K:AV->List Blk->Option R):AH E52 Tryz.f79 R [dD Aj b,dD (.sl (.sl (.int .i64))) t,dD (.sl Af) i,dI j,dI a] [] K=(JS b t i j a).bind λr=>K (.cons (.pr (dI r.1) (.pr (.pr (dI r.2.1) (.pr (.ref 0) .u)) .u)) (.cons (dB r.2.2.1) .nil)) [.row 216 .deep (.int .u64) r.2.2.2]:=by
 simp only[JS,Axf];simp(disch:=refine sI ?_<;>(repeat' refine sA ?_ ?_)<;>intro _<;>kernel_rfl) only[M1,Ax (AnK _ _) (K:=AP E52 Tryz.f79 0 R K),A6 (AnL _ _ _ _ _) (K:=AP E52 Tryz.f79 0 R K),M3,Ax (AnM _ _ _) (K:=AP E52 Tryz.f79 0 R K)]
 kernel_rfl
def c79:Va.Callee:=BX [.d Aj,.d (.sl (.sl (.int .i64))),.d (.sl Af),.d (.int .i64),.d (.int .i64)] [⟨[.dat [] Aj,.dat [] (.sl (.sl (.int .i64))),.dat [] (.sl Af),.dat [] (.int .i64),.dat [] (.int .i64)],[],(Int×Int×Bool×Axs),λp=>JS p.1.1 p.1.2.1 p.1.2.2.1 p.1.2.2.2.1 p.1.2.2.2.2.1,λr=>(.cons (.pr (dI r.1) (.pr (.pr (dI r.2.1) (.pr (.ref 0) .u)) .u)) (.cons (dB r.2.2.1) .nil),[.row 216 .deep (.int .u64) r.2.2.2])⟩]
theorem AcN:An Tryz.prog 79 c79:=Ap (fn:=Tryz.f79) (by kernel_rfl) (by kernel_rfl) (by kernel_rfl) ⟨⟨E52,⟨⟨Aw,Ao ⟨eO,trivial⟩⟩,mixed⟩,λp R K=>U52 R p.1.1 p.1.2.1 p.1.2.2.1 p.1.2.2.2.1 p.1.2.2.2.2.1 K⟩,trivial⟩
abbrev jQ:Env:=⟨tab,As [(51,c51),(70,c70),(71,c71),(72,c72),(73,c73),(74,c74),(75,c75),(76,c76),(77,c77),(78,c78),(79,c79)],{heads:=[(17,{live:=[8,15,16,17,18,19,20,21,22],Ow:=[(17,false,(.sl (.sl .bool))),(18,false,(.sl (.sl (.int .i64)))),(19,false,(.sl Af))],pre:=[(20,false,.row [] 139 Ai false)]})],outs:=[(17,{live:=[6,7,20]})],joins:=[(3,{live:=[0,4,5,8,38]}),(6,{live:=[0,4,5,8,58]}),(18,{live:=[6,7,8,15,16,17,18,19,20,21,22],pre:=[(20,false,.row [] 139 Ai false)]}),(20,{live:=[8,15,16,17,18,19,20,21,22]}),(23,{live:=[8,15,16,17,18,19,20,21,22,23,25,137]})],ents:=[(3,[0,4,5,8]),(6,[0,4,5,8,9,10]),(18,[8,15,16,17,18,19,20,21,22]),(20,[8,15,16,17,18,19,20,21,22]),(23,[8,15,16,17,18,19,20,21,22,23,24,25,26])],gK:=[(35,(.sl Ag)),(43,(.sl Ag))],res:=[(0,.row [] 139 Ai false)]}⟩
def Af9(a:AxE)(b:AxD)(c:Axz)(d:Axv)(e:Axt)(g:Axv)(i:Axt)(z_:Int×Int×AxB):St:=sT 150 [(8,.zs),(15,.ptr 0 0 [] 0),(16,.ptr 1 0 [] 0),(17,dD (.sl (.sl .bool)) a),(18,dD (.sl (.sl (.int .i64))) b),(19,dD (.sl Af) c),(20,.ref 2),(21,dI z_.1),(22,dI z_.2.1)] [.box (.pr (.ref 3) (.pr (.ref 4) .u)),.box (.pr (.ref 5) (.pr (.ref 6) .u)),.row 139 (.sh []) Ai z_.2.2,.row 199 .deep Aa d,.row 4 .deep .bool e,.row 199 .deep Aa g,.row 4 .deep .bool i]
def Afm(a:AxE)(b:AxD)(c:Axz)(d:Axv)(e:Axt)(g:Axv)(i:Axt):(AxB⊕AxB)->Ex×St:=Sum.elim (λj=>(.ret,sT 150 [(6,.zs),(7,dB false),(20,.ref 0)] [.row 139 (.sh []) Ai j])) (λk=>((.exit 0),sT 150 [(20,.ref 0)] [.row 139 (.sh []) Ai k]))
def Alv(a:AxE)(b:AxD)(c:Axz)(l n:Int)(o:AxB)(d:Axv)(e:Axt)(g:Axv)(i:Axt):St:=sT 150 [(8,.zs),(15,.ptr 0 0 [] 0),(16,.ptr 1 0 [] 0),(17,dD (.sl (.sl .bool)) a),(18,dD (.sl (.sl (.int .i64))) b),(19,dD (.sl Af) c),(20,.ref 2),(21,dI l),(22,dI n)] [.box (.pr (.ref 3) (.pr (.ref 4) .u)),.box (.pr (.ref 5) (.pr (.ref 6) .u)),.row 139 (.sh []) Ai o,.row 199 .deep Aa d,.row 4 .deep .bool e,.row 199 .deep Aa g,.row 4 .deep .bool i]
def Aji(a:AxE)(b:AxD)(c:Axz)(l n:Int)(o:AxB)(d:Axv)(e:Axt)(g:Axv)(i:Axt):((Int×AxB)⊕Unit)->Ex×St:=Sum.elim (λq=>(.normal,sT 150 [(8,.zs),(15,.ptr 0 0 [] 0),(16,.ptr 1 0 [] 0),(17,dD (.sl (.sl .bool)) a),(18,dD (.sl (.sl (.int .i64))) b),(19,dD (.sl Af) c),(20,.ref 2),(21,dI q.1),(22,dI n)] [.box (.pr (.ref 3) (.pr (.ref 4) .u)),.box (.pr (.ref 5) (.pr (.ref 6) .u)),.row 139 (.sh []) Ai q.2,.row 199 .deep Aa d,.row 4 .deep .bool e,.row 199 .deep Aa g,.row 4 .deep .bool i])) (λs=>(.ret,sT 150 [(6,.zs),(7,dB false),(8,.zs),(15,.ptr 0 0 [] 0),(16,.ptr 1 0 [] 0),(17,dD (.sl (.sl .bool)) a),(18,dD (.sl (.sl (.int .i64))) b),(19,dD (.sl Af) c),(20,.ref 2),(21,dI l),(22,dI n)] [.box (.pr (.ref 3) (.pr (.ref 4) .u)),.box (.pr (.ref 5) (.pr (.ref 6) .u)),.row 139 (.sh []) Ai o,.row 199 .deep Aa d,.row 4 .deep .bool e,.row 199 .deep Aa g,.row 4 .deep .bool i]))
def vI(a:AxE)(b:AxD)(c:Axz)(l n:Int)(t u:Int×Int×Bool×Axs)(o:AxB)(d:Axv)(e:Axt)(g:Axv)(i:Axt):St:=sT 150 [(8,.zs),(15,.ptr 0 0 [] 0),(16,.ptr 1 0 [] 0),(17,dD (.sl (.sl .bool)) a),(18,dD (.sl (.sl (.int .i64))) b),(19,dD (.sl Af) c),(20,.ref 2),(21,dI l),(22,dI n),(23,.ptr 3 0 [] 0),(24,dB t.2.2.1),(25,.ptr 4 0 [] 0),(26,dB u.2.2.1)] [.box (.pr (.ref 5) (.pr (.ref 6) .u)),.box (.pr (.ref 7) (.pr (.ref 8) .u)),.row 139 (.sh []) Ai o,.box (.pr (dI t.1) (.pr (.pr (dI t.2.1) (.pr (.ref 9) .u)) .u)),.box (.pr (dI u.1) (.pr (.pr (dI u.2.1) (.pr (.ref 10) .u)) .u)),.row 199 .deep Aa d,.row 4 .deep .bool e,.row 199 .deep Aa g,.row 4 .deep .bool i,.row 216 .deep (.int .u64) t.2.2.2,.row 216 .deep (.int .u64) u.2.2.2]
def uN(a:AxE)(b:AxD)(c:Axz)(l n:Int)(t u:Int×Int×Bool×Axs)(o:AxB)(d:Axv)(e:Axt)(g:Axv)(i:Axt)(m0:Bool):Ex×St:=(.normal,sT 150 [(8,.zs),(15,.ptr 0 0 [] 0),(16,.ptr 1 0 [] 0),(17,dD (.sl (.sl .bool)) a),(18,dD (.sl (.sl (.int .i64))) b),(19,dD (.sl Af) c),(20,.ref 2),(21,dI l),(22,dI n),(23,.ptr 3 0 [] 0),(25,.ptr 4 0 [] 0),(137,dB m0)] [.box (.pr (.ref 5) (.pr (.ref 6) .u)),.box (.pr (.ref 7) (.pr (.ref 8) .u)),.row 139 (.sh []) Ai o,.box (.pr (dI t.1) (.pr (.pr (dI t.2.1) (.pr (.ref 9) .u)) .u)),.box (.pr (dI u.1) (.pr (.pr (dI u.2.1) (.pr (.ref 10) .u)) .u)),.row 199 .deep Aa d,.row 4 .deep .bool e,.row 199 .deep Aa g,.row 4 .deep .bool i,.row 216 .deep (.int .u64) t.2.2.2,.row 216 .deep (.int .u64) u.2.2.2])
theorem AnQ(a:AxE)(b:AxD)(c:Axz)(l n:Int)(t u:Int×Int×Bool×Axs)(o:AxB)(d:Axv)(e:Axt)(g:Axv)(i:Axt):Mn jQ 0 23 (sub (sub (code Tryz.f23) [1,1,1,1,1,1,1,1,1,1,1,1,1,1,0,1,0,0]) [1,0]) [0,1,1,1,0,0] (vI a b c l n t u o d e g i)=some (uN a b c l n t u o d e g i ((!t.2.2.1)||(!u.2.2.1))):=by
 have h0:Mn jQ 0 23 (sub (sub (code Tryz.f23) [1,1,1,1,1,1,1,1,1,1,1,1,1,1,0,1,0,0]) [1,0]) [0,1,1,1,0,0] (vI a b c l n t u o d e g i) =
 bif !t.2.2.1 then
 some (uN a b c l n t u o d e g i true)
 else
 some (uN a b c l n t u o d e g i (!u.2.2.1)):=by kernel_rfl
 rw[h0];cases h1:(!t.2.2.1)
 ·first | rfl | kernel_rfl
 ·first | rfl | kernel_rfl
def Alu(a:AxE)(b:AxD)(c:Axz)(l n:Int)(o:AxB)(d:Axv)(e:Axt)(g:Axv)(i:Axt):St:=sT 150 [(8,.zs),(15,.ptr 0 0 [] 0),(16,.ptr 1 0 [] 0),(17,dD (.sl (.sl .bool)) a),(18,dD (.sl (.sl (.int .i64))) b),(19,dD (.sl Af) c),(20,.ref 2),(21,dI l),(22,dI n)] [.box (.pr (.ref 3) (.pr (.ref 4) .u)),.box (.pr (.ref 5) (.pr (.ref 6) .u)),.row 139 (.sh []) Ai o,.row 199 .deep Aa d,.row 4 .deep .bool e,.row 199 .deep Aa g,.row 4 .deep .bool i]
def Ajh(a:AxE)(b:AxD)(c:Axz)(l n:Int)(o:AxB)(d:Axv)(e:Axt)(g:Axv)(i:Axt):(Unit⊕Unit)->Ex×St:=Sum.elim (λv=>((.exit 1),sT 150 [(8,.zs),(15,.ptr 0 0 [] 0),(16,.ptr 1 0 [] 0),(17,dD (.sl (.sl .bool)) a),(18,dD (.sl (.sl (.int .i64))) b),(19,dD (.sl Af) c),(20,.ref 2),(21,dI l),(22,dI n)] [.box (.pr (.ref 3) (.pr (.ref 4) .u)),.box (.pr (.ref 5) (.pr (.ref 6) .u)),.row 139 (.sh []) Ai o,.row 199 .deep Aa d,.row 4 .deep .bool e,.row 199 .deep Aa g,.row 4 .deep .bool i])) (λw=>(.normal,sT 150 [(8,.zs),(15,.ptr 0 0 [] 0),(16,.ptr 1 0 [] 0),(17,dD (.sl (.sl .bool)) a),(18,dD (.sl (.sl (.int .i64))) b),(19,dD (.sl Af) c),(20,.ref 2),(21,dI l),(22,dI n)] [.box (.pr (.ref 3) (.pr (.ref 4) .u)),.box (.pr (.ref 5) (.pr (.ref 6) .u)),.row 139 (.sh []) Ai o,.row 199 .deep Aa d,.row 4 .deep .bool e,.row 199 .deep Aa g,.row 4 .deep .bool i]))
def Da(a:AxE)(b:AxD)(c:Axz)(l n:Int)(o:AxB)(d:Axv)(e:Axt)(g:Axv)(i:Axt):Option (Unit⊕Unit) :=
 bif decide (n<(d.length:Int)) then
 (B8 (d,e,()) a n).bind λx =>
 bif !x then
 (B8 (g,i,()) a n).bind λy =>
 bif !y then
 some (.inl ())
 else
 some (.inr ())
 else
 some (.inr ())
 else
 some (.inr ())
theorem AnP(a:AxE)(b:AxD)(c:Axz)(l n:Int)(o:AxB)(d:Axv)(e:Axt)(g:Axv)(i:Axt):AL jQ 0 20 (sub (sub (code Tryz.f23) [1,1,1,1,1,1,1,1,1,1,1,1,1,1,0,1,0,0]) [1,0]) [0,0] (Alu a b c l n o d e g i) (Da a b c l n o d e g i) (Ajh a b c l n o d e g i):=by
 unfold AL;simp only[Da,Axe];kernel_rfl
def Hk(a:AxE)(b:AxD)(c:Axz)(l n:Int)(o:AxB)(d:Axv)(e:Axt)(g:Axv)(i:Axt):Option ((Int×AxB)⊕Unit) :=
 (Da a b c l n o d e g i).bind (Sum.elim (λv =>
 some (.inl (l,o))) (λw =>
 (JS (d,e,()) b c l n).bind λt =>
 (JS (g,i,()) b c l n).bind λu =>
 N8 (vI a b c l n t u o d e g i) (
 bif (!t.2.2.1)||(!u.2.2.1) then
 some (.inr ())
 else
 if(o.length+([((t.1,(t.2.1,t.2.2.2,()),()),(u.1,(u.2.1,u.2.2.2,()),()),(wI (n-l)),())]:AxB).length)*88<=140737488355328 then
 some (.inl (n,(o++([((t.1,(t.2.1,t.2.2.2,()),()),(u.1,(u.2.1,u.2.2.2,()),()),(wI (n-l)),())]:AxB))))
 else none)))
theorem AnR(a:AxE)(b:AxD)(c:Axz)(l n:Int)(o:AxB)(d:Axv)(e:Axt)(g:Axv)(i:Axt):AL jQ 0 18 (sub (code Tryz.f23) [1,1,1,1,1,1,1,1,1,1,1,1,1,1,0,1,0,0]) [1,0] (Alv a b c l n o d e g i) (Hk a b c l n o d e g i) (Aji a b c l n o d e g i):=by
 unfold AL;simp only[Hk,Axe];simp(disch:=refine sI ?_<;>(repeat' refine sA ?_ ?_)<;>intro _<;>kernel_rfl) only[A6 (AnP _ _ _ _ _ _ _ _ _ _) (K:=CU 0 (jQ.jn 18)),F7 (AnQ _ _ _ _ _ _ _ _ _ _ _ _) (K:=CU 0 (jQ.jn 18))]
 kernel_rfl
def G0(a:AxE)(b:AxD)(c:Axz)(d:Axv)(e:Axt)(g:Axv)(i:Axt)(l n:Int)(o:AxB):Option ((Int×Int×AxB)⊕(AxB⊕AxB)) :=
 bif decide (n<=(d.length:Int)) then
 (Hk a b c l n o d e g i).bind (Sum.elim (λq =>
 some (.inl (q.1,(wI (n+1)),q.2))) (λs =>
 some (.inr (.inl o))))
 else
 some (.inr (.inr o))
def CQ(a:AxE)(b:AxD)(c:Axz)(d:Axv)(e:Axt)(g:Axv)(i:Axt)(z_:Int×Int×AxB):=G0 a b c d e g i z_.1 z_.2.1 z_.2.2
def I7(a:AxE)(b:AxD)(c:Axz)(d:Axv)(e:Axt)(g:Axv)(i:Axt)(l n:Int)(o:AxB):=fix (CQ a b c d e g i) (l,n,o)
theorem AgX(a:AxE)(b:AxD)(c:Axz)(d:Axv)(e:Axt)(g:Axv)(i:Axt):AU jQ 0 17 (code Tryz.f23) [1,1,1,1,1,1,1,1,1,1,1,1,1,1,0,1,0] (Af9 a b c d e g i) (CQ a b c d e g i) (Afm a b c d e g i):=by
 intro _;simp only[CQ,G0,Axe];simp(disch:=refine sI ?_<;>(repeat' refine sA ?_ ?_)<;>intro _<;>kernel_rfl) only[A6 (AnR _ _ _ _ _ _ _ _ _ _) (K:=Be 0 (jQ.hd 17) (jQ.ot 17))]
 kernel_rfl
def Als(a1:Axw)(b1:Axl)(c1:Axm)(d1:Bool)(e1:AxD):St:=sT 150 [(0,dD (.sl Ab) a1),(4,.ptr 0 0 [] 0),(5,.ptr 1 0 [] 0),(8,.zs),(9,.ptr 2 0 [] 0),(10,dB d1)] [.box (dD Ag b1),.box (dD Ah c1),.box (.pr (.ref 3) .u),.row 72 .deep (.sl (.int .i64)) e1]
def Ajg(a1:Axw)(b1:Axl)(c1:Axm)(d1:Bool)(e1:AxD):Bool->Ex×St:=λg1=>(.normal,sT 150 [(0,dD (.sl Ab) a1),(4,.ptr 0 0 [] 0),(5,.ptr 1 0 [] 0),(8,.zs),(58,dB g1)] [.box (dD Ag b1),.box (dD Ah c1)])
def Kp(a1:Axw)(b1:Axl)(c1:Axm)(d1:Bool)(e1:AxD):Option Bool :=
 bif !d1 then
 some true
 else
 (L1 a1 (e1,())).bind λi1 =>
 (L1 a1 c1).bind λj1 =>
 some (i1 !=j1)
theorem AnO(a1:Axw)(b1:Axl)(c1:Axm)(d1:Bool)(e1:AxD):AL jQ 0 6 (code Tryz.f23) [1,1,1,1,0,0] (Als a1 b1 c1 d1 e1) (Kp a1 b1 c1 d1 e1) (Ajg a1 b1 c1 d1 e1):=by
 unfold AL;simp only[Kp,Axe];kernel_rfl
def Alr(a1:Axw)(b1:Axl)(c1:Axm):St:=sT 150 [(0,dD (.sl Ab) a1),(4,.ptr 0 0 [] 0),(5,.ptr 1 0 [] 0),(8,.zs)] [.box (dD Ag b1),.box (dD Ah c1)]
def Ajf(a1:Axw)(b1:Axl)(c1:Axm):Bool->Ex×St:=λk1=>(.normal,sT 150 [(0,dD (.sl Ab) a1),(4,.ptr 0 0 [] 0),(5,.ptr 1 0 [] 0),(8,.zs),(38,dB k1)] [.box (dD Ag b1),.box (dD Ah c1)])
def Ko(a1:Axw)(b1:Axl)(c1:Axm):Option Bool :=
 (Gk a1 c1).bind λl1 =>
 bif !l1 then
 some true
 else
 (Ee a1 ([b1]:AxA)).bind λn1 =>
 some (!n1)
theorem AnN(a1:Axw)(b1:Axl)(c1:Axm):AL jQ 0 3 (code Tryz.f23) [1,1,0,0] (Alr a1 b1 c1) (Ko a1 b1 c1) (Ajf a1 b1 c1):=by
 unfold AL;simp only[Ko,Axe];kernel_rfl
def GD(a1:Axw)(b1:Axl)(c1:Axm):Option (Bool×AxB) :=
 (Ko a1 b1 c1).bind λk1 =>
 bif k1 then
 some (false,([]:AxB))
 else
 (Fs a1 ([b1]:AxA) c1).bind λo1 =>
 (Kp a1 b1 c1 o1.1 o1.2).bind λg1 =>
 bif g1 then
 some (false,([]:AxB))
 else
 (BS a1 b1.2.2.1).bind λq1 =>
 (BS a1 b1.2.2.2.1).bind λs1 =>
 (Gq q1.2).bind λt1 =>
 (Gq s1.2).bind λu1 =>
 (Ii a1 c1).bind λa =>
 (KM a1 c1).bind λb =>
 (GF a1 c1).bind λc =>
 (I7 a b c t1.1 t1.2 u1.1 u1.2 0 1 ([]:AxB)).bind (Sum.elim (λj =>
 some (false,([]:AxB))) (λk =>
 some (true,k)))
theorem U53(R:Type)(a1:Axw)(b1:Axl)(c1:Axm)(K:AV->List Blk->Option R):AH jQ Tryz.f23 R [dD (.sl Ab) a1,dD Ag b1,dD Ah c1] [] K=(GD a1 b1 c1).bind λr=>K (.cons (.ref 0) (.cons (dB r.1) .nil)) [.row 139 (.sh []) Ai r.2]:=by
 simp only[GD,Axf];simp(disch:=refine sI ?_<;>(repeat' refine sA ?_ ?_)<;>intro _<;>kernel_rfl) only[A6 (AnN _ _ _) (K:=AP jQ Tryz.f23 0 R K),A6 (AnO _ _ _ _ _) (K:=AP jQ Tryz.f23 0 R K),I7,Ax (AgX _ _ _ _ _ _ _) (K:=AP jQ Tryz.f23 0 R K)]
 kernel_rfl
def c23:Va.Callee:=BX [.d (.sl Ab),.d Ag,.d Ah] [⟨[.dat [] (.sl Ab),.dat [] Ag,.dat [] Ah],[],(Bool×AxB),λp=>GD p.1.1 p.1.2.1 p.1.2.2.1,λr=>(.cons (.ref 0) (.cons (dB r.1) .nil),[.row 139 (.sh []) Ai r.2])⟩]
theorem Acl:An Tryz.prog 23 c23:=Ap (fn:=Tryz.f23) (by kernel_rfl) (by kernel_rfl) (by kernel_rfl) ⟨⟨jQ,⟨⟨Aw,Ao ⟨om,V8,AcK,AcL,oo,oq,ou,AcM,ow,ZT,AcN,trivial⟩⟩,mixed⟩,λp R K=>U53 R p.1.1 p.1.2.1 p.1.2.2.1 K⟩,trivial⟩
abbrev E54:Env:=⟨tab,As [],{deep:=true,heads:=[(4,{live:=[0,3]})],outs:=[(4,{live:=[2]})],joins:=[(2,{live:=[0,21]}),(7,{live:=[0,3,49]})],ents:=[(2,[0]),(7,[0,3])]}⟩
def Aly(a:ByteArray)(z_:Int):St:=sT 50 [(0,dD .str a),(3,dI z_)] []
def Ajl(a:ByteArray):(Unit⊕Unit)->Ex×St:=Sum.elim (λb=>(.ret,sT 50 [(2,dB false)] [])) (λc=>((.exit 0),sT 50 [] []))
def Alx(a:ByteArray)(d:Int):St:=sT 50 [(0,dD .str a),(3,dI d)] []
def Ajk(a:ByteArray)(d:Int):Bool->Ex×St:=λe=>(.normal,sT 50 [(0,dD .str a),(3,dI d),(49,dB e)] [])
def Jv(a:ByteArray)(d:Int):Option Bool :=
 if(0:Int)<=d/\d<(a.size:Int) then
 bif decide ((BL a d)<97) then
 if(0:Int)<=d/\d<(a.size:Int) then
 bif decide ((BL a d)<48) then
 some true
 else
 if(0:Int)<=d/\d<(a.size:Int) then
 some (decide ((BL a d)>57))
 else none
 else none
 else
 if(0:Int)<=d/\d<(a.size:Int) then
 bif decide ((BL a d)>122) then
 if(0:Int)<=d/\d<(a.size:Int) then
 bif decide ((BL a d)<48) then
 some true
 else
 if(0:Int)<=d/\d<(a.size:Int) then
 some (decide ((BL a d)>57))
 else none
 else none
 else
 some false
 else none
 else none
theorem AnT(a:ByteArray)(d:Int):AL E54 0 7 (sub (code Tryz.f180) [1,1,0,1,0,0]) [1,0,0,0] (Alx a d) (Jv a d) (Ajk a d):=by
 unfold AL;simp only[Jv,Axe];kernel_rfl
def J9(a:ByteArray)(d:Int):Option (Int⊕(Unit⊕Unit)) :=
 bif decide (d<(a.size:Int)) then
 (Jv a d).bind λe =>
 bif e then
 some (.inr (.inl ()))
 else
 some (.inl (wI (d+1)))
 else
 some (.inr (.inr ()))
def G5(a:ByteArray)(z_:Int):=J9 a z_
def OY(a:ByteArray)(d:Int):=fix (G5 a) d
theorem AnU(a:ByteArray):AU E54 0 4 (code Tryz.f180) [1,1,0,1,0] (Aly a) (G5 a) (Ajl a):=by
 intro _;simp only[G5,J9,Axe];simp(disch:=refine sI ?_<;>(repeat' refine sA ?_ ?_)<;>intro _<;>kernel_rfl) only[A6 (AnT _ _) (K:=Be 0 (E54.hd 4) (E54.ot 4))]
 kernel_rfl
def Alw(a:ByteArray):St:=sT 50 [(0,dD .str a)] []
def Ajj(a:ByteArray):Bool->Ex×St:=λg=>(.normal,sT 50 [(0,dD .str a),(21,dB g)] [])
def Mz(a:ByteArray):Option Bool :=
 bif decide ((a.size:Int)<1) then
 some true
 else
 bif decide ((a.size:Int)>12) then
 some true
 else
 if(0:Int)<=(0:Int)/\(0:Int)<(a.size:Int) then
 bif decide ((BL a 0)<97) then
 some true
 else
 if(0:Int)<=(0:Int)/\(0:Int)<(a.size:Int) then
 some (decide ((BL a 0)>122))
 else none
 else none
theorem AnS(a:ByteArray):AL E54 0 2 (code Tryz.f180) [1,0,0] (Alw a) (Mz a) (Ajj a):=by
 unfold AL;simp only[Mz,Axe];kernel_rfl
def Ju(a:ByteArray):Option Bool :=
 (Mz a).bind λg =>
 bif g then
 some false
 else
 (OY a 0).bind (Sum.elim (λb =>
 some false) (λc =>
 some true))
theorem U54(R:Type)(a:ByteArray)(K:AV->List Blk->Option R):AH E54 Tryz.f180 R [dD .str a] [] K=(Ju a).bind λr=>K (dB r) []:=by
 simp only[Ju,Axf];simp(disch:=refine sI ?_<;>(repeat' refine sA ?_ ?_)<;>intro _<;>kernel_rfl) only[A6 (AnS _) (K:=AP E54 Tryz.f180 0 R K),OY,Ax (AnU _) (K:=AP E54 Tryz.f180 0 R K)]
 kernel_rfl
def ApG:Va.Callee:=BX [.d .str] [⟨[.dat [] .str],[],Bool,λp=>Ju p.1.1,λr=>(dB r,[])⟩]
theorem xP:An Tryz.prog 180 ApG:=Ap (fn:=Tryz.f180) (by kernel_rfl) (by kernel_rfl) (by kernel_rfl) ⟨⟨E54,⟨⟨Aw,Ao trivial⟩,mixed⟩,λp R K=>U54 R p.1.1 K⟩,trivial⟩
abbrev E55:Env:=⟨tab,As [],{deep:=true}⟩
def Ay(a b c:Int):Bool:=((decide (a>=b))&&(decide (a<=c)))
theorem U55(R:Type)(a b c:Int)(K:AV->List Blk->Option R):AH E55 Tryz.f59 R [dI a,dI b,dI c] [] K=K (dB (Ay a b c)) []:=by
 have h:AH E55 Tryz.f59 R [dI a,dI b,dI c] [] K =
 bif decide (a>=b) then
 K (dB (decide (a<=c))) []
 else
 K (dB false) []:=by kernel_rfl
 rw[h];unfold Ay;cases h1:(decide (a>=b))
 ·first | rfl | kernel_rfl
 ·first | rfl | kernel_rfl
def c59:Va.Callee:=BX [.d (.int .i64),.d (.int .i64),.d (.int .i64)] [⟨[.dat [] (.int .i64),.dat [] (.int .i64),.dat [] (.int .i64)],[],Bool,λp=>some (Ay p.1.1 p.1.2.1 p.1.2.2.1),λr=>(dB r,[])⟩]
theorem R9:An Tryz.prog 59 c59:=Ap (fn:=Tryz.f59) (by kernel_rfl) (by kernel_rfl) (by kernel_rfl) ⟨⟨E55,⟨⟨Aw,Ao trivial⟩,mixed⟩,λp R K=>U55 R p.1.1 p.1.2.1 p.1.2.2.1 K⟩,trivial⟩
end
end Go.Proofs.X
namespace Go.Proofs.X
open Go Go.Va
set_option maxRecDepth 100000
noncomputable section
abbrev E56:Env:=⟨tab,As [],{deep:=true}⟩
def Lm(a:Axh)(b:ByteArray):Bool:=(strEq a.1 b)
theorem U56(R:Type)(a:Axh)(b:ByteArray)(K:AV->List Blk->Option R):AH E56 Tryz.f220 R [dD Ab a,.rop [] .str b] [] K=K (dB (Lm a b)) []:=by
 kernel_rfl
def ApR:Va.Callee:=BX [.d Ab,.p .str] [⟨[.dat [] Ab,.rop [] .str],[],Bool,λp=>some (Lm p.1.1 p.1.2.1),λr=>(dB r,[])⟩]
theorem yw:An Tryz.prog 220 ApR:=Ap (fn:=Tryz.f220) (by kernel_rfl) (by kernel_rfl) (by kernel_rfl) ⟨⟨E56,⟨⟨Aw,Ao trivial⟩,mixed⟩,λp R K=>U56 R p.1.1 p.1.2.1 K⟩,trivial⟩
abbrev E57:Env:=⟨tab,As [(220,ApR)],{deep:=true,heads:=[(2,{live:=[0,1,7,8]})],outs:=[(2,{live:=[4]})]}⟩
def Alz(a:Axw)(b:Int)(c:ByteArray)(d z_:Int):St:=sT 19 [(0,dD (.sl Ab) a),(1,.fn 220 (.cons (.ptr 0 b [] 0) .nil)),(7,dI d),(8,dI z_)] [.box (dD .str c)]
def Ajm(a:Axw)(b:Int)(c:ByteArray)(d:Int):(Int⊕Unit)->Ex×St:=Sum.elim (λe=>(.ret,sT 19 [(4,dI e)] [.box (dD .str c)])) (λg=>((.exit 0),sT 19 [] [.box (dD .str c)]))
def CB(a:Axw)(b:Int)(c:ByteArray)(d i:Int):Option (Int⊕(Int⊕Unit)) :=
 bif decide (i<d) then
 if(0:Int)<=i/\i<(a.length:Int) then
 bif Lm (a.getD i.toNat Ab.zero) c then
 some (.inr (.inl i))
 else
 some (.inl (wI (i+1)))
 else none
 else
 some (.inr (.inr ()))
def BH(a:Axw)(b:Int)(c:ByteArray)(d z_:Int):=CB a b c d z_
def GC(a:Axw)(b:Int)(c:ByteArray)(d i:Int):=fix (BH a b c d) i
theorem AnV(a:Axw)(b:Int)(c:ByteArray)(d:Int):AU E57 1 2 (code Tryz.f219) [1,0,1,0] (Alz a b c d) (BH a b c d) (Ajm a b c d):=by
 intro _;simp only[BH,CB,Axe];kernel_rfl
def CX(a:Axw)(b:Int)(c:ByteArray):Option (Int×ByteArray) :=
 (GC a b c (a.length:Int) 0).bind (Sum.elim (λe =>
 some (e,c)) (λg =>
 some ((-1),c)))
theorem U57(R:Type)(a:Axw)(b:Int)(c:ByteArray)(K:AV->List Blk->Option R):AH E57 Tryz.f219 R [dD (.sl Ab) a,.fn 220 (.cons (.ptr 0 b [] 0) .nil)] [.box (dD .str c)] K=(CX a b c).bind λr=>K (dI r.1) [.box (dD .str r.2)]:=by
 simp only[CX,Axf];simp(disch:=refine sI ?_<;>(repeat' refine sA ?_ ?_)<;>intro _<;>kernel_rfl) only[GC,Ax (AnV _ _ _ _) (K:=AP E57 Tryz.f219 1 R K)]
 kernel_rfl
def ApQ:Va.Callee:=BX [.d (.sl Ab),.raw] [⟨[.dat [] (.sl Ab),.fn 220 (.cons (.ptr 0 [] 0) (.k .nil))],[.box (.dat [] .str)],(Int×ByteArray),λp=>CX p.1.1 p.1.2.1.1 p.2.1,λr=>(dI r.1,[.box (dD .str r.2)])⟩]
theorem yu:An Tryz.prog 219 ApQ:=Ap (fn:=Tryz.f219) (by kernel_rfl) (by kernel_rfl) (by kernel_rfl) ⟨⟨E57,⟨⟨Aw,Ao ⟨yw,trivial⟩⟩,mixed⟩,λp R K=>U57 R p.1.1 p.1.2.1.1 p.2.1 K⟩,trivial⟩
abbrev E58:Env:=⟨tab,As [(219,ApQ)],{deep:=true}⟩
def Gv(a:Axw)(b:ByteArray):Option Int :=
 (CX a 0 b).bind λc =>
 some c.1
theorem U58(R:Type)(a:Axw)(b:ByteArray)(K:AV->List Blk->Option R):AH E58 Tryz.f181 R [dD (.sl Ab) a,dD .str b] [] K=(Gv a b).bind λr=>K (dI r) []:=by
 simp only[Gv,Axf];kernel_rfl
def ApH:Va.Callee:=BX [.d (.sl Ab),.d .str] [⟨[.dat [] (.sl Ab),.dat [] .str],[],Int,λp=>Gv p.1.1 p.1.2.1,λr=>(dI r,[])⟩]
theorem xQ:An Tryz.prog 181 ApH:=Ap (fn:=Tryz.f181) (by kernel_rfl) (by kernel_rfl) (by kernel_rfl) ⟨⟨E58,⟨⟨Aw,Ao ⟨yu,trivial⟩⟩,mixed⟩,λp R K=>U58 R p.1.1 p.1.2.1 K⟩,trivial⟩
abbrev E59:Env:=⟨tab,As [(59,c59),(180,ApG),(181,ApH)],{deep:=true,heads:=[(5,{live:=[0,3,9,10,11]})],outs:=[(5,{live:=[2,3]})],joins:=[(8,{live:=[0,3,5,9,10,11,34]})],ents:=[(8,[0,3,4,5,9,10,11])]}⟩
def AlB(a:Axw)(b:Int)(z_:Int×Int):St:=sT 42 [(0,dD (.sl Ab) a),(3,dI z_.1),(9,dD (.sl Ab) a),(10,dI b),(11,dI z_.2)] []
def Ajo(a:Axw)(b:Int):(Int⊕Int)->Ex×St:=Sum.elim (λc=>(.ret,sT 42 [(2,dB false),(3,dI c)] [])) (λd=>((.exit 0),sT 42 [(3,dI d)] []))
def AlA(a:Axw)(e g b:Int)(i:Axh):St:=sT 42 [(0,dD (.sl Ab) a),(3,dI e),(4,dI g),(5,.ptr 0 0 [] 0),(9,dD (.sl Ab) a),(10,dI b),(11,dI g)] [.box (dD Ab i)]
def Ajn(a:Axw)(e g b:Int)(i:Axh):Bool->Ex×St:=λj=>(.normal,sT 42 [(0,dD (.sl Ab) a),(3,dI e),(5,.ptr 0 0 [] 0),(9,dD (.sl Ab) a),(10,dI b),(11,dI g),(34,dB j)] [.box (dD Ab i)])
def Lk(a:Axw)(e g b:Int)(i:Axh):Option Bool :=
 (Ju i.1).bind λk =>
 bif !k then
 some true
 else
 bif !(Ay i.2.1 1 4096) then
 some true
 else
 if(0:Int)<=(0:Int)/\(0:Int)<=g/\g<=(a.length:Int) then
 (Gv ((a.take g.toNat).drop 0) i.1).bind λl =>
 some (decide (l>=0))
 else none
theorem AnW(a:Axw)(e g b:Int)(i:Axh):AL E59 0 8 (sub (code Tryz.f113) [1,1,1,0,1,0,0]) [1,1,0,0,1,0,0] (AlA a e g b i) (Lk a e g b i) (Ajn a e g b i):=by
 unfold AL;simp only[Lk,Axe];kernel_rfl
def IP(a:Axw)(b e g:Int):Option ((Int×Int)⊕(Int⊕Int)) :=
 bif decide (g<b) then
 if(0:Int)<=g/\g<(a.length:Int) then
 (Lk a e g b (a.getD g.toNat Ab.zero)).bind λj =>
 bif j then
 some (.inr (.inl e))
 else
 some (.inl ((wI (e+(a.getD g.toNat Ab.zero).2.1)),(wI (g+1))))
 else none
 else
 some (.inr (.inr e))
def FY(a:Axw)(b:Int)(z_:Int×Int):=IP a b z_.1 z_.2
def N4(a:Axw)(b e g:Int):=fix (FY a b) (e,g)
theorem AnX(a:Axw)(b:Int):AU E59 0 5 (code Tryz.f113) [1,1,1,0,1,0] (AlB a b) (FY a b) (Ajo a b):=by
 intro _;simp only[FY,IP,Axe];simp(disch:=refine sI ?_<;>(repeat' refine sA ?_ ?_)<;>intro _<;>kernel_rfl) only[A6 (AnW _ _ _ _ _) (K:=Be 0 (E59.hd 5) (E59.ot 5))]
 kernel_rfl
def J4(a:Axw):Option Bool :=
 bif decide ((a.length:Int)>60) then
 some false
 else
 (N4 a (a.length:Int) 0 0).bind (Sum.elim (λc =>
 some false) (λd =>
 some (decide (d<=20000))))
theorem U59(R:Type)(a:Axw)(K:AV->List Blk->Option R):AH E59 Tryz.f113 R [dD (.sl Ab) a] [] K=(J4 a).bind λr=>K (dB r) []:=by
 simp only[J4,Axf];simp(disch:=refine sI ?_<;>(repeat' refine sA ?_ ?_)<;>intro _<;>kernel_rfl) only[N4,Ax (AnX _ _) (K:=AP E59 Tryz.f113 0 R K)]
 kernel_rfl
def Apo:Va.Callee:=BX [.d (.sl Ab)] [⟨[.dat [] (.sl Ab)],[],Bool,λp=>J4 p.1.1,λr=>(dB r,[])⟩]
theorem wS:An Tryz.prog 113 Apo:=Ap (fn:=Tryz.f113) (by kernel_rfl) (by kernel_rfl) (by kernel_rfl) ⟨⟨E59,⟨⟨Aw,Ao ⟨R9,xP,xQ,trivial⟩⟩,mixed⟩,λp R K=>U59 R p.1.1 K⟩,trivial⟩
abbrev E60:Env:=⟨tab,As [(59,c59)],{deep:=true,heads:=[(4,{live:=[0,17,18,19]}),(8,{live:=[0,5,7,17,18,19,24,25,26]})],outs:=[(4,{live:=[4]}),(8,{live:=[0,4,17,18,19]})]}⟩
def AlD(a:Axw)(b:AxD)(c z_:Int):St:=sT 44 [(0,dD (.sl Ab) a),(17,dD (.sl (.sl (.int .i64))) b),(18,dI c),(19,dI z_)] []
def Ajq(a:Axw)(b:AxD)(c:Int):(Unit⊕Unit)->Ex×St:=Sum.elim (λd=>(.ret,sT 44 [(4,dB false)] [])) (λe=>((.exit 0),sT 44 [] []))
def AlC(a:Axw)(g:Int)(b:AxD)(c:Int)(i:Axs)(j:Int)(z_:Int×Int):St:=sT 44 [(0,dD (.sl Ab) a),(5,dI g),(7,dI z_.1),(17,dD (.sl (.sl (.int .i64))) b),(18,dI c),(19,dI g),(24,dD (.sl (.int .i64)) i),(25,dI j),(26,dI z_.2)] []
def Ajp(a:Axw)(g:Int)(b:AxD)(c:Int)(i:Axs)(j:Int):(Unit⊕Unit)->Ex×St:=Sum.elim (λk=>(.ret,sT 44 [(0,dD (.sl Ab) a),(4,dB false),(17,dD (.sl (.sl (.int .i64))) b),(18,dI c),(19,dI g)] [])) (λl=>((.exit 2),sT 44 [(0,dD (.sl Ab) a),(17,dD (.sl (.sl (.int .i64))) b),(18,dI c),(19,dI g)] []))
def J5(a:Axw)(g:Int)(b:AxD)(c:Int)(i:Axs)(j n o:Int):Option ((Int×Int)⊕(Unit⊕Unit)) :=
 bif decide (o<j) then
 if(0:Int)<=o/\o<(i.length:Int) then
 if(0:Int)<=g/\g<(a.length:Int) then
 bif !(Ay (i.getD o.toNat (Ty.zero (.int .i64))) (wI (n+1)) (wI ((a.getD g.toNat Ab.zero).2.1-1))) then
 some (.inr (.inl ()))
 else
 some (.inl ((i.getD o.toNat (Ty.zero (.int .i64))),(wI (o+1))))
 else none
 else none
 else
 some (.inr (.inr ()))
def EL(a:Axw)(g:Int)(b:AxD)(c:Int)(i:Axs)(j:Int)(z_:Int×Int):=J5 a g b c i j z_.1 z_.2
def OW(a:Axw)(g:Int)(b:AxD)(c:Int)(i:Axs)(j n o:Int):=fix (EL a g b c i j) (n,o)
theorem AnY(a:Axw)(g:Int)(b:AxD)(c:Int)(i:Axs)(j:Int):AU E60 0 8 (sub (code Tryz.f202) [1,1,0,1,0,0]) [1,1,0,0,1,1,1,0] (AlC a g b c i j) (EL a g b c i j) (Ajp a g b c i j):=by
 intro _;simp only[EL,J5,Axe];kernel_rfl
def J6(a:Axw)(b:AxD)(c g:Int):Option (Int⊕(Unit⊕Unit)) :=
 bif decide (g<c) then
 if(0:Int)<=g/\g<(b.length:Int) then
 (OW a g b c (b.getD g.toNat (Ty.zero (.sl (.int .i64)))) ((b.getD g.toNat (Ty.zero (.sl (.int .i64)))).length:Int) 0 0).bind (Sum.elim (λk =>
 some (.inr (.inl ()))) (λl =>
 some (.inl (wI (g+1)))))
 else none
 else
 some (.inr (.inr ()))
def G4(a:Axw)(b:AxD)(c z_:Int):=J6 a b c z_
def OX(a:Axw)(b:AxD)(c g:Int):=fix (G4 a b c) g
theorem AnZ(a:Axw)(b:AxD)(c:Int):AU E60 0 4 (code Tryz.f202) [1,1,0,1,0] (AlD a b c) (G4 a b c) (Ajq a b c):=by
 intro _;simp only[G4,J6,Axe];simp(disch:=refine sI ?_<;>(repeat' refine sA ?_ ?_)<;>intro _<;>kernel_rfl) only[OW,Ax (AnY _ _ _ _ _ _) (K:=Be 0 (E60.hd 4) (E60.ot 4))]
 kernel_rfl
def Md(a:Axw)(q:Axm):Option Bool :=
 bif (q.1.length:Int) !=(a.length:Int) then
 some false
 else
 (OX a q.1 (q.1.length:Int) 0).bind (Sum.elim (λd =>
 some false) (λe =>
 some true))
theorem U60(R:Type)(a:Axw)(q:Axm)(K:AV->List Blk->Option R):AH E60 Tryz.f202 R [dD (.sl Ab) a,dD Ah q] [] K=(Md a q).bind λr=>K (dB r) []:=by
 simp only[Md,Axf];simp(disch:=refine sI ?_<;>(repeat' refine sA ?_ ?_)<;>intro _<;>kernel_rfl) only[OX,Ax (AnZ _ _ _) (K:=AP E60 Tryz.f202 0 R K)]
 kernel_rfl
def ApL:Va.Callee:=BX [.d (.sl Ab),.d Ah] [⟨[.dat [] (.sl Ab),.dat [] Ah],[],Bool,λp=>Md p.1.1 p.1.2.1,λr=>(dB r,[])⟩]
theorem xX:An Tryz.prog 202 ApL:=Ap (fn:=Tryz.f202) (by kernel_rfl) (by kernel_rfl) (by kernel_rfl) ⟨⟨E60,⟨⟨Aw,Ao ⟨R9,trivial⟩⟩,mixed⟩,λp R K=>U60 R p.1.1 p.1.2.1 K⟩,trivial⟩
abbrev E61:Env:=⟨tab,As [(113,Apo),(202,ApL)],{deep:=true}⟩
def Ma(a:Axw)(b:Axm):Option Bool :=
 (J4 a).bind λc =>
 bif c then
 (Md a b).bind λd =>
 some d
 else
 some false
theorem U61(R:Type)(a:Axw)(b:Axm)(K:AV->List Blk->Option R):AH E61 Tryz.f146 R [dD (.sl Ab) a,dD Ah b] [] K=(Ma a b).bind λr=>K (dB r) []:=by
 simp only[Ma,Axf];kernel_rfl
def c146:Va.Callee:=BX [.d (.sl Ab),.d Ah] [⟨[.dat [] (.sl Ab),.dat [] Ah],[],Bool,λp=>Ma p.1.1 p.1.2.1,λr=>(dB r,[])⟩]
theorem w9:An Tryz.prog 146 c146:=Ap (fn:=Tryz.f146) (by kernel_rfl) (by kernel_rfl) (by kernel_rfl) ⟨⟨E61,⟨⟨Aw,Ao ⟨wS,xX,trivial⟩⟩,mixed⟩,λp R K=>U61 R p.1.1 p.1.2.1 K⟩,trivial⟩
abbrev E62:Env:=⟨tab,As [],{deep:=true}⟩
def Bi(a:Int):Int:=(wI (Int.tdiv (wI (a+63)) 64))
theorem U62(R:Type)(a:Int)(K:AV->List Blk->Option R):AH E62 Tryz.f200 R [dI a] [] K=K (dI (Bi a)) []:=by
 kernel_rfl
def Ag5:Va.Callee:=BX [.d (.int .i64)] [⟨[.dat [] (.int .i64)],[],Int,λp=>some (Bi p.1.1),λr=>(dI r,[])⟩]
theorem eZ:An Tryz.prog 200 Ag5:=Ap (fn:=Tryz.f200) (by kernel_rfl) (by kernel_rfl) (by kernel_rfl) ⟨⟨E62,⟨⟨Aw,Ao trivial⟩,mixed⟩,λp R K=>U62 R p.1.1 K⟩,trivial⟩
abbrev E63:Env:=⟨tab,As [(59,c59),(200,Ag5)],{deep:=true,joins:=[(2,{live:=[1,16]})],ents:=[(2,[1])]}⟩
def vJ(a:Axq):St:=sT 35 [(1,.ptr 0 0 [] 0)] [.box (dD Am a)]
def uO(a:Axq)(m0:Bool):Ex×St:=(.normal,sT 35 [(1,.ptr 0 0 [] 0),(16,dB m0)] [.box (dD Am a)])
theorem An0(a:Axq):Mn E63 0 2 (code Tryz.f265) [1,0,0] (vJ a)=some (uO a ((!(Ay a.1 1 4096))||((a.2.1.length:Int) !=(Bi a.1)))):=by
 have h0:Mn E63 0 2 (code Tryz.f265) [1,0,0] (vJ a) =
 bif !(Ay a.1 1 4096) then
 some (uO a true)
 else
 some (uO a ((a.2.1.length:Int) !=(Bi a.1))):=by kernel_rfl
 rw[h0];cases h1:(!(Ay a.1 1 4096))
 ·first | rfl | kernel_rfl
 ·first | rfl | kernel_rfl
def Js(a:Axq):Option Bool :=
 N8 (vJ a) (
 bif (!(Ay a.1 1 4096))||((a.2.1.length:Int) !=(Bi a.1)) then
 some false
 else
 bif (Int.tmod a.1 64)==0 then
 some true
 else
 if(0:Int)<=(wI ((a.2.1.length:Int)-1))/\(wI ((a.2.1.length:Int)-1))<(a.2.1.length:Int) then
 if(Int.tmod a.1 64)<(0:Int) then none else
 some ((Oa .u64 (a.2.1.getD (wI ((a.2.1.length:Int)-1)).toNat (Ty.zero (.int .u64))) (Int.tmod a.1 64))==0)
 else none)
theorem U63(R:Type)(a:Axq)(K:AV->List Blk->Option R):AH E63 Tryz.f265 R [dD Am a] [] K=(Js a).bind λr=>K (dB r) []:=by
 simp only[Js,Axf];simp(disch:=refine sI ?_<;>(repeat' refine sA ?_ ?_)<;>intro _<;>kernel_rfl) only[F7 (An0 _) (K:=AP E63 Tryz.f265 0 R K)]
 kernel_rfl
def Ap8:Va.Callee:=BX [.d Am] [⟨[.dat [] Am],[],Bool,λp=>Js p.1.1,λr=>(dB r,[])⟩]
theorem yS:An Tryz.prog 265 Ap8:=Ap (fn:=Tryz.f265) (by kernel_rfl) (by kernel_rfl) (by kernel_rfl) ⟨⟨E63,⟨⟨Aw,Ao ⟨R9,eZ,trivial⟩⟩,mixed⟩,λp R K=>U63 R p.1.1 K⟩,trivial⟩
end
end Go.Proofs.X
