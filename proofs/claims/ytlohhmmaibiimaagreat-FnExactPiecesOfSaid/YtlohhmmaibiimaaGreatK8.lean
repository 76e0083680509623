import Derived.KernelRfl
import Derived.Test.YtlohhmmaibiimaaGreatK7
set_option linter.unusedVariables false
set_option linter.unusedSimpArgs false
namespace Go.Proofs.X
open Go Go.Va
set_option maxRecDepth 100000
noncomputable section
abbrev E24:Env:=⟨tab,As [],{deep:=true}⟩
def A8(a b c:Int):Bool:=((decide (a>=b))&&(decide (a<=c)))
theorem U24(R:Type)(a b c:Int)(K:AV->List Blk->Option R):AH E24 Tryz.f52 R [dI a,dI b,dI c] [] K=K (dB (A8 a b c)) []:=by
 have h:AH E24 Tryz.f52 R [dI a,dI b,dI c] [] K =
 bif decide (a>=b) then
 K (dB (decide (a<=c))) []
 else
 K (dB false) []:=by kernel_rfl
 rw[h];unfold A8;cases h1:(decide (a>=b))
 ·first | rfl | kernel_rfl
 ·first | rfl | kernel_rfl
def c52:Va.Callee:=BX [.d (.int .i64),.d (.int .i64),.d (.int .i64)] [⟨[.dat [] (.int .i64),.dat [] (.int .i64),.dat [] (.int .i64)],[],Bool,λp=>some (A8 p.1.1 p.1.2.1 p.1.2.2.1),λr=>(dB r,[])⟩]
theorem PD:An Tryz.prog 52 c52:=Ap (fn:=Tryz.f52) (by kernel_rfl) (by kernel_rfl) (by kernel_rfl) ⟨⟨E24,⟨⟨Aw,Ao trivial⟩,mixed⟩,λp R K=>U24 R p.1.1 p.1.2.1 p.1.2.2.1 K⟩,trivial⟩
abbrev E25:Env:=⟨tab,As [(52,c52),(186,ApJ)],{deep:=true,heads:=[(5,{live:=[0,3,4]}),(10,{live:=[0,3,4,5]})],outs:=[(5,{live:=[2,3]}),(10,{live:=[0,2,3,4]})],joins:=[(8,{live:=[0,3,4,30]})],ents:=[(8,[0,3,4])]}⟩
def Aky(a:Axw)(z_:Int×Int):St:=sT 56 [(0,dD (.sl Ab) a),(3,dI z_.1),(4,dI z_.2)] []
def Ain(a:Axw):(Int⊕Int)->Ex×St:=Sum.elim (λb=>(.ret,sT 56 [(2,dB false),(3,dI b)] [])) (λc=>((.exit 0),sT 56 [(3,dI c)] []))
def Akx(a:Axw)(d e z_:Int):St:=sT 56 [(0,dD (.sl Ab) a),(3,dI d),(4,dI e),(5,dI z_)] []
def Aim(a:Axw)(d e:Int):(Unit⊕Unit)->Ex×St:=Sum.elim (λg=>(.ret,sT 56 [(0,dD (.sl Ab) a),(2,dB false),(3,dI d),(4,dI e)] [])) (λi=>((.exit 2),sT 56 [(0,dD (.sl Ab) a),(3,dI d),(4,dI e)] []))
def I3(a:Axw)(d e j:Int):Option (Int⊕(Unit⊕Unit)) :=
 bif decide (j<e) then
 if(0:Int)<=j/\j<(a.length:Int) then
 if(0:Int)<=e/\e<(a.length:Int) then
 bif strEq (a.getD j.toNat Ab.zero).1 (a.getD e.toNat Ab.zero).1 then
 some (.inr (.inl ()))
 else
 some (.inl (wI (j+1)))
 else none
 else none
 else
 some (.inr (.inr ()))
def Gm(a:Axw)(d e z_:Int):=I3 a d e z_
def Ob(a:Axw)(d e j:Int):=fix (Gm a d e) j
theorem AmK(a:Axw)(d e:Int):AU E25 0 10 (sub (code Tryz.f119) [1,1,1,0,1,0,0]) [1,0,0,1,0,1,0] (Akx a d e) (Gm a d e) (Aim a d e):=by
 intro _;simp only[Gm,I3,Axe];kernel_rfl
def Akw(a:Axw)(d e:Int):St:=sT 56 [(0,dD (.sl Ab) a),(3,dI d),(4,dI e)] []
def Ail(a:Axw)(d e:Int):Bool->Ex×St:=λk=>(.normal,sT 56 [(0,dD (.sl Ab) a),(3,dI d),(4,dI e),(30,dB k)] [])
def Lw(a:Axw)(d e:Int):Option Bool :=
 if(0:Int)<=e/\e<(a.length:Int) then
 (JN (a.getD e.toNat Ab.zero).1).bind λl =>
 bif !l then
 some true
 else
 if(0:Int)<=e/\e<(a.length:Int) then
 some (!(A8 (a.getD e.toNat Ab.zero).2.1 1 4096))
 else none
 else none
theorem AmJ(a:Axw)(d e:Int):AL E25 0 8 (sub (code Tryz.f119) [1,1,1,0,1,0,0]) [1,0,0,0,0] (Akw a d e) (Lw a d e) (Ail a d e):=by
 unfold AL;simp only[Lw,Axe];kernel_rfl
def I4(a:Axw)(d e:Int):Option ((Int×Int)⊕(Int⊕Int)) :=
 bif decide (e<(a.length:Int)) then
 (Lw a d e).bind λk =>
 bif k then
 some (.inr (.inl d))
 else
 (Ob a d e 0).bind (Sum.elim (λg =>
 some (.inr (.inl d))) (λi =>
 if(0:Int)<=e/\e<(a.length:Int) then
 some (.inl ((wI (d+(a.getD e.toNat Ab.zero).2.1)),(wI (e+1))))
 else none))
 else
 some (.inr (.inr d))
def Gn(a:Axw)(z_:Int×Int):=I4 a z_.1 z_.2
def Oc(a:Axw)(d e:Int):=fix (Gn a) (d,e)
theorem AmL(a:Axw):AU E25 0 5 (code Tryz.f119) [1,1,1,0,1,0] (Aky a) (Gn a) (Ain a):=by
 intro _;simp only[Gn,I4,Axe];simp(disch:=refine sI ?_<;>(repeat' refine sA ?_ ?_)<;>intro _<;>kernel_rfl) only[A6 (AmJ _ _ _) (K:=Be 0 (E25.hd 5) (E25.ot 5)),Ob,Ax (AmK _ _ _) (K:=Be 0 (E25.hd 5) (E25.ot 5))]
 kernel_rfl
def Gl(a:Axw):Option Bool :=
 bif decide ((a.length:Int)>60) then
 some false
 else
 (Oc a 0 0).bind (Sum.elim (λb =>
 some false) (λc =>
 some (decide (c<=20000))))
theorem U25(R:Type)(a:Axw)(K:AV->List Blk->Option R):AH E25 Tryz.f119 R [dD (.sl Ab) a] [] K=(Gl a).bind λr=>K (dB r) []:=by
 simp only[Gl,Axf];simp(disch:=refine sI ?_<;>(repeat' refine sA ?_ ?_)<;>intro _<;>kernel_rfl) only[Oc,Ax (AmL _) (K:=AP E25 Tryz.f119 0 R K)]
 kernel_rfl
def c119:Va.Callee:=BX [.d (.sl Ab)] [⟨[.dat [] (.sl Ab)],[],Bool,λp=>Gl p.1.1,λr=>(dB r,[])⟩]
theorem WB:An Tryz.prog 119 c119:=Ap (fn:=Tryz.f119) (by kernel_rfl) (by kernel_rfl) (by kernel_rfl) ⟨⟨E25,⟨⟨Aw,Ao ⟨PD,xU,trivial⟩⟩,mixed⟩,λp R K=>U25 R p.1.1 K⟩,trivial⟩
abbrev uh:Env:=⟨tab,As [(52,c52),(119,c119)],{deep:=true,heads:=[(4,{live:=[0,3,5]}),(7,{live:=[0,3,5,6]})],outs:=[(4,{live:=[4]}),(7,{live:=[0,3,4,5]})],joins:=[(2,{live:=[0,3,17]}),(10,{live:=[0,3,5,6,74]})],ents:=[(2,[0,3]),(10,[0,3,5,6])]}⟩
def AkC(a:Axw)(b:Axm)(z_:Int):St:=sT 75 [(0,dD (.sl Ab) a),(3,.ptr 0 0 [] 0),(5,dI z_)] [.box (dD Ah b)]
def Air(a:Axw)(b:Axm):(Unit⊕Unit)->Ex×St:=Sum.elim (λc=>(.ret,sT 75 [(4,dB false)] [])) (λd=>((.exit 0),sT 75 [] []))
def AkB(a:Axw)(e:Int)(b:Axm)(z_:Int):St:=sT 75 [(0,dD (.sl Ab) a),(3,.ptr 0 0 [] 0),(5,dI e),(6,dI z_)] [.box (dD Ah b)]
def Aiq(a:Axw)(e:Int)(b:Axm):(Unit⊕Unit)->Ex×St:=Sum.elim (λg=>(.ret,sT 75 [(0,dD (.sl Ab) a),(3,.ptr 0 0 [] 0),(4,dB false),(5,dI e)] [.box (dD Ah b)])) (λi=>((.exit 2),sT 75 [(0,dD (.sl Ab) a),(3,.ptr 0 0 [] 0),(5,dI e)] [.box (dD Ah b)]))
def AkA(a:Axw)(e j:Int)(b:Axm):St:=sT 75 [(0,dD (.sl Ab) a),(3,.ptr 0 0 [] 0),(5,dI e),(6,dI j)] [.box (dD Ah b)]
def Aip(a:Axw)(e j:Int)(b:Axm):Bool->Ex×St:=λk=>(.normal,sT 75 [(0,dD (.sl Ab) a),(3,.ptr 0 0 [] 0),(5,dI e),(6,dI j),(74,dB k)] [.box (dD Ah b)])
def JL(a:Axw)(e j:Int)(b:Axm):Option Bool :=
 if(0:Int)<=e/\e<(b.1.length:Int) then
 if(0:Int)<=j/\j<((b.1.getD e.toNat (Ty.zero (.sl (.int .i64)))).length:Int) then
 if(0:Int)<=e/\e<(a.length:Int) then
 bif !(A8 ((b.1.getD e.toNat (Ty.zero (.sl (.int .i64)))).getD j.toNat (Ty.zero (.int .i64))) 1 (wI ((a.getD e.toNat Ab.zero).2.1-1))) then
 some true
 else
 bif decide (j>0) then
 if(0:Int)<=e/\e<(b.1.length:Int) then
 if(0:Int)<=j/\j<((b.1.getD e.toNat (Ty.zero (.sl (.int .i64)))).length:Int) then
 if(0:Int)<=e/\e<(b.1.length:Int) then
 if(0:Int)<=(wI (j-1))/\(wI (j-1))<((b.1.getD e.toNat (Ty.zero (.sl (.int .i64)))).length:Int) then
 some (decide (((b.1.getD e.toNat (Ty.zero (.sl (.int .i64)))).getD j.toNat (Ty.zero (.int .i64)))<=((b.1.getD e.toNat (Ty.zero (.sl (.int .i64)))).getD (wI (j-1)).toNat (Ty.zero (.int .i64)))))
 else none
 else none
 else none
 else none
 else
 some false
 else none
 else none
 else none
theorem AmN(a:Axw)(e j:Int)(b:Axm):AL uh 0 10 (sub (sub (code Tryz.f70) [1,1,0,1,0,0]) [1,0,0,1,0,0]) [1,0,0,0] (AkA a e j b) (JL a e j b) (Aip a e j b):=by
 unfold AL;simp only[JL,Axe];kernel_rfl
def Km(a:Axw)(e:Int)(b:Axm)(j:Int):Option (Int⊕(Unit⊕Unit)) :=
 if(0:Int)<=e/\e<(b.1.length:Int) then
 bif decide (j<((b.1.getD e.toNat (Ty.zero (.sl (.int .i64)))).length:Int)) then
 (JL a e j b).bind λk =>
 bif k then
 some (.inr (.inl ()))
 else
 some (.inl (wI (j+1)))
 else
 some (.inr (.inr ()))
 else none
def Hh(a:Axw)(e:Int)(b:Axm)(z_:Int):=Km a e b z_
def Pn(a:Axw)(e:Int)(b:Axm)(j:Int):=fix (Hh a e b) j
theorem AmO(a:Axw)(e:Int)(b:Axm):AU uh 0 7 (sub (code Tryz.f70) [1,1,0,1,0,0]) [1,0,0,1,0] (AkB a e b) (Hh a e b) (Aiq a e b):=by
 intro _;simp only[Hh,Km,Axe];simp(disch:=refine sI ?_<;>(repeat' refine sA ?_ ?_)<;>intro _<;>kernel_rfl) only[A6 (AmN _ _ _ _) (K:=Be 0 (uh.hd 7) (uh.ot 7))]
 kernel_rfl
def Kn(a:Axw)(b:Axm)(e:Int):Option (Int⊕(Unit⊕Unit)) :=
 bif decide (e<(b.1.length:Int)) then
 (Pn a e b 0).bind (Sum.elim (λg =>
 some (.inr (.inl ()))) (λi =>
 some (.inl (wI (e+1)))))
 else
 some (.inr (.inr ()))
def Hj(a:Axw)(b:Axm)(z_:Int):=Kn a b z_
def Po(a:Axw)(b:Axm)(e:Int):=fix (Hj a b) e
theorem AmP(a:Axw)(b:Axm):AU uh 0 4 (code Tryz.f70) [1,1,0,1,0] (AkC a b) (Hj a b) (Air a b):=by
 intro _;simp only[Hj,Kn,Axe];simp(disch:=refine sI ?_<;>(repeat' refine sA ?_ ?_)<;>intro _<;>kernel_rfl) only[Pn,Ax (AmO _ _ _) (K:=Be 0 (uh.hd 4) (uh.ot 4))]
 kernel_rfl
def Akz(a:Axw)(b:Axm):St:=sT 75 [(0,dD (.sl Ab) a),(3,.ptr 0 0 [] 0)] [.box (dD Ah b)]
def Aio(a:Axw)(b:Axm):Bool->Ex×St:=λl=>(.normal,sT 75 [(0,dD (.sl Ab) a),(3,.ptr 0 0 [] 0),(17,dB l)] [.box (dD Ah b)])
def MN(a:Axw)(b:Axm):Option Bool :=
 (Gl a).bind λn =>
 bif !n then
 some true
 else
 some ((b.1.length:Int) !=(a.length:Int))
theorem AmM(a:Axw)(b:Axm):AL uh 0 2 (code Tryz.f70) [1,0,0] (Akz a b) (MN a b) (Aio a b):=by
 unfold AL;simp only[MN,Axe];kernel_rfl
def Gk(a:Axw)(b:Axm):Option Bool :=
 (MN a b).bind λl =>
 bif l then
 some false
 else
 (Po a b 0).bind (Sum.elim (λc =>
 some false) (λd =>
 some true))
theorem U26(R:Type)(a:Axw)(b:Axm)(K:AV->List Blk->Option R):AH uh Tryz.f70 R [dD (.sl Ab) a,dD Ah b] [] K=(Gk a b).bind λr=>K (dB r) []:=by
 simp only[Gk,Axf];simp(disch:=refine sI ?_<;>(repeat' refine sA ?_ ?_)<;>intro _<;>kernel_rfl) only[A6 (AmM _ _) (K:=AP uh Tryz.f70 0 R K),Po,Ax (AmP _ _) (K:=AP uh Tryz.f70 0 R K)]
 kernel_rfl
def c70:Va.Callee:=BX [.d (.sl Ab),.d Ah] [⟨[.dat [] (.sl Ab),.dat [] Ah],[],Bool,λp=>Gk p.1.1 p.1.2.1,λr=>(dB r,[])⟩]
theorem V8:An Tryz.prog 70 c70:=Ap (fn:=Tryz.f70) (by kernel_rfl) (by kernel_rfl) (by kernel_rfl) ⟨⟨uh,⟨⟨Aw,Ao ⟨PD,WB,trivial⟩⟩,mixed⟩,λp R K=>U26 R p.1.1 p.1.2.1 K⟩,trivial⟩
abbrev E27:Env:=⟨tab,As [],{deep:=true}⟩
def BJ(a:Axq):Bool:=((a.1==0)&&((a.2.1.length:Int)==0))
theorem U27(R:Type)(a:Axq)(K:AV->List Blk->Option R):AH E27 Tryz.f251 R [dD Am a] [] K=K (dB (BJ a)) []:=by
 have h:AH E27 Tryz.f251 R [dD Am a] [] K =
 bif a.1==0 then
 K (dB ((a.2.1.length:Int)==0)) []
 else
 K (dB false) []:=by kernel_rfl
 rw[h];unfold BJ;cases h1:(a.1==0)
 ·first | rfl | kernel_rfl
 ·first | rfl | kernel_rfl
def Ap2:Va.Callee:=BX [.d Am] [⟨[.dat [] Am],[],Bool,λp=>some (BJ p.1.1),λr=>(dB r,[])⟩]
theorem yM:An Tryz.prog 251 Ap2:=Ap (fn:=Tryz.f251) (by kernel_rfl) (by kernel_rfl) (by kernel_rfl) ⟨⟨E27,⟨⟨Aw,Ao trivial⟩,mixed⟩,λp R K=>U27 R p.1.1 K⟩,trivial⟩
abbrev E28:Env:=⟨tab,As [(52,c52)],{deep:=true}⟩
def AK(a:Int):Bool:=(A8 a 4 9)
theorem U28(R:Type)(a:Int)(K:AV->List Blk->Option R):AH E28 Tryz.f252 R [dI a] [] K=K (dB (AK a)) []:=by
 kernel_rfl
def Ap3:Va.Callee:=BX [.d (.int .i64)] [⟨[.dat [] (.int .i64)],[],Bool,λp=>some (AK p.1.1),λr=>(dB r,[])⟩]
theorem yN:An Tryz.prog 252 Ap3:=Ap (fn:=Tryz.f252) (by kernel_rfl) (by kernel_rfl) (by kernel_rfl) ⟨⟨E28,⟨⟨Aw,Ao ⟨PD,trivial⟩⟩,mixed⟩,λp R K=>U28 R p.1.1 K⟩,trivial⟩
abbrev E29:Env:=⟨tab,As [],{deep:=true}⟩
def Fv(a:Axq)(b:Int):Option Int :=
 if(0:Int)<=(wI (Int.tdiv b 64))/\(wI (Int.tdiv b 64))<(a.2.1.length:Int) then
 if(IntKind.u64.wrap (Int.tmod b 64))<(0:Int) then none else
 some (IntKind.u8.wrap (XZ .u64 (Oa .u64 (a.2.1.getD (wI (Int.tdiv b 64)).toNat (Ty.zero (.int .u64))) (IntKind.u64.wrap (Int.tmod b 64))) 1))
 else none
theorem U29(R:Type)(a:Axq)(b:Int)(K:AV->List Blk->Option R):AH E29 Tryz.f188 R [dD Am a,dI b] [] K=(Fv a b).bind λr=>K (dD (.int .u8) r) []:=by
 simp only[Fv,Axf];kernel_rfl
def Aci:Va.Callee:=BX [.d Am,.d (.int .i64)] [⟨[.dat [] Am,.dat [] (.int .i64)],[],Int,λp=>Fv p.1.1 p.1.2.1,λr=>(dD (.int .u8) r,[])⟩]
theorem WE:An Tryz.prog 188 Aci:=Ap (fn:=Tryz.f188) (by kernel_rfl) (by kernel_rfl) (by kernel_rfl) ⟨⟨E29,⟨⟨Aw,Ao trivial⟩,mixed⟩,λp R K=>U29 R p.1.1 p.1.2.1 K⟩,trivial⟩
abbrev E30:Env:=⟨tab,As [(52,c52),(188,Aci)],{deep:=true,heads:=[(4,{live:=[1,3]})],outs:=[(4,{live:=[2]})],joins:=[(2,{live:=[1,17]})],ents:=[(2,[1])]}⟩
def AkD(a:Axq)(z_:Int):St:=sT 32 [(1,.ptr 0 0 [] 0),(3,dI z_)] [.box (dD Am a)]
def Ais(a:Axq):(Unit⊕Unit)->Ex×St:=Sum.elim (λb=>(.ret,sT 32 [(2,dB false)] [])) (λc=>((.exit 0),sT 32 [] []))
def Kl(a:Axq)(d:Int):Option (Int⊕(Unit⊕Unit)) :=
 bif decide (d<(wI (64*(a.2.1.length:Int)))) then
 (Fv a d).bind λe =>
 bif e !=0 then
 some (.inr (.inl ()))
 else
 some (.inl (wI (d+1)))
 else
 some (.inr (.inr ()))
def Hg(a:Axq)(z_:Int):=Kl a z_
def Pm(a:Axq)(d:Int):=fix (Hg a) d
theorem AmR(a:Axq):AU E30 0 4 (code Tryz.f253) [1,1,0,1,0] (AkD a) (Hg a) (Ais a):=by
 intro _;simp only[Hg,Kl,Axe];kernel_rfl
def vw(a:Axq):St:=sT 32 [(1,.ptr 0 0 [] 0)] [.box (dD Am a)]
def uH(a:Axq)(m0:Bool):Ex×St:=(.normal,sT 32 [(1,.ptr 0 0 [] 0),(17,dB m0)] [.box (dD Am a)])
theorem AmQ(a:Axq):Mn E30 0 2 (code Tryz.f253) [1,0,0] (vw a)=some (uH a ((!(A8 a.1 1 4096))||((a.2.1.length:Int) !=(wI (Int.tdiv (wI (a.1+63)) 64))))):=by
 have h0:Mn E30 0 2 (code Tryz.f253) [1,0,0] (vw a) =
 bif !(A8 a.1 1 4096) then
 some (uH a true)
 else
 some (uH a ((a.2.1.length:Int) !=(wI (Int.tdiv (wI (a.1+63)) 64)))):=by kernel_rfl
 rw[h0];cases h1:(!(A8 a.1 1 4096))
 ·first | rfl | kernel_rfl
 ·first | rfl | kernel_rfl
def JK(a:Axq):Option Bool :=
 N8 (vw a) (
 bif (!(A8 a.1 1 4096))||((a.2.1.length:Int) !=(wI (Int.tdiv (wI (a.1+63)) 64))) then
 some false
 else
 (Pm a a.1).bind (Sum.elim (λb =>
 some false) (λc =>
 some true)))
theorem U30(R:Type)(a:Axq)(K:AV->List Blk->Option R):AH E30 Tryz.f253 R [dD Am a] [] K=(JK a).bind λr=>K (dB r) []:=by
 simp only[JK,Axf];simp(disch:=refine sI ?_<;>(repeat' refine sA ?_ ?_)<;>intro _<;>kernel_rfl) only[F7 (AmQ _) (K:=AP E30 Tryz.f253 0 R K),Pm,Ax (AmR _) (K:=AP E30 Tryz.f253 0 R K)]
 kernel_rfl
def Ap4:Va.Callee:=BX [.d Am] [⟨[.dat [] Am],[],Bool,λp=>JK p.1.1,λr=>(dB r,[])⟩]
theorem yO:An Tryz.prog 253 Ap4:=Ap (fn:=Tryz.f253) (by kernel_rfl) (by kernel_rfl) (by kernel_rfl) ⟨⟨E30,⟨⟨Aw,Ao ⟨PD,WE,trivial⟩⟩,mixed⟩,λp R K=>U30 R p.1.1 K⟩,trivial⟩
abbrev E31:Env:=⟨tab,As [(52,c52),(251,Ap2),(252,Ap3),(253,Ap4)],{deep:=true,heads:=[(2,{live:=[0,2,4,7]})],outs:=[(2,{live:=[0,4,6]})],joins:=[(7,{live:=[0,4,63]}),(8,{live:=[0,4,6]})],ents:=[(7,[0,4]),(8,[0,4])]}⟩
def AkF(a:Axw)(b:Axj):St:=sT 109 [(0,dD (.sl Ab) a),(4,.ptr 0 0 [] 0)] [.box (dD Ae b)]
def Aiu(a:Axw)(b:Axj):(Unit⊕Unit)->Ex×St:=Sum.elim (λc=>(.ret,sT 109 [(0,dD (.sl Ab) a),(4,.ptr 0 0 [] 0),(6,dB false)] [.box (dD Ae b)])) (λd=>(.normal,sT 109 [(0,dD (.sl Ab) a),(4,.ptr 0 0 [] 0)] [.box (dD Ae b)]))
def vB(a:Axw)(b:Axj):St:=sT 109 [(0,dD (.sl Ab) a),(4,.ptr 0 0 [] 0)] [.box (dD Ae b)]
def II(a:Axw)(b:Axj)(m0:Bool):Ex×St:=(.normal,sT 109 [(0,dD (.sl Ab) a),(4,.ptr 0 0 [] 0),(63,dB m0)] [.box (dD Ae b)])
theorem AmT(a:Axw)(b:Axj):Mn E31 0 7 (sub (code Tryz.f223) [1,1,0]) [0] (vB a b)=some (II a b (bif b.1 !=1 then((b.2.1 !=0)||(bif b.1 !=2 then((!(BJ b.2.2.2.2.1))||(bif b.1 !=4 then((b.2.2.2.1 !=0)||((!(AK b.1))&&(b.2.2.1 !=0))) else((!(AK b.1))&&(b.2.2.1 !=0)))) else(bif b.1 !=4 then((b.2.2.2.1 !=0)||((!(AK b.1))&&(b.2.2.1 !=0))) else((!(AK b.1))&&(b.2.2.1 !=0))))) else(bif b.1 !=2 then((!(BJ b.2.2.2.2.1))||(bif b.1 !=4 then((b.2.2.2.1 !=0)||((!(AK b.1))&&(b.2.2.1 !=0))) else((!(AK b.1))&&(b.2.2.1 !=0)))) else(bif b.1 !=4 then((b.2.2.2.1 !=0)||((!(AK b.1))&&(b.2.2.1 !=0))) else((!(AK b.1))&&(b.2.2.1 !=0)))))):=by
 have h0:Mn E31 0 7 (sub (code Tryz.f223) [1,1,0]) [0] (vB a b) =
 bif b.1 !=1 then
 bif b.2.1 !=0 then
 some (II a b true)
 else
 bif b.1 !=2 then
 bif !(BJ b.2.2.2.2.1) then
 some (II a b true)
 else
 bif b.1 !=4 then
 bif b.2.2.2.1 !=0 then
 some (II a b true)
 else
 bif !(AK b.1) then
 some (II a b (b.2.2.1 !=0))
 else
 some (II a b false)
 else
 bif !(AK b.1) then
 some (II a b (b.2.2.1 !=0))
 else
 some (II a b false)
 else
 bif b.1 !=4 then
 bif b.2.2.2.1 !=0 then
 some (II a b true)
 else
 bif !(AK b.1) then
 some (II a b (b.2.2.1 !=0))
 else
 some (II a b false)
 else
 bif !(AK b.1) then
 some (II a b (b.2.2.1 !=0))
 else
 some (II a b false)
 else
 bif b.1 !=2 then
 bif !(BJ b.2.2.2.2.1) then
 some (II a b true)
 else
 bif b.1 !=4 then
 bif b.2.2.2.1 !=0 then
 some (II a b true)
 else
 bif !(AK b.1) then
 some (II a b (b.2.2.1 !=0))
 else
 some (II a b false)
 else
 bif !(AK b.1) then
 some (II a b (b.2.2.1 !=0))
 else
 some (II a b false)
 else
 bif b.1 !=4 then
 bif b.2.2.2.1 !=0 then
 some (II a b true)
 else
 bif !(AK b.1) then
 some (II a b (b.2.2.1 !=0))
 else
 some (II a b false)
 else
 bif !(AK b.1) then
 some (II a b (b.2.2.1 !=0))
 else
 some (II a b false):=by kernel_rfl
 rw[h0];cases h1:(b.1 !=1)
 ·cases h2:(b.1 !=2)
  ·cases h3:(b.1 !=4)
   ·cases h4:(!(AK b.1))
    ·first | rfl | kernel_rfl
    ·first | rfl | kernel_rfl
   ·cases h4:(b.2.2.2.1 !=0)
    ·cases h5:(!(AK b.1))
     ·first | rfl | kernel_rfl
     ·first | rfl | kernel_rfl
    ·first | rfl | kernel_rfl
  ·cases h3:(!(BJ b.2.2.2.2.1))
   ·cases h4:(b.1 !=4)
    ·cases h5:(!(AK b.1))
     ·first | rfl | kernel_rfl
     ·first | rfl | kernel_rfl
    ·cases h5:(b.2.2.2.1 !=0)
     ·cases h6:(!(AK b.1))
      ·first | rfl | kernel_rfl
      ·first | rfl | kernel_rfl
     ·first | rfl | kernel_rfl
   ·first | rfl | kernel_rfl
 ·cases h2:(b.2.1 !=0)
  ·cases h3:(b.1 !=2)
   ·cases h4:(b.1 !=4)
    ·cases h5:(!(AK b.1))
     ·first | rfl | kernel_rfl
     ·first | rfl | kernel_rfl
    ·cases h5:(b.2.2.2.1 !=0)
     ·cases h6:(!(AK b.1))
      ·first | rfl | kernel_rfl
      ·first | rfl | kernel_rfl
     ·first | rfl | kernel_rfl
   ·cases h4:(!(BJ b.2.2.2.2.1))
    ·cases h5:(b.1 !=4)
     ·cases h6:(!(AK b.1))
      ·first | rfl | kernel_rfl
      ·first | rfl | kernel_rfl
     ·cases h6:(b.2.2.2.1 !=0)
      ·cases h7:(!(AK b.1))
       ·first | rfl | kernel_rfl
       ·first | rfl | kernel_rfl
      ·first | rfl | kernel_rfl
    ·first | rfl | kernel_rfl
  ·first | rfl | kernel_rfl
def MQ(a:Axw)(b:Axj):Option (Unit⊕Unit) :=
 N8 (vB a b) (
 bif bif (b.1 !=1) then((b.2.1 !=0)||(bif (b.1 !=2) then((!(BJ b.2.2.2.2.1))||(bif (b.1 !=4) then((b.2.2.2.1 !=0)||((!(AK b.1))&&(b.2.2.1 !=0))) else((!(AK b.1))&&(b.2.2.1 !=0)))) else(bif (b.1 !=4) then((b.2.2.2.1 !=0)||((!(AK b.1))&&(b.2.2.1 !=0))) else((!(AK b.1))&&(b.2.2.1 !=0))))) else(bif (b.1 !=2) then((!(BJ b.2.2.2.2.1))||(bif (b.1 !=4) then((b.2.2.2.1 !=0)||((!(AK b.1))&&(b.2.2.1 !=0))) else((!(AK b.1))&&(b.2.2.1 !=0)))) else(bif (b.1 !=4) then((b.2.2.2.1 !=0)||((!(AK b.1))&&(b.2.2.1 !=0))) else((!(AK b.1))&&(b.2.2.1 !=0)))) then
 some (.inl ())
 else
 some (.inr ()))
theorem AmU(a:Axw)(b:Axj):AL E31 0 8 (code Tryz.f223) [1,1,0] (AkF a b) (MQ a b) (Aiu a b):=by
 unfold AL;simp only[MQ,Axe];simp(disch:=refine sI ?_<;>(repeat' refine sA ?_ ?_)<;>intro _<;>kernel_rfl) only[F7 (AmT _ _) (K:=CU 0 (E31.jn 8))]
 kernel_rfl
def AkE(a:Axw)(e:Int)(b:Axj)(z_:Int):St:=sT 109 [(0,dD (.sl Ab) a),(2,dI e),(4,.ptr 0 0 [] 0),(7,dI z_)] [.box (dD Ae b)]
def Ait(a:Axw)(e:Int)(b:Axj):(Unit⊕Unit)->Ex×St:=Sum.elim (λg=>(.ret,sT 109 [(0,dD (.sl Ab) a),(4,.ptr 0 0 [] 0),(6,dB false)] [.box (dD Ae b)])) (λi=>((.exit 0),sT 109 [(0,dD (.sl Ab) a),(4,.ptr 0 0 [] 0)] [.box (dD Ae b)]))
def Kw(a:Axw)(e:Int)(b:Axj)(j:Int):Option (Int⊕(Unit⊕Unit)) :=
 bif decide (j<(b.2.2.2.2.2.1.length:Int)) then
 if(0:Int)<=j/\j<(b.2.2.2.2.2.1.length:Int) then
 bif !(A8 (b.2.2.2.2.2.1.getD j.toNat (Ty.zero (.int .i64))) 0 (wI (e-1))) then
 some (.inr (.inl ()))
 else
 some (.inl (wI (j+1)))
 else none
 else
 some (.inr (.inr ()))
def Ho(a:Axw)(e:Int)(b:Axj)(z_:Int):=Kw a e b z_
def Pr(a:Axw)(e:Int)(b:Axj)(j:Int):=fix (Ho a e b) j
theorem AmS(a:Axw)(e:Int)(b:Axj):AU E31 0 2 (code Tryz.f223) [1,0,1,0] (AkE a e b) (Ho a e b) (Ait a e b):=by
 intro _;simp only[Ho,Kw,Axe];kernel_rfl
def JQ(a:Axw)(b:Axj)(e:Int):Option Bool :=
 (Pr a e b 0).bind (Sum.elim (λg =>
 some false) (λi =>
 (MQ a b).bind (Sum.elim (λc =>
 some false) (λd =>
 bif b.1==1 then
 bif (b.2.2.2.2.2.1.length:Int)==0 then
 some (A8 b.2.1 0 (wI ((a.length:Int)-1)))
 else
 some false
 else
 bif b.1==2 then
 bif (b.2.2.2.2.2.1.length:Int)==0 then
 (JK b.2.2.2.2.1).bind λk =>
 some k
 else
 some false
 else
 bif b.1==3 then
 some (decide ((b.2.2.2.2.2.1.length:Int)>=2))
 else
 bif AK b.1 then
 some ((b.2.2.2.2.2.1.length:Int)==1)
 else
 some false))))
theorem U31(R:Type)(a:Axw)(b:Axj)(e:Int)(K:AV->List Blk->Option R):AH E31 Tryz.f223 R [dD (.sl Ab) a,dD Ae b,dI e] [] K=(JQ a b e).bind λr=>K (dB r) []:=by
 simp only[JQ,Axf];simp(disch:=refine sI ?_<;>(repeat' refine sA ?_ ?_)<;>intro _<;>kernel_rfl) only[Pr,Ax (AmS _ _ _) (K:=AP E31 Tryz.f223 0 R K),A6 (AmU _ _) (K:=AP E31 Tryz.f223 0 R K)]
 kernel_rfl
def ApT:Va.Callee:=BX [.d (.sl Ab),.d Ae,.d (.int .i64)] [⟨[.dat [] (.sl Ab),.dat [] Ae,.dat [] (.int .i64)],[],Bool,λp=>JQ p.1.1 p.1.2.1 p.1.2.2.1,λr=>(dB r,[])⟩]
theorem yB:An Tryz.prog 223 ApT:=Ap (fn:=Tryz.f223) (by kernel_rfl) (by kernel_rfl) (by kernel_rfl) ⟨⟨E31,⟨⟨Aw,Ao ⟨PD,yM,yN,yO,trivial⟩⟩,mixed⟩,λp R K=>U31 R p.1.1 p.1.2.1 p.1.2.2.1 K⟩,trivial⟩
end
end Go.Proofs.X
namespace Go.Proofs.X
open Go Go.Va
set_option maxRecDepth 100000
noncomputable section
abbrev jX:Env:=⟨tab,As [(52,c52)],{deep:=true,heads:=[(3,{live:=[0,2,4,7,8]})],outs:=[(3,{live:=[0,4,7]})],joins:=[(13,{live:=[4,59]}),(17,{live:=[4,7,28,66]}),(22,{live:=[4,7,28,77]}),(28,{live:=[6,7]})],ents:=[(13,[4,7]),(17,[4,7,28]),(22,[4,7,28]),(28,[0,4,7])]}⟩
def AkH(a:Axw)(b:Int)(c:Axj):St:=sT 95 [(0,dD (.sl Ab) a),(4,.ptr 0 0 [] 0),(7,dI b)] [.box (dD Ae c)]
def Aiw(a:Axw)(b:Int)(c:Axj):(Int⊕(Int⊕Unit))->Ex×St:=Sum.elim (λd=>(.ret,sT 95 [(6,dI d),(7,dI b)] [])) (Sum.elim (λe=>(.ret,sT 95 [(6,dI e)] [])) (λg=>(.normal,sT 95 [(7,dI b)] [])))
def vE(b:Int)(c:Axj):St:=sT 95 [(4,.ptr 0 0 [] 0),(7,dI b),(28,dI c.1)] [.box (dD Ae c)]
def uJ(b:Int)(c:Axj)(m0:Bool):Ex×St:=(.normal,sT 95 [(4,.ptr 0 0 [] 0),(7,dI b),(28,dI c.1),(77,dB m0)] [.box (dD Ae c)])
theorem AmY(b:Int)(c:Axj):Mn jX 0 22 (sub (code Tryz.f224) [1,1,1,0]) [1,0,1,1,1,1,1,1,1,1,0] (vE b c)=some (uJ b c (bif c.1==7 then(c.1==7) else(c.1==8))):=by
 have h0:Mn jX 0 22 (sub (code Tryz.f224) [1,1,1,0]) [1,0,1,1,1,1,1,1,1,1,0] (vE b c) =
 bif c.1==7 then
 some (uJ b c (c.1==7))
 else
 some (uJ b c (c.1==8)):=by kernel_rfl
 rw[h0];cases h1:(c.1==7)
 ·first | rfl | kernel_rfl
 ·first | rfl | kernel_rfl
def vD(b:Int)(c:Axj):St:=sT 95 [(4,.ptr 0 0 [] 0),(7,dI b),(28,dI c.1)] [.box (dD Ae c)]
def uI(b:Int)(c:Axj)(m0:Bool):Ex×St:=(.normal,sT 95 [(4,.ptr 0 0 [] 0),(7,dI b),(28,dI c.1),(66,dB m0)] [.box (dD Ae c)])
theorem AmX(b:Int)(c:Axj):Mn jX 0 17 (sub (code Tryz.f224) [1,1,1,0]) [1,0,1,1,1,1,1,1,0] (vD b c)=some (uI b c (bif c.1==5 then(c.1==5) else(c.1==6))):=by
 have h0:Mn jX 0 17 (sub (code Tryz.f224) [1,1,1,0]) [1,0,1,1,1,1,1,1,0] (vD b c) =
 bif c.1==5 then
 some (uI b c (c.1==5))
 else
 some (uI b c (c.1==6)):=by kernel_rfl
 rw[h0];cases h1:(c.1==5)
 ·first | rfl | kernel_rfl
 ·first | rfl | kernel_rfl
def vC(b:Int)(c:Axj):St:=sT 95 [(4,.ptr 0 0 [] 0),(7,dI b)] [.box (dD Ae c)]
def nG(c:Axj)(m0:Bool):Ex×St:=(.normal,sT 95 [(4,.ptr 0 0 [] 0),(59,dB m0)] [.box (dD Ae c)])
theorem AmW(b:Int)(c:Axj):Mn jX 0 13 (sub (code Tryz.f224) [1,1,1,0]) [1,0,1,1,1,1,1,0,0,0] (vC b c)=some (nG c ((decide (c.2.2.2.1<0))||((decide (c.2.2.1<c.2.2.2.1))||(decide (c.2.2.1>=b))))):=by
 have h0:Mn jX 0 13 (sub (code Tryz.f224) [1,1,1,0]) [1,0,1,1,1,1,1,0,0,0] (vC b c) =
 bif decide (c.2.2.2.1<0) then
 some (nG c true)
 else
 bif decide (c.2.2.1<c.2.2.2.1) then
 some (nG c true)
 else
 some (nG c (decide (c.2.2.1>=b))):=by kernel_rfl
 rw[h0];cases h1:(decide (c.2.2.2.1<0))
 ·cases h2:(decide (c.2.2.1<c.2.2.2.1))
  ·first | rfl | kernel_rfl
  ·first | rfl | kernel_rfl
 ·first | rfl | kernel_rfl
def MR(a:Axw)(b:Int)(c:Axj):Option (Int⊕(Int⊕Unit)) :=
 bif c.1==1 then
 if(0:Int)<=c.2.1/\c.2.1<(a.length:Int) then
 some (.inl (a.getD c.2.1.toNat Ab.zero).2.1)
 else none
 else
 bif c.1==2 then
 some (.inl c.2.2.2.2.1.1)
 else
 bif c.1==4 then
 N8 (vC b c) (
 bif (decide (c.2.2.2.1<0))||((decide (c.2.2.1<c.2.2.2.1))||(decide (c.2.2.1>=b))) then
 some (.inr (.inl (-1)))
 else
 some (.inr (.inl (wI ((wI (c.2.2.1-c.2.2.2.1))+1)))))
 else
 N8 (vD b c) (
 bif bif (c.1==5) then(c.1==5) else(c.1==6) then
 bif !(A8 c.2.2.1 0 4096) then
 some (.inl (-1))
 else
 some (.inl (wI (b+c.2.2.1)))
 else
 N8 (vE b c) (
 bif bif (c.1==7) then(c.1==7) else(c.1==8) then
 bif !(A8 c.2.2.1 0 4096) then
 some (.inl (-1))
 else
 some (.inr (.inr ()))
 else
 bif c.1==9 then
 bif !(A8 c.2.2.1 1 4096) then
 some (.inl (-1))
 else
 some (.inl (wI (b*c.2.2.1)))
 else
 some (.inr (.inr ()))))
theorem AmZ(a:Axw)(b:Int)(c:Axj):AL jX 0 28 (code Tryz.f224) [1,1,1,0] (AkH a b c) (MR a b c) (Aiw a b c):=by
 unfold AL;simp only[MR,Axe];simp(disch:=refine sI ?_<;>(repeat' refine sA ?_ ?_)<;>intro _<;>kernel_rfl) only[F7 (AmW _ _) (K:=CU 0 (jX.jn 28)),F7 (AmX _ _) (K:=CU 0 (jX.jn 28)),F7 (AmY _ _) (K:=CU 0 (jX.jn 28))]
 kernel_rfl
def AkG(a:Axw)(i:Axs)(c:Axj)(z_:Int×Int):St:=sT 95 [(0,dD (.sl Ab) a),(2,dD (.sl (.int .i64)) i),(4,.ptr 0 0 [] 0),(7,dI z_.1),(8,dI z_.2)] [.box (dD Ae c)]
def Aiv(a:Axw)(i:Axs)(c:Axj):Int->Ex×St:=λb=>((.exit 0),sT 95 [(0,dD (.sl Ab) a),(4,.ptr 0 0 [] 0),(7,dI b)] [.box (dD Ae c)])
def Kx(a:Axw)(i:Axs)(c:Axj)(j k:Int):Option ((Int×Int)⊕Int) :=
 bif decide (k<(c.2.2.2.2.2.1.length:Int)) then
 if(0:Int)<=k/\k<(c.2.2.2.2.2.1.length:Int) then
 if(0:Int)<=(c.2.2.2.2.2.1.getD k.toNat (Ty.zero (.int .i64)))/\(c.2.2.2.2.2.1.getD k.toNat (Ty.zero (.int .i64)))<(i.length:Int) then
 some (.inl ((if(wI (j+(i.getD (c.2.2.2.2.2.1.getD k.toNat (Ty.zero (.int .i64))).toNat (Ty.zero (.int .i64)))))<8192 then(wI (j+(i.getD (c.2.2.2.2.2.1.getD k.toNat (Ty.zero (.int .i64))).toNat (Ty.zero (.int .i64))))) else 8192),(wI (k+1))))
 else none
 else none
 else
 some (.inr j)
def ES(a:Axw)(i:Axs)(c:Axj)(z_:Int×Int):=Kx a i c z_.1 z_.2
def Ps(a:Axw)(i:Axs)(c:Axj)(j k:Int):=fix (ES a i c) (j,k)
theorem AmV(a:Axw)(i:Axs)(c:Axj):AU jX 0 3 (code Tryz.f224) [1,1,0,1,0] (AkG a i c) (ES a i c) (Aiv a i c):=by
 intro _;simp only[ES,Kx,Axe];kernel_rfl
def JR(a:Axw)(c:Axj)(i:Axs):Option Int :=
 (Ps a i c 0 0).bind λb =>
 (MR a b c).bind (Sum.elim (λd =>
 some d) (Sum.elim (λe =>
 some e) (λg =>
 some b)))
theorem U32(R:Type)(a:Axw)(c:Axj)(i:Axs)(K:AV->List Blk->Option R):AH jX Tryz.f224 R [dD (.sl Ab) a,dD Ae c,dD (.sl (.int .i64)) i] [] K=(JR a c i).bind λr=>K (dI r) []:=by
 simp only[JR,Axf];simp(disch:=refine sI ?_<;>(repeat' refine sA ?_ ?_)<;>intro _<;>kernel_rfl) only[Ps,Ax (AmV _ _ _) (K:=AP jX Tryz.f224 0 R K),A6 (AmZ _ _ _) (K:=AP jX Tryz.f224 0 R K)]
 kernel_rfl
def ApU:Va.Callee:=BX [.d (.sl Ab),.d Ae,.d (.sl (.int .i64))] [⟨[.dat [] (.sl Ab),.dat [] Ae,.dat [] (.sl (.int .i64))],[],Int,λp=>JR p.1.1 p.1.2.1 p.1.2.2.1,λr=>(dI r,[])⟩]
theorem yC:An Tryz.prog 224 ApU:=Ap (fn:=Tryz.f224) (by kernel_rfl) (by kernel_rfl) (by kernel_rfl) ⟨⟨jX,⟨⟨Aw,Ao ⟨PD,trivial⟩⟩,mixed⟩,λp R K=>U32 R p.1.1 p.1.2.1 p.1.2.2.1 K⟩,trivial⟩
abbrev uz:Env:=⟨tab,As [(52,c52),(119,c119),(223,ApT),(224,ApU)],{deep:=true,heads:=[(7,{live:=[0,3,5,6,7,8],pre:=[(6,false,.row [] 2 (.int .i64) true)]}),(16,{live:=[0,3,5,6,7,8,10]}),(20,{live:=[5,6,7,11]})],outs:=[(7,{live:=[4,5,6,7],Ow:=[(7,false,(.sl .bool))]}),(16,{live:=[0,3,5,6,7,8]}),(20,{live:=[4,6]})],joins:=[(3,{live:=[0,3,5,27]})],ents:=[(3,[0,3,5])],res:=[(0,.row [] 2 (.int .i64) true)]}⟩
def AkL(a:Axt)(b:Axs)(z_:Int):St:=sT 103 [(5,.zs),(6,.ref 0),(7,dD (.sl .bool) a),(11,dI z_)] [.row 2 .deep (.int .i64) b]
def AiA(a:Axt)(b:Axs):(Unit⊕Unit)->Ex×St:=Sum.elim (λc=>(.ret,sT 103 [(4,.zs),(6,.ref 0)] [.row 2 .deep (.int .i64) b])) (λd=>((.exit 4),sT 103 [(6,.ref 0)] [.row 2 .deep (.int .i64) b]))
def Ic(a:Axt)(b:Axs)(e:Int):Option (Int⊕(Unit⊕Unit)) :=
 bif decide ((wI (e+1))<(a.length:Int)) then
 if(0:Int)<=e/\e<(a.length:Int) then
 bif !(a.getD e.toNat (Ty.zero .bool)) then
 some (.inr (.inl ()))
 else
 some (.inl (wI (e+1)))
 else none
 else
 some (.inr (.inr ()))
def Fy(a:Axt)(b:Axs)(z_:Int):=Ic a b z_
def NC(a:Axt)(b:Axs)(e:Int):=fix (Fy a b) e
theorem Am3(a:Axt)(b:Axs):AU uz 0 20 (code Tryz.f187) [1,1,1,1,1,1,0,1,0] (AkL a b) (Fy a b) (AiA a b):=by
 intro _;simp only[Fy,Ic,Axe];kernel_rfl
def AkK(g:Axw)(i:Axp)(z_:Int×Axs×Axt):St:=sT 103 [(0,dD (.sl Ab) g),(3,.ptr 0 0 [] 0),(5,.zs),(6,.ref 1),(7,.ref 2),(8,dI z_.1)] [.box (dD Ak i),.row 2 .deep (.int .i64) z_.2.1,.row 4 .deep .bool z_.2.2]
def Aiz(g:Axw)(i:Axp):((Axt×Axs)⊕(Axt×Axs))->Ex×St:=Sum.elim (λj=>(.ret,sT 103 [(4,.zs),(5,.zs),(6,.ref 0),(7,dD (.sl .bool) j.1)] [.row 2 .deep (.int .i64) j.2])) (λk=>((.exit 0),sT 103 [(5,.zs),(6,.ref 0),(7,dD (.sl .bool) k.1)] [.row 2 .deep (.int .i64) k.2]))
def AkJ(g:Axw)(l:Int)(i:Axp)(n:Axs)(z_:Int×Axt):St:=sT 103 [(0,dD (.sl Ab) g),(3,.ptr 0 0 [] 0),(5,.zs),(6,.ref 1),(7,.ref 2),(8,dI l),(10,dI z_.1)] [.box (dD Ak i),.row 2 .deep (.int .i64) n,.row 4 .deep .bool z_.2]
def Aiy(g:Axw)(l:Int)(i:Axp)(n:Axs):Axt->Ex×St:=λo=>((.exit 2),sT 103 [(0,dD (.sl Ab) g),(3,.ptr 0 0 [] 0),(5,.zs),(6,.ref 1),(7,.ref 2),(8,dI l)] [.box (dD Ak i),.row 2 .deep (.int .i64) n,.row 4 .deep .bool o])
def Ia(g:Axw)(l:Int)(i:Axp)(n:Axs)(q:Int)(s:Axt):Option ((Int×Axt)⊕Axt) :=
 if(0:Int)<=l/\l<(i.1.length:Int) then
 bif decide (q<((i.1.getD l.toNat Ae.zero).2.2.2.2.2.1.length:Int)) then
 if(0:Int)<=l/\l<(i.1.length:Int) then
 if(0:Int)<=q/\q<((i.1.getD l.toNat Ae.zero).2.2.2.2.2.1.length:Int) then
 if(0:Int)<=((i.1.getD l.toNat Ae.zero).2.2.2.2.2.1.getD q.toNat (Ty.zero (.int .i64)))/\((i.1.getD l.toNat Ae.zero).2.2.2.2.2.1.getD q.toNat (Ty.zero (.int .i64)))<(s.length:Int) then
 some (.inl ((wI (q+1)),(s.set ((i.1.getD l.toNat Ae.zero).2.2.2.2.2.1.getD q.toNat (Ty.zero (.int .i64))).toNat true)))
 else none
 else none
 else none
 else
 some (.inr s)
 else none
def Fw(g:Axw)(l:Int)(i:Axp)(n:Axs)(z_:Int×Axt):=Ia g l i n z_.1 z_.2
def Ky(g:Axw)(l:Int)(i:Axp)(n:Axs)(q:Int)(s:Axt):=fix (Fw g l i n) (q,s)
theorem Am1(g:Axw)(l:Int)(i:Axp)(n:Axs):AU uz 0 16 (sub (code Tryz.f187) [1,1,1,1,1,0,1,0,0]) [1,0,0,1,1,1,1,1,0] (AkJ g l i n) (Fw g l i n) (Aiy g l i n):=by
 intro _;simp only[Fw,Ia,Axe];kernel_rfl
def Ib(g:Axw)(i:Axp)(l:Int)(t:Axs)(u:Axt):Option ((Int×Axs×Axt)⊕((Axt×Axs)⊕(Axt×Axs))) :=
 bif decide (l<(i.1.length:Int)) then
 if(0:Int)<=l/\l<(i.1.length:Int) then
 (JQ g (i.1.getD l.toNat Ae.zero) l).bind λv =>
 bif !v then
 some (.inr (.inl (u,t)))
 else
 if(0:Int)<=l/\l<(i.1.length:Int) then
 (JR g (i.1.getD l.toNat Ae.zero) t).bind λw =>
 bif !(A8 w 1 4096) then
 some (.inr (.inl (u,t)))
 else
 if(t.length+([w]:Axs).length)*8<=140737488355328 then
 (Ky g l i (t++([w]:Axs)) 0 u).bind λo =>
 some (.inl ((wI (l+1)),(t++([w]:Axs)),o))
 else none
 else none
 else none
 else
 some (.inr (.inr (u,t)))
def Fx(g:Axw)(i:Axp)(z_:Int×Axs×Axt):=Ib g i z_.1 z_.2.1 z_.2.2
def Kz(g:Axw)(i:Axp)(l:Int)(t:Axs)(u:Axt):=fix (Fx g i) (l,t,u)
theorem Am2(g:Axw)(i:Axp):AU uz 0 7 (code Tryz.f187) [1,1,1,1,1,0,1,0] (AkK g i) (Fx g i) (Aiz g i):=by
 intro _;simp only[Fx,Ib,Axe];simp(disch:=refine sI ?_<;>(repeat' refine sA ?_ ?_)<;>intro _<;>kernel_rfl) only[Ky,Ax (Am1 _ _ _ _) (K:=Be 0 (uz.hd 7) (uz.ot 7))]
 kernel_rfl
def AkI(g:Axw)(i:Axp):St:=sT 103 [(0,dD (.sl Ab) g),(3,.ptr 0 0 [] 0),(5,.zs)] [.box (dD Ak i)]
def Aix(g:Axw)(i:Axp):Bool->Ex×St:=λx=>(.normal,sT 103 [(0,dD (.sl Ab) g),(3,.ptr 0 0 [] 0),(5,.zs),(27,dB x)] [.box (dD Ak i)])
def Hq(g:Axw)(i:Axp):Option Bool :=
 (Gl g).bind λy =>
 bif !y then
 some true
 else
 bif decide ((i.1.length:Int)<1) then
 some true
 else
 some (decide ((i.1.length:Int)>400))
theorem Am0(g:Axw)(i:Axp):AL uz 0 3 (code Tryz.f187) [1,1,0,0] (AkI g i) (Hq g i) (Aix g i):=by
 unfold AL;simp only[Hq,Axe];kernel_rfl
def IB(g:Axw)(i:Axp):Option Axs :=
 (Hq g i).bind λx =>
 bif x then
 some ([]:Axs)
 else
 if Ty.row .bool=true/\(0:Int)<=(i.1.length:Int)/\(i.1.length:Int)<=(i.1.length:Int)/\((1:Nat):Int)*(i.1.length:Int)<=(281474976710656:Int)/\(i.1.length:Int)<=(9223372036854775807:Int) then
 (Kz g i 0 ([]:Axs) (List.replicate (i.1.length:Int).toNat false)).bind (Sum.elim (λj =>
 some ([]:Axs)) (λk =>
 (NC k.1 k.2 0).bind (Sum.elim (λc =>
 some ([]:Axs)) (λd =>
 some k.2))))
 else none
theorem U33(R:Type)(g:Axw)(i:Axp)(K:AV->List Blk->Option R):AH uz Tryz.f187 R [dD (.sl Ab) g,dD Ak i] [] K=(IB g i).bind λr=>K (.ref 0) [.row 2 .deep (.int .i64) r]:=by
 simp only[IB,Axf];simp(disch:=refine sI ?_<;>(repeat' refine sA ?_ ?_)<;>intro _<;>kernel_rfl) only[A6 (Am0 _ _) (K:=AP uz Tryz.f187 0 R K),Kz,Ax (Am2 _ _) (K:=AP uz Tryz.f187 0 R K),NC,Ax (Am3 _ _) (K:=AP uz Tryz.f187 0 R K)]
 kernel_rfl
def ApK:Va.Callee:=BX [.d (.sl Ab),.d Ak] [⟨[.dat [] (.sl Ab),.dat [] Ak],[],Axs,λp=>IB p.1.1 p.1.2.1,λr=>(.ref 0,[.row 2 .deep (.int .i64) r])⟩]
theorem xV:An Tryz.prog 187 ApK:=Ap (fn:=Tryz.f187) (by kernel_rfl) (by kernel_rfl) (by kernel_rfl) ⟨⟨uz,⟨⟨Aw,Ao ⟨PD,WB,yB,yC,trivial⟩⟩,mixed⟩,λp R K=>U33 R p.1.1 p.1.2.1 K⟩,trivial⟩
abbrev E34:Env:=⟨tab,As [(187,ApK)],{deep:=true}⟩
def CG(a:Axw)(b:Axp):Option Int :=
 (IB a b).bind λc =>
 bif (c.length:Int)==0 then
 some (-1)
 else
 if(0:Int)<=(wI ((c.length:Int)-1))/\(wI ((c.length:Int)-1))<(c.length:Int) then
 some (c.getD (wI ((c.length:Int)-1)).toNat (Ty.zero (.int .i64)))
 else none
theorem U34(R:Type)(a:Axw)(b:Axp)(K:AV->List Blk->Option R):AH E34 Tryz.f120 R [dD (.sl Ab) a,dD Ak b] [] K=(CG a b).bind λr=>K (dI r) []:=by
 simp only[CG,Axf];kernel_rfl
def Ag3:Va.Callee:=BX [.d (.sl Ab),.d Ak] [⟨[.dat [] (.sl Ab),.dat [] Ak],[],Int,λp=>CG p.1.1 p.1.2.1,λr=>(dI r,[])⟩]
theorem eP:An Tryz.prog 120 Ag3:=Ap (fn:=Tryz.f120) (by kernel_rfl) (by kernel_rfl) (by kernel_rfl) ⟨⟨E34,⟨⟨Aw,Ao ⟨xV,trivial⟩⟩,mixed⟩,λp R K=>U34 R p.1.1 p.1.2.1 K⟩,trivial⟩
abbrev E35:Env:=⟨tab,As [(52,c52),(119,c119),(120,Ag3)],{deep:=true,heads:=[(4,{live:=[0,1,5]})],outs:=[(4,{live:=[4]})],joins:=[(2,{live:=[0,1,14]}),(8,{live:=[0,1,5,67]})],ents:=[(2,[0,1]),(8,[0,1,5,6])]}⟩
def AkO(a:Axw)(b:AxA)(z_:Int):St:=sT 68 [(0,dD (.sl Ab) a),(1,dD (.sl Ag) b),(5,dI z_)] []
def AiD(a:Axw)(b:AxA):(Unit⊕Unit)->Ex×St:=Sum.elim (λc=>(.ret,sT 68 [(4,dB false)] [])) (λd=>((.exit 0),sT 68 [] []))
def AkN(a:Axw)(b:AxA)(e g:Int):St:=sT 68 [(0,dD (.sl Ab) a),(1,dD (.sl Ag) b),(5,dI e),(6,dI g)] []
def AiC(a:Axw)(b:AxA)(e g:Int):Bool->Ex×St:=λi=>(.normal,sT 68 [(0,dD (.sl Ab) a),(1,dD (.sl Ag) b),(5,dI e),(67,dB i)] [])
def Fu(a:Axw)(b:AxA)(e g:Int):Option Bool :=
 if(0:Int)<=e/\e<(b.length:Int) then
 bif !(A8 (b.getD e.toNat Ag.zero).1 1 1000000) then
 some true
 else
 bif decide (e>0) then
 if(0:Int)<=e/\e<(b.length:Int) then
 if(0:Int)<=(wI (e-1))/\(wI (e-1))<(b.length:Int) then
 bif decide ((b.getD e.toNat Ag.zero).1<=(b.getD (wI (e-1)).toNat Ag.zero).1) then
 some true
 else
 bif decide (g<0) then
 some true
 else
 if(0:Int)<=e/\e<(b.length:Int) then
 (CG a (b.getD e.toNat Ag.zero).2.2.2.1).bind λj =>
 some (j !=g)
 else none
 else none
 else none
 else
 bif decide (g<0) then
 some true
 else
 if(0:Int)<=e/\e<(b.length:Int) then
 (CG a (b.getD e.toNat Ag.zero).2.2.2.1).bind λk =>
 some (k !=g)
 else none
 else none
theorem Am5(a:Axw)(b:AxA)(e g:Int):AL E35 0 8 (sub (code Tryz.f51) [1,1,0,1,0,0]) [1,0,0,1,0] (AkN a b e g) (Fu a b e g) (AiC a b e g):=by
 unfold AL;simp only[Fu,Axe];kernel_rfl
def Gp(a:Axw)(b:AxA)(e:Int):Option (Int⊕(Unit⊕Unit)) :=
 bif decide (e<(b.length:Int)) then
 if(0:Int)<=e/\e<(b.length:Int) then
 (CG a (b.getD e.toNat Ag.zero).2.2.1).bind λg =>
 (Fu a b e g).bind λi =>
 bif i then
 some (.inr (.inl ()))
 else
 some (.inl (wI (e+1)))
 else none
 else
 some (.inr (.inr ()))
def Dx(a:Axw)(b:AxA)(z_:Int):=Gp a b z_
def L3(a:Axw)(b:AxA)(e:Int):=fix (Dx a b) e
theorem Am6(a:Axw)(b:AxA):AU E35 0 4 (code Tryz.f51) [1,1,0,1,0] (AkO a b) (Dx a b) (AiD a b):=by
 intro _;simp only[Dx,Gp,Axe];simp(disch:=refine sI ?_<;>(repeat' refine sA ?_ ?_)<;>intro _<;>kernel_rfl) only[A6 (Am5 _ _ _ _) (K:=Be 0 (E35.hd 4) (E35.ot 4))]
 kernel_rfl
def AkM(a:Axw)(b:AxA):St:=sT 68 [(0,dD (.sl Ab) a),(1,dD (.sl Ag) b)] []
def AiB(a:Axw)(b:AxA):Bool->Ex×St:=λl=>(.normal,sT 68 [(0,dD (.sl Ab) a),(1,dD (.sl Ag) b),(14,dB l)] [])
def Ft(a:Axw)(b:AxA):Option Bool :=
 (Gl a).bind λn =>
 bif !n then
 some true
 else
 some (decide ((b.length:Int)>60))
theorem Am4(a:Axw)(b:AxA):AL E35 0 2 (code Tryz.f51) [1,0,0] (AkM a b) (Ft a b) (AiB a b):=by
 unfold AL;simp only[Ft,Axe];kernel_rfl
def Ee(a:Axw)(b:AxA):Option Bool :=
 (Ft a b).bind λl =>
 bif l then
 some false
 else
 (L3 a b 0).bind (Sum.elim (λc =>
 some false) (λd =>
 some true))
theorem U35(R:Type)(a:Axw)(b:AxA)(K:AV->List Blk->Option R):AH E35 Tryz.f51 R [dD (.sl Ab) a,dD (.sl Ag) b] [] K=(Ee a b).bind λr=>K (dB r) []:=by
 simp only[Ee,Axf];simp(disch:=refine sI ?_<;>(repeat' refine sA ?_ ?_)<;>intro _<;>kernel_rfl) only[A6 (Am4 _ _) (K:=AP E35 Tryz.f51 0 R K),L3,Ax (Am6 _ _) (K:=AP E35 Tryz.f51 0 R K)]
 kernel_rfl
def c51:Va.Callee:=BX [.d (.sl Ab),.d (.sl Ag)] [⟨[.dat [] (.sl Ab),.dat [] (.sl Ag)],[],Bool,λp=>Ee p.1.1 p.1.2.1,λr=>(dB r,[])⟩]
theorem om:An Tryz.prog 51 c51:=Ap (fn:=Tryz.f51) (by kernel_rfl) (by kernel_rfl) (by kernel_rfl) ⟨⟨E35,⟨⟨Aw,Ao ⟨PD,WB,eP,trivial⟩⟩,mixed⟩,λp R K=>U35 R p.1.1 p.1.2.1 K⟩,trivial⟩
abbrev E36:Env:=⟨tab,As [],{deep:=true,heads:=[(3,{live:=[0,3,5,6],pre:=[(5,false,.row [] 104 (.sl .bool) true)]}),(7,{live:=[0,3,5,6,7,8]})],outs:=[(3,{live:=[5]}),(7,{live:=[0,3,5,6,7]})]}⟩
def AkQ(a:Axw)(b:Axm)(z_:Int×AxE):St:=sT 48 [(0,dD (.sl Ab) a),(3,.ptr 0 0 [] 0),(5,.ref 1),(6,dI z_.1)] [.box (dD Ah b),.row 104 .deep (.sl .bool) z_.2]
def AiF(a:Axw)(b:Axm):AxE->Ex×St:=λc=>((.exit 0),sT 48 [(5,.ref 0)] [.row 104 .deep (.sl .bool) c])
def AkP(a:Axw)(d:Int)(b:Axm)(e:AxE)(z_:Int×Axt):St:=sT 48 [(0,dD (.sl Ab) a),(3,.ptr 0 0 [] 0),(5,.ref 1),(6,dI d),(7,.ref 2),(8,dI z_.1)] [.box (dD Ah b),.row 104 .deep (.sl .bool) e,.row 4 .deep .bool z_.2]
def AiE(a:Axw)(d:Int)(b:Axm)(e:AxE):Axt->Ex×St:=λg=>((.exit 2),sT 48 [(0,dD (.sl Ab) a),(3,.ptr 0 0 [] 0),(5,.ref 1),(6,dI d),(7,.ref 2)] [.box (dD Ah b),.row 104 .deep (.sl .bool) e,.row 4 .deep .bool g])
def Ji(a:Axw)(d:Int)(b:Axm)(e:AxE)(i:Int)(j:Axt):Option ((Int×Axt)⊕Axt) :=
 if(0:Int)<=d/\d<(b.1.length:Int) then
 bif decide (i<((b.1.getD d.toNat (Ty.zero (.sl (.int .i64)))).length:Int)) then
 if(0:Int)<=d/\d<(b.1.length:Int) then
 if(0:Int)<=i/\i<((b.1.getD d.toNat (Ty.zero (.sl (.int .i64)))).length:Int) then
 if(0:Int)<=((b.1.getD d.toNat (Ty.zero (.sl (.int .i64)))).getD i.toNat (Ty.zero (.int .i64)))/\((b.1.getD d.toNat (Ty.zero (.sl (.int .i64)))).getD i.toNat (Ty.zero (.int .i64)))<(j.length:Int) then
 some (.inl ((wI (i+1)),(j.set ((b.1.getD d.toNat (Ty.zero (.sl (.int .i64)))).getD i.toNat (Ty.zero (.int .i64))).toNat true)))
 else none
 else none
 else none
 else
 some (.inr j)
 else none
def D4(a:Axw)(d:Int)(b:Axm)(e:AxE)(z_:Int×Axt):=Ji a d b e z_.1 z_.2
def LN(a:Axw)(d:Int)(b:Axm)(e:AxE)(i:Int)(j:Axt):=fix (D4 a d b e) (i,j)
theorem Am7(a:Axw)(d:Int)(b:Axm)(e:AxE):AU E36 0 7 (sub (code Tryz.f75) [1,1,0,1,0,0]) [1,0,0,1,0,1,0] (AkP a d b e) (D4 a d b e) (AiE a d b e):=by
 intro _;simp only[D4,Ji,Axe];kernel_rfl
def Jj(a:Axw)(b:Axm)(d:Int)(e:AxE):Option ((Int×AxE)⊕AxE) :=
 bif decide (d<(a.length:Int)) then
 if(0:Int)<=d/\d<(a.length:Int) then
 if Ty.row .bool=true/\(0:Int)<=(wI ((a.getD d.toNat Ab.zero).2.1+1))/\(wI ((a.getD d.toNat Ab.zero).2.1+1))<=(wI ((a.getD d.toNat Ab.zero).2.1+1))/\((1:Nat):Int)*(wI ((a.getD d.toNat Ab.zero).2.1+1))<=(281474976710656:Int)/\(wI ((a.getD d.toNat Ab.zero).2.1+1))<=(9223372036854775807:Int) then
 (LN a d b e 0 (List.replicate (wI ((a.getD d.toNat Ab.zero).2.1+1)).toNat false)).bind λg =>
 if(e.length+([g]:AxE).length)*24<=140737488355328 then
 some (.inl ((wI (d+1)),(e++([g]:AxE))))
 else none
 else none
 else none
 else
 some (.inr e)
def D5(a:Axw)(b:Axm)(z_:Int×AxE):=Jj a b z_.1 z_.2
def Og(a:Axw)(b:Axm)(d:Int)(e:AxE):=fix (D5 a b) (d,e)
theorem Am8(a:Axw)(b:Axm):AU E36 0 3 (code Tryz.f75) [1,1,0,1,0] (AkQ a b) (D5 a b) (AiF a b):=by
 intro _;simp only[D5,Jj,Axe];simp(disch:=refine sI ?_<;>(repeat' refine sA ?_ ?_)<;>intro _<;>kernel_rfl) only[LN,Ax (Am7 _ _ _ _) (K:=Be 0 (E36.hd 3) (E36.ot 3))]
 kernel_rfl
def Ii(a:Axw)(b:Axm):Option AxE :=
 (Og a b 0 ([]:AxE)).bind λc =>
 some c
theorem U36(R:Type)(a:Axw)(b:Axm)(K:AV->List Blk->Option R):AH E36 Tryz.f75 R [dD (.sl Ab) a,dD Ah b] [] K=(Ii a b).bind λr=>K (.ref 0) [.row 104 .deep (.sl .bool) r]:=by
 simp only[Ii,Axf];simp(disch:=refine sI ?_<;>(repeat' refine sA ?_ ?_)<;>intro _<;>kernel_rfl) only[Og,Ax (Am8 _ _) (K:=AP E36 Tryz.f75 0 R K)]
 kernel_rfl
def c75:Va.Callee:=BX [.d (.sl Ab),.d Ah] [⟨[.dat [] (.sl Ab),.dat [] Ah],[],AxE,λp=>Ii p.1.1 p.1.2.1,λr=>(.ref 0,[.row 104 .deep (.sl .bool) r])⟩]
theorem ou:An Tryz.prog 75 c75:=Ap (fn:=Tryz.f75) (by kernel_rfl) (by kernel_rfl) (by kernel_rfl) ⟨⟨E36,⟨⟨Aw,Ao trivial⟩,mixed⟩,λp R K=>U36 R p.1.1 p.1.2.1 K⟩,trivial⟩
abbrev Vw:Env:=⟨tab,As [(188,Aci)],{deep:=true,heads:=[(5,{live:=[0,4,7,8],pre:=[(7,false,.row [] 199 Aa true)]}),(10,{live:=[4,7,9],pre:=[(7,false,.row [] 199 Aa true)]}),(15,{live:=[2,7,10],pre:=[(7,false,.row [] 199 Aa true)]}),(27,{live:=[4,7,11,12]}),(40,{live:=[2,4,7,15],pre:=[(7,false,.row [] 199 Aa true)]})],outs:=[(5,{live:=[7]}),(10,{live:=[7]}),(15,{live:=[7]}),(27,{live:=[7]}),(40,{live:=[7]})],joins:=[(22,{live:=[2,4,7,18,84]}),(25,{live:=[2,4,7,11]}),(32,{live:=[2,4,7,18,116]}),(36,{live:=[2,7,13,14]}),(43,{live:=[7],pre:=[(7,false,.row [] 199 Aa true)]})],ents:=[(22,[2,4,7,18]),(25,[2,4,7,11]),(32,[2,4,7,18]),(36,[2,4,7,13,14]),(43,[0,2,4,7])]}⟩
def Af3(a:Axw)(b:AxF)(c:Axj):St:=sT 167 [(0,dD (.sl Ab) a),(2,dD (.sl (.sl Aa)) b),(4,.ptr 0 0 [] 0),(7,.zs)] [.box (dD Ae c)]
def Afg(a:Axw)(b:AxF)(c:Axj):Axv->Ex×St:=λd=>(.normal,sT 167 [(7,.ref 0)] [.row 199 .deep Aa d])
def Af2(b:AxF)(c:Axj)(z_:Int×Axv):St:=sT 167 [(2,dD (.sl (.sl Aa)) b),(4,.ptr 0 0 [] 0),(7,.ref 1),(15,dI z_.1)] [.box (dD Ae c),.row 199 .deep Aa z_.2]
def Aff(b:AxF)(c:Axj):Axv->Ex×St:=λe=>((.exit 9),sT 167 [(7,.ref 0)] [.row 199 .deep Aa e])
def Je(b:AxF)(c:Axj)(g:Int)(i:Axv):Option ((Int×Axv)⊕Axv) :=
 bif decide (g<c.2.2.1) then
 if(0:Int)<=(0:Int)/\(0:Int)<(b.length:Int) then
 if(i.length+(b.getD 0 (Ty.zero (.sl Aa))).length)*16<=140737488355328 then
 some (.inl ((wI (g+1)),(i++(b.getD 0 (Ty.zero (.sl Aa))))))
 else none
 else none
 else
 some (.inr i)
def DZ(b:AxF)(c:Axj)(z_:Int×Axv):=Je b c z_.1 z_.2
def LF(b:AxF)(c:Axj)(g:Int)(i:Axv):=fix (DZ b c) (g,i)
theorem AgQ(b:AxF)(c:Axj):AU Vw 0 40 (sub (code Tryz.f143) [1,1,0]) [1,0,1,1,1,1,1,1,1,1,1,1,1,1,1,0,1,0] (Af2 b c) (DZ b c) (Aff b c):=by
 intro _;simp only[DZ,Je,Axe];kernel_rfl
def Af1(b:AxF)(c:Axj)(j k:Int):St:=sT 167 [(2,dD (.sl (.sl Aa)) b),(4,.ptr 0 0 [] 0),(7,.zs),(13,dI j),(14,dI k)] [.box (dD Ae c)]
def Afe(b:AxF)(c:Axj)(j k:Int):Int->Ex×St:=λl=>(.normal,sT 167 [(2,dD (.sl (.sl Aa)) b),(7,.zs),(13,dI j),(14,dI l)] [])
def Iq(b:AxF)(c:Axj)(j k:Int):Option Int :=
 bif c.1==8 then
 if j=(0:Int) then none else
 some (Int.tmod (wI (j-k)) j)
 else
 some k
theorem AgP(b:AxF)(c:Axj)(j k:Int):AL Vw 0 36 (sub (code Tryz.f143) [1,1,0]) [1,0,1,1,1,1,1,1,1,1,1,1,1,0,1,1,0] (Af1 b c j k) (Iq b c j k) (Afe b c j k):=by
 unfold AL;simp only[Iq,Axe];kernel_rfl
def kD(b:AxF)(c:Axj):St:=sT 167 [(2,dD (.sl (.sl Aa)) b),(4,.ptr 0 0 [] 0),(7,.zs),(18,dI c.1)] [.box (dD Ae c)]
def kr(b:AxF)(c:Axj)(m0:Bool):Ex×St:=(.normal,sT 167 [(2,dD (.sl (.sl Aa)) b),(4,.ptr 0 0 [] 0),(7,.zs),(18,dI c.1),(116,dB m0)] [.box (dD Ae c)])
theorem AgO(b:AxF)(c:Axj):Mn Vw 0 32 (sub (code Tryz.f143) [1,1,0]) [1,0,1,1,1,1,1,1,1,1,1,1,0] (kD b c)=some (kr b c (bif c.1==7 then(c.1==7) else(c.1==8))):=by
 have h0:Mn Vw 0 32 (sub (code Tryz.f143) [1,1,0]) [1,0,1,1,1,1,1,1,1,1,1,1,0] (kD b c) =
 bif c.1==7 then
 some (kr b c (c.1==7))
 else
 some (kr b c (c.1==8)):=by kernel_rfl
 rw[h0];cases h1:(c.1==7)
 ·first | rfl | kernel_rfl
 ·first | rfl | kernel_rfl
def Af0(c:Axj)(z_:Int×Axv):St:=sT 167 [(4,.ptr 0 0 [] 0),(7,.ref 1),(11,.ptr 2 0 [] 0),(12,dI z_.1)] [.box (dD Ae c),.row 199 .deep Aa z_.2,.box (.pr (dI (-1)) (.pr (dI 0) .u))]
def Afd(c:Axj):Axv->Ex×St:=λn=>((.exit 7),sT 167 [(7,.ref 0)] [.row 199 .deep Aa n])
def Jd(c:Axj)(o:Int)(q:Axv):Option ((Int×Axv)⊕Axv) :=
 bif decide (o<c.2.2.1) then
 if(q.length+([((-1),0,())]:Axv).length)*16<=140737488355328 then
 some (.inl ((wI (o+1)),(q++([((-1),0,())]:Axv))))
 else none
 else
 some (.inr q)
def DY(c:Axj)(z_:Int×Axv):=Jd c z_.1 z_.2
def LD(c:Axj)(o:Int)(q:Axv):=fix (DY c) (o,q)
theorem AgN(c:Axj):AU Vw 0 27 (sub (code Tryz.f143) [1,1,0]) [1,0,1,1,1,1,1,1,1,1,1,0,1,1,1,1,0] (Af0 c) (DY c) (Afd c):=by
 intro _;simp only[DY,Jd,Axe];kernel_rfl
def AfZ(c:Axj)(s:Axg)(z_:Int×Axv):St:=sT 167 [(4,.ptr 0 0 [] 0),(7,.ref 1),(11,.ptr 2 0 [] 0),(12,dI z_.1)] [.box (dD Ae c),.row 199 .deep Aa z_.2,.box (dD Aa s)]
def Afc(c:Axj)(s:Axg):Axv->Ex×St:=λt=>((.exit 7),sT 167 [(7,.ref 0)] [.row 199 .deep Aa t])
def Jc(c:Axj)(s:Axg)(u:Int)(v:Axv):Option ((Int×Axv)⊕Axv) :=
 bif decide (u<c.2.2.1) then
 if(v.length+([s]:Axv).length)*16<=140737488355328 then
 some (.inl ((wI (u+1)),(v++([s]:Axv))))
 else none
 else
 some (.inr v)
def DX(c:Axj)(s:Axg)(z_:Int×Axv):=Jc c s z_.1 z_.2
def LC(c:Axj)(s:Axg)(u:Int)(v:Axv):=fix (DX c s) (u,v)
theorem AgM(c:Axj)(s:Axg):AU Vw 0 27 (sub (code Tryz.f143) [1,1,0]) [1,0,1,1,1,1,1,1,1,1,1,0,1,1,1,1,0] (AfZ c s) (DX c s) (Afc c s):=by
 intro _;simp only[DX,Jc,Axe];kernel_rfl
def AfY(b:AxF)(c:Axj):St:=sT 167 [(2,dD (.sl (.sl Aa)) b),(4,.ptr 0 0 [] 0),(7,.zs),(11,.ptr 1 0 [] 0)] [.box (dD Ae c),.box (.pr (dI (-1)) (.pr (dI 0) .u))]
def Afb(b:AxF)(c:Axj):(Unit⊕Unit)->Ex×St:=Sum.elim (λw=>(.normal,sT 167 [(2,dD (.sl (.sl Aa)) b),(4,.ptr 0 0 [] 0),(7,.zs),(11,.ptr 1 0 [] 0)] [.box (dD Ae c),.box (dD Aa ((b.getD 0 (Ty.zero (.sl Aa))).getD (wI (((b.getD 0 (Ty.zero (.sl Aa))).length:Int)-1)).toNat Aa.zero))])) (λx=>(.normal,sT 167 [(2,dD (.sl (.sl Aa)) b),(4,.ptr 0 0 [] 0),(7,.zs),(11,.ptr 1 0 [] 0)] [.box (dD Ae c),.box (.pr (dI (-1)) (.pr (dI 0) .u))]))
def Ef(b:AxF)(c:Axj):Option (Unit⊕Unit) :=
 bif c.1==6 then
 if(0:Int)<=(0:Int)/\(0:Int)<(b.length:Int) then
 if(0:Int)<=(0:Int)/\(0:Int)<(b.length:Int) then
 if(0:Int)<=(wI (((b.getD 0 (Ty.zero (.sl Aa))).length:Int)-1))/\(wI (((b.getD 0 (Ty.zero (.sl Aa))).length:Int)-1))<((b.getD 0 (Ty.zero (.sl Aa))).length:Int) then
 some (.inl ())
 else none
 else none
 else none
 else
 some (.inr ())
theorem AgL(b:AxF)(c:Axj):AL Vw 0 25 (sub (code Tryz.f143) [1,1,0]) [1,0,1,1,1,1,1,1,1,1,1,0,1,0] (AfY b c) (Ef b c) (Afb b c):=by
 unfold AL;simp only[Ef,Axe];kernel_rfl
def kC(b:AxF)(c:Axj):St:=sT 167 [(2,dD (.sl (.sl Aa)) b),(4,.ptr 0 0 [] 0),(7,.zs),(18,dI c.1)] [.box (dD Ae c)]
def ko(b:AxF)(c:Axj)(m0:Bool):Ex×St:=(.normal,sT 167 [(2,dD (.sl (.sl Aa)) b),(4,.ptr 0 0 [] 0),(7,.zs),(18,dI c.1),(84,dB m0)] [.box (dD Ae c)])
theorem AgK(b:AxF)(c:Axj):Mn Vw 0 22 (sub (code Tryz.f143) [1,1,0]) [1,0,1,1,1,1,1,1,1,1,0] (kC b c)=some (ko b c (bif c.1==5 then(c.1==5) else(c.1==6))):=by
 have h0:Mn Vw 0 22 (sub (code Tryz.f143) [1,1,0]) [1,0,1,1,1,1,1,1,1,1,0] (kC b c) =
 bif c.1==5 then
 some (ko b c (c.1==5))
 else
 some (ko b c (c.1==6)):=by kernel_rfl
 rw[h0];cases h1:(c.1==5)
 ·first | rfl | kernel_rfl
 ·first | rfl | kernel_rfl
def AfX(b:AxF)(z_:Int×Axv):St:=sT 167 [(2,dD (.sl (.sl Aa)) b),(7,.ref 0),(10,dI z_.1)] [.row 199 .deep Aa z_.2]
def Afa(b:AxF):Axv->Ex×St:=λy=>((.exit 5),sT 167 [(7,.ref 0)] [.row 199 .deep Aa y])
def Jb(b:AxF)(a1:Int)(b1:Axv):Option ((Int×Axv)⊕Axv) :=
 bif decide (a1>=0) then
 if(0:Int)<=a1/\a1<(b.length:Int) then
 if(b1.length+(b.getD a1.toNat (Ty.zero (.sl Aa))).length)*16<=140737488355328 then
 some (.inl ((wI (a1-1)),(b1++(b.getD a1.toNat (Ty.zero (.sl Aa))))))
 else none
 else none
 else
 some (.inr b1)
def CH(b:AxF)(z_:Int×Axv):=Jb b z_.1 z_.2
def LB(b:AxF)(a1:Int)(b1:Axv):=fix (CH b) (a1,b1)
theorem AgJ(b:AxF):AU Vw 0 15 (sub (code Tryz.f143) [1,1,0]) [1,0,1,1,1,1,1,0,1,0] (AfX b) (CH b) (Afa b):=by
 intro _;simp only[CH,Jb,Axe];kernel_rfl
def AfW(c:Axj)(z_:Int×Axv):St:=sT 167 [(4,.ptr 0 0 [] 0),(7,.ref 1),(9,dI z_.1)] [.box (dD Ae c),.row 199 .deep Aa z_.2]
def Ae9(c:Axj):Axv->Ex×St:=λc1=>((.exit 3),sT 167 [(7,.ref 0)] [.row 199 .deep Aa c1])
def Ja(c:Axj)(d1:Int)(e1:Axv):Option ((Int×Axv)⊕Axv) :=
 bif decide (d1<c.2.2.2.2.1.1) then
 (Fv c.2.2.2.2.1 d1).bind λg1 =>
 if(e1.length+([((-1),(wI g1),())]:Axv).length)*16<=140737488355328 then
 some (.inl ((wI (d1+1)),(e1++([((-1),(wI g1),())]:Axv))))
 else none
 else
 some (.inr e1)
def DW(c:Axj)(z_:Int×Axv):=Ja c z_.1 z_.2
def LA(c:Axj)(d1:Int)(e1:Axv):=fix (DW c) (d1,e1)
theorem AgI(c:Axj):AU Vw 0 10 (sub (code Tryz.f143) [1,1,0]) [1,0,1,1,1,0,1,0] (AfW c) (DW c) (Ae9 c):=by
 intro _;simp only[DW,Ja,Axe];kernel_rfl
def AfV(a:Axw)(c:Axj)(z_:Int×Axv):St:=sT 167 [(0,dD (.sl Ab) a),(4,.ptr 0 0 [] 0),(7,.ref 1),(8,dI z_.1)] [.box (dD Ae c),.row 199 .deep Aa z_.2]
def Ae8(a:Axw)(c:Axj):Axv->Ex×St:=λi1=>((.exit 1),sT 167 [(7,.ref 0)] [.row 199 .deep Aa i1])
def I9(a:Axw)(c:Axj)(j1:Int)(k1:Axv):Option ((Int×Axv)⊕Axv) :=
 if(0:Int)<=c.2.1/\c.2.1<(a.length:Int) then
 bif decide (j1<(a.getD c.2.1.toNat Ab.zero).2.1) then
 if(k1.length+([(c.2.1,j1,())]:Axv).length)*16<=140737488355328 then
 some (.inl ((wI (j1+1)),(k1++([(c.2.1,j1,())]:Axv))))
 else none
 else
 some (.inr k1)
 else none
def DV(a:Axw)(c:Axj)(z_:Int×Axv):=I9 a c z_.1 z_.2
def Lz(a:Axw)(c:Axj)(j1:Int)(k1:Axv):=fix (DV a c) (j1,k1)
theorem AgH(a:Axw)(c:Axj):AU Vw 0 5 (sub (code Tryz.f143) [1,1,0]) [1,0,1,0,1,0] (AfV a c) (DV a c) (Ae8 a c):=by
 intro _;simp only[DV,I9,Axe];kernel_rfl
def LG(a:Axw)(b:AxF)(c:Axj):Option Axv :=
 bif c.1==1 then
 (Lz a c 0 ([]:Axv)).bind λi1 =>
 some i1
 else
 bif c.1==2 then
 (LA c 0 ([]:Axv)).bind λc1 =>
 some c1
 else
 bif c.1==3 then
 (LB b (wI ((b.length:Int)-1)) ([]:Axv)).bind λy =>
 some y
 else
 bif c.1==4 then
 if(0:Int)<=(0:Int)/\(0:Int)<(b.length:Int) then
 if(0:Int)<=c.2.2.2.1/\c.2.2.2.1<=(wI (c.2.2.1+1))/\(wI (c.2.2.1+1))<=((b.getD 0 (Ty.zero (.sl Aa))).length:Int) then
 if(((b.getD 0 (Ty.zero (.sl Aa))).take (wI (c.2.2.1+1)).toNat).drop c.2.2.2.1.toNat).length*16<=140737488355328 then
 some (((b.getD 0 (Ty.zero (.sl Aa))).take (wI (c.2.2.1+1)).toNat).drop c.2.2.2.1.toNat)
 else none
 else none
 else none
 else
 N8 (kC b c) (
 bif bif (c.1==5) then(c.1==5) else(c.1==6) then
 (Ef b c).bind (Sum.elim (λw =>
 if(0:Int)<=(0:Int)/\(0:Int)<(b.length:Int) then
 if(b.getD 0 (Ty.zero (.sl Aa))).length*16<=140737488355328 then
 (LC c ((b.getD 0 (Ty.zero (.sl Aa))).getD (wI (((b.getD 0 (Ty.zero (.sl Aa))).length:Int)-1)).toNat Aa.zero) 0 (b.getD 0 (Ty.zero (.sl Aa)))).bind λt =>
 some t
 else none
 else none) (λx =>
 if(0:Int)<=(0:Int)/\(0:Int)<(b.length:Int) then
 if(b.getD 0 (Ty.zero (.sl Aa))).length*16<=140737488355328 then
 (LD c 0 (b.getD 0 (Ty.zero (.sl Aa)))).bind λn =>
 some n
 else none
 else none))
 else
 N8 (kD b c) (
 bif bif (c.1==7) then(c.1==7) else(c.1==8) then
 if(0:Int)<=(0:Int)/\(0:Int)<(b.length:Int) then
 if((b.getD 0 (Ty.zero (.sl Aa))).length:Int)=(0:Int) then none else
 (Iq b c ((b.getD 0 (Ty.zero (.sl Aa))).length:Int) (Int.tmod c.2.2.1 ((b.getD 0 (Ty.zero (.sl Aa))).length:Int))).bind λl =>
 if(0:Int)<=(0:Int)/\(0:Int)<(b.length:Int) then
 if(0:Int)<=(wI (((b.getD 0 (Ty.zero (.sl Aa))).length:Int)-l))/\(wI (((b.getD 0 (Ty.zero (.sl Aa))).length:Int)-l))<=((b.getD 0 (Ty.zero (.sl Aa))).length:Int)/\((b.getD 0 (Ty.zero (.sl Aa))).length:Int)<=((b.getD 0 (Ty.zero (.sl Aa))).length:Int) then
 if(((b.getD 0 (Ty.zero (.sl Aa))).take ((b.getD 0 (Ty.zero (.sl Aa))).length:Int).toNat).drop (wI (((b.getD 0 (Ty.zero (.sl Aa))).length:Int)-l)).toNat).length*16<=140737488355328 then
 if(0:Int)<=(0:Int)/\(0:Int)<(b.length:Int) then
 if(0:Int)<=(0:Int)/\(0:Int)<=(wI (((b.getD 0 (Ty.zero (.sl Aa))).length:Int)-l))/\(wI (((b.getD 0 (Ty.zero (.sl Aa))).length:Int)-l))<=((b.getD 0 (Ty.zero (.sl Aa))).length:Int) then
 if((((b.getD 0 (Ty.zero (.sl Aa))).take ((b.getD 0 (Ty.zero (.sl Aa))).length:Int).toNat).drop (wI (((b.getD 0 (Ty.zero (.sl Aa))).length:Int)-l)).toNat).length+(((b.getD 0 (Ty.zero (.sl Aa))).take (wI (((b.getD 0 (Ty.zero (.sl Aa))).length:Int)-l)).toNat).drop 0).length)*16<=140737488355328 then
 some ((((b.getD 0 (Ty.zero (.sl Aa))).take ((b.getD 0 (Ty.zero (.sl Aa))).length:Int).toNat).drop (wI (((b.getD 0 (Ty.zero (.sl Aa))).length:Int)-l)).toNat)++(((b.getD 0 (Ty.zero (.sl Aa))).take (wI (((b.getD 0 (Ty.zero (.sl Aa))).length:Int)-l)).toNat).drop 0))
 else none
 else none
 else none
 else none
 else none
 else none
 else none
 else
 bif c.1==9 then
 (LF b c 0 ([]:Axv)).bind λe =>
 some e
 else
 some ([]:Axv)))
theorem AgR(a:Axw)(b:AxF)(c:Axj):AL Vw 0 43 (code Tryz.f143) [1,1,0] (Af3 a b c) (LG a b c) (Afg a b c):=by
 unfold AL;simp only[LG,Axe];simp(disch:=refine sI ?_<;>(repeat' refine sA ?_ ?_)<;>intro _<;>kernel_rfl) only[Lz,Ax (AgH _ _) (K:=CU 0 (Vw.jn 43)),LA,Ax (AgI _) (K:=CU 0 (Vw.jn 43)),LB,Ax (AgJ _) (K:=CU 0 (Vw.jn 43)),F7 (AgK _ _) (K:=CU 0 (Vw.jn 43)),A6 (AgL _ _) (K:=CU 0 (Vw.jn 43)),LC,Ax (AgM _ _) (K:=CU 0 (Vw.jn 43)),LD,Ax (AgN _) (K:=CU 0 (Vw.jn 43)),F7 (AgO _ _) (K:=CU 0 (Vw.jn 43)),A6 (AgP _ _ _ _) (K:=CU 0 (Vw.jn 43)),LF,Ax (AgQ _ _) (K:=CU 0 (Vw.jn 43))]
 kernel_rfl
def Mk(a:Axw)(c:Axj)(b:AxF):Option Axv :=
 (LG a b c).bind λd =>
 some d
theorem U37(R:Type)(a:Axw)(c:Axj)(b:AxF)(K:AV->List Blk->Option R):AH Vw Tryz.f143 R [dD (.sl Ab) a,dD Ae c,dD (.sl (.sl Aa)) b] [] K=(Mk a c b).bind λr=>K (.ref 0) [.row 199 .deep Aa r]:=by
 simp only[Mk,Axf];simp(disch:=refine sI ?_<;>(repeat' refine sA ?_ ?_)<;>intro _<;>kernel_rfl) only[A6 (AgR _ _ _) (K:=AP Vw Tryz.f143 0 R K)]
 kernel_rfl
def c143:Va.Callee:=BX [.d (.sl Ab),.d Ae,.d (.sl (.sl Aa))] [⟨[.dat [] (.sl Ab),.dat [] Ae,.dat [] (.sl (.sl Aa))],[],Axv,λp=>Mk p.1.1 p.1.2.1 p.1.2.2.1,λr=>(.ref 0,[.row 199 .deep Aa r])⟩]
theorem wY:An Tryz.prog 143 c143:=Ap (fn:=Tryz.f143) (by kernel_rfl) (by kernel_rfl) (by kernel_rfl) ⟨⟨Vw,⟨⟨Aw,Ao ⟨WE,trivial⟩⟩,mixed⟩,λp R K=>U37 R p.1.1 p.1.2.1 p.1.2.2.1 K⟩,trivial⟩
abbrev E38:Env:=⟨tab,As [],{deep:=true,heads:=[(5,{live:=[0,2,4,5]})],outs:=[(5,{live:=[2,4]})],joins:=[(2,{live:=[0,2,13]})],ents:=[(2,[0,2])],res:=[(0,.row [1] 216 (.int .u64) true)]}⟩
def AkR(a:Axs)(b:Int)(z_:Int×Axs):St:=sT 51 [(0,dD (.sl (.int .u8)) a),(2,.ptr 0 0 [] 0),(4,.ptr 1 0 [] 0),(5,dI z_.1)] [.box (.pr (dI 0) (.pr .zs .u)),.box (.pr (dI b) (.pr (.ref 2) .u)),.row 216 .deep (.int .u64) z_.2]
def AiG(a:Axs)(b:Int):Axs->Ex×St:=λc=>((.exit 0),sT 51 [(2,.ptr 0 0 [] 0),(4,.ptr 1 0 [] 0)] [.box (.pr (dI 0) (.pr .zs .u)),.box (.pr (dI b) (.pr (.ref 2) .u)),.row 216 .deep (.int .u64) c])
def Ku(a:Axs)(b d:Int)(e:Axs):Option ((Int×Axs)⊕Axs) :=
 bif decide (d<(a.length:Int)) then
 if(0:Int)<=(wI (Int.tdiv d 64))/\(wI (Int.tdiv d 64))<(e.length:Int) then
 if(0:Int)<=d/\d<(a.length:Int) then
 if(IntKind.u64.wrap (Int.tmod d 64))<(0:Int) then none else
 if(0:Int)<=(wI (Int.tdiv d 64))/\(wI (Int.tdiv d 64))<(e.length:Int) then
 some (.inl ((wI (d+1)),(e.set (wI (Int.tdiv d 64)).toNat (V4 .u64 (e.getD (wI (Int.tdiv d 64)).toNat (Ty.zero (.int .u64))) (Lf .u64 (IntKind.u64.wrap (a.getD d.toNat (Ty.zero (.int .u8)))) (IntKind.u64.wrap (Int.tmod d 64)))))))
 else none
 else none
 else none
 else
 some (.inr e)
def Hm(a:Axs)(b:Int)(z_:Int×Axs):=Ku a b z_.1 z_.2
def Pp(a:Axs)(b d:Int)(e:Axs):=fix (Hm a b) (d,e)
theorem Ana(a:Axs)(b:Int):AU E38 0 5 (code Tryz.f111) [1,1,1,0,1,0] (AkR a b) (Hm a b) (AiG a b):=by
 intro _;simp only[Hm,Ku,Axe];kernel_rfl
def vF(a:Axs):St:=sT 51 [(0,dD (.sl (.int .u8)) a),(2,.ptr 0 0 [] 0)] [.box (.pr (dI 0) (.pr .zs .u))]
def uK(a:Axs)(m0:Bool):Ex×St:=(.normal,sT 51 [(0,dD (.sl (.int .u8)) a),(2,.ptr 0 0 [] 0),(13,dB m0)] [.box (.pr (dI 0) (.pr .zs .u))])
theorem Am9(a:Axs):Mn E38 0 2 (code Tryz.f111) [1,0,0] (vF a)=some (uK a ((decide ((a.length:Int)<1))||(decide ((a.length:Int)>4096)))):=by
 have h0:Mn E38 0 2 (code Tryz.f111) [1,0,0] (vF a) =
 bif decide ((a.length:Int)<1) then
 some (uK a true)
 else
 some (uK a (decide ((a.length:Int)>4096))):=by kernel_rfl
 rw[h0];cases h1:(decide ((a.length:Int)<1))
 ·first | rfl | kernel_rfl
 ·first | rfl | kernel_rfl
def JM(a:Axs):Option (Int×Bool×Axs) :=
 N8 (vF a) (
 bif (decide ((a.length:Int)<1))||(decide ((a.length:Int)>4096)) then
 some (0,false,([]:Axs))
 else
 if Ty.row (.int .u64)=true/\(0:Int)<=(wI (Int.tdiv (wI ((a.length:Int)+63)) 64))/\(wI (Int.tdiv (wI ((a.length:Int)+63)) 64))<=(wI (Int.tdiv (wI ((a.length:Int)+63)) 64))/\((8:Nat):Int)*(wI (Int.tdiv (wI ((a.length:Int)+63)) 64))<=(281474976710656:Int)/\(wI (Int.tdiv (wI ((a.length:Int)+63)) 64))<=(9223372036854775807:Int) then
 (Pp a (a.length:Int) 0 (List.replicate (wI (Int.tdiv (wI ((a.length:Int)+63)) 64)).toNat 0)).bind λc =>
 some ((a.length:Int),true,c)
 else none)
theorem U38(R:Type)(a:Axs)(K:AV->List Blk->Option R):AH E38 Tryz.f111 R [dD (.sl (.int .u8)) a] [] K=(JM a).bind λr=>K (.cons (.pr (dI r.1) (.pr (.ref 0) .u)) (.cons (dB r.2.1) .nil)) [.row 216 .deep (.int .u64) r.2.2]:=by
 simp only[JM,Axf];simp(disch:=refine sI ?_<;>(repeat' refine sA ?_ ?_)<;>intro _<;>kernel_rfl) only[F7 (Am9 _) (K:=AP E38 Tryz.f111 0 R K),Pp,Ax (Ana _ _) (K:=AP E38 Tryz.f111 0 R K)]
 kernel_rfl
def Ag2:Va.Callee:=BX [.d (.sl (.int .u8))] [⟨[.dat [] (.sl (.int .u8))],[],(Int×Bool×Axs),λp=>JM p.1.1,λr=>(.cons (.pr (dI r.1) (.pr (.ref 0) .u)) (.cons (dB r.2.1) .nil),[.row 216 .deep (.int .u64) r.2.2])⟩]
theorem eO:An Tryz.prog 111 Ag2:=Ap (fn:=Tryz.f111) (by kernel_rfl) (by kernel_rfl) (by kernel_rfl) ⟨⟨E38,⟨⟨Aw,Ao trivial⟩,mixed⟩,λp R K=>U38 R p.1.1 K⟩,trivial⟩
abbrev dQ:Env:=⟨tab,As [(111,Ag2)],{deep:=true,heads:=[(3,{live:=[0,4,5],pre:=[(4,false,.row [] 238 Ad true)]}),(7,{live:=[0,4,6,7]}),(12,{live:=[0,4,5,6]})],outs:=[(3,{live:=[4]}),(7,{live:=[0,4,6,7],Ow:=[(7,false,(.sl (.int .u8)))]}),(12,{live:=[0,4,5,6]})],joins:=[(8,{live:=[0,4,6,7]}),(13,{live:=[0,4,5,6]}),(15,{live:=[0,4,6]})],ents:=[(8,[0,4,6,7]),(13,[0,4,5,6]),(15,[0,4,5,6])]}⟩
def Af4(a:Axv)(z_:Int×Axx):St:=sT 121 [(0,dD (.sl Aa) a),(4,.ref 0),(5,dI z_.1)] [.row 238 .deep Ad z_.2]
def Afh(a:Axv):Axx->Ex×St:=λb=>((.exit 0),sT 121 [(4,.ref 0)] [.row 238 .deep Ad b])
def AkW(a:Axv)(c:Int)(d:Axx)(e:Int):St:=sT 121 [(0,dD (.sl Aa) a),(4,.ref 0),(5,dI c),(6,dI e)] [.row 238 .deep Ad d]
def AiL(a:Axv)(c:Int)(d:Axx)(e:Int):(Int×Axx)->Ex×St:=λg=>(.normal,sT 121 [(0,dD (.sl Aa) a),(4,.ref 0),(6,dI g.1)] [.row 238 .deep Ad g.2])
def AkV(a:Axv)(c:Int)(d:Axx)(z_:Int):St:=sT 121 [(0,dD (.sl Aa) a),(4,.ref 0),(5,dI c),(6,dI z_)] [.row 238 .deep Ad d]
def AiK(a:Axv)(c:Int)(d:Axx):Int->Ex×St:=λi=>((.exit 4),sT 121 [(0,dD (.sl Aa) a),(4,.ref 0),(5,dI c),(6,dI i)] [.row 238 .deep Ad d])
def AkU(a:Axv)(c j:Int)(d:Axx):St:=sT 121 [(0,dD (.sl Aa) a),(4,.ref 0),(5,dI c),(6,dI j)] [.row 238 .deep Ad d]
def AiJ(a:Axv)(c j:Int)(d:Axx):(Unit⊕Unit)->Ex×St:=Sum.elim (λk=>(.normal,sT 121 [(0,dD (.sl Aa) a),(4,.ref 0),(5,dI c),(6,dI j)] [.row 238 .deep Ad d])) (λl=>((.exit 4),sT 121 [(0,dD (.sl Aa) a),(4,.ref 0),(5,dI c),(6,dI j)] [.row 238 .deep Ad d]))
def MY(a:Axv)(c j:Int)(d:Axx):Option (Unit⊕Unit) :=
 bif decide (j<(a.length:Int)) then
 if(0:Int)<=j/\j<(a.length:Int) then
 if(0:Int)<=c/\c<(a.length:Int) then
 bif (a.getD j.toNat Aa.zero).1==(a.getD c.toNat Aa.zero).1 then
 if(0:Int)<=j/\j<(a.length:Int) then
 if(0:Int)<=(wI (j-1))/\(wI (j-1))<(a.length:Int) then
 bif (a.getD j.toNat Aa.zero).2.1==(wI ((a.getD (wI (j-1)).toNat Aa.zero).2.1+1)) then
 some (.inl ())
 else
 some (.inr ())
 else none
 else none
 else
 some (.inr ())
 else none
 else none
 else
 some (.inr ())
theorem Ane(a:Axv)(c j:Int)(d:Axx):AL dQ 0 13 (sub (sub (sub (code Tryz.f144) [1,1,1,0,0,0]) [1,0,1,0]) [1,1,0,0,0]) [0] (AkU a c j d) (MY a c j d) (AiJ a c j d):=by
 unfold AL;simp only[MY,Axe];kernel_rfl
def NF(a:Axv)(c:Int)(d:Axx)(j:Int):Option (Int⊕Int) :=
 (MY a c j d).bind (Sum.elim (λk =>
 some (.inl (wI (j+1)))) (λl =>
 some (.inr j)))
def KD(a:Axv)(c:Int)(d:Axx)(z_:Int):=NF a c d z_
def MZ(a:Axv)(c:Int)(d:Axx)(j:Int):=fix (KD a c d) j
theorem Anf(a:Axv)(c:Int)(d:Axx):AU dQ 0 12 (sub (sub (code Tryz.f144) [1,1,1,0,0,0]) [1,0,1,0]) [1,1,0,0] (AkV a c d) (KD a c d) (AiK a c d):=by
 intro _;simp only[KD,NF,Axe];simp(disch:=refine sI ?_<;>(repeat' refine sA ?_ ?_)<;>intro _<;>kernel_rfl) only[A6 (Ane _ _ _ _) (K:=Be 0 (dQ.hd 12) (dQ.ot 12))]
 kernel_rfl
def AkT(a:Axv)(d:Axx)(z_:Int×Axs):St:=sT 121 [(0,dD (.sl Aa) a),(4,.ref 0),(6,dI z_.1),(7,.ref 1)] [.row 238 .deep Ad d,.row 5 .deep (.int .u8) z_.2]
def AiI(a:Axv)(d:Axx):(Int×Axs)->Ex×St:=λn=>((.exit 2),sT 121 [(0,dD (.sl Aa) a),(4,.ref 0),(6,dI n.1),(7,dD (.sl (.int .u8)) n.2)] [.row 238 .deep Ad d])
def AkS(a:Axv)(o:Int)(d:Axx)(q:Axs):St:=sT 121 [(0,dD (.sl Aa) a),(4,.ref 0),(6,dI o),(7,.ref 1)] [.row 238 .deep Ad d,.row 5 .deep (.int .u8) q]
def AiH(a:Axv)(o:Int)(d:Axx)(q:Axs):(Unit⊕Unit)->Ex×St:=Sum.elim (λs=>(.normal,sT 121 [(0,dD (.sl Aa) a),(4,.ref 0),(6,dI o),(7,.ref 1)] [.row 238 .deep Ad d,.row 5 .deep (.int .u8) q])) (λt=>((.exit 2),sT 121 [(0,dD (.sl Aa) a),(4,.ref 0),(6,dI o),(7,.ref 1)] [.row 238 .deep Ad d,.row 5 .deep (.int .u8) q]))
def MW(a:Axv)(o:Int)(d:Axx)(q:Axs):Option (Unit⊕Unit) :=
 bif decide (o<(a.length:Int)) then
 if(0:Int)<=o/\o<(a.length:Int) then
 bif decide ((a.getD o.toNat Aa.zero).1<0) then
 some (.inl ())
 else
 some (.inr ())
 else none
 else
 some (.inr ())
theorem Anb(a:Axv)(o:Int)(d:Axx)(q:Axs):AL dQ 0 8 (sub (sub (sub (code Tryz.f144) [1,1,1,0,0,0]) [1,0,1,0]) [1,0,1,0,0,0]) [0] (AkS a o d q) (MW a o d q) (AiH a o d q):=by
 unfold AL;simp only[MW,Axe];kernel_rfl
def ND(a:Axv)(d:Axx)(o:Int)(q:Axs):Option ((Int×Axs)⊕(Int×Axs)) :=
 (MW a o d q).bind (Sum.elim (λs =>
 if(0:Int)<=o/\o<(a.length:Int) then
 if(q.length+([(IntKind.u8.wrap (a.getD o.toNat Aa.zero).2.1)]:Axs).length)*1<=140737488355328 then
 some (.inl ((wI (o+1)),(q++([(IntKind.u8.wrap (a.getD o.toNat Aa.zero).2.1)]:Axs))))
 else none
 else none) (λt =>
 some (.inr (o,q))))
def KC(a:Axv)(d:Axx)(z_:Int×Axs):=ND a d z_.1 z_.2
def MX(a:Axv)(d:Axx)(o:Int)(q:Axs):=fix (KC a d) (o,q)
theorem Anc(a:Axv)(d:Axx):AU dQ 0 7 (sub (sub (code Tryz.f144) [1,1,1,0,0,0]) [1,0,1,0]) [1,0,1,0,0] (AkT a d) (KC a d) (AiI a d):=by
 intro _;simp only[KC,ND,Axe];simp(disch:=refine sI ?_<;>(repeat' refine sA ?_ ?_)<;>intro _<;>kernel_rfl) only[A6 (Anb _ _ _ _) (K:=Be 0 (dQ.hd 7) (dQ.ot 7))]
 kernel_rfl
def M0(a:Axv)(c:Int)(d:Axx)(e:Int):Option (Int×Axx) :=
 if(0:Int)<=c/\c<(a.length:Int) then
 bif decide ((a.getD c.toNat Aa.zero).1<0) then
 if(0:Int)<=c/\c<(a.length:Int) then
 (MX a d e ([(IntKind.u8.wrap (a.getD c.toNat Aa.zero).2.1)]:Axs)).bind λn =>
 (JM n.2).bind λu =>
 if(d.length+([((-1),0,u.1,(u.1,u.2.2,()),())]:Axx).length)*56<=140737488355328 then
 some (n.1,(d++([((-1),0,u.1,(u.1,u.2.2,()),())]:Axx)))
 else none
 else none
 else
 (MZ a c d e).bind λi =>
 if(0:Int)<=c/\c<(a.length:Int) then
 if(0:Int)<=c/\c<(a.length:Int) then
 if(d.length+([((a.getD c.toNat Aa.zero).1,(a.getD c.toNat Aa.zero).2.1,(wI (i-c)),(0,([]:Axs),()),())]:Axx).length)*56<=140737488355328 then
 some (i,(d++([((a.getD c.toNat Aa.zero).1,(a.getD c.toNat Aa.zero).2.1,(wI (i-c)),(0,([]:Axs),()),())]:Axx)))
 else none
 else none
 else none
 else none
theorem Ang(a:Axv)(c:Int)(d:Axx)(e:Int):AL dQ 0 15 (sub (code Tryz.f144) [1,1,1,0,0,0]) [1,0,1,0] (AkW a c d e) (M0 a c d e) (AiL a c d e):=by
 unfold AL;simp only[M0,Axe];simp(disch:=refine sI ?_<;>(repeat' refine sA ?_ ?_)<;>intro _<;>kernel_rfl) only[MX,Ax (Anc _ _) (K:=CU 0 (dQ.jn 15)),MZ,Ax (Anf _ _ _) (K:=CU 0 (dQ.jn 15))]
 kernel_rfl
def MV(a:Axv)(c:Int)(d:Axx):Option ((Int×Axx)⊕Axx) :=
 bif decide (c<(a.length:Int)) then
 (M0 a c d (wI (c+1))).bind λg =>
 some (.inl (g.1,g.2))
 else
 some (.inr d)
def I8(a:Axv)(z_:Int×Axx):=MV a z_.1 z_.2
def Oe(a:Axv)(c:Int)(d:Axx):=fix (I8 a) (c,d)
theorem AgS(a:Axv):AU dQ 0 3 (code Tryz.f144) [1,1,1,0,0] (Af4 a) (I8 a) (Afh a):=by
 intro _;simp only[I8,MV,Axe];simp(disch:=refine sI ?_<;>(repeat' refine sA ?_ ?_)<;>intro _<;>kernel_rfl) only[A6 (Ang _ _ _ _) (K:=Be 0 (dQ.hd 3) (dQ.ot 3))]
 kernel_rfl
def Mj(a:Axv):Option (Bool×Axx) :=
 (Oe a 0 ([]:Axx)).bind λb =>
 some ((decide ((b.length:Int)<=2000)),b)
theorem U39(R:Type)(a:Axv)(K:AV->List Blk->Option R):AH dQ Tryz.f144 R [dD (.sl Aa) a] [] K=(Mj a).bind λr=>K (.cons (.ref 0) (.cons (dB r.1) .nil)) [.row 238 .deep Ad r.2]:=by
 simp only[Mj,Axf];simp(disch:=refine sI ?_<;>(repeat' refine sA ?_ ?_)<;>intro _<;>kernel_rfl) only[Oe,Ax (AgS _) (K:=AP dQ Tryz.f144 0 R K)]
 kernel_rfl
def Apu:Va.Callee:=BX [.d (.sl Aa)] [⟨[.dat [] (.sl Aa)],[],(Bool×Axx),λp=>Mj p.1.1,λr=>(.cons (.ref 0) (.cons (dB r.1) .nil),[.row 238 .deep Ad r.2])⟩]
theorem wZ:An Tryz.prog 144 Apu:=Ap (fn:=Tryz.f144) (by kernel_rfl) (by kernel_rfl) (by kernel_rfl) ⟨⟨dQ,⟨⟨Aw,Ao ⟨eO,trivial⟩⟩,mixed⟩,λp R K=>U39 R p.1.1 K⟩,trivial⟩
end
end Go.Proofs.X
