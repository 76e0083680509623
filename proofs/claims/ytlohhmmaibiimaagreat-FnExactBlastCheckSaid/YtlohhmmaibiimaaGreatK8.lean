import Derived.KernelRfl
import Derived.Test.YtlohhmmaibiimaaGreatK7
set_option linter.unusedVariables false
set_option linter.unusedSimpArgs false
namespace Go.Proofs.X
open Go Go.Va
set_option maxRecDepth 100000
noncomputable section
abbrev E32:Env:=⟨tab,lookH [(52,c52),(119,c119),(120,c120)],{deep:=true,heads:=[(4,{live:=[0,1,5]})],outs:=[(4,{live:=[4]})],joins:=[(2,{live:=[0,1,14]}),(8,{live:=[0,1,5,67]})],ents:=[(2,[0,1]),(8,[0,1,5,6])]}⟩
def Aht(a:List Aa.V)(b:List Ae.V)(z_:Int):St:=sT 68 [(0,dD (.sl Aa) a),(1,dD (.sl Ae) b),(5,dI z_)] []
def Akz(a:List Aa.V)(b:List Ae.V):(Unit⊕Unit)→Ex×St:=Sum.elim (fun c=>(.ret,sT 68 [(4,dB false)] [])) (fun d=>((.exit 0),sT 68 [] []))
def Ah3(a:List Aa.V)(b:List Ae.V)(e g:Int):St:=sT 68 [(0,dD (.sl Aa) a),(1,dD (.sl Ae) b),(5,dI e),(6,dI g)] []
def AgL(a:List Aa.V)(b:List Ae.V)(e g:Int):Bool→Ex×St:=fun i=>(.normal,sT 68 [(0,dD (.sl Aa) a),(1,dD (.sl Ae) b),(5,dI e),(67,dB i)] [])
def Dq(a:List Aa.V)(b:List Ae.V)(e g:Int):Option Bool :=
 if(0:Int)≤e∧e<(b.length:Int) then
 bif !(Ay (b.getD e.toNat (Ty.zero Ae)).1 1 1000000) then
 some true
 else
 bif decide (e>0) then
 if(0:Int)≤e∧e<(b.length:Int) then
 if(0:Int)≤(wI (e-1))∧(wI (e-1))<(b.length:Int) then
 bif decide ((b.getD e.toNat (Ty.zero Ae)).1≤(b.getD (wI (e-1)).toNat (Ty.zero Ae)).1) then
 some true
 else
 bif decide (g<0) then
 some true
 else
 if(0:Int)≤e∧e<(b.length:Int) then
 (BS a (b.getD e.toNat (Ty.zero Ae)).2.2.2.1).bind fun j =>
 some (j !=g)
 else none
 else none
 else none
 else
 bif decide (g<0) then
 some true
 else
 if(0:Int)≤e∧e<(b.length:Int) then
 (BS a (b.getD e.toNat (Ty.zero Ae)).2.2.2.1).bind fun k =>
 some (k !=g)
 else none
 else none
theorem AfE(a:List Aa.V)(b:List Ae.V)(e g:Int):JnOk E32 0 8 (sub (code Tryz.f51) [1,1,0,1,0,0]) [1,0,0,1,0] (Ah3 a b e g) (Dq a b e g) (AgL a b e g):=by
 unfold JnOk
 simp only[Dq,mC,mI,mN,mB,mE,mM]
 kernel_rfl
def DK(a:List Aa.V)(b:List Ae.V)(e:Int):Option (Int⊕(Unit⊕Unit)) :=
 bif decide (e<(b.length:Int)) then
 if(0:Int)≤e∧e<(b.length:Int) then
 (BS a (b.getD e.toNat (Ty.zero Ae)).2.2.1).bind fun g =>
 (Dq a b e g).bind fun i =>
 bif i then
 some (.inr (.inl ()))
 else
 some (.inl (wI (e+1)))
 else none
 else
 some (.inr (.inr ()))
def Cg(a:List Aa.V)(b:List Ae.V)(z_:Int):=DK a b z_
def HN(a:List Aa.V)(b:List Ae.V)(e:Int):=fix (Cg a b) e
theorem Afj(a:List Aa.V)(b:List Ae.V):LpOk E32 0 4 (code Tryz.f51) [1,1,0,1,0] (Aht a b) (Cg a b) (Akz a b):=by
 intro _
 simp only[Cg,DK,mC,mI,mN,mB,mE,mM]
 simp(disch:=refine sI ?_<;>(repeat' refine sA ?_ ?_)<;>intro _<;>kernel_rfl) only[Bn (AfE _ _ _ _) (K:=stepK 0 (E32.hd 4) (E32.ot 4))]
 kernel_rfl
def Agm(a:List Aa.V)(b:List Ae.V):St:=sT 68 [(0,dD (.sl Aa) a),(1,dD (.sl Ae) b)] []
def AfI(a:List Aa.V)(b:List Ae.V):Bool→Ex×St:=fun l=>(.normal,sT 68 [(0,dD (.sl Aa) a),(1,dD (.sl Ae) b),(14,dB l)] [])
def Dk(a:List Aa.V)(b:List Ae.V):Option Bool :=
 (En a).bind fun n =>
 bif !n then
 some true
 else
 some (decide ((b.length:Int)>60))
theorem Aid(a:List Aa.V)(b:List Ae.V):JnOk E32 0 2 (code Tryz.f51) [1,0,0] (Agm a b) (Dk a b) (AfI a b):=by
 unfold JnOk
 simp only[Dk,mC,mI,mN,mB,mE,mM]
 kernel_rfl
def CT(a:List Aa.V)(b:List Ae.V):Option Bool :=
 (Dk a b).bind fun l =>
 bif l then
 some false
 else
 (HN a b 0).bind (Sum.elim (fun c =>
 some false) (fun d =>
 some true))
theorem U32(R:Type)(a:List Aa.V)(b:List Ae.V)(K:AV→List Blk→Option R):runF E32 Tryz.f51 R [dD (.sl Aa) a,dD (.sl Ae) b] [] K=(CT a b).bind fun r=>K (dB r) []:=by
 simp only[CT,bC,bI,bN,bE,bA,bS,bO,bM]
 simp(disch:=refine sI ?_<;>(repeat' refine sA ?_ ?_)<;>intro _<;>kernel_rfl) only[Bn (Aid _ _) (K:=finK E32 Tryz.f51 0 R K),HN,Au (Afj _ _) (K:=finK E32 Tryz.f51 0 R K)]
 kernel_rfl
def c51:Va.Callee:=brC [.d (.sl Aa),.d (.sl Ae)] [⟨[.dat [] (.sl Aa),.dat [] (.sl Ae)],[],Bool,fun p=>CT p.1.1 p.1.2.1,fun r=>(dB r,[])⟩]
theorem T4:SoundC Tryz.prog 51 c51:=Ap (fn:=Tryz.f51) (by kernel_rfl) (by kernel_rfl) (by kernel_rfl) ⟨⟨E32,⟨⟨tabok,An ⟨KI,OW,S8,trivial⟩⟩,mixed⟩,fun p R K=>U32 R p.1.1 p.1.2.1 K⟩,trivial⟩
abbrev E33:Env:=⟨tab,lookH [(188,c188)],{deep:=true,heads:=[(5,{live:=[0,4,7,8],pre:=[(7,false,.row [] 199 Af true)]}),(10,{live:=[4,7,9],pre:=[(7,false,.row [] 199 Af true)]}),(15,{live:=[2,7,10],pre:=[(7,false,.row [] 199 Af true)]}),(27,{live:=[4,7,11,12]}),(40,{live:=[2,4,7,15],pre:=[(7,false,.row [] 199 Af true)]})],outs:=[(5,{live:=[7]}),(10,{live:=[7]}),(15,{live:=[7]}),(27,{live:=[7]}),(40,{live:=[7]})],joins:=[(22,{live:=[2,4,7,18,84]}),(25,{live:=[2,4,7,11]}),(32,{live:=[2,4,7,18,116]}),(36,{live:=[2,7,13,14]}),(43,{live:=[7],pre:=[(7,false,.row [] 199 Af true)]})],ents:=[(22,[2,4,7,18]),(25,[2,4,7,11]),(32,[2,4,7,18]),(36,[2,4,7,13,14]),(43,[0,2,4,7])]}⟩
def AcF(a:List Aa.V)(b:List (List Af.V))(c:Ab.V):St:=sT 167 [(0,dD (.sl Aa) a),(2,dD (.sl (.sl Af)) b),(4,.ptr 0 0 [] 0),(7,.zs)] [.box (dD Ab c)]
def Ac1(a:List Aa.V)(b:List (List Af.V))(c:Ab.V):(List Af.V)→Ex×St:=fun d=>(.normal,sT 167 [(7,.ref 0)] [.row 199 .deep Af d])
def Acj(b:List (List Af.V))(c:Ab.V)(z_:Int×(List Af.V)):St:=sT 167 [(2,dD (.sl (.sl Af)) b),(4,.ptr 0 0 [] 0),(7,.ref 1),(15,dI z_.1)] [.box (dD Ab c),.row 199 .deep Af z_.2]
def AbE(b:List (List Af.V))(c:Ab.V):(List Af.V)→Ex×St:=fun e=>((.exit 9),sT 167 [(7,.ref 0)] [.row 199 .deep Af e])
def F5(b:List (List Af.V))(c:Ab.V)(g:Int)(i:List Af.V):Option ((Int×(List Af.V))⊕(List Af.V)) :=
 bif decide (g<c.2.2.1) then
 if(0:Int)≤(0:Int)∧(0:Int)<(b.length:Int) then
 if(i.length+(b.getD 0 (Ty.zero (.sl Af))).length)*16≤140737488355328 then
 some (.inl ((wI (g+1)),(i++(b.getD 0 (Ty.zero (.sl Af))))))
 else none
 else none
 else
 some (.inr i)
def CD(b:List (List Af.V))(c:Ab.V)(z_:Int×(List Af.V)):=F5 b c z_.1 z_.2
def Ip(b:List (List Af.V))(c:Ab.V)(g:Int)(i:List Af.V):=fix (CD b c) (g,i)
theorem Ab8(b:List (List Af.V))(c:Ab.V):LpOk E33 0 40 (sub (code Tryz.f143) [1,1,0]) [1,0,1,1,1,1,1,1,1,1,1,1,1,1,1,0,1,0] (Acj b c) (CD b c) (AbE b c):=by
 intro _
 simp only[CD,F5,mC,mI,mN,mB,mE,mM]
 kernel_rfl
def AdU(b:List (List Af.V))(c:Ab.V)(j k:Int):St:=sT 167 [(2,dD (.sl (.sl Af)) b),(4,.ptr 0 0 [] 0),(7,.zs),(13,dI j),(14,dI k)] [.box (dD Ab c)]
def Adt(b:List (List Af.V))(c:Ab.V)(j k:Int):Int→Ex×St:=fun l=>(.normal,sT 167 [(2,dD (.sl (.sl Af)) b),(7,.zs),(13,dI j),(14,dI l)] [])
def FJ(b:List (List Af.V))(c:Ab.V)(j k:Int):Option Int :=
 bif c.1==8 then
 if j=(0:Int) then none else
 some (Int.tmod (wI (j-k)) j)
 else
 some k
theorem Aen(b:List (List Af.V))(c:Ab.V)(j k:Int):JnOk E33 0 36 (sub (code Tryz.f143) [1,1,0]) [1,0,1,1,1,1,1,1,1,1,1,1,1,0,1,1,0] (AdU b c j k) (FJ b c j k) (Adt b c j k):=by
 unfold JnOk
 simp only[FJ,mC,mI,mN,mB,mE,mM]
 kernel_rfl
def UV(b:List (List Af.V))(c:Ab.V):St:=sT 167 [(2,dD (.sl (.sl Af)) b),(4,.ptr 0 0 [] 0),(7,.zs),(18,dI c.1)] [.box (dD Ab c)]
def VV(b:List (List Af.V))(c:Ab.V)(m0:Bool):Ex×St:=(.normal,sT 167 [(2,dD (.sl (.sl Af)) b),(4,.ptr 0 0 [] 0),(7,.zs),(18,dI c.1),(116,dB m0)] [.box (dD Ab c)])
theorem AdJ(b:List (List Af.V))(c:Ab.V):jnS E33 0 32 (sub (code Tryz.f143) [1,1,0]) [1,0,1,1,1,1,1,1,1,1,1,1,0] (UV b c)=some (VV b c (bif c.1==7 then(c.1==7) else(c.1==8))):=by
 have h0:jnS E33 0 32 (sub (code Tryz.f143) [1,1,0]) [1,0,1,1,1,1,1,1,1,1,1,1,0] (UV b c) =
 bif c.1==7 then
 some (VV b c (c.1==7))
 else
 some (VV b c (c.1==8)):=by kernel_rfl
 rw[h0]
 cases h1:(c.1==7)
 ·first | rfl | kernel_rfl
 ·first | rfl | kernel_rfl
def Ac5(c:Ab.V)(z_:Int×(List Af.V)):St:=sT 167 [(4,.ptr 0 0 [] 0),(7,.ref 1),(11,.ptr 2 0 [] 0),(12,dI z_.1)] [.box (dD Ab c),.row 199 .deep Af z_.2,.box (.pr (dI (-1)) (.pr (dI 0) .u))]
def Ab0(c:Ab.V):(List Af.V)→Ex×St:=fun n=>((.exit 7),sT 167 [(7,.ref 0)] [.row 199 .deep Af n])
def Gc(c:Ab.V)(o:Int)(q:List Af.V):Option ((Int×(List Af.V))⊕(List Af.V)) :=
 bif decide (o<c.2.2.1) then
 if(q.length+([((-1),0,())]:List Af.V).length)*16≤140737488355328 then
 some (.inl ((wI (o+1)),(q++([((-1),0,())]:List Af.V))))
 else none
 else
 some (.inr q)
def CE(c:Ab.V)(z_:Int×(List Af.V)):=Gc c z_.1 z_.2
def Ii(c:Ab.V)(o:Int)(q:List Af.V):=fix (CE c) (o,q)
theorem Ace(c:Ab.V):LpOk E33 0 27 (sub (code Tryz.f143) [1,1,0]) [1,0,1,1,1,1,1,1,1,1,1,0,1,1,1,1,0] (Ac5 c) (CE c) (Ab0 c):=by
 intro _
 simp only[CE,Gc,mC,mI,mN,mB,mE,mM]
 kernel_rfl
def AbH(c:Ab.V)(s:Af.V)(z_:Int×(List Af.V)):St:=sT 167 [(4,.ptr 0 0 [] 0),(7,.ref 1),(11,.ptr 2 0 [] 0),(12,dI z_.1)] [.box (dD Ab c),.row 199 .deep Af z_.2,.box (dD Af s)]
def Aek(c:Ab.V)(s:Af.V):(List Af.V)→Ex×St:=fun t=>((.exit 7),sT 167 [(7,.ref 0)] [.row 199 .deep Af t])
def Gj(c:Ab.V)(s:Af.V)(u:Int)(v:List Af.V):Option ((Int×(List Af.V))⊕(List Af.V)) :=
 bif decide (u<c.2.2.1) then
 if(v.length+([s]:List Af.V).length)*16≤140737488355328 then
 some (.inl ((wI (u+1)),(v++([s]:List Af.V))))
 else none
 else
 some (.inr v)
def CH(c:Ab.V)(s:Af.V)(z_:Int×(List Af.V)):=Gj c s z_.1 z_.2
def Iz(c:Ab.V)(s:Af.V)(u:Int)(v:List Af.V):=fix (CH c s) (u,v)
theorem Acp(c:Ab.V)(s:Af.V):LpOk E33 0 27 (sub (code Tryz.f143) [1,1,0]) [1,0,1,1,1,1,1,1,1,1,1,0,1,1,1,1,0] (AbH c s) (CH c s) (Aek c s):=by
 intro _
 simp only[CH,Gj,mC,mI,mN,mB,mE,mM]
 kernel_rfl
def Aco(b:List (List Af.V))(c:Ab.V):St:=sT 167 [(2,dD (.sl (.sl Af)) b),(4,.ptr 0 0 [] 0),(7,.zs),(11,.ptr 1 0 [] 0)] [.box (dD Ab c),.box (.pr (dI (-1)) (.pr (dI 0) .u))]
def Acn(b:List (List Af.V))(c:Ab.V):(Unit⊕Unit)→Ex×St:=Sum.elim (fun w=>(.normal,sT 167 [(2,dD (.sl (.sl Af)) b),(4,.ptr 0 0 [] 0),(7,.zs),(11,.ptr 1 0 [] 0)] [.box (dD Ab c),.box (dD Af ((b.getD 0 (Ty.zero (.sl Af))).getD (wI (((b.getD 0 (Ty.zero (.sl Af))).length:Int)-1)).toNat (Ty.zero Af)))])) (fun x=>(.normal,sT 167 [(2,dD (.sl (.sl Af)) b),(4,.ptr 0 0 [] 0),(7,.zs),(11,.ptr 1 0 [] 0)] [.box (dD Ab c),.box (.pr (dI (-1)) (.pr (dI 0) .u))]))
def CV(b:List (List Af.V))(c:Ab.V):Option (Unit⊕Unit) :=
 bif c.1==6 then
 if(0:Int)≤(0:Int)∧(0:Int)<(b.length:Int) then
 if(0:Int)≤(0:Int)∧(0:Int)<(b.length:Int) then
 if(0:Int)≤(wI (((b.getD 0 (Ty.zero (.sl Af))).length:Int)-1))∧(wI (((b.getD 0 (Ty.zero (.sl Af))).length:Int)-1))<((b.getD 0 (Ty.zero (.sl Af))).length:Int) then
 some (.inl ())
 else none
 else none
 else none
 else
 some (.inr ())
theorem AcO(b:List (List Af.V))(c:Ab.V):JnOk E33 0 25 (sub (code Tryz.f143) [1,1,0]) [1,0,1,1,1,1,1,1,1,1,1,0,1,0] (Aco b c) (CV b c) (Acn b c):=by
 unfold JnOk
 simp only[CV,mC,mI,mN,mB,mE,mM]
 kernel_rfl
def VB(b:List (List Af.V))(c:Ab.V):St:=sT 167 [(2,dD (.sl (.sl Af)) b),(4,.ptr 0 0 [] 0),(7,.zs),(18,dI c.1)] [.box (dD Ab c)]
def V1(b:List (List Af.V))(c:Ab.V)(m0:Bool):Ex×St:=(.normal,sT 167 [(2,dD (.sl (.sl Af)) b),(4,.ptr 0 0 [] 0),(7,.zs),(18,dI c.1),(84,dB m0)] [.box (dD Ab c)])
theorem AdF(b:List (List Af.V))(c:Ab.V):jnS E33 0 22 (sub (code Tryz.f143) [1,1,0]) [1,0,1,1,1,1,1,1,1,1,0] (VB b c)=some (V1 b c (bif c.1==5 then(c.1==5) else(c.1==6))):=by
 have h0:jnS E33 0 22 (sub (code Tryz.f143) [1,1,0]) [1,0,1,1,1,1,1,1,1,1,0] (VB b c) =
 bif c.1==5 then
 some (V1 b c (c.1==5))
 else
 some (V1 b c (c.1==6)):=by kernel_rfl
 rw[h0]
 cases h1:(c.1==5)
 ·first | rfl | kernel_rfl
 ·first | rfl | kernel_rfl
def Ad3(b:List (List Af.V))(z_:Int×(List Af.V)):St:=sT 167 [(2,dD (.sl (.sl Af)) b),(7,.ref 0),(10,dI z_.1)] [.row 199 .deep Af z_.2]
def Ad6(b:List (List Af.V)):(List Af.V)→Ex×St:=fun y=>((.exit 5),sT 167 [(7,.ref 0)] [.row 199 .deep Af y])
def F8(b:List (List Af.V))(a1:Int)(b1:List Af.V):Option ((Int×(List Af.V))⊕(List Af.V)) :=
 bif decide (a1≥0) then
 if(0:Int)≤a1∧a1<(b.length:Int) then
 if(b1.length+(b.getD a1.toNat (Ty.zero (.sl Af))).length)*16≤140737488355328 then
 some (.inl ((wI (a1-1)),(b1++(b.getD a1.toNat (Ty.zero (.sl Af))))))
 else none
 else none
 else
 some (.inr b1)
def BF(b:List (List Af.V))(z_:Int×(List Af.V)):=F8 b z_.1 z_.2
def Il(b:List (List Af.V))(a1:Int)(b1:List Af.V):=fix (BF b) (a1,b1)
theorem AbG(b:List (List Af.V)):LpOk E33 0 15 (sub (code Tryz.f143) [1,1,0]) [1,0,1,1,1,1,1,0,1,0] (Ad3 b) (BF b) (Ad6 b):=by
 intro _
 simp only[BF,F8,mC,mI,mN,mB,mE,mM]
 kernel_rfl
def AcV(c:Ab.V)(z_:Int×(List Af.V)):St:=sT 167 [(4,.ptr 0 0 [] 0),(7,.ref 1),(9,dI z_.1)] [.box (dD Ab c),.row 199 .deep Af z_.2]
def Adf(c:Ab.V):(List Af.V)→Ex×St:=fun c1=>((.exit 3),sT 167 [(7,.ref 0)] [.row 199 .deep Af c1])
def Gn(c:Ab.V)(d1:Int)(e1:List Af.V):Option ((Int×(List Af.V))⊕(List Af.V)) :=
 bif decide (d1<c.2.2.2.2.1.1) then
 (D6 c.2.2.2.2.1 d1).bind fun g1 =>
 if(e1.length+([((-1),(wI g1),())]:List Af.V).length)*16≤140737488355328 then
 some (.inl ((wI (d1+1)),(e1++([((-1),(wI g1),())]:List Af.V))))
 else none
 else
 some (.inr e1)
def Cz(c:Ab.V)(z_:Int×(List Af.V)):=Gn c z_.1 z_.2
def IB(c:Ab.V)(d1:Int)(e1:List Af.V):=fix (Cz c) (d1,e1)
theorem Aci(c:Ab.V):LpOk E33 0 10 (sub (code Tryz.f143) [1,1,0]) [1,0,1,1,1,0,1,0] (AcV c) (Cz c) (Adf c):=by
 intro _
 simp only[Cz,Gn,mC,mI,mN,mB,mE,mM]
 kernel_rfl
def Ad0(a:List Aa.V)(c:Ab.V)(z_:Int×(List Af.V)):St:=sT 167 [(0,dD (.sl Aa) a),(4,.ptr 0 0 [] 0),(7,.ref 1),(8,dI z_.1)] [.box (dD Ab c),.row 199 .deep Af z_.2]
def AdR(a:List Aa.V)(c:Ab.V):(List Af.V)→Ex×St:=fun i1=>((.exit 1),sT 167 [(7,.ref 0)] [.row 199 .deep Af i1])
def Gd(a:List Aa.V)(c:Ab.V)(j1:Int)(k1:List Af.V):Option ((Int×(List Af.V))⊕(List Af.V)) :=
 if(0:Int)≤c.2.1∧c.2.1<(a.length:Int) then
 bif decide (j1<(a.getD c.2.1.toNat (Ty.zero Aa)).2.1) then
 if(k1.length+([(c.2.1,j1,())]:List Af.V).length)*16≤140737488355328 then
 some (.inl ((wI (j1+1)),(k1++([(c.2.1,j1,())]:List Af.V))))
 else none
 else
 some (.inr k1)
 else none
def CG(a:List Aa.V)(c:Ab.V)(z_:Int×(List Af.V)):=Gd a c z_.1 z_.2
def H6(a:List Aa.V)(c:Ab.V)(j1:Int)(k1:List Af.V):=fix (CG a c) (j1,k1)
theorem Ab7(a:List Aa.V)(c:Ab.V):LpOk E33 0 5 (sub (code Tryz.f143) [1,1,0]) [1,0,1,0,1,0] (Ad0 a c) (CG a c) (AdR a c):=by
 intro _
 simp only[CG,Gd,mC,mI,mN,mB,mE,mM]
 kernel_rfl
def HR(a:List Aa.V)(b:List (List Af.V))(c:Ab.V):Option (List Af.V) :=
 bif c.1==1 then
 (H6 a c 0 ([]:List Af.V)).bind fun i1 =>
 some i1
 else
 bif c.1==2 then
 (IB c 0 ([]:List Af.V)).bind fun c1 =>
 some c1
 else
 bif c.1==3 then
 (Il b (wI ((b.length:Int)-1)) ([]:List Af.V)).bind fun y =>
 some y
 else
 bif c.1==4 then
 if(0:Int)≤(0:Int)∧(0:Int)<(b.length:Int) then
 if(0:Int)≤c.2.2.2.1∧c.2.2.2.1≤(wI (c.2.2.1+1))∧(wI (c.2.2.1+1))≤((b.getD 0 (Ty.zero (.sl Af))).length:Int) then
 if(((b.getD 0 (Ty.zero (.sl Af))).take (wI (c.2.2.1+1)).toNat).drop c.2.2.2.1.toNat).length*16≤140737488355328 then
 some (((b.getD 0 (Ty.zero (.sl Af))).take (wI (c.2.2.1+1)).toNat).drop c.2.2.2.1.toNat)
 else none
 else none
 else none
 else
 mkr (VB b c) (
 bif bif (c.1==5) then(c.1==5) else(c.1==6) then
 (CV b c).bind (Sum.elim (fun w =>
 if(0:Int)≤(0:Int)∧(0:Int)<(b.length:Int) then
 if(b.getD 0 (Ty.zero (.sl Af))).length*16≤140737488355328 then
 (Iz c ((b.getD 0 (Ty.zero (.sl Af))).getD (wI (((b.getD 0 (Ty.zero (.sl Af))).length:Int)-1)).toNat (Ty.zero Af)) 0 (b.getD 0 (Ty.zero (.sl Af)))).bind fun t =>
 some t
 else none
 else none) (fun x =>
 if(0:Int)≤(0:Int)∧(0:Int)<(b.length:Int) then
 if(b.getD 0 (Ty.zero (.sl Af))).length*16≤140737488355328 then
 (Ii c 0 (b.getD 0 (Ty.zero (.sl Af)))).bind fun n =>
 some n
 else none
 else none))
 else
 mkr (UV b c) (
 bif bif (c.1==7) then(c.1==7) else(c.1==8) then
 if(0:Int)≤(0:Int)∧(0:Int)<(b.length:Int) then
 if((b.getD 0 (Ty.zero (.sl Af))).length:Int)=(0:Int) then none else
 (FJ b c ((b.getD 0 (Ty.zero (.sl Af))).length:Int) (Int.tmod c.2.2.1 ((b.getD 0 (Ty.zero (.sl Af))).length:Int))).bind fun l =>
 if(0:Int)≤(0:Int)∧(0:Int)<(b.length:Int) then
 if(0:Int)≤(wI (((b.getD 0 (Ty.zero (.sl Af))).length:Int)-l))∧(wI (((b.getD 0 (Ty.zero (.sl Af))).length:Int)-l))≤((b.getD 0 (Ty.zero (.sl Af))).length:Int)∧((b.getD 0 (Ty.zero (.sl Af))).length:Int)≤((b.getD 0 (Ty.zero (.sl Af))).length:Int) then
 if(((b.getD 0 (Ty.zero (.sl Af))).take ((b.getD 0 (Ty.zero (.sl Af))).length:Int).toNat).drop (wI (((b.getD 0 (Ty.zero (.sl Af))).length:Int)-l)).toNat).length*16≤140737488355328 then
 if(0:Int)≤(0:Int)∧(0:Int)<(b.length:Int) then
 if(0:Int)≤(0:Int)∧(0:Int)≤(wI (((b.getD 0 (Ty.zero (.sl Af))).length:Int)-l))∧(wI (((b.getD 0 (Ty.zero (.sl Af))).length:Int)-l))≤((b.getD 0 (Ty.zero (.sl Af))).length:Int) then
 if((((b.getD 0 (Ty.zero (.sl Af))).take ((b.getD 0 (Ty.zero (.sl Af))).length:Int).toNat).drop (wI (((b.getD 0 (Ty.zero (.sl Af))).length:Int)-l)).toNat).length+(((b.getD 0 (Ty.zero (.sl Af))).take (wI (((b.getD 0 (Ty.zero (.sl Af))).length:Int)-l)).toNat).drop 0).length)*16≤140737488355328 then
 some ((((b.getD 0 (Ty.zero (.sl Af))).take ((b.getD 0 (Ty.zero (.sl Af))).length:Int).toNat).drop (wI (((b.getD 0 (Ty.zero (.sl Af))).length:Int)-l)).toNat)++(((b.getD 0 (Ty.zero (.sl Af))).take (wI (((b.getD 0 (Ty.zero (.sl Af))).length:Int)-l)).toNat).drop 0))
 else none
 else none
 else none
 else none
 else none
 else none
 else none
 else
 bif c.1==9 then
 (Ip b c 0 ([]:List Af.V)).bind fun e =>
 some e
 else
 some ([]:List Af.V)))
theorem Adl(a:List Aa.V)(b:List (List Af.V))(c:Ab.V):JnOk E33 0 43 (code Tryz.f143) [1,1,0] (AcF a b c) (HR a b c) (Ac1 a b c):=by
 unfold JnOk
 simp only[HR,mC,mI,mN,mB,mE,mM]
 simp(disch:=refine sI ?_<;>(repeat' refine sA ?_ ?_)<;>intro _<;>kernel_rfl) only[H6,Au (Ab7 _ _) (K:=joinK 0 (E33.jn 43)),IB,Au (Aci _) (K:=joinK 0 (E33.jn 43)),Il,Au (AbG _) (K:=joinK 0 (E33.jn 43)),Hs (AdF _ _) (K:=joinK 0 (E33.jn 43)),Bn (AcO _ _) (K:=joinK 0 (E33.jn 43)),Iz,Au (Acp _ _) (K:=joinK 0 (E33.jn 43)),Ii,Au (Ace _) (K:=joinK 0 (E33.jn 43)),Hs (AdJ _ _) (K:=joinK 0 (E33.jn 43)),Bn (Aen _ _ _ _) (K:=joinK 0 (E33.jn 43)),Ip,Au (Ab8 _ _) (K:=joinK 0 (E33.jn 43))]
 kernel_rfl
def IU(a:List Aa.V)(c:Ab.V)(b:List (List Af.V)):Option (List Af.V) :=
 (HR a b c).bind fun d =>
 some d
theorem U33(R:Type)(a:List Aa.V)(c:Ab.V)(b:List (List Af.V))(K:AV→List Blk→Option R):runF E33 Tryz.f143 R [dD (.sl Aa) a,dD Ab c,dD (.sl (.sl Af)) b] [] K=(IU a c b).bind fun r=>K (.ref 0) [.row 199 .deep Af r]:=by
 simp only[IU,bC,bI,bN,bE,bA,bS,bO,bM]
 simp(disch:=refine sI ?_<;>(repeat' refine sA ?_ ?_)<;>intro _<;>kernel_rfl) only[Bn (Adl _ _ _) (K:=finK E33 Tryz.f143 0 R K)]
 kernel_rfl
def c143:Va.Callee:=brC [.d (.sl Aa),.d Ab,.d (.sl (.sl Af))] [⟨[.dat [] (.sl Aa),.dat [] Ab,.dat [] (.sl (.sl Af))],[],(List Af.V),fun p=>IU p.1.1 p.1.2.1 p.1.2.2.1,fun r=>(.ref 0,[.row 199 .deep Af r])⟩]
theorem YM:SoundC Tryz.prog 143 c143:=Ap (fn:=Tryz.f143) (by kernel_rfl) (by kernel_rfl) (by kernel_rfl) ⟨⟨E33,⟨⟨tabok,An ⟨Pz,trivial⟩⟩,mixed⟩,fun p R K=>U33 R p.1.1 p.1.2.1 p.1.2.2.1 K⟩,trivial⟩
abbrev E34:Env:=⟨tab,lookH [],{deep:=true,heads:=[(5,{live:=[0,2,4,5]})],outs:=[(5,{live:=[2,4]})],joins:=[(2,{live:=[0,2,13]})],ents:=[(2,[0,2])],res:=[(0,.row [1] 216 (.int .u64) true)]}⟩
def Ahf(a:List Int)(b:Int)(z_:Int×(List Int)):St:=sT 51 [(0,dD (.sl (.int .u8)) a),(2,.ptr 0 0 [] 0),(4,.ptr 1 0 [] 0),(5,dI z_.1)] [.box (.pr (dI 0) (.pr .zs .u)),.box (.pr (dI b) (.pr (.ref 2) .u)),.row 216 .deep (.int .u64) z_.2]
def Akh(a:List Int)(b:Int):(List Int)→Ex×St:=fun c=>((.exit 0),sT 51 [(2,.ptr 0 0 [] 0),(4,.ptr 1 0 [] 0)] [.box (.pr (dI 0) (.pr .zs .u)),.box (.pr (dI b) (.pr (.ref 2) .u)),.row 216 .deep (.int .u64) c])
def GZ(a:List Int)(b d:Int)(e:List Int):Option ((Int×(List Int))⊕(List Int)) :=
 bif decide (d<(a.length:Int)) then
 if(0:Int)≤(wI (Int.tdiv d 64))∧(wI (Int.tdiv d 64))<(e.length:Int) then
 if(0:Int)≤d∧d<(a.length:Int) then
 if(IntKind.u64.wrap (Int.tmod d 64))<(0:Int) then none else
 if(0:Int)≤(wI (Int.tdiv d 64))∧(wI (Int.tdiv d 64))<(e.length:Int) then
 some (.inl ((wI (d+1)),(e.set (wI (Int.tdiv d 64)).toNat (orI .u64 (e.getD (wI (Int.tdiv d 64)).toNat (Ty.zero (.int .u64))) (shlI .u64 (IntKind.u64.wrap (a.getD d.toNat (Ty.zero (.int .u8)))) (IntKind.u64.wrap (Int.tmod d 64)))))))
 else none
 else none
 else none
 else
 some (.inr e)
def EP(a:List Int)(b:Int)(z_:Int×(List Int)):=GZ a b z_.1 z_.2
def KP(a:List Int)(b d:Int)(e:List Int):=fix (EP a b) (d,e)
theorem AgZ(a:List Int)(b:Int):LpOk E34 0 5 (code Tryz.f111) [1,1,1,0,1,0] (Ahf a b) (EP a b) (Akh a b):=by
 intro _
 simp only[EP,GZ,mC,mI,mN,mB,mE,mM]
 kernel_rfl
def AaY(a:List Int):St:=sT 51 [(0,dD (.sl (.int .u8)) a),(2,.ptr 0 0 [] 0)] [.box (.pr (dI 0) (.pr .zs .u))]
def Zm(a:List Int)(m0:Bool):Ex×St:=(.normal,sT 51 [(0,dD (.sl (.int .u8)) a),(2,.ptr 0 0 [] 0),(13,dB m0)] [.box (.pr (dI 0) (.pr .zs .u))])
theorem Ahi(a:List Int):jnS E34 0 2 (code Tryz.f111) [1,0,0] (AaY a)=some (Zm a ((decide ((a.length:Int)<1))||(decide ((a.length:Int)>4096)))):=by
 have h0:jnS E34 0 2 (code Tryz.f111) [1,0,0] (AaY a) =
 bif decide ((a.length:Int)<1) then
 some (Zm a true)
 else
 some (Zm a (decide ((a.length:Int)>4096))):=by kernel_rfl
 rw[h0]
 cases h1:(decide ((a.length:Int)<1))
 ·first | rfl | kernel_rfl
 ·first | rfl | kernel_rfl
def FE(a:List Int):Option (Int×Bool×(List Int)) :=
 mkr (AaY a) (
 bif (decide ((a.length:Int)<1))||(decide ((a.length:Int)>4096)) then
 some (0,false,([]:List Int))
 else
 if Ty.row (.int .u64)=true∧(0:Int)≤(wI (Int.tdiv (wI ((a.length:Int)+63)) 64))∧(wI (Int.tdiv (wI ((a.length:Int)+63)) 64))≤(wI (Int.tdiv (wI ((a.length:Int)+63)) 64))∧((8:Nat):Int)*(wI (Int.tdiv (wI ((a.length:Int)+63)) 64))≤(281474976710656:Int)∧(wI (Int.tdiv (wI ((a.length:Int)+63)) 64))≤(9223372036854775807:Int) then
 (KP a (a.length:Int) 0 (List.replicate (wI (Int.tdiv (wI ((a.length:Int)+63)) 64)).toNat 0)).bind fun c =>
 some ((a.length:Int),true,c)
 else none)
theorem U34(R:Type)(a:List Int)(K:AV→List Blk→Option R):runF E34 Tryz.f111 R [dD (.sl (.int .u8)) a] [] K=(FE a).bind fun r=>K (.cons (.pr (dI r.1) (.pr (.ref 0) .u)) (.cons (dB r.2.1) .nil)) [.row 216 .deep (.int .u64) r.2.2]:=by
 simp only[FE,bC,bI,bN,bE,bA,bS,bO,bM]
 simp(disch:=refine sI ?_<;>(repeat' refine sA ?_ ?_)<;>intro _<;>kernel_rfl) only[Hs (Ahi _) (K:=finK E34 Tryz.f111 0 R K),KP,Au (AgZ _ _) (K:=finK E34 Tryz.f111 0 R K)]
 kernel_rfl
def c111:Va.Callee:=brC [.d (.sl (.int .u8))] [⟨[.dat [] (.sl (.int .u8))],[],(Int×Bool×(List Int)),fun p=>FE p.1.1,fun r=>(.cons (.pr (dI r.1) (.pr (.ref 0) .u)) (.cons (dB r.2.1) .nil),[.row 216 .deep (.int .u64) r.2.2])⟩]
theorem SY:SoundC Tryz.prog 111 c111:=Ap (fn:=Tryz.f111) (by kernel_rfl) (by kernel_rfl) (by kernel_rfl) ⟨⟨E34,⟨⟨tabok,An trivial⟩,mixed⟩,fun p R K=>U34 R p.1.1 K⟩,trivial⟩
abbrev E35:Env:=⟨tab,lookH [(111,c111)],{deep:=true,heads:=[(3,{live:=[0,4,5],pre:=[(4,false,.row [] 238 Ad true)]}),(7,{live:=[0,4,6,7]}),(12,{live:=[0,4,5,6]})],outs:=[(3,{live:=[4]}),(7,{live:=[0,4,6,7],frz:=[(7,false,(.sl (.int .u8)))]}),(12,{live:=[0,4,5,6]})],joins:=[(8,{live:=[0,4,6,7]}),(13,{live:=[0,4,5,6]}),(15,{live:=[0,4,6]})],ents:=[(8,[0,4,6,7]),(13,[0,4,5,6]),(15,[0,4,5,6])]}⟩
def Aex(a:List Af.V)(z_:Int×(List Ad.V)):St:=sT 121 [(0,dD (.sl Af) a),(4,.ref 0),(5,dI z_.1)] [.row 238 .deep Ad z_.2]
def Aep(a:List Af.V):(List Ad.V)→Ex×St:=fun b=>((.exit 0),sT 121 [(4,.ref 0)] [.row 238 .deep Ad b])
def Aih(a:List Af.V)(c:Int)(d:List Ad.V)(e:Int):St:=sT 121 [(0,dD (.sl Af) a),(4,.ref 0),(5,dI c),(6,dI e)] [.row 238 .deep Ad d]
def Ako(a:List Af.V)(c:Int)(d:List Ad.V)(e:Int):(Int×(List Ad.V))→Ex×St:=fun g=>(.normal,sT 121 [(0,dD (.sl Af) a),(4,.ref 0),(6,dI g.1)] [.row 238 .deep Ad g.2])
def Ag0(a:List Af.V)(c:Int)(d:List Ad.V)(z_:Int):St:=sT 121 [(0,dD (.sl Af) a),(4,.ref 0),(5,dI c),(6,dI z_)] [.row 238 .deep Ad d]
def Aib(a:List Af.V)(c:Int)(d:List Ad.V):Int→Ex×St:=fun i=>((.exit 4),sT 121 [(0,dD (.sl Af) a),(4,.ref 0),(5,dI c),(6,dI i)] [.row 238 .deep Ad d])
def Ahr(a:List Af.V)(c j:Int)(d:List Ad.V):St:=sT 121 [(0,dD (.sl Af) a),(4,.ref 0),(5,dI c),(6,dI j)] [.row 238 .deep Ad d]
def Afp(a:List Af.V)(c j:Int)(d:List Ad.V):(Unit⊕Unit)→Ex×St:=Sum.elim (fun k=>(.normal,sT 121 [(0,dD (.sl Af) a),(4,.ref 0),(5,dI c),(6,dI j)] [.row 238 .deep Ad d])) (fun l=>((.exit 4),sT 121 [(0,dD (.sl Af) a),(4,.ref 0),(5,dI c),(6,dI j)] [.row 238 .deep Ad d]))
def I8(a:List Af.V)(c j:Int)(d:List Ad.V):Option (Unit⊕Unit) :=
 bif decide (j<(a.length:Int)) then
 if(0:Int)≤j∧j<(a.length:Int) then
 if(0:Int)≤c∧c<(a.length:Int) then
 bif (a.getD j.toNat (Ty.zero Af)).1==(a.getD c.toNat (Ty.zero Af)).1 then
 if(0:Int)≤j∧j<(a.length:Int) then
 if(0:Int)≤(wI (j-1))∧(wI (j-1))<(a.length:Int) then
 bif (a.getD j.toNat (Ty.zero Af)).2.1==(wI ((a.getD (wI (j-1)).toNat (Ty.zero Af)).2.1+1)) then
 some (.inl ())
 else
 some (.inr ())
 else none
 else none
 else
 some (.inr ())
 else none
 else none
 else
 some (.inr ())
theorem AgD(a:List Af.V)(c j:Int)(d:List Ad.V):JnOk E35 0 13 (sub (sub (sub (code Tryz.f144) [1,1,1,0,0,0]) [1,0,1,0]) [1,1,0,0,0]) [0] (Ahr a c j d) (I8 a c j d) (Afp a c j d):=by
 unfold JnOk
 simp only[I8,mC,mI,mN,mB,mE,mM]
 kernel_rfl
def Jy(a:List Af.V)(c:Int)(d:List Ad.V)(j:Int):Option (Int⊕Int) :=
 (I8 a c j d).bind (Sum.elim (fun k =>
 some (.inl (wI (j+1)))) (fun l =>
 some (.inr j)))
def G1(a:List Af.V)(c:Int)(d:List Ad.V)(z_:Int):=Jy a c d z_
def Jd(a:List Af.V)(c:Int)(d:List Ad.V)(j:Int):=fix (G1 a c d) j
theorem AfX(a:List Af.V)(c:Int)(d:List Ad.V):LpOk E35 0 12 (sub (sub (code Tryz.f144) [1,1,1,0,0,0]) [1,0,1,0]) [1,1,0,0] (Ag0 a c d) (G1 a c d) (Aib a c d):=by
 intro _
 simp only[G1,Jy,mC,mI,mN,mB,mE,mM]
 simp(disch:=refine sI ?_<;>(repeat' refine sA ?_ ?_)<;>intro _<;>kernel_rfl) only[Bn (AgD _ _ _ _) (K:=stepK 0 (E35.hd 12) (E35.ot 12))]
 kernel_rfl
def Akr(a:List Af.V)(d:List Ad.V)(z_:Int×(List Int)):St:=sT 121 [(0,dD (.sl Af) a),(4,.ref 0),(6,dI z_.1),(7,.ref 1)] [.row 238 .deep Ad d,.row 5 .deep (.int .u8) z_.2]
def Afa(a:List Af.V)(d:List Ad.V):(Int×(List Int))→Ex×St:=fun n=>((.exit 2),sT 121 [(0,dD (.sl Af) a),(4,.ref 0),(6,dI n.1),(7,dD (.sl (.int .u8)) n.2)] [.row 238 .deep Ad d])
def Ahs(a:List Af.V)(o:Int)(d:List Ad.V)(q:List Int):St:=sT 121 [(0,dD (.sl Af) a),(4,.ref 0),(6,dI o),(7,.ref 1)] [.row 238 .deep Ad d,.row 5 .deep (.int .u8) q]
def Agf(a:List Af.V)(o:Int)(d:List Ad.V)(q:List Int):(Unit⊕Unit)→Ex×St:=Sum.elim (fun s=>(.normal,sT 121 [(0,dD (.sl Af) a),(4,.ref 0),(6,dI o),(7,.ref 1)] [.row 238 .deep Ad d,.row 5 .deep (.int .u8) q])) (fun t=>((.exit 2),sT 121 [(0,dD (.sl Af) a),(4,.ref 0),(6,dI o),(7,.ref 1)] [.row 238 .deep Ad d,.row 5 .deep (.int .u8) q]))
def I9(a:List Af.V)(o:Int)(d:List Ad.V)(q:List Int):Option (Unit⊕Unit) :=
 bif decide (o<(a.length:Int)) then
 if(0:Int)≤o∧o<(a.length:Int) then
 bif decide ((a.getD o.toNat (Ty.zero Af)).1<0) then
 some (.inl ())
 else
 some (.inr ())
 else none
 else
 some (.inr ())
theorem AjE(a:List Af.V)(o:Int)(d:List Ad.V)(q:List Int):JnOk E35 0 8 (sub (sub (sub (code Tryz.f144) [1,1,1,0,0,0]) [1,0,1,0]) [1,0,1,0,0,0]) [0] (Ahs a o d q) (I9 a o d q) (Agf a o d q):=by
 unfold JnOk
 simp only[I9,mC,mI,mN,mB,mE,mM]
 kernel_rfl
def Jx(a:List Af.V)(d:List Ad.V)(o:Int)(q:List Int):Option ((Int×(List Int))⊕(Int×(List Int))) :=
 (I9 a o d q).bind (Sum.elim (fun s =>
 if(0:Int)≤o∧o<(a.length:Int) then
 if(q.length+([(IntKind.u8.wrap (a.getD o.toNat (Ty.zero Af)).2.1)]:List Int).length)*1≤140737488355328 then
 some (.inl ((wI (o+1)),(q++([(IntKind.u8.wrap (a.getD o.toNat (Ty.zero Af)).2.1)]:List Int))))
 else none
 else none) (fun t =>
 some (.inr (o,q))))
def G5(a:List Af.V)(d:List Ad.V)(z_:Int×(List Int)):=Jx a d z_.1 z_.2
def I7(a:List Af.V)(d:List Ad.V)(o:Int)(q:List Int):=fix (G5 a d) (o,q)
theorem Ahv(a:List Af.V)(d:List Ad.V):LpOk E35 0 7 (sub (sub (code Tryz.f144) [1,1,1,0,0,0]) [1,0,1,0]) [1,0,1,0,0] (Akr a d) (G5 a d) (Afa a d):=by
 intro _
 simp only[G5,Jx,mC,mI,mN,mB,mE,mM]
 simp(disch:=refine sI ?_<;>(repeat' refine sA ?_ ?_)<;>intro _<;>kernel_rfl) only[Bn (AjE _ _ _ _) (K:=stepK 0 (E35.hd 7) (E35.ot 7))]
 kernel_rfl
def I5(a:List Af.V)(c:Int)(d:List Ad.V)(e:Int):Option (Int×(List Ad.V)) :=
 if(0:Int)≤c∧c<(a.length:Int) then
 bif decide ((a.getD c.toNat (Ty.zero Af)).1<0) then
 if(0:Int)≤c∧c<(a.length:Int) then
 (I7 a d e ([(IntKind.u8.wrap (a.getD c.toNat (Ty.zero Af)).2.1)]:List Int)).bind fun n =>
 (FE n.2).bind fun u =>
 if(d.length+([((-1),0,u.1,(u.1,u.2.2,()),())]:List Ad.V).length)*56≤140737488355328 then
 some (n.1,(d++([((-1),0,u.1,(u.1,u.2.2,()),())]:List Ad.V)))
 else none
 else none
 else
 (Jd a c d e).bind fun i =>
 if(0:Int)≤c∧c<(a.length:Int) then
 if(0:Int)≤c∧c<(a.length:Int) then
 if(d.length+([((a.getD c.toNat (Ty.zero Af)).1,(a.getD c.toNat (Ty.zero Af)).2.1,(wI (i-c)),(0,([]:List Int),()),())]:List Ad.V).length)*56≤140737488355328 then
 some (i,(d++([((a.getD c.toNat (Ty.zero Af)).1,(a.getD c.toNat (Ty.zero Af)).2.1,(wI (i-c)),(0,([]:List Int),()),())]:List Ad.V)))
 else none
 else none
 else none
 else none
theorem AjK(a:List Af.V)(c:Int)(d:List Ad.V)(e:Int):JnOk E35 0 15 (sub (code Tryz.f144) [1,1,1,0,0,0]) [1,0,1,0] (Aih a c d e) (I5 a c d e) (Ako a c d e):=by
 unfold JnOk
 simp only[I5,mC,mI,mN,mB,mE,mM]
 simp(disch:=refine sI ?_<;>(repeat' refine sA ?_ ?_)<;>intro _<;>kernel_rfl) only[I7,Au (Ahv _ _) (K:=joinK 0 (E35.jn 15)),Jd,Au (AfX _ _ _) (K:=joinK 0 (E35.jn 15))]
 kernel_rfl
def IT(a:List Af.V)(c:Int)(d:List Ad.V):Option ((Int×(List Ad.V))⊕(List Ad.V)) :=
 bif decide (c<(a.length:Int)) then
 (I5 a c d (wI (c+1))).bind fun g =>
 some (.inl (g.1,g.2))
 else
 some (.inr d)
def Gb(a:List Af.V)(z_:Int×(List Ad.V)):=IT a z_.1 z_.2
def JX(a:List Af.V)(c:Int)(d:List Ad.V):=fix (Gb a) (c,d)
theorem AcQ(a:List Af.V):LpOk E35 0 3 (code Tryz.f144) [1,1,1,0,0] (Aex a) (Gb a) (Aep a):=by
 intro _
 simp only[Gb,IT,mC,mI,mN,mB,mE,mM]
 simp(disch:=refine sI ?_<;>(repeat' refine sA ?_ ?_)<;>intro _<;>kernel_rfl) only[Bn (AjK _ _ _ _) (K:=stepK 0 (E35.hd 3) (E35.ot 3))]
 kernel_rfl
def IY(a:List Af.V):Option (Bool×(List Ad.V)) :=
 (JX a 0 ([]:List Ad.V)).bind fun b =>
 some ((decide ((b.length:Int)≤2000)),b)
theorem U35(R:Type)(a:List Af.V)(K:AV→List Blk→Option R):runF E35 Tryz.f144 R [dD (.sl Af) a] [] K=(IY a).bind fun r=>K (.cons (.ref 0) (.cons (dB r.1) .nil)) [.row 238 .deep Ad r.2]:=by
 simp only[IY,bC,bI,bN,bE,bA,bS,bO,bM]
 simp(disch:=refine sI ?_<;>(repeat' refine sA ?_ ?_)<;>intro _<;>kernel_rfl) only[JX,Au (AcQ _) (K:=finK E35 Tryz.f144 0 R K)]
 kernel_rfl
def c144:Va.Callee:=brC [.d (.sl Af)] [⟨[.dat [] (.sl Af)],[],(Bool×(List Ad.V)),fun p=>IY p.1.1,fun r=>(.cons (.ref 0) (.cons (dB r.1) .nil),[.row 238 .deep Ad r.2])⟩]
theorem Xm:SoundC Tryz.prog 144 c144:=Ap (fn:=Tryz.f144) (by kernel_rfl) (by kernel_rfl) (by kernel_rfl) ⟨⟨E35,⟨⟨tabok,An ⟨SY,trivial⟩⟩,mixed⟩,fun p R K=>U35 R p.1.1 K⟩,trivial⟩
abbrev E36:Env:=⟨tab,lookH [(120,c120),(143,c143),(144,c144)],{heads:=[(6,{live:=[0,3,6,7,8],pre:=[(6,false,.row [] 124 (.sl Af) false),(7,false,.row [] 238 Ad true)]}),(10,{live:=[0,3,6,8,9,10],pre:=[(9,false,.row [] 124 (.sl Af) false)]})],outs:=[(6,{live:=[4,5,7]}),(10,{live:=[0,3,6,8,9],frz:=[(9,false,(.sl (.sl Af)))]})],res:=[(0,.row [] 238 Ad true)]}⟩
def Agj(a:List Aa.V)(b:Aj.V)(z_:Int×(List (List Af.V))×(List Ad.V)):St:=sT 77 [(0,dD (.sl Aa) a),(3,.ptr 0 0 [] 0),(6,.ref 1),(7,.ref 2),(8,dI z_.1)] [.box (dD Aj b),.row 124 (.sh []) (.sl Af) z_.2.1,.row 238 .deep Ad z_.2.2]
def Ai6(a:List Aa.V)(b:Aj.V):(Unit⊕(List Ad.V))→Ex×St:=Sum.elim (fun c=>(.ret,sT 77 [(4,.zs),(5,dB false)] [])) (fun d=>((.exit 0),sT 77 [(7,.ref 0)] [.row 238 .deep Ad d]))
def Agr(a:List Aa.V)(e:Int)(b:Aj.V)(g:List (List Af.V))(z_:Int×(List (List Af.V))):St:=sT 77 [(0,dD (.sl Aa) a),(3,.ptr 0 0 [] 0),(6,.ref 1),(8,dI e),(9,.ref 2),(10,dI z_.1)] [.box (dD Aj b),.row 124 (.sh []) (.sl Af) g,.row 124 (.sh []) (.sl Af) z_.2]
def Akv(a:List Aa.V)(e:Int)(b:Aj.V)(g:List (List Af.V)):(List (List Af.V))→Ex×St:=fun i=>((.exit 2),sT 77 [(0,dD (.sl Aa) a),(3,.ptr 0 0 [] 0),(6,.ref 1),(8,dI e),(9,dD (.sl (.sl Af)) i)] [.box (dD Aj b),.row 124 (.sh []) (.sl Af) g])
def Gf(a:List Aa.V)(e:Int)(b:Aj.V)(g:List (List Af.V))(j:Int)(k:List (List Af.V)):Option ((Int×(List (List Af.V)))⊕(List (List Af.V))) :=
 if(0:Int)≤e∧e<(b.1.length:Int) then
 bif decide (j<((b.1.getD e.toNat (Ty.zero Ab)).2.2.2.2.2.1.length:Int)) then
 if(0:Int)≤e∧e<(b.1.length:Int) then
 if(0:Int)≤j∧j<((b.1.getD e.toNat (Ty.zero Ab)).2.2.2.2.2.1.length:Int) then
 if(0:Int)≤((b.1.getD e.toNat (Ty.zero Ab)).2.2.2.2.2.1.getD j.toNat (Ty.zero (.int .i64)))∧((b.1.getD e.toNat (Ty.zero Ab)).2.2.2.2.2.1.getD j.toNat (Ty.zero (.int .i64)))<(g.length:Int) then
 if(k.length+([(g.getD ((b.1.getD e.toNat (Ty.zero Ab)).2.2.2.2.2.1.getD j.toNat (Ty.zero (.int .i64))).toNat (Ty.zero (.sl Af)))]:List (List Af.V)).length)*24≤140737488355328 then
 some (.inl ((wI (j+1)),(k++([(g.getD ((b.1.getD e.toNat (Ty.zero Ab)).2.2.2.2.2.1.getD j.toNat (Ty.zero (.int .i64))).toNat (Ty.zero (.sl Af)))]:List (List Af.V)))))
 else none
 else none
 else none
 else none
 else
 some (.inr k)
 else none
def CI(a:List Aa.V)(e:Int)(b:Aj.V)(g:List (List Af.V))(z_:Int×(List (List Af.V))):=Gf a e b g z_.1 z_.2
def HI(a:List Aa.V)(e:Int)(b:Aj.V)(g:List (List Af.V))(j:Int)(k:List (List Af.V)):=fix (CI a e b g) (j,k)
theorem Aka(a:List Aa.V)(e:Int)(b:Aj.V)(g:List (List Af.V)):LpOk E36 0 10 (sub (code Tryz.f73) [1,1,1,1,0,1,0,0]) [1,0,0,1,0,1,0] (Agr a e b g) (CI a e b g) (Akv a e b g):=by
 intro _
 simp only[CI,Gf,mC,mI,mN,mB,mE,mM]
 kernel_rfl
def IL(a:List Aa.V)(b:Aj.V)(e:Int)(g:List (List Af.V))(l:List Ad.V):Option ((Int×(List (List Af.V))×(List Ad.V))⊕(Unit⊕(List Ad.V))) :=
 bif decide (e<(b.1.length:Int)) then
 (HI a e b g 0 ([]:List (List Af.V))).bind fun i =>
 if(0:Int)≤e∧e<(b.1.length:Int) then
 (IU a (b.1.getD e.toNat (Ty.zero Ab)) i).bind fun n =>
 (IY n).bind fun o =>
 bif !o.1 then
 some (.inr (.inl ()))
 else
 if(g.length+([n]:List (List Af.V)).length)*24≤140737488355328 then
 some (.inl ((wI (e+1)),(g++([n]:List (List Af.V))),o.2))
 else none
 else none
 else
 some (.inr (.inr l))
def Gi(a:List Aa.V)(b:Aj.V)(z_:Int×(List (List Af.V))×(List Ad.V)):=IL a b z_.1 z_.2.1 z_.2.2
def Ke(a:List Aa.V)(b:Aj.V)(e:Int)(g:List (List Af.V))(l:List Ad.V):=fix (Gi a b) (e,g,l)
theorem Ajk(a:List Aa.V)(b:Aj.V):LpOk E36 0 6 (code Tryz.f73) [1,1,1,1,0,1,0] (Agj a b) (Gi a b) (Ai6 a b):=by
 intro _
 simp only[Gi,IL,mC,mI,mN,mB,mE,mM]
 simp(disch:=refine sI ?_<;>(repeat' refine sA ?_ ?_)<;>intro _<;>kernel_rfl) only[HI,Au (Aka _ _ _ _) (K:=stepK 0 (E36.hd 6) (E36.ot 6))]
 kernel_rfl
def Dc(a:List Aa.V)(b:Aj.V):Option (Bool×(List Ad.V)) :=
 (BS a b).bind fun q =>
 bif decide (q<0) then
 some (false,([]:List Ad.V))
 else
 (Ke a b 0 ([]:List (List Af.V)) ([]:List Ad.V)).bind (Sum.elim (fun c =>
 some (false,([]:List Ad.V))) (fun d =>
 some (true,d)))
theorem U36(R:Type)(a:List Aa.V)(b:Aj.V)(K:AV→List Blk→Option R):runF E36 Tryz.f73 R [dD (.sl Aa) a,dD Aj b] [] K=(Dc a b).bind fun r=>K (.cons (.ref 0) (.cons (dB r.1) .nil)) [.row 238 .deep Ad r.2]:=by
 simp only[Dc,bC,bI,bN,bE,bA,bS,bO,bM]
 simp(disch:=refine sI ?_<;>(repeat' refine sA ?_ ?_)<;>intro _<;>kernel_rfl) only[Ke,Au (Ajk _ _) (K:=finK E36 Tryz.f73 0 R K)]
 kernel_rfl
def c73:Va.Callee:=brC [.d (.sl Aa),.d Aj] [⟨[.dat [] (.sl Aa),.dat [] Aj],[],(Bool×(List Ad.V)),fun p=>Dc p.1.1 p.1.2.1,fun r=>(.cons (.ref 0) (.cons (dB r.1) .nil),[.row 238 .deep Ad r.2])⟩]
theorem Aam:SoundC Tryz.prog 73 c73:=Ap (fn:=Tryz.f73) (by kernel_rfl) (by kernel_rfl) (by kernel_rfl) ⟨⟨E36,⟨⟨tabok,An ⟨S8,YM,Xm,trivial⟩⟩,mixed⟩,fun p R K=>U36 R p.1.1 p.1.2.1 K⟩,trivial⟩
abbrev E37:Env:=⟨tab,lookH [(73,c73)],{deep:=true,heads:=[(3,{live:=[0,1,6,7],pre:=[(6,false,.row [] 121 (.sl Ad) true)]})],outs:=[(3,{live:=[4,5,6]})],joins:=[(8,{live:=[0,1,6,7,8,10,44]})],ents:=[(8,[0,1,6,7,8,9,10,11])]}⟩
def AfR(a:List Aa.V)(b:List Ae.V)(z_:Int×(List (List Ad.V))):St:=sT 52 [(0,dD (.sl Aa) a),(1,dD (.sl Ae) b),(6,.ref 0),(7,dI z_.1)] [.row 121 .deep (.sl Ad) z_.2]
def AiV(a:List Aa.V)(b:List Ae.V):((List (List Ad.V))⊕(List (List Ad.V)))→Ex×St:=Sum.elim (fun c=>(.ret,sT 52 [(4,.ref 0),(5,dB false),(6,.ref 0)] [.row 121 .deep (.sl Ad) c])) (fun d=>((.exit 0),sT 52 [(6,.ref 0)] [.row 121 .deep (.sl Ad) d]))
def Aac(a:List Aa.V)(b:List Ae.V)(e:Int)(g i:Bool×(List Ad.V))(j:List (List Ad.V)):St:=sT 52 [(0,dD (.sl Aa) a),(1,dD (.sl Ae) b),(6,.ref 0),(7,dI e),(8,.ref 1),(9,dB g.1),(10,.ref 2),(11,dB i.1)] [.row 121 .deep (.sl Ad) j,.row 238 .deep Ad g.2,.row 238 .deep Ad i.2]
def Aay(a:List Aa.V)(b:List Ae.V)(e:Int)(g i:Bool×(List Ad.V))(j:List (List Ad.V))(m0:Bool):Ex×St:=(.normal,sT 52 [(0,dD (.sl Aa) a),(1,dD (.sl Ae) b),(6,.ref 0),(7,dI e),(8,.ref 1),(10,.ref 2),(44,dB m0)] [.row 121 .deep (.sl Ad) j,.row 238 .deep Ad g.2,.row 238 .deep Ad i.2])
theorem AiW(a:List Aa.V)(b:List Ae.V)(e:Int)(g i:Bool×(List Ad.V))(j:List (List Ad.V)):jnS E37 0 8 (sub (code Tryz.f53) [1,1,0,1,0,0]) [1,0,0,1,1,0,0] (Aac a b e g i j)=some (Aay a b e g i j ((!g.1)||(!i.1))):=by
 have h0:jnS E37 0 8 (sub (code Tryz.f53) [1,1,0,1,0,0]) [1,0,0,1,1,0,0] (Aac a b e g i j) =
 bif !g.1 then
 some (Aay a b e g i j true)
 else
 some (Aay a b e g i j (!i.1)):=by kernel_rfl
 rw[h0]
 cases h1:(!g.1)
 ·first | rfl | kernel_rfl
 ·first | rfl | kernel_rfl
def IP(a:List Aa.V)(b:List Ae.V)(e:Int)(j:List (List Ad.V)):Option ((Int×(List (List Ad.V)))⊕((List (List Ad.V))⊕(List (List Ad.V)))) :=
 bif decide (e<(b.length:Int)) then
 if(0:Int)≤e∧e<(b.length:Int) then
 (Dc a (b.getD e.toNat (Ty.zero Ae)).2.2.1).bind fun g =>
 if(0:Int)≤e∧e<(b.length:Int) then
 (Dc a (b.getD e.toNat (Ty.zero Ae)).2.2.2.1).bind fun i =>
 mkr (Aac a b e g i j) (
 bif (!g.1)||(!i.1) then
 some (.inr (.inl j))
 else
 if(j.length+([g.2,i.2]:List (List Ad.V)).length)*24≤140737488355328 then
 some (.inl ((wI (e+1)),(j++([g.2,i.2]:List (List Ad.V)))))
 else none)
 else none
 else none
 else
 some (.inr (.inr j))
def F2(a:List Aa.V)(b:List Ae.V)(z_:Int×(List (List Ad.V))):=IP a b z_.1 z_.2
def Ki(a:List Aa.V)(b:List Ae.V)(e:Int)(j:List (List Ad.V)):=fix (F2 a b) (e,j)
theorem AfN(a:List Aa.V)(b:List Ae.V):LpOk E37 0 3 (code Tryz.f53) [1,1,0,1,0] (AfR a b) (F2 a b) (AiV a b):=by
 intro _
 simp only[F2,IP,mC,mI,mN,mB,mE,mM]
 simp(disch:=refine sI ?_<;>(repeat' refine sA ?_ ?_)<;>intro _<;>kernel_rfl) only[Hs (AiW _ _ _ _ _ _) (K:=stepK 0 (E37.hd 3) (E37.ot 3))]
 kernel_rfl
def FT(a:List Aa.V)(b:List Ae.V):Option (Bool×(List (List Ad.V))) :=
 (Ki a b 0 ([]:List (List Ad.V))).bind (Sum.elim (fun c =>
 some (false,c)) (fun d =>
 some (true,d)))
theorem U37(R:Type)(a:List Aa.V)(b:List Ae.V)(K:AV→List Blk→Option R):runF E37 Tryz.f53 R [dD (.sl Aa) a,dD (.sl Ae) b] [] K=(FT a b).bind fun r=>K (.cons (.ref 0) (.cons (dB r.1) .nil)) [.row 121 .deep (.sl Ad) r.2]:=by
 simp only[FT,bC,bI,bN,bE,bA,bS,bO,bM]
 simp(disch:=refine sI ?_<;>(repeat' refine sA ?_ ?_)<;>intro _<;>kernel_rfl) only[Ki,Au (AfN _ _) (K:=finK E37 Tryz.f53 0 R K)]
 kernel_rfl
def c53:Va.Callee:=brC [.d (.sl Aa),.d (.sl Ae)] [⟨[.dat [] (.sl Aa),.dat [] (.sl Ae)],[],(Bool×(List (List Ad.V))),fun p=>FT p.1.1 p.1.2.1,fun r=>(.cons (.ref 0) (.cons (dB r.1) .nil),[.row 121 .deep (.sl Ad) r.2])⟩]
theorem Vz:SoundC Tryz.prog 53 c53:=Ap (fn:=Tryz.f53) (by kernel_rfl) (by kernel_rfl) (by kernel_rfl) ⟨⟨E37,⟨⟨tabok,An ⟨Aam,trivial⟩⟩,mixed⟩,fun p R K=>U37 R p.1.1 p.1.2.1 K⟩,trivial⟩
abbrev E38:Env:=⟨tab,lookH [],{deep:=true,heads:=[(4,{live:=[0,4,5,6],pre:=[(4,false,.row [] 2 (.int .i64) true)]})],outs:=[(4,{live:=[4,5]})]}⟩
def AgT(a:List Aa.V)(z_:Int×Int×(List Int)):St:=sT 27 [(0,dD (.sl Aa) a),(4,.ref 0),(5,dI z_.1),(6,dI z_.2.1)] [.row 2 .deep (.int .i64) z_.2.2]
def AeN(a:List Aa.V):(Int×(List Int))→Ex×St:=fun b=>((.exit 0),sT 27 [(4,.ref 0),(5,dI b.1)] [.row 2 .deep (.int .i64) b.2])
def DT(a:List Aa.V)(c d:Int)(e:List Int):Option ((Int×Int×(List Int))⊕(Int×(List Int))) :=
 bif decide (d<(a.length:Int)) then
 if(e.length+([c]:List Int).length)*8≤140737488355328 then
 if(0:Int)≤d∧d<(a.length:Int) then
 some (.inl ((wI (c+(a.getD d.toNat (Ty.zero Aa)).2.1)),(wI (d+1)),(e++([c]:List Int))))
 else none
 else none
 else
 some (.inr (c,e))
def A1(a:List Aa.V)(z_:Int×Int×(List Int)):=DT a z_.1 z_.2.1 z_.2.2
def Ib(a:List Aa.V)(c d:Int)(e:List Int):=fix (A1 a) (c,d,e)
theorem Aii(a:List Aa.V):LpOk E38 0 4 (code Tryz.f121) [1,1,1,0,1,0] (AgT a) (A1 a) (AeN a):=by
 intro _
 simp only[A1,DT,mC,mI,mN,mB,mE,mM]
 kernel_rfl
def CQ(a:List Aa.V):Option (Int×(List Int)) :=
 (Ib a 0 0 ([]:List Int)).bind fun b =>
 some (b.1,b.2)
theorem U38(R:Type)(a:List Aa.V)(K:AV→List Blk→Option R):runF E38 Tryz.f121 R [dD (.sl Aa) a] [] K=(CQ a).bind fun r=>K (.cons (.ref 0) (.cons (dI r.1) .nil)) [.row 2 .deep (.int .i64) r.2]:=by
 simp only[CQ,bC,bI,bN,bE,bA,bS,bO,bM]
 simp(disch:=refine sI ?_<;>(repeat' refine sA ?_ ?_)<;>intro _<;>kernel_rfl) only[Ib,Au (Aii _) (K:=finK E38 Tryz.f121 0 R K)]
 kernel_rfl
def c121:Va.Callee:=brC [.d (.sl Aa)] [⟨[.dat [] (.sl Aa)],[],(Int×(List Int)),fun p=>CQ p.1.1,fun r=>(.cons (.ref 0) (.cons (dI r.1) .nil),[.row 2 .deep (.int .i64) r.2])⟩]
theorem SC:SoundC Tryz.prog 121 c121:=Ap (fn:=Tryz.f121) (by kernel_rfl) (by kernel_rfl) (by kernel_rfl) ⟨⟨E38,⟨⟨tabok,An trivial⟩,mixed⟩,fun p R K=>U38 R p.1.1 K⟩,trivial⟩
abbrev E39:Env:=⟨tab,lookH [(188,c188)],{deep:=true,heads:=[(3,{live:=[0,3,4],pre:=[(3,false,.row [] 199 Af true)]}),(6,{live:=[0,3,4,5],pre:=[(3,false,.row [] 199 Af true)]})],outs:=[(3,{live:=[3]}),(6,{live:=[0,3,4]})],joins:=[(7,{live:=[0,3,4,5]})],ents:=[(7,[0,3,4,5])]}⟩
def Agl(a:List Ad.V)(z_:Int×(List Af.V)):St:=sT 57 [(0,dD (.sl Ad) a),(3,.ref 0),(4,dI z_.1)] [.row 199 .deep Af z_.2]
def AiD(a:List Ad.V):(List Af.V)→Ex×St:=fun b=>((.exit 0),sT 57 [(3,.ref 0)] [.row 199 .deep Af b])
def Ae5(a:List Ad.V)(c:Int)(z_:Int×(List Af.V)):St:=sT 57 [(0,dD (.sl Ad) a),(3,.ref 0),(4,dI c),(5,dI z_.1)] [.row 199 .deep Af z_.2]
def AjI(a:List Ad.V)(c:Int):(List Af.V)→Ex×St:=fun d=>((.exit 2),sT 57 [(0,dD (.sl Ad) a),(3,.ref 0),(4,dI c)] [.row 199 .deep Af d])
def Ajq(a:List Ad.V)(c e:Int)(g:List Af.V):St:=sT 57 [(0,dD (.sl Ad) a),(3,.ref 0),(4,dI c),(5,dI e)] [.row 199 .deep Af g]
def Af3(a:List Ad.V)(c e:Int)(g:List Af.V):(List Af.V)→Ex×St:=fun i=>(.normal,sT 57 [(0,dD (.sl Ad) a),(3,.ref 0),(4,dI c),(5,dI e)] [.row 199 .deep Af i])
def I6(a:List Ad.V)(c e:Int)(g:List Af.V):Option (List Af.V) :=
 if(0:Int)≤c∧c<(a.length:Int) then
 bif decide ((a.getD c.toNat (Ty.zero Ad)).1<0) then
 if(0:Int)≤c∧c<(a.length:Int) then
 (D6 (a.getD c.toNat (Ty.zero Ad)).2.2.2.1 e).bind fun j =>
 if(g.length+([((-1),(wI j),())]:List Af.V).length)*16≤140737488355328 then
 some (g++([((-1),(wI j),())]:List Af.V))
 else none
 else none
 else
 if(0:Int)≤c∧c<(a.length:Int) then
 if(0:Int)≤c∧c<(a.length:Int) then
 if(g.length+([((a.getD c.toNat (Ty.zero Ad)).1,(wI ((a.getD c.toNat (Ty.zero Ad)).2.1+e)),())]:List Af.V).length)*16≤140737488355328 then
 some (g++([((a.getD c.toNat (Ty.zero Ad)).1,(wI ((a.getD c.toNat (Ty.zero Ad)).2.1+e)),())]:List Af.V))
 else none
 else none
 else none
 else none
theorem AfF(a:List Ad.V)(c e:Int)(g:List Af.V):JnOk E39 0 7 (sub (sub (code Tryz.f122) [1,1,0,1,0,0]) [1,0,0,1,0,0]) [1,0] (Ajq a c e g) (I6 a c e g) (Af3 a c e g):=by
 unfold JnOk
 simp only[I6,mC,mI,mN,mB,mE,mM]
 kernel_rfl
def G9(a:List Ad.V)(c e:Int)(g:List Af.V):Option ((Int×(List Af.V))⊕(List Af.V)) :=
 if(0:Int)≤c∧c<(a.length:Int) then
 bif decide (e<(a.getD c.toNat (Ty.zero Ad)).2.2.1) then
 (I6 a c e g).bind fun i =>
 some (.inl ((wI (e+1)),i))
 else
 some (.inr g)
 else none
def C4(a:List Ad.V)(c:Int)(z_:Int×(List Af.V)):=G9 a c z_.1 z_.2
def Ji(a:List Ad.V)(c e:Int)(g:List Af.V):=fix (C4 a c) (e,g)
theorem Af9(a:List Ad.V)(c:Int):LpOk E39 0 6 (sub (code Tryz.f122) [1,1,0,1,0,0]) [1,0,0,1,0] (Ae5 a c) (C4 a c) (AjI a c):=by
 intro _
 simp only[C4,G9,mC,mI,mN,mB,mE,mM]
 simp(disch:=refine sI ?_<;>(repeat' refine sA ?_ ?_)<;>intro _<;>kernel_rfl) only[Bn (AfF _ _ _ _) (K:=stepK 0 (E39.hd 6) (E39.ot 6))]
 kernel_rfl
def G6(a:List Ad.V)(c:Int)(k:List Af.V):Option ((Int×(List Af.V))⊕(List Af.V)) :=
 bif decide (c<(a.length:Int)) then
 (Ji a c 0 k).bind fun d =>
 some (.inl ((wI (c+1)),d))
 else
 some (.inr k)
def Cc(a:List Ad.V)(z_:Int×(List Af.V)):=G6 a z_.1 z_.2
def KC(a:List Ad.V)(c:Int)(k:List Af.V):=fix (Cc a) (c,k)
theorem AiX(a:List Ad.V):LpOk E39 0 3 (code Tryz.f122) [1,1,0,1,0] (Agl a) (Cc a) (AiD a):=by
 intro _
 simp only[Cc,G6,mC,mI,mN,mB,mE,mM]
 simp(disch:=refine sI ?_<;>(repeat' refine sA ?_ ?_)<;>intro _<;>kernel_rfl) only[Ji,Au (Af9 _ _) (K:=stepK 0 (E39.hd 3) (E39.ot 3))]
 kernel_rfl
def FG(a:List Ad.V):Option (List Af.V) :=
 (KC a 0 ([]:List Af.V)).bind fun b =>
 some b
theorem U39(R:Type)(a:List Ad.V)(K:AV→List Blk→Option R):runF E39 Tryz.f122 R [dD (.sl Ad) a] [] K=(FG a).bind fun r=>K (.ref 0) [.row 199 .deep Af r]:=by
 simp only[FG,bC,bI,bN,bE,bA,bS,bO,bM]
 simp(disch:=refine sI ?_<;>(repeat' refine sA ?_ ?_)<;>intro _<;>kernel_rfl) only[KC,Au (AiX _) (K:=finK E39 Tryz.f122 0 R K)]
 kernel_rfl
def c122:Va.Callee:=brC [.d (.sl Ad)] [⟨[.dat [] (.sl Ad)],[],(List Af.V),fun p=>FG p.1.1,fun r=>(.ref 0,[.row 199 .deep Af r])⟩]
theorem Yj:SoundC Tryz.prog 122 c122:=Ap (fn:=Tryz.f122) (by kernel_rfl) (by kernel_rfl) (by kernel_rfl) ⟨⟨E39,⟨⟨tabok,An ⟨Pz,trivial⟩⟩,mixed⟩,fun p R K=>U39 R p.1.1 K⟩,trivial⟩
end
end Go.Proofs.X
namespace Go.Proofs.X
open Go Go.Va
set_option maxRecDepth 100000
noncomputable section
abbrev E40:Env:=⟨tab,lookH [],{deep:=true}⟩
def DB(a:List Int)(b:Af.V):Option Int :=
 bif decide (b.1<0) then
 some (wI (0-b.2.1))
 else
 if(0:Int)≤b.1∧b.1<(a.length:Int) then
 some (wI ((wI ((a.getD b.1.toNat (Ty.zero (.int .i64)))+b.2.1))+1))
 else none
theorem U40(R:Type)(a:List Int)(b:Af.V)(K:AV→List Blk→Option R):runF E40 Tryz.f123 R [dD (.sl (.int .i64)) a,dD Af b] [] K=(DB a b).bind fun r=>K (dI r) []:=by
 simp only[DB,bC,bI,bN,bE,bA,bS,bO,bM]
 kernel_rfl
def c123:Va.Callee:=brC [.d (.sl (.int .i64)),.d Af] [⟨[.dat [] (.sl (.int .i64)),.dat [] Af],[],Int,fun p=>DB p.1.1 p.1.2.1,fun r=>(dI r,[])⟩]
theorem Ys:SoundC Tryz.prog 123 c123:=Ap (fn:=Tryz.f123) (by kernel_rfl) (by kernel_rfl) (by kernel_rfl) ⟨⟨E40,⟨⟨tabok,An trivial⟩,mixed⟩,fun p R K=>U40 R p.1.1 p.1.2.1 K⟩,trivial⟩
abbrev E41:Env:=⟨tab,lookH [],{deep:=true,joins:=[(12,{live:=[3,6]})],ents:=[(12,[3,6,7,8])],fin:=[.mvs 6 [1],.dead 0]}⟩
def AeJ(a:List (List Int))(b c d:Int):St:=sT 63 [(3,.ptr 1 0 [] 0),(6,.ptr 2 0 [] 0),(7,dI c),(8,dI d)] [.row 72 .deep (.sl (.int .i64)) a,.box (.pr (dI b) (.pr (.ref 0) .u)),.box (.pr (dI 0) (.pr .zs .u))]
def Aks(a:List (List Int))(b c d:Int):(List (List Int))→Ex×St:=fun e=>(.normal,sT 63 [(3,.ptr 1 0 [] 0),(6,.ptr 2 0 [] 0)] [.dead,.box (.pr (dI b) (.pr (.ref 3) .u)),.box (.pr (dI 0) (.pr .zs .u)),.row 72 .deep (.sl (.int .i64)) e])
def G8(a:List (List Int))(b c d:Int):Option (List (List Int)) :=
 bif decide (c≤0) then
 if(a.length+([([]:List Int)]:List (List Int)).length)*24≤140737488355328 then
 some (a++([([]:List Int)]:List (List Int)))
 else none
 else
 bif d==0 then
 if(a.length+([([(wI (0-c))]:List Int)]:List (List Int)).length)*24≤140737488355328 then
 some (a++([([(wI (0-c))]:List Int)]:List (List Int)))
 else none
 else
 bif decide (d<0) then
 if(a.length+([([c]:List Int)]:List (List Int)).length)*24≤140737488355328 then
 some (a++([([c]:List Int)]:List (List Int)))
 else none
 else
 if(a.length+([([(wI (0-d)),c]:List Int),([d,(wI (0-c))]:List Int)]:List (List Int)).length)*24≤140737488355328 then
 some (a++([([(wI (0-d)),c]:List Int),([d,(wI (0-c))]:List Int)]:List (List Int)))
 else none
theorem AkD(a:List (List Int))(b c d:Int):JnOk E41 1 12 (code Tryz.f125) [1,1,1,1,0] (AeJ a b c d) (G8 a b c d) (Aks a b c d):=by
 unfold JnOk
 simp only[G8,mC,mI,mN,mB,mE,mM]
 kernel_rfl
def Gt(b g i:Int)(a:List (List Int)):Option (Int×(List (List Int))) :=
 bif g==i then
 some (b,a)
 else
 (G8 a b (if i>g then i else g) (if i<g then i else g)).bind fun e =>
 some (b,e)
theorem U41(R:Type)(b g i:Int)(a:List (List Int))(K:AV→List Blk→Option R):runF E41 Tryz.f125 R [.pr (dI b) (.pr (.ref 0) .u),dI g,dI i] [.row 72 .deep (.sl (.int .i64)) a] K=(Gt b g i a).bind fun r=>K (.pr (dI r.1) (.pr (.ref 1) .u)) [.dead,.row 72 .deep (.sl (.int .i64)) r.2]:=by
 simp only[Gt,bC,bI,bN,bE,bA,bS,bO,bM]
 simp(disch:=refine sI ?_<;>(repeat' refine sA ?_ ?_)<;>intro _<;>kernel_rfl) only[Bn (AkD _ _ _ _) (K:=finK E41 Tryz.f125 1 R K)]
 kernel_rfl
def c125:Va.Callee:=brC [.raw,.d (.int .i64),.d (.int .i64)] [⟨[.pr (.dat [] (.int .i64)) (.pr (.k (.ref 0)) (.k .u)),.dat [] (.int .i64),.dat [] (.int .i64)],[.row 72 .deep (.sl (.int .i64))],(Int×(List (List Int))),fun p=>Gt p.1.1.1 p.1.2.1 p.1.2.2.1 p.2.1,fun r=>(.pr (dI r.1) (.pr (.ref 1) .u),[.dead,.row 72 .deep (.sl (.int .i64)) r.2])⟩]
theorem Yw:SoundC Tryz.prog 125 c125:=Ap (fn:=Tryz.f125) (by kernel_rfl) (by kernel_rfl) (by kernel_rfl) ⟨⟨E41,⟨⟨tabok,An trivial⟩,mixed⟩,fun p R K=>U41 R p.1.1.1 p.1.2.1 p.1.2.2.1 p.2.1 K⟩,trivial⟩
abbrev E42:Env:=⟨tab,lookH [],{deep:=true,heads:=[(2,{live:=[1,2,3,6,7]}),(8,{live:=[1,2,3,6,8,9],mvp:=[(3,[1])],pre:=[(8,false,.row [] 2 (.int .i64) true)]})],outs:=[(2,{live:=[1,2,3,6]}),(8,{live:=[3,6,8]})],joins:=[(5,{live:=[1,2,3,6,7,41]}),(9,{live:=[1,2,3,6,8,9],mvp:=[(3,[1])],pre:=[(8,false,.row [] 2 (.int .i64) true)]})],ents:=[(5,[1,2,3,6,7]),(9,[1,2,3,6,8,9])],fin:=[.mvs 6 [1],.dead 0]}⟩
def Aiq(a b:List Int)(z_:Int×Int×(List Int)×(List (List Int))):St:=sT 136 [(1,dD (.sl (.int .i64)) a),(2,dD (.sl (.int .i64)) b),(3,.ptr 1 0 [] 0),(6,.ptr 2 0 [] 0),(8,.ref 3),(9,dI z_.1)] [.dead,.box (.pr (dI z_.2.1) (.pr (.ref 4) .u)),.box (.pr (dI 0) (.pr .zs .u)),.row 2 .deep (.int .i64) z_.2.2.1,.row 72 .deep (.sl (.int .i64)) z_.2.2.2]
def AiB(a b:List Int):(Int×(List Int)×(List (List Int)))→Ex×St:=fun c=>((.exit 2),sT 136 [(3,.ptr 1 0 [] 0),(6,.ptr 2 0 [] 0),(8,.ref 3)] [.dead,.box (.pr (dI c.1) (.pr (.ref 4) .u)),.box (.pr (dI 0) (.pr .zs .u)),.row 2 .deep (.int .i64) c.2.1,.row 72 .deep (.sl (.int .i64)) c.2.2])
def AfL(a b:List Int)(d e:Int)(g:List Int)(i:List (List Int)):St:=sT 136 [(1,dD (.sl (.int .i64)) a),(2,dD (.sl (.int .i64)) b),(3,.ptr 1 0 [] 0),(6,.ptr 2 0 [] 0),(8,.ref 3),(9,dI d)] [.dead,.box (.pr (dI e) (.pr (.ref 4) .u)),.box (.pr (dI 0) (.pr .zs .u)),.row 2 .deep (.int .i64) g,.row 72 .deep (.sl (.int .i64)) i]
def Aji(a b:List Int)(d e:Int)(g:List Int)(i:List (List Int)):(Int×(List Int)×(List (List Int)))→Ex×St:=fun j=>(.normal,sT 136 [(1,dD (.sl (.int .i64)) a),(2,dD (.sl (.int .i64)) b),(3,.ptr 1 0 [] 0),(6,.ptr 2 0 [] 0),(8,.ref 3),(9,dI d)] [.dead,.box (.pr (dI j.1) (.pr (.ref 4) .u)),.box (.pr (dI 0) (.pr .zs .u)),.row 2 .deep (.int .i64) j.2.1,.row 72 .deep (.sl (.int .i64)) j.2.2])
def D1(a b:List Int)(d e:Int)(g:List Int)(i:List (List Int)):Option (Int×(List Int)×(List (List Int))) :=
 if(0:Int)≤d∧d<(a.length:Int) then
 if(0:Int)≤d∧d<(b.length:Int) then
 bif (a.getD d.toNat (Ty.zero (.int .i64)))==(b.getD d.toNat (Ty.zero (.int .i64))) then
 some (e,g,i)
 else
 if(0:Int)≤d∧d<(a.length:Int) then
 if(0:Int)≤d∧d<(b.length:Int) then
 if(0:Int)≤d∧d<(a.length:Int) then
 if(0:Int)≤d∧d<(b.length:Int) then
 if(g.length+([(wI (e+1))]:List Int).length)*8≤140737488355328 then
 bif (if(b.getD d.toNat (Ty.zero (.int .i64)))<(a.getD d.toNat (Ty.zero (.int .i64))) then(b.getD d.toNat (Ty.zero (.int .i64))) else(a.getD d.toNat (Ty.zero (.int .i64))))==0 then
 if(i.length+([([(if(b.getD d.toNat (Ty.zero (.int .i64)))>(a.getD d.toNat (Ty.zero (.int .i64))) then(b.getD d.toNat (Ty.zero (.int .i64))) else(a.getD d.toNat (Ty.zero (.int .i64)))),(wI (0-(wI (e+1))))]:List Int)]:List (List Int)).length)*24≤140737488355328 then
 some ((wI (e+1)),(g++([(wI (e+1))]:List Int)),(i++([([(if(b.getD d.toNat (Ty.zero (.int .i64)))>(a.getD d.toNat (Ty.zero (.int .i64))) then(b.getD d.toNat (Ty.zero (.int .i64))) else(a.getD d.toNat (Ty.zero (.int .i64)))),(wI (0-(wI (e+1))))]:List Int)]:List (List Int))))
 else none
 else
 bif decide ((if(b.getD d.toNat (Ty.zero (.int .i64)))<(a.getD d.toNat (Ty.zero (.int .i64))) then(b.getD d.toNat (Ty.zero (.int .i64))) else(a.getD d.toNat (Ty.zero (.int .i64))))<0) then
 if(i.length+([([(wI (0-(if(b.getD d.toNat (Ty.zero (.int .i64)))>(a.getD d.toNat (Ty.zero (.int .i64))) then(b.getD d.toNat (Ty.zero (.int .i64))) else(a.getD d.toNat (Ty.zero (.int .i64)))))),(wI (0-(wI (e+1))))]:List Int)]:List (List Int)).length)*24≤140737488355328 then
 some ((wI (e+1)),(g++([(wI (e+1))]:List Int)),(i++([([(wI (0-(if(b.getD d.toNat (Ty.zero (.int .i64)))>(a.getD d.toNat (Ty.zero (.int .i64))) then(b.getD d.toNat (Ty.zero (.int .i64))) else(a.getD d.toNat (Ty.zero (.int .i64)))))),(wI (0-(wI (e+1))))]:List Int)]:List (List Int))))
 else none
 else
 if(i.length+([([(if(b.getD d.toNat (Ty.zero (.int .i64)))<(a.getD d.toNat (Ty.zero (.int .i64))) then(b.getD d.toNat (Ty.zero (.int .i64))) else(a.getD d.toNat (Ty.zero (.int .i64)))),(if(b.getD d.toNat (Ty.zero (.int .i64)))>(a.getD d.toNat (Ty.zero (.int .i64))) then(b.getD d.toNat (Ty.zero (.int .i64))) else(a.getD d.toNat (Ty.zero (.int .i64)))),(wI (0-(wI (e+1))))]:List Int),([(wI (0-(if(b.getD d.toNat (Ty.zero (.int .i64)))<(a.getD d.toNat (Ty.zero (.int .i64))) then(b.getD d.toNat (Ty.zero (.int .i64))) else(a.getD d.toNat (Ty.zero (.int .i64)))))),(wI (0-(if(b.getD d.toNat (Ty.zero (.int .i64)))>(a.getD d.toNat (Ty.zero (.int .i64))) then(b.getD d.toNat (Ty.zero (.int .i64))) else(a.getD d.toNat (Ty.zero (.int .i64)))))),(wI (0-(wI (e+1))))]:List Int)]:List (List Int)).length)*24≤140737488355328 then
 some ((wI (e+1)),(g++([(wI (e+1))]:List Int)),(i++([([(if(b.getD d.toNat (Ty.zero (.int .i64)))<(a.getD d.toNat (Ty.zero (.int .i64))) then(b.getD d.toNat (Ty.zero (.int .i64))) else(a.getD d.toNat (Ty.zero (.int .i64)))),(if(b.getD d.toNat (Ty.zero (.int .i64)))>(a.getD d.toNat (Ty.zero (.int .i64))) then(b.getD d.toNat (Ty.zero (.int .i64))) else(a.getD d.toNat (Ty.zero (.int .i64)))),(wI (0-(wI (e+1))))]:List Int),([(wI (0-(if(b.getD d.toNat (Ty.zero (.int .i64)))<(a.getD d.toNat (Ty.zero (.int .i64))) then(b.getD d.toNat (Ty.zero (.int .i64))) else(a.getD d.toNat (Ty.zero (.int .i64)))))),(wI (0-(if(b.getD d.toNat (Ty.zero (.int .i64)))>(a.getD d.toNat (Ty.zero (.int .i64))) then(b.getD d.toNat (Ty.zero (.int .i64))) else(a.getD d.toNat (Ty.zero (.int .i64)))))),(wI (0-(wI (e+1))))]:List Int)]:List (List Int))))
 else none
 else none
 else none
 else none
 else none
 else none
 else none
 else none
theorem Afw(a b:List Int)(d e:Int)(g:List Int)(i:List (List Int)):JnOk E42 1 9 (sub (code Tryz.f124) [1,1,1,0,1,0,0]) [1,0] (AfL a b d e g i) (D1 a b d e g i) (Aji a b d e g i):=by
 unfold JnOk
 simp only[D1,mC,mI,mN,mB,mE,mM]
 kernel_rfl
def Ey(a b:List Int)(d e:Int)(g:List Int)(i:List (List Int)):Option ((Int×Int×(List Int)×(List (List Int)))⊕(Int×(List Int)×(List (List Int)))) :=
 bif decide (d<(a.length:Int)) then
 (D1 a b d e g i).bind fun j =>
 some (.inl ((wI (d+1)),j.1,j.2.1,j.2.2))
 else
 some (.inr (e,g,i))
def BC(a b:List Int)(z_:Int×Int×(List Int)×(List (List Int))):=Ey a b z_.1 z_.2.1 z_.2.2.1 z_.2.2.2
def F1(a b:List Int)(d e:Int)(g:List Int)(i:List (List Int)):=fix (BC a b) (d,e,g,i)
theorem AgH(a b:List Int):LpOk E42 1 8 (code Tryz.f124) [1,1,1,0,1,0] (Aiq a b) (BC a b) (AiB a b):=by
 intro _
 simp only[BC,Ey,mC,mI,mN,mB,mE,mM]
 simp(disch:=refine sI ?_<;>(repeat' refine sA ?_ ?_)<;>intro _<;>kernel_rfl) only[Bn (Afw _ _ _ _ _ _) (K:=stepK 1 (E42.hd 8) (E42.ot 8))]
 kernel_rfl
def Akg(a b:List Int)(k:List (List Int))(l z_:Int):St:=sT 136 [(1,dD (.sl (.int .i64)) a),(2,dD (.sl (.int .i64)) b),(3,.ptr 1 0 [] 0),(6,.ptr 2 0 [] 0),(7,dI z_)] [.row 72 .deep (.sl (.int .i64)) k,.box (.pr (dI l) (.pr (.ref 0) .u)),.box (.pr (dI 0) (.pr .zs .u))]
def AjD(a b:List Int)(k:List (List Int))(l:Int):(Unit⊕Unit)→Ex×St:=Sum.elim (fun n=>(.ret,sT 136 [(1,dD (.sl (.int .i64)) a),(2,dD (.sl (.int .i64)) b),(3,.ptr 1 0 [] 0),(6,.ptr 2 0 [] 0)] [.row 72 .deep (.sl (.int .i64)) k,.box (.pr (dI l) (.pr (.ref 0) .u)),.box (.pr (dI l) (.pr (.ref 0) .u))])) (fun o=>((.exit 0),sT 136 [(1,dD (.sl (.int .i64)) a),(2,dD (.sl (.int .i64)) b),(3,.ptr 1 0 [] 0),(6,.ptr 2 0 [] 0)] [.row 72 .deep (.sl (.int .i64)) k,.box (.pr (dI l) (.pr (.ref 0) .u)),.box (.pr (dI 0) (.pr .zs .u))]))
def AhN(a b:List Int)(q:Int)(k:List (List Int))(l:Int):St:=sT 136 [(1,dD (.sl (.int .i64)) a),(2,dD (.sl (.int .i64)) b),(3,.ptr 1 0 [] 0),(6,.ptr 2 0 [] 0),(7,dI q)] [.row 72 .deep (.sl (.int .i64)) k,.box (.pr (dI l) (.pr (.ref 0) .u)),.box (.pr (dI 0) (.pr .zs .u))]
def Aff(a b:List Int)(q:Int)(k:List (List Int))(l:Int):Bool→Ex×St:=fun s=>(.normal,sT 136 [(1,dD (.sl (.int .i64)) a),(2,dD (.sl (.int .i64)) b),(3,.ptr 1 0 [] 0),(6,.ptr 2 0 [] 0),(7,dI q),(41,dB s)] [.row 72 .deep (.sl (.int .i64)) k,.box (.pr (dI l) (.pr (.ref 0) .u)),.box (.pr (dI 0) (.pr .zs .u))])
def D7(a b:List Int)(q:Int)(k:List (List Int))(l:Int):Option Bool :=
 if(0:Int)≤q∧q<(a.length:Int) then
 bif decide ((a.getD q.toNat (Ty.zero (.int .i64)))≤0) then
 if(0:Int)≤q∧q<(b.length:Int) then
 bif decide ((b.getD q.toNat (Ty.zero (.int .i64)))≤0) then
 if(0:Int)≤q∧q<(a.length:Int) then
 if(0:Int)≤q∧q<(b.length:Int) then
 some ((a.getD q.toNat (Ty.zero (.int .i64))) !=(b.getD q.toNat (Ty.zero (.int .i64))))
 else none
 else none
 else
 some false
 else none
 else
 some false
 else none
theorem AkC(a b:List Int)(q:Int)(k:List (List Int))(l:Int):JnOk E42 1 5 (sub (code Tryz.f124) [1,0,1,0,0]) [1,0,0,0] (AhN a b q k l) (D7 a b q k l) (Aff a b q k l):=by
 unfold JnOk
 simp only[D7,mC,mI,mN,mB,mE,mM]
 kernel_rfl
def Ho(a b:List Int)(k:List (List Int))(l q:Int):Option (Int⊕(Unit⊕Unit)) :=
 bif decide (q<(a.length:Int)) then
 (D7 a b q k l).bind fun s =>
 bif s then
 some (.inr (.inl ()))
 else
 some (.inl (wI (q+1)))
 else
 some (.inr (.inr ()))
def EC(a b:List Int)(k:List (List Int))(l z_:Int):=Ho a b k l z_
def Gu(a b:List Int)(k:List (List Int))(l q:Int):=fix (EC a b k l) q
theorem AhW(a b:List Int)(k:List (List Int))(l:Int):LpOk E42 1 2 (code Tryz.f124) [1,0,1,0] (Akg a b k l) (EC a b k l) (AjD a b k l):=by
 intro _
 simp only[EC,Ho,mC,mI,mN,mB,mE,mM]
 simp(disch:=refine sI ?_<;>(repeat' refine sA ?_ ?_)<;>intro _<;>kernel_rfl) only[Bn (AkC _ _ _ _ _) (K:=stepK 1 (E42.hd 2) (E42.ot 2))]
 kernel_rfl
def DE(l:Int)(a b:List Int)(k:List (List Int)):Option (Int×(List (List Int))) :=
 (Gu a b k l 0).bind (Sum.elim (fun n =>
 some (l,k)) (fun o =>
 (F1 a b 0 l ([]:List Int) k).bind fun c =>
 if(c.2.2.length+([c.2.1]:List (List Int)).length)*24≤140737488355328 then
 some (c.1,(c.2.2++([c.2.1]:List (List Int))))
 else none))
theorem U42(R:Type)(l:Int)(a b:List Int)(k:List (List Int))(K:AV→List Blk→Option R):runF E42 Tryz.f124 R [.pr (dI l) (.pr (.ref 0) .u),dD (.sl (.int .i64)) a,dD (.sl (.int .i64)) b] [.row 72 .deep (.sl (.int .i64)) k] K=(DE l a b k).bind fun r=>K (.pr (dI r.1) (.pr (.ref 1) .u)) [.dead,.row 72 .deep (.sl (.int .i64)) r.2]:=by
 simp only[DE,bC,bI,bN,bE,bA,bS,bO,bM]
 simp(disch:=refine sI ?_<;>(repeat' refine sA ?_ ?_)<;>intro _<;>kernel_rfl) only[Gu,Au (AhW _ _ _ _) (K:=finK E42 Tryz.f124 1 R K),F1,Au (AgH _ _) (K:=finK E42 Tryz.f124 1 R K)]
 kernel_rfl
def c124:Va.Callee:=brC [.raw,.d (.sl (.int .i64)),.d (.sl (.int .i64))] [⟨[.pr (.dat [] (.int .i64)) (.pr (.k (.ref 0)) (.k .u)),.dat [] (.sl (.int .i64)),.dat [] (.sl (.int .i64))],[.row 72 .deep (.sl (.int .i64))],(Int×(List (List Int))),fun p=>DE p.1.1.1 p.1.2.1 p.1.2.2.1 p.2.1,fun r=>(.pr (dI r.1) (.pr (.ref 1) .u),[.dead,.row 72 .deep (.sl (.int .i64)) r.2])⟩]
theorem WT:SoundC Tryz.prog 124 c124:=Ap (fn:=Tryz.f124) (by kernel_rfl) (by kernel_rfl) (by kernel_rfl) ⟨⟨E42,⟨⟨tabok,An trivial⟩,mixed⟩,fun p R K=>U42 R p.1.1.1 p.1.2.1 p.1.2.2.1 p.2.1 K⟩,trivial⟩
abbrev E43:Env:=⟨tab,lookH [],{deep:=true}⟩
def AN(a:Int):Int:=(if(wI (0-a))>a then(wI (0-a)) else a)
theorem U43(R:Type)(a:Int)(K:AV→List Blk→Option R):runF E43 Tryz.f189 R [dI a] [] K=K (dI (AN a)) []:=by
 kernel_rfl
def c189:Va.Callee:=brC [.d (.int .i64)] [⟨[.dat [] (.int .i64)],[],Int,fun p=>some (AN p.1.1),fun r=>(dI r,[])⟩]
theorem Pe:SoundC Tryz.prog 189 c189:=Ap (fn:=Tryz.f189) (by kernel_rfl) (by kernel_rfl) (by kernel_rfl) ⟨⟨E43,⟨⟨tabok,An trivial⟩,mixed⟩,fun p R K=>U43 R p.1.1 K⟩,trivial⟩
abbrev E44:Env:=⟨tab,lookH [(52,c52),(189,c189)],{deep:=true,heads:=[(4,{live:=[1,3]}),(9,{live:=[1,3,4]})],outs:=[(4,{live:=[2]}),(9,{live:=[1,2,3]})],joins:=[(2,{live:=[1,15]}),(13,{live:=[1,3,4,78]})],ents:=[(2,[1]),(13,[1,3,4,5])]}⟩
def AiH(a:Ag.V)(z_:Int):St:=sT 79 [(1,.ptr 0 0 [] 0),(3,dI z_)] [.box (dD Ag a)]
def Afs(a:Ag.V):(Unit⊕Unit)→Ex×St:=Sum.elim (fun b=>(.ret,sT 79 [(2,dB false)] [])) (fun c=>((.exit 0),sT 79 [] []))
def AgY(d:Int)(a:Ag.V)(z_:Int):St:=sT 79 [(1,.ptr 0 0 [] 0),(3,dI d),(4,dI z_)] [.box (dD Ag a)]
def AiQ(d:Int)(a:Ag.V):(Unit⊕Unit)→Ex×St:=Sum.elim (fun e=>(.ret,sT 79 [(1,.ptr 0 0 [] 0),(2,dB false),(3,dI d)] [.box (dD Ag a)])) (fun g=>((.exit 2),sT 79 [(1,.ptr 0 0 [] 0),(3,dI d)] [.box (dD Ag a)]))
def Ag6(d i:Int)(a:Ag.V)(j:Int):St:=sT 79 [(1,.ptr 0 0 [] 0),(3,dI d),(4,dI i),(5,dI j)] [.box (dD Ag a)]
def AfC(d i:Int)(a:Ag.V)(j:Int):Bool→Ex×St:=fun k=>(.normal,sT 79 [(1,.ptr 0 0 [] 0),(3,dI d),(4,dI i),(78,dB k)] [.box (dD Ag a)])
def Iq(d i:Int)(a:Ag.V)(j:Int):Option Bool :=
 bif j==0 then
 some true
 else
 bif !(Ay j (wI (0-a.1)) a.1) then
 some true
 else
 bif decide (i>0) then
 if(0:Int)≤d∧d<(a.2.1.length:Int) then
 if(0:Int)≤(wI (i-1))∧(wI (i-1))<((a.2.1.getD d.toNat (Ty.zero (.sl (.int .i64)))).length:Int) then
 some (decide ((AN j)≤(AN ((a.2.1.getD d.toNat (Ty.zero (.sl (.int .i64)))).getD (wI (i-1)).toNat (Ty.zero (.int .i64))))))
 else none
 else none
 else
 some false
theorem AjW(d i:Int)(a:Ag.V)(j:Int):JnOk E44 0 13 (sub (sub (code Tryz.f126) [1,1,0,1,0,0]) [1,0,0,1,1,0,0]) [1,0,0,1,0] (Ag6 d i a j) (Iq d i a j) (AfC d i a j):=by
 unfold JnOk
 simp only[Iq,mC,mI,mN,mB,mE,mM]
 kernel_rfl
def JW(d:Int)(a:Ag.V)(i:Int):Option (Int⊕(Unit⊕Unit)) :=
 if(0:Int)≤d∧d<(a.2.1.length:Int) then
 bif decide (i<((a.2.1.getD d.toNat (Ty.zero (.sl (.int .i64)))).length:Int)) then
 if(0:Int)≤d∧d<(a.2.1.length:Int) then
 if(0:Int)≤i∧i<((a.2.1.getD d.toNat (Ty.zero (.sl (.int .i64)))).length:Int) then
 (Iq d i a ((a.2.1.getD d.toNat (Ty.zero (.sl (.int .i64)))).getD i.toNat (Ty.zero (.int .i64)))).bind fun k =>
 bif k then
 some (.inr (.inl ()))
 else
 some (.inl (wI (i+1)))
 else none
 else none
 else
 some (.inr (.inr ()))
 else none
def HQ(d:Int)(a:Ag.V)(z_:Int):=JW d a z_
def JF(d:Int)(a:Ag.V)(i:Int):=fix (HQ d a) i
theorem Ahp(d:Int)(a:Ag.V):LpOk E44 0 9 (sub (code Tryz.f126) [1,1,0,1,0,0]) [1,0,0,1,1,0] (AgY d a) (HQ d a) (AiQ d a):=by
 intro _
 simp only[HQ,JW,mC,mI,mN,mB,mE,mM]
 simp(disch:=refine sI ?_<;>(repeat' refine sA ?_ ?_)<;>intro _<;>kernel_rfl) only[Bn (AjW _ _ _ _) (K:=stepK 0 (E44.hd 9) (E44.ot 9))]
 kernel_rfl
def JV(a:Ag.V)(d:Int):Option (Int⊕(Unit⊕Unit)) :=
 bif decide (d<(a.2.1.length:Int)) then
 if(0:Int)≤d∧d<(a.2.1.length:Int) then
 bif decide (((a.2.1.getD d.toNat (Ty.zero (.sl (.int .i64)))).length:Int)>400) then
 some (.inr (.inl ()))
 else
 (JF d a 0).bind (Sum.elim (fun e =>
 some (.inr (.inl ()))) (fun g =>
 some (.inl (wI (d+1)))))
 else none
 else
 some (.inr (.inr ()))
def HP(a:Ag.V)(z_:Int):=JV a z_
def La(a:Ag.V)(d:Int):=fix (HP a) d
theorem Akt(a:Ag.V):LpOk E44 0 4 (code Tryz.f126) [1,1,0,1,0] (AiH a) (HP a) (Afs a):=by
 intro _
 simp only[HP,JV,mC,mI,mN,mB,mE,mM]
 simp(disch:=refine sI ?_<;>(repeat' refine sA ?_ ?_)<;>intro _<;>kernel_rfl) only[JF,Au (Ahp _ _) (K:=stepK 0 (E44.hd 4) (E44.ot 4))]
 kernel_rfl
def Abf(a:Ag.V):St:=sT 79 [(1,.ptr 0 0 [] 0)] [.box (dD Ag a)]
def AaE(a:Ag.V)(m0:Bool):Ex×St:=(.normal,sT 79 [(1,.ptr 0 0 [] 0),(15,dB m0)] [.box (dD Ag a)])
theorem AfA(a:Ag.V):jnS E44 0 2 (code Tryz.f126) [1,0,0] (Abf a)=some (AaE a ((!(Ay a.1 0 400))||(decide ((a.2.1.length:Int)>4000)))):=by
 have h0:jnS E44 0 2 (code Tryz.f126) [1,0,0] (Abf a) =
 bif !(Ay a.1 0 400) then
 some (AaE a true)
 else
 some (AaE a (decide ((a.2.1.length:Int)>4000))):=by kernel_rfl
 rw[h0]
 cases h1:(!(Ay a.1 0 400))
 ·first | rfl | kernel_rfl
 ·first | rfl | kernel_rfl
def IH(a:Ag.V):Option Bool :=
 mkr (Abf a) (
 bif (!(Ay a.1 0 400))||(decide ((a.2.1.length:Int)>4000)) then
 some false
 else
 (La a 0).bind (Sum.elim (fun b =>
 some false) (fun c =>
 some true)))
theorem U44(R:Type)(a:Ag.V)(K:AV→List Blk→Option R):runF E44 Tryz.f126 R [dD Ag a] [] K=(IH a).bind fun r=>K (dB r) []:=by
 simp only[IH,bC,bI,bN,bE,bA,bS,bO,bM]
 simp(disch:=refine sI ?_<;>(repeat' refine sA ?_ ?_)<;>intro _<;>kernel_rfl) only[Hs (AfA _) (K:=finK E44 Tryz.f126 0 R K),La,Au (Akt _) (K:=finK E44 Tryz.f126 0 R K)]
 kernel_rfl
def c126:Va.Callee:=brC [.d Ag] [⟨[.dat [] Ag],[],Bool,fun p=>IH p.1.1,fun r=>(dB r,[])⟩]
theorem Sp:SoundC Tryz.prog 126 c126:=Ap (fn:=Tryz.f126) (by kernel_rfl) (by kernel_rfl) (by kernel_rfl) ⟨⟨E44,⟨⟨tabok,An ⟨KI,Pe,trivial⟩⟩,mixed⟩,fun p R K=>U44 R p.1.1 K⟩,trivial⟩
abbrev E45:Env:=⟨tab,lookH [(51,c51),(53,c53),(121,c121),(122,c122),(123,c123),(124,c124),(125,c125),(126,c126)],{deep:=true,heads:=[(9,{live:=[1,4,6,8,10,11],frz:=[(6,false,(.sl (.sl Ad))),(8,false,(.sl (.int .i64)))],pre:=[(10,true,.row [1] 72 (.sl (.int .i64)) true)]}),(16,{live:=[1,4,6,8,10,11,12,13,14,15,16],frz:=[(14,false,(.sl Af)),(15,false,(.sl Af))],pre:=[(12,false,.row [] 2 (.int .i64) true),(13,false,.row [] 2 (.int .i64) true)]}),(23,{live:=[1,4,6,8,10,11,12,13,17],pre:=[(10,true,.row [1] 72 (.sl (.int .i64)) true)]})],outs:=[(9,{live:=[4,10]}),(16,{live:=[1,4,6,8,10,11,12,13],frz:=[(12,false,(.sl (.int .i64))),(13,false,(.sl (.int .i64)))]}),(23,{live:=[1,4,6,8,10,11]})],joins:=[(10,{live:=[1,4,6,8,10,11]})],ents:=[(10,[1,4,6,8,10,11])],res:=[(0,.row [1] 72 (.sl (.int .i64)) true)]}⟩
def AgF(a:List Ae.V)(b:List (List Ad.V))(c:List Int)(z_:Int×Int×(List (List Int))):St:=sT 115 [(1,dD (.sl Ae) a),(4,.ptr 0 0 [] 0),(6,dD (.sl (.sl Ad)) b),(8,dD (.sl (.int .i64)) c),(10,.ptr 1 0 [] 0),(11,dI z_.1)] [.box (.pr (dI 0) (.pr .zs .u)),.box (.pr (dI z_.2.1) (.pr (.ref 2) .u)),.row 72 .deep (.sl (.int .i64)) z_.2.2]
def Aki(a:List Ae.V)(b:List (List Ad.V))(c:List Int):(Int×(List (List Int)))→Ex×St:=fun d=>((.exit 0),sT 115 [(4,.ptr 0 0 [] 0),(10,.ptr 1 0 [] 0)] [.box (.pr (dI 0) (.pr .zs .u)),.box (.pr (dI d.1) (.pr (.ref 2) .u)),.row 72 .deep (.sl (.int .i64)) d.2])
def AjG(a:List Ae.V)(b:List (List Ad.V))(c:List Int)(e g:Int)(i:List (List Int)):St:=sT 115 [(1,dD (.sl Ae) a),(4,.ptr 0 0 [] 0),(6,dD (.sl (.sl Ad)) b),(8,dD (.sl (.int .i64)) c),(10,.ptr 1 0 [] 0),(11,dI e)] [.box (.pr (dI 0) (.pr .zs .u)),.box (.pr (dI g) (.pr (.ref 2) .u)),.row 72 .deep (.sl (.int .i64)) i]
def Ag3(a:List Ae.V)(b:List (List Ad.V))(c:List Int)(e g:Int)(i:List (List Int)):(Int×(List (List Int)))→Ex×St:=fun j=>(.normal,sT 115 [(1,dD (.sl Ae) a),(4,.ptr 0 0 [] 0),(6,dD (.sl (.sl Ad)) b),(8,dD (.sl (.int .i64)) c),(10,.ptr 1 0 [] 0),(11,dI e)] [.box (.pr (dI 0) (.pr .zs .u)),.box (.pr (dI j.1) (.pr (.ref 2) .u)),.row 72 .deep (.sl (.int .i64)) j.2])
def Aia(a:List Ae.V)(b:List (List Ad.V))(c:List Int)(e:Int)(k l:List Int)(z_:Int×Int×(List (List Int))):St:=sT 115 [(1,dD (.sl Ae) a),(4,.ptr 0 0 [] 0),(6,dD (.sl (.sl Ad)) b),(8,dD (.sl (.int .i64)) c),(10,.ptr 1 0 [] 0),(11,dI e),(12,dD (.sl (.int .i64)) k),(13,dD (.sl (.int .i64)) l),(17,dI z_.1)] [.box (.pr (dI 0) (.pr .zs .u)),.box (.pr (dI z_.2.1) (.pr (.ref 2) .u)),.row 72 .deep (.sl (.int .i64)) z_.2.2]
def AjS(a:List Ae.V)(b:List (List Ad.V))(c:List Int)(e:Int)(k l:List Int):(Int×(List (List Int)))→Ex×St:=fun n=>((.exit 4),sT 115 [(1,dD (.sl Ae) a),(4,.ptr 0 0 [] 0),(6,dD (.sl (.sl Ad)) b),(8,dD (.sl (.int .i64)) c),(10,.ptr 1 0 [] 0),(11,dI e)] [.box (.pr (dI 0) (.pr .zs .u)),.box (.pr (dI n.1) (.pr (.ref 2) .u)),.row 72 .deep (.sl (.int .i64)) n.2])
def H8(a:List Ae.V)(b:List (List Ad.V))(c:List Int)(e:Int)(k l:List Int)(o q:Int)(s:List (List Int)):Option ((Int×Int×(List (List Int)))⊕(Int×(List (List Int)))) :=
 bif decide (o<(k.length:Int)) then
 if(0:Int)≤o∧o<(k.length:Int) then
 if(0:Int)≤o∧o<(l.length:Int) then
 (Gt q (k.getD o.toNat (Ty.zero (.int .i64))) (l.getD o.toNat (Ty.zero (.int .i64))) s).bind fun t =>
 some (.inl ((wI (o+1)),t.1,t.2))
 else none
 else none
 else
 some (.inr (q,s))
def Ei(a:List Ae.V)(b:List (List Ad.V))(c:List Int)(e:Int)(k l:List Int)(z_:Int×Int×(List (List Int))):=H8 a b c e k l z_.1 z_.2.1 z_.2.2
def Iu(a:List Ae.V)(b:List (List Ad.V))(c:List Int)(e:Int)(k l:List Int)(o q:Int)(s:List (List Int)):=fix (Ei a b c e k l) (o,q,s)
theorem Ain(a:List Ae.V)(b:List (List Ad.V))(c:List Int)(e:Int)(k l:List Int):LpOk E45 0 23 (sub (sub (code Tryz.f54) [1,1,1,1,1,1,0,1,0,0]) [1,0]) [0,1,1,1,1,1,1,1,0] (Aia a b c e k l) (Ei a b c e k l) (AjS a b c e k l):=by
 intro _
 simp only[Ei,H8,mC,mI,mN,mB,mE,mM]
 kernel_rfl
def Af0(a:List Ae.V)(b:List (List Ad.V))(c:List Int)(e:Int)(u v:List Af.V)(g:Int)(i:List (List Int))(z_:Int×(List Int)×(List Int)):St:=sT 115 [(1,dD (.sl Ae) a),(4,.ptr 0 0 [] 0),(6,dD (.sl (.sl Ad)) b),(8,dD (.sl (.int .i64)) c),(10,.ptr 1 0 [] 0),(11,dI e),(12,.ref 2),(13,.ref 3),(14,dD (.sl Af) u),(15,dD (.sl Af) v),(16,dI z_.1)] [.box (.pr (dI 0) (.pr .zs .u)),.box (.pr (dI g) (.pr (.ref 4) .u)),.row 2 .deep (.int .i64) z_.2.1,.row 2 .deep (.int .i64) z_.2.2,.row 72 .deep (.sl (.int .i64)) i]
def Ahe(a:List Ae.V)(b:List (List Ad.V))(c:List Int)(e:Int)(u v:List Af.V)(g:Int)(i:List (List Int)):((List Int)×(List Int))→Ex×St:=fun w=>((.exit 2),sT 115 [(1,dD (.sl Ae) a),(4,.ptr 0 0 [] 0),(6,dD (.sl (.sl Ad)) b),(8,dD (.sl (.int .i64)) c),(10,.ptr 1 0 [] 0),(11,dI e),(12,dD (.sl (.int .i64)) w.1),(13,dD (.sl (.int .i64)) w.2)] [.box (.pr (dI 0) (.pr .zs .u)),.box (.pr (dI g) (.pr (.ref 2) .u)),.row 72 .deep (.sl (.int .i64)) i])
def HS(a:List Ae.V)(b:List (List Ad.V))(c:List Int)(e:Int)(u v:List Af.V)(g:Int)(i:List (List Int))(x:Int)(y a1:List Int):Option ((Int×(List Int)×(List Int))⊕((List Int)×(List Int))) :=
 bif decide (x<(u.length:Int)) then
 if(0:Int)≤x∧x<(u.length:Int) then
 (DB c (u.getD x.toNat (Ty.zero Af))).bind fun b1 =>
 if(y.length+([b1]:List Int).length)*8≤140737488355328 then
 if(0:Int)≤x∧x<(v.length:Int) then
 (DB c (v.getD x.toNat (Ty.zero Af))).bind fun c1 =>
 if(a1.length+([c1]:List Int).length)*8≤140737488355328 then
 some (.inl ((wI (x+1)),(y++([b1]:List Int)),(a1++([c1]:List Int))))
 else none
 else none
 else none
 else none
 else
 some (.inr (y,a1))
def El(a:List Ae.V)(b:List (List Ad.V))(c:List Int)(e:Int)(u v:List Af.V)(g:Int)(i:List (List Int))(z_:Int×(List Int)×(List Int)):=HS a b c e u v g i z_.1 z_.2.1 z_.2.2
def JL(a:List Ae.V)(b:List (List Ad.V))(c:List Int)(e:Int)(u v:List Af.V)(g:Int)(i:List (List Int))(x:Int)(y a1:List Int):=fix (El a b c e u v g i) (x,y,a1)
theorem AkI(a:List Ae.V)(b:List (List Ad.V))(c:List Int)(e:Int)(u v:List Af.V)(g:Int)(i:List (List Int)):LpOk E45 0 16 (sub (sub (code Tryz.f54) [1,1,1,1,1,1,0,1,0,0]) [1,0]) [0,1,1,1,1,0,1,0] (Af0 a b c e u v g i) (El a b c e u v g i) (Ahe a b c e u v g i):=by
 intro _
 simp only[El,HS,mC,mI,mN,mB,mE,mM]
 kernel_rfl
def JH(a:List Ae.V)(b:List (List Ad.V))(c:List Int)(e g:Int)(i:List (List Int)):Option (Int×(List (List Int))) :=
 if(0:Int)≤(wI (2*e))∧(wI (2*e))<(b.length:Int) then
 (FG (b.getD (wI (2*e)).toNat (Ty.zero (.sl Ad)))).bind fun u =>
 if(0:Int)≤(wI ((wI (2*e))+1))∧(wI ((wI (2*e))+1))<(b.length:Int) then
 (FG (b.getD (wI ((wI (2*e))+1)).toNat (Ty.zero (.sl Ad)))).bind fun v =>
 (JL a b c e u v g i 0 ([]:List Int) ([]:List Int)).bind fun w =>
 if(0:Int)≤e∧e<(a.length:Int) then
 bif !(a.getD e.toNat (Ty.zero Ae)).2.1 then
 (DE g w.1 w.2 i).bind fun d1 =>
 some (d1.1,d1.2)
 else
 (Iu a b c e w.1 w.2 0 g i).bind fun n =>
 some (n.1,n.2)
 else none
 else none
 else none
theorem Agw(a:List Ae.V)(b:List (List Ad.V))(c:List Int)(e g:Int)(i:List (List Int)):JnOk E45 0 10 (sub (code Tryz.f54) [1,1,1,1,1,1,0,1,0,0]) [1,0] (AjG a b c e g i) (JH a b c e g i) (Ag3 a b c e g i):=by
 unfold JnOk
 simp only[JH,mC,mI,mN,mB,mE,mM]
 simp(disch:=refine sI ?_<;>(repeat' refine sA ?_ ?_)<;>intro _<;>kernel_rfl) only[JL,Au (AkI _ _ _ _ _ _ _ _) (K:=joinK 0 (E45.jn 10)),Iu,Au (Ain _ _ _ _ _ _) (K:=joinK 0 (E45.jn 10))]
 kernel_rfl
def Iy(a:List Ae.V)(b:List (List Ad.V))(c:List Int)(e g:Int)(i:List (List Int)):Option ((Int×Int×(List (List Int)))⊕(Int×(List (List Int)))) :=
 bif decide (e<(a.length:Int)) then
 (JH a b c e g i).bind fun j =>
 some (.inl ((wI (e+1)),j.1,j.2))
 else
 some (.inr (g,i))
def Ej(a:List Ae.V)(b:List (List Ad.V))(c:List Int)(z_:Int×Int×(List (List Int))):=Iy a b c z_.1 z_.2.1 z_.2.2
def JK(a:List Ae.V)(b:List (List Ad.V))(c:List Int)(e g:Int)(i:List (List Int)):=fix (Ej a b c) (e,g,i)
theorem Ait(a:List Ae.V)(b:List (List Ad.V))(c:List Int):LpOk E45 0 9 (code Tryz.f54) [1,1,1,1,1,1,0,1,0] (AgF a b c) (Ej a b c) (Aki a b c):=by
 intro _
 simp only[Ej,Iy,mC,mI,mN,mB,mE,mM]
 simp(disch:=refine sI ?_<;>(repeat' refine sA ?_ ?_)<;>intro _<;>kernel_rfl) only[Bn (Agw _ _ _ _ _ _) (K:=stepK 0 (E45.hd 9) (E45.ot 9))]
 kernel_rfl
def JO(e1:List Aa.V)(a:List Ae.V):Option (Int×Bool×(List (List Int))) :=
 (CT e1 a).bind fun g1 =>
 bif !g1 then
 some (0,false,([]:List (List Int)))
 else
 (FT e1 a).bind fun i1 =>
 bif !i1.1 then
 some (0,false,([]:List (List Int)))
 else
 (CQ e1).bind fun j1 =>
 (JK a i1.2 j1.2 0 j1.1 ([]:List (List Int))).bind fun d =>
 (IH (d.1,d.2,())).bind fun k1 =>
 bif !k1 then
 some (0,false,([]:List (List Int)))
 else
 some (d.1,true,d.2)
theorem U45(R:Type)(e1:List Aa.V)(a:List Ae.V)(K:AV→List Blk→Option R):runF E45 Tryz.f54 R [dD (.sl Aa) e1,dD (.sl Ae) a] [] K=(JO e1 a).bind fun r=>K (.cons (.pr (dI r.1) (.pr (.ref 0) .u)) (.cons (dB r.2.1) .nil)) [.row 72 .deep (.sl (.int .i64)) r.2.2]:=by
 simp only[JO,bC,bI,bN,bE,bA,bS,bO,bM]
 simp(disch:=refine sI ?_<;>(repeat' refine sA ?_ ?_)<;>intro _<;>kernel_rfl) only[JK,Au (Ait _ _ _) (K:=finK E45 Tryz.f54 0 R K)]
 kernel_rfl
def c54:Va.Callee:=brC [.d (.sl Aa),.d (.sl Ae)] [⟨[.dat [] (.sl Aa),.dat [] (.sl Ae)],[],(Int×Bool×(List (List Int))),fun p=>JO p.1.1 p.1.2.1,fun r=>(.cons (.pr (dI r.1) (.pr (.ref 0) .u)) (.cons (dB r.2.1) .nil),[.row 72 .deep (.sl (.int .i64)) r.2.2])⟩]
theorem Zn:SoundC Tryz.prog 54 c54:=Ap (fn:=Tryz.f54) (by kernel_rfl) (by kernel_rfl) (by kernel_rfl) ⟨⟨E45,⟨⟨tabok,An ⟨T4,Vz,SC,Yj,Ys,WT,Yw,Sp,trivial⟩⟩,mixed⟩,fun p R K=>U45 R p.1.1 p.1.2.1 K⟩,trivial⟩
abbrev E46:Env:=⟨tab,lookH [(189,c189)],{deep:=true,heads:=[(4,{live:=[0,1,6,7,8]})],outs:=[(4,{live:=[4,5,6,7]})],joins:=[(5,{live:=[0,1,4,5,6,7,8]})],ents:=[(5,[0,1,6,7,8])]}⟩
def Ajl(a b:List Int)(z_:Int×Int×Int):St:=sT 39 [(0,dD (.sl (.int .i64)) a),(1,dD (.sl (.int .i64)) b),(6,dI z_.1),(7,dI z_.2.1),(8,dI z_.2.2)] []
def Aj5(a b:List Int):((Int×Int)⊕(Int×Int))→Ex×St:=Sum.elim (fun c=>(.ret,sT 39 [(4,dI 0),(5,dI 0),(6,dI c.1),(7,dI c.2)] [])) (fun d=>((.exit 0),sT 39 [(6,dI d.1),(7,dI d.2)] []))
def AeR(a b:List Int)(e g i:Int):St:=sT 39 [(0,dD (.sl (.int .i64)) a),(1,dD (.sl (.int .i64)) b),(6,dI e),(7,dI g),(8,dI i)] []
def AfO(a b:List Int)(e g i:Int):(Unit⊕(Int×Int))→Ex×St:=Sum.elim (fun j=>(.ret,sT 39 [(0,dD (.sl (.int .i64)) a),(1,dD (.sl (.int .i64)) b),(4,dI 0),(5,dI 0),(6,dI e),(7,dI g),(8,dI i)] [])) (fun k=>(.normal,sT 39 [(0,dD (.sl (.int .i64)) a),(1,dD (.sl (.int .i64)) b),(6,dI k.1),(7,dI k.2),(8,dI i)] []))
def GY(a b:List Int)(e g i:Int):Option (Unit⊕(Int×Int)) :=
 if(0:Int)≤i∧i<(a.length:Int) then
 if(0:Int)≤(AN (a.getD i.toNat (Ty.zero (.int .i64))))∧(AN (a.getD i.toNat (Ty.zero (.int .i64))))<(b.length:Int) then
 bif (b.getD (AN (a.getD i.toNat (Ty.zero (.int .i64)))).toNat (Ty.zero (.int .i64)))==(a.getD i.toNat (Ty.zero (.int .i64))) then
 some (.inl ())
 else
 bif (b.getD (AN (a.getD i.toNat (Ty.zero (.int .i64)))).toNat (Ty.zero (.int .i64)))==0 then
 some (.inr ((a.getD i.toNat (Ty.zero (.int .i64))),(wI (g+1))))
 else
 some (.inr (e,g))
 else none
 else none
theorem AiC(a b:List Int)(e g i:Int):JnOk E46 0 5 (sub (code Tryz.f225) [1,1,1,0,1,0,0]) [1,0] (AeR a b e g i) (GY a b e g i) (AfO a b e g i):=by
 unfold JnOk
 simp only[GY,mC,mI,mN,mB,mE,mM]
 kernel_rfl
def H9(a b:List Int)(e g i:Int):Option ((Int×Int×Int)⊕((Int×Int)⊕(Int×Int))) :=
 bif decide (i<(a.length:Int)) then
 (GY a b e g i).bind (Sum.elim (fun j =>
 some (.inr (.inl (e,g)))) (fun k =>
 some (.inl (k.1,k.2,(wI (i+1))))))
 else
 some (.inr (.inr (e,g)))
def Fe(a b:List Int)(z_:Int×Int×Int):=H9 a b z_.1 z_.2.1 z_.2.2
def JA(a b:List Int)(e g i:Int):=fix (Fe a b) (e,g,i)
theorem Ai1(a b:List Int):LpOk E46 0 4 (code Tryz.f225) [1,1,1,0,1,0] (Ajl a b) (Fe a b) (Aj5 a b):=by
 intro _
 simp only[Fe,H9,mC,mI,mN,mB,mE,mM]
 simp(disch:=refine sI ?_<;>(repeat' refine sA ?_ ?_)<;>intro _<;>kernel_rfl) only[Bn (AiC _ _ _ _ _) (K:=stepK 0 (E46.hd 4) (E46.ot 4))]
 kernel_rfl
def Cs(a b:List Int):Option (Int×Int) :=
 (JA a b 0 0 0).bind (Sum.elim (fun c =>
 some (0,0)) (fun d =>
 bif d.2==0 then
 some (2,0)
 else
 bif d.2==1 then
 some (1,d.1)
 else
 some (0,0)))
theorem U46(R:Type)(a b:List Int)(K:AV→List Blk→Option R):runF E46 Tryz.f225 R [dD (.sl (.int .i64)) a,dD (.sl (.int .i64)) b] [] K=(Cs a b).bind fun r=>K (.cons (dI r.1) (.cons (dI r.2) .nil)) []:=by
 simp only[Cs,bC,bI,bN,bE,bA,bS,bO,bM]
 simp(disch:=refine sI ?_<;>(repeat' refine sA ?_ ?_)<;>intro _<;>kernel_rfl) only[JA,Au (Ai1 _ _) (K:=finK E46 Tryz.f225 0 R K)]
 kernel_rfl
def c225:Va.Callee:=brC [.d (.sl (.int .i64)),.d (.sl (.int .i64))] [⟨[.dat [] (.sl (.int .i64)),.dat [] (.sl (.int .i64))],[],(Int×Int),fun p=>Cs p.1.1 p.1.2.1,fun r=>(.cons (dI r.1) (.cons (dI r.2) .nil),[])⟩]
theorem Wv:SoundC Tryz.prog 225 c225:=Ap (fn:=Tryz.f225) (by kernel_rfl) (by kernel_rfl) (by kernel_rfl) ⟨⟨E46,⟨⟨tabok,An ⟨Pe,trivial⟩⟩,mixed⟩,fun p R K=>U46 R p.1.1 p.1.2.1 K⟩,trivial⟩
abbrev E47:Env:=⟨tab,lookH [(189,c189),(225,c225)],{deep:=true,heads:=[(4,{live:=[1,2,6,7,8]}),(8,{live:=[2,6,7,9]})],outs:=[(4,{live:=[2,6,7]}),(8,{live:=[4,5,7]})]}⟩
def Aiz(a:Ag.V)(z_:Int×(List Int)×(List Int)):St:=sT 68 [(2,.ptr 0 0 [] 0),(6,.ref 1),(7,.ref 2),(9,dI z_.1)] [.box (dD Ag a),.row 2 .deep (.int .i64) z_.2.1,.row 2 .deep (.int .i64) z_.2.2]
def AeG(a:Ag.V):((List Int)⊕(List Int))→Ex×St:=Sum.elim (fun b=>(.ret,sT 68 [(4,.ref 0),(5,dB false),(7,.ref 0)] [.row 2 .deep (.int .i64) b])) (fun c=>((.exit 2),sT 68 [(7,.ref 0)] [.row 2 .deep (.int .i64) c]))
def CB(a:Ag.V)(d:Int)(e g:List Int):Option ((Int×(List Int)×(List Int))⊕((List Int)⊕(List Int))) :=
 bif decide (d<(a.2.1.length:Int)) then
 if(0:Int)≤d∧d<(a.2.1.length:Int) then
 (Cs (a.2.1.getD d.toNat (Ty.zero (.sl (.int .i64)))) e).bind fun i =>
 bif i.1==2 then
 some (.inr (.inl g))
 else
 bif i.1==1 then
 if(0:Int)≤(AN i.2)∧(AN i.2)<(e.length:Int) then
 if(g.length+([i.2]:List Int).length)*8≤140737488355328 then
 some (.inl (0,(e.set (AN i.2).toNat i.2),(g++([i.2]:List Int))))
 else none
 else none
 else
 some (.inl ((wI (d+1)),e,g))
 else none
 else
 some (.inr (.inr g))
def AL(a:Ag.V)(z_:Int×(List Int)×(List Int)):=CB a z_.1 z_.2.1 z_.2.2
def J6(a:Ag.V)(d:Int)(e g:List Int):=fix (AL a) (d,e,g)
theorem Air(a:Ag.V):LpOk E47 0 8 (code Tryz.f190) [1,1,1,1,1,0,0] (Aiz a) (AL a) (AeG a):=by
 intro _
 simp only[AL,CB,mC,mI,mN,mB,mE,mM]
 kernel_rfl
def AjF(j:List Int)(a:Ag.V)(z_:Int×(List Int)):St:=sT 68 [(1,dD (.sl (.int .i64)) j),(2,.ptr 0 0 [] 0),(6,.ref 1),(7,.ref 2),(8,dI z_.1)] [.box (dD Ag a),.row 2 .deep (.int .i64) z_.2,.row 2 .deep (.int .i64) j]
def Ahg(j:List Int)(a:Ag.V):(List Int)→Ex×St:=fun k=>((.exit 0),sT 68 [(2,.ptr 0 0 [] 0),(6,.ref 1),(7,.ref 2)] [.box (dD Ag a),.row 2 .deep (.int .i64) k,.row 2 .deep (.int .i64) j])
def FZ(j:List Int)(a:Ag.V)(l:Int)(n:List Int):Option ((Int×(List Int))⊕(List Int)) :=
 bif decide (l<(j.length:Int)) then
 if(0:Int)≤l∧l<(j.length:Int) then
 if(0:Int)≤l∧l<(j.length:Int) then
 if(0:Int)≤(AN (j.getD l.toNat (Ty.zero (.int .i64))))∧(AN (j.getD l.toNat (Ty.zero (.int .i64))))<(n.length:Int) then
 some (.inl ((wI (l+1)),(n.set (AN (j.getD l.toNat (Ty.zero (.int .i64)))).toNat (j.getD l.toNat (Ty.zero (.int .i64))))))
 else none
 else none
 else none
 else
 some (.inr n)
def CA(j:List Int)(a:Ag.V)(z_:Int×(List Int)):=FZ j a z_.1 z_.2
def IA(j:List Int)(a:Ag.V)(l:Int)(n:List Int):=fix (CA j a) (l,n)
theorem AiU(j:List Int)(a:Ag.V):LpOk E47 0 4 (code Tryz.f190) [1,1,1,0,1,0] (AjF j a) (CA j a) (Ahg j a):=by
 intro _
 simp only[CA,FZ,mC,mI,mN,mB,mE,mM]
 kernel_rfl
def HE(a:Ag.V)(j:List Int):Option (Bool×(List Int)) :=
 if Ty.row (.int .i64)=true∧(0:Int)≤(wI (a.1+1))∧(wI (a.1+1))≤(wI (a.1+1))∧((8:Nat):Int)*(wI (a.1+1))≤(281474976710656:Int)∧(wI (a.1+1))≤(9223372036854775807:Int) then
 if j.length*8≤140737488355328 then
 (IA j a 0 (List.replicate (wI (a.1+1)).toNat 0)).bind fun k =>
 (J6 a 0 k j).bind (Sum.elim (fun b =>
 some (false,b)) (fun c =>
 some (true,c)))
 else none
 else none
theorem U47(R:Type)(a:Ag.V)(j:List Int)(K:AV→List Blk→Option R):runF E47 Tryz.f190 R [dD Ag a,dD (.sl (.int .i64)) j] [] K=(HE a j).bind fun r=>K (.cons (.ref 0) (.cons (dB r.1) .nil)) [.row 2 .deep (.int .i64) r.2]:=by
 simp only[HE,bC,bI,bN,bE,bA,bS,bO,bM]
 simp(disch:=refine sI ?_<;>(repeat' refine sA ?_ ?_)<;>intro _<;>kernel_rfl) only[IA,Au (AiU _ _) (K:=finK E47 Tryz.f190 0 R K),J6,Au (Air _) (K:=finK E47 Tryz.f190 0 R K)]
 kernel_rfl
def c190:Va.Callee:=brC [.d Ag,.d (.sl (.int .i64))] [⟨[.dat [] Ag,.dat [] (.sl (.int .i64))],[],(Bool×(List Int)),fun p=>HE p.1.1 p.1.2.1,fun r=>(.cons (.ref 0) (.cons (dB r.1) .nil),[.row 2 .deep (.int .i64) r.2])⟩]
theorem WD:SoundC Tryz.prog 190 c190:=Ap (fn:=Tryz.f190) (by kernel_rfl) (by kernel_rfl) (by kernel_rfl) ⟨⟨E47,⟨⟨tabok,An ⟨Pe,Wv,trivial⟩⟩,mixed⟩,fun p R K=>U47 R p.1.1 p.1.2.1 K⟩,trivial⟩
end
end Go.Proofs.X
