import Derived.KernelRfl
import Derived.Test.YtlohhmmaibiimaaGreatK12
set_option linter.unusedVariables false
set_option linter.unusedSimpArgs false
namespace Go.Proofs.X
open Go Go.Va
set_option maxRecDepth 100000
noncomputable section
abbrev E128:Env:=⟨tab,lookH [],{deep:=true,heads:=[(2,{live:=[0,1,5]})],outs:=[(2,{live:=[1]})]}⟩
def Ab2(z_:Int×Int×(List Int)):St:=sT 19 [(0,.ref 0),(1,dI z_.1),(5,dI z_.2.1)] [.row 0 .deep (.int .i64) z_.2.2]
def Ac9:(Int×(List Int))→Ex×St:=fun a=>((.exit 0),sT 19 [(1,dI a.1)] [.row 0 .deep (.int .i64) a.2])
def DH(b c:Int)(d:List Int):Option ((Int×Int×(List Int))⊕(Int×(List Int))) :=
 bif decide (c<(d.length:Int)) then
 if(0:Int)≤c∧c<(d.length:Int) then
 some (.inl ((wI (b+1)),(wI (c+1)),(d.set c.toNat b)))
 else none
 else
 some (.inr (b,d))
def Bo(z_:Int×Int×(List Int)):=DH z_.1 z_.2.1 z_.2.2
def Io(b c:Int)(d:List Int):=fix (Bo) (b,c,d)
theorem Ack:LpOk E128 1 2 (code Tryz.f105) [1,0,1,0] (Ab2) (Bo) (Ac9):=by
 intro _
 simp only[Bo,DH,mC,mI,mN,mB,mE,mM]
 kernel_rfl
def Ed(e:Int)(g:List Int):Option (Int×(List Int)) :=
 (Io e 0 g).bind fun a =>
 some (a.1,a.2)
theorem U128(R:Type)(e:Int)(g:List Int)(K:AV→List Blk→Option R):runF E128 Tryz.f105 R [.ref 0,dI e] [.row 0 .deep (.int .i64) g] K=(Ed e g).bind fun r=>K (dI r.1) [.row 0 .deep (.int .i64) r.2]:=by
 simp only[Ed,bC,bI,bN,bE,bA,bS,bO,bM]
 simp(disch:=refine sI ?_<;>(repeat' refine sA ?_ ?_)<;>intro _<;>kernel_rfl) only[Io,Au (Ack) (K:=finK E128 Tryz.f105 1 R K)]
 kernel_rfl
def c105:Va.Callee:=brC [.raw,.d (.int .i64)] [⟨[.k (.ref 0),.dat [] (.int .i64)],[.row 0 .deep (.int .i64)],(Int×(List Int)),fun p=>Ed p.1.2.1 p.2.1,fun r=>(dI r.1,[.row 0 .deep (.int .i64) r.2])⟩]
theorem XN:SoundC Tryz.prog 105 c105:=Ap (fn:=Tryz.f105) (by kernel_rfl) (by kernel_rfl) (by kernel_rfl) ⟨⟨E128,⟨⟨tabok,An trivial⟩,mixed⟩,fun p R K=>U128 R p.1.2.1 p.2.1 K⟩,trivial⟩
abbrev E129:Env:=⟨tab,lookH [(90,c90),(105,c105)],{deep:=true,nest:=[(53,216),(60,2)],heads:=[(2,{live:=[0,1,5]})],outs:=[(2,{live:=[1]})],joins:=[(3,{live:=[0,1,5]}),(9,{live:=[0,1,5]}),(13,{live:=[0,1,5]})],ents:=[(3,[0,1,5]),(9,[0,1,5]),(13,[0,1,5])]}⟩
def Ac6(z_:Int×Int×(List Ab.V)):St:=sT 64 [(0,.ref 0),(1,dI z_.1),(5,dI z_.2.1)] [.row 0 .deep Ab z_.2.2]
def AcX:(Int×(List Ab.V))→Ex×St:=fun a=>((.exit 0),sT 64 [(1,dI a.1)] [.row 0 .deep Ab a.2])
def AbV(b c:Int)(d:List Ab.V):St:=sT 64 [(0,.ref 0),(1,dI b),(5,dI c)] [.row 0 .deep Ab d]
def Ad2(b c:Int)(d:List Ab.V):(Int×(List Ab.V))→Ex×St:=fun e=>(.normal,sT 64 [(0,.ref 0),(1,dI e.1),(5,dI c)] [.row 0 .deep Ab e.2])
def Acu(c g:Int)(i:List Ab.V):St:=sT 64 [(0,.ref 0),(1,dI g),(5,dI c)] [.row 0 .deep Ab i]
def AbF(c g:Int)(i:List Ab.V):(List Ab.V)→Ex×St:=fun j=>(.normal,sT 64 [(0,.ref 0),(1,dI g),(5,dI c)] [.row 0 .deep Ab j])
def Fy(c g:Int)(i:List Ab.V):Option (List Ab.V) :=
 if(0:Int)≤c∧c<(i.length:Int) then
 some (i.set c.toNat ((i.getD c.toNat (Ty.zero Ab)).1,(i.getD c.toNat (Ty.zero Ab)).2.1,(i.getD c.toNat (Ty.zero Ab)).2.2.1,(i.getD c.toNat (Ty.zero Ab)).2.2.2.1,(g,(i.getD c.toNat (Ty.zero Ab)).2.2.2.2.1.2),(i.getD c.toNat (Ty.zero Ab)).2.2.2.2.2))
 else none
theorem Acb(c g:Int)(i:List Ab.V):JnOk E129 1 13 (sub (sub (code Tryz.f66) [1,0,1,0,0]) [1,0]) [0,1,1,1,1,1,1,1,1,0] (Acu c g i) (Fy c g i) (AbF c g i):=by
 unfold JnOk
 simp only[Fy,mC,mI,mN,mB,mE,mM]
 kernel_rfl
def Ad9(c k:Int)(l:List Ab.V):St:=sT 64 [(0,.ref 0),(1,dI k),(5,dI c)] [.row 0 .deep Ab l]
def Adp(c k:Int)(l:List Ab.V):(List Ab.V)→Ex×St:=fun n=>(.normal,sT 64 [(0,.ref 0),(1,dI k),(5,dI c)] [.row 0 .deep Ab n])
def Fj(c k:Int)(l:List Ab.V):Option (List Ab.V) :=
 if(0:Int)≤c∧c<(l.length:Int) then
 some (l.set c.toNat ((l.getD c.toNat (Ty.zero Ab)).1,(l.getD c.toNat (Ty.zero Ab)).2.1,k,(l.getD c.toNat (Ty.zero Ab)).2.2.2))
 else none
theorem Acx(c k:Int)(l:List Ab.V):JnOk E129 1 9 (sub (sub (code Tryz.f66) [1,0,1,0,0]) [1,0]) [0,1,1,1,1,0] (Ad9 c k l) (Fj c k l) (Adp c k l):=by
 unfold JnOk
 simp only[Fj,mC,mI,mN,mB,mE,mM]
 kernel_rfl
def Fg(b c:Int)(d:List Ab.V):Option (Int×(List Ab.V)) :=
 if(0:Int)≤c∧c<(d.length:Int) then
 if(0:Int)≤c∧c<((d.set c.toNat (b,(d.getD c.toNat (Ty.zero Ab)).2)).length:Int) then
 (Fj c (wI ((wI (b+1))+1)) ((d.set c.toNat (b,(d.getD c.toNat (Ty.zero Ab)).2)).set c.toNat (((d.set c.toNat (b,(d.getD c.toNat (Ty.zero Ab)).2)).getD c.toNat (Ty.zero Ab)).1,(wI (b+1)),((d.set c.toNat (b,(d.getD c.toNat (Ty.zero Ab)).2)).getD c.toNat (Ty.zero Ab)).2.2))).bind fun n =>
 if(0:Int)≤c∧c<(n.length:Int) then
 (Fy c (wI ((wI ((wI ((wI (b+1))+1))+1))+1)) (n.set c.toNat ((n.getD c.toNat (Ty.zero Ab)).1,(n.getD c.toNat (Ty.zero Ab)).2.1,(n.getD c.toNat (Ty.zero Ab)).2.2.1,(wI ((wI ((wI (b+1))+1))+1)),(n.getD c.toNat (Ty.zero Ab)).2.2.2.2))).bind fun j =>
 if(0:Int)≤c∧c<(j.length:Int) then
 (B7 (wI ((wI ((wI ((wI ((wI (b+1))+1))+1))+1))+1)) (j.getD c.toNat (Ty.zero Ab)).2.2.2.2.1.2.1).bind fun o =>
 if(0:Int)≤c∧c<((j.set c.toNat ((j.getD c.toNat (Ty.zero Ab)).1,(j.getD c.toNat (Ty.zero Ab)).2.1,(j.getD c.toNat (Ty.zero Ab)).2.2.1,(j.getD c.toNat (Ty.zero Ab)).2.2.2.1,((j.getD c.toNat (Ty.zero Ab)).2.2.2.2.1.1,o.2,(j.getD c.toNat (Ty.zero Ab)).2.2.2.2.1.2.2),(j.getD c.toNat (Ty.zero Ab)).2.2.2.2.2)).length:Int) then
 (Ed o.1 ((j.set c.toNat ((j.getD c.toNat (Ty.zero Ab)).1,(j.getD c.toNat (Ty.zero Ab)).2.1,(j.getD c.toNat (Ty.zero Ab)).2.2.1,(j.getD c.toNat (Ty.zero Ab)).2.2.2.1,((j.getD c.toNat (Ty.zero Ab)).2.2.2.2.1.1,o.2,(j.getD c.toNat (Ty.zero Ab)).2.2.2.2.1.2.2),(j.getD c.toNat (Ty.zero Ab)).2.2.2.2.2)).getD c.toNat (Ty.zero Ab)).2.2.2.2.2.1).bind fun q =>
 some (q.1,((j.set c.toNat ((j.getD c.toNat (Ty.zero Ab)).1,(j.getD c.toNat (Ty.zero Ab)).2.1,(j.getD c.toNat (Ty.zero Ab)).2.2.1,(j.getD c.toNat (Ty.zero Ab)).2.2.2.1,((j.getD c.toNat (Ty.zero Ab)).2.2.2.2.1.1,o.2,(j.getD c.toNat (Ty.zero Ab)).2.2.2.2.1.2.2),(j.getD c.toNat (Ty.zero Ab)).2.2.2.2.2)).set c.toNat (((j.set c.toNat ((j.getD c.toNat (Ty.zero Ab)).1,(j.getD c.toNat (Ty.zero Ab)).2.1,(j.getD c.toNat (Ty.zero Ab)).2.2.1,(j.getD c.toNat (Ty.zero Ab)).2.2.2.1,((j.getD c.toNat (Ty.zero Ab)).2.2.2.2.1.1,o.2,(j.getD c.toNat (Ty.zero Ab)).2.2.2.2.1.2.2),(j.getD c.toNat (Ty.zero Ab)).2.2.2.2.2)).getD c.toNat (Ty.zero Ab)).1,((j.set c.toNat ((j.getD c.toNat (Ty.zero Ab)).1,(j.getD c.toNat (Ty.zero Ab)).2.1,(j.getD c.toNat (Ty.zero Ab)).2.2.1,(j.getD c.toNat (Ty.zero Ab)).2.2.2.1,((j.getD c.toNat (Ty.zero Ab)).2.2.2.2.1.1,o.2,(j.getD c.toNat (Ty.zero Ab)).2.2.2.2.1.2.2),(j.getD c.toNat (Ty.zero Ab)).2.2.2.2.2)).getD c.toNat (Ty.zero Ab)).2.1,((j.set c.toNat ((j.getD c.toNat (Ty.zero Ab)).1,(j.getD c.toNat (Ty.zero Ab)).2.1,(j.getD c.toNat (Ty.zero Ab)).2.2.1,(j.getD c.toNat (Ty.zero Ab)).2.2.2.1,((j.getD c.toNat (Ty.zero Ab)).2.2.2.2.1.1,o.2,(j.getD c.toNat (Ty.zero Ab)).2.2.2.2.1.2.2),(j.getD c.toNat (Ty.zero Ab)).2.2.2.2.2)).getD c.toNat (Ty.zero Ab)).2.2.1,((j.set c.toNat ((j.getD c.toNat (Ty.zero Ab)).1,(j.getD c.toNat (Ty.zero Ab)).2.1,(j.getD c.toNat (Ty.zero Ab)).2.2.1,(j.getD c.toNat (Ty.zero Ab)).2.2.2.1,((j.getD c.toNat (Ty.zero Ab)).2.2.2.2.1.1,o.2,(j.getD c.toNat (Ty.zero Ab)).2.2.2.2.1.2.2),(j.getD c.toNat (Ty.zero Ab)).2.2.2.2.2)).getD c.toNat (Ty.zero Ab)).2.2.2.1,((j.set c.toNat ((j.getD c.toNat (Ty.zero Ab)).1,(j.getD c.toNat (Ty.zero Ab)).2.1,(j.getD c.toNat (Ty.zero Ab)).2.2.1,(j.getD c.toNat (Ty.zero Ab)).2.2.2.1,((j.getD c.toNat (Ty.zero Ab)).2.2.2.2.1.1,o.2,(j.getD c.toNat (Ty.zero Ab)).2.2.2.2.1.2.2),(j.getD c.toNat (Ty.zero Ab)).2.2.2.2.2)).getD c.toNat (Ty.zero Ab)).2.2.2.2.1,q.2,((j.set c.toNat ((j.getD c.toNat (Ty.zero Ab)).1,(j.getD c.toNat (Ty.zero Ab)).2.1,(j.getD c.toNat (Ty.zero Ab)).2.2.1,(j.getD c.toNat (Ty.zero Ab)).2.2.2.1,((j.getD c.toNat (Ty.zero Ab)).2.2.2.2.1.1,o.2,(j.getD c.toNat (Ty.zero Ab)).2.2.2.2.1.2.2),(j.getD c.toNat (Ty.zero Ab)).2.2.2.2.2)).getD c.toNat (Ty.zero Ab)).2.2.2.2.2.2)))
 else none
 else none
 else none
 else none
 else none
theorem Aeg(b c:Int)(d:List Ab.V):JnOk E129 1 3 (sub (code Tryz.f66) [1,0,1,0,0]) [1,0] (AbV b c d) (Fg b c d) (Ad2 b c d):=by
 unfold JnOk
 simp only[Fg,mC,mI,mN,mB,mE,mM]
 simp(disch:=refine sI ?_<;>(repeat' refine sA ?_ ?_)<;>intro _<;>kernel_rfl) only[Bn (Acx _ _ _) (K:=joinK 1 (E129.jn 3)),Bn (Acb _ _ _) (K:=joinK 1 (E129.jn 3))]
 kernel_rfl
def DM(b c:Int)(d:List Ab.V):Option ((Int×Int×(List Ab.V))⊕(Int×(List Ab.V))) :=
 bif decide (c<(d.length:Int)) then
 (Fg b c d).bind fun e =>
 some (.inl (e.1,(wI (c+1)),e.2))
 else
 some (.inr (b,d))
def Bu(z_:Int×Int×(List Ab.V)):=DM z_.1 z_.2.1 z_.2.2
def HL(b c:Int)(d:List Ab.V):=fix (Bu) (b,c,d)
theorem AbA:LpOk E129 1 2 (code Tryz.f66) [1,0,1,0] (Ac6) (Bu) (AcX):=by
 intro _
 simp only[Bu,DM,mC,mI,mN,mB,mE,mM]
 simp(disch:=refine sI ?_<;>(repeat' refine sA ?_ ?_)<;>intro _<;>kernel_rfl) only[Bn (Aeg _ _ _) (K:=stepK 1 (E129.hd 2) (E129.ot 2))]
 kernel_rfl
def CW(s:Int)(t:List Ab.V):Option (Int×(List Ab.V)) :=
 (HL s 0 t).bind fun a =>
 some (a.1,a.2)
theorem U129(R:Type)(s:Int)(t:List Ab.V)(K:AV→List Blk→Option R):runF E129 Tryz.f66 R [.ref 0,dI s] [.row 0 .deep Ab t] K=(CW s t).bind fun r=>K (dI r.1) [.row 0 .deep Ab r.2]:=by
 simp only[CW,bC,bI,bN,bE,bA,bS,bO,bM]
 simp(disch:=refine sI ?_<;>(repeat' refine sA ?_ ?_)<;>intro _<;>kernel_rfl) only[HL,Au (AbA) (K:=finK E129 Tryz.f66 1 R K)]
 kernel_rfl
def c66:Va.Callee:=brC [.raw,.d (.int .i64)] [⟨[.k (.ref 0),.dat [] (.int .i64)],[.row 0 .deep Ab],(Int×(List Ab.V)),fun p=>CW p.1.2.1 p.2.1,fun r=>(dI r.1,[.row 0 .deep Ab r.2])⟩]
theorem Z9:SoundC Tryz.prog 66 c66:=Ap (fn:=Tryz.f66) (by kernel_rfl) (by kernel_rfl) (by kernel_rfl) ⟨⟨E129,⟨⟨tabok,An ⟨T0,XN,trivial⟩⟩,mixed⟩,fun p R K=>U129 R p.1.2.1 p.2.1 K⟩,trivial⟩
abbrev E130:Env:=⟨tab,lookH [(66,c66)],{deep:=true,nest:=[(33,231),(41,231)],heads:=[(2,{live:=[0,1,5]})],outs:=[(2,{live:=[1]})],joins:=[(3,{live:=[0,1,5]}),(7,{live:=[0,1,5]}),(9,{live:=[0,1,5]})],ents:=[(3,[0,1,5]),(7,[0,1,5]),(9,[0,1,5])]}⟩
def Adu(z_:Int×Int×(List Ae.V)):St:=sT 45 [(0,.ref 0),(1,dI z_.1),(5,dI z_.2.1)] [.row 58 .deep Ae z_.2.2]
def Adg:(Int×(List Ae.V))→Ex×St:=fun a=>((.exit 0),sT 45 [(1,dI a.1)] [.row 58 .deep Ae a.2])
def AbZ(b c:Int)(d:List Ae.V):St:=sT 45 [(0,.ref 0),(1,dI b),(5,dI c)] [.row 58 .deep Ae d]
def AbC(b c:Int)(d:List Ae.V):(Int×(List Ae.V))→Ex×St:=fun e=>(.normal,sT 45 [(0,.ref 0),(1,dI e.1),(5,dI c)] [.row 58 .deep Ae e.2])
def AcR(c:Int)(g:List Ae.V)(i:Int):St:=sT 45 [(0,.ref 0),(1,dI i),(5,dI c)] [.row 58 .deep Ae g]
def Ac0(c:Int)(g:List Ae.V)(i:Int):(Int×(List Ae.V))→Ex×St:=fun j=>(.normal,sT 45 [(0,.ref 0),(1,dI j.1),(5,dI c)] [.row 58 .deep Ae j.2])
def DQ(c:Int)(g:List Ae.V)(i:Int):Option (Int×(List Ae.V)) :=
 if(0:Int)≤c∧c<(g.length:Int) then
 (CW i (g.getD c.toNat (Ty.zero Ae)).2.2.1.1).bind fun k =>
 some (k.1,(g.set c.toNat ((g.getD c.toNat (Ty.zero Ae)).1,(g.getD c.toNat (Ty.zero Ae)).2.1,(k.2,(g.getD c.toNat (Ty.zero Ae)).2.2.1.2),(g.getD c.toNat (Ty.zero Ae)).2.2.2)))
 else none
theorem Adq(c:Int)(g:List Ae.V)(i:Int):JnOk E130 1 9 (sub (sub (code Tryz.f18) [1,0,1,0,0]) [1,0]) [0,1,1,1,1,0] (AcR c g i) (DQ c g i) (Ac0 c g i):=by
 unfold JnOk
 simp only[DQ,mC,mI,mN,mB,mE,mM]
 kernel_rfl
def Add(c l:Int)(n:List Ae.V):St:=sT 45 [(0,.ref 0),(1,dI l),(5,dI c)] [.row 58 .deep Ae n]
def Aea(c l:Int)(n:List Ae.V):(List Ae.V)→Ex×St:=fun g=>(.normal,sT 45 [(0,.ref 0),(1,dI l),(5,dI c)] [.row 58 .deep Ae g])
def DJ(c l:Int)(n:List Ae.V):Option (List Ae.V) :=
 if(0:Int)≤c∧c<(n.length:Int) then
 some (n.set c.toNat ((n.getD c.toNat (Ty.zero Ae)).1,((Int.tmod l 3)==0),(n.getD c.toNat (Ty.zero Ae)).2.2))
 else none
theorem AdH(c l:Int)(n:List Ae.V):JnOk E130 1 7 (sub (sub (code Tryz.f18) [1,0,1,0,0]) [1,0]) [0,1,1,0] (Add c l n) (DJ c l n) (Aea c l n):=by
 unfold JnOk
 simp only[DJ,mC,mI,mN,mB,mE,mM]
 kernel_rfl
def DP(b c:Int)(d:List Ae.V):Option (Int×(List Ae.V)) :=
 if(0:Int)≤c∧c<(d.length:Int) then
 (DJ c (wI (b+1)) (d.set c.toNat (b,(d.getD c.toNat (Ty.zero Ae)).2))).bind fun g =>
 (DQ c g (wI ((wI (b+1))+1))).bind fun j =>
 if(0:Int)≤c∧c<(j.2.length:Int) then
 (CW j.1 (j.2.getD c.toNat (Ty.zero Ae)).2.2.2.1.1).bind fun o =>
 some (o.1,(j.2.set c.toNat ((j.2.getD c.toNat (Ty.zero Ae)).1,(j.2.getD c.toNat (Ty.zero Ae)).2.1,(j.2.getD c.toNat (Ty.zero Ae)).2.2.1,(o.2,(j.2.getD c.toNat (Ty.zero Ae)).2.2.2.1.2),(j.2.getD c.toNat (Ty.zero Ae)).2.2.2.2)))
 else none
 else none
theorem Acf(b c:Int)(d:List Ae.V):JnOk E130 1 3 (sub (code Tryz.f18) [1,0,1,0,0]) [1,0] (AbZ b c d) (DP b c d) (AbC b c d):=by
 unfold JnOk
 simp only[DP,mC,mI,mN,mB,mE,mM]
 simp(disch:=refine sI ?_<;>(repeat' refine sA ?_ ?_)<;>intro _<;>kernel_rfl) only[Bn (AdH _ _ _) (K:=joinK 1 (E130.jn 3)),Bn (Adq _ _ _) (K:=joinK 1 (E130.jn 3))]
 kernel_rfl
def C0(b c:Int)(d:List Ae.V):Option ((Int×Int×(List Ae.V))⊕(Int×(List Ae.V))) :=
 bif decide (c<(d.length:Int)) then
 (DP b c d).bind fun e =>
 some (.inl (e.1,(wI (c+1)),e.2))
 else
 some (.inr (b,d))
def A3(z_:Int×Int×(List Ae.V)):=C0 z_.1 z_.2.1 z_.2.2
def Gy(b c:Int)(d:List Ae.V):=fix (A3) (b,c,d)
theorem Ab5:LpOk E130 1 2 (code Tryz.f18) [1,0,1,0] (Adu) (A3) (Adg):=by
 intro _
 simp only[A3,C0,mC,mI,mN,mB,mE,mM]
 simp(disch:=refine sI ?_<;>(repeat' refine sA ?_ ?_)<;>intro _<;>kernel_rfl) only[Bn (Acf _ _ _) (K:=stepK 1 (E130.hd 2) (E130.ot 2))]
 kernel_rfl
def CC(q:Int)(s:List Ae.V):Option (Int×(List Ae.V)) :=
 (Gy q 0 s).bind fun a =>
 some (a.1,a.2)
theorem U130(R:Type)(q:Int)(s:List Ae.V)(K:AV→List Blk→Option R):runF E130 Tryz.f18 R [.ref 0,dI q] [.row 58 .deep Ae s] K=(CC q s).bind fun r=>K (dI r.1) [.row 58 .deep Ae r.2]:=by
 simp only[CC,bC,bI,bN,bE,bA,bS,bO,bM]
 simp(disch:=refine sI ?_<;>(repeat' refine sA ?_ ?_)<;>intro _<;>kernel_rfl) only[Gy,Au (Ab5) (K:=finK E130 Tryz.f18 1 R K)]
 kernel_rfl
def c18:Va.Callee:=brC [.raw,.d (.int .i64)] [⟨[.k (.ref 0),.dat [] (.int .i64)],[.row 58 .deep Ae],(Int×(List Ae.V)),fun p=>CC p.1.2.1 p.2.1,fun r=>(dI r.1,[.row 58 .deep Ae r.2])⟩]
theorem Zt:SoundC Tryz.prog 18 c18:=Ap (fn:=Tryz.f18) (by kernel_rfl) (by kernel_rfl) (by kernel_rfl) ⟨⟨E130,⟨⟨tabok,An ⟨Z9,trivial⟩⟩,mixed⟩,fun p R K=>U130 R p.1.2.1 p.2.1 K⟩,trivial⟩
abbrev E131:Env:=⟨tab,lookH [(90,c90)],{deep:=true,nest:=[(23,216)],heads:=[(2,{live:=[0,1,5]})],outs:=[(2,{live:=[1]})]}⟩
def Abz(z_:Int×Int×(List Ah.V)):St:=sT 27 [(0,.ref 0),(1,dI z_.1),(5,dI z_.2.1)] [.row 83 .deep Ah z_.2.2]
def Aew:(Int×(List Ah.V))→Ex×St:=fun a=>((.exit 0),sT 27 [(1,dI a.1)] [.row 83 .deep Ah a.2])
def ED(b c:Int)(d:List Ah.V):Option ((Int×Int×(List Ah.V))⊕(Int×(List Ah.V))) :=
 bif decide (c<(d.length:Int)) then
 if(0:Int)≤c∧c<(d.length:Int) then
 if(0:Int)≤c∧c<((d.set c.toNat (b,(d.getD c.toNat (Ty.zero Ah)).2)).length:Int) then
 (B7 (wI (b+1)) ((d.set c.toNat (b,(d.getD c.toNat (Ty.zero Ah)).2)).getD c.toNat (Ty.zero Ah)).2.1).bind fun e =>
 some (.inl (e.1,(wI (c+1)),((d.set c.toNat (b,(d.getD c.toNat (Ty.zero Ah)).2)).set c.toNat (((d.set c.toNat (b,(d.getD c.toNat (Ty.zero Ah)).2)).getD c.toNat (Ty.zero Ah)).1,e.2,((d.set c.toNat (b,(d.getD c.toNat (Ty.zero Ah)).2)).getD c.toNat (Ty.zero Ah)).2.2))))
 else none
 else none
 else
 some (.inr (b,d))
def BD(z_:Int×Int×(List Ah.V)):=ED z_.1 z_.2.1 z_.2.2
def IQ(b c:Int)(d:List Ah.V):=fix (BD) (b,c,d)
theorem AdB:LpOk E131 1 2 (code Tryz.f67) [1,0,1,0] (Abz) (BD) (Aew):=by
 intro _
 simp only[BD,ED,mC,mI,mN,mB,mE,mM]
 kernel_rfl
def EV(g:Int)(i:List Ah.V):Option (Int×(List Ah.V)) :=
 (IQ g 0 i).bind fun a =>
 some (a.1,a.2)
theorem U131(R:Type)(g:Int)(i:List Ah.V)(K:AV→List Blk→Option R):runF E131 Tryz.f67 R [.ref 0,dI g] [.row 83 .deep Ah i] K=(EV g i).bind fun r=>K (dI r.1) [.row 83 .deep Ah r.2]:=by
 simp only[EV,bC,bI,bN,bE,bA,bS,bO,bM]
 simp(disch:=refine sI ?_<;>(repeat' refine sA ?_ ?_)<;>intro _<;>kernel_rfl) only[IQ,Au (AdB) (K:=finK E131 Tryz.f67 1 R K)]
 kernel_rfl
def c67:Va.Callee:=brC [.raw,.d (.int .i64)] [⟨[.k (.ref 0),.dat [] (.int .i64)],[.row 83 .deep Ah],(Int×(List Ah.V)),fun p=>EV p.1.2.1 p.2.1,fun r=>(dI r.1,[.row 83 .deep Ah r.2])⟩]
theorem Abg:SoundC Tryz.prog 67 c67:=Ap (fn:=Tryz.f67) (by kernel_rfl) (by kernel_rfl) (by kernel_rfl) ⟨⟨E131,⟨⟨tabok,An ⟨T0,trivial⟩⟩,mixed⟩,fun p R K=>U131 R p.1.2.1 p.2.1 K⟩,trivial⟩
abbrev E132:Env:=⟨tab,lookH [(67,c67)],{deep:=true}⟩
def FK(a b c:Int)(d:List Ah.V):Option (Int×(List Ah.V)) :=
 (EV c d).bind fun e =>
 some (e.1,e.2)
theorem U132(R:Type)(a b c:Int)(d:List Ah.V)(K:AV→List Blk→Option R):runF E132 Tryz.f19 R [.pr (dI a) (.pr (dI b) (.pr (.ref 0) .u)),dI c] [.row 83 .deep Ah d] K=(FK a b c d).bind fun r=>K (dI r.1) [.row 83 .deep Ah r.2]:=by
 simp only[FK,bC,bI,bN,bE,bA,bS,bO,bM]
 kernel_rfl
def c19:Va.Callee:=brC [.raw,.d (.int .i64)] [⟨[.pr (.dat [] (.int .i64)) (.pr (.dat [] (.int .i64)) (.pr (.k (.ref 0)) (.k .u))),.dat [] (.int .i64)],[.row 83 .deep Ah],(Int×(List Ah.V)),fun p=>FK p.1.1.1 p.1.1.2.1 p.1.2.1 p.2.1,fun r=>(dI r.1,[.row 83 .deep Ah r.2])⟩]
theorem AaC:SoundC Tryz.prog 19 c19:=Ap (fn:=Tryz.f19) (by kernel_rfl) (by kernel_rfl) (by kernel_rfl) ⟨⟨E132,⟨⟨tabok,An ⟨Abg,trivial⟩⟩,mixed⟩,fun p R K=>U132 R p.1.1.1 p.1.1.2.1 p.1.2.1 p.2.1 K⟩,trivial⟩
abbrev E133:Env:=⟨tab,lookH [],{deep:=true,heads:=[(2,{live:=[0,1,5]})],outs:=[(2,{live:=[1,4]})]}⟩
def Ab6(a:List Int)(z_:Int×Int):St:=sT 22 [(0,dD (.sl (.int .u64)) a),(1,dI z_.1),(5,dI z_.2)] []
def AbL(a:List Int):(Int⊕Int)→Ex×St:=Sum.elim (fun b=>(.ret,sT 22 [(1,dI b),(4,dI (-1))] [])) (fun c=>((.exit 0),sT 22 [(1,dI c)] []))
def Ds(a:List Int)(d e:Int):Option ((Int×Int)⊕(Int⊕Int)) :=
 bif decide (e<(a.length:Int)) then
 if(0:Int)≤e∧e<(a.length:Int) then
 bif (a.getD e.toNat (Ty.zero (.int .u64))) !=(IntKind.u64.wrap d) then
 some (.inr (.inl d))
 else
 some (.inl ((wI (d+1)),(wI (e+1))))
 else none
 else
 some (.inr (.inr d))
def Be(a:List Int)(z_:Int×Int):=Ds a z_.1 z_.2
def Hm(a:List Int)(d e:Int):=fix (Be a) (d,e)
theorem Adc(a:List Int):LpOk E133 0 2 (code Tryz.f91) [1,0,1,0] (Ab6 a) (Be a) (AbL a):=by
 intro _
 simp only[Be,Ds,mC,mI,mN,mB,mE,mM]
 kernel_rfl
def C8(a:List Int)(g:Int):Option Int :=
 (Hm a g 0).bind (Sum.elim (fun b =>
 some (-1)) (fun c =>
 some c))
theorem U133(R:Type)(a:List Int)(g:Int)(K:AV→List Blk→Option R):runF E133 Tryz.f91 R [dD (.sl (.int .u64)) a,dI g] [] K=(C8 a g).bind fun r=>K (dI r) []:=by
 simp only[C8,bC,bI,bN,bE,bA,bS,bO,bM]
 simp(disch:=refine sI ?_<;>(repeat' refine sA ?_ ?_)<;>intro _<;>kernel_rfl) only[Hm,Au (Adc _) (K:=finK E133 Tryz.f91 0 R K)]
 kernel_rfl
def c91:Va.Callee:=brC [.d (.sl (.int .u64)),.d (.int .i64)] [⟨[.dat [] (.sl (.int .u64)),.dat [] (.int .i64)],[],Int,fun p=>C8 p.1.1 p.1.2.1,fun r=>(dI r,[])⟩]
theorem AaA:SoundC Tryz.prog 91 c91:=Ap (fn:=Tryz.f91) (by kernel_rfl) (by kernel_rfl) (by kernel_rfl) ⟨⟨E133,⟨⟨tabok,An trivial⟩,mixed⟩,fun p R K=>U133 R p.1.1 p.1.2.1 K⟩,trivial⟩
abbrev E134:Env:=⟨tab,lookH [(91,c91)],{deep:=true,heads:=[(2,{live:=[0,1,5]})],outs:=[(2,{live:=[1,4]})]}⟩
def AbY(a:List Ah.V)(z_:Int×Int):St:=sT 31 [(0,dD (.sl Ah) a),(1,dI z_.1),(5,dI z_.2)] []
def AdA(a:List Ah.V):(Int⊕Int)→Ex×St:=Sum.elim (fun b=>(.ret,sT 31 [(1,dI b),(4,dI (-1))] [])) (fun c=>((.exit 0),sT 31 [(1,dI c)] []))
def Ew(a:List Ah.V)(d e:Int):Option ((Int×Int)⊕(Int⊕Int)) :=
 bif decide (e<(a.length:Int)) then
 if(0:Int)≤e∧e<(a.length:Int) then
 bif (a.getD e.toNat (Ty.zero Ah)).1 !=d then
 some (.inr (.inl d))
 else
 if(0:Int)≤e∧e<(a.length:Int) then
 (C8 (a.getD e.toNat (Ty.zero Ah)).2.1 (wI (d+1))).bind fun g =>
 bif decide (g<0) then
 some (.inr (.inl g))
 else
 some (.inl (g,(wI (e+1))))
 else none
 else none
 else
 some (.inr (.inr d))
def BH(a:List Ah.V)(z_:Int×Int):=Ew a z_.1 z_.2
def IZ(a:List Ah.V)(d e:Int):=fix (BH a) (d,e)
theorem AcJ(a:List Ah.V):LpOk E134 0 2 (code Tryz.f68) [1,0,1,0] (AbY a) (BH a) (AdA a):=by
 intro _
 simp only[BH,Ew,mC,mI,mN,mB,mE,mM]
 kernel_rfl
def EU(a:List Ah.V)(i:Int):Option Int :=
 (IZ a i 0).bind (Sum.elim (fun b =>
 some (-1)) (fun c =>
 some c))
theorem U134(R:Type)(a:List Ah.V)(i:Int)(K:AV→List Blk→Option R):runF E134 Tryz.f68 R [dD (.sl Ah) a,dI i] [] K=(EU a i).bind fun r=>K (dI r) []:=by
 simp only[EU,bC,bI,bN,bE,bA,bS,bO,bM]
 simp(disch:=refine sI ?_<;>(repeat' refine sA ?_ ?_)<;>intro _<;>kernel_rfl) only[IZ,Au (AcJ _) (K:=finK E134 Tryz.f68 0 R K)]
 kernel_rfl
def c68:Va.Callee:=brC [.d (.sl Ah),.d (.int .i64)] [⟨[.dat [] (.sl Ah),.dat [] (.int .i64)],[],Int,fun p=>EU p.1.1 p.1.2.1,fun r=>(dI r,[])⟩]
theorem ZZ:SoundC Tryz.prog 68 c68:=Ap (fn:=Tryz.f68) (by kernel_rfl) (by kernel_rfl) (by kernel_rfl) ⟨⟨E134,⟨⟨tabok,An ⟨AaA,trivial⟩⟩,mixed⟩,fun p R K=>U134 R p.1.1 p.1.2.1 K⟩,trivial⟩
abbrev E135:Env:=⟨tab,lookH [(68,c68)],{deep:=true}⟩
def D2(a:AC.V)(b:Int):Option Int :=
 (EU a.2.2.1 b).bind fun c =>
 bif decide (c<0) then
 some (-1)
 else
 some c
theorem U135(R:Type)(a:AC.V)(b:Int)(K:AV→List Blk→Option R):runF E135 Tryz.f20 R [dD AC a,dI b] [] K=(D2 a b).bind fun r=>K (dI r) []:=by
 simp only[D2,bC,bI,bN,bE,bA,bS,bO,bM]
 kernel_rfl
def c20:Va.Callee:=brC [.d AC,.d (.int .i64)] [⟨[.dat [] AC,.dat [] (.int .i64)],[],Int,fun p=>D2 p.1.1 p.1.2.1,fun r=>(dI r,[])⟩]
theorem Z3:SoundC Tryz.prog 20 c20:=Ap (fn:=Tryz.f20) (by kernel_rfl) (by kernel_rfl) (by kernel_rfl) ⟨⟨E135,⟨⟨tabok,An ⟨ZZ,trivial⟩⟩,mixed⟩,fun p R K=>U135 R p.1.1 p.1.2.1 K⟩,trivial⟩
end
end Go.Proofs.X
namespace Go.Proofs.X
open Go Go.Va
set_option maxRecDepth 100000
noncomputable section
abbrev E136:Env:=⟨tab,lookH [(8,c8),(9,c9),(10,c10),(11,c11),(12,c12),(13,c13),(14,c14),(15,c15),(16,c16),(17,c17),(18,c18),(19,c19),(20,c20)],{deep:=true,joins:=[(22,{live:=[0,1,2,8,11,67]})],ents:=[(22,[0,1,2,8,11,12])],frzd:=[(27,(.sl Aa)),(29,(.sl Ae)),(46,(.sl Aa)),(51,(.sl Ae)),(80,(.sl Aa)),(82,(.sl Ae))]}⟩
def Adb(a:List Aa.V)(b:List Ae.V)(c d e g i j:Int)(k l:List Ah.V):St:=sT 97 [(0,dD (.sl Aa) a),(1,dD (.sl Ae) b),(2,dI c),(8,.ptr 0 0 [] 0),(11,.ptr 1 0 [] 0),(12,dI d)] [.box (.pr (dI e) (.pr (dI g) (.pr (.ref 2) .u))),.box (.pr (dI i) (.pr (dI j) (.pr (.ref 3) .u))),.row 83 .deep Ah k,.row 83 .deep Ah l]
def AbT(a:List Aa.V)(b:List Ae.V)(c d e g i j:Int)(k l:List Ah.V):Bool→Ex×St:=fun n=>(.normal,sT 97 [(0,dD (.sl Aa) a),(1,dD (.sl Ae) b),(2,dI c),(8,.ptr 0 0 [] 0),(11,.ptr 1 0 [] 0),(67,dB n)] [.box (.pr (dI e) (.pr (dI g) (.pr (.ref 2) .u))),.box (.pr (dI i) (.pr (dI j) (.pr (.ref 3) .u))),.row 83 .deep Ah k,.row 83 .deep Ah l])
def BL(a:List Aa.V)(b:List Ae.V)(c d e g i j:Int)(k l:List Ah.V):Option Bool :=
 bif decide (d<0) then
 some true
 else
 (Dm (i,j,l,()) (e,g,k,())).bind fun o =>
 some (!o)
theorem AdZ(a:List Aa.V)(b:List Ae.V)(c d e g i j:Int)(k l:List Ah.V):JnOk E136 0 22 (code Tryz.f3) [1,1,1,1,1,1,1,1,1,1,1,1,1,1,1,1,0,0] (Adb a b c d e g i j k l) (BL a b c d e g i j k l) (AbT a b c d e g i j k l):=by
 unfold JnOk
 simp only[BL,mC,mI,mN,mB,mE,mM]
 kernel_rfl
def C1(a:List Aa.V)(b:List Ae.V)(c:Int):Option Bool :=
 (Jp a 1048576).bind fun q =>
 bif decide (q<0) then
 some true
 else
 (FC b q).bind fun s =>
 bif decide (s<0) then
 some true
 else
 (Db a).bind fun t =>
 (Bi b).bind fun u =>
 (Em t u c).bind fun v =>
 (Db a).bind fun w =>
 (Bi b).bind fun x =>
 (CU w x c).bind fun y =>
 (Dm (y.1,y.2.1,y.2.2,()) (v.1,v.2.1,v.2.2,())).bind fun a1 =>
 bif !a1 then
 some false
 else
 (Db a).bind fun b1 =>
 (Jo w b1).bind fun c1 =>
 bif !c1 then
 some false
 else
 (Bi b).bind fun d1 =>
 (FM x d1).bind fun e1 =>
 bif !e1 then
 some false
 else
 (ET 1 w).bind fun g1 =>
 (CC g1.1 x).bind fun i1 =>
 (BL a b c i1.1 v.1 v.2.1 y.1 y.2.1 v.2.2 y.2.2).bind fun n =>
 bif n then
 some false
 else
 (FK y.1 y.2.1 1 y.2.2).bind fun j1 =>
 (D2 (y.1,y.2.1,j1.2,()) 1).bind fun k1 =>
 bif decide (k1<0) then
 some false
 else
 bif k1 !=j1.1 then
 some false
 else
 (Db a).bind fun l1 =>
 (Bi b).bind fun n1 =>
 (CU l1 n1 c).bind fun o1 =>
 (Dm (o1.1,o1.2.1,o1.2.2,()) (v.1,v.2.1,v.2.2,())).bind fun q1 =>
 bif !q1 then
 some false
 else
 (D2 (y.1,y.2.1,j1.2,()) 1).bind fun s1 =>
 bif decide (s1<0) then
 some false
 else
 bif s1 !=j1.1 then
 some false
 else
 some true
theorem laws_FnExactBlastCheck_run(R:Type)(a:List Aa.V)(b:List Ae.V)(c:Int)(K:AV→List Blk→Option R):runF E136 Tryz.f3 R [dD (.sl Aa) a,dD (.sl Ae) b,dI c] [] K=(C1 a b c).bind fun r=>K (dB r) []:=by
 simp only[C1,bC,bI,bN,bE,bA,bS,bO,bM]
 simp(disch:=refine sI ?_<;>(repeat' refine sA ?_ ?_)<;>intro _<;>kernel_rfl) only[Bn (AdZ _ _ _ _ _ _ _ _ _ _) (K:=finK E136 Tryz.f3 0 R K)]
 kernel_rfl
theorem laws_FnExactBlastCheck_ok:ProgOk Tryz.prog E136:=⟨⟨tabok,An ⟨Abw,AdY,Zu,ZF,Aa4,Zz,Abc,Abn,ZB,AaX,Zt,AaC,Z3,trivial⟩⟩,mixed⟩
end
end Go.Proofs.X
namespace Go.Va
def Ret{A:Type}(x:Option A)(Q:A→Prop):Prop:=∃a,x=some a∧Q a
section
variable {A B S T:Type} {x y:Option A} {P Q:A→Prop}
theorem Ret.mk{a:A}(h:Q a):Ret (some a) Q:=⟨a,rfl,h⟩
theorem Ret.of{a:A}(h:x=some a)(hq:Q a):Ret x Q:=⟨a,h,hq⟩
theorem Ret.eq_{a:A}(h:Ret x (·=a)):x=some a:=by obtain⟨b,h1,h2⟩:=h; rw[h1,h2]
theorem Ret.mono(h:Ret x P)(hq:∀a,P a→Q a):Ret x Q:=by obtain⟨a,h1,h2⟩:=h; exact⟨a,h1,hq a h2⟩
theorem Ret.bind{R:B→Prop}{f:A→Option B}(h:Ret x P)(k:∀a,P a→Ret (f a) R):Ret (x.bind f) R:=by
 obtain⟨a,h1,h2⟩:=h
 rw[h1]; exact k a h2
theorem Ret.cond{c:Bool}(h1:c=true→Ret x Q)(h2:c=false→Ret y Q):Ret (bif c then x else y) Q:=by
 cases c
 ·exact h2 rfl
 ·exact h1 rfl
theorem Ret.elim{R:B→Prop}{C D:Type}{f:C→Option B}{g:D→Option B}{z:C⊕D}(h1:∀c,z=.inl c→Ret (f c) R)(h2:∀d,z=.inr d→Ret (g d) R):Ret (Sum.elim f g z) R:=by
 cases z with
 | inl c=>exact h1 c rfl
 | inr d=>exact h2 d rfl
theorem A2{f:S→Option (S⊕T)}(I:Nat→S→Prop){Q:T→Prop}(step:∀n s,I n s→Ret (f s) fun r=>match r with | .inl s'=>∃m,m<n∧I m s' | .inr t=>Q t):∀n s,I n s→Ret (fix f s) Q:=by
 intro n
 induction n using Nat.strongRecOn with
 | _ n ih =>
  intro s hI
  obtain⟨r,h1,h2⟩:=step n s hI
  cases r with
  | inl s' =>
   obtain⟨m,hm,hI'⟩:=h2
   rw[HM h1]
   exact ih m hm s' hI'
  | inr t=>exact⟨t,Bv h1,h2⟩
theorem Vx{f:S→Option (S⊕T)}(st:Nat→S){t:T}:∀(n k:Nat),(∀i,k≤i→i<k+n→f (st i)=some (.inl (st (i+1))))→f (st (k+n))=some (.inr t)→fix f (st k)=some t
 | 0,k,_,he=>Bv he
 | n+1,k,hs,he=>by
  rw[HM (hs k (Nat.le_refl _) (by omega))]
  exact Vx st n (k+1) (fun i h1 h2=>hs i (by omega) (by omega)) (by rw[show k+1+n=k+(n+1) by omega]; exact he)
theorem AG{f:S→Option (S⊕T)}(st:Nat→S){t:T}(n:Nat)(hs:∀i,i<n→f (st i)=some (.inl (st (i+1))))(he:f (st n)=some (.inr t)):fix f (st 0)=some t :=
 Vx st n 0 (fun i _ h=>hs i (by omega)) (by rw[Nat.zero_add]; exact he)
end
theorem wrap64{x:Int}(h1:-9223372036854775808≤x)(h2:x<9223372036854775808):wI x=x:=by
 simp only[wI,IntKind.wrap,IntKind.bits,IntKind.signed]
 simp
 omega
theorem wrapU64{x:Int}(h1:0≤x)(h2:x<18446744073709551616):IntKind.u64.wrap x=x:=by
 simp only[wI,IntKind.wrap,IntKind.bits,IntKind.signed]
 simp
 omega
theorem Qv{k n:Nat}(hk:k<n)(hn:n≤maxLen):wI ((k:Int)+1)=((k+1:Nat):Int):=by
 unfold maxLen at hn
 rw[wrap64 (by omega) (by omega)]; omega
def EqOk{A:Type}(F:A→A→Option Bool)(a:A):Prop:=∀b,Ret (F a b) fun r=>r=true↔a=b
theorem Abk {A:Type} {F:A→A→Option Bool} {z:A} {a b:List A} (hl:a.length=b.length) (hn:a.length≤maxLen) (hF:∀x∈a,EqOk F x) {f:Int→Option (Int⊕(Unit⊕Unit))}
    (hs:∀k:Nat,k<a.length→f (k:Int)=(F (a.getD k z) (b.getD k z)).bind fun r=>bif !r then some (.inr (.inl ())) else some (.inl (wI ((k:Int)+1)))) (he:f (a.length:Int)=some (.inr (.inr ()))) :
    Ret (fix f 0) fun t=>(t=.inr ()∧a=b)∨(t=.inl ()∧a≠b):=by
 refine A2 (fun m (i:Int)=>∃k:Nat,i=(k:Int)∧k≤a.length∧m=a.length-k∧a.take k=b.take k) (fun m i hI=>?_) (a.length) 0 ⟨0,rfl,Nat.zero_le _,rfl,rfl⟩
 obtain⟨k,rfl,hk,rfl,ht⟩:=hI
 rcases Nat.lt_or_ge k a.length with h | h
 ·rw[hs k h]
  have ha:a.getD k z=a[k]:=by simp[List.getD,h]
  have hb:b.getD k z=b[k]'(by omega):=by simp[List.getD,show k<b.length by omega]
  refine Ret.bind (hF (a.getD k z) (by rw[ha]; exact List.getElem_mem h) (b.getD k z)) fun r hr=>?_
  cases r with
  | false =>
   refine Ret.mk (.inr ⟨rfl,fun e=>?_⟩)
   have:a.getD k z=b.getD k z:=by rw[e]
   have:=hr.2 this
   cases this
  | true =>
   have e:=hr.1 rfl
   refine Ret.mk ⟨a.length-(k+1),by omega,k+1,Qv h hn,h,rfl,?_⟩
   rw[List.take_succ_eq_append_getElem h,List.take_succ_eq_append_getElem (show k<b.length by omega),ht,←ha,←hb,e]
 ·have hk':k=a.length:=by omega
  subst hk'
  rw[he]
  refine Ret.mk (.inl ⟨rfl,?_⟩)
  rw[List.take_of_length_le (Nat.le_refl _),List.take_of_length_le (by omega)] at ht
  exact ht
end Go.Va
namespace Go.Va
theorem dlt{k n:Nat}(h:k<n):decide ((k:Int)<(n:Int))=true:=by simp; exact h
theorem dge(n:Nat):decide ((n:Int)<(n:Int))=false:=by simp
theorem rng{k n:Nat}(h:k<n):(0:Int)≤(k:Int)∧(k:Int)<(n:Int):=⟨by omega,by omega⟩
theorem Oh {A:Type} {F:A→A→Option Bool} {z:A} {G:List A→List A→Option Bool} {r:List A→List A→Int→Option (Int⊕(Unit⊕Unit))}
    (hG:∀a b,G a b=bif (a.length:Int) !=(b.length:Int) then some false else(fix (r a b) 0).bind (Sum.elim (fun _=>some false) fun _=>some true))
    (hr:∀a b i,r a b i=bif decide (i<(a.length:Int)) then(if(0:Int)≤i∧i<(a.length:Int) then(if(0:Int)≤i∧i<(b.length:Int) then
     (F (a.getD i.toNat z) (b.getD i.toNat z)).bind fun q=>bif !q then some (.inr (.inl ())) else some (.inl (wI (i+1))) else none) else none) else some (.inr (.inr ())))
    {a:List A} (hn:a.length≤maxLen) (hF:∀x∈a,EqOk F x):EqOk G a:=by
 intro b
 rw[hG]
 refine Ret.cond (fun h=>Ret.mk ⟨fun h=>by(cases h),fun e=>?_⟩) fun h=>?_
 ·subst e; simp at h
 ·have hl:a.length=b.length:=by
    have:(a.length:Int)=(b.length:Int):=by simpa using h
    omega
  refine Ret.bind (Abk (z:=z) hl hn hF (fun k hk=>?_) ?_) fun t ht=>?_
  ·rw[hr,dlt hk,cond_true,if_pos (rng hk),if_pos (rng (by omega))]
   rfl
  ·rw[hr,dge,cond_false]
  ·rcases ht with ⟨rfl,e⟩| ⟨rfl,e⟩
   ·exact Ret.mk ⟨fun _=>e,fun _=>rfl⟩
   ·exact Ret.mk ⟨fun h=>by(cases h),fun h=>(e h).elim⟩
end Go.Va
namespace Go.Proofs.X
open Go Go.Va
set_option maxRecDepth 100000
theorem LE(s t:ByteArray):strEq s t=true↔s=t:=by
 unfold strEq
 rw[ByteArray.toList_eq,ByteArray.toList_eq,beq_iff_eq]
 constructor
 ·intro h
  cases s with
  | mk a=>cases t with
   | mk b=>simp at h; rw[h]
 ·rintro rfl; rfl
theorem PZ{a:List Int}(hn:a.length≤maxLen):EqOk GF a :=
 Oh (F:=fun x y=>some (x==y)) (z:=Ty.zero (.int .u64)) (r:=Ev) (fun _ _=>rfl) (fun _ _ _=>rfl) hn fun x _ y=>Ret.mk (by simp)
theorem Rd{a:List Int}(hn:a.length≤maxLen):EqOk IF a :=
 Oh (F:=fun x y=>some (x==y)) (z:=Ty.zero (.int .i64)) (r:=Fp) (fun _ _=>rfl) (fun _ _ _=>rfl) hn fun x _ y=>Ret.mk (by simp)
theorem QI{a:Ah.V}(h:Ty.Wf Ah a):EqOk FF a:=by
 intro b
 obtain⟨w,ws,_⟩:=a
 obtain⟨w',ws',_⟩:=b
 unfold FF
 refine Ret.cond (fun h1=>Ret.mk (by simp at h1; simp[h1])) fun h1=>Ret.bind (PZ h.2.1.1 ws') fun r hr=>Ret.cond (fun h2=>Ret.mk (by simp at h1 h2; simp_all)) fun h2=>Ret.mk (by simp at h1 h2; simp_all)
theorem VU(a:Aa.V):EqOk (fun x y=>some (Hq x y)) a:=by
 intro b
 obtain⟨n,w,_⟩:=a
 obtain⟨n',w',_⟩:=b
 refine Ret.mk ?_
 simp[Hq,LE]
theorem TQ{a:List Aa.V}(h:Ty.Wf (.sl Aa) a):EqOk Jo a :=
 Oh (F:=fun x y=>some (Hq x y)) (z:=Ty.zero Aa) (r:=Gk) (fun _ _=>rfl) (fun _ _ _=>rfl) h.1 fun x hx=>VU x
theorem TC{a:Ab.V}(h:Ty.Wf Ab a):EqOk FS a:=by
 intro b
 obtain⟨o,v,A,B,x,k,_⟩:=a
 obtain⟨o',v',A',B',x',k',_⟩:=b
 unfold FS
 refine Ret.cond (fun h1=>Ret.mk (by simp at h1; simp[h1])) fun h1=>Ret.cond (fun h2=>Ret.mk (by simp at h1 h2; simp[h2])) fun h2=>Ret.cond (fun h3=>Ret.mk (by simp at h1 h3; simp[h3])) fun h3=>Ret.cond (fun h3=>Ret.mk (by simp at h1 h3; simp[h3])) fun h5 =>
  Ret.bind (QI h.2.2.2.2.1 x') fun r hr=>Ret.cond (fun h4=>Ret.mk (by simp at h1 h2 h3 h4; simp_all)) fun h4=>Ret.bind (Rd h.2.2.2.2.2.1.1 k') fun r2 hr2=>Ret.cond (fun h6=>Ret.mk (by simp at h1 h2 h3 h4 h6; simp_all)) fun h6=>Ret.mk (by simp at h1 h2 h3 h4 h5 h6; simp_all)
theorem Rx{a:List Ab.V}(h:Ty.Wf (.sl Ab) a):EqOk Ix a :=
 Oh (F:=FS) (z:=Ty.zero Ab) (r:=Fs) (fun _ _=>rfl) (fun _ _ _=>rfl) h.1 fun x hx=>TC (h.2 x hx)
theorem QS{a:Aj.V}(h:Ty.Wf Aj a):EqOk HB a:=by
 intro b
 obtain⟨n,_⟩:=a
 obtain⟨n',_⟩:=b
 unfold HB
 refine Ret.bind (Rx h.1 n') fun r1 hr1=>Ret.cond (fun h1=>Ret.mk (by simp at h1; simp_all)) fun h1=>Ret.mk (by simp at h1; simp_all)
theorem Qo{a:Ae.V}(h:Ty.Wf Ae a):EqOk DF a:=by
 intro b
 obtain⟨i,e,s,t,_⟩:=a
 obtain⟨i',e',s',t',_⟩:=b
 unfold DF
 refine Ret.cond (fun h1=>Ret.mk (by simp at h1; simp[h1])) fun h1=>Ret.cond (fun h2=>Ret.mk (by simp at h1 h2; simp[h2])) fun h2 =>
  Ret.bind (QS h.2.2.1 s') fun r hr=>Ret.cond (fun h4=>Ret.mk (by simp at h1 h2 h4; simp_all)) fun h4=>Ret.bind (QS h.2.2.2.1 t') fun r2 hr2=>Ret.cond (fun h6=>Ret.mk (by simp at h1 h2 h4 h6; simp_all)) fun h6=>Ret.mk (by simp at h1 h2 h4 h6; simp_all)
theorem O4{a:List Ae.V}(h:Ty.Wf (.sl Ae) a):EqOk FM a :=
 Oh (F:=DF) (z:=Ty.zero Ae) (r:=DW) (fun _ _=>rfl) (fun _ _ _=>rfl) h.1 fun x hx=>Qo (h.2 x hx)
theorem TF{a:List Ah.V}(h:Ty.Wf (.sl Ah) a):EqOk Jl a :=
 Oh (F:=FF) (z:=Ty.zero Ah) (r:=FY) (fun _ _=>rfl) (fun _ _ _=>rfl) h.1 fun x hx=>QI (h.2 x hx)
theorem RZ{a:AC.V}(h:Ty.Wf AC a):EqOk Dm a:=by
 intro b
 obtain⟨w,ws,v,_⟩:=a
 obtain⟨w',ws',v',_⟩:=b
 unfold Dm
 refine Ret.cond (fun h1=>Ret.mk (by simp at h1; simp[h1])) fun h1=>Ret.cond (fun h2=>Ret.mk (by simp at h1 h2; simp[h2])) fun h2=>Ret.bind (TF h.2.2.1 v') fun r hr=>Ret.cond (fun h3=>Ret.mk (by simp at h1 h2 h3; simp_all)) fun h3=>Ret.mk (by simp at h1 h2 h3; simp_all)
end Go.Proofs.X
namespace Go.Va
def wt:(t:Ty)→t.V→Nat
 | .str,s=>s.size
 | .pair a b,x=>wt a x.1+wt b x.2
 | .sl t,xs=>xs.length+(xs.map (wt t)).sum
 | .int _,_=>0
 | .bool,_=>0
 | .unit,_=>0
 | .opq _,_=>0
def SzOk(t:Ty)(F:t.V→Int→Option Int)(x:t.V):Prop:=∀left:Int,0≤left→left≤1048576→F x left=some (if(wt t x:Int)≤left then left-(wt t x:Int) else -1)
theorem VI {t:Ty} {F:t.V→Int→Option Int} {z:t.V} {G:List t.V→Int→Option Int} {r:List t.V→Int×Int→Option ((Int×Int)⊕(Int⊕Int))}
    (hG:∀a left,G a left=bif decide ((wI (left-(a.length:Int)))<0) then some (-1) else(fix (r a) (wI (left-(a.length:Int)),0)).bind (Sum.elim (fun _=>some (-1)) fun y=>some y))
    (hr:∀a x,r a x=bif decide (x.2<(a.length:Int)) then(if(0:Int)≤x.2∧x.2<(a.length:Int) then
     (F (a.getD x.2.toNat z) x.1).bind fun q=>bif decide (q<0) then some (.inr (.inl q)) else some (.inl (q,wI (x.2+1))) else none) else some (.inr (.inr x.1)))
    {a:List t.V} (hn:a.length≤maxLen) (hF:∀x∈a,SzOk t F x):SzOk (.sl t) G a:=by
 intro left h0 h1
 have hm:maxLen=140737488355327∨True:=.inr trivial
 have hw:wI (left-(a.length:Int))=left-(a.length:Int):=by unfold maxLen at hn; exact wrap64 (by omega) (by omega)
 rw[hG,hw]
 have hwt:wt (.sl t) a=a.length+(a.map (wt t)).sum:=rfl
 rw[hwt]
 by_cases hneg:left-(a.length:Int)<0
 ·rw[show decide (left-(a.length:Int)<0)=true by simpa using hneg,cond_true,if_neg (by omega)]
 ·rw[show decide (left-(a.length:Int)<0)=false by simpa using hneg,cond_false]
  have key:Ret (fix (r a) (left-(a.length:Int),0)) fun y=>(∃q,y=.inl q∧left<((a.length+(a.map (wt t)).sum:Nat):Int))∨y=.inr (left-((a.length+(a.map (wt t)).sum:Nat):Int))∧((a.length+(a.map (wt t)).sum:Nat):Int)≤left:=by
   refine A2 (fun m (x:Int×Int)=>∃k:Nat,x.2=(k:Int)∧k≤a.length∧m=a.length-k∧x.1=left-(a.length:Int)-(((a.take k).map (wt t)).sum:Nat)∧0≤x.1) (fun m x hI=>?_) a.length _ ⟨0,rfl,Nat.zero_le _,rfl,by simp,by show 0≤left-(a.length:Int); omega⟩
   obtain⟨l,i⟩:=x
   obtain⟨k,hk1,hk,rfl,hl,hl0⟩:=hI
   simp only at hk1 hl hl0
   subst hk1
   rw[hr]
   simp only
   rcases Nat.lt_or_ge k a.length with h | h
   ·rw[dlt h,cond_true,if_pos (rng h)]
    have ha:a.getD k z=a[k]:=by simp[List.getD,h]
    have hsum:((a.take (k+1)).map (wt t)).sum=((a.take k).map (wt t)).sum+wt t a[k]:=by
     rw[List.take_succ_eq_append_getElem h,List.map_append,List.sum_append]
     simp
    have htot:((a.take (k+1)).map (wt t)).sum≤(a.map (wt t)).sum:=by
     conv=>rhs; rw[←List.take_append_drop (k+1) a,List.map_append,List.sum_append]
     omega
    rw[show(k:Int).toNat=k from Int.toNat_natCast k,ha,hF _ (List.getElem_mem h) l hl0 (by omega),Option.bind_some]
    split
    ·rename_i hle
     rw[show decide (l-(wt t a[k]:Int)<0)=false by simpa using hle,cond_false]
     exact Ret.mk ⟨a.length-(k+1),by omega,k+1,Qv h hn,h,rfl,by rw[hsum,hl]; push_cast; omega,by show 0≤l-_; omega⟩
    ·rename_i hgt
     refine Ret.mk (.inl ⟨_,rfl,?_⟩)
     push_cast
     rw[hsum] at htot
     omega
   ·have hk':k=a.length:=by omega
    subst hk'
    rw[dge,cond_false]
    rw[List.take_of_length_le (Nat.le_refl _)] at hl
    exact Ret.mk (.inr ⟨by rw[hl]; push_cast; rw[Int.sub_sub],by push_cast; omega⟩)
  obtain⟨y,hy,hq⟩:=key
  rw[hy]
  rcases hq with ⟨q,rfl,hlt⟩| ⟨rfl,hle⟩
  ·rw[if_neg (by omega)]; rfl
  ·rw[if_pos hle]; rfl
end Go.Va
namespace Go.Proofs.X
open Go Go.Va
theorem VY{A:Type}{xs:List A}{left:Int}(h0:0≤left)(h1:left≤1048576)(hn:xs.length≤maxLen):(bif decide ((wI (left-(xs.length:Int)))<0) then(-1) else wI (left-(xs.length:Int)))=if(xs.length:Int)≤left then left-(xs.length:Int) else -1:=by
 unfold maxLen at hn
 rw[wrap64 (by omega) (by omega)]
 split
 ·rw[show decide (left-(xs.length:Int)<0)=false by simp; omega]; rfl
 ·rw[show decide (left-(xs.length:Int)<0)=true by simp; omega]; rfl
theorem Sj{A:Type}{f:A→Nat}(h:∀x,f x=0)(xs:List A):(xs.map f).sum=0:=by
 induction xs with
 | nil=>rfl
 | cons x xs ih=>simp[h,ih]
theorem Wa(a:List Int):wt (.sl (.int .u64)) a=a.length:=congrArg (a.length+·) (Sj (fun _=>rfl) a)
theorem TU(a:List Int):wt (.sl (.int .i64)) a=a.length:=congrArg (a.length+·) (Sj (fun _=>rfl) a)
theorem Qd{a:List Int}(hn:a.length≤maxLen):SzOk (.sl (.int .u64)) (fun x l=>some (AT x l)) a:=fun left h0 h1=>by
 show some (AT a left)=_
 rw[AT,VY h0 h1 hn,Wa]
theorem R4{a:List Int}(hn:a.length≤maxLen):SzOk (.sl (.int .i64)) (fun x l=>some (A7 x l)) a:=fun left h0 h1=>by
 show some (A7 a left)=_
 rw[A7,VY h0 h1 hn,TU]
end Go.Proofs.X
namespace Go.Va
section
variable {A B:Type} {Q:A→Prop} {x y:Option A}
theorem Kz{a:A}:Ret (some a) Q↔Q a:=⟨fun⟨_,h,q⟩=>by cases h; exact q,fun h=>⟨a,rfl,h⟩⟩
end
theorem B1 {X S T:Type} {f:X→Option (X⊕T)} (st:Nat→S→X) (n:Nat) (I:Nat→S→Prop) {Q:T→Prop}
    (h:∀k s,k<n→I k s→Ret (f (st k s)) fun r=>match r with | .inl x=>∃s',x=st (k+1) s'∧I (k+1) s' | .inr t=>Q t)
    (he:∀s,I n s→Ret (f (st n s)) fun r=>match r with | .inl _=>False | .inr t=>Q t) {s0:S} (h0:I 0 s0):Ret (fix f (st 0 s0)) Q:=by
 refine A2 (fun m x=>∃k s,x=st k s∧k≤n∧m=n-k∧I k s) (fun m x hI=>?_) n (st 0 s0) ⟨0,s0,rfl,Nat.zero_le _,rfl,h0⟩
 obtain⟨k,s,rfl,hk,rfl,hI⟩:=hI
 rcases Nat.lt_or_ge k n with hlt | hge
 ·refine(h k s hlt hI).mono fun r hr=>?_
  cases r with
  | inl x =>
   obtain⟨s',rfl,hI'⟩:=hr
   exact⟨n-(k+1),by omega,k+1,s',rfl,hlt,rfl,hI'⟩
  | inr t=>exact hr
 ·have:k=n:=by omega
  subst this
  refine(he s hI).mono fun r hr=>?_
  cases r with
  | inl x=>exact hr.elim
  | inr t=>exact hr
def W64(x:Int):Prop:=0≤x∧x<18446744073709551616
def tb(x:Int)(j:Nat):Bool:=x.toNat.testBit j
theorem W64.toNat{x:Int}(h:W64 x):x.toNat<2^64:=by unfold W64 at h; omega
theorem W64.of{n:Nat}(h:n<2^64):W64 (n:Int):=by unfold W64; omega
theorem MU{x:Int}(h:W64 x){j:Nat}(hj:64≤j):tb x j=false :=
 Nat.testBit_lt_two_pow (Nat.lt_of_lt_of_le h.toNat (Nat.pow_le_pow_right (by decide) hj))
theorem W64.ext{x y:Int}(hx:W64 x)(hy:W64 y)(h:∀j,j<64→tb x j=tb y j):x=y:=by
 have:x.toNat=y.toNat:=Nat.eq_of_testBit_eq fun j=>by
  rcases Nat.lt_or_ge j 64 with hj | hj
  ·exact h j hj
  ·exact(MU hx hj).trans (MU hy hj).symm
 unfold W64 at hx hy
 omega
theorem Pb{n:Nat}(h:n<2^64):IntKind.u64.wrap (n:Int)=(n:Int):=wrapU64 (by omega) (by omega)
theorem Lj{x:Int}(h:W64 x):(BitVec.ofInt 64 x).toNat=x.toNat:=by
 unfold W64 at h
 rw[BitVec.toNat_ofInt]
 simp
 omega
theorem Zi{a b:Int}(ha:W64 a)(hb:W64 b):orI .u64 a b=((a.toNat ||| b.toNat:Nat):Int):=by
 show IntKind.u64.wrap (((BitVec.ofInt 64 a ||| BitVec.ofInt 64 b).toNat:Nat):Int)=_
 rw[Pb (BitVec.isLt _),BitVec.toNat_or,Lj ha,Lj hb]
theorem Vo{a b:Int}(ha:W64 a)(hb:W64 b):andI .u64 a b=((a.toNat &&& b.toNat:Nat):Int):=by
 show IntKind.u64.wrap (((BitVec.ofInt 64 a &&& BitVec.ofInt 64 b).toNat:Nat):Int)=_
 rw[Pb (BitVec.isLt _),BitVec.toNat_and,Lj ha,Lj hb]
theorem Qs{a b:Int}(ha:W64 a)(hb:W64 b):W64 (orI .u64 a b):=by
 rw[Zi ha hb]; exact .of (Nat.or_lt_two_pow ha.toNat hb.toNat)
theorem Vs{a b:Int}(ha:W64 a)(hb:W64 b):W64 (andI .u64 a b):=by
 rw[Vo ha hb]; exact .of (Nat.and_lt_two_pow _ hb.toNat)
theorem VD{a b:Int}(ha:W64 a)(hb:W64 b)(j:Nat):tb (orI .u64 a b) j=(tb a j||tb b j):=by
 rw[Zi ha hb,tb,Int.toNat_natCast,Nat.testBit_or]; rfl
theorem Zb{a b:Int}(ha:W64 a)(hb:W64 b)(j:Nat):tb (andI .u64 a b) j=(tb a j&&tb b j):=by
 rw[Vo ha hb,tb,Int.toNat_natCast,Nat.testBit_and]; rfl
theorem UW{a:Int}(ha:W64 a){s:Int}{n:Nat}(hs:s=(n:Int))(hn:n≤64):shrI .u64 a s=((a.toNat/2^n:Nat):Int):=by
 subst hs
 unfold W64 at ha
 obtain⟨m,rfl⟩:∃m:Nat,a=(m:Int):=⟨a.toNat,by omega⟩
 have h:shrI .u64 (m:Int) (n:Int)=Int.fdiv (m:Int) (2^min ((n:Int).toNat) 64):=rfl
 rw[h,Int.toNat_natCast,Int.toNat_natCast,Nat.min_eq_left hn,Int.fdiv_eq_ediv_of_nonneg _ (by exact Int.le_of_lt (Int.pow_pos (by decide)))]
 norm_cast
theorem N9{a:Int}(ha:W64 a){s:Int}{n:Nat}(hs:s=(n:Int))(hn:n≤64):W64 (shrI .u64 a s):=by
 rw[UW ha hs hn]; exact .of (Nat.lt_of_le_of_lt (Nat.div_le_self _ _) ha.toNat)
theorem NO{a:Int}(ha:W64 a){s:Int}{n:Nat}(hs:s=(n:Int))(hn:n≤64)(j:Nat):tb (shrI .u64 a s) j=tb a (j+n):=by
 rw[UW ha hs hn,tb,Int.toNat_natCast,Nat.testBit_div_two_pow,tb,Nat.add_comm]
theorem R8{a:Int}(ha:W64 a){s:Int}{n:Nat}(hs:s=(n:Int))(hn:n≤64):shlI .u64 a s=((a.toNat*2^n%18446744073709551616:Nat):Int):=by
 subst hs
 unfold W64 at ha
 obtain⟨m,rfl⟩:∃m:Nat,a=(m:Int):=⟨a.toNat,by omega⟩
 have h:shlI .u64 (m:Int) (n:Int)=IntKind.u64.wrap ((m:Int)*2^min ((n:Int).toNat) 64):=rfl
 have hw:∀x:Int,IntKind.u64.wrap x=x%18446744073709551616:=fun x=>by simp[IntKind.wrap,IntKind.bits,IntKind.signed]
 rw[h,Int.toNat_natCast,Int.toNat_natCast,Nat.min_eq_left hn,hw,Int.natCast_emod,Int.natCast_mul,Int.natCast_pow]
 rfl
theorem Pq{a:Int}(ha:W64 a){s:Int}{n:Nat}(hs:s=(n:Int))(hn:n≤64):W64 (shlI .u64 a s):=by
 rw[R8 ha hs hn]; exact .of (Nat.mod_lt _ (by omega))
theorem Sk{a:Int}(ha:W64 a){s:Int}{n:Nat}(hs:s=(n:Int))(hn:n≤64)(j:Nat):tb (shlI .u64 a s) j=(decide (j<64)&&(decide (n≤j)&&tb a (j-n))):=by
 rw[R8 ha hs hn,tb,Int.toNat_natCast,show(18446744073709551616:Nat)=2^64 from by decide,Nat.testBit_mod_two_pow,Nat.testBit_mul_two_pow,tb]
theorem L7(j:Nat):tb 0 j=false:=by simp[tb]
theorem Mw:W64 0:=by unfold W64; omega
theorem L5:W64 1:=by unfold W64; omega
theorem VJ{s:Int}{n:Nat}(hs:s=(n:Int))(hn:n<64):IntKind.u64.wrap (shlI .u64 1 s-1)=((2^n-1:Nat):Int):=by
 have h1:0<2^n:=Nat.two_pow_pos n
 have h2:2^n<2^64:=Nat.pow_lt_pow_right (by decide) hn
 rw[R8 L5 hs (by omega)]
 rw[show(1:Int).toNat*2^n%18446744073709551616=2^n by rw[show(1:Int).toNat=1 from rfl,Nat.one_mul]; exact Nat.mod_eq_of_lt h2]
 rw[show((2^n:Nat):Int)-1=((2^n-1:Nat):Int) by omega]
 exact Pb (by omega)
theorem W6{s:Int}{n:Nat}(hs:s=(n:Int))(hn:n<64):W64 (IntKind.u64.wrap (shlI .u64 1 s-1)):=by
 have h2:2^n<2^64:=Nat.pow_lt_pow_right (by decide) hn
 rw[VJ hs hn]; exact .of (by omega)
theorem Aan{s:Int}{n:Nat}(hs:s=(n:Int))(hn:n<64)(j:Nat):tb (IntKind.u64.wrap (shlI .u64 1 s-1)) j=decide (j<n):=by
 rw[VJ hs hn,tb,Int.toNat_natCast,Nat.testBit_two_pow_sub_one]
theorem Q6(j:Nat):tb 1 j=decide (j=0):=by
 show Nat.testBit 1 j=_
 cases j with
 | zero=>rfl
 | succ j=>simp[Nat.testBit_succ]
theorem QQ{a:Int}(ha:W64 a):andI .u64 a 1=if tb a 0 then 1 else 0:=by
 refine W64.ext (Vs ha L5) (by split<;>first | exact L5 | exact Mw) fun j _=>?_
 rw[Zb ha L5,Q6]
 by_cases h:j=0
 ·subst h; cases h:tb a 0<;>simp[Q6,L7]
 ·cases h':tb a 0<;>simp[Q6,L7,h]
def Words(ws:List Int):Prop:=∀x∈ws,W64 x
def bt(ws:List Int)(i:Nat):Bool:=tb (ws.getD (i/64) 0) (i%64)
theorem Words.getD{ws:List Int}(h:Words ws)(k:Nat):W64 (ws.getD k 0):=by
 rcases Nat.lt_or_ge k ws.length with hk | hk
 ·rw[show ws.getD k 0=ws[k] by simp[List.getD,hk]]; exact h _ (List.getElem_mem hk)
 ·rw[show ws.getD k 0=0 by simp[List.getD,hk]]; exact Mw
theorem Words.set{ws:List Int}(h:Words ws){k:Nat}{x:Int}(hx:W64 x):Words (ws.set k x):=fun y hy=>by
 rcases List.mem_or_eq_of_mem_set hy with h' | rfl
 ·exact h y h'
 ·exact hx
theorem Words.rep{n:Nat}:Words (List.replicate n 0):=fun x hx=>by rw[(List.mem_replicate.1 hx).2]; exact Mw
theorem Vh(n i:Nat):bt (List.replicate n 0) i=false:=by
 unfold bt
 rw[show(List.replicate n (0:Int)).getD (i/64) 0=0 by simp[List.getD,List.getElem?_replicate]; split<;>rfl]
 exact L7 _
theorem ME{ws:List Int}{i:Nat}(h:64*ws.length≤i):bt ws i=false:=by
 unfold bt
 rw[show ws.getD (i/64) 0=0 by simp[List.getD,show ws.length≤i/64 by omega]]
 exact L7 _
theorem M3{ws:List Int}{k:Nat}{x:Int}(hk:k<ws.length)(i:Nat):bt (ws.set k x) i=if i/64=k then tb x (i%64) else bt ws i:=by
 unfold bt
 by_cases h:i/64=k
 ·rw[if_pos h,h,show(ws.set k x).getD k 0=x by simp[List.getD,hk]]
 ·rw[if_neg h,show(ws.set k x).getD (i/64) 0=ws.getD (i/64) 0 by simp[List.getD,List.getElem?_set,show ¬k=i/64 from fun e=>h e.symm]]
theorem Kg{a b:List Int}(ha:Words a)(hb:Words b)(hl:a.length=b.length)(h:∀i,i<64*a.length→bt a i=bt b i):a=b:=by
 refine List.ext_getElem hl fun k h1 h2=>W64.ext (ha _ (List.getElem_mem h1)) (hb _ (List.getElem_mem h2)) fun j hj=>?_
 have:=h (64*k+j) (by omega)
 unfold bt at this
 rw[show(64*k+j)/64=k by omega,show(64*k+j)%64=j by omega] at this
 simpa [List.getD,h1,h2] using this
def pk(f:Nat→Bool):Nat→Nat
 | 0=>0
 | n+1=>(if f n then 2^n else 0)+pk f n
theorem ZY(f:Nat→Bool):∀n,pk f n<2^n
 | 0=>by simp[pk]
 | n+1=>by
  have:=ZY f n
  have h2:2^(n+1)=2^n+2^n:=by rw[Nat.pow_succ]; omega
  unfold pk
  split<;>omega
theorem V9(f:Nat→Bool):∀n j,(pk f n).testBit j=(decide (j<n)&&f j)
 | 0,j=>by simp[pk]
 | n+1,j=>by
  have hl:=ZY f n
  unfold pk
  cases hf:f n with
  | false =>
   simp only[Bool.false_eq_true,if_false,Nat.zero_add,V9 f n j]
   by_cases h:j=n
   ·subst h; simp[hf]
   ·rw[show decide (j<n+1)=decide (j<n) by simp; omega]
  | true =>
   simp only[if_true]
   rcases Nat.lt_trichotomy j n with h | h | h
   ·rw[Nat.testBit_two_pow_add_gt h,V9 f n j]; simp[h]; omega
   ·subst h; rw[Nat.testBit_two_pow_add_eq,Nat.testBit_lt_two_pow hl]; simp[hf]
   ·rw[Nat.testBit_lt_two_pow (Nat.lt_of_lt_of_le (show 2^n+pk f n<2^(n+1) by rw[Nat.pow_succ]; omega) (Nat.pow_le_pow_right (by decide) h))]
    simp; omega
def mkW(f:Nat→Bool)(m:Nat):List Int:=(List.range m).map fun k=>(pk (fun j=>f (64*k+j)) 64:Int)
theorem D9(f:Nat→Bool)(m:Nat):(mkW f m).length=m:=by simp[mkW]
theorem CK(f:Nat→Bool)(m:Nat):Words (mkW f m):=fun x hx=>by
 obtain⟨k,_,rfl⟩:=List.mem_map.1 hx
 exact .of (ZY _ _)
theorem Qn(f:Nat→Bool)(m i:Nat):bt (mkW f m) i=(decide (i<64*m)&&f i):=by
 rcases Nat.lt_or_ge i (64*m) with h | h
 ·unfold bt mkW
  rw[show((List.range m).map fun k=>(pk (fun j=>f (64*k+j)) 64:Int)).getD (i/64) 0=(pk (fun j=>f (64*(i/64)+j)) 64:Int) by
   simp[List.getD,show i/64<m by omega],tb,Int.toNat_natCast,V9,show 64*(i/64)+i%64=i by omega]
  simp[h]; omega
 ·rw[ME (by rw[D9]; exact h)]; simp; omega
theorem XG{ws:List Int}(h:Words ws){f:Nat→Bool}(hf:∀i,i<64*ws.length→bt ws i=f i):ws=mkW f ws.length :=
 Kg h (CK _ _) (D9 _ _).symm fun i hi=>by rw[hf i hi,Qn]; simp[hi]
theorem Qk{f g:Nat→Bool}{m:Nat}(h:∀i,i<64*m→f i=g i):mkW f m=mkW g m :=
 Kg (CK _ _) (CK _ _) (by rw[D9,D9]) fun i hi=>by rw[D9] at hi; rw[Qn,Qn,h i hi]
def low(f:Nat→Bool)(n:Nat):Nat→Bool:=fun i=>decide (i<n)&&f i
def nw(n:Nat):Nat:=(n+63)/64
end Go.Va
namespace Go.Proofs.X
open Go Go.Va
set_option maxRecDepth 100000
theorem tdiv64{i:Nat}(h:i<4611686018427387904):wI (Int.tdiv (i:Int) 64)=((i/64:Nat):Int):=by
 rw[Int.tdiv_eq_ediv_of_nonneg (by omega),wrap64 (by omega) (by omega)]
 omega
theorem tmod64(i:Nat):Int.tmod (i:Int) 64=((i%64:Nat):Int):=by
 rw[Int.tmod_eq_emod_of_nonneg (by omega)]
 omega
theorem words64{n:Nat}(h:n≤1048576):wI (Int.tdiv (wI ((n:Int)+63)) 64)=((nw n:Nat):Int):=by
 rw[wrap64 (x:=(n:Int)+63) (by omega) (by omega),show(n:Int)+63=((n+63:Nat):Int) by omega,tdiv64 (by omega)]
 rfl
def mkB(n:Nat)(f:Nat→Bool):Ah.V:=((n:Int),mkW (low f n) (nw n),())
def bI(b:Bool):Int:=if b then 1 else 0
def BitsP(n:Nat)(ws:List Int):Prop:=1≤n∧n≤4096∧ws.length=nw n∧Words ws∧∀i,n≤i→bt ws i=false
theorem BitsP.eq{n:Nat}{ws:List Int}(h:BitsP n ws):ws=mkW (low (bt ws) n) (nw n):=by
 obtain⟨_,_,hl,hw,hz⟩:=h
 conv=>lhs; rw[XG hw (f:=low (bt ws) n) fun i hi=>by
  unfold low
  by_cases h:i<n
  ·simp[h]
  ·rw[hz i (by omega)]; simp]
 rw[hl]
theorem Un{n:Nat}{f:Nat→Bool}{i:Nat}(hi:i<n):bt (mkW (low f n) (nw n)) i=f i:=by
 rw[Qn]; unfold nw low
 simp[hi]; omega
theorem ES{n:Nat}{f:Nat→Bool}{i:Nat}:bt (mkW (low f n) (nw n)) i=(decide (i<n)&&f i):=by
 by_cases h:i<n
 ·rw[Un h]; simp[h]
 ·rw[Qn]; unfold low; simp[h]
theorem Q2{n:Nat}{f g:Nat→Bool}(h:∀i,i<n→f i=g i):mkB n f=mkB n g:=by
 unfold mkB
 rw[Qk fun i _=>show low f n i=low g n i by
  unfold low
  by_cases hi:i<n
  ·simp[hi,h i hi]
  ·simp[hi]]
theorem OX{w:Int}{ws:List Int}(hw:Words ws){i:Nat}(hi:i<64*ws.length)(hn:ws.length≤1048576):D6 (w,ws,()) (i:Int)=some (bI (bt ws i)):=by
 unfold D6
 rw[tdiv64 (by omega),tmod64,wrapU64 (by omega) (by omega)]
 rw[if_pos ⟨by omega,by show((i/64:Nat):Int)<(ws.length:Int); omega⟩,if_neg (by omega),Int.toNat_natCast]
 show some (IntKind.u8.wrap (andI .u64 (shrI .u64 (ws.getD (i/64) 0) ((i%64:Nat):Int)) 1))=_
 rw[show IntKind.u8.wrap (andI .u64 (shrI .u64 (ws.getD (i/64) 0) ((i%64:Nat):Int)) 1)=bI (bt ws i) by
  rw[QQ (N9 (hw.getD _) rfl (by omega)),NO (hw.getD _) rfl (by omega),Nat.zero_add]
  show IntKind.u8.wrap (bI (bt ws i))=_
  cases bt ws i<;>rfl]
theorem WG{ws:List Int}(h:∀x∈ws,(IntKind.u64).min≤x∧x≤(IntKind.u64).max):Words ws:=fun x hx=>by
 have:=h x hx
 unfold W64
 simp only[IntKind.min,IntKind.max,IntKind.bits,IntKind.signed] at this
 simp at this
 omega
theorem O3{w:Int}{ws:List Int}(hw:Words ws)(hn:ws.length≤1048576):Ret (Hy (w,ws,())) fun r=>r=true↔∃n:Nat,w=(n:Int)∧BitsP n ws:=by
 unfold Hy mkr
 refine Ret.cond (fun h=>Ret.mk ?_) fun h=>?_
 ·simp only[Bool.false_eq_true,false_iff,not_exists,not_and]
  rintro n rfl ⟨h1,h2,h3,_⟩
  unfold nw at h3
  simp only[Ay,words64 (show n≤1048576 by omega),Bool.or_eq_true,Bool.not_eq_true',Bool.and_eq_false_iff,decide_eq_false_iff_not,bne_iff_ne] at h
  unfold nw at h
  omega
 ·have hb:1≤w∧w≤4096:=by
    simp only[Ay,Bool.or_eq_false_iff,Bool.not_eq_false',Bool.and_eq_true,decide_eq_true_eq] at h
    omega
  obtain⟨n,rfl⟩:∃n:Nat,w=(n:Int):=⟨w.toNat,by omega⟩
  have hl:ws.length=nw n:=by
   simp only[Bool.or_eq_false_iff,bne_eq_false_iff_eq] at h
   have h:=h.2
   rw[words64 (by omega)] at h
   omega
  have key:Ret (KN ((n:Int),ws,()) (n:Int)) fun t=>(t=.inl ()∧¬∀i,n≤i→bt ws i=false)∨(t=.inr ()∧∀i,n≤i→bt ws i=false):=by
   have hle:n≤64*ws.length:=by rw[hl]; unfold nw; omega
   have hwr:wI (64*(ws.length:Int))=((64*ws.length:Nat):Int):=by
    rw[wrap64 (by omega) (by omega)]; omega
   refine B1 (fun k (_:Unit)=>((n+k:Nat):Int)) (64*ws.length-n) (fun k _=>∀i,n≤i→i<n+k→bt ws i=false) (fun k _ hk hI=>?_) (fun _ hI=>?_) (s0:=()) (fun i h1 h2=>by omega)
   ·unfold EH GN
    rw[show wI (64*((((n:Int),ws,()):Ah.V).2.1.length:Int))=((64*ws.length:Nat):Int) from hwr,dlt (by omega),cond_true,OX hw (by omega) hn,Option.bind_some]
    cases hb:bt ws (n+k) with
    | true=>exact Ret.mk (.inl ⟨rfl,fun h=>by rw[h _ (by omega)] at hb; cases hb⟩)
    | false =>
     refine Ret.mk ⟨(),?_,fun i h1 h2=>?_⟩
     ·rw[wrap64 (by omega) (by omega)]; omega
     ·rcases Nat.lt_or_ge i (n+k) with h | h
      ·exact hI i h1 h
      ·rw[show i=n+k by omega]; exact hb
   ·unfold EH GN
    rw[show wI (64*((((n:Int),ws,()):Ah.V).2.1.length:Int))=((64*ws.length:Nat):Int) from hwr,show n+(64*ws.length-n)=64*ws.length by omega,dge,cond_false]
    refine Ret.mk (.inr ⟨rfl,fun i h=>?_⟩)
    rcases Nat.lt_or_ge i (64*ws.length) with h' | h'
    ·exact hI i h (by omega)
    ·exact ME h'
  refine Ret.bind key fun t ht=>?_
  rcases ht with ⟨rfl,h'⟩| ⟨rfl,h'⟩
  ·refine Ret.mk ?_
   simp only[Bool.false_eq_true,false_iff,not_exists,not_and]
   intro m hm hp
   obtain rfl:m=n:=by omega
   exact h' hp.2.2.2.2
  ·exact Ret.mk ⟨fun _=>⟨n,rfl,by omega,by omega,hl,hw,h'⟩,fun _=>rfl⟩
theorem OQ{w:Int}{ws:List Int}(hw:Words ws)(hn:ws.length≤1048576):Ret (Hz (w,ws,())) fun r=>r=true↔∃n:Nat,w=(n:Int)∧BitsP n ws:=by
 unfold Hz mkr
 refine Ret.cond (fun h=>Ret.mk ?_) fun h=>?_
 ·simp only[Bool.false_eq_true,false_iff,not_exists,not_and]
  rintro n rfl ⟨h1,h2,h3,_⟩
  unfold nw at h3
  simp only[Aq,AO,words64 (show n≤1048576 by omega),Bool.or_eq_true,Bool.not_eq_true',Bool.and_eq_false_iff,decide_eq_false_iff_not,bne_iff_ne] at h
  unfold nw at h
  omega
 ·have hb:1≤w∧w≤4096:=by
    simp only[Aq,Bool.or_eq_false_iff,Bool.not_eq_false',Bool.and_eq_true,decide_eq_true_eq] at h
    omega
  obtain⟨n,rfl⟩:∃n:Nat,w=(n:Int):=⟨w.toNat,by omega⟩
  have hl:ws.length=nw n:=by
   simp only[Bool.or_eq_false_iff,bne_eq_false_iff_eq] at h
   have h:=h.2
   rw[AO,words64 (by omega)] at h
   omega
  have e1:((n:Int),ws,()).1=(n:Int):=rfl
  have iff:(∃m:Nat,(n:Int)=(m:Int)∧BitsP m ws)↔∀i,n≤i→bt ws i=false:=by
   constructor
   ·rintro⟨m,hm,hp⟩
    obtain rfl:n=m:=by omega
    exact hp.2.2.2.2
   ·exact fun h=>⟨n,rfl,by omega,by omega,hl,hw,h⟩
  rw[iff]
  refine Ret.cond (fun h=>Ret.mk ?_) fun h=>?_
  ·have h:Int.tmod (n:Int) 64=0:=by simpa using h
   rw[tmod64] at h
   refine⟨fun _ i hi=>ME (by rw[hl]; unfold nw; omega),fun _=>rfl⟩
  ·have h:Int.tmod (n:Int) 64≠0:=by simpa using h
   rw[tmod64] at h
   have hpos:0<ws.length:=by rw[hl]; unfold nw; omega
   have hlast:wI ((ws.length:Int)-1)=((ws.length-1:Nat):Int):=by rw[wrap64 (by omega) (by omega)]; omega
   have e2:wI (((((n:Int),ws,()):Ah.V).2.1.length:Int)-1)=((ws.length-1:Nat):Int):=hlast
   rw[e2,if_pos ⟨by omega,by show((ws.length-1:Nat):Int)<(ws.length:Int); omega⟩]
   rw[show Int.tmod (((n:Int),ws,()):Ah.V).1 64=((n%64:Nat):Int) from tmod64 n,if_neg (by omega),Int.toNat_natCast]
   refine Ret.mk ?_
   rw[beq_iff_eq]
   have hw':=hw.getD (ws.length-1)
   have h0:shrI .u64 (ws.getD (ws.length-1) 0) ((n%64:Nat):Int)=0↔∀j,j<64→tb (ws.getD (ws.length-1) 0) (j+n%64)=false :=
    ⟨fun e j _=>by rw[←NO hw' rfl (by omega),e,L7],fun e=>W64.ext (N9 hw' rfl (by omega)) Mw fun j hj=>by rw[NO hw' rfl (by omega),L7]; exact e j hj⟩
   refine h0.trans ⟨fun e i hi=>?_,fun e j hj=>?_⟩
   ·rcases Nat.lt_or_ge i (64*ws.length) with h' | h'
    ·unfold bt
     rw[show i/64=ws.length-1 by rw[hl] at h' ⊢; unfold nw at *; omega]
     have:=e (i%64-n%64) (by omega)
     rwa [show i%64-n%64+n%64=i%64 by rw[hl] at h'; unfold nw at *; omega] at this
    ·exact ME h'
   ·rcases Nat.lt_or_ge (j+n%64) 64 with h' | h'
    ·have:=e (64*(ws.length-1)+(j+n%64)) (by rw[hl]; unfold nw; omega)
     unfold bt at this
     rwa [show(64*(ws.length-1)+(j+n%64))/64=ws.length-1 by omega,show(64*(ws.length-1)+(j+n%64))%64=j+n%64 by omega] at this
    ·exact MU hw' h'
end Go.Proofs.X
namespace Go.Proofs.X
open Go Go.Va
set_option maxRecDepth 100000
theorem zeroI(k:IntKind):(Ty.zero (.int k):Int)=0:=rfl
theorem idx64{a k:Nat}(h:a+64*k<1073741824):wI ((a:Int)+wI (64*(k:Int)))=((a+64*k:Nat):Int):=by
 rw[wrap64 (x:=64*(k:Int)) (by omega) (by omega),wrap64 (by omega) (by omega)]; omega
theorem wrapN{x:Int}{n:Nat}(h:x=(n:Int))(hn:n<4611686018427387904):wI x=(n:Int):=by rw[wrap64 (by omega) (by omega),h]
theorem Lm{n:Nat}(h:n≤1048576):BM (n:Int)=some ((n:Int),List.replicate (nw n) 0):=by
 have hn:nw n≤1048576:=by unfold nw; omega
 unfold BM AO
 rw[words64 h,if_pos ⟨rfl,by omega,by omega,by omega,by omega⟩,Int.toNat_natCast]
theorem Aad{ws:List Int}{k j:Nat}(hj:j<64):bt ws (64*k+j)=tb (ws.getD k 0) j:=by
 unfold bt
 rw[show(64*k+j)/64=k by omega,show(64*k+j)%64=j by omega]
theorem Aes {a k:Nat} {d b:Int} {low row:List Int} (hw:Words low) (hr:Words row) (hk:k<low.length) (hb:a+64*k<1073741824) (hin:(a+64*k)/64<row.length) :
    Ret (EL (a:Int) low d (k:Int) row b) fun r=>Words r∧r.length=row.length∧∀i,i<64*row.length→bt r i=(bt row i||(decide (a+64*k≤i)&&(decide (i<a+64*k+64)&&bt low (i-a)))):=by
 unfold EL mkr
 obtain⟨q,hq⟩:∃q,q=(a+64*k)/64:=⟨_,rfl⟩
 obtain⟨m,hm⟩:∃m,m=(a+64*k)%64:=⟨_,rfl⟩
 have e1:wI (Int.tdiv (((a+64*k:Nat):Int)) 64)=(q:Int):=by rw[tdiv64 (by omega),hq]
 have e2:Int.tmod (((a+64*k:Nat):Int)) 64=(m:Int):=by rw[tmod64,hm]
 have e3:wI ((q:Int)+1)=((q+1:Nat):Int):=wrapN (by omega) (by omega)
 have e4:wI (64-(m:Int))=((64-m:Nat):Int):=wrapN (by omega) (by omega)
 have hlk:W64 (low.getD k 0):=hw.getD k
 have hlow:∀i,a+64*k≤i→i<a+64*k+64→bt low (i-a)=tb (low.getD k 0) (i-a-64*k):=fun i h1 h2=>by
  rw[←Aad (ws:=low) (k:=k) (by omega)]; congr 1; omega
 simp only[idx64 hb,e1,e2,e3,e4,List.length_set,Int.toNat_natCast,zeroI]
 rw[if_pos (rng hk),if_pos ⟨by omega,by omega⟩,if_neg (by omega),if_pos ⟨by omega,by omega⟩]
 have hsh:W64 (shlI .u64 (low.getD k 0) (m:Int)):=Pq hlk rfl (by omega)
 have hor:W64 (orI .u64 (row.getD q 0) (shlI .u64 (low.getD k 0) (m:Int))):=Qs (hr.getD q) hsh
 have hqr:q<row.length:=by omega
 have hrow:∀i,bt (row.set q (orI .u64 (row.getD q 0) (shlI .u64 (low.getD k 0) (m:Int)))) i=(bt row i||(decide (i/64=q)&&(decide (a+64*k≤i)&&bt low (i-a)))):=fun i=>by
  rw[M3 hqr]
  by_cases h:i/64=q
  ·rw[if_pos h,VD (hr.getD q) hsh,Sk hlk rfl (by omega)]
   have:bt row i=tb (row.getD q 0) (i%64):=by unfold bt; rw[h]
   rw[this]
   by_cases h2:a+64*k≤i
   ·rw[hlow i h2 (by omega),show i-a-64*k=i%64-m by omega]
    simp[h,h2,show i%64<64 by omega,show m≤i%64 by omega]
   ·simp[h,h2,show ¬m≤i%64 by omega]
  ·rw[if_neg h]; simp[h]
 have hset:Words (row.set q (orI .u64 (row.getD q 0) (shlI .u64 (low.getD k 0) (m:Int)))):=hr.set hor
 refine Ret.cond (fun h=>?_) fun h=>?_
 ·simp only[Bool.and_eq_true,bne_iff_ne,decide_eq_true_eq] at h
  have hm0:m≠0:=by omega
  have hq1:q+1<row.length:=by omega
  rw[if_pos ⟨by omega,by omega⟩,if_neg (by omega),if_pos ⟨by omega,by omega⟩]
  have hsr:W64 (shrI .u64 (low.getD k 0) ((64-m:Nat):Int)):=N9 hlk rfl (by omega)
  refine Ret.mk ⟨hset.set (Qs (hset.getD _) hsr),by rw[List.length_set,List.length_set],fun i hi=>?_⟩
  show bt (List.set _ (q+1) (orI .u64 (List.getD _ (q+1) 0) (shrI .u64 (low.getD k 0) ((64-m:Nat):Int)))) i=_
  rw[M3 (by rw[List.length_set]; exact hq1)]
  by_cases h1:i/64=q+1
  ·rw[if_pos h1,VD (hset.getD _) hsr,NO hlk rfl (by omega)]
   have:tb ((row.set q (orI .u64 (row.getD q 0) (shlI .u64 (low.getD k 0) (m:Int)))).getD (q+1) 0) (i%64)=bt (row.set q (orI .u64 (row.getD q 0) (shlI .u64 (low.getD k 0) (m:Int)))) i:=by unfold bt; rw[h1]
   rw[this,hrow]
   rw[show decide (i/64=q)=false by simp; omega,show decide (a+64*k≤i)=true by simp; omega]
   by_cases h2:i<a+64*k+64
   ·rw[hlow i (by omega) h2,show i-a-64*k=i%64+(64-m) by omega]
    simp[h2]
   ·rw[MU hlk (by omega)]; simp[h2]
  ·rw[if_neg h1,hrow]
   by_cases h2:i/64=q
   ·simp only[h2,decide_true,Bool.true_and]
    by_cases h3:a+64*k≤i
    ·simp[h3,show i<a+64*k+64 by omega]
    ·simp[h3]
   ·rw [show(decide (a+64*k≤i)&&(decide (i<a+64*k+64)&&bt low (i-a)))=false by
      by_cases h3:a+64*k≤i
      ·simp[show ¬i<a+64*k+64 by omega]
      ·simp[h3]]
    simp[h2]
 ·refine Ret.mk ⟨hset,List.length_set,fun i hi=>?_⟩
  have h':m=0∨row.length≤q+1:=by
   rcases Nat.eq_zero_or_pos m with h0 | h0
   ·exact .inl h0
   ·refine .inr ?_
    simp only[Bool.and_eq_false_iff,bne_eq_false_iff_eq,decide_eq_false_iff_not] at h
    omega
  show bt (row.set q (orI .u64 (row.getD q 0) (shlI .u64 (low.getD k 0) (m:Int)))) i=_
  rw[hrow]
  by_cases h2:i/64=q
  ·simp only[h2,decide_true,Bool.true_and]
   by_cases h3:a+64*k≤i
   ·simp[h3,show i<a+64*k+64 by omega]
   ·simp[h3]
  ·rw [show(decide (a+64*k≤i)&&(decide (i<a+64*k+64)&&bt low (i-a)))=false by
     by_cases h3:a+64*k≤i
     ·simp[show ¬i<a+64*k+64 by omega]
     ·simp[h3]]
   simp[h2]
theorem Zf {w b:Int} {a:Nat} {low row:List Int} (hw:Words low) (hr:Words row) (hl:low.length≤1048576) (ha:a≤1048576) (hin:∀k,k<low.length→(a+64*k)/64<row.length) :
    Ret (Ez b (a:Int) (w,low,()) row) fun r=>Words r∧r.length=row.length∧∀i,i<64*row.length→bt r i=(bt row i||(decide (a≤i)&&bt low (i-a))):=by
 unfold Ez Jr
 refine Ret.bind (B1 (fun k (s:List Int)=>((k:Int),s)) low.length (fun k s=>Words s∧s.length=row.length∧∀i,i<64*row.length→bt s i=(bt row i||(decide (a≤i)&&(decide (i<a+64*k)&&bt low (i-a))))) (Q:=fun r=>Words r∧r.length=row.length∧∀i,i<64*row.length→bt r i=(bt row i||(decide (a≤i)&&bt low (i-a)))) (fun k s hk hI=>?_) (fun s hI=>?_) (s0:=row) ⟨hr,rfl,fun i _=>by
     by_cases h:a≤i
     ·simp[show ¬i<a by omega]
     ·simp[h]⟩) fun r h=>Ret.mk h
 ·unfold Do Fw
  simp only
  rw[dlt hk,cond_true]
  refine Ret.bind (Aes hw hI.1 hk (by omega) (by rw[hI.2.1]; exact hin k hk)) fun r h=>Ret.mk ⟨r,?_,h.1,h.2.1.trans hI.2.1,fun i hi=>?_⟩
  ·rw[show wI ((k:Int)+1)=((k+1:Nat):Int) from wrapN (by omega) (by omega)]
  ·rw[h.2.2 i (by rw[hI.2.1]; exact hi),hI.2.2 i hi,Bool.or_assoc]
   congr 1
   by_cases h1:a≤i
   ·by_cases h2:i<a+64*k
    ·simp[h1,h2,show ¬a+64*k≤i by omega,show i<a+64*(k+1) by omega]
    ·by_cases h3:i<a+64*k+64
     ·simp[h1,h2,h3,show a+64*k≤i by omega,show i<a+64*(k+1) by omega]
     ·simp[h2,h3,show ¬i<a+64*(k+1) by omega]
   ·simp[h1,show ¬a+64*k≤i by omega]
 ·unfold Do Fw
  simp only
  rw[dge,cond_false]
  refine Ret.mk ⟨hI.1,hI.2.1,fun i hi=>?_⟩
  rw[hI.2.2 i hi]
  by_cases h1:a≤i
  ·by_cases h2:i<a+64*low.length
   ·simp[h2]
   ·rw[ME (by omega:64*low.length≤i-a)]; simp
  ·simp[h1]
theorem Aaa{n m:Nat}{f g:Nat→Bool}(hn:n+m≤8192):Cx (mkB n f) (mkB m g)=some (((n+m:Nat):Int),mkW (low (fun i=>if i<m then g i else f (i-m)) (n+m)) (nw (n+m))):=by
 unfold Cx mkB
 refine Ret.eq_ ?_
 rw[show wI (((n:Int),mkW (low f n) (nw n),()).1+((m:Int),mkW (low g m) (nw m),()).1)=((n+m:Nat):Int) from wrapN (by show(n:Int)+(m:Int)=_; omega) (by omega),Lm (by omega),Option.bind_some]
 refine Ret.bind (Zf (a:=0) (CK _ _) Words.rep (by rw[D9]; unfold nw; omega) (by omega) fun k hk=>by rw[D9] at hk; rw[List.length_replicate]; unfold nw at *; omega) fun r1 h1=>?_
 rw[List.length_replicate] at h1
 refine Ret.bind (Zf (a:=m) (CK _ _) h1.1 (by rw[D9]; unfold nw; omega) (by omega) fun k hk=>by rw[D9] at hk; rw[h1.2.1]; unfold nw at *; omega) fun r2 h2=>Ret.mk ?_
 refine congrArg _ (Kg h2.1 (CK _ _) (by rw[h2.2.1,h1.2.1,D9]) fun i hi=>?_)
 have hi':i<64*nw (n+m):=by rw[h2.2.1,h1.2.1] at hi; exact hi
 rw[h2.2.2 i (by rw[h1.2.1]; exact hi'),h1.2.2 i hi',Vh,ES,ES,ES]
 by_cases h3:i<m
 ·simp[h3,show ¬m≤i by omega,show i<n+m by omega]
 ·by_cases h4:i<n+m
  ·simp[h3,h4,show m≤i by omega,show i-m<n by omega]
  ·simp[h3,h4,show ¬i-m<n by omega]
end Go.Proofs.X
namespace Go.Proofs.X
open Go Go.Va
set_option maxRecDepth 100000
theorem AbB {a k:Nat} {w w1 w2 j:Int} {ws row:List Int} (hw:Words ws) (hr:Words row) (hk:k<row.length) (hb:a+64*k<1073741824) (hin:(a+64*k)/64<ws.length) :
    Ret (EO (a:Int) w1 w2 (k:Int) (w,ws,()) j row) fun r=>Words r∧r.length=row.length∧∀i,bt r i=if i/64=k then bt ws (a+i) else bt row i:=by
 unfold EO mkr
 obtain⟨q,hq⟩:∃q,q=(a+64*k)/64:=⟨_,rfl⟩
 obtain⟨m,hm⟩:∃m,m=(a+64*k)%64:=⟨_,rfl⟩
 have e1:wI (Int.tdiv (((a+64*k:Nat):Int)) 64)=(q:Int):=by rw[tdiv64 (by omega),hq]
 have e2:Int.tmod (((a+64*k:Nat):Int)) 64=(m:Int):=by rw[tmod64,hm]
 have e3:wI ((q:Int)+1)=((q+1:Nat):Int):=wrapN (by omega) (by omega)
 have e4:wI (64-(m:Int))=((64-m:Nat):Int):=wrapN (by omega) (by omega)
 simp only[idx64 hb,e1,e2,e3,e4,List.length_set,Int.toNat_natCast,zeroI]
 rw[if_pos ⟨by omega,by omega⟩,if_neg (by omega),if_pos (rng hk)]
 have hsr:W64 (shrI .u64 (ws.getD q 0) (m:Int)):=N9 (hw.getD q) rfl (by omega)
 have hset:Words (row.set k (shrI .u64 (ws.getD q 0) (m:Int))):=hr.set hsr
 have hself:(row.set k (shrI .u64 (ws.getD q 0) (m:Int))).getD k 0=shrI .u64 (ws.getD q 0) (m:Int):=by simp[List.getD,hk]
 refine Ret.cond (fun h=>?_) fun h=>?_
 ·simp only[Bool.and_eq_true,bne_iff_ne,decide_eq_true_eq] at h
  rw[if_pos (rng hk),if_pos ⟨by omega,by omega⟩,if_neg (by omega),if_pos (rng hk),hself]
  have hsl:W64 (shlI .u64 (ws.getD (q+1) 0) ((64-m:Nat):Int)):=Pq (hw.getD _) rfl (by omega)
  refine Ret.mk ⟨hset.set (Qs hsr hsl),by rw[List.length_set,List.length_set],fun i=>?_⟩
  rw[M3 (by rw[List.length_set]; exact hk)]
  by_cases h1:i/64=k
  ·rw[if_pos h1,if_pos h1,VD hsr hsl,NO (hw.getD _) rfl (by omega),Sk (hw.getD _) rfl (by omega)]
   by_cases h2:i%64+m<64
   ·rw[show decide (64-m≤i%64)=false by simp; omega]
    unfold bt
    rw[show(a+i)/64=q by omega,show(a+i)%64=i%64+m by omega]
    simp
   ·rw[MU (hw.getD _) (by omega)]
    unfold bt
    rw[show(a+i)/64=q+1 by omega,show(a+i)%64=i%64-(64-m) by omega]
    simp[show i%64<64 by omega,show 64≤i%64+m by omega]
  ·rw[if_neg h1,if_neg h1,M3 hk,if_neg h1]
 ·have h':m=0∨ws.length≤q+1:=by
    rcases Nat.eq_zero_or_pos m with h0 | h0
    ·exact .inl h0
    ·refine .inr ?_
     simp only[Bool.and_eq_false_iff,bne_eq_false_iff_eq,decide_eq_false_iff_not] at h
     omega
  refine Ret.mk ⟨hset,List.length_set,fun i=>?_⟩
  rw[M3 hk]
  by_cases h1:i/64=k
  ·rw[if_pos h1,if_pos h1,NO (hw.getD _) rfl (by omega)]
   by_cases h2:i%64+m<64
   ·unfold bt
    rw[show(a+i)/64=q by omega,show(a+i)%64=i%64+m by omega]
   ·rw[MU (hw.getD _) (by omega),ME (by omega)]
  ·rw[if_neg h1,if_neg h1]
theorem Acd{n a w:Nat}{f:Nat→Bool}(hn:n≤1048576)(h1:1≤w)(h:a+w≤n):Dj (mkB n f) (a:Int) (w:Int)=some ((w:Int),mkW (low (fun i=>f (a+i)) w) (nw w)):=by
 unfold Dj mkB
 refine Ret.eq_ ?_
 rw[Lm (by omega),Option.bind_some]
 show Ret ((Hg (a:Int) (w:Int) ((n:Int),mkW (low f n) (nw n),()) (((List.replicate (nw w) (0:Int)).length:Nat):Int) (w:Int) 0 (List.replicate (nw w) 0)).bind _) _
 rw[List.length_replicate]
 have hwl:1≤nw w:=by unfold nw; omega
 refine Ret.bind (P:=fun r=>Words r∧r.length=nw w∧∀i,i<64*nw w→bt r i=bt (mkW (low f n) (nw n)) (a+i)) ?_ fun r hr=>?_
 ·unfold Hg
  refine B1 (fun k (s:List Int)=>((k:Int),s)) (nw w) (fun k s=>Words s∧s.length=nw w∧∀i,i<64*k→bt s i=bt (mkW (low f n) (nw n)) (a+i)) (fun k s hk hI=>?_) (fun s hI=>?_) (s0:=List.replicate (nw w) 0) ⟨Words.rep,List.length_replicate,fun i hi=>by omega⟩
  ·unfold Dp Ff
   simp only
   rw[dlt hk,cond_true]
   refine Ret.bind (AbB (CK _ _) hI.1 (by rw[hI.2.1]; exact hk) (by unfold nw at hk; omega) (by rw[D9]; unfold nw at *; omega)) fun r h=>Ret.mk ⟨r,?_,h.1,h.2.1.trans hI.2.1,fun i hi=>?_⟩
   ·rw[show wI ((k:Int)+1)=((k+1:Nat):Int) from wrapN (by omega) (by unfold nw at hk; omega)]
   ·rw[h.2.2 i]
    by_cases h3:i/64=k
    ·rw[if_pos h3]
    ·rw[if_neg h3,hI.2.2 i (by omega)]
  ·unfold Dp Ff
   simp only
   rw[dge,cond_false]
   exact Ret.mk hI
 ·unfold GQ
  obtain⟨m,hm⟩:∃m,m=w%64:=⟨_,rfl⟩
  have e2:Int.tmod (w:Int) 64=(m:Int):=by rw[tmod64,hm]
  have e3:wI ((r.length:Int)-1)=((nw w-1:Nat):Int):=by rw[hr.2.1]; exact wrapN (by omega) (by unfold nw; omega)
  simp only[e2,e3,Int.toNat_natCast,zeroI]
  refine Ret.bind (P:=fun x=>x=mkW (low (fun i=>f (a+i)) w) (nw w)) (Ret.cond (fun h=>?_) fun h=>?_) fun x hx=>Ret.mk (by rw[hx])
  ·simp only[bne_iff_ne] at h
   rw[if_pos ⟨by omega,by rw[hr.2.1]; omega⟩,if_neg (by omega),if_pos ⟨by omega,by rw[hr.2.1]; omega⟩]
   have hmk:W64 (IntKind.u64.wrap (shlI .u64 1 (m:Int)-1)):=W6 rfl (by omega)
   refine Ret.mk (Kg (hr.1.set (Vs (hr.1.getD _) hmk)) (CK _ _) (by rw[List.length_set,hr.2.1,D9]) fun i hi=>?_)
   rw[List.length_set,hr.2.1] at hi
   rw[M3 (by rw[hr.2.1]; omega),ES]
   by_cases h3:i/64=nw w-1
   ·rw[if_pos h3,Zb (hr.1.getD _) hmk,Aan rfl (by omega)]
    have:tb (r.getD (nw w-1) 0) (i%64)=bt r i:=by unfold bt; rw[h3]
    rw[this,hr.2.2 i hi,ES]
    unfold nw at h3
    by_cases h4:i<w
    ·simp[h4,show a+i<n by omega,show i%64<m by omega]
    ·simp[h4,show ¬i%64<m by omega]
   ·rw[if_neg h3,hr.2.2 i hi,ES]
    unfold nw at h3 hi
    simp[show i<w by omega,show a+i<n by omega]
  ·have h0:m=0:=by
     have:(m:Int)=0:=by simpa using h
     omega
   refine Ret.mk (Kg hr.1 (CK _ _) (by rw[hr.2.1,D9]) fun i hi=>?_)
   rw[hr.2.1] at hi
   rw[hr.2.2 i hi,ES,ES]
   unfold nw at hi
   simp[show i<w by omega,show a+i<n by omega]
theorem P2{l:List Bool}(h1:1≤l.length)(h2:l.length≤4096):FE (l.map bI)=some ((l.length:Int),true,mkW (low (fun i=>l.getD i false) l.length) (nw l.length)):=by
 unfold FE mkr
 refine Ret.eq_ ?_
 rw[List.length_map]
 have hn:nw l.length≤1048576:=by unfold nw; omega
 rw[show(decide ((l.length:Int)<1)||decide ((l.length:Int)>4096))=false by simp; omega,cond_false,words64 (by omega),if_pos ⟨rfl,by omega,by omega,by omega,by omega⟩,Int.toNat_natCast]
 unfold KP
 refine Ret.bind (B1 (fun k (s:List Int)=>((k:Int),s)) l.length (fun k s=>Words s∧s.length=nw l.length∧∀i,bt s i=(decide (i<k)&&l.getD i false)) (Q:=fun r=>r=mkW (low (fun i=>l.getD i false) l.length) (nw l.length)) (fun k s hk hI=>?_) (fun s hI=>?_) (s0:=List.replicate (nw l.length) 0) ⟨Words.rep,List.length_replicate,fun i=>by rw[Vh]; simp⟩) fun r hr=>Ret.mk (by rw[hr])
 ·unfold EP GZ
  have hq:k/64<s.length:=by rw[hI.2.1]; unfold nw; omega
  have hbit:W64 (bI (l.getD k false)):=by unfold bI; split<;>first | exact L5 | exact Mw
  have hu64:IntKind.u64.wrap (bI (l.getD k false))=bI (l.getD k false):=by cases l.getD k false<;>rfl
  have hget:(l.map bI).getD k 0=bI (l.getD k false):=by simp[List.getD,hk]
  simp only[List.length_map,tdiv64 (show k<4611686018427387904 by omega),tmod64,Int.toNat_natCast,zeroI,hget,hu64,wrapU64 (show(0:Int)≤((k%64:Nat):Int) by omega) (by omega)]
  rw[dlt hk,cond_true,if_pos ⟨by omega,by omega⟩,if_pos (rng hk),if_neg (by omega),if_pos ⟨by omega,by omega⟩]
  have hsl:W64 (shlI .u64 (bI (l.getD k false)) ((k%64:Nat):Int)):=Pq hbit rfl (by omega)
  refine Ret.mk ⟨_,by rw[show wI ((k:Int)+1)=((k+1:Nat):Int) from wrapN (by omega) (by omega)],hI.1.set (Qs (hI.1.getD _) hsl),by rw[List.length_set]; exact hI.2.1,fun i=>?_⟩
  rw[M3 hq]
  have tbb:∀b j,tb (bI b) j=(decide (j=0)&&b):=fun b j=>by cases b<;>simp[bI,Q6,L7]
  by_cases h3:i/64=k/64
  ·rw[if_pos h3,VD (hI.1.getD _) hsl,Sk hbit rfl (by omega),tbb]
   have:tb (s.getD (k/64) 0) (i%64)=bt s i:=by unfold bt; rw[h3]
   rw[this,hI.2.2 i]
   rcases Nat.lt_trichotomy i k with h | h | h
   ·simp[h,show i<k+1 by omega,show ¬k%64≤i%64 by omega]
   ·subst h; simp[show i%64<64 by omega]
   ·simp[show ¬i<k by omega,show ¬i<k+1 by omega]; omega
  ·rw[if_neg h3,hI.2.2 i]
   by_cases h:i<k
   ·simp[h,show i<k+1 by omega]
   ·simp[h,show ¬i<k+1 by omega]
 ·unfold EP GZ
  rw[List.length_map,dge,cond_false]
  refine Ret.mk (Kg hI.1 (CK _ _) (by rw[D9]; exact hI.2.1) fun i hi=>?_)
  rw[hI.2.2 i,ES]
theorem MY{w:Int}{ws:List Int}(h:ws.length≤1048576):Cw (w,ws,())=some (w,ws):=by
 unfold Cw
 rw[if_pos (by show ws.length*8≤_; omega)]
end Go.Proofs.X
namespace Go.Proofs.X
open Go Go.Va
set_option maxRecDepth 100000
def Small(f:List Ad.V):Prop:=f.length≤1048576∧∀s∈f,s.2.2.2.1.2.1.length≤1048576
theorem Az{A:Type}{l:List A}{z:A}{k:Nat}(h:k<l.length):l.getD k z∈l:=by
 rw[show l.getD k z=l[k] by simp[List.getD,h]]; exact List.getElem_mem h
theorem AB{A:Type}{l:List A}{z:A}{k:Nat}(h:k<l.length):l.take (k+1)=l.take k++[l.getD k z]:=by
 rw[List.take_succ_eq_append_getElem h,show l.getD k z=l[k] by simp[List.getD,h]]
theorem stepN{k n:Nat}(hk:k<n)(hn:n≤1048576):wI ((k:Int)+1)=((k+1:Nat):Int):=wrapN (by omega) (by omega)
def fillN{A:Type}(g:Nat→A)(z:A)(n k:Nat):List A:=(List.range n).map fun i=>if i<k then g i else z
theorem fillN_zero{A:Type}(g:Nat→A)(z:A)(n:Nat):fillN g z n 0=List.replicate n z:=by
 refine List.ext_getElem (by simp[fillN]) fun i h1 h2=>by simp[fillN]
theorem fillN_set{A:Type}(g:Nat→A)(z:A){n k:Nat}:(fillN g z n k).set k (g k)=fillN g z n (k+1):=by
 refine List.ext_getElem (by simp[fillN]) fun i h1 h2=>?_
 simp only[fillN,List.getElem_set,List.getElem_map,List.getElem_range]
 by_cases h:k=i
 ·subst h; simp
 ·rw[if_neg h]
  by_cases h3:i<k
  ·rw[if_pos h3,if_pos (by omega)]
  ·rw[if_neg h3,if_neg (by omega)]
theorem fillN_len{A:Type}(g:Nat→A)(z:A)(n k:Nat):(fillN g z n k).length=n:=by simp[fillN]
theorem fillN_full{A:Type}(l:List A)(y z:A):fillN (fun i=>l.getD i y) z l.length l.length=l:=by
 refine List.ext_getElem (by simp[fillN]) fun i h1 h2=>by simp[fillN,List.getD,h2]
theorem QV{f:List Ad.V}(h:Small f):EQ f=some f:=by
 unfold EQ I1
 have h1:=h.1
 rw[if_pos ⟨rfl,by omega,by omega,by omega,by omega⟩,Int.toNat_natCast]
 rw[show fix (Ba f (f.length:Int)) (0,List.replicate f.length (0,0,0,(0,([]:List Int),()),()))=some f from by
  have:=AG (f:=Ba f (f.length:Int)) (fun k=>((k:Int),fillN (fun i=>f.getD i (Ty.zero Ad)) (0,0,0,(0,([]:List Int),()),()) f.length k)) (t:=f) f.length (fun k hk=>by
   unfold Ba Eu
   simp only[dlt hk,cond_true,if_pos (rng hk),Int.toNat_natCast,fillN_len]
   rw[MY (h.2 _ (Az hk)),Option.bind_some,stepN hk h1,←fillN_set]) (by
   unfold Ba Eu
   simp only[dge,cond_false,fillN_full])
  rw[fillN_zero] at this
  exact this]
 rfl
theorem Qe:(1048576:Nat)≤maxLen:=by decide
end Go.Proofs.X
namespace Go.Va
inductive Bt
 | co (b:Bool)
 | va (v a:Nat)
inductive Sg
 | co (b:List Bool)
 | va (v l n:Nat)
def Sg.bits:Sg→List Bt
 | .co b=>b.map .co
 | .va v l n=>(List.range n).map fun k=>.va v (l+k)
def Sg.w:Sg→Nat
 | .co b=>b.length
 | .va _ _ n=>n
def Bt.sg:Bt→Sg
 | .co b=>.co [b]
 | .va v a=>.va v a 1
def Sg.join:Sg→Sg→Option Sg
 | .co a,.co b=>some (.co (a++b))
 | .va v l n,.va v' l' n'=>if v=v'∧l+n=l' then some (.va v l (n+n')) else none
 | _,_=>none
def Sg.meets(a b:Sg):Bool:=(a.join b).isSome
def raise1(f:List Sg)(s:Sg):List Sg :=
 match f.getLast? with
 | none=>[s]
 | some l=>match l.join s with
  | some j=>f.dropLast++[j]
  | none=>f++[s]
def raises(f ss:List Sg):List Sg:=ss.foldl raise1 f
def addB(f:List Sg)(bs:List Bt):List Sg:=bs.foldl (fun f b=>raise1 f b.sg) f
def norm(bs:List Bt):List Sg:=addB [] bs
def bitsL(f:List Sg):List Bt:=f.flatMap Sg.bits
def widL(f:List Sg):Nat:=(f.map Sg.w).sum
theorem JQ(s:Sg):raise1 [] s=[s]:=rfl
theorem CL(g:List Sg)(l s:Sg):raise1 (g++[l]) s=match l.join s with | some j=>g++[j]| none=>g++[l,s]:=by
 unfold raise1
 rw[List.getLast?_append]
 simp only[List.getLast?_singleton,Option.some_or,List.dropLast_concat]
 cases l.join s<;>simp
theorem G0(s:Sg):s.bits.length=s.w:=by cases s<;>simp[Sg.bits,Sg.w]
theorem F9(f:List Sg):(bitsL f).length=widL f:=by
 induction f with
 | nil=>rfl
 | cons s f ih=>simp only[bitsL,widL,List.flatMap_cons,List.length_append,G0,List.map_cons,List.sum_cons] at *; rw[ih]
theorem QD{a b j:Sg}(h:a.join b=some j):j.bits=a.bits++b.bits:=by
 cases a<;>cases b<;>simp only[Sg.join] at h
 ·cases h; simp[Sg.bits]
 ·cases h
 ·cases h
 ·rename_i v l n v' l' n'
  split at h
  ·rename_i hc
   cases h
   obtain⟨rfl,rfl⟩:=hc
   simp only[Sg.bits]
   rw[List.range_add,List.map_append,List.map_map]
   congr 1
   refine List.map_congr_left fun k _=>?_
   simp[Nat.add_assoc]
  ·cases h
theorem NI(f:List Sg)(s:Sg):bitsL (raise1 f s)=bitsL f++s.bits:=by
 rcases List.eq_nil_or_concat f with rfl | ⟨g,l,rfl⟩
 ·simp[JQ,bitsL]
 ·rw[List.concat_eq_append,CL]
  cases h:l.join s with
  | none=>simp[bitsL]
  | some j=>simp[bitsL,QD h]
theorem Uu(f:List Sg)(bs:List Bt):bitsL (addB f bs)=bitsL f++bs:=by
 induction bs generalizing f with
 | nil=>simp[addB]
 | cons b bs ih =>
  rw[show addB f (b::bs)=addB (raise1 f b.sg) bs from rfl,ih,NI]
  cases b<;>simp[Bt.sg,Sg.bits]
theorem J7(bs:List Bt):bitsL (norm bs)=bs:=Uu [] bs
theorem Hv(f:List Sg)(a b:List Bt):addB f (a++b)=addB (addB f a) b:=List.foldl_append
theorem TN(s:Sg)(h:2≤s.w):∃(t:Sg) (b:Bt),1≤t.w∧t.w<s.w∧s.bits=t.bits++[b]∧t.join b.sg=some s∧(∀l j:Sg,l.join t=some j→j.join b.sg=l.join s)∧(∀l:Sg,l.join t=none→l.join s=none):=by
 cases s with
 | co bs =>
  simp only[Sg.w] at h
  rcases List.eq_nil_or_concat bs with rfl | ⟨cs,x,rfl⟩
  ·simp at h
  ·rw[List.concat_eq_append] at h ⊢
   refine⟨.co cs,.co x,?_,?_,?_,rfl,fun l j hj=>?_,fun l hl=>?_⟩
   ·simp[Sg.w] at h ⊢; omega
   ·simp[Sg.w]
   ·simp[Sg.bits]
   ·cases l<;>simp only[Sg.join] at hj
    ·cases hj; simp[Sg.join,Bt.sg]
    ·cases hj
   ·cases l<;>simp[Sg.join] at hl ⊢
 | va v l n =>
  simp only[Sg.w] at h
  obtain⟨m,rfl⟩:∃m,n=m+1:=⟨n-1,by omega⟩
  refine⟨.va v l m,.va v (l+m),by simp[Sg.w]; omega,by simp[Sg.w],?_,by simp[Sg.join,Bt.sg],fun k j hj=>?_,fun k hk=>?_⟩
  ·simp[Sg.bits,List.range_succ]
  ·cases k<;>simp only[Sg.join] at hj
   ·cases hj
   ·split at hj
    ·rename_i hc
     cases hj
     obtain⟨rfl,rfl⟩:=hc
     simp[Sg.join,Bt.sg,Nat.add_assoc]
    ·cases hj
  ·cases k with
   | co b=>rfl
   | va v' l' n' =>
    simp only[Sg.join] at hk ⊢
    split at hk
    ·cases hk
    ·rename_i hc; rw[if_neg hc]
theorem Ma:∀(n:Nat) (s:Sg) (f:List Sg),s.w=n→1≤n→raise1 f s=addB f s.bits:=by
 intro n
 induction n using Nat.strongRecOn with
 | _ n ih =>
  intro s f hn h1
  rcases Nat.lt_or_ge 1 n with h | h
  ·obtain⟨t,b,ht1,ht2,hb,hj,hlj,hln⟩:=TN s (by omega)
   rw[hb,Hv,←ih t.w (by omega) t f rfl ht1]
   show _=raise1 (raise1 f t) b.sg
   rcases List.eq_nil_or_concat f with rfl | ⟨g,l,rfl⟩
   ·rw[JQ,JQ,show[t]=[]++[t] from rfl,CL,hj]; rfl
   ·rw[List.concat_eq_append,CL,CL]
    cases hl:l.join t with
    | none =>
     rw[hln l hl]
     simp only
     rw[show g++[l,t]=(g++[l])++[t] by simp,CL,hj]
     simp
    | some j =>
     simp only
     rw[CL,hlj l j hl]
     cases hls:l.join s with
     | some k=>rfl
     | none =>
      have:=hlj l j hl
      rw[hls] at this
      exfalso
      cases l<;>cases s<;>cases t<;>simp[Sg.join] at hl hls hj
      all_goals first | (cases b<;>simp[Bt.sg,Sg.join] at hj<;>done)| skip
      all_goals (cases b<;>simp[Bt.sg,Sg.join] at hj; try omega)
  ·have:n=1:=by omega
   subst this
   have hs:∃b:Bt,s=b.sg∧s.bits=[b]:=by
    cases s with
    | co bs =>
     simp only[Sg.w] at hn
     obtain⟨x,rfl⟩:=List.length_eq_one_iff.1 hn
     exact⟨.co x,rfl,rfl⟩
    | va v l m =>
     simp only[Sg.w] at hn
     subst hn
     exact⟨.va v l,rfl,by simp[Sg.bits]⟩
   obtain⟨b,hb,hbits⟩:=hs
   rw[hbits,hb]; rfl
def Full(f:List Sg):Prop:=∀s∈f,1≤s.w
theorem ND{f ss:List Sg}(h:Full ss):raises f ss=addB f (bitsL ss):=by
 induction ss generalizing f with
 | nil=>rfl
 | cons s ss ih =>
  rw[show raises f (s::ss)=raises (raise1 f s) ss from rfl,ih fun x hx=>h x (List.mem_cons_of_mem _ hx),Ma _ s f rfl (h s List.mem_cons_self),show bitsL (s::ss)=s.bits++bitsL ss from rfl,Hv]
theorem Ad8{a b j:Sg}(h:a.join b=some j):j.w=a.w+b.w:=by rw[←G0,QD h,List.length_append,G0,G0]
theorem Nx{f:List Sg}{s:Sg}(hf:Full f)(hs:1≤s.w):Full (raise1 f s):=by
 rcases List.eq_nil_or_concat f with rfl | ⟨g,l,rfl⟩
 ·intro x hx; rw[JQ,List.mem_singleton] at hx; rw[hx]; exact hs
 ·rw[List.concat_eq_append] at hf ⊢
  rw[CL]
  have hl:=hf l (by simp)
  cases h:l.join s with
  | none =>
   intro x hx
   simp only[List.mem_append,List.mem_cons,List.not_mem_nil,or_false] at hx
   rcases hx with hx | rfl | rfl
   ·exact hf x (by simp[hx])
   ·exact hl
   ·exact hs
  | some j =>
   intro x hx
   simp only[List.mem_append,List.mem_cons,List.not_mem_nil,or_false] at hx
   rcases hx with hx | rfl
   ·exact hf x (by simp[hx])
   ·rw[Ad8 h]; omega
theorem Aij(b:Bt):b.sg.w=1:=by cases b<;>rfl
theorem Vw{f:List Sg}(hf:Full f)(bs:List Bt):Full (addB f bs):=by
 induction bs generalizing f with
 | nil=>exact hf
 | cons b bs ih=>exact ih (Nx hf (by rw[Aij]; exact Nat.le_refl _))
theorem FD(bs:List Bt):Full (norm bs):=Vw (fun x hx=>by cases hx) bs
theorem Hi(bs:List Bt):widL (norm bs)=bs.length:=by rw[←F9,J7]
theorem RY(a b:List Bt):raises (norm a) (norm b)=norm (a++b):=by
 rw[ND (FD b),J7]; exact(Hv [] a b).symm
theorem F4{f:List Sg}(h:Full f):f.length≤widL f:=by
 induction f with
 | nil=>exact Nat.le_refl _
 | cons s f ih =>
  have:=ih fun x hx=>h x (List.mem_cons_of_mem _ hx)
  have:=h s List.mem_cons_self
  simp only[widL,List.length_cons,List.map_cons,List.sum_cons] at *; omega
end Go.Va
