import Derived.KernelRfl
import Derived.Test.YtlohhmmaibiimaaGreatK9
set_option linter.unusedVariables false
set_option linter.unusedSimpArgs false
namespace Go.Proofs.X
open Go Go.Va
set_option maxRecDepth 100000
noncomputable section
abbrev E72:Env:=⟨tab,lookH [(200,c200)],{deep:=true}⟩
def BM(a:Int):Option (Int×(List Int)) :=
 if Ty.row (.int .u64)=true∧(0:Int)≤(AO a)∧(AO a)≤(AO a)∧((8:Nat):Int)*(AO a)≤(281474976710656:Int)∧(AO a)≤(9223372036854775807:Int) then
 some (a,(List.replicate (AO a).toNat 0))
 else none
theorem U72(R:Type)(a:Int)(K:AV→List Blk→Option R):runF E72 Tryz.f138 R [dI a] [] K=(BM a).bind fun r=>K (.pr (dI r.1) (.pr (.ref 0) .u)) [.row 216 .deep (.int .u64) r.2]:=by
 simp only[BM,bC,bI,bN,bE,bA,bS,bO,bM]
 kernel_rfl
def c138:Va.Callee:=brC [.d (.int .i64)] [⟨[.dat [] (.int .i64)],[],(Int×(List Int)),fun p=>BM p.1.1,fun r=>(.pr (dI r.1) (.pr (.ref 0) .u),[.row 216 .deep (.int .u64) r.2])⟩]
theorem Nj:SoundC Tryz.prog 138 c138:=Ap (fn:=Tryz.f138) (by kernel_rfl) (by kernel_rfl) (by kernel_rfl) ⟨⟨E72,⟨⟨tabok,An ⟨Sx,trivial⟩⟩,mixed⟩,fun p R K=>U72 R p.1.1 K⟩,trivial⟩
abbrev E73:Env:=⟨tab,lookH [],{deep:=true,heads:=[(2,{live:=[1,3,10,11,12]})],outs:=[(2,{live:=[]})],joins:=[(7,{live:=[1,3,7,8,10,11,12,44]}),(8,{live:=[1,3,10,11,12]})],ents:=[(7,[1,3,7,8,10,11,12]),(8,[1,3,10,11,12])]}⟩
def Ahh(a b:Int)(c:List Int)(d:Int)(z_:Int×(List Int)):St:=sT 60 [(1,dI a),(3,.ptr 1 0 [] 0),(10,dD (.sl (.int .u64)) c),(11,dI d),(12,dI z_.1)] [.row 216 .deep (.int .u64) z_.2,.box (.pr (dI b) (.pr (.ref 0) .u))]
def AfG(a b:Int)(c:List Int)(d:Int):(List Int)→Ex×St:=fun e=>((.exit 0),sT 60 [] [.row 216 .deep (.int .u64) e])
def Akl(a:Int)(c:List Int)(d g:Int)(i:List Int)(b:Int):St:=sT 60 [(1,dI a),(3,.ptr 1 0 [] 0),(10,dD (.sl (.int .u64)) c),(11,dI d),(12,dI g)] [.row 216 .deep (.int .u64) i,.box (.pr (dI b) (.pr (.ref 0) .u))]
def Ahz(a:Int)(c:List Int)(d g:Int)(i:List Int)(b:Int):(List Int)→Ex×St:=fun j=>(.normal,sT 60 [(1,dI a),(3,.ptr 1 0 [] 0),(10,dD (.sl (.int .u64)) c),(11,dI d),(12,dI g)] [.row 216 .deep (.int .u64) j,.box (.pr (dI b) (.pr (.ref 0) .u))])
def Z1(a:Int)(c:List Int)(g d:Int)(i:List Int)(b:Int):St:=sT 60 [(1,dI a),(3,.ptr 1 0 [] 0),(7,dD (.int .u64) (c.getD g.toNat (Ty.zero (.int .u64)))),(8,dI (wI (a+(wI (64*g))))),(10,dD (.sl (.int .u64)) c),(11,dI d),(12,dI g)] [.row 216 .deep (.int .u64) (i.set (wI (Int.tdiv (wI (a+(wI (64*g)))) 64)).toNat (orI .u64 (i.getD (wI (Int.tdiv (wI (a+(wI (64*g)))) 64)).toNat (Ty.zero (.int .u64))) (shlI .u64 (c.getD g.toNat (Ty.zero (.int .u64))) (Int.tmod (wI (a+(wI (64*g)))) 64)))),.box (.pr (dI b) (.pr (.ref 0) .u))]
def Zr(a:Int)(c:List Int)(g d:Int)(i:List Int)(b:Int)(m0:Bool):Ex×St:=(.normal,sT 60 [(1,dI a),(3,.ptr 1 0 [] 0),(7,dD (.int .u64) (c.getD g.toNat (Ty.zero (.int .u64)))),(8,dI (wI (a+(wI (64*g))))),(10,dD (.sl (.int .u64)) c),(11,dI d),(12,dI g),(44,dB m0)] [.row 216 .deep (.int .u64) (i.set (wI (Int.tdiv (wI (a+(wI (64*g)))) 64)).toNat (orI .u64 (i.getD (wI (Int.tdiv (wI (a+(wI (64*g)))) 64)).toNat (Ty.zero (.int .u64))) (shlI .u64 (c.getD g.toNat (Ty.zero (.int .u64))) (Int.tmod (wI (a+(wI (64*g)))) 64)))),.box (.pr (dI b) (.pr (.ref 0) .u))])
theorem AjR(a:Int)(c:List Int)(g d:Int)(i:List Int)(b:Int):jnS E73 1 7 (sub (sub (code Tryz.f267) [1,1,0,0]) [1,1,0]) [0,1,1,1,0] (Z1 a c g d i b)=some (Zr a c g d i b (((Int.tmod (wI (a+(wI (64*g)))) 64) !=0)&&(decide ((wI ((wI (Int.tdiv (wI (a+(wI (64*g)))) 64))+1))<((i.set (wI (Int.tdiv (wI (a+(wI (64*g)))) 64)).toNat (orI .u64 (i.getD (wI (Int.tdiv (wI (a+(wI (64*g)))) 64)).toNat (Ty.zero (.int .u64))) (shlI .u64 (c.getD g.toNat (Ty.zero (.int .u64))) (Int.tmod (wI (a+(wI (64*g)))) 64)))).length:Int))))):=by
 have h0:jnS E73 1 7 (sub (sub (code Tryz.f267) [1,1,0,0]) [1,1,0]) [0,1,1,1,0] (Z1 a c g d i b) =
 bif (Int.tmod (wI (a+(wI (64*g)))) 64) !=0 then
 some (Zr a c g d i b (decide ((wI ((wI (Int.tdiv (wI (a+(wI (64*g)))) 64))+1))<((i.set (wI (Int.tdiv (wI (a+(wI (64*g)))) 64)).toNat (orI .u64 (i.getD (wI (Int.tdiv (wI (a+(wI (64*g)))) 64)).toNat (Ty.zero (.int .u64))) (shlI .u64 (c.getD g.toNat (Ty.zero (.int .u64))) (Int.tmod (wI (a+(wI (64*g)))) 64)))).length:Int))))
 else
 some (Zr a c g d i b false):=by kernel_rfl
 rw[h0]
 cases h1:((Int.tmod (wI (a+(wI (64*g)))) 64) !=0)
 ·first | rfl | kernel_rfl
 ·first | rfl | kernel_rfl
def EL(a:Int)(c:List Int)(d g:Int)(i:List Int)(b:Int):Option (List Int) :=
 if(0:Int)≤g∧g<(c.length:Int) then
 if(0:Int)≤(wI (Int.tdiv (wI (a+(wI (64*g)))) 64))∧(wI (Int.tdiv (wI (a+(wI (64*g)))) 64))<(i.length:Int) then
 if(Int.tmod (wI (a+(wI (64*g)))) 64)<(0:Int) then none else
 if(0:Int)≤(wI (Int.tdiv (wI (a+(wI (64*g)))) 64))∧(wI (Int.tdiv (wI (a+(wI (64*g)))) 64))<(i.length:Int) then
 mkr (Z1 a c g d i b) (
 bif ((Int.tmod (wI (a+(wI (64*g)))) 64) !=0)&&(decide ((wI ((wI (Int.tdiv (wI (a+(wI (64*g)))) 64))+1))<((i.set (wI (Int.tdiv (wI (a+(wI (64*g)))) 64)).toNat (orI .u64 (i.getD (wI (Int.tdiv (wI (a+(wI (64*g)))) 64)).toNat (Ty.zero (.int .u64))) (shlI .u64 (c.getD g.toNat (Ty.zero (.int .u64))) (Int.tmod (wI (a+(wI (64*g)))) 64)))).length:Int))) then
 if(0:Int)≤(wI ((wI (Int.tdiv (wI (a+(wI (64*g)))) 64))+1))∧(wI ((wI (Int.tdiv (wI (a+(wI (64*g)))) 64))+1))<((i.set (wI (Int.tdiv (wI (a+(wI (64*g)))) 64)).toNat (orI .u64 (i.getD (wI (Int.tdiv (wI (a+(wI (64*g)))) 64)).toNat (Ty.zero (.int .u64))) (shlI .u64 (c.getD g.toNat (Ty.zero (.int .u64))) (Int.tmod (wI (a+(wI (64*g)))) 64)))).length:Int) then
 if(wI (64-(Int.tmod (wI (a+(wI (64*g)))) 64)))<(0:Int) then none else
 if(0:Int)≤(wI ((wI (Int.tdiv (wI (a+(wI (64*g)))) 64))+1))∧(wI ((wI (Int.tdiv (wI (a+(wI (64*g)))) 64))+1))<((i.set (wI (Int.tdiv (wI (a+(wI (64*g)))) 64)).toNat (orI .u64 (i.getD (wI (Int.tdiv (wI (a+(wI (64*g)))) 64)).toNat (Ty.zero (.int .u64))) (shlI .u64 (c.getD g.toNat (Ty.zero (.int .u64))) (Int.tmod (wI (a+(wI (64*g)))) 64)))).length:Int) then
 some ((i.set (wI (Int.tdiv (wI (a+(wI (64*g)))) 64)).toNat (orI .u64 (i.getD (wI (Int.tdiv (wI (a+(wI (64*g)))) 64)).toNat (Ty.zero (.int .u64))) (shlI .u64 (c.getD g.toNat (Ty.zero (.int .u64))) (Int.tmod (wI (a+(wI (64*g)))) 64)))).set (wI ((wI (Int.tdiv (wI (a+(wI (64*g)))) 64))+1)).toNat (orI .u64 ((i.set (wI (Int.tdiv (wI (a+(wI (64*g)))) 64)).toNat (orI .u64 (i.getD (wI (Int.tdiv (wI (a+(wI (64*g)))) 64)).toNat (Ty.zero (.int .u64))) (shlI .u64 (c.getD g.toNat (Ty.zero (.int .u64))) (Int.tmod (wI (a+(wI (64*g)))) 64)))).getD (wI ((wI (Int.tdiv (wI (a+(wI (64*g)))) 64))+1)).toNat (Ty.zero (.int .u64))) (shrI .u64 (c.getD g.toNat (Ty.zero (.int .u64))) (wI (64-(Int.tmod (wI (a+(wI (64*g)))) 64))))))
 else none
 else none
 else
 some (i.set (wI (Int.tdiv (wI (a+(wI (64*g)))) 64)).toNat (orI .u64 (i.getD (wI (Int.tdiv (wI (a+(wI (64*g)))) 64)).toNat (Ty.zero (.int .u64))) (shlI .u64 (c.getD g.toNat (Ty.zero (.int .u64))) (Int.tmod (wI (a+(wI (64*g)))) 64)))))
 else none
 else none
 else none
theorem AkH(a:Int)(c:List Int)(d g:Int)(i:List Int)(b:Int):JnOk E73 1 8 (sub (code Tryz.f267) [1,1,0,0]) [1,1,0] (Akl a c d g i b) (EL a c d g i b) (Ahz a c d g i b):=by
 unfold JnOk
 simp only[EL,mC,mI,mN,mB,mE,mM]
 simp(disch:=refine sI ?_<;>(repeat' refine sA ?_ ?_)<;>intro _<;>kernel_rfl) only[Hs (AjR _ _ _ _ _ _) (K:=joinK 1 (E73.jn 8))]
 kernel_rfl
def Fw(a b:Int)(c:List Int)(d g:Int)(i:List Int):Option ((Int×(List Int))⊕(List Int)) :=
 bif decide (g<d) then
 (EL a c d g i b).bind fun j =>
 some (.inl ((wI (g+1)),j))
 else
 some (.inr i)
def Do(a b:Int)(c:List Int)(d:Int)(z_:Int×(List Int)):=Fw a b c d z_.1 z_.2
def Jr(a b:Int)(c:List Int)(d g:Int)(i:List Int):=fix (Do a b c d) (g,i)
theorem AfP(a b:Int)(c:List Int)(d:Int):LpOk E73 1 2 (code Tryz.f267) [1,1,0] (Ahh a b c d) (Do a b c d) (AfG a b c d):=by
 intro _
 simp only[Do,Fw,mC,mI,mN,mB,mE,mM]
 simp(disch:=refine sI ?_<;>(repeat' refine sA ?_ ?_)<;>intro _<;>kernel_rfl) only[Bn (AkH _ _ _ _ _ _) (K:=stepK 1 (E73.hd 2) (E73.ot 2))]
 kernel_rfl
def Ez(b a:Int)(k:Ah.V)(l:List Int):Option (List Int) :=
 (Jr a b k.2.1 (k.2.1.length:Int) 0 l).bind fun e =>
 some e
theorem U73(R:Type)(b a:Int)(k:Ah.V)(l:List Int)(K:AV→List Blk→Option R):runF E73 Tryz.f267 R [.pr (dI b) (.pr (.ref 0) .u),dI a,dD Ah k] [.row 216 .deep (.int .u64) l] K=(Ez b a k l).bind fun r=>K .nil [.row 216 .deep (.int .u64) r]:=by
 simp only[Ez,bC,bI,bN,bE,bA,bS,bO,bM]
 simp(disch:=refine sI ?_<;>(repeat' refine sA ?_ ?_)<;>intro _<;>kernel_rfl) only[Jr,Au (AfP _ _ _ _) (K:=finK E73 Tryz.f267 1 R K)]
 kernel_rfl
def c267:Va.Callee:=brC [.raw,.d (.int .i64),.d Ah] [⟨[.pr (.dat [] (.int .i64)) (.pr (.k (.ref 0)) (.k .u)),.dat [] (.int .i64),.dat [] Ah],[.row 216 .deep (.int .u64)],(List Int),fun p=>Ez p.1.1.1 p.1.2.1 p.1.2.2.1 p.2.1,fun r=>(.nil,[.row 216 .deep (.int .u64) r])⟩]
theorem WW:SoundC Tryz.prog 267 c267:=Ap (fn:=Tryz.f267) (by kernel_rfl) (by kernel_rfl) (by kernel_rfl) ⟨⟨E73,⟨⟨tabok,An trivial⟩,mixed⟩,fun p R K=>U73 R p.1.1.1 p.1.2.1 p.1.2.2.1 p.2.1 K⟩,trivial⟩
abbrev E74:Env:=⟨tab,lookH [(138,c138),(267,c267)],{deep:=true}⟩
def Cx(a b:Ah.V):Option (Int×(List Int)) :=
 (BM (wI (a.1+b.1))).bind fun c =>
 (Ez c.1 0 b c.2).bind fun d =>
 (Ez c.1 b.1 a d).bind fun e =>
 some (c.1,e)
theorem U74(R:Type)(a b:Ah.V)(K:AV→List Blk→Option R):runF E74 Tryz.f257 R [dD Ah a,dD Ah b] [] K=(Cx a b).bind fun r=>K (.pr (dI r.1) (.pr (.ref 0) .u)) [.row 216 .deep (.int .u64) r.2]:=by
 simp only[Cx,bC,bI,bN,bE,bA,bS,bO,bM]
 kernel_rfl
def c257:Va.Callee:=brC [.d Ah,.d Ah] [⟨[.dat [] Ah,.dat [] Ah],[],(Int×(List Int)),fun p=>Cx p.1.1 p.1.2.1,fun r=>(.pr (dI r.1) (.pr (.ref 0) .u),[.row 216 .deep (.int .u64) r.2])⟩]
theorem YD:SoundC Tryz.prog 257 c257:=Ap (fn:=Tryz.f257) (by kernel_rfl) (by kernel_rfl) (by kernel_rfl) ⟨⟨E74,⟨⟨tabok,An ⟨Nj,WW,trivial⟩⟩,mixed⟩,fun p R K=>U74 R p.1.1 p.1.2.1 K⟩,trivial⟩
abbrev E75:Env:=⟨tab,lookH [(256,c256),(257,c257)],{heads:=[(2,{live:=[0,8,9,10],mv:=[0]})],outs:=[(2,{live:=[0]})],joins:=[(6,{live:=[0,6,7,8,9,10,27]}),(9,{live:=[0,6,7,8,9,10]}),(10,{live:=[0,8,9,10],mv:=[0]})],ents:=[(6,[0,6,7,8,9,10]),(9,[0,6,7,8,9,10]),(10,[0,8,9,10])]}⟩
def AjB(a:List Ad.V)(b:Int)(z_:Int×(List Ad.V)):St:=sT 59 [(0,.ref 1),(8,dD (.sl Ad) a),(9,dI b),(10,dI z_.1)] [.dead,.row 238 (.sh []) Ad z_.2]
def AeM(a:List Ad.V)(b:Int):(List Ad.V)→Ex×St:=fun c=>((.exit 0),sT 59 [(0,.ref 1)] [.dead,.row 238 (.sh []) Ad c])
def Aio(a:List Ad.V)(b d:Int)(e:List Ad.V):St:=sT 59 [(0,.ref 1),(8,dD (.sl Ad) a),(9,dI b),(10,dI d)] [.dead,.row 238 (.sh []) Ad e]
def AfK(a:List Ad.V)(b d:Int)(e:List Ad.V):(List Ad.V)→Ex×St:=fun g=>(.normal,sT 59 [(0,.ref 1),(8,dD (.sl Ad) a),(9,dI b),(10,dI d)] [.dead,.row 238 (.sh []) Ad g])
def AjT(a:List Ad.V)(b d:Int)(e:List Ad.V)(i:Int)(j:Ad.V):St:=sT 59 [(0,.ref 1),(6,.ptr 2 0 [] 0),(7,dI i),(8,dD (.sl Ad) a),(9,dI b),(10,dI d)] [.dead,.row 238 (.sh []) Ad e,.box (dD Ad j)]
def Ag2(a:List Ad.V)(b d:Int)(e:List Ad.V)(i:Int)(j:Ad.V):(List Ad.V)→Ex×St:=fun k=>(.normal,sT 59 [(0,.ref 1),(6,.ptr 2 0 [] 0),(7,dI i),(8,dD (.sl Ad) a),(9,dI b),(10,dI d)] [.dead,.row 238 (.sh []) Ad k,.box (dD Ad j)])
def Ie(a:List Ad.V)(b d:Int)(e:List Ad.V)(i:Int)(j:Ad.V):Option (List Ad.V) :=
 bif j.1==(-1) then
 if(0:Int)≤i∧i<(e.length:Int) then
 (Cx j.2.2.2.1 (e.getD i.toNat (Ty.zero Ad)).2.2.2.1).bind fun l =>
 if(0:Int)≤i∧i<(e.length:Int) then
 some (e.set i.toNat ((e.getD i.toNat (Ty.zero Ad)).1,(e.getD i.toNat (Ty.zero Ad)).2.1,(e.getD i.toNat (Ty.zero Ad)).2.2.1,(l.1,l.2,()),(e.getD i.toNat (Ty.zero Ad)).2.2.2.2))
 else none
 else none
 else
 some e
theorem Af1(a:List Ad.V)(b d:Int)(e:List Ad.V)(i:Int)(j:Ad.V):JnOk E75 1 9 (sub (sub (code Tryz.f230) [1,0,1,0,0]) [1,1,0]) [0,1,1,1,0] (AjT a b d e i j) (Ie a b d e i j) (Ag2 a b d e i j):=by
 unfold JnOk
 simp only[Ie,mC,mI,mN,mB,mE,mM]
 kernel_rfl
def AgM(a:List Ad.V)(b d:Int)(e:List Ad.V)(n:Int)(o:Ad.V):St:=sT 59 [(0,.ref 1),(6,.ptr 2 0 [] 0),(7,dI n),(8,dD (.sl Ad) a),(9,dI b),(10,dI d)] [.dead,.row 238 (.sh []) Ad e,.box (dD Ad o)]
def Ah9(a:List Ad.V)(b d:Int)(e:List Ad.V)(n:Int)(o:Ad.V):Bool→Ex×St:=fun q=>(.normal,sT 59 [(0,.ref 1),(6,.ptr 2 0 [] 0),(7,dI n),(8,dD (.sl Ad) a),(9,dI b),(10,dI d),(27,dB q)] [.dead,.row 238 (.sh []) Ad e,.box (dD Ad o)])
def Ij(a:List Ad.V)(b d:Int)(e:List Ad.V)(n:Int)(o:Ad.V):Option Bool :=
 bif decide (n<0) then
 some true
 else
 if(0:Int)≤n∧n<(e.length:Int) then
 some (!(BO (e.getD n.toNat (Ty.zero Ad)) o))
 else none
theorem Ajv(a:List Ad.V)(b d:Int)(e:List Ad.V)(n:Int)(o:Ad.V):JnOk E75 1 6 (sub (sub (code Tryz.f230) [1,0,1,0,0]) [1,1,0]) [0,1,1,0,0] (AgM a b d e n o) (Ij a b d e n o) (Ah9 a b d e n o):=by
 unfold JnOk
 simp only[Ij,mC,mI,mN,mB,mE,mM]
 kernel_rfl
def ID(a:List Ad.V)(b d:Int)(e:List Ad.V):Option (List Ad.V) :=
 if(0:Int)≤d∧d<(a.length:Int) then
 (Ij a b d e (wI ((e.length:Int)-1)) (a.getD d.toNat (Ty.zero Ad))).bind fun q =>
 bif q then
 if(e.length+([(a.getD d.toNat (Ty.zero Ad))]:List Ad.V).length)*56≤140737488355328 then
 some (e++([(a.getD d.toNat (Ty.zero Ad))]:List Ad.V))
 else none
 else
 (Ie a b d e (wI ((e.length:Int)-1)) (a.getD d.toNat (Ty.zero Ad))).bind fun k =>
 if(0:Int)≤(wI ((e.length:Int)-1))∧(wI ((e.length:Int)-1))<(k.length:Int) then
 if(0:Int)≤(wI ((e.length:Int)-1))∧(wI ((e.length:Int)-1))<(k.length:Int) then
 some (k.set (wI ((e.length:Int)-1)).toNat ((k.getD (wI ((e.length:Int)-1)).toNat (Ty.zero Ad)).1,(k.getD (wI ((e.length:Int)-1)).toNat (Ty.zero Ad)).2.1,(wI ((k.getD (wI ((e.length:Int)-1)).toNat (Ty.zero Ad)).2.2.1+(a.getD d.toNat (Ty.zero Ad)).2.2.1)),(k.getD (wI ((e.length:Int)-1)).toNat (Ty.zero Ad)).2.2.2))
 else none
 else none
 else none
theorem Afv(a:List Ad.V)(b d:Int)(e:List Ad.V):JnOk E75 1 10 (sub (code Tryz.f230) [1,0,1,0,0]) [1,1,0] (Aio a b d e) (ID a b d e) (AfK a b d e):=by
 unfold JnOk
 simp only[ID,mC,mI,mN,mB,mE,mM]
 simp(disch:=refine sI ?_<;>(repeat' refine sA ?_ ?_)<;>intro _<;>kernel_rfl) only[Bn (Ajv _ _ _ _ _ _) (K:=joinK 1 (E75.jn 10)),Bn (Af1 _ _ _ _ _ _) (K:=joinK 1 (E75.jn 10))]
 kernel_rfl
def HY(a:List Ad.V)(b d:Int)(e:List Ad.V):Option ((Int×(List Ad.V))⊕(List Ad.V)) :=
 bif decide (d<b) then
 (ID a b d e).bind fun g =>
 some (.inl ((wI (d+1)),g))
 else
 some (.inr e)
def CM(a:List Ad.V)(b:Int)(z_:Int×(List Ad.V)):=HY a b z_.1 z_.2
def Le(a:List Ad.V)(b d:Int)(e:List Ad.V):=fix (CM a b) (d,e)
theorem Aku(a:List Ad.V)(b:Int):LpOk E75 1 2 (code Tryz.f230) [1,0,1,0] (AjB a b) (CM a b) (AeM a b):=by
 intro _
 simp only[CM,HY,mC,mI,mN,mB,mE,mM]
 simp(disch:=refine sI ?_<;>(repeat' refine sA ?_ ?_)<;>intro _<;>kernel_rfl) only[Bn (Afv _ _ _ _) (K:=stepK 1 (E75.hd 2) (E75.ot 2))]
 kernel_rfl
def BX(a s:List Ad.V):Option (List Ad.V) :=
 (Le a (a.length:Int) 0 s).bind fun c =>
 some c
theorem U75(R:Type)(a s:List Ad.V)(K:AV→List Blk→Option R):runF E75 Tryz.f230 R [.ref 0,dD (.sl Ad) a] [.row 238 (.sh []) Ad s] K=(BX a s).bind fun r=>K (.ref 1) [.dead,.row 238 (.sh []) Ad r]:=by
 simp only[BX,bC,bI,bN,bE,bA,bS,bO,bM]
 simp(disch:=refine sI ?_<;>(repeat' refine sA ?_ ?_)<;>intro _<;>kernel_rfl) only[Le,Au (Aku _ _) (K:=finK E75 Tryz.f230 1 R K)]
 kernel_rfl
def c230:Va.Callee:=brC [.raw,.d (.sl Ad)] [⟨[.k (.ref 0),.dat [] (.sl Ad)],[.row 238 (.sh []) Ad],(List Ad.V),fun p=>BX p.1.2.1 p.2.1,fun r=>(.ref 1,[.dead,.row 238 (.sh []) Ad r])⟩]
theorem SV:SoundC Tryz.prog 230 c230:=Ap (fn:=Tryz.f230) (by kernel_rfl) (by kernel_rfl) (by kernel_rfl) ⟨⟨E75,⟨⟨tabok,An ⟨Wy,YD,trivial⟩⟩,mixed⟩,fun p R K=>U75 R p.1.2.1 p.2.1 K⟩,trivial⟩
abbrev E76:Env:=⟨tab,lookH [],{deep:=true,heads:=[(3,{live:=[3,6,7,8]})],outs:=[(3,{live:=[3]})]}⟩
def AhK(a:List Ad.V)(b:Int)(z_:Int×Int):St:=sT 18 [(3,dI z_.1),(6,dD (.sl Ad) a),(7,dI b),(8,dI z_.2)] []
def Ajf(a:List Ad.V)(b:Int):Int→Ex×St:=fun c=>((.exit 0),sT 18 [(3,dI c)] [])
def EF(a:List Ad.V)(b d e:Int):Option ((Int×Int)⊕Int) :=
 bif decide (e<b) then
 if(0:Int)≤e∧e<(a.length:Int) then
 some (.inl ((wI (d+(a.getD e.toNat (Ty.zero Ad)).2.2.1)),(wI (e+1))))
 else none
 else
 some (.inr d)
def Bb(a:List Ad.V)(b:Int)(z_:Int×Int):=EF a b z_.1 z_.2
def IJ(a:List Ad.V)(b d e:Int):=fix (Bb a b) (d,e)
theorem Afc(a:List Ad.V)(b:Int):LpOk E76 0 3 (code Tryz.f159) [1,1,0,1,0] (AhK a b) (Bb a b) (Ajf a b):=by
 intro _
 simp only[Bb,EF,mC,mI,mN,mB,mE,mM]
 kernel_rfl
def DD(a:List Ad.V):Option Int :=
 (IJ a (a.length:Int) 0 0).bind fun c =>
 some c
theorem U76(R:Type)(a:List Ad.V)(K:AV→List Blk→Option R):runF E76 Tryz.f159 R [dD (.sl Ad) a] [] K=(DD a).bind fun r=>K (dI r) []:=by
 simp only[DD,bC,bI,bN,bE,bA,bS,bO,bM]
 simp(disch:=refine sI ?_<;>(repeat' refine sA ?_ ?_)<;>intro _<;>kernel_rfl) only[IJ,Au (Afc _ _) (K:=finK E76 Tryz.f159 0 R K)]
 kernel_rfl
def c159:Va.Callee:=brC [.d (.sl Ad)] [⟨[.dat [] (.sl Ad)],[],Int,fun p=>DD p.1.1,fun r=>(dI r,[])⟩]
theorem XI:SoundC Tryz.prog 159 c159:=Ap (fn:=Tryz.f159) (by kernel_rfl) (by kernel_rfl) (by kernel_rfl) ⟨⟨E76,⟨⟨tabok,An trivial⟩,mixed⟩,fun p R K=>U76 R p.1.1 K⟩,trivial⟩
abbrev E77:Env:=⟨tab,lookH [(138,c138)],{deep:=true,heads:=[(3,{live:=[1,2,3,6,7,15,16]})],outs:=[(3,{live:=[2,6,7]})],joins:=[(8,{live:=[1,2,3,6,7,8,9,15,16,47]}),(9,{live:=[1,2,3,6,7,15,16]}),(13,{live:=[6,7]})],ents:=[(8,[1,2,3,6,7,8,9,15,16]),(9,[1,2,3,6,7,15,16]),(13,[2,6,7])]}⟩
def Af6(a:Int)(b:List Int)(c:Int):St:=sT 85 [(2,dI a),(6,.ptr 0 0 [] 0),(7,.ptr 1 0 [] 0)] [.box (.pr (dI 0) (.pr .zs .u)),.box (.pr (dI c) (.pr (.ref 2) .u)),.row 216 .deep (.int .u64) b]
def Ag9(a:Int)(b:List Int)(c:Int):(List Int)→Ex×St:=fun d=>(.normal,sT 85 [(6,.ptr 0 0 [] 0),(7,.ptr 1 0 [] 0)] [.box (.pr (dI 0) (.pr .zs .u)),.box (.pr (dI c) (.pr (.ref 2) .u)),.row 216 .deep (.int .u64) d])
def GQ(a:Int)(b:List Int)(c:Int):Option (List Int) :=
 bif (Int.tmod a 64) !=0 then
 if(0:Int)≤(wI ((b.length:Int)-1))∧(wI ((b.length:Int)-1))<(b.length:Int) then
 if(Int.tmod a 64)<(0:Int) then none else
 if(0:Int)≤(wI ((b.length:Int)-1))∧(wI ((b.length:Int)-1))<(b.length:Int) then
 some (b.set (wI ((b.length:Int)-1)).toNat (andI .u64 (b.getD (wI ((b.length:Int)-1)).toNat (Ty.zero (.int .u64))) (IntKind.u64.wrap ((shlI .u64 1 (Int.tmod a 64))-1))))
 else none
 else none
 else
 some b
theorem Akm(a:Int)(b:List Int)(c:Int):JnOk E77 0 13 (code Tryz.f211) [1,1,1,0] (Af6 a b c) (GQ a b c) (Ag9 a b c):=by
 unfold JnOk
 simp only[GQ,mC,mI,mN,mB,mE,mM]
 kernel_rfl
def AiN(e a:Int)(g:Ah.V)(i j:Int)(z_:Int×(List Int)):St:=sT 85 [(1,dI e),(2,dI a),(3,.ptr 0 0 [] 0),(6,.ptr 1 0 [] 0),(7,.ptr 2 0 [] 0),(15,dI i),(16,dI z_.1)] [.box (dD Ah g),.box (.pr (dI 0) (.pr .zs .u)),.box (.pr (dI j) (.pr (.ref 3) .u)),.row 216 .deep (.int .u64) z_.2]
def Afq(e a:Int)(g:Ah.V)(i j:Int):(List Int)→Ex×St:=fun b=>((.exit 0),sT 85 [(2,dI a),(6,.ptr 0 0 [] 0),(7,.ptr 1 0 [] 0)] [.box (.pr (dI 0) (.pr .zs .u)),.box (.pr (dI j) (.pr (.ref 2) .u)),.row 216 .deep (.int .u64) b])
def AfM(e a i k:Int)(g:Ah.V)(j:Int)(l:List Int):St:=sT 85 [(1,dI e),(2,dI a),(3,.ptr 0 0 [] 0),(6,.ptr 1 0 [] 0),(7,.ptr 2 0 [] 0),(15,dI i),(16,dI k)] [.box (dD Ah g),.box (.pr (dI 0) (.pr .zs .u)),.box (.pr (dI j) (.pr (.ref 3) .u)),.row 216 .deep (.int .u64) l]
def Akq(e a i k:Int)(g:Ah.V)(j:Int)(l:List Int):(List Int)→Ex×St:=fun n=>(.normal,sT 85 [(1,dI e),(2,dI a),(3,.ptr 0 0 [] 0),(6,.ptr 1 0 [] 0),(7,.ptr 2 0 [] 0),(15,dI i),(16,dI k)] [.box (dD Ah g),.box (.pr (dI 0) (.pr .zs .u)),.box (.pr (dI j) (.pr (.ref 3) .u)),.row 216 .deep (.int .u64) n])
def ZA(e a k i:Int)(g:Ah.V)(j:Int)(l:List Int):St:=sT 85 [(1,dI e),(2,dI a),(3,.ptr 0 0 [] 0),(6,.ptr 1 0 [] 0),(7,.ptr 2 0 [] 0),(8,dI k),(9,dI (wI (e+(wI (64*k))))),(15,dI i),(16,dI k)] [.box (dD Ah g),.box (.pr (dI 0) (.pr .zs .u)),.box (.pr (dI j) (.pr (.ref 3) .u)),.row 216 .deep (.int .u64) (l.set k.toNat (shrI .u64 (g.2.1.getD (wI (Int.tdiv (wI (e+(wI (64*k)))) 64)).toNat (Ty.zero (.int .u64))) (Int.tmod (wI (e+(wI (64*k)))) 64)))]
def Zq(e a k i:Int)(g:Ah.V)(j:Int)(l:List Int)(m0:Bool):Ex×St:=(.normal,sT 85 [(1,dI e),(2,dI a),(3,.ptr 0 0 [] 0),(6,.ptr 1 0 [] 0),(7,.ptr 2 0 [] 0),(8,dI k),(9,dI (wI (e+(wI (64*k))))),(15,dI i),(16,dI k),(47,dB m0)] [.box (dD Ah g),.box (.pr (dI 0) (.pr .zs .u)),.box (.pr (dI j) (.pr (.ref 3) .u)),.row 216 .deep (.int .u64) (l.set k.toNat (shrI .u64 (g.2.1.getD (wI (Int.tdiv (wI (e+(wI (64*k)))) 64)).toNat (Ty.zero (.int .u64))) (Int.tmod (wI (e+(wI (64*k)))) 64)))])
theorem AfY(e a k i:Int)(g:Ah.V)(j:Int)(l:List Int):jnS E77 0 8 (sub (sub (code Tryz.f211) [1,1,0,1,0,0]) [1,1,0]) [0,1,1,1,0] (ZA e a k i g j l)=some (Zq e a k i g j l (((Int.tmod (wI (e+(wI (64*k)))) 64) !=0)&&(decide ((wI ((wI (Int.tdiv (wI (e+(wI (64*k)))) 64))+1))<(g.2.1.length:Int))))):=by
 have h0:jnS E77 0 8 (sub (sub (code Tryz.f211) [1,1,0,1,0,0]) [1,1,0]) [0,1,1,1,0] (ZA e a k i g j l) =
 bif (Int.tmod (wI (e+(wI (64*k)))) 64) !=0 then
 some (Zq e a k i g j l (decide ((wI ((wI (Int.tdiv (wI (e+(wI (64*k)))) 64))+1))<(g.2.1.length:Int))))
 else
 some (Zq e a k i g j l false):=by kernel_rfl
 rw[h0]
 cases h1:((Int.tmod (wI (e+(wI (64*k)))) 64) !=0)
 ·first | rfl | kernel_rfl
 ·first | rfl | kernel_rfl
def EO(e a i k:Int)(g:Ah.V)(j:Int)(l:List Int):Option (List Int) :=
 if(0:Int)≤(wI (Int.tdiv (wI (e+(wI (64*k)))) 64))∧(wI (Int.tdiv (wI (e+(wI (64*k)))) 64))<(g.2.1.length:Int) then
 if(Int.tmod (wI (e+(wI (64*k)))) 64)<(0:Int) then none else
 if(0:Int)≤k∧k<(l.length:Int) then
 mkr (ZA e a k i g j l) (
 bif ((Int.tmod (wI (e+(wI (64*k)))) 64) !=0)&&(decide ((wI ((wI (Int.tdiv (wI (e+(wI (64*k)))) 64))+1))<(g.2.1.length:Int))) then
 if(0:Int)≤k∧k<((l.set k.toNat (shrI .u64 (g.2.1.getD (wI (Int.tdiv (wI (e+(wI (64*k)))) 64)).toNat (Ty.zero (.int .u64))) (Int.tmod (wI (e+(wI (64*k)))) 64))).length:Int) then
 if(0:Int)≤(wI ((wI (Int.tdiv (wI (e+(wI (64*k)))) 64))+1))∧(wI ((wI (Int.tdiv (wI (e+(wI (64*k)))) 64))+1))<(g.2.1.length:Int) then
 if(wI (64-(Int.tmod (wI (e+(wI (64*k)))) 64)))<(0:Int) then none else
 if(0:Int)≤k∧k<((l.set k.toNat (shrI .u64 (g.2.1.getD (wI (Int.tdiv (wI (e+(wI (64*k)))) 64)).toNat (Ty.zero (.int .u64))) (Int.tmod (wI (e+(wI (64*k)))) 64))).length:Int) then
 some ((l.set k.toNat (shrI .u64 (g.2.1.getD (wI (Int.tdiv (wI (e+(wI (64*k)))) 64)).toNat (Ty.zero (.int .u64))) (Int.tmod (wI (e+(wI (64*k)))) 64))).set k.toNat (orI .u64 ((l.set k.toNat (shrI .u64 (g.2.1.getD (wI (Int.tdiv (wI (e+(wI (64*k)))) 64)).toNat (Ty.zero (.int .u64))) (Int.tmod (wI (e+(wI (64*k)))) 64))).getD k.toNat (Ty.zero (.int .u64))) (shlI .u64 (g.2.1.getD (wI ((wI (Int.tdiv (wI (e+(wI (64*k)))) 64))+1)).toNat (Ty.zero (.int .u64))) (wI (64-(Int.tmod (wI (e+(wI (64*k)))) 64))))))
 else none
 else none
 else none
 else
 some (l.set k.toNat (shrI .u64 (g.2.1.getD (wI (Int.tdiv (wI (e+(wI (64*k)))) 64)).toNat (Ty.zero (.int .u64))) (Int.tmod (wI (e+(wI (64*k)))) 64))))
 else none
 else none
theorem Ahj(e a i k:Int)(g:Ah.V)(j:Int)(l:List Int):JnOk E77 0 9 (sub (code Tryz.f211) [1,1,0,1,0,0]) [1,1,0] (AfM e a i k g j l) (EO e a i k g j l) (Akq e a i k g j l):=by
 unfold JnOk
 simp only[EO,mC,mI,mN,mB,mE,mM]
 simp(disch:=refine sI ?_<;>(repeat' refine sA ?_ ?_)<;>intro _<;>kernel_rfl) only[Hs (AfY _ _ _ _ _ _ _) (K:=joinK 0 (E77.jn 9))]
 kernel_rfl
def Ff(e a:Int)(g:Ah.V)(i j k:Int)(l:List Int):Option ((Int×(List Int))⊕(List Int)) :=
 bif decide (k<i) then
 (EO e a i k g j l).bind fun n =>
 some (.inl ((wI (k+1)),n))
 else
 some (.inr l)
def Dp(e a:Int)(g:Ah.V)(i j:Int)(z_:Int×(List Int)):=Ff e a g i j z_.1 z_.2
def Hg(e a:Int)(g:Ah.V)(i j k:Int)(l:List Int):=fix (Dp e a g i j) (k,l)
theorem AgE(e a:Int)(g:Ah.V)(i j:Int):LpOk E77 0 3 (code Tryz.f211) [1,1,0,1,0] (AiN e a g i j) (Dp e a g i j) (Afq e a g i j):=by
 intro _
 simp only[Dp,Ff,mC,mI,mN,mB,mE,mM]
 simp(disch:=refine sI ?_<;>(repeat' refine sA ?_ ?_)<;>intro _<;>kernel_rfl) only[Bn (Ahj _ _ _ _ _ _ _) (K:=stepK 0 (E77.hd 3) (E77.ot 3))]
 kernel_rfl
def Dj(g:Ah.V)(e a:Int):Option (Int×(List Int)) :=
 (BM a).bind fun o =>
 (Hg e a g (o.2.length:Int) o.1 0 o.2).bind fun b =>
 (GQ a b o.1).bind fun d =>
 some (o.1,d)
theorem U77(R:Type)(g:Ah.V)(e a:Int)(K:AV→List Blk→Option R):runF E77 Tryz.f211 R [dD Ah g,dI e,dI a] [] K=(Dj g e a).bind fun r=>K (.pr (dI r.1) (.pr (.ref 0) .u)) [.row 216 .deep (.int .u64) r.2]:=by
 simp only[Dj,bC,bI,bN,bE,bA,bS,bO,bM]
 simp(disch:=refine sI ?_<;>(repeat' refine sA ?_ ?_)<;>intro _<;>kernel_rfl) only[Hg,Au (AgE _ _ _ _ _) (K:=finK E77 Tryz.f211 0 R K),Bn (Akm _ _ _) (K:=finK E77 Tryz.f211 0 R K)]
 kernel_rfl
def c211:Va.Callee:=brC [.d Ah,.d (.int .i64),.d (.int .i64)] [⟨[.dat [] Ah,.dat [] (.int .i64),.dat [] (.int .i64)],[],(Int×(List Int)),fun p=>Dj p.1.1 p.1.2.1 p.1.2.2.1,fun r=>(.pr (dI r.1) (.pr (.ref 0) .u),[.row 216 .deep (.int .u64) r.2])⟩]
theorem X1:SoundC Tryz.prog 211 c211:=Ap (fn:=Tryz.f211) (by kernel_rfl) (by kernel_rfl) (by kernel_rfl) ⟨⟨E77,⟨⟨tabok,An ⟨Nj,trivial⟩⟩,mixed⟩,fun p R K=>U77 R p.1.1 p.1.2.1 p.1.2.2.1 K⟩,trivial⟩
abbrev E78:Env:=⟨tab,lookH [(211,c211),(229,c229)],{deep:=true,res:=[(0,.row [3,1] 216 (.int .u64) true)]}⟩
def Gs(a:Ad.V)(b c:Int):Option (Int×Int×Int×Int×(List Int)) :=
 bif a.1==(-1) then
 (Dj a.2.2.2.1 b c).bind fun d =>
 some ((Am d.1 d.2).1,(Am d.1 d.2).2.1,(Am d.1 d.2).2.2.1,(Am d.1 d.2).2.2.2.1,(Am d.1 d.2).2.2.2.2)
 else
 some (a.1,(wI (a.2.1+b)),c,0,([]:List Int))
theorem U78(R:Type)(a:Ad.V)(b c:Int)(K:AV→List Blk→Option R):runF E78 Tryz.f258 R [dD Ad a,dI b,dI c] [] K=(Gs a b c).bind fun r=>K (.pr (dI r.1) (.pr (dI r.2.1) (.pr (dI r.2.2.1) (.pr (.pr (dI r.2.2.2.1) (.pr (.ref 0) .u)) .u)))) [.row 216 .deep (.int .u64) r.2.2.2.2]:=by
 simp only[Gs,bC,bI,bN,bE,bA,bS,bO,bM]
 kernel_rfl
def c258:Va.Callee:=brC [.d Ad,.d (.int .i64),.d (.int .i64)] [⟨[.dat [] Ad,.dat [] (.int .i64),.dat [] (.int .i64)],[],(Int×Int×Int×Int×(List Int)),fun p=>Gs p.1.1 p.1.2.1 p.1.2.2.1,fun r=>(.pr (dI r.1) (.pr (dI r.2.1) (.pr (dI r.2.2.1) (.pr (.pr (dI r.2.2.2.1) (.pr (.ref 0) .u)) .u))),[.row 216 .deep (.int .u64) r.2.2.2.2])⟩]
theorem Xa:SoundC Tryz.prog 258 c258:=Ap (fn:=Tryz.f258) (by kernel_rfl) (by kernel_rfl) (by kernel_rfl) ⟨⟨E78,⟨⟨tabok,An ⟨X1,SL,trivial⟩⟩,mixed⟩,fun p R K=>U78 R p.1.1 p.1.2.1 p.1.2.2.1 K⟩,trivial⟩
abbrev E79:Env:=⟨tab,lookH [(230,c230),(258,c258)],{deep:=true,heads:=[(4,{live:=[1,2,7,8,14,15,16],pre:=[(7,false,.row [] 238 Ad false)]})],outs:=[(4,{live:=[7]})],joins:=[(9,{live:=[1,2,7,8,10,14,15,16],pre:=[(7,false,.row [] 238 Ad false)]})],ents:=[(9,[1,2,7,8,10,11,12,14,15,16])],frzd:=[(43,(.sl Ad))]}⟩
def Afr(a b:Int)(c:List Ad.V)(d:Int)(z_:Int×Int×(List Ad.V)):St:=sT 51 [(1,dI a),(2,dI b),(7,.ref 0),(8,dI z_.1),(14,dD (.sl Ad) c),(15,dI d),(16,dI z_.2.1)] [.row 238 (.sh []) Ad z_.2.2]
def Ajb(a b:Int)(c:List Ad.V)(d:Int):(List Ad.V)→Ex×St:=fun e=>((.exit 0),sT 51 [(7,.ref 0)] [.row 238 (.sh []) Ad e])
def Agv(a b g:Int)(c:List Ad.V)(d i:Int)(j:List Ad.V)(k l:Int)(n:Ad.V):St:=sT 51 [(1,dI a),(2,dI b),(7,.ref 0),(8,dI g),(10,.ptr 1 0 [] 0),(11,dI k),(12,dI l),(14,dD (.sl Ad) c),(15,dI d),(16,dI i)] [.row 238 (.sh []) Ad j,.box (dD Ad n)]
def Afk(a b g:Int)(c:List Ad.V)(d i:Int)(j:List Ad.V)(k l:Int)(n:Ad.V):(List Ad.V)→Ex×St:=fun o=>(.normal,sT 51 [(1,dI a),(2,dI b),(7,.ref 0),(8,dI g),(10,.ptr 1 0 [] 0),(14,dD (.sl Ad) c),(15,dI d),(16,dI i)] [.row 238 (.sh []) Ad o,.box (dD Ad n)])
def GK(a b g:Int)(c:List Ad.V)(d i:Int)(j:List Ad.V)(k l:Int)(n:Ad.V):Option (List Ad.V) :=
 bif decide (k<l) then
 (Gs n (wI (k-g)) (wI (l-k))).bind fun q =>
 (BX ([(q.1,q.2.1,q.2.2.1,(q.2.2.2.1,q.2.2.2.2,()),())]:List Ad.V) j).bind fun s =>
 some s
 else
 some j
theorem Afh(a b g:Int)(c:List Ad.V)(d i:Int)(j:List Ad.V)(k l:Int)(n:Ad.V):JnOk E79 0 9 (sub (code Tryz.f231) [1,1,1,0,1,0,0]) [1,1,0,0,1,1,0] (Agv a b g c d i j k l n) (GK a b g c d i j k l n) (Afk a b g c d i j k l n):=by
 unfold JnOk
 simp only[GK,mC,mI,mN,mB,mE,mM]
 kernel_rfl
def Fv(a b:Int)(c:List Ad.V)(d g i:Int)(j:List Ad.V):Option ((Int×Int×(List Ad.V))⊕(List Ad.V)) :=
 bif decide (i<d) then
 if(0:Int)≤i∧i<(c.length:Int) then
 (GK a b g c d i j (if g>a then g else a) (if(wI (g+(c.getD i.toNat (Ty.zero Ad)).2.2.1))<(wI (a+b)) then(wI (g+(c.getD i.toNat (Ty.zero Ad)).2.2.1)) else(wI (a+b))) (c.getD i.toNat (Ty.zero Ad))).bind fun o =>
 some (.inl ((wI (g+(c.getD i.toNat (Ty.zero Ad)).2.2.1)),(wI (i+1)),o))
 else none
 else
 some (.inr j)
def BY(a b:Int)(c:List Ad.V)(d:Int)(z_:Int×Int×(List Ad.V)):=Fv a b c d z_.1 z_.2.1 z_.2.2
def Jw(a b:Int)(c:List Ad.V)(d g i:Int)(j:List Ad.V):=fix (BY a b c d) (g,i,j)
theorem AhU(a b:Int)(c:List Ad.V)(d:Int):LpOk E79 0 4 (code Tryz.f231) [1,1,1,0,1,0] (Afr a b c d) (BY a b c d) (Ajb a b c d):=by
 intro _
 simp only[BY,Fv,mC,mI,mN,mB,mE,mM]
 simp(disch:=refine sI ?_<;>(repeat' refine sA ?_ ?_)<;>intro _<;>kernel_rfl) only[Bn (Afh _ _ _ _ _ _ _ _ _ _) (K:=stepK 0 (E79.hd 4) (E79.ot 4))]
 kernel_rfl
def BN(c:List Ad.V)(a b:Int):Option (List Ad.V) :=
 (Jw a b c (c.length:Int) 0 0 ([]:List Ad.V)).bind fun e =>
 some e
theorem U79(R:Type)(c:List Ad.V)(a b:Int)(K:AV→List Blk→Option R):runF E79 Tryz.f231 R [dD (.sl Ad) c,dI a,dI b] [] K=(BN c a b).bind fun r=>K (.ref 0) [.row 238 (.sh []) Ad r]:=by
 simp only[BN,bC,bI,bN,bE,bA,bS,bO,bM]
 simp(disch:=refine sI ?_<;>(repeat' refine sA ?_ ?_)<;>intro _<;>kernel_rfl) only[Jw,Au (AhU _ _ _ _) (K:=finK E79 Tryz.f231 0 R K)]
 kernel_rfl
def c231:Va.Callee:=brC [.d (.sl Ad),.d (.int .i64),.d (.int .i64)] [⟨[.dat [] (.sl Ad),.dat [] (.int .i64),.dat [] (.int .i64)],[],(List Ad.V),fun p=>BN p.1.1 p.1.2.1 p.1.2.2.1,fun r=>(.ref 0,[.row 238 (.sh []) Ad r])⟩]
theorem XU:SoundC Tryz.prog 231 c231:=Ap (fn:=Tryz.f231) (by kernel_rfl) (by kernel_rfl) (by kernel_rfl) ⟨⟨E79,⟨⟨tabok,An ⟨SV,Xa,trivial⟩⟩,mixed⟩,fun p R K=>U79 R p.1.1 p.1.2.1 p.1.2.2.1 K⟩,trivial⟩
end
end Go.Proofs.X
namespace Go.Proofs.X
open Go Go.Va
set_option maxRecDepth 100000
noncomputable section
noncomputable def c232:Va.Callee:=cloneC 238 Ad 56
noncomputable abbrev e232:Env:={tab:=tab,fns:=lookH [],fi:={}}
theorem Abj:ProgOk Tryz.prog e232:=⟨⟨tabok,An trivial⟩,mixed⟩
theorem XQ:SoundC Tryz.prog 232 c232 :=
 QU (fn:=Tryz.f232) Abj (by kernel_rfl) (by kernel_rfl) rfl rfl rfl ⟨rfl,rfl,rfl⟩ ⟨rfl,rfl,rfl⟩ (ti:=⟨.sl Ad,[],238,24,0,0,false⟩) (by kernel_rfl) rfl (by kernel_rfl) (fun xs=>by kernel_rfl) (fun xs=>by kernel_rfl)
  fun xs h=>by
   have h0:ev e232 0 (sub (code Tryz.f232) [1,1]) (Ex×St) ⟨[.dat [] (.sl Ad) xs,.un 0,.zs,.dat [] (.sl Ad) xs,.bool false,.un 0,.un 0,.un 0],[]⟩ pair2=if xs.length*56≤140737488355328 then some (.ret,⟨[.dat [] (.sl Ad) xs,.un 0,.ref 0,.dat [] (.sl Ad) xs,.bool false,.zs,.dat [] (.sl Ad) xs,.ref 0],[.row 238 (.sh []) Ad xs]⟩) else none:=by kernel_rfl
   exact h0.trans (if_pos h)
abbrev E80:Env:=⟨tab,lookH [(138,c138),(159,c159),(216,c216),(229,c229),(230,c230),(231,c231),(232,c232)],{heads:=[(9,{live:=[2,7,8],pre:=[(7,false,.row [] 238 Ad false)]}),(27,{live:=[9,12,125,126],pre:=[(12,false,.row [] 238 Ad false)]}),(36,{live:=[13,14,151,152],frz:=[(14,true,Ad)]})],outs:=[(9,{live:=[7]}),(27,{live:=[12]}),(36,{live:=[13]})],joins:=[(20,{live:=[0,9,10,69,88]}),(23,{live:=[9,10,11]}),(35,{live:=[0,13,14]})],ents:=[(20,[0,9,10,69]),(23,[0,9,10,11]),(35,[0,9,10,13,14])],frzd:=[(117,(.sl Ad)),(156,(.sl Ad))]}⟩
def AjC(a:Int)(b:Ad.V)(z_:Int×(List Ad.V)):St:=sT 160 [(13,.ref 0),(14,.ptr 1 0 [] 0),(151,dI a),(152,dI z_.1)] [.row 238 (.sh []) Ad z_.2,.box (dD Ad b)]
def AhS(a:Int)(b:Ad.V):(List Ad.V)→Ex×St:=fun c=>((.exit 6),sT 160 [(13,.ref 0)] [.row 238 (.sh []) Ad c])
def HJ(a:Int)(b:Ad.V)(d:Int)(e:List Ad.V):Option ((Int×(List Ad.V))⊕(List Ad.V)) :=
 bif decide (d<a) then
 (BX ([b]:List Ad.V) e).bind fun g =>
 some (.inl ((wI (d+1)),g))
 else
 some (.inr e)
def Cu(a:Int)(b:Ad.V)(z_:Int×(List Ad.V)):=HJ a b z_.1 z_.2
def FN(a:Int)(b:Ad.V)(d:Int)(e:List Ad.V):=fix (Cu a b) (d,e)
theorem AiS(a:Int)(b:Ad.V):LpOk E80 0 36 (code Tryz.f206) [1,1,1,1,1,1,1,1,0,1,0] (AjC a b) (Cu a b) (AhS a b):=by
 intro _
 simp only[Cu,HJ,mC,mI,mN,mB,mE,mM]
 kernel_rfl
def AeT(i:Ad.V)(j:Int)(z_:Int×(List Ad.V)):St:=sT 160 [(13,.ref 0),(14,.ptr 1 0 [] 0),(151,dI j),(152,dI z_.1)] [.row 238 (.sh []) Ad z_.2,.box (dD Ad i)]
def Aik(i:Ad.V)(j:Int):(List Ad.V)→Ex×St:=fun k=>((.exit 6),sT 160 [(13,.ref 0)] [.row 238 (.sh []) Ad k])
def HW(i:Ad.V)(j l:Int)(n:List Ad.V):Option ((Int×(List Ad.V))⊕(List Ad.V)) :=
 bif decide (l<j) then
 (BX ([i]:List Ad.V) n).bind fun o =>
 some (.inl ((wI (l+1)),o))
 else
 some (.inr n)
def Cm(i:Ad.V)(j:Int)(z_:Int×(List Ad.V)):=HW i j z_.1 z_.2
def FR(i:Ad.V)(j l:Int)(n:List Ad.V):=fix (Cm i j) (l,n)
theorem AeZ(i:Ad.V)(j:Int):LpOk E80 0 36 (code Tryz.f206) [1,1,1,1,1,1,1,1,0,1,0] (AeT i j) (Cm i j) (Aik i j):=by
 intro _
 simp only[Cm,HW,mC,mI,mN,mB,mE,mM]
 kernel_rfl
def Af2(q:Ab.V)(s:Int)(t u:List Ad.V)(v w x y:Int)(a1:List Int):St:=sT 160 [(0,.rop [] Ab q),(9,dD (.sl Ad) t),(10,dI s),(13,.ref 0),(14,.ptr 1 0 [] 0)] [.row 238 (.sh []) Ad u,.box (.pr (dI v) (.pr (dI w) (.pr (dI x) (.pr (.pr (dI y) (.pr (.ref 2) .u)) .u)))),.row 216 .deep (.int .u64) a1]
def AgG(q:Ab.V)(s:Int)(t u:List Ad.V)(v w x y:Int)(a1:List Int):(Ad.V⊕Unit)→Ex×St:=Sum.elim (fun i=>(.normal,sT 160 [(0,.rop [] Ab q),(13,.ref 0),(14,.ptr 1 0 [] 0)] [.row 238 (.sh []) Ad u,.box (dD Ad i)])) (fun b1=>(.normal,sT 160 [(0,.rop [] Ab q),(13,.ref 0),(14,.ptr 1 0 [] 0)] [.row 238 (.sh []) Ad u,.box (.pr (dI v) (.pr (dI w) (.pr (dI x) (.pr (.pr (dI y) (.pr (.ref 2) .u)) .u)))),.row 216 .deep (.int .u64) a1]))
def AS(q:Ab.V)(s:Int)(t u:List Ad.V)(v w x y:Int)(a1:List Int):Option (Ad.V⊕Unit) :=
 bif q.1==6 then
 (BN t (wI (s-1)) 1).bind fun c1 =>
 if(0:Int)≤(0:Int)∧(0:Int)<(c1.length:Int) then
 some (.inl (c1.getD 0 (Ty.zero Ad)))
 else none
 else
 some (.inr ())
theorem Afz(q:Ab.V)(s:Int)(t u:List Ad.V)(v w x y:Int)(a1:List Int):JnOk E80 0 35 (code Tryz.f206) [1,1,1,1,1,1,1,0] (Af2 q s t u v w x y a1) (AS q s t u v w x y a1) (AgG q s t u v w x y a1):=by
 unfold JnOk
 simp only[AS,mC,mI,mN,mB,mE,mM]
 kernel_rfl
def Afy(d1:List Ad.V)(e1:Int)(z_:Int×(List Ad.V)):St:=sT 160 [(9,dD (.sl Ad) d1),(12,.ref 0),(125,dI e1),(126,dI z_.1)] [.row 238 (.sh []) Ad z_.2]
def Af5(d1:List Ad.V)(e1:Int):(List Ad.V)→Ex×St:=fun g1=>((.exit 4),sT 160 [(12,.ref 0)] [.row 238 (.sh []) Ad g1])
def Cp(d1:List Ad.V)(e1 i1:Int)(j1:List Ad.V):Option ((Int×(List Ad.V))⊕(List Ad.V)) :=
 bif decide (i1<e1) then
 (BX d1 j1).bind fun k1 =>
 some (.inl ((wI (i1+1)),k1))
 else
 some (.inr j1)
def AW(d1:List Ad.V)(e1:Int)(z_:Int×(List Ad.V)):=Cp d1 e1 z_.1 z_.2
def Dv(d1:List Ad.V)(e1 i1:Int)(j1:List Ad.V):=fix (AW d1 e1) (i1,j1)
theorem Aiu(d1:List Ad.V)(e1:Int):LpOk E80 0 27 (code Tryz.f206) [1,1,1,1,0,1,0,1,1,1,1,1,0,1,0,1,0] (Afy d1 e1) (AW d1 e1) (Af5 d1 e1):=by
 intro _
 simp only[AW,Cp,mC,mI,mN,mB,mE,mM]
 kernel_rfl
def AkB(q:Ab.V)(s:Int)(l1:List Ad.V)(n1:Int):St:=sT 160 [(0,.rop [] Ab q),(9,dD (.sl Ad) l1),(10,dI s),(11,dI n1)] []
def Ae7(q:Ab.V)(s:Int)(l1:List Ad.V)(n1:Int):Int→Ex×St:=fun o1=>(.normal,sT 160 [(9,dD (.sl Ad) l1),(10,dI s),(11,dI o1)] [])
def BU(q:Ab.V)(s:Int)(l1:List Ad.V)(n1:Int):Option Int :=
 bif q.1==8 then
 if s=(0:Int) then none else
 some (Int.tmod (wI (s-n1)) s)
 else
 some n1
theorem AgU(q:Ab.V)(s:Int)(l1:List Ad.V)(n1:Int):JnOk E80 0 23 (code Tryz.f206) [1,1,1,1,0,1,0,1,1,1,0,1,0] (AkB q s l1 n1) (BU q s l1 n1) (Ae7 q s l1 n1):=by
 unfold JnOk
 simp only[BU,mC,mI,mN,mB,mE,mM]
 kernel_rfl
def Aaj(q:Ab.V)(q1:List (List Ad.V))(s:Int):St:=sT 160 [(0,.rop [] Ab q),(9,dD (.sl Ad) (q1.getD 0 (Ty.zero (.sl Ad)))),(10,dI s),(69,dI q.1)] []
def AaJ(q:Ab.V)(q1:List (List Ad.V))(s:Int)(m0:Bool):Ex×St:=(.normal,sT 160 [(0,.rop [] Ab q),(9,dD (.sl Ad) (q1.getD 0 (Ty.zero (.sl Ad)))),(10,dI s),(69,dI q.1),(88,dB m0)] [])
theorem Agt(q:Ab.V)(q1:List (List Ad.V))(s:Int):jnS E80 0 20 (code Tryz.f206) [1,1,1,1,0,1,0,1,1,0] (Aaj q q1 s)=some (AaJ q q1 s (bif q.1==7 then(q.1==7) else(q.1==8))):=by
 have h0:jnS E80 0 20 (code Tryz.f206) [1,1,1,1,0,1,0,1,1,0] (Aaj q q1 s) =
 bif q.1==7 then
 some (AaJ q q1 s (q.1==7))
 else
 some (AaJ q q1 s (q.1==8)):=by kernel_rfl
 rw[h0]
 cases h1:(q.1==7)
 ·first | rfl | kernel_rfl
 ·first | rfl | kernel_rfl
def Akc(q1:List (List Ad.V))(z_:Int×(List Ad.V)):St:=sT 160 [(2,dD (.sl (.sl Ad)) q1),(7,.ref 0),(8,dI z_.1)] [.row 238 (.sh []) Ad z_.2]
def Ahx(q1:List (List Ad.V)):(List Ad.V)→Ex×St:=fun s1=>((.exit 1),sT 160 [(7,.ref 0)] [.row 238 (.sh []) Ad s1])
def Cq(q1:List (List Ad.V))(t1:Int)(u1:List Ad.V):Option ((Int×(List Ad.V))⊕(List Ad.V)) :=
 bif decide (t1≥0) then
 if(0:Int)≤t1∧t1<(q1.length:Int) then
 (BX (q1.getD t1.toNat (Ty.zero (.sl Ad))) u1).bind fun v1 =>
 some (.inl ((wI (t1-1)),v1))
 else none
 else
 some (.inr u1)
def AH(q1:List (List Ad.V))(z_:Int×(List Ad.V)):=Cq q1 z_.1 z_.2
def Df(q1:List (List Ad.V))(t1:Int)(u1:List Ad.V):=fix (AH q1) (t1,u1)
theorem Af7(q1:List (List Ad.V)):LpOk E80 0 9 (code Tryz.f206) [1,0,1,0,1,1,1,1,1,0,1,0,1,0] (Akc q1) (AH q1) (Ahx q1):=by
 intro _
 simp only[AH,Cq,mC,mI,mN,mB,mE,mM]
 kernel_rfl
def B4(q:Ab.V)(w1:List Aa.V)(q1:List (List Ad.V)):Option (List Ad.V) :=
 bif q.1==1 then
 if(0:Int)≤q.2.1∧q.2.1<(w1.length:Int) then
 some ([(q.2.1,0,(w1.getD q.2.1.toNat (Ty.zero Aa)).2.1,(0,([]:List Int),()),())]:List Ad.V)
 else none
 else
 bif q.1==2 then
 (Cw q.2.2.2.2.1).bind fun x1 =>
 some ([((Am x1.1 x1.2).1,(Am x1.1 x1.2).2.1,(Am x1.1 x1.2).2.2.1,((Am x1.1 x1.2).2.2.2.1,(Am x1.1 x1.2).2.2.2.2,()),())]:List Ad.V)
 else
 bif q.1==3 then
 (Df q1 (wI ((q1.length:Int)-1)) ([]:List Ad.V)).bind fun s1 =>
 some s1
 else
 if(0:Int)≤(0:Int)∧(0:Int)<(q1.length:Int) then
 (DD (q1.getD 0 (Ty.zero (.sl Ad)))).bind fun s =>
 bif q.1==4 then
 (BN (q1.getD 0 (Ty.zero (.sl Ad))) q.2.2.2.1 (wI ((wI (q.2.2.1-q.2.2.2.1))+1))).bind fun y1 =>
 some y1
 else
 mkr (Aaj q q1 s) (
 bif bif (q.1==7) then(q.1==7) else(q.1==8) then
 if s=(0:Int) then none else
 (BU q s (q1.getD 0 (Ty.zero (.sl Ad))) (Int.tmod q.2.2.1 s)).bind fun o1 =>
 (BN (q1.getD 0 (Ty.zero (.sl Ad))) (wI (s-o1)) o1).bind fun a2 =>
 (BN (q1.getD 0 (Ty.zero (.sl Ad))) 0 (wI (s-o1))).bind fun b2 =>
 (BX b2 a2).bind fun c2 =>
 some c2
 else
 bif q.1==9 then
 (Dv (q1.getD 0 (Ty.zero (.sl Ad))) q.2.2.1 0 ([]:List Ad.V)).bind fun g1 =>
 some g1
 else
 if(q1.getD 0 (Ty.zero (.sl Ad))).length*56≤140737488355328 then
 (BM 1).bind fun d2 =>
 (AS q s (q1.getD 0 (Ty.zero (.sl Ad))) (q1.getD 0 (Ty.zero (.sl Ad))) (Am d2.1 d2.2).1 (Am d2.1 d2.2).2.1 (Am d2.1 d2.2).2.2.1 (Am d2.1 d2.2).2.2.2.1 (Am d2.1 d2.2).2.2.2.2).bind (Sum.elim (fun i =>
 (FR i q.2.2.1 0 (q1.getD 0 (Ty.zero (.sl Ad)))).bind fun k =>
 some k) (fun b1 =>
 (FN q.2.2.1 ((Am d2.1 d2.2).1,(Am d2.1 d2.2).2.1,(Am d2.1 d2.2).2.2.1,((Am d2.1 d2.2).2.2.2.1,(Am d2.1 d2.2).2.2.2.2,()),()) 0 (q1.getD 0 (Ty.zero (.sl Ad)))).bind fun c =>
 some c))
 else none)
 else none
theorem U80(R:Type)(q:Ab.V)(w1:List Aa.V)(q1:List (List Ad.V))(K:AV→List Blk→Option R):runF E80 Tryz.f206 R [.rop [] Ab q,dD (.sl Aa) w1,dD (.sl (.sl Ad)) q1] [] K=(B4 q w1 q1).bind fun r=>K (.ref 0) [.row 238 (.sh []) Ad r]:=by
 simp only[B4,bC,bI,bN,bE,bA,bS,bO,bM]
 simp(disch:=refine sI ?_<;>(repeat' refine sA ?_ ?_)<;>intro _<;>kernel_rfl) only[Df,Au (Af7 _) (K:=finK E80 Tryz.f206 0 R K),Hs (Agt _ _ _) (K:=finK E80 Tryz.f206 0 R K),Bn (AgU _ _ _ _) (K:=finK E80 Tryz.f206 0 R K),Dv,Au (Aiu _ _) (K:=finK E80 Tryz.f206 0 R K),Bn (Afz _ _ _ _ _ _ _ _ _) (K:=finK E80 Tryz.f206 0 R K),FR,Au (AeZ _ _) (K:=finK E80 Tryz.f206 0 R K),FN,Au (AiS _ _) (K:=finK E80 Tryz.f206 0 R K)]
 kernel_rfl
def c206:Va.Callee:=brC [.p Ab,.d (.sl Aa),.d (.sl (.sl Ad))] [⟨[.rop [] Ab,.dat [] (.sl Aa),.dat [] (.sl (.sl Ad))],[],(List Ad.V),fun p=>B4 p.1.1 p.1.2.1 p.1.2.2.1,fun r=>(.ref 0,[.row 238 (.sh []) Ad r])⟩]
theorem XX:SoundC Tryz.prog 206 c206:=Ap (fn:=Tryz.f206) (by kernel_rfl) (by kernel_rfl) (by kernel_rfl) ⟨⟨E80,⟨⟨tabok,An ⟨Nj,XI,SG,SL,SV,XU,XQ,trivial⟩⟩,mixed⟩,fun p R K=>U80 R p.1.1 p.1.2.1 p.1.2.2.1 K⟩,trivial⟩
abbrev E81:Env:=⟨tab,lookH [(216,c216)],{deep:=true,heads:=[(3,{live:=[3,9,10,11]})],outs:=[(3,{live:=[3]})]}⟩
def Ae8(a:List Ad.V)(b:Int)(z_:Int×(List Ad.V)):St:=sT 26 [(3,.ref 0),(9,dD (.sl Ad) a),(10,dI b),(11,dI z_.1)] [.row 238 .deep Ad z_.2]
def AjN(a:List Ad.V)(b:Int):(List Ad.V)→Ex×St:=fun c=>((.exit 0),sT 26 [(3,.ref 0)] [.row 238 .deep Ad c])
def Eu(a:List Ad.V)(b d:Int)(e:List Ad.V):Option ((Int×(List Ad.V))⊕(List Ad.V)) :=
 bif decide (d<b) then
 if(0:Int)≤d∧d<(a.length:Int) then
 (Cw (a.getD d.toNat (Ty.zero Ad)).2.2.2.1).bind fun g =>
 if(0:Int)≤d∧d<(e.length:Int) then
 some (.inl ((wI (d+1)),(e.set d.toNat ((a.getD d.toNat (Ty.zero Ad)).1,(a.getD d.toNat (Ty.zero Ad)).2.1,(a.getD d.toNat (Ty.zero Ad)).2.2.1,(g.1,g.2,()),(a.getD d.toNat (Ty.zero Ad)).2.2.2.2))))
 else none
 else none
 else
 some (.inr e)
def Ba(a:List Ad.V)(b:Int)(z_:Int×(List Ad.V)):=Eu a b z_.1 z_.2
def I1(a:List Ad.V)(b d:Int)(e:List Ad.V):=fix (Ba a b) (d,e)
theorem Ag1(a:List Ad.V)(b:Int):LpOk E81 0 3 (code Tryz.f207) [1,1,0,1,0] (Ae8 a b) (Ba a b) (AjN a b):=by
 intro _
 simp only[Ba,Eu,mC,mI,mN,mB,mE,mM]
 kernel_rfl
def EQ(a:List Ad.V):Option (List Ad.V) :=
 if Ty.row Ad=true∧(0:Int)≤(a.length:Int)∧(a.length:Int)≤(a.length:Int)∧((56:Nat):Int)*(a.length:Int)≤(281474976710656:Int)∧(a.length:Int)≤(9223372036854775807:Int) then
 (I1 a (a.length:Int) 0 (List.replicate (a.length:Int).toNat (0,0,0,(0,([]:List Int),()),()))).bind fun c =>
 some c
 else none
theorem U81(R:Type)(a:List Ad.V)(K:AV→List Blk→Option R):runF E81 Tryz.f207 R [dD (.sl Ad) a] [] K=(EQ a).bind fun r=>K (.ref 0) [.row 238 .deep Ad r]:=by
 simp only[EQ,bC,bI,bN,bE,bA,bS,bO,bM]
 simp(disch:=refine sI ?_<;>(repeat' refine sA ?_ ?_)<;>intro _<;>kernel_rfl) only[I1,Au (Ag1 _ _) (K:=finK E81 Tryz.f207 0 R K)]
 kernel_rfl
def c207:Va.Callee:=brC [.d (.sl Ad)] [⟨[.dat [] (.sl Ad)],[],(List Ad.V),fun p=>EQ p.1.1,fun r=>(.ref 0,[.row 238 .deep Ad r])⟩]
theorem Xf:SoundC Tryz.prog 207 c207:=Ap (fn:=Tryz.f207) (by kernel_rfl) (by kernel_rfl) (by kernel_rfl) ⟨⟨E81,⟨⟨tabok,An ⟨SG,trivial⟩⟩,mixed⟩,fun p R K=>U81 R p.1.1 K⟩,trivial⟩
abbrev E82:Env:=⟨tab,lookH [(206,c206),(207,c207)],{heads:=[(3,{live:=[0,3,6,18,19]}),(8,{live:=[0,3,6,7,8,9,18,19,35,36,37]})],outs:=[(3,{live:=[4,5,6],frz:=[(6,false,(.sl (.sl Ad)))]}),(8,{live:=[0,3,6,7,8,9,18,19],frz:=[(9,false,(.sl (.sl Ad)))]})],res:=[(0,.row [] 238 Ad true)]}⟩
def AgV(a:List Aa.V)(b:Aj.V)(c:Int)(z_:Int×(List (List Ad.V))):St:=sT 71 [(0,dD (.sl Aa) a),(3,.ptr 0 0 [] 0),(6,.ref 1),(18,dI c),(19,dI z_.1)] [.box (dD Aj b),.row 121 (.sh []) (.sl Ad) z_.2]
def AiE(a:List Aa.V)(b:Aj.V)(c:Int):((List (List Ad.V))⊕(List (List Ad.V)))→Ex×St:=Sum.elim (fun d=>(.ret,sT 71 [(4,.zs),(5,dB false),(6,dD (.sl (.sl Ad)) d)] [])) (fun e=>((.exit 0),sT 71 [(6,dD (.sl (.sl Ad)) e)] []))
def Ajr(a:List Aa.V)(g c:Int)(b:Aj.V)(i:List (List Ad.V))(j:Ab.V)(k:List Int)(l:Int)(z_:Int×(List (List Ad.V))):St:=sT 71 [(0,dD (.sl Aa) a),(3,.ptr 0 0 [] 0),(6,.ref 1),(7,dI g),(8,.rop [] Ab j),(9,.ref 2),(18,dI c),(19,dI g),(35,dD (.sl (.int .i64)) k),(36,dI l),(37,dI z_.1)] [.box (dD Aj b),.row 121 (.sh []) (.sl Ad) i,.row 121 (.sh []) (.sl Ad) z_.2]
def AfW(a:List Aa.V)(g c:Int)(b:Aj.V)(i:List (List Ad.V))(j:Ab.V)(k:List Int)(l:Int):(List (List Ad.V))→Ex×St:=fun n=>((.exit 2),sT 71 [(0,dD (.sl Aa) a),(3,.ptr 0 0 [] 0),(6,.ref 1),(7,dI g),(8,.rop [] Ab j),(9,dD (.sl (.sl Ad)) n),(18,dI c),(19,dI g)] [.box (dD Aj b),.row 121 (.sh []) (.sl Ad) i])
def Gl(a:List Aa.V)(g c:Int)(b:Aj.V)(i:List (List Ad.V))(j:Ab.V)(k:List Int)(l o:Int)(q:List (List Ad.V)):Option ((Int×(List (List Ad.V)))⊕(List (List Ad.V))) :=
 bif decide (o<l) then
 if(0:Int)≤o∧o<(k.length:Int) then
 if(0:Int)≤(k.getD o.toNat (Ty.zero (.int .i64)))∧(k.getD o.toNat (Ty.zero (.int .i64)))<(i.length:Int) then
 if(0:Int)≤o∧o<(q.length:Int) then
 some (.inl ((wI (o+1)),(q.set o.toNat (i.getD (k.getD o.toNat (Ty.zero (.int .i64))).toNat (Ty.zero (.sl Ad))))))
 else none
 else none
 else none
 else
 some (.inr q)
def CF(a:List Aa.V)(g c:Int)(b:Aj.V)(i:List (List Ad.V))(j:Ab.V)(k:List Int)(l:Int)(z_:Int×(List (List Ad.V))):=Gl a g c b i j k l z_.1 z_.2
def HO(a:List Aa.V)(g c:Int)(b:Aj.V)(i:List (List Ad.V))(j:Ab.V)(k:List Int)(l o:Int)(q:List (List Ad.V)):=fix (CF a g c b i j k l) (o,q)
theorem Af8(a:List Aa.V)(g c:Int)(b:Aj.V)(i:List (List Ad.V))(j:Ab.V)(k:List Int)(l:Int):LpOk E82 0 8 (sub (code Tryz.f154) [1,1,0,1,0,0]) [1,1,0,0,1,1,1,0,1,0] (Ajr a g c b i j k l) (CF a g c b i j k l) (AfW a g c b i j k l):=by
 intro _
 simp only[CF,Gl,mC,mI,mN,mB,mE,mM]
 kernel_rfl
def IX(a:List Aa.V)(b:Aj.V)(c g:Int)(i:List (List Ad.V)):Option ((Int×(List (List Ad.V)))⊕((List (List Ad.V))⊕(List (List Ad.V)))) :=
 bif decide (g<c) then
 if(0:Int)≤g∧g<(b.1.length:Int) then
 if Ty.row (.sl Ad)=true∧(0:Int)≤((b.1.getD g.toNat (Ty.zero Ab)).2.2.2.2.2.1.length:Int)∧((b.1.getD g.toNat (Ty.zero Ab)).2.2.2.2.2.1.length:Int)≤((b.1.getD g.toNat (Ty.zero Ab)).2.2.2.2.2.1.length:Int)∧((24:Nat):Int)*((b.1.getD g.toNat (Ty.zero Ab)).2.2.2.2.2.1.length:Int)≤(281474976710656:Int)∧((b.1.getD g.toNat (Ty.zero Ab)).2.2.2.2.2.1.length:Int)≤(9223372036854775807:Int) then
 (HO a g c b i (b.1.getD g.toNat (Ty.zero Ab)) (b.1.getD g.toNat (Ty.zero Ab)).2.2.2.2.2.1 ((b.1.getD g.toNat (Ty.zero Ab)).2.2.2.2.2.1.length:Int) 0 (List.replicate ((b.1.getD g.toNat (Ty.zero Ab)).2.2.2.2.2.1.length:Int).toNat ([]:List Ad.V))).bind fun n =>
 (B4 (b.1.getD g.toNat (Ty.zero Ab)) a n).bind fun s =>
 if(0:Int)≤g∧g<(i.length:Int) then
 if(0:Int)≤g∧g<((i.set g.toNat s).length:Int) then
 bif decide ((((i.set g.toNat s).getD g.toNat (Ty.zero (.sl Ad))).length:Int)>2000) then
 some (.inr (.inl (i.set g.toNat s)))
 else
 some (.inl ((wI (g+1)),(i.set g.toNat s)))
 else none
 else none
 else none
 else none
 else
 some (.inr (.inr i))
def Gg(a:List Aa.V)(b:Aj.V)(c:Int)(z_:Int×(List (List Ad.V))):=IX a b c z_.1 z_.2
def Ik(a:List Aa.V)(b:Aj.V)(c g:Int)(i:List (List Ad.V)):=fix (Gg a b c) (g,i)
theorem Afl(a:List Aa.V)(b:Aj.V)(c:Int):LpOk E82 0 3 (code Tryz.f154) [1,1,0,1,0] (AgV a b c) (Gg a b c) (AiE a b c):=by
 intro _
 simp only[Gg,IX,mC,mI,mN,mB,mE,mM]
 simp(disch:=refine sI ?_<;>(repeat' refine sA ?_ ?_)<;>intro _<;>kernel_rfl) only[HO,Au (Af8 _ _ _ _ _ _ _ _) (K:=stepK 0 (E82.hd 3) (E82.ot 3))]
 kernel_rfl
def C9(a:List Aa.V)(b:Aj.V):Option (Bool×(List Ad.V)) :=
 if Ty.row (.sl Ad)=true∧(0:Int)≤(b.1.length:Int)∧(b.1.length:Int)≤(b.1.length:Int)∧((24:Nat):Int)*(b.1.length:Int)≤(281474976710656:Int)∧(b.1.length:Int)≤(9223372036854775807:Int) then
 (Ik a b (b.1.length:Int) 0 (List.replicate (b.1.length:Int).toNat ([]:List Ad.V))).bind (Sum.elim (fun d =>
 some (false,([]:List Ad.V))) (fun e =>
 if(0:Int)≤(wI ((e.length:Int)-1))∧(wI ((e.length:Int)-1))<(e.length:Int) then
 (EQ (e.getD (wI ((e.length:Int)-1)).toNat (Ty.zero (.sl Ad)))).bind fun t =>
 some (true,t)
 else none))
 else none
theorem U82(R:Type)(a:List Aa.V)(b:Aj.V)(K:AV→List Blk→Option R):runF E82 Tryz.f154 R [dD (.sl Aa) a,dD Aj b] [] K=(C9 a b).bind fun r=>K (.cons (.ref 0) (.cons (dB r.1) .nil)) [.row 238 .deep Ad r.2]:=by
 simp only[C9,bC,bI,bN,bE,bA,bS,bO,bM]
 simp(disch:=refine sI ?_<;>(repeat' refine sA ?_ ?_)<;>intro _<;>kernel_rfl) only[Ik,Au (Afl _ _ _) (K:=finK E82 Tryz.f154 0 R K)]
 kernel_rfl
def c154:Va.Callee:=brC [.d (.sl Aa),.d Aj] [⟨[.dat [] (.sl Aa),.dat [] Aj],[],(Bool×(List Ad.V)),fun p=>C9 p.1.1 p.1.2.1,fun r=>(.cons (.ref 0) (.cons (dB r.1) .nil),[.row 238 .deep Ad r.2])⟩]
theorem Yc:SoundC Tryz.prog 154 c154:=Ap (fn:=Tryz.f154) (by kernel_rfl) (by kernel_rfl) (by kernel_rfl) ⟨⟨E82,⟨⟨tabok,An ⟨XX,Xf,trivial⟩⟩,mixed⟩,fun p R K=>U82 R p.1.1 p.1.2.1 K⟩,trivial⟩
abbrev E83:Env:=⟨tab,lookH [(154,c154)],{deep:=true,heads:=[(3,{live:=[0,6,16,17,18]})],outs:=[(3,{live:=[4,5,6]})],joins:=[(8,{live:=[0,6,7,9,11,16,17,18,42]})],ents:=[(8,[0,6,7,9,10,11,12,16,17,18])],res:=[(0,.row [] 145 (.pair (.sl Ad) (.pair (.sl Ad) .unit)) true)]}⟩
def Af4(a:List Aa.V)(b:List Ae.V)(c:Int)(z_:Int×(List ((List Ad.V)×((List Ad.V)×Unit)))):St:=sT 51 [(0,dD (.sl Aa) a),(6,.ref 0),(16,dD (.sl Ae) b),(17,dI c),(18,dI z_.1)] [.row 145 .deep (.pair (.sl Ad) (.pair (.sl Ad) .unit)) z_.2]
def Ahl(a:List Aa.V)(b:List Ae.V)(c:Int):((List ((List Ad.V)×((List Ad.V)×Unit)))⊕(List ((List Ad.V)×((List Ad.V)×Unit))))→Ex×St:=Sum.elim (fun d=>(.ret,sT 51 [(4,.zs),(5,dB false),(6,.ref 0)] [.row 145 .deep (.pair (.sl Ad) (.pair (.sl Ad) .unit)) d])) (fun e=>((.exit 0),sT 51 [(6,.ref 0)] [.row 145 .deep (.pair (.sl Ad) (.pair (.sl Ad) .unit)) e]))
def Abl(a:List Aa.V)(g:Int)(i j:Bool×(List Ad.V))(b:List Ae.V)(c:Int)(k:List ((List Ad.V)×((List Ad.V)×Unit))):St:=sT 51 [(0,dD (.sl Aa) a),(6,.ref 0),(7,dI g),(9,.ref 1),(10,dB i.1),(11,.ref 2),(12,dB j.1),(16,dD (.sl Ae) b),(17,dI c),(18,dI g)] [.row 145 .deep (.pair (.sl Ad) (.pair (.sl Ad) .unit)) k,.row 238 .deep Ad i.2,.row 238 .deep Ad j.2]
def Abd(a:List Aa.V)(g:Int)(i j:Bool×(List Ad.V))(b:List Ae.V)(c:Int)(k:List ((List Ad.V)×((List Ad.V)×Unit)))(m0:Bool):Ex×St:=(.normal,sT 51 [(0,dD (.sl Aa) a),(6,.ref 0),(7,dI g),(9,.ref 1),(11,.ref 2),(16,dD (.sl Ae) b),(17,dI c),(18,dI g),(42,dB m0)] [.row 145 .deep (.pair (.sl Ad) (.pair (.sl Ad) .unit)) k,.row 238 .deep Ad i.2,.row 238 .deep Ad j.2])
theorem Agq(a:List Aa.V)(g:Int)(i j:Bool×(List Ad.V))(b:List Ae.V)(c:Int)(k:List ((List Ad.V)×((List Ad.V)×Unit))):jnS E83 0 8 (sub (code Tryz.f83) [1,1,0,1,0,0]) [1,1,0,0,1,1,1,0,0] (Abl a g i j b c k)=some (Abd a g i j b c k ((!i.1)||(!j.1))):=by
 have h0:jnS E83 0 8 (sub (code Tryz.f83) [1,1,0,1,0,0]) [1,1,0,0,1,1,1,0,0] (Abl a g i j b c k) =
 bif !i.1 then
 some (Abd a g i j b c k true)
 else
 some (Abd a g i j b c k (!j.1)):=by kernel_rfl
 rw[h0]
 cases h1:(!i.1)
 ·first | rfl | kernel_rfl
 ·first | rfl | kernel_rfl
def JU(a:List Aa.V)(b:List Ae.V)(c g:Int)(k:List ((List Ad.V)×((List Ad.V)×Unit))):Option ((Int×(List ((List Ad.V)×((List Ad.V)×Unit))))⊕((List ((List Ad.V)×((List Ad.V)×Unit)))⊕(List ((List Ad.V)×((List Ad.V)×Unit))))) :=
 bif decide (g<c) then
 if(0:Int)≤g∧g<(b.length:Int) then
 (C9 a (b.getD g.toNat (Ty.zero Ae)).2.2.1).bind fun i =>
 (C9 a (b.getD g.toNat (Ty.zero Ae)).2.2.2.1).bind fun j =>
 mkr (Abl a g i j b c k) (
 bif (!i.1)||(!j.1) then
 some (.inr (.inl k))
 else
 if(0:Int)≤g∧g<(k.length:Int) then
 some (.inl ((wI (g+1)),(k.set g.toNat (i.2,j.2,()))))
 else none)
 else none
 else
 some (.inr (.inr k))
def HV(a:List Aa.V)(b:List Ae.V)(c:Int)(z_:Int×(List ((List Ad.V)×((List Ad.V)×Unit)))):=JU a b c z_.1 z_.2
def K6(a:List Aa.V)(b:List Ae.V)(c g:Int)(k:List ((List Ad.V)×((List Ad.V)×Unit))):=fix (HV a b c) (g,k)
theorem Aiy(a:List Aa.V)(b:List Ae.V)(c:Int):LpOk E83 0 3 (code Tryz.f83) [1,1,0,1,0] (Af4 a b c) (HV a b c) (Ahl a b c):=by
 intro _
 simp only[HV,JU,mC,mI,mN,mB,mE,mM]
 simp(disch:=refine sI ?_<;>(repeat' refine sA ?_ ?_)<;>intro _<;>kernel_rfl) only[Hs (Agq _ _ _ _ _ _ _) (K:=stepK 0 (E83.hd 3) (E83.ot 3))]
 kernel_rfl
def IW(a:List Aa.V)(b:List Ae.V):Option (Bool×(List ((List Ad.V)×((List Ad.V)×Unit)))) :=
 if Ty.row (.pair (.sl Ad) (.pair (.sl Ad) .unit))=true∧(0:Int)≤(b.length:Int)∧(b.length:Int)≤(b.length:Int)∧((48:Nat):Int)*(b.length:Int)≤(281474976710656:Int)∧(b.length:Int)≤(9223372036854775807:Int) then
 (K6 a b (b.length:Int) 0 (List.replicate (b.length:Int).toNat (([]:List Ad.V),([]:List Ad.V),()))).bind (Sum.elim (fun d =>
 some (false,([]:List ((List Ad.V)×((List Ad.V)×Unit))))) (fun e =>
 some (true,e)))
 else none
theorem U83(R:Type)(a:List Aa.V)(b:List Ae.V)(K:AV→List Blk→Option R):runF E83 Tryz.f83 R [dD (.sl Aa) a,dD (.sl Ae) b] [] K=(IW a b).bind fun r=>K (.cons (.ref 0) (.cons (dB r.1) .nil)) [.row 145 .deep (.pair (.sl Ad) (.pair (.sl Ad) .unit)) r.2]:=by
 simp only[IW,bC,bI,bN,bE,bA,bS,bO,bM]
 simp(disch:=refine sI ?_<;>(repeat' refine sA ?_ ?_)<;>intro _<;>kernel_rfl) only[K6,Au (Aiy _ _ _) (K:=finK E83 Tryz.f83 0 R K)]
 kernel_rfl
def c83:Va.Callee:=brC [.d (.sl Aa),.d (.sl Ae)] [⟨[.dat [] (.sl Aa),.dat [] (.sl Ae)],[],(Bool×(List ((List Ad.V)×((List Ad.V)×Unit)))),fun p=>IW p.1.1 p.1.2.1,fun r=>(.cons (.ref 0) (.cons (dB r.1) .nil),[.row 145 .deep (.pair (.sl Ad) (.pair (.sl Ad) .unit)) r.2])⟩]
theorem T8:SoundC Tryz.prog 83 c83:=Ap (fn:=Tryz.f83) (by kernel_rfl) (by kernel_rfl) (by kernel_rfl) ⟨⟨E83,⟨⟨tabok,An ⟨Yc,trivial⟩⟩,mixed⟩,fun p R K=>U83 R p.1.1 p.1.2.1 K⟩,trivial⟩
abbrev E84:Env:=⟨tab,lookH [(83,c83),(129,c129)],{deep:=true}⟩
def Eb(a:List Aa.V)(b:List Ae.V):Option Bool :=
 (Ef a b).bind fun c =>
 bif !c then
 some false
 else
 (IW a b).bind fun d =>
 some d.1
theorem U84(R:Type)(a:List Aa.V)(b:List Ae.V)(K:AV→List Blk→Option R):runF E84 Tryz.f58 R [dD (.sl Aa) a,dD (.sl Ae) b] [] K=(Eb a b).bind fun r=>K (dB r) []:=by
 simp only[Eb,bC,bI,bN,bE,bA,bS,bO,bM]
 kernel_rfl
def c58:Va.Callee:=brC [.d (.sl Aa),.d (.sl Ae)] [⟨[.dat [] (.sl Aa),.dat [] (.sl Ae)],[],Bool,fun p=>Eb p.1.1 p.1.2.1,fun r=>(dB r,[])⟩]
theorem Aab:SoundC Tryz.prog 58 c58:=Ap (fn:=Tryz.f58) (by kernel_rfl) (by kernel_rfl) (by kernel_rfl) ⟨⟨E84,⟨⟨tabok,An ⟨T8,XW,trivial⟩⟩,mixed⟩,fun p R K=>U84 R p.1.1 p.1.2.1 K⟩,trivial⟩
abbrev E85:Env:=⟨tab,lookH [],{deep:=true,heads:=[(4,{live:=[3,4,10,11,12]})],outs:=[(4,{live:=[3]})]}⟩
def AeL(a:List Aa.V)(b:Int)(z_:Int×Int×(List Int)):St:=sT 27 [(3,.ref 0),(4,dI z_.1),(10,dD (.sl Aa) a),(11,dI b),(12,dI z_.2.1)] [.row 2 .deep (.int .i64) z_.2.2]
def Ahm(a:List Aa.V)(b:Int):(List Int)→Ex×St:=fun c=>((.exit 0),sT 27 [(3,.ref 0)] [.row 2 .deep (.int .i64) c])
def GP(a:List Aa.V)(b d e:Int)(g:List Int):Option ((Int×Int×(List Int))⊕(List Int)) :=
 bif decide (e<b) then
 if(0:Int)≤e∧e<(a.length:Int) then
 if(0:Int)≤e∧e<(g.length:Int) then
 some (.inl ((wI (d+(a.getD e.toNat (Ty.zero Aa)).2.1)),(wI (e+1)),(g.set e.toNat d)))
 else none
 else none
 else
 some (.inr g)
def B8(a:List Aa.V)(b:Int)(z_:Int×Int×(List Int)):=GP a b z_.1 z_.2.1 z_.2.2
def KE(a:List Aa.V)(b d e:Int)(g:List Int):=fix (B8 a b) (d,e,g)
theorem Aie(a:List Aa.V)(b:Int):LpOk E85 0 4 (code Tryz.f130) [1,1,1,0,1,0] (AeL a b) (B8 a b) (Ahm a b):=by
 intro _
 simp only[B8,GP,mC,mI,mN,mB,mE,mM]
 kernel_rfl
def I2(a:List Aa.V):Option (List Int) :=
 if Ty.row (.int .i64)=true∧(0:Int)≤(a.length:Int)∧(a.length:Int)≤(a.length:Int)∧((8:Nat):Int)*(a.length:Int)≤(281474976710656:Int)∧(a.length:Int)≤(9223372036854775807:Int) then
 (KE a (a.length:Int) 1 0 (List.replicate (a.length:Int).toNat 0)).bind fun c =>
 some c
 else none
theorem U85(R:Type)(a:List Aa.V)(K:AV→List Blk→Option R):runF E85 Tryz.f130 R [dD (.sl Aa) a] [] K=(I2 a).bind fun r=>K (.ref 0) [.row 2 .deep (.int .i64) r]:=by
 simp only[I2,bC,bI,bN,bE,bA,bS,bO,bM]
 simp(disch:=refine sI ?_<;>(repeat' refine sA ?_ ?_)<;>intro _<;>kernel_rfl) only[KE,Au (Aie _ _) (K:=finK E85 Tryz.f130 0 R K)]
 kernel_rfl
def c130:Va.Callee:=brC [.d (.sl Aa)] [⟨[.dat [] (.sl Aa)],[],(List Int),fun p=>I2 p.1.1,fun r=>(.ref 0,[.row 2 .deep (.int .i64) r])⟩]
theorem Xw:SoundC Tryz.prog 130 c130:=Ap (fn:=Tryz.f130) (by kernel_rfl) (by kernel_rfl) (by kernel_rfl) ⟨⟨E85,⟨⟨tabok,An trivial⟩,mixed⟩,fun p R K=>U85 R p.1.1 K⟩,trivial⟩
abbrev E86:Env:=⟨tab,lookH [],{deep:=true,heads:=[(3,{live:=[3,6,7,8]})],outs:=[(3,{live:=[3]})]}⟩
def AfU(a:List Aa.V)(b:Int)(z_:Int×Int):St:=sT 18 [(3,dI z_.1),(6,dD (.sl Aa) a),(7,dI b),(8,dI z_.2)] []
def Ae6(a:List Aa.V)(b:Int):Int→Ex×St:=fun c=>((.exit 0),sT 18 [(3,dI c)] [])
def DU(a:List Aa.V)(b d e:Int):Option ((Int×Int)⊕Int) :=
 bif decide (e<b) then
 if(0:Int)≤e∧e<(a.length:Int) then
 some (.inl ((wI (d+(a.getD e.toNat (Ty.zero Aa)).2.1)),(wI (e+1))))
 else none
 else
 some (.inr d)
def AY(a:List Aa.V)(b:Int)(z_:Int×Int):=DU a b z_.1 z_.2
def HZ(a:List Aa.V)(b d e:Int):=fix (AY a b) (d,e)
theorem Aky(a:List Aa.V)(b:Int):LpOk E86 0 3 (code Tryz.f131) [1,1,0,1,0] (AfU a b) (AY a b) (Ae6 a b):=by
 intro _
 simp only[AY,DU,mC,mI,mN,mB,mE,mM]
 kernel_rfl
def CP(a:List Aa.V):Option Int :=
 (HZ a (a.length:Int) 0 0).bind fun c =>
 some c
theorem U86(R:Type)(a:List Aa.V)(K:AV→List Blk→Option R):runF E86 Tryz.f131 R [dD (.sl Aa) a] [] K=(CP a).bind fun r=>K (dI r) []:=by
 simp only[CP,bC,bI,bN,bE,bA,bS,bO,bM]
 simp(disch:=refine sI ?_<;>(repeat' refine sA ?_ ?_)<;>intro _<;>kernel_rfl) only[HZ,Au (Aky _ _) (K:=finK E86 Tryz.f131 0 R K)]
 kernel_rfl
def c131:Va.Callee:=brC [.d (.sl Aa)] [⟨[.dat [] (.sl Aa)],[],Int,fun p=>CP p.1.1,fun r=>(dI r,[])⟩]
theorem SD:SoundC Tryz.prog 131 c131:=Ap (fn:=Tryz.f131) (by kernel_rfl) (by kernel_rfl) (by kernel_rfl) ⟨⟨E86,⟨⟨tabok,An trivial⟩,mixed⟩,fun p R K=>U86 R p.1.1 K⟩,trivial⟩
abbrev E87:Env:=⟨tab,lookH [],{deep:=true}⟩
def Ep(a:Ah.V)(b:Int):Option Int :=
 if(0:Int)≤(wI (Int.tdiv b 64))∧(wI (Int.tdiv b 64))<(a.2.1.length:Int) then
 if(Int.tmod b 64)<(0:Int) then none else
 some (andI .u64 (shrI .u64 (a.2.1.getD (wI (Int.tdiv b 64)).toNat (Ty.zero (.int .u64))) (Int.tmod b 64)) 1)
 else none
theorem U87(R:Type)(a:Ah.V)(b:Int)(K:AV→List Blk→Option R):runF E87 Tryz.f184 R [dD Ah a,dI b] [] K=(Ep a b).bind fun r=>K (dD (.int .u64) r) []:=by
 simp only[Ep,bC,bI,bN,bE,bA,bS,bO,bM]
 kernel_rfl
def c184:Va.Callee:=brC [.d Ah,.d (.int .i64)] [⟨[.dat [] Ah,.dat [] (.int .i64)],[],Int,fun p=>Ep p.1.1 p.1.2.1,fun r=>(dD (.int .u64) r,[])⟩]
theorem Wt:SoundC Tryz.prog 184 c184:=Ap (fn:=Tryz.f184) (by kernel_rfl) (by kernel_rfl) (by kernel_rfl) ⟨⟨E87,⟨⟨tabok,An trivial⟩,mixed⟩,fun p R K=>U87 R p.1.1 p.1.2.1 K⟩,trivial⟩
end
end Go.Proofs.X
namespace Go.Proofs.X
open Go Go.Va
set_option maxRecDepth 100000
noncomputable section
abbrev E88:Env:=⟨tab,lookH [(184,c184)],{deep:=true,heads:=[(3,{live:=[1,5,10,11,12],pre:=[(5,false,.row [] 218 Ai true)]}),(6,{live:=[1,5,7,10,11,12,17,18],pre:=[(5,false,.row [] 218 Ai true)]})],outs:=[(3,{live:=[5]}),(6,{live:=[1,5,10,11,12]})],joins:=[(11,{live:=[1,5,7,10,11,12,17,18]})],ents:=[(11,[1,5,7,10,11,12,17,18])]}⟩
def AfQ(a:List Int)(b:List Ad.V)(c:Int)(z_:Int×(List Ai.V)):St:=sT 49 [(1,dD (.sl (.int .i64)) a),(5,.ref 0),(10,dD (.sl Ad) b),(11,dI c),(12,dI z_.1)] [.row 218 .deep Ai z_.2]
def Agi(a:List Int)(b:List Ad.V)(c:Int):(List Ai.V)→Ex×St:=fun d=>((.exit 0),sT 49 [(5,.ref 0)] [.row 218 .deep Ai d])
def Ae2(a:List Int)(b:List Ad.V)(c e g:Int)(i:Ad.V)(z_:Int×(List Ai.V)):St:=sT 49 [(1,dD (.sl (.int .i64)) a),(5,.ref 0),(7,.ptr 1 0 [] 0),(10,dD (.sl Ad) b),(11,dI c),(12,dI e),(17,dI g),(18,dI z_.1)] [.row 218 .deep Ai z_.2,.box (dD Ad i)]
def AjY(a:List Int)(b:List Ad.V)(c e g:Int)(i:Ad.V):(List Ai.V)→Ex×St:=fun j=>((.exit 2),sT 49 [(1,dD (.sl (.int .i64)) a),(5,.ref 0),(10,dD (.sl Ad) b),(11,dI c),(12,dI e)] [.row 218 .deep Ai j])
def Aj1(a:List Int)(b:List Ad.V)(c e g k:Int)(l:List Ai.V)(i:Ad.V):St:=sT 49 [(1,dD (.sl (.int .i64)) a),(5,.ref 0),(7,.ptr 1 0 [] 0),(10,dD (.sl Ad) b),(11,dI c),(12,dI e),(17,dI g),(18,dI k)] [.row 218 .deep Ai l,.box (dD Ad i)]
def AhY(a:List Int)(b:List Ad.V)(c e g k:Int)(l:List Ai.V)(i:Ad.V):(List Ai.V)→Ex×St:=fun n=>(.normal,sT 49 [(1,dD (.sl (.int .i64)) a),(5,.ref 0),(7,.ptr 1 0 [] 0),(10,dD (.sl Ad) b),(11,dI c),(12,dI e),(17,dI g),(18,dI k)] [.row 218 .deep Ai n,.box (dD Ad i)])
def Ia(a:List Int)(b:List Ad.V)(c e g k:Int)(l:List Ai.V)(i:Ad.V):Option (List Ai.V) :=
 bif i.1==(-1) then
 (Ep i.2.2.2.1 k).bind fun o =>
 if(l.length+([(0,o,())]:List Ai.V).length)*16≤140737488355328 then
 some (l++([(0,o,())]:List Ai.V))
 else none
 else
 if(0:Int)≤i.1∧i.1<(a.length:Int) then
 if(l.length+([((wI ((wI ((a.getD i.1.toNat (Ty.zero (.int .i64)))+i.2.1))+k)),0,())]:List Ai.V).length)*16≤140737488355328 then
 some (l++([((wI ((wI ((a.getD i.1.toNat (Ty.zero (.int .i64)))+i.2.1))+k)),0,())]:List Ai.V))
 else none
 else none
theorem AfH(a:List Int)(b:List Ad.V)(c e g k:Int)(l:List Ai.V)(i:Ad.V):JnOk E88 0 11 (sub (sub (code Tryz.f132) [1,1,0,1,0,0]) [1,1,0,0,1,1,0,0]) [1,1,0] (Aj1 a b c e g k l i) (Ia a b c e g k l i) (AhY a b c e g k l i):=by
 unfold JnOk
 simp only[Ia,mC,mI,mN,mB,mE,mM]
 kernel_rfl
def Ge(a:List Int)(b:List Ad.V)(c e g:Int)(i:Ad.V)(k:Int)(l:List Ai.V):Option ((Int×(List Ai.V))⊕(List Ai.V)) :=
 bif decide (k<g) then
 (Ia a b c e g k l i).bind fun n =>
 some (.inl ((wI (k+1)),n))
 else
 some (.inr l)
def CJ(a:List Int)(b:List Ad.V)(c e g:Int)(i:Ad.V)(z_:Int×(List Ai.V)):=Ge a b c e g i z_.1 z_.2
def IG(a:List Int)(b:List Ad.V)(c e g:Int)(i:Ad.V)(k:Int)(l:List Ai.V):=fix (CJ a b c e g i) (k,l)
theorem Aga(a:List Int)(b:List Ad.V)(c e g:Int)(i:Ad.V):LpOk E88 0 6 (sub (code Tryz.f132) [1,1,0,1,0,0]) [1,1,0,0,1,1,0] (Ae2 a b c e g i) (CJ a b c e g i) (AjY a b c e g i):=by
 intro _
 simp only[CJ,Ge,mC,mI,mN,mB,mE,mM]
 simp(disch:=refine sI ?_<;>(repeat' refine sA ?_ ?_)<;>intro _<;>kernel_rfl) only[Bn (AfH _ _ _ _ _ _ _ _) (K:=stepK 0 (E88.hd 6) (E88.ot 6))]
 kernel_rfl
def FW(a:List Int)(b:List Ad.V)(c e:Int)(q:List Ai.V):Option ((Int×(List Ai.V))⊕(List Ai.V)) :=
 bif decide (e<c) then
 if(0:Int)≤e∧e<(b.length:Int) then
 (IG a b c e (b.getD e.toNat (Ty.zero Ad)).2.2.1 (b.getD e.toNat (Ty.zero Ad)) 0 q).bind fun j =>
 some (.inl ((wI (e+1)),j))
 else none
 else
 some (.inr q)
def BG(a:List Int)(b:List Ad.V)(c:Int)(z_:Int×(List Ai.V)):=FW a b c z_.1 z_.2
def J9(a:List Int)(b:List Ad.V)(c e:Int)(q:List Ai.V):=fix (BG a b c) (e,q)
theorem AeO(a:List Int)(b:List Ad.V)(c:Int):LpOk E88 0 3 (code Tryz.f132) [1,1,0,1,0] (AfQ a b c) (BG a b c) (Agi a b c):=by
 intro _
 simp only[BG,FW,mC,mI,mN,mB,mE,mM]
 simp(disch:=refine sI ?_<;>(repeat' refine sA ?_ ?_)<;>intro _<;>kernel_rfl) only[IG,Au (Aga _ _ _ _ _ _) (K:=stepK 0 (E88.hd 3) (E88.ot 3))]
 kernel_rfl
def Da(b:List Ad.V)(a:List Int):Option (List Ai.V) :=
 (J9 a b (b.length:Int) 0 ([]:List Ai.V)).bind fun d =>
 some d
theorem U88(R:Type)(b:List Ad.V)(a:List Int)(K:AV→List Blk→Option R):runF E88 Tryz.f132 R [dD (.sl Ad) b,dD (.sl (.int .i64)) a] [] K=(Da b a).bind fun r=>K (.ref 0) [.row 218 .deep Ai r]:=by
 simp only[Da,bC,bI,bN,bE,bA,bS,bO,bM]
 simp(disch:=refine sI ?_<;>(repeat' refine sA ?_ ?_)<;>intro _<;>kernel_rfl) only[J9,Au (AeO _ _ _) (K:=finK E88 Tryz.f132 0 R K)]
 kernel_rfl
def c132:Va.Callee:=brC [.d (.sl Ad),.d (.sl (.int .i64))] [⟨[.dat [] (.sl Ad),.dat [] (.sl (.int .i64))],[],(List Ai.V),fun p=>Da p.1.1 p.1.2.1,fun r=>(.ref 0,[.row 218 .deep Ai r])⟩]
theorem X3:SoundC Tryz.prog 132 c132:=Ap (fn:=Tryz.f132) (by kernel_rfl) (by kernel_rfl) (by kernel_rfl) ⟨⟨E88,⟨⟨tabok,An ⟨Wt,trivial⟩⟩,mixed⟩,fun p R K=>U88 R p.1.1 p.1.2.1 K⟩,trivial⟩
abbrev E89:Env:=⟨tab,lookH [],{deep:=true}⟩
def Ao(a b:Int)(c:List Int)(d:List (List Int)):Option (Int×(List (List Int))) :=
 if(d.length+([c]:List (List Int)).length)*24≤140737488355328 then
 some (b,(d++([c]:List (List Int))))
 else none
theorem U89(R:Type)(a b:Int)(c:List Int)(d:List (List Int))(K:AV→List Blk→Option R):runF E89 Tryz.f192 R [.ptr 0 a [] 0,.ref 1] [.box (.pr (.pr (dI b) (.pr (.ref 2) .u)) .u),.row 2 .deep (.int .i64) c,.row 72 .deep (.sl (.int .i64)) d] K=(Ao a b c d).bind fun r=>K .nil [.box (.pr (.pr (dI r.1) (.pr (.ref 3) .u)) .u),.dead,.dead,.row 72 .deep (.sl (.int .i64)) r.2]:=by
 simp only[Ao,bC,bI,bN,bE,bA,bS,bO,bM]
 kernel_rfl
abbrev E90:Env:=⟨tab,lookH [],{deep:=true}⟩
def Bd(a b:Int)(c:List (List Int)):Option (Int×(List (List Int))) :=
 if(c.length+([([]:List Int)]:List (List Int)).length)*24≤140737488355328 then
 some (b,(c++([([]:List Int)]:List (List Int))))
 else none
theorem U90(R:Type)(a b:Int)(c:List (List Int))(K:AV→List Blk→Option R):runF E90 Tryz.f192 R [.ptr 0 a [] 0,.zs] [.box (.pr (.pr (dI b) (.pr (.ref 1) .u)) .u),.row 72 .deep (.sl (.int .i64)) c] K=(Bd a b c).bind fun r=>K .nil [.box (.pr (.pr (dI r.1) (.pr (.ref 2) .u)) .u),.dead,.row 72 .deep (.sl (.int .i64)) r.2]:=by
 simp only[Bd,bC,bI,bN,bE,bA,bS,bO,bM]
 kernel_rfl
def c192:Va.Callee:=brC [.raw,.raw] [⟨[.ptr 0 [] 0,.k (.ref 1)],[.box (.pr (.pr (.dat [] (.int .i64)) (.pr (.k (.ref 2)) (.k .u))) (.k .u)),.row 2 .deep (.int .i64),.row 72 .deep (.sl (.int .i64))],(Int×(List (List Int))),fun p=>Ao p.1.1 p.2.1.1.1 p.2.2.1 p.2.2.2.1,fun r=>(.nil,[.box (.pr (.pr (dI r.1) (.pr (.ref 3) .u)) .u),.dead,.dead,.row 72 .deep (.sl (.int .i64)) r.2])⟩,⟨[.ptr 0 [] 0,.k .zs],[.box (.pr (.pr (.dat [] (.int .i64)) (.pr (.k (.ref 1)) (.k .u))) (.k .u)),.row 72 .deep (.sl (.int .i64))],(Int×(List (List Int))),fun p=>Bd p.1.1 p.2.1.1.1 p.2.2.1,fun r=>(.nil,[.box (.pr (.pr (dI r.1) (.pr (.ref 2) .u)) .u),.dead,.row 72 .deep (.sl (.int .i64)) r.2])⟩]
theorem Pu:SoundC Tryz.prog 192 c192:=Ap (fn:=Tryz.f192) (by kernel_rfl) (by kernel_rfl) (by kernel_rfl) ⟨⟨E89,⟨⟨tabok,An trivial⟩,mixed⟩,fun p R K=>U89 R p.1.1 p.2.1.1.1 p.2.2.1 p.2.2.2.1 K⟩,⟨E90,⟨⟨tabok,An trivial⟩,mixed⟩,fun p R K=>U90 R p.1.1 p.2.1.1.1 p.2.2.1 K⟩,trivial⟩
abbrev E91:Env:=⟨tab,lookH [(192,c192)],{deep:=true,joins:=[(3,{live:=[0,4,5]}),(8,{live:=[0,4,5,7,49]}),(11,{live:=[7]})],ents:=[(3,[0,4,5]),(8,[0,4,5,7]),(11,[0,4,5,7])]}⟩
def AiA(a:Int)(b:List (List Int))(c d:Int)(e g:Ai.V):St:=sT 78 [(0,.ptr 0 a [] 0),(4,.ptr 2 0 [] 0),(5,.ptr 3 0 [] 0),(7,dI c)] [.box (.pr (.pr (dI d) (.pr (.ref 1) .u)) .u),.row 72 .deep (.sl (.int .i64)) b,.box (dD Ai e),.box (dD Ai g)]
def Akk(a:Int)(b:List (List Int))(c d:Int)(e g:Ai.V):(Int×(List (List Int)))→Ex×St:=fun i=>(.normal,sT 78 [(7,dI c)] [.box (.pr (.pr (dI i.1) (.pr (.ref 2) .u)) .u),.dead,.row 72 .deep (.sl (.int .i64)) i.2])
def Aa7(a c d:Int)(b:List (List Int))(e g:Ai.V):St:=sT 78 [(0,.ptr 0 a [] 0),(4,.ptr 2 0 [] 0),(5,.ptr 3 0 [] 0),(7,dI c)] [.box (.pr (.pr (dI d) (.pr (.ref 1) .u)) .u),.row 72 .deep (.sl (.int .i64)) b,.box (dD Ai e),.box (dD Ai g)]
def Z0(a c d:Int)(b:List (List Int))(e g:Ai.V)(m0:Bool):Ex×St:=(.normal,sT 78 [(0,.ptr 0 a [] 0),(4,.ptr 2 0 [] 0),(5,.ptr 3 0 [] 0),(7,dI c),(49,dB m0)] [.box (.pr (.pr (dI d) (.pr (.ref 1) .u)) .u),.row 72 .deep (.sl (.int .i64)) b,.box (dD Ai e),.box (dD Ai g)])
theorem Age(a c d:Int)(b:List (List Int))(e g:Ai.V):jnS E91 2 8 (sub (code Tryz.f191) [1,1,1,1,0]) [0,0] (Aa7 a c d b e g)=some (Z0 a c d b e g ((e.1==0)&&(e.2.1==1))):=by
 have h0:jnS E91 2 8 (sub (code Tryz.f191) [1,1,1,1,0]) [0,0] (Aa7 a c d b e g) =
 bif e.1==0 then
 some (Z0 a c d b e g (e.2.1==1))
 else
 some (Z0 a c d b e g false):=by kernel_rfl
 rw[h0]
 cases h1:(e.1==0)
 ·first | rfl | kernel_rfl
 ·first | rfl | kernel_rfl
def Dw(a:Int)(b:List (List Int))(c d:Int)(e g:Ai.V):Option (Int×(List (List Int))) :=
 mkr (Aa7 a c d b e g) (
 bif (e.1==0)&&(e.2.1==1) then
 (Ao a d ([(wI (0-g.1)),(wI (0-c))]:List Int) b).bind fun j =>
 some (j.1,j.2)
 else
 bif e.1==0 then
 (Ao a d ([g.1,(wI (0-c))]:List Int) b).bind fun k =>
 some (k.1,k.2)
 else
 (Ao a d ([e.1,g.1,(wI (0-c))]:List Int) b).bind fun l =>
 (Ao a l.1 ([(wI (0-e.1)),(wI (0-g.1)),(wI (0-c))]:List Int) l.2).bind fun n =>
 some (n.1,n.2))
theorem AiP(a:Int)(b:List (List Int))(c d:Int)(e g:Ai.V):JnOk E91 2 11 (code Tryz.f191) [1,1,1,1,0] (AiA a b c d e g) (Dw a b c d e g) (Akk a b c d e g):=by
 unfold JnOk
 simp only[Dw,mC,mI,mN,mB,mE,mM]
 simp(disch:=refine sI ?_<;>(repeat' refine sA ?_ ?_)<;>intro _<;>kernel_rfl) only[Hs (Age _ _ _ _ _ _) (K:=joinK 2 (E91.jn 11))]
 kernel_rfl
def Abb(a o:Int)(b:List (List Int))(q s:Ai.V):St:=sT 78 [(0,.ptr 0 a [] 0),(4,.ptr 2 0 [] 0),(5,.ptr 3 0 [] 0)] [.box (.pr (.pr (dI o) (.pr (.ref 1) .u)) .u),.row 72 .deep (.sl (.int .i64)) b,.box (dD Ai q),.box (dD Ai s)]
def ZD(a o:Int)(b:List (List Int))(m0 m1:Ai.V):Ex×St:=(.normal,sT 78 [(0,.ptr 0 a [] 0),(4,.ptr 2 0 [] 0),(5,.ptr 3 0 [] 0)] [.box (.pr (.pr (dI o) (.pr (.ref 1) .u)) .u),.row 72 .deep (.sl (.int .i64)) b,.box (dD Ai m0),.box (dD Ai m1)])
theorem Ae1(a o:Int)(b:List (List Int))(q s:Ai.V):jnS E91 2 3 (code Tryz.f191) [1,0] (Abb a o b q s)=some (ZD a o b (bif decide (q.1>s.1) then s else q) (bif decide (q.1>s.1) then q else s)):=by
 have h0:jnS E91 2 3 (code Tryz.f191) [1,0] (Abb a o b q s) =
 bif decide (q.1>s.1) then
 some (ZD a o b s q)
 else
 some (ZD a o b q s):=by kernel_rfl
 rw[h0]
 cases h1:(decide (q.1>s.1))
 ·first | rfl | kernel_rfl
 ·first | rfl | kernel_rfl
def AF(a:Int)(q s:Ai.V)(o:Int)(b:List (List Int)):Option (Int×Int×(List (List Int))) :=
 mkr (Abb a o b q s) (
 (Dw a b (wI (o+1)) (wI (o+1)) (bif decide (q.1>s.1) then s else q) (bif decide (q.1>s.1) then q else s)).bind fun i =>
 some ((wI (o+1)),i.1,i.2))
theorem U91(R:Type)(a:Int)(q s:Ai.V)(o:Int)(b:List (List Int))(K:AV→List Blk→Option R):runF E91 Tryz.f191 R [.ptr 0 a [] 0,dD Ai q,dD Ai s] [.box (.pr (.pr (dI o) (.pr (.ref 1) .u)) .u),.row 72 .deep (.sl (.int .i64)) b] K=(AF a q s o b).bind fun r=>K (dI r.1) [.box (.pr (.pr (dI r.2.1) (.pr (.ref 2) .u)) .u),.dead,.row 72 .deep (.sl (.int .i64)) r.2.2]:=by
 simp only[AF,bC,bI,bN,bE,bA,bS,bO,bM]
 simp(disch:=refine sI ?_<;>(repeat' refine sA ?_ ?_)<;>intro _<;>kernel_rfl) only[Hs (Ae1 _ _ _ _ _) (K:=finK E91 Tryz.f191 2 R K),Bn (AiP _ _ _ _ _ _) (K:=finK E91 Tryz.f191 2 R K)]
 kernel_rfl
def c191:Va.Callee:=brC [.raw,.d Ai,.d Ai] [⟨[.ptr 0 [] 0,.dat [] Ai,.dat [] Ai],[.box (.pr (.pr (.dat [] (.int .i64)) (.pr (.k (.ref 1)) (.k .u))) (.k .u)),.row 72 .deep (.sl (.int .i64))],(Int×Int×(List (List Int))),fun p=>AF p.1.1 p.1.2.1 p.1.2.2.1 p.2.1.1.1 p.2.2.1,fun r=>(dI r.1,[.box (.pr (.pr (dI r.2.1) (.pr (.ref 2) .u)) .u),.dead,.row 72 .deep (.sl (.int .i64)) r.2.2])⟩]
theorem WX:SoundC Tryz.prog 191 c191:=Ap (fn:=Tryz.f191) (by kernel_rfl) (by kernel_rfl) (by kernel_rfl) ⟨⟨E91,⟨⟨tabok,An ⟨Pu,trivial⟩⟩,mixed⟩,fun p R K=>U91 R p.1.1 p.1.2.1 p.1.2.2.1 p.2.1.1.1 p.2.2.1 K⟩,trivial⟩
abbrev E92:Env:=⟨tab,lookH [(192,c192)],{deep:=true,joins:=[(5,{live:=[0,4,5]}),(9,{live:=[0,4,5,39]})],ents:=[(5,[0,4,5]),(9,[0,4,5])],fin:=[.mv 0 [0,1],.dead 1]}⟩
def Aat(a b:Int)(c:List (List Int))(d e:Ai.V):St:=sT 63 [(0,.ptr 0 a [] 0),(4,.ptr 2 0 [] 0),(5,.ptr 3 0 [] 0)] [.box (.pr (.pr (dI b) (.pr (.ref 1) .u)) .u),.row 72 .deep (.sl (.int .i64)) c,.box (dD Ai (bif decide (d.1>e.1) then e else d)),.box (dD Ai (bif decide (d.1>e.1) then d else e))]
def AaI(a b:Int)(c:List (List Int))(d e:Ai.V)(m0:Bool):Ex×St:=(.normal,sT 63 [(0,.ptr 0 a [] 0),(4,.ptr 2 0 [] 0),(5,.ptr 3 0 [] 0),(39,dB m0)] [.box (.pr (.pr (dI b) (.pr (.ref 1) .u)) .u),.row 72 .deep (.sl (.int .i64)) c,.box (dD Ai (bif decide (d.1>e.1) then e else d)),.box (dD Ai (bif decide (d.1>e.1) then d else e))])
theorem AeX(a b:Int)(c:List (List Int))(d e:Ai.V):jnS E92 2 9 (code Tryz.f134) [1,1,0,1,1,1,1,0] (Aat a b c d e)=some (AaI a b c d e (((bif decide (d.1>e.1) then e else d).1==0)&&((bif decide (d.1>e.1) then e else d).2.1==1))):=by
 have h0:jnS E92 2 9 (code Tryz.f134) [1,1,0,1,1,1,1,0] (Aat a b c d e) =
 bif (bif (decide (d.1>e.1)) then e else d).1==0 then
 some (AaI a b c d e ((bif decide (d.1>e.1) then e else d).2.1==1))
 else
 some (AaI a b c d e false):=by kernel_rfl
 rw[h0]
 cases h1:((bif decide (d.1>e.1) then e else d).1==0)
 ·first | rfl | kernel_rfl
 ·first | rfl | kernel_rfl
def Zs(a b:Int)(c:List (List Int))(d e:Ai.V):St:=sT 63 [(0,.ptr 0 a [] 0),(4,.ptr 2 0 [] 0),(5,.ptr 3 0 [] 0)] [.box (.pr (.pr (dI b) (.pr (.ref 1) .u)) .u),.row 72 .deep (.sl (.int .i64)) c,.box (dD Ai d),.box (dD Ai e)]
def ZP(a b:Int)(c:List (List Int))(m0 m1:Ai.V):Ex×St:=(.normal,sT 63 [(0,.ptr 0 a [] 0),(4,.ptr 2 0 [] 0),(5,.ptr 3 0 [] 0)] [.box (.pr (.pr (dI b) (.pr (.ref 1) .u)) .u),.row 72 .deep (.sl (.int .i64)) c,.box (dD Ai m0),.box (dD Ai m1)])
theorem Ajt(a b:Int)(c:List (List Int))(d e:Ai.V):jnS E92 2 5 (code Tryz.f134) [1,0] (Zs a b c d e)=some (ZP a b c (bif decide (d.1>e.1) then e else d) (bif decide (d.1>e.1) then d else e)):=by
 have h0:jnS E92 2 5 (code Tryz.f134) [1,0] (Zs a b c d e) =
 bif decide (d.1>e.1) then
 some (ZP a b c e d)
 else
 some (ZP a b c d e):=by kernel_rfl
 rw[h0]
 cases h1:(decide (d.1>e.1))
 ·first | rfl | kernel_rfl
 ·first | rfl | kernel_rfl
def BW(a:Int)(d e:Ai.V)(b:Int)(c:List (List Int)):Option (Int×(List (List Int))) :=
 mkr (Zs a b c d e) (
 bif flatEq Ai (bif (decide (d.1>e.1)) then e else d) (bif (decide (d.1>e.1)) then d else e) then
 some (b,c)
 else
 bif (bif (decide (d.1>e.1)) then d else e).1==0 then
 (Bd a b c).bind fun g =>
 some (g.1,g.2)
 else
 mkr (Aat a b c d e) (
 bif ((bif (decide (d.1>e.1)) then e else d).1==0)&&((bif (decide (d.1>e.1)) then e else d).2.1==1) then
 (Ao a b ([(bif decide (d.1>e.1) then d else e).1]:List Int) c).bind fun i =>
 some (i.1,i.2)
 else
 bif (bif (decide (d.1>e.1)) then e else d).1==0 then
 (Ao a b ([(wI (0-(bif decide (d.1>e.1) then d else e).1))]:List Int) c).bind fun j =>
 some (j.1,j.2)
 else
 (Ao a b ([(wI (0-(bif decide (d.1>e.1) then e else d).1)),(bif decide (d.1>e.1) then d else e).1]:List Int) c).bind fun k =>
 (Ao a k.1 ([(bif decide (d.1>e.1) then e else d).1,(wI (0-(bif decide (d.1>e.1) then d else e).1))]:List Int) k.2).bind fun l =>
 some (l.1,l.2)))
theorem U92(R:Type)(a:Int)(d e:Ai.V)(b:Int)(c:List (List Int))(K:AV→List Blk→Option R):runF E92 Tryz.f134 R [.ptr 0 a [] 0,dD Ai d,dD Ai e] [.box (.pr (.pr (dI b) (.pr (.ref 1) .u)) .u),.row 72 .deep (.sl (.int .i64)) c] K=(BW a d e b c).bind fun r=>K .nil [.box (.pr (.pr (dI r.1) (.pr (.ref 2) .u)) .u),.dead,.row 72 .deep (.sl (.int .i64)) r.2]:=by
 simp only[BW,bC,bI,bN,bE,bA,bS,bO,bM]
 simp(disch:=refine sI ?_<;>(repeat' refine sA ?_ ?_)<;>intro _<;>kernel_rfl) only[Hs (Ajt _ _ _ _ _) (K:=finK E92 Tryz.f134 2 R K),Hs (AeX _ _ _ _ _) (K:=finK E92 Tryz.f134 2 R K)]
 kernel_rfl
def c134:Va.Callee:=brC [.raw,.d Ai,.d Ai] [⟨[.ptr 0 [] 0,.dat [] Ai,.dat [] Ai],[.box (.pr (.pr (.dat [] (.int .i64)) (.pr (.k (.ref 1)) (.k .u))) (.k .u)),.row 72 .deep (.sl (.int .i64))],(Int×(List (List Int))),fun p=>BW p.1.1 p.1.2.1 p.1.2.2.1 p.2.1.1.1 p.2.2.1,fun r=>(.nil,[.box (.pr (.pr (dI r.1) (.pr (.ref 2) .u)) .u),.dead,.row 72 .deep (.sl (.int .i64)) r.2])⟩]
theorem Xh:SoundC Tryz.prog 134 c134:=Ap (fn:=Tryz.f134) (by kernel_rfl) (by kernel_rfl) (by kernel_rfl) ⟨⟨E92,⟨⟨tabok,An ⟨Pu,trivial⟩⟩,mixed⟩,fun p R K=>U92 R p.1.1 p.1.2.1 p.1.2.2.1 p.2.1.1.1 p.2.2.1 K⟩,trivial⟩
abbrev E93:Env:=⟨tab,lookH [(191,c191),(192,c192)],{deep:=true,heads:=[(1,{live:=[0,1,2,10,11]}),(7,{live:=[0,1,2,7,42,43],mvp:=[(0,[0,1])],pre:=[(7,false,.row [] 2 (.int .i64) true)]})],outs:=[(1,{live:=[0,1,2]}),(7,{live:=[0,7]})],joins:=[(4,{live:=[0,1,2,10,11]}),(11,{live:=[0,1,2,7,42,43],mvp:=[(0,[0,1])],pre:=[(7,false,.row [] 2 (.int .i64) true)]})],draws:=[(10,{live:=[0,1,2,7,42,43]})],ents:=[(4,[0,1,2,10,11]),(11,[0,1,2,7,42,43])],dents:=[(10,[0,1,2,7,8,42,43])],fin:=[.mv 0 [0,1],.dead 1]}⟩
def AdQ(a:Int)(b c:List Ai.V)(d:Int)(z_:Int×Int×(List Int)×(List (List Int))):St:=sT 72 [(0,.ptr 0 a [] 0),(1,dD (.sl Ai) b),(2,dD (.sl Ai) c),(7,.ref 2),(42,dI d),(43,dI z_.1)] [.box (.pr (.pr (dI z_.2.1) (.pr (.ref 3) .u)) .u),.dead,.row 2 .deep (.int .i64) z_.2.2.1,.row 72 .deep (.sl (.int .i64)) z_.2.2.2]
def Aeh(a:Int)(b c:List Ai.V)(d:Int):(Int×(List Int)×(List (List Int)))→Ex×St:=fun e=>((.exit 2),sT 72 [(0,.ptr 0 a [] 0),(7,.ref 2)] [.box (.pr (.pr (dI e.1) (.pr (.ref 3) .u)) .u),.dead,.row 2 .deep (.int .i64) e.2.1,.row 72 .deep (.sl (.int .i64)) e.2.2])
def AeP(a:Int)(b c:List Ai.V)(d g i:Int)(j:List Int)(k:List (List Int)):St:=sT 72 [(0,.ptr 0 a [] 0),(1,dD (.sl Ai) b),(2,dD (.sl Ai) c),(7,.ref 2),(42,dI d),(43,dI g)] [.box (.pr (.pr (dI i) (.pr (.ref 3) .u)) .u),.dead,.row 2 .deep (.int .i64) j,.row 72 .deep (.sl (.int .i64)) k]
def Ajj(a:Int)(b c:List Ai.V)(d g i:Int)(j:List Int)(k:List (List Int)):(Int×(List Int)×(List (List Int)))→Ex×St:=fun l=>(.normal,sT 72 [(0,.ptr 0 a [] 0),(1,dD (.sl Ai) b),(2,dD (.sl Ai) c),(7,.ref 2),(42,dI d),(43,dI g)] [.box (.pr (.pr (dI l.1) (.pr (.ref 3) .u)) .u),.dead,.row 2 .deep (.int .i64) l.2.1,.row 72 .deep (.sl (.int .i64)) l.2.2])
def Aef(a:Int)(b c:List Ai.V)(g d i:Int)(j:List Int)(k:List (List Int)):St:=sT 72 [(0,.ptr 0 a [] 0),(1,dD (.sl Ai) b),(2,dD (.sl Ai) c),(7,.ref 2),(8,dI g),(42,dI d),(43,dI g)] [.box (.pr (.pr (dI i) (.pr (.ref 3) .u)) .u),.dead,.row 2 .deep (.int .i64) j,.row 72 .deep (.sl (.int .i64)) k]
def TA(a:Int)(b c:List Ai.V)(g d i:Int)(j:List Int)(k:List (List Int)):(Int×(List Int)×(List (List Int)))→St:=fun n=>sT 72 [(0,.ptr 0 a [] 0),(1,dD (.sl Ai) b),(2,dD (.sl Ai) c),(7,.ref 2),(42,dI d),(43,dI g)] [.box (.pr (.pr (dI n.1) (.pr (.ref 3) .u)) .u),.dead,.row 2 .deep (.int .i64) n.2.1,.row 72 .deep (.sl (.int .i64)) n.2.2]
def CZ(a:Int)(b c:List Ai.V)(g d i:Int)(j:List Int)(k:List (List Int)):Option (Int×(List Int)×(List (List Int))) :=
 if(0:Int)≤g∧g<(b.length:Int) then
 if(0:Int)≤g∧g<(c.length:Int) then
 (AF a (b.getD g.toNat (Ty.zero Ai)) (c.getD g.toNat (Ty.zero Ai)) i k).bind fun o =>
 if(j.length+([o.1]:List Int).length)*8≤140737488355328 then
 some (o.2.1,(j++([o.1]:List Int)),o.2.2)
 else none
 else none
 else none
theorem AfB(a:Int)(b c:List Ai.V)(g d i:Int)(j:List Int)(k:List (List Int)):DrOk E93 2 10 (sub (sub (code Tryz.f133) [1,1,0,1,0,0]) [1,1,0]) [0,1,1,0] (Aef a b c g d i j k) (CZ a b c g d i j k) (TA a b c g d i j k):=by
 unfold DrOk
 have h:drS E93 2 10 (sub (sub (code Tryz.f133) [1,1,0,1,0,0]) [1,1,0]) [0,1,1,0] (Aef a b c g d i j k) =
 if(0:Int)≤g∧g<(b.length:Int) then
 if(0:Int)≤g∧g<(c.length:Int) then
 (AF a (b.getD g.toNat (Ty.zero Ai)) (c.getD g.toNat (Ty.zero Ai)) i k).bind fun o =>
 if(j.length+([o.1]:List Int).length)*8≤140737488355328 then
 ((if(0:Int)≤g∧g<(b.length:Int) then
 if(0:Int)≤g∧g<(c.length:Int) then
 ((AF a (b.getD g.toNat (Ty.zero Ai)) (c.getD g.toNat (Ty.zero Ai)) i k).bind fun q =>
 if(j.length+([q.1]:List Int).length)*8≤140737488355328 then
 eqSt (TA a b c g d i j k (q.2.1,(j++([q.1]:List Int)),q.2.2)) (TA a b c g d i j k (o.2.1,(j++([o.1]:List Int)),o.2.2))
 else none).bind fun _ =>
 (AF a (b.getD g.toNat (Ty.zero Ai)) (c.getD g.toNat (Ty.zero Ai)) i k).bind fun s =>
 if(j.length+([s.1]:List Int).length)*8≤140737488355328 then
 eqSt (TA a b c g d i j k (s.2.1,(j++([s.1]:List Int)),s.2.2)) (TA a b c g d i j k (o.2.1,(j++([o.1]:List Int)),o.2.2))
 else none
 else none
 else none).bind fun _=>some (TA a b c g d i j k (o.2.1,(j++([o.1]:List Int)),o.2.2)))
 else none
 else none
 else none:=by kernel_rfl
 rw[h]
 unfold CZ
 simp only[mC,mI,mN,mB,mE,mM,mS,mO]
 clear h
 by_cases hc0:(0:Int)≤g∧g<(b.length:Int)
 ·rw[if_pos hc0,if_pos hc0]
  by_cases hc1:(0:Int)≤g∧g<(c.length:Int)
  ·rw[if_pos hc1,if_pos hc1]
   cases hc2:AF a (b.getD g.toNat (Ty.zero Ai)) (c.getD g.toNat (Ty.zero Ai)) i k with
   | none=>rfl
   | some o =>
    simp only[Option.bind_some]
    by_cases hc3:(j.length+([o.1]:List Int).length)*8≤140737488355328
    ·rw[if_pos hc3,if_pos hc3]
     simp only[if_pos hc0,if_pos hc1,hc2,if_pos hc3,Option.bind_some,LC]
    ·simp only[if_pos hc0,if_pos hc1,hc2,if_neg hc3]
  ·simp only[if_pos hc0,if_neg hc1]
 ·simp only[if_neg hc0]
def By(a:Int)(b c:List Ai.V)(d g i:Int)(j:List Int)(k:List (List Int)):Option (Int×(List Int)×(List (List Int))) :=
 if(0:Int)≤g∧g<(b.length:Int) then
 if(0:Int)≤g∧g<(c.length:Int) then
 bif !(flatEq Ai (b.getD g.toNat (Ty.zero Ai)) (c.getD g.toNat (Ty.zero Ai))) then
 (CZ a b c g d i j k).bind fun n =>
 some (n.1,n.2.1,n.2.2)
 else
 some (i,j,k)
 else none
 else none
theorem Agc(a:Int)(b c:List Ai.V)(d g i:Int)(j:List Int)(k:List (List Int)):JnOk E93 2 11 (sub (code Tryz.f133) [1,1,0,1,0,0]) [1,1,0] (AeP a b c d g i j k) (By a b c d g i j k) (Ajj a b c d g i j k):=by
 unfold JnOk
 simp only[By,mC,mI,mN,mB,mE,mM]
 simp(disch:=refine sI ?_<;>(repeat' refine sA ?_ ?_)<;>intro _<;>kernel_rfl) only[UM (AfB _ _ _ _ _ _ _ _) (K:=joinK 2 (E93.jn 11))]
 kernel_rfl
def BP(a:Int)(b c:List Ai.V)(d g i:Int)(j:List Int)(k:List (List Int)):Option ((Int×Int×(List Int)×(List (List Int)))⊕(Int×(List Int)×(List (List Int)))) :=
 bif decide (g<d) then
 (By a b c d g i j k).bind fun l =>
 some (.inl ((wI (g+1)),l.1,l.2.1,l.2.2))
 else
 some (.inr (i,j,k))
def AK(a:Int)(b c:List Ai.V)(d:Int)(z_:Int×Int×(List Int)×(List (List Int))):=BP a b c d z_.1 z_.2.1 z_.2.2.1 z_.2.2.2
def Ct(a:Int)(b c:List Ai.V)(d g i:Int)(j:List Int)(k:List (List Int)):=fix (AK a b c d) (g,i,j,k)
theorem Ade(a:Int)(b c:List Ai.V)(d:Int):LpOk E93 2 7 (code Tryz.f133) [1,1,0,1,0] (AdQ a b c d) (AK a b c d) (Aeh a b c d):=by
 intro _
 simp only[AK,BP,mC,mI,mN,mB,mE,mM]
 simp(disch:=refine sI ?_<;>(repeat' refine sA ?_ ?_)<;>intro _<;>kernel_rfl) only[Bn (Agc _ _ _ _ _ _ _ _) (K:=stepK 2 (E93.hd 7) (E93.ot 7))]
 kernel_rfl
def Aj0(a:Int)(b c:List Ai.V)(t:Int)(u:List (List Int))(v z_:Int):St:=sT 72 [(0,.ptr 0 a [] 0),(1,dD (.sl Ai) b),(2,dD (.sl Ai) c),(10,dI v),(11,dI z_)] [.box (.pr (.pr (dI t) (.pr (.ref 1) .u)) .u),.row 72 .deep (.sl (.int .i64)) u]
def Akp(a:Int)(b c:List Ai.V)(t:Int)(u:List (List Int))(v:Int):(Unit⊕Unit)→Ex×St:=Sum.elim (fun w=>(.ret,sT 72 [(0,.ptr 0 a [] 0),(1,dD (.sl Ai) b),(2,dD (.sl Ai) c)] [.box (.pr (.pr (dI t) (.pr (.ref 1) .u)) .u),.row 72 .deep (.sl (.int .i64)) u])) (fun x=>((.exit 0),sT 72 [(0,.ptr 0 a [] 0),(1,dD (.sl Ai) b),(2,dD (.sl Ai) c)] [.box (.pr (.pr (dI t) (.pr (.ref 1) .u)) .u),.row 72 .deep (.sl (.int .i64)) u]))
def Ae9(a:Int)(b c:List Ai.V)(v y t:Int)(u:List (List Int)):St:=sT 72 [(0,.ptr 0 a [] 0),(1,dD (.sl Ai) b),(2,dD (.sl Ai) c),(10,dI v),(11,dI y)] [.box (.pr (.pr (dI t) (.pr (.ref 1) .u)) .u),.row 72 .deep (.sl (.int .i64)) u]
def Agn(a:Int)(b c:List Ai.V)(v y t:Int)(u:List (List Int)):(Unit⊕Unit)→Ex×St:=Sum.elim (fun a1=>(.ret,sT 72 [(0,.ptr 0 a [] 0),(1,dD (.sl Ai) b),(2,dD (.sl Ai) c),(10,dI v),(11,dI y)] [.box (.pr (.pr (dI t) (.pr (.ref 1) .u)) .u),.row 72 .deep (.sl (.int .i64)) u])) (fun b1=>(.normal,sT 72 [(0,.ptr 0 a [] 0),(1,dD (.sl Ai) b),(2,dD (.sl Ai) c),(10,dI v),(11,dI y)] [.box (.pr (.pr (dI t) (.pr (.ref 1) .u)) .u),.row 72 .deep (.sl (.int .i64)) u]))
def Bx(a:Int)(b c:List Ai.V)(v y t:Int)(u:List (List Int)):Option (Unit⊕Unit) :=
 if(0:Int)≤y∧y<(b.length:Int) then
 bif (b.getD y.toNat (Ty.zero Ai)).1==0 then
 if(0:Int)≤y∧y<(c.length:Int) then
 bif (c.getD y.toNat (Ty.zero Ai)).1==0 then
 if(0:Int)≤y∧y<(b.length:Int) then
 if(0:Int)≤y∧y<(c.length:Int) then
 bif !(flatEq Ai (b.getD y.toNat (Ty.zero Ai)) (c.getD y.toNat (Ty.zero Ai))) then
 some (.inl ())
 else
 some (.inr ())
 else none
 else none
 else
 some (.inr ())
 else none
 else
 some (.inr ())
 else none
theorem Ag7(a:Int)(b c:List Ai.V)(v y t:Int)(u:List (List Int)):JnOk E93 2 4 (sub (code Tryz.f133) [0,1,0,0]) [1,1,0] (Ae9 a b c v y t u) (Bx a b c v y t u) (Agn a b c v y t u):=by
 unfold JnOk
 simp only[Bx,mC,mI,mN,mB,mE,mM]
 kernel_rfl
def Ee(a:Int)(b c:List Ai.V)(t:Int)(u:List (List Int))(v y:Int):Option (Int⊕(Unit⊕Unit)) :=
 bif decide (y<v) then
 (Bx a b c v y t u).bind (Sum.elim (fun a1 =>
 some (.inr (.inl ()))) (fun b1 =>
 some (.inl (wI (y+1)))))
 else
 some (.inr (.inr ()))
def B2(a:Int)(b c:List Ai.V)(t:Int)(u:List (List Int))(v z_:Int):=Ee a b c t u v z_
def CX(a:Int)(b c:List Ai.V)(t:Int)(u:List (List Int))(v y:Int):=fix (B2 a b c t u v) y
theorem AiK(a:Int)(b c:List Ai.V)(t:Int)(u:List (List Int))(v:Int):LpOk E93 2 1 (code Tryz.f133) [0,1,0] (Aj0 a b c t u v) (B2 a b c t u v) (Akp a b c t u v):=by
 intro _
 simp only[B2,Ee,mC,mI,mN,mB,mE,mM]
 simp(disch:=refine sI ?_<;>(repeat' refine sA ?_ ?_)<;>intro _<;>kernel_rfl) only[Bn (Ag7 _ _ _ _ _ _ _) (K:=stepK 2 (E93.hd 1) (E93.ot 1))]
 kernel_rfl
def BK(a:Int)(b c:List Ai.V)(t:Int)(u:List (List Int)):Option (Int×(List (List Int))) :=
 (CX a b c t u (b.length:Int) 0).bind (Sum.elim (fun w =>
 some (t,u)) (fun x =>
 (Ct a b c (b.length:Int) 0 t ([]:List Int) u).bind fun e =>
 (Ao a e.1 e.2.1 e.2.2).bind fun c1 =>
 some (c1.1,c1.2)))
theorem U93(R:Type)(a:Int)(b c:List Ai.V)(t:Int)(u:List (List Int))(K:AV→List Blk→Option R):runF E93 Tryz.f133 R [.ptr 0 a [] 0,dD (.sl Ai) b,dD (.sl Ai) c] [.box (.pr (.pr (dI t) (.pr (.ref 1) .u)) .u),.row 72 .deep (.sl (.int .i64)) u] K=(BK a b c t u).bind fun r=>K .nil [.box (.pr (.pr (dI r.1) (.pr (.ref 2) .u)) .u),.dead,.row 72 .deep (.sl (.int .i64)) r.2]:=by
 simp only[BK,bC,bI,bN,bE,bA,bS,bO,bM]
 simp(disch:=refine sI ?_<;>(repeat' refine sA ?_ ?_)<;>intro _<;>kernel_rfl) only[CX,Au (AiK _ _ _ _ _ _) (K:=finK E93 Tryz.f133 2 R K),Ct,Au (Ade _ _ _ _) (K:=finK E93 Tryz.f133 2 R K)]
 kernel_rfl
def c133:Va.Callee:=brC [.raw,.d (.sl Ai),.d (.sl Ai)] [⟨[.ptr 0 [] 0,.dat [] (.sl Ai),.dat [] (.sl Ai)],[.box (.pr (.pr (.dat [] (.int .i64)) (.pr (.k (.ref 1)) (.k .u))) (.k .u)),.row 72 .deep (.sl (.int .i64))],(Int×(List (List Int))),fun p=>BK p.1.1 p.1.2.1 p.1.2.2.1 p.2.1.1.1 p.2.2.1,fun r=>(.nil,[.box (.pr (.pr (dI r.1) (.pr (.ref 2) .u)) .u),.dead,.row 72 .deep (.sl (.int .i64)) r.2])⟩]
theorem YE:SoundC Tryz.prog 133 c133:=Ap (fn:=Tryz.f133) (by kernel_rfl) (by kernel_rfl) (by kernel_rfl) ⟨⟨E93,⟨⟨tabok,An ⟨WX,Pu,trivial⟩⟩,mixed⟩,fun p R K=>U93 R p.1.1 p.1.2.1 p.1.2.2.1 p.2.1.1.1 p.2.2.1 K⟩,trivial⟩
abbrev E94:Env:=⟨tab,lookH [(59,c59)],{deep:=true,heads:=[(5,{live:=[1,5,11,12,13]})],outs:=[(5,{live:=[4]})],joins:=[(8,{live:=[1,7,11,12,13,34]})],ents:=[(8,[1,5,7,11,12,13])]}⟩
def AjV(a:Int)(b:List Int)(c:Int)(z_:Int×Int):St:=sT 40 [(1,dI a),(5,dI z_.1),(11,dD (.sl (.int .i64)) b),(12,dI c),(13,dI z_.2)] []
def Ais(a:Int)(b:List Int)(c:Int):(Unit⊕Unit)→Ex×St:=Sum.elim (fun d=>(.ret,sT 40 [(4,dB false)] [])) (fun e=>((.exit 0),sT 40 [] []))
def AaN(a g:Int)(b:List Int)(i c:Int):St:=sT 40 [(1,dI a),(5,dI g),(7,dI (b.getD i.toNat (Ty.zero (.int .i64)))),(11,dD (.sl (.int .i64)) b),(12,dI c),(13,dI i)] []
def Wu(a:Int)(b:List Int)(i c:Int)(m0:Bool):Ex×St:=(.normal,sT 40 [(1,dI a),(7,dI (b.getD i.toNat (Ty.zero (.int .i64)))),(11,dD (.sl (.int .i64)) b),(12,dI c),(13,dI i),(34,dB m0)] [])
theorem Aim(a g:Int)(b:List Int)(i c:Int):jnS E94 0 8 (sub (code Tryz.f195) [1,1,1,0,1,0,0]) [1,1,0,0,1,0,0] (AaN a g b i c)=some (Wu a b i c (((b.getD i.toNat (Ty.zero (.int .i64)))==0)||((!(Aq (b.getD i.toNat (Ty.zero (.int .i64))) (wI (0-a)) a))||(decide ((if(wI (0-(b.getD i.toNat (Ty.zero (.int .i64)))))>(b.getD i.toNat (Ty.zero (.int .i64))) then(wI (0-(b.getD i.toNat (Ty.zero (.int .i64))))) else(b.getD i.toNat (Ty.zero (.int .i64))))≤g))))):=by
 have h0:jnS E94 0 8 (sub (code Tryz.f195) [1,1,1,0,1,0,0]) [1,1,0,0,1,0,0] (AaN a g b i c) =
 bif (b.getD i.toNat (Ty.zero (.int .i64)))==0 then
 some (Wu a b i c true)
 else
 bif !(Aq (b.getD i.toNat (Ty.zero (.int .i64))) (wI (0-a)) a) then
 some (Wu a b i c true)
 else
 some (Wu a b i c (decide ((if(wI (0-(b.getD i.toNat (Ty.zero (.int .i64)))))>(b.getD i.toNat (Ty.zero (.int .i64))) then(wI (0-(b.getD i.toNat (Ty.zero (.int .i64))))) else(b.getD i.toNat (Ty.zero (.int .i64))))≤g))):=by kernel_rfl
 rw[h0]
 cases h1:((b.getD i.toNat (Ty.zero (.int .i64)))==0)
 ·cases h2:(!(Aq (b.getD i.toNat (Ty.zero (.int .i64))) (wI (0-a)) a))
  ·first | rfl | kernel_rfl
  ·first | rfl | kernel_rfl
 ·first | rfl | kernel_rfl
def H5(a:Int)(b:List Int)(c g i:Int):Option ((Int×Int)⊕(Unit⊕Unit)) :=
 bif decide (i<c) then
 if(0:Int)≤i∧i<(b.length:Int) then
 mkr (AaN a g b i c) (
 bif ((b.getD i.toNat (Ty.zero (.int .i64)))==0)||((!(Aq (b.getD i.toNat (Ty.zero (.int .i64))) (wI (0-a)) a))||(decide ((if(wI (0-(b.getD i.toNat (Ty.zero (.int .i64)))))>(b.getD i.toNat (Ty.zero (.int .i64))) then(wI (0-(b.getD i.toNat (Ty.zero (.int .i64))))) else(b.getD i.toNat (Ty.zero (.int .i64))))≤g))) then
 some (.inr (.inl ()))
 else
 some (.inl ((if(wI (0-(b.getD i.toNat (Ty.zero (.int .i64)))))>(b.getD i.toNat (Ty.zero (.int .i64))) then(wI (0-(b.getD i.toNat (Ty.zero (.int .i64))))) else(b.getD i.toNat (Ty.zero (.int .i64)))),(wI (i+1)))))
 else none
 else
 some (.inr (.inr ()))
def Fm(a:Int)(b:List Int)(c:Int)(z_:Int×Int):=H5 a b c z_.1 z_.2
def Jq(a:Int)(b:List Int)(c g i:Int):=fix (Fm a b c) (g,i)
theorem Ahd(a:Int)(b:List Int)(c:Int):LpOk E94 0 5 (code Tryz.f195) [1,1,1,0,1,0] (AjV a b c) (Fm a b c) (Ais a b c):=by
 intro _
 simp only[Fm,H5,mC,mI,mN,mB,mE,mM]
 simp(disch:=refine sI ?_<;>(repeat' refine sA ?_ ?_)<;>intro _<;>kernel_rfl) only[Hs (Aim _ _ _ _ _) (K:=stepK 0 (E94.hd 5) (E94.ot 5))]
 kernel_rfl
def Gp(b:List Int)(a:Int):Option Bool :=
 bif decide ((b.length:Int)>400) then
 some false
 else
 (Jq a b (b.length:Int) 0 0).bind (Sum.elim (fun d =>
 some false) (fun e =>
 some true))
theorem U94(R:Type)(b:List Int)(a:Int)(K:AV→List Blk→Option R):runF E94 Tryz.f195 R [dD (.sl (.int .i64)) b,dI a] [] K=(Gp b a).bind fun r=>K (dB r) []:=by
 simp only[Gp,bC,bI,bN,bE,bA,bS,bO,bM]
 simp(disch:=refine sI ?_<;>(repeat' refine sA ?_ ?_)<;>intro _<;>kernel_rfl) only[Jq,Au (Ahd _ _ _) (K:=finK E94 Tryz.f195 0 R K)]
 kernel_rfl
def c195:Va.Callee:=brC [.d (.sl (.int .i64)),.d (.int .i64)] [⟨[.dat [] (.sl (.int .i64)),.dat [] (.int .i64)],[],Bool,fun p=>Gp p.1.1 p.1.2.1,fun r=>(dB r,[])⟩]
theorem Xb:SoundC Tryz.prog 195 c195:=Ap (fn:=Tryz.f195) (by kernel_rfl) (by kernel_rfl) (by kernel_rfl) ⟨⟨E94,⟨⟨tabok,An ⟨Lu,trivial⟩⟩,mixed⟩,fun p R K=>U94 R p.1.1 p.1.2.1 K⟩,trivial⟩
abbrev E95:Env:=⟨tab,lookH [(195,c195)],{deep:=true}⟩
def Jn(a:List Int)(b:Ag.V):Option Bool :=
 (Gp a b.1).bind fun c =>
 some (!c)
theorem U95(R:Type)(a:List Int)(b:Ag.V)(K:AV→List Blk→Option R):runF E95 Tryz.f194 R [dD (.sl (.int .i64)) a,.rop [] Ag b] [] K=(Jn a b).bind fun r=>K (dB r) []:=by
 simp only[Jn,bC,bI,bN,bE,bA,bS,bO,bM]
 kernel_rfl
def c194:Va.Callee:=brC [.d (.sl (.int .i64)),.p Ag] [⟨[.dat [] (.sl (.int .i64)),.rop [] Ag],[],Bool,fun p=>Jn p.1.1 p.1.2.1,fun r=>(dB r,[])⟩]
theorem Yt:SoundC Tryz.prog 194 c194:=Ap (fn:=Tryz.f194) (by kernel_rfl) (by kernel_rfl) (by kernel_rfl) ⟨⟨E95,⟨⟨tabok,An ⟨Xb,trivial⟩⟩,mixed⟩,fun p R K=>U95 R p.1.1 p.1.2.1 K⟩,trivial⟩
end
end Go.Proofs.X
