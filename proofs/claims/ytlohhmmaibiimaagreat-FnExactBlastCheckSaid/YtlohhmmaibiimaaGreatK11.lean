import Derived.KernelRfl
import Derived.Test.YtlohhmmaibiimaaGreatK10
set_option linter.unusedVariables false
set_option linter.unusedSimpArgs false
namespace Go.Proofs.X
open Go Go.Va
set_option maxRecDepth 100000
noncomputable section
abbrev E96:Env:=⟨tab,lookH [(194,c194)],{deep:=true,heads:=[(2,{live:=[0,1,7,8]})],outs:=[(2,{live:=[4]})]}⟩
def Afx(a:List (List Int))(b:Int)(c:Ag.V)(d z_:Int):St:=sT 19 [(0,dD (.sl (.sl (.int .i64))) a),(1,.fn 194 (.cons (.ptr 0 b [] 0) .nil)),(7,dI d),(8,dI z_)] [.box (dD Ag c)]
def AhA(a:List (List Int))(b:Int)(c:Ag.V)(d:Int):(Int⊕Unit)→Ex×St:=Sum.elim (fun e=>(.ret,sT 19 [(4,dI e)] [.box (dD Ag c)])) (fun g=>((.exit 0),sT 19 [] [.box (dD Ag c)]))
def CR(a:List (List Int))(b:Int)(c:Ag.V)(d i:Int):Option (Int⊕(Int⊕Unit)) :=
 bif decide (i<d) then
 if(0:Int)≤i∧i<(a.length:Int) then
 (Jn (a.getD i.toNat (Ty.zero (.sl (.int .i64)))) c).bind fun j =>
 bif j then
 some (.inr (.inl i))
 else
 some (.inl (wI (i+1)))
 else none
 else
 some (.inr (.inr ()))
def Bk(a:List (List Int))(b:Int)(c:Ag.V)(d z_:Int):=CR a b c d z_
def DG(a:List (List Int))(b:Int)(c:Ag.V)(d i:Int):=fix (Bk a b c d) i
theorem Ajp(a:List (List Int))(b:Int)(c:Ag.V)(d:Int):LpOk E96 1 2 (code Tryz.f226) [1,0,1,0] (Afx a b c d) (Bk a b c d) (AhA a b c d):=by
 intro _
 simp only[Bk,CR,mC,mI,mN,mB,mE,mM]
 kernel_rfl
def Bz(a:List (List Int))(b:Int)(c:Ag.V):Option (Int×Ag.V) :=
 (DG a b c (a.length:Int) 0).bind (Sum.elim (fun e =>
 some (e,c)) (fun g =>
 some ((-1),c)))
theorem U96(R:Type)(a:List (List Int))(b:Int)(c:Ag.V)(K:AV→List Blk→Option R):runF E96 Tryz.f226 R [dD (.sl (.sl (.int .i64))) a,.fn 194 (.cons (.ptr 0 b [] 0) .nil)] [.box (dD Ag c)] K=(Bz a b c).bind fun r=>K (dI r.1) [.box (dD Ag r.2)]:=by
 simp only[Bz,bC,bI,bN,bE,bA,bS,bO,bM]
 simp(disch:=refine sI ?_<;>(repeat' refine sA ?_ ?_)<;>intro _<;>kernel_rfl) only[DG,Au (Ajp _ _ _ _) (K:=finK E96 Tryz.f226 1 R K)]
 kernel_rfl
def c226:Va.Callee:=brC [.d (.sl (.sl (.int .i64))),.raw] [⟨[.dat [] (.sl (.sl (.int .i64))),.fn 194 (.cons (.ptr 0 [] 0) (.k .nil))],[.box (.dat [] Ag)],(Int×Ag.V),fun p=>Bz p.1.1 p.1.2.1.1 p.2.1,fun r=>(dI r.1,[.box (dD Ag r.2)])⟩]
theorem X5:SoundC Tryz.prog 226 c226:=Ap (fn:=Tryz.f226) (by kernel_rfl) (by kernel_rfl) (by kernel_rfl) ⟨⟨E96,⟨⟨tabok,An ⟨Yt,trivial⟩⟩,mixed⟩,fun p R K=>U96 R p.1.1 p.1.2.1.1 p.2.1 K⟩,trivial⟩
abbrev E97:Env:=⟨tab,lookH [(226,c226)],{deep:=true}⟩
def A4(a:List (List Int))(b:Int)(c:Ag.V):Option (Bool×Ag.V) :=
 (Bz a b c).bind fun d =>
 some ((decide (d.1≥0)),d.2)
theorem U97(R:Type)(a:List (List Int))(b:Int)(c:Ag.V)(K:AV→List Blk→Option R):runF E97 Tryz.f193 R [dD (.sl (.sl (.int .i64))) a,.fn 194 (.cons (.ptr 0 b [] 0) .nil)] [.box (dD Ag c)] K=(A4 a b c).bind fun r=>K (dB r.1) [.box (dD Ag r.2)]:=by
 simp only[A4,bC,bI,bN,bE,bA,bS,bO,bM]
 kernel_rfl
def c193:Va.Callee:=brC [.d (.sl (.sl (.int .i64))),.raw] [⟨[.dat [] (.sl (.sl (.int .i64))),.fn 194 (.cons (.ptr 0 [] 0) (.k .nil))],[.box (.dat [] Ag)],(Bool×Ag.V),fun p=>A4 p.1.1 p.1.2.1.1 p.2.1,fun r=>(dB r.1,[.box (dD Ag r.2)])⟩]
theorem Xv:SoundC Tryz.prog 193 c193:=Ap (fn:=Tryz.f193) (by kernel_rfl) (by kernel_rfl) (by kernel_rfl) ⟨⟨E97,⟨⟨tabok,An ⟨X5,trivial⟩⟩,mixed⟩,fun p R K=>U97 R p.1.1 p.1.2.1.1 p.2.1 K⟩,trivial⟩
abbrev E98:Env:=⟨tab,lookH [(59,c59),(193,c193)],{deep:=true,joins:=[(2,{live:=[1,12]})],ents:=[(2,[1])]}⟩
def ZX(a:Ag.V):St:=sT 18 [(1,.ptr 0 0 [] 0)] [.box (dD Ag a)]
def ZV(a:Ag.V)(m0:Bool):Ex×St:=(.normal,sT 18 [(1,.ptr 0 0 [] 0),(12,dB m0)] [.box (dD Ag a)])
theorem Ai2(a:Ag.V):jnS E98 0 2 (code Tryz.f135) [1,0,0] (ZX a)=some (ZV a ((!(Aq a.1 0 400))||(decide ((a.2.1.length:Int)>4000)))):=by
 have h0:jnS E98 0 2 (code Tryz.f135) [1,0,0] (ZX a) =
 bif !(Aq a.1 0 400) then
 some (ZV a true)
 else
 some (ZV a (decide ((a.2.1.length:Int)>4000))):=by kernel_rfl
 rw[h0]
 cases h1:(!(Aq a.1 0 400))
 ·first | rfl | kernel_rfl
 ·first | rfl | kernel_rfl
def JP(a:Ag.V):Option Bool :=
 mkr (ZX a) (
 bif (!(Aq a.1 0 400))||(decide ((a.2.1.length:Int)>4000)) then
 some false
 else
 (A4 a.2.1 0 a).bind fun b =>
 some (!b.1))
theorem U98(R:Type)(a:Ag.V)(K:AV→List Blk→Option R):runF E98 Tryz.f135 R [dD Ag a] [] K=(JP a).bind fun r=>K (dB r) []:=by
 simp only[JP,bC,bI,bN,bE,bA,bS,bO,bM]
 simp(disch:=refine sI ?_<;>(repeat' refine sA ?_ ?_)<;>intro _<;>kernel_rfl) only[Hs (Ai2 _) (K:=finK E98 Tryz.f135 0 R K)]
 kernel_rfl
def c135:Va.Callee:=brC [.d Ag] [⟨[.dat [] Ag],[],Bool,fun p=>JP p.1.1,fun r=>(dB r,[])⟩]
theorem Xj:SoundC Tryz.prog 135 c135:=Ap (fn:=Tryz.f135) (by kernel_rfl) (by kernel_rfl) (by kernel_rfl) ⟨⟨E98,⟨⟨tabok,An ⟨Lu,Xv,trivial⟩⟩,mixed⟩,fun p R K=>U98 R p.1.1 K⟩,trivial⟩
abbrev E99:Env:=⟨tab,lookH [(83,c83),(130,c130),(131,c131),(132,c132),(133,c133),(134,c134),(135,c135)],{deep:=true,heads:=[(5,{live:=[4,6,8,9,27,28,29],frz:=[(6,false,(.sl (.pair (.sl Ad) (.pair (.sl Ad) .unit)))),(8,false,(.sl (.int .i64)))],pre:=[(9,true,.row [0,1] 72 (.sl (.int .i64)) true)]}),(13,{live:=[4,6,8,9,12,13,27,28,29,67,68],frz:=[(12,false,(.sl Ai)),(13,false,(.sl Ai))],pre:=[(9,true,.row [0,1] 72 (.sl (.int .i64)) true)]})],outs:=[(5,{live:=[4,5,9]}),(13,{live:=[4,6,8,9,27,28,29]})],joins:=[(8,{live:=[4,6,8,9,10,11,27,28,29,44]}),(17,{live:=[4,5,6,8,9,27,28,29]})],ents:=[(8,[4,6,8,9,10,11,27,28,29]),(17,[4,6,8,9,27,28,29])],res:=[(0,.row [1] 72 (.sl (.int .i64)) true)]}⟩
def AiJ(a:List Int)(b:List Ae.V)(c:List ((List Ad.V)×((List Ad.V)×Unit)))(d:Int)(z_:Int×Int×(List (List Int))):St:=sT 89 [(4,.ptr 0 0 [] 0),(6,dD (.sl (.pair (.sl Ad) (.pair (.sl Ad) .unit))) c),(8,dD (.sl (.int .i64)) a),(9,.ptr 1 0 [] 0),(27,dD (.sl Ae) b),(28,dI d),(29,dI z_.1)] [.box (.pr (dI 0) (.pr .zs .u)),.box (.pr (.pr (dI z_.2.1) (.pr (.ref 2) .u)) .u),.row 72 .deep (.sl (.int .i64)) z_.2.2]
def Aju(a:List Int)(b:List Ae.V)(c:List ((List Ad.V)×((List Ad.V)×Unit)))(d:Int):((Int×(List (List Int)))⊕(Int×(List (List Int))))→Ex×St:=Sum.elim (fun e=>(.ret,sT 89 [(4,.ptr 0 0 [] 0),(5,dB false),(9,.ptr 1 0 [] 0)] [.box (.pr (dI 0) (.pr .zs .u)),.box (.pr (.pr (dI e.1) (.pr (.ref 2) .u)) .u),.row 72 .deep (.sl (.int .i64)) e.2])) (fun g=>((.exit 0),sT 89 [(4,.ptr 0 0 [] 0),(9,.ptr 1 0 [] 0)] [.box (.pr (dI 0) (.pr .zs .u)),.box (.pr (.pr (dI g.1) (.pr (.ref 2) .u)) .u),.row 72 .deep (.sl (.int .i64)) g.2]))
def Akb(c:List ((List Ad.V)×((List Ad.V)×Unit)))(a:List Int)(b:List Ae.V)(d i j:Int)(k:List (List Int)):St:=sT 89 [(4,.ptr 0 0 [] 0),(6,dD (.sl (.pair (.sl Ad) (.pair (.sl Ad) .unit))) c),(8,dD (.sl (.int .i64)) a),(9,.ptr 1 0 [] 0),(27,dD (.sl Ae) b),(28,dI d),(29,dI i)] [.box (.pr (dI 0) (.pr .zs .u)),.box (.pr (.pr (dI j) (.pr (.ref 2) .u)) .u),.row 72 .deep (.sl (.int .i64)) k]
def Akj(c:List ((List Ad.V)×((List Ad.V)×Unit)))(a:List Int)(b:List Ae.V)(d i j:Int)(k:List (List Int)):(Unit⊕(Int×(List (List Int))))→Ex×St:=Sum.elim (fun l=>(.ret,sT 89 [(4,.ptr 0 0 [] 0),(5,dB false),(6,dD (.sl (.pair (.sl Ad) (.pair (.sl Ad) .unit))) c),(8,dD (.sl (.int .i64)) a),(9,.ptr 1 0 [] 0),(27,dD (.sl Ae) b),(28,dI d),(29,dI i)] [.box (.pr (dI 0) (.pr .zs .u)),.box (.pr (.pr (dI j) (.pr (.ref 2) .u)) .u),.row 72 .deep (.sl (.int .i64)) k])) (fun n=>(.normal,sT 89 [(4,.ptr 0 0 [] 0),(6,dD (.sl (.pair (.sl Ad) (.pair (.sl Ad) .unit))) c),(8,dD (.sl (.int .i64)) a),(9,.ptr 1 0 [] 0),(27,dD (.sl Ae) b),(28,dI d),(29,dI i)] [.box (.pr (dI 0) (.pr .zs .u)),.box (.pr (.pr (dI n.1) (.pr (.ref 2) .u)) .u),.row 72 .deep (.sl (.int .i64)) n.2]))
def AgP(c:List ((List Ad.V)×((List Ad.V)×Unit)))(a:List Int)(o q:List Ai.V)(b:List Ae.V)(d i s:Int)(z_:Int×Int×(List (List Int))):St:=sT 89 [(4,.ptr 0 0 [] 0),(6,dD (.sl (.pair (.sl Ad) (.pair (.sl Ad) .unit))) c),(8,dD (.sl (.int .i64)) a),(9,.ptr 1 0 [] 0),(12,dD (.sl Ai) o),(13,dD (.sl Ai) q),(27,dD (.sl Ae) b),(28,dI d),(29,dI i),(67,dI s),(68,dI z_.1)] [.box (.pr (dI 0) (.pr .zs .u)),.box (.pr (.pr (dI z_.2.1) (.pr (.ref 2) .u)) .u),.row 72 .deep (.sl (.int .i64)) z_.2.2]
def Aiw(c:List ((List Ad.V)×((List Ad.V)×Unit)))(a:List Int)(o q:List Ai.V)(b:List Ae.V)(d i s:Int):(Int×(List (List Int)))→Ex×St:=fun t=>((.exit 2),sT 89 [(4,.ptr 0 0 [] 0),(6,dD (.sl (.pair (.sl Ad) (.pair (.sl Ad) .unit))) c),(8,dD (.sl (.int .i64)) a),(9,.ptr 1 0 [] 0),(27,dD (.sl Ae) b),(28,dI d),(29,dI i)] [.box (.pr (dI 0) (.pr .zs .u)),.box (.pr (.pr (dI t.1) (.pr (.ref 2) .u)) .u),.row 72 .deep (.sl (.int .i64)) t.2])
def Iv(c:List ((List Ad.V)×((List Ad.V)×Unit)))(a:List Int)(o q:List Ai.V)(b:List Ae.V)(d i s u v:Int)(w:List (List Int)):Option ((Int×Int×(List (List Int)))⊕(Int×(List (List Int)))) :=
 bif decide (u<s) then
 if(0:Int)≤u∧u<(o.length:Int) then
 if(0:Int)≤u∧u<(q.length:Int) then
 (BW 0 (o.getD u.toNat (Ty.zero Ai)) (q.getD u.toNat (Ty.zero Ai)) v w).bind fun x =>
 some (.inl ((wI (u+1)),x.1,x.2))
 else none
 else none
 else
 some (.inr (v,w))
def DX(c:List ((List Ad.V)×((List Ad.V)×Unit)))(a:List Int)(o q:List Ai.V)(b:List Ae.V)(d i s:Int)(z_:Int×Int×(List (List Int))):=Iv c a o q b d i s z_.1 z_.2.1 z_.2.2
def JN(c:List ((List Ad.V)×((List Ad.V)×Unit)))(a:List Int)(o q:List Ai.V)(b:List Ae.V)(d i s u v:Int)(w:List (List Int)):=fix (DX c a o q b d i s) (u,v,w)
theorem AgJ(c:List ((List Ad.V)×((List Ad.V)×Unit)))(a:List Int)(o q:List Ai.V)(b:List Ae.V)(d i s:Int):LpOk E99 0 13 (sub (sub (code Tryz.f60) [1,1,1,1,0,1,0,0]) [1,1,0]) [0,1,1,1,1,1,0] (AgP c a o q b d i s) (DX c a o q b d i s) (Aiw c a o q b d i s):=by
 intro _
 simp only[DX,Iv,mC,mI,mN,mB,mE,mM]
 kernel_rfl
def ZR(c:List ((List Ad.V)×((List Ad.V)×Unit)))(a:List Int)(i:Int)(b:List Ae.V)(d j:Int)(k:List (List Int)):St:=sT 89 [(4,.ptr 0 0 [] 0),(6,dD (.sl (.pair (.sl Ad) (.pair (.sl Ad) .unit))) c),(8,dD (.sl (.int .i64)) a),(9,.ptr 1 0 [] 0),(10,dI i),(11,.ptr 2 0 [] 0),(27,dD (.sl Ae) b),(28,dI d),(29,dI i)] [.box (.pr (dI 0) (.pr .zs .u)),.box (.pr (.pr (dI j) (.pr (.ref 3) .u)) .u),.box (dD Ae (b.getD i.toNat (Ty.zero Ae))),.row 72 .deep (.sl (.int .i64)) k]
def ZK(c:List ((List Ad.V)×((List Ad.V)×Unit)))(a:List Int)(i:Int)(b:List Ae.V)(d j:Int)(k:List (List Int))(m0:Bool):Ex×St:=(.normal,sT 89 [(4,.ptr 0 0 [] 0),(6,dD (.sl (.pair (.sl Ad) (.pair (.sl Ad) .unit))) c),(8,dD (.sl (.int .i64)) a),(9,.ptr 1 0 [] 0),(10,dI i),(11,.ptr 2 0 [] 0),(27,dD (.sl Ae) b),(28,dI d),(29,dI i),(44,dB m0)] [.box (.pr (dI 0) (.pr .zs .u)),.box (.pr (.pr (dI j) (.pr (.ref 3) .u)) .u),.box (dD Ae (b.getD i.toNat (Ty.zero Ae))),.row 72 .deep (.sl (.int .i64)) k])
theorem AhP(c:List ((List Ad.V)×((List Ad.V)×Unit)))(a:List Int)(i:Int)(b:List Ae.V)(d j:Int)(k:List (List Int)):jnS E99 0 8 (sub (sub (code Tryz.f60) [1,1,1,1,0,1,0,0]) [1,1,0]) [0,1,0,0] (ZR c a i b d j k)=some (ZK c a i b d j k ((decide (j>400))||(decide ((k.length:Int)>4000)))):=by
 have h0:jnS E99 0 8 (sub (sub (code Tryz.f60) [1,1,1,1,0,1,0,0]) [1,1,0]) [0,1,0,0] (ZR c a i b d j k) =
 bif decide (j>400) then
 some (ZK c a i b d j k true)
 else
 some (ZK c a i b d j k (decide ((k.length:Int)>4000))):=by kernel_rfl
 rw[h0]
 cases h1:(decide (j>400))
 ·first | rfl | kernel_rfl
 ·first | rfl | kernel_rfl
def JG(c:List ((List Ad.V)×((List Ad.V)×Unit)))(a:List Int)(b:List Ae.V)(d i j:Int)(k:List (List Int)):Option (Unit⊕(Int×(List (List Int)))) :=
 if(0:Int)≤i∧i<(b.length:Int) then
 mkr (ZR c a i b d j k) (
 bif (decide (j>400))||(decide ((k.length:Int)>4000)) then
 some (.inl ())
 else
 if(0:Int)≤i∧i<(c.length:Int) then
 if(0:Int)≤i∧i<(c.length:Int) then
 (Da (c.getD i.toNat (Ty.zero (.pair (.sl Ad) (.pair (.sl Ad) .unit)))).1 a).bind fun o =>
 (Da (c.getD i.toNat (Ty.zero (.pair (.sl Ad) (.pair (.sl Ad) .unit)))).2.1 a).bind fun q =>
 bif !(b.getD i.toNat (Ty.zero Ae)).2.1 then
 (BK 0 o q j k).bind fun y =>
 some (.inr (y.1,y.2))
 else
 (JN c a o q b d i (o.length:Int) 0 j k).bind fun t =>
 some (.inr (t.1,t.2))
 else none
 else none)
 else none
theorem AhX(c:List ((List Ad.V)×((List Ad.V)×Unit)))(a:List Int)(b:List Ae.V)(d i j:Int)(k:List (List Int)):JnOk E99 0 17 (sub (code Tryz.f60) [1,1,1,1,0,1,0,0]) [1,1,0] (Akb c a b d i j k) (JG c a b d i j k) (Akj c a b d i j k):=by
 unfold JnOk
 simp only[JG,mC,mI,mN,mB,mE,mM]
 simp(disch:=refine sI ?_<;>(repeat' refine sA ?_ ?_)<;>intro _<;>kernel_rfl) only[Hs (AhP _ _ _ _ _ _ _) (K:=joinK 0 (E99.jn 17)),JN,Au (AgJ _ _ _ _ _ _ _ _) (K:=joinK 0 (E99.jn 17))]
 kernel_rfl
def Kh(a:List Int)(b:List Ae.V)(c:List ((List Ad.V)×((List Ad.V)×Unit)))(d i j:Int)(k:List (List Int)):Option ((Int×Int×(List (List Int)))⊕((Int×(List (List Int)))⊕(Int×(List (List Int))))) :=
 bif decide (i<d) then
 (JG c a b d i j k).bind (Sum.elim (fun l =>
 some (.inr (.inl (j,k)))) (fun n =>
 some (.inl ((wI (i+1)),n.1,n.2))))
 else
 some (.inr (.inr (j,k)))
def Ig(a:List Int)(b:List Ae.V)(c:List ((List Ad.V)×((List Ad.V)×Unit)))(d:Int)(z_:Int×Int×(List (List Int))):=Kh a b c d z_.1 z_.2.1 z_.2.2
def Lb(a:List Int)(b:List Ae.V)(c:List ((List Ad.V)×((List Ad.V)×Unit)))(d i j:Int)(k:List (List Int)):=fix (Ig a b c d) (i,j,k)
theorem AjX(a:List Int)(b:List Ae.V)(c:List ((List Ad.V)×((List Ad.V)×Unit)))(d:Int):LpOk E99 0 5 (code Tryz.f60) [1,1,1,1,0,1,0] (AiJ a b c d) (Ig a b c d) (Aju a b c d):=by
 intro _
 simp only[Ig,Kh,mC,mI,mN,mB,mE,mM]
 simp(disch:=refine sI ?_<;>(repeat' refine sA ?_ ?_)<;>intro _<;>kernel_rfl) only[Bn (AhX _ _ _ _ _ _ _) (K:=stepK 0 (E99.hd 5) (E99.ot 5))]
 kernel_rfl
def JS(a1:List Aa.V)(b:List Ae.V):Option (Int×Bool×(List (List Int))) :=
 (IW a1 b).bind fun b1 =>
 (I2 a1).bind fun a =>
 (CP a1).bind fun c1 =>
 (Lb a b b1.2 (b.length:Int) 0 c1 ([]:List (List Int))).bind (Sum.elim (fun e =>
 some (0,false,([]:List (List Int)))) (fun g =>
 (JP (g.1,g.2,())).bind fun d1 =>
 bif !d1 then
 some (0,false,([]:List (List Int)))
 else
 some (g.1,true,g.2)))
theorem U99(R:Type)(a1:List Aa.V)(b:List Ae.V)(K:AV→List Blk→Option R):runF E99 Tryz.f60 R [dD (.sl Aa) a1,dD (.sl Ae) b] [] K=(JS a1 b).bind fun r=>K (.cons (.pr (dI r.1) (.pr (.ref 0) .u)) (.cons (dB r.2.1) .nil)) [.row 72 .deep (.sl (.int .i64)) r.2.2]:=by
 simp only[JS,bC,bI,bN,bE,bA,bS,bO,bM]
 simp(disch:=refine sI ?_<;>(repeat' refine sA ?_ ?_)<;>intro _<;>kernel_rfl) only[Lb,Au (AjX _ _ _ _) (K:=finK E99 Tryz.f60 0 R K)]
 kernel_rfl
def c60:Va.Callee:=brC [.d (.sl Aa),.d (.sl Ae)] [⟨[.dat [] (.sl Aa),.dat [] (.sl Ae)],[],(Int×Bool×(List (List Int))),fun p=>JS p.1.1 p.1.2.1,fun r=>(.cons (.pr (dI r.1) (.pr (.ref 0) .u)) (.cons (dB r.2.1) .nil),[.row 72 .deep (.sl (.int .i64)) r.2.2])⟩]
theorem Aa3:SoundC Tryz.prog 60 c60:=Ap (fn:=Tryz.f60) (by kernel_rfl) (by kernel_rfl) (by kernel_rfl) ⟨⟨E99,⟨⟨tabok,An ⟨T8,Xw,SD,X3,YE,Xh,Xj,trivial⟩⟩,mixed⟩,fun p R K=>U99 R p.1.1 p.1.2.1 K⟩,trivial⟩
abbrev E100:Env:=⟨tab,lookH [],{deep:=true,heads:=[(3,{live:=[3,25,26,27]}),(6,{live:=[3,4,25,26,27,32,33,34]})],outs:=[(3,{live:=[3]}),(6,{live:=[3,25,26,27]})],draws:=[(1,{live:=[1,3],quiet:=true}),(8,{live:=[3,4,25,26,27,32,33,34]})],dents:=[(1,[1]),(8,[3,4,7,25,26,27,32,33,34])],stl:=[48]}⟩
def AbO(a:Ag.V)(b:List (List Int))(c:Int)(d e g:List Int)(z_:Int×(List (Int×(List Int)))):St:=sT 55 [(3,.ptr 0 0 [] 0),(25,dD (.sl (.sl (.int .i64))) b),(26,dI c),(27,dI z_.1)] [.box (.pr (dD Ag a) (.pr (.mp 1) (.pr (.ref 2) (.pr (.ref 3) (.pr .zs (.pr (.ref 4) .u)))))),.map .deep (.int .i64) (.sl (.int .i64)) z_.2 none,.row 3 .deep (.int .i64) d,.row 3 .deep (.int .i64) e,.row 2 .deep (.int .i64) g]
def Aby(a:Ag.V)(b:List (List Int))(c:Int)(d e g:List Int):(List (Int×(List Int)))→Ex×St:=fun i=>((.exit 0),sT 55 [(3,.ptr 0 0 [] 0)] [.box (.pr (dD Ag a) (.pr (.mp 1) (.pr (.ref 2) (.pr (.ref 3) (.pr .zs (.pr (.ref 4) .u)))))),.map .deep (.int .i64) (.sl (.int .i64)) i none,.row 3 .deep (.int .i64) d,.row 3 .deep (.int .i64) e,.row 2 .deep (.int .i64) g])
def AdE(j:Int)(b:List (List Int))(c:Int)(a:Ag.V)(d e g k:List Int)(l:Int)(z_:Int×(List (Int×(List Int)))):St:=sT 55 [(3,.ptr 0 0 [] 0),(4,dI j),(25,dD (.sl (.sl (.int .i64))) b),(26,dI c),(27,dI j),(32,dD (.sl (.int .i64)) k),(33,dI l),(34,dI z_.1)] [.box (.pr (dD Ag a) (.pr (.mp 1) (.pr (.ref 2) (.pr (.ref 3) (.pr .zs (.pr (.ref 4) .u)))))),.map .deep (.int .i64) (.sl (.int .i64)) z_.2 none,.row 3 .deep (.int .i64) d,.row 3 .deep (.int .i64) e,.row 2 .deep (.int .i64) g]
def Acr(j:Int)(b:List (List Int))(c:Int)(a:Ag.V)(d e g k:List Int)(l:Int):(List (Int×(List Int)))→Ex×St:=fun n=>((.exit 2),sT 55 [(3,.ptr 0 0 [] 0),(25,dD (.sl (.sl (.int .i64))) b),(26,dI c),(27,dI j)] [.box (.pr (dD Ag a) (.pr (.mp 1) (.pr (.ref 2) (.pr (.ref 3) (.pr .zs (.pr (.ref 4) .u)))))),.map .deep (.int .i64) (.sl (.int .i64)) n none,.row 3 .deep (.int .i64) d,.row 3 .deep (.int .i64) e,.row 2 .deep (.int .i64) g])
def YZ(j:Int)(b:List (List Int))(c:Int)(k:List Int)(l o:Int)(a:Ag.V)(q:List (Int×(List Int)))(d e g:List Int)(s:Int):St:=sT 55 [(3,.ptr 0 0 [] 0),(4,dI j),(7,dI s),(25,dD (.sl (.sl (.int .i64))) b),(26,dI c),(27,dI j),(32,dD (.sl (.int .i64)) k),(33,dI l),(34,dI o)] [.box (.pr (dD Ag a) (.pr (.mp 1) (.pr (.ref 2) (.pr (.ref 3) (.pr .zs (.pr (.ref 4) .u)))))),.map .deep (.int .i64) (.sl (.int .i64)) q none,.row 3 .deep (.int .i64) d,.row 3 .deep (.int .i64) e,.row 2 .deep (.int .i64) g]
def Ak(j:Int)(b:List (List Int))(c:Int)(k:List Int)(l o:Int)(a:Ag.V)(q:List (Int×(List Int)))(d e g:List Int)(s:Int):(List (Int×(List Int)))→St:=fun t=>sT 55 [(3,.ptr 0 0 [] 0),(4,dI j),(25,dD (.sl (.sl (.int .i64))) b),(26,dI c),(27,dI j),(32,dD (.sl (.int .i64)) k),(33,dI l),(34,dI o)] [.box (.pr (dD Ag a) (.pr (.mp 1) (.pr (.ref 2) (.pr (.ref 3) (.pr .zs (.pr (.ref 4) .u)))))),.map .deep (.int .i64) (.sl (.int .i64)) t none,.row 3 .deep (.int .i64) d,.row 3 .deep (.int .i64) e,.row 2 .deep (.int .i64) g]
def GI(j:Int)(b:List (List Int))(c:Int)(k:List Int)(l o:Int)(a:Ag.V)(q:List (Int×(List Int)))(d e g:List Int)(s:Int):Option (List (Int×(List Int))) :=
 if((mget (.int .i64) (.sl (.int .i64)) q s).length+([j]:List Int).length)*8≤140737488355328 then
 bif keyEq (.int .i64) s s then
 some (mput (.int .i64) (.sl (.int .i64)) q s ((mget (.int .i64) (.sl (.int .i64)) q s)++([j]:List Int)))
 else
 none
 else none
theorem AbI(j:Int)(b:List (List Int))(c:Int)(k:List Int)(l o:Int)(a:Ag.V)(q:List (Int×(List Int)))(d e g:List Int)(s:Int):DrOk E100 0 8 (sub (sub (code Tryz.f136) [1,1,0,1,0,0]) [1,1,0,0,1,1,0,0]) [1,1,0,0,1] (YZ j b c k l o a q d e g s) (GI j b c k l o a q d e g s) (Ak j b c k l o a q d e g s):=by
 unfold DrOk
 have h:drS E100 0 8 (sub (sub (code Tryz.f136) [1,1,0,1,0,0]) [1,1,0,0,1,1,0,0]) [1,1,0,0,1] (YZ j b c k l o a q d e g s) =
 if((mget (.int .i64) (.sl (.int .i64)) q s).length+([j]:List Int).length)*8≤140737488355328 then
 bif keyEq (.int .i64) s s then
 (((((((if((mget (.int .i64) (.sl (.int .i64)) q s).length+([j]:List Int).length)*8≤140737488355328 then
 bif keyEq (.int .i64) s s then
 eqSt (Ak j b c k l o a q d e g s (mput (.int .i64) (.sl (.int .i64)) q s ((mget (.int .i64) (.sl (.int .i64)) q s)++([j]:List Int)))) (Ak j b c k l o a q d e g s (mput (.int .i64) (.sl (.int .i64)) q s ((mget (.int .i64) (.sl (.int .i64)) q s)++([j]:List Int))))
 else
 none
 else none).bind fun _ =>
 if((mget (.int .i64) (.sl (.int .i64)) q s).length+([j]:List Int).length)*8≤140737488355328 then
 bif keyEq (.int .i64) s s then
 eqSt (Ak j b c k l o a q d e g s (mput (.int .i64) (.sl (.int .i64)) q s ((mget (.int .i64) (.sl (.int .i64)) q s)++([j]:List Int)))) (Ak j b c k l o a q d e g s (mput (.int .i64) (.sl (.int .i64)) q s ((mget (.int .i64) (.sl (.int .i64)) q s)++([j]:List Int))))
 else
 none
 else none).bind fun _ =>
 if((mget (.int .i64) (.sl (.int .i64)) q s).length+([j]:List Int).length)*8≤140737488355328 then
 bif keyEq (.int .i64) s s then
 eqSt (Ak j b c k l o a q d e g s (mput (.int .i64) (.sl (.int .i64)) q s ((mget (.int .i64) (.sl (.int .i64)) q s)++([j]:List Int)))) (Ak j b c k l o a q d e g s (mput (.int .i64) (.sl (.int .i64)) q s ((mget (.int .i64) (.sl (.int .i64)) q s)++([j]:List Int))))
 else
 none
 else none).bind fun _ =>
 if((mget (.int .i64) (.sl (.int .i64)) q s).length+([j]:List Int).length)*8≤140737488355328 then
 bif keyEq (.int .i64) s s then
 eqSt (Ak j b c k l o a q d e g s (mput (.int .i64) (.sl (.int .i64)) q s ((mget (.int .i64) (.sl (.int .i64)) q s)++([j]:List Int)))) (Ak j b c k l o a q d e g s (mput (.int .i64) (.sl (.int .i64)) q s ((mget (.int .i64) (.sl (.int .i64)) q s)++([j]:List Int))))
 else
 none
 else none).bind fun _ =>
 ((((if((mget (.int .i64) (.sl (.int .i64)) q s).length+([j]:List Int).length)*8≤140737488355328 then
 bif keyEq (.int .i64) s s then
 eqSt (Ak j b c k l o a q d e g s (mput (.int .i64) (.sl (.int .i64)) q s ((mget (.int .i64) (.sl (.int .i64)) q s)++([j]:List Int)))) (Ak j b c k l o a q d e g s (mput (.int .i64) (.sl (.int .i64)) q s ((mget (.int .i64) (.sl (.int .i64)) q s)++([j]:List Int))))
 else
 none
 else none).bind fun _ =>
 if((mget (.int .i64) (.sl (.int .i64)) q s).length+([j]:List Int).length)*8≤140737488355328 then
 bif keyEq (.int .i64) s s then
 eqSt (Ak j b c k l o a q d e g s (mput (.int .i64) (.sl (.int .i64)) q s ((mget (.int .i64) (.sl (.int .i64)) q s)++([j]:List Int)))) (Ak j b c k l o a q d e g s (mput (.int .i64) (.sl (.int .i64)) q s ((mget (.int .i64) (.sl (.int .i64)) q s)++([j]:List Int))))
 else
 none
 else none).bind fun _ =>
 if((mget (.int .i64) (.sl (.int .i64)) q s).length+([j]:List Int).length)*8≤140737488355328 then
 bif keyEq (.int .i64) s s then
 eqSt (Ak j b c k l o a q d e g s (mput (.int .i64) (.sl (.int .i64)) q s ((mget (.int .i64) (.sl (.int .i64)) q s)++([j]:List Int)))) (Ak j b c k l o a q d e g s (mput (.int .i64) (.sl (.int .i64)) q s ((mget (.int .i64) (.sl (.int .i64)) q s)++([j]:List Int))))
 else
 none
 else none).bind fun _ =>
 (((if((mget (.int .i64) (.sl (.int .i64)) q s).length+([j]:List Int).length)*8≤140737488355328 then
 bif keyEq (.int .i64) s s then
 eqSt (Ak j b c k l o a q d e g s (mput (.int .i64) (.sl (.int .i64)) q s ((mget (.int .i64) (.sl (.int .i64)) q s)++([j]:List Int)))) (Ak j b c k l o a q d e g s (mput (.int .i64) (.sl (.int .i64)) q s ((mget (.int .i64) (.sl (.int .i64)) q s)++([j]:List Int))))
 else
 none
 else none).bind fun _ =>
 if((mget (.int .i64) (.sl (.int .i64)) q s).length+([j]:List Int).length)*8≤140737488355328 then
 bif keyEq (.int .i64) s s then
 eqSt (Ak j b c k l o a q d e g s (mput (.int .i64) (.sl (.int .i64)) q s ((mget (.int .i64) (.sl (.int .i64)) q s)++([j]:List Int)))) (Ak j b c k l o a q d e g s (mput (.int .i64) (.sl (.int .i64)) q s ((mget (.int .i64) (.sl (.int .i64)) q s)++([j]:List Int))))
 else
 none
 else none).bind fun _ =>
 ((if((mget (.int .i64) (.sl (.int .i64)) q s).length+([j]:List Int).length)*8≤140737488355328 then
 bif keyEq (.int .i64) s s then
 eqSt (Ak j b c k l o a q d e g s (mput (.int .i64) (.sl (.int .i64)) q s ((mget (.int .i64) (.sl (.int .i64)) q s)++([j]:List Int)))) (Ak j b c k l o a q d e g s (mput (.int .i64) (.sl (.int .i64)) q s ((mget (.int .i64) (.sl (.int .i64)) q s)++([j]:List Int))))
 else
 none
 else none).bind fun _ =>
 (if((mget (.int .i64) (.sl (.int .i64)) q s).length+([j]:List Int).length)*8≤140737488355328 then
 bif keyEq (.int .i64) s s then
 eqSt (Ak j b c k l o a q d e g s (mput (.int .i64) (.sl (.int .i64)) q s ((mget (.int .i64) (.sl (.int .i64)) q s)++([j]:List Int)))) (Ak j b c k l o a q d e g s (mput (.int .i64) (.sl (.int .i64)) q s ((mget (.int .i64) (.sl (.int .i64)) q s)++([j]:List Int))))
 else
 none
 else none).bind fun _ =>
 if((mget (.int .i64) (.sl (.int .i64)) q s).length+([j]:List Int).length)*8≤140737488355328 then
 bif keyEq (.int .i64) s s then
 eqSt (Ak j b c k l o a q d e g s (mput (.int .i64) (.sl (.int .i64)) q s ((mget (.int .i64) (.sl (.int .i64)) q s)++([j]:List Int)))) (Ak j b c k l o a q d e g s (mput (.int .i64) (.sl (.int .i64)) q s ((mget (.int .i64) (.sl (.int .i64)) q s)++([j]:List Int))))
 else
 none
 else none).bind fun _ =>
 (if((mget (.int .i64) (.sl (.int .i64)) q s).length+([j]:List Int).length)*8≤140737488355328 then
 bif keyEq (.int .i64) s s then
 eqSt (Ak j b c k l o a q d e g s (mput (.int .i64) (.sl (.int .i64)) q s ((mget (.int .i64) (.sl (.int .i64)) q s)++([j]:List Int)))) (Ak j b c k l o a q d e g s (mput (.int .i64) (.sl (.int .i64)) q s ((mget (.int .i64) (.sl (.int .i64)) q s)++([j]:List Int))))
 else
 none
 else none).bind fun _ =>
 (if((mget (.int .i64) (.sl (.int .i64)) q s).length+([j]:List Int).length)*8≤140737488355328 then
 bif keyEq (.int .i64) s s then
 eqSt (Ak j b c k l o a q d e g s (mput (.int .i64) (.sl (.int .i64)) q s ((mget (.int .i64) (.sl (.int .i64)) q s)++([j]:List Int)))) (Ak j b c k l o a q d e g s (mput (.int .i64) (.sl (.int .i64)) q s ((mget (.int .i64) (.sl (.int .i64)) q s)++([j]:List Int))))
 else
 none
 else none).bind fun _ =>
 if((mget (.int .i64) (.sl (.int .i64)) q s).length+([j]:List Int).length)*8≤140737488355328 then
 bif keyEq (.int .i64) s s then
 eqSt (Ak j b c k l o a q d e g s (mput (.int .i64) (.sl (.int .i64)) q s ((mget (.int .i64) (.sl (.int .i64)) q s)++([j]:List Int)))) (Ak j b c k l o a q d e g s (mput (.int .i64) (.sl (.int .i64)) q s ((mget (.int .i64) (.sl (.int .i64)) q s)++([j]:List Int))))
 else
 none
 else none).bind fun _ =>
 (if((mget (.int .i64) (.sl (.int .i64)) q s).length+([j]:List Int).length)*8≤140737488355328 then
 bif keyEq (.int .i64) s s then
 eqSt (Ak j b c k l o a q d e g s (mput (.int .i64) (.sl (.int .i64)) q s ((mget (.int .i64) (.sl (.int .i64)) q s)++([j]:List Int)))) (Ak j b c k l o a q d e g s (mput (.int .i64) (.sl (.int .i64)) q s ((mget (.int .i64) (.sl (.int .i64)) q s)++([j]:List Int))))
 else
 none
 else none).bind fun _ =>
 (if((mget (.int .i64) (.sl (.int .i64)) q s).length+([j]:List Int).length)*8≤140737488355328 then
 bif keyEq (.int .i64) s s then
 eqSt (Ak j b c k l o a q d e g s (mput (.int .i64) (.sl (.int .i64)) q s ((mget (.int .i64) (.sl (.int .i64)) q s)++([j]:List Int)))) (Ak j b c k l o a q d e g s (mput (.int .i64) (.sl (.int .i64)) q s ((mget (.int .i64) (.sl (.int .i64)) q s)++([j]:List Int))))
 else
 none
 else none).bind fun _ =>
 (if((mget (.int .i64) (.sl (.int .i64)) q s).length+([j]:List Int).length)*8≤140737488355328 then
 bif keyEq (.int .i64) s s then
 eqSt (Ak j b c k l o a q d e g s (mput (.int .i64) (.sl (.int .i64)) q s ((mget (.int .i64) (.sl (.int .i64)) q s)++([j]:List Int)))) (Ak j b c k l o a q d e g s (mput (.int .i64) (.sl (.int .i64)) q s ((mget (.int .i64) (.sl (.int .i64)) q s)++([j]:List Int))))
 else
 none
 else none).bind fun _ =>
 if((mget (.int .i64) (.sl (.int .i64)) q s).length+([j]:List Int).length)*8≤140737488355328 then
 bif keyEq (.int .i64) s s then
 eqSt (Ak j b c k l o a q d e g s (mput (.int .i64) (.sl (.int .i64)) q s ((mget (.int .i64) (.sl (.int .i64)) q s)++([j]:List Int)))) (Ak j b c k l o a q d e g s (mput (.int .i64) (.sl (.int .i64)) q s ((mget (.int .i64) (.sl (.int .i64)) q s)++([j]:List Int))))
 else
 none
 else none).bind fun _ =>
 (if((mget (.int .i64) (.sl (.int .i64)) q s).length+([j]:List Int).length)*8≤140737488355328 then
 bif keyEq (.int .i64) s s then
 eqSt (Ak j b c k l o a q d e g s (mput (.int .i64) (.sl (.int .i64)) q s ((mget (.int .i64) (.sl (.int .i64)) q s)++([j]:List Int)))) (Ak j b c k l o a q d e g s (mput (.int .i64) (.sl (.int .i64)) q s ((mget (.int .i64) (.sl (.int .i64)) q s)++([j]:List Int))))
 else
 none
 else none).bind fun _ =>
 (if((mget (.int .i64) (.sl (.int .i64)) q s).length+([j]:List Int).length)*8≤140737488355328 then
 bif keyEq (.int .i64) s s then
 eqSt (Ak j b c k l o a q d e g s (mput (.int .i64) (.sl (.int .i64)) q s ((mget (.int .i64) (.sl (.int .i64)) q s)++([j]:List Int)))) (Ak j b c k l o a q d e g s (mput (.int .i64) (.sl (.int .i64)) q s ((mget (.int .i64) (.sl (.int .i64)) q s)++([j]:List Int))))
 else
 none
 else none).bind fun _ =>
 (if((mget (.int .i64) (.sl (.int .i64)) q s).length+([j]:List Int).length)*8≤140737488355328 then
 bif keyEq (.int .i64) s s then
 eqSt (Ak j b c k l o a q d e g s (mput (.int .i64) (.sl (.int .i64)) q s ((mget (.int .i64) (.sl (.int .i64)) q s)++([j]:List Int)))) (Ak j b c k l o a q d e g s (mput (.int .i64) (.sl (.int .i64)) q s ((mget (.int .i64) (.sl (.int .i64)) q s)++([j]:List Int))))
 else
 none
 else none).bind fun _ =>
 (if((mget (.int .i64) (.sl (.int .i64)) q s).length+([j]:List Int).length)*8≤140737488355328 then
 bif keyEq (.int .i64) s s then
 eqSt (Ak j b c k l o a q d e g s (mput (.int .i64) (.sl (.int .i64)) q s ((mget (.int .i64) (.sl (.int .i64)) q s)++([j]:List Int)))) (Ak j b c k l o a q d e g s (mput (.int .i64) (.sl (.int .i64)) q s ((mget (.int .i64) (.sl (.int .i64)) q s)++([j]:List Int))))
 else
 none
 else none).bind fun _ =>
 if((mget (.int .i64) (.sl (.int .i64)) q s).length+([j]:List Int).length)*8≤140737488355328 then
 bif keyEq (.int .i64) s s then
 eqSt (Ak j b c k l o a q d e g s (mput (.int .i64) (.sl (.int .i64)) q s ((mget (.int .i64) (.sl (.int .i64)) q s)++([j]:List Int)))) (Ak j b c k l o a q d e g s (mput (.int .i64) (.sl (.int .i64)) q s ((mget (.int .i64) (.sl (.int .i64)) q s)++([j]:List Int))))
 else
 none
 else none).bind fun _ =>
 (((((if((mget (.int .i64) (.sl (.int .i64)) q s).length+([j]:List Int).length)*8≤140737488355328 then
 bif keyEq (.int .i64) s s then
 eqSt (Ak j b c k l o a q d e g s (mput (.int .i64) (.sl (.int .i64)) q s ((mget (.int .i64) (.sl (.int .i64)) q s)++([j]:List Int)))) (Ak j b c k l o a q d e g s (mput (.int .i64) (.sl (.int .i64)) q s ((mget (.int .i64) (.sl (.int .i64)) q s)++([j]:List Int))))
 else
 none
 else none).bind fun _ =>
 if((mget (.int .i64) (.sl (.int .i64)) q s).length+([j]:List Int).length)*8≤140737488355328 then
 bif keyEq (.int .i64) s s then
 eqSt (Ak j b c k l o a q d e g s (mput (.int .i64) (.sl (.int .i64)) q s ((mget (.int .i64) (.sl (.int .i64)) q s)++([j]:List Int)))) (Ak j b c k l o a q d e g s (mput (.int .i64) (.sl (.int .i64)) q s ((mget (.int .i64) (.sl (.int .i64)) q s)++([j]:List Int))))
 else
 none
 else none).bind fun _ =>
 if((mget (.int .i64) (.sl (.int .i64)) q s).length+([j]:List Int).length)*8≤140737488355328 then
 bif keyEq (.int .i64) s s then
 eqSt (Ak j b c k l o a q d e g s (mput (.int .i64) (.sl (.int .i64)) q s ((mget (.int .i64) (.sl (.int .i64)) q s)++([j]:List Int)))) (Ak j b c k l o a q d e g s (mput (.int .i64) (.sl (.int .i64)) q s ((mget (.int .i64) (.sl (.int .i64)) q s)++([j]:List Int))))
 else
 none
 else none).bind fun _ =>
 (((if((mget (.int .i64) (.sl (.int .i64)) q s).length+([j]:List Int).length)*8≤140737488355328 then
 bif keyEq (.int .i64) s s then
 eqSt (Ak j b c k l o a q d e g s (mput (.int .i64) (.sl (.int .i64)) q s ((mget (.int .i64) (.sl (.int .i64)) q s)++([j]:List Int)))) (Ak j b c k l o a q d e g s (mput (.int .i64) (.sl (.int .i64)) q s ((mget (.int .i64) (.sl (.int .i64)) q s)++([j]:List Int))))
 else
 none
 else none).bind fun _ =>
 if((mget (.int .i64) (.sl (.int .i64)) q s).length+([j]:List Int).length)*8≤140737488355328 then
 bif keyEq (.int .i64) s s then
 eqSt (Ak j b c k l o a q d e g s (mput (.int .i64) (.sl (.int .i64)) q s ((mget (.int .i64) (.sl (.int .i64)) q s)++([j]:List Int)))) (Ak j b c k l o a q d e g s (mput (.int .i64) (.sl (.int .i64)) q s ((mget (.int .i64) (.sl (.int .i64)) q s)++([j]:List Int))))
 else
 none
 else none).bind fun _ =>
 ((if((mget (.int .i64) (.sl (.int .i64)) q s).length+([j]:List Int).length)*8≤140737488355328 then
 bif keyEq (.int .i64) s s then
 eqSt (Ak j b c k l o a q d e g s (mput (.int .i64) (.sl (.int .i64)) q s ((mget (.int .i64) (.sl (.int .i64)) q s)++([j]:List Int)))) (Ak j b c k l o a q d e g s (mput (.int .i64) (.sl (.int .i64)) q s ((mget (.int .i64) (.sl (.int .i64)) q s)++([j]:List Int))))
 else
 none
 else none).bind fun _ =>
 (if((mget (.int .i64) (.sl (.int .i64)) q s).length+([j]:List Int).length)*8≤140737488355328 then
 bif keyEq (.int .i64) s s then
 eqSt (Ak j b c k l o a q d e g s (mput (.int .i64) (.sl (.int .i64)) q s ((mget (.int .i64) (.sl (.int .i64)) q s)++([j]:List Int)))) (Ak j b c k l o a q d e g s (mput (.int .i64) (.sl (.int .i64)) q s ((mget (.int .i64) (.sl (.int .i64)) q s)++([j]:List Int))))
 else
 none
 else none).bind fun _ =>
 if((mget (.int .i64) (.sl (.int .i64)) q s).length+([j]:List Int).length)*8≤140737488355328 then
 bif keyEq (.int .i64) s s then
 eqSt (Ak j b c k l o a q d e g s (mput (.int .i64) (.sl (.int .i64)) q s ((mget (.int .i64) (.sl (.int .i64)) q s)++([j]:List Int)))) (Ak j b c k l o a q d e g s (mput (.int .i64) (.sl (.int .i64)) q s ((mget (.int .i64) (.sl (.int .i64)) q s)++([j]:List Int))))
 else
 none
 else none).bind fun _ =>
 (if((mget (.int .i64) (.sl (.int .i64)) q s).length+([j]:List Int).length)*8≤140737488355328 then
 bif keyEq (.int .i64) s s then
 eqSt (Ak j b c k l o a q d e g s (mput (.int .i64) (.sl (.int .i64)) q s ((mget (.int .i64) (.sl (.int .i64)) q s)++([j]:List Int)))) (Ak j b c k l o a q d e g s (mput (.int .i64) (.sl (.int .i64)) q s ((mget (.int .i64) (.sl (.int .i64)) q s)++([j]:List Int))))
 else
 none
 else none).bind fun _ =>
 (if((mget (.int .i64) (.sl (.int .i64)) q s).length+([j]:List Int).length)*8≤140737488355328 then
 bif keyEq (.int .i64) s s then
 eqSt (Ak j b c k l o a q d e g s (mput (.int .i64) (.sl (.int .i64)) q s ((mget (.int .i64) (.sl (.int .i64)) q s)++([j]:List Int)))) (Ak j b c k l o a q d e g s (mput (.int .i64) (.sl (.int .i64)) q s ((mget (.int .i64) (.sl (.int .i64)) q s)++([j]:List Int))))
 else
 none
 else none).bind fun _ =>
 if((mget (.int .i64) (.sl (.int .i64)) q s).length+([j]:List Int).length)*8≤140737488355328 then
 bif keyEq (.int .i64) s s then
 eqSt (Ak j b c k l o a q d e g s (mput (.int .i64) (.sl (.int .i64)) q s ((mget (.int .i64) (.sl (.int .i64)) q s)++([j]:List Int)))) (Ak j b c k l o a q d e g s (mput (.int .i64) (.sl (.int .i64)) q s ((mget (.int .i64) (.sl (.int .i64)) q s)++([j]:List Int))))
 else
 none
 else none).bind fun _ =>
 (if((mget (.int .i64) (.sl (.int .i64)) q s).length+([j]:List Int).length)*8≤140737488355328 then
 bif keyEq (.int .i64) s s then
 eqSt (Ak j b c k l o a q d e g s (mput (.int .i64) (.sl (.int .i64)) q s ((mget (.int .i64) (.sl (.int .i64)) q s)++([j]:List Int)))) (Ak j b c k l o a q d e g s (mput (.int .i64) (.sl (.int .i64)) q s ((mget (.int .i64) (.sl (.int .i64)) q s)++([j]:List Int))))
 else
 none
 else none).bind fun _ =>
 (if((mget (.int .i64) (.sl (.int .i64)) q s).length+([j]:List Int).length)*8≤140737488355328 then
 bif keyEq (.int .i64) s s then
 eqSt (Ak j b c k l o a q d e g s (mput (.int .i64) (.sl (.int .i64)) q s ((mget (.int .i64) (.sl (.int .i64)) q s)++([j]:List Int)))) (Ak j b c k l o a q d e g s (mput (.int .i64) (.sl (.int .i64)) q s ((mget (.int .i64) (.sl (.int .i64)) q s)++([j]:List Int))))
 else
 none
 else none).bind fun _ =>
 (if((mget (.int .i64) (.sl (.int .i64)) q s).length+([j]:List Int).length)*8≤140737488355328 then
 bif keyEq (.int .i64) s s then
 eqSt (Ak j b c k l o a q d e g s (mput (.int .i64) (.sl (.int .i64)) q s ((mget (.int .i64) (.sl (.int .i64)) q s)++([j]:List Int)))) (Ak j b c k l o a q d e g s (mput (.int .i64) (.sl (.int .i64)) q s ((mget (.int .i64) (.sl (.int .i64)) q s)++([j]:List Int))))
 else
 none
 else none).bind fun _ =>
 if((mget (.int .i64) (.sl (.int .i64)) q s).length+([j]:List Int).length)*8≤140737488355328 then
 bif keyEq (.int .i64) s s then
 eqSt (Ak j b c k l o a q d e g s (mput (.int .i64) (.sl (.int .i64)) q s ((mget (.int .i64) (.sl (.int .i64)) q s)++([j]:List Int)))) (Ak j b c k l o a q d e g s (mput (.int .i64) (.sl (.int .i64)) q s ((mget (.int .i64) (.sl (.int .i64)) q s)++([j]:List Int))))
 else
 none
 else none).bind fun _ =>
 ((((if((mget (.int .i64) (.sl (.int .i64)) q s).length+([j]:List Int).length)*8≤140737488355328 then
 bif keyEq (.int .i64) s s then
 eqSt (Ak j b c k l o a q d e g s (mput (.int .i64) (.sl (.int .i64)) q s ((mget (.int .i64) (.sl (.int .i64)) q s)++([j]:List Int)))) (Ak j b c k l o a q d e g s (mput (.int .i64) (.sl (.int .i64)) q s ((mget (.int .i64) (.sl (.int .i64)) q s)++([j]:List Int))))
 else
 none
 else none).bind fun _ =>
 if((mget (.int .i64) (.sl (.int .i64)) q s).length+([j]:List Int).length)*8≤140737488355328 then
 bif keyEq (.int .i64) s s then
 eqSt (Ak j b c k l o a q d e g s (mput (.int .i64) (.sl (.int .i64)) q s ((mget (.int .i64) (.sl (.int .i64)) q s)++([j]:List Int)))) (Ak j b c k l o a q d e g s (mput (.int .i64) (.sl (.int .i64)) q s ((mget (.int .i64) (.sl (.int .i64)) q s)++([j]:List Int))))
 else
 none
 else none).bind fun _ =>
 ((if((mget (.int .i64) (.sl (.int .i64)) q s).length+([j]:List Int).length)*8≤140737488355328 then
 bif keyEq (.int .i64) s s then
 eqSt (Ak j b c k l o a q d e g s (mput (.int .i64) (.sl (.int .i64)) q s ((mget (.int .i64) (.sl (.int .i64)) q s)++([j]:List Int)))) (Ak j b c k l o a q d e g s (mput (.int .i64) (.sl (.int .i64)) q s ((mget (.int .i64) (.sl (.int .i64)) q s)++([j]:List Int))))
 else
 none
 else none).bind fun _ =>
 (if((mget (.int .i64) (.sl (.int .i64)) q s).length+([j]:List Int).length)*8≤140737488355328 then
 bif keyEq (.int .i64) s s then
 eqSt (Ak j b c k l o a q d e g s (mput (.int .i64) (.sl (.int .i64)) q s ((mget (.int .i64) (.sl (.int .i64)) q s)++([j]:List Int)))) (Ak j b c k l o a q d e g s (mput (.int .i64) (.sl (.int .i64)) q s ((mget (.int .i64) (.sl (.int .i64)) q s)++([j]:List Int))))
 else
 none
 else none).bind fun _ =>
 if((mget (.int .i64) (.sl (.int .i64)) q s).length+([j]:List Int).length)*8≤140737488355328 then
 bif keyEq (.int .i64) s s then
 eqSt (Ak j b c k l o a q d e g s (mput (.int .i64) (.sl (.int .i64)) q s ((mget (.int .i64) (.sl (.int .i64)) q s)++([j]:List Int)))) (Ak j b c k l o a q d e g s (mput (.int .i64) (.sl (.int .i64)) q s ((mget (.int .i64) (.sl (.int .i64)) q s)++([j]:List Int))))
 else
 none
 else none).bind fun _ =>
 (if((mget (.int .i64) (.sl (.int .i64)) q s).length+([j]:List Int).length)*8≤140737488355328 then
 bif keyEq (.int .i64) s s then
 eqSt (Ak j b c k l o a q d e g s (mput (.int .i64) (.sl (.int .i64)) q s ((mget (.int .i64) (.sl (.int .i64)) q s)++([j]:List Int)))) (Ak j b c k l o a q d e g s (mput (.int .i64) (.sl (.int .i64)) q s ((mget (.int .i64) (.sl (.int .i64)) q s)++([j]:List Int))))
 else
 none
 else none).bind fun _ =>
 (if((mget (.int .i64) (.sl (.int .i64)) q s).length+([j]:List Int).length)*8≤140737488355328 then
 bif keyEq (.int .i64) s s then
 eqSt (Ak j b c k l o a q d e g s (mput (.int .i64) (.sl (.int .i64)) q s ((mget (.int .i64) (.sl (.int .i64)) q s)++([j]:List Int)))) (Ak j b c k l o a q d e g s (mput (.int .i64) (.sl (.int .i64)) q s ((mget (.int .i64) (.sl (.int .i64)) q s)++([j]:List Int))))
 else
 none
 else none).bind fun _ =>
 if((mget (.int .i64) (.sl (.int .i64)) q s).length+([j]:List Int).length)*8≤140737488355328 then
 bif keyEq (.int .i64) s s then
 eqSt (Ak j b c k l o a q d e g s (mput (.int .i64) (.sl (.int .i64)) q s ((mget (.int .i64) (.sl (.int .i64)) q s)++([j]:List Int)))) (Ak j b c k l o a q d e g s (mput (.int .i64) (.sl (.int .i64)) q s ((mget (.int .i64) (.sl (.int .i64)) q s)++([j]:List Int))))
 else
 none
 else none).bind fun _ =>
 (((if((mget (.int .i64) (.sl (.int .i64)) q s).length+([j]:List Int).length)*8≤140737488355328 then
 bif keyEq (.int .i64) s s then
 eqSt (Ak j b c k l o a q d e g s (mput (.int .i64) (.sl (.int .i64)) q s ((mget (.int .i64) (.sl (.int .i64)) q s)++([j]:List Int)))) (Ak j b c k l o a q d e g s (mput (.int .i64) (.sl (.int .i64)) q s ((mget (.int .i64) (.sl (.int .i64)) q s)++([j]:List Int))))
 else
 none
 else none).bind fun _ =>
 (if((mget (.int .i64) (.sl (.int .i64)) q s).length+([j]:List Int).length)*8≤140737488355328 then
 bif keyEq (.int .i64) s s then
 eqSt (Ak j b c k l o a q d e g s (mput (.int .i64) (.sl (.int .i64)) q s ((mget (.int .i64) (.sl (.int .i64)) q s)++([j]:List Int)))) (Ak j b c k l o a q d e g s (mput (.int .i64) (.sl (.int .i64)) q s ((mget (.int .i64) (.sl (.int .i64)) q s)++([j]:List Int))))
 else
 none
 else none).bind fun _ =>
 if((mget (.int .i64) (.sl (.int .i64)) q s).length+([j]:List Int).length)*8≤140737488355328 then
 bif keyEq (.int .i64) s s then
 eqSt (Ak j b c k l o a q d e g s (mput (.int .i64) (.sl (.int .i64)) q s ((mget (.int .i64) (.sl (.int .i64)) q s)++([j]:List Int)))) (Ak j b c k l o a q d e g s (mput (.int .i64) (.sl (.int .i64)) q s ((mget (.int .i64) (.sl (.int .i64)) q s)++([j]:List Int))))
 else
 none
 else none).bind fun _ =>
 ((if((mget (.int .i64) (.sl (.int .i64)) q s).length+([j]:List Int).length)*8≤140737488355328 then
 bif keyEq (.int .i64) s s then
 eqSt (Ak j b c k l o a q d e g s (mput (.int .i64) (.sl (.int .i64)) q s ((mget (.int .i64) (.sl (.int .i64)) q s)++([j]:List Int)))) (Ak j b c k l o a q d e g s (mput (.int .i64) (.sl (.int .i64)) q s ((mget (.int .i64) (.sl (.int .i64)) q s)++([j]:List Int))))
 else
 none
 else none).bind fun _ =>
 if((mget (.int .i64) (.sl (.int .i64)) q s).length+([j]:List Int).length)*8≤140737488355328 then
 bif keyEq (.int .i64) s s then
 eqSt (Ak j b c k l o a q d e g s (mput (.int .i64) (.sl (.int .i64)) q s ((mget (.int .i64) (.sl (.int .i64)) q s)++([j]:List Int)))) (Ak j b c k l o a q d e g s (mput (.int .i64) (.sl (.int .i64)) q s ((mget (.int .i64) (.sl (.int .i64)) q s)++([j]:List Int))))
 else
 none
 else none).bind fun _ =>
 if((mget (.int .i64) (.sl (.int .i64)) q s).length+([j]:List Int).length)*8≤140737488355328 then
 bif keyEq (.int .i64) s s then
 eqSt (Ak j b c k l o a q d e g s (mput (.int .i64) (.sl (.int .i64)) q s ((mget (.int .i64) (.sl (.int .i64)) q s)++([j]:List Int)))) (Ak j b c k l o a q d e g s (mput (.int .i64) (.sl (.int .i64)) q s ((mget (.int .i64) (.sl (.int .i64)) q s)++([j]:List Int))))
 else
 none
 else none).bind fun _ =>
 ((if((mget (.int .i64) (.sl (.int .i64)) q s).length+([j]:List Int).length)*8≤140737488355328 then
 bif keyEq (.int .i64) s s then
 eqSt (Ak j b c k l o a q d e g s (mput (.int .i64) (.sl (.int .i64)) q s ((mget (.int .i64) (.sl (.int .i64)) q s)++([j]:List Int)))) (Ak j b c k l o a q d e g s (mput (.int .i64) (.sl (.int .i64)) q s ((mget (.int .i64) (.sl (.int .i64)) q s)++([j]:List Int))))
 else
 none
 else none).bind fun _ =>
 (if((mget (.int .i64) (.sl (.int .i64)) q s).length+([j]:List Int).length)*8≤140737488355328 then
 bif keyEq (.int .i64) s s then
 eqSt (Ak j b c k l o a q d e g s (mput (.int .i64) (.sl (.int .i64)) q s ((mget (.int .i64) (.sl (.int .i64)) q s)++([j]:List Int)))) (Ak j b c k l o a q d e g s (mput (.int .i64) (.sl (.int .i64)) q s ((mget (.int .i64) (.sl (.int .i64)) q s)++([j]:List Int))))
 else
 none
 else none).bind fun _ =>
 if((mget (.int .i64) (.sl (.int .i64)) q s).length+([j]:List Int).length)*8≤140737488355328 then
 bif keyEq (.int .i64) s s then
 eqSt (Ak j b c k l o a q d e g s (mput (.int .i64) (.sl (.int .i64)) q s ((mget (.int .i64) (.sl (.int .i64)) q s)++([j]:List Int)))) (Ak j b c k l o a q d e g s (mput (.int .i64) (.sl (.int .i64)) q s ((mget (.int .i64) (.sl (.int .i64)) q s)++([j]:List Int))))
 else
 none
 else none).bind fun _ =>
 ((if((mget (.int .i64) (.sl (.int .i64)) q s).length+([j]:List Int).length)*8≤140737488355328 then
 bif keyEq (.int .i64) s s then
 eqSt (Ak j b c k l o a q d e g s (mput (.int .i64) (.sl (.int .i64)) q s ((mget (.int .i64) (.sl (.int .i64)) q s)++([j]:List Int)))) (Ak j b c k l o a q d e g s (mput (.int .i64) (.sl (.int .i64)) q s ((mget (.int .i64) (.sl (.int .i64)) q s)++([j]:List Int))))
 else
 none
 else none).bind fun _ =>
 if((mget (.int .i64) (.sl (.int .i64)) q s).length+([j]:List Int).length)*8≤140737488355328 then
 bif keyEq (.int .i64) s s then
 eqSt (Ak j b c k l o a q d e g s (mput (.int .i64) (.sl (.int .i64)) q s ((mget (.int .i64) (.sl (.int .i64)) q s)++([j]:List Int)))) (Ak j b c k l o a q d e g s (mput (.int .i64) (.sl (.int .i64)) q s ((mget (.int .i64) (.sl (.int .i64)) q s)++([j]:List Int))))
 else
 none
 else none).bind fun _ =>
 if((mget (.int .i64) (.sl (.int .i64)) q s).length+([j]:List Int).length)*8≤140737488355328 then
 bif keyEq (.int .i64) s s then
 eqSt (Ak j b c k l o a q d e g s (mput (.int .i64) (.sl (.int .i64)) q s ((mget (.int .i64) (.sl (.int .i64)) q s)++([j]:List Int)))) (Ak j b c k l o a q d e g s (mput (.int .i64) (.sl (.int .i64)) q s ((mget (.int .i64) (.sl (.int .i64)) q s)++([j]:List Int))))
 else
 none
 else none).bind fun _ =>
 ((if((mget (.int .i64) (.sl (.int .i64)) q s).length+([j]:List Int).length)*8≤140737488355328 then
 bif keyEq (.int .i64) s s then
 eqSt (Ak j b c k l o a q d e g s (mput (.int .i64) (.sl (.int .i64)) q s ((mget (.int .i64) (.sl (.int .i64)) q s)++([j]:List Int)))) (Ak j b c k l o a q d e g s (mput (.int .i64) (.sl (.int .i64)) q s ((mget (.int .i64) (.sl (.int .i64)) q s)++([j]:List Int))))
 else
 none
 else none).bind fun _ =>
 (if((mget (.int .i64) (.sl (.int .i64)) q s).length+([j]:List Int).length)*8≤140737488355328 then
 bif keyEq (.int .i64) s s then
 eqSt (Ak j b c k l o a q d e g s (mput (.int .i64) (.sl (.int .i64)) q s ((mget (.int .i64) (.sl (.int .i64)) q s)++([j]:List Int)))) (Ak j b c k l o a q d e g s (mput (.int .i64) (.sl (.int .i64)) q s ((mget (.int .i64) (.sl (.int .i64)) q s)++([j]:List Int))))
 else
 none
 else none).bind fun _ =>
 (if((mget (.int .i64) (.sl (.int .i64)) q s).length+([j]:List Int).length)*8≤140737488355328 then
 bif keyEq (.int .i64) s s then
 eqSt (Ak j b c k l o a q d e g s (mput (.int .i64) (.sl (.int .i64)) q s ((mget (.int .i64) (.sl (.int .i64)) q s)++([j]:List Int)))) (Ak j b c k l o a q d e g s (mput (.int .i64) (.sl (.int .i64)) q s ((mget (.int .i64) (.sl (.int .i64)) q s)++([j]:List Int))))
 else
 none
 else none).bind fun _ =>
 if((mget (.int .i64) (.sl (.int .i64)) q s).length+([j]:List Int).length)*8≤140737488355328 then
 bif keyEq (.int .i64) s s then
 eqSt (Ak j b c k l o a q d e g s (mput (.int .i64) (.sl (.int .i64)) q s ((mget (.int .i64) (.sl (.int .i64)) q s)++([j]:List Int)))) (Ak j b c k l o a q d e g s (mput (.int .i64) (.sl (.int .i64)) q s ((mget (.int .i64) (.sl (.int .i64)) q s)++([j]:List Int))))
 else
 none
 else none).bind fun _ =>
 ((if((mget (.int .i64) (.sl (.int .i64)) q s).length+([j]:List Int).length)*8≤140737488355328 then
 bif keyEq (.int .i64) s s then
 eqSt (Ak j b c k l o a q d e g s (mput (.int .i64) (.sl (.int .i64)) q s ((mget (.int .i64) (.sl (.int .i64)) q s)++([j]:List Int)))) (Ak j b c k l o a q d e g s (mput (.int .i64) (.sl (.int .i64)) q s ((mget (.int .i64) (.sl (.int .i64)) q s)++([j]:List Int))))
 else
 none
 else none).bind fun _ =>
 (if((mget (.int .i64) (.sl (.int .i64)) q s).length+([j]:List Int).length)*8≤140737488355328 then
 bif keyEq (.int .i64) s s then
 eqSt (Ak j b c k l o a q d e g s (mput (.int .i64) (.sl (.int .i64)) q s ((mget (.int .i64) (.sl (.int .i64)) q s)++([j]:List Int)))) (Ak j b c k l o a q d e g s (mput (.int .i64) (.sl (.int .i64)) q s ((mget (.int .i64) (.sl (.int .i64)) q s)++([j]:List Int))))
 else
 none
 else none).bind fun _ =>
 if((mget (.int .i64) (.sl (.int .i64)) q s).length+([j]:List Int).length)*8≤140737488355328 then
 bif keyEq (.int .i64) s s then
 eqSt (Ak j b c k l o a q d e g s (mput (.int .i64) (.sl (.int .i64)) q s ((mget (.int .i64) (.sl (.int .i64)) q s)++([j]:List Int)))) (Ak j b c k l o a q d e g s (mput (.int .i64) (.sl (.int .i64)) q s ((mget (.int .i64) (.sl (.int .i64)) q s)++([j]:List Int))))
 else
 none
 else none).bind fun _ =>
 ((if((mget (.int .i64) (.sl (.int .i64)) q s).length+([j]:List Int).length)*8≤140737488355328 then
 bif keyEq (.int .i64) s s then
 eqSt (Ak j b c k l o a q d e g s (mput (.int .i64) (.sl (.int .i64)) q s ((mget (.int .i64) (.sl (.int .i64)) q s)++([j]:List Int)))) (Ak j b c k l o a q d e g s (mput (.int .i64) (.sl (.int .i64)) q s ((mget (.int .i64) (.sl (.int .i64)) q s)++([j]:List Int))))
 else
 none
 else none).bind fun _ =>
 if((mget (.int .i64) (.sl (.int .i64)) q s).length+([j]:List Int).length)*8≤140737488355328 then
 bif keyEq (.int .i64) s s then
 eqSt (Ak j b c k l o a q d e g s (mput (.int .i64) (.sl (.int .i64)) q s ((mget (.int .i64) (.sl (.int .i64)) q s)++([j]:List Int)))) (Ak j b c k l o a q d e g s (mput (.int .i64) (.sl (.int .i64)) q s ((mget (.int .i64) (.sl (.int .i64)) q s)++([j]:List Int))))
 else
 none
 else none).bind fun _ =>
 if((mget (.int .i64) (.sl (.int .i64)) q s).length+([j]:List Int).length)*8≤140737488355328 then
 bif keyEq (.int .i64) s s then
 eqSt (Ak j b c k l o a q d e g s (mput (.int .i64) (.sl (.int .i64)) q s ((mget (.int .i64) (.sl (.int .i64)) q s)++([j]:List Int)))) (Ak j b c k l o a q d e g s (mput (.int .i64) (.sl (.int .i64)) q s ((mget (.int .i64) (.sl (.int .i64)) q s)++([j]:List Int))))
 else
 none
 else none).bind fun _ =>
 ((if((mget (.int .i64) (.sl (.int .i64)) q s).length+([j]:List Int).length)*8≤140737488355328 then
 bif keyEq (.int .i64) s s then
 eqSt (Ak j b c k l o a q d e g s (mput (.int .i64) (.sl (.int .i64)) q s ((mget (.int .i64) (.sl (.int .i64)) q s)++([j]:List Int)))) (Ak j b c k l o a q d e g s (mput (.int .i64) (.sl (.int .i64)) q s ((mget (.int .i64) (.sl (.int .i64)) q s)++([j]:List Int))))
 else
 none
 else none).bind fun _ =>
 (if((mget (.int .i64) (.sl (.int .i64)) q s).length+([j]:List Int).length)*8≤140737488355328 then
 bif keyEq (.int .i64) s s then
 eqSt (Ak j b c k l o a q d e g s (mput (.int .i64) (.sl (.int .i64)) q s ((mget (.int .i64) (.sl (.int .i64)) q s)++([j]:List Int)))) (Ak j b c k l o a q d e g s (mput (.int .i64) (.sl (.int .i64)) q s ((mget (.int .i64) (.sl (.int .i64)) q s)++([j]:List Int))))
 else
 none
 else none).bind fun _ =>
 (if((mget (.int .i64) (.sl (.int .i64)) q s).length+([j]:List Int).length)*8≤140737488355328 then
 bif keyEq (.int .i64) s s then
 eqSt (Ak j b c k l o a q d e g s (mput (.int .i64) (.sl (.int .i64)) q s ((mget (.int .i64) (.sl (.int .i64)) q s)++([j]:List Int)))) (Ak j b c k l o a q d e g s (mput (.int .i64) (.sl (.int .i64)) q s ((mget (.int .i64) (.sl (.int .i64)) q s)++([j]:List Int))))
 else
 none
 else none).bind fun _ =>
 (if((mget (.int .i64) (.sl (.int .i64)) q s).length+([j]:List Int).length)*8≤140737488355328 then
 bif keyEq (.int .i64) s s then
 eqSt (Ak j b c k l o a q d e g s (mput (.int .i64) (.sl (.int .i64)) q s ((mget (.int .i64) (.sl (.int .i64)) q s)++([j]:List Int)))) (Ak j b c k l o a q d e g s (mput (.int .i64) (.sl (.int .i64)) q s ((mget (.int .i64) (.sl (.int .i64)) q s)++([j]:List Int))))
 else
 none
 else none).bind fun _ =>
 if((mget (.int .i64) (.sl (.int .i64)) q s).length+([j]:List Int).length)*8≤140737488355328 then
 bif keyEq (.int .i64) s s then
 eqSt (Ak j b c k l o a q d e g s (mput (.int .i64) (.sl (.int .i64)) q s ((mget (.int .i64) (.sl (.int .i64)) q s)++([j]:List Int)))) (Ak j b c k l o a q d e g s (mput (.int .i64) (.sl (.int .i64)) q s ((mget (.int .i64) (.sl (.int .i64)) q s)++([j]:List Int))))
 else
 none
 else none).bind fun _ =>
 ((if((mget (.int .i64) (.sl (.int .i64)) q s).length+([j]:List Int).length)*8≤140737488355328 then
 bif keyEq (.int .i64) s s then
 eqSt (Ak j b c k l o a q d e g s (mput (.int .i64) (.sl (.int .i64)) q s ((mget (.int .i64) (.sl (.int .i64)) q s)++([j]:List Int)))) (Ak j b c k l o a q d e g s (mput (.int .i64) (.sl (.int .i64)) q s ((mget (.int .i64) (.sl (.int .i64)) q s)++([j]:List Int))))
 else
 none
 else none).bind fun _ =>
 (if((mget (.int .i64) (.sl (.int .i64)) q s).length+([j]:List Int).length)*8≤140737488355328 then
 bif keyEq (.int .i64) s s then
 eqSt (Ak j b c k l o a q d e g s (mput (.int .i64) (.sl (.int .i64)) q s ((mget (.int .i64) (.sl (.int .i64)) q s)++([j]:List Int)))) (Ak j b c k l o a q d e g s (mput (.int .i64) (.sl (.int .i64)) q s ((mget (.int .i64) (.sl (.int .i64)) q s)++([j]:List Int))))
 else
 none
 else none).bind fun _ =>
 (if((mget (.int .i64) (.sl (.int .i64)) q s).length+([j]:List Int).length)*8≤140737488355328 then
 bif keyEq (.int .i64) s s then
 eqSt (Ak j b c k l o a q d e g s (mput (.int .i64) (.sl (.int .i64)) q s ((mget (.int .i64) (.sl (.int .i64)) q s)++([j]:List Int)))) (Ak j b c k l o a q d e g s (mput (.int .i64) (.sl (.int .i64)) q s ((mget (.int .i64) (.sl (.int .i64)) q s)++([j]:List Int))))
 else
 none
 else none).bind fun _ =>
 if((mget (.int .i64) (.sl (.int .i64)) q s).length+([j]:List Int).length)*8≤140737488355328 then
 bif keyEq (.int .i64) s s then
 eqSt (Ak j b c k l o a q d e g s (mput (.int .i64) (.sl (.int .i64)) q s ((mget (.int .i64) (.sl (.int .i64)) q s)++([j]:List Int)))) (Ak j b c k l o a q d e g s (mput (.int .i64) (.sl (.int .i64)) q s ((mget (.int .i64) (.sl (.int .i64)) q s)++([j]:List Int))))
 else
 none
 else none).bind fun _ =>
 ((if((mget (.int .i64) (.sl (.int .i64)) q s).length+([j]:List Int).length)*8≤140737488355328 then
 bif keyEq (.int .i64) s s then
 eqSt (Ak j b c k l o a q d e g s (mput (.int .i64) (.sl (.int .i64)) q s ((mget (.int .i64) (.sl (.int .i64)) q s)++([j]:List Int)))) (Ak j b c k l o a q d e g s (mput (.int .i64) (.sl (.int .i64)) q s ((mget (.int .i64) (.sl (.int .i64)) q s)++([j]:List Int))))
 else
 none
 else none).bind fun _ =>
 (if((mget (.int .i64) (.sl (.int .i64)) q s).length+([j]:List Int).length)*8≤140737488355328 then
 bif keyEq (.int .i64) s s then
 eqSt (Ak j b c k l o a q d e g s (mput (.int .i64) (.sl (.int .i64)) q s ((mget (.int .i64) (.sl (.int .i64)) q s)++([j]:List Int)))) (Ak j b c k l o a q d e g s (mput (.int .i64) (.sl (.int .i64)) q s ((mget (.int .i64) (.sl (.int .i64)) q s)++([j]:List Int))))
 else
 none
 else none).bind fun _ =>
 if((mget (.int .i64) (.sl (.int .i64)) q s).length+([j]:List Int).length)*8≤140737488355328 then
 bif keyEq (.int .i64) s s then
 eqSt (Ak j b c k l o a q d e g s (mput (.int .i64) (.sl (.int .i64)) q s ((mget (.int .i64) (.sl (.int .i64)) q s)++([j]:List Int)))) (Ak j b c k l o a q d e g s (mput (.int .i64) (.sl (.int .i64)) q s ((mget (.int .i64) (.sl (.int .i64)) q s)++([j]:List Int))))
 else
 none
 else none).bind fun _ =>
 ((if((mget (.int .i64) (.sl (.int .i64)) q s).length+([j]:List Int).length)*8≤140737488355328 then
 bif keyEq (.int .i64) s s then
 eqSt (Ak j b c k l o a q d e g s (mput (.int .i64) (.sl (.int .i64)) q s ((mget (.int .i64) (.sl (.int .i64)) q s)++([j]:List Int)))) (Ak j b c k l o a q d e g s (mput (.int .i64) (.sl (.int .i64)) q s ((mget (.int .i64) (.sl (.int .i64)) q s)++([j]:List Int))))
 else
 none
 else none).bind fun _ =>
 if((mget (.int .i64) (.sl (.int .i64)) q s).length+([j]:List Int).length)*8≤140737488355328 then
 bif keyEq (.int .i64) s s then
 eqSt (Ak j b c k l o a q d e g s (mput (.int .i64) (.sl (.int .i64)) q s ((mget (.int .i64) (.sl (.int .i64)) q s)++([j]:List Int)))) (Ak j b c k l o a q d e g s (mput (.int .i64) (.sl (.int .i64)) q s ((mget (.int .i64) (.sl (.int .i64)) q s)++([j]:List Int))))
 else
 none
 else none).bind fun _ =>
 if((mget (.int .i64) (.sl (.int .i64)) q s).length+([j]:List Int).length)*8≤140737488355328 then
 bif keyEq (.int .i64) s s then
 eqSt (Ak j b c k l o a q d e g s (mput (.int .i64) (.sl (.int .i64)) q s ((mget (.int .i64) (.sl (.int .i64)) q s)++([j]:List Int)))) (Ak j b c k l o a q d e g s (mput (.int .i64) (.sl (.int .i64)) q s ((mget (.int .i64) (.sl (.int .i64)) q s)++([j]:List Int))))
 else
 none
 else none).bind fun _=>some (Ak j b c k l o a q d e g s (mput (.int .i64) (.sl (.int .i64)) q s ((mget (.int .i64) (.sl (.int .i64)) q s)++([j]:List Int)))))
 else
 none
 else none:=by kernel_rfl
 rw[h]
 unfold GI
 simp only[mC,mI,mN,mB,mE,mM,mS,mO]
 clear h
 by_cases hc0:((mget (.int .i64) (.sl (.int .i64)) q s).length+([j]:List Int).length)*8≤140737488355328
 ·rw[if_pos hc0,if_pos hc0]
  cases hc1:(keyEq (.int .i64) s s) with
  | true =>
   simp only[cond_true]
   simp only[if_pos hc0,hc1,Option.bind_some,LC]
  | false =>
   simp only[cond_false]
   all_goals first | rfl | simp
 ·simp only[if_neg hc0]
def HK(j:Int)(b:List (List Int))(c:Int)(a:Ag.V)(d e g k:List Int)(l o:Int)(q:List (Int×(List Int))):Option ((Int×(List (Int×(List Int))))⊕(List (Int×(List Int)))) :=
 bif decide (o<l) then
 if(0:Int)≤o∧o<(k.length:Int) then
 (GI j b c k l o a q d e g (k.getD o.toNat (Ty.zero (.int .i64)))).bind fun t =>
 some (.inl ((wI (o+1)),t))
 else none
 else
 some (.inr q)
def Fx(j:Int)(b:List (List Int))(c:Int)(a:Ag.V)(d e g k:List Int)(l:Int)(z_:Int×(List (Int×(List Int)))):=HK j b c a d e g k l z_.1 z_.2
def Hd(j:Int)(b:List (List Int))(c:Int)(a:Ag.V)(d e g k:List Int)(l o:Int)(q:List (Int×(List Int))):=fix (Fx j b c a d e g k l) (o,q)
theorem Ab4(j:Int)(b:List (List Int))(c:Int)(a:Ag.V)(d e g k:List Int)(l:Int):LpOk E100 0 6 (sub (code Tryz.f136) [1,1,0,1,0,0]) [1,1,0,0,1,1,0] (AdE j b c a d e g k l) (Fx j b c a d e g k l) (Acr j b c a d e g k l):=by
 intro _
 simp only[Fx,HK,mC,mI,mN,mB,mE,mM]
 simp(disch:=refine sI ?_<;>(repeat' refine sA ?_ ?_)<;>intro _<;>kernel_rfl) only[UM (AbI _ _ _ _ _ _ _ _ _ _ _ _) (K:=stepK 0 (E100.hd 6) (E100.ot 6))]
 kernel_rfl
def HT(a:Ag.V)(b:List (List Int))(c:Int)(d e g:List Int)(j:Int)(u:List (Int×(List Int))):Option ((Int×(List (Int×(List Int))))⊕(List (Int×(List Int)))) :=
 bif decide (j<c) then
 if(0:Int)≤j∧j<(b.length:Int) then
 (Hd j b c a d e g (b.getD j.toNat (Ty.zero (.sl (.int .i64)))) ((b.getD j.toNat (Ty.zero (.sl (.int .i64)))).length:Int) 0 u).bind fun n =>
 some (.inl ((wI (j+1)),n))
 else none
 else
 some (.inr u)
def EY(a:Ag.V)(b:List (List Int))(c:Int)(d e g:List Int)(z_:Int×(List (Int×(List Int)))):=HT a b c d e g z_.1 z_.2
def G4(a:Ag.V)(b:List (List Int))(c:Int)(d e g:List Int)(j:Int)(u:List (Int×(List Int))):=fix (EY a b c d e g) (j,u)
theorem AcZ(a:Ag.V)(b:List (List Int))(c:Int)(d e g:List Int):LpOk E100 0 3 (code Tryz.f136) [1,1,0,1,0] (AbO a b c d e g) (EY a b c d e g) (Aby a b c d e g):=by
 intro _
 simp only[EY,HT,mC,mI,mN,mB,mE,mM]
 simp(disch:=refine sI ?_<;>(repeat' refine sA ?_ ?_)<;>intro _<;>kernel_rfl) only[Hd,Au (Ab4 _ _ _ _ _ _ _ _ _) (K:=stepK 0 (E100.hd 3) (E100.ot 3))]
 kernel_rfl
def Za(a:Ag.V):St:=sT 55 [(1,.ptr 0 0 [] 0)] [.box (dD Ag a)]
def AM(a:Ag.V):Unit→St:=fun v=>sT 55 [(1,.ptr 0 0 [] 0),(3,.ptr 1 0 [] 0)] [.box (dD Ag a),.box (.pr (dD Ag a) (.pr (.mp 2) (.pr (.ref 3) (.pr (.ref 4) (.pr .zs (.pr (.ref 5) .u)))))),.map .deep (.int .i64) (.sl (.int .i64)) ([]:List (Int×(List Int))) none,.row 3 .deep (.int .i64) (List.replicate (a.2.1.length:Int).toNat 0),.row 3 .deep (.int .i64) (List.replicate (a.2.1.length:Int).toNat 0),.row 2 .deep (.int .i64) (List.replicate (wI (a.1+1)).toNat 0)]
def GX(a:Ag.V):Option Unit :=
 if Ty.row (.int .i64)=true∧(0:Int)≤(a.2.1.length:Int)∧(a.2.1.length:Int)≤(a.2.1.length:Int)∧((8:Nat):Int)*(a.2.1.length:Int)≤(281474976710656:Int)∧(a.2.1.length:Int)≤(9223372036854775807:Int) then
 if Ty.row (.int .i64)=true∧(0:Int)≤(a.2.1.length:Int)∧(a.2.1.length:Int)≤(a.2.1.length:Int)∧((8:Nat):Int)*(a.2.1.length:Int)≤(281474976710656:Int)∧(a.2.1.length:Int)≤(9223372036854775807:Int) then
 if Ty.row (.int .i64)=true∧(0:Int)≤(wI (a.1+1))∧(wI (a.1+1))≤(wI (a.1+1))∧((8:Nat):Int)*(wI (a.1+1))≤(281474976710656:Int)∧(wI (a.1+1))≤(9223372036854775807:Int) then
 some ()
 else none
 else none
 else none
theorem Aeq(a:Ag.V):DrOk E100 0 1 (code Tryz.f136) [1,0] (Za a) (GX a) (AM a):=by
 unfold DrOk
 have h:drS E100 0 1 (code Tryz.f136) [1,0] (Za a) =
 if Ty.row (.int .i64)=true∧(0:Int)≤(a.2.1.length:Int)∧(a.2.1.length:Int)≤(a.2.1.length:Int)∧((8:Nat):Int)*(a.2.1.length:Int)≤(281474976710656:Int)∧(a.2.1.length:Int)≤(9223372036854775807:Int) then
 if Ty.row (.int .i64)=true∧(0:Int)≤(a.2.1.length:Int)∧(a.2.1.length:Int)≤(a.2.1.length:Int)∧((8:Nat):Int)*(a.2.1.length:Int)≤(281474976710656:Int)∧(a.2.1.length:Int)≤(9223372036854775807:Int) then
 if Ty.row (.int .i64)=true∧(0:Int)≤(wI (a.1+1))∧(wI (a.1+1))≤(wI (a.1+1))∧((8:Nat):Int)*(wI (a.1+1))≤(281474976710656:Int)∧(wI (a.1+1))≤(9223372036854775807:Int) then
 ((((if Ty.row (.int .i64)=true∧(0:Int)≤(a.2.1.length:Int)∧(a.2.1.length:Int)≤(a.2.1.length:Int)∧((8:Nat):Int)*(a.2.1.length:Int)≤(281474976710656:Int)∧(a.2.1.length:Int)≤(9223372036854775807:Int) then
 (if Ty.row (.int .i64)=true∧(0:Int)≤(a.2.1.length:Int)∧(a.2.1.length:Int)≤(a.2.1.length:Int)∧((8:Nat):Int)*(a.2.1.length:Int)≤(281474976710656:Int)∧(a.2.1.length:Int)≤(9223372036854775807:Int) then
 if Ty.row (.int .i64)=true∧(0:Int)≤(wI (a.1+1))∧(wI (a.1+1))≤(wI (a.1+1))∧((8:Nat):Int)*(wI (a.1+1))≤(281474976710656:Int)∧(wI (a.1+1))≤(9223372036854775807:Int) then
 eqSt (AM a ()) (AM a ())
 else none
 else none).bind fun _ =>
 if Ty.row (.int .i64)=true∧(0:Int)≤(wI (a.1+1))∧(wI (a.1+1))≤(wI (a.1+1))∧((8:Nat):Int)*(wI (a.1+1))≤(281474976710656:Int)∧(wI (a.1+1))≤(9223372036854775807:Int) then
 if Ty.row (.int .i64)=true∧(0:Int)≤(a.2.1.length:Int)∧(a.2.1.length:Int)≤(a.2.1.length:Int)∧((8:Nat):Int)*(a.2.1.length:Int)≤(281474976710656:Int)∧(a.2.1.length:Int)≤(9223372036854775807:Int) then
 eqSt (AM a ()) (AM a ())
 else none
 else none
 else none).bind fun _ =>
 (if Ty.row (.int .i64)=true∧(0:Int)≤(a.2.1.length:Int)∧(a.2.1.length:Int)≤(a.2.1.length:Int)∧((8:Nat):Int)*(a.2.1.length:Int)≤(281474976710656:Int)∧(a.2.1.length:Int)≤(9223372036854775807:Int) then
 (if Ty.row (.int .i64)=true∧(0:Int)≤(a.2.1.length:Int)∧(a.2.1.length:Int)≤(a.2.1.length:Int)∧((8:Nat):Int)*(a.2.1.length:Int)≤(281474976710656:Int)∧(a.2.1.length:Int)≤(9223372036854775807:Int) then
 if Ty.row (.int .i64)=true∧(0:Int)≤(wI (a.1+1))∧(wI (a.1+1))≤(wI (a.1+1))∧((8:Nat):Int)*(wI (a.1+1))≤(281474976710656:Int)∧(wI (a.1+1))≤(9223372036854775807:Int) then
 eqSt (AM a ()) (AM a ())
 else none
 else none).bind fun _ =>
 if Ty.row (.int .i64)=true∧(0:Int)≤(wI (a.1+1))∧(wI (a.1+1))≤(wI (a.1+1))∧((8:Nat):Int)*(wI (a.1+1))≤(281474976710656:Int)∧(wI (a.1+1))≤(9223372036854775807:Int) then
 if Ty.row (.int .i64)=true∧(0:Int)≤(a.2.1.length:Int)∧(a.2.1.length:Int)≤(a.2.1.length:Int)∧((8:Nat):Int)*(a.2.1.length:Int)≤(281474976710656:Int)∧(a.2.1.length:Int)≤(9223372036854775807:Int) then
 eqSt (AM a ()) (AM a ())
 else none
 else none
 else none).bind fun _ =>
 if Ty.row (.int .i64)=true∧(0:Int)≤(wI (a.1+1))∧(wI (a.1+1))≤(wI (a.1+1))∧((8:Nat):Int)*(wI (a.1+1))≤(281474976710656:Int)∧(wI (a.1+1))≤(9223372036854775807:Int) then
 (if Ty.row (.int .i64)=true∧(0:Int)≤(a.2.1.length:Int)∧(a.2.1.length:Int)≤(a.2.1.length:Int)∧((8:Nat):Int)*(a.2.1.length:Int)≤(281474976710656:Int)∧(a.2.1.length:Int)≤(9223372036854775807:Int) then
 if Ty.row (.int .i64)=true∧(0:Int)≤(a.2.1.length:Int)∧(a.2.1.length:Int)≤(a.2.1.length:Int)∧((8:Nat):Int)*(a.2.1.length:Int)≤(281474976710656:Int)∧(a.2.1.length:Int)≤(9223372036854775807:Int) then
 eqSt (AM a ()) (AM a ())
 else none
 else none).bind fun _ =>
 if Ty.row (.int .i64)=true∧(0:Int)≤(a.2.1.length:Int)∧(a.2.1.length:Int)≤(a.2.1.length:Int)∧((8:Nat):Int)*(a.2.1.length:Int)≤(281474976710656:Int)∧(a.2.1.length:Int)≤(9223372036854775807:Int) then
 if Ty.row (.int .i64)=true∧(0:Int)≤(a.2.1.length:Int)∧(a.2.1.length:Int)≤(a.2.1.length:Int)∧((8:Nat):Int)*(a.2.1.length:Int)≤(281474976710656:Int)∧(a.2.1.length:Int)≤(9223372036854775807:Int) then
 eqSt (AM a ()) (AM a ())
 else none
 else none
 else none).bind fun _ =>
 (if Ty.row (.int .i64)=true∧(0:Int)≤(a.2.1.length:Int)∧(a.2.1.length:Int)≤(a.2.1.length:Int)∧((8:Nat):Int)*(a.2.1.length:Int)≤(281474976710656:Int)∧(a.2.1.length:Int)≤(9223372036854775807:Int) then
 ((if Ty.row (.int .i64)=true∧(0:Int)≤(a.2.1.length:Int)∧(a.2.1.length:Int)≤(a.2.1.length:Int)∧((8:Nat):Int)*(a.2.1.length:Int)≤(281474976710656:Int)∧(a.2.1.length:Int)≤(9223372036854775807:Int) then
 if Ty.row (.int .i64)=true∧(0:Int)≤(wI (a.1+1))∧(wI (a.1+1))≤(wI (a.1+1))∧((8:Nat):Int)*(wI (a.1+1))≤(281474976710656:Int)∧(wI (a.1+1))≤(9223372036854775807:Int) then
 eqSt (AM a ()) (AM a ())
 else none
 else none).bind fun _ =>
 if Ty.row (.int .i64)=true∧(0:Int)≤(wI (a.1+1))∧(wI (a.1+1))≤(wI (a.1+1))∧((8:Nat):Int)*(wI (a.1+1))≤(281474976710656:Int)∧(wI (a.1+1))≤(9223372036854775807:Int) then
 if Ty.row (.int .i64)=true∧(0:Int)≤(a.2.1.length:Int)∧(a.2.1.length:Int)≤(a.2.1.length:Int)∧((8:Nat):Int)*(a.2.1.length:Int)≤(281474976710656:Int)∧(a.2.1.length:Int)≤(9223372036854775807:Int) then
 eqSt (AM a ()) (AM a ())
 else none
 else none).bind fun _ =>
 (if Ty.row (.int .i64)=true∧(0:Int)≤(a.2.1.length:Int)∧(a.2.1.length:Int)≤(a.2.1.length:Int)∧((8:Nat):Int)*(a.2.1.length:Int)≤(281474976710656:Int)∧(a.2.1.length:Int)≤(9223372036854775807:Int) then
 (if Ty.row (.int .i64)=true∧(0:Int)≤(wI (a.1+1))∧(wI (a.1+1))≤(wI (a.1+1))∧((8:Nat):Int)*(wI (a.1+1))≤(281474976710656:Int)∧(wI (a.1+1))≤(9223372036854775807:Int) then
 eqSt (AM a ()) (AM a ())
 else none).bind fun _ =>
 if Ty.row (.int .i64)=true∧(0:Int)≤(wI (a.1+1))∧(wI (a.1+1))≤(wI (a.1+1))∧((8:Nat):Int)*(wI (a.1+1))≤(281474976710656:Int)∧(wI (a.1+1))≤(9223372036854775807:Int) then
 eqSt (AM a ()) (AM a ())
 else none
 else none).bind fun _ =>
 if Ty.row (.int .i64)=true∧(0:Int)≤(wI (a.1+1))∧(wI (a.1+1))≤(wI (a.1+1))∧((8:Nat):Int)*(wI (a.1+1))≤(281474976710656:Int)∧(wI (a.1+1))≤(9223372036854775807:Int) then
 (if Ty.row (.int .i64)=true∧(0:Int)≤(a.2.1.length:Int)∧(a.2.1.length:Int)≤(a.2.1.length:Int)∧((8:Nat):Int)*(a.2.1.length:Int)≤(281474976710656:Int)∧(a.2.1.length:Int)≤(9223372036854775807:Int) then
 eqSt (AM a ()) (AM a ())
 else none).bind fun _ =>
 if Ty.row (.int .i64)=true∧(0:Int)≤(a.2.1.length:Int)∧(a.2.1.length:Int)≤(a.2.1.length:Int)∧((8:Nat):Int)*(a.2.1.length:Int)≤(281474976710656:Int)∧(a.2.1.length:Int)≤(9223372036854775807:Int) then
 eqSt (AM a ()) (AM a ())
 else none
 else none
 else none).bind fun _ =>
 (if Ty.row (.int .i64)=true∧(0:Int)≤(a.2.1.length:Int)∧(a.2.1.length:Int)≤(a.2.1.length:Int)∧((8:Nat):Int)*(a.2.1.length:Int)≤(281474976710656:Int)∧(a.2.1.length:Int)≤(9223372036854775807:Int) then
 ((if Ty.row (.int .i64)=true∧(0:Int)≤(a.2.1.length:Int)∧(a.2.1.length:Int)≤(a.2.1.length:Int)∧((8:Nat):Int)*(a.2.1.length:Int)≤(281474976710656:Int)∧(a.2.1.length:Int)≤(9223372036854775807:Int) then
 if Ty.row (.int .i64)=true∧(0:Int)≤(wI (a.1+1))∧(wI (a.1+1))≤(wI (a.1+1))∧((8:Nat):Int)*(wI (a.1+1))≤(281474976710656:Int)∧(wI (a.1+1))≤(9223372036854775807:Int) then
 eqSt (AM a ()) (AM a ())
 else none
 else none).bind fun _ =>
 if Ty.row (.int .i64)=true∧(0:Int)≤(wI (a.1+1))∧(wI (a.1+1))≤(wI (a.1+1))∧((8:Nat):Int)*(wI (a.1+1))≤(281474976710656:Int)∧(wI (a.1+1))≤(9223372036854775807:Int) then
 if Ty.row (.int .i64)=true∧(0:Int)≤(a.2.1.length:Int)∧(a.2.1.length:Int)≤(a.2.1.length:Int)∧((8:Nat):Int)*(a.2.1.length:Int)≤(281474976710656:Int)∧(a.2.1.length:Int)≤(9223372036854775807:Int) then
 eqSt (AM a ()) (AM a ())
 else none
 else none).bind fun _ =>
 (if Ty.row (.int .i64)=true∧(0:Int)≤(a.2.1.length:Int)∧(a.2.1.length:Int)≤(a.2.1.length:Int)∧((8:Nat):Int)*(a.2.1.length:Int)≤(281474976710656:Int)∧(a.2.1.length:Int)≤(9223372036854775807:Int) then
 (if Ty.row (.int .i64)=true∧(0:Int)≤(wI (a.1+1))∧(wI (a.1+1))≤(wI (a.1+1))∧((8:Nat):Int)*(wI (a.1+1))≤(281474976710656:Int)∧(wI (a.1+1))≤(9223372036854775807:Int) then
 eqSt (AM a ()) (AM a ())
 else none).bind fun _ =>
 if Ty.row (.int .i64)=true∧(0:Int)≤(wI (a.1+1))∧(wI (a.1+1))≤(wI (a.1+1))∧((8:Nat):Int)*(wI (a.1+1))≤(281474976710656:Int)∧(wI (a.1+1))≤(9223372036854775807:Int) then
 eqSt (AM a ()) (AM a ())
 else none
 else none).bind fun _ =>
 if Ty.row (.int .i64)=true∧(0:Int)≤(wI (a.1+1))∧(wI (a.1+1))≤(wI (a.1+1))∧((8:Nat):Int)*(wI (a.1+1))≤(281474976710656:Int)∧(wI (a.1+1))≤(9223372036854775807:Int) then
 (if Ty.row (.int .i64)=true∧(0:Int)≤(a.2.1.length:Int)∧(a.2.1.length:Int)≤(a.2.1.length:Int)∧((8:Nat):Int)*(a.2.1.length:Int)≤(281474976710656:Int)∧(a.2.1.length:Int)≤(9223372036854775807:Int) then
 eqSt (AM a ()) (AM a ())
 else none).bind fun _ =>
 if Ty.row (.int .i64)=true∧(0:Int)≤(a.2.1.length:Int)∧(a.2.1.length:Int)≤(a.2.1.length:Int)∧((8:Nat):Int)*(a.2.1.length:Int)≤(281474976710656:Int)∧(a.2.1.length:Int)≤(9223372036854775807:Int) then
 eqSt (AM a ()) (AM a ())
 else none
 else none
 else none).bind fun _ =>
 if Ty.row (.int .i64)=true∧(0:Int)≤(wI (a.1+1))∧(wI (a.1+1))≤(wI (a.1+1))∧((8:Nat):Int)*(wI (a.1+1))≤(281474976710656:Int)∧(wI (a.1+1))≤(9223372036854775807:Int) then
 ((if Ty.row (.int .i64)=true∧(0:Int)≤(a.2.1.length:Int)∧(a.2.1.length:Int)≤(a.2.1.length:Int)∧((8:Nat):Int)*(a.2.1.length:Int)≤(281474976710656:Int)∧(a.2.1.length:Int)≤(9223372036854775807:Int) then
 if Ty.row (.int .i64)=true∧(0:Int)≤(a.2.1.length:Int)∧(a.2.1.length:Int)≤(a.2.1.length:Int)∧((8:Nat):Int)*(a.2.1.length:Int)≤(281474976710656:Int)∧(a.2.1.length:Int)≤(9223372036854775807:Int) then
 eqSt (AM a ()) (AM a ())
 else none
 else none).bind fun _ =>
 if Ty.row (.int .i64)=true∧(0:Int)≤(a.2.1.length:Int)∧(a.2.1.length:Int)≤(a.2.1.length:Int)∧((8:Nat):Int)*(a.2.1.length:Int)≤(281474976710656:Int)∧(a.2.1.length:Int)≤(9223372036854775807:Int) then
 if Ty.row (.int .i64)=true∧(0:Int)≤(a.2.1.length:Int)∧(a.2.1.length:Int)≤(a.2.1.length:Int)∧((8:Nat):Int)*(a.2.1.length:Int)≤(281474976710656:Int)∧(a.2.1.length:Int)≤(9223372036854775807:Int) then
 eqSt (AM a ()) (AM a ())
 else none
 else none).bind fun _ =>
 (if Ty.row (.int .i64)=true∧(0:Int)≤(a.2.1.length:Int)∧(a.2.1.length:Int)≤(a.2.1.length:Int)∧((8:Nat):Int)*(a.2.1.length:Int)≤(281474976710656:Int)∧(a.2.1.length:Int)≤(9223372036854775807:Int) then
 (if Ty.row (.int .i64)=true∧(0:Int)≤(a.2.1.length:Int)∧(a.2.1.length:Int)≤(a.2.1.length:Int)∧((8:Nat):Int)*(a.2.1.length:Int)≤(281474976710656:Int)∧(a.2.1.length:Int)≤(9223372036854775807:Int) then
 eqSt (AM a ()) (AM a ())
 else none).bind fun _ =>
 if Ty.row (.int .i64)=true∧(0:Int)≤(a.2.1.length:Int)∧(a.2.1.length:Int)≤(a.2.1.length:Int)∧((8:Nat):Int)*(a.2.1.length:Int)≤(281474976710656:Int)∧(a.2.1.length:Int)≤(9223372036854775807:Int) then
 eqSt (AM a ()) (AM a ())
 else none
 else none).bind fun _ =>
 if Ty.row (.int .i64)=true∧(0:Int)≤(a.2.1.length:Int)∧(a.2.1.length:Int)≤(a.2.1.length:Int)∧((8:Nat):Int)*(a.2.1.length:Int)≤(281474976710656:Int)∧(a.2.1.length:Int)≤(9223372036854775807:Int) then
 (if Ty.row (.int .i64)=true∧(0:Int)≤(a.2.1.length:Int)∧(a.2.1.length:Int)≤(a.2.1.length:Int)∧((8:Nat):Int)*(a.2.1.length:Int)≤(281474976710656:Int)∧(a.2.1.length:Int)≤(9223372036854775807:Int) then
 eqSt (AM a ()) (AM a ())
 else none).bind fun _ =>
 if Ty.row (.int .i64)=true∧(0:Int)≤(a.2.1.length:Int)∧(a.2.1.length:Int)≤(a.2.1.length:Int)∧((8:Nat):Int)*(a.2.1.length:Int)≤(281474976710656:Int)∧(a.2.1.length:Int)≤(9223372036854775807:Int) then
 eqSt (AM a ()) (AM a ())
 else none
 else none
 else none).bind fun _=>some (AM a ()))
 else none
 else none
 else none:=by kernel_rfl
 rw[h]
 unfold GX
 simp only[mC,mI,mN,mB,mE,mM,mS,mO]
 clear h
 by_cases hc0:Ty.row (.int .i64)=true∧(0:Int)≤(a.2.1.length:Int)∧(a.2.1.length:Int)≤(a.2.1.length:Int)∧((8:Nat):Int)*(a.2.1.length:Int)≤(281474976710656:Int)∧(a.2.1.length:Int)≤(9223372036854775807:Int)
 ·rw[if_pos hc0,if_pos hc0]
  by_cases hc1:Ty.row (.int .i64)=true∧(0:Int)≤(wI (a.1+1))∧(wI (a.1+1))≤(wI (a.1+1))∧((8:Nat):Int)*(wI (a.1+1))≤(281474976710656:Int)∧(wI (a.1+1))≤(9223372036854775807:Int)
  ·rw[if_pos hc1,if_pos hc1]
   simp only[if_pos hc0,if_pos hc1,Option.bind_some,LC]
  ·simp only[if_pos hc0,if_neg hc1]
 ·simp only[if_neg hc0]
def Gx(a:Ag.V):Option (Int×Ag.V×(List (Int×(List Int)))×(List Int)×(List Int)×(List Int)) :=
 (GX a).bind fun v =>
 (G4 a a.2.1 (a.2.1.length:Int) (List.replicate (a.2.1.length:Int).toNat 0) (List.replicate (a.2.1.length:Int).toNat 0) (List.replicate (wI (a.1+1)).toNat 0) 0 ([]:List (Int×(List Int)))).bind fun i =>
 some (0,a,i,(List.replicate (a.2.1.length:Int).toNat 0),(List.replicate (a.2.1.length:Int).toNat 0),(List.replicate (wI (a.1+1)).toNat 0))
theorem U100(R:Type)(a:Ag.V)(K:AV→List Blk→Option R):runF E100 Tryz.f136 R [dD Ag a] [] K=(Gx a).bind fun r=>K (.ptr 0 r.1 [] 0) [.box (.pr (dD Ag r.2.1) (.pr (.mp 1) (.pr (.ref 2) (.pr (.ref 3) (.pr .zs (.pr (.ref 4) .u)))))),.map .deep (.int .i64) (.sl (.int .i64)) r.2.2.1 none,.row 3 .deep (.int .i64) r.2.2.2.1,.row 3 .deep (.int .i64) r.2.2.2.2.1,.row 2 .deep (.int .i64) r.2.2.2.2.2]:=by
 simp only[Gx,bC,bI,bN,bE,bA,bS,bO,bM]
 simp(disch:=refine sI ?_<;>(repeat' refine sA ?_ ?_)<;>intro _<;>kernel_rfl) only[UM (Aeq _) (K:=finK E100 Tryz.f136 0 R K),G4,Au (AcZ _ _ _ _ _ _) (K:=finK E100 Tryz.f136 0 R K)]
 kernel_rfl
def c136:Va.Callee:=brC [.d Ag] [⟨[.dat [] Ag],[],(Int×Ag.V×(List (Int×(List Int)))×(List Int)×(List Int)×(List Int)),fun p=>Gx p.1.1,fun r=>(.ptr 0 r.1 [] 0,[.box (.pr (dD Ag r.2.1) (.pr (.mp 1) (.pr (.ref 2) (.pr (.ref 3) (.pr .zs (.pr (.ref 4) .u)))))),.map .deep (.int .i64) (.sl (.int .i64)) r.2.2.1 none,.row 3 .deep (.int .i64) r.2.2.2.1,.row 3 .deep (.int .i64) r.2.2.2.2.1,.row 2 .deep (.int .i64) r.2.2.2.2.2])⟩]
theorem Xo:SoundC Tryz.prog 136 c136:=Ap (fn:=Tryz.f136) (by kernel_rfl) (by kernel_rfl) (by kernel_rfl) ⟨⟨E100,⟨⟨tabok,An trivial⟩,mixed⟩,fun p R K=>U100 R p.1.1 K⟩,trivial⟩
abbrev E101:Env:=⟨tab,lookH [],{deep:=true}⟩
def D5(a b c:Int)(d:Ag.V)(e:List (Int×(List Int)))(g i j k:List Int):Option (Bool×Int×Ag.V×(List (Int×(List Int)))×(List Int)×(List Int)×(List Int)×(List Int)) :=
 if(0:Int)≤(if(wI (0-a))>a then(wI (0-a)) else a)∧(if(wI (0-a))>a then(wI (0-a)) else a)<(k.length:Int) then
 some (((k.getD (if(wI (0-a))>a then(wI (0-a)) else a).toNat (Ty.zero (.int .i64)))==0),c,d,e,g,i,j,k)
 else none
theorem U101(R:Type)(a b c:Int)(d:Ag.V)(e:List (Int×(List Int)))(g i j k:List Int)(K:AV→List Blk→Option R):runF E101 Tryz.f255 R [dI a,.ptr 0 b [] 0] [.box (.ptr 1 c [] 0),.box (.pr (dD Ag d) (.pr (.mp 2) (.pr (.ref 3) (.pr (.ref 4) (.pr (.ref 5) (.pr (.ref 6) .u)))))),.map .deep (.int .i64) (.sl (.int .i64)) e none,.row 3 .deep (.int .i64) g,.row 3 .deep (.int .i64) i,.row 2 .deep (.int .i64) j,.row 2 .deep (.int .i64) k] K=(D5 a b c d e g i j k).bind fun r=>K (dB r.1) [.box (.ptr 1 r.2.1 [] 0),.box (.pr (dD Ag r.2.2.1) (.pr (.mp 2) (.pr (.ref 3) (.pr (.ref 4) (.pr (.ref 5) (.pr (.ref 6) .u)))))),.map .deep (.int .i64) (.sl (.int .i64)) r.2.2.2.1 none,.row 3 .deep (.int .i64) r.2.2.2.2.1,.row 3 .deep (.int .i64) r.2.2.2.2.2.1,.row 2 .deep (.int .i64) r.2.2.2.2.2.2.1,.row 2 .deep (.int .i64) r.2.2.2.2.2.2.2]:=by
 simp only[D5,bC,bI,bN,bE,bA,bS,bO,bM]
 kernel_rfl
def c255:Va.Callee:=brC [.d (.int .i64),.raw] [⟨[.dat [] (.int .i64),.ptr 0 [] 0],[.box (.ptr 1 [] 0),.box (.pr (.dat [] Ag) (.pr (.k (.mp 2)) (.pr (.k (.ref 3)) (.pr (.k (.ref 4)) (.pr (.k (.ref 5)) (.pr (.k (.ref 6)) (.k .u))))))),.map .deep (.int .i64) (.sl (.int .i64)),.row 3 .deep (.int .i64),.row 3 .deep (.int .i64),.row 2 .deep (.int .i64),.row 2 .deep (.int .i64)],(Bool×Int×Ag.V×(List (Int×(List Int)))×(List Int)×(List Int)×(List Int)×(List Int)),fun p=>D5 p.1.1 p.1.2.1 p.2.1 p.2.2.1.1 p.2.2.2.1 p.2.2.2.2.1 p.2.2.2.2.2.1 p.2.2.2.2.2.2.1 p.2.2.2.2.2.2.2.1,fun r=>(dB r.1,[.box (.ptr 1 r.2.1 [] 0),.box (.pr (dD Ag r.2.2.1) (.pr (.mp 2) (.pr (.ref 3) (.pr (.ref 4) (.pr (.ref 5) (.pr (.ref 6) .u)))))),.map .deep (.int .i64) (.sl (.int .i64)) r.2.2.2.1 none,.row 3 .deep (.int .i64) r.2.2.2.2.1,.row 3 .deep (.int .i64) r.2.2.2.2.2.1,.row 2 .deep (.int .i64) r.2.2.2.2.2.2.1,.row 2 .deep (.int .i64) r.2.2.2.2.2.2.2])⟩]
theorem Yn:SoundC Tryz.prog 255 c255:=Ap (fn:=Tryz.f255) (by kernel_rfl) (by kernel_rfl) (by kernel_rfl) ⟨⟨E101,⟨⟨tabok,An trivial⟩,mixed⟩,fun p R K=>U101 R p.1.1 p.1.2.1 p.2.1 p.2.2.1.1 p.2.2.2.1 p.2.2.2.2.1 p.2.2.2.2.2.1 p.2.2.2.2.2.2.1 p.2.2.2.2.2.2.2.1 K⟩,trivial⟩
abbrev E102:Env:=⟨tab,lookH [(255,c255)],{deep:=true,heads:=[(2,{live:=[0,1,7,8]})],outs:=[(2,{live:=[4]})]}⟩
def AbW(a:List Int)(b c:Int)(z_:Int×Int×Ag.V×(List (Int×(List Int)))×(List Int)×(List Int)×(List Int)×(List Int)):St:=sT 19 [(0,dD (.sl (.int .i64)) a),(1,.fn 255 (.cons (.ptr 0 b [] 0) .nil)),(7,dI c),(8,dI z_.1)] [.box (.ptr 1 z_.2.1 [] 0),.box (.pr (dD Ag z_.2.2.1) (.pr (.mp 2) (.pr (.ref 3) (.pr (.ref 4) (.pr (.ref 5) (.pr (.ref 6) .u)))))),.map .deep (.int .i64) (.sl (.int .i64)) z_.2.2.2.1 none,.row 3 .deep (.int .i64) z_.2.2.2.2.1,.row 3 .deep (.int .i64) z_.2.2.2.2.2.1,.row 2 .deep (.int .i64) z_.2.2.2.2.2.2.1,.row 2 .deep (.int .i64) z_.2.2.2.2.2.2.2]
def Ac2(a:List Int)(b c:Int):((Int×Int×Ag.V×(List (Int×(List Int)))×(List Int)×(List Int)×(List Int)×(List Int))⊕(Int×Ag.V×(List (Int×(List Int)))×(List Int)×(List Int)×(List Int)×(List Int)))→Ex×St:=Sum.elim (fun d=>(.ret,sT 19 [(4,dI d.1)] [.box (.ptr 1 d.2.1 [] 0),.box (.pr (dD Ag d.2.2.1) (.pr (.mp 2) (.pr (.ref 3) (.pr (.ref 4) (.pr (.ref 5) (.pr (.ref 6) .u)))))),.map .deep (.int .i64) (.sl (.int .i64)) d.2.2.2.1 none,.row 3 .deep (.int .i64) d.2.2.2.2.1,.row 3 .deep (.int .i64) d.2.2.2.2.2.1,.row 2 .deep (.int .i64) d.2.2.2.2.2.2.1,.row 2 .deep (.int .i64) d.2.2.2.2.2.2.2])) (fun e=>((.exit 0),sT 19 [] [.box (.ptr 1 e.1 [] 0),.box (.pr (dD Ag e.2.1) (.pr (.mp 2) (.pr (.ref 3) (.pr (.ref 4) (.pr (.ref 5) (.pr (.ref 6) .u)))))),.map .deep (.int .i64) (.sl (.int .i64)) e.2.2.1 none,.row 3 .deep (.int .i64) e.2.2.2.1,.row 3 .deep (.int .i64) e.2.2.2.2.1,.row 2 .deep (.int .i64) e.2.2.2.2.2.1,.row 2 .deep (.int .i64) e.2.2.2.2.2.2]))
def Cr(a:List Int)(b c g i:Int)(j:Ag.V)(k:List (Int×(List Int)))(l n o q:List Int):Option ((Int×Int×Ag.V×(List (Int×(List Int)))×(List Int)×(List Int)×(List Int)×(List Int))⊕((Int×Int×Ag.V×(List (Int×(List Int)))×(List Int)×(List Int)×(List Int)×(List Int))⊕(Int×Ag.V×(List (Int×(List Int)))×(List Int)×(List Int)×(List Int)×(List Int)))) :=
 bif decide (g<c) then
 if(0:Int)≤g∧g<(a.length:Int) then
 (D5 (a.getD g.toNat (Ty.zero (.int .i64))) b i j k l n o q).bind fun s =>
 bif s.1 then
 some (.inr (.inl (g,s.2.1,s.2.2.1,s.2.2.2.1,s.2.2.2.2.1,s.2.2.2.2.2.1,s.2.2.2.2.2.2.1,s.2.2.2.2.2.2.2)))
 else
 some (.inl ((wI (g+1)),s.2.1,s.2.2.1,s.2.2.2.1,s.2.2.2.2.1,s.2.2.2.2.2.1,s.2.2.2.2.2.2.1,s.2.2.2.2.2.2.2))
 else none
 else
 some (.inr (.inr (i,j,k,l,n,o,q)))
def AP(a:List Int)(b c:Int)(z_:Int×Int×Ag.V×(List (Int×(List Int)))×(List Int)×(List Int)×(List Int)×(List Int)):=Cr a b c z_.1 z_.2.1 z_.2.2.1 z_.2.2.2.1 z_.2.2.2.2.1 z_.2.2.2.2.2.1 z_.2.2.2.2.2.2.1 z_.2.2.2.2.2.2.2
def C2(a:List Int)(b c g i:Int)(j:Ag.V)(k:List (Int×(List Int)))(l n o q:List Int):=fix (AP a b c) (g,i,j,k,l,n,o,q)
theorem AdV(a:List Int)(b c:Int):LpOk E102 7 2 (code Tryz.f254) [1,0,1,0] (AbW a b c) (AP a b c) (Ac2 a b c):=by
 intro _
 simp only[AP,Cr,mC,mI,mN,mB,mE,mM]
 kernel_rfl
def Bl(a:List Int)(b t:Int)(u:Ag.V)(v:List (Int×(List Int)))(w x y a1:List Int):Option (Int×Int×Ag.V×(List (Int×(List Int)))×(List Int)×(List Int)×(List Int)×(List Int)) :=
 (C2 a b (a.length:Int) 0 t u v w x y a1).bind (Sum.elim (fun d =>
 some (d.1,d.2.1,d.2.2.1,d.2.2.2.1,d.2.2.2.2.1,d.2.2.2.2.2.1,d.2.2.2.2.2.2.1,d.2.2.2.2.2.2.2)) (fun e =>
 some ((-1),e.1,e.2.1,e.2.2.1,e.2.2.2.1,e.2.2.2.2.1,e.2.2.2.2.2.1,e.2.2.2.2.2.2)))
theorem U102(R:Type)(a:List Int)(b t:Int)(u:Ag.V)(v:List (Int×(List Int)))(w x y a1:List Int)(K:AV→List Blk→Option R):runF E102 Tryz.f254 R [dD (.sl (.int .i64)) a,.fn 255 (.cons (.ptr 0 b [] 0) .nil)] [.box (.ptr 1 t [] 0),.box (.pr (dD Ag u) (.pr (.mp 2) (.pr (.ref 3) (.pr (.ref 4) (.pr (.ref 5) (.pr (.ref 6) .u)))))),.map .deep (.int .i64) (.sl (.int .i64)) v none,.row 3 .deep (.int .i64) w,.row 3 .deep (.int .i64) x,.row 2 .deep (.int .i64) y,.row 2 .deep (.int .i64) a1] K=(Bl a b t u v w x y a1).bind fun r=>K (dI r.1) [.box (.ptr 1 r.2.1 [] 0),.box (.pr (dD Ag r.2.2.1) (.pr (.mp 2) (.pr (.ref 3) (.pr (.ref 4) (.pr (.ref 5) (.pr (.ref 6) .u)))))),.map .deep (.int .i64) (.sl (.int .i64)) r.2.2.2.1 none,.row 3 .deep (.int .i64) r.2.2.2.2.1,.row 3 .deep (.int .i64) r.2.2.2.2.2.1,.row 2 .deep (.int .i64) r.2.2.2.2.2.2.1,.row 2 .deep (.int .i64) r.2.2.2.2.2.2.2]:=by
 simp only[Bl,bC,bI,bN,bE,bA,bS,bO,bM]
 simp(disch:=refine sI ?_<;>(repeat' refine sA ?_ ?_)<;>intro _<;>kernel_rfl) only[C2,Au (AdV _ _ _) (K:=finK E102 Tryz.f254 7 R K)]
 kernel_rfl
def c254:Va.Callee:=brC [.d (.sl (.int .i64)),.raw] [⟨[.dat [] (.sl (.int .i64)),.fn 255 (.cons (.ptr 0 [] 0) (.k .nil))],[.box (.ptr 1 [] 0),.box (.pr (.dat [] Ag) (.pr (.k (.mp 2)) (.pr (.k (.ref 3)) (.pr (.k (.ref 4)) (.pr (.k (.ref 5)) (.pr (.k (.ref 6)) (.k .u))))))),.map .deep (.int .i64) (.sl (.int .i64)),.row 3 .deep (.int .i64),.row 3 .deep (.int .i64),.row 2 .deep (.int .i64),.row 2 .deep (.int .i64)],(Int×Int×Ag.V×(List (Int×(List Int)))×(List Int)×(List Int)×(List Int)×(List Int)),fun p=>Bl p.1.1 p.1.2.1.1 p.2.1 p.2.2.1.1 p.2.2.2.1 p.2.2.2.2.1 p.2.2.2.2.2.1 p.2.2.2.2.2.2.1 p.2.2.2.2.2.2.2.1,fun r=>(dI r.1,[.box (.ptr 1 r.2.1 [] 0),.box (.pr (dD Ag r.2.2.1) (.pr (.mp 2) (.pr (.ref 3) (.pr (.ref 4) (.pr (.ref 5) (.pr (.ref 6) .u)))))),.map .deep (.int .i64) (.sl (.int .i64)) r.2.2.2.1 none,.row 3 .deep (.int .i64) r.2.2.2.2.1,.row 3 .deep (.int .i64) r.2.2.2.2.2.1,.row 2 .deep (.int .i64) r.2.2.2.2.2.2.1,.row 2 .deep (.int .i64) r.2.2.2.2.2.2.2])⟩]
theorem Yg:SoundC Tryz.prog 254 c254:=Ap (fn:=Tryz.f254) (by kernel_rfl) (by kernel_rfl) (by kernel_rfl) ⟨⟨E102,⟨⟨tabok,An ⟨Yn,trivial⟩⟩,mixed⟩,fun p R K=>U102 R p.1.1 p.1.2.1.1 p.2.1 p.2.2.1.1 p.2.2.2.1 p.2.2.2.2.1 p.2.2.2.2.2.1 p.2.2.2.2.2.2.1 p.2.2.2.2.2.2.2.1 K⟩,trivial⟩
abbrev E103:Env:=⟨tab,lookH [(254,c254)],{deep:=true}⟩
def Eg(a b:Int)(c:Ag.V)(d:List (Int×(List Int)))(e g i j:List Int):Option (Int×Ag.V×(List (Int×(List Int)))×(List Int)×(List Int)×(List Int)×(List Int)) :=
 if(0:Int)≤b∧b<(c.2.1.length:Int) then
 (Bl (c.2.1.getD b.toNat (Ty.zero (.sl (.int .i64)))) 0 a c d e g i j).bind fun k =>
 if(0:Int)≤b∧b<(k.2.2.1.2.1.length:Int) then
 if(0:Int)≤k.1∧k.1<((k.2.2.1.2.1.getD b.toNat (Ty.zero (.sl (.int .i64)))).length:Int) then
 some (((k.2.2.1.2.1.getD b.toNat (Ty.zero (.sl (.int .i64)))).getD k.1.toNat (Ty.zero (.int .i64))),k.2.2.1,k.2.2.2.1,k.2.2.2.2.1,k.2.2.2.2.2.1,k.2.2.2.2.2.2.1,k.2.2.2.2.2.2.2)
 else none
 else none
 else none
theorem U103(R:Type)(a b:Int)(c:Ag.V)(d:List (Int×(List Int)))(e g i j:List Int)(K:AV→List Blk→Option R):runF E103 Tryz.f227 R [.ptr 0 a [] 0,dI b] [.box (.pr (dD Ag c) (.pr (.mp 1) (.pr (.ref 2) (.pr (.ref 3) (.pr (.ref 4) (.pr (.ref 5) .u)))))),.map .deep (.int .i64) (.sl (.int .i64)) d none,.row 3 .deep (.int .i64) e,.row 3 .deep (.int .i64) g,.row 2 .deep (.int .i64) i,.row 2 .deep (.int .i64) j] K=(Eg a b c d e g i j).bind fun r=>K (dI r.1) [.box (.pr (dD Ag r.2.1) (.pr (.mp 1) (.pr (.ref 2) (.pr (.ref 3) (.pr (.ref 4) (.pr (.ref 5) .u)))))),.map .deep (.int .i64) (.sl (.int .i64)) r.2.2.1 none,.row 3 .deep (.int .i64) r.2.2.2.1,.row 3 .deep (.int .i64) r.2.2.2.2.1,.row 2 .deep (.int .i64) r.2.2.2.2.2.1,.row 2 .deep (.int .i64) r.2.2.2.2.2.2]:=by
 simp only[Eg,bC,bI,bN,bE,bA,bS,bO,bM]
 kernel_rfl
def c227:Va.Callee:=brC [.raw,.d (.int .i64)] [⟨[.ptr 0 [] 0,.dat [] (.int .i64)],[.box (.pr (.dat [] Ag) (.pr (.k (.mp 1)) (.pr (.k (.ref 2)) (.pr (.k (.ref 3)) (.pr (.k (.ref 4)) (.pr (.k (.ref 5)) (.k .u))))))),.map .deep (.int .i64) (.sl (.int .i64)),.row 3 .deep (.int .i64),.row 3 .deep (.int .i64),.row 2 .deep (.int .i64),.row 2 .deep (.int .i64)],(Int×Ag.V×(List (Int×(List Int)))×(List Int)×(List Int)×(List Int)×(List Int)),fun p=>Eg p.1.1 p.1.2.1 p.2.1.1 p.2.2.1 p.2.2.2.1 p.2.2.2.2.1 p.2.2.2.2.2.1 p.2.2.2.2.2.2.1,fun r=>(dI r.1,[.box (.pr (dD Ag r.2.1) (.pr (.mp 1) (.pr (.ref 2) (.pr (.ref 3) (.pr (.ref 4) (.pr (.ref 5) .u)))))),.map .deep (.int .i64) (.sl (.int .i64)) r.2.2.1 none,.row 3 .deep (.int .i64) r.2.2.2.1,.row 3 .deep (.int .i64) r.2.2.2.2.1,.row 2 .deep (.int .i64) r.2.2.2.2.2.1,.row 2 .deep (.int .i64) r.2.2.2.2.2.2])⟩]
theorem Ym:SoundC Tryz.prog 227 c227:=Ap (fn:=Tryz.f227) (by kernel_rfl) (by kernel_rfl) (by kernel_rfl) ⟨⟨E103,⟨⟨tabok,An ⟨Yg,trivial⟩⟩,mixed⟩,fun p R K=>U103 R p.1.1 p.1.2.1 p.2.1.1 p.2.2.1 p.2.2.2.1 p.2.2.2.2.1 p.2.2.2.2.2.1 p.2.2.2.2.2.2.1 K⟩,trivial⟩
end
end Go.Proofs.X
