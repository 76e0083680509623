import Derived.KernelRfl
import Derived.Test.YtlohhmmaibiimaaGreatK8
set_option linter.unusedVariables false
set_option linter.unusedSimpArgs false
namespace Go.Proofs.X
open Go Go.Va
set_option maxRecDepth 100000
noncomputable section
abbrev E48:Env:=⟨tab,lookH [],{deep:=true,heads:=[(2,{live:=[0,1,5]})],outs:=[(2,{live:=[4]})]}⟩
def Aig(a:List Int)(b z_:Int):St:=sT 18 [(0,dD (.sl (.int .i64)) a),(1,dI b),(5,dI z_)] []
def AfD(a:List Int)(b:Int):(Unit⊕Unit)→Ex×St:=Sum.elim (fun c=>(.ret,sT 18 [(4,dB true)] [])) (fun d=>((.exit 0),sT 18 [] []))
def Kc(a:List Int)(b e:Int):Option (Int⊕(Unit⊕Unit)) :=
 bif decide (e<(a.length:Int)) then
 if(0:Int)≤e∧e<(a.length:Int) then
 bif (a.getD e.toNat (Ty.zero (.int .i64)))==b then
 some (.inr (.inl ()))
 else
 some (.inl (wI (e+1)))
 else none
 else
 some (.inr (.inr ()))
def It(a:List Int)(b z_:Int):=Kc a b z_
def Lh(a:List Int)(b e:Int):=fix (It a b) e
theorem Ai4(a:List Int)(b:Int):LpOk E48 0 2 (code Tryz.f128) [1,0,1,0] (Aig a b) (It a b) (AfD a b):=by
 intro _
 simp only[It,Kc,mC,mI,mN,mB,mE,mM]
 kernel_rfl
def HF(a:List Int)(b:Int):Option Bool :=
 (Lh a b 0).bind (Sum.elim (fun c =>
 some true) (fun d =>
 some false))
theorem U48(R:Type)(a:List Int)(b:Int)(K:AV→List Blk→Option R):runF E48 Tryz.f128 R [dD (.sl (.int .i64)) a,dI b] [] K=(HF a b).bind fun r=>K (dB r) []:=by
 simp only[HF,bC,bI,bN,bE,bA,bS,bO,bM]
 simp(disch:=refine sI ?_<;>(repeat' refine sA ?_ ?_)<;>intro _<;>kernel_rfl) only[Lh,Au (Ai4 _ _) (K:=finK E48 Tryz.f128 0 R K)]
 kernel_rfl
def c128:Va.Callee:=brC [.d (.sl (.int .i64)),.d (.int .i64)] [⟨[.dat [] (.sl (.int .i64)),.dat [] (.int .i64)],[],Bool,fun p=>HF p.1.1 p.1.2.1,fun r=>(dB r,[])⟩]
theorem Sw:SoundC Tryz.prog 128 c128:=Ap (fn:=Tryz.f128) (by kernel_rfl) (by kernel_rfl) (by kernel_rfl) ⟨⟨E48,⟨⟨tabok,An trivial⟩,mixed⟩,fun p R K=>U48 R p.1.1 p.1.2.1 K⟩,trivial⟩
abbrev R49:Type:=Int→(List Int)→Ag.V→Int→Int→Bool→(List Int)→Option (Bool×Ag.V×Int×Int×Bool×(List Int))
def c127r(rc:R49):Va.Callee:=brC [.raw,.d (.sl (.int .i64))] [⟨[.ptr 0 [] 0,.dat [] (.sl (.int .i64))],[.box (.pr (.dat [] Ag) (.pr (.dat [] (.int .i64)) (.pr (.dat [] (.int .i64)) (.pr (.dat [] .bool) (.pr (.k (.ref 1)) (.k .u)))))),.row 2 .deep (.int .i64)],(Bool×Ag.V×Int×Int×Bool×(List Int)),fun p=>rc p.1.1 p.1.2.1 p.2.1.1 p.2.1.2.1 p.2.1.2.2.1 p.2.1.2.2.2.1 p.2.2.1,fun r=>(dB r.1,[.box (.pr (dD Ag r.2.1) (.pr (dI r.2.2.1) (.pr (dI r.2.2.2.1) (.pr (dB r.2.2.2.2.1) (.pr (.ref 2) .u))))),.dead,.row 2 .deep (.int .i64) r.2.2.2.2.2])⟩]
abbrev E49(rc:R49):Env:=⟨tab,lookH [(127,c127r rc),(128,c128),(190,c190)],{deep:=true,heads:=[(9,{live:=[0,5,7]})],outs:=[(9,{live:=[0,4,5]})],joins:=[(10,{live:=[0,4,5,7]}),(12,{live:=[0,5,7]})],ents:=[(10,[0,5,7]),(12,[0,5,7])],cpre:=[(64,[(0,[],.row [4] 2 (.int .i64) true)]),(78,[(0,[],.row [4] 2 (.int .i64) true)])],fin:=[.mv 0 [4],.dead 1],frzd:=[(63,(.sl (.int .i64))),(77,(.sl (.int .i64)))]}⟩
def Agg(a:Int)(b:Ag.V)(c:Int)(d:Bool)(e:List Int)(g:Int)(i:List Int)(z_:Int):St:=sT 84 [(0,.ptr 0 a [] 0),(5,.ref 2),(7,dI z_)] [.box (.pr (dD Ag b) (.pr (dI g) (.pr (dI c) (.pr (dB d) (.pr (.ref 1) .u))))),.row 2 .deep (.int .i64) e,.row 2 .deep (.int .i64) i]
def AfZ(a:Int)(b:Ag.V)(c:Int)(d:Bool)(e:List Int)(g:Int)(i:List Int):((Bool×Ag.V×Int×Int×Bool×(List Int))⊕Unit)→Ex×St:=Sum.elim (fun j=>(.ret,sT 84 [(0,.ptr 0 a [] 0),(4,dB j.1),(5,.ref 2)] [.box (.pr (dD Ag j.2.1) (.pr (dI j.2.2.1) (.pr (dI j.2.2.2.1) (.pr (dB j.2.2.2.2.1) (.pr (.ref 3) .u))))),.dead,.row 2 .deep (.int .i64) i,.row 2 .deep (.int .i64) j.2.2.2.2.2])) (fun k=>((.exit 0),sT 84 [(0,.ptr 0 a [] 0),(5,.ref 2)] [.box (.pr (dD Ag b) (.pr (dI g) (.pr (dI c) (.pr (dB d) (.pr (.ref 1) .u))))),.row 2 .deep (.int .i64) e,.row 2 .deep (.int .i64) i]))
def AeI(a l:Int)(b:Ag.V)(g c:Int)(d:Bool)(e i:List Int):St:=sT 84 [(0,.ptr 0 a [] 0),(5,.ref 2),(7,dI l)] [.box (.pr (dD Ag b) (.pr (dI g) (.pr (dI c) (.pr (dB d) (.pr (.ref 1) .u))))),.row 2 .deep (.int .i64) e,.row 2 .deep (.int .i64) i]
def Ajw(a l:Int)(b:Ag.V)(g c:Int)(d:Bool)(e i:List Int):(Unit⊕(Bool×Ag.V×Int×Int×Bool×(List Int)))→Ex×St:=Sum.elim (fun n=>(.normal,sT 84 [(0,.ptr 0 a [] 0),(5,.ref 2),(7,dI l)] [.box (.pr (dD Ag b) (.pr (dI g) (.pr (dI c) (.pr (dB d) (.pr (.ref 1) .u))))),.row 2 .deep (.int .i64) e,.row 2 .deep (.int .i64) i])) (fun o=>(.ret,sT 84 [(0,.ptr 0 a [] 0),(4,dB o.1),(5,.ref 2),(7,dI l)] [.box (.pr (dD Ag o.2.1) (.pr (dI o.2.2.1) (.pr (dI o.2.2.2.1) (.pr (dB o.2.2.2.2.1) (.pr (.ref 3) .u))))),.dead,.row 2 .deep (.int .i64) i,.row 2 .deep (.int .i64) o.2.2.2.2.2]))
def Ahw(a l:Int)(b:Ag.V)(g c:Int)(d:Bool)(e i:List Int):St:=sT 84 [(0,.ptr 0 a [] 0),(5,.ref 2),(7,dI l)] [.box (.pr (dD Ag b) (.pr (dI g) (.pr (dI c) (.pr (dB d) (.pr (.ref 1) .u))))),.row 2 .deep (.int .i64) e,.row 2 .deep (.int .i64) i]
def Ahb(a l:Int)(b:Ag.V)(g c:Int)(d:Bool)(e i:List Int):(Unit⊕Unit)→Ex×St:=Sum.elim (fun q=>((.exit 1),sT 84 [(0,.ptr 0 a [] 0),(5,.ref 2),(7,dI l)] [.box (.pr (dD Ag b) (.pr (dI g) (.pr (dI c) (.pr (dB d) (.pr (.ref 1) .u))))),.row 2 .deep (.int .i64) e,.row 2 .deep (.int .i64) i])) (fun s=>(.normal,sT 84 [(0,.ptr 0 a [] 0),(5,.ref 2),(7,dI l)] [.box (.pr (dD Ag b) (.pr (dI g) (.pr (dI c) (.pr (dB d) (.pr (.ref 1) .u))))),.row 2 .deep (.int .i64) e,.row 2 .deep (.int .i64) i]))
def Bh(rc:R49)(a l:Int)(b:Ag.V)(g c:Int)(d:Bool)(e i:List Int):Option (Unit⊕Unit) :=
 (HF i l).bind fun t =>
 bif t then
 some (.inl ())
 else
 (HF i (wI (0-l))).bind fun u =>
 bif u then
 some (.inl ())
 else
 some (.inr ())
theorem Agu(rc:R49)(a l:Int)(b:Ag.V)(g c:Int)(d:Bool)(e i:List Int):JnOk (E49 rc) 2 12 (sub (sub (code Tryz.f127) [1,1,1,1,1,0,1,0,0]) [1,0]) [0,0] (Ahw a l b g c d e i) (Bh rc a l b g c d e i) (Ahb a l b g c d e i):=by
 unfold JnOk
 simp only[Bh,mC,mI,mN,mB,mE,mM]
 kernel_rfl
def Bj(rc:R49)(a l:Int)(b:Ag.V)(g c:Int)(d:Bool)(e i:List Int):Option (Unit⊕(Bool×Ag.V×Int×Int×Bool×(List Int))) :=
 (Bh rc a l b g c d e i).bind (Sum.elim (fun q =>
 some (.inl ())) (fun s =>
 if i.length*8≤140737488355328 then
 if(i.length+([(wI (0-l))]:List Int).length)*8≤140737488355328 then
 (rc a (i++([(wI (0-l))]:List Int)) b g c d e).bind fun v =>
 bif v.1 then
 some (.inr (true,v.2.1,v.2.2.1,v.2.2.2.1,v.2.2.2.2.1,v.2.2.2.2.2))
 else
 bif !v.2.2.2.2.1 then
 if i.length*8≤140737488355328 then
 if(i.length+([l]:List Int).length)*8≤140737488355328 then
 (rc a (i++([l]:List Int)) v.2.1 v.2.2.1 v.2.2.2.1 v.2.2.2.2.1 v.2.2.2.2.2).bind fun w =>
 some (.inr (w.1,w.2.1,w.2.2.1,w.2.2.2.1,w.2.2.2.2.1,w.2.2.2.2.2))
 else none
 else none
 else
 some (.inr (false,v.2.1,v.2.2.1,v.2.2.2.1,v.2.2.2.2.1,v.2.2.2.2.2))
 else none
 else none))
theorem Agx(rc:R49)(a l:Int)(b:Ag.V)(g c:Int)(d:Bool)(e i:List Int):JnOk (E49 rc) 2 10 (sub (code Tryz.f127) [1,1,1,1,1,0,1,0,0]) [1,0] (AeI a l b g c d e i) (Bj rc a l b g c d e i) (Ajw a l b g c d e i):=by
 unfold JnOk
 simp only[Bj,mC,mI,mN,mB,mE,mM]
 simp(disch:=refine sI ?_<;>(repeat' refine sA ?_ ?_)<;>intro _<;>kernel_rfl) only[Bn (Agu _ _ _ _ _ _ _ _ _) (K:=joinK 2 ((E49 rc).jn 10))]
 kernel_rfl
def A6(rc:R49)(a:Int)(b:Ag.V)(c:Int)(d:Bool)(e:List Int)(g:Int)(i:List Int)(l:Int):Option (Int⊕((Bool×Ag.V×Int×Int×Bool×(List Int))⊕Unit)) :=
 bif decide (l≤b.1) then
 (Bj rc a l b g c d e i).bind (Sum.elim (fun n =>
 some (.inl (wI (l+1)))) (fun o =>
 some (.inr (.inl (o.1,o.2.1,o.2.2.1,o.2.2.2.1,o.2.2.2.2.1,o.2.2.2.2.2)))))
 else
 some (.inr (.inr ()))
def AA(rc:R49)(a:Int)(b:Ag.V)(c:Int)(d:Bool)(e:List Int)(g:Int)(i:List Int)(z_:Int):=A6 rc a b c d e g i z_
def Cn(rc:R49)(a:Int)(b:Ag.V)(c:Int)(d:Bool)(e:List Int)(g:Int)(i:List Int)(l:Int):=fix (AA rc a b c d e g i) l
theorem Akx(rc:R49)(a:Int)(b:Ag.V)(c:Int)(d:Bool)(e:List Int)(g:Int)(i:List Int):LpOk (E49 rc) 2 9 (code Tryz.f127) [1,1,1,1,1,0,1,0] (Agg a b c d e g i) (AA rc a b c d e g i) (AfZ a b c d e g i):=by
 intro _
 simp only[AA,A6,mC,mI,mN,mB,mE,mM]
 simp(disch:=refine sI ?_<;>(repeat' refine sA ?_ ?_)<;>intro _<;>kernel_rfl) only[Bn (Agx _ _ _ _ _ _ _ _ _) (K:=stepK 2 ((E49 rc).hd 9) ((E49 rc).ot 9))]
 kernel_rfl
def BA(rc:R49)(a:Int)(x:List Int)(b:Ag.V)(y c:Int)(d:Bool)(e:List Int):Option (Bool×Ag.V×Int×Int×Bool×(List Int)) :=
 bif y==c then
 some (false,b,y,c,true,e)
 else
 (HE b x).bind fun a1 =>
 bif !a1.1 then
 some (false,b,(wI (y+1)),c,d,e)
 else
 (Cn rc a b c d e (wI (y+1)) a1.2 1).bind (Sum.elim (fun j =>
 some (j.1,j.2.1,j.2.2.1,j.2.2.2.1,j.2.2.2.2.1,j.2.2.2.2.2)) (fun k =>
 some (true,b,(wI (y+1)),c,d,a1.2)))
theorem U49(R:Type)(rc:R49)(a:Int)(x:List Int)(b:Ag.V)(y c:Int)(d:Bool)(e:List Int)(K:AV→List Blk→Option R):runF (E49 rc) Tryz.f127 R [.ptr 0 a [] 0,dD (.sl (.int .i64)) x] [.box (.pr (dD Ag b) (.pr (dI y) (.pr (dI c) (.pr (dB d) (.pr (.ref 1) .u))))),.row 2 .deep (.int .i64) e] K=(BA rc a x b y c d e).bind fun r=>K (dB r.1) [.box (.pr (dD Ag r.2.1) (.pr (dI r.2.2.1) (.pr (dI r.2.2.2.1) (.pr (dB r.2.2.2.2.1) (.pr (.ref 2) .u))))),.dead,.row 2 .deep (.int .i64) r.2.2.2.2.2]:=by
 simp only[BA,bC,bI,bN,bE,bA,bS,bO,bM]
 simp(disch:=refine sI ?_<;>(repeat' refine sA ?_ ?_)<;>intro _<;>kernel_rfl) only[Cn,Au (Akx _ _ _ _ _ _ _ _) (K:=finK (E49 rc) Tryz.f127 2 R K)]
 kernel_rfl
def Aw:Nat→R49
 | 0=>fun _ _ _ _ _ _ _=>none
 | n+1=>BA (Aw n)
def Cf:R49:=Aw 1000000
def c127:Va.Callee:=c127r Cf
theorem SK:∀n,SoundC Tryz.prog 127 (c127r (Aw n))
 | 0=>UY ⟨fun _=>rfl,trivial⟩
 | n+1=>Ap (fn:=Tryz.f127) (by kernel_rfl) (by kernel_rfl) (by kernel_rfl) ⟨⟨(E49 (Aw n)),⟨⟨tabok,An ⟨SK n,Sw,WD,trivial⟩⟩,mixed⟩,fun p R K=>U49 R (Aw n) p.1.1 p.1.2.1 p.2.1.1 p.2.1.2.1 p.2.1.2.2.1 p.2.1.2.2.2.1 p.2.2.1 K⟩,trivial⟩
theorem WQ:SoundC Tryz.prog 127 c127:=SK _
abbrev E50:Env:=⟨tab,lookH [(52,c52),(126,c126),(127,c127),(128,c128)],{deep:=true,heads:=[(12,{live:=[2,8,10,11],pre:=[(10,false,.row [] 4 .bool true)]})],outs:=[(12,{live:=[8,10]})],joins:=[(3,{live:=[1,2,7,20]})],ents:=[(3,[1,2,7])],cpre:=[(28,[(0,[],.row [4] 2 (.int .i64) true)])],frzd:=[(27,(.sl (.int .i64)))],res:=[(0,.row [] 4 .bool true)]}⟩
def AhH(a b:Ag.V)(c d:Int)(e:Bool)(g:List Int)(z_:Int×(List Bool)):St:=sT 63 [(2,.ptr 0 0 [] 0),(8,.ptr 1 0 [] 0),(10,.ref 2),(11,dI z_.1)] [.box (dD Ag a),.box (.pr (dD Ag b) (.pr (dI c) (.pr (dI d) (.pr (dB e) (.pr (.ref 3) .u))))),.row 4 .deep .bool z_.2,.row 2 .deep (.int .i64) g]
def AhI(a b:Ag.V)(c d:Int)(e:Bool)(g:List Int):(List Bool)→Ex×St:=fun i=>((.exit 0),sT 63 [(8,.ptr 0 0 [] 0),(10,.ref 1)] [.box (.pr (dD Ag b) (.pr (dI c) (.pr (dI d) (.pr (dB e) (.pr (.ref 2) .u))))),.row 4 .deep .bool i,.row 2 .deep (.int .i64) g])
def GW(a b:Ag.V)(c d:Int)(e:Bool)(g:List Int)(j:Int)(k:List Bool):Option ((Int×(List Bool))⊕(List Bool)) :=
 bif decide (j≤a.1) then
 (HF g j).bind fun l =>
 if(k.length+([l]:List Bool).length)*1≤140737488355328 then
 some (.inl ((wI (j+1)),(k++([l]:List Bool))))
 else none
 else
 some (.inr k)
def C5(a b:Ag.V)(c d:Int)(e:Bool)(g:List Int)(z_:Int×(List Bool)):=GW a b c d e g z_.1 z_.2
def I4(a b:Ag.V)(c d:Int)(e:Bool)(g:List Int)(j:Int)(k:List Bool):=fix (C5 a b c d e g) (j,k)
theorem AhT(a b:Ag.V)(c d:Int)(e:Bool)(g:List Int):LpOk E50 0 12 (code Tryz.f55) [1,1,1,1,1,1,1,1,0,1,0] (AhH a b c d e g) (C5 a b c d e g) (AhI a b c d e g):=by
 intro _
 simp only[C5,GW,mC,mI,mN,mB,mE,mM]
 kernel_rfl
def Ah2(n:Int)(a:Ag.V):St:=sT 63 [(1,dI n),(2,.ptr 0 0 [] 0),(7,.zs)] [.box (dD Ag a)]
def Agd(n:Int)(a:Ag.V):Bool→Ex×St:=fun o=>(.normal,sT 63 [(1,dI n),(2,.ptr 0 0 [] 0),(7,.zs),(20,dB o)] [.box (dD Ag a)])
def Je(n:Int)(a:Ag.V):Option Bool :=
 (IH a).bind fun q =>
 bif !q then
 some true
 else
 some (!(Ay n 0 20000))
theorem AjZ(n:Int)(a:Ag.V):JnOk E50 0 3 (code Tryz.f55) [1,1,0,0] (Ah2 n a) (Je n a) (Agd n a):=by
 unfold JnOk
 simp only[Je,mC,mI,mN,mB,mE,mM]
 kernel_rfl
def IK(a:Ag.V)(n:Int):Option (Int×Int×(List Bool)) :=
 (Je n a).bind fun o =>
 bif o then
 some ((-1),4,([]:List Bool))
 else
 (Cf 0 ([]:List Int) a 0 n false ([]:List Int)).bind fun s =>
 bif s.2.2.2.2.1 then
 some (n,3,([]:List Bool))
 else
 bif !s.1 then
 some (s.2.2.1,2,([]:List Bool))
 else
 (I4 a s.2.1 s.2.2.1 s.2.2.2.1 s.2.2.2.2.1 s.2.2.2.2.2 1 ([]:List Bool)).bind fun i =>
 some (s.2.2.1,1,i)
theorem U50(R:Type)(a:Ag.V)(n:Int)(K:AV→List Blk→Option R):runF E50 Tryz.f55 R [dD Ag a,dI n] [] K=(IK a n).bind fun r=>K (.cons (.ref 0) (.cons (dI r.1) (.cons (dI r.2.1) .nil))) [.row 4 .deep .bool r.2.2]:=by
 simp only[IK,bC,bI,bN,bE,bA,bS,bO,bM]
 simp(disch:=refine sI ?_<;>(repeat' refine sA ?_ ?_)<;>intro _<;>kernel_rfl) only[Bn (AjZ _ _) (K:=finK E50 Tryz.f55 0 R K),I4,Au (AhT _ _ _ _ _ _) (K:=finK E50 Tryz.f55 0 R K)]
 kernel_rfl
def c55:Va.Callee:=brC [.d Ag,.d (.int .i64)] [⟨[.dat [] Ag,.dat [] (.int .i64)],[],(Int×Int×(List Bool)),fun p=>IK p.1.1 p.1.2.1,fun r=>(.cons (.ref 0) (.cons (dI r.1) (.cons (dI r.2.1) .nil)),[.row 4 .deep .bool r.2.2])⟩]
theorem ZJ:SoundC Tryz.prog 55 c55:=Ap (fn:=Tryz.f55) (by kernel_rfl) (by kernel_rfl) (by kernel_rfl) ⟨⟨E50,⟨⟨tabok,An ⟨KI,Sp,WQ,Sw,trivial⟩⟩,mixed⟩,fun p R K=>U50 R p.1.1 p.1.2.1 K⟩,trivial⟩
abbrev E51:Env:=⟨tab,lookH [(111,c111),(119,c119),(121,c121)],{deep:=true,heads:=[(8,{live:=[0,1,6,7,9],frz:=[(7,false,(.sl (.int .i64)))],pre:=[(6,false,.row [] 83 Ah true)]}),(12,{live:=[0,1,6,7,9,10,11],pre:=[(10,false,.row [] 5 (.int .u8) true)]})],outs:=[(8,{live:=[6]}),(12,{live:=[0,1,6,7,9,10],frz:=[(10,false,(.sl (.int .u8)))]})],joins:=[(17,{live:=[0,1,6,7,9,10,11,12]})],ents:=[(17,[0,1,6,7,9,10,11,12])],res:=[(0,.row [] 83 Ah true)]}⟩
def AjU(a:List Aa.V)(b:List Bool)(c:List Int)(z_:Int×(List Ah.V)):St:=sT 69 [(0,dD (.sl Aa) a),(1,dD (.sl .bool) b),(6,.ref 0),(7,dD (.sl (.int .i64)) c),(9,dI z_.1)] [.row 83 .deep Ah z_.2]
def AiG(a:List Aa.V)(b:List Bool)(c:List Int):(List Ah.V)→Ex×St:=fun d=>((.exit 0),sT 69 [(6,.ref 0)] [.row 83 .deep Ah d])
def Ai0(a:List Aa.V)(b:List Bool)(c:List Int)(e:Int)(g:List Ah.V)(z_:Int×(List Int)):St:=sT 69 [(0,dD (.sl Aa) a),(1,dD (.sl .bool) b),(6,.ref 0),(7,dD (.sl (.int .i64)) c),(9,dI e),(10,.ref 1),(11,dI z_.1)] [.row 83 .deep Ah g,.row 5 .deep (.int .u8) z_.2]
def Aj4(a:List Aa.V)(b:List Bool)(c:List Int)(e:Int)(g:List Ah.V):(List Int)→Ex×St:=fun i=>((.exit 2),sT 69 [(0,dD (.sl Aa) a),(1,dD (.sl .bool) b),(6,.ref 0),(7,dD (.sl (.int .i64)) c),(9,dI e),(10,dD (.sl (.int .u8)) i)] [.row 83 .deep Ah g])
def AeU(a:List Aa.V)(b:List Bool)(c:List Int)(e j:Int)(g:List Ah.V)(k:List Int):St:=sT 69 [(0,dD (.sl Aa) a),(1,dD (.sl .bool) b),(6,.ref 0),(7,dD (.sl (.int .i64)) c),(9,dI e),(10,.ref 1),(11,dI j),(12,dD (.int .u8) 0)] [.row 83 .deep Ah g,.row 5 .deep (.int .u8) k]
def AeW(a:List Aa.V)(b:List Bool)(c:List Int)(e j:Int)(g:List Ah.V)(k:List Int):Int→Ex×St:=fun l=>(.normal,sT 69 [(0,dD (.sl Aa) a),(1,dD (.sl .bool) b),(6,.ref 0),(7,dD (.sl (.int .i64)) c),(9,dI e),(10,.ref 1),(11,dI j),(12,dD (.int .u8) l)] [.row 83 .deep Ah g,.row 5 .deep (.int .u8) k])
def GU(a:List Aa.V)(b:List Bool)(c:List Int)(e j:Int)(g:List Ah.V)(k:List Int):Option Int :=
 if(0:Int)≤e∧e<(c.length:Int) then
 if(0:Int)≤(wI ((c.getD e.toNat (Ty.zero (.int .i64)))+j))∧(wI ((c.getD e.toNat (Ty.zero (.int .i64)))+j))<(b.length:Int) then
 bif b.getD (wI ((c.getD e.toNat (Ty.zero (.int .i64)))+j)).toNat (Ty.zero .bool) then
 some 1
 else
 some 0
 else none
 else none
theorem AkA(a:List Aa.V)(b:List Bool)(c:List Int)(e j:Int)(g:List Ah.V)(k:List Int):JnOk E51 0 17 (sub (sub (code Tryz.f56) [1,1,1,1,1,0,1,0,0]) [1,0,0,1,0,1,0,0]) [1,0,0,1,0] (AeU a b c e j g k) (GU a b c e j g k) (AeW a b c e j g k):=by
 unfold JnOk
 simp only[GU,mC,mI,mN,mB,mE,mM]
 kernel_rfl
def Fo(a:List Aa.V)(b:List Bool)(c:List Int)(e:Int)(g:List Ah.V)(j:Int)(k:List Int):Option ((Int×(List Int))⊕(List Int)) :=
 if(0:Int)≤e∧e<(a.length:Int) then
 bif decide (j<(a.getD e.toNat (Ty.zero Aa)).2.1) then
 (GU a b c e j g k).bind fun l =>
 if(k.length+([l]:List Int).length)*1≤140737488355328 then
 some (.inl ((wI (j+1)),(k++([l]:List Int))))
 else none
 else
 some (.inr k)
 else none
def BZ(a:List Aa.V)(b:List Bool)(c:List Int)(e:Int)(g:List Ah.V)(z_:Int×(List Int)):=Fo a b c e g z_.1 z_.2
def G2(a:List Aa.V)(b:List Bool)(c:List Int)(e:Int)(g:List Ah.V)(j:Int)(k:List Int):=fix (BZ a b c e g) (j,k)
theorem AhC(a:List Aa.V)(b:List Bool)(c:List Int)(e:Int)(g:List Ah.V):LpOk E51 0 12 (sub (code Tryz.f56) [1,1,1,1,1,0,1,0,0]) [1,0,0,1,0,1,0] (Ai0 a b c e g) (BZ a b c e g) (Aj4 a b c e g):=by
 intro _
 simp only[BZ,Fo,mC,mI,mN,mB,mE,mM]
 simp(disch:=refine sI ?_<;>(repeat' refine sA ?_ ?_)<;>intro _<;>kernel_rfl) only[Bn (AkA _ _ _ _ _ _ _) (K:=stepK 0 (E51.hd 12) (E51.ot 12))]
 kernel_rfl
def Fa(a:List Aa.V)(b:List Bool)(c:List Int)(e:Int)(g:List Ah.V):Option ((Int×(List Ah.V))⊕(List Ah.V)) :=
 bif decide (e<(a.length:Int)) then
 (G2 a b c e g 0 ([]:List Int)).bind fun i =>
 (FE i).bind fun n =>
 if(g.length+([(n.1,n.2.2,())]:List Ah.V).length)*32≤140737488355328 then
 some (.inl ((wI (e+1)),(g++([(n.1,n.2.2,())]:List Ah.V))))
 else none
 else
 some (.inr g)
def B3(a:List Aa.V)(b:List Bool)(c:List Int)(z_:Int×(List Ah.V)):=Fa a b c z_.1 z_.2
def GM(a:List Aa.V)(b:List Bool)(c:List Int)(e:Int)(g:List Ah.V):=fix (B3 a b c) (e,g)
theorem AgR(a:List Aa.V)(b:List Bool)(c:List Int):LpOk E51 0 8 (code Tryz.f56) [1,1,1,1,1,0,1,0] (AjU a b c) (B3 a b c) (AiG a b c):=by
 intro _
 simp only[B3,Fa,mC,mI,mN,mB,mE,mM]
 simp(disch:=refine sI ?_<;>(repeat' refine sA ?_ ?_)<;>intro _<;>kernel_rfl) only[G2,Au (AhC _ _ _ _ _) (K:=stepK 0 (E51.hd 8) (E51.ot 8))]
 kernel_rfl
def F7(a:List Aa.V)(b:List Bool):Option (Bool×(List Ah.V)) :=
 (En a).bind fun o =>
 bif !o then
 some (false,([]:List Ah.V))
 else
 (CQ a).bind fun q =>
 bif decide ((b.length:Int)<q.1) then
 some (false,([]:List Ah.V))
 else
 (GM a b q.2 0 ([]:List Ah.V)).bind fun d =>
 some (true,d)
theorem U51(R:Type)(a:List Aa.V)(b:List Bool)(K:AV→List Blk→Option R):runF E51 Tryz.f56 R [dD (.sl Aa) a,dD (.sl .bool) b] [] K=(F7 a b).bind fun r=>K (.cons (.ref 0) (.cons (dB r.1) .nil)) [.row 83 .deep Ah r.2]:=by
 simp only[F7,bC,bI,bN,bE,bA,bS,bO,bM]
 simp(disch:=refine sI ?_<;>(repeat' refine sA ?_ ?_)<;>intro _<;>kernel_rfl) only[GM,Au (AgR _ _ _) (K:=finK E51 Tryz.f56 0 R K)]
 kernel_rfl
def c56:Va.Callee:=brC [.d (.sl Aa),.d (.sl .bool)] [⟨[.dat [] (.sl Aa),.dat [] (.sl .bool)],[],(Bool×(List Ah.V)),fun p=>F7 p.1.1 p.1.2.1,fun r=>(.cons (.ref 0) (.cons (dB r.1) .nil),[.row 83 .deep Ah r.2])⟩]
theorem AaP:SoundC Tryz.prog 56 c56:=Ap (fn:=Tryz.f56) (by kernel_rfl) (by kernel_rfl) (by kernel_rfl) ⟨⟨E51,⟨⟨tabok,An ⟨SY,OW,SC,trivial⟩⟩,mixed⟩,fun p R K=>U51 R p.1.1 p.1.2.1 K⟩,trivial⟩
abbrev E52:Env:=⟨tab,lookH [(51,c51),(52,c52),(53,c53),(54,c54),(55,c55),(56,c56)],{deep:=true,joins:=[(2,{live:=[0,1,2,6,24]})],ents:=[(2,[0,1,2,6])],res:=[(0,.row [2] 83 Ah true)]}⟩
def AeF(a:List Aa.V)(b:List Ae.V)(c:Int):St:=sT 69 [(0,dD (.sl Aa) a),(1,dD (.sl Ae) b),(2,dI c),(6,.ptr 0 0 [] 0)] [.box (.pr (dI 0) (.pr (dI 0) (.pr .zs .u)))]
def AhZ(a:List Aa.V)(b:List Ae.V)(c:Int):Bool→Ex×St:=fun d=>(.normal,sT 69 [(0,dD (.sl Aa) a),(1,dD (.sl Ae) b),(2,dI c),(6,.ptr 0 0 [] 0),(24,dB d)] [.box (.pr (dI 0) (.pr (dI 0) (.pr .zs .u)))])
def EZ(a:List Aa.V)(b:List Ae.V)(c:Int):Option Bool :=
 (CT a b).bind fun e =>
 bif !e then
 some true
 else
 some (!(Ay c 0 20000))
theorem Ag5(a:List Aa.V)(b:List Ae.V)(c:Int):JnOk E52 0 2 (code Tryz.f10) [1,0,0] (AeF a b c) (EZ a b c) (AhZ a b c):=by
 unfold JnOk
 simp only[EZ,mC,mI,mN,mB,mE,mM]
 kernel_rfl
def Em(a:List Aa.V)(b:List Ae.V)(c:Int):Option (Int×Int×(List Ah.V)) :=
 (EZ a b c).bind fun d =>
 bif d then
 some (1,0,([]:List Ah.V))
 else
 (FT a b).bind fun g =>
 bif !g.1 then
 some (1,0,([]:List Ah.V))
 else
 (JO a b).bind fun i =>
 bif !i.2.1 then
 some (2,0,([]:List Ah.V))
 else
 (IK (i.1,i.2.2,()) c).bind fun j =>
 bif j.2.1==3 then
 some (4,c,([]:List Ah.V))
 else
 bif j.2.1==2 then
 some (3,j.1,([]:List Ah.V))
 else
 (F7 a j.2.2).bind fun k =>
 some (5,j.1,k.2)
theorem U52(R:Type)(a:List Aa.V)(b:List Ae.V)(c:Int)(K:AV→List Blk→Option R):runF E52 Tryz.f10 R [dD (.sl Aa) a,dD (.sl Ae) b,dI c] [] K=(Em a b c).bind fun r=>K (.pr (dI r.1) (.pr (dI r.2.1) (.pr (.ref 0) .u))) [.row 83 .deep Ah r.2.2]:=by
 simp only[Em,bC,bI,bN,bE,bA,bS,bO,bM]
 simp(disch:=refine sI ?_<;>(repeat' refine sA ?_ ?_)<;>intro _<;>kernel_rfl) only[Bn (Ag5 _ _ _) (K:=finK E52 Tryz.f10 0 R K)]
 kernel_rfl
def c10:Va.Callee:=brC [.d (.sl Aa),.d (.sl Ae),.d (.int .i64)] [⟨[.dat [] (.sl Aa),.dat [] (.sl Ae),.dat [] (.int .i64)],[],(Int×Int×(List Ah.V)),fun p=>Em p.1.1 p.1.2.1 p.1.2.2.1,fun r=>(.pr (dI r.1) (.pr (dI r.2.1) (.pr (.ref 0) .u)),[.row 83 .deep Ah r.2.2])⟩]
theorem Zu:SoundC Tryz.prog 10 c10:=Ap (fn:=Tryz.f10) (by kernel_rfl) (by kernel_rfl) (by kernel_rfl) ⟨⟨E52,⟨⟨tabok,An ⟨T4,KI,Vz,Zn,ZJ,AaP,trivial⟩⟩,mixed⟩,fun p R K=>U52 R p.1.1 p.1.2.1 p.1.2.2.1 K⟩,trivial⟩
abbrev E53:Env:=⟨tab,lookH [],{deep:=true,heads:=[(4,{live:=[0,3]})],outs:=[(4,{live:=[2]})],joins:=[(2,{live:=[0,21]}),(7,{live:=[0,3,49]})],ents:=[(2,[0]),(7,[0,3])]}⟩
def AiF(a:ByteArray)(z_:Int):St:=sT 50 [(0,dD .str a),(3,dI z_)] []
def AfT(a:ByteArray):(Unit⊕Unit)→Ex×St:=Sum.elim (fun b=>(.ret,sT 50 [(2,dB false)] [])) (fun c=>((.exit 0),sT 50 [] []))
def Ahk(a:ByteArray)(d:Int):St:=sT 50 [(0,dD .str a),(3,dI d)] []
def Ah8(a:ByteArray)(d:Int):Bool→Ex×St:=fun e=>(.normal,sT 50 [(0,dD .str a),(3,dI d),(49,dB e)] [])
def GH(a:ByteArray)(d:Int):Option Bool :=
 if(0:Int)≤d∧d<(a.size:Int) then
 bif decide ((bgetI a d)<97) then
 if(0:Int)≤d∧d<(a.size:Int) then
 bif decide ((bgetI a d)<48) then
 some true
 else
 if(0:Int)≤d∧d<(a.size:Int) then
 some (decide ((bgetI a d)>57))
 else none
 else none
 else
 if(0:Int)≤d∧d<(a.size:Int) then
 bif decide ((bgetI a d)>122) then
 if(0:Int)≤d∧d<(a.size:Int) then
 bif decide ((bgetI a d)<48) then
 some true
 else
 if(0:Int)≤d∧d<(a.size:Int) then
 some (decide ((bgetI a d)>57))
 else none
 else none
 else
 some false
 else none
 else none
theorem AfJ(a:ByteArray)(d:Int):JnOk E53 0 7 (sub (code Tryz.f180) [1,1,0,1,0,0]) [1,0,0,0] (Ahk a d) (GH a d) (Ah8 a d):=by
 unfold JnOk
 simp only[GH,mC,mI,mN,mB,mE,mM]
 kernel_rfl
def GO(a:ByteArray)(d:Int):Option (Int⊕(Unit⊕Unit)) :=
 bif decide (d<(a.size:Int)) then
 (GH a d).bind fun e =>
 bif e then
 some (.inr (.inl ()))
 else
 some (.inl (wI (d+1)))
 else
 some (.inr (.inr ()))
def EJ(a:ByteArray)(z_:Int):=GO a z_
def KQ(a:ByteArray)(d:Int):=fix (EJ a) d
theorem Ake(a:ByteArray):LpOk E53 0 4 (code Tryz.f180) [1,1,0,1,0] (AiF a) (EJ a) (AfT a):=by
 intro _
 simp only[EJ,GO,mC,mI,mN,mB,mE,mM]
 simp(disch:=refine sI ?_<;>(repeat' refine sA ?_ ?_)<;>intro _<;>kernel_rfl) only[Bn (AfJ _ _) (K:=stepK 0 (E53.hd 4) (E53.ot 4))]
 kernel_rfl
def Akn(a:ByteArray):St:=sT 50 [(0,dD .str a)] []
def Ag4(a:ByteArray):Bool→Ex×St:=fun g=>(.normal,sT 50 [(0,dD .str a),(21,dB g)] [])
def Jc(a:ByteArray):Option Bool :=
 bif decide ((a.size:Int)<1) then
 some true
 else
 bif decide ((a.size:Int)>12) then
 some true
 else
 if(0:Int)≤(0:Int)∧(0:Int)<(a.size:Int) then
 bif decide ((bgetI a 0)<97) then
 some true
 else
 if(0:Int)≤(0:Int)∧(0:Int)<(a.size:Int) then
 some (decide ((bgetI a 0)>122))
 else none
 else none
theorem Aj6(a:ByteArray):JnOk E53 0 2 (code Tryz.f180) [1,0,0] (Akn a) (Jc a) (Ag4 a):=by
 unfold JnOk
 simp only[Jc,mC,mI,mN,mB,mE,mM]
 kernel_rfl
def Ht(a:ByteArray):Option Bool :=
 (Jc a).bind fun g =>
 bif g then
 some false
 else
 (KQ a 0).bind (Sum.elim (fun b =>
 some false) (fun c =>
 some true))
theorem U53(R:Type)(a:ByteArray)(K:AV→List Blk→Option R):runF E53 Tryz.f180 R [dD .str a] [] K=(Ht a).bind fun r=>K (dB r) []:=by
 simp only[Ht,bC,bI,bN,bE,bA,bS,bO,bM]
 simp(disch:=refine sI ?_<;>(repeat' refine sA ?_ ?_)<;>intro _<;>kernel_rfl) only[Bn (Aj6 _) (K:=finK E53 Tryz.f180 0 R K),KQ,Au (Ake _) (K:=finK E53 Tryz.f180 0 R K)]
 kernel_rfl
def c180:Va.Callee:=brC [.d .str] [⟨[.dat [] .str],[],Bool,fun p=>Ht p.1.1,fun r=>(dB r,[])⟩]
theorem WJ:SoundC Tryz.prog 180 c180:=Ap (fn:=Tryz.f180) (by kernel_rfl) (by kernel_rfl) (by kernel_rfl) ⟨⟨E53,⟨⟨tabok,An trivial⟩,mixed⟩,fun p R K=>U53 R p.1.1 K⟩,trivial⟩
abbrev E54:Env:=⟨tab,lookH [],{deep:=true}⟩
def Aq(a b c:Int):Bool:=((decide (a≥b))&&(decide (a≤c)))
theorem U54(R:Type)(a b c:Int)(K:AV→List Blk→Option R):runF E54 Tryz.f59 R [dI a,dI b,dI c] [] K=K (dB (Aq a b c)) []:=by
 have h:runF E54 Tryz.f59 R [dI a,dI b,dI c] [] K =
 bif decide (a≥b) then
 K (dB (decide (a≤c))) []
 else
 K (dB false) []:=by kernel_rfl
 rw[h]
 unfold Aq
 cases h1:(decide (a≥b))
 ·first | rfl | kernel_rfl
 ·first | rfl | kernel_rfl
def c59:Va.Callee:=brC [.d (.int .i64),.d (.int .i64),.d (.int .i64)] [⟨[.dat [] (.int .i64),.dat [] (.int .i64),.dat [] (.int .i64)],[],Bool,fun p=>some (Aq p.1.1 p.1.2.1 p.1.2.2.1),fun r=>(dB r,[])⟩]
theorem Lu:SoundC Tryz.prog 59 c59:=Ap (fn:=Tryz.f59) (by kernel_rfl) (by kernel_rfl) (by kernel_rfl) ⟨⟨E54,⟨⟨tabok,An trivial⟩,mixed⟩,fun p R K=>U54 R p.1.1 p.1.2.1 p.1.2.2.1 K⟩,trivial⟩
abbrev E55:Env:=⟨tab,lookH [],{deep:=true}⟩
def In(a:Aa.V)(b:ByteArray):Bool:=(strEq a.1 b)
theorem U55(R:Type)(a:Aa.V)(b:ByteArray)(K:AV→List Blk→Option R):runF E55 Tryz.f220 R [dD Aa a,.rop [] .str b] [] K=K (dB (In a b)) []:=by
 kernel_rfl
def c220:Va.Callee:=brC [.d Aa,.p .str] [⟨[.dat [] Aa,.rop [] .str],[],Bool,fun p=>some (In p.1.1 p.1.2.1),fun r=>(dB r,[])⟩]
theorem YX:SoundC Tryz.prog 220 c220:=Ap (fn:=Tryz.f220) (by kernel_rfl) (by kernel_rfl) (by kernel_rfl) ⟨⟨E55,⟨⟨tabok,An trivial⟩,mixed⟩,fun p R K=>U55 R p.1.1 p.1.2.1 K⟩,trivial⟩
end
end Go.Proofs.X
namespace Go.Proofs.X
open Go Go.Va
set_option maxRecDepth 100000
noncomputable section
abbrev E56:Env:=⟨tab,lookH [(220,c220)],{deep:=true,heads:=[(2,{live:=[0,1,7,8]})],outs:=[(2,{live:=[4]})]}⟩
def Ai9(a:List Aa.V)(b:Int)(c:ByteArray)(d z_:Int):St:=sT 19 [(0,dD (.sl Aa) a),(1,.fn 220 (.cons (.ptr 0 b [] 0) .nil)),(7,dI d),(8,dI z_)] [.box (dD .str c)]
def Afn(a:List Aa.V)(b:Int)(c:ByteArray)(d:Int):(Int⊕Unit)→Ex×St:=Sum.elim (fun e=>(.ret,sT 19 [(4,dI e)] [.box (dD .str c)])) (fun g=>((.exit 0),sT 19 [] [.box (dD .str c)]))
def Bw(a:List Aa.V)(b:Int)(c:ByteArray)(d i:Int):Option (Int⊕(Int⊕Unit)) :=
 bif decide (i<d) then
 if(0:Int)≤i∧i<(a.length:Int) then
 bif In (a.getD i.toNat (Ty.zero Aa)) c then
 some (.inr (.inl i))
 else
 some (.inl (wI (i+1)))
 else none
 else
 some (.inr (.inr ()))
def AX(a:List Aa.V)(b:Int)(c:ByteArray)(d z_:Int):=Bw a b c d z_
def D8(a:List Aa.V)(b:Int)(c:ByteArray)(d i:Int):=fix (AX a b c d) i
theorem AgI(a:List Aa.V)(b:Int)(c:ByteArray)(d:Int):LpOk E56 1 2 (code Tryz.f219) [1,0,1,0] (Ai9 a b c d) (AX a b c d) (Afn a b c d):=by
 intro _
 simp only[AX,Bw,mC,mI,mN,mB,mE,mM]
 kernel_rfl
def BQ(a:List Aa.V)(b:Int)(c:ByteArray):Option (Int×ByteArray) :=
 (D8 a b c (a.length:Int) 0).bind (Sum.elim (fun e =>
 some (e,c)) (fun g =>
 some ((-1),c)))
theorem U56(R:Type)(a:List Aa.V)(b:Int)(c:ByteArray)(K:AV→List Blk→Option R):runF E56 Tryz.f219 R [dD (.sl Aa) a,.fn 220 (.cons (.ptr 0 b [] 0) .nil)] [.box (dD .str c)] K=(BQ a b c).bind fun r=>K (dI r.1) [.box (dD .str r.2)]:=by
 simp only[BQ,bC,bI,bN,bE,bA,bS,bO,bM]
 simp(disch:=refine sI ?_<;>(repeat' refine sA ?_ ?_)<;>intro _<;>kernel_rfl) only[D8,Au (AgI _ _ _ _) (K:=finK E56 Tryz.f219 1 R K)]
 kernel_rfl
def c219:Va.Callee:=brC [.d (.sl Aa),.raw] [⟨[.dat [] (.sl Aa),.fn 220 (.cons (.ptr 0 [] 0) (.k .nil))],[.box (.dat [] .str)],(Int×ByteArray),fun p=>BQ p.1.1 p.1.2.1.1 p.2.1,fun r=>(dI r.1,[.box (dD .str r.2)])⟩]
theorem Yy:SoundC Tryz.prog 219 c219:=Ap (fn:=Tryz.f219) (by kernel_rfl) (by kernel_rfl) (by kernel_rfl) ⟨⟨E56,⟨⟨tabok,An ⟨YX,trivial⟩⟩,mixed⟩,fun p R K=>U56 R p.1.1 p.1.2.1.1 p.2.1 K⟩,trivial⟩
abbrev E57:Env:=⟨tab,lookH [(219,c219)],{deep:=true}⟩
def EE(a:List Aa.V)(b:ByteArray):Option Int :=
 (BQ a 0 b).bind fun c =>
 some c.1
theorem U57(R:Type)(a:List Aa.V)(b:ByteArray)(K:AV→List Blk→Option R):runF E57 Tryz.f181 R [dD (.sl Aa) a,dD .str b] [] K=(EE a b).bind fun r=>K (dI r) []:=by
 simp only[EE,bC,bI,bN,bE,bA,bS,bO,bM]
 kernel_rfl
def c181:Va.Callee:=brC [.d (.sl Aa),.d .str] [⟨[.dat [] (.sl Aa),.dat [] .str],[],Int,fun p=>EE p.1.1 p.1.2.1,fun r=>(dI r,[])⟩]
theorem XZ:SoundC Tryz.prog 181 c181:=Ap (fn:=Tryz.f181) (by kernel_rfl) (by kernel_rfl) (by kernel_rfl) ⟨⟨E57,⟨⟨tabok,An ⟨Yy,trivial⟩⟩,mixed⟩,fun p R K=>U57 R p.1.1 p.1.2.1 K⟩,trivial⟩
abbrev E58:Env:=⟨tab,lookH [(59,c59),(180,c180),(181,c181)],{deep:=true,heads:=[(5,{live:=[0,3,9,10,11]})],outs:=[(5,{live:=[2,3]})],joins:=[(8,{live:=[0,3,5,9,10,11,34]})],ents:=[(8,[0,3,4,5,9,10,11])]}⟩
def AjJ(a:List Aa.V)(b:Int)(z_:Int×Int):St:=sT 42 [(0,dD (.sl Aa) a),(3,dI z_.1),(9,dD (.sl Aa) a),(10,dI b),(11,dI z_.2)] []
def AhR(a:List Aa.V)(b:Int):(Int⊕Int)→Ex×St:=Sum.elim (fun c=>(.ret,sT 42 [(2,dB false),(3,dI c)] [])) (fun d=>((.exit 0),sT 42 [(3,dI d)] []))
def Ahy(a:List Aa.V)(e g b:Int)(i:Aa.V):St:=sT 42 [(0,dD (.sl Aa) a),(3,dI e),(4,dI g),(5,.ptr 0 0 [] 0),(9,dD (.sl Aa) a),(10,dI b),(11,dI g)] [.box (dD Aa i)]
def Ajc(a:List Aa.V)(e g b:Int)(i:Aa.V):Bool→Ex×St:=fun j=>(.normal,sT 42 [(0,dD (.sl Aa) a),(3,dI e),(5,.ptr 0 0 [] 0),(9,dD (.sl Aa) a),(10,dI b),(11,dI g),(34,dB j)] [.box (dD Aa i)])
def Ih(a:List Aa.V)(e g b:Int)(i:Aa.V):Option Bool :=
 (Ht i.1).bind fun k =>
 bif !k then
 some true
 else
 bif !(Aq i.2.1 1 4096) then
 some true
 else
 if(0:Int)≤(0:Int)∧(0:Int)≤g∧g≤(a.length:Int) then
 (EE ((a.take g.toNat).drop 0) i.1).bind fun l =>
 some (decide (l≥0))
 else none
theorem Afe(a:List Aa.V)(e g b:Int)(i:Aa.V):JnOk E58 0 8 (sub (code Tryz.f113) [1,1,1,0,1,0,0]) [1,1,0,0,1,0,0] (Ahy a e g b i) (Ih a e g b i) (Ajc a e g b i):=by
 unfold JnOk
 simp only[Ih,mC,mI,mN,mB,mE,mM]
 kernel_rfl
def F3(a:List Aa.V)(b e g:Int):Option ((Int×Int)⊕(Int⊕Int)) :=
 bif decide (g<b) then
 if(0:Int)≤g∧g<(a.length:Int) then
 (Ih a e g b (a.getD g.toNat (Ty.zero Aa))).bind fun j =>
 bif j then
 some (.inr (.inl e))
 else
 some (.inl ((wI (e+(a.getD g.toNat (Ty.zero Aa)).2.1)),(wI (g+1))))
 else none
 else
 some (.inr (.inr e))
def D3(a:List Aa.V)(b:Int)(z_:Int×Int):=F3 a b z_.1 z_.2
def J5(a:List Aa.V)(b e g:Int):=fix (D3 a b) (e,g)
theorem Ae3(a:List Aa.V)(b:Int):LpOk E58 0 5 (code Tryz.f113) [1,1,1,0,1,0] (AjJ a b) (D3 a b) (AhR a b):=by
 intro _
 simp only[D3,F3,mC,mI,mN,mB,mE,mM]
 simp(disch:=refine sI ?_<;>(repeat' refine sA ?_ ?_)<;>intro _<;>kernel_rfl) only[Bn (Afe _ _ _ _ _) (K:=stepK 0 (E58.hd 5) (E58.ot 5))]
 kernel_rfl
def FL(a:List Aa.V):Option Bool :=
 bif decide ((a.length:Int)>60) then
 some false
 else
 (J5 a (a.length:Int) 0 0).bind (Sum.elim (fun c =>
 some false) (fun d =>
 some (decide (d≤20000))))
theorem U58(R:Type)(a:List Aa.V)(K:AV→List Blk→Option R):runF E58 Tryz.f113 R [dD (.sl Aa) a] [] K=(FL a).bind fun r=>K (dB r) []:=by
 simp only[FL,bC,bI,bN,bE,bA,bS,bO,bM]
 simp(disch:=refine sI ?_<;>(repeat' refine sA ?_ ?_)<;>intro _<;>kernel_rfl) only[J5,Au (Ae3 _ _) (K:=finK E58 Tryz.f113 0 R K)]
 kernel_rfl
def c113:Va.Callee:=brC [.d (.sl Aa)] [⟨[.dat [] (.sl Aa)],[],Bool,fun p=>FL p.1.1,fun r=>(dB r,[])⟩]
theorem Sy:SoundC Tryz.prog 113 c113:=Ap (fn:=Tryz.f113) (by kernel_rfl) (by kernel_rfl) (by kernel_rfl) ⟨⟨E58,⟨⟨tabok,An ⟨Lu,WJ,XZ,trivial⟩⟩,mixed⟩,fun p R K=>U58 R p.1.1 K⟩,trivial⟩
abbrev E59:Env:=⟨tab,lookH [],{deep:=true}⟩
def AO(a:Int):Int:=(wI (Int.tdiv (wI (a+63)) 64))
theorem U59(R:Type)(a:Int)(K:AV→List Blk→Option R):runF E59 Tryz.f200 R [dI a] [] K=K (dI (AO a)) []:=by
 kernel_rfl
def c200:Va.Callee:=brC [.d (.int .i64)] [⟨[.dat [] (.int .i64)],[],Int,fun p=>some (AO p.1.1),fun r=>(dI r,[])⟩]
theorem Sx:SoundC Tryz.prog 200 c200:=Ap (fn:=Tryz.f200) (by kernel_rfl) (by kernel_rfl) (by kernel_rfl) ⟨⟨E59,⟨⟨tabok,An trivial⟩,mixed⟩,fun p R K=>U59 R p.1.1 K⟩,trivial⟩
abbrev E60:Env:=⟨tab,lookH [(59,c59),(200,c200)],{deep:=true,joins:=[(2,{live:=[1,16]})],ents:=[(2,[1])]}⟩
def AaO(a:Ah.V):St:=sT 35 [(1,.ptr 0 0 [] 0)] [.box (dD Ah a)]
def Aa5(a:Ah.V)(m0:Bool):Ex×St:=(.normal,sT 35 [(1,.ptr 0 0 [] 0),(16,dB m0)] [.box (dD Ah a)])
theorem Afg(a:Ah.V):jnS E60 0 2 (code Tryz.f265) [1,0,0] (AaO a)=some (Aa5 a ((!(Aq a.1 1 4096))||((a.2.1.length:Int) !=(AO a.1)))):=by
 have h0:jnS E60 0 2 (code Tryz.f265) [1,0,0] (AaO a) =
 bif !(Aq a.1 1 4096) then
 some (Aa5 a true)
 else
 some (Aa5 a ((a.2.1.length:Int) !=(AO a.1))):=by kernel_rfl
 rw[h0]
 cases h1:(!(Aq a.1 1 4096))
 ·first | rfl | kernel_rfl
 ·first | rfl | kernel_rfl
def Hz(a:Ah.V):Option Bool :=
 mkr (AaO a) (
 bif (!(Aq a.1 1 4096))||((a.2.1.length:Int) !=(AO a.1)) then
 some false
 else
 bif (Int.tmod a.1 64)==0 then
 some true
 else
 if(0:Int)≤(wI ((a.2.1.length:Int)-1))∧(wI ((a.2.1.length:Int)-1))<(a.2.1.length:Int) then
 if(Int.tmod a.1 64)<(0:Int) then none else
 some ((shrI .u64 (a.2.1.getD (wI ((a.2.1.length:Int)-1)).toNat (Ty.zero (.int .u64))) (Int.tmod a.1 64))==0)
 else none)
theorem U60(R:Type)(a:Ah.V)(K:AV→List Blk→Option R):runF E60 Tryz.f265 R [dD Ah a] [] K=(Hz a).bind fun r=>K (dB r) []:=by
 simp only[Hz,bC,bI,bN,bE,bA,bS,bO,bM]
 simp(disch:=refine sI ?_<;>(repeat' refine sA ?_ ?_)<;>intro _<;>kernel_rfl) only[Hs (Afg _) (K:=finK E60 Tryz.f265 0 R K)]
 kernel_rfl
def c265:Va.Callee:=brC [.d Ah] [⟨[.dat [] Ah],[],Bool,fun p=>Hz p.1.1,fun r=>(dB r,[])⟩]
theorem XD:SoundC Tryz.prog 265 c265:=Ap (fn:=Tryz.f265) (by kernel_rfl) (by kernel_rfl) (by kernel_rfl) ⟨⟨E60,⟨⟨tabok,An ⟨Lu,Sx,trivial⟩⟩,mixed⟩,fun p R K=>U60 R p.1.1 K⟩,trivial⟩
abbrev E61:Env:=⟨tab,lookH [(59,c59),(265,c265)],{deep:=true,heads:=[(11,{live:=[8,80,81,82]})],outs:=[(11,{live:=[8]})],joins:=[(4,{live:=[0,1,2,7]}),(5,{live:=[0,1,2,7,17]}),(7,{live:=[0,2,7,46]}),(9,{live:=[0,2,7,69]}),(19,{live:=[0,7,95]}),(21,{live:=[0,7,137]}),(23,{live:=[0,7,163]}),(25,{live:=[0,7,184]})],ents:=[(4,[0,1,2,7]),(5,[0,1,2,7]),(7,[0,2,7]),(9,[0,2,7]),(19,[0,7]),(21,[0,7]),(23,[0,7]),(25,[0,7])]}⟩
def ZW(a:Ab.V)(b:Int):St:=sT 203 [(0,.rop [] Ab a),(7,dI b)] []
def AaD(a:Ab.V)(b:Int)(m0:Bool):Ex×St:=(.normal,sT 203 [(0,.rop [] Ab a),(7,dI b),(184,dB m0)] [])
theorem Ai5(a:Ab.V)(b:Int):jnS E61 0 25 (code Tryz.f248) [1,1,1,0,0,1,1,1,1,1,1,1,1,1,1,1,1,1,1,0] (ZW a b)=some (AaD a b ((a.1==9)&&(Aq a.2.2.1 1 4096))):=by
 have h0:jnS E61 0 25 (code Tryz.f248) [1,1,1,0,0,1,1,1,1,1,1,1,1,1,1,1,1,1,1,0] (ZW a b) =
 bif a.1==9 then
 some (AaD a b (Aq a.2.2.1 1 4096))
 else
 some (AaD a b false):=by kernel_rfl
 rw[h0]
 cases h1:(a.1==9)
 ·first | rfl | kernel_rfl
 ·first | rfl | kernel_rfl
def Z6(a:Ab.V)(b:Int):St:=sT 203 [(0,.rop [] Ab a),(7,dI b)] []
def Wz(a:Ab.V)(b:Int)(m0:Bool):Ex×St:=(.normal,sT 203 [(0,.rop [] Ab a),(7,dI b),(163,dB m0)] [])
theorem Ags(a:Ab.V)(b:Int):jnS E61 0 23 (code Tryz.f248) [1,1,1,0,0,1,1,1,1,1,1,1,1,1,1,1,1,0] (Z6 a b)=some (Wz a b (bif a.1==7 then(Aq a.2.2.1 0 4096) else((a.1==8)&&(Aq a.2.2.1 0 4096)))):=by
 have h0:jnS E61 0 23 (code Tryz.f248) [1,1,1,0,0,1,1,1,1,1,1,1,1,1,1,1,1,0] (Z6 a b) =
 bif a.1==7 then
 some (Wz a b (Aq a.2.2.1 0 4096))
 else
 bif a.1==8 then
 some (Wz a b (Aq a.2.2.1 0 4096))
 else
 some (Wz a b false):=by kernel_rfl
 rw[h0]
 cases h1:(a.1==7)
 ·cases h2:(a.1==8)
  ·first | rfl | kernel_rfl
  ·first | rfl | kernel_rfl
 ·first | rfl | kernel_rfl
def Aau(a:Ab.V)(b:Int):St:=sT 203 [(0,.rop [] Ab a),(7,dI b)] []
def YV(a:Ab.V)(b:Int)(m0:Bool):Ex×St:=(.normal,sT 203 [(0,.rop [] Ab a),(7,dI b),(137,dB m0)] [])
theorem Akw(a:Ab.V)(b:Int):jnS E61 0 21 (code Tryz.f248) [1,1,1,0,0,1,1,1,1,1,1,1,1,1,1,0] (Aau a b)=some (YV a b (bif a.1==5 then(Aq a.2.2.1 0 4096) else((a.1==6)&&(Aq a.2.2.1 0 4096)))):=by
 have h0:jnS E61 0 21 (code Tryz.f248) [1,1,1,0,0,1,1,1,1,1,1,1,1,1,1,0] (Aau a b) =
 bif a.1==5 then
 some (YV a b (Aq a.2.2.1 0 4096))
 else
 bif a.1==6 then
 some (YV a b (Aq a.2.2.1 0 4096))
 else
 some (YV a b false):=by kernel_rfl
 rw[h0]
 cases h1:(a.1==5)
 ·cases h2:(a.1==6)
  ·first | rfl | kernel_rfl
  ·first | rfl | kernel_rfl
 ·first | rfl | kernel_rfl
def ZO(a:Ab.V)(b:Int):St:=sT 203 [(0,.rop [] Ab a),(7,dI b)] []
def Wq(a:Ab.V)(b:Int)(m0:Bool):Ex×St:=(.normal,sT 203 [(0,.rop [] Ab a),(7,dI b),(95,dB m0)] [])
theorem AkE(a:Ab.V)(b:Int):jnS E61 0 19 (code Tryz.f248) [1,1,1,0,0,1,1,1,1,1,1,1,1,0] (ZO a b)=some (Wq a b ((a.1==4)&&((decide (a.2.2.2.1≥0))&&((decide (a.2.2.2.1≤a.2.2.1))&&(decide (a.2.2.1<b)))))):=by
 have h0:jnS E61 0 19 (code Tryz.f248) [1,1,1,0,0,1,1,1,1,1,1,1,1,0] (ZO a b) =
 bif a.1==4 then
 bif decide (a.2.2.2.1≥0) then
 bif decide (a.2.2.2.1≤a.2.2.1) then
 some (Wq a b (decide (a.2.2.1<b)))
 else
 some (Wq a b false)
 else
 some (Wq a b false)
 else
 some (Wq a b false):=by kernel_rfl
 rw[h0]
 cases h1:(a.1==4)
 ·first | rfl | kernel_rfl
 ·cases h2:(decide (a.2.2.2.1≥0))
  ·first | rfl | kernel_rfl
  ·cases h3:(decide (a.2.2.2.1≤a.2.2.1))
   ·first | rfl | kernel_rfl
   ·first | rfl | kernel_rfl
def Aif(c:List Int)(d:Int)(z_:Int×Int):St:=sT 203 [(8,dI z_.1),(80,dD (.sl (.int .i64)) c),(81,dI d),(82,dI z_.2)] []
def Ajs(c:List Int)(d:Int):Int→Ex×St:=fun e=>((.exit 1),sT 203 [(8,dI e)] [])
def Du(c:List Int)(d g i:Int):Option ((Int×Int)⊕Int) :=
 bif decide (i<d) then
 if(0:Int)≤i∧i<(c.length:Int) then
 some (.inl ((wI (g+(c.getD i.toNat (Ty.zero (.int .i64))))),(wI (i+1))))
 else none
 else
 some (.inr g)
def AR(c:List Int)(d:Int)(z_:Int×Int):=Du c d z_.1 z_.2
def Hj(c:List Int)(d g i:Int):=fix (AR c d) (g,i)
theorem Aja(c:List Int)(d:Int):LpOk E61 0 11 (code Tryz.f248) [1,1,1,0,0,1,1,1,1,1,0,1,0,1,0] (Aif c d) (AR c d) (Ajs c d):=by
 intro _
 simp only[AR,Du,mC,mI,mN,mB,mE,mM]
 kernel_rfl
def Aba(a:Ab.V)(c:List Int)(b:Int):St:=sT 203 [(0,.rop [] Ab a),(2,dD (.sl (.int .i64)) c),(7,dI b)] []
def AaB(a:Ab.V)(c:List Int)(b:Int)(m0:Bool):Ex×St:=(.normal,sT 203 [(0,.rop [] Ab a),(2,dD (.sl (.int .i64)) c),(7,dI b),(69,dB m0)] [])
theorem Ahu(a:Ab.V)(c:List Int)(b:Int):jnS E61 0 9 (code Tryz.f248) [1,1,1,0,0,1,1,1,1,0] (Aba a c b)=some (AaB a c b ((a.1==3)&&(decide ((c.length:Int)>1)))):=by
 have h0:jnS E61 0 9 (code Tryz.f248) [1,1,1,0,0,1,1,1,1,0] (Aba a c b) =
 bif a.1==3 then
 some (AaB a c b (decide ((c.length:Int)>1)))
 else
 some (AaB a c b false):=by kernel_rfl
 rw[h0]
 cases h1:(a.1==3)
 ·first | rfl | kernel_rfl
 ·first | rfl | kernel_rfl
def AgN(a:Ab.V)(c:List Int)(b:Int):St:=sT 203 [(0,.rop [] Ab a),(2,dD (.sl (.int .i64)) c),(7,dI b)] []
def Ah5(a:Ab.V)(c:List Int)(b:Int):Bool→Ex×St:=fun j=>(.normal,sT 203 [(0,.rop [] Ab a),(2,dD (.sl (.int .i64)) c),(7,dI b),(46,dB j)] [])
def CN(a:Ab.V)(c:List Int)(b:Int):Option Bool :=
 bif a.1==2 then
 bif (c.length:Int)==0 then
 (Hz a.2.2.2.2.1).bind fun k =>
 some k
 else
 some false
 else
 some false
theorem Afm(a:Ab.V)(c:List Int)(b:Int):JnOk E61 0 7 (code Tryz.f248) [1,1,1,0,0,1,1,0] (AgN a c b) (CN a c b) (Ah5 a c b):=by
 unfold JnOk
 simp only[CN,mC,mI,mN,mB,mE,mM]
 kernel_rfl
def ZU(a:Ab.V)(l:List Aa.V)(c:List Int)(b:Int):St:=sT 203 [(0,.rop [] Ab a),(1,dD (.sl Aa) l),(2,dD (.sl (.int .i64)) c),(7,dI b)] []
def YB(a:Ab.V)(l:List Aa.V)(c:List Int)(b:Int)(m0:Bool):Ex×St:=(.normal,sT 203 [(0,.rop [] Ab a),(1,dD (.sl Aa) l),(2,dD (.sl (.int .i64)) c),(7,dI b),(17,dB m0)] [])
theorem AgX(a:Ab.V)(l:List Aa.V)(c:List Int)(b:Int):jnS E61 0 5 (code Tryz.f248) [1,1,1,0,0,0] (ZU a l c b)=some (YB a l c b ((a.1==1)&&(((c.length:Int)==0)&&(Aq a.2.1 0 (wI ((l.length:Int)-1)))))):=by
 have h0:jnS E61 0 5 (code Tryz.f248) [1,1,1,0,0,0] (ZU a l c b) =
 bif a.1==1 then
 bif (c.length:Int)==0 then
 some (YB a l c b (Aq a.2.1 0 (wI ((l.length:Int)-1))))
 else
 some (YB a l c b false)
 else
 some (YB a l c b false):=by kernel_rfl
 rw[h0]
 cases h1:(a.1==1)
 ·first | rfl | kernel_rfl
 ·cases h2:((c.length:Int)==0)
  ·first | rfl | kernel_rfl
  ·first | rfl | kernel_rfl
def AeV(a:Ab.V)(l:List Aa.V)(c:List Int):St:=sT 203 [(0,.rop [] Ab a),(1,dD (.sl Aa) l),(2,dD (.sl (.int .i64)) c),(7,dI 0)] []
def Agh(a:Ab.V)(l:List Aa.V)(c:List Int):Int→Ex×St:=fun b=>(.normal,sT 203 [(0,.rop [] Ab a),(1,dD (.sl Aa) l),(2,dD (.sl (.int .i64)) c),(7,dI b)] [])
def CO(a:Ab.V)(l:List Aa.V)(c:List Int):Option Int :=
 bif decide ((c.length:Int)>0) then
 if(0:Int)≤(0:Int)∧(0:Int)<(c.length:Int) then
 some (c.getD 0 (Ty.zero (.int .i64)))
 else none
 else
 some 0
theorem Ah7(a:Ab.V)(l:List Aa.V)(c:List Int):JnOk E61 0 4 (code Tryz.f248) [1,1,0] (AeV a l c) (CO a l c) (Agh a l c):=by
 unfold JnOk
 simp only[CO,mC,mI,mN,mB,mE,mM]
 kernel_rfl
def B6(a:Ab.V)(l:List Aa.V)(c:List Int):Option Int :=
 (CO a l c).bind fun b =>
 mkr (ZU a l c b) (
 bif (a.1==1)&&(((c.length:Int)==0)&&(Aq a.2.1 0 (wI ((l.length:Int)-1)))) then
 if(0:Int)≤a.2.1∧a.2.1<(l.length:Int) then
 some (l.getD a.2.1.toNat (Ty.zero Aa)).2.1
 else none
 else
 (CN a c b).bind fun j =>
 bif j then
 some a.2.2.2.2.1.1
 else
 mkr (Aba a c b) (
 bif (a.1==3)&&(decide ((c.length:Int)>1)) then
 (Hj c (c.length:Int) 0 0).bind fun e =>
 some e
 else
 bif (c.length:Int) !=1 then
 some (-1)
 else
 mkr (ZO a b) (
 bif (a.1==4)&&((decide (a.2.2.2.1≥0))&&((decide (a.2.2.2.1≤a.2.2.1))&&(decide (a.2.2.1<b)))) then
 some (wI ((wI (a.2.2.1-a.2.2.2.1))+1))
 else
 mkr (Aau a b) (
 bif bif (a.1==5) then(Aq a.2.2.1 0 4096) else((a.1==6)&&(Aq a.2.2.1 0 4096)) then
 some (wI (b+a.2.2.1))
 else
 mkr (Z6 a b) (
 bif bif (a.1==7) then(Aq a.2.2.1 0 4096) else((a.1==8)&&(Aq a.2.2.1 0 4096)) then
 some b
 else
 mkr (ZW a b) (
 bif (a.1==9)&&(Aq a.2.2.1 1 4096) then
 some (wI (b*a.2.2.1))
 else
 some (-1)))))))
theorem U61(R:Type)(a:Ab.V)(l:List Aa.V)(c:List Int)(K:AV→List Blk→Option R):runF E61 Tryz.f248 R [.rop [] Ab a,dD (.sl Aa) l,dD (.sl (.int .i64)) c] [] K=(B6 a l c).bind fun r=>K (dI r) []:=by
 simp only[B6,bC,bI,bN,bE,bA,bS,bO,bM]
 simp(disch:=refine sI ?_<;>(repeat' refine sA ?_ ?_)<;>intro _<;>kernel_rfl) only[Bn (Ah7 _ _ _) (K:=finK E61 Tryz.f248 0 R K),Hs (AgX _ _ _ _) (K:=finK E61 Tryz.f248 0 R K),Bn (Afm _ _ _) (K:=finK E61 Tryz.f248 0 R K),Hs (Ahu _ _ _) (K:=finK E61 Tryz.f248 0 R K),Hj,Au (Aja _ _) (K:=finK E61 Tryz.f248 0 R K),Hs (AkE _ _) (K:=finK E61 Tryz.f248 0 R K),Hs (Akw _ _) (K:=finK E61 Tryz.f248 0 R K),Hs (Ags _ _) (K:=finK E61 Tryz.f248 0 R K),Hs (Ai5 _ _) (K:=finK E61 Tryz.f248 0 R K)]
 kernel_rfl
def c248:Va.Callee:=brC [.p Ab,.d (.sl Aa),.d (.sl (.int .i64))] [⟨[.rop [] Ab,.dat [] (.sl Aa),.dat [] (.sl (.int .i64))],[],Int,fun p=>B6 p.1.1 p.1.2.1 p.1.2.2.1,fun r=>(dI r,[])⟩]
theorem X6:SoundC Tryz.prog 248 c248:=Ap (fn:=Tryz.f248) (by kernel_rfl) (by kernel_rfl) (by kernel_rfl) ⟨⟨E61,⟨⟨tabok,An ⟨Lu,XD,trivial⟩⟩,mixed⟩,fun p R K=>U61 R p.1.1 p.1.2.1 p.1.2.2.1 K⟩,trivial⟩
abbrev E62:Env:=⟨tab,lookH [],{deep:=true,joins:=[(2,{live:=[0,3]}),(3,{live:=[0,52]})],ents:=[(2,[0]),(3,[0,3])]}⟩
def Aa6(a:Ab.V):St:=sT 75 [(0,.rop [] Ab a),(3,dB ((decide (a.1≥4))&&(decide (a.1≤9))))] []
def M8(a:Ab.V)(m0:Bool):Ex×St:=(.normal,sT 75 [(0,.rop [] Ab a),(52,dB m0)] [])
theorem Ajd(a:Ab.V):jnS E62 0 3 (code Tryz.f249) [1,1,0,0] (Aa6 a)=some (M8 a (bif !((decide (a.1≥4))&&(decide (a.1≤9))) then((a.2.2.1 !=0)||(bif a.1 !=4 then((a.2.2.2.1 !=0)||((a.1 !=1)&&(a.2.1 !=0))) else((a.1 !=1)&&(a.2.1 !=0)))) else(bif a.1 !=4 then((a.2.2.2.1 !=0)||((a.1 !=1)&&(a.2.1 !=0))) else((a.1 !=1)&&(a.2.1 !=0))))):=by
 have h0:jnS E62 0 3 (code Tryz.f249) [1,1,0,0] (Aa6 a) =
 bif !((decide (a.1≥4))&&(decide (a.1≤9))) then
 bif a.2.2.1 !=0 then
 some (M8 a true)
 else
 bif a.1 !=4 then
 bif a.2.2.2.1 !=0 then
 some (M8 a true)
 else
 bif a.1 !=1 then
 some (M8 a (a.2.1 !=0))
 else
 some (M8 a false)
 else
 bif a.1 !=1 then
 some (M8 a (a.2.1 !=0))
 else
 some (M8 a false)
 else
 bif a.1 !=4 then
 bif a.2.2.2.1 !=0 then
 some (M8 a true)
 else
 bif a.1 !=1 then
 some (M8 a (a.2.1 !=0))
 else
 some (M8 a false)
 else
 bif a.1 !=1 then
 some (M8 a (a.2.1 !=0))
 else
 some (M8 a false):=by kernel_rfl
 rw[h0]
 cases h1:(!((decide (a.1≥4))&&(decide (a.1≤9))))
 ·cases h2:(a.1 !=4)
  ·cases h3:(a.1 !=1)
   ·first | rfl | kernel_rfl
   ·first | rfl | kernel_rfl
  ·cases h3:(a.2.2.2.1 !=0)
   ·cases h4:(a.1 !=1)
    ·first | rfl | kernel_rfl
    ·first | rfl | kernel_rfl
   ·first | rfl | kernel_rfl
 ·cases h2:(a.2.2.1 !=0)
  ·cases h3:(a.1 !=4)
   ·cases h4:(a.1 !=1)
    ·first | rfl | kernel_rfl
    ·first | rfl | kernel_rfl
   ·cases h4:(a.2.2.2.1 !=0)
    ·cases h5:(a.1 !=1)
     ·first | rfl | kernel_rfl
     ·first | rfl | kernel_rfl
    ·first | rfl | kernel_rfl
  ·first | rfl | kernel_rfl
def Aas(a:Ab.V):St:=sT 75 [(0,.rop [] Ab a)] []
def AaU(a:Ab.V)(m0:Bool):Ex×St:=(.normal,sT 75 [(0,.rop [] Ab a),(3,dB m0)] [])
theorem AgQ(a:Ab.V):jnS E62 0 2 (code Tryz.f249) [1,0] (Aas a)=some (AaU a ((decide (a.1≥4))&&(decide (a.1≤9)))):=by
 have h0:jnS E62 0 2 (code Tryz.f249) [1,0] (Aas a) =
 bif decide (a.1≥4) then
 some (AaU a (decide (a.1≤9)))
 else
 some (AaU a false):=by kernel_rfl
 rw[h0]
 cases h1:(decide (a.1≥4))
 ·first | rfl | kernel_rfl
 ·first | rfl | kernel_rfl
def Ca(a:Ab.V):Bool:=((!(bif !((decide (a.1≥4))&&(decide (a.1≤9))) then((a.2.2.1 !=0)||(bif a.1 !=4 then((a.2.2.2.1 !=0)||((a.1 !=1)&&(a.2.1 !=0))) else((a.1 !=1)&&(a.2.1 !=0)))) else(bif a.1 !=4 then((a.2.2.2.1 !=0)||((a.1 !=1)&&(a.2.1 !=0))) else((a.1 !=1)&&(a.2.1 !=0)))))&&((a.1==2)||((a.2.2.2.2.1.1==0)&&((a.2.2.2.2.1.2.1.length:Int)==0))))
theorem U62(R:Type)(a:Ab.V)(K:AV→List Blk→Option R):runF E62 Tryz.f249 R [.rop [] Ab a] [] K=K (dB (Ca a)) []:=by
 have h:runF E62 Tryz.f249 R [.rop [] Ab a] [] K =
 mkr (Aas a) (
 mkr (Aa6 a) (
 bif bif (!((decide (a.1≥4))&&(decide (a.1≤9)))) then((a.2.2.1 !=0)||(bif (a.1 !=4) then((a.2.2.2.1 !=0)||((a.1 !=1)&&(a.2.1 !=0))) else((a.1 !=1)&&(a.2.1 !=0)))) else(bif (a.1 !=4) then((a.2.2.2.1 !=0)||((a.1 !=1)&&(a.2.1 !=0))) else((a.1 !=1)&&(a.2.1 !=0))) then
 K (dB false) []
 else
 bif a.1==2 then
 K (dB true) []
 else
 bif a.2.2.2.2.1.1==0 then
 K (dB ((a.2.2.2.2.1.2.1.length:Int)==0)) []
 else
 K (dB false) [])):=by
  simp(disch:=refine sI ?_<;>(repeat' refine sA ?_ ?_)<;>intro _<;>kernel_rfl) only[Hs (AgQ _) (K:=finK E62 Tryz.f249 0 R K),Hs (Ajd _) (K:=finK E62 Tryz.f249 0 R K)]
  kernel_rfl
 rw[h]
 unfold Ca
 cases h1:(bif !((decide (a.1≥4))&&(decide (a.1≤9))) then((a.2.2.1 !=0)||(bif a.1 !=4 then((a.2.2.2.1 !=0)||((a.1 !=1)&&(a.2.1 !=0))) else((a.1 !=1)&&(a.2.1 !=0)))) else(bif a.1 !=4 then((a.2.2.2.1 !=0)||((a.1 !=1)&&(a.2.1 !=0))) else((a.1 !=1)&&(a.2.1 !=0))))
 ·cases h2:(a.1==2)
  ·cases h3:(a.2.2.2.2.1.1==0)
   ·first | rfl | kernel_rfl
   ·first | rfl | kernel_rfl
  ·first | rfl | kernel_rfl
 ·first | rfl | kernel_rfl
def c249:Va.Callee:=brC [.p Ab] [⟨[.rop [] Ab],[],Bool,fun p=>some (Ca p.1.1),fun r=>(dB r,[])⟩]
theorem XV:SoundC Tryz.prog 249 c249:=Ap (fn:=Tryz.f249) (by kernel_rfl) (by kernel_rfl) (by kernel_rfl) ⟨⟨E62,⟨⟨tabok,An trivial⟩,mixed⟩,fun p R K=>U62 R p.1.1 K⟩,trivial⟩
abbrev E63:Env:=⟨tab,lookH [],{deep:=true,heads:=[(2,{live:=[0,1,7,8]})],outs:=[(2,{live:=[4]})]}⟩
def Ajo(a:List Bool)(b:Bool)(c z_:Int):St:=sT 19 [(0,dD (.sl .bool) a),(1,dB b),(7,dI c),(8,dI z_)] []
def Ago(a:List Bool)(b:Bool)(c:Int):(Int⊕Unit)→Ex×St:=Sum.elim (fun d=>(.ret,sT 19 [(4,dI d)] [])) (fun e=>((.exit 0),sT 19 [] []))
def CY(a:List Bool)(b:Bool)(c g:Int):Option (Int⊕(Int⊕Unit)) :=
 bif decide (g<c) then
 if(0:Int)≤g∧g<(a.length:Int) then
 bif b==(a.getD g.toNat (Ty.zero .bool)) then
 some (.inr (.inl g))
 else
 some (.inl (wI (g+1)))
 else none
 else
 some (.inr (.inr ()))
def BB(a:List Bool)(b:Bool)(c z_:Int):=CY a b c z_
def GA(a:List Bool)(b:Bool)(c g:Int):=fix (BB a b c) g
theorem Ag8(a:List Bool)(b:Bool)(c:Int):LpOk E63 0 2 (code Tryz.f266) [1,0,1,0] (Ajo a b c) (BB a b c) (Ago a b c):=by
 intro _
 simp only[BB,CY,mC,mI,mN,mB,mE,mM]
 kernel_rfl
def D0(a:List Bool)(b:Bool):Option Int :=
 (GA a b (a.length:Int) 0).bind (Sum.elim (fun d =>
 some d) (fun e =>
 some (-1)))
theorem U63(R:Type)(a:List Bool)(b:Bool)(K:AV→List Blk→Option R):runF E63 Tryz.f266 R [dD (.sl .bool) a,dB b] [] K=(D0 a b).bind fun r=>K (dI r) []:=by
 simp only[D0,bC,bI,bN,bE,bA,bS,bO,bM]
 simp(disch:=refine sI ?_<;>(repeat' refine sA ?_ ?_)<;>intro _<;>kernel_rfl) only[GA,Au (Ag8 _ _ _) (K:=finK E63 Tryz.f266 0 R K)]
 kernel_rfl
def c266:Va.Callee:=brC [.d (.sl .bool),.d .bool] [⟨[.dat [] (.sl .bool),.dat [] .bool],[],Int,fun p=>D0 p.1.1 p.1.2.1,fun r=>(dI r,[])⟩]
theorem Xs:SoundC Tryz.prog 266 c266:=Ap (fn:=Tryz.f266) (by kernel_rfl) (by kernel_rfl) (by kernel_rfl) ⟨⟨E63,⟨⟨tabok,An trivial⟩,mixed⟩,fun p R K=>U63 R p.1.1 p.1.2.1 K⟩,trivial⟩
end
end Go.Proofs.X
namespace Go.Proofs.X
open Go Go.Va
set_option maxRecDepth 100000
noncomputable section
abbrev E64:Env:=⟨tab,lookH [(266,c266)],{deep:=true}⟩
def Bq(a:List Bool)(b:Bool):Option Bool :=
 (D0 a b).bind fun c =>
 some (decide (c≥0))
theorem U64(R:Type)(a:List Bool)(b:Bool)(K:AV→List Blk→Option R):runF E64 Tryz.f250 R [dD (.sl .bool) a,dB b] [] K=(Bq a b).bind fun r=>K (dB r) []:=by
 simp only[Bq,bC,bI,bN,bE,bA,bS,bO,bM]
 kernel_rfl
def c250:Va.Callee:=brC [.d (.sl .bool),.d .bool] [⟨[.dat [] (.sl .bool),.dat [] .bool],[],Bool,fun p=>Bq p.1.1 p.1.2.1,fun r=>(dB r,[])⟩]
theorem W8:SoundC Tryz.prog 250 c250:=Ap (fn:=Tryz.f250) (by kernel_rfl) (by kernel_rfl) (by kernel_rfl) ⟨⟨E64,⟨⟨tabok,An ⟨Xs,trivial⟩⟩,mixed⟩,fun p R K=>U64 R p.1.1 p.1.2.1 K⟩,trivial⟩
abbrev E65:Env:=⟨tab,lookH [(59,c59),(248,c248),(249,c249),(250,c250)],{deep:=true,heads:=[(6,{live:=[0,3,6,7,8,29,30]}),(13,{live:=[0,3,6,7,8,9,10,11,29,30,52,53,54]})],outs:=[(6,{live:=[4,5,6,7,8],frz:=[(8,false,(.sl .bool))]}),(13,{live:=[0,3,4,5,6,7,8,9,10,11,29,30],frz:=[(11,false,(.sl (.int .i64)))]})],joins:=[(3,{live:=[0,3,6,22]}),(21,{live:=[0,3,6,7,8,29,30,92]})],draws:=[(4,{live:=[0,3,6,7,8],quiet:=true})],ents:=[(3,[0,3,6]),(21,[0,3,6,7,8,9,10,29,30])],dents:=[(4,[0,3,6])],res:=[(0,.row [] 2 (.int .i64) true)]}⟩
def Ail(a:List Aa.V)(b:Aj.V)(c d:Int)(z_:Int×(List Int)×(List Bool)):St:=sT 101 [(0,dD (.sl Aa) a),(3,.ptr 0 0 [] 0),(6,dI c),(7,.ref 1),(8,.ref 2),(29,dI d),(30,dI z_.1)] [.box (dD Aj b),.row 2 .deep (.int .i64) z_.2.1,.row 4 .deep .bool z_.2.2]
def AgA(a:List Aa.V)(b:Aj.V)(c d:Int):(((List Bool)×(List Int))⊕((List Bool)×(List Int)))→Ex×St:=Sum.elim (fun e=>(.ret,sT 101 [(4,.zs),(5,dB false),(6,dI c),(7,.ref 0),(8,dD (.sl .bool) e.1)] [.row 2 .deep (.int .i64) e.2])) (fun g=>((.exit 0),sT 101 [(6,dI c),(7,.ref 0),(8,dD (.sl .bool) g.1)] [.row 2 .deep (.int .i64) g.2]))
def Ai3(a:List Aa.V)(c i d:Int)(b:Aj.V)(j:Ab.V)(k:List Int)(l:List Bool):St:=sT 101 [(0,dD (.sl Aa) a),(3,.ptr 0 0 [] 0),(6,dI c),(7,.ref 1),(8,.ref 2),(9,dI i),(10,.rop [] Ab j),(29,dI d),(30,dI i)] [.box (dD Aj b),.row 2 .deep (.int .i64) k,.row 4 .deep .bool l]
def Agp(a:List Aa.V)(c i d:Int)(b:Aj.V)(j:Ab.V)(k:List Int)(l:List Bool):Bool→Ex×St:=fun n=>(.normal,sT 101 [(0,dD (.sl Aa) a),(3,.ptr 0 0 [] 0),(6,dI c),(7,.ref 1),(8,.ref 2),(29,dI d),(30,dI i),(92,dB n)] [.box (dD Aj b),.row 2 .deep (.int .i64) k,.row 4 .deep .bool l])
def Jf(a:List Aa.V)(c i d:Int)(b:Aj.V)(j:Ab.V)(k:List Int)(l:List Bool):Option Bool :=
 bif !(Ca j) then
 some true
 else
 if(0:Int)≤i∧i<(k.length:Int) then
 some (!(Aq (k.getD i.toNat (Ty.zero (.int .i64))) 1 4096))
 else none
theorem AiI(a:List Aa.V)(c i d:Int)(b:Aj.V)(j:Ab.V)(k:List Int)(l:List Bool):JnOk E65 0 21 (sub (code Tryz.f221) [1,1,1,1,0,1,0,0]) [1,1,0,0,1,1,1,1,1,1,0] (Ai3 a c i d b j k l) (Jf a c i d b j k l) (Agp a c i d b j k l):=by
 unfold JnOk
 simp only[Jf,mC,mI,mN,mB,mE,mM]
 kernel_rfl
def Aic(a:List Aa.V)(c i d:Int)(b:Aj.V)(o:List Int)(q:Ab.V)(s:List Int)(t:Int)(z_:Int×(List Bool)×(List Int)):St:=sT 101 [(0,dD (.sl Aa) a),(3,.ptr 0 0 [] 0),(6,dI c),(7,.ref 1),(8,.ref 2),(9,dI i),(10,.rop [] Ab q),(11,.ref 3),(29,dI d),(30,dI i),(52,dD (.sl (.int .i64)) s),(53,dI t),(54,dI z_.1)] [.box (dD Aj b),.row 2 .deep (.int .i64) o,.row 4 .deep .bool z_.2.1,.row 2 .deep (.int .i64) z_.2.2]
def AiZ(a:List Aa.V)(c i d:Int)(b:Aj.V)(o:List Int)(q:Ab.V)(s:List Int)(t:Int):(((List Int)×(List Bool))⊕((List Int)×(List Bool)))→Ex×St:=Sum.elim (fun u=>(.ret,sT 101 [(0,dD (.sl Aa) a),(3,.ptr 0 0 [] 0),(4,.zs),(5,dB false),(6,dI c),(7,.ref 1),(8,.ref 2),(9,dI i),(10,.rop [] Ab q),(11,dD (.sl (.int .i64)) u.1),(29,dI d),(30,dI i)] [.box (dD Aj b),.row 2 .deep (.int .i64) o,.row 4 .deep .bool u.2])) (fun v=>((.exit 2),sT 101 [(0,dD (.sl Aa) a),(3,.ptr 0 0 [] 0),(6,dI c),(7,.ref 1),(8,.ref 2),(9,dI i),(10,.rop [] Ab q),(11,dD (.sl (.int .i64)) v.1),(29,dI d),(30,dI i)] [.box (dD Aj b),.row 2 .deep (.int .i64) o,.row 4 .deep .bool v.2]))
def GS(a:List Aa.V)(c i d:Int)(b:Aj.V)(o:List Int)(q:Ab.V)(s:List Int)(t w:Int)(x:List Bool)(y:List Int):Option ((Int×(List Bool)×(List Int))⊕(((List Int)×(List Bool))⊕((List Int)×(List Bool)))) :=
 bif decide (w<t) then
 if(0:Int)≤w∧w<(s.length:Int) then
 bif !(Aq (s.getD w.toNat (Ty.zero (.int .i64))) 0 (wI (i-1))) then
 some (.inr (.inl (y,x)))
 else
 if(0:Int)≤(s.getD w.toNat (Ty.zero (.int .i64)))∧(s.getD w.toNat (Ty.zero (.int .i64)))<(o.length:Int) then
 if(0:Int)≤(s.getD w.toNat (Ty.zero (.int .i64)))∧(s.getD w.toNat (Ty.zero (.int .i64)))<(x.length:Int) then
 if(0:Int)≤w∧w<(y.length:Int) then
 some (.inl ((wI (w+1)),(x.set (s.getD w.toNat (Ty.zero (.int .i64))).toNat true),(y.set w.toNat (o.getD (s.getD w.toNat (Ty.zero (.int .i64))).toNat (Ty.zero (.int .i64))))))
 else none
 else none
 else none
 else none
 else
 some (.inr (.inr (y,x)))
def C3(a:List Aa.V)(c i d:Int)(b:Aj.V)(o:List Int)(q:Ab.V)(s:List Int)(t:Int)(z_:Int×(List Bool)×(List Int)):=GS a c i d b o q s t z_.1 z_.2.1 z_.2.2
def GE(a:List Aa.V)(c i d:Int)(b:Aj.V)(o:List Int)(q:Ab.V)(s:List Int)(t w:Int)(x:List Bool)(y:List Int):=fix (C3 a c i d b o q s t) (w,x,y)
theorem Agz(a:List Aa.V)(c i d:Int)(b:Aj.V)(o:List Int)(q:Ab.V)(s:List Int)(t:Int):LpOk E65 0 13 (sub (code Tryz.f221) [1,1,1,1,0,1,0,0]) [1,1,0,0,1,1,1,1,0,1,0] (Aic a c i d b o q s t) (C3 a c i d b o q s t) (AiZ a c i d b o q s t):=by
 intro _
 simp only[C3,GS,mC,mI,mN,mB,mE,mM]
 kernel_rfl
def Ha(a:List Aa.V)(b:Aj.V)(c d i:Int)(o:List Int)(a1:List Bool):Option ((Int×(List Int)×(List Bool))⊕(((List Bool)×(List Int))⊕((List Bool)×(List Int)))) :=
 bif decide (i<d) then
 if(0:Int)≤i∧i<(b.1.length:Int) then
 bif decide (((b.1.getD i.toNat (Ty.zero Ab)).2.2.2.2.2.1.length:Int)>4096) then
 some (.inr (.inl (a1,o)))
 else
 if Ty.row (.int .i64)=true∧(0:Int)≤((b.1.getD i.toNat (Ty.zero Ab)).2.2.2.2.2.1.length:Int)∧((b.1.getD i.toNat (Ty.zero Ab)).2.2.2.2.2.1.length:Int)≤((b.1.getD i.toNat (Ty.zero Ab)).2.2.2.2.2.1.length:Int)∧((8:Nat):Int)*((b.1.getD i.toNat (Ty.zero Ab)).2.2.2.2.2.1.length:Int)≤(281474976710656:Int)∧((b.1.getD i.toNat (Ty.zero Ab)).2.2.2.2.2.1.length:Int)≤(9223372036854775807:Int) then
 (GE a c i d b o (b.1.getD i.toNat (Ty.zero Ab)) (b.1.getD i.toNat (Ty.zero Ab)).2.2.2.2.2.1 ((b.1.getD i.toNat (Ty.zero Ab)).2.2.2.2.2.1.length:Int) 0 a1 (List.replicate ((b.1.getD i.toNat (Ty.zero Ab)).2.2.2.2.2.1.length:Int).toNat 0)).bind (Sum.elim (fun u =>
 some (.inr (.inl (u.2,o)))) (fun v =>
 (B6 (b.1.getD i.toNat (Ty.zero Ab)) a v.1).bind fun b1 =>
 if(0:Int)≤i∧i<(o.length:Int) then
 (Jf a c i d b (b.1.getD i.toNat (Ty.zero Ab)) (o.set i.toNat b1) v.2).bind fun n =>
 bif n then
 some (.inr (.inl (v.2,(o.set i.toNat b1))))
 else
 some (.inl ((wI (i+1)),(o.set i.toNat b1),v.2))
 else none))
 else none
 else none
 else
 some (.inr (.inr (a1,o)))
def C7(a:List Aa.V)(b:Aj.V)(c d:Int)(z_:Int×(List Int)×(List Bool)):=Ha a b c d z_.1 z_.2.1 z_.2.2
def KJ(a:List Aa.V)(b:Aj.V)(c d i:Int)(o:List Int)(a1:List Bool):=fix (C7 a b c d) (i,o,a1)
theorem Ae0(a:List Aa.V)(b:Aj.V)(c d:Int):LpOk E65 0 6 (code Tryz.f221) [1,1,1,1,0,1,0] (Ail a b c d) (C7 a b c d) (AgA a b c d):=by
 intro _
 simp only[C7,Ha,mC,mI,mN,mB,mE,mM]
 simp(disch:=refine sI ?_<;>(repeat' refine sA ?_ ?_)<;>intro _<;>kernel_rfl) only[GE,Au (Agz _ _ _ _ _ _ _ _ _) (K:=stepK 0 (E65.hd 6) (E65.ot 6)),Bn (AiI _ _ _ _ _ _ _ _) (K:=stepK 0 (E65.hd 6) (E65.ot 6))]
 kernel_rfl
def Abv(a:List Aa.V)(b:Aj.V)(c1:Int):St:=sT 101 [(0,dD (.sl Aa) a),(3,.ptr 0 0 [] 0),(6,dI c1)] [.box (dD Aj b)]
def Tk(a:List Aa.V)(b:Aj.V)(c1:Int):((List Int)×(List Bool))→St:=fun d1=>sT 101 [(0,dD (.sl Aa) a),(3,.ptr 0 0 [] 0),(6,dI c1),(7,.ref 1),(8,.ref 2)] [.box (dD Aj b),.row 2 .deep (.int .i64) d1.1,.row 4 .deep .bool d1.2]
def GD(a:List Aa.V)(b:Aj.V)(c1:Int):Option ((List Int)×(List Bool)) :=
 if Ty.row (.int .i64)=true∧(0:Int)≤c1∧c1≤c1∧((8:Nat):Int)*c1≤(281474976710656:Int)∧c1≤(9223372036854775807:Int) then
 if Ty.row .bool=true∧(0:Int)≤c1∧c1≤c1∧((1:Nat):Int)*c1≤(281474976710656:Int)∧c1≤(9223372036854775807:Int) then
 some ((List.replicate c1.toNat 0),(List.replicate c1.toNat false))
 else none
 else none
theorem Aix(a:List Aa.V)(b:Aj.V)(c1:Int):DrOk E65 0 4 (code Tryz.f221) [1,1,1,0] (Abv a b c1) (GD a b c1) (Tk a b c1):=by
 unfold DrOk
 have h:drS E65 0 4 (code Tryz.f221) [1,1,1,0] (Abv a b c1) =
 if Ty.row (.int .i64)=true∧(0:Int)≤c1∧c1≤c1∧((8:Nat):Int)*c1≤(281474976710656:Int)∧c1≤(9223372036854775807:Int) then
 if Ty.row .bool=true∧(0:Int)≤c1∧c1≤c1∧((1:Nat):Int)*c1≤(281474976710656:Int)∧c1≤(9223372036854775807:Int) then
 (((if Ty.row (.int .i64)=true∧(0:Int)≤c1∧c1≤c1∧((8:Nat):Int)*c1≤(281474976710656:Int)∧c1≤(9223372036854775807:Int) then
 if Ty.row .bool=true∧(0:Int)≤c1∧c1≤c1∧((1:Nat):Int)*c1≤(281474976710656:Int)∧c1≤(9223372036854775807:Int) then
 eqSt (Tk a b c1 ((List.replicate c1.toNat 0),(List.replicate c1.toNat false))) (Tk a b c1 ((List.replicate c1.toNat 0),(List.replicate c1.toNat false)))
 else none
 else none).bind fun _ =>
 if Ty.row .bool=true∧(0:Int)≤c1∧c1≤c1∧((1:Nat):Int)*c1≤(281474976710656:Int)∧c1≤(9223372036854775807:Int) then
 if Ty.row (.int .i64)=true∧(0:Int)≤c1∧c1≤c1∧((8:Nat):Int)*c1≤(281474976710656:Int)∧c1≤(9223372036854775807:Int) then
 eqSt (Tk a b c1 ((List.replicate c1.toNat 0),(List.replicate c1.toNat false))) (Tk a b c1 ((List.replicate c1.toNat 0),(List.replicate c1.toNat false)))
 else none
 else none).bind fun _=>some (Tk a b c1 ((List.replicate c1.toNat 0),(List.replicate c1.toNat false))))
 else none
 else none:=by kernel_rfl
 rw[h]
 unfold GD
 simp only[mC,mI,mN,mB,mE,mM,mS,mO]
 clear h
 by_cases hc0:Ty.row (.int .i64)=true∧(0:Int)≤c1∧c1≤c1∧((8:Nat):Int)*c1≤(281474976710656:Int)∧c1≤(9223372036854775807:Int)
 ·rw[if_pos hc0,if_pos hc0]
  by_cases hc1:Ty.row .bool=true∧(0:Int)≤c1∧c1≤c1∧((1:Nat):Int)*c1≤(281474976710656:Int)∧c1≤(9223372036854775807:Int)
  ·rw[if_pos hc1,if_pos hc1]
   simp only[if_pos hc0,if_pos hc1,Option.bind_some,LC]
  ·simp only[if_pos hc0,if_neg hc1]
 ·simp only[if_neg hc0]
def AaK(a:List Aa.V)(b:Aj.V):St:=sT 101 [(0,dD (.sl Aa) a),(3,.ptr 0 0 [] 0),(6,dI (b.1.length:Int))] [.box (dD Aj b)]
def AaW(a:List Aa.V)(b:Aj.V)(m0:Bool):Ex×St:=(.normal,sT 101 [(0,dD (.sl Aa) a),(3,.ptr 0 0 [] 0),(6,dI (b.1.length:Int)),(22,dB m0)] [.box (dD Aj b)])
theorem Agy(a:List Aa.V)(b:Aj.V):jnS E65 0 3 (code Tryz.f221) [1,1,0,0] (AaK a b)=some (AaW a b ((decide ((b.1.length:Int)<1))||(decide ((b.1.length:Int)>400)))):=by
 have h0:jnS E65 0 3 (code Tryz.f221) [1,1,0,0] (AaK a b) =
 bif decide ((b.1.length:Int)<1) then
 some (AaW a b true)
 else
 some (AaW a b (decide ((b.1.length:Int)>400))):=by kernel_rfl
 rw[h0]
 cases h1:(decide ((b.1.length:Int)<1))
 ·first | rfl | kernel_rfl
 ·first | rfl | kernel_rfl
def IV(a:List Aa.V)(b:Aj.V):Option (Bool×(List Int)) :=
 mkr (AaK a b) (
 bif (decide ((b.1.length:Int)<1))||(decide ((b.1.length:Int)>400)) then
 some (false,([]:List Int))
 else
 (GD a b (b.1.length:Int)).bind fun d1 =>
 (KJ a b (b.1.length:Int) (b.1.length:Int) 0 d1.1 d1.2).bind (Sum.elim (fun e =>
 some (false,([]:List Int))) (fun g =>
 if(0:Int)≤(0:Int)∧(0:Int)≤(wI ((b.1.length:Int)-1))∧(wI ((b.1.length:Int)-1))≤(g.1.length:Int) then
 (Bq ((g.1.take (wI ((b.1.length:Int)-1)).toNat).drop 0) false).bind fun e1 =>
 some ((!e1),g.2)
 else none)))
theorem U65(R:Type)(a:List Aa.V)(b:Aj.V)(K:AV→List Blk→Option R):runF E65 Tryz.f221 R [dD (.sl Aa) a,dD Aj b] [] K=(IV a b).bind fun r=>K (.cons (.ref 0) (.cons (dB r.1) .nil)) [.row 2 .deep (.int .i64) r.2]:=by
 simp only[IV,bC,bI,bN,bE,bA,bS,bO,bM]
 simp(disch:=refine sI ?_<;>(repeat' refine sA ?_ ?_)<;>intro _<;>kernel_rfl) only[Hs (Agy _ _) (K:=finK E65 Tryz.f221 0 R K),UM (Aix _ _ _) (K:=finK E65 Tryz.f221 0 R K),KJ,Au (Ae0 _ _ _ _) (K:=finK E65 Tryz.f221 0 R K)]
 kernel_rfl
def c221:Va.Callee:=brC [.d (.sl Aa),.d Aj] [⟨[.dat [] (.sl Aa),.dat [] Aj],[],(Bool×(List Int)),fun p=>IV p.1.1 p.1.2.1,fun r=>(.cons (.ref 0) (.cons (dB r.1) .nil),[.row 2 .deep (.int .i64) r.2])⟩]
theorem WK:SoundC Tryz.prog 221 c221:=Ap (fn:=Tryz.f221) (by kernel_rfl) (by kernel_rfl) (by kernel_rfl) ⟨⟨E65,⟨⟨tabok,An ⟨Lu,X6,XV,W8,trivial⟩⟩,mixed⟩,fun p R K=>U65 R p.1.1 p.1.2.1 K⟩,trivial⟩
abbrev E66:Env:=⟨tab,lookH [(221,c221)],{deep:=true}⟩
def Dg(a:List Aa.V)(b:Aj.V):Option Int :=
 (IV a b).bind fun c =>
 bif !c.1 then
 some (-1)
 else
 if(0:Int)≤(wI ((c.2.length:Int)-1))∧(wI ((c.2.length:Int)-1))<(c.2.length:Int) then
 some (c.2.getD (wI ((c.2.length:Int)-1)).toNat (Ty.zero (.int .i64)))
 else none
theorem U66(R:Type)(a:List Aa.V)(b:Aj.V)(K:AV→List Blk→Option R):runF E66 Tryz.f182 R [dD (.sl Aa) a,dD Aj b] [] K=(Dg a b).bind fun r=>K (dI r) []:=by
 simp only[Dg,bC,bI,bN,bE,bA,bS,bO,bM]
 kernel_rfl
def c182:Va.Callee:=brC [.d (.sl Aa),.d Aj] [⟨[.dat [] (.sl Aa),.dat [] Aj],[],Int,fun p=>Dg p.1.1 p.1.2.1,fun r=>(dI r,[])⟩]
theorem YU:SoundC Tryz.prog 182 c182:=Ap (fn:=Tryz.f182) (by kernel_rfl) (by kernel_rfl) (by kernel_rfl) ⟨⟨E66,⟨⟨tabok,An ⟨WK,trivial⟩⟩,mixed⟩,fun p R K=>U66 R p.1.1 p.1.2.1 K⟩,trivial⟩
abbrev E67:Env:=⟨tab,lookH [(59,c59),(182,c182)],{deep:=true,heads:=[(5,{live:=[0,5,12,13,14]})],outs:=[(5,{live:=[4]})],joins:=[(9,{live:=[0,7,12,13,14,39]})],ents:=[(9,[0,5,7,8,12,13,14])]}⟩
def Ahc(a:List Aa.V)(b:List Ae.V)(c:Int)(z_:Int×Int):St:=sT 43 [(0,dD (.sl Aa) a),(5,dI z_.1),(12,dD (.sl Ae) b),(13,dI c),(14,dI z_.2)] []
def Ajx(a:List Aa.V)(b:List Ae.V)(c:Int):(Unit⊕Unit)→Ex×St:=Sum.elim (fun d=>(.ret,sT 43 [(4,dB false)] [])) (fun e=>((.exit 0),sT 43 [] []))
def Aje(a:List Aa.V)(g i:Int)(b:List Ae.V)(c j:Int)(k:Ae.V):St:=sT 43 [(0,dD (.sl Aa) a),(5,dI g),(7,.ptr 0 0 [] 0),(8,dI i),(12,dD (.sl Ae) b),(13,dI c),(14,dI j)] [.box (dD Ae k)]
def AiY(a:List Aa.V)(g i:Int)(b:List Ae.V)(c j:Int)(k:Ae.V):Bool→Ex×St:=fun l=>(.normal,sT 43 [(0,dD (.sl Aa) a),(7,.ptr 0 0 [] 0),(12,dD (.sl Ae) b),(13,dI c),(14,dI j),(39,dB l)] [.box (dD Ae k)])
def Dx(a:List Aa.V)(g i:Int)(b:List Ae.V)(c j:Int)(k:Ae.V):Option Bool :=
 bif !(Aq k.1 (wI (g+1)) 1000000) then
 some true
 else
 bif decide (i<0) then
 some true
 else
 (Dg a k.2.2.2.1).bind fun n =>
 some (i !=n)
theorem AjO(a:List Aa.V)(g i:Int)(b:List Ae.V)(c j:Int)(k:Ae.V):JnOk E67 0 9 (sub (code Tryz.f147) [1,1,1,0,1,0,0]) [1,1,0,0,1,1,0,0] (Aje a g i b c j k) (Dx a g i b c j k) (AiY a g i b c j k):=by
 unfold JnOk
 simp only[Dx,mC,mI,mN,mB,mE,mM]
 kernel_rfl
def DI(a:List Aa.V)(b:List Ae.V)(c g j:Int):Option ((Int×Int)⊕(Unit⊕Unit)) :=
 bif decide (j<c) then
 if(0:Int)≤j∧j<(b.length:Int) then
 (Dg a (b.getD j.toNat (Ty.zero Ae)).2.2.1).bind fun i =>
 (Dx a g i b c j (b.getD j.toNat (Ty.zero Ae))).bind fun l =>
 bif l then
 some (.inr (.inl ()))
 else
 some (.inl ((b.getD j.toNat (Ty.zero Ae)).1,(wI (j+1))))
 else none
 else
 some (.inr (.inr ()))
def Bp(a:List Aa.V)(b:List Ae.V)(c:Int)(z_:Int×Int):=DI a b c z_.1 z_.2
def Ir(a:List Aa.V)(b:List Ae.V)(c g j:Int):=fix (Bp a b c) (g,j)
theorem AhE(a:List Aa.V)(b:List Ae.V)(c:Int):LpOk E67 0 5 (code Tryz.f147) [1,1,1,0,1,0] (Ahc a b c) (Bp a b c) (Ajx a b c):=by
 intro _
 simp only[Bp,DI,mC,mI,mN,mB,mE,mM]
 simp(disch:=refine sI ?_<;>(repeat' refine sA ?_ ?_)<;>intro _<;>kernel_rfl) only[Bn (AjO _ _ _ _ _ _ _) (K:=stepK 0 (E67.hd 5) (E67.ot 5))]
 kernel_rfl
def FU(a:List Aa.V)(b:List Ae.V):Option Bool :=
 bif decide ((b.length:Int)>60) then
 some false
 else
 (Ir a b (b.length:Int) 0 0).bind (Sum.elim (fun d =>
 some false) (fun e =>
 some true))
theorem U67(R:Type)(a:List Aa.V)(b:List Ae.V)(K:AV→List Blk→Option R):runF E67 Tryz.f147 R [dD (.sl Aa) a,dD (.sl Ae) b] [] K=(FU a b).bind fun r=>K (dB r) []:=by
 simp only[FU,bC,bI,bN,bE,bA,bS,bO,bM]
 simp(disch:=refine sI ?_<;>(repeat' refine sA ?_ ?_)<;>intro _<;>kernel_rfl) only[Ir,Au (AhE _ _ _) (K:=finK E67 Tryz.f147 0 R K)]
 kernel_rfl
def c147:Va.Callee:=brC [.d (.sl Aa),.d (.sl Ae)] [⟨[.dat [] (.sl Aa),.dat [] (.sl Ae)],[],Bool,fun p=>FU p.1.1 p.1.2.1,fun r=>(dB r,[])⟩]
theorem WA:SoundC Tryz.prog 147 c147:=Ap (fn:=Tryz.f147) (by kernel_rfl) (by kernel_rfl) (by kernel_rfl) ⟨⟨E67,⟨⟨tabok,An ⟨Lu,YU,trivial⟩⟩,mixed⟩,fun p R K=>U67 R p.1.1 p.1.2.1 K⟩,trivial⟩
abbrev E68:Env:=⟨tab,lookH [(113,c113),(147,c147)],{deep:=true}⟩
def Ef(a:List Aa.V)(b:List Ae.V):Option Bool :=
 (FL a).bind fun c =>
 bif c then
 (FU a b).bind fun d =>
 some d
 else
 some false
theorem U68(R:Type)(a:List Aa.V)(b:List Ae.V)(K:AV→List Blk→Option R):runF E68 Tryz.f129 R [dD (.sl Aa) a,dD (.sl Ae) b] [] K=(Ef a b).bind fun r=>K (dB r) []:=by
 simp only[Ef,bC,bI,bN,bE,bA,bS,bO,bM]
 kernel_rfl
def c129:Va.Callee:=brC [.d (.sl Aa),.d (.sl Ae)] [⟨[.dat [] (.sl Aa),.dat [] (.sl Ae)],[],Bool,fun p=>Ef p.1.1 p.1.2.1,fun r=>(dB r,[])⟩]
theorem XW:SoundC Tryz.prog 129 c129:=Ap (fn:=Tryz.f129) (by kernel_rfl) (by kernel_rfl) (by kernel_rfl) ⟨⟨E68,⟨⟨tabok,An ⟨Sy,WA,trivial⟩⟩,mixed⟩,fun p R K=>U68 R p.1.1 p.1.2.1 K⟩,trivial⟩
noncomputable def c245:Va.Callee:=cloneC 216 (.int .u64) 8
noncomputable abbrev e245:Env:={tab:=tab,fns:=lookH [],fi:={}}
theorem Aaf:ProgOk Tryz.prog e245:=⟨⟨tabok,An trivial⟩,mixed⟩
theorem WF:SoundC Tryz.prog 245 c245 :=
 QU (fn:=Tryz.f245) Aaf (by kernel_rfl) (by kernel_rfl) rfl rfl rfl ⟨rfl,rfl,rfl⟩ ⟨rfl,rfl,rfl⟩ (ti:=⟨.sl (.int .u64),[],216,24,0,0,false⟩) (by kernel_rfl) rfl (by kernel_rfl) (fun xs=>by kernel_rfl) (fun xs=>by kernel_rfl)
  fun xs h=>by
   have h0:ev e245 0 (sub (code Tryz.f245) [1,1]) (Ex×St) ⟨[.dat [] (.sl (.int .u64)) xs,.un 0,.zs,.dat [] (.sl (.int .u64)) xs,.bool false,.un 0,.un 0,.un 0],[]⟩ pair2=if xs.length*8≤140737488355328 then some (.ret,⟨[.dat [] (.sl (.int .u64)) xs,.un 0,.ref 0,.dat [] (.sl (.int .u64)) xs,.bool false,.zs,.dat [] (.sl (.int .u64)) xs,.ref 0],[.row 216 .deep (.int .u64) xs]⟩) else none:=by kernel_rfl
   exact h0.trans (if_pos h)
abbrev E69:Env:=⟨tab,lookH [(245,c245)],{deep:=true}⟩
def Cw(a:Ah.V):Option (Int×(List Int)) :=
 if a.2.1.length*8≤140737488355328 then
 some (a.1,a.2.1)
 else none
theorem U69(R:Type)(a:Ah.V)(K:AV→List Blk→Option R):runF E69 Tryz.f216 R [dD Ah a] [] K=(Cw a).bind fun r=>K (.pr (dI r.1) (.pr (.ref 0) .u)) [.row 216 .deep (.int .u64) r.2]:=by
 simp only[Cw,bC,bI,bN,bE,bA,bS,bO,bM]
 kernel_rfl
def c216:Va.Callee:=brC [.d Ah] [⟨[.dat [] Ah],[],(Int×(List Int)),fun p=>Cw p.1.1,fun r=>(.pr (dI r.1) (.pr (.ref 0) .u),[.row 216 .deep (.int .u64) r.2])⟩]
theorem SG:SoundC Tryz.prog 216 c216:=Ap (fn:=Tryz.f216) (by kernel_rfl) (by kernel_rfl) (by kernel_rfl) ⟨⟨E69,⟨⟨tabok,An ⟨WF,trivial⟩⟩,mixed⟩,fun p R K=>U69 R p.1.1 K⟩,trivial⟩
abbrev E70:Env:=⟨tab,lookH [],{deep:=true}⟩
def Am(a:Int)(b:List Int):(Int×Int×Int×Int×(List Int)):=((-1),0,a,a,b)
theorem U70(R:Type)(a:Int)(b:List Int)(K:AV→List Blk→Option R):runF E70 Tryz.f229 R [.pr (dI a) (.pr (.ref 0) .u)] [.row 216 .deep (.int .u64) b] K=K (.pr (dI (Am a b).1) (.pr (dI (Am a b).2.1) (.pr (dI (Am a b).2.2.1) (.pr (.pr (dI (Am a b).2.2.2.1) (.pr (.ref 0) .u)) .u)))) [.row 216 .deep (.int .u64) (Am a b).2.2.2.2]:=by
 kernel_rfl
def c229:Va.Callee:=brC [.raw] [⟨[.pr (.dat [] (.int .i64)) (.pr (.k (.ref 0)) (.k .u))],[.row 216 .deep (.int .u64)],(Int×Int×Int×Int×(List Int)),fun p=>some (Am p.1.1.1 p.2.1),fun r=>(.pr (dI r.1) (.pr (dI r.2.1) (.pr (dI r.2.2.1) (.pr (.pr (dI r.2.2.2.1) (.pr (.ref 0) .u)) .u))),[.row 216 .deep (.int .u64) r.2.2.2.2])⟩]
theorem SL:SoundC Tryz.prog 229 c229:=Ap (fn:=Tryz.f229) (by kernel_rfl) (by kernel_rfl) (by kernel_rfl) ⟨⟨E70,⟨⟨tabok,An trivial⟩,mixed⟩,fun p R K=>U70 R p.1.1.1 p.2.1 K⟩,trivial⟩
abbrev E71:Env:=⟨tab,lookH [],{deep:=true}⟩
def BO(a b:Ad.V):Bool:=((a.1==b.1)&&((a.1==(-1))||((wI (a.2.1+a.2.2.1))==b.2.1)))
theorem U71(R:Type)(a b:Ad.V)(K:AV→List Blk→Option R):runF E71 Tryz.f256 R [dD Ad a,dD Ad b] [] K=K (dB (BO a b)) []:=by
 have h:runF E71 Tryz.f256 R [dD Ad a,dD Ad b] [] K =
 bif a.1==b.1 then
 bif a.1==(-1) then
 K (dB true) []
 else
 K (dB ((wI (a.2.1+a.2.2.1))==b.2.1)) []
 else
 K (dB false) []:=by kernel_rfl
 rw[h]
 unfold BO
 cases h1:(a.1==b.1)
 ·first | rfl | kernel_rfl
 ·cases h2:(a.1==(-1))
  ·first | rfl | kernel_rfl
  ·first | rfl | kernel_rfl
def c256:Va.Callee:=brC [.d Ad,.d Ad] [⟨[.dat [] Ad,.dat [] Ad],[],Bool,fun p=>some (BO p.1.1 p.1.2.1),fun r=>(dB r,[])⟩]
theorem Wy:SoundC Tryz.prog 256 c256:=Ap (fn:=Tryz.f256) (by kernel_rfl) (by kernel_rfl) (by kernel_rfl) ⟨⟨E71,⟨⟨tabok,An trivial⟩,mixed⟩,fun p R K=>U71 R p.1.1 p.1.2.1 K⟩,trivial⟩
end
end Go.Proofs.X
