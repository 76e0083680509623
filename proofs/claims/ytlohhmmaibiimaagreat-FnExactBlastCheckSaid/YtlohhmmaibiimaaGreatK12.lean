import Derived.KernelRfl
import Derived.Test.YtlohhmmaibiimaaGreatK11
set_option linter.unusedVariables false
set_option linter.unusedSimpArgs false
namespace Go.Proofs.X
open Go Go.Va
set_option maxRecDepth 100000
noncomputable section
abbrev E104:Env:=⟨tab,lookH [],{deep:=true,heads:=[(3,{live:=[0,1,33,34,35]}),(8,{live:=[0,55,56,57]})],outs:=[(3,{live:=[0,1]}),(8,{live:=[]})]}⟩
def AbN(a:Int)(b:Ag.V)(c:List (Int×(List Int)))(d e:List Int)(g:Int)(i j:List Int)(z_:Int×(List Int)):St:=sT 71 [(0,.ptr 0 a [] 0),(55,.dat [1] (.sl (.int .i64)) e),(56,dI g),(57,dI z_.1)] [.box (.pr (dD Ag b) (.pr (.mp 1) (.pr (.ref 2) (.pr (.ref 3) (.pr (.ref 6) (.pr (.ref 5) .u)))))),.map .deep (.int .i64) (.sl (.int .i64)) c none,.row 3 .deep (.int .i64) d,.row 3 .deep (.int .i64) z_.2,.dead,.row 2 .deep (.int .i64) i,.row 2 .deep (.int .i64) j]
def AdC(a:Int)(b:Ag.V)(c:List (Int×(List Int)))(d e:List Int)(g:Int)(i j:List Int):(List Int)→Ex×St:=fun k=>((.exit 2),sT 71 [] [.box (.pr (dD Ag b) (.pr (.mp 1) (.pr (.ref 2) (.pr (.ref 3) (.pr (.ref 6) (.pr (.ref 5) .u)))))),.map .deep (.int .i64) (.sl (.int .i64)) c none,.row 3 .deep (.int .i64) d,.row 3 .deep (.int .i64) k,.dead,.row 2 .deep (.int .i64) i,.row 2 .deep (.int .i64) j])
def De(a:Int)(b:Ag.V)(c:List (Int×(List Int)))(d e:List Int)(g:Int)(i j:List Int)(l:Int)(n:List Int):Option ((Int×(List Int))⊕(List Int)) :=
 bif decide (l<g) then
 if(0:Int)≤l∧l<(e.length:Int) then
 if(0:Int)≤(e.getD l.toNat (Ty.zero (.int .i64)))∧(e.getD l.toNat (Ty.zero (.int .i64)))<(n.length:Int) then
 if(0:Int)≤(e.getD l.toNat (Ty.zero (.int .i64)))∧(e.getD l.toNat (Ty.zero (.int .i64)))<(n.length:Int) then
 some (.inl ((wI (l+1)),(n.set (e.getD l.toNat (Ty.zero (.int .i64))).toNat (wI ((n.getD (e.getD l.toNat (Ty.zero (.int .i64))).toNat (Ty.zero (.int .i64)))+1)))))
 else none
 else none
 else none
 else
 some (.inr n)
def BR(a:Int)(b:Ag.V)(c:List (Int×(List Int)))(d e:List Int)(g:Int)(i j:List Int)(z_:Int×(List Int)):=De a b c d e g i j z_.1 z_.2
def Eo(a:Int)(b:Ag.V)(c:List (Int×(List Int)))(d e:List Int)(g:Int)(i j:List Int)(l:Int)(n:List Int):=fix (BR a b c d e g i j) (l,n)
theorem Aeu(a:Int)(b:Ag.V)(c:List (Int×(List Int)))(d e:List Int)(g:Int)(i j:List Int):LpOk E104 6 8 (code Tryz.f198) [1,1,1,1,0] (AbN a b c d e g i j) (BR a b c d e g i j) (AdC a b c d e g i j):=by
 intro _
 simp only[BR,De,mC,mI,mN,mB,mE,mM]
 kernel_rfl
def AdD(a o:Int)(b:Ag.V)(c:List (Int×(List Int)))(q s:List Int)(t:Int)(u v:List Int)(z_:Int×(List Int)):St:=sT 71 [(0,.ptr 0 a [] 0),(1,dI o),(33,.dat [1] (.sl (.int .i64)) s),(34,dI t),(35,dI z_.1)] [.box (.pr (dD Ag b) (.pr (.mp 1) (.pr (.ref 2) (.pr (.ref 3) (.pr (.ref 6) (.pr (.ref 5) .u)))))),.map .deep (.int .i64) (.sl (.int .i64)) c none,.row 3 .deep (.int .i64) z_.2,.row 3 .deep (.int .i64) q,.dead,.row 2 .deep (.int .i64) u,.row 2 .deep (.int .i64) v]
def AeB(a o:Int)(b:Ag.V)(c:List (Int×(List Int)))(q s:List Int)(t:Int)(u v:List Int):(List Int)→Ex×St:=fun d=>((.exit 0),sT 71 [(0,.ptr 0 a [] 0),(1,dI o)] [.box (.pr (dD Ag b) (.pr (.mp 1) (.pr (.ref 2) (.pr (.ref 3) (.pr (.ref 6) (.pr (.ref 5) .u)))))),.map .deep (.int .i64) (.sl (.int .i64)) c none,.row 3 .deep (.int .i64) d,.row 3 .deep (.int .i64) q,.dead,.row 2 .deep (.int .i64) u,.row 2 .deep (.int .i64) v])
def Dz(a o:Int)(b:Ag.V)(c:List (Int×(List Int)))(q s:List Int)(t:Int)(u v:List Int)(w:Int)(x:List Int):Option ((Int×(List Int))⊕(List Int)) :=
 bif decide (w<t) then
 if(0:Int)≤w∧w<(s.length:Int) then
 if(0:Int)≤(s.getD w.toNat (Ty.zero (.int .i64)))∧(s.getD w.toNat (Ty.zero (.int .i64)))<(x.length:Int) then
 if(0:Int)≤(s.getD w.toNat (Ty.zero (.int .i64)))∧(s.getD w.toNat (Ty.zero (.int .i64)))<(x.length:Int) then
 some (.inl ((wI (w+1)),(x.set (s.getD w.toNat (Ty.zero (.int .i64))).toNat (wI ((x.getD (s.getD w.toNat (Ty.zero (.int .i64))).toNat (Ty.zero (.int .i64)))+1)))))
 else none
 else none
 else none
 else
 some (.inr x)
def BT(a o:Int)(b:Ag.V)(c:List (Int×(List Int)))(q s:List Int)(t:Int)(u v:List Int)(z_:Int×(List Int)):=Dz a o b c q s t u v z_.1 z_.2
def EG(a o:Int)(b:Ag.V)(c:List (Int×(List Int)))(q s:List Int)(t:Int)(u v:List Int)(w:Int)(x:List Int):=fix (BT a o b c q s t u v) (w,x)
theorem Aca(a o:Int)(b:Ag.V)(c:List (Int×(List Int)))(q s:List Int)(t:Int)(u v:List Int):LpOk E104 6 3 (code Tryz.f198) [1,1,0,1,0] (AdD a o b c q s t u v) (BT a o b c q s t u v) (AeB a o b c q s t u v):=by
 intro _
 simp only[BT,Dz,mC,mI,mN,mB,mE,mM]
 kernel_rfl
def Cb(a o:Int)(b:Ag.V)(c:List (Int×(List Int)))(y q a1 b1:List Int):Option (Ag.V×(List (Int×(List Int)))×(List Int)×(List Int)×(List Int)×(List Int)) :=
 if(a1.length+([o]:List Int).length)*8≤140737488355328 then
 if(0:Int)≤(if(wI (0-o))>o then(wI (0-o)) else o)∧(if(wI (0-o))>o then(wI (0-o)) else o)<(b1.length:Int) then
 (EG a o b c q (mget (.int .i64) (.sl (.int .i64)) c o) ((mget (.int .i64) (.sl (.int .i64)) c o).length:Int) (b1.set (if(wI (0-o))>o then(wI (0-o)) else o).toNat o) (a1++([o]:List Int)) 0 y).bind fun d =>
 (Eo a b c d (mget (.int .i64) (.sl (.int .i64)) c (wI (0-o))) ((mget (.int .i64) (.sl (.int .i64)) c (wI (0-o))).length:Int) (b1.set (if(wI (0-o))>o then(wI (0-o)) else o).toNat o) (a1++([o]:List Int)) 0 q).bind fun k =>
 some (b,c,d,k,(b1.set (if(wI (0-o))>o then(wI (0-o)) else o).toNat o),(a1++([o]:List Int)))
 else none
 else none
theorem U104(R:Type)(a o:Int)(b:Ag.V)(c:List (Int×(List Int)))(y q a1 b1:List Int)(K:AV→List Blk→Option R):runF E104 Tryz.f198 R [.ptr 0 a [] 0,dI o] [.box (.pr (dD Ag b) (.pr (.mp 1) (.pr (.ref 2) (.pr (.ref 3) (.pr (.ref 4) (.pr (.ref 5) .u)))))),.map .deep (.int .i64) (.sl (.int .i64)) c none,.row 3 .deep (.int .i64) y,.row 3 .deep (.int .i64) q,.row 2 .deep (.int .i64) a1,.row 2 .deep (.int .i64) b1] K=(Cb a o b c y q a1 b1).bind fun r=>K .nil [.box (.pr (dD Ag r.1) (.pr (.mp 1) (.pr (.ref 2) (.pr (.ref 3) (.pr (.ref 6) (.pr (.ref 5) .u)))))),.map .deep (.int .i64) (.sl (.int .i64)) r.2.1 none,.row 3 .deep (.int .i64) r.2.2.1,.row 3 .deep (.int .i64) r.2.2.2.1,.dead,.row 2 .deep (.int .i64) r.2.2.2.2.1,.row 2 .deep (.int .i64) r.2.2.2.2.2]:=by
 simp only[Cb,bC,bI,bN,bE,bA,bS,bO,bM]
 simp(disch:=refine sI ?_<;>(repeat' refine sA ?_ ?_)<;>intro _<;>kernel_rfl) only[EG,Au (Aca _ _ _ _ _ _ _ _ _) (K:=finK E104 Tryz.f198 6 R K),Eo,Au (Aeu _ _ _ _ _ _ _ _) (K:=finK E104 Tryz.f198 6 R K)]
 kernel_rfl
def c198:Va.Callee:=brC [.raw,.d (.int .i64)] [⟨[.ptr 0 [] 0,.dat [] (.int .i64)],[.box (.pr (.dat [] Ag) (.pr (.k (.mp 1)) (.pr (.k (.ref 2)) (.pr (.k (.ref 3)) (.pr (.k (.ref 4)) (.pr (.k (.ref 5)) (.k .u))))))),.map .deep (.int .i64) (.sl (.int .i64)),.row 3 .deep (.int .i64),.row 3 .deep (.int .i64),.row 2 .deep (.int .i64),.row 2 .deep (.int .i64)],(Ag.V×(List (Int×(List Int)))×(List Int)×(List Int)×(List Int)×(List Int)),fun p=>Cb p.1.1 p.1.2.1 p.2.1.1 p.2.2.1 p.2.2.2.1 p.2.2.2.2.1 p.2.2.2.2.2.1 p.2.2.2.2.2.2.1,fun r=>(.nil,[.box (.pr (dD Ag r.1) (.pr (.mp 1) (.pr (.ref 2) (.pr (.ref 3) (.pr (.ref 6) (.pr (.ref 5) .u)))))),.map .deep (.int .i64) (.sl (.int .i64)) r.2.1 none,.row 3 .deep (.int .i64) r.2.2.1,.row 3 .deep (.int .i64) r.2.2.2.1,.dead,.row 2 .deep (.int .i64) r.2.2.2.2.1,.row 2 .deep (.int .i64) r.2.2.2.2.2])⟩]
theorem S1:SoundC Tryz.prog 198 c198:=Ap (fn:=Tryz.f198) (by kernel_rfl) (by kernel_rfl) (by kernel_rfl) ⟨⟨E104,⟨⟨tabok,An trivial⟩,mixed⟩,fun p R K=>U104 R p.1.1 p.1.2.1 p.2.1.1 p.2.2.1 p.2.2.2.1 p.2.2.2.2.1 p.2.2.2.2.2.1 p.2.2.2.2.2.2.1 K⟩,trivial⟩
abbrev E105:Env:=⟨tab,lookH [(198,c198),(227,c227)],{deep:=true,heads:=[(2,{live:=[0,3],mvp:=[(0,[4])]}),(5,{live:=[0,3,11,12,13]})],outs:=[(2,{live:=[2]}),(5,{live:=[0,2,3],mvp:=[(0,[4])]})],joins:=[(8,{live:=[0,3,4,5,11,12,13]}),(12,{live:=[0,2,3,11,12,13]})],ents:=[(8,[0,3,4,5,11,12,13]),(12,[0,3,11,12,13])]}⟩
def AeA(a:Int)(z_:Bool×Ag.V×(List (Int×(List Int)))×(List Int)×(List Int)×(List Int)×(List Int)):St:=sT 55 [(0,.ptr 0 a [] 0),(3,dB z_.1)] [.box (.pr (dD Ag z_.2.1) (.pr (.mp 1) (.pr (.ref 2) (.pr (.ref 3) (.pr (.ref 6) (.pr (.ref 5) .u)))))),.map .deep (.int .i64) (.sl (.int .i64)) z_.2.2.1 none,.row 3 .deep (.int .i64) z_.2.2.2.1,.row 3 .deep (.int .i64) z_.2.2.2.2.1,.dead,.row 2 .deep (.int .i64) z_.2.2.2.2.2.1,.row 2 .deep (.int .i64) z_.2.2.2.2.2.2]
def Aez(a:Int):((Ag.V×(List (Int×(List Int)))×(List Int)×(List Int)×(List Int)×(List Int))⊕(Ag.V×(List (Int×(List Int)))×(List Int)×(List Int)×(List Int)×(List Int)))→Ex×St:=Sum.elim (fun b=>(.ret,sT 55 [(2,dB false)] [.box (.pr (dD Ag b.1) (.pr (.mp 1) (.pr (.ref 2) (.pr (.ref 3) (.pr (.ref 6) (.pr (.ref 5) .u)))))),.map .deep (.int .i64) (.sl (.int .i64)) b.2.1 none,.row 3 .deep (.int .i64) b.2.2.1,.row 3 .deep (.int .i64) b.2.2.2.1,.dead,.row 2 .deep (.int .i64) b.2.2.2.2.1,.row 2 .deep (.int .i64) b.2.2.2.2.2])) (fun c=>((.exit 0),sT 55 [] [.box (.pr (dD Ag c.1) (.pr (.mp 1) (.pr (.ref 2) (.pr (.ref 3) (.pr (.ref 6) (.pr (.ref 5) .u)))))),.map .deep (.int .i64) (.sl (.int .i64)) c.2.1 none,.row 3 .deep (.int .i64) c.2.2.1,.row 3 .deep (.int .i64) c.2.2.2.1,.dead,.row 2 .deep (.int .i64) c.2.2.2.2.1,.row 2 .deep (.int .i64) c.2.2.2.2.2]))
def Adn(a:Int)(d:Ag.V)(e:List (Int×(List Int)))(g i j k:List Int)(l:List (List Int))(n z_:Int):St:=sT 55 [(0,.ptr 0 a [] 0),(3,dB false),(11,dD (.sl (.sl (.int .i64))) l),(12,dI n),(13,dI z_)] [.box (.pr (dD Ag d) (.pr (.mp 1) (.pr (.ref 2) (.pr (.ref 3) (.pr (.ref 6) (.pr (.ref 5) .u)))))),.map .deep (.int .i64) (.sl (.int .i64)) e none,.row 3 .deep (.int .i64) g,.row 3 .deep (.int .i64) i,.dead,.row 2 .deep (.int .i64) j,.row 2 .deep (.int .i64) k]
def Adi(a:Int)(d:Ag.V)(e:List (Int×(List Int)))(g i j k:List Int)(l:List (List Int))(n:Int):(Unit⊕(Bool×Ag.V×(List (Int×(List Int)))×(List Int)×(List Int)×(List Int)×(List Int)))→Ex×St:=Sum.elim (fun o=>(.ret,sT 55 [(0,.ptr 0 a [] 0),(2,dB false),(3,dB false)] [.box (.pr (dD Ag d) (.pr (.mp 1) (.pr (.ref 2) (.pr (.ref 3) (.pr (.ref 6) (.pr (.ref 5) .u)))))),.map .deep (.int .i64) (.sl (.int .i64)) e none,.row 3 .deep (.int .i64) g,.row 3 .deep (.int .i64) i,.dead,.row 2 .deep (.int .i64) j,.row 2 .deep (.int .i64) k])) (fun q=>((.exit 2),sT 55 [(0,.ptr 0 a [] 0),(3,dB q.1)] [.box (.pr (dD Ag q.2.1) (.pr (.mp 1) (.pr (.ref 2) (.pr (.ref 3) (.pr (.ref 6) (.pr (.ref 5) .u)))))),.map .deep (.int .i64) (.sl (.int .i64)) q.2.2.1 none,.row 3 .deep (.int .i64) q.2.2.2.1,.row 3 .deep (.int .i64) q.2.2.2.2.1,.dead,.row 2 .deep (.int .i64) q.2.2.2.2.2.1,.row 2 .deep (.int .i64) q.2.2.2.2.2.2]))
def Adv(a:Int)(l:List (List Int))(n s:Int)(d:Ag.V)(e:List (Int×(List Int)))(g i j k:List Int):St:=sT 55 [(0,.ptr 0 a [] 0),(3,dB false),(11,dD (.sl (.sl (.int .i64))) l),(12,dI n),(13,dI s)] [.box (.pr (dD Ag d) (.pr (.mp 1) (.pr (.ref 2) (.pr (.ref 3) (.pr (.ref 6) (.pr (.ref 5) .u)))))),.map .deep (.int .i64) (.sl (.int .i64)) e none,.row 3 .deep (.int .i64) g,.row 3 .deep (.int .i64) i,.dead,.row 2 .deep (.int .i64) j,.row 2 .deep (.int .i64) k]
def Aeo(a:Int)(l:List (List Int))(n s:Int)(d:Ag.V)(e:List (Int×(List Int)))(g i j k:List Int):(Unit⊕(Unit⊕(Ag.V×(List (Int×(List Int)))×(List Int)×(List Int)×(List Int)×(List Int))))→Ex×St:=Sum.elim (fun t=>(.normal,sT 55 [(0,.ptr 0 a [] 0),(3,dB false),(11,dD (.sl (.sl (.int .i64))) l),(12,dI n),(13,dI s)] [.box (.pr (dD Ag d) (.pr (.mp 1) (.pr (.ref 2) (.pr (.ref 3) (.pr (.ref 6) (.pr (.ref 5) .u)))))),.map .deep (.int .i64) (.sl (.int .i64)) e none,.row 3 .deep (.int .i64) g,.row 3 .deep (.int .i64) i,.dead,.row 2 .deep (.int .i64) j,.row 2 .deep (.int .i64) k])) (Sum.elim (fun u=>(.ret,sT 55 [(0,.ptr 0 a [] 0),(2,dB false),(3,dB false),(11,dD (.sl (.sl (.int .i64))) l),(12,dI n),(13,dI s)] [.box (.pr (dD Ag d) (.pr (.mp 1) (.pr (.ref 2) (.pr (.ref 3) (.pr (.ref 6) (.pr (.ref 5) .u)))))),.map .deep (.int .i64) (.sl (.int .i64)) e none,.row 3 .deep (.int .i64) g,.row 3 .deep (.int .i64) i,.dead,.row 2 .deep (.int .i64) j,.row 2 .deep (.int .i64) k])) (fun v=>((.exit 2),sT 55 [(0,.ptr 0 a [] 0),(3,dB true),(11,dD (.sl (.sl (.int .i64))) l),(12,dI n),(13,dI s)] [.box (.pr (dD Ag v.1) (.pr (.mp 1) (.pr (.ref 2) (.pr (.ref 3) (.pr (.ref 6) (.pr (.ref 5) .u)))))),.map .deep (.int .i64) (.sl (.int .i64)) v.2.1 none,.row 3 .deep (.int .i64) v.2.2.1,.row 3 .deep (.int .i64) v.2.2.2.1,.dead,.row 2 .deep (.int .i64) v.2.2.2.2.1,.row 2 .deep (.int .i64) v.2.2.2.2.2])))
def Acv(a s:Int)(l:List (List Int))(n:Int)(d:Ag.V)(e:List (Int×(List Int)))(g i j k w:List Int):St:=sT 55 [(0,.ptr 0 a [] 0),(3,dB false),(4,dI s),(5,dD (.sl (.int .i64)) w),(11,dD (.sl (.sl (.int .i64))) l),(12,dI n),(13,dI s)] [.box (.pr (dD Ag d) (.pr (.mp 1) (.pr (.ref 2) (.pr (.ref 3) (.pr (.ref 6) (.pr (.ref 5) .u)))))),.map .deep (.int .i64) (.sl (.int .i64)) e none,.row 3 .deep (.int .i64) g,.row 3 .deep (.int .i64) i,.dead,.row 2 .deep (.int .i64) j,.row 2 .deep (.int .i64) k]
def AcN(a s:Int)(l:List (List Int))(n:Int)(d:Ag.V)(e:List (Int×(List Int)))(g i j k w:List Int):(Unit⊕Unit)→Ex×St:=Sum.elim (fun x=>((.exit 3),sT 55 [(0,.ptr 0 a [] 0),(3,dB false),(4,dI s),(5,dD (.sl (.int .i64)) w),(11,dD (.sl (.sl (.int .i64))) l),(12,dI n),(13,dI s)] [.box (.pr (dD Ag d) (.pr (.mp 1) (.pr (.ref 2) (.pr (.ref 3) (.pr (.ref 6) (.pr (.ref 5) .u)))))),.map .deep (.int .i64) (.sl (.int .i64)) e none,.row 3 .deep (.int .i64) g,.row 3 .deep (.int .i64) i,.dead,.row 2 .deep (.int .i64) j,.row 2 .deep (.int .i64) k])) (fun y=>(.normal,sT 55 [(0,.ptr 0 a [] 0),(3,dB false),(4,dI s),(5,dD (.sl (.int .i64)) w),(11,dD (.sl (.sl (.int .i64))) l),(12,dI n),(13,dI s)] [.box (.pr (dD Ag d) (.pr (.mp 1) (.pr (.ref 2) (.pr (.ref 3) (.pr (.ref 6) (.pr (.ref 5) .u)))))),.map .deep (.int .i64) (.sl (.int .i64)) e none,.row 3 .deep (.int .i64) g,.row 3 .deep (.int .i64) i,.dead,.row 2 .deep (.int .i64) j,.row 2 .deep (.int .i64) k]))
def DA(a s:Int)(l:List (List Int))(n:Int)(d:Ag.V)(e:List (Int×(List Int)))(g i j k w:List Int):Option (Unit⊕Unit) :=
 if(0:Int)≤s∧s<(g.length:Int) then
 bif decide ((g.getD s.toNat (Ty.zero (.int .i64)))>0) then
 some (.inl ())
 else
 if(0:Int)≤s∧s<(i.length:Int) then
 bif decide ((i.getD s.toNat (Ty.zero (.int .i64)))<(wI ((w.length:Int)-1))) then
 some (.inl ())
 else
 some (.inr ())
 else none
 else none
theorem AcS(a s:Int)(l:List (List Int))(n:Int)(d:Ag.V)(e:List (Int×(List Int)))(g i j k w:List Int):JnOk E105 6 8 (sub (sub (sub (code Tryz.f196) [1,0,1,0,0]) [1,0,1,1,0,0]) [1,1,0]) [0,1,0] (Acv a s l n d e g i j k w) (DA a s l n d e g i j k w) (AcN a s l n d e g i j k w):=by
 unfold JnOk
 simp only[DA,mC,mI,mN,mB,mE,mM]
 kernel_rfl
def B5(a:Int)(l:List (List Int))(n s:Int)(d:Ag.V)(e:List (Int×(List Int)))(g i j k:List Int):Option (Unit⊕(Unit⊕(Ag.V×(List (Int×(List Int)))×(List Int)×(List Int)×(List Int)×(List Int)))) :=
 if(0:Int)≤s∧s<(l.length:Int) then
 (DA a s l n d e g i j k (l.getD s.toNat (Ty.zero (.sl (.int .i64))))).bind (Sum.elim (fun x =>
 some (.inl ())) (fun y =>
 if(0:Int)≤s∧s<(i.length:Int) then
 bif (i.getD s.toNat (Ty.zero (.int .i64)))==((l.getD s.toNat (Ty.zero (.sl (.int .i64)))).length:Int) then
 some (.inr (.inl ()))
 else
 (Eg a s d e g i k j).bind fun a1 =>
 (Cb a a1.1 a1.2.1 a1.2.2.1 a1.2.2.2.1 a1.2.2.2.2.1 a1.2.2.2.2.2.1 a1.2.2.2.2.2.2).bind fun b1 =>
 some (.inr (.inr (b1.1,b1.2.1,b1.2.2.1,b1.2.2.2.1,b1.2.2.2.2.1,b1.2.2.2.2.2)))
 else none))
 else none
theorem AcP(a:Int)(l:List (List Int))(n s:Int)(d:Ag.V)(e:List (Int×(List Int)))(g i j k:List Int):JnOk E105 6 12 (sub (sub (code Tryz.f196) [1,0,1,0,0]) [1,0,1,1,0,0]) [1,1,0] (Adv a l n s d e g i j k) (B5 a l n s d e g i j k) (Aeo a l n s d e g i j k):=by
 unfold JnOk
 simp only[B5,mC,mI,mN,mB,mE,mM]
 simp(disch:=refine sI ?_<;>(repeat' refine sA ?_ ?_)<;>intro _<;>kernel_rfl) only[Bn (AcS _ _ _ _ _ _ _ _ _ _ _) (K:=joinK 6 (E105.jn 12))]
 kernel_rfl
def Bs(a:Int)(d:Ag.V)(e:List (Int×(List Int)))(g i j k:List Int)(l:List (List Int))(n s:Int):Option (Int⊕(Unit⊕(Bool×Ag.V×(List (Int×(List Int)))×(List Int)×(List Int)×(List Int)×(List Int)))) :=
 bif decide (s<n) then
 (B5 a l n s d e g i j k).bind (Sum.elim (fun t =>
 some (.inl (wI (s+1)))) (Sum.elim (fun u =>
 some (.inr (.inl ()))) (fun v =>
 some (.inr (.inr (true,v.1,v.2.1,v.2.2.1,v.2.2.2.1,v.2.2.2.2.1,v.2.2.2.2.2))))))
 else
 some (.inr (.inr (false,d,e,g,i,j,k)))
def Ax(a:Int)(d:Ag.V)(e:List (Int×(List Int)))(g i j k:List Int)(l:List (List Int))(n z_:Int):=Bs a d e g i j k l n z_
def Dh(a:Int)(d:Ag.V)(e:List (Int×(List Int)))(g i j k:List Int)(l:List (List Int))(n s:Int):=fix (Ax a d e g i j k l n) s
theorem Ads(a:Int)(d:Ag.V)(e:List (Int×(List Int)))(g i j k:List Int)(l:List (List Int))(n:Int):LpOk E105 6 5 (sub (code Tryz.f196) [1,0,1,0,0]) [1,0,1,1,0] (Adn a d e g i j k l n) (Ax a d e g i j k l n) (Adi a d e g i j k l n):=by
 intro _
 simp only[Ax,Bs,mC,mI,mN,mB,mE,mM]
 simp(disch:=refine sI ?_<;>(repeat' refine sA ?_ ?_)<;>intro _<;>kernel_rfl) only[Bn (AcP _ _ _ _ _ _ _ _ _ _) (K:=stepK 6 (E105.hd 5) (E105.ot 5))]
 kernel_rfl
def Cj(a:Int)(c1:Bool)(d:Ag.V)(e:List (Int×(List Int)))(g i j k:List Int):Option ((Bool×Ag.V×(List (Int×(List Int)))×(List Int)×(List Int)×(List Int)×(List Int))⊕((Ag.V×(List (Int×(List Int)))×(List Int)×(List Int)×(List Int)×(List Int))⊕(Ag.V×(List (Int×(List Int)))×(List Int)×(List Int)×(List Int)×(List Int)))) :=
 bif c1 then
 (Dh a d e g i j k d.2.1 (d.2.1.length:Int) 0).bind (Sum.elim (fun o =>
 some (.inr (.inl (d,e,g,i,j,k)))) (fun q =>
 some (.inl (q.1,q.2.1,q.2.2.1,q.2.2.2.1,q.2.2.2.2.1,q.2.2.2.2.2.1,q.2.2.2.2.2.2))))
 else
 some (.inr (.inr (d,e,g,i,j,k)))
def AD(a:Int)(z_:Bool×Ag.V×(List (Int×(List Int)))×(List Int)×(List Int)×(List Int)×(List Int)):=Cj a z_.1 z_.2.1 z_.2.2.1 z_.2.2.2.1 z_.2.2.2.2.1 z_.2.2.2.2.2.1 z_.2.2.2.2.2.2
def H7(a:Int)(c1:Bool)(d:Ag.V)(e:List (Int×(List Int)))(g i j k:List Int):=fix (AD a) (c1,d,e,g,i,j,k)
theorem AdO(a:Int):LpOk E105 6 2 (code Tryz.f196) [1,0,1,0] (AeA a) (AD a) (Aez a):=by
 intro _
 simp only[AD,Cj,mC,mI,mN,mB,mE,mM]
 simp(disch:=refine sI ?_<;>(repeat' refine sA ?_ ?_)<;>intro _<;>kernel_rfl) only[Dh,Au (Ads _ _ _ _ _ _ _ _ _) (K:=stepK 6 (E105.hd 2) (E105.ot 2))]
 kernel_rfl
def DY(a:Int)(d1:Ag.V)(e1:List (Int×(List Int)))(g1 i1 j1 k1:List Int):Option (Bool×Ag.V×(List (Int×(List Int)))×(List Int)×(List Int)×(List Int)×(List Int)) :=
 (H7 a true d1 e1 g1 i1 k1 j1).bind (Sum.elim (fun b =>
 some (false,b.1,b.2.1,b.2.2.1,b.2.2.2.1,b.2.2.2.2.1,b.2.2.2.2.2)) (fun c =>
 some (true,c.1,c.2.1,c.2.2.1,c.2.2.2.1,c.2.2.2.2.1,c.2.2.2.2.2)))
theorem U105(R:Type)(a:Int)(d1:Ag.V)(e1:List (Int×(List Int)))(g1 i1 j1 k1:List Int)(K:AV→List Blk→Option R):runF E105 Tryz.f196 R [.ptr 0 a [] 0] [.box (.pr (dD Ag d1) (.pr (.mp 1) (.pr (.ref 2) (.pr (.ref 3) (.pr (.ref 4) (.pr (.ref 5) .u)))))),.map .deep (.int .i64) (.sl (.int .i64)) e1 none,.row 3 .deep (.int .i64) g1,.row 3 .deep (.int .i64) i1,.row 2 .deep (.int .i64) j1,.row 2 .deep (.int .i64) k1] K=(DY a d1 e1 g1 i1 j1 k1).bind fun r=>K (dB r.1) [.box (.pr (dD Ag r.2.1) (.pr (.mp 1) (.pr (.ref 2) (.pr (.ref 3) (.pr (.ref 6) (.pr (.ref 5) .u)))))),.map .deep (.int .i64) (.sl (.int .i64)) r.2.2.1 none,.row 3 .deep (.int .i64) r.2.2.2.1,.row 3 .deep (.int .i64) r.2.2.2.2.1,.dead,.row 2 .deep (.int .i64) r.2.2.2.2.2.1,.row 2 .deep (.int .i64) r.2.2.2.2.2.2]:=by
 simp only[DY,bC,bI,bN,bE,bA,bS,bO,bM]
 simp(disch:=refine sI ?_<;>(repeat' refine sA ?_ ?_)<;>intro _<;>kernel_rfl) only[H7,Au (AdO _) (K:=finK E105 Tryz.f196 6 R K)]
 kernel_rfl
def c196:Va.Callee:=brC [.raw] [⟨[.ptr 0 [] 0],[.box (.pr (.dat [] Ag) (.pr (.k (.mp 1)) (.pr (.k (.ref 2)) (.pr (.k (.ref 3)) (.pr (.k (.ref 4)) (.pr (.k (.ref 5)) (.k .u))))))),.map .deep (.int .i64) (.sl (.int .i64)),.row 3 .deep (.int .i64),.row 3 .deep (.int .i64),.row 2 .deep (.int .i64),.row 2 .deep (.int .i64)],(Bool×Ag.V×(List (Int×(List Int)))×(List Int)×(List Int)×(List Int)×(List Int)),fun p=>DY p.1.1 p.2.1.1 p.2.2.1 p.2.2.2.1 p.2.2.2.2.1 p.2.2.2.2.2.1 p.2.2.2.2.2.2.1,fun r=>(dB r.1,[.box (.pr (dD Ag r.2.1) (.pr (.mp 1) (.pr (.ref 2) (.pr (.ref 3) (.pr (.ref 6) (.pr (.ref 5) .u)))))),.map .deep (.int .i64) (.sl (.int .i64)) r.2.2.1 none,.row 3 .deep (.int .i64) r.2.2.2.1,.row 3 .deep (.int .i64) r.2.2.2.2.1,.dead,.row 2 .deep (.int .i64) r.2.2.2.2.2.1,.row 2 .deep (.int .i64) r.2.2.2.2.2.2])⟩]
theorem Yu:SoundC Tryz.prog 196 c196:=Ap (fn:=Tryz.f196) (by kernel_rfl) (by kernel_rfl) (by kernel_rfl) ⟨⟨E105,⟨⟨tabok,An ⟨S1,Ym,trivial⟩⟩,mixed⟩,fun p R K=>U105 R p.1.1 p.2.1.1 p.2.2.1 p.2.2.2.1 p.2.2.2.2.1 p.2.2.2.2.2.1 p.2.2.2.2.2.2.1 K⟩,trivial⟩
abbrev E106:Env:=⟨tab,lookH [],{deep:=true,heads:=[(2,{live:=[0,1,7,8]})],outs:=[(2,{live:=[4]})]}⟩
def AcC(a:List Int)(b c z_:Int):St:=sT 19 [(0,dD (.sl (.int .i64)) a),(1,dI b),(7,dI c),(8,dI z_)] []
def Ad7(a:List Int)(b c:Int):(Int⊕Unit)→Ex×St:=Sum.elim (fun d=>(.ret,sT 19 [(4,dI d)] [])) (fun e=>((.exit 0),sT 19 [] []))
def Er(a:List Int)(b c g:Int):Option (Int⊕(Int⊕Unit)) :=
 bif decide (g<c) then
 if(0:Int)≤g∧g<(a.length:Int) then
 bif b==(a.getD g.toNat (Ty.zero (.int .i64))) then
 some (.inr (.inl g))
 else
 some (.inl (wI (g+1)))
 else none
 else
 some (.inr (.inr ()))
def Ck(a:List Int)(b c z_:Int):=Er a b c z_
def FH(a:List Int)(b c g:Int):=fix (Ck a b c) g
theorem Aej(a:List Int)(b c:Int):LpOk E106 0 2 (code Tryz.f197) [1,0,1,0] (AcC a b c) (Ck a b c) (Ad7 a b c):=by
 intro _
 simp only[Ck,Er,mC,mI,mN,mB,mE,mM]
 kernel_rfl
def BV(a:List Int)(b:Int):Option Int :=
 (FH a b (a.length:Int) 0).bind (Sum.elim (fun d =>
 some d) (fun e =>
 some (-1)))
theorem U106(R:Type)(a:List Int)(b:Int)(K:AV→List Blk→Option R):runF E106 Tryz.f197 R [dD (.sl (.int .i64)) a,dI b] [] K=(BV a b).bind fun r=>K (dI r) []:=by
 simp only[BV,bC,bI,bN,bE,bA,bS,bO,bM]
 simp(disch:=refine sI ?_<;>(repeat' refine sA ?_ ?_)<;>intro _<;>kernel_rfl) only[FH,Au (Aej _ _ _) (K:=finK E106 Tryz.f197 0 R K)]
 kernel_rfl
def c197:Va.Callee:=brC [.d (.sl (.int .i64)),.d (.int .i64)] [⟨[.dat [] (.sl (.int .i64)),.dat [] (.int .i64)],[],Int,fun p=>BV p.1.1 p.1.2.1,fun r=>(dI r,[])⟩]
theorem Xe:SoundC Tryz.prog 197 c197:=Ap (fn:=Tryz.f197) (by kernel_rfl) (by kernel_rfl) (by kernel_rfl) ⟨⟨E106,⟨⟨tabok,An trivial⟩,mixed⟩,fun p R K=>U106 R p.1.1 p.1.2.1 K⟩,trivial⟩
abbrev E107:Env:=⟨tab,lookH [],{deep:=true,take:=[39],heads:=[(0,{live:=[0,1],mvp:=[(0,[4])]}),(5,{live:=[0,1,4,56,57,58]}),(10,{live:=[0,1,78,79,80]})],outs:=[(0,{live:=[]}),(5,{live:=[0,1,4]}),(10,{live:=[0,1]})],draws:=[(2,{live:=[0,1,4]})],dents:=[(2,[0,1,4])]}⟩
def AcA(a b:Int)(c:Ag.V)(d:List (Int×(List Int)))(z_:(List Int)×(List Int)×(List Int)×(List Int)):St:=sT 94 [(0,.ptr 0 a [] 0),(1,dI b)] [.box (.pr (dD Ag c) (.pr (.mp 1) (.pr (.ref 2) (.pr (.ref 3) (.pr (.ref 6) (.pr (.ref 5) .u)))))),.map .deep (.int .i64) (.sl (.int .i64)) d none,.row 3 .deep (.int .i64) z_.1,.row 3 .deep (.int .i64) z_.2.1,.dead,.row 2 .deep (.int .i64) z_.2.2.1,.row 2 .deep (.int .i64) z_.2.2.2]
def Abu(a b:Int)(c:Ag.V)(d:List (Int×(List Int))):((List Int)×(List Int)×(List Int)×(List Int))→Ex×St:=fun e=>((.exit 0),sT 94 [] [.box (.pr (dD Ag c) (.pr (.mp 1) (.pr (.ref 2) (.pr (.ref 3) (.pr (.ref 6) (.pr (.ref 5) .u)))))),.map .deep (.int .i64) (.sl (.int .i64)) d none,.row 3 .deep (.int .i64) e.1,.row 3 .deep (.int .i64) e.2.1,.dead,.row 2 .deep (.int .i64) e.2.2.1,.row 2 .deep (.int .i64) e.2.2.2])
def AcH(a b:Int)(c:Ag.V)(d:List (Int×(List Int)))(g i:List Int)(j:Int)(k l:List Int)(z_:Int×(List Int)):St:=sT 94 [(0,.ptr 0 a [] 0),(1,dI b),(78,.dat [1] (.sl (.int .i64)) i),(79,dI j),(80,dI z_.1)] [.box (.pr (dD Ag c) (.pr (.mp 1) (.pr (.ref 2) (.pr (.ref 3) (.pr (.ref 6) (.pr (.ref 5) .u)))))),.map .deep (.int .i64) (.sl (.int .i64)) d none,.row 3 .deep (.int .i64) g,.row 3 .deep (.int .i64) z_.2,.dead,.row 2 .deep (.int .i64) k,.row 2 .deep (.int .i64) l]
def Ada(a b:Int)(c:Ag.V)(d:List (Int×(List Int)))(g i:List Int)(j:Int)(k l:List Int):(List Int)→Ex×St:=fun n=>((.exit 4),sT 94 [(0,.ptr 0 a [] 0),(1,dI b)] [.box (.pr (dD Ag c) (.pr (.mp 1) (.pr (.ref 2) (.pr (.ref 3) (.pr (.ref 6) (.pr (.ref 5) .u)))))),.map .deep (.int .i64) (.sl (.int .i64)) d none,.row 3 .deep (.int .i64) g,.row 3 .deep (.int .i64) n,.dead,.row 2 .deep (.int .i64) k,.row 2 .deep (.int .i64) l])
def DO(a b:Int)(c:Ag.V)(d:List (Int×(List Int)))(g i:List Int)(j:Int)(k l:List Int)(o:Int)(q:List Int):Option ((Int×(List Int))⊕(List Int)) :=
 bif decide (o<j) then
 if(0:Int)≤o∧o<(i.length:Int) then
 if(0:Int)≤(i.getD o.toNat (Ty.zero (.int .i64)))∧(i.getD o.toNat (Ty.zero (.int .i64)))<(q.length:Int) then
 if(0:Int)≤(i.getD o.toNat (Ty.zero (.int .i64)))∧(i.getD o.toNat (Ty.zero (.int .i64)))<(q.length:Int) then
 some (.inl ((wI (o+1)),(q.set (i.getD o.toNat (Ty.zero (.int .i64))).toNat (wI ((q.getD (i.getD o.toNat (Ty.zero (.int .i64))).toNat (Ty.zero (.int .i64)))-1)))))
 else none
 else none
 else none
 else
 some (.inr q)
def Cd(a b:Int)(c:Ag.V)(d:List (Int×(List Int)))(g i:List Int)(j:Int)(k l:List Int)(z_:Int×(List Int)):=DO a b c d g i j k l z_.1 z_.2
def EW(a b:Int)(c:Ag.V)(d:List (Int×(List Int)))(g i:List Int)(j:Int)(k l:List Int)(o:Int)(q:List Int):=fix (Cd a b c d g i j k l) (o,q)
theorem Aec(a b:Int)(c:Ag.V)(d:List (Int×(List Int)))(g i:List Int)(j:Int)(k l:List Int):LpOk E107 6 10 (sub (code Tryz.f199) [0,0]) [1,0,1,1,1,1,1,0] (AcH a b c d g i j k l) (Cd a b c d g i j k l) (Ada a b c d g i j k l):=by
 intro _
 simp only[Cd,DO,mC,mI,mN,mB,mE,mM]
 kernel_rfl
def Acs(a b:Int)(c:Ag.V)(d:List (Int×(List Int)))(s:List Int)(t:Int)(u:List Int)(v:Int)(w x:List Int)(z_:Int×(List Int)):St:=sT 94 [(0,.ptr 0 a [] 0),(1,dI b),(4,dI t),(56,.dat [1] (.sl (.int .i64)) u),(57,dI v),(58,dI z_.1)] [.box (.pr (dD Ag c) (.pr (.mp 1) (.pr (.ref 2) (.pr (.ref 3) (.pr (.ref 6) (.pr (.ref 5) .u)))))),.map .deep (.int .i64) (.sl (.int .i64)) d none,.row 3 .deep (.int .i64) z_.2,.row 3 .deep (.int .i64) s,.dead,.row 2 .deep (.int .i64) w,.row 2 .deep (.int .i64) x]
def AcM(a b:Int)(c:Ag.V)(d:List (Int×(List Int)))(s:List Int)(t:Int)(u:List Int)(v:Int)(w x:List Int):(List Int)→Ex×St:=fun g=>((.exit 2),sT 94 [(0,.ptr 0 a [] 0),(1,dI b),(4,dI t)] [.box (.pr (dD Ag c) (.pr (.mp 1) (.pr (.ref 2) (.pr (.ref 3) (.pr (.ref 6) (.pr (.ref 5) .u)))))),.map .deep (.int .i64) (.sl (.int .i64)) d none,.row 3 .deep (.int .i64) g,.row 3 .deep (.int .i64) s,.dead,.row 2 .deep (.int .i64) w,.row 2 .deep (.int .i64) x])
def DR(a b:Int)(c:Ag.V)(d:List (Int×(List Int)))(s:List Int)(t:Int)(u:List Int)(v:Int)(w x:List Int)(y:Int)(a1:List Int):Option ((Int×(List Int))⊕(List Int)) :=
 bif decide (y<v) then
 if(0:Int)≤y∧y<(u.length:Int) then
 if(0:Int)≤(u.getD y.toNat (Ty.zero (.int .i64)))∧(u.getD y.toNat (Ty.zero (.int .i64)))<(a1.length:Int) then
 if(0:Int)≤(u.getD y.toNat (Ty.zero (.int .i64)))∧(u.getD y.toNat (Ty.zero (.int .i64)))<(a1.length:Int) then
 some (.inl ((wI (y+1)),(a1.set (u.getD y.toNat (Ty.zero (.int .i64))).toNat (wI ((a1.getD (u.getD y.toNat (Ty.zero (.int .i64))).toNat (Ty.zero (.int .i64)))-1)))))
 else none
 else none
 else none
 else
 some (.inr a1)
def Ce(a b:Int)(c:Ag.V)(d:List (Int×(List Int)))(s:List Int)(t:Int)(u:List Int)(v:Int)(w x:List Int)(z_:Int×(List Int)):=DR a b c d s t u v w x z_.1 z_.2
def EX(a b:Int)(c:Ag.V)(d:List (Int×(List Int)))(s:List Int)(t:Int)(u:List Int)(v:Int)(w x:List Int)(y:Int)(a1:List Int):=fix (Ce a b c d s t u v w x) (y,a1)
theorem Ady(a b:Int)(c:Ag.V)(d:List (Int×(List Int)))(s:List Int)(t:Int)(u:List Int)(v:Int)(w x:List Int):LpOk E107 6 5 (sub (code Tryz.f199) [0,0]) [1,0,1,1,1,0,1,0] (Acs a b c d s t u v w x) (Ce a b c d s t u v w x) (AcM a b c d s t u v w x):=by
 intro _
 simp only[Ce,DR,mC,mI,mN,mB,mE,mM]
 kernel_rfl
def Zk(a b:Int)(c:Ag.V)(d:List (Int×(List Int)))(b1 s c1 d1:List Int)(e1:Int):St:=sT 94 [(0,.ptr 0 a [] 0),(1,dI b),(4,dI e1)] [.box (.pr (dD Ag c) (.pr (.mp 1) (.pr (.ref 2) (.pr (.ref 3) (.pr (.ref 6) (.pr (.ref 5) .u)))))),.map .deep (.int .i64) (.sl (.int .i64)) d none,.row 3 .deep (.int .i64) b1,.row 3 .deep (.int .i64) s,.dead,.row 2 .deep (.int .i64) c1,.row 2 .deep (.int .i64) d1]
def Cy(a b:Int)(c:Ag.V)(d:List (Int×(List Int)))(b1 s c1 d1:List Int)(e1:Int):Unit→St:=fun g1=>sT 94 [(0,.ptr 0 a [] 0),(1,dI b),(4,dI e1)] [.box (.pr (dD Ag c) (.pr (.mp 1) (.pr (.ref 2) (.pr (.ref 3) (.pr (.ref 6) (.pr (.ref 5) .u)))))),.map .deep (.int .i64) (.sl (.int .i64)) d none,.row 3 .deep (.int .i64) b1,.row 3 .deep (.int .i64) s,.dead,.row 2 .deep (.int .i64) c1,.row 2 .deep (.int .i64) (d1.take (wI ((d1.length:Int)-1)).toNat)]
def Di(a b:Int)(c:Ag.V)(d:List (Int×(List Int)))(b1 s c1 d1:List Int)(e1:Int):Option Unit :=
 if(0:Int)≤(wI ((d1.length:Int)-1))∧(wI ((d1.length:Int)-1))≤(d1.length:Int) then
 some ()
 else none
theorem AcK(a b:Int)(c:Ag.V)(d:List (Int×(List Int)))(b1 s c1 d1:List Int)(e1:Int):DrOk E107 6 2 (sub (code Tryz.f199) [0,0]) [1,0,1,0] (Zk a b c d b1 s c1 d1 e1) (Di a b c d b1 s c1 d1 e1) (Cy a b c d b1 s c1 d1 e1):=by
 unfold DrOk
 have h:drS E107 6 2 (sub (code Tryz.f199) [0,0]) [1,0,1,0] (Zk a b c d b1 s c1 d1 e1) =
 if(0:Int)≤(wI ((d1.length:Int)-1))∧(wI ((d1.length:Int)-1))≤(d1.length:Int) then
 ((((if(0:Int)≤(wI ((d1.length:Int)-1))∧(wI ((d1.length:Int)-1))≤(d1.length:Int) then
 eqSt (Cy a b c d b1 s c1 d1 e1 ()) (Cy a b c d b1 s c1 d1 e1 ())
 else none).bind fun _ =>
 (if(0:Int)≤(wI ((d1.length:Int)-1))∧(wI ((d1.length:Int)-1))≤(d1.length:Int) then
 eqSt (Cy a b c d b1 s c1 d1 e1 ()) (Cy a b c d b1 s c1 d1 e1 ())
 else none).bind fun _ =>
 (if(0:Int)≤(wI ((d1.length:Int)-1))∧(wI ((d1.length:Int)-1))≤(d1.length:Int) then
 eqSt (Cy a b c d b1 s c1 d1 e1 ()) (Cy a b c d b1 s c1 d1 e1 ())
 else none).bind fun _ =>
 (if(0:Int)≤(wI ((d1.length:Int)-1))∧(wI ((d1.length:Int)-1))≤(d1.length:Int) then
 eqSt (Cy a b c d b1 s c1 d1 e1 ()) (Cy a b c d b1 s c1 d1 e1 ())
 else none).bind fun _ =>
 if(0:Int)≤(wI ((d1.length:Int)-1))∧(wI ((d1.length:Int)-1))≤(d1.length:Int) then
 eqSt (Cy a b c d b1 s c1 d1 e1 ()) (Cy a b c d b1 s c1 d1 e1 ())
 else none).bind fun _ =>
 ((if(0:Int)≤(wI ((d1.length:Int)-1))∧(wI ((d1.length:Int)-1))≤(d1.length:Int) then
 eqSt (Cy a b c d b1 s c1 d1 e1 ()) (Cy a b c d b1 s c1 d1 e1 ())
 else none).bind fun _ =>
 (if(0:Int)≤(wI ((d1.length:Int)-1))∧(wI ((d1.length:Int)-1))≤(d1.length:Int) then
 eqSt (Cy a b c d b1 s c1 d1 e1 ()) (Cy a b c d b1 s c1 d1 e1 ())
 else none).bind fun _ =>
 (if(0:Int)≤(wI ((d1.length:Int)-1))∧(wI ((d1.length:Int)-1))≤(d1.length:Int) then
 eqSt (Cy a b c d b1 s c1 d1 e1 ()) (Cy a b c d b1 s c1 d1 e1 ())
 else none).bind fun _ =>
 if(0:Int)≤(wI ((d1.length:Int)-1))∧(wI ((d1.length:Int)-1))≤(d1.length:Int) then
 eqSt (Cy a b c d b1 s c1 d1 e1 ()) (Cy a b c d b1 s c1 d1 e1 ())
 else none).bind fun _ =>
 ((if(0:Int)≤(wI ((d1.length:Int)-1))∧(wI ((d1.length:Int)-1))≤(d1.length:Int) then
 eqSt (Cy a b c d b1 s c1 d1 e1 ()) (Cy a b c d b1 s c1 d1 e1 ())
 else none).bind fun _ =>
 (if(0:Int)≤(wI ((d1.length:Int)-1))∧(wI ((d1.length:Int)-1))≤(d1.length:Int) then
 eqSt (Cy a b c d b1 s c1 d1 e1 ()) (Cy a b c d b1 s c1 d1 e1 ())
 else none).bind fun _ =>
 if(0:Int)≤(wI ((d1.length:Int)-1))∧(wI ((d1.length:Int)-1))≤(d1.length:Int) then
 eqSt (Cy a b c d b1 s c1 d1 e1 ()) (Cy a b c d b1 s c1 d1 e1 ())
 else none).bind fun _ =>
 ((if(0:Int)≤(wI ((d1.length:Int)-1))∧(wI ((d1.length:Int)-1))≤(d1.length:Int) then
 eqSt (Cy a b c d b1 s c1 d1 e1 ()) (Cy a b c d b1 s c1 d1 e1 ())
 else none).bind fun _ =>
 if(0:Int)≤(wI ((d1.length:Int)-1))∧(wI ((d1.length:Int)-1))≤(d1.length:Int) then
 eqSt (Cy a b c d b1 s c1 d1 e1 ()) (Cy a b c d b1 s c1 d1 e1 ())
 else none).bind fun _ =>
 if(0:Int)≤(wI ((d1.length:Int)-1))∧(wI ((d1.length:Int)-1))≤(d1.length:Int) then
 eqSt (Cy a b c d b1 s c1 d1 e1 ()) (Cy a b c d b1 s c1 d1 e1 ())
 else none).bind fun _=>some (Cy a b c d b1 s c1 d1 e1 ()))
 else none:=by kernel_rfl
 rw[h]
 unfold Di
 simp only[mC,mI,mN,mB,mE,mM,mS,mO]
 clear h
 by_cases hc0:(0:Int)≤(wI ((d1.length:Int)-1))∧(wI ((d1.length:Int)-1))≤(d1.length:Int)
 ·rw[if_pos hc0,if_pos hc0]
  simp only[if_pos hc0,Option.bind_some,LC]
 ·simp only[if_neg hc0]
def DL(a b:Int)(c:Ag.V)(d:List (Int×(List Int)))(b1 s c1 d1:List Int):Option (((List Int)×(List Int)×(List Int)×(List Int))⊕((List Int)×(List Int)×(List Int)×(List Int))) :=
 bif decide ((d1.length:Int)>b) then
 if(0:Int)≤(wI ((d1.length:Int)-1))∧(wI ((d1.length:Int)-1))<(d1.length:Int) then
 (Di a b c d b1 s c1 d1 (d1.getD (wI ((d1.length:Int)-1)).toNat (Ty.zero (.int .i64)))).bind fun g1 =>
 if(0:Int)≤(if(wI (0-(d1.getD (wI ((d1.length:Int)-1)).toNat (Ty.zero (.int .i64)))))>(d1.getD (wI ((d1.length:Int)-1)).toNat (Ty.zero (.int .i64))) then(wI (0-(d1.getD (wI ((d1.length:Int)-1)).toNat (Ty.zero (.int .i64))))) else(d1.getD (wI ((d1.length:Int)-1)).toNat (Ty.zero (.int .i64))))∧(if(wI (0-(d1.getD (wI ((d1.length:Int)-1)).toNat (Ty.zero (.int .i64)))))>(d1.getD (wI ((d1.length:Int)-1)).toNat (Ty.zero (.int .i64))) then(wI (0-(d1.getD (wI ((d1.length:Int)-1)).toNat (Ty.zero (.int .i64))))) else(d1.getD (wI ((d1.length:Int)-1)).toNat (Ty.zero (.int .i64))))<(c1.length:Int) then
 (EX a b c d s (d1.getD (wI ((d1.length:Int)-1)).toNat (Ty.zero (.int .i64))) (mget (.int .i64) (.sl (.int .i64)) d (d1.getD (wI ((d1.length:Int)-1)).toNat (Ty.zero (.int .i64)))) ((mget (.int .i64) (.sl (.int .i64)) d (d1.getD (wI ((d1.length:Int)-1)).toNat (Ty.zero (.int .i64)))).length:Int) (c1.set (if(wI (0-(d1.getD (wI ((d1.length:Int)-1)).toNat (Ty.zero (.int .i64)))))>(d1.getD (wI ((d1.length:Int)-1)).toNat (Ty.zero (.int .i64))) then(wI (0-(d1.getD (wI ((d1.length:Int)-1)).toNat (Ty.zero (.int .i64))))) else(d1.getD (wI ((d1.length:Int)-1)).toNat (Ty.zero (.int .i64)))).toNat 0) (d1.take (wI ((d1.length:Int)-1)).toNat) 0 b1).bind fun g =>
 (EW a b c d g (mget (.int .i64) (.sl (.int .i64)) d (wI (0-(d1.getD (wI ((d1.length:Int)-1)).toNat (Ty.zero (.int .i64)))))) ((mget (.int .i64) (.sl (.int .i64)) d (wI (0-(d1.getD (wI ((d1.length:Int)-1)).toNat (Ty.zero (.int .i64)))))).length:Int) (c1.set (if(wI (0-(d1.getD (wI ((d1.length:Int)-1)).toNat (Ty.zero (.int .i64)))))>(d1.getD (wI ((d1.length:Int)-1)).toNat (Ty.zero (.int .i64))) then(wI (0-(d1.getD (wI ((d1.length:Int)-1)).toNat (Ty.zero (.int .i64))))) else(d1.getD (wI ((d1.length:Int)-1)).toNat (Ty.zero (.int .i64)))).toNat 0) (d1.take (wI ((d1.length:Int)-1)).toNat) 0 s).bind fun n =>
 some (.inl (g,n,(c1.set (if(wI (0-(d1.getD (wI ((d1.length:Int)-1)).toNat (Ty.zero (.int .i64)))))>(d1.getD (wI ((d1.length:Int)-1)).toNat (Ty.zero (.int .i64))) then(wI (0-(d1.getD (wI ((d1.length:Int)-1)).toNat (Ty.zero (.int .i64))))) else(d1.getD (wI ((d1.length:Int)-1)).toNat (Ty.zero (.int .i64)))).toNat 0),(d1.take (wI ((d1.length:Int)-1)).toNat)))
 else none
 else none
 else
 some (.inr (b1,s,c1,d1))
def AZ(a b:Int)(c:Ag.V)(d:List (Int×(List Int)))(z_:(List Int)×(List Int)×(List Int)×(List Int)):=DL a b c d z_.1 z_.2.1 z_.2.2.1 z_.2.2.2
def HH(a b:Int)(c:Ag.V)(d:List (Int×(List Int)))(b1 s c1 d1:List Int):=fix (AZ a b c d) (b1,s,c1,d1)
theorem Adx(a b:Int)(c:Ag.V)(d:List (Int×(List Int))):LpOk E107 6 0 (code Tryz.f199) [0] (AcA a b c d) (AZ a b c d) (Abu a b c d):=by
 intro _
 simp only[AZ,DL,mC,mI,mN,mB,mE,mM]
 simp(disch:=refine sI ?_<;>(repeat' refine sA ?_ ?_)<;>intro _<;>kernel_rfl) only[UM (AcK _ _ _ _ _ _ _ _ _) (K:=stepK 6 (E107.hd 0) (E107.ot 0)),EX,Au (Ady _ _ _ _ _ _ _ _ _ _) (K:=stepK 6 (E107.hd 0) (E107.ot 0)),EW,Au (Aec _ _ _ _ _ _ _ _ _) (K:=stepK 6 (E107.hd 0) (E107.ot 0))]
 kernel_rfl
def DZ(a b:Int)(c:Ag.V)(d:List (Int×(List Int)))(i1 j1 k1 l1:List Int):Option (Ag.V×(List (Int×(List Int)))×(List Int)×(List Int)×(List Int)×(List Int)) :=
 (HH a b c d i1 j1 l1 k1).bind fun e =>
 some (c,d,e.1,e.2.1,e.2.2.1,e.2.2.2)
theorem U107(R:Type)(a b:Int)(c:Ag.V)(d:List (Int×(List Int)))(i1 j1 k1 l1:List Int)(K:AV→List Blk→Option R):runF E107 Tryz.f199 R [.ptr 0 a [] 0,dI b] [.box (.pr (dD Ag c) (.pr (.mp 1) (.pr (.ref 2) (.pr (.ref 3) (.pr (.ref 4) (.pr (.ref 5) .u)))))),.map .deep (.int .i64) (.sl (.int .i64)) d none,.row 3 .deep (.int .i64) i1,.row 3 .deep (.int .i64) j1,.row 2 .deep (.int .i64) k1,.row 2 .deep (.int .i64) l1] K=(DZ a b c d i1 j1 k1 l1).bind fun r=>K .nil [.box (.pr (dD Ag r.1) (.pr (.mp 1) (.pr (.ref 2) (.pr (.ref 3) (.pr (.ref 6) (.pr (.ref 5) .u)))))),.map .deep (.int .i64) (.sl (.int .i64)) r.2.1 none,.row 3 .deep (.int .i64) r.2.2.1,.row 3 .deep (.int .i64) r.2.2.2.1,.dead,.row 2 .deep (.int .i64) r.2.2.2.2.1,.row 2 .deep (.int .i64) r.2.2.2.2.2]:=by
 simp only[DZ,bC,bI,bN,bE,bA,bS,bO,bM]
 simp(disch:=refine sI ?_<;>(repeat' refine sA ?_ ?_)<;>intro _<;>kernel_rfl) only[HH,Au (Adx _ _ _ _) (K:=finK E107 Tryz.f199 6 R K)]
 kernel_rfl
def c199:Va.Callee:=brC [.raw,.d (.int .i64)] [⟨[.ptr 0 [] 0,.dat [] (.int .i64)],[.box (.pr (.dat [] Ag) (.pr (.k (.mp 1)) (.pr (.k (.ref 2)) (.pr (.k (.ref 3)) (.pr (.k (.ref 4)) (.pr (.k (.ref 5)) (.k .u))))))),.map .deep (.int .i64) (.sl (.int .i64)),.row 3 .deep (.int .i64),.row 3 .deep (.int .i64),.row 2 .deep (.int .i64),.row 2 .deep (.int .i64)],(Ag.V×(List (Int×(List Int)))×(List Int)×(List Int)×(List Int)×(List Int)),fun p=>DZ p.1.1 p.1.2.1 p.2.1.1 p.2.2.1 p.2.2.2.1 p.2.2.2.2.1 p.2.2.2.2.2.1 p.2.2.2.2.2.2.1,fun r=>(.nil,[.box (.pr (dD Ag r.1) (.pr (.mp 1) (.pr (.ref 2) (.pr (.ref 3) (.pr (.ref 6) (.pr (.ref 5) .u)))))),.map .deep (.int .i64) (.sl (.int .i64)) r.2.1 none,.row 3 .deep (.int .i64) r.2.2.1,.row 3 .deep (.int .i64) r.2.2.2.1,.dead,.row 2 .deep (.int .i64) r.2.2.2.2.1,.row 2 .deep (.int .i64) r.2.2.2.2.2])⟩]
theorem Xl:SoundC Tryz.prog 199 c199:=Ap (fn:=Tryz.f199) (by kernel_rfl) (by kernel_rfl) (by kernel_rfl) ⟨⟨E107,⟨⟨tabok,An trivial⟩,mixed⟩,fun p R K=>U107 R p.1.1 p.1.2.1 p.2.1.1 p.2.2.1 p.2.2.2.1 p.2.2.2.2.1 p.2.2.2.2.2.1 p.2.2.2.2.2.2.1 K⟩,trivial⟩
abbrev R108:Type:=Int→Int→Int→Int→Ag.V→(List (Int×(List Int)))→(List Int)→(List Int)→(List Int)→(List Int)→Option (Int×Int×Int×Int×Ag.V×(List (Int×(List Int)))×(List Int)×(List Int)×(List Int)×(List Int))
def c137r(rc:R108):Va.Callee:=brC [.raw] [⟨[.ptr 0 [] 0],[.box (.pr (.ptr 1 [] 0) (.pr (.dat [] (.int .i64)) (.pr (.dat [] (.int .i64)) (.k .u)))),.box (.pr (.dat [] Ag) (.pr (.k (.mp 2)) (.pr (.k (.ref 3)) (.pr (.k (.ref 4)) (.pr (.k (.ref 5)) (.pr (.k (.ref 6)) (.k .u))))))),.map .deep (.int .i64) (.sl (.int .i64)),.row 3 .deep (.int .i64),.row 3 .deep (.int .i64),.row 2 .deep (.int .i64),.row 2 .deep (.int .i64)],(Int×Int×Int×Int×Ag.V×(List (Int×(List Int)))×(List Int)×(List Int)×(List Int)×(List Int)),fun p=>rc p.1.1 p.2.1.1 p.2.1.2.1 p.2.1.2.2.1 p.2.2.1.1 p.2.2.2.1 p.2.2.2.2.1 p.2.2.2.2.2.1 p.2.2.2.2.2.2.1 p.2.2.2.2.2.2.2.1,fun r=>(dI r.1,[.box (.pr (.ptr 1 r.2.1 [] 0) (.pr (dI r.2.2.1) (.pr (dI r.2.2.2.1) .u))),.box (.pr (dD Ag r.2.2.2.2.1) (.pr (.mp 2) (.pr (.ref 3) (.pr (.ref 4) (.pr (.ref 7) (.pr (.ref 6) .u)))))),.map .deep (.int .i64) (.sl (.int .i64)) r.2.2.2.2.2.1 none,.row 3 .deep (.int .i64) r.2.2.2.2.2.2.1,.row 3 .deep (.int .i64) r.2.2.2.2.2.2.2.1,.dead,.row 2 .deep (.int .i64) r.2.2.2.2.2.2.2.2.1,.row 2 .deep (.int .i64) r.2.2.2.2.2.2.2.2.2])⟩]
abbrev E108(rc:R108):Env:=⟨tab,lookH [(137,c137r rc),(196,c196),(197,c197),(198,c198),(199,c199)],{deep:=true,heads:=[(11,{live:=[0,4,53,54,55],frz:=[(53,false,(.sl (.int .i64)))]})],outs:=[(11,{live:=[2]})],cpre:=[(66,[(0,[[0]],.row [4] 2 (.int .i64) true)])],fin:=[.mv 1 [4],.dead 5]}⟩
def AbJ(a b:Int)(c:List Int)(z_:Int×Int×Int×Int×Ag.V×(List (Int×(List Int)))×(List Int)×(List Int)×(List Int)×(List Int)):St:=sT 77 [(0,.ptr 0 a [] 0),(4,dI b),(53,dD (.sl (.int .i64)) c),(54,dI 2),(55,dI z_.1)] [.box (.pr (.ptr 1 z_.2.1 [] 0) (.pr (dI z_.2.2.1) (.pr (dI z_.2.2.2.1) .u))),.box (.pr (dD Ag z_.2.2.2.2.1) (.pr (.mp 2) (.pr (.ref 3) (.pr (.ref 4) (.pr (.ref 7) (.pr (.ref 6) .u)))))),.map .deep (.int .i64) (.sl (.int .i64)) z_.2.2.2.2.2.1 none,.row 3 .deep (.int .i64) z_.2.2.2.2.2.2.1,.row 3 .deep (.int .i64) z_.2.2.2.2.2.2.2.1,.dead,.row 2 .deep (.int .i64) z_.2.2.2.2.2.2.2.2.1,.row 2 .deep (.int .i64) z_.2.2.2.2.2.2.2.2.2]
def AcG(a b:Int)(c:List Int):((Int×Int×Int×Int×Ag.V×(List (Int×(List Int)))×(List Int)×(List Int)×(List Int)×(List Int))⊕(Int×Int×Int×Ag.V×(List (Int×(List Int)))×(List Int)×(List Int)×(List Int)×(List Int)))→Ex×St:=Sum.elim (fun d=>(.ret,sT 77 [(2,dI d.1)] [.box (.pr (.ptr 1 d.2.1 [] 0) (.pr (dI d.2.2.1) (.pr (dI d.2.2.2.1) .u))),.box (.pr (dD Ag d.2.2.2.2.1) (.pr (.mp 2) (.pr (.ref 3) (.pr (.ref 4) (.pr (.ref 7) (.pr (.ref 6) .u)))))),.map .deep (.int .i64) (.sl (.int .i64)) d.2.2.2.2.2.1 none,.row 3 .deep (.int .i64) d.2.2.2.2.2.2.1,.row 3 .deep (.int .i64) d.2.2.2.2.2.2.2.1,.dead,.row 2 .deep (.int .i64) d.2.2.2.2.2.2.2.2.1,.row 2 .deep (.int .i64) d.2.2.2.2.2.2.2.2.2])) (fun e=>((.exit 0),sT 77 [] [.box (.pr (.ptr 1 e.1 [] 0) (.pr (dI e.2.1) (.pr (dI e.2.2.1) .u))),.box (.pr (dD Ag e.2.2.2.1) (.pr (.mp 2) (.pr (.ref 3) (.pr (.ref 4) (.pr (.ref 7) (.pr (.ref 6) .u)))))),.map .deep (.int .i64) (.sl (.int .i64)) e.2.2.2.2.1 none,.row 3 .deep (.int .i64) e.2.2.2.2.2.1,.row 3 .deep (.int .i64) e.2.2.2.2.2.2.1,.dead,.row 2 .deep (.int .i64) e.2.2.2.2.2.2.2.1,.row 2 .deep (.int .i64) e.2.2.2.2.2.2.2.2]))
def Cl(rc:R108)(a b:Int)(c:List Int)(g i j k:Int)(l:Ag.V)(n:List (Int×(List Int)))(o q s t:List Int):Option ((Int×Int×Int×Int×Ag.V×(List (Int×(List Int)))×(List Int)×(List Int)×(List Int)×(List Int))⊕((Int×Int×Int×Int×Ag.V×(List (Int×(List Int)))×(List Int)×(List Int)×(List Int)×(List Int))⊕(Int×Int×Int×Ag.V×(List (Int×(List Int)))×(List Int)×(List Int)×(List Int)×(List Int)))) :=
 bif decide (g<2) then
 if(0:Int)≤g∧g<(c.length:Int) then
 (Cb i (c.getD g.toNat (Ty.zero (.int .i64))) l n o q t s).bind fun u =>
 (rc a i j k u.1 u.2.1 u.2.2.1 u.2.2.2.1 u.2.2.2.2.2 u.2.2.2.2.1).bind fun v =>
 bif v.1 !=2 then
 some (.inr (.inl (v.1,v.2.1,v.2.2.1,v.2.2.2.1,v.2.2.2.2.1,v.2.2.2.2.2.1,v.2.2.2.2.2.2.1,v.2.2.2.2.2.2.2.1,v.2.2.2.2.2.2.2.2.1,v.2.2.2.2.2.2.2.2.2)))
 else
 (DZ v.2.1 b v.2.2.2.2.1 v.2.2.2.2.2.1 v.2.2.2.2.2.2.1 v.2.2.2.2.2.2.2.1 v.2.2.2.2.2.2.2.2.2 v.2.2.2.2.2.2.2.2.1).bind fun w =>
 some (.inl ((wI (g+1)),v.2.1,v.2.2.1,v.2.2.2.1,w.1,w.2.1,w.2.2.1,w.2.2.2.1,w.2.2.2.2.1,w.2.2.2.2.2))
 else none
 else
 some (.inr (.inr (i,j,k,l,n,o,q,s,t)))
def AI(rc:R108)(a b:Int)(c:List Int)(z_:Int×Int×Int×Int×Ag.V×(List (Int×(List Int)))×(List Int)×(List Int)×(List Int)×(List Int)):=Cl rc a b c z_.1 z_.2.1 z_.2.2.1 z_.2.2.2.1 z_.2.2.2.2.1 z_.2.2.2.2.2.1 z_.2.2.2.2.2.2.1 z_.2.2.2.2.2.2.2.1 z_.2.2.2.2.2.2.2.2.1 z_.2.2.2.2.2.2.2.2.2
def FP(rc:R108)(a b:Int)(c:List Int)(g i j k:Int)(l:Ag.V)(n:List (Int×(List Int)))(o q s t:List Int):=fix (AI rc a b c) (g,i,j,k,l,n,o,q,s,t)
theorem AdX(rc:R108)(a b:Int)(c:List Int):LpOk (E108 rc) 7 11 (code Tryz.f137) [1,1,1,1,1,1,1,0,1,0] (AbJ a b c) (AI rc a b c) (AcG a b c):=by
 intro _
 simp only[AI,Cl,mC,mI,mN,mB,mE,mM]
 kernel_rfl
def Ci(rc:R108)(a x y a1:Int)(b1:Ag.V)(c1:List (Int×(List Int)))(d1 e1 g1 i1:List Int):Option (Int×Int×Int×Int×Ag.V×(List (Int×(List Int)))×(List Int)×(List Int)×(List Int)×(List Int)) :=
 bif y==a1 then
 some (3,x,y,a1,b1,c1,d1,e1,i1,g1)
 else
 (DY x b1 c1 d1 e1 g1 i1).bind fun j1 =>
 bif !j1.1 then
 some (2,x,(wI (y+1)),a1,j1.2.1,j1.2.2.1,j1.2.2.2.1,j1.2.2.2.2.1,j1.2.2.2.2.2.1,j1.2.2.2.2.2.2)
 else
 if(0:Int)≤(1:Int)∧(1:Int)≤(j1.2.2.2.2.2.1.length:Int)∧(j1.2.2.2.2.2.1.length:Int)≤(j1.2.2.2.2.2.1.length:Int) then
 (BV ((j1.2.2.2.2.2.1.take (j1.2.2.2.2.2.1.length:Int).toNat).drop 1) 0).bind fun k1 =>
 bif (wI (k1+1))==0 then
 some (1,x,(wI (y+1)),a1,j1.2.1,j1.2.2.1,j1.2.2.2.1,j1.2.2.2.2.1,j1.2.2.2.2.2.1,j1.2.2.2.2.2.2)
 else
 (FP rc a (j1.2.2.2.2.2.2.length:Int) ([(wI (0-(wI (k1+1)))),(wI (k1+1))]:List Int) 0 x (wI (y+1)) a1 j1.2.1 j1.2.2.1 j1.2.2.2.1 j1.2.2.2.2.1 j1.2.2.2.2.2.1 j1.2.2.2.2.2.2).bind (Sum.elim (fun d =>
 some (d.1,d.2.1,d.2.2.1,d.2.2.2.1,d.2.2.2.2.1,d.2.2.2.2.2.1,d.2.2.2.2.2.2.1,d.2.2.2.2.2.2.2.1,d.2.2.2.2.2.2.2.2.1,d.2.2.2.2.2.2.2.2.2)) (fun e =>
 some (2,e.1,e.2.1,e.2.2.1,e.2.2.2.1,e.2.2.2.2.1,e.2.2.2.2.2.1,e.2.2.2.2.2.2.1,e.2.2.2.2.2.2.2.1,e.2.2.2.2.2.2.2.2)))
 else none
theorem U108(R:Type)(rc:R108)(a x y a1:Int)(b1:Ag.V)(c1:List (Int×(List Int)))(d1 e1 g1 i1:List Int)(K:AV→List Blk→Option R):runF (E108 rc) Tryz.f137 R [.ptr 0 a [] 0] [.box (.pr (.ptr 1 x [] 0) (.pr (dI y) (.pr (dI a1) .u))),.box (.pr (dD Ag b1) (.pr (.mp 2) (.pr (.ref 3) (.pr (.ref 4) (.pr (.ref 5) (.pr (.ref 6) .u)))))),.map .deep (.int .i64) (.sl (.int .i64)) c1 none,.row 3 .deep (.int .i64) d1,.row 3 .deep (.int .i64) e1,.row 2 .deep (.int .i64) g1,.row 2 .deep (.int .i64) i1] K=(Ci rc a x y a1 b1 c1 d1 e1 g1 i1).bind fun r=>K (dI r.1) [.box (.pr (.ptr 1 r.2.1 [] 0) (.pr (dI r.2.2.1) (.pr (dI r.2.2.2.1) .u))),.box (.pr (dD Ag r.2.2.2.2.1) (.pr (.mp 2) (.pr (.ref 3) (.pr (.ref 4) (.pr (.ref 7) (.pr (.ref 6) .u)))))),.map .deep (.int .i64) (.sl (.int .i64)) r.2.2.2.2.2.1 none,.row 3 .deep (.int .i64) r.2.2.2.2.2.2.1,.row 3 .deep (.int .i64) r.2.2.2.2.2.2.2.1,.dead,.row 2 .deep (.int .i64) r.2.2.2.2.2.2.2.2.1,.row 2 .deep (.int .i64) r.2.2.2.2.2.2.2.2.2]:=by
 simp only[Ci,bC,bI,bN,bE,bA,bS,bO,bM]
 simp(disch:=refine sI ?_<;>(repeat' refine sA ?_ ?_)<;>intro _<;>kernel_rfl) only[FP,Au (AdX _ _ _ _) (K:=finK (E108 rc) Tryz.f137 7 R K)]
 kernel_rfl
def AE:Nat→R108
 | 0=>fun _ _ _ _ _ _ _ _ _ _=>none
 | n+1=>Ci (AE n)
def Is:R108:=AE 1000000
def c137:Va.Callee:=c137r Is
theorem SM:∀n,SoundC Tryz.prog 137 (c137r (AE n))
 | 0=>UY ⟨fun _=>rfl,trivial⟩
 | n+1=>Ap (fn:=Tryz.f137) (by kernel_rfl) (by kernel_rfl) (by kernel_rfl) ⟨⟨(E108 (AE n)),⟨⟨tabok,An ⟨SM n,Yu,Xe,S1,Xl,trivial⟩⟩,mixed⟩,fun p R K=>U108 R (AE n) p.1.1 p.2.1.1 p.2.1.2.1 p.2.1.2.2.1 p.2.2.1.1 p.2.2.2.1 p.2.2.2.2.1 p.2.2.2.2.2.1 p.2.2.2.2.2.2.1 p.2.2.2.2.2.2.2.1 K⟩,trivial⟩
theorem Yo:SoundC Tryz.prog 137 c137:=SM _
abbrev E109:Env:=⟨tab,lookH [(136,c136),(137,c137)],{deep:=true,heads:=[(9,{live:=[7,8,26,27]})],outs:=[(9,{live:=[7,8]})],cpre:=[(14,[(0,[[0]],.row [4] 2 (.int .i64) true)])],res:=[(0,.row [] 4 .bool true)]}⟩
def Adz(a b c d:Int)(e:Ag.V)(g:List (Int×(List Int)))(i j k l:List Int)(z_:Int×(List Bool)):St:=sT 47 [(7,.ptr 0 0 [] 0),(8,.ref 1),(26,dI a),(27,dI z_.1)] [.box (.pr (.ptr 2 b [] 0) (.pr (dI c) (.pr (dI d) .u))),.row 4 .deep .bool z_.2,.box (.pr (dD Ag e) (.pr (.mp 3) (.pr (.ref 4) (.pr (.ref 5) (.pr (.ref 6) (.pr (.ref 7) .u)))))),.map .deep (.int .i64) (.sl (.int .i64)) g none,.row 3 .deep (.int .i64) i,.row 3 .deep (.int .i64) j,.row 2 .deep (.int .i64) k,.row 2 .deep (.int .i64) l]
def AcT(a b c d:Int)(e:Ag.V)(g:List (Int×(List Int)))(i j k l:List Int):(List Bool)→Ex×St:=fun n=>((.exit 1),sT 47 [(7,.ptr 0 0 [] 0),(8,.ref 1)] [.box (.pr (.ptr 2 b [] 0) (.pr (dI c) (.pr (dI d) .u))),.row 4 .deep .bool n,.box (.pr (dD Ag e) (.pr (.mp 3) (.pr (.ref 4) (.pr (.ref 5) (.pr (.ref 6) (.pr (.ref 7) .u)))))),.map .deep (.int .i64) (.sl (.int .i64)) g none,.row 3 .deep (.int .i64) i,.row 3 .deep (.int .i64) j,.row 2 .deep (.int .i64) k,.row 2 .deep (.int .i64) l])
def GL(a b c d:Int)(e:Ag.V)(g:List (Int×(List Int)))(i j k l:List Int)(o:Int)(q:List Bool):Option ((Int×(List Bool))⊕(List Bool)) :=
 bif decide (o<a) then
 if(0:Int)≤(wI (o+1))∧(wI (o+1))<(l.length:Int) then
 if(0:Int)≤o∧o<(q.length:Int) then
 some (.inl ((wI (o+1)),(q.set o.toNat (decide ((l.getD (wI (o+1)).toNat (Ty.zero (.int .i64)))>0)))))
 else none
 else none
 else
 some (.inr q)
def B9(a b c d:Int)(e:Ag.V)(g:List (Int×(List Int)))(i j k l:List Int)(z_:Int×(List Bool)):=GL a b c d e g i j k l z_.1 z_.2
def Jb(a b c d:Int)(e:Ag.V)(g:List (Int×(List Int)))(i j k l:List Int)(o:Int)(q:List Bool):=fix (B9 a b c d e g i j k l) (o,q)
theorem Aey(a b c d:Int)(e:Ag.V)(g:List (Int×(List Int)))(i j k l:List Int):LpOk E109 0 9 (code Tryz.f61) [1,1,1,1,0,1,0] (Adz a b c d e g i j k l) (B9 a b c d e g i j k l) (AcT a b c d e g i j k l):=by
 intro _
 simp only[B9,GL,mC,mI,mN,mB,mE,mM]
 kernel_rfl
def IR(s:Ag.V)(t:Int):Option (Int×Int×(List Bool)) :=
 (Gx s).bind fun u =>
 (Is 0 u.1 0 t u.2.1 u.2.2.1 u.2.2.2.1 u.2.2.2.2.1 ([]:List Int) u.2.2.2.2.2).bind fun v =>
 bif v.1==2 then
 some (v.2.2.1,2,([]:List Bool))
 else
 bif v.1==3 then
 some (t,3,([]:List Bool))
 else
 if Ty.row .bool=true∧(0:Int)≤s.1∧s.1≤s.1∧((1:Nat):Int)*s.1≤(281474976710656:Int)∧s.1≤(9223372036854775807:Int) then
 (Jb ((List.replicate s.1.toNat false).length:Int) v.2.1 v.2.2.1 v.2.2.2.1 v.2.2.2.2.1 v.2.2.2.2.2.1 v.2.2.2.2.2.2.1 v.2.2.2.2.2.2.2.1 v.2.2.2.2.2.2.2.2.2 v.2.2.2.2.2.2.2.2.1 0 (List.replicate s.1.toNat false)).bind fun n =>
 some (v.2.2.1,1,n)
 else none
theorem U109(R:Type)(s:Ag.V)(t:Int)(K:AV→List Blk→Option R):runF E109 Tryz.f61 R [dD Ag s,dI t] [] K=(IR s t).bind fun r=>K (.cons (.ref 0) (.cons (dI r.1) (.cons (dI r.2.1) .nil))) [.row 4 .deep .bool r.2.2]:=by
 simp only[IR,bC,bI,bN,bE,bA,bS,bO,bM]
 simp(disch:=refine sI ?_<;>(repeat' refine sA ?_ ?_)<;>intro _<;>kernel_rfl) only[Jb,Au (Aey _ _ _ _ _ _ _ _ _ _) (K:=finK E109 Tryz.f61 0 R K)]
 kernel_rfl
def c61:Va.Callee:=brC [.d Ag,.d (.int .i64)] [⟨[.dat [] Ag,.dat [] (.int .i64)],[],(Int×Int×(List Bool)),fun p=>IR p.1.1 p.1.2.1,fun r=>(.cons (.ref 0) (.cons (dI r.1) (.cons (dI r.2.1) .nil)),[.row 4 .deep .bool r.2.2])⟩]
theorem Aa2:SoundC Tryz.prog 61 c61:=Ap (fn:=Tryz.f61) (by kernel_rfl) (by kernel_rfl) (by kernel_rfl) ⟨⟨E109,⟨⟨tabok,An ⟨Xo,Yo,trivial⟩⟩,mixed⟩,fun p R K=>U109 R p.1.1 p.1.2.1 K⟩,trivial⟩
abbrev E110:Env:=⟨tab,lookH [],{deep:=true}⟩
def Ga(a b:Int)(c:List Int):Option (List Int) :=
 if(0:Int)≤(wI (Int.tdiv b 64))∧(wI (Int.tdiv b 64))<(c.length:Int) then
 if(Int.tmod b 64)<(0:Int) then none else
 if(0:Int)≤(wI (Int.tdiv b 64))∧(wI (Int.tdiv b 64))<(c.length:Int) then
 some (c.set (wI (Int.tdiv b 64)).toNat (orI .u64 (c.getD (wI (Int.tdiv b 64)).toNat (Ty.zero (.int .u64))) (shlI .u64 1 (Int.tmod b 64))))
 else none
 else none
theorem U110(R:Type)(a b:Int)(c:List Int)(K:AV→List Blk→Option R):runF E110 Tryz.f139 R [.pr (dI a) (.pr (.ref 0) .u),dI b] [.row 0 .deep (.int .u64) c] K=(Ga a b c).bind fun r=>K .nil [.row 0 .deep (.int .u64) r]:=by
 simp only[Ga,bC,bI,bN,bE,bA,bS,bO,bM]
 kernel_rfl
def c139:Va.Callee:=brC [.raw,.d (.int .i64)] [⟨[.pr (.dat [] (.int .i64)) (.pr (.k (.ref 0)) (.k .u)),.dat [] (.int .i64)],[.row 0 .deep (.int .u64)],(List Int),fun p=>Ga p.1.1.1 p.1.2.1 p.2.1,fun r=>(.nil,[.row 0 .deep (.int .u64) r])⟩]
theorem W0:SoundC Tryz.prog 139 c139:=Ap (fn:=Tryz.f139) (by kernel_rfl) (by kernel_rfl) (by kernel_rfl) ⟨⟨E110,⟨⟨tabok,An trivial⟩,mixed⟩,fun p R K=>U110 R p.1.1.1 p.1.2.1 p.2.1 K⟩,trivial⟩
abbrev E111:Env:=⟨tab,lookH [(113,c113),(131,c131),(138,c138),(139,c139)],{deep:=true,nest:=[(48,0)],heads:=[(5,{live:=[1,6,23,24,25]}),(9,{live:=[1,6,7,8,23,24,25,37,38]})],outs:=[(5,{live:=[6]}),(9,{live:=[1,6,8,23,24,25]})],joins:=[(2,{live:=[0,1,19]}),(13,{live:=[1,6,7,8,23,24,25,37,38]})],ents:=[(2,[0,1]),(13,[1,6,7,8,23,24,25,37,38])],res:=[(0,.row [] 83 Ah true)]}⟩
def Ado(a:List Aa.V)(b:Int)(z_:(List Bool)×Int×(List Ah.V)):St:=sT 58 [(1,dD (.sl .bool) z_.1),(6,.ref 0),(23,dD (.sl Aa) a),(24,dI b),(25,dI z_.2.1)] [.row 83 .deep Ah z_.2.2]
def AcE(a:List Aa.V)(b:Int):(List Ah.V)→Ex×St:=fun c=>((.exit 0),sT 58 [(6,.ref 0)] [.row 83 .deep Ah c])
def Acl(d:List Bool)(e:Int)(a:List Aa.V)(b g:Int)(i:Aa.V)(z_:Int×(List Ah.V)):St:=sT 58 [(1,dD (.sl .bool) d),(6,.ref 0),(7,dI e),(8,.ptr 1 0 [] 0),(23,dD (.sl Aa) a),(24,dI b),(25,dI e),(37,dI g),(38,dI z_.1)] [.row 83 .deep Ah z_.2,.box (dD Aa i)]
def Aee(d:List Bool)(e:Int)(a:List Aa.V)(b g:Int)(i:Aa.V):(List Ah.V)→Ex×St:=fun j=>((.exit 2),sT 58 [(1,dD (.sl .bool) d),(6,.ref 0),(8,.ptr 1 0 [] 0),(23,dD (.sl Aa) a),(24,dI b),(25,dI e)] [.row 83 .deep Ah j,.box (dD Aa i)])
def AcW(d:List Bool)(e:Int)(a:List Aa.V)(b g k:Int)(l:List Ah.V)(i:Aa.V):St:=sT 58 [(1,dD (.sl .bool) d),(6,.ref 0),(7,dI e),(8,.ptr 1 0 [] 0),(23,dD (.sl Aa) a),(24,dI b),(25,dI e),(37,dI g),(38,dI k)] [.row 83 .deep Ah l,.box (dD Aa i)]
def AbD(d:List Bool)(e:Int)(a:List Aa.V)(b g k:Int)(l:List Ah.V)(i:Aa.V):(List Ah.V)→Ex×St:=fun n=>(.normal,sT 58 [(1,dD (.sl .bool) d),(6,.ref 0),(7,dI e),(8,.ptr 1 0 [] 0),(23,dD (.sl Aa) a),(24,dI b),(25,dI e),(37,dI g),(38,dI k)] [.row 83 .deep Ah n,.box (dD Aa i)])
def GR(d:List Bool)(e:Int)(a:List Aa.V)(b g k:Int)(l:List Ah.V)(i:Aa.V):Option (List Ah.V) :=
 if(0:Int)≤k∧k<(d.length:Int) then
 bif d.getD k.toNat (Ty.zero .bool) then
 if(0:Int)≤e∧e<(l.length:Int) then
 (Ga (l.getD e.toNat (Ty.zero Ah)).1 k (l.getD e.toNat (Ty.zero Ah)).2.1).bind fun o =>
 some (l.set e.toNat ((l.getD e.toNat (Ty.zero Ah)).1,o,(l.getD e.toNat (Ty.zero Ah)).2.2))
 else none
 else
 some l
 else none
theorem Ab9(d:List Bool)(e:Int)(a:List Aa.V)(b g k:Int)(l:List Ah.V)(i:Aa.V):JnOk E111 0 13 (sub (sub (code Tryz.f62) [1,1,1,0,1,0,0]) [1,1,0,0,1,1,0,1,0,0]) [1,1,0] (AcW d e a b g k l i) (GR d e a b g k l i) (AbD d e a b g k l i):=by
 unfold JnOk
 simp only[GR,mC,mI,mN,mB,mE,mM]
 kernel_rfl
def IE(d:List Bool)(e:Int)(a:List Aa.V)(b g:Int)(i:Aa.V)(k:Int)(l:List Ah.V):Option ((Int×(List Ah.V))⊕(List Ah.V)) :=
 bif decide (k<g) then
 (GR d e a b g k l i).bind fun n =>
 some (.inl ((wI (k+1)),n))
 else
 some (.inr l)
def Fz(d:List Bool)(e:Int)(a:List Aa.V)(b g:Int)(i:Aa.V)(z_:Int×(List Ah.V)):=IE d e a b g i z_.1 z_.2
def Hf(d:List Bool)(e:Int)(a:List Aa.V)(b g:Int)(i:Aa.V)(k:Int)(l:List Ah.V):=fix (Fz d e a b g i) (k,l)
theorem AdN(d:List Bool)(e:Int)(a:List Aa.V)(b g:Int)(i:Aa.V):LpOk E111 0 9 (sub (code Tryz.f62) [1,1,1,0,1,0,0]) [1,1,0,0,1,1,0,1,0] (Acl d e a b g i) (Fz d e a b g i) (Aee d e a b g i):=by
 intro _
 simp only[Fz,IE,mC,mI,mN,mB,mE,mM]
 simp(disch:=refine sI ?_<;>(repeat' refine sA ?_ ?_)<;>intro _<;>kernel_rfl) only[Bn (Ab9 _ _ _ _ _ _ _ _) (K:=stepK 0 (E111.hd 9) (E111.ot 9))]
 kernel_rfl
def Fk(a:List Aa.V)(b:Int)(d:List Bool)(e:Int)(q:List Ah.V):Option (((List Bool)×Int×(List Ah.V))⊕(List Ah.V)) :=
 bif decide (e<b) then
 if(0:Int)≤e∧e<(a.length:Int) then
 (BM (a.getD e.toNat (Ty.zero Aa)).2.1).bind fun s =>
 if(0:Int)≤e∧e<(q.length:Int) then
 (Hf d e a b (a.getD e.toNat (Ty.zero Aa)).2.1 (a.getD e.toNat (Ty.zero Aa)) 0 (q.set e.toNat (s.1,s.2,()))).bind fun j =>
 if(0:Int)≤(a.getD e.toNat (Ty.zero Aa)).2.1∧(a.getD e.toNat (Ty.zero Aa)).2.1≤(d.length:Int)∧(d.length:Int)≤(d.length:Int) then
 some (.inl (((d.take (d.length:Int).toNat).drop (a.getD e.toNat (Ty.zero Aa)).2.1.toNat),(wI (e+1)),j))
 else none
 else none
 else none
 else
 some (.inr q)
def Bm(a:List Aa.V)(b:Int)(z_:(List Bool)×Int×(List Ah.V)):=Fk a b z_.1 z_.2.1 z_.2.2
def G7(a:List Aa.V)(b:Int)(d:List Bool)(e:Int)(q:List Ah.V):=fix (Bm a b) (d,e,q)
theorem AbK(a:List Aa.V)(b:Int):LpOk E111 0 5 (code Tryz.f62) [1,1,1,0,1,0] (Ado a b) (Bm a b) (AcE a b):=by
 intro _
 simp only[Bm,Fk,mC,mI,mN,mB,mE,mM]
 simp(disch:=refine sI ?_<;>(repeat' refine sA ?_ ?_)<;>intro _<;>kernel_rfl) only[Hf,Au (AdN _ _ _ _ _ _) (K:=stepK 0 (E111.hd 5) (E111.ot 5))]
 kernel_rfl
def AbM(a:List Aa.V)(t:List Bool):St:=sT 58 [(0,dD (.sl Aa) a),(1,dD (.sl .bool) t)] []
def Adr(a:List Aa.V)(t:List Bool):Bool→Ex×St:=fun u=>(.normal,sT 58 [(0,dD (.sl Aa) a),(1,dD (.sl .bool) t),(19,dB u)] [])
def GT(a:List Aa.V)(t:List Bool):Option Bool :=
 (FL a).bind fun v =>
 bif !v then
 some true
 else
 (CP a).bind fun w =>
 some (decide ((t.length:Int)<w))
theorem AdP(a:List Aa.V)(t:List Bool):JnOk E111 0 2 (code Tryz.f62) [1,0,0] (AbM a t) (GT a t) (Adr a t):=by
 unfold JnOk
 simp only[GT,mC,mI,mN,mB,mE,mM]
 kernel_rfl
def Gq(a:List Aa.V)(t:List Bool):Option (Bool×(List Ah.V)) :=
 (GT a t).bind fun u =>
 bif u then
 some (false,([]:List Ah.V))
 else
 if Ty.row Ah=true∧(0:Int)≤(a.length:Int)∧(a.length:Int)≤(a.length:Int)∧((32:Nat):Int)*(a.length:Int)≤(281474976710656:Int)∧(a.length:Int)≤(9223372036854775807:Int) then
 (G7 a (a.length:Int) t 0 (List.replicate (a.length:Int).toNat (0,([]:List Int),()))).bind fun c =>
 some (true,c)
 else none
theorem U111(R:Type)(a:List Aa.V)(t:List Bool)(K:AV→List Blk→Option R):runF E111 Tryz.f62 R [dD (.sl Aa) a,dD (.sl .bool) t] [] K=(Gq a t).bind fun r=>K (.cons (.ref 0) (.cons (dB r.1) .nil)) [.row 83 .deep Ah r.2]:=by
 simp only[Gq,bC,bI,bN,bE,bA,bS,bO,bM]
 simp(disch:=refine sI ?_<;>(repeat' refine sA ?_ ?_)<;>intro _<;>kernel_rfl) only[Bn (AdP _ _) (K:=finK E111 Tryz.f62 0 R K),G7,Au (AbK _ _) (K:=finK E111 Tryz.f62 0 R K)]
 kernel_rfl
def c62:Va.Callee:=brC [.d (.sl Aa),.d (.sl .bool)] [⟨[.dat [] (.sl Aa),.dat [] (.sl .bool)],[],(Bool×(List Ah.V)),fun p=>Gq p.1.1 p.1.2.1,fun r=>(.cons (.ref 0) (.cons (dB r.1) .nil),[.row 83 .deep Ah r.2])⟩]
theorem Aaz:SoundC Tryz.prog 62 c62:=Ap (fn:=Tryz.f62) (by kernel_rfl) (by kernel_rfl) (by kernel_rfl) ⟨⟨E111,⟨⟨tabok,An ⟨Sy,SD,Nj,W0,trivial⟩⟩,mixed⟩,fun p R K=>U111 R p.1.1 p.1.2.1 K⟩,trivial⟩
end
end Go.Proofs.X
namespace Go.Proofs.X
open Go Go.Va
set_option maxRecDepth 100000
noncomputable section
abbrev E112:Env:=⟨tab,lookH [(58,c58),(59,c59),(60,c60),(61,c61),(62,c62)],{deep:=true,joins:=[(2,{live:=[0,1,2,6,22]})],ents:=[(2,[0,1,2,6])],res:=[(0,.row [2] 83 Ah true)]}⟩
def Ad4(a:List Aa.V)(b:List Ae.V)(c:Int):St:=sT 58 [(0,dD (.sl Aa) a),(1,dD (.sl Ae) b),(2,dI c),(6,.ptr 0 0 [] 0)] [.box (.pr (dI 0) (.pr (dI 0) (.pr .zs .u)))]
def AbQ(a:List Aa.V)(b:List Ae.V)(c:Int):Bool→Ex×St:=fun d=>(.normal,sT 58 [(0,dD (.sl Aa) a),(1,dD (.sl Ae) b),(2,dI c),(6,.ptr 0 0 [] 0),(22,dB d)] [.box (.pr (dI 0) (.pr (dI 0) (.pr .zs .u)))])
def Fb(a:List Aa.V)(b:List Ae.V)(c:Int):Option Bool :=
 (Eb a b).bind fun e =>
 bif !e then
 some true
 else
 some (!(Aq c 0 20000))
theorem Ac4(a:List Aa.V)(b:List Ae.V)(c:Int):JnOk E112 0 2 (code Tryz.f13) [1,0,0] (Ad4 a b c) (Fb a b c) (AbQ a b c):=by
 unfold JnOk
 simp only[Fb,mC,mI,mN,mB,mE,mM]
 kernel_rfl
def CU(a:List Aa.V)(b:List Ae.V)(c:Int):Option (Int×Int×(List Ah.V)) :=
 (Fb a b c).bind fun d =>
 bif d then
 some (1,0,([]:List Ah.V))
 else
 (JS a b).bind fun g =>
 bif !g.2.1 then
 some (2,0,([]:List Ah.V))
 else
 (IR (g.1,g.2.2,()) c).bind fun i =>
 bif i.2.1==2 then
 some (3,i.1,([]:List Ah.V))
 else
 bif i.2.1==3 then
 some (4,c,([]:List Ah.V))
 else
 (Gq a i.2.2).bind fun j =>
 some (5,i.1,j.2)
theorem U112(R:Type)(a:List Aa.V)(b:List Ae.V)(c:Int)(K:AV→List Blk→Option R):runF E112 Tryz.f13 R [dD (.sl Aa) a,dD (.sl Ae) b,dI c] [] K=(CU a b c).bind fun r=>K (.pr (dI r.1) (.pr (dI r.2.1) (.pr (.ref 0) .u))) [.row 83 .deep Ah r.2.2]:=by
 simp only[CU,bC,bI,bN,bE,bA,bS,bO,bM]
 simp(disch:=refine sI ?_<;>(repeat' refine sA ?_ ?_)<;>intro _<;>kernel_rfl) only[Bn (Ac4 _ _ _) (K:=finK E112 Tryz.f13 0 R K)]
 kernel_rfl
def c13:Va.Callee:=brC [.d (.sl Aa),.d (.sl Ae),.d (.int .i64)] [⟨[.dat [] (.sl Aa),.dat [] (.sl Ae),.dat [] (.int .i64)],[],(Int×Int×(List Ah.V)),fun p=>CU p.1.1 p.1.2.1 p.1.2.2.1,fun r=>(.pr (dI r.1) (.pr (dI r.2.1) (.pr (.ref 0) .u)),[.row 83 .deep Ah r.2.2])⟩]
theorem Zz:SoundC Tryz.prog 13 c13:=Ap (fn:=Tryz.f13) (by kernel_rfl) (by kernel_rfl) (by kernel_rfl) ⟨⟨E112,⟨⟨tabok,An ⟨Aab,Lu,Aa3,Aa2,Aaz,trivial⟩⟩,mixed⟩,fun p R K=>U112 R p.1.1 p.1.2.1 p.1.2.2.1 K⟩,trivial⟩
abbrev E113:Env:=⟨tab,lookH [],{deep:=true,heads:=[(4,{live:=[0,1,5]})],outs:=[(4,{live:=[4]})]}⟩
def AcY(a b:List Int)(z_:Int):St:=sT 26 [(0,dD (.sl (.int .u64)) a),(1,dD (.sl (.int .u64)) b),(5,dI z_)] []
def Acm(a b:List Int):(Unit⊕Unit)→Ex×St:=Sum.elim (fun c=>(.ret,sT 26 [(4,dB false)] [])) (fun d=>((.exit 0),sT 26 [] []))
def J0(a b:List Int)(e:Int):Option (Int⊕(Unit⊕Unit)) :=
 bif decide (e<(a.length:Int)) then
 if(0:Int)≤e∧e<(a.length:Int) then
 if(0:Int)≤e∧e<(b.length:Int) then
 bif (a.getD e.toNat (Ty.zero (.int .u64))) !=(b.getD e.toNat (Ty.zero (.int .u64))) then
 some (.inr (.inl ()))
 else
 some (.inl (wI (e+1)))
 else none
 else none
 else
 some (.inr (.inr ()))
def Ev(a b:List Int)(z_:Int):=J0 a b z_
def K2(a b:List Int)(e:Int):=fix (Ev a b) e
theorem Acw(a b:List Int):LpOk E113 0 4 (code Tryz.f117) [1,1,0,1,0] (AcY a b) (Ev a b) (Acm a b):=by
 intro _
 simp only[Ev,J0,mC,mI,mN,mB,mE,mM]
 kernel_rfl
def GF(a b:List Int):Option Bool :=
 bif (a.length:Int) !=(b.length:Int) then
 some false
 else
 (K2 a b 0).bind (Sum.elim (fun c =>
 some false) (fun d =>
 some true))
theorem U113(R:Type)(a b:List Int)(K:AV→List Blk→Option R):runF E113 Tryz.f117 R [dD (.sl (.int .u64)) a,dD (.sl (.int .u64)) b] [] K=(GF a b).bind fun r=>K (dB r) []:=by
 simp only[GF,bC,bI,bN,bE,bA,bS,bO,bM]
 simp(disch:=refine sI ?_<;>(repeat' refine sA ?_ ?_)<;>intro _<;>kernel_rfl) only[K2,Au (Acw _ _) (K:=finK E113 Tryz.f117 0 R K)]
 kernel_rfl
def c117:Va.Callee:=brC [.d (.sl (.int .u64)),.d (.sl (.int .u64))] [⟨[.dat [] (.sl (.int .u64)),.dat [] (.sl (.int .u64))],[],Bool,fun p=>GF p.1.1 p.1.2.1,fun r=>(dB r,[])⟩]
theorem Ye:SoundC Tryz.prog 117 c117:=Ap (fn:=Tryz.f117) (by kernel_rfl) (by kernel_rfl) (by kernel_rfl) ⟨⟨E113,⟨⟨tabok,An trivial⟩,mixed⟩,fun p R K=>U113 R p.1.1 p.1.2.1 K⟩,trivial⟩
abbrev E114:Env:=⟨tab,lookH [(117,c117)],{deep:=true}⟩
def FF(a b:Ah.V):Option Bool :=
 bif a.1 !=b.1 then
 some false
 else
 (GF a.2.1 b.2.1).bind fun c =>
 bif !c then
 some false
 else
 some true
theorem U114(R:Type)(a b:Ah.V)(K:AV→List Blk→Option R):runF E114 Tryz.f45 R [dD Ah a,dD Ah b] [] K=(FF a b).bind fun r=>K (dB r) []:=by
 simp only[FF,bC,bI,bN,bE,bA,bS,bO,bM]
 kernel_rfl
def c45:Va.Callee:=brC [.d Ah,.d Ah] [⟨[.dat [] Ah,.dat [] Ah],[],Bool,fun p=>FF p.1.1 p.1.2.1,fun r=>(dB r,[])⟩]
theorem Vb:SoundC Tryz.prog 45 c45:=Ap (fn:=Tryz.f45) (by kernel_rfl) (by kernel_rfl) (by kernel_rfl) ⟨⟨E114,⟨⟨tabok,An ⟨Ye,trivial⟩⟩,mixed⟩,fun p R K=>U114 R p.1.1 p.1.2.1 K⟩,trivial⟩
abbrev E115:Env:=⟨tab,lookH [(45,c45)],{deep:=true,heads:=[(4,{live:=[0,1,5]})],outs:=[(4,{live:=[4]})]}⟩
def Acq(a b:List Ah.V)(z_:Int):St:=sT 27 [(0,dD (.sl Ah) a),(1,dD (.sl Ah) b),(5,dI z_)] []
def AdT(a b:List Ah.V):(Unit⊕Unit)→Ex×St:=Sum.elim (fun c=>(.ret,sT 27 [(4,dB false)] [])) (fun d=>((.exit 0),sT 27 [] []))
def KZ(a b:List Ah.V)(e:Int):Option (Int⊕(Unit⊕Unit)) :=
 bif decide (e<(a.length:Int)) then
 if(0:Int)≤e∧e<(a.length:Int) then
 if(0:Int)≤e∧e<(b.length:Int) then
 (FF (a.getD e.toNat (Ty.zero Ah)) (b.getD e.toNat (Ty.zero Ah))).bind fun g =>
 bif !g then
 some (.inr (.inl ()))
 else
 some (.inl (wI (e+1)))
 else none
 else none
 else
 some (.inr (.inr ()))
def FY(a b:List Ah.V)(z_:Int):=KZ a b z_
def LI(a b:List Ah.V)(e:Int):=fix (FY a b) e
theorem AdI(a b:List Ah.V):LpOk E115 0 4 (code Tryz.f63) [1,1,0,1,0] (Acq a b) (FY a b) (AdT a b):=by
 intro _
 simp only[FY,KZ,mC,mI,mN,mB,mE,mM]
 kernel_rfl
def Jl(a b:List Ah.V):Option Bool :=
 bif (a.length:Int) !=(b.length:Int) then
 some false
 else
 (LI a b 0).bind (Sum.elim (fun c =>
 some false) (fun d =>
 some true))
theorem U115(R:Type)(a b:List Ah.V)(K:AV→List Blk→Option R):runF E115 Tryz.f63 R [dD (.sl Ah) a,dD (.sl Ah) b] [] K=(Jl a b).bind fun r=>K (dB r) []:=by
 simp only[Jl,bC,bI,bN,bE,bA,bS,bO,bM]
 simp(disch:=refine sI ?_<;>(repeat' refine sA ?_ ?_)<;>intro _<;>kernel_rfl) only[LI,Au (AdI _ _) (K:=finK E115 Tryz.f63 0 R K)]
 kernel_rfl
def c63:Va.Callee:=brC [.d (.sl Ah),.d (.sl Ah)] [⟨[.dat [] (.sl Ah),.dat [] (.sl Ah)],[],Bool,fun p=>Jl p.1.1 p.1.2.1,fun r=>(dB r,[])⟩]
theorem Aaq:SoundC Tryz.prog 63 c63:=Ap (fn:=Tryz.f63) (by kernel_rfl) (by kernel_rfl) (by kernel_rfl) ⟨⟨E115,⟨⟨tabok,An ⟨Vb,trivial⟩⟩,mixed⟩,fun p R K=>U115 R p.1.1 p.1.2.1 K⟩,trivial⟩
abbrev E116:Env:=⟨tab,lookH [(63,c63)],{deep:=true}⟩
def Dm(a b:AC.V):Option Bool :=
 bif a.1 !=b.1 then
 some false
 else
 bif a.2.1 !=b.2.1 then
 some false
 else
 (Jl a.2.2.1 b.2.2.1).bind fun c =>
 bif !c then
 some false
 else
 some true
theorem U116(R:Type)(a b:AC.V)(K:AV→List Blk→Option R):runF E116 Tryz.f14 R [dD AC a,dD AC b] [] K=(Dm a b).bind fun r=>K (dB r) []:=by
 simp only[Dm,bC,bI,bN,bE,bA,bS,bO,bM]
 kernel_rfl
def c14:Va.Callee:=brC [.d AC,.d AC] [⟨[.dat [] AC,.dat [] AC],[],Bool,fun p=>Dm p.1.1 p.1.2.1,fun r=>(dB r,[])⟩]
theorem Abc:SoundC Tryz.prog 14 c14:=Ap (fn:=Tryz.f14) (by kernel_rfl) (by kernel_rfl) (by kernel_rfl) ⟨⟨E116,⟨⟨tabok,An ⟨Aaq,trivial⟩⟩,mixed⟩,fun p R K=>U116 R p.1.1 p.1.2.1 K⟩,trivial⟩
abbrev E117:Env:=⟨tab,lookH [],{deep:=true}⟩
def Hq(a b:Aa.V):Bool:=((!(!(strEq a.1 b.1)))&&((!(a.2.1 !=b.2.1))&&true))
theorem U117(R:Type)(a b:Aa.V)(K:AV→List Blk→Option R):runF E117 Tryz.f64 R [dD Aa a,dD Aa b] [] K=K (dB (Hq a b)) []:=by
 have h:runF E117 Tryz.f64 R [dD Aa a,dD Aa b] [] K =
 bif !(strEq a.1 b.1) then
 K (dB false) []
 else
 bif a.2.1 !=b.2.1 then
 K (dB false) []
 else
 K (dB true) []:=by kernel_rfl
 rw[h]
 unfold Hq
 cases h1:(!(strEq a.1 b.1))
 ·cases h2:(a.2.1 !=b.2.1)
  ·first | rfl | kernel_rfl
  ·first | rfl | kernel_rfl
 ·first | rfl | kernel_rfl
def c64:Va.Callee:=brC [.d Aa,.d Aa] [⟨[.dat [] Aa,.dat [] Aa],[],Bool,fun p=>some (Hq p.1.1 p.1.2.1),fun r=>(dB r,[])⟩]
theorem ZI:SoundC Tryz.prog 64 c64:=Ap (fn:=Tryz.f64) (by kernel_rfl) (by kernel_rfl) (by kernel_rfl) ⟨⟨E117,⟨⟨tabok,An trivial⟩,mixed⟩,fun p R K=>U117 R p.1.1 p.1.2.1 K⟩,trivial⟩
abbrev E118:Env:=⟨tab,lookH [(64,c64)],{deep:=true,heads:=[(4,{live:=[0,1,5]})],outs:=[(4,{live:=[4]})]}⟩
def Abx(a b:List Aa.V)(z_:Int):St:=sT 27 [(0,dD (.sl Aa) a),(1,dD (.sl Aa) b),(5,dI z_)] []
def Aev(a b:List Aa.V):(Unit⊕Unit)→Ex×St:=Sum.elim (fun c=>(.ret,sT 27 [(4,dB false)] [])) (fun d=>((.exit 0),sT 27 [] []))
def KS(a b:List Aa.V)(e:Int):Option (Int⊕(Unit⊕Unit)) :=
 bif decide (e<(a.length:Int)) then
 if(0:Int)≤e∧e<(a.length:Int) then
 if(0:Int)≤e∧e<(b.length:Int) then
 bif !(Hq (a.getD e.toNat (Ty.zero Aa)) (b.getD e.toNat (Ty.zero Aa))) then
 some (.inr (.inl ()))
 else
 some (.inl (wI (e+1)))
 else none
 else none
 else
 some (.inr (.inr ()))
def Gk(a b:List Aa.V)(z_:Int):=KS a b z_
def LG(a b:List Aa.V)(e:Int):=fix (Gk a b) e
theorem Ac7(a b:List Aa.V):LpOk E118 0 4 (code Tryz.f15) [1,1,0,1,0] (Abx a b) (Gk a b) (Aev a b):=by
 intro _
 simp only[Gk,KS,mC,mI,mN,mB,mE,mM]
 kernel_rfl
def Jo(a b:List Aa.V):Option Bool :=
 bif (a.length:Int) !=(b.length:Int) then
 some false
 else
 (LG a b 0).bind (Sum.elim (fun c =>
 some false) (fun d =>
 some true))
theorem U118(R:Type)(a b:List Aa.V)(K:AV→List Blk→Option R):runF E118 Tryz.f15 R [dD (.sl Aa) a,dD (.sl Aa) b] [] K=(Jo a b).bind fun r=>K (dB r) []:=by
 simp only[Jo,bC,bI,bN,bE,bA,bS,bO,bM]
 simp(disch:=refine sI ?_<;>(repeat' refine sA ?_ ?_)<;>intro _<;>kernel_rfl) only[LG,Au (Ac7 _ _) (K:=finK E118 Tryz.f15 0 R K)]
 kernel_rfl
def c15:Va.Callee:=brC [.d (.sl Aa),.d (.sl Aa)] [⟨[.dat [] (.sl Aa),.dat [] (.sl Aa)],[],Bool,fun p=>Jo p.1.1 p.1.2.1,fun r=>(dB r,[])⟩]
theorem Abn:SoundC Tryz.prog 15 c15:=Ap (fn:=Tryz.f15) (by kernel_rfl) (by kernel_rfl) (by kernel_rfl) ⟨⟨E118,⟨⟨tabok,An ⟨ZI,trivial⟩⟩,mixed⟩,fun p R K=>U118 R p.1.1 p.1.2.1 K⟩,trivial⟩
abbrev E119:Env:=⟨tab,lookH [],{deep:=true,heads:=[(4,{live:=[0,1,5]})],outs:=[(4,{live:=[4]})]}⟩
def AbS(a b:List Int)(z_:Int):St:=sT 26 [(0,dD (.sl (.int .i64)) a),(1,dD (.sl (.int .i64)) b),(5,dI z_)] []
def AeC(a b:List Int):(Unit⊕Unit)→Ex×St:=Sum.elim (fun c=>(.ret,sT 26 [(4,dB false)] [])) (fun d=>((.exit 0),sT 26 [] []))
def Ku(a b:List Int)(e:Int):Option (Int⊕(Unit⊕Unit)) :=
 bif decide (e<(a.length:Int)) then
 if(0:Int)≤e∧e<(a.length:Int) then
 if(0:Int)≤e∧e<(b.length:Int) then
 bif (a.getD e.toNat (Ty.zero (.int .i64))) !=(b.getD e.toNat (Ty.zero (.int .i64))) then
 some (.inr (.inl ()))
 else
 some (.inl (wI (e+1)))
 else none
 else none
 else
 some (.inr (.inr ()))
def Fp(a b:List Int)(z_:Int):=Ku a b z_
def Lr(a b:List Int)(e:Int):=fix (Fp a b) e
theorem AdM(a b:List Int):LpOk E119 0 4 (code Tryz.f103) [1,1,0,1,0] (AbS a b) (Fp a b) (AeC a b):=by
 intro _
 simp only[Fp,Ku,mC,mI,mN,mB,mE,mM]
 kernel_rfl
def IF(a b:List Int):Option Bool :=
 bif (a.length:Int) !=(b.length:Int) then
 some false
 else
 (Lr a b 0).bind (Sum.elim (fun c =>
 some false) (fun d =>
 some true))
theorem U119(R:Type)(a b:List Int)(K:AV→List Blk→Option R):runF E119 Tryz.f103 R [dD (.sl (.int .i64)) a,dD (.sl (.int .i64)) b] [] K=(IF a b).bind fun r=>K (dB r) []:=by
 simp only[IF,bC,bI,bN,bE,bA,bS,bO,bM]
 simp(disch:=refine sI ?_<;>(repeat' refine sA ?_ ?_)<;>intro _<;>kernel_rfl) only[Lr,Au (AdM _ _) (K:=finK E119 Tryz.f103 0 R K)]
 kernel_rfl
def c103:Va.Callee:=brC [.d (.sl (.int .i64)),.d (.sl (.int .i64))] [⟨[.dat [] (.sl (.int .i64)),.dat [] (.sl (.int .i64))],[],Bool,fun p=>IF p.1.1 p.1.2.1,fun r=>(dB r,[])⟩]
theorem YL:SoundC Tryz.prog 103 c103:=Ap (fn:=Tryz.f103) (by kernel_rfl) (by kernel_rfl) (by kernel_rfl) ⟨⟨E119,⟨⟨tabok,An trivial⟩,mixed⟩,fun p R K=>U119 R p.1.1 p.1.2.1 K⟩,trivial⟩
end
end Go.Proofs.X
namespace Go.Proofs.X
open Go Go.Va
set_option maxRecDepth 100000
noncomputable section
abbrev E120:Env:=⟨tab,lookH [(45,c45),(103,c103)],{deep:=true}⟩
def FS(a b:Ab.V):Option Bool :=
 bif a.1 !=b.1 then
 some false
 else
 bif a.2.1 !=b.2.1 then
 some false
 else
 bif a.2.2.1 !=b.2.2.1 then
 some false
 else
 bif a.2.2.2.1 !=b.2.2.2.1 then
 some false
 else
 (FF a.2.2.2.2.1 b.2.2.2.2.1).bind fun c =>
 bif !c then
 some false
 else
 (IF a.2.2.2.2.2.1 b.2.2.2.2.2.1).bind fun d =>
 bif !d then
 some false
 else
 some true
theorem U120(R:Type)(a b:Ab.V)(K:AV→List Blk→Option R):runF E120 Tryz.f185 R [dD Ab a,dD Ab b] [] K=(FS a b).bind fun r=>K (dB r) []:=by
 simp only[FS,bC,bI,bN,bE,bA,bS,bO,bM]
 kernel_rfl
def c185:Va.Callee:=brC [.d Ab,.d Ab] [⟨[.dat [] Ab,.dat [] Ab],[],Bool,fun p=>FS p.1.1 p.1.2.1,fun r=>(dB r,[])⟩]
theorem XT:SoundC Tryz.prog 185 c185:=Ap (fn:=Tryz.f185) (by kernel_rfl) (by kernel_rfl) (by kernel_rfl) ⟨⟨E120,⟨⟨tabok,An ⟨Vb,YL,trivial⟩⟩,mixed⟩,fun p R K=>U120 R p.1.1 p.1.2.1 K⟩,trivial⟩
abbrev E121:Env:=⟨tab,lookH [(185,c185)],{deep:=true,heads:=[(4,{live:=[0,1,5]})],outs:=[(4,{live:=[4]})]}⟩
def Adk(a b:List Ab.V)(z_:Int):St:=sT 27 [(0,dD (.sl Ab) a),(1,dD (.sl Ab) b),(5,dI z_)] []
def Adh(a b:List Ab.V):(Unit⊕Unit)→Ex×St:=Sum.elim (fun c=>(.ret,sT 27 [(4,dB false)] [])) (fun d=>((.exit 0),sT 27 [] []))
def Kx(a b:List Ab.V)(e:Int):Option (Int⊕(Unit⊕Unit)) :=
 bif decide (e<(a.length:Int)) then
 if(0:Int)≤e∧e<(a.length:Int) then
 if(0:Int)≤e∧e<(b.length:Int) then
 (FS (a.getD e.toNat (Ty.zero Ab)) (b.getD e.toNat (Ty.zero Ab))).bind fun g =>
 bif !g then
 some (.inr (.inl ()))
 else
 some (.inl (wI (e+1)))
 else none
 else none
 else
 some (.inr (.inr ()))
def Fs(a b:List Ab.V)(z_:Int):=Kx a b z_
def Ls(a b:List Ab.V)(e:Int):=fix (Fs a b) e
theorem Aer(a b:List Ab.V):LpOk E121 0 4 (code Tryz.f118) [1,1,0,1,0] (Adk a b) (Fs a b) (Adh a b):=by
 intro _
 simp only[Fs,Kx,mC,mI,mN,mB,mE,mM]
 kernel_rfl
def Ix(a b:List Ab.V):Option Bool :=
 bif (a.length:Int) !=(b.length:Int) then
 some false
 else
 (Ls a b 0).bind (Sum.elim (fun c =>
 some false) (fun d =>
 some true))
theorem U121(R:Type)(a b:List Ab.V)(K:AV→List Blk→Option R):runF E121 Tryz.f118 R [dD (.sl Ab) a,dD (.sl Ab) b] [] K=(Ix a b).bind fun r=>K (dB r) []:=by
 simp only[Ix,bC,bI,bN,bE,bA,bS,bO,bM]
 simp(disch:=refine sI ?_<;>(repeat' refine sA ?_ ?_)<;>intro _<;>kernel_rfl) only[Ls,Au (Aer _ _) (K:=finK E121 Tryz.f118 0 R K)]
 kernel_rfl
def c118:Va.Callee:=brC [.d (.sl Ab),.d (.sl Ab)] [⟨[.dat [] (.sl Ab),.dat [] (.sl Ab)],[],Bool,fun p=>Ix p.1.1 p.1.2.1,fun r=>(dB r,[])⟩]
theorem Xq:SoundC Tryz.prog 118 c118:=Ap (fn:=Tryz.f118) (by kernel_rfl) (by kernel_rfl) (by kernel_rfl) ⟨⟨E121,⟨⟨tabok,An ⟨XT,trivial⟩⟩,mixed⟩,fun p R K=>U121 R p.1.1 p.1.2.1 K⟩,trivial⟩
abbrev E122:Env:=⟨tab,lookH [(118,c118)],{deep:=true}⟩
def HB(a b:Aj.V):Option Bool :=
 (Ix a.1 b.1).bind fun c =>
 bif !c then
 some false
 else
 some true
theorem U122(R:Type)(a b:Aj.V)(K:AV→List Blk→Option R):runF E122 Tryz.f46 R [dD Aj a,dD Aj b] [] K=(HB a b).bind fun r=>K (dB r) []:=by
 simp only[HB,bC,bI,bN,bE,bA,bS,bO,bM]
 kernel_rfl
def c46:Va.Callee:=brC [.d Aj,.d Aj] [⟨[.dat [] Aj,.dat [] Aj],[],Bool,fun p=>HB p.1.1 p.1.2.1,fun r=>(dB r,[])⟩]
theorem Zy:SoundC Tryz.prog 46 c46:=Ap (fn:=Tryz.f46) (by kernel_rfl) (by kernel_rfl) (by kernel_rfl) ⟨⟨E122,⟨⟨tabok,An ⟨Xq,trivial⟩⟩,mixed⟩,fun p R K=>U122 R p.1.1 p.1.2.1 K⟩,trivial⟩
abbrev E123:Env:=⟨tab,lookH [(46,c46)],{deep:=true}⟩
def DF(a b:Ae.V):Option Bool :=
 bif a.1 !=b.1 then
 some false
 else
 bif !(a.2.1==b.2.1) then
 some false
 else
 (HB a.2.2.1 b.2.2.1).bind fun c =>
 bif !c then
 some false
 else
 (HB a.2.2.2.1 b.2.2.2.1).bind fun d =>
 bif !d then
 some false
 else
 some true
theorem U123(R:Type)(a b:Ae.V)(K:AV→List Blk→Option R):runF E123 Tryz.f28 R [dD Ae a,dD Ae b] [] K=(DF a b).bind fun r=>K (dB r) []:=by
 simp only[DF,bC,bI,bN,bE,bA,bS,bO,bM]
 kernel_rfl
def c28:Va.Callee:=brC [.d Ae,.d Ae] [⟨[.dat [] Ae,.dat [] Ae],[],Bool,fun p=>DF p.1.1 p.1.2.1,fun r=>(dB r,[])⟩]
theorem AaS:SoundC Tryz.prog 28 c28:=Ap (fn:=Tryz.f28) (by kernel_rfl) (by kernel_rfl) (by kernel_rfl) ⟨⟨E123,⟨⟨tabok,An ⟨Zy,trivial⟩⟩,mixed⟩,fun p R K=>U123 R p.1.1 p.1.2.1 K⟩,trivial⟩
abbrev E124:Env:=⟨tab,lookH [(28,c28)],{deep:=true,heads:=[(4,{live:=[0,1,5]})],outs:=[(4,{live:=[4]})]}⟩
def AdW(a b:List Ae.V)(z_:Int):St:=sT 27 [(0,dD (.sl Ae) a),(1,dD (.sl Ae) b),(5,dI z_)] []
def Ael(a b:List Ae.V):(Unit⊕Unit)→Ex×St:=Sum.elim (fun c=>(.ret,sT 27 [(4,dB false)] [])) (fun d=>((.exit 0),sT 27 [] []))
def JE(a b:List Ae.V)(e:Int):Option (Int⊕(Unit⊕Unit)) :=
 bif decide (e<(a.length:Int)) then
 if(0:Int)≤e∧e<(a.length:Int) then
 if(0:Int)≤e∧e<(b.length:Int) then
 (DF (a.getD e.toNat (Ty.zero Ae)) (b.getD e.toNat (Ty.zero Ae))).bind fun g =>
 bif !g then
 some (.inr (.inl ()))
 else
 some (.inl (wI (e+1)))
 else none
 else none
 else
 some (.inr (.inr ()))
def DW(a b:List Ae.V)(z_:Int):=JE a b z_
def Kq(a b:List Ae.V)(e:Int):=fix (DW a b) e
theorem Ab1(a b:List Ae.V):LpOk E124 0 4 (code Tryz.f16) [1,1,0,1,0] (AdW a b) (DW a b) (Ael a b):=by
 intro _
 simp only[DW,JE,mC,mI,mN,mB,mE,mM]
 kernel_rfl
def FM(a b:List Ae.V):Option Bool :=
 bif (a.length:Int) !=(b.length:Int) then
 some false
 else
 (Kq a b 0).bind (Sum.elim (fun c =>
 some false) (fun d =>
 some true))
theorem U124(R:Type)(a b:List Ae.V)(K:AV→List Blk→Option R):runF E124 Tryz.f16 R [dD (.sl Ae) a,dD (.sl Ae) b] [] K=(FM a b).bind fun r=>K (dB r) []:=by
 simp only[FM,bC,bI,bN,bE,bA,bS,bO,bM]
 simp(disch:=refine sI ?_<;>(repeat' refine sA ?_ ?_)<;>intro _<;>kernel_rfl) only[Kq,Au (Ab1 _ _) (K:=finK E124 Tryz.f16 0 R K)]
 kernel_rfl
def c16:Va.Callee:=brC [.d (.sl Ae),.d (.sl Ae)] [⟨[.dat [] (.sl Ae),.dat [] (.sl Ae)],[],Bool,fun p=>FM p.1.1 p.1.2.1,fun r=>(dB r,[])⟩]
theorem ZB:SoundC Tryz.prog 16 c16:=Ap (fn:=Tryz.f16) (by kernel_rfl) (by kernel_rfl) (by kernel_rfl) ⟨⟨E124,⟨⟨tabok,An ⟨AaS,trivial⟩⟩,mixed⟩,fun p R K=>U124 R p.1.1 p.1.2.1 K⟩,trivial⟩
abbrev E125:Env:=⟨tab,lookH [],{deep:=true,heads:=[(4,{live:=[0,3]})],outs:=[(4,{live:=[3]})]}⟩
def Ac8(z_:Int×ByteArray):St:=sT 20 [(0,dI z_.1),(3,dD .str z_.2)] []
def Acg:ByteArray→Ex×St:=fun a=>((.exit 0),sT 20 [(3,dD .str a)] [])
def Id(b:Int)(c:ByteArray):Option ((Int×ByteArray)⊕ByteArray) :=
 bif decide (b>0) then
 if(bytesOf ([(IntKind.u8.wrap (wI (48+(Int.tmod b 10))))]:List Int)).size+c.size≤9223372036854775807 then
 some (.inl ((wI (Int.tdiv b 10)),((bytesOf ([(IntKind.u8.wrap (wI (48+(Int.tmod b 10))))]:List Int))++c)))
 else none
 else
 some (.inr c)
def Ft(z_:Int×ByteArray):=Id z_.1 z_.2
def Jz(b:Int)(c:ByteArray):=fix (Ft) (b,c)
theorem Ad1:LpOk E125 0 4 (code Tryz.f65) [1,1,1,0,0] (Ac8) (Ft) (Acg):=by
 intro _
 simp only[Ft,Id,mC,mI,mN,mB,mE,mM]
 kernel_rfl
def Gr(d:Int):Option ByteArray :=
 bif decide (d≤0) then
 some (⟨#[109,48]⟩:ByteArray)
 else
 (Jz d (⟨#[]⟩:ByteArray)).bind fun a =>
 if(⟨#[109]⟩:ByteArray).size+a.size≤9223372036854775807 then
 some ((⟨#[109]⟩:ByteArray)++a)
 else none
theorem U125(R:Type)(d:Int)(K:AV→List Blk→Option R):runF E125 Tryz.f65 R [dI d] [] K=(Gr d).bind fun r=>K (dD .str r) []:=by
 simp only[Gr,bC,bI,bN,bE,bA,bS,bO,bM]
 simp(disch:=refine sI ?_<;>(repeat' refine sA ?_ ?_)<;>intro _<;>kernel_rfl) only[Jz,Au (Ad1) (K:=finK E125 Tryz.f65 0 R K)]
 kernel_rfl
def c65:Va.Callee:=brC [.d (.int .i64)] [⟨[.dat [] (.int .i64)],[],ByteArray,fun p=>Gr p.1.1,fun r=>(dD .str r,[])⟩]
theorem ZC:SoundC Tryz.prog 65 c65:=Ap (fn:=Tryz.f65) (by kernel_rfl) (by kernel_rfl) (by kernel_rfl) ⟨⟨E125,⟨⟨tabok,An trivial⟩,mixed⟩,fun p R K=>U125 R p.1.1 K⟩,trivial⟩
abbrev E126:Env:=⟨tab,lookH [(65,c65)],{deep:=true,heads:=[(2,{live:=[0,1,5]})],outs:=[(2,{live:=[1]})]}⟩
def AcB(z_:Int×Int×(List Aa.V)):St:=sT 28 [(0,.ref 0),(1,dI z_.1),(5,dI z_.2.1)] [.row 109 .deep Aa z_.2.2]
def Acz:(Int×(List Aa.V))→Ex×St:=fun a=>((.exit 0),sT 28 [(1,dI a.1)] [.row 109 .deep Aa a.2])
def Et(b c:Int)(d:List Aa.V):Option ((Int×Int×(List Aa.V))⊕(Int×(List Aa.V))) :=
 bif decide (c<(d.length:Int)) then
 (Gr b).bind fun e =>
 if(0:Int)≤c∧c<(d.length:Int) then
 if(0:Int)≤c∧c<((d.set c.toNat (e,(d.getD c.toNat (Ty.zero Aa)).2)).length:Int) then
 some (.inl ((wI ((wI (b+1))+1)),(wI (c+1)),((d.set c.toNat (e,(d.getD c.toNat (Ty.zero Aa)).2)).set c.toNat (((d.set c.toNat (e,(d.getD c.toNat (Ty.zero Aa)).2)).getD c.toNat (Ty.zero Aa)).1,(wI (b+1)),((d.set c.toNat (e,(d.getD c.toNat (Ty.zero Aa)).2)).getD c.toNat (Ty.zero Aa)).2.2))))
 else none
 else none
 else
 some (.inr (b,d))
def BE(z_:Int×Int×(List Aa.V)):=Et z_.1 z_.2.1 z_.2.2
def I3(b c:Int)(d:List Aa.V):=fix (BE) (b,c,d)
theorem Aed:LpOk E126 1 2 (code Tryz.f17) [1,0,1,0] (AcB) (BE) (Acz):=by
 intro _
 simp only[BE,Et,mC,mI,mN,mB,mE,mM]
 kernel_rfl
def ET(g:Int)(i:List Aa.V):Option (Int×(List Aa.V)) :=
 (I3 g 0 i).bind fun a =>
 some (a.1,a.2)
theorem U126(R:Type)(g:Int)(i:List Aa.V)(K:AV→List Blk→Option R):runF E126 Tryz.f17 R [.ref 0,dI g] [.row 109 .deep Aa i] K=(ET g i).bind fun r=>K (dI r.1) [.row 109 .deep Aa r.2]:=by
 simp only[ET,bC,bI,bN,bE,bA,bS,bO,bM]
 simp(disch:=refine sI ?_<;>(repeat' refine sA ?_ ?_)<;>intro _<;>kernel_rfl) only[I3,Au (Aed) (K:=finK E126 Tryz.f17 1 R K)]
 kernel_rfl
def c17:Va.Callee:=brC [.raw,.d (.int .i64)] [⟨[.k (.ref 0),.dat [] (.int .i64)],[.row 109 .deep Aa],(Int×(List Aa.V)),fun p=>ET p.1.2.1 p.2.1,fun r=>(dI r.1,[.row 109 .deep Aa r.2])⟩]
theorem AaX:SoundC Tryz.prog 17 c17:=Ap (fn:=Tryz.f17) (by kernel_rfl) (by kernel_rfl) (by kernel_rfl) ⟨⟨E126,⟨⟨tabok,An ⟨ZC,trivial⟩⟩,mixed⟩,fun p R K=>U126 R p.1.2.1 p.2.1 K⟩,trivial⟩
abbrev E127:Env:=⟨tab,lookH [],{deep:=true,heads:=[(2,{live:=[0,1,5]})],outs:=[(2,{live:=[1]})]}⟩
def AdS(z_:Int×Int×(List Int)):St:=sT 20 [(0,.ref 0),(1,dI z_.1),(5,dI z_.2.1)] [.row 0 .deep (.int .u64) z_.2.2]
def AcI:(Int×(List Int))→Ex×St:=fun a=>((.exit 0),sT 20 [(1,dI a.1)] [.row 0 .deep (.int .u64) a.2])
def Dd(b c:Int)(d:List Int):Option ((Int×Int×(List Int))⊕(Int×(List Int))) :=
 bif decide (c<(d.length:Int)) then
 if(0:Int)≤c∧c<(d.length:Int) then
 some (.inl ((wI (b+1)),(wI (c+1)),(d.set c.toNat (IntKind.u64.wrap b))))
 else none
 else
 some (.inr (b,d))
def Bf(z_:Int×Int×(List Int)):=Dd z_.1 z_.2.1 z_.2.2
def Hl(b c:Int)(d:List Int):=fix (Bf) (b,c,d)
theorem AcU:LpOk E127 1 2 (code Tryz.f90) [1,0,1,0] (AdS) (Bf) (AcI):=by
 intro _
 simp only[Bf,Dd,mC,mI,mN,mB,mE,mM]
 kernel_rfl
def B7(e:Int)(g:List Int):Option (Int×(List Int)) :=
 (Hl e 0 g).bind fun a =>
 some (a.1,a.2)
theorem U127(R:Type)(e:Int)(g:List Int)(K:AV→List Blk→Option R):runF E127 Tryz.f90 R [.ref 0,dI e] [.row 0 .deep (.int .u64) g] K=(B7 e g).bind fun r=>K (dI r.1) [.row 0 .deep (.int .u64) r.2]:=by
 simp only[B7,bC,bI,bN,bE,bA,bS,bO,bM]
 simp(disch:=refine sI ?_<;>(repeat' refine sA ?_ ?_)<;>intro _<;>kernel_rfl) only[Hl,Au (AcU) (K:=finK E127 Tryz.f90 1 R K)]
 kernel_rfl
def c90:Va.Callee:=brC [.raw,.d (.int .i64)] [⟨[.k (.ref 0),.dat [] (.int .i64)],[.row 0 .deep (.int .u64)],(Int×(List Int)),fun p=>B7 p.1.2.1 p.2.1,fun r=>(dI r.1,[.row 0 .deep (.int .u64) r.2])⟩]
theorem T0:SoundC Tryz.prog 90 c90:=Ap (fn:=Tryz.f90) (by kernel_rfl) (by kernel_rfl) (by kernel_rfl) ⟨⟨E127,⟨⟨tabok,An trivial⟩,mixed⟩,fun p R K=>U127 R p.1.2.1 p.2.1 K⟩,trivial⟩
end
end Go.Proofs.X
