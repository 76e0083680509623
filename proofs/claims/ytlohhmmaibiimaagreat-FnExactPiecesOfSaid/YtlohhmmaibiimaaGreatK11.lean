import Derived.KernelRfl
import Derived.Test.YtlohhmmaibiimaaGreatK10
set_option linter.unusedVariables false
set_option linter.unusedSimpArgs false
namespace Go.Proofs.X
open Go Go.Va
set_option maxRecDepth 100000
noncomputable section
abbrev Aia:Env:=⟨tab,As [],{take:=[25]}⟩
def c228:Va.Callee:=Adk [.raw,.raw] Aia Tryz.f228
theorem yD:An Tryz.prog 228 c228:=o9 (by kernel_rfl) (by kernel_rfl) (by kernel_rfl) ⟨⟨Aw,Ao trivial⟩,mixed⟩
abbrev uE:Env:=⟨tab,As [(228,c228)],{heads:=[(3,{live:=[0,3,9,10,11]}),(11,{live:=[6,25,26,27],pre:=[(6,false,.row [] 238 Ad false)]})],outs:=[(3,{live:=[0,3]}),(11,{live:=[6]})],joins:=[(8,{live:=[0,3,9,10,11]})],ents:=[(8,[0,3,9,10,11])]}⟩
def Amf(a:AxG)(b:Int)(z_:Int×Axx):St:=sT 36 [(6,.ref 0),(25,dD (.sl (.sl Ad)) a),(26,dI b),(27,dI z_.1)] [.row 238 (.sh []) Ad z_.2]
def Aj2(a:AxG)(b:Int):Axx->Ex×St:=λc=>((.exit 2),sT 36 [(6,.ref 0)] [.row 238 (.sh []) Ad c])
def MK(a:AxG)(b d:Int)(e:Axx):Option ((Int×Axx)⊕Axx) :=
 bif decide (d<b) then
 if(0:Int)<=d/\d<(a.length:Int) then
 if(e.length+(a.getD d.toNat (Ty.zero (.sl Ad))).length)*56<=140737488355328 then
 some (.inl ((wI (d+1)),(e++(a.getD d.toNat (Ty.zero (.sl Ad))))))
 else none
 else none
 else
 some (.inr e)
def H7(a:AxG)(b:Int)(z_:Int×Axx):=MK a b z_.1 z_.2
def N1(a:AxG)(b d:Int)(e:Axx):=fix (H7 a b) (d,e)
theorem AoQ(a:AxG)(b:Int):AU uE 0 11 (code Tryz.f204) [1,1,1,1,0,1,0] (Amf a b) (H7 a b) (Aj2 a b):=by
 intro _;simp only[H7,MK,Axe];kernel_rfl
def Ame(a:AxG)(g:Int)(z_:Int×Axx):St:=sT 36 [(6,.ref 0),(25,dD (.sl (.sl Ad)) a),(26,dI g),(27,dI z_.1)] [.row 238 (.sh []) Ad z_.2]
def Aj1(a:AxG)(g:Int):Axx->Ex×St:=λi=>((.exit 2),sT 36 [(6,.ref 0)] [.row 238 (.sh []) Ad i])
def Ez(a:AxG)(g j:Int)(k:Axx):Option ((Int×Axx)⊕Axx) :=
 bif decide (j<g) then
 if(0:Int)<=j/\j<(a.length:Int) then
 if(k.length+(a.getD j.toNat (Ty.zero (.sl Ad))).length)*56<=140737488355328 then
 some (.inl ((wI (j+1)),(k++(a.getD j.toNat (Ty.zero (.sl Ad))))))
 else none
 else none
 else
 some (.inr k)
def BR(a:AxG)(g:Int)(z_:Int×Axx):=Ez a g z_.1 z_.2
def Gi(a:AxG)(g j:Int)(k:Axx):=fix (BR a g) (j,k)
theorem AoP(a:AxG)(g:Int):AU uE 0 11 (code Tryz.f204) [1,1,1,1,0,1,0] (Ame a g) (BR a g) (Aj1 a g):=by
 intro _;simp only[BR,Ez,Axe];kernel_rfl
def Amd(a:AxG)(l:Int)(z_:Int×Int):St:=sT 36 [(0,dD (.sl (.sl Ad)) a),(3,dI z_.1),(9,dD (.sl (.sl Ad)) a),(10,dI l),(11,dI z_.2)] []
def Aj0(a:AxG)(l:Int):Int->Ex×St:=λn=>((.exit 0),sT 36 [(0,dD (.sl (.sl Ad)) a),(3,dI n)] [])
def Amc(a:AxG)(o l q:Int):St:=sT 36 [(0,dD (.sl (.sl Ad)) a),(3,dI o),(9,dD (.sl (.sl Ad)) a),(10,dI l),(11,dI q)] []
def AjZ(a:AxG)(o l q:Int):Unit->Ex×St:=λs=>(.normal,sT 36 [(0,dD (.sl (.sl Ad)) a),(3,dI (wI (o+((a.getD q.toNat (Ty.zero (.sl Ad))).length:Int)))),(9,dD (.sl (.sl Ad)) a),(10,dI l),(11,dI q)] [])
def Gg(a:AxG)(o l q:Int):Option Unit :=
 if(0:Int)<=q/\q<(a.length:Int) then
 bif decide ((wI (o+((a.getD q.toNat (Ty.zero (.sl Ad))).length:Int)))<0) then
 none
 else
 some ()
 else none
theorem AoN(a:AxG)(o l q:Int):AL uE 0 8 (sub (code Tryz.f204) [1,1,0,1,0,0]) [1,1,0] (Amc a o l q) (Gg a o l q) (AjZ a o l q):=by
 unfold AL;simp only[Gg,Axe];kernel_rfl
def Ey(a:AxG)(l o q:Int):Option ((Int×Int)⊕Int) :=
 bif decide (q<l) then
 (Gg a o l q).bind λs =>
 some (.inl ((wI (o+((a.getD q.toNat (Ty.zero (.sl Ad))).length:Int))),(wI (q+1))))
 else
 some (.inr o)
def BQ(a:AxG)(l:Int)(z_:Int×Int):=Ey a l z_.1 z_.2
def Gh(a:AxG)(l o q:Int):=fix (BQ a l) (o,q)
theorem AoO(a:AxG)(l:Int):AU uE 0 3 (code Tryz.f204) [1,1,0,1,0] (Amd a l) (BQ a l) (Aj0 a l):=by
 intro _;simp only[BQ,Ey,Axe];simp(disch:=refine sI ?_<;>(repeat' refine sA ?_ ?_)<;>intro _<;>kernel_rfl) only[A6 (AoN _ _ _ _) (K:=Be 0 (uE.hd 3) (uE.ot 3))]
 kernel_rfl
def DR(a:AxG):Option Axx :=
 (Gh a (a.length:Int) 0 0).bind λn =>
 bif decide (n<0) then
 none
 else
 bif decide ((wI (n-0))>0) then
 if(0:Int)<=(wI (n-0))/\(wI (n-0))*((56:Nat):Int)<=(140737488355328:Int) then
 if(0:Int)<=(0:Int)/\(0:Int)<=((List.replicate (wI (n-0)).toNat (0,0,0,(0,([]:Axs),()),())).length:Int) then
 (Gi a (a.length:Int) 0 ((List.replicate (wI (n-0)).toNat (0,0,0,(0,([]:Axs),()),())).take 0)).bind λi =>
 some i
 else none
 else none
 else
 (N1 a (a.length:Int) 0 ([]:Axx)).bind λc =>
 some c
theorem U88(R:Type)(a:AxG)(K:AV->List Blk->Option R):AH uE Tryz.f204 R [dD (.sl (.sl Ad)) a] [] K=(DR a).bind λr=>K (.ref 0) [.row 238 (.sh []) Ad r]:=by
 simp only[DR,Axf];simp(disch:=refine sI ?_<;>(repeat' refine sA ?_ ?_)<;>intro _<;>kernel_rfl) only[Gh,Ax (AoO _ _) (K:=AP uE Tryz.f204 0 R K),Gi,Ax (AoP _ _) (K:=AP uE Tryz.f204 0 R K),N1,Ax (AoQ _ _) (K:=AP uE Tryz.f204 0 R K)]
 kernel_rfl
def ApM:Va.Callee:=BX [.d (.sl (.sl Ad))] [⟨[.dat [] (.sl (.sl Ad))],[],Axx,λp=>DR p.1.1,λr=>(.ref 0,[.row 238 (.sh []) Ad r])⟩]
theorem xY:An Tryz.prog 204 ApM:=Ap (fn:=Tryz.f204) (by kernel_rfl) (by kernel_rfl) (by kernel_rfl) ⟨⟨uE,⟨⟨Aw,Ao ⟨yD,trivial⟩⟩,mixed⟩,λp R K=>U88 R p.1.1 K⟩,trivial⟩
abbrev E89:Env:=⟨tab,As [],{deep:=true,heads:=[(3,{live:=[3,8,9,10],pre:=[(3,false,.row [] 300 Af true)]}),(7,{live:=[3,5,6,8,9,10]})],outs:=[(3,{live:=[3]}),(7,{live:=[3,8,9,10]})],joins:=[(8,{live:=[3,5,6,8,9,10]})],ents:=[(8,[3,5,6,8,9,10])]}⟩
def Ami(a:Axx)(b:Int)(z_:Int×Axz):St:=sT 43 [(3,.ref 0),(8,dD (.sl Ad) a),(9,dI b),(10,dI z_.1)] [.row 300 .deep Af z_.2]
def Aj5(a:Axx)(b:Int):Axz->Ex×St:=λc=>((.exit 0),sT 43 [(3,.ref 0)] [.row 300 .deep Af c])
def Amh(a:Axx)(b d:Int)(e:Axi)(z_:Int×Axz):St:=sT 43 [(3,.ref 0),(5,.ptr 1 0 [] 0),(6,dI z_.1),(8,dD (.sl Ad) a),(9,dI b),(10,dI d)] [.row 300 .deep Af z_.2,.box (dD Ad e)]
def Aj4(a:Axx)(b d:Int)(e:Axi):Axz->Ex×St:=λg=>((.exit 2),sT 43 [(3,.ref 0),(8,dD (.sl Ad) a),(9,dI b),(10,dI d)] [.row 300 .deep Af g])
def Amg(i:Int)(a:Axx)(b d:Int)(j:Axz)(e:Axi):St:=sT 43 [(3,.ref 0),(5,.ptr 1 0 [] 0),(6,dI i),(8,dD (.sl Ad) a),(9,dI b),(10,dI d)] [.row 300 .deep Af j,.box (dD Ad e)]
def Aj3(i:Int)(a:Axx)(b d:Int)(j:Axz)(e:Axi):Axz->Ex×St:=λk=>(.normal,sT 43 [(3,.ref 0),(5,.ptr 1 0 [] 0),(6,dI i),(8,dD (.sl Ad) a),(9,dI b),(10,dI d)] [.row 300 .deep Af k,.box (dD Ad e)])
def Io(i:Int)(a:Axx)(b d:Int)(j:Axz)(e:Axi):Option Axz :=
 bif e.1==(-1) then
 if(j.length+([(2,0,0,())]:Axz).length)*24<=140737488355328 then
 some (j++([(2,0,0,())]:Axz))
 else none
 else
 if(j.length+([(1,e.1,(wI (e.2.1+i)),())]:Axz).length)*24<=140737488355328 then
 some (j++([(1,e.1,(wI (e.2.1+i)),())]:Axz))
 else none
theorem AoR(i:Int)(a:Axx)(b d:Int)(j:Axz)(e:Axi):AL E89 0 8 (sub (sub (code Tryz.f205) [1,1,0,1,0,0]) [1,1,0,0,1,1,1,0,0]) [1,0] (Amg i a b d j e) (Io i a b d j e) (Aj3 i a b d j e):=by
 unfold AL;simp only[Io,Axe];kernel_rfl
def IW(a:Axx)(b d:Int)(e:Axi)(i:Int)(j:Axz):Option ((Int×Axz)⊕Axz) :=
 bif decide (i<e.2.2.1) then
 (Io i a b d j e).bind λk =>
 some (.inl ((wI (i+1)),k))
 else
 some (.inr j)
def DI(a:Axx)(b d:Int)(e:Axi)(z_:Int×Axz):=IW a b d e z_.1 z_.2
def Ls(a:Axx)(b d:Int)(e:Axi)(i:Int)(j:Axz):=fix (DI a b d e) (i,j)
theorem AoS(a:Axx)(b d:Int)(e:Axi):AU E89 0 7 (sub (code Tryz.f205) [1,1,0,1,0,0]) [1,1,0,0,1,1,1,0] (Amh a b d e) (DI a b d e) (Aj4 a b d e):=by
 intro _;simp only[DI,IW,Axe];simp(disch:=refine sI ?_<;>(repeat' refine sA ?_ ?_)<;>intro _<;>kernel_rfl) only[A6 (AoR _ _ _ _ _ _) (K:=Be 0 (E89.hd 7) (E89.ot 7))]
 kernel_rfl
def IX(a:Axx)(b d:Int)(l:Axz):Option ((Int×Axz)⊕Axz) :=
 bif decide (d<b) then
 if(0:Int)<=d/\d<(a.length:Int) then
 if(l.length+([(0,0,0,())]:Axz).length)*24<=140737488355328 then
 (Ls a b d (a.getD d.toNat Ad.zero) 1 (l++([(0,0,0,())]:Axz))).bind λg =>
 some (.inl ((wI (d+1)),g))
 else none
 else none
 else
 some (.inr l)
def DJ(a:Axx)(b:Int)(z_:Int×Axz):=IX a b z_.1 z_.2
def Lt(a:Axx)(b d:Int)(l:Axz):=fix (DJ a b) (d,l)
theorem AoT(a:Axx)(b:Int):AU E89 0 3 (code Tryz.f205) [1,1,0,1,0] (Ami a b) (DJ a b) (Aj5 a b):=by
 intro _;simp only[DJ,IX,Axe];simp(disch:=refine sI ?_<;>(repeat' refine sA ?_ ?_)<;>intro _<;>kernel_rfl) only[Ls,Ax (AoS _ _ _ _) (K:=Be 0 (E89.hd 3) (E89.ot 3))]
 kernel_rfl
def F6(a:Axx):Option Axz :=
 (Lt a (a.length:Int) 0 ([]:Axz)).bind λc =>
 some c
theorem U89(R:Type)(a:Axx)(K:AV->List Blk->Option R):AH E89 Tryz.f205 R [dD (.sl Ad) a] [] K=(F6 a).bind λr=>K (.ref 0) [.row 300 .deep Af r]:=by
 simp only[F6,Axf];simp(disch:=refine sI ?_<;>(repeat' refine sA ?_ ?_)<;>intro _<;>kernel_rfl) only[Lt,Ax (AoT _ _) (K:=AP E89 Tryz.f205 0 R K)]
 kernel_rfl
def ApN:Va.Callee:=BX [.d (.sl Ad)] [⟨[.dat [] (.sl Ad)],[],Axz,λp=>F6 p.1.1,λr=>(.ref 0,[.row 300 .deep Af r])⟩]
theorem xZ:An Tryz.prog 205 ApN:=Ap (fn:=Tryz.f205) (by kernel_rfl) (by kernel_rfl) (by kernel_rfl) ⟨⟨E89,⟨⟨Aw,Ao trivial⟩,mixed⟩,λp R K=>U89 R p.1.1 K⟩,trivial⟩
abbrev SF:Env:=⟨tab,As [(203,c203),(204,ApM),(205,ApN)],{heads:=[(1,{live:=[0,1,2,18,19,20],mvp:=[(0,[3])]}),(9,{live:=[0,8,9,10],Ow:=[(8,false,(.sl Af)),(9,false,(.sl Af))]})],outs:=[(1,{live:=[0,1,2]}),(9,{live:=[]})],joins:=[(6,{live:=[0,1,2,18,19,20],mvp:=[(0,[3])]}),(10,{live:=[0,8,9,10]}),(13,{live:=[0,8,9,10,11,12,61]}),(15,{live:=[0,8,9,10,11,12,76]}),(17,{live:=[0,8,9,10,11,12,91]})],draws:=[(11,{live:=[0,8,9,10,11,12],quiet:=true}),(17,{live:=[0,8,9,10,13,14],quiet:=true}),(18,{live:=[0,8,9,10,13,14]}),(19,{live:=[0,8,9,10]})],ents:=[(6,[0,1,2,18,19,20]),(10,[0,8,9,10]),(13,[0,8,9,10,11,12]),(15,[0,8,9,10,11,12]),(17,[0,8,9,10,11,12])],fM:=[(11,[0,8,9,10]),(17,[0,8,9,10,11,12]),(18,[0,8,9,10,13,14]),(19,[0,8,9,10,13,14])],gK:=[(17,(.sl (.sl Ad)))]}⟩
def Agb(a:Int)(b c:Axz)(d:List (Axx×(Axx×Unit)))(z_:Int×Axw×AxE×(List (Axg×Axv))×Axv):St:=sT 132 [(0,.ptr 0 a [] 0),(8,dD (.sl Af) b),(9,dD (.sl Af) c),(10,dI z_.1)] [.box (.pr (dD (.sl Ab) z_.2.1) (.pr (.ref 2) (.pr (.mp 3) (.pr (.ref 5) .u)))),.row 145 .deep (.pair (.sl Ad) (.pair (.sl Ad) .unit)) d,.row 104 .deep (.sl .bool) z_.2.2.1,.map .deep Aa (.sl Aa) z_.2.2.2.1 none,.dead,.row 253 .deep Aa z_.2.2.2.2]
def Afo(a:Int)(b c:Axz)(d:List (Axx×(Axx×Unit))):(Axw×AxE×(List (Axg×Axv))×Axv)->Ex×St:=λe=>((.exit 2),sT 132 [] [.box (.pr (dD (.sl Ab) e.1) (.pr (.ref 2) (.pr (.mp 3) (.pr (.ref 5) .u)))),.row 145 .deep (.pair (.sl Ad) (.pair (.sl Ad) .unit)) d,.row 104 .deep (.sl .bool) e.2.1,.map .deep Aa (.sl Aa) e.2.2.1 none,.dead,.row 253 .deep Aa e.2.2.2])
def Aga(a:Int)(b c:Axz)(g:Int)(i:Axw)(d:List (Axx×(Axx×Unit)))(j:AxE)(k:List (Axg×Axv))(l:Axv):St:=sT 132 [(0,.ptr 0 a [] 0),(8,dD (.sl Af) b),(9,dD (.sl Af) c),(10,dI g)] [.box (.pr (dD (.sl Ab) i) (.pr (.ref 2) (.pr (.mp 3) (.pr (.ref 5) .u)))),.row 145 .deep (.pair (.sl Ad) (.pair (.sl Ad) .unit)) d,.row 104 .deep (.sl .bool) j,.map .deep Aa (.sl Aa) k none,.dead,.row 253 .deep Aa l]
def Afn(a:Int)(b c:Axz)(g:Int)(i:Axw)(d:List (Axx×(Axx×Unit)))(j:AxE)(k:List (Axg×Axv))(l:Axv):(Axw×AxE×(List (Axg×Axv))×Axv)->Ex×St:=λn=>(.normal,sT 132 [(0,.ptr 0 a [] 0),(8,dD (.sl Af) b),(9,dD (.sl Af) c),(10,dI g)] [.box (.pr (dD (.sl Ab) n.1) (.pr (.ref 2) (.pr (.mp 3) (.pr (.ref 5) .u)))),.row 145 .deep (.pair (.sl Ad) (.pair (.sl Ad) .unit)) d,.row 104 .deep (.sl .bool) n.2.1,.map .deep Aa (.sl Aa) n.2.2.1 none,.dead,.row 253 .deep Aa n.2.2.2])
def Ad2(a:Int)(b c:Axz)(g:Int)(i:Axw)(d:List (Axx×(Axx×Unit)))(j:AxE)(o:List (Axg×Axv))(l:Axv)(q s t u:Int):St:=sT 132 [(0,.ptr 0 a [] 0),(8,dD (.sl Af) b),(9,dD (.sl Af) c),(10,dI g),(13,.ptr 5 0 [] 0),(14,.ptr 6 0 [] 0)] [.box (.pr (dD (.sl Ab) i) (.pr (.ref 2) (.pr (.mp 3) (.pr (.ref 7) .u)))),.row 145 .deep (.pair (.sl Ad) (.pair (.sl Ad) .unit)) d,.row 104 .deep (.sl .bool) j,.map .deep Aa (.sl Aa) o none,.dead,.box (.pr (dI q) (.pr (dI s) .u)),.box (.pr (dI t) (.pr (dI u) .u)),.row 253 .deep Aa l]
def nM(a:Int)(b c:Axz)(g:Int)(i:Axw)(d:List (Axx×(Axx×Unit)))(j:AxE)(o:List (Axg×Axv))(l:Axv)(q s t u:Int):(List (Axg×Axv))->St:=λv=>sT 132 [(0,.ptr 0 a [] 0),(8,dD (.sl Af) b),(9,dD (.sl Af) c),(10,dI g)] [.box (.pr (dD (.sl Ab) i) (.pr (.ref 2) (.pr (.mp 3) (.pr (.ref 5) .u)))),.row 145 .deep (.pair (.sl Ad) (.pair (.sl Ad) .unit)) d,.row 104 .deep (.sl .bool) j,.map .deep Aa (.sl Aa) v none,.dead,.row 253 .deep Aa l]
def CL(a:Int)(b c:Axz)(g:Int)(i:Axw)(d:List (Axx×(Axx×Unit)))(j:AxE)(o:List (Axg×Axv))(l:Axv)(q s t u:Int):Option (List (Axg×Axv)) :=
 if((BG Aa (.sl Aa) o (t,u,())).length+([(q,s,())]:Axv).length)*16<=140737488355328 then
 bif Qf Aa (.sl Aa) (Cq Aa (.sl Aa) o (t,u,()) (BG Aa (.sl Aa) o (t,u,()))) (t,u,()) (Q9 Aa (.sl Aa) o (t,u,())) then
 bif A0 Aa (t,u,()) (t,u,()) then
 some (Cq Aa (.sl Aa) (Cq Aa (.sl Aa) o (t,u,()) (BG Aa (.sl Aa) o (t,u,()))) (t,u,()) ((BG Aa (.sl Aa) o (t,u,()))++([(q,s,())]:Axv)))
 else
 none
 else
 none
 else none
noncomputable def Fe(a:Int)(b c:Axz)(g:Int)(i:Axw)(d:List (Axx×(Axx×Unit)))(j:AxE)(o:List (Axg×Axv))(l:Axv)(q s t u:Int):Option Unit:=if((BG Aa (.sl Aa) o (t,u,())).length+([(q,s,())]:Axv).length)*16<=140737488355328 then bif Qf Aa (.sl Aa) (Cq Aa (.sl Aa) o (t,u,()) (BG Aa (.sl Aa) o (t,u,()))) (t,u,()) (Q9 Aa (.sl Aa) o (t,u,())) then bif A0 Aa (t,u,()) (t,u,()) then Ti (nM a b c g i d j o l q s t u (Cq Aa (.sl Aa) (Cq Aa (.sl Aa) o (t,u,()) (BG Aa (.sl Aa) o (t,u,()))) (t,u,()) ((BG Aa (.sl Aa) o (t,u,()))++([(q,s,())]:Axv)))) (nM a b c g i d j o l q s t u (Cq Aa (.sl Aa) (Cq Aa (.sl Aa) o (t,u,()) (BG Aa (.sl Aa) o (t,u,()))) (t,u,()) ((BG Aa (.sl Aa) o (t,u,()))++([(q,s,())]:Axv)))) else none else none else none
theorem Ao2(a:Int)(b c:Axz)(g:Int)(i:Axw)(d:List (Axx×(Axx×Unit)))(j:AxE)(o:List (Axg×Axv))(l:Axv)(q s t u:Int):S4 SF 5 19 (sub (sub (code Tryz.f149) [1,1,1,0,0]) [1,0]) [0,1,0,1,1,1,1,1,0,1,1] (Ad2 a b c g i d j o l q s t u) (CL a b c g i d j o l q s t u) (nM a b c g i d j o l q s t u):=by
 unfold S4;have h:drS SF 5 19 (sub (sub (code Tryz.f149) [1,1,1,0,0]) [1,0]) [0,1,0,1,1,1,1,1,0,1,1] (Ad2 a b c g i d j o l q s t u) =
 if((BG Aa (.sl Aa) o (t,u,())).length+([(q,s,())]:Axv).length)*16<=140737488355328 then bif Qf Aa (.sl Aa) (Cq Aa (.sl Aa) o (t,u,()) (BG Aa (.sl Aa) o (t,u,()))) (t,u,()) (Q9 Aa (.sl Aa) o (t,u,())) then bif A0 Aa (t,u,()) (t,u,()) then(((((Fe a b c g i d j o l q s t u).bind λ_=>(Fe a b c g i d j o l q s t u).bind λ_=>Fe a b c g i d j o l q s t u).bind λ_=>((Fe a b c g i d j o l q s t u).bind λ_=>(Fe a b c g i d j o l q s t u).bind λ_=>Fe a b c g i d j o l q s t u).bind λ_=>((Fe a b c g i d j o l q s t u).bind λ_=>Fe a b c g i d j o l q s t u).bind λ_=>((Fe a b c g i d j o l q s t u).bind λ_=>Fe a b c g i d j o l q s t u).bind λ_=>(Fe a b c g i d j o l q s t u).bind λ_=>Fe a b c g i d j o l q s t u).bind λ_=>(((Fe a b c g i d j o l q s t u).bind λ_=>(Fe a b c g i d j o l q s t u).bind λ_=>Fe a b c g i d j o l q s t u).bind λ_=>((Fe a b c g i d j o l q s t u).bind λ_=>Fe a b c g i d j o l q s t u).bind λ_=>Fe a b c g i d j o l q s t u).bind λ_=>(((Fe a b c g i d j o l q s t u).bind λ_=>Fe a b c g i d j o l q s t u).bind λ_=>((Fe a b c g i d j o l q s t u).bind λ_=>Fe a b c g i d j o l q s t u).bind λ_=>(Fe a b c g i d j o l q s t u).bind λ_=>Fe a b c g i d j o l q s t u).bind λ_=>(((Fe a b c g i d j o l q s t u).bind λ_=>Fe a b c g i d j o l q s t u).bind λ_=>Fe a b c g i d j o l q s t u).bind λ_=>((Fe a b c g i d j o l q s t u).bind λ_=>Fe a b c g i d j o l q s t u).bind λ_=>Fe a b c g i d j o l q s t u).bind λ_=>some (nM a b c g i d j o l q s t u (Cq Aa (.sl Aa) (Cq Aa (.sl Aa) o (t,u,()) (BG Aa (.sl Aa) o (t,u,()))) (t,u,()) ((BG Aa (.sl Aa) o (t,u,()))++([(q,s,())]:Axv))))) else none else none else none:=by kernel_rfl
 rw[h];unfold CL;simp only[Axe,mS,mO];clear h;by_cases hc0:((BG Aa (.sl Aa) o (t,u,())).length+([(q,s,())]:Axv).length)*16<=140737488355328
 ·rw[if_pos hc0,if_pos hc0];cases hc1:(Qf Aa (.sl Aa) (Cq Aa (.sl Aa) o (t,u,()) (BG Aa (.sl Aa) o (t,u,()))) (t,u,()) (Q9 Aa (.sl Aa) o (t,u,()))) with
  | true =>
   simp only[Axc];cases hc2:(A0 Aa (t,u,()) (t,u,())) with
   | true =>
    simp only[Axc];simp only[Fe,Axc,if_pos hc0,hc1,hc2,if_true,AwW,Nm]
   | false =>
    simp only[Axb]
    all_goals first | rfl | simp
  | false =>
   simp only[Axb]
   all_goals first | rfl | simp
 ·simp only[if_true,if_neg hc0]
def Ad1(a:Int)(b c:Axz)(g:Int)(i:Axw)(d:List (Axx×(Axx×Unit)))(j:AxE)(k:List (Axg×Axv))(l:Axv)(w x y a1:Int):St:=sT 132 [(0,.ptr 0 a [] 0),(8,dD (.sl Af) b),(9,dD (.sl Af) c),(10,dI g),(13,.ptr 5 0 [] 0),(14,.ptr 6 0 [] 0)] [.box (.pr (dD (.sl Ab) i) (.pr (.ref 2) (.pr (.mp 3) (.pr (.ref 7) .u)))),.row 145 .deep (.pair (.sl Ad) (.pair (.sl Ad) .unit)) d,.row 104 .deep (.sl .bool) j,.map .deep Aa (.sl Aa) k none,.dead,.box (.pr (dI w) (.pr (dI x) .u)),.box (.pr (dI y) (.pr (dI a1) .u)),.row 253 .deep Aa l]
def nL(a:Int)(b c:Axz)(g:Int)(i:Axw)(d:List (Axx×(Axx×Unit)))(j:AxE)(k:List (Axg×Axv))(l:Axv)(w x y a1:Int):(List (Axg×Axv))->St:=λo=>sT 132 [(0,.ptr 0 a [] 0),(8,dD (.sl Af) b),(9,dD (.sl Af) c),(10,dI g),(13,.ptr 5 0 [] 0),(14,.ptr 6 0 [] 0)] [.box (.pr (dD (.sl Ab) i) (.pr (.ref 2) (.pr (.mp 3) (.pr (.ref 7) .u)))),.row 145 .deep (.pair (.sl Ad) (.pair (.sl Ad) .unit)) d,.row 104 .deep (.sl .bool) j,.map .deep Aa (.sl Aa) o none,.dead,.box (.pr (dI w) (.pr (dI x) .u)),.box (.pr (dI y) (.pr (dI a1) .u)),.row 253 .deep Aa l]
def CK(a:Int)(b c:Axz)(g:Int)(i:Axw)(d:List (Axx×(Axx×Unit)))(j:AxE)(k:List (Axg×Axv))(l:Axv)(w x y a1:Int):Option (List (Axg×Axv)) :=
 if((BG Aa (.sl Aa) k (w,x,())).length+([(y,a1,())]:Axv).length)*16<=140737488355328 then
 bif Qf Aa (.sl Aa) (Cq Aa (.sl Aa) k (w,x,()) (BG Aa (.sl Aa) k (w,x,()))) (w,x,()) (Q9 Aa (.sl Aa) k (w,x,())) then
 bif A0 Aa (w,x,()) (w,x,()) then
 some (Cq Aa (.sl Aa) (Cq Aa (.sl Aa) k (w,x,()) (BG Aa (.sl Aa) k (w,x,()))) (w,x,()) ((BG Aa (.sl Aa) k (w,x,()))++([(y,a1,())]:Axv)))
 else
 none
 else
 none
 else none
noncomputable def Fc(a:Int)(b c:Axz)(g:Int)(i:Axw)(d:List (Axx×(Axx×Unit)))(j:AxE)(k:List (Axg×Axv))(l:Axv)(w x y a1:Int):Option Unit:=if((BG Aa (.sl Aa) k (w,x,())).length+([(y,a1,())]:Axv).length)*16<=140737488355328 then bif Qf Aa (.sl Aa) (Cq Aa (.sl Aa) k (w,x,()) (BG Aa (.sl Aa) k (w,x,()))) (w,x,()) (Q9 Aa (.sl Aa) k (w,x,())) then bif A0 Aa (w,x,()) (w,x,()) then Ti (nL a b c g i d j k l w x y a1 (Cq Aa (.sl Aa) (Cq Aa (.sl Aa) k (w,x,()) (BG Aa (.sl Aa) k (w,x,()))) (w,x,()) ((BG Aa (.sl Aa) k (w,x,()))++([(y,a1,())]:Axv)))) (nL a b c g i d j k l w x y a1 (Cq Aa (.sl Aa) (Cq Aa (.sl Aa) k (w,x,()) (BG Aa (.sl Aa) k (w,x,()))) (w,x,()) ((BG Aa (.sl Aa) k (w,x,()))++([(y,a1,())]:Axv)))) else none else none else none
theorem Ao1(a:Int)(b c:Axz)(g:Int)(i:Axw)(d:List (Axx×(Axx×Unit)))(j:AxE)(k:List (Axg×Axv))(l:Axv)(w x y a1:Int):S4 SF 5 18 (sub (sub (code Tryz.f149) [1,1,1,0,0]) [1,0]) [0,1,0,1,1,1,1,1,0,1,0] (Ad1 a b c g i d j k l w x y a1) (CK a b c g i d j k l w x y a1) (nL a b c g i d j k l w x y a1):=by
 unfold S4;have h:drS SF 5 18 (sub (sub (code Tryz.f149) [1,1,1,0,0]) [1,0]) [0,1,0,1,1,1,1,1,0,1,0] (Ad1 a b c g i d j k l w x y a1) =
 if((BG Aa (.sl Aa) k (w,x,())).length+([(y,a1,())]:Axv).length)*16<=140737488355328 then bif Qf Aa (.sl Aa) (Cq Aa (.sl Aa) k (w,x,()) (BG Aa (.sl Aa) k (w,x,()))) (w,x,()) (Q9 Aa (.sl Aa) k (w,x,())) then bif A0 Aa (w,x,()) (w,x,()) then(((((Fc a b c g i d j k l w x y a1).bind λ_=>(Fc a b c g i d j k l w x y a1).bind λ_=>Fc a b c g i d j k l w x y a1).bind λ_=>((Fc a b c g i d j k l w x y a1).bind λ_=>(Fc a b c g i d j k l w x y a1).bind λ_=>Fc a b c g i d j k l w x y a1).bind λ_=>((Fc a b c g i d j k l w x y a1).bind λ_=>Fc a b c g i d j k l w x y a1).bind λ_=>((Fc a b c g i d j k l w x y a1).bind λ_=>Fc a b c g i d j k l w x y a1).bind λ_=>(Fc a b c g i d j k l w x y a1).bind λ_=>Fc a b c g i d j k l w x y a1).bind λ_=>(((Fc a b c g i d j k l w x y a1).bind λ_=>(Fc a b c g i d j k l w x y a1).bind λ_=>Fc a b c g i d j k l w x y a1).bind λ_=>((Fc a b c g i d j k l w x y a1).bind λ_=>Fc a b c g i d j k l w x y a1).bind λ_=>Fc a b c g i d j k l w x y a1).bind λ_=>(((Fc a b c g i d j k l w x y a1).bind λ_=>Fc a b c g i d j k l w x y a1).bind λ_=>((Fc a b c g i d j k l w x y a1).bind λ_=>Fc a b c g i d j k l w x y a1).bind λ_=>(Fc a b c g i d j k l w x y a1).bind λ_=>Fc a b c g i d j k l w x y a1).bind λ_=>(((Fc a b c g i d j k l w x y a1).bind λ_=>Fc a b c g i d j k l w x y a1).bind λ_=>Fc a b c g i d j k l w x y a1).bind λ_=>((Fc a b c g i d j k l w x y a1).bind λ_=>Fc a b c g i d j k l w x y a1).bind λ_=>Fc a b c g i d j k l w x y a1).bind λ_=>some (nL a b c g i d j k l w x y a1 (Cq Aa (.sl Aa) (Cq Aa (.sl Aa) k (w,x,()) (BG Aa (.sl Aa) k (w,x,()))) (w,x,()) ((BG Aa (.sl Aa) k (w,x,()))++([(y,a1,())]:Axv))))) else none else none else none:=by kernel_rfl
 rw[h];unfold CK;simp only[Axe,mS,mO];clear h;by_cases hc0:((BG Aa (.sl Aa) k (w,x,())).length+([(y,a1,())]:Axv).length)*16<=140737488355328
 ·rw[if_pos hc0,if_pos hc0];cases hc1:(Qf Aa (.sl Aa) (Cq Aa (.sl Aa) k (w,x,()) (BG Aa (.sl Aa) k (w,x,()))) (w,x,()) (Q9 Aa (.sl Aa) k (w,x,()))) with
  | true =>
   simp only[Axc];cases hc2:(A0 Aa (w,x,()) (w,x,())) with
   | true =>
    simp only[Axc];simp only[Fc,Axc,if_pos hc0,hc1,hc2,if_true,AwW,Nm]
   | false =>
    simp only[Axb]
    all_goals first | rfl | simp
  | false =>
   simp only[Axb]
   all_goals first | rfl | simp
 ·simp only[if_true,if_neg hc0]
def Ad0(a:Int)(b c:Axz)(g:Int)(i:Axw)(d:List (Axx×(Axx×Unit)))(j:AxE)(k:List (Axg×Axv))(l:Axv)(b1 c1:Axk):St:=sT 132 [(0,.ptr 0 a [] 0),(8,dD (.sl Af) b),(9,dD (.sl Af) c),(10,dI g),(11,.ptr 5 0 [] 0),(12,.ptr 6 0 [] 0)] [.box (.pr (dD (.sl Ab) i) (.pr (.ref 2) (.pr (.mp 3) (.pr (.ref 7) .u)))),.row 145 .deep (.pair (.sl Ad) (.pair (.sl Ad) .unit)) d,.row 104 .deep (.sl .bool) j,.map .deep Aa (.sl Aa) k none,.dead,.box (dD Af b1),.box (dD Af c1),.row 253 .deep Aa l]
def Yv(a:Int)(b c:Axz)(g:Int)(i:Axw)(d:List (Axx×(Axx×Unit)))(j:AxE)(k:List (Axg×Axv))(l:Axv)(b1 c1:Axk):(Int×Int×Int×Int)->St:=λd1=>sT 132 [(0,.ptr 0 a [] 0),(8,dD (.sl Af) b),(9,dD (.sl Af) c),(10,dI g),(13,.ptr 5 0 [] 0),(14,.ptr 6 0 [] 0)] [.box (.pr (dD (.sl Ab) i) (.pr (.ref 2) (.pr (.mp 3) (.pr (.ref 7) .u)))),.row 145 .deep (.pair (.sl Ad) (.pair (.sl Ad) .unit)) d,.row 104 .deep (.sl .bool) j,.map .deep Aa (.sl Aa) k none,.dead,.box (.pr (dI d1.1) (.pr (dI d1.2.1) .u)),.box (.pr (dI d1.2.2.1) (.pr (dI d1.2.2.2) .u)),.row 253 .deep Aa l]
def KT(a:Int)(b c:Axz)(g:Int)(i:Axw)(d:List (Axx×(Axx×Unit)))(j:AxE)(k:List (Axg×Axv))(l:Axv)(b1 c1:Axk):Option (Int×Int×Int×Int) :=
 some (b1.2.1,b1.2.2.1,c1.2.1,c1.2.2.1)
theorem Ao0(a:Int)(b c:Axz)(g:Int)(i:Axw)(d:List (Axx×(Axx×Unit)))(j:AxE)(k:List (Axg×Axv))(l:Axv)(b1 c1:Axk):S4 SF 5 17 (sub (sub (code Tryz.f149) [1,1,1,0,0]) [1,0]) [0,1,0,1,1,1,1,1,0,0] (Ad0 a b c g i d j k l b1 c1) (KT a b c g i d j k l b1 c1) (Yv a b c g i d j k l b1 c1):=by
 unfold S4;have h:drS SF 5 17 (sub (sub (code Tryz.f149) [1,1,1,0,0]) [1,0]) [0,1,0,1,1,1,1,1,0,0] (Ad0 a b c g i d j k l b1 c1) =
 (((Ti (Yv a b c g i d j k l b1 c1 (b1.2.1,b1.2.2.1,c1.2.1,c1.2.2.1)) (Yv a b c g i d j k l b1 c1 (b1.2.1,b1.2.2.1,c1.2.1,c1.2.2.1))).bind λ_ =>
 Ti (Yv a b c g i d j k l b1 c1 (b1.2.1,b1.2.2.1,c1.2.1,c1.2.2.1)) (Yv a b c g i d j k l b1 c1 (b1.2.1,b1.2.2.1,c1.2.1,c1.2.2.1))).bind λ_=>some (Yv a b c g i d j k l b1 c1 (b1.2.1,b1.2.2.1,c1.2.1,c1.2.2.1))):=by kernel_rfl
 rw[h];unfold KT;simp only[Axe,mS,mO];clear h;simp only[if_true,AwW,Nm]
def vZ(a:Int)(b c:Axz)(g:Int)(i:Axw)(d:List (Axx×(Axx×Unit)))(j:AxE)(k:List (Axg×Axv))(l:Axv):St:=sT 132 [(0,.ptr 0 a [] 0),(8,dD (.sl Af) b),(9,dD (.sl Af) c),(10,dI g),(11,.ptr 5 0 [] 0),(12,.ptr 6 0 [] 0)] [.box (.pr (dD (.sl Ab) i) (.pr (.ref 2) (.pr (.mp 3) (.pr (.ref 7) .u)))),.row 145 .deep (.pair (.sl Ad) (.pair (.sl Ad) .unit)) d,.row 104 .deep (.sl .bool) j,.map .deep Aa (.sl Aa) k none,.dead,.box (dD Af (b.getD g.toNat Af.zero)),.box (dD Af (c.getD g.toNat Af.zero)),.row 253 .deep Aa l]
def uZ(a:Int)(b c:Axz)(g:Int)(i:Axw)(d:List (Axx×(Axx×Unit)))(j:AxE)(k:List (Axg×Axv))(l:Axv)(m0:Bool):Ex×St:=(.normal,sT 132 [(0,.ptr 0 a [] 0),(8,dD (.sl Af) b),(9,dD (.sl Af) c),(10,dI g),(11,.ptr 5 0 [] 0),(12,.ptr 6 0 [] 0),(91,dB m0)] [.box (.pr (dD (.sl Ab) i) (.pr (.ref 2) (.pr (.mp 3) (.pr (.ref 7) .u)))),.row 145 .deep (.pair (.sl Ad) (.pair (.sl Ad) .unit)) d,.row 104 .deep (.sl .bool) j,.map .deep Aa (.sl Aa) k none,.dead,.box (dD Af (b.getD g.toNat Af.zero)),.box (dD Af (c.getD g.toNat Af.zero)),.row 253 .deep Aa l])
theorem AoZ(a:Int)(b c:Axz)(g:Int)(i:Axw)(d:List (Axx×(Axx×Unit)))(j:AxE)(k:List (Axg×Axv))(l:Axv):Mn SF 5 17 (sub (sub (code Tryz.f149) [1,1,1,0,0]) [1,0]) [0,1,0,1,1,1,1,0] (vZ a b c g i d j k l)=some (uZ a b c g i d j k l (((b.getD g.toNat Af.zero).1==1)&&((c.getD g.toNat Af.zero).1==1))):=by
 have h0:Mn SF 5 17 (sub (sub (code Tryz.f149) [1,1,1,0,0]) [1,0]) [0,1,0,1,1,1,1,0] (vZ a b c g i d j k l) =
 bif (b.getD g.toNat Af.zero).1==1 then
 some (uZ a b c g i d j k l ((c.getD g.toNat Af.zero).1==1))
 else
 some (uZ a b c g i d j k l false):=by kernel_rfl
 rw[h0];cases h1:((b.getD g.toNat Af.zero).1==1)
 ·first | rfl | kernel_rfl
 ·first | rfl | kernel_rfl
def vY(a:Int)(b c:Axz)(g:Int)(i:Axw)(d:List (Axx×(Axx×Unit)))(j:AxE)(k:List (Axg×Axv))(l:Axv):St:=sT 132 [(0,.ptr 0 a [] 0),(8,dD (.sl Af) b),(9,dD (.sl Af) c),(10,dI g),(11,.ptr 5 0 [] 0),(12,.ptr 6 0 [] 0)] [.box (.pr (dD (.sl Ab) i) (.pr (.ref 2) (.pr (.mp 3) (.pr (.ref 7) .u)))),.row 145 .deep (.pair (.sl Ad) (.pair (.sl Ad) .unit)) d,.row 104 .deep (.sl .bool) j,.map .deep Aa (.sl Aa) k none,.dead,.box (dD Af (b.getD g.toNat Af.zero)),.box (dD Af (c.getD g.toNat Af.zero)),.row 253 .deep Aa l]
def uY(a:Int)(b c:Axz)(g:Int)(i:Axw)(d:List (Axx×(Axx×Unit)))(j:AxE)(k:List (Axg×Axv))(l:Axv)(m0:Bool):Ex×St:=(.normal,sT 132 [(0,.ptr 0 a [] 0),(8,dD (.sl Af) b),(9,dD (.sl Af) c),(10,dI g),(11,.ptr 5 0 [] 0),(12,.ptr 6 0 [] 0),(76,dB m0)] [.box (.pr (dD (.sl Ab) i) (.pr (.ref 2) (.pr (.mp 3) (.pr (.ref 7) .u)))),.row 145 .deep (.pair (.sl Ad) (.pair (.sl Ad) .unit)) d,.row 104 .deep (.sl .bool) j,.map .deep Aa (.sl Aa) k none,.dead,.box (dD Af (b.getD g.toNat Af.zero)),.box (dD Af (c.getD g.toNat Af.zero)),.row 253 .deep Aa l])
theorem AoY(a:Int)(b c:Axz)(g:Int)(i:Axw)(d:List (Axx×(Axx×Unit)))(j:AxE)(k:List (Axg×Axv))(l:Axv):Mn SF 5 15 (sub (sub (code Tryz.f149) [1,1,1,0,0]) [1,0]) [0,1,0,1,1,0] (vY a b c g i d j k l)=some (uY a b c g i d j k l (((b.getD g.toNat Af.zero).1==1)&&((c.getD g.toNat Af.zero).1==0))):=by
 have h0:Mn SF 5 15 (sub (sub (code Tryz.f149) [1,1,1,0,0]) [1,0]) [0,1,0,1,1,0] (vY a b c g i d j k l) =
 bif (b.getD g.toNat Af.zero).1==1 then
 some (uY a b c g i d j k l ((c.getD g.toNat Af.zero).1==0))
 else
 some (uY a b c g i d j k l false):=by kernel_rfl
 rw[h0];cases h1:((b.getD g.toNat Af.zero).1==1)
 ·first | rfl | kernel_rfl
 ·first | rfl | kernel_rfl
def vX(a:Int)(b c:Axz)(g:Int)(i:Axw)(d:List (Axx×(Axx×Unit)))(j:AxE)(k:List (Axg×Axv))(l:Axv):St:=sT 132 [(0,.ptr 0 a [] 0),(8,dD (.sl Af) b),(9,dD (.sl Af) c),(10,dI g),(11,.ptr 5 0 [] 0),(12,.ptr 6 0 [] 0)] [.box (.pr (dD (.sl Ab) i) (.pr (.ref 2) (.pr (.mp 3) (.pr (.ref 7) .u)))),.row 145 .deep (.pair (.sl Ad) (.pair (.sl Ad) .unit)) d,.row 104 .deep (.sl .bool) j,.map .deep Aa (.sl Aa) k none,.dead,.box (dD Af (b.getD g.toNat Af.zero)),.box (dD Af (c.getD g.toNat Af.zero)),.row 253 .deep Aa l]
def uX(a:Int)(b c:Axz)(g:Int)(i:Axw)(d:List (Axx×(Axx×Unit)))(j:AxE)(k:List (Axg×Axv))(l:Axv)(m0:Bool):Ex×St:=(.normal,sT 132 [(0,.ptr 0 a [] 0),(8,dD (.sl Af) b),(9,dD (.sl Af) c),(10,dI g),(11,.ptr 5 0 [] 0),(12,.ptr 6 0 [] 0),(61,dB m0)] [.box (.pr (dD (.sl Ab) i) (.pr (.ref 2) (.pr (.mp 3) (.pr (.ref 7) .u)))),.row 145 .deep (.pair (.sl Ad) (.pair (.sl Ad) .unit)) d,.row 104 .deep (.sl .bool) j,.map .deep Aa (.sl Aa) k none,.dead,.box (dD Af (b.getD g.toNat Af.zero)),.box (dD Af (c.getD g.toNat Af.zero)),.row 253 .deep Aa l])
theorem AoX(a:Int)(b c:Axz)(g:Int)(i:Axw)(d:List (Axx×(Axx×Unit)))(j:AxE)(k:List (Axg×Axv))(l:Axv):Mn SF 5 13 (sub (sub (code Tryz.f149) [1,1,1,0,0]) [1,0]) [0,1,0,0] (vX a b c g i d j k l)=some (uX a b c g i d j k l (((b.getD g.toNat Af.zero).1==0)&&((c.getD g.toNat Af.zero).1==1))):=by
 have h0:Mn SF 5 13 (sub (sub (code Tryz.f149) [1,1,1,0,0]) [1,0]) [0,1,0,0] (vX a b c g i d j k l) =
 bif (b.getD g.toNat Af.zero).1==0 then
 some (uX a b c g i d j k l ((c.getD g.toNat Af.zero).1==1))
 else
 some (uX a b c g i d j k l false):=by kernel_rfl
 rw[h0];cases h1:((b.getD g.toNat Af.zero).1==0)
 ·first | rfl | kernel_rfl
 ·first | rfl | kernel_rfl
def AdZ(a:Int)(b c:Axz)(g:Int)(i:Axw)(d:List (Axx×(Axx×Unit)))(j:AxE)(k:List (Axg×Axv))(l:Axv):St:=sT 132 [(0,.ptr 0 a [] 0),(8,dD (.sl Af) b),(9,dD (.sl Af) c),(10,dI g)] [.box (.pr (dD (.sl Ab) i) (.pr (.ref 2) (.pr (.mp 3) (.pr (.ref 5) .u)))),.row 145 .deep (.pair (.sl Ad) (.pair (.sl Ad) .unit)) d,.row 104 .deep (.sl .bool) j,.map .deep Aa (.sl Aa) k none,.dead,.row 253 .deep Aa l]
def nK(a:Int)(b c:Axz)(g:Int)(i:Axw)(d:List (Axx×(Axx×Unit)))(j:AxE)(k:List (Axg×Axv))(l:Axv):Unit->St:=λe1=>sT 132 [(0,.ptr 0 a [] 0),(8,dD (.sl Af) b),(9,dD (.sl Af) c),(10,dI g),(11,.ptr 5 0 [] 0),(12,.ptr 6 0 [] 0)] [.box (.pr (dD (.sl Ab) i) (.pr (.ref 2) (.pr (.mp 3) (.pr (.ref 7) .u)))),.row 145 .deep (.pair (.sl Ad) (.pair (.sl Ad) .unit)) d,.row 104 .deep (.sl .bool) j,.map .deep Aa (.sl Aa) k none,.dead,.box (dD Af (b.getD g.toNat Af.zero)),.box (dD Af (c.getD g.toNat Af.zero)),.row 253 .deep Aa l]
def GL(a:Int)(b c:Axz)(g:Int)(i:Axw)(d:List (Axx×(Axx×Unit)))(j:AxE)(k:List (Axg×Axv))(l:Axv):Option Unit :=
 if(0:Int)<=g/\g<(b.length:Int) then
 if(0:Int)<=g/\g<(c.length:Int) then
 some ()
 else none
 else none
noncomputable def Fb(a:Int)(b c:Axz)(g:Int)(i:Axw)(d:List (Axx×(Axx×Unit)))(j:AxE)(k:List (Axg×Axv))(l:Axv):Option Unit:=Ti (nK a b c g i d j k l ()) (nK a b c g i d j k l ())
theorem AoW(a:Int)(b c:Axz)(g:Int)(i:Axw)(d:List (Axx×(Axx×Unit)))(j:AxE)(k:List (Axg×Axv))(l:Axv):S4 SF 5 11 (sub (sub (code Tryz.f149) [1,1,1,0,0]) [1,0]) [0,0] (AdZ a b c g i d j k l) (GL a b c g i d j k l) (nK a b c g i d j k l):=by
 unfold S4;have h:drS SF 5 11 (sub (sub (code Tryz.f149) [1,1,1,0,0]) [1,0]) [0,0] (AdZ a b c g i d j k l) =
 if(0:Int)<=g/\g<(b.length:Int) then if(0:Int)<=g/\g<(c.length:Int) then((if(0:Int)<=g/\g<(b.length:Int) then if(0:Int)<=g/\g<(c.length:Int) then(((Fb a b c g i d j k l).bind λ_=>Fb a b c g i d j k l).bind λ_=>((Fb a b c g i d j k l).bind λ_=>(Fb a b c g i d j k l).bind λ_=>Fb a b c g i d j k l).bind λ_=>(Fb a b c g i d j k l).bind λ_=>(Fb a b c g i d j k l).bind λ_=>Fb a b c g i d j k l).bind λ_=>(((Fb a b c g i d j k l).bind λ_=>Fb a b c g i d j k l).bind λ_=>((Fb a b c g i d j k l).bind λ_=>Fb a b c g i d j k l).bind λ_=>(Fb a b c g i d j k l).bind λ_=>Fb a b c g i d j k l).bind λ_=>(((Fb a b c g i d j k l).bind λ_=>(Fb a b c g i d j k l).bind λ_=>Fb a b c g i d j k l).bind λ_=>((Fb a b c g i d j k l).bind λ_=>Fb a b c g i d j k l).bind λ_=>((Fb a b c g i d j k l).bind λ_=>Fb a b c g i d j k l).bind λ_=>Fb a b c g i d j k l).bind λ_=>((Fb a b c g i d j k l).bind λ_=>(Fb a b c g i d j k l).bind λ_=>Fb a b c g i d j k l).bind λ_=>((Fb a b c g i d j k l).bind λ_=>Fb a b c g i d j k l).bind λ_=>((Fb a b c g i d j k l).bind λ_=>Fb a b c g i d j k l).bind λ_=>Fb a b c g i d j k l else none else none).bind λ_=>some (nK a b c g i d j k l ())) else none else none:=by kernel_rfl
 rw[h];unfold GL;simp only[Axe,mS,mO];clear h;by_cases hc0:(0:Int)<=g/\g<(b.length:Int)
 ·rw[if_pos hc0,if_pos hc0];by_cases hc1:(0:Int)<=g/\g<(c.length:Int)
  ·rw[if_pos hc1,if_pos hc1];simp only[Fb,Axc,if_pos hc0,if_pos hc1,if_true,AwW,Nm]
  ·simp only[if_pos hc0,if_true,if_neg hc1]
 ·simp only[if_true,if_neg hc0]
def Dt(a:Int)(b c:Axz)(g:Int)(i:Axw)(d:List (Axx×(Axx×Unit)))(j:AxE)(k:List (Axg×Axv))(l:Axv):Option (Axw×AxE×(List (Axg×Axv))×Axv) :=
 (GL a b c g i d j k l).bind λe1 =>
 N8 (vX a b c g i d j k l) (
 bif ((b.getD g.toNat Af.zero).1==0)&&((c.getD g.toNat Af.zero).1==1) then
 (AW a (c.getD g.toNat Af.zero).2.1 (c.getD g.toNat Af.zero).2.2.1 i j l).bind λg1 =>
 some (g1.1,g1.2.1,k,g1.2.2)
 else
 N8 (vY a b c g i d j k l) (
 bif ((b.getD g.toNat Af.zero).1==1)&&((c.getD g.toNat Af.zero).1==0) then
 (AW a (b.getD g.toNat Af.zero).2.1 (b.getD g.toNat Af.zero).2.2.1 i j l).bind λi1 =>
 some (i1.1,i1.2.1,k,i1.2.2)
 else
 N8 (vZ a b c g i d j k l) (
 bif ((b.getD g.toNat Af.zero).1==1)&&((c.getD g.toNat Af.zero).1==1) then
 (KT a b c g i d j k l (b.getD g.toNat Af.zero) (c.getD g.toNat Af.zero)).bind λd1 =>
 (CK a b c g i d j k l d1.1 d1.2.1 d1.2.2.1 d1.2.2.2).bind λo =>
 (CL a b c g i d j o l d1.1 d1.2.1 d1.2.2.1 d1.2.2.2).bind λv =>
 some (i,j,v,l)
 else
 some (i,j,k,l))))
theorem AgY(a:Int)(b c:Axz)(g:Int)(i:Axw)(d:List (Axx×(Axx×Unit)))(j:AxE)(k:List (Axg×Axv))(l:Axv):AL SF 5 10 (sub (code Tryz.f149) [1,1,1,0,0]) [1,0] (Aga a b c g i d j k l) (Dt a b c g i d j k l) (Afn a b c g i d j k l):=by
 unfold AL;simp only[Dt,Axe];simp(disch:=refine sI ?_<;>(repeat' refine sA ?_ ?_)<;>intro _<;>kernel_rfl) only[WW (AoW _ _ _ _ _ _ _ _ _) (K:=CU 5 (SF.jn 10)),F7 (AoX _ _ _ _ _ _ _ _ _) (K:=CU 5 (SF.jn 10)),F7 (AoY _ _ _ _ _ _ _ _ _) (K:=CU 5 (SF.jn 10)),F7 (AoZ _ _ _ _ _ _ _ _ _) (K:=CU 5 (SF.jn 10)),WW (Ao0 _ _ _ _ _ _ _ _ _ _ _) (K:=CU 5 (SF.jn 10)),WW (Ao1 _ _ _ _ _ _ _ _ _ _ _ _ _) (K:=CU 5 (SF.jn 10)),WW (Ao2 _ _ _ _ _ _ _ _ _ _ _ _ _) (K:=CU 5 (SF.jn 10))]
 kernel_rfl
def Es(a:Int)(b c:Axz)(d:List (Axx×(Axx×Unit)))(g:Int)(i:Axw)(j:AxE)(k:List (Axg×Axv))(l:Axv):Option ((Int×Axw×AxE×(List (Axg×Axv))×Axv)⊕(Axw×AxE×(List (Axg×Axv))×Axv)) :=
 bif decide (g<(b.length:Int)) then
 (Dt a b c g i d j k l).bind λn =>
 some (.inl ((wI (g+1)),n.1,n.2.1,n.2.2.1,n.2.2.2))
 else
 some (.inr (i,j,k,l))
def BP(a:Int)(b c:Axz)(d:List (Axx×(Axx×Unit)))(z_:Int×Axw×AxE×(List (Axg×Axv))×Axv):=Es a b c d z_.1 z_.2.1 z_.2.2.1 z_.2.2.2.1 z_.2.2.2.2
def F4(a:Int)(b c:Axz)(d:List (Axx×(Axx×Unit)))(g:Int)(i:Axw)(j:AxE)(k:List (Axg×Axv))(l:Axv):=fix (BP a b c d) (g,i,j,k,l)
theorem AgZ(a:Int)(b c:Axz)(d:List (Axx×(Axx×Unit))):AU SF 5 9 (code Tryz.f149) [1,1,1,0] (Agb a b c d) (BP a b c d) (Afo a b c d):=by
 intro _;simp only[BP,Es,Axe];simp(disch:=refine sI ?_<;>(repeat' refine sA ?_ ?_)<;>intro _<;>kernel_rfl) only[A6 (AgY _ _ _ _ _ _ _ _ _) (K:=Be 5 (SF.hd 9) (SF.ot 9))]
 kernel_rfl
def Amk(a:Int)(j1 k1:Axx)(d:List (Axx×(Axx×Unit)))(l1:List (Axg×Axv))(n1:Axx)(o1:Int)(z_:Int×Axw×AxE×Axv):St:=sT 132 [(0,.ptr 0 a [] 0),(1,.dat [1] (.sl Ad) j1),(2,.dat [1] (.sl Ad) k1),(18,.ref 5),(19,dI o1),(20,dI z_.1)] [.box (.pr (dD (.sl Ab) z_.2.1) (.pr (.ref 2) (.pr (.mp 3) (.pr (.ref 6) .u)))),.row 145 .deep (.pair (.sl Ad) (.pair (.sl Ad) .unit)) d,.row 104 .deep (.sl .bool) z_.2.2.1,.map .deep Aa (.sl Aa) l1 none,.dead,.row 238 (.sh [1]) Ad n1,.row 253 .deep Aa z_.2.2.2]
def Aj7(a:Int)(j1 k1:Axx)(d:List (Axx×(Axx×Unit)))(l1:List (Axg×Axv))(n1:Axx)(o1:Int):(Axw×AxE×Axv)->Ex×St:=λq1=>((.exit 0),sT 132 [(0,.ptr 0 a [] 0),(1,.dat [1] (.sl Ad) j1),(2,.dat [1] (.sl Ad) k1)] [.box (.pr (dD (.sl Ab) q1.1) (.pr (.ref 2) (.pr (.mp 3) (.pr (.ref 5) .u)))),.row 145 .deep (.pair (.sl Ad) (.pair (.sl Ad) .unit)) d,.row 104 .deep (.sl .bool) q1.2.1,.map .deep Aa (.sl Aa) l1 none,.dead,.row 253 .deep Aa q1.2.2])
def Amj(a:Int)(j1 k1:Axx)(o1 s1:Int)(t1:Axw)(d:List (Axx×(Axx×Unit)))(u1:AxE)(l1:List (Axg×Axv))(n1:Axx)(v1:Axv):St:=sT 132 [(0,.ptr 0 a [] 0),(1,.dat [1] (.sl Ad) j1),(2,.dat [1] (.sl Ad) k1),(18,.ref 5),(19,dI o1),(20,dI s1)] [.box (.pr (dD (.sl Ab) t1) (.pr (.ref 2) (.pr (.mp 3) (.pr (.ref 6) .u)))),.row 145 .deep (.pair (.sl Ad) (.pair (.sl Ad) .unit)) d,.row 104 .deep (.sl .bool) u1,.map .deep Aa (.sl Aa) l1 none,.dead,.row 238 (.sh [1]) Ad n1,.row 253 .deep Aa v1]
def Aj6(a:Int)(j1 k1:Axx)(o1 s1:Int)(t1:Axw)(d:List (Axx×(Axx×Unit)))(u1:AxE)(l1:List (Axg×Axv))(n1:Axx)(v1:Axv):(Axw×AxE×Axv)->Ex×St:=λw1=>(.normal,sT 132 [(0,.ptr 0 a [] 0),(1,.dat [1] (.sl Ad) j1),(2,.dat [1] (.sl Ad) k1),(18,.ref 5),(19,dI o1),(20,dI s1)] [.box (.pr (dD (.sl Ab) w1.1) (.pr (.ref 2) (.pr (.mp 3) (.pr (.ref 6) .u)))),.row 145 .deep (.pair (.sl Ad) (.pair (.sl Ad) .unit)) d,.row 104 .deep (.sl .bool) w1.2.1,.map .deep Aa (.sl Aa) l1 none,.dead,.row 238 (.sh [1]) Ad n1,.row 253 .deep Aa w1.2.2])
def Ej(a:Int)(j1 k1:Axx)(o1 s1:Int)(t1:Axw)(d:List (Axx×(Axx×Unit)))(u1:AxE)(l1:List (Axg×Axv))(n1:Axx)(v1:Axv):Option (Axw×AxE×Axv) :=
 if(0:Int)<=s1/\s1<(n1.length:Int) then
 bif decide ((n1.getD s1.toNat Ad.zero).1>=0) then
 (AW a (n1.getD s1.toNat Ad.zero).1 (n1.getD s1.toNat Ad.zero).2.1 t1 u1 v1).bind λx1 =>
 (AW a (n1.getD s1.toNat Ad.zero).1 (wI ((n1.getD s1.toNat Ad.zero).2.1+(n1.getD s1.toNat Ad.zero).2.2.1)) x1.1 x1.2.1 x1.2.2).bind λy1 =>
 some (y1.1,y1.2.1,y1.2.2)
 else
 some (t1,u1,v1)
 else none
theorem AoU(a:Int)(j1 k1:Axx)(o1 s1:Int)(t1:Axw)(d:List (Axx×(Axx×Unit)))(u1:AxE)(l1:List (Axg×Axv))(n1:Axx)(v1:Axv):AL SF 5 6 (sub (code Tryz.f149) [0,1,0,0]) [1,1,0] (Amj a j1 k1 o1 s1 t1 d u1 l1 n1 v1) (Ej a j1 k1 o1 s1 t1 d u1 l1 n1 v1) (Aj6 a j1 k1 o1 s1 t1 d u1 l1 n1 v1):=by
 unfold AL;simp only[Ej,Axe];kernel_rfl
def FC(a:Int)(j1 k1:Axx)(d:List (Axx×(Axx×Unit)))(l1:List (Axg×Axv))(n1:Axx)(o1 s1:Int)(t1:Axw)(u1:AxE)(v1:Axv):Option ((Int×Axw×AxE×Axv)⊕(Axw×AxE×Axv)) :=
 bif decide (s1<o1) then
 (Ej a j1 k1 o1 s1 t1 d u1 l1 n1 v1).bind λw1 =>
 some (.inl ((wI (s1+1)),w1.1,w1.2.1,w1.2.2))
 else
 some (.inr (t1,u1,v1))
def BZ(a:Int)(j1 k1:Axx)(d:List (Axx×(Axx×Unit)))(l1:List (Axg×Axv))(n1:Axx)(o1:Int)(z_:Int×Axw×AxE×Axv):=FC a j1 k1 d l1 n1 o1 z_.1 z_.2.1 z_.2.2.1 z_.2.2.2
def GK(a:Int)(j1 k1:Axx)(d:List (Axx×(Axx×Unit)))(l1:List (Axg×Axv))(n1:Axx)(o1 s1:Int)(t1:Axw)(u1:AxE)(v1:Axv):=fix (BZ a j1 k1 d l1 n1 o1) (s1,t1,u1,v1)
theorem AoV(a:Int)(j1 k1:Axx)(d:List (Axx×(Axx×Unit)))(l1:List (Axg×Axv))(n1:Axx)(o1:Int):AU SF 5 1 (code Tryz.f149) [0,1,0] (Amk a j1 k1 d l1 n1 o1) (BZ a j1 k1 d l1 n1 o1) (Aj7 a j1 k1 d l1 n1 o1):=by
 intro _;simp only[BZ,FC,Axe];simp(disch:=refine sI ?_<;>(repeat' refine sA ?_ ?_)<;>intro _<;>kernel_rfl) only[A6 (AoU _ _ _ _ _ _ _ _ _ _ _) (K:=Be 5 (SF.hd 1) (SF.ot 1))]
 kernel_rfl
def EK(a:Int)(j1 k1:Axx)(a2:Axw)(d:List (Axx×(Axx×Unit)))(b2:AxE)(l1:List (Axg×Axv))(c2:Axv):Option (Axw×(List (Axx×(Axx×Unit)))×AxE×(List (Axg×Axv))×Axv) :=
 (DR ([j1,k1]:AxG)).bind λn1 =>
 (GK a j1 k1 d l1 n1 (n1.length:Int) 0 a2 b2 c2).bind λq1 =>
 (F6 j1).bind λb =>
 (F6 k1).bind λc =>
 (F4 a b c d 1 q1.1 q1.2.1 l1 q1.2.2).bind λe =>
 some (e.1,d,e.2.1,e.2.2.1,e.2.2.2)
theorem U90(R:Type)(a:Int)(j1 k1:Axx)(a2:Axw)(d:List (Axx×(Axx×Unit)))(b2:AxE)(l1:List (Axg×Axv))(c2:Axv)(K:AV->List Blk->Option R):AH SF Tryz.f149 R [.ptr 0 a [] 0,.dat [1] (.sl Ad) j1,.dat [1] (.sl Ad) k1] [.box (.pr (dD (.sl Ab) a2) (.pr (.ref 2) (.pr (.mp 3) (.pr (.ref 4) .u)))),.row 145 .deep (.pair (.sl Ad) (.pair (.sl Ad) .unit)) d,.row 104 .deep (.sl .bool) b2,.map .deep Aa (.sl Aa) l1 none,.row 253 .deep Aa c2] K=(EK a j1 k1 a2 d b2 l1 c2).bind λr=>K .nil [.box (.pr (dD (.sl Ab) r.1) (.pr (.ref 2) (.pr (.mp 3) (.pr (.ref 5) .u)))),.row 145 .deep (.pair (.sl Ad) (.pair (.sl Ad) .unit)) r.2.1,.row 104 .deep (.sl .bool) r.2.2.1,.map .deep Aa (.sl Aa) r.2.2.2.1 none,.dead,.row 253 .deep Aa r.2.2.2.2]:=by
 simp only[EK,Axf];simp(disch:=refine sI ?_<;>(repeat' refine sA ?_ ?_)<;>intro _<;>kernel_rfl) only[GK,Ax (AoV _ _ _ _ _ _ _) (K:=AP SF Tryz.f149 5 R K),F4,Ax (AgZ _ _ _ _) (K:=AP SF Tryz.f149 5 R K)]
 kernel_rfl
def Apw:Va.Callee:=BX [.raw,.raw,.raw] [⟨[.ptr 0 [] 0,.dat [1] (.sl Ad),.dat [1] (.sl Ad)],[.box (.pr (.dat [] (.sl Ab)) (.pr (.k (.ref 2)) (.pr (.k (.mp 3)) (.pr (.k (.ref 4)) (.k .u))))),.row 145 .deep (.pair (.sl Ad) (.pair (.sl Ad) .unit)),.row 104 .deep (.sl .bool),.map .deep Aa (.sl Aa),.row 253 .deep Aa],(Axw×(List (Axx×(Axx×Unit)))×AxE×(List (Axg×Axv))×Axv),λp=>EK p.1.1 p.1.2.1 p.1.2.2.1 p.2.1.1 p.2.2.1 p.2.2.2.1 p.2.2.2.2.1 p.2.2.2.2.2.1,λr=>(.nil,[.box (.pr (dD (.sl Ab) r.1) (.pr (.ref 2) (.pr (.mp 3) (.pr (.ref 5) .u)))),.row 145 .deep (.pair (.sl Ad) (.pair (.sl Ad) .unit)) r.2.1,.row 104 .deep (.sl .bool) r.2.2.1,.map .deep Aa (.sl Aa) r.2.2.2.1 none,.dead,.row 253 .deep Aa r.2.2.2.2])⟩]
theorem xq:An Tryz.prog 149 Apw:=Ap (fn:=Tryz.f149) (by kernel_rfl) (by kernel_rfl) (by kernel_rfl) ⟨⟨SF,⟨⟨Aw,Ao ⟨WG,xY,xZ,trivial⟩⟩,mixed⟩,λp R K=>U90 R p.1.1 p.1.2.1 p.1.2.2.1 p.2.1.1 p.2.2.1 p.2.2.2.1 p.2.2.2.2.1 p.2.2.2.2.2.1 K⟩,trivial⟩
abbrev dM:Env:=⟨tab,As [(203,c203)],{deep:=true,take:=[37],heads:=[(1,{live:=[0,2],mvp:=[(0,[3])]}),(6,{live:=[0,2,45,46,47]}),(12,{live:=[2,7,68,69,70]}),(15,{live:=[2,7,8,68,69,70,75,76,77]})],outs:=[(1,{live:=[0,2]}),(6,{live:=[0,2]}),(12,{live:=[2,7]}),(15,{live:=[2,7,68,69,70]})],joins:=[(19,{live:=[2,7,8,68,69,70,75,76,77]})],draws:=[(18,{live:=[2,7,8,68,69,70,75,76,77]})],ents:=[(19,[2,7,8,68,69,70,75,76,77])],fM:=[(18,[2,7,8,10,68,69,70,75,76,77])],stl:=[90]}⟩
def Amp(a:List (Axg×Axv))(b:Int)(c:Axw)(d:AxE)(e:Axv)(z_:Int×AxD):St:=sT 98 [(2,.ptr 4 0 [] 0),(7,.ptr 5 0 [] 0),(68,.ref 1),(69,dI b),(70,dI z_.1)] [.box (.pr (dD (.sl Ab) c) (.pr (.ref 1) (.pr (.mp 2) (.pr (.ref 6) .u)))),.row 104 .deep (.sl .bool) d,.map .deep Aa (.sl Aa) a none,.dead,.box (.pr .zs .u),.box (.pr (.ref 7) .u),.row 253 .deep Aa e,.row 72 .deep (.sl (.int .i64)) z_.2]
def Akc(a:List (Axg×Axv))(b:Int)(c:Axw)(d:AxE)(e:Axv):AxD->Ex×St:=λg=>((.exit 4),sT 98 [(2,.ptr 4 0 [] 0),(7,.ptr 5 0 [] 0)] [.box (.pr (dD (.sl Ab) c) (.pr (.ref 1) (.pr (.mp 2) (.pr (.ref 6) .u)))),.row 104 .deep (.sl .bool) d,.map .deep Aa (.sl Aa) a none,.dead,.box (.pr .zs .u),.box (.pr (.ref 7) .u),.row 253 .deep Aa e,.row 72 .deep (.sl (.int .i64)) g])
def Amo(i b:Int)(c:Axw)(d:AxE)(a:List (Axg×Axv))(e:Axv)(j:Axt)(k:Int)(z_:Int×AxD):St:=sT 98 [(2,.ptr 4 0 [] 0),(7,.ptr 5 0 [] 0),(8,dI i),(68,.ref 1),(69,dI b),(70,dI i),(75,.dat [1] (.sl .bool) j),(76,dI k),(77,dI z_.1)] [.box (.pr (dD (.sl Ab) c) (.pr (.ref 1) (.pr (.mp 2) (.pr (.ref 6) .u)))),.row 104 .deep (.sl .bool) d,.map .deep Aa (.sl Aa) a none,.dead,.box (.pr .zs .u),.box (.pr (.ref 7) .u),.row 253 .deep Aa e,.row 72 .deep (.sl (.int .i64)) z_.2]
def Akb(i b:Int)(c:Axw)(d:AxE)(a:List (Axg×Axv))(e:Axv)(j:Axt)(k:Int):AxD->Ex×St:=λl=>((.exit 6),sT 98 [(2,.ptr 4 0 [] 0),(7,.ptr 5 0 [] 0),(68,.ref 1),(69,dI b),(70,dI i)] [.box (.pr (dD (.sl Ab) c) (.pr (.ref 1) (.pr (.mp 2) (.pr (.ref 6) .u)))),.row 104 .deep (.sl .bool) d,.map .deep Aa (.sl Aa) a none,.dead,.box (.pr .zs .u),.box (.pr (.ref 7) .u),.row 253 .deep Aa e,.row 72 .deep (.sl (.int .i64)) l])
def Amn(i b:Int)(j:Axt)(k n:Int)(c:Axw)(d:AxE)(a:List (Axg×Axv))(e:Axv)(o:AxD):St:=sT 98 [(2,.ptr 4 0 [] 0),(7,.ptr 5 0 [] 0),(8,dI i),(68,.ref 1),(69,dI b),(70,dI i),(75,.dat [1] (.sl .bool) j),(76,dI k),(77,dI n)] [.box (.pr (dD (.sl Ab) c) (.pr (.ref 1) (.pr (.mp 2) (.pr (.ref 6) .u)))),.row 104 .deep (.sl .bool) d,.map .deep Aa (.sl Aa) a none,.dead,.box (.pr .zs .u),.box (.pr (.ref 7) .u),.row 253 .deep Aa e,.row 72 .deep (.sl (.int .i64)) o]
def Aka(i b:Int)(j:Axt)(k n:Int)(c:Axw)(d:AxE)(a:List (Axg×Axv))(e:Axv)(o:AxD):AxD->Ex×St:=λq=>(.normal,sT 98 [(2,.ptr 4 0 [] 0),(7,.ptr 5 0 [] 0),(8,dI i),(68,.ref 1),(69,dI b),(70,dI i),(75,.dat [1] (.sl .bool) j),(76,dI k),(77,dI n)] [.box (.pr (dD (.sl Ab) c) (.pr (.ref 1) (.pr (.mp 2) (.pr (.ref 6) .u)))),.row 104 .deep (.sl .bool) d,.map .deep Aa (.sl Aa) a none,.dead,.box (.pr .zs .u),.box (.pr (.ref 7) .u),.row 253 .deep Aa e,.row 72 .deep (.sl (.int .i64)) q])
def Ad3(i n b:Int)(j:Axt)(k:Int)(c:Axw)(d:AxE)(a:List (Axg×Axv))(e:Axv)(o:AxD):St:=sT 98 [(2,.ptr 4 0 [] 0),(7,.ptr 5 0 [] 0),(8,dI i),(10,dI n),(68,.ref 1),(69,dI b),(70,dI i),(75,.dat [1] (.sl .bool) j),(76,dI k),(77,dI n)] [.box (.pr (dD (.sl Ab) c) (.pr (.ref 1) (.pr (.mp 2) (.pr (.ref 6) .u)))),.row 104 .deep (.sl .bool) d,.map .deep Aa (.sl Aa) a none,.dead,.box (.pr .zs .u),.box (.pr (.ref 7) .u),.row 253 .deep Aa e,.row 72 .deep (.sl (.int .i64)) o]
def nN(i n b:Int)(j:Axt)(k:Int)(c:Axw)(d:AxE)(a:List (Axg×Axv))(e:Axv)(o:AxD):Unit->St:=λs=>sT 98 [(2,.ptr 4 0 [] 0),(7,.ptr 5 0 [] 0),(8,dI i),(68,.ref 1),(69,dI b),(70,dI i),(75,.dat [1] (.sl .bool) j),(76,dI k),(77,dI n)] [.box (.pr (dD (.sl Ab) c) (.pr (.ref 1) (.pr (.mp 2) (.pr (.ref 6) .u)))),.row 104 .deep (.sl .bool) d,.map .deep Aa (.sl Aa) a none,.dead,.box (.pr .zs .u),.box (.pr (.ref 7) .u),.row 253 .deep Aa e,.row 72 .deep (.sl (.int .i64)) (o.set i.toNat ((o.getD i.toNat (Ty.zero (.sl (.int .i64))))++([n]:Axs)))]
def F1(i n b:Int)(j:Axt)(k:Int)(c:Axw)(d:AxE)(a:List (Axg×Axv))(e:Axv)(o:AxD):Option Unit :=
 if(0:Int)<=i/\i<(o.length:Int) then
 if((o.getD i.toNat (Ty.zero (.sl (.int .i64)))).length+([n]:Axs).length)*8<=140737488355328 then
 if(0:Int)<=i/\i<(o.length:Int) then
 if i=i then
 some ()
 else none
 else none
 else none
 else none
noncomputable def Oi(i n b:Int)(j:Axt)(k:Int)(c:Axw)(d:AxE)(a:List (Axg×Axv))(e:Axv)(o:AxD):Option Unit:=if((o.getD i.toNat (Ty.zero (.sl (.int .i64)))).length+([n]:Axs).length)*8<=140737488355328 then if(0:Int)<=i/\i<(o.length:Int) then if i=i then Ti (nN i n b j k c d a e o ()) (nN i n b j k c d a e o ()) else none else none else none
theorem Ao5(i n b:Int)(j:Axt)(k:Int)(c:Axw)(d:AxE)(a:List (Axg×Axv))(e:Axv)(o:AxD):S4 dM 4 18 (sub (sub (sub (code Tryz.f150) [1,1,1,0,1,0,0]) [1,1,0,0,1,1,0,0]) [1,1,0]) [0,1,1,0] (Ad3 i n b j k c d a e o) (F1 i n b j k c d a e o) (nN i n b j k c d a e o):=by
 unfold S4;have h:drS dM 4 18 (sub (sub (sub (code Tryz.f150) [1,1,1,0,1,0,0]) [1,1,0,0,1,1,0,0]) [1,1,0]) [0,1,1,0] (Ad3 i n b j k c d a e o) =
 if(0:Int)<=i/\i<(o.length:Int) then if((o.getD i.toNat (Ty.zero (.sl (.int .i64)))).length+([n]:Axs).length)*8<=140737488355328 then if(0:Int)<=i/\i<(o.length:Int) then if i=i then((((if(0:Int)<=i/\i<(o.length:Int) then(Oi i n b j k c d a e o).bind λ_=>Oi i n b j k c d a e o else none).bind λ_=>if(0:Int)<=i/\i<(o.length:Int) then Oi i n b j k c d a e o else none).bind λ_=>(if(0:Int)<=i/\i<(o.length:Int) then((Oi i n b j k c d a e o).bind λ_=>Oi i n b j k c d a e o).bind λ_=>((Oi i n b j k c d a e o).bind λ_=>(Oi i n b j k c d a e o).bind λ_=>Oi i n b j k c d a e o).bind λ_=>(Oi i n b j k c d a e o).bind λ_=>(Oi i n b j k c d a e o).bind λ_=>Oi i n b j k c d a e o else none).bind λ_=>(if(0:Int)<=i/\i<(o.length:Int) then Oi i n b j k c d a e o else none).bind λ_=>if(0:Int)<=i/\i<(o.length:Int) then(Oi i n b j k c d a e o).bind λ_=>(Oi i n b j k c d a e o).bind λ_=>Oi i n b j k c d a e o else none).bind λ_=>some (nN i n b j k c d a e o ())) else none else none else none else none:=by kernel_rfl
 rw[h];unfold F1;simp only[Axe,mS,mO];clear h;by_cases hc0:(0:Int)<=i/\i<(o.length:Int)
 ·rw[if_pos hc0,if_pos hc0];by_cases hc1:((o.getD i.toNat (Ty.zero (.sl (.int .i64)))).length+([n]:Axs).length)*8<=140737488355328
  ·rw[if_pos hc1,if_pos hc1];simp only[Oi,Axc,if_pos hc0,if_pos hc1,if_true,AwW,Nm]
  ·simp only[if_pos hc0,if_true,if_neg hc1]
 ·simp only[if_true,if_neg hc0]
def Dr(i b:Int)(j:Axt)(k n:Int)(c:Axw)(d:AxE)(a:List (Axg×Axv))(e:Axv)(o:AxD):Option AxD :=
 if(0:Int)<=n/\n<(j.length:Int) then
 bif j.getD n.toNat (Ty.zero .bool) then
 (F1 i n b j k c d a e o).bind λs =>
 some (o.set i.toNat ((o.getD i.toNat (Ty.zero (.sl (.int .i64))))++([n]:Axs)))
 else
 some o
 else none
theorem Ao6(i b:Int)(j:Axt)(k n:Int)(c:Axw)(d:AxE)(a:List (Axg×Axv))(e:Axv)(o:AxD):AL dM 4 19 (sub (sub (code Tryz.f150) [1,1,1,0,1,0,0]) [1,1,0,0,1,1,0,0]) [1,1,0] (Amn i b j k n c d a e o) (Dr i b j k n c d a e o) (Aka i b j k n c d a e o):=by
 unfold AL;simp only[Dr,Axe];simp(disch:=refine sI ?_<;>(repeat' refine sA ?_ ?_)<;>intro _<;>kernel_rfl) only[WW (Ao5 _ _ _ _ _ _ _ _ _ _) (K:=CU 4 (dM.jn 19))]
 kernel_rfl
def Ep(i b:Int)(c:Axw)(d:AxE)(a:List (Axg×Axv))(e:Axv)(j:Axt)(k n:Int)(o:AxD):Option ((Int×AxD)⊕AxD) :=
 bif decide (n<k) then
 (Dr i b j k n c d a e o).bind λq =>
 some (.inl ((wI (n+1)),q))
 else
 some (.inr o)
def BN(i b:Int)(c:Axw)(d:AxE)(a:List (Axg×Axv))(e:Axv)(j:Axt)(k:Int)(z_:Int×AxD):=Ep i b c d a e j k z_.1 z_.2
def F2(i b:Int)(c:Axw)(d:AxE)(a:List (Axg×Axv))(e:Axv)(j:Axt)(k n:Int)(o:AxD):=fix (BN i b c d a e j k) (n,o)
theorem Ao7(i b:Int)(c:Axw)(d:AxE)(a:List (Axg×Axv))(e:Axv)(j:Axt)(k:Int):AU dM 4 15 (sub (code Tryz.f150) [1,1,1,0,1,0,0]) [1,1,0,0,1,1,0] (Amo i b c d a e j k) (BN i b c d a e j k) (Akb i b c d a e j k):=by
 intro _;simp only[BN,Ep,Axe];simp(disch:=refine sI ?_<;>(repeat' refine sA ?_ ?_)<;>intro _<;>kernel_rfl) only[A6 (Ao6 _ _ _ _ _ _ _ _ _ _) (K:=Be 4 (dM.hd 15) (dM.ot 15))]
 kernel_rfl
def Er(a:List (Axg×Axv))(b:Int)(c:Axw)(d:AxE)(e:Axv)(i:Int)(t:AxD):Option ((Int×AxD)⊕AxD) :=
 bif decide (i<b) then
 if(0:Int)<=i/\i<(d.length:Int) then
 (F2 i b c d a e (d.getD i.toNat (Ty.zero (.sl .bool))) ((d.getD i.toNat (Ty.zero (.sl .bool))).length:Int) 0 t).bind λl =>
 some (.inl ((wI (i+1)),l))
 else none
 else
 some (.inr t)
def BO(a:List (Axg×Axv))(b:Int)(c:Axw)(d:AxE)(e:Axv)(z_:Int×AxD):=Er a b c d e z_.1 z_.2
def F3(a:List (Axg×Axv))(b:Int)(c:Axw)(d:AxE)(e:Axv)(i:Int)(t:AxD):=fix (BO a b c d e) (i,t)
theorem Ao8(a:List (Axg×Axv))(b:Int)(c:Axw)(d:AxE)(e:Axv):AU dM 4 12 (code Tryz.f150) [1,1,1,0,1,0] (Amp a b c d e) (BO a b c d e) (Akc a b c d e):=by
 intro _;simp only[BO,Er,Axe];simp(disch:=refine sI ?_<;>(repeat' refine sA ?_ ?_)<;>intro _<;>kernel_rfl) only[F2,Ax (Ao7 _ _ _ _ _ _ _ _) (K:=Be 4 (dM.hd 12) (dM.ot 12))]
 kernel_rfl
def Amm(u:Int)(a:List (Axg×Axv))(z_:Axw×AxE×Axv):St:=sT 98 [(0,.ptr 0 u [] 0),(2,.ptr 4 0 [] 0)] [.box (.pr (dD (.sl Ab) z_.1) (.pr (.ref 1) (.pr (.mp 2) (.pr (.ref 5) .u)))),.row 104 .deep (.sl .bool) z_.2.1,.map .deep Aa (.sl Aa) a none,.dead,.box (.pr .zs .u),.row 253 .deep Aa z_.2.2]
def Aj9(u:Int)(a:List (Axg×Axv)):(Axw×AxE×Axv)->Ex×St:=λv=>((.exit 0),sT 98 [(0,.ptr 0 u [] 0),(2,.ptr 4 0 [] 0)] [.box (.pr (dD (.sl Ab) v.1) (.pr (.ref 1) (.pr (.mp 2) (.pr (.ref 5) .u)))),.row 104 .deep (.sl .bool) v.2.1,.map .deep Aa (.sl Aa) a none,.dead,.box (.pr .zs .u),.row 253 .deep Aa v.2.2])
def Aml(u:Int)(a:List (Axg×Axv))(w:Axv)(x:Int)(z_:Int×Axw×AxE×Axv):St:=sT 98 [(0,.ptr 0 u [] 0),(2,.ptr 4 0 [] 0),(45,.dat [2] (.sl Aa) w),(46,dI x),(47,dI z_.1)] [.box (.pr (dD (.sl Ab) z_.2.1) (.pr (.ref 1) (.pr (.mp 2) (.pr (.ref 5) .u)))),.row 104 .deep (.sl .bool) z_.2.2.1,.map .deep Aa (.sl Aa) a none,.dead,.box (.pr .zs .u),.row 253 .deep Aa z_.2.2.2]
def Aj8(u:Int)(a:List (Axg×Axv))(w:Axv)(x:Int):(Axw×AxE×Axv)->Ex×St:=λy=>((.exit 2),sT 98 [(0,.ptr 0 u [] 0),(2,.ptr 4 0 [] 0)] [.box (.pr (dD (.sl Ab) y.1) (.pr (.ref 1) (.pr (.mp 2) (.pr (.ref 5) .u)))),.row 104 .deep (.sl .bool) y.2.1,.map .deep Aa (.sl Aa) a none,.dead,.box (.pr .zs .u),.row 253 .deep Aa y.2.2])
def En(u:Int)(a:List (Axg×Axv))(w:Axv)(x a1:Int)(b1:Axw)(c1:AxE)(d1:Axv):Option ((Int×Axw×AxE×Axv)⊕(Axw×AxE×Axv)) :=
 bif decide (a1<x) then
 if(0:Int)<=a1/\a1<(w.length:Int) then
 (AW u (w.getD a1.toNat Aa.zero).1 (w.getD a1.toNat Aa.zero).2.1 b1 c1 d1).bind λe1 =>
 some (.inl ((wI (a1+1)),e1.1,e1.2.1,e1.2.2))
 else none
 else
 some (.inr (b1,c1,d1))
def BM(u:Int)(a:List (Axg×Axv))(w:Axv)(x:Int)(z_:Int×Axw×AxE×Axv):=En u a w x z_.1 z_.2.1 z_.2.2.1 z_.2.2.2
def Dq(u:Int)(a:List (Axg×Axv))(w:Axv)(x a1:Int)(b1:Axw)(c1:AxE)(d1:Axv):=fix (BM u a w x) (a1,b1,c1,d1)
theorem Ao3(u:Int)(a:List (Axg×Axv))(w:Axv)(x:Int):AU dM 4 6 (sub (code Tryz.f150) [1,0,0,0]) [1,0,1,1,1,1,0] (Aml u a w x) (BM u a w x) (Aj8 u a w x):=by
 intro _;simp only[BM,En,Axe];kernel_rfl
def HG(u:Int)(a:List (Axg×Axv))(g1:Axw)(i1:AxE)(j1:Axv):Option ((Axw×AxE×Axv)⊕(Axw×AxE×Axv)) :=
 bif decide ((j1.length:Int)>0) then
 if(0:Int)<=(wI ((j1.length:Int)-1))/\(wI ((j1.length:Int)-1))<(j1.length:Int) then
 if(0:Int)<=(wI ((j1.length:Int)-1))/\(wI ((j1.length:Int)-1))<=(j1.length:Int) then
 (Dq u a (BG Aa (.sl Aa) a (j1.getD (wI ((j1.length:Int)-1)).toNat Aa.zero)) ((BG Aa (.sl Aa) a (j1.getD (wI ((j1.length:Int)-1)).toNat Aa.zero)).length:Int) 0 g1 i1 (j1.take (wI ((j1.length:Int)-1)).toNat)).bind λy =>
 some (.inl (y.1,y.2.1,y.2.2))
 else none
 else none
 else
 some (.inr (g1,i1,j1))
def Eo(u:Int)(a:List (Axg×Axv))(z_:Axw×AxE×Axv):=HG u a z_.1 z_.2.1 z_.2.2
def F0(u:Int)(a:List (Axg×Axv))(g1:Axw)(i1:AxE)(j1:Axv):=fix (Eo u a) (g1,i1,j1)
theorem Ao4(u:Int)(a:List (Axg×Axv)):AU dM 4 1 (code Tryz.f150) [1,0,0] (Amm u a) (Eo u a) (Aj9 u a):=by
 intro _;simp only[Eo,HG,Axe];simp(disch:=refine sI ?_<;>(repeat' refine sA ?_ ?_)<;>intro _<;>kernel_rfl) only[Dq,Ax (Ao3 _ _ _ _) (K:=Be 4 (dM.hd 1) (dM.ot 1))]
 kernel_rfl
def FZ(u:Int)(k1:Axw)(l1:AxE)(a:List (Axg×Axv))(n1:Axv):Option (Axw×AxE×(List (Axg×Axv))×AxD×Axv) :=
 (F0 u a k1 l1 n1).bind λv =>
 if Ty.row (.sl (.int .i64))=true/\(0:Int)<=(v.1.length:Int)/\(v.1.length:Int)<=(v.1.length:Int)/\((24:Nat):Int)*(v.1.length:Int)<=(281474976710656:Int)/\(v.1.length:Int)<=(9223372036854775807:Int) then
 (F3 a (v.2.1.length:Int) v.1 v.2.1 v.2.2 0 (List.replicate (v.1.length:Int).toNat ([]:Axs))).bind λg =>
 some (v.1,v.2.1,a,g,v.2.2)
 else none
theorem U91(R:Type)(u:Int)(k1:Axw)(l1:AxE)(a:List (Axg×Axv))(n1:Axv)(K:AV->List Blk->Option R):AH dM Tryz.f150 R [.ptr 0 u [] 0] [.box (.pr (dD (.sl Ab) k1) (.pr (.ref 1) (.pr (.mp 2) (.pr (.ref 3) .u)))),.row 104 .deep (.sl .bool) l1,.map .deep Aa (.sl Aa) a none,.row 253 .deep Aa n1] K=(FZ u k1 l1 a n1).bind λr=>K (.pr (.ref 4) .u) [.box (.pr (dD (.sl Ab) r.1) (.pr (.ref 1) (.pr (.mp 2) (.pr (.ref 5) .u)))),.row 104 .deep (.sl .bool) r.2.1,.map .deep Aa (.sl Aa) r.2.2.1 none,.dead,.row 72 .deep (.sl (.int .i64)) r.2.2.2.1,.row 253 .deep Aa r.2.2.2.2]:=by
 simp only[FZ,Axf];simp(disch:=refine sI ?_<;>(repeat' refine sA ?_ ?_)<;>intro _<;>kernel_rfl) only[F0,Ax (Ao4 _ _) (K:=AP dM Tryz.f150 4 R K),F3,Ax (Ao8 _ _ _ _ _) (K:=AP dM Tryz.f150 4 R K)]
 kernel_rfl
def Apx:Va.Callee:=BX [.raw] [⟨[.ptr 0 [] 0],[.box (.pr (.dat [] (.sl Ab)) (.pr (.k (.ref 1)) (.pr (.k (.mp 2)) (.pr (.k (.ref 3)) (.k .u))))),.row 104 .deep (.sl .bool),.map .deep Aa (.sl Aa),.row 253 .deep Aa],(Axw×AxE×(List (Axg×Axv))×AxD×Axv),λp=>FZ p.1.1 p.2.1.1 p.2.2.1 p.2.2.2.1 p.2.2.2.2.1,λr=>(.pr (.ref 4) .u,[.box (.pr (dD (.sl Ab) r.1) (.pr (.ref 1) (.pr (.mp 2) (.pr (.ref 5) .u)))),.row 104 .deep (.sl .bool) r.2.1,.map .deep Aa (.sl Aa) r.2.2.1 none,.dead,.row 72 .deep (.sl (.int .i64)) r.2.2.2.1,.row 253 .deep Aa r.2.2.2.2])⟩]
theorem xu:An Tryz.prog 150 Apx:=Ap (fn:=Tryz.f150) (by kernel_rfl) (by kernel_rfl) (by kernel_rfl) ⟨⟨dM,⟨⟨Aw,Ao ⟨WG,trivial⟩⟩,mixed⟩,λp R K=>U91 R p.1.1 p.2.1.1 p.2.2.1 p.2.2.2.1 p.2.2.2.2.1 K⟩,trivial⟩
abbrev E92:Env:=⟨tab,As [(83,c83),(146,c146),(147,Apv),(148,c148),(149,Apw),(150,Apx)],{deep:=true,heads:=[(8,{live:=[6,10,36,37,38]})],outs:=[(8,{live:=[6,10]})],joins:=[(2,{live:=[0,1,5,6,22]})],ents:=[(2,[0,1,5,6])],res:=[(0,.row [0] 72 (.sl (.int .i64)) true)]}⟩
def Amr(a b:Int)(z_:Int×Axw×(List (Axx×(Axx×Unit)))×AxE×(List (Axg×Axv))×Axv):St:=sT 51 [(6,.ptr 0 0 [] 0),(10,.ptr 1 a [] 0),(36,.ref 2),(37,dI b),(38,dI z_.1)] [.box (.pr .zs .u),.box (.pr (dD (.sl Ab) z_.2.1) (.pr (.ref 3) (.pr (.mp 4) (.pr (.ref 5) .u)))),.row 145 .deep (.pair (.sl Ad) (.pair (.sl Ad) .unit)) z_.2.2.1,.row 104 .deep (.sl .bool) z_.2.2.2.1,.map .deep Aa (.sl Aa) z_.2.2.2.2.1 none,.row 253 .deep Aa z_.2.2.2.2.2]
def Ake(a b:Int):(Axw×AxE×(List (Axg×Axv))×Axv)->Ex×St:=λc=>((.exit 0),sT 51 [(6,.ptr 0 0 [] 0),(10,.ptr 1 a [] 0)] [.box (.pr .zs .u),.box (.pr (dD (.sl Ab) c.1) (.pr (.ref 2) (.pr (.mp 3) (.pr (.ref 4) .u)))),.row 104 .deep (.sl .bool) c.2.1,.map .deep Aa (.sl Aa) c.2.2.1 none,.row 253 .deep Aa c.2.2.2])
def GI(a b d:Int)(e:Axw)(g:List (Axx×(Axx×Unit)))(i:AxE)(j:List (Axg×Axv))(k:Axv):Option ((Int×Axw×(List (Axx×(Axx×Unit)))×AxE×(List (Axg×Axv))×Axv)⊕(Axw×AxE×(List (Axg×Axv))×Axv)) :=
 bif decide (d<b) then
 if(0:Int)<=d/\d<(g.length:Int) then
 (EK a (g.getD d.toNat (Ty.zero (.pair (.sl Ad) (.pair (.sl Ad) .unit)))).1 (g.getD d.toNat (Ty.zero (.pair (.sl Ad) (.pair (.sl Ad) .unit)))).2.1 e g i j k).bind λl =>
 some (.inl ((wI (d+1)),l.1,l.2.1,l.2.2.1,l.2.2.2.1,l.2.2.2.2))
 else none
 else
 some (.inr (e,i,j,k))
def CJ(a b:Int)(z_:Int×Axw×(List (Axx×(Axx×Unit)))×AxE×(List (Axg×Axv))×Axv):=GI a b z_.1 z_.2.1 z_.2.2.1 z_.2.2.2.1 z_.2.2.2.2.1 z_.2.2.2.2.2
def IL(a b d:Int)(e:Axw)(g:List (Axx×(Axx×Unit)))(i:AxE)(j:List (Axg×Axv))(k:Axv):=fix (CJ a b) (d,e,g,i,j,k)
theorem Apa(a b:Int):AU E92 0 8 (code Tryz.f81) [1,1,1,1,1,0,1,0] (Amr a b) (CJ a b) (Ake a b):=by
 intro _;simp only[CJ,GI,Axe];kernel_rfl
def Amq(n:Axw)(o:AxA)(q:Axm):St:=sT 51 [(0,dD (.sl Ab) n),(1,dD (.sl Ag) o),(5,.ptr 0 0 [] 0),(6,.ptr 1 0 [] 0)] [.box (dD Ah q),.box (.pr .zs .u)]
def Akd(n:Axw)(o:AxA)(q:Axm):Bool->Ex×St:=λs=>(.normal,sT 51 [(0,dD (.sl Ab) n),(1,dD (.sl Ag) o),(5,.ptr 0 0 [] 0),(6,.ptr 1 0 [] 0),(22,dB s)] [.box (dD Ah q),.box (.pr .zs .u)])
def IK(n:Axw)(o:AxA)(q:Axm):Option Bool :=
 (Ma n q).bind λt =>
 bif !t then
 some true
 else
 (FO n o).bind λu =>
 some (!u)
theorem Ao9(n:Axw)(o:AxA)(q:Axm):AL E92 0 2 (code Tryz.f81) [1,0,0] (Amq n o q) (IK n o q) (Akd n o q):=by
 unfold AL;simp only[IK,Axe];kernel_rfl
def Dn(n:Axw)(o:AxA)(q:Axm):Option (Bool×AxD) :=
 (IK n o q).bind λs =>
 bif s then
 some (false,([]:AxD))
 else
 (LS n o).bind λv =>
 bif !v.1 then
 some (false,([]:AxD))
 else
 (G6 n q).bind λw =>
 (IL w.1 (v.2.length:Int) 0 w.2.1 v.2 w.2.2.1 w.2.2.2.1 w.2.2.2.2).bind λc =>
 (FZ w.1 c.1 c.2.1 c.2.2.1 c.2.2.2).bind λx =>
 some (true,x.2.2.2.1)
theorem U92(R:Type)(n:Axw)(o:AxA)(q:Axm)(K:AV->List Blk->Option R):AH E92 Tryz.f81 R [dD (.sl Ab) n,dD (.sl Ag) o,dD Ah q] [] K=(Dn n o q).bind λr=>K (.cons (.pr (.ref 0) .u) (.cons (dB r.1) .nil)) [.row 72 .deep (.sl (.int .i64)) r.2]:=by
 simp only[Dn,Axf];simp(disch:=refine sI ?_<;>(repeat' refine sA ?_ ?_)<;>intro _<;>kernel_rfl) only[A6 (Ao9 _ _ _) (K:=AP E92 Tryz.f81 0 R K),IL,Ax (Apa _ _) (K:=AP E92 Tryz.f81 0 R K)]
 kernel_rfl
def c81:Va.Callee:=BX [.d (.sl Ab),.d (.sl Ag),.d Ah] [⟨[.dat [] (.sl Ab),.dat [] (.sl Ag),.dat [] Ah],[],(Bool×AxD),λp=>Dn p.1.1 p.1.2.1 p.1.2.2.1,λr=>(.cons (.pr (.ref 0) .u) (.cons (dB r.1) .nil),[.row 72 .deep (.sl (.int .i64)) r.2])⟩]
theorem AcP:An Tryz.prog 81 c81:=Ap (fn:=Tryz.f81) (by kernel_rfl) (by kernel_rfl) (by kernel_rfl) ⟨⟨E92,⟨⟨Aw,Ao ⟨oz,w9,xg,xk,xq,xu,trivial⟩⟩,mixed⟩,λp R K=>U92 R p.1.1 p.1.2.1 p.1.2.2.1 K⟩,trivial⟩
abbrev E93:Env:=⟨tab,As [],{deep:=true,heads:=[(4,{live:=[0,1,12,13]})],outs:=[(4,{live:=[4]})]}⟩
def Ams(a b:Axs)(c z_:Int):St:=sT 26 [(0,dD (.sl (.int .i64)) a),(1,dD (.sl (.int .i64)) b),(12,dI c),(13,dI z_)] []
def Akf(a b:Axs)(c:Int):(Unit⊕Unit)->Ex×St:=Sum.elim (λd=>(.ret,sT 26 [(4,dB false)] [])) (λe=>((.exit 0),sT 26 [] []))
def DT(a b:Axs)(c g:Int):Option (Int⊕(Unit⊕Unit)) :=
 bif decide (g<c) then
 if(0:Int)<=g/\g<(a.length:Int) then
 if(0:Int)<=g/\g<(b.length:Int) then
 bif (a.getD g.toNat (Ty.zero (.int .i64))) !=(b.getD g.toNat (Ty.zero (.int .i64))) then
 some (.inr (.inl ()))
 else
 some (.inl (wI (g+1)))
 else none
 else none
 else
 some (.inr (.inr ()))
def Cm(a b:Axs)(c z_:Int):=DT a b c z_
def IG(a b:Axs)(c g:Int):=fix (Cm a b c) g
theorem Apb(a b:Axs)(c:Int):AU E93 0 4 (code Tryz.f153) [1,1,0,1,0] (Ams a b c) (Cm a b c) (Akf a b c):=by
 intro _;simp only[Cm,DT,Axe];kernel_rfl
def Bf(a b:Axs):Option Bool :=
 bif (a.length:Int) !=(b.length:Int) then
 some false
 else
 (IG a b (a.length:Int) 0).bind (Sum.elim (λd =>
 some false) (λe =>
 some true))
theorem U93(R:Type)(a b:Axs)(K:AV->List Blk->Option R):AH E93 Tryz.f153 R [dD (.sl (.int .i64)) a,dD (.sl (.int .i64)) b] [] K=(Bf a b).bind λr=>K (dB r) []:=by
 simp only[Bf,Axf];simp(disch:=refine sI ?_<;>(repeat' refine sA ?_ ?_)<;>intro _<;>kernel_rfl) only[IG,Ax (Apb _ _ _) (K:=AP E93 Tryz.f153 0 R K)]
 kernel_rfl
def Apz:Va.Callee:=BX [.d (.sl (.int .i64)),.d (.sl (.int .i64))] [⟨[.dat [] (.sl (.int .i64)),.dat [] (.sl (.int .i64))],[],Bool,λp=>Bf p.1.1 p.1.2.1,λr=>(dB r,[])⟩]
theorem xB:An Tryz.prog 153 Apz:=Ap (fn:=Tryz.f153) (by kernel_rfl) (by kernel_rfl) (by kernel_rfl) ⟨⟨E93,⟨⟨Aw,Ao trivial⟩,mixed⟩,λp R K=>U93 R p.1.1 p.1.2.1 K⟩,trivial⟩
abbrev E94:Env:=⟨tab,As [(153,Apz)],{deep:=true}⟩
def Im(a b:Axs):Option Bool :=
 (Bf a b).bind λc =>
 some c
theorem U94(R:Type)(a b:Axs)(K:AV->List Blk->Option R):AH E94 Tryz.f152 R [dD (.sl (.int .i64)) a,dD (.sl (.int .i64)) b] [] K=(Im a b).bind λr=>K (dB r) []:=by
 simp only[Im,Axf];kernel_rfl
def c152:Va.Callee:=BX [.d (.sl (.int .i64)),.d (.sl (.int .i64))] [⟨[.dat [] (.sl (.int .i64)),.dat [] (.sl (.int .i64))],[],Bool,λp=>Im p.1.1 p.1.2.1,λr=>(dB r,[])⟩]
theorem xA:An Tryz.prog 152 c152:=Ap (fn:=Tryz.f152) (by kernel_rfl) (by kernel_rfl) (by kernel_rfl) ⟨⟨E94,⟨⟨Aw,Ao ⟨xB,trivial⟩⟩,mixed⟩,λp R K=>U94 R p.1.1 p.1.2.1 K⟩,trivial⟩
abbrev E95:Env:=⟨tab,As [(152,c152)],{deep:=true,heads:=[(4,{live:=[1,2,15,16,17]})],outs:=[(4,{live:=[6]})]}⟩
def Amt(a b:AxD)(c z_:Int):St:=sT 32 [(1,dD (.sl (.sl (.int .i64))) a),(2,.fn 152 .nil),(15,dD (.sl (.sl (.int .i64))) b),(16,dI c),(17,dI z_)] []
def Akg(a b:AxD)(c:Int):(Unit⊕Unit)->Ex×St:=Sum.elim (λd=>(.ret,sT 32 [(6,dB false)] [])) (λe=>((.exit 0),sT 32 [] []))
def Cn(a b:AxD)(c g:Int):Option (Int⊕(Unit⊕Unit)) :=
 bif decide (g<c) then
 if(0:Int)<=g/\g<(b.length:Int) then
 if(0:Int)<=g/\g<(a.length:Int) then
 (Im (b.getD g.toNat (Ty.zero (.sl (.int .i64)))) (a.getD g.toNat (Ty.zero (.sl (.int .i64))))).bind λi =>
 bif !i then
 some (.inr (.inl ()))
 else
 some (.inl (wI (g+1)))
 else none
 else none
 else
 some (.inr (.inr ()))
def Bz(a b:AxD)(c z_:Int):=Cn a b c z_
def FK(a b:AxD)(c g:Int):=fix (Bz a b c) g
theorem Apc(a b:AxD)(c:Int):AU E95 0 4 (code Tryz.f151) [1,1,0,1,0] (Amt a b c) (Bz a b c) (Akg a b c):=by
 intro _;simp only[Bz,Cn,Axe];kernel_rfl
def Cz(b a:AxD):Option Bool :=
 bif (b.length:Int) !=(a.length:Int) then
 some false
 else
 (FK a b (b.length:Int) 0).bind (Sum.elim (λd =>
 some false) (λe =>
 some true))
theorem U95(R:Type)(b a:AxD)(K:AV->List Blk->Option R):AH E95 Tryz.f151 R [dD (.sl (.sl (.int .i64))) b,dD (.sl (.sl (.int .i64))) a,.fn 152 .nil] [] K=(Cz b a).bind λr=>K (dB r) []:=by
 simp only[Cz,Axf];simp(disch:=refine sI ?_<;>(repeat' refine sA ?_ ?_)<;>intro _<;>kernel_rfl) only[FK,Ax (Apc _ _ _) (K:=AP E95 Tryz.f151 0 R K)]
 kernel_rfl
def Apy:Va.Callee:=BX [.d (.sl (.sl (.int .i64))),.d (.sl (.sl (.int .i64))),.raw] [⟨[.dat [] (.sl (.sl (.int .i64))),.dat [] (.sl (.sl (.int .i64))),.fn 152 (.k .nil)],[],Bool,λp=>Cz p.1.1 p.1.2.1,λr=>(dB r,[])⟩]
theorem xw:An Tryz.prog 151 Apy:=Ap (fn:=Tryz.f151) (by kernel_rfl) (by kernel_rfl) (by kernel_rfl) ⟨⟨E95,⟨⟨Aw,Ao ⟨xA,trivial⟩⟩,mixed⟩,λp R K=>U95 R p.1.1 p.1.2.1 K⟩,trivial⟩
end
end Go.Proofs.X
