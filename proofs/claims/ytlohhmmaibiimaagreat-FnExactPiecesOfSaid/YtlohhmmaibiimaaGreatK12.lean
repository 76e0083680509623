import Derived.KernelRfl
import Derived.Test.YtlohhmmaibiimaaGreatK11
set_option linter.unusedVariables false
set_option linter.unusedSimpArgs false
namespace Go.Proofs.X
open Go Go.Va
set_option maxRecDepth 100000
noncomputable section
abbrev E96:Env:=⟨tab,As [(151,Apy)],{deep:=true}⟩
def Iw(a b:Axm):Option Bool :=
 (Cz a.1 b.1).bind λc =>
 some c
theorem U96(R:Type)(a b:Axm)(K:AV->List Blk->Option R):AH E96 Tryz.f82 R [dD Ah a,dD Ah b] [] K=(Iw a b).bind λr=>K (dB r) []:=by
 simp only[Iw,Axf];kernel_rfl
def c82:Va.Callee:=BX [.d Ah,.d Ah] [⟨[.dat [] Ah,.dat [] Ah],[],Bool,λp=>Iw p.1.1 p.1.2.1,λr=>(dB r,[])⟩]
theorem AcQ:An Tryz.prog 82 c82:=Ap (fn:=Tryz.f82) (by kernel_rfl) (by kernel_rfl) (by kernel_rfl) ⟨⟨E96,⟨⟨Aw,Ao ⟨xw,trivial⟩⟩,mixed⟩,λp R K=>U96 R p.1.1 p.1.2.1 K⟩,trivial⟩
noncomputable def c162:Va.Callee:=Tb 2 (.int .i64) 8
noncomputable abbrev Aqd:Env:={tab:=tab,fns:=As [],fi:={}}
theorem Ac2:HB Tryz.prog Aqd:=⟨⟨Aw,Ao trivial⟩,mixed⟩
theorem xK:An Tryz.prog 162 c162 :=
 UL (fn:=Tryz.f162) Ac2 (by kernel_rfl) (by kernel_rfl) rfl rfl rfl ⟨rfl,rfl,rfl⟩ ⟨rfl,rfl,rfl⟩ (ti:=⟨.sl (.int .i64),[],2,24,0,0,false⟩) (by kernel_rfl) rfl (by kernel_rfl) (λxs=>by kernel_rfl) (λxs=>by kernel_rfl)
  λxs h=>by
   have h0:ev Aqd 0 (sub (code Tryz.f162) [1,1]) (Ex×St) ⟨[.dat [] (.sl (.int .i64)) xs,.un 0,.zs,.dat [] (.sl (.int .i64)) xs,.bool false,.un 0,.un 0,.un 0],[]⟩ Hz=if xs.length*8<=140737488355328 then some (.ret,⟨[.dat [] (.sl (.int .i64)) xs,.un 0,.ref 0,.dat [] (.sl (.int .i64)) xs,.bool false,.zs,.dat [] (.sl (.int .i64)) xs,.ref 0],[.row 2 .deep (.int .i64) xs]⟩) else none:=by kernel_rfl
   exact h0.trans (if_pos h)
abbrev uF:Env:=⟨tab,As [(162,c162)],{deep:=true,heads:=[(3,{live:=[0,5,13,14,15],pre:=[(5,false,.row [] 157 Af true)]}),(7,{live:=[0,5,6,8,13,14,15,28,29,30],pre:=[(5,false,.row [] 157 Af true)]})],outs:=[(3,{live:=[5]}),(7,{live:=[0,5,13,14,15]})],draws:=[(6,{live:=[0,5,6,8,13,14,15,28,29,30],quiet:=true,Ow:=[(28,false,(.sl (.int .i64)))]})],fM:=[(6,[0,5,6,7,8,13,14,15])]}⟩
def Amv(a:Axw)(b:AxD)(c:Int)(z_:Int×Axz):St:=sT 47 [(0,dD (.sl Ab) a),(5,.ref 0),(13,dD (.sl (.sl (.int .i64))) b),(14,dI c),(15,dI z_.1)] [.row 157 .deep Af z_.2]
def Aki(a:Axw)(b:AxD)(c:Int):Axz->Ex×St:=λd=>((.exit 0),sT 47 [(5,.ref 0)] [.row 157 .deep Af d])
def Amu(a:Axw)(e:Int)(b:AxD)(c:Int)(g:Axs)(i:Int)(z_:Int×Int×Axz):St:=sT 47 [(0,dD (.sl Ab) a),(5,.ref 0),(6,dI e),(8,dI z_.1),(13,dD (.sl (.sl (.int .i64))) b),(14,dI c),(15,dI e),(28,dD (.sl (.int .i64)) g),(29,dI i),(30,dI z_.2.1)] [.row 157 .deep Af z_.2.2]
def Akh(a:Axw)(e:Int)(b:AxD)(c:Int)(g:Axs)(i:Int):Axz->Ex×St:=λj=>((.exit 2),sT 47 [(0,dD (.sl Ab) a),(5,.ref 0),(13,dD (.sl (.sl (.int .i64))) b),(14,dI c),(15,dI e)] [.row 157 .deep Af j])
def HL(a:Axw)(e:Int)(b:AxD)(c:Int)(g:Axs)(i k l:Int)(n:Axz):Option ((Int×Int×Axz)⊕Axz) :=
 bif decide (l<i) then
 if(0:Int)<=l/\l<(g.length:Int) then
 if(n.length+([(e,k,(wI ((g.getD l.toNat (Ty.zero (.int .i64)))-k)),())]:Axz).length)*24<=140737488355328 then
 some (.inl ((g.getD l.toNat (Ty.zero (.int .i64))),(wI (l+1)),(n++([(e,k,(wI ((g.getD l.toNat (Ty.zero (.int .i64)))-k)),())]:Axz))))
 else none
 else none
 else
 some (.inr n)
def C7(a:Axw)(e:Int)(b:AxD)(c:Int)(g:Axs)(i:Int)(z_:Int×Int×Axz):=HL a e b c g i z_.1 z_.2.1 z_.2.2
def Ke(a:Axw)(e:Int)(b:AxD)(c:Int)(g:Axs)(i k l:Int)(n:Axz):=fix (C7 a e b c g i) (k,l,n)
theorem Ape(a:Axw)(e:Int)(b:AxD)(c:Int)(g:Axs)(i:Int):AU uF 0 7 (sub (code Tryz.f86) [1,1,0,1,0,0]) [1,1,0,0,1,1,1,0] (Amu a e b c g i) (C7 a e b c g i) (Akh a e b c g i):=by
 intro _;simp only[C7,HL,Axe];kernel_rfl
def Ad4(a:Axw)(e:Int)(b:AxD)(c:Int)(o:Axz)(q:Axs):St:=sT 47 [(0,dD (.sl Ab) a),(5,.ref 0),(6,dI e),(7,dD (.sl (.int .i64)) q),(8,dI 0),(13,dD (.sl (.sl (.int .i64))) b),(14,dI c),(15,dI e)] [.row 157 .deep Af o]
def nO(a:Axw)(e:Int)(b:AxD)(c:Int)(o:Axz)(q:Axs):(Axs×Int)->St:=λs=>sT 47 [(0,dD (.sl Ab) a),(5,.ref 0),(6,dI e),(8,dI 0),(13,dD (.sl (.sl (.int .i64))) b),(14,dI c),(15,dI e),(28,dD (.sl (.int .i64)) s.1),(29,dI s.2),(30,dI 0)] [.row 157 .deep Af o]
def G8(a:Axw)(e:Int)(b:AxD)(c:Int)(o:Axz)(q:Axs):Option (Axs×Int) :=
 if q.length*8<=140737488355328 then
 if(0:Int)<=e/\e<(a.length:Int) then
 if(q.length+([(a.getD e.toNat Ab.zero).2.1]:Axs).length)*8<=140737488355328 then
 some ((q++([(a.getD e.toNat Ab.zero).2.1]:Axs)),((q++([(a.getD e.toNat Ab.zero).2.1]:Axs)).length:Int))
 else none
 else none
 else none
noncomputable def nQ(a:Axw)(e:Int)(b:AxD)(c:Int)(o:Axz)(q:Axs):Option Unit:=if q.length*8<=140737488355328 then if(q.length+([(a.getD e.toNat Ab.zero).2.1]:Axs).length)*8<=140737488355328 then Ti (nO a e b c o q ((q++([(a.getD e.toNat Ab.zero).2.1]:Axs)),((q++([(a.getD e.toNat Ab.zero).2.1]:Axs)).length:Int))) (nO a e b c o q ((q++([(a.getD e.toNat Ab.zero).2.1]:Axs)),((q++([(a.getD e.toNat Ab.zero).2.1]:Axs)).length:Int))) else none else none
theorem Apd(a:Axw)(e:Int)(b:AxD)(c:Int)(o:Axz)(q:Axs):S4 uF 0 6 (sub (code Tryz.f86) [1,1,0,1,0,0]) [1,1,0,0,1,1,0] (Ad4 a e b c o q) (G8 a e b c o q) (nO a e b c o q):=by
 unfold S4;have h:drS uF 0 6 (sub (code Tryz.f86) [1,1,0,1,0,0]) [1,1,0,0,1,1,0] (Ad4 a e b c o q) =
 if q.length*8<=140737488355328 then if(0:Int)<=e/\e<(a.length:Int) then if(q.length+([(a.getD e.toNat Ab.zero).2.1]:Axs).length)*8<=140737488355328 then((if(0:Int)<=e/\e<(a.length:Int) then(nQ a e b c o q).bind λ_=>(nQ a e b c o q).bind λ_=>nQ a e b c o q else none).bind λ_=>some (nO a e b c o q ((q++([(a.getD e.toNat Ab.zero).2.1]:Axs)),((q++([(a.getD e.toNat Ab.zero).2.1]:Axs)).length:Int)))) else none else none else none:=by kernel_rfl
 rw[h];unfold G8;simp only[Axe,mS,mO];clear h;by_cases hc0:q.length*8<=140737488355328
 ·rw[if_pos hc0,if_pos hc0];by_cases hc1:(0:Int)<=e/\e<(a.length:Int)
  ·rw[if_pos hc1,if_pos hc1];by_cases hc2:(q.length+([(a.getD e.toNat Ab.zero).2.1]:Axs).length)*8<=140737488355328
   ·rw[if_pos hc2,if_pos hc2];simp only[nQ,Axc,if_pos hc0,if_pos hc1,if_pos hc2,if_true,AwW,Nm]
   ·simp only[if_pos hc0,if_pos hc1,if_true,if_neg hc2]
  ·simp only[if_pos hc0,if_true,if_neg hc1]
 ·simp only[if_true,if_neg hc0]
def HM(a:Axw)(b:AxD)(c e:Int)(o:Axz):Option ((Int×Axz)⊕Axz) :=
 bif decide (e<c) then
 if(0:Int)<=e/\e<(b.length:Int) then
 (G8 a e b c o (b.getD e.toNat (Ty.zero (.sl (.int .i64))))).bind λs =>
 (Ke a e b c s.1 s.2 0 0 o).bind λj =>
 some (.inl ((wI (e+1)),j))
 else none
 else
 some (.inr o)
def C8(a:Axw)(b:AxD)(c:Int)(z_:Int×Axz):=HM a b c z_.1 z_.2
def Kg(a:Axw)(b:AxD)(c e:Int)(o:Axz):=fix (C8 a b c) (e,o)
theorem Apf(a:Axw)(b:AxD)(c:Int):AU uF 0 3 (code Tryz.f86) [1,1,0,1,0] (Amv a b c) (C8 a b c) (Aki a b c):=by
 intro _;simp only[C8,HM,Axe];simp(disch:=refine sI ?_<;>(repeat' refine sA ?_ ?_)<;>intro _<;>kernel_rfl) only[WW (Apd _ _ _ _ _ _) (K:=Be 0 (uF.hd 3) (uF.ot 3)),Ke,Ax (Ape _ _ _ _ _ _) (K:=Be 0 (uF.hd 3) (uF.ot 3))]
 kernel_rfl
def Ix(a:Axw)(t:Axm):Option Axz :=
 (Kg a t.1 (t.1.length:Int) 0 ([]:Axz)).bind λd =>
 some d
theorem U97(R:Type)(a:Axw)(t:Axm)(K:AV->List Blk->Option R):AH uF Tryz.f86 R [dD (.sl Ab) a,dD Ah t] [] K=(Ix a t).bind λr=>K (.ref 0) [.row 157 .deep Af r]:=by
 simp only[Ix,Axf];simp(disch:=refine sI ?_<;>(repeat' refine sA ?_ ?_)<;>intro _<;>kernel_rfl) only[Kg,Ax (Apf _ _ _) (K:=AP uF Tryz.f86 0 R K)]
 kernel_rfl
def c86:Va.Callee:=BX [.d (.sl Ab),.d Ah] [⟨[.dat [] (.sl Ab),.dat [] Ah],[],Axz,λp=>Ix p.1.1 p.1.2.1,λr=>(.ref 0,[.row 157 .deep Af r])⟩]
theorem AcT:An Tryz.prog 86 c86:=Ap (fn:=Tryz.f86) (by kernel_rfl) (by kernel_rfl) (by kernel_rfl) ⟨⟨uF,⟨⟨Aw,Ao ⟨xK,trivial⟩⟩,mixed⟩,λp R K=>U97 R p.1.1 p.1.2.1 K⟩,trivial⟩
abbrev E98:Env:=⟨tab,As [],{deep:=true,heads:=[(3,{live:=[3,7,8,9]})],outs:=[(3,{live:=[3]})]}⟩
def Amw(a:Axz)(b:Int)(z_:Int×(List (Axg×Int))):St:=sT 23 [(3,.mp 0),(7,dD (.sl Af) a),(8,dI b),(9,dI z_.1)] [.map .deep Aa (.int .i64) z_.2 none]
def Akj(a:Axz)(b:Int):(List (Axg×Int))->Ex×St:=λc=>((.exit 0),sT 23 [(3,.mp 0)] [.map .deep Aa (.int .i64) c none])
def HH(a:Axz)(b d:Int)(e:List (Axg×Int)):Option ((Int×(List (Axg×Int)))⊕(List (Axg×Int))) :=
 bif decide (d<b) then
 if(0:Int)<=d/\d<(a.length:Int) then
 some (.inl ((wI (d+1)),(Cq Aa (.int .i64) e ((a.getD d.toNat Af.zero).1,(a.getD d.toNat Af.zero).2.1,()) d)))
 else none
 else
 some (.inr e)
def C3(a:Axz)(b:Int)(z_:Int×(List (Axg×Int))):=HH a b z_.1 z_.2
def J7(a:Axz)(b d:Int)(e:List (Axg×Int)):=fix (C3 a b) (d,e)
theorem Apg(a:Axz)(b:Int):AU E98 0 3 (code Tryz.f85) [1,1,0,1,0] (Amw a b) (C3 a b) (Akj a b):=by
 intro _;simp only[C3,HH,Axe];kernel_rfl
def Iv(a:Axz):Option (List (Axg×Int)) :=
 (J7 a (a.length:Int) 0 ([]:List (Axg×Int))).bind λc =>
 some c
theorem U98(R:Type)(a:Axz)(K:AV->List Blk->Option R):AH E98 Tryz.f85 R [dD (.sl Af) a] [] K=(Iv a).bind λr=>K (.mp 0) [.map .deep Aa (.int .i64) r none]:=by
 simp only[Iv,Axf];simp(disch:=refine sI ?_<;>(repeat' refine sA ?_ ?_)<;>intro _<;>kernel_rfl) only[J7,Ax (Apg _ _) (K:=AP E98 Tryz.f85 0 R K)]
 kernel_rfl
def c85:Va.Callee:=BX [.d (.sl Af)] [⟨[.dat [] (.sl Af)],[],(List (Axg×Int)),λp=>Iv p.1.1,λr=>(.mp 0,[.map .deep Aa (.int .i64) r none])⟩]
theorem AcS:An Tryz.prog 85 c85:=Ap (fn:=Tryz.f85) (by kernel_rfl) (by kernel_rfl) (by kernel_rfl) ⟨⟨E98,⟨⟨Aw,Ao trivial⟩,mixed⟩,λp R K=>U98 R p.1.1 K⟩,trivial⟩
abbrev jY:Env:=⟨tab,As [],{deep:=true,heads:=[(4,{live:=[3,5,6,12,13,14],pre:=[(5,false,.row [] 2 (.int .i64) true)]}),(9,{live:=[3,5,6,8,12,13,14,30,31,32]})],outs:=[(4,{live:=[5]}),(9,{live:=[3,5,6,8,12,13,14]})],joins:=[(12,{live:=[3,5,6,8,10,12,13,14,30,31,32,48]}),(13,{live:=[3,5,6,8,12,13,14,30,31,32]}),(14,{live:=[3,5,6,8,12,13,14]})],ents:=[(12,[3,5,6,8,10,12,13,14,30,31,32]),(13,[3,5,6,8,12,13,14,30,31,32]),(14,[3,5,6,8,12,13,14])]}⟩
def AmA(a:Axx)(b:Axm)(c:Int)(z_:Int×Int×Axs):St:=sT 65 [(3,.ptr 0 0 [] 0),(5,.ref 1),(6,dI z_.1),(12,dD (.sl Ad) a),(13,dI c),(14,dI z_.2.1)] [.box (dD Ah b),.row 2 .deep (.int .i64) z_.2.2]
def Akn(a:Axx)(b:Axm)(c:Int):Axs->Ex×St:=λd=>((.exit 0),sT 65 [(5,.ref 0)] [.row 2 .deep (.int .i64) d])
def Amz(e:Int)(a:Axx)(c g:Int)(b:Axm)(i:Axs)(j:Axi):St:=sT 65 [(3,.ptr 0 0 [] 0),(5,.ref 1),(6,dI e),(8,.ptr 2 0 [] 0),(12,dD (.sl Ad) a),(13,dI c),(14,dI g)] [.box (dD Ah b),.row 2 .deep (.int .i64) i,.box (dD Ad j)]
def Akm(e:Int)(a:Axx)(c g:Int)(b:Axm)(i:Axs)(j:Axi):Axs->Ex×St:=λk=>(.normal,sT 65 [(3,.ptr 0 0 [] 0),(5,.ref 1),(6,dI e),(8,.ptr 2 0 [] 0),(12,dD (.sl Ad) a),(13,dI c),(14,dI g)] [.box (dD Ah b),.row 2 .deep (.int .i64) k,.box (dD Ad j)])
def Amy(e:Int)(a:Axx)(c g:Int)(b:Axm)(j:Axi)(l:Axs)(n:Int)(z_:Int×Axs):St:=sT 65 [(3,.ptr 0 0 [] 0),(5,.ref 1),(6,dI e),(8,.ptr 2 0 [] 0),(12,dD (.sl Ad) a),(13,dI c),(14,dI g),(30,dD (.sl (.int .i64)) l),(31,dI n),(32,dI z_.1)] [.box (dD Ah b),.row 2 .deep (.int .i64) z_.2,.box (dD Ad j)]
def Akl(e:Int)(a:Axx)(c g:Int)(b:Axm)(j:Axi)(l:Axs)(n:Int):Axs->Ex×St:=λo=>((.exit 2),sT 65 [(3,.ptr 0 0 [] 0),(5,.ref 1),(6,dI e),(8,.ptr 2 0 [] 0),(12,dD (.sl Ad) a),(13,dI c),(14,dI g)] [.box (dD Ah b),.row 2 .deep (.int .i64) o,.box (dD Ad j)])
def Amx(e:Int)(a:Axx)(c g:Int)(l:Axs)(n q:Int)(b:Axm)(s:Axs)(j:Axi):St:=sT 65 [(3,.ptr 0 0 [] 0),(5,.ref 1),(6,dI e),(8,.ptr 2 0 [] 0),(12,dD (.sl Ad) a),(13,dI c),(14,dI g),(30,dD (.sl (.int .i64)) l),(31,dI n),(32,dI q)] [.box (dD Ah b),.row 2 .deep (.int .i64) s,.box (dD Ad j)]
def Akk(e:Int)(a:Axx)(c g:Int)(l:Axs)(n q:Int)(b:Axm)(s:Axs)(j:Axi):Axs->Ex×St:=λt=>(.normal,sT 65 [(3,.ptr 0 0 [] 0),(5,.ref 1),(6,dI e),(8,.ptr 2 0 [] 0),(12,dD (.sl Ad) a),(13,dI c),(14,dI g),(30,dD (.sl (.int .i64)) l),(31,dI n),(32,dI q)] [.box (dD Ah b),.row 2 .deep (.int .i64) t,.box (dD Ad j)])
def wh(e:Int)(l:Axs)(q:Int)(a:Axx)(c g n:Int)(b:Axm)(s:Axs)(j:Axi):St:=sT 65 [(3,.ptr 0 0 [] 0),(5,.ref 1),(6,dI e),(8,.ptr 2 0 [] 0),(10,dI (l.getD q.toNat (Ty.zero (.int .i64)))),(12,dD (.sl Ad) a),(13,dI c),(14,dI g),(30,dD (.sl (.int .i64)) l),(31,dI n),(32,dI q)] [.box (dD Ah b),.row 2 .deep (.int .i64) s,.box (dD Ad j)]
def u6(e:Int)(l:Axs)(q:Int)(a:Axx)(c g n:Int)(b:Axm)(s:Axs)(j:Axi)(m0:Bool):Ex×St:=(.normal,sT 65 [(3,.ptr 0 0 [] 0),(5,.ref 1),(6,dI e),(8,.ptr 2 0 [] 0),(10,dI (l.getD q.toNat (Ty.zero (.int .i64)))),(12,dD (.sl Ad) a),(13,dI c),(14,dI g),(30,dD (.sl (.int .i64)) l),(31,dI n),(32,dI q),(48,dB m0)] [.box (dD Ah b),.row 2 .deep (.int .i64) s,.box (dD Ad j)])
theorem Aph(e:Int)(l:Axs)(q:Int)(a:Axx)(c g n:Int)(b:Axm)(s:Axs)(j:Axi):Mn jY 0 12 (sub (sub (sub (sub (code Tryz.f156) [1,1,1,0,1,0,0]) [1,1,0,0,1,1,0]) [1,0,1,0,0]) [1,1,0]) [0,1,0] (wh e l q a c g n b s j)=some (u6 e l q a c g n b s j ((decide ((l.getD q.toNat (Ty.zero (.int .i64)))>j.2.1))&&(decide ((l.getD q.toNat (Ty.zero (.int .i64)))<(wI (j.2.1+j.2.2.1)))))):=by
 have h0:Mn jY 0 12 (sub (sub (sub (sub (code Tryz.f156) [1,1,1,0,1,0,0]) [1,1,0,0,1,1,0]) [1,0,1,0,0]) [1,1,0]) [0,1,0] (wh e l q a c g n b s j) =
 bif decide ((l.getD q.toNat (Ty.zero (.int .i64)))>j.2.1) then
 some (u6 e l q a c g n b s j (decide ((l.getD q.toNat (Ty.zero (.int .i64)))<(wI (j.2.1+j.2.2.1)))))
 else
 some (u6 e l q a c g n b s j false):=by kernel_rfl
 rw[h0];cases h1:(decide ((l.getD q.toNat (Ty.zero (.int .i64)))>j.2.1))
 ·first | rfl | kernel_rfl
 ·first | rfl | kernel_rfl
def Ka(e:Int)(a:Axx)(c g:Int)(l:Axs)(n q:Int)(b:Axm)(s:Axs)(j:Axi):Option Axs :=
 if(0:Int)<=q/\q<(l.length:Int) then
 N8 (wh e l q a c g n b s j) (
 bif (decide ((l.getD q.toNat (Ty.zero (.int .i64)))>j.2.1))&&(decide ((l.getD q.toNat (Ty.zero (.int .i64)))<(wI (j.2.1+j.2.2.1)))) then
 if(s.length+([(wI ((wI (e+(l.getD q.toNat (Ty.zero (.int .i64)))))-j.2.1))]:Axs).length)*8<=140737488355328 then
 some (s++([(wI ((wI (e+(l.getD q.toNat (Ty.zero (.int .i64)))))-j.2.1))]:Axs))
 else none
 else
 some s)
 else none
theorem Api(e:Int)(a:Axx)(c g:Int)(l:Axs)(n q:Int)(b:Axm)(s:Axs)(j:Axi):AL jY 0 13 (sub (sub (sub (code Tryz.f156) [1,1,1,0,1,0,0]) [1,1,0,0,1,1,0]) [1,0,1,0,0]) [1,1,0] (Amx e a c g l n q b s j) (Ka e a c g l n q b s j) (Akk e a c g l n q b s j):=by
 unfold AL;simp only[Ka,Axe];simp(disch:=refine sI ?_<;>(repeat' refine sA ?_ ?_)<;>intro _<;>kernel_rfl) only[F7 (Aph _ _ _ _ _ _ _ _ _ _) (K:=CU 0 (jY.jn 13))]
 kernel_rfl
def HJ(e:Int)(a:Axx)(c g:Int)(b:Axm)(j:Axi)(l:Axs)(n q:Int)(s:Axs):Option ((Int×Axs)⊕Axs) :=
 bif decide (q<n) then
 (Ka e a c g l n q b s j).bind λt =>
 some (.inl ((wI (q+1)),t))
 else
 some (.inr s)
def C5(e:Int)(a:Axx)(c g:Int)(b:Axm)(j:Axi)(l:Axs)(n:Int)(z_:Int×Axs):=HJ e a c g b j l n z_.1 z_.2
def Kb(e:Int)(a:Axx)(c g:Int)(b:Axm)(j:Axi)(l:Axs)(n q:Int)(s:Axs):=fix (C5 e a c g b j l n) (q,s)
theorem Apj(e:Int)(a:Axx)(c g:Int)(b:Axm)(j:Axi)(l:Axs)(n:Int):AU jY 0 9 (sub (sub (code Tryz.f156) [1,1,1,0,1,0,0]) [1,1,0,0,1,1,0]) [1,0,1,0] (Amy e a c g b j l n) (C5 e a c g b j l n) (Akl e a c g b j l n):=by
 intro _;simp only[C5,HJ,Axe];simp(disch:=refine sI ?_<;>(repeat' refine sA ?_ ?_)<;>intro _<;>kernel_rfl) only[A6 (Api _ _ _ _ _ _ _ _ _ _) (K:=Be 0 (jY.hd 9) (jY.ot 9))]
 kernel_rfl
def G7(e:Int)(a:Axx)(c g:Int)(b:Axm)(i:Axs)(j:Axi):Option Axs :=
 bif decide (j.1>=0) then
 if(0:Int)<=j.1/\j.1<(b.1.length:Int) then
 (Kb e a c g b j (b.1.getD j.1.toNat (Ty.zero (.sl (.int .i64)))) ((b.1.getD j.1.toNat (Ty.zero (.sl (.int .i64)))).length:Int) 0 i).bind λo =>
 some o
 else none
 else
 some i
theorem Apk(e:Int)(a:Axx)(c g:Int)(b:Axm)(i:Axs)(j:Axi):AL jY 0 14 (sub (code Tryz.f156) [1,1,1,0,1,0,0]) [1,1,0,0,1,1,0] (Amz e a c g b i j) (G7 e a c g b i j) (Akm e a c g b i j):=by
 unfold AL;simp only[G7,Axe];simp(disch:=refine sI ?_<;>(repeat' refine sA ?_ ?_)<;>intro _<;>kernel_rfl) only[Kb,Ax (Apj _ _ _ _ _ _ _ _) (K:=CU 0 (jY.jn 14))]
 kernel_rfl
def HK(a:Axx)(b:Axm)(c e g:Int)(u:Axs):Option ((Int×Int×Axs)⊕Axs) :=
 bif decide (g<c) then
 if(0:Int)<=g/\g<(a.length:Int) then
 if(u.length+([e]:Axs).length)*8<=140737488355328 then
 (G7 e a c g b (u++([e]:Axs)) (a.getD g.toNat Ad.zero)).bind λk =>
 some (.inl ((wI (e+(a.getD g.toNat Ad.zero).2.2.1)),(wI (g+1)),k))
 else none
 else none
 else
 some (.inr u)
def C6(a:Axx)(b:Axm)(c:Int)(z_:Int×Int×Axs):=HK a b c z_.1 z_.2.1 z_.2.2
def Kc(a:Axx)(b:Axm)(c e g:Int)(u:Axs):=fix (C6 a b c) (e,g,u)
theorem Apl(a:Axx)(b:Axm)(c:Int):AU jY 0 4 (code Tryz.f156) [1,1,1,0,1,0] (AmA a b c) (C6 a b c) (Akn a b c):=by
 intro _;simp only[C6,HK,Axe];simp(disch:=refine sI ?_<;>(repeat' refine sA ?_ ?_)<;>intro _<;>kernel_rfl) only[A6 (Apk _ _ _ _ _ _ _) (K:=Be 0 (jY.hd 4) (jY.ot 4))]
 kernel_rfl
def Gw(a:Axx)(b:Axm):Option Axs :=
 (Kc a b (a.length:Int) 0 0 ([]:Axs)).bind λd =>
 some d
theorem U99(R:Type)(a:Axx)(b:Axm)(K:AV->List Blk->Option R):AH jY Tryz.f156 R [dD (.sl Ad) a,dD Ah b] [] K=(Gw a b).bind λr=>K (.ref 0) [.row 2 .deep (.int .i64) r]:=by
 simp only[Gw,Axf];simp(disch:=refine sI ?_<;>(repeat' refine sA ?_ ?_)<;>intro _<;>kernel_rfl) only[Kc,Ax (Apl _ _ _) (K:=AP jY Tryz.f156 0 R K)]
 kernel_rfl
def c156:Va.Callee:=BX [.d (.sl Ad),.d Ah] [⟨[.dat [] (.sl Ad),.dat [] Ah],[],Axs,λp=>Gw p.1.1 p.1.2.1,λr=>(.ref 0,[.row 2 .deep (.int .i64) r])⟩]
theorem xE:An Tryz.prog 156 c156:=Ap (fn:=Tryz.f156) (by kernel_rfl) (by kernel_rfl) (by kernel_rfl) ⟨⟨jY,⟨⟨Aw,Ao trivial⟩,mixed⟩,λp R K=>U99 R p.1.1 p.1.2.1 K⟩,trivial⟩
abbrev Ah9:Env:=⟨tab,As [],{deep:=true,take:=[25]}⟩
def c208:Va.Callee:=Adk [.raw,.raw] Ah9 Tryz.f208
theorem yg:An Tryz.prog 208 c208:=o9 (by kernel_rfl) (by kernel_rfl) (by kernel_rfl) ⟨⟨Aw,Ao trivial⟩,mixed⟩
abbrev Wm:Env:=⟨tab,As [(208,c208)],{deep:=true,heads:=[(3,{live:=[0,3,9,10,11]}),(11,{live:=[6,25,26,27],pre:=[(6,false,.row [] 2 (.int .i64) true)]})],outs:=[(3,{live:=[0,3]}),(11,{live:=[6]})],joins:=[(8,{live:=[0,3,9,10,11]})],ents:=[(8,[0,3,9,10,11])]}⟩
def Aft(a:AxD)(b:Int)(z_:Int×Axs):St:=sT 36 [(6,.ref 0),(25,dD (.sl (.sl (.int .i64))) a),(26,dI b),(27,dI z_.1)] [.row 2 .deep (.int .i64) z_.2]
def AeG(a:AxD)(b:Int):Axs->Ex×St:=λc=>((.exit 2),sT 36 [(6,.ref 0)] [.row 2 .deep (.int .i64) c])
def Lh(a:AxD)(b d:Int)(e:Axs):Option ((Int×Axs)⊕Axs) :=
 bif decide (d<b) then
 if(0:Int)<=d/\d<(a.length:Int) then
 if(e.length+(a.getD d.toNat (Ty.zero (.sl (.int .i64)))).length)*8<=140737488355328 then
 some (.inl ((wI (d+1)),(e++(a.getD d.toNat (Ty.zero (.sl (.int .i64)))))))
 else none
 else none
 else
 some (.inr e)
def GA(a:AxD)(b:Int)(z_:Int×Axs):=Lh a b z_.1 z_.2
def ML(a:AxD)(b d:Int)(e:Axs):=fix (GA a b) (d,e)
theorem Agf(a:AxD)(b:Int):AU Wm 0 11 (code Tryz.f155) [1,1,1,1,0,1,0] (Aft a b) (GA a b) (AeG a b):=by
 intro _;simp only[GA,Lh,Axe];kernel_rfl
def Afs(a:AxD)(g:Int)(z_:Int×Axs):St:=sT 36 [(6,.ref 0),(25,dD (.sl (.sl (.int .i64))) a),(26,dI g),(27,dI z_.1)] [.row 2 .deep (.int .i64) z_.2]
def AeF(a:AxD)(g:Int):Axs->Ex×St:=λi=>((.exit 2),sT 36 [(6,.ref 0)] [.row 2 .deep (.int .i64) i])
def Dk(a:AxD)(g j:Int)(k:Axs):Option ((Int×Axs)⊕Axs) :=
 bif decide (j<g) then
 if(0:Int)<=j/\j<(a.length:Int) then
 if(k.length+(a.getD j.toNat (Ty.zero (.sl (.int .i64)))).length)*8<=140737488355328 then
 some (.inl ((wI (j+1)),(k++(a.getD j.toNat (Ty.zero (.sl (.int .i64)))))))
 else none
 else none
 else
 some (.inr k)
def Bq(a:AxD)(g:Int)(z_:Int×Axs):=Dk a g z_.1 z_.2
def EC(a:AxD)(g j:Int)(k:Axs):=fix (Bq a g) (j,k)
theorem Age(a:AxD)(g:Int):AU Wm 0 11 (code Tryz.f155) [1,1,1,1,0,1,0] (Afs a g) (Bq a g) (AeF a g):=by
 intro _;simp only[Bq,Dk,Axe];kernel_rfl
def Afr(a:AxD)(l:Int)(z_:Int×Int):St:=sT 36 [(0,dD (.sl (.sl (.int .i64))) a),(3,dI z_.1),(9,dD (.sl (.sl (.int .i64))) a),(10,dI l),(11,dI z_.2)] []
def AeE(a:AxD)(l:Int):Int->Ex×St:=λn=>((.exit 0),sT 36 [(0,dD (.sl (.sl (.int .i64))) a),(3,dI n)] [])
def Afq(a:AxD)(o l q:Int):St:=sT 36 [(0,dD (.sl (.sl (.int .i64))) a),(3,dI o),(9,dD (.sl (.sl (.int .i64))) a),(10,dI l),(11,dI q)] []
def AeD(a:AxD)(o l q:Int):Unit->Ex×St:=λs=>(.normal,sT 36 [(0,dD (.sl (.sl (.int .i64))) a),(3,dI (wI (o+((a.getD q.toNat (Ty.zero (.sl (.int .i64)))).length:Int)))),(9,dD (.sl (.sl (.int .i64))) a),(10,dI l),(11,dI q)] [])
def EA(a:AxD)(o l q:Int):Option Unit :=
 if(0:Int)<=q/\q<(a.length:Int) then
 bif decide ((wI (o+((a.getD q.toNat (Ty.zero (.sl (.int .i64)))).length:Int)))<0) then
 none
 else
 some ()
 else none
theorem Agc(a:AxD)(o l q:Int):AL Wm 0 8 (sub (code Tryz.f155) [1,1,0,1,0,0]) [1,1,0] (Afq a o l q) (EA a o l q) (AeD a o l q):=by
 unfold AL;simp only[EA,Axe];kernel_rfl
def Dj(a:AxD)(l o q:Int):Option ((Int×Int)⊕Int) :=
 bif decide (q<l) then
 (EA a o l q).bind λs =>
 some (.inl ((wI (o+((a.getD q.toNat (Ty.zero (.sl (.int .i64)))).length:Int))),(wI (q+1))))
 else
 some (.inr o)
def Bp(a:AxD)(l:Int)(z_:Int×Int):=Dj a l z_.1 z_.2
def EB(a:AxD)(l o q:Int):=fix (Bp a l) (o,q)
theorem Agd(a:AxD)(l:Int):AU Wm 0 3 (code Tryz.f155) [1,1,0,1,0] (Afr a l) (Bp a l) (AeE a l):=by
 intro _;simp only[Bp,Dj,Axe];simp(disch:=refine sI ?_<;>(repeat' refine sA ?_ ?_)<;>intro _<;>kernel_rfl) only[A6 (Agc _ _ _ _) (K:=Be 0 (Wm.hd 3) (Wm.ot 3))]
 kernel_rfl
def CP(a:AxD):Option Axs :=
 (EB a (a.length:Int) 0 0).bind λn =>
 bif decide (n<0) then
 none
 else
 bif decide ((wI (n-0))>0) then
 if(0:Int)<=(wI (n-0))/\(wI (n-0))*((8:Nat):Int)<=(140737488355328:Int) then
 if(0:Int)<=(0:Int)/\(0:Int)<=((List.replicate (wI (n-0)).toNat 0).length:Int) then
 (EC a (a.length:Int) 0 ((List.replicate (wI (n-0)).toNat 0).take 0)).bind λi =>
 some i
 else none
 else none
 else
 (ML a (a.length:Int) 0 ([]:Axs)).bind λc =>
 some c
theorem ArG(R:Type)(a:AxD)(K:AV->List Blk->Option R):AH Wm Tryz.f155 R [dD (.sl (.sl (.int .i64))) a] [] K=(CP a).bind λr=>K (.ref 0) [.row 2 .deep (.int .i64) r]:=by
 simp only[CP,Axf];simp(disch:=refine sI ?_<;>(repeat' refine sA ?_ ?_)<;>intro _<;>kernel_rfl) only[EB,Ax (Agd _ _) (K:=AP Wm Tryz.f155 0 R K),EC,Ax (Age _ _) (K:=AP Wm Tryz.f155 0 R K),ML,Ax (Agf _ _) (K:=AP Wm Tryz.f155 0 R K)]
 kernel_rfl
def ApA:Va.Callee:=BX [.d (.sl (.sl (.int .i64)))] [⟨[.dat [] (.sl (.sl (.int .i64)))],[],Axs,λp=>CP p.1.1,λr=>(.ref 0,[.row 2 .deep (.int .i64) r])⟩]
theorem xD:An Tryz.prog 155 ApA:=Ap (fn:=Tryz.f155) (by kernel_rfl) (by kernel_rfl) (by kernel_rfl) ⟨⟨Wm,⟨⟨Aw,Ao ⟨yg,trivial⟩⟩,mixed⟩,λp R K=>ArG R p.1.1 K⟩,trivial⟩
abbrev AbM:Env:=⟨tab,As [],{deep:=true,heads:=[(2,{live:=[1,4,7,8,9]})],outs:=[(2,{live:=[4]})],Ow:=[(0,EH)]}⟩
def Afu(a:Axx)(b:Int)(z_:Int×Int):St:=sT 26 [(1,dI z_.1),(4,.ptr 0 0 [] 0),(7,dD (.sl Ad) a),(8,dI b),(9,dI z_.2)] [.box (.pr (.pr (dI 0) (.pr (dI 0) (.pr (dI 0) (.pr (.pr (dI 0) (.pr .zs .u)) .u)))) (.pr (dI 0) .u))]
def AeH(a:Axx)(b:Int):((Axi×Int)⊕Unit)->Ex×St:=Sum.elim (λc=>(.ret,sT 26 [(4,.ptr 0 0 [] 0)] [.box (.pr (dD Ad c.1) (.pr (dI c.2) .u))])) (λd=>((.exit 0),sT 26 [(4,.ptr 0 0 [] 0)] [.box (.pr (.pr (dI 0) (.pr (dI 0) (.pr (dI 0) (.pr (.pr (dI 0) (.pr .zs .u)) .u)))) (.pr (dI 0) .u))]))
def Ll(a:Axx)(b e g:Int):Option ((Int×Int)⊕((Axi×Int)⊕Unit)) :=
 bif decide (g<b) then
 if(0:Int)<=g/\g<(a.length:Int) then
 bif decide (e<(a.getD g.toNat Ad.zero).2.2.1) then
 some (.inr (.inl ((a.getD g.toNat Ad.zero),e)))
 else
 some (.inl ((wI (e-(a.getD g.toNat Ad.zero).2.2.1)),(wI (g+1))))
 else none
 else
 some (.inr (.inr ()))
def FN(a:Axx)(b:Int)(z_:Int×Int):=Ll a b z_.1 z_.2
def NH(a:Axx)(b e g:Int):=fix (FN a b) (e,g)
theorem Agg(a:Axx)(b:Int):AU AbM 0 2 (code Tryz.f160) [1,0,1,0] (Afu a b) (FN a b) (AeH a b):=by
 intro _;simp only[FN,Ll,Axe];kernel_rfl
def Jt(a:Axx)(i:Int):Option EH.V :=
 (NH a (a.length:Int) i 0).bind (Sum.elim (λc =>
 some (c.1,c.2,())) (λd =>
 some ((0,0,0,(0,([]:Axs),()),()),0,())))
theorem ArH(R:Type)(a:Axx)(i:Int)(K:AV->List Blk->Option R):AH AbM Tryz.f160 R [dD (.sl Ad) a,dI i] [] K=(Jt a i).bind λr=>K (dD EH r) []:=by
 simp only[Jt,Axf];simp(disch:=refine sI ?_<;>(repeat' refine sA ?_ ?_)<;>intro _<;>kernel_rfl) only[NH,Ax (Agg _ _) (K:=AP AbM Tryz.f160 0 R K)]
 kernel_rfl
def c160:Va.Callee:=BX [.d (.sl Ad),.d (.int .i64)] [⟨[.dat [] (.sl Ad),.dat [] (.int .i64)],[],EH.V,λp=>Jt p.1.1 p.1.2.1,λr=>(dD EH r,[])⟩]
theorem xI:An Tryz.prog 160 c160:=Ap (fn:=Tryz.f160) (by kernel_rfl) (by kernel_rfl) (by kernel_rfl) ⟨⟨AbM,⟨⟨Aw,Ao trivial⟩,mixed⟩,λp R K=>ArH R p.1.1 p.1.2.1 K⟩,trivial⟩
abbrev AhX:Env:=⟨tab,As [(211,Ag6)],{deep:=true,res:=[(0,.row [1,1] 216 (.int .u64) true)]}⟩
def Gu(a:EH.V)(b:Int)(c:List (Axg×Int)):Option (Int×Int×(List (Axg×Int))×Axs) :=
 bif a.1.1==(-1) then
 (Cr a.1.2.2.2.1 a.2.1 b).bind λd =>
 some ((-1),d.1,c,d.2)
 else
 some ((BG Aa (.int .i64) c (a.1.1,(wI (a.1.2.1+a.2.1)),())),0,c,([]:Axs))
theorem ArI(R:Type)(a:EH.V)(b:Int)(c:List (Axg×Int))(K:AV->List Blk->Option R):AH AhX Tryz.f161 R [dD EH a,.mp 0,dI b] [.map .deep Aa (.int .i64) c none] K=(Gu a b c).bind λr=>K (.pr (dI r.1) (.pr (.pr (dI r.2.1) (.pr (.ref 1) .u)) .u)) [.map .deep Aa (.int .i64) r.2.2.1 none,.row 216 .deep (.int .u64) r.2.2.2]:=by
 simp only[Gu,Axf];kernel_rfl
def ApC:Va.Callee:=BX [.d EH,.raw,.d (.int .i64)] [⟨[.dat [] EH,.k (.mp 0),.dat [] (.int .i64)],[.map .deep Aa (.int .i64)],(Int×Int×(List (Axg×Int))×Axs),λp=>Gu p.1.1 p.1.2.2.1 p.2.1,λr=>(.pr (dI r.1) (.pr (.pr (dI r.2.1) (.pr (.ref 1) .u)) .u),[.map .deep Aa (.int .i64) r.2.2.1 none,.row 216 .deep (.int .u64) r.2.2.2])⟩]
theorem xJ:An Tryz.prog 161 ApC:=Ap (fn:=Tryz.f161) (by kernel_rfl) (by kernel_rfl) (by kernel_rfl) ⟨⟨AhX,⟨⟨Aw,Ao ⟨fq,trivial⟩⟩,mixed⟩,λp R K=>ArI R p.1.1 p.1.2.2.1 p.2.1 K⟩,trivial⟩
def c157:Va.Callee:=jg
theorem xG:An Tryz.prog 157 c157:=Aa8 (fn:=Tryz.f157) Tryz.lay53 rfl (by kernel_rfl) (by kernel_rfl) (by kernel_rfl)
def ApB:Va.Callee:=jI
theorem xH:An Tryz.prog 158 ApB:=Abt (fn:=Tryz.f158) Tryz.lay43 rfl (by kernel_rfl) (by kernel_rfl) (by kernel_rfl)
abbrev AbN:Env:=⟨tab,As [(155,ApA),(156,c156),(157,c157),(158,ApB),(159,c159),(160,c160),(161,ApC)],{deep:=true,heads:=[(6,{live:=[0,1,3,9,10,35,36,37],Ow:=[(9,false,(.sl (.int .i64)))],pre:=[(10,false,.row [] 139 Ai true)]})],outs:=[(6,{live:=[10]})],gK:=[(20,(.sl (.sl (.int .i64)))),(52,EH),(58,EH)]}⟩
def Afv(a b:Axx)(c d:Axs)(e:Int)(z_:Int×(List (Axg×Int))×AxB):St:=sT 68 [(0,dD (.sl Ad) a),(1,dD (.sl Ad) b),(3,.mp 0),(9,dD (.sl (.int .i64)) c),(10,.ref 1),(35,.dat [2] (.sl (.int .i64)) d),(36,dI e),(37,dI z_.1)] [.map .deep Aa (.int .i64) z_.2.1 none,.row 139 .deep Ai z_.2.2,.dead]
def AeI(a b:Axx)(c d:Axs)(e:Int):((List (Axg×Int))×AxB)->Ex×St:=λg=>((.exit 0),sT 68 [(10,.ref 1)] [.map .deep Aa (.int .i64) g.1 none,.row 139 .deep Ai g.2])
def Kd(a b:Axx)(c d:Axs)(e i:Int)(j:List (Axg×Int))(k:AxB):Option ((Int×(List (Axg×Int))×AxB)⊕((List (Axg×Int))×AxB)) :=
 bif decide (i<e) then
 if(0:Int)<=i/\i<(d.length:Int) then
 if(0:Int)<=(wI (i+1))/\(wI (i+1))<(c.length:Int) then
 (Jt a (d.getD i.toNat (Ty.zero (.int .i64)))).bind λl =>
 (Gu l (wI ((c.getD (wI (i+1)).toNat (Ty.zero (.int .i64)))-(d.getD i.toNat (Ty.zero (.int .i64))))) j).bind λn =>
 (Jt b (d.getD i.toNat (Ty.zero (.int .i64)))).bind λo =>
 (Gu o (wI ((c.getD (wI (i+1)).toNat (Ty.zero (.int .i64)))-(d.getD i.toNat (Ty.zero (.int .i64))))) n.2.2.1).bind λq =>
 if(k.length+([((n.1,(n.2.1,n.2.2.2,()),()),(q.1,(q.2.1,q.2.2.2,()),()),(wI ((c.getD (wI (i+1)).toNat (Ty.zero (.int .i64)))-(d.getD i.toNat (Ty.zero (.int .i64))))),())]:AxB).length)*88<=140737488355328 then
 some (.inl ((wI (i+1)),q.2.2.1,(k++([((n.1,(n.2.1,n.2.2.2,()),()),(q.1,(q.2.1,q.2.2.2,()),()),(wI ((c.getD (wI (i+1)).toNat (Ty.zero (.int .i64)))-(d.getD i.toNat (Ty.zero (.int .i64))))),())]:AxB))))
 else none
 else none
 else none
 else
 some (.inr (j,k))
def EM(a b:Axx)(c d:Axs)(e:Int)(z_:Int×(List (Axg×Int))×AxB):=Kd a b c d e z_.1 z_.2.1 z_.2.2
def MA(a b:Axx)(c d:Axs)(e i:Int)(j:List (Axg×Int))(k:AxB):=fix (EM a b c d e) (i,j,k)
theorem Agh(a b:Axx)(c d:Axs)(e:Int):AU AbN 1 6 (code Tryz.f84) [1,1,1,1,1,0,1,0] (Afv a b c d e) (EM a b c d e) (AeI a b c d e):=by
 intro _;simp only[EM,Kd,Axe];kernel_rfl
def Me(a b:Axx)(s:Axm)(t:List (Axg×Int)):Option ((List (Axg×Int))×AxB) :=
 (Gw a s).bind λu =>
 (Gw b s).bind λv =>
 (CP ([u,v]:AxD)).bind λw =>
 if w.length<4611686018427387904 then
 (Du a).bind λx =>
 if((Li (Mh w)).length+([x]:Axs).length)*8<=140737488355328 then
 if(0:Int)<=(0:Int)/\(0:Int)<=(wI ((((Li (Mh w))++([x]:Axs)).length:Int)-1))/\(wI ((((Li (Mh w))++([x]:Axs)).length:Int)-1))<=(((Li (Mh w))++([x]:Axs)).length:Int) then
 (MA a b ((Li (Mh w))++([x]:Axs)) ((((Li (Mh w))++([x]:Axs)).take (wI ((((Li (Mh w))++([x]:Axs)).length:Int)-1)).toNat).drop 0) (((((Li (Mh w))++([x]:Axs)).take (wI ((((Li (Mh w))++([x]:Axs)).length:Int)-1)).toNat).drop 0).length:Int) 0 t ([]:AxB)).bind λg =>
 some (g.1,g.2)
 else none
 else none
 else none
theorem ArJ(R:Type)(a b:Axx)(s:Axm)(t:List (Axg×Int))(K:AV->List Blk->Option R):AH AbN Tryz.f84 R [dD (.sl Ad) a,dD (.sl Ad) b,dD Ah s,.mp 0] [.map .deep Aa (.int .i64) t none] K=(Me a b s t).bind λr=>K (.ref 1) [.map .deep Aa (.int .i64) r.1 none,.row 139 .deep Ai r.2]:=by
 simp only[Me,Axf];simp(disch:=refine sI ?_<;>(repeat' refine sA ?_ ?_)<;>intro _<;>kernel_rfl) only[MA,Ax (Agh _ _ _ _ _) (K:=AP AbN Tryz.f84 1 R K)]
 kernel_rfl
def c84:Va.Callee:=BX [.d (.sl Ad),.d (.sl Ad),.d Ah,.raw] [⟨[.dat [] (.sl Ad),.dat [] (.sl Ad),.dat [] Ah,.k (.mp 0)],[.map .deep Aa (.int .i64)],((List (Axg×Int))×AxB),λp=>Me p.1.1 p.1.2.1 p.1.2.2.1 p.2.1,λr=>(.ref 1,[.map .deep Aa (.int .i64) r.1 none,.row 139 .deep Ai r.2])⟩]
theorem AcR:An Tryz.prog 84 c84:=Ap (fn:=Tryz.f84) (by kernel_rfl) (by kernel_rfl) (by kernel_rfl) ⟨⟨AbN,⟨⟨Aw,Ao ⟨xD,xE,xG,xH,eY,xI,xJ,trivial⟩⟩,mixed⟩,λp R K=>ArJ R p.1.1 p.1.2.1 p.1.2.2.1 p.2.1 K⟩,trivial⟩
end
end Go.Proofs.X
namespace Go.Proofs.X
open Go Go.Va
set_option maxRecDepth 100000
noncomputable section
abbrev AbO:Env:=⟨tab,As [(81,c81),(82,c82),(83,c83),(84,c84),(85,c85),(86,c86)],{joins:=[(3,{live:=[0,4,5,27]})],ents:=[(3,[0,4,5,8,9])],gK:=[(15,(.sl Ag)),(31,(.sl Ag)),(46,(.sl Af))],res:=[(0,.row [] 139 Ai true)]}⟩
def Afw(a:Axw)(b:Axl)(c:Axm)(d:Bool)(e:AxD):St:=sT 49 [(0,dD (.sl Ab) a),(4,.ptr 0 0 [] 0),(5,.ptr 1 0 [] 0),(8,.ptr 2 0 [] 0),(9,dB d)] [.box (dD Ag b),.box (dD Ah c),.box (.pr (.ref 3) .u),.row 72 .deep (.sl (.int .i64)) e]
def AeJ(a:Axw)(b:Axl)(c:Axm)(d:Bool)(e:AxD):Bool->Ex×St:=λg=>(.normal,sT 49 [(0,dD (.sl Ab) a),(4,.ptr 0 0 [] 0),(5,.ptr 1 0 [] 0),(27,dB g)] [.box (dD Ag b),.box (dD Ah c)])
def EJ(a:Axw)(b:Axl)(c:Axm)(d:Bool)(e:AxD):Option Bool :=
 bif !d then
 some true
 else
 (Iw (e,()) c).bind λi =>
 some (!i)
theorem Agi(a:Axw)(b:Axl)(c:Axm)(d:Bool)(e:AxD):AL AbO 0 3 (code Tryz.f26) [1,1,0,0] (Afw a b c d e) (EJ a b c d e) (AeJ a b c d e):=by
 unfold AL;simp only[EJ,Axe];kernel_rfl
def B7(a:Axw)(b:Axl)(c:Axm):Option (Bool×AxB) :=
 (Dn a ([b]:AxA) c).bind λj =>
 (EJ a b c j.1 j.2).bind λg =>
 bif g then
 some (false,([]:AxB))
 else
 (LS a ([b]:AxA)).bind λk =>
 if(0:Int)<=(0:Int)/\(0:Int)<(k.2.length:Int) then
 if(0:Int)<=(0:Int)/\(0:Int)<(k.2.length:Int) then
 (Ix a c).bind λl =>
 (Iv l).bind λn =>
 (Me (k.2.getD 0 (Ty.zero (.pair (.sl Ad) (.pair (.sl Ad) .unit)))).1 (k.2.getD 0 (Ty.zero (.pair (.sl Ad) (.pair (.sl Ad) .unit)))).2.1 c n).bind λo =>
 some (true,o.2)
 else none
 else none
theorem ArK(R:Type)(a:Axw)(b:Axl)(c:Axm)(K:AV->List Blk->Option R):AH AbO Tryz.f26 R [dD (.sl Ab) a,dD Ag b,dD Ah c] [] K=(B7 a b c).bind λr=>K (.cons (.ref 0) (.cons (dB r.1) .nil)) [.row 139 .deep Ai r.2]:=by
 simp only[B7,Axf];simp(disch:=refine sI ?_<;>(repeat' refine sA ?_ ?_)<;>intro _<;>kernel_rfl) only[A6 (Agi _ _ _ _ _) (K:=AP AbO Tryz.f26 0 R K)]
 kernel_rfl
def c26:Va.Callee:=BX [.d (.sl Ab),.d Ag,.d Ah] [⟨[.dat [] (.sl Ab),.dat [] Ag,.dat [] Ah],[],(Bool×AxB),λp=>B7 p.1.1 p.1.2.1 p.1.2.2.1,λr=>(.cons (.ref 0) (.cons (dB r.1) .nil),[.row 139 .deep Ai r.2])⟩]
theorem Aco:An Tryz.prog 26 c26:=Ap (fn:=Tryz.f26) (by kernel_rfl) (by kernel_rfl) (by kernel_rfl) ⟨⟨AbO,⟨⟨Aw,Ao ⟨AcP,AcQ,oz,AcR,AcS,AcT,trivial⟩⟩,mixed⟩,λp R K=>ArK R p.1.1 p.1.2.1 p.1.2.2.1 K⟩,trivial⟩
abbrev AbP:Env:=⟨tab,As [],{deep:=true,heads:=[(4,{live:=[0,1,5]})],outs:=[(4,{live:=[4]})]}⟩
def Afx(a b:Axs)(z_:Int):St:=sT 26 [(0,dD (.sl (.int .u64)) a),(1,dD (.sl (.int .u64)) b),(5,dI z_)] []
def AeK(a b:Axs):(Unit⊕Unit)->Ex×St:=Sum.elim (λc=>(.ret,sT 26 [(4,dB false)] [])) (λd=>((.exit 0),sT 26 [] []))
def Om(a b:Axs)(e:Int):Option (Int⊕(Unit⊕Unit)) :=
 bif decide (e<(a.length:Int)) then
 if(0:Int)<=e/\e<(a.length:Int) then
 if(0:Int)<=e/\e<(b.length:Int) then
 bif (a.getD e.toNat (Ty.zero (.int .u64))) !=(b.getD e.toNat (Ty.zero (.int .u64))) then
 some (.inr (.inl ()))
 else
 some (.inl (wI (e+1)))
 else none
 else none
 else
 some (.inr (.inr ()))
def GU(a b:Axs)(z_:Int):=Om a b z_
def PI(a b:Axs)(e:Int):=fix (GU a b) e
theorem Agj(a b:Axs):AU AbP 0 4 (code Tryz.f117) [1,1,0,1,0] (Afx a b) (GU a b) (AeK a b):=by
 intro _;simp only[GU,Om,Axe];kernel_rfl
def JE(a b:Axs):Option Bool :=
 bif (a.length:Int) !=(b.length:Int) then
 some false
 else
 (PI a b 0).bind (Sum.elim (λc =>
 some false) (λd =>
 some true))
theorem ArL(R:Type)(a b:Axs)(K:AV->List Blk->Option R):AH AbP Tryz.f117 R [dD (.sl (.int .u64)) a,dD (.sl (.int .u64)) b] [] K=(JE a b).bind λr=>K (dB r) []:=by
 simp only[JE,Axf];simp(disch:=refine sI ?_<;>(repeat' refine sA ?_ ?_)<;>intro _<;>kernel_rfl) only[PI,Ax (Agj _ _) (K:=AP AbP Tryz.f117 0 R K)]
 kernel_rfl
def c117:Va.Callee:=BX [.d (.sl (.int .u64)),.d (.sl (.int .u64))] [⟨[.dat [] (.sl (.int .u64)),.dat [] (.sl (.int .u64))],[],Bool,λp=>JE p.1.1 p.1.2.1,λr=>(dB r,[])⟩]
theorem wT:An Tryz.prog 117 c117:=Ap (fn:=Tryz.f117) (by kernel_rfl) (by kernel_rfl) (by kernel_rfl) ⟨⟨AbP,⟨⟨Aw,Ao trivial⟩,mixed⟩,λp R K=>ArL R p.1.1 p.1.2.1 K⟩,trivial⟩
abbrev AhY:Env:=⟨tab,As [(117,c117)],{deep:=true}⟩
def Jz(a b:Axq):Option Bool :=
 bif a.1 !=b.1 then
 some false
 else
 (JE a.2.1 b.2.1).bind λc =>
 bif !c then
 some false
 else
 some true
theorem ArM(R:Type)(a b:Axq)(K:AV->List Blk->Option R):AH AhY Tryz.f45 R [dD Am a,dD Am b] [] K=(Jz a b).bind λr=>K (dB r) []:=by
 simp only[Jz,Axf];kernel_rfl
def c45:Va.Callee:=BX [.d Am,.d Am] [⟨[.dat [] Am,.dat [] Am],[],Bool,λp=>Jz p.1.1 p.1.2.1,λr=>(dB r,[])⟩]
theorem oh:An Tryz.prog 45 c45:=Ap (fn:=Tryz.f45) (by kernel_rfl) (by kernel_rfl) (by kernel_rfl) ⟨⟨AhY,⟨⟨Aw,Ao ⟨wT,trivial⟩⟩,mixed⟩,λp R K=>ArM R p.1.1 p.1.2.1 K⟩,trivial⟩
abbrev AhZ:Env:=⟨tab,As [(45,c45)],{deep:=true}⟩
def Jy(a b:Axr):Option Bool :=
 bif a.1 !=b.1 then
 some false
 else
 (Jz a.2.1 b.2.1).bind λc =>
 bif !c then
 some false
 else
 some true
theorem ArN(R:Type)(a b:Axr)(K:AV->List Blk->Option R):AH AhZ Tryz.f163 R [dD Bm a,dD Bm b] [] K=(Jy a b).bind λr=>K (dB r) []:=by
 simp only[Jy,Axf];kernel_rfl
def ApD:Va.Callee:=BX [.d Bm,.d Bm] [⟨[.dat [] Bm,.dat [] Bm],[],Bool,λp=>Jy p.1.1 p.1.2.1,λr=>(dB r,[])⟩]
theorem xL:An Tryz.prog 163 ApD:=Ap (fn:=Tryz.f163) (by kernel_rfl) (by kernel_rfl) (by kernel_rfl) ⟨⟨AhZ,⟨⟨Aw,Ao ⟨oh,trivial⟩⟩,mixed⟩,λp R K=>ArN R p.1.1 p.1.2.1 K⟩,trivial⟩
abbrev Ah0:Env:=⟨tab,As [(163,ApD)],{deep:=true}⟩
def HO(a b:Axn):Option Bool :=
 (Jy a.1 b.1).bind λc =>
 bif !c then
 some false
 else
 (Jy a.2.1 b.2.1).bind λd =>
 bif !d then
 some false
 else
 bif a.2.2.1 !=b.2.2.1 then
 some false
 else
 some true
theorem ArO(R:Type)(a b:Axn)(K:AV->List Blk->Option R):AH Ah0 Tryz.f87 R [dD Ai a,dD Ai b] [] K=(HO a b).bind λr=>K (dB r) []:=by
 simp only[HO,Axf];kernel_rfl
def c87:Va.Callee:=BX [.d Ai,.d Ai] [⟨[.dat [] Ai,.dat [] Ai],[],Bool,λp=>HO p.1.1 p.1.2.1,λr=>(dB r,[])⟩]
theorem AcU:An Tryz.prog 87 c87:=Ap (fn:=Tryz.f87) (by kernel_rfl) (by kernel_rfl) (by kernel_rfl) ⟨⟨Ah0,⟨⟨Aw,Ao ⟨xL,trivial⟩⟩,mixed⟩,λp R K=>ArO R p.1.1 p.1.2.1 K⟩,trivial⟩
abbrev AbQ:Env:=⟨tab,As [(87,c87)],{deep:=true,heads:=[(4,{live:=[0,1,5]})],outs:=[(4,{live:=[4]})]}⟩
def Afy(a b:AxB)(z_:Int):St:=sT 27 [(0,dD (.sl Ai) a),(1,dD (.sl Ai) b),(5,dI z_)] []
def AeL(a b:AxB):(Unit⊕Unit)->Ex×St:=Sum.elim (λc=>(.ret,sT 27 [(4,dB false)] [])) (λd=>((.exit 0),sT 27 [] []))
def O3(a b:AxB)(e:Int):Option (Int⊕(Unit⊕Unit)) :=
 bif decide (e<(a.length:Int)) then
 if(0:Int)<=e/\e<(a.length:Int) then
 if(0:Int)<=e/\e<(b.length:Int) then
 (HO (a.getD e.toNat Ai.zero) (b.getD e.toNat Ai.zero)).bind λg =>
 bif !g then
 some (.inr (.inl ()))
 else
 some (.inl (wI (e+1)))
 else none
 else none
 else
 some (.inr (.inr ()))
def HP(a b:AxB)(z_:Int):=O3 a b z_
def Qr(a b:AxB)(e:Int):=fix (HP a b) e
theorem Agk(a b:AxB):AU AbQ 0 4 (code Tryz.f27) [1,1,0,1,0] (Afy a b) (HP a b) (AeL a b):=by
 intro _;simp only[HP,O3,Axe];kernel_rfl
def Gy(a b:AxB):Option Bool :=
 bif (a.length:Int) !=(b.length:Int) then
 some false
 else
 (Qr a b 0).bind (Sum.elim (λc =>
 some false) (λd =>
 some true))
theorem ArP(R:Type)(a b:AxB)(K:AV->List Blk->Option R):AH AbQ Tryz.f27 R [dD (.sl Ai) a,dD (.sl Ai) b] [] K=(Gy a b).bind λr=>K (dB r) []:=by
 simp only[Gy,Axf];simp(disch:=refine sI ?_<;>(repeat' refine sA ?_ ?_)<;>intro _<;>kernel_rfl) only[Qr,Ax (Agk _ _) (K:=AP AbQ Tryz.f27 0 R K)]
 kernel_rfl
def c27:Va.Callee:=BX [.d (.sl Ai),.d (.sl Ai)] [⟨[.dat [] (.sl Ai),.dat [] (.sl Ai)],[],Bool,λp=>Gy p.1.1 p.1.2.1,λr=>(dB r,[])⟩]
theorem Acp:An Tryz.prog 27 c27:=Ap (fn:=Tryz.f27) (by kernel_rfl) (by kernel_rfl) (by kernel_rfl) ⟨⟨AbQ,⟨⟨Aw,Ao ⟨AcU,trivial⟩⟩,mixed⟩,λp R K=>ArP R p.1.1 p.1.2.1 K⟩,trivial⟩
abbrev Aeq:Env:=⟨tab,As [],{deep:=true}⟩
def JB(a b:Axh):Bool:=((!(!(strEq a.1 b.1)))&&((!(a.2.1 !=b.2.1))&&true))
theorem ArQ(R:Type)(a b:Axh)(K:AV->List Blk->Option R):AH Aeq Tryz.f64 R [dD Ab a,dD Ab b] [] K=K (dB (JB a b)) []:=by
 have h:AH Aeq Tryz.f64 R [dD Ab a,dD Ab b] [] K =
 bif !(strEq a.1 b.1) then
 K (dB false) []
 else
 bif a.2.1 !=b.2.1 then
 K (dB false) []
 else
 K (dB true) []:=by kernel_rfl
 rw[h];unfold JB;cases h1:(!(strEq a.1 b.1))
 ·cases h2:(a.2.1 !=b.2.1)
  ·first | rfl | kernel_rfl
  ·first | rfl | kernel_rfl
 ·first | rfl | kernel_rfl
def c64:Va.Callee:=BX [.d Ab,.d Ab] [⟨[.dat [] Ab,.dat [] Ab],[],Bool,λp=>some (JB p.1.1 p.1.2.1),λr=>(dB r,[])⟩]
theorem AcG:An Tryz.prog 64 c64:=Ap (fn:=Tryz.f64) (by kernel_rfl) (by kernel_rfl) (by kernel_rfl) ⟨⟨Aeq,⟨⟨Aw,Ao trivial⟩,mixed⟩,λp R K=>ArQ R p.1.1 p.1.2.1 K⟩,trivial⟩
abbrev AbR:Env:=⟨tab,As [(64,c64)],{deep:=true,heads:=[(4,{live:=[0,1,5]})],outs:=[(4,{live:=[4]})]}⟩
def Afz(a b:Axw)(z_:Int):St:=sT 27 [(0,dD (.sl Ab) a),(1,dD (.sl Ab) b),(5,dI z_)] []
def AeM(a b:Axw):(Unit⊕Unit)->Ex×St:=Sum.elim (λc=>(.ret,sT 27 [(4,dB false)] [])) (λd=>((.exit 0),sT 27 [] []))
def PG(a b:Axw)(e:Int):Option (Int⊕(Unit⊕Unit)) :=
 bif decide (e<(a.length:Int)) then
 if(0:Int)<=e/\e<(a.length:Int) then
 if(0:Int)<=e/\e<(b.length:Int) then
 bif !(JB (a.getD e.toNat Ab.zero) (b.getD e.toNat Ab.zero)) then
 some (.inr (.inl ()))
 else
 some (.inl (wI (e+1)))
 else none
 else none
 else
 some (.inr (.inr ()))
def IY(a b:Axw)(z_:Int):=PG a b z_
def Q7(a b:Axw)(e:Int):=fix (IY a b) e
theorem Agl(a b:Axw):AU AbR 0 4 (code Tryz.f15) [1,1,0,1,0] (Afz a b) (IY a b) (AeM a b):=by
 intro _;simp only[IY,PG,Axe];kernel_rfl
def MC(a b:Axw):Option Bool :=
 bif (a.length:Int) !=(b.length:Int) then
 some false
 else
 (Q7 a b 0).bind (Sum.elim (λc =>
 some false) (λd =>
 some true))
theorem ArR(R:Type)(a b:Axw)(K:AV->List Blk->Option R):AH AbR Tryz.f15 R [dD (.sl Ab) a,dD (.sl Ab) b] [] K=(MC a b).bind λr=>K (dB r) []:=by
 simp only[MC,Axf];simp(disch:=refine sI ?_<;>(repeat' refine sA ?_ ?_)<;>intro _<;>kernel_rfl) only[Q7,Ax (Agl _ _) (K:=AP AbR Tryz.f15 0 R K)]
 kernel_rfl
def c15:Va.Callee:=BX [.d (.sl Ab),.d (.sl Ab)] [⟨[.dat [] (.sl Ab),.dat [] (.sl Ab)],[],Bool,λp=>MC p.1.1 p.1.2.1,λr=>(dB r,[])⟩]
theorem Acg:An Tryz.prog 15 c15:=Ap (fn:=Tryz.f15) (by kernel_rfl) (by kernel_rfl) (by kernel_rfl) ⟨⟨AbR,⟨⟨Aw,Ao ⟨AcG,trivial⟩⟩,mixed⟩,λp R K=>ArR R p.1.1 p.1.2.1 K⟩,trivial⟩
end
end Go.Proofs.X
namespace Go.Proofs.X
open Go Go.Va
set_option maxRecDepth 100000
noncomputable section
abbrev AbS:Env:=⟨tab,As [],{deep:=true,heads:=[(4,{live:=[0,1,5]})],outs:=[(4,{live:=[4]})]}⟩
def AfA(a b:Axs)(z_:Int):St:=sT 26 [(0,dD (.sl (.int .i64)) a),(1,dD (.sl (.int .i64)) b),(5,dI z_)] []
def AeN(a b:Axs):(Unit⊕Unit)->Ex×St:=Sum.elim (λc=>(.ret,sT 26 [(4,dB false)] [])) (λd=>((.exit 0),sT 26 [] []))
def O2(a b:Axs)(e:Int):Option (Int⊕(Unit⊕Unit)) :=
 bif decide (e<(a.length:Int)) then
 if(0:Int)<=e/\e<(a.length:Int) then
 if(0:Int)<=e/\e<(b.length:Int) then
 bif (a.getD e.toNat (Ty.zero (.int .i64))) !=(b.getD e.toNat (Ty.zero (.int .i64))) then
 some (.inr (.inl ()))
 else
 some (.inl (wI (e+1)))
 else none
 else none
 else
 some (.inr (.inr ()))
def HN(a b:Axs)(z_:Int):=O2 a b z_
def Qq(a b:Axs)(e:Int):=fix (HN a b) e
theorem Agm(a b:Axs):AU AbS 0 4 (code Tryz.f103) [1,1,0,1,0] (AfA a b) (HN a b) (AeN a b):=by
 intro _;simp only[HN,O2,Axe];kernel_rfl
def Gx(a b:Axs):Option Bool :=
 bif (a.length:Int) !=(b.length:Int) then
 some false
 else
 (Qq a b 0).bind (Sum.elim (λc =>
 some false) (λd =>
 some true))
theorem ArS(R:Type)(a b:Axs)(K:AV->List Blk->Option R):AH AbS Tryz.f103 R [dD (.sl (.int .i64)) a,dD (.sl (.int .i64)) b] [] K=(Gx a b).bind λr=>K (dB r) []:=by
 simp only[Gx,Axf];simp(disch:=refine sI ?_<;>(repeat' refine sA ?_ ?_)<;>intro _<;>kernel_rfl) only[Qq,Ax (Agm _ _) (K:=AP AbS Tryz.f103 0 R K)]
 kernel_rfl
def Ag1:Va.Callee:=BX [.d (.sl (.int .i64)),.d (.sl (.int .i64))] [⟨[.dat [] (.sl (.int .i64)),.dat [] (.sl (.int .i64))],[],Bool,λp=>Gx p.1.1 p.1.2.1,λr=>(dB r,[])⟩]
theorem eG:An Tryz.prog 103 Ag1:=Ap (fn:=Tryz.f103) (by kernel_rfl) (by kernel_rfl) (by kernel_rfl) ⟨⟨AbS,⟨⟨Aw,Ao trivial⟩,mixed⟩,λp R K=>ArS R p.1.1 p.1.2.1 K⟩,trivial⟩
abbrev Ah1:Env:=⟨tab,As [(45,c45),(103,Ag1)],{deep:=true}⟩
def HQ(a b:Axj):Option Bool :=
 bif a.1 !=b.1 then
 some false
 else
 bif a.2.1 !=b.2.1 then
 some false
 else
 bif a.2.2.1 !=b.2.2.1 then
 some false
 else
 bif a.2.2.2.1 !=b.2.2.2.1 then
 some false
 else
 (Jz a.2.2.2.2.1 b.2.2.2.2.1).bind λc =>
 bif !c then
 some false
 else
 (Gx a.2.2.2.2.2.1 b.2.2.2.2.2.1).bind λd =>
 bif !d then
 some false
 else
 some true
theorem ArT(R:Type)(a b:Axj)(K:AV->List Blk->Option R):AH Ah1 Tryz.f185 R [dD Ae a,dD Ae b] [] K=(HQ a b).bind λr=>K (dB r) []:=by
 simp only[HQ,Axf];kernel_rfl
def ApI:Va.Callee:=BX [.d Ae,.d Ae] [⟨[.dat [] Ae,.dat [] Ae],[],Bool,λp=>HQ p.1.1 p.1.2.1,λr=>(dB r,[])⟩]
theorem xS:An Tryz.prog 185 ApI:=Ap (fn:=Tryz.f185) (by kernel_rfl) (by kernel_rfl) (by kernel_rfl) ⟨⟨Ah1,⟨⟨Aw,Ao ⟨oh,eG,trivial⟩⟩,mixed⟩,λp R K=>ArT R p.1.1 p.1.2.1 K⟩,trivial⟩
abbrev AbT:Env:=⟨tab,As [(185,ApI)],{deep:=true,heads:=[(4,{live:=[0,1,5]})],outs:=[(4,{live:=[4]})]}⟩
def AfB(a b:Axy)(z_:Int):St:=sT 27 [(0,dD (.sl Ae) a),(1,dD (.sl Ae) b),(5,dI z_)] []
def AeO(a b:Axy):(Unit⊕Unit)->Ex×St:=Sum.elim (λc=>(.ret,sT 27 [(4,dB false)] [])) (λd=>((.exit 0),sT 27 [] []))
def O4(a b:Axy)(e:Int):Option (Int⊕(Unit⊕Unit)) :=
 bif decide (e<(a.length:Int)) then
 if(0:Int)<=e/\e<(a.length:Int) then
 if(0:Int)<=e/\e<(b.length:Int) then
 (HQ (a.getD e.toNat Ae.zero) (b.getD e.toNat Ae.zero)).bind λg =>
 bif !g then
 some (.inr (.inl ()))
 else
 some (.inl (wI (e+1)))
 else none
 else none
 else
 some (.inr (.inr ()))
def HR(a b:Axy)(z_:Int):=O4 a b z_
def Qs(a b:Axy)(e:Int):=fix (HR a b) e
theorem Agn(a b:Axy):AU AbT 0 4 (code Tryz.f118) [1,1,0,1,0] (AfB a b) (HR a b) (AeO a b):=by
 intro _;simp only[HR,O4,Axe];kernel_rfl
def Lc(a b:Axy):Option Bool :=
 bif (a.length:Int) !=(b.length:Int) then
 some false
 else
 (Qs a b 0).bind (Sum.elim (λc =>
 some false) (λd =>
 some true))
theorem ArU(R:Type)(a b:Axy)(K:AV->List Blk->Option R):AH AbT Tryz.f118 R [dD (.sl Ae) a,dD (.sl Ae) b] [] K=(Lc a b).bind λr=>K (dB r) []:=by
 simp only[Lc,Axf];simp(disch:=refine sI ?_<;>(repeat' refine sA ?_ ?_)<;>intro _<;>kernel_rfl) only[Qs,Ax (Agn _ _) (K:=AP AbT Tryz.f118 0 R K)]
 kernel_rfl
def Apq:Va.Callee:=BX [.d (.sl Ae),.d (.sl Ae)] [⟨[.dat [] (.sl Ae),.dat [] (.sl Ae)],[],Bool,λp=>Lc p.1.1 p.1.2.1,λr=>(dB r,[])⟩]
theorem wU:An Tryz.prog 118 Apq:=Ap (fn:=Tryz.f118) (by kernel_rfl) (by kernel_rfl) (by kernel_rfl) ⟨⟨AbT,⟨⟨Aw,Ao ⟨xS,trivial⟩⟩,mixed⟩,λp R K=>ArU R p.1.1 p.1.2.1 K⟩,trivial⟩
abbrev Ah2:Env:=⟨tab,As [(118,Apq)],{deep:=true}⟩
def JD(a b:Axp):Option Bool :=
 (Lc a.1 b.1).bind λc =>
 bif !c then
 some false
 else
 some true
theorem ArV(R:Type)(a b:Axp)(K:AV->List Blk->Option R):AH Ah2 Tryz.f46 R [dD Ak a,dD Ak b] [] K=(JD a b).bind λr=>K (dB r) []:=by
 simp only[JD,Axf];kernel_rfl
def c46:Va.Callee:=BX [.d Ak,.d Ak] [⟨[.dat [] Ak,.dat [] Ak],[],Bool,λp=>JD p.1.1 p.1.2.1,λr=>(dB r,[])⟩]
theorem AcA:An Tryz.prog 46 c46:=Ap (fn:=Tryz.f46) (by kernel_rfl) (by kernel_rfl) (by kernel_rfl) ⟨⟨Ah2,⟨⟨Aw,Ao ⟨wU,trivial⟩⟩,mixed⟩,λp R K=>ArV R p.1.1 p.1.2.1 K⟩,trivial⟩
abbrev Ah3:Env:=⟨tab,As [(46,c46)],{deep:=true}⟩
def Fo(a b:Axl):Option Bool :=
 bif a.1 !=b.1 then
 some false
 else
 bif !(a.2.1==b.2.1) then
 some false
 else
 (JD a.2.2.1 b.2.2.1).bind λc =>
 bif !c then
 some false
 else
 (JD a.2.2.2.1 b.2.2.2.1).bind λd =>
 bif !d then
 some false
 else
 some true
theorem ArW(R:Type)(a b:Axl)(K:AV->List Blk->Option R):AH Ah3 Tryz.f28 R [dD Ag a,dD Ag b] [] K=(Fo a b).bind λr=>K (dB r) []:=by
 simp only[Fo,Axf];kernel_rfl
def c28:Va.Callee:=BX [.d Ag,.d Ag] [⟨[.dat [] Ag,.dat [] Ag],[],Bool,λp=>Fo p.1.1 p.1.2.1,λr=>(dB r,[])⟩]
theorem Acr:An Tryz.prog 28 c28:=Ap (fn:=Tryz.f28) (by kernel_rfl) (by kernel_rfl) (by kernel_rfl) ⟨⟨Ah3,⟨⟨Aw,Ao ⟨AcA,trivial⟩⟩,mixed⟩,λp R K=>ArW R p.1.1 p.1.2.1 K⟩,trivial⟩
abbrev AbU:Env:=⟨tab,As [(103,Ag1)],{deep:=true,heads:=[(4,{live:=[0,1,5]})],outs:=[(4,{live:=[4]})]}⟩
def AfC(a b:AxD)(z_:Int):St:=sT 27 [(0,dD (.sl (.sl (.int .i64))) a),(1,dD (.sl (.sl (.int .i64))) b),(5,dI z_)] []
def AeP(a b:AxD):(Unit⊕Unit)->Ex×St:=Sum.elim (λc=>(.ret,sT 27 [(4,dB false)] [])) (λd=>((.exit 0),sT 27 [] []))
def Ol(a b:AxD)(e:Int):Option (Int⊕(Unit⊕Unit)) :=
 bif decide (e<(a.length:Int)) then
 if(0:Int)<=e/\e<(a.length:Int) then
 if(0:Int)<=e/\e<(b.length:Int) then
 (Gx (a.getD e.toNat (Ty.zero (.sl (.int .i64)))) (b.getD e.toNat (Ty.zero (.sl (.int .i64))))).bind λg =>
 bif !g then
 some (.inr (.inl ()))
 else
 some (.inl (wI (e+1)))
 else none
 else none
 else
 some (.inr (.inr ()))
def GR(a b:AxD)(z_:Int):=Ol a b z_
def PH(a b:AxD)(e:Int):=fix (GR a b) e
theorem Ago(a b:AxD):AU AbU 0 4 (code Tryz.f88) [1,1,0,1,0] (AfC a b) (GR a b) (AeP a b):=by
 intro _;simp only[GR,Ol,Axe];kernel_rfl
def JC(a b:AxD):Option Bool :=
 bif (a.length:Int) !=(b.length:Int) then
 some false
 else
 (PH a b 0).bind (Sum.elim (λc =>
 some false) (λd =>
 some true))
theorem ArX(R:Type)(a b:AxD)(K:AV->List Blk->Option R):AH AbU Tryz.f88 R [dD (.sl (.sl (.int .i64))) a,dD (.sl (.sl (.int .i64))) b] [] K=(JC a b).bind λr=>K (dB r) []:=by
 simp only[JC,Axf];simp(disch:=refine sI ?_<;>(repeat' refine sA ?_ ?_)<;>intro _<;>kernel_rfl) only[PH,Ax (Ago _ _) (K:=AP AbU Tryz.f88 0 R K)]
 kernel_rfl
def c88:Va.Callee:=BX [.d (.sl (.sl (.int .i64))),.d (.sl (.sl (.int .i64)))] [⟨[.dat [] (.sl (.sl (.int .i64))),.dat [] (.sl (.sl (.int .i64)))],[],Bool,λp=>JC p.1.1 p.1.2.1,λr=>(dB r,[])⟩]
theorem AcV:An Tryz.prog 88 c88:=Ap (fn:=Tryz.f88) (by kernel_rfl) (by kernel_rfl) (by kernel_rfl) ⟨⟨AbU,⟨⟨Aw,Ao ⟨eG,trivial⟩⟩,mixed⟩,λp R K=>ArX R p.1.1 p.1.2.1 K⟩,trivial⟩
abbrev Ah4:Env:=⟨tab,As [(88,c88)],{deep:=true}⟩
def JA(a b:Axm):Option Bool :=
 (JC a.1 b.1).bind λc =>
 bif !c then
 some false
 else
 some true
theorem ArY(R:Type)(a b:Axm)(K:AV->List Blk->Option R):AH Ah4 Tryz.f29 R [dD Ah a,dD Ah b] [] K=(JA a b).bind λr=>K (dB r) []:=by
 simp only[JA,Axf];kernel_rfl
def c29:Va.Callee:=BX [.d Ah,.d Ah] [⟨[.dat [] Ah,.dat [] Ah],[],Bool,λp=>JA p.1.1 p.1.2.1,λr=>(dB r,[])⟩]
theorem Acs:An Tryz.prog 29 c29:=Ap (fn:=Tryz.f29) (by kernel_rfl) (by kernel_rfl) (by kernel_rfl) ⟨⟨Ah4,⟨⟨Aw,Ao ⟨AcV,trivial⟩⟩,mixed⟩,λp R K=>ArY R p.1.1 p.1.2.1 K⟩,trivial⟩
abbrev AbV:Env:=⟨tab,As [],{deep:=true,heads:=[(4,{live:=[0,3]})],outs:=[(4,{live:=[3]})]}⟩
def AfD(z_:Int×ByteArray):St:=sT 20 [(0,dI z_.1),(3,dD .str z_.2)] []
def AeQ:ByteArray->Ex×St:=λa=>((.exit 0),sT 20 [(3,dD .str a)] [])
def LZ(b:Int)(c:ByteArray):Option ((Int×ByteArray)⊕ByteArray) :=
 bif decide (b>0) then
 if(bytesOf ([(IntKind.u8.wrap (wI (48+(Int.tmod b 10))))]:Axs)).size+c.size<=9223372036854775807 then
 some (.inl ((wI (Int.tdiv b 10)),((bytesOf ([(IntKind.u8.wrap (wI (48+(Int.tmod b 10))))]:Axs))++c)))
 else none
 else
 some (.inr c)
def HY(z_:Int×ByteArray):=LZ z_.1 z_.2
def Ns(b:Int)(c:ByteArray):=fix (HY) (b,c)
theorem Agp:AU AbV 0 4 (code Tryz.f65) [1,1,1,0,0] (AfD) (HY) (AeQ):=by
 intro _;simp only[HY,LZ,Axe];kernel_rfl
def Iy(d:Int):Option ByteArray :=
 bif decide (d<=0) then
 some (⟨#[109,48]⟩:ByteArray)
 else
 (Ns d (⟨#[]⟩:ByteArray)).bind λa =>
 if(⟨#[109]⟩:ByteArray).size+a.size<=9223372036854775807 then
 some ((⟨#[109]⟩:ByteArray)++a)
 else none
theorem ArZ(R:Type)(d:Int)(K:AV->List Blk->Option R):AH AbV Tryz.f65 R [dI d] [] K=(Iy d).bind λr=>K (dD .str r) []:=by
 simp only[Iy,Axf];simp(disch:=refine sI ?_<;>(repeat' refine sA ?_ ?_)<;>intro _<;>kernel_rfl) only[Ns,Ax (Agp) (K:=AP AbV Tryz.f65 0 R K)]
 kernel_rfl
def c65:Va.Callee:=BX [.d (.int .i64)] [⟨[.dat [] (.int .i64)],[],ByteArray,λp=>Iy p.1.1,λr=>(dD .str r,[])⟩]
theorem AcH:An Tryz.prog 65 c65:=Ap (fn:=Tryz.f65) (by kernel_rfl) (by kernel_rfl) (by kernel_rfl) ⟨⟨AbV,⟨⟨Aw,Ao trivial⟩,mixed⟩,λp R K=>ArZ R p.1.1 K⟩,trivial⟩
end
end Go.Proofs.X
namespace Go.Proofs.X
open Go Go.Va
set_option maxRecDepth 100000
noncomputable section
abbrev AbW:Env:=⟨tab,As [(65,c65)],{deep:=true,heads:=[(2,{live:=[0,1,5]})],outs:=[(2,{live:=[1]})]}⟩
def AfE(z_:Int×Int×Axw):St:=sT 28 [(0,.ref 0),(1,dI z_.1),(5,dI z_.2.1)] [.row 109 .deep Ab z_.2.2]
def AeR:(Int×Axw)->Ex×St:=λa=>((.exit 0),sT 28 [(1,dI a.1)] [.row 109 .deep Ab a.2])
def GV(b c:Int)(d:Axw):Option ((Int×Int×Axw)⊕(Int×Axw)) :=
 bif decide (c<(d.length:Int)) then
 (Iy b).bind λe =>
 if(0:Int)<=c/\c<(d.length:Int) then
 if(0:Int)<=c/\c<((d.set c.toNat (e,(d.getD c.toNat Ab.zero).2)).length:Int) then
 some (.inl ((wI ((wI (b+1))+1)),(wI (c+1)),((d.set c.toNat (e,(d.getD c.toNat Ab.zero).2)).set c.toNat (((d.set c.toNat (e,(d.getD c.toNat Ab.zero).2)).getD c.toNat Ab.zero).1,(wI (b+1)),((d.set c.toNat (e,(d.getD c.toNat Ab.zero).2)).getD c.toNat Ab.zero).2.2))))
 else none
 else none
 else
 some (.inr (b,d))
def CO(z_:Int×Int×Axw):=GV z_.1 z_.2.1 z_.2.2
def MD(b c:Int)(d:Axw):=fix (CO) (b,c,d)
theorem Agq:AU AbW 1 2 (code Tryz.f17) [1,0,1,0] (AfE) (CO) (AeR):=by
 intro _;simp only[CO,GV,Axe];kernel_rfl
def G9(g:Int)(i:Axw):Option (Int×Axw) :=
 (MD g 0 i).bind λa =>
 some (a.1,a.2)
theorem Ar0(R:Type)(g:Int)(i:Axw)(K:AV->List Blk->Option R):AH AbW Tryz.f17 R [.ref 0,dI g] [.row 109 .deep Ab i] K=(G9 g i).bind λr=>K (dI r.1) [.row 109 .deep Ab r.2]:=by
 simp only[G9,Axf];simp(disch:=refine sI ?_<;>(repeat' refine sA ?_ ?_)<;>intro _<;>kernel_rfl) only[MD,Ax (Agq) (K:=AP AbW Tryz.f17 1 R K)]
 kernel_rfl
def c17:Va.Callee:=BX [.raw,.d (.int .i64)] [⟨[.k (.ref 0),.dat [] (.int .i64)],[.row 109 .deep Ab],(Int×Axw),λp=>G9 p.1.2.1 p.2.1,λr=>(dI r.1,[.row 109 .deep Ab r.2])⟩]
theorem Ach:An Tryz.prog 17 c17:=Ap (fn:=Tryz.f17) (by kernel_rfl) (by kernel_rfl) (by kernel_rfl) ⟨⟨AbW,⟨⟨Aw,Ao ⟨AcH,trivial⟩⟩,mixed⟩,λp R K=>Ar0 R p.1.2.1 p.2.1 K⟩,trivial⟩
abbrev AbX:Env:=⟨tab,As [],{deep:=true,heads:=[(2,{live:=[0,1,5]})],outs:=[(2,{live:=[1]})]}⟩
def AfF(z_:Int×Int×Axs):St:=sT 20 [(0,.ref 0),(1,dI z_.1),(5,dI z_.2.1)] [.row 0 .deep (.int .u64) z_.2.2]
def AeS:(Int×Axs)->Ex×St:=λa=>((.exit 0),sT 20 [(1,dI a.1)] [.row 0 .deep (.int .u64) a.2])
def FF(b c:Int)(d:Axs):Option ((Int×Int×Axs)⊕(Int×Axs)) :=
 bif decide (c<(d.length:Int)) then
 if(0:Int)<=c/\c<(d.length:Int) then
 some (.inl ((wI (b+1)),(wI (c+1)),(d.set c.toNat (IntKind.u64.wrap b))))
 else none
 else
 some (.inr (b,d))
def B5(z_:Int×Int×Axs):=FF z_.1 z_.2.1 z_.2.2
def KW(b c:Int)(d:Axs):=fix (B5) (b,c,d)
theorem Agr:AU AbX 1 2 (code Tryz.f90) [1,0,1,0] (AfF) (B5) (AeS):=by
 intro _;simp only[B5,FF,Axe];kernel_rfl
def Ck(e:Int)(g:Axs):Option (Int×Axs) :=
 (KW e 0 g).bind λa =>
 some (a.1,a.2)
theorem Ar1(R:Type)(e:Int)(g:Axs)(K:AV->List Blk->Option R):AH AbX Tryz.f90 R [.ref 0,dI e] [.row 0 .deep (.int .u64) g] K=(Ck e g).bind λr=>K (dI r.1) [.row 0 .deep (.int .u64) r.2]:=by
 simp only[Ck,Axf];simp(disch:=refine sI ?_<;>(repeat' refine sA ?_ ?_)<;>intro _<;>kernel_rfl) only[KW,Ax (Agr) (K:=AP AbX Tryz.f90 1 R K)]
 kernel_rfl
def c90:Va.Callee:=BX [.raw,.d (.int .i64)] [⟨[.k (.ref 0),.dat [] (.int .i64)],[.row 0 .deep (.int .u64)],(Int×Axs),λp=>Ck p.1.2.1 p.2.1,λr=>(dI r.1,[.row 0 .deep (.int .u64) r.2])⟩]
theorem oC:An Tryz.prog 90 c90:=Ap (fn:=Tryz.f90) (by kernel_rfl) (by kernel_rfl) (by kernel_rfl) ⟨⟨AbX,⟨⟨Aw,Ao trivial⟩,mixed⟩,λp R K=>Ar1 R p.1.2.1 p.2.1 K⟩,trivial⟩
abbrev AbY:Env:=⟨tab,As [],{deep:=true,heads:=[(2,{live:=[0,1,5]})],outs:=[(2,{live:=[1]})]}⟩
def AfG(z_:Int×Int×Axs):St:=sT 19 [(0,.ref 0),(1,dI z_.1),(5,dI z_.2.1)] [.row 0 .deep (.int .i64) z_.2.2]
def AeT:(Int×Axs)->Ex×St:=λa=>((.exit 0),sT 19 [(1,dI a.1)] [.row 0 .deep (.int .i64) a.2])
def Ga(b c:Int)(d:Axs):Option ((Int×Int×Axs)⊕(Int×Axs)) :=
 bif decide (c<(d.length:Int)) then
 if(0:Int)<=c/\c<(d.length:Int) then
 some (.inl ((wI (b+1)),(wI (c+1)),(d.set c.toNat b)))
 else none
 else
 some (.inr (b,d))
def Cg(z_:Int×Int×Axs):=Ga z_.1 z_.2.1 z_.2.2
def LW(b c:Int)(d:Axs):=fix (Cg) (b,c,d)
theorem Ags:AU AbY 1 2 (code Tryz.f105) [1,0,1,0] (AfG) (Cg) (AeT):=by
 intro _;simp only[Cg,Ga,Axe];kernel_rfl
def Ed(e:Int)(g:Axs):Option (Int×Axs) :=
 (LW e 0 g).bind λa =>
 some (a.1,a.2)
theorem Ar2(R:Type)(e:Int)(g:Axs)(K:AV->List Blk->Option R):AH AbY Tryz.f105 R [.ref 0,dI e] [.row 0 .deep (.int .i64) g] K=(Ed e g).bind λr=>K (dI r.1) [.row 0 .deep (.int .i64) r.2]:=by
 simp only[Ed,Axf];simp(disch:=refine sI ?_<;>(repeat' refine sA ?_ ?_)<;>intro _<;>kernel_rfl) only[LW,Ax (Ags) (K:=AP AbY Tryz.f105 1 R K)]
 kernel_rfl
def c105:Va.Callee:=BX [.raw,.d (.int .i64)] [⟨[.k (.ref 0),.dat [] (.int .i64)],[.row 0 .deep (.int .i64)],(Int×Axs),λp=>Ed p.1.2.1 p.2.1,λr=>(dI r.1,[.row 0 .deep (.int .i64) r.2])⟩]
theorem eH:An Tryz.prog 105 c105:=Ap (fn:=Tryz.f105) (by kernel_rfl) (by kernel_rfl) (by kernel_rfl) ⟨⟨AbY,⟨⟨Aw,Ao trivial⟩,mixed⟩,λp R K=>Ar2 R p.1.2.1 p.2.1 K⟩,trivial⟩
abbrev Wn:Env:=⟨tab,As [(90,c90),(105,c105)],{deep:=true,nest:=[(53,216),(60,2)],heads:=[(2,{live:=[0,1,5]})],outs:=[(2,{live:=[1]})],joins:=[(3,{live:=[0,1,5]}),(9,{live:=[0,1,5]}),(13,{live:=[0,1,5]})],ents:=[(3,[0,1,5]),(9,[0,1,5]),(13,[0,1,5])]}⟩
def AfK(z_:Int×Int×Axy):St:=sT 64 [(0,.ref 0),(1,dI z_.1),(5,dI z_.2.1)] [.row 231 .deep Ae z_.2.2]
def AeX:(Int×Axy)->Ex×St:=λa=>((.exit 0),sT 64 [(1,dI a.1)] [.row 231 .deep Ae a.2])
def AfJ(b c:Int)(d:Axy):St:=sT 64 [(0,.ref 0),(1,dI b),(5,dI c)] [.row 231 .deep Ae d]
def AeW(b c:Int)(d:Axy):(Int×Axy)->Ex×St:=λe=>(.normal,sT 64 [(0,.ref 0),(1,dI e.1),(5,dI c)] [.row 231 .deep Ae e.2])
def AfI(c g:Int)(i:Axy):St:=sT 64 [(0,.ref 0),(1,dI g),(5,dI c)] [.row 231 .deep Ae i]
def AeV(c g:Int)(i:Axy):Axy->Ex×St:=λj=>(.normal,sT 64 [(0,.ref 0),(1,dI g),(5,dI c)] [.row 231 .deep Ae j])
def HW(c g:Int)(i:Axy):Option Axy :=
 if(0:Int)<=c/\c<(i.length:Int) then
 some (i.set c.toNat ((i.getD c.toNat Ae.zero).1,(i.getD c.toNat Ae.zero).2.1,(i.getD c.toNat Ae.zero).2.2.1,(i.getD c.toNat Ae.zero).2.2.2.1,(g,(i.getD c.toNat Ae.zero).2.2.2.2.1.2),(i.getD c.toNat Ae.zero).2.2.2.2.2))
 else none
theorem Agu(c g:Int)(i:Axy):AL Wn 1 13 (sub (sub (code Tryz.f66) [1,0,1,0,0]) [1,0]) [0,1,1,1,1,1,1,1,1,0] (AfI c g i) (HW c g i) (AeV c g i):=by
 unfold AL;simp only[HW,Axe];kernel_rfl
def AfH(c k:Int)(l:Axy):St:=sT 64 [(0,.ref 0),(1,dI k),(5,dI c)] [.row 231 .deep Ae l]
def AeU(c k:Int)(l:Axy):Axy->Ex×St:=λn=>(.normal,sT 64 [(0,.ref 0),(1,dI k),(5,dI c)] [.row 231 .deep Ae n])
def HV(c k:Int)(l:Axy):Option Axy :=
 if(0:Int)<=c/\c<(l.length:Int) then
 some (l.set c.toNat ((l.getD c.toNat Ae.zero).1,(l.getD c.toNat Ae.zero).2.1,k,(l.getD c.toNat Ae.zero).2.2.2))
 else none
theorem Agt(c k:Int)(l:Axy):AL Wn 1 9 (sub (sub (code Tryz.f66) [1,0,1,0,0]) [1,0]) [0,1,1,1,1,0] (AfH c k l) (HV c k l) (AeU c k l):=by
 unfold AL;simp only[HV,Axe];kernel_rfl
def HX(b c:Int)(d:Axy):Option (Int×Axy) :=
 if(0:Int)<=c/\c<(d.length:Int) then
 if(0:Int)<=c/\c<((d.set c.toNat (b,(d.getD c.toNat Ae.zero).2)).length:Int) then
 (HV c (wI ((wI (b+1))+1)) ((d.set c.toNat (b,(d.getD c.toNat Ae.zero).2)).set c.toNat (((d.set c.toNat (b,(d.getD c.toNat Ae.zero).2)).getD c.toNat Ae.zero).1,(wI (b+1)),((d.set c.toNat (b,(d.getD c.toNat Ae.zero).2)).getD c.toNat Ae.zero).2.2))).bind λn =>
 if(0:Int)<=c/\c<(n.length:Int) then
 (HW c (wI ((wI ((wI ((wI (b+1))+1))+1))+1)) (n.set c.toNat ((n.getD c.toNat Ae.zero).1,(n.getD c.toNat Ae.zero).2.1,(n.getD c.toNat Ae.zero).2.2.1,(wI ((wI ((wI (b+1))+1))+1)),(n.getD c.toNat Ae.zero).2.2.2.2))).bind λj =>
 if(0:Int)<=c/\c<(j.length:Int) then
 (Ck (wI ((wI ((wI ((wI ((wI (b+1))+1))+1))+1))+1)) (j.getD c.toNat Ae.zero).2.2.2.2.1.2.1).bind λo =>
 if(0:Int)<=c/\c<((j.set c.toNat ((j.getD c.toNat Ae.zero).1,(j.getD c.toNat Ae.zero).2.1,(j.getD c.toNat Ae.zero).2.2.1,(j.getD c.toNat Ae.zero).2.2.2.1,((j.getD c.toNat Ae.zero).2.2.2.2.1.1,o.2,(j.getD c.toNat Ae.zero).2.2.2.2.1.2.2),(j.getD c.toNat Ae.zero).2.2.2.2.2)).length:Int) then
 (Ed o.1 ((j.set c.toNat ((j.getD c.toNat Ae.zero).1,(j.getD c.toNat Ae.zero).2.1,(j.getD c.toNat Ae.zero).2.2.1,(j.getD c.toNat Ae.zero).2.2.2.1,((j.getD c.toNat Ae.zero).2.2.2.2.1.1,o.2,(j.getD c.toNat Ae.zero).2.2.2.2.1.2.2),(j.getD c.toNat Ae.zero).2.2.2.2.2)).getD c.toNat Ae.zero).2.2.2.2.2.1).bind λq =>
 some (q.1,((j.set c.toNat ((j.getD c.toNat Ae.zero).1,(j.getD c.toNat Ae.zero).2.1,(j.getD c.toNat Ae.zero).2.2.1,(j.getD c.toNat Ae.zero).2.2.2.1,((j.getD c.toNat Ae.zero).2.2.2.2.1.1,o.2,(j.getD c.toNat Ae.zero).2.2.2.2.1.2.2),(j.getD c.toNat Ae.zero).2.2.2.2.2)).set c.toNat (((j.set c.toNat ((j.getD c.toNat Ae.zero).1,(j.getD c.toNat Ae.zero).2.1,(j.getD c.toNat Ae.zero).2.2.1,(j.getD c.toNat Ae.zero).2.2.2.1,((j.getD c.toNat Ae.zero).2.2.2.2.1.1,o.2,(j.getD c.toNat Ae.zero).2.2.2.2.1.2.2),(j.getD c.toNat Ae.zero).2.2.2.2.2)).getD c.toNat Ae.zero).1,((j.set c.toNat ((j.getD c.toNat Ae.zero).1,(j.getD c.toNat Ae.zero).2.1,(j.getD c.toNat Ae.zero).2.2.1,(j.getD c.toNat Ae.zero).2.2.2.1,((j.getD c.toNat Ae.zero).2.2.2.2.1.1,o.2,(j.getD c.toNat Ae.zero).2.2.2.2.1.2.2),(j.getD c.toNat Ae.zero).2.2.2.2.2)).getD c.toNat Ae.zero).2.1,((j.set c.toNat ((j.getD c.toNat Ae.zero).1,(j.getD c.toNat Ae.zero).2.1,(j.getD c.toNat Ae.zero).2.2.1,(j.getD c.toNat Ae.zero).2.2.2.1,((j.getD c.toNat Ae.zero).2.2.2.2.1.1,o.2,(j.getD c.toNat Ae.zero).2.2.2.2.1.2.2),(j.getD c.toNat Ae.zero).2.2.2.2.2)).getD c.toNat Ae.zero).2.2.1,((j.set c.toNat ((j.getD c.toNat Ae.zero).1,(j.getD c.toNat Ae.zero).2.1,(j.getD c.toNat Ae.zero).2.2.1,(j.getD c.toNat Ae.zero).2.2.2.1,((j.getD c.toNat Ae.zero).2.2.2.2.1.1,o.2,(j.getD c.toNat Ae.zero).2.2.2.2.1.2.2),(j.getD c.toNat Ae.zero).2.2.2.2.2)).getD c.toNat Ae.zero).2.2.2.1,((j.set c.toNat ((j.getD c.toNat Ae.zero).1,(j.getD c.toNat Ae.zero).2.1,(j.getD c.toNat Ae.zero).2.2.1,(j.getD c.toNat Ae.zero).2.2.2.1,((j.getD c.toNat Ae.zero).2.2.2.2.1.1,o.2,(j.getD c.toNat Ae.zero).2.2.2.2.1.2.2),(j.getD c.toNat Ae.zero).2.2.2.2.2)).getD c.toNat Ae.zero).2.2.2.2.1,q.2,((j.set c.toNat ((j.getD c.toNat Ae.zero).1,(j.getD c.toNat Ae.zero).2.1,(j.getD c.toNat Ae.zero).2.2.1,(j.getD c.toNat Ae.zero).2.2.2.1,((j.getD c.toNat Ae.zero).2.2.2.2.1.1,o.2,(j.getD c.toNat Ae.zero).2.2.2.2.1.2.2),(j.getD c.toNat Ae.zero).2.2.2.2.2)).getD c.toNat Ae.zero).2.2.2.2.2.2)))
 else none
 else none
 else none
 else none
 else none
theorem Agv(b c:Int)(d:Axy):AL Wn 1 3 (sub (code Tryz.f66) [1,0,1,0,0]) [1,0] (AfJ b c d) (HX b c d) (AeW b c d):=by
 unfold AL;simp only[HX,Axe];simp(disch:=refine sI ?_<;>(repeat' refine sA ?_ ?_)<;>intro _<;>kernel_rfl) only[A6 (Agt _ _ _) (K:=CU 1 (Wn.jn 3)),A6 (Agu _ _ _) (K:=CU 1 (Wn.jn 3))]
 kernel_rfl
def Gc(b c:Int)(d:Axy):Option ((Int×Int×Axy)⊕(Int×Axy)) :=
 bif decide (c<(d.length:Int)) then
 (HX b c d).bind λe =>
 some (.inl (e.1,(wI (c+1)),e.2))
 else
 some (.inr (b,d))
def Cj(z_:Int×Int×Axy):=Gc z_.1 z_.2.1 z_.2.2
def LY(b c:Int)(d:Axy):=fix (Cj) (b,c,d)
theorem Agw:AU Wn 1 2 (code Tryz.f66) [1,0,1,0] (AfK) (Cj) (AeX):=by
 intro _;simp only[Cj,Gc,Axe];simp(disch:=refine sI ?_<;>(repeat' refine sA ?_ ?_)<;>intro _<;>kernel_rfl) only[A6 (Agv _ _ _) (K:=Be 1 (Wn.hd 2) (Wn.ot 2))]
 kernel_rfl
def FQ(s:Int)(t:Axy):Option (Int×Axy) :=
 (LY s 0 t).bind λa =>
 some (a.1,a.2)
theorem Ar3(R:Type)(s:Int)(t:Axy)(K:AV->List Blk->Option R):AH Wn Tryz.f66 R [.ref 0,dI s] [.row 231 .deep Ae t] K=(FQ s t).bind λr=>K (dI r.1) [.row 231 .deep Ae r.2]:=by
 simp only[FQ,Axf];simp(disch:=refine sI ?_<;>(repeat' refine sA ?_ ?_)<;>intro _<;>kernel_rfl) only[LY,Ax (Agw) (K:=AP Wn Tryz.f66 1 R K)]
 kernel_rfl
def c66:Va.Callee:=BX [.raw,.d (.int .i64)] [⟨[.k (.ref 0),.dat [] (.int .i64)],[.row 231 .deep Ae],(Int×Axy),λp=>FQ p.1.2.1 p.2.1,λr=>(dI r.1,[.row 231 .deep Ae r.2])⟩]
theorem AcI:An Tryz.prog 66 c66:=Ap (fn:=Tryz.f66) (by kernel_rfl) (by kernel_rfl) (by kernel_rfl) ⟨⟨Wn,⟨⟨Aw,Ao ⟨oC,eH,trivial⟩⟩,mixed⟩,λp R K=>Ar3 R p.1.2.1 p.2.1 K⟩,trivial⟩
abbrev Ah5:Env:=⟨tab,As [(66,c66)],{deep:=true}⟩
def Gz(a:Int)(b:Axy):Option (Int×Axy) :=
 (FQ a b).bind λc =>
 some (c.1,c.2)
theorem Ar4(R:Type)(a:Int)(b:Axy)(K:AV->List Blk->Option R):AH Ah5 Tryz.f47 R [.pr (.ref 0) .u,dI a] [.row 231 .deep Ae b] K=(Gz a b).bind λr=>K (dI r.1) [.row 231 .deep Ae r.2]:=by
 simp only[Gz,Axf];kernel_rfl
def c47:Va.Callee:=BX [.raw,.d (.int .i64)] [⟨[.pr (.k (.ref 0)) (.k .u),.dat [] (.int .i64)],[.row 231 .deep Ae],(Int×Axy),λp=>Gz p.1.2.1 p.2.1,λr=>(dI r.1,[.row 231 .deep Ae r.2])⟩]
theorem AcB:An Tryz.prog 47 c47:=Ap (fn:=Tryz.f47) (by kernel_rfl) (by kernel_rfl) (by kernel_rfl) ⟨⟨Ah5,⟨⟨Aw,Ao ⟨AcI,trivial⟩⟩,mixed⟩,λp R K=>Ar4 R p.1.2.1 p.2.1 K⟩,trivial⟩
abbrev Ah6:Env:=⟨tab,As [(47,c47)],{deep:=true}⟩
def Ha(a:Int)(b:Bool)(c:Int)(d e:Axy):Option (Int×Axy×Axy) :=
 (Gz c d).bind λg =>
 (Gz g.1 e).bind λi =>
 some (i.1,g.2,i.2)
theorem Ar5(R:Type)(a:Int)(b:Bool)(c:Int)(d e:Axy)(K:AV->List Blk->Option R):AH Ah6 Tryz.f30 R [.pr (dI a) (.pr (dB b) (.pr (.pr (.ref 0) .u) (.pr (.pr (.ref 1) .u) .u))),dI c] [.row 231 .deep Ae d,.row 231 .deep Ae e] K=(Ha a b c d e).bind λr=>K (dI r.1) [.row 231 .deep Ae r.2.1,.row 231 .deep Ae r.2.2]:=by
 simp only[Ha,Axf];kernel_rfl
def c30:Va.Callee:=BX [.raw,.d (.int .i64)] [⟨[.pr (.dat [] (.int .i64)) (.pr (.dat [] .bool) (.pr (.pr (.k (.ref 0)) (.k .u)) (.pr (.pr (.k (.ref 1)) (.k .u)) (.k .u)))),.dat [] (.int .i64)],[.row 231 .deep Ae,.row 231 .deep Ae],(Int×Axy×Axy),λp=>Ha p.1.1.1 p.1.1.2.1 p.1.2.1 p.2.1 p.2.2.1,λr=>(dI r.1,[.row 231 .deep Ae r.2.1,.row 231 .deep Ae r.2.2])⟩]
theorem Acu:An Tryz.prog 30 c30:=Ap (fn:=Tryz.f30) (by kernel_rfl) (by kernel_rfl) (by kernel_rfl) ⟨⟨Ah6,⟨⟨Aw,Ao ⟨AcB,trivial⟩⟩,mixed⟩,λp R K=>Ar5 R p.1.1.1 p.1.1.2.1 p.1.2.1 p.2.1 p.2.2.1 K⟩,trivial⟩
abbrev AbZ:Env:=⟨tab,As [(105,c105)],{deep:=true,nest:=[(15,2)],heads:=[(2,{live:=[0,1,5]})],outs:=[(2,{live:=[1]})]}⟩
def AfL(z_:Int×Int×AxD):St:=sT 19 [(0,.ref 0),(1,dI z_.1),(5,dI z_.2.1)] [.row 72 .deep (.sl (.int .i64)) z_.2.2]
def AeY:(Int×AxD)->Ex×St:=λa=>((.exit 0),sT 19 [(1,dI a.1)] [.row 72 .deep (.sl (.int .i64)) a.2])
def FE(b c:Int)(d:AxD):Option ((Int×Int×AxD)⊕(Int×AxD)) :=
 bif decide (c<(d.length:Int)) then
 if(0:Int)<=c/\c<(d.length:Int) then
 (Ed b (d.getD c.toNat (Ty.zero (.sl (.int .i64))))).bind λe =>
 some (.inl (e.1,(wI (c+1)),(d.set c.toNat e.2)))
 else none
 else
 some (.inr (b,d))
def B4(z_:Int×Int×AxD):=FE z_.1 z_.2.1 z_.2.2
def KV(b c:Int)(d:AxD):=fix (B4) (b,c,d)
theorem Agx:AU AbZ 1 2 (code Tryz.f89) [1,0,1,0] (AfL) (B4) (AeY):=by
 intro _;simp only[B4,FE,Axe];kernel_rfl
def ER(g:Int)(i:AxD):Option (Int×AxD) :=
 (KV g 0 i).bind λa =>
 some (a.1,a.2)
theorem Ar6(R:Type)(g:Int)(i:AxD)(K:AV->List Blk->Option R):AH AbZ Tryz.f89 R [.ref 0,dI g] [.row 72 .deep (.sl (.int .i64)) i] K=(ER g i).bind λr=>K (dI r.1) [.row 72 .deep (.sl (.int .i64)) r.2]:=by
 simp only[ER,Axf];simp(disch:=refine sI ?_<;>(repeat' refine sA ?_ ?_)<;>intro _<;>kernel_rfl) only[KV,Ax (Agx) (K:=AP AbZ Tryz.f89 1 R K)]
 kernel_rfl
def c89:Va.Callee:=BX [.raw,.d (.int .i64)] [⟨[.k (.ref 0),.dat [] (.int .i64)],[.row 72 .deep (.sl (.int .i64))],(Int×AxD),λp=>ER p.1.2.1 p.2.1,λr=>(dI r.1,[.row 72 .deep (.sl (.int .i64)) r.2])⟩]
theorem AcW:An Tryz.prog 89 c89:=Ap (fn:=Tryz.f89) (by kernel_rfl) (by kernel_rfl) (by kernel_rfl) ⟨⟨AbZ,⟨⟨Aw,Ao ⟨eH,trivial⟩⟩,mixed⟩,λp R K=>Ar6 R p.1.2.1 p.2.1 K⟩,trivial⟩
abbrev Ah7:Env:=⟨tab,As [(89,c89)],{deep:=true}⟩
def Ld(a:Int)(b:AxD):Option (Int×AxD) :=
 (ER a b).bind λc =>
 some (c.1,c.2)
theorem Ar7(R:Type)(a:Int)(b:AxD)(K:AV->List Blk->Option R):AH Ah7 Tryz.f31 R [.pr (.ref 0) .u,dI a] [.row 72 .deep (.sl (.int .i64)) b] K=(Ld a b).bind λr=>K (dI r.1) [.row 72 .deep (.sl (.int .i64)) r.2]:=by
 simp only[Ld,Axf];kernel_rfl
def c31:Va.Callee:=BX [.raw,.d (.int .i64)] [⟨[.pr (.k (.ref 0)) (.k .u),.dat [] (.int .i64)],[.row 72 .deep (.sl (.int .i64))],(Int×AxD),λp=>Ld p.1.2.1 p.2.1,λr=>(dI r.1,[.row 72 .deep (.sl (.int .i64)) r.2])⟩]
theorem Acv:An Tryz.prog 31 c31:=Ap (fn:=Tryz.f31) (by kernel_rfl) (by kernel_rfl) (by kernel_rfl) ⟨⟨Ah7,⟨⟨Aw,Ao ⟨AcW,trivial⟩⟩,mixed⟩,λp R K=>Ar7 R p.1.2.1 p.2.1 K⟩,trivial⟩
end
end Go.Proofs.X
namespace Go.Proofs.X
open Go Go.Va
set_option maxRecDepth 100000
noncomputable section
abbrev UC:Env:=⟨tab,As [(90,c90)],{deep:=true,nest:=[(35,216),(61,216)],heads:=[(2,{live:=[0,1,5]})],outs:=[(2,{live:=[1]})],joins:=[(7,{live:=[0,1,5]}),(10,{live:=[0,1,5]}),(14,{live:=[0,1,5]})],ents:=[(7,[0,1,5]),(10,[0,1,5]),(14,[0,1,5])]}⟩
def AfP(z_:Int×Int×AxB):St:=sT 72 [(0,.ref 0),(1,dI z_.1),(5,dI z_.2.1)] [.row 139 .deep Ai z_.2.2]
def Ae2:(Int×AxB)->Ex×St:=λa=>((.exit 0),sT 72 [(1,dI a.1)] [.row 139 .deep Ai a.2])
def AfO(b c:Int)(d:AxB):St:=sT 72 [(0,.ref 0),(1,dI c),(5,dI b)] [.row 139 .deep Ai d]
def Ae1(b c:Int)(d:AxB):(Int×AxB)->Ex×St:=λe=>(.normal,sT 72 [(0,.ref 0),(1,dI e.1),(5,dI b)] [.row 139 .deep Ai e.2])
def HU(b c:Int)(d:AxB):Option (Int×AxB) :=
 if(0:Int)<=b/\b<(d.length:Int) then
 (Ck c (d.getD b.toNat Ai.zero).2.1.2.1.2.1).bind λg =>
 some (g.1,(d.set b.toNat ((d.getD b.toNat Ai.zero).1,((d.getD b.toNat Ai.zero).2.1.1,((d.getD b.toNat Ai.zero).2.1.2.1.1,g.2,(d.getD b.toNat Ai.zero).2.1.2.1.2.2),(d.getD b.toNat Ai.zero).2.1.2.2),(d.getD b.toNat Ai.zero).2.2)))
 else none
theorem AgA(b c:Int)(d:AxB):AL UC 1 14 (sub (code Tryz.f32) [1,0,1,0,0]) [1,0,0,1,1,1,1,1,1,1,1,1,0] (AfO b c d) (HU b c d) (Ae1 b c d):=by
 unfold AL;simp only[HU,Axe];kernel_rfl
def AfN(b i:Int)(j:AxB):St:=sT 72 [(0,.ref 0),(1,dI i),(5,dI b)] [.row 139 .deep Ai j]
def Ae0(b i:Int)(j:AxB):AxB->Ex×St:=λk=>(.normal,sT 72 [(0,.ref 0),(1,dI i),(5,dI b)] [.row 139 .deep Ai k])
def HT(b i:Int)(j:AxB):Option AxB :=
 if(0:Int)<=b/\b<(j.length:Int) then
 some (j.set b.toNat ((j.getD b.toNat Ai.zero).1,(i,(j.getD b.toNat Ai.zero).2.1.2),(j.getD b.toNat Ai.zero).2.2))
 else none
theorem Agz(b i:Int)(j:AxB):AL UC 1 10 (sub (code Tryz.f32) [1,0,1,0,0]) [1,0,0,1,1,1,1,1,0] (AfN b i j) (HT b i j) (Ae0 b i j):=by
 unfold AL;simp only[HT,Axe];kernel_rfl
def AfM(b l:Int)(n:AxB):St:=sT 72 [(0,.ref 0),(1,dI l),(5,dI b)] [.row 139 .deep Ai n]
def AeZ(b l:Int)(n:AxB):AxB->Ex×St:=λo=>(.normal,sT 72 [(0,.ref 0),(1,dI l),(5,dI b)] [.row 139 .deep Ai o])
def HS(b l:Int)(n:AxB):Option AxB :=
 if(0:Int)<=b/\b<(n.length:Int) then
 some (n.set b.toNat (((n.getD b.toNat Ai.zero).1.1,(l,(n.getD b.toNat Ai.zero).1.2.1.2),(n.getD b.toNat Ai.zero).1.2.2),(n.getD b.toNat Ai.zero).2))
 else none
theorem Agy(b l:Int)(n:AxB):AL UC 1 7 (sub (code Tryz.f32) [1,0,1,0,0]) [1,0,0,1,1,0] (AfM b l n) (HS b l n) (AeZ b l n):=by
 unfold AL;simp only[HS,Axe];kernel_rfl
def Gb(q b:Int)(s:AxB):Option ((Int×Int×AxB)⊕(Int×AxB)) :=
 bif decide (b<(s.length:Int)) then
 if(0:Int)<=b/\b<(s.length:Int) then
 (HS b (wI (q+1)) (s.set b.toNat ((q,(s.getD b.toNat Ai.zero).1.2),(s.getD b.toNat Ai.zero).2))).bind λo =>
 if(0:Int)<=b/\b<(o.length:Int) then
 (Ck (wI ((wI (q+1))+1)) (o.getD b.toNat Ai.zero).1.2.1.2.1).bind λt =>
 (HT b t.1 (o.set b.toNat (((o.getD b.toNat Ai.zero).1.1,((o.getD b.toNat Ai.zero).1.2.1.1,t.2,(o.getD b.toNat Ai.zero).1.2.1.2.2),(o.getD b.toNat Ai.zero).1.2.2),(o.getD b.toNat Ai.zero).2))).bind λk =>
 if(0:Int)<=b/\b<(k.length:Int) then
 (HU b (wI ((wI (t.1+1))+1)) (k.set b.toNat ((k.getD b.toNat Ai.zero).1,((k.getD b.toNat Ai.zero).2.1.1,((wI (t.1+1)),(k.getD b.toNat Ai.zero).2.1.2.1.2),(k.getD b.toNat Ai.zero).2.1.2.2),(k.getD b.toNat Ai.zero).2.2))).bind λe =>
 if(0:Int)<=b/\b<(e.2.length:Int) then
 some (.inl ((wI (e.1+1)),(wI (b+1)),(e.2.set b.toNat ((e.2.getD b.toNat Ai.zero).1,(e.2.getD b.toNat Ai.zero).2.1,e.1,(e.2.getD b.toNat Ai.zero).2.2.2))))
 else none
 else none
 else none
 else none
 else
 some (.inr (q,s))
def Ci(z_:Int×Int×AxB):=Gb z_.1 z_.2.1 z_.2.2
def LX(q b:Int)(s:AxB):=fix (Ci) (q,b,s)
theorem AgB:AU UC 1 2 (code Tryz.f32) [1,0,1,0] (AfP) (Ci) (Ae2):=by
 intro _;simp only[Ci,Gb,Axe];simp(disch:=refine sI ?_<;>(repeat' refine sA ?_ ?_)<;>intro _<;>kernel_rfl) only[A6 (Agy _ _ _) (K:=Be 1 (UC.hd 2) (UC.ot 2)),A6 (Agz _ _ _) (K:=Be 1 (UC.hd 2) (UC.ot 2)),A6 (AgA _ _ _) (K:=Be 1 (UC.hd 2) (UC.ot 2))]
 kernel_rfl
def FP(u:Int)(v:AxB):Option (Int×AxB) :=
 (LX u 0 v).bind λa =>
 some (a.1,a.2)
theorem Ar8(R:Type)(u:Int)(v:AxB)(K:AV->List Blk->Option R):AH UC Tryz.f32 R [.ref 0,dI u] [.row 139 .deep Ai v] K=(FP u v).bind λr=>K (dI r.1) [.row 139 .deep Ai r.2]:=by
 simp only[FP,Axf];simp(disch:=refine sI ?_<;>(repeat' refine sA ?_ ?_)<;>intro _<;>kernel_rfl) only[LX,Ax (AgB) (K:=AP UC Tryz.f32 1 R K)]
 kernel_rfl
def c32:Va.Callee:=BX [.raw,.d (.int .i64)] [⟨[.k (.ref 0),.dat [] (.int .i64)],[.row 139 .deep Ai],(Int×AxB),λp=>FP p.1.2.1 p.2.1,λr=>(dI r.1,[.row 139 .deep Ai r.2])⟩]
theorem Acw:An Tryz.prog 32 c32:=Ap (fn:=Tryz.f32) (by kernel_rfl) (by kernel_rfl) (by kernel_rfl) ⟨⟨UC,⟨⟨Aw,Ao ⟨oC,trivial⟩⟩,mixed⟩,λp R K=>Ar8 R p.1.2.1 p.2.1 K⟩,trivial⟩
abbrev Ab0:Env:=⟨tab,As [],{deep:=true,heads:=[(2,{live:=[0,1,5]})],outs:=[(2,{live:=[1,4]})]}⟩
def AfQ(a:Axs)(z_:Int×Int):St:=sT 22 [(0,dD (.sl (.int .u64)) a),(1,dI z_.1),(5,dI z_.2)] []
def Ae3(a:Axs):(Int⊕Int)->Ex×St:=Sum.elim (λb=>(.ret,sT 22 [(1,dI b),(4,dI (-1))] [])) (λc=>((.exit 0),sT 22 [(1,dI c)] []))
def FD(a:Axs)(d e:Int):Option ((Int×Int)⊕(Int⊕Int)) :=
 bif decide (e<(a.length:Int)) then
 if(0:Int)<=e/\e<(a.length:Int) then
 bif (a.getD e.toNat (Ty.zero (.int .u64))) !=(IntKind.u64.wrap d) then
 some (.inr (.inl d))
 else
 some (.inl ((wI (d+1)),(wI (e+1))))
 else none
 else
 some (.inr (.inr d))
def B3(a:Axs)(z_:Int×Int):=FD a z_.1 z_.2
def KU(a:Axs)(d e:Int):=fix (B3 a) (d,e)
theorem AgC(a:Axs):AU Ab0 0 2 (code Tryz.f91) [1,0,1,0] (AfQ a) (B3 a) (Ae3 a):=by
 intro _;simp only[B3,FD,Axe];kernel_rfl
def C9(a:Axs)(g:Int):Option Int :=
 (KU a g 0).bind (Sum.elim (λb =>
 some (-1)) (λc =>
 some c))
theorem Ar9(R:Type)(a:Axs)(g:Int)(K:AV->List Blk->Option R):AH Ab0 Tryz.f91 R [dD (.sl (.int .u64)) a,dI g] [] K=(C9 a g).bind λr=>K (dI r) []:=by
 simp only[C9,Axf];simp(disch:=refine sI ?_<;>(repeat' refine sA ?_ ?_)<;>intro _<;>kernel_rfl) only[KU,Ax (AgC _) (K:=AP Ab0 Tryz.f91 0 R K)]
 kernel_rfl
def c91:Va.Callee:=BX [.d (.sl (.int .u64)),.d (.int .i64)] [⟨[.dat [] (.sl (.int .u64)),.dat [] (.int .i64)],[],Int,λp=>C9 p.1.1 p.1.2.1,λr=>(dI r,[])⟩]
theorem AcX:An Tryz.prog 91 c91:=Ap (fn:=Tryz.f91) (by kernel_rfl) (by kernel_rfl) (by kernel_rfl) ⟨⟨Ab0,⟨⟨Aw,Ao trivial⟩,mixed⟩,λp R K=>Ar9 R p.1.1 p.1.2.1 K⟩,trivial⟩
abbrev Ab1:Env:=⟨tab,As [(91,c91)],{deep:=true,heads:=[(2,{live:=[0,1,5]})],outs:=[(2,{live:=[1,4]})]}⟩
def AfR(a:AxB)(z_:Int×Int):St:=sT 86 [(0,dD (.sl Ai) a),(1,dI z_.1),(5,dI z_.2)] []
def Ae4(a:AxB):(Int⊕Int)->Ex×St:=Sum.elim (λb=>(.ret,sT 86 [(1,dI b),(4,dI (-1))] [])) (λc=>((.exit 0),sT 86 [(1,dI c)] []))
def F9(a:AxB)(d e:Int):Option ((Int×Int)⊕(Int⊕Int)) :=
 bif decide (e<(a.length:Int)) then
 if(0:Int)<=e/\e<(a.length:Int) then
 bif (a.getD e.toNat Ai.zero).1.1 !=d then
 some (.inr (.inl d))
 else
 if(0:Int)<=e/\e<(a.length:Int) then
 bif (a.getD e.toNat Ai.zero).1.2.1.1 !=(wI (d+1)) then
 some (.inr (.inl (wI (d+1))))
 else
 if(0:Int)<=e/\e<(a.length:Int) then
 (C9 (a.getD e.toNat Ai.zero).1.2.1.2.1 (wI ((wI (d+1))+1))).bind λg =>
 bif decide (g<0) then
 some (.inr (.inl g))
 else
 if(0:Int)<=e/\e<(a.length:Int) then
 bif (a.getD e.toNat Ai.zero).2.1.1 !=g then
 some (.inr (.inl g))
 else
 if(0:Int)<=e/\e<(a.length:Int) then
 bif (a.getD e.toNat Ai.zero).2.1.2.1.1 !=(wI (g+1)) then
 some (.inr (.inl (wI (g+1))))
 else
 if(0:Int)<=e/\e<(a.length:Int) then
 (C9 (a.getD e.toNat Ai.zero).2.1.2.1.2.1 (wI ((wI (g+1))+1))).bind λi =>
 bif decide (i<0) then
 some (.inr (.inl i))
 else
 if(0:Int)<=e/\e<(a.length:Int) then
 bif (a.getD e.toNat Ai.zero).2.2.1 !=i then
 some (.inr (.inl i))
 else
 some (.inl ((wI (i+1)),(wI (e+1))))
 else none
 else none
 else none
 else none
 else none
 else none
 else none
 else
 some (.inr (.inr d))
def Cf(a:AxB)(z_:Int×Int):=F9 a z_.1 z_.2
def LV(a:AxB)(d e:Int):=fix (Cf a) (d,e)
theorem AgD(a:AxB):AU Ab1 0 2 (code Tryz.f33) [1,0,1,0] (AfR a) (Cf a) (Ae4 a):=by
 intro _;simp only[Cf,F9,Axe];kernel_rfl
def Ec(a:AxB)(j:Int):Option Int :=
 (LV a j 0).bind (Sum.elim (λb =>
 some (-1)) (λc =>
 some c))
theorem Asa(R:Type)(a:AxB)(j:Int)(K:AV->List Blk->Option R):AH Ab1 Tryz.f33 R [dD (.sl Ai) a,dI j] [] K=(Ec a j).bind λr=>K (dI r) []:=by
 simp only[Ec,Axf];simp(disch:=refine sI ?_<;>(repeat' refine sA ?_ ?_)<;>intro _<;>kernel_rfl) only[LV,Ax (AgD _) (K:=AP Ab1 Tryz.f33 0 R K)]
 kernel_rfl
def c33:Va.Callee:=BX [.d (.sl Ai),.d (.int .i64)] [⟨[.dat [] (.sl Ai),.dat [] (.int .i64)],[],Int,λp=>Ec p.1.1 p.1.2.1,λr=>(dI r,[])⟩]
theorem Acx:An Tryz.prog 33 c33:=Ap (fn:=Tryz.f33) (by kernel_rfl) (by kernel_rfl) (by kernel_rfl) ⟨⟨Ab1,⟨⟨Aw,Ao ⟨AcX,trivial⟩⟩,mixed⟩,λp R K=>Asa R p.1.1 p.1.2.1 K⟩,trivial⟩
abbrev dP:Env:=⟨tab,As [(8,c8),(11,c11),(15,c15),(17,c17),(21,c21),(22,c22),(23,c23),(24,c24),(25,c25),(26,c26),(27,c27),(28,c28),(29,c29),(30,c30),(31,c31),(32,c32),(33,c33)],{deep:=true,joins:=[(17,{live:=[0,4,5,8,9,10,11,12,13,14,66],Ow:=[(8,false,(.sl Ai))]}),(29,{live:=[0,4,5,8,9,13,103]}),(40,{live:=[13,16,133],Ow:=[(13,false,(.sl Ai))]})],ents:=[(17,[0,4,5,8,9,10,11,12,13,14]),(29,[0,4,5,8,9,13,14,15]),(40,[8,9,13,16,18,19])],gK:=[(37,(.sl Ab)),(39,Ag),(41,Ah),(69,(.sl Ab)),(74,Ag),(79,Ah),(117,(.sl Ab)),(119,Ag),(121,Ah)]}⟩
def AfU(a:AxB)(b:Bool)(c:Int)(d:Bool)(e g:AxB):St:=sT 142 [(8,dD (.sl Ai) a),(9,dB b),(13,.ref 0),(16,dI c),(18,.ref 1),(19,dB d)] [.row 139 .deep Ai e,.row 139 .deep Ai g]
def Ae7(a:AxB)(b:Bool)(c:Int)(d:Bool)(e g:AxB):Bool->Ex×St:=λi=>(.normal,sT 142 [(13,dD (.sl Ai) e),(16,dI c),(133,dB i)] [])
def DN(a:AxB)(b:Bool)(c:Int)(d:Bool)(e g:AxB):Option Bool :=
 (Gy g a).bind λj =>
 bif !j then
 some true
 else
 some (!(d==b))
theorem AgG(a:AxB)(b:Bool)(c:Int)(d:Bool)(e g:AxB):AL dP 0 40 (code Tryz.f4) [1,1,1,1,1,1,1,1,1,1,1,1,1,1,1,1,1,1,1,1,1,1,1,1,1,1,1,1,1,0,0] (AfU a b c d e g) (DN a b c d e g) (Ae7 a b c d e g):=by
 unfold AL;simp only[DN,Axe];kernel_rfl
def AfT(k:Axw)(l:Axl)(n:Axm)(o:AxB)(q s:Bool)(t:Int)(u:AxB):St:=sT 142 [(0,dD (.sl Ab) k),(4,.ptr 0 0 [] 0),(5,.ptr 1 0 [] 0),(8,dD (.sl Ai) o),(9,dB q),(13,.ref 2),(14,dB s),(15,dI t)] [.box (dD Ag l),.box (dD Ah n),.row 139 .deep Ai u]
def Ae6(k:Axw)(l:Axl)(n:Axm)(o:AxB)(q s:Bool)(t:Int)(u:AxB):Bool->Ex×St:=λv=>(.normal,sT 142 [(0,dD (.sl Ab) k),(4,.ptr 0 0 [] 0),(5,.ptr 1 0 [] 0),(8,dD (.sl Ai) o),(9,dB q),(13,.ref 2),(103,dB v)] [.box (dD Ag l),.box (dD Ah n),.row 139 .deep Ai u])
def DL(k:Axw)(l:Axl)(n:Axm)(o:AxB)(q s:Bool)(t:Int)(u:AxB):Option Bool :=
 bif decide (t<0) then
 some true
 else
 (Gy u o).bind λw =>
 bif !w then
 some true
 else
 some (!(s==q))
theorem AgF(k:Axw)(l:Axl)(n:Axm)(o:AxB)(q s:Bool)(t:Int)(u:AxB):AL dP 0 29 (code Tryz.f4) [1,1,1,1,1,1,1,1,1,1,1,1,1,1,1,1,1,1,1,1,1,0,0] (AfT k l n o q s t u) (DL k l n o q s t u) (Ae6 k l n o q s t u):=by
 unfold AL;simp only[DL,Axe];kernel_rfl
def AfS(k:Axw)(l:Axl)(n:Axm)(x:Axw)(y:AxD)(a1 b1:Bool)(c1:AxB)(d1:Int)(e1:Bool)(g1:AxB)(i1 j1:Axy):St:=sT 142 [(0,dD (.sl Ab) k),(4,.ptr 0 0 [] 0),(5,.ptr 1 0 [] 0),(8,.ref 2),(9,dB a1),(10,.ref 3),(11,.ptr 4 0 [] 0),(12,.ptr 5 0 [] 0),(13,.ref 6),(14,dB b1)] [.box (dD Ag l),.box (dD Ah n),.row 139 (.sh []) Ai c1,.row 109 .deep Ab x,.box (.pr (dI d1) (.pr (dB e1) (.pr (.pr (.ref 7) .u) (.pr (.pr (.ref 8) .u) .u)))),.box (.pr (.ref 9) .u),.row 139 .deep Ai g1,.row 231 .deep Ae i1,.row 231 .deep Ae j1,.row 72 .deep (.sl (.int .i64)) y]
def Ae5(k:Axw)(l:Axl)(n:Axm)(x:Axw)(y:AxD)(a1 b1:Bool)(c1:AxB)(d1:Int)(e1:Bool)(g1:AxB)(i1 j1:Axy):Bool->Ex×St:=λk1=>(.normal,sT 142 [(0,dD (.sl Ab) k),(4,.ptr 0 0 [] 0),(5,.ptr 1 0 [] 0),(8,dD (.sl Ai) c1),(9,dB a1),(10,.ref 2),(11,.ptr 3 0 [] 0),(12,.ptr 4 0 [] 0),(13,.ref 5),(14,dB b1),(66,dB k1)] [.box (dD Ag l),.box (dD Ah n),.row 109 .deep Ab x,.box (.pr (dI d1) (.pr (dB e1) (.pr (.pr (.ref 6) .u) (.pr (.pr (.ref 7) .u) .u)))),.box (.pr (.ref 8) .u),.row 139 .deep Ai g1,.row 231 .deep Ae i1,.row 231 .deep Ae j1,.row 72 .deep (.sl (.int .i64)) y])
def DK(k:Axw)(l:Axl)(n:Axm)(x:Axw)(y:AxD)(a1 b1:Bool)(c1:AxB)(d1:Int)(e1:Bool)(g1:AxB)(i1 j1:Axy):Option Bool :=
 (Gy g1 c1).bind λl1 =>
 bif !l1 then
 some true
 else
 some (!(b1==a1))
theorem AgE(k:Axw)(l:Axl)(n:Axm)(x:Axw)(y:AxD)(a1 b1:Bool)(c1:AxB)(d1:Int)(e1:Bool)(g1:AxB)(i1 j1:Axy):AL dP 0 17 (code Tryz.f4) [1,1,1,1,1,1,1,1,1,1,1,1,1,0,0] (AfS k l n x y a1 b1 c1 d1 e1 g1 i1 j1) (DK k l n x y a1 b1 c1 d1 e1 g1 i1 j1) (Ae5 k l n x y a1 b1 c1 d1 e1 g1 i1 j1):=by
 unfold AL;simp only[DK,Axe];kernel_rfl
def F8(k:Axw)(l:Axl)(n:Axm):Option Bool :=
 (ME k 1048576).bind λn1 =>
 bif decide (n1<0) then
 some true
 else
 (JF l n1).bind λo1 =>
 bif decide (o1<0) then
 some true
 else
 (NS n o1).bind λq1 =>
 bif decide (q1<0) then
 some true
 else
 (Ew k).bind λs1 =>
 (Cx l).bind λt1 =>
 (Ge n).bind λu1 =>
 (GD s1 (t1.1,t1.2.1,(t1.2.2.1,()),(t1.2.2.2,()),()) (u1,())).bind λv1 =>
 (Ew k).bind λx =>
 (Cx l).bind λw1 =>
 (Ge n).bind λy =>
 (B7 x (w1.1,w1.2.1,(w1.2.2.1,()),(w1.2.2.2,()),()) (y,())).bind λx1 =>
 (DK k l n x y v1.1 x1.1 v1.2 w1.1 w1.2.1 x1.2 w1.2.2.1 w1.2.2.2).bind λk1 =>
 bif k1 then
 some false
 else
 (Ew k).bind λy1 =>
 (MC x y1).bind λa2 =>
 bif !a2 then
 some false
 else
 (Cx l).bind λb2 =>
 (Fo (w1.1,w1.2.1,(w1.2.2.1,()),(w1.2.2.2,()),()) (b2.1,b2.2.1,(b2.2.2.1,()),(b2.2.2.2,()),())).bind λc2 =>
 bif !c2 then
 some false
 else
 (Ge n).bind λd2 =>
 (JA (y,()) (d2,())).bind λe2 =>
 bif !e2 then
 some false
 else
 (G9 1 x).bind λg2 =>
 (Ha w1.1 w1.2.1 g2.1 w1.2.2.1 w1.2.2.2).bind λi2 =>
 (Ld i2.1 y).bind λj2 =>
 (DL k l n v1.2 v1.1 x1.1 j2.1 x1.2).bind λv =>
 bif v then
 some false
 else
 (FP 1 x1.2).bind λk2 =>
 (Ec k2.2 1).bind λl2 =>
 bif decide (l2<0) then
 some false
 else
 bif l2 !=k2.1 then
 some false
 else
 (Ew k).bind λn2 =>
 (Cx l).bind λo2 =>
 (Ge n).bind λq2 =>
 (B7 n2 (o2.1,o2.2.1,(o2.2.2.1,()),(o2.2.2.2,()),()) (q2,())).bind λs2 =>
 (DN v1.2 v1.1 k2.1 s2.1 k2.2 s2.2).bind λi =>
 bif i then
 some false
 else
 (Ec k2.2 1).bind λt2 =>
 bif decide (t2<0) then
 some false
 else
 bif t2 !=k2.1 then
 some false
 else
 some true
theorem laws_FnExactPiecesOf_run(R:Type)(k:Axw)(l:Axl)(n:Axm)(K:AV->List Blk->Option R):AH dP Tryz.f4 R [dD (.sl Ab) k,dD Ag l,dD Ah n] [] K=(F8 k l n).bind λr=>K (dB r) []:=by
 simp only[F8,Axf];simp(disch:=refine sI ?_<;>(repeat' refine sA ?_ ?_)<;>intro _<;>kernel_rfl) only[A6 (AgE _ _ _ _ _ _ _ _ _ _ _ _ _) (K:=AP dP Tryz.f4 0 R K),A6 (AgF _ _ _ _ _ _ _ _) (K:=AP dP Tryz.f4 0 R K),A6 (AgG _ _ _ _ _ _) (K:=AP dP Tryz.f4 0 R K)]
 kernel_rfl
theorem laws_FnExactPiecesOf_ok:HB Tryz.prog dP:=⟨⟨Aw,Ao ⟨Ag9,Acf,Acg,Ach,Acj,Ack,Acl,Acm,Acn,Aco,Acp,Acr,Acs,Acu,Acv,Acw,Acx,trivial⟩⟩,mixed⟩
end
end Go.Proofs.X
namespace Go.Va
def Aq{A:Type}(x:Option A)(Q:A->Prop):Prop:=∃a,x=some a/\Q a
section
variable {A B S T:Type} {x y:Option A} {P Q:A->Prop}
theorem Aq.mk{a:A}(h:Q a):Aq (some a) Q:=⟨a,rfl,h⟩
theorem Aq.of{a:A}(h:x=some a)(hq:Q a):Aq x Q:=⟨a,h,hq⟩
theorem Aq.eq_{a:A}(h:Aq x (·=a)):x=some a:=by obtain⟨b,h1,h2⟩:=h;rw[h1,h2]
theorem Aq.mono(h:Aq x P)(hq:∀a,P a->Q a):Aq x Q:=by obtain⟨a,h1,h2⟩:=h;exact⟨a,h1,hq a h2⟩
theorem Aq.bind{R:B->Prop}{f:A->Option B}(h:Aq x P)(k:∀a,P a->Aq (f a) R):Aq (x.bind f) R:=by
 obtain⟨a,h1,h2⟩:=h;rw[h1];exact k a h2
theorem Aq.cond{c:Bool}(h1:c=true->Aq x Q)(h2:c=false->Aq y Q):Aq (bif c then x else y) Q:=by
 cases c
 ·exact h2 rfl
 ·exact h1 rfl
theorem Aq.elim{R:B->Prop}{C D:Type}{f:C->Option B}{g:D->Option B}{z:C⊕D}(h1:∀c,z=.inl c->Aq (f c) R)(h2:∀d,z=.inr d->Aq (g d) R):Aq (Sum.elim f g z) R:=by
 cases z with
 | inl c=>exact h1 c rfl
 | inr d=>exact h2 d rfl
theorem FW{f:S->Option (S⊕T)}(I:Nat->S->Prop){Q:T->Prop}(step:∀n s,I n s->Aq (f s) λr=>match r with | .inl s'=>∃m,m<n/\I m s' | .inr t=>Q t):∀n s,I n s->Aq (fix f s) Q:=by
 intro n;induction n using Nat.strongRecOn with
 | _ n ih =>
  intro s hI;obtain⟨r,h1,h2⟩:=step n s hI;cases r with
  | inl s' =>
   obtain⟨m,hm,hI'⟩:=h2;rw[T7 h1];exact ih m hm s' hI'
  | inr t=>exact⟨t,T6 h1,h2⟩
theorem oM{f:S->Option (S⊕T)}(st:Nat->S){t:T}:∀(n k:Nat),(∀i,k<=i->i<k+n->f (st i)=some (.inl (st (i+1))))->f (st (k+n))=some (.inr t)->fix f (st k)=some t
 | 0,k,_,he=>T6 he
 | n+1,k,hs,he=>by
  rw[T7 (hs k (Aw2 _) (by omega))];exact oM st n (k+1) (λi h1 h2=>hs i (by omega) (by omega)) (by rw[show k+1+n=k+(n+1) by omega];exact he)
theorem AJ{f:S->Option (S⊕T)}(st:Nat->S){t:T}(n:Nat)(hs:∀i,i<n->f (st i)=some (.inl (st (i+1))))(he:f (st n)=some (.inr t)):fix f (st 0)=some t :=
 oM st n 0 (λi _ h=>hs i (by omega)) (by rw[Nat.zero_add];exact he)
end
theorem wrap64{x:Int}(h1:-9223372036854775808<=x)(h2:x<9223372036854775808):wI x=x:=by
 simp only[wI,IntKind.wrap,IntKind.bits,IntKind.signed];simp;omega
theorem dJ{x:Int}(h1:0<=x)(h2:x<18446744073709551616):IntKind.u64.wrap x=x:=by
 simp only[wI,IntKind.wrap,IntKind.bits,IntKind.signed];simp;omega
theorem ZC{k n:Nat}(hk:k<n)(hn:n<=maxLen):wI ((k:Int)+1)=((k+1:Nat):Int):=by
 unfold maxLen at hn;rw[wrap64 (by omega) (by omega)];omega
def QB{A:Type}(F:A->A->Option Bool)(a:A):Prop:=∀b,Aq (F a b) λr=>r=true↔a=b
theorem ah {A:Type} {F:A->A->Option Bool} {z:A} {a b:List A} (hl:a.length=b.length) (hn:a.length<=maxLen) (hF:∀x∈a,QB F x) {f:Int->Option (Int⊕(Unit⊕Unit))}
    (hs:∀k:Nat,k<a.length->f (k:Int)=(F (a.getD k z) (b.getD k z)).bind λr=>bif !r then some (.inr (.inl ())) else some (.inl (wI ((k:Int)+1)))) (he:f (a.length:Int)=some (.inr (.inr ()))) :
    Aq (fix f 0) λt=>(t=.inr ()/\a=b)\/(t=.inl ()/\a≠b):=by
 refine FW (λm (i:Int)=>∃k:Nat,i=(k:Int)/\k<=a.length/\m=a.length-k/\a.take k=b.take k) (λm i hI=>?_) (a.length) 0 ⟨0,rfl,Nat.zero_le _,rfl,rfl⟩;obtain⟨k,rfl,hk,rfl,ht⟩:=hI;rcases Aw7 k a.length with h | h
 ·rw[hs k h];have ha:a.getD k z=a[k]:=by simp[List.getD,h]
  have hb:b.getD k z=b[k]'(by omega):=by simp[List.getD,show k<b.length by omega]
  refine Aq.bind (hF (a.getD k z) (by rw[ha];exact List.getElem_mem h) (b.getD k z)) λr hr=>?_;cases r with
  | false =>
   refine Aq.mk (.inr ⟨rfl,λe=>?_⟩);have:a.getD k z=b.getD k z:=by rw[e]
   have:=hr.2 this;cases this
  | true =>
   have e:=hr.1 rfl;refine Aq.mk ⟨a.length-(k+1),by omega,k+1,ZC h hn,h,rfl,?_⟩;rw[List.take_succ_eq_append_getElem h,List.take_succ_eq_append_getElem (show k<b.length by omega),ht,<-ha,<-hb,e]
 ·have hk':k=a.length:=by omega
  subst hk';rw[he];refine Aq.mk (.inl ⟨rfl,?_⟩);rw[Aw6 (Aw2 _),Aw6 (by omega)] at ht;exact ht
end Go.Va
namespace Go.Va
theorem EE{k n:Nat}(h:k<n):decide ((k:Int)<(n:Int))=true:=by simp;exact h
theorem Ff(n:Nat):decide ((n:Int)<(n:Int))=false:=by simp
theorem rng{k n:Nat}(h:k<n):(0:Int)<=(k:Int)/\(k:Int)<(n:Int):=⟨by omega,by omega⟩
theorem UQ {A:Type} {F:A->A->Option Bool} {z:A} {G:List A->List A->Option Bool} {r:List A->List A->Int->Option (Int⊕(Unit⊕Unit))}
    (hG:∀a b,G a b=bif (a.length:Int) !=(b.length:Int) then some false else(fix (r a b) 0).bind (Sum.elim (λ_=>some false) λ_=>some true))
    (hr:∀a b i,r a b i=bif decide (i<(a.length:Int)) then(if(0:Int)<=i/\i<(a.length:Int) then(if(0:Int)<=i/\i<(b.length:Int) then
     (F (a.getD i.toNat z) (b.getD i.toNat z)).bind λq=>bif !q then some (.inr (.inl ())) else some (.inl (wI (i+1))) else none) else none) else some (.inr (.inr ())))
    {a:List A} (hn:a.length<=maxLen) (hF:∀x∈a,QB F x):QB G a:=by
 intro b;rw[hG];refine Aq.cond (λh=>Aq.mk ⟨λh=>by(cases h),λe=>?_⟩) λh=>?_
 ·subst e;simp at h
 ·have hl:a.length=b.length:=by
    have:(a.length:Int)=(b.length:Int):=by simpa using h
    omega
  refine Aq.bind (ah (z:=z) hl hn hF (λk hk=>?_) ?_) λt ht=>?_
  ·rw[hr,EE hk,Axc,if_pos (rng hk),if_pos (rng (by omega))];rfl
  ·rw[hr,Ff,Axb]
  ·rcases ht with ⟨rfl,e⟩| ⟨rfl,e⟩
   ·exact Aq.mk ⟨λ_=>e,λ_=>rfl⟩
   ·exact Aq.mk ⟨λh=>by(cases h),λh=>(e h).elim⟩
end Go.Va
namespace Go.Proofs.X
open Go Go.Va
set_option maxRecDepth 100000
theorem Qy(s t:ByteArray):strEq s t=true↔s=t:=by
 unfold strEq;rw[ByteArray.toList_eq,ByteArray.toList_eq,beq_iff_eq];constructor
 ·intro h;cases s with
  | mk a=>cases t with
   | mk b=>simp at h;rw[h]
 ·rintro rfl;rfl
theorem Z5{a:Axs}(hn:a.length<=maxLen):QB JE a :=
 UQ (F:=λx y=>some (x==y)) (z:=Ty.zero (.int .u64)) (r:=GU) (λ_ _=>rfl) (λ_ _ _=>rfl) hn λx _ y=>Aq.mk (by simp)
theorem VE{a:Axs}(hn:a.length<=maxLen):QB Gx a :=
 UQ (F:=λx y=>some (x==y)) (z:=Ty.zero (.int .i64)) (r:=HN) (λ_ _=>rfl) (λ_ _ _=>rfl) hn λx _ y=>Aq.mk (by simp)
theorem YO{a:Axq}(h:Ty.Wf Am a):QB Jz a:=by
 intro b;obtain⟨w,ws,_⟩:=a;obtain⟨w',ws',_⟩:=b;unfold Jz;refine Aq.cond (λh1=>Aq.mk (by simp at h1;simp[h1])) λh1=>Aq.bind (Z5 h.2.1.1 ws') λr hr=>Aq.cond (λh2=>Aq.mk (by simp at h1 h2;simp_all)) λh2=>Aq.mk (by simp at h1 h2;simp_all)
theorem q9(a:Axh):QB (λx y=>some (JB x y)) a:=by
 intro b;obtain⟨n,w,_⟩:=a;obtain⟨n',w',_⟩:=b;refine Aq.mk ?_;simp[JB,Qy]
theorem kV{a:Axw}(h:Ty.Wf (.sl Ab) a):QB MC a :=
 UQ (F:=λx y=>some (JB x y)) (z :=Ab.zero) (r:=IY) (λ_ _=>rfl) (λ_ _ _=>rfl) h.1 λx hx=>q9 x
theorem kX{a:Axj}(h:Ty.Wf Ae a):QB HQ a:=by
 intro b;obtain⟨o,v,A,B,x,k,_⟩:=a;obtain⟨o',v',A',B',x',k',_⟩:=b;unfold HQ;refine Aq.cond (λh1=>Aq.mk (by simp at h1;simp[h1])) λh1=>Aq.cond (λh2=>Aq.mk (by simp at h1 h2;simp[h2])) λh2=>Aq.cond (λh3=>Aq.mk (by simp at h1 h3;simp[h3])) λh3=>Aq.cond (λh3=>Aq.mk (by simp at h1 h3;simp[h3])) λh5 =>
  Aq.bind (YO h.2.2.2.2.1 x') λr hr=>Aq.cond (λh4=>Aq.mk (by simp at h1 h2 h3 h4;simp_all)) λh4=>Aq.bind (VE h.2.2.2.2.2.1.1 k') λr2 hr2=>Aq.cond (λh6=>Aq.mk (by simp at h1 h2 h3 h4 h6;simp_all)) λh6=>Aq.mk (by simp at h1 h2 h3 h4 h5 h6;simp_all)
theorem fU{a:Axy}(h:Ty.Wf (.sl Ae) a):QB Lc a :=
 UQ (F:=HQ) (z :=Ae.zero) (r:=HR) (λ_ _=>rfl) (λ_ _ _=>rfl) h.1 λx hx=>kX (h.2 x hx)
theorem YQ{a:Axp}(h:Ty.Wf Ak a):QB JD a:=by
 intro b;obtain⟨n,_⟩:=a;obtain⟨n',_⟩:=b;unfold JD;refine Aq.bind (fU h.1 n') λr1 hr1=>Aq.cond (λh1=>Aq.mk (by simp at h1;simp_all)) λh1=>Aq.mk (by simp at h1;simp_all)
theorem Z4{a:Axl}(h:Ty.Wf Ag a):QB Fo a:=by
 intro b;obtain⟨i,e,s,t,_⟩:=a;obtain⟨i',e',s',t',_⟩:=b;unfold Fo;refine Aq.cond (λh1=>Aq.mk (by simp at h1;simp[h1])) λh1=>Aq.cond (λh2=>Aq.mk (by simp at h1 h2;simp[h2])) λh2 =>
  Aq.bind (YQ h.2.2.1 s') λr hr=>Aq.cond (λh4=>Aq.mk (by simp at h1 h2 h4;simp_all)) λh4=>Aq.bind (YQ h.2.2.2.1 t') λr2 hr2=>Aq.cond (λh6=>Aq.mk (by simp at h1 h2 h4 h6;simp_all)) λh6=>Aq.mk (by simp at h1 h2 h4 h6;simp_all)
theorem YN{a:Axr}(h:Ty.Wf Bm a):QB Jy a:=by
 intro b;obtain⟨s,v,_⟩:=a;obtain⟨s',v',_⟩:=b;unfold Jy;refine Aq.cond (λh1=>Aq.mk (by simp at h1;simp[h1])) λh1=>Aq.bind (YO h.2.1 v') λr hr=>Aq.cond (λh2=>Aq.mk (by simp at h1 h2;simp_all)) λh2=>Aq.mk (by simp at h1 h2;simp_all)
theorem kW{a:Axn}(h:Ty.Wf Ai a):QB HO a:=by
 intro b;obtain⟨x,y,w,_⟩:=a;obtain⟨x',y',w',_⟩:=b;unfold HO;refine Aq.bind (YN h.1 x') λr hr=>Aq.cond (λh1=>Aq.mk (by simp at h1;simp_all)) λh1=>Aq.bind (YN h.2.1 y') λr hr=>Aq.cond (λh2=>Aq.mk (by simp at h1 h2;simp_all)) λh2=>Aq.cond (λh3=>Aq.mk (by simp at h1 h2 h3;simp_all)) λh3=>Aq.mk (by simp at h1 h2 h3;simp_all)
theorem fT{a:AxB}(h:Ty.Wf (.sl Ai) a):QB Gy a :=
 UQ (F:=HO) (z :=Ai.zero) (r:=HP) (λ_ _=>rfl) (λ_ _ _=>rfl) h.1 λx hx=>kW (h.2 x hx)
theorem Z3{a:AxD}(h:Ty.Wf (.sl (.sl (.int .i64))) a):QB JC a :=
 UQ (F:=Gx) (z:=Ty.zero (.sl (.int .i64))) (r:=GR) (λ_ _=>rfl) (λ_ _ _=>rfl) h.1 λx hx=>VE (h.2 x hx).1
theorem qZ{a:Axm}(h:Ty.Wf Ah a):QB JA a:=by
 intro b;obtain⟨n,_⟩:=a;obtain⟨n',_⟩:=b;unfold JA;refine Aq.bind (Z3 h.1 n') λr1 hr1=>Aq.cond (λh1=>Aq.mk (by simp at h1;simp_all)) λh1=>Aq.mk (by simp at h1;simp_all)
end Go.Proofs.X
