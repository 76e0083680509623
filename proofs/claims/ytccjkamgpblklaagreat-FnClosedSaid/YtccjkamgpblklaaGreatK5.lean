import Derived.KernelRfl
import Derived.Test.YtccjkamgpblklaaGreatK4
set_option linter.unusedVariables false
set_option linter.unusedSimpArgs false
namespace Go.Proofs.X
open Go Go.Va Go.Proofs.Tryz
set_option maxRecDepth 100000
noncomputable section
abbrev E72:=eN [(148,xk),(183,Am5)] {}
def Fh(a b:Ax3):Ay0 Ayv:=
 (EL (wI (a.1+b.1))).bind λc=>(K9 c.1 0 b c.2).bind λd=>(K9 c.1 b.1 a d).bind λe=>some (c.1,e)
def Am3:=Ff [.d AB,.d AB] [⟨[.Aw [] AB,.Aw [] AB],[],Ayv,λp=>Fh p.1.1 p.1.2.1,λr=>(.pr (dI r.1) T9,[Dt r.2])⟩]
theorem sj:Am prog 175 Am3:=Ax (fn:=f175) ⟨⟨E72,pk ⟨X8,sn,trivial⟩,λ_ R K=>by
 simp only[Fh,Ax2];kernel_rfl⟩,trivial⟩
abbrev wV:=eN [(174,Am2),(175,Am3)] {Ao:=false,Bv:=[(2,{Bb:=[0,8,9,10],mv:=[0]})],CM:=[(2,[0])],B5:=[(6,[0,6,7,8,9,10,27]),(9,[0,6,7,8,9,10]),(10,{Bb:=[0,8,9,10],mv:=[0]})],EO:=[(6,[0,6,7,8,9,10]),(9,[0,6,7,8,9,10]),(10,[0,8,9,10])]}
def Aiz a b (z_:Int×Ayi):=sT 59 (wC a b z_.1) [.Be,Cv z_.2]
def Af8(a:Ayi)(b:Int):=λ(c:Ayi)=>xE 0 59 [(0,.AA 1)] [.Be,Cv c]
def Aiy a b d e:=sT 59 (wC a b d) [.Be,Cv e]
def Af7 a b d (e:Ayi):=λ(g:Ayi)=>xN 59 (wC a b d) [.Be,Cv g]
def Aix a b d e i j:=sT 59 (wD i a b d) [.Be,Cv e,.box (Jr j)]
def Af6 a b d (e:Ayi) i j:=λ(k:Ayi)=>xN 59 (wD i a b d) [.Be,Cv k,.box (Jr j)]
def Lc(a:Ayi)(b d:Int)(e:Ayi)(i:Int)(j:Ax8):Ay0 Ayi:=
 bif j.1==(-1)then
 if 0<=i/\i<e.length then
 (Fh j.2.2.2.1 (e.getD i.toNat Ae.zero).2.2.2.1).bind λl=>if 0<=i/\i<e.length then
 some (e.set i.toNat ((e.getD i.toNat Ae.zero).1,(e.getD i.toNat Ae.zero).2.1,(e.getD i.toNat Ae.zero).2.2.1,(l.1,l.2,()),(e.getD i.toNat Ae.zero).2.2.2.2))
 else none
 else none
 else
 some e
theorem Alx a b d e i j:AX wV 1 9 (sb (cd f145 52) 14) 46 (Aix a b d e i j) (Lc a b d e i j) (Af6 a b d e i j):=by
 unfold AX;simp only[Lc,Ax1];kernel_rfl
def Aiw a b d e n o:=sT 59 (wD n a b d) [.Be,Cv e,.box (Jr o)]
def Af5 a b d e n o:=λ(q:Bool)=>xN 59 [(0,.AA 1),(6,BQ),(7,dI n),(8,FF a),(9,dI b),(10,dI d),(27,dB q)] [.Be,Cv e,.box (Jr o)]
def NU(a:Ayi)(b d:Int)(e:Ayi)(n:Int)(o:Ax8):Ay0 Bool:=
 bif decide (n<0)then
 some true
 else
 if 0<=n/\n<e.length then
 some (!(CP (e.getD n.toNat Ae.zero) o))
 else none
theorem Alw a b d e n o:AX wV 1 6 (sb (cd f145 52) 14) 44 (Aiw a b d e n o) (NU a b d e n o) (Af5 a b d e n o):=by
 unfold AX;simp only[NU,Ax1];kernel_rfl
def Ld(a:Ayi)(b d:Int)(e:Ayi):Ay0 Ayi:=
 if 0<=d/\d<a.length then
 (NU a b d e (wI ((e.length:Int)-1)) (a.getD d.toNat Ae.zero)).bind λq=>bif q then
 if(e.length+([a.getD d.toNat Ae.zero]:Ayi).length)*56<=140737488355328 then
 some (e++([a.getD d.toNat Ae.zero]:Ayi))
 else none
 else
 (Lc a b d e (wI ((e.length:Int)-1)) (a.getD d.toNat Ae.zero)).bind λk=>if 0<=(wI ((e.length:Int)-1))/\(wI ((e.length:Int)-1))<k.length then
 if 0<=(wI ((e.length:Int)-1))/\(wI ((e.length:Int)-1))<k.length then
 some (k.set (wI ((e.length:Int)-1)).toNat ((k.getD (wI ((e.length:Int)-1)).toNat Ae.zero).1,(k.getD (wI ((e.length:Int)-1)).toNat Ae.zero).2.1,wI ((k.getD (wI ((e.length:Int)-1)).toNat Ae.zero).2.2.1+(a.getD d.toNat Ae.zero).2.2.1),(k.getD (wI ((e.length:Int)-1)).toNat Ae.zero).2.2.2))
 else none
 else none
 else none
theorem Aly a b d e:AX wV 1 10 (cd f145 52) 14 (Aiy a b d e) (Ld a b d e) (Af7 a b d e):=by
 unfold AX;simp(disch:=refine id ?_;kernel_rfl) only[Ld,Ax1,A7 (Alw ..) (K:=OZ wV 1 10),A7 (Alx ..) (K:=OZ wV 1 10)];kernel_rfl
def Lm(a:Ayi)(b d:Int)(e:Ayi):Ay0 (Ayz⊕Ayi):=
 bif decide (d<b)then
 (Ld a b d e).bind λg=>some (.inl (wI (d+1),g))
 else
 some (.inr e)
def Eo a b (z_:Int×Ayi):=Lm a b z_.1 z_.2
def QC a b d e:=fix (Eo a b) (d,e)
theorem Alz a b:A8 wV 1 2 (code f145) 26 (Aiz a b) (Eo a b) (Af8 a b):=by
 intro _;simp(disch:=refine id ?_;kernel_rfl) only[Eo,Lm,Ax1,A7 (Aly ..) (K:=L5 wV 1 2)];kernel_rfl
def Di(a s:Ayi):Ay0 Ayi:=
 (QC a (a.length:Int) 0 s).bind λc=>some c
def Acz:=Ff [.Sm,.d AyS] [⟨[.k (.AA 0),.Aw [] AyS],[.row 122 (.sh []) Ae],Ayi,λp=>Di p.1.2.1 p.2.1,λr=>(.AA 1,[.Be,Cv r])⟩]
theorem ft:Am prog 145 Acz:=Ax (fn:=f145) ⟨⟨wV,pk ⟨si,sj,trivial⟩,λ_ R K=>by
 simp(disch:=refine id ?_;kernel_rfl) only[Di,Ax2,QC,AO (Alz _ _) (K:=A6 wV f145 1 R K)];kernel_rfl⟩,trivial⟩
abbrev E74:=eN [] {Bv:=[(3,[3,6,7,8])],CM:=[(3,[3])]}
def AiA a b (z_:Int×Int):=sT 18 [(3,dI z_.1),(6,FF a),(7,dI b),(8,dI z_.2)] []
def Af9(a:Ayi)(b:Int):=λ(c:Int)=>xE 0 18 [(3,dI c)] []
def GU(a:Ayi)(b d e:Int):Ay0 (AyC⊕Int):=
 bif decide (e<b)then
 if 0<=e/\e<a.length then
 some (.inl (wI (d+(a.getD e.toNat Ae.zero).2.2.1),wI (e+1)))
 else none
 else
 some (.inr d)
def Cp a b (z_:Int×Int):=GU a b z_.1 z_.2
def Mu a b d e:=fix (Cp a b) (d,e)
theorem AlA a b:A8 E74 0 3 (code f54) 58 (AiA a b) (Cp a b) (Af9 a b):=by
 intro _;simp only[Cp,GU,Ax1];kernel_rfl
def G8(a:Ayi):Ay0 Int:=
 (Mu a (a.length:Int) 0 0).bind λc=>some c
def c54:=Ff [.d AyS] [⟨[.Aw [] AyS],[],Int,λp=>G8 p.1.1,λr=>(dI r,[])⟩]
theorem xI:Am prog 54 c54:=Ax (fn:=f54) ⟨⟨E74,pk trivial,λ_ R K=>by
 simp(disch:=refine id ?_;kernel_rfl) only[G8,Ax2,Mu,AO (AlA _ _) (K:=A6 E74 f54 0 R K)];kernel_rfl⟩,trivial⟩
abbrev wW:=eN [(148,xk)] {Bv:=[(3,[1,2,3,6,7,15,16])],CM:=[(3,[2,6,7])],B5:=[(8,[1,2,3,6,7,8,9,15,16,47]),(9,[1,2,3,6,7,15,16]),(13,[6,7])],EO:=[(8,[1,2,3,6,7,8,9,15,16]),(9,[1,2,3,6,7,15,16]),(13,[2,6,7])]}
def AiD a b c:=sT 85 [(2,dI a),(6,Aq),(7,Ay)] (wm c b)
def Agc(a:Int)(b:Ayd) c:=λ(d:Ayd)=>xN 85 [(6,Aq),(7,Ay)] (wm c d)
def Kb(a:Int)(b:Ayd)(c:Int):Ay0 Ayd:=
 bif (Int.tmod a 64) !=0 then
 if 0<=(wI ((b.length:Int)-1))/\(wI ((b.length:Int)-1))<b.length then
 if(Int.tmod a 64)<(0:Int)then none else
 if 0<=(wI ((b.length:Int)-1))/\(wI ((b.length:Int)-1))<b.length then
 some (b.set (wI ((b.length:Int)-1)).toNat (Se .u64 (b.getD (wI ((b.length:Int)-1)).toNat AyO.zero) (IntKind.u64.wrap ((KW .u64 1 (Int.tmod a 64))-1))))
 else none
 else none
 else
 some b
theorem AlE a b c:AX wW 0 13 (code f184) 30 (AiD a b c) (Kb a b c) (Agc a b c):=by
 unfold AX;simp only[Kb,Ax1];kernel_rfl
def AiC e a g i j (z_:Int×Ayd):=sT 85 (wE e a i z_.1) (wF g j z_.2)
def Agb(e:Int) a (g:Ax3) (i:Int) j:=λ(b:Ayd)=>xE 0 85 [(2,dI a),(6,Aq),(7,Ay)] (wm j b)
def AiB e a i k g j l:=sT 85 (wE e a i k) (wF g j l)
def Aga e a i k g j (l:Ayd):=λ(n:Ayd)=>xN 85 (wE e a i k) (wF g j n)
def Aaw e a k i g j (l:Ayd):=sT 85 [(1,dI e),(2,dI a),(3,Aq),(6,Ay),(7,BQ),(8,dI k),(9,dI (wI (e+(wI (64*k))))),(15,dI i),(16,dI k)] [.box (O8 g),.box ZC,.box (.pr (dI j) Wc),Dt (l.set k.toNat (Ju .u64 (g.2.1.getD (wI (Int.tdiv (wI (e+(wI (64*k)))) 64)).toNat AyO.zero) (Int.tmod (wI (e+(wI (64*k)))) 64)))]
def qU(e a k i:Int)(g:Ax3)(j:Int)(l:Ayd)(m0:Bool):Ex×St:=xN 85 [(1,dI e),(2,dI a),(3,Aq),(6,Ay),(7,BQ),(8,dI k),(9,dI (wI (e+(wI (64*k))))),(15,dI i),(16,dI k),(47,dB m0)] [.box (O8 g),.box ZC,.box (.pr (dI j) Wc),Dt (l.set k.toNat (Ju .u64 (g.2.1.getD (wI (Int.tdiv (wI (e+(wI (64*k)))) 64)).toNat AyO.zero) (Int.tmod (wI (e+(wI (64*k)))) 64)))]
theorem AlB e a k i g j l:S1 wW 0 8 (sb (cd f184 116) 14) (pt 46) (Aaw e a k i g j l)=some (qU e a k i g j l (((Int.tmod (wI (e+(wI (64*k)))) 64) !=0)&&(decide ((wI ((wI (Int.tdiv (wI (e+(wI (64*k)))) 64))+1))<(g.2.1.length:Int))))):=by
 refine .trans (b:=
 bif (Int.tmod (wI (e+(wI (64*k)))) 64) !=0 then
 some (qU e a k i g j l (decide ((wI ((wI (Int.tdiv (wI (e+(wI (64*k)))) 64))+1))<(g.2.1.length:Int))))
 else
 some (qU e a k i g j l false)) (by kernel_rfl) ?_
 cases ((Int.tmod (wI (e+(wI (64*k)))) 64) !=0);rfl;rfl
def G4(e a i k:Int)(g:Ax3)(j:Int)(l:Ayd):Ay0 Ayd:=
 if 0<=(wI (Int.tdiv (wI (e+(wI (64*k)))) 64))/\(wI (Int.tdiv (wI (e+(wI (64*k)))) 64))<g.2.1.length then
 if(Int.tmod (wI (e+(wI (64*k)))) 64)<(0:Int)then none else
 if 0<=k/\k<l.length then
 Np (Aaw e a k i g j l) (
 bif ((Int.tmod (wI (e+(wI (64*k)))) 64) !=0)&&(decide ((wI ((wI (Int.tdiv (wI (e+(wI (64*k)))) 64))+1))<(g.2.1.length:Int)))then
 if 0<=k/\k<(l.set k.toNat (Ju .u64 (g.2.1.getD (wI (Int.tdiv (wI (e+(wI (64*k)))) 64)).toNat AyO.zero) (Int.tmod (wI (e+(wI (64*k)))) 64))).length then
 if 0<=(wI ((wI (Int.tdiv (wI (e+(wI (64*k)))) 64))+1))/\(wI ((wI (Int.tdiv (wI (e+(wI (64*k)))) 64))+1))<g.2.1.length then
 if(wI (64-(Int.tmod (wI (e+(wI (64*k)))) 64)))<(0:Int)then none else
 if 0<=k/\k<(l.set k.toNat (Ju .u64 (g.2.1.getD (wI (Int.tdiv (wI (e+(wI (64*k)))) 64)).toNat AyO.zero) (Int.tmod (wI (e+(wI (64*k)))) 64))).length then
 some ((l.set k.toNat (Ju .u64 (g.2.1.getD (wI (Int.tdiv (wI (e+(wI (64*k)))) 64)).toNat AyO.zero) (Int.tmod (wI (e+(wI (64*k)))) 64))).set k.toNat (Xe .u64 ((l.set k.toNat (Ju .u64 (g.2.1.getD (wI (Int.tdiv (wI (e+(wI (64*k)))) 64)).toNat AyO.zero) (Int.tmod (wI (e+(wI (64*k)))) 64))).getD k.toNat AyO.zero) (KW .u64 (g.2.1.getD (wI ((wI (Int.tdiv (wI (e+(wI (64*k)))) 64))+1)).toNat AyO.zero) (wI (64-(Int.tmod (wI (e+(wI (64*k)))) 64))))))
 else none
 else none
 else none
 else
 some (l.set k.toNat (Ju .u64 (g.2.1.getD (wI (Int.tdiv (wI (e+(wI (64*k)))) 64)).toNat AyO.zero) (Int.tmod (wI (e+(wI (64*k)))) 64))))
 else none
 else none
theorem AlC e a i k g j l:AX wW 0 9 (cd f184 116) 14 (AiB e a i k g j l) (G4 e a i k g j l) (Aga e a i k g j l):=by
 unfold AX;simp(disch:=refine id ?_;kernel_rfl) only[G4,Ax1,EM (AlB ..) (K:=OZ wW 0 9)];kernel_rfl
def HC(e a:Int)(g:Ax3)(i j k:Int)(l:Ayd):Ay0 (Ayv⊕Ayd):=
 bif decide (k<i)then
 (G4 e a i k g j l).bind λn=>some (.inl (wI (k+1),n))
 else
 some (.inr l)
def Fg e a g i j (z_:Int×Ayd):=HC e a g i j z_.1 z_.2
def Ka e a g i j k l:=fix (Fg e a g i j) (k,l)
theorem AlD e a g i j:A8 wW 0 3 (code f184) 58 (AiC e a g i j) (Fg e a g i j) (Agb e a g i j):=by
 intro _;simp(disch:=refine id ?_;kernel_rfl) only[Fg,HC,Ax1,A7 (AlC ..) (K:=L5 wW 0 3)];kernel_rfl
def Gw(g:Ax3)(e a:Int):Ay0 Ayv:=
 (EL a).bind λo=>(Ka e a g (o.2.length:Int) o.1 0 o.2).bind λb=>(Kb a b o.1).bind λd=>some (o.1,d)
def Am6:=Ff [.d AB,.d AyN,.d AyN] [⟨[.Aw [] AB,.Aw [] AyN,.Aw [] AyN],[],Ayv,λp=>Gw p.1.1 p.1.2.1 p.1.2.2.1,λr=>(.pr (dI r.1) T9,[Dt r.2])⟩]
theorem sq:Am prog 184 Am6:=Ax (fn:=f184) ⟨⟨wW,pk ⟨X8,trivial⟩,λ_ R K=>by
 simp(disch:=refine id ?_;kernel_rfl) only[Gw,Ax2,Ka,AO (AlD _ _ _ _ _) (K:=A6 wW f184 0 R K),A7 (AlE ..) (K:=A6 wW f184 0 R K)];kernel_rfl⟩,trivial⟩
abbrev E76:=eN [(143,Acx),(184,Am6)] {jo:=[(0,.row [3,1] 101 AyO true)]}
def Lb(a:Ax8)(b c:Int):Ay0 AyB:=
 bif a.1==(-1)then
 (Gw a.2.2.2.1 b c).bind λd=>some ((Au d.1 d.2).1,(Au d.1 d.2).2.1,(Au d.1 d.2).2.2.1,(Au d.1 d.2).2.2.2.1,(Au d.1 d.2).2.2.2.2)
 else
 some (a.1,wI (a.2.1+b),c,0,([]:Ayd))
def Am4:=Ff [.d Ae,.d AyN,.d AyN] [⟨[.Aw [] Ae,.Aw [] AyN,.Aw [] AyN],[],AyB,λp=>Lb p.1.1 p.1.2.1 p.1.2.2.1,λr=>(.pr (dI r.1) (.pr (dI r.2.1) (.pr (dI r.2.2.1) (.pr (.pr (dI r.2.2.2.1) T9) .u))),[Dt r.2.2.2.2])⟩]
theorem sk:Am prog 176 Am4:=Ax (fn:=f176) ⟨⟨E76,pk ⟨fp,sq,trivial⟩,λ_ R K=>by
 simp only[Lb,Ax2];kernel_rfl⟩,trivial⟩
abbrev E77:=eN [(145,Acz),(176,Am4)] {Bv:=[(4,{Bb:=[1,2,7,8,14,15,16],Cy:=[(7,false,.row [] 122 Ae false)]})],CM:=[(4,[7])],B5:=[(9,{Bb:=[1,2,7,8,10,14,15,16],Cy:=[(7,false,.row [] 122 Ae false)]})],EO:=[(9,[1,2,7,8,10,11,12,14,15,16])],sY:=[(43,AyS)]}
def AiF a b c d (z_:Int×Int×Ayi):=sT 51 [(1,dI a),(2,dI b),(7,.AA 0),(8,dI z_.1),(14,FF c),(15,dI d),(16,dI z_.2.1)] [Cv z_.2.2]
def Age(a b:Int)(c:Ayi)(d:Int):=λ(e:Ayi)=>xE 0 51 Uw [Cv e]
def AiE a b g c d i j k l n:=sT 51 [(1,dI a),(2,dI b),(7,.AA 0),(8,dI g),(10,Ay),(11,dI k),(12,dI l),(14,FF c),(15,dI d),(16,dI i)] [Cv j,.box (Jr n)]
def Agd a b g c d i (j:Ayi) (k:Int) (l:Int) n:=λ(o:Ayi)=>xN 51 [(1,dI a),(2,dI b),(7,.AA 0),(8,dI g),(10,Ay),(14,FF c),(15,dI d),(16,dI i)] [Cv o,.box (Jr n)]
def Ke(a b g:Int)(c:Ayi)(d i:Int)(j:Ayi)(k l:Int)(n:Ax8):Ay0 Ayi:=
 bif decide (k<l)then
 (Lb n (wI (k-g)) (wI (l-k))).bind λq=>(Di ([(q.1,q.2.1,q.2.2.1,(q.2.2.2.1,q.2.2.2.2,()),())]:Ayi) j).bind λs=>some s
 else
 some j
theorem AlF a b g c d i j k l n:AX E77 0 9 (cd f146 244) 230 (AiE a b g c d i j k l n) (Ke a b g c d i j k l n) (Agd a b g c d i j k l n):=by
 unfold AX;simp only[Ke,Ax1];kernel_rfl
def HF(a b:Int)(c:Ayi)(d g i:Int)(j:Ayi):Ay0 ((Int×Int×Ayi)⊕Ayi):=
 bif decide (i<d)then
 if 0<=i/\i<c.length then
 (Ke a b g c d i j (if g>a then g else a) (if(wI (g+(c.getD i.toNat Ae.zero).2.2.1))<(wI (a+b))then(wI (g+(c.getD i.toNat Ae.zero).2.2.1))else(wI (a+b))) (c.getD i.toNat Ae.zero)).bind λo=>some (.inl (wI (g+(c.getD i.toNat Ae.zero).2.2.1),wI (i+1),o))
 else none
 else
 some (.inr j)
def Dh a b c d (z_:Int×Int×Ayi):=HF a b c d z_.1 z_.2.1 z_.2.2
def Nx a b c d g i j:=fix (Dh a b c d) (g,i,j)
theorem AlG a b c d:A8 E77 0 4 (code f146) 122 (AiF a b c d) (Dh a b c d) (Age a b c d):=by
 intro _;simp(disch:=refine id ?_;kernel_rfl) only[Dh,HF,Ax1,A7 (AlF ..) (K:=L5 E77 0 4)];kernel_rfl
def Du(c:Ayi)(a b:Int):Ay0 Ayi:=
 (Nx a b c (c.length:Int) 0 0 ([]:Ayi)).bind λe=>some e
def AmT:=Ff [.d AyS,.d AyN,.d AyN] [⟨[.Aw [] AyS,.Aw [] AyN,.Aw [] AyN],[],Ayi,λp=>Du p.1.1 p.1.2.1 p.1.2.2.1,λr=>(.AA 0,[Cv r])⟩]
theorem rZ:Am prog 146 AmT:=Ax (fn:=f146) ⟨⟨E77,pk ⟨ft,sk,trivial⟩,λ_ R K=>by
 simp(disch:=refine id ?_;kernel_rfl) only[Du,Ax2,Nx,AO (AlG _ _ _ _) (K:=A6 E77 f146 0 R K)];kernel_rfl⟩,trivial⟩
noncomputable def AmU:Va.Callee:=Wr 122 Ae 56
noncomputable abbrev Am8:Fe:={C6:=C6,yu:=L4 [],fi:={}}
theorem yi:Hy Tryz.prog Am8:=(pk (l:=[]) trivial)
theorem r6:Am Tryz.prog 147 AmU:=
 aC (fn:=Tryz.f147) yi (by kernel_rfl) (by kernel_rfl) rfl rfl rfl ⟨rfl,rfl,rfl⟩ ⟨rfl,rfl,rfl⟩ (ti:=⟨.sl Ae,[],122,24,0,0,false⟩) (by kernel_rfl) rfl (by kernel_rfl) (λxs=>by kernel_rfl) (λxs=>by kernel_rfl)
  λxs h=>by
   have h0:ev Am8 0 (sub (code Tryz.f147) [1,1]) (Ex×St) ⟨[.Aw [] AyS xs,.un 0,.zs,.Aw [] AyS xs,.bool false,.un 0,.un 0,.un 0],[]⟩ Oe=if xs.length*56<=140737488355328 then some (.ret,⟨[.Aw [] AyS xs,.un 0,.AA 0,.Aw [] AyS xs,.bool false,.zs,.Aw [] AyS xs,.AA 0],[Cv xs]⟩)else none:=by kernel_rfl
   exact h0.trans (Awr h)
abbrev ju:=eN [(54,c54),(143,Acx),(144,Acy),(145,Acz),(146,AmT),(147,AmU),(148,xk)] {Ao:=false,Bv:=[(9,{Bb:=[2,7,8],Cy:=[(7,false,.row [] 122 Ae false)]}),(27,{Bb:=[9,12,125,126],Cy:=[(12,false,.row [] 122 Ae false)]}),(36,{Bb:=[13,14,151,152],Ph:=[(14,true,Ae)]})],CM:=[(9,[7]),(27,[12]),(36,[13])],B5:=[(20,[0,9,10,69,88]),(23,[9,10,11]),(35,[0,13,14])],EO:=[(20,[0,9,10,69]),(23,[0,9,10,11]),(35,[0,9,10,13,14])],sY:=[(117,AyS),(156,AyS)]}
def AiL a b (z_:Int×Ayi):=sT 160 [(13,.AA 0),(14,Ay),(151,dI a),(152,dI z_.1)] [Cv z_.2,.box (Jr b)]
def Agk(a:Int)(b:Ax8):=λ(c:Ayi)=>xE 6 160 [(13,.AA 0)] [Cv c]
def L0(a:Int)(b:Ax8)(d:Int)(e:Ayi):Ay0 (Ayz⊕Ayi):=
 bif decide (d<a)then
 (Di ([b]:Ayi) e).bind λg=>some (.inl (wI (d+1),g))
 else
 some (.inr e)
def D2 a b (z_:Int×Ayi):=L0 a b z_.1 z_.2
def Iu a b d e:=fix (D2 a b) (d,e)
theorem AlN a b:A8 ju 0 36 (code f99) 4090 (AiL a b) (D2 a b) (Agk a b):=by
 intro _;simp only[D2,L0,Ax1];kernel_rfl
def AiK i j (z_:Int×Ayi):=sT 160 [(13,.AA 0),(14,Ay),(151,dI j),(152,dI z_.1)] [Cv z_.2,.box (Jr i)]
def Agj(i:Ax8)(j:Int):=λ(k:Ayi)=>xE 6 160 [(13,.AA 0)] [Cv k]
def LZ(i:Ax8)(j l:Int)(n:Ayi):Ay0 (Ayz⊕Ayi):=
 bif decide (l<j)then
 (Di ([i]:Ayi) n).bind λo=>some (.inl (wI (l+1),o))
 else
 some (.inr n)
def D1 i j (z_:Int×Ayi):=LZ i j z_.1 z_.2
def Is i j l n:=fix (D1 i j) (l,n)
theorem AlM i j:A8 ju 0 36 (code f99) 4090 (AiK i j) (D1 i j) (Agj i j):=by
 intro _;simp only[D1,LZ,Ax1];kernel_rfl
def AiJ q s t u v w x y a1:=sT 160 [(0,.D7 [] Ad q),(9,FF t),(10,dI s),(13,.AA 0),(14,Ay)] [Cv u,.box (.pr (dI v) (.pr (dI w) (.pr (dI x) (.pr (.pr (dI y) eI) .u)))),Dt a1]
def Agi q (s:Int) (t:Ayi) u v w x y a1:=Sum.elim (λ(i:Ax8)=>xN 160 [(0,.D7 [] Ad q),(13,.AA 0),(14,Ay)] [Cv u,.box (Jr i)]) (λ(b1:Unit)=>xN 160 [(0,.D7 [] Ad q),(13,.AA 0),(14,Ay)] [Cv u,.box (.pr (dI v) (.pr (dI w) (.pr (dI x) (.pr (.pr (dI y) eI) .u)))),Dt a1])
def BZ(q:Ax7)(s:Int)(t u:Ayi)(v w x y:Int)(a1:Ayd):Ay0 (Ax8⊕Unit):=
 bif q.1==6 then
 (Du t (wI (s-1)) 1).bind λc1=>if(0:Int)<=(0:Int)/\(0:Int)<(c1.length:Int)then
 some (.inl (c1.getD 0 Ae.zero))
 else none
 else
 some (.inr ())
theorem AlL q s t u v w x y a1:AX ju 0 35 (code f99) 510 (AiJ q s t u v w x y a1) (BZ q s t u v w x y a1) (Agi q s t u v w x y a1):=by
 unfold AX;simp only[BZ,Ax1];kernel_rfl
def AiI d1 e1 (z_:Int×Ayi):=sT 160 [(9,FF d1),(12,.AA 0),(125,dI e1),(126,dI z_.1)] [Cv z_.2]
def Agh(d1:Ayi)(e1:Int):=λ(g1:Ayi)=>xE 4 160 [(12,.AA 0)] [Cv g1]
def DZ(d1:Ayi)(e1 i1:Int)(j1:Ayi):Ay0 (Ayz⊕Ayi):=
 bif decide (i1<e1)then
 (Di d1 j1).bind λk1=>some (.inl (wI (i1+1),k1))
 else
 some (.inr j1)
def B8 d1 e1 (z_:Int×Ayi):=DZ d1 e1 z_.1 z_.2
def FL d1 e1 i1 j1:=fix (B8 d1 e1) (i1,j1)
theorem AlK d1 e1:A8 ju 0 27 (code f99) 257002 (AiI d1 e1) (B8 d1 e1) (Agh d1 e1):=by
 intro _;simp only[B8,DZ,Ax1];kernel_rfl
def AiH q s l1 n1:=sT 160 [(0,.D7 [] Ad q),(9,FF l1),(10,dI s),(11,dI n1)] []
def Agg(q:Ax7) s l1 (n1:Int):=λ(o1:Int)=>xN 160 [(9,FF l1),(10,dI s),(11,dI o1)] []
def Db(q:Ax7)(s:Int)(l1:Ayi)(n1:Int):Ay0 Int:=
 bif q.1==8 then
 if s=(0:Int)then none else
 some (Int.tmod (wI (s-n1)) s)
 else
 some n1
theorem AlJ q s l1 n1:AX ju 0 23 (code f99) 16058 (AiH q s l1 n1) (Db q s l1 n1) (Agg q s l1 n1):=by
 unfold AX;simp only[Db,Ax1];kernel_rfl
def Aax q (q1:Ayp) s:=sT 160 [(0,.D7 [] Ad q),(9,FF (q1.getD 0 AyS.zero)),(10,dI s),(69,dI q.1)] []
def qV(q:Ax7)(q1:Ayp)(s:Int)(m0:Bool):Ex×St:=xN 160 [(0,.D7 [] Ad q),(9,FF (q1.getD 0 AyS.zero)),(10,dI s),(69,dI q.1),(88,dB m0)] []
theorem AlI q q1 s:S1 ju 0 20 (code f99) (pt 2006) (Aax q q1 s)=some (qV q q1 s (bif q.1==7 then(q.1==7)else(q.1==8))):=by
 refine .trans (b:=
 bif q.1==7 then
 some (qV q q1 s (q.1==7))
 else
 some (qV q q1 s (q.1==8))) (by kernel_rfl) ?_
 cases (q.1==7);rfl;rfl
def AiG q1 (z_:Int×Ayi):=sT 160 [(2,KJ q1),(7,.AA 0),(8,dI z_.1)] [Cv z_.2]
def Agf(q1:Ayp):=λ(s1:Ayi)=>xE 1 160 Uw [Cv s1]
def DY(q1:Ayp)(t1:Int)(u1:Ayi):Ay0 (Ayz⊕Ayi):=
 bif decide (t1>=0)then
 if 0<=t1/\t1<q1.length then
 (Di (q1.getD t1.toNat AyS.zero) u1).bind λv1=>some (.inl (wI (t1-1),v1))
 else none
 else
 some (.inr u1)
def B7 q1 (z_:Int×Ayi):=DY q1 z_.1 z_.2
def Ir q1 t1 u1:=fix (B7 q1) (t1,u1)
theorem AlH q1:A8 ju 0 9 (code f99) 27626 (AiG q1) (B7 q1) (Agf q1):=by
 intro _;simp only[B7,DY,Ax1];kernel_rfl
def Fl(q:Ax7)(w1:Ayg)(q1:Ayp):Ay0 Ayi:=
 bif q.1==1 then
 if(0:Int)<=q.2.1/\q.2.1<(w1.length:Int)then
 some ([(q.2.1,0,(w1.getD q.2.1.toNat Ab.zero).2.1,(0,([]:Ayd),()),())]:Ayi)
 else none
 else
 bif q.1==2 then
 (Fo q.2.2.2.2.1).bind λx1=>some ([((Au x1.1 x1.2).1,(Au x1.1 x1.2).2.1,(Au x1.1 x1.2).2.2.1,((Au x1.1 x1.2).2.2.2.1,(Au x1.1 x1.2).2.2.2.2,()),())]:Ayi)
 else
 bif q.1==3 then
 (Ir q1 (wI ((q1.length:Int)-1)) ([]:Ayi)).bind λs1=>some s1
 else
 if(0:Int)<=(0:Int)/\(0:Int)<(q1.length:Int)then
 (G8 (q1.getD 0 AyS.zero)).bind λs=>bif q.1==4 then
 (Du (q1.getD 0 AyS.zero) q.2.2.2.1 (wI ((wI (q.2.2.1-q.2.2.2.1))+1))).bind λy1=>some y1
 else
 Np (Aax q q1 s) (
 bif bif (q.1==7)then(q.1==7)else(q.1==8)then
 if s=(0:Int)then none else
 (Db q s (q1.getD 0 AyS.zero) (Int.tmod q.2.2.1 s)).bind λo1=>(Du (q1.getD 0 AyS.zero) (wI (s-o1)) o1).bind λa2=>(Du (q1.getD 0 AyS.zero) 0 (wI (s-o1))).bind λb2=>(Di b2 a2).bind λc2=>some c2
 else
 bif q.1==9 then
 (FL (q1.getD 0 AyS.zero) q.2.2.1 0 ([]:Ayi)).bind λg1=>some g1
 else
 if(q1.getD 0 AyS.zero).length*56<=140737488355328 then
 (EL 1).bind λd2=>(BZ q s (q1.getD 0 AyS.zero) (q1.getD 0 AyS.zero) (Au d2.1 d2.2).1 (Au d2.1 d2.2).2.1 (Au d2.1 d2.2).2.2.1 (Au d2.1 d2.2).2.2.2.1 (Au d2.1 d2.2).2.2.2.2).bind (Sum.elim (λi=>(Is i q.2.2.1 0 (q1.getD 0 AyS.zero)).bind λk=>some k) (λb1=>(Iu q.2.2.1 ((Au d2.1 d2.2).1,(Au d2.1 d2.2).2.1,(Au d2.1 d2.2).2.2.1,((Au d2.1 d2.2).2.2.2.1,(Au d2.1 d2.2).2.2.2.2,()),()) 0 (q1.getD 0 AyS.zero)).bind λc=>some c))
 else none)
 else none
def c99:=Ff [.p Ad,.d AyT,.d AyX] [⟨[.D7 [] Ad,.Aw [] AyT,.Aw [] AyX],[],Ayi,λp=>Fl p.1.1 p.1.2.1 p.1.2.2.1,λr=>(.AA 0,[Cv r])⟩]
theorem yb:Am prog 99 c99:=Ax (fn:=f99) ⟨⟨ju,pk ⟨xI,fp,fq,ft,rZ,r6,X8,trivial⟩,λ_ R K=>by
 simp(disch:=refine id ?_;kernel_rfl) only[Fl,Ax2,Ir,AO (AlH _) (K:=A6 ju f99 0 R K),EM (AlI ..) (K:=A6 ju f99 0 R K),A7 (AlJ ..) (K:=A6 ju f99 0 R K),FL,AO (AlK _ _) (K:=A6 ju f99 0 R K),A7 (AlL ..) (K:=A6 ju f99 0 R K),Is,AO (AlM _ _) (K:=A6 ju f99 0 R K),Iu,AO (AlN _ _) (K:=A6 ju f99 0 R K)];kernel_rfl⟩,trivial⟩
abbrev E79:=eN [(144,Acy)] {Bv:=[(3,[3,9,10,11])],CM:=[(3,[3])]}
def AiM a b (z_:Int×Ayi):=sT 26 [(3,.AA 0),(9,FF a),(10,dI b),(11,dI z_.1)] [CJ z_.2]
def Agl(a:Ayi)(b:Int):=λ(c:Ayi)=>xE 0 26 [(3,.AA 0)] [CJ c]
def GQ(a:Ayi)(b d:Int)(e:Ayi):Ay0 (Ayz⊕Ayi):=
 bif decide (d<b)then
 if 0<=d/\d<a.length then
 (Fo (a.getD d.toNat Ae.zero).2.2.2.1).bind λg=>if 0<=d/\d<e.length then
 some (.inl (wI (d+1),e.set d.toNat ((a.getD d.toNat Ae.zero).1,(a.getD d.toNat Ae.zero).2.1,(a.getD d.toNat Ae.zero).2.2.1,(g.1,g.2,()),(a.getD d.toNat Ae.zero).2.2.2.2)))
 else none
 else none
 else
 some (.inr e)
def Cn a b (z_:Int×Ayi):=GQ a b z_.1 z_.2
def Mt a b d e:=fix (Cn a b) (d,e)
theorem AlO a b:A8 E79 0 3 (code f100) 58 (AiM a b) (Cn a b) (Agl a b):=by
 intro _;simp only[Cn,GQ,Ax1];kernel_rfl
def Jz(a:Ayi):Ay0 Ayi:=
 if Ty.row Ae=true/\(0:Int)<=(a.length:Int)/\(a.length:Int)<=(a.length:Int)/\((56:Nat):Int)*(a.length:Int)<=(281474976710656:Int)/\(a.length:Int)<=(9223372036854775807:Int)then
 (Mt a (a.length:Int) 0 (List.replicate (a.length:Int).toNat (0,0,0,(0,([]:Ayd),()),()))).bind λc=>some c
 else none
def AmE:=Ff [.d AyS] [⟨[.Aw [] AyS],[],Ayi,λp=>Jz p.1.1,λr=>(.AA 0,[CJ r])⟩]
theorem rL:Am prog 100 AmE:=Ax (fn:=f100) ⟨⟨E79,pk ⟨fq,trivial⟩,λ_ R K=>by
 simp(disch:=refine id ?_;kernel_rfl) only[Jz,Ax2,Mt,AO (AlO _ _) (K:=A6 E79 f100 0 R K)];kernel_rfl⟩,trivial⟩
end
end Go.Proofs.X
namespace Go.Proofs.X
open Go Go.Va Go.Proofs.Tryz
set_option maxRecDepth 100000
noncomputable section
abbrev E80:=eN [(99,c99),(100,AmE)] {Ao:=false,Bv:=[(3,[0,3,6,18,19]),(8,[0,3,6,7,8,9,18,19,35,36,37])],CM:=[(3,{Bb:=[4,5,6],Ph:=[(6,false,AyX)]}),(8,{Bb:=[0,3,6,7,8,9,18,19],Ph:=[(9,false,AyX)]})],jo:=[(0,.row [] 122 Ae true)]}
def AiP a b c (z_:Int×Ayp):=sT 71 [(0,Aj a),(3,Aq),(6,.AA 1),(18,dI c),(19,dI z_.1)] [.box (NP b),XV z_.2]
def Agn(a:Ayg)(b:Ax4)(c:Int):=Sum.elim (λ(d:Ayp)=>xR 71 [(4,.zs),(5,dB false),(6,KJ d)] []) (λ(e:Ayp)=>xE 0 71 [(6,KJ e)] [])
def AiO a g c b i j k l (z_:Int×Ayp):=sT 71 [(0,Aj a),(3,Aq),(6,.AA 1),(7,dI g),(8,.D7 [] Ad j),(9,.AA 2),(18,dI c),(19,dI g),(35,HY k),(36,dI l),(37,dI z_.1)] [.box (NP b),XV i,XV z_.2]
def Agm a g c b i j (k:Ayd) (l:Int):=λ(n:Ayp)=>xE 2 71 [(0,Aj a),(3,Aq),(6,.AA 1),(7,dI g),(8,.D7 [] Ad j),(9,KJ n),(18,dI c),(19,dI g)] [.box (NP b),XV i]
def II(a:Ayg)(g c:Int)(b:Ax4)(i:Ayp)(j:Ax7)(k:Ayd)(l o:Int)(q:Ayp):Ay0 ((Int×Ayp)⊕Ayp):=
 bif decide (o<l)then
 if 0<=o/\o<k.length then
 if(0:Int)<=(k.getD o.toNat AyN.zero)/\(k.getD o.toNat AyN.zero)<(i.length:Int)then
 if 0<=o/\o<q.length then
 some (.inl (wI (o+1),q.set o.toNat (i.getD (k.getD o.toNat AyN.zero).toNat AyS.zero)))
 else none
 else none
 else none
 else
 some (.inr q)
def D3 a g c b i j k l (z_:Int×Ayp):=II a g c b i j k l z_.1 z_.2
def OD a g c b i j k l o q:=fix (D3 a g c b i j k l) (o,q)
theorem AlP a g c b i j k l:A8 E80 0 8 (cd f69 116) 1850 (AiO a g c b i j k l) (D3 a g c b i j k l) (Agm a g c b i j k l):=by
 intro _;simp only[D3,II,Ax1];kernel_rfl
def Mv(a:Ayg)(b:Ax4)(c g:Int)(i:Ayp):Ay0 ((Int×Ayp)⊕(Ayp⊕Ayp)):=
 bif decide (g<c)then
 if 0<=g/\g<b.1.length then
 if Ty.row AyS=true/\(0:Int)<=((b.1.getD g.toNat Ad.zero).2.2.2.2.2.1.length:Int)/\((b.1.getD g.toNat Ad.zero).2.2.2.2.2.1.length:Int)<=((b.1.getD g.toNat Ad.zero).2.2.2.2.2.1.length:Int)/\((24:Nat):Int)*((b.1.getD g.toNat Ad.zero).2.2.2.2.2.1.length:Int)<=(281474976710656:Int)/\((b.1.getD g.toNat Ad.zero).2.2.2.2.2.1.length:Int)<=(9223372036854775807:Int)then
 (OD a g c b i (b.1.getD g.toNat Ad.zero) (b.1.getD g.toNat Ad.zero).2.2.2.2.2.1 ((b.1.getD g.toNat Ad.zero).2.2.2.2.2.1.length:Int) 0 (List.replicate ((b.1.getD g.toNat Ad.zero).2.2.2.2.2.1.length:Int).toNat ([]:Ayi))).bind λn=>(Fl (b.1.getD g.toNat Ad.zero) a n).bind λs=>if 0<=g/\g<i.length then
 if 0<=g/\g<(i.set g.toNat s).length then
 bif decide ((((i.set g.toNat s).getD g.toNat AyS.zero).length:Int)>2000)then
 some (.inr (.inl (i.set g.toNat s)))
 else
 some (.inl (wI (g+1),i.set g.toNat s))
 else none
 else none
 else none
 else none
 else
 some (.inr (.inr i))
def IJ a b c (z_:Int×Ayp):=Mv a b c z_.1 z_.2
def R5 a b c g i:=fix (IJ a b c) (g,i)
theorem AlQ a b c:A8 E80 0 3 (code f69) 58 (AiP a b c) (IJ a b c) (Agn a b c):=by
 intro _;simp(disch:=refine id ?_;kernel_rfl) only[IJ,Mv,Ax1,OD,AO (AlP _ _ _ _ _ _ _ _) (K:=L5 E80 0 3)];kernel_rfl
def F6(a:Ayg)(b:Ax4):Ay0 Ayx:=
 if Ty.row AyS=true/\(0:Int)<=(b.1.length:Int)/\(b.1.length:Int)<=(b.1.length:Int)/\((24:Nat):Int)*(b.1.length:Int)<=(281474976710656:Int)/\(b.1.length:Int)<=(9223372036854775807:Int)then
 (R5 a b (b.1.length:Int) 0 (List.replicate (b.1.length:Int).toNat ([]:Ayi))).bind (Sum.elim (λd=>some (false,([]:Ayi))) (λe=>if 0<=(wI ((e.length:Int)-1))/\(wI ((e.length:Int)-1))<e.length then
 (Jz (e.getD (wI ((e.length:Int)-1)).toNat AyS.zero)).bind λt=>some (true,t)
 else none))
 else none
def c69:=Ff [.d AyT,.d AJ] [⟨[.Aw [] AyT,.Aw [] AJ],[],Ayx,λp=>F6 p.1.1 p.1.2.1,λr=>(.cons (.AA 0) (.cons (dB r.1) .nil),[CJ r.2])⟩]
theorem xT:Am prog 69 c69:=Ax (fn:=f69) ⟨⟨E80,pk ⟨yb,rL,trivial⟩,λ_ R K=>by
 simp(disch:=refine id ?_;kernel_rfl) only[F6,Ax2,R5,AO (AlQ _ _ _) (K:=A6 E80 f69 0 R K)];kernel_rfl⟩,trivial⟩
abbrev E81:=eN [(69,c69)] {Bv:=[(3,[0,6,16,17,18])],CM:=[(3,[4,5,6])],B5:=[(8,[0,6,7,9,11,16,17,18,42])],EO:=[(8,[0,6,7,9,10,11,12,16,17,18])],jo:=[(0,.row [] 72 (.AH AyS (.AH AyS .unit)) true)]}
def AiQ a b c (z_:Int×AyL):=sT 51 [(0,Aj a),(6,.AA 0),(16,Cu b),(17,dI c),(18,dI z_.1)] [HZ z_.2]
def Ago(a:Ayg)(b:Ayj)(c:Int):=Sum.elim (λ(d:AyL)=>xR 51 [(4,.zs),(5,dB false),(6,.AA 0)] [HZ d]) (λ(e:AyL)=>xE 0 51 [(6,.AA 0)] [HZ e])
def Aay a g (i:Ayx) (j:Ayx) b c k:=sT 51 [(0,Aj a),(6,.AA 0),(7,dI g),(9,.AA 1),(10,dB i.1),(11,.AA 2),(12,dB j.1),(16,Cu b),(17,dI c),(18,dI g)] [HZ k,CJ i.2,CJ j.2]
def qW(a:Ayg)(g:Int)(i j:Ayx)(b:Ayj)(c:Int)(k:AyL)(m0:Bool):Ex×St:=xN 51 [(0,Aj a),(6,.AA 0),(7,dI g),(9,.AA 1),(11,.AA 2),(16,Cu b),(17,dI c),(18,dI g),(42,dB m0)] [HZ k,CJ i.2,CJ j.2]
theorem AlR a g i j b c k:S1 E81 0 8 (cd f30 116) (pt 924) (Aay a g i j b c k)=some (qW a g i j b c k ((!i.1)||(!j.1))):=by
 refine .trans (b:=
 bif !i.1 then
 some (qW a g i j b c k true)
 else
 some (qW a g i j b c k (!j.1))) (by kernel_rfl) ?_
 cases (!i.1);rfl;rfl
def OE(a:Ayg)(b:Ayj)(c g:Int)(k:AyL):Ay0 ((Int×AyL)⊕(AyL⊕AyL)):=
 bif decide (g<c)then
 if 0<=g/\g<b.length then
 (F6 a (b.getD g.toNat Af.zero).2.2.1).bind λi=>(F6 a (b.getD g.toNat Af.zero).2.2.2.1).bind λj=>Np (Aay a g i j b c k) (
 bif (!i.1)||(!j.1)then
 some (.inr (.inl k))
 else
 if 0<=g/\g<k.length then
 some (.inl (wI (g+1),k.set g.toNat (i.2,j.2,())))
 else none)
 else none
 else
 some (.inr (.inr k))
def Ln a b c (z_:Int×AyL):=OE a b c z_.1 z_.2
def Uh a b c g k:=fix (Ln a b c) (g,k)
theorem AlS a b c:A8 E81 0 3 (code f30) 58 (AiQ a b c) (Ln a b c) (Ago a b c):=by
 intro _;simp(disch:=refine id ?_;kernel_rfl) only[Ln,OE,Ax1,EM (AlR ..) (K:=L5 E81 0 3)];kernel_rfl
def Px(a:Ayg)(b:Ayj):Ay0 (Bool×AyL):=
 if Ty.row (.AH AyS (.AH AyS .unit))=true/\(0:Int)<=(b.length:Int)/\(b.length:Int)<=(b.length:Int)/\((48:Nat):Int)*(b.length:Int)<=(281474976710656:Int)/\(b.length:Int)<=(9223372036854775807:Int)then
 (Uh a b (b.length:Int) 0 (List.replicate (b.length:Int).toNat (([]:Ayi),([]:Ayi),()))).bind (Sum.elim (λd=>some (false,([]:AyZ AyK))) (λe=>some (true,e)))
 else none
def c30:=Ff [.d AyT,.d AyW] [⟨[.Aw [] AyT,.Aw [] AyW],[],Bool×AyL,λp=>Px p.1.1 p.1.2.1,λr=>(.cons (.AA 0) (.cons (dB r.1) .nil),[HZ r.2])⟩]
theorem xx:Am prog 30 c30:=Ax (fn:=f30) ⟨⟨E81,pk ⟨xT,trivial⟩,λ_ R K=>by
 simp(disch:=refine id ?_;kernel_rfl) only[Px,Ax2,Uh,AO (AlS _ _ _) (K:=A6 E81 f30 0 R K)];kernel_rfl⟩,trivial⟩
abbrev E82:=eN [] {AdD:=[(39,4)],B5:=[(1,[0,1,2,32])],EO:=[(1,[0,1,2])],Sl:=[.mv 0 [3],.Be 3]}
def AiR(a:Int) b c d e g:=sT 54 [(0,.ptr 0 a [] 0),(1,dI b),(2,dI c)] [.box (.pr (Aj d) nK),BM e,.Be,DR g]
def Agp(a:Int) b c d e g:=λ(i:Bool)=>xN 54 [(0,.ptr 0 a [] 0),(1,dI b),(2,dI c),(32,dB i)] [.box (.pr (Aj d) nK),BM e,.Be,DR g]
def Fp(a b c:Int)(d:Ayg)(e:Ayn)(g:Ayf):Ay0 Bool:=
 bif decide (c>0)then
 if 0<=b/\b<d.length then
 bif decide (c<(d.getD b.toNat Ab.zero).2.1)then
 if 0<=b/\b<e.length then
 if 0<=c/\c<(e.getD b.toNat AyU.zero).length then
 some (!((e.getD b.toNat AyU.zero).getD c.toNat (Ty.zero .bool)))
 else none
 else none
 else
 some false
 else none
 else
 some false
theorem AlT a b c d e g:AX E82 4 1 (code f70) 2 (AiR a b c d e g) (Fp a b c d e g) (Agp a b c d e g):=by
 unfold AX;simp only[Fp,Ax1];kernel_rfl
def Bm(a b c:Int)(d:Ayg)(e:Ayn)(g:Ayf):Ay0 Ayu:=
 (Fp a b c d e g).bind λi=>bif i then
 if 0<=b/\b<e.length then
 if(0:Int)<=c/\c<(e.getD b.toNat AyU.zero).length then
 if(g.length+([(b,c,())]:Ayf).length)*16<=140737488355328 then
 some (d,e.set b.toNat ((e.getD b.toNat AyU.zero).set c.toNat true),g++([(b,c,())]:Ayf))
 else none
 else none
 else none
 else
 some (d,e,g)
def c70:=Aba [2] (Ff [.Sm,.d AyN,.d AyN] [⟨[.ptr 0 [] 0,.Aw [] AyN,.Aw [] AyN],[.box (.pr (.Aw [] AyT) (.pr (.k (.AA 1)) (.pr (.k (.mp 2)) (.pr (.k (.AA 3)) (.k .u))))),.row 86 .Ao AyU,.Be,.row 140 .Ao Aa],Ayu,λp=>Bm p.1.1 p.1.2.1 p.1.2.2.1 p.2.1.1 p.2.2.1 p.2.2.2.2.1,λr=>(.nil,[.box (.pr (Aj r.1) (.pr (.AA 1) (.pr (.mp 2) Ux))),BM r.2.1,.Be,.Be,DR r.2.2])⟩])
theorem cr:Am prog 70 c70:=ug _ (Ax (fn:=f70) ⟨⟨E82,pk trivial,λ_ R K=>by
 simp(disch:=refine id ?_;kernel_rfl) only[Bm,Ax2,A7 (AlT ..) (K:=A6 E82 f70 4 R K)];kernel_rfl⟩,trivial⟩)
abbrev E83:=eN [(70,c70)] {Bv:=[(3,{Bb:=[3,5,17,18,19],Cy:=[(5,true,.row [3] 140 Aa true)]}),(7,{Bb:=[3,5,6,17,18,19,37,38,39],Cy:=[(5,true,.row [3] 140 Aa true)]})],CM:=[(3,[5]),(7,[3,5,17,18,19])]}
def AiT a b c (z_:Int×Ayg×Ayn×Ayf):=sT 50 [(3,Aq),(5,Ay),(17,Aj a),(18,dI c),(19,dI z_.1)] [.box (Cc b),.box (.pr (Aj z_.2.1) nJ),BM z_.2.2.1,FG ([]:AyZ Ayq) none,DR z_.2.2.2]
def Agr(a:Ayg)(b:Ayb)(c:Int):=λ(d:Ayu)=>xE 0 50 [(5,Aq)] [.box (.pr (Aj d.1) nK),BM d.2.1,FG ([]:AyZ Ayq) none,DR d.2.2]
def AiS e a c b g i (z_:Int×Ayg×Ayn×Ayf):=sT 50 [(3,Aq),(5,Ay),(6,dI e),(17,Aj a),(18,dI c),(19,dI e),(37,HY g),(38,dI i),(39,dI z_.1)] [.box (Cc b),.box (.pr (Aj z_.2.1) nJ),BM z_.2.2.1,FG ([]:AyZ Ayq) none,DR z_.2.2.2]
def Agq e a c b (g:Ayd) (i:Int):=λ(j:Ayu)=>xE 2 50 [(3,Aq),(5,Ay),(17,Aj a),(18,dI c),(19,dI e)] [.box (Cc b),.box (.pr (Aj j.1) nJ),BM j.2.1,FG ([]:AyZ Ayq) none,DR j.2.2]
def GV(e:Int)(a:Ayg)(c:Int)(b:Ayb)(g:Ayd)(i k:Int)(l:Ayg)(n:Ayn)(o:Ayf):Ay0 (AyF⊕Ayu):=
 bif decide (k<i)then
 if 0<=k/\k<g.length then
 (Bm 0 e (g.getD k.toNat AyN.zero) l n o).bind λq=>some (.inl (wI (k+1),q.1,q.2.1,q.2.2))
 else none
 else
 some (.inr (l,n,o))
def C2 e a c b g i (z_:Int×Ayg×Ayn×Ayf):=GV e a c b g i z_.1 z_.2.1 z_.2.2.1 z_.2.2.2
def Mx e a c b g i k l n o:=fix (C2 e a c b g i) (k,l,n,o)
theorem AlU e a c b g i:A8 E83 0 7 (cd f31 116) 462 (AiS e a c b g i) (C2 e a c b g i) (Agq e a c b g i):=by
 intro _;simp only[C2,GV,Ax1];kernel_rfl
def GX(a:Ayg)(b:Ayb)(c e:Int)(s:Ayg)(t:Ayn)(u:Ayf):Ay0 (AyF⊕Ayu):=
 bif decide (e<c)then
 if 0<=e/\e<a.length then
 if Ty.row .bool=true/\(0:Int)<=(a.getD e.toNat Ab.zero).2.1/\(a.getD e.toNat Ab.zero).2.1<=(a.getD e.toNat Ab.zero).2.1/\((1:Nat):Int)*(a.getD e.toNat Ab.zero).2.1<=(281474976710656:Int)/\(a.getD e.toNat Ab.zero).2.1<=(9223372036854775807:Int)then
 if 0<=e/\e<t.length then
 if 0<=e/\e<b.1.length then
 (Mx e a c b (b.1.getD e.toNat AyR.zero) ((b.1.getD e.toNat AyR.zero).length:Int) 0 s (t.set e.toNat (List.replicate (a.getD e.toNat Ab.zero).2.1.toNat false)) u).bind λj=>some (.inl (wI (e+1),j.1,j.2.1,j.2.2))
 else none
 else none
 else none
 else none
 else
 some (.inr (s,t,u))
def C3 a b c (z_:Int×Ayg×Ayn×Ayf):=GX a b c z_.1 z_.2.1 z_.2.2.1 z_.2.2.2
def My a b c e s t u:=fix (C3 a b c) (e,s,t,u)
theorem AlV a b c:A8 E83 0 3 (code f31) 58 (AiT a b c) (C3 a b c) (Agr a b c):=by
 intro _;simp(disch:=refine id ?_;kernel_rfl) only[C3,GX,Ax1,Mx,AO (AlU _ _ _ _ _ _) (K:=L5 E83 0 3)];kernel_rfl
def JF(a:Ayg)(b:Ayb):Ay0 (Int×Ayg×Ayn×AyJ×Ayf):=
 if Ty.row AyU=true/\(0:Int)<=(a.length:Int)/\(a.length:Int)<=(a.length:Int)/\((24:Nat):Int)*(a.length:Int)<=(281474976710656:Int)/\(a.length:Int)<=(9223372036854775807:Int)then
 (My a b (a.length:Int) 0 a (List.replicate (a.length:Int).toNat ([]:Aye)) ([]:Ayf)).bind λd=>some (0,d.1,d.2.1,([]:AyZ Ayq),d.2.2)
 else none
def c31:=Ff [.d AyT,.d Ai] [⟨[.Aw [] AyT,.Aw [] Ai],[],Int×Ayg×Ayn×AyJ×Ayf,λp=>JF p.1.1 p.1.2.1,λr=>(.ptr 0 r.1 [] 0,[.box (.pr (Aj r.2.1) nK),BM r.2.2.1,FG r.2.2.2.1 none,DR r.2.2.2.2])⟩]
theorem xy:Am prog 31 c31:=Ax (fn:=f31) ⟨⟨E83,pk ⟨cr,trivial⟩,λ_ R K=>by
 simp(disch:=refine id ?_;kernel_rfl) only[JF,Ax2,My,AO (AlV _ _ _) (K:=A6 E83 f31 0 R K)];kernel_rfl⟩,trivial⟩
abbrev Aev:=eN [] {Ao:=false,take:=[25]}
def AmF:=yS [.Sm,.Sm] Aev f101
theorem rM:Am prog 101 AmF:=mz (pk trivial)
abbrev wX:=eN [(101,AmF)] {Ao:=false,Bv:=[(3,[0,3,9,10,11]),(11,{Bb:=[6,25,26,27],Cy:=[(6,false,.row [] 122 Ae false)]})],CM:=[(3,[0,3]),(11,[6])],B5:=[(8,[0,3,9,10,11])],EO:=[(8,[0,3,9,10,11])]}
def AiX a b (z_:Int×Ayi):=sT 36 [(6,.AA 0),(25,KJ a),(26,dI b),(27,dI z_.1)] [Cv z_.2]
def Agv(a:Ayp)(b:Int):=λ(c:Ayi)=>xE 2 36 [(6,.AA 0)] [Cv c]
def MF(a:Ayp)(b d:Int)(e:Ayi):Ay0 (Ayz⊕Ayi):=
 bif decide (d<b)then
 if 0<=d/\d<a.length then
 if(e.length+(a.getD d.toNat AyS.zero).length)*56<=140737488355328 then
 some (.inl (wI (d+1),e++(a.getD d.toNat AyS.zero)))
 else none
 else none
 else
 some (.inr e)
def HM a b (z_:Int×Ayi):=MF a b z_.1 z_.2
def Om a b d e:=fix (HM a b) (d,e)
theorem AlZ a b:A8 wX 0 11 (code f71) 250 (AiX a b) (HM a b) (Agv a b):=by
 intro _;simp only[HM,MF,Ax1];kernel_rfl
def AiW a g (z_:Int×Ayi):=sT 36 [(6,.AA 0),(25,KJ a),(26,dI g),(27,dI z_.1)] [Cv z_.2]
def Agu(a:Ayp)(g:Int):=λ(i:Ayi)=>xE 2 36 [(6,.AA 0)] [Cv i]
def ED(a:Ayp)(g j:Int)(k:Ayi):Ay0 (Ayz⊕Ayi):=
 bif decide (j<g)then
 if 0<=j/\j<a.length then
 if(k.length+(a.getD j.toNat AyS.zero).length)*56<=140737488355328 then
 some (.inl (wI (j+1),k++(a.getD j.toNat AyS.zero)))
 else none
 else none
 else
 some (.inr k)
def Cl a g (z_:Int×Ayi):=ED a g z_.1 z_.2
def JJ a g j k:=fix (Cl a g) (j,k)
theorem AlY a g:A8 wX 0 11 (code f71) 250 (AiW a g) (Cl a g) (Agu a g):=by
 intro _;simp only[Cl,ED,Ax1];kernel_rfl
def AiV a l (z_:Int×Int):=sT 36 [(0,KJ a),(3,dI z_.1),(9,KJ a),(10,dI l),(11,dI z_.2)] []
def Agt a (l:Int):=λ(n:Int)=>xE 0 36 [(0,KJ a),(3,dI n)] []
def AiU a o l q:=sT 36 [(0,KJ a),(3,dI o),(9,KJ a),(10,dI l),(11,dI q)] []
def Ags a (o:Int) l (q:Int):=λ(s:Unit)=>xN 36 [(0,KJ a),(3,dI (wI (o+((a.getD q.toNat AyS.zero).length:Int)))),(9,KJ a),(10,dI l),(11,dI q)] []
def Gb(a:Ayp)(o l q:Int):Ay0 Unit:=
 if 0<=q/\q<a.length then
 bif decide ((wI (o+((a.getD q.toNat AyS.zero).length:Int)))<0)then
 none
 else
 some ()
 else none
theorem AlW a o l q:AX wX 0 8 (cd f71 116) 14 (AiU a o l q) (Gb a o l q) (Ags a o l q):=by
 unfold AX;simp only[Gb,Ax1];kernel_rfl
def EC(a:Ayp)(l o q:Int):Ay0 (AyC⊕Int):=
 bif decide (q<l)then
 (Gb a o l q).bind λs=>some (.inl (wI (o+((a.getD q.toNat AyS.zero).length:Int)),wI (q+1)))
 else
 some (.inr o)
def Ck a l (z_:Int×Int):=EC a l z_.1 z_.2
def JI a l o q:=fix (Ck a l) (o,q)
theorem AlX a l:A8 wX 0 3 (code f71) 58 (AiV a l) (Ck a l) (Agt a l):=by
 intro _;simp(disch:=refine id ?_;kernel_rfl) only[Ck,EC,Ax1,A7 (AlW ..) (K:=L5 wX 0 3)];kernel_rfl
def Ga(a:Ayp):Ay0 Ayi:=
 (JI a (a.length:Int) 0 0).bind λn=>bif decide (n<0)then
 none
 else
 bif decide ((wI (n-0))>0)then
 if(0:Int)<=(wI (n-0))/\(wI (n-0))*((56:Nat):Int)<=(140737488355328:Int)then
 if(0:Int)<=(0:Int)/\(0:Int)<=((List.replicate (wI (n-0)).toNat (0,0,0,(0,([]:Ayd),()),())).length:Int)then
 (JJ a (a.length:Int) 0 ((List.replicate (wI (n-0)).toNat (0,0,0,(0,([]:Ayd),()),())).take 0)).bind λi=>some i
 else none
 else none
 else
 (Om a (a.length:Int) 0 ([]:Ayi)).bind λc=>some c
def c71:=Ff [.d AyX] [⟨[.Aw [] AyX],[],Ayi,λp=>Ga p.1.1,λr=>(.AA 0,[Cv r])⟩]
theorem xU:Am prog 71 c71:=Ax (fn:=f71) ⟨⟨wX,pk ⟨rM,trivial⟩,λ_ R K=>by
 simp(disch:=refine id ?_;kernel_rfl) only[Ga,Ax2,JI,AO (AlX _ _) (K:=A6 wX f71 0 R K),JJ,AO (AlY _ _) (K:=A6 wX f71 0 R K),Om,AO (AlZ _ _) (K:=A6 wX f71 0 R K)];kernel_rfl⟩,trivial⟩
abbrev E85:=eN [] {Bv:=[(3,{Bb:=[3,8,9,10],Cy:=[(3,false,.row [] 139 Ah true)]}),(7,[3,5,6,8,9,10])],CM:=[(3,[3]),(7,[3,8,9,10])],B5:=[(8,[3,5,6,8,9,10])],EO:=[(8,[3,5,6,8,9,10])]}
def Ai0 a b (z_:Int×Ayk):=sT 43 [(3,.AA 0),(8,FF a),(9,dI b),(10,dI z_.1)] [RP z_.2]
def Agy(a:Ayi)(b:Int):=λ(c:Ayk)=>xE 0 43 [(3,.AA 0)] [RP c]
def AiZ a b d e (z_:Int×Ayk):=sT 43 (wG z_.1 a b d) [RP z_.2,.box (Jr e)]
def Agx a b d (e:Ax8):=λ(g:Ayk)=>xE 2 43 [(3,.AA 0),(8,FF a),(9,dI b),(10,dI d)] [RP g]
def AiY i a b d j e:=sT 43 (wG i a b d) [RP j,.box (Jr e)]
def Agw i a b d (j:Ayk) e:=λ(k:Ayk)=>xN 43 (wG i a b d) [RP k,.box (Jr e)]
def H9(i:Int)(a:Ayi)(b d:Int)(j:Ayk)(e:Ax8):Ay0 Ayk:=
 bif e.1==(-1)then
 if(j.length+([(2,0,0,())]:Ayk).length)*24<=140737488355328 then
 some (j++([(2,0,0,())]:Ayk))
 else none
 else
 if(j.length+([(1,e.1,wI (e.2.1+i),())]:Ayk).length)*24<=140737488355328 then
 some (j++([(1,e.1,wI (e.2.1+i),())]:Ayk))
 else none
theorem Al0 i a b d j e:AX E85 0 8 (sb (cd f72 116) 924) 6 (AiY i a b d j e) (H9 i a b d j e) (Agw i a b d j e):=by
 unfold AX;simp only[H9,Ax1];kernel_rfl
def IK(a:Ayi)(b d:Int)(e:Ax8)(i:Int)(j:Ayk):Ay0 ((Int×Ayk)⊕Ayk):=
 bif decide (i<e.2.2.1)then
 (H9 i a b d j e).bind λk=>some (.inl (wI (i+1),k))
 else
 some (.inr j)
def D4 a b d e (z_:Int×Ayk):=IK a b d e z_.1 z_.2
def Lp a b d e i j:=fix (D4 a b d e) (i,j)
theorem Al1 a b d e:A8 E85 0 7 (cd f72 116) 462 (AiZ a b d e) (D4 a b d e) (Agx a b d e):=by
 intro _;simp(disch:=refine id ?_;kernel_rfl) only[D4,IK,Ax1,A7 (Al0 ..) (K:=L5 E85 0 7)];kernel_rfl
def IL(a:Ayi)(b d:Int)(l:Ayk):Ay0 ((Int×Ayk)⊕Ayk):=
 bif decide (d<b)then
 if 0<=d/\d<a.length then
 if(l.length+([(0,0,0,())]:Ayk).length)*24<=140737488355328 then
 (Lp a b d (a.getD d.toNat Ae.zero) 1 (l++([(0,0,0,())]:Ayk))).bind λg=>some (.inl (wI (d+1),g))
 else none
 else none
 else
 some (.inr l)
def D5 a b (z_:Int×Ayk):=IL a b z_.1 z_.2
def Lq a b d l:=fix (D5 a b) (d,l)
theorem Al2 a b:A8 E85 0 3 (code f72) 58 (Ai0 a b) (D5 a b) (Agy a b):=by
 intro _;simp(disch:=refine id ?_;kernel_rfl) only[D5,IL,Ax1,Lp,AO (Al1 _ _ _ _) (K:=L5 E85 0 3)];kernel_rfl
def HG(a:Ayi):Ay0 Ayk:=
 (Lq a (a.length:Int) 0 ([]:Ayk)).bind λc=>some c
def c72:=Ff [.d AyS] [⟨[.Aw [] AyS],[],Ayk,λp=>HG p.1.1,λr=>(.AA 0,[RP r])⟩]
theorem xV:Am prog 72 c72:=Ax (fn:=f72) ⟨⟨E85,pk trivial,λ_ R K=>by
 simp(disch:=refine id ?_;kernel_rfl) only[HG,Ax2,Lq,AO (Al2 _ _) (K:=A6 E85 f72 0 R K)];kernel_rfl⟩,trivial⟩
abbrev Wj:=eN [(70,c70),(71,c71),(72,c72)] {Ao:=false,Bv:=[(1,{Bb:=[0,1,2,18,19,20],mvp:=[(0,[3])]}),(9,{Bb:=[0,8,9,10],Ph:=[(8,false,.sl Ah),(9,false,.sl Ah)]})],CM:=[(1,[0,1,2]),(9,{Bb:=[]})],B5:=[(6,{Bb:=[0,1,2,18,19,20],mvp:=[(0,[3])]}),(10,[0,8,9,10]),(13,[0,8,9,10,11,12,61]),(15,[0,8,9,10,11,12,76]),(17,[0,8,9,10,11,12,91])],Vv:=[(11,{Bb:=[0,8,9,10,11,12],PO:=true}),(17,{Bb:=[0,8,9,10,13,14],PO:=true}),(18,{Bb:=[0,8,9,10,13,14],PO:=true}),(19,{Bb:=[0,8,9,10],PO:=true})],EO:=[(6,[0,1,2,18,19,20]),(10,[0,8,9,10]),(13,[0,8,9,10,11,12]),(15,[0,8,9,10,11,12]),(17,[0,8,9,10,11,12])],W5:=[(11,[0,8,9,10]),(17,[0,8,9,10,11,12]),(18,[0,8,9,10,13,14]),(19,[0,8,9,10,13,14])],sY:=[(17,AyX)]}
def Ab5(a:Int) b c d (z_:Int×Ayg×Ayn×AyJ×Ayf):=sT 132 (iZ a b c z_.1) (Zz z_.2.1 d z_.2.2.1 z_.2.2.2.1 z_.2.2.2.2)
def AbM(a:Int)(b c:Ayk) d:=λ(e:AyM)=>xE 2 132 [] (Zz e.1 d e.2.1 e.2.2.1 e.2.2.2)
def Ab4(a:Int) b c g i d j (k:AyJ) l:=sT 132 (iZ a b c g) (Zz i d j k l)
def AbL(a:Int) b c g (i:Ayg) d (j:Ayn) (k:AyJ) (l:Ayf):=λ(n:AyM)=>xN 132 (iZ a b c g) (Zz n.1 d n.2.1 n.2.2.1 n.2.2.2)
def AaF(a:Int) b c g i d j (o:AyJ) l q s t u:=sT 132 (nE a b c g) (nF i d j o q s t u l)
def rb(a:Int) b c g i d j (o:AyJ) l (q:Int) (s:Int) (t:Int) (u:Int):=λ(v:AyJ)=>sT 132 (iZ a b c g) (Zz i d j v l)
def C1(a:Int)(b c:Ayk)(g:Int)(i:Ayg)(d:AyL)(j:Ayn)(o:AyJ)(l:Ayf)(q s t u:Int):Ay0 AyJ:=
 if((Cx Aa AyQ o (t,u,())).length+([(q,s,())]:Ayf).length)*16<=140737488355328 then
 bif QV Aa AyQ (Dv Aa AyQ o (t,u,()) (Cx Aa AyQ o (t,u,()))) (t,u,()) (R6 Aa AyQ o (t,u,()))then
 bif Bq Aa (t,u,()) (t,u,())then
 some (Dv Aa AyQ (Dv Aa AyQ o (t,u,()) (Cx Aa AyQ o (t,u,()))) (t,u,()) ((Cx Aa AyQ o (t,u,()))++([(q,s,())]:Ayf)))
 else
 none
 else
 none
 else none
noncomputable def rk(a:Int)(b c:Ayk)(g:Int)(i:Ayg)(d:AyL)(j:Ayn)(o:AyJ)(l:Ayf)(q s t u:Int):Ay0 Unit:=if((Cx Aa AyQ o (t,u,())).length+([(q,s,())]:Ayf).length)*16<=140737488355328 then bif QV Aa AyQ (Dv Aa AyQ o (t,u,()) (Cx Aa AyQ o (t,u,()))) (t,u,()) (R6 Aa AyQ o (t,u,()))then bif Bq Aa (t,u,()) (t,u,())then GG (rb a b c g i d j o l q s t u (Dv Aa AyQ (Dv Aa AyQ o (t,u,()) (Cx Aa AyQ o (t,u,()))) (t,u,()) ((Cx Aa AyQ o (t,u,()))++([(q,s,())]:Ayf))))else none else none else none
theorem Amb(a:Int)(b c:Ayk)(g:Int)(i:Ayg)(d:AyL)(j:Ayn)(o:AyJ)(l:Ayf)(q s t u:Int):KM Wj 5 19 (sb (cd f32 60) 6) 2811 (AaF a b c g i d j o l q s t u) (C1 a b c g i d j o l q s t u) (rb a b c g i d j o l q s t u):=by
 unfold KM;have h:eL Wj 5 19 (sb (cd f32 60) 6) (pt 2811) (AaF a b c g i d j o l q s t u) =
 if((Cx Aa AyQ o (t,u,())).length+([(q,s,())]:Ayf).length)*16<=140737488355328 then bif QV Aa AyQ (Dv Aa AyQ o (t,u,()) (Cx Aa AyQ o (t,u,()))) (t,u,()) (R6 Aa AyQ o (t,u,()))then bif Bq Aa (t,u,()) (t,u,())then(((rk a b c g i d j o l q s t u).bind λ_=>rk a b c g i d j o l q s t u).bind λ_=>some (rb a b c g i d j o l q s t u (Dv Aa AyQ (Dv Aa AyQ o (t,u,()) (Cx Aa AyQ o (t,u,()))) (t,u,()) ((Cx Aa AyQ o (t,u,()))++([(q,s,())]:Ayf)))))else none else none else none:=by kernel_rfl
 rw[h];unfold C1;simp only[Ax1,mS,mO];clear h;by_cases DT:((Cx Aa AyQ o (t,u,())).length+([(q,s,())]:Ayf).length)*16<=140737488355328
 ·rw[Awr DT,Awr DT];cases G3:(QV Aa AyQ (Dv Aa AyQ o (t,u,()) (Cx Aa AyQ o (t,u,()))) (t,u,()) (R6 Aa AyQ o (t,u,())))with
  |true =>
   simp only[Awp];cases cO:(Bq Aa (t,u,()) (t,u,()))with
   |true =>
    simp only[Awp];simp only[rk,Awp,Awr DT,G3,cO,AwS,Av9,GG,CX]
   |false =>
    simp only[Awo]
    all_goals first |rfl |simp
  |false =>
   simp only[Awo]
   all_goals first |rfl |simp
 ·simp only[AwS,Aws DT]
def AaE(a:Int) b c g i d j (k:AyJ) l w x y a1:=sT 132 (nE a b c g) (nF i d j k w x y a1 l)
def q9(a:Int) b c g i d j (k:AyJ) l w x y a1:=λ(o:AyJ)=>sT 132 (nE a b c g) (nF i d j o w x y a1 l)
def CZ(a:Int)(b c:Ayk)(g:Int)(i:Ayg)(d:AyL)(j:Ayn)(k:AyJ)(l:Ayf)(w x y a1:Int):Ay0 AyJ:=
 if((Cx Aa AyQ k (w,x,())).length+([(y,a1,())]:Ayf).length)*16<=140737488355328 then
 bif QV Aa AyQ (Dv Aa AyQ k (w,x,()) (Cx Aa AyQ k (w,x,()))) (w,x,()) (R6 Aa AyQ k (w,x,()))then
 bif Bq Aa (w,x,()) (w,x,())then
 some (Dv Aa AyQ (Dv Aa AyQ k (w,x,()) (Cx Aa AyQ k (w,x,()))) (w,x,()) ((Cx Aa AyQ k (w,x,()))++([(y,a1,())]:Ayf)))
 else
 none
 else
 none
 else none
noncomputable def rj(a:Int)(b c:Ayk)(g:Int)(i:Ayg)(d:AyL)(j:Ayn)(k:AyJ)(l:Ayf)(w x y a1:Int):Ay0 Unit:=if((Cx Aa AyQ k (w,x,())).length+([(y,a1,())]:Ayf).length)*16<=140737488355328 then bif QV Aa AyQ (Dv Aa AyQ k (w,x,()) (Cx Aa AyQ k (w,x,()))) (w,x,()) (R6 Aa AyQ k (w,x,()))then bif Bq Aa (w,x,()) (w,x,())then GG (q9 a b c g i d j k l w x y a1 (Dv Aa AyQ (Dv Aa AyQ k (w,x,()) (Cx Aa AyQ k (w,x,()))) (w,x,()) ((Cx Aa AyQ k (w,x,()))++([(y,a1,())]:Ayf))))else none else none else none
theorem Ama(a:Int)(b c:Ayk)(g:Int)(i:Ayg)(d:AyL)(j:Ayn)(k:AyJ)(l:Ayf)(w x y a1:Int):KM Wj 5 18 (sb (cd f32 60) 6) 2810 (AaE a b c g i d j k l w x y a1) (CZ a b c g i d j k l w x y a1) (q9 a b c g i d j k l w x y a1):=by
 unfold KM;have h:eL Wj 5 18 (sb (cd f32 60) 6) (pt 2810) (AaE a b c g i d j k l w x y a1) =
 if((Cx Aa AyQ k (w,x,())).length+([(y,a1,())]:Ayf).length)*16<=140737488355328 then bif QV Aa AyQ (Dv Aa AyQ k (w,x,()) (Cx Aa AyQ k (w,x,()))) (w,x,()) (R6 Aa AyQ k (w,x,()))then bif Bq Aa (w,x,()) (w,x,())then(((rj a b c g i d j k l w x y a1).bind λ_=>rj a b c g i d j k l w x y a1).bind λ_=>some (q9 a b c g i d j k l w x y a1 (Dv Aa AyQ (Dv Aa AyQ k (w,x,()) (Cx Aa AyQ k (w,x,()))) (w,x,()) ((Cx Aa AyQ k (w,x,()))++([(y,a1,())]:Ayf)))))else none else none else none:=by kernel_rfl
 rw[h];unfold CZ;simp only[Ax1,mS,mO];clear h;by_cases DT:((Cx Aa AyQ k (w,x,())).length+([(y,a1,())]:Ayf).length)*16<=140737488355328
 ·rw[Awr DT,Awr DT];cases G3:(QV Aa AyQ (Dv Aa AyQ k (w,x,()) (Cx Aa AyQ k (w,x,()))) (w,x,()) (R6 Aa AyQ k (w,x,())))with
  |true =>
   simp only[Awp];cases cO:(Bq Aa (w,x,()) (w,x,()))with
   |true =>
    simp only[Awp];simp only[rj,Awp,Awr DT,G3,cO,AwS,Av9,GG,CX]
   |false =>
    simp only[Awo]
    all_goals first |rfl |simp
  |false =>
   simp only[Awo]
   all_goals first |rfl |simp
 ·simp only[AwS,Aws DT]
def AaD(a:Int) b c g i d j (k:AyJ) l b1 c1:=sT 132 (ja a b c g) [.box (.pr (Aj i) eH),HZ d,BM j,FG k none,.Be,.box (K2 b1),.box (K2 c1),DR l]
def ly(a:Int) b c g i d j (k:AyJ) l (b1:Aya) (c1:Aya):=λ(d1:(Int×Int×Int×Int))=>sT 132 (nE a b c g) (nF i d j k d1.1 d1.2.1 d1.2.2.1 d1.2.2.2 l)
def KS(a:Int)(b c:Ayk)(g:Int)(i:Ayg)(d:AyL)(j:Ayn)(k:AyJ)(l:Ayf)(b1 c1:Aya):Ay0 (Int×Int×Int×Int):=
 some (b1.2.1,b1.2.2.1,c1.2.1,c1.2.2.1)
theorem Al9(a:Int)(b c:Ayk)(g:Int)(i:Ayg)(d:AyL)(j:Ayn)(k:AyJ)(l:Ayf)(b1 c1:Aya):KM Wj 5 17 (sb (cd f32 60) 6) 1404 (AaD a b c g i d j k l b1 c1) (KS a b c g i d j k l b1 c1) (ly a b c g i d j k l b1 c1):=by
 unfold KM;have h:eL Wj 5 17 (sb (cd f32 60) 6) (pt 1404) (AaD a b c g i d j k l b1 c1) =
 (((GG (ly a b c g i d j k l b1 c1 (b1.2.1,b1.2.2.1,c1.2.1,c1.2.2.1))).bind λ_=>GG (ly a b c g i d j k l b1 c1 (b1.2.1,b1.2.2.1,c1.2.1,c1.2.2.1))).bind λ_=>some (ly a b c g i d j k l b1 c1 (b1.2.1,b1.2.2.1,c1.2.1,c1.2.2.1))):=by kernel_rfl
 rw[h];unfold KS;simp only[Ax1,mS,mO];clear h;simp only[AwS,Av9,GG,CX]
def AaC(a:Int) b c g i d j (k:AyJ) l:=sT 132 (ja a b c g) [.box (.pr (Aj i) eH),HZ d,BM j,FG k none,.Be,.box (K2 (b.getD g.toNat Ah.zero)),.box (K2 (c.getD g.toNat Ah.zero)),DR l]
def q0(a:Int)(b c:Ayk)(g:Int)(i:Ayg)(d:AyL)(j:Ayn)(k:AyJ)(l:Ayf)(m0:Bool):Ex×St:=xN 132 [(0,.ptr 0 a [] 0),(8,OS b),(9,OS c),(10,dI g),(11,QI),(12,ZB),(91,dB m0)] [.box (.pr (Aj i) eH),HZ d,BM j,FG k none,.Be,.box (K2 (b.getD g.toNat Ah.zero)),.box (K2 (c.getD g.toNat Ah.zero)),DR l]
theorem Al8 a b c g i d j k l:S1 Wj 5 17 (sb (cd f32 60) 6) (pt 350) (AaC a b c g i d j k l)=some (q0 a b c g i d j k l (((b.getD g.toNat Ah.zero).1==1)&&((c.getD g.toNat Ah.zero).1==1))):=by
 refine .trans (b:=
 bif (b.getD g.toNat Ah.zero).1==1 then
 some (q0 a b c g i d j k l ((c.getD g.toNat Ah.zero).1==1))
 else
 some (q0 a b c g i d j k l false)) (by kernel_rfl) ?_
 cases ((b.getD g.toNat Ah.zero).1==1);rfl;rfl
def AaB(a:Int) b c g i d j (k:AyJ) l:=sT 132 (ja a b c g) [.box (.pr (Aj i) eH),HZ d,BM j,FG k none,.Be,.box (K2 (b.getD g.toNat Ah.zero)),.box (K2 (c.getD g.toNat Ah.zero)),DR l]
def qZ(a:Int)(b c:Ayk)(g:Int)(i:Ayg)(d:AyL)(j:Ayn)(k:AyJ)(l:Ayf)(m0:Bool):Ex×St:=xN 132 [(0,.ptr 0 a [] 0),(8,OS b),(9,OS c),(10,dI g),(11,QI),(12,ZB),(76,dB m0)] [.box (.pr (Aj i) eH),HZ d,BM j,FG k none,.Be,.box (K2 (b.getD g.toNat Ah.zero)),.box (K2 (c.getD g.toNat Ah.zero)),DR l]
theorem Al7 a b c g i d j k l:S1 Wj 5 15 (sb (cd f32 60) 6) (pt 86) (AaB a b c g i d j k l)=some (qZ a b c g i d j k l (((b.getD g.toNat Ah.zero).1==1)&&((c.getD g.toNat Ah.zero).1==0))):=by
 refine .trans (b:=
 bif (b.getD g.toNat Ah.zero).1==1 then
 some (qZ a b c g i d j k l ((c.getD g.toNat Ah.zero).1==0))
 else
 some (qZ a b c g i d j k l false)) (by kernel_rfl) ?_
 cases ((b.getD g.toNat Ah.zero).1==1);rfl;rfl
def AaA(a:Int) b c g i d j (k:AyJ) l:=sT 132 (ja a b c g) [.box (.pr (Aj i) eH),HZ d,BM j,FG k none,.Be,.box (K2 (b.getD g.toNat Ah.zero)),.box (K2 (c.getD g.toNat Ah.zero)),DR l]
def qY(a:Int)(b c:Ayk)(g:Int)(i:Ayg)(d:AyL)(j:Ayn)(k:AyJ)(l:Ayf)(m0:Bool):Ex×St:=xN 132 [(0,.ptr 0 a [] 0),(8,OS b),(9,OS c),(10,dI g),(11,QI),(12,ZB),(61,dB m0)] [.box (.pr (Aj i) eH),HZ d,BM j,FG k none,.Be,.box (K2 (b.getD g.toNat Ah.zero)),.box (K2 (c.getD g.toNat Ah.zero)),DR l]
theorem Al6 a b c g i d j k l:S1 Wj 5 13 (sb (cd f32 60) 6) (pt 20) (AaA a b c g i d j k l)=some (qY a b c g i d j k l (((b.getD g.toNat Ah.zero).1==0)&&((c.getD g.toNat Ah.zero).1==1))):=by
 refine .trans (b:=
 bif (b.getD g.toNat Ah.zero).1==0 then
 some (qY a b c g i d j k l ((c.getD g.toNat Ah.zero).1==1))
 else
 some (qY a b c g i d j k l false)) (by kernel_rfl) ?_
 cases ((b.getD g.toNat Ah.zero).1==0);rfl;rfl
def Aaz(a:Int) b c g i d j (k:AyJ) l:=sT 132 (iZ a b c g) (Zz i d j k l)
def qX(a:Int) b c g i d j (k:AyJ) l:=λ(e1:Unit)=>sT 132 (ja a b c g) [.box (.pr (Aj i) eH),HZ d,BM j,FG k none,.Be,.box (K2 (b.getD g.toNat Ah.zero)),.box (K2 (c.getD g.toNat Ah.zero)),DR l]
def GR(a:Int)(b c:Ayk)(g:Int)(i:Ayg)(d:AyL)(j:Ayn)(k:AyJ)(l:Ayf):Ay0 Unit:=
 if 0<=g/\g<b.length then
 if 0<=g/\g<c.length then
 some ()
 else none
 else none
noncomputable def Iz(a:Int)(b c:Ayk)(g:Int)(i:Ayg)(d:AyL)(j:Ayn)(k:AyJ)(l:Ayf):Ay0 Unit:=GG (qX a b c g i d j k l ())
def Qf(w:Ay0 Unit):Ay0 Unit:=cc w w
theorem Al5(a:Int)(b c:Ayk)(g:Int)(i:Ayg)(d:AyL)(j:Ayn)(k:AyJ)(l:Ayf):KM Wj 5 11 (sb (cd f32 60) 6) 4 (Aaz a b c g i d j k l) (GR a b c g i d j k l) (qX a b c g i d j k l):=by
 unfold KM;have h:eL Wj 5 11 (sb (cd f32 60) 6) (pt 4) (Aaz a b c g i d j k l) =
 if 0<=g/\g<b.length then if 0<=g/\g<c.length then((if 0<=g/\g<b.length then if 0<=g/\g<c.length then((Qf (Iz a b c g i d j k l)).bind λ_=>((Iz a b c g i d j k l).bind λ_=>(Iz a b c g i d j k l).bind λ_=>(Iz a b c g i d j k l)).bind λ_=>(Iz a b c g i d j k l).bind λ_=>(Iz a b c g i d j k l).bind λ_=>(Iz a b c g i d j k l)).bind λ_=>((Qf (Iz a b c g i d j k l)).bind λ_=>(Qf (Iz a b c g i d j k l)).bind λ_=>(Iz a b c g i d j k l).bind λ_=>(Iz a b c g i d j k l)).bind λ_=>(((Iz a b c g i d j k l).bind λ_=>(Iz a b c g i d j k l).bind λ_=>(Iz a b c g i d j k l)).bind λ_=>(Qf (Iz a b c g i d j k l)).bind λ_=>(Qf (Iz a b c g i d j k l)).bind λ_=>(Iz a b c g i d j k l)).bind λ_=>((Iz a b c g i d j k l).bind λ_=>(Iz a b c g i d j k l).bind λ_=>(Iz a b c g i d j k l)).bind λ_=>(Qf (Iz a b c g i d j k l)).bind λ_=>(Qf (Iz a b c g i d j k l)).bind λ_=>(Iz a b c g i d j k l)else none else none).bind λ_=>some (qX a b c g i d j k l ()))else none else none:=by kernel_rfl
 rw[h];unfold GR;simp only[Ax1,mS,mO];clear h;by_cases DT:(0:Int)<=g/\g<(b.length:Int)
 ·rw[Awr DT,Awr DT];by_cases G3:(0:Int)<=g/\g<(c.length:Int)
  ·rw[Awr G3,Awr G3];simp only[Qf,cc,Iz,Awp,Awr DT,Awr G3,AwS,Av9,GG,CX]
  ·simp only[Awr DT,AwS,Aws G3]
 ·simp only[AwS,Aws DT]
def DD(a:Int)(b c:Ayk)(g:Int)(i:Ayg)(d:AyL)(j:Ayn)(k:AyJ)(l:Ayf):Ay0 AyM:=
 (GR a b c g i d j k l).bind λe1=>Np (AaA a b c g i d j k l) (
 bif ((b.getD g.toNat Ah.zero).1==0)&&((c.getD g.toNat Ah.zero).1==1)then
 (Bm a (c.getD g.toNat Ah.zero).2.1 (c.getD g.toNat Ah.zero).2.2.1 i j l).bind λg1=>some (g1.1,g1.2.1,k,g1.2.2)
 else
 Np (AaB a b c g i d j k l) (
 bif ((b.getD g.toNat Ah.zero).1==1)&&((c.getD g.toNat Ah.zero).1==0)then
 (Bm a (b.getD g.toNat Ah.zero).2.1 (b.getD g.toNat Ah.zero).2.2.1 i j l).bind λi1=>some (i1.1,i1.2.1,k,i1.2.2)
 else
 Np (AaC a b c g i d j k l) (
 bif ((b.getD g.toNat Ah.zero).1==1)&&((c.getD g.toNat Ah.zero).1==1)then
 (KS a b c g i d j k l (b.getD g.toNat Ah.zero) (c.getD g.toNat Ah.zero)).bind λd1=>(CZ a b c g i d j k l d1.1 d1.2.1 d1.2.2.1 d1.2.2.2).bind λo=>(C1 a b c g i d j o l d1.1 d1.2.1 d1.2.2.1 d1.2.2.2).bind λv=>some (i,j,v,l)
 else
 some (i,j,k,l))))
theorem Acp a b c g i d j k l:AX Wj 5 10 (cd f32 60) 6 (Ab4 a b c g i d j k l) (DD a b c g i d j k l) (AbL a b c g i d j k l):=by
 unfold AX;simp(disch:=refine id ?_;kernel_rfl) only[DD,Ax1,OT (Al5 ..) (K:=OZ Wj 5 10),EM (Al6 ..) (K:=OZ Wj 5 10),EM (Al7 ..) (K:=OZ Wj 5 10),EM (Al8 ..) (K:=OZ Wj 5 10),OT (Al9 ..) (K:=OZ Wj 5 10),OT (Ama ..) (K:=OZ Wj 5 10),OT (Amb ..) (K:=OZ Wj 5 10)];kernel_rfl
def EA(a:Int)(b c:Ayk)(d:AyL)(g:Int)(i:Ayg)(j:Ayn)(k:AyJ)(l:Ayf):Ay0 ((Int×Ayg×Ayn×AyJ×Ayf)⊕AyM):=
 bif decide (g<(b.length:Int))then
 (DD a b c g i d j k l).bind λn=>some (.inl (wI (g+1),n.1,n.2.1,n.2.2.1,n.2.2.2))
 else
 some (.inr (i,j,k,l))
def Cj a b c d (z_:Int×Ayg×Ayn×AyJ×Ayf):=EA a b c d z_.1 z_.2.1 z_.2.2.1 z_.2.2.2.1 z_.2.2.2.2
def JD a b c d g i j k l:=fix (Cj a b c d) (g,i,j,k,l)
theorem Acr a b c d:A8 Wj 5 9 (code f32) 30 (Ab5 a b c d) (Cj a b c d) (AbM a b c d):=by
 intro _;simp(disch:=refine id ?_;kernel_rfl) only[Cj,EA,Ax1,A7 (Acp ..) (K:=L5 Wj 5 9)];kernel_rfl
def Ai2(a:Int) j1 k1 d (l1:AyJ) n1 o1 (z_:Int×Ayg×Ayn×Ayf):=sT 132 (wH a j1 k1 o1 z_.1) (wJ z_.2.1 d z_.2.2.1 l1 n1 z_.2.2.2)
def AgA(a:Int) j1 k1 d (l1:AyJ) (n1:Ayi) (o1:Int):=λ(q1:Ayu)=>xE 0 132 [(0,.ptr 0 a [] 0),(1,.Aw [1] AyS j1),(2,.Aw [1] AyS k1)] (Zz q1.1 d q1.2.1 l1 q1.2.2)
def Ai1(a:Int) j1 k1 o1 s1 t1 d u1 (l1:AyJ) n1 v1:=sT 132 (wH a j1 k1 o1 s1) (wJ t1 d u1 l1 n1 v1)
def Agz(a:Int) j1 k1 o1 s1 (t1:Ayg) d (u1:Ayn) (l1:AyJ) n1 (v1:Ayf):=λ(w1:Ayu)=>xN 132 (wH a j1 k1 o1 s1) (wJ w1.1 d w1.2.1 l1 n1 w1.2.2)
def Et(a:Int)(j1 k1:Ayi)(o1 s1:Int)(t1:Ayg)(d:AyL)(u1:Ayn)(l1:AyJ)(n1:Ayi)(v1:Ayf):Ay0 Ayu:=
 if 0<=s1/\s1<n1.length then
 bif decide ((n1.getD s1.toNat Ae.zero).1>=0)then
 (Bm a (n1.getD s1.toNat Ae.zero).1 (n1.getD s1.toNat Ae.zero).2.1 t1 u1 v1).bind λx1=>(Bm a (n1.getD s1.toNat Ae.zero).1 (wI ((n1.getD s1.toNat Ae.zero).2.1+(n1.getD s1.toNat Ae.zero).2.2.1)) x1.1 x1.2.1 x1.2.2).bind λy1=>some (y1.1,y1.2.1,y1.2.2)
 else
 some (t1,u1,v1)
 else none
theorem Al3 a j1 k1 o1 s1 t1 d u1 l1 n1 v1:AX Wj 5 6 (cd f32 20) 14 (Ai1 a j1 k1 o1 s1 t1 d u1 l1 n1 v1) (Et a j1 k1 o1 s1 t1 d u1 l1 n1 v1) (Agz a j1 k1 o1 s1 t1 d u1 l1 n1 v1):=by
 unfold AX;simp only[Et,Ax1];kernel_rfl
def FN(a:Int)(j1 k1:Ayi)(d:AyL)(l1:AyJ)(n1:Ayi)(o1 s1:Int)(t1:Ayg)(u1:Ayn)(v1:Ayf):Ay0 (AyF⊕Ayu):=
 bif decide (s1<o1)then
 (Et a j1 k1 o1 s1 t1 d u1 l1 n1 v1).bind λw1=>some (.inl (wI (s1+1),w1.1,w1.2.1,w1.2.2))
 else
 some (.inr (t1,u1,v1))
def Cr a j1 k1 d l1 n1 o1 (z_:Int×Ayg×Ayn×Ayf):=FN a j1 k1 d l1 n1 o1 z_.1 z_.2.1 z_.2.2.1 z_.2.2.2
def KR a j1 k1 d l1 n1 o1 s1 t1 u1 v1:=fix (Cr a j1 k1 d l1 n1 o1) (s1,t1,u1,v1)
theorem Al4 a j1 k1 d l1 n1 o1:A8 Wj 5 1 (code f32) 10 (Ai2 a j1 k1 d l1 n1 o1) (Cr a j1 k1 d l1 n1 o1) (AgA a j1 k1 d l1 n1 o1):=by
 intro _;simp(disch:=refine id ?_;kernel_rfl) only[Cr,FN,Ax1,A7 (Al3 ..) (K:=L5 Wj 5 1)];kernel_rfl
def G6(a:Int)(j1 k1:Ayi)(a2:Ayg)(d:AyL)(b2:Ayn)(l1:AyJ)(c2:Ayf):Ay0 (Ayg×AyL×Ayn×AyJ×Ayf):=
 (Ga ([j1,k1]:Ayp)).bind λn1=>(KR a j1 k1 d l1 n1 (n1.length:Int) 0 a2 b2 c2).bind λq1=>(HG j1).bind λb=>(HG k1).bind λc=>(JD a b c d 1 q1.1 q1.2.1 l1 q1.2.2).bind λe=>some (e.1,d,e.2.1,e.2.2.1,e.2.2.2)
def c32:=Ff [.Sm,.Sm,.Sm] [⟨[.ptr 0 [] 0,.Aw [1] AyS,.Aw [1] AyS],[.box (.pr (.Aw [] AyT) (.pr (.k (.AA 2)) (.pr (.k (.mp 3)) (.pr (.k (.AA 4)) (.k .u))))),.row 72 .Ao (.AH AyS (.AH AyS .unit)),.row 86 .Ao AyU,.map .Ao Aa AyQ,.row 140 .Ao Aa],Ayg×AyL×Ayn×AyJ×Ayf,λp=>G6 p.1.1 p.1.2.1 p.1.2.2.1 p.2.1.1 p.2.2.1 p.2.2.2.1 p.2.2.2.2.1 p.2.2.2.2.2.1,λr=>(.nil,[.box (.pr (Aj r.1) Aoz),HZ r.2.1,BM r.2.2.1,FG r.2.2.2.1 none,.Be,DR r.2.2.2.2])⟩]
theorem xA:Am prog 32 c32:=Ax (fn:=f32) ⟨⟨Wj,pk ⟨cr,xU,xV,trivial⟩,λ_ R K=>by
 simp(disch:=refine id ?_;kernel_rfl) only[G6,Ax2,KR,AO (Al4 _ _ _ _ _ _ _) (K:=A6 Wj f32 5 R K),JD,AO (Acr _ _ _ _) (K:=A6 Wj f32 5 R K)];kernel_rfl⟩,trivial⟩
abbrev lg:=eN [(70,c70)] {take:=[37],Bv:=[(1,{Bb:=[0,2],mvp:=[(0,[3])]}),(6,[0,2,45,46,47]),(12,[2,7,68,69,70]),(15,[2,7,8,68,69,70,75,76,77])],CM:=[(1,[0,2]),(6,[0,2]),(12,[2,7]),(15,[2,7,68,69,70])],B5:=[(19,[2,7,8,68,69,70,75,76,77])],Vv:=[(18,{Bb:=[2,7,8,68,69,70,75,76,77],PO:=true})],EO:=[(19,[2,7,8,68,69,70,75,76,77])],W5:=[(18,[2,7,8,10,68,69,70,75,76,77])],stl:=[90]}
def Ai7(a:AyJ) b c d e (z_:Int×Aym):=sT 98 [(2,QJ),(7,QI),(68,.AA 1),(69,dI b),(70,dI z_.1)] (ZA c d a e z_.2)
def AgF(a:AyJ)(b:Int) c d e:=λ(g:Aym)=>xE 4 98 [(2,QJ),(7,QI)] (ZA c d a e g)
def Ai6 i b c d (a:AyJ) e j k (z_:Int×Aym):=sT 98 (nG i b i j k z_.1) (ZA c d a e z_.2)
def AgE i b c d (a:AyJ) e (j:Aye) (k:Int):=λ(l:Aym)=>xE 6 98 [(2,QJ),(7,QI),(68,.AA 1),(69,dI b),(70,dI i)] (ZA c d a e l)
def Ai5 i b j k n c d (a:AyJ) e o:=sT 98 (nG i b i j k n) (ZA c d a e o)
def AgD i b j k n c d (a:AyJ) e (o:Aym):=λ(q:Aym)=>xN 98 (nG i b i j k n) (ZA c d a e q)
def AaG i n b j k c d (a:AyJ) e o:=sT 98 [(2,QJ),(7,QI),(8,dI i),(10,dI n),(68,.AA 1),(69,dI b),(70,dI i),(75,.Aw [1] AyU j),(76,dI k),(77,dI n)] (ZA c d a e o)
def lz i n b j k c d (a:AyJ) e (o:Aym):=λ(s:Unit)=>sT 98 (nG i b i j k n) [.box (.pr (Aj c) AoA),BM d,FG a none,.Be,.box Iv,.box Abj,DR e,J1 (o.set i.toNat ((o.getD i.toNat AyR.zero)++([n]:Ayd)))]
def F5(i n b:Int)(j:Aye)(k:Int)(c:Ayg)(d:Ayn)(a:AyJ)(e:Ayf)(o:Aym):Ay0 Unit:=
 if 0<=i/\i<o.length then
 if((o.getD i.toNat AyR.zero).length+([n]:Ayd).length)*8<=140737488355328 then
 if 0<=i/\i<o.length then
 if i=i then
 some ()
 else none
 else none
 else none
 else none
theorem Ame(i n b:Int)(j:Aye)(k:Int)(c:Ayg)(d:Ayn)(a:AyJ)(e:Ayf)(o:Aym):KM lg 4 18 (sb (sb (cd f33 244) 460) 14) 22 (AaG i n b j k c d a e o) (F5 i n b j k c d a e o) (lz i n b j k c d a e o):=by
 unfold KM;have h:eL lg 4 18 (sb (sb (cd f33 244) 460) 14) (pt 22) (AaG i n b j k c d a e o) =
 if 0<=i/\i<o.length then
 if((o.getD i.toNat AyR.zero).length+([n]:Ayd).length)*8<=140737488355328 then
 if 0<=i/\i<o.length then
 if i=i then
 ((if 0<=i/\i<o.length then
 (if((o.getD i.toNat AyR.zero).length+([n]:Ayd).length)*8<=140737488355328 then
 if 0<=i/\i<o.length then
 if i=i then
 GG (lz i n b j k c d a e o ())
 else none
 else none
 else none).bind λ_=>if((o.getD i.toNat AyR.zero).length+([n]:Ayd).length)*8<=140737488355328 then
 if 0<=i/\i<o.length then
 if i=i then
 GG (lz i n b j k c d a e o ())
 else none
 else none
 else none
 else none).bind λ_=>some (lz i n b j k c d a e o ()))
 else none
 else none
 else none
 else none:=by kernel_rfl
 rw[h];unfold F5;simp only[Ax1,mS,mO];clear h;by_cases DT:(0:Int)<=i/\i<(o.length:Int)
 ·rw[Awr DT,Awr DT];by_cases G3:((o.getD i.toNat AyR.zero).length+([n]:Ayd).length)*8<=140737488355328
  ·rw[Awr G3,Awr G3];simp only[Awr DT,Awr G3,AwS,Av9,GG,CX]
  ·simp only[Awr DT,AwS,Aws G3]
 ·simp only[AwS,Aws DT]
def DC(i b:Int)(j:Aye)(k n:Int)(c:Ayg)(d:Ayn)(a:AyJ)(e:Ayf)(o:Aym):Ay0 Aym:=
 if 0<=n/\n<j.length then
 bif j.getD n.toNat (Ty.zero .bool)then
 (F5 i n b j k c d a e o).bind λs=>some (o.set i.toNat ((o.getD i.toNat AyR.zero)++([n]:Ayd)))
 else
 some o
 else none
theorem Amf i b j k n c d a e o:AX lg 4 19 (sb (cd f33 244) 460) 14 (Ai5 i b j k n c d a e o) (DC i b j k n c d a e o) (AgD i b j k n c d a e o):=by
 unfold AX;simp(disch:=refine id ?_;kernel_rfl) only[DC,Ax1,OT (Ame ..) (K:=OZ lg 4 19)];kernel_rfl
def Ey(i b:Int)(c:Ayg)(d:Ayn)(a:AyJ)(e:Ayf)(j:Aye)(k n:Int)(o:Aym):Ay0 ((Int×Aym)⊕Aym):=
 bif decide (n<k)then
 (DC i b j k n c d a e o).bind λq=>some (.inl (wI (n+1),q))
 else
 some (.inr o)
def Ch i b c d a e j k (z_:Int×Aym):=Ey i b c d a e j k z_.1 z_.2
def JB i b c d a e j k n o:=fix (Ch i b c d a e j k) (n,o)
theorem Amg i b c d a e j k:A8 lg 4 15 (cd f33 244) 230 (Ai6 i b c d a e j k) (Ch i b c d a e j k) (AgE i b c d a e j k):=by
 intro _;simp(disch:=refine id ?_;kernel_rfl) only[Ch,Ey,Ax1,A7 (Amf ..) (K:=L5 lg 4 15)];kernel_rfl
def Ez(a:AyJ)(b:Int)(c:Ayg)(d:Ayn)(e:Ayf)(i:Int)(t:Aym):Ay0 ((Int×Aym)⊕Aym):=
 bif decide (i<b)then
 if 0<=i/\i<d.length then
 (JB i b c d a e (d.getD i.toNat AyU.zero) ((d.getD i.toNat AyU.zero).length:Int) 0 t).bind λl=>some (.inl (wI (i+1),l))
 else none
 else
 some (.inr t)
def Ci a b c d e (z_:Int×Aym):=Ez a b c d e z_.1 z_.2
def JC a b c d e i t:=fix (Ci a b c d e) (i,t)
theorem Amh a b c d e:A8 lg 4 12 (code f33) 122 (Ai7 a b c d e) (Ci a b c d e) (AgF a b c d e):=by
 intro _;simp(disch:=refine id ?_;kernel_rfl) only[Ci,Ez,Ax1,JB,AO (Amg _ _ _ _ _ _ _ _) (K:=L5 lg 4 12)];kernel_rfl
def Ai4(u:Int)(a:AyJ)(z_:Ayg×Ayn×Ayf):=sT 98 [(0,.ptr 0 u [] 0),(2,QJ)] (nH z_.1 z_.2.1 a z_.2.2)
def AgC(u:Int)(a:AyJ):=λ(v:Ayu)=>xE 0 98 [(0,.ptr 0 u [] 0),(2,QJ)] (nH v.1 v.2.1 a v.2.2)
def Ai3(u:Int)(a:AyJ) w x (z_:Int×Ayg×Ayn×Ayf):=sT 98 [(0,.ptr 0 u [] 0),(2,QJ),(45,.Aw [2] AyQ w),(46,dI x),(47,dI z_.1)] (nH z_.2.1 z_.2.2.1 a z_.2.2.2)
def AgB(u:Int)(a:AyJ)(w:Ayf)(x:Int):=λ(y:Ayu)=>xE 2 98 [(0,.ptr 0 u [] 0),(2,QJ)] (nH y.1 y.2.1 a y.2.2)
def Ev(u:Int)(a:AyJ)(w:Ayf)(x a1:Int)(b1:Ayg)(c1:Ayn)(d1:Ayf):Ay0 (AyF⊕Ayu):=
 bif decide (a1<x)then
 if 0<=a1/\a1<w.length then
 (Bm u (w.getD a1.toNat Aa.zero).1 (w.getD a1.toNat Aa.zero).2.1 b1 c1 d1).bind λe1=>some (.inl (wI (a1+1),e1.1,e1.2.1,e1.2.2))
 else none
 else
 some (.inr (b1,c1,d1))
def Cg u a w x (z_:Int×Ayg×Ayn×Ayf):=Ev u a w x z_.1 z_.2.1 z_.2.2.1 z_.2.2.2
def F4 u a w x a1 b1 c1 d1:=fix (Cg u a w x) (a1,b1,c1,d1)
theorem Amc u a w x:A8 lg 4 6 (cd f33 24) 222 (Ai3 u a w x) (Cg u a w x) (AgB u a w x):=by
 intro _;simp only[Cg,Ev,Ax1];kernel_rfl
def HE(u:Int)(a:AyJ)(g1:Ayg)(i1:Ayn)(j1:Ayf):Ay0 (Ayu⊕Ayu):=
 bif decide ((j1.length:Int)>0)then
 if 0<=(wI ((j1.length:Int)-1))/\(wI ((j1.length:Int)-1))<j1.length then
 if(0:Int)<=(wI ((j1.length:Int)-1))/\(wI ((j1.length:Int)-1))<=(j1.length:Int)then
 (F4 u a (Cx Aa AyQ a (j1.getD (wI ((j1.length:Int)-1)).toNat Aa.zero)) ((Cx Aa AyQ a (j1.getD (wI ((j1.length:Int)-1)).toNat Aa.zero)).length:Int) 0 g1 i1 (j1.take (wI ((j1.length:Int)-1)).toNat)).bind λy=>some (.inl (y.1,y.2.1,y.2.2))
 else none
 else none
 else
 some (.inr (g1,i1,j1))
def Ew u a (z_:Ayg×Ayn×Ayf):=HE u a z_.1 z_.2.1 z_.2.2
def JA u a g1 i1 j1:=fix (Ew u a) (g1,i1,j1)
theorem Amd u a:A8 lg 4 1 (code f33) 12 (Ai4 u a) (Ew u a) (AgC u a):=by
 intro _;simp(disch:=refine id ?_;kernel_rfl) only[Ew,HE,Ax1,F4,AO (Amc _ _ _ _) (K:=L5 lg 4 1)];kernel_rfl
def IH(u:Int)(k1:Ayg)(l1:Ayn)(a:AyJ)(n1:Ayf):Ay0 (Ayg×Ayn×AyJ×Aym×Ayf):=
 (JA u a k1 l1 n1).bind λv=>if Ty.row AyR=true/\(0:Int)<=(v.1.length:Int)/\(v.1.length:Int)<=(v.1.length:Int)/\((24:Nat):Int)*(v.1.length:Int)<=(281474976710656:Int)/\(v.1.length:Int)<=(9223372036854775807:Int)then
 (JC a (v.2.1.length:Int) v.1 v.2.1 v.2.2 0 (List.replicate (v.1.length:Int).toNat ([]:Ayd))).bind λg=>some (v.1,v.2.1,a,g,v.2.2)
 else none
def c33:=Ff [.Sm] [⟨[.ptr 0 [] 0],[.box (.pr (.Aw [] AyT) (.pr (.k (.AA 1)) (.pr (.k (.mp 2)) (.pr (.k (.AA 3)) (.k .u))))),.row 86 .Ao AyU,.map .Ao Aa AyQ,.row 140 .Ao Aa],Ayg×Ayn×AyJ×Aym×Ayf,λp=>IH p.1.1 p.2.1.1 p.2.2.1 p.2.2.2.1 p.2.2.2.2.1,λr=>(.pr (.AA 4) .u,[.box (.pr (Aj r.1) AoB),BM r.2.1,FG r.2.2.1 none,.Be,J1 r.2.2.2.1,DR r.2.2.2.2])⟩]
theorem xB:Am prog 33 c33:=Ax (fn:=f33) ⟨⟨lg,pk ⟨cr,trivial⟩,λ_ R K=>by
 simp(disch:=refine id ?_;kernel_rfl) only[IH,Ax2,JA,AO (Amd _ _) (K:=A6 lg f33 4 R K),JC,AO (Amh _ _ _ _ _) (K:=A6 lg f33 4 R K)];kernel_rfl⟩,trivial⟩
end
end Go.Proofs.X
namespace Go.Proofs.X
open Go Go.Va Go.Proofs.Tryz
set_option maxRecDepth 100000
noncomputable section
abbrev E88:=eN [(11,c11),(29,c29),(30,c30),(31,c31),(32,c32),(33,c33)] {Bv:=[(8,[6,10,36,37,38])],CM:=[(8,[6,10])],B5:=[(2,[0,1,5,6,22])],EO:=[(2,[0,1,5,6])],jo:=[(0,.row [0] 33 AyR true)]}
def Ai9(a:Int) b (z_:Int×Ayg×AyL×Ayn×AyJ×Ayf):=sT 51 [(6,Aq),(10,.ptr 1 a [] 0),(36,.AA 2),(37,dI b),(38,dI z_.1)] [.box Iv,.box (.pr (Aj z_.2.1) (.pr (.AA 3) (.pr (.mp 4) (.pr (.AA 5) .u)))),HZ z_.2.2.1,BM z_.2.2.2.1,FG z_.2.2.2.2.1 none,DR z_.2.2.2.2.2]
def AgH(a b:Int):=λ(c:AyM)=>xE 0 51 [(6,Aq),(10,.ptr 1 a [] 0)] [.box Iv,.box (.pr (Aj c.1) nJ),BM c.2.1,FG c.2.2.1 none,DR c.2.2.2]
def GM(a b d:Int)(e:Ayg)(g:AyL)(i:Ayn)(j:AyJ)(k:Ayf):Ay0 ((Int×Ayg×AyL×Ayn×AyJ×Ayf)⊕AyM):=
 bif decide (d<b)then
 if 0<=d/\d<g.length then
 (G6 a (g.getD d.toNat (Ty.zero (.AH AyS (.AH AyS .unit)))).1 (g.getD d.toNat (Ty.zero (.AH AyS (.AH AyS .unit)))).2.1 e g i j k).bind λl=>some (.inl (wI (d+1),l.1,l.2.1,l.2.2.1,l.2.2.2.1,l.2.2.2.2))
 else none
 else
 some (.inr (e,i,j,k))
def CY a b (z_:Int×Ayg×AyL×Ayn×AyJ×Ayf):=GM a b z_.1 z_.2.1 z_.2.2.1 z_.2.2.2.1 z_.2.2.2.2.1 z_.2.2.2.2.2
def IE a b d e g i j k:=fix (CY a b) (d,e,g,i,j,k)
theorem Amj a b:A8 E88 0 8 (code f8) 506 (Ai9 a b) (CY a b) (AgH a b):=by
 intro _;simp only[CY,GM,Ax1];kernel_rfl
def Ai8 n o q:=sT 51 [(0,Aj n),(1,Cu o),(5,Aq),(6,Ay)] [.box (Cc q),.box Iv]
def AgG n o q:=λ(s:Bool)=>xN 51 [(0,Aj n),(1,Cu o),(5,Aq),(6,Ay),(22,dB s)] [.box (Cc q),.box Iv]
def ID(n:Ayg)(o:Ayj)(q:Ayb):Ay0 Bool:=
 (Hu n q).bind λt=>bif !t then
 some true
 else
 (H8 n o).bind λu=>some (!u)
theorem Ami n o q:AX E88 0 2 (code f8) 12 (Ai8 n o q) (ID n o q) (AgG n o q):=by
 unfold AX;simp only[ID,Ax1];kernel_rfl
def Dz(n:Ayg)(o:Ayj)(q:Ayb):Ay0 (Bool×Aym):=
 (ID n o q).bind λs=>bif s then
 some (false,([]:Aym))
 else
 (Px n o).bind λv=>bif !v.1 then
 some (false,([]:Aym))
 else
 (JF n q).bind λw=>(IE w.1 (v.2.length:Int) 0 w.2.1 v.2 w.2.2.1 w.2.2.2.1 w.2.2.2.2).bind λc=>(IH w.1 c.1 c.2.1 c.2.2.1 c.2.2.2).bind λx=>some (true,x.2.2.2.1)
def c8:=Ff [.d AyT,.d AyW,.d Ai] [⟨[.Aw [] AyT,.Aw [] AyW,.Aw [] Ai],[],Bool×Aym,λp=>Dz p.1.1 p.1.2.1 p.1.2.2.1,λr=>(.cons T9 (.cons (dB r.1) .nil),[J1 r.2])⟩]
theorem AcH:Am prog 8 c8:=Ax (fn:=f8) ⟨⟨E88,pk ⟨XG,xw,xx,xy,xA,xB,trivial⟩,λ_ R K=>by
 simp(disch:=refine id ?_;kernel_rfl) only[Dz,Ax2,A7 (Ami ..) (K:=A6 E88 f8 0 R K),IE,AO (Amj _ _) (K:=A6 E88 f8 0 R K)];kernel_rfl⟩,trivial⟩
abbrev E89:=eN [] {Bv:=[(2,[0,1,5])],CM:=[(2,[4])]}
def Aja a b (z_:Int):=sT 18 [(0,HY a),(1,dI b),(5,dI z_)] []
def AgI(a:Ayd)(b:Int):=Sum.elim (λ(c:Unit)=>xR 18 [(4,dB true)] []) (λ(d:Unit)=>xE 0 18 [] [])
def QD(a:Ayd)(b e:Int):Ay0 (Int⊕(Unit⊕Unit)):=
 bif decide (e<(a.length:Int))then
 if 0<=e/\e<a.length then
 bif (a.getD e.toNat AyN.zero)==b then
 some (.inr (.inl ()))
 else
 some (.inl (wI (e+1)))
 else none
 else
 some (.inr (.inr ()))
def NZ a b (z_:Int):=QD a b z_
def Qm a b e:=fix (NZ a b) e
theorem Amk a b:A8 E89 0 2 (code f9) 26 (Aja a b) (NZ a b) (AgI a b):=by
 intro _;simp only[NZ,QD,Ax1];kernel_rfl
def Q7(a:Ayd)(b:Int):Ay0 Bool:=
 (Qm a b 0).bind (Sum.elim (λc=>some true) (λd=>some false))
def c9:=Ff [.d AyR,.d AyN] [⟨[.Aw [] AyR,.Aw [] AyN],[],Bool,λp=>Q7 p.1.1 p.1.2.1,λr=>(dB r,[])⟩]
theorem AcI:Am prog 9 c9:=Ax (fn:=f9) ⟨⟨E89,pk trivial,λ_ R K=>by
 simp(disch:=refine id ?_;kernel_rfl) only[Q7,Ax2,Qm,AO (Amk _ _) (K:=A6 E89 f9 0 R K)];kernel_rfl⟩,trivial⟩
abbrev Aeu:=eN [] {take:=[25]}
def c73:=yS [.Sm,.Sm] Aeu f73
theorem xW:Am prog 73 c73:=mz (pk trivial)
abbrev wY:=eN [(73,c73)] {Bv:=[(3,[0,3,9,10,11]),(11,{Bb:=[6,25,26,27],Cy:=[(6,false,.row [] 2 AyN true)]})],CM:=[(3,[0,3]),(11,[6])],B5:=[(8,[0,3,9,10,11])],EO:=[(8,[0,3,9,10,11])]}
def Aje a b (z_:Int×Ayd):=sT 36 [(6,.AA 0),(25,Jq a),(26,dI b),(27,dI z_.1)] [B4 z_.2]
def AgM(a:Aym)(b:Int):=λ(c:Ayd)=>xE 2 36 [(6,.AA 0)] [B4 c]
def GA(a:Aym)(b d:Int)(e:Ayd):Ay0 (Ayv⊕Ayd):=
 bif decide (d<b)then
 if 0<=d/\d<a.length then
 if(e.length+(a.getD d.toNat AyR.zero).length)*8<=140737488355328 then
 some (.inl (wI (d+1),e++(a.getD d.toNat AyR.zero)))
 else none
 else none
 else
 some (.inr e)
def GC a b (z_:Int×Ayd):=GA a b z_.1 z_.2
def EH a b d e:=fix (GC a b) (d,e)
theorem Amo a b:A8 wY 0 11 (code f35) 250 (Aje a b) (GC a b) (AgM a b):=by
 intro _;simp only[GC,GA,Ax1];kernel_rfl
def Ajd a g (z_:Int×Ayd):=sT 36 [(6,.AA 0),(25,Jq a),(26,dI g),(27,dI z_.1)] [B4 z_.2]
def AgL(a:Aym)(g:Int):=λ(i:Ayd)=>xE 2 36 [(6,.AA 0)] [B4 i]
def Gy(a:Aym)(g j:Int)(k:Ayd):Ay0 (Ayv⊕Ayd):=
 bif decide (j<g)then
 if 0<=j/\j<a.length then
 if(k.length+(a.getD j.toNat AyR.zero).length)*8<=140737488355328 then
 some (.inl (wI (j+1),k++(a.getD j.toNat AyR.zero)))
 else none
 else none
 else
 some (.inr k)
def Gz a g (z_:Int×Ayd):=Gy a g z_.1 z_.2
def EG a g j k:=fix (Gz a g) (j,k)
theorem Amn a g:A8 wY 0 11 (code f35) 250 (Ajd a g) (Gz a g) (AgL a g):=by
 intro _;simp only[Gz,Gy,Ax1];kernel_rfl
def Ajc a l (z_:Int×Int):=sT 36 [(0,Jq a),(3,dI z_.1),(9,Jq a),(10,dI l),(11,dI z_.2)] []
def AgK a (l:Int):=λ(n:Int)=>xE 0 36 [(0,Jq a),(3,dI n)] []
def Ajb a o l q:=sT 36 [(0,Jq a),(3,dI o),(9,Jq a),(10,dI l),(11,dI q)] []
def AgJ a (o:Int) l (q:Int):=λ(s:Unit)=>xN 36 [(0,Jq a),(3,dI (wI (o+((a.getD q.toNat AyR.zero).length:Int)))),(9,Jq a),(10,dI l),(11,dI q)] []
def EE(a:Aym)(o l q:Int):Ay0 Unit:=
 if 0<=q/\q<a.length then
 bif decide ((wI (o+((a.getD q.toNat AyR.zero).length:Int)))<0)then
 none
 else
 some ()
 else none
theorem Aml a o l q:AX wY 0 8 (cd f35 116) 14 (Ajb a o l q) (EE a o l q) (AgJ a o l q):=by
 unfold AX;simp only[EE,Ax1];kernel_rfl
def Dw(a:Aym)(l o q:Int):Ay0 (AyC⊕Int):=
 bif decide (q<l)then
 (EE a o l q).bind λs=>some (.inl (wI (o+((a.getD q.toNat AyR.zero).length:Int)),wI (q+1)))
 else
 some (.inr o)
def BU a l (z_:Int×Int):=Dw a l z_.1 z_.2
def EF a l o q:=fix (BU a l) (o,q)
theorem Amm a l:A8 wY 0 3 (code f35) 58 (Ajc a l) (BU a l) (AgK a l):=by
 intro _;simp(disch:=refine id ?_;kernel_rfl) only[BU,Dw,Ax1,A7 (Aml ..) (K:=L5 wY 0 3)];kernel_rfl
def C4(a:Aym):Ay0 Ayd:=
 (EF a (a.length:Int) 0 0).bind λn=>bif decide (n<0)then
 none
 else
 bif decide ((wI (n-0))>0)then
 if(0:Int)<=(wI (n-0))/\(wI (n-0))*((8:Nat):Int)<=(140737488355328:Int)then
 if(0:Int)<=(0:Int)/\(0:Int)<=((List.replicate (wI (n-0)).toNat 0).length:Int)then
 (EG a (a.length:Int) 0 ((List.replicate (wI (n-0)).toNat 0).take 0)).bind λi=>some i
 else none
 else none
 else
 (EH a (a.length:Int) 0 ([]:Ayd)).bind λc=>some c
def c35:=Ff [.d (.sl AyR)] [⟨[.Aw [] (.sl AyR)],[],Ayd,λp=>C4 p.1.1,λr=>(.AA 0,[B4 r])⟩]
theorem xC:Am prog 35 c35:=Ax (fn:=f35) ⟨⟨wY,pk ⟨xW,trivial⟩,λ_ R K=>by
 simp(disch:=refine id ?_;kernel_rfl) only[C4,Ax2,EF,AO (Amm _ _) (K:=A6 wY f35 0 R K),EG,AO (Amn _ _) (K:=A6 wY f35 0 R K),EH,AO (Amo _ _) (K:=A6 wY f35 0 R K)];kernel_rfl⟩,trivial⟩
def c36:Va.Callee:=iA
theorem xD:Am prog 36 c36:=vH (fn:=f36) lay53 rfl (by kernel_rfl) (by kernel_rfl) (by kernel_rfl)
def c37:Va.Callee:=iR
theorem xF:Am prog 37 c37:=v7 (fn:=f37) lay43 rfl (by kernel_rfl) (by kernel_rfl) (by kernel_rfl)
abbrev zQ:=eN [(11,c11),(34,c34),(35,c35),(36,c36),(37,c37)] {Ao:=false,Bv:=[(5,[4,5,6,8,27,28])],CM:=[(5,[6,8])],B5:=[(2,[0,4,5,6,20])],Vv:=[(9,{Bb:=[4,5,6,8,27,28],PO:=true})],EO:=[(2,[0,4,5,6])],W5:=[(9,[4,5,6,8,9,10,27,28])],sY:=[(41,.sl AyR)],jo:=[(0,.row [0] 33 AyR false)]}
def Ajg a b c (z_:Int×Aym):=sT 53 [(4,Aq),(5,Ay),(6,BQ),(8,M8),(27,dI c),(28,dI z_.1)] [.box (Cc a),.box (Cc b),.box Iv,.box Ux,Wb z_.2]
def AgO(a b:Ayb)(c:Int):=λ(d:Aym)=>xE 0 53 [(6,Aq),(8,Ay)] [.box Iv,.box eI,Wb d]
def AaH e c a b g i:=sT 53 [(4,Aq),(5,Ay),(6,BQ),(8,M8),(9,dI e),(10,.AA 4),(27,dI c),(28,dI e)] [.box (Cc a),.box (Cc b),.box Iv,.box (.pr (.AA 5) .u),B4 i,Wb g]
def re e c a b (g:Aym) (i:Ayd):=λ(j:Aym)=>sT 53 [(4,Aq),(5,Ay),(6,BQ),(8,M8),(27,dI c),(28,dI e)] [.box (Cc a),.box (Cc b),.box Iv,.box Ux,Wb j]
def Li(e c:Int)(a b:Ayb)(g:Aym)(i:Ayd):Ay0 Aym:=
 if 0<=e/\e<g.length then
 some (g.set e.toNat (P3 i))
 else none
theorem Amq(e c:Int)(a b:Ayb)(g:Aym)(i:Ayd):KM zQ 0 9 (cd f10 244) 231 (AaH e c a b g i) (Li e c a b g i) (re e c a b g i):=by
 unfold KM;have h:eL zQ 0 9 (cd f10 244) (pt 231) (AaH e c a b g i) =
 if 0<=e/\e<g.length then
 ((if 0<=e/\e<g.length then
 GG (re e c a b g i (g.set e.toNat (P3 i)))
 else none).bind λ_=>some (re e c a b g i (g.set e.toNat (P3 i))))
 else none:=by kernel_rfl
 rw[h];unfold Li;simp only[Ax1,mS,mO];clear h;by_cases DT:(0:Int)<=e/\e<(g.length:Int)
 ·rw[Awr DT,Awr DT];simp only[Awr DT,AwS,Av9,GG,CX]
 ·simp only[AwS,Aws DT]
def IC(a b:Ayb)(c e:Int)(g:Aym):Ay0 ((Int×Aym)⊕Aym):=
 bif decide (e<c)then
 if 0<=e/\e<a.1.length then
 if 0<=e/\e<b.1.length then
 (C4 ([a.1.getD e.toNat AyR.zero,b.1.getD e.toNat AyR.zero]:Aym)).bind λk=>if k.length<4611686018427387904 then
 (Li e c a b g (Ur k)).bind λj=>some (.inl (wI (e+1),j))
 else none
 else none
 else none
 else
 some (.inr g)
def DX a b c (z_:Int×Aym):=IC a b c z_.1 z_.2
def Lj a b c e g:=fix (DX a b c) (e,g)
theorem Amr a b c:A8 zQ 0 5 (code f10) 122 (Ajg a b c) (DX a b c) (AgO a b c):=by
 intro _;simp(disch:=refine id ?_;kernel_rfl) only[DX,IC,Ax1,OT (Amq ..) (K:=L5 zQ 0 5)];kernel_rfl
def Ajf l a b:=sT 53 [(0,Aj l),(4,Aq),(5,Ay),(6,BQ)] [.box (Cc a),.box (Cc b),.box Iv]
def AgN l a b:=λ(n:Bool)=>xN 53 [(0,Aj l),(4,Aq),(5,Ay),(6,BQ),(20,dB n)] [.box (Cc a),.box (Cc b),.box Iv]
def Lh(l:Ayg)(a b:Ayb):Ay0 Bool:=
 (Hu l a).bind λo=>bif !o then
 some true
 else
 (L1 l b).bind λq=>some (!q)
theorem Amp l a b:AX zQ 0 2 (code f10) 12 (Ajf l a b) (Lh l a b) (AgN l a b):=by
 unfold AX;simp only[Lh,Ax1];kernel_rfl
def Mr(l:Ayg)(a b:Ayb):Ay0 (Bool×Aym):=
 (Lh l a b).bind λn=>bif n then
 some (false,([]:Aym))
 else
 if Ty.row AyR=true/\(0:Int)<=(l.length:Int)/\(l.length:Int)<=(l.length:Int)/\((24:Nat):Int)*(l.length:Int)<=(281474976710656:Int)/\(l.length:Int)<=(9223372036854775807:Int)then
 (Lj a b (l.length:Int) 0 (List.replicate (l.length:Int).toNat ([]:Ayd))).bind λd=>some (true,d)
 else none
def c10:=Ff [.d AyT,.d Ai,.d Ai] [⟨[.Aw [] AyT,.Aw [] Ai,.Aw [] Ai],[],Bool×Aym,λp=>Mr p.1.1 p.1.2.1 p.1.2.2.1,λr=>(.cons T9 (.cons (dB r.1) .nil),[Wb r.2])⟩]
theorem xg:Am prog 10 c10:=Ax (fn:=f10) ⟨⟨zQ,pk ⟨XG,lL,xC,xD,xF,trivial⟩,λ_ R K=>by
 simp(disch:=refine id ?_;kernel_rfl) only[Mr,Ax2,A7 (Amp ..) (K:=A6 zQ f10 0 R K),Lj,AO (Amr _ _ _) (K:=A6 zQ f10 0 R K)];kernel_rfl⟩,trivial⟩
abbrev E92:=eN [] {Bv:=[(4,[0,1,5])],CM:=[(4,[4])]}
def Ajh a b (z_:Int):=sT 26 [(0,HY a),(1,HY b),(5,dI z_)] []
def AgP(a b:Ayd):=Sum.elim (λ(c:Unit)=>xR 26 [(4,dB false)] []) (λ(d:Unit)=>xE 0 26 [] [])
def HL(a b:Ayd)(e:Int):Ay0 (Int⊕(Unit⊕Unit)):=
 bif decide (e<(a.length:Int))then
 if 0<=e/\e<a.length then
 if 0<=e/\e<b.length then
 bif (a.getD e.toNat AyN.zero) !=(b.getD e.toNat AyN.zero)then
 some (.inr (.inl ()))
 else
 some (.inl (wI (e+1)))
 else none
 else none
 else
 some (.inr (.inr ()))
def Dm a b (z_:Int):=HL a b z_
def Q9 a b e:=fix (Dm a b) e
theorem Ams a b:A8 E92 0 4 (code f39) 58 (Ajh a b) (Dm a b) (AgP a b):=by
 intro _;simp only[Dm,HL,Ax1];kernel_rfl
def Le(a b:Ayd):Ay0 Bool:=
 bif (a.length:Int) !=(b.length:Int)then
 some false
 else
 (Q9 a b 0).bind (Sum.elim (λc=>some false) (λd=>some true))
def c39:=Ff [.d AyR,.d AyR] [⟨[.Aw [] AyR,.Aw [] AyR],[],Bool,λp=>Le p.1.1 p.1.2.1,λr=>(dB r,[])⟩]
theorem xH:Am prog 39 c39:=Ax (fn:=f39) ⟨⟨E92,pk trivial,λ_ R K=>by
 simp(disch:=refine id ?_;kernel_rfl) only[Le,Ax2,Q9,AO (Ams _ _) (K:=A6 E92 f39 0 R K)];kernel_rfl⟩,trivial⟩
abbrev E93:=eN [(39,c39)] {Bv:=[(4,[2,3,5])],CM:=[(4,[4])]}
def Aji a b (z_:Int):=sT 32 [(2,Aq),(3,Ay),(5,dI z_)] [.box (Cc a),.box (Cc b)]
def AgQ(a b:Ayb):=Sum.elim (λ(c:Unit)=>xR 32 [(4,dB false)] []) (λ(d:Unit)=>xE 0 32 [] [])
def HK(a b:Ayb)(e:Int):Ay0 (Int⊕(Unit⊕Unit)):=
 bif decide (e<(a.1.length:Int))then
 if 0<=e/\e<a.1.length then
 if 0<=e/\e<b.1.length then
 (Le (a.1.getD e.toNat AyR.zero) (b.1.getD e.toNat AyR.zero)).bind λg=>bif !g then
 some (.inr (.inl ()))
 else
 some (.inl (wI (e+1)))
 else none
 else none
 else
 some (.inr (.inr ()))
def Dl a b (z_:Int):=HK a b z_
def Q8 a b e:=fix (Dl a b) e
theorem Amt a b:A8 E93 0 4 (code f12) 58 (Aji a b) (Dl a b) (AgQ a b):=by
 intro _;simp only[Dl,HK,Ax1];kernel_rfl
def Im(a b:Ayb):Ay0 Bool:=
 bif (a.1.length:Int) !=(b.1.length:Int)then
 some false
 else
 (Q8 a b 0).bind (Sum.elim (λc=>some false) (λd=>some true))
def c12:=Ff [.d Ai,.d Ai] [⟨[.Aw [] Ai,.Aw [] Ai],[],Bool,λp=>Im p.1.1 p.1.2.1,λr=>(dB r,[])⟩]
theorem xh:Am prog 12 c12:=Ax (fn:=f12) ⟨⟨E93,pk ⟨xH,trivial⟩,λ_ R K=>by
 simp(disch:=refine id ?_;kernel_rfl) only[Im,Ax2,Q8,AO (Amt _ _) (K:=A6 E93 f12 0 R K)];kernel_rfl⟩,trivial⟩
abbrev E94:=eN [(11,c11)] {Bv:=[(5,[5,15,16,17])],CM:=[(5,[5])]}
def Ajj a b (z_:Int×Int):=sT 27 [(5,dI z_.1),(15,Jq a),(16,dI b),(17,dI z_.2)] []
def AgR(a:Aym)(b:Int):=λ(c:Int)=>xE 0 27 [(5,dI c)] []
def Ll(a:Aym)(b d e:Int):Ay0 (AyC⊕Int):=
 bif decide (e<b)then
 if 0<=e/\e<a.length then
 some (.inl (wI (d+((a.getD e.toNat AyR.zero).length:Int)),wI (e+1)))
 else none
 else
 some (.inr d)
def FY a b (z_:Int×Int):=Ll a b z_.1 z_.2
def La a b d e:=fix (FY a b) (d,e)
theorem Amu a b:A8 E94 0 5 (code f13) 122 (Ajj a b) (FY a b) (AgR a b):=by
 intro _;simp only[FY,Ll,Ax1];kernel_rfl
def Nw(g:Ayg)(i:Ayb):Ay0 Int:=
 (Hu g i).bind λj=>bif !j then
 some (-1)
 else
 (La i.1 (i.1.length:Int) (g.length:Int) 0).bind λc=>some c
def c13:=Ff [.d AyT,.d Ai] [⟨[.Aw [] AyT,.Aw [] Ai],[],Int,λp=>Nw p.1.1 p.1.2.1,λr=>(dI r,[])⟩]
theorem xj:Am prog 13 c13:=Ax (fn:=f13) ⟨⟨E94,pk ⟨XG,trivial⟩,λ_ R K=>by
 simp(disch:=refine id ?_;kernel_rfl) only[Nw,Ax2,La,AO (Amu _ _) (K:=A6 E94 f13 0 R K)];kernel_rfl⟩,trivial⟩
abbrev lh:=eN [(5,c5),(6,c6),(7,c7),(8,c8),(9,c9),(10,c10),(11,c11),(12,c12),(13,c13)] {Bv:=[(11,[3,4,5,8,10]),(14,[3,4,5,8,10,11]),(23,[3,4,5,8,16])],CM:=[(11,[2,3,4,5,8]),(14,[2,3,4,5,8,10]),(23,[2])],B5:=[(21,[3,4,5,8,116]),(25,[3,4,5,8,16]),(28,[3,4,5,8,16,154])],EO:=[(21,[3,4,5,8,12,13,14,15]),(25,[3,4,5,8,16]),(28,[3,4,5,8,16,18,19])]}
def Ajp a b c d (z_:Int):=sT 155 (nI a b z_) (Sd c d)
def AgX(a:Ayg)(b:Ayj)(c:Ayb)(d:Aym):=Sum.elim (λ(e:Unit)=>xR 155 [(2,dB false)] []) (λ(g:Unit)=>xE 4 155 [] [])
def Ajo a b i c d j k:=sT 155 [(3,Aj a),(4,Cu b),(5,Aq),(8,Ay),(16,dI i),(18,BQ),(19,dB j)] [.box (Cc c),.box Wc,.box Ux,J1 d,J1 k]
def AgW a b i c d (j:Bool) (k:Aym):=λ(l:Bool)=>xN 155 [(3,Aj a),(4,Cu b),(5,Aq),(8,Ay),(16,dI i),(154,dB l)] (Sd c d)
def Ko(a:Ayg)(b:Ayj)(i:Int)(c:Ayb)(d:Aym)(j:Bool)(k:Aym):Ay0 Bool:=
 bif !j then
 some true
 else
 (Nw a (k,())).bind λn=>(Nw a (d,())).bind λo=>some (decide (n>o))
theorem Amz a b i c d j k:AX lh 0 28 (cd f3 65524) 102 (Ajo a b i c d j k) (Ko a b i c d j k) (AgW a b i c d j k):=by
 unfold AX;simp only[Ko,Ax1];kernel_rfl
def Ajn a b i c d:=sT 155 (nI a b i) (Sd c d)
def AgV a b i c d:=Sum.elim (λ(q:Unit)=>xN 155 (nI a b i) (Sd c d)) (λ(s:Unit)=>xE 4 155 (nI a b i) (Sd c d))
def Kn(a:Ayg)(b:Ayj)(i:Int)(c:Ayb)(d:Aym):Ay0 (Unit⊕Unit):=
 bif decide (i<(b.length:Int))then
 bif decide (i<3)then
 some (.inl ())
 else
 some (.inr ())
 else
 some (.inr ())
theorem Amy a b i c d:AX lh 0 25 (cd f3 65524) 2 (Ajn a b i c d) (Kn a b i c d) (AgV a b i c d):=by
 unfold AX;simp only[Kn,Ax1];kernel_rfl
def LO(a:Ayg)(b:Ayj)(c:Ayb)(d:Aym)(i:Int):Ay0 (Int⊕(Unit⊕Unit)):=
 (Kn a b i c d).bind (Sum.elim (λq=>if(0:Int)<=(0:Int)/\(0:Int)<=i/\i<=(b.length:Int)then
 if(0:Int)<=(wI (i+1))/\(wI (i+1))<=(b.length:Int)/\(b.length:Int)<=(b.length:Int)then
 if((b.take i.toNat).drop 0).length*64<=140737488355328 then
 if(((b.take i.toNat).drop 0).length+((b.take (b.length:Int).toNat).drop (wI (i+1)).toNat).length)*64<=140737488355328 then
 (Dz a (((b.take i.toNat).drop 0)++((b.take (b.length:Int).toNat).drop (wI (i+1)).toNat)) c).bind λt=>(Ko a b i c d t.1 t.2).bind λl=>bif l then
 some (.inr (.inl ()))
 else
 some (.inl (wI (i+1)))
 else none
 else none
 else none
 else none) (λs=>some (.inr (.inr ()))))
def Ft a b c d (z_:Int):=LO a b c d z_
def Kp a b c d i:=fix (Ft a b c d) i
theorem AmA a b c d:A8 lh 0 23 (code f3) 32762 (Ajp a b c d) (Ft a b c d) (AgX a b c d):=by
 intro _;simp(disch:=refine id ?_;kernel_rfl) only[Ft,LO,Ax1,A7 (Amy ..) (K:=L5 lh 0 23),A7 (Amz ..) (K:=L5 lh 0 23)];kernel_rfl
def Ajm u v w x y a1 b1 c1:=sT 155 [(3,Aj u),(4,Cu v),(5,Aq),(8,Ay),(12,BQ),(13,dB w),(14,M8),(15,dB x)] [.box (Cc y),.box Ux,.box (.pr (.AA 5) .u),.box (.pr (.AA 6) .u),J1 a1,J1 b1,.row 33 (.sh [4]) AyR c1]
def AgU u v (w:Bool) (x:Bool) y a1 (b1:Aym) (c1:Aym):=λ(d1:Bool)=>xN 155 [(3,Aj u),(4,Cu v),(5,Aq),(8,Ay),(116,dB d1)] (Sd y a1)
def Km(u:Ayg)(v:Ayj)(w x:Bool)(y:Ayb)(a1 b1 c1:Aym):Ay0 Bool:=
 (Hu u (a1,())).bind λe1=>bif !e1 then
 some true
 else
 bif !w then
 some true
 else
 (Im (b1,()) (a1,())).bind λg1=>bif !g1 then
 some true
 else
 bif !x then
 some true
 else
 (Im (c1,()) (a1,())).bind λi1=>some (!i1)
theorem Amx u v w x y a1 b1 c1:AX lh 0 21 (code f3) 8188 (Ajm u v w x y a1 b1 c1) (Km u v w x y a1 b1 c1) (AgU u v w x y a1 b1 c1):=by
 unfold AX;simp only[Km,Ax1];kernel_rfl
def Ajl j1 k1 l1 n1 (z_:Int):=sT 155 [(3,Aj j1),(4,Cu k1),(5,Aq),(8,Ay),(10,dI z_)] (Sd l1 n1)
def AgT j1 k1 l1 n1:=Sum.elim (λ(o1:Unit)=>xR 155 [(2,dB false),(3,Aj j1),(4,Cu k1),(5,Aq),(8,Ay)] (Sd l1 n1)) (λ(q1:Unit)=>xE 0 155 [(3,Aj j1),(4,Cu k1),(5,Aq),(8,Ay)] (Sd l1 n1))
def Ajk j1 k1 s1 l1 n1 (z_:Int):=sT 155 [(3,Aj j1),(4,Cu k1),(5,Aq),(8,Ay),(10,dI s1),(11,dI z_)] (Sd l1 n1)
def AgS j1 k1 s1 l1 n1:=Sum.elim (λ(t1:Unit)=>xR 155 [(2,dB false),(3,Aj j1),(4,Cu k1),(5,Aq),(8,Ay),(10,dI s1)] (Sd l1 n1)) (λ(u1:Unit)=>xE 2 155 [(3,Aj j1),(4,Cu k1),(5,Aq),(8,Ay),(10,dI s1)] (Sd l1 n1))
def HI(j1:Ayg)(k1:Ayj)(s1:Int)(l1:Ayb)(n1:Aym)(v1:Int):Ay0 (Int⊕(Unit⊕Unit)):=
 if 0<=s1/\s1<l1.1.length then
 bif decide (v1<((l1.1.getD s1.toNat AyR.zero).length:Int))then
 if 0<=s1/\s1<n1.length then
 if 0<=s1/\s1<l1.1.length then
 if 0<=v1/\v1<(l1.1.getD s1.toNat AyR.zero).length then
 (Q7 (n1.getD s1.toNat AyR.zero) ((l1.1.getD s1.toNat AyR.zero).getD v1.toNat AyN.zero)).bind λw1=>bif !w1 then
 some (.inr (.inl ()))
 else
 some (.inl (wI (v1+1)))
 else none
 else none
 else none
 else
 some (.inr (.inr ()))
 else none
def Dj j1 k1 s1 l1 n1 (z_:Int):=HI j1 k1 s1 l1 n1 z_
def Kk j1 k1 s1 l1 n1 v1:=fix (Dj j1 k1 s1 l1 n1) v1
theorem Amv j1 k1 s1 l1 n1:A8 lh 0 14 (cd f3 4084) 50 (Ajk j1 k1 s1 l1 n1) (Dj j1 k1 s1 l1 n1) (AgS j1 k1 s1 l1 n1):=by
 intro _;simp only[Dj,HI,Ax1];kernel_rfl
def HJ(j1:Ayg)(k1:Ayj)(l1:Ayb)(n1:Aym)(s1:Int):Ay0 (Int⊕(Unit⊕Unit)):=
 bif decide (s1<(l1.1.length:Int))then
 (Kk j1 k1 s1 l1 n1 0).bind (Sum.elim (λt1=>some (.inr (.inl ()))) (λu1=>some (.inl (wI (s1+1)))))
 else
 some (.inr (.inr ()))
def Dk j1 k1 l1 n1 (z_:Int):=HJ j1 k1 l1 n1 z_
def Kl j1 k1 l1 n1 s1:=fix (Dk j1 k1 l1 n1) s1
theorem Amw j1 k1 l1 n1:A8 lh 0 11 (code f3) 2042 (Ajl j1 k1 l1 n1) (Dk j1 k1 l1 n1) (AgT j1 k1 l1 n1):=by
 intro _;simp(disch:=refine id ?_;kernel_rfl) only[Dk,HJ,Ax1,Kk,AO (Amv _ _ _ _ _) (K:=L5 lh 0 11)];kernel_rfl
def NY(x1:Ayd):Ay0 Bool:=
 bif YR x1 then
 some true
 else
 (Fw x1).bind λy1=>(Hd y1.1 y1.2.1 y1.2.2).bind λa2=>(Dz y1.1 y1.2.1 y1.2.2).bind λb2=>bif !(b2.1==a2.1)then
 some false
 else
 bif !b2.1 then
 some true
 else
 (Kl y1.1 y1.2.1 y1.2.2 b2.2 0).bind (Sum.elim (λo1=>some false) (λq1=>(Dz y1.1 y1.2.1 (b2.2,())).bind λc2=>(Mr y1.1 (b2.2,()) y1.2.2).bind λd2=>(Km y1.1 y1.2.1 c2.1 d2.1 y1.2.2 b2.2 c2.2 d2.2).bind λd1=>bif d1 then
 some false
 else
 (Kp y1.1 y1.2.1 y1.2.2 b2.2 0).bind (Sum.elim (λe=>some false) (λg=>some true))))
theorem laws_FnClosed_run R (x1:Ayd) K:RA lh f3 R [Bl x1] [] K=(NY x1).bind λr=>K (dB r) []:=by
 simp(disch:=refine id ?_;kernel_rfl) only[NY,Ax2,Kl,AO (Amw _ _ _ _) (K:=A6 lh f3 0 R K),A7 (Amx ..) (K:=A6 lh f3 0 R K),Kp,AO (AmA _ _ _ _) (K:=A6 lh f3 0 R K)];kernel_rfl
theorem laws_FnClosed_ok:Hy prog lh:=(pk ⟨AcD,AcF,AcG,AcH,AcI,xg,XG,xh,xj,trivial⟩)
end
end Go.Proofs.X
namespace Go.Va
def As{A:Type}(x:Ay0 A)(Q:A->Prop):Prop:=∃a,x=some a/\Q a
section
variable {A B S T:Type} {x y:Ay0 A} {P Q:A->Prop}
theorem As.mk{a:A}(h:Q a):As (some a) Q:=⟨a,rfl,h⟩
theorem As.of{a:A}(h:x=some a)(hq:Q a):As x Q:=⟨a,h,hq⟩
theorem As.eq_{a:A}(h:As x (·=a)):x=some a:=by obtain⟨b,h1,h2⟩:=h;rw[h1,h2]
theorem As.mono(h:As x P)(hq:∀a,P a->Q a):As x Q:=by obtain⟨a,h1,h2⟩:=h;exact⟨a,h1,hq a h2⟩
theorem As.bind{R:B->Prop}{f:A->Ay0 B}(h:As x P)(k:∀a,P a->As (f a) R):As (x.bind f) R:=by
 obtain⟨a,h1,h2⟩:=h;rw[h1];exact k a h2
theorem As.cond{c:Bool}(h1:c=true->As x Q)(h2:c=false->As y Q):As (bif c then x else y) Q:=by
 cases c
 ·exact h2 rfl
 ·exact h1 rfl
theorem As.ite{c:Prop}[Decidable c](hc:c)(h:As x Q):As (if c then x else none) Q:=by rw[Awr hc];exact h
theorem As.elim{R:B->Prop}{C D:Type}{f:C->Ay0 B}{g:D->Ay0 B}{z:C⊕D}(h1:∀c,z=.inl c->As (f c) R)(h2:∀d,z=.inr d->As (g d) R):As (Sum.elim f g z) R:=by
 cases z with
 |inl c=>exact h1 c rfl
 |inr d=>exact h2 d rfl
theorem BJ{f:S->Ay0 (S⊕T)}(I:Nat->S->Prop){Q:T->Prop}(step:∀n s,I n s->As (f s) λr=>match r with |.inl s'=>∃m,m<n/\I m s' |.inr t=>Q t):∀n s,I n s->As (fix f s) Q:=by
 intro n;induction n using Nat.strongRecOn with
 |_ n ih =>
  intro s hI;obtain⟨r,h1,h2⟩:=step n s hI;cases r with
  |inl s' =>
   obtain⟨m,hm,hI'⟩:=h2;rw[Yu h1];exact ih m hm s' hI'
  |inr t=>exact⟨t,Yt h1,h2⟩
theorem lZ{f:S->Ay0 (S⊕T)}(st:Nat->S){t:T}:∀(n k:Nat),(∀i,k<=i->i<k+n->f (st i)=some (.inl (st (i+1))))->f (st (k+n))=some (.inr t)->fix f (st k)=some t
 |0,k,_,he=>Yt he
 |n+1,k,hs,he=>by
  rw[Yu (hs k (Awf _) (by omega))];exact lZ st n (k+1) (λi h1 h2=>hs i (by omega) (by omega)) (by rw[show k+1+n=k+(n+1) by omega];exact he)
theorem A2{f:S->Ay0 (S⊕T)}(st:Nat->S){t:T}(n:Nat)(hs:∀i,i<n->f (st i)=some (.inl (st (i+1))))(he:f (st n)=some (.inr t)):fix f (st 0)=some t :=
 lZ st n 0 (λi _ h=>hs i (by omega)) (by rw[AwF];exact he)
end
theorem AW{x:Int}(h1:-9223372036854775808<=x:=by omega)(h2:x<9223372036854775808:=by omega):wI x=x:=by
 simp only[wI,IntKind.wrap,IntKind.bits,IntKind.signed];simp;omega
theorem Qu{x:Int}(h1:0<=x)(h2:x<18446744073709551616):IntKind.u64.wrap x=x:=by
 simp only[wI,IntKind.wrap,IntKind.bits,IntKind.signed];simp;omega
end Go.Va
namespace Go.Va
theorem Hq{k n:Nat}(h:k<n):decide ((k:Int)<(n:Int))=true:=by simp;exact h
theorem IB(n:Nat):decide ((n:Int)<(n:Int))=false:=by simp
theorem BS{k n:Nat}(h:k<n):(0:Int)<=(k:Int)/\(k:Int)<(n:Int):=⟨by omega,by omega⟩
end Go.Va
namespace Go.Proofs.X
open Go Go.Va
set_option maxRecDepth 100000
abbrev BN:Ty:=Ah
theorem TV(s t:ByteArray):KL s t=true↔s=t:=by
 unfold KL;rw[ByteArray.toList_eq,ByteArray.toList_eq,Axj];constructor
 ·intro h;cases s with
  |mk a=>cases t with
   |mk b=>simp at h;rw[h]
 ·rintro rfl;rfl
end Go.Proofs.X
namespace Go.Va
end Go.Va
namespace Go.Proofs.X
open Go Go.Va
end Go.Proofs.X
namespace Go.Va
open Go.Proofs.X
section
variable {A B:Type} {Q:A->Prop} {x y:Ay0 A}
theorem Oi{a:A}:As (some a) Q↔Q a:=⟨λ⟨_,h,q⟩=>by grind,λh=>⟨a,rfl,h⟩⟩
end
theorem Bw{X S T:Type}{f:X->Ay0 (X⊕T)}(st:Nat->S->X)(n:Nat)(I:Nat->S->Prop){Q:T->Prop}
    (h:∀k s,k<n->I k s->As (f (st k s)) λr=>match r with |.inl x=>∃s',x=st (k+1) s'/\I (k+1) s' |.inr t=>Q t)
    (he:∀s,I n s->As (f (st n s)) λr=>match r with |.inl _=>False |.inr t=>Q t) {s0:S} (h0:I 0 s0):As (fix f (st 0 s0)) Q:=by
 refine BJ (λm x=>∃k s,x=st k s/\k<=n/\m=n-k/\I k s) (λm x hI=>?_) n _ ⟨0,s0,rfl,AwW _,rfl,h0⟩;obtain⟨k,s,rfl,hk,rfl,hI⟩:=hI;rcases Awk k n with Cw |jV
 ·refine(h k s Cw hI).mono λr hr=>?_;cases r with
  |inl x =>
   obtain⟨s',rfl,hI'⟩:=hr;exact⟨n-(k+1),by omega,k+1,s',rfl,Cw,rfl,hI'⟩
  |inr t=>grind
 ·have:k=n:=by omega
  subst this;refine(he s hI).mono λr hr=>?_
  grind
def Md(x:Int):Prop:=0<=x/\x<18446744073709551616
def tb(x:Int)(j:Nat):Bool:=x.toNat.testBit j
theorem Md.toNat{x:Int}(h:Md x):x.toNat<2^64:=by unfold Md at h;omega
theorem Md.of{n:Nat}(h:n<2^64):Md (n:Int):=by unfold Md;omega
theorem TX{x:Int}(h:Md x){j:Nat}(hj:64<=j):tb x j=false :=
 Nat.testBit_lt_two_pow (AwL h.toNat (Nat.pow_le_pow_right (by decide) hj))
theorem Md.ext{x y:Int}(hx:Md x)(hy:Md y)(h:∀j,j<64->tb x j=tb y j):x=y:=by
 have :=Nat.eq_of_testBit_eq λj=>by
  rcases Awk j 64 with hj |hj
  ·exact h j hj
  ·exact(TX hx hj).trans (TX hy hj).symm
 unfold Md at hx hy;omega
theorem Zy{n:Nat}(h:n<2^64):IntKind.u64.wrap (n:Int)=(n:Int):=Qu (by omega) (by omega)
theorem Qo{x:Int}(h:Md x):(BitVec.ofInt 64 x).toNat=x.toNat:=by
 unfold Md at h;simp;omega
theorem uR{a b:Int}(ha:Md a)(hb:Md b):Xe .u64 a b=((a.toNat ||| b.toNat:Nat):Int):=by
 show IntKind.u64.wrap (((BitVec.ofInt 64 a ||| BitVec.ofInt 64 b).toNat))=_;rw[Zy (BitVec.isLt _),BitVec.toNat_or,Qo ha,Qo hb]
theorem lB{a b:Int}(ha:Md a)(hb:Md b):Se .u64 a b=((a.toNat &&& b.toNat:Nat):Int):=by
 show IntKind.u64.wrap (((BitVec.ofInt 64 a &&& BitVec.ofInt 64 b).toNat))=_;rw[Zy (BitVec.isLt _),BitVec.toNat_and,Qo ha,Qo hb]
theorem WZ{a b:Int}(ha:Md a)(hb:Md b):Md (Xe .u64 a b):=by
 rw[uR ha hb];exact .of (Nat.or_lt_two_pow ha.toNat hb.toNat)
theorem nh{a b:Int}(ha:Md a)(hb:Md b):Md (Se .u64 a b):=by
 rw[lB ha hb];exact .of (Nat.and_lt_two_pow _ hb.toNat)
theorem mY{a b:Int}(ha:Md a)(hb:Md b)(j:Nat):tb (Xe .u64 a b) j=(tb a j||tb b j):=by
 rw[uR ha hb,tb,Awa,Nat.testBit_or];rfl
theorem vV{a b:Int}(ha:Md a)(hb:Md b)(j:Nat):tb (Se .u64 a b) j=(tb a j&&tb b j):=by
 rw[lB ha hb,tb,Awa,Nat.testBit_and];rfl
theorem mV{a:Int}(ha:Md a){s:Int}{n:Nat}(hs:s=(n:Int))(hn:n<=64):Ju .u64 a s=((a.toNat/2^n:Nat):Int):=by
 subst hs;unfold Md at ha;obtain⟨m,rfl⟩:∃m:Nat,a=m:=⟨a.toNat,by omega⟩;have h:Ju .u64 _ n=Int.fdiv m (2^min _ 64):=rfl
 grind
theorem V8{a:Int}(ha:Md a){s:Int}{n:Nat}(hs:s=(n:Int))(hn:n<=64):Md (Ju .u64 a s):=by
 rw[mV ha hs hn];exact .of (Nat.lt_of_le_of_lt (Nat.div_le_self _ _) ha.toNat)
theorem WW{a:Int}(ha:Md a){s:Int}{n:Nat}(hs:s=(n:Int))(hn:n<=64)(j:Nat):tb (Ju .u64 a s) j=tb a (j+n):=by
 rw[mV ha hs hn,tb,Awa,Nat.testBit_div_two_pow,tb]
theorem dN{a:Int}(ha:Md a){s:Int}{n:Nat}(hs:s=(n:Int))(hn:n<=64):KW .u64 a s=((a.toNat*2^n%18446744073709551616:Nat):Int):=by
 subst hs;unfold Md at ha;obtain⟨m,rfl⟩:∃m:Nat,a=m:=⟨a.toNat,by omega⟩;have h:KW .u64 _ n=IntKind.u64.wrap (m*2^min _ 64):=rfl;have hw:∀x ,IntKind.u64.wrap x=x%18446744073709551616:=λx=>by simp[IntKind.wrap,IntKind.bits,IntKind.signed]
 grind
theorem V7{a:Int}(ha:Md a){s:Int}{n:Nat}(hs:s=(n:Int))(hn:n<=64):Md (KW .u64 a s):=by
 rw[dN ha hs hn];exact .of (Nat.mod_lt _ (by omega))
theorem kY{a:Int}(ha:Md a){s:Int}{n:Nat}(hs:s=(n:Int))(hn:n<=64)(j:Nat):tb (KW .u64 a s) j=(decide (j<64)&&(decide (n<=j)&&tb a (j-n))):=by
 rw[dN ha hs hn,tb,Awa,show 18446744073709551616=2^64 from by decide,Nat.testBit_mod_two_pow,Nat.testBit_mul_two_pow,tb]
theorem RH(j:Nat):tb 0 j=false:=by simp[tb]
theorem Tg:Md 0:=by unfold Md;omega
theorem V6:Md 1:=by unfold Md;omega
theorem mH{s:Int}{n:Nat}(hs:s=(n:Int))(hn:n<64):IntKind.u64.wrap (KW .u64 1 s-1)=((2^n-1:Nat):Int):=by
 have h1 :=Nat.two_pow_pos n;have h2:2^n<2^64:=Nat.pow_lt_pow_right (by decide) hn;rw[dN V6 hs (by omega)];rw[show(1:Int).toNat*2^n%18446744073709551616=2^n by grind];rw[show((2^n:Nat))-1=((2^n-1:Nat):Int) by omega];exact Zy (by omega)
theorem v8{s:Int}{n:Nat}(hs:s=(n:Int))(hn:n<64):Md (IntKind.u64.wrap (KW .u64 1 s-1)):=by
 have h2:2^n<2^64:=Nat.pow_lt_pow_right (by decide) hn;rw[mH hs hn];exact .of (by omega)
theorem zD{s:Int}{n:Nat}(hs:s=(n:Int))(hn:n<64)(j:Nat):tb (IntKind.u64.wrap (KW .u64 1 s-1)) j=decide (j<n):=by
 rw[mH hs hn,tb,Awa,Nat.testBit_two_pow_sub_one]
theorem vW(j:Nat):tb 1 j=decide (j=0):=by
 show Nat.testBit 1 j=_;cases j with
 |zero=>rfl
 |succ j=>grind
theorem oz{a:Int}(ha:Md a):Se .u64 a 1=if tb a 0 then 1 else 0:=by
 refine Md.ext (nh ha V6) (by split<;>first |exact V6 |exact Tg) λj _=>?_
 rw[vV ha V6];by_cases h:j=0
 ·subst h;cases h:tb a 0<;>simp[RH]
 ·cases h':tb a 0<;>simp[vW,RH,h]
def Cq(ws:Ayd):Prop:=∀x∈ws,Md x
def bt(ws:Ayd)(i:Nat):Bool:=tb (ws.getD (i/64) 0) (i%64)
theorem Cq.getD{ws:Ayd}(h:Cq ws)(k:Nat):Md (ws.getD k 0):=by
 rcases Awk k _ with hk |hk
 ·rw[show ws.getD k 0=ws[k] by grind];exact h _ (AwR hk)
 ·rw[show ws.getD k 0=0 by grind];exact Tg
theorem Cq.set{ws:Ayd}(h:Cq ws){k:Nat}{x:Int}(hx:Md x):Cq (ws.set k x):=λy hy=>by
 rcases Axw hy with h' |rfl
 ·exact h y h'
 ·grind
theorem Cq.rep{n:Nat}:Cq (List.replicate n 0):=λx hx=>by rw[(List.mem_replicate.1 hx).2];exact Tg
theorem rK(n i:Nat):bt (List.replicate n 0) i=false:=by
 unfold bt;rw[show(List.replicate n (0:Int)).getD _ 0=0 by grind];exact RH _
theorem Tt{ws:Ayd}{i:Nat}(h:64*ws.length<=i):bt ws i=false:=by
 unfold bt;rw[show ws.getD _ 0=0 by grind];exact RH _
theorem UB{ws:Ayd}{k:Nat}{x:Int}(hk:k<ws.length)(i:Nat):bt (ws.set k x) i=if i/64=k then tb x (i%64)else bt ws i:=by
 unfold bt
 grind
theorem Pn{a b:Ayd}(ha:Cq a)(hb:Cq b)(hl:a.length=b.length)(h:∀i,i<64*a.length->bt a i=bt b i):a=b:=by
 refine Axl hl λk h1 h2=>Md.ext (ha _ (AwR h1)) (hb _ (AwR h2)) λj hj=>?_;have:=h (64*k+j) (by omega);unfold bt at this
 grind
def pk(f:Nat->Bool):Nat->Nat
 |0=>0
 |n+1=>(if f n then 2^n else 0)+pk f n
theorem uU(f:Nat->Bool):∀n,pk f n<2^n
 |0=>by simp[pk]
 |n+1=>by
  have:=uU f n;unfold pk;split<;>omega
theorem kF(f:Nat->Bool):∀n j,(pk f n).testBit j=(decide (j<n)&&f j)
 |0,j=>by simp[pk]
 |n+1,j=>by
  have hl:=uU f n;unfold pk;cases hf:f n with
  |false =>
   simp only[AwX,Axo,AwF,kF f n j]
   grind
  |true =>
   simp;rcases Nat.lt_trichotomy j n with h |h |h
   ·rw[Nat.testBit_two_pow_add_gt h,kF f n j];simp[h];omega
   ·subst h;rw[Nat.testBit_two_pow_add_eq,Nat.testBit_lt_two_pow hl];simp[hf]
   ·rw[Nat.testBit_lt_two_pow (AwL (show 2^n+pk f n<2^(n+1) by omega) (Nat.pow_le_pow_right (by decide) h))];simp;omega
def bl(f:Nat->Bool)(m:Nat):Ayd:=(List.range m).map λk=>(pk (λj=>f (64*k+j)) 64:Int)
theorem F9(f:Nat->Bool)(m:Nat):(bl f m).length=m:=by simp[bl]
theorem FZ(f:Nat->Bool)(m:Nat):Cq (bl f m):=λx hx=>by
 obtain⟨k,_,rfl⟩:=List.mem_map.1 hx;exact .of (uU _ _)
theorem YW(f:Nat->Bool)(m i:Nat):bt (bl f m) i=(decide (i<64*m)&&f i):=by
 rcases Awk i (64*m)with h |h
 ·unfold bt bl;rw[show((List.range m).map _).getD _ 0=(pk (λj=>f (64*(i/64)+j)) 64:Int) by
   grind,tb,Awa,kF,show 64*(i/64)+i%64=i by omega]
  simp[h];omega
 ·rw[Tt (by rw[F9];exact h)];simp;omega
theorem wi{ws:Ayd}(h:Cq ws){f:Nat->Bool}(hf:∀i,i<64*ws.length->bt ws i=f i):ws=bl f ws.length :=
 Pn h (FZ _ _) (F9 _ _).symm λi hi=>by rw[hf i hi,YW];simp[hi]
theorem pd{f g:Nat->Bool}{m:Nat}(h:∀i,i<64*m->f i=g i):bl f m=bl g m :=
 Pn (FZ _ _) (FZ _ _) (by rw[F9,F9]) λi hi=>by rw[F9]at hi;rw[YW,YW,h i hi]
def low(f:Nat->Bool)(n:Nat):Nat->Bool:=λi=>decide (i<n)&&f i
def nw(n:Nat):Nat:=(n+63)/64
end Go.Va
namespace Go.Proofs.X
open Go Go.Va
set_option maxRecDepth 100000
theorem Zp{i:Nat}(h:i<4611686018427387904):wI (Int.tdiv (i:Int) 64)=((i/64:Nat):Int):=by
 rw[AxL (by omega),AW];omega
theorem Tf(i:Nat):Int.tmod (i:Int) 64=((i%64:Nat):Int):=by
 rw[AxM (by omega)];omega
theorem TY{n:Nat}(h:n<=1048576):wI (Int.tdiv (wI ((n:Int)+63)) 64)=((nw n:Nat):Int):=by
 rw[AW (x:=(n:Int)+63),show(n:Int)+63=((n+63:Nat):Int) by omega,Zp (by omega)];rfl
def qp(n:Nat)(f:Nat->Bool):Ax3:=((n:Int),bl (low f n) (nw n),())
def bI(b:Bool):Int:=if b then 1 else 0
def ae(n:Nat)(ws:Ayd):Prop:=1<=n/\n<=4096/\ws.length=nw n/\Cq ws/\∀i,n<=i->bt ws i=false
theorem ae.eq{n:Nat}{ws:Ayd}(h:ae n ws):ws=bl (low (bt ws) n) (nw n):=by
 obtain⟨_,_,hl,hw,hz⟩:=h
 conv=>lhs;rw[wi hw (f:=low (bt ws) n) λi hi=>by
  unfold low;by_cases h:i<n
  ·simp[h]
  ·rw[hz i (by omega)];simp]
 rw[hl]
theorem rJ{n:Nat}{f:Nat->Bool}{i:Nat}(hi:i<n):bt (bl (low f n) (nw n)) i=f i:=by
 rw[YW];unfold nw low;simp[hi];omega
theorem HA{n:Nat}{f:Nat->Bool}{i:Nat}:bt (bl (low f n) (nw n)) i=(decide (i<n)&&f i):=by
 by_cases h:i<n
 ·rw[rJ h];simp[h]
 ·rw[YW];unfold low;simp[h]
theorem o8{n:Nat}{f g:Nat->Bool}(h:∀i,i<n->f i=g i):qp n f=qp n g:=by
 unfold qp;rw[pd λi _=>show low f n i=low g n i by
  unfold low;by_cases hi:i<n
  ·simp[hi,h i hi]
  ·simp[hi]]
theorem YN{w:Int}{ws:Ayd}(hw:Cq ws){i:Nat}(hi:i<64*ws.length)(hn:ws.length<=1048576):GF (w,ws,()) (i:Int)=some (bI (bt ws i)):=by
 unfold GF;rw[Zp (by omega),Tf,Qu (by omega) (by omega)];rw[Awr ⟨by omega,by show((i/64:Nat):Int)<(ws.length:Int);omega⟩,OB,Awa];show some (IntKind.u8.wrap (Se .u64 (Ju .u64 (ws.getD (i/64) 0) ((i%64:Nat):Int)) 1))=_;rw[show IntKind.u8.wrap (Se .u64 (Ju .u64 (ws.getD (i/64) 0) ((i%64:Nat):Int)) 1)=bI (bt ws i) by
  rw[oz (V8 (hw.getD _) rfl (by omega)),WW (hw.getD _) rfl (by omega),AwF];show IntKind.u8.wrap (bI (bt ws i))=_;cases bt ws i<;>rfl]
theorem Z5{w:Int}{ws:Ayd}(hw:Cq ws)(hn:ws.length<=1048576):As (L6 (w,ws,())) λr=>r=true↔∃n:Nat,w=(n:Int)/\ae n ws:=by
 unfold L6 Np;refine As.cond (λh=>As.mk ?_) λh=>?_
 ·simp only[AwX,false_iff,not_exists,not_and]
  rintro n rfl ⟨h1,h2,h3,_⟩
  unfold nw at h3;simp only[Bj,TY (show n<=1048576 by omega),AxJ,Axp,Axv,AwV,bne_iff_ne]at h;unfold nw at h;omega
 ·have hb:1<=w/\w<=4096:=by
    simp only[Bj,Axf,Bool.not_eq_false',Awg,Axc]at h;omega
  obtain⟨n,rfl⟩:∃n:Nat,w=(n:Int):=⟨w.toNat,by omega⟩;have hl:ws.length=nw n:=by
   simp only[Axf,AxS]at h;have h:=h.2;rw[TY (by omega)]at h;omega
  have key:As (PT ((n:Int),ws,()) (n:Int)) λt=>(t=.inl ()/\¬∀i,n<=i->bt ws i=false)\/(t=.inr ()/\∀i,n<=i->bt ws i=false):=by
   have TK:n<=64*ws.length:=by rw[hl];unfold nw;omega
   have hwr:wI (64*(ws.length:Int))=((64*ws.length:Nat):Int):=by
    rw[AW];omega
   refine Bw (λk (_:Unit)=>((n+k:Nat):Int)) (64*ws.length-n) (λk _=>∀i,n<=i->i<n+k->bt ws i=false) (λk _ hk hI=>?_) (λ_ hI=>?_) (s0:=()) (λi h1 h2=>by omega)
   ·unfold Hb Kq;rw[show wI (64*((((n:Int),ws,()):Ax3).2.1.length:Int))=((64*ws.length:Nat):Int)from hwr,Hq (by omega),Awp,YN hw (by omega) hn,Av9];cases hb:bt ws (n+k)with
    |true=>exact As.mk (.inl ⟨rfl,λh=>by rw[h _ (by omega)]at hb;cases hb⟩)
    |false =>
     refine As.mk ⟨(),?_,λi h1 h2=>?_⟩
     ·rw[AW];omega
     ·rcases Awk i (n+k)with h |h
      ·exact hI i h1 h
      ·rw[show i=n+k by omega];exact hb
   ·unfold Hb Kq;rw[show wI (64*((((n:Int),ws,()):Ax3).2.1.length:Int))=((64*ws.length:Nat):Int)from hwr,show n+(64*ws.length-n)=64*ws.length by omega,IB,Awo];refine As.mk (.inr ⟨rfl,λi h=>?_⟩);rcases Awk i (64*ws.length)with h' |h'
    ·exact hI i h (by omega)
    ·exact Tt h'
  refine As.bind key λt ht=>?_;rcases ht with ⟨rfl,h'⟩|⟨rfl,h'⟩
  ·refine As.mk ?_;simp only[AwX,false_iff,not_exists,not_and];intro m hm hp;obtain rfl:m=n:=by omega
   exact h' hp.2.2.2.2
  ·exact As.mk ⟨λ_=>⟨n,rfl,by omega,by omega,hl,hw,h'⟩,λ_=>rfl⟩
theorem ZX{w:Int}{ws:Ayd}(hw:Cq ws)(hn:ws.length<=1048576):As (LY (w,ws,())) λr=>r=true↔∃n:Nat,w=(n:Int)/\ae n ws:=by
 unfold LY Np;refine As.cond (λh=>As.mk ?_) λh=>?_
 ·simp only[AwX,false_iff,not_exists,not_and]
  rintro n rfl ⟨h1,h2,h3,_⟩
  unfold nw at h3;simp only[AE,BR,TY (show n<=1048576 by omega),AxJ,Axp,Axv,AwV,bne_iff_ne]at h;unfold nw at h;omega
 ·have hb:1<=w/\w<=4096:=by
    simp only[AE,Axf,Bool.not_eq_false',Awg,Axc]at h;omega
  obtain⟨n,rfl⟩:∃n:Nat,w=(n:Int):=⟨w.toNat,by omega⟩;have hl:ws.length=nw n:=by
   simp only[Axf,AxS]at h;have h:=h.2;rw[BR,TY (by omega)]at h;omega
  have e1:((n:Int),ws,()).1=(n:Int):=rfl;have iff:(∃m:Nat,(n:Int)=(m:Int)/\ae m ws)↔∀i,n<=i->bt ws i=false:=by
   constructor
   ·rintro⟨m,hm,hp⟩
    obtain rfl:n=m:=by omega
    exact hp.2.2.2.2
   ·exact λh=>⟨n,rfl,by omega,by omega,hl,hw,h⟩
  rw[iff];refine As.cond (λh=>As.mk ?_) λh=>?_
  ·have h:Int.tmod (n:Int) 64=0:=by simpa using h
   rw[Tf]at h;refine⟨λ_ i hi=>Tt (by rw[hl];unfold nw;omega),λ_=>rfl⟩
  ·have h:Int.tmod (n:Int) 64≠0:=by simpa using h
   rw[Tf]at h;have BB:0<ws.length:=by rw[hl];unfold nw;omega
   have W8:wI ((ws.length:Int)-1)=((ws.length-1:Nat):Int):=by rw[AW];omega
   have e2:wI (((((n:Int),ws,()):Ax3).2.1.length:Int)-1)=((ws.length-1:Nat):Int):=W8;rw[e2,Awr ⟨by omega,by show((ws.length-1:Nat):Int)<(ws.length:Int);omega⟩];rw[show Int.tmod (((n:Int),ws,()):Ax3).1 64=((n%64:Nat):Int)from Tf n,OB,Awa];refine As.mk ?_;rw[Axj];have ZW:=hw.getD (ws.length-1);have h0:Ju .u64 (ws.getD (ws.length-1) 0) ((n%64:Nat):Int)=0↔∀j,j<64->tb (ws.getD (ws.length-1) 0) (j+n%64)=false :=
    ⟨λe j _=>by rw[<-WW ZW rfl (by omega),e,RH],λe=>Md.ext (V8 ZW rfl (by omega)) Tg λj hj=>by rw[WW ZW rfl (by omega),RH];exact e j hj⟩
   refine h0.trans ⟨λe i hi=>?_,λe j hj=>?_⟩
   ·rcases Awk i (64*ws.length)with h' |h'
    ·unfold bt;rw[show i/64=ws.length-1 by rw[hl]at h'⊢;unfold nw at *;omega];have:=e (i%64-n%64) (by omega);rwa [show i%64-n%64+n%64=i%64 by rw[hl]at h';unfold nw at *;omega]at this
    ·exact Tt h'
   ·rcases Awk (j+n%64) 64 with h' |h'
    ·have:=e (64*(ws.length-1)+(j+n%64)) (by rw[hl];unfold nw;omega);unfold bt at this;rwa [show(64*(ws.length-1)+(j+n%64))/64=ws.length-1 by omega,show(64*(ws.length-1)+(j+n%64))%64=j+n%64 by omega]at this
    ·exact TX ZW h'
end Go.Proofs.X
namespace Go.Proofs.X
open Go Go.Va
set_option maxRecDepth 100000
theorem nn(k:IntKind):(Ty.zero (.int k):Int)=0:=rfl
theorem Aa8{a k:Nat}(h:a+64*k<1073741824):wI ((a:Int)+wI (64*(k:Int)))=((a+64*k:Nat):Int):=by
 rw[AW (x:=64*k),AW];omega
theorem A3{x:Int}{n:Nat}(h:x=(n:Int):=by omega)(hn:n<4611686018427387904:=by omega):wI x=(n:Int):=by rw[AW,h]
theorem Tj{n:Nat}(h:n<=1048576):EL (n:Int)=some ((n:Int),List.replicate (nw n) 0):=by
 have hn:nw n<=1048576:=by unfold nw;omega
 unfold EL BR;rw[TY h,Awr ⟨rfl,by omega,by omega,by omega,by omega⟩,Awa]
theorem xf{ws:Ayd}{k j:Nat}(hj:j<64):bt ws (64*k+j)=tb (ws.getD k 0) j:=by
 unfold bt
 grind
theorem AdH{a k:Nat}{d b:Int}{low row:Ayd}(hw:Cq low)(hr:Cq row)(hk:k<low.length)(hb:a+64*k<1073741824)(Hs:(a+64*k)/64<row.length) :
    As (G5 (a:Int) low d (k:Int) row b) λr=>Cq r/\r.length=row.length/\∀i,i<64*row.length->bt r i=(bt row i||(decide (a+64*k<=i)&&(decide (i<a+64*k+64)&&bt low (i-a)))):=by
 unfold G5 Np;obtain⟨q,hq⟩:∃q,q=(a+64*k)/64:=⟨_,rfl⟩;obtain⟨m,hm⟩:∃m,m=(a+64*k)%64:=⟨_,rfl⟩;have e1:wI (Int.tdiv (((a+64*k:Nat):Int)) 64)=(q:Int):=by rw[Zp (by omega),hq]
 have e2:Int.tmod (((a+64*k:Nat):Int)) 64=(m:Int):=by rw[Tf,hm]
 have e3:wI ((q:Int)+1)=((q+1:Nat):Int):=A3;have e4:wI (64-(m:Int))=((64-m:Nat):Int):=A3;have hlk:Md (low.getD k 0):=hw.getD k;have AnO:∀i,a+64*k<=i->i<a+64*k+64->bt low (i-a)=tb (low.getD k 0) (i-a-64*k):=λi h1 h2=>by
  rw[<-xf (ws:=low) (k:=k) (by omega)];congr 1;omega
 simp only[Aa8 hb,e1,e2,e3,e4,Awi,Awa,nn];rw[Awr (BS hk),Awr ⟨by omega,by omega⟩,OB,Awr ⟨by omega,by omega⟩];have hsh:Md (KW .u64 (low.getD k 0) (m:Int)):=V7 hlk rfl (by omega);have hor:Md (Xe .u64 (row.getD q 0) (KW .u64 (low.getD k 0) (m:Int))):=WZ (hr.getD q) hsh;have hqr:q<row.length:=by omega
 have LN:∀i,bt (row.set q (Xe .u64 (row.getD q 0) (KW .u64 (low.getD k 0) (m:Int)))) i=(bt row i||(decide (i/64=q)&&(decide (a+64*k<=i)&&bt low (i-a)))):=λi=>by
  rw[UB hqr];by_cases h:i/64=q
  ·rw[Awr h,mY (hr.getD q) hsh,kY hlk rfl (by omega)];have:bt row i=tb (row.getD q 0) (i%64):=by unfold bt;rw[h]
   rw[this];by_cases h2:a+64*k<=i
   ·rw[AnO i h2 (by omega),show i-a-64*k=i%64-m by omega];simp[h,h2,show i%64<64 by omega,show m<=i%64 by omega]
   ·simp[h,h2,show ¬m<=i%64 by omega]
  ·rw[Aws h];simp[h]
 have F2:Cq (row.set q (Xe .u64 (row.getD q 0) (KW .u64 (low.getD k 0) (m:Int)))):=hr.set hor;refine As.cond (λh=>?_) λh=>?_
 ·simp only[Awg,bne_iff_ne,Axc]at h;have mh:m≠0:=by omega
  have hq1:q+1<row.length:=by omega
  rw[Awr ⟨by omega,by omega⟩,OB,Awr ⟨by omega,by omega⟩];have hsr:Md (Ju .u64 (low.getD k 0) ((64-m:Nat):Int)):=V8 hlk rfl (by omega);refine As.mk ⟨F2.set (WZ (F2.getD _) hsr),by rw[Awi,Awi],λi hi=>?_⟩;show bt (List.set _ (q+1) (Xe .u64 (List.getD _ (q+1) 0) (Ju .u64 (low.getD k 0) ((64-m:Nat):Int)))) i=_;rw[UB (by rw[Awi];exact hq1)];by_cases h1:i/64=q+1
  ·rw[Awr h1,mY (F2.getD _) hsr,WW hlk rfl (by omega)];have:tb ((row.set q (Xe .u64 (row.getD q 0) (KW .u64 (low.getD k 0) (m:Int)))).getD (q+1) 0) (i%64)=bt (row.set q (Xe .u64 (row.getD q 0) (KW .u64 (low.getD k 0) (m:Int)))) i:=by unfold bt;rw[h1]
   rw[this,LN];rw[show decide (i/64=q)=false by simp;omega,show decide (a+64*k<=i)=true by simp;omega];by_cases h2:i<a+64*k+64
   ·rw[AnO i (by omega) h2,show i-a-64*k=i%64+(64-m) by omega];simp[h2]
   ·rw[TX hlk (by omega)];simp[h2]
  ·rw[Aws h1,LN];by_cases h2:i/64=q
   ·simp only[h2,decide_true,AxV];by_cases h3:a+64*k<=i
    ·simp[h3,show i<a+64*k+64 by omega]
    ·simp[h3]
   ·rw [show(decide (a+64*k<=i)&&(decide (i<a+64*k+64)&&bt low (i-a)))=false by
      by_cases h3:a+64*k<=i
      ·simp[show ¬i<a+64*k+64 by omega]
      ·simp[h3]]
    simp[h2]
 ·refine As.mk ⟨F2,Awi,λi hi=>?_⟩;have h':m=0\/row.length<=q+1:=by
   rcases Awx m with h0 |h0
   ·exact .inl h0
   ·refine .inr ?_;simp only[Axv,AxS,AwV]at h;omega
  show bt (row.set q (Xe .u64 (row.getD q 0) (KW .u64 (low.getD k 0) (m:Int)))) i=_;rw[LN];by_cases h2:i/64=q
  ·simp only[h2,decide_true,AxV];by_cases h3:a+64*k<=i
   ·simp[h3,show i<a+64*k+64 by omega]
   ·simp[h3]
  ·rw [show(decide (a+64*k<=i)&&(decide (i<a+64*k+64)&&bt low (i-a)))=false by
     by_cases h3:a+64*k<=i
     ·simp[show ¬i<a+64*k+64 by omega]
     ·simp[h3]]
   simp[h2]
theorem u0{w b:Int}{a:Nat}{low row:Ayd}(hw:Cq low)(hr:Cq row)(hl:low.length<=1048576)(ha:a<=1048576)(Hs:∀k,k<low.length->(a+64*k)/64<row.length) :
    As (K9 b (a:Int) (w,low,()) row) λr=>Cq r/\r.length=row.length/\∀i,i<64*row.length->bt r i=(bt row i||(decide (a<=i)&&bt low (i-a))):=by
 refine As.bind (Bw (λk (s:Ayd)=>((k:Int),s)) low.length (λk s=>Cq s/\s.length=row.length/\∀i,i<64*row.length->bt s i=(bt row i||(decide (a<=i)&&(decide (i<a+64*k)&&bt low (i-a))))) (Q:=λr=>Cq r/\r.length=row.length/\∀i,i<64*row.length->bt r i=(bt row i||(decide (a<=i)&&bt low (i-a)))) (λk s hk hI=>?_) (λs hI=>?_) (s0:=row) ⟨hr,rfl,λi _=>by
     grind⟩) λr h=>As.mk h
 ·unfold Fj HD;rw[Hq hk];refine As.bind (AdH hw hI.1 hk (by omega) (by grind)) λr h=>As.mk ⟨r,?_,h.1,h.2.1.trans hI.2.1,λi hi=>?_⟩
  ·rw[show wI ((k:Int)+1)=((k+1:Nat):Int)from A3]
  grind
 ·unfold Fj HD;rw[IB];refine As.mk ⟨hI.1,hI.2.1,λi hi=>?_⟩;rw[hI.2.2 i hi];by_cases h1:a<=i
  ·by_cases h2:i<a+64*low.length
   ·grind
   ·rw[Tt (by omega:64*low.length<=i-a)];simp
  ·grind
theorem zh{n m:Nat}{f g:Nat->Bool}(hn:n+m<=8192):Fh (qp n f) (qp m g)=some (((n+m:Nat):Int),bl (low (λi=>if i<m then g i else f (i-m)) (n+m)) (nw (n+m))):=by
 unfold Fh qp;refine As.eq_ ?_;rw[show wI _=((n+m:Nat))from A3,Tj (by omega),Av9];refine As.bind (u0 (a:=0) (FZ _ _) Cq.rep (by rw[F9];unfold nw;omega) (by omega) λk hk=>by rw[F9]at hk;rw[AwG];unfold nw at *;omega) λr1 h1=>?_;rw[AwG]at h1;refine As.bind (u0  (FZ _ _) h1.1 (by rw[F9];unfold nw;omega) (by omega) λk hk=>by rw[F9]at hk;unfold nw at *;omega) λr2 h2=>As.mk ?_;refine congrArg _ (Pn h2.1 (FZ _ _) (by rw[h2.2.1,h1.2.1,F9]) λi hi=>?_);have wP:i<64*nw (n+m):=by grind
 rw[h2.2.2 i (by grind),h1.2.2 i wP,rK,HA,HA,HA]
 grind
end Go.Proofs.X
namespace Go.Proofs.X
open Go Go.Va
set_option maxRecDepth 100000
theorem AcK{a k:Nat}{w w1 w2 j:Int}{ws row:Ayd}(hw:Cq ws)(hr:Cq row)(hk:k<row.length)(hb:a+64*k<1073741824)(Hs:(a+64*k)/64<ws.length) :
    As (G4 (a:Int) w1 w2 (k:Int) (w,ws,()) j row) λr=>Cq r/\r.length=row.length/\∀i,bt r i=if i/64=k then bt ws (a+i)else bt row i:=by
 unfold G4 Np;obtain⟨q,hq⟩:∃q,q=(a+64*k)/64:=⟨_,rfl⟩;obtain⟨m,hm⟩:∃m,m=(a+64*k)%64:=⟨_,rfl⟩;have e1:wI (Int.tdiv (((a+64*k:Nat):Int)) 64)=(q:Int):=by rw[Zp (by omega),hq]
 have e2:Int.tmod (((a+64*k:Nat):Int)) 64=(m:Int):=by rw[Tf,hm]
 have e3:wI ((q:Int)+1)=((q+1:Nat):Int):=A3;have e4:wI (64-(m:Int))=((64-m:Nat):Int):=A3;simp only[Aa8 hb,e1,e2,e3,e4,Awi,Awa,nn];rw[Awr ⟨by omega,by omega⟩,OB,Awr (BS hk)];have hsr:Md (Ju .u64 (ws.getD q 0) (m:Int)):=V8 (hw.getD q) rfl (by omega);have F2:Cq (row.set k (Ju .u64 (ws.getD q 0) (m:Int))):=hr.set hsr;have YG:(row.set k (Ju .u64 (ws.getD q 0) (m:Int))).getD k 0=Ju .u64 (ws.getD q 0) (m:Int):=by simp[List.getD,hk]
 refine As.cond (λh=>?_) λh=>?_
 ·simp only[Awg,bne_iff_ne,Axc]at h;rw[Awr (BS hk),Awr ⟨by omega,by omega⟩,OB,Awr (BS hk),YG];have H7:Md (KW .u64 (ws.getD (q+1) 0) ((64-m:Nat):Int)):=V7 (hw.getD _) rfl (by omega);refine As.mk ⟨F2.set (WZ hsr H7),by rw[Awi,Awi],λi=>?_⟩;rw[UB (by rw[Awi];exact hk)];by_cases h1:i/64=k
  ·rw[Awr h1,Awr h1,mY hsr H7,WW (hw.getD _) rfl (by omega),kY (hw.getD _) rfl (by omega)];by_cases h2:i%64+m<64
   ·rw[show decide (64-m<=i%64)=false by simp;omega];unfold bt;rw[show(a+i)/64=q by omega,show(a+i)%64=i%64+m by omega];simp
   ·rw[TX (hw.getD _) (by omega)];unfold bt;rw[show(a+i)/64=q+1 by omega,show(a+i)%64=i%64-(64-m) by omega];simp[show i%64<64 by omega,show 64<=i%64+m by omega]
  ·rw[Aws h1,Aws h1,UB hk,Aws h1]
 ·have h':m=0\/ws.length<=q+1:=by
    rcases Awx m with h0 |h0
    ·exact .inl h0
    ·refine .inr ?_;simp only[Axv,AxS,AwV]at h;omega
  refine As.mk ⟨F2,Awi,λi=>?_⟩;rw[UB hk];by_cases h1:i/64=k
  ·rw[Awr h1,Awr h1,WW (hw.getD _) rfl (by omega)];by_cases h2:i%64+m<64
   ·unfold bt;rw[show(a+i)/64=q by omega,show(a+i)%64=i%64+m by omega]
   ·rw[TX (hw.getD _) (by omega),Tt (by omega)]
  ·rw[Aws h1,Aws h1]
theorem AcL{n a w:Nat}{f:Nat->Bool}(hn:n<=1048576)(h1:1<=w)(h:a+w<=n):Gw (qp n f) (a:Int) (w:Int)=some ((w:Int),bl (low (λi=>f (a+i)) w) (nw w)):=by
 unfold Gw qp;refine As.eq_ ?_;rw[Tj (by omega),Av9];show As ((Ka (a:Int) (w:Int) ((n:Int),bl (low f n) (nw n),()) (((List.replicate (nw w) (0:Int)).length:Nat):Int) (w:Int) 0 (List.replicate (nw w) 0)).bind _) _;rw[AwG];have eP:1<=nw w:=by unfold nw;omega
 refine As.bind (P:=λr=>Cq r/\r.length=nw w/\∀i,i<64*nw w->bt r i=bt (bl (low f n) (nw n)) (a+i)) ?_ λr hr=>?_
 ·unfold Ka;refine Bw (λk (s:Ayd)=>((k:Int),s)) (nw w) (λk s=>Cq s/\s.length=nw w/\∀i,i<64*k->bt s i=bt (bl (low f n) (nw n)) (a+i)) (λk s hk hI=>?_) (λs hI=>?_) (s0:=List.replicate (nw w) 0) ⟨Cq.rep,AwG,λi hi=>by omega⟩
  ·unfold Fg HC;simp only;rw[Hq hk,Awp];refine As.bind (AcK (FZ _ _) hI.1 (by rw[hI.2.1];exact hk) (by unfold nw at hk;omega) (by rw[F9];unfold nw at *;omega)) λr h=>As.mk ⟨r,?_,h.1,h.2.1.trans hI.2.1,λi hi=>?_⟩
   ·rw[show wI ((k:Int)+1)=((k+1:Nat):Int)from A3 (by omega) (by unfold nw at hk;omega)]
   ·rw[h.2.2 i];by_cases h3:i/64=k
    ·rw[Awr h3]
    ·rw[Aws h3,hI.2.2 i (by omega)]
  ·unfold Fg HC;simp only;rw[IB,Awo];exact As.mk hI
 ·unfold Kb;obtain⟨m,hm⟩:∃m,m=w%64:=⟨_,rfl⟩;have e2:Int.tmod (w:Int) 64=(m:Int):=by rw[Tf,hm]
  have e3:wI ((r.length:Int)-1)=((nw w-1:Nat):Int):=by rw[hr.2.1];exact A3 (by omega) (by unfold nw;omega)
  simp only[e2,e3,Awa,nn];refine As.bind (P:=λx=>x=bl (low (λi=>f (a+i)) w) (nw w)) (As.cond (λh=>?_) λh=>?_) λx hx=>As.mk (by rw[hx])
  ·simp only[bne_iff_ne]at h;rw[Awr ⟨by omega,by rw[hr.2.1];omega⟩,OB,Awr ⟨by omega,by rw[hr.2.1];omega⟩];have cS:Md (IntKind.u64.wrap (KW .u64 1 (m:Int)-1)):=v8 rfl (by omega);refine As.mk (Pn (hr.1.set (nh (hr.1.getD _) cS)) (FZ _ _) (by rw[Awi,hr.2.1,F9]) λi hi=>?_);rw[Awi,hr.2.1]at hi;rw[UB (by rw[hr.2.1];omega),HA];by_cases h3:i/64=nw w-1
   ·rw[Awr h3,vV (hr.1.getD _) cS,zD rfl (by omega)];have:tb (r.getD (nw w-1) 0) (i%64)=bt r i:=by unfold bt;rw[h3]
    rw[this,hr.2.2 i hi,HA];unfold nw at h3;by_cases h4:i<w
    ·simp[h4,show a+i<n by omega,show i%64<m by omega]
    ·simp[h4,show ¬i%64<m by omega]
   ·rw[Aws h3,hr.2.2 i hi,HA];unfold nw at h3 hi;simp[show i<w by omega,show a+i<n by omega]
  ·have h0:m=0:=by
     have:(m:Int)=0:=by simpa using h
     omega
   refine As.mk (Pn hr.1 (FZ _ _) (by rw[hr.2.1,F9]) λi hi=>?_);rw[hr.2.1]at hi;rw[hr.2.2 i hi,HA,HA];unfold nw at hi;simp[show i<w by omega,show a+i<n by omega]
theorem oS{l:Aye}(h1:1<=l.length)(h2:l.length<=4096):Hv (l.map bI)=some ((l.length:Int),true,bl (low (λi=>l.getD i false) l.length) (nw l.length)):=by
 unfold Hv Np;refine As.eq_ ?_;rw[Awl];have hn:nw l.length<=1048576:=by unfold nw;omega
 rw[show(decide ((l.length:Int)<1)||decide ((l.length:Int)>4096))=false by simp;omega,Awo,TY (by omega),Awr ⟨rfl,by omega,by omega,by omega,by omega⟩,Awa];unfold JL;refine As.bind (Bw (λk (s:Ayd)=>((k:Int),s)) l.length (λk s=>Cq s/\s.length=nw l.length/\∀i,bt s i=(decide (i<k)&&l.getD i false)) (Q:=λr=>r=bl (low (λi=>l.getD i false) l.length) (nw l.length)) (λk s hk hI=>?_) (λs hI=>?_) (s0:=List.replicate (nw l.length) 0) ⟨Cq.rep,AwG,λi=>by rw[rK];simp⟩) λr hr=>As.mk (by rw[hr])
 ·unfold EV Hg;have hq:k/64<s.length:=by rw[hI.2.1];unfold nw;omega
  have Anm:Md (bI (l.getD k false)):=by unfold bI;split<;>first |exact V6 |exact Tg
  have Arc:IntKind.u64.wrap (bI (l.getD k false))=bI (l.getD k false):=by cases l.getD k false<;>rfl
  have Q3:(l.map bI).getD k 0=bI (l.getD k false):=by simp[List.getD,hk]
  simp only[Awl,Zp (show k<4611686018427387904 by omega),Tf,Awa,nn,Q3,Arc,Qu (show(0:Int)<=((k%64:Nat):Int) by omega) (by omega)];rw[Hq hk,Awp,Awr ⟨by omega,by omega⟩,Awr (BS hk),OB,Awr ⟨by omega,by omega⟩];have H7:Md (KW .u64 (bI (l.getD k false)) ((k%64:Nat):Int)):=V7 Anm rfl (by omega);refine As.mk ⟨_,by rw[show wI ((k:Int)+1)=((k+1:Nat):Int)from A3],hI.1.set (WZ (hI.1.getD _) H7),by rw[Awi];exact hI.2.1,λi=>?_⟩;rw[UB hq];have tbb:∀b j,tb (bI b) j=(decide (j=0)&&b):=λb j=>by cases b<;>simp[bI,vW,RH]
  by_cases h3:i/64=k/64
  ·rw[Awr h3,mY (hI.1.getD _) H7,kY Anm rfl (by omega),tbb];have:tb (s.getD (k/64) 0) (i%64)=bt s i:=by unfold bt;rw[h3]
   rw[this,hI.2.2 i];rcases Nat.lt_trichotomy i k with h |h |h
   ·simp[h,show i<k+1 by omega,show ¬k%64<=i%64 by omega]
   ·subst h;simp[show i%64<64 by omega]
   ·simp[show ¬i<k by omega,show ¬i<k+1 by omega];omega
  ·rw[Aws h3,hI.2.2 i];by_cases h:i<k
   ·simp[h,show i<k+1 by omega]
   ·simp[h,show ¬i<k+1 by omega]
 ·unfold EV Hg;rw[Awl,IB,Awo];refine As.mk (Pn hI.1 (FZ _ _) (by rw[F9];exact hI.2.1) λi hi=>?_);rw[hI.2.2 i,HA]
theorem Vn{w:Int}{ws:Ayd}(h:ws.length<=1048576):Fo (w,ws,())=some (w,ws):=by
 unfold Fo;rw[Awr (by grind)]
end Go.Proofs.X
namespace Go.Proofs.X
open Go Go.Va
set_option maxRecDepth 100000
def Small(f:Ayi):Prop:=f.length<=1048576/\∀s∈f,s.2.2.2.1.2.1.length<=1048576
theorem AG{A:Type}{l:AyZ A}{z:A}{k:Nat}(h:k<l.length):l.getD k z∈l:=by
 rw[show l.getD k z=l[k] by simp[List.getD,h]];exact AwR h
theorem A4{A:Type}{l:AyZ A}{z:A}{k:Nat}(h:k<l.length):l.take (k+1)=l.take k++[l.getD k z]:=by
 rw[List.take_succ_eq_append_getElem h,show l.getD k z=l[k] by simp[List.getD,h]]
theorem BA{k n:Nat}(hk:k<n)(hn:n<=1048576):wI ((k:Int)+1)=((k+1:Nat):Int):=A3
def Cs{A:Type}(g:Nat->A)(z:A)(n k:Nat):AyZ A:=(List.range n).map λi=>if i<k then g i else z
theorem Nt{A:Type}(g:Nat->A)(z:A)(n:Nat):Cs g z n 0=List.replicate n z:=by
 refine Axl (by simp[Cs]) λi h1 h2=>by simp[Cs]
theorem Pg{A:Type}(g:Nat->A)(z:A){n k:Nat}:(Cs g z n k).set k (g k)=Cs g z n (k+1):=by
 refine Axl (by simp[Cs]) λi h1 h2=>?_;simp only[Cs,List.getElem_set,List.getElem_map,List.getElem_range];by_cases h:k=i
 ·subst h;simp
 ·rw[Aws h];by_cases h3:i<k
  ·rw[Awr h3,Mq]
  ·rw[Aws h3,OB]
theorem J7{A:Type}(g:Nat->A)(z:A)(n k:Nat):(Cs g z n k).length=n:=by simp[Cs]
theorem jP{A:Type}(l:AyZ A)(y z:A):Cs (λi=>l.getD i y) z l.length l.length=l:=by
 refine Axl (by simp[Cs]) λi h1 h2=>by simp[Cs,List.getD,h2]
theorem cw{f:Ayi}(h:Small f):Jz f=some f:=by
 unfold Jz Mt;have h1:=h.1;rw[Awr ⟨rfl,by omega,by omega,by omega,by omega⟩,Awa];rw[show fix (Cn f (f.length:Int)) (0,List.replicate f.length (0,0,0,(0,([]:Ayd),()),()))=some f from by
  have:=A2 (f:=Cn f (f.length:Int)) (λk=>((k:Int),Cs (λi=>f.getD i Ae.zero) (0,0,0,(0,([]:Ayd),()),()) f.length k)) (t:=f) f.length (λk hk=>by
   unfold Cn GQ;simp only[Hq hk,Awp,Awr (BS hk),Awa,J7];rw[Vn (h.2 _ (AG hk)),Av9,BA hk h1,<-Pg]) (by
   unfold Cn GQ;simp only[IB,Awo,jP])
  rw[Nt]at this;exact this]
 rfl
end Go.Proofs.X
namespace Go.Va
open Go.Proofs.X
inductive Bt
 |co (b:Bool)
 |va (v a:Nat)
inductive Sg
 |co (b:Aye)
 |va (v l n:Nat)
def Sg.bits:Sg->AyZ Bt
 |.co b=>b.map .co
 |.va v l n=>(List.range n).map λk=>.va v (l+k)
def Sg.w:Sg->Nat
 |.co b=>b.length
 |.va _ _ n=>n
def Bt.sg:Bt->Sg
 |.co b=>.co [b]
 |.va v a=>.va v a 1
def Sg.join:Sg->Sg->Ay0 Sg
 |.co a,.co b=>some (.co (a++b))
 |.va v l n,.va v' l' n'=>if v=v'/\l+n=l' then some (.va v l (n+n'))else none
 |_,_=>none
def Sg.VN(a b:Sg):Bool:=(a.join b).isSome
def FW(f:AyZ Sg)(s:Sg):AyZ Sg :=
 match f.getLast? with
 |none=>[s]
 |some l=>match l.join s with
  |some j=>f.dropLast++[j]
  |none=>f++[s]
def OG(f ss:AyZ Sg):AyZ Sg:=ss.foldl FW f
def Ss(f:AyZ Sg)(bs:AyZ Bt):AyZ Sg:=bs.foldl (λf b=>FW f b.sg) f
def AY(bs:AyZ Bt):AyZ Sg:=Ss [] bs
def CN(f:AyZ Sg):AyZ Bt:=f.flatMap Sg.bits
def BO(f:AyZ Sg):Nat:=(f.map Sg.w).sum
theorem PP(s:Sg):FW [] s=[s]:=rfl
theorem DG(g:AyZ Sg)(l s:Sg):FW (g++[l]) s=match l.join s with |some j=>g++[j]|none=>g++[l,s]:=by
 unfold FW;rw[List.getLast?_append];simp only[List.getLast?_singleton,Option.some_or,List.dropLast_concat];cases l.join s<;>simp
theorem Jw(s:Sg):s.bits.length=s.w:=by cases s<;>simp[Sg.bits,Sg.w]
theorem K6(f:AyZ Sg):(CN f).length=BO f:=by
 induction f with
 |nil=>rfl
 |cons s f ih=>simp only[CN,BO,List.flatMap_cons,Awd,Jw,AwU,Ax0]at *;rw[ih]
theorem aV{a b j:Sg}(h:a.join b=some j):j.bits=a.bits++b.bits:=by
 cases a<;>cases b<;>simp only[Sg.join]at h
 ·cases h;simp[Sg.bits]
 ·cases h
 ·cases h
 ·rename_i v l n v' l' n';split at h
  ·rename_i hc;cases h;obtain⟨rfl,rfl⟩:=hc;simp only[Sg.bits];rw[List.range_add,AwY,AxY];congr 1;refine Aw5 λk _=>?_;simp[Aw7]
  ·cases h
theorem Xf(f:AyZ Sg)(s:Sg):CN (FW f s)=CN f++s.bits:=by
 rcases Axa f with rfl |⟨g,l,rfl⟩
 ·simp[PP,CN]
 ·rw[Axb,DG];cases h:l.join s with
  |none=>simp[CN]
  |some j=>simp[CN,aV h]
theorem nQ(f:AyZ Sg)(bs:AyZ Bt):CN (Ss f bs)=CN f++bs:=by
 induction bs generalizing f with
 |nil=>simp[Ss]
 |cons b bs ih =>
  rw[show Ss f (b::bs)=Ss (FW f b.sg) bs from rfl,ih,Xf];cases b<;>simp[Bt.sg,Sg.bits]
theorem Ny(bs:AyZ Bt):CN (AY bs)=bs:=nQ [] bs
theorem Jv(f:AyZ Sg)(a b:AyZ Bt):Ss f (a++b)=Ss (Ss f a) b:=AxN
theorem kT(s:Sg)(h:2<=s.w):∃(t:Sg) (b:Bt),1<=t.w/\t.w<s.w/\s.bits=t.bits++[b]/\t.join b.sg=some s/\(∀l j:Sg,l.join t=some j->j.join b.sg=l.join s)/\(∀l:Sg,l.join t=none->l.join s=none):=by
 cases s with
 |co bs =>
  simp only[Sg.w]at h;rcases Axa bs with rfl |⟨cs,x,rfl⟩
  ·simp at h
  ·rw[Axb]at h⊢;refine⟨.co cs,.co x,?_,?_,?_,rfl,λl j hj=>?_,λl hl=>?_⟩
   ·simp[Sg.w]at h⊢;omega
   ·simp[Sg.w]
   ·simp[Sg.bits]
   ·cases l<;>simp only[Sg.join]at hj
    ·cases hj;simp[Sg.join,Bt.sg]
    ·cases hj
   ·cases l<;>simp[Sg.join]at hl⊢
 |va v l n =>
  simp only[Sg.w]at h;obtain⟨m,rfl⟩:∃m,n=m+1:=⟨n-1,by omega⟩;refine⟨.va v l m,.va v (l+m),by simp[Sg.w];omega,by simp[Sg.w],?_,by simp[Sg.join,Bt.sg],λk j hj=>?_,λk hk=>?_⟩
  ·simp[Sg.bits,Axq]
  ·cases k<;>simp only[Sg.join]at hj
   ·cases hj
   ·split at hj
    ·rename_i hc;cases hj;obtain⟨rfl,rfl⟩:=hc;simp[Sg.join,Bt.sg,Aw7]
    ·cases hj
  ·cases k with
   |co b=>rfl
   |va v' l' n' =>
    simp only[Sg.join]at hk⊢;split at hk
    ·cases hk
    ·rename_i hc;rw[Aws hc]
theorem S7:∀(n:Nat) (s:Sg) (f:AyZ Sg),s.w=n->1<=n->FW f s=Ss f s.bits:=by
 intro n;induction n using Nat.strongRecOn with
 |_ n ih =>
  intro s f hn h1;rcases Awk 1 n with h |h
  ·obtain⟨t,b,ht1,ht2,hb,hj,hlj,hln⟩:=kT s (by omega);rw[hb,Jv,<-ih t.w (by omega) t f rfl ht1];show _=FW (FW f t) b.sg;rcases Axa f with rfl |⟨g,l,rfl⟩
   ·rw[PP,PP,show[t]=[]++[t]from rfl,DG,hj];rfl
   ·rw[Axb,DG,DG];cases hl:l.join t with
    |none =>
     rw[hln l hl];simp only;rw[show g++[l,t]=(g++[l])++[t] by simp,DG,hj];simp
    |some j =>
     simp only;rw[DG,hlj l j hl];cases hls:l.join s with
     |some k=>rfl
     |none =>
      have:=hlj l j hl;rw[hls]at this
      exfalso
      cases l<;>cases s<;>cases t<;>simp[Sg.join]at hl hls hj
      all_goals first |(cases b<;>simp[Bt.sg,Sg.join]at hj<;>done)|skip
      all_goals (cases b<;>simp[Bt.sg,Sg.join]at hj;try omega)
  ·have:n=1:=by omega
   subst this;have hs:∃b:Bt,s=b.sg/\s.bits=[b]:=by
    cases s with
    |co bs =>
     simp only[Sg.w]at hn;obtain⟨x,rfl⟩:=List.length_eq_one_iff.1 hn;exact⟨.co x,rfl,rfl⟩
    |va v l m =>
     simp only[Sg.w]at hn;subst hn;exact⟨.va v l,rfl,by simp[Sg.bits]⟩
   obtain⟨b,hb,Ann⟩:=hs;rw[Ann,hb];rfl
def T2(f:AyZ Sg):Prop:=∀s∈f,1<=s.w
theorem Xh{f ss:AyZ Sg}(h:T2 ss):OG f ss=Ss f (CN ss):=by
 induction ss generalizing f with
 |nil=>rfl
 |cons s ss ih =>
  rw[show OG f (s::ss)=OG (FW f s) ss from rfl,ih λx hx=>h x (AwB _ hx),S7 _ s f rfl (h s AwE),show CN (s::ss)=s.bits++CN ss from rfl,Jv]
theorem Ady{a b j:Sg}(h:a.join b=some j):j.w=a.w+b.w:=by rw[<-Jw,aV h,Awd,Jw,Jw]
theorem Xg{f:AyZ Sg}{s:Sg}(hf:T2 f)(hs:1<=s.w):T2 (FW f s):=by
 rcases Axa f with rfl |⟨g,l,rfl⟩
 ·intro x hx;rw[PP,AwA]at hx;rw[hx];exact hs
 ·rw[Axb]at hf⊢;rw[DG];have hl:=hf l (by simp);cases h:l.join s with
  |none =>
   intro x hx;simp only[Axz,Axm,AxD,or_false]at hx;rcases hx with hx |rfl |rfl
   ·exact hf x (by simp[hx])
   ·exact hl
   ·exact hs
  |some j =>
   intro x hx;simp only[Axz,Axm,AxD,or_false]at hx;rcases hx with hx |rfl
   ·exact hf x (by simp[hx])
   ·rw[Ady h];omega
theorem AdL(b:Bt):b.sg.w=1:=by cases b<;>rfl
theorem nR{f:AyZ Sg}(hf:T2 f)(bs:AyZ Bt):T2 (Ss f bs):=by
 induction bs generalizing f with
 |nil=>exact hf
 |cons b bs ih=>exact ih (Xg hf (by rw[AdL];exact Awf _))
theorem D6(bs:AyZ Bt):T2 (AY bs):=nR (λx hx=>by cases hx) bs
theorem Dd(bs:AyZ Bt):BO (AY bs)=bs.length:=by rw[<-K6,Ny]
theorem hY(a b:AyZ Bt):OG (AY a) (AY b)=AY (a++b):=by
 rw[Xh (D6 b),Ny];exact(Jv [] a b).symm
theorem Dn{f:AyZ Sg}(h:T2 f):f.length<=BO f:=by
 induction f with
 |nil=>exact Awf _
 |cons s f ih =>
  have:=ih λx hx=>h x (AwB _ hx);have:=h s AwE;simp only[BO,Axg,AwU,Ax0]at *;omega
end Go.Va
namespace Go.Proofs.X
open Go Go.Va
set_option maxRecDepth 100000
def dt(bs:Aye):Ax3:=qp bs.length λi=>bs.getD i false
def KV:Sg->Ax8
 |.co bs=>(-1,0,(bs.length:Int),dt bs,())
 |.va v l n=>((v:Int),(l:Int),(n:Int),(0,[],()),())
def Ts:Bt->Ax5
 |.co b=>(-1,bI b,())
 |.va v a=>((v:Int),(a:Int),())
def fV(f:AyZ Sg):Ayi:=f.map KV
def bV(f:AyZ Bt):Ayf:=f.map Ts
def Rm:Sg->Prop
 |.co bs=>bs.length<=4096
 |.va v l n=>v<=4096/\l+n<=4096
theorem kv{bs:Aye}{n:Nat}{f:Nat->Bool}(hl:bs.length=n)(h:∀i,i<n->bs.getD i false=f i):dt bs=qp n f:=by
 unfold dt;rw[hl];exact o8 h
theorem uS{a b:Aye}(h:a.length+b.length<=8192):∃r,Fh (dt b) (dt a)=some r/\(r.1,r.2,())=dt (a++b):=by
 refine⟨_,zh (by omega),(kv (by grind) λi hi=>?_).symm⟩
 grind
theorem yf{bs:Aye}{a w:Nat}(hn:bs.length<=8192)(h1:1<=w)(h:a+w<=bs.length):∃r,Gw (dt bs) (a:Int) (w:Int)=some r/\(r.1,r.2,())=dt ((bs.drop a).take w):=by
 refine⟨_,AcL (by omega) h1 h,(kv (by grind) λi hi=>?_).symm⟩;simp[hi]
theorem uC{a b:Sg}(ha:Rm a):CP (KV a) (KV b)=a.VN b:=by
 cases a with
 |co x =>
  cases b with
  |co y=>simp[CP,KV,Sg.VN,Sg.join]
  |va v l n =>
   simp only[CP,KV,Sg.VN,Sg.join,Axv];simp
 |va v l n =>
  cases b with
  |co y =>
   simp only[CP,KV,Sg.VN,Sg.join,Axv];simp
  |va v' l' n' =>
   simp only[Rm]at ha;simp only[CP,KV,Sg.VN,Sg.join];rw[show wI _=((l+n))from A3]
   grind
theorem oD{A:Type}(g:AyZ A)(x z:A):(g++[x]).getD g.length z=x:=by grind
theorem Zf{A:Type}(g:AyZ A)(x y:A):(g++[x]).set g.length y=g++[y]:=by simp
theorem Ns(f g:AyZ Sg):fV (f++g)=fV f++fV g:=AwY
theorem Cf(f:AyZ Sg):(fV f).length=f.length:=Awl _
theorem Mm{A B:Type}(f:A->B){l:AyZ A}{k:Nat}{y:A}{z:B}(h:k<l.length):(l.map f).getD k z=f (l.getD k y):=by grind
theorem kI{ss f:AyZ Sg}{k:Nat}{b:Int}(hk:k<ss.length)(hs:Rm (ss.getD k (.co [])))(hf:∀s∈f,Rm s)(hl:f.length<=1048576):Ld (fV ss) b (k:Int) (fV f)=some (fV (FW f (ss.getD k (.co [])))):=by
 obtain⟨s,hse⟩:∃s,s=ss.getD k (.co []):=⟨_,rfl⟩;have Q3:(fV ss).getD k Ae.zero=KV s:=by rw[hse];exact Mm KV hk
 rw[<-hse]at hs⊢;unfold Ld;rw[Awr (BS (by rw[Cf];exact hk)),Awa,Q3];rcases Axa f with rfl |⟨g,l,rfl⟩
 ·rfl
 ·rw[Axb]at hf hl⊢;have hbl:Rm l:=hf l (by simp);have oH:(fV (g++[l])).length=g.length+1:=by rw[Cf,Awd];rfl
  have e1:wI (((fV (g++[l])).length:Int)-1)=(g.length:Int):=by
   exact A3 (by omega) (by grind)
  have hgl:(fV (g++[l])).getD g.length Ae.zero=KV l:=by
   rw[Ns,<-Cf g];exact oD _ _ _
  have e2:decide ((g.length:Int)<0)=false:=by simp
  have e3:(0:Int)<=(g.length:Int)/\(g.length:Int)<((fV (g++[l])).length:Int):=⟨by omega,by omega⟩;rw[e1,DG];unfold NU;rw[e2,Awo,Awr e3,Awa,hgl,uC hbl];cases hj:l.join s with
  |none =>
   rw[show l.VN s=false by unfold Sg.VN;rw[hj];rfl];show(if(_+1)*56<=_ then _ else none)=_;rw[Awr (by grind)];simp[fV]
  |some j =>
   rw[show l.VN s=true by unfold Sg.VN;rw[hj];rfl];show(Lc (fV ss) b (k:Int) (fV (g++[l])) (g.length:Int) (KV s)).bind _=_;unfold Lc;cases l with
   |co x =>
    cases s with
    |va v' l' n'=>simp[Sg.join]at hj
    |co y =>
     simp only[Sg.join,Awb]at hj;subst hj;simp only[Rm]at hbl hs;obtain⟨r,Vb,mq⟩:=uS (a:=x) (b:=y) (by omega);rw[show((KV (.co y)).1==(-1:Int))=true from rfl,Awp,Awr e3,Awa,hgl];rw[show Fh (KV (.co y)).2.2.2.1 (KV (.co x)).2.2.2.1=some r from Vb,Av9,Awr e3,mq,Av9];have e4:(0:Int)<=(g.length:Int)/\(g.length:Int)<(((fV (g++[Sg.co x])).set g.length ((KV (.co x)).1,(KV (.co x)).2.1,(KV (.co x)).2.2.1,dt (x++y),(KV (.co x)).2.2.2.2)).length:Int):=by grind
     rw[Awr e4,Awr e4];have F2:(fV (g++[Sg.co x])).set g.length ((KV (.co x)).1,(KV (.co x)).2.1,(KV (.co x)).2.2.1,dt (x++y),(KV (.co x)).2.2.2.2)=fV g++[(-1,0,(x.length:Int),dt (x++y),())]:=by
      rw[Ns,<-Cf g];exact Zf _ _ _
     rw[F2,show(fV g++[((-1,0,(x.length:Int),dt (x++y),()):Ax8)]).getD g.length Ae.zero=(-1,0,(x.length:Int),dt (x++y),()) by grind];rw[show wI ((x.length:Int)+(KV (.co y)).2.2.1)=(((x++y).length:Nat):Int) by
      rw[Awd];exact A3 (by show(x.length:Int)+(y.length:Int)=_;omega) (by omega)]
     rw[Ns,<-Cf g,Zf];rfl
   |va v l n =>
    cases s with
    |co y=>simp[Sg.join]at hj
    |va v' l' n' =>
     simp only[Rm]at hbl hs;simp only[Sg.join]at hj;split at hj
     ·cases hj;rw[show((KV (.va v' l' n')).1==(-1:Int))=false by simp[KV],Awo,Av9,Awr e3,Awr e3];rw[hgl];rw[show wI ((KV (.va v l n)).2.2.1+(KV (.va v' l' n')).2.2.1)=((n+n':Nat):Int)from A3 (by show(n:Int)+(n':Int)=_;omega) (by omega)];rw[Ns,<-Cf g];show some (List.set (fV g++[KV (.va v l n)]) (fV g).length _)=_;rw[Zf,Ns];rfl
     ·grind
theorem VY{f:AyZ Sg}{s:Sg}(hf:∀x∈f,Rm x)(hs:Rm s)(hw:BO f+s.w<=4096):∀x∈FW f s,Rm x:=by
 rcases Axa f with rfl |⟨g,l,rfl⟩
 ·intro x hx;rw[PP,AwA]at hx;rw[hx];exact hs
 ·rw[Axb]at hf hw⊢;rw[DG];have hl:=hf l (by simp);cases h:l.join s with
  |none =>
   grind
  |some j =>
   intro x hx;simp only[Axz,Axm,AxD,or_false]at hx;rcases hx with hx |rfl
   ·grind
   ·cases l<;>cases s<;>simp only[Sg.join]at h
    ·cases h;simp only[BO,AwY,List.sum_append,AwU,Ax0,Sg.w]at hw;simp only[Rm,Awd];omega
    ·grind
    ·grind
    ·split at h
     ·cases h;simp only[Rm]at hl hs⊢;omega
     ·grind
theorem Y7(f:AyZ Sg)(s:Sg):BO (FW f s)=BO f+s.w:=by
 rw[<-K6,Xf,Awd,K6,Jw]
theorem M5{f:AyZ Sg}{k:Nat}(h:k<f.length):BO (f.take (k+1))=BO (f.take k)+(f.getD k (.co [])).w:=by
 rw[A4 h (z:=.co [])];simp[BO]
theorem HX(f:AyZ Sg)(k:Nat):BO (f.take k)<=BO f:=by
 have:BO f=BO (f.take k)+BO (f.drop k):=by
  unfold BO;rw[<-List.sum_append,<-AwY,Axs]
 omega
theorem hU{ss f:AyZ Sg}(h1:T2 ss)(h2:T2 f)(hs:∀s∈ss,Rm s)(hf:∀s∈f,Rm s)(hw:BO f+BO ss<=4096):Di (fV ss) (fV f)=some (fV (OG f ss)):=by
 unfold Di QC;have hlen:=Dn h1;have Q6:∀k,k<=ss.length->T2 (OG f (ss.take k))/\(∀s∈OG f (ss.take k),Rm s)/\BO (OG f (ss.take k))=BO f+BO (ss.take k):=by
  intro k;induction k with
  |zero=>exact λ_=>⟨h2,hf,rfl⟩
  |succ k ih =>
   intro hk;obtain⟨i1,i2,i3⟩:=ih (by omega);have hm:ss.getD k (.co [])∈ss:=AG (by omega);have hwk:=M5 (show k<ss.length by omega);have:=HX ss (k+1);have e:OG f (ss.take (k+1))=FW (OG f (ss.take k)) (ss.getD k (.co [])):=by
    rw[A4 (show k<ss.length by omega)];exact AxN
   rw[e];exact⟨Xg i1 (h1 _ hm),VY i2 (hs _ hm) (by omega),by rw[Y7,hwk];omega⟩
 have:=A2 (f:=Eo _ ((fV ss).length)) (λk=>(k,fV _))  ss.length (λk hk=>by
  obtain⟨i1,i2,i3⟩:=Q6 k (by omega);have hm:ss.getD k (.co [])∈ss:=AG hk;have:=HX ss k;unfold Eo Lm;rw[Cf,Hq hk,Awp];rw[kI hk (hs _ hm) i2 (by have:=Dn i1;omega),Av9,BA hk (by omega),A4 hk ];rw[show OG f (ss.take k++[ss.getD k _])=FW (OG f _) _ from AxN]) (by
  unfold Eo Lm;rw[Cf,IB,Awo,Awj (Awf _)])
 rw[show fix (Eo _ _) (0,fV f)=some _ from this];rfl
theorem cF{f:AyZ Sg}(h1:T2 f)(hw:BO f<=4096):G8 (fV f)=some (BO f:Int):=by
 unfold G8 Mu;have hlen:=Dn h1;have:=A2 (f:=Cp _ ((fV f).length)) (λk=>((BO _),k))  f.length (λk hk=>by
  have h1:=M5 hk;have h2:=HX f (k+1);unfold Cp GU;rw[Cf,Hq hk,Awp,Awr (BS hk),Awa];rw[BA hk (by omega),show(fV f).getD k _=KV _ from Mm KV hk];rw[show(KV _).2.2.1=((f.getD k _).w) by cases f.getD k _<;>rfl];rw[show wI ((BO (f.take k))+((f.getD k (.co [])).w))=(BO (f.take (k+1)))from A3]) (by
  unfold Cp GU;rw[Cf,IB,Awo,Awj (Awf _)])
 rw[show fix (Cp _ _) (0,0)=some _ from this];rfl
end Go.Proofs.X
namespace Go.Proofs.X
open Go Go.Va
set_option maxRecDepth 100000
def part(s:Sg)(a w:Nat):Sg :=
 match s with
 |.co bs=>.co ((bs.drop a).take w)
 |.va v l _=>.va v (l+a) w
theorem br{s:Sg}{a w:Nat}(h:a+w<=s.w):(part s a w).bits=(s.bits.drop a).take w:=by
 cases s with
 |co bs=>simp[part,Sg.bits]
 |va v l n =>
  simp only[Sg.w]at h;simp only[part,Sg.bits];refine Axl (by grind) λi h1 h2=>?_;simp[Aw7]
theorem kC{s:Sg}{a w:Nat}(h:a+w<=s.w):(part s a w).w=w:=by
 rw[<-Jw,br h,Awu,AwJ,Jw];omega
theorem kB{s:Sg}{a w:Nat}(hs:Rm s)(h:a+w<=s.w):Rm (part s a w):=by
 cases s with
 |co bs=>simp only[part,Rm,Awu,AwJ]at *;omega
 |va v l n=>simp only[part,Rm,Sg.w]at *;omega
theorem kN{s:Sg}{a w:Nat}(hs:Rm s)(h1:1<=w)(h:a+w<=s.w):∃r,Lb (KV s) (a:Int) (w:Int)=some r/\(r.1,r.2.1,r.2.2.1,(r.2.2.2.1,r.2.2.2.2,()),())=KV (part s a w):=by
 unfold Lb;cases s with
 |co bs =>
  simp only[Rm]at hs;simp only[Sg.w]at h;obtain⟨r,Vb,mq⟩:=yf (show bs.length<=8192 by omega) h1 h;rw[show((KV _).1==-1)=true from rfl,show Gw (KV (.co bs)).2.2.2.1 _ w=some r from Vb];refine⟨_,rfl,?_⟩;have hw:r.1=w:=by
   have:=congrArg (λx =>x.1) mq;have e:r.1=((((bs.drop a).take w).length)):=this;rw[e,Awu,AwJ];omega
  show(-1,0,r.1,(r.1,r.2,()),())=KV (.co _);rw[mq];rw[show KV _=(-1,0,(((bs.drop a).take w).length:Int),dt _,())from rfl,hw,show((bs.drop a).take w).length=w by grind]
 |va v l n =>
  simp only[Rm]at hs;simp only[Sg.w]at h;refine⟨_,rfl,?_⟩;simp only[part,KV];rw[show wI _=((l+a:Nat))from A3]
theorem fJ{f:AyZ Sg}{k:Nat}(h:k<f.length):(fV f).getD k Ae.zero=KV (f.getD k (.co [])):=Mm KV h
theorem RV{f:AyZ Sg}{k:Nat}(h:k<f.length):CN (f.take (k+1))=CN (f.take k)++(f.getD k (.co [])).bits:=by
 rw[A4 h (z:=.co [])];simp[CN]
theorem Zg(s:Sg):(KV s).2.2.1=(s.w:Int):=by cases s<;>rfl
theorem sB{B S:AyZ Bt}{lo w:Nat}:((B++S).drop lo).take w=(B.drop lo).take w++(S.drop (max lo B.length-B.length)).take (min (lo+w) (B.length+S.length)-max lo B.length):=by
 rw[List.drop_append,List.take_append,AwJ];congr 1;rw[show max lo B.length-B.length=lo-B.length by omega,List.take_eq_take_iff,AwJ];omega
theorem PI{bs:AyZ Bt}(hb:∀b∈bs,Rm b.sg)(hl:bs.length<=4096):∀s∈AY bs,Rm s:=by
 have:∀(bs:AyZ Bt) (f:AyZ Sg),(∀b∈bs,Rm b.sg)->(∀s∈f,Rm s)->BO f+bs.length<=4096->∀s∈Ss f bs,Rm s:=λbs=>by
  induction bs with
  |nil=>exact λf _ h _=>h
  |cons b bs ih =>
   intro f hb hf hw;simp only[Axg]at hw;exact ih _ (λx hx=>hb x (AwB _ hx)) (VY hf (hb b AwE) (by rw[AdL];omega)) (by rw[Y7,AdL];omega)
 exact this bs [] hb (λs hs=>by grind) (by show 0+_<=_;omega)
theorem fM{f:AyZ Sg}{lo w:Nat}(h1:T2 f)(hf:∀s∈f,Rm s)(hb:∀b∈CN f,Rm b.sg)(hw:BO f<=4096)(qk:lo+w<=8192):Du (fV f) (lo:Int) (w:Int)=some (fV (AY (((CN f).drop lo).take w))):=by
 unfold Du Nx;have hlen:=Dn h1;have:=A2 (f:=Dh (lo:Int) (w:Int) (fV f) ((fV f).length:Int)) (λk=>((BO (f.take k):Int),(k:Int),fV (AY (((CN (f.take k)).drop lo).take w)))) (t:=fV (AY (((CN f).drop lo).take w))) f.length (λk hk=>by
  have hwk:=M5 hk;have TK:=HX f (k+1);have hm:f.getD k (.co [])∈f:=AG hk;obtain⟨s,hs⟩:∃s,s=f.getD k (.co []):=⟨_,rfl⟩;have hB:(CN (f.take k)).length=BO (f.take k):=K6 _;have tM:∀b∈((CN (f.take k)).drop lo).take w,b∈CN f:=λb hb=>by
   have:=AxA (Aw8 hb);rw[show CN f=CN (f.take k)++CN (f.drop k) by unfold CN;rw[<-AxT,Axs]];exact AwH _ this
  unfold Dh HF;simp only;rw[Cf,Hq hk,Awp,Awr (BS hk),Awa,fJ hk,BA hk (by omega),RV hk,sB,hB,Jw,hwk];rw[<-hs]at hm hwk⊢;rw[Zg,show wI ((BO (f.take k):Int)+(s.w:Int))=((BO (f.take k)+s.w:Nat):Int)from A3,show wI ((lo:Int)+(w:Int))=((lo+w:Nat):Int)from A3];generalize hA:BO (f.take k)=A at *;rw[show(if(A:Int)>(lo:Int)then(A:Int)else(lo:Int))=((max lo A:Nat):Int) by split<;>omega];rw[show(if((A+s.w:Nat):Int)<((lo+w:Nat):Int)then((A+s.w:Nat):Int)else((lo+w:Nat):Int))=((min (lo+w) (A+s.w):Nat):Int) by split<;>omega];unfold Ke;by_cases Cw:max lo A<min (lo+w) (A+s.w)
  ·rw[show decide (((max lo A:Nat):Int)<((min (lo+w) (A+s.w):Nat):Int))=true by simp only[Axc];omega,Awp];rw[show wI (((max lo A:Nat):Int)-(A:Int))=((max lo A-A:Nat):Int)from A3,show wI (((min (lo+w) (A+s.w):Nat):Int)-((max lo A:Nat):Int))=((min (lo+w) (A+s.w)-max lo A:Nat):Int)from A3];have Hs:max lo A-A+(min (lo+w) (A+s.w)-max lo A)<=s.w:=by omega
   obtain⟨r,Vb,mq⟩:=kN (a:=max lo A-A) (w:=min (lo+w) (A+s.w)-max lo A) (hf s hm) (by omega) Hs;rw[Vb,Av9,mq];rw[show([KV (part s (max lo A-A) (min (lo+w) (A+s.w)-max lo A))]:Ayi)=fV [part s (max lo A-A) (min (lo+w) (A+s.w)-max lo A)]from rfl];rw[hU (λx hx=>by rw[AwA]at hx;rw[hx,kC Hs];omega) (D6 _) (λx hx=>by rw[AwA]at hx;rw[hx];exact kB (hf s hm) Hs)
    (PI (λb oG=>hb b (tM b oG)) (by rw[Awu,AwJ,hB];omega)) (by
     rw[Dd,Awu,AwJ,hB];show _+(BO [part s _ _])<=_;rw[show BO [part s (max lo A-A) (min (lo+w) (A+s.w)-max lo A)]=min (lo+w) (A+s.w)-max lo A by simp only[BO,AwU,List.map_nil,Ax0,List.sum_nil,kC Hs];rfl];omega)]
   simp only[Av9];rw[Xh (λx hx=>by rw[AwA]at hx;rw[hx,kC Hs];omega)];rw[show CN [part s (max lo A-A) (min (lo+w) (A+s.w)-max lo A)]=(s.bits.drop (max lo A-A)).take (min (lo+w) (A+s.w)-max lo A) by simp[CN,br Hs]];rw[show ∀a b:AyZ Bt,Ss (AY a) b=AY (a++b)from λa b=>(Jv [] a b).symm]
  ·rw[show decide (((max lo A:Nat):Int)<((min (lo+w) (A+s.w):Nat):Int))=false by simp only[AwV];omega,Awo];simp only[Av9];rw[show min (lo+w) (A+s.w)-max lo A=0 by omega,List.take_zero,AwO]) (by
  unfold Dh HF;simp only;rw[Cf,IB,Awo,Awj (Awf _)])
 have h0:((BO (f.take 0):Int),((0:Nat):Int),fV (AY (((CN (f.take 0)).drop lo).take w)))=((0:Int),(0:Int),([]:Ayi)):=by
  simp[BO,CN,AY,Ss,fV]
 rw[h0]at this;rw[this];rfl
def BtB:Bt->Prop
 |.co _=>True
 |.va v a=>v<=4096/\a+1<=4096
theorem cm{b:Bt}(h:BtB b):Rm b.sg:=by
 cases b with
 |co b=>simp[Bt.sg,Rm]
 |va v a=>exact h
theorem Em(f:AyZ Bt):(bV f).length=f.length:=Awl _
theorem QR(f g:AyZ Bt):bV (f++g)=bV f++bV g:=AwY
theorem b9{f:AyZ Bt}{k:Nat}(h:k<f.length):(bV f).getD k Aa.zero=Ts (f.getD k (.co false)):=Mm Ts h
theorem J0{f:AyZ Bt}{k:Nat}(h:k<f.length):f.take (k+1)=f.take k++[f.getD k (.co false)]:=A4 h
theorem o9(bs:Aye):(dt bs).2.1.length=nw bs.length/\Cq (dt bs).2.1:=⟨F9 _ _,FZ _ _⟩
theorem zd{bs:Aye}{k:Nat}(h:k<bs.length)(hl:bs.length<=8192):GF (dt bs) (k:Int)=some (bI (bs.getD k false)):=by
 have:=YN (w:=bs.length) (FZ (low (λi=>bs.getD i false) bs.length) (nw bs.length)) (i:=k) (by rw[F9];unfold nw;omega) (by rw[F9];unfold nw;omega);rw[rJ h]at this;exact this
theorem kj{f:AyZ Sg}{i:Nat}{B:AyZ Bt}(hi:i<f.length)(hs:Rm (f.getD i (.co [])))(hB:B.length<=8192):PV (fV f) (i:Int) 0 (bV B)=some (bV (B++(f.getD i (.co [])).bits)):=by
 obtain⟨s,hse⟩:∃s,s=f.getD i (.co []):=⟨_,rfl⟩;rw[<-hse]at hs⊢;have hsw:s.w<=4096:=by cases s<;>simp only[Rm,Sg.w]at *<;>omega
 have:=A2 (f:=EW _ _) (λk=>(k,bV (B++s.bits.take k)))  s.w (λk hk=>by
  unfold EW KA MU;simp only;have eM:0<=(i:Int)/\i<((fV f).length:Int):=BS (by rw[Cf];exact hi);rw[Awr eM,Awa,fJ hi,<-hse,Zg,Hq hk,Awp,Awr eM];have hlen:(bV (B++s.bits.take k)).length<=20000:=by rw[Em,Awd,Awu];omega
  have YC:k<s.bits.length:=by rw[Jw];exact hk
  rw[BA hk (by omega),J0 YC,<-Awh,show bV (B++s.bits.take k++[s.bits.getD k _])=bV _++[Ts _]from QR _ _];cases s with
  |co bs =>
   simp only[Sg.w]at hk hsw;rw[show decide _=true from rfl,Awp,Awr eM,show GF (KV (.co bs)).2.2.2.1 _=some _ from zd hk (by omega),Av9];rw[Awr (by grind)];rw[show wI _=bI (bs.getD k _) by cases bs.getD k _<;>rfl];rw[show(Sg.co bs).bits.getD k _=.co (bs.getD k _) by simp[Sg.bits,hk]];rfl
  |va v l n =>
   simp only[Sg.w,Rm]at hk hs hsw;rw[show decide ((KV (.va v l n)).1<0)=false from Awc (show ¬((v:Int)<0) by omega),Awo,Awr eM,Awr eM,Awr (by grind)];rw[show wI _=((l+k))from A3 (by show l+(k:Int)=_;omega) (by omega)];rw[show(Sg.va v l n).bits.getD k _=.va v (l+k) by simp[Sg.bits,hk]];rfl) (by
  unfold EW KA;have eM:0<=(i:Int)/\i<((fV f).length:Int):=BS (by rw[Cf];exact hi);rw[Awr eM,Awa,fJ hi,<-hse,Zg,IB,Awo,<-Jw,Awj (Awf _)])
 rw[List.take_zero,AwO]at this;exact this
theorem oT{f:AyZ Sg}(h1:T2 f)(hf:∀s∈f,Rm s)(hw:BO f<=4096):Ot (fV f)=some (bV (CN f)):=by
 unfold Ot PW;have hlen:=Dn h1;have:=A2 (f:=Dp _) (λk=>(k,bV (CN (f.take k))))  _ (λk hk=>by
  unfold Dp KB;have:=HX f k;rw[Cf,Hq hk,Awp,kj hk (hf _ (AG hk)) (by rw[K6];omega),Av9,BA hk (by omega),RV hk]) (by
  unfold Dp KB;rw[Cf,IB,Awo,Awj (Awf _)])
 rw[show fix (Dp _) (0,[])=some _ from this];rfl
end Go.Proofs.X
namespace Go.Proofs.X
open Go Go.Va
set_option maxRecDepth 100000
theorem xe(b:Bt):decide ((Ts b).1<0)=(match b with |.co _=>true |.va _ _=>false):=by
 cases b with
 |co b=>rfl
 |va v a=>exact Awc (show ¬((v:Int)<0) by omega)
theorem AdJ{B:AyZ Bt}{D:Ayi}{i:Nat}{b:Bool}(hi:i<B.length)(hb:B.getD i (.co false)=.co b)(hl:B.length<=4096) :
    As (PX (bV B) D ((i+1:Nat):Int) [bI b]) λr=>∃bs:Aye,r=(((i+bs.length:Nat):Int),bs.map bI)/\1<=bs.length/\i+bs.length<=B.length/\bs.getD 0 false=b/\B.take (i+bs.length)=B.take i++bs.map .co/\(i+bs.length<B.length->∃v a,B.getD (i+bs.length) (.co false)=.va v a):=by
 refine BJ (λm x=>∃bs:Aye,x=(((i+bs.length:Nat):Int),bs.map bI)/\1<=bs.length/\i+bs.length<=B.length/\bs.getD 0 false=b/\B.take (i+bs.length)=B.take i++bs.map .co/\m=B.length-(i+bs.length)) (λm x hI=>?_) _ _ ⟨[b],rfl,by simp,hi,rfl,by
  show B.take (i+1)=_;rw[J0 hi,hb];rfl,rfl⟩
 obtain⟨bs,rfl,h1,h2,h3,h4,rfl⟩:=hI;unfold KC NH MW;rcases Awk _ _ with h |h
 ·rw[Em,Hq h,Awr (BS h),Awa,b9 h];cases hx:B.getD _ _ with
  |co y =>
   rw[Awr (BS h),Awr (by grind),BA h (by omega)];refine As.mk ⟨_,?_,bs++[y],?_,by simp,by grind,?_,?_,rfl⟩
   ·grind
   ·rw[show IntKind.u8.wrap _=bI y by cases y<;>rfl];simp[Aw7]
   ·grind
   ·rw[Awd];show B.take (i+bs.length+1)=_;rw[J0 h,h4,hx,AwY,Awh];rfl
  |va v a =>
   exact As.mk ⟨bs,rfl,h1,h2,h3,h4,λ_=>⟨v,a,hx⟩⟩
 ·rw[Em,show decide _=false from GL,Awo,Av9];exact As.mk ⟨bs,rfl,h1,h2,h3,h4,λh'=>absurd h' (by omega)⟩
theorem AdK{B:AyZ Bt}{D:Ayi}{i v a:Nat}(hi:i<B.length)(hb:B.getD i (.co false)=.va v a)(hB:∀b∈B,BtB b)(hl:B.length<=4096) :
    As (MY (bV B) (i:Int) D ((i+1:Nat):Int)) λr=>∃n,r=((i+n:Nat):Int)/\1<=n/\i+n<=B.length/\B.take (i+n)=B.take i++(Sg.va v a n).bits/\(i+n<B.length->(Sg.va v a n).join (B.getD (i+n) (.co false)).sg=none):=by
 unfold MY;refine BJ (λm (x:Int)=>∃n,x=((i+n:Nat):Int)/\1<=n/\i+n<=B.length/\B.take (i+n)=B.take i++(Sg.va v a n).bits/\m=B.length-(i+n)) (λm x hI=>?_) (B.length-(i+1)) _ ⟨1,rfl,by omega,hi,by
  rw[J0 hi,hb];rfl,rfl⟩
 obtain⟨n,rfl,h1,h2,h4,rfl⟩:=hI;unfold KD NI MX;have Aa0:B.getD (i+n-1) (.co false)=.va v (a+n-1):=by
  have e:(B.take (i+n)).getD (i+n-1) (.co false)=B.getD (i+n-1) (.co false):=by
   simp only[List.getD,Aw9,show i+n-1<i+n by omega,AwS]
  rw[<-e,h4];have hti:(B.take i).length=i:=by rw[Awu];omega
  simp only[List.getD,Awz,hti,show ¬i+n-1<i by omega,Axo];rw[show i+n-1-i=n-1 by omega];simp only[Sg.bits,AwC,List.getElem?_range,show n-1<n by omega,Option.map_some,Option.getD_some];congr 1;omega
 have KP:=hB (.va v (a+n-1)) (by rw[<-Aa0];exact AG (by omega));simp only[BtB]at KP;rcases Awk (i+n) B.length with h |h
 ·rw[Em,Hq h,Awp,Awr (BS h),Awa,Awa,b9 h,Awr (BS hi),b9 hi,hb];rw[show wI (((i+n:Nat):Int)-1)=((i+n-1:Nat):Int)from A3,Awa,b9 (by omega),Aa0,Awr (BS h),Awr (BS (by omega))];rw[show wI ((Ts (.va v (a+n-1))).2.1+1)=((a+n:Nat):Int)from A3 (by show((a+n-1:Nat):Int)+1=_;omega) (by omega)];by_cases hc:B.getD (i+n) (.co false)=.va v (a+n)
  ·rw[hc];rw[show((Ts (.va v (a+n))).1==(Ts (.va v a)).1)=true from beq_self_eq_true (v:Int),Awp,show((Ts (.va v (a+n))).2.1==((a+n:Nat):Int))=true from beq_self_eq_true _,Awp,Av9,AxH,BA h (by omega)];refine As.mk ⟨_,?_,n+1,by rw[Aw7],by omega,by omega,?_,rfl⟩
   ·omega
   ·rw[<-Aw7,J0 h,h4,hc];simp[Sg.bits,Axq]
  ·have mj:(bif (Ts (B.getD (i+n) (.co false))).1==(Ts (.va v a)).1 then(bif (Ts (B.getD (i+n) (.co false))).2.1==((a+n:Nat):Int)then some (.inl ())else some (.inr ()))else some (.inr ()):Ay0 (Unit⊕Unit))=some (.inr ()):=by
     cases hx:B.getD (i+n) (.co false)with
     |co y=>rw[show((Ts (.co y)).1==(Ts (.va v a)).1)=false by simp[Ts]];rfl
     |va v' a' =>
      by_cases hv:v'=v
      ·by_cases ha:a'=a+n
       ·subst hv ha;exact absurd hx hc
       ·rw[show((Ts (.va v' a')).2.1==((a+n:Nat):Int))=false from beq_eq_false_iff_ne.2 λe=>ha (Int.ofNat.inj e)];cases ((Ts (.va v' a')).1==(Ts (.va v a)).1)<;>rfl
      ·rw[show((Ts (.va v' a')).1==(Ts (.va v a)).1)=false from beq_eq_false_iff_ne.2 λe=>hv (Int.ofNat.inj e)];rfl
   refine As.of (a:=.inr ((i+n:Nat):Int)) (by
    have:=congrArg (λo=>o.bind (Sum.elim (λ(_:Unit)=>some (.inl (wI (((i+n:Nat):Int)+1)))) (λ(_:Unit)=>some (.inr ((i+n:Nat):Int):Int⊕Int)))) mj;exact this) ?_
   refine⟨n,rfl,h1,h2,h4,λ_=>?_⟩;cases hx:B.getD (i+n) (.co false)with
   |co y=>rfl
   |va v' a' =>
    simp only[Sg.join,Bt.sg];rw[Aws]
    rintro⟨rfl,rfl⟩
    exact hc hx
 ·rw[Em,show decide (((i+n:Nat):Int)<(B.length:Int))=false from GL,Awo,Av9,Axh];exact As.mk ⟨n,rfl,h1,h2,h4,λh'=>absurd h' (by omega)⟩
theorem vS{l s:Sg}{b:Bt}{r:AyZ Bt}(hs:s.bits=b::r)(h:l.join b.sg=none):l.join s=none:=by
 cases s with
 |co bs =>
  cases bs with
  |nil=>simp[Sg.bits]at hs
  |cons x xs =>
   obtain⟨rfl,_⟩:=hs;cases l<;>simp[Sg.join,Bt.sg]at h⊢
 |va v a n =>
  cases n with
  |zero=>simp[Sg.bits]at hs
  |succ n =>
   simp only[Sg.bits,List.range_succ_eq_map,AxK]at hs;obtain⟨rfl,_⟩:=hs;cases l with
   |co y=>rfl
   |va v' l' n' =>
    simp only[Sg.join,Bt.sg,Nat.add_zero]at h⊢
    grind
def Stop(f:AyZ Sg)(b:Bt):Prop:=∀l,f.getLast?=some l->l.join b.sg=none
theorem kV{f:AyZ Sg}{s:Sg}{b:Bt}{r:AyZ Bt}(h:Stop f b)(hs:s.bits=b::r):FW f s=f++[s]:=by
 unfold FW;cases hl:f.getLast? with
 |none=>rw[List.getLast?_eq_none_iff]at hl;subst hl;rfl
 |some l=>simp only[vS hs (h l hl)]
theorem uM{B:AyZ Bt}{s:Sg}{b:Bt}{r:AyZ Bt}(h:Stop (AY B) b)(hs:s.bits=b::r)(hw:1<=s.w):AY (B++s.bits)=AY B++[s]:=by
 rw[show AY _=Ss (AY B) _ from Jv [] B _,<-S7 _ s _ rfl hw,kV h hs]
theorem oU{B:AyZ Bt}(hB:∀b∈B,BtB b)(hl:B.length<=4096):Ou (bV B)=some (decide ((AY B).length<=2000),fV (AY B)):=by
 unfold Ou OJ;refine As.eq_ (As.bind (P:=λr=>r=fV (AY B)) ?_ λr hr=>As.mk (by
  rw[hr,Cf];congr 1;rw[AxE];omega))
 refine BJ (λm (x:Int×Ayi)=>∃i:Nat,x=((i:Int),fV (AY (B.take i)))/\i<=B.length/\(i<B.length->Stop (AY (B.take i)) (B.getD i (.co false)))/\m=B.length-i) (λm x hI=>?_) B.length _ ⟨0,rfl,AwW _,λ_ l hl=>by simp[AY,Ss]at hl,rfl⟩;obtain⟨i,rfl,hi,BG,rfl⟩:=hI;unfold Jc MV;simp only;rcases Awk i B.length with h |h
 ·rw[Em,Hq h,Awp,BA h (by omega)];have oH:(fV (AY (B.take i))).length<=4096:=by
   have h1:=Dn (D6 (B.take i));rw[Dd,Awu]at h1;rw[Cf];omega
  have key:∀s:Sg,∀n,n=s.w->1<=n->i+n<=B.length->B.take (i+n)=B.take i++s.bits->(i+n<B.length->s.join (B.getD (i+n) (.co false)).sg=none)->(s.bits.head?=some (B.getD i (.co false))) ->
      (fV (AY (B.take i))++[KV s]=fV (AY (B.take (i+n))))/\(i+n<B.length->Stop (AY (B.take (i+n))) (B.getD (i+n) (.co false))):=by
   rintro s n rfl h1 h2 h3 h4 h5
   obtain⟨r,hr⟩:∃r,s.bits=B.getD i (.co false)::r:=by
    cases hs:s.bits with
    |nil=>rw[hs]at h5;cases h5
    |cons c r=>rw[hs]at h5;simp only[List.head?_cons,Awb]at h5;exact⟨r,by rw[h5]⟩
   have hn:=uM (BG h) hr h1;rw[h3,hn];refine⟨by rw[Ns];rfl,λCw l hl=>?_⟩;rw[List.getLast?_append]at hl;simp only[List.getLast?_singleton,Option.some_or,Awb]at hl;subst hl;exact h4 Cw
  unfold MZ;rw[Em,Awr (BS h),Awa,b9 h,xe];cases hx:B.getD i (.co false)with
  |co b =>
   simp only[Awp];rw[Awr (BS h),show IntKind.u8.wrap (Ts (.co b)).2.1=bI b by cases b<;>rfl];have C5:=AdJ (D:=fV (AY (B.take i))) h hx hl;refine As.bind (P:=λy=>∃n,y=(((i+n:Nat):Int),fV (AY (B.take (i+n))))/\1<=n/\i+n<=B.length/\(i+n<B.length->Stop (AY (B.take (i+n))) (B.getD (i+n) (.co false)))) (C5.bind λy hy=>?_) λy hy=>?_
   ·obtain⟨bs,rfl,h1,h2,h3,h4,h5⟩:=hy;have hk:=key (.co bs) bs.length rfl h1 h2 h4 (λCw=>by obtain⟨v,a,e⟩:=h5 Cw;rw[e];rfl) (by
     rw[hx];cases bs with
     |nil=>simp at h1
     |cons z zs=>simp only[Sg.bits,AwU,List.head?_cons];rw[<-h3];rfl)
    rw[oS h1 (by omega),Av9,Awr (by show(_+1)*56<=_;omega)];exact As.mk ⟨bs.length,by rw[<-hk.1];rfl,h1,h2,hk.2⟩
   ·obtain⟨n,rfl,h1,h2,h3⟩:=hy;exact As.mk ⟨B.length-(i+n),by omega,i+n,rfl,h2,h3,rfl⟩
  |va v a =>
   simp only[Awo];have C5:=AdK (D:=fV (AY (B.take i))) h hx hB hl;refine As.bind (P:=λy=>∃n,y=(((i+n:Nat):Int),fV (AY (B.take (i+n))))/\1<=n/\i+n<=B.length/\(i+n<B.length->Stop (AY (B.take (i+n))) (B.getD (i+n) (.co false)))) (C5.bind λy hy=>?_) λy hy=>?_
   ·obtain⟨n,rfl,h1,h2,h4,h5⟩:=hy;have hk:=key (.va v a n) n rfl h1 h2 h4 h5 (by
     rw[hx];obtain⟨m,rfl⟩:∃m,n=m+1:=⟨n-1,by omega⟩;simp[Sg.bits,List.range_succ_eq_map])
    rw[Awr (BS h),Awr (BS h),Awr (by show(_+1)*56<=_;omega),show wI (((i+n:Nat):Int)-(i:Int))=(n:Int)from A3];exact As.mk ⟨n,by rw[<-hk.1];rfl,h1,h2,hk.2⟩
   ·obtain⟨n,rfl,h1,h2,h3⟩:=hy;exact As.mk ⟨B.length-(i+n),by omega,i+n,rfl,h2,h3,rfl⟩
 ·have:i=B.length:=by omega
  subst this;rw[Em,IB,Awo,Awj (Awf _)];exact As.mk rfl
end Go.Proofs.X
namespace Go.Proofs.X
open Go Go.Va
set_option maxRecDepth 100000
def Yn(c:Int):Prop:=48<=c/\c<=57
def PE(c:Int):Prop:=97<=c/\c<=122
instance (c:Int):Decidable (Yn c):=inferInstanceAs (Decidable (_/\_))
instance (c:Int):Decidable (PE c):=inferInstanceAs (Decidable (_/\_))
def eS(s:ByteArray):Prop:=1<=s.size/\s.size<=12/\¬Yn (Cm s 0)/\∀i:Nat,i<s.size->Yn (Cm s i)\/PE (Cm s i)
theorem YO(c:Int):Ku c=decide (Yn c):=(Aw2 _ _).symm
theorem dU{s:ByteArray}{i:Nat}(hi:i<s.size):JM s (i:Int)=some (decide ¬(Yn (Cm s i)\/PE (Cm s i))):=by
 unfold JM;rw[Awr (BS hi),Awr (BS hi),Awr (BS hi),YO];generalize Cm s _=c;by_cases h1:Yn c
 ·grind
 ·rw[Awc h1];by_cases h2:c<97
  ·rw[Awe h2,Awe (p:=¬(Yn c\/PE c)) (by unfold PE;rintro(h |h);exact h1 h;omega)];rfl
  ·rw[Awc h2];refine congrArg some (decide_eq_decide.2 ?_);unfold PE Yn at *;omega
theorem di{s:ByteArray}{i:Nat}(hi:i<s.size):JE s (i:Int)=some (decide ¬(Yn (Cm s i)\/PE (Cm s i))):=by
 unfold JE;simp only[Awr (BS hi)];generalize Cm s i=c;by_cases h1:c<97
 ·rw[Awe h1];by_cases h2:c<48
  ·rw[Awe h2];exact congrArg some (Awe (by unfold Yn PE;omega)).symm
  ·rw[Awc h2];exact congrArg some (decide_eq_decide.2 (by unfold Yn PE;omega))
 ·rw[Awc h1];by_cases h2:c>122
  ·rw[Awe h2];by_cases h3:c<48
   ·omega
   ·rw[Awc h3];exact congrArg some (decide_eq_decide.2 (by unfold Yn PE;omega))
  ·rw[Awc h2];exact congrArg some (Awc (by unfold Yn PE;omega)).symm
theorem iE(s:ByteArray):As (L8 s) λr=>r=true↔eS s:=by
 unfold L8 MJ;by_cases h1:s.size<1
 ·rw[Jy];exact As.mk ⟨λh=>by grind,λh=>absurd h.1 (by omega)⟩
 ·rw[GL,Awo];by_cases h2:s.size>12
  ·rw[Jy];exact As.mk ⟨λh=>by grind,λh=>absurd h.2.1 (by omega)⟩
  ·rw[GL,Awo,Awr ⟨by omega,by omega⟩,Av9,YO];by_cases h3:Yn (Cm s 0)
   ·rw[Awe h3];exact As.mk ⟨λh=>by grind,λh=>absurd h3 h.2.2.1⟩
   ·rw[Awc h3];refine As.bind (P:=λt=>(t=.inl ()/\¬∀i ,i<s.size->Yn (Cm s i)\/PE (Cm s i))\/(t=.inr ()/\∀i ,i<s.size->Yn (Cm s i)\/PE (Cm s i))) ?_ λt ht=>?_
    ·refine Bw (λk _=>(k:Int)) s.size (λk _=>∀i ,i<k->Yn (Cm s i)\/PE (Cm s i)) (λk _ hk hI=>?_) (λ_ hI=>?_) (s0:=()) (λi h=>by omega)
     ·unfold Hh Kv;rw[Hq hk,dU hk,Av9];by_cases h:Yn (Cm s k)\/PE (Cm s k)
      ·rw[Awc (λhn=>hn h),BA hk (by omega)];refine As.mk ⟨(),rfl,λi hi=>?_⟩
       grind
      ·rw[Awe h];exact As.mk (.inl ⟨rfl,λh'=>h (h' k hk)⟩)
     ·unfold Hh Kv;rw[IB];exact As.mk (.inr ⟨rfl,hI⟩)
    ·rcases ht with ⟨rfl,h⟩|⟨rfl,h⟩
     ·exact As.mk ⟨λh=>by grind,λh'=>absurd h'.2.2.2 h⟩
     ·exact As.mk ⟨λ_=>⟨by omega,by omega,h3,h⟩,λ_=>rfl⟩
theorem gF(s:ByteArray):As (L3 s) λr=>r=true↔eS s:=by
 unfold L3 Mw;by_cases h1:s.size<1
 ·rw[Jy];exact As.mk ⟨λh=>by grind,λh=>absurd h.1 (by omega)⟩
 ·rw[GL,Awo];by_cases h2:s.size>12
  ·rw[Jy];exact As.mk ⟨λh=>by grind,λh=>absurd h.2.1 (by omega)⟩
  ·rw[GL,Awo,Awr ⟨by omega,by omega⟩,Awr ⟨by omega,by omega⟩];by_cases h3:PE (Cm s 0)
   ·have h4:(bif decide (Cm s 0<97)then some true else some (decide (Cm s 0>122)))=some false:=by
      unfold PE at h3
      grind
    rw[h4,Av9];refine As.bind (P:=λt=>(t=.inl ()/\¬∀i ,i<s.size->Yn (Cm s i)\/PE (Cm s i))\/(t=.inr ()/\∀i ,i<s.size->Yn (Cm s i)\/PE (Cm s i))) ?_ λt ht=>?_
    ·refine Bw (λk _=>(k:Int)) s.size (λk _=>∀i ,i<k->Yn (Cm s i)\/PE (Cm s i)) (λk _ hk hI=>?_) (λ_ hI=>?_) (s0:=()) (λi h=>by omega)
     ·unfold G9 Kg;rw[Hq hk,di hk,Av9];by_cases h:Yn (Cm s k)\/PE (Cm s k)
      ·rw[Awc (λhn=>hn h),BA hk (by omega)];refine As.mk ⟨(),rfl,λi hi=>?_⟩
       grind
      ·rw[Awe h];exact As.mk (.inl ⟨rfl,λh'=>h (h' k hk)⟩)
     ·unfold G9 Kg;rw[IB];exact As.mk (.inr ⟨rfl,hI⟩)
    ·rcases ht with ⟨rfl,h⟩|⟨rfl,h⟩
     ·exact As.mk ⟨λh=>by grind,λh'=>absurd h'.2.2.2 h⟩
     ·refine As.mk ⟨λ_=>⟨by omega,by omega,?_,h⟩,λ_=>rfl⟩;unfold PE at h3;unfold Yn;omega
   ·have h4:(bif decide (Cm s 0<97)then some true else some (decide (Cm s 0>122)))=some true:=by
      unfold PE at h3
      grind
    rw[h4,Av9];refine As.mk ⟨λh=>by grind,λh=>?_⟩;rcases h.2.2.2 0 (by omega)with h' |h'
    ·exact absurd h' h.2.2.1
    ·grind
theorem NW(n a b:Int):Bj n a b=decide (a<=n/\n<=b):=by unfold Bj;rw[Aw2]
theorem Kj(n a b:Int):AE n a b=decide (a<=n/\n<=b):=by unfold AE;rw[Aw2]
def Yl(d:Ayg)(i:Nat):Ax6:=d.getD i Ab.zero
def dw(d:Ayg)(i:Nat):Int:=(Yl d i).2.1
def Ws(d:Ayg)(k:Nat):Int:=((d.take k).map λx=>x.2.1).sum
theorem Wt{d:Ayg}{k:Nat}(h:k<d.length):Ws d (k+1)=Ws d k+dw d k:=by
 unfold Ws;rw[A4 h (z:=Ty.zero _),AwY];simp[dw,Yl]
def W1(d:Ayg)(i:Nat):Prop:=eS (Yl d i).1/\(1<=dw d i/\dw d i<=4096)/\∀k,k<i->(Yl d k).1≠(Yl d i).1
def AZ(d:Ayg):Prop:=d.length<=60/\(∀i,i<d.length->W1 d i)/\Ws d d.length<=20000
theorem Yk{d:Ayg}{k:Nat}(hk:k<=d.length)(h:∀i,i<k->W1 d i):0<=Ws d k/\Ws d k<=4096*k:=by
 induction k with
 |zero=>simp[Ws]
 |succ k ih =>
  rw[Wt (by omega)];have:=ih (by omega) λi hi=>h i (by omega);have:=(h k (by omega)).2.1;omega
theorem RD(d:Ayg):As (HN d) λr=>r=true↔AZ d:=by
 unfold HN;by_cases hl:d.length<=60
 ·rw[GL];refine As.bind (P:=λt=>(∃x,t=.inl x/\¬∀i,i<d.length->W1 d i)\/(t=.inr (Ws d d.length)/\∀i,i<d.length->W1 d i)) (Bw (λk _=>(Ws d k,(k:Int))) d.length (λk _=>∀i,i<k->W1 d i) (λk _ hk hI=>?_) (λ_ hI=>?_) (s0:=()) (λi h=>by omega)) λt ht=>?_
  ·unfold Ge IV Ls;rw[Hq hk,Awr (BS hk),Awa];show As (((L8 (Yl d k).1).bind _).bind _) _;obtain⟨r,hr,hq⟩:=iE _;rw[hr,Av9];by_cases h1:eS (Yl d k).1
   ·rw[hq.2 h1];simp only[AwT,Awo];rw[Awr (BS hk),Awr (BS hk),Av9];by_cases h2:1<=dw d k/\dw d k<=4096
    ·rw[show Bj (d.getD k _).2.1 1 4096=true from(NW _ _ _).trans (Awe h2)];refine As.bind (P:=λt=>(t=.inl ()/\¬∀j,j<k->(Yl d j).1≠(Yl d k).1)\/(t=.inr ()/\∀j,j<k->(Yl d j).1≠(Yl d k).1)) ?_ λt ht=>?_
     ·refine Bw (λj _=>(j:Int)) k (λj _=>∀i,i<j->(Yl d i).1≠(Yl d k).1) (λj _ hj hJ=>?_) (λ_ hJ=>?_) (s0:=()) (λi h=>by omega)
      ·unfold Gd IU;rw[Hq hj,Awr (BS (by omega)),Awr (BS hk),Awa];show As (bif KL (Yl d j).1 (Yl d k).1 then _ else _) _;cases he:KL _ _ with
       |true=>exact As.mk (.inl ⟨rfl,λh=>h j hj ((TV _ _).1 he)⟩)
       |false =>
        rw[BA hj (by omega)];refine As.mk ⟨(),rfl,λi hi=>?_⟩;rcases Awk i j with h' |h'
        ·grind
        ·rw[show i=j by omega];intro e;rw[(TV _ _).2 e]at he;cases he
      ·unfold Gd IU;rw[IB];exact As.mk (.inr ⟨rfl,hJ⟩)
     ·rcases ht with ⟨rfl,h⟩|⟨rfl,h⟩
      ·exact As.mk (.inl ⟨_,rfl,λh'=>h (h' k hk).2.2⟩)
      ·rw[BA hk (by omega)];have hb:=Yk (by omega) hI;rw[show wI _=Ws d _ by
        rw[Wt hk];have:(d.getD k _).2.1=dw d k:=rfl;rw[this,AW]]
       refine As.mk ⟨(),rfl,λi hi=>?_⟩;rcases Awk i k with h' |h'
       ·grind
       ·rw[show i=k by omega];exact⟨h1,h2,h⟩
    ·rw[show Bj (d.getD k _).2.1 1 4096=false from(NW _ _ _).trans (Awc h2)];exact As.mk (.inl ⟨_,rfl,λh=>h2 (h k hk).2.1⟩)
   ·rw[show r=false by grind];exact As.mk (.inl ⟨_,rfl,λh=>h1 (h k hk).1⟩)
  ·unfold Ge IV;rw[IB];exact As.mk (.inr ⟨rfl,hI⟩)
  ·rcases ht with ⟨x,rfl,h⟩|⟨rfl,h⟩
   ·exact As.mk ⟨λh=>by grind,λh'=>absurd h'.2.1 h⟩
   ·refine As.mk ⟨λh'=>⟨hl,h,of_decide_eq_true h'⟩,λh'=>Awe h'.2.2⟩
 ·rw[Jy];exact As.mk ⟨λh=>by grind,λh=>absurd h.1 hl⟩
theorem fD{d:Ayg}{i:Nat}{name:ByteArray}(hi:i<=d.length)(hl:d.length<=1048576):As (Il ((d.take i).drop 0) name) λr=>0<=r↔∃j,j<i/\(Yl d j).1=name:=by
 unfold Il FO GD;have hlen:(d.take i).length=i:=by grind
 rw[List.drop_zero,hlen];refine As.bind  (As.bind (P:=λt=>(∃j:Nat,t=.inl j/\j<i/\(Yl d j).1=name)\/(t=.inr ()/\∀j,j<i->(Yl d j).1≠name)) ?_ λt ht=>?_) λr hr=>As.mk hr
 ·refine Bw (λj _=>(j:Int)) i (λj _=>∀k,k<j->(Yl d k).1≠name) (λj _ hj hJ=>?_) (λ_ hJ=>?_) (s0:=()) (λi h=>by omega)
  ·unfold Cb CS;have hg:(d.take i).getD j (Ty.zero _)=Yl d j:=by simp[Yl,hj]
   rw[Hq hj,hlen,Awr (BS hj),Awa,hg];unfold OC;cases he:KL _ name with
   |true=>exact As.mk (.inl ⟨j,rfl,hj,(TV _ _).1 he⟩)
   |false =>
    rw[BA hj (by omega)];refine As.mk ⟨(),rfl,λk hk=>?_⟩;rcases Awk k j with h' |h'
    ·grind
    ·rw[show k=j by omega];intro e;rw[(TV _ _).2 e]at he;cases he
  ·unfold Cb CS;rw[IB];exact As.mk (.inr ⟨rfl,hJ⟩)
 ·rcases ht with ⟨j,rfl,h1,h2⟩|⟨rfl,h⟩
  ·exact As.mk ⟨λ_=>⟨j,h1,h2⟩,λ_=>by omega⟩
  ·exact As.mk ⟨λh'=>absurd (show 0<=-1 from h') (by omega),λ⟨j,h1,h2⟩=>absurd h2 (h j h1)⟩
theorem de(d:Ayg):As (Ms d) λr=>r=true↔AZ d:=by
 unfold Ms;by_cases hl:d.length<=60
 ·rw[GL];refine As.bind (P:=λt=>(∃x,t=.inl x/\¬∀i,i<d.length->W1 d i)\/(t=.inr (Ws d d.length)/\∀i,i<d.length->W1 d i)) (Bw (λk _=>(Ws d k,(k:Int))) d.length (λk _=>∀i,i<k->W1 d i) (λk _ hk hI=>?_) (λ_ hI=>?_) (s0:=()) (λi h=>by omega)) λt ht=>?_
  ·unfold F3 IG Lk;rw[Hq hk,Awr (BS hk),Awa];show As (((L3 (Yl d k).1).bind _).bind _) _;obtain⟨r,hr,hq⟩:=gF _;rw[hr,Av9];by_cases h1:eS (Yl d k).1
   ·rw[hq.2 h1];by_cases h2:1<=dw d k/\dw d k<=4096
    ·rw[show AE (d.getD k _).2.1 1 4096=true from(Kj _ _ _).trans (Awe h2)];simp only[AwT,Awo];rw[Awr ⟨by omega,by omega,by omega⟩];obtain⟨r',hr',gx⟩:=fD (d:=d) (i:=k)  (by omega) (by omega);rw[show Il _ _=some r' from hr',Av9,Av9];by_cases h3:0<=r'
     ·rw[Awe (show r'>=0 from h3)];obtain⟨j,hj1,hj2⟩:=gx.1 h3;exact As.mk (.inl ⟨_,rfl,λh=>(h k hk).2.2 j hj1 hj2⟩)
     ·rw[Awc (show ¬r'>=0 from h3),BA hk (by omega)];have hb:=Yk (by omega) hI;rw[show wI _=Ws d _ by
       rw[Wt hk];have:(d.getD k _).2.1=dw d k:=rfl;rw[this,AW]]
      refine As.mk ⟨(),rfl,λi hi=>?_⟩;rcases Awk i k with h' |h'
      ·grind
      ·rw[show i=k by omega];exact⟨h1,h2,λj hj e=>h3 (gx.2 ⟨j,hj,e⟩)⟩
    ·rw[show AE (d.getD k _).2.1 1 4096=false from(Kj _ _ _).trans (Awc h2)];exact As.mk (.inl ⟨_,rfl,λh=>h2 (h k hk).2.1⟩)
   ·rw[show r=false by grind];exact As.mk (.inl ⟨_,rfl,λh=>h1 (h k hk).1⟩)
  ·unfold F3 IG;rw[IB];exact As.mk (.inr ⟨rfl,hI⟩)
  ·rcases ht with ⟨x,rfl,h⟩|⟨rfl,h⟩
   ·exact As.mk ⟨λh=>by grind,λh'=>absurd h'.2.1 h⟩
   ·refine As.mk ⟨λh'=>⟨hl,h,of_decide_eq_true h'⟩,λh'=>Awe h'.2.2⟩
 ·rw[Jy];exact As.mk ⟨λh=>by grind,λh=>absurd h.1 hl⟩
end Go.Proofs.X
namespace Go.Proofs.X
open Go Go.Va
set_option maxRecDepth 100000
def Bp(n:Ax7):Int:=n.1
def FV(n:Ax7):Int:=n.2.1
def nA(n:Ax7):Int:=n.2.2.1
def nB(n:Ax7):Int:=n.2.2.2.1
def nW(n:Ax7):Int:=n.2.2.2.2.1.1
def YZ(n:Ax7):Ayd:=n.2.2.2.2.1.2.1
def Ap(n:Ax7):Ayd:=n.2.2.2.2.2.1
def QO(n:Ax7):Prop:=(Ap n).length<=1048576/\(YZ n).length<=1048576/\Cq (YZ n)
def KN(n:Ax7)(i:Nat):Prop:=∀k∈Ap n,0<=k/\k<(i:Int)
def NoB(n:Ax7):Prop:=nW n=0/\(YZ n).length=0
def Vg(n:Ax7):Prop:=4<=Bp n/\Bp n<=9
instance (n:Ax7):Decidable (NoB n):=inferInstanceAs (Decidable (_/\_))
instance (n:Ax7):Decidable (Vg n):=inferInstanceAs (Decidable (_/\_))
def Rk(n:Ax7):Prop:=(Bp n≠1->FV n=0)/\(Bp n≠2->NoB n)/\(Bp n≠4->nB n=0)/\(¬Vg n->nA n=0)
def eX(n:Ax7):Prop:=∃m:Nat,nW n=(m:Int)/\ae m (YZ n)
def Ix(d:Ayg)(n:Ax7):Prop :=
 (Bp n=1/\(Ap n).length=0/\0<=FV n/\FV n<(d.length:Int))\/(Bp n=2/\(Ap n).length=0/\eX n)\/(Bp n=3/\2<=(Ap n).length)\/(4<=Bp n/\Bp n<=9/\(Ap n).length=1)
def Fc(d:Ayg)(n:Ax7)(s:Int):Int :=
 if Bp n=1 then dw d (FV n).toNat else if Bp n=2 then nW n else
 if Bp n=4 then(if 0<=nB n/\nB n<=nA n/\nA n<s then nA n-nB n+1 else -1)else
 if Bp n=5\/Bp n=6 then(if 0<=nA n/\nA n<=4096 then s+nA n else -1)else
 if Bp n=7\/Bp n=8 then(if 0<=nA n/\nA n<=4096 then s else -1)else
 if Bp n=9 then(if 1<=nA n/\nA n<=4096 then s*nA n else -1)else s
def Fs(Bo:Ayd)(n:Ax7):Ayd:=(Ap n).map λk=>Bo.getD k.toNat 0
def eT(d:Ayg)(Bo:Ayd)(n:Ax7)(w:Int):Prop :=
 KN n Bo.length/\Rk n/\Ix d n/\w=Fc d n (Fs Bo n).sum/\1<=w/\w<=4096
theorem cj{A:Type}(l:AyZ A):((l.length:Int)==0)=decide (l.length=0):=by
 grind
theorem OX{a b:Int}:(a !=b)=decide (a≠b):=by
 grind
theorem OW{a b:Int}:(a==b)=decide (a=b):=by
 grind
theorem bo(n:Ax7):Cd n.2.2.2.2.1=decide (NoB n):=by
 have h1:(nW n==0)=decide _:=OW;have h2:=cj (YZ n);show((nW n==0)&&(((YZ n).length:Int)==0))=_;rw[h2];exact(Aw2 _ _).symm
theorem gJ(n:Ax7):AU n.1=decide (Vg n):=by
 exact NW _ _ _
theorem iC{d:Ayg}{n:Ax7}{i:Nat}(hn:QO n)(hi:i<=1048576)(hd:d.length<=1048576):As (L9 d n (i:Int)) λr=>r=true↔KN n i/\Rk n/\Ix d n:=by
 unfold L9;refine As.bind (P:=λt=>(t=.inl ()/\¬KN n i)\/(t=.inr ()/\KN n i)) ?_ λt ht=>?_
 ·unfold PU;refine Bw (λj (_:Unit)=>(j:Int)) (Ap n).length (λj _=>∀k,k<j->0<=(Ap n).getD k 0/\(Ap n).getD k 0<(i:Int)) (λj _ hj hJ=>?_) (λ_ hJ=>?_) (s0:=()) (λi h=>by omega)
  ·unfold Hl Kw;have hlen:=hn.1;show As (bif decide ((j:Int)<((Ap n).length:Int))then(if 0<=(j:Int)/\(j:Int)<((Ap n).length:Int)then(bif !Bj ((Ap n).getD (j:Int).toNat 0) 0 (wI ((i:Int)-1))then _ else _)else none)else _) _;rw[Hq hj,Awp,Awr (BS hj),Awa,AW (x:=(i:Int)-1),NW];by_cases h:0<=(Ap n).getD j 0/\(Ap n).getD j 0<(i:Int)
   ·rw[Jy];simp only[AwT,Awo];rw[BA hj (by omega)];refine As.mk ⟨(),rfl,λk hk=>?_⟩;rcases Awk k j with h' |h'
    ·exact hJ k h'
    ·rw[show k=j by omega];exact h
   ·rw[GL];exact As.mk (.inl ⟨rfl,λhk=>h (hk _ (AG hj))⟩)
  ·unfold Hl Kw;show As (bif decide (((Ap n).length:Int)<((Ap n).length:Int))then _ else _) _;rw[IB,Awo];refine As.mk (.inr ⟨rfl,λk hk=>?_⟩);obtain⟨m,hm,rfl⟩:=AxC hk;have:=hJ m hm;rwa [show(Ap n).getD m 0=(Ap n)[m] by simp[List.getD,hm]]at this
 ·rcases ht with ⟨rfl,h⟩|⟨rfl,h⟩
  ·exact As.mk ⟨λh=>by(cases h),λh'=>absurd h'.1 h⟩
  ·refine As.bind (P:=λt=>(t=.inl ()/\¬Rk n)\/(t=.inr ()/\Rk n)) ?_ λt ht=>?_
   ·unfold MK Np;have hb:=bo n;have h1:=gJ n;have e1:∀x:Int,(n.1 !=x)=decide (Bp n≠x):=λx=>OX;have e2:(n.2.1 !=(0:Int))=decide (FV n≠0):=OX;have e3:(n.2.2.2.1 !=(0:Int))=decide (nB n≠0):=OX;have e4:(n.2.2.1 !=(0:Int))=decide (nA n≠0):=OX;rw[hb,h1,e1,e1,e1,e2,e3,e4];unfold Rk;by_cases a1:Bp n=1<;>by_cases a2:Bp n=2<;>by_cases a3:Bp n=4<;>by_cases a4:Vg n<;>by_cases a5:FV n=0<;>by_cases a6:NoB n<;>by_cases a7:nB n=0<;>by_cases a8:nA n=0 <;>
     first |(exfalso;omega)|(simp[a1,a2,a3,a4,a5,a6,a7,a8,Oi];done)
   ·rcases ht with ⟨rfl,h2⟩|⟨rfl,h2⟩
    ·exact As.mk ⟨λh=>by(cases h),λh'=>absurd h'.2.1 h2⟩
    ·have hk:=hn.1;have e1:∀x:Int,(n.1==x)=decide (Bp n=x):=λx=>OW;have e2:((n.2.2.2.2.2.1.length:Int)==0)=decide ((Ap n).length=0):=cj (Ap n);have e3:((n.2.2.2.2.2.1.length:Int)==1)=decide ((Ap n).length=1):=by
      show(((Ap n).length:Int)==1)=_;rw[OW,AxE];omega
     have e4:decide ((n.2.2.2.2.2.1.length:Int)>=2)=decide (2<=(Ap n).length):=by
      show decide (((Ap n).length:Int)>=2)=_;rw[AxE];omega
     have e5:Bj n.2.1 0 (wI ((d.length:Int)-1))=decide (0<=FV n/\FV n<(d.length:Int)):=by
      rw[NW,AW (x:=(d.length:Int)-1),AxE];show 0<=FV n/\FV n<=(d.length:Int)-1↔_;omega
     obtain⟨r,hr,hq⟩:=Z5 (w:=nW n) hn.2.2 hn.2.1;have e6:L6 n.2.2.2.2.1=some r:=hr;have hv:eX n↔r=true:=hq.symm;have h1:=gJ n;simp only[Axh];rw[e1,e1,e1,e2,e3,e4,e5,e6,h1];unfold Ix;rw[show(4<=Bp n/\Bp n<=9/\(Ap n).length=1)=(Vg n/\(Ap n).length=1)from propext and_assoc.symm,hv];have UJ:Vg n↔4<=Bp n/\Bp n<=9:=Iff.rfl;by_cases a1:Bp n=1
     ·have a4:¬Vg n:=by rw[UJ];omega
      by_cases a5:(Ap n).length=0
      ·simp[a1,a4,a5,h,h2,Oi]
      ·simp[a1,a4,a5,h,h2,Oi]
     ·by_cases a2:Bp n=2
      ·have a4:¬Vg n:=by rw[UJ];omega
       by_cases a5:(Ap n).length=0
       ·simp[a2,a4,a5,h,h2,Oi]
       ·simp[a2,a4,a5,h,h2,Oi]
      ·by_cases a3:Bp n=3
       ·have a4:¬Vg n:=by rw[UJ];omega
        simp[a3,a4,h,h2,Oi]
       ·by_cases a4:Vg n
        ·simp[a1,a2,a3,a4,h,h2,Oi]
        ·simp[a1,a2,a3,a4,h,h2,Oi]
def O7(Bo:Ayd)(n:Ax7):Int:=(Fs Bo n).sum
def XZ(Bo:Ayd):Prop:=Bo.length<=1048576/\∀w∈Bo,1<=w/\w<=4096
theorem Zx{Bo:Ayd}(h:XZ Bo){k:Int}(hk:0<=k/\k<(Bo.length:Int)):1<=Bo.getD k.toNat 0/\Bo.getD k.toNat 0<=4096:=h.2 _ (AG (by omega))
theorem WH{Bo:Ayd}{n:Ax7}{k:Nat}(hk:k<(Ap n).length):((Fs Bo n).take (k+1)).sum=((Fs Bo n).take k).sum+Bo.getD ((Ap n).getD k 0).toNat 0:=by
 have hl:k<(Fs Bo n).length:=by unfold Fs;rw[Awl];exact hk
 rw[A4 hl (z:=0)];unfold Fs
 grind
theorem UN{Bo:Ayd}{n:Ax7}(hw:XZ Bo)(Hs:KN n Bo.length):∀k,k<=(Ap n).length->(k:Int)<=((Fs Bo n).take k).sum/\((Fs Bo n).take k).sum<=4096*k:=by
 intro k;induction k with
 |zero=>simp
 |succ k ih =>
  intro hk;rw[WH (by omega)];have:=Zx hw (Hs _ (AG (z:=0) (show k<(Ap n).length by omega)));omega
theorem aY(Bo:Ayd)(n:Ax7):(Fs Bo n).take (Ap n).length=Fs Bo n:=Awj (by unfold Fs;grind)
theorem RG{Bo:Ayd}{n:Ax7}(hw:XZ Bo)(Hs:KN n Bo.length):((Ap n).length:Int)<=O7 Bo n/\O7 Bo n<=4096*(Ap n).length:=by
 have:=UN hw Hs _ (Awf _);rw[aY]at this;exact this
theorem iJ{d:Ayg}{Bo:Ayd}{n:Ax7}(hn:QO n)(hw:XZ Bo)(Hs:KN n Bo.length)(hf:Ix d n):As (Oq d n Bo) λr=>r=Fc d n (min 8192 (O7 Bo n)):=by
 have hlen:=hn.1;refine As.bind (P:=λt=>t=min 8192 (O7 Bo n)) ?_ λt ht=>?_
 ·have h0:min 8192 (((Fs Bo n).take 0).sum)=0:=rfl;have:=Bw (f:=Ky d Bo n) (λk (_:Unit)=>(min 8192 (((Fs Bo n).take k).sum),(k:Int))) (Ap n).length (λ_ _=>True) (Q:=λt=>t=min 8192 (O7 Bo n)) (λk _ hk _=>?_) (λ_ _=>?_) (s0:=()) trivial
  ·exact this
  ·have yF:=Hs _ (AG (z:=0) hk);have hb:=UN hw Hs k (by omega);have hwk:=Zx hw yF;show As (bif decide ((k:Int)<((Ap n).length:Int))then(if 0<=(k:Int)/\(k:Int)<((Ap n).length:Int)then(if 0<=(Ap n).getD (k:Int).toNat 0/\(Ap n).getD (k:Int).toNat 0<(Bo.length:Int)then some (Sum.inl (if wI (min 8192 (((Fs Bo n).take k).sum)+Bo.getD ((Ap n).getD (k:Int).toNat 0).toNat 0)<8192 then wI (min 8192 (((Fs Bo n).take k).sum)+Bo.getD ((Ap n).getD (k:Int).toNat 0).toNat 0)else 8192,wI ((k:Int)+1)))else none)else none)else _) _;rw[Hq hk,Awr (BS hk),Awa,Awr yF,BA hk (by omega)];refine As.mk ⟨(),?_,trivial⟩;rw[AW,WH hk]
   grind
  ·show As (bif decide (((Ap n).length:Int)<((Ap n).length:Int))then _ else _) _;rw[IB];refine As.mk ?_;rw[aY];rfl
 ·subst ht;generalize hS:min 8192 (O7 Bo n)=S;have hSb:0<=S/\S<=8192:=by have:=RG hw Hs;omega
  have e1:∀x:Int,(n.1==x)=decide (Bp n=x):=λx=>OW;have e2:Bj n.2.2.1 0 4096=decide (0<=nA n/\nA n<=4096):=NW _ _ _;have e3:Bj n.2.2.1 1 4096=decide (1<=nA n/\nA n<=4096):=NW _ _ _;have e4:(decide (n.2.2.2.1<0)||(decide (n.2.2.1<n.2.2.2.1)||decide (n.2.2.1>=S)))=decide (¬(0<=nB n/\nB n<=nA n/\nA n<S)):=by
   show(decide (nB n<0)||(decide (nA n<nB n)||decide (nA n>=S)))=_
   grind
  unfold MS Fc Np;rw[e1,e1,e1,e1,e1,e1,e1,e1,e2,e3,e4];by_cases a1:Bp n=1
  ·have hv:0<=FV n/\FV n<(d.length:Int):=by
     rcases hf with h |h |h |h
     ·grind
     ·omega
     ·omega
     ·omega
   rw[Awr a1,Awe a1,Awr (show 0<=n.2.1/\n.2.1<(d.length:Int)from hv)];exact As.mk rfl
  ·rw[Aws a1,Awc a1];by_cases a2:Bp n=2
   ·rw[Awr a2,Awe a2];exact As.mk rfl
   ·rw[Aws a2,Awc a2];by_cases a4:Bp n=4
    ·rw[Awr a4,Awe a4];by_cases h:0<=nB n/\nB n<=nA n/\nA n<S
     ·rw[Awr h,Awc (λhh=>hh h)];refine As.mk ?_;show wI (wI (nA n-nB n)+1)=_;rw[AW (x:=nA n-nB n),AW]
     ·rw[Aws h,Awe h];exact As.mk rfl
    ·rw[Aws a4,Awc a4];by_cases a5:Bp n=5\/Bp n=6
     ·rw[Awr a5];have hc:(bif decide (Bp n=5)then decide (Bp n=5)else decide (Bp n=6))=true:=by
       grind
      rw[hc];by_cases h:0<=nA n/\nA n<=4096
      ·rw[Awr h,Awe h];refine As.mk ?_;show wI (S+nA n)=_;rw[AW]
      ·rw[Aws h,Awc h];exact As.mk rfl
     ·rw[Aws a5];have hc:(bif decide (Bp n=5)then decide (Bp n=5)else decide (Bp n=6))=false:=by
       grind
      rw[hc];by_cases a7:Bp n=7\/Bp n=8
      ·rw[Awr a7];have hc:(bif decide (Bp n=7)then decide (Bp n=7)else decide (Bp n=8))=true:=by
        grind
       rw[hc];by_cases h:0<=nA n/\nA n<=4096
       ·rw[Awr h,Awe h];exact As.mk rfl
       ·rw[Aws h,Awc h];exact As.mk rfl
      ·rw[Aws a7];have hc:(bif decide (Bp n=7)then decide (Bp n=7)else decide (Bp n=8))=false:=by
        grind
       rw[hc];by_cases a9:Bp n=9
       ·rw[Awr a9,Awe a9];by_cases h:1<=nA n/\nA n<=4096
        ·rw[Awr h,Awe h];refine As.mk ?_;show wI (S*nA n)=_;have h1:0<=S*nA n:=Int.mul_nonneg hSb.1 (by omega);have h2:S*nA n<=8192*4096:=Int.mul_le_mul hSb.2 h.2 (by omega) (by omega);rw[AW]
        ·rw[Aws h,Awc h];exact As.mk rfl
       ·rw[Aws a9,Awc a9];exact As.mk rfl
end Go.Proofs.X
namespace Go.Proofs.X
open Go Go.Va
set_option maxRecDepth 100000
theorem wh{d:Ayg}{Bo:Ayd}{n:Ax7}(hw:XZ Bo)(Hs:KN n Bo.length)(hf:Ix d n):Fc d n (min 8192 (O7 Bo n))=Fc d n (O7 Bo n)\/(4096<Fc d n (min 8192 (O7 Bo n))/\4096<Fc d n (O7 Bo n)):=by
 have hb:=RG hw Hs;rcases hf with h |h |h |h
 ·grind
 ·grind
 ·by_cases hs:O7 Bo n<=8192
  ·grind
  ·have e:∀S,Fc d n S=S:=λS=>by simp[Fc,h.1]
   rw[e,e];omega
 grind
instance (n:Ax7):Decidable (Rk n):=inferInstanceAs (Decidable (_/\_/\_/\_))
theorem uX(n:Ax7):Df n=decide (Rk n):=by
 have hb:((n.2.2.2.2.1.1==(0:Int))&&((n.2.2.2.2.1.2.1.length:Int)==0))=decide (NoB n):=bo n;have h1:(decide (n.1>=4)&&decide (n.1<=9))=decide (Vg n):=(Aw2 _ _).symm;have e1:∀x:Int,(n.1 !=x)=decide (Bp n≠x):=λx=>OX;have e0:(n.1==(2:Int))=decide (Bp n=2):=OW;have e2:(n.2.1 !=(0:Int))=decide (FV n≠0):=OX;have e3:(n.2.2.2.1 !=(0:Int))=decide (nB n≠0):=OX;have e4:(n.2.2.1 !=(0:Int))=decide (nA n≠0):=OX;have hp:decide (Rk n)=decide ((Bp n≠1->FV n=0)/\(Bp n≠2->NoB n)/\(Bp n≠4->nB n=0)/\(¬Vg n->nA n=0)):=rfl;rw[hp];unfold Df;rw[hb,h1,e1,e1,e0,e2,e3,e4];by_cases a1:Bp n=1<;>by_cases a2:Bp n=2<;>by_cases a3:Bp n=4<;>by_cases a4:Vg n<;>by_cases a5:FV n=0<;>by_cases a6:NoB n<;>by_cases a7:nB n=0<;>by_cases a8:nA n=0 <;>
  first |(exfalso;omega)|(simp[a1,a2,a3,a4,a5,a6,a7,a8];done)
theorem gH{d:Ayg}{Bo:Ayd}{n:Ax7}(hn:QO n)(hw:XZ Bo)(hd:d.length<=1048576)(Hs:KN n Bo.length):As (ER n d (Fs Bo n)) λr=>(Ix d n->r=Fc d n (O7 Bo n))/\(¬Ix d n->r=-1):=by
 have hlen:=hn.1;have gl:(Fs Bo n).length=(Ap n).length:=by unfold Fs;rw[Awl]
 have hS:=RG hw Hs;have e1:∀x:Int,(n.1==x)=decide (Bp n=x):=λx=>OW;have e2:((((Fs Bo n).length:Nat):Int)==0)=decide ((Ap n).length=0):=by rw[cj,gl]
 have e3:((((Fs Bo n).length:Nat):Int) !=1)=decide ((Ap n).length≠1):=by rw[OX,AxE];omega
 have e4:decide ((((Fs Bo n).length:Nat):Int)>1)=decide (2<=(Ap n).length):=by rw[AxE];omega
 have e5:AE n.2.1 0 (wI ((d.length:Int)-1))=decide (0<=FV n/\FV n<(d.length:Int)):=by
  rw[Kj,AW (x:=(d.length:Int)-1),AxE];show 0<=FV n/\FV n<=(d.length:Int)-1↔_;omega
 have e6:AE n.2.2.1 0 4096=decide (0<=nA n/\nA n<=4096):=Kj _ _ _;have e7:AE n.2.2.1 1 4096=decide (1<=nA n/\nA n<=4096):=Kj _ _ _;have UJ:Vg n↔4<=Bp n/\Bp n<=9:=Iff.rfl;obtain⟨f,hf⟩:∃f,f=(bif decide ((((Fs Bo n).length:Nat):Int)>0)then(Fs Bo n).getD 0 0 else 0):=⟨_,rfl⟩;have hf1:(Ap n).length=1->f=O7 Bo n:=λh=>by
  rw[hf,Jy,Awp];unfold O7;obtain⟨x,hx⟩:=List.length_eq_one_iff.1 (show(Fs Bo n).length=1 by omega);rw[hx];simp
 unfold ER Np;rw[show Er n d (Fs Bo n)=some f by
  unfold Er;rw[hf];by_cases h:(Ap n).length=0
  ·rw[GL];rfl
  ·rw[Jy,Awp,Awp,Awr ⟨by omega,by omega⟩];rfl,Av9,e5,e6,e7]
 rw[e1,e1,e1,e1,e1,e1,e1,e1,e2,e3,e4];have hF:Ix d n↔(Bp n=1/\(Ap n).length=0/\0<=FV n/\FV n<(d.length:Int))\/(Bp n=2/\(Ap n).length=0/\eX n)\/(Bp n=3/\2<=(Ap n).length)\/(4<=Bp n/\Bp n<=9/\(Ap n).length=1):=Iff.rfl;have Aol:¬Ix d n->As (some (-1:Int)) λr=>(Ix d n->r=Fc d n (O7 Bo n))/\(¬Ix d n->r=-1):=λh=>As.mk ⟨λh'=>absurd h' h,λ_=>rfl⟩;have pos:∀v:Int,Ix d n->v=Fc d n (O7 Bo n)->As (some v) λr=>(Ix d n->r=Fc d n (O7 Bo n))/\(¬Ix d n->r=-1):=λv h e=>As.mk ⟨λ_=>e,λh'=>absurd h h'⟩;by_cases c1:Bp n=1/\(Ap n).length=0/\(0<=FV n/\FV n<(d.length:Int))
 ·rw[<-Aw2,<-Aw2,Awe c1,Awp,Awr (show 0<=n.2.1/\n.2.1<(d.length:Int)from c1.2.2)];exact pos _ (hF.2 (.inl c1)) (by unfold Fc;rw[Awr c1.1];rfl)
 ·rw[<-Aw2,<-Aw2,Awc c1,Awo];obtain⟨b,aO,fY⟩:∃b,Es n (Fs Bo n) f=some b/\(b=true↔Bp n=2/\(Ap n).length=0/\eX n):=by
   unfold Es;rw[e1,e2];obtain⟨r,hr,hq⟩:=ZX (w:=nW n) hn.2.2 hn.2.1;have e6:LY n.2.2.2.2.1=some r:=hr;rw[e6];have hq:r=true↔eX n:=hq;by_cases a2:Bp n=2
   ·by_cases a3:(Ap n).length=0
    ·rw[Awe a2,Awe a3];exact⟨r,rfl,by rw[hq];exact⟨λh=>⟨a2,a3,h⟩,λh=>h.2.2⟩⟩
    ·rw[Awe a2,Awc a3];exact⟨false,rfl,λh=>by(cases h),λh=>absurd h.2.1 a3⟩
   ·rw[Awc a2];exact⟨false,rfl,λh=>by(cases h),λh=>absurd h.1 a2⟩
  rw[aO,Av9];cases b with
  |true =>
   have c2:=fY.1 rfl;exact pos _ (hF.2 (.inr (.inl c2))) (by unfold Fc;rw[OB,Awr c2.1];rfl)
  |false =>
   have c2:¬(Bp n=2/\(Ap n).length=0/\eX n):=λh=>by have:=fY.2 h;cases this
   rw[Awo,<-Aw2];by_cases c3:Bp n=3/\2<=(Ap n).length
   ·rw[Awe c3,Awp];unfold KQ;have:=A2 (f:=B3 (Fs Bo n) (((Fs Bo n).length:Nat):Int)) (λk=>((((Fs Bo n).take k).sum:Int),(k:Int))) (t:=O7 Bo n) (Fs Bo n).length (λk hk=>by
     unfold B3 FM;rw[gl]at hk;have hb:=UN hw Hs k (by omega);have hwk:=Zx hw (Hs _ (AG (z:=0) hk));have hg:(Fs Bo n).getD k 0=Bo.getD ((Ap n).getD k 0).toNat 0:=by unfold Fs;exact Mm (λk=>Bo.getD k.toNat 0) hk
     simp only;rw[gl,Hq hk,Awp,Awr (BS hk),Awa,BA hk (by omega),WH hk];show some (Sum.inl (wI (((Fs Bo n).take k).sum+(Fs Bo n).getD k 0),_))=_;rw[hg,AW]) (by
     unfold B3 FM;simp only;rw[IB,Awo,Awj (Awf _)];rfl)
    rw[show fix (B3 (Fs Bo n) (((Fs Bo n).length:Nat):Int)) (0,0)=some (O7 Bo n)from this];exact pos _ (hF.2 (.inr (.inr (.inl c3)))) (by unfold Fc;simp[c3.1])
   ·rw[Awc c3,Awo];by_cases c4:(Ap n).length=1
    ·rw[Awc (λh=>h c4),Awo];have hfS:=hf1 c4;have hSb:0<=f/\f<=4096:=by omega
     have BB:4<=Bp n/\Bp n<=9->Ix d n:=λh=>hF.2 (.inr (.inr (.inr ⟨h.1,h.2,c4⟩)));have e4':(decide (n.2.2.2.1>=0)&&(decide (n.2.2.2.1<=n.2.2.1)&&decide (n.2.2.1<f)))=decide (0<=nB n/\nB n<=nA n/\nA n<f):=by
      show(decide (nB n>=0)&&(decide (nB n<=nA n)&&decide (nA n<f)))=_;rw[<-Aw2,<-Aw2]
     rw[e4',<-Aw2,<-Aw2,<-Aw2,<-Aw2];have ecx:(n.2.2.1:Int)=nA n:=rfl;have ecb:(n.2.2.2.1:Int)=nB n:=rfl;have hw0:∀v,v=Fc d n f->v=Fc d n (O7 Bo n):=λv h=>by rw[<-hfS];exact h
     by_cases a4:Bp n=4
     ·by_cases h:0<=nB n/\nB n<=nA n/\nA n<f
      ·rw[Awe ⟨a4,h⟩,Awp];refine pos _ (BB (by omega)) (hw0 _ ?_);show wI (wI (nA n-nB n)+1)=_;rw[AW (x:=nA n-nB n),AW];unfold Fc;simp[a4,h]
      ·have:∀v:Int,v=-1->v=Fc d n f:=λv hv=>by unfold Fc;simp[a4,h,hv]
       simp[a4,h];exact pos _ (BB (by omega)) (hw0 _ (this _ rfl))
     ·by_cases a5:Bp n=5\/Bp n=6
      ·by_cases h:0<=nA n/\nA n<=4096
       ·have:(bif decide (Bp n=5)then decide (0<=nA n/\nA n<=4096)else decide (Bp n=6/\0<=nA n/\nA n<=4096))=true:=by
          rcases a5 with h' |h'<;>simp[h',h]
        rw[GL,Awo,this,Awp];refine pos _ (BB (by omega)) (hw0 _ ?_);show wI (f+nA n)=_;rw[AW];unfold Fc;rcases a5 with h' |h'<;>simp[h',h]
       ·have:∀v:Int,v=-1->v=Fc d n f:=λv hv=>by unfold Fc;rcases a5 with h' |h'<;>simp[h',h,hv]
        have h2:=pos _ (BB (by omega)) (hw0 _ (this _ rfl));rcases a5 with h' |h'<;>simp[h',h]<;>exact h2
      ·by_cases a7:Bp n=7\/Bp n=8
       ·by_cases h:0<=nA n/\nA n<=4096
        ·have h2:=pos f (BB (by omega)) (hw0 _ (by unfold Fc;rcases a7 with h' |h'<;>simp[h',h]));rcases a7 with h' |h'<;>simp[h',h]<;>exact h2
        ·have:∀v:Int,v=-1->v=Fc d n f:=λv hv=>by unfold Fc;rcases a7 with h' |h'<;>simp[h',h,hv]
         have h2:=pos _ (BB (by omega)) (hw0 _ (this _ rfl));rcases a7 with h' |h'<;>simp[h',h]<;>exact h2
       ·by_cases a9:Bp n=9
        ·by_cases h:1<=nA n/\nA n<=4096
         ·have h1:0<=f*nA n:=Int.mul_nonneg hSb.1 (by omega);have h2:f*nA n<=4096*4096:=Int.mul_le_mul hSb.2 h.2 (by omega) (by omega);have h3:=pos (wI (f*nA n)) (BB (by omega)) (hw0 _ (by rw[AW];unfold Fc;simp[a9,h]));simp[a9,h];exact h3
         ·have:∀v:Int,v=-1->v=Fc d n f:=λv hv=>by unfold Fc;simp[a9,h,hv]
          have h2:=pos _ (BB (by omega)) (hw0 _ (this _ rfl));simp[a9,h];exact h2
        ·simp only[not_or]at a5 a7;have h2:=Aol (by rw[hF];omega);simp[a4,a5,a7,a9];exact h2
    ·rw[Awe c4,Awp];exact Aol (by rw[hF];intro h;rcases h with h |h |h |h;exact c1 h;exact c2 h;exact c3 h;exact c4 h.2.2)
end Go.Proofs.X
namespace Go.Proofs.X
open Go Go.Va
set_option maxRecDepth 100000
def nd(t:Ayh)(i:Nat):Ax7:=t.getD i Ad.zero
def ZE(d:Ayg)(t:Ayh)(ws:Ayd):Prop:=ws.length<=t.length/\∀j,j<ws.length->eT d (ws.take j) (nd t j) (ws.getD j 0)
def Wk(t:Ayh)(k i:Nat):Prop:=∃j,j<i/\(k:Int)∈Ap (nd t j)
def K4(d:Ayg)(t:Ayh)(ws:Ayd):Prop:=1<=t.length/\t.length<=400/\ws.length=t.length/\ZE d t ws/\∀k,k+1<t.length->Wk t k t.length
def N3(t:Ayh):Prop:=t.length<=1048576/\∀n∈t,QO n
theorem ZE.take{d:Ayg}{t:Ayh}{ws:Ayd}(h:ZE d t ws)(i:Nat):ZE d t (ws.take i):=by
 have hl:=h.1;refine⟨by grind,λj hj=>?_⟩;rw[Awu]at hj;have:=h.2 j (by omega)
 grind
theorem ZE.unique{d:Ayg}{t:Ayh}{a b:Ayd}(ha:ZE d t a)(hb:ZE d t b)(hl:a.length=b.length):a=b:=by
 have:∀k,k<=a.length->a.take k=b.take k:=by
  intro k;induction k with
  |zero=>simp
  |succ k ih =>
   intro hk;have e:=ih (by omega);have h1:=ha.2 k (by omega);have h2:=hb.2 k (by omega);rw[A4 (show k<a.length by omega),A4 (show k<b.length by omega),e];rw[e]at h1;rw[h1.2.2.2.1,h2.2.2.2.1]
 have:=this _ (Awf _)
 grind
theorem ZE.Bo{d:Ayg}{t:Ayh}{ws:Ayd}(h:ZE d t ws)(hl:t.length<=1048576):XZ ws:=by
 refine⟨AwD h.1 hl,λw hw=>?_⟩;obtain⟨j,hj,rfl⟩:=AxC hw;have:=(h.2 j hj).2.2.2.2
 grind
theorem ZE.snoc{d:Ayg}{t:Ayh}{ws:Ayd}{w:Int}(h:ZE d t ws)(hl:ws.length<t.length)(hn:eT d ws (nd t ws.length) w):ZE d t (ws++[w]):=by
 refine⟨by grind,λj hj=>?_⟩;rw[Awd]at hj;simp only[Axg,AxW]at hj;rcases Awk j ws.length with h' |h'
 ·rw[List.take_append_of_le_length (by omega),show(ws++[w]).getD j 0=ws.getD j 0 by grind];exact h.2 j h'
 grind
theorem K4.node{d:Ayg}{t:Ayh}{ws qa:Ayd}(h:K4 d t qa)(hp:ZE d t ws)(hl:ws.length<t.length):∃w,eT d ws (nd t ws.length) w:=by
 have e:ws=qa.take ws.length:=hp.unique (h.2.2.2.1.take _) (by rw[Awu,h.2.2.1];omega);have:=h.2.2.2.1.2 _ (by rw[h.2.2.1];exact hl)
 grind
theorem oQ(Bo:Ayd)(n:Ax7):Cs (λm=>Bo.getD ((Ap n).getD m 0).toNat 0) 0 (Ap n).length (Ap n).length=Fs Bo n:=by
 refine Axl (by simp[Cs,Fs]) λi h1 h2=>?_;have :=by simpa [Cs]using h1
 simp[Cs,Fs,this]
theorem Rv{l:Ayd}{x:Int}:x∈l↔∃m,m<l.length/\l.getD m 0=x:=by
 constructor
 ·intro h;obtain⟨m,hm,rfl⟩:=AxC h;exact⟨m,hm,by grind⟩
 grind
theorem ZN{l:Aye}{k j:Nat}(hk:k<l.length):(l.set k true).getD j false=if j=k then true else l.getD j false:=by
 grind
theorem gE{D:Ayg}{C E:Int}{t:Ax4}{q:Ax7}{ws out:Ayd}{Qa:Aye}{n:Ax7}{N:Nat}(hn:QO n)(hl:ws.length<N)(hN:N<=1048576)(ho:out=ws++List.replicate (N-ws.length) 0)(hu:Qa.length=N) :
    As (Mz D C (ws.length:Int) E t out q (Ap n) ((Ap n).length:Int) 0 Qa (List.replicate (Ap n).length 0)) λr=>(∃x,r=.inl x/\¬KN n ws.length)\/(∃u,r=.inr (Fs ws n,u)/\KN n ws.length/\u.length=N/\∀k:Nat,k<N->(u.getD k false=true↔Qa.getD k false=true\/(k:Int)∈Ap n)):=by
 have hlen:=hn.1;have hol:out.length=N:=by grind
 have Q3:∀k:Nat,k<ws.length->out.getD k 0=ws.getD k 0:=λk hk=>by grind
 have:=Bw (f:=ET D C (ws.length:Int) E t out q (Ap n) ((Ap n).length:Int)) (λj (u:Aye)=>((j:Int),u,Cs (λm=>ws.getD ((Ap n).getD m 0).toNat 0) 0 (Ap n).length j)) (Ap n).length
  (λj u=>(∀m,m<j->0<=(Ap n).getD m 0/\(Ap n).getD m 0<(ws.length:Int))/\u.length=N/\∀k:Nat,k<N->(u.getD k false=true↔Qa.getD k false=true\/∃m,m<j/\(Ap n).getD m 0=(k:Int)))
  (Q:=λr=>(∃x,r=.inl x/\¬KN n ws.length)\/(∃u,r=.inr (Fs ws n,u)/\KN n ws.length/\u.length=N/\∀k:Nat,k<N->(u.getD k false=true↔Qa.getD k false=true\/(k:Int)∈Ap n))) (λj u hj hI=>?_) (λu hI=>?_) (s0:=Qa) ⟨λm hm=>by omega,hu,λk _=>⟨λh=>.inl h,λh=>by grind⟩⟩
 ·rw[Nt]at this;exact this
 ·unfold ET Kh;rw[Hq hj,Awr (BS hj),Awa,Kj,AW (x:=(ws.length:Int)-1)];show As (bif !decide (0<=(Ap n).getD j 0/\(Ap n).getD j 0<=(ws.length:Int)-1)then _ else _) _;by_cases h:0<=(Ap n).getD j 0/\(Ap n).getD j 0<=(ws.length:Int)-1
  ·rw[Awe h];obtain⟨k,hk⟩:∃k:Nat,(Ap n).getD j 0=(k:Int):=⟨((Ap n).getD j 0).toNat,by omega⟩;have gl:k<ws.length:=by omega
   rw[show(Ap n).getD j AyN.zero=(k:Int)from hk,Awa,Awr ⟨by omega,by omega⟩,Awr ⟨by omega,by grind⟩,J7,Awr (BS hj),BA hj (by omega)];refine As.mk ⟨u.set k true,?_,λm hm=>?_,by grind,λi hi=>?_⟩
   ·rw[<-Pg];have hg:out.getD k AyN.zero=ws.getD ((Ap n).getD j 0).toNat 0:=by
     grind
    rw[hg]
   ·rcases Awk m j with h' |h'
    ·exact hI.1 m h'
    ·rw[show m=j by omega];omega
   ·rw[ZN (by omega)];by_cases hik:i=k
    ·subst hik;simp only[AwS,true_iff];exact .inr ⟨j,by omega,hk⟩
    ·rw[Aws hik,hI.2.2 i hi];constructor
     ·rintro(h |⟨m,h1,h2⟩)
      ·exact .inl h
      ·exact .inr ⟨m,by omega,h2⟩
     ·rintro(h |⟨m,h1,h2⟩)
      ·exact .inl h
      ·rcases Awk m j with h' |h'
       ·exact .inr ⟨m,h',h2⟩
       ·have:m=j:=by omega
        subst this;omega
  ·rw[Awc h];exact As.mk (.inl ⟨_,rfl,λhk=>h (by have:=hk _ (AG (z:=0) hj);omega)⟩)
 ·unfold ET Kh;rw[IB];refine As.mk (.inr ⟨u,by rw[oQ],λk hk=>?_,hI.2.1,λk hk=>?_⟩)
  ·obtain⟨m,hm,rfl⟩:=Rv.1 hk;exact hI.1 m hm
  ·rw[hI.2.2 k hk,Rv]
theorem fA{u:Aye}(hl:u.length<=1048576):As (Gc u false) λr=>r=true↔∃k,k<u.length/\u.getD k false=false:=by
 refine As.bind (P:=λr=>0<=r↔∃k,k<u.length/\u.getD k false=false) (As.bind (P:=λt=>(∃j:Nat,t=.inl j/\j<u.length/\u.getD j false=false)\/(t=.inr ()/\∀j,j<u.length->u.getD j false=true)) ?_ λt ht=>?_) λr hr=>As.mk (by grind)
 ·refine Bw (λj _=>(j:Int)) u.length (λj _=>∀k,k<j->u.getD k false=true) (λj _ hj hJ=>?_) (λ_ hJ=>?_) (s0:=()) (λi h=>by omega)
  ·unfold CU EI;rw[Hq hj,Awr (BS hj)];show As (bif false==u.getD j false then _ else _) _;cases he:u.getD j _ with
   |false=>exact As.mk (.inl ⟨j,rfl,hj,he⟩)
   |true =>
    rw[BA hj (by omega)];refine As.mk ⟨(),rfl,λk hk=>?_⟩
    grind
  ·unfold CU EI;rw[IB];exact As.mk (.inr ⟨rfl,hJ⟩)
 ·rcases ht with ⟨j,rfl,h1,h2⟩|⟨rfl,h⟩
  ·exact As.mk ⟨λ_=>⟨j,h1,h2⟩,λ_=>by omega⟩
  ·exact As.mk ⟨λh'=>absurd (show 0<=-1 from h') (by omega),λ⟨j,h1,h2⟩=>by grind⟩
theorem ZZ{d:Ayg}{t:Ayh}(ht:N3 t)(hd:d.length<=1048576):As (Oc d (t,())) λr=>(r.1=true/\K4 d t r.2)\/(r.1=false/\¬∃ws,K4 d t ws):=by
 unfold Oc Np;show As (bif decide ((t.length:Int)<1)||decide ((t.length:Int)>400)then _ else _) _;by_cases hl:1<=t.length/\t.length<=400
 ·rw[GL,GL,Bool.or_false,Awo];rw[show JG d (t,()) (t.length:Int)=some (List.replicate t.length 0,List.replicate t.length false) by
   unfold JG;rw[Awr ⟨rfl,by omega,by omega,by omega,by omega⟩,Awr ⟨rfl,by omega,by omega,by omega,by omega⟩,Awa],Av9]
  refine As.bind (P:=λr=>(∃x,r=.inl x/\¬∃ws,K4 d t ws)\/(∃ws u,r=.inr (u,ws)/\ws.length=t.length/\ZE d t ws/\u.length=t.length/\∀k:Nat,k<t.length->(u.getD k false=true↔Wk t k t.length))) ?_ λr hr=>?_
  ·unfold Py;have:=Bw (f:=EU d (t,()) (t.length:Int) (t.length:Int)) (λi (s:Ayd×Aye)=>((i:Int),s.1,s.2)) t.length
    (λi s=>∃ws:Ayd,ws.length=i/\ZE d t ws/\s.1=ws++List.replicate (t.length-i) 0/\s.2.length=t.length/\∀k:Nat,k<t.length->(s.2.getD k false=true↔Wk t k i))
    (Q:=λr=>(∃x,r=.inl x/\¬∃ws,K4 d t ws)\/(∃ws u,r=.inr (u,ws)/\ws.length=t.length/\ZE d t ws/\u.length=t.length/\∀k:Nat,k<t.length->(u.getD k false=true↔Wk t k t.length))) (λi s hi hI=>?_) (λs hI=>?_) (s0:=(List.replicate t.length 0,List.replicate t.length false)) ⟨[],rfl,⟨AwW _,λj hj=>by simp at hj⟩,rfl,AwG,λk hk=>by
     have h0:(List.replicate t.length false).getD k false=false:=by simp[List.getD,hk]
     constructor
     ·intro h;rw[h0]at h;cases h
     ·rintro⟨j,hj,_⟩;omega⟩
   ·exact this
   ·obtain⟨out,Qa⟩:=s;obtain⟨ws,rfl,hp,ho,XN,hu⟩:=hI;simp only at ho XN hu;have hn:QO (nd t ws.length):=ht.2 _ (AG hi);have gl:=hn.1;unfold EU Ki;simp only;rw[show decide ((ws.length:Int)<(t.length:Int))=true from Hq hi,Awp,Awr (BS hi),Awa];show As (bif decide (((Ap (nd t ws.length)).length:Int)>4096)then _ else if Ty.row AyN=true/\(0:Int)<=((Ap (nd t ws.length)).length:Int)/\((Ap (nd t ws.length)).length:Int)<=((Ap (nd t ws.length)).length:Int)/\((8:Nat):Int)*((Ap (nd t ws.length)).length:Int)<=(281474976710656:Int)/\((Ap (nd t ws.length)).length:Int)<=(9223372036854775807:Int)then(Mz d (t.length:Int) (ws.length:Int) (t.length:Int) (t,()) out (nd t ws.length) (Ap (nd t ws.length)) ((Ap (nd t ws.length)).length:Int) 0 Qa (List.replicate ((Ap (nd t ws.length)).length:Int).toNat 0)).bind _ else none) _;by_cases hk4:(Ap (nd t ws.length)).length>4096
    ·rw[Jy];refine As.mk (.inl ⟨_,rfl,λ⟨qa,h'⟩=>?_⟩);obtain⟨w,hw⟩:=h'.node hp hi;have hb:=RG (hp.Bo ht.1) hw.1;have Ue:=hw.2.2.1;have heq:=hw.2.2.2.1;have hw4:=hw.2.2.2.2.2;rcases Ue with h |h |h |h
     ·omega
     ·omega
     ·have:Fc d (nd t ws.length) (Fs ws (nd t ws.length)).sum=O7 ws (nd t ws.length):=by unfold O7 Fc;simp[h.1]
      omega
     ·omega
    ·rw[GL,Awo,Awr ⟨rfl,by omega,by omega,by omega,by omega⟩,Awa];refine As.bind (gE hn hi ht.1 ho XN) λr hr=>?_;rcases hr with ⟨x,rfl,h⟩|⟨u,rfl,Hs,Ard,yL⟩
     ·refine As.mk (.inl ⟨_,rfl,λ⟨qa,h'⟩=>?_⟩);obtain⟨w,hw⟩:=h'.node hp hi;exact h hw.1
     ·simp only[Axh];obtain⟨r,hr,hq⟩:=gH (d:=d) hn (hp.Bo ht.1) hd Hs;rw[show ER (t.getD ws.length Ad.zero) d (Fs ws (nd t ws.length))=some r from hr,Av9];have hol:out.length=t.length:=by rw[ho,Awd,AwG];omega
      rw[Awr ⟨by omega,by rw[hol];omega⟩];unfold MA;rw[show Df (t.getD ws.length Ad.zero)=_ from uX (nd t ws.length),Awi,Awr ⟨by omega,by rw[hol];omega⟩,Awa];have hgs:(out.set ws.length r).getD ws.length AyN.zero=r:=by simp[List.getD,hol,hi]
      rw[hgs,Kj];have F2:out.set ws.length r=(ws++[r])++List.replicate (t.length-(ws.length+1)) 0:=by
       rw[ho,show t.length-ws.length=(t.length-(ws.length+1))+1 by omega,List.replicate_succ];simp
      by_cases jY:Rk (nd t ws.length)
      ·by_cases eM:1<=r/\r<=4096
       ·rw[Awe jY,Awe eM];simp only[AwT,Awo,Av9];have Ue:Ix d (nd t ws.length):=by
         by_cases hf:Ix d (nd t ws.length)
         ·exact hf
         ·have:=hq.2 hf;omega
        have tF:eT d ws (nd t ws.length) r:=⟨Hs,jY,Ue,hq.1 Ue,eM⟩;refine As.mk ⟨(out.set ws.length r,u),by rw[BA hi ht.1],ws++[r],by simp,hp.snoc hi tF,F2,Ard,λk hk=>?_⟩;rw[yL k hk,hu k hk];constructor
        ·rintro(⟨j,h1,h2⟩|h)
         ·exact⟨j,by omega,h2⟩
         ·exact⟨ws.length,by omega,h⟩
        ·rintro⟨j,h1,h2⟩
         rcases Awk j ws.length with h' |h'
         ·exact .inl ⟨j,h',h2⟩
         ·rw[show j=ws.length by omega]at h2;exact .inr h2
       ·rw[Awe jY,Awc eM];refine As.mk (.inl ⟨_,rfl,λ⟨qa,h'⟩=>?_⟩);obtain⟨w,hw⟩:=h'.node hp hi;have:=hq.1 hw.2.2.1;have h3:=hw.2.2.2;unfold O7 at this;rw[<-this]at h3;exact eM (by rw[<-h3.1];exact h3.2)
      ·rw[Awc jY];refine As.mk (.inl ⟨_,rfl,λ⟨qa,h'⟩=>?_⟩);obtain⟨w,hw⟩:=h'.node hp hi;exact jY hw.2.1
   ·obtain⟨out,Qa⟩:=s;obtain⟨ws,eP,hp,ho,XN,hu⟩:=hI;simp only at ho XN hu;unfold EU Ki;simp only;rw[IB,Awo];rw[Nat.sub_self,List.replicate_zero,AwO]at ho;subst ho;exact As.mk (.inr ⟨out,Qa,rfl,eP,hp,XN,hu⟩)
  ·rcases hr with ⟨x,rfl,h⟩|⟨ws,u,rfl,eP,hp,XN,hu⟩
   ·exact As.mk (.inr ⟨rfl,h⟩)
   ·simp only[Axh];have e1:wI ((t.length:Int)-1)=((t.length-1:Nat):Int):=A3;rw[e1,Awr ⟨by omega,by omega,by rw[XN];omega⟩,Awa,List.drop_zero];have htl:(u.take (t.length-1)).length=t.length-1:=by rw[Awu];omega
    have tq:∀k,k<t.length-1->(u.take (t.length-1)).getD k false=u.getD k false:=λk hk=>by simp[List.getD,hk]
    refine As.bind (fA (by omega)) λr hr=>As.mk ?_;rw[htl]at hr;cases r with
    |false =>
     refine .inl ⟨rfl,hl.1,hl.2,eP,hp,λk hk=>(hu k (by omega)).1 ?_⟩;cases hc:u.getD k false with
     |true=>rfl
     |false=>have:=hr.2 ⟨k,by omega,by rw[tq k (by omega)];exact hc⟩;cases this
    |true =>
     obtain⟨k,hk,hf⟩:=hr.1 rfl;rw[tq k hk]at hf;refine .inr ⟨rfl,λ⟨qa,h'⟩=>?_⟩;have:=(hu k (by omega)).2 (h'.2.2.2.2 k (by omega));rw[this]at hf;cases hf
 ·have hc:(decide ((t.length:Int)<1)||decide ((t.length:Int)>400))=true:=by simp;omega
  rw[hc];exact As.mk (.inr ⟨rfl,λ⟨ws,h⟩=>hl ⟨h.1,h.2.1⟩⟩)
end Go.Proofs.X
namespace Go.Proofs.X
open Go Go.Va
set_option maxRecDepth 100000
theorem iH{D:Ayg}{W:Ayd}{t:Ayh}{i:Nat}{Qa:Aye}(hi:i<t.length)(hn:QO (nd t i))(Hs:KN (nd t i) Qa.length) :
    As (NF D (i:Int) (t,()) W 0 Qa) λu=>u.length=Qa.length/\∀k:Nat,k<Qa.length->(u.getD k false=true↔Qa.getD k false=true\/(k:Int)∈Ap (nd t i)):=by
 have hlen:=hn.1;refine Bw (λj u=>((j:Int),u)) (Ap (nd t i)).length (λj u=>u.length=Qa.length/\∀k ,k<Qa.length->(u.getD k false=true↔Qa.getD k _=true\/∃m,m<j/\(Ap (nd t i)).getD m 0=k)) (λj u hj hI=>?_) (λu hI=>?_)  ⟨rfl,λk _=>⟨λh=>.inl h,λh=>by grind⟩⟩
 ·unfold FC HR;rw[Awr (BS hi),Awr (BS hi)];show As (bif decide (j<((Ap (nd t i)).length:Int))then(if 0<=(j:Int)/\j<((Ap (nd t i)).length:Int)then(if 0<=(Ap _).getD j 0/\(Ap (nd t i)).getD j 0<u.length then some (Sum.inl (wI _,u.set ((Ap (nd t i)).getD j 0).toNat true))else none)else none)else _) _;have yF:=Hs _ (AG (z:=0) hj);rw[Hq hj,Awr (BS hj),Awr ⟨yF.1,by grind⟩,BA hj (by omega)];obtain⟨k,hk⟩:∃k:Nat,(Ap (nd t i)).getD j 0=k:=⟨((Ap (nd t i)).getD j 0).toNat,by omega⟩;rw[hk,Awa];refine As.mk ⟨_,rfl,by grind,λi' wP=>?_⟩
  grind
 ·unfold FC HR;rw[Awr (BS hi)];show As (bif decide (((Ap _).length)<((Ap (nd t i)).length:Int))then _ else some _) _;rw[IB];refine As.mk ⟨hI.1,λk hk=>?_⟩;rw[hI.2 k hk,Rv]
theorem Us{d:Ayg}{t:Ayh}(ht:N3 t)(hd:d.length<=1048576):As (Lg d (t,())) λr=>(AZ d/\K4 d t r)\/(r=[]/\¬(AZ d/\∃ws,K4 d t ws)):=by
 unfold Lg;have htb:=ht.1;obtain⟨b,aO,fY⟩:∃b,Hm d (t,())=some b/\(b=false↔AZ d/\1<=t.length/\t.length<=400):=by
  obtain⟨r,hr,hq⟩:=RD d;unfold Hm;rw[hr,Av9];show ∃b,(bif !r then some true else bif decide ((t.length:Int)<1)then some true else some (decide ((t.length:Int)>400)))=some b/\_;cases r with
  |false=>exact⟨true,rfl,λh=>by(cases h),λh=>by have:=hq.2 h.1;cases this⟩
  |true =>
   have ZR:=hq.1 rfl;by_cases h1:(t.length:Int)<1
   ·rw[Awe h1];exact⟨true,rfl,λh=>by(cases h),λh=>by omega⟩
   ·rw[Awc h1];refine⟨_,rfl,?_⟩;rw[AwV];exact⟨λh=>⟨ZR,by omega,by omega⟩,λh=>by omega⟩
 rw[aO,Av9];cases b with
 |true =>
  refine As.mk (.inr ⟨rfl,λh=>?_⟩);obtain⟨h1,ws,h2⟩:=h;have:=fY.2 ⟨h1,h2.1,h2.2.1⟩;cases this
 |false =>
  obtain⟨ZR,U9,oI⟩:=fY.1 rfl;rw[Awo];show As (if Ty.row .bool=true/\(0:Int)<=(t.length:Int)/\(t.length:Int)<=(t.length:Int)/\((1:Nat):Int)*(t.length:Int)<=(281474976710656:Int)/\(t.length:Int)<=(9223372036854775807:Int)then(Kz d (t,()) 0 [] (List.replicate (t.length:Int).toNat false)).bind _ else none) _;rw[Awr ⟨rfl,by omega,by omega,by omega,by omega⟩,Awa];refine As.bind (P:=λr=>(∃x,r=.inl x/\¬∃ws,K4 d t ws)\/(∃ws u,r=.inr (u,ws)/\ws.length=t.length/\ZE d t ws/\u.length=t.length/\∀k:Nat,k<t.length->(u.getD k false=true↔Wk t k t.length))) ?_ λr hr=>?_
  ·unfold Kz;refine Bw (λi (s:Ayd×Aye)=>((i:Int),s.1,s.2)) t.length
    (λi s=>s.1.length=i/\ZE d t s.1/\s.2.length=t.length/\∀k:Nat,k<t.length->(s.2.getD k false=true↔Wk t k i))
    (λi s hi hI=>?_) (λs hI=>?_) (s0:=(([]:Ayd),List.replicate t.length false)) ⟨rfl,⟨AwW _,λj hj=>by simp at hj⟩,AwG,λk hk=>by
     have h0:(List.replicate t.length false).getD k false=false:=by simp[List.getD,hk]
     constructor
     ·intro h;rw[h0]at h;cases h
     ·rintro⟨j,hj,_⟩;omega⟩
   ·obtain⟨ws,Qa⟩:=s;obtain⟨eP,hp,XN,hu⟩:=hI;simp only at eP hp XN hu;subst eP;have hn:QO (nd t ws.length):=ht.2 _ (AG hi);unfold FD HS;simp only;rw[show decide ((ws.length:Int)<(t.length:Int))=true from Hq hi,Awp,Awr (BS hi),Awa];obtain⟨r,hr,hq⟩:=iC (d:=d) (i:=ws.length) hn (by omega) hd;rw[show L9 d (t.getD ws.length Ad.zero) (ws.length:Int)=some r from hr,Av9];cases r with
    |false =>
     refine As.mk (.inl ⟨_,rfl,λ⟨qa,h'⟩=>?_⟩);obtain⟨w,hw⟩:=h'.node hp hi;have:=hq.2 ⟨hw.1,hw.2.1,hw.2.2.1⟩;cases this
    |true =>
     obtain⟨Hs,jY,Ue⟩:=hq.1 rfl;simp only[AwT,Awo];rw[Awr (BS hi)];have hwb:=hp.Bo htb;obtain⟨w,hw,hwe⟩:=iJ (d:=d) hn hwb Hs Ue;rw[show Oq d (t.getD ws.length Ad.zero) ws=some w from hw,Av9,NW];have AaR:=wh hwb Hs Ue;by_cases eM:1<=w/\w<=4096
     ·rw[Awe eM];simp only[AwT,Awo];have tF:eT d ws (nd t ws.length) w:=⟨Hs,jY,Ue,by
       rcases AaR with h |h
       ·rw[hwe,h];rfl
       ·omega,eM⟩
      rw[Awr (by show(_+1)*8<=_;omega)];refine As.bind (iH hi hn (by rw[XN];exact λk hk=>by have:=Hs k hk;omega)) λu yL=>As.mk ⟨(ws++[w],u),by rw[BA hi htb],by simp,hp.snoc hi tF,yL.1.trans XN,λk hk=>?_⟩;rw[yL.2 k (by omega),hu k hk];constructor
      ·rintro(⟨j,h1,h2⟩|h)
       ·exact⟨j,by omega,h2⟩
       ·exact⟨ws.length,by omega,h⟩
      ·rintro⟨j,h1,h2⟩
       rcases Awk j ws.length with h' |h'
       ·exact .inl ⟨j,h',h2⟩
       ·rw[show j=ws.length by omega]at h2;exact .inr h2
     ·rw[Awc eM];refine As.mk (.inl ⟨_,rfl,λ⟨qa,h'⟩=>?_⟩);obtain⟨v,hv⟩:=h'.node hp hi;have h3:=hv.2.2.2;have e:(Fs ws (nd t ws.length)).sum=O7 ws (nd t ws.length):=rfl;rw[e]at h3;rcases AaR with h |h
      ·rw[hwe,h]at eM;exact eM (by rw[<-h3.1];exact h3.2)
      ·omega
   ·obtain⟨ws,Qa⟩:=s;obtain⟨eP,hp,XN,hu⟩:=hI;unfold FD HS;simp only;rw[IB,Awo];exact As.mk (.inr ⟨ws,Qa,rfl,eP,hp,XN,hu⟩)
  ·rcases hr with ⟨x,rfl,h⟩|⟨ws,u,rfl,eP,hp,XN,hu⟩
   ·exact As.mk (.inr ⟨rfl,λhh=>h hh.2⟩)
   ·simp only[Axh];refine As.bind (P:=λr=>(r=.inl ()/\¬∀k,k+1<t.length->u.getD k false=true)\/(r=.inr ()/\∀k,k+1<t.length->u.getD k false=true)) ?_ λr hr=>?_
    ·unfold NG;refine Bw (λj (_:Unit)=>(j:Int)) (t.length-1) (λj _=>∀k,k<j->u.getD k false=true) (λj _ hj hJ=>?_) (λ_ hJ=>?_) (s0:=()) (λi h=>by omega)
     ·unfold FE HT;rw[BA (show j<t.length by omega) htb,XN,show decide (((j+1:Nat):Int)<(t.length:Int))=true from Jy,Awp,Awr (BS (by omega)),Awa];show As (bif !(u.getD j false)then _ else _) _;cases hc:u.getD j false with
      |false=>exact As.mk (.inl ⟨rfl,λh=>by rw[h j (by omega)]at hc;cases hc⟩)
      |true =>
       refine As.mk ⟨(),rfl,λk hk=>?_⟩;rcases Awk k j with h' |h'
       ·exact hJ k h'
       ·rw[show k=j by omega];exact hc
     ·unfold FE HT;rw[show wI (((t.length-1:Nat):Int)+1)=(t.length:Int)from A3,XN,IB,Awo];exact As.mk (.inr ⟨rfl,λk hk=>hJ k (by omega)⟩)
    ·rcases hr with ⟨rfl,h⟩|⟨rfl,h⟩
     ·exact As.mk (.inr ⟨rfl,λ⟨_,qa,h'⟩=>h λk hk=>(hu k (by omega)).2 (h'.2.2.2.2 k hk)⟩)
     ·exact As.mk (.inl ⟨ZR,U9,oI,eP,hp,λk hk=>(hu k (by omega)).1 (h k hk)⟩)
open Classical in
noncomputable def GJ(d:Ayg)(t:Ayh):Int:=if h:∃ws,K4 d t ws then h.choose.getD (t.length-1) 0 else -1
theorem Te{d:Ayg}{t:Ayh}{ws:Ayd}(h:K4 d t ws):GJ d t=ws.getD (t.length-1) 0:=by
 have he:∃ws,K4 d t ws:=⟨ws,h⟩;unfold GJ;rw[dif_pos he];have h1:=he.choose_spec;rw[h1.2.2.2.1.unique h.2.2.2.1 (by rw[h1.2.2.1,h.2.2.1])]
theorem RI{d:Ayg}{t:Ayh}(h:¬∃ws,K4 d t ws):GJ d t=-1:=by
 unfold GJ;rw[dif_neg h]
theorem pZ{d:Ayg}{t:Ayh}{ws:Ayd}(h:K4 d t ws):1<=GJ d t/\GJ d t<=4096:=by
 rw[Te h];have:=h.1;exact(h.2.2.2.1.2 _ (by rw[h.2.2.1];omega)).2.2.2.2
theorem SX{d:Ayg}{t:Ayh}(ht:N3 t)(hd:d.length<=1048576):HH d (t,())=some (GJ d t):=by
 refine As.eq_ (As.bind (ZZ ht hd) λr hr=>?_);rcases hr with ⟨h1,h2⟩|⟨h1,h2⟩
 ·rw[h1];have:=h2.1;have hb:=ht.1;rw[h2.2.2.1,show wI _=((t.length-1:Nat))from A3,Awr ⟨by omega,by omega⟩];exact As.mk (Te h2).symm
 ·rw[h1];exact As.mk (RI h2).symm
theorem PS{d:Ayg}{t:Ayh}(ht:N3 t)(hd:d.length<=1048576)(ZR:AZ d):B6 d (t,())=some (GJ d t):=by
 refine As.eq_ (As.bind (Us ht hd) λr hr=>?_);rcases hr with ⟨_,h2⟩|⟨rfl,h2⟩
 ·have:=h2.1;have hb:=ht.1;rw[h2.2.2.1,OW,GL,show wI _=((t.length-1:Nat))from A3,Awr ⟨by omega,by omega⟩];exact As.mk (Te h2).symm
 ·exact As.mk (RI λh=>h2 ⟨ZR,h⟩).symm
end Go.Proofs.X
namespace Go.Proofs.X
open Go Go.Va
set_option maxRecDepth 100000
def li(l:Ayj)(i:Nat):Ax9:=l.getD i Af.zero
def dm(l:Ayj)(i:Nat):Int:=(li l i).1
def lS(l:Ayj)(i:Nat):Ayh:=(li l i).2.2.1.1
def lT(l:Ayj)(i:Nat):Ayh:=(li l i).2.2.2.1.1
def Vf(d:Ayg)(l:Ayj)(i:Nat):Prop:=(1<=dm l i/\dm l i<=1000000)/\(0<i->dm l (i-1)<dm l i)/\0<=GJ d (lS l i)/\GJ d (lT l i)=GJ d (lS l i)
def Qe(d:Ayg)(l:Ayj):Prop:=l.length<=60/\∀i,i<l.length->Vf d l i
def QM(x:Ax9):Prop:=N3 x.2.2.1.1/\N3 x.2.2.2.1.1
theorem iD{d:Ayg}{l:Ayj}(hl:∀x∈l,QM x):As (Ic d l) λr=>r=true↔AZ d/\Qe d l:=by
 unfold Ic;obtain⟨b,aO,fY⟩:∃b,Fx d l=some b/\(b=false↔AZ d/\l.length<=60):=by
  obtain⟨r,hr,hq⟩:=RD d;unfold Fx;rw[hr,Av9];cases r with
  |false=>exact⟨true,rfl,λh=>by(cases h),λh=>by have:=hq.2 h.1;cases this⟩
  |true =>
   have ZR:=hq.1 rfl;refine⟨decide ((l.length:Int)>60),rfl,?_⟩;rw[AwV];exact⟨λh=>⟨ZR,by omega⟩,λh=>by omega⟩
 rw[aO,Av9];cases b with
 |true=>exact As.mk ⟨λh=>by(cases h),λh=>by have:=fY.2 ⟨h.1,h.2.1⟩;cases this⟩
 |false =>
  obtain⟨ZR,hlen⟩:=fY.1 rfl;have hd:=ZR.1;rw[Awo];refine As.bind (P:=λt=>(t=.inl ()/\¬∀i,i<l.length->Vf d l i)\/(t=.inr ()/\∀i,i<l.length->Vf d l i)) ?_ λt ht=>?_
  ·unfold LQ;refine Bw (λj (_:Unit)=>(j:Int)) l.length (λj _=>∀k,k<j->Vf d l k) (λj _ hj hJ=>?_) (λ_ hJ=>?_) (s0:=()) (λi h=>by omega)
   ·unfold DI Gg;have hB:=hl _ (AG (z :=Af.zero) hj);have e1:B6 d (l.getD j Af.zero).2.2.1=some (GJ d (lS l j)):=PS hB.1 (by omega) ZR;have e2:B6 d (l.getD j Af.zero).2.2.2.1=some (GJ d (lT l j)):=PS hB.2 (by omega) ZR;have e3:(l.getD j Af.zero).1=dm l j:=rfl;rw[Hq hj,Awp,Awr (BS hj),Awa,e1,Av9];obtain⟨b,aO,fY⟩:∃b,Fy d l (j:Int) (GJ d (lS l j))=some b/\(b=false↔Vf d l j):=by
     unfold Fy Vf;rw[Awr (BS hj),Awr (BS hj),Awa,e3,NW,e2,Av9];by_cases h1:1<=dm l j/\dm l j<=1000000
     ·rw[Awe h1];simp only[AwT,Awo];have last:∃b,(bif decide (GJ d (lS l j)<0)then some true else some (GJ d (lT l j) !=GJ d (lS l j)))=some b/\(b=false↔0<=GJ d (lS l j)/\GJ d (lT l j)=GJ d (lS l j)):=by
       by_cases h2:GJ d (lS l j)<0
       ·rw[Awe h2];exact⟨true,rfl,λh=>by(cases h),λh=>by omega⟩
       ·rw[Awc h2,Awo];refine⟨_,rfl,?_⟩;rw[AxS];exact⟨λh=>⟨by omega,h⟩,λh=>h.2⟩
      obtain⟨b,hb,hq⟩:=last;by_cases h2:0<j
      ·rw[Awe (show(j:Int)>0 by omega),Awp,show wI ((j:Int)-1)=((j-1:Nat):Int)from A3,Awr (BS (by omega)),Awa];have e4:(l.getD (j-1) Af.zero).1=dm l (j-1):=rfl;rw[e4];by_cases h3:dm l j<=dm l (j-1)
       ·rw[Awe h3];exact⟨true,rfl,λh=>by(cases h),λh=>by have:=h.2.1 h2;omega⟩
       ·rw[Awc h3,Awo,Awr (BS hj),hb];exact⟨b,rfl,hq.trans ⟨λh=>⟨h1,λ_=>by omega,h⟩,λh=>h.2.2⟩⟩
      ·rw[Awc (show ¬(j:Int)>0 by omega),Awo,Awr (BS hj),hb];exact⟨b,rfl,hq.trans ⟨λh=>⟨h1,λh'=>absurd h' h2,h⟩,λh=>h.2.2⟩⟩
     ·rw[Awc h1];exact⟨true,rfl,λh=>by(cases h),λh=>absurd h.1 h1⟩
    rw[aO,Av9];cases b with
    |true=>exact As.mk (.inl ⟨rfl,λh=>by have:=fY.2 (h j hj);cases this⟩)
    |false =>
     rw[Awo,BA hj (by omega)];refine As.mk ⟨(),rfl,λk hk=>?_⟩;rcases Awk k j with h' |h'
     ·exact hJ k h'
     ·rw[show k=j by omega];exact fY.1 rfl
   ·unfold DI Gg;rw[IB,Awo];exact As.mk (.inr ⟨rfl,hJ⟩)
  ·rcases ht with ⟨rfl,h⟩|⟨rfl,h⟩
   ·exact As.mk ⟨λh=>by(cases h),λh'=>absurd h'.2.2 h⟩
   ·exact As.mk ⟨λ_=>⟨ZR,hlen,h⟩,λ_=>rfl⟩
end Go.Proofs.X
namespace Go.Va
open Go.Proofs.X
theorem fT{T:Type}{f:Int×AyZ T->Ay0 ((Int×AyZ T)⊕AyZ T)}(N:Nat)(it:Nat->AyZ T)(a0:AyZ T)
    (hs:∀k,k<N->f ((k:Int),a0++(List.range k).flatMap it)=some (.inl (((k+1:Nat):Int),a0++(List.range k).flatMap it++it k)))
    (he:f ((N:Int),a0++(List.range N).flatMap it)=some (.inr (a0++(List.range N).flatMap it))):fix f (0,a0)=some (a0++(List.range N).flatMap it):=by
 have:=A2 (f:=f) (λk=>((k:Int),a0++(List.range k).flatMap it)) N (λk hk=>by
  rw[hs k hk,Axq,AxT,Awh];simp) he
 simpa using this
theorem W7{A B:Type}(g:A->B)(l:AyZ A):l.flatMap (λx=>[g x])=l.map g:=by
 induction l with
 |nil=>rfl
 |cons x l ih=>simp[ih]
theorem Yw{A B:Type}(b:AyZ B)(l:AyZ A):l.flatMap (λ_=>b)=(List.replicate l.length b).flatten:=by
 induction l with
 |nil=>rfl
 |cons x l ih=>simp[ih,List.replicate_succ]
end Go.Va
namespace Go.Proofs.X
open Go Go.Va
set_option maxRecDepth 100000
def K1(n:Ax7)(w:Nat):Nat:=if Bp n=8 then(w-(nA n).toNat%w)%w else(nA n).toNat%w
def Bc(d:Ayg)(n:Ax7)(kids:AyZ (AyZ Bt)):AyZ Bt :=
 if Bp n=1 then(List.range (dw d (FV n).toNat).toNat).map λa=>.va (FV n).toNat a
 else if Bp n=2 then(List.range (nW n).toNat).map λk=>.co (bt (YZ n) k)
 else if Bp n=3 then kids.reverse.flatten
 else if Bp n=4 then((kids.getD 0 []).take ((nA n).toNat+1)).drop (nB n).toNat
 else if Bp n=5 then kids.getD 0 []++List.replicate (nA n).toNat (.co false)
 else if Bp n=6 then kids.getD 0 []++List.replicate (nA n).toNat ((kids.getD 0 []).getD ((kids.getD 0 []).length-1) (.co false))
 else if Bp n=9 then(List.replicate (nA n).toNat (kids.getD 0 [])).flatten
 else(kids.getD 0 []).drop ((kids.getD 0 []).length-K1 n (kids.getD 0 []).length)++(kids.getD 0 []).take ((kids.getD 0 []).length-K1 n (kids.getD 0 []).length)
def Sp(d:Ayg):Bt->Prop
 |.co _=>True
 |.va v a=>v<d.length/\((a:Nat):Int)<dw d v
def YM(kids:AyZ (AyZ Bt)):Int:=((kids.map List.length).sum:Nat)
def Ce(d:Ayg)(B:AyZ Bt):Prop:=1<=B.length/\B.length<=4096/\∀b∈B,Sp d b
structure NB (d:Ayg) (n:Ax7) (kids:List (List Bt)):Prop where
 hd:AZ d
 hf:Ix d n
 hb:QO n
 hk:kids.length=(Ap n).length
 hw:1<=Fc d n (YM kids)/\Fc d n (YM kids)<=4096
 Hs:∀B∈kids,Ce d B
theorem QS{d:Ayg}(hd:AZ d){b:Bt}(h:Sp d b):BtB b:=by
 cases b with
 |co b=>trivial
 |va v a =>
  obtain⟨h1,h2⟩:=h;have:=(hd.2.1 v h1).2.1;have:=hd.1;exact⟨by omega,by omega⟩
theorem NB.one{d:Ayg}{n:Ax7}{kids:AyZ (AyZ Bt)}(h:NB d n kids)(h1:Bp n≠1)(h2:Bp n≠2)(h3:Bp n≠3):4<=Bp n/\Bp n<=9/\∃B,kids=[B]/\Ce d B/\YM kids=(B.length:Int):=by
 have hf:=h.hf;unfold Ix at hf;have:4<=Bp n/\Bp n<=9/\(Ap n).length=1:=by omega
 obtain⟨h4,h9,hl⟩:=this;have hk:=h.hk;rw[hl]at hk
 match kids,hk,h.Hs with
 |[B],_,Hs=>exact⟨h4,h9,B,rfl,Hs B AwE,by simp[YM]⟩
theorem ea{n:Ax7}{w:Nat}(h:1<=w):K1 n w<w:=by
 unfold K1;split<;>exact Nat.mod_lt _ (by omega)
theorem Xk(l:AyZ Nat):l.reverse.sum=l.sum:=by
 induction l with
 |nil=>rfl
 |cons x l ih=>simp[ih];omega
theorem VP{d:Ayg}{n:Ax7}{kids:AyZ (AyZ Bt)}(h:NB d n kids):((Bc d n kids).length:Int)=Fc d n (YM kids):=by
 have hw:=h.hw;by_cases h1:Bp n=1
 ·simp only[Bc,Fc,Awr h1,Awl,AwQ]at hw⊢;omega
 by_cases h2:Bp n=2
 ·simp only[Bc,Fc,Aws h1,Awr h2,Awl,AwQ]at hw⊢;omega
 by_cases h3:Bp n=3
 ·have e:¬Bp n=4/\¬(Bp n=5\/Bp n=6)/\¬(Bp n=7\/Bp n=8)/\¬Bp n=9:=by omega
  simp only[Bc,Fc,Aws h1,Aws h2,Awr h3,Aws e.1,Aws e.2.1,Aws e.2.2.1,Aws e.2.2.2,YM];rw[Axr,List.map_reverse,Xk]
 obtain⟨h4,h9,B,rfl,hB,hs⟩:=h.one h1 h2 h3;have hl:=hB.1;rw[hs]at hw⊢;by_cases fU:Bp n=4
 ·simp only[Bc,Fc,Aws h1,Aws h2,Aws h3,Awr fU,Axd,AwJ,Awu]at hw⊢;split at hw<;>rename_i hc
  ·rw[Awr hc];omega
  ·omega
 by_cases h5:Bp n=5
 ·have je:Bp n=5\/Bp n=6:=.inl h5;simp only[Bc,Fc,Aws h1,Aws h2,Aws h3,Aws fU,Awr h5,Awr je,Axd,Awd,AwG]at hw⊢;split at hw<;>rename_i hc
  ·rw[Awr hc];omega
  ·omega
 by_cases h6:Bp n=6
 ·have je:Bp n=5\/Bp n=6:=.inr h6;simp only[Bc,Fc,Aws h1,Aws h2,Aws h3,Aws fU,Aws h5,Awr h6,Awr je,Axd,Awd,AwG]at hw⊢;split at hw<;>rename_i hc
  ·rw[Awr hc];omega
  ·omega
 have je:¬(Bp n=5\/Bp n=6):=by omega
 by_cases l5:Bp n=9
 ·have s6:¬(Bp n=7\/Bp n=8):=by omega
  simp only[Bc,Fc,Aws h1,Aws h2,Aws h3,Aws fU,Aws h5,Aws h6,Aws je,Aws s6,Awr l5,Axd,Axr,AxI,AxF]at hw⊢;split at hw<;>rename_i hc
  ·rw[Awr hc];have:(nA n)=((nA n).toNat:Int):=by omega
   rw[this,Awa,Int.natCast_mul,Int.mul_comm]
  ·omega
 ·have s6:Bp n=7\/Bp n=8:=by omega
  have ht:=ea (n:=n) hl;simp only[Bc,Fc,Aws h1,Aws h2,Aws h3,Aws fU,Aws h5,Aws h6,Aws je,Awr s6,Aws l5,Axd,Awd,AwJ,Awu]at hw⊢;split at hw<;>rename_i hc
  ·rw[Awr hc];omega
  ·omega
theorem Qn{d:Ayg}{n:Ax7}{kids:AyZ (AyZ Bt)}(h:NB d n kids):Ce d (Bc d n kids):=by
 have hl:=VP h;refine⟨by have:=h.hw;omega,by have:=h.hw;omega,λb hb=>?_⟩;by_cases h1:Bp n=1
 ·have hf:=h.hf;unfold Ix at hf;have hv:0<=FV n/\FV n<(d.length:Int):=by omega
  simp only[Bc,Awr h1,List.mem_map,List.mem_range]at hb;obtain⟨a,ha,rfl⟩:=hb;exact⟨by omega,by omega⟩
 by_cases h2:Bp n=2
 ·simp only[Bc,Aws h1,Awr h2,List.mem_map,List.mem_range]at hb;obtain⟨a,ha,rfl⟩:=hb;trivial
 by_cases h3:Bp n=3
 ·simp only[Bc,Aws h1,Aws h2,Awr h3,List.mem_flatten,List.mem_reverse]at hb;obtain⟨B,hB,hb⟩:=hb;exact(h.Hs B hB).2.2 b hb
 obtain⟨h4,h9,B,rfl,hB,hs⟩:=h.one h1 h2 h3;have hz:B.getD (B.length-1) (.co false)∈B:=AG (by have:=hB.1;omega);simp only[Bc,Aws h1,Aws h2,Aws h3,Axd]at hb;split at hb
 ·exact hB.2.2 b (Aw8 (AxA hb))
 split at hb
 ·rcases List.mem_append.1 hb with hb |hb
  ·exact hB.2.2 b hb
  ·rw[(List.mem_replicate.1 hb).2];trivial
 split at hb
 ·rcases List.mem_append.1 hb with hb |hb
  ·exact hB.2.2 b hb
  ·rw[(List.mem_replicate.1 hb).2];exact hB.2.2 _ hz
 split at hb
 ·obtain⟨C,hC,hb⟩:=List.mem_flatten.1 hb;rw[(List.mem_replicate.1 hC).2]at hb;exact hB.2.2 b hb
 ·rcases List.mem_append.1 hb with hb |hb
  ·exact hB.2.2 b (AxA hb)
  ·exact hB.2.2 b (Aw8 hb)
end Go.Proofs.X
namespace Go.Va
open Go.Proofs.X
theorem SN{T:Type}{f:Int×AyZ T->Ay0 ((Int×AyZ T)⊕AyZ T)}(N:Nat)(g:Nat->T)(a0:AyZ T)
    (hs:∀k acc,k<N->acc.length=a0.length+k->f ((k:Int),acc)=some (.inl (((k+1:Nat):Int),acc++[g k]))) (he:∀acc,f ((N:Int),acc)=some (.inr acc)):fix f (0,a0)=some (a0++(List.range N).map g):=by
 have:=fT  N (λk=>[g k]) a0 (λk hk=>hs k _ hk (by rw[W7];simp)) (he _);rw[W7]at this;exact this
end Go.Va
namespace Go.Proofs.X
open Go Go.Va
set_option maxRecDepth 100000
theorem Aoh(kids:AyZ (AyZ Bt))(k:Nat):(kids.map bV).getD k AyQ.zero=bV (kids.getD k []):=by
 simp;cases kids[k]?<;>rfl
theorem nm{x:Int}(h1:-4611686018427387904<=x)(h2:x<4611686018427387904):wI x=x:=AW
theorem mR{A:Type}{l:AyZ A}{z:A}{k:Nat}(h:k<l.length):l.reverse.getD k z=l.getD (l.length-1-k) z:=by
 grind
theorem VC(kids:AyZ (AyZ Bt))(k:Nat):((kids.reverse.take k).flatten).length<=(kids.map List.length).sum:=by
 rw[<-Xk,<-List.map_reverse,Axr]
 conv=>rhs;rw[<-Axs k kids.reverse,AwY,List.sum_append]
 omega
theorem sC{a:Nat}:decide ((a:Int)>=0)=true:=Jy
theorem kS{d:Ayg}{n:Ax7}{kids:AyZ (AyZ Bt)}(h:NB d n kids)(h3:Bp n=3):OL (kids.map bV) (wI (((kids.map bV).length:Int)-1)) []=some (bV kids.reverse.flatten):=by
 have hlen:kids.length<=1048576:=by rw[h.hk];exact h.hb.1
 have Aq3:(kids.map List.length).sum<=4096:=by
  have hw:=h.hw;have e :=by omega
  simp only[Fc,YM]at hw;omega
 rw[Awl,nm (by omega) (by omega)];have:=A2 (f:=Ec (kids.map bV)) (λk=>(kids.length-1-k,bV (kids.reverse.take k).flatten))  kids.length (λk hk=>by
  unfold Ec Jf;have e:kids.length-1-k=((kids.length-1-k:Nat):Int):=by omega
  have hb:=VC kids k;have Hs:=h.Hs (kids.getD (kids.length-1-k) []) (AG (by omega));rw[e,sC,Awp,Awl,Awr ⟨by omega,by omega⟩,Awa,Aoh,Em,Em,Awr (by have:=Hs.2.1;omega),nm (by omega) (by omega)];rw[A4 (z:=[]) (show k<kids.reverse.length by grind),mR hk,List.flatten_append,<-QR]
  grind) (by
  unfold Ec Jf;rw[GL,Awo,Awj (by grind)])
 have iP :=this;rw[show kids.length-1-((0:Nat))=(kids.length:Int)-1 by omega]at iP;exact iP
theorem iF{d:Ayg}{n:Ax7}{kids:AyZ (AyZ Bt)}(h:NB d n kids):Ov d n (kids.map bV)=some (bV (Bc d n kids)):=by
 have e1:∀x:Int,(n.1==x)=decide (Bp n=x):=λx=>OW;have hbl:=Qn h;have Sj:=hbl.2.1;unfold Ov LG Np;simp only[e1];by_cases h1:Bp n=1
 ·rw[Awe h1,Awp];have hf:=h.hf;unfold Ix at hf;have hv:0<=FV n/\FV n<(d.length:Int):=by omega
  obtain⟨N,hN⟩:∃N:Nat,dw d (FV n).toNat=(N:Int):=by
   have:=(h.hd.2.1 (FV n).toNat (by omega)).2.1;exact⟨(dw d (FV n).toNat).toNat,by omega⟩
  have hN4:N<=4096:=by have:=(h.hd.2.1 (FV n).toNat (by omega)).2.1;omega
  rw[show LA d n 0 []=some (bV (Bc d n kids)) by
   unfold LA;rw[SN (f:=Ea d n) N (λa=>Ts (.va (FV n).toNat a)) [] (λk acc hk ha=>by
    unfold Ea Jd;simp only;rw[Awr (show(0:Int)<=n.2.1/\n.2.1<(d.length:Int)from hv),show(d.getD n.2.1.toNat Ab.zero).2.1=(N:Int)from hN,Hq hk,Awp,BA hk (by omega)];simp at ha;rw[Awr (by show(_+1)*16<=_;omega)];have:n.2.1=(((FV n).toNat:Nat):Int):=by show FV n=_;omega
    rw[this];rfl) (λacc=>by
    unfold Ea Jd;simp only;rw[Awr (show(0:Int)<=n.2.1/\n.2.1<(d.length:Int)from hv),show(d.getD n.2.1.toNat Ab.zero).2.1=(N:Int)from hN,IB,Awo])]
   simp only[Bc,Awr h1,hN,Awa,bV,Axe,AxY];rfl]
  rfl
 rw[Awc h1,Awo];by_cases h2:Bp n=2
 ·rw[Awe h2,Awp];have hf:=h.hf;unfold Ix at hf;obtain⟨m,QA,P6⟩:eX n:=by
   rcases hf with h |h |h |h
   ·omega
   ·exact h.2.2
   ·omega
   ·omega
  rw[show LB n 0 []=some (bV (Bc d n kids)) by
   unfold LB;rw[SN (f:=Eb n) m (λk=>Ts (.co (bt (YZ n) k))) [] (λk acc hk ha=>by
    unfold Eb Je;simp only;have hb:GF n.2.2.2.2.1 (k:Int)=some (bI (bt (YZ n) k)):=YN (w:=nW n) P6.2.2.2.1 (by rw[P6.2.2.1];unfold nw;omega) h.hb.2.1;have h4:=P6.2.1;rw[show n.2.2.2.2.1.1=(m:Int)from QA,Hq hk,Awp,hb,Av9,BA hk (by omega)];simp at ha;rw[Awr (by show(_+1)*16<=_;omega)];rw[show wI (bI (bt (YZ n) k))=bI (bt (YZ n) k) by cases bt (YZ n) k<;>rfl];rfl) (λacc=>by
    unfold Eb Je;simp only;rw[show n.2.2.2.2.1.1=(m:Int)from QA,IB,Awo])]
   simp only[Bc,Aws h1,Awr h2,QA,Awa,bV,Axe,AxY];rfl]
  rfl
 rw[Awc h2,Awo];by_cases h3:Bp n=3
 ·rw[Awe h3,Awp,kS h h3];simp only[Bc,Aws h1,Aws h2,Awr h3];rfl
 rw[Awc h3,Awo];obtain⟨h4,h9,B,rfl,hB,hs⟩:=h.one h1 h2 h3;have hl:=hB.1;have hl4:=hB.2.1;have hw:=h.hw;have g0:([B].map bV).getD 0 AyQ.zero=bV B:=rfl;have r0:(0:Int)<=(0:Int)/\(0:Int)<(([B].map bV).length:Int):=⟨by omega,by simp⟩;rw[hs]at hw;simp only[Bc,Aws h1,Aws h2,Aws h3,Axd]at Sj⊢;simp only[Fc,Aws h1,Aws h2]at hw;by_cases fU:Bp n=4
 ·simp only[Awr fU]at hw Sj⊢;split at hw<;>rename_i hc
  ·obtain⟨A,hA⟩:∃A:Nat,nA n=(A:Int):=⟨(nA n).toNat,by omega⟩;obtain⟨L,hL⟩:∃L:Nat,nB n=(L:Int):=⟨(nB n).toNat,by omega⟩;have ZF:n.2.2.1=(A:Int):=hA;have hL':n.2.2.2.1=(L:Int):=hL;rw[Awe fU,Awp,Awr r0,g0,ZF,hL',show wI ((A:Int)+1)=((A+1:Nat):Int)from A3,Em];rw[Awr (show(0:Int)<=(L:Int)/\(L:Int)<=((A+1:Nat):Int)/\((A+1:Nat):Int)<=(B.length:Int)from⟨by omega,by omega,by omega⟩),Awa,Awa,hA,hL,Awa,Awa];rw[show(List.drop L (List.take (A+1) (bV B)))=bV ((B.take (A+1)).drop L) by simp[bV,List.map_drop,List.map_take],Em,AwJ,Awu,Mq];rfl
  ·omega
 rw[Awc fU,Awo];simp only[Aws fU]at hw Sj⊢;by_cases je:Bp n=5\/Bp n=6
 ·simp only[Awr je]at hw;split at hw<;>rename_i hc
  ·obtain⟨A,hA⟩:∃A:Nat,nA n=(A:Int):=⟨(nA n).toNat,by omega⟩;have ZF:n.2.2.1=(A:Int):=hA;have DT:(bif decide (Bp n=5)then decide (Bp n=5)else decide (Bp n=6))=true:=by
    rcases je with h |h<;>simp[h]
   have W8:wI (((bV B).length:Int)-1)=((B.length-1:Nat):Int):=by rw[Em];exact A3
   rw[DT,Awp];by_cases h6:Bp n=6
   ·have h5:¬Bp n=5:=by omega
    simp only[Aws h5,Awr h6,hA,Awa,Awd,AwG]at Sj⊢;rw[show Ep ([B].map bV) n=some (.inl ()) by
     unfold Ep;rw[e1,Awe h6,Awp,Awr r0,Awr r0,g0,W8,Em,Awr ⟨by omega,by omega⟩],Av9]
    simp only[AxH];rw[Awr r0,g0,W8,Awa,Em,Mq,b9 (by omega)];rw[show LC n (Ts (B.getD (B.length-1) (.co false))) 0 (bV B)=some (bV (B++List.replicate A (B.getD (B.length-1) (.co false)))) by
     unfold LC;rw[SN (f:=Ed n (Ts (B.getD (B.length-1) (.co false)))) A (λ_=>Ts (B.getD (B.length-1) (.co false))) (bV B) (λk acc hk ha=>by
      unfold Ed Jg;simp only;rw[Em]at ha;rw[ZF,Hq hk,Awp,BA hk (by omega),Awr (by show(_+1)*16<=_;omega)]) (λacc=>by
      unfold Ed Jg;simp only;rw[ZF,IB,Awo])]
     rw[QR];simp[bV,List.map_const']]
    rfl
   ·have h5:Bp n=5:=by omega
    simp only[Awr h5,hA,Awa,Awd,AwG]at Sj⊢;rw[show Ep ([B].map bV) n=some (.inr ()) by
     unfold Ep;rw[e1,Awc h6,Awo],Av9]
    simp only[Axh];rw[Awr r0,g0,Em,Mq];rw[show LD n 0 (bV B)=some (bV (B++List.replicate A (.co false))) by
     unfold LD;rw[SN (f:=Ee n) A (λ_=>Ts (.co false)) (bV B) (λk acc hk ha=>by
      unfold Ee Jh;simp only;rw[Em]at ha;rw[ZF,Hq hk,Awp,BA hk (by omega),Awr (by show(_+1)*16<=_;omega)];rfl) (λacc=>by
      unfold Ee Jh;simp only;rw[ZF,IB,Awo])]
     rw[QR];simp[bV,List.map_const']]
    rfl
  ·omega
 have h5:¬Bp n=5:=by omega
 have h6:¬Bp n=6:=by omega
 have DT:(bif decide (Bp n=5)then decide (Bp n=5)else decide (Bp n=6))=false:=by simp[h5,h6]
 rw[DT,Awo];simp only[Aws h5,Aws h6,Aws je]at hw Sj⊢;by_cases s6:Bp n=7\/Bp n=8
 ·simp only[Awr s6]at hw;split at hw<;>rename_i hc
  ·obtain⟨A,hA⟩:∃A:Nat,nA n=(A:Int):=⟨(nA n).toNat,by omega⟩;have ZF:n.2.2.1=(A:Int):=hA;have l5:¬Bp n=9:=by omega
   have G3:(bif decide (Bp n=7)then decide (Bp n=7)else decide (Bp n=8))=true:=by
    rcases s6 with h |h<;>simp[h]
   have ht:=ea (n:=n) hl;simp only[Aws l5,Awd,AwJ,Awu]at Sj⊢;rw[G3,Awp,Awr r0,g0,ZF,Em,OB];have tB:Int.tmod (A:Int) (B.length:Int)=((A%B.length:Nat):Int):=rfl;have hml:A%B.length<B.length:=Nat.mod_lt _ (by omega);rw[show Ii ([B].map bV) n (B.length:Int) (Int.tmod (A:Int) (B.length:Int))=some ((K1 n B.length:Nat):Int) by
    unfold Ii K1;rw[e1,tB,hA,Awa];by_cases h8:Bp n=8
    ·rw[Awe h8,Awp,OB,Awr h8,show wI ((B.length:Int)-((A%B.length:Nat):Int))=((B.length-A%B.length:Nat):Int)from A3];rfl
    ·rw[Awc h8,Awo,Aws h8],Av9]
   have UL:wI ((B.length:Int)-((K1 n B.length:Nat):Int))=((B.length-K1 n B.length:Nat):Int):=A3;rw[Awr r0,UL,Awr ⟨by omega,by omega,by omega⟩,Awa,Awa];generalize hq:B.length-K1 n B.length=q at *;rw[show(List.drop q (List.take B.length (bV B)))=bV (B.drop q) by rw[Awj (by rw[Em];omega)];simp[bV,List.map_drop],show(List.drop 0 (List.take q (bV B)))=bV (B.take q) by simp[bV,List.map_take],Mq,Awr r0,Awr ⟨by omega,by omega,by omega⟩,Mq,<-QR];rfl
  ·omega
 have l5:Bp n=9:=by omega
 have G3:(bif decide (Bp n=7)then decide (Bp n=7)else decide (Bp n=8))=false:=by
  rw[show ¬Bp n=7/\¬Bp n=8 by omega |> λh=>(Awc h.1:decide (Bp n=7)=false),Awo];exact GL
 simp only[Aws s6,Awr l5]at hw Sj⊢;split at hw<;>rename_i hc
 ·obtain⟨A,hA⟩:∃A:Nat,nA n=(A:Int):=⟨(nA n).toNat,by omega⟩;have ZF:n.2.2.1=(A:Int):=hA;rw[G3,Awo,Awe l5,Awp];rw[hA]at hw Sj;simp only[Awa,Axr,AxI,AxF]at Sj;rw[show LF ([B].map bV) n 0 []=some (bV (List.replicate A B).flatten) by
   unfold LF;rw[fT (f:=Ef ([B].map bV) n) A (λ_=>bV B) [] (λk hk=>by
    unfold Ef Ji;simp only;have gl:k*B.length<=A*B.length:=Aw6 _ (by omega);rw[ZF,Hq hk,Awp,Awr r0,g0,BA hk (by omega),Awr (by
     rw[Axe,Yw,Axr,AxI,AxF,AwQ,Em];omega)]) (by
    unfold Ef Ji;simp only;rw[ZF,IB,Awo])]
   rw[Axe,Yw,AwQ];simp[bV,List.map_flatten,AxI]]
  rw[hA];rfl
 ·omega
end Go.Proofs.X
namespace Go.Proofs.X
open Go Go.Va
set_option maxRecDepth 100000
def fN(B:AyZ Bt):Ayi:=fV (AY B)
theorem AaP(kids:AyZ (AyZ Bt))(k:Nat):(kids.map fN).getD k AyS.zero=fN (kids.getD k []):=by
 simp;cases kids[k]?<;>rfl
theorem dG{d:Ayg}(hd:AZ d){a b:AyZ Bt}(ha:∀x∈a,Sp d x)(hb:∀x∈b,Sp d x)(hl:a.length+b.length<=4096):Di (fN b) (fN a)=some (fN (a++b)):=by
 unfold fN;rw[hU (D6 b) (D6 a) (PI (λx hx=>cm (QS hd (hb x hx))) (by omega)) (PI (λx hx=>cm (QS hd (ha x hx))) (by omega)) (by rw[Dd,Dd];exact hl),hY]
theorem uL{s:Sg}(h:1<=s.w):AY s.bits=[s]:=by
 have:=S7 s.w s [] rfl h;exact this.symm
theorem AcM(b:Bt):fN [b]=[KV b.sg]:=rfl
theorem zl{d:Ayg}(hd:AZ d){a:AyZ Bt}{b:Bt}(ha:∀x∈a,Sp d x)(hb:Sp d b)(hl:a.length+1<=4096):Di [KV b.sg] (fN a)=some (fN (a++[b])) :=
 dG hd ha (b:=[b]) (λx hx=>by grind) hl
theorem AdR{d:Ayg}{B:AyZ Bt}(h:Ce d B):G8 (fN B)=some (B.length:Int):=by
 unfold fN;rw[cF (D6 B) (by rw[Dd];exact h.2.1),Dd]
theorem mL{d:Ayg}(hd:AZ d){B:AyZ Bt}(h:Ce d B){lo w:Nat}(qk:lo+w<=8192):Du (fN B) (lo:Int) (w:Int)=some (fN ((B.drop lo).take w)):=by
 have hs :=λx hx=>cm (QS hd (h.2.2 x hx));unfold fN;rw[fM (D6 B) (PI hs h.2.1) (by rw[Ny];exact hs) (by rw[Dd];exact h.2.1) qk,Ny]
theorem bL{d:Ayg}(hd:AZ d){B:AyZ Bt}{b:Bt}{A:Nat}(hB:Ce d B)(hb:Sp d b)(hl:B.length+A<=4096){f:Int×Ayi->Ay0 (Ayz⊕Ayi)}
    (hs:∀x:Int×Ayi,f x=bif decide (x.1<(A:Int))then(Di [KV b.sg] x.2).bind λo=>some (.inl (wI (x.1+1),o))else some (.inr x.2)):fix f (0,fN B)=some (fN (B++List.replicate A b)):=by
 have:=A2 (f:=f) (λk=>((k:Int),fN (B++List.replicate k b))) (t:=fN (B++List.replicate A b)) A (λk hk=>by
  rw[hs];rw[Hq hk,Awp,zl hd (λx hx=>by
   rcases List.mem_append.1 hx with hx |hx
   ·exact hB.2.2 x hx
   grind) hb (by grind),Av9,BA hk (by omega),Awh,<-List.replicate_succ']) (by
  grind)
 grind
theorem kg{d:Ayg}{n:Ax7}{kids:AyZ (AyZ Bt)}(h:NB d n kids)(h3:Bp n=3):Ir (kids.map fN) (wI (((kids.map fN).length:Int)-1)) []=some (fN kids.reverse.flatten):=by
 have hlen:kids.length<=1048576:=by rw[h.hk];exact h.hb.1
 have Aq3:(kids.map List.length).sum<=4096:=by
  have hw:=h.hw;have e :=by omega
  simp only[Fc,YM]at hw;omega
 rw[Awl,nm (by omega) (by omega)];have:=A2 (f:=B7 (kids.map fN)) (λk=>(kids.length-1-k,fN (kids.reverse.take k).flatten))  kids.length (λk hk=>by
  unfold B7 DY;have e:kids.length-1-k=((kids.length-1-k:Nat):Int):=by omega
  have hb:=VC kids (k+1);have Hs:=h.Hs (kids.getD (kids.length-1-k) []) (AG (by omega));rw[A4 (z:=[]) (show k<kids.reverse.length by grind),mR hk,List.flatten_append]at hb⊢;simp only[List.flatten_cons,List.flatten_nil,AwO]at hb⊢;rw[Awd]at hb;rw[e,sC,Awp,Awl,Awr ⟨by omega,by omega⟩,Awa,AaP,dG h.hd (λx hx=>by
   obtain⟨C,hC,hx⟩:=List.mem_flatten.1 hx;exact(h.Hs C (List.mem_reverse.1 (Aw8 hC))).2.2 x hx) Hs.2.2 (by omega),Av9,nm (by omega) (by omega)]
  grind) (by
  unfold B7 DY;rw[GL,Awo,Awj (by grind)])
 have iP :=this;rw[show kids.length-1-((0:Nat))=(kids.length:Int)-1 by omega]at iP;exact iP
theorem Zh{s:Sg}{v:Ax8}(h:1<=s.w)(e:KV s=v):([v]:Ayi)=fN s.bits:=by
 unfold fN;rw[uL h,<-e];rfl
theorem gG{d:Ayg}{n:Ax7}{kids:AyZ (AyZ Bt)}(h:NB d n kids):Fl n d (kids.map fN)=some (fN (Bc d n kids)):=by
 have e1:∀x:Int,(n.1==x)=decide (Bp n=x):=λx=>OW;have hbl:=Qn h;have Sj:=hbl.2.1;unfold Fl Np;simp only[e1];by_cases h1:Bp n=1
 ·rw[Awe h1,Awp];have hf:=h.hf;unfold Ix at hf;have hv:0<=FV n/\FV n<(d.length:Int):=by omega
  have hdw:=(h.hd.2.1 (FV n).toNat (by omega)).2.1;obtain⟨N,hN⟩:∃N:Nat,dw d (FV n).toNat=(N:Int):=⟨(dw d (FV n).toNat).toNat,by omega⟩;rw[Awr (show(0:Int)<=n.2.1/\n.2.1<(d.length:Int)from hv),show(d.getD n.2.1.toNat Ab.zero).2.1=(N:Int)from hN];rw[Zh (s:=.va (FV n).toNat 0 N) (by show 1<=N;omega) (by
   show((((FV n).toNat:Nat):Int),((0:Nat):Int),(N:Int),((0:Int),([]:Ayd),()),())=_;rw[show(((FV n).toNat:Nat):Int)=n.2.1 by show _=FV n;omega];rfl)]
  simp only[Bc,Awr h1,hN,Awa,Sg.bits,AwF]
 rw[Awc h1,Awo];by_cases h2:Bp n=2
 ·rw[Awe h2,Awp];have hf:=h.hf;unfold Ix at hf;obtain⟨m,QA,P6⟩:eX n:=by
   rcases hf with h |h |h |h
   ·omega
   ·exact h.2.2
   ·omega
   ·omega
  have hl:((List.range m).map λk=>bt (YZ n) k).length=m:=by simp
  rw[show Fo n.2.2.2.2.1=some (nW n,YZ n)from Vn h.hb.2.1,Av9];rw[Zh (s:=.co ((List.range m).map λk=>bt (YZ n) k)) (by show 1<=List.length _;rw[hl];exact P6.1) (by
   show(-1,0,((((List.range m).map λk=>bt (YZ n) k).length:Nat):Int),dt ((List.range m).map λk=>bt (YZ n) k),())=_;rw[kv (f:=bt (YZ n)) hl (λi hi=>by simp[List.getD,hi]),hl,show qp m (bt (YZ n))=((m:Int),YZ n,()) by unfold qp;rw[<-P6.eq]];simp only[Au];rw[QA])]
  simp only[Bc,Aws h1,Awr h2,QA,Awa,Sg.bits,AxY];rfl
 rw[Awc h2,Awo];by_cases h3:Bp n=3
 ·rw[Awe h3,Awp,kg h h3];simp only[Bc,Aws h1,Aws h2,Awr h3];rfl
 rw[Awc h3,Awo];obtain⟨h4,h9,B,rfl,hB,hs⟩:=h.one h1 h2 h3;have hl:=hB.1;have hl4:=hB.2.1;have hw:=h.hw;have g0:([B].map fN).getD 0 AyS.zero=fN B:=rfl;have r0:(0:Int)<=(0:Int)/\(0:Int)<(([B].map fN).length:Int):=⟨by omega,by simp⟩;have AsM:(fN B).length<=4096:=by
  unfold fN;rw[Cf];have:=Dn (D6 B);rw[Dd]at this;omega
 rw[hs]at hw;rw[Awr r0,g0,AdR hB,Av9];simp only[Bc,Aws h1,Aws h2,Aws h3,Axd]at Sj⊢;simp only[Fc,Aws h1,Aws h2]at hw;by_cases fU:Bp n=4
 ·simp only[Awr fU]at hw Sj⊢;split at hw<;>rename_i hc
  ·obtain⟨A,hA⟩:∃A:Nat,nA n=(A:Int):=⟨(nA n).toNat,by omega⟩;obtain⟨L,hL⟩:∃L:Nat,nB n=(L:Int):=⟨(nB n).toNat,by omega⟩;have ZF:n.2.2.1=(A:Int):=hA;have hL':n.2.2.2.1=(L:Int):=hL;rw[Awe fU,Awp,ZF,hL',show wI ((A:Int)-(L:Int))=((A-L:Nat):Int)from A3,show wI (((A-L:Nat):Int)+1)=((A-L+1:Nat):Int)from A3,mL h.hd hB (by omega),hA,hL,Awa,Awa];rw[List.drop_take,show A+1-L=A-L+1 by omega];rfl
  ·omega
 rw[Awc fU,Awo];simp only[Aws fU]at hw Sj⊢;by_cases s6:Bp n=7\/Bp n=8
 ·have je:¬(Bp n=5\/Bp n=6):=by omega
  have h5:¬Bp n=5:=by omega
  have h6:¬Bp n=6:=by omega
  have l5:¬Bp n=9:=by omega
  simp only[Aws h5,Aws h6,Aws l5,Aws je,Awr s6]at hw⊢;split at hw<;>rename_i hc
  ·obtain⟨A,hA⟩:∃A:Nat,nA n=(A:Int):=⟨(nA n).toNat,by omega⟩;have ZF:n.2.2.1=(A:Int):=hA;have G3:(bif decide (Bp n=7)then decide (Bp n=7)else decide (Bp n=8))=true:=by
    rcases s6 with h |h<;>simp[h]
   have ht:=ea (n:=n) hl;rw[G3,Awp,OB,ZF];have tB:Int.tmod (A:Int) (B.length:Int)=((A%B.length:Nat):Int):=rfl;have hml:A%B.length<B.length:=Nat.mod_lt _ (by omega);rw[show Db n (B.length:Int) (fN B) (Int.tmod (A:Int) (B.length:Int))=some ((K1 n B.length:Nat):Int) by
    unfold Db K1;rw[e1,tB,hA,Awa];by_cases h8:Bp n=8
    ·rw[Awe h8,Awp,OB,Awr h8,show wI ((B.length:Int)-((A%B.length:Nat):Int))=((B.length-A%B.length:Nat):Int)from A3];rfl
    ·rw[Awc h8,Awo,Aws h8],Av9]
   have UL:wI ((B.length:Int)-((K1 n B.length:Nat):Int))=((B.length-K1 n B.length:Nat):Int):=A3;have hz:(0:Int)=((0:Nat):Int):=rfl;rw[UL,mL h.hd hB (by omega),Av9,hz,mL h.hd hB (by omega),Av9,List.drop_zero,show List.take (K1 n B.length) (List.drop (B.length-K1 n B.length) B)=List.drop (B.length-K1 n B.length) B from Awj (by rw[AwJ];omega)];rw[dG h.hd (λx hx=>hB.2.2 x (AxA hx)) (λx hx=>hB.2.2 x (Aw8 hx)) (by rw[AwJ,Awu];omega)];rfl
  ·omega
 have G3:(bif decide (Bp n=7)then decide (Bp n=7)else decide (Bp n=8))=false:=by
  rw[show ¬Bp n=7/\¬Bp n=8 by omega |> λh=>(Awc h.1:decide (Bp n=7)=false),Awo];exact GL
 rw[G3,Awo];by_cases l5:Bp n=9
 ·have je:¬(Bp n=5\/Bp n=6):=by omega
  have h5:¬Bp n=5:=by omega
  have h6:¬Bp n=6:=by omega
  simp only[Aws h5,Aws h6,Awr l5,Aws je,Aws s6]at hw Sj⊢;split at hw<;>rename_i hc
  ·obtain⟨A,hA⟩:∃A:Nat,nA n=(A:Int):=⟨(nA n).toNat,by omega⟩;have ZF:n.2.2.1=(A:Int):=hA;rw[hA]at hw Sj;simp only[Awa,Axr,AxI,AxF]at Sj;rw[Awe l5,Awp,ZF];rw[show FL (fN B) (A:Int) 0 []=some (fN (List.replicate A B).flatten) by
    unfold FL;have:=A2 (f:=B8 (fN B) (A:Int)) (λk=>((k:Int),fN (List.replicate k B).flatten)) (t:=fN (List.replicate A B).flatten) A (λk hk=>by
     unfold B8 DZ;simp only;have gl:(k+1)*B.length<=A*B.length:=Aw6 _ (by omega);have AuC:(k+1)*B.length=k*B.length+B.length:=Nat.succ_mul _ _;have hA2:A<=A*B.length:=AxU _ (by omega);rw[Hq hk,Awp,dG h.hd (λx hx=>by
      obtain⟨C,hC,hx⟩:=List.mem_flatten.1 hx;rw[(List.mem_replicate.1 hC).2]at hx;exact hB.2.2 x hx) hB.2.2 (by rw[Axr,AxI,AxF];omega),Av9,BA hk (by omega),List.replicate_succ',List.flatten_append]
     simp) (by
     unfold B8 DZ;simp only;rw[IB,Awo])
    exact this,hA]
   rfl
  ·omega
 have je:Bp n=5\/Bp n=6:=by omega
 rw[Awc l5,Awo];simp only[Aws l5,Awr je]at hw Sj⊢;split at hw<;>rename_i hc
 ·obtain⟨A,hA⟩:∃A:Nat,nA n=(A:Int):=⟨(nA n).toNat,by omega⟩;have ZF:n.2.2.1=(A:Int):=hA;have hz1:EL 1=some (1,[0]):=Tj (n:=1) (by omega);rw[hz1,Av9];rw[Mq];by_cases h6:Bp n=6
  ·have h5:¬Bp n=5:=by omega
   have W8:Sp d (B.getD (B.length-1) (.co false)):=hB.2.2 _ (AG (by omega));rw[show BZ n (B.length:Int) (fN B) (fN B) (Au 1 [0]).1 (Au 1 [0]).2.1 (Au 1 [0]).2.2.1 (Au 1 [0]).2.2.2.1 (Au 1 [0]).2.2.2.2=some (.inl (KV (B.getD (B.length-1) (.co false)).sg)) by
    unfold BZ;rw[e1,Awe h6,Awp,show wI ((B.length:Int)-1)=((B.length-1:Nat):Int)from A3,show(1:Int)=((1:Nat):Int)from rfl,mL h.hd hB (by omega),Av9];have:(B.drop (B.length-1)).take 1=[B.getD (B.length-1) (.co false)]:=by
     rw[List.drop_eq_getElem_cons (by omega),show B.getD (B.length-1) (.co false)=B[B.length-1] by simp[List.getD,show B.length-1<B.length by omega]];rfl
    rw[this,AcM,Awr ⟨by omega,by simp⟩];rfl,Av9]
   simp only[AxH,Aws h5,Awr h6,hA,Awa];rw[ZF];unfold Is;rw[bL (f:=D1 (KV (B.getD (B.length-1) (.co false)).sg) (A:Int)) h.hd hB W8 (A:=A) (by omega) (λx=>rfl)];rfl
  ·have h5:Bp n=5:=by omega
   rw[show BZ n (B.length:Int) (fN B) (fN B) (Au 1 [0]).1 (Au 1 [0]).2.1 (Au 1 [0]).2.2.1 (Au 1 [0]).2.2.2.1 (Au 1 [0]).2.2.2.2=some (.inr ()) by
    unfold BZ;rw[e1,Awc h6,Awo],Av9]
   simp only[Axh,Awr h5,hA,Awa];rw[ZF];have tf:((Au 1 [0]).1,(Au 1 [0]).2.1,(Au 1 [0]).2.2.1,((Au 1 [0]).2.2.2.1,(Au 1 [0]).2.2.2.2,()),())=KV (Bt.co false).sg:=rfl;rw[tf];unfold Iu;rw[bL (f:=D2 (A:Int) (KV (Bt.co false).sg)) h.hd hB (show Sp d (.co false)from trivial) (A:=A) (by omega) (λx=>rfl)];rfl
 ·omega
end Go.Proofs.X
namespace Go.Proofs.X
open Go Go.Va
set_option maxRecDepth 100000
def S2(all:AyZ (AyZ Bt))(n:Ax7):AyZ (AyZ Bt):=(Ap n).map λk=>all.getD k.toNat []
def TB(d:Ayg)(t:Ayh):Nat->AyZ (AyZ Bt)
 |0=>[]
 |i+1=>TB d t i++[Bc d (nd t i) (S2 (TB d t i) (nd t i))]
theorem Po(d:Ayg)(t:Ayh):∀i,(TB d t i).length=i
 |0=>rfl
 |i+1=>by simp only[TB,Awd,Po d t i];rfl
theorem b7(d:Ayg)(t:Ayh){i j k:Nat}(h:j<i)(hk:i<=k):(TB d t k).getD j []=(TB d t i).getD j []:=by
 induction k with
 |zero=>omega
 |succ k ih =>
  rcases Awk k i with h1 |h1
  ·grind
  ·rw[<-ih h1];simp only[TB,List.getD];rw[Aww (by rw[Po];omega)]
theorem XD(d:Ayg)(t:Ayh)(i:Nat):(TB d t (i+1)).getD i []=Bc d (nd t i) (S2 (TB d t i) (nd t i)):=by
 simp only[TB,List.getD];rw[Awv (by rw[Po];omega),Po];simp
theorem vT{A:Type}(f:A->Nat)(l:AyZ A):(((l.map f).sum:Nat):Int)=(l.map λx=>(f x:Int)).sum:=by
 induction l with
 |nil=>rfl
 |cons x l ih=>grind
theorem dA{d:Ayg}{t:Ayh}{ws:Ayd}{i:Nat}(hd:AZ d)(ht:N3 t)(h:K4 d t ws)(hi:i<t.length)(hp:∀j,j<i->Ce d ((TB d t i).getD j [])/\(((TB d t i).getD j []).length:Int)=ws.getD j 0) :
    NB d (nd t i) (S2 (TB d t i) (nd t i))/\Fc d (nd t i) (YM (S2 (TB d t i) (nd t i)))=ws.getD i 0/\KN (nd t i) i:=by
 obtain⟨_,_,hl,⟨_,tM⟩,_⟩:=h;have hn:=tM i (by omega);obtain⟨Hs,_,hf,hw,h1,h2⟩:=hn;have eP:(ws.take i).length=i:=by grind
 rw[eP]at Hs;have hs:YM (S2 (TB d t i) (nd t i))=(Fs (ws.take i) (nd t i)).sum:=by
  unfold YM S2 Fs;rw[AxY,vT];congr 1;refine Aw5 λk hk=>?_;have:=Hs k hk
  grind
 refine⟨⟨hd,hf,ht.2 _ (AG hi),by simp[S2],by grind,λB hB=>?_⟩,by grind,Hs⟩;obtain⟨k,hk,rfl⟩:=List.mem_map.1 hB;have:=Hs k hk;exact(hp k.toNat (by omega)).1
theorem Zo{d:Ayg}{t:Ayh}{ws:Ayd}(hd:AZ d)(ht:N3 t)(h:K4 d t ws):∀i,i<=t.length->∀j,j<i->Ce d ((TB d t i).getD j [])/\(((TB d t i).getD j []).length:Int)=ws.getD j 0
 |0,_,j,hj=>by omega
 |i+1,hi,j,hj=>by
  have ih:=Zo hd ht h i (by omega);rcases Awk j i with h1 |h1
  ·rw[b7 d t h1 (AwK i)];exact ih j h1
  ·have:j=i:=by omega
   subst this;obtain⟨oL,hw,_⟩:=dA hd ht h (by omega) ih;rw[XD];exact⟨Qn oL,by rw[VP oL,hw]⟩
def eV(d:Ayg)(t:Ayh)(n:Nat):Prop:=∀i,i<n->(AY ((TB d t n).getD i [])).length<=2000
def YQ(d:Ayg)(t:Ayh):AyZ Bt:=(TB d t t.length).getD (t.length-1) []
open Classical in
noncomputable def FT(d:Ayg)(t:Ayh):Bool×Ayi:=if(∃ws,K4 d t ws)/\eV d t t.length then(true,fN (YQ d t))else(false,[])
theorem eV.succ{d:Ayg}{t:Ayh}{n:Nat}:eV d t (n+1)↔eV d t n/\(AY (Bc d (nd t n) (S2 (TB d t n) (nd t n)))).length<=2000:=by
 constructor
 ·intro h;refine⟨λi hi=>?_,?_⟩
  ·have:=h i (by omega);rw[b7 d t hi (AwK n)]at this;exact this
  ·have:=h n (by omega);rw[XD]at this;exact this
 ·rintro⟨h1,h2⟩ i hi
  rcases Awk i n with h |h
  ·rw[b7 d t h (AwK n)];exact h1 i h
  ·have:i=n:=by omega
   subst this;rw[XD];exact h2
theorem eV.mono{d:Ayg}{t:Ayh}{m n:Nat}(h:eV d t n)(hm:m<=n):eV d t m:=λi hi=>by
 have:=h i (by omega);rw[b7 d t hi hm]at this;exact this
theorem df{a:Ayg}{g c:Int}{b:Ax4}{j:Ax7}{all:AyZ (AyZ Bt)}{pad:Ayp}{n:Ax7}(hn:(Ap n).length<=1048576)(Hs:KN n all.length) :
    OD a g c b (all.map fN++pad) j (Ap n) ((Ap n).length:Int) 0 (List.replicate (Ap n).length [])=some ((S2 all n).map fN):=by
 have Q3:∀m,m<(Ap n).length->(all.map fN++pad).getD ((Ap n).getD m 0).toNat []=fN (all.getD ((Ap n).getD m 0).toNat []):=λm hm=>by
  have:=Hs _ (AG (z:=(0:Int)) hm)
  grind
 have:=A2 (f:=D3 a g c b (all.map fN++pad) j (Ap n) ((Ap n).length:Int)) (λk=>((k:Int),Cs (λm=>(all.map fN++pad).getD ((Ap n).getD m 0).toNat []) [] (Ap n).length k)) (t:=(S2 all n).map fN) (Ap n).length (λk hk=>by
  unfold D3 II;have hk2:=Hs _ (AG (z:=(0:Int)) hk);have e0:(Ty.zero AyN:Int)=0:=rfl;rw[e0,Hq hk,Awp,Awr (BS hk),Awa,Awr ⟨hk2.1,by grind⟩,J7,Awr (BS hk),BA hk (by omega)];rw[show AyS.zero=([]:Ayi)from rfl,Pg (λm=>(all.map fN++pad).getD ((Ap n).getD m 0).toNat []) [] (n:=(Ap n).length) (k:=k)]) (by
  unfold D3 II;rw[IB,Awo];congr 2;unfold Cs S2;refine Axl (by simp) λi h1 h2=>?_
  grind)
 rw[show Cs (λm=>(all.map fN++pad).getD ((Ap n).getD m 0).toNat []) [] (Ap n).length 0=List.replicate (Ap n).length []from Nt _ _ _]at this;exact this
theorem sO(B:AyZ Bt):(fN B).length=(AY B).length:=Cf _
theorem vn{d:Ayg}{B:AyZ Bt}(h:Ce d B):Small (fN B):=by
 have hlen:=Dn (D6 B);rw[Dd]at hlen;have h4:=h.2.1;refine⟨by rw[sO];omega,λs hs=>?_⟩;obtain⟨q,hq,rfl⟩:=List.mem_map.1 hs;cases q with
 |co bs =>
  show(dt bs).2.1.length<=1048576;rw[(o9 bs).1];have :=by
   have:∀(l:AyZ Sg) (s:Sg),s∈l->s.w<=BO l:=λl s hs=>by
    induction l with
    |nil=>grind
    |cons a l ih =>
     simp only[BO,AwU,Ax0];rcases List.mem_cons.1 hs with rfl |hs
     ·omega
     ·have:=ih hs;unfold BO at this;omega
   exact this _ _ hq
  rw[Dd]at this;have e:(Sg.co bs).w=bs.length:=rfl;unfold nw;omega
 |va v l n=>show[].length<=_;simp
theorem SV{d:Ayg}{t:Ayh}{ws:Ayd}(hd:AZ d)(ht:N3 t)(h:K4 d t ws):F6 d (t,())=some (FT d t):=by
 have U9:=h.1;have oI:=h.2.1;refine As.eq_ ?_;unfold F6;rw[Awr ⟨rfl,by omega,by omega,by grind,by grind⟩];refine As.bind (P:=λr=>(∃x,r=.inl x/\¬eV d t t.length)\/(r=.inr ((TB d t t.length).map fN)/\eV d t t.length)) ?_ λr hr=>?_
 ·refine BJ (λm (x:Int×AyZ _)=>∃i:Nat,i<=t.length/\m=t.length-i/\x=((i:Int),(TB d t i).map fN++List.replicate (t.length-i) [])/\eV d t i) (λm x hI=>?_) _ _ ⟨0,AwW _,rfl,by simp[TB],λi hi=>by omega⟩;obtain⟨i,hi,rfl,rfl,W9⟩:=hI;unfold IJ Mv;rcases Awk i _ with Cw |jV
  ·obtain⟨oL,hw,Hs⟩:=dA hd ht h Cw (Zo hd ht h i hi);have gl:=oL.hb.1;have NT:t.getD i _=nd t i:=rfl;have QL:(nd t i).2.2.2.2.2.1=Ap _:=rfl;rw[Hq Cw,Awr (BS Cw),Awa,NT,QL,Awr ⟨rfl,by omega,by omega,by omega,by omega⟩,Awa];rw[df gl (by rw[Po];exact Hs),Av9,gG oL,Av9];have hlen:((TB d t i).map fN++List.replicate (t.length-i) []).length=t.length:=by rw[Awd,Awl,Po,AwG];omega
   have F2:((TB d t i).map fN++List.replicate (t.length-i) []).set i (fN (Bc d (nd t i) (S2 (TB d t i) (nd t i))))=(TB d t (i+1)).map fN++List.replicate (t.length-(i+1)) []:=by
    rw[Axt _ _ (by grind),Awl,Po,Nat.sub_self,show t.length-i=(t.length-(i+1))+1 by omega,List.replicate_succ];simp only[TB,AwY,Awh];rfl
   have Q3:((TB d t (i+1)).map fN++List.replicate (t.length-(i+1)) ([]:Ayi)).getD i (Ty.zero (.sl _))=fN (Bc d (nd t i) (S2 (TB d t i) (nd t i))):=by
    grind
   rw[hlen,Awr (BS Cw),Awi,hlen,Awr (BS Cw),F2,Q3,sO];by_cases hc:(AY (Bc d (nd t i) (S2 (TB d t i) (nd t i)))).length<=2000
   ·rw[GL,BA Cw (by omega)];exact As.mk ⟨t.length-(i+1),by omega,i+1,Cw,rfl,rfl,eV.succ.2 ⟨W9,hc⟩⟩
   ·rw[Jy];exact As.mk (.inl ⟨_,rfl,λh'=>hc (eV.succ.1 (h'.mono Cw)).2⟩)
  ·have:i=t.length:=by omega
   subst this;rw[IB];exact As.mk (.inr ⟨by simp,W9⟩)
 ·rcases hr with ⟨x,rfl,mj⟩|⟨rfl,W9⟩
  ·refine As.mk ?_;unfold FT;rw[Aws (λh'=>mj h'.2)]
  ·simp only[Axh];have W8:wI ((((TB d t t.length).map fN).length)-1)=((t.length-1:Nat)):=by rw[Awl,Po];exact A3
   rw[W8,Awl,Po,Awr ⟨by omega,by omega⟩,Awa,AaP];have hb:=(Zo hd ht h _ (Awf _) (t.length-1) (by omega)).1;rw[cw (vn hb)];refine As.mk ?_;unfold FT;rw[Awr ⟨⟨ws,h⟩,W9⟩];rfl
theorem S8{d:Ayg}{t:Ayh}(hd:AZ d)(ht:N3 t):Gf d (t,())=some (FT d t):=by
 refine As.eq_ ?_;unfold Gf;have Aun:=hd.1;rw[PS ht (by omega) hd,Av9];by_cases hw:∃ws,K4 d t ws
 ·obtain⟨ws,h⟩:=hw;have U9:=h.1;have oI:=h.2.1;have hp:=pZ h;rw[GL,Awo];refine As.bind (P:=λr=>(r=.inl ()/\¬eV d t t.length)\/(r=.inr (fN (YQ d t))/\eV d t t.length)) ?_ λr hr=>?_
  ·unfold OI;refine BJ (λm (x:Int×Ayo×Ayi)=>∃i:Nat,i<=t.length/\m=t.length-i/\x.1=(i:Int)/\x.2.1=(TB d t i).map bV/\(0<i->x.2.2=fN ((TB d t i).getD (i-1) []))/\eV d t i) (λm x hI=>?_) t.length _ ⟨0,AwW _,rfl,rfl,rfl,λh=>by omega,λi hi=>by omega⟩;obtain⟨x1,x2,x3⟩:=x;obtain⟨i,hi,rfl,h1,h2,h3,W9⟩:=hI;simp only at h1 h2 h3;subst h1 h2;unfold IX MI;simp only;rcases Awk i t.length with Cw |jV
   ·obtain⟨oL,hw,Hs⟩:=dA hd ht h Cw (Zo hd ht h i hi);have gl:=oL.hb.1;have NT:t.getD i Ad.zero=nd t i:=rfl;have QL:(nd t i).2.2.2.2.2.1=Ap (nd t i):=rfl;have AnI:Lt d (i:Int) (t,()) ((TB d t i).map bV) 0 []=some ((S2 (TB d t i) (nd t i)).map bV):=by
     unfold Lt;rw[SN (f:=D8 d (i:Int) (t,()) ((TB d t i).map bV)) (Ap (nd t i)).length (λm=>bV ((TB d t i).getD ((Ap (nd t i)).getD m 0).toNat [])) [] (λk acc hk ha=>by
      unfold D8 IW;simp only;have hk2:=Hs _ (AG (z:=(0:Int)) hk);simp at ha;have e0:(Ty.zero AyN:Int)=0:=rfl;rw[Awr (BS Cw),Awa,NT,QL,Hq hk,Awp,Awr (BS Cw),Awr (BS hk),Awa,e0,Awr ⟨hk2.1,by rw[Awl,Po];exact hk2.2⟩,Aoh,BA hk (by omega),Awr (by show(_+1)*24<=_;omega)]) (λacc=>by
      unfold D8 IW;simp only;rw[Awr (BS Cw),Awa,NT,QL,IB,Awo])]
     rw[Axe];congr 1;unfold S2;rw[AxY];refine Axl (by simp) λq h1 h2=>?_;simp only[List.getElem_map,List.getElem_range,Function.comp];have hq:q<(Ap (nd t i)).length:=by simpa using h1
     simp[List.getD,hq]
    rw[Hq Cw,Awp,AnI,Av9,Awr (BS Cw),Awa,NT,iF oL,Av9];have hb:=Qn oL;rw[oU (λb oG=>QS hd (hb.2.2 b oG)) hb.2.1,Av9];by_cases hc:(AY (Bc d (nd t i) (S2 (TB d t i) (nd t i)))).length<=2000
    ·simp only[Awe hc,AwT,Awo];rw[Awl,Po,Awr (by show(_+1)*24<=_;omega),BA Cw (by omega)];refine As.mk ⟨t.length-(i+1),by omega,i+1,Cw,rfl,rfl,?_,λ_=>?_,eV.succ.2 ⟨W9,hc⟩⟩
     ·simp only[TB,AwY,AwU,List.map_nil]
     ·simp only[AwM];rw[XD];rfl
    ·simp only[Awc hc,Bool.not_false,Awp];exact As.mk (.inl ⟨rfl,λh'=>hc (eV.succ.1 (h'.mono Cw)).2⟩)
   ·have:i=t.length:=by omega
    subst this;rw[IB,Awo];exact As.mk (.inr ⟨by rw[h3 (by omega)];rfl,W9⟩)
  ·rcases hr with ⟨rfl,mj⟩|⟨rfl,W9⟩
   ·simp only[AxH];refine As.mk ?_;unfold FT;rw[Aws (λh'=>mj h'.2)]
   ·simp only[Axh];refine As.mk ?_;unfold FT;rw[Awr ⟨⟨ws,h⟩,W9⟩]
 ·rw[RI hw,Jy,Awp];refine As.mk ?_;unfold FT;rw[Aws (λh'=>hw h'.1)]
end Go.Proofs.X
namespace Go.Va
open Go.Proofs.X
def xd:AyZ Bt->Nat
 |a::b::r=>(if a.sg.join b.sg=none then 1 else 0)+xd (b::r)
 |_=>0
theorem rH(B:AyZ Bt)(c b:Bt):xd (B++[c,b])=xd (B++[c])+if c.sg.join b.sg=none then 1 else 0:=by
 induction B with
 |nil=>simp[xd]
 |cons a B ih =>
  cases B with
  |nil=>simp only[Axe,AxR,xd]at *;omega
  |cons x B=>simp only[AxR,xd]at *;omega
theorem ud{l s j:Sg}(h:l.join s=some j)(x:Bt):j.join x.sg=none↔s.join x.sg=none:=by
 cases l<;>cases s<;>simp only[Sg.join]at h
 ·cases h;cases x<;>simp[Sg.join,Bt.sg]
 ·cases h
 ·cases h
 ·split at h
  ·rename_i hc;cases h;cases x with
   |co b=>simp[Sg.join,Bt.sg]
   |va v a =>
    simp only[Sg.join,Bt.sg,hc.1,<-hc.2,Aw7];split<;>simp
  ·cases h
theorem uK(B:AyZ Bt)(c:Bt):∃g l,AY (B++[c])=g++[l]/\∀x:Bt,l.join x.sg=none↔c.sg.join x.sg=none:=by
 have e:AY (B++[c])=FW (AY B) c.sg:=by unfold AY;rw[Jv];rfl
 rw[e];rcases Axa (AY B)with h |⟨g,l,h⟩
 ·rw[h];exact⟨[],c.sg,rfl,λx=>Iff.rfl⟩
 ·rw[h,Axb,DG];cases hj:l.join c.sg with
  |none=>exact⟨g++[l],c.sg,by simp,λx=>Iff.rfl⟩
  |some j=>exact⟨g,j,rfl,ud hj⟩
theorem gU(B:AyZ Bt)(c:Bt):(AY (B++[c])).length=xd (B++[c])+1:=by
 have key:∀(n:Nat) (B:AyZ Bt) (c:Bt),B.length=n->(AY (B++[c])).length=xd (B++[c])+1:=by
  intro n;induction n with
  |zero=>intro B c h;rw[List.length_eq_zero_iff.1 h];simp[AY,Ss,FW,xd]
  |succ n ih =>
   intro B c h;rcases Axa B with rfl |⟨B0,x,rfl⟩
   ·simp at h
   ·rw[Axb]at h⊢;rw[Awh];simp only[AxR,Axe];have i:=ih B0 x (by simp at h;omega);obtain⟨g,l,hg,hl⟩:=uK B0 x;have e:AY (B0++[x,c])=FW (AY (B0++[x])) c.sg:=by
     rw[show B0++[x,c]=(B0++[x])++[c] by simp];unfold AY;rw[Jv];rfl
    rw[rH,e,hg,DG];rw[hg]at i;simp only[Awd,Axg,AxW]at i;cases hj:l.join c.sg with
    |none=>rw[Awr ((hl c).1 hj)];simp;omega
    |some j =>
     rw[Aws (λh'=>by rw[(hl c).2 h']at hj;cases hj)];simp;omega
 exact key _ B c rfl
end Go.Va
namespace Go.Proofs.X
open Go Go.Va
set_option maxRecDepth 100000
def qy(d:Ayg)(B:AyZ Bt):Prop:=Ce d B/\(AY B).length<=2000
theorem qy.pos{d:Ayg}{B:AyZ Bt}(h:qy d B):1<=(AY B).length:=by
 rcases Axa B with rfl |⟨B0,x,rfl⟩
 ·have:=h.1.1;simp at this
 ·rw[Axb,gU];omega
def Sr(d:Ayg):Sg->Prop
 |.co bs=>1<=bs.length/\bs.length<=4096
 |.va v l n=>v<d.length/\1<=n/\((l+n:Nat):Int)<=dw d v
theorem Zc{d:Ayg}{B:AyZ Bt}(h:Ce d B){s:Sg}(hs:s∈AY B):Sr d s/\s.w<=4096:=by
 have hw:=D6 B s hs;have hb:∀b∈s.bits,Sp d b:=λb hb=>h.2.2 b (by
  rw[<-Ny B];exact List.mem_flatMap.2 ⟨s,hs,hb⟩)
 have TK:s.w<=4096:=by
  have:∀(l:AyZ Sg) (s:Sg),s∈l->s.w<=BO l:=λl s hs=>by
   induction l with
   |nil=>cases hs
   |cons a l ih =>
    simp only[BO,AwU,Ax0];rcases List.mem_cons.1 hs with rfl |hs
    ·omega
    ·have:=ih hs;unfold BO at this;omega
  have:=this _ _ hs;rw[Dd]at this;have:=h.2.1;omega
 refine⟨?_,TK⟩;cases s with
 |co bs=>exact⟨hw,TK⟩
 |va v l n =>
  have hn:1<=n:=hw;have h0:=hb (.va v l) (List.mem_map.2 ⟨0,List.mem_range.2 hn,by simp⟩);have h1:=hb (.va v (l+(n-1))) (List.mem_map.2 ⟨n-1,List.mem_range.2 (by omega),rfl⟩);have:=h1.2;exact⟨h0.1,hn,by omega⟩
def Apl(B:AyZ Bt)(hi lo:Int):Prop:=0<=lo/\lo<=hi/\hi<(B.length:Int)
instance (B:List Bt) (hi lo:Int):Decidable (Apl B hi lo):=inferInstanceAs (Decidable (_/\_))
def Aex(A B:AyZ Bt):Prop:=A.length+B.length<=4096/\(AY (B++A)).length<=2000
instance (A B:List Bt):Decidable (Aex A B):=inferInstanceAs (Decidable (_/\_))
end Go.Proofs.X
namespace Go.Proofs.X
open Go Go.Va
set_option maxRecDepth 100000
theorem uh{d:Ayg}{t:Ayh}{ws:Ayd}(hd:AZ d)(ht:N3 t)(h:K4 d t ws):Ce d (YQ d t):=by
 have:=h.1;exact(Zo hd ht h t.length (Awf _) (t.length-1) (by omega)).1
theorem Yv{d:Ayg}{t:Ayh}(hd:AZ d)(ht:N3 t)(h:(FT d t).1=true):qy d (YQ d t)/\(FT d t).2=fN (YQ d t):=by
 unfold FT at h⊢;split at h
 ·rename_i hc;rw[Awr hc];obtain⟨⟨ws,hw⟩,W9⟩:=hc;have:=hw.1;exact⟨⟨uh hd ht hw,W9 _ (by omega)⟩,rfl⟩
 ·cases h
theorem RJ{d:Ayg}{t:Ayh}(h:0<=GJ d t):∃ws,K4 d t ws :=
 Classical.byContradiction λh'=>by rw[RI h']at h;omega
def b6(d:Ayg)(l:Ayj)(i:Nat):Prop:=(FT d (lS l i)).1=true/\(FT d (lT l i)).1=true
def Hz(d:Ayg)(l:Ayj):Prop:=∀i,i<l.length->b6 d l i
theorem dF{a b:Bool}:(!a||!b)=false↔a=true/\b=true:=by cases a<;>cases b<;>decide
def jw(l:Ayj)(id:Int)(i:Nat):Prop:=(li l i).1=id/\(li l i).2.1=true
def jv(l:Ayj)(id g:Int):Prop:=(g=-1/\∀i,i<l.length->¬jw l id i)\/∃k:Nat,g=(k:Int)/\k<l.length/\jw l id k/\∀i,i<k->¬jw l id i
theorem jv.unique{l:Ayj}{id g h:Int}(hg:jv l id g)(hh:jv l id h):g=h:=by
 rcases hg with ⟨rfl,h1⟩|⟨k,rfl,hk,hp,hn⟩
 ·rcases hh with ⟨rfl,_⟩|⟨k,rfl,hk,hp,_⟩
  ·rfl
  ·exact absurd hp (h1 k hk)
 ·rcases hh with ⟨rfl,h1⟩|⟨j,rfl,hj,hq,hm⟩
  ·exact absurd hp (h1 k hk)
  ·rcases Nat.lt_trichotomy k j with h |h |h
   ·exact absurd hp (hm k h)
   ·rw[h]
   ·exact absurd hq (hn j h)
theorem n1:KL ⟨#[105]⟩ ⟨#[]⟩=false:=by kernel_rfl
theorem n2:KL ⟨#[116]⟩ ⟨#[]⟩=false:=by kernel_rfl
end Go.Proofs.X
namespace Go.Proofs.X
open Go Go.Va
set_option maxRecDepth 100000
def FR(c:Aym)(v:Nat):Ayd:=c.getD v []
def P8(l:Ayd)(i:Nat):Int:=l.getD i 0
def PlP(l:Ayd)(w:Int)(i:Nat):Prop:=1<=P8 l i/\P8 l i<=w-1/\(0<i->P8 l (i-1)<P8 l i)
def Uy(l:Ayd)(w:Int):Prop:=∀i,i<l.length->PlP l w i
def Iw(d:Ayg)(c:Aym):Prop:=c.length=d.length/\∀v,v<d.length->Uy (FR c v) (dw d v)
def Rj(c:Aym):Prop:=c.length<=1048576/\∀x∈c,x.length<=1048576
theorem Rj.row{c:Aym}(h:Rj c)(v:Nat):(FR c v).length<=1048576:=by
 unfold FR;by_cases hv:v<c.length
 ·exact h.2 _ (AG hv)
 ·grind
theorem sH{d:Ayg}(hd:AZ d){v:Nat}(hv:v<d.length):1<=dw d v/\dw d v<=4096:=(hd.2.1 v hv).2.1
theorem dS{d:Ayg}{c:Aym}(hd:AZ d)(hl:c.length=d.length){v j:Nat}(hv:v<d.length)(hj:j<(FR c v).length)(hb:(FR c v).length<=1048576)(hp:∀i,i<j->PlP (FR c v) (dw d v) i) :
    ∃b,JK d (v:Int) (j:Int) (c,())=some b/\(b=false↔PlP (FR c v) (dw d v) j):=by
 have hw:=sH hd hv;unfold JK;have e1:(c.getD v AyR.zero)=FR c v:=rfl;have e2:(d.getD v _).2.1=dw d v:=rfl;have e3:(FR c v).getD j AyN.zero=P8 _ j:=rfl;simp only[Awa,e1,e2,e3];rw[Awr (BS (by omega)),Awr (BS hj),Awr (BS hv),NW,AW  (by omega) (by omega)];by_cases h1:1<=P8 (FR c v) j/\P8 (FR c v) j<=dw d v-1
 ·rw[Awe h1];rcases Awx j with h0 |h0
  ·subst h0;exact⟨false,by simp,λ_=>⟨h1.1,h1.2,λh=>by omega⟩,λ_=>rfl⟩
  ·rw[Jy,A3  (n:=j-1) (by omega) (by omega),Awr (BS (by omega)),Awr (BS hj),Awr (BS (by omega)),Awr (BS (by omega))];have e4:(FR c v).getD _ _=P8 _ (j-1):=rfl;refine⟨_,rfl,?_⟩;rw[AwV];exact⟨λh=>⟨h1.1,h1.2,λ_=>Int.not_le.1 h⟩,λh=>Int.not_le.2 (h.2.2 h0)⟩
 ·rw[Awc h1];exact⟨true,rfl,λh=>by grind,λh=>(h1 ⟨h.1,h.2.1⟩).elim⟩
theorem iB{d:Ayg}{c:Aym}(hc:Rj c):As (Oo d (c,())) λr=>r=true↔AZ d/\Iw d c:=by
 unfold Oo MH;obtain⟨r,hr,hq⟩:=RD d;rw[hr];cases r with
 |false=>exact As.mk ⟨λh=>by grind,λh=>by grind⟩
 |true =>
  have hd:=hq.1 rfl;simp;by_cases hl:c.length=d.length
  ·rw[show(c.length !=(d.length:Int))=false by grind];refine As.bind (P:=λt=>(t=.inl ()/\¬Iw d c)\/(t=.inr ()/\Iw d c)) ?_ λt ht=>?_
   ·refine Bw (λv _=>(v:Int)) c.length (λv _=>∀u,u<v->Uy (FR c u) (dw d u)) (λv _ hv hI=>?_) (λ_ hI=>?_) (s0:=()) (λu hu=>by omega)
    ·unfold Hf Ks;rw[Hq hv];refine As.bind (P:=λt=>(t=.inl ()/\¬Uy (FR c v) (dw d v))\/(t=.inr ()/\Uy (FR c v) (dw d v))) ?_ λt ht=>?_
     ·refine Bw (λj _=>(j:Int)) (FR c v).length (λj _=>∀i,i<j->PlP (FR c v) (dw d v) i) (λj _ hj hJ=>?_) (λ_ hJ=>?_) (s0:=()) (λi hi=>by omega)
      ·unfold He Kr;obtain⟨b,h1,h2⟩:=dS hd hl (by omega) hj (hc.row v) hJ;have e1:(c.getD v AyR.zero)=FR c v:=rfl;simp only[Awa,e1];rw[Awr (BS hv),Hq hj,h1,Av9];cases b with
       |true=>exact As.mk (.inl ⟨rfl,λh=>by have:=h2.2 (h j hj);cases this⟩)
       |false =>
        rw[BA hj (hc.row v)];refine As.mk ⟨(),rfl,λi hi=>?_⟩
        grind
      ·unfold He Kr;have e1:(c.getD v AyR.zero)=FR c v:=rfl;simp only[Awa,e1];rw[Awr (BS hv),IB];exact As.mk (.inr ⟨rfl,hJ⟩)
     ·rcases ht with ⟨rfl,h⟩|⟨rfl,h⟩
      ·exact As.mk (.inl ⟨rfl,λh'=>h (h'.2 v (by omega))⟩)
      ·rw[BA hv hc.1];refine As.mk ⟨(),rfl,λu hu=>?_⟩
       grind
    ·unfold Hf Ks;rw[IB];exact As.mk (.inr ⟨rfl,hl,λv hv=>hI v (by omega)⟩)
   ·rcases ht with ⟨rfl,h⟩|⟨rfl,h⟩
    ·exact As.mk ⟨λh=>by grind,λh'=>absurd h'.2 h⟩
    ·exact As.mk ⟨λ_=>⟨hd,h⟩,λ_=>rfl⟩
  ·rw[show(c.length !=(d.length:Int))=true by grind];exact As.mk ⟨λh=>by grind,λh=>absurd h.2.1 hl⟩
theorem VI{d:Ayg}{c:Aym}(hc:Rj c)(hd:AZ d):As (L1 d (c,())) λr=>r=true↔Iw d c:=by
 unfold L1;by_cases hl:c.length=d.length
 ·rw[show(c.length !=(d.length:Int))=false by grind];refine As.bind (P:=λt=>(t=.inl ()/\¬Iw d c)\/(t=.inr ()/\Iw d c)) ?_ λt ht=>?_
  ·refine Bw (λv _=>(v:Int)) c.length (λv _=>∀u,u<v->Uy (FR c u) (dw d u)) (λv _ hv hI=>?_) (λ_ hI=>?_) (s0:=()) (λu hu=>by omega)
   ·unfold G7 Kd;have e1:(c.getD v _)=FR c v:=rfl;have hw:=sH hd (show v<d.length by omega);rw[Hq hv,Awr (BS hv)];refine As.bind (P:=λt=>(t=.inl ()/\¬Uy (FR c v) (dw d v))\/(t=.inr ()/\Uy (FR c v) (dw d v))) ?_ λt ht=>?_
    ·have:=Bw (f:=ES d v c c.length (FR c v) ((FR c v).length)) (λj _=>((if j=0 then 0 else P8 (FR c v) (j-1)),j)) (FR c v).length (λj _=>∀i,i<j->PlP (FR c v) (dw d v) i) (Q:=λt=>(t=.inl ()/\¬Uy (FR c v) (dw d v))\/(t=.inr ()/\Uy (FR c v) (dw d v))) (λj _ hj hJ=>?_) (λ_ hJ=>?_) (s0:=()) (λi hi=>by omega)
     ·exact this
     ·unfold ES Kc;have e2:(d.getD v _).2.1=dw d v:=rfl;have e3:(FR c v).getD j AyN.zero=P8 _ j:=rfl;simp only[Awa,e2,e3];obtain⟨q,hq⟩:∃q:Int,q=if j=0 then 0 else P8 (FR c v) (j-1):=⟨_,rfl⟩;have hqb:0<=q/\q<=4096/\(0<j->q=P8 (FR c v) (j-1))/\(j=0->q=0):=by
       by_cases h0:j=0
       ·grind
       ·rw[Aws h0]at hq;have:=hJ (j-1) (by omega);exact⟨by have:=this.1;omega,by have:=this.2.1;omega,λ_=>hq,λh=>absurd h h0⟩
      rw[<-hq,Hq hj,Awr (BS hj),Awr (BS (by omega)),Kj,AW (x:=dw d v-1),AW  (by omega) (by omega)];by_cases h1:q+1<=P8 (FR c v) j/\P8 (FR c v) j<=dw d v-1
      ·rw[Awe h1];rw[BA hj (hc.row v)];refine As.mk ⟨(),by simp,λi hi=>?_⟩;rcases Awk i j with h |h
       ·grind
       ·rw[show i=j by omega];exact⟨by omega,h1.2,λh0=>by omega⟩
      ·rw[Awc h1];refine As.mk (.inl ⟨rfl,λh=>h1 ?_⟩);have:=h j hj;refine⟨?_,this.2.1⟩;rcases Awx j with h0 |h0
       ·have:=(h j hj).1;omega
       ·have:=(h j hj).2.2 h0;omega
     ·unfold ES Kc;rw[IB];exact As.mk (.inr ⟨rfl,hJ⟩)
    ·rcases ht with ⟨rfl,h⟩|⟨rfl,h⟩
     ·exact As.mk (.inl ⟨rfl,λh'=>h (h'.2 v (by omega))⟩)
     ·rw[BA hv hc.1];refine As.mk ⟨(),rfl,λu hu=>?_⟩
      grind
   ·unfold G7 Kd;rw[IB];exact As.mk (.inr ⟨rfl,hl,λv hv=>hI v (by omega)⟩)
  ·rcases ht with ⟨rfl,h⟩|⟨rfl,h⟩
   ·exact As.mk ⟨λh=>by grind,λh'=>absurd h' h⟩
   ·exact As.mk ⟨λ_=>h,λ_=>rfl⟩
 ·rw[show(c.length !=(d.length:Int))=true by grind];exact As.mk ⟨λh=>by grind,λh=>absurd h.1 hl⟩
theorem Ql{d:Ayg}{c:Aym}(hc:Rj c):As (Hu d (c,())) λr=>r=true↔AZ d/\Iw d c:=by
 unfold Hu;obtain⟨r,hr,hq⟩:=de d;rw[hr,Av9];cases r with
 |false=>exact As.mk ⟨λh=>by grind,λh=>by grind⟩
 |true =>
  have hd:=hq.1 rfl;refine As.bind (VI hc hd) λr hr=>As.mk ⟨λh=>⟨hd,hr.1 h⟩,λh=>hr.2 h.2⟩
def Fv(n:Nat)(f:Nat->Bool):Aye:=(List.range n).map f
def W(d:Ayg)(v:Nat):Nat:=(dw d v).toNat
def mark(f:Nat->Nat->Bool)(v p:Nat):Nat->Nat->Bool:=λu q=>f u q||(u==v&&q==p)
def M(d:Ayg)(x:Nat)(f:Nat->Nat->Bool):Ayn:=(List.range d.length).map λv=>Fv (W d v+x) (f v)
theorem Ib(n:Nat)(f:Nat->Bool):(Fv n f).length=n:=by simp[Fv]
theorem VZ{n:Nat}{f:Nat->Bool}{p:Nat}{z:Bool}(h:p<n):(Fv n f).getD p z=f p:=by simp[Fv,h]
theorem PR{n:Nat}{f g:Nat->Bool}(h:∀p,p<n->f p=g p):Fv n f=Fv n g:=Aw5 λp hp=>h p (List.mem_range.1 hp)
theorem Za(n:Nat)(f:Nat->Bool)(p:Nat):(Fv n f).set p true=Fv n λq=>f q||q==p:=by
 apply Axi;intro q;rw[Awy];by_cases hq:q<n
 ·by_cases e:p=q
  ·subst e;simp[Fv,hq]
  ·have:¬q=p:=λh=>e h.symm;simp[Fv,hq,e,this]
 ·have h1:(Fv n λq=>f q||q==p)[q]?=none:=by simp[Fv];omega
  have h2:(Fv n f)[q]?=none:=by simp[Fv];omega
  grind
theorem Y9(n:Nat):Fv n (λ_=>false)=List.replicate n false:=by
 apply Axl<;>simp[Fv]
theorem RQ(d:Ayg)(x:Nat)(f:Nat->Nat->Bool):(M d x f).length=d.length:=by simp[M]
theorem Sq{d:Ayg}{x:Nat}{f:Nat->Nat->Bool}{v:Nat}{z:Aye}(h:v<d.length):(M d x f).getD v z=Fv (W d v+x) (f v):=by simp[M,h]
theorem b5{d:Ayg}{x:Nat}{f:Nat->Nat->Bool}{v p:Nat}{z:Aye}(h:v<d.length):(M d x f).set v (((M d x f).getD v z).set p true)=M d x (mark f v p):=by
 rw[Sq h,Za];apply Axi;intro u;rw[Awy];by_cases hu:u<d.length
 ·by_cases e:v=u
  ·subst e;simp[M,hu,mark,Fv]
  ·have:¬u=v:=λh=>e h.symm;rw[Aws e];simp only[M,AwC,List.getElem?_range hu];exact congrArg some (PR λp _=>by simp[mark,this])
 ·have h1:(M d x (mark f v p))[u]?=none:=by simp[M];omega
  rw[h1,OB];simp[M];omega
theorem T3{d:Ayg}(hd:AZ d){v:Nat}(hv:v<d.length):dw d v=(W d v:Int)/\1<=W d v/\W d v<=4096:=by
 have:=sH hd hv;unfold W;omega
end Go.Proofs.X
namespace Go.Proofs.X
open Go Go.Va
set_option maxRecDepth 100000
def C0(c:Aym):Nat->Nat->Bool:=λv p=>(FR c v).contains (p:Int)
def AL(w:Nat)(f:Nat->Bool):Ayd:=((List.range w).filter λp=>decide (1<=p)&&f p).map Int.ofNat
def Ba(d:Ayg)(f:Nat->Nat->Bool):Aym:=(List.range d.length).map λv=>AL (W d v) (f v)
theorem Z2{w:Nat}{f g:Nat->Bool}(h:∀p,p<w->1<=p->f p=g p):AL w f=AL w g:=by
 unfold AL;congr 1;refine List.filter_congr λp hp=>?_
 grind
theorem cz{d:Ayg}{f g:Nat->Nat->Bool}(h:∀v p,v<d.length->p<W d v->1<=p->f v p=g v p):Ba d f=Ba d g :=
 Aw5 λv hv=>Z2 λp hp h1=>h v p (List.mem_range.1 hv) hp h1
theorem Ry(w:Nat)(f:Nat->Bool)(hw:w<=1):AL w f=[]:=by
 unfold AL
 grind
theorem VW(w:Nat)(f:Nat->Bool)(hw:1<=w):AL (w+1) f=if f w then AL w f++[(w:Int)]else AL w f:=by
 unfold AL;rw[Axq,List.filter_append];cases h:f w<;>simp[hw,h]
theorem S6(w:Nat)(f:Nat->Bool):(AL w f).length<=w:=by
 unfold AL
 grind
theorem MB{A:Type}(g:Nat->A)(k:Nat):(List.range (k+1)).map g=(List.range k).map g++[g k]:=by rw[Axq,AwY];rfl
theorem AdS{x:Int}(h1:0<=x)(h2:x<4611686018427387904):wI x=x:=AW
theorem dJ{l:Ayd}{w:Int}(h:Uy l w){x:Int}(hx:x∈l):1<=x/\x<=w-1:=by
 obtain⟨i,hi,rfl⟩:=AxC hx;have:=h i hi;have e:P8 l i=l[i]:=by simp[P8,hi]
 exact⟨by have:=this.1;omega,by have:=this.2.1;omega⟩
theorem Ut{l:Ayd}{i:Nat}(hi:i<l.length)(q:Int):(l.take (i+1)).contains q=((l.take i).contains q||q==P8 l i):=by
 rw[A4 (z:=0) hi,List.contains_eq_any_beq,List.contains_eq_any_beq];simp[P8]
theorem dk(a b:Nat):((a:Int)==(b:Int))=(a==b):=by
 grind
theorem dT{d:Ayg}{c:Aym}(hd:AZ d)(hc:Iw d c)(hb:Rj c):M0 d (c,())=some (M d 1 (C0 c)):=by
 unfold M0 OR;have aP:=hd.1;rw[AwZ];refine⟨_,?_,rfl⟩;have:=A2 (f:=El d (c,())) (λv=>(v,(List.range v).map λu=>Fv (W d u+1) (C0 c u))) (t:=M d 1 (C0 c)) d.length (λv hv=>?_) ?_
 ·grind
 ·unfold El Jn;obtain⟨e0,qm,qn⟩:=T3 hd hv;have hp:=hc.2 v hv;have e2:(d.getD v _).2.1=(W d v):=e0;simp only[Awa,e2];rw[Hq hv,Awp,Awr (BS hv),AdS  (by omega) (by omega),Awr ⟨rfl,by omega,by omega,by omega,by omega⟩];have LN:OQ d v (c,()) ((List.range v).map λu=>Fv (W d u+1) (C0 c u)) 0 (List.replicate ((W d v:Int)+1).toNat false)=some (Fv (W d v+1) (C0 c v)):=by
   have:=A2 (f:=Ej d v (c,()) ((List.range v).map λu=>Fv (W d u+1) (C0 c u))) (λi=>(i,Fv (W d v+1) λp=>((FR c v).take i).contains p)) (t:=Fv (W d v+1) (C0 c v)) (FR c v).length (λi hi=>?_) ?_
   ·have e:List.replicate ((W d v:Int)+1).toNat false=Fv (W d v+1) λp=>((FR c v).take 0).contains p:=by
      rw[<-Y9];exact PR λp _=>by simp
    rw[e];exact this
   ·unfold Ej Jm;have e1:(c.getD v AyR.zero)=FR c v:=rfl;have e3:(FR c v).getD i AyN.zero=P8 _ i:=rfl;have hpi:=hp i hi;obtain⟨p,hpp⟩:∃p:Nat,P8 (FR c v) i=p:=⟨(P8 (FR c v) i).toNat,by have:=hpi.1;omega⟩;have jY :=by have:=hpi.2.1;omega
    simp only[Awa,e1,e3,hpp];rw[Awr (BS (by rw[hc.1];exact hv)),Hq hi,Awp,Awr (BS (by rw[hc.1];exact hv)),Awr (BS hi),Awr (by rw[Ib];exact BS (by omega)),BA hi (hb.row v),Za];have e5:(Fv _ _)=Fv (W d v+1) λq=>((FR c v).take _).contains q:=PR λq _=>by rw[Ut hi,hpp,dk]
    rw[e5]
   ·unfold Ej Jm;have e1:(c.getD v AyR.zero)=FR c v:=rfl;simp only[Awa,e1];rw[Awr (BS (by rw[hc.1];exact hv)),IB,Awj (Awf _)];rfl
  rw[LN,Av9,Awr (by grind),BA hv (by omega),MB]
 ·unfold El Jn;rw[IB];rfl
theorem Z6{d:Ayg}(hd:AZ d)(f:Nat->Nat->Bool):Ow (M d 1 f)=some (Ba d f):=by
 unfold Ow PZ;have aP:=hd.1;rw[AwZ];refine⟨_,?_,rfl⟩;have:=A2 (f:=EY (M d 1 f)) (λv=>(v,(List.range v).map λu=>AL (W d u) (f u))) (t:=Ba d f) d.length (λv hv=>?_) ?_
 ·grind
 ·unfold EY KF;obtain⟨e0,qm,qn⟩:=T3 hd hv;rw[RQ,Hq hv,Awp];have LN:PY (M d 1 f) v ((List.range v).map λu=>AL (W d u) (f u)) 1 []=some (AL (W d v) (f v)):=by
   have:=A2 (f:=EX (M d 1 f) v ((List.range v).map λu=>AL (W d u) (f u))) (λi=>(((i+1:Nat)),AL (i+1) (f v))) (t:=AL (W d v) (f v)) (W d v-1) (λi hi=>?_) ?_
   ·have e:AL (0+1) (f v)=[]:=Ry _ _ (by omega);exact this
   ·unfold EX KE;have hlen:=S6 (i+1) (f v);rw[RQ,Awr (BS hv),Awa,Sq hv,Ib,A3  (n:=i+1+1) (by omega) (by omega),Hq (show i+1+1<W d v+1 by omega)];have:JZ (M d 1 f) v ((i+1:Nat)) (AL (i+1) (f v)) ((List.range v).map λu=>AL (W d u) (f u))=some (AL (i+1+1) (f v)):=by
     unfold JZ;rw[RQ,Awr (BS hv),Awa,Sq hv,Ib,Awr (BS (by omega)),Awa,VZ (by omega),VW (i+1) _ (by omega)]
     grind
    rw[this];rfl
   ·unfold EX KE;rw[RQ,Awr (BS hv),Awa,Sq hv,Ib,A3  (n:=W d v+1) (by omega) (by omega),IB,Awo,show W d v-1+1=W d v by omega]
  rw[LN,Av9,Awr (by grind),BA hv (by omega),MB]
 ·unfold EY KF;rw[RQ,IB];rfl
theorem kh{d:Ayg}(hd:AZ d){f:Nat->Nat->Bool}(hf:∀v,f v 0=false){a:AyZ Ayq}{c:Ayg}{e:Ayf} :
    JC a (d.length:Int) c (M d 0 f) e 0 (List.replicate d.length [])=some (Ba d f):=by
 have aP:=hd.1;have:=A2 (f:=Ci a d.length c (M d 0 f) e) (λv=>(v,Cs (λu=>AL (W d u) (f u)) [] d.length v)) (t:=Ba d f) d.length (λv hv=>?_) ?_
 ·rw[<-Nt (λu=>AL _ _)];exact this
 ·unfold Ci Ez;obtain⟨e0,qm,qn⟩:=T3 hd hv;rw[Hq hv,Awp,Awr (by rw[RQ];exact BS hv),Awa,Sq hv,Ib];have LN:JB v d.length c (M d 0 f) a e (Fv (W d v+0) (f v)) ((W d v+0:Nat)) 0 (Cs (λu=>AL (W d u) (f u)) [] d.length v)=some ((Cs (λu=>AL (W d u) (f u)) [] d.length v).set v (AL (W d v) (f v))):=by
   have:=A2 (f:=Ch v d.length c (M d 0 f) a e (Fv (W d v+0) (f v)) ((W d v+0:Nat))) (λi=>(i,(Cs (λu=>AL (W d u) (f u)) [] d.length v).set v (AL i (f v)))) (t:=(Cs (λu=>AL (W d u) (f u)) [] d.length v).set v (AL (W d v) (f v))) (W d v+0) (λi hi=>?_) ?_
   ·have e1:(Cs (λu=>AL (W d u) (f u)) [] d.length v).set v (AL 0 (f v))=Cs (λu=>AL (W d u) (f u)) [] d.length v:=by
      apply Axi;intro u;rw[Awy];split
      ·rename_i h;subst h;simp[Cs,hv,AL]
      ·rfl
    rw[e1]at this;exact this
   ·unfold Ch Ey;have hlen:=S6 i (f v);rw[Hq hi,Awp];have:DC v d.length (Fv (W d v+0) (f v)) ((W d v+0:Nat)) i c (M d 0 f) a e ((Cs (λu=>AL (W d u) (f u)) [] d.length v).set v (AL i (f v)))=some ((Cs (λu=>AL (W d u) (f u)) [] d.length v).set v (AL (i+1) (f v))):=by
     unfold DC F5;have Q3:((Cs (λu=>AL (W d u) (f u)) [] d.length v).set v (AL i (f v))).getD v AyR.zero=AL i (f v):=by
      simp[J7,hv]
     rw[Ib,Awr (BS hi)];simp only[Awa,Q3,Awi,J7,List.set_set];rw[VZ hi];rcases Awx i with h0 |h0
     ·subst h0;rw[hf v,Awo];have e1:AL 0 (f v)=AL (0+1) (f v):=by rw[Ry 0 _ (by omega),Ry _ _ (by omega)]
      rw[e1]
     ·rw[VW _ _ h0]
      grind
    rw[this,Av9,BA hi (by omega)]
   ·unfold Ch Ey;rw[IB];rfl
  rw[LN,Av9,Pg,BA hv (by omega)]
 ·unfold Ci Ez;rw[IB,Awo];have:Cs (λu=>AL (W d u) (f u)) [] d.length d.length=Ba d f:=by
   exact Aw5 λv hv=>by grind
  rw[this]
end Go.Proofs.X
namespace Go.Proofs.X
open Go Go.Va
set_option maxRecDepth 100000
def frs(s:Sg):Aye:=(List.range s.w).map (·==0)
def spot(s:Sg)(k:Nat):BN.V:=if k=0 then(0,0,0,())else match s with |.co _=>(2,0,0,())|.va v l _=>(1,(v:Int),((l+k:Nat):Int),())
def spt(s:Sg):AyZ BN.V:=(List.range s.w).map (spot s)
def Yx(f:AyZ Sg):Aye:=f.flatMap frs
def Wg(f:AyZ Sg):AyZ BN.V:=f.flatMap spt
theorem Q0{A:Type}{F:Sg->AyZ A}(hF:∀s,(F s).length=s.w)(f:AyZ Sg):(f.flatMap F).length=BO f:=by
 rw[List.length_flatMap];exact congrArg _ (Aw5 λs _=>hF s)
theorem cH(s:Sg):(frs s).length=s.w:=by simp[frs]
theorem dV(s:Sg):(spt s).length=s.w:=by simp[spt]
theorem Ww{A:Type}(F:Sg->AyZ A){f:AyZ Sg}{i:Nat}(hi:i<f.length):(f.take (i+1)).flatMap F=(f.take i).flatMap F++F (f.getD i (.co [])):=by
 rw[A4 (z:=.co []) hi];simp
theorem flat_get{A:Type}{F:Sg->AyZ A}(hF:∀s,(F s).length=s.w){f:AyZ Sg}{i k:Nat}{z:A}(hi:i<f.length)(hk:k<(f.getD i (.co [])).w):(f.flatMap F).getD (BO (f.take i)+k) z=(F (f.getD i (.co []))).getD k z:=by
 have e:f.flatMap F=(f.take i).flatMap F++(F (f.getD i (.co []))++(f.drop (i+1)).flatMap F):=by
  rw[<-Awh,<-Ww F hi,<-AxT,Axs]
 rw[e];simp;rw[Awv (by rw[Q0 hF];omega),Q0 hF,show BO _+k-BO _=k by omega,Aww (by grind)]
theorem u9:∀{f:AyZ Sg} {p:Nat},p<BO f->∃i k,i<f.length/\k<(f.getD i (.co [])).w/\p=BO (f.take i)+k
 |[],p,h=>by simp[BO]at h
 |s::f,p,h=>by
  have e:BO (s::f)=s.w+BO f:=by simp[BO]
  by_cases hp:p<s.w
  ·exact⟨0,p,by simp,by grind,by simp[BO]⟩
  ·obtain⟨i,k,h1,h2,h3⟩:=u9 (f:=f) (p:=p-s.w) (by omega);refine⟨i+1,k,by grind,by grind,?_⟩;have:BO ((s::f).take (i+1))=s.w+BO (f.take i):=by simp[BO]
   omega
theorem mT{f:AyZ Sg}{i:Nat}(hi:i<f.length):BO (f.take i)+(f.getD i (.co [])).w<=BO f:=by
 rw[<-M5 hi];exact HX f _
theorem Rz{A:Type}{g:Nat->A}{n k:Nat}{z:A}(h:k<n):((List.range n).map g).getD k z=g k:=by grind
theorem uW{f:AyZ Sg}{i k:Nat}(hi:i<f.length)(hk:k<(f.getD i (.co [])).w) :
    (CN f).getD (BO (f.take i)+k) (.co false)=(f.getD i (.co [])).bits.getD k (.co false)/\(Yx f).getD (BO (f.take i)+k) false=(k==0)/\(Wg f).getD (BO (f.take i)+k) BN.zero=spot (f.getD i (.co [])) k:=by
 refine⟨flat_get Jw hi hk,?_,?_⟩
 ·unfold Yx;rw[flat_get cH hi hk];exact Rz hk
 ·unfold Wg;rw[flat_get dV hi hk];exact Rz hk
theorem iG{f:AyZ Sg}(h1:T2 f)(hf:∀s∈f,Rm s)(hw:BO f<=4096):Mb (fV f)=some (bV (CN f),Yx f):=by
 unfold Mb;have hlen:=Dn h1;rw[oT h1 hf hw,Av9];have:P2 (fV f) (bV (CN f)) 0 []=some (Yx f):=by
  have:=A2 (f:=Fb (fV f) (bV (CN f))) (λi=>(i,Yx (f.take i))) (t:=Yx f) f.length (λi hi=>?_) ?_
  ·exact this
  ·unfold Fb KI;rw[Cf,Hq hi,Awp];have he:=mT hi;have Hs:P1 (fV f) i (bV (CN f)) 0 (Yx (f.take i))=some (Yx (f.take (i+1))):=by
    have:=A2 (f:=Fa (fV f) i (bV (CN f))) (λk=>(k,Yx (f.take i)++(List.range k).map (·==0))) (t:=Yx (f.take (i+1))) (f.getD i (.co [])).w (λk hk=>?_) ?_
    ·rw[show Yx _=Yx (f.take i)++(List.range 0).map _ by simp];exact this
    ·unfold Fa KH;simp only[Awa,fJ hi,Zg];have hl:(Yx (f.take i)++(List.range k).map (·==0)).length=BO (f.take i)+k:=by
      rw[Awd,show(Yx _).length=BO _ from Q0 cH _];simp
     rw[Cf,Awr (BS hi),Hq hk,Awp,Awr (by grind),BA hk (by omega),MB,Awh,show((k:Int)==0)=(k==0)from dk k 0]
    ·unfold Fa KH;simp only[Awa,fJ hi,Zg];rw[Cf,Awr (BS hi),IB];unfold Yx;rw[Ww frs hi];rfl
   rw[Hs,Av9,BA hi (by omega)]
  ·unfold Fb KI;rw[Cf,IB,Awo,Awj (Awf _)]
 rw[this];rfl
theorem dj{f:AyZ Sg}(h1:T2 f)(hf:∀s∈f,Rm s)(hw:BO f<=4096):HG (fV f)=some (Wg f):=by
 unfold HG;have hlen:=Dn h1;have:Lq (fV f) ((fV f).length:Int) 0 []=some (Wg f):=by
  unfold Lq;rw[Cf];have:=A2 (f:=D5 (fV f) (f.length:Int)) (λi=>((i:Int),Wg (f.take i))) (t:=Wg f) f.length (λi hi=>?_) ?_
  ·exact this
  ·unfold D5 IL;simp only[Awa,fJ hi];have hwt:=HX f i;have he:=mT hi;have h1i:=h1 _ (AG (z:=.co []) hi);have hfi:=hf _ (AG (z:=.co []) hi);have ji:(Wg (f.take i)).length=BO (f.take i):=Q0 dV _;rw[Cf,Hq hi,Awp,Awr (BS hi),Awr (by rw[ji];simp;omega)];have Hs:Lp (fV f) (f.length:Int) (i:Int) (KV (f.getD i (.co []))) 1 (Wg (f.take i)++[(0,0,0,())])=some (Wg (f.take (i+1))):=by
    unfold Lp;have:=A2 (f:=D4 (fV f) (f.length:Int) (i:Int) (KV (f.getD i (.co [])))) (λk=>(((k+1:Nat):Int),Wg (f.take i)++(List.range (k+1)).map (spot (f.getD i (.co []))))) (t:=Wg (f.take (i+1))) ((f.getD i (.co [])).w-1) (λk hk=>?_) ?_
    ·exact this
    ·unfold D4 IK;simp only[Zg];have hl:(Wg (f.take i)++(List.range (k+1)).map (spot (f.getD i (.co [])))).length=BO (f.take i)+(k+1):=by
      rw[Awd,ji];simp
     rw[Hq (show k+1<(f.getD i (.co [])).w by omega),Awp];have:H9 ((k+1:Nat):Int) (fV f) (f.length:Int) (i:Int) (Wg (f.take i)++(List.range (k+1)).map (spot (f.getD i (.co [])))) (KV (f.getD i (.co [])))=some (Wg (f.take i)++(List.range (k+1+1)).map (spot (f.getD i (.co [])))):=by
      unfold H9;rw[MB _ (k+1),<-Awh];cases hs:f.getD i (.co [])with
      |co b =>
       rw[hs]at hl;rw[show((KV (.co b)).1==-1)=true from rfl,Awp,Awr (by rw[hl];simp;omega)];rfl
      |va v l n =>
       rw[hs]at hl hk hfi he;simp only[Sg.w,Rm]at hk hfi he;rw[show((KV (.va v l n)).1==-1)=false from beq_eq_false_iff_ne.2 (show(v:Int)≠-1 by omega),Awo,Awr (by rw[hl];simp;omega)];rw[show wI ((KV (.va v l n)).2.1+((k+1:Nat):Int))=((l+(k+1):Nat):Int)from A3 (by show(l:Int)+((k+1:Nat):Int)=_;omega) (by omega)];rfl
     rw[this,Av9,A3 (x:=((k+1:Nat):Int)+1) (n:=k+1+1)]
    ·unfold D4 IK;simp only[Zg];rw[show(f.getD i (.co [])).w-1+1=(f.getD i (.co [])).w by omega,IB,Awo];unfold Wg;rw[Ww spt hi];rfl
   rw[Hs,Av9,BA hi (by omega)]
  ·unfold D5 IL;simp only;rw[IB,Awo,Awj (Awf _)]
 rw[this];rfl
def fst(B:AyZ Bt)(p:Nat):Bool:=(Yx (AY B)).getD p false
def Sx(B:AyZ Bt)(p:Nat):Bt:=B.getD p (.co false)
def yE(h:Nat->Nat->Bool):Bt->Bool
 |.co _=>false
 |.va v a=>h v a
def ki:Bt->Bool
 |.co _=>false
 |.va _ _=>true
def SD(B:AyZ Bt)(h:Nat->Nat->Bool)(p:Nat):Bool:=fst B p||yE h (Sx B p)
theorem uJ{d:Ayg}{B:AyZ Bt}(hd:AZ d)(h:Ce d B):T2 (AY B)/\(∀s∈AY B,Rm s)/\BO (AY B)=B.length :=
 ⟨D6 B,PI (λb hb=>cm (QS hd (h.2.2 b hb))) h.2.1,Dd B⟩
theorem Aon{d:Ayg}{B:AyZ Bt}(hd:AZ d)(h:Ce d B):Mb (fN B)=some (bV B,Yx (AY B)):=by
 obtain⟨h1,h2,h3⟩:=uJ hd h;have:=iG h1 h2 (by rw[h3];exact h.2.1);rw[Ny]at this;exact this
theorem vO{d:Ayg}{B:AyZ Bt}(hd:AZ d)(h:Ce d B):HG (fN B)=some (Wg (AY B)):=by
 obtain⟨h1,h2,h3⟩:=uJ hd h;exact dj h1 h2 (by rw[h3];exact h.2.1)
theorem yx(B:AyZ Bt):(Yx (AY B)).length=B.length:=by rw[show(Yx _).length=BO _ from Q0 cH _,Dd]
theorem XS(B:AyZ Bt):(Wg (AY B)).length=B.length:=by rw[show(Wg _).length=BO _ from Q0 dV _,Dd]
theorem rA{d:Ayg}{B:AyZ Bt}(h:Ce d B){p:Nat}(hp:p<B.length):∃i k,i<(AY B).length/\k<((AY B).getD i (.co [])).w/\p=BO ((AY B).take i)+k/\Sr d ((AY B).getD i (.co [])) /\
    Sx B p=((AY B).getD i (.co [])).bits.getD k (.co false)/\fst B p=(k==0)/\(Wg (AY B)).getD p BN.zero=spot ((AY B).getD i (.co [])) k:=by
 obtain⟨i,k,h1,h2,rfl⟩:=u9   (by rw[Dd];exact hp);obtain⟨e1,e2,e3⟩:=uW h1 h2;rw[Ny]at e1;exact⟨i,k,h1,h2,rfl,(Zc h (AG h1)).1,e1,e2,e3⟩
theorem zK{v l n k:Nat}(h:k<n):(Sg.va v l n).bits.getD k (.co false)=.va v (l+k):=by simp[Sg.bits,h]
theorem ye{b:Aye}{k:Nat}(h:k<b.length):(Sg.co b).bits.getD k (.co false)=.co (b.getD k false):=by simp[Sg.bits,h]
theorem TU{d:Ayg}{B:AyZ Bt}(h:Ce d B){p:Nat}(hp:p<B.length):(fst B p=true/\(Wg (AY B)).getD p BN.zero=(0,0,0,())) \/
    (fst B p=false/\((∃b,Sx B p=.co b)/\(Wg (AY B)).getD p BN.zero=(2,0,0,())\/∃v a,Sx B p=.va v a/\v<d.length/\1<=a/\a<W d v/\(Wg (AY B)).getD p BN.zero=(1,(v:Int),(a:Int),()))):=by
 obtain⟨i,k,h1,h2,h3,h4,h5,h6,h7⟩:=rA h hp;rw[h5,h6,h7];rcases Awx k with h0 |h0
 ·subst h0;exact .inl ⟨rfl,rfl⟩
 ·refine .inr ⟨by grind,?_⟩;have hk:¬k=0:=by omega
  cases hs:(AY B).getD i _ with
  |co b =>
   rw[hs]at h2;exact .inl ⟨⟨_,ye h2⟩,by simp[spot,hk]⟩
  |va v l n =>
   rw[hs]at h2 h4;simp only[Sg.w,Sr]at h2 h4;exact .inr ⟨v,l+k,zK h2,h4.1,by omega,by unfold W;omega,by simp[spot,hk]⟩
theorem rC{d:Ayg}{B:AyZ Bt}(h:Ce d B){p:Nat}(hp:p<B.length):Sp d (Sx B p):=h.2.2 _ (AG hp)
theorem Zm{d:Ayg}(hd:AZ d){B:AyZ Bt}(h:Ce d B){f:Nat->Nat->Bool}{p:Nat}(hp:p<B.length):F0 (bV B,Yx (AY B),()) (M d 1 f) (p:Int)=some (SD B f p):=by
 unfold F0;have e1:(Yx _).getD p (Ty.zero .bool)=fst B p:=rfl;have e2:(bV B).getD p _=Ts (Sx B p):=b9 hp;simp only[Awa,e1,e2];rw[yx,Em,Awr (BS hp)];unfold SD;cases fst B p with
 |true=>rfl
 |false =>
  rw[Awr (BS hp)];have hb:=rC h hp;cases hbb:Sx B p with
  |co b=>rfl
  |va v a =>
   rw[hbb]at hb;obtain⟨h1,h2⟩:=hb;obtain⟨hw,_,_⟩:=T3 hd h1;rw[show(Ts _).1=v from rfl,show(Ts _).2.1=a from rfl,show decide ((v:Int)>=0)=true from Jy,Awr (BS hp),RQ,Awr (BS h1),Awr (BS hp),Awa,Sq h1,Ib,Awr (BS (by omega)),VZ (by omega)];rfl
theorem iI{d:Ayg}(hd:AZ d){B:AyZ Bt}(h:Ce d B){f:Nat->Nat->Bool}{p:Nat}(hp:p<B.length):Ho (bV B,Yx (AY B),()) (M d 1 f) (p:Int)=some (!SD B f p&&ki (Sx B p)):=by
 unfold Ho;have e2:(bV B).getD p _=Ts (Sx B p):=b9 hp;rw[Zm hd h hp,Av9];simp only[Awa,e2];cases SD B f p with
 |true=>rfl
 |false =>
  rw[Em,Bool.not_false,Awr (BS hp)];cases Sx B p with
  |co b=>rfl
  |va v a =>
   rfl
end Go.Proofs.X
namespace Go.Proofs.X
open Go Go.Va
set_option maxRecDepth 100000
section
variable {kt vt:Ty}
theorem bk(hr:∀x:kt.V,Bq kt x x=true)(k:kt.V)(v:vt.V):∀es:AyZ (kt.V×vt.V),Sk kt vt (Dv kt vt es k v) k=Sk kt vt es k/\WJ kt vt (Dv kt vt es k v) k=true
 |[]=>by simp[Dv,Sk,WJ,Nn,hr]
 |x::es=>by
  obtain⟨h1,h2⟩:=bk hr k v es;unfold Dv;cases hx:Bq kt k x.1 with
  |true=>simp[Sk,WJ,Nn,hr,hx]
  |false =>
   unfold WJ at h2⊢;simp only[Sk,Nn,hx,Awo];exact⟨by omega,h2⟩
theorem Yr(hr:∀x:kt.V,Bq kt x x=true)(k:kt.V)(v:vt.V)(es:AyZ (kt.V×vt.V)):QV kt vt (Dv kt vt es k v) k (R6 kt vt es k)=true:=by
 obtain⟨h1,h2⟩:=bk hr k v es;unfold QV R6;rw[h1,h2];simp
theorem YV(he:∀x y:kt.V,Bq kt x y=true↔x=y)(k k':kt.V)(v:vt.V):∀es:AyZ (kt.V×vt.V),Nn kt vt (Dv kt vt es k v) k'=bif Bq kt k' k then some v else Nn kt vt es k'
 |[]=>by simp[Dv,Nn]
 |x::es=>by
  unfold Dv;cases hx:Bq kt k x.1 with
  |true =>
   have:=(he _ _).1 hx;simp only[Awp,Nn]
   grind
  |false =>
   simp only[Awo,Nn];rw[YV he k k' v es]
   grind
theorem bh(he:∀x y:kt.V,Bq kt x y=true↔x=y)(k k':kt.V)(v:vt.V)(es:AyZ (kt.V×vt.V)):Cx kt vt (Dv kt vt es k v) k'=bif Bq kt k' k then v else Cx kt vt es k':=by
 unfold Cx;rw[YV he];cases Bq kt k' k<;>rfl
end
theorem oP(x y:Ax5):Bq Aa x y=true↔x=y:=by
 obtain⟨a,b,_⟩:=x;obtain⟨a',b',_⟩:=y;simp[Bq]
theorem TL(x:Ax5):Bq Aa x x=true:=(oP x x).2 rfl
def Un(d:Ayg):AyZ (Nat×Nat):=(List.range d.length).flatMap λv=>(List.range (W d v)).map λp=>(v,p)
def free(d:Ayg)(f:Nat->Nat->Bool):Nat:=(Un d).countP λx=>!f x.1 x.2
theorem pq{d:Ayg}{v p:Nat}(hv:v<d.length)(hp:p<W d v):(v,p)∈Un d :=
 List.mem_flatMap.2 ⟨v,List.mem_range.2 hv,List.mem_map.2 ⟨p,List.mem_range.2 hp,rfl⟩⟩
theorem XJ{A:Type}{F:Nat->AyZ A}{m:Nat}:∀{n:Nat},(∀v,v<n->(F v).length<=m)->((List.range n).flatMap F).length<=m*n
 |0,_=>by simp
 |n+1,h=>by
  rw[Axq,AxT,Awd,Nat.mul_succ];have h1:=XJ (n:=n) λv hv=>h v (by omega)
  grind
theorem yv{d:Ayg}(hd:AZ d)(f:Nat->Nat->Bool):free d f<=245760:=by
 have h1:(Un d).length<=4096*d.length:=XJ λv hv=>by simp;exact(T3 hd hv).2.2
 have h2:=List.countP_le_length (p:=λx =>!f x.1 x.2) (l:=Un d);have:=hd.1;unfold free;omega
theorem aF{A:Type}{q q':A->Bool}:∀{l:AyZ A} {x:A},(∀y,q' y=true->q y=true)->x∈l->q x=true->q' x=false->l.countP q'+1<=l.countP q
 |[],_,_,h,_,_=>by grind
 |y::l,x,hq,h,h1,h2=>by
  have TK:l.countP q'<=l.countP q:=List.countP_mono_left λy _=>hq y;rw[List.countP_cons,List.countP_cons];rcases List.mem_cons.1 h with e |h
  ·grind
  ·have:=aF hq h h1 h2
   grind
theorem Wx{d:Ayg}{f:Nat->Nat->Bool}{v p:Nat}(hv:v<d.length)(hp:p<W d v)(h:f v p=false):free d (mark f v p)+1<=free d f :=
 aF (λy hy=>by simp[mark]at hy⊢;exact hy.1) (pq hv hp) (by grind) (by simp[mark])
abbrev SC:Type:=(Nat->Nat->Bool)×Ayf
open Classical in
noncomputable def Jt(d:Ayg)(s:SC)(v p:Nat):SC:=if 0<p/\p<W d v/\s.1 v p=false then(mark s.1 v p,s.2++[((v:Int),(p:Int),())])else s
theorem Xb{d:Ayg}(hd:AZ d){v p:Nat}(hv:v<d.length){r:Nat->Bool}{t:Ayn}{g:Ayf}{a:Int}(ht:t.length=d.length)(hr:t.getD v AyU.zero=Fv (W d v) r)(hg:g.length<=1000000) :
    Bm a (v:Int) (p:Int) d t g=some (if 0<p/\p<W d v/\r p=false then(d,t.set v ((Fv (W d v) r).set p true),g++[((v:Int),(p:Int),())])else(d,t,g)):=by
 obtain⟨e0,qm,qn⟩:=T3 hd hv;have e2:(d.getD v Ab.zero).2.1=(W d v:Int):=e0;have key:Fp a (v:Int) (p:Int) d t g=some (decide (0<p/\p<W d v/\r p=false)):=by
  unfold Fp;simp only[Awa,e2,hr];rcases Awx p with h0 |h0
  ·grind
  ·rw[show decide ((p:Int)>0)=true from Jy,Awr (BS hv)];by_cases hp:p<W d v
   ·rw[Awr (by grind),Awr (by rw[Ib];exact BS hp),VZ hp];cases r p<;>simp[h0,hp]
   ·grind
 unfold Bm;rw[key,Av9];by_cases h:0<p/\p<W d v/\r p=false
 ·rw[Awe h,Awp,Awr h];simp only[Awa,hr];rw[Awr (by grind),Awr (by rw[Ib];omega),Awr (by grind)]
 grind
theorem Pu{d:Ayg}(hd:AZ d){v p:Nat}(hv:v<d.length)(s:SC){a:Int}(hg:s.2.length<=1000000):Bm a (v:Int) (p:Int) d (M d 0 s.1) s.2=some (d,M d 0 (Jt d s v p).1,(Jt d s v p).2):=by
 rw[Xb hd hv (RQ _ _ _) (Sq hv) hg];unfold Jt;by_cases h:0<p/\p<W d v/\s.1 v p=false
 ·rw[Awr h,Awr h];have:=b5 (x:=0) (f:=s.1) (p:=p) (z:=[]) hv;rw[Sq hv]at this;rw[<-this];rfl
 ·grind
structure CI (d:Ayg) (f0:Nat->Nat->Bool) (s:SC):Prop where
 le:∀v p,f0 v p=true->s.1 v p=true
 WY:∀v p,s.1 v p=true->v<d.length/\1<=p/\p<W d v
 Ul:∀x∈s.2,∃v p:Nat,x=((v:Int),(p:Int),())/\s.1 v p=true
 len:s.2.length+free d s.1<=500000
def eW(s:SC):Prop:=∀v p,s.1 v p=true->((v:Int),(p:Int),())∈s.2
def LL(f g:Nat->Nat->Bool):Prop:=∀v p,f v p=true->g v p=true
def nN(d:Ayg)(f:Nat->Nat->Bool)(v p:Nat):Prop:=0<p->p<W d v->f v p=true
theorem nN.mono{d:Ayg}{f g:Nat->Nat->Bool}(h:LL f g){v p:Nat}(hh:nN d f v p):nN d g v p:=λh1 h2=>h v p (hh h1 h2)
theorem DF{f:Nat->Nat->Bool}{v p u q:Nat}:mark f v p u q=true↔f u q=true\/(u=v/\q=p):=by simp[mark]
theorem UG{d:Ayg}(s:SC)(v p:Nat):LL s.1 (Jt d s v p).1:=λu q h=>by
 unfold Jt;split
 ·exact DF.2 (.inl h)
 ·omega
theorem Vt{d:Ayg}(s:SC)(v p:Nat):nN d (Jt d s v p).1 v p:=λh1 h2=>by
 unfold Jt;split
 ·exact DF.2 (.inr ⟨rfl,rfl⟩)
 grind
theorem Vu{d:Ayg}{s:SC}{v p:Nat}{h:Nat->Nat->Bool}(hu:LL s.1 h)(hh:nN d h v p):LL (Jt d s v p).1 h:=λu q hq=>by
 unfold Jt at hq;split at hq
 ·rename_i hc;rcases DF.1 hq with h1 |⟨rfl,rfl⟩
  ·exact hu u q h1
  ·exact hh hc.1 hc.2.1
 ·exact hu u q hq
theorem CI.cut{d:Ayg}{f0:Nat->Nat->Bool}{s:SC}(h:CI d f0 s){v p:Nat}(hv:v<d.length):CI d f0 (Jt d s v p):=by
 refine⟨λu q hq=>UG s v p u q (h.le u q hq),λu q hq=>?_,λx hx=>?_,?_⟩
 ·unfold Jt at hq;split at hq
  ·rename_i hc;rcases DF.1 hq with h1 |⟨rfl,rfl⟩
   ·exact h.WY u q h1
   ·omega
  ·exact h.WY u q hq
 ·unfold Jt at hx⊢;split at hx
  ·rename_i hc;rw[Awr hc];rcases List.mem_append.1 hx with hx |hx
   ·obtain⟨u,q,e,h1⟩:=h.Ul x hx;exact⟨u,q,e,DF.2 (.inl h1)⟩
   ·rw[AwA]at hx;exact⟨v,p,hx,DF.2 (.inr ⟨rfl,rfl⟩)⟩
  ·rename_i hc;rw[Aws hc];exact h.Ul x hx
 ·unfold Jt;split
  ·rename_i hc;have:=Wx hv hc.2.1 hc.2.2;have:=h.len
   grind
  ·exact h.len
theorem eW.cut{d:Ayg}{s:SC}(h:eW s){v p:Nat}:eW (Jt d s v p):=λu q hq=>by
 unfold Jt at hq⊢;split
 ·rename_i hc;rw[Awr hc]at hq;rcases DF.1 hq with h1 |⟨rfl,rfl⟩
  ·exact AwH _ (h u q h1)
  grind
 ·rename_i hc;rw[Aws hc]at hq;exact h u q hq
theorem kK{l:Ayd}{w:Int}(h:Uy l w):∀{j i:Nat},i<j->j<l.length->P8 l i<P8 l j
 |j+1,i,yD,hj=>by
  have h1:=(h _ hj).2.2 (by omega);simp only[AwM]at h1;rcases Awk i j with h2 |h2
  ·have:=kK h h2 (by omega);omega
  grind
theorem u7{l:Ayd}{w:Int}(h:Uy l w):∀{i:Nat},i<l.length->((i:Int)+1)<=P8 l i
 |0,hi=>by have:=(h 0 hi).1;omega
 |i+1,hi=>by
  have h1:=u7 h (i:=i) (by omega);have h2:=(h _ hi).2.2 (by omega)
  grind
theorem dH{l:Ayd}{w:Int}(h:Uy l w)(hw:1<=w):(l.length:Int)<=w:=by
 rcases Awx l.length with h0 |h0
 ·omega
 ·have h1:=u7 h (i:=l.length-1) (by omega);have h2:=(h (l.length-1) (by omega)).2.1;omega
theorem vU{l:Ayd}{w:Int}(h:Uy l w){i:Nat}(hi:i<l.length):(l.take i).contains (P8 l i)=false:=by
 rw[Bool.eq_false_iff];intro hc;have hm:P8 l i∈l.take i:=by grind
 obtain⟨j,hj,e⟩:=AxC hm;rw[Awu]at hj;rw[List.getElem_take]at e;have h1:=kK h (i:=j)  (by omega) hi;have h2:P8 l j=l[j]'(by omega):=by simp[P8,show j<l.length by omega]
 omega
def g0(c:Aym)(n:Nat):Ayf:=(List.range n).flatMap λv=>(FR c v).map λp=>((v:Int),p,())
theorem dv{d:Ayg}{c:Aym}(hd:AZ d)(hc:Iw d c)(hb:Rj c):JF d (c,())=some (0,d,M d 0 (C0 c),[],g0 c d.length):=by
 have aP:=hd.1;have hgl:∀n,n<=d.length->(g0 c n).length<=4096*n:=λn hn=>XJ λv hv=>by
  obtain⟨e0,qm,qn⟩:=T3 hd (show v<d.length by omega);have:=dH (hc.2 v (by omega)) (by omega);rw[Awl];omega
 unfold JF;rw[Awr ⟨rfl,by omega,by omega,by omega,by omega⟩,Awa];have:My d (c,()) d.length 0 d (List.replicate d.length []) []=some (d,M d 0 (C0 c),g0 c d.length):=by
  have:=A2 (f:=C3 d (c,()) d.length) (λv=>(v,d,Cs (λu=>Fv (W d u+0) (C0 c u)) [] d.length v,g0 c v)) (t:=(d,M d 0 (C0 c),g0 c d.length)) d.length (λv hv=>?_) ?_
  ·rw[<-Nt (λu=>Fv _ _)];exact this
  ·unfold C3 GX;obtain⟨e0,qm,qn⟩:=T3 hd hv;have hp:=hc.2 v hv;have e1:(c.getD v AyR.zero)=FR c v:=rfl;have e2:(d.getD v _).2.1=(W d v):=e0;simp only[Awa,e1,e2];rw[Hq hv,Awp,Awr (BS hv),Awr (show Ty.row _=true/\0<=(W d v:Int)/\(W d v)<=(W d v:Int)/\((1:Nat))*(W d v:Int)<=281474976710656/\(W d v:Int)<=9223372036854775807 from⟨rfl,by omega,by omega,by omega,by omega⟩),J7,Awr (BS hv),Awr (BS (by rw[hc.1];exact hv))];have hrl :=by have:=dH hp (by omega);omega
   have Hs:Mx v d d.length (c,()) (FR c v) ((FR c v).length) 0 d ((Cs (λu=>Fv (W d u+0) (C0 c u)) [] d.length v).set v (List.replicate (W d v) false)) (g0 c v)=some (d,Cs (λu=>Fv (W d u+0) (C0 c u)) [] d.length (v+1),g0 c (v+1)):=by
    have:=A2 (f:=C2 v d d.length (c,()) (FR c v) ((FR c v).length)) (λi=>(i,d,(Cs (λu=>Fv (W d u+0) (C0 c u)) [] d.length v).set v (Fv (W d v) λp=>((FR c v).take i).contains p),g0 c v++((FR c v).take i).map λp=>((v:Int),p,()))) (t:=(d,Cs (λu=>Fv (W d u+0) (C0 c u)) [] d.length (v+1),g0 c (v+1))) (FR c v).length (λi hi=>?_) ?_
    ·have e:List.replicate (W d v) false=Fv (W d v) λp=>((FR c v).take 0).contains p:=by
       rw[<-Y9];exact PR λp _=>by simp
     rw[e,show g0 c v=g0 c v++((FR c v).take 0).map _ by simp];exact this
    ·unfold C2 GV;have hpi:=hp i hi;obtain⟨p,hpp⟩:∃p:Nat,P8 (FR c v) i=p:=⟨(P8 (FR c v) i).toNat,by have:=hpi.1;omega⟩;have jY:p<W d v:=by have:=hpi.2.1;omega
     have e3:(FR c v).getD i AyN.zero=p:=hpp;have mj:=vU hp hi;rw[hpp]at mj;simp only[Awa,e3];rw[Hq hi,Awr (BS hi),Xb hd hv (r:=λp=>((FR c v).take i).contains p) (by rw[Awi,J7]) (by simp[J7,hv]) (by grind),Awr ⟨by have:=hpi.1;omega,jY,mj⟩,BA hi (by omega),List.set_set,Za];have e5:(Fv _ _)=Fv (W d v) λq=>((FR c v).take _).contains q:=PR λq _=>by rw[Ut hi,hpp,dk]
     rw[e5,A4  hi,AwY,<-Awh,show(FR c v).getD i 0=p from hpp];rfl
    ·unfold C2 GV;rw[IB,Awo,Awj (Awf _)];have e6:(Cs (λu=>Fv (W d u+0) (C0 c u)) [] _ v).set v (Fv (W d v) λp=>(FR c v).contains p)=Cs (λu=>Fv _ _) [] d.length _:=Pg _ _;have e7:g0 c v++(FR c v).map (λp=>((v:Int),p,()))=g0 c (v+1):=by
      unfold g0;rw[Axq];simp
     rw[e6,e7]
   rw[Hs,Av9,BA hv (by omega)]
  ·unfold C3 GX;rw[IB,Awo];have:Cs (λu=>Fv (W d u+0) (C0 c u)) [] d.length d.length=M d 0 (C0 c):=by
    exact Aw5 λv hv=>by grind
   rw[this]
 rw[this];rfl
theorem jr{d:Ayg}{c:Aym}(hd:AZ d)(hc:Iw d c){v p:Nat}(h:C0 c v p=true):v<d.length/\1<=p/\p<W d v:=by
 have hm :=by simpa [C0]using h
 have hv:v<d.length:=by
  rw[<-hc.1];rcases Awk v c.length with h1 |h1
  ·grind
  ·unfold FR at hm
   grind
 obtain⟨e0,qm,qn⟩:=T3 hd hv;have:=dJ (hc.2 v hv) hm;exact⟨hv,by omega,by omega⟩
theorem vR{d:Ayg}{c:Aym}(hd:AZ d)(hc:Iw d c):CI d (C0 c) (C0 c,g0 c d.length)/\eW (C0 c,g0 c d.length):=by
 refine⟨⟨λ_ _ h=>h,λv p h=>jr hd hc h,λx hx=>?_,?_⟩,λv p h=>?_⟩
 ·obtain⟨v,hv,hx⟩:=List.mem_flatMap.1 hx;obtain⟨q,hq,rfl⟩:=List.mem_map.1 hx;have hq1:=dJ (hc.2 v (List.mem_range.1 hv)) hq;refine⟨v,q.toNat,by grind,?_⟩;simp only[C0]
  grind
 ·have h1:=yv hd (C0 c);have h2:(g0 c _).length<=4096*d.length:=XJ λv hv=>by
   obtain⟨e0,qm,qn⟩:=T3 hd hv;have:=dH (hc.2 v hv) (by omega);rw[Awl];omega
  have:=hd.1;simp only;omega
 ·have:=jr hd hc h;exact List.mem_flatMap.2 ⟨v,List.mem_range.2 this.1,List.mem_map.2 ⟨p,by simpa [C0]using h,rfl⟩⟩
end Go.Proofs.X
namespace Go.Proofs.X
open Go Go.Va
set_option maxRecDepth 100000
def um(x y:Nat):Nat->Nat
 |0=>0
 |1=>x
 |_=>x+y
def ux{A:Type}(x y:AyZ A):Nat->AyZ A
 |0=>[]
 |1=>x
 |_=>x++y
theorem cx{a b:Ayi}(h0:1<=a.length)(ha:a.length<=100000000)(hb:b.length<=100000000):Ga [a,b]=some (a++b):=by
 unfold Ga;have oI:([a,b]).length=2:=rfl;have h1:JI [a,b] (([a,b]).length) 0 0=some (((a.length+b.length:Nat):Int)):=by
  have:=A2 (f:=Ck [a,b] (([a,b]).length)) (λk=>((um a.length b.length k),k)) (t:=(((a.length+b.length)))) 2 (λk hk=>?_) ?_
  ·exact this
  ·unfold Ck EC Gb;simp only[Awa];rw[oI,Hq hk,Awr (BS hk)]
   match k,hk with
   |0,_ =>
    simp;rw[show wI _=a.length from A3 (by simp[um]) (by omega),GL];rfl
   |1,_ =>
    simp;rw[show wI _=((a.length+b.length))from A3 (by simp[um]) (by omega),GL];rfl
  ·unfold Ck EC;rfl
 rw[h1,Av9,GL,show wI _=((a.length+b.length:Nat))from A3,show decide _=true from Jy,Awr ⟨by omega,by omega⟩,List.take_zero];have h2:JJ [a,b] (([a,b]).length) 0 []=some (a++b):=by
  have:=A2 (f:=Cl [a,b] (([a,b]).length)) (λk=>(k,ux a b k)) (t:=a++b) 2 (λk hk=>?_) ?_
  ·exact this
  ·unfold Cl ED;rw[oI,Hq hk,Awr (BS hk)]
   match k,hk with
   |0,_ =>
    rw[Awr (by simp[ux];omega)];rfl
   |1,_ =>
    rw[Awr (by simp[ux];omega)];rfl
  ·unfold Cl ED;rfl
 rw[h2];rfl
abbrev NX:Type:=List Ayq
def nk(v p:Nat):Ax5:=((v:Int),(p:Int),())
def nx(o:NX)(v p:Nat):Ayf:=Cx Aa AyQ o (nk v p)
def za(o:NX)(k x:Ax5):NX:=Dv Aa AyQ (Dv Aa AyQ o k (Cx Aa AyQ o k)) k (Cx Aa AyQ o k++[x])
theorem WN{v p u q:Nat}:nk v p=nk u q↔v=u/\p=q:=by
 constructor
 ·intro h;injection h with h1 h2;injection h2 with h2 _;omega
 ·grind
theorem uO(o:NX)(k x:Ax5)(v p:Nat):nx (za o k x) v p=bif Bq Aa (nk v p) k then Cx Aa AyQ o k++[x]else nx o v p:=by
 unfold nx za;rw[bh oP,bh oP]
 grind
theorem Rw{o:NX}{k x:Ax5}{v p:Nat}{y:Ax5}:y∈nx (za o k x) v p↔y∈nx o v p\/(nk v p=k/\y=x):=by
 rw[uO];cases hk:Bq _ _ k with
 |true =>
  have e:=(oP _ _).1 hk;rw[Awp,Axz,AwA];simp only[e,true_and];unfold nx;rw[e]
 |false =>
  have e:nk v p≠k:=λe=>by rw[(oP _ _).2 e]at hk;cases hk
  simp[e]
theorem kz{o:NX}{k x:Ax5}{v p N:Nat}(h:∀v p,(nx o v p).length<=N):(nx (za o k x) v p).length<=N+1:=by
 rw[uO];cases hk:Bq _ _ k with
 |true =>
  have e:=(oP _ _).1 hk;have:=h v p;unfold nx at this
  grind
 |false=>grind
theorem uq{o:NX}{a:Int}{b c:AyZ BN.V}{g:Int}{i:Ayg}{dd:AyZ AyG}{j:Ayn}{l:Ayf}{v p u q:Nat}(h:(nx o v p).length<=1000000) :
    CZ a b c g i dd j o l (v:Int) (p:Int) (u:Int) (q:Int)=some (za o (nk v p) (nk u q)):=by
 unfold CZ;have h':(Cx _ (.sl _) o (v,p,())).length<=1000000:=h;rw[Awr (by grind),Yr TL,TL];rfl
theorem uv{o:NX}{a:Int}{b c:AyZ BN.V}{g:Int}{i:Ayg}{dd:AyZ AyG}{j:Ayn}{l:Ayf}{v p u q:Nat}(h:(nx o v p).length<=1000000) :
    C1 a b c g i dd j o l (u:Int) (q:Int) (v:Int) (p:Int)=some (za o (nk v p) (nk u q)):=by
 unfold C1;have h':(Cx _ (.sl _) o (v,p,())).length<=1000000:=h;rw[Awr (by grind),Yr TL,TL];rfl
def Oy(d:Ayg)(h:Nat->Nat->Bool):Sg->Prop
 |.co _=>True
 |.va v l n=>nN d h v l/\nN d h v (l+n)
def SP(B1 B2:AyZ Bt)(h:Nat->Nat->Bool):Prop:=∀p,1<=p->p<B1.length->(SD B1 h p=true->ki (Sx B2 p)=true->SD B2 h p=true)/\(SD B2 h p=true->ki (Sx B1 p)=true->SD B1 h p=true)
def Ab6(d:Ayg)(B1 B2:AyZ Bt)(h:Nat->Nat->Bool):Prop:=(∀s∈AY B1++AY B2,Oy d h s)/\SP B1 B2 h
inductive Tl (d:Ayg) (B1 B2:List Bt) (p:Nat) (s:SC) (o:NX):SC->NX->Prop
 |one (v a:Nat):fst B1 p=true->fst B2 p=false->Sx B2 p=.va v a->v<d.length->1<=a->a<W d v->Tl d B1 B2 p s o (Jt d s v a) o
 |Xm (v a:Nat):fst B2 p=true->fst B1 p=false->Sx B1 p=.va v a->v<d.length->1<=a->a<W d v->Tl d B1 B2 p s o (Jt d s v a) o
 |both (v a u b:Nat):fst B1 p=false->fst B2 p=false->Sx B1 p=.va v a->Sx B2 p=.va u b->v<d.length->u<d.length->Tl d B1 B2 p s o s (za (za o (nk v a) (nk u b)) (nk u b) (nk v a))
 |none:(fst B1 p=true/\fst B2 p=true\/(∃b,Sx B1 p=.co b/\fst B1 p=false)\/∃b,Sx B2 p=.co b/\fst B2 p=false)->Tl d B1 B2 p s o s o
theorem AdF{d:Ayg}(hd:AZ d){B1 B2:AyZ Bt}(h1:Ce d B1)(h2:Ce d B2)(hl:B1.length=B2.length){p:Nat}(hp:p<B1.length){s:SC}{o:NX}(hs:s.2.length<=1000000)(hn:∀v p,(nx o v p).length<=900000){a:Int}{dd:AyZ AyG} :
    ∃s' o',DD a (Wg (AY B1)) (Wg (AY B2)) (p:Int) d dd (M d 0 s.1) o s.2=some (d,M d 0 s'.1,o',s'.2)/\Tl d B1 B2 p s o s' o':=by
 unfold DD GR Np;rw[XS,XS,Awr (BS hp),Awr (BS (by omega))];simp only[Awa];rcases TU h1 hp with ⟨f1,e1⟩|⟨f1,⟨⟨b1,c1⟩,e1⟩|⟨v,x,c1,hv,YI,jl,e1⟩⟩<;>rcases TU h2 (show p<B2.length by omega)with ⟨f2,e2⟩|⟨f2,⟨⟨b2,c2⟩,e2⟩|⟨u,y,c2,hu,hy1,hy2,e2⟩⟩<;>rw[e1,e2]
 ·exact⟨s,o,rfl,.none (.inl ⟨f1,f2⟩)⟩
 ·exact⟨s,o,rfl,.none (.inr (.inr ⟨b2,c2,f2⟩))⟩
 ·refine⟨Jt d s u y,o,?_,.one u y f1 f2 c2 hu hy1 hy2⟩;rw[Pu hd hu s hs];rfl
 ·exact⟨s,o,rfl,.none (.inr (.inl ⟨b1,c1,f1⟩))⟩
 ·exact⟨s,o,rfl,.none (.inr (.inl ⟨b1,c1,f1⟩))⟩
 ·exact⟨s,o,rfl,.none (.inr (.inl ⟨b1,c1,f1⟩))⟩
 ·refine⟨Jt d s v x,o,?_,.Xm v x f2 f1 c1 hv YI jl⟩;rw[Pu hd hv s hs];rfl
 ·exact⟨s,o,rfl,.none (.inr (.inr ⟨b2,c2,f2⟩))⟩
 ·refine⟨s,za _ _ _,?_,.both v x u y f1 f2 c1 c2 hv hu⟩;show(CZ a _ _ _ d dd _ o _ v x u y).bind (λo=>(C1 a _ _ _ d dd _ o _ v x u y).bind _)=_;rw[uq (by grind),Av9,uv (by have:=kz (k:=nk v x) (x:=nk u y) (v:=u) (p:=y) hn;omega),Av9]
def NJ(d:Ayg)(h:Nat->Nat->Bool)(o:NX):Prop:=∀v p u q:Nat,nk u q∈nx o v p->h v p=true->nN d h u q
def NV(d:Ayg)(o:NX):Prop:=∀v p x,x∈nx o v p->∃u q:Nat,x=nk u q/\u<d.length
def RS(B1 B2:AyZ Bt)(f:Nat->Nat->Bool)(o:NX)(p:Nat):Prop :=
 (fst B1 p=true->fst B2 p=false->∀v a,Sx B2 p=.va v a->f v a=true)/\(fst B2 p=true->fst B1 p=false->∀v a,Sx B1 p=.va v a->f v a=true) /\
 (fst B1 p=false->fst B2 p=false->∀v a u b,Sx B1 p=.va v a->Sx B2 p=.va u b->nk u b∈nx o v a/\nk v a∈nx o u b)
theorem RS.mono{B1 B2:AyZ Bt}{f f':Nat->Nat->Bool}{o o':NX}{p:Nat}(h:RS B1 B2 f o p)(hf:LL f f')(ho:∀v p x,x∈nx o v p->x∈nx o' v p):RS B1 B2 f' o' p :=
 ⟨λa b v x c=>hf v x (h.1 a b v x c),λa b v x c=>hf v x (h.2.1 a b v x c),λa b v x u y c e=>⟨ho _ _ _ (h.2.2 a b v x u y c e).1,ho _ _ _ (h.2.2 a b v x u y c e).2⟩⟩
structure LI (d:Ayg) (f0:Nat->Nat->Bool) (s:SC) (o:NX) (N:Nat):Prop where
 ci:CI d f0 s
 todo:eW s
 nv:NV d o
 nl:∀v p,(nx o v p).length<=N
theorem zi{d:Ayg}{B1 B2:AyZ Bt}{p:Nat}{s s':SC}{o o':NX}{f0:Nat->Nat->Bool}{N:Nat}(VG:1<=p)(hp:p<B1.length)(h:LI d f0 s o N)(st:Tl d B1 B2 p s o s' o') :
    LI d f0 s' o' (N+2)/\LL s.1 s'.1/\(∀v p x,x∈nx o v p->x∈nx o' v p)/\RS B1 B2 s'.1 o' p/\∀h,SP B1 B2 h->LL s.1 h->NJ d h o->LL s'.1 h/\NJ d h o':=by
 have ct1:∀{h:Nat->Nat->Bool},fst B1 p=true->SD B1 h p=true:=λe=>by simp[SD,e]
 have ct2:∀{h:Nat->Nat->Bool},fst B2 p=true->SD B2 h p=true:=λe=>by simp[SD,e]
 have no1:∀{h:Nat->Nat->Bool} {v a:Nat},fst B1 p=false->Sx B1 p=.va v a->SD B1 h p=h v a:=λe c=>by simp[SD,e,c,yE]
 have no2:∀{h:Nat->Nat->Bool} {v a:Nat},fst B2 p=false->Sx B2 p=.va v a->SD B2 h p=h v a:=λe c=>by simp[SD,e,c,yE]
 have nl2:∀v p,(nx o v p).length<=N+2:=λv p=>by have:=h.nl v p;omega
 cases st with
 |one v a f1 f2 c2 hv l6 ha2 =>
  refine⟨⟨h.ci.cut hv,h.todo.cut,h.nv,nl2⟩,UG s v a,λ_ _ _ hx=>hx,⟨λ_ _ u b c=>?_,λe _=>(by grind),λe=>(by grind)⟩,λg hg hu hj=>⟨Vu hu λ_ _=>?_,hj⟩⟩
  ·rw[c2]at c;injection c with e1 e2;subst e1;subst e2;exact Vt s v a l6 ha2
  ·have:=(hg p VG hp).1 (ct1 f1) (by rw[c2];rfl);rwa [no2 f2 c2]at this
 |Xm v a f2 f1 c1 hv l6 ha2 =>
  refine⟨⟨h.ci.cut hv,h.todo.cut,h.nv,nl2⟩,UG s v a,λ_ _ _ hx=>hx,⟨λe=>(by grind),λ_ _ u b c=>?_,λ_ e=>(by grind)⟩,λg hg hu hj=>⟨Vu hu λ_ _=>?_,hj⟩⟩
  ·rw[c1]at c;injection c with e1 e2;subst e1;subst e2;exact Vt s v a l6 ha2
  ·have:=(hg p VG hp).2 (ct2 f2) (by rw[c1];rfl);rwa [no1 f1 c1]at this
 |both v a u b f1 f2 c1 c2 hv hu =>
  refine⟨⟨h.ci,h.todo,λw q x hx=>?_,λw q=>?_⟩,λ_ _ h=>h,λw q x hx=>Rw.2 (.inl (Rw.2 (.inl hx))),⟨λe=>(by grind),λe=>(by grind),λ_ _ v' a' u' b' e1 e2=>?_⟩,λg hg TK hj=>⟨TK,λw q w' q' hm hh=>?_⟩⟩
  ·rcases Rw.1 hx with hx |⟨_,rfl⟩
   ·rcases Rw.1 hx with hx |⟨_,rfl⟩
    ·exact h.nv w q x hx
    ·grind
   ·grind
  ·exact kz λw q=>kz h.nl
  ·rw[c1]at e1;injection e1 with q1 q2;subst q1;subst q2;rw[c2]at e2;injection e2 with q1 q2;subst q1;subst q2;exact⟨Rw.2 (.inl (Rw.2 (.inr ⟨rfl,rfl⟩))),Rw.2 (.inr ⟨rfl,rfl⟩)⟩
  ·have hs:=hg p VG hp;rw[no1 f1 c1,no2 f2 c2]at hs;rcases Rw.1 hm with hm |⟨e1,e2⟩
   ·rcases Rw.1 hm with hm |⟨e1,e2⟩
    ·exact hj w q w' q' hm hh
    ·obtain⟨rfl,rfl⟩:=WN.1 e1;obtain⟨rfl,rfl⟩:=WN.1 e2;exact λ_ _=>hs.1 hh (by rw[c2];rfl)
   ·obtain⟨rfl,rfl⟩:=WN.1 e1;obtain⟨rfl,rfl⟩:=WN.1 e2;exact λ_ _=>hs.2 hh (by rw[c1];rfl)
 |none hc =>
  refine⟨⟨h.ci,h.todo,h.nv,nl2⟩,λ_ _ h=>h,λ_ _ _ hx=>hx,⟨λe1 e2 v a c=>?_,λe1 e2 v a c=>?_,λe1 e2 v a u b c c'=>?_⟩,λg _ hu hj=>⟨hu,hj⟩⟩
  ·grind
  ·grind
  grind
end Go.Proofs.X
