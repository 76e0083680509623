import Derived.KernelRfl
import Derived.Test.YtccjkamgpblklaaGreatK3
set_option linter.unusedVariables false
set_option linter.unusedSimpArgs false
namespace Go.Proofs.X
open Go Go.Va Go.Proofs.Tryz
set_option maxRecDepth 100000
noncomputable section
abbrev nM:=eN [(159,AcA)] {Bv:=[(3,{Bb:=[0,4,5],Cy:=[(4,false,.row [] 122 Ae true)]}),(7,[0,4,6,7]),(12,[0,4,5,6])],CM:=[(3,[4]),(7,{Bb:=[0,4,6,7],Ph:=[(7,false,AyV)]}),(12,[0,4,5,6])],B5:=[(8,[0,4,6,7]),(13,[0,4,5,6]),(15,[0,4,6])],EO:=[(8,[0,4,6,7]),(13,[0,4,5,6]),(15,[0,4,5,6])]}
def AbZ a (z_:Int×Ayi):=sT 121 [(0,V9 a),(4,.AA 0),(5,dI z_.1)] [CJ z_.2]
def AbF(a:Ayf):=λ(b:Ayi)=>xE 0 121 [(4,.AA 0)] [CJ b]
def AhT a c d e:=sT 121 (bX a c e) [CJ d]
def Afs a (c:Int) (d:Ayi) (e:Int):=λ(g:Ayz)=>xN 121 [(0,V9 a),(4,.AA 0),(6,dI g.1)] [CJ g.2]
def AhS a c d (z_:Int):=sT 121 (bX a c z_) [CJ d]
def Afr a c d:=λ(i:Int)=>xE 4 121 (bX a c i) [CJ d]
def AhR a c j d:=sT 121 (bX a c j) [CJ d]
def Afq a c j d:=Sum.elim (λ(k:Unit)=>xN 121 (bX a c j) [CJ d]) (λ(l:Unit)=>xE 4 121 (bX a c j) [CJ d])
def MX(a:Ayf)(c j:Int)(d:Ayi):Ay0 (Unit⊕Unit):=
 bif decide (j<(a.length:Int))then
 if 0<=j/\j<a.length then
 if 0<=c/\c<a.length then
 bif (a.getD j.toNat Aa.zero).1==(a.getD c.toNat Aa.zero).1 then
 if 0<=j/\j<a.length then
 if 0<=(wI (j-1))/\(wI (j-1))<a.length then
 bif (a.getD j.toNat Aa.zero).2.1==(wI ((a.getD (wI (j-1)).toNat Aa.zero).2.1+1))then
 some (.inl ())
 else
 some (.inr ())
 else none
 else none
 else
 some (.inr ())
 else none
 else none
 else
 some (.inr ())
theorem AkB a c j d:AX nM 0 13 (sb (sb (cd f138 120) 26) 56) 2 (AhR a c j d) (MX a c j d) (Afq a c j d):=by
 unfold AX;simp only[MX,Ax1];kernel_rfl
def NI(a:Ayf)(c:Int)(d:Ayi)(j:Int):Ay0 (Int⊕Int):=
 (MX a c j d).bind (Sum.elim (λk=>some (.inl (wI (j+1)))) (λl=>some (.inr j)))
def KD a c d (z_:Int):=NI a c d z_
def MY a c d j:=fix (KD a c d) j
theorem AkC a c d:A8 nM 0 12 (sb (cd f138 120) 26) 28 (AhS a c d) (KD a c d) (Afr a c d):=by
 intro _;simp(disch:=refine id ?_;kernel_rfl) only[KD,NI,Ax1,A7 (AkB ..) (K:=L5 nM 0 12)];kernel_rfl
def AhQ a d (z_:Int×Ayd):=sT 121 (nu a z_.1) [CJ d,Wa z_.2]
def Afp a d:=λ(n:Ayv)=>xE 2 121 [(0,V9 a),(4,.AA 0),(6,dI n.1),(7,Bl n.2)] [CJ d]
def AhP a o d q:=sT 121 (nu a o) [CJ d,Wa q]
def Afo a o d q:=Sum.elim (λ(s:Unit)=>xN 121 (nu a o) [CJ d,Wa q]) (λ(t:Unit)=>xE 2 121 (nu a o) [CJ d,Wa q])
def MW(a:Ayf)(o:Int)(d:Ayi)(q:Ayd):Ay0 (Unit⊕Unit):=
 bif decide (o<(a.length:Int))then
 if 0<=o/\o<a.length then
 bif decide ((a.getD o.toNat Aa.zero).1<0)then
 some (.inl ())
 else
 some (.inr ())
 else none
 else
 some (.inr ())
theorem Akz a o d q:AX nM 0 8 (sb (sb (cd f138 120) 26) 104) 2 (AhP a o d q) (MW a o d q) (Afo a o d q):=by
 unfold AX;simp only[MW,Ax1];kernel_rfl
def NH(a:Ayf)(d:Ayi)(o:Int)(q:Ayd):Ay0 (Ayv⊕Ayv):=
 (MW a o d q).bind (Sum.elim (λs=>if 0<=o/\o<a.length then
 if(q.length+([IntKind.u8.wrap (a.getD o.toNat Aa.zero).2.1]:Ayd).length)*1<=140737488355328 then
 some (.inl (wI (o+1),q++([IntKind.u8.wrap (a.getD o.toNat Aa.zero).2.1]:Ayd)))
 else none
 else none) (λt=>some (.inr (o,q))))
def KC a d (z_:Int×Ayd):=NH a d z_.1 z_.2
def PX a d o q:=fix (KC a d) (o,q)
theorem AkA a d:A8 nM 0 7 (sb (cd f138 120) 26) 52 (AhQ a d) (KC a d) (Afp a d):=by
 intro _;simp(disch:=refine id ?_;kernel_rfl) only[KC,NH,Ax1,A7 (Akz ..) (K:=L5 nM 0 7)];kernel_rfl
def MZ(a:Ayf)(c:Int)(d:Ayi)(e:Int):Ay0 Ayz:=
 if 0<=c/\c<a.length then
 bif decide ((a.getD c.toNat Aa.zero).1<0)then
 if 0<=c/\c<a.length then
 (PX a d e ([IntKind.u8.wrap (a.getD c.toNat Aa.zero).2.1]:Ayd)).bind λn=>(Hv n.2).bind λu=>if(d.length+([(-1,0,u.1,(u.1,u.2.2,()),())]:Ayi).length)*56<=140737488355328 then
 some (n.1,d++([(-1,0,u.1,(u.1,u.2.2,()),())]:Ayi))
 else none
 else none
 else
 (MY a c d e).bind λi=>if 0<=c/\c<a.length then
 if 0<=c/\c<a.length then
 if(d.length+([((a.getD c.toNat Aa.zero).1,(a.getD c.toNat Aa.zero).2.1,wI (i-c),(0,([]:Ayd),()),())]:Ayi).length)*56<=140737488355328 then
 some (i,d++([((a.getD c.toNat Aa.zero).1,(a.getD c.toNat Aa.zero).2.1,wI (i-c),(0,([]:Ayd),()),())]:Ayi))
 else none
 else none
 else none
 else none
theorem AkD a c d e:AX nM 0 15 (cd f138 120) 26 (AhT a c d e) (MZ a c d e) (Afs a c d e):=by
 unfold AX;simp(disch:=refine id ?_;kernel_rfl) only[MZ,Ax1,PX,AO (AkA _ _) (K:=OZ nM 0 15),MY,AO (AkC _ _ _) (K:=OZ nM 0 15)];kernel_rfl
def MV(a:Ayf)(c:Int)(d:Ayi):Ay0 (Ayz⊕Ayi):=
 bif decide (c<(a.length:Int))then
 (MZ a c d (wI (c+1))).bind λg=>some (.inl (g.1,g.2))
 else
 some (.inr d)
def Jc a (z_:Int×Ayi):=MV a z_.1 z_.2
def OJ a c d:=fix (Jc a) (c,d)
theorem Ack a:A8 nM 0 3 (code f138) 60 (AbZ a) (Jc a) (AbF a):=by
 intro _;simp(disch:=refine id ?_;kernel_rfl) only[Jc,MV,Ax1,A7 (AkD ..) (K:=L5 nM 0 3)];kernel_rfl
def Ou(a:Ayf):Ay0 Ayx:=
 (OJ a 0 ([]:Ayi)).bind λb=>some (decide ((b.length:Int)<=2000),b)
def AmP:=Ff [.d AyQ] [⟨[.Aw [] AyQ],[],Ayx,λp=>Ou p.1.1,λr=>(.cons (.AA 0) (.cons (dB r.1) .nil),[CJ r.2])⟩]
theorem rV:Am prog 138 AmP:=Ax (fn:=f138) ⟨⟨nM,pk ⟨fu,trivial⟩,λ_ R K=>by
 simp(disch:=refine id ?_;kernel_rfl) only[Ou,Ax2,OJ,AO (Ack _) (K:=A6 nM f138 0 R K)];kernel_rfl⟩,trivial⟩
abbrev E41:=eN [(62,c62),(137,AmO),(138,AmP)] {Ao:=false,Bv:=[(6,{Bb:=[0,3,6,7,8],Cy:=[(6,false,.row [] 123 AyQ false),(7,false,.row [] 122 Ae true)]}),(10,{Bb:=[0,3,6,8,9,10],Cy:=[(9,false,.row [] 123 AyQ false)]})],CM:=[(6,[4,5,7]),(10,{Bb:=[0,3,6,8,9],Ph:=[(9,false,.sl AyQ)]})],jo:=[(0,.row [] 122 Ae true)]}
def AhV a b (z_:Int×Ayo×Ayi):=sT 77 [(0,Aj a),(3,Aq),(6,.AA 1),(7,.AA 2),(8,dI z_.1)] [.box (NP b),XU z_.2.1,CJ z_.2.2]
def Afu(a:Ayg)(b:Ax4):=Sum.elim (λ(c:Unit)=>xR 77 [(4,.zs),(5,dB false)] []) (λ(d:Ayi)=>xE 0 77 Uw [CJ d])
def AhU a e b g (z_:Int×Ayo):=sT 77 [(0,Aj a),(3,Aq),(6,.AA 1),(8,dI e),(9,.AA 2),(10,dI z_.1)] [.box (NP b),XU g,XU z_.2]
def Aft a e b g:=λ(i:Ayo)=>xE 2 77 [(0,Aj a),(3,Aq),(6,.AA 1),(8,dI e),(9,M6 i)] [.box (NP b),XU g]
def IW(a:Ayg)(e:Int)(b:Ax4)(g:Ayo)(j:Int)(k:Ayo):Ay0 ((Int×Ayo)⊕Ayo):=
 if 0<=e/\e<b.1.length then
 bif decide (j<((b.1.getD e.toNat Ad.zero).2.2.2.2.2.1.length:Int))then
 if 0<=e/\e<b.1.length then
 if 0<=j/\j<(b.1.getD e.toNat Ad.zero).2.2.2.2.2.1.length then
 if(0:Int)<=((b.1.getD e.toNat Ad.zero).2.2.2.2.2.1.getD j.toNat AyN.zero)/\((b.1.getD e.toNat Ad.zero).2.2.2.2.2.1.getD j.toNat AyN.zero)<(g.length:Int)then
 if(k.length+([g.getD ((b.1.getD e.toNat Ad.zero).2.2.2.2.2.1.getD j.toNat AyN.zero).toNat AyQ.zero]:Ayo).length)*24<=140737488355328 then
 some (.inl (wI (j+1),k++([g.getD ((b.1.getD e.toNat Ad.zero).2.2.2.2.2.1.getD j.toNat AyN.zero).toNat AyQ.zero]:Ayo)))
 else none
 else none
 else none
 else none
 else
 some (.inr k)
 else none
def D8 a e b g (z_:Int×Ayo):=IW a e b g z_.1 z_.2
def Lt a e b g j k:=fix (D8 a e b g) (j,k)
theorem AkE a e b g:A8 E41 0 10 (cd f96 500) 202 (AhU a e b g) (D8 a e b g) (Aft a e b g):=by
 intro _;simp only[D8,IW,Ax1];kernel_rfl
def MI(a:Ayg)(b:Ax4)(e:Int)(g:Ayo)(l:Ayi):Ay0 ((Int×Ayo×Ayi)⊕(Unit⊕Ayi)):=
 bif decide (e<(b.1.length:Int))then
 (Lt a e b g 0 ([]:Ayo)).bind λi=>if 0<=e/\e<b.1.length then
 (Ov a (b.1.getD e.toNat Ad.zero) i).bind λn=>(Ou n).bind λo=>bif !o.1 then
 some (.inr (.inl ()))
 else
 if(g.length+([n]:Ayo).length)*24<=140737488355328 then
 some (.inl (wI (e+1),g++([n]:Ayo),o.2))
 else none
 else none
 else
 some (.inr (.inr l))
def IX a b (z_:Int×Ayo×Ayi):=MI a b z_.1 z_.2.1 z_.2.2
def OI a b e g l:=fix (IX a b) (e,g,l)
theorem AkF a b:A8 E41 0 6 (code f96) 250 (AhV a b) (IX a b) (Afu a b):=by
 intro _;simp(disch:=refine id ?_;kernel_rfl) only[IX,MI,Ax1,Lt,AO (AkE _ _ _ _) (K:=L5 E41 0 6)];kernel_rfl
def Gf(a:Ayg)(b:Ax4):Ay0 Ayx:=
 (B6 a b).bind λq=>bif decide (q<0)then
 some (false,([]:Ayi))
 else
 (OI a b 0 ([]:Ayo) ([]:Ayi)).bind (Sum.elim (λc=>some (false,([]:Ayi))) (λd=>some (true,d)))
def c96:=Ff [.d AyT,.d AJ] [⟨[.Aw [] AyT,.Aw [] AJ],[],Ayx,λp=>Gf p.1.1 p.1.2.1,λr=>(.cons (.AA 0) (.cons (dB r.1) .nil),[CJ r.2])⟩]
theorem x8:Am prog 96 c96:=Ax (fn:=f96) ⟨⟨E41,pk ⟨Vm,rU,rV,trivial⟩,λ_ R K=>by
 simp(disch:=refine id ?_;kernel_rfl) only[Gf,Ax2,OI,AO (AkF _ _) (K:=A6 E41 f96 0 R K)];kernel_rfl⟩,trivial⟩
abbrev E42:=eN [(96,c96)] {Bv:=[(3,{Bb:=[0,1,6,7],Cy:=[(6,false,.row [] 71 AyS true)]})],CM:=[(3,[4,5,6])],B5:=[(8,[0,1,6,7,8,10,44])],EO:=[(8,[0,1,6,7,8,9,10,11])]}
def AhW a b (z_:Int×Ayp):=sT 52 [(0,Aj a),(1,Cu b),(6,.AA 0),(7,dI z_.1)] [M9 z_.2]
def Afv(a:Ayg)(b:Ayj):=Sum.elim (λ(c:Ayp)=>xR 52 [(4,.AA 0),(5,dB false),(6,.AA 0)] [M9 c]) (λ(d:Ayp)=>xE 0 52 [(6,.AA 0)] [M9 d])
def Aai a b e (g:Ayx) (i:Ayx) j:=sT 52 [(0,Aj a),(1,Cu b),(6,.AA 0),(7,dI e),(8,.AA 1),(9,dB g.1),(10,.AA 2),(11,dB i.1)] [M9 j,CJ g.2,CJ i.2]
def qM(a:Ayg)(b:Ayj)(e:Int)(g i:Ayx)(j:Ayp)(m0:Bool):Ex×St:=xN 52 [(0,Aj a),(1,Cu b),(6,.AA 0),(7,dI e),(8,.AA 1),(10,.AA 2),(44,dB m0)] [M9 j,CJ g.2,CJ i.2]
theorem AkG a b e g i j:S1 E42 0 8 (cd f63 116) (pt 204) (Aai a b e g i j)=some (qM a b e g i j ((!g.1)||(!i.1))):=by
 refine .trans (b:=
 bif !g.1 then
 some (qM a b e g i j true)
 else
 some (qM a b e g i j (!i.1))) (by kernel_rfl) ?_
 cases (!g.1);rfl;rfl
def M1(a:Ayg)(b:Ayj)(e:Int)(j:Ayp):Ay0 ((Int×Ayp)⊕(Ayp⊕Ayp)):=
 bif decide (e<(b.length:Int))then
 if 0<=e/\e<b.length then
 (Gf a (b.getD e.toNat Af.zero).2.2.1).bind λg=>if 0<=e/\e<b.length then
 (Gf a (b.getD e.toNat Af.zero).2.2.2.1).bind λi=>Np (Aai a b e g i j) (
 bif (!g.1)||(!i.1)then
 some (.inr (.inl j))
 else
 if(j.length+([g.2,i.2]:Ayp).length)*24<=140737488355328 then
 some (.inl (wI (e+1),j++([g.2,i.2]:Ayp)))
 else none)
 else none
 else none
 else
 some (.inr (.inr j))
def Jo a b (z_:Int×Ayp):=M1 a b z_.1 z_.2
def Sb a b e j:=fix (Jo a b) (e,j)
theorem AkH a b:A8 E42 0 3 (code f63) 58 (AhW a b) (Jo a b) (Afv a b):=by
 intro _;simp(disch:=refine id ?_;kernel_rfl) only[Jo,M1,Ax1,EM (AkG ..) (K:=L5 E42 0 3)];kernel_rfl
def O5(a:Ayg)(b:Ayj):Ay0 (Bool×Ayp):=
 (Sb a b 0 ([]:Ayp)).bind (Sum.elim (λc=>some (false,c)) (λd=>some (true,d)))
def c63:=Ff [.d AyT,.d AyW] [⟨[.Aw [] AyT,.Aw [] AyW],[],Bool×Ayp,λp=>O5 p.1.1 p.1.2.1,λr=>(.cons (.AA 0) (.cons (dB r.1) .nil),[M9 r.2])⟩]
theorem xO:Am prog 63 c63:=Ax (fn:=f63) ⟨⟨E42,pk ⟨x8,trivial⟩,λ_ R K=>by
 simp(disch:=refine id ?_;kernel_rfl) only[O5,Ax2,Sb,AO (AkH _ _) (K:=A6 E42 f63 0 R K)];kernel_rfl⟩,trivial⟩
abbrev E43:=eN [(139,xi)] {Bv:=[(3,{Bb:=[0,3,4],Cy:=[(3,false,.row [] 129 Aa true)]}),(6,{Bb:=[0,3,4,5],Cy:=[(3,false,.row [] 129 Aa true)]})],CM:=[(3,[3]),(6,[0,3,4])],B5:=[(7,[0,3,4,5])],EO:=[(7,[0,3,4,5])]}
def AhZ a (z_:Int×Ayf):=sT 57 [(0,FF a),(3,.AA 0),(4,dI z_.1)] [FJ z_.2]
def Afy(a:Ayi):=λ(b:Ayf)=>xE 0 57 [(3,.AA 0)] [FJ b]
def AhY a c (z_:Int×Ayf):=sT 57 (wx a c z_.1) [FJ z_.2]
def Afx a c:=λ(d:Ayf)=>xE 2 57 [(0,FF a),(3,.AA 0),(4,dI c)] [FJ d]
def AhX a c e g:=sT 57 (wx a c e) [FJ g]
def Afw a c e (g:Ayf):=λ(i:Ayf)=>xN 57 (wx a c e) [FJ i]
def MU(a:Ayi)(c e:Int)(g:Ayf):Ay0 Ayf:=
 if 0<=c/\c<a.length then
 bif decide ((a.getD c.toNat Ae.zero).1<0)then
 if 0<=c/\c<a.length then
 (GF (a.getD c.toNat Ae.zero).2.2.2.1 e).bind λj=>if(g.length+([(-1,wI j,())]:Ayf).length)*16<=140737488355328 then
 some (g++([(-1,wI j,())]:Ayf))
 else none
 else none
 else
 if 0<=c/\c<a.length then
 if 0<=c/\c<a.length then
 if(g.length+([((a.getD c.toNat Ae.zero).1,wI ((a.getD c.toNat Ae.zero).2.1+e),())]:Ayf).length)*16<=140737488355328 then
 some (g++([((a.getD c.toNat Ae.zero).1,wI ((a.getD c.toNat Ae.zero).2.1+e),())]:Ayf))
 else none
 else none
 else none
 else none
theorem AkI a c e g:AX E43 0 7 (sb (cd f97 116) 100) 6 (AhX a c e g) (MU a c e g) (Afw a c e g):=by
 unfold AX;simp only[MU,Ax1];kernel_rfl
def KA(a:Ayi)(c e:Int)(g:Ayf):Ay0 (AyI⊕Ayf):=
 if 0<=c/\c<a.length then
 bif decide (e<(a.getD c.toNat Ae.zero).2.2.1)then
 (MU a c e g).bind λi=>some (.inl (wI (e+1),i))
 else
 some (.inr g)
 else none
def EW a c (z_:Int×Ayf):=KA a c z_.1 z_.2
def PV a c e g:=fix (EW a c) (e,g)
theorem AkJ a c:A8 E43 0 6 (cd f97 116) 50 (AhY a c) (EW a c) (Afx a c):=by
 intro _;simp(disch:=refine id ?_;kernel_rfl) only[EW,KA,Ax1,A7 (AkI ..) (K:=L5 E43 0 6)];kernel_rfl
def KB(a:Ayi)(c:Int)(k:Ayf):Ay0 (AyI⊕Ayf):=
 bif decide (c<(a.length:Int))then
 (PV a c 0 k).bind λd=>some (.inl (wI (c+1),d))
 else
 some (.inr k)
def Dp a (z_:Int×Ayf):=KB a z_.1 z_.2
def PW a c k:=fix (Dp a) (c,k)
theorem AkK a:A8 E43 0 3 (code f97) 58 (AhZ a) (Dp a) (Afy a):=by
 intro _;simp(disch:=refine id ?_;kernel_rfl) only[Dp,KB,Ax1,PV,AO (AkJ _ _) (K:=L5 E43 0 3)];kernel_rfl
def Ot(a:Ayi):Ay0 Ayf:=
 (PW a 0 ([]:Ayf)).bind λb=>some b
def c97:=Ff [.d AyS] [⟨[.Aw [] AyS],[],Ayf,λp=>Ot p.1.1,λr=>(.AA 0,[FJ r])⟩]
theorem x9:Am prog 97 c97:=Ax (fn:=f97) ⟨⟨E43,pk ⟨X7,trivial⟩,λ_ R K=>by
 simp(disch:=refine id ?_;kernel_rfl) only[Ot,Ax2,PW,AO (AkK _) (K:=A6 E43 f97 0 R K)];kernel_rfl⟩,trivial⟩
abbrev E44:=eN [(97,c97)] {Bv:=[(3,{Bb:=[0,2,3,4],Cy:=[(3,true,.row [1] 4 .bool true)]}),(6,{Bb:=[0,2,3,4,5],Cy:=[(3,true,.row [1] 4 .bool true)]})],CM:=[(3,[2,3]),(6,[0,2,3,4])]}
def Ah1 a b (z_:Int×Aye):=sT 32 [(0,FF a),(2,Aq),(3,Ay),(4,dI z_.1)] (ny b z_.2)
def AfA(a:Ayi) b:=λ(c:Aye)=>xE 0 32 [(2,Aq),(3,Ay)] (ny b c)
def Ah0 a d b (z_:Int×Aye):=sT 32 [(0,FF a),(2,Aq),(3,Ay),(4,dI d),(5,dI z_.1)] (ny b z_.2)
def Afz a d b:=λ(e:Aye)=>xE 2 32 [(0,FF a),(2,Aq),(3,Ay),(4,dI d)] (ny b e)
def KH(a:Ayi)(d:Int)(b:Ayf)(g:Int)(i:Aye):Ay0 ((Int×Aye)⊕Aye):=
 if 0<=d/\d<a.length then
 bif decide (g<(a.getD d.toNat Ae.zero).2.2.1)then
 if(i.length+([g==0]:Aye).length)*1<=140737488355328 then
 some (.inl (wI (g+1),i++([g==0]:Aye)))
 else none
 else
 some (.inr i)
 else none
def Fa a d b (z_:Int×Aye):=KH a d b z_.1 z_.2
def P1 a d b g i:=fix (Fa a d b) (g,i)
theorem AkL a d b:A8 E44 0 6 (cd f64 116) 50 (Ah0 a d b) (Fa a d b) (Afz a d b):=by
 intro _;simp only[Fa,KH,Ax1];kernel_rfl
def KI(a:Ayi)(b:Ayf)(d:Int)(j:Aye):Ay0 ((Int×Aye)⊕Aye):=
 bif decide (d<(a.length:Int))then
 (P1 a d b 0 j).bind λe=>some (.inl (wI (d+1),e))
 else
 some (.inr j)
def Fb a b (z_:Int×Aye):=KI a b z_.1 z_.2
def P2 a b d j:=fix (Fb a b) (d,j)
theorem AkM a b:A8 E44 0 3 (code f64) 58 (Ah1 a b) (Fb a b) (AfA a b):=by
 intro _;simp(disch:=refine id ?_;kernel_rfl) only[Fb,KI,Ax1,P1,AO (AkL _ _ _) (K:=L5 E44 0 3)];kernel_rfl
def Mb(a:Ayi):Ay0 (Ayf×Aye):=
 (Ot a).bind λb=>(P2 a b 0 ([]:Aye)).bind λc=>some (b,c)
def c64:=Ff [.d AyS] [⟨[.Aw [] AyS],[],Ayf×Aye,λp=>Mb p.1.1,λr=>(.pr (.AA 0) (.pr (.AA 1) .u),[FJ r.1,LK r.2])⟩]
theorem xP:Am prog 64 c64:=Ax (fn:=f64) ⟨⟨E44,pk ⟨x9,trivial⟩,λ_ R K=>by
 simp(disch:=refine id ?_;kernel_rfl) only[Mb,Ax2,P2,AO (AkM _ _) (K:=A6 E44 f64 0 R K)];kernel_rfl⟩,trivial⟩
abbrev E45:=eN [] {}
def F0(a:Ayc)(b:Ayn)(c:Int):Ay0 Bool:=
 if 0<=c/\c<a.2.1.length then
 bif a.2.1.getD c.toNat (Ty.zero .bool)then
 some true
 else
 if 0<=c/\c<a.1.length then
 bif decide ((a.1.getD c.toNat Aa.zero).1>=0)then
 if 0<=c/\c<a.1.length then
 if(0:Int)<=(a.1.getD c.toNat Aa.zero).1/\(a.1.getD c.toNat Aa.zero).1<(b.length:Int)then
 if 0<=c/\c<a.1.length then
 if(0:Int)<=(a.1.getD c.toNat Aa.zero).2.1/\(a.1.getD c.toNat Aa.zero).2.1<((b.getD (a.1.getD c.toNat Aa.zero).1.toNat AyU.zero).length:Int)then
 some ((b.getD (a.1.getD c.toNat Aa.zero).1.toNat AyU.zero).getD (a.1.getD c.toNat Aa.zero).2.1.toNat (Ty.zero .bool))
 else none
 else none
 else none
 else none
 else
 some false
 else none
 else none
def c65:=Ff [.d Ak,.d AyY,.d AyN] [⟨[.Aw [] Ak,.Aw [] AyY,.Aw [] AyN],[],Bool,λp=>F0 p.1.1 p.1.2.1 p.1.2.2.1,λr=>(dB r,[])⟩]
theorem lN:Am prog 65 c65:=Ax (fn:=f65) ⟨⟨E45,pk trivial,λ_ R K=>by
 simp only[F0,Ax2];kernel_rfl⟩,trivial⟩
abbrev E46:=eN [(65,c65)] {}
def Ho(a:Ayc)(b:Ayn)(c:Int):Ay0 Bool:=
 (F0 a b c).bind λd=>bif !d then
 if 0<=c/\c<a.1.length then
 some (decide ((a.1.getD c.toNat Aa.zero).1>=0))
 else none
 else
 some false
def c66:=Ff [.d Ak,.d AyY,.d AyN] [⟨[.Aw [] Ak,.Aw [] AyY,.Aw [] AyN],[],Bool,λp=>Ho p.1.1 p.1.2.1 p.1.2.2.1,λr=>(dB r,[])⟩]
theorem xQ:Am prog 66 c66:=Ax (fn:=f66) ⟨⟨E46,pk ⟨lN,trivial⟩,λ_ R K=>by
 simp only[Ho,Ax2];kernel_rfl⟩,trivial⟩
abbrev Xr:=eN [(63,c63),(64,c64),(65,c65),(66,c66)] {AdD:=[(59,4),(67,4),(151,4)],Bv:=[(6,{Bb:=[2,7,9,10],Cy:=[(9,false,.row [] 125 Ak true)]}),(9,[2,7,9,10,11]),(17,[2,9,13]),(20,[2,9,13,14]),(24,[2,9,13,14,15,16]),(31,[2,9,13,14,15,16,17,18])],CM:=[(6,[2,9]),(9,[2,7,9,10]),(17,{Bb:=[]}),(20,[2,9,13]),(24,[2,9,13,14]),(31,[2,9,13,14,15,16])],B5:=[(10,[2,7,9,10,11]),(25,[2,9,13,14,15,16]),(29,[2,9,13,14,15,16,17]),(30,[2,9,13,14,15,16,17]),(32,[2,9,13,14,15,16,17,18]),(36,[2,9,13,14,15,16,17,18,20,142])],EO:=[(10,[2,7,9,10,11]),(25,[2,9,13,14,15,16]),(29,[2,9,13,14,15,16,17]),(30,[2,9,13,14,15,16,17]),(32,[2,9,13,14,15,16,17,18]),(36,[2,9,13,14,15,16,17,18,19,20])]}
def Ab3 a (z_:Bool×Ayn):=sT 159 [(2,.AA 0),(9,.AA 1),(13,dB z_.1)] (Ox z_.2 a)
def AbJ(a:Ayl):=λ(b:Ayn)=>xE 4 159 [] [BM b]
def Ab2 a (z_:Bool×Int×Ayn):=sT 159 [(2,.AA 0),(9,.AA 1),(13,dB z_.1),(14,dI z_.2.1)] (Ox z_.2.2 a)
def AbI a:=λ(c:Ayy)=>xE 6 159 [(2,.AA 0),(9,.AA 1),(13,dB c.1)] (Ox c.2 a)
def Ab1 d a e (z_:Bool×Int×Ayn):=sT 159 (nz z_.1 d e z_.2.1) (Ox z_.2.2 a)
def AbH d a (e:Int):=λ(g:Ayy)=>xE 8 159 [(2,.AA 0),(9,.AA 1),(13,dB g.1),(14,dI d)] (Ox g.2 a)
def Ab0 i d e j k a:=sT 159 (nz i d e j) (Ox k a)
def AbG(i:Bool) d e j (k:Ayn) a:=λ(l:Ayy)=>xN 159 (nz l.1 d e j) (Ox l.2 a)
def Ah8 d e j a n (z_:Bool×Int×Ayn):=sT 159 (wy z_.1 d e j n z_.2.1) (Ox z_.2.2 a)
def AfH d e j a (n:Int):=λ(o:Ayy)=>xE 10 159 (nz o.1 d e j) (Ox o.2 a)
def Ah7 q d e j n s t a:=sT 159 (wy q d e j n s) (Ox t a)
def AfG(q:Bool) d e j n s (t:Ayn) a:=λ(u:Ayy)=>xN 159 (wy u.1 d e j n s) (Ox u.2 a)
def Ah6 q d e j n s t a v w:=sT 159 [(2,.AA 0),(9,.AA 1),(13,dB q),(14,dI d),(15,dI e),(16,dI j),(17,dI n),(18,dI s),(19,BQ),(20,M8)] [BM t,Qx a,.box (.Aw [1] Ak v),.box (.Aw [1] Ak w)]
def AfF q d e j n s t a (v:Ayc) w:=λ(x:Bool)=>xN 159 [(2,.AA 0),(9,.AA 1),(13,dB q),(14,dI d),(15,dI e),(16,dI j),(17,dI n),(18,dI s),(20,BQ),(142,dB x)] [BM t,Qx a,.box (.Aw [1] Ak w)]
def LJ(q:Bool)(d e j n s:Int)(t:Ayn)(a:Ayl)(v w:Ayc):Ay0 Bool:=
 (F0 v t n).bind λy=>bif y then
 (Ho w t n).bind λa1=>some a1
 else
 some false
theorem AkS q d e j n s t a v w:AX Xr 1 36 (sb (sb (sb (sb (sb (cd f27 1016) 108) 204) 6) 188) 6) 22 (Ah6 q d e j n s t a v w) (LJ q d e j n s t a v w) (AfF q d e j n s t a v w):=by
 unfold AX;simp only[LJ,Ax1];kernel_rfl
def Ik(q:Bool)(d e j n s:Int)(t:Ayn)(a:Ayl):Ay0 Ayy:=
 if 0<=(wI (d+s))/\(wI (d+s))<a.length then
 if 0<=(wI ((wI (d+1))-s))/\(wI ((wI (d+1))-s))<a.length then
 (LJ q d e j n s t a (a.getD (wI (d+s)).toNat Ak.zero) (a.getD (wI ((wI (d+1))-s)).toNat Ak.zero)).bind λx=>bif x then
 if 0<=n/\n<(a.getD (wI ((wI (d+1))-s)).toNat Ak.zero).1.length then
 if(0:Int)<=((a.getD (wI ((wI (d+1))-s)).toNat Ak.zero).1.getD n.toNat Aa.zero).1/\((a.getD (wI ((wI (d+1))-s)).toNat Ak.zero).1.getD n.toNat Aa.zero).1<(t.length:Int)then
 if 0<=n/\n<(a.getD (wI ((wI (d+1))-s)).toNat Ak.zero).1.length then
 if(0:Int)<=((a.getD (wI ((wI (d+1))-s)).toNat Ak.zero).1.getD n.toNat Aa.zero).2.1/\((a.getD (wI ((wI (d+1))-s)).toNat Ak.zero).1.getD n.toNat Aa.zero).2.1<(t.getD ((a.getD (wI ((wI (d+1))-s)).toNat Ak.zero).1.getD n.toNat Aa.zero).1.toNat AyU.zero).length then
 some (true,t.set ((a.getD (wI ((wI (d+1))-s)).toNat Ak.zero).1.getD n.toNat Aa.zero).1.toNat ((t.getD ((a.getD (wI ((wI (d+1))-s)).toNat Ak.zero).1.getD n.toNat Aa.zero).1.toNat AyU.zero).set ((a.getD (wI ((wI (d+1))-s)).toNat Ak.zero).1.getD n.toNat Aa.zero).2.1.toNat true))
 else none
 else none
 else none
 else none
 else
 some (q,t)
 else none
 else none
theorem AkT q d e j n s t a:AX Xr 1 32 (sb (sb (sb (sb (cd f27 1016) 108) 204) 6) 188) 6 (Ah7 q d e j n s t a) (Ik q d e j n s t a) (AfG q d e j n s t a):=by
 unfold AX;simp(disch:=refine id ?_;kernel_rfl) only[Ik,Ax1,A7 (AkS ..) (K:=OZ Xr 1 32)];kernel_rfl
def Jl(d e j:Int)(a:Ayl)(n:Int)(q:Bool)(s:Int)(t:Ayn):Ay0 ((Bool×Int×Ayn)⊕Ayy):=
 bif decide (s<2)then
 (Ik q d e j n s t a).bind λu=>some (.inl (u.1,wI (s+1),u.2))
 else
 some (.inr (q,t))
def Ei d e j a n (z_:Bool×Int×Ayn):=Jl d e j a n z_.1 z_.2.1 z_.2.2
def OP d e j a n q s t:=fix (Ei d e j a n) (q,s,t)
theorem AkU d e j a n:A8 Xr 1 31 (sb (sb (sb (cd f27 1016) 108) 204) 6) 94 (Ah8 d e j a n) (Ei d e j a n) (AfH d e j a n):=by
 intro _;simp(disch:=refine id ?_;kernel_rfl) only[Ei,Jl,Ax1,A7 (AkT ..) (K:=L5 Xr 1 31)];kernel_rfl
def Ah5 i d e j k a b1:=sT 159 (iY i d e j b1) (Ox k a)
def AfE i d e j k a b1:=Sum.elim (λ(c1:Unit)=>xE 9 159 (iY i d e j b1) (Ox k a)) (λ(d1:Unit)=>xN 159 (iY i d e j b1) (Ox k a))
def LH(i:Bool)(d e j:Int)(k:Ayn)(a:Ayl)(b1:Int):Ay0 (Unit⊕Unit):=
 bif decide (b1<1)then
 some (.inl ())
 else
 bif decide (b1>=e)then
 some (.inl ())
 else
 some (.inr ())
theorem AkR i d e j k a b1:AX Xr 1 30 (sb (sb (sb (cd f27 1016) 108) 204) 6) 22 (Ah5 i d e j k a b1) (LH i d e j k a b1) (AfE i d e j k a b1):=by
 unfold AX;simp only[LH,Ax1];kernel_rfl
def Aaj i d e j k a:=sT 159 (iY i d e j j) (Ox k a)
def qN(i:Bool)(d e j:Int)(k:Ayn)(a:Ayl)(m0:Int):Ex×St:=xN 159 (iY i d e j m0) (Ox k a)
theorem AkQ i d e j k a:S1 Xr 1 29 (sb (sb (sb (cd f27 1016) 108) 204) 6) (pt 10) (Aaj i d e j k a)=some (qN i d e j k a (bif decide (j>=e)then(wI ((wI (2*e))-j))else j)):=by
 refine .trans (b:=
 bif decide (j>=e)then
 some (qN i d e j k a (wI ((wI (2*e))-j)))
 else
 some (qN i d e j k a j)) (by kernel_rfl) ?_
 cases (decide (j>=e));rfl;rfl
def Hn(i:Bool)(d e j:Int)(k:Ayn)(a:Ayl):Ay0 Ayy:=
 Np (Aaj i d e j k a) (
 (LH i d e j k a (bif decide (j>=e)then(wI ((wI (2*e))-j))else j)).bind (Sum.elim (λc1=>some (i,k)) (λd1=>(OP d e j a (bif decide (j>=e)then(wI ((wI (2*e))-j))else j) i 0 k).bind λo=>some (o.1,o.2))))
theorem Acl i d e j k a:AX Xr 1 25 (sb (sb (cd f27 1016) 108) 204) 6 (Ab0 i d e j k a) (Hn i d e j k a) (AbG i d e j k a):=by
 unfold AX;simp(disch:=refine id ?_;kernel_rfl) only[Hn,Ax1,EM (AkQ ..) (K:=OZ Xr 1 25),A7 (AkR ..) (K:=OZ Xr 1 25),OP,AO (AkU _ _ _ _ _) (K:=OZ Xr 1 25)];kernel_rfl
def HU(d:Int)(a:Ayl)(e:Int)(i:Bool)(j:Int)(k:Ayn):Ay0 ((Bool×Int×Ayn)⊕Ayy):=
 bif decide (j<(wI (2*e)))then
 (Hn i d e j k a).bind λl=>some (.inl (l.1,wI (j+1),l.2))
 else
 some (.inr (i,k))
def Dq d a e (z_:Bool×Int×Ayn):=HU d a e z_.1 z_.2.1 z_.2.2
def NK d a e i j k:=fix (Dq d a e) (i,j,k)
theorem Acm d a e:A8 Xr 1 24 (sb (cd f27 1016) 108) 102 (Ab1 d a e) (Dq d a e) (AbH d a e):=by
 intro _;simp(disch:=refine id ?_;kernel_rfl) only[Dq,HU,Ax1,A7 (Acl ..) (K:=L5 Xr 1 24)];kernel_rfl
def HV(a:Ayl)(e1:Bool)(d:Int)(g1:Ayn):Ay0 ((Bool×Int×Ayn)⊕Ayy):=
 bif decide (d<(a.length:Int))then
 if 0<=d/\d<a.length then
 (NK d a ((a.getD d.toNat Ak.zero).1.length:Int) e1 1 g1).bind λg=>some (.inl (g.1,wI (d+2),g.2))
 else none
 else
 some (.inr (e1,g1))
def Dr a (z_:Bool×Int×Ayn):=HV a z_.1 z_.2.1 z_.2.2
def NL a e1 d g1:=fix (Dr a) (e1,d,g1)
theorem Acn a:A8 Xr 1 20 (cd f27 1016) 54 (Ab2 a) (Dr a) (AbI a):=by
 intro _;simp(disch:=refine id ?_;kernel_rfl) only[Dr,HV,Ax1,NK,AO (Acm _ _ _) (K:=L5 Xr 1 20)];kernel_rfl
def LR(a:Ayl)(i1:Bool)(j1:Ayn):Ay0 (Ayy⊕Ayn):=
 bif i1 then
 (NL a false 0 j1).bind λc=>some (.inl (c.1,c.2))
 else
 some (.inr j1)
def HW a (z_:Bool×Ayn):=LR a z_.1 z_.2
def NM a i1 j1:=fix (HW a) (i1,j1)
theorem Aco a:A8 Xr 1 17 (code f27) 508 (Ab3 a) (HW a) (AbJ a):=by
 intro _;simp(disch:=refine id ?_;kernel_rfl) only[HW,LR,Ax1,NL,AO (Acn _) (K:=L5 Xr 1 17)];kernel_rfl
def Ah4 k1 (z_:Int×Ayn×Ayl):=sT 159 [(2,.AA 0),(7,.AA 1),(9,.AA 2),(10,dI z_.1)] [BM z_.2.1,M9 k1,Qx z_.2.2]
def AfD(k1:Ayp):=λ(l1:(Ayn×Ayl))=>xE 0 159 [(2,.AA 0),(9,.AA 1)] (Ox l1.1 l1.2)
def Ah3 n1 k1 o1 (z_:Int×Ayn):=sT 159 (wz n1 z_.1) [BM z_.2,M9 k1,Qx o1]
def AfC n1 k1 o1:=λ(q1:Ayn)=>xE 2 159 [(2,.AA 0),(7,.AA 1),(9,.AA 2),(10,dI n1)] [BM q1,M9 k1,Qx o1]
def Ah2 n1 s1 t1 k1 o1:=sT 159 (wz n1 s1) [BM t1,M9 k1,Qx o1]
def AfB n1 s1 (t1:Ayn) k1 o1:=λ(u1:Ayn)=>xN 159 (wz n1 s1) [BM u1,M9 k1,Qx o1]
def Ij(n1 s1:Int)(t1:Ayn)(k1:Ayp)(o1:Ayl):Ay0 Ayn:=
 if 0<=n1/\n1<k1.length then
 if 0<=s1/\s1<(k1.getD n1.toNat AyS.zero).length then
 bif decide (((k1.getD n1.toNat AyS.zero).getD s1.toNat Ae.zero).1>=0)then
 if(0:Int)<=((k1.getD n1.toNat AyS.zero).getD s1.toNat Ae.zero).1/\((k1.getD n1.toNat AyS.zero).getD s1.toNat Ae.zero).1<(t1.length:Int)then
 if(0:Int)<=((k1.getD n1.toNat AyS.zero).getD s1.toNat Ae.zero).2.1/\((k1.getD n1.toNat AyS.zero).getD s1.toNat Ae.zero).2.1<(t1.getD ((k1.getD n1.toNat AyS.zero).getD s1.toNat Ae.zero).1.toNat AyU.zero).length then
 if(0:Int)<=((k1.getD n1.toNat AyS.zero).getD s1.toNat Ae.zero).1/\((k1.getD n1.toNat AyS.zero).getD s1.toNat Ae.zero).1<((t1.set ((k1.getD n1.toNat AyS.zero).getD s1.toNat Ae.zero).1.toNat ((t1.getD ((k1.getD n1.toNat AyS.zero).getD s1.toNat Ae.zero).1.toNat AyU.zero).set ((k1.getD n1.toNat AyS.zero).getD s1.toNat Ae.zero).2.1.toNat true)).length:Int)then
 if(0:Int)<=(wI (((k1.getD n1.toNat AyS.zero).getD s1.toNat Ae.zero).2.1+((k1.getD n1.toNat AyS.zero).getD s1.toNat Ae.zero).2.2.1))/\(wI (((k1.getD n1.toNat AyS.zero).getD s1.toNat Ae.zero).2.1+((k1.getD n1.toNat AyS.zero).getD s1.toNat Ae.zero).2.2.1))<((t1.set ((k1.getD n1.toNat AyS.zero).getD s1.toNat Ae.zero).1.toNat ((t1.getD ((k1.getD n1.toNat AyS.zero).getD s1.toNat Ae.zero).1.toNat AyU.zero).set ((k1.getD n1.toNat AyS.zero).getD s1.toNat Ae.zero).2.1.toNat true)).getD ((k1.getD n1.toNat AyS.zero).getD s1.toNat Ae.zero).1.toNat AyU.zero).length then
 some ((t1.set ((k1.getD n1.toNat AyS.zero).getD s1.toNat Ae.zero).1.toNat ((t1.getD ((k1.getD n1.toNat AyS.zero).getD s1.toNat Ae.zero).1.toNat AyU.zero).set ((k1.getD n1.toNat AyS.zero).getD s1.toNat Ae.zero).2.1.toNat true)).set ((k1.getD n1.toNat AyS.zero).getD s1.toNat Ae.zero).1.toNat (((t1.set ((k1.getD n1.toNat AyS.zero).getD s1.toNat Ae.zero).1.toNat ((t1.getD ((k1.getD n1.toNat AyS.zero).getD s1.toNat Ae.zero).1.toNat AyU.zero).set ((k1.getD n1.toNat AyS.zero).getD s1.toNat Ae.zero).2.1.toNat true)).getD ((k1.getD n1.toNat AyS.zero).getD s1.toNat Ae.zero).1.toNat AyU.zero).set (wI (((k1.getD n1.toNat AyS.zero).getD s1.toNat Ae.zero).2.1+((k1.getD n1.toNat AyS.zero).getD s1.toNat Ae.zero).2.2.1)).toNat true))
 else none
 else none
 else none
 else none
 else
 some t1
 else none
 else none
theorem AkN n1 s1 t1 k1 o1:AX Xr 1 10 (sb (cd f27 500) 196) 6 (Ah2 n1 s1 t1 k1 o1) (Ij n1 s1 t1 k1 o1) (AfB n1 s1 t1 k1 o1):=by
 unfold AX;simp only[Ij,Ax1];kernel_rfl
def Jj(n1:Int)(k1:Ayp)(o1:Ayl)(s1:Int)(t1:Ayn):Ay0 ((Int×Ayn)⊕Ayn):=
 if 0<=n1/\n1<k1.length then
 bif decide (s1<((k1.getD n1.toNat AyS.zero).length:Int))then
 (Ij n1 s1 t1 k1 o1).bind λu1=>some (.inl (wI (s1+1),u1))
 else
 some (.inr t1)
 else none
def Eg n1 k1 o1 (z_:Int×Ayn):=Jj n1 k1 o1 z_.1 z_.2
def OM n1 k1 o1 s1 t1:=fix (Eg n1 k1 o1) (s1,t1)
theorem AkO n1 k1 o1:A8 Xr 1 9 (cd f27 500) 98 (Ah3 n1 k1 o1) (Eg n1 k1 o1) (AfC n1 k1 o1):=by
 intro _;simp(disch:=refine id ?_;kernel_rfl) only[Eg,Jj,Ax1,A7 (AkN ..) (K:=L5 Xr 1 9)];kernel_rfl
def Jk(k1:Ayp)(n1:Int)(v1:Ayn)(o1:Ayl):Ay0 ((Int×Ayn×Ayl)⊕(Ayn×Ayl)):=
 bif decide (n1<(k1.length:Int))then
 (OM n1 k1 o1 0 v1).bind λq1=>if 0<=n1/\n1<k1.length then
 (Mb (k1.getD n1.toNat AyS.zero)).bind λw1=>if(o1.length+([(w1.1,w1.2,())]:Ayl).length)*48<=140737488355328 then
 some (.inl (wI (n1+1),q1,o1++([(w1.1,w1.2,())]:Ayl)))
 else none
 else none
 else
 some (.inr (v1,o1))
def Eh k1 (z_:Int×Ayn×Ayl):=Jk k1 z_.1 z_.2.1 z_.2.2
def OO k1 n1 v1 o1:=fix (Eh k1) (n1,v1,o1)
theorem AkP k1:A8 Xr 1 6 (code f27) 250 (Ah4 k1) (Eh k1) (AfD k1):=by
 intro _;simp(disch:=refine id ?_;kernel_rfl) only[Eh,Jk,Ax1,OM,AO (AkO _ _ _) (K:=L5 Xr 1 6)];kernel_rfl
def O4(x1:Ayg)(y1:Ayj)(a2:Ayn):Ay0 Ayy:=
 (O5 x1 y1).bind λb2=>bif !b2.1 then
 some (false,a2)
 else
 (OO b2.2 0 a2 ([]:Ayl)).bind λl1=>(NM l1.2 true l1.1).bind λb=>some (true,b)
def c27:=Ff [.d AyT,.d AyW,.Sm] [⟨[.Aw [] AyT,.Aw [] AyW,.k (.AA 0)],[.row 86 .Ao AyU],Ayy,λp=>O4 p.1.1 p.1.2.1 p.2.1,λr=>(dB r.1,[BM r.2])⟩]
theorem xt:Am prog 27 c27:=Ax (fn:=f27) ⟨⟨Xr,pk ⟨xO,xP,lN,xQ,trivial⟩,λ_ R K=>by
 simp(disch:=refine id ?_;kernel_rfl) only[O4,Ax2,OO,AO (AkP _) (K:=A6 Xr f27 1 R K),NM,AO (Aco _) (K:=A6 Xr f27 1 R K)];kernel_rfl⟩,trivial⟩
end
end Go.Proofs.X
namespace Go.Proofs.X
open Go Go.Va Go.Proofs.Tryz
set_option maxRecDepth 100000
noncomputable section
abbrev E48:=eN [] {Bv:=[(3,{Bb:=[0,2,3,4],Cy:=[(3,true,.row [0] 33 AyR true)]}),(7,{Bb:=[0,2,3,4,5,6],Cy:=[(5,false,.row [] 2 AyN true)]})],CM:=[(3,[2,3]),(7,[0,2,3,4,5])],B5:=[(8,{Bb:=[0,2,3,4,5,6],Cy:=[(5,false,.row [] 2 AyN true)]})],EO:=[(8,[0,2,3,4,5,6])]}
def Aib a (z_:Int×Aym):=sT 43 [(0,eB a),(2,Aq),(3,Ay),(4,dI z_.1)] (nt z_.2)
def AfK(a:Ayn):=λ(b:Aym)=>xE 0 43 [(2,Aq),(3,Ay)] (nt b)
def Aia a c d (z_:Int×Ayd):=sT 43 (wA a c z_.1) (nC z_.2 d)
def AfJ a c d:=λ(e:Ayd)=>xE 2 43 [(0,eB a),(2,Aq),(3,Ay),(4,dI c),(5,.AA 2)] (nC e d)
def Ah9 a c g i d:=sT 43 (wA a c g) (nC i d)
def AfI a c g (i:Ayd) d:=λ(j:Ayd)=>xN 43 (wA a c g) (nC j d)
def JZ(a:Ayn)(c g:Int)(i:Ayd)(d:Aym):Ay0 Ayd:=
 if 0<=c/\c<a.length then
 if 0<=g/\g<(a.getD c.toNat AyU.zero).length then
 bif (a.getD c.toNat AyU.zero).getD g.toNat (Ty.zero .bool)then
 if(i.length+([g]:Ayd).length)*8<=140737488355328 then
 some (i++([g]:Ayd))
 else none
 else
 some i
 else none
 else none
theorem AkV a c g i d:AX E48 0 8 (sb (cd f28 116) 404) 6 (Ah9 a c g i d) (JZ a c g i d) (AfI a c g i d):=by
 unfold AX;simp only[JZ,Ax1];kernel_rfl
def KE(a:Ayn)(c:Int)(d:Aym)(g:Int)(i:Ayd):Ay0 (Ayv⊕Ayd):=
 if 0<=c/\c<a.length then
 bif decide ((wI (g+1))<((a.getD c.toNat AyU.zero).length:Int))then
 (JZ a c g i d).bind λj=>some (.inl (wI (g+1),j))
 else
 some (.inr i)
 else none
def EX a c d (z_:Int×Ayd):=KE a c d z_.1 z_.2
def PY a c d g i:=fix (EX a c d) (g,i)
theorem AkW a c d:A8 E48 0 7 (cd f28 116) 202 (Aia a c d) (EX a c d) (AfJ a c d):=by
 intro _;simp(disch:=refine id ?_;kernel_rfl) only[EX,KE,Ax1,A7 (AkV ..) (K:=L5 E48 0 7)];kernel_rfl
def KF(a:Ayn)(c:Int)(d:Aym):Ay0 ((Int×Aym)⊕Aym):=
 bif decide (c<(a.length:Int))then
 (PY a c d 1 ([]:Ayd)).bind λe=>if(d.length+([e]:Aym).length)*24<=140737488355328 then
 some (.inl (wI (c+1),d++([e]:Aym)))
 else none
 else
 some (.inr d)
def EY a (z_:Int×Aym):=KF a z_.1 z_.2
def PZ a c d:=fix (EY a) (c,d)
theorem AkX a:A8 E48 0 3 (code f28) 58 (Aib a) (EY a) (AfK a):=by
 intro _;simp(disch:=refine id ?_;kernel_rfl) only[EY,KF,Ax1,PY,AO (AkW _ _ _) (K:=L5 E48 0 3)];kernel_rfl
def Ow(a:Ayn):Ay0 Aym:=
 (PZ a 0 ([]:Aym)).bind λb=>some b
def c28:=Ff [.d AyY] [⟨[.Aw [] AyY],[],Aym,λp=>Ow p.1.1,λr=>(.pr (.AA 0) .u,[J1 r])⟩]
theorem xu:Am prog 28 c28:=Ax (fn:=f28) ⟨⟨E48,pk trivial,λ_ R K=>by
 simp(disch:=refine id ?_;kernel_rfl) only[Ow,Ax2,PZ,AO (AkX _) (K:=A6 E48 f28 0 R K)];kernel_rfl⟩,trivial⟩
abbrev E49:=eN [(24,c24),(25,c25),(26,c26),(27,c27),(28,c28)] {B5:=[(2,[0,1,5,6,18])],EO:=[(2,[0,1,5,6])],jo:=[(0,.row [0] 33 AyR true)]}
def Aic a b c:=sT 31 [(0,Aj a),(1,Cu b),(5,Aq),(6,Ay)] [.box (Cc c),.box Iv]
def AfL a b c:=λ(d:Bool)=>xN 31 [(0,Aj a),(1,Cu b),(5,Aq),(6,Ay),(18,dB d)] [.box (Cc c),.box Iv]
def IR(a:Ayg)(b:Ayj)(c:Ayb):Ay0 Bool:=
 (Oo a c).bind λe=>bif !e then
 some true
 else
 (Ic a b).bind λg=>some (!g)
theorem AkY a b c:AX E49 0 2 (code f7) 12 (Aic a b c) (IR a b c) (AfL a b c):=by
 unfold AX;simp only[IR,Ax1];kernel_rfl
def Hd(a:Ayg)(b:Ayj)(c:Ayb):Ay0 (Bool×Aym):=
 (IR a b c).bind λd=>bif d then
 some (false,([]:Aym))
 else
 (M0 a c).bind λi=>(O4 a b i).bind λj=>bif !j.1 then
 some (false,([]:Aym))
 else
 (Ow j.2).bind λk=>some (true,k)
def c7:=Ff [.d AyT,.d AyW,.d Ai] [⟨[.Aw [] AyT,.Aw [] AyW,.Aw [] Ai],[],Bool×Aym,λp=>Hd p.1.1 p.1.2.1 p.1.2.2.1,λr=>(.cons T9 (.cons (dB r.1) .nil),[J1 r.2])⟩]
theorem AcG:Am prog 7 c7:=Ax (fn:=f7) ⟨⟨E49,pk ⟨xp,xq,xr,xt,xu,trivial⟩,λ_ R K=>by
 simp(disch:=refine id ?_;kernel_rfl) only[Hd,Ax2,A7 (AkY ..) (K:=A6 E49 f7 0 R K)];kernel_rfl⟩,trivial⟩
abbrev E50:=eN [] {Bv:=[(4,[0,3])],CM:=[(4,[2])],B5:=[(2,[0,21]),(7,[0,3,49])],EO:=[(2,[0]),(7,[0,3])]}
def Aif a (z_:Int):=sT 50 [(0,Jp a),(3,dI z_)] []
def AfO(a:ByteArray):=Sum.elim (λ(b:Unit)=>xR 50 [(2,dB false)] []) (λ(c:Unit)=>xE 0 50 [] [])
def Aie a d:=sT 50 [(0,Jp a),(3,dI d)] []
def AfN a d:=λ(e:Bool)=>xN 50 [(0,Jp a),(3,dI d),(49,dB e)] []
def JE(a:ByteArray)(d:Int):Ay0 Bool:=
 if(0:Int)<=d/\d<(a.size:Int)then
 bif decide ((Cm a d)<97)then
 if(0:Int)<=d/\d<(a.size:Int)then
 bif decide ((Cm a d)<48)then
 some true
 else
 if(0:Int)<=d/\d<(a.size:Int)then
 some (decide ((Cm a d)>57))
 else none
 else none
 else
 if(0:Int)<=d/\d<(a.size:Int)then
 bif decide ((Cm a d)>122)then
 if(0:Int)<=d/\d<(a.size:Int)then
 bif decide ((Cm a d)<48)then
 some true
 else
 if(0:Int)<=d/\d<(a.size:Int)then
 some (decide ((Cm a d)>57))
 else none
 else none
 else
 some false
 else none
 else none
theorem Ak0 a d:AX E50 0 7 (cd f76 116) 24 (Aie a d) (JE a d) (AfN a d):=by
 unfold AX;simp only[JE,Ax1];kernel_rfl
def Kg(a:ByteArray)(d:Int):Ay0 (Int⊕(Unit⊕Unit)):=
 bif decide (d<(a.size:Int))then
 (JE a d).bind λe=>bif e then
 some (.inr (.inl ()))
 else
 some (.inl (wI (d+1)))
 else
 some (.inr (.inr ()))
def G9 a (z_:Int):=Kg a z_
def S0 a d:=fix (G9 a) d
theorem Ak1 a:A8 E50 0 4 (code f76) 58 (Aif a) (G9 a) (AfO a):=by
 intro _;simp(disch:=refine id ?_;kernel_rfl) only[G9,Kg,Ax1,A7 (Ak0 ..) (K:=L5 E50 0 4)];kernel_rfl
def Aid a:=sT 50 [(0,Jp a)] []
def AfM a:=λ(g:Bool)=>xN 50 [(0,Jp a),(21,dB g)] []
def Mw(a:ByteArray):Ay0 Bool:=
 bif decide ((a.size:Int)<1)then
 some true
 else
 bif decide ((a.size:Int)>12)then
 some true
 else
 if(0:Int)<=(0:Int)/\(0:Int)<(a.size:Int)then
 bif decide ((Cm a 0)<97)then
 some true
 else
 if(0:Int)<=(0:Int)/\(0:Int)<(a.size:Int)then
 some (decide ((Cm a 0)>122))
 else none
 else none
theorem AkZ a:AX E50 0 2 (code f76) 12 (Aid a) (Mw a) (AfM a):=by
 unfold AX;simp only[Mw,Ax1];kernel_rfl
def L3(a:ByteArray):Ay0 Bool:=
 (Mw a).bind λg=>bif g then
 some false
 else
 (S0 a 0).bind (Sum.elim (λb=>some false) (λc=>some true))
def c76:=Ff [.d .str] [⟨[.Aw [] .str],[],Bool,λp=>L3 p.1.1,λr=>(dB r,[])⟩]
theorem xX:Am prog 76 c76:=Ax (fn:=f76) ⟨⟨E50,pk trivial,λ_ R K=>by
 simp(disch:=refine id ?_;kernel_rfl) only[L3,Ax2,A7 (AkZ _) (K:=A6 E50 f76 0 R K),S0,AO (Ak1 _) (K:=A6 E50 f76 0 R K)];kernel_rfl⟩,trivial⟩
abbrev E51:=eN [] {}
def AE(a b c:Int):Bool:=((decide (a>=b))&&(decide (a<=c)))
theorem U51 R a b c K:RA E51 f68 R [dI a,dI b,dI c] [] K=K (dB (AE a b c)) []:=by
 refine .trans (b:=
 bif decide (a>=b)then
 K (dB (decide (a<=c))) []
 else
 K (dB false) []) (by kernel_rfl) ?_
 unfold AE;cases (decide (a>=b));rfl;rfl
def c68:=Ff [.d AyN,.d AyN,.d AyN] [⟨[.Aw [] AyN,.Aw [] AyN,.Aw [] AyN],[],Bool,λp=>some (AE p.1.1 p.1.2.1 p.1.2.2.1),λr=>(dB r,[])⟩]
theorem Tw:Am prog 68 c68:=Ax ⟨⟨E51,pk trivial,λ_ _ _=>U51 ..⟩,trivial⟩
abbrev E52:=eN [] {}
def OC(a:Ax6)(b:ByteArray):Bool:=(KL a.1 b)
def AmI:=Ff [.d Ab,.p .str] [⟨[.Aw [] Ab,.D7 [] .str],[],Bool,λp=>some (OC p.1.1 p.1.2.1),λr=>(dB r,[])⟩]
theorem rO:Am prog 114 AmI:=Ax (fn:=f114) ⟨⟨E52,pk trivial,λ_ _ _=>by kernel_rfl⟩,trivial⟩
abbrev E53:=eN [(114,AmI)] {Bv:=[(2,[0,1,7,8])],CM:=[(2,[4])]}
def Aig a (b:Int) c d (z_:Int):=sT 19 [(0,Aj a),(1,.fn 114 (.cons (.ptr 0 b [] 0) .nil)),(7,dI d),(8,dI z_)] [.box (Jp c)]
def AfP(a:Ayg)(b:Int) c (d:Int):=Sum.elim (λ(e:Int)=>xR 19 [(4,dI e)] [.box (Jp c)]) (λ(g:Unit)=>xE 0 19 [] [.box (Jp c)])
def CS(a:Ayg)(b:Int)(c:ByteArray)(d i:Int):Ay0 (Int⊕(Int⊕Unit)):=
 bif decide (i<d)then
 if 0<=i/\i<a.length then
 bif OC (a.getD i.toNat Ab.zero) c then
 some (.inr (.inl i))
 else
 some (.inl (wI (i+1)))
 else none
 else
 some (.inr (.inr ()))
def Cb a b c d (z_:Int):=CS a b c d z_
def GD a b c d i:=fix (Cb a b c d) i
theorem Ak2 a b c d:A8 E53 1 2 (code f113) 26 (Aig a b c d) (Cb a b c d) (AfP a b c d):=by
 intro _;simp only[Cb,CS,Ax1];kernel_rfl
def FO(a:Ayg)(b:Int)(c:ByteArray):Ay0 (Int×ByteArray):=
 (GD a b c (a.length:Int) 0).bind (Sum.elim (λe=>some (e,c)) (λg=>some (-1,c)))
def AmH:=Ff [.d AyT,.Sm] [⟨[.Aw [] AyT,.fn 114 (.cons (.ptr 0 [] 0) (.k .nil))],[.box (.Aw [] .str)],Int×ByteArray,λp=>FO p.1.1 p.1.2.1.1 p.2.1,λr=>(dI r.1,[.box (Jp r.2)])⟩]
theorem rN:Am prog 113 AmH:=Ax (fn:=f113) ⟨⟨E53,pk ⟨rO,trivial⟩,λ_ R K=>by
 simp(disch:=refine id ?_;kernel_rfl) only[FO,Ax2,GD,AO (Ak2 _ _ _ _) (K:=A6 E53 f113 1 R K)];kernel_rfl⟩,trivial⟩
abbrev E54:=eN [(113,AmH)] {}
def Il(a:Ayg)(b:ByteArray):Ay0 Int:=
 (FO a 0 b).bind λc=>some c.1
def c77:=Ff [.d AyT,.d .str] [⟨[.Aw [] AyT,.Aw [] .str],[],Int,λp=>Il p.1.1 p.1.2.1,λr=>(dI r,[])⟩]
theorem xY:Am prog 77 c77:=Ax (fn:=f77) ⟨⟨E54,pk ⟨rN,trivial⟩,λ_ R K=>by
 simp only[Il,Ax2];kernel_rfl⟩,trivial⟩
abbrev E55:=eN [(68,c68),(76,c76),(77,c77)] {Bv:=[(5,[0,3,9,10,11])],CM:=[(5,[2,3])],B5:=[(8,[0,3,5,9,10,11,34])],EO:=[(8,[0,3,4,5,9,10,11])]}
def Aii a b (z_:Int×Int):=sT 42 [(0,Aj a),(3,dI z_.1),(9,Aj a),(10,dI b),(11,dI z_.2)] []
def AfR(a:Ayg)(b:Int):=Sum.elim (λ(c:Int)=>xR 42 [(2,dB false),(3,dI c)] []) (λ(d:Int)=>xE 0 42 [(3,dI d)] [])
def Aih a e g b i:=sT 42 [(0,Aj a),(3,dI e),(4,dI g),(5,Aq),(9,Aj a),(10,dI b),(11,dI g)] [.box (dD Ab i)]
def AfQ a e g b i:=λ(j:Bool)=>xN 42 [(0,Aj a),(3,dI e),(5,Aq),(9,Aj a),(10,dI b),(11,dI g),(34,dB j)] [.box (dD Ab i)]
def Lk(a:Ayg)(e g b:Int)(i:Ax6):Ay0 Bool:=
 (L3 i.1).bind λk=>bif !k then
 some true
 else
 bif !(AE i.2.1 1 4096)then
 some true
 else
 if(0:Int)<=(0:Int)/\(0:Int)<=g/\g<=(a.length:Int)then
 (Il ((a.take g.toNat).drop 0) i.1).bind λl=>some (decide (l>=0))
 else none
theorem Ak3 a e g b i:AX E55 0 8 (cd f38 244) 228 (Aih a e g b i) (Lk a e g b i) (AfQ a e g b i):=by
 unfold AX;simp only[Lk,Ax1];kernel_rfl
def IG(a:Ayg)(b e g:Int):Ay0 (AyC⊕(Int⊕Int)):=
 bif decide (g<b)then
 if 0<=g/\g<a.length then
 (Lk a e g b (a.getD g.toNat Ab.zero)).bind λj=>bif j then
 some (.inr (.inl e))
 else
 some (.inl (wI (e+(a.getD g.toNat Ab.zero).2.1),wI (g+1)))
 else none
 else
 some (.inr (.inr e))
def F3 a b (z_:Int×Int):=IG a b z_.1 z_.2
def R4 a b e g:=fix (F3 a b) (e,g)
theorem Ak4 a b:A8 E55 0 5 (code f38) 122 (Aii a b) (F3 a b) (AfR a b):=by
 intro _;simp(disch:=refine id ?_;kernel_rfl) only[F3,IG,Ax1,A7 (Ak3 ..) (K:=L5 E55 0 5)];kernel_rfl
def Ms(a:Ayg):Ay0 Bool:=
 bif decide ((a.length:Int)>60)then
 some false
 else
 (R4 a (a.length:Int) 0 0).bind (Sum.elim (λc=>some false) (λd=>some (decide (d<=20000))))
def c38:=Ff [.d AyT] [⟨[.Aw [] AyT],[],Bool,λp=>Ms p.1.1,λr=>(dB r,[])⟩]
theorem xG:Am prog 38 c38:=Ax (fn:=f38) ⟨⟨E55,pk ⟨Tw,xX,xY,trivial⟩,λ_ R K=>by
 simp(disch:=refine id ?_;kernel_rfl) only[Ms,Ax2,R4,AO (Ak4 _ _) (K:=A6 E55 f38 0 R K)];kernel_rfl⟩,trivial⟩
end
end Go.Proofs.X
namespace Go.Proofs.X
open Go Go.Va Go.Proofs.Tryz
set_option maxRecDepth 100000
noncomputable section
abbrev E56:=eN [(68,c68)] {Bv:=[(4,[0,17,18,19]),(8,[0,5,7,17,18,19,24,25,26])],CM:=[(4,[4]),(8,[0,4,17,18,19])]}
def Aik a b c (z_:Int):=sT 44 [(0,Aj a),(17,Jq b),(18,dI c),(19,dI z_)] []
def AfT(a:Ayg)(b:Aym)(c:Int):=Sum.elim (λ(d:Unit)=>xR 44 [(4,dB false)] []) (λ(e:Unit)=>xE 0 44 [] [])
def Aij a g b c i j (z_:Int×Int):=sT 44 [(0,Aj a),(5,dI g),(7,dI z_.1),(17,Jq b),(18,dI c),(19,dI g),(24,HY i),(25,dI j),(26,dI z_.2)] []
def AfS a g b c (i:Ayd) (j:Int):=Sum.elim (λ(k:Unit)=>xR 44 [(0,Aj a),(4,dB false),(17,Jq b),(18,dI c),(19,dI g)] []) (λ(l:Unit)=>xE 2 44 [(0,Aj a),(17,Jq b),(18,dI c),(19,dI g)] [])
def Kc(a:Ayg)(g:Int)(b:Aym)(c:Int)(i:Ayd)(j n o:Int):Ay0 (AyC⊕(Unit⊕Unit)):=
 bif decide (o<j)then
 if 0<=o/\o<i.length then
 if 0<=g/\g<a.length then
 bif !(AE (i.getD o.toNat AyN.zero) (wI (n+1)) (wI ((a.getD g.toNat Ab.zero).2.1-1)))then
 some (.inr (.inl ()))
 else
 some (.inl (i.getD o.toNat AyN.zero,wI (o+1)))
 else none
 else none
 else
 some (.inr (.inr ()))
def ES a g b c i j (z_:Int×Int):=Kc a g b c i j z_.1 z_.2
def SY a g b c i j n o:=fix (ES a g b c i j) (n,o)
theorem Ak5 a g b c i j:A8 E56 0 8 (cd f34 116) 462 (Aij a g b c i j) (ES a g b c i j) (AfS a g b c i j):=by
 intro _;simp only[ES,Kc,Ax1];kernel_rfl
def Kd(a:Ayg)(b:Aym)(c g:Int):Ay0 (Int⊕(Unit⊕Unit)):=
 bif decide (g<c)then
 if 0<=g/\g<b.length then
 (SY a g b c (b.getD g.toNat AyR.zero) ((b.getD g.toNat AyR.zero).length:Int) 0 0).bind (Sum.elim (λk=>some (.inr (.inl ()))) (λl=>some (.inl (wI (g+1)))))
 else none
 else
 some (.inr (.inr ()))
def G7 a b c (z_:Int):=Kd a b c z_
def SZ a b c g:=fix (G7 a b c) g
theorem Ak6 a b c:A8 E56 0 4 (code f34) 58 (Aik a b c) (G7 a b c) (AfT a b c):=by
 intro _;simp(disch:=refine id ?_;kernel_rfl) only[G7,Kd,Ax1,SY,AO (Ak5 _ _ _ _ _ _) (K:=L5 E56 0 4)];kernel_rfl
def L1(a:Ayg)(q:Ayb):Ay0 Bool:=
 bif (q.1.length:Int) !=(a.length:Int)then
 some false
 else
 (SZ a q.1 (q.1.length:Int) 0).bind (Sum.elim (λd=>some false) (λe=>some true))
def c34:=Ff [.d AyT,.d Ai] [⟨[.Aw [] AyT,.Aw [] Ai],[],Bool,λp=>L1 p.1.1 p.1.2.1,λr=>(dB r,[])⟩]
theorem lL:Am prog 34 c34:=Ax (fn:=f34) ⟨⟨E56,pk ⟨Tw,trivial⟩,λ_ R K=>by
 simp(disch:=refine id ?_;kernel_rfl) only[L1,Ax2,SZ,AO (Ak6 _ _ _) (K:=A6 E56 f34 0 R K)];kernel_rfl⟩,trivial⟩
abbrev E57:=eN [(34,c34),(38,c38)] {}
def Hu(a:Ayg)(b:Ayb):Ay0 Bool:=
 (Ms a).bind λc=>bif c then
 (L1 a b).bind λd=>some d
 else
 some false
def c11:=Ff [.d AyT,.d Ai] [⟨[.Aw [] AyT,.Aw [] Ai],[],Bool,λp=>Hu p.1.1 p.1.2.1,λr=>(dB r,[])⟩]
theorem XG:Am prog 11 c11:=Ax (fn:=f11) ⟨⟨E57,pk ⟨lL,xG,trivial⟩,λ_ R K=>by
 simp only[Hu,Ax2];kernel_rfl⟩,trivial⟩
abbrev E58:=eN [] {}
def BR(a:Int):Int:=(wI (Int.tdiv (wI (a+63)) 64))
def AcB:=Ff [.d AyN] [⟨[.Aw [] AyN],[],Int,λp=>some (BR p.1.1),λr=>(dI r,[])⟩]
theorem fv:Am prog 177 AcB:=Ax (fn:=f177) ⟨⟨E58,pk trivial,λ_ _ _=>by kernel_rfl⟩,trivial⟩
abbrev E59:=eN [(68,c68),(177,AcB)] {B5:=[(2,[1,16])],EO:=[(2,[1])]}
def Aak a:=sT 35 [(1,Aq)] [.box (O8 a)]
def qO(a:Ax3)(m0:Bool):Ex×St:=xN 35 [(1,Aq),(16,dB m0)] [.box (O8 a)]
theorem Ak7 a:S1 E59 0 2 (code f171) (pt 12) (Aak a)=some (qO a ((!(AE a.1 1 4096))||((a.2.1.length:Int) !=(BR a.1)))):=by
 refine .trans (b:=
 bif !(AE a.1 1 4096)then
 some (qO a true)
 else
 some (qO a ((a.2.1.length:Int) !=(BR a.1)))) (by kernel_rfl) ?_
 cases (!(AE a.1 1 4096));rfl;rfl
def LY(a:Ax3):Ay0 Bool:=
 Np (Aak a) (
 bif (!(AE a.1 1 4096))||((a.2.1.length:Int) !=(BR a.1))then
 some false
 else
 bif (Int.tmod a.1 64)==0 then
 some true
 else
 if 0<=(wI ((a.2.1.length:Int)-1))/\(wI ((a.2.1.length:Int)-1))<a.2.1.length then
 if(Int.tmod a.1 64)<(0:Int)then none else
 some ((Ju .u64 (a.2.1.getD (wI ((a.2.1.length:Int)-1)).toNat AyO.zero) (Int.tmod a.1 64))==0)
 else none)
def AmZ:=Ff [.d AB] [⟨[.Aw [] AB],[],Bool,λp=>LY p.1.1,λr=>(dB r,[])⟩]
theorem sc:Am prog 171 AmZ:=Ax (fn:=f171) ⟨⟨E59,pk ⟨Tw,fv,trivial⟩,λ_ R K=>by
 simp(disch:=refine id ?_;kernel_rfl) only[LY,Ax2,EM (Ak7 _) (K:=A6 E59 f171 0 R K)];kernel_rfl⟩,trivial⟩
abbrev bZ:=eN [(68,c68),(171,AmZ)] {Bv:=[(11,[8,80,81,82])],CM:=[(11,[8])],B5:=[(4,[0,1,2,7]),(5,[0,1,2,7,17]),(7,[0,2,7,46]),(9,[0,2,7,69]),(19,[0,7,95]),(21,[0,7,137]),(23,[0,7,163]),(25,[0,7,184])],EO:=[(4,[0,1,2,7]),(5,[0,1,2,7]),(7,[0,2,7]),(9,[0,2,7]),(19,[0,7]),(21,[0,7]),(23,[0,7]),(25,[0,7])]}
def Aaq a b:=sT 203 (nD a b) []
def qQ(a:Ax7)(b:Int)(m0:Bool):Ex×St:=xN 203 [(0,.D7 [] Ad a),(7,dI b),(184,dB m0)] []
theorem Alg a b:S1 bZ 0 25 (code f140) (pt 1998846) (Aaq a b)=some (qQ a b ((a.1==9)&&(AE a.2.2.1 1 4096))):=by
 refine .trans (b:=
 bif a.1==9 then
 some (qQ a b (AE a.2.2.1 1 4096))
 else
 some (qQ a b false)) (by kernel_rfl) ?_
 cases (a.1==9);rfl;rfl
def Aap a b:=sT 203 (nD a b) []
def lr(a:Ax7)(b:Int)(m0:Bool):Ex×St:=xN 203 [(0,.D7 [] Ad a),(7,dI b),(163,dB m0)] []
theorem Alf a b:S1 bZ 0 23 (code f140) (pt 499710) (Aap a b)=some (lr a b (bif a.1==7 then(AE a.2.2.1 0 4096)else((a.1==8)&&(AE a.2.2.1 0 4096)))):=by
 refine .trans (b:=
 bif a.1==7 then
 some (lr a b (AE a.2.2.1 0 4096))
 else
 bif a.1==8 then
 some (lr a b (AE a.2.2.1 0 4096))
 else
 some (lr a b false)) (by kernel_rfl) ?_
 cases (a.1==7);cases (a.1==8);rfl;rfl;rfl
def Aao a b:=sT 203 (nD a b) []
def lq(a:Ax7)(b:Int)(m0:Bool):Ex×St:=xN 203 [(0,.D7 [] Ad a),(7,dI b),(137,dB m0)] []
theorem Ale a b:S1 bZ 0 21 (code f140) (pt 124926) (Aao a b)=some (lq a b (bif a.1==5 then(AE a.2.2.1 0 4096)else((a.1==6)&&(AE a.2.2.1 0 4096)))):=by
 refine .trans (b:=
 bif a.1==5 then
 some (lq a b (AE a.2.2.1 0 4096))
 else
 bif a.1==6 then
 some (lq a b (AE a.2.2.1 0 4096))
 else
 some (lq a b false)) (by kernel_rfl) ?_
 cases (a.1==5);cases (a.1==6);rfl;rfl;rfl
def Aan a b:=sT 203 (nD a b) []
def eU(a:Ax7)(b:Int)(m0:Bool):Ex×St:=xN 203 [(0,.D7 [] Ad a),(7,dI b),(95,dB m0)] []
theorem Ald a b:S1 bZ 0 19 (code f140) (pt 31230) (Aan a b)=some (eU a b ((a.1==4)&&((decide (a.2.2.2.1>=0))&&((decide (a.2.2.2.1<=a.2.2.1))&&(decide (a.2.2.1<b)))))):=by
 refine .trans (b:=
 bif a.1==4 then
 bif decide (a.2.2.2.1>=0)then
 bif decide (a.2.2.2.1<=a.2.2.1)then
 some (eU a b (decide (a.2.2.1<b)))
 else
 some (eU a b false)
 else
 some (eU a b false)
 else
 some (eU a b false)) (by kernel_rfl) ?_
 cases (a.1==4);rfl;cases (decide (a.2.2.2.1>=0));rfl;cases (decide (a.2.2.2.1<=a.2.2.1));rfl;rfl
def Ain c d (z_:Int×Int):=sT 203 [(8,dI z_.1),(80,HY c),(81,dI d),(82,dI z_.2)] []
def AfW(c:Ayd)(d:Int):=λ(e:Int)=>xE 1 203 [(8,dI e)] []
def FM(c:Ayd)(d g i:Int):Ay0 (AyC⊕Int):=
 bif decide (i<d)then
 if 0<=i/\i<c.length then
 some (.inl (wI (g+(c.getD i.toNat AyN.zero)),wI (i+1)))
 else none
 else
 some (.inr g)
def B3 c d (z_:Int×Int):=FM c d z_.1 z_.2
def KQ c d g i:=fix (B3 c d) (g,i)
theorem Alc c d:A8 bZ 0 11 (code f140) 62442 (Ain c d) (B3 c d) (AfW c d):=by
 intro _;simp only[B3,FM,Ax1];kernel_rfl
def Aam a c b:=sT 203 [(0,.D7 [] Ad a),(2,HY c),(7,dI b)] []
def qP(a:Ax7)(c:Ayd)(b:Int)(m0:Bool):Ex×St:=xN 203 [(0,.D7 [] Ad a),(2,HY c),(7,dI b),(69,dB m0)] []
theorem Alb a c b:S1 bZ 0 9 (code f140) (pt 1950) (Aam a c b)=some (qP a c b ((a.1==3)&&(decide ((c.length:Int)>1)))):=by
 refine .trans (b:=
 bif a.1==3 then
 some (qP a c b (decide ((c.length:Int)>1)))
 else
 some (qP a c b false)) (by kernel_rfl) ?_
 cases (a.1==3);rfl;rfl
def Aim a c b:=sT 203 [(0,.D7 [] Ad a),(2,HY c),(7,dI b)] []
def AfV a c b:=λ(j:Bool)=>xN 203 [(0,.D7 [] Ad a),(2,HY c),(7,dI b),(46,dB j)] []
def Es(a:Ax7)(c:Ayd)(b:Int):Ay0 Bool:=
 bif a.1==2 then
 bif (c.length:Int)==0 then
 (LY a.2.2.2.2.1).bind λk=>some k
 else
 some false
 else
 some false
theorem Ala a c b:AX bZ 0 7 (code f140) 486 (Aim a c b) (Es a c b) (AfV a c b):=by
 unfold AX;simp only[Es,Ax1];kernel_rfl
def Aal a l c b:=sT 203 [(0,.D7 [] Ad a),(1,Aj l),(2,HY c),(7,dI b)] []
def lp(a:Ax7)(l:Ayg)(c:Ayd)(b:Int)(m0:Bool):Ex×St:=xN 203 [(0,.D7 [] Ad a),(1,Aj l),(2,HY c),(7,dI b),(17,dB m0)] []
theorem Ak9 a l c b:S1 bZ 0 5 (code f140) (pt 120) (Aal a l c b)=some (lp a l c b ((a.1==1)&&(((c.length:Int)==0)&&(AE a.2.1 0 (wI ((l.length:Int)-1)))))):=by
 refine .trans (b:=
 bif a.1==1 then
 bif (c.length:Int)==0 then
 some (lp a l c b (AE a.2.1 0 (wI ((l.length:Int)-1))))
 else
 some (lp a l c b false)
 else
 some (lp a l c b false)) (by kernel_rfl) ?_
 cases (a.1==1);rfl;cases ((c.length:Int)==0);rfl;rfl
def Ail a l c:=sT 203 [(0,.D7 [] Ad a),(1,Aj l),(2,HY c),(7,dI 0)] []
def AfU a l c:=λ(b:Int)=>xN 203 [(0,.D7 [] Ad a),(1,Aj l),(2,HY c),(7,dI b)] []
def Er(a:Ax7)(l:Ayg)(c:Ayd):Ay0 Int:=
 bif decide ((c.length:Int)>0)then
 if(0:Int)<=(0:Int)/\(0:Int)<(c.length:Int)then
 some (c.getD 0 AyN.zero)
 else none
 else
 some 0
theorem Ak8 a l c:AX bZ 0 4 (code f140) 14 (Ail a l c) (Er a l c) (AfU a l c):=by
 unfold AX;simp only[Er,Ax1];kernel_rfl
def ER(a:Ax7)(l:Ayg)(c:Ayd):Ay0 Int:=
 (Er a l c).bind λb=>Np (Aal a l c b) (
 bif (a.1==1)&&(((c.length:Int)==0)&&(AE a.2.1 0 (wI ((l.length:Int)-1))))then
 if(0:Int)<=a.2.1/\a.2.1<(l.length:Int)then
 some (l.getD a.2.1.toNat Ab.zero).2.1
 else none
 else
 (Es a c b).bind λj=>bif j then
 some a.2.2.2.2.1.1
 else
 Np (Aam a c b) (
 bif (a.1==3)&&(decide ((c.length:Int)>1))then
 (KQ c (c.length:Int) 0 0).bind λe=>some e
 else
 bif (c.length:Int) !=1 then
 some (-1)
 else
 Np (Aan a b) (
 bif (a.1==4)&&((decide (a.2.2.2.1>=0))&&((decide (a.2.2.2.1<=a.2.2.1))&&(decide (a.2.2.1<b))))then
 some (wI ((wI (a.2.2.1-a.2.2.2.1))+1))
 else
 Np (Aao a b) (
 bif bif (a.1==5)then(AE a.2.2.1 0 4096)else((a.1==6)&&(AE a.2.2.1 0 4096))then
 some (wI (b+a.2.2.1))
 else
 Np (Aap a b) (
 bif bif (a.1==7)then(AE a.2.2.1 0 4096)else((a.1==8)&&(AE a.2.2.1 0 4096))then
 some b
 else
 Np (Aaq a b) (
 bif (a.1==9)&&(AE a.2.2.1 1 4096)then
 some (wI (b*a.2.2.1))
 else
 some (-1)))))))
def AmQ:=Ff [.p Ad,.d AyT,.d AyR] [⟨[.D7 [] Ad,.Aw [] AyT,.Aw [] AyR],[],Int,λp=>ER p.1.1 p.1.2.1 p.1.2.2.1,λr=>(dI r,[])⟩]
theorem rW:Am prog 140 AmQ:=Ax (fn:=f140) ⟨⟨bZ,pk ⟨Tw,sc,trivial⟩,λ_ R K=>by
 simp(disch:=refine id ?_;kernel_rfl) only[ER,Ax2,A7 (Ak8 ..) (K:=A6 bZ f140 0 R K),EM (Ak9 ..) (K:=A6 bZ f140 0 R K),A7 (Ala ..) (K:=A6 bZ f140 0 R K),EM (Alb ..) (K:=A6 bZ f140 0 R K),KQ,AO (Alc _ _) (K:=A6 bZ f140 0 R K),EM (Ald ..) (K:=A6 bZ f140 0 R K),EM (Ale ..) (K:=A6 bZ f140 0 R K),EM (Alf ..) (K:=A6 bZ f140 0 R K),EM (Alg ..) (K:=A6 bZ f140 0 R K)];kernel_rfl⟩,trivial⟩
abbrev E61:=eN [] {B5:=[(2,[0,3]),(3,[0,52])],EO:=[(2,[0]),(3,[0,3])]}
def Aas a:=sT 75 [(0,.D7 [] Ad a),(3,dB ((decide (a.1>=4))&&(decide (a.1<=9))))] []
def RR(a:Ax7)(m0:Bool):Ex×St:=xN 75 [(0,.D7 [] Ad a),(52,dB m0)] []
theorem Ali a:S1 E61 0 3 (code f141) (pt 28) (Aas a)=some (RR a (bif !((decide (a.1>=4))&&(decide (a.1<=9)))then((a.2.2.1 !=0)||(bif a.1 !=4 then((a.2.2.2.1 !=0)||((a.1 !=1)&&(a.2.1 !=0)))else((a.1 !=1)&&(a.2.1 !=0))))else(bif a.1 !=4 then((a.2.2.2.1 !=0)||((a.1 !=1)&&(a.2.1 !=0)))else((a.1 !=1)&&(a.2.1 !=0))))):=by
 refine .trans (b:=
 bif !((decide (a.1>=4))&&(decide (a.1<=9)))then
 bif a.2.2.1 !=0 then
 some (RR a true)
 else
 bif a.1 !=4 then
 bif a.2.2.2.1 !=0 then
 some (RR a true)
 else
 bif a.1 !=1 then
 some (RR a (a.2.1 !=0))
 else
 some (RR a false)
 else
 bif a.1 !=1 then
 some (RR a (a.2.1 !=0))
 else
 some (RR a false)
 else
 bif a.1 !=4 then
 bif a.2.2.2.1 !=0 then
 some (RR a true)
 else
 bif a.1 !=1 then
 some (RR a (a.2.1 !=0))
 else
 some (RR a false)
 else
 bif a.1 !=1 then
 some (RR a (a.2.1 !=0))
 else
 some (RR a false)) (by kernel_rfl) ?_
 cases (!((decide (a.1>=4))&&(decide (a.1<=9))));cases (a.1 !=4);cases (a.1 !=1);rfl;rfl;cases (a.2.2.2.1 !=0);cases (a.1 !=1);rfl;rfl;rfl;cases (a.2.2.1 !=0);cases (a.1 !=4);cases (a.1 !=1);rfl;rfl;cases (a.2.2.2.1 !=0);cases (a.1 !=1);rfl;rfl;rfl;rfl
def Aar a:=sT 75 [(0,.D7 [] Ad a)] []
def qR(a:Ax7)(m0:Bool):Ex×St:=xN 75 [(0,.D7 [] Ad a),(3,dB m0)] []
theorem Alh a:S1 E61 0 2 (code f141) (pt 6) (Aar a)=some (qR a ((decide (a.1>=4))&&(decide (a.1<=9)))):=by
 refine .trans (b:=
 bif decide (a.1>=4)then
 some (qR a (decide (a.1<=9)))
 else
 some (qR a false)) (by kernel_rfl) ?_
 cases (decide (a.1>=4));rfl;rfl
def Df(a:Ax7):Bool:=((!(bif !((decide (a.1>=4))&&(decide (a.1<=9)))then((a.2.2.1 !=0)||(bif a.1 !=4 then((a.2.2.2.1 !=0)||((a.1 !=1)&&(a.2.1 !=0)))else((a.1 !=1)&&(a.2.1 !=0))))else(bif a.1 !=4 then((a.2.2.2.1 !=0)||((a.1 !=1)&&(a.2.1 !=0)))else((a.1 !=1)&&(a.2.1 !=0)))))&&((a.1==2)||((a.2.2.2.2.1.1==0)&&((a.2.2.2.2.1.2.1.length:Int)==0))))
theorem U61 R a K:RA E61 f141 R [.D7 [] Ad a] [] K=K (dB (Df a)) []:=by
 refine .trans (b:=
 Np (Aar a) (
 Np (Aas a) (
 bif bif (!((decide (a.1>=4))&&(decide (a.1<=9))))then((a.2.2.1 !=0)||(bif (a.1 !=4)then((a.2.2.2.1 !=0)||((a.1 !=1)&&(a.2.1 !=0)))else((a.1 !=1)&&(a.2.1 !=0))))else(bif (a.1 !=4)then((a.2.2.2.1 !=0)||((a.1 !=1)&&(a.2.1 !=0)))else((a.1 !=1)&&(a.2.1 !=0)))then
 K (dB false) []
 else
 bif a.1==2 then
 K (dB true) []
 else
 bif a.2.2.2.2.1.1==0 then
 K (dB ((a.2.2.2.2.1.2.1.length:Int)==0)) []
 else
 K (dB false) []))) (by
  simp(disch:=refine id ?_;kernel_rfl) only[EM (Alh _) (K:=A6 E61 f141 0 R K),EM (Ali _) (K:=A6 E61 f141 0 R K)];kernel_rfl) ?_
 unfold Df;cases (bif !((decide (a.1>=4))&&(decide (a.1<=9)))then((a.2.2.1 !=0)||(bif a.1 !=4 then((a.2.2.2.1 !=0)||((a.1 !=1)&&(a.2.1 !=0)))else((a.1 !=1)&&(a.2.1 !=0))))else(bif a.1 !=4 then((a.2.2.2.1 !=0)||((a.1 !=1)&&(a.2.1 !=0)))else((a.1 !=1)&&(a.2.1 !=0))));cases (a.1==2);cases (a.2.2.2.2.1.1==0);rfl;rfl;rfl;rfl
def AmR:=Ff [.p Ad] [⟨[.D7 [] Ad],[],Bool,λp=>some (Df p.1.1),λr=>(dB r,[])⟩]
theorem rX:Am prog 141 AmR:=Ax ⟨⟨E61,pk trivial,λ_ _ _=>U61 ..⟩,trivial⟩
abbrev E62:=eN [] {Bv:=[(2,[0,1,7,8])],CM:=[(2,[4])]}
def Aio a b c (z_:Int):=sT 19 [(0,N1 a),(1,dB b),(7,dI c),(8,dI z_)] []
def AfX(a:Aye)(b:Bool)(c:Int):=Sum.elim (λ(d:Int)=>xR 19 [(4,dI d)] []) (λ(e:Unit)=>xE 0 19 [] [])
def EI(a:Aye)(b:Bool)(c g:Int):Ay0 (Int⊕(Int⊕Unit)):=
 bif decide (g<c)then
 if 0<=g/\g<a.length then
 bif b==(a.getD g.toNat (Ty.zero .bool))then
 some (.inr (.inl g))
 else
 some (.inl (wI (g+1)))
 else none
 else
 some (.inr (.inr ()))
def CU a b c (z_:Int):=EI a b c z_
def On a b c g:=fix (CU a b c) g
theorem Alj a b c:A8 E62 0 2 (code f172) 26 (Aio a b c) (CU a b c) (AfX a b c):=by
 intro _;simp only[CU,EI,Ax1];kernel_rfl
def MG(a:Aye)(b:Bool):Ay0 Int:=
 (On a b (a.length:Int) 0).bind (Sum.elim (λd=>some d) (λe=>some (-1)))
def Am0:=Ff [.d AyU,.d .bool] [⟨[.Aw [] AyU,.Aw [] .bool],[],Int,λp=>MG p.1.1 p.1.2.1,λr=>(dI r,[])⟩]
theorem se:Am prog 172 Am0:=Ax (fn:=f172) ⟨⟨E62,pk trivial,λ_ R K=>by
 simp(disch:=refine id ?_;kernel_rfl) only[MG,Ax2,On,AO (Alj _ _ _) (K:=A6 E62 f172 0 R K)];kernel_rfl⟩,trivial⟩
abbrev E63:=eN [(172,Am0)] {}
def Gc(a:Aye)(b:Bool):Ay0 Bool:=
 (MG a b).bind λc=>some (decide (c>=0))
def AmS:=Ff [.d AyU,.d .bool] [⟨[.Aw [] AyU,.Aw [] .bool],[],Bool,λp=>Gc p.1.1 p.1.2.1,λr=>(dB r,[])⟩]
theorem rY:Am prog 142 AmS:=Ax (fn:=f142) ⟨⟨E63,pk ⟨se,trivial⟩,λ_ R K=>by
 simp only[Gc,Ax2];kernel_rfl⟩,trivial⟩
end
end Go.Proofs.X
namespace Go.Proofs.X
open Go Go.Va Go.Proofs.Tryz
set_option maxRecDepth 100000
noncomputable section
abbrev qf:=eN [(68,c68),(140,AmQ),(141,AmR),(142,AmS)] {Bv:=[(6,[0,3,6,7,8,29,30]),(13,[0,3,6,7,8,9,10,11,29,30,52,53,54])],CM:=[(6,{Bb:=[4,5,6,7,8],Ph:=[(8,false,AyU)]}),(13,{Bb:=[0,3,4,5,6,7,8,9,10,11,29,30],Ph:=[(11,false,AyR)]})],B5:=[(3,[0,3,6,22]),(21,[0,3,6,7,8,29,30,92])],Vv:=[(4,{Bb:=[0,3,6,7,8],PO:=true})],EO:=[(3,[0,3,6]),(21,[0,3,6,7,8,9,10,29,30])],W5:=[(4,[0,3,6])],jo:=[(0,.row [] 2 AyN true)]}
def Air a b c d (z_:Int×Ayd×Aye):=sT 101 [(0,Aj a),(3,Aq),(6,dI c),(7,.AA 1),(8,.AA 2),(29,dI d),(30,dI z_.1)] (eD b z_.2.1 z_.2.2)
def Af0(a:Ayg)(b:Ax4) c (d:Int):=Sum.elim (λ(e:AyH)=>xR 101 [(4,.zs),(5,dB false),(6,dI c),(7,.AA 0),(8,N1 e.1)] [B4 e.2]) (λ(g:AyH)=>xE 0 101 [(6,dI c),(7,.AA 0),(8,N1 g.1)] [B4 g.2])
def Aiq a c i d b j k l:=sT 101 [(0,Aj a),(3,Aq),(6,dI c),(7,.AA 1),(8,.AA 2),(9,dI i),(10,.D7 [] Ad j),(29,dI d),(30,dI i)] (eD b k l)
def AfZ a c i d b (j:Ax7) k l:=λ(n:Bool)=>xN 101 [(0,Aj a),(3,Aq),(6,dI c),(7,.AA 1),(8,.AA 2),(29,dI d),(30,dI i),(92,dB n)] (eD b k l)
def MA(a:Ayg)(c i d:Int)(b:Ax4)(j:Ax7)(k:Ayd)(l:Aye):Ay0 Bool:=
 bif !(Df j)then
 some true
 else
 if 0<=i/\i<k.length then
 some (!(AE (k.getD i.toNat AyN.zero) 1 4096))
 else none
theorem Alo a c i d b j k l:AX qf 0 21 (cd f98 500) 3710 (Aiq a c i d b j k l) (MA a c i d b j k l) (AfZ a c i d b j k l):=by
 unfold AX;simp only[MA,Ax1];kernel_rfl
def Aip a c i d b o q s t (z_:Int×Aye×Ayd):=sT 101 [(0,Aj a),(3,Aq),(6,dI c),(7,.AA 1),(8,.AA 2),(9,dI i),(10,.D7 [] Ad q),(11,.AA 3),(29,dI d),(30,dI i),(52,HY s),(53,dI t),(54,dI z_.1)] [.box (NP b),B4 o,LK z_.2.1,B4 z_.2.2]
def AfY a c i d b o q (s:Ayd) (t:Int):=Sum.elim (λ(u:(Ayd×Aye))=>xR 101 [(0,Aj a),(3,Aq),(4,.zs),(5,dB false),(6,dI c),(7,.AA 1),(8,.AA 2),(9,dI i),(10,.D7 [] Ad q),(11,HY u.1),(29,dI d),(30,dI i)] (eD b o u.2)) (λ(v:(Ayd×Aye))=>xE 2 101 [(0,Aj a),(3,Aq),(6,dI c),(7,.AA 1),(8,.AA 2),(9,dI i),(10,.D7 [] Ad q),(11,HY v.1),(29,dI d),(30,dI i)] (eD b o v.2))
def Kh(a:Ayg)(c i d:Int)(b:Ax4)(o:Ayd)(q:Ax7)(s:Ayd)(t w:Int)(x:Aye)(y:Ayd):Ay0 ((Int×Aye×Ayd)⊕((Ayd×Aye)⊕(Ayd×Aye))):=
 bif decide (w<t)then
 if 0<=w/\w<s.length then
 bif !(AE (s.getD w.toNat AyN.zero) 0 (wI (i-1)))then
 some (.inr (.inl (y,x)))
 else
 if(0:Int)<=(s.getD w.toNat AyN.zero)/\(s.getD w.toNat AyN.zero)<(o.length:Int)then
 if(0:Int)<=(s.getD w.toNat AyN.zero)/\(s.getD w.toNat AyN.zero)<(x.length:Int)then
 if 0<=w/\w<y.length then
 some (.inl (wI (w+1),x.set (s.getD w.toNat AyN.zero).toNat true,y.set w.toNat (o.getD (s.getD w.toNat AyN.zero).toNat AyN.zero)))
 else none
 else none
 else none
 else none
 else
 some (.inr (.inr (y,x)))
def ET a c i d b o q s t (z_:Int×Aye×Ayd):=Kh a c i d b o q s t z_.1 z_.2.1 z_.2.2
def Mz a c i d b o q s t w x y:=fix (ET a c i d b o q s t) (w,x,y)
theorem Aln a c i d b o q s t:A8 qf 0 13 (cd f98 500) 3706 (Aip a c i d b o q s t) (ET a c i d b o q s t) (AfY a c i d b o q s t):=by
 intro _;simp only[ET,Kh,Ax1];kernel_rfl
def Ki(a:Ayg)(b:Ax4)(c d i:Int)(o:Ayd)(a1:Aye):Ay0 ((Int×Ayd×Aye)⊕(AyH⊕AyH)):=
 bif decide (i<d)then
 if 0<=i/\i<b.1.length then
 bif decide (((b.1.getD i.toNat Ad.zero).2.2.2.2.2.1.length:Int)>4096)then
 some (.inr (.inl (a1,o)))
 else
 if Ty.row AyN=true/\(0:Int)<=((b.1.getD i.toNat Ad.zero).2.2.2.2.2.1.length:Int)/\((b.1.getD i.toNat Ad.zero).2.2.2.2.2.1.length:Int)<=((b.1.getD i.toNat Ad.zero).2.2.2.2.2.1.length:Int)/\((8:Nat):Int)*((b.1.getD i.toNat Ad.zero).2.2.2.2.2.1.length:Int)<=(281474976710656:Int)/\((b.1.getD i.toNat Ad.zero).2.2.2.2.2.1.length:Int)<=(9223372036854775807:Int)then
 (Mz a c i d b o (b.1.getD i.toNat Ad.zero) (b.1.getD i.toNat Ad.zero).2.2.2.2.2.1 ((b.1.getD i.toNat Ad.zero).2.2.2.2.2.1.length:Int) 0 a1 (List.replicate ((b.1.getD i.toNat Ad.zero).2.2.2.2.2.1.length:Int).toNat 0)).bind (Sum.elim (λu=>some (.inr (.inl (u.2,o)))) (λv=>(ER (b.1.getD i.toNat Ad.zero) a v.1).bind λb1=>if 0<=i/\i<o.length then
 (MA a c i d b (b.1.getD i.toNat Ad.zero) (o.set i.toNat b1) v.2).bind λn=>bif n then
 some (.inr (.inl (v.2,o.set i.toNat b1)))
 else
 some (.inl (wI (i+1),o.set i.toNat b1,v.2))
 else none))
 else none
 else none
 else
 some (.inr (.inr (a1,o)))
def EU a b c d (z_:Int×Ayd×Aye):=Ki a b c d z_.1 z_.2.1 z_.2.2
def Py a b c d i o a1:=fix (EU a b c d) (i,o,a1)
theorem Alp a b c d:A8 qf 0 6 (code f98) 250 (Air a b c d) (EU a b c d) (Af0 a b c d):=by
 intro _;simp(disch:=refine id ?_;kernel_rfl) only[EU,Ki,Ax1,Mz,AO (Aln _ _ _ _ _ _ _ _ _) (K:=L5 qf 0 6),A7 (Alo ..) (K:=L5 qf 0 6)];kernel_rfl
def Aau a b c1:=sT 101 [(0,Aj a),(3,Aq),(6,dI c1)] [.box (NP b)]
def lu a b c1:=λ(d1:(Ayd×Aye))=>sT 101 [(0,Aj a),(3,Aq),(6,dI c1),(7,.AA 1),(8,.AA 2)] (eD b d1.1 d1.2)
def JG(a:Ayg)(b:Ax4)(c1:Int):Ay0 (Ayd×Aye):=
 if Ty.row AyN=true/\(0:Int)<=c1/\c1<=c1/\((8:Nat):Int)*c1<=(281474976710656:Int)/\c1<=(9223372036854775807:Int)then
 if Ty.row .bool=true/\(0:Int)<=c1/\c1<=c1/\((1:Nat):Int)*c1<=(281474976710656:Int)/\c1<=(9223372036854775807:Int)then
 some (List.replicate c1.toNat 0,List.replicate c1.toNat false)
 else none
 else none
theorem Alm(a:Ayg)(b:Ax4)(c1:Int):KM qf 0 4 (code f98) 30 (Aau a b c1) (JG a b c1) (lu a b c1):=by
 unfold KM;have h:eL qf 0 4 (code f98) (pt 30) (Aau a b c1) =
 if Ty.row AyN=true/\(0:Int)<=c1/\c1<=c1/\((8:Nat):Int)*c1<=(281474976710656:Int)/\c1<=(9223372036854775807:Int)then
 if Ty.row .bool=true/\(0:Int)<=c1/\c1<=c1/\((1:Nat):Int)*c1<=(281474976710656:Int)/\c1<=(9223372036854775807:Int)then
 (((if Ty.row AyN=true/\(0:Int)<=c1/\c1<=c1/\((8:Nat):Int)*c1<=(281474976710656:Int)/\c1<=(9223372036854775807:Int)then
 if Ty.row .bool=true/\(0:Int)<=c1/\c1<=c1/\((1:Nat):Int)*c1<=(281474976710656:Int)/\c1<=(9223372036854775807:Int)then
 GG (lu a b c1 (List.replicate c1.toNat 0,List.replicate c1.toNat false))
 else none
 else none).bind λ_=>if Ty.row .bool=true/\(0:Int)<=c1/\c1<=c1/\((1:Nat):Int)*c1<=(281474976710656:Int)/\c1<=(9223372036854775807:Int)then
 if Ty.row AyN=true/\(0:Int)<=c1/\c1<=c1/\((8:Nat):Int)*c1<=(281474976710656:Int)/\c1<=(9223372036854775807:Int)then
 GG (lu a b c1 (List.replicate c1.toNat 0,List.replicate c1.toNat false))
 else none
 else none).bind λ_=>some (lu a b c1 (List.replicate c1.toNat 0,List.replicate c1.toNat false)))
 else none
 else none:=by kernel_rfl
 rw[h];unfold JG;simp only[Ax1,mS,mO];clear h;by_cases DT:Ty.row AyN=true/\(0:Int)<=c1/\c1<=c1/\((8:Nat):Int)*c1<=(281474976710656:Int)/\c1<=(9223372036854775807:Int)
 ·rw[Awr DT,Awr DT];by_cases G3:Ty.row .bool=true/\(0:Int)<=c1/\c1<=c1/\((1:Nat):Int)*c1<=(281474976710656:Int)/\c1<=(9223372036854775807:Int)
  ·rw[Awr G3,Awr G3];simp only[Awr DT,Awr G3,AwS,Av9,GG,CX]
  ·simp only[Awr DT,AwS,Aws G3]
 ·simp only[AwS,Aws DT]
def Aat a (b:Ax4):=sT 101 [(0,Aj a),(3,Aq),(6,dI (b.1.length:Int))] [.box (NP b)]
def qS(a:Ayg)(b:Ax4)(m0:Bool):Ex×St:=xN 101 [(0,Aj a),(3,Aq),(6,dI (b.1.length:Int)),(22,dB m0)] [.box (NP b)]
theorem Alk a b:S1 qf 0 3 (code f98) (pt 28) (Aat a b)=some (qS a b ((decide ((b.1.length:Int)<1))||(decide ((b.1.length:Int)>400)))):=by
 refine .trans (b:=
 bif decide ((b.1.length:Int)<1)then
 some (qS a b true)
 else
 some (qS a b (decide ((b.1.length:Int)>400)))) (by kernel_rfl) ?_
 cases (decide ((b.1.length:Int)<1));rfl;rfl
def Oc(a:Ayg)(b:Ax4):Ay0 (Bool×Ayd):=
 Np (Aat a b) (
 bif (decide ((b.1.length:Int)<1))||(decide ((b.1.length:Int)>400))then
 some (false,([]:Ayd))
 else
 (JG a b (b.1.length:Int)).bind λd1=>(Py a b (b.1.length:Int) (b.1.length:Int) 0 d1.1 d1.2).bind (Sum.elim (λe=>some (false,([]:Ayd))) (λg=>if(0:Int)<=(0:Int)/\(0:Int)<=(wI ((b.1.length:Int)-1))/\(wI ((b.1.length:Int)-1))<=(g.1.length:Int)then
 (Gc ((g.1.take (wI ((b.1.length:Int)-1)).toNat).drop 0) false).bind λe1=>some (!e1,g.2)
 else none)))
def c98:=Ff [.d AyT,.d AJ] [⟨[.Aw [] AyT,.Aw [] AJ],[],Bool×Ayd,λp=>Oc p.1.1 p.1.2.1,λr=>(.cons (.AA 0) (.cons (dB r.1) .nil),[B4 r.2])⟩]
theorem ya:Am prog 98 c98:=Ax (fn:=f98) ⟨⟨qf,pk ⟨Tw,rW,rX,rY,trivial⟩,λ_ R K=>by
 simp(disch:=refine id ?_;kernel_rfl) only[Oc,Ax2,EM (Alk ..) (K:=A6 qf f98 0 R K),OT (Alm ..) (K:=A6 qf f98 0 R K),Py,AO (Alp _ _ _ _) (K:=A6 qf f98 0 R K)];kernel_rfl⟩,trivial⟩
abbrev E65:=eN [(98,c98)] {}
def HH(a:Ayg)(b:Ax4):Ay0 Int:=
 (Oc a b).bind λc=>bif !c.1 then
 some (-1)
 else
 if 0<=(wI ((c.2.length:Int)-1))/\(wI ((c.2.length:Int)-1))<c.2.length then
 some (c.2.getD (wI ((c.2.length:Int)-1)).toNat AyN.zero)
 else none
def c67:=Ff [.d AyT,.d AJ] [⟨[.Aw [] AyT,.Aw [] AJ],[],Int,λp=>HH p.1.1 p.1.2.1,λr=>(dI r,[])⟩]
theorem xS:Am prog 67 c67:=Ax (fn:=f67) ⟨⟨E65,pk ⟨ya,trivial⟩,λ_ R K=>by
 simp only[HH,Ax2];kernel_rfl⟩,trivial⟩
abbrev E66:=eN [(67,c67),(68,c68)] {Bv:=[(5,[0,5,12,13,14])],CM:=[(5,[4])],B5:=[(9,[0,7,12,13,14,39])],EO:=[(9,[0,5,7,8,12,13,14])]}
def Ait a b c (z_:Int×Int):=sT 43 [(0,Aj a),(5,dI z_.1),(12,Cu b),(13,dI c),(14,dI z_.2)] []
def Af2(a:Ayg)(b:Ayj)(c:Int):=Sum.elim (λ(d:Unit)=>xR 43 [(4,dB false)] []) (λ(e:Unit)=>xE 0 43 [] [])
def Ais a g i b c j k:=sT 43 [(0,Aj a),(5,dI g),(7,Aq),(8,dI i),(12,Cu b),(13,dI c),(14,dI j)] [.box (dD Af k)]
def Af1 a (g:Int) (i:Int) b c j k:=λ(l:Bool)=>xN 43 [(0,Aj a),(7,Aq),(12,Cu b),(13,dI c),(14,dI j),(39,dB l)] [.box (dD Af k)]
def Fq(a:Ayg)(g i:Int)(b:Ayj)(c j:Int)(k:Ax9):Ay0 Bool:=
 bif !(AE k.1 (wI (g+1)) 1000000)then
 some true
 else
 bif decide (i<0)then
 some true
 else
 (HH a k.2.2.2.1).bind λn=>some (i !=n)
theorem Alq a g i b c j k:AX E66 0 9 (cd f29 244) 460 (Ais a g i b c j k) (Fq a g i b c j k) (Af1 a g i b c j k):=by
 unfold AX;simp only[Fq,Ax1];kernel_rfl
def F7(a:Ayg)(b:Ayj)(c g j:Int):Ay0 (AyC⊕(Unit⊕Unit)):=
 bif decide (j<c)then
 if 0<=j/\j<b.length then
 (HH a (b.getD j.toNat Af.zero).2.2.1).bind λi=>(Fq a g i b c j (b.getD j.toNat Af.zero)).bind λl=>bif l then
 some (.inr (.inl ()))
 else
 some (.inl ((b.getD j.toNat Af.zero).1,wI (j+1)))
 else none
 else
 some (.inr (.inr ()))
def CG a b c (z_:Int×Int):=F7 a b c z_.1 z_.2
def Pv a b c g j:=fix (CG a b c) (g,j)
theorem Alr a b c:A8 E66 0 5 (code f29) 122 (Ait a b c) (CG a b c) (Af2 a b c):=by
 intro _;simp(disch:=refine id ?_;kernel_rfl) only[CG,F7,Ax1,A7 (Alq ..) (K:=L5 E66 0 5)];kernel_rfl
def H8(a:Ayg)(b:Ayj):Ay0 Bool:=
 bif decide ((b.length:Int)>60)then
 some false
 else
 (Pv a b (b.length:Int) 0 0).bind (Sum.elim (λd=>some false) (λe=>some true))
def c29:=Ff [.d AyT,.d AyW] [⟨[.Aw [] AyT,.Aw [] AyW],[],Bool,λp=>H8 p.1.1 p.1.2.1,λr=>(dB r,[])⟩]
theorem xw:Am prog 29 c29:=Ax (fn:=f29) ⟨⟨E66,pk ⟨xS,Tw,trivial⟩,λ_ R K=>by
 simp(disch:=refine id ?_;kernel_rfl) only[H8,Ax2,Pv,AO (Alr _ _ _) (K:=A6 E66 f29 0 R K)];kernel_rfl⟩,trivial⟩
noncomputable def Am1:Va.Callee:=Wr 101 AyO 8
noncomputable abbrev Am9:Fe:={C6:=C6,yu:=L4 [],fi:={}}
theorem yj:Hy Tryz.prog Am9:=(pk (l:=[]) trivial)
theorem sf:Am Tryz.prog 173 Am1:=
 aC (fn:=Tryz.f173) yj (by kernel_rfl) (by kernel_rfl) rfl rfl rfl ⟨rfl,rfl,rfl⟩ ⟨rfl,rfl,rfl⟩ (ti:=⟨.sl AyO,[],101,24,0,0,false⟩) (by kernel_rfl) rfl (by kernel_rfl) (λxs=>by kernel_rfl) (λxs=>by kernel_rfl)
  λxs h=>by
   have h0:ev Am9 0 (sub (code Tryz.f173) [1,1]) (Ex×St) ⟨[.Aw [] (.sl AyO) xs,.un 0,.zs,.Aw [] (.sl AyO) xs,.bool false,.un 0,.un 0,.un 0],[]⟩ Oe=if xs.length*8<=140737488355328 then some (.ret,⟨[.Aw [] (.sl AyO) xs,.un 0,.AA 0,.Aw [] (.sl AyO) xs,.bool false,.zs,.Aw [] (.sl AyO) xs,.AA 0],[Dt xs]⟩)else none:=by kernel_rfl
   exact h0.trans (Awr h)
abbrev E67:=eN [(173,Am1)] {}
def Fo(a:Ax3):Ay0 Ayv:=
 if a.2.1.length*8<=140737488355328 then
 some (a.1,a.2.1)
 else none
def Acy:=Ff [.d AB] [⟨[.Aw [] AB],[],Ayv,λp=>Fo p.1.1,λr=>(.pr (dI r.1) T9,[Dt r.2])⟩]
theorem fq:Am prog 144 Acy:=Ax (fn:=f144) ⟨⟨E67,pk ⟨sf,trivial⟩,λ_ R K=>by
 simp only[Fo,Ax2];kernel_rfl⟩,trivial⟩
abbrev E68:=eN [] {}
def Au(a:Int)(b:Ayd):AyB:=(-1,0,a,a,b)
def Acx:=Ff [.Sm] [⟨[.pr (.Aw [] AyN) (.pr (.k (.AA 0)) (.k .u))],[.row 101 .Ao AyO],AyB,λp=>some (Au p.1.1.1 p.2.1),λr=>(.pr (dI r.1) (.pr (dI r.2.1) (.pr (dI r.2.2.1) (.pr (.pr (dI r.2.2.2.1) T9) .u))),[Dt r.2.2.2.2])⟩]
theorem fp:Am prog 143 Acx:=Ax (fn:=f143) ⟨⟨E68,pk trivial,λ_ _ _=>by kernel_rfl⟩,trivial⟩
abbrev E69:=eN [] {}
def CP(a b:Ax8):Bool:=((a.1==b.1)&&((a.1==(-1))||((wI (a.2.1+a.2.2.1))==b.2.1)))
theorem U69 R a b K:RA E69 f174 R [Jr a,Jr b] [] K=K (dB (CP a b)) []:=by
 refine .trans (b:=
 bif a.1==b.1 then
 bif a.1==(-1)then
 K (dB true) []
 else
 K (dB ((wI (a.2.1+a.2.2.1))==b.2.1)) []
 else
 K (dB false) []) (by kernel_rfl) ?_
 unfold CP;cases (a.1==b.1);rfl;cases (a.1==(-1));rfl;rfl
def Am2:=Ff [.d Ae,.d Ae] [⟨[.Aw [] Ae,.Aw [] Ae],[],Bool,λp=>some (CP p.1.1 p.1.2.1),λr=>(dB r,[])⟩]
theorem si:Am prog 174 Am2:=Ax ⟨⟨E69,pk trivial,λ_ _ _=>U69 ..⟩,trivial⟩
abbrev E70:=eN [(177,AcB)] {}
def EL(a:Int):Ay0 Ayv:=
 if Ty.row AyO=true/\(0:Int)<=(BR a)/\(BR a)<=(BR a)/\((8:Nat):Int)*(BR a)<=(281474976710656:Int)/\(BR a)<=(9223372036854775807:Int)then
 some (a,List.replicate (BR a).toNat 0)
 else none
def xk:=Ff [.d AyN] [⟨[.Aw [] AyN],[],Ayv,λp=>EL p.1.1,λr=>(.pr (dI r.1) T9,[Dt r.2])⟩]
theorem X8:Am prog 148 xk:=Ax (fn:=f148) ⟨⟨E70,pk ⟨fv,trivial⟩,λ_ R K=>by
 simp only[EL,Ax2];kernel_rfl⟩,trivial⟩
abbrev E71:=eN [] {Bv:=[(2,[1,3,10,11,12])],CM:=[(2,{Bb:=[]})],B5:=[(7,[1,3,7,8,10,11,12,44]),(8,[1,3,10,11,12])],EO:=[(7,[1,3,7,8,10,11,12]),(8,[1,3,10,11,12])]}
def Aiv a b c d (z_:Int×Ayd):=sT 60 (wB a c d z_.1) [Dt z_.2,.box (.pr (dI b) T9)]
def Af4(a b:Int)(c:Ayd)(d:Int):=λ(e:Ayd)=>xE 0 60 [] [Dt e]
def Aiu a c d g i b:=sT 60 (wB a c d g) [Dt i,.box (.pr (dI b) T9)]
def Af3 a c d g (i:Ayd) b:=λ(j:Ayd)=>xN 60 (wB a c d g) [Dt j,.box (.pr (dI b) T9)]
def Aav a (c:Ayd) (g:Int) d (i:Ayd) b:=sT 60 [(1,dI a),(3,Ay),(7,N2 (c.getD g.toNat AyO.zero)),(8,dI (wI (a+(wI (64*g))))),(10,eC c),(11,dI d),(12,dI g)] [Dt (i.set (wI (Int.tdiv (wI (a+(wI (64*g)))) 64)).toNat (Xe .u64 (i.getD (wI (Int.tdiv (wI (a+(wI (64*g)))) 64)).toNat AyO.zero) (KW .u64 (c.getD g.toNat AyO.zero) (Int.tmod (wI (a+(wI (64*g)))) 64)))),.box (.pr (dI b) T9)]
def qT(a:Int)(c:Ayd)(g d:Int)(i:Ayd)(b:Int)(m0:Bool):Ex×St:=xN 60 [(1,dI a),(3,Ay),(7,N2 (c.getD g.toNat AyO.zero)),(8,dI (wI (a+(wI (64*g))))),(10,eC c),(11,dI d),(12,dI g),(44,dB m0)] [Dt (i.set (wI (Int.tdiv (wI (a+(wI (64*g)))) 64)).toNat (Xe .u64 (i.getD (wI (Int.tdiv (wI (a+(wI (64*g)))) 64)).toNat AyO.zero) (KW .u64 (c.getD g.toNat AyO.zero) (Int.tmod (wI (a+(wI (64*g)))) 64)))),.box (.pr (dI b) T9)]
theorem Als a c g d i b:S1 E71 1 7 (sb (cd f183 28) 14) (pt 46) (Aav a c g d i b)=some (qT a c g d i b (((Int.tmod (wI (a+(wI (64*g)))) 64) !=0)&&(decide ((wI ((wI (Int.tdiv (wI (a+(wI (64*g)))) 64))+1))<((i.set (wI (Int.tdiv (wI (a+(wI (64*g)))) 64)).toNat (Xe .u64 (i.getD (wI (Int.tdiv (wI (a+(wI (64*g)))) 64)).toNat AyO.zero) (KW .u64 (c.getD g.toNat AyO.zero) (Int.tmod (wI (a+(wI (64*g)))) 64)))).length:Int))))):=by
 refine .trans (b:=
 bif (Int.tmod (wI (a+(wI (64*g)))) 64) !=0 then
 some (qT a c g d i b (decide ((wI ((wI (Int.tdiv (wI (a+(wI (64*g)))) 64))+1))<((i.set (wI (Int.tdiv (wI (a+(wI (64*g)))) 64)).toNat (Xe .u64 (i.getD (wI (Int.tdiv (wI (a+(wI (64*g)))) 64)).toNat AyO.zero) (KW .u64 (c.getD g.toNat AyO.zero) (Int.tmod (wI (a+(wI (64*g)))) 64)))).length:Int))))
 else
 some (qT a c g d i b false)) (by kernel_rfl) ?_
 cases ((Int.tmod (wI (a+(wI (64*g)))) 64) !=0);rfl;rfl
def G5(a:Int)(c:Ayd)(d g:Int)(i:Ayd)(b:Int):Ay0 Ayd:=
 if 0<=g/\g<c.length then
 if 0<=(wI (Int.tdiv (wI (a+(wI (64*g)))) 64))/\(wI (Int.tdiv (wI (a+(wI (64*g)))) 64))<i.length then
 if(Int.tmod (wI (a+(wI (64*g)))) 64)<(0:Int)then none else
 if 0<=(wI (Int.tdiv (wI (a+(wI (64*g)))) 64))/\(wI (Int.tdiv (wI (a+(wI (64*g)))) 64))<i.length then
 Np (Aav a c g d i b) (
 bif ((Int.tmod (wI (a+(wI (64*g)))) 64) !=0)&&(decide ((wI ((wI (Int.tdiv (wI (a+(wI (64*g)))) 64))+1))<((i.set (wI (Int.tdiv (wI (a+(wI (64*g)))) 64)).toNat (Xe .u64 (i.getD (wI (Int.tdiv (wI (a+(wI (64*g)))) 64)).toNat AyO.zero) (KW .u64 (c.getD g.toNat AyO.zero) (Int.tmod (wI (a+(wI (64*g)))) 64)))).length:Int)))then
 if 0<=(wI ((wI (Int.tdiv (wI (a+(wI (64*g)))) 64))+1))/\(wI ((wI (Int.tdiv (wI (a+(wI (64*g)))) 64))+1))<(i.set (wI (Int.tdiv (wI (a+(wI (64*g)))) 64)).toNat (Xe .u64 (i.getD (wI (Int.tdiv (wI (a+(wI (64*g)))) 64)).toNat AyO.zero) (KW .u64 (c.getD g.toNat AyO.zero) (Int.tmod (wI (a+(wI (64*g)))) 64)))).length then
 if(wI (64-(Int.tmod (wI (a+(wI (64*g)))) 64)))<(0:Int)then none else
 if 0<=(wI ((wI (Int.tdiv (wI (a+(wI (64*g)))) 64))+1))/\(wI ((wI (Int.tdiv (wI (a+(wI (64*g)))) 64))+1))<(i.set (wI (Int.tdiv (wI (a+(wI (64*g)))) 64)).toNat (Xe .u64 (i.getD (wI (Int.tdiv (wI (a+(wI (64*g)))) 64)).toNat AyO.zero) (KW .u64 (c.getD g.toNat AyO.zero) (Int.tmod (wI (a+(wI (64*g)))) 64)))).length then
 some ((i.set (wI (Int.tdiv (wI (a+(wI (64*g)))) 64)).toNat (Xe .u64 (i.getD (wI (Int.tdiv (wI (a+(wI (64*g)))) 64)).toNat AyO.zero) (KW .u64 (c.getD g.toNat AyO.zero) (Int.tmod (wI (a+(wI (64*g)))) 64)))).set (wI ((wI (Int.tdiv (wI (a+(wI (64*g)))) 64))+1)).toNat (Xe .u64 ((i.set (wI (Int.tdiv (wI (a+(wI (64*g)))) 64)).toNat (Xe .u64 (i.getD (wI (Int.tdiv (wI (a+(wI (64*g)))) 64)).toNat AyO.zero) (KW .u64 (c.getD g.toNat AyO.zero) (Int.tmod (wI (a+(wI (64*g)))) 64)))).getD (wI ((wI (Int.tdiv (wI (a+(wI (64*g)))) 64))+1)).toNat AyO.zero) (Ju .u64 (c.getD g.toNat AyO.zero) (wI (64-(Int.tmod (wI (a+(wI (64*g)))) 64))))))
 else none
 else none
 else
 some (i.set (wI (Int.tdiv (wI (a+(wI (64*g)))) 64)).toNat (Xe .u64 (i.getD (wI (Int.tdiv (wI (a+(wI (64*g)))) 64)).toNat AyO.zero) (KW .u64 (c.getD g.toNat AyO.zero) (Int.tmod (wI (a+(wI (64*g)))) 64)))))
 else none
 else none
 else none
theorem Alu a c d g i b:AX E71 1 8 (cd f183 28) 14 (Aiu a c d g i b) (G5 a c d g i b) (Af3 a c d g i b):=by
 unfold AX;simp(disch:=refine id ?_;kernel_rfl) only[G5,Ax1,EM (Als ..) (K:=OZ E71 1 8)];kernel_rfl
def HD(a b:Int)(c:Ayd)(d g:Int)(i:Ayd):Ay0 (Ayv⊕Ayd):=
 bif decide (g<d)then
 (G5 a c d g i b).bind λj=>some (.inl (wI (g+1),j))
 else
 some (.inr i)
def Fj a b c d (z_:Int×Ayd):=HD a b c d z_.1 z_.2
def Q4 a b c d g i:=fix (Fj a b c d) (g,i)
theorem Alv a b c d:A8 E71 1 2 (code f183) 14 (Aiv a b c d) (Fj a b c d) (Af4 a b c d):=by
 intro _;simp(disch:=refine id ?_;kernel_rfl) only[Fj,HD,Ax1,A7 (Alu ..) (K:=L5 E71 1 2)];kernel_rfl
def K9(b a:Int)(k:Ax3)(l:Ayd):Ay0 Ayd:=
 (Q4 a b k.2.1 (k.2.1.length:Int) 0 l).bind λe=>some e
def Am5:=Ff [.Sm,.d AyN,.d AB] [⟨[.pr (.Aw [] AyN) (.pr (.k (.AA 0)) (.k .u)),.Aw [] AyN,.Aw [] AB],[.row 101 .Ao AyO],Ayd,λp=>K9 p.1.1.1 p.1.2.1 p.1.2.2.1 p.2.1,λr=>(.nil,[Dt r])⟩]
theorem sn:Am prog 183 Am5:=Ax (fn:=f183) ⟨⟨E71,pk trivial,λ_ R K=>by
 simp(disch:=refine id ?_;kernel_rfl) only[K9,Ax2,Q4,AO (Alv _ _ _ _) (K:=A6 E71 f183 1 R K)];kernel_rfl⟩,trivial⟩
end
end Go.Proofs.X
