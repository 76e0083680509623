import Derived.KernelRfl
import Derived.Test.YtniphlhooggimaaGreatK4
set_option linter.unusedVariables false
set_option linter.unusedSimpArgs false
namespace Go.Proofs.X
open Go Go.Va Go.Proofs.Tryz
set_option maxRecDepth 100000
noncomputable section
abbrev E88:=eN [(159,ArC)] {}
def Gs(a:Int):APJ AOW:=
 if Ty.row APs=true/\(0:Int)<=(Cm a)/\(Cm a)<=(Cm a)/\((8:Nat):Int)*(Cm a)<=(281474976710656:Int)/\(Cm a)<=(9223372036854775807:Int)then
 some (a,List.replicate (Cm a).toNat 0)
 else none
def AiB:=Cx [.d APr] [⟨[.AB [] APr],[],AOW,λp=>Gs p.1.1,λr=>(.pr (dI r.1) Q5,[Da r.2])⟩]
theorem gQ:Aq prog 136 AiB:=Av (fn:=f136) ⟨⟨E88,pk ⟨rL,trivial⟩,λ_ R K=>by
 simp only[Gs,AOj];kernel_rfl⟩,trivial⟩
abbrev E89:=eN [] {A8:=[(2,[1,3,10,11,12])],BW:=[(2,{Bb:=[]})],BS:=[(7,[1,3,7,8,10,11,12,44]),(8,[1,3,10,11,12])],DD:=[(7,[1,3,7,8,10,11,12]),(8,[1,3,10,11,12])]}
def AxI a b c d (z_:Int×AOz):=sT 60 (AhA a c d z_.1) [Da z_.2,.box (.pr (dI b) Q5)]
def AvE(a b:Int)(c:AOz)(d:Int):=λ(e:AOz)=>xE 0 60 [] [Da e]
def AxH a c d g i b:=sT 60 (AhA a c d g) [Da i,.box (.pr (dI b) Q5)]
def AvD a c d g (i:AOz) b:=λ(j:AOz)=>xN 60 (AhA a c d g) [Da j,.box (.pr (dI b) Q5)]
def Ak5 a (c:AOz) (g:Int) d (i:AOz) b:=sT 60 [(1,dI a),(3,A6),(7,dD APs (c.getD g.toNat APs.zero)),(8,dI (wI (a+(wI (64*g))))),(10,TG c),(11,dI d),(12,dI g)] [Da (i.set (wI (Int.tdiv (wI (a+(wI (64*g)))) 64)).toNat (fq .u64 (i.getD (wI (Int.tdiv (wI (a+(wI (64*g)))) 64)).toNat APs.zero) (N6 .u64 (c.getD g.toNat APs.zero) (Int.tmod (wI (a+(wI (64*g)))) 64)))),.box (.pr (dI b) Q5)]
def AcL(a:Int)(c:AOz)(g d:Int)(i:AOz)(b:Int)(m0:Bool):Ex×St:=xN 60 [(1,dI a),(3,A6),(7,dD APs (c.getD g.toNat APs.zero)),(8,dI (wI (a+(wI (64*g))))),(10,TG c),(11,dI d),(12,dI g),(44,dB m0)] [Da (i.set (wI (Int.tdiv (wI (a+(wI (64*g)))) 64)).toNat (fq .u64 (i.getD (wI (Int.tdiv (wI (a+(wI (64*g)))) 64)).toNat APs.zero) (N6 .u64 (c.getD g.toNat APs.zero) (Int.tmod (wI (a+(wI (64*g)))) 64)))),.box (.pr (dI b) Q5)]
theorem AAa a c g d i b:Xn E89 1 7 (sb (cd f174 28) 14) (pt 46) (Ak5 a c g d i b)=some (AcL a c g d i b (((Int.tmod (wI (a+(wI (64*g)))) 64) !=0)&&(decide ((wI ((wI (Int.tdiv (wI (a+(wI (64*g)))) 64))+1))<((i.set (wI (Int.tdiv (wI (a+(wI (64*g)))) 64)).toNat (fq .u64 (i.getD (wI (Int.tdiv (wI (a+(wI (64*g)))) 64)).toNat APs.zero) (N6 .u64 (c.getD g.toNat APs.zero) (Int.tmod (wI (a+(wI (64*g)))) 64)))).length:Int))))):=by
 refine .trans (b:=
 bif (Int.tmod (wI (a+(wI (64*g)))) 64) !=0 then
 some (AcL a c g d i b (decide ((wI ((wI (Int.tdiv (wI (a+(wI (64*g)))) 64))+1))<((i.set (wI (Int.tdiv (wI (a+(wI (64*g)))) 64)).toNat (fq .u64 (i.getD (wI (Int.tdiv (wI (a+(wI (64*g)))) 64)).toNat APs.zero) (N6 .u64 (c.getD g.toNat APs.zero) (Int.tmod (wI (a+(wI (64*g)))) 64)))).length:Int))))
 else
 some (AcL a c g d i b false)) (by kernel_rfl) ?_
 cases ((Int.tmod (wI (a+(wI (64*g)))) 64) !=0);rfl;rfl
def IY(a:Int)(c:AOz)(d g:Int)(i:AOz)(b:Int):APJ AOz:=
 if 0<=g/\g<c.length then
 if 0<=(wI (Int.tdiv (wI (a+(wI (64*g)))) 64))/\(wI (Int.tdiv (wI (a+(wI (64*g)))) 64))<i.length then
 if(Int.tmod (wI (a+(wI (64*g)))) 64)<(0:Int)then none else
 if 0<=(wI (Int.tdiv (wI (a+(wI (64*g)))) 64))/\(wI (Int.tdiv (wI (a+(wI (64*g)))) 64))<i.length then
 PD (Ak5 a c g d i b) (
 bif ((Int.tmod (wI (a+(wI (64*g)))) 64) !=0)&&(decide ((wI ((wI (Int.tdiv (wI (a+(wI (64*g)))) 64))+1))<((i.set (wI (Int.tdiv (wI (a+(wI (64*g)))) 64)).toNat (fq .u64 (i.getD (wI (Int.tdiv (wI (a+(wI (64*g)))) 64)).toNat APs.zero) (N6 .u64 (c.getD g.toNat APs.zero) (Int.tmod (wI (a+(wI (64*g)))) 64)))).length:Int)))then
 if 0<=(wI ((wI (Int.tdiv (wI (a+(wI (64*g)))) 64))+1))/\(wI ((wI (Int.tdiv (wI (a+(wI (64*g)))) 64))+1))<(i.set (wI (Int.tdiv (wI (a+(wI (64*g)))) 64)).toNat (fq .u64 (i.getD (wI (Int.tdiv (wI (a+(wI (64*g)))) 64)).toNat APs.zero) (N6 .u64 (c.getD g.toNat APs.zero) (Int.tmod (wI (a+(wI (64*g)))) 64)))).length then
 if(wI (64-(Int.tmod (wI (a+(wI (64*g)))) 64)))<(0:Int)then none else
 if 0<=(wI ((wI (Int.tdiv (wI (a+(wI (64*g)))) 64))+1))/\(wI ((wI (Int.tdiv (wI (a+(wI (64*g)))) 64))+1))<(i.set (wI (Int.tdiv (wI (a+(wI (64*g)))) 64)).toNat (fq .u64 (i.getD (wI (Int.tdiv (wI (a+(wI (64*g)))) 64)).toNat APs.zero) (N6 .u64 (c.getD g.toNat APs.zero) (Int.tmod (wI (a+(wI (64*g)))) 64)))).length then
 some ((i.set (wI (Int.tdiv (wI (a+(wI (64*g)))) 64)).toNat (fq .u64 (i.getD (wI (Int.tdiv (wI (a+(wI (64*g)))) 64)).toNat APs.zero) (N6 .u64 (c.getD g.toNat APs.zero) (Int.tmod (wI (a+(wI (64*g)))) 64)))).set (wI ((wI (Int.tdiv (wI (a+(wI (64*g)))) 64))+1)).toNat (fq .u64 ((i.set (wI (Int.tdiv (wI (a+(wI (64*g)))) 64)).toNat (fq .u64 (i.getD (wI (Int.tdiv (wI (a+(wI (64*g)))) 64)).toNat APs.zero) (N6 .u64 (c.getD g.toNat APs.zero) (Int.tmod (wI (a+(wI (64*g)))) 64)))).getD (wI ((wI (Int.tdiv (wI (a+(wI (64*g)))) 64))+1)).toNat APs.zero) (Ro .u64 (c.getD g.toNat APs.zero) (wI (64-(Int.tmod (wI (a+(wI (64*g)))) 64))))))
 else none
 else none
 else
 some (i.set (wI (Int.tdiv (wI (a+(wI (64*g)))) 64)).toNat (fq .u64 (i.getD (wI (Int.tdiv (wI (a+(wI (64*g)))) 64)).toNat APs.zero) (N6 .u64 (c.getD g.toNat APs.zero) (Int.tmod (wI (a+(wI (64*g)))) 64)))))
 else none
 else none
 else none
theorem AAb a c d g i b:AY E89 1 8 (cd f174 28) 14 (AxH a c d g i b) (IY a c d g i b) (AvD a c d g i b):=by
 unfold AY;simp(disch:=refine id ?_;kernel_rfl) only[IY,AOi,Ft (AAa ..) (K:=UH E89 1 8)];kernel_rfl
def Jy(a b:Int)(c:AOz)(d g:Int)(i:AOz):APJ (AOW⊕AOz):=
 bif decide (g<d)then
 (IY a c d g i b).bind λj=>some (.inl (wI (g+1),j))
 else
 some (.inr i)
def GX a b c d (z_:Int×AOz):=Jy a b c d z_.1 z_.2
def VZ a b c d g i:=fix (GX a b c d) (g,i)
theorem AAc a b c d:A4 E89 1 2 (code f174) 14 (AxI a b c d) (GX a b c d) (AvE a b c d):=by
 intro _;simp(disch:=refine id ?_;kernel_rfl) only[GX,Jy,AOi,Bc (AAb ..) (K:=KJ E89 1 2)];kernel_rfl
def NS(b a:Int)(k:AOr)(l:AOz):APJ AOz:=
 (VZ a b k.2.1 (k.2.1.length:Int) 0 l).bind λe=>some e
def ABz:=Cx [.WH,.d APr,.d Ah] [⟨[.pr (.AB [] APr) (.pr (.k QO) (.k .u)),.AB [] APr,.AB [] Ah],[.row 88 .Aw APs],AOz,λp=>NS p.1.1.1 p.1.2.1 p.1.2.2.1 p.2.1,λr=>(.nil,[Da r])⟩]
theorem Aes:Aq prog 174 ABz:=Av (fn:=f174) ⟨⟨E89,pk trivial,λ_ R K=>by
 simp(disch:=refine id ?_;kernel_rfl) only[NS,AOj,VZ,AH (AAc _ _ _ _) (K:=A2 E89 f174 1 R K)];kernel_rfl⟩,trivial⟩
abbrev E90:=eN [(136,AiB),(174,ABz)] {}
def GV(a b:AOr):APJ AOW:=
 (Gs (wI (a.1+b.1))).bind λc=>(NS c.1 0 b c.2).bind λd=>(NS c.1 b.1 a d).bind λe=>some (c.1,e)
def ABm:=Cx [.d Ah,.d Ah] [⟨[.AB [] Ah,.AB [] Ah],[],AOW,λp=>GV p.1.1 p.1.2.1,λr=>(.pr (dI r.1) Q5,[Da r.2])⟩]
theorem Aef:Aq prog 157 ABm:=Av (fn:=f157) ⟨⟨E90,pk ⟨gQ,Aes,trivial⟩,λ_ R K=>by
 simp only[GV,AOj];kernel_rfl⟩,trivial⟩
abbrev E91:=eN [(156,ABl),(157,ABm)] {Aw:=false,A8:=[(2,{Bb:=[0,8,9,10],mv:=[0]})],BW:=[(2,[0])],BS:=[(6,[0,6,7,8,9,10,27]),(9,[0,6,7,8,9,10]),(10,{Bb:=[0,8,9,10],mv:=[0]})],DD:=[(6,[0,6,7,8,9,10]),(9,[0,6,7,8,9,10]),(10,[0,8,9,10])]}
def AxM a b (z_:Int×AOF):=sT 59 (AhB a b z_.1) [.A9,Cb z_.2]
def AvI(a:AOF)(b:Int):=λ(c:AOF)=>xE 0 59 [(0,.AG 1)] [.A9,Cb c]
def AxL a b d e:=sT 59 (AhB a b d) [.A9,Cb e]
def AvH a b d (e:AOF):=λ(g:AOF)=>xN 59 (AhB a b d) [.A9,Cb g]
def AxK a b d e i j:=sT 59 (AhC i a b d) [.A9,Cb e,.box (Kn j)]
def AvG a b d (e:AOF) i j:=λ(k:AOF)=>xN 59 (AhC i a b d) [.A9,Cb k,.box (Kn j)]
def NW(a:AOF)(b d:Int)(e:AOF)(i:Int)(j:AOo):APJ AOF:=
 bif j.1==(-1)then
 if 0<=i/\i<e.length then
 (GV j.2.2.2.1 (e.getD i.toNat Ae.zero).2.2.2.1).bind λl=>if 0<=i/\i<e.length then
 some (e.set i.toNat ((e.getD i.toNat Ae.zero).1,(e.getD i.toNat Ae.zero).2.1,(e.getD i.toNat Ae.zero).2.2.1,(l.1,l.2,()),(e.getD i.toNat Ae.zero).2.2.2.2))
 else none
 else none
 else
 some e
theorem AAe a b d e i j:AY E91 1 9 (sb (cd f133 52) 14) 46 (AxK a b d e i j) (NW a b d e i j) (AvG a b d e i j):=by
 unfold AY;simp only[NW,AOi];kernel_rfl
def AxJ a b d e n o:=sT 59 (AhC n a b d) [.A9,Cb e,.box (Kn o)]
def AvF a b d e n o:=λ(q:Bool)=>xN 59 [(0,.AG 1),(6,HC),(7,dI n),(8,Cc a),(9,dI b),(10,dI d),(27,dB q)] [.A9,Cb e,.box (Kn o)]
def RI(a:AOF)(b d:Int)(e:AOF)(n:Int)(o:AOo):APJ Bool:=
 bif decide (n<0)then
 some true
 else
 if 0<=n/\n<e.length then
 some (!(DG (e.getD n.toNat Ae.zero) o))
 else none
theorem AAd a b d e n o:AY E91 1 6 (sb (cd f133 52) 14) 44 (AxJ a b d e n o) (RI a b d e n o) (AvF a b d e n o):=by
 unfold AY;simp only[RI,AOi];kernel_rfl
def NY(a:AOF)(b d:Int)(e:AOF):APJ AOF:=
 if 0<=d/\d<a.length then
 (RI a b d e (wI ((e.length:Int)-1)) (a.getD d.toNat Ae.zero)).bind λq=>bif q then
 if(e.length+([a.getD d.toNat Ae.zero]:AOF).length)*56<=140737488355328 then
 some (e++([a.getD d.toNat Ae.zero]:AOF))
 else none
 else
 (NW a b d e (wI ((e.length:Int)-1)) (a.getD d.toNat Ae.zero)).bind λk=>if 0<=(wI ((e.length:Int)-1))/\(wI ((e.length:Int)-1))<k.length then
 if 0<=(wI ((e.length:Int)-1))/\(wI ((e.length:Int)-1))<k.length then
 some (k.set (wI ((e.length:Int)-1)).toNat ((k.getD (wI ((e.length:Int)-1)).toNat Ae.zero).1,(k.getD (wI ((e.length:Int)-1)).toNat Ae.zero).2.1,wI ((k.getD (wI ((e.length:Int)-1)).toNat Ae.zero).2.2.1+(a.getD d.toNat Ae.zero).2.2.1),(k.getD (wI ((e.length:Int)-1)).toNat Ae.zero).2.2.2))
 else none
 else none
 else none
theorem AAf a b d e:AY E91 1 10 (cd f133 52) 14 (AxL a b d e) (NY a b d e) (AvH a b d e):=by
 unfold AY;simp(disch:=refine id ?_;kernel_rfl) only[NY,AOi,Bc (AAd ..) (K:=UH E91 1 10),Bc (AAe ..) (K:=UH E91 1 10)];kernel_rfl
def Oe(a:AOF)(b d:Int)(e:AOF):APJ (AO7⊕AOF):=
 bif decide (d<b)then
 (NY a b d e).bind λg=>some (.inl (wI (d+1),g))
 else
 some (.inr e)
def FU a b (z_:Int×AOF):=Oe a b z_.1 z_.2
def Vn a b d e:=fix (FU a b) (d,e)
theorem AAg a b:A4 E91 1 2 (code f133) 26 (AxM a b) (FU a b) (AvI a b):=by
 intro _;simp(disch:=refine id ?_;kernel_rfl) only[FU,Oe,AOi,Bc (AAf ..) (K:=KJ E91 1 2)];kernel_rfl
def Et(a s:AOF):APJ AOF:=
 (Vn a (a.length:Int) 0 s).bind λc=>some c
def Arz:=Cx [.WH,.d APu] [⟨[.k QO,.AB [] APu],[.row 142 (.sh []) Ae],AOF,λp=>Et p.1.2.1 p.2.1,λr=>(.AG 1,[.A9,Cb r])⟩]
theorem rI:Aq prog 133 Arz:=Av (fn:=f133) ⟨⟨E91,pk ⟨Aee,Aef,trivial⟩,λ_ R K=>by
 simp(disch:=refine id ?_;kernel_rfl) only[Et,AOj,Vn,AH (AAg _ _) (K:=A2 E91 f133 1 R K)];kernel_rfl⟩,trivial⟩
abbrev E92:=eN [] {A8:=[(3,[3,6,7,8])],BW:=[(3,[3])]}
def AxN a b (z_:Int×Int):=sT 18 [(3,dI z_.1),(6,Cc a),(7,dI b),(8,dI z_.2)] []
def AvJ(a:AOF)(b:Int):=λ(c:Int)=>xE 0 18 [(3,dI c)] []
def IC(a:AOF)(b d e:Int):APJ (AOY⊕Int):=
 bif decide (e<b)then
 if 0<=e/\e<a.length then
 some (.inl (wI (d+(a.getD e.toNat Ae.zero).2.2.1),wI (e+1)))
 else none
 else
 some (.inr d)
def C8 a b (z_:Int×Int):=IC a b z_.1 z_.2
def PZ a b d e:=fix (C8 a b) (d,e)
theorem AAh a b:A4 E92 0 3 (code f36) 58 (AxN a b) (C8 a b) (AvJ a b):=by
 intro _;simp only[C8,IC,AOi];kernel_rfl
def BL(a:AOF):APJ Int:=
 (PZ a (a.length:Int) 0 0).bind λc=>some c
def c36:=Cx [.d APu] [⟨[.AB [] APu],[],Int,λp=>BL p.1.1,λr=>(dI r,[])⟩]
theorem oh:Aq prog 36 c36:=Av (fn:=f36) ⟨⟨E92,pk trivial,λ_ R K=>by
 simp(disch:=refine id ?_;kernel_rfl) only[BL,AOj,PZ,AH (AAh _ _) (K:=A2 E92 f36 0 R K)];kernel_rfl⟩,trivial⟩
abbrev E93:=eN [(136,AiB)] {A8:=[(3,[1,2,3,6,7,15,16])],BW:=[(3,[2,6,7])],BS:=[(8,[1,2,3,6,7,8,9,15,16,47]),(9,[1,2,3,6,7,15,16]),(13,[6,7])],DD:=[(8,[1,2,3,6,7,8,9,15,16]),(9,[1,2,3,6,7,15,16]),(13,[2,6,7])]}
def AxQ a b c:=sT 85 [(2,dI a),(6,Ar),(7,A6)] (AhS c b)
def AvM(a:Int)(b:AOz) c:=λ(d:AOz)=>xN 85 [(6,Ar),(7,A6)] (AhS c d)
def Mx(a:Int)(b:AOz)(c:Int):APJ AOz:=
 bif (Int.tmod a 64) !=0 then
 if 0<=(wI ((b.length:Int)-1))/\(wI ((b.length:Int)-1))<b.length then
 if(Int.tmod a 64)<(0:Int)then none else
 if 0<=(wI ((b.length:Int)-1))/\(wI ((b.length:Int)-1))<b.length then
 some (b.set (wI ((b.length:Int)-1)).toNat (fa .u64 (b.getD (wI ((b.length:Int)-1)).toNat APs.zero) (IntKind.u64.wrap ((N6 .u64 1 (Int.tmod a 64))-1))))
 else none
 else none
 else
 some b
theorem AAl a b c:AY E93 0 13 (code f175) 30 (AxQ a b c) (Mx a b c) (AvM a b c):=by
 unfold AY;simp only[Mx,AOi];kernel_rfl
def AxP e a g i j (z_:Int×AOz):=sT 85 (AhD e a i z_.1) (AhE g j z_.2)
def AvL(e:Int) a (g:AOr) (i:Int) j:=λ(b:AOz)=>xE 0 85 [(2,dI a),(6,Ar),(7,A6)] (AhS j b)
def AxO e a i k g j l:=sT 85 (AhD e a i k) (AhE g j l)
def AvK e a i k g j (l:AOz):=λ(n:AOz)=>xN 85 (AhD e a i k) (AhE g j n)
def Ak6 e a k i g j (l:AOz):=sT 85 [(1,dI e),(2,dI a),(3,Ar),(6,A6),(7,HC),(8,dI k),(9,dI (wI (e+(wI (64*k))))),(15,dI i),(16,dI k)] [.box (Gr g),.box qN,.box (.pr (dI j) lg),Da (l.set k.toNat (Ro .u64 (g.2.1.getD (wI (Int.tdiv (wI (e+(wI (64*k)))) 64)).toNat APs.zero) (Int.tmod (wI (e+(wI (64*k)))) 64)))]
def AcM(e a k i:Int)(g:AOr)(j:Int)(l:AOz)(m0:Bool):Ex×St:=xN 85 [(1,dI e),(2,dI a),(3,Ar),(6,A6),(7,HC),(8,dI k),(9,dI (wI (e+(wI (64*k))))),(15,dI i),(16,dI k),(47,dB m0)] [.box (Gr g),.box qN,.box (.pr (dI j) lg),Da (l.set k.toNat (Ro .u64 (g.2.1.getD (wI (Int.tdiv (wI (e+(wI (64*k)))) 64)).toNat APs.zero) (Int.tmod (wI (e+(wI (64*k)))) 64)))]
theorem AAi e a k i g j l:Xn E93 0 8 (sb (cd f175 116) 14) (pt 46) (Ak6 e a k i g j l)=some (AcM e a k i g j l (((Int.tmod (wI (e+(wI (64*k)))) 64) !=0)&&(decide ((wI ((wI (Int.tdiv (wI (e+(wI (64*k)))) 64))+1))<(g.2.1.length:Int))))):=by
 refine .trans (b:=
 bif (Int.tmod (wI (e+(wI (64*k)))) 64) !=0 then
 some (AcM e a k i g j l (decide ((wI ((wI (Int.tdiv (wI (e+(wI (64*k)))) 64))+1))<(g.2.1.length:Int))))
 else
 some (AcM e a k i g j l false)) (by kernel_rfl) ?_
 cases ((Int.tmod (wI (e+(wI (64*k)))) 64) !=0);rfl;rfl
def IX(e a i k:Int)(g:AOr)(j:Int)(l:AOz):APJ AOz:=
 if 0<=(wI (Int.tdiv (wI (e+(wI (64*k)))) 64))/\(wI (Int.tdiv (wI (e+(wI (64*k)))) 64))<g.2.1.length then
 if(Int.tmod (wI (e+(wI (64*k)))) 64)<(0:Int)then none else
 if 0<=k/\k<l.length then
 PD (Ak6 e a k i g j l) (
 bif ((Int.tmod (wI (e+(wI (64*k)))) 64) !=0)&&(decide ((wI ((wI (Int.tdiv (wI (e+(wI (64*k)))) 64))+1))<(g.2.1.length:Int)))then
 if 0<=k/\k<(l.set k.toNat (Ro .u64 (g.2.1.getD (wI (Int.tdiv (wI (e+(wI (64*k)))) 64)).toNat APs.zero) (Int.tmod (wI (e+(wI (64*k)))) 64))).length then
 if 0<=(wI ((wI (Int.tdiv (wI (e+(wI (64*k)))) 64))+1))/\(wI ((wI (Int.tdiv (wI (e+(wI (64*k)))) 64))+1))<g.2.1.length then
 if(wI (64-(Int.tmod (wI (e+(wI (64*k)))) 64)))<(0:Int)then none else
 if 0<=k/\k<(l.set k.toNat (Ro .u64 (g.2.1.getD (wI (Int.tdiv (wI (e+(wI (64*k)))) 64)).toNat APs.zero) (Int.tmod (wI (e+(wI (64*k)))) 64))).length then
 some ((l.set k.toNat (Ro .u64 (g.2.1.getD (wI (Int.tdiv (wI (e+(wI (64*k)))) 64)).toNat APs.zero) (Int.tmod (wI (e+(wI (64*k)))) 64))).set k.toNat (fq .u64 ((l.set k.toNat (Ro .u64 (g.2.1.getD (wI (Int.tdiv (wI (e+(wI (64*k)))) 64)).toNat APs.zero) (Int.tmod (wI (e+(wI (64*k)))) 64))).getD k.toNat APs.zero) (N6 .u64 (g.2.1.getD (wI ((wI (Int.tdiv (wI (e+(wI (64*k)))) 64))+1)).toNat APs.zero) (wI (64-(Int.tmod (wI (e+(wI (64*k)))) 64))))))
 else none
 else none
 else none
 else
 some (l.set k.toNat (Ro .u64 (g.2.1.getD (wI (Int.tdiv (wI (e+(wI (64*k)))) 64)).toNat APs.zero) (Int.tmod (wI (e+(wI (64*k)))) 64))))
 else none
 else none
theorem AAj e a i k g j l:AY E93 0 9 (cd f175 116) 14 (AxO e a i k g j l) (IX e a i k g j l) (AvK e a i k g j l):=by
 unfold AY;simp(disch:=refine id ?_;kernel_rfl) only[IX,AOi,Ft (AAi ..) (K:=UH E93 0 9)];kernel_rfl
def Jx(e a:Int)(g:AOr)(i j k:Int)(l:AOz):APJ (AOW⊕AOz):=
 bif decide (k<i)then
 (IX e a i k g j l).bind λn=>some (.inl (wI (k+1),n))
 else
 some (.inr l)
def GU e a g i j (z_:Int×AOz):=Jx e a g i j z_.1 z_.2
def Mw e a g i j k l:=fix (GU e a g i j) (k,l)
theorem AAk e a g i j:A4 E93 0 3 (code f175) 58 (AxP e a g i j) (GU e a g i j) (AvL e a g i j):=by
 intro _;simp(disch:=refine id ?_;kernel_rfl) only[GU,Jx,AOi,Bc (AAj ..) (K:=KJ E93 0 3)];kernel_rfl
def EH(g:AOr)(e a:Int):APJ AOW:=
 (Gs a).bind λo=>(Mw e a g (o.2.length:Int) o.1 0 o.2).bind λb=>(Mx a b o.1).bind λd=>some (o.1,d)
def ArF:=Cx [.d Ah,.d APr,.d APr] [⟨[.AB [] Ah,.AB [] APr,.AB [] APr],[],AOW,λp=>EH p.1.1 p.1.2.1 p.1.2.2.1,λr=>(.pr (dI r.1) Q5,[Da r.2])⟩]
theorem rO:Aq prog 175 ArF:=Av (fn:=f175) ⟨⟨E93,pk ⟨gQ,trivial⟩,λ_ R K=>by
 simp(disch:=refine id ?_;kernel_rfl) only[EH,AOj,Mw,AH (AAk _ _ _ _ _) (K:=A2 E93 f175 0 R K),Bc (AAl ..) (K:=A2 E93 f175 0 R K)];kernel_rfl⟩,trivial⟩
abbrev E94:=eN [(131,Ary),(175,ArF)] {jw:=[(0,.row [3,1] 88 APs true)]}
def NT(a:AOo)(b c:Int):APJ AO9:=
 bif a.1==(-1)then
 (EH a.2.2.2.1 b c).bind λd=>some ((AK d.1 d.2).1,(AK d.1 d.2).2.1,(AK d.1 d.2).2.2.1,(AK d.1 d.2).2.2.2.1,(AK d.1 d.2).2.2.2.2)
 else
 some (a.1,wI (a.2.1+b),c,0,([]:AOz))
def ABn:=Cx [.d Ae,.d APr,.d APr] [⟨[.AB [] Ae,.AB [] APr,.AB [] APr],[],AO9,λp=>NT p.1.1 p.1.2.1 p.1.2.2.1,λr=>(.pr (dI r.1) (.pr (dI r.2.1) (.pr (dI r.2.2.1) (.pr (.pr (dI r.2.2.2.1) Q5) .u))),[Da r.2.2.2.2])⟩]
theorem Aeg:Aq prog 158 ABn:=Av (fn:=f158) ⟨⟨E94,pk ⟨rH,rO,trivial⟩,λ_ R K=>by
 simp only[NT,AOj];kernel_rfl⟩,trivial⟩
abbrev E95:=eN [(133,Arz),(158,ABn)] {A8:=[(4,{Bb:=[1,2,7,8,14,15,16],Cg:=[(7,false,.row [] 142 Ae false)]})],BW:=[(4,[7])],BS:=[(9,{Bb:=[1,2,7,8,10,14,15,16],Cg:=[(7,false,.row [] 142 Ae false)]})],DD:=[(9,[1,2,7,8,10,11,12,14,15,16])],cQ:=[(43,APu)]}
def AxS a b c d (z_:Int×Int×AOF):=sT 51 [(1,dI a),(2,dI b),(7,.AG 0),(8,dI z_.1),(14,Cc c),(15,dI d),(16,dI z_.2.1)] [Cb z_.2.2]
def AvO(a b:Int)(c:AOF)(d:Int):=λ(e:AOF)=>xE 0 51 lf [Cb e]
def AxR a b g c d i j k l n:=sT 51 [(1,dI a),(2,dI b),(7,.AG 0),(8,dI g),(10,A6),(11,dI k),(12,dI l),(14,Cc c),(15,dI d),(16,dI i)] [Cb j,.box (Kn n)]
def AvN a b g c d i (j:AOF) (k:Int) (l:Int) n:=λ(o:AOF)=>xN 51 [(1,dI a),(2,dI b),(7,.AG 0),(8,dI g),(10,A6),(14,Cc c),(15,dI d),(16,dI i)] [Cb o,.box (Kn n)]
def MA(a b g:Int)(c:AOF)(d i:Int)(j:AOF)(k l:Int)(n:AOo):APJ AOF:=
 bif decide (k<l)then
 (NT n (wI (k-g)) (wI (l-k))).bind λq=>(Et ([(q.1,q.2.1,q.2.2.1,(q.2.2.2.1,q.2.2.2.2,()),())]:AOF) j).bind λs=>some s
 else
 some j
theorem AAm a b g c d i j k l n:AY E95 0 9 (cd f134 244) 230 (AxR a b g c d i j k l n) (MA a b g c d i j k l n) (AvN a b g c d i j k l n):=by
 unfold AY;simp only[MA,AOi];kernel_rfl
def JD(a b:Int)(c:AOF)(d g i:Int)(j:AOF):APJ ((Int×Int×AOF)⊕AOF):=
 bif decide (i<d)then
 if 0<=i/\i<c.length then
 (MA a b g c d i j (if g>a then g else a) (if(wI (g+(c.getD i.toNat Ae.zero).2.2.1))<(wI (a+b))then(wI (g+(c.getD i.toNat Ae.zero).2.2.1))else(wI (a+b))) (c.getD i.toNat Ae.zero)).bind λo=>some (.inl (wI (g+(c.getD i.toNat Ae.zero).2.2.1),wI (i+1),o))
 else none
 else
 some (.inr j)
def Eo a b c d (z_:Int×Int×AOF):=JD a b c d z_.1 z_.2.1 z_.2.2
def Re a b c d g i j:=fix (Eo a b c d) (g,i,j)
theorem AAn a b c d:A4 E95 0 4 (code f134) 122 (AxS a b c d) (Eo a b c d) (AvO a b c d):=by
 intro _;simp(disch:=refine id ?_;kernel_rfl) only[Eo,JD,AOi,Bc (AAm ..) (K:=KJ E95 0 4)];kernel_rfl
def EI(c:AOF)(a b:Int):APJ AOF:=
 (Re a b c (c.length:Int) 0 0 ([]:AOF)).bind λe=>some e
def AA3:=Cx [.d APu,.d APr,.d APr] [⟨[.AB [] APu,.AB [] APr,.AB [] APr],[],AOF,λp=>EI p.1.1 p.1.2.1 p.1.2.2.1,λr=>(.AG 0,[Cb r])⟩]
theorem AdW:Aq prog 134 AA3:=Av (fn:=f134) ⟨⟨E95,pk ⟨rI,Aeg,trivial⟩,λ_ R K=>by
 simp(disch:=refine id ?_;kernel_rfl) only[EI,AOj,Re,AH (AAn _ _ _ _) (K:=A2 E95 f134 0 R K)];kernel_rfl⟩,trivial⟩
noncomputable def AA4:Va.Callee:=Zz 142 Ae 56
noncomputable abbrev ABG:Gx:={DU:=DU,fns:=N3 [],fi:={}}
theorem Ajr:IR Tryz.prog ABG:=(pk (l:=[]) trivial)
theorem AdX:Aq Tryz.prog 135 AA4:=
 cK (fn:=Tryz.f135) Ajr (by kernel_rfl) (by kernel_rfl) rfl rfl rfl ⟨rfl,rfl,rfl⟩ ⟨rfl,rfl,rfl⟩ (ti:=⟨.sl Ae,[],142,24,0,0,false⟩) (by kernel_rfl) rfl (by kernel_rfl) (λxs=>by kernel_rfl) (λxs=>by kernel_rfl)
  λxs h=>by
   have h0:ev ABG 0 (sub (code Tryz.f135) [1,1]) (Ex×St) ⟨[.AB [] APu xs,.un 0,.zs,.AB [] APu xs,.bool false,.un 0,.un 0,.un 0],[]⟩ Q3=if xs.length*56<=140737488355328 then some (.ret,⟨[.AB [] APu xs,.un 0,.AG 0,.AB [] APu xs,.bool false,.zs,.AB [] APu xs,.AG 0],[Cb xs]⟩)else none:=by kernel_rfl
   exact h0.trans (AMo h)
abbrev vC:=eN [(36,c36),(131,Ary),(132,AiA),(133,Arz),(134,AA3),(135,AA4),(136,AiB)] {Aw:=false,A8:=[(9,{Bb:=[2,7,8],Cg:=[(7,false,.row [] 142 Ae false)]}),(27,{Bb:=[9,12,125,126],Cg:=[(12,false,.row [] 142 Ae false)]}),(36,{Bb:=[13,14,151,152],RF:=[(14,true,Ae)]})],BW:=[(9,[7]),(27,[12]),(36,[13])],BS:=[(20,[0,9,10,69,88]),(23,[9,10,11]),(35,[0,13,14])],DD:=[(20,[0,9,10,69]),(23,[0,9,10,11]),(35,[0,9,10,13,14])],cQ:=[(117,APu),(156,APu)]}
def AxY a b (z_:Int×AOF):=sT 160 [(13,.AG 0),(14,A6),(151,dI a),(152,dI z_.1)] [Cb z_.2,.box (Kn b)]
def AvU(a:Int)(b:AOo):=λ(c:AOF)=>xE 6 160 [(13,.AG 0)] [Cb c]
def Pk(a:Int)(b:AOo)(d:Int)(e:AOF):APJ (AO7⊕AOF):=
 bif decide (d<a)then
 (Et ([b]:AOF) e).bind λg=>some (.inl (wI (d+1),g))
 else
 some (.inr e)
def Fj a b (z_:Int×AOF):=Pk a b z_.1 z_.2
def KS a b d e:=fix (Fj a b) (d,e)
theorem AAu a b:A4 vC 0 36 (code f102) 4090 (AxY a b) (Fj a b) (AvU a b):=by
 intro _;simp only[Fj,Pk,AOi];kernel_rfl
def AxX i j (z_:Int×AOF):=sT 160 [(13,.AG 0),(14,A6),(151,dI j),(152,dI z_.1)] [Cb z_.2,.box (Kn i)]
def AvT(i:AOo)(j:Int):=λ(k:AOF)=>xE 6 160 [(13,.AG 0)] [Cb k]
def Pj(i:AOo)(j l:Int)(n:AOF):APJ (AO7⊕AOF):=
 bif decide (l<j)then
 (Et ([i]:AOF) n).bind λo=>some (.inl (wI (l+1),o))
 else
 some (.inr n)
def Fh i j (z_:Int×AOF):=Pj i j z_.1 z_.2
def KR i j l n:=fix (Fh i j) (l,n)
theorem AAt i j:A4 vC 0 36 (code f102) 4090 (AxX i j) (Fh i j) (AvT i j):=by
 intro _;simp only[Fh,Pj,AOi];kernel_rfl
def AxW q s t u v w x y a1:=sT 160 [(0,.Fv [] Ag q),(9,Cc t),(10,dI s),(13,.AG 0),(14,A6)] [Cb u,.box (.pr (dI v) (.pr (dI w) (.pr (dI x) (.pr (.pr (dI y) Yf) .u)))),Da a1]
def AvS q (s:Int) (t:AOF) u v w x y a1:=Sum.elim (λ(i:AOo)=>xN 160 [(0,.Fv [] Ag q),(13,.AG 0),(14,A6)] [Cb u,.box (Kn i)]) (λ(b1:Unit)=>xN 160 [(0,.Fv [] Ag q),(13,.AG 0),(14,A6)] [Cb u,.box (.pr (dI v) (.pr (dI w) (.pr (dI x) (.pr (.pr (dI y) Yf) .u)))),Da a1])
def Cu(q:AOq)(s:Int)(t u:AOF)(v w x y:Int)(a1:AOz):APJ (AOo⊕Unit):=
 bif q.1==6 then
 (EI t (wI (s-1)) 1).bind λc1=>if(0:Int)<=(0:Int)/\(0:Int)<(c1.length:Int)then
 some (.inl (c1.getD 0 Ae.zero))
 else none
 else
 some (.inr ())
theorem AAs q s t u v w x y a1:AY vC 0 35 (code f102) 510 (AxW q s t u v w x y a1) (Cu q s t u v w x y a1) (AvS q s t u v w x y a1):=by
 unfold AY;simp only[Cu,AOi];kernel_rfl
def AxV d1 e1 (z_:Int×AOF):=sT 160 [(9,Cc d1),(12,.AG 0),(125,dI e1),(126,dI z_.1)] [Cb z_.2]
def AvR(d1:AOF)(e1:Int):=λ(g1:AOF)=>xE 4 160 [(12,.AG 0)] [Cb g1]
def Fg(d1:AOF)(e1 i1:Int)(j1:AOF):APJ (AO7⊕AOF):=
 bif decide (i1<e1)then
 (Et d1 j1).bind λk1=>some (.inl (wI (i1+1),k1))
 else
 some (.inr j1)
def Cz d1 e1 (z_:Int×AOF):=Fg d1 e1 z_.1 z_.2
def Hg d1 e1 i1 j1:=fix (Cz d1 e1) (i1,j1)
theorem AAr d1 e1:A4 vC 0 27 (code f102) 257002 (AxV d1 e1) (Cz d1 e1) (AvR d1 e1):=by
 intro _;simp only[Cz,Fg,AOi];kernel_rfl
def AxU q s l1 n1:=sT 160 [(0,.Fv [] Ag q),(9,Cc l1),(10,dI s),(11,dI n1)] []
def AvQ(q:AOq) s l1 (n1:Int):=λ(o1:Int)=>xN 160 [(9,Cc l1),(10,dI s),(11,dI o1)] []
def Ej(q:AOq)(s:Int)(l1:AOF)(n1:Int):APJ Int:=
 bif q.1==8 then
 if s=(0:Int)then none else
 some (Int.tmod (wI (s-n1)) s)
 else
 some n1
theorem AAq q s l1 n1:AY vC 0 23 (code f102) 16058 (AxU q s l1 n1) (Ej q s l1 n1) (AvQ q s l1 n1):=by
 unfold AY;simp only[Ej,AOi];kernel_rfl
def Ak7 q (q1:AOQ) s:=sT 160 [(0,.Fv [] Ag q),(9,Cc (q1.getD 0 APu.zero)),(10,dI s),(69,dI q.1)] []
def AcN(q:AOq)(q1:AOQ)(s:Int)(m0:Bool):Ex×St:=xN 160 [(0,.Fv [] Ag q),(9,Cc (q1.getD 0 APu.zero)),(10,dI s),(69,dI q.1),(88,dB m0)] []
theorem AAp q q1 s:Xn vC 0 20 (code f102) (pt 2006) (Ak7 q q1 s)=some (AcN q q1 s (bif q.1==7 then(q.1==7)else(q.1==8))):=by
 refine .trans (b:=
 bif q.1==7 then
 some (AcN q q1 s (q.1==7))
 else
 some (AcN q q1 s (q.1==8))) (by kernel_rfl) ?_
 cases (q.1==7);rfl;rfl
def AxT q1 (z_:Int×AOF):=sT 160 [(2,Ni q1),(7,.AG 0),(8,dI z_.1)] [Cb z_.2]
def AvP(q1:AOQ):=λ(s1:AOF)=>xE 1 160 lf [Cb s1]
def Ff(q1:AOQ)(t1:Int)(u1:AOF):APJ (AO7⊕AOF):=
 bif decide (t1>=0)then
 if 0<=t1/\t1<q1.length then
 (Et (q1.getD t1.toNat APu.zero) u1).bind λv1=>some (.inl (wI (t1-1),v1))
 else none
 else
 some (.inr u1)
def Cy q1 (z_:Int×AOF):=Ff q1 z_.1 z_.2
def KQ q1 t1 u1:=fix (Cy q1) (t1,u1)
theorem AAo q1:A4 vC 0 9 (code f102) 27626 (AxT q1) (Cy q1) (AvP q1):=by
 intro _;simp only[Cy,Ff,AOi];kernel_rfl
def GY(q:AOq)(w1:AOE)(q1:AOQ):APJ AOF:=
 bif q.1==1 then
 if(0:Int)<=q.2.1/\q.2.1<(w1.length:Int)then
 some ([(q.2.1,0,(w1.getD q.2.1.toNat Ad.zero).2.1,(0,([]:AOz),()),())]:AOF)
 else none
 else
 bif q.1==2 then
 (De q.2.2.2.2.1).bind λx1=>some ([((AK x1.1 x1.2).1,(AK x1.1 x1.2).2.1,(AK x1.1 x1.2).2.2.1,((AK x1.1 x1.2).2.2.2.1,(AK x1.1 x1.2).2.2.2.2,()),())]:AOF)
 else
 bif q.1==3 then
 (KQ q1 (wI ((q1.length:Int)-1)) ([]:AOF)).bind λs1=>some s1
 else
 if(0:Int)<=(0:Int)/\(0:Int)<(q1.length:Int)then
 (BL (q1.getD 0 APu.zero)).bind λs=>bif q.1==4 then
 (EI (q1.getD 0 APu.zero) q.2.2.2.1 (wI ((wI (q.2.2.1-q.2.2.2.1))+1))).bind λy1=>some y1
 else
 PD (Ak7 q q1 s) (
 bif bif (q.1==7)then(q.1==7)else(q.1==8)then
 if s=(0:Int)then none else
 (Ej q s (q1.getD 0 APu.zero) (Int.tmod q.2.2.1 s)).bind λo1=>(EI (q1.getD 0 APu.zero) (wI (s-o1)) o1).bind λa2=>(EI (q1.getD 0 APu.zero) 0 (wI (s-o1))).bind λb2=>(Et b2 a2).bind λc2=>some c2
 else
 bif q.1==9 then
 (Hg (q1.getD 0 APu.zero) q.2.2.1 0 ([]:AOF)).bind λg1=>some g1
 else
 if(q1.getD 0 APu.zero).length*56<=140737488355328 then
 (Gs 1).bind λd2=>(Cu q s (q1.getD 0 APu.zero) (q1.getD 0 APu.zero) (AK d2.1 d2.2).1 (AK d2.1 d2.2).2.1 (AK d2.1 d2.2).2.2.1 (AK d2.1 d2.2).2.2.2.1 (AK d2.1 d2.2).2.2.2.2).bind (Sum.elim (λi=>(KR i q.2.2.1 0 (q1.getD 0 APu.zero)).bind λk=>some k) (λb1=>(KS q.2.2.1 ((AK d2.1 d2.2).1,(AK d2.1 d2.2).2.1,(AK d2.1 d2.2).2.2.1,((AK d2.1 d2.2).2.2.2.1,(AK d2.1 d2.2).2.2.2.2,()),()) 0 (q1.getD 0 APu.zero)).bind λc=>some c))
 else none)
 else none
def AAD:=Cx [.p Ag,.d APx,.d APE] [⟨[.Fv [] Ag,.AB [] APx,.AB [] APE],[],AOF,λp=>GY p.1.1 p.1.2.1 p.1.2.2.1,λr=>(.AG 0,[Cb r])⟩]
theorem Adv:Aq prog 102 AAD:=Av (fn:=f102) ⟨⟨vC,pk ⟨oh,rH,gP,rI,AdW,AdX,gQ,trivial⟩,λ_ R K=>by
 simp(disch:=refine id ?_;kernel_rfl) only[GY,AOj,KQ,AH (AAo _) (K:=A2 vC f102 0 R K),Ft (AAp ..) (K:=A2 vC f102 0 R K),Bc (AAq ..) (K:=A2 vC f102 0 R K),Hg,AH (AAr _ _) (K:=A2 vC f102 0 R K),Bc (AAs ..) (K:=A2 vC f102 0 R K),KR,AH (AAt _ _) (K:=A2 vC f102 0 R K),KS,AH (AAu _ _) (K:=A2 vC f102 0 R K)];kernel_rfl⟩,trivial⟩
abbrev E97:=eN [(132,AiA)] {A8:=[(3,[3,9,10,11])],BW:=[(3,[3])]}
def AxZ a b (z_:Int×AOF):=sT 26 [(3,.AG 0),(9,Cc a),(10,dI b),(11,dI z_.1)] [Cf z_.2]
def AvV(a:AOF)(b:Int):=λ(c:AOF)=>xE 0 26 jY [Cf c]
def Iy(a:AOF)(b d:Int)(e:AOF):APJ (AO7⊕AOF):=
 bif decide (d<b)then
 if 0<=d/\d<a.length then
 (De (a.getD d.toNat Ae.zero).2.2.2.1).bind λg=>if 0<=d/\d<e.length then
 some (.inl (wI (d+1),e.set d.toNat ((a.getD d.toNat Ae.zero).1,(a.getD d.toNat Ae.zero).2.1,(a.getD d.toNat Ae.zero).2.2.1,(g.1,g.2,()),(a.getD d.toNat Ae.zero).2.2.2.2)))
 else none
 else none
 else
 some (.inr e)
def C7 a b (z_:Int×AOF):=Iy a b z_.1 z_.2
def PY a b d e:=fix (C7 a b) (d,e)
theorem AAv a b:A4 E97 0 3 (code f103) 58 (AxZ a b) (C7 a b) (AvV a b):=by
 intro _;simp only[C7,Iy,AOi];kernel_rfl
def LY(a:AOF):APJ AOF:=
 if Ty.row Ae=true/\(0:Int)<=(a.length:Int)/\(a.length:Int)<=(a.length:Int)/\((56:Nat):Int)*(a.length:Int)<=(281474976710656:Int)/\(a.length:Int)<=(9223372036854775807:Int)then
 (PY a (a.length:Int) 0 (List.replicate (a.length:Int).toNat (0,0,0,(0,([]:AOz),()),()))).bind λc=>some c
 else none
def AAE:=Cx [.d APu] [⟨[.AB [] APu],[],AOF,λp=>LY p.1.1,λr=>(.AG 0,[Cf r])⟩]
theorem Adw:Aq prog 103 AAE:=Av (fn:=f103) ⟨⟨E97,pk ⟨gP,trivial⟩,λ_ R K=>by
 simp(disch:=refine id ?_;kernel_rfl) only[LY,AOj,PY,AH (AAv _ _) (K:=A2 E97 f103 0 R K)];kernel_rfl⟩,trivial⟩
abbrev E98:=eN [(102,AAD),(103,AAE)] {Aw:=false,A8:=[(3,[0,3,6,18,19]),(8,[0,3,6,7,8,9,18,19,35,36,37])],BW:=[(3,{Bb:=[4,5,6],RF:=[(6,false,APE)]}),(8,{Bb:=[0,3,6,7,8,9,18,19],RF:=[(9,false,APE)]})],jw:=[(0,.row [] 142 Ae true)]}
def Ax1 a b c (z_:Int×AOQ):=sT 71 [(0,Au a),(3,Ar),(6,.AG 1),(18,dI c),(19,dI z_.1)] [.box (FY b),gj z_.2]
def AvX(a:AOE)(b:AOu)(c:Int):=Sum.elim (λ(d:AOQ)=>xR 71 [(4,.zs),(5,dB false),(6,Ni d)] []) (λ(e:AOQ)=>xE 0 71 [(6,Ni e)] [])
def Ax0 a g c b i j k l (z_:Int×AOQ):=sT 71 [(0,Au a),(3,Ar),(6,.AG 1),(7,dI g),(8,.Fv [] Ag j),(9,.AG 2),(18,dI c),(19,dI g),(35,DW k),(36,dI l),(37,dI z_.1)] [.box (FY b),gj i,gj z_.2]
def AvW a g c b i j (k:AOz) (l:Int):=λ(n:AOQ)=>xE 2 71 [(0,Au a),(3,Ar),(6,.AG 1),(7,dI g),(8,.Fv [] Ag j),(9,Ni n),(18,dI c),(19,dI g)] [.box (FY b),gj i]
def K7(a:AOE)(g c:Int)(b:AOu)(i:AOQ)(j:AOq)(k:AOz)(l o:Int)(q:AOQ):APJ ((Int×AOQ)⊕AOQ):=
 bif decide (o<l)then
 if 0<=o/\o<k.length then
 if(0:Int)<=(k.getD o.toNat APr.zero)/\(k.getD o.toNat APr.zero)<(i.length:Int)then
 if 0<=o/\o<q.length then
 some (.inl (wI (o+1),q.set o.toNat (i.getD (k.getD o.toNat APr.zero).toNat APu.zero)))
 else none
 else none
 else none
 else
 some (.inr q)
def Fl a g c b i j k l (z_:Int×AOQ):=K7 a g c b i j k l z_.1 z_.2
def SS a g c b i j k l o q:=fix (Fl a g c b i j k l) (o,q)
theorem AAw a g c b i j k l:A4 E98 0 8 (cd f68 116) 1850 (Ax0 a g c b i j k l) (Fl a g c b i j k l) (AvW a g c b i j k l):=by
 intro _;simp only[Fl,K7,AOi];kernel_rfl
def P0(a:AOE)(b:AOu)(c g:Int)(i:AOQ):APJ ((Int×AOQ)⊕(AOQ⊕AOQ)):=
 bif decide (g<c)then
 if 0<=g/\g<b.1.length then
 if Ty.row APu=true/\(0:Int)<=((b.1.getD g.toNat Ag.zero).2.2.2.2.2.1.length:Int)/\((b.1.getD g.toNat Ag.zero).2.2.2.2.2.1.length:Int)<=((b.1.getD g.toNat Ag.zero).2.2.2.2.2.1.length:Int)/\((24:Nat):Int)*((b.1.getD g.toNat Ag.zero).2.2.2.2.2.1.length:Int)<=(281474976710656:Int)/\((b.1.getD g.toNat Ag.zero).2.2.2.2.2.1.length:Int)<=(9223372036854775807:Int)then
 (SS a g c b i (b.1.getD g.toNat Ag.zero) (b.1.getD g.toNat Ag.zero).2.2.2.2.2.1 ((b.1.getD g.toNat Ag.zero).2.2.2.2.2.1.length:Int) 0 (List.replicate ((b.1.getD g.toNat Ag.zero).2.2.2.2.2.1.length:Int).toNat ([]:AOF))).bind λn=>(GY (b.1.getD g.toNat Ag.zero) a n).bind λs=>if 0<=g/\g<i.length then
 if 0<=g/\g<(i.set g.toNat s).length then
 bif decide ((((i.set g.toNat s).getD g.toNat APu.zero).length:Int)>2000)then
 some (.inr (.inl (i.set g.toNat s)))
 else
 some (.inl (wI (g+1),i.set g.toNat s))
 else none
 else none
 else none
 else none
 else
 some (.inr (.inr i))
def K8 a b c (z_:Int×AOQ):=P0 a b c z_.1 z_.2
def W8 a b c g i:=fix (K8 a b c) (g,i)
theorem AAx a b c:A4 E98 0 3 (code f68) 58 (Ax1 a b c) (K8 a b c) (AvX a b c):=by
 intro _;simp(disch:=refine id ?_;kernel_rfl) only[K8,P0,AOi,SS,AH (AAw _ _ _ _ _ _ _ _) (K:=KJ E98 0 3)];kernel_rfl
def Gh(a:AOE)(b:AOu):APJ AO2:=
 if Ty.row APu=true/\(0:Int)<=(b.1.length:Int)/\(b.1.length:Int)<=(b.1.length:Int)/\((24:Nat):Int)*(b.1.length:Int)<=(281474976710656:Int)/\(b.1.length:Int)<=(9223372036854775807:Int)then
 (W8 a b (b.1.length:Int) 0 (List.replicate (b.1.length:Int).toNat ([]:AOF))).bind (Sum.elim (λd=>some (false,([]:AOF))) (λe=>if 0<=(wI ((e.length:Int)-1))/\(wI ((e.length:Int)-1))<e.length then
 (LY (e.getD (wI ((e.length:Int)-1)).toNat APu.zero)).bind λt=>some (true,t)
 else none))
 else none
def c68:=Cx [.d APx,.d An] [⟨[.AB [] APx,.AB [] An],[],AO2,λp=>Gh p.1.1 p.1.2.1,λr=>(.cons QO (.cons (dB r.1) .nil),[Cf r.2])⟩]
theorem yB:Aq prog 68 c68:=Av (fn:=f68) ⟨⟨E98,pk ⟨Adv,Adw,trivial⟩,λ_ R K=>by
 simp(disch:=refine id ?_;kernel_rfl) only[Gh,AOj,W8,AH (AAx _ _ _) (K:=A2 E98 f68 0 R K)];kernel_rfl⟩,trivial⟩
abbrev E99:=eN [(67,c67),(68,c68)] {jw:=[(0,.row [] 142 Ae true)]}
def Pl(a:AOE)(b:AOu):APJ AO2:=
 (EK a b).bind λc=>bif decide (c<0)then
 some (false,([]:AOF))
 else
 (Gh a b).bind λd=>some (d.1,d.2)
def c34:=Cx [.d APx,.d An] [⟨[.AB [] APx,.AB [] An],[],AO2,λp=>Pl p.1.1 p.1.2.1,λr=>(.cons QO (.cons (dB r.1) .nil),[Cf r.2])⟩]
theorem AiP:Aq prog 34 c34:=Av (fn:=f34) ⟨⟨E99,pk ⟨yA,yB,trivial⟩,λ_ R K=>by
 simp only[Pl,AOj];kernel_rfl⟩,trivial⟩
abbrev Ack:=eN [(65,c65),(67,c67)] {A8:=[(5,[0,5,12,13,14])],BW:=[(5,[4])],BS:=[(9,[0,7,12,13,14,39])],DD:=[(9,[0,5,7,8,12,13,14])]}
def An7 a b c (z_:Int×Int):=sT 43 [(0,Au a),(5,dI z_.1),(12,Bo b),(13,dI c),(14,dI z_.2)] []
def Amz(a:AOE)(b:AOG)(c:Int):=Sum.elim (λ(d:Unit)=>xR 43 fz []) (λ(e:Unit)=>xE 0 43 [] [])
def An6 a g i b c j k:=sT 43 [(0,Au a),(5,dI g),(7,Ar),(8,dI i),(12,Bo b),(13,dI c),(14,dI j)] [.box (cf k)]
def Amy a (g:Int) (i:Int) b c j k:=λ(l:Bool)=>xN 43 [(0,Au a),(7,Ar),(12,Bo b),(13,dI c),(14,dI j),(39,dB l)] [.box (cf k)]
def Dm(a:AOE)(g i:Int)(b:AOG)(c j:Int)(k:AOp):APJ Bool:=
 bif !(AP k.1 (wI (g+1)) 1000000)then
 some true
 else
 bif decide (i<0)then
 some true
 else
 (EK a k.2.2.2.1).bind λn=>some (i !=n)
theorem ApE a g i b c j k:AY Ack 0 9 (cd f137 244) 460 (An6 a g i b c j k) (Dm a g i b c j k) (Amy a g i b c j k):=by
 unfold AY;simp only[Dm,AOi];kernel_rfl
def Du(a:AOE)(b:AOG)(c g j:Int):APJ (AOY⊕(Unit⊕Unit)):=
 bif decide (j<c)then
 if 0<=j/\j<b.length then
 (EK a (b.getD j.toNat Af.zero).2.2.1).bind λi=>(Dm a g i b c j (b.getD j.toNat Af.zero)).bind λl=>bif l then
 some (.inr (.inl ()))
 else
 some (.inl ((b.getD j.toNat Af.zero).1,wI (j+1)))
 else none
 else
 some (.inr (.inr ()))
def BV a b c (z_:Int×Int):=Du a b c z_.1 z_.2
def OY a b c g j:=fix (BV a b c) (g,j)
theorem ApF a b c:A4 Ack 0 5 (code f137) 122 (An7 a b c) (BV a b c) (Amz a b c):=by
 intro _;simp(disch:=refine id ?_;kernel_rfl) only[BV,Du,AOi,Bc (ApE ..) (K:=KJ Ack 0 5)];kernel_rfl
def FT(a:AOE)(b:AOG):APJ Bool:=
 bif decide ((b.length:Int)>60)then
 some false
 else
 (OY a b (b.length:Int) 0 0).bind (Sum.elim (λd=>some false) (λe=>some true))
def ArA:=Cx [.d APx,.d APz] [⟨[.AB [] APx,.AB [] APz],[],Bool,λp=>FT p.1.1 p.1.2.1,λr=>(dB r,[])⟩]
theorem rJ:Aq prog 137 ArA:=Av (fn:=f137) ⟨⟨Ack,pk ⟨Ym,yA,trivial⟩,λ_ R K=>by
 simp(disch:=refine id ?_;kernel_rfl) only[FT,AOj,OY,AH (ApF _ _ _) (K:=A2 Ack f137 0 R K)];kernel_rfl⟩,trivial⟩
abbrev AD6:=eN [(33,c33),(137,ArA)] {}
def Kp(a:AOE)(b:AOG):APJ Bool:=
 (Jz a).bind λc=>bif c then
 (FT a b).bind λd=>some d
 else
 some false
def AAF:=Cx [.d APx,.d APz] [⟨[.AB [] APx,.AB [] APz],[],Bool,λp=>Kp p.1.1 p.1.2.1,λr=>(dB r,[])⟩]
theorem Adx:Aq prog 104 AAF:=Av (fn:=f104) ⟨⟨AD6,pk ⟨og,rJ,trivial⟩,λ_ R K=>by
 simp only[Kp,AOj];kernel_rfl⟩,trivial⟩
abbrev Acl:=eN [(68,c68)] {A8:=[(3,[0,6,16,17,18])],BW:=[(3,[4,5,6])],BS:=[(8,[0,6,7,9,11,16,17,18,42])],DD:=[(8,[0,6,7,9,10,11,12,16,17,18])],jw:=[(0,.row [] 222 (.AE APu (.AE APu .unit)) true)]}
def An8 a b c (z_:Int×APm):=sT 51 [(0,Au a),(6,.AG 0),(16,Bo b),(17,dI c),(18,dI z_.1)] [CP z_.2]
def AmA(a:AOE)(b:AOG)(c:Int):=Sum.elim (λ(d:APm)=>xR 51 [(4,.zs),(5,dB false),(6,.AG 0)] [CP d]) (λ(e:APm)=>xE 0 51 [(6,.AG 0)] [CP e])
def AcP a g (i:AO2) (j:AO2) b c k:=sT 51 [(0,Au a),(6,.AG 0),(7,dI g),(9,.AG 1),(10,dB i.1),(11,.AG 2),(12,dB j.1),(16,Bo b),(17,dI c),(18,dI g)] [CP k,Cf i.2,Cf j.2]
def vH(a:AOE)(g:Int)(i j:AO2)(b:AOG)(c:Int)(k:APm)(m0:Bool):Ex×St:=xN 51 [(0,Au a),(6,.AG 0),(7,dI g),(9,.AG 1),(11,.AG 2),(16,Bo b),(17,dI c),(18,dI g),(42,dB m0)] [CP k,Cf i.2,Cf j.2]
theorem ApG a g i j b c k:Xn Acl 0 8 (cd f105 116) (pt 924) (AcP a g i j b c k)=some (vH a g i j b c k ((!i.1)||(!j.1))):=by
 refine .trans (b:=
 bif !i.1 then
 some (vH a g i j b c k true)
 else
 some (vH a g i j b c k (!j.1))) (by kernel_rfl) ?_
 cases (!i.1);rfl;rfl
def SU(a:AOE)(b:AOG)(c g:Int)(k:APm):APJ ((Int×APm)⊕(APm⊕APm)):=
 bif decide (g<c)then
 if 0<=g/\g<b.length then
 (Gh a (b.getD g.toNat Af.zero).2.2.1).bind λi=>(Gh a (b.getD g.toNat Af.zero).2.2.2.1).bind λj=>PD (AcP a g i j b c k) (
 bif (!i.1)||(!j.1)then
 some (.inr (.inl k))
 else
 if 0<=g/\g<k.length then
 some (.inl (wI (g+1),k.set g.toNat (i.2,j.2,())))
 else none)
 else none
 else
 some (.inr (.inr k))
def Og a b c (z_:Int×APm):=SU a b c z_.1 z_.2
def Zf a b c g k:=fix (Og a b c) (g,k)
theorem ApH a b c:A4 Acl 0 3 (code f105) 58 (An8 a b c) (Og a b c) (AmA a b c):=by
 intro _;simp(disch:=refine id ?_;kernel_rfl) only[Og,SU,AOi,Ft (ApG ..) (K:=KJ Acl 0 3)];kernel_rfl
def OZ(a:AOE)(b:AOG):APJ (Bool×APm):=
 if Ty.row (.AE APu (.AE APu .unit))=true/\(0:Int)<=(b.length:Int)/\(b.length:Int)<=(b.length:Int)/\((48:Nat):Int)*(b.length:Int)<=(281474976710656:Int)/\(b.length:Int)<=(9223372036854775807:Int)then
 (Zf a b (b.length:Int) 0 (List.replicate (b.length:Int).toNat (([]:AOF),([]:AOF),()))).bind (Sum.elim (λd=>some (false,([]:APH APg))) (λe=>some (true,e)))
 else none
def Aix:=Cx [.d APx,.d APz] [⟨[.AB [] APx,.AB [] APz],[],Bool×APm,λp=>OZ p.1.1 p.1.2.1,λr=>(.cons QO (.cons (dB r.1) .nil),[CP r.2])⟩]
theorem gO:Aq prog 105 Aix:=Av (fn:=f105) ⟨⟨Acl,pk ⟨yB,trivial⟩,λ_ R K=>by
 simp(disch:=refine id ?_;kernel_rfl) only[OZ,AOj,Zf,AH (ApH _ _ _) (K:=A2 Acl f105 0 R K)];kernel_rfl⟩,trivial⟩
abbrev AD7:=eN [(104,AAF),(105,Aix)] {}
def K6(a:AOE)(b:AOG):APJ Bool:=
 (Kp a b).bind λc=>bif !c then
 some false
 else
 (OZ a b).bind λd=>some d.1
def c69:=Cx [.d APx,.d APz] [⟨[.AB [] APx,.AB [] APz],[],Bool,λp=>K6 p.1.1 p.1.2.1,λr=>(dB r,[])⟩]
theorem Ai3:Aq prog 69 c69:=Av (fn:=f69) ⟨⟨AD7,pk ⟨Adx,gO,trivial⟩,λ_ R K=>by
 simp only[K6,AOj];kernel_rfl⟩,trivial⟩
abbrev Acm:=eN [] {Aw:=false,A8:=[(3,{Bb:=[3,7,8,9],Cg:=[(3,false,.row [] 61 Af false)]})],BW:=[(3,[3])],BS:=[(7,{Bb:=[3,7,8,9],Cg:=[(3,false,.row [] 61 Af false)]})],DD:=[(7,[3,7,8,9])]}
def Aoa a b (z_:Int×AOG):=sT 21 (AhF a b z_.1) [RZ z_.2]
def AmC(a:AOG)(b:Int):=λ(c:AOG)=>xE 0 21 jY [RZ c]
def An9 a b d e:=sT 21 (AhF a b d) [RZ e]
def AmB a b d (e:AOG):=λ(g:AOG)=>xN 21 (AhF a b d) [RZ g]
def JB(a:AOG)(b d:Int)(e:AOG):APJ AOG:=
 if 0<=d/\d<a.length then
 bif (a.getD d.toNat Af.zero).2.1 then
 if(e.length+([a.getD d.toNat Af.zero]:AOG).length)*64<=140737488355328 then
 some (e++([a.getD d.toNat Af.zero]:AOG))
 else none
 else
 some e
 else none
theorem ApI a b d e:AY Acm 0 7 (cd f71 116) 14 (An9 a b d e) (JB a b d e) (AmB a b d e):=by
 unfold AY;simp only[JB,AOi];kernel_rfl
def HU(a:AOG)(b d:Int)(e:AOG):APJ ((Int×AOG)⊕AOG):=
 bif decide (d<b)then
 (JB a b d e).bind λg=>some (.inl (wI (d+1),g))
 else
 some (.inr e)
def Dr a b (z_:Int×AOG):=HU a b z_.1 z_.2
def OX a b d e:=fix (Dr a b) (d,e)
theorem ApJ a b:A4 Acm 0 3 (code f71) 58 (Aoa a b) (Dr a b) (AmC a b):=by
 intro _;simp(disch:=refine id ?_;kernel_rfl) only[Dr,HU,AOi,Bc (ApI ..) (K:=KJ Acm 0 3)];kernel_rfl
def Kq(a:AOG):APJ AOG:=
 (OX a (a.length:Int) 0 ([]:AOG)).bind λc=>some c
def c71:=Cx [.d APz] [⟨[.AB [] APz],[],AOG,λp=>Kq p.1.1,λr=>(.AG 0,[RZ r])⟩]
theorem Ai5:Aq prog 71 c71:=Av (fn:=f71) ⟨⟨Acm,pk trivial,λ_ R K=>by
 simp(disch:=refine id ?_;kernel_rfl) only[Kq,AOj,OX,AH (ApJ _ _) (K:=A2 Acm f71 0 R K)];kernel_rfl⟩,trivial⟩
abbrev AD8:=eN [] {}
def Sd(a:AOE):APJ AON:=
 if Ty.row APw=true/\(0:Int)<=(a.length:Int)/\(a.length:Int)<=(a.length:Int)/\((24:Nat):Int)*(a.length:Int)<=(281474976710656:Int)/\(a.length:Int)<=(9223372036854775807:Int)then
 some (List.replicate (a.length:Int).toNat ([]:AOz))
 else none
def c72:=Cx [.d APx] [⟨[.AB [] APx],[],AON,λp=>Sd p.1.1,λr=>(.pr QO .u,[Dh r])⟩]
theorem Ai6:Aq prog 72 c72:=Av (fn:=f72) ⟨⟨AD8,pk trivial,λ_ R K=>by
 simp only[Sd,AOj];kernel_rfl⟩,trivial⟩
abbrev Acn:=eN [(65,c65)] {A8:=[(4,[0,17,18,19]),(8,[0,5,7,17,18,19,24,25,26])],BW:=[(4,[4]),(8,[0,4,17,18,19])]}
def Aoc a b c (z_:Int):=sT 44 [(0,Au a),(17,HB b),(18,dI c),(19,dI z_)] []
def AmE(a:AOE)(b:AON)(c:Int):=Sum.elim (λ(d:Unit)=>xR 44 fz []) (λ(e:Unit)=>xE 0 44 [] [])
def Aob a g b c i j (z_:Int×Int):=sT 44 [(0,Au a),(5,dI g),(7,dI z_.1),(17,HB b),(18,dI c),(19,dI g),(24,DW i),(25,dI j),(26,dI z_.2)] []
def AmD a g b c (i:AOz) (j:Int):=Sum.elim (λ(k:Unit)=>xR 44 [(0,Au a),(4,dB false),(17,HB b),(18,dI c),(19,dI g)] []) (λ(l:Unit)=>xE 2 44 [(0,Au a),(17,HB b),(18,dI c),(19,dI g)] [])
def My(a:AOE)(g:Int)(b:AON)(c:Int)(i:AOz)(j n o:Int):APJ (AOY⊕(Unit⊕Unit)):=
 bif decide (o<j)then
 if 0<=o/\o<i.length then
 if 0<=g/\g<a.length then
 bif !(AP (i.getD o.toNat APr.zero) (wI (n+1)) (wI ((a.getD g.toNat Ad.zero).2.1-1)))then
 some (.inr (.inl ()))
 else
 some (.inl (i.getD o.toNat APr.zero,wI (o+1)))
 else none
 else none
 else
 some (.inr (.inr ()))
def Gz a g b c i j (z_:Int×Int):=My a g b c i j z_.1 z_.2
def XQ a g b c i j n o:=fix (Gz a g b c i j) (n,o)
theorem ApK a g b c i j:A4 Acn 0 8 (cd f160 116) 462 (Aob a g b c i j) (Gz a g b c i j) (AmD a g b c i j):=by
 intro _;simp only[Gz,My,AOi];kernel_rfl
def Mz(a:AOE)(b:AON)(c g:Int):APJ (Int⊕(Unit⊕Unit)):=
 bif decide (g<c)then
 if 0<=g/\g<b.length then
 (XQ a g b c (b.getD g.toNat APw.zero) ((b.getD g.toNat APw.zero).length:Int) 0 0).bind (Sum.elim (λk=>some (.inr (.inl ()))) (λl=>some (.inl (wI (g+1)))))
 else none
 else
 some (.inr (.inr ()))
def I1 a b c (z_:Int):=Mz a b c z_
def XR a b c g:=fix (I1 a b c) g
theorem ApL a b c:A4 Acn 0 4 (code f160) 58 (Aoc a b c) (I1 a b c) (AmE a b c):=by
 intro _;simp(disch:=refine id ?_;kernel_rfl) only[I1,Mz,AOi,XQ,AH (ApK _ _ _ _ _ _) (K:=KJ Acn 0 4)];kernel_rfl
def Sc(a:AOE)(q:AOt):APJ Bool:=
 bif (q.1.length:Int) !=(a.length:Int)then
 some false
 else
 (XR a q.1 (q.1.length:Int) 0).bind (Sum.elim (λd=>some false) (λe=>some true))
def ABo:=Cx [.d APx,.d Am] [⟨[.AB [] APx,.AB [] Am],[],Bool,λp=>Sc p.1.1 p.1.2.1,λr=>(dB r,[])⟩]
theorem Aeh:Aq prog 160 ABo:=Av (fn:=f160) ⟨⟨Acn,pk ⟨Ym,trivial⟩,λ_ R K=>by
 simp(disch:=refine id ?_;kernel_rfl) only[Sc,AOj,XR,AH (ApL _ _ _) (K:=A2 Acn f160 0 R K)];kernel_rfl⟩,trivial⟩
abbrev AD9:=eN [(33,c33),(160,ABo)] {}
def Sb(a:AOE)(b:AOt):APJ Bool:=
 (Jz a).bind λc=>bif c then
 (Sc a b).bind λd=>some d
 else
 some false
def AA5:=Cx [.d APx,.d Am] [⟨[.AB [] APx,.AB [] Am],[],Bool,λp=>Sb p.1.1 p.1.2.1,λr=>(dB r,[])⟩]
theorem AdY:Aq prog 138 AA5:=Av (fn:=f138) ⟨⟨AD9,pk ⟨og,Aeh,trivial⟩,λ_ R K=>by
 simp only[Sb,AOj];kernel_rfl⟩,trivial⟩
abbrev Al7:=eN [] {Af4:=[(39,4)],BS:=[(1,[0,1,2,32])],DD:=[(1,[0,1,2])],VC:=[.mv 0 [3],.A9 3]}
def Aod(a:Int) b c d e g:=sT 54 [(0,.ptr 0 a [] 0),(1,dI b),(2,dI c)] [.box (.pr (Au d) Aai),Ca e,.A9,Fa g]
def AmF(a:Int) b c d e g:=λ(i:Bool)=>xN 54 [(0,.ptr 0 a [] 0),(1,dI b),(2,dI c),(32,dB i)] [.box (.pr (Au d) Aai),Ca e,.A9,Fa g]
def GZ(a b c:Int)(d:AOE)(e:AOO)(g:AOC):APJ Bool:=
 bif decide (c>0)then
 if 0<=b/\b<d.length then
 bif decide (c<(d.getD b.toNat Ad.zero).2.1)then
 if 0<=b/\b<e.length then
 if 0<=c/\c<(e.getD b.toNat APy.zero).length then
 some (!((e.getD b.toNat APy.zero).getD c.toNat (Ty.zero .bool)))
 else none
 else none
 else
 some false
 else none
 else
 some false
theorem ApM a b c d e g:AY Al7 4 1 (code f161) 2 (Aod a b c d e g) (GZ a b c d e g) (AmF a b c d e g):=by
 unfold AY;simp only[GZ,AOi];kernel_rfl
def BG(a b c:Int)(d:AOE)(e:AOO)(g:AOC):APJ AOZ:=
 (GZ a b c d e g).bind λi=>bif i then
 if 0<=b/\b<e.length then
 if(0:Int)<=c/\c<(e.getD b.toNat APy.zero).length then
 if(g.length+([(b,c,())]:AOC).length)*16<=140737488355328 then
 some (d,e.set b.toNat ((e.getD b.toNat APy.zero).set c.toNat true),g++([(b,c,())]:AOC))
 else none
 else none
 else none
 else
 some (d,e,g)
def AiF:=AlL [2] (Cx [.WH,.d APr,.d APr] [⟨[.ptr 0 [] 0,.AB [] APr,.AB [] APr],[.box (.pr (.AB [] APx) (.pr (.k F8) (.pr (.k (.mp 2)) (.pr (.k (.AG 3)) (.k .u))))),.row 95 .Aw APy,.A9,.row 227 .Aw Aa],AOZ,λp=>BG p.1.1 p.1.2.1 p.1.2.2.1 p.2.1.1 p.2.2.1 p.2.2.2.2.1,λr=>(.nil,[.box (.pr (Au r.1) (.pr F8 (.pr (.mp 2) (.pr KB .u)))),Ca r.2.1,.A9,.A9,Fa r.2.2])⟩])
theorem gT:Aq prog 161 AiF:=AfJ _ (Av (fn:=f161) ⟨⟨Al7,pk trivial,λ_ R K=>by
 simp(disch:=refine id ?_;kernel_rfl) only[BG,AOj,Bc (ApM ..) (K:=A2 Al7 f161 4 R K)];kernel_rfl⟩,trivial⟩)
abbrev Aco:=eN [(161,AiF)] {A8:=[(3,{Bb:=[3,5,17,18,19],Cg:=[(5,true,.row [3] 227 Aa true)]}),(7,{Bb:=[3,5,6,17,18,19,37,38,39],Cg:=[(5,true,.row [3] 227 Aa true)]})],BW:=[(3,[5]),(7,[3,5,17,18,19])]}
def Aof a b c (z_:Int×AOE×AOO×AOC):=sT 50 [(3,Ar),(5,A6),(17,Au a),(18,dI c),(19,dI z_.1)] [.box (BQ b),.box (.pr (Au z_.2.1) AhU),Ca z_.2.2.1,Hb ([]:APH AOT) none,Fa z_.2.2.2]
def AmH(a:AOE)(b:AOt)(c:Int):=λ(d:AOZ)=>xE 0 50 [(5,Ar)] [.box (.pr (Au d.1) Aai),Ca d.2.1,Hb ([]:APH AOT) none,Fa d.2.2]
def Aoe e a c b g i (z_:Int×AOE×AOO×AOC):=sT 50 [(3,Ar),(5,A6),(6,dI e),(17,Au a),(18,dI c),(19,dI e),(37,DW g),(38,dI i),(39,dI z_.1)] [.box (BQ b),.box (.pr (Au z_.2.1) AhU),Ca z_.2.2.1,Hb ([]:APH AOT) none,Fa z_.2.2.2]
def AmG e a c b (g:AOz) (i:Int):=λ(j:AOZ)=>xE 2 50 [(3,Ar),(5,A6),(17,Au a),(18,dI c),(19,dI e)] [.box (BQ b),.box (.pr (Au j.1) AhU),Ca j.2.1,Hb ([]:APH AOT) none,Fa j.2.2]
def IG(e:Int)(a:AOE)(c:Int)(b:AOt)(g:AOz)(i k:Int)(l:AOE)(n:AOO)(o:AOC):APJ (APc⊕AOZ):=
 bif decide (k<i)then
 if 0<=k/\k<g.length then
 (BG 0 e (g.getD k.toNat APr.zero) l n o).bind λq=>some (.inl (wI (k+1),q.1,q.2.1,q.2.2))
 else none
 else
 some (.inr (l,n,o))
def D2 e a c b g i (z_:Int×AOE×AOO×AOC):=IG e a c b g i z_.1 z_.2.1 z_.2.2.1 z_.2.2.2
def P3 e a c b g i k l n o:=fix (D2 e a c b g i) (k,l,n,o)
theorem ApN e a c b g i:A4 Aco 0 7 (cd f139 116) 462 (Aoe e a c b g i) (D2 e a c b g i) (AmG e a c b g i):=by
 intro _;simp only[D2,IG,AOi];kernel_rfl
def IH(a:AOE)(b:AOt)(c e:Int)(s:AOE)(t:AOO)(u:AOC):APJ (APc⊕AOZ):=
 bif decide (e<c)then
 if 0<=e/\e<a.length then
 if Ty.row .bool=true/\(0:Int)<=(a.getD e.toNat Ad.zero).2.1/\(a.getD e.toNat Ad.zero).2.1<=(a.getD e.toNat Ad.zero).2.1/\((1:Nat):Int)*(a.getD e.toNat Ad.zero).2.1<=(281474976710656:Int)/\(a.getD e.toNat Ad.zero).2.1<=(9223372036854775807:Int)then
 if 0<=e/\e<t.length then
 if 0<=e/\e<b.1.length then
 (P3 e a c b (b.1.getD e.toNat APw.zero) ((b.1.getD e.toNat APw.zero).length:Int) 0 s (t.set e.toNat (List.replicate (a.getD e.toNat Ad.zero).2.1.toNat false)) u).bind λj=>some (.inl (wI (e+1),j.1,j.2.1,j.2.2))
 else none
 else none
 else none
 else none
 else
 some (.inr (s,t,u))
def D3 a b c (z_:Int×AOE×AOO×AOC):=IH a b c z_.1 z_.2.1 z_.2.2.1 z_.2.2.2
def P4 a b c e s t u:=fix (D3 a b c) (e,s,t,u)
theorem ApO a b c:A4 Aco 0 3 (code f139) 58 (Aof a b c) (D3 a b c) (AmH a b c):=by
 intro _;simp(disch:=refine id ?_;kernel_rfl) only[D3,IH,AOi,P3,AH (ApN _ _ _ _ _ _) (K:=KJ Aco 0 3)];kernel_rfl
def L6(a:AOE)(b:AOt):APJ (Int×AOE×AOO×APf×AOC):=
 if Ty.row APy=true/\(0:Int)<=(a.length:Int)/\(a.length:Int)<=(a.length:Int)/\((24:Nat):Int)*(a.length:Int)<=(281474976710656:Int)/\(a.length:Int)<=(9223372036854775807:Int)then
 (P4 a b (a.length:Int) 0 a (List.replicate (a.length:Int).toNat ([]:AOA)) ([]:AOC)).bind λd=>some (0,d.1,d.2.1,([]:APH AOT),d.2.2)
 else none
def AA6:=Cx [.d APx,.d Am] [⟨[.AB [] APx,.AB [] Am],[],Int×AOE×AOO×APf×AOC,λp=>L6 p.1.1 p.1.2.1,λr=>(.ptr 0 r.1 [] 0,[.box (.pr (Au r.2.1) Aai),Ca r.2.2.1,Hb r.2.2.2.1 none,Fa r.2.2.2.2])⟩]
theorem AdZ:Aq prog 139 AA6:=Av (fn:=f139) ⟨⟨Aco,pk ⟨gT,trivial⟩,λ_ R K=>by
 simp(disch:=refine id ?_;kernel_rfl) only[L6,AOj,P4,AH (ApO _ _ _) (K:=A2 Aco f139 0 R K)];kernel_rfl⟩,trivial⟩
abbrev AtO:=eN [] {Aw:=false,take:=[25]}
def ABA:=Aba [.WH,.WH] AtO f176
theorem Aet:Aq prog 176 ABA:=fR (pk trivial)
abbrev nG:=eN [(176,ABA)] {Aw:=false,A8:=[(3,[0,3,9,10,11]),(11,{Bb:=[6,25,26,27],Cg:=[(6,false,.row [] 142 Ae false)]})],BW:=[(3,[0,3]),(11,[6])],BS:=[(8,[0,3,9,10,11])],DD:=[(8,[0,3,9,10,11])]}
def Aoj a b (z_:Int×AOF):=sT 36 [(6,.AG 0),(25,Ni a),(26,dI b),(27,dI z_.1)] [Cb z_.2]
def AmL(a:AOQ)(b:Int):=λ(c:AOF)=>xE 2 36 [(6,.AG 0)] [Cb c]
def Qh(a:AOQ)(b d:Int)(e:AOF):APJ (AO7⊕AOF):=
 bif decide (d<b)then
 if 0<=d/\d<a.length then
 if(e.length+(a.getD d.toNat APu.zero).length)*56<=140737488355328 then
 some (.inl (wI (d+1),e++(a.getD d.toNat APu.zero)))
 else none
 else none
 else
 some (.inr e)
def JV a b (z_:Int×AOF):=Qh a b z_.1 z_.2
def Sw a b d e:=fix (JV a b) (d,e)
theorem ApS a b:A4 nG 0 11 (code f162) 250 (Aoj a b) (JV a b) (AmL a b):=by
 intro _;simp only[JV,Qh,AOi];kernel_rfl
def Aoi a g (z_:Int×AOF):=sT 36 [(6,.AG 0),(25,Ni a),(26,dI g),(27,dI z_.1)] [Cb z_.2]
def AmK(a:AOQ)(g:Int):=λ(i:AOF)=>xE 2 36 [(6,.AG 0)] [Cb i]
def Gl(a:AOQ)(g j:Int)(k:AOF):APJ (AO7⊕AOF):=
 bif decide (j<g)then
 if 0<=j/\j<a.length then
 if(k.length+(a.getD j.toNat APu.zero).length)*56<=140737488355328 then
 some (.inl (wI (j+1),k++(a.getD j.toNat APu.zero)))
 else none
 else none
 else
 some (.inr k)
def C3 a g (z_:Int×AOF):=Gl a g z_.1 z_.2
def Mf a g j k:=fix (C3 a g) (j,k)
theorem ApR a g:A4 nG 0 11 (code f162) 250 (Aoi a g) (C3 a g) (AmK a g):=by
 intro _;simp only[C3,Gl,AOi];kernel_rfl
def Aoh a l (z_:Int×Int):=sT 36 [(0,Ni a),(3,dI z_.1),(9,Ni a),(10,dI l),(11,dI z_.2)] []
def AmJ a (l:Int):=λ(n:Int)=>xE 0 36 [(0,Ni a),(3,dI n)] []
def Aog a o l q:=sT 36 [(0,Ni a),(3,dI o),(9,Ni a),(10,dI l),(11,dI q)] []
def AmI a (o:Int) l (q:Int):=λ(s:Unit)=>xN 36 [(0,Ni a),(3,dI (wI (o+((a.getD q.toNat APu.zero).length:Int)))),(9,Ni a),(10,dI l),(11,dI q)] []
def H6(a:AOQ)(o l q:Int):APJ Unit:=
 if 0<=q/\q<a.length then
 bif decide ((wI (o+((a.getD q.toNat APu.zero).length:Int)))<0)then
 none
 else
 some ()
 else none
theorem ApP a o l q:AY nG 0 8 (cd f162 116) 14 (Aog a o l q) (H6 a o l q) (AmI a o l q):=by
 unfold AY;simp only[H6,AOi];kernel_rfl
def Gk(a:AOQ)(l o q:Int):APJ (AOY⊕Int):=
 bif decide (q<l)then
 (H6 a o l q).bind λs=>some (.inl (wI (o+((a.getD q.toNat APu.zero).length:Int)),wI (q+1)))
 else
 some (.inr o)
def C2 a l (z_:Int×Int):=Gk a l z_.1 z_.2
def Me a l o q:=fix (C2 a l) (o,q)
theorem ApQ a l:A4 nG 0 3 (code f162) 58 (Aoh a l) (C2 a l) (AmJ a l):=by
 intro _;simp(disch:=refine id ?_;kernel_rfl) only[C2,Gk,AOi,Bc (ApP ..) (K:=KJ nG 0 3)];kernel_rfl
def H5(a:AOQ):APJ AOF:=
 (Me a (a.length:Int) 0 0).bind λn=>bif decide (n<0)then
 none
 else
 bif decide ((wI (n-0))>0)then
 if(0:Int)<=(wI (n-0))/\(wI (n-0))*((56:Nat):Int)<=(140737488355328:Int)then
 if(0:Int)<=(0:Int)/\(0:Int)<=((List.replicate (wI (n-0)).toNat (0,0,0,(0,([]:AOz),()),())).length:Int)then
 (Mf a (a.length:Int) 0 ((List.replicate (wI (n-0)).toNat (0,0,0,(0,([]:AOz),()),())).take 0)).bind λi=>some i
 else none
 else none
 else
 (Sw a (a.length:Int) 0 ([]:AOF)).bind λc=>some c
def ABp:=Cx [.d APE] [⟨[.AB [] APE],[],AOF,λp=>H5 p.1.1,λr=>(.AG 0,[Cb r])⟩]
theorem Aei:Aq prog 162 ABp:=Av (fn:=f162) ⟨⟨nG,pk ⟨Aet,trivial⟩,λ_ R K=>by
 simp(disch:=refine id ?_;kernel_rfl) only[H5,AOj,Me,AH (ApQ _ _) (K:=A2 nG f162 0 R K),Mf,AH (ApR _ _) (K:=A2 nG f162 0 R K),Sw,AH (ApS _ _) (K:=A2 nG f162 0 R K)];kernel_rfl⟩,trivial⟩
abbrev vy:=eN [] {A8:=[(3,{Bb:=[3,8,9,10],Cg:=[(3,false,.row [] 254 Ab true)]}),(7,[3,5,6,8,9,10])],BW:=[(3,[3]),(7,[3,8,9,10])],BS:=[(8,[3,5,6,8,9,10])],DD:=[(8,[3,5,6,8,9,10])]}
def Aom a b (z_:Int×AOD):=sT 43 [(3,.AG 0),(8,Cc a),(9,dI b),(10,dI z_.1)] [WW z_.2]
def AmO(a:AOF)(b:Int):=λ(c:AOD)=>xE 0 43 jY [WW c]
def Aol a b d e (z_:Int×AOD):=sT 43 (AhG z_.1 a b d) [WW z_.2,.box (Kn e)]
def AmN a b d (e:AOo):=λ(g:AOD)=>xE 2 43 [(3,.AG 0),(8,Cc a),(9,dI b),(10,dI d)] [WW g]
def Aok i a b d j e:=sT 43 (AhG i a b d) [WW j,.box (Kn e)]
def AmM i a b d (j:AOD) e:=λ(k:AOD)=>xN 43 (AhG i a b d) [WW k,.box (Kn e)]
def Kr(i:Int)(a:AOF)(b d:Int)(j:AOD)(e:AOo):APJ AOD:=
 bif e.1==(-1)then
 if(j.length+([(2,0,0,())]:AOD).length)*24<=140737488355328 then
 some (j++([(2,0,0,())]:AOD))
 else none
 else
 if(j.length+([(1,e.1,wI (e.2.1+i),())]:AOD).length)*24<=140737488355328 then
 some (j++([(1,e.1,wI (e.2.1+i),())]:AOD))
 else none
theorem ApT i a b d j e:AY vy 0 8 (sb (cd f163 116) 924) 6 (Aok i a b d j e) (Kr i a b d j e) (AmM i a b d j e):=by
 unfold AY;simp only[Kr,AOi];kernel_rfl
def Lb(a:AOF)(b d:Int)(e:AOo)(i:Int)(j:AOD):APJ (AOX⊕AOD):=
 bif decide (i<e.2.2.1)then
 (Kr i a b d j e).bind λk=>some (.inl (wI (i+1),k))
 else
 some (.inr j)
def Fq a b d e (z_:Int×AOD):=Lb a b d e z_.1 z_.2
def Oi a b d e i j:=fix (Fq a b d e) (i,j)
theorem ApU a b d e:A4 vy 0 7 (cd f163 116) 462 (Aol a b d e) (Fq a b d e) (AmN a b d e):=by
 intro _;simp(disch:=refine id ?_;kernel_rfl) only[Fq,Lb,AOi,Bc (ApT ..) (K:=KJ vy 0 7)];kernel_rfl
def Lc(a:AOF)(b d:Int)(l:AOD):APJ (AOX⊕AOD):=
 bif decide (d<b)then
 if 0<=d/\d<a.length then
 if(l.length+([(0,0,0,())]:AOD).length)*24<=140737488355328 then
 (Oi a b d (a.getD d.toNat Ae.zero) 1 (l++([(0,0,0,())]:AOD))).bind λg=>some (.inl (wI (d+1),g))
 else none
 else none
 else
 some (.inr l)
def Fs a b (z_:Int×AOD):=Lc a b z_.1 z_.2
def Oj a b d l:=fix (Fs a b) (d,l)
theorem ApV a b:A4 vy 0 3 (code f163) 58 (Aom a b) (Fs a b) (AmO a b):=by
 intro _;simp(disch:=refine id ?_;kernel_rfl) only[Fs,Lc,AOi,Oi,AH (ApU _ _ _ _) (K:=KJ vy 0 3)];kernel_rfl
def JJ(a:AOF):APJ AOD:=
 (Oj a (a.length:Int) 0 ([]:AOD)).bind λc=>some c
def ABq:=Cx [.d APu] [⟨[.AB [] APu],[],AOD,λp=>JJ p.1.1,λr=>(.AG 0,[WW r])⟩]
theorem Aej:Aq prog 163 ABq:=Av (fn:=f163) ⟨⟨vy,pk trivial,λ_ R K=>by
 simp(disch:=refine id ?_;kernel_rfl) only[JJ,AOj,Oj,AH (ApV _ _) (K:=A2 vy f163 0 R K)];kernel_rfl⟩,trivial⟩
end
end Go.Proofs.X
