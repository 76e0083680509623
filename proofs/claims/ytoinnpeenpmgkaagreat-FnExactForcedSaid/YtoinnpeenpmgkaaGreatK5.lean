import Derived.KernelRfl
import Derived.Test.YtoinnpeenpmgkaaGreatK4
set_option linter.unusedVariables false
set_option linter.unusedSimpArgs false
namespace Go.Proofs.X
open Go Go.Va Go.Proofs.Tryz
set_option maxRecDepth 100000
noncomputable section
abbrev E80:=eN [(191,AFu)] {}
def IP(a:ASD)(b:Bool):ATP Bool:=
 (Rn a b).bind λc=>some (decide (c>=0))
def AFk:=Ck [.d ATF,.d .bool] [⟨[.AB [] ATF,.AB [] .bool],[],Bool,λp=>IP p.1.1 p.1.2.1,λr=>(dB r,[])⟩]
theorem AgR:An prog 176 AFk:=Av (fn:=f176) ⟨⟨E80,pk ⟨Ag1,trivial⟩,λ_ R K=>by
 simp only[IP,ASn];kernel_rfl⟩,trivial⟩
abbrev E81:=eN [(118,zl),(174,AFi),(175,AFj),(176,AFk)] {Ba:=[(6,[0,3,6,7,8,29,30]),(13,[0,3,6,7,8,9,10,11,29,30,52,53,54])],BN:=[(6,{Be:=[4,5,6,7,8],RU:=[(8,false,ATF)]}),(13,{Be:=[0,3,4,5,6,7,8,9,10,11,29,30],RU:=[(11,false,ATD)]})],BM:=[(3,[0,3,6,22]),(21,[0,3,6,7,8,29,30,92])],W8:=[(4,{Be:=[0,3,6,7,8],Xu:=true})],Du:=[(3,[0,3,6]),(21,[0,3,6,7,8,9,10,29,30])],Yl:=[(4,[0,3,6])],iq:=[(0,.row [] 2 ATy true)]}
def ABp a b c d (z_:Int×ASC×ASD):=sT 101 [(0,Ar a),(3,Aq),(6,dI c),(7,.AK 1),(8,.AK 2),(29,dI d),(30,dI z_.1)] (tB b z_.2.1 z_.2.2)
def Azi(a:ASG)(b:ASz) c (d:Int):=Sum.elim (λ(e:AS6)=>xR 101 [(4,.zs),(5,dB false),(6,dI c),(7,.AK 0),(8,Z5 e.1)] [AA e.2]) (λ(g:AS6)=>xE 0 101 [(6,dI c),(7,.AK 0),(8,Z5 g.1)] [AA g.2])
def ABo a c i d b j k l:=sT 101 [(0,Ar a),(3,Aq),(6,dI c),(7,.AK 1),(8,.AK 2),(9,dI i),(10,.FQ [] Ag j),(29,dI d),(30,dI i)] (tB b k l)
def Azh a c i d b (j:ASt) k l:=λ(n:Bool)=>xN 101 [(0,Ar a),(3,Aq),(6,dI c),(7,.AK 1),(8,.AK 2),(29,dI d),(30,dI i),(92,dB n)] (tB b k l)
def Q8(a:ASG)(c i d:Int)(b:ASz)(j:ASt)(k:ASC)(l:ASD):ATP Bool:=
 bif !(EG j)then
 some true
 else
 if 0<=i/\i<k.length then
 some (!(AY (k.getD i.toNat ATy.zero) 1 4096))
 else none
theorem ADX a c i d b j k l:AX E81 0 21 (cd f153 500) 3710 (ABo a c i d b j k l) (Q8 a c i d b j k l) (Azh a c i d b j k l):=by
 unfold AX;simp only[Q8,ASm];kernel_rfl
def ABn a c i d b o q s t (z_:Int×ASD×ASC):=sT 101 [(0,Ar a),(3,Aq),(6,dI c),(7,.AK 1),(8,.AK 2),(9,dI i),(10,.FQ [] Ag q),(11,.AK 3),(29,dI d),(30,dI i),(52,B8 s),(53,dI t),(54,dI z_.1)] [.box (LR b),AA o,Ig z_.2.1,AA z_.2.2]
def Azg a c i d b o q (s:ASC) (t:Int):=Sum.elim (λ(u:(ASC×ASD))=>xR 101 [(0,Ar a),(3,Aq),(4,.zs),(5,dB false),(6,dI c),(7,.AK 1),(8,.AK 2),(9,dI i),(10,.FQ [] Ag q),(11,B8 u.1),(29,dI d),(30,dI i)] (tB b o u.2)) (λ(v:(ASC×ASD))=>xE 2 101 [(0,Ar a),(3,Aq),(6,dI c),(7,.AK 1),(8,.AK 2),(9,dI i),(10,.FQ [] Ag q),(11,B8 v.1),(29,dI d),(30,dI i)] (tB b o v.2))
def NP(a:ASG)(c i d:Int)(b:ASz)(o:ASC)(q:ASt)(s:ASC)(t w:Int)(x:ASD)(y:ASC):ATP ((Int×ASD×ASC)⊕((ASC×ASD)⊕(ASC×ASD))):=
 bif decide (w<t)then
 if 0<=w/\w<s.length then
 bif !(AY (s.getD w.toNat ATy.zero) 0 (wI (i-1)))then
 some (.inr (.inl (y,x)))
 else
 if(0:Int)<=(s.getD w.toNat ATy.zero)/\(s.getD w.toNat ATy.zero)<(o.length:Int)then
 if(0:Int)<=(s.getD w.toNat ATy.zero)/\(s.getD w.toNat ATy.zero)<(x.length:Int)then
 if 0<=w/\w<y.length then
 some (.inl (wI (w+1),x.set (s.getD w.toNat ATy.zero).toNat true,y.set w.toNat (o.getD (s.getD w.toNat ATy.zero).toNat ATy.zero)))
 else none
 else none
 else none
 else none
 else
 some (.inr (.inr (y,x)))
def G2 a c i d b o q s t (z_:Int×ASD×ASC):=NP a c i d b o q s t z_.1 z_.2.1 z_.2.2
def Q7 a c i d b o q s t w x y:=fix (G2 a c i d b o q s t) (w,x,y)
theorem ADW a c i d b o q s t:A8 E81 0 13 (cd f153 500) 3706 (ABn a c i d b o q s t) (G2 a c i d b o q s t) (Azg a c i d b o q s t):=by
 intro _;simp only[G2,NP,ASm];kernel_rfl
def NQ(a:ASG)(b:ASz)(c d i:Int)(o:ASC)(a1:ASD):ATP ((Int×ASC×ASD)⊕(AS6⊕AS6)):=
 bif decide (i<d)then
 if 0<=i/\i<b.1.length then
 bif decide (((b.1.getD i.toNat Ag.zero).2.2.2.2.2.1.length:Int)>4096)then
 some (.inr (.inl (a1,o)))
 else
 if Ty.row ATy=true/\(0:Int)<=((b.1.getD i.toNat Ag.zero).2.2.2.2.2.1.length:Int)/\((b.1.getD i.toNat Ag.zero).2.2.2.2.2.1.length:Int)<=((b.1.getD i.toNat Ag.zero).2.2.2.2.2.1.length:Int)/\((8:Nat):Int)*((b.1.getD i.toNat Ag.zero).2.2.2.2.2.1.length:Int)<=(281474976710656:Int)/\((b.1.getD i.toNat Ag.zero).2.2.2.2.2.1.length:Int)<=(9223372036854775807:Int)then
 (Q7 a c i d b o (b.1.getD i.toNat Ag.zero) (b.1.getD i.toNat Ag.zero).2.2.2.2.2.1 ((b.1.getD i.toNat Ag.zero).2.2.2.2.2.1.length:Int) 0 a1 (List.replicate ((b.1.getD i.toNat Ag.zero).2.2.2.2.2.1.length:Int).toNat 0)).bind (Sum.elim (λu=>some (.inr (.inl (u.2,o)))) (λv=>(GY (b.1.getD i.toNat Ag.zero) a v.1).bind λb1=>if 0<=i/\i<o.length then
 (Q8 a c i d b (b.1.getD i.toNat Ag.zero) (o.set i.toNat b1) v.2).bind λn=>bif n then
 some (.inr (.inl (v.2,o.set i.toNat b1)))
 else
 some (.inl (wI (i+1),o.set i.toNat b1,v.2))
 else none))
 else none
 else none
 else
 some (.inr (.inr (a1,o)))
def G3 a b c d (z_:Int×ASC×ASD):=NQ a b c d z_.1 z_.2.1 z_.2.2
def Vn a b c d i o a1:=fix (G3 a b c d) (i,o,a1)
theorem ADY a b c d:A8 E81 0 6 (code f153) 250 (ABp a b c d) (G3 a b c d) (Azi a b c d):=by
 intro _;simp(disch:=refine id ?_;kernel_rfl) only[G3,NQ,ASm,Q7,AJ (ADW _ _ _ _ _ _ _ _ _) (K:=Ka E81 0 6),Bf (ADX ..) (K:=Ka E81 0 6)];kernel_rfl
def AnL a b c1:=sT 101 [(0,Ar a),(3,Aq),(6,dI c1)] [.box (LR b)]
def AaW a b c1:=λ(d1:(ASC×ASD))=>sT 101 [(0,Ar a),(3,Aq),(6,dI c1),(7,.AK 1),(8,.AK 2)] (tB b d1.1 d1.2)
def M6(a:ASG)(b:ASz)(c1:Int):ATP (ASC×ASD):=
 if Ty.row ATy=true/\(0:Int)<=c1/\c1<=c1/\((8:Nat):Int)*c1<=(281474976710656:Int)/\c1<=(9223372036854775807:Int)then
 if Ty.row .bool=true/\(0:Int)<=c1/\c1<=c1/\((1:Nat):Int)*c1<=(281474976710656:Int)/\c1<=(9223372036854775807:Int)then
 some (List.replicate c1.toNat 0,List.replicate c1.toNat false)
 else none
 else none
theorem ADV(a:ASG)(b:ASz)(c1:Int):MQ E81 0 4 (code f153) 30 (AnL a b c1) (M6 a b c1) (AaW a b c1):=by
 unfold MQ;have h:re E81 0 4 (code f153) (pt 30) (AnL a b c1) =
 if Ty.row ATy=true/\(0:Int)<=c1/\c1<=c1/\((8:Nat):Int)*c1<=(281474976710656:Int)/\c1<=(9223372036854775807:Int)then
 if Ty.row .bool=true/\(0:Int)<=c1/\c1<=c1/\((1:Nat):Int)*c1<=(281474976710656:Int)/\c1<=(9223372036854775807:Int)then
 (((if Ty.row ATy=true/\(0:Int)<=c1/\c1<=c1/\((8:Nat):Int)*c1<=(281474976710656:Int)/\c1<=(9223372036854775807:Int)then
 if Ty.row .bool=true/\(0:Int)<=c1/\c1<=c1/\((1:Nat):Int)*c1<=(281474976710656:Int)/\c1<=(9223372036854775807:Int)then
 DY (AaW a b c1 (List.replicate c1.toNat 0,List.replicate c1.toNat false))
 else none
 else none).bind λ_=>if Ty.row .bool=true/\(0:Int)<=c1/\c1<=c1/\((1:Nat):Int)*c1<=(281474976710656:Int)/\c1<=(9223372036854775807:Int)then
 if Ty.row ATy=true/\(0:Int)<=c1/\c1<=c1/\((8:Nat):Int)*c1<=(281474976710656:Int)/\c1<=(9223372036854775807:Int)then
 DY (AaW a b c1 (List.replicate c1.toNat 0,List.replicate c1.toNat false))
 else none
 else none).bind λ_=>some (AaW a b c1 (List.replicate c1.toNat 0,List.replicate c1.toNat false)))
 else none
 else none:=by kernel_rfl
 rw[h];unfold M6;simp only[ASm,mS,mO];clear h;by_cases GM:Ty.row ATy=true/\(0:Int)<=c1/\c1<=c1/\((8:Nat):Int)*c1<=(281474976710656:Int)/\c1<=(9223372036854775807:Int)
 ·rw[AQr GM,AQr GM];by_cases Pk:Ty.row .bool=true/\(0:Int)<=c1/\c1<=c1/\((1:Nat):Int)*c1<=(281474976710656:Int)/\c1<=(9223372036854775807:Int)
  ·rw[AQr Pk,AQr Pk];simp only[AQr GM,AQr Pk,AQV,AP9,DY,DD]
  ·simp only[AQr GM,AQV,AQs Pk]
 ·simp only[AQV,AQs GM]
def AnK a (b:ASz):=sT 101 [(0,Ar a),(3,Aq),(6,dI (b.1.length:Int))] [.box (LR b)]
def Afb(a:ASG)(b:ASz)(m0:Bool):Ex×St:=xN 101 [(0,Ar a),(3,Aq),(6,dI (b.1.length:Int)),(22,dB m0)] [.box (LR b)]
theorem ADU a b:Xk E81 0 3 (code f153) (pt 28) (AnK a b)=some (Afb a b ((decide ((b.1.length:Int)<1))||(decide ((b.1.length:Int)>400)))):=by
 refine .trans (b:=
 bif decide ((b.1.length:Int)<1)then
 some (Afb a b true)
 else
 some (Afb a b (decide ((b.1.length:Int)>400)))) (by kernel_rfl) ?_
 cases (decide ((b.1.length:Int)<1));rfl;rfl
def TJ(a:ASG)(b:ASz):ATP (Bool×ASC):=
 OQ (AnK a b) (
 bif (decide ((b.1.length:Int)<1))||(decide ((b.1.length:Int)>400))then
 some (false,([]:ASC))
 else
 (M6 a b (b.1.length:Int)).bind λd1=>(Vn a b (b.1.length:Int) (b.1.length:Int) 0 d1.1 d1.2).bind (Sum.elim (λe=>some (false,([]:ASC))) (λg=>if(0:Int)<=(0:Int)/\(0:Int)<=(wI ((b.1.length:Int)-1))/\(wI ((b.1.length:Int)-1))<=(g.1.length:Int)then
 (IP ((g.1.take (wI ((b.1.length:Int)-1)).toNat).drop 0) false).bind λe1=>some (!e1,g.2)
 else none)))
def AE1:=Ck [.d ATE,.d Ap] [⟨[.AB [] ATE,.AB [] Ap],[],Bool×ASC,λp=>TJ p.1.1 p.1.2.1,λr=>(.cons H7 (.cons (dB r.1) .nil),[AA r.2])⟩]
theorem Agy:An prog 153 AE1:=Av (fn:=f153) ⟨⟨E81,pk ⟨W4,AgP,AgQ,AgR,trivial⟩,λ_ R K=>by
 simp(disch:=refine id ?_;kernel_rfl) only[TJ,ASn,Ey (ADU ..) (K:=A2 E81 f153 0 R K),Tv (ADV ..) (K:=A2 E81 f153 0 R K),Vn,AJ (ADY _ _ _ _) (K:=A2 E81 f153 0 R K)];kernel_rfl⟩,trivial⟩
abbrev E82:=eN [(153,AE1)] {}
def Fc(a:ASG)(b:ASz):ATP Int:=
 (TJ a b).bind λc=>bif !c.1 then
 some (-1)
 else
 if 0<=(wI ((c.2.length:Int)-1))/\(wI ((c.2.length:Int)-1))<c.2.length then
 some (c.2.getD (wI ((c.2.length:Int)-1)).toNat ATy.zero)
 else none
def Avh:=Ck [.d ATE,.d Ap] [⟨[.AB [] ATE,.AB [] Ap],[],Int,λp=>Fc p.1.1 p.1.2.1,λr=>(dI r,[])⟩]
theorem uD:An prog 120 Avh:=Av (fn:=f120) ⟨⟨E82,pk ⟨Agy,trivial⟩,λ_ R K=>by
 simp only[Fc,ASn];kernel_rfl⟩,trivial⟩
noncomputable def AFd:Va.Callee:=aW 199 ATz 8
noncomputable abbrev AFD:GX:={Ee:=Ee,fns:=O8 [],fi:={}}
theorem Al3:Jz Tryz.prog AFD:=(pk (l:=[]) trivial)
theorem AgK:An Tryz.prog 169 AFd:=
 eK (fn:=Tryz.f169) Al3 (by kernel_rfl) (by kernel_rfl) rfl rfl rfl ⟨rfl,rfl,rfl⟩ ⟨rfl,rfl,rfl⟩ (ti:=⟨.sl ATz,[],199,24,0,0,false⟩) (by kernel_rfl) rfl (by kernel_rfl) (λxs=>by kernel_rfl) (λxs=>by kernel_rfl)
  λxs h=>by
   have h0:ev AFD 0 (sub (code Tryz.f169) [1,1]) (Ex×St) ⟨[.AB [] ATI xs,.un 0,.zs,.AB [] ATI xs,.bool false,.un 0,.un 0,.un 0],[]⟩ Se=if xs.length*8<=140737488355328 then some (.ret,⟨[.AB [] ATI xs,.un 0,.AK 0,.AB [] ATI xs,.bool false,.zs,.AB [] ATI xs,.AK 0],[Bj xs]⟩)else none:=by kernel_rfl
   exact h0.trans (AQr h)
abbrev E83:=eN [(169,AFd)] {}
def Dp(a:ASv):ATP ASZ:=
 if a.2.1.length*8<=140737488355328 then
 some (a.1,a.2.1)
 else none
def Ak8:=Ck [.d Ai] [⟨[.AB [] Ai],[],ASZ,λp=>Dp p.1.1,λr=>(.pr (dI r.1) Pj,[Bj r.2])⟩]
theorem jI:An prog 146 Ak8:=Av (fn:=f146) ⟨⟨E83,pk ⟨AgK,trivial⟩,λ_ R K=>by
 simp only[Dp,ASn];kernel_rfl⟩,trivial⟩
abbrev E84:=eN [] {}
def AQ(a:Int)(b:ASC):ATd:=(-1,0,a,a,b)
def Avp:=Ck [.VE] [⟨[.pr (.AB [] ATy) (.pr (.k H7) (.k .u))],[.row 199 .Aw ATz],ATd,λp=>some (AQ p.1.1.1 p.2.1),λr=>(.pr (dI r.1) (.pr (dI r.2.1) (.pr (dI r.2.2.1) (.pr (.pr (dI r.2.2.2.1) Pj) .u))),[Bj r.2.2.2.2])⟩]
theorem uL:An prog 177 Avp:=Av (fn:=f177) ⟨⟨E84,pk trivial,λ_ _ _=>by kernel_rfl⟩,trivial⟩
abbrev E85:=eN [] {}
def D3(a b:ASs):Bool:=((a.1==b.1)&&((a.1==(-1))||((wI (a.2.1+a.2.2.1))==b.2.1)))
theorem U85 R a b K:TT E85 f192 R [K6 a,K6 b] [] K=K (dB (D3 a b)) []:=by
 refine .trans (b:=
 bif a.1==b.1 then
 bif a.1==(-1)then
 K (dB true) []
 else
 K (dB ((wI (a.2.1+a.2.2.1))==b.2.1)) []
 else
 K (dB false) []) (by kernel_rfl) ?_
 unfold D3;cases (a.1==b.1);rfl;cases (a.1==(-1));rfl;rfl
def AFv:=Ck [.d Af,.d Af] [⟨[.AB [] Af,.AB [] Af],[],Bool,λp=>some (D3 p.1.1 p.1.2.1),λr=>(dB r,[])⟩]
theorem Ag2:An prog 192 AFv:=Av ⟨⟨E85,pk trivial,λ_ _ _=>U85 ..⟩,trivial⟩
abbrev E86:=eN [(157,Avm)] {}
def DZ(a:Int):ATP ASZ:=
 if Ty.row ATz=true/\(0:Int)<=(Ct a)/\(Ct a)<=(Ct a)/\((8:Nat):Int)*(Ct a)<=(281474976710656:Int)/\(Ct a)<=(9223372036854775807:Int)then
 some (a,List.replicate (Ct a).toNat 0)
 else none
def Age:=Ck [.d ATy] [⟨[.AB [] ATy],[],ASZ,λp=>DZ p.1.1,λr=>(.pr (dI r.1) Pj,[Bj r.2])⟩]
theorem cG:An prog 125 Age:=Av (fn:=f125) ⟨⟨E86,pk ⟨uI,trivial⟩,λ_ R K=>by
 simp only[DZ,ASn];kernel_rfl⟩,trivial⟩
abbrev E87:=eN [] {Ba:=[(2,[1,3,10,11,12])],BN:=[(2,{Be:=[]})],BM:=[(7,[1,3,7,8,10,11,12,44]),(8,[1,3,10,11,12])],Du:=[(7,[1,3,7,8,10,11,12]),(8,[1,3,10,11,12])]}
def ABr a b c d (z_:Int×ASC):=sT 60 (Aj6 a c d z_.1) [Bj z_.2,.box (.pr (dI b) Pj)]
def Azk(a b:Int)(c:ASC)(d:Int):=λ(e:ASC)=>xE 0 60 [] [Bj e]
def ABq a c d g i b:=sT 60 (Aj6 a c d g) [Bj i,.box (.pr (dI b) Pj)]
def Azj a c d g (i:ASC) b:=λ(j:ASC)=>xN 60 (Aj6 a c d g) [Bj j,.box (.pr (dI b) Pj)]
def AnM a (c:ASC) (g:Int) d (i:ASC) b:=sT 60 [(1,dI a),(3,AZ),(7,dD ATz (c.getD g.toNat ATz.zero)),(8,dI (wI (a+(wI (64*g))))),(10,Tm c),(11,dI d),(12,dI g)] [Bj (i.set (wI (Int.tdiv (wI (a+(wI (64*g)))) 64)).toNat (fC .u64 (i.getD (wI (Int.tdiv (wI (a+(wI (64*g)))) 64)).toNat ATz.zero) (NS .u64 (c.getD g.toNat ATz.zero) (Int.tmod (wI (a+(wI (64*g)))) 64)))),.box (.pr (dI b) Pj)]
def Afc(a:Int)(c:ASC)(g d:Int)(i:ASC)(b:Int)(m0:Bool):Ex×St:=xN 60 [(1,dI a),(3,AZ),(7,dD ATz (c.getD g.toNat ATz.zero)),(8,dI (wI (a+(wI (64*g))))),(10,Tm c),(11,dI d),(12,dI g),(44,dB m0)] [Bj (i.set (wI (Int.tdiv (wI (a+(wI (64*g)))) 64)).toNat (fC .u64 (i.getD (wI (Int.tdiv (wI (a+(wI (64*g)))) 64)).toNat ATz.zero) (NS .u64 (c.getD g.toNat ATz.zero) (Int.tmod (wI (a+(wI (64*g)))) 64)))),.box (.pr (dI b) Pj)]
theorem ADZ a c g d i b:Xk E87 1 7 (sb (cd f206 28) 14) (pt 46) (AnM a c g d i b)=some (Afc a c g d i b (((Int.tmod (wI (a+(wI (64*g)))) 64) !=0)&&(decide ((wI ((wI (Int.tdiv (wI (a+(wI (64*g)))) 64))+1))<((i.set (wI (Int.tdiv (wI (a+(wI (64*g)))) 64)).toNat (fC .u64 (i.getD (wI (Int.tdiv (wI (a+(wI (64*g)))) 64)).toNat ATz.zero) (NS .u64 (c.getD g.toNat ATz.zero) (Int.tmod (wI (a+(wI (64*g)))) 64)))).length:Int))))):=by
 refine .trans (b:=
 bif (Int.tmod (wI (a+(wI (64*g)))) 64) !=0 then
 some (Afc a c g d i b (decide ((wI ((wI (Int.tdiv (wI (a+(wI (64*g)))) 64))+1))<((i.set (wI (Int.tdiv (wI (a+(wI (64*g)))) 64)).toNat (fC .u64 (i.getD (wI (Int.tdiv (wI (a+(wI (64*g)))) 64)).toNat ATz.zero) (NS .u64 (c.getD g.toNat ATz.zero) (Int.tmod (wI (a+(wI (64*g)))) 64)))).length:Int))))
 else
 some (Afc a c g d i b false)) (by kernel_rfl) ?_
 cases ((Int.tmod (wI (a+(wI (64*g)))) 64) !=0);rfl;rfl
def JC(a:Int)(c:ASC)(d g:Int)(i:ASC)(b:Int):ATP ASC:=
 if 0<=g/\g<c.length then
 if 0<=(wI (Int.tdiv (wI (a+(wI (64*g)))) 64))/\(wI (Int.tdiv (wI (a+(wI (64*g)))) 64))<i.length then
 if(Int.tmod (wI (a+(wI (64*g)))) 64)<(0:Int)then none else
 if 0<=(wI (Int.tdiv (wI (a+(wI (64*g)))) 64))/\(wI (Int.tdiv (wI (a+(wI (64*g)))) 64))<i.length then
 OQ (AnM a c g d i b) (
 bif ((Int.tmod (wI (a+(wI (64*g)))) 64) !=0)&&(decide ((wI ((wI (Int.tdiv (wI (a+(wI (64*g)))) 64))+1))<((i.set (wI (Int.tdiv (wI (a+(wI (64*g)))) 64)).toNat (fC .u64 (i.getD (wI (Int.tdiv (wI (a+(wI (64*g)))) 64)).toNat ATz.zero) (NS .u64 (c.getD g.toNat ATz.zero) (Int.tmod (wI (a+(wI (64*g)))) 64)))).length:Int)))then
 if 0<=(wI ((wI (Int.tdiv (wI (a+(wI (64*g)))) 64))+1))/\(wI ((wI (Int.tdiv (wI (a+(wI (64*g)))) 64))+1))<(i.set (wI (Int.tdiv (wI (a+(wI (64*g)))) 64)).toNat (fC .u64 (i.getD (wI (Int.tdiv (wI (a+(wI (64*g)))) 64)).toNat ATz.zero) (NS .u64 (c.getD g.toNat ATz.zero) (Int.tmod (wI (a+(wI (64*g)))) 64)))).length then
 if(wI (64-(Int.tmod (wI (a+(wI (64*g)))) 64)))<(0:Int)then none else
 if 0<=(wI ((wI (Int.tdiv (wI (a+(wI (64*g)))) 64))+1))/\(wI ((wI (Int.tdiv (wI (a+(wI (64*g)))) 64))+1))<(i.set (wI (Int.tdiv (wI (a+(wI (64*g)))) 64)).toNat (fC .u64 (i.getD (wI (Int.tdiv (wI (a+(wI (64*g)))) 64)).toNat ATz.zero) (NS .u64 (c.getD g.toNat ATz.zero) (Int.tmod (wI (a+(wI (64*g)))) 64)))).length then
 some ((i.set (wI (Int.tdiv (wI (a+(wI (64*g)))) 64)).toNat (fC .u64 (i.getD (wI (Int.tdiv (wI (a+(wI (64*g)))) 64)).toNat ATz.zero) (NS .u64 (c.getD g.toNat ATz.zero) (Int.tmod (wI (a+(wI (64*g)))) 64)))).set (wI ((wI (Int.tdiv (wI (a+(wI (64*g)))) 64))+1)).toNat (fC .u64 ((i.set (wI (Int.tdiv (wI (a+(wI (64*g)))) 64)).toNat (fC .u64 (i.getD (wI (Int.tdiv (wI (a+(wI (64*g)))) 64)).toNat ATz.zero) (NS .u64 (c.getD g.toNat ATz.zero) (Int.tmod (wI (a+(wI (64*g)))) 64)))).getD (wI ((wI (Int.tdiv (wI (a+(wI (64*g)))) 64))+1)).toNat ATz.zero) (SF .u64 (c.getD g.toNat ATz.zero) (wI (64-(Int.tmod (wI (a+(wI (64*g)))) 64))))))
 else none
 else none
 else
 some (i.set (wI (Int.tdiv (wI (a+(wI (64*g)))) 64)).toNat (fC .u64 (i.getD (wI (Int.tdiv (wI (a+(wI (64*g)))) 64)).toNat ATz.zero) (NS .u64 (c.getD g.toNat ATz.zero) (Int.tmod (wI (a+(wI (64*g)))) 64)))))
 else none
 else none
 else none
theorem AD0 a c d g i b:AX E87 1 8 (cd f206 28) 14 (ABq a c d g i b) (JC a c d g i b) (Azj a c d g i b):=by
 unfold AX;simp(disch:=refine id ?_;kernel_rfl) only[JC,ASm,Ey (ADZ ..) (K:=Ui E87 1 8)];kernel_rfl
def Kk(a b:Int)(c:ASC)(d g:Int)(i:ASC):ATP (ASZ⊕ASC):=
 bif decide (g<d)then
 (JC a c d g i b).bind λj=>some (.inl (wI (g+1),j))
 else
 some (.inr i)
def Hn a b c d (z_:Int×ASC):=Kk a b c d z_.1 z_.2
def Xh a b c d g i:=fix (Hn a b c d) (g,i)
theorem AD1 a b c d:A8 E87 1 2 (code f206) 14 (ABr a b c d) (Hn a b c d) (Azk a b c d):=by
 intro _;simp(disch:=refine id ?_;kernel_rfl) only[Hn,Kk,ASm,Bf (AD0 ..) (K:=Ka E87 1 2)];kernel_rfl
def OZ(b a:Int)(k:ASv)(l:ASC):ATP ASC:=
 (Xh a b k.2.1 (k.2.1.length:Int) 0 l).bind λe=>some e
def AFy:=Ck [.VE,.d ATy,.d Ai] [⟨[.pr (.AB [] ATy) (.pr (.k H7) (.k .u)),.AB [] ATy,.AB [] Ai],[.row 199 .Aw ATz],ASC,λp=>OZ p.1.1.1 p.1.2.1 p.1.2.2.1 p.2.1,λr=>(.nil,[Bj r])⟩]
theorem Ag5:An prog 206 AFy:=Av (fn:=f206) ⟨⟨E87,pk trivial,λ_ R K=>by
 simp(disch:=refine id ?_;kernel_rfl) only[OZ,ASn,Xh,AJ (AD1 _ _ _ _) (K:=A2 E87 f206 1 R K)];kernel_rfl⟩,trivial⟩
abbrev E88:=eN [(125,Age),(206,AFy)] {}
def Hm(a b:ASv):ATP ASZ:=
 (DZ (wI (a.1+b.1))).bind λc=>(OZ c.1 0 b c.2).bind λd=>(OZ c.1 b.1 a d).bind λe=>some (c.1,e)
def AFw:=Ck [.d Ai,.d Ai] [⟨[.AB [] Ai,.AB [] Ai],[],ASZ,λp=>Hm p.1.1 p.1.2.1,λr=>(.pr (dI r.1) Pj,[Bj r.2])⟩]
theorem Ag3:An prog 193 AFw:=Av (fn:=f193) ⟨⟨E88,pk ⟨cG,Ag5,trivial⟩,λ_ R K=>by
 simp only[Hm,ASn];kernel_rfl⟩,trivial⟩
abbrev E89:=eN [(192,AFv),(193,AFw)] {Aw:=false,Ba:=[(2,{Be:=[0,8,9,10],mv:=[0]})],BN:=[(2,[0])],BM:=[(6,[0,6,7,8,9,10,27]),(9,[0,6,7,8,9,10]),(10,{Be:=[0,8,9,10],mv:=[0]})],Du:=[(6,[0,6,7,8,9,10]),(9,[0,6,7,8,9,10]),(10,[0,8,9,10])]}
def ABv a b (z_:Int×ASI):=sT 59 (Aj7 a b z_.1) [.Bg,Ci z_.2]
def Azo(a:ASI)(b:Int):=λ(c:ASI)=>xE 0 59 [(0,.AK 1)] [.Bg,Ci c]
def ABu a b d e:=sT 59 (Aj7 a b d) [.Bg,Ci e]
def Azn a b d (e:ASI):=λ(g:ASI)=>xN 59 (Aj7 a b d) [.Bg,Ci g]
def ABt a b d e i j:=sT 59 (Aj8 i a b d) [.Bg,Ci e,.box (K6 j)]
def Azm a b d (e:ASI) i j:=λ(k:ASI)=>xN 59 (Aj8 i a b d) [.Bg,Ci k,.box (K6 j)]
def O2(a:ASI)(b d:Int)(e:ASI)(i:Int)(j:ASs):ATP ASI:=
 bif j.1==(-1)then
 if 0<=i/\i<e.length then
 (Hm j.2.2.2.1 (e.getD i.toNat Af.zero).2.2.2.1).bind λl=>if 0<=i/\i<e.length then
 some (e.set i.toNat ((e.getD i.toNat Af.zero).1,(e.getD i.toNat Af.zero).2.1,(e.getD i.toNat Af.zero).2.2.1,(l.1,l.2,()),(e.getD i.toNat Af.zero).2.2.2.2))
 else none
 else none
 else
 some e
theorem AD3 a b d e i j:AX E89 1 9 (sb (cd f178 52) 14) 46 (ABt a b d e i j) (O2 a b d e i j) (Azm a b d e i j):=by
 unfold AX;simp only[O2,ASm];kernel_rfl
def ABs a b d e n o:=sT 59 (Aj8 n a b d) [.Bg,Ci e,.box (K6 o)]
def Azl a b d e n o:=λ(q:Bool)=>xN 59 [(0,.AK 1),(6,Dr),(7,dI n),(8,B3 a),(9,dI b),(10,dI d),(27,dB q)] [.Bg,Ci e,.box (K6 o)]
def S8(a:ASI)(b d:Int)(e:ASI)(n:Int)(o:ASs):ATP Bool:=
 bif decide (n<0)then
 some true
 else
 if 0<=n/\n<e.length then
 some (!(D3 (e.getD n.toNat Af.zero) o))
 else none
theorem AD2 a b d e n o:AX E89 1 6 (sb (cd f178 52) 14) 44 (ABs a b d e n o) (S8 a b d e n o) (Azl a b d e n o):=by
 unfold AX;simp only[S8,ASm];kernel_rfl
def O3(a:ASI)(b d:Int)(e:ASI):ATP ASI:=
 if 0<=d/\d<a.length then
 (S8 a b d e (wI ((e.length:Int)-1)) (a.getD d.toNat Af.zero)).bind λq=>bif q then
 if(e.length+([a.getD d.toNat Af.zero]:ASI).length)*56<=140737488355328 then
 some (e++([a.getD d.toNat Af.zero]:ASI))
 else none
 else
 (O2 a b d e (wI ((e.length:Int)-1)) (a.getD d.toNat Af.zero)).bind λk=>if 0<=(wI ((e.length:Int)-1))/\(wI ((e.length:Int)-1))<k.length then
 if 0<=(wI ((e.length:Int)-1))/\(wI ((e.length:Int)-1))<k.length then
 some (k.set (wI ((e.length:Int)-1)).toNat ((k.getD (wI ((e.length:Int)-1)).toNat Af.zero).1,(k.getD (wI ((e.length:Int)-1)).toNat Af.zero).2.1,wI ((k.getD (wI ((e.length:Int)-1)).toNat Af.zero).2.2.1+(a.getD d.toNat Af.zero).2.2.1),(k.getD (wI ((e.length:Int)-1)).toNat Af.zero).2.2.2))
 else none
 else none
 else none
theorem AD4 a b d e:AX E89 1 10 (cd f178 52) 14 (ABu a b d e) (O3 a b d e) (Azn a b d e):=by
 unfold AX;simp(disch:=refine id ?_;kernel_rfl) only[O3,ASm,Bf (AD2 ..) (K:=Ui E89 1 10),Bf (AD3 ..) (K:=Ui E89 1 10)];kernel_rfl
def Pn(a:ASI)(b d:Int)(e:ASI):ATP (ATb⊕ASI):=
 bif decide (d<b)then
 (O3 a b d e).bind λg=>some (.inl (wI (d+1),g))
 else
 some (.inr e)
def Gj a b (z_:Int×ASI):=Pn a b z_.1 z_.2
def WE a b d e:=fix (Gj a b) (d,e)
theorem AD5 a b:A8 E89 1 2 (code f178) 26 (ABv a b) (Gj a b) (Azo a b):=by
 intro _;simp(disch:=refine id ?_;kernel_rfl) only[Gj,Pn,ASm,Bf (AD4 ..) (K:=Ka E89 1 2)];kernel_rfl
def EM(a s:ASI):ATP ASI:=
 (WE a (a.length:Int) 0 s).bind λc=>some c
def Avq:=Ck [.VE,.d ATB] [⟨[.k H7,.AB [] ATB],[.row 218 (.sh []) Af],ASI,λp=>EM p.1.2.1 p.2.1,λr=>(.AK 1,[.Bg,Ci r])⟩]
theorem uM:An prog 178 Avq:=Av (fn:=f178) ⟨⟨E89,pk ⟨Ag2,Ag3,trivial⟩,λ_ R K=>by
 simp(disch:=refine id ?_;kernel_rfl) only[EM,ASn,WE,AJ (AD5 _ _) (K:=A2 E89 f178 1 R K)];kernel_rfl⟩,trivial⟩
abbrev E90:=eN [] {Ba:=[(3,[3,6,7,8])],BN:=[(3,[3])]}
def ABw a b (z_:Int×Int):=sT 18 [(3,dI z_.1),(6,B3 a),(7,dI b),(8,dI z_.2)] []
def Azp(a:ASI)(b:Int):=λ(c:Int)=>xE 0 18 [(3,dI c)] []
def Jm(a:ASI)(b d e:Int):ATP (AS1⊕Int):=
 bif decide (e<b)then
 if 0<=e/\e<a.length then
 some (.inl (wI (d+(a.getD e.toNat Af.zero).2.2.1),wI (e+1)))
 else none
 else
 some (.inr d)
def De a b (z_:Int×Int):=Jm a b z_.1 z_.2
def QX a b d e:=fix (De a b) (d,e)
theorem AD6 a b:A8 E90 0 3 (code f124) 58 (ABw a b) (De a b) (Azp a b):=by
 intro _;simp only[De,Jm,ASm];kernel_rfl
def Fu(a:ASI):ATP Int:=
 (QX a (a.length:Int) 0 0).bind λc=>some c
def Ak6:=Ck [.d ATB] [⟨[.AB [] ATB],[],Int,λp=>Fu p.1.1,λr=>(dI r,[])⟩]
theorem jG:An prog 124 Ak6:=Av (fn:=f124) ⟨⟨E90,pk trivial,λ_ R K=>by
 simp(disch:=refine id ?_;kernel_rfl) only[Fu,ASn,QX,AJ (AD6 _ _) (K:=A2 E90 f124 0 R K)];kernel_rfl⟩,trivial⟩
abbrev E91:=eN [(125,Age)] {Ba:=[(3,[1,2,3,6,7,15,16])],BN:=[(3,[2,6,7])],BM:=[(8,[1,2,3,6,7,8,9,15,16,47]),(9,[1,2,3,6,7,15,16]),(13,[6,7])],Du:=[(8,[1,2,3,6,7,8,9,15,16]),(9,[1,2,3,6,7,15,16]),(13,[2,6,7])]}
def ABz a b c:=sT 85 [(2,dI a),(6,Aq),(7,AZ)] (Akq c b)
def Azs(a:Int)(b:ASC) c:=λ(d:ASC)=>xN 85 [(6,Aq),(7,AZ)] (Akq c d)
def NA(a:Int)(b:ASC)(c:Int):ATP ASC:=
 bif (Int.tmod a 64) !=0 then
 if 0<=(wI ((b.length:Int)-1))/\(wI ((b.length:Int)-1))<b.length then
 if(Int.tmod a 64)<(0:Int)then none else
 if 0<=(wI ((b.length:Int)-1))/\(wI ((b.length:Int)-1))<b.length then
 some (b.set (wI ((b.length:Int)-1)).toNat (cA .u64 (b.getD (wI ((b.length:Int)-1)).toNat ATz.zero) (IntKind.u64.wrap ((NS .u64 1 (Int.tmod a 64))-1))))
 else none
 else none
 else
 some b
theorem AEa a b c:AX E91 0 13 (code f186) 30 (ABz a b c) (NA a b c) (Azs a b c):=by
 unfold AX;simp only[NA,ASm];kernel_rfl
def ABy e a g i j (z_:Int×ASC):=sT 85 (Aj9 e a i z_.1) (Aka g j z_.2)
def Azr(e:Int) a (g:ASv) (i:Int) j:=λ(b:ASC)=>xE 0 85 [(2,dI a),(6,Aq),(7,AZ)] (Akq j b)
def ABx e a i k g j l:=sT 85 (Aj9 e a i k) (Aka g j l)
def Azq e a i k g j (l:ASC):=λ(n:ASC)=>xN 85 (Aj9 e a i k) (Aka g j n)
def AnN e a k i g j (l:ASC):=sT 85 [(1,dI e),(2,dI a),(3,Aq),(6,AZ),(7,Dr),(8,dI k),(9,dI (wI (e+(wI (64*k))))),(15,dI i),(16,dI k)] [.box (Jy g),.box S3,.box (.pr (dI j) nZ),Bj (l.set k.toNat (SF .u64 (g.2.1.getD (wI (Int.tdiv (wI (e+(wI (64*k)))) 64)).toNat ATz.zero) (Int.tmod (wI (e+(wI (64*k)))) 64)))]
def Afd(e a k i:Int)(g:ASv)(j:Int)(l:ASC)(m0:Bool):Ex×St:=xN 85 [(1,dI e),(2,dI a),(3,Aq),(6,AZ),(7,Dr),(8,dI k),(9,dI (wI (e+(wI (64*k))))),(15,dI i),(16,dI k),(47,dB m0)] [.box (Jy g),.box S3,.box (.pr (dI j) nZ),Bj (l.set k.toNat (SF .u64 (g.2.1.getD (wI (Int.tdiv (wI (e+(wI (64*k)))) 64)).toNat ATz.zero) (Int.tmod (wI (e+(wI (64*k)))) 64)))]
theorem AD7 e a k i g j l:Xk E91 0 8 (sb (cd f186 116) 14) (pt 46) (AnN e a k i g j l)=some (Afd e a k i g j l (((Int.tmod (wI (e+(wI (64*k)))) 64) !=0)&&(decide ((wI ((wI (Int.tdiv (wI (e+(wI (64*k)))) 64))+1))<(g.2.1.length:Int))))):=by
 refine .trans (b:=
 bif (Int.tmod (wI (e+(wI (64*k)))) 64) !=0 then
 some (Afd e a k i g j l (decide ((wI ((wI (Int.tdiv (wI (e+(wI (64*k)))) 64))+1))<(g.2.1.length:Int))))
 else
 some (Afd e a k i g j l false)) (by kernel_rfl) ?_
 cases ((Int.tmod (wI (e+(wI (64*k)))) 64) !=0);rfl;rfl
def JB(e a i k:Int)(g:ASv)(j:Int)(l:ASC):ATP ASC:=
 if 0<=(wI (Int.tdiv (wI (e+(wI (64*k)))) 64))/\(wI (Int.tdiv (wI (e+(wI (64*k)))) 64))<g.2.1.length then
 if(Int.tmod (wI (e+(wI (64*k)))) 64)<(0:Int)then none else
 if 0<=k/\k<l.length then
 OQ (AnN e a k i g j l) (
 bif ((Int.tmod (wI (e+(wI (64*k)))) 64) !=0)&&(decide ((wI ((wI (Int.tdiv (wI (e+(wI (64*k)))) 64))+1))<(g.2.1.length:Int)))then
 if 0<=k/\k<(l.set k.toNat (SF .u64 (g.2.1.getD (wI (Int.tdiv (wI (e+(wI (64*k)))) 64)).toNat ATz.zero) (Int.tmod (wI (e+(wI (64*k)))) 64))).length then
 if 0<=(wI ((wI (Int.tdiv (wI (e+(wI (64*k)))) 64))+1))/\(wI ((wI (Int.tdiv (wI (e+(wI (64*k)))) 64))+1))<g.2.1.length then
 if(wI (64-(Int.tmod (wI (e+(wI (64*k)))) 64)))<(0:Int)then none else
 if 0<=k/\k<(l.set k.toNat (SF .u64 (g.2.1.getD (wI (Int.tdiv (wI (e+(wI (64*k)))) 64)).toNat ATz.zero) (Int.tmod (wI (e+(wI (64*k)))) 64))).length then
 some ((l.set k.toNat (SF .u64 (g.2.1.getD (wI (Int.tdiv (wI (e+(wI (64*k)))) 64)).toNat ATz.zero) (Int.tmod (wI (e+(wI (64*k)))) 64))).set k.toNat (fC .u64 ((l.set k.toNat (SF .u64 (g.2.1.getD (wI (Int.tdiv (wI (e+(wI (64*k)))) 64)).toNat ATz.zero) (Int.tmod (wI (e+(wI (64*k)))) 64))).getD k.toNat ATz.zero) (NS .u64 (g.2.1.getD (wI ((wI (Int.tdiv (wI (e+(wI (64*k)))) 64))+1)).toNat ATz.zero) (wI (64-(Int.tmod (wI (e+(wI (64*k)))) 64))))))
 else none
 else none
 else none
 else
 some (l.set k.toNat (SF .u64 (g.2.1.getD (wI (Int.tdiv (wI (e+(wI (64*k)))) 64)).toNat ATz.zero) (Int.tmod (wI (e+(wI (64*k)))) 64))))
 else none
 else none
theorem AD8 e a i k g j l:AX E91 0 9 (cd f186 116) 14 (ABx e a i k g j l) (JB e a i k g j l) (Azq e a i k g j l):=by
 unfold AX;simp(disch:=refine id ?_;kernel_rfl) only[JB,ASm,Ey (AD7 ..) (K:=Ui E91 0 9)];kernel_rfl
def Kj(e a:Int)(g:ASv)(i j k:Int)(l:ASC):ATP (ASZ⊕ASC):=
 bif decide (k<i)then
 (JB e a i k g j l).bind λn=>some (.inl (wI (k+1),n))
 else
 some (.inr l)
def Hl e a g i j (z_:Int×ASC):=Kj e a g i j z_.1 z_.2
def Nz e a g i j k l:=fix (Hl e a g i j) (k,l)
theorem AD9 e a g i j:A8 E91 0 3 (code f186) 58 (ABy e a g i j) (Hl e a g i j) (Azr e a g i j):=by
 intro _;simp(disch:=refine id ?_;kernel_rfl) only[Hl,Kj,ASm,Bf (AD8 ..) (K:=Ka E91 0 3)];kernel_rfl
def EZ(g:ASv)(e a:Int):ATP ASZ:=
 (DZ a).bind λo=>(Nz e a g (o.2.length:Int) o.1 0 o.2).bind λb=>(NA a b o.1).bind λd=>some (o.1,d)
def Avr:=Ck [.d Ai,.d ATy,.d ATy] [⟨[.AB [] Ai,.AB [] ATy,.AB [] ATy],[],ASZ,λp=>EZ p.1.1 p.1.2.1 p.1.2.2.1,λr=>(.pr (dI r.1) Pj,[Bj r.2])⟩]
theorem uN:An prog 186 Avr:=Av (fn:=f186) ⟨⟨E91,pk ⟨cG,trivial⟩,λ_ R K=>by
 simp(disch:=refine id ?_;kernel_rfl) only[EZ,ASn,Nz,AJ (AD9 _ _ _ _ _) (K:=A2 E91 f186 0 R K),Bf (AEa ..) (K:=A2 E91 f186 0 R K)];kernel_rfl⟩,trivial⟩
abbrev E92:=eN [(177,Avp),(186,Avr)] {iq:=[(0,.row [3,1] 199 ATz true)]}
def O0(a:ASs)(b c:Int):ATP ATd:=
 bif a.1==(-1)then
 (EZ a.2.2.2.1 b c).bind λd=>some ((AQ d.1 d.2).1,(AQ d.1 d.2).2.1,(AQ d.1 d.2).2.2.1,(AQ d.1 d.2).2.2.2.1,(AQ d.1 d.2).2.2.2.2)
 else
 some (a.1,wI (a.2.1+b),c,0,([]:ASC))
def AFx:=Ck [.d Af,.d ATy,.d ATy] [⟨[.AB [] Af,.AB [] ATy,.AB [] ATy],[],ATd,λp=>O0 p.1.1 p.1.2.1 p.1.2.2.1,λr=>(.pr (dI r.1) (.pr (dI r.2.1) (.pr (dI r.2.2.1) (.pr (.pr (dI r.2.2.2.1) Pj) .u))),[Bj r.2.2.2.2])⟩]
theorem Ag4:An prog 194 AFx:=Av (fn:=f194) ⟨⟨E92,pk ⟨uL,uN,trivial⟩,λ_ R K=>by
 simp only[O0,ASn];kernel_rfl⟩,trivial⟩
abbrev E93:=eN [(178,Avq),(194,AFx)] {Ba:=[(4,{Be:=[1,2,7,8,14,15,16],Cj:=[(7,false,.row [] 218 Af false)]})],BN:=[(4,[7])],BM:=[(9,{Be:=[1,2,7,8,10,14,15,16],Cj:=[(7,false,.row [] 218 Af false)]})],Du:=[(9,[1,2,7,8,10,11,12,14,15,16])],kv:=[(43,ATB)]}
def ABB a b c d (z_:Int×Int×ASI):=sT 51 [(1,dI a),(2,dI b),(7,.AK 0),(8,dI z_.1),(14,B3 c),(15,dI d),(16,dI z_.2.1)] [Ci z_.2.2]
def Azu(a b:Int)(c:ASI)(d:Int):=λ(e:ASI)=>xE 0 51 nY [Ci e]
def ABA a b g c d i j k l n:=sT 51 [(1,dI a),(2,dI b),(7,.AK 0),(8,dI g),(10,AZ),(11,dI k),(12,dI l),(14,B3 c),(15,dI d),(16,dI i)] [Ci j,.box (K6 n)]
def Azt a b g c d i (j:ASI) (k:Int) (l:Int) n:=λ(o:ASI)=>xN 51 [(1,dI a),(2,dI b),(7,.AK 0),(8,dI g),(10,AZ),(14,B3 c),(15,dI d),(16,dI i)] [Ci o,.box (K6 n)]
def NF(a b g:Int)(c:ASI)(d i:Int)(j:ASI)(k l:Int)(n:ASs):ATP ASI:=
 bif decide (k<l)then
 (O0 n (wI (k-g)) (wI (l-k))).bind λq=>(EM ([(q.1,q.2.1,q.2.2.1,(q.2.2.2.1,q.2.2.2.2,()),())]:ASI) j).bind λs=>some s
 else
 some j
theorem AEb a b g c d i j k l n:AX E93 0 9 (cd f179 244) 230 (ABA a b g c d i j k l n) (NF a b g c d i j k l n) (Azt a b g c d i j k l n):=by
 unfold AX;simp only[NF,ASm];kernel_rfl
def Kp(a b:Int)(c:ASI)(d g i:Int)(j:ASI):ATP ((Int×Int×ASI)⊕ASI):=
 bif decide (i<d)then
 if 0<=i/\i<c.length then
 (NF a b g c d i j (if g>a then g else a) (if(wI (g+(c.getD i.toNat Af.zero).2.2.1))<(wI (a+b))then(wI (g+(c.getD i.toNat Af.zero).2.2.1))else(wI (a+b))) (c.getD i.toNat Af.zero)).bind λo=>some (.inl (wI (g+(c.getD i.toNat Af.zero).2.2.1),wI (i+1),o))
 else none
 else
 some (.inr j)
def EI a b c d (z_:Int×Int×ASI):=Kp a b c d z_.1 z_.2.1 z_.2.2
def Sr a b c d g i j:=fix (EI a b c d) (g,i,j)
theorem AEc a b c d:A8 E93 0 4 (code f179) 122 (ABB a b c d) (EI a b c d) (Azu a b c d):=by
 intro _;simp(disch:=refine id ?_;kernel_rfl) only[EI,Kp,ASm,Bf (AEb ..) (K:=Ka E93 0 4)];kernel_rfl
def Fa(c:ASI)(a b:Int):ATP ASI:=
 (Sr a b c (c.length:Int) 0 0 ([]:ASI)).bind λe=>some e
def AFl:=Ck [.d ATB,.d ATy,.d ATy] [⟨[.AB [] ATB,.AB [] ATy,.AB [] ATy],[],ASI,λp=>Fa p.1.1 p.1.2.1 p.1.2.2.1,λr=>(.AK 0,[Ci r])⟩]
theorem AgS:An prog 179 AFl:=Av (fn:=f179) ⟨⟨E93,pk ⟨uM,Ag4,trivial⟩,λ_ R K=>by
 simp(disch:=refine id ?_;kernel_rfl) only[Fa,ASn,Sr,AJ (AEc _ _ _ _) (K:=A2 E93 f179 0 R K)];kernel_rfl⟩,trivial⟩
noncomputable def AFm:Va.Callee:=aW 218 Af 56
noncomputable abbrev AFE:GX:={Ee:=Ee,fns:=O8 [],fi:={}}
theorem Al4:Jz Tryz.prog AFE:=(pk (l:=[]) trivial)
theorem AgT:An Tryz.prog 180 AFm:=
 eK (fn:=Tryz.f180) Al4 (by kernel_rfl) (by kernel_rfl) rfl rfl rfl ⟨rfl,rfl,rfl⟩ ⟨rfl,rfl,rfl⟩ (ti:=⟨.sl Af,[],218,24,0,0,false⟩) (by kernel_rfl) rfl (by kernel_rfl) (λxs=>by kernel_rfl) (λxs=>by kernel_rfl)
  λxs h=>by
   have h0:ev AFE 0 (sub (code Tryz.f180) [1,1]) (Ex×St) ⟨[.AB [] ATB xs,.un 0,.zs,.AB [] ATB xs,.bool false,.un 0,.un 0,.un 0],[]⟩ Se=if xs.length*56<=140737488355328 then some (.ret,⟨[.AB [] ATB xs,.un 0,.AK 0,.AB [] ATB xs,.bool false,.zs,.AB [] ATB xs,.AK 0],[Ci xs]⟩)else none:=by kernel_rfl
   exact h0.trans (AQr h)
abbrev yz:=eN [(124,Ak6),(125,Age),(146,Ak8),(177,Avp),(178,Avq),(179,AFl),(180,AFm)] {Aw:=false,Ba:=[(9,{Be:=[2,7,8],Cj:=[(7,false,.row [] 218 Af false)]}),(27,{Be:=[9,12,125,126],Cj:=[(12,false,.row [] 218 Af false)]}),(36,{Be:=[13,14,151,152],RU:=[(14,true,Af)]})],BN:=[(9,[7]),(27,[12]),(36,[13])],BM:=[(20,[0,9,10,69,88]),(23,[9,10,11]),(35,[0,13,14])],Du:=[(20,[0,9,10,69]),(23,[0,9,10,11]),(35,[0,9,10,13,14])],kv:=[(117,ATB),(156,ATB)]}
def ABH a b (z_:Int×ASI):=sT 160 [(13,.AK 0),(14,AZ),(151,dI a),(152,dI z_.1)] [Ci z_.2,.box (K6 b)]
def AzA(a:Int)(b:ASs):=λ(c:ASI)=>xE 6 160 [(13,.AK 0)] [Ci c]
def Qw(a:Int)(b:ASs)(d:Int)(e:ASI):ATP (ATb⊕ASI):=
 bif decide (d<a)then
 (EM ([b]:ASI) e).bind λg=>some (.inl (wI (d+1),g))
 else
 some (.inr e)
def FJ a b (z_:Int×ASI):=Qw a b z_.1 z_.2
def LH a b d e:=fix (FJ a b) (d,e)
theorem AEj a b:A8 yz 0 36 (code f154) 4090 (ABH a b) (FJ a b) (AzA a b):=by
 intro _;simp only[FJ,Qw,ASm];kernel_rfl
def ABG i j (z_:Int×ASI):=sT 160 [(13,.AK 0),(14,AZ),(151,dI j),(152,dI z_.1)] [Ci z_.2,.box (K6 i)]
def Azz(i:ASs)(j:Int):=λ(k:ASI)=>xE 6 160 [(13,.AK 0)] [Ci k]
def Qv(i:ASs)(j l:Int)(n:ASI):ATP (ATb⊕ASI):=
 bif decide (l<j)then
 (EM ([i]:ASI) n).bind λo=>some (.inl (wI (l+1),o))
 else
 some (.inr n)
def FH i j (z_:Int×ASI):=Qv i j z_.1 z_.2
def LG i j l n:=fix (FH i j) (l,n)
theorem AEi i j:A8 yz 0 36 (code f154) 4090 (ABG i j) (FH i j) (Azz i j):=by
 intro _;simp only[FH,Qv,ASm];kernel_rfl
def ABF q s t u v w x y a1:=sT 160 [(0,.FQ [] Ag q),(9,B3 t),(10,dI s),(13,.AK 0),(14,AZ)] [Ci u,.box (.pr (dI v) (.pr (dI w) (.pr (dI x) (.pr (.pr (dI y) YA) .u)))),Bj a1]
def Azy q (s:Int) (t:ASI) u v w x y a1:=Sum.elim (λ(i:ASs)=>xN 160 [(0,.FQ [] Ag q),(13,.AK 0),(14,AZ)] [Ci u,.box (K6 i)]) (λ(b1:Unit)=>xN 160 [(0,.FQ [] Ag q),(13,.AK 0),(14,AZ)] [Ci u,.box (.pr (dI v) (.pr (dI w) (.pr (dI x) (.pr (.pr (dI y) YA) .u)))),Bj a1])
def Cy(q:ASt)(s:Int)(t u:ASI)(v w x y:Int)(a1:ASC):ATP (ASs⊕Unit):=
 bif q.1==6 then
 (Fa t (wI (s-1)) 1).bind λc1=>if(0:Int)<=(0:Int)/\(0:Int)<(c1.length:Int)then
 some (.inl (c1.getD 0 Af.zero))
 else none
 else
 some (.inr ())
theorem AEh q s t u v w x y a1:AX yz 0 35 (code f154) 510 (ABF q s t u v w x y a1) (Cy q s t u v w x y a1) (Azy q s t u v w x y a1):=by
 unfold AX;simp only[Cy,ASm];kernel_rfl
def ABE d1 e1 (z_:Int×ASI):=sT 160 [(9,B3 d1),(12,.AK 0),(125,dI e1),(126,dI z_.1)] [Ci z_.2]
def Azx(d1:ASI)(e1:Int):=λ(g1:ASI)=>xE 4 160 [(12,.AK 0)] [Ci g1]
def FG(d1:ASI)(e1 i1:Int)(j1:ASI):ATP (ATb⊕ASI):=
 bif decide (i1<e1)then
 (EM d1 j1).bind λk1=>some (.inl (wI (i1+1),k1))
 else
 some (.inr j1)
def CH d1 e1 (z_:Int×ASI):=FG d1 e1 z_.1 z_.2
def HI d1 e1 i1 j1:=fix (CH d1 e1) (i1,j1)
theorem AEg d1 e1:A8 yz 0 27 (code f154) 257002 (ABE d1 e1) (CH d1 e1) (Azx d1 e1):=by
 intro _;simp only[CH,FG,ASm];kernel_rfl
def ABD q s l1 n1:=sT 160 [(0,.FQ [] Ag q),(9,B3 l1),(10,dI s),(11,dI n1)] []
def Azw(q:ASt) s l1 (n1:Int):=λ(o1:Int)=>xN 160 [(9,B3 l1),(10,dI s),(11,dI o1)] []
def EE(q:ASt)(s:Int)(l1:ASI)(n1:Int):ATP Int:=
 bif q.1==8 then
 if s=(0:Int)then none else
 some (Int.tmod (wI (s-n1)) s)
 else
 some n1
theorem AEf q s l1 n1:AX yz 0 23 (code f154) 16058 (ABD q s l1 n1) (EE q s l1 n1) (Azw q s l1 n1):=by
 unfold AX;simp only[EE,ASm];kernel_rfl
def AnO q (q1:AST) s:=sT 160 [(0,.FQ [] Ag q),(9,B3 (q1.getD 0 ATB.zero)),(10,dI s),(69,dI q.1)] []
def Afe(q:ASt)(q1:AST)(s:Int)(m0:Bool):Ex×St:=xN 160 [(0,.FQ [] Ag q),(9,B3 (q1.getD 0 ATB.zero)),(10,dI s),(69,dI q.1),(88,dB m0)] []
theorem AEe q q1 s:Xk yz 0 20 (code f154) (pt 2006) (AnO q q1 s)=some (Afe q q1 s (bif q.1==7 then(q.1==7)else(q.1==8))):=by
 refine .trans (b:=
 bif q.1==7 then
 some (Afe q q1 s (q.1==7))
 else
 some (Afe q q1 s (q.1==8))) (by kernel_rfl) ?_
 cases (q.1==7);rfl;rfl
def ABC q1 (z_:Int×ASI):=sT 160 [(2,Oq q1),(7,.AK 0),(8,dI z_.1)] [Ci z_.2]
def Azv(q1:AST):=λ(s1:ASI)=>xE 1 160 nY [Ci s1]
def FF(q1:AST)(t1:Int)(u1:ASI):ATP (ATb⊕ASI):=
 bif decide (t1>=0)then
 if 0<=t1/\t1<q1.length then
 (EM (q1.getD t1.toNat ATB.zero) u1).bind λv1=>some (.inl (wI (t1-1),v1))
 else none
 else
 some (.inr u1)
def CG q1 (z_:Int×ASI):=FF q1 z_.1 z_.2
def LF q1 t1 u1:=fix (CG q1) (t1,u1)
theorem AEd q1:A8 yz 0 9 (code f154) 27626 (ABC q1) (CG q1) (Azv q1):=by
 intro _;simp only[CG,FF,ASm];kernel_rfl
def Ho(q:ASt)(w1:ASG)(q1:AST):ATP ASI:=
 bif q.1==1 then
 if(0:Int)<=q.2.1/\q.2.1<(w1.length:Int)then
 some ([(q.2.1,0,(w1.getD q.2.1.toNat Ab.zero).2.1,(0,([]:ASC),()),())]:ASI)
 else none
 else
 bif q.1==2 then
 (Dp q.2.2.2.2.1).bind λx1=>some ([((AQ x1.1 x1.2).1,(AQ x1.1 x1.2).2.1,(AQ x1.1 x1.2).2.2.1,((AQ x1.1 x1.2).2.2.2.1,(AQ x1.1 x1.2).2.2.2.2,()),())]:ASI)
 else
 bif q.1==3 then
 (LF q1 (wI ((q1.length:Int)-1)) ([]:ASI)).bind λs1=>some s1
 else
 if(0:Int)<=(0:Int)/\(0:Int)<(q1.length:Int)then
 (Fu (q1.getD 0 ATB.zero)).bind λs=>bif q.1==4 then
 (Fa (q1.getD 0 ATB.zero) q.2.2.2.1 (wI ((wI (q.2.2.1-q.2.2.2.1))+1))).bind λy1=>some y1
 else
 OQ (AnO q q1 s) (
 bif bif (q.1==7)then(q.1==7)else(q.1==8)then
 if s=(0:Int)then none else
 (EE q s (q1.getD 0 ATB.zero) (Int.tmod q.2.2.1 s)).bind λo1=>(Fa (q1.getD 0 ATB.zero) (wI (s-o1)) o1).bind λa2=>(Fa (q1.getD 0 ATB.zero) 0 (wI (s-o1))).bind λb2=>(EM b2 a2).bind λc2=>some c2
 else
 bif q.1==9 then
 (HI (q1.getD 0 ATB.zero) q.2.2.1 0 ([]:ASI)).bind λg1=>some g1
 else
 if(q1.getD 0 ATB.zero).length*56<=140737488355328 then
 (DZ 1).bind λd2=>(Cy q s (q1.getD 0 ATB.zero) (q1.getD 0 ATB.zero) (AQ d2.1 d2.2).1 (AQ d2.1 d2.2).2.1 (AQ d2.1 d2.2).2.2.1 (AQ d2.1 d2.2).2.2.2.1 (AQ d2.1 d2.2).2.2.2.2).bind (Sum.elim (λi=>(LG i q.2.2.1 0 (q1.getD 0 ATB.zero)).bind λk=>some k) (λb1=>(LH q.2.2.1 ((AQ d2.1 d2.2).1,(AQ d2.1 d2.2).2.1,(AQ d2.1 d2.2).2.2.1,((AQ d2.1 d2.2).2.2.2.1,(AQ d2.1 d2.2).2.2.2.2,()),()) 0 (q1.getD 0 ATB.zero)).bind λc=>some c))
 else none)
 else none
def AE2:=Ck [.p Ag,.d ATE,.d ATM] [⟨[.FQ [] Ag,.AB [] ATE,.AB [] ATM],[],ASI,λp=>Ho p.1.1 p.1.2.1 p.1.2.2.1,λr=>(.AK 0,[Ci r])⟩]
theorem Agz:An prog 154 AE2:=Av (fn:=f154) ⟨⟨yz,pk ⟨jG,cG,jI,uL,uM,AgS,AgT,trivial⟩,λ_ R K=>by
 simp(disch:=refine id ?_;kernel_rfl) only[Ho,ASn,LF,AJ (AEd _) (K:=A2 yz f154 0 R K),Ey (AEe ..) (K:=A2 yz f154 0 R K),Bf (AEf ..) (K:=A2 yz f154 0 R K),HI,AJ (AEg _ _) (K:=A2 yz f154 0 R K),Bf (AEh ..) (K:=A2 yz f154 0 R K),LG,AJ (AEi _ _) (K:=A2 yz f154 0 R K),LH,AJ (AEj _ _) (K:=A2 yz f154 0 R K)];kernel_rfl⟩,trivial⟩
abbrev E95:=eN [(146,Ak8)] {Ba:=[(3,[3,9,10,11])],BN:=[(3,[3])]}
def ABI a b (z_:Int×ASI):=sT 26 [(3,.AK 0),(9,B3 a),(10,dI b),(11,dI z_.1)] [Ca z_.2]
def AzB(a:ASI)(b:Int):=λ(c:ASI)=>xE 0 26 mr [Ca c]
def Ji(a:ASI)(b d:Int)(e:ASI):ATP (ATb⊕ASI):=
 bif decide (d<b)then
 if 0<=d/\d<a.length then
 (Dp (a.getD d.toNat Af.zero).2.2.2.1).bind λg=>if 0<=d/\d<e.length then
 some (.inl (wI (d+1),e.set d.toNat ((a.getD d.toNat Af.zero).1,(a.getD d.toNat Af.zero).2.1,(a.getD d.toNat Af.zero).2.2.1,(g.1,g.2,()),(a.getD d.toNat Af.zero).2.2.2.2)))
 else none
 else none
 else
 some (.inr e)
def Dd a b (z_:Int×ASI):=Ji a b z_.1 z_.2
def QW a b d e:=fix (Dd a b) (d,e)
theorem AEk a b:A8 E95 0 3 (code f155) 58 (ABI a b) (Dd a b) (AzB a b):=by
 intro _;simp only[Dd,Ji,ASm];kernel_rfl
def MX(a:ASI):ATP ASI:=
 if Ty.row Af=true/\(0:Int)<=(a.length:Int)/\(a.length:Int)<=(a.length:Int)/\((56:Nat):Int)*(a.length:Int)<=(281474976710656:Int)/\(a.length:Int)<=(9223372036854775807:Int)then
 (QW a (a.length:Int) 0 (List.replicate (a.length:Int).toNat (0,0,0,(0,([]:ASC),()),()))).bind λc=>some c
 else none
def AE3:=Ck [.d ATB] [⟨[.AB [] ATB],[],ASI,λp=>MX p.1.1,λr=>(.AK 0,[Ca r])⟩]
theorem AgA:An prog 155 AE3:=Av (fn:=f155) ⟨⟨E95,pk ⟨jI,trivial⟩,λ_ R K=>by
 simp(disch:=refine id ?_;kernel_rfl) only[MX,ASn,QW,AJ (AEk _ _) (K:=A2 E95 f155 0 R K)];kernel_rfl⟩,trivial⟩
abbrev E96:=eN [(154,AE2),(155,AE3)] {Aw:=false,Ba:=[(3,[0,3,6,18,19]),(8,[0,3,6,7,8,9,18,19,35,36,37])],BN:=[(3,{Be:=[4,5,6],RU:=[(6,false,ATM)]}),(8,{Be:=[0,3,6,7,8,9,18,19],RU:=[(9,false,ATM)]})],iq:=[(0,.row [] 218 Af true)]}
def ABK a b c (z_:Int×AST):=sT 71 [(0,Ar a),(3,Aq),(6,.AK 1),(18,dI c),(19,dI z_.1)] [.box (LR b),je z_.2]
def AzD(a:ASG)(b:ASz)(c:Int):=Sum.elim (λ(d:AST)=>xR 71 [(4,.zs),(5,dB false),(6,Oq d)] []) (λ(e:AST)=>xE 0 71 [(6,Oq e)] [])
def ABJ a g c b i j k l (z_:Int×AST):=sT 71 [(0,Ar a),(3,Aq),(6,.AK 1),(7,dI g),(8,.FQ [] Ag j),(9,.AK 2),(18,dI c),(19,dI g),(35,B8 k),(36,dI l),(37,dI z_.1)] [.box (LR b),je i,je z_.2]
def AzC a g c b i j (k:ASC) (l:Int):=λ(n:AST)=>xE 2 71 [(0,Ar a),(3,Aq),(6,.AK 1),(7,dI g),(8,.FQ [] Ag j),(9,Oq n),(18,dI c),(19,dI g)] [.box (LR b),je i]
def L4(a:ASG)(g c:Int)(b:ASz)(i:AST)(j:ASt)(k:ASC)(l o:Int)(q:AST):ATP ((Int×AST)⊕AST):=
 bif decide (o<l)then
 if 0<=o/\o<k.length then
 if(0:Int)<=(k.getD o.toNat ATy.zero)/\(k.getD o.toNat ATy.zero)<(i.length:Int)then
 if 0<=o/\o<q.length then
 some (.inl (wI (o+1),q.set o.toNat (i.getD (k.getD o.toNat ATy.zero).toNat ATB.zero)))
 else none
 else none
 else none
 else
 some (.inr q)
def FK a g c b i j k l (z_:Int×AST):=L4 a g c b i j k l z_.1 z_.2
def Ua a g c b i j k l o q:=fix (FK a g c b i j k l) (o,q)
theorem AEl a g c b i j k l:A8 E96 0 8 (cd f121 116) 1850 (ABJ a g c b i j k l) (FK a g c b i j k l) (AzC a g c b i j k l):=by
 intro _;simp only[FK,L4,ASm];kernel_rfl
def QY(a:ASG)(b:ASz)(c g:Int)(i:AST):ATP ((Int×AST)⊕(AST⊕AST)):=
 bif decide (g<c)then
 if 0<=g/\g<b.1.length then
 if Ty.row ATB=true/\(0:Int)<=((b.1.getD g.toNat Ag.zero).2.2.2.2.2.1.length:Int)/\((b.1.getD g.toNat Ag.zero).2.2.2.2.2.1.length:Int)<=((b.1.getD g.toNat Ag.zero).2.2.2.2.2.1.length:Int)/\((24:Nat):Int)*((b.1.getD g.toNat Ag.zero).2.2.2.2.2.1.length:Int)<=(281474976710656:Int)/\((b.1.getD g.toNat Ag.zero).2.2.2.2.2.1.length:Int)<=(9223372036854775807:Int)then
 (Ua a g c b i (b.1.getD g.toNat Ag.zero) (b.1.getD g.toNat Ag.zero).2.2.2.2.2.1 ((b.1.getD g.toNat Ag.zero).2.2.2.2.2.1.length:Int) 0 (List.replicate ((b.1.getD g.toNat Ag.zero).2.2.2.2.2.1.length:Int).toNat ([]:ASI))).bind λn=>(Ho (b.1.getD g.toNat Ag.zero) a n).bind λs=>if 0<=g/\g<i.length then
 if 0<=g/\g<(i.set g.toNat s).length then
 bif decide ((((i.set g.toNat s).getD g.toNat ATB.zero).length:Int)>2000)then
 some (.inr (.inl (i.set g.toNat s)))
 else
 some (.inl (wI (g+1),i.set g.toNat s))
 else none
 else none
 else none
 else none
 else
 some (.inr (.inr i))
def L5 a b c (z_:Int×AST):=QY a b c z_.1 z_.2
def Yr a b c g i:=fix (L5 a b c) (g,i)
theorem AEm a b c:A8 E96 0 3 (code f121) 58 (ABK a b c) (L5 a b c) (AzD a b c):=by
 intro _;simp(disch:=refine id ?_;kernel_rfl) only[L5,QY,ASm,Ua,AJ (AEl _ _ _ _ _ _ _ _) (K:=Ka E96 0 3)];kernel_rfl
def GC(a:ASG)(b:ASz):ATP AS2:=
 if Ty.row ATB=true/\(0:Int)<=(b.1.length:Int)/\(b.1.length:Int)<=(b.1.length:Int)/\((24:Nat):Int)*(b.1.length:Int)<=(281474976710656:Int)/\(b.1.length:Int)<=(9223372036854775807:Int)then
 (Yr a b (b.1.length:Int) 0 (List.replicate (b.1.length:Int).toNat ([]:ASI))).bind (Sum.elim (λd=>some (false,([]:ASI))) (λe=>if 0<=(wI ((e.length:Int)-1))/\(wI ((e.length:Int)-1))<e.length then
 (MX (e.getD (wI ((e.length:Int)-1)).toNat ATB.zero)).bind λt=>some (true,t)
 else none))
 else none
def Avi:=Ck [.d ATE,.d Ap] [⟨[.AB [] ATE,.AB [] Ap],[],AS2,λp=>GC p.1.1 p.1.2.1,λr=>(.cons H7 (.cons (dB r.1) .nil),[Ca r.2])⟩]
theorem uE:An prog 121 Avi:=Av (fn:=f121) ⟨⟨E96,pk ⟨Agz,AgA,trivial⟩,λ_ R K=>by
 simp(disch:=refine id ?_;kernel_rfl) only[GC,ASn,Yr,AJ (AEm _ _ _) (K:=A2 E96 f121 0 R K)];kernel_rfl⟩,trivial⟩
abbrev E97:=eN [(120,Avh),(121,Avi)] {iq:=[(0,.row [] 218 Af true)]}
def TF(a:ASG)(b:ASz):ATP AS2:=
 (Fc a b).bind λc=>bif decide (c<0)then
 some (false,([]:ASI))
 else
 (GC a b).bind λd=>some (d.1,d.2)
def c70:=Ck [.d ATE,.d Ap] [⟨[.AB [] ATE,.AB [] Ap],[],AS2,λp=>TF p.1.1 p.1.2.1,λr=>(.cons H7 (.cons (dB r.1) .nil),[Ca r.2])⟩]
theorem AlE:An prog 70 c70:=Av (fn:=f70) ⟨⟨E97,pk ⟨uD,uE,trivial⟩,λ_ R K=>by
 simp only[TF,ASn];kernel_rfl⟩,trivial⟩
abbrev E98:=eN [(118,zl),(120,Avh)] {Ba:=[(5,[0,5,12,13,14])],BN:=[(5,[4])],BM:=[(9,[0,7,12,13,14,39])],Du:=[(9,[0,5,7,8,12,13,14])]}
def ABM a b c (z_:Int×Int):=sT 43 [(0,Ar a),(5,dI z_.1),(12,Bl b),(13,dI c),(14,dI z_.2)] []
def AzF(a:ASG)(b:ASK)(c:Int):=Sum.elim (λ(d:Unit)=>xR 43 mD []) (λ(e:Unit)=>xE 0 43 [] [])
def ABL a g i b c j k:=sT 43 [(0,Ar a),(5,dI g),(7,Aq),(8,dI i),(12,Bl b),(13,dI c),(14,dI j)] [.box (Yd k)]
def AzE a (g:Int) (i:Int) b c j k:=λ(l:Bool)=>xN 43 [(0,Ar a),(7,Aq),(12,Bl b),(13,dI c),(14,dI j),(39,dB l)] [.box (Yd k)]
def Dx(a:ASG)(g i:Int)(b:ASK)(c j:Int)(k:ASu):ATP Bool:=
 bif !(AY k.1 (wI (g+1)) 1000000)then
 some true
 else
 bif decide (i<0)then
 some true
 else
 (Fc a k.2.2.2.1).bind λn=>some (i !=n)
theorem AEn a g i b c j k:AX E98 0 9 (cd f137 244) 460 (ABL a g i b c j k) (Dx a g i b c j k) (AzE a g i b c j k):=by
 unfold AX;simp only[Dx,ASm];kernel_rfl
def DI(a:ASG)(b:ASK)(c g j:Int):ATP (AS1⊕(Unit⊕Unit)):=
 bif decide (j<c)then
 if 0<=j/\j<b.length then
 (Fc a (b.getD j.toNat Ah.zero).2.2.1).bind λi=>(Dx a g i b c j (b.getD j.toNat Ah.zero)).bind λl=>bif l then
 some (.inr (.inl ()))
 else
 some (.inl ((b.getD j.toNat Ah.zero).1,wI (j+1)))
 else none
 else
 some (.inr (.inr ()))
def B6 a b c (z_:Int×Int):=DI a b c z_.1 z_.2
def Qb a b c g j:=fix (B6 a b c) (g,j)
theorem AEo a b c:A8 E98 0 5 (code f137) 122 (ABM a b c) (B6 a b c) (AzF a b c):=by
 intro _;simp(disch:=refine id ?_;kernel_rfl) only[B6,DI,ASm,Bf (AEn ..) (K:=Ka E98 0 5)];kernel_rfl
def Gi(a:ASG)(b:ASK):ATP Bool:=
 bif decide ((b.length:Int)>60)then
 some false
 else
 (Qb a b (b.length:Int) 0 0).bind (Sum.elim (λd=>some false) (λe=>some true))
def Avk:=Ck [.d ATE,.d ATG] [⟨[.AB [] ATE,.AB [] ATG],[],Bool,λp=>Gi p.1.1 p.1.2.1,λr=>(dB r,[])⟩]
theorem uG:An prog 137 Avk:=Av (fn:=f137) ⟨⟨E98,pk ⟨W4,uD,trivial⟩,λ_ R K=>by
 simp(disch:=refine id ?_;kernel_rfl) only[Gi,ASn,Qb,AJ (AEo _ _ _) (K:=A2 E98 f137 0 R K)];kernel_rfl⟩,trivial⟩
abbrev E99:=eN [(69,c69),(137,Avk)] {}
def Lc(a:ASG)(b:ASK):ATP Bool:=
 (Kl a).bind λc=>bif c then
 (Gi a b).bind λd=>some d
 else
 some false
def AE4:=Ck [.d ATE,.d ATG] [⟨[.AB [] ATE,.AB [] ATG],[],Bool,λp=>Lc p.1.1 p.1.2.1,λr=>(dB r,[])⟩]
theorem AgB:An prog 156 AE4:=Av (fn:=f156) ⟨⟨E99,pk ⟨qN,uG,trivial⟩,λ_ R K=>by
 simp only[Lc,ASn];kernel_rfl⟩,trivial⟩
abbrev AeN:=eN [(121,Avi)] {Ba:=[(3,[0,6,16,17,18])],BN:=[(3,[4,5,6])],BM:=[(8,[0,6,7,9,11,16,17,18,42])],Du:=[(8,[0,6,7,9,10,11,12,16,17,18])],iq:=[(0,.row [] 222 (.AG ATB (.AG ATB .unit)) true)]}
def Aq9 a b c (z_:Int×ATs):=sT 51 [(0,Ar a),(6,.AK 0),(16,Bl b),(17,dI c),(18,dI z_.1)] [CZ z_.2]
def Apl(a:ASG)(b:ASK)(c:Int):=Sum.elim (λ(d:ATs)=>xR 51 [(4,.zs),(5,dB false),(6,.AK 0)] [CZ d]) (λ(e:ATs)=>xE 0 51 [(6,.AK 0)] [CZ e])
def Afg a g (i:AS2) (j:AS2) b c k:=sT 51 [(0,Ar a),(6,.AK 0),(7,dI g),(9,.AK 1),(10,dB i.1),(11,.AK 2),(12,dB j.1),(16,Bl b),(17,dI c),(18,dI g)] [CZ k,Ca i.2,Ca j.2]
def yE(a:ASG)(g:Int)(i j:AS2)(b:ASK)(c:Int)(k:ATs)(m0:Bool):Ex×St:=xN 51 [(0,Ar a),(6,.AK 0),(7,dI g),(9,.AK 1),(11,.AK 2),(16,Bl b),(17,dI c),(18,dI g),(42,dB m0)] [CZ k,Ca i.2,Ca j.2]
theorem AsX a g i j b c k:Xk AeN 0 8 (cd f99 116) (pt 924) (Afg a g i j b c k)=some (yE a g i j b c k ((!i.1)||(!j.1))):=by
 refine .trans (b:=
 bif !i.1 then
 some (yE a g i j b c k true)
 else
 some (yE a g i j b c k (!j.1))) (by kernel_rfl) ?_
 cases (!i.1);rfl;rfl
def Ub(a:ASG)(b:ASK)(c g:Int)(k:ATs):ATP ((Int×ATs)⊕(ATs⊕ATs)):=
 bif decide (g<c)then
 if 0<=g/\g<b.length then
 (GC a (b.getD g.toNat Ah.zero).2.2.1).bind λi=>(GC a (b.getD g.toNat Ah.zero).2.2.2.1).bind λj=>OQ (Afg a g i j b c k) (
 bif (!i.1)||(!j.1)then
 some (.inr (.inl k))
 else
 if 0<=g/\g<k.length then
 some (.inl (wI (g+1),k.set g.toNat (i.2,j.2,())))
 else none)
 else none
 else
 some (.inr (.inr k))
def Po a b c (z_:Int×ATs):=Ub a b c z_.1 z_.2
def aD a b c g k:=fix (Po a b c) (g,k)
theorem AsY a b c:A8 AeN 0 3 (code f99) 58 (Aq9 a b c) (Po a b c) (Apl a b c):=by
 intro _;simp(disch:=refine id ?_;kernel_rfl) only[Po,Ub,ASm,Ey (AsX ..) (K:=Ka AeN 0 3)];kernel_rfl
def Qc(a:ASG)(b:ASK):ATP (Bool×ATs):=
 if Ty.row (.AG ATB (.AG ATB .unit))=true/\(0:Int)<=(b.length:Int)/\(b.length:Int)<=(b.length:Int)/\((48:Nat):Int)*(b.length:Int)<=(281474976710656:Int)/\(b.length:Int)<=(9223372036854775807:Int)then
 (aD a b (b.length:Int) 0 (List.replicate (b.length:Int).toNat (([]:ASI),([]:ASI),()))).bind (Sum.elim (λd=>some (false,([]:ATO ATm))) (λe=>some (true,e)))
 else none
def c99:=Ck [.d ATE,.d ATG] [⟨[.AB [] ATE,.AB [] ATG],[],Bool×ATs,λp=>Qc p.1.1 p.1.2.1,λr=>(.cons H7 (.cons (dB r.1) .nil),[CZ r.2])⟩]
theorem qR:An prog 99 c99:=Av (fn:=f99) ⟨⟨AeN,pk ⟨uE,trivial⟩,λ_ R K=>by
 simp(disch:=refine id ?_;kernel_rfl) only[Qc,ASn,aD,AJ (AsY _ _ _) (K:=A2 AeN f99 0 R K)];kernel_rfl⟩,trivial⟩
abbrev AH5:=eN [(99,c99),(156,AE4)] {}
def L3(a:ASG)(b:ASK):ATP Bool:=
 (Lc a b).bind λc=>bif !c then
 some false
 else
 (Qc a b).bind λd=>some d.1
def AEG:=Ck [.d ATE,.d ATG] [⟨[.AB [] ATE,.AB [] ATG],[],Bool,λp=>L3 p.1.1 p.1.2.1,λr=>(dB r,[])⟩]
theorem Agc:An prog 122 AEG:=Av (fn:=f122) ⟨⟨AH5,pk ⟨qR,AgB,trivial⟩,λ_ R K=>by
 simp only[L3,ASn];kernel_rfl⟩,trivial⟩
abbrev AeO:=eN [] {Aw:=false,Ba:=[(3,{Be:=[3,7,8,9],Cj:=[(3,false,.row [] 87 Ah false)]})],BN:=[(3,[3])],BM:=[(7,{Be:=[3,7,8,9],Cj:=[(3,false,.row [] 87 Ah false)]})],Du:=[(7,[3,7,8,9])]}
def Arb a b (z_:Int×ASK):=sT 21 (Akb a b z_.1) [Tn z_.2]
def Apn(a:ASK)(b:Int):=λ(c:ASK)=>xE 0 21 mr [Tn c]
def Ara a b d e:=sT 21 (Akb a b d) [Tn e]
def Apm a b d (e:ASK):=λ(g:ASK)=>xN 21 (Akb a b d) [Tn g]
def Kn(a:ASK)(b d:Int)(e:ASK):ATP ASK:=
 if 0<=d/\d<a.length then
 bif (a.getD d.toNat Ah.zero).2.1 then
 if(e.length+([a.getD d.toNat Ah.zero]:ASK).length)*64<=140737488355328 then
 some (e++([a.getD d.toNat Ah.zero]:ASK))
 else none
 else
 some e
 else none
theorem AsZ a b d e:AX AeO 0 7 (cd f79 116) 14 (Ara a b d e) (Kn a b d e) (Apm a b d e):=by
 unfold AX;simp only[Kn,ASm];kernel_rfl
def Iv(a:ASK)(b d:Int)(e:ASK):ATP (ATc⊕ASK):=
 bif decide (d<b)then
 (Kn a b d e).bind λg=>some (.inl (wI (d+1),g))
 else
 some (.inr e)
def DF a b (z_:Int×ASK):=Iv a b z_.1 z_.2
def Qa a b d e:=fix (DF a b) (d,e)
theorem As0 a b:A8 AeO 0 3 (code f79) 58 (Arb a b) (DF a b) (Apn a b):=by
 intro _;simp(disch:=refine id ?_;kernel_rfl) only[DF,Iv,ASm,Bf (AsZ ..) (K:=Ka AeO 0 3)];kernel_rfl
def Ld(a:ASK):ATP ASK:=
 (Qa a (a.length:Int) 0 ([]:ASK)).bind λc=>some c
def c79:=Ck [.d ATG] [⟨[.AB [] ATG],[],ASK,λp=>Ld p.1.1,λr=>(.AK 0,[Tn r])⟩]
theorem AlM:An prog 79 c79:=Av (fn:=f79) ⟨⟨AeO,pk trivial,λ_ R K=>by
 simp(disch:=refine id ?_;kernel_rfl) only[Ld,ASn,Qa,AJ (As0 _ _) (K:=A2 AeO f79 0 R K)];kernel_rfl⟩,trivial⟩
abbrev AH6:=eN [] {}
def TG(a:ASG):ATP ASQ:=
 if Ty.row ATD=true/\(0:Int)<=(a.length:Int)/\(a.length:Int)<=(a.length:Int)/\((24:Nat):Int)*(a.length:Int)<=(281474976710656:Int)/\(a.length:Int)<=(9223372036854775807:Int)then
 some (List.replicate (a.length:Int).toNat ([]:ASC))
 else none
def AEH:=Ck [.d ATE] [⟨[.AB [] ATE],[],ASQ,λp=>TG p.1.1,λr=>(.pr H7 .u,[Dt r])⟩]
theorem Agd:An prog 123 AEH:=Av (fn:=f123) ⟨⟨AH6,pk trivial,λ_ R K=>by
 simp only[TG,ASn];kernel_rfl⟩,trivial⟩
abbrev AeP:=eN [(118,zl)] {Ba:=[(4,[0,17,18,19]),(8,[0,5,7,17,18,19,24,25,26])],BN:=[(4,[4]),(8,[0,4,17,18,19])]}
def Ard a b c (z_:Int):=sT 44 [(0,Ar a),(17,Ie b),(18,dI c),(19,dI z_)] []
def Apq(a:ASG)(b:ASQ)(c:Int):=Sum.elim (λ(d:Unit)=>xR 44 mD []) (λ(e:Unit)=>xE 0 44 [] [])
def Arc a g b c i j (z_:Int×Int):=sT 44 [(0,Ar a),(5,dI g),(7,dI z_.1),(17,Ie b),(18,dI c),(19,dI g),(24,B8 i),(25,dI j),(26,dI z_.2)] []
def Apo a g b c (i:ASC) (j:Int):=Sum.elim (λ(k:Unit)=>xR 44 [(0,Ar a),(4,dB false),(17,Ie b),(18,dI c),(19,dI g)] []) (λ(l:Unit)=>xE 2 44 [(0,Ar a),(17,Ie b),(18,dI c),(19,dI g)] [])
def NC(a:ASG)(g:Int)(b:ASQ)(c:Int)(i:ASC)(j n o:Int):ATP (AS1⊕(Unit⊕Unit)):=
 bif decide (o<j)then
 if 0<=o/\o<i.length then
 if 0<=g/\g<a.length then
 bif !(AY (i.getD o.toNat ATy.zero) (wI (n+1)) (wI ((a.getD g.toNat Ab.zero).2.1-1)))then
 some (.inr (.inl ()))
 else
 some (.inl (i.getD o.toNat ATy.zero,wI (o+1)))
 else none
 else none
 else
 some (.inr (.inr ()))
def GZ a g b c i j (z_:Int×Int):=NC a g b c i j z_.1 z_.2
def Y9 a g b c i j n o:=fix (GZ a g b c i j) (n,o)
theorem As1 a g b c i j:A8 AeP 0 8 (cd f159 116) 462 (Arc a g b c i j) (GZ a g b c i j) (Apo a g b c i j):=by
 intro _;simp only[GZ,NC,ASm];kernel_rfl
def ND(a:ASG)(b:ASQ)(c g:Int):ATP (Int⊕(Unit⊕Unit)):=
 bif decide (g<c)then
 if 0<=g/\g<b.length then
 (Y9 a g b c (b.getD g.toNat ATD.zero) ((b.getD g.toNat ATD.zero).length:Int) 0 0).bind (Sum.elim (λk=>some (.inr (.inl ()))) (λl=>some (.inl (wI (g+1)))))
 else none
 else
 some (.inr (.inr ()))
def JF a b c (z_:Int):=ND a b c z_
def Za a b c g:=fix (JF a b c) g
theorem As2 a b c:A8 AeP 0 4 (code f159) 58 (Ard a b c) (JF a b c) (Apq a b c):=by
 intro _;simp(disch:=refine id ?_;kernel_rfl) only[JF,ND,ASm,Y9,AJ (As1 _ _ _ _ _ _) (K:=Ka AeP 0 4)];kernel_rfl
def TD(a:ASG)(q:ASx):ATP Bool:=
 bif (q.1.length:Int) !=(a.length:Int)then
 some false
 else
 (Za a q.1 (q.1.length:Int) 0).bind (Sum.elim (λd=>some false) (λe=>some true))
def AE6:=Ck [.d ATE,.d Am] [⟨[.AB [] ATE,.AB [] Am],[],Bool,λp=>TD p.1.1 p.1.2.1,λr=>(dB r,[])⟩]
theorem AgD:An prog 159 AE6:=Av (fn:=f159) ⟨⟨AeP,pk ⟨W4,trivial⟩,λ_ R K=>by
 simp(disch:=refine id ?_;kernel_rfl) only[TD,ASn,Za,AJ (As2 _ _ _) (K:=A2 AeP f159 0 R K)];kernel_rfl⟩,trivial⟩
abbrev AH7:=eN [(69,c69),(159,AE6)] {}
def TC(a:ASG)(b:ASx):ATP Bool:=
 (Kl a).bind λc=>bif c then
 (TD a b).bind λd=>some d
 else
 some false
def AEO:=Ck [.d ATE,.d Am] [⟨[.AB [] ATE,.AB [] Am],[],Bool,λp=>TC p.1.1 p.1.2.1,λr=>(dB r,[])⟩]
theorem Agl:An prog 136 AEO:=Av (fn:=f136) ⟨⟨AH7,pk ⟨qN,AgD,trivial⟩,λ_ R K=>by
 simp only[TC,ASn];kernel_rfl⟩,trivial⟩
abbrev AoQ:=eN [] {wH:=[(39,4)],BM:=[(1,[0,1,2,32])],Du:=[(1,[0,1,2])],WX:=[.mv 0 [3],.Bg 3]}
def Are(a:Int) b c d e g:=sT 54 [(0,.ptr 0 a [] 0),(1,dI b),(2,dI c)] [.box (.pr (Ar d) AcH),Cg e,.Bg,FB g]
def Aps(a:Int) b c d e g:=λ(i:Bool)=>xN 54 [(0,.ptr 0 a [] 0),(1,dI b),(2,dI c),(32,dB i)] [.box (.pr (Ar d) AcH),Cg e,.Bg,FB g]
def Hp(a b c:Int)(d:ASG)(e:ASR)(g:ASF):ATP Bool:=
 bif decide (c>0)then
 if 0<=b/\b<d.length then
 bif decide (c<(d.getD b.toNat Ab.zero).2.1)then
 if 0<=b/\b<e.length then
 if 0<=c/\c<(e.getD b.toNat ATF.zero).length then
 some (!((e.getD b.toNat ATF.zero).getD c.toNat (Ty.zero .bool)))
 else none
 else none
 else
 some false
 else none
 else
 some false
theorem As3 a b c d e g:AX AoQ 4 1 (code f160) 2 (Are a b c d e g) (Hp a b c d e g) (Aps a b c d e g):=by
 unfold AX;simp only[Hp,ASm];kernel_rfl
def BQ(a b c:Int)(d:ASG)(e:ASR)(g:ASF):ATP AS3:=
 (Hp a b c d e g).bind λi=>bif i then
 if 0<=b/\b<e.length then
 if(0:Int)<=c/\c<(e.getD b.toNat ATF.zero).length then
 if(g.length+([(b,c,())]:ASF).length)*16<=140737488355328 then
 some (d,e.set b.toNat ((e.getD b.toNat ATF.zero).set c.toNat true),g++([(b,c,())]:ASF))
 else none
 else none
 else none
 else
 some (d,e,g)
def Alb:=Aor [2] (Ck [.VE,.d ATy,.d ATy] [⟨[.ptr 0 [] 0,.AB [] ATy,.AB [] ATy],[.box (.pr (.AB [] ATE) (.pr (.k I2) (.pr (.k (.mp 2)) (.pr (.k (.AK 3)) (.k .u))))),.row 154 .Aw ATF,.Bg,.row 225 .Aw Aa],AS3,λp=>BQ p.1.1 p.1.2.1 p.1.2.2.1 p.2.1.1 p.2.2.1 p.2.2.2.2.1,λr=>(.nil,[.box (.pr (Ar r.1) (.pr I2 (.pr (.mp 2) gN))),Cg r.2.1,.Bg,.Bg,FB r.2.2])⟩])
theorem jK:An prog 160 Alb:=Aim _ (Av (fn:=f160) ⟨⟨AoQ,pk trivial,λ_ R K=>by
 simp(disch:=refine id ?_;kernel_rfl) only[BQ,ASn,Bf (As3 ..) (K:=A2 AoQ f160 4 R K)];kernel_rfl⟩,trivial⟩)
abbrev AeQ:=eN [(160,Alb)] {Ba:=[(3,{Be:=[3,5,17,18,19],Cj:=[(5,true,.row [3] 225 Aa true)]}),(7,{Be:=[3,5,6,17,18,19,37,38,39],Cj:=[(5,true,.row [3] 225 Aa true)]})],BN:=[(3,[5]),(7,[3,5,17,18,19])]}
def Arh a b c (z_:Int×ASG×ASR×ASF):=sT 50 [(3,Aq),(5,AZ),(17,Ar a),(18,dI c),(19,dI z_.1)] [.box (BP b),.box (.pr (Ar z_.2.1) Aku),Cg z_.2.2.1,HF ([]:ATO ASW) none,FB z_.2.2.2]
def Apu(a:ASG)(b:ASx)(c:Int):=λ(d:AS3)=>xE 0 50 [(5,Aq)] [.box (.pr (Ar d.1) AcH),Cg d.2.1,HF ([]:ATO ASW) none,FB d.2.2]
def Arf e a c b g i (z_:Int×ASG×ASR×ASF):=sT 50 [(3,Aq),(5,AZ),(6,dI e),(17,Ar a),(18,dI c),(19,dI e),(37,B8 g),(38,dI i),(39,dI z_.1)] [.box (BP b),.box (.pr (Ar z_.2.1) Aku),Cg z_.2.2.1,HF ([]:ATO ASW) none,FB z_.2.2.2]
def Apt e a c b (g:ASC) (i:Int):=λ(j:AS3)=>xE 2 50 [(3,Aq),(5,AZ),(17,Ar a),(18,dI c),(19,dI e)] [.box (BP b),.box (.pr (Ar j.1) Aku),Cg j.2.1,HF ([]:ATO ASW) none,FB j.2.2]
def Jp(e:Int)(a:ASG)(c:Int)(b:ASx)(g:ASC)(i k:Int)(l:ASG)(n:ASR)(o:ASF):ATP (ATh⊕AS3):=
 bif decide (k<i)then
 if 0<=k/\k<g.length then
 (BQ 0 e (g.getD k.toNat ATy.zero) l n o).bind λq=>some (.inl (wI (k+1),q.1,q.2.1,q.2.2))
 else none
 else
 some (.inr (l,n,o))
def Ej e a c b g i (z_:Int×ASG×ASR×ASF):=Jp e a c b g i z_.1 z_.2.1 z_.2.2.1 z_.2.2.2
def Q2 e a c b g i k l n o:=fix (Ej e a c b g i) (k,l,n,o)
theorem As4 e a c b g i:A8 AeQ 0 7 (cd f138 116) 462 (Arf e a c b g i) (Ej e a c b g i) (Apt e a c b g i):=by
 intro _;simp only[Ej,Jp,ASm];kernel_rfl
def Jq(a:ASG)(b:ASx)(c e:Int)(s:ASG)(t:ASR)(u:ASF):ATP (ATh⊕AS3):=
 bif decide (e<c)then
 if 0<=e/\e<a.length then
 if Ty.row .bool=true/\(0:Int)<=(a.getD e.toNat Ab.zero).2.1/\(a.getD e.toNat Ab.zero).2.1<=(a.getD e.toNat Ab.zero).2.1/\((1:Nat):Int)*(a.getD e.toNat Ab.zero).2.1<=(281474976710656:Int)/\(a.getD e.toNat Ab.zero).2.1<=(9223372036854775807:Int)then
 if 0<=e/\e<t.length then
 if 0<=e/\e<b.1.length then
 (Q2 e a c b (b.1.getD e.toNat ATD.zero) ((b.1.getD e.toNat ATD.zero).length:Int) 0 s (t.set e.toNat (List.replicate (a.getD e.toNat Ab.zero).2.1.toNat false)) u).bind λj=>some (.inl (wI (e+1),j.1,j.2.1,j.2.2))
 else none
 else none
 else none
 else none
 else
 some (.inr (s,t,u))
def El a b c (z_:Int×ASG×ASR×ASF):=Jq a b c z_.1 z_.2.1 z_.2.2.1 z_.2.2.2
def Q3 a b c e s t u:=fix (El a b c) (e,s,t,u)
theorem As5 a b c:A8 AeQ 0 3 (code f138) 58 (Arh a b c) (El a b c) (Apu a b c):=by
 intro _;simp(disch:=refine id ?_;kernel_rfl) only[El,Jq,ASm,Q2,AJ (As4 _ _ _ _ _ _) (K:=Ka AeQ 0 3)];kernel_rfl
def M4(a:ASG)(b:ASx):ATP (Int×ASG×ASR×ATl×ASF):=
 if Ty.row ATF=true/\(0:Int)<=(a.length:Int)/\(a.length:Int)<=(a.length:Int)/\((24:Nat):Int)*(a.length:Int)<=(281474976710656:Int)/\(a.length:Int)<=(9223372036854775807:Int)then
 (Q3 a b (a.length:Int) 0 a (List.replicate (a.length:Int).toNat ([]:ASD)) ([]:ASF)).bind λd=>some (0,d.1,d.2.1,([]:ATO ASW),d.2.2)
 else none
def AEP:=Ck [.d ATE,.d Am] [⟨[.AB [] ATE,.AB [] Am],[],Int×ASG×ASR×ATl×ASF,λp=>M4 p.1.1 p.1.2.1,λr=>(.ptr 0 r.1 [] 0,[.box (.pr (Ar r.2.1) AcH),Cg r.2.2.1,HF r.2.2.2.1 none,FB r.2.2.2.2])⟩]
theorem Agm:An prog 138 AEP:=Av (fn:=f138) ⟨⟨AeQ,pk ⟨jK,trivial⟩,λ_ R K=>by
 simp(disch:=refine id ?_;kernel_rfl) only[M4,ASn,Q3,AJ (As5 _ _ _) (K:=A2 AeQ f138 0 R K)];kernel_rfl⟩,trivial⟩
abbrev Axt:=eN [] {Aw:=false,take:=[25]}
def AFo:=AdB [.VE,.VE] Axt f182
theorem AgV:An prog 182 AFo:=iQ (pk trivial)
abbrev qk:=eN [(182,AFo)] {Aw:=false,Ba:=[(3,[0,3,9,10,11]),(11,{Be:=[6,25,26,27],Cj:=[(6,false,.row [] 218 Af false)]})],BN:=[(3,[0,3]),(11,[6])],BM:=[(8,[0,3,9,10,11])],Du:=[(8,[0,3,9,10,11])]}
def Arl a b (z_:Int×ASI):=sT 36 [(6,.AK 0),(25,Oq a),(26,dI b),(27,dI z_.1)] [Ci z_.2]
def Apy(a:AST)(b:Int):=λ(c:ASI)=>xE 2 36 [(6,.AK 0)] [Ci c]
def Rk(a:AST)(b d:Int)(e:ASI):ATP (ATb⊕ASI):=
 bif decide (d<b)then
 if 0<=d/\d<a.length then
 if(e.length+(a.getD d.toNat ATB.zero).length)*56<=140737488355328 then
 some (.inl (wI (d+1),e++(a.getD d.toNat ATB.zero)))
 else none
 else none
 else
 some (.inr e)
def KH a b (z_:Int×ASI):=Rk a b z_.1 z_.2
def TW a b d e:=fix (KH a b) (d,e)
theorem As9 a b:A8 qk 0 11 (code f161) 250 (Arl a b) (KH a b) (Apy a b):=by
 intro _;simp only[KH,Rk,ASm];kernel_rfl
def Ark a g (z_:Int×ASI):=sT 36 [(6,.AK 0),(25,Oq a),(26,dI g),(27,dI z_.1)] [Ci z_.2]
def Apx(a:AST)(g:Int):=λ(i:ASI)=>xE 2 36 [(6,.AK 0)] [Ci i]
def GJ(a:AST)(g j:Int)(k:ASI):ATP (ATb⊕ASI):=
 bif decide (j<g)then
 if 0<=j/\j<a.length then
 if(k.length+(a.getD j.toNat ATB.zero).length)*56<=140737488355328 then
 some (.inl (wI (j+1),k++(a.getD j.toNat ATB.zero)))
 else none
 else none
 else
 some (.inr k)
def Da a g (z_:Int×ASI):=GJ a g z_.1 z_.2
def Nj a g j k:=fix (Da a g) (j,k)
theorem As8 a g:A8 qk 0 11 (code f161) 250 (Ark a g) (Da a g) (Apx a g):=by
 intro _;simp only[Da,GJ,ASm];kernel_rfl
def Arj a l (z_:Int×Int):=sT 36 [(0,Oq a),(3,dI z_.1),(9,Oq a),(10,dI l),(11,dI z_.2)] []
def Apw a (l:Int):=λ(n:Int)=>xE 0 36 [(0,Oq a),(3,dI n)] []
def Ari a o l q:=sT 36 [(0,Oq a),(3,dI o),(9,Oq a),(10,dI l),(11,dI q)] []
def Apv a (o:Int) l (q:Int):=λ(s:Unit)=>xN 36 [(0,Oq a),(3,dI (wI (o+((a.getD q.toNat ATB.zero).length:Int)))),(9,Oq a),(10,dI l),(11,dI q)] []
def IL(a:AST)(o l q:Int):ATP Unit:=
 if 0<=q/\q<a.length then
 bif decide ((wI (o+((a.getD q.toNat ATB.zero).length:Int)))<0)then
 none
 else
 some ()
 else none
theorem As6 a o l q:AX qk 0 8 (cd f161 116) 14 (Ari a o l q) (IL a o l q) (Apv a o l q):=by
 unfold AX;simp only[IL,ASm];kernel_rfl
def GI(a:AST)(l o q:Int):ATP (AS1⊕Int):=
 bif decide (q<l)then
 (IL a o l q).bind λs=>some (.inl (wI (o+((a.getD q.toNat ATB.zero).length:Int)),wI (q+1)))
 else
 some (.inr o)
def C9 a l (z_:Int×Int):=GI a l z_.1 z_.2
def Ni a l o q:=fix (C9 a l) (o,q)
theorem As7 a l:A8 qk 0 3 (code f161) 58 (Arj a l) (C9 a l) (Apw a l):=by
 intro _;simp(disch:=refine id ?_;kernel_rfl) only[C9,GI,ASm,Bf (As6 ..) (K:=Ka qk 0 3)];kernel_rfl
def IK(a:AST):ATP ASI:=
 (Ni a (a.length:Int) 0 0).bind λn=>bif decide (n<0)then
 none
 else
 bif decide ((wI (n-0))>0)then
 if(0:Int)<=(wI (n-0))/\(wI (n-0))*((56:Nat):Int)<=(140737488355328:Int)then
 if(0:Int)<=(0:Int)/\(0:Int)<=((List.replicate (wI (n-0)).toNat (0,0,0,(0,([]:ASC),()),())).length:Int)then
 (Nj a (a.length:Int) 0 ((List.replicate (wI (n-0)).toNat (0,0,0,(0,([]:ASC),()),())).take 0)).bind λi=>some i
 else none
 else none
 else
 (TW a (a.length:Int) 0 ([]:ASI)).bind λc=>some c
def AE7:=Ck [.d ATM] [⟨[.AB [] ATM],[],ASI,λp=>IK p.1.1,λr=>(.AK 0,[Ci r])⟩]
theorem AgE:An prog 161 AE7:=Av (fn:=f161) ⟨⟨qk,pk ⟨AgV,trivial⟩,λ_ R K=>by
 simp(disch:=refine id ?_;kernel_rfl) only[IK,ASn,Ni,AJ (As7 _ _) (K:=A2 qk f161 0 R K),Nj,AJ (As8 _ _) (K:=A2 qk f161 0 R K),TW,AJ (As9 _ _) (K:=A2 qk f161 0 R K)];kernel_rfl⟩,trivial⟩
abbrev yv:=eN [] {Ba:=[(3,{Be:=[3,8,9,10],Cj:=[(3,false,.row [] 252 Ae true)]}),(7,[3,5,6,8,9,10])],BN:=[(3,[3]),(7,[3,8,9,10])],BM:=[(8,[3,5,6,8,9,10])],Du:=[(8,[3,5,6,8,9,10])]}
def Aro a b (z_:Int×ASH):=sT 43 [(3,.AK 0),(8,B3 a),(9,dI b),(10,dI z_.1)] [Yf z_.2]
def ApB(a:ASI)(b:Int):=λ(c:ASH)=>xE 0 43 mr [Yf c]
def Arn a b d e (z_:Int×ASH):=sT 43 (Akc z_.1 a b d) [Yf z_.2,.box (K6 e)]
def ApA a b d (e:ASs):=λ(g:ASH)=>xE 2 43 [(3,.AK 0),(8,B3 a),(9,dI b),(10,dI d)] [Yf g]
def Arm i a b d j e:=sT 43 (Akc i a b d) [Yf j,.box (K6 e)]
def Apz i a b d (j:ASH) e:=λ(k:ASH)=>xN 43 (Akc i a b d) [Yf k,.box (K6 e)]
def Le(i:Int)(a:ASI)(b d:Int)(j:ASH)(e:ASs):ATP ASH:=
 bif e.1==(-1)then
 if(j.length+([(2,0,0,())]:ASH).length)*24<=140737488355328 then
 some (j++([(2,0,0,())]:ASH))
 else none
 else
 if(j.length+([(1,e.1,wI (e.2.1+i),())]:ASH).length)*24<=140737488355328 then
 some (j++([(1,e.1,wI (e.2.1+i),())]:ASH))
 else none
theorem Ata i a b d j e:AX yv 0 8 (sb (cd f162 116) 924) 6 (Arm i a b d j e) (Le i a b d j e) (Apz i a b d j e):=by
 unfold AX;simp only[Le,ASm];kernel_rfl
def L9(a:ASI)(b d:Int)(e:ASs)(i:Int)(j:ASH):ATP (AS0⊕ASH):=
 bif decide (i<e.2.2.1)then
 (Le i a b d j e).bind λk=>some (.inl (wI (i+1),k))
 else
 some (.inr j)
def FN a b d e (z_:Int×ASH):=L9 a b d e z_.1 z_.2
def Pq a b d e i j:=fix (FN a b d e) (i,j)
theorem Atb a b d e:A8 yv 0 7 (cd f162 116) 462 (Arn a b d e) (FN a b d e) (ApA a b d e):=by
 intro _;simp(disch:=refine id ?_;kernel_rfl) only[FN,L9,ASm,Bf (Ata ..) (K:=Ka yv 0 7)];kernel_rfl
def Ma(a:ASI)(b d:Int)(l:ASH):ATP (AS0⊕ASH):=
 bif decide (d<b)then
 if 0<=d/\d<a.length then
 if(l.length+([(0,0,0,())]:ASH).length)*24<=140737488355328 then
 (Pq a b d (a.getD d.toNat Af.zero) 1 (l++([(0,0,0,())]:ASH))).bind λg=>some (.inl (wI (d+1),g))
 else none
 else none
 else
 some (.inr l)
def FO a b (z_:Int×ASH):=Ma a b z_.1 z_.2
def Pr a b d l:=fix (FO a b) (d,l)
theorem Atc a b:A8 yv 0 3 (code f162) 58 (Aro a b) (FO a b) (ApB a b):=by
 intro _;simp(disch:=refine id ?_;kernel_rfl) only[FO,Ma,ASm,Pq,AJ (Atb _ _ _ _) (K:=Ka yv 0 3)];kernel_rfl
def Kw(a:ASI):ATP ASH:=
 (Pr a (a.length:Int) 0 ([]:ASH)).bind λc=>some c
def AE8:=Ck [.d ATB] [⟨[.AB [] ATB],[],ASH,λp=>Kw p.1.1,λr=>(.AK 0,[Yf r])⟩]
theorem AgF:An prog 162 AE8:=Av (fn:=f162) ⟨⟨yv,pk trivial,λ_ R K=>by
 simp(disch:=refine id ?_;kernel_rfl) only[Kw,ASn,Pr,AJ (Atc _ _) (K:=A2 yv f162 0 R K)];kernel_rfl⟩,trivial⟩
abbrev Si:=eN [(160,Alb),(161,AE7),(162,AE8)] {Aw:=false,Ba:=[(1,{Be:=[0,1,2,18,19,20],mvp:=[(0,[3])]}),(9,{Be:=[0,8,9,10],RU:=[(8,false,ATH),(9,false,ATH)]})],BN:=[(1,[0,1,2]),(9,{Be:=[]})],BM:=[(6,{Be:=[0,1,2,18,19,20],mvp:=[(0,[3])]}),(10,[0,8,9,10]),(13,[0,8,9,10,11,12,61]),(15,[0,8,9,10,11,12,76]),(17,[0,8,9,10,11,12,91])],W8:=[(11,{Be:=[0,8,9,10,11,12],Xu:=true}),(17,{Be:=[0,8,9,10,13,14],Xu:=true}),(18,{Be:=[0,8,9,10,13,14],Xu:=true}),(19,{Be:=[0,8,9,10],Xu:=true})],Du:=[(6,[0,1,2,18,19,20]),(10,[0,8,9,10]),(13,[0,8,9,10,11,12]),(15,[0,8,9,10,11,12]),(17,[0,8,9,10,11,12])],Yl:=[(11,[0,8,9,10]),(17,[0,8,9,10,11,12]),(18,[0,8,9,10,13,14]),(19,[0,8,9,10,13,14])],kv:=[(17,ATM)]}
def AkR(a:Int) b c d (z_:Int×ASG×ASR×ATl×ASF):=sT 132 (xW a b c z_.1) (mA z_.2.1 d z_.2.2.1 z_.2.2.2.1 z_.2.2.2.2)
def AkO(a:Int)(b c:ASH) d:=λ(e:ATt)=>xE 2 132 [] (mA e.1 d e.2.1 e.2.2.1 e.2.2.2)
def AkQ(a:Int) b c g i d j (k:ATl) l:=sT 132 (xW a b c g) (mA i d j k l)
def AkN(a:Int) b c g (i:ASG) d (j:ASR) (k:ATl) (l:ASF):=λ(n:ATt)=>xN 132 (xW a b c g) (mA n.1 d n.2.1 n.2.2.1 n.2.2.2)
def Afn(a:Int) b c g i d j (o:ATl) l q s t u:=sT 132 (AcB a b c g) (AcC i d j o q s t u l)
def yK(a:Int) b c g i d j (o:ATl) l (q:Int) (s:Int) (t:Int) (u:Int):=λ(v:ATl)=>sT 132 (xW a b c g) (mA i d j v l)
def Eh(a:Int)(b c:ASH)(g:Int)(i:ASG)(d:ATs)(j:ASR)(o:ATl)(l:ASF)(q s t u:Int):ATP ATl:=
 if((BA Aa ATC o (t,u,())).length+([(q,s,())]:ASF).length)*16<=140737488355328 then
 bif W9 Aa ATC (Cs Aa ATC o (t,u,()) (BA Aa ATC o (t,u,()))) (t,u,()) (Yv Aa ATC o (t,u,()))then
 bif Bm Aa (t,u,()) (t,u,())then
 some (Cs Aa ATC (Cs Aa ATC o (t,u,()) (BA Aa ATC o (t,u,()))) (t,u,()) ((BA Aa ATC o (t,u,()))++([(q,s,())]:ASF)))
 else
 none
 else
 none
 else none
noncomputable def zb(a:Int)(b c:ASH)(g:Int)(i:ASG)(d:ATs)(j:ASR)(o:ATl)(l:ASF)(q s t u:Int):ATP Unit:=if((BA Aa ATC o (t,u,())).length+([(q,s,())]:ASF).length)*16<=140737488355328 then bif W9 Aa ATC (Cs Aa ATC o (t,u,()) (BA Aa ATC o (t,u,()))) (t,u,()) (Yv Aa ATC o (t,u,()))then bif Bm Aa (t,u,()) (t,u,())then DY (yK a b c g i d j o l q s t u (Cs Aa ATC (Cs Aa ATC o (t,u,()) (BA Aa ATC o (t,u,()))) (t,u,()) ((BA Aa ATC o (t,u,()))++([(q,s,())]:ASF))))else none else none else none
theorem Atl(a:Int)(b c:ASH)(g:Int)(i:ASG)(d:ATs)(j:ASR)(o:ATl)(l:ASF)(q s t u:Int):MQ Si 5 19 (sb (cd f139 60) 6) 2811 (Afn a b c g i d j o l q s t u) (Eh a b c g i d j o l q s t u) (yK a b c g i d j o l q s t u):=by
 unfold MQ;have h:re Si 5 19 (sb (cd f139 60) 6) (pt 2811) (Afn a b c g i d j o l q s t u) =
 if((BA Aa ATC o (t,u,())).length+([(q,s,())]:ASF).length)*16<=140737488355328 then bif W9 Aa ATC (Cs Aa ATC o (t,u,()) (BA Aa ATC o (t,u,()))) (t,u,()) (Yv Aa ATC o (t,u,()))then bif Bm Aa (t,u,()) (t,u,())then(((zb a b c g i d j o l q s t u).bind λ_=>zb a b c g i d j o l q s t u).bind λ_=>some (yK a b c g i d j o l q s t u (Cs Aa ATC (Cs Aa ATC o (t,u,()) (BA Aa ATC o (t,u,()))) (t,u,()) ((BA Aa ATC o (t,u,()))++([(q,s,())]:ASF)))))else none else none else none:=by kernel_rfl
 rw[h];unfold Eh;simp only[ASm,mS,mO];clear h;by_cases GM:((BA Aa ATC o (t,u,())).length+([(q,s,())]:ASF).length)*16<=140737488355328
 ·rw[AQr GM,AQr GM];cases Pk:(W9 Aa ATC (Cs Aa ATC o (t,u,()) (BA Aa ATC o (t,u,()))) (t,u,()) (Yv Aa ATC o (t,u,())))with
  |true =>
   simp only[AQp];cases oN:(Bm Aa (t,u,()) (t,u,()))with
   |true =>
    simp only[AQp];simp only[zb,AQp,AQr GM,Pk,oN,AQV,AP9,DY,DD]
   |false =>
    simp only[AQo]
    all_goals first |rfl |simp
  |false =>
   simp only[AQo]
   all_goals first |rfl |simp
 ·simp only[AQV,AQs GM]
def Afm(a:Int) b c g i d j (k:ATl) l w x y a1:=sT 132 (AcB a b c g) (AcC i d j k w x y a1 l)
def yJ(a:Int) b c g i d j (k:ATl) l w x y a1:=λ(o:ATl)=>sT 132 (AcB a b c g) (AcC i d j o w x y a1 l)
def Eg(a:Int)(b c:ASH)(g:Int)(i:ASG)(d:ATs)(j:ASR)(k:ATl)(l:ASF)(w x y a1:Int):ATP ATl:=
 if((BA Aa ATC k (w,x,())).length+([(y,a1,())]:ASF).length)*16<=140737488355328 then
 bif W9 Aa ATC (Cs Aa ATC k (w,x,()) (BA Aa ATC k (w,x,()))) (w,x,()) (Yv Aa ATC k (w,x,()))then
 bif Bm Aa (w,x,()) (w,x,())then
 some (Cs Aa ATC (Cs Aa ATC k (w,x,()) (BA Aa ATC k (w,x,()))) (w,x,()) ((BA Aa ATC k (w,x,()))++([(y,a1,())]:ASF)))
 else
 none
 else
 none
 else none
noncomputable def za(a:Int)(b c:ASH)(g:Int)(i:ASG)(d:ATs)(j:ASR)(k:ATl)(l:ASF)(w x y a1:Int):ATP Unit:=if((BA Aa ATC k (w,x,())).length+([(y,a1,())]:ASF).length)*16<=140737488355328 then bif W9 Aa ATC (Cs Aa ATC k (w,x,()) (BA Aa ATC k (w,x,()))) (w,x,()) (Yv Aa ATC k (w,x,()))then bif Bm Aa (w,x,()) (w,x,())then DY (yJ a b c g i d j k l w x y a1 (Cs Aa ATC (Cs Aa ATC k (w,x,()) (BA Aa ATC k (w,x,()))) (w,x,()) ((BA Aa ATC k (w,x,()))++([(y,a1,())]:ASF))))else none else none else none
theorem Atk(a:Int)(b c:ASH)(g:Int)(i:ASG)(d:ATs)(j:ASR)(k:ATl)(l:ASF)(w x y a1:Int):MQ Si 5 18 (sb (cd f139 60) 6) 2810 (Afm a b c g i d j k l w x y a1) (Eg a b c g i d j k l w x y a1) (yJ a b c g i d j k l w x y a1):=by
 unfold MQ;have h:re Si 5 18 (sb (cd f139 60) 6) (pt 2810) (Afm a b c g i d j k l w x y a1) =
 if((BA Aa ATC k (w,x,())).length+([(y,a1,())]:ASF).length)*16<=140737488355328 then bif W9 Aa ATC (Cs Aa ATC k (w,x,()) (BA Aa ATC k (w,x,()))) (w,x,()) (Yv Aa ATC k (w,x,()))then bif Bm Aa (w,x,()) (w,x,())then(((za a b c g i d j k l w x y a1).bind λ_=>za a b c g i d j k l w x y a1).bind λ_=>some (yJ a b c g i d j k l w x y a1 (Cs Aa ATC (Cs Aa ATC k (w,x,()) (BA Aa ATC k (w,x,()))) (w,x,()) ((BA Aa ATC k (w,x,()))++([(y,a1,())]:ASF)))))else none else none else none:=by kernel_rfl
 rw[h];unfold Eg;simp only[ASm,mS,mO];clear h;by_cases GM:((BA Aa ATC k (w,x,())).length+([(y,a1,())]:ASF).length)*16<=140737488355328
 ·rw[AQr GM,AQr GM];cases Pk:(W9 Aa ATC (Cs Aa ATC k (w,x,()) (BA Aa ATC k (w,x,()))) (w,x,()) (Yv Aa ATC k (w,x,())))with
  |true =>
   simp only[AQp];cases oN:(Bm Aa (w,x,()) (w,x,()))with
   |true =>
    simp only[AQp];simp only[za,AQp,AQr GM,Pk,oN,AQV,AP9,DY,DD]
   |false =>
    simp only[AQo]
    all_goals first |rfl |simp
  |false =>
   simp only[AQo]
   all_goals first |rfl |simp
 ·simp only[AQV,AQs GM]
def Afl(a:Int) b c g i d j (k:ATl) l b1 c1:=sT 132 (xX a b c g) [.box (.pr (Ar i) dX),CZ d,Cg j,HF k none,.Bg,.box (ED b1),.box (ED c1),FB l]
def qt(a:Int) b c g i d j (k:ATl) l (b1:ASr) (c1:ASr):=λ(d1:(Int×Int×Int×Int))=>sT 132 (AcB a b c g) (AcC i d j k d1.1 d1.2.1 d1.2.2.1 d1.2.2.2 l)
def OG(a:Int)(b c:ASH)(g:Int)(i:ASG)(d:ATs)(j:ASR)(k:ATl)(l:ASF)(b1 c1:ASr):ATP (Int×Int×Int×Int):=
 some (b1.2.1,b1.2.2.1,c1.2.1,c1.2.2.1)
theorem Atj(a:Int)(b c:ASH)(g:Int)(i:ASG)(d:ATs)(j:ASR)(k:ATl)(l:ASF)(b1 c1:ASr):MQ Si 5 17 (sb (cd f139 60) 6) 1404 (Afl a b c g i d j k l b1 c1) (OG a b c g i d j k l b1 c1) (qt a b c g i d j k l b1 c1):=by
 unfold MQ;have h:re Si 5 17 (sb (cd f139 60) 6) (pt 1404) (Afl a b c g i d j k l b1 c1) =
 (((DY (qt a b c g i d j k l b1 c1 (b1.2.1,b1.2.2.1,c1.2.1,c1.2.2.1))).bind λ_=>DY (qt a b c g i d j k l b1 c1 (b1.2.1,b1.2.2.1,c1.2.1,c1.2.2.1))).bind λ_=>some (qt a b c g i d j k l b1 c1 (b1.2.1,b1.2.2.1,c1.2.1,c1.2.2.1))):=by kernel_rfl
 rw[h];unfold OG;simp only[ASm,mS,mO];clear h;simp only[AQV,AP9,DY,DD]
def Afk(a:Int) b c g i d j (k:ATl) l:=sT 132 (xX a b c g) [.box (.pr (Ar i) dX),CZ d,Cg j,HF k none,.Bg,.box (ED (b.getD g.toNat Ae.zero)),.box (ED (c.getD g.toNat Ae.zero)),FB l]
def yI(a:Int)(b c:ASH)(g:Int)(i:ASG)(d:ATs)(j:ASR)(k:ATl)(l:ASF)(m0:Bool):Ex×St:=xN 132 [(0,.ptr 0 a [] 0),(8,Gn b),(9,Gn c),(10,dI g),(11,LS),(12,V0),(91,dB m0)] [.box (.pr (Ar i) dX),CZ d,Cg j,HF k none,.Bg,.box (ED (b.getD g.toNat Ae.zero)),.box (ED (c.getD g.toNat Ae.zero)),FB l]
theorem Ati a b c g i d j k l:Xk Si 5 17 (sb (cd f139 60) 6) (pt 350) (Afk a b c g i d j k l)=some (yI a b c g i d j k l (((b.getD g.toNat Ae.zero).1==1)&&((c.getD g.toNat Ae.zero).1==1))):=by
 refine .trans (b:=
 bif (b.getD g.toNat Ae.zero).1==1 then
 some (yI a b c g i d j k l ((c.getD g.toNat Ae.zero).1==1))
 else
 some (yI a b c g i d j k l false)) (by kernel_rfl) ?_
 cases ((b.getD g.toNat Ae.zero).1==1);rfl;rfl
def Afj(a:Int) b c g i d j (k:ATl) l:=sT 132 (xX a b c g) [.box (.pr (Ar i) dX),CZ d,Cg j,HF k none,.Bg,.box (ED (b.getD g.toNat Ae.zero)),.box (ED (c.getD g.toNat Ae.zero)),FB l]
def yH(a:Int)(b c:ASH)(g:Int)(i:ASG)(d:ATs)(j:ASR)(k:ATl)(l:ASF)(m0:Bool):Ex×St:=xN 132 [(0,.ptr 0 a [] 0),(8,Gn b),(9,Gn c),(10,dI g),(11,LS),(12,V0),(76,dB m0)] [.box (.pr (Ar i) dX),CZ d,Cg j,HF k none,.Bg,.box (ED (b.getD g.toNat Ae.zero)),.box (ED (c.getD g.toNat Ae.zero)),FB l]
theorem Ath a b c g i d j k l:Xk Si 5 15 (sb (cd f139 60) 6) (pt 86) (Afj a b c g i d j k l)=some (yH a b c g i d j k l (((b.getD g.toNat Ae.zero).1==1)&&((c.getD g.toNat Ae.zero).1==0))):=by
 refine .trans (b:=
 bif (b.getD g.toNat Ae.zero).1==1 then
 some (yH a b c g i d j k l ((c.getD g.toNat Ae.zero).1==0))
 else
 some (yH a b c g i d j k l false)) (by kernel_rfl) ?_
 cases ((b.getD g.toNat Ae.zero).1==1);rfl;rfl
def Afi(a:Int) b c g i d j (k:ATl) l:=sT 132 (xX a b c g) [.box (.pr (Ar i) dX),CZ d,Cg j,HF k none,.Bg,.box (ED (b.getD g.toNat Ae.zero)),.box (ED (c.getD g.toNat Ae.zero)),FB l]
def yG(a:Int)(b c:ASH)(g:Int)(i:ASG)(d:ATs)(j:ASR)(k:ATl)(l:ASF)(m0:Bool):Ex×St:=xN 132 [(0,.ptr 0 a [] 0),(8,Gn b),(9,Gn c),(10,dI g),(11,LS),(12,V0),(61,dB m0)] [.box (.pr (Ar i) dX),CZ d,Cg j,HF k none,.Bg,.box (ED (b.getD g.toNat Ae.zero)),.box (ED (c.getD g.toNat Ae.zero)),FB l]
theorem Atg a b c g i d j k l:Xk Si 5 13 (sb (cd f139 60) 6) (pt 20) (Afi a b c g i d j k l)=some (yG a b c g i d j k l (((b.getD g.toNat Ae.zero).1==0)&&((c.getD g.toNat Ae.zero).1==1))):=by
 refine .trans (b:=
 bif (b.getD g.toNat Ae.zero).1==0 then
 some (yG a b c g i d j k l ((c.getD g.toNat Ae.zero).1==1))
 else
 some (yG a b c g i d j k l false)) (by kernel_rfl) ?_
 cases ((b.getD g.toNat Ae.zero).1==0);rfl;rfl
def Afh(a:Int) b c g i d j (k:ATl) l:=sT 132 (xW a b c g) (mA i d j k l)
def yF(a:Int) b c g i d j (k:ATl) l:=λ(e1:Unit)=>sT 132 (xX a b c g) [.box (.pr (Ar i) dX),CZ d,Cg j,HF k none,.Bg,.box (ED (b.getD g.toNat Ae.zero)),.box (ED (c.getD g.toNat Ae.zero)),FB l]
def Jj(a:Int)(b c:ASH)(g:Int)(i:ASG)(d:ATs)(j:ASR)(k:ATl)(l:ASF):ATP Unit:=
 if 0<=g/\g<b.length then
 if 0<=g/\g<c.length then
 some ()
 else none
 else none
noncomputable def Gv(a:Int)(b c:ASH)(g:Int)(i:ASG)(d:ATs)(j:ASR)(k:ATl)(l:ASF):ATP Unit:=DY (yF a b c g i d j k l ())
def Tp(w:ATP Unit):ATP Unit:=cc w w
theorem Atf(a:Int)(b c:ASH)(g:Int)(i:ASG)(d:ATs)(j:ASR)(k:ATl)(l:ASF):MQ Si 5 11 (sb (cd f139 60) 6) 4 (Afh a b c g i d j k l) (Jj a b c g i d j k l) (yF a b c g i d j k l):=by
 unfold MQ;have h:re Si 5 11 (sb (cd f139 60) 6) (pt 4) (Afh a b c g i d j k l) =
 if 0<=g/\g<b.length then if 0<=g/\g<c.length then((if 0<=g/\g<b.length then if 0<=g/\g<c.length then((Tp (Gv a b c g i d j k l)).bind λ_=>((Gv a b c g i d j k l).bind λ_=>(Gv a b c g i d j k l).bind λ_=>(Gv a b c g i d j k l)).bind λ_=>(Gv a b c g i d j k l).bind λ_=>(Gv a b c g i d j k l).bind λ_=>(Gv a b c g i d j k l)).bind λ_=>((Tp (Gv a b c g i d j k l)).bind λ_=>(Tp (Gv a b c g i d j k l)).bind λ_=>(Gv a b c g i d j k l).bind λ_=>(Gv a b c g i d j k l)).bind λ_=>(((Gv a b c g i d j k l).bind λ_=>(Gv a b c g i d j k l).bind λ_=>(Gv a b c g i d j k l)).bind λ_=>(Tp (Gv a b c g i d j k l)).bind λ_=>(Tp (Gv a b c g i d j k l)).bind λ_=>(Gv a b c g i d j k l)).bind λ_=>((Gv a b c g i d j k l).bind λ_=>(Gv a b c g i d j k l).bind λ_=>(Gv a b c g i d j k l)).bind λ_=>(Tp (Gv a b c g i d j k l)).bind λ_=>(Tp (Gv a b c g i d j k l)).bind λ_=>(Gv a b c g i d j k l)else none else none).bind λ_=>some (yF a b c g i d j k l ()))else none else none:=by kernel_rfl
 rw[h];unfold Jj;simp only[ASm,mS,mO];clear h;by_cases GM:(0:Int)<=g/\g<(b.length:Int)
 ·rw[AQr GM,AQr GM];by_cases Pk:(0:Int)<=g/\g<(c.length:Int)
  ·rw[AQr Pk,AQr Pk];simp only[Tp,cc,Gv,AQp,AQr GM,AQr Pk,AQV,AP9,DY,DD]
  ·simp only[AQr GM,AQV,AQs Pk]
 ·simp only[AQV,AQs GM]
def Ft(a:Int)(b c:ASH)(g:Int)(i:ASG)(d:ATs)(j:ASR)(k:ATl)(l:ASF):ATP ATt:=
 (Jj a b c g i d j k l).bind λe1=>OQ (Afi a b c g i d j k l) (
 bif ((b.getD g.toNat Ae.zero).1==0)&&((c.getD g.toNat Ae.zero).1==1)then
 (BQ a (c.getD g.toNat Ae.zero).2.1 (c.getD g.toNat Ae.zero).2.2.1 i j l).bind λg1=>some (g1.1,g1.2.1,k,g1.2.2)
 else
 OQ (Afj a b c g i d j k l) (
 bif ((b.getD g.toNat Ae.zero).1==1)&&((c.getD g.toNat Ae.zero).1==0)then
 (BQ a (b.getD g.toNat Ae.zero).2.1 (b.getD g.toNat Ae.zero).2.2.1 i j l).bind λi1=>some (i1.1,i1.2.1,k,i1.2.2)
 else
 OQ (Afk a b c g i d j k l) (
 bif ((b.getD g.toNat Ae.zero).1==1)&&((c.getD g.toNat Ae.zero).1==1)then
 (OG a b c g i d j k l (b.getD g.toNat Ae.zero) (c.getD g.toNat Ae.zero)).bind λd1=>(Eg a b c g i d j k l d1.1 d1.2.1 d1.2.2.1 d1.2.2.2).bind λo=>(Eh a b c g i d j o l d1.1 d1.2.1 d1.2.2.1 d1.2.2.2).bind λv=>some (i,j,v,l)
 else
 some (i,j,k,l))))
theorem AkS a b c g i d j k l:AX Si 5 10 (cd f139 60) 6 (AkQ a b c g i d j k l) (Ft a b c g i d j k l) (AkN a b c g i d j k l):=by
 unfold AX;simp(disch:=refine id ?_;kernel_rfl) only[Ft,ASm,Tv (Atf ..) (K:=Ui Si 5 10),Ey (Atg ..) (K:=Ui Si 5 10),Ey (Ath ..) (K:=Ui Si 5 10),Ey (Ati ..) (K:=Ui Si 5 10),Tv (Atj ..) (K:=Ui Si 5 10),Tv (Atk ..) (K:=Ui Si 5 10),Tv (Atl ..) (K:=Ui Si 5 10)];kernel_rfl
def GA(a:Int)(b c:ASH)(d:ATs)(g:Int)(i:ASG)(j:ASR)(k:ATl)(l:ASF):ATP ((Int×ASG×ASR×ATl×ASF)⊕ATt):=
 bif decide (g<(b.length:Int))then
 (Ft a b c g i d j k l).bind λn=>some (.inl (wI (g+1),n.1,n.2.1,n.2.2.1,n.2.2.2))
 else
 some (.inr (i,j,k,l))
def C6 a b c d (z_:Int×ASG×ASR×ATl×ASF):=GA a b c d z_.1 z_.2.1 z_.2.2.1 z_.2.2.2.1 z_.2.2.2.2
def M1 a b c d g i j k l:=fix (C6 a b c d) (g,i,j,k,l)
theorem AkT a b c d:A8 Si 5 9 (code f139) 30 (AkR a b c d) (C6 a b c d) (AkO a b c d):=by
 intro _;simp(disch:=refine id ?_;kernel_rfl) only[C6,GA,ASm,Bf (AkS ..) (K:=Ka Si 5 9)];kernel_rfl
def Arq(a:Int) j1 k1 d (l1:ATl) n1 o1 (z_:Int×ASG×ASR×ASF):=sT 132 (Akd a j1 k1 o1 z_.1) (Ake z_.2.1 d z_.2.2.1 l1 n1 z_.2.2.2)
def ApD(a:Int) j1 k1 d (l1:ATl) (n1:ASI) (o1:Int):=λ(q1:AS3)=>xE 0 132 [(0,.ptr 0 a [] 0),(1,.AB [1] ATB j1),(2,.AB [1] ATB k1)] (mA q1.1 d q1.2.1 l1 q1.2.2)
def Arp(a:Int) j1 k1 o1 s1 t1 d u1 (l1:ATl) n1 v1:=sT 132 (Akd a j1 k1 o1 s1) (Ake t1 d u1 l1 n1 v1)
def ApC(a:Int) j1 k1 o1 s1 (t1:ASG) d (u1:ASR) (l1:ATl) n1 (v1:ASF):=λ(w1:AS3)=>xN 132 (Akd a j1 k1 o1 s1) (Ake w1.1 d w1.2.1 l1 n1 w1.2.2)
def Gr(a:Int)(j1 k1:ASI)(o1 s1:Int)(t1:ASG)(d:ATs)(u1:ASR)(l1:ATl)(n1:ASI)(v1:ASF):ATP AS3:=
 if 0<=s1/\s1<n1.length then
 bif decide ((n1.getD s1.toNat Af.zero).1>=0)then
 (BQ a (n1.getD s1.toNat Af.zero).1 (n1.getD s1.toNat Af.zero).2.1 t1 u1 v1).bind λx1=>(BQ a (n1.getD s1.toNat Af.zero).1 (wI ((n1.getD s1.toNat Af.zero).2.1+(n1.getD s1.toNat Af.zero).2.2.1)) x1.1 x1.2.1 x1.2.2).bind λy1=>some (y1.1,y1.2.1,y1.2.2)
 else
 some (t1,u1,v1)
 else none
theorem Atd a j1 k1 o1 s1 t1 d u1 l1 n1 v1:AX Si 5 6 (cd f139 20) 14 (Arp a j1 k1 o1 s1 t1 d u1 l1 n1 v1) (Gr a j1 k1 o1 s1 t1 d u1 l1 n1 v1) (ApC a j1 k1 o1 s1 t1 d u1 l1 n1 v1):=by
 unfold AX;simp only[Gr,ASm];kernel_rfl
def HK(a:Int)(j1 k1:ASI)(d:ATs)(l1:ATl)(n1:ASI)(o1 s1:Int)(t1:ASG)(u1:ASR)(v1:ASF):ATP (ATh⊕AS3):=
 bif decide (s1<o1)then
 (Gr a j1 k1 o1 s1 t1 d u1 l1 n1 v1).bind λw1=>some (.inl (wI (s1+1),w1.1,w1.2.1,w1.2.2))
 else
 some (.inr (t1,u1,v1))
def Dj a j1 k1 d l1 n1 o1 (z_:Int×ASG×ASR×ASF):=HK a j1 k1 d l1 n1 o1 z_.1 z_.2.1 z_.2.2.1 z_.2.2.2
def OE a j1 k1 d l1 n1 o1 s1 t1 u1 v1:=fix (Dj a j1 k1 d l1 n1 o1) (s1,t1,u1,v1)
theorem Ate a j1 k1 d l1 n1 o1:A8 Si 5 1 (code f139) 10 (Arq a j1 k1 d l1 n1 o1) (Dj a j1 k1 d l1 n1 o1) (ApD a j1 k1 d l1 n1 o1):=by
 intro _;simp(disch:=refine id ?_;kernel_rfl) only[Dj,HK,ASm,Bf (Atd ..) (K:=Ka Si 5 1)];kernel_rfl
def JE(a:Int)(j1 k1:ASI)(a2:ASG)(d:ATs)(b2:ASR)(l1:ATl)(c2:ASF):ATP (ASG×ATs×ASR×ATl×ASF):=
 (IK ([j1,k1]:AST)).bind λn1=>(OE a j1 k1 d l1 n1 (n1.length:Int) 0 a2 b2 c2).bind λq1=>(Kw j1).bind λb=>(Kw k1).bind λc=>(M1 a b c d 1 q1.1 q1.2.1 l1 q1.2.2).bind λe=>some (e.1,d,e.2.1,e.2.2.1,e.2.2.2)
def AEQ:=Ck [.VE,.VE,.VE] [⟨[.ptr 0 [] 0,.AB [1] ATB,.AB [1] ATB],[.box (.pr (.AB [] ATE) (.pr (.k V5) (.pr (.k (.mp 3)) (.pr (.k UH) (.k .u))))),.row 222 .Aw (.AG ATB (.AG ATB .unit)),.row 154 .Aw ATF,.map .Aw Aa ATC,.row 225 .Aw Aa],ASG×ATs×ASR×ATl×ASF,λp=>JE p.1.1 p.1.2.1 p.1.2.2.1 p.2.1.1 p.2.2.1 p.2.2.2.1 p.2.2.2.2.1 p.2.2.2.2.2.1,λr=>(.nil,[.box (.pr (Ar r.1) AoM),CZ r.2.1,Cg r.2.2.1,HF r.2.2.2.1 none,.Bg,FB r.2.2.2.2])⟩]
theorem Agn:An prog 139 AEQ:=Av (fn:=f139) ⟨⟨Si,pk ⟨jK,AgE,AgF,trivial⟩,λ_ R K=>by
 simp(disch:=refine id ?_;kernel_rfl) only[JE,ASn,OE,AJ (Ate _ _ _ _ _ _ _) (K:=A2 Si f139 5 R K),M1,AJ (AkT _ _ _ _) (K:=A2 Si f139 5 R K)];kernel_rfl⟩,trivial⟩
abbrev cm:=eN [(160,Alb)] {take:=[37],Ba:=[(1,{Be:=[0,2],mvp:=[(0,[3])]}),(6,[0,2,45,46,47]),(12,[2,7,68,69,70]),(15,[2,7,8,68,69,70,75,76,77])],BN:=[(1,[0,2]),(6,[0,2]),(12,[2,7]),(15,[2,7,68,69,70])],BM:=[(19,[2,7,8,68,69,70,75,76,77])],W8:=[(18,{Be:=[2,7,8,68,69,70,75,76,77],Xu:=true})],Du:=[(19,[2,7,8,68,69,70,75,76,77])],Yl:=[(18,[2,7,8,10,68,69,70,75,76,77])],stl:=[90]}
def Arv(a:ATl) b c d e (z_:Int×ASQ):=sT 98 [(2,Ns),(7,LS),(68,.AK 1),(69,dI b),(70,dI z_.1)] (mF c d a e z_.2)
def ApI(a:ATl)(b:Int) c d e:=λ(g:ASQ)=>xE 4 98 [(2,Ns),(7,LS)] (mF c d a e g)
def Aru i b c d (a:ATl) e j k (z_:Int×ASQ):=sT 98 (AcD i b i j k z_.1) (mF c d a e z_.2)
def ApH i b c d (a:ATl) e (j:ASD) (k:Int):=λ(l:ASQ)=>xE 6 98 [(2,Ns),(7,LS),(68,.AK 1),(69,dI b),(70,dI i)] (mF c d a e l)
def Art i b j k n c d (a:ATl) e o:=sT 98 (AcD i b i j k n) (mF c d a e o)
def ApG i b j k n c d (a:ATl) e (o:ASQ):=λ(q:ASQ)=>xN 98 (AcD i b i j k n) (mF c d a e q)
def Afo i n b j k c d (a:ATl) e o:=sT 98 [(2,Ns),(7,LS),(8,dI i),(10,dI n),(68,.AK 1),(69,dI b),(70,dI i),(75,.AB [1] ATF j),(76,dI k),(77,dI n)] (mF c d a e o)
def qu i n b j k c d (a:ATl) e (o:ASQ):=λ(s:Unit)=>sT 98 (AcD i b i j k n) [.box (.pr (Ar c) AoL),Cg d,HF a none,.Bg,.box V4,.box AaR,FB e,Dt (o.set i.toNat ((o.getD i.toNat ATD.zero)++([n]:ASC)))]
def Iu(i n b:Int)(j:ASD)(k:Int)(c:ASG)(d:ASR)(a:ATl)(e:ASF)(o:ASQ):ATP Unit:=
 if 0<=i/\i<o.length then
 if((o.getD i.toNat ATD.zero).length+([n]:ASC).length)*8<=140737488355328 then
 if 0<=i/\i<o.length then
 if i=i then
 some ()
 else none
 else none
 else none
 else none
theorem Ato(i n b:Int)(j:ASD)(k:Int)(c:ASG)(d:ASR)(a:ATl)(e:ASF)(o:ASQ):MQ cm 4 18 (sb (sb (cd f140 244) 460) 14) 22 (Afo i n b j k c d a e o) (Iu i n b j k c d a e o) (qu i n b j k c d a e o):=by
 unfold MQ;have h:re cm 4 18 (sb (sb (cd f140 244) 460) 14) (pt 22) (Afo i n b j k c d a e o) =
 if 0<=i/\i<o.length then
 if((o.getD i.toNat ATD.zero).length+([n]:ASC).length)*8<=140737488355328 then
 if 0<=i/\i<o.length then
 if i=i then
 ((if 0<=i/\i<o.length then
 (if((o.getD i.toNat ATD.zero).length+([n]:ASC).length)*8<=140737488355328 then
 if 0<=i/\i<o.length then
 if i=i then
 DY (qu i n b j k c d a e o ())
 else none
 else none
 else none).bind λ_=>if((o.getD i.toNat ATD.zero).length+([n]:ASC).length)*8<=140737488355328 then
 if 0<=i/\i<o.length then
 if i=i then
 DY (qu i n b j k c d a e o ())
 else none
 else none
 else none
 else none).bind λ_=>some (qu i n b j k c d a e o ()))
 else none
 else none
 else none
 else none:=by kernel_rfl
 rw[h];unfold Iu;simp only[ASm,mS,mO];clear h;by_cases GM:(0:Int)<=i/\i<(o.length:Int)
 ·rw[AQr GM,AQr GM];by_cases Pk:((o.getD i.toNat ATD.zero).length+([n]:ASC).length)*8<=140737488355328
  ·rw[AQr Pk,AQr Pk];simp only[AQr GM,AQr Pk,AQV,AP9,DY,DD]
  ·simp only[AQr GM,AQV,AQs Pk]
 ·simp only[AQV,AQs GM]
def Fs(i b:Int)(j:ASD)(k n:Int)(c:ASG)(d:ASR)(a:ATl)(e:ASF)(o:ASQ):ATP ASQ:=
 if 0<=n/\n<j.length then
 bif j.getD n.toNat (Ty.zero .bool)then
 (Iu i n b j k c d a e o).bind λs=>some (o.set i.toNat ((o.getD i.toNat ATD.zero)++([n]:ASC)))
 else
 some o
 else none
theorem Atp i b j k n c d a e o:AX cm 4 19 (sb (cd f140 244) 460) 14 (Art i b j k n c d a e o) (Fs i b j k n c d a e o) (ApG i b j k n c d a e o):=by
 unfold AX;simp(disch:=refine id ?_;kernel_rfl) only[Fs,ASm,Tv (Ato ..) (K:=Ui cm 4 19)];kernel_rfl
def Gy(i b:Int)(c:ASG)(d:ASR)(a:ATl)(e:ASF)(j:ASD)(k n:Int)(o:ASQ):ATP ((Int×ASQ)⊕ASQ):=
 bif decide (n<k)then
 (Fs i b j k n c d a e o).bind λq=>some (.inl (wI (n+1),q))
 else
 some (.inr o)
def C4 i b c d a e j k (z_:Int×ASQ):=Gy i b c d a e j k z_.1 z_.2
def MZ i b c d a e j k n o:=fix (C4 i b c d a e j k) (n,o)
theorem Atq i b c d a e j k:A8 cm 4 15 (cd f140 244) 230 (Aru i b c d a e j k) (C4 i b c d a e j k) (ApH i b c d a e j k):=by
 intro _;simp(disch:=refine id ?_;kernel_rfl) only[C4,Gy,ASm,Bf (Atp ..) (K:=Ka cm 4 15)];kernel_rfl
def Gz(a:ATl)(b:Int)(c:ASG)(d:ASR)(e:ASF)(i:Int)(t:ASQ):ATP ((Int×ASQ)⊕ASQ):=
 bif decide (i<b)then
 if 0<=i/\i<d.length then
 (MZ i b c d a e (d.getD i.toNat ATF.zero) ((d.getD i.toNat ATF.zero).length:Int) 0 t).bind λl=>some (.inl (wI (i+1),l))
 else none
 else
 some (.inr t)
def C5 a b c d e (z_:Int×ASQ):=Gz a b c d e z_.1 z_.2
def M0 a b c d e i t:=fix (C5 a b c d e) (i,t)
theorem Atr a b c d e:A8 cm 4 12 (code f140) 122 (Arv a b c d e) (C5 a b c d e) (ApI a b c d e):=by
 intro _;simp(disch:=refine id ?_;kernel_rfl) only[C5,Gz,ASm,MZ,AJ (Atq _ _ _ _ _ _ _ _) (K:=Ka cm 4 12)];kernel_rfl
def Ars(u:Int)(a:ATl)(z_:ASG×ASR×ASF):=sT 98 [(0,.ptr 0 u [] 0),(2,Ns)] (AcE z_.1 z_.2.1 a z_.2.2)
def ApF(u:Int)(a:ATl):=λ(v:AS3)=>xE 0 98 [(0,.ptr 0 u [] 0),(2,Ns)] (AcE v.1 v.2.1 a v.2.2)
def Arr(u:Int)(a:ATl) w x (z_:Int×ASG×ASR×ASF):=sT 98 [(0,.ptr 0 u [] 0),(2,Ns),(45,.AB [2] ATC w),(46,dI x),(47,dI z_.1)] (AcE z_.2.1 z_.2.2.1 a z_.2.2.2)
def ApE(u:Int)(a:ATl)(w:ASF)(x:Int):=λ(y:AS3)=>xE 2 98 [(0,.ptr 0 u [] 0),(2,Ns)] (AcE y.1 y.2.1 a y.2.2)
def Gw(u:Int)(a:ATl)(w:ASF)(x a1:Int)(b1:ASG)(c1:ASR)(d1:ASF):ATP (ATh⊕AS3):=
 bif decide (a1<x)then
 if 0<=a1/\a1<w.length then
 (BQ u (w.getD a1.toNat Aa.zero).1 (w.getD a1.toNat Aa.zero).2.1 b1 c1 d1).bind λe1=>some (.inl (wI (a1+1),e1.1,e1.2.1,e1.2.2))
 else none
 else
 some (.inr (b1,c1,d1))
def C3 u a w x (z_:Int×ASG×ASR×ASF):=Gw u a w x z_.1 z_.2.1 z_.2.2.1 z_.2.2.2
def Is u a w x a1 b1 c1 d1:=fix (C3 u a w x) (a1,b1,c1,d1)
theorem Atm u a w x:A8 cm 4 6 (cd f140 24) 222 (Arr u a w x) (C3 u a w x) (ApE u a w x):=by
 intro _;simp only[C3,Gw,ASm];kernel_rfl
def Km(u:Int)(a:ATl)(g1:ASG)(i1:ASR)(j1:ASF):ATP (AS3⊕AS3):=
 bif decide ((j1.length:Int)>0)then
 if 0<=(wI ((j1.length:Int)-1))/\(wI ((j1.length:Int)-1))<j1.length then
 if(0:Int)<=(wI ((j1.length:Int)-1))/\(wI ((j1.length:Int)-1))<=(j1.length:Int)then
 (Is u a (BA Aa ATC a (j1.getD (wI ((j1.length:Int)-1)).toNat Aa.zero)) ((BA Aa ATC a (j1.getD (wI ((j1.length:Int)-1)).toNat Aa.zero)).length:Int) 0 g1 i1 (j1.take (wI ((j1.length:Int)-1)).toNat)).bind λy=>some (.inl (y.1,y.2.1,y.2.2))
 else none
 else none
 else
 some (.inr (g1,i1,j1))
def Gx u a (z_:ASG×ASR×ASF):=Km u a z_.1 z_.2.1 z_.2.2
def MY u a g1 i1 j1:=fix (Gx u a) (g1,i1,j1)
theorem Atn u a:A8 cm 4 1 (code f140) 12 (Ars u a) (Gx u a) (ApF u a):=by
 intro _;simp(disch:=refine id ?_;kernel_rfl) only[Gx,Km,ASm,Is,AJ (Atm _ _ _ _) (K:=Ka cm 4 1)];kernel_rfl
def L1(u:Int)(k1:ASG)(l1:ASR)(a:ATl)(n1:ASF):ATP (ASG×ASR×ATl×ASQ×ASF):=
 (MY u a k1 l1 n1).bind λv=>if Ty.row ATD=true/\(0:Int)<=(v.1.length:Int)/\(v.1.length:Int)<=(v.1.length:Int)/\((24:Nat):Int)*(v.1.length:Int)<=(281474976710656:Int)/\(v.1.length:Int)<=(9223372036854775807:Int)then
 (M0 a (v.2.1.length:Int) v.1 v.2.1 v.2.2 0 (List.replicate (v.1.length:Int).toNat ([]:ASC))).bind λg=>some (v.1,v.2.1,a,g,v.2.2)
 else none
def AER:=Ck [.VE] [⟨[.ptr 0 [] 0],[.box (.pr (.AB [] ATE) (.pr (.k I2) (.pr (.k (.mp 2)) (.pr (.k (.AK 3)) (.k .u))))),.row 154 .Aw ATF,.map .Aw Aa ATC,.row 225 .Aw Aa],ASG×ASR×ATl×ASQ×ASF,λp=>L1 p.1.1 p.2.1.1 p.2.2.1 p.2.2.2.1 p.2.2.2.2.1,λr=>(.pr UH .u,[.box (.pr (Ar r.1) AoP),Cg r.2.1,HF r.2.2.1 none,.Bg,Dt r.2.2.2.1,FB r.2.2.2.2])⟩]
theorem Ago:An prog 140 AER:=Av (fn:=f140) ⟨⟨cm,pk ⟨jK,trivial⟩,λ_ R K=>by
 simp(disch:=refine id ?_;kernel_rfl) only[L1,ASn,MY,AJ (Atn _ _) (K:=A2 cm f140 4 R K),M0,AJ (Atr _ _ _ _ _) (K:=A2 cm f140 4 R K)];kernel_rfl⟩,trivial⟩
end
end Go.Proofs.X
