import Derived.KernelRfl
import Derived.Test.YtoinnpeenpmgkaaGreatK4
set_option linter.unusedVariables false
set_option linter.unusedSimpArgs false
namespace Go.Proofs.X
open Go Go.Va Go.Proofs.Tryz
set_option maxRecDepth 100000
noncomputable section
abbrev E80:=eN [] {A5:=[(2,[0,1,7,8])],BB:=[(2,[4])]}
def ABy a b c (z_:Int):=sT 19 [(0,aL a),(1,dB b),(7,dI c),(8,dI z_)] []
def Azo(a:ASI)(b:Bool)(c:Int):=Sum.elim (λ(d:Int)=>xR 19 [(4,dI d)] []) (λ(e:Unit)=>xE 0 19 [] [])
def GZ(a:ASI)(b:Bool)(c g:Int):ATV (Int⊕(Int⊕Unit)):=
 bif decide (g<c)then
 if 0<=g/\g<a.length then
 bif b==(a.getD g.toNat (Ty.zero .bool))then
 some (.inr (.inl g))
 else
 some (.inl (wI (g+1)))
 else none
 else
 some (.inr (.inr ()))
def D9 a b c (z_:Int):=GZ a b c z_
def Ub a b c g:=fix (D9 a b c) g
theorem AD8 a b c:A3 E80 0 2 (code f191) 26 (ABy a b c) (D9 a b c) (Azo a b c):=by
 intro _;simp only[D9,GZ,ASr];kernel_rfl
def RD(a:ASI)(b:Bool):ATV Int:=
 (Ub a b (a.length:Int) 0).bind (Sum.elim (λd=>some d) (λe=>some (-1)))
def AFK:=Ci [.d ATM,.d .bool] [⟨[.AB [] ATM,.AB [] .bool],[],Int,λp=>RD p.1.1 p.1.2.1,λr=>(dI r,[])⟩]
theorem AgC:Ao prog 191 AFK:=Av (fn:=f191) ⟨⟨E80,pk trivial,λ_ R K=>by
 simp(disch:=refine id ?_;kernel_rfl) only[RD,ASs,Ub,AF (AD8 _ _ _) (K:=A0 E80 f191 0 R K)];kernel_rfl⟩,trivial⟩
abbrev E81:=eN [(191,AFK)] {}
def IY(a:ASI)(b:Bool):ATV Bool:=
 (RD a b).bind λc=>some (decide (c>=0))
def AFA:=Ci [.d ATM,.d .bool] [⟨[.AB [] ATM,.AB [] .bool],[],Bool,λp=>IY p.1.1 p.1.2.1,λr=>(dB r,[])⟩]
theorem Ags:Ao prog 176 AFA:=Av (fn:=f176) ⟨⟨E81,pk ⟨AgC,trivial⟩,λ_ R K=>by
 simp only[IY,ASs];kernel_rfl⟩,trivial⟩
abbrev E82:=eN [(118,yZ),(174,AFy),(175,AFz),(176,AFA)] {A5:=[(6,[0,3,6,7,8,29,30]),(13,[0,3,6,7,8,9,10,11,29,30,52,53,54])],BB:=[(6,{A7:=[4,5,6,7,8],O4:=[(8,false,ATM)]}),(13,{A7:=[0,3,4,5,6,7,8,9,10,11,29,30],O4:=[(11,false,ATJ)]})],Bw:=[(3,[0,3,6,22]),(21,[0,3,6,7,8,29,30,92])],YH:=[(4,{A7:=[0,3,6,7,8],ZJ:=true})],Da:=[(3,[0,3,6]),(21,[0,3,6,7,8,9,10,29,30])],Zm:=[(4,[0,3,6])],gk:=[(0,.row [] 2 ATE true)]}
def ABB a b c d (z_:Int×ASH×ASI):=sT 101 [(0,Ar a),(3,Aq),(6,dI c),(7,.AG 1),(8,.AG 2),(29,dI d),(30,dI z_.1)] (tF b z_.2.1 z_.2.2)
def Azr(a:ASL)(b:ASD) c (d:Int):=Sum.elim (λ(e:ATb)=>xR 101 [(4,.zs),(5,dB false),(6,dI c),(7,.AG 0),(8,aL e.1)] [Ay e.2]) (λ(g:ATb)=>xE 0 101 [(6,dI c),(7,.AG 0),(8,aL g.1)] [Ay g.2])
def ABA a c i d b j k l:=sT 101 [(0,Ar a),(3,Aq),(6,dI c),(7,.AG 1),(8,.AG 2),(9,dI i),(10,.FZ [] Ah j),(29,dI d),(30,dI i)] (tF b k l)
def Azq a c i d b (j:ASz) k l:=λ(n:Bool)=>xN 101 [(0,Ar a),(3,Aq),(6,dI c),(7,.AG 1),(8,.AG 2),(29,dI d),(30,dI i),(92,dB n)] (tF b k l)
def Rn(a:ASL)(c i d:Int)(b:ASD)(j:ASz)(k:ASH)(l:ASI):ATV Bool:=
 bif !(EK j)then
 some true
 else
 if 0<=i/\i<k.length then
 some (!(AW (k.getD i.toNat ATE.zero) 1 4096))
 else none
theorem AEc a c i d b j k l:AQ E82 0 21 (cd f153 500) 3710 (ABA a c i d b j k l) (Rn a c i d b j k l) (Azq a c i d b j k l):=by
 unfold AQ;simp only[Rn,ASr];kernel_rfl
def ABz a c i d b o q s t (z_:Int×ASI×ASH):=sT 101 [(0,Ar a),(3,Aq),(6,dI c),(7,.AG 1),(8,.AG 2),(9,dI i),(10,.FZ [] Ah q),(11,.AG 3),(29,dI d),(30,dI i),(52,BJ s),(53,dI t),(54,dI z_.1)] [.box (G0 b),Ay o,Il z_.2.1,Ay z_.2.2]
def Azp a c i d b o q (s:ASH) (t:Int):=Sum.elim (λ(u:(ASH×ASI))=>xR 101 [(0,Ar a),(3,Aq),(4,.zs),(5,dB false),(6,dI c),(7,.AG 1),(8,.AG 2),(9,dI i),(10,.FZ [] Ah q),(11,BJ u.1),(29,dI d),(30,dI i)] (tF b o u.2)) (λ(v:(ASH×ASI))=>xE 2 101 [(0,Ar a),(3,Aq),(6,dI c),(7,.AG 1),(8,.AG 2),(9,dI i),(10,.FZ [] Ah q),(11,BJ v.1),(29,dI d),(30,dI i)] (tF b o v.2))
def N0(a:ASL)(c i d:Int)(b:ASD)(o:ASH)(q:ASz)(s:ASH)(t w:Int)(x:ASI)(y:ASH):ATV ((Int×ASI×ASH)⊕((ASH×ASI)⊕(ASH×ASI))):=
 bif decide (w<t)then
 if 0<=w/\w<s.length then
 bif !(AW (s.getD w.toNat ATE.zero) 0 (wI (i-1)))then
 some (.inr (.inl (y,x)))
 else
 if(0:Int)<=(s.getD w.toNat ATE.zero)/\(s.getD w.toNat ATE.zero)<(o.length:Int)then
 if(0:Int)<=(s.getD w.toNat ATE.zero)/\(s.getD w.toNat ATE.zero)<(x.length:Int)then
 if 0<=w/\w<y.length then
 some (.inl (wI (w+1),x.set (s.getD w.toNat ATE.zero).toNat true,y.set w.toNat (o.getD (s.getD w.toNat ATE.zero).toNat ATE.zero)))
 else none
 else none
 else none
 else none
 else
 some (.inr (.inr (y,x)))
def Ha a c i d b o q s t (z_:Int×ASI×ASH):=N0 a c i d b o q s t z_.1 z_.2.1 z_.2.2
def Rm a c i d b o q s t w x y:=fix (Ha a c i d b o q s t) (w,x,y)
theorem AEb a c i d b o q s t:A3 E82 0 13 (cd f153 500) 3706 (ABz a c i d b o q s t) (Ha a c i d b o q s t) (Azp a c i d b o q s t):=by
 intro _;simp only[Ha,N0,ASr];kernel_rfl
def N3(a:ASL)(b:ASD)(c d i:Int)(o:ASH)(a1:ASI):ATV ((Int×ASH×ASI)⊕(ATb⊕ATb)):=
 bif decide (i<d)then
 if 0<=i/\i<b.1.length then
 bif decide (((b.1.getD i.toNat Ah.zero).2.2.2.2.2.1.length:Int)>4096)then
 some (.inr (.inl (a1,o)))
 else
 if Ty.row ATE=true/\(0:Int)<=((b.1.getD i.toNat Ah.zero).2.2.2.2.2.1.length:Int)/\((b.1.getD i.toNat Ah.zero).2.2.2.2.2.1.length:Int)<=((b.1.getD i.toNat Ah.zero).2.2.2.2.2.1.length:Int)/\((8:Nat):Int)*((b.1.getD i.toNat Ah.zero).2.2.2.2.2.1.length:Int)<=(281474976710656:Int)/\((b.1.getD i.toNat Ah.zero).2.2.2.2.2.1.length:Int)<=(9223372036854775807:Int)then
 (Rm a c i d b o (b.1.getD i.toNat Ah.zero) (b.1.getD i.toNat Ah.zero).2.2.2.2.2.1 ((b.1.getD i.toNat Ah.zero).2.2.2.2.2.1.length:Int) 0 a1 (List.replicate ((b.1.getD i.toNat Ah.zero).2.2.2.2.2.1.length:Int).toNat 0)).bind (Sum.elim (λu=>some (.inr (.inl (u.2,o)))) (λv=>(G6 (b.1.getD i.toNat Ah.zero) a v.1).bind λb1=>if 0<=i/\i<o.length then
 (Rn a c i d b (b.1.getD i.toNat Ah.zero) (o.set i.toNat b1) v.2).bind λn=>bif n then
 some (.inr (.inl (v.2,o.set i.toNat b1)))
 else
 some (.inl (wI (i+1),o.set i.toNat b1,v.2))
 else none))
 else none
 else none
 else
 some (.inr (.inr (a1,o)))
def Hb a b c d (z_:Int×ASH×ASI):=N3 a b c d z_.1 z_.2.1 z_.2.2
def VN a b c d i o a1:=fix (Hb a b c d) (i,o,a1)
theorem AEd a b c d:A3 E82 0 6 (code f153) 250 (ABB a b c d) (Hb a b c d) (Azr a b c d):=by
 intro _;simp(disch:=refine id ?_;kernel_rfl) only[Hb,N3,ASr,Rm,AF (AEb _ _ _ _ _ _ _ _ _) (K:=JG E82 0 6),Ba (AEc ..) (K:=JG E82 0 6)];kernel_rfl
def Ant a b c1:=sT 101 [(0,Ar a),(3,Aq),(6,dI c1)] [.box (G0 b)]
def AaD a b c1:=λ(d1:(ASH×ASI))=>sT 101 [(0,Ar a),(3,Aq),(6,dI c1),(7,.AG 1),(8,.AG 2)] (tF b d1.1 d1.2)
def M9(a:ASL)(b:ASD)(c1:Int):ATV (ASH×ASI):=
 if Ty.row ATE=true/\(0:Int)<=c1/\c1<=c1/\((8:Nat):Int)*c1<=(281474976710656:Int)/\c1<=(9223372036854775807:Int)then
 if Ty.row .bool=true/\(0:Int)<=c1/\c1<=c1/\((1:Nat):Int)*c1<=(281474976710656:Int)/\c1<=(9223372036854775807:Int)then
 some (List.replicate c1.toNat 0,List.replicate c1.toNat false)
 else none
 else none
theorem AEa(a:ASL)(b:ASD)(c1:Int):Qf E82 0 4 (code f153) 30 (Ant a b c1) (M9 a b c1) (AaD a b c1):=by
 unfold Qf;have h:u0 E82 0 4 (code f153) (pt 30) (Ant a b c1) =
 if Ty.row ATE=true/\(0:Int)<=c1/\c1<=c1/\((8:Nat):Int)*c1<=(281474976710656:Int)/\c1<=(9223372036854775807:Int)then
 if Ty.row .bool=true/\(0:Int)<=c1/\c1<=c1/\((1:Nat):Int)*c1<=(281474976710656:Int)/\c1<=(9223372036854775807:Int)then
 (((if Ty.row ATE=true/\(0:Int)<=c1/\c1<=c1/\((8:Nat):Int)*c1<=(281474976710656:Int)/\c1<=(9223372036854775807:Int)then
 if Ty.row .bool=true/\(0:Int)<=c1/\c1<=c1/\((1:Nat):Int)*c1<=(281474976710656:Int)/\c1<=(9223372036854775807:Int)then
 Eu (AaD a b c1 (List.replicate c1.toNat 0,List.replicate c1.toNat false))
 else none
 else none).bind λ_=>if Ty.row .bool=true/\(0:Int)<=c1/\c1<=c1/\((1:Nat):Int)*c1<=(281474976710656:Int)/\c1<=(9223372036854775807:Int)then
 if Ty.row ATE=true/\(0:Int)<=c1/\c1<=c1/\((8:Nat):Int)*c1<=(281474976710656:Int)/\c1<=(9223372036854775807:Int)then
 Eu (AaD a b c1 (List.replicate c1.toNat 0,List.replicate c1.toNat false))
 else none
 else none).bind λ_=>some (AaD a b c1 (List.replicate c1.toNat 0,List.replicate c1.toNat false)))
 else none
 else none:=by kernel_rfl
 rw[h];unfold M9;simp only[ASr,mS,mO];clear h;by_cases Hs:Ty.row ATE=true/\(0:Int)<=c1/\c1<=c1/\((8:Nat):Int)*c1<=(281474976710656:Int)/\c1<=(9223372036854775807:Int)
 ·rw[AQx Hs,AQx Hs];by_cases QS:Ty.row .bool=true/\(0:Int)<=c1/\c1<=c1/\((1:Nat):Int)*c1<=(281474976710656:Int)/\c1<=(9223372036854775807:Int)
  ·rw[AQx QS,AQx QS];simp only[AQx Hs,AQx QS,AQ2,AQf,Eu,EJ]
  ·simp only[AQx Hs,AQ2,AQy QS]
 ·simp only[AQ2,AQy Hs]
def Ans a (b:ASD):=sT 101 [(0,Ar a),(3,Aq),(6,dI (b.1.length:Int))] [.box (G0 b)]
def AeN(a:ASL)(b:ASD)(m0:Bool):Ex×St:=xN 101 [(0,Ar a),(3,Aq),(6,dI (b.1.length:Int)),(22,dB m0)] [.box (G0 b)]
theorem AD9 a b:XJ E82 0 3 (code f153) (pt 28) (Ans a b)=some (AeN a b ((decide ((b.1.length:Int)<1))||(decide ((b.1.length:Int)>400)))):=by
 refine .trans (b:=
 bif decide ((b.1.length:Int)<1)then
 some (AeN a b true)
 else
 some (AeN a b (decide ((b.1.length:Int)>400)))) (by kernel_rfl) ?_
 cases (decide ((b.1.length:Int)<1));rfl;rfl
def TV(a:ASL)(b:ASD):ATV (Bool×ASH):=
 Po (Ans a b) (
 bif (decide ((b.1.length:Int)<1))||(decide ((b.1.length:Int)>400))then
 some (false,([]:ASH))
 else
 (M9 a b (b.1.length:Int)).bind λd1=>(VN a b (b.1.length:Int) (b.1.length:Int) 0 d1.1 d1.2).bind (Sum.elim (λe=>some (false,([]:ASH))) (λg=>if(0:Int)<=(0:Int)/\(0:Int)<=(wI ((b.1.length:Int)-1))/\(wI ((b.1.length:Int)-1))<=(g.1.length:Int)then
 (IY ((g.1.take (wI ((b.1.length:Int)-1)).toNat).drop 0) false).bind λe1=>some (!e1,g.2)
 else none)))
def AFh:=Ci [.d ATK,.d An] [⟨[.AB [] ATK,.AB [] An],[],Bool×ASH,λp=>TV p.1.1 p.1.2.1,λr=>(.cons HS (.cons (dB r.1) .nil),[Ay r.2])⟩]
theorem Af9:Ao prog 153 AFh:=Av (fn:=f153) ⟨⟨E82,pk ⟨Xu,Agq,Agr,Ags,trivial⟩,λ_ R K=>by
 simp(disch:=refine id ?_;kernel_rfl) only[TV,ASs,Ev (AD9 ..) (K:=A0 E82 f153 0 R K),VE (AEa ..) (K:=A0 E82 f153 0 R K),VN,AF (AEd _ _ _ _) (K:=A0 E82 f153 0 R K)];kernel_rfl⟩,trivial⟩
abbrev E83:=eN [(153,AFh)] {}
def Fh(a:ASL)(b:ASD):ATV Int:=
 (TV a b).bind λc=>bif !c.1 then
 some (-1)
 else
 if 0<=(wI ((c.2.length:Int)-1))/\(wI ((c.2.length:Int)-1))<c.2.length then
 some (c.2.getD (wI ((c.2.length:Int)-1)).toNat ATE.zero)
 else none
def Avn:=Ci [.d ATK,.d An] [⟨[.AB [] ATK,.AB [] An],[],Int,λp=>Fh p.1.1 p.1.2.1,λr=>(dI r,[])⟩]
theorem uE:Ao prog 120 Avn:=Av (fn:=f120) ⟨⟨E83,pk ⟨Af9,trivial⟩,λ_ R K=>by
 simp only[Fh,ASs];kernel_rfl⟩,trivial⟩
noncomputable def AFt:Va.Callee:=bU 199 ATF 8
noncomputable abbrev AFT:G5:={Eb:=Eb,fns:=Pl [],fi:={}}
theorem AlK:JM Tryz.prog AFT:=(pk (l:=[]) trivial)
theorem Agl:Ao Tryz.prog 169 AFt:=
 fB (fn:=Tryz.f169) AlK (by kernel_rfl) (by kernel_rfl) rfl rfl rfl ⟨rfl,rfl,rfl⟩ ⟨rfl,rfl,rfl⟩ (ti:=⟨.sl ATF,[],199,24,0,0,false⟩) (by kernel_rfl) rfl (by kernel_rfl) (λxs=>by kernel_rfl) (λxs=>by kernel_rfl)
  λxs h=>by
   have h0:ev AFT 0 (sub (code Tryz.f169) [1,1]) (Ex×St) ⟨[.AB [] ATO xs,.un 0,.zs,.AB [] ATO xs,.bool false,.un 0,.un 0,.un 0],[]⟩ Sz=if xs.length*8<=140737488355328 then some (.ret,⟨[.AB [] ATO xs,.un 0,.AG 0,.AB [] ATO xs,.bool false,.zs,.AB [] ATO xs,.AG 0],[Bq xs]⟩)else none:=by kernel_rfl
   exact h0.trans (AQx h)
abbrev E84:=eN [(169,AFt)] {}
def Dl(a:ASA):ATV AS5:=
 if a.2.1.length*8<=140737488355328 then
 some (a.1,a.2.1)
 else none
def AkR:=Ci [.d Ai] [⟨[.AB [] Ai],[],AS5,λp=>Dl p.1.1,λr=>(.pr (dI r.1) Ps,[Bq r.2])⟩]
theorem kg:Ao prog 146 AkR:=Av (fn:=f146) ⟨⟨E84,pk ⟨Agl,trivial⟩,λ_ R K=>by
 simp only[Dl,ASs];kernel_rfl⟩,trivial⟩
abbrev E85:=eN [] {}
def AO(a:Int)(b:ASH):ATj:=(-1,0,a,a,b)
def Avv:=Ci [.VA] [⟨[.pr (.AB [] ATE) (.pr (.k HS) (.k .u))],[.row 199 .Aw ATF],ATj,λp=>some (AO p.1.1.1 p.2.1),λr=>(.pr (dI r.1) (.pr (dI r.2.1) (.pr (dI r.2.2.1) (.pr (.pr (dI r.2.2.2.1) Ps) .u))),[Bq r.2.2.2.2])⟩]
theorem uM:Ao prog 177 Avv:=Av (fn:=f177) ⟨⟨E85,pk trivial,λ_ _ _=>by kernel_rfl⟩,trivial⟩
abbrev E86:=eN [] {}
def DX(a b:ASy):Bool:=((a.1==b.1)&&((a.1==(-1))||((wI (a.2.1+a.2.2.1))==b.2.1)))
theorem U86 R a b K:T6 E86 f192 R [Lf a,Lf b] [] K=K (dB (DX a b)) []:=by
 refine .trans (b:=
 bif a.1==b.1 then
 bif a.1==(-1)then
 K (dB true) []
 else
 K (dB ((wI (a.2.1+a.2.2.1))==b.2.1)) []
 else
 K (dB false) []) (by kernel_rfl) ?_
 unfold DX;cases (a.1==b.1);rfl;cases (a.1==(-1));rfl;rfl
def AFL:=Ci [.d Ag,.d Ag] [⟨[.AB [] Ag,.AB [] Ag],[],Bool,λp=>some (DX p.1.1 p.1.2.1),λr=>(dB r,[])⟩]
theorem AgD:Ao prog 192 AFL:=Av ⟨⟨E86,pk trivial,λ_ _ _=>U86 ..⟩,trivial⟩
abbrev E87:=eN [(157,Avs)] {}
def DR(a:Int):ATV AS5:=
 if Ty.row ATF=true/\(0:Int)<=(Cs a)/\(Cs a)<=(Cs a)/\((8:Nat):Int)*(Cs a)<=(281474976710656:Int)/\(Cs a)<=(9223372036854775807:Int)then
 some (a,List.replicate (Cs a).toNat 0)
 else none
def AfO:=Ci [.d ATE] [⟨[.AB [] ATE],[],AS5,λp=>DR p.1.1,λr=>(.pr (dI r.1) Ps,[Bq r.2])⟩]
theorem df:Ao prog 125 AfO:=Av (fn:=f125) ⟨⟨E87,pk ⟨uJ,trivial⟩,λ_ R K=>by
 simp only[DR,ASs];kernel_rfl⟩,trivial⟩
end
end Go.Proofs.X
namespace Go.Proofs.X
open Go Go.Va Go.Proofs.Tryz
set_option maxRecDepth 100000
noncomputable section
abbrev E88:=eN [] {A5:=[(2,[1,3,10,11,12])],BB:=[(2,{A7:=[]})],Bw:=[(7,[1,3,7,8,10,11,12,44]),(8,[1,3,10,11,12])],Da:=[(7,[1,3,7,8,10,11,12]),(8,[1,3,10,11,12])]}
def ABD a b c d (z_:Int×ASH):=sT 60 (AjL a c d z_.1) [Bq z_.2,.box (.pr (dI b) Ps)]
def Azt(a b:Int)(c:ASH)(d:Int):=λ(e:ASH)=>xE 0 60 [] [Bq e]
def ABC a c d g i b:=sT 60 (AjL a c d g) [Bq i,.box (.pr (dI b) Ps)]
def Azs a c d g (i:ASH) b:=λ(j:ASH)=>xN 60 (AjL a c d g) [Bq j,.box (.pr (dI b) Ps)]
def Anu a (c:ASH) (g:Int) d (i:ASH) b:=sT 60 [(1,dI a),(3,A1),(7,dD ATF (c.getD g.toNat ATF.zero)),(8,dI (wI (a+(wI (64*g))))),(10,Vp c),(11,dI d),(12,dI g)] [Bq (i.set (wI (Int.tdiv (wI (a+(wI (64*g)))) 64)).toNat (gg .u64 (i.getD (wI (Int.tdiv (wI (a+(wI (64*g)))) 64)).toNat ATF.zero) (N5 .u64 (c.getD g.toNat ATF.zero) (Int.tmod (wI (a+(wI (64*g)))) 64)))),.box (.pr (dI b) Ps)]
def AeO(a:Int)(c:ASH)(g d:Int)(i:ASH)(b:Int)(m0:Bool):Ex×St:=xN 60 [(1,dI a),(3,A1),(7,dD ATF (c.getD g.toNat ATF.zero)),(8,dI (wI (a+(wI (64*g))))),(10,Vp c),(11,dI d),(12,dI g),(44,dB m0)] [Bq (i.set (wI (Int.tdiv (wI (a+(wI (64*g)))) 64)).toNat (gg .u64 (i.getD (wI (Int.tdiv (wI (a+(wI (64*g)))) 64)).toNat ATF.zero) (N5 .u64 (c.getD g.toNat ATF.zero) (Int.tmod (wI (a+(wI (64*g)))) 64)))),.box (.pr (dI b) Ps)]
theorem AEe a c g d i b:XJ E88 1 7 (sb (cd f206 28) 14) (pt 46) (Anu a c g d i b)=some (AeO a c g d i b (((Int.tmod (wI (a+(wI (64*g)))) 64) !=0)&&(decide ((wI ((wI (Int.tdiv (wI (a+(wI (64*g)))) 64))+1))<((i.set (wI (Int.tdiv (wI (a+(wI (64*g)))) 64)).toNat (gg .u64 (i.getD (wI (Int.tdiv (wI (a+(wI (64*g)))) 64)).toNat ATF.zero) (N5 .u64 (c.getD g.toNat ATF.zero) (Int.tmod (wI (a+(wI (64*g)))) 64)))).length:Int))))):=by
 refine .trans (b:=
 bif (Int.tmod (wI (a+(wI (64*g)))) 64) !=0 then
 some (AeO a c g d i b (decide ((wI ((wI (Int.tdiv (wI (a+(wI (64*g)))) 64))+1))<((i.set (wI (Int.tdiv (wI (a+(wI (64*g)))) 64)).toNat (gg .u64 (i.getD (wI (Int.tdiv (wI (a+(wI (64*g)))) 64)).toNat ATF.zero) (N5 .u64 (c.getD g.toNat ATF.zero) (Int.tmod (wI (a+(wI (64*g)))) 64)))).length:Int))))
 else
 some (AeO a c g d i b false)) (by kernel_rfl) ?_
 cases ((Int.tmod (wI (a+(wI (64*g)))) 64) !=0);rfl;rfl
def JS(a:Int)(c:ASH)(d g:Int)(i:ASH)(b:Int):ATV ASH:=
 if 0<=g/\g<c.length then
 if 0<=(wI (Int.tdiv (wI (a+(wI (64*g)))) 64))/\(wI (Int.tdiv (wI (a+(wI (64*g)))) 64))<i.length then
 if(Int.tmod (wI (a+(wI (64*g)))) 64)<(0:Int)then none else
 if 0<=(wI (Int.tdiv (wI (a+(wI (64*g)))) 64))/\(wI (Int.tdiv (wI (a+(wI (64*g)))) 64))<i.length then
 Po (Anu a c g d i b) (
 bif ((Int.tmod (wI (a+(wI (64*g)))) 64) !=0)&&(decide ((wI ((wI (Int.tdiv (wI (a+(wI (64*g)))) 64))+1))<((i.set (wI (Int.tdiv (wI (a+(wI (64*g)))) 64)).toNat (gg .u64 (i.getD (wI (Int.tdiv (wI (a+(wI (64*g)))) 64)).toNat ATF.zero) (N5 .u64 (c.getD g.toNat ATF.zero) (Int.tmod (wI (a+(wI (64*g)))) 64)))).length:Int)))then
 if 0<=(wI ((wI (Int.tdiv (wI (a+(wI (64*g)))) 64))+1))/\(wI ((wI (Int.tdiv (wI (a+(wI (64*g)))) 64))+1))<(i.set (wI (Int.tdiv (wI (a+(wI (64*g)))) 64)).toNat (gg .u64 (i.getD (wI (Int.tdiv (wI (a+(wI (64*g)))) 64)).toNat ATF.zero) (N5 .u64 (c.getD g.toNat ATF.zero) (Int.tmod (wI (a+(wI (64*g)))) 64)))).length then
 if(wI (64-(Int.tmod (wI (a+(wI (64*g)))) 64)))<(0:Int)then none else
 if 0<=(wI ((wI (Int.tdiv (wI (a+(wI (64*g)))) 64))+1))/\(wI ((wI (Int.tdiv (wI (a+(wI (64*g)))) 64))+1))<(i.set (wI (Int.tdiv (wI (a+(wI (64*g)))) 64)).toNat (gg .u64 (i.getD (wI (Int.tdiv (wI (a+(wI (64*g)))) 64)).toNat ATF.zero) (N5 .u64 (c.getD g.toNat ATF.zero) (Int.tmod (wI (a+(wI (64*g)))) 64)))).length then
 some ((i.set (wI (Int.tdiv (wI (a+(wI (64*g)))) 64)).toNat (gg .u64 (i.getD (wI (Int.tdiv (wI (a+(wI (64*g)))) 64)).toNat ATF.zero) (N5 .u64 (c.getD g.toNat ATF.zero) (Int.tmod (wI (a+(wI (64*g)))) 64)))).set (wI ((wI (Int.tdiv (wI (a+(wI (64*g)))) 64))+1)).toNat (gg .u64 ((i.set (wI (Int.tdiv (wI (a+(wI (64*g)))) 64)).toNat (gg .u64 (i.getD (wI (Int.tdiv (wI (a+(wI (64*g)))) 64)).toNat ATF.zero) (N5 .u64 (c.getD g.toNat ATF.zero) (Int.tmod (wI (a+(wI (64*g)))) 64)))).getD (wI ((wI (Int.tdiv (wI (a+(wI (64*g)))) 64))+1)).toNat ATF.zero) (T8 .u64 (c.getD g.toNat ATF.zero) (wI (64-(Int.tmod (wI (a+(wI (64*g)))) 64))))))
 else none
 else none
 else
 some (i.set (wI (Int.tdiv (wI (a+(wI (64*g)))) 64)).toNat (gg .u64 (i.getD (wI (Int.tdiv (wI (a+(wI (64*g)))) 64)).toNat ATF.zero) (N5 .u64 (c.getD g.toNat ATF.zero) (Int.tmod (wI (a+(wI (64*g)))) 64)))))
 else none
 else none
 else none
theorem AEf a c d g i b:AQ E88 1 8 (cd f206 28) 14 (ABC a c d g i b) (JS a c d g i b) (Azs a c d g i b):=by
 unfold AQ;simp(disch:=refine id ?_;kernel_rfl) only[JS,ASr,Ev (AEe ..) (K:=Uk E88 1 8)];kernel_rfl
def Kw(a b:Int)(c:ASH)(d g:Int)(i:ASH):ATV (AS5⊕ASH):=
 bif decide (g<d)then
 (JS a c d g i b).bind λj=>some (.inl (wI (g+1),j))
 else
 some (.inr i)
def Hz a b c d (z_:Int×ASH):=Kw a b c d z_.1 z_.2
def XG a b c d g i:=fix (Hz a b c d) (g,i)
theorem AEg a b c d:A3 E88 1 2 (code f206) 14 (ABD a b c d) (Hz a b c d) (Azt a b c d):=by
 intro _;simp(disch:=refine id ?_;kernel_rfl) only[Hz,Kw,ASr,Ba (AEf ..) (K:=JG E88 1 2)];kernel_rfl
def O7(b a:Int)(k:ASA)(l:ASH):ATV ASH:=
 (XG a b k.2.1 (k.2.1.length:Int) 0 l).bind λe=>some e
def AFO:=Ci [.VA,.d ATE,.d Ai] [⟨[.pr (.AB [] ATE) (.pr (.k HS) (.k .u)),.AB [] ATE,.AB [] Ai],[.row 199 .Aw ATF],ASH,λp=>O7 p.1.1.1 p.1.2.1 p.1.2.2.1 p.2.1,λr=>(.nil,[Bq r])⟩]
theorem AgG:Ao prog 206 AFO:=Av (fn:=f206) ⟨⟨E88,pk trivial,λ_ R K=>by
 simp(disch:=refine id ?_;kernel_rfl) only[O7,ASs,XG,AF (AEg _ _ _ _) (K:=A0 E88 f206 1 R K)];kernel_rfl⟩,trivial⟩
abbrev E89:=eN [(125,AfO),(206,AFO)] {}
def Hy(a b:ASA):ATV AS5:=
 (DR (wI (a.1+b.1))).bind λc=>(O7 c.1 0 b c.2).bind λd=>(O7 c.1 b.1 a d).bind λe=>some (c.1,e)
def AFM:=Ci [.d Ai,.d Ai] [⟨[.AB [] Ai,.AB [] Ai],[],AS5,λp=>Hy p.1.1 p.1.2.1,λr=>(.pr (dI r.1) Ps,[Bq r.2])⟩]
theorem AgE:Ao prog 193 AFM:=Av (fn:=f193) ⟨⟨E89,pk ⟨df,AgG,trivial⟩,λ_ R K=>by
 simp only[Hy,ASs];kernel_rfl⟩,trivial⟩
abbrev E90:=eN [(192,AFL),(193,AFM)] {Aw:=false,A5:=[(2,{A7:=[0,8,9,10],mv:=[0]})],BB:=[(2,[0])],Bw:=[(6,[0,6,7,8,9,10,27]),(9,[0,6,7,8,9,10]),(10,{A7:=[0,8,9,10],mv:=[0]})],Da:=[(6,[0,6,7,8,9,10]),(9,[0,6,7,8,9,10]),(10,[0,8,9,10])]}
def ABH a b (z_:Int×ASO):=sT 59 (AjM a b z_.1) [.Bd,Cf z_.2]
def Azx(a:ASO)(b:Int):=λ(c:ASO)=>xE 0 59 [(0,.AG 1)] [.Bd,Cf c]
def ABG a b d e:=sT 59 (AjM a b d) [.Bd,Cf e]
def Azw a b d (e:ASO):=λ(g:ASO)=>xN 59 (AjM a b d) [.Bd,Cf g]
def ABF a b d e i j:=sT 59 (AjN i a b d) [.Bd,Cf e,.box (Lf j)]
def Azv a b d (e:ASO) i j:=λ(k:ASO)=>xN 59 (AjN i a b d) [.Bd,Cf k,.box (Lf j)]
def Pb(a:ASO)(b d:Int)(e:ASO)(i:Int)(j:ASy):ATV ASO:=
 bif j.1==(-1)then
 if 0<=i/\i<e.length then
 (Hy j.2.2.2.1 (e.getD i.toNat Ag.zero).2.2.2.1).bind λl=>if 0<=i/\i<e.length then
 some (e.set i.toNat ((e.getD i.toNat Ag.zero).1,(e.getD i.toNat Ag.zero).2.1,(e.getD i.toNat Ag.zero).2.2.1,(l.1,l.2,()),(e.getD i.toNat Ag.zero).2.2.2.2))
 else none
 else none
 else
 some e
theorem AEi a b d e i j:AQ E90 1 9 (sb (cd f178 52) 14) 46 (ABF a b d e i j) (Pb a b d e i j) (Azv a b d e i j):=by
 unfold AQ;simp only[Pb,ASr];kernel_rfl
def ABE a b d e n o:=sT 59 (AjN n a b d) [.Bd,Cf e,.box (Lf o)]
def Azu a b d e n o:=λ(q:Bool)=>xN 59 [(0,.AG 1),(6,EB),(7,dI n),(8,BV a),(9,dI b),(10,dI d),(27,dB q)] [.Bd,Cf e,.box (Lf o)]
def Tp(a:ASO)(b d:Int)(e:ASO)(n:Int)(o:ASy):ATV Bool:=
 bif decide (n<0)then
 some true
 else
 if 0<=n/\n<e.length then
 some (!(DX (e.getD n.toNat Ag.zero) o))
 else none
theorem AEh a b d e n o:AQ E90 1 6 (sb (cd f178 52) 14) 44 (ABE a b d e n o) (Tp a b d e n o) (Azu a b d e n o):=by
 unfold AQ;simp only[Tp,ASr];kernel_rfl
def Pf(a:ASO)(b d:Int)(e:ASO):ATV ASO:=
 if 0<=d/\d<a.length then
 (Tp a b d e (wI ((e.length:Int)-1)) (a.getD d.toNat Ag.zero)).bind λq=>bif q then
 if(e.length+([a.getD d.toNat Ag.zero]:ASO).length)*56<=140737488355328 then
 some (e++([a.getD d.toNat Ag.zero]:ASO))
 else none
 else
 (Pb a b d e (wI ((e.length:Int)-1)) (a.getD d.toNat Ag.zero)).bind λk=>if 0<=(wI ((e.length:Int)-1))/\(wI ((e.length:Int)-1))<k.length then
 if 0<=(wI ((e.length:Int)-1))/\(wI ((e.length:Int)-1))<k.length then
 some (k.set (wI ((e.length:Int)-1)).toNat ((k.getD (wI ((e.length:Int)-1)).toNat Ag.zero).1,(k.getD (wI ((e.length:Int)-1)).toNat Ag.zero).2.1,wI ((k.getD (wI ((e.length:Int)-1)).toNat Ag.zero).2.2.1+(a.getD d.toNat Ag.zero).2.2.1),(k.getD (wI ((e.length:Int)-1)).toNat Ag.zero).2.2.2))
 else none
 else none
 else none
theorem AEj a b d e:AQ E90 1 10 (cd f178 52) 14 (ABG a b d e) (Pf a b d e) (Azw a b d e):=by
 unfold AQ;simp(disch:=refine id ?_;kernel_rfl) only[Pf,ASr,Ba (AEh ..) (K:=Uk E90 1 10),Ba (AEi ..) (K:=Uk E90 1 10)];kernel_rfl
def Py(a:ASO)(b d:Int)(e:ASO):ATV (ATh⊕ASO):=
 bif decide (d<b)then
 (Pf a b d e).bind λg=>some (.inl (wI (d+1),g))
 else
 some (.inr e)
def Gs a b (z_:Int×ASO):=Py a b z_.1 z_.2
def W5 a b d e:=fix (Gs a b) (d,e)
theorem AEk a b:A3 E90 1 2 (code f178) 26 (ABH a b) (Gs a b) (Azx a b):=by
 intro _;simp(disch:=refine id ?_;kernel_rfl) only[Gs,Py,ASr,Ba (AEj ..) (K:=JG E90 1 2)];kernel_rfl
def ER(a s:ASO):ATV ASO:=
 (W5 a (a.length:Int) 0 s).bind λc=>some c
def Avw:=Ci [.VA,.d ATH] [⟨[.k HS,.AB [] ATH],[.row 218 (.sh []) Ag],ASO,λp=>ER p.1.2.1 p.2.1,λr=>(.AG 1,[.Bd,Cf r])⟩]
theorem uN:Ao prog 178 Avw:=Av (fn:=f178) ⟨⟨E90,pk ⟨AgD,AgE,trivial⟩,λ_ R K=>by
 simp(disch:=refine id ?_;kernel_rfl) only[ER,ASs,W5,AF (AEk _ _) (K:=A0 E90 f178 1 R K)];kernel_rfl⟩,trivial⟩
abbrev E91:=eN [] {A5:=[(3,[3,6,7,8])],BB:=[(3,[3])]}
def ABI a b (z_:Int×Int):=sT 18 [(3,dI z_.1),(6,BV a),(7,dI b),(8,dI z_.2)] []
def Azy(a:ASO)(b:Int):=λ(c:Int)=>xE 0 18 [(3,dI c)] []
def Ju(a:ASO)(b d e:Int):ATV (AS7⊕Int):=
 bif decide (e<b)then
 if 0<=e/\e<a.length then
 some (.inl (wI (d+(a.getD e.toNat Ag.zero).2.2.1),wI (e+1)))
 else none
 else
 some (.inr d)
def Dc a b (z_:Int×Int):=Ju a b z_.1 z_.2
def Ra a b d e:=fix (Dc a b) (d,e)
theorem AEl a b:A3 E91 0 3 (code f124) 58 (ABI a b) (Dc a b) (Azy a b):=by
 intro _;simp only[Dc,Ju,ASr];kernel_rfl
def FD(a:ASO):ATV Int:=
 (Ra a (a.length:Int) 0 0).bind λc=>some c
def AkP:=Ci [.d ATH] [⟨[.AB [] ATH],[],Int,λp=>FD p.1.1,λr=>(dI r,[])⟩]
theorem j8:Ao prog 124 AkP:=Av (fn:=f124) ⟨⟨E91,pk trivial,λ_ R K=>by
 simp(disch:=refine id ?_;kernel_rfl) only[FD,ASs,Ra,AF (AEl _ _) (K:=A0 E91 f124 0 R K)];kernel_rfl⟩,trivial⟩
abbrev E92:=eN [(125,AfO)] {A5:=[(3,[1,2,3,6,7,15,16])],BB:=[(3,[2,6,7])],Bw:=[(8,[1,2,3,6,7,8,9,15,16,47]),(9,[1,2,3,6,7,15,16]),(13,[6,7])],Da:=[(8,[1,2,3,6,7,8,9,15,16]),(9,[1,2,3,6,7,15,16]),(13,[2,6,7])]}
def ABL a b c:=sT 85 [(2,dI a),(6,Aq),(7,A1)] (Aj7 c b)
def AzB(a:Int)(b:ASH) c:=λ(d:ASH)=>xN 85 [(6,Aq),(7,A1)] (Aj7 c d)
def NL(a:Int)(b:ASH)(c:Int):ATV ASH:=
 bif (Int.tmod a 64) !=0 then
 if 0<=(wI ((b.length:Int)-1))/\(wI ((b.length:Int)-1))<b.length then
 if(Int.tmod a 64)<(0:Int)then none else
 if 0<=(wI ((b.length:Int)-1))/\(wI ((b.length:Int)-1))<b.length then
 some (b.set (wI ((b.length:Int)-1)).toNat (fq .u64 (b.getD (wI ((b.length:Int)-1)).toNat ATF.zero) (IntKind.u64.wrap ((N5 .u64 1 (Int.tmod a 64))-1))))
 else none
 else none
 else
 some b
theorem AEp a b c:AQ E92 0 13 (code f186) 30 (ABL a b c) (NL a b c) (AzB a b c):=by
 unfold AQ;simp only[NL,ASr];kernel_rfl
def ABK e a g i j (z_:Int×ASH):=sT 85 (AjO e a i z_.1) (AjP g j z_.2)
def AzA(e:Int) a (g:ASA) (i:Int) j:=λ(b:ASH)=>xE 0 85 [(2,dI a),(6,Aq),(7,A1)] (Aj7 j b)
def ABJ e a i k g j l:=sT 85 (AjO e a i k) (AjP g j l)
def Azz e a i k g j (l:ASH):=λ(n:ASH)=>xN 85 (AjO e a i k) (AjP g j n)
def Anv e a k i g j (l:ASH):=sT 85 [(1,dI e),(2,dI a),(3,Aq),(6,A1),(7,EB),(8,dI k),(9,dI (wI (e+(wI (64*k))))),(15,dI i),(16,dI k)] [.box (JK g),.box Tj,.box (.pr (dI j) om),Bq (l.set k.toNat (T8 .u64 (g.2.1.getD (wI (Int.tdiv (wI (e+(wI (64*k)))) 64)).toNat ATF.zero) (Int.tmod (wI (e+(wI (64*k)))) 64)))]
def AeP(e a k i:Int)(g:ASA)(j:Int)(l:ASH)(m0:Bool):Ex×St:=xN 85 [(1,dI e),(2,dI a),(3,Aq),(6,A1),(7,EB),(8,dI k),(9,dI (wI (e+(wI (64*k))))),(15,dI i),(16,dI k),(47,dB m0)] [.box (JK g),.box Tj,.box (.pr (dI j) om),Bq (l.set k.toNat (T8 .u64 (g.2.1.getD (wI (Int.tdiv (wI (e+(wI (64*k)))) 64)).toNat ATF.zero) (Int.tmod (wI (e+(wI (64*k)))) 64)))]
theorem AEm e a k i g j l:XJ E92 0 8 (sb (cd f186 116) 14) (pt 46) (Anv e a k i g j l)=some (AeP e a k i g j l (((Int.tmod (wI (e+(wI (64*k)))) 64) !=0)&&(decide ((wI ((wI (Int.tdiv (wI (e+(wI (64*k)))) 64))+1))<(g.2.1.length:Int))))):=by
 refine .trans (b:=
 bif (Int.tmod (wI (e+(wI (64*k)))) 64) !=0 then
 some (AeP e a k i g j l (decide ((wI ((wI (Int.tdiv (wI (e+(wI (64*k)))) 64))+1))<(g.2.1.length:Int))))
 else
 some (AeP e a k i g j l false)) (by kernel_rfl) ?_
 cases ((Int.tmod (wI (e+(wI (64*k)))) 64) !=0);rfl;rfl
def JR(e a i k:Int)(g:ASA)(j:Int)(l:ASH):ATV ASH:=
 if 0<=(wI (Int.tdiv (wI (e+(wI (64*k)))) 64))/\(wI (Int.tdiv (wI (e+(wI (64*k)))) 64))<g.2.1.length then
 if(Int.tmod (wI (e+(wI (64*k)))) 64)<(0:Int)then none else
 if 0<=k/\k<l.length then
 Po (Anv e a k i g j l) (
 bif ((Int.tmod (wI (e+(wI (64*k)))) 64) !=0)&&(decide ((wI ((wI (Int.tdiv (wI (e+(wI (64*k)))) 64))+1))<(g.2.1.length:Int)))then
 if 0<=k/\k<(l.set k.toNat (T8 .u64 (g.2.1.getD (wI (Int.tdiv (wI (e+(wI (64*k)))) 64)).toNat ATF.zero) (Int.tmod (wI (e+(wI (64*k)))) 64))).length then
 if 0<=(wI ((wI (Int.tdiv (wI (e+(wI (64*k)))) 64))+1))/\(wI ((wI (Int.tdiv (wI (e+(wI (64*k)))) 64))+1))<g.2.1.length then
 if(wI (64-(Int.tmod (wI (e+(wI (64*k)))) 64)))<(0:Int)then none else
 if 0<=k/\k<(l.set k.toNat (T8 .u64 (g.2.1.getD (wI (Int.tdiv (wI (e+(wI (64*k)))) 64)).toNat ATF.zero) (Int.tmod (wI (e+(wI (64*k)))) 64))).length then
 some ((l.set k.toNat (T8 .u64 (g.2.1.getD (wI (Int.tdiv (wI (e+(wI (64*k)))) 64)).toNat ATF.zero) (Int.tmod (wI (e+(wI (64*k)))) 64))).set k.toNat (gg .u64 ((l.set k.toNat (T8 .u64 (g.2.1.getD (wI (Int.tdiv (wI (e+(wI (64*k)))) 64)).toNat ATF.zero) (Int.tmod (wI (e+(wI (64*k)))) 64))).getD k.toNat ATF.zero) (N5 .u64 (g.2.1.getD (wI ((wI (Int.tdiv (wI (e+(wI (64*k)))) 64))+1)).toNat ATF.zero) (wI (64-(Int.tmod (wI (e+(wI (64*k)))) 64))))))
 else none
 else none
 else none
 else
 some (l.set k.toNat (T8 .u64 (g.2.1.getD (wI (Int.tdiv (wI (e+(wI (64*k)))) 64)).toNat ATF.zero) (Int.tmod (wI (e+(wI (64*k)))) 64))))
 else none
 else none
theorem AEn e a i k g j l:AQ E92 0 9 (cd f186 116) 14 (ABJ e a i k g j l) (JR e a i k g j l) (Azz e a i k g j l):=by
 unfold AQ;simp(disch:=refine id ?_;kernel_rfl) only[JR,ASr,Ev (AEm ..) (K:=Uk E92 0 9)];kernel_rfl
def Kv(e a:Int)(g:ASA)(i j k:Int)(l:ASH):ATV (AS5⊕ASH):=
 bif decide (k<i)then
 (JR e a i k g j l).bind λn=>some (.inl (wI (k+1),n))
 else
 some (.inr l)
def Hw e a g i j (z_:Int×ASH):=Kv e a g i j z_.1 z_.2
def NK e a g i j k l:=fix (Hw e a g i j) (k,l)
theorem AEo e a g i j:A3 E92 0 3 (code f186) 58 (ABK e a g i j) (Hw e a g i j) (AzA e a g i j):=by
 intro _;simp(disch:=refine id ?_;kernel_rfl) only[Hw,Kv,ASr,Ba (AEn ..) (K:=JG E92 0 3)];kernel_rfl
def Fe(g:ASA)(e a:Int):ATV AS5:=
 (DR a).bind λo=>(NK e a g (o.2.length:Int) o.1 0 o.2).bind λb=>(NL a b o.1).bind λd=>some (o.1,d)
def Avx:=Ci [.d Ai,.d ATE,.d ATE] [⟨[.AB [] Ai,.AB [] ATE,.AB [] ATE],[],AS5,λp=>Fe p.1.1 p.1.2.1 p.1.2.2.1,λr=>(.pr (dI r.1) Ps,[Bq r.2])⟩]
theorem uO:Ao prog 186 Avx:=Av (fn:=f186) ⟨⟨E92,pk ⟨df,trivial⟩,λ_ R K=>by
 simp(disch:=refine id ?_;kernel_rfl) only[Fe,ASs,NK,AF (AEo _ _ _ _ _) (K:=A0 E92 f186 0 R K),Ba (AEp ..) (K:=A0 E92 f186 0 R K)];kernel_rfl⟩,trivial⟩
abbrev E93:=eN [(177,Avv),(186,Avx)] {gk:=[(0,.row [3,1] 199 ATF true)]}
def O8(a:ASy)(b c:Int):ATV ATj:=
 bif a.1==(-1)then
 (Fe a.2.2.2.1 b c).bind λd=>some ((AO d.1 d.2).1,(AO d.1 d.2).2.1,(AO d.1 d.2).2.2.1,(AO d.1 d.2).2.2.2.1,(AO d.1 d.2).2.2.2.2)
 else
 some (a.1,wI (a.2.1+b),c,0,([]:ASH))
def AFN:=Ci [.d Ag,.d ATE,.d ATE] [⟨[.AB [] Ag,.AB [] ATE,.AB [] ATE],[],ATj,λp=>O8 p.1.1 p.1.2.1 p.1.2.2.1,λr=>(.pr (dI r.1) (.pr (dI r.2.1) (.pr (dI r.2.2.1) (.pr (.pr (dI r.2.2.2.1) Ps) .u))),[Bq r.2.2.2.2])⟩]
theorem AgF:Ao prog 194 AFN:=Av (fn:=f194) ⟨⟨E93,pk ⟨uM,uO,trivial⟩,λ_ R K=>by
 simp only[O8,ASs];kernel_rfl⟩,trivial⟩
abbrev E94:=eN [(178,Avw),(194,AFN)] {A5:=[(4,{A7:=[1,2,7,8,14,15,16],Cg:=[(7,false,.row [] 218 Ag false)]})],BB:=[(4,[7])],Bw:=[(9,{A7:=[1,2,7,8,10,14,15,16],Cg:=[(7,false,.row [] 218 Ag false)]})],Da:=[(9,[1,2,7,8,10,11,12,14,15,16])],iI:=[(43,ATH)]}
def ABN a b c d (z_:Int×Int×ASO):=sT 51 [(1,dI a),(2,dI b),(7,.AG 0),(8,dI z_.1),(14,BV c),(15,dI d),(16,dI z_.2.1)] [Cf z_.2.2]
def AzD(a b:Int)(c:ASO)(d:Int):=λ(e:ASO)=>xE 0 51 oi [Cf e]
def ABM a b g c d i j k l n:=sT 51 [(1,dI a),(2,dI b),(7,.AG 0),(8,dI g),(10,A1),(11,dI k),(12,dI l),(14,BV c),(15,dI d),(16,dI i)] [Cf j,.box (Lf n)]
def AzC a b g c d i (j:ASO) (k:Int) (l:Int) n:=λ(o:ASO)=>xN 51 [(1,dI a),(2,dI b),(7,.AG 0),(8,dI g),(10,A1),(14,BV c),(15,dI d),(16,dI i)] [Cf o,.box (Lf n)]
def NR(a b g:Int)(c:ASO)(d i:Int)(j:ASO)(k l:Int)(n:ASy):ATV ASO:=
 bif decide (k<l)then
 (O8 n (wI (k-g)) (wI (l-k))).bind λq=>(ER ([(q.1,q.2.1,q.2.2.1,(q.2.2.2.1,q.2.2.2.2,()),())]:ASO) j).bind λs=>some s
 else
 some j
theorem AEq a b g c d i j k l n:AQ E94 0 9 (cd f179 244) 230 (ABM a b g c d i j k l n) (NR a b g c d i j k l n) (AzC a b g c d i j k l n):=by
 unfold AQ;simp only[NR,ASr];kernel_rfl
def KB(a b:Int)(c:ASO)(d g i:Int)(j:ASO):ATV ((Int×Int×ASO)⊕ASO):=
 bif decide (i<d)then
 if 0<=i/\i<c.length then
 (NR a b g c d i j (if g>a then g else a) (if(wI (g+(c.getD i.toNat Ag.zero).2.2.1))<(wI (a+b))then(wI (g+(c.getD i.toNat Ag.zero).2.2.1))else(wI (a+b))) (c.getD i.toNat Ag.zero)).bind λo=>some (.inl (wI (g+(c.getD i.toNat Ag.zero).2.2.1),wI (i+1),o))
 else none
 else
 some (.inr j)
def EN a b c d (z_:Int×Int×ASO):=KB a b c d z_.1 z_.2.1 z_.2.2
def SN a b c d g i j:=fix (EN a b c d) (g,i,j)
theorem AEr a b c d:A3 E94 0 4 (code f179) 122 (ABN a b c d) (EN a b c d) (AzD a b c d):=by
 intro _;simp(disch:=refine id ?_;kernel_rfl) only[EN,KB,ASr,Ba (AEq ..) (K:=JG E94 0 4)];kernel_rfl
def Ff(c:ASO)(a b:Int):ATV ASO:=
 (SN a b c (c.length:Int) 0 0 ([]:ASO)).bind λe=>some e
def AFB:=Ci [.d ATH,.d ATE,.d ATE] [⟨[.AB [] ATH,.AB [] ATE,.AB [] ATE],[],ASO,λp=>Ff p.1.1 p.1.2.1 p.1.2.2.1,λr=>(.AG 0,[Cf r])⟩]
theorem Agt:Ao prog 179 AFB:=Av (fn:=f179) ⟨⟨E94,pk ⟨uN,AgF,trivial⟩,λ_ R K=>by
 simp(disch:=refine id ?_;kernel_rfl) only[Ff,ASs,SN,AF (AEr _ _ _ _) (K:=A0 E94 f179 0 R K)];kernel_rfl⟩,trivial⟩
noncomputable def AFC:Va.Callee:=bU 218 Ag 56
noncomputable abbrev AFU:G5:={Eb:=Eb,fns:=Pl [],fi:={}}
theorem AlL:JM Tryz.prog AFU:=(pk (l:=[]) trivial)
theorem Agu:Ao Tryz.prog 180 AFC:=
 fB (fn:=Tryz.f180) AlL (by kernel_rfl) (by kernel_rfl) rfl rfl rfl ⟨rfl,rfl,rfl⟩ ⟨rfl,rfl,rfl⟩ (ti:=⟨.sl Ag,[],218,24,0,0,false⟩) (by kernel_rfl) rfl (by kernel_rfl) (λxs=>by kernel_rfl) (λxs=>by kernel_rfl)
  λxs h=>by
   have h0:ev AFU 0 (sub (code Tryz.f180) [1,1]) (Ex×St) ⟨[.AB [] ATH xs,.un 0,.zs,.AB [] ATH xs,.bool false,.un 0,.un 0,.un 0],[]⟩ Sz=if xs.length*56<=140737488355328 then some (.ret,⟨[.AB [] ATH xs,.un 0,.AG 0,.AB [] ATH xs,.bool false,.zs,.AB [] ATH xs,.AG 0],[Cf xs]⟩)else none:=by kernel_rfl
   exact h0.trans (AQx h)
abbrev yn:=eN [(124,AkP),(125,AfO),(146,AkR),(177,Avv),(178,Avw),(179,AFB),(180,AFC)] {Aw:=false,A5:=[(9,{A7:=[2,7,8],Cg:=[(7,false,.row [] 218 Ag false)]}),(27,{A7:=[9,12,125,126],Cg:=[(12,false,.row [] 218 Ag false)]}),(36,{A7:=[13,14,151,152],O4:=[(14,true,Ag)]})],BB:=[(9,[7]),(27,[12]),(36,[13])],Bw:=[(20,[0,9,10,69,88]),(23,[9,10,11]),(35,[0,13,14])],Da:=[(20,[0,9,10,69]),(23,[0,9,10,11]),(35,[0,9,10,13,14])],iI:=[(117,ATH),(156,ATH)]}
def ABT a b (z_:Int×ASO):=sT 160 [(13,.AG 0),(14,A1),(151,dI a),(152,dI z_.1)] [Cf z_.2,.box (Lf b)]
def AzJ(a:Int)(b:ASy):=λ(c:ASO)=>xE 6 160 [(13,.AG 0)] [Cf c]
def QF(a:Int)(b:ASy)(d:Int)(e:ASO):ATV (ATh⊕ASO):=
 bif decide (d<a)then
 (ER ([b]:ASO) e).bind λg=>some (.inl (wI (d+1),g))
 else
 some (.inr e)
def FT a b (z_:Int×ASO):=QF a b z_.1 z_.2
def LQ a b d e:=fix (FT a b) (d,e)
theorem AEy a b:A3 yn 0 36 (code f154) 4090 (ABT a b) (FT a b) (AzJ a b):=by
 intro _;simp only[FT,QF,ASr];kernel_rfl
def ABS i j (z_:Int×ASO):=sT 160 [(13,.AG 0),(14,A1),(151,dI j),(152,dI z_.1)] [Cf z_.2,.box (Lf i)]
def AzI(i:ASy)(j:Int):=λ(k:ASO)=>xE 6 160 [(13,.AG 0)] [Cf k]
def QE(i:ASy)(j l:Int)(n:ASO):ATV (ATh⊕ASO):=
 bif decide (l<j)then
 (ER ([i]:ASO) n).bind λo=>some (.inl (wI (l+1),o))
 else
 some (.inr n)
def FQ i j (z_:Int×ASO):=QE i j z_.1 z_.2
def LP i j l n:=fix (FQ i j) (l,n)
theorem AEx i j:A3 yn 0 36 (code f154) 4090 (ABS i j) (FQ i j) (AzI i j):=by
 intro _;simp only[FQ,QE,ASr];kernel_rfl
def ABR q s t u v w x y a1:=sT 160 [(0,.FZ [] Ah q),(9,BV t),(10,dI s),(13,.AG 0),(14,A1)] [Cf u,.box (.pr (dI v) (.pr (dI w) (.pr (dI x) (.pr (.pr (dI y) cN) .u)))),Bq a1]
def AzH q (s:Int) (t:ASO) u v w x y a1:=Sum.elim (λ(i:ASy)=>xN 160 [(0,.FZ [] Ah q),(13,.AG 0),(14,A1)] [Cf u,.box (Lf i)]) (λ(b1:Unit)=>xN 160 [(0,.FZ [] Ah q),(13,.AG 0),(14,A1)] [Cf u,.box (.pr (dI v) (.pr (dI w) (.pr (dI x) (.pr (.pr (dI y) cN) .u)))),Bq a1])
def Cw(q:ASz)(s:Int)(t u:ASO)(v w x y:Int)(a1:ASH):ATV (ASy⊕Unit):=
 bif q.1==6 then
 (Ff t (wI (s-1)) 1).bind λc1=>if(0:Int)<=(0:Int)/\(0:Int)<(c1.length:Int)then
 some (.inl (c1.getD 0 Ag.zero))
 else none
 else
 some (.inr ())
theorem AEw q s t u v w x y a1:AQ yn 0 35 (code f154) 510 (ABR q s t u v w x y a1) (Cw q s t u v w x y a1) (AzH q s t u v w x y a1):=by
 unfold AQ;simp only[Cw,ASr];kernel_rfl
def ABQ d1 e1 (z_:Int×ASO):=sT 160 [(9,BV d1),(12,.AG 0),(125,dI e1),(126,dI z_.1)] [Cf z_.2]
def AzG(d1:ASO)(e1:Int):=λ(g1:ASO)=>xE 4 160 [(12,.AG 0)] [Cf g1]
def FP(d1:ASO)(e1 i1:Int)(j1:ASO):ATV (ATh⊕ASO):=
 bif decide (i1<e1)then
 (ER d1 j1).bind λk1=>some (.inl (wI (i1+1),k1))
 else
 some (.inr j1)
def CF d1 e1 (z_:Int×ASO):=FP d1 e1 z_.1 z_.2
def HU d1 e1 i1 j1:=fix (CF d1 e1) (i1,j1)
theorem AEv d1 e1:A3 yn 0 27 (code f154) 257002 (ABQ d1 e1) (CF d1 e1) (AzG d1 e1):=by
 intro _;simp only[CF,FP,ASr];kernel_rfl
def ABP q s l1 n1:=sT 160 [(0,.FZ [] Ah q),(9,BV l1),(10,dI s),(11,dI n1)] []
def AzF(q:ASz) s l1 (n1:Int):=λ(o1:Int)=>xN 160 [(9,BV l1),(10,dI s),(11,dI o1)] []
def EF(q:ASz)(s:Int)(l1:ASO)(n1:Int):ATV Int:=
 bif q.1==8 then
 if s=(0:Int)then none else
 some (Int.tmod (wI (s-n1)) s)
 else
 some n1
theorem AEu q s l1 n1:AQ yn 0 23 (code f154) 16058 (ABP q s l1 n1) (EF q s l1 n1) (AzF q s l1 n1):=by
 unfold AQ;simp only[EF,ASr];kernel_rfl
def Anw q (q1:ASZ) s:=sT 160 [(0,.FZ [] Ah q),(9,BV (q1.getD 0 ATH.zero)),(10,dI s),(69,dI q.1)] []
def AeQ(q:ASz)(q1:ASZ)(s:Int)(m0:Bool):Ex×St:=xN 160 [(0,.FZ [] Ah q),(9,BV (q1.getD 0 ATH.zero)),(10,dI s),(69,dI q.1),(88,dB m0)] []
theorem AEt q q1 s:XJ yn 0 20 (code f154) (pt 2006) (Anw q q1 s)=some (AeQ q q1 s (bif q.1==7 then(q.1==7)else(q.1==8))):=by
 refine .trans (b:=
 bif q.1==7 then
 some (AeQ q q1 s (q.1==7))
 else
 some (AeQ q q1 s (q.1==8))) (by kernel_rfl) ?_
 cases (q.1==7);rfl;rfl
def ABO q1 (z_:Int×ASO):=sT 160 [(2,OB q1),(7,.AG 0),(8,dI z_.1)] [Cf z_.2]
def AzE(q1:ASZ):=λ(s1:ASO)=>xE 1 160 oi [Cf s1]
def FO(q1:ASZ)(t1:Int)(u1:ASO):ATV (ATh⊕ASO):=
 bif decide (t1>=0)then
 if 0<=t1/\t1<q1.length then
 (ER (q1.getD t1.toNat ATH.zero) u1).bind λv1=>some (.inl (wI (t1-1),v1))
 else none
 else
 some (.inr u1)
def CB q1 (z_:Int×ASO):=FO q1 z_.1 z_.2
def LO q1 t1 u1:=fix (CB q1) (t1,u1)
theorem AEs q1:A3 yn 0 9 (code f154) 27626 (ABO q1) (CB q1) (AzE q1):=by
 intro _;simp only[CB,FO,ASr];kernel_rfl
def HB(q:ASz)(w1:ASL)(q1:ASZ):ATV ASO:=
 bif q.1==1 then
 if(0:Int)<=q.2.1/\q.2.1<(w1.length:Int)then
 some ([(q.2.1,0,(w1.getD q.2.1.toNat Ab.zero).2.1,(0,([]:ASH),()),())]:ASO)
 else none
 else
 bif q.1==2 then
 (Dl q.2.2.2.2.1).bind λx1=>some ([((AO x1.1 x1.2).1,(AO x1.1 x1.2).2.1,(AO x1.1 x1.2).2.2.1,((AO x1.1 x1.2).2.2.2.1,(AO x1.1 x1.2).2.2.2.2,()),())]:ASO)
 else
 bif q.1==3 then
 (LO q1 (wI ((q1.length:Int)-1)) ([]:ASO)).bind λs1=>some s1
 else
 if(0:Int)<=(0:Int)/\(0:Int)<(q1.length:Int)then
 (FD (q1.getD 0 ATH.zero)).bind λs=>bif q.1==4 then
 (Ff (q1.getD 0 ATH.zero) q.2.2.2.1 (wI ((wI (q.2.2.1-q.2.2.2.1))+1))).bind λy1=>some y1
 else
 Po (Anw q q1 s) (
 bif bif (q.1==7)then(q.1==7)else(q.1==8)then
 if s=(0:Int)then none else
 (EF q s (q1.getD 0 ATH.zero) (Int.tmod q.2.2.1 s)).bind λo1=>(Ff (q1.getD 0 ATH.zero) (wI (s-o1)) o1).bind λa2=>(Ff (q1.getD 0 ATH.zero) 0 (wI (s-o1))).bind λb2=>(ER b2 a2).bind λc2=>some c2
 else
 bif q.1==9 then
 (HU (q1.getD 0 ATH.zero) q.2.2.1 0 ([]:ASO)).bind λg1=>some g1
 else
 if(q1.getD 0 ATH.zero).length*56<=140737488355328 then
 (DR 1).bind λd2=>(Cw q s (q1.getD 0 ATH.zero) (q1.getD 0 ATH.zero) (AO d2.1 d2.2).1 (AO d2.1 d2.2).2.1 (AO d2.1 d2.2).2.2.1 (AO d2.1 d2.2).2.2.2.1 (AO d2.1 d2.2).2.2.2.2).bind (Sum.elim (λi=>(LP i q.2.2.1 0 (q1.getD 0 ATH.zero)).bind λk=>some k) (λb1=>(LQ q.2.2.1 ((AO d2.1 d2.2).1,(AO d2.1 d2.2).2.1,(AO d2.1 d2.2).2.2.1,((AO d2.1 d2.2).2.2.2.1,(AO d2.1 d2.2).2.2.2.2,()),()) 0 (q1.getD 0 ATH.zero)).bind λc=>some c))
 else none)
 else none
def AFi:=Ci [.p Ah,.d ATK,.d ATS] [⟨[.FZ [] Ah,.AB [] ATK,.AB [] ATS],[],ASO,λp=>HB p.1.1 p.1.2.1 p.1.2.2.1,λr=>(.AG 0,[Cf r])⟩]
theorem Aga:Ao prog 154 AFi:=Av (fn:=f154) ⟨⟨yn,pk ⟨j8,df,kg,uM,uN,Agt,Agu,trivial⟩,λ_ R K=>by
 simp(disch:=refine id ?_;kernel_rfl) only[HB,ASs,LO,AF (AEs _) (K:=A0 yn f154 0 R K),Ev (AEt ..) (K:=A0 yn f154 0 R K),Ba (AEu ..) (K:=A0 yn f154 0 R K),HU,AF (AEv _ _) (K:=A0 yn f154 0 R K),Ba (AEw ..) (K:=A0 yn f154 0 R K),LP,AF (AEx _ _) (K:=A0 yn f154 0 R K),LQ,AF (AEy _ _) (K:=A0 yn f154 0 R K)];kernel_rfl⟩,trivial⟩
end
end Go.Proofs.X
namespace Go.Proofs.X
open Go Go.Va Go.Proofs.Tryz
set_option maxRecDepth 100000
noncomputable section
abbrev E96:=eN [(146,AkR)] {A5:=[(3,[3,9,10,11])],BB:=[(3,[3])]}
def ABU a b (z_:Int×ASO):=sT 26 [(3,.AG 0),(9,BV a),(10,dI b),(11,dI z_.1)] [B5 z_.2]
def AzK(a:ASO)(b:Int):=λ(c:ASO)=>xE 0 26 tC [B5 c]
def Jq(a:ASO)(b d:Int)(e:ASO):ATV (ATh⊕ASO):=
 bif decide (d<b)then
 if 0<=d/\d<a.length then
 (Dl (a.getD d.toNat Ag.zero).2.2.2.1).bind λg=>if 0<=d/\d<e.length then
 some (.inl (wI (d+1),e.set d.toNat ((a.getD d.toNat Ag.zero).1,(a.getD d.toNat Ag.zero).2.1,(a.getD d.toNat Ag.zero).2.2.1,(g.1,g.2,()),(a.getD d.toNat Ag.zero).2.2.2.2)))
 else none
 else none
 else
 some (.inr e)
def Db a b (z_:Int×ASO):=Jq a b z_.1 z_.2
def Q9 a b d e:=fix (Db a b) (d,e)
theorem AEz a b:A3 E96 0 3 (code f155) 58 (ABU a b) (Db a b) (AzK a b):=by
 intro _;simp only[Db,Jq,ASr];kernel_rfl
def M0(a:ASO):ATV ASO:=
 if Ty.row Ag=true/\(0:Int)<=(a.length:Int)/\(a.length:Int)<=(a.length:Int)/\((56:Nat):Int)*(a.length:Int)<=(281474976710656:Int)/\(a.length:Int)<=(9223372036854775807:Int)then
 (Q9 a (a.length:Int) 0 (List.replicate (a.length:Int).toNat (0,0,0,(0,([]:ASH),()),()))).bind λc=>some c
 else none
def AFj:=Ci [.d ATH] [⟨[.AB [] ATH],[],ASO,λp=>M0 p.1.1,λr=>(.AG 0,[B5 r])⟩]
theorem Agb:Ao prog 155 AFj:=Av (fn:=f155) ⟨⟨E96,pk ⟨kg,trivial⟩,λ_ R K=>by
 simp(disch:=refine id ?_;kernel_rfl) only[M0,ASs,Q9,AF (AEz _ _) (K:=A0 E96 f155 0 R K)];kernel_rfl⟩,trivial⟩
abbrev E97:=eN [(154,AFi),(155,AFj)] {Aw:=false,A5:=[(3,[0,3,6,18,19]),(8,[0,3,6,7,8,9,18,19,35,36,37])],BB:=[(3,{A7:=[4,5,6],O4:=[(6,false,ATS)]}),(8,{A7:=[0,3,6,7,8,9,18,19],O4:=[(9,false,ATS)]})],gk:=[(0,.row [] 218 Ag true)]}
def ABW a b c (z_:Int×ASZ):=sT 71 [(0,Ar a),(3,Aq),(6,.AG 1),(18,dI c),(19,dI z_.1)] [.box (G0 b),jF z_.2]
def AzM(a:ASL)(b:ASD)(c:Int):=Sum.elim (λ(d:ASZ)=>xR 71 [(4,.zs),(5,dB false),(6,OB d)] []) (λ(e:ASZ)=>xE 0 71 [(6,OB e)] [])
def ABV a g c b i j k l (z_:Int×ASZ):=sT 71 [(0,Ar a),(3,Aq),(6,.AG 1),(7,dI g),(8,.FZ [] Ah j),(9,.AG 2),(18,dI c),(19,dI g),(35,BJ k),(36,dI l),(37,dI z_.1)] [.box (G0 b),jF i,jF z_.2]
def AzL a g c b i j (k:ASH) (l:Int):=λ(n:ASZ)=>xE 2 71 [(0,Ar a),(3,Aq),(6,.AG 1),(7,dI g),(8,.FZ [] Ah j),(9,OB n),(18,dI c),(19,dI g)] [.box (G0 b),jF i]
def L9(a:ASL)(g c:Int)(b:ASD)(i:ASZ)(j:ASz)(k:ASH)(l o:Int)(q:ASZ):ATV ((Int×ASZ)⊕ASZ):=
 bif decide (o<l)then
 if 0<=o/\o<k.length then
 if(0:Int)<=(k.getD o.toNat ATE.zero)/\(k.getD o.toNat ATE.zero)<(i.length:Int)then
 if 0<=o/\o<q.length then
 some (.inl (wI (o+1),q.set o.toNat (i.getD (k.getD o.toNat ATE.zero).toNat ATH.zero)))
 else none
 else none
 else none
 else
 some (.inr q)
def FU a g c b i j k l (z_:Int×ASZ):=L9 a g c b i j k l z_.1 z_.2
def Up a g c b i j k l o q:=fix (FU a g c b i j k l) (o,q)
theorem AEA a g c b i j k l:A3 E97 0 8 (cd f121 116) 1850 (ABV a g c b i j k l) (FU a g c b i j k l) (AzL a g c b i j k l):=by
 intro _;simp only[FU,L9,ASr];kernel_rfl
def Rb(a:ASL)(b:ASD)(c g:Int)(i:ASZ):ATV ((Int×ASZ)⊕(ASZ⊕ASZ)):=
 bif decide (g<c)then
 if 0<=g/\g<b.1.length then
 if Ty.row ATH=true/\(0:Int)<=((b.1.getD g.toNat Ah.zero).2.2.2.2.2.1.length:Int)/\((b.1.getD g.toNat Ah.zero).2.2.2.2.2.1.length:Int)<=((b.1.getD g.toNat Ah.zero).2.2.2.2.2.1.length:Int)/\((24:Nat):Int)*((b.1.getD g.toNat Ah.zero).2.2.2.2.2.1.length:Int)<=(281474976710656:Int)/\((b.1.getD g.toNat Ah.zero).2.2.2.2.2.1.length:Int)<=(9223372036854775807:Int)then
 (Up a g c b i (b.1.getD g.toNat Ah.zero) (b.1.getD g.toNat Ah.zero).2.2.2.2.2.1 ((b.1.getD g.toNat Ah.zero).2.2.2.2.2.1.length:Int) 0 (List.replicate ((b.1.getD g.toNat Ah.zero).2.2.2.2.2.1.length:Int).toNat ([]:ASO))).bind λn=>(HB (b.1.getD g.toNat Ah.zero) a n).bind λs=>if 0<=g/\g<i.length then
 if 0<=g/\g<(i.set g.toNat s).length then
 bif decide ((((i.set g.toNat s).getD g.toNat ATH.zero).length:Int)>2000)then
 some (.inr (.inl (i.set g.toNat s)))
 else
 some (.inl (wI (g+1),i.set g.toNat s))
 else none
 else none
 else none
 else none
 else
 some (.inr (.inr i))
def Ma a b c (z_:Int×ASZ):=Rb a b c z_.1 z_.2
def YN a b c g i:=fix (Ma a b c) (g,i)
theorem AEB a b c:A3 E97 0 3 (code f121) 58 (ABW a b c) (Ma a b c) (AzM a b c):=by
 intro _;simp(disch:=refine id ?_;kernel_rfl) only[Ma,Rb,ASr,Up,AF (AEA _ _ _ _ _ _ _ _) (K:=JG E97 0 3)];kernel_rfl
def GL(a:ASL)(b:ASD):ATV AS8:=
 if Ty.row ATH=true/\(0:Int)<=(b.1.length:Int)/\(b.1.length:Int)<=(b.1.length:Int)/\((24:Nat):Int)*(b.1.length:Int)<=(281474976710656:Int)/\(b.1.length:Int)<=(9223372036854775807:Int)then
 (YN a b (b.1.length:Int) 0 (List.replicate (b.1.length:Int).toNat ([]:ASO))).bind (Sum.elim (λd=>some (false,([]:ASO))) (λe=>if 0<=(wI ((e.length:Int)-1))/\(wI ((e.length:Int)-1))<e.length then
 (M0 (e.getD (wI ((e.length:Int)-1)).toNat ATH.zero)).bind λt=>some (true,t)
 else none))
 else none
def Avo:=Ci [.d ATK,.d An] [⟨[.AB [] ATK,.AB [] An],[],AS8,λp=>GL p.1.1 p.1.2.1,λr=>(.cons HS (.cons (dB r.1) .nil),[B5 r.2])⟩]
theorem uF:Ao prog 121 Avo:=Av (fn:=f121) ⟨⟨E97,pk ⟨Aga,Agb,trivial⟩,λ_ R K=>by
 simp(disch:=refine id ?_;kernel_rfl) only[GL,ASs,YN,AF (AEB _ _ _) (K:=A0 E97 f121 0 R K)];kernel_rfl⟩,trivial⟩
abbrev E98:=eN [(120,Avn),(121,Avo)] {gk:=[(0,.row [] 218 Ag true)]}
def TS(a:ASL)(b:ASD):ATV AS8:=
 (Fh a b).bind λc=>bif decide (c<0)then
 some (false,([]:ASO))
 else
 (GL a b).bind λd=>some (d.1,d.2)
def c70:=Ci [.d ATK,.d An] [⟨[.AB [] ATK,.AB [] An],[],AS8,λp=>TS p.1.1 p.1.2.1,λr=>(.cons HS (.cons (dB r.1) .nil),[B5 r.2])⟩]
theorem Aln:Ao prog 70 c70:=Av (fn:=f70) ⟨⟨E98,pk ⟨uE,uF,trivial⟩,λ_ R K=>by
 simp only[TS,ASs];kernel_rfl⟩,trivial⟩
abbrev E99:=eN [(118,yZ),(120,Avn)] {A5:=[(5,[0,5,12,13,14])],BB:=[(5,[4])],Bw:=[(9,[0,7,12,13,14,39])],Da:=[(9,[0,5,7,8,12,13,14])]}
def ABY a b c (z_:Int×Int):=sT 43 [(0,Ar a),(5,dI z_.1),(12,Bb b),(13,dI c),(14,dI z_.2)] []
def AzO(a:ASL)(b:ASN)(c:Int):=Sum.elim (λ(d:Unit)=>xR 43 mQ []) (λ(e:Unit)=>xE 0 43 [] [])
def ABX a g i b c j k:=sT 43 [(0,Ar a),(5,dI g),(7,Aq),(8,dI i),(12,Bb b),(13,dI c),(14,dI j)] [.box (Yz k)]
def AzN a (g:Int) (i:Int) b c j k:=λ(l:Bool)=>xN 43 [(0,Ar a),(7,Aq),(12,Bb b),(13,dI c),(14,dI j),(39,dB l)] [.box (Yz k)]
def Dr(a:ASL)(g i:Int)(b:ASN)(c j:Int)(k:ASx):ATV Bool:=
 bif !(AW k.1 (wI (g+1)) 1000000)then
 some true
 else
 bif decide (i<0)then
 some true
 else
 (Fh a k.2.2.2.1).bind λn=>some (i !=n)
theorem AEC a g i b c j k:AQ E99 0 9 (cd f137 244) 460 (ABX a g i b c j k) (Dr a g i b c j k) (AzN a g i b c j k):=by
 unfold AQ;simp only[Dr,ASr];kernel_rfl
def Dx(a:ASL)(b:ASN)(c g j:Int):ATV (AS7⊕(Unit⊕Unit)):=
 bif decide (j<c)then
 if 0<=j/\j<b.length then
 (Fh a (b.getD j.toNat Af.zero).2.2.1).bind λi=>(Dr a g i b c j (b.getD j.toNat Af.zero)).bind λl=>bif l then
 some (.inr (.inl ()))
 else
 some (.inl ((b.getD j.toNat Af.zero).1,wI (j+1)))
 else none
 else
 some (.inr (.inr ()))
def BZ a b c (z_:Int×Int):=Dx a b c z_.1 z_.2
def VM a b c g j:=fix (BZ a b c) (g,j)
theorem AED a b c:A3 E99 0 5 (code f137) 122 (ABY a b c) (BZ a b c) (AzO a b c):=by
 intro _;simp(disch:=refine id ?_;kernel_rfl) only[BZ,Dx,ASr,Ba (AEC ..) (K:=JG E99 0 5)];kernel_rfl
def Gr(a:ASL)(b:ASN):ATV Bool:=
 bif decide ((b.length:Int)>60)then
 some false
 else
 (VM a b (b.length:Int) 0 0).bind (Sum.elim (λd=>some false) (λe=>some true))
def Avq:=Ci [.d ATK,.d ATL] [⟨[.AB [] ATK,.AB [] ATL],[],Bool,λp=>Gr p.1.1 p.1.2.1,λr=>(dB r,[])⟩]
theorem uH:Ao prog 137 Avq:=Av (fn:=f137) ⟨⟨E99,pk ⟨Xu,uE,trivial⟩,λ_ R K=>by
 simp(disch:=refine id ?_;kernel_rfl) only[Gr,ASs,VM,AF (AED _ _ _) (K:=A0 E99 f137 0 R K)];kernel_rfl⟩,trivial⟩
abbrev AIm:=eN [(69,c69),(137,Avq)] {}
def Ll(a:ASL)(b:ASN):ATV Bool:=
 (Kx a).bind λc=>bif c then
 (Gr a b).bind λd=>some d
 else
 some false
def AFk:=Ci [.d ATK,.d ATL] [⟨[.AB [] ATK,.AB [] ATL],[],Bool,λp=>Ll p.1.1 p.1.2.1,λr=>(dB r,[])⟩]
theorem Agc:Ao prog 156 AFk:=Av (fn:=f156) ⟨⟨AIm,pk ⟨qS,uH,trivial⟩,λ_ R K=>by
 simp only[Ll,ASs];kernel_rfl⟩,trivial⟩
abbrev Aep:=eN [(121,Avo)] {A5:=[(3,[0,6,16,17,18])],BB:=[(3,[4,5,6])],Bw:=[(8,[0,6,7,9,11,16,17,18,42])],Da:=[(8,[0,6,7,9,10,11,12,16,17,18])],gk:=[(0,.row [] 222 (.AH ATH (.AH ATH .unit)) true)]}
def Aq1 a b c (z_:Int×ATy):=sT 51 [(0,Ar a),(6,.AG 0),(16,Bb b),(17,dI c),(18,dI z_.1)] [CS z_.2]
def Ao5(a:ASL)(b:ASN)(c:Int):=Sum.elim (λ(d:ATy)=>xR 51 [(4,.zs),(5,dB false),(6,.AG 0)] [CS d]) (λ(e:ATy)=>xE 0 51 tE [CS e])
def AeS a g (i:AS8) (j:AS8) b c k:=sT 51 [(0,Ar a),(6,.AG 0),(7,dI g),(9,.AG 1),(10,dB i.1),(11,.AG 2),(12,dB j.1),(16,Bb b),(17,dI c),(18,dI g)] [CS k,B5 i.2,B5 j.2]
def yu(a:ASL)(g:Int)(i j:AS8)(b:ASN)(c:Int)(k:ATy)(m0:Bool):Ex×St:=xN 51 [(0,Ar a),(6,.AG 0),(7,dI g),(9,.AG 1),(11,.AG 2),(16,Bb b),(17,dI c),(18,dI g),(42,dB m0)] [CS k,B5 i.2,B5 j.2]
theorem AsX a g i j b c k:XJ Aep 0 8 (cd f99 116) (pt 924) (AeS a g i j b c k)=some (yu a g i j b c k ((!i.1)||(!j.1))):=by
 refine .trans (b:=
 bif !i.1 then
 some (yu a g i j b c k true)
 else
 some (yu a g i j b c k (!j.1))) (by kernel_rfl) ?_
 cases (!i.1);rfl;rfl
def Uq(a:ASL)(b:ASN)(c g:Int)(k:ATy):ATV ((Int×ATy)⊕(ATy⊕ATy)):=
 bif decide (g<c)then
 if 0<=g/\g<b.length then
 (GL a (b.getD g.toNat Af.zero).2.2.1).bind λi=>(GL a (b.getD g.toNat Af.zero).2.2.2.1).bind λj=>Po (AeS a g i j b c k) (
 bif (!i.1)||(!j.1)then
 some (.inr (.inl k))
 else
 if 0<=g/\g<k.length then
 some (.inl (wI (g+1),k.set g.toNat (i.2,j.2,())))
 else none)
 else none
 else
 some (.inr (.inr k))
def Pz a b c (z_:Int×ATy):=Uq a b c z_.1 z_.2
def bm a b c g k:=fix (Pz a b c) (g,k)
theorem AsY a b c:A3 Aep 0 3 (code f99) 58 (Aq1 a b c) (Pz a b c) (Ao5 a b c):=by
 intro _;simp(disch:=refine id ?_;kernel_rfl) only[Pz,Uq,ASr,Ev (AsX ..) (K:=JG Aep 0 3)];kernel_rfl
def Qk(a:ASL)(b:ASN):ATV (Bool×ATy):=
 if Ty.row (.AH ATH (.AH ATH .unit))=true/\(0:Int)<=(b.length:Int)/\(b.length:Int)<=(b.length:Int)/\((48:Nat):Int)*(b.length:Int)<=(281474976710656:Int)/\(b.length:Int)<=(9223372036854775807:Int)then
 (bm a b (b.length:Int) 0 (List.replicate (b.length:Int).toNat (([]:ASO),([]:ASO),()))).bind (Sum.elim (λd=>some (false,([]:ATU ATs))) (λe=>some (true,e)))
 else none
def c99:=Ci [.d ATK,.d ATL] [⟨[.AB [] ATK,.AB [] ATL],[],Bool×ATy,λp=>Qk p.1.1 p.1.2.1,λr=>(.cons HS (.cons (dB r.1) .nil),[CS r.2])⟩]
theorem qV:Ao prog 99 c99:=Av (fn:=f99) ⟨⟨Aep,pk ⟨uF,trivial⟩,λ_ R K=>by
 simp(disch:=refine id ?_;kernel_rfl) only[Qk,ASs,bm,AF (AsY _ _ _) (K:=A0 Aep f99 0 R K)];kernel_rfl⟩,trivial⟩
abbrev AIn:=eN [(99,c99),(156,AFk)] {}
def L8(a:ASL)(b:ASN):ATV Bool:=
 (Ll a b).bind λc=>bif !c then
 some false
 else
 (Qk a b).bind λd=>some d.1
def AEV:=Ci [.d ATK,.d ATL] [⟨[.AB [] ATK,.AB [] ATL],[],Bool,λp=>L8 p.1.1 p.1.2.1,λr=>(dB r,[])⟩]
theorem AfM:Ao prog 122 AEV:=Av (fn:=f122) ⟨⟨AIn,pk ⟨qV,Agc,trivial⟩,λ_ R K=>by
 simp only[L8,ASs];kernel_rfl⟩,trivial⟩
abbrev Aeq:=eN [] {Aw:=false,A5:=[(3,{A7:=[3,7,8,9],Cg:=[(3,false,.row [] 87 Af false)]})],BB:=[(3,{A7:=[3],O4:=[(3,false,ATL)]})],Bw:=[(7,{A7:=[3,7,8,9],Cg:=[(3,false,.row [] 87 Af false)]})],Da:=[(7,[3,7,8,9])],O4:=[(0,ATL)]}
def Aq3 a b (z_:Int×ASN):=sT 21 (AjQ a b z_.1) [OC z_.2]
def Ao7(a:ASN)(b:Int):=λ(c:ASN)=>xE 0 21 [(3,Bb c)] []
def Aq2 a b d e:=sT 21 (AjQ a b d) [OC e]
def Ao6 a b d (e:ASN):=λ(g:ASN)=>xN 21 (AjQ a b d) [OC g]
def Kz(a:ASN)(b d:Int)(e:ASN):ATV ASN:=
 if 0<=d/\d<a.length then
 bif (a.getD d.toNat Af.zero).2.1 then
 if(e.length+([a.getD d.toNat Af.zero]:ASN).length)*64<=140737488355328 then
 some (e++([a.getD d.toNat Af.zero]:ASN))
 else none
 else
 some e
 else none
theorem AsZ a b d e:AQ Aeq 0 7 (cd f79 116) 14 (Aq2 a b d e) (Kz a b d e) (Ao6 a b d e):=by
 unfold AQ;simp only[Kz,ASr];kernel_rfl
def IC(a:ASN)(b d:Int)(e:ASN):ATV (ATf⊕ASN):=
 bif decide (d<b)then
 (Kz a b d e).bind λg=>some (.inl (wI (d+1),g))
 else
 some (.inr e)
def Dv a b (z_:Int×ASN):=IC a b z_.1 z_.2
def Qj a b d e:=fix (Dv a b) (d,e)
theorem As0 a b:A3 Aeq 0 3 (code f79) 58 (Aq3 a b) (Dv a b) (Ao7 a b):=by
 intro _;simp(disch:=refine id ?_;kernel_rfl) only[Dv,IC,ASr,Ba (AsZ ..) (K:=JG Aeq 0 3)];kernel_rfl
def Ip(a:ASN):ATV ASN:=
 (Qj a (a.length:Int) 0 ([]:ASN)).bind λc=>some c
def c79:=Ci [.d ATL] [⟨[.AB [] ATL],[],ASN,λp=>Ip p.1.1,λr=>(Bb r,[])⟩]
theorem AaZ:Ao prog 79 c79:=Av (fn:=f79) ⟨⟨Aeq,pk trivial,λ_ R K=>by
 simp(disch:=refine id ?_;kernel_rfl) only[Ip,ASs,Qj,AF (As0 _ _) (K:=A0 Aeq f79 0 R K)];kernel_rfl⟩,trivial⟩
end
end Go.Proofs.X
namespace Go.Proofs.X
open Go Go.Va Go.Proofs.Tryz
set_option maxRecDepth 100000
noncomputable section
abbrev AIo:=eN [] {}
def TT(a:ASL):ATV ASV:=
 if Ty.row ATJ=true/\(0:Int)<=(a.length:Int)/\(a.length:Int)<=(a.length:Int)/\((24:Nat):Int)*(a.length:Int)<=(281474976710656:Int)/\(a.length:Int)<=(9223372036854775807:Int)then
 some (List.replicate (a.length:Int).toNat ([]:ASH))
 else none
def AEW:=Ci [.d ATK] [⟨[.AB [] ATK],[],ASV,λp=>TT p.1.1,λr=>(.pr HS .u,[Dn r])⟩]
theorem AfN:Ao prog 123 AEW:=Av (fn:=f123) ⟨⟨AIo,pk trivial,λ_ R K=>by
 simp only[TT,ASs];kernel_rfl⟩,trivial⟩
abbrev Aer:=eN [(118,yZ)] {A5:=[(4,[0,17,18,19]),(8,[0,5,7,17,18,19,24,25,26])],BB:=[(4,[4]),(8,[0,4,17,18,19])]}
def Aq5 a b c (z_:Int):=sT 44 [(0,Ar a),(17,Ik b),(18,dI c),(19,dI z_)] []
def Ao9(a:ASL)(b:ASV)(c:Int):=Sum.elim (λ(d:Unit)=>xR 44 mQ []) (λ(e:Unit)=>xE 0 44 [] [])
def Aq4 a g b c i j (z_:Int×Int):=sT 44 [(0,Ar a),(5,dI g),(7,dI z_.1),(17,Ik b),(18,dI c),(19,dI g),(24,BJ i),(25,dI j),(26,dI z_.2)] []
def Ao8 a g b c (i:ASH) (j:Int):=Sum.elim (λ(k:Unit)=>xR 44 [(0,Ar a),(4,dB false),(17,Ik b),(18,dI c),(19,dI g)] []) (λ(l:Unit)=>xE 2 44 [(0,Ar a),(17,Ik b),(18,dI c),(19,dI g)] [])
def NP(a:ASL)(g:Int)(b:ASV)(c:Int)(i:ASH)(j n o:Int):ATV (AS7⊕(Unit⊕Unit)):=
 bif decide (o<j)then
 if 0<=o/\o<i.length then
 if 0<=g/\g<a.length then
 bif !(AW (i.getD o.toNat ATE.zero) (wI (n+1)) (wI ((a.getD g.toNat Ab.zero).2.1-1)))then
 some (.inr (.inl ()))
 else
 some (.inl (i.getD o.toNat ATE.zero,wI (o+1)))
 else none
 else none
 else
 some (.inr (.inr ()))
def G7 a g b c i j (z_:Int×Int):=NP a g b c i j z_.1 z_.2
def Zz a g b c i j n o:=fix (G7 a g b c i j) (n,o)
theorem As1 a g b c i j:A3 Aer 0 8 (cd f159 116) 462 (Aq4 a g b c i j) (G7 a g b c i j) (Ao8 a g b c i j):=by
 intro _;simp only[G7,NP,ASr];kernel_rfl
def NQ(a:ASL)(b:ASV)(c g:Int):ATV (Int⊕(Unit⊕Unit)):=
 bif decide (g<c)then
 if 0<=g/\g<b.length then
 (Zz a g b c (b.getD g.toNat ATJ.zero) ((b.getD g.toNat ATJ.zero).length:Int) 0 0).bind (Sum.elim (λk=>some (.inr (.inl ()))) (λl=>some (.inl (wI (g+1)))))
 else none
 else
 some (.inr (.inr ()))
def JX a b c (z_:Int):=NQ a b c z_
def ZA a b c g:=fix (JX a b c) g
theorem As2 a b c:A3 Aer 0 4 (code f159) 58 (Aq5 a b c) (JX a b c) (Ao9 a b c):=by
 intro _;simp(disch:=refine id ?_;kernel_rfl) only[JX,NQ,ASr,Zz,AF (As1 _ _ _ _ _ _) (K:=JG Aer 0 4)];kernel_rfl
def TQ(a:ASL)(q:ASC):ATV Bool:=
 bif (q.1.length:Int) !=(a.length:Int)then
 some false
 else
 (ZA a q.1 (q.1.length:Int) 0).bind (Sum.elim (λd=>some false) (λe=>some true))
def AFm:=Ci [.d ATK,.d Am] [⟨[.AB [] ATK,.AB [] Am],[],Bool,λp=>TQ p.1.1 p.1.2.1,λr=>(dB r,[])⟩]
theorem Age:Ao prog 159 AFm:=Av (fn:=f159) ⟨⟨Aer,pk ⟨Xu,trivial⟩,λ_ R K=>by
 simp(disch:=refine id ?_;kernel_rfl) only[TQ,ASs,ZA,AF (As2 _ _ _) (K:=A0 Aer f159 0 R K)];kernel_rfl⟩,trivial⟩
abbrev AIp:=eN [(69,c69),(159,AFm)] {}
def TP(a:ASL)(b:ASC):ATV Bool:=
 (Kx a).bind λc=>bif c then
 (TQ a b).bind λd=>some d
 else
 some false
def AE4:=Ci [.d ATK,.d Am] [⟨[.AB [] ATK,.AB [] Am],[],Bool,λp=>TP p.1.1 p.1.2.1,λr=>(dB r,[])⟩]
theorem AfW:Ao prog 136 AE4:=Av (fn:=f136) ⟨⟨AIp,pk ⟨qS,Age,trivial⟩,λ_ R K=>by
 simp only[TP,ASs];kernel_rfl⟩,trivial⟩
abbrev Aoy:=eN [] {wD:=[(39,4)],Bw:=[(1,[0,1,2,32])],Da:=[(1,[0,1,2])],Xm:=[.mv 0 [3],.Bd 3]}
def Aq6(a:Int) b c d e g:=sT 54 [(0,.ptr 0 a [] 0),(1,dI b),(2,dI c)] [.box (.pr (Ar d) Acj),Ce e,.Bd,FK g]
def Apa(a:Int) b c d e g:=λ(i:Bool)=>xN 54 [(0,.ptr 0 a [] 0),(1,dI b),(2,dI c),(32,dB i)] [.box (.pr (Ar d) Acj),Ce e,.Bd,FK g]
def HC(a b c:Int)(d:ASL)(e:ASW)(g:ASK):ATV Bool:=
 bif decide (c>0)then
 if 0<=b/\b<d.length then
 bif decide (c<(d.getD b.toNat Ab.zero).2.1)then
 if 0<=b/\b<e.length then
 if 0<=c/\c<(e.getD b.toNat ATM.zero).length then
 some (!((e.getD b.toNat ATM.zero).getD c.toNat (Ty.zero .bool)))
 else none
 else none
 else
 some false
 else none
 else
 some false
theorem As3 a b c d e g:AQ Aoy 4 1 (code f160) 2 (Aq6 a b c d e g) (HC a b c d e g) (Apa a b c d e g):=by
 unfold AQ;simp only[HC,ASr];kernel_rfl
def BN(a b c:Int)(d:ASL)(e:ASW)(g:ASK):ATV AS9:=
 (HC a b c d e g).bind λi=>bif i then
 if 0<=b/\b<e.length then
 if(0:Int)<=c/\c<(e.getD b.toNat ATM.zero).length then
 if(g.length+([(b,c,())]:ASK).length)*16<=140737488355328 then
 some (d,e.set b.toNat ((e.getD b.toNat ATM.zero).set c.toNat true),g++([(b,c,())]:ASK))
 else none
 else none
 else none
 else
 some (d,e,g)
def AkU:=Aob [2] (Ci [.VA,.d ATE,.d ATE] [⟨[.ptr 0 [] 0,.AB [] ATE,.AB [] ATE],[.box (.pr (.AB [] ATK) (.pr (.k I8) (.pr (.k (.mp 2)) (.pr (.k (.AG 3)) (.k .u))))),.row 154 .Aw ATM,.Bd,.row 225 .Aw Aa],AS9,λp=>BN p.1.1 p.1.2.1 p.1.2.2.1 p.2.1.1 p.2.2.1 p.2.2.2.2.1,λr=>(.nil,[.box (.pr (Ar r.1) (.pr I8 (.pr (.mp 2) eZ))),Ce r.2.1,.Bd,.Bd,FK r.2.2])⟩])
theorem ki:Ao prog 160 AkU:=AhZ _ (Av (fn:=f160) ⟨⟨Aoy,pk trivial,λ_ R K=>by
 simp(disch:=refine id ?_;kernel_rfl) only[BN,ASs,Ba (As3 ..) (K:=A0 Aoy f160 4 R K)];kernel_rfl⟩,trivial⟩)
abbrev Aes:=eN [(160,AkU)] {A5:=[(3,{A7:=[3,5,17,18,19],Cg:=[(5,true,.row [3] 225 Aa true)]}),(7,{A7:=[3,5,6,17,18,19,37,38,39],Cg:=[(5,true,.row [3] 225 Aa true)]})],BB:=[(3,[5]),(7,[3,5,17,18,19])]}
def Aq8 a b c (z_:Int×ASL×ASW×ASK):=sT 50 [(3,Aq),(5,A1),(17,Ar a),(18,dI c),(19,dI z_.1)] [.box (BM b),.box (.pr (Ar z_.2.1) Akb),Ce z_.2.2.1,HQ ([]:ATU AS2) none,FK z_.2.2.2]
def Apc(a:ASL)(b:ASC)(c:Int):=λ(d:AS9)=>xE 0 50 [(5,Aq)] [.box (.pr (Ar d.1) Acj),Ce d.2.1,HQ ([]:ATU AS2) none,FK d.2.2]
def Aq7 e a c b g i (z_:Int×ASL×ASW×ASK):=sT 50 [(3,Aq),(5,A1),(6,dI e),(17,Ar a),(18,dI c),(19,dI e),(37,BJ g),(38,dI i),(39,dI z_.1)] [.box (BM b),.box (.pr (Ar z_.2.1) Akb),Ce z_.2.2.1,HQ ([]:ATU AS2) none,FK z_.2.2.2]
def Apb e a c b (g:ASH) (i:Int):=λ(j:AS9)=>xE 2 50 [(3,Aq),(5,A1),(17,Ar a),(18,dI c),(19,dI e)] [.box (BM b),.box (.pr (Ar j.1) Akb),Ce j.2.1,HQ ([]:ATU AS2) none,FK j.2.2]
def Jx(e:Int)(a:ASL)(c:Int)(b:ASC)(g:ASH)(i k:Int)(l:ASL)(n:ASW)(o:ASK):ATV (ATn⊕AS9):=
 bif decide (k<i)then
 if 0<=k/\k<g.length then
 (BN 0 e (g.getD k.toNat ATE.zero) l n o).bind λq=>some (.inl (wI (k+1),q.1,q.2.1,q.2.2))
 else none
 else
 some (.inr (l,n,o))
def Eh e a c b g i (z_:Int×ASL×ASW×ASK):=Jx e a c b g i z_.1 z_.2.1 z_.2.2.1 z_.2.2.2
def Rh e a c b g i k l n o:=fix (Eh e a c b g i) (k,l,n,o)
theorem As4 e a c b g i:A3 Aes 0 7 (cd f138 116) 462 (Aq7 e a c b g i) (Eh e a c b g i) (Apb e a c b g i):=by
 intro _;simp only[Eh,Jx,ASr];kernel_rfl
def Jy(a:ASL)(b:ASC)(c e:Int)(s:ASL)(t:ASW)(u:ASK):ATV (ATn⊕AS9):=
 bif decide (e<c)then
 if 0<=e/\e<a.length then
 if Ty.row .bool=true/\(0:Int)<=(a.getD e.toNat Ab.zero).2.1/\(a.getD e.toNat Ab.zero).2.1<=(a.getD e.toNat Ab.zero).2.1/\((1:Nat):Int)*(a.getD e.toNat Ab.zero).2.1<=(281474976710656:Int)/\(a.getD e.toNat Ab.zero).2.1<=(9223372036854775807:Int)then
 if 0<=e/\e<t.length then
 if 0<=e/\e<b.1.length then
 (Rh e a c b (b.1.getD e.toNat ATJ.zero) ((b.1.getD e.toNat ATJ.zero).length:Int) 0 s (t.set e.toNat (List.replicate (a.getD e.toNat Ab.zero).2.1.toNat false)) u).bind λj=>some (.inl (wI (e+1),j.1,j.2.1,j.2.2))
 else none
 else none
 else none
 else none
 else
 some (.inr (s,t,u))
def Ei a b c (z_:Int×ASL×ASW×ASK):=Jy a b c z_.1 z_.2.1 z_.2.2.1 z_.2.2.2
def Ri a b c e s t u:=fix (Ei a b c) (e,s,t,u)
theorem As5 a b c:A3 Aes 0 3 (code f138) 58 (Aq8 a b c) (Ei a b c) (Apc a b c):=by
 intro _;simp(disch:=refine id ?_;kernel_rfl) only[Ei,Jy,ASr,Rh,AF (As4 _ _ _ _ _ _) (K:=JG Aes 0 3)];kernel_rfl
def M7(a:ASL)(b:ASC):ATV (Int×ASL×ASW×ATr×ASK):=
 if Ty.row ATM=true/\(0:Int)<=(a.length:Int)/\(a.length:Int)<=(a.length:Int)/\((24:Nat):Int)*(a.length:Int)<=(281474976710656:Int)/\(a.length:Int)<=(9223372036854775807:Int)then
 (Ri a b (a.length:Int) 0 a (List.replicate (a.length:Int).toNat ([]:ASI)) ([]:ASK)).bind λd=>some (0,d.1,d.2.1,([]:ATU AS2),d.2.2)
 else none
def AE5:=Ci [.d ATK,.d Am] [⟨[.AB [] ATK,.AB [] Am],[],Int×ASL×ASW×ATr×ASK,λp=>M7 p.1.1 p.1.2.1,λr=>(.ptr 0 r.1 [] 0,[.box (.pr (Ar r.2.1) Acj),Ce r.2.2.1,HQ r.2.2.2.1 none,FK r.2.2.2.2])⟩]
theorem AfX:Ao prog 138 AE5:=Av (fn:=f138) ⟨⟨Aes,pk ⟨ki,trivial⟩,λ_ R K=>by
 simp(disch:=refine id ?_;kernel_rfl) only[M7,ASs,Ri,AF (As5 _ _ _) (K:=A0 Aes f138 0 R K)];kernel_rfl⟩,trivial⟩
abbrev Axz:=eN [] {Aw:=false,take:=[25]}
def AFE:=zE [.VA,.VA] Axz f182
theorem Agw:Ao prog 182 AFE:=dR (pk trivial)
abbrev ql:=eN [(182,AFE)] {Aw:=false,A5:=[(3,[0,3,9,10,11]),(11,{A7:=[6,25,26,27],Cg:=[(6,false,.row [] 218 Ag false)]})],BB:=[(3,[0,3]),(11,[6])],Bw:=[(8,[0,3,9,10,11])],Da:=[(8,[0,3,9,10,11])]}
def Arc a b (z_:Int×ASO):=sT 36 [(6,.AG 0),(25,OB a),(26,dI b),(27,dI z_.1)] [Cf z_.2]
def Apg(a:ASZ)(b:Int):=λ(c:ASO)=>xE 2 36 tE [Cf c]
def Rz(a:ASZ)(b d:Int)(e:ASO):ATV (ATh⊕ASO):=
 bif decide (d<b)then
 if 0<=d/\d<a.length then
 if(e.length+(a.getD d.toNat ATH.zero).length)*56<=140737488355328 then
 some (.inl (wI (d+1),e++(a.getD d.toNat ATH.zero)))
 else none
 else none
 else
 some (.inr e)
def KR a b (z_:Int×ASO):=Rz a b z_.1 z_.2
def Ua a b d e:=fix (KR a b) (d,e)
theorem As9 a b:A3 ql 0 11 (code f161) 250 (Arc a b) (KR a b) (Apg a b):=by
 intro _;simp only[KR,Rz,ASr];kernel_rfl
def Arb a g (z_:Int×ASO):=sT 36 [(6,.AG 0),(25,OB a),(26,dI g),(27,dI z_.1)] [Cf z_.2]
def Apf(a:ASZ)(g:Int):=λ(i:ASO)=>xE 2 36 tE [Cf i]
def GX(a:ASZ)(g j:Int)(k:ASO):ATV (ATh⊕ASO):=
 bif decide (j<g)then
 if 0<=j/\j<a.length then
 if(k.length+(a.getD j.toNat ATH.zero).length)*56<=140737488355328 then
 some (.inl (wI (j+1),k++(a.getD j.toNat ATH.zero)))
 else none
 else none
 else
 some (.inr k)
def C6 a g (z_:Int×ASO):=GX a g z_.1 z_.2
def Np a g j k:=fix (C6 a g) (j,k)
theorem As8 a g:A3 ql 0 11 (code f161) 250 (Arb a g) (C6 a g) (Apf a g):=by
 intro _;simp only[C6,GX,ASr];kernel_rfl
def Ara a l (z_:Int×Int):=sT 36 [(0,OB a),(3,dI z_.1),(9,OB a),(10,dI l),(11,dI z_.2)] []
def Ape a (l:Int):=λ(n:Int)=>xE 0 36 [(0,OB a),(3,dI n)] []
def Aq9 a o l q:=sT 36 [(0,OB a),(3,dI o),(9,OB a),(10,dI l),(11,dI q)] []
def Apd a (o:Int) l (q:Int):=λ(s:Unit)=>xN 36 [(0,OB a),(3,dI (wI (o+((a.getD q.toNat ATH.zero).length:Int)))),(9,OB a),(10,dI l),(11,dI q)] []
def IX(a:ASZ)(o l q:Int):ATV Unit:=
 if 0<=q/\q<a.length then
 bif decide ((wI (o+((a.getD q.toNat ATH.zero).length:Int)))<0)then
 none
 else
 some ()
 else none
theorem As6 a o l q:AQ ql 0 8 (cd f161 116) 14 (Aq9 a o l q) (IX a o l q) (Apd a o l q):=by
 unfold AQ;simp only[IX,ASr];kernel_rfl
def GV(a:ASZ)(l o q:Int):ATV (AS7⊕Int):=
 bif decide (q<l)then
 (IX a o l q).bind λs=>some (.inl (wI (o+((a.getD q.toNat ATH.zero).length:Int)),wI (q+1)))
 else
 some (.inr o)
def C5 a l (z_:Int×Int):=GV a l z_.1 z_.2
def Nn a l o q:=fix (C5 a l) (o,q)
theorem As7 a l:A3 ql 0 3 (code f161) 58 (Ara a l) (C5 a l) (Ape a l):=by
 intro _;simp(disch:=refine id ?_;kernel_rfl) only[C5,GV,ASr,Ba (As6 ..) (K:=JG ql 0 3)];kernel_rfl
def IW(a:ASZ):ATV ASO:=
 (Nn a (a.length:Int) 0 0).bind λn=>bif decide (n<0)then
 none
 else
 bif decide ((wI (n-0))>0)then
 if(0:Int)<=(wI (n-0))/\(wI (n-0))*((56:Nat):Int)<=(140737488355328:Int)then
 if(0:Int)<=(0:Int)/\(0:Int)<=((List.replicate (wI (n-0)).toNat (0,0,0,(0,([]:ASH),()),())).length:Int)then
 (Np a (a.length:Int) 0 ((List.replicate (wI (n-0)).toNat (0,0,0,(0,([]:ASH),()),())).take 0)).bind λi=>some i
 else none
 else none
 else
 (Ua a (a.length:Int) 0 ([]:ASO)).bind λc=>some c
def AFn:=Ci [.d ATS] [⟨[.AB [] ATS],[],ASO,λp=>IW p.1.1,λr=>(.AG 0,[Cf r])⟩]
theorem Agf:Ao prog 161 AFn:=Av (fn:=f161) ⟨⟨ql,pk ⟨Agw,trivial⟩,λ_ R K=>by
 simp(disch:=refine id ?_;kernel_rfl) only[IW,ASs,Nn,AF (As7 _ _) (K:=A0 ql f161 0 R K),Np,AF (As8 _ _) (K:=A0 ql f161 0 R K),Ua,AF (As9 _ _) (K:=A0 ql f161 0 R K)];kernel_rfl⟩,trivial⟩
abbrev yj:=eN [] {A5:=[(3,{A7:=[3,8,9,10],Cg:=[(3,false,.row [] 252 Ae true)]}),(7,[3,5,6,8,9,10])],BB:=[(3,[3]),(7,[3,8,9,10])],Bw:=[(8,[3,5,6,8,9,10])],Da:=[(8,[3,5,6,8,9,10])]}
def Arf a b (z_:Int×ASM):=sT 43 [(3,.AG 0),(8,BV a),(9,dI b),(10,dI z_.1)] [YB z_.2]
def Apj(a:ASO)(b:Int):=λ(c:ASM)=>xE 0 43 tC [YB c]
def Are a b d e (z_:Int×ASM):=sT 43 (AjR z_.1 a b d) [YB z_.2,.box (Lf e)]
def Api a b d (e:ASy):=λ(g:ASM)=>xE 2 43 [(3,.AG 0),(8,BV a),(9,dI b),(10,dI d)] [YB g]
def Ard i a b d j e:=sT 43 (AjR i a b d) [YB j,.box (Lf e)]
def Aph i a b d (j:ASM) e:=λ(k:ASM)=>xN 43 (AjR i a b d) [YB k,.box (Lf e)]
def Lm(i:Int)(a:ASO)(b d:Int)(j:ASM)(e:ASy):ATV ASM:=
 bif e.1==(-1)then
 if(j.length+([(2,0,0,())]:ASM).length)*24<=140737488355328 then
 some (j++([(2,0,0,())]:ASM))
 else none
 else
 if(j.length+([(1,e.1,wI (e.2.1+i),())]:ASM).length)*24<=140737488355328 then
 some (j++([(1,e.1,wI (e.2.1+i),())]:ASM))
 else none
theorem Ata i a b d j e:AQ yj 0 8 (sb (cd f162 116) 924) 6 (Ard i a b d j e) (Lm i a b d j e) (Aph i a b d j e):=by
 unfold AQ;simp only[Lm,ASr];kernel_rfl
def Md(a:ASO)(b d:Int)(e:ASy)(i:Int)(j:ASM):ATV (AS6⊕ASM):=
 bif decide (i<e.2.2.1)then
 (Lm i a b d j e).bind λk=>some (.inl (wI (i+1),k))
 else
 some (.inr j)
def FW a b d e (z_:Int×ASM):=Md a b d e z_.1 z_.2
def PE a b d e i j:=fix (FW a b d e) (i,j)
theorem Atb a b d e:A3 yj 0 7 (cd f162 116) 462 (Are a b d e) (FW a b d e) (Api a b d e):=by
 intro _;simp(disch:=refine id ?_;kernel_rfl) only[FW,Md,ASr,Ba (Ata ..) (K:=JG yj 0 7)];kernel_rfl
def Me(a:ASO)(b d:Int)(l:ASM):ATV (AS6⊕ASM):=
 bif decide (d<b)then
 if 0<=d/\d<a.length then
 if(l.length+([(0,0,0,())]:ASM).length)*24<=140737488355328 then
 (PE a b d (a.getD d.toNat Ag.zero) 1 (l++([(0,0,0,())]:ASM))).bind λg=>some (.inl (wI (d+1),g))
 else none
 else none
 else
 some (.inr l)
def FX a b (z_:Int×ASM):=Me a b z_.1 z_.2
def PF a b d l:=fix (FX a b) (d,l)
theorem Atc a b:A3 yj 0 3 (code f162) 58 (Arf a b) (FX a b) (Apj a b):=by
 intro _;simp(disch:=refine id ?_;kernel_rfl) only[FX,Me,ASr,PE,AF (Atb _ _ _ _) (K:=JG yj 0 3)];kernel_rfl
def KH(a:ASO):ATV ASM:=
 (PF a (a.length:Int) 0 ([]:ASM)).bind λc=>some c
def AFo:=Ci [.d ATH] [⟨[.AB [] ATH],[],ASM,λp=>KH p.1.1,λr=>(.AG 0,[YB r])⟩]
theorem Agg:Ao prog 162 AFo:=Av (fn:=f162) ⟨⟨yj,pk trivial,λ_ R K=>by
 simp(disch:=refine id ?_;kernel_rfl) only[KH,ASs,PF,AF (Atc _ _) (K:=A0 yj f162 0 R K)];kernel_rfl⟩,trivial⟩
abbrev SB:=eN [(160,AkU),(161,AFn),(162,AFo)] {Aw:=false,A5:=[(1,{A7:=[0,1,2,18,19,20],mvp:=[(0,[3])]}),(9,{A7:=[0,8,9,10],O4:=[(8,false,ATN),(9,false,ATN)]})],BB:=[(1,[0,1,2]),(9,{A7:=[]})],Bw:=[(6,{A7:=[0,1,2,18,19,20],mvp:=[(0,[3])]}),(10,[0,8,9,10]),(13,[0,8,9,10,11,12,61]),(15,[0,8,9,10,11,12,76]),(17,[0,8,9,10,11,12,91])],YH:=[(11,{A7:=[0,8,9,10,11,12],ZJ:=true}),(17,{A7:=[0,8,9,10,13,14],ZJ:=true}),(18,{A7:=[0,8,9,10,13,14],ZJ:=true}),(19,{A7:=[0,8,9,10],ZJ:=true})],Da:=[(6,[0,1,2,18,19,20]),(10,[0,8,9,10]),(13,[0,8,9,10,11,12]),(15,[0,8,9,10,11,12]),(17,[0,8,9,10,11,12])],Zm:=[(11,[0,8,9,10]),(17,[0,8,9,10,11,12]),(18,[0,8,9,10,13,14]),(19,[0,8,9,10,13,14])],iI:=[(17,ATS)]}
def AkA(a:Int) b c d (z_:Int×ASL×ASW×ATr×ASK):=sT 132 (xL a b c z_.1) (mL z_.2.1 d z_.2.2.1 z_.2.2.2.1 z_.2.2.2.2)
def Akw(a:Int)(b c:ASM) d:=λ(e:ATz)=>xE 2 132 [] (mL e.1 d e.2.1 e.2.2.1 e.2.2.2)
def Akz(a:Int) b c g i d j (k:ATr) l:=sT 132 (xL a b c g) (mL i d j k l)
def Akv(a:Int) b c g (i:ASL) d (j:ASW) (k:ATr) (l:ASK):=λ(n:ATz)=>xN 132 (xL a b c g) (mL n.1 d n.2.1 n.2.2.1 n.2.2.2)
def AeZ(a:Int) b c g i d j (o:ATr) l q s t u:=sT 132 (Ace a b c g) (Acf i d j o q s t u l)
def yA(a:Int) b c g i d j (o:ATr) l (q:Int) (s:Int) (t:Int) (u:Int):=λ(v:ATr)=>sT 132 (xL a b c g) (mL i d j v l)
def Ef(a:Int)(b c:ASM)(g:Int)(i:ASL)(d:ATy)(j:ASW)(o:ATr)(l:ASK)(q s t u:Int):ATV ATr:=
 if((Bs Aa ATI o (t,u,())).length+([(q,s,())]:ASK).length)*16<=140737488355328 then
 bif Xy Aa ATI (Cr Aa ATI o (t,u,()) (Bs Aa ATI o (t,u,()))) (t,u,()) (YS Aa ATI o (t,u,()))then
 bif Bg Aa (t,u,()) (t,u,())then
 some (Cr Aa ATI (Cr Aa ATI o (t,u,()) (Bs Aa ATI o (t,u,()))) (t,u,()) ((Bs Aa ATI o (t,u,()))++([(q,s,())]:ASK)))
 else
 none
 else
 none
 else none
noncomputable def yP(a:Int)(b c:ASM)(g:Int)(i:ASL)(d:ATy)(j:ASW)(o:ATr)(l:ASK)(q s t u:Int):ATV Unit:=if((Bs Aa ATI o (t,u,())).length+([(q,s,())]:ASK).length)*16<=140737488355328 then bif Xy Aa ATI (Cr Aa ATI o (t,u,()) (Bs Aa ATI o (t,u,()))) (t,u,()) (YS Aa ATI o (t,u,()))then bif Bg Aa (t,u,()) (t,u,())then Eu (yA a b c g i d j o l q s t u (Cr Aa ATI (Cr Aa ATI o (t,u,()) (Bs Aa ATI o (t,u,()))) (t,u,()) ((Bs Aa ATI o (t,u,()))++([(q,s,())]:ASK))))else none else none else none
theorem Atl(a:Int)(b c:ASM)(g:Int)(i:ASL)(d:ATy)(j:ASW)(o:ATr)(l:ASK)(q s t u:Int):Qf SB 5 19 (sb (cd f139 60) 6) 2811 (AeZ a b c g i d j o l q s t u) (Ef a b c g i d j o l q s t u) (yA a b c g i d j o l q s t u):=by
 unfold Qf;have h:u0 SB 5 19 (sb (cd f139 60) 6) (pt 2811) (AeZ a b c g i d j o l q s t u) =
 if((Bs Aa ATI o (t,u,())).length+([(q,s,())]:ASK).length)*16<=140737488355328 then bif Xy Aa ATI (Cr Aa ATI o (t,u,()) (Bs Aa ATI o (t,u,()))) (t,u,()) (YS Aa ATI o (t,u,()))then bif Bg Aa (t,u,()) (t,u,())then(((yP a b c g i d j o l q s t u).bind λ_=>yP a b c g i d j o l q s t u).bind λ_=>some (yA a b c g i d j o l q s t u (Cr Aa ATI (Cr Aa ATI o (t,u,()) (Bs Aa ATI o (t,u,()))) (t,u,()) ((Bs Aa ATI o (t,u,()))++([(q,s,())]:ASK)))))else none else none else none:=by kernel_rfl
 rw[h];unfold Ef;simp only[ASr,mS,mO];clear h;by_cases Hs:((Bs Aa ATI o (t,u,())).length+([(q,s,())]:ASK).length)*16<=140737488355328
 ·rw[AQx Hs,AQx Hs];cases QS:(Xy Aa ATI (Cr Aa ATI o (t,u,()) (Bs Aa ATI o (t,u,()))) (t,u,()) (YS Aa ATI o (t,u,())))with
  |true =>
   simp only[AQv];cases xZ:(Bg Aa (t,u,()) (t,u,()))with
   |true =>
    simp only[AQv];simp only[yP,AQv,AQx Hs,QS,xZ,AQ2,AQf,Eu,EJ]
   |false =>
    simp only[AQu]
    all_goals first |rfl |simp
  |false =>
   simp only[AQu]
   all_goals first |rfl |simp
 ·simp only[AQ2,AQy Hs]
def AeY(a:Int) b c g i d j (k:ATr) l w x y a1:=sT 132 (Ace a b c g) (Acf i d j k w x y a1 l)
def yz(a:Int) b c g i d j (k:ATr) l w x y a1:=λ(o:ATr)=>sT 132 (Ace a b c g) (Acf i d j o w x y a1 l)
def Ee(a:Int)(b c:ASM)(g:Int)(i:ASL)(d:ATy)(j:ASW)(k:ATr)(l:ASK)(w x y a1:Int):ATV ATr:=
 if((Bs Aa ATI k (w,x,())).length+([(y,a1,())]:ASK).length)*16<=140737488355328 then
 bif Xy Aa ATI (Cr Aa ATI k (w,x,()) (Bs Aa ATI k (w,x,()))) (w,x,()) (YS Aa ATI k (w,x,()))then
 bif Bg Aa (w,x,()) (w,x,())then
 some (Cr Aa ATI (Cr Aa ATI k (w,x,()) (Bs Aa ATI k (w,x,()))) (w,x,()) ((Bs Aa ATI k (w,x,()))++([(y,a1,())]:ASK)))
 else
 none
 else
 none
 else none
noncomputable def yO(a:Int)(b c:ASM)(g:Int)(i:ASL)(d:ATy)(j:ASW)(k:ATr)(l:ASK)(w x y a1:Int):ATV Unit:=if((Bs Aa ATI k (w,x,())).length+([(y,a1,())]:ASK).length)*16<=140737488355328 then bif Xy Aa ATI (Cr Aa ATI k (w,x,()) (Bs Aa ATI k (w,x,()))) (w,x,()) (YS Aa ATI k (w,x,()))then bif Bg Aa (w,x,()) (w,x,())then Eu (yz a b c g i d j k l w x y a1 (Cr Aa ATI (Cr Aa ATI k (w,x,()) (Bs Aa ATI k (w,x,()))) (w,x,()) ((Bs Aa ATI k (w,x,()))++([(y,a1,())]:ASK))))else none else none else none
theorem Atk(a:Int)(b c:ASM)(g:Int)(i:ASL)(d:ATy)(j:ASW)(k:ATr)(l:ASK)(w x y a1:Int):Qf SB 5 18 (sb (cd f139 60) 6) 2810 (AeY a b c g i d j k l w x y a1) (Ee a b c g i d j k l w x y a1) (yz a b c g i d j k l w x y a1):=by
 unfold Qf;have h:u0 SB 5 18 (sb (cd f139 60) 6) (pt 2810) (AeY a b c g i d j k l w x y a1) =
 if((Bs Aa ATI k (w,x,())).length+([(y,a1,())]:ASK).length)*16<=140737488355328 then bif Xy Aa ATI (Cr Aa ATI k (w,x,()) (Bs Aa ATI k (w,x,()))) (w,x,()) (YS Aa ATI k (w,x,()))then bif Bg Aa (w,x,()) (w,x,())then(((yO a b c g i d j k l w x y a1).bind λ_=>yO a b c g i d j k l w x y a1).bind λ_=>some (yz a b c g i d j k l w x y a1 (Cr Aa ATI (Cr Aa ATI k (w,x,()) (Bs Aa ATI k (w,x,()))) (w,x,()) ((Bs Aa ATI k (w,x,()))++([(y,a1,())]:ASK)))))else none else none else none:=by kernel_rfl
 rw[h];unfold Ee;simp only[ASr,mS,mO];clear h;by_cases Hs:((Bs Aa ATI k (w,x,())).length+([(y,a1,())]:ASK).length)*16<=140737488355328
 ·rw[AQx Hs,AQx Hs];cases QS:(Xy Aa ATI (Cr Aa ATI k (w,x,()) (Bs Aa ATI k (w,x,()))) (w,x,()) (YS Aa ATI k (w,x,())))with
  |true =>
   simp only[AQv];cases xZ:(Bg Aa (w,x,()) (w,x,()))with
   |true =>
    simp only[AQv];simp only[yO,AQv,AQx Hs,QS,xZ,AQ2,AQf,Eu,EJ]
   |false =>
    simp only[AQu]
    all_goals first |rfl |simp
  |false =>
   simp only[AQu]
   all_goals first |rfl |simp
 ·simp only[AQ2,AQy Hs]
def AeX(a:Int) b c g i d j (k:ATr) l b1 c1:=sT 132 (xM a b c g) [.box (.pr (Ar i) fa),CS d,Ce j,HQ k none,.Bd,.box (EE b1),.box (EE c1),FK l]
def qw(a:Int) b c g i d j (k:ATr) l (b1:ASw) (c1:ASw):=λ(d1:(Int×Int×Int×Int))=>sT 132 (Ace a b c g) (Acf i d j k d1.1 d1.2.1 d1.2.2.1 d1.2.2.2 l)
def OR(a:Int)(b c:ASM)(g:Int)(i:ASL)(d:ATy)(j:ASW)(k:ATr)(l:ASK)(b1 c1:ASw):ATV (Int×Int×Int×Int):=
 some (b1.2.1,b1.2.2.1,c1.2.1,c1.2.2.1)
theorem Atj(a:Int)(b c:ASM)(g:Int)(i:ASL)(d:ATy)(j:ASW)(k:ATr)(l:ASK)(b1 c1:ASw):Qf SB 5 17 (sb (cd f139 60) 6) 1404 (AeX a b c g i d j k l b1 c1) (OR a b c g i d j k l b1 c1) (qw a b c g i d j k l b1 c1):=by
 unfold Qf;have h:u0 SB 5 17 (sb (cd f139 60) 6) (pt 1404) (AeX a b c g i d j k l b1 c1) =
 (((Eu (qw a b c g i d j k l b1 c1 (b1.2.1,b1.2.2.1,c1.2.1,c1.2.2.1))).bind λ_=>Eu (qw a b c g i d j k l b1 c1 (b1.2.1,b1.2.2.1,c1.2.1,c1.2.2.1))).bind λ_=>some (qw a b c g i d j k l b1 c1 (b1.2.1,b1.2.2.1,c1.2.1,c1.2.2.1))):=by kernel_rfl
 rw[h];unfold OR;simp only[ASr,mS,mO];clear h;simp only[AQ2,AQf,Eu,EJ]
def AeW(a:Int) b c g i d j (k:ATr) l:=sT 132 (xM a b c g) [.box (.pr (Ar i) fa),CS d,Ce j,HQ k none,.Bd,.box (EE (b.getD g.toNat Ae.zero)),.box (EE (c.getD g.toNat Ae.zero)),FK l]
def yy(a:Int)(b c:ASM)(g:Int)(i:ASL)(d:ATy)(j:ASW)(k:ATr)(l:ASK)(m0:Bool):Ex×St:=xN 132 [(0,.ptr 0 a [] 0),(8,Gw b),(9,Gw c),(10,dI g),(11,OZ),(12,YA),(91,dB m0)] [.box (.pr (Ar i) fa),CS d,Ce j,HQ k none,.Bd,.box (EE (b.getD g.toNat Ae.zero)),.box (EE (c.getD g.toNat Ae.zero)),FK l]
theorem Ati a b c g i d j k l:XJ SB 5 17 (sb (cd f139 60) 6) (pt 350) (AeW a b c g i d j k l)=some (yy a b c g i d j k l (((b.getD g.toNat Ae.zero).1==1)&&((c.getD g.toNat Ae.zero).1==1))):=by
 refine .trans (b:=
 bif (b.getD g.toNat Ae.zero).1==1 then
 some (yy a b c g i d j k l ((c.getD g.toNat Ae.zero).1==1))
 else
 some (yy a b c g i d j k l false)) (by kernel_rfl) ?_
 cases ((b.getD g.toNat Ae.zero).1==1);rfl;rfl
def AeV(a:Int) b c g i d j (k:ATr) l:=sT 132 (xM a b c g) [.box (.pr (Ar i) fa),CS d,Ce j,HQ k none,.Bd,.box (EE (b.getD g.toNat Ae.zero)),.box (EE (c.getD g.toNat Ae.zero)),FK l]
def yx(a:Int)(b c:ASM)(g:Int)(i:ASL)(d:ATy)(j:ASW)(k:ATr)(l:ASK)(m0:Bool):Ex×St:=xN 132 [(0,.ptr 0 a [] 0),(8,Gw b),(9,Gw c),(10,dI g),(11,OZ),(12,YA),(76,dB m0)] [.box (.pr (Ar i) fa),CS d,Ce j,HQ k none,.Bd,.box (EE (b.getD g.toNat Ae.zero)),.box (EE (c.getD g.toNat Ae.zero)),FK l]
theorem Ath a b c g i d j k l:XJ SB 5 15 (sb (cd f139 60) 6) (pt 86) (AeV a b c g i d j k l)=some (yx a b c g i d j k l (((b.getD g.toNat Ae.zero).1==1)&&((c.getD g.toNat Ae.zero).1==0))):=by
 refine .trans (b:=
 bif (b.getD g.toNat Ae.zero).1==1 then
 some (yx a b c g i d j k l ((c.getD g.toNat Ae.zero).1==0))
 else
 some (yx a b c g i d j k l false)) (by kernel_rfl) ?_
 cases ((b.getD g.toNat Ae.zero).1==1);rfl;rfl
def AeU(a:Int) b c g i d j (k:ATr) l:=sT 132 (xM a b c g) [.box (.pr (Ar i) fa),CS d,Ce j,HQ k none,.Bd,.box (EE (b.getD g.toNat Ae.zero)),.box (EE (c.getD g.toNat Ae.zero)),FK l]
def yw(a:Int)(b c:ASM)(g:Int)(i:ASL)(d:ATy)(j:ASW)(k:ATr)(l:ASK)(m0:Bool):Ex×St:=xN 132 [(0,.ptr 0 a [] 0),(8,Gw b),(9,Gw c),(10,dI g),(11,OZ),(12,YA),(61,dB m0)] [.box (.pr (Ar i) fa),CS d,Ce j,HQ k none,.Bd,.box (EE (b.getD g.toNat Ae.zero)),.box (EE (c.getD g.toNat Ae.zero)),FK l]
theorem Atg a b c g i d j k l:XJ SB 5 13 (sb (cd f139 60) 6) (pt 20) (AeU a b c g i d j k l)=some (yw a b c g i d j k l (((b.getD g.toNat Ae.zero).1==0)&&((c.getD g.toNat Ae.zero).1==1))):=by
 refine .trans (b:=
 bif (b.getD g.toNat Ae.zero).1==0 then
 some (yw a b c g i d j k l ((c.getD g.toNat Ae.zero).1==1))
 else
 some (yw a b c g i d j k l false)) (by kernel_rfl) ?_
 cases ((b.getD g.toNat Ae.zero).1==0);rfl;rfl
def AeT(a:Int) b c g i d j (k:ATr) l:=sT 132 (xL a b c g) (mL i d j k l)
def yv(a:Int) b c g i d j (k:ATr) l:=λ(e1:Unit)=>sT 132 (xM a b c g) [.box (.pr (Ar i) fa),CS d,Ce j,HQ k none,.Bd,.box (EE (b.getD g.toNat Ae.zero)),.box (EE (c.getD g.toNat Ae.zero)),FK l]
def Jr(a:Int)(b c:ASM)(g:Int)(i:ASL)(d:ATy)(j:ASW)(k:ATr)(l:ASK):ATV Unit:=
 if 0<=g/\g<b.length then
 if 0<=g/\g<c.length then
 some ()
 else none
 else none
noncomputable def GF(a:Int)(b c:ASM)(g:Int)(i:ASL)(d:ATy)(j:ASW)(k:ATr)(l:ASK):ATV Unit:=Eu (yv a b c g i d j k l ())
def TF(w:ATV Unit):ATV Unit:=cc w w
theorem Atf(a:Int)(b c:ASM)(g:Int)(i:ASL)(d:ATy)(j:ASW)(k:ATr)(l:ASK):Qf SB 5 11 (sb (cd f139 60) 6) 4 (AeT a b c g i d j k l) (Jr a b c g i d j k l) (yv a b c g i d j k l):=by
 unfold Qf;have h:u0 SB 5 11 (sb (cd f139 60) 6) (pt 4) (AeT a b c g i d j k l) =
 if 0<=g/\g<b.length then if 0<=g/\g<c.length then((if 0<=g/\g<b.length then if 0<=g/\g<c.length then((TF (GF a b c g i d j k l)).bind λ_=>((GF a b c g i d j k l).bind λ_=>(GF a b c g i d j k l).bind λ_=>(GF a b c g i d j k l)).bind λ_=>(GF a b c g i d j k l).bind λ_=>(GF a b c g i d j k l).bind λ_=>(GF a b c g i d j k l)).bind λ_=>((TF (GF a b c g i d j k l)).bind λ_=>(TF (GF a b c g i d j k l)).bind λ_=>(GF a b c g i d j k l).bind λ_=>(GF a b c g i d j k l)).bind λ_=>(((GF a b c g i d j k l).bind λ_=>(GF a b c g i d j k l).bind λ_=>(GF a b c g i d j k l)).bind λ_=>(TF (GF a b c g i d j k l)).bind λ_=>(TF (GF a b c g i d j k l)).bind λ_=>(GF a b c g i d j k l)).bind λ_=>((GF a b c g i d j k l).bind λ_=>(GF a b c g i d j k l).bind λ_=>(GF a b c g i d j k l)).bind λ_=>(TF (GF a b c g i d j k l)).bind λ_=>(TF (GF a b c g i d j k l)).bind λ_=>(GF a b c g i d j k l)else none else none).bind λ_=>some (yv a b c g i d j k l ()))else none else none:=by kernel_rfl
 rw[h];unfold Jr;simp only[ASr,mS,mO];clear h;by_cases Hs:(0:Int)<=g/\g<(b.length:Int)
 ·rw[AQx Hs,AQx Hs];by_cases QS:(0:Int)<=g/\g<(c.length:Int)
  ·rw[AQx QS,AQx QS];simp only[TF,cc,GF,AQv,AQx Hs,AQx QS,AQ2,AQf,Eu,EJ]
  ·simp only[AQx Hs,AQ2,AQy QS]
 ·simp only[AQ2,AQy Hs]
def FC(a:Int)(b c:ASM)(g:Int)(i:ASL)(d:ATy)(j:ASW)(k:ATr)(l:ASK):ATV ATz:=
 (Jr a b c g i d j k l).bind λe1=>Po (AeU a b c g i d j k l) (
 bif ((b.getD g.toNat Ae.zero).1==0)&&((c.getD g.toNat Ae.zero).1==1)then
 (BN a (c.getD g.toNat Ae.zero).2.1 (c.getD g.toNat Ae.zero).2.2.1 i j l).bind λg1=>some (g1.1,g1.2.1,k,g1.2.2)
 else
 Po (AeV a b c g i d j k l) (
 bif ((b.getD g.toNat Ae.zero).1==1)&&((c.getD g.toNat Ae.zero).1==0)then
 (BN a (b.getD g.toNat Ae.zero).2.1 (b.getD g.toNat Ae.zero).2.2.1 i j l).bind λi1=>some (i1.1,i1.2.1,k,i1.2.2)
 else
 Po (AeW a b c g i d j k l) (
 bif ((b.getD g.toNat Ae.zero).1==1)&&((c.getD g.toNat Ae.zero).1==1)then
 (OR a b c g i d j k l (b.getD g.toNat Ae.zero) (c.getD g.toNat Ae.zero)).bind λd1=>(Ee a b c g i d j k l d1.1 d1.2.1 d1.2.2.1 d1.2.2.2).bind λo=>(Ef a b c g i d j o l d1.1 d1.2.1 d1.2.2.1 d1.2.2.2).bind λv=>some (i,j,v,l)
 else
 some (i,j,k,l))))
theorem AkB a b c g i d j k l:AQ SB 5 10 (cd f139 60) 6 (Akz a b c g i d j k l) (FC a b c g i d j k l) (Akv a b c g i d j k l):=by
 unfold AQ;simp(disch:=refine id ?_;kernel_rfl) only[FC,ASr,VE (Atf ..) (K:=Uk SB 5 10),Ev (Atg ..) (K:=Uk SB 5 10),Ev (Ath ..) (K:=Uk SB 5 10),Ev (Ati ..) (K:=Uk SB 5 10),VE (Atj ..) (K:=Uk SB 5 10),VE (Atk ..) (K:=Uk SB 5 10),VE (Atl ..) (K:=Uk SB 5 10)];kernel_rfl
def GK(a:Int)(b c:ASM)(d:ATy)(g:Int)(i:ASL)(j:ASW)(k:ATr)(l:ASK):ATV ((Int×ASL×ASW×ATr×ASK)⊕ATz):=
 bif decide (g<(b.length:Int))then
 (FC a b c g i d j k l).bind λn=>some (.inl (wI (g+1),n.1,n.2.1,n.2.2.1,n.2.2.2))
 else
 some (.inr (i,j,k,l))
def C1 a b c d (z_:Int×ASL×ASW×ATr×ASK):=GK a b c d z_.1 z_.2.1 z_.2.2.1 z_.2.2.2.1 z_.2.2.2.2
def M5 a b c d g i j k l:=fix (C1 a b c d) (g,i,j,k,l)
theorem AkC a b c d:A3 SB 5 9 (code f139) 30 (AkA a b c d) (C1 a b c d) (Akw a b c d):=by
 intro _;simp(disch:=refine id ?_;kernel_rfl) only[C1,GK,ASr,Ba (AkB ..) (K:=JG SB 5 9)];kernel_rfl
def Ari(a:Int) j1 k1 d (l1:ATr) n1 o1 (z_:Int×ASL×ASW×ASK):=sT 132 (AjS a j1 k1 o1 z_.1) (AjT z_.2.1 d z_.2.2.1 l1 n1 z_.2.2.2)
def Apl(a:Int) j1 k1 d (l1:ATr) (n1:ASO) (o1:Int):=λ(q1:AS9)=>xE 0 132 [(0,.ptr 0 a [] 0),(1,.AB [1] ATH j1),(2,.AB [1] ATH k1)] (mL q1.1 d q1.2.1 l1 q1.2.2)
def Arh(a:Int) j1 k1 o1 s1 t1 d u1 (l1:ATr) n1 v1:=sT 132 (AjS a j1 k1 o1 s1) (AjT t1 d u1 l1 n1 v1)
def Apk(a:Int) j1 k1 o1 s1 (t1:ASL) d (u1:ASW) (l1:ATr) n1 (v1:ASK):=λ(w1:AS9)=>xN 132 (AjS a j1 k1 o1 s1) (AjT w1.1 d w1.2.1 l1 n1 w1.2.2)
def Gz(a:Int)(j1 k1:ASO)(o1 s1:Int)(t1:ASL)(d:ATy)(u1:ASW)(l1:ATr)(n1:ASO)(v1:ASK):ATV AS9:=
 if 0<=s1/\s1<n1.length then
 bif decide ((n1.getD s1.toNat Ag.zero).1>=0)then
 (BN a (n1.getD s1.toNat Ag.zero).1 (n1.getD s1.toNat Ag.zero).2.1 t1 u1 v1).bind λx1=>(BN a (n1.getD s1.toNat Ag.zero).1 (wI ((n1.getD s1.toNat Ag.zero).2.1+(n1.getD s1.toNat Ag.zero).2.2.1)) x1.1 x1.2.1 x1.2.2).bind λy1=>some (y1.1,y1.2.1,y1.2.2)
 else
 some (t1,u1,v1)
 else none
theorem Atd a j1 k1 o1 s1 t1 d u1 l1 n1 v1:AQ SB 5 6 (cd f139 20) 14 (Arh a j1 k1 o1 s1 t1 d u1 l1 n1 v1) (Gz a j1 k1 o1 s1 t1 d u1 l1 n1 v1) (Apk a j1 k1 o1 s1 t1 d u1 l1 n1 v1):=by
 unfold AQ;simp only[Gz,ASr];kernel_rfl
def HW(a:Int)(j1 k1:ASO)(d:ATy)(l1:ATr)(n1:ASO)(o1 s1:Int)(t1:ASL)(u1:ASW)(v1:ASK):ATV (ATn⊕AS9):=
 bif decide (s1<o1)then
 (Gz a j1 k1 o1 s1 t1 d u1 l1 n1 v1).bind λw1=>some (.inl (wI (s1+1),w1.1,w1.2.1,w1.2.2))
 else
 some (.inr (t1,u1,v1))
def Df a j1 k1 d l1 n1 o1 (z_:Int×ASL×ASW×ASK):=HW a j1 k1 d l1 n1 o1 z_.1 z_.2.1 z_.2.2.1 z_.2.2.2
def OQ a j1 k1 d l1 n1 o1 s1 t1 u1 v1:=fix (Df a j1 k1 d l1 n1 o1) (s1,t1,u1,v1)
theorem Ate a j1 k1 d l1 n1 o1:A3 SB 5 1 (code f139) 10 (Ari a j1 k1 d l1 n1 o1) (Df a j1 k1 d l1 n1 o1) (Apl a j1 k1 d l1 n1 o1):=by
 intro _;simp(disch:=refine id ?_;kernel_rfl) only[Df,HW,ASr,Ba (Atd ..) (K:=JG SB 5 1)];kernel_rfl
def JW(a:Int)(j1 k1:ASO)(a2:ASL)(d:ATy)(b2:ASW)(l1:ATr)(c2:ASK):ATV (ASL×ATy×ASW×ATr×ASK):=
 (IW ([j1,k1]:ASZ)).bind λn1=>(OQ a j1 k1 d l1 n1 (n1.length:Int) 0 a2 b2 c2).bind λq1=>(KH j1).bind λb=>(KH k1).bind λc=>(M5 a b c d 1 q1.1 q1.2.1 l1 q1.2.2).bind λe=>some (e.1,d,e.2.1,e.2.2.1,e.2.2.2)
def AE6:=Ci [.VA,.VA,.VA] [⟨[.ptr 0 [] 0,.AB [1] ATH,.AB [1] ATH],[.box (.pr (.AB [] ATK) (.pr (.k Pu) (.pr (.k (.mp 3)) (.pr (.k UV) (.k .u))))),.row 222 .Aw (.AH ATH (.AH ATH .unit)),.row 154 .Aw ATM,.map .Aw Aa ATI,.row 225 .Aw Aa],ASL×ATy×ASW×ATr×ASK,λp=>JW p.1.1 p.1.2.1 p.1.2.2.1 p.2.1.1 p.2.2.1 p.2.2.2.1 p.2.2.2.2.1 p.2.2.2.2.2.1,λr=>(.nil,[.box (.pr (Ar r.1) Aou),CS r.2.1,Ce r.2.2.1,HQ r.2.2.2.1 none,.Bd,FK r.2.2.2.2])⟩]
theorem AfY:Ao prog 139 AE6:=Av (fn:=f139) ⟨⟨SB,pk ⟨ki,Agf,Agg,trivial⟩,λ_ R K=>by
 simp(disch:=refine id ?_;kernel_rfl) only[JW,ASs,OQ,AF (Ate _ _ _ _ _ _ _) (K:=A0 SB f139 5 R K),M5,AF (AkC _ _ _ _) (K:=A0 SB f139 5 R K)];kernel_rfl⟩,trivial⟩
end
end Go.Proofs.X
