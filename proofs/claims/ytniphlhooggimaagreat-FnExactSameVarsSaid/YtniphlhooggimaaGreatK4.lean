import Derived.KernelRfl
import Derived.Test.YtniphlhooggimaaGreatK3
set_option linter.unusedVariables false
set_option linter.unusedSimpArgs false
namespace Go.Proofs.X
open Go Go.Va Go.Proofs.Tryz
set_option maxRecDepth 100000
noncomputable section
abbrev E48:=eN [(54,c54),(88,c88),(89,c89),(90,c90),(91,c91)] {BR:=[(2,[0,1,5,6,18])],DR:=[(2,[0,1,5,6])],Sp:=[(0,Ak),(1,.bool)]}
def AAl a b c:=sT 31 [(0,Ar a),(1,Bw b),(5,Au),(6,A9)] [.box (BV c),.box VX]
def Aye a b c:=λ(d:Bool)=>xN 31 [(0,Ar a),(1,Bw b),(5,Au),(6,A9),(18,dB d)] [.box (BV c),.box VX]
def Md(a:ASw)(b:ASy)(c:ASl):ATC Bool:=
 (Kl a c).bind λe=>bif !e then
 some true
 else
 (Es a b).bind λg=>some (!g)
theorem ACA a b c:AP E48 0 2 (code f58) 12 (AAl a b c) (Md a b c) (Aye a b c):=by
 unfold AP;simp only[Md,ASb];kernel_rfl
def Ci(a:ASw)(b:ASy)(c:ASl):ATC (ASl×Bool):=
 (Md a b c).bind λd=>bif d then
 some ((([]:ASG),()),false)
 else
 (Oe a c).bind λi=>(UL a b i).bind λj=>bif !j.1 then
 some ((([]:ASG),()),false)
 else
 (T1 j.2).bind λk=>some ((k,()),true)
def c58:=Cc [.d ATr,.d ATt,.d Ak] [⟨[.AA [] ATr,.AA [] ATt,.AA [] Ak],[],ASl×Bool,λp=>Ci p.1.1 p.1.2.1 p.1.2.2.1,λr=>(.cons (BV r.1) (.cons (dB r.2) .nil),[])⟩]
theorem qB:Am prog 58 c58:=As (fn:=f58) ⟨⟨E48,pk ⟨iI,iJ,AaH,Aly,Alz,trivial⟩,λ_ R K=>by
 simp(disch:=refine id ?_;kernel_rfl) only[Ci,ASc,A8 (ACA ..) (K:=A2 E48 f58 0 R K)];kernel_rfl⟩,trivial⟩
abbrev E49:=eN [(88,c88)] {A4:=[(5,{Bc:=[0,3,5,6],Ce:=[(5,false,.row [] 152 Ad true)]}),(9,{Bc:=[0,3,5,6,7,8],Ce:=[(5,false,.row [] 152 Ad true)]})],BD:=[(5,[5]),(9,[0,3,5,6])],BR:=[(14,[0,3,5,6,7,8,9])],DR:=[(14,[0,3,5,6,7,8,9])],jc:=[(0,.row [] 152 Ad true)]}
def AAo a b (z_:Int×ASx):=sT 64 (AbT a z_.1) [.box (BV b),Ey z_.2]
def Ayh(a:ASw)(b:ASl):=λ(c:ASx)=>xE 0 64 [(5,.AH 0)] [Ey c]
def AAn a d b (z_:Int×Int×ASx):=sT 64 [(0,Ar a),(3,Au),(5,.AH 1),(6,dI d),(7,dI z_.1),(8,dI z_.2.1)] [.box (BV b),Ey z_.2.2]
def Ayg a d b:=λ(e:ASx)=>xE 2 64 (AbT a d) [.box (BV b),Ey e]
def AAm a d g i b j k:=sT 64 [(0,Ar a),(3,Au),(5,.AH 1),(6,dI d),(7,dI g),(8,dI i),(9,dI k)] [.box (BV b),Ey j]
def Ayf a d g i b j (k:Int):=λ(l:Int)=>xN 64 [(0,Ar a),(3,Au),(5,.AH 1),(6,dI d),(7,dI g),(8,dI i),(9,dI l)] [.box (BV b),Ey j]
def J4(a:ASw)(d g i:Int)(b:ASl)(j:ASx)(k:Int):ATC Int:=
 if 0<=d/\d<b.1.length then
 bif decide (i<((b.1.getD d.toNat ATo.zero).length:Int))then
 if 0<=d/\d<b.1.length then
 if 0<=i/\i<(b.1.getD d.toNat ATo.zero).length then
 some ((b.1.getD d.toNat ATo.zero).getD i.toNat ATl.zero)
 else none
 else none
 else
 some k
 else none
theorem ACB a d g i b j k:AP E49 0 14 (sb (cd f83 244) 204) 50 (AAm a d g i b j k) (J4 a d g i b j k) (Ayf a d g i b j k):=by
 unfold AP;simp only[J4,ASb];kernel_rfl
def KX(a:ASw)(d:Int)(b:ASl)(g i:Int)(j:ASx):ATC ((Int×Int×ASx)⊕ASx):=
 if 0<=d/\d<b.1.length then
 bif decide (i<=((b.1.getD d.toNat ATo.zero).length:Int))then
 if 0<=d/\d<a.length then
 (J4 a d g i b j (a.getD d.toNat Ab.zero).2.1).bind λl=>if(j.length+([(d,g,wI (l-g),())]:ASx).length)*24<=140737488355328 then
 some (.inl (l,wI (i+1),j++([(d,g,wI (l-g),())]:ASx)))
 else none
 else none
 else
 some (.inr j)
 else none
def ER a d b (z_:Int×Int×ASx):=KX a d b z_.1 z_.2.1 z_.2.2
def SJ a d b g i j:=fix (ER a d b) (g,i,j)
theorem ACC a d b:A3 E49 0 9 (cd f83 244) 102 (AAn a d b) (ER a d b) (Ayg a d b):=by
 intro _;simp(disch:=refine id ?_;kernel_rfl) only[ER,KX,ASb,A8 (ACB ..) (K:=Kk E49 0 9)];kernel_rfl
def KY(a:ASw)(b:ASl)(d:Int)(n:ASx):ATC (ASQ⊕ASx):=
 bif decide (d<(a.length:Int))then
 (SJ a d b 0 0 n).bind λe=>some (.inl (wI (d+1),e))
 else
 some (.inr n)
def ES a b (z_:Int×ASx):=KY a b z_.1 z_.2
def SK a b d n:=fix (ES a b) (d,n)
theorem ACD a b:A3 E49 0 5 (code f83) 122 (AAo a b) (ES a b) (Ayh a b):=by
 intro _;simp(disch:=refine id ?_;kernel_rfl) only[ES,KY,ASb,SJ,AG (ACC _ _ _) (K:=Kk E49 0 5)];kernel_rfl
def I6(a:ASw)(b:ASl):ATC ASx:=
 (Kl a b).bind λo=>bif !o then
 some ([]:ASx)
 else
 (SK a b 0 ([]:ASx)).bind λc=>some c
def c83:=Cc [.d ATr,.d Ak] [⟨[.AA [] ATr,.AA [] Ak],[],ASx,λp=>I6 p.1.1 p.1.2.1,λr=>(.AH 0,[Ey r])⟩]
theorem qD:Am prog 83 c83:=As (fn:=f83) ⟨⟨E49,pk ⟨iJ,trivial⟩,λ_ R K=>by
 simp(disch:=refine id ?_;kernel_rfl) only[I6,ASc,SK,AG (ACD _ _) (K:=A2 E49 f83 0 R K)];kernel_rfl⟩,trivial⟩
abbrev E50:=eN [] {Av:=false,A4:=[(3,{Bc:=[0,3,4],Ce:=[(3,true,.row [2] 2 ATl true)]})],BD:=[(3,[3])]}
def AAp a b (z_:Int×ASs):=sT 25 [(0,dI a),(3,Au),(4,dI z_.1)] [.box (.pr Gl (.pr .zs Zt)),F6 b,Az z_.2]
def Ayi(a:Int) b:=λ(c:ASs)=>xE 0 25 [(3,Au)] [.box (.pr Gl (.pr .zs Zt)),F6 b,Az c]
def P7(a:Int)(b:ASB)(d:Int)(e:ASs):ATC (ASP⊕ASs):=
 bif decide (d<a)then
 if(e.length+([d]:ASs).length)*8<=140737488355328 then
 some (.inl (wI (d+1),e++([d]:ASs)))
 else none
 else
 some (.inr e)
def Ii a b (z_:Int×ASs):=P7 a b z_.1 z_.2
def WM a b d e:=fix (Ii a b) (d,e)
theorem ACE a b:A3 E50 0 3 (code f84) 58 (AAp a b) (Ii a b) (Ayi a b):=by
 intro _;simp only[Ii,P7,ASb];kernel_rfl
def VN(a:Int):ATC (Int×ASB×ASs):=
 if Ty.row Ah=true/\(0:Int)<=a/\a<=a/\((32:Nat):Int)*a<=(281474976710656:Int)/\a<=(9223372036854775807:Int)then
 (WM a (List.replicate a.toNat (0,([]:ASs),())) 0 ([]:ASs)).bind λc=>some (0,List.replicate a.toNat (0,([]:ASs),()),c)
 else none
def c84:=Cc [.d ATl] [⟨[.AA [] ATl],[],Int×ASB×ASs,λp=>VN p.1.1,λr=>(.ptr 0 r.1 [] 0,[.box (.pr Gl (.pr .zs Zt)),F6 r.2.1,Az r.2.2])⟩]
theorem Alv:Am prog 84 c84:=As (fn:=f84) ⟨⟨E50,pk trivial,λ_ R K=>by
 simp(disch:=refine id ?_;kernel_rfl) only[VN,ASc,WM,AG (ACE _ _) (K:=A2 E50 f84 0 R K)];kernel_rfl⟩,trivial⟩
abbrev E51:=eN [(88,c88)] {A4:=[(5,[3,5,6])],BD:=[(5,[5])]}
def AAq a (z_:Int×Int):=sT 29 [(3,Au),(5,dI z_.1),(6,dI z_.2)] [.box (BV a)]
def Ayj(a:ASl):=λ(b:Int)=>xE 0 29 [(5,dI b)] []
def PN(a:ASl)(c d:Int):ATC (ASR⊕Int):=
 bif decide (d<(a.1.length:Int))then
 if 0<=d/\d<a.1.length then
 some (.inl (wI (c+((a.1.getD d.toNat ATo.zero).length:Int)),wI (d+1)))
 else none
 else
 some (.inr c)
def Ie a (z_:Int×Int):=PN a z_.1 z_.2
def WK a c d:=fix (Ie a) (c,d)
theorem ACF a:A3 E51 0 5 (code f59) 122 (AAq a) (Ie a) (Ayj a):=by
 intro _;simp only[Ie,PN,ASb];kernel_rfl
def KV(e:ASw)(a:ASl):ATC Int:=
 (Kl e a).bind λg=>bif !g then
 some (-1)
 else
 (WK a (e.length:Int) 0).bind λb=>some b
def c59:=Cc [.d ATr,.d Ak] [⟨[.AA [] ATr,.AA [] Ak],[],Int,λp=>KV p.1.1 p.1.2.1,λr=>(dI r,[])⟩]
theorem AaB:Am prog 59 c59:=As (fn:=f59) ⟨⟨E51,pk ⟨iJ,trivial⟩,λ_ R K=>by
 simp(disch:=refine id ?_;kernel_rfl) only[KV,ASc,WK,AG (ACF _) (K:=A2 E51 f59 0 R K)];kernel_rfl⟩,trivial⟩
abbrev E52:=eN [(83,c83)] {vV:=[(53,2)],A4:=[(3,{Bc:=[0,3,5,6],Ce:=[(5,false,.row [] 78 ATo true)]}),(7,[0,3,5,6,7,8]),(13,{Bc:=[5,9,10],Sp:=[(9,false,ATu)]})],BD:=[(3,[0,3,5]),(7,[0,3,5,6,7]),(13,[5])]}
def AAt a (z_:Int×ASG):=sT 62 [(5,.AH 0),(9,Ga a),(10,dI z_.1)] [Bl z_.2]
def Aym(a:ASx):=λ(b:ASG)=>xE 4 62 [(5,.AH 0)] [Bl b]
def MB(a:ASx)(c:Int)(d:ASG):ATC (ASX⊕ASG):=
 bif decide (c<(a.length:Int))then
 if 0<=c/\c<a.length then
 if(0:Int)<=(a.getD c.toNat Ad.zero).1/\(a.getD c.toNat Ad.zero).1<(d.length:Int)then
 if 0<=c/\c<a.length then
 if(0:Int)<=(a.getD c.toNat Ad.zero).2.1/\(a.getD c.toNat Ad.zero).2.1<(d.getD (a.getD c.toNat Ad.zero).1.toNat ATo.zero).length then
 some (.inl (wI (c+1),d.set (a.getD c.toNat Ad.zero).1.toNat ((d.getD (a.getD c.toNat Ad.zero).1.toNat ATo.zero).set (a.getD c.toNat Ad.zero).2.1.toNat c)))
 else none
 else none
 else none
 else none
 else
 some (.inr d)
def F4 a (z_:Int×ASG):=MB a z_.1 z_.2
def P3 a c d:=fix (F4 a) (c,d)
theorem ACI a:A3 E52 0 13 (code f93) 250 (AAt a) (F4 a) (Aym a):=by
 intro _;simp only[F4,MB,ASb];kernel_rfl
def AAs e g (z_:Int×ASG):=sT 62 (AbT e z_.1) [.box (BV g),Bl z_.2]
def Ayl e g:=λ(i:ASG)=>xE 0 62 [(0,Ar e),(3,Au),(5,.AH 1)] [.box (BV g),Bl i]
def AAr e j g k (z_:Int×ASs):=sT 62 [(0,Ar e),(3,Au),(5,.AH 1),(6,dI j),(7,.AH 2),(8,dI z_.1)] [.box (BV g),Bl k,Az z_.2]
def Ayk e j g k:=λ(l:ASs)=>xE 2 62 [(0,Ar e),(3,Au),(5,.AH 1),(6,dI j),(7,.AH 2)] [.box (BV g),Bl k,Az l]
def Mz(e:ASw)(j:Int)(g:ASl)(k:ASG)(n:Int)(o:ASs):ATC (ASP⊕ASs):=
 bif decide (n<(o.length:Int))then
 if 0<=n/\n<o.length then
 some (.inl (wI (n+1),o.set n.toNat (-1)))
 else none
 else
 some (.inr o)
def F0 e j g k (z_:Int×ASs):=Mz e j g k z_.1 z_.2
def P0 e j g k n o:=fix (F0 e j g k) (n,o)
theorem ACG e j g k:A3 E52 0 7 (cd f93 116) 202 (AAr e j g k) (F0 e j g k) (Ayk e j g k):=by
 intro _;simp only[F0,Mz,ASb];kernel_rfl
def MA(e:ASw)(g:ASl)(j:Int)(k:ASG):ATC (ASX⊕ASG):=
 bif decide (j<(e.length:Int))then
 if 0<=j/\j<e.length then
 if Ty.row ATl=true/\(0:Int)<=(e.getD j.toNat Ab.zero).2.1/\(e.getD j.toNat Ab.zero).2.1<=(e.getD j.toNat Ab.zero).2.1/\((8:Nat):Int)*(e.getD j.toNat Ab.zero).2.1<=(281474976710656:Int)/\(e.getD j.toNat Ab.zero).2.1<=(9223372036854775807:Int)then
 (P0 e j g k 0 (List.replicate (e.getD j.toNat Ab.zero).2.1.toNat 0)).bind λl=>if(k.length+([l]:ASG).length)*24<=140737488355328 then
 some (.inl (wI (j+1),k++([l]:ASG)))
 else none
 else none
 else none
 else
 some (.inr k)
def F3 e g (z_:Int×ASG):=MA e g z_.1 z_.2
def P2 e g j k:=fix (F3 e g) (j,k)
theorem ACH e g:A3 E52 0 3 (code f93) 58 (AAs e g) (F3 e g) (Ayl e g):=by
 intro _;simp(disch:=refine id ?_;kernel_rfl) only[F3,MA,ASb,P0,AG (ACG _ _ _ _) (K:=Kk E52 0 3)];kernel_rfl
def RL(e:ASw)(g:ASl):ATC ASG:=
 (P2 e g 0 ([]:ASG)).bind λi=>(I6 e g).bind λa=>(P3 a 0 i).bind λb=>some b
def c93:=Cc [.d ATr,.d Ak] [⟨[.AA [] ATr,.AA [] Ak],[],ASG,λp=>RL p.1.1 p.1.2.1,λr=>(.AH 0,[Bl r])⟩]
theorem AlA:Am prog 93 c93:=As (fn:=f93) ⟨⟨E52,pk ⟨qD,trivial⟩,λ_ R K=>by
 simp(disch:=refine id ?_;kernel_rfl) only[RL,ASc,P2,AG (ACH _ _) (K:=A2 E52 f93 0 R K),P3,AG (ACI _) (K:=A2 E52 f93 0 R K)];kernel_rfl⟩,trivial⟩
abbrev E53:=eN [(125,AuX)] {A4:=[(4,{Bc:=[4,5,10,12,13],Ce:=[(12,false,.row [] 5 ATn true)]}),(15,[4,5,10,16,17])],BD:=[(4,{Bc:=[10,11,12],Sp:=[(12,false,.sl ATn)]}),(15,[10,11,16])],BR:=[(13,[3,4,5,10,16,86])],DR:=[(13,[2,3,4,5,10,16])],jc:=[(0,.row [1,1] 88 ATm true)]}
def AAw a b c (z_:Int):=sT 103 [(4,dI a),(5,Au),(10,A9),(16,dI c),(17,dI z_)] [.box (jj b),.box aR]
def Ayp(a:Int)(b:ASp) c:=Sum.elim (λ(d:Unit)=>xR 103 [(10,Au),(11,dB false),(16,dI c)] [.box aR]) (λ(e:Unit)=>xE 2 103 [(10,Au),(16,dI c)] [.box aR])
def Ob(a:Int)(b:ASp)(c g:Int):ATC (Int⊕(Unit⊕Unit)):=
 bif decide (g<a)then
 if 0<=g/\g<b.2.1.length then
 bif b.2.1.getD g.toNat (Ty.zero .bool)then
 some (.inr (.inl ()))
 else
 some (.inl (wI (g+1)))
 else none
 else
 some (.inr (.inr ()))
def G9 a b c (z_:Int):=Ob a b c z_
def RJ a b c g:=fix (G9 a b c) g
theorem ACN a b c:A3 E53 0 15 (code f95) 250 (AAw a b c) (G9 a b c) (Ayp a b c):=by
 intro _;simp only[G9,Ob,ASb];kernel_rfl
def AAv i j a b k:=sT 103 [(2,Ga i),(3,dI j),(4,dI a),(5,Au),(10,A9),(16,dI k)] [.box (jj b),.box aR]
def Ayo(i:ASx) j a b k:=λ(l:Bool)=>xN 103 [(3,dI j),(4,dI a),(5,Au),(10,A9),(16,dI k),(86,dB l)] [.box (jj b),.box aR]
def Ni(i:ASx)(j a:Int)(b:ASp)(k:Int):ATC Bool:=
 bif decide (k<0)then
 some true
 else
 if 0<=k/\k<i.length then
 some ((i.getD k.toNat Ad.zero).2.2.1 !=(wI (a-j)))
 else none
theorem ACK i j a b k:AP E53 0 13 (code f95) 60 (AAv i j a b k) (Ni i j a b k) (Ayo i j a b k):=by
 unfold AP;simp only[Ni,ASb];kernel_rfl
def AAu a b (z_:Int×ASs):=sT 103 [(4,dI a),(5,Au),(10,A9),(12,.AH 2),(13,dI z_.1)] [.box (jj b),.box aR,eu z_.2]
def Ayn(a:Int)(b:ASp):=Sum.elim (λ(n:ASs)=>xR 103 [(10,Au),(11,dB false),(12,Z5 n)] [.box aR]) (λ(o:ASs)=>xE 0 103 [(10,Au),(12,Z5 o)] [.box aR])
def Oa(a:Int)(b:ASp)(q:Int)(s:ASs):ATC (ASP⊕(ASs⊕ASs)):=
 bif decide (q<a)then
 if 0<=q/\q<b.1.length then
 bif decide ((b.1.getD q.toNat Aa.zero).1>=0)then
 some (.inr (.inl s))
 else
 if 0<=q/\q<b.1.length then
 if(s.length+([IntKind.u8.wrap (b.1.getD q.toNat Aa.zero).2.1]:ASs).length)*1<=140737488355328 then
 some (.inl (wI (q+1),s++([IntKind.u8.wrap (b.1.getD q.toNat Aa.zero).2.1]:ASs)))
 else none
 else none
 else none
 else
 some (.inr (.inr s))
def G8 a b (z_:Int×ASs):=Oa a b z_.1 z_.2
def RI a b q s:=fix (G8 a b) (q,s)
theorem ACJ a b:A3 E53 0 4 (code f95) 426 (AAu a b) (G8 a b) (Ayn a b):=by
 intro _;simp only[G8,Oa,ASb];kernel_rfl
def QI(b:ASp)(t:ASG)(i:ASx)(j a:Int):ATC ASY:=
 if 0<=j/\j<b.1.length then
 bif decide ((b.1.getD j.toNat Aa.zero).1<0)then
 (RI a b j ([]:ASs)).bind (Sum.elim (λn=>some (0,0,false,([]:ASs))) (λo=>(QF o).bind λu=>some (-1,u.1,true,u.2.2)))
 else
 if 0<=j/\j<b.1.length then
 if(0:Int)<=(b.1.getD j.toNat Aa.zero).1/\(b.1.getD j.toNat Aa.zero).1<(t.length:Int)then
 if 0<=j/\j<b.1.length then
 if(0:Int)<=(b.1.getD j.toNat Aa.zero).2.1/\(b.1.getD j.toNat Aa.zero).2.1<((t.getD (b.1.getD j.toNat Aa.zero).1.toNat ATo.zero).length:Int)then
 (Ni i j a b ((t.getD (b.1.getD j.toNat Aa.zero).1.toNat ATo.zero).getD (b.1.getD j.toNat Aa.zero).2.1.toNat ATl.zero)).bind λl=>bif l then
 some (0,0,false,([]:ASs))
 else
 (RJ a b ((t.getD (b.1.getD j.toNat Aa.zero).1.toNat ATo.zero).getD (b.1.getD j.toNat Aa.zero).2.1.toNat ATl.zero) (wI (j+1))).bind (Sum.elim (λd=>some (0,0,false,([]:ASs))) (λe=>some ((t.getD (b.1.getD j.toNat Aa.zero).1.toNat ATo.zero).getD (b.1.getD j.toNat Aa.zero).2.1.toNat ATl.zero,0,true,([]:ASs))))
 else none
 else none
 else none
 else none
 else none
def c95:=Cc [.d Aq,.d ATy,.d ATu,.d ATl,.d ATl] [⟨[.AA [] Aq,.AA [] ATy,.AA [] ATu,.AA [] ATl,.AA [] ATl],[],ASY,λp=>QI p.1.1 p.1.2.1 p.1.2.2.1 p.1.2.2.2.1 p.1.2.2.2.2.1,λr=>(.cons (.pr (dI r.1) (.pr (.pr (dI r.2.1) Si) .u)) (.cons (dB r.2.2.1) .nil),[C9 r.2.2.2])⟩]
theorem AlB:Am prog 95 c95:=As (fn:=f95) ⟨⟨E53,pk ⟨uf,trivial⟩,λ_ R K=>by
 simp(disch:=refine id ?_;kernel_rfl) only[QI,ASc,RI,AG (ACJ _ _) (K:=A2 E53 f95 0 R K),A8 (ACK ..) (K:=A2 E53 f95 0 R K),RJ,AG (ACN _ _ _) (K:=A2 E53 f95 0 R K)];kernel_rfl⟩,trivial⟩
abbrev E54:=eN [(54,c54),(58,c58),(59,c59),(82,c82),(83,c83),(88,c88),(89,c89),(92,c92),(93,c93),(94,c94),(95,c95)] {Av:=false,A4:=[(17,{Bc:=[8,15,16,17,18,19,20,21,22],Sp:=[(17,false,ATA),(18,false,ATy),(19,false,ATu)],Ce:=[(20,false,.row [] 129 Ao false)]})],BD:=[(17,[6,7,20])],BR:=[(3,[0,4,5,8,38]),(6,[0,4,5,8,58]),(18,{Bc:=[6,7,8,15,16,17,18,19,20,21,22],Ce:=[(20,false,.row [] 129 Ao false)]}),(20,[8,15,16,17,18,19,20,21,22]),(23,[8,15,16,17,18,19,20,21,22,23,25,137])],DR:=[(3,[0,4,5,8]),(6,[0,4,5,8,9,10]),(18,[8,15,16,17,18,19,20,21,22]),(20,[8,15,16,17,18,19,20,21,22]),(23,[8,15,16,17,18,19,20,21,22,23,24,25,26])],ig:=[(35,ATt),(43,ATt)],jc:=[(0,.row [] 129 Ao false)]}
def AsD a b c d e g i (z_:Int×Int×ASD):=sT 150 (pU a b c z_.1 z_.2.1) (me z_.2.2 d e g i)
def AqM(a:ASH)(b:ASG)(c:ASx)(d:ASv)(e:ASt)(g:ASv)(i:ASt):=Sum.elim (λ(j:ASD)=>xR 150 [(6,.zs),(7,dB false),(20,.AH 0)] [ei j]) (λ(k:ASD)=>xE 0 150 [(20,.AH 0)] [ei k])
def AAA a b c l n o d e g i:=sT 150 (pU a b c l n) (me o d e g i)
def Ayt a b c l n o d e g i:=Sum.elim (λ(q:(Int×ASD))=>xN 150 (pU a b c q.1 n) (me q.2 d e g i)) (λ(s:Unit)=>xR 150 [(6,.zs),(7,dB false),(8,.zs),(15,Au),(16,A9),(17,X5 a),(18,Dw b),(19,Ga c),(20,.AH 2),(21,dI l),(22,dI n)] (me o d e g i))
def Anc a b c l n (t:ASY) (u:ASY) o d e g i:=sT 150 [(8,.zs),(15,Au),(16,A9),(17,X5 a),(18,Dw b),(19,Ga c),(20,.AH 2),(21,dI l),(22,dI n),(23,cb),(24,dB t.2.2.1),(25,Us),(26,dB u.2.2.1)] (Aoi o t.1 t.2.1 u.1 u.2.1 d e g i t.2.2.2 u.2.2.2)
def AeB(a:ASH)(b:ASG)(c:ASx)(l n:Int)(t u:ASY)(o:ASD)(d:ASv)(e:ASt)(g:ASv)(i:ASt)(m0:Bool):Ex×St:=xN 150 [(8,.zs),(15,Au),(16,A9),(17,X5 a),(18,Dw b),(19,Ga c),(20,.AH 2),(21,dI l),(22,dI n),(23,cb),(25,Us),(137,dB m0)] (Aoi o t.1 t.2.1 u.1 u.2.1 d e g i t.2.2.2 u.2.2.2)
theorem ACR a b c l n t u o d e g i:Za E54 0 23 (sb (cd f60 524276) 6) (pt 92) (Anc a b c l n t u o d e g i)=some (AeB a b c l n t u o d e g i ((!t.2.2.1)||(!u.2.2.1))):=by
 refine .trans (b:=
 bif !t.2.2.1 then
 some (AeB a b c l n t u o d e g i true)
 else
 some (AeB a b c l n t u o d e g i (!u.2.2.1))) (by kernel_rfl) ?_
 cases (!t.2.2.1);rfl;rfl
def AAz a b c l n o d e g i:=sT 150 (pU a b c l n) (me o d e g i)
def Ays a b c l n o d e g i:=Sum.elim (λ(v:Unit)=>xE 1 150 (pU a b c l n) (me o d e g i)) (λ(w:Unit)=>xN 150 (pU a b c l n) (me o d e g i))
def EP(a:ASH)(b:ASG)(c:ASx)(l n:Int)(o:ASD)(d:ASv)(e:ASt)(g:ASv)(i:ASt):ATC (Unit⊕Unit):=
 bif decide (n<(d.length:Int))then
 (Eu (d,e,()) a n).bind λx=>bif !x then
 (Eu (g,i,()) a n).bind λy=>bif !y then
 some (.inl ())
 else
 some (.inr ())
 else
 some (.inr ())
 else
 some (.inr ())
theorem ACQ a b c l n o d e g i:AP E54 0 20 (sb (cd f60 524276) 6) 4 (AAz a b c l n o d e g i) (EP a b c l n o d e g i) (Ays a b c l n o d e g i):=by
 unfold AP;simp only[EP,ASb];kernel_rfl
def JZ(a:ASH)(b:ASG)(c:ASx)(l n:Int)(o:ASD)(d:ASv)(e:ASt)(g:ASv)(i:ASt):ATC ((Int×ASD)⊕Unit):=
 (EP a b c l n o d e g i).bind (Sum.elim (λv=>some (.inl (l,o))) (λw=>(QI (d,e,()) b c l n).bind λt=>(QI (g,i,()) b c l n).bind λu=>R3 (Anc a b c l n t u o d e g i) (
 bif (!t.2.2.1)||(!u.2.2.1)then
 some (.inr ())
 else
 if(o.length+([((t.1,(t.2.1,t.2.2.2,()),()),(u.1,(u.2.1,u.2.2.2,()),()),wI (n-l),())]:ASD).length)*88<=140737488355328 then
 some (.inl (n,o++([((t.1,(t.2.1,t.2.2.2,()),()),(u.1,(u.2.1,u.2.2.2,()),()),wI (n-l),())]:ASD)))
 else none)))
theorem ACS a b c l n o d e g i:AP E54 0 18 (cd f60 524276) 6 (AAA a b c l n o d e g i) (JZ a b c l n o d e g i) (Ayt a b c l n o d e g i):=by
 unfold AP;simp(disch:=refine id ?_;kernel_rfl) only[JZ,ASb,A8 (ACQ ..) (K:=Ud E54 0 18),GN (ACR ..) (K:=Ud E54 0 18)];kernel_rfl
def Jv(a:ASH)(b:ASG)(c:ASx)(d:ASv)(e:ASt)(g:ASv)(i:ASt)(l n:Int)(o:ASD):ATC ((Int×Int×ASD)⊕(ASD⊕ASD)):=
 bif decide (n<=(d.length:Int))then
 (JZ a b c l n o d e g i).bind (Sum.elim (λq=>some (.inl (q.1,wI (n+1),q.2))) (λs=>some (.inr (.inl o))))
 else
 some (.inr (.inr o))
def Ej a b c d e g i (z_:Int×Int×ASD):=Jv a b c d e g i z_.1 z_.2.1 z_.2.2
def Mi a b c d e g i l n o:=fix (Ej a b c d e g i) (l,n,o)
theorem AuN a b c d e g i:A3 E54 0 17 (code f60) 262138 (AsD a b c d e g i) (Ej a b c d e g i) (AqM a b c d e g i):=by
 intro _;simp(disch:=refine id ?_;kernel_rfl) only[Ej,Jv,ASb,A8 (ACS ..) (K:=Kk E54 0 17)];kernel_rfl
def AAy a1 b1 c1 d1 e1:=sT 150 [(0,Ar a1),(4,Au),(5,A9),(8,.zs),(9,Lb),(10,dB d1)] [.box (dZ b1),.box (BV c1),.box (BV e1)]
def Ayr a1 b1 c1 (d1:Bool) (e1:ASl):=λ(g1:Bool)=>xN 150 [(0,Ar a1),(4,Au),(5,A9),(8,.zs),(58,dB g1)] (xi b1 c1)
def NT(a1:ASw)(b1:ASh)(c1:ASl)(d1:Bool)(e1:ASl):ATC Bool:=
 bif !d1 then
 some true
 else
 (KV a1 e1).bind λi1=>(KV a1 c1).bind λj1=>some (i1 !=j1)
theorem ACP a1 b1 c1 d1 e1:AP E54 0 6 (code f60) 124 (AAy a1 b1 c1 d1 e1) (NT a1 b1 c1 d1 e1) (Ayr a1 b1 c1 d1 e1):=by
 unfold AP;simp only[NT,ASb];kernel_rfl
def AAx a1 b1 c1:=sT 150 [(0,Ar a1),(4,Au),(5,A9),(8,.zs)] (xi b1 c1)
def Ayq a1 b1 c1:=λ(k1:Bool)=>xN 150 [(0,Ar a1),(4,Au),(5,A9),(8,.zs),(38,dB k1)] (xi b1 c1)
def NS(a1:ASw)(b1:ASh)(c1:ASl):ATC Bool:=
 (Kl a1 c1).bind λl1=>bif !l1 then
 some true
 else
 (Es a1 ([b1]:ASy)).bind λn1=>some (!n1)
theorem ACO a1 b1 c1:AP E54 0 3 (code f60) 28 (AAx a1 b1 c1) (NS a1 b1 c1) (Ayq a1 b1 c1):=by
 unfold AP;simp only[NS,ASb];kernel_rfl
def LA(a1:ASw)(b1:ASh)(c1:ASl):ATC (Bool×ASD):=
 (NS a1 b1 c1).bind λk1=>bif k1 then
 some (false,([]:ASD))
 else
 (Ci a1 ([b1]:ASy) c1).bind λo1=>(NT a1 b1 c1 o1.2 o1.1).bind λg1=>bif g1 then
 some (false,([]:ASD))
 else
 (Dn a1 b1.2.2.1).bind λq1=>(Dn a1 b1.2.2.2.1).bind λs1=>(Km q1.2).bind λt1=>(Km s1.2).bind λu1=>(Oe a1 c1).bind λa=>(RL a1 c1).bind λb=>(I6 a1 c1).bind λc=>(Mi a b c t1.1 t1.2 u1.1 u1.2 0 1 ([]:ASD)).bind (Sum.elim (λj=>some (false,([]:ASD))) (λk=>some (true,k)))
def c60:=Cc [.d ATr,.d Ae,.d Ak] [⟨[.AA [] ATr,.AA [] Ae,.AA [] Ak],[],Bool×ASD,λp=>LA p.1.1 p.1.2.1 p.1.2.2.1,λr=>(.cons Kd (.cons (dB r.1) .nil),[ei r.2])⟩]
theorem AaC:Am prog 60 c60:=As (fn:=f60) ⟨⟨E54,pk ⟨iI,qB,AaB,AaF,qD,iJ,AaH,AaI,AlA,qE,AlB,trivial⟩,λ_ R K=>by
 simp(disch:=refine id ?_;kernel_rfl) only[LA,ASc,A8 (ACO ..) (K:=A2 E54 f60 0 R K),A8 (ACP ..) (K:=A2 E54 f60 0 R K),Mi,AG (AuN _ _ _ _ _ _ _) (K:=A2 E54 f60 0 R K)];kernel_rfl⟩,trivial⟩
abbrev E55:=eN [] {A4:=[(4,[2,3,5])],BD:=[(4,[4])],BR:=[(2,[2,3,19])],DR:=[(2,[2,3])]}
def AAB a b (z_:Int):=sT 38 [(2,Au),(3,A9),(5,dI z_)] [.box (GK a),.box (GK b)]
def Ayu(a b:ASk):=Sum.elim (λ(c:Unit)=>xR 38 fW []) (λ(d:Unit)=>xE 0 38 [] [])
def IY(a b:ASk)(e:Int):ATC (Int⊕(Unit⊕Unit)):=
 bif decide (e<(a.2.1.length:Int))then
 if 0<=e/\e<a.2.1.length then
 if 0<=e/\e<b.2.1.length then
 bif (a.2.1.getD e.toNat ATm.zero) !=(b.2.1.getD e.toNat ATm.zero)then
 some (.inr (.inl ()))
 else
 some (.inl (wI (e+1)))
 else none
 else none
 else
 some (.inr (.inr ()))
def DK a b (z_:Int):=IY a b z_
def VE a b e:=fix (DK a b) e
theorem ACU a b:A3 E55 0 4 (code f62) 58 (AAB a b) (DK a b) (Ayu a b):=by
 intro _;simp only[DK,IY,ASb];kernel_rfl
def Ane a b:=sT 38 [(2,Au),(3,A9)] [.box (GK a),.box (GK b)]
def AeC(a b:ASk)(m0:Bool):Ex×St:=xN 38 [(2,Au),(3,A9),(19,dB m0)] [.box (GK a),.box (GK b)]
theorem ACT a b:Za E55 0 2 (code f62) (pt 12) (Ane a b)=some (AeC a b ((a.1 !=b.1)||((a.2.1.length:Int) !=(b.2.1.length:Int)))):=by
 refine .trans (b:=
 bif a.1 !=b.1 then
 some (AeC a b true)
 else
 some (AeC a b ((a.2.1.length:Int) !=(b.2.1.length:Int)))) (by kernel_rfl) ?_
 cases (a.1 !=b.1);rfl;rfl
def Et(a b:ASk):ATC Bool:=
 R3 (Ane a b) (
 bif (a.1 !=b.1)||((a.2.1.length:Int) !=(b.2.1.length:Int))then
 some false
 else
 (VE a b 0).bind (Sum.elim (λc=>some false) (λd=>some true)))
def c62:=Cc [.d Ah,.d Ah] [⟨[.AA [] Ah,.AA [] Ah],[],Bool,λp=>Et p.1.1 p.1.2.1,λr=>(dB r,[])⟩]
theorem AaD:Am prog 62 c62:=As (fn:=f62) ⟨⟨E55,pk trivial,λ_ R K=>by
 simp(disch:=refine id ?_;kernel_rfl) only[Et,ASc,GN (ACT ..) (K:=A2 E55 f62 0 R K),VE,AG (ACU _ _) (K:=A2 E55 f62 0 R K)];kernel_rfl⟩,trivial⟩
abbrev R56:Type:=ASx->Int->Int->ASt->Option (Bool×ASt×ASs)
def AfL(rc:R56):Va.Callee:=Cc [.d ATu,.UY,.d ATl,.d ATl] [⟨[.AA [] ATu,.k Kd,.AA [] ATl,.AA [] ATl],[.row 4 .Av .bool],Bool×ASt×ASs,λp=>rc p.1.1 p.1.2.2.1 p.1.2.2.2.1 p.2.1,λr=>(.cons Gl (.cons (dB r.1) .nil),[Dm r.2.1,Az r.2.2])⟩]
abbrev E56(rc:R56):=eN [(120,AfL rc)] {A4:=[(4,[0,1,2,3,10])],BD:=[(4,[8,9])],BR:=[(5,[0,1,2,3,8,9,10]),(7,[0,1,2,3,10])],DR:=[(5,[0,1,2,3,10]),(7,[0,1,2,3,10])],jc:=[(0,.row [] 2 ATl true)]}
def AAE a b c (z_:Int×ASt):=sT 80 (pV a b c z_.1) [Dm z_.2]
def Ayx(a:ASx)(b c:Int):=Sum.elim (λ(d:AST)=>xR 80 [(8,.AH 1),(9,dB true)] [Dm d.1,Az d.2]) (λ(e:ASt)=>xE 0 80 [] [Dm e])
def AAD a b c g i:=sT 80 (pV a b c g) [Dm i]
def Ayw a b c g (i:ASt):=Sum.elim (λ(j:ASt)=>xN 80 (pV a b c g) [Dm j]) (λ(k:AST)=>xR 80 [(0,Ga a),(1,.AH 0),(2,dI b),(3,dI c),(8,.AH 1),(9,dB true),(10,dI g)] [Dm k.1,Az k.2])
def AAC a b c g i:=sT 80 (pV a b c g) [Dm i]
def Ayv a b c g i:=Sum.elim (λ(l:Unit)=>xE 1 80 (pV a b c g) [Dm i]) (λ(n:Unit)=>xN 80 (pV a b c g) [Dm i])
def Tj(rc:R56)(a:ASx)(b c g:Int)(i:ASt):ATC (Unit⊕Unit):=
 if 0<=g/\g<i.length then
 bif i.getD g.toNat (Ty.zero .bool)then
 some (.inl ())
 else
 if 0<=g/\g<a.length then
 bif (a.getD g.toNat Ad.zero).1 !=b then
 if 0<=g/\g<a.length then
 bif (a.getD g.toNat Ad.zero).2.1 !=b then
 some (.inl ())
 else
 some (.inr ())
 else none
 else
 some (.inr ())
 else none
 else none
theorem ACV(rc:R56) a b c g i:AP (E56 rc) 1 7 (sb (cd f120 116) 6) 4 (AAC a b c g i) (Tj rc a b c g i) (Ayv a b c g i):=by
 unfold AP;simp only[Tj,ASb];kernel_rfl
def Tk(rc:R56)(a:ASx)(b c g:Int)(i:ASt):ATC (ASt⊕AST):=
 (Tj rc a b c g i).bind (Sum.elim (λl=>some (.inl i)) (λn=>if 0<=g/\g<i.length then
 if 0<=g/\g<a.length then
 if 0<=g/\g<a.length then
 (rc a (wI ((wI ((a.getD g.toNat Ad.zero).1+(a.getD g.toNat Ad.zero).2.1))-b)) c (i.set g.toNat true)).bind λo=>bif o.1 then
 if 0<=g/\g<a.length then
 if(([(a.getD g.toNat Ad.zero).2.2.1]:ASs).length+o.2.2.length)*8<=140737488355328 then
 some (.inr (o.2.1,([(a.getD g.toNat Ad.zero).2.2.1]:ASs)++o.2.2))
 else none
 else none
 else
 some (.inl o.2.1)
 else none
 else none
 else none))
theorem ACW(rc:R56) a b c g i:AP (E56 rc) 1 5 (cd f120 116) 6 (AAD a b c g i) (Tk rc a b c g i) (Ayw a b c g i):=by
 unfold AP;simp(disch:=refine id ?_;kernel_rfl) only[Tk,ASb,A8 (ACV ..) (K:=Ud (E56 rc) 1 5)];kernel_rfl
def Ur(rc:R56)(a:ASx)(b c g:Int)(i:ASt):ATC ((Int×ASt)⊕(AST⊕ASt)):=
 bif decide (g<(a.length:Int))then
 (Tk rc a b c g i).bind (Sum.elim (λj=>some (.inl (wI (g+1),j))) (λk=>some (.inr (.inl (k.1,k.2)))))
 else
 some (.inr (.inr i))
def P5(rc:R56) a b c (z_:Int×ASt):=Ur rc a b c z_.1 z_.2
def WL(rc:R56) a b c g i:=fix (P5 rc a b c) (g,i)
theorem ACX(rc:R56) a b c:A3 (E56 rc) 1 4 (code f120) 58 (AAE a b c) (P5 rc a b c) (Ayx a b c):=by
 intro _;simp(disch:=refine id ?_;kernel_rfl) only[P5,Ur,ASb,A8 (ACW ..) (K:=Kk (E56 rc) 1 4)];kernel_rfl
def RO(rc:R56)(a:ASx)(b c:Int)(q:ASt):ATC (Bool×ASt×ASs):=
 bif b==c then
 some (true,q,([]:ASs))
 else
 (WL rc a b c 0 q).bind (Sum.elim (λd=>some (true,d.1,d.2)) (λe=>some (false,e,([]:ASs))))
theorem U56 R (rc:R56) a b c q K:TP (E56 rc) f120 R [Ga a,.AH 0,dI b,dI c] [Dm q] K=(RO rc a b c q).bind λr=>K (.cons Gl (.cons (dB r.1) .nil)) [Dm r.2.1,Az r.2.2]:=by
 simp(disch:=refine id ?_;kernel_rfl) only[RO,ASc,WL,AG (ACX _ _ _ _) (K:=A2 (E56 rc) f120 1 R K)];kernel_rfl
def IZ:Nat->R56
 |0=>λ_ _ _ _=>none
 |n+1=>RO (IZ n)
def bY:R56:=IZ 1000000
def AEr:Va.Callee:=AfL bY
theorem ud:∀n,Am prog 120 (AfL (IZ n))
 |0=>Aku ⟨λ_=>rfl,trivial⟩
 |n+1=>As (fn:=f120) ⟨⟨E56 (IZ n),pk ⟨ud n,trivial⟩,λp R K=>U56 R (IZ n) p.1.1 p.1.2.2.1 p.1.2.2.2.1 p.2.1 K⟩,trivial⟩
theorem AfK:Am prog 120 AEr:=ud _
abbrev E57:=eN [] {A4:=[(2,[0,1,5])],BD:=[(2,[4])]}
def AAF a b (z_:Int):=sT 18 [(0,DT a),(1,dI b),(5,dI z_)] []
def Ayy(a:ASs)(b:Int):=Sum.elim (λ(c:Unit)=>xR 18 [(4,dB true)] []) (λ(d:Unit)=>xE 0 18 [] [])
def PR(a:ASs)(b e:Int):ATC (Int⊕(Unit⊕Unit)):=
 bif decide (e<(a.length:Int))then
 if 0<=e/\e<a.length then
 bif (a.getD e.toNat ATl.zero)==b then
 some (.inr (.inl ()))
 else
 some (.inl (wI (e+1)))
 else none
 else
 some (.inr (.inr ()))
def Ll a b (z_:Int):=PR a b z_
def Pn a b e:=fix (Ll a b) e
theorem ACY a b:A3 E57 0 2 (code f126) 26 (AAF a b) (Ll a b) (Ayy a b):=by
 intro _;simp only[Ll,PR,ASb];kernel_rfl
def Ng(a:ASs)(b:Int):ATC Bool:=
 (Pn a b 0).bind (Sum.elim (λc=>some true) (λd=>some false))
def AuY:=Cc [.d ATo,.d ATl] [⟨[.AA [] ATo,.AA [] ATl],[],Bool,λp=>Ng p.1.1 p.1.2.1,λr=>(dB r,[])⟩]
theorem ug:Am prog 126 AuY:=As (fn:=f126) ⟨⟨E57,pk trivial,λ_ R K=>by
 simp(disch:=refine id ?_;kernel_rfl) only[Ng,ASc,Pn,AG (ACY _ _) (K:=A2 E57 f126 0 R K)];kernel_rfl⟩,trivial⟩
abbrev E58:=eN [(126,AuY)] {A4:=[(3,{Bc:=[0,3,4],Ce:=[(3,false,.row [] 2 ATl true)]}),(8,[0,3,4,5])],BD:=[(3,[3]),(8,[0,3,4,5])],BR:=[(4,{Bc:=[0,3,4],Ce:=[(3,false,.row [] 2 ATl true)]}),(9,[0,3,4,5])],DR:=[(4,[0,3,4]),(9,[0,3,4,5])]}
def AAJ a (z_:Int×ASs):=sT 60 (AmZ a z_.1) [Az z_.2]
def AyC(a:ASs):=λ(b:ASs)=>xE 0 60 mb [Az b]
def AAI a c d:=sT 60 (AmZ a c) [Az d]
def AyB a c (d:ASs):=λ(e:ASs)=>xN 60 (AmZ a c) [Az e]
def AAH a c (z_:Int×ASs):=sT 60 (xj a c z_.1) [Az z_.2]
def AyA a c:=λ(g:ASP)=>xE 2 60 (xj a c g.1) [Az g.2]
def AAG a c i j:=sT 60 (xj a c i) [Az j]
def Ayz a c i j:=Sum.elim (λ(k:Unit)=>xN 60 (xj a c i) [Az j]) (λ(l:Unit)=>xE 2 60 (xj a c i) [Az j])
def Om(a:ASs)(c i:Int)(j:ASs):ATC (Unit⊕Unit):=
 bif decide (i>0)then
 if 0<=(wI (i-1))/\(wI (i-1))<j.length then
 if 0<=c/\c<a.length then
 bif decide ((j.getD (wI (i-1)).toNat ATl.zero)>(a.getD c.toNat ATl.zero))then
 some (.inl ())
 else
 some (.inr ())
 else none
 else none
 else
 some (.inr ())
theorem ACZ a c i j:AP E58 0 9 (sb (sb (cd f121 116) 6) 184) 2 (AAG a c i j) (Om a c i j) (Ayz a c i j):=by
 unfold AP;simp only[Om,ASb];kernel_rfl
def Qn(a:ASs)(c i:Int)(j:ASs):ATC (ASP⊕ASP):=
 (Om a c i j).bind (Sum.elim (λk=>if 0<=(wI (i-1))/\(wI (i-1))<j.length then
 if 0<=i/\i<j.length then
 some (.inl (wI (i-1),j.set i.toNat (j.getD (wI (i-1)).toNat ATl.zero)))
 else none
 else none) (λl=>some (.inr (i,j))))
def K6 a c (z_:Int×ASs):=Qn a c z_.1 z_.2
def Xp a c i j:=fix (K6 a c) (i,j)
theorem AC0 a c:A3 E58 0 8 (sb (cd f121 116) 6) 92 (AAH a c) (K6 a c) (AyA a c):=by
 intro _;simp(disch:=refine id ?_;kernel_rfl) only[K6,Qn,ASb,A8 (ACZ ..) (K:=Kk E58 0 8)];kernel_rfl
def On(a:ASs)(c:Int)(d:ASs):ATC ASs:=
 if 0<=c/\c<a.length then
 (Ng d (a.getD c.toNat ATl.zero)).bind λn=>bif n then
 some d
 else
 if 0<=c/\c<a.length then
 if(d.length+([a.getD c.toNat ATl.zero]:ASs).length)*8<=140737488355328 then
 (Xp a c (d.length:Int) (d++([a.getD c.toNat ATl.zero]:ASs))).bind λg=>if 0<=c/\c<a.length then
 if(0:Int)<=g.1/\g.1<(g.2.length:Int)then
 some (g.2.set g.1.toNat (a.getD c.toNat ATl.zero))
 else none
 else none
 else none
 else none
 else none
theorem AC1 a c d:AP E58 0 4 (cd f121 116) 6 (AAI a c d) (On a c d) (AyB a c d):=by
 unfold AP;simp(disch:=refine id ?_;kernel_rfl) only[On,ASb,Xp,AG (AC0 _ _) (K:=Ud E58 0 4)];kernel_rfl
def Qo(a:ASs)(c:Int)(d:ASs):ATC (ASP⊕ASs):=
 bif decide (c<(a.length:Int))then
 (On a c d).bind λe=>some (.inl (wI (c+1),e))
 else
 some (.inr d)
def K7 a (z_:Int×ASs):=Qo a z_.1 z_.2
def Xq a c d:=fix (K7 a) (c,d)
theorem AC2 a:A3 E58 0 3 (code f121) 58 (AAJ a) (K7 a) (AyC a):=by
 intro _;simp(disch:=refine id ?_;kernel_rfl) only[K7,Qo,ASb,A8 (AC1 ..) (K:=Kk E58 0 3)];kernel_rfl
def Ti(a:ASs):ATC ASs:=
 (Xq a 0 ([]:ASs)).bind λb=>some b
def AEs:=Cc [.d ATo] [⟨[.AA [] ATo],[],ASs,λp=>Ti p.1.1,λr=>(.AH 0,[Az r])⟩]
theorem AfM:Am prog 121 AEs:=As (fn:=f121) ⟨⟨E58,pk ⟨ug,trivial⟩,λ_ R K=>by
 simp(disch:=refine id ?_;kernel_rfl) only[Ti,ASc,Xq,AG (AC2 _) (K:=A2 E58 f121 0 R K)];kernel_rfl⟩,trivial⟩
abbrev E59:=eN [] {A4:=[(3,[0,6,7,8])],BD:=[(3,{Bc:=[]})],BR:=[(4,[0,6,7,8])],DR:=[(4,[0,6,7,8])]}
def AAL a b (z_:Int×ASs):=sT 43 (Ajz a b z_.1) [Az z_.2]
def AyE(a b:Int):=λ(c:ASs)=>xE 0 43 [] [Az c]
def AAK a b d e:=sT 43 (Ajz a b d) [Az e]
def AyD a b d (e:ASs):=λ(g:ASs)=>xN 43 (Ajz a b d) [Az g]
def P4(a b d:Int)(e:ASs):ATC ASs:=
 if 0<=d/\d<e.length then
 bif (e.getD d.toNat ATl.zero)==b then
 if 0<=d/\d<e.length then
 some (e.set d.toNat a)
 else none
 else
 some e
 else none
theorem AC3 a b d e:AP E59 1 4 (cd f122 60) 6 (AAK a b d e) (P4 a b d e) (AyD a b d e):=by
 unfold AP;simp only[P4,ASb];kernel_rfl
def MD(a b d:Int)(e:ASs):ATC (ASP⊕ASs):=
 bif decide (d<(e.length:Int))then
 (P4 a b d e).bind λg=>some (.inl (wI (d+1),g))
 else
 some (.inr e)
def F5 a b (z_:Int×ASs):=MD a b z_.1 z_.2
def Uq a b d e:=fix (F5 a b) (d,e)
theorem AC4 a b:A3 E59 1 3 (code f122) 30 (AAL a b) (F5 a b) (AyE a b):=by
 intro _;simp(disch:=refine id ?_;kernel_rfl) only[F5,MD,ASb,A8 (AC3 ..) (K:=Kk E59 1 3)];kernel_rfl
def Ol(i j:Int)(k:ASs):ATC ASs:=
 if 0<=i/\i<k.length then
 if 0<=j/\j<k.length then
 if 0<=i/\i<k.length then
 if 0<=j/\j<k.length then
 (Uq (if(k.getD j.toNat ATl.zero)<(k.getD i.toNat ATl.zero)then(k.getD j.toNat ATl.zero)else(k.getD i.toNat ATl.zero)) (if(k.getD j.toNat ATl.zero)>(k.getD i.toNat ATl.zero)then(k.getD j.toNat ATl.zero)else(k.getD i.toNat ATl.zero)) 0 k).bind λc=>some c
 else none
 else none
 else none
 else none
def AEt:=Cc [.UY,.d ATl,.d ATl] [⟨[.k Kd,.AA [] ATl,.AA [] ATl],[.row 2 .Av ATl],ASs,λp=>Ol p.1.2.1 p.1.2.2.1 p.2.1,λr=>(.nil,[Az r])⟩]
theorem AfN:Am prog 122 AEt:=As (fn:=f122) ⟨⟨E59,pk trivial,λ_ R K=>by
 simp(disch:=refine id ?_;kernel_rfl) only[Ol,ASc,Uq,AG (AC4 _ _) (K:=A2 E59 f122 1 R K)];kernel_rfl⟩,trivial⟩
abbrev E60:=eN [] {Av:=false,ao:=[(3,[0]),(4,[0])],cO:=[(3,[0,3]),(4,[0])],WO:=[.mv 0 [0],.Ba 1,.mv 0 [2],.Ba 3]}
def Ang(a:Int) b c d:=sT 41 [(0,.ptr 0 a [] 0)] [.box (.pr Ox pY),.Ba,C1 b,Az c,F6 d]
def AeE(a:Int) b (c:ASs) d:=λ(e:Unit)=>sT 41 [(0,.ptr 0 a [] 0)] [.box (.pr Ox (.pr Qu (.pr (.AH 5) .u))),.Ba,C1 b,.Ba,F6 d,Az (c++([(c.length:Int)]:ASs))]
def La(a:Int)(b:ASx)(c:ASs)(d:ASB):ATC Unit:=
 if(c.length+([(c.length:Int)]:ASs).length)*8<=140737488355328 then
 some ()
 else none
noncomputable def Anv(a:Int)(b:ASx)(c:ASs)(d:ASB):ATC Unit:=if(c.length+([(c.length:Int)]:ASs).length)*8<=140737488355328 then Ja (AeE a b c d ())else none
def Aal(w:ATC Unit):ATC Unit:=cc (cc w (cc w (cc w (cc w w)))) (cc (cc w (cc w (cc w w))) (cc (cc w (cc w w)) (cc (cc w w) w)))
theorem AC6(a:Int)(b:ASx)(c:ASs)(d:ASB):Sj E60 4 4 (code f119) 30 (Ang a b c d) (La a b c d) (AeE a b c d):=by
 unfold Sj;have h:yI E60 4 4 (code f119) (pt 30) (Ang a b c d) =
 if(c.length+([(c.length:Int)]:ASs).length)*8<=140737488355328 then((Aal (Anv a b c d)).bind λ_=>some (AeE a b c d ()))else none:=by kernel_rfl
 rw[h];unfold La;simp only[ASb,mS,mO];clear h;by_cases Gb:(c.length+([(c.length:Int)]:ASs).length)*8<=140737488355328
 ·rw[AQe Gb,AQe Gb];simp only[Aal,cc,Anv,AQc,AQe Gb,AQJ,APW,Ja,GX]
 ·simp only[AQJ,AQf Gb]
def Anf(a:Int) g b c i:=sT 41 [(0,.ptr 0 a [] 0),(3,Us)] [.box AjX,F6 g,C1 b,Az c,.box (dD AZ i)]
def AeD(a:Int)(g:ASB) b c (i:ASd):=λ(j:Unit)=>sT 41 [(0,.ptr 0 a [] 0)] [.box (.pr Ox pY),.Ba,C1 b,Az c,F6 (g++([i.2.1]:ASB))]
def K9(a:Int)(g:ASB)(b:ASx)(c:ASs)(i:ASd):ATC Unit:=
 if(g.length+([i.2.1]:ASB).length)*32<=140737488355328 then
 some ()
 else none
noncomputable def jy(a:Int)(g:ASB)(b:ASx)(c:ASs)(i:ASd):ATC Unit:=if(g.length+([i.2.1]:ASB).length)*32<=140737488355328 then Ja (AeD a g b c i ())else none
theorem AC5(a:Int)(g:ASB)(b:ASx)(c:ASs)(i:ASd):Sj E60 4 3 (code f119) 14 (Anf a g b c i) (K9 a g b c i) (AeD a g b c i):=by
 unfold Sj;have h:yI E60 4 3 (code f119) (pt 14) (Anf a g b c i) =
 if(g.length+([i.2.1]:ASB).length)*32<=140737488355328 then((((jy a g b c i).bind λ_=>(jy a g b c i).bind λ_=>jy a g b c i).bind λ_=>((jy a g b c i).bind λ_=>jy a g b c i).bind λ_=>jy a g b c i).bind λ_=>some (AeD a g b c i ()))else none:=by kernel_rfl
 rw[h];unfold K9;simp only[ASb,mS,mO];clear h;by_cases Gb:(g.length+([i.2.1]:ASB).length)*32<=140737488355328
 ·rw[AQe Gb,AQe Gb];simp only[jy,AQc,AQe Gb,AQJ,APW,Ja,GX]
 ·simp only[AQJ,AQf Gb]
def Ih(a:Int)(i:ASd)(g:ASB)(b:ASx)(c:ASs):ATC (Int×ASx×ASB×ASs):=
 bif decide (i.1>=0)then
 some (i.1,b,g,c)
 else
 (K9 a g b c i).bind λj=>(La a b c (g++([i.2.1]:ASB))).bind λe=>some (wI (((c++([(c.length:Int)]:ASs)).length:Int)-1),b,g++([i.2.1]:ASB),c++([(c.length:Int)]:ASs))
def AEq:=Cc [.UY,.d AZ] [⟨[.ptr 0 [] 0,.AA [] AZ],[.box (.pr (.k Gl) (.pr (.k Qu) (.pr (.k (.AH 3)) (.k .u)))),.row 123 (.sh []) Ah,.row 204 .Av Ad,.row 2 .Av ATl],Int×ASx×ASB×ASs,λp=>Ih p.1.1 p.1.2.1 p.2.2.1 p.2.2.2.1 p.2.2.2.2.1,λr=>(dI r.1,[.box (.pr Ox (.pr Qu (.pr (.AH 5) .u))),.Ba,C1 r.2.1,.Ba,F6 r.2.2.1,Az r.2.2.2])⟩]
theorem AfJ:Am prog 119 AEq:=As (fn:=f119) ⟨⟨E60,pk trivial,λ_ R K=>by
 simp(disch:=refine id ?_;kernel_rfl) only[Ih,ASc,W1 (AC5 ..) (K:=A2 E60 f119 4 R K),W1 (AC6 ..) (K:=A2 E60 f119 4 R K)];kernel_rfl⟩,trivial⟩
abbrev E61:=eN [] {A4:=[(2,[0,1,5])],BD:=[(2,[4])],BR:=[(5,[0,1,5,40])],DR:=[(5,[0,1,5])]}
def AAN(a:Int) b c d e (z_:Int):=sT 42 [(0,.ptr 0 a [] 0),(1,dI b),(5,dI z_)] (xk c d e)
def AyG(a b:Int) c d e:=Sum.elim (λ(g:Int)=>xR 42 [(4,dI g)] (xk c d e)) (λ(i:Unit)=>xE 0 42 [] (xk c d e))
def AAM(a:Int) b j c d e:=sT 42 [(0,.ptr 0 a [] 0),(1,dI b),(5,dI j)] (xk c d e)
def AyF(a:Int) b j c d e:=λ(k:Bool)=>xN 42 [(0,.ptr 0 a [] 0),(1,dI b),(5,dI j),(40,dB k)] (xk c d e)
def Jx(a b j:Int)(c:ASB)(d:ASx)(e:ASs):ATC Bool:=
 if 0<=j/\j<e.length then
 if 0<=b/\b<e.length then
 bif (e.getD j.toNat ATl.zero)==(e.getD b.toNat ATl.zero)then
 if 0<=j/\j<c.length then
 some (decide ((c.getD j.toNat Ah.zero).1>0))
 else none
 else
 some false
 else none
 else none
theorem AC7 a b j c d e:AP E61 4 5 (cd f86 52) 24 (AAM a b j c d e) (Jx a b j c d e) (AyF a b j c d e):=by
 unfold AP;simp only[Jx,ASb];kernel_rfl
def LP(a b:Int)(c:ASB)(d:ASx)(e:ASs)(j:Int):ATC (Int⊕(Int⊕Unit)):=
 bif decide (j<(e.length:Int))then
 (Jx a b j c d e).bind λk=>bif k then
 some (.inr (.inl j))
 else
 some (.inl (wI (j+1)))
 else
 some (.inr (.inr ()))
def HV a b c d e (z_:Int):=LP a b c d e z_
def OR a b c d e j:=fix (HV a b c d e) j
theorem AC8 a b c d e:A3 E61 4 2 (code f86) 26 (AAN a b c d e) (HV a b c d e) (AyG a b c d e):=by
 intro _;simp(disch:=refine id ?_;kernel_rfl) only[HV,LP,ASb,A8 (AC7 ..) (K:=Kk E61 4 2)];kernel_rfl
def EX(a b:Int)(c:ASB)(d:ASx)(e:ASs):ATC AS5:=
 (OR a b c d e 0).bind (Sum.elim (λg=>some (g,c,d,e)) (λi=>some (-1,c,d,e)))
def c86:=Cc [.UY,.d ATl] [⟨[.ptr 0 [] 0,.AA [] ATl],[.box (.pr (.k Gl) (.pr (.k Qu) (.pr (.k (.AH 3)) (.k .u)))),.row 123 (.sh []) Ah,.row 204 .Av Ad,.row 2 .Av ATl],AS5,λp=>EX p.1.1 p.1.2.1 p.2.2.1 p.2.2.2.1 p.2.2.2.2.1,λr=>(dI r.1,[.box AjX,F6 r.2.1,C1 r.2.2.1,Az r.2.2.2])⟩]
theorem AaG:Am prog 86 c86:=As (fn:=f86) ⟨⟨E61,pk trivial,λ_ R K=>by
 simp(disch:=refine id ?_;kernel_rfl) only[EX,ASc,OR,AG (AC8 _ _ _ _ _) (K:=A2 E61 f86 4 R K)];kernel_rfl⟩,trivial⟩
abbrev E62:=eN [(62,c62),(86,c86),(119,AEq),(120,AEr),(121,AEs),(122,AEt)] {BR:=[(9,[0,8,9,10,11,80])],DR:=[(9,[0,8,9,10,11])],WO:=[.mv 0 [1],.Ba 2],jc:=[(0,.row [] 2 ATl true)]}
def AAO(a:Int) b c d e g i j:=sT 107 [(0,.ptr 0 a [] 0),(8,dI b),(9,dI c),(10,dI d),(11,dI e)] [.box xu,.Ba,.Ba,.Ba,F6 g,C1 i,Az j]
def AyH(a:Int) b c d e g i j:=λ(k:Bool)=>xN 107 [(0,.ptr 0 a [] 0),(8,dI b),(9,dI c),(10,dI d),(11,dI e),(80,dB k)] [.box xu,.Ba,.Ba,.Ba,F6 g,C1 i,Az j]
def K8(a b c d e:Int)(g:ASB)(i:ASx)(j:ASs):ATC Bool:=
 bif decide (d>=0)then
 bif decide (e>=0)then
 if 0<=d/\d<g.length then
 if 0<=e/\e<g.length then
 (Et (g.getD d.toNat Ah.zero) (g.getD e.toNat Ah.zero)).bind λl=>some (!l)
 else none
 else none
 else
 some false
 else
 some false
theorem AC9 a b c d e g i j:AP E62 4 9 (code f85) 1020 (AAO a b c d e g i j) (K8 a b c d e g i j) (AyH a b c d e g i j):=by
 unfold AP;simp only[K8,ASb];kernel_rfl
def Lq(a:Int)(n:ASn)(o:Int)(q:ASB)(s:ASx)(t:ASs):ATC (Bool×ASs×ASB×ASx×ASs):=
 (Ih a n.1 q s t).bind λu=>(Ih a n.2.1 u.2.2.1 u.2.1 u.2.2.2).bind λv=>if(0:Int)<=u.1/\u.1<(v.2.2.2.length:Int)then
 if(0:Int)<=v.1/\v.1<(v.2.2.2.length:Int)then
 bif (v.2.2.2.getD u.1.toNat ATl.zero)==(v.2.2.2.getD v.1.toNat ATl.zero)then
 some (true,([]:ASs),v.2.2.1,v.2.1,v.2.2.2)
 else
 (EX a u.1 v.2.2.1 v.2.1 v.2.2.2).bind λw=>(EX a v.1 w.2.1 w.2.2.1 w.2.2.2).bind λx=>if(x.2.2.1.length+([(u.1,v.1,o,())]:ASx).length)*24<=140737488355328 then
 (K8 a u.1 v.1 w.1 x.1 x.2.1 (x.2.2.1++([(u.1,v.1,o,())]:ASx)) x.2.2.2).bind λk=>bif k then
 if Ty.row .bool=true/\(0:Int)<=((x.2.2.1++([(u.1,v.1,o,())]:ASx)).length:Int)/\((x.2.2.1++([(u.1,v.1,o,())]:ASx)).length:Int)<=((x.2.2.1++([(u.1,v.1,o,())]:ASx)).length:Int)/\((1:Nat):Int)*((x.2.2.1++([(u.1,v.1,o,())]:ASx)).length:Int)<=(281474976710656:Int)/\((x.2.2.1++([(u.1,v.1,o,())]:ASx)).length:Int)<=(9223372036854775807:Int)then
 (bY (x.2.2.1++([(u.1,v.1,o,())]:ASx)) w.1 x.1 (List.replicate ((x.2.2.1++([(u.1,v.1,o,())]:ASx)).length:Int).toNat false)).bind λy=>(Ti y.2.2).bind λa1=>some (false,a1,x.2.1,x.2.2.1++([(u.1,v.1,o,())]:ASx),x.2.2.2)
 else none
 else
 (Ol u.1 v.1 x.2.2.2).bind λb1=>some (true,([]:ASs),x.2.1,x.2.2.1++([(u.1,v.1,o,())]:ASx),b1)
 else none
 else none
 else none
def c85:=Cc [.UY,.d Ao,.d ATl] [⟨[.ptr 0 [] 0,.AA [] Ao,.AA [] ATl],[.box (.pr (.k Gl) (.pr (.k Qu) (.pr (.k (.AH 3)) (.k .u)))),.row 123 (.sh []) Ah,.row 204 .Av Ad,.row 2 .Av ATl],Bool×ASs×ASB×ASx×ASs,λp=>Lq p.1.1 p.1.2.1 p.1.2.2.1 p.2.2.1 p.2.2.2.1 p.2.2.2.2.1,λr=>(.cons Ox (.cons (dB r.1) .nil),[.box Ab4,.Ba,.Ba,.Ba,Az r.2.1,F6 r.2.2.1,C1 r.2.2.2.1,Az r.2.2.2.2])⟩]
theorem Alw:Am prog 85 c85:=As (fn:=f85) ⟨⟨E62,pk ⟨AaD,AaG,AfJ,AfK,AfM,AfN,trivial⟩,λ_ R K=>by
 simp(disch:=refine id ?_;kernel_rfl) only[Lq,ASc,A8 (AC9 ..) (K:=A2 E62 f85 4 R K)];kernel_rfl⟩,trivial⟩
abbrev E63:=eN [] {}
def P6(a:ASk):ATC ASP:=
 if a.2.1.length*8<=140737488355328 then
 some (a.1,a.2.1)
 else none
def c87:=Cc [.d Ah] [⟨[.AA [] Ah],[],ASP,λp=>P6 p.1.1,λr=>(.pr (dI r.1) Si,[C9 r.2])⟩]
theorem Alx:Am prog 87 c87:=As (fn:=f87) ⟨⟨E63,pk trivial,λ_ R K=>by
 simp only[P6,ASc];kernel_rfl⟩,trivial⟩
abbrev tC:=eN [(58,c58),(60,c60),(83,c83),(84,c84),(85,c85),(86,c86),(87,c87)] {A4:=[(8,{Bc:=[0,1,6,8,10,11,12,13],Ce:=[(12,true,.row [1] 204 Ad true)]}),(13,{Bc:=[0,1,6,8,10,11,12,13,14,16],Sp:=[(14,false,.sl Ao)],Ce:=[(12,true,.row [1] 204 Ad true)]}),(20,{Bc:=[6,10,11,12,19],Ce:=[(10,true,.row [1] 150 An true)]}),(25,{Bc:=[6,10,11,12,19,20,21],Ce:=[(20,true,.row [0] 2 ATl true)]})],BD:=[(8,[6,7,10,11,12]),(13,[0,1,6,7,8,10,11,12,13]),(20,[6,10]),(25,[6,10,11,12,19,20])],BR:=[(9,{Bc:=[0,1,6,7,8,10,11,12,13],Ce:=[(12,true,.row [1] 204 Ad true)]}),(21,{Bc:=[6,10,11,12,19],Ce:=[(10,true,.row [1] 150 An true)]}),(26,{Bc:=[6,10,11,12,19,20,21],Ce:=[(20,true,.row [0] 2 ATl true)]}),(33,{Bc:=[6,10,11,12,19,20],Ce:=[(20,true,.row [2,1] 88 ATm true)]})],DR:=[(9,[0,1,6,8,10,11,12,13]),(21,[6,10,11,12,19]),(26,[6,10,11,12,19,20,21]),(33,[6,10,11,12,19,20,22])],Sp:=[(0,Bz),(1,.bool)]}
def AsI a (b:Int) c (z_:Int×ASC×ASB×ASx×ASs):=sT 146 (AjA a b z_.1) (AjB c z_.2.1 z_.2.2.1 z_.2.2.2.1 z_.2.2.2.2)
def AqR(a b:Int) c:=λ(d:ASC)=>xE 4 146 [(6,Au),(10,A9)] [.box xw,.box (.pr (BV c) (.pr Qu VX)),GL d]
def AsH a (b:Int) e c g i j k:=sT 146 (AjA a b e) (AjB c g i j k)
def AqQ a (b:Int) e c (g:ASC) (i:ASB) (j:ASx) (k:ASs):=λ(l:(ASC×ASB×ASx×ASs))=>xN 146 (AjA a b e) (AjB c l.1 l.2.1 l.2.2.1 l.2.2.2)
def AsG a (b:Int) e c g n o q s t:=sT 146 [(6,Au),(10,A9),(11,dI a),(12,.ptr 2 b [] 0),(19,dI e),(20,cb),(22,dI o)] (xl c g q s t n)
def AqP a (b:Int) e c g n (o:Int) q s t:=λ(u:(Bool×Int×ASs))=>xN 146 [(6,Au),(10,A9),(11,dI a),(12,.ptr 2 b [] 0),(19,dI e),(20,cb)] [.box xw,.box (.pr (BV c) (.pr Ox VX)),.box Ab4,.box (.pr (.AH 8) (.pr (dB u.1) (.pr (.pr (dI u.2.1) (.pr (.AH 9) .u)) .u))),GL g,F6 q,C1 s,Az t,Az n,C9 u.2.2]
def Hw(a b e:Int)(c:ASl)(g:ASC)(n:ASs)(o:Int)(q:ASB)(s:ASx)(t:ASs):ATC (Bool×Int×ASs):=
 bif decide (o>=0)then
 if 0<=o/\o<q.length then
 (P6 (q.getD o.toNat Ah.zero)).bind λv=>some (true,v.1,v.2)
 else none
 else
 some (false,0,([]:ASs))
theorem AuQ a b e c g n o q s t:AP tC 0 33 (sb (cd f56 4084) 6) 94 (AsG a b e c g n o q s t) (Hw a b e c g n o q s t) (AqP a b e c g n o q s t):=by
 unfold AP;simp only[Hw,ASb];kernel_rfl
def AsF a (b:Int) e c g i j k (z_:Int×ASs):=sT 146 (AjC a b e z_.1) (xl c g i j k z_.2)
def AqO a (b:Int) e c g i j k:=λ(n:ASs)=>xE 6 146 [(6,Au),(10,A9),(11,dI a),(12,.ptr 2 b [] 0),(19,dI e),(20,cb)] (xl c g i j k n)
def AsE a (b:Int) e w c g i j k x:=sT 146 (AjC a b e w) (xl c g i j k x)
def AqN a (b:Int) e w c g i j k (x:ASs):=λ(y:ASs)=>xN 146 (AjC a b e w) (xl c g i j k y)
def KQ(a b e w:Int)(c:ASl)(g:ASC)(i:ASB)(j:ASx)(k x:ASs):ATC ASs:=
 if 0<=w/\w<k.length then
 bif (k.getD w.toNat ATl.zero)==e then
 if(x.length+([w]:ASs).length)*8<=140737488355328 then
 some (x++([w]:ASs))
 else none
 else
 some x
 else none
theorem AuO a b e w c g i j k x:AP tC 0 26 (sb (sb (cd f56 4084) 6) 180) 6 (AsE a b e w c g i j k x) (KQ a b e w c g i j k x) (AqN a b e w c g i j k x):=by
 unfold AP;simp only[KQ,ASb];kernel_rfl
def Nb(a b e:Int)(c:ASl)(g:ASC)(i:ASB)(j:ASx)(k:ASs)(w:Int)(x:ASs):ATC (ASP⊕ASs):=
 bif decide (w<a)then
 (KQ a b e w c g i j k x).bind λy=>some (.inl (wI (w+1),y))
 else
 some (.inr x)
def IQ a b e c g i j k (z_:Int×ASs):=Nb a b e c g i j k z_.1 z_.2
def KR a b e c g i j k w x:=fix (IQ a b e c g i j k) (w,x)
theorem AuP a b e c g i j k:A3 tC 0 25 (sb (cd f56 4084) 6) 90 (AsF a b e c g i j k) (IQ a b e c g i j k) (AqO a b e c g i j k):=by
 intro _;simp(disch:=refine id ?_;kernel_rfl) only[IQ,Nb,ASb,A8 (AuO ..) (K:=Kk tC 0 25)];kernel_rfl
def KS(a b e:Int)(c:ASl)(g:ASC)(i:ASB)(j:ASx)(k:ASs):ATC (ASC×ASB×ASx×ASs):=
 if 0<=e/\e<k.length then
 bif decide ((k.getD e.toNat ATl.zero)<e)then
 some (g,i,j,k)
 else
 (KR a b e c g i j k e ([]:ASs)).bind λn=>(EX b e i j k).bind λa1=>(Hw a b e c g n a1.1 a1.2.1 a1.2.2.1 a1.2.2.2).bind λu=>if(g.length+([(n,u.1,(u.2.1,u.2.2,()),())]:ASC).length)*64<=140737488355328 then
 some (g++([(n,u.1,(u.2.1,u.2.2,()),())]:ASC),a1.2.1,a1.2.2.1,a1.2.2.2)
 else none
 else none
theorem AuR a b e c g i j k:AP tC 0 21 (cd f56 4084) 6 (AsH a b e c g i j k) (KS a b e c g i j k) (AqQ a b e c g i j k):=by
 unfold AP;simp(disch:=refine id ?_;kernel_rfl) only[KS,ASb,KR,AG (AuP _ _ _ _ _ _ _ _) (K:=Ud tC 0 21),A8 (AuQ ..) (K:=Ud tC 0 21)];kernel_rfl
def Nc(a b:Int)(c:ASl)(e:Int)(g:ASC)(i:ASB)(j:ASx)(k:ASs):ATC ((Int×ASC×ASB×ASx×ASs)⊕ASC):=
 bif decide (e<a)then
 (KS a b e c g i j k).bind λl=>some (.inl (wI (e+1),l.1,l.2.1,l.2.2.1,l.2.2.2))
 else
 some (.inr g)
def IR a b c (z_:Int×ASC×ASB×ASx×ASs):=Nc a b c z_.1 z_.2.1 z_.2.2.1 z_.2.2.2.1 z_.2.2.2.2
def KT a b c e g i j k:=fix (IR a b c) (e,g,i,j,k)
theorem AuS a b c:A3 tC 0 20 (code f56) 2042 (AsI a b c) (IR a b c) (AqR a b c):=by
 intro _;simp(disch:=refine id ?_;kernel_rfl) only[IR,Nc,ASb,A8 (AuR ..) (K:=Kk tC 0 20)];kernel_rfl
def AAR b1 c1 d1 (e1:Int) g1 i1 (z_:Int×ASB×ASx×ASs):=sT 146 (AbX b1 c1 d1 e1 z_.1) (xm g1 i1 z_.2.1 z_.2.2.1 z_.2.2.2)
def AyK(b1:ASw)(c1:ASy) d1 (e1:Int) (g1:ASl) i1:=Sum.elim (λ(j1:AS0)=>xR 146 [(6,Au),(7,dB true),(10,A9),(11,dI d1),(12,.ptr 2 e1 [] 0)] [.box (.pr (BV i1) (.pr .zs xx)),.box (.pr (BV i1) (.pr .zs xx)),.box xu,Az j1.1,F6 j1.2.1,C1 j1.2.2.1,Az j1.2.2.2]) (λ(k1:AS4)=>xE 0 146 [(6,Au),(10,A9),(11,dI d1),(12,.ptr 2 e1 [] 0)] [.box xw,.box (.pr (BV i1) xt),.box (.pr (.AH 3) (.pr Ox (.pr (.AH 5) .u))),F6 k1.1,C1 k1.2.1,Az k1.2.2])
def AAQ b1 c1 d1 (e1:Int) l1 g1 i1 n1 o1 q1:=sT 146 (AbX b1 c1 d1 e1 l1) (xm g1 i1 n1 o1 q1)
def AyJ b1 c1 d1 (e1:Int) l1 g1 i1 (n1:ASB) (o1:ASx) (q1:ASs):=Sum.elim (λ(s1:AS4)=>xN 146 (AbX b1 c1 d1 e1 l1) (xm g1 i1 s1.1 s1.2.1 s1.2.2)) (λ(t1:AS0)=>xR 146 (Aoj b1 c1 d1 e1 l1) (Aok i1 g1 i1 t1.1 t1.2.1 t1.2.2.1 t1.2.2.2))
def AAP b1 c1 d1 (e1:Int) l1 g1 i1 u1 (z_:Int×ASB×ASx×ASs):=sT 146 [(0,Ar b1),(1,Bw c1),(6,Au),(8,A9),(10,Lb),(11,dI d1),(12,.ptr 3 e1 [] 0),(13,dI l1),(14,Z6 u1),(16,dI z_.1)] (xm g1 i1 z_.2.1 z_.2.2.1 z_.2.2.2)
def AyI b1 c1 d1 (e1:Int) l1 g1 i1 (u1:ASD):=Sum.elim (λ(v1:AS0)=>xR 146 (Aoj b1 c1 d1 e1 l1) (Aok i1 g1 i1 v1.1 v1.2.1 v1.2.2.1 v1.2.2.2)) (λ(w1:AS4)=>xE 2 146 (AbX b1 c1 d1 e1 l1) (xm g1 i1 w1.1 w1.2.1 w1.2.2))
def Gk(b1:ASw)(c1:ASy)(d1 e1 l1:Int)(g1 i1:ASl)(u1:ASD)(x1:Int)(y1:ASB)(a2:ASx)(b2:ASs):ATC (AS5⊕(AS0⊕AS4)):=
 bif decide (x1<(u1.length:Int))then
 if 0<=x1/\x1<u1.length then
 if 0<=l1/\l1<c1.length then
 (Lq e1 (u1.getD x1.toNat Ao.zero) (c1.getD l1.toNat Ae.zero).1 y1 a2 b2).bind λc2=>bif !c2.1 then
 some (.inr (.inl (c2.2.1,c2.2.2.1,c2.2.2.2.1,c2.2.2.2.2)))
 else
 some (.inl (wI (x1+1),c2.2.2.1,c2.2.2.2.1,c2.2.2.2.2))
 else none
 else none
 else
 some (.inr (.inr (y1,a2,b2)))
def Eh b1 c1 d1 e1 l1 g1 i1 u1 (z_:Int×ASB×ASx×ASs):=Gk b1 c1 d1 e1 l1 g1 i1 u1 z_.1 z_.2.1 z_.2.2.1 z_.2.2.2
def FK b1 c1 d1 e1 l1 g1 i1 u1 x1 y1 a2 b2:=fix (Eh b1 c1 d1 e1 l1 g1 i1 u1) (x1,y1,a2,b2)
theorem ADa b1 c1 d1 e1 l1 g1 i1 u1:A3 tC 0 13 (sb (cd f56 2036) 6) 46 (AAP b1 c1 d1 e1 l1 g1 i1 u1) (Eh b1 c1 d1 e1 l1 g1 i1 u1) (AyI b1 c1 d1 e1 l1 g1 i1 u1):=by
 intro _;simp only[Eh,Gk,ASb];kernel_rfl
def FL(b1:ASw)(c1:ASy)(d1 e1 l1:Int)(g1 i1:ASl)(n1:ASB)(o1:ASx)(q1:ASs):ATC (AS4⊕AS0):=
 if 0<=l1/\l1<c1.length then
 bif !(c1.getD l1.toNat Ae.zero).2.1 then
 some (.inl (n1,o1,q1))
 else
 if 0<=l1/\l1<c1.length then
 (LA b1 (c1.getD l1.toNat Ae.zero) g1).bind λd2=>(FK b1 c1 d1 e1 l1 g1 i1 d2.2 0 n1 o1 q1).bind (Sum.elim (λv1=>some (.inr (v1.1,v1.2.1,v1.2.2.1,v1.2.2.2))) (λw1=>some (.inl (w1.1,w1.2.1,w1.2.2))))
 else none
 else none
theorem ADb b1 c1 d1 e1 l1 g1 i1 n1 o1 q1:AP tC 0 9 (cd f56 2036) 6 (AAQ b1 c1 d1 e1 l1 g1 i1 n1 o1 q1) (FL b1 c1 d1 e1 l1 g1 i1 n1 o1 q1) (AyJ b1 c1 d1 e1 l1 g1 i1 n1 o1 q1):=by
 unfold AP;simp(disch:=refine id ?_;kernel_rfl) only[FL,ASb,FK,AG (ADa _ _ _ _ _ _ _ _) (K:=Ud tC 0 9)];kernel_rfl
def Ei(b1:ASw)(c1:ASy)(d1 e1:Int)(g1 i1:ASl)(l1:Int)(n1:ASB)(o1:ASx)(q1:ASs):ATC (AS5⊕(AS0⊕AS4)):=
 bif decide (l1<(c1.length:Int))then
 (FL b1 c1 d1 e1 l1 g1 i1 n1 o1 q1).bind (Sum.elim (λs1=>some (.inl (wI (l1+1),s1.1,s1.2.1,s1.2.2))) (λt1=>some (.inr (.inl (t1.1,t1.2.1,t1.2.2.1,t1.2.2.2)))))
 else
 some (.inr (.inr (n1,o1,q1)))
def C7 b1 c1 d1 e1 g1 i1 (z_:Int×ASB×ASx×ASs):=Ei b1 c1 d1 e1 g1 i1 z_.1 z_.2.1 z_.2.2.1 z_.2.2.2
def D6 b1 c1 d1 e1 g1 i1 l1 n1 o1 q1:=fix (C7 b1 c1 d1 e1 g1 i1) (l1,n1,o1,q1)
theorem ADc b1 c1 d1 e1 g1 i1:A3 tC 0 8 (code f56) 1018 (AAR b1 c1 d1 e1 g1 i1) (C7 b1 c1 d1 e1 g1 i1) (AyK b1 c1 d1 e1 g1 i1):=by
 intro _;simp(disch:=refine id ?_;kernel_rfl) only[C7,Ei,ASb,A8 (ADb ..) (K:=Kk tC 0 8)];kernel_rfl
def JW(b1:ASw)(c1:ASy)(e2:ASl):ATC (ASr×Bool):=
 (Ci b1 c1 e2).bind λg2=>bif !g2.2 then
 some (((([]:ASG),()),([]:ASC),([]:ASs),()),false)
 else
 (I6 b1 g2.1).bind λi2=>(VN (i2.length:Int)).bind λj2=>(D6 b1 c1 (i2.length:Int) j2.1 g2.1 g2.1 0 j2.2.1 ([]:ASx) j2.2.2).bind (Sum.elim (λj1=>some ((g2.1,([]:ASC),j1.1,()),true)) (λk1=>(KT (i2.length:Int) j2.1 g2.1 0 ([]:ASC) k1.1 k1.2.1 k1.2.2).bind λd=>some ((g2.1,d,([]:ASs),()),true)))
def c56:=Cc [.d ATr,.d ATt,.d Ak] [⟨[.AA [] ATr,.AA [] ATt,.AA [] Ak],[],ASr×Bool,λp=>JW p.1.1 p.1.2.1 p.1.2.2.1,λr=>(.cons (eh r.1) (.cons (dB r.2) .nil),[])⟩]
theorem Aaz:Am prog 56 c56:=As (fn:=f56) ⟨⟨tC,pk ⟨qB,AaC,qD,Alv,Alw,AaG,Alx,trivial⟩,λ_ R K=>by
 simp(disch:=refine id ?_;kernel_rfl) only[JW,ASc,D6,AG (ADc _ _ _ _ _ _) (K:=A2 tC f56 0 R K),KT,AG (AuS _ _ _) (K:=A2 tC f56 0 R K)];kernel_rfl⟩,trivial⟩
abbrev E65:=eN [(29,c29),(54,c54),(55,c55),(56,c56),(57,c57)] {ig:=[(24,ATt),(26,Ak)]}
def UK(a:ASw)(b:ASy):ATC Int:=
 (Es a b).bind λc=>bif !c then
 some 1
 else
 (Oj a b).bind λd=>bif !d.1 then
 some 1
 else
 (LB b).bind λe=>(QJ a).bind λg=>(JW a e (g,())).bind λi=>bif decide ((i.1.2.2.1.length:Int)>0)then
 some 2
 else
 some 0
def c26:=Cc [.d ATr,.d ATt] [⟨[.AA [] ATr,.AA [] ATt],[],Int,λp=>UK p.1.1 p.1.2.1,λr=>(dI r,[])⟩]
theorem AkS:Am prog 26 c26:=As (fn:=f26) ⟨⟨E65,pk ⟨Aau,iI,qA,Aaz,AaA,trivial⟩,λ_ R K=>by
 simp only[UK,ASc];kernel_rfl⟩,trivial⟩
abbrev E66:=eN [] {}
def Bb(a:Int):ASA:=([(1,a,0,0,(0,([]:ASs),()),([]:ASs),())]:ASA)
def c43:=Cc [.d ATl] [⟨[.AA [] ATl],[],ASA,λp=>some (Bb p.1.1),λr=>(.pr Kd .u,[X7 r])⟩]
theorem Ak4:Am prog 43 c43:=As (fn:=f43) ⟨⟨E66,pk trivial,λ_ _ _=>by kernel_rfl⟩,trivial⟩
abbrev E67:=eN [(54,c54),(55,c55)] {Av:=false,ig:=[(16,ATt),(23,ATt)]}
def Pm(a:ASw)(b c:ASq):ATC (Int×Bool×ASq×ASq×Bool):=
 (Es a ([(1,true,b,c,())]:ASy)).bind λd=>bif !d then
 some (1,true,b,c,false)
 else
 (Oj a ([(1,true,b,c,())]:ASy)).bind λe=>some (1,true,b,c,e.1)
def c27:=Cc [.d ATr,.d Aw,.d Aw] [⟨[.AA [] ATr,.AA [] Aw,.AA [] Aw],[],Int×Bool×ASq×ASq×Bool,λp=>Pm p.1.1 p.1.2.1 p.1.2.2.1,λr=>(.cons (.pr (dI r.1) (.pr (dB r.2.1) (.pr (Qr r.2.2.1) (.pr (Qr r.2.2.2.1) .u)))) (.cons (dB r.2.2.2.2) .nil),[])⟩]
theorem AkT:Am prog 27 c27:=As (fn:=f27) ⟨⟨E67,pk ⟨iI,qA,trivial⟩,λ_ R K=>by
 simp only[Pm,ASc];kernel_rfl⟩,trivial⟩
abbrev E68:=eN [(126,AuY)] {A4:=[(2,[1,2,5])],BD:=[(2,[4])]}
def AAS a b (z_:Int):=sT 22 [(1,dI a),(2,Au),(5,dI z_)] [.box (eh b)]
def AyL(a:Int)(b:ASr):=Sum.elim (λ(c:Int)=>xR 22 [(4,dI c)] []) (λ(d:Unit)=>xE 0 22 [] [])
def Rt(a:Int)(b:ASr)(e:Int):ATC (Int⊕(Int⊕Unit)):=
 bif decide (e<(b.2.1.length:Int))then
 if 0<=e/\e<b.2.1.length then
 (Ng (b.2.1.getD e.toNat An.zero).1 a).bind λg=>bif g then
 some (.inr (.inl e))
 else
 some (.inl (wI (e+1)))
 else none
 else
 some (.inr (.inr ()))
def Mc a b (z_:Int):=Rt a b z_
def PI a b e:=fix (Mc a b) e
theorem ADd a b:A3 E68 0 2 (code f96) 26 (AAS a b) (Mc a b) (AyL a b):=by
 intro _;simp only[Mc,Rt,ASb];kernel_rfl
def Rs(b:ASr)(a:Int):ATC Int:=
 (PI a b 0).bind (Sum.elim (λc=>some c) (λd=>some (-1)))
def c96:=Cc [.d Bz,.d ATl] [⟨[.AA [] Bz,.AA [] ATl],[],Int,λp=>Rs p.1.1 p.1.2.1,λr=>(dI r,[])⟩]
theorem AlC:Am prog 96 c96:=As (fn:=f96) ⟨⟨E68,pk ⟨ug,trivial⟩,λ_ R K=>by
 simp(disch:=refine id ?_;kernel_rfl) only[Rs,ASc,PI,AG (ADd _ _) (K:=A2 E68 f96 0 R K)];kernel_rfl⟩,trivial⟩
abbrev E69:=eN [(96,c96)] {Sp:=[(0,ATl),(1,Ah)]}
def GU(a:ASr)(b:ASd):ATC ASL:=
 bif decide (b.1<0)then
 some (-1,b.2.1)
 else
 (Rs a b.1).bind λc=>if 0<=c/\c<a.2.1.length then
 bif (a.2.1.getD c.toNat An.zero).2.1 then
 if 0<=c/\c<a.2.1.length then
 some (-1,(a.2.1.getD c.toNat An.zero).2.2.1)
 else none
 else
 some (c,(0,([]:ASs),()))
 else none
def c61:=Cc [.d Bz,.d AZ] [⟨[.AA [] Bz,.AA [] AZ],[],ASL,λp=>GU p.1.1 p.1.2.1,λr=>(.cons (dI r.1) (.cons (GK r.2) .nil),[])⟩]
theorem Alc:Am prog 61 c61:=As (fn:=f61) ⟨⟨E69,pk ⟨AlC,trivial⟩,λ_ R K=>by
 simp only[GU,ASc];kernel_rfl⟩,trivial⟩
abbrev E70:=eN [(56,c56),(57,c57),(58,c58),(59,c59),(60,c60),(61,c61),(62,c62)] {Av:=false,A4:=[(2,[0,1,5,7]),(9,{Bc:=[11,13,15],Sp:=[(13,false,.sl Ao)]})],BD:=[(2,[0,1,5,7]),(9,[6])],BR:=[(14,[11,13,15,103])],DR:=[(14,[11,13,15,16,17,18,19])],ig:=[(24,Ak),(31,ATt)]}
def AAV a b (z_:Int):=sT 104 [(11,Au),(13,Z6 a),(15,dI z_)] [.box (eh b)]
def AyO(a:ASD)(b:ASr):=Sum.elim (λ(c:Unit)=>xR 104 [(6,dB false)] []) (λ(d:Unit)=>xE 2 104 [] [])
def AAU a e b g i j k:=sT 104 [(11,Au),(13,Z6 a),(15,dI e),(16,dI g),(17,A9),(18,dI i),(19,Lb)] [.box (eh b),.box (GK j),.box (GK k)]
def AyN a e b (g:Int) (i:Int) (j:ASk) (k:ASk):=λ(l:Bool)=>xN 104 [(11,Au),(13,Z6 a),(15,dI e),(103,dB l)] [.box (eh b)]
def Ig(a:ASD)(e:Int)(b:ASr)(g i:Int)(j k:ASk):ATC Bool:=
 bif g !=i then
 some true
 else
 bif decide (g<0)then
 (Et j k).bind λn=>some (!n)
 else
 some false
theorem ADf a e b g i j k:AP E70 0 14 (cd f28 1012) 102 (AAU a e b g i j k) (Ig a e b g i j k) (AyN a e b g i j k):=by
 unfold AP;simp only[Ig,ASb];kernel_rfl
def Rx(a:ASD)(b:ASr)(e:Int):ATC (Int⊕(Unit⊕Unit)):=
 bif decide (e<(a.length:Int))then
 if 0<=e/\e<a.length then
 (GU b (a.getD e.toNat Ao.zero).1).bind λo=>if 0<=e/\e<a.length then
 (GU b (a.getD e.toNat Ao.zero).2.1).bind λq=>(Ig a e b o.1 q.1 o.2 q.2).bind λl=>bif l then
 some (.inr (.inl ()))
 else
 some (.inl (wI (e+1)))
 else none
 else none
 else
 some (.inr (.inr ()))
def Ml a b (z_:Int):=Rx a b z_
def PQ a b e:=fix (Ml a b) e
theorem ADg a b:A3 E70 0 9 (code f28) 506 (AAV a b) (Ml a b) (AyO a b):=by
 intro _;simp(disch:=refine id ?_;kernel_rfl) only[Ml,Rx,ASb,A8 (ADf ..) (K:=Kk E70 0 9)];kernel_rfl
def AAT s t u (z_:ASl):=sT 104 [(0,Ar s),(1,Bw t),(5,Au),(7,A9)] (xi u z_)
def AyM s t u:=λ(v:ASl)=>xE 0 104 [(0,Ar s),(1,Bw t),(5,Au),(7,A9)] (xi u v)
def Rw(s:ASw)(t:ASy)(u:ASh)(w:ASl):ATC (ASl⊕ASl):=
 (Ci s ([u]:ASy) w).bind λx=>(Ci s t x.1).bind λy=>(KV s y.1).bind λa1=>(KV s w).bind λb1=>bif a1==b1 then
 some (.inr w)
 else
 some (.inl y.1)
def Mk s t u (z_:ASl):=Rw s t u z_
def PO s t u w:=fix (Mk s t u) w
theorem ADe s t u:A3 E70 0 2 (code f28) 28 (AAT s t u) (Mk s t u) (AyM s t u):=by
 intro _;simp only[Mk,Rw,ASb];kernel_rfl
def GI(s:ASw)(t:ASy)(u:ASh):ATC Bool:=
 (QJ s).bind λc1=>(Ci s t (c1,())).bind λd1=>(PO s t u d1.1).bind λv=>(JW s t v).bind λe1=>(LA s u v).bind λg1=>(PQ g1.2 e1.1 0).bind (Sum.elim (λc=>some false) (λd=>some true))
def c28:=Cc [.d ATr,.d ATt,.d Ae] [⟨[.AA [] ATr,.AA [] ATt,.AA [] Ae],[],Bool,λp=>GI p.1.1 p.1.2.1 p.1.2.2.1,λr=>(dB r,[])⟩]
theorem AkU:Am prog 28 c28:=As (fn:=f28) ⟨⟨E70,pk ⟨Aaz,AaA,qB,AaB,AaC,Alc,AaD,trivial⟩,λ_ R K=>by
 simp(disch:=refine id ?_;kernel_rfl) only[GI,ASc,PO,AG (ADe _ _ _) (K:=A2 E70 f28 0 R K),PQ,AG (ADg _ _) (K:=A2 E70 f28 0 R K)];kernel_rfl⟩,trivial⟩
abbrev E71:=eN [(26,c26),(27,c27),(28,c28),(29,c29),(43,c43)] {A4:=[(8,{Bc:=[0,6,8,9,10],Sp:=[(8,false,ATt)],Ce:=[(6,false,.row [] 78 ATo true)]}),(12,[0,6,8,9,10,11,12])],BD:=[(8,[6]),(12,[0,6,8,9,10,11])],BR:=[(9,{Bc:=[0,6,8,9,10],Ce:=[(6,false,.row [] 78 ATo true)]}),(13,[0,6,8,9,10,11,12]),(14,[0,6,8,9,10,11,12])],DR:=[(9,[0,6,8,9,10]),(13,[0,6,8,9,10,11,12]),(14,[0,6,8,9,10,11,12])],ig:=[(65,Aw),(67,Aw)],jc:=[(0,.row [] 78 ATo true)]}
def AsK a b (z_:Int×ASG×ASt):=sT 90 (AjD a b z_.1) [Bl z_.2.1,Dm z_.2.2]
def AqT(a:ASw)(b:ASy):=λ(c:ASG)=>xE 0 90 xn [Bl c]
def AsJ a b d e g:=sT 90 (AjD a b d) [Bl e,Dm g]
def AqS a b d (e:ASG) (g:ASt):=λ(i:(ASG×ASt))=>xN 90 (AjD a b d) [Bl i.1,Dm i.2]
def AAY a b d e (z_:Int×ASt×ASs):=sT 90 (pW a b d z_.1) [Bl e,Dm z_.2.1,Az z_.2.2]
def AyR a b d e:=λ(j:AST)=>xE 2 90 [(0,Ar a),(6,.AH 0),(8,Bw b),(9,.AH 1),(10,dI d),(11,.AH 2)] [Bl e,Dm j.1,Az j.2]
def AAX a b d k e l n:=sT 90 (pW a b d k) [Bl e,Dm l,Az n]
def AyQ a b d k e (l:ASt) (n:ASs):=λ(o:AST)=>xN 90 (pW a b d k) [Bl e,Dm o.1,Az o.2]
def NU(a:ASw)(b:ASy)(d k:Int)(e:ASG)(l:ASt)(n:ASs):ATC AST:=
 if 0<=d/\d<a.length then
 if 0<=k/\k<a.length then
 bif (a.getD d.toNat Ab.zero).2.1 !=(a.getD k.toNat Ab.zero).2.1 then
 some (l,n)
 else
 (Pm a (Bb d,()) (Bb k,())).bind λq=>(GI a b (q.1,q.2.1,q.2.2.1,q.2.2.2.1,())).bind λs=>bif s then
 if(n.length+([k]:ASs).length)*8<=140737488355328 then
 if 0<=k/\k<l.length then
 some (l.set k.toNat true,n++([k]:ASs))
 else none
 else none
 else
 some (l,n)
 else none
 else none
theorem ADi a b d k e l n:AP E71 0 13 (sb (sb (cd f16 2036) 6) 84) 6 (AAX a b d k e l n) (NU a b d k e l n) (AyQ a b d k e l n):=by
 unfold AP;simp only[NU,ASb];kernel_rfl
def AAW a b d k e l n:=sT 90 (pW a b d k) [Bl e,Dm l,Az n]
def AyP a b d k e l n:=Sum.elim (λ(t:Unit)=>xN 90 (pW a b d k) [Bl e,Dm l,Az n]) (λ(u:Unit)=>xE 2 90 (pW a b d k) [Bl e,Dm l,Az n])
def J0(a:ASw)(b:ASy)(d k:Int)(e:ASG)(l:ASt)(n:ASs):ATC (Unit⊕Unit):=
 bif decide (k<(a.length:Int))then
 if 0<=d/\d<l.length then
 bif !(l.getD d.toNat (Ty.zero .bool))then
 some (.inl ())
 else
 some (.inr ())
 else none
 else
 some (.inr ())
theorem ADh a b d k e l n:AP E71 0 14 (sb (sb (cd f16 2036) 6) 84) 2 (AAW a b d k e l n) (J0 a b d k e l n) (AyP a b d k e l n):=by
 unfold AP;simp only[J0,ASb];kernel_rfl
def KW(a:ASw)(b:ASy)(d:Int)(e:ASG)(k:Int)(l:ASt)(n:ASs):ATC ((Int×ASt×ASs)⊕AST):=
 (J0 a b d k e l n).bind (Sum.elim (λt=>(NU a b d k e l n).bind λo=>some (.inl (wI (k+1),o.1,o.2))) (λu=>some (.inr (l,n))))
def HA a b d e (z_:Int×ASt×ASs):=KW a b d e z_.1 z_.2.1 z_.2.2
def G6 a b d e k l n:=fix (HA a b d e) (k,l,n)
theorem ADj a b d e:A3 E71 0 12 (sb (cd f16 2036) 6) 42 (AAY a b d e) (HA a b d e) (AyR a b d e):=by
 intro _;simp(disch:=refine id ?_;kernel_rfl) only[HA,KW,ASb,A8 (ADh ..) (K:=Kk E71 0 12),A8 (ADi ..) (K:=Kk E71 0 12)];kernel_rfl
def Mj(a:ASw)(b:ASy)(d:Int)(e:ASG)(g:ASt):ATC (ASG×ASt):=
 (G6 a b d e (wI (d+1)) g ([d]:ASs)).bind λj=>bif decide ((j.2.length:Int)>1)then
 if(e.length+([j.2]:ASG).length)*24<=140737488355328 then
 some (e++([j.2]:ASG),j.1)
 else none
 else
 some (e,j.1)
theorem AuT a b d e g:AP E71 0 9 (cd f16 2036) 6 (AsJ a b d e g) (Mj a b d e g) (AqS a b d e g):=by
 unfold AP;simp(disch:=refine id ?_;kernel_rfl) only[Mj,ASb,G6,AG (ADj _ _ _ _) (K:=Ud E71 0 9)];kernel_rfl
def OQ(a:ASw)(b:ASy)(d:Int)(e:ASG)(g:ASt):ATC ((Int×ASG×ASt)⊕ASG):=
 bif decide (d<(a.length:Int))then
 (Mj a b d e g).bind λi=>some (.inl (wI (d+1),i.1,i.2))
 else
 some (.inr e)
def Jw a b (z_:Int×ASG×ASt):=OQ a b z_.1 z_.2.1 z_.2.2
def IX a b d e g:=fix (Jw a b) (d,e,g)
theorem AuU a b:A3 E71 0 8 (code f16) 1018 (AsK a b) (Jw a b) (AqT a b):=by
 intro _;simp(disch:=refine id ?_;kernel_rfl) only[Jw,OQ,ASb,A8 (AuT ..) (K:=Kk E71 0 8)];kernel_rfl
def Pl(a:ASw)(v:ASy):ATC ASX:=
 (UK a v).bind λw=>bif w !=0 then
 some (w,([]:ASG))
 else
 (LB v).bind λb=>if Ty.row .bool=true/\(0:Int)<=(a.length:Int)/\(a.length:Int)<=(a.length:Int)/\((1:Nat):Int)*(a.length:Int)<=(281474976710656:Int)/\(a.length:Int)<=(9223372036854775807:Int)then
 (IX a b 0 ([]:ASG) (List.replicate (a.length:Int).toNat false)).bind λc=>some (0,c)
 else none
def c16:=Cc [.d ATr,.d ATt] [⟨[.AA [] ATr,.AA [] ATt],[],ASX,λp=>Pl p.1.1 p.1.2.1,λr=>(.cons Kd (.cons (dI r.1) .nil),[Bl r.2])⟩]
theorem AkI:Am prog 16 c16:=As (fn:=f16) ⟨⟨E71,pk ⟨AkS,AkT,AkU,Aau,Ak4,trivial⟩,λ_ R K=>by
 simp(disch:=refine id ?_;kernel_rfl) only[Pl,ASc,IX,AG (AuU _ _) (K:=A2 E71 f16 0 R K)];kernel_rfl⟩,trivial⟩
abbrev E72:=eN [] {A4:=[(4,[0,3])],BD:=[(4,[2])],BR:=[(2,[0,21]),(7,[0,3,49])],DR:=[(2,[0]),(7,[0,3])]}
def AA1 a (z_:Int):=sT 50 [(0,HW a),(3,dI z_)] []
def AyU(a:ByteArray):=Sum.elim (λ(b:Unit)=>xR 50 [(2,dB false)] []) (λ(c:Unit)=>xE 0 50 [] [])
def AA0 a d:=sT 50 [(0,HW a),(3,dI d)] []
def AyT a d:=λ(e:Bool)=>xN 50 [(0,HW a),(3,dI d),(49,dB e)] []
def MY(a:ByteArray)(d:Int):ATC Bool:=
 if(0:Int)<=d/\d<(a.size:Int)then
 bif decide ((C2 a d)<97)then
 if(0:Int)<=d/\d<(a.size:Int)then
 bif decide ((C2 a d)<48)then
 some true
 else
 if(0:Int)<=d/\d<(a.size:Int)then
 some (decide ((C2 a d)>57))
 else none
 else none
 else
 if(0:Int)<=d/\d<(a.size:Int)then
 bif decide ((C2 a d)>122)then
 if(0:Int)<=d/\d<(a.size:Int)then
 bif decide ((C2 a d)<48)then
 some true
 else
 if(0:Int)<=d/\d<(a.size:Int)then
 some (decide ((C2 a d)>57))
 else none
 else none
 else
 some false
 else none
 else none
theorem ADl a d:AP E72 0 7 (cd f64 116) 24 (AA0 a d) (MY a d) (AyT a d):=by
 unfold AP;simp only[MY,ASb];kernel_rfl
def ND(a:ByteArray)(d:Int):ATC (Int⊕(Unit⊕Unit)):=
 bif decide (d<(a.size:Int))then
 (MY a d).bind λe=>bif e then
 some (.inr (.inl ()))
 else
 some (.inl (wI (d+1)))
 else
 some (.inr (.inr ()))
def JI a (z_:Int):=ND a z_
def Y9 a d:=fix (JI a) d
theorem ADm a:A3 E72 0 4 (code f64) 58 (AA1 a) (JI a) (AyU a):=by
 intro _;simp(disch:=refine id ?_;kernel_rfl) only[JI,ND,ASb,A8 (ADl ..) (K:=Kk E72 0 4)];kernel_rfl
def AAZ a:=sT 50 [(0,HW a)] []
def AyS a:=λ(g:Bool)=>xN 50 [(0,HW a),(21,dB g)] []
def Q2(a:ByteArray):ATC Bool:=
 bif decide ((a.size:Int)<1)then
 some true
 else
 bif decide ((a.size:Int)>12)then
 some true
 else
 if(0:Int)<=(0:Int)/\(0:Int)<(a.size:Int)then
 bif decide ((C2 a 0)<97)then
 some true
 else
 if(0:Int)<=(0:Int)/\(0:Int)<(a.size:Int)then
 some (decide ((C2 a 0)>122))
 else none
 else none
theorem ADk a:AP E72 0 2 (code f64) 12 (AAZ a) (Q2 a) (AyS a):=by
 unfold AP;simp only[Q2,ASb];kernel_rfl
def QB(a:ByteArray):ATC Bool:=
 (Q2 a).bind λg=>bif g then
 some false
 else
 (Y9 a 0).bind (Sum.elim (λb=>some false) (λc=>some true))
def c64:=Cc [.d .str] [⟨[.AA [] .str],[],Bool,λp=>QB p.1.1,λr=>(dB r,[])⟩]
theorem Ale:Am prog 64 c64:=As (fn:=f64) ⟨⟨E72,pk trivial,λ_ R K=>by
 simp(disch:=refine id ?_;kernel_rfl) only[QB,ASc,A8 (ADk _) (K:=A2 E72 f64 0 R K),Y9,AG (ADm _) (K:=A2 E72 f64 0 R K)];kernel_rfl⟩,trivial⟩
abbrev E73:=eN [] {}
def AQ(a b c:Int):Bool:=((decide (a>=b))&&(decide (a<=c)))
theorem U73 R a b c K:TP E73 f65 R [dI a,dI b,dI c] [] K=K (dB (AQ a b c)) []:=by
 refine .trans (b:=
 bif decide (a>=b)then
 K (dB (decide (a<=c))) []
 else
 K (dB false) []) (by kernel_rfl) ?_
 unfold AQ;cases (decide (a>=b));rfl;rfl
def c65:=Cc [.d ATl,.d ATl,.d ATl] [⟨[.AA [] ATl,.AA [] ATl,.AA [] ATl],[],Bool,λp=>some (AQ p.1.1 p.1.2.1 p.1.2.2.1),λr=>(dB r,[])⟩]
theorem ZA:Am prog 65 c65:=As ⟨⟨E73,pk trivial,λ_ _ _=>U73 ..⟩,trivial⟩
abbrev E74:=eN [] {}
def T6(a:ASf)(b:ByteArray):Bool:=(Jd a.1 b)
def AD8:=Cc [.d Ab,.p .str] [⟨[.AA [] Ab,.Fw [] .str],[],Bool,λp=>some (T6 p.1.1 p.1.2.1),λr=>(dB r,[])⟩]
theorem Afr:Am prog 100 AD8:=As (fn:=f100) ⟨⟨E74,pk trivial,λ_ _ _=>by kernel_rfl⟩,trivial⟩
abbrev E75:=eN [(100,AD8)] {A4:=[(2,[0,1,7,8])],BD:=[(2,[4])]}
def AA2 a (b:Int) c d (z_:Int):=sT 19 [(0,Ar a),(1,.fn 100 (.cons (.ptr 0 b [] 0) .nil)),(7,dI d),(8,dI z_)] [.box (HW c)]
def AyV(a:ASw)(b:Int) c (d:Int):=Sum.elim (λ(e:Int)=>xR 19 [(4,dI e)] [.box (HW c)]) (λ(g:Unit)=>xE 0 19 [] [.box (HW c)])
def D3(a:ASw)(b:Int)(c:ByteArray)(d i:Int):ATC (Int⊕(Int⊕Unit)):=
 bif decide (i<d)then
 if 0<=i/\i<a.length then
 bif T6 (a.getD i.toNat Ab.zero) c then
 some (.inr (.inl i))
 else
 some (.inl (wI (i+1)))
 else none
 else
 some (.inr (.inr ()))
def CO a b c d (z_:Int):=D3 a b c d z_
def I5 a b c d i:=fix (CO a b c d) i
theorem ADn a b c d:A3 E75 1 2 (code f99) 26 (AA2 a b c d) (CO a b c d) (AyV a b c d):=by
 intro _;simp only[CO,D3,ASb];kernel_rfl
def HU(a:ASw)(b:Int)(c:ByteArray):ATC (Int×ByteArray):=
 (I5 a b c (a.length:Int) 0).bind (Sum.elim (λe=>some (e,c)) (λg=>some (-1,c)))
def c99:=Cc [.d ATr,.UY] [⟨[.AA [] ATr,.fn 100 (.cons (.ptr 0 [] 0) (.k .nil))],[.box (.AA [] .str)],Int×ByteArray,λp=>HU p.1.1 p.1.2.1.1 p.2.1,λr=>(dI r.1,[.box (HW r.2)])⟩]
theorem AlF:Am prog 99 c99:=As (fn:=f99) ⟨⟨E75,pk ⟨Afr,trivial⟩,λ_ R K=>by
 simp(disch:=refine id ?_;kernel_rfl) only[HU,ASc,I5,AG (ADn _ _ _ _) (K:=A2 E75 f99 1 R K)];kernel_rfl⟩,trivial⟩
abbrev E76:=eN [(99,c99)] {}
def Lu(a:ASw)(b:ByteArray):ATC Int:=
 (HU a 0 b).bind λc=>some c.1
def c66:=Cc [.d ATr,.d .str] [⟨[.AA [] ATr,.AA [] .str],[],Int,λp=>Lu p.1.1 p.1.2.1,λr=>(dI r,[])⟩]
theorem Alf:Am prog 66 c66:=As (fn:=f66) ⟨⟨E76,pk ⟨AlF,trivial⟩,λ_ R K=>by
 simp only[Lu,ASc];kernel_rfl⟩,trivial⟩
abbrev E77:=eN [(64,c64),(65,c65),(66,c66)] {A4:=[(5,[0,3,9,10,11])],BD:=[(5,[2,3])],BR:=[(8,[0,3,5,9,10,11,34])],DR:=[(8,[0,3,4,5,9,10,11])]}
def AA4 a b (z_:Int×Int):=sT 42 [(0,Ar a),(3,dI z_.1),(9,Ar a),(10,dI b),(11,dI z_.2)] []
def AyX(a:ASw)(b:Int):=Sum.elim (λ(c:Int)=>xR 42 [(2,dB false),(3,dI c)] []) (λ(d:Int)=>xE 0 42 [(3,dI d)] [])
def AA3 a e g b i:=sT 42 [(0,Ar a),(3,dI e),(4,dI g),(5,Au),(9,Ar a),(10,dI b),(11,dI g)] [.box (d9 i)]
def AyW a e g b i:=λ(j:Bool)=>xN 42 [(0,Ar a),(3,dI e),(5,Au),(9,Ar a),(10,dI b),(11,dI g),(34,dB j)] [.box (d9 i)]
def Pq(a:ASw)(e g b:Int)(i:ASf):ATC Bool:=
 (QB i.1).bind λk=>bif !k then
 some true
 else
 bif !(AQ i.2.1 1 4096)then
 some true
 else
 if(0:Int)<=(0:Int)/\(0:Int)<=g/\g<=(a.length:Int)then
 (Lu ((a.take g.toNat).drop 0) i.1).bind λl=>some (decide (l>=0))
 else none
theorem ADo a e g b i:AP E77 0 8 (cd f33 244) 228 (AA3 a e g b i) (Pq a e g b i) (AyW a e g b i):=by
 unfold AP;simp only[Pq,ASb];kernel_rfl
def LX(a:ASw)(b e g:Int):ATC (ASR⊕(Int⊕Int)):=
 bif decide (g<b)then
 if 0<=g/\g<a.length then
 (Pq a e g b (a.getD g.toNat Ab.zero)).bind λj=>bif j then
 some (.inr (.inl e))
 else
 some (.inl (wI (e+(a.getD g.toNat Ab.zero).2.1),wI (g+1)))
 else none
 else
 some (.inr (.inr e))
def Io a b (z_:Int×Int):=LX a b z_.1 z_.2
def Yi a b e g:=fix (Io a b) (e,g)
theorem ADp a b:A3 E77 0 5 (code f33) 122 (AA4 a b) (Io a b) (AyX a b):=by
 intro _;simp(disch:=refine id ?_;kernel_rfl) only[Io,LX,ASb,A8 (ADo ..) (K:=Kk E77 0 5)];kernel_rfl
def Nv(a:ASw):ATC Bool:=
 bif decide ((a.length:Int)>60)then
 some false
 else
 (Yi a (a.length:Int) 0 0).bind (Sum.elim (λc=>some false) (λd=>some (decide (d<=20000))))
def c33:=Cc [.d ATr] [⟨[.AA [] ATr],[],Bool,λp=>Nv p.1.1,λr=>(dB r,[])⟩]
theorem Aav:Am prog 33 c33:=As (fn:=f33) ⟨⟨E77,pk ⟨Ale,ZA,Alf,trivial⟩,λ_ R K=>by
 simp(disch:=refine id ?_;kernel_rfl) only[Nv,ASc,Yi,AG (ADp _ _) (K:=A2 E77 f33 0 R K)];kernel_rfl⟩,trivial⟩
abbrev E78:=eN [] {}
def Ck(a:Int):Int:=(wI (Int.tdiv (wI (a+63)) 64))
def Au3:=Cc [.d ATl] [⟨[.AA [] ATl],[],Int,λp=>some (Ck p.1.1),λr=>(dI r,[])⟩]
theorem um:Am prog 159 Au3:=As (fn:=f159) ⟨⟨E78,pk trivial,λ_ _ _=>by kernel_rfl⟩,trivial⟩
abbrev E79:=eN [(65,c65),(159,Au3)] {BR:=[(2,[1,16])],DR:=[(2,[1])]}
def Anh a:=sT 35 [(1,Au)] [.box (GK a)]
def AeF(a:ASk)(m0:Bool):Ex×St:=xN 35 [(1,Au),(16,dB m0)] [.box (GK a)]
theorem ADq a:Za E79 0 2 (code f153) (pt 12) (Anh a)=some (AeF a ((!(AQ a.1 1 4096))||((a.2.1.length:Int) !=(Ck a.1)))):=by
 refine .trans (b:=
 bif !(AQ a.1 1 4096)then
 some (AeF a true)
 else
 some (AeF a ((a.2.1.length:Int) !=(Ck a.1)))) (by kernel_rfl) ?_
 cases (!(AQ a.1 1 4096));rfl;rfl
def Qy(a:ASk):ATC Bool:=
 R3 (Anh a) (
 bif (!(AQ a.1 1 4096))||((a.2.1.length:Int) !=(Ck a.1))then
 some false
 else
 bif (Int.tmod a.1 64)==0 then
 some true
 else
 if 0<=(wI ((a.2.1.length:Int)-1))/\(wI ((a.2.1.length:Int)-1))<a.2.1.length then
 if(Int.tmod a.1 64)<(0:Int)then none else
 some ((SG .u64 (a.2.1.getD (wI ((a.2.1.length:Int)-1)).toNat ATm.zero) (Int.tmod a.1 64))==0)
 else none)
def AEP:=Cc [.d Ah] [⟨[.AA [] Ah],[],Bool,λp=>Qy p.1.1,λr=>(dB r,[])⟩]
theorem Af9:Am prog 153 AEP:=As (fn:=f153) ⟨⟨E79,pk ⟨ZA,um,trivial⟩,λ_ R K=>by
 simp(disch:=refine id ?_;kernel_rfl) only[Qy,ASc,GN (ADq _) (K:=A2 E79 f153 0 R K)];kernel_rfl⟩,trivial⟩
end
end Go.Proofs.X
