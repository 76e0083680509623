import Derived.KernelRfl
import Derived.Test.YtlohhmmaibiimaaGreatK7
set_option linter.unusedVariables false
set_option linter.unusedSimpArgs false
namespace Go.Proofs.X
open Go Go.Va Go.Proofs.Tryz
set_option maxRecDepth 100000
noncomputable section
abbrev AdZ:Bd:=⟨A7,Az [],{A9:=[(3,{Ap:=[3,8,9],B6:=[(3,true,.row [0] 2 AIa true),(3,true,.row [1] 2 AIa true)]})],BQ:=[(3,{Ap:=[3]})]}⟩
def AiW a (z_:Int×AHT×AHT):=sT 33 [(3,.ptr 0 0 [] 0),(8,dI a),(9,dI z_.1)] [.box (.pr (.Ak 1) (.pr (.Ak 2) (.pr (.mp 3) (.pr .zs .u)))),.row 2 .Ai AIa z_.2.1,.row 2 .Ai AIa z_.2.2,.map (.sh []) AIa Ah ([]:List (Int×AHM)) none]
def AhF(a:Int):=λ(b:(AHT×AHT))=>(Ex.exit 0,sT 33 [(3,.ptr 0 0 [] 0)] [.box (.pr (.Ak 1) (.pr (.Ak 2) (.pr (.mp 3) (.pr .zs .u)))),.row 2 .Ai AIa b.1,.row 2 .Ai AIa b.2,.map (.sh []) AIa Ah ([]:List (Int×AHM)) none])
def Ip(a c:Int)(d e:AHT):Option ((Int×AHT×AHT)⊕(AHT×AHT)):=
 bif decide (c<a)then
 if(d.length+([c]:AHT).length)*8<=140737488355328 then
 if(e.length+([-1]:AHT).length)*8<=140737488355328 then
 some (.inl (wI (c+1),d++([c]:AHT),e++([-1]:AHT)))
 else none
 else none
 else
 some (.inr (d,e))
def DG a (z_:Int×AHT×AHT):=Ip a z_.1 z_.2.1 z_.2.2
def Pb a c d e:=fix (DG a) (c,d,e)
theorem Akk a:A5 AdZ 0 3 (code f171) 58 (AiW a) (DG a) (AhF a):=by
 intro _;simp only[DG,Ip,AHE];kernel_rfl
def IK(a:Int):Option (Int×AHT×AHT×(List (Int×AHM))):=
 (Pb a 0 ([]:AHT) ([]:AHT)).bind λb=>some (0,b.1,b.2,([]:List (Int×AHM)))
theorem AyZ R a K:AW AdZ f171 R [dI a] [] K=(IK a).bind λr=>K (.ptr 0 r.1 [] 0) [.box (.pr (.Ak 1) (.pr (.Ak 2) (.pr (.mp 3) (.pr .zs .u)))),.row 2 .Ai AIa r.2.1,.row 2 .Ai AIa r.2.2.1,.map (.sh []) AIa Ah r.2.2.2 none]:=by
 simp only[IK,AHF];simp(disch:=refine id ?_;kernel_rfl) only[Pb,AF (Akk _) (K:=A4 AdZ f171 0 R K)];kernel_rfl
def Avd:=Cx [.d AIa] [⟨[.AA [] AIa],[],Int×AHT×AHT×(List (Int×AHM)),λp=>IK p.1.1,λr=>(.ptr 0 r.1 [] 0,[.box (.pr (.Ak 1) (.pr (.Ak 2) (.pr (.mp 3) (.pr .zs .u)))),.row 2 .Ai AIa r.2.1,.row 2 .Ai AIa r.2.2.1,.map (.sh []) AIa Ah r.2.2.2 none])⟩]
theorem zM:As prog 171 Avd:=Aw ⟨⟨AdZ,pk trivial,λ_ _ _=>AyZ ..⟩,trivial⟩
abbrev Y3:Bd:=⟨A7,Az [],{Ai:=true,A9:=[(4,{Ap:=[3,5,6,12,13,14],B6:=[(5,false,.row [] 2 AIa true)]}),(9,{Ap:=[3,5,6,8,12,13,14,30,31,32]})],BQ:=[(4,{Ap:=[5]}),(9,{Ap:=[3,5,6,8,12,13,14]})],BP:=[(12,{Ap:=[3,5,6,8,10,12,13,14,30,31,32,48]}),(13,{Ap:=[3,5,6,8,12,13,14,30,31,32]}),(14,{Ap:=[3,5,6,8,12,13,14]})],D2:=[(12,[3,5,6,8,10,12,13,14,30,31,32]),(13,[3,5,6,8,12,13,14,30,31,32]),(14,[3,5,6,8,12,13,14])]}⟩
def Ai0 a b c (z_:Int×Int×AHT):=sT 65 [(3,.ptr 0 0 [] 0),(5,.Ak 1),(6,dI z_.1),(12,dD AIe a),(13,dI c),(14,dI z_.2.1)] [.box (dD Aj b),.row 2 .Ai AIa z_.2.2]
def AhJ(a:AHZ)(b:AHN)(c:Int):=λ(d:AHT)=>(Ex.exit 0,sT 65 [(5,.Ak 0)] [.row 2 .Ai AIa d])
def AiZ e a c g b i j:=sT 65 [(3,.ptr 0 0 [] 0),(5,.Ak 1),(6,dI e),(8,.ptr 2 0 [] 0),(12,dD AIe a),(13,dI c),(14,dI g)] [.box (dD Aj b),.row 2 .Ai AIa i,.box (dD Ae j)]
def AhI e a c g b (i:AHT) j:=λ(k:AHT)=>(Ex.normal,sT 65 [(3,.ptr 0 0 [] 0),(5,.Ak 1),(6,dI e),(8,.ptr 2 0 [] 0),(12,dD AIe a),(13,dI c),(14,dI g)] [.box (dD Aj b),.row 2 .Ai AIa k,.box (dD Ae j)])
def AiY e a c g b j l n (z_:Int×AHT):=sT 65 [(3,.ptr 0 0 [] 0),(5,.Ak 1),(6,dI e),(8,.ptr 2 0 [] 0),(12,dD AIe a),(13,dI c),(14,dI g),(30,dD AIf l),(31,dI n),(32,dI z_.1)] [.box (dD Aj b),.row 2 .Ai AIa z_.2,.box (dD Ae j)]
def AhH e a c g b j (l:AHT) (n:Int):=λ(o:AHT)=>(Ex.exit 2,sT 65 [(3,.ptr 0 0 [] 0),(5,.Ak 1),(6,dI e),(8,.ptr 2 0 [] 0),(12,dD AIe a),(13,dI c),(14,dI g)] [.box (dD Aj b),.row 2 .Ai AIa o,.box (dD Ae j)])
def AiX e a c g l n q b s j:=sT 65 [(3,.ptr 0 0 [] 0),(5,.Ak 1),(6,dI e),(8,.ptr 2 0 [] 0),(12,dD AIe a),(13,dI c),(14,dI g),(30,dD AIf l),(31,dI n),(32,dI q)] [.box (dD Aj b),.row 2 .Ai AIa s,.box (dD Ae j)]
def AhG e a c g l n q b (s:AHT) j:=λ(t:AHT)=>(Ex.normal,sT 65 [(3,.ptr 0 0 [] 0),(5,.Ak 1),(6,dI e),(8,.ptr 2 0 [] 0),(12,dD AIe a),(13,dI c),(14,dI g),(30,dD AIf l),(31,dI n),(32,dI q)] [.box (dD Aj b),.row 2 .Ai AIa t,.box (dD Ae j)])
def qF e (l:AHT) (q:Int) a c g n b s j:=sT 65 [(3,.ptr 0 0 [] 0),(5,.Ak 1),(6,dI e),(8,.ptr 2 0 [] 0),(10,dI (l.getD q.toNat AIa.zero)),(12,dD AIe a),(13,dI c),(14,dI g),(30,dD AIf l),(31,dI n),(32,dI q)] [.box (dD Aj b),.row 2 .Ai AIa s,.box (dD Ae j)]
def qw(e:Int)(l:AHT)(q:Int)(a:AHZ)(c g n:Int)(b:AHN)(s:AHT)(j:AHJ)(m0:Bool):Ex×St:=(.normal,sT 65 [(3,.ptr 0 0 [] 0),(5,.Ak 1),(6,dI e),(8,.ptr 2 0 [] 0),(10,dI (l.getD q.toNat AIa.zero)),(12,dD AIe a),(13,dI c),(14,dI g),(30,dD AIf l),(31,dI n),(32,dI q),(48,dB m0)] [.box (dD Aj b),.row 2 .Ai AIa s,.box (dD Ae j)])
theorem Akl e l q a c g n b s j:MY Y3 0 12 (sb (sb (sb (cd f156 244) 230) 52) 14) (pt 10) (qF e l q a c g n b s j)=some (qw e l q a c g n b s j ((decide ((l.getD q.toNat AIa.zero)>j.2.1))&&(decide ((l.getD q.toNat AIa.zero)<(wI (j.2.1+j.2.2.1)))))):=by
 have h0:MY Y3 0 12 (sb (sb (sb (cd f156 244) 230) 52) 14) (pt 10) (qF e l q a c g n b s j) =
 bif decide ((l.getD q.toNat AIa.zero)>j.2.1)then
 some (qw e l q a c g n b s j (decide ((l.getD q.toNat AIa.zero)<(wI (j.2.1+j.2.2.1)))))
 else
 some (qw e l q a c g n b s j false):=by kernel_rfl
 rw[h0];cases (decide ((l.getD q.toNat AIa.zero)>j.2.1))
 ·rfl
 ·rfl
def L4(e:Int)(a:AHZ)(c g:Int)(l:AHT)(n q:Int)(b:AHN)(s:AHT)(j:AHJ):Option AHT:=
 if 0<=q/\q<l.length then
 P2 (qF e l q a c g n b s j) (
 bif (decide ((l.getD q.toNat AIa.zero)>j.2.1))&&(decide ((l.getD q.toNat AIa.zero)<(wI (j.2.1+j.2.2.1))))then
 if(s.length+([wI ((wI (e+(l.getD q.toNat AIa.zero)))-j.2.1)]:AHT).length)*8<=140737488355328 then
 some (s++([wI ((wI (e+(l.getD q.toNat AIa.zero)))-j.2.1)]:AHT))
 else none
 else
 some s)
 else none
theorem Akm e a c g l n q b s j:AZ Y3 0 13 (sb (sb (cd f156 244) 230) 52) 14 (AiX e a c g l n q b s j) (L4 e a c g l n q b s j) (AhG e a c g l n q b s j):=by
 unfold AZ;simp only[L4,AHE];simp(disch:=refine id ?_;kernel_rfl) only[F4 (Akl ..) (K:=Te Y3 0 13)];kernel_rfl
def Jn(e:Int)(a:AHZ)(c g:Int)(b:AHN)(j:AHJ)(l:AHT)(n q:Int)(s:AHT):Option ((Int×AHT)⊕AHT):=
 bif decide (q<n)then
 (L4 e a c g l n q b s j).bind λt=>some (.inl (wI (q+1),t))
 else
 some (.inr s)
def Ed e a c g b j l n (z_:Int×AHT):=Jn e a c g b j l n z_.1 z_.2
def L5 e a c g b j l n q s:=fix (Ed e a c g b j l n) (q,s)
theorem Akn e a c g b j l n:A5 Y3 0 9 (sb (cd f156 244) 230) 26 (AiY e a c g b j l n) (Ed e a c g b j l n) (AhH e a c g b j l n):=by
 intro _;simp only[Ed,Jn,AHE];simp(disch:=refine id ?_;kernel_rfl) only[Bg (Akm ..) (K:=Ld Y3 0 9)];kernel_rfl
def IL(e:Int)(a:AHZ)(c g:Int)(b:AHN)(i:AHT)(j:AHJ):Option AHT:=
 bif decide (j.1>=0)then
 if(0:Int)<=j.1/\j.1<(b.1.length:Int)then
 (L5 e a c g b j (b.1.getD j.1.toNat AIf.zero) ((b.1.getD j.1.toNat AIf.zero).length:Int) 0 i).bind λo=>some o
 else none
 else
 some i
theorem Ako e a c g b i j:AZ Y3 0 14 (cd f156 244) 230 (AiZ e a c g b i j) (IL e a c g b i j) (AhI e a c g b i j):=by
 unfold AZ;simp only[IL,AHE];simp(disch:=refine id ?_;kernel_rfl) only[L5,AF (Akn _ _ _ _ _ _ _ _) (K:=Te Y3 0 14)];kernel_rfl
def Jo(a:AHZ)(b:AHN)(c e g:Int)(u:AHT):Option ((Int×Int×AHT)⊕AHT):=
 bif decide (g<c)then
 if 0<=g/\g<a.length then
 if(u.length+([e]:AHT).length)*8<=140737488355328 then
 (IL e a c g b (u++([e]:AHT)) (a.getD g.toNat Ae.zero)).bind λk=>some (.inl (wI (e+(a.getD g.toNat Ae.zero).2.2.1),wI (g+1),k))
 else none
 else none
 else
 some (.inr u)
def Ee a b c (z_:Int×Int×AHT):=Jo a b c z_.1 z_.2.1 z_.2.2
def L6 a b c e g u:=fix (Ee a b c) (e,g,u)
theorem Akp a b c:A5 Y3 0 4 (code f156) 122 (Ai0 a b c) (Ee a b c) (AhJ a b c):=by
 intro _;simp only[Ee,Jo,AHE];simp(disch:=refine id ?_;kernel_rfl) only[Bg (Ako ..) (K:=Ld Y3 0 4)];kernel_rfl
def HY(a:AHZ)(b:AHN):Option AHT:=
 (L6 a b (a.length:Int) 0 0 ([]:AHT)).bind λd=>some d
theorem Ay0 R a b K:AW Y3 f156 R [dD AIe a,dD Aj b] [] K=(HY a b).bind λr=>K (.Ak 0) [.row 2 .Ai AIa r]:=by
 simp only[HY,AHF];simp(disch:=refine id ?_;kernel_rfl) only[L6,AF (Akp _ _ _) (K:=A4 Y3 f156 0 R K)];kernel_rfl
def Au2:=Cx [.d AIe,.d Aj] [⟨[.AA [] AIe,.AA [] Aj],[],AHT,λp=>HY p.1.1 p.1.2.1,λr=>(.Ak 0,[.row 2 .Ai AIa r])⟩]
theorem zA:As prog 156 Au2:=Aw ⟨⟨Y3,pk trivial,λ_ _ _=>Ay0 ..⟩,trivial⟩
abbrev AnH:Bd:=⟨A7,Az [],{Ai:=true,take:=[25]}⟩
def Avv:=wi [.Vu,.Vu] AnH f208
theorem Aaa:As prog 208 Avv:=bp (pk trivial)
abbrev fl:Bd:=⟨A7,Az [(208,Avv)],{Ai:=true,A9:=[(3,{Ap:=[0,3,9,10,11]}),(11,{Ap:=[6,25,26,27],B6:=[(6,false,.row [] 2 AIa true)]})],BQ:=[(3,{Ap:=[0,3]}),(11,{Ap:=[6]})],BP:=[(8,{Ap:=[0,3,9,10,11]})],D2:=[(8,[0,3,9,10,11])]}⟩
def Ai4 a b (z_:Int×AHT):=sT 36 [(6,.Ak 0),(25,dD AIn a),(26,dI b),(27,dI z_.1)] [.row 2 .Ai AIa z_.2]
def AhN(a:AH6)(b:Int):=λ(c:AHT)=>(Ex.exit 2,sT 36 [(6,.Ak 0)] [.row 2 .Ai AIa c])
def Nm(a:AH6)(b d:Int)(e:AHT):Option ((Int×AHT)⊕AHT):=
 bif decide (d<b)then
 if 0<=d/\d<a.length then
 if(e.length+(a.getD d.toNat AIf.zero).length)*8<=140737488355328 then
 some (.inl (wI (d+1),e++(a.getD d.toNat AIf.zero)))
 else none
 else none
 else
 some (.inr e)
def H5 a b (z_:Int×AHT):=Nm a b z_.1 z_.2
def Pp a b d e:=fix (H5 a b) (d,e)
theorem Akt a b:A5 fl 0 11 (code f155) 250 (Ai4 a b) (H5 a b) (AhN a b):=by
 intro _;simp only[H5,Nm,AHE];kernel_rfl
def Ai3 a g (z_:Int×AHT):=sT 36 [(6,.Ak 0),(25,dD AIn a),(26,dI g),(27,dI z_.1)] [.row 2 .Ai AIa z_.2]
def AhM(a:AH6)(g:Int):=λ(i:AHT)=>(Ex.exit 2,sT 36 [(6,.Ak 0)] [.row 2 .Ai AIa i])
def Ev(a:AH6)(g j:Int)(k:AHT):Option ((Int×AHT)⊕AHT):=
 bif decide (j<g)then
 if 0<=j/\j<a.length then
 if(k.length+(a.getD j.toNat AIf.zero).length)*8<=140737488355328 then
 some (.inl (wI (j+1),k++(a.getD j.toNat AIf.zero)))
 else none
 else none
 else
 some (.inr k)
def Cc a g (z_:Int×AHT):=Ev a g z_.1 z_.2
def FZ a g j k:=fix (Cc a g) (j,k)
theorem Aks a g:A5 fl 0 11 (code f155) 250 (Ai3 a g) (Cc a g) (AhM a g):=by
 intro _;simp only[Cc,Ev,AHE];kernel_rfl
def Ai2 a l (z_:Int×Int):=sT 36 [(0,dD AIn a),(3,dI z_.1),(9,dD AIn a),(10,dI l),(11,dI z_.2)] []
def AhL a (l:Int):=λ(n:Int)=>(Ex.exit 0,sT 36 [(0,dD AIn a),(3,dI n)] [])
def Ai1 a o l q:=sT 36 [(0,dD AIn a),(3,dI o),(9,dD AIn a),(10,dI l),(11,dI q)] []
def AhK a (o:Int) l (q:Int):=λ(s:Unit)=>(Ex.normal,sT 36 [(0,dD AIn a),(3,dI (wI (o+((a.getD q.toNat AIf.zero).length:Int)))),(9,dD AIn a),(10,dI l),(11,dI q)] [])
def FX(a:AH6)(o l q:Int):Option Unit:=
 if 0<=q/\q<a.length then
 bif decide ((wI (o+((a.getD q.toNat AIf.zero).length:Int)))<0)then
 none
 else
 some ()
 else none
theorem Akq a o l q:AZ fl 0 8 (cd f155 116) 14 (Ai1 a o l q) (FX a o l q) (AhK a o l q):=by
 unfold AZ;simp only[FX,AHE];kernel_rfl
def Eu(a:AH6)(l o q:Int):Option ((Int×Int)⊕Int):=
 bif decide (q<l)then
 (FX a o l q).bind λs=>some (.inl (wI (o+((a.getD q.toNat AIf.zero).length:Int)),wI (q+1)))
 else
 some (.inr o)
def Cb a l (z_:Int×Int):=Eu a l z_.1 z_.2
def FY a l o q:=fix (Cb a l) (o,q)
theorem Akr a l:A5 fl 0 3 (code f155) 58 (Ai2 a l) (Cb a l) (AhL a l):=by
 intro _;simp only[Cb,Eu,AHE];simp(disch:=refine id ?_;kernel_rfl) only[Bg (Akq ..) (K:=Ld fl 0 3)];kernel_rfl
def DI(a:AH6):Option AHT:=
 (FY a (a.length:Int) 0 0).bind λn=>bif decide (n<0)then
 none
 else
 bif decide ((wI (n-0))>0)then
 if(0:Int)<=(wI (n-0))/\(wI (n-0))*((8:Nat):Int)<=(140737488355328:Int)then
 if(0:Int)<=(0:Int)/\(0:Int)<=((List.replicate (wI (n-0)).toNat 0).length:Int)then
 (FZ a (a.length:Int) 0 ((List.replicate (wI (n-0)).toNat 0).take 0)).bind λi=>some i
 else none
 else none
 else
 (Pp a (a.length:Int) 0 ([]:AHT)).bind λc=>some c
theorem Ay1 R a K:AW fl f155 R [dD AIn a] [] K=(DI a).bind λr=>K (.Ak 0) [.row 2 .Ai AIa r]:=by
 simp only[DI,AHF];simp(disch:=refine id ?_;kernel_rfl) only[FY,AF (Akr _ _) (K:=A4 fl f155 0 R K),FZ,AF (Aks _ _) (K:=A4 fl f155 0 R K),Pp,AF (Akt _ _) (K:=A4 fl f155 0 R K)];kernel_rfl
def Au1:=Cx [.d AIn] [⟨[.AA [] AIn],[],AHT,λp=>DI p.1.1,λr=>(.Ak 0,[.row 2 .Ai AIa r])⟩]
theorem zz:As prog 155 Au1:=Aw ⟨⟨fl,pk ⟨Aaa,trivial⟩,λ_ _ _=>Ay1 ..⟩,trivial⟩
abbrev Ad0:Bd:=⟨A7,Az [],{Ai:=true,A9:=[(2,{Ap:=[1,4,7,8,9]})],BQ:=[(2,{Ap:=[4]})],Rj:=[(0,G6)]}⟩
def Ai5 a b (z_:Int×Int):=sT 26 [(1,dI z_.1),(4,.ptr 0 0 [] 0),(7,dD AIe a),(8,dI b),(9,dI z_.2)] [.box (.pr (.pr (dI 0) (.pr (dI 0) (.pr (dI 0) (.pr (.pr (dI 0) (.pr .zs .u)) .u)))) (.pr (dI 0) .u))]
def AhO(a:AHZ)(b:Int):=Sum.elim (λ(c:(AHJ×Int))=>(Ex.ret,sT 26 [(4,.ptr 0 0 [] 0)] [.box (.pr (dD Ae c.1) (.pr (dI c.2) .u))])) (λ(d:Unit)=>(Ex.exit 0,sT 26 [(4,.ptr 0 0 [] 0)] [.box (.pr (.pr (dI 0) (.pr (dI 0) (.pr (dI 0) (.pr (.pr (dI 0) (.pr .zs .u)) .u)))) (.pr (dI 0) .u))]))
def Nr(a:AHZ)(b e g:Int):Option ((Int×Int)⊕((AHJ×Int)⊕Unit)):=
 bif decide (g<b)then
 if 0<=g/\g<a.length then
 bif decide (e<(a.getD g.toNat Ae.zero).2.2.1)then
 some (.inr (.inl (a.getD g.toNat Ae.zero,e)))
 else
 some (.inl (wI (e-(a.getD g.toNat Ae.zero).2.2.1),wI (g+1)))
 else none
 else
 some (.inr (.inr ()))
def G9 a b (z_:Int×Int):=Nr a b z_.1 z_.2
def QK a b e g:=fix (G9 a b) (e,g)
theorem Aku a b:A5 Ad0 0 2 (code f160) 26 (Ai5 a b) (G9 a b) (AhO a b):=by
 intro _;simp only[G9,Nr,AHE];kernel_rfl
def Lk(a:AHZ)(i:Int):Option G6.V:=
 (QK a (a.length:Int) i 0).bind (Sum.elim (λc=>some (c.1,c.2,())) (λd=>some ((0,0,0,(0,([]:AHT),()),()),0,())))
theorem Ay2 R a i K:AW Ad0 f160 R [dD AIe a,dI i] [] K=(Lk a i).bind λr=>K (dD G6 r) []:=by
 simp only[Lk,AHF];simp(disch:=refine id ?_;kernel_rfl) only[QK,AF (Aku _ _) (K:=A4 Ad0 f160 0 R K)];kernel_rfl
def Au3:=Cx [.d AIe,.d AIa] [⟨[.AA [] AIe,.AA [] AIa],[],G6.V,λp=>Lk p.1.1 p.1.2.1,λr=>(dD G6 r,[])⟩]
theorem zB:As prog 160 Au3:=Aw ⟨⟨Ad0,pk trivial,λ_ _ _=>Ay2 ..⟩,trivial⟩
abbrev Anu:Bd:=⟨A7,Az [(211,Alv)],{Ai:=true,dT:=[(0,.row [1,1] 216 AIb true)]}⟩
def HV(a:G6.V)(b:Int)(c:List (AHG×Int)):Option (Int×Int×(List (AHG×Int))×AHT):=
 bif a.1.1==(-1)then
 (Df a.1.2.2.2.1 a.2.1 b).bind λd=>some (-1,d.1,c,d.2)
 else
 some (Bh Aa AIa c (a.1.1,wI (a.1.2.1+a.2.1),()),0,c,([]:AHT))
theorem Ay3 R a b c K:AW Anu f161 R [dD G6 a,.mp 0,dI b] [.map .Ai Aa AIa c none] K=(HV a b c).bind λr=>K (.pr (dI r.1) (.pr (.pr (dI r.2.1) (.pr (.Ak 1) .u)) .u)) [.map .Ai Aa AIa r.2.2.1 none,.row 216 .Ai AIb r.2.2.2]:=by
 simp only[HV,AHF];kernel_rfl
def Au4:=Cx [.d G6,.Vu,.d AIa] [⟨[.AA [] G6,.k (.mp 0),.AA [] AIa],[.map .Ai Aa AIa],Int×Int×(List (AHG×Int))×AHT,λp=>HV p.1.1 p.1.2.2.1 p.2.1,λr=>(.pr (dI r.1) (.pr (.pr (dI r.2.1) (.pr (.Ak 1) .u)) .u),[.map .Ai Aa AIa r.2.2.1 none,.row 216 .Ai AIb r.2.2.2])⟩]
theorem zC:As prog 161 Au4:=Aw ⟨⟨Anu,pk ⟨mV,trivial⟩,λ_ _ _=>Ay3 ..⟩,trivial⟩
def Alq:Va.Callee:=pz
theorem mP:As prog 157 Alq:=Ac8 (fn:=f157) lay53 rfl (by kernel_rfl) (by kernel_rfl) (by kernel_rfl)
def Alr:Va.Callee:=pU
theorem mQ:As prog 158 Alr:=Adu (fn:=f158) lay43 rfl (by kernel_rfl) (by kernel_rfl) (by kernel_rfl)
abbrev Ad1:Bd:=⟨A7,Az [(155,Au1),(156,Au2),(157,Alq),(158,Alr),(159,Als),(160,Au3),(161,Au4)],{Ai:=true,A9:=[(6,{Ap:=[0,1,3,9,10,35,36,37],Rj:=[(9,false,AIf)],B6:=[(10,false,.row [] 139 Aq true)]})],BQ:=[(6,{Ap:=[10]})],fA:=[(20,AIn),(52,G6),(58,G6)]}⟩
def Ai6 a b c d e (z_:Int×(List (AHG×Int))×AH5):=sT 68 [(0,dD AIe a),(1,dD AIe b),(3,.mp 0),(9,dD AIf c),(10,.Ak 1),(35,.AA [2] AIf d),(36,dI e),(37,dI z_.1)] [.map .Ai Aa AIa z_.2.1 none,.row 139 .Ai Aq z_.2.2,.AH]
def AhP(a b:AHZ)(c d:AHT)(e:Int):=λ(g:((List (AHG×Int))×AH5))=>(Ex.exit 0,sT 68 [(10,.Ak 1)] [.map .Ai Aa AIa g.1 none,.row 139 .Ai Aq g.2])
def L8(a b:AHZ)(c d:AHT)(e i:Int)(j:List (AHG×Int))(k:AH5):Option ((Int×(List (AHG×Int))×AH5)⊕((List (AHG×Int))×AH5)):=
 bif decide (i<e)then
 if 0<=i/\i<d.length then
 if 0<=(wI (i+1))/\(wI (i+1))<c.length then
 (Lk a (d.getD i.toNat AIa.zero)).bind λl=>(HV l (wI ((c.getD (wI (i+1)).toNat AIa.zero)-(d.getD i.toNat AIa.zero))) j).bind λn=>(Lk b (d.getD i.toNat AIa.zero)).bind λo=>(HV o (wI ((c.getD (wI (i+1)).toNat AIa.zero)-(d.getD i.toNat AIa.zero))) n.2.2.1).bind λq=>if(k.length+([((n.1,(n.2.1,n.2.2.2,()),()),(q.1,(q.2.1,q.2.2.2,()),()),wI ((c.getD (wI (i+1)).toNat AIa.zero)-(d.getD i.toNat AIa.zero)),())]:AH5).length)*88<=140737488355328 then
 some (.inl (wI (i+1),q.2.2.1,k++([((n.1,(n.2.1,n.2.2.2,()),()),(q.1,(q.2.1,q.2.2.2,()),()),wI ((c.getD (wI (i+1)).toNat AIa.zero)-(d.getD i.toNat AIa.zero)),())]:AH5)))
 else none
 else none
 else none
 else
 some (.inr (j,k))
def Gc a b c d e (z_:Int×(List (AHG×Int))×AH5):=L8 a b c d e z_.1 z_.2.1 z_.2.2
def Pf a b c d e i j k:=fix (Gc a b c d e) (i,j,k)
theorem Akv a b c d e:A5 Ad1 1 6 (code f84) 506 (Ai6 a b c d e) (Gc a b c d e) (AhP a b c d e):=by
 intro _;simp only[Gc,L8,AHE];kernel_rfl
def OG(a b:AHZ)(s:AHN)(t:List (AHG×Int)):Option ((List (AHG×Int))×AH5):=
 (HY a s).bind λu=>(HY b s).bind λv=>(DI ([u,v]:AH6)).bind λw=>if w.length<4611686018427387904 then
 (EG a).bind λx=>if((MN (Np w)).length+([x]:AHT).length)*8<=140737488355328 then
 if(0:Int)<=(0:Int)/\(0:Int)<=(wI ((((MN (Np w))++([x]:AHT)).length:Int)-1))/\(wI ((((MN (Np w))++([x]:AHT)).length:Int)-1))<=(((MN (Np w))++([x]:AHT)).length:Int)then
 (Pf a b ((MN (Np w))++([x]:AHT)) ((((MN (Np w))++([x]:AHT)).take (wI ((((MN (Np w))++([x]:AHT)).length:Int)-1)).toNat).drop 0) (((((MN (Np w))++([x]:AHT)).take (wI ((((MN (Np w))++([x]:AHT)).length:Int)-1)).toNat).drop 0).length:Int) 0 t ([]:AH5)).bind λg=>some (g.1,g.2)
 else none
 else none
 else none
theorem Ay4 R a b s t K:AW Ad1 f84 R [dD AIe a,dD AIe b,dD Aj s,.mp 0] [.map .Ai Aa AIa t none] K=(OG a b s t).bind λr=>K (.Ak 1) [.map .Ai Aa AIa r.1 none,.row 139 .Ai Aq r.2]:=by
 simp only[OG,AHF];simp(disch:=refine id ?_;kernel_rfl) only[Pf,AF (Akv _ _ _ _ _) (K:=A4 Ad1 f84 1 R K)];kernel_rfl
def c84:=Cx [.d AIe,.d AIe,.d Aj,.Vu] [⟨[.AA [] AIe,.AA [] AIe,.AA [] Aj,.k (.mp 0)],[.map .Ai Aa AIa],(List (AHG×Int))×AH5,λp=>OG p.1.1 p.1.2.1 p.1.2.2.1 p.2.1,λr=>(.Ak 1,[.map .Ai Aa AIa r.1 none,.row 139 .Ai Aq r.2])⟩]
theorem AeU:As prog 84 c84:=Aw ⟨⟨Ad1,pk ⟨zz,zA,mP,mQ,mR,zB,zC,trivial⟩,λ_ _ _=>Ay4 ..⟩,trivial⟩
abbrev Anv:Bd:=⟨A7,Az [(84,c84)],{Ai:=true,Rj:=[(0,.sl Aq)]}⟩
def EP(a b:Int)(c:AHY)(d:AH0)(e:List (AHZ×(AHZ×Unit)))(g:AH6)(i:AHX)(j:List (AHG×Int)):Option (AH5×AHY×AH0×(List (AHZ×(AHZ×Unit)))×AH6×AHX×(List (AHG×Int))):=
 if 0<=b/\b<e.length then
 if 0<=b/\b<e.length then
 (OG (e.getD b.toNat (Ty.zero (.Au AIe (.Au AIe .unit)))).1 (e.getD b.toNat (Ty.zero (.Au AIe (.Au AIe .unit)))).2.1 (g,()) j).bind λk=>some (k.2,c,d,e,g,i,k.1)
 else none
 else none
theorem Ay5 R a b c d e g i j K:AW Anv f172 R [.ptr 0 a [] 0,dI b] [.box (.pr (dD AId c) (.pr (dD AIi d) (.pr (.Ak 1) (.pr (.pr (.Ak 2) .u) (.pr (.Ak 3) (.pr (.mp 4) .u)))))),.row 145 .Ai (.Au AIe (.Au AIe .unit)) e,.row 72 .Ai AIf g,.row 157 .Ai Ab i,.map .Ai Aa AIa j none] K=(EP a b c d e g i j).bind λr=>K (dD (.sl Aq) r.1) [.box (.pr (dD AId r.2.1) (.pr (dD AIi r.2.2.1) (.pr (.Ak 1) (.pr (.pr (.Ak 2) .u) (.pr (.Ak 3) (.pr (.mp 4) .u)))))),.row 145 .Ai (.Au AIe (.Au AIe .unit)) r.2.2.2.1,.row 72 .Ai AIf r.2.2.2.2.1,.row 157 .Ai Ab r.2.2.2.2.2.1,.map .Ai Aa AIa r.2.2.2.2.2.2 none]:=by
 simp only[EP,AHF];kernel_rfl
def Ave:=Cx [.Vu,.d AIa] [⟨[.ptr 0 [] 0,.AA [] AIa],[.box (.pr (.AA [] AId) (.pr (.AA [] AIi) (.pr (.k (.Ak 1)) (.pr (.pr (.k (.Ak 2)) (.k .u)) (.pr (.k (.Ak 3)) (.pr (.k (.mp 4)) (.k .u))))))),.row 145 .Ai (.Au AIe (.Au AIe .unit)),.row 72 .Ai AIf,.row 157 .Ai Ab,.map .Ai Aa AIa],AH5×AHY×AH0×(List (AHZ×(AHZ×Unit)))×AH6×AHX×(List (AHG×Int)),λp=>EP p.1.1 p.1.2.1 p.2.1.1 p.2.1.2.1 p.2.2.1 p.2.2.2.1 p.2.2.2.2.1 p.2.2.2.2.2.1,λr=>(dD (.sl Aq) r.1,[.box (.pr (dD AId r.2.1) (.pr (dD AIi r.2.2.1) (.pr (.Ak 1) (.pr (.pr (.Ak 2) .u) (.pr (.Ak 3) (.pr (.mp 4) .u)))))),.row 145 .Ai (.Au AIe (.Au AIe .unit)) r.2.2.2.1,.row 72 .Ai AIf r.2.2.2.2.1,.row 157 .Ai Ab r.2.2.2.2.2.1,.map .Ai Aa AIa r.2.2.2.2.2.2 none])⟩]
theorem zN:As prog 172 Ave:=Aw ⟨⟨Anv,pk ⟨AeU,trivial⟩,λ_ _ _=>Ay5 ..⟩,trivial⟩
abbrev Ad2:Bd:=⟨A7,Az [],{Ai:=true,A9:=[(4,{Ap:=[0,1,12,13]})],BQ:=[(4,{Ap:=[4]})]}⟩
def Ai7 a b c (z_:Int):=sT 26 [(0,dD AIk a),(1,dD AIk b),(12,dI c),(13,dI z_)] []
def AhQ(a b:AHT)(c:Int):=Sum.elim (λ(d:Unit)=>(Ex.ret,sT 26 [(4,dB false)] [])) (λ(e:Unit)=>(Ex.exit 0,sT 26 [] []))
def Nn(a b:AHT)(c g:Int):Option (Int⊕(Unit⊕Unit)):=
 bif decide (g<c)then
 if 0<=g/\g<a.length then
 if 0<=g/\g<b.length then
 bif (a.getD g.toNat AIb.zero) !=(b.getD g.toNat AIb.zero)then
 some (.inr (.inl ()))
 else
 some (.inl (wI (g+1)))
 else none
 else none
 else
 some (.inr (.inr ()))
def Ew a b c (z_:Int):=Nn a b c z_
def Pq a b c g:=fix (Ew a b c) g
theorem Akw a b c:A5 Ad2 0 4 (code f244) 58 (Ai7 a b c) (Ew a b c) (AhQ a b c):=by
 intro _;simp only[Ew,Nn,AHE];kernel_rfl
def FD(a b:AHT):Option Bool:=
 bif (a.length:Int) !=(b.length:Int)then
 some false
 else
 (Pq a b (a.length:Int) 0).bind (Sum.elim (λd=>some false) (λe=>some true))
theorem Ay6 R a b K:AW Ad2 f244 R [dD AIk a,dD AIk b] [] K=(FD a b).bind λr=>K (dB r) []:=by
 simp only[FD,AHF];simp(disch:=refine id ?_;kernel_rfl) only[Pq,AF (Akw _ _ _) (K:=A4 Ad2 f244 0 R K)];kernel_rfl
def AvK:=Cx [.d AIk,.d AIk] [⟨[.AA [] AIk,.AA [] AIk],[],Bool,λp=>FD p.1.1 p.1.2.1,λr=>(dB r,[])⟩]
theorem Aap:As prog 244 AvK:=Aw ⟨⟨Ad2,pk trivial,λ_ _ _=>Ay6 ..⟩,trivial⟩
abbrev Anw:Bd:=⟨A7,Az [(244,AvK)],{Ai:=true}⟩
def IC(a b:AHM):Option Bool:=
 bif a.1==b.1 then
 (FD a.2.1 b.2.1).bind λc=>some c
 else
 some false
theorem Ay7 R a b K:AW Anw f214 R [dD Ah a,dD Ah b] [] K=(IC a b).bind λr=>K (dB r) []:=by
 simp only[IC,AHF];kernel_rfl
def Avx:=Cx [.d Ah,.d Ah] [⟨[.AA [] Ah,.AA [] Ah],[],Bool,λp=>IC p.1.1 p.1.2.1,λr=>(dB r,[])⟩]
theorem Aac:As prog 214 Avx:=Aw ⟨⟨Anw,pk ⟨Aap,trivial⟩,λ_ _ _=>Ay7 ..⟩,trivial⟩
abbrev Vs:Bd:=⟨A7,Az [(157,Alq),(158,Alr)],{Ai:=true,A9:=[(3,{Ap:=[1,2,7,20,21,22]}),(10,{Ap:=[1,2,7,10,11]}),(14,{Ap:=[1,2,7,10,11,71,72,73]}),(23,{Ap:=[1,10,17,18],B6:=[(17,false,.row [] 2 AIa true)]})],BQ:=[(3,{Ap:=[1,2,7]}),(10,{Ap:=[1,2,10]}),(14,{Ap:=[1,2,7,10,11]}),(23,{Ap:=[17]})],BP:=[(20,{Ap:=[1,2,7,10,11,71,72,73]})],Yl:=[(5,{Ap:=[1,2,7,9,20,21,22],Wa:=true}),(6,{Ap:=[1,2,7,20,21,22],Wa:=true})],D2:=[(20,[1,2,7,10,11,71,72,73])],ZW:=[(5,[1,2,7,9,20,21,22]),(6,[1,2,7,9,20,21,22])],stl:=[32,42],Axu:=[60]}⟩
def Ajc a (b:(List (Int×AHH))) (z_:Int×AHT):=sT 116 [(1,dI a),(10,.mp 0),(17,.Ak 1),(18,dI z_.1)] [.map .Ai AIa Ab b none,.row 2 .Ai AIa z_.2]
def AhV(a:Int)(b:List (Int×AHH)):=λ(c:AHT)=>(Ex.exit 6,sT 116 [(17,.Ak 0)] [.row 2 .Ai AIa c])
def Ru(a:Int)(b:List (Int×AHH))(d:Int)(e:AHT):Option ((Int×AHT)⊕AHT):=
 bif d !=a then
 if(e.length+([(Bh AIa Ab b d).2.2.1]:AHT).length)*8<=140737488355328 then
 some (.inl ((Bh AIa Ab b d).1,e++([(Bh AIa Ab b d).2.2.1]:AHT)))
 else none
 else
 some (.inr e)
def ND a b (z_:Int×AHT):=Ru a b z_.1 z_.2
def TN a b d e:=fix (ND a b) (d,e)
theorem AkD a b:A5 Vs 0 23 (code f215) 2042 (Ajc a b) (ND a b) (AhV a b):=by
 intro _;simp only[ND,Ru,AHE];kernel_rfl
def Ajb a g (i:(List (Int×AHX))) (z_:(List (Int×AHH))×AHT):=sT 116 [(1,dI a),(2,dI g),(7,.mp 0),(10,.mp 1),(11,.Ak 2)] [.map .Ai AIa AIj i none,.map .Ai AIa Ab z_.1 none,.tail 2 AIa z_.2]
def AhU a g (i:(List (Int×AHX))):=λ(b:(List (Int×AHH)))=>(Ex.exit 2,sT 116 [(1,dI a),(2,dI g),(10,.mp 0)] [.map .Ai AIa Ab b none])
def Aja a g (i:(List (Int×AHX))) j k (z_:Int×(List (Int×AHH))×AHT):=sT 116 [(1,dI a),(2,dI g),(7,.mp 0),(10,.mp 1),(11,.Ak 2),(71,.AA [0] AIj j),(72,dI k),(73,dI z_.1)] [.map .Ai AIa AIj i none,.map .Ai AIa Ab z_.2.1 none,.tail 2 AIa z_.2.2]
def AhT a g (i:(List (Int×AHX))) (j:AHX) (k:Int):=λ(l:((List (Int×AHH))×AHT))=>(Ex.exit 4,sT 116 [(1,dI a),(2,dI g),(7,.mp 0),(10,.mp 1),(11,.Ak 2)] [.map .Ai AIa AIj i none,.map .Ai AIa Ab l.1 none,.tail 2 AIa l.2])
def Ai9 a g j k n (i:(List (Int×AHX))) (o:(List (Int×AHH))) q:=sT 116 [(1,dI a),(2,dI g),(7,.mp 0),(10,.mp 1),(11,.Ak 2),(71,.AA [0] AIj j),(72,dI k),(73,dI n)] [.map .Ai AIa AIj i none,.map .Ai AIa Ab o none,.tail 2 AIa q]
def AhS a g j k n (i:(List (Int×AHX))) (o:(List (Int×AHH))) (q:AHT):=λ(s:((List (Int×AHH))×AHT))=>(Ex.normal,sT 116 [(1,dI a),(2,dI g),(7,.mp 0),(10,.mp 1),(11,.Ak 2),(71,.AA [0] AIj j),(72,dI k),(73,dI n)] [.map .Ai AIa AIj i none,.map .Ai AIa Ab s.1 none,.tail 2 AIa s.2])
def QO(a g:Int)(j:AHX)(k n:Int)(i:List (Int×AHX))(o:List (Int×AHH))(q:AHT):Option ((List (Int×AHH))×AHT):=
 if 0<=n/\n<j.length then
 bif !(Ry AIa Ab o (j.getD n.toNat Ab.zero).2.1)then
 bif decide ((q.length+([(j.getD n.toNat Ab.zero).2.1]:AHT).length)*8<=140737488355328)then
 some (BS AIa Ab o (j.getD n.toNat Ab.zero).2.1 (j.getD n.toNat Ab.zero),q++([(j.getD n.toNat Ab.zero).2.1]:AHT))
 else
 none
 else
 some (o,q)
 else none
theorem AkA a g j k n i o q:AZ Vs 0 20 (sb (cd f215 504) 220) 14 (Ai9 a g j k n i o q) (QO a g j k n i o q) (AhS a g j k n i o q):=by
 unfold AZ;simp only[QO,AHE];kernel_rfl
def Rs(a g:Int)(i:List (Int×AHX))(j:AHX)(k n:Int)(o:List (Int×AHH))(q:AHT):Option ((Int×(List (Int×AHH))×AHT)⊕((List (Int×AHH))×AHT)):=
 bif decide (n<k)then
 (QO a g j k n i o q).bind λs=>some (.inl (wI (n+1),s.1,s.2))
 else
 some (.inr (o,q))
def NA a g i j k (z_:Int×(List (Int×AHH))×AHT):=Rs a g i j k z_.1 z_.2.1 z_.2.2
def QP a g i j k n o q:=fix (NA a g i j k) (n,o,q)
theorem AkB a g i j k:A5 Vs 0 14 (cd f215 504) 110 (Aja a g i j k) (NA a g i j k) (AhT a g i j k):=by
 intro _;simp only[NA,Rs,AHE];simp(disch:=refine id ?_;kernel_rfl) only[Bg (AkA ..) (K:=Ld Vs 0 14)];kernel_rfl
def Rt(a g:Int)(i:List (Int×AHX))(t:List (Int×AHH))(u:AHT):Option (((List (Int×AHH))×AHT)⊕(List (Int×AHH))):=
 bif decide ((u.length:Int)>0)then
 bif (decide ((0:Int)<=0))&&(decide (0<(u.length:Int)))then
 bif (decide ((0:Int)<=1))&&(decide (1<=(u.length:Int)))then
 (QP a g i (Bh AIa AIj i (u.getD 0 AIa.zero)) ((Bh AIa AIj i (u.getD 0 AIa.zero)).length:Int) 0 t (u.drop 1)).bind λl=>some (.inl (l.1,l.2))
 else
 none
 else
 none
 else
 some (.inr t)
def NC a g i (z_:(List (Int×AHH))×AHT):=Rt a g i z_.1 z_.2
def QQ a g i t u:=fix (NC a g i) (t,u)
theorem AkC a g i:A5 Vs 0 10 (code f215) 252 (Ajb a g i) (NC a g i) (AhU a g i):=by
 intro _;simp only[NC,Rt,AHE];simp(disch:=refine id ?_;kernel_rfl) only[QP,AF (AkB _ _ _ _ _) (K:=Ld Vs 0 10)];kernel_rfl
def Ai8 a g v w (z_:Int×(List (Int×AHX))):=sT 116 [(1,dI a),(2,dI g),(7,.mp 0),(20,dD AIj v),(21,dI w),(22,dI z_.1)] [.map .Ai AIa AIj z_.2 none]
def AhR a g (v:AHX) (w:Int):=λ(i:(List (Int×AHX)))=>(Ex.exit 0,sT 116 [(1,dI a),(2,dI g),(7,.mp 0)] [.map .Ai AIa AIj i none])
def yk a g v w x (y:(List (Int×AHX))) a1:=sT 116 [(1,dI a),(2,dI g),(7,.mp 0),(9,.ptr 1 0 [] 0),(20,dD AIj v),(21,dI w),(22,dI x)] [.map .Ai AIa AIj y none,.box (dD Ab a1)]
def js a g v w x (y:(List (Int×AHX))) (a1:AHH):=λ(b1:(List (Int×AHX)))=>sT 116 [(1,dI a),(2,dI g),(7,.mp 0),(20,dD AIj v),(21,dI w),(22,dI x)] [.map .Ai AIa AIj b1 none]
def QM(a g:Int)(v:AHX)(w x:Int)(y:List (Int×AHX))(a1:AHH):Option (List (Int×AHX)):=
 if((Bh AIa AIj y a1.2.1).length+([(a1.2.1,a1.1,a1.2.2.1,())]:AHX).length)*24<=140737488355328 then
 bif Ba AIa a1.2.1 a1.2.1 then
 some (BS AIa AIj y a1.2.1 ((Bh AIa AIj y a1.2.1)++([(a1.2.1,a1.1,a1.2.2.1,())]:AHX)))
 else
 none
 else none
noncomputable def qP(a g:Int)(v:AHX)(w x:Int)(y:List (Int×AHX))(a1:AHH):Option Unit:=if((Bh AIa AIj y a1.2.1).length+([(a1.2.1,a1.1,a1.2.2.1,())]:AHX).length)*24<=140737488355328 then bif Ba AIa a1.2.1 a1.2.1 then Sl (js a g v w x y a1 (BS AIa AIj y a1.2.1 ((Bh AIa AIj y a1.2.1)++([(a1.2.1,a1.1,a1.2.2.1,())]:AHX)))) (js a g v w x y a1 (BS AIa AIj y a1.2.1 ((Bh AIa AIj y a1.2.1)++([(a1.2.1,a1.1,a1.2.2.1,())]:AHX))))else none else none
theorem Aky(a g:Int)(v:AHX)(w x:Int)(y:List (Int×AHX))(a1:AHH):Rk Vs 0 6 (cd f215 116) 115 (yk a g v w x y a1) (QM a g v w x y a1) (js a g v w x y a1):=by
 unfold Rk;have h:tH Vs 0 6 (cd f215 116) (pt 115) (yk a g v w x y a1) =
 if((Bh AIa AIj y a1.2.1).length+([(a1.2.1,a1.1,a1.2.2.1,())]:AHX).length)*24<=140737488355328 then bif Ba AIa a1.2.1 a1.2.1 then(((qP a g v w x y a1).bind λ_=>qP a g v w x y a1).bind λ_=>some (js a g v w x y a1 (BS AIa AIj y a1.2.1 ((Bh AIa AIj y a1.2.1)++([(a1.2.1,a1.1,a1.2.2.1,())]:AHX)))))else none else none:=by kernel_rfl
 rw[h];unfold QM;simp only[AHE,mS,mO];clear h;by_cases GR:((Bh AIa AIj y a1.2.1).length+([(a1.2.1,a1.1,a1.2.2.1,())]:AHX).length)*24<=140737488355328
 ·rw[AHd GR,AHd GR];cases OS:(Ba AIa a1.2.1 a1.2.1)with
  |true =>
   simp only[AHb];simp only[qP,AHb,AHd GR,OS,if_true,AGV,G7]
  |false =>
   simp only[AHa]
   all_goals first |rfl |simp
 ·simp only[if_true,AHe GR]
def yj a g v w x (c1:(List (Int×AHX))) d1:=sT 116 [(1,dI a),(2,dI g),(7,.mp 0),(9,.ptr 1 0 [] 0),(20,dD AIj v),(21,dI w),(22,dI x)] [.map .Ai AIa AIj c1 none,.box (dD Ab d1)]
def jr a g v w x (c1:(List (Int×AHX))) d1:=λ(y:(List (Int×AHX)))=>sT 116 [(1,dI a),(2,dI g),(7,.mp 0),(9,.ptr 1 0 [] 0),(20,dD AIj v),(21,dI w),(22,dI x)] [.map .Ai AIa AIj y none,.box (dD Ab d1)]
def QL(a g:Int)(v:AHX)(w x:Int)(c1:List (Int×AHX))(d1:AHH):Option (List (Int×AHX)):=
 if((Bh AIa AIj c1 d1.1).length+([d1]:AHX).length)*24<=140737488355328 then
 bif Ba AIa d1.1 d1.1 then
 some (BS AIa AIj c1 d1.1 ((Bh AIa AIj c1 d1.1)++([d1]:AHX)))
 else
 none
 else none
noncomputable def qO(a g:Int)(v:AHX)(w x:Int)(c1:List (Int×AHX))(d1:AHH):Option Unit:=if((Bh AIa AIj c1 d1.1).length+([d1]:AHX).length)*24<=140737488355328 then bif Ba AIa d1.1 d1.1 then Sl (jr a g v w x c1 d1 (BS AIa AIj c1 d1.1 ((Bh AIa AIj c1 d1.1)++([d1]:AHX)))) (jr a g v w x c1 d1 (BS AIa AIj c1 d1.1 ((Bh AIa AIj c1 d1.1)++([d1]:AHX))))else none else none
theorem Akx(a g:Int)(v:AHX)(w x:Int)(c1:List (Int×AHX))(d1:AHH):Rk Vs 0 5 (cd f215 116) 114 (yj a g v w x c1 d1) (QL a g v w x c1 d1) (jr a g v w x c1 d1):=by
 unfold Rk;have h:tH Vs 0 5 (cd f215 116) (pt 114) (yj a g v w x c1 d1) =
 if((Bh AIa AIj c1 d1.1).length+([d1]:AHX).length)*24<=140737488355328 then bif Ba AIa d1.1 d1.1 then(((qO a g v w x c1 d1).bind λ_=>qO a g v w x c1 d1).bind λ_=>some (jr a g v w x c1 d1 (BS AIa AIj c1 d1.1 ((Bh AIa AIj c1 d1.1)++([d1]:AHX)))))else none else none:=by kernel_rfl
 rw[h];unfold QL;simp only[AHE,mS,mO];clear h;by_cases GR:((Bh AIa AIj c1 d1.1).length+([d1]:AHX).length)*24<=140737488355328
 ·rw[AHd GR,AHd GR];cases OS:(Ba AIa d1.1 d1.1)with
  |true =>
   simp only[AHb];simp only[qO,AHb,AHd GR,OS,if_true,AGV,G7]
  |false =>
   simp only[AHa]
   all_goals first |rfl |simp
 ·simp only[if_true,AHe GR]
def Rr(a g:Int)(v:AHX)(w x:Int)(c1:List (Int×AHX)):Option ((Int×(List (Int×AHX)))⊕(List (Int×AHX))):=
 bif decide (x<w)then
 if 0<=x/\x<v.length then
 (QL a g v w x c1 (v.getD x.toNat Ab.zero)).bind λy=>(QM a g v w x y (v.getD x.toNat Ab.zero)).bind λb1=>some (.inl (wI (x+1),b1))
 else none
 else
 some (.inr c1)
def Nz a g v w (z_:Int×(List (Int×AHX))):=Rr a g v w z_.1 z_.2
def QN a g v w x c1:=fix (Nz a g v w) (x,c1)
theorem Akz a g v w:A5 Vs 0 3 (code f215) 58 (Ai8 a g v w) (Nz a g v w) (AhR a g v w):=by
 intro _;simp only[Nz,Rr,AHE];simp(disch:=refine id ?_;kernel_rfl) only[Vf (Akx ..) (K:=Ld Vs 0 3),Vf (Aky ..) (K:=Ld Vs 0 3)];kernel_rfl
def Qp(v:AHX)(a g:Int):Option AHT:=
 (QN a g v (v.length:Int) 0 ([]:List (Int×AHX))).bind λi=>(QQ a g i (BS AIa Ab ([]:List (Int×AHH)) a (a,a,0,())) ([a]:AHT)).bind λb=>(TN a b g ([]:AHT)).bind λc=>if c.length<4611686018427387904 then
 some (MN (Np c))
 else none
theorem Ay8 R v a g K:AW Vs f215 R [dD AIj v,dI a,dI g] [] K=(Qp v a g).bind λr=>K (.Ak 0) [.row 2 .Ai AIa r]:=by
 simp only[Qp,AHF];simp(disch:=refine id ?_;kernel_rfl) only[QN,AF (Akz _ _ _ _) (K:=A4 Vs f215 0 R K),QQ,AF (AkC _ _ _) (K:=A4 Vs f215 0 R K),TN,AF (AkD _ _) (K:=A4 Vs f215 0 R K)];kernel_rfl
def Avy:=Cx [.d AIj,.d AIa,.d AIa] [⟨[.AA [] AIj,.AA [] AIa,.AA [] AIa],[],AHT,λp=>Qp p.1.1 p.1.2.1 p.1.2.2.1,λr=>(.Ak 0,[.row 2 .Ai AIa r])⟩]
theorem Aad:As prog 215 Avy:=Aw ⟨⟨Vs,pk ⟨mP,mQ,trivial⟩,λ_ _ _=>Ay8 ..⟩,trivial⟩
abbrev Anx:Bd:=⟨A7,Az [],{Ai:=true,TH:=[.mv 0 [0],.AH 1,.mv 0 [1],.AH 2]}⟩
def Bb(a:Int)(b:AHS)(c d:AHT)(e:List (Int×AHM))(g:AHX):Option (Int×(List (Int×AHM))×AHX×AHT×AHT):=
 bif decide (b.1>=0)then
 some (b.1,e,g,c,d)
 else
 if(c.length+([(c.length:Int)]:AHT).length)*8<=140737488355328 then
 if(d.length+([(c.length:Int)]:AHT).length)*8<=140737488355328 then
 some ((c.length:Int),BS AIa Ah e (c.length:Int) b.2.1,g,c++([(c.length:Int)]:AHT),d++([(c.length:Int)]:AHT))
 else none
 else none
theorem Ay9 R a b c d e g K:AW Anx f212 R [.ptr 0 a [] 0,dD B4 b] [.box (.pr (.Ak 1) (.pr (.Ak 2) (.pr (.mp 3) (.pr (.Ak 4) .u)))),.row 2 .Ai AIa c,.row 2 .Ai AIa d,.map (.sh []) AIa Ah e none,.row 257 .Ai Ab g] K=(Bb a b c d e g).bind λr=>K (dI r.1) [.box (.pr (.Ak 5) (.pr (.Ak 6) (.pr (.mp 3) (.pr (.Ak 4) .u)))),.AH,.AH,.map (.sh []) AIa Ah r.2.1 none,.row 257 .Ai Ab r.2.2.1,.row 2 .Ai AIa r.2.2.2.1,.row 2 .Ai AIa r.2.2.2.2]:=by
 simp only[Bb,AHF];kernel_rfl
def Avw:=Cx [.Vu,.d B4] [⟨[.ptr 0 [] 0,.AA [] B4],[.box (.pr (.k (.Ak 1)) (.pr (.k (.Ak 2)) (.pr (.k (.mp 3)) (.pr (.k (.Ak 4)) (.k .u))))),.row 2 .Ai AIa,.row 2 .Ai AIa,.map (.sh []) AIa Ah,.row 257 .Ai Ab],Int×(List (Int×AHM))×AHX×AHT×AHT,λp=>Bb p.1.1 p.1.2.1 p.2.2.1 p.2.2.2.1 p.2.2.2.2.1 p.2.2.2.2.2.1,λr=>(dI r.1,[.box (.pr (.Ak 5) (.pr (.Ak 6) (.pr (.mp 3) (.pr (.Ak 4) .u)))),.AH,.AH,.map (.sh []) AIa Ah r.2.1 none,.row 257 .Ai Ab r.2.2.1,.row 2 .Ai AIa r.2.2.2.1,.row 2 .Ai AIa r.2.2.2.2])⟩]
theorem Aab:As prog 212 Avw:=Aw ⟨⟨Anx,pk trivial,λ_ _ _=>Ay9 ..⟩,trivial⟩
abbrev Ad3:Bd:=⟨A7,Az [],{Ai:=true,A9:=[(1,{Ap:=[0,1]})],BQ:=[(1,{Ap:=[1]})]}⟩
def Ajd(a:Int) b (c:(List (Int×AHM))) d (z_:Int×AHT):=sT 41 [(0,.ptr 0 a [] 0),(1,dI z_.1)] [.box (.pr (.Ak 1) (.pr (.Ak 2) (.pr (.mp 3) (.pr (.Ak 4) .u)))),.row 2 .Ai AIa z_.2,.row 2 .Ai AIa b,.map (.sh []) AIa Ah c none,.row 257 .Ai Ab d]
def AhW(a:Int) b (c:(List (Int×AHM))) d:=λ(e:(Int×AHT))=>(Ex.exit 0,sT 41 [(1,dI e.1)] [.box (.pr (.Ak 1) (.pr (.Ak 2) (.pr (.mp 3) (.pr (.Ak 4) .u)))),.row 2 .Ai AIa e.2,.row 2 .Ai AIa b,.map (.sh []) AIa Ah c none,.row 257 .Ai Ab d])
def Kw(a:Int)(b:AHT)(c:List (Int×AHM))(d:AHX)(g:Int)(i:AHT):Option ((Int×AHT)⊕(Int×AHT)):=
 if 0<=g/\g<i.length then
 bif (i.getD g.toNat AIa.zero) !=g then
 if 0<=g/\g<i.length then
 if(0:Int)<=(i.getD g.toNat AIa.zero)/\(i.getD g.toNat AIa.zero)<(i.length:Int)then
 if 0<=g/\g<i.length then
 if 0<=g/\g<(i.set g.toNat (i.getD (i.getD g.toNat AIa.zero).toNat AIa.zero)).length then
 some (.inl ((i.set g.toNat (i.getD (i.getD g.toNat AIa.zero).toNat AIa.zero)).getD g.toNat AIa.zero,i.set g.toNat (i.getD (i.getD g.toNat AIa.zero).toNat AIa.zero)))
 else none
 else none
 else none
 else none
 else
 some (.inr (g,i))
 else none
def GZ a b c d (z_:Int×AHT):=Kw a b c d z_.1 z_.2
def MW a b c d g i:=fix (GZ a b c d) (g,i)
theorem AkE a b c d:A5 Ad3 5 1 (code f213) 12 (Ajd a b c d) (GZ a b c d) (AhW a b c d):=by
 intro _;simp only[GZ,Kw,AHE];kernel_rfl
def C7(a j:Int)(k b:AHT)(c:List (Int×AHM))(d:AHX):Option (Int×AHT×AHT×(List (Int×AHM))×AHX):=
 (MW a b c d j k).bind λe=>some (e.1,e.2,b,c,d)
theorem Aza R a j k b c d K:AW Ad3 f213 R [.ptr 0 a [] 0,dI j] [.box (.pr (.Ak 1) (.pr (.Ak 2) (.pr (.mp 3) (.pr (.Ak 4) .u)))),.row 2 .Ai AIa k,.row 2 .Ai AIa b,.map (.sh []) AIa Ah c none,.row 257 .Ai Ab d] K=(C7 a j k b c d).bind λr=>K (dI r.1) [.box (.pr (.Ak 1) (.pr (.Ak 2) (.pr (.mp 3) (.pr (.Ak 4) .u)))),.row 2 .Ai AIa r.2.1,.row 2 .Ai AIa r.2.2.1,.map (.sh []) AIa Ah r.2.2.2.1 none,.row 257 .Ai Ab r.2.2.2.2]:=by
 simp only[C7,AHF];simp(disch:=refine id ?_;kernel_rfl) only[MW,AF (AkE _ _ _ _) (K:=A4 Ad3 f213 5 R K)];kernel_rfl
def Alw:=Cx [.Vu,.d AIa] [⟨[.ptr 0 [] 0,.AA [] AIa],[.box (.pr (.k (.Ak 1)) (.pr (.k (.Ak 2)) (.pr (.k (.mp 3)) (.pr (.k (.Ak 4)) (.k .u))))),.row 2 .Ai AIa,.row 2 .Ai AIa,.map (.sh []) AIa Ah,.row 257 .Ai Ab],Int×AHT×AHT×(List (Int×AHM))×AHX,λp=>C7 p.1.1 p.1.2.1 p.2.2.1 p.2.2.2.1 p.2.2.2.2.1 p.2.2.2.2.2.1,λr=>(dI r.1,[.box (.pr (.Ak 1) (.pr (.Ak 2) (.pr (.mp 3) (.pr (.Ak 4) .u)))),.row 2 .Ai AIa r.2.1,.row 2 .Ai AIa r.2.2.1,.map (.sh []) AIa Ah r.2.2.2.1 none,.row 257 .Ai Ab r.2.2.2.2])⟩]
theorem mW:As prog 213 Alw:=Aw ⟨⟨Ad3,pk trivial,λ_ _ _=>Aza ..⟩,trivial⟩
abbrev Xk:Bd:=⟨A7,Az [(212,Avw),(213,Alw),(214,Avx),(215,Avy)],{Ai:=true,BP:=[(8,{Ap:=[0,10,11,12,13,63]}),(11,{Ap:=[0,6,7,10,11,12,13]}),(14,{Ap:=[0,10,12,109]}),(15,{Ap:=[]})],Yl:=[(1,{Ap:=[0,2,8,9]})],D2:=[(8,[0,10,11,12,13]),(11,[0,10,11,12,13]),(14,[0,10,12,13]),(15,[0,10,12,13])],ZW:=[(1,[0,2,4])],TH:=[.mv 0 [3],.AH 4],dT:=[(0,.row [] 2 AIa true)]}⟩
def Ajf(a:Int) b c d (e:(List (Int×AHM))) g i j:=sT 117 [(0,.ptr 0 a [] 0),(10,dI c),(12,dI b),(13,dI d)] [.box (.pr (.Ak 5) (.pr (.Ak 6) (.pr (.mp 3) (.pr (.Ak 7) .u)))),.AH,.AH,.map (.sh []) AIa Ah e none,.AH,.row 2 .Ai AIa g,.row 2 .Ai AIa i,.row 257 .Ai Ab j]
def AhY(a b c d:Int)(e:List (Int×AHM)) g (i:AHT) j:=λ(k:AHT)=>(Ex.normal,sT 117 [] [.box (.pr (.Ak 5) (.pr (.Ak 6) (.pr (.mp 3) (.pr (.Ak 7) .u)))),.AH,.AH,.map (.sh []) AIa Ah e none,.AH,.row 2 .Ai AIa g,.row 2 .Ai AIa k,.row 257 .Ai Ab j])
def qH(a:Int) c b d (e:(List (Int×AHM))) g i j:=sT 117 [(0,.ptr 0 a [] 0),(10,dI c),(12,dI b),(13,dI d)] [.box (.pr (.Ak 5) (.pr (.Ak 6) (.pr (.mp 3) (.pr (.Ak 7) .u)))),.AH,.AH,.map (.sh []) AIa Ah e none,.AH,.row 2 .Ai AIa g,.row 2 .Ai AIa i,.row 257 .Ai Ab j]
def qy(a c b:Int)(e:List (Int×AHM))(g i:AHT)(j:AHX)(m0:Bool):Ex×St:=(.normal,sT 117 [(0,.ptr 0 a [] 0),(10,dI c),(12,dI b),(109,dB m0)] [.box (.pr (.Ak 5) (.pr (.Ak 6) (.pr (.mp 3) (.pr (.Ak 7) .u)))),.AH,.AH,.map (.sh []) AIa Ah e none,.AH,.row 2 .Ai AIa g,.row 2 .Ai AIa i,.row 257 .Ai Ab j])
theorem AkI a c b d e g i j:MY Xk 5 14 (cd f173 2046) (pt 2) (qH a c b d e g i j)=some (qy a c b e g i j ((decide (b>=0))&&(decide (d>=0)))):=by
 have h0:MY Xk 5 14 (cd f173 2046) (pt 2) (qH a c b d e g i j) =
 bif decide (b>=0)then
 some (qy a c b e g i j (decide (d>=0)))
 else
 some (qy a c b e g i j false):=by kernel_rfl
 rw[h0];cases (decide (b>=0))
 ·rfl
 ·rfl
def DC(a b c d:Int)(e:List (Int×AHM))(g i:AHT)(j:AHX):Option AHT:=
 P2 (qH a c b d e g i j) (
 bif (decide (b>=0))&&(decide (d>=0))then
 if 0<=c/\c<i.length then
 some (i.set c.toNat b)
 else none
 else
 some i)
theorem AkJ a b c d e g i j:AZ Xk 5 15 (code f173) 2046 (Ajf a b c d e g i j) (DC a b c d e g i j) (AhY a b c d e g i j):=by
 unfold AZ;simp only[DC,AHE];simp(disch:=refine id ?_;kernel_rfl) only[F4 (AkI ..) (K:=Te Xk 5 15)];kernel_rfl
def Aje(a:Int) l n o q (s:(List (Int×AHM))) t u v:=sT 117 [(0,.ptr 0 a [] 0),(10,dI l),(11,dI n),(12,dI o),(13,dI q)] [.box (.pr (.Ak 5) (.pr (.Ak 6) (.pr (.mp 3) (.pr (.Ak 7) .u)))),.AH,.AH,.map (.sh []) AIa Ah s none,.AH,.row 2 .Ai AIa t,.row 2 .Ai AIa u,.row 257 .Ai Ab v]
def AhX(a:Int) l n o q (s:(List (Int×AHM))) t u v:=Sum.elim (λ(w:AHT)=>(Ex.ret,sT 117 [(0,.ptr 0 a [] 0),(6,.Ak 5),(7,dB false),(10,dI l),(11,dI n),(12,dI o),(13,dI q)] [.box (.pr (.Ak 6) (.pr (.Ak 7) (.pr (.mp 3) (.pr (.Ak 8) .u)))),.AH,.AH,.map (.sh []) AIa Ah s none,.AH,.row 2 .Ai AIa w,.row 2 .Ai AIa t,.row 2 .Ai AIa u,.row 257 .Ai Ab v])) (λ(b:Int)=>(Ex.normal,sT 117 [(0,.ptr 0 a [] 0),(10,dI l),(11,dI n),(12,dI b),(13,dI q)] [.box (.pr (.Ak 5) (.pr (.Ak 6) (.pr (.mp 3) (.pr (.Ak 7) .u)))),.AH,.AH,.map (.sh []) AIa Ah s none,.AH,.row 2 .Ai AIa t,.row 2 .Ai AIa u,.row 257 .Ai Ab v]))
def qG(a:Int) l n o q (s:(List (Int×AHM))) t u v:=sT 117 [(0,.ptr 0 a [] 0),(10,dI l),(11,dI n),(12,dI o),(13,dI q)] [.box (.pr (.Ak 5) (.pr (.Ak 6) (.pr (.mp 3) (.pr (.Ak 7) .u)))),.AH,.AH,.map (.sh []) AIa Ah s none,.AH,.row 2 .Ai AIa t,.row 2 .Ai AIa u,.row 257 .Ai Ab v]
def qx(a l n o q:Int)(s:List (Int×AHM))(t u:AHT)(v:AHX)(m0:Bool):Ex×St:=(.normal,sT 117 [(0,.ptr 0 a [] 0),(10,dI l),(11,dI n),(12,dI o),(13,dI q),(63,dB m0)] [.box (.pr (.Ak 5) (.pr (.Ak 6) (.pr (.mp 3) (.pr (.Ak 7) .u)))),.AH,.AH,.map (.sh []) AIa Ah s none,.AH,.row 2 .Ai AIa t,.row 2 .Ai AIa u,.row 257 .Ai Ab v])
theorem AkG a l n o q s t u v:MY Xk 5 8 (cd f173 254) (pt 2) (qG a l n o q s t u v)=some (qx a l n o q s t u v ((decide (o>=0))&&(decide (q>=0)))):=by
 have h0:MY Xk 5 8 (cd f173 254) (pt 2) (qG a l n o q s t u v) =
 bif decide (o>=0)then
 some (qx a l n o q s t u v (decide (q>=0)))
 else
 some (qx a l n o q s t u v false):=by kernel_rfl
 rw[h0];cases (decide (o>=0))
 ·rfl
 ·rfl
def Il(a l n o q:Int)(s:List (Int×AHM))(t u:AHT)(v:AHX):Option (AHT⊕Int):=
 P2 (qG a l n o q s t u v) (
 bif (decide (o>=0))&&(decide (q>=0))then
 (IC (Bh AIa Ah s o) (Bh AIa Ah s q)).bind λx=>bif !x then
 (Qp v o q).bind λy=>some (.inl y)
 else
 some (.inr (if q<o then q else o))
 else
 some (.inr o))
theorem AkH a l n o q s t u v:AZ Xk 5 11 (code f173) 254 (Aje a l n o q s t u v) (Il a l n o q s t u v) (AhX a l n o q s t u v):=by
 unfold AZ;simp only[Il,AHE];simp(disch:=refine id ?_;kernel_rfl) only[F4 (AkG ..) (K:=Te Xk 5 11)];kernel_rfl
def yl(a:Int) a1 b1 c1 (d1:(List (Int×AHM))) e1 g1:=sT 117 [(0,.ptr 0 a [] 0),(2,dI a1),(4,.ptr 5 0 [] 0)] [.box (.pr (.Ak 1) (.pr (.Ak 2) (.pr (.mp 3) (.pr (.Ak 4) .u)))),.row 2 .Ai AIa b1,.row 2 .Ai AIa c1,.map (.sh []) AIa Ah d1 none,.row 257 .Ai Ab e1,.box (dD Aq g1)]
def VC(a:Int) a1 (b1:AHT) (c1:AHT) (d1:(List (Int×AHM))) (e1:AHX) (g1:AHQ):=λ(i1:(Int×Int×(List (Int×AHM))×AHX×AHT×AHT))=>sT 117 [(0,.ptr 0 a [] 0),(2,dI a1),(8,dI i1.1),(9,dI i1.2.1)] [.box (.pr (.Ak 5) (.pr (.Ak 6) (.pr (.mp 3) (.pr (.Ak 4) .u)))),.AH,.AH,.map (.sh []) AIa Ah i1.2.2.1 none,.row 257 .Ai Ab i1.2.2.2.1,.row 2 .Ai AIa i1.2.2.2.2.1,.row 2 .Ai AIa i1.2.2.2.2.2]
def Ik(a a1:Int)(b1 c1:AHT)(d1:List (Int×AHM))(e1:AHX)(g1:AHQ):Option (Int×Int×(List (Int×AHM))×AHX×AHT×AHT):=
 (Bb a g1.1 b1 c1 d1 e1).bind λj1=>(Bb a g1.2.1 j1.2.2.2.1 j1.2.2.2.2 j1.2.1 j1.2.2.1).bind λk1=>some (j1.1,k1.1,k1.2.1,k1.2.2.1,k1.2.2.2.1,k1.2.2.2.2)
theorem AkF(a a1:Int)(b1 c1:AHT)(d1:List (Int×AHM))(e1:AHX)(g1:AHQ):Rk Xk 5 1 (code f173) 6 (yl a a1 b1 c1 d1 e1 g1) (Ik a a1 b1 c1 d1 e1 g1) (VC a a1 b1 c1 d1 e1 g1):=by
 unfold Rk;have h:tH Xk 5 1 (code f173) (pt 6) (yl a a1 b1 c1 d1 e1 g1) =
 (Bb a g1.1 b1 c1 d1 e1).bind λj1=>(Bb a g1.2.1 j1.2.2.2.1 j1.2.2.2.2 j1.2.1 j1.2.2.1).bind λk1=>(((((Bb a g1.1 b1 c1 d1 e1).bind λl1 =>
(Bb a g1.2.1 l1.2.2.2.1 l1.2.2.2.2 l1.2.1 l1.2.2.1).bind λn1=>Sl (VC a a1 b1 c1 d1 e1 g1 (l1.1,n1.1,n1.2.1,n1.2.2.1,n1.2.2.2.1,n1.2.2.2.2)) (VC a a1 b1 c1 d1 e1 g1 (j1.1,k1.1,k1.2.1,k1.2.2.1,k1.2.2.2.1,k1.2.2.2.2))).bind λ_=>(Bb a g1.1 b1 c1 d1 e1).bind λo1 =>
(Bb a g1.2.1 o1.2.2.2.1 o1.2.2.2.2 o1.2.1 o1.2.2.1).bind λq1=>Sl (VC a a1 b1 c1 d1 e1 g1 (o1.1,q1.1,q1.2.1,q1.2.2.1,q1.2.2.2.1,q1.2.2.2.2)) (VC a a1 b1 c1 d1 e1 g1 (j1.1,k1.1,k1.2.1,k1.2.2.1,k1.2.2.2.1,k1.2.2.2.2))).bind λ_=>(Bb a g1.1 b1 c1 d1 e1).bind λs1 =>
(Bb a g1.2.1 s1.2.2.2.1 s1.2.2.2.2 s1.2.1 s1.2.2.1).bind λt1=>Sl (VC a a1 b1 c1 d1 e1 g1 (s1.1,t1.1,t1.2.1,t1.2.2.1,t1.2.2.2.1,t1.2.2.2.2)) (VC a a1 b1 c1 d1 e1 g1 (j1.1,k1.1,k1.2.1,k1.2.2.1,k1.2.2.2.1,k1.2.2.2.2))).bind λ_=>some (VC a a1 b1 c1 d1 e1 g1 (j1.1,k1.1,k1.2.1,k1.2.2.1,k1.2.2.2.1,k1.2.2.2.2))):=by kernel_rfl
 rw[h];unfold Ik;simp only[AHE,mS,mO];clear h;cases GR:Bb a g1.1 b1 c1 d1 e1 with
 |none=>rfl
 |some j1 =>
  simp only[AGV];cases OS:Bb a g1.2.1 j1.2.2.2.1 j1.2.2.2.2 j1.2.1 j1.2.2.1 with
  |none=>rfl
  |some k1 =>
   simp only[AGV];simp only[GR,OS,if_true,AGV,G7]
def Gb(a:Int)(g1:AHQ)(a1:Int)(b1 c1:AHT)(d1:List (Int×AHM))(e1:AHX):Option (Bool×(List (Int×AHM))×AHT×AHT×AHT×AHX):=
 (Ik a a1 b1 c1 d1 e1 g1).bind λi1=>(C7 a i1.1 i1.2.2.2.2.1 i1.2.2.2.2.2 i1.2.2.1 i1.2.2.2.1).bind λu1=>(C7 a i1.2.1 u1.2.1 u1.2.2.1 u1.2.2.2.1 u1.2.2.2.2).bind λv1=>bif u1.1==v1.1 then
 some (true,v1.2.2.2.1,([]:AHT),v1.2.1,v1.2.2.1,v1.2.2.2.2)
 else
 if(v1.2.2.2.2.length+([(i1.1,i1.2.1,a1,())]:AHX).length)*24<=140737488355328 then
 if(0:Int)<=u1.1/\u1.1<(v1.2.2.1.length:Int)then
 if(0:Int)<=v1.1/\v1.1<(v1.2.2.1.length:Int)then
 (Il a u1.1 v1.1 (v1.2.2.1.getD u1.1.toNat AIa.zero) (v1.2.2.1.getD v1.1.toNat AIa.zero) v1.2.2.2.1 v1.2.1 v1.2.2.1 (v1.2.2.2.2++([(i1.1,i1.2.1,a1,())]:AHX))).bind (Sum.elim (λw=>some (false,v1.2.2.2.1,w,v1.2.1,v1.2.2.1,v1.2.2.2.2++([(i1.1,i1.2.1,a1,())]:AHX))) (λb=>if(0:Int)<=v1.1/\v1.1<(v1.2.1.length:Int)then
 if(0:Int)<=u1.1/\u1.1<(v1.2.2.1.length:Int)then
 (DC a b u1.1 (v1.2.2.1.getD v1.1.toNat AIa.zero) v1.2.2.2.1 (v1.2.1.set v1.1.toNat u1.1) (v1.2.2.1.set u1.1.toNat (if(v1.2.2.1.getD v1.1.toNat AIa.zero)>b then(v1.2.2.1.getD v1.1.toNat AIa.zero)else b)) (v1.2.2.2.2++([(i1.1,i1.2.1,a1,())]:AHX))).bind λk=>some (true,v1.2.2.2.1,([]:AHT),v1.2.1.set v1.1.toNat u1.1,k,v1.2.2.2.2++([(i1.1,i1.2.1,a1,())]:AHX))
 else none
 else none))
 else none
 else none
 else none
theorem Azb R a g1 a1 b1 c1 d1 e1 K:AW Xk f173 R [.ptr 0 a [] 0,dD Aq g1,dI a1] [.box (.pr (.Ak 1) (.pr (.Ak 2) (.pr (.mp 3) (.pr (.Ak 4) .u)))),.row 2 .Ai AIa b1,.row 2 .Ai AIa c1,.map (.sh []) AIa Ah d1 none,.row 257 .Ai Ab e1] K=(Gb a g1 a1 b1 c1 d1 e1).bind λr=>K (.cons (.Ak 5) (.cons (dB r.1) .nil)) [.box (.pr (.Ak 6) (.pr (.Ak 7) (.pr (.mp 3) (.pr (.Ak 8) .u)))),.AH,.AH,.map (.sh []) AIa Ah r.2.1 none,.AH,.row 2 .Ai AIa r.2.2.1,.row 2 .Ai AIa r.2.2.2.1,.row 2 .Ai AIa r.2.2.2.2.1,.row 257 .Ai Ab r.2.2.2.2.2]:=by
 simp only[Gb,AHF];simp(disch:=refine id ?_;kernel_rfl) only[Vf (AkF ..) (K:=A4 Xk f173 5 R K),Bg (AkH ..) (K:=A4 Xk f173 5 R K),Bg (AkJ ..) (K:=A4 Xk f173 5 R K)];kernel_rfl
def Avf:=Cx [.Vu,.d Aq,.d AIa] [⟨[.ptr 0 [] 0,.AA [] Aq,.AA [] AIa],[.box (.pr (.k (.Ak 1)) (.pr (.k (.Ak 2)) (.pr (.k (.mp 3)) (.pr (.k (.Ak 4)) (.k .u))))),.row 2 .Ai AIa,.row 2 .Ai AIa,.map (.sh []) AIa Ah,.row 257 .Ai Ab],Bool×(List (Int×AHM))×AHT×AHT×AHT×AHX,λp=>Gb p.1.1 p.1.2.1 p.1.2.2.1 p.2.2.1 p.2.2.2.1 p.2.2.2.2.1 p.2.2.2.2.2.1,λr=>(.cons (.Ak 5) (.cons (dB r.1) .nil),[.box (.pr (.Ak 6) (.pr (.Ak 7) (.pr (.mp 3) (.pr (.Ak 8) .u)))),.AH,.AH,.map (.sh []) AIa Ah r.2.1 none,.AH,.row 2 .Ai AIa r.2.2.1,.row 2 .Ai AIa r.2.2.2.1,.row 2 .Ai AIa r.2.2.2.2.1,.row 257 .Ai Ab r.2.2.2.2.2])⟩]
theorem zO:As prog 173 Avf:=Aw ⟨⟨Xk,pk ⟨Aab,mW,Aac,Aad,trivial⟩,λ_ _ _=>Azb ..⟩,trivial⟩
abbrev lZ:Bd:=⟨A7,Az [(213,Alw),(216,AeA)],{Ai:=true,A9:=[(4,{Ap:=[0,5,6,15,16],B6:=[(5,false,.row [] 155 Ao true)]})],BQ:=[(4,{Ap:=[5]})],BP:=[(15,{Ap:=[0,5,6,7,9,11,15,16],B6:=[(11,true,.row [2,1] 216 AIb true)]}),(16,{Ap:=[0,5,6,7,9,15,16],B6:=[(5,false,.row [] 155 Ao true)]})],D2:=[(15,[0,5,6,7,8,9,11,15,16]),(16,[0,5,6,7,8,9,10,15,16])],stl:=[64]}⟩
def Aji(a:Int) b (z_:Int×AHT×AHT×(List (Int×AHM))×AHX×AH4×(List (Int×Int))):=sT 72 [(0,.ptr 0 a [] 0),(5,.Ak 5),(6,.mp 6),(15,dI b),(16,dI z_.1)] [.box (.pr (.Ak 1) (.pr (.Ak 2) (.pr (.mp 3) (.pr (.Ak 4) .u)))),.row 2 .Ai AIa z_.2.1,.row 2 .Ai AIa z_.2.2.1,.map (.sh []) AIa Ah z_.2.2.2.1 none,.row 257 .Ai Ab z_.2.2.2.2.1,.row 155 .Ai Ao z_.2.2.2.2.2.1,.map .Ai AIa AIa z_.2.2.2.2.2.2 none]
def Ah1(a b:Int):=λ(c:(AHT×AHT×(List (Int×AHM))×AHX×AH4))=>(Ex.exit 0,sT 72 [(5,.Ak 5)] [.box (.pr (.Ak 1) (.pr (.Ak 2) (.pr (.mp 3) (.pr (.Ak 4) .u)))),.row 2 .Ai AIa c.1,.row 2 .Ai AIa c.2.1,.map (.sh []) AIa Ah c.2.2.1 none,.row 257 .Ai Ab c.2.2.2.1,.row 155 .Ai Ao c.2.2.2.2])
def Ajh(a:Int) d b e (g:(List (Int×Int))) i j k l n (o:(List (Int×AHM))) q:=sT 72 [(0,.ptr 0 a [] 0),(5,.Ak 5),(6,.mp 6),(7,dI d),(8,dI i),(9,dI j),(10,dB k),(15,dI b),(16,dI d)] [.box (.pr (.Ak 1) (.pr (.Ak 2) (.pr (.mp 3) (.pr (.Ak 4) .u)))),.row 2 .Ai AIa l,.row 2 .Ai AIa n,.map (.sh []) AIa Ah o none,.row 257 .Ai Ab q,.row 155 .Ai Ao e,.map .Ai AIa AIa g none]
def Ah0(a:Int) d b (e:AH4) (g:(List (Int×Int))) (i:Int) (j:Int) (k:Bool) l n (o:(List (Int×AHM))) q:=λ(s:(Int×AH4×(List (Int×Int))))=>(Ex.normal,sT 72 [(0,.ptr 0 a [] 0),(5,.Ak 5),(6,.mp 6),(7,dI d),(9,dI s.1),(15,dI b),(16,dI d)] [.box (.pr (.Ak 1) (.pr (.Ak 2) (.pr (.mp 3) (.pr (.Ak 4) .u)))),.row 2 .Ai AIa l,.row 2 .Ai AIa n,.map (.sh []) AIa Ah o none,.row 257 .Ai Ab q,.row 155 .Ai Ao s.2.1,.map .Ai AIa AIa s.2.2 none])
def Ajg(a:Int) d i b l n (o:(List (Int×AHM))) q e t (u:(List (Int×Int))):=sT 72 [(0,.ptr 0 a [] 0),(5,.Ak 5),(6,.mp 6),(7,dI d),(8,dI i),(9,dI t),(11,.ptr 7 0 [] 0),(15,dI b),(16,dI d)] [.box (.pr (.Ak 1) (.pr (.Ak 2) (.pr (.mp 3) (.pr (.Ak 4) .u)))),.row 2 .Ai AIa l,.row 2 .Ai AIa n,.map (.sh []) AIa Ah o none,.row 257 .Ai Ab q,.row 155 .Ai Ao e,.map .Ai AIa AIa u none,.box (.pr .zs (.pr (dB false) (.pr (.pr (dI 0) (.pr .zs .u)) .u)))]
def AhZ(a:Int) d (i:Int) b l n (o:(List (Int×AHM))) q e t (u:(List (Int×Int))):=λ(v:(Bool×Int×AHT))=>(Ex.normal,sT 72 [(0,.ptr 0 a [] 0),(5,.Ak 5),(6,.mp 6),(7,dI d),(9,dI t),(11,.ptr 7 0 [] 0),(15,dI b),(16,dI d)] [.box (.pr (.Ak 1) (.pr (.Ak 2) (.pr (.mp 3) (.pr (.Ak 4) .u)))),.row 2 .Ai AIa l,.row 2 .Ai AIa n,.map (.sh []) AIa Ah o none,.row 257 .Ai Ab q,.row 155 .Ai Ao e,.map .Ai AIa AIa u none,.box (.pr .zs (.pr (dB v.1) (.pr (.pr (dI v.2.1) (.pr (.Ak 8) .u)) .u))),.row 216 .Ai AIb v.2.2])
def Dj(a d i b:Int)(l n:AHT)(o:List (Int×AHM))(q:AHX)(e:AH4)(t:Int)(u:List (Int×Int)):Option (Bool×Int×AHT):=
 if 0<=i/\i<n.length then
 bif decide ((n.getD i.toNat AIa.zero)>=0)then
 (Cs (Bh AIa Ah o (n.getD i.toNat AIa.zero))).bind λw=>some (true,w.1,w.2)
 else
 some (false,0,([]:AHT))
 else none
theorem AkK a d i b l n o q e t u:AZ lZ 5 15 (sb (cd f174 244) 462) 110 (Ajg a d i b l n o q e t u) (Dj a d i b l n o q e t u) (AhZ a d i b l n o q e t u):=by
 unfold AZ;simp only[Dj,AHE];kernel_rfl
def FR(a d b:Int)(e:AH4)(g:List (Int×Int))(i j:Int)(k:Bool)(l n:AHT)(o:List (Int×AHM))(q:AHX):Option (Int×AH4×(List (Int×Int))):=
 bif !k then
 (Dj a d i b l n o q e (e.length:Int) (BS AIa AIa g i (e.length:Int))).bind λv=>if(e.length+([(([]:AHT),v.1,(v.2.1,v.2.2,()),())]:AH4).length)*64<=140737488355328 then
 some ((e.length:Int),e++([(([]:AHT),v.1,(v.2.1,v.2.2,()),())]:AH4),BS AIa AIa g i (e.length:Int))
 else none
 else
 some (j,e,g)
theorem AkL a d b e g i j k l n o q:AZ lZ 5 16 (cd f174 244) 462 (Ajh a d b e g i j k l n o q) (FR a d b e g i j k l n o q) (Ah0 a d b e g i j k l n o q):=by
 unfold AZ;simp only[FR,AHE];simp(disch:=refine id ?_;kernel_rfl) only[Bg (AkK ..) (K:=Te lZ 5 16)];kernel_rfl
def HX(a b d:Int)(x y:AHT)(a1:List (Int×AHM))(b1:AHX)(e:AH4)(g:List (Int×Int)):Option ((Int×AHT×AHT×(List (Int×AHM))×AHX×AH4×(List (Int×Int)))⊕(AHT×AHT×(List (Int×AHM))×AHX×AH4)):=
 bif decide (d<b)then
 (C7 a d x y a1 b1).bind λc1=>(FR a d b e g c1.1 (Bh AIa AIa g c1.1) (Ry AIa AIa g c1.1) c1.2.1 c1.2.2.1 c1.2.2.2.1 c1.2.2.2.2).bind λs=>if(0:Int)<=s.1/\s.1<(s.2.1.length:Int)then
 if((s.2.1.getD s.1.toNat Ao.zero).1.length+([d]:AHT).length)*8<=140737488355328 then
 if(0:Int)<=s.1/\s.1<(s.2.1.length:Int)then
 if s.1=s.1 then
 some (.inl (wI (d+1),c1.2.1,c1.2.2.1,c1.2.2.2.1,c1.2.2.2.2,s.2.1.set s.1.toNat ((s.2.1.getD s.1.toNat Ao.zero).1++([d]:AHT),(s.2.1.getD s.1.toNat Ao.zero).2),s.2.2))
 else none
 else none
 else none
 else none
 else
 some (.inr (x,y,a1,b1,e))
def Es a b (z_:Int×AHT×AHT×(List (Int×AHM))×AHX×AH4×(List (Int×Int))):=HX a b z_.1 z_.2.1 z_.2.2.1 z_.2.2.2.1 z_.2.2.2.2.1 z_.2.2.2.2.2.1 z_.2.2.2.2.2.2
def Jl a b d x y a1 b1 e g:=fix (Es a b) (d,x,y,a1,b1,e,g)
theorem AkM a b:A5 lZ 5 4 (code f174) 122 (Aji a b) (Es a b) (Ah1 a b):=by
 intro _;simp only[-eq_self,Es,HX,AHE];simp(disch:=refine id ?_;kernel_rfl) only[-eq_self,Bg (AkL ..) (K:=Ld lZ 5 4)];kernel_rfl
def Dz(a b:Int)(d1 e1:AHT)(g1:List (Int×AHM))(i1:AHX):Option (AHT×AHT×(List (Int×AHM))×AHX×AH4):=
 (Jl a b 0 d1 e1 g1 i1 ([]:AH4) ([]:List (Int×Int))).bind λc=>some (c.1,c.2.1,c.2.2.1,c.2.2.2.1,c.2.2.2.2)
theorem Azc R a b d1 e1 g1 i1 K:AW lZ f174 R [.ptr 0 a [] 0,dI b] [.box (.pr (.Ak 1) (.pr (.Ak 2) (.pr (.mp 3) (.pr (.Ak 4) .u)))),.row 2 .Ai AIa d1,.row 2 .Ai AIa e1,.map (.sh []) AIa Ah g1 none,.row 257 .Ai Ab i1] K=(Dz a b d1 e1 g1 i1).bind λr=>K (.Ak 5) [.box (.pr (.Ak 1) (.pr (.Ak 2) (.pr (.mp 3) (.pr (.Ak 4) .u)))),.row 2 .Ai AIa r.1,.row 2 .Ai AIa r.2.1,.map (.sh []) AIa Ah r.2.2.1 none,.row 257 .Ai Ab r.2.2.2.1,.row 155 .Ai Ao r.2.2.2.2]:=by
 simp only[Dz,AHF];simp(disch:=refine id ?_;kernel_rfl) only[Jl,AF (AkM _ _) (K:=A4 lZ f174 5 R K)];kernel_rfl
def Avg:=Cx [.Vu,.d AIa] [⟨[.ptr 0 [] 0,.AA [] AIa],[.box (.pr (.k (.Ak 1)) (.pr (.k (.Ak 2)) (.pr (.k (.mp 3)) (.pr (.k (.Ak 4)) (.k .u))))),.row 2 .Ai AIa,.row 2 .Ai AIa,.map (.sh []) AIa Ah,.row 257 .Ai Ab],AHT×AHT×(List (Int×AHM))×AHX×AH4,λp=>Dz p.1.1 p.1.2.1 p.2.2.1 p.2.2.2.1 p.2.2.2.2.1 p.2.2.2.2.2.1,λr=>(.Ak 5,[.box (.pr (.Ak 1) (.pr (.Ak 2) (.pr (.mp 3) (.pr (.Ak 4) .u)))),.row 2 .Ai AIa r.1,.row 2 .Ai AIa r.2.1,.map (.sh []) AIa Ah r.2.2.1 none,.row 257 .Ai Ab r.2.2.2.1,.row 155 .Ai Ao r.2.2.2.2])⟩]
theorem zP:As prog 174 Avg:=Aw ⟨⟨lZ,pk ⟨mW,cm,trivial⟩,λ_ _ _=>Azc ..⟩,trivial⟩
abbrev l5:Bd:=⟨A7,Az [(171,Avd),(172,Ave),(173,Avf),(174,Avg)],{Ai:=true,A9:=[(4,{Ap:=[0,2,3,4,25,26,27],B6:=[(4,true,.row [3] 257 Ab true)]}),(8,{Ap:=[0,2,3,4,6,25,26,27,37,38,39],B6:=[(4,true,.row [3] 257 Ab true)]})],BQ:=[(4,{Ap:=[0,2,3,4]}),(8,{Ap:=[0,2,3,4,25,26,27]})],BP:=[(15,{Ap:=[0,2,3,4,25,26,27],B6:=[(4,true,.row [3] 257 Ab true)]})],D2:=[(15,[0,2,3,4,25,26,27])],dT:=[(0,.row [1] 155 Ao true),(0,.row [2] 2 AIa true)]}⟩
def Ajl(a:Int) b (c:Int) d (z_:Int×AHY×AH0×(List (AHZ×(AHZ×Unit)))×AH6×AHX×(List (AHG×Int))×AHT×AHT×(List (Int×AHM))×AHX):=sT 67 [(0,.ptr 0 a [] 0),(2,.ptr 5 0 [] 0),(3,.ptr 6 0 [] 0),(4,.ptr 7 c [] 0),(25,dD AIi b),(26,dI d),(27,dI z_.1)] [.box (.pr (dD AId z_.2.1) (.pr (dD AIi z_.2.2.1) (.pr (.Ak 1) (.pr (.pr (.Ak 2) .u) (.pr (.Ak 3) (.pr (.mp 4) .u)))))),.row 145 .Ai (.Au AIe (.Au AIe .unit)) z_.2.2.2.1,.row 72 .Ai AIf z_.2.2.2.2.1,.row 157 .Ai Ab z_.2.2.2.2.2.1,.map .Ai Aa AIa z_.2.2.2.2.2.2.1 none,.box (.pr (.pr .zs .u) (.pr .zs (.pr .zs .u))),.box (.pr (.pr (.Ak 2) .u) (.pr .zs (.pr .zs .u))),.box (.pr (.Ak 8) (.pr (.Ak 9) (.pr (.mp 10) (.pr (.Ak 11) .u)))),.row 2 .Ai AIa z_.2.2.2.2.2.2.2.1,.row 2 .Ai AIa z_.2.2.2.2.2.2.2.2.1,.map (.sh []) AIa Ah z_.2.2.2.2.2.2.2.2.2.1 none,.row 257 .Ai Ab z_.2.2.2.2.2.2.2.2.2.2]
def Ah4(a:Int)(b:AH0)(c d:Int):=Sum.elim (λ(e:(AHY×AH0×(List (AHZ×(AHZ×Unit)))×AH6×AHX×(List (AHG×Int))×AHT×AHT×AHT×(List (Int×AHM))×AHX))=>(Ex.ret,sT 67 [(0,.ptr 0 a [] 0),(2,.ptr 5 0 [] 0),(3,.ptr 6 0 [] 0),(4,.ptr 7 c [] 0)] [.box (.pr (dD AId e.1) (.pr (dD AIi e.2.1) (.pr (.Ak 1) (.pr (.pr (.Ak 2) .u) (.pr (.Ak 3) (.pr (.mp 4) .u)))))),.row 145 .Ai (.Au AIe (.Au AIe .unit)) e.2.2.1,.row 72 .Ai AIf e.2.2.2.1,.row 157 .Ai Ab e.2.2.2.2.1,.map .Ai Aa AIa e.2.2.2.2.2.1 none,.box (.pr (.pr (.Ak 2) .u) (.pr .zs (.pr (.Ak 8) .u))),.box (.pr (.pr (.Ak 2) .u) (.pr .zs (.pr (.Ak 8) .u))),.box (.pr (.Ak 9) (.pr (.Ak 10) (.pr (.mp 11) (.pr (.Ak 12) .u)))),.row 2 .Ai AIa e.2.2.2.2.2.2.1,.row 2 .Ai AIa e.2.2.2.2.2.2.2.1,.row 2 .Ai AIa e.2.2.2.2.2.2.2.2.1,.map (.sh []) AIa Ah e.2.2.2.2.2.2.2.2.2.1 none,.row 257 .Ai Ab e.2.2.2.2.2.2.2.2.2.2])) (λ(g:(AHY×AH0×(List (AHZ×(AHZ×Unit)))×AH6×AHX×(List (AHG×Int))×AHT×AHT×(List (Int×AHM))×AHX))=>(Ex.exit 0,sT 67 [(0,.ptr 0 a [] 0),(2,.ptr 5 0 [] 0),(3,.ptr 6 0 [] 0),(4,.ptr 7 c [] 0)] [.box (.pr (dD AId g.1) (.pr (dD AIi g.2.1) (.pr (.Ak 1) (.pr (.pr (.Ak 2) .u) (.pr (.Ak 3) (.pr (.mp 4) .u)))))),.row 145 .Ai (.Au AIe (.Au AIe .unit)) g.2.2.1,.row 72 .Ai AIf g.2.2.2.1,.row 157 .Ai Ab g.2.2.2.2.1,.map .Ai Aa AIa g.2.2.2.2.2.1 none,.box (.pr (.pr .zs .u) (.pr .zs (.pr .zs .u))),.box (.pr (.pr (.Ak 2) .u) (.pr .zs (.pr .zs .u))),.box (.pr (.Ak 8) (.pr (.Ak 9) (.pr (.mp 10) (.pr (.Ak 11) .u)))),.row 2 .Ai AIa g.2.2.2.2.2.2.1,.row 2 .Ai AIa g.2.2.2.2.2.2.2.1,.map (.sh []) AIa Ah g.2.2.2.2.2.2.2.2.1 none,.row 257 .Ai Ab g.2.2.2.2.2.2.2.2.2]))
def Ajk(a c:Int) b d i j k l n o (q:(List (AHG×Int))) s t (u:(List (Int×AHM))) v:=sT 67 [(0,.ptr 0 a [] 0),(2,.ptr 5 0 [] 0),(3,.ptr 6 0 [] 0),(4,.ptr 7 c [] 0),(25,dD AIi b),(26,dI d),(27,dI i)] [.box (.pr (dD AId j) (.pr (dD AIi k) (.pr (.Ak 1) (.pr (.pr (.Ak 2) .u) (.pr (.Ak 3) (.pr (.mp 4) .u)))))),.row 145 .Ai (.Au AIe (.Au AIe .unit)) l,.row 72 .Ai AIf n,.row 157 .Ai Ab o,.map .Ai Aa AIa q none,.box (.pr (.pr .zs .u) (.pr .zs (.pr .zs .u))),.box (.pr (.pr (.Ak 2) .u) (.pr .zs (.pr .zs .u))),.box (.pr (.Ak 8) (.pr (.Ak 9) (.pr (.mp 10) (.pr (.Ak 11) .u)))),.row 2 .Ai AIa s,.row 2 .Ai AIa t,.map (.sh []) AIa Ah u none,.row 257 .Ai Ab v]
def Ah3(a c:Int) b d i (j:AHY) (k:AH0) (l:(List (AHZ×(AHZ×Unit)))) (n:AH6) (o:AHX) (q:(List (AHG×Int))) (s:AHT) (t:AHT) (u:(List (Int×AHM))) (v:AHX):=Sum.elim (λ(w:(AHY×AH0×(List (AHZ×(AHZ×Unit)))×AH6×AHX×(List (AHG×Int))×AHT×AHT×(List (Int×AHM))×AHX))=>(Ex.normal,sT 67 [(0,.ptr 0 a [] 0),(2,.ptr 5 0 [] 0),(3,.ptr 6 0 [] 0),(4,.ptr 7 c [] 0),(25,dD AIi b),(26,dI d),(27,dI i)] [.box (.pr (dD AId w.1) (.pr (dD AIi w.2.1) (.pr (.Ak 1) (.pr (.pr (.Ak 2) .u) (.pr (.Ak 3) (.pr (.mp 4) .u)))))),.row 145 .Ai (.Au AIe (.Au AIe .unit)) w.2.2.1,.row 72 .Ai AIf w.2.2.2.1,.row 157 .Ai Ab w.2.2.2.2.1,.map .Ai Aa AIa w.2.2.2.2.2.1 none,.box (.pr (.pr .zs .u) (.pr .zs (.pr .zs .u))),.box (.pr (.pr (.Ak 2) .u) (.pr .zs (.pr .zs .u))),.box (.pr (.Ak 8) (.pr (.Ak 9) (.pr (.mp 10) (.pr (.Ak 11) .u)))),.row 2 .Ai AIa w.2.2.2.2.2.2.1,.row 2 .Ai AIa w.2.2.2.2.2.2.2.1,.map (.sh []) AIa Ah w.2.2.2.2.2.2.2.2.1 none,.row 257 .Ai Ab w.2.2.2.2.2.2.2.2.2])) (λ(x:(AHY×AH0×(List (AHZ×(AHZ×Unit)))×AH6×AHX×(List (AHG×Int))×AHT×AHT×AHT×(List (Int×AHM))×AHX))=>(Ex.ret,sT 67 [(0,.ptr 0 a [] 0),(2,.ptr 5 0 [] 0),(3,.ptr 6 0 [] 0),(4,.ptr 7 c [] 0),(25,dD AIi b),(26,dI d),(27,dI i)] [.box (.pr (dD AId x.1) (.pr (dD AIi x.2.1) (.pr (.Ak 1) (.pr (.pr (.Ak 2) .u) (.pr (.Ak 3) (.pr (.mp 4) .u)))))),.row 145 .Ai (.Au AIe (.Au AIe .unit)) x.2.2.1,.row 72 .Ai AIf x.2.2.2.1,.row 157 .Ai Ab x.2.2.2.2.1,.map .Ai Aa AIa x.2.2.2.2.2.1 none,.box (.pr (.pr (.Ak 2) .u) (.pr .zs (.pr (.Ak 8) .u))),.box (.pr (.pr (.Ak 2) .u) (.pr .zs (.pr (.Ak 8) .u))),.box (.pr (.Ak 9) (.pr (.Ak 10) (.pr (.mp 11) (.pr (.Ak 12) .u)))),.row 2 .Ai AIa x.2.2.2.2.2.2.1,.row 2 .Ai AIa x.2.2.2.2.2.2.2.1,.row 2 .Ai AIa x.2.2.2.2.2.2.2.2.1,.map (.sh []) AIa Ah x.2.2.2.2.2.2.2.2.2.1 none,.row 257 .Ai Ab x.2.2.2.2.2.2.2.2.2.2]))
def Ajj(a c:Int) b d i y a1 b1 c1 d1 e1 g1 (i1:(List (AHG×Int))) j1 (z_:Int×AHT×AHT×(List (Int×AHM))×AHX):=sT 67 [(0,.ptr 0 a [] 0),(2,.ptr 5 0 [] 0),(3,.ptr 6 0 [] 0),(4,.ptr 7 c [] 0),(6,.ptr 8 0 [] 0),(25,dD AIi b),(26,dI d),(27,dI i),(37,dD (.sl Aq) y),(38,dI a1),(39,dI z_.1)] [.box (.pr (dD AId b1) (.pr (dD AIi c1) (.pr (.Ak 1) (.pr (.pr (.Ak 2) .u) (.pr (.Ak 3) (.pr (.mp 4) .u)))))),.row 145 .Ai (.Au AIe (.Au AIe .unit)) d1,.row 72 .Ai AIf e1,.row 157 .Ai Ab g1,.map .Ai Aa AIa i1 none,.box (.pr (.pr .zs .u) (.pr .zs (.pr .zs .u))),.box (.pr (.pr (.Ak 2) .u) (.pr .zs (.pr .zs .u))),.box (.pr (.Ak 9) (.pr (.Ak 10) (.pr (.mp 11) (.pr (.Ak 12) .u)))),.box (dD Af j1),.row 2 .Ai AIa z_.2.1,.row 2 .Ai AIa z_.2.2.1,.map (.sh []) AIa Ah z_.2.2.2.1 none,.row 257 .Ai Ab z_.2.2.2.2]
def Ah2(a c:Int) b d i (y:AH5) (a1:Int) b1 c1 d1 e1 g1 (i1:(List (AHG×Int))) (j1:AHK):=Sum.elim (λ(k1:(AHT×AHT×AHT×(List (Int×AHM))×AHX))=>(Ex.ret,sT 67 [(0,.ptr 0 a [] 0),(2,.ptr 5 0 [] 0),(3,.ptr 6 0 [] 0),(4,.ptr 7 c [] 0),(25,dD AIi b),(26,dI d),(27,dI i)] [.box (.pr (dD AId b1) (.pr (dD AIi c1) (.pr (.Ak 1) (.pr (.pr (.Ak 2) .u) (.pr (.Ak 3) (.pr (.mp 4) .u)))))),.row 145 .Ai (.Au AIe (.Au AIe .unit)) d1,.row 72 .Ai AIf e1,.row 157 .Ai Ab g1,.map .Ai Aa AIa i1 none,.box (.pr (.pr (.Ak 2) .u) (.pr .zs (.pr (.Ak 8) .u))),.box (.pr (.pr (.Ak 2) .u) (.pr .zs (.pr (.Ak 8) .u))),.box (.pr (.Ak 9) (.pr (.Ak 10) (.pr (.mp 11) (.pr (.Ak 12) .u)))),.row 2 .Ai AIa k1.1,.row 2 .Ai AIa k1.2.1,.row 2 .Ai AIa k1.2.2.1,.map (.sh []) AIa Ah k1.2.2.2.1 none,.row 257 .Ai Ab k1.2.2.2.2])) (λ(l1:(AHT×AHT×(List (Int×AHM))×AHX))=>(Ex.exit 2,sT 67 [(0,.ptr 0 a [] 0),(2,.ptr 5 0 [] 0),(3,.ptr 6 0 [] 0),(4,.ptr 7 c [] 0),(25,dD AIi b),(26,dI d),(27,dI i)] [.box (.pr (dD AId b1) (.pr (dD AIi c1) (.pr (.Ak 1) (.pr (.pr (.Ak 2) .u) (.pr (.Ak 3) (.pr (.mp 4) .u)))))),.row 145 .Ai (.Au AIe (.Au AIe .unit)) d1,.row 72 .Ai AIf e1,.row 157 .Ai Ab g1,.map .Ai Aa AIa i1 none,.box (.pr (.pr .zs .u) (.pr .zs (.pr .zs .u))),.box (.pr (.pr (.Ak 2) .u) (.pr .zs (.pr .zs .u))),.box (.pr (.Ak 8) (.pr (.Ak 9) (.pr (.mp 10) (.pr (.Ak 11) .u)))),.row 2 .Ai AIa l1.1,.row 2 .Ai AIa l1.2.1,.map (.sh []) AIa Ah l1.2.2.1 none,.row 257 .Ai Ab l1.2.2.2]))
def C6(a c:Int)(b:AH0)(d i:Int)(y:AH5)(a1:Int)(b1:AHY)(c1:AH0)(d1:List (AHZ×(AHZ×Unit)))(e1:AH6)(g1:AHX)(i1:List (AHG×Int))(j1:AHK)(n1:Int)(o1 q1:AHT)(s1:List (Int×AHM))(t1:AHX):Option ((Int×AHT×AHT×(List (Int×AHM))×AHX)⊕((AHT×AHT×AHT×(List (Int×AHM))×AHX)⊕(AHT×AHT×(List (Int×AHM))×AHX))):=
 bif decide (n1<a1)then
 if 0<=n1/\n1<y.length then
 (Gb c (y.getD n1.toNat Aq.zero) j1.1 o1 q1 s1 t1).bind λu1=>bif !u1.1 then
 some (.inr (.inl (u1.2.2.1,u1.2.2.2.1,u1.2.2.2.2.1,u1.2.1,u1.2.2.2.2.2)))
 else
 some (.inl (wI (n1+1),u1.2.2.2.1,u1.2.2.2.2.1,u1.2.1,u1.2.2.2.2.2))
 else none
 else
 some (.inr (.inr (o1,q1,s1,t1)))
def Cm a c b d i y a1 b1 c1 d1 e1 g1 i1 j1 (z_:Int×AHT×AHT×(List (Int×AHM))×AHX):=C6 a c b d i y a1 b1 c1 d1 e1 g1 i1 j1 z_.1 z_.2.1 z_.2.2.1 z_.2.2.2.1 z_.2.2.2.2
def CS a c b d i y a1 b1 c1 d1 e1 g1 i1 j1 n1 o1 q1 s1 t1:=fix (Cm a c b d i y a1 b1 c1 d1 e1 g1 i1 j1) (n1,o1,q1,s1,t1)
theorem AkN a c b d i y a1 b1 c1 d1 e1 g1 i1 j1:A5 l5 5 8 (sb (cd f101 244) 14) 46 (Ajj a c b d i y a1 b1 c1 d1 e1 g1 i1 j1) (Cm a c b d i y a1 b1 c1 d1 e1 g1 i1 j1) (Ah2 a c b d i y a1 b1 c1 d1 e1 g1 i1 j1):=by
 intro _;simp only[Cm,C6,AHE];kernel_rfl
def CU(a c:Int)(b:AH0)(d i:Int)(j:AHY)(k:AH0)(l:List (AHZ×(AHZ×Unit)))(n:AH6)(o:AHX)(q:List (AHG×Int))(s t:AHT)(u:List (Int×AHM))(v:AHX):Option ((AHY×AH0×(List (AHZ×(AHZ×Unit)))×AH6×AHX×(List (AHG×Int))×AHT×AHT×(List (Int×AHM))×AHX)⊕(AHY×AH0×(List (AHZ×(AHZ×Unit)))×AH6×AHX×(List (AHG×Int))×AHT×AHT×AHT×(List (Int×AHM))×AHX)):=
 if 0<=i/\i<b.length then
 bif !(b.getD i.toNat Af.zero).2.1 then
 some (.inl (j,k,l,n,o,q,s,t,u,v))
 else
 (EP a i j k l n o q).bind λv1=>(CS a c b d i v1.1 (v1.1.length:Int) v1.2.1 v1.2.2.1 v1.2.2.2.1 v1.2.2.2.2.1 v1.2.2.2.2.2.1 v1.2.2.2.2.2.2 (b.getD i.toNat Af.zero) 0 s t u v).bind (Sum.elim (λk1=>some (.inr (v1.2.1,v1.2.2.1,v1.2.2.2.1,v1.2.2.2.2.1,v1.2.2.2.2.2.1,v1.2.2.2.2.2.2,k1.1,k1.2.1,k1.2.2.1,k1.2.2.2.1,k1.2.2.2.2))) (λl1=>some (.inl (v1.2.1,v1.2.2.1,v1.2.2.2.1,v1.2.2.2.2.1,v1.2.2.2.2.2.1,v1.2.2.2.2.2.2,l1.1,l1.2.1,l1.2.2.1,l1.2.2.2))))
 else none
theorem AkO a c b d i j k l n o q s t u v:AZ l5 5 15 (cd f101 244) 14 (Ajk a c b d i j k l n o q s t u v) (CU a c b d i j k l n o q s t u v) (Ah3 a c b d i j k l n o q s t u v):=by
 unfold AZ;simp only[CU,AHE];simp(disch:=refine id ?_;kernel_rfl) only[CS,AF (AkN _ _ _ _ _ _ _ _ _ _ _ _ _ _) (K:=Te l5 5 15)];kernel_rfl
def Cp(a:Int)(b:AH0)(c d i:Int)(j:AHY)(k:AH0)(l:List (AHZ×(AHZ×Unit)))(n:AH6)(o:AHX)(q:List (AHG×Int))(s t:AHT)(u:List (Int×AHM))(v:AHX):Option ((Int×AHY×AH0×(List (AHZ×(AHZ×Unit)))×AH6×AHX×(List (AHG×Int))×AHT×AHT×(List (Int×AHM))×AHX)⊕((AHY×AH0×(List (AHZ×(AHZ×Unit)))×AH6×AHX×(List (AHG×Int))×AHT×AHT×AHT×(List (Int×AHM))×AHX)⊕(AHY×AH0×(List (AHZ×(AHZ×Unit)))×AH6×AHX×(List (AHG×Int))×AHT×AHT×(List (Int×AHM))×AHX))):=
 bif decide (i<d)then
 (CU a c b d i j k l n o q s t u v).bind (Sum.elim (λw=>some (.inl (wI (i+1),w.1,w.2.1,w.2.2.1,w.2.2.2.1,w.2.2.2.2.1,w.2.2.2.2.2.1,w.2.2.2.2.2.2.1,w.2.2.2.2.2.2.2.1,w.2.2.2.2.2.2.2.2.1,w.2.2.2.2.2.2.2.2.2))) (λx=>some (.inr (.inl (x.1,x.2.1,x.2.2.1,x.2.2.2.1,x.2.2.2.2.1,x.2.2.2.2.2.1,x.2.2.2.2.2.2.1,x.2.2.2.2.2.2.2.1,x.2.2.2.2.2.2.2.2.1,x.2.2.2.2.2.2.2.2.2.1,x.2.2.2.2.2.2.2.2.2.2)))))
 else
 some (.inr (.inr (j,k,l,n,o,q,s,t,u,v)))
def BV a b c d (z_:Int×AHY×AH0×(List (AHZ×(AHZ×Unit)))×AH6×AHX×(List (AHG×Int))×AHT×AHT×(List (Int×AHM))×AHX):=Cp a b c d z_.1 z_.2.1 z_.2.2.1 z_.2.2.2.1 z_.2.2.2.2.1 z_.2.2.2.2.2.1 z_.2.2.2.2.2.2.1 z_.2.2.2.2.2.2.2.1 z_.2.2.2.2.2.2.2.2.1 z_.2.2.2.2.2.2.2.2.2.1 z_.2.2.2.2.2.2.2.2.2.2
def Ci a b c d i j k l n o q s t u v:=fix (BV a b c d) (i,j,k,l,n,o,q,s,t,u,v)
theorem AkP a b c d:A5 l5 5 4 (code f101) 122 (Ajl a b c d) (BV a b c d) (Ah4 a b c d):=by
 intro _;simp only[BV,Cp,AHE];simp(disch:=refine id ?_;kernel_rfl) only[Bg (AkO ..) (K:=Ld l5 5 4)];kernel_rfl
def Ea(a:Int)(w1:AHY)(b:AH0)(x1:List (AHZ×(AHZ×Unit)))(y1:AH6)(a2:AHX)(b2:List (AHG×Int)):Option (AHY×AH0×(List (AHZ×(AHZ×Unit)))×AH6×AHX×(List (AHG×Int))×AH4×AHT):=
 (IK (a2.length:Int)).bind λc2=>(Ci a b c2.1 (b.length:Int) 0 w1 b x1 y1 a2 b2 c2.2.1 c2.2.2.1 c2.2.2.2 ([]:AHX)).bind (Sum.elim (λe=>some (e.1,e.2.1,e.2.2.1,e.2.2.2.1,e.2.2.2.2.1,e.2.2.2.2.2.1,([]:AH4),e.2.2.2.2.2.2.1)) (λg=>(Dz c2.1 (g.2.2.2.2.1.length:Int) g.2.2.2.2.2.2.1 g.2.2.2.2.2.2.2.1 g.2.2.2.2.2.2.2.2.1 g.2.2.2.2.2.2.2.2.2).bind λd2=>some (g.1,g.2.1,g.2.2.1,g.2.2.2.1,g.2.2.2.2.1,g.2.2.2.2.2.1,d2.2.2.2.2,([]:AHT))))
theorem Azd R a w1 b x1 y1 a2 b2 K:AW l5 f101 R [.ptr 0 a [] 0] [.box (.pr (dD AId w1) (.pr (dD AIi b) (.pr (.Ak 1) (.pr (.pr (.Ak 2) .u) (.pr (.Ak 3) (.pr (.mp 4) .u)))))),.row 145 .Ai (.Au AIe (.Au AIe .unit)) x1,.row 72 .Ai AIf y1,.row 157 .Ai Ab a2,.map .Ai Aa AIa b2 none] K=(Ea a w1 b x1 y1 a2 b2).bind λr=>K (.pr (.pr (.Ak 2) .u) (.pr (.Ak 5) (.pr (.Ak 6) .u))) [.box (.pr (dD AId r.1) (.pr (dD AIi r.2.1) (.pr (.Ak 1) (.pr (.pr (.Ak 2) .u) (.pr (.Ak 3) (.pr (.mp 4) .u)))))),.row 145 .Ai (.Au AIe (.Au AIe .unit)) r.2.2.1,.row 72 .Ai AIf r.2.2.2.1,.row 157 .Ai Ab r.2.2.2.2.1,.map .Ai Aa AIa r.2.2.2.2.2.1 none,.row 155 .Ai Ao r.2.2.2.2.2.2.1,.row 2 .Ai AIa r.2.2.2.2.2.2.2]:=by
 simp only[Ea,AHF];simp(disch:=refine id ?_;kernel_rfl) only[Ci,AF (AkP _ _ _ _) (K:=A4 l5 f101 5 R K)];kernel_rfl
def AuH:=Cx [.Vu] [⟨[.ptr 0 [] 0],[.box (.pr (.AA [] AId) (.pr (.AA [] AIi) (.pr (.k (.Ak 1)) (.pr (.pr (.k (.Ak 2)) (.k .u)) (.pr (.k (.Ak 3)) (.pr (.k (.mp 4)) (.k .u))))))),.row 145 .Ai (.Au AIe (.Au AIe .unit)),.row 72 .Ai AIf,.row 157 .Ai Ab,.map .Ai Aa AIa],AHY×AH0×(List (AHZ×(AHZ×Unit)))×AH6×AHX×(List (AHG×Int))×AH4×AHT,λp=>Ea p.1.1 p.2.1.1 p.2.1.2.1 p.2.2.1 p.2.2.2.1 p.2.2.2.2.1 p.2.2.2.2.2.1,λr=>(.pr (.pr (.Ak 2) .u) (.pr (.Ak 5) (.pr (.Ak 6) .u)),[.box (.pr (dD AId r.1) (.pr (dD AIi r.2.1) (.pr (.Ak 1) (.pr (.pr (.Ak 2) .u) (.pr (.Ak 3) (.pr (.mp 4) .u)))))),.row 145 .Ai (.Au AIe (.Au AIe .unit)) r.2.2.1,.row 72 .Ai AIf r.2.2.2.1,.row 157 .Ai Ab r.2.2.2.2.1,.map .Ai Aa AIa r.2.2.2.2.2.1 none,.row 155 .Ai Ao r.2.2.2.2.2.2.1,.row 2 .Ai AIa r.2.2.2.2.2.2.2])⟩]
theorem zd:As prog 101 AuH:=Aw ⟨⟨l5,pk ⟨zM,zN,zO,zP,trivial⟩,λ_ _ _=>Azd ..⟩,trivial⟩
abbrev AnG:Bd:=⟨A7,Az [(81,c81),(83,c83),(85,c85),(86,c86)],{Ai:=true}⟩
def AuG:=wi [.Vu,.Vu,.Vu] AnG f100
theorem zc:As prog 100 AuG:=bp (pk ⟨AeT,jJ,AeV,AeW,trivial⟩)
abbrev AnF:Bd:=⟨A7,Az [(58,c58),(100,AuG),(101,AuH),(164,Au6),(165,Au7)],{Ai:=true,fA:=[(18,AIi),(20,Aj)]}⟩
def c95:=wi [.Vu,.Vu] AnF f95
theorem AeY:As prog 95 c95:=bp (pk ⟨AeO,zc,zd,zE,zF,trivial⟩)
abbrev u9:Bd:=⟨A7,Az [(95,c95)],{Ai:=true,A9:=[(6,{Ap:=[5,8,21,22,23]})],BQ:=[(6,{Ap:=[8]})],BP:=[(10,{Ap:=[5,8,21,22,23]})],D2:=[(10,[5,8,21,22,23])]}⟩
def Ajn a b c d e g i (j:(List (AHG×Int))) (z_:Int×Int):=sT 45 [(5,.ptr 0 0 [] 0),(8,dI z_.1),(21,.Ak 1),(22,dI a),(23,dI z_.2)] [.box (.pr (dD AId b) (.pr (dD AIi c) (.pr (.Ak 2) (.pr (.pr (.Ak 3) .u) (.pr (.Ak 4) (.pr (.mp 5) .u)))))),.row 155 .Ai Ao d,.row 145 .Ai (.Au AIe (.Au AIe .unit)) e,.row 72 .Ai AIf g,.row 157 .Ai Ab i,.map .Ai Aa AIa j none]
def Ah6(a:Int)(b:AHY)(c:AH0)(d:AH4)(e:List (AHZ×(AHZ×Unit)))(g:AH6)(i:AHX)(j:List (AHG×Int)):=λ(k:Int)=>(Ex.exit 0,sT 45 [(8,dI k)] [])
def Ajm l a n b c d e g i (j:(List (AHG×Int))):=sT 45 [(5,.ptr 0 0 [] 0),(8,dI l),(21,.Ak 1),(22,dI a),(23,dI n)] [.box (.pr (dD AId b) (.pr (dD AIi c) (.pr (.Ak 2) (.pr (.pr (.Ak 3) .u) (.pr (.Ak 4) (.pr (.mp 5) .u)))))),.row 155 .Ai Ao d,.row 145 .Ai (.Au AIe (.Au AIe .unit)) e,.row 72 .Ai AIf g,.row 157 .Ai Ab i,.map .Ai Aa AIa j none]
def Ah5(l:Int) a n b c d e g i (j:(List (AHG×Int))):=λ(o:Int)=>(Ex.normal,sT 45 [(5,.ptr 0 0 [] 0),(8,dI o),(21,.Ak 1),(22,dI a),(23,dI n)] [.box (.pr (dD AId b) (.pr (dD AIi c) (.pr (.Ak 2) (.pr (.pr (.Ak 3) .u) (.pr (.Ak 4) (.pr (.mp 5) .u)))))),.row 155 .Ai Ao d,.row 145 .Ai (.Au AIe (.Au AIe .unit)) e,.row 72 .Ai AIf g,.row 157 .Ai Ab i,.map .Ai Aa AIa j none])
def ID(l a n:Int)(b:AHY)(c:AH0)(d:AH4)(e:List (AHZ×(AHZ×Unit)))(g:AH6)(i:AHX)(j:List (AHG×Int)):Option Int:=
 if 0<=n/\n<d.length then
 bif !(d.getD n.toNat Ao.zero).2.1 then
 if(0:Int)<=(0:Int)/\(0:Int)<((d.getD n.toNat Ao.zero).1.length:Int)then
 if(0:Int)<=((d.getD n.toNat Ao.zero).1.getD 0 AIa.zero)/\((d.getD n.toNat Ao.zero).1.getD 0 AIa.zero)<(i.length:Int)then
 some (wI (l+(i.getD ((d.getD n.toNat Ao.zero).1.getD 0 AIa.zero).toNat Ab.zero).2.2.1))
 else none
 else none
 else
 some l
 else none
theorem AkQ l a n b c d e g i j:AZ u9 0 10 (cd f35 500) 14 (Ajm l a n b c d e g i j) (ID l a n b c d e g i j) (Ah5 l a n b c d e g i j):=by
 unfold AZ;simp only[ID,AHE];kernel_rfl
def Jg(a:Int)(b:AHY)(c:AH0)(d:AH4)(e:List (AHZ×(AHZ×Unit)))(g:AH6)(i:AHX)(j:List (AHG×Int))(l n:Int):Option ((Int×Int)⊕Int):=
 bif decide (n<a)then
 (ID l a n b c d e g i j).bind λo=>some (.inl (o,wI (n+1)))
 else
 some (.inr l)
def Gx a b c d e g i j (z_:Int×Int):=Jg a b c d e g i j z_.1 z_.2
def IE a b c d e g i j l n:=fix (Gx a b c d e g i j) (l,n)
theorem AkR a b c d e g i j:A5 u9 0 6 (code f35) 250 (Ajn a b c d e g i j) (Gx a b c d e g i j) (Ah6 a b c d e g i j):=by
 intro _;simp only[Gx,Jg,AHE];simp(disch:=refine id ?_;kernel_rfl) only[Bg (AkQ ..) (K:=Ld u9 0 6)];kernel_rfl
def Ke(q:AHY)(s:AH0):Option Int:=
 (Hs q s).bind λt=>bif !t then
 some (-1)
 else
 (Ha s).bind λu=>(OE q).bind λv=>(Gw q u (v,())).bind λw=>bif !w.1 then
 some (-1)
 else
 (Ln q u).bind λx=>(Ki q (w.2,())).bind λy=>(Kh y).bind λa1=>(Ea 0 q u x.2 w.2 y a1).bind λb1=>bif decide ((b1.2.2.2.2.2.2.2.length:Int)>0)then
 some (-1)
 else
 (IE (b1.2.2.2.2.2.2.1.length:Int) b1.1 b1.2.1 b1.2.2.2.2.2.2.1 b1.2.2.1 b1.2.2.2.1 b1.2.2.2.2.1 b1.2.2.2.2.2.1 0 0).bind λk=>some k
theorem Aze R q s K:AW u9 f35 R [dD AId q,dD AIi s] [] K=(Ke q s).bind λr=>K (dI r) []:=by
 simp only[Ke,AHF];simp(disch:=refine id ?_;kernel_rfl) only[IE,AF (AkR _ _ _ _ _ _ _ _) (K:=A4 u9 f35 0 R K)];kernel_rfl
def c35:=Cx [.d AId,.d AIi] [⟨[.AA [] AId,.AA [] AIi],[],Int,λp=>Ke p.1.1 p.1.2.1,λr=>(dI r,[])⟩]
theorem AeG:As prog 35 c35:=Aw ⟨⟨u9,pk ⟨AeY,trivial⟩,λ_ _ _=>Aze ..⟩,trivial⟩
abbrev Aha:Bd:=⟨A7,Az [],{Ai:=true}⟩
def Lr(a b:AHI):Bool:=((!(!(Ia a.1 b.1)))&&((!(a.2.1 !=b.2.1))&&true))
theorem Azf R a b K:AW Aha f64 R [dD Ad a,dD Ad b] [] K=K (dB (Lr a b)) []:=by
 have h:AW Aha f64 R [dD Ad a,dD Ad b] [] K =
 bif !(Ia a.1 b.1)then
 K (dB false) []
 else
 bif a.2.1 !=b.2.1 then
 K (dB false) []
 else
 K (dB true) []:=by kernel_rfl
 rw[h];unfold Lr;cases (!(Ia a.1 b.1))
 ·cases (a.2.1 !=b.2.1)
  ·rfl
  ·rfl
 ·rfl
def c64:=Cx [.d Ad,.d Ad] [⟨[.AA [] Ad,.AA [] Ad],[],Bool,λp=>some (Lr p.1.1 p.1.2.1),λr=>(dB r,[])⟩]
theorem AeP:As prog 64 c64:=Aw ⟨⟨Aha,pk trivial,λ_ _ _=>Azf ..⟩,trivial⟩
abbrev Ad4:Bd:=⟨A7,Az [(64,c64)],{Ai:=true,A9:=[(4,{Ap:=[0,1,5]})],BQ:=[(4,{Ap:=[4]})]}⟩
def Ajo a b (z_:Int):=sT 27 [(0,dD AId a),(1,dD AId b),(5,dI z_)] []
def Ah7(a b:AHY):=Sum.elim (λ(c:Unit)=>(Ex.ret,sT 27 [(4,dB false)] [])) (λ(d:Unit)=>(Ex.exit 0,sT 27 [] []))
def Tn(a b:AHY)(e:Int):Option (Int⊕(Unit⊕Unit)):=
 bif decide (e<(a.length:Int))then
 if 0<=e/\e<a.length then
 if 0<=e/\e<b.length then
 bif !(Lr (a.getD e.toNat Ad.zero) (b.getD e.toNat Ad.zero))then
 some (.inr (.inl ()))
 else
 some (.inl (wI (e+1)))
 else none
 else none
 else
 some (.inr (.inr ()))
def KL a b (z_:Int):=Tn a b z_
def Vn a b e:=fix (KL a b) e
theorem AkS a b:A5 Ad4 0 4 (code f15) 58 (Ajo a b) (KL a b) (Ah7 a b):=by
 intro _;simp only[KL,Tn,AHE];kernel_rfl
def Ph(a b:AHY):Option Bool:=
 bif (a.length:Int) !=(b.length:Int)then
 some false
 else
 (Vn a b 0).bind (Sum.elim (λc=>some false) (λd=>some true))
theorem Azg R a b K:AW Ad4 f15 R [dD AId a,dD AId b] [] K=(Ph a b).bind λr=>K (dB r) []:=by
 simp only[Ph,AHF];simp(disch:=refine id ?_;kernel_rfl) only[Vn,AF (AkS _ _) (K:=A4 Ad4 f15 0 R K)];kernel_rfl
def c15:=Cx [.d AId,.d AId] [⟨[.AA [] AId,.AA [] AId],[],Bool,λp=>Ph p.1.1 p.1.2.1,λr=>(dB r,[])⟩]
theorem Aew:As prog 15 c15:=Aw ⟨⟨Ad4,pk ⟨AeP,trivial⟩,λ_ _ _=>Azg ..⟩,trivial⟩
abbrev Ad5:Bd:=⟨A7,Az [],{Ai:=true,A9:=[(4,{Ap:=[0,1,5]})],BQ:=[(4,{Ap:=[4]})]}⟩
def Ajp a b (z_:Int):=sT 26 [(0,dD AIk a),(1,dD AIk b),(5,dI z_)] []
def Ah8(a b:AHT):=Sum.elim (λ(c:Unit)=>(Ex.ret,sT 26 [(4,dB false)] [])) (λ(d:Unit)=>(Ex.exit 0,sT 26 [] []))
def RP(a b:AHT)(e:Int):Option (Int⊕(Unit⊕Unit)):=
 bif decide (e<(a.length:Int))then
 if 0<=e/\e<a.length then
 if 0<=e/\e<b.length then
 bif (a.getD e.toNat AIb.zero) !=(b.getD e.toNat AIb.zero)then
 some (.inr (.inl ()))
 else
 some (.inl (wI (e+1)))
 else none
 else none
 else
 some (.inr (.inr ()))
def Iq a b (z_:Int):=RP a b z_
def Tp a b e:=fix (Iq a b) e
theorem AkT a b:A5 Ad5 0 4 (code f117) 58 (Ajp a b) (Iq a b) (Ah8 a b):=by
 intro _;simp only[Iq,RP,AHE];kernel_rfl
def Lt(a b:AHT):Option Bool:=
 bif (a.length:Int) !=(b.length:Int)then
 some false
 else
 (Tp a b 0).bind (Sum.elim (λc=>some false) (λd=>some true))
theorem Azh R a b K:AW Ad5 f117 R [dD AIk a,dD AIk b] [] K=(Lt a b).bind λr=>K (dB r) []:=by
 simp only[Lt,AHF];simp(disch:=refine id ?_;kernel_rfl) only[Tp,AF (AkT _ _) (K:=A4 Ad5 f117 0 R K)];kernel_rfl
def AuL:=Cx [.d AIk,.d AIk] [⟨[.AA [] AIk,.AA [] AIk],[],Bool,λp=>Lt p.1.1 p.1.2.1,λr=>(dB r,[])⟩]
theorem zh:As prog 117 AuL:=Aw ⟨⟨Ad5,pk trivial,λ_ _ _=>Azh ..⟩,trivial⟩
abbrev Anz:Bd:=⟨A7,Az [(117,AuL)],{Ai:=true}⟩
def OI(a b:AHM):Option Bool:=
 bif a.1 !=b.1 then
 some false
 else
 (Lt a.2.1 b.2.1).bind λc=>bif !c then
 some false
 else
 some true
theorem Azi R a b K:AW Anz f45 R [dD Ah a,dD Ah b] [] K=(OI a b).bind λr=>K (dB r) []:=by
 simp only[OI,AHF];kernel_rfl
def c45:=Cx [.d Ah,.d Ah] [⟨[.AA [] Ah,.AA [] Ah],[],Bool,λp=>OI p.1.1 p.1.2.1,λr=>(dB r,[])⟩]
theorem AeJ:As prog 45 c45:=Aw ⟨⟨Anz,pk ⟨zh,trivial⟩,λ_ _ _=>Azi ..⟩,trivial⟩
abbrev Ad6:Bd:=⟨A7,Az [],{Ai:=true,A9:=[(4,{Ap:=[0,1,5]})],BQ:=[(4,{Ap:=[4]})]}⟩
def Ajq a b (z_:Int):=sT 26 [(0,dD AIf a),(1,dD AIf b),(5,dI z_)] []
def Ah9(a b:AHT):=Sum.elim (λ(c:Unit)=>(Ex.ret,sT 26 [(4,dB false)] [])) (λ(d:Unit)=>(Ex.exit 0,sT 26 [] []))
def Sx(a b:AHT)(e:Int):Option (Int⊕(Unit⊕Unit)):=
 bif decide (e<(a.length:Int))then
 if 0<=e/\e<a.length then
 if 0<=e/\e<b.length then
 bif (a.getD e.toNat AIa.zero) !=(b.getD e.toNat AIa.zero)then
 some (.inr (.inl ()))
 else
 some (.inl (wI (e+1)))
 else none
 else none
 else
 some (.inr (.inr ()))
def Jr a b (z_:Int):=Sx a b z_
def Uj a b e:=fix (Jr a b) e
theorem AkU a b:A5 Ad6 0 4 (code f103) 58 (Ajq a b) (Jr a b) (Ah9 a b):=by
 intro _;simp only[Jr,Sx,AHE];kernel_rfl
def Ng(a b:AHT):Option Bool:=
 bif (a.length:Int) !=(b.length:Int)then
 some false
 else
 (Uj a b 0).bind (Sum.elim (λc=>some false) (λd=>some true))
theorem Azj R a b K:AW Ad6 f103 R [dD AIf a,dD AIf b] [] K=(Ng a b).bind λr=>K (dB r) []:=by
 simp only[Ng,AHF];simp(disch:=refine id ?_;kernel_rfl) only[Uj,AF (AkU _ _) (K:=A4 Ad6 f103 0 R K)];kernel_rfl
def AuI:=Cx [.d AIf,.d AIf] [⟨[.AA [] AIf,.AA [] AIf],[],Bool,λp=>Ng p.1.1 p.1.2.1,λr=>(dB r,[])⟩]
theorem ze:As prog 103 AuI:=Aw ⟨⟨Ad6,pk trivial,λ_ _ _=>Azj ..⟩,trivial⟩
abbrev AnA:Bd:=⟨A7,Az [(45,c45),(103,AuI)],{Ai:=true}⟩
def Js(a b:AHL):Option Bool:=
 bif a.1 !=b.1 then
 some false
 else
 bif a.2.1 !=b.2.1 then
 some false
 else
 bif a.2.2.1 !=b.2.2.1 then
 some false
 else
 bif a.2.2.2.1 !=b.2.2.2.1 then
 some false
 else
 (OI a.2.2.2.2.1 b.2.2.2.2.1).bind λc=>bif !c then
 some false
 else
 (Ng a.2.2.2.2.2.1 b.2.2.2.2.2.1).bind λd=>bif !d then
 some false
 else
 some true
theorem Azk R a b K:AW AnA f185 R [dD Ag a,dD Ag b] [] K=(Js a b).bind λr=>K (dB r) []:=by
 simp only[Js,AHF];kernel_rfl
def Avm:=Cx [.d Ag,.d Ag] [⟨[.AA [] Ag,.AA [] Ag],[],Bool,λp=>Js p.1.1 p.1.2.1,λr=>(dB r,[])⟩]
theorem zV:As prog 185 Avm:=Aw ⟨⟨AnA,pk ⟨AeJ,ze,trivial⟩,λ_ _ _=>Azk ..⟩,trivial⟩
abbrev Ad7:Bd:=⟨A7,Az [(185,Avm)],{Ai:=true,A9:=[(4,{Ap:=[0,1,5]})],BQ:=[(4,{Ap:=[4]})]}⟩
def Ajr a b (z_:Int):=sT 27 [(0,dD AIl a),(1,dD AIl b),(5,dI z_)] []
def Aia(a b:AH1):=Sum.elim (λ(c:Unit)=>(Ex.ret,sT 27 [(4,dB false)] [])) (λ(d:Unit)=>(Ex.exit 0,sT 27 [] []))
def Sz(a b:AH1)(e:Int):Option (Int⊕(Unit⊕Unit)):=
 bif decide (e<(a.length:Int))then
 if 0<=e/\e<a.length then
 if 0<=e/\e<b.length then
 (Js (a.getD e.toNat Ag.zero) (b.getD e.toNat Ag.zero)).bind λg=>bif !g then
 some (.inr (.inl ()))
 else
 some (.inl (wI (e+1)))
 else none
 else none
 else
 some (.inr (.inr ()))
def Jt a b (z_:Int):=Sz a b z_
def Uk a b e:=fix (Jt a b) e
theorem AkV a b:A5 Ad7 0 4 (code f118) 58 (Ajr a b) (Jt a b) (Aia a b):=by
 intro _;simp only[Jt,Sz,AHE];kernel_rfl
def Nh(a b:AH1):Option Bool:=
 bif (a.length:Int) !=(b.length:Int)then
 some false
 else
 (Uk a b 0).bind (Sum.elim (λc=>some false) (λd=>some true))
theorem Azl R a b K:AW Ad7 f118 R [dD AIl a,dD AIl b] [] K=(Nh a b).bind λr=>K (dB r) []:=by
 simp only[Nh,AHF];simp(disch:=refine id ?_;kernel_rfl) only[Uk,AF (AkV _ _) (K:=A4 Ad7 f118 0 R K)];kernel_rfl
def AuM:=Cx [.d AIl,.d AIl] [⟨[.AA [] AIl,.AA [] AIl],[],Bool,λp=>Nh p.1.1 p.1.2.1,λr=>(dB r,[])⟩]
theorem zi:As prog 118 AuM:=Aw ⟨⟨Ad7,pk ⟨zV,trivial⟩,λ_ _ _=>Azl ..⟩,trivial⟩
abbrev AnB:Bd:=⟨A7,Az [(118,AuM)],{Ai:=true}⟩
def Ls(a b:AHR):Option Bool:=
 (Nh a.1 b.1).bind λc=>bif !c then
 some false
 else
 some true
theorem Azm R a b K:AW AnB f46 R [dD Ar a,dD Ar b] [] K=(Ls a b).bind λr=>K (dB r) []:=by
 simp only[Ls,AHF];kernel_rfl
def c46:=Cx [.d Ar,.d Ar] [⟨[.AA [] Ar,.AA [] Ar],[],Bool,λp=>Ls p.1.1 p.1.2.1,λr=>(dB r,[])⟩]
theorem AeK:As prog 46 c46:=Aw ⟨⟨AnB,pk ⟨zi,trivial⟩,λ_ _ _=>Azm ..⟩,trivial⟩
abbrev AnC:Bd:=⟨A7,Az [(46,c46)],{Ai:=true}⟩
def GA(a b:AHK):Option Bool:=
 bif a.1 !=b.1 then
 some false
 else
 bif !(a.2.1==b.2.1)then
 some false
 else
 (Ls a.2.2.1 b.2.2.1).bind λc=>bif !c then
 some false
 else
 (Ls a.2.2.2.1 b.2.2.2.1).bind λd=>bif !d then
 some false
 else
 some true
theorem Azn R a b K:AW AnC f28 R [dD Af a,dD Af b] [] K=(GA a b).bind λr=>K (dB r) []:=by
 simp only[GA,AHF];kernel_rfl
def c28:=Cx [.d Af,.d Af] [⟨[.AA [] Af,.AA [] Af],[],Bool,λp=>GA p.1.1 p.1.2.1,λr=>(dB r,[])⟩]
theorem AeE:As prog 28 c28:=Aw ⟨⟨AnC,pk ⟨AeK,trivial⟩,λ_ _ _=>Azn ..⟩,trivial⟩
abbrev Ad8:Bd:=⟨A7,Az [(28,c28)],{Ai:=true,A9:=[(4,{Ap:=[0,1,5]})],BQ:=[(4,{Ap:=[4]})]}⟩
def Ajs a b (z_:Int):=sT 27 [(0,dD AIi a),(1,dD AIi b),(5,dI z_)] []
def Aib(a b:AH0):=Sum.elim (λ(c:Unit)=>(Ex.ret,sT 27 [(4,dB false)] [])) (λ(d:Unit)=>(Ex.exit 0,sT 27 [] []))
def Q5(a b:AH0)(e:Int):Option (Int⊕(Unit⊕Unit)):=
 bif decide (e<(a.length:Int))then
 if 0<=e/\e<a.length then
 if 0<=e/\e<b.length then
 (GA (a.getD e.toNat Af.zero) (b.getD e.toNat Af.zero)).bind λg=>bif !g then
 some (.inr (.inl ()))
 else
 some (.inl (wI (e+1)))
 else none
 else none
 else
 some (.inr (.inr ()))
def Hv a b (z_:Int):=Q5 a b z_
def Sy a b e:=fix (Hv a b) e
theorem AkW a b:A5 Ad8 0 4 (code f16) 58 (Ajs a b) (Hv a b) (Aib a b):=by
 intro _;simp only[Hv,Q5,AHE];kernel_rfl
def J7(a b:AH0):Option Bool:=
 bif (a.length:Int) !=(b.length:Int)then
 some false
 else
 (Sy a b 0).bind (Sum.elim (λc=>some false) (λd=>some true))
theorem Azo R a b K:AW Ad8 f16 R [dD AIi a,dD AIi b] [] K=(J7 a b).bind λr=>K (dB r) []:=by
 simp only[J7,AHF];simp(disch:=refine id ?_;kernel_rfl) only[Sy,AF (AkW _ _) (K:=A4 Ad8 f16 0 R K)];kernel_rfl
def c16:=Cx [.d AIi,.d AIi] [⟨[.AA [] AIi,.AA [] AIi],[],Bool,λp=>J7 p.1.1 p.1.2.1,λr=>(dB r,[])⟩]
theorem Aex:As prog 16 c16:=Aw ⟨⟨Ad8,pk ⟨AeE,trivial⟩,λ_ _ _=>Azo ..⟩,trivial⟩
abbrev AnD:Bd:=⟨A7,Az [(8,c8),(9,c9),(11,c11),(12,c12),(15,c15),(16,c16),(34,c34),(35,c35)],{Ai:=true,fA:=[(21,AId),(23,AIi),(37,AId),(42,AIi)]}⟩
def Hu(a:AHY)(b:AH0):Option Bool:=
 (Pj a 1048576).bind λc=>bif decide (c<0)then
 some true
 else
 (J8 b c).bind λd=>bif decide (d<0)then
 some true
 else
 (Hz a).bind λe=>(DY b).bind λg=>(Kn e g).bind λi=>(Hz a).bind λj=>(DY b).bind λk=>(Ke j k).bind λl=>bif l !=i then
 some false
 else
 (Hz a).bind λn=>(Ph j n).bind λo=>bif !o then
 some false
 else
 (DY b).bind λq=>(J7 k q).bind λs=>bif !s then
 some false
 else
 some true
theorem laws_FnExactFreeBits_run R (a:AHY) (b:AH0) K:AW AnD f5 R [dD AId a,dD AIi b] [] K=(Hu a b).bind λr=>K (dB r) []:=by
 simp only[Hu,AHF];kernel_rfl
theorem laws_FnExactFreeBits_ok:Iv prog AnD:=(pk ⟨AlA,AlB,Aet,Aeu,Aew,Aex,AeF,AeG,trivial⟩)
end
end Go.Proofs.X
namespace Go.Va
def Ax{A:Type}(x:Option A)(Q:A->Prop):Prop:=∃a,x=some a/\Q a
section
variable {A B S T:Type} {x y:Option A} {P Q:A->Prop}
theorem Ax.mk{a:A}(h:Q a):Ax (some a) Q:=⟨a,rfl,h⟩
theorem Ax.of{a:A}(h:x=some a)(hq:Q a):Ax x Q:=⟨a,h,hq⟩
theorem Ax.eq_{a:A}(h:Ax x (·=a)):x=some a:=by obtain⟨b,h1,h2⟩:=h;rw[h1,h2]
theorem Ax.mono(h:Ax x P)(hq:∀a,P a->Q a):Ax x Q:=by obtain⟨a,h1,h2⟩:=h;exact⟨a,h1,hq a h2⟩
theorem Ax.bind{R:B->Prop}{f:A->Option B}(h:Ax x P)(k:∀a,P a->Ax (f a) R):Ax (x.bind f) R:=by
 obtain⟨a,h1,h2⟩:=h;rw[h1];exact k a h2
theorem Ax.cond{c:Bool}(h1:c=true->Ax x Q)(h2:c=false->Ax y Q):Ax (bif c then x else y) Q:=by
 cases c
 ·exact h2 rfl
 ·exact h1 rfl
theorem Ax.elim{R:B->Prop}{C D:Type}{f:C->Option B}{g:D->Option B}{z:C⊕D}(h1:∀c,z=.inl c->Ax (f c) R)(h2:∀d,z=.inr d->Ax (g d) R):Ax (Sum.elim f g z) R:=by
 cases z with
 |inl c=>exact h1 c rfl
 |inr d=>exact h2 d rfl
theorem B8{f:S->Option (S⊕T)}(I:Nat->S->Prop){Q:T->Prop}(step:∀n s,I n s->Ax (f s) λr=>match r with |.inl s'=>∃m,m<n/\I m s' |.inr t=>Q t):∀n s,I n s->Ax (fix f s) Q:=by
 intro n;induction n using Nat.strongRecOn with
 |_ n ih =>
  intro s hI;obtain⟨r,h1,h2⟩:=step n s hI;cases r with
  |inl s' =>
   obtain⟨m,hm,hI'⟩:=h2;rw[Li h1];exact ih m hm s' hI'
  |inr t=>exact⟨t,Ix h1,h2⟩
theorem tQ{f:S->Option (S⊕T)}(st:Nat->S){t:T}:∀(n k:Nat),(∀i,k<=i->i<k+n->f (st i)=some (.inl (st (i+1))))->f (st (k+n))=some (.inr t)->fix f (st k)=some t
 |0,k,_,he=>Ix he
 |n+1,k,hs,he=>by
  rw[Li (hs k (AG1 _) (by omega))];exact tQ st n (k+1) (λi h1 h2=>hs i (by omega) (by omega)) (by rw[show k+1+n=k+(n+1) by omega];exact he)
theorem AQ{f:S->Option (S⊕T)}(st:Nat->S){t:T}(n:Nat)(hs:∀i,i<n->f (st i)=some (.inl (st (i+1))))(he:f (st n)=some (.inr t)):fix f (st 0)=some t :=
 tQ st n 0 (λi _ h=>hs i (by omega)) (by rw[AHr];exact he)
end
theorem BM{x:Int}(h1:-9223372036854775808<=x)(h2:x<9223372036854775808):wI x=x:=by
 simp only[wI,IntKind.wrap,IntKind.bits,IntKind.signed];simp;omega
theorem lM{x:Int}(h1:0<=x)(h2:x<18446744073709551616):IntKind.u64.wrap x=x:=by
 simp only[wI,IntKind.wrap,IntKind.bits,IntKind.signed];simp;omega
theorem jd{k n:Nat}(hk:k<n)(hn:n<=maxLen):wI ((k:Int)+1)=((k+1:Nat):Int):=by
 unfold maxLen at hn;rw[BM (by omega) (by omega)];omega
def VA{A:Type}(F:A->A->Option Bool)(a:A):Prop:=∀b,Ax (F a b) λr=>r=true↔a=b
theorem tP{A:Type}{F:A->A->Option Bool}{z:A}{a b:List A}(hl:a.length=b.length)(hn:a.length<=maxLen)(hF:∀x∈a,VA F x){f:Int->Option (Int⊕(Unit⊕Unit))}
    (hs:∀k:Nat,k<a.length->f (k:Int)=(F (a.getD k z) (b.getD k z)).bind λr=>bif !r then some (.inr (.inl ()))else some (.inl (wI ((k:Int)+1)))) (he:f (a.length:Int)=some (.inr (.inr ()))) :
    Ax (fix f 0) λt=>(t=.inr ()/\a=b)\/(t=.inl ()/\a≠b):=by
 refine B8 (λm (i:Int)=>∃k:Nat,i=(k:Int)/\k<=a.length/\m=a.length-k/\a.take k=b.take k) (λm i hI=>?_) (a.length) 0 ⟨0,rfl,Nat.zero_le _,rfl,rfl⟩;obtain⟨k,rfl,hk,rfl,ht⟩:=hI;rcases AG6 k a.length with h |h
 ·rw[hs k h];have ha:a.getD k z=a[k]:=by simp[List.getD,h]
  have hb:b.getD k z=b[k]'(by omega):=by simp[List.getD,show k<b.length by omega]
  refine Ax.bind (hF (a.getD k z) (by rw[ha];exact AHD h) (b.getD k z)) λr hr=>?_;cases r with
  |false =>
   refine Ax.mk (.inr ⟨rfl,λe=>?_⟩);have:a.getD k z=b.getD k z:=by rw[e]
   have:=hr.2 this;cases this
  |true =>
   have e:=hr.1 rfl;refine Ax.mk ⟨a.length-(k+1),by omega,k+1,jd h hn,h,rfl,?_⟩;rw[List.take_succ_eq_append_getElem h,List.take_succ_eq_append_getElem (show k<b.length by omega),ht,<-ha,<-hb,e]
 ·have TV:k=a.length:=by omega
  subst TV;rw[he];refine Ax.mk (.inl ⟨rfl,?_⟩);rw[AG5 (AG1 _),AG5 (by omega)]at ht;exact ht
end Go.Va
namespace Go.Va
theorem DN{k n:Nat}(h:k<n):decide ((k:Int)<(n:Int))=true:=by simp;exact h
theorem EB(n:Nat):decide ((n:Int)<(n:Int))=false:=by simp
theorem Bl{k n:Nat}(h:k<n):(0:Int)<=(k:Int)/\(k:Int)<(n:Int):=⟨by omega,by omega⟩
theorem Zi{A:Type}{F:A->A->Option Bool}{z:A}{G:List A->List A->Option Bool}{r:List A->List A->Int->Option (Int⊕(Unit⊕Unit))}
    (hG:∀a b,G a b=bif (a.length:Int) !=(b.length:Int)then some false else(fix (r a b) 0).bind (Sum.elim (λ_=>some false) λ_=>some true))
    (hr:∀a b i,r a b i=bif decide (i<(a.length:Int))then(if(0:Int)<=i/\i<(a.length:Int)then(if(0:Int)<=i/\i<(b.length:Int)then
     (F (a.getD i.toNat z) (b.getD i.toNat z)).bind λq=>bif !q then some (.inr (.inl ()))else some (.inl (wI (i+1)))else none)else none)else some (.inr (.inr ())))
    {a:List A} (hn:a.length<=maxLen) (hF:∀x∈a,VA F x):VA G a:=by
 intro b;rw[hG];refine Ax.cond (λh=>Ax.mk ⟨λh=>by(cases h),λe=>?_⟩) λh=>?_
 ·subst e;simp at h
 ·have hl:a.length=b.length:=by
    have:(a.length:Int)=(b.length:Int):=by simpa using h
    omega
  refine Ax.bind (tP (z:=z) hl hn hF (λk hk=>?_) ?_) λt ht=>?_
  ·rw[hr,DN hk,AHb,AHd (Bl hk),AHd (Bl (by omega))];rfl
  ·rw[hr,EB,AHa]
  ·rcases ht with ⟨rfl,e⟩|⟨rfl,e⟩
   ·exact Ax.mk ⟨λ_=>e,λ_=>rfl⟩
   ·exact Ax.mk ⟨λh=>by(cases h),λh=>(e h).elim⟩
end Go.Va
namespace Go.Proofs.X
open Go Go.Va
set_option maxRecDepth 100000
theorem Ur(s t:ByteArray):Ia s t=true↔s=t:=by
 unfold Ia;rw[ByteArray.toList_eq,ByteArray.toList_eq,beq_iff_eq];constructor
 ·intro h;cases s with
  |mk a=>cases t with
   |mk b=>simp at h;rw[h]
 ·rintro rfl;rfl
theorem jV{a:AHT}(hn:a.length<=maxLen):VA Lt a :=
 Zi (F:=λx y=>some (x==y)) (z :=AIb.zero) (r:=Iq) (λ_ _=>rfl) (λ_ _ _=>rfl) hn λx _ y=>Ax.mk (by simp)
theorem nC{a:AHT}(hn:a.length<=maxLen):VA Ng a :=
 Zi (F:=λx y=>some (x==y)) (z :=AIa.zero) (r:=Jr) (λ_ _=>rfl) (λ_ _ _=>rfl) hn λx _ y=>Ax.mk (by simp)
theorem vF{a:AHM}(h:Ty.Wf Ah a):VA OI a:=by
 intro b;obtain⟨w,ws,_⟩:=a;obtain⟨w',fh,_⟩:=b;unfold OI;refine Ax.cond (λh1=>Ax.mk (by simp at h1;simp[h1])) λh1=>Ax.bind (jV h.2.1.1 fh) λr hr=>Ax.cond (λh2=>Ax.mk (by simp at h1 h2;simp_all)) λh2=>Ax.mk (by simp at h1 h2;simp_all)
theorem vG(a:AHI):VA (λx y=>some (Lr x y)) a:=by
 intro b;obtain⟨n,w,_⟩:=a;obtain⟨n',w',_⟩:=b;refine Ax.mk ?_;simp[Lr,Ur]
theorem ri{a:AHY}(h:Ty.Wf AId a):VA Ph a :=
 Zi (F:=λx y=>some (Lr x y)) (z :=Ad.zero) (r:=KL) (λ_ _=>rfl) (λ_ _ _=>rfl) h.1 λx hx=>vG x
theorem rj{a:AHL}(h:Ty.Wf Ag a):VA Js a:=by
 intro b;obtain⟨o,v,A,B,x,k,_⟩:=a;obtain⟨o',v',A',B',x',k',_⟩:=b;unfold Js;refine Ax.cond (λh1=>Ax.mk (by simp at h1;simp[h1])) λh1=>Ax.cond (λh2=>Ax.mk (by simp at h1 h2;simp[h2])) λh2=>Ax.cond (λh3=>Ax.mk (by simp at h1 h3;simp[h3])) λh3=>Ax.cond (λh3=>Ax.mk (by simp at h1 h3;simp[h3])) λh5 =>
  Ax.bind (vF h.2.2.2.2.1 x') λr hr=>Ax.cond (λh4=>Ax.mk (by simp at h1 h2 h3 h4;simp_all)) λh4=>Ax.bind (nC h.2.2.2.2.2.1.1 k') λr2 vZ=>Ax.cond (λh6=>Ax.mk (by simp at h1 h2 h3 h4 h6;simp_all)) λh6=>Ax.mk (by simp at h1 h2 h3 h4 h5 h6;simp_all)
theorem nD{a:AH1}(h:Ty.Wf AIl a):VA Nh a :=
 Zi (F:=Js) (z :=Ag.zero) (r:=Jt) (λ_ _=>rfl) (λ_ _ _=>rfl) h.1 λx hx=>rj (h.2 x hx)
theorem gN{a:AHR}(h:Ty.Wf Ar a):VA Ls a:=by
 intro b;obtain⟨n,_⟩:=a;obtain⟨n',_⟩:=b;unfold Ls;refine Ax.bind (nD h.1 n') λr1 Z3=>Ax.cond (λh1=>Ax.mk (by simp at h1;simp_all)) λh1=>Ax.mk (by simp at h1;simp_all)
theorem jU{a:AHK}(h:Ty.Wf Af a):VA GA a:=by
 intro b;obtain⟨i,e,s,t,_⟩:=a;obtain⟨i',e',s',t',_⟩:=b;unfold GA;refine Ax.cond (λh1=>Ax.mk (by simp at h1;simp[h1])) λh1=>Ax.cond (λh2=>Ax.mk (by simp at h1 h2;simp[h2])) λh2 =>
  Ax.bind (gN h.2.2.1 s') λr hr=>Ax.cond (λh4=>Ax.mk (by simp at h1 h2 h4;simp_all)) λh4=>Ax.bind (gN h.2.2.2.1 t') λr2 vZ=>Ax.cond (λh6=>Ax.mk (by simp at h1 h2 h4 h6;simp_all)) λh6=>Ax.mk (by simp at h1 h2 h4 h6;simp_all)
theorem fy{a:AH0}(h:Ty.Wf AIi a):VA J7 a :=
 Zi (F:=GA) (z :=Af.zero) (r:=Hv) (λ_ _=>rfl) (λ_ _ _=>rfl) h.1 λx hx=>jU (h.2 x hx)
end Go.Proofs.X
namespace Go.Va
open Go.Proofs.X
def wt:(t:Ty)->t.V->Nat
 |.str,s=>s.size
 |.Au a b,x=>wt a x.1+wt b x.2
 |.sl t,xs=>xs.length+(xs.map (wt t)).sum
 |.int _,_=>0
 |.bool,_=>0
 |.unit,_=>0
 |.P3 _,_=>0
def aB(t:Ty)(F:t.V->Int->Option Int)(x:t.V):Prop:=∀left:Int,0<=left->left<=1048576->F x left=some (if(wt t x:Int)<=left then left-(wt t x:Int)else -1)
theorem sE{t:Ty}{F:t.V->Int->Option Int}{z:t.V}{G:List t.V->Int->Option Int}{r:List t.V->Int×Int->Option ((Int×Int)⊕(Int⊕Int))}
    (hG:∀a left,G a left=bif decide ((wI (left-(a.length:Int)))<0)then some (-1)else(fix (r a) (wI (left-(a.length:Int)),0)).bind (Sum.elim (λ_=>some (-1)) λy=>some y))
    (hr:∀a x,r a x=bif decide (x.2<(a.length:Int))then(if(0:Int)<=x.2/\x.2<(a.length:Int)then
     (F (a.getD x.2.toNat z) x.1).bind λq=>bif decide (q<0)then some (.inr (.inl q))else some (.inl (q,wI (x.2+1)))else none)else some (.inr (.inr x.1)))
    {a:List t.V} (hn:a.length<=maxLen) (hF:∀x∈a,aB t F x):aB (.sl t) G a:=by
 intro left h0 h1;have hm:maxLen=140737488355327\/True:=.inr trivial;have hw:wI (left-(a.length:Int))=left-(a.length:Int):=by unfold maxLen at hn;exact BM (by omega) (by omega)
 rw[hG,hw];have hwt:wt (.sl t) a=a.length+(a.map (wt t)).sum:=rfl;rw[hwt];by_cases AwV:left-(a.length:Int)<0
 ·rw[show decide (left-(a.length:Int)<0)=true by simpa using AwV,AHb,AHe (by omega)]
 ·rw[show decide (left-(a.length:Int)<0)=false by simpa using AwV,AHa];have key:Ax (fix (r a) (left-(a.length:Int),0)) λy=>(∃q,y=.inl q/\left<((a.length+(a.map (wt t)).sum:Nat):Int))\/y=.inr (left-((a.length+(a.map (wt t)).sum:Nat):Int))/\((a.length+(a.map (wt t)).sum:Nat):Int)<=left:=by
   refine B8 (λm (x:Int×Int)=>∃k:Nat,x.2=(k:Int)/\k<=a.length/\m=a.length-k/\x.1=left-(a.length:Int)-(((a.take k).map (wt t)).sum:Nat)/\0<=x.1) (λm x hI=>?_) a.length _ ⟨0,rfl,Nat.zero_le _,rfl,by simp,by show 0<=left-(a.length:Int);omega⟩;obtain⟨l,i⟩:=x;obtain⟨k,hk1,hk,rfl,hl,bl⟩:=hI;simp only at hk1 hl bl;subst hk1;rw[hr];simp only;rcases AG6 k a.length with h |h
   ·rw[DN h,AHb,AHd (Bl h)];have ha:a.getD k z=a[k]:=by simp[List.getD,h]
    have Aft:((a.take (k+1)).map (wt t)).sum=((a.take k).map (wt t)).sum+wt t a[k]:=by
     rw[List.take_succ_eq_append_getElem h,List.map_append,List.sum_append];simp
    have AAP:((a.take (k+1)).map (wt t)).sum<=(a.map (wt t)).sum:=by
     conv=>rhs;rw[<-List.take_append_drop (k+1) a,List.map_append,List.sum_append]
     omega
    rw[show(k:Int).toNat=k from AGW k,ha,hF _ (AHD h) l bl (by omega),AGV];split
    ·rename_i RX;rw[show decide (l-(wt t a[k]:Int)<0)=false by simpa using RX,AHa];exact Ax.mk ⟨a.length-(k+1),by omega,k+1,jd h hn,h,rfl,by rw[Aft,hl];push_cast;omega,by show 0<=l-_;omega⟩
    ·rename_i xA;refine Ax.mk (.inl ⟨_,rfl,?_⟩)
     push_cast
     rw[Aft]at AAP;omega
   ·have TV:k=a.length:=by omega
    subst TV;rw[EB,AHa];rw[AG5 (AG1 _)]at hl;exact Ax.mk (.inr ⟨by rw[hl];push_cast;rw[Int.sub_sub],by push_cast;omega⟩)
  obtain⟨y,hy,hq⟩:=key;rw[hy];rcases hq with ⟨q,rfl,Bj⟩|⟨rfl,RX⟩
  ·rw[AHe (by omega)];rfl
  ·rw[AHd RX];rfl
end Go.Va
namespace Go.Proofs.X
open Go Go.Va
theorem uP{A:Type}{xs:List A}{left:Int}(h0:0<=left)(h1:left<=1048576)(hn:xs.length<=maxLen):(bif decide ((wI (left-(xs.length:Int)))<0)then(-1)else wI (left-(xs.length:Int)))=if(xs.length:Int)<=left then left-(xs.length:Int)else -1:=by
 unfold maxLen at hn;rw[BM (by omega) (by omega)];split
 ·rw[show decide (left-(xs.length:Int)<0)=false by simp;omega];rfl
 ·rw[show decide (left-(xs.length:Int)<0)=true by simp;omega];rfl
theorem pL{A:Type}{f:A->Nat}(h:∀x,f x=0)(xs:List A):(xs.map f).sum=0:=by
 induction xs with
 |nil=>rfl
 |cons x xs ih=>simp[h,ih]
theorem AdC(a:AHT):wt AIk a=a.length:=congrArg (a.length+·) (pL (λ_=>rfl) a)
theorem AdA(a:AHT):wt AIf a=a.length:=congrArg (a.length+·) (pL (λ_=>rfl) a)
theorem lz{a:AHT}(hn:a.length<=maxLen):aB AIk (λx l=>some (B9 x l)) a:=λleft h0 h1=>by
 show some (B9 a left)=_;rw[B9,uP h0 h1 hn,AdC]
theorem pM{a:AHT}(hn:a.length<=maxLen):aB AIf (λx l=>some (Cv x l)) a:=λleft h0 h1=>by
 show some (Cv a left)=_;rw[Cv,uP h0 h1 hn,AdA]
end Go.Proofs.X
namespace Go.Va
open Go.Proofs.X
section
variable {A B:Type} {Q:A->Prop} {x y:Option A}
theorem Rc{a:A}:Ax (some a) Q↔Q a:=⟨λ⟨_,h,q⟩=>by cases h;exact q,λh=>⟨a,rfl,h⟩⟩
end
theorem BJ{X S T:Type}{f:X->Option (X⊕T)}(st:Nat->S->X)(n:Nat)(I:Nat->S->Prop){Q:T->Prop}
    (h:∀k s,k<n->I k s->Ax (f (st k s)) λr=>match r with |.inl x=>∃s',x=st (k+1) s'/\I (k+1) s' |.inr t=>Q t)
    (he:∀s,I n s->Ax (f (st n s)) λr=>match r with |.inl _=>False |.inr t=>Q t) {s0:S} (h0:I 0 s0):Ax (fix f (st 0 s0)) Q:=by
 refine B8 (λm x=>∃k s,x=st k s/\k<=n/\m=n-k/\I k s) (λm x hI=>?_) n (st 0 s0) ⟨0,s0,rfl,Nat.zero_le _,rfl,h0⟩;obtain⟨k,s,rfl,hk,rfl,hI⟩:=hI;rcases AG6 k n with Bj |YW
 ·refine(h k s Bj hI).mono λr hr=>?_;cases r with
  |inl x =>
   obtain⟨s',rfl,hI'⟩:=hr;exact⟨n-(k+1),by omega,k+1,s',rfl,Bj,rfl,hI'⟩
  |inr t=>exact hr
 ·have:k=n:=by omega
  subst this;refine(he s hI).mono λr hr=>?_;cases r with
  |inl x=>exact hr.elim
  |inr t=>exact hr
def OX(x:Int):Prop:=0<=x/\x<18446744073709551616
def tb(x:Int)(j:Nat):Bool:=x.toNat.testBit j
theorem OX.toNat{x:Int}(h:OX x):x.toNat<2^64:=by unfold OX at h;omega
theorem OX.of{n:Nat}(h:n<2^64):OX (n:Int):=by unfold OX;omega
theorem WQ{x:Int}(h:OX x){j:Nat}(hj:64<=j):tb x j=false :=
 Nat.testBit_lt_two_pow (AHx h.toNat (Nat.pow_le_pow_right (by decide) hj))
theorem OX.ext{x y:Int}(hx:OX x)(hy:OX y)(h:∀j,j<64->tb x j=tb y j):x=y:=by
 have:x.toNat=y.toNat:=Nat.eq_of_testBit_eq λj=>by
  rcases AG6 j 64 with hj |hj
  ·exact h j hj
  ·exact(WQ hx hj).trans (WQ hy hj).symm
 unfold OX at hx hy;omega
theorem eW{n:Nat}(h:n<2^64):IntKind.u64.wrap (n:Int)=(n:Int):=lM (by omega) (by omega)
theorem Tv{x:Int}(h:OX x):(BitVec.ofInt 64 x).toNat=x.toNat:=by
 unfold OX at h;rw[BitVec.toNat_ofInt];simp;omega
theorem Acs{a b:Int}(ha:OX a)(hb:OX b):aO .u64 a b=((a.toNat ||| b.toNat:Nat):Int):=by
 show IntKind.u64.wrap (((BitVec.ofInt 64 a ||| BitVec.ofInt 64 b).toNat:Nat):Int)=_;rw[eW (BitVec.isLt _),BitVec.toNat_or,Tv ha,Tv hb]
theorem s8{a b:Int}(ha:OX a)(hb:OX b):fp .u64 a b=((a.toNat &&& b.toNat:Nat):Int):=by
 show IntKind.u64.wrap (((BitVec.ofInt 64 a &&& BitVec.ofInt 64 b).toNat:Nat):Int)=_;rw[eW (BitVec.isLt _),BitVec.toNat_and,Tv ha,Tv hb]
theorem lI{a b:Int}(ha:OX a)(hb:OX b):OX (aO .u64 a b):=by
 rw[Acs ha hb];exact .of (Nat.or_lt_two_pow ha.toNat hb.toNat)
theorem uX{a b:Int}(ha:OX a)(hb:OX b):OX (fp .u64 a b):=by
 rw[s8 ha hb];exact .of (Nat.and_lt_two_pow _ hb.toNat)
theorem uR{a b:Int}(ha:OX a)(hb:OX b)(j:Nat):tb (aO .u64 a b) j=(tb a j||tb b j):=by
 rw[Acs ha hb,tb,AGW,Nat.testBit_or];rfl
theorem Adp{a b:Int}(ha:OX a)(hb:OX b)(j:Nat):tb (fp .u64 a b) j=(tb a j&&tb b j):=by
 rw[s8 ha hb,tb,AGW,Nat.testBit_and];rfl
theorem uM{a:Int}(ha:OX a){s:Int}{n:Nat}(hs:s=(n:Int))(hn:n<=64):RA .u64 a s=((a.toNat/2^n:Nat):Int):=by
 subst hs;unfold OX at ha;obtain⟨m,rfl⟩:∃m:Nat,a=(m:Int):=⟨a.toNat,by omega⟩;have h:RA .u64 (m:Int) (n:Int)=Int.fdiv (m:Int) (2^min ((n:Int).toNat) 64):=rfl;rw[h,AGW,AGW,Nat.min_eq_left hn,Int.fdiv_eq_ediv_of_nonneg _ (by exact Int.le_of_lt (Int.pow_pos (by decide)))]
 norm_cast
theorem bG{a:Int}(ha:OX a){s:Int}{n:Nat}(hs:s=(n:Int))(hn:n<=64):OX (RA .u64 a s):=by
 rw[uM ha hs hn];exact .of (Nat.lt_of_le_of_lt (Nat.div_le_self _ _) ha.toNat)
theorem ZO{a:Int}(ha:OX a){s:Int}{n:Nat}(hs:s=(n:Int))(hn:n<=64)(j:Nat):tb (RA .u64 a s) j=tb a (j+n):=by
 rw[uM ha hs hn,tb,AGW,Nat.testBit_div_two_pow,tb,Nat.add_comm]
theorem kZ{a:Int}(ha:OX a){s:Int}{n:Nat}(hs:s=(n:Int))(hn:n<=64):Nl .u64 a s=((a.toNat*2^n%18446744073709551616:Nat):Int):=by
 subst hs;unfold OX at ha;obtain⟨m,rfl⟩:∃m:Nat,a=(m:Int):=⟨a.toNat,by omega⟩;have h:Nl .u64 (m:Int) (n:Int)=IntKind.u64.wrap ((m:Int)*2^min ((n:Int).toNat) 64):=rfl;have hw:∀x:Int,IntKind.u64.wrap x=x%18446744073709551616:=λx=>by simp[IntKind.wrap,IntKind.bits,IntKind.signed]
 rw[h,AGW,AGW,Nat.min_eq_left hn,hw,Int.natCast_emod,Int.natCast_mul,Int.natCast_pow];rfl
theorem lJ{a:Int}(ha:OX a){s:Int}{n:Nat}(hs:s=(n:Int))(hn:n<=64):OX (Nl .u64 a s):=by
 rw[kZ ha hs hn];exact .of (Nat.mod_lt _ (by omega))
theorem sG{a:Int}(ha:OX a){s:Int}{n:Nat}(hs:s=(n:Int))(hn:n<=64)(j:Nat):tb (Nl .u64 a s) j=(decide (j<64)&&(decide (n<=j)&&tb a (j-n))):=by
 rw[kZ ha hs hn,tb,AGW,show(18446744073709551616:Nat)=2^64 from by decide,Nat.testBit_mod_two_pow,Nat.testBit_mul_two_pow,tb]
theorem UU(j:Nat):tb 0 j=false:=by simp[tb]
theorem Wj:OX 0:=by unfold OX;omega
theorem YV:OX 1:=by unfold OX;omega
theorem uB{s:Int}{n:Nat}(hs:s=(n:Int))(hn:n<64):IntKind.u64.wrap (Nl .u64 1 s-1)=((2^n-1:Nat):Int):=by
 have h1:0<2^n:=Nat.two_pow_pos n;have h2:2^n<2^64:=Nat.pow_lt_pow_right (by decide) hn;rw[kZ YV hs (by omega)];rw[show(1:Int).toNat*2^n%18446744073709551616=2^n by rw[show(1:Int).toNat=1 from rfl,Nat.one_mul];exact Nat.mod_eq_of_lt h2];rw[show((2^n:Nat):Int)-1=((2^n-1:Nat):Int) by omega];exact eW (by omega)
theorem Adv{s:Int}{n:Nat}(hs:s=(n:Int))(hn:n<64):OX (IntKind.u64.wrap (Nl .u64 1 s-1)):=by
 have h2:2^n<2^64:=Nat.pow_lt_pow_right (by decide) hn;rw[uB hs hn];exact .of (by omega)
theorem Af8{s:Int}{n:Nat}(hs:s=(n:Int))(hn:n<64)(j:Nat):tb (IntKind.u64.wrap (Nl .u64 1 s-1)) j=decide (j<n):=by
 rw[uB hs hn,tb,AGW,Nat.testBit_two_pow_sub_one]
theorem lC(j:Nat):tb 1 j=decide (j=0):=by
 show Nat.testBit 1 j=_;cases j with
 |zero=>rfl
 |succ j=>simp[Nat.testBit_succ]
theorem vI{a:Int}(ha:OX a):fp .u64 a 1=if tb a 0 then 1 else 0:=by
 refine OX.ext (uX ha YV) (by split<;>first |exact YV |exact Wj) λj _=>?_
 rw[Adp ha YV,lC];by_cases h:j=0
 ·subst h;cases h:tb a 0<;>simp[lC,UU]
 ·cases h':tb a 0<;>simp[lC,UU,h]
def DU(ws:AHT):Prop:=∀x∈ws,OX x
def bt(ws:AHT)(i:Nat):Bool:=tb (ws.getD (i/64) 0) (i%64)
theorem DU.getD{ws:AHT}(h:DU ws)(k:Nat):OX (ws.getD k 0):=by
 rcases AG6 k ws.length with hk |hk
 ·rw[show ws.getD k 0=ws[k] by simp[List.getD,hk]];exact h _ (AHD hk)
 ·rw[show ws.getD k 0=0 by simp[List.getD,hk]];exact Wj
theorem DU.set{ws:AHT}(h:DU ws){k:Nat}{x:Int}(hx:OX x):DU (ws.set k x):=λy hy=>by
 rcases List.mem_or_eq_of_mem_set hy with h' |rfl
 ·exact h y h'
 ·exact hx
theorem DU.rep{n:Nat}:DU (List.replicate n 0):=λx hx=>by rw[(List.mem_replicate.1 hx).2];exact Wj
theorem zb(n i:Nat):bt (List.replicate n 0) i=false:=by
 unfold bt;rw[show(List.replicate n (0:Int)).getD (i/64) 0=0 by simp[List.getD,List.getElem?_replicate];split<;>rfl];exact UU _
theorem Wr{ws:AHT}{i:Nat}(h:64*ws.length<=i):bt ws i=false:=by
 unfold bt;rw[show ws.getD (i/64) 0=0 by simp[List.getD,show ws.length<=i/64 by omega]];exact UU _
theorem Xo{ws:AHT}{k:Nat}{x:Int}(hk:k<ws.length)(i:Nat):bt (ws.set k x) i=if i/64=k then tb x (i%64)else bt ws i:=by
 unfold bt;by_cases h:i/64=k
 ·rw[AHd h,h,show(ws.set k x).getD k 0=x by simp[List.getD,hk]]
 ·rw[AHe h,show(ws.set k x).getD (i/64) 0=ws.getD (i/64) 0 by simp[List.getD,AHk,show ¬k=i/64 from λe=>h e.symm]]
theorem Se{a b:AHT}(ha:DU a)(hb:DU b)(hl:a.length=b.length)(h:∀i,i<64*a.length->bt a i=bt b i):a=b:=by
 refine List.ext_getElem hl λk h1 h2=>OX.ext (ha _ (AHD h1)) (hb _ (AHD h2)) λj hj=>?_;have:=h (64*k+j) (by omega);unfold bt at this;rw[show(64*k+j)/64=k by omega,show(64*k+j)%64=j by omega]at this;simpa [List.getD,h1,h2]using this
def pk(f:Nat->Bool):Nat->Nat
 |0=>0
 |n+1=>(if f n then 2^n else 0)+pk f n
theorem Acy(f:Nat->Bool):∀n,pk f n<2^n
 |0=>by simp[pk]
 |n+1=>by
  have:=Acy f n;have h2:2^(n+1)=2^n+2^n:=by rw[Nat.pow_succ];omega
  unfold pk;split<;>omega
theorem rZ(f:Nat->Bool):∀n j,(pk f n).testBit j=(decide (j<n)&&f j)
 |0,j=>by simp[pk]
 |n+1,j=>by
  have hl:=Acy f n;unfold pk;cases hf:f n with
  |false =>
   simp only[Bool.false_eq_true,if_false,AHr,rZ f n j];by_cases h:j=n
   ·subst h;simp[hf]
   ·rw[show decide (j<n+1)=decide (j<n) by simp;omega]
  |true =>
   simp only[if_true];rcases Nat.lt_trichotomy j n with h |h |h
   ·rw[Nat.testBit_two_pow_add_gt h,rZ f n j];simp[h];omega
   ·subst h;rw[Nat.testBit_two_pow_add_eq,Nat.testBit_lt_two_pow hl];simp[hf]
   ·rw[Nat.testBit_lt_two_pow (AHx (show 2^n+pk f n<2^(n+1) by rw[Nat.pow_succ];omega) (Nat.pow_le_pow_right (by decide) h))];simp;omega
def fb(f:Nat->Bool)(m:Nat):AHT:=(List.range m).map λk=>(pk (λj=>f (64*k+j)) 64:Int)
theorem HC(f:Nat->Bool)(m:Nat):(fb f m).length=m:=by simp[fb]
theorem Hb(f:Nat->Bool)(m:Nat):DU (fb f m):=λx hx=>by
 obtain⟨k,_,rfl⟩:=List.mem_map.1 hx;exact .of (Acy _ _)
theorem dH(f:Nat->Bool)(m i:Nat):bt (fb f m) i=(decide (i<64*m)&&f i):=by
 rcases AG6 i (64*m)with h |h
 ·unfold bt fb;rw[show((List.range m).map λk=>(pk (λj=>f (64*k+j)) 64:Int)).getD (i/64) 0=(pk (λj=>f (64*(i/64)+j)) 64:Int) by
   simp[List.getD,show i/64<m by omega],tb,AGW,rZ,show 64*(i/64)+i%64=i by omega]
  simp[h];omega
 ·rw[Wr (by rw[HC];exact h)];simp;omega
theorem Ady{ws:AHT}(h:DU ws){f:Nat->Bool}(hf:∀i,i<64*ws.length->bt ws i=f i):ws=fb f ws.length :=
 Se h (Hb _ _) (HC _ _).symm λi hi=>by rw[hf i hi,dH];simp[hi]
theorem wE{f g:Nat->Bool}{m:Nat}(h:∀i,i<64*m->f i=g i):fb f m=fb g m :=
 Se (Hb _ _) (Hb _ _) (by rw[HC,HC]) λi hi=>by rw[HC]at hi;rw[dH,dH,h i hi]
def low(f:Nat->Bool)(n:Nat):Nat->Bool:=λi=>decide (i<n)&&f i
def nw(n:Nat):Nat:=(n+63)/64
end Go.Va
namespace Go.Proofs.X
open Go Go.Va
set_option maxRecDepth 100000
theorem eH{i:Nat}(h:i<4611686018427387904):wI (Int.tdiv (i:Int) 64)=((i/64:Nat):Int):=by
 rw[Int.tdiv_eq_ediv_of_nonneg (by omega),BM (by omega) (by omega)];omega
theorem Wi(i:Nat):Int.tmod (i:Int) 64=((i%64:Nat):Int):=by
 rw[Int.tmod_eq_emod_of_nonneg (by omega)];omega
theorem WS{n:Nat}(h:n<=1048576):wI (Int.tdiv (wI ((n:Int)+63)) 64)=((nw n:Nat):Int):=by
 rw[BM (x:=(n:Int)+63) (by omega) (by omega),show(n:Int)+63=((n+63:Nat):Int) by omega,eH (by omega)];rfl
def xF(n:Nat)(f:Nat->Bool):AHM:=((n:Int),fb (low f n) (nw n),())
def bI(b:Bool):Int:=if b then 1 else 0
def gm(n:Nat)(ws:AHT):Prop:=1<=n/\n<=4096/\ws.length=nw n/\DU ws/\∀i,n<=i->bt ws i=false
theorem gm.eq{n:Nat}{ws:AHT}(h:gm n ws):ws=fb (low (bt ws) n) (nw n):=by
 obtain⟨_,_,hl,hw,hz⟩:=h
 conv=>lhs;rw[Ady hw (f:=low (bt ws) n) λi hi=>by
  unfold low;by_cases h:i<n
  ·simp[h]
  ·rw[hz i (by omega)];simp]
 rw[hl]
theorem za{n:Nat}{f:Nat->Bool}{i:Nat}(hi:i<n):bt (fb (low f n) (nw n)) i=f i:=by
 rw[dH];unfold nw low;simp[hi];omega
theorem Jb{n:Nat}{f:Nat->Bool}{i:Nat}:bt (fb (low f n) (nw n)) i=(decide (i<n)&&f i):=by
 by_cases h:i<n
 ·rw[za h];simp[h]
 ·rw[dH];unfold low;simp[h]
theorem wD{n:Nat}{f g:Nat->Bool}(h:∀i,i<n->f i=g i):xF n f=xF n g:=by
 unfold xF;rw[wE λi _=>show low f n i=low g n i by
  unfold low;by_cases hi:i<n
  ·simp[hi,h i hi]
  ·simp[hi]]
theorem dy{w:Int}{ws:AHT}(hw:DU ws){i:Nat}(hi:i<64*ws.length)(hn:ws.length<=1048576):GL (w,ws,()) (i:Int)=some (bI (bt ws i)):=by
 unfold GL;rw[eH (by omega),Wi,lM (by omega) (by omega)];rw[AHd ⟨by omega,by show((i/64:Nat):Int)<(ws.length:Int);omega⟩,AHe (by omega),AGW];show some (IntKind.u8.wrap (fp .u64 (RA .u64 (ws.getD (i/64) 0) ((i%64:Nat):Int)) 1))=_;rw[show IntKind.u8.wrap (fp .u64 (RA .u64 (ws.getD (i/64) 0) ((i%64:Nat):Int)) 1)=bI (bt ws i) by
  rw[vI (bG (hw.getD _) rfl (by omega)),ZO (hw.getD _) rfl (by omega),AHr];show IntKind.u8.wrap (bI (bt ws i))=_;cases bt ws i<;>rfl]
theorem Adz{ws:AHT}(h:∀x∈ws,(IntKind.u64).min<=x/\x<=(IntKind.u64).max):DU ws:=λx hx=>by
 have:=h x hx;unfold OX;simp only[IntKind.min,IntKind.max,IntKind.bits,IntKind.signed]at this;simp at this;omega
theorem gb{w:Int}{ws:AHT}(hw:DU ws)(hn:ws.length<=1048576):Ax (Ly (w,ws,())) λr=>r=true↔∃n:Nat,w=(n:Int)/\gm n ws:=by
 unfold Ly P2;refine Ax.cond (λh=>Ax.mk ?_) λh=>?_
 ·simp only[Bool.false_eq_true,false_iff,not_exists,not_and]
  rintro n rfl ⟨h1,h2,h3,_⟩
  unfold nw at h3;simp only[Bz,WS (show n<=1048576 by omega),Bool.or_eq_true,Bool.not_eq_true',Bool.and_eq_false_iff,decide_eq_false_iff_not,bne_iff_ne]at h;unfold nw at h;omega
 ·have hb:1<=w/\w<=4096:=by
    simp only[Bz,Bool.or_eq_false_iff,Bool.not_eq_false',AG2,decide_eq_true_eq]at h;omega
  obtain⟨n,rfl⟩:∃n:Nat,w=(n:Int):=⟨w.toNat,by omega⟩;have hl:ws.length=nw n:=by
   simp only[Bool.or_eq_false_iff,bne_eq_false_iff_eq]at h;have h:=h.2;rw[WS (by omega)]at h;omega
  have key:Ax (SS ((n:Int),ws,()) (n:Int)) λt=>(t=.inl ()/\¬∀i,n<=i->bt ws i=false)\/(t=.inr ()/\∀i,n<=i->bt ws i=false):=by
   have RX:n<=64*ws.length:=by rw[hl];unfold nw;omega
   have hwr:wI (64*(ws.length:Int))=((64*ws.length:Nat):Int):=by
    rw[BM (by omega) (by omega)];omega
   refine BJ (λk (_:Unit)=>((n+k:Nat):Int)) (64*ws.length-n) (λk _=>∀i,n<=i->i<n+k->bt ws i=false) (λk _ hk hI=>?_) (λ_ hI=>?_) (s0:=()) (λi h1 h2=>by omega)
   ·unfold IU Me;rw[show wI (64*((((n:Int),ws,()):AHM).2.1.length:Int))=((64*ws.length:Nat):Int)from hwr,DN (by omega),AHb,dy hw (by omega) hn,AGV];cases hb:bt ws (n+k)with
    |true=>exact Ax.mk (.inl ⟨rfl,λh=>by rw[h _ (by omega)]at hb;cases hb⟩)
    |false =>
     refine Ax.mk ⟨(),?_,λi h1 h2=>?_⟩
     ·rw[BM (by omega) (by omega)];omega
     ·rcases AG6 i (n+k)with h |h
      ·exact hI i h1 h
      ·rw[show i=n+k by omega];exact hb
   ·unfold IU Me;rw[show wI (64*((((n:Int),ws,()):AHM).2.1.length:Int))=((64*ws.length:Nat):Int)from hwr,show n+(64*ws.length-n)=64*ws.length by omega,EB,AHa];refine Ax.mk (.inr ⟨rfl,λi h=>?_⟩);rcases AG6 i (64*ws.length)with h' |h'
    ·exact hI i h (by omega)
    ·exact Wr h'
  refine Ax.bind key λt ht=>?_;rcases ht with ⟨rfl,h'⟩|⟨rfl,h'⟩
  ·refine Ax.mk ?_;simp only[Bool.false_eq_true,false_iff,not_exists,not_and];intro m hm hp;obtain rfl:m=n:=by omega
   exact h' hp.2.2.2.2
  ·exact Ax.mk ⟨λ_=>⟨n,rfl,by omega,by omega,hl,hw,h'⟩,λ_=>rfl⟩
theorem fK{w:Int}{ws:AHT}(hw:DU ws)(hn:ws.length<=1048576):Ax (Lj (w,ws,())) λr=>r=true↔∃n:Nat,w=(n:Int)/\gm n ws:=by
 unfold Lj P2;refine Ax.cond (λh=>Ax.mk ?_) λh=>?_
 ·simp only[Bool.false_eq_true,false_iff,not_exists,not_and]
  rintro n rfl ⟨h1,h2,h3,_⟩
  unfold nw at h3;simp only[AK,BX,WS (show n<=1048576 by omega),Bool.or_eq_true,Bool.not_eq_true',Bool.and_eq_false_iff,decide_eq_false_iff_not,bne_iff_ne]at h;unfold nw at h;omega
 ·have hb:1<=w/\w<=4096:=by
    simp only[AK,Bool.or_eq_false_iff,Bool.not_eq_false',AG2,decide_eq_true_eq]at h;omega
  obtain⟨n,rfl⟩:∃n:Nat,w=(n:Int):=⟨w.toNat,by omega⟩;have hl:ws.length=nw n:=by
   simp only[Bool.or_eq_false_iff,bne_eq_false_iff_eq]at h;have h:=h.2;rw[BX,WS (by omega)]at h;omega
  have e1:((n:Int),ws,()).1=(n:Int):=rfl;have iff:(∃m:Nat,(n:Int)=(m:Int)/\gm m ws)↔∀i,n<=i->bt ws i=false:=by
   constructor
   ·rintro⟨m,hm,hp⟩
    obtain rfl:n=m:=by omega
    exact hp.2.2.2.2
   ·exact λh=>⟨n,rfl,by omega,by omega,hl,hw,h⟩
  rw[iff];refine Ax.cond (λh=>Ax.mk ?_) λh=>?_
  ·have h:Int.tmod (n:Int) 64=0:=by simpa using h
   rw[Wi]at h;refine⟨λ_ i hi=>Wr (by rw[hl];unfold nw;omega),λ_=>rfl⟩
  ·have h:Int.tmod (n:Int) 64≠0:=by simpa using h
   rw[Wi]at h;have BF:0<ws.length:=by rw[hl];unfold nw;omega
   have Z1:wI ((ws.length:Int)-1)=((ws.length-1:Nat):Int):=by rw[BM (by omega) (by omega)];omega
   have e2:wI (((((n:Int),ws,()):AHM).2.1.length:Int)-1)=((ws.length-1:Nat):Int):=Z1;rw[e2,AHd ⟨by omega,by show((ws.length-1:Nat):Int)<(ws.length:Int);omega⟩];rw[show Int.tmod (((n:Int),ws,()):AHM).1 64=((n%64:Nat):Int)from Wi n,AHe (by omega),AGW];refine Ax.mk ?_;rw[beq_iff_eq];have fJ:=hw.getD (ws.length-1);have h0:RA .u64 (ws.getD (ws.length-1) 0) ((n%64:Nat):Int)=0↔∀j,j<64->tb (ws.getD (ws.length-1) 0) (j+n%64)=false :=
    ⟨λe j _=>by rw[<-ZO fJ rfl (by omega),e,UU],λe=>OX.ext (bG fJ rfl (by omega)) Wj λj hj=>by rw[ZO fJ rfl (by omega),UU];exact e j hj⟩
   refine h0.trans ⟨λe i hi=>?_,λe j hj=>?_⟩
   ·rcases AG6 i (64*ws.length)with h' |h'
    ·unfold bt;rw[show i/64=ws.length-1 by rw[hl]at h'⊢;unfold nw at *;omega];have:=e (i%64-n%64) (by omega);rwa [show i%64-n%64+n%64=i%64 by rw[hl]at h';unfold nw at *;omega]at this
    ·exact Wr h'
   ·rcases AG6 (j+n%64) 64 with h' |h'
    ·have:=e (64*(ws.length-1)+(j+n%64)) (by rw[hl];unfold nw;omega);unfold bt at this;rwa [show(64*(ws.length-1)+(j+n%64))/64=ws.length-1 by omega,show(64*(ws.length-1)+(j+n%64))%64=j+n%64 by omega]at this
    ·exact WQ fJ h'
theorem u3(k:IntKind):(Ty.zero (.int k):Int)=0:=rfl
theorem AgZ{a k:Nat}(h:a+64*k<1073741824):wI ((a:Int)+wI (64*(k:Int)))=((a+64*k:Nat):Int):=by
 rw[BM (x:=64*(k:Int)) (by omega) (by omega),BM (by omega) (by omega)];omega
theorem A2{x:Int}{n:Nat}(h:x=(n:Int))(hn:n<4611686018427387904):wI x=(n:Int):=by rw[BM (by omega) (by omega),h]
theorem Wk{n:Nat}(h:n<=1048576):Et (n:Int)=some ((n:Int),List.replicate (nw n) 0):=by
 have hn:nw n<=1048576:=by unfold nw;omega
 unfold Et BX;rw[WS h,AHd ⟨rfl,by omega,by omega,by omega,by omega⟩,AGW]
theorem Aer{ws:AHT}{k j:Nat}(hj:j<64):bt ws (64*k+j)=tb (ws.getD k 0) j:=by
 unfold bt;rw[show(64*k+j)/64=k by omega,show(64*k+j)%64=j by omega]
theorem AmC{a k:Nat}{d b:Int}{low row:AHT}(hw:DU low)(hr:DU row)(hk:k<low.length)(hb:a+64*k<1073741824)(Fx:(a+64*k)/64<row.length) :
    Ax (IB (a:Int) low d (k:Int) row b) λr=>DU r/\r.length=row.length/\∀i,i<64*row.length->bt r i=(bt row i||(decide (a+64*k<=i)&&(decide (i<a+64*k+64)&&bt low (i-a)))):=by
 unfold IB P2;obtain⟨q,hq⟩:∃q,q=(a+64*k)/64:=⟨_,rfl⟩;obtain⟨m,hm⟩:∃m,m=(a+64*k)%64:=⟨_,rfl⟩;have e1:wI (Int.tdiv (((a+64*k:Nat):Int)) 64)=(q:Int):=by rw[eH (by omega),hq]
 have e2:Int.tmod (((a+64*k:Nat):Int)) 64=(m:Int):=by rw[Wi,hm]
 have e3:wI ((q:Int)+1)=((q+1:Nat):Int):=A2 (by omega) (by omega);have e4:wI (64-(m:Int))=((64-m:Nat):Int):=A2 (by omega) (by omega);have hlk:OX (low.getD k 0):=hw.getD k;have Abr:∀i,a+64*k<=i->i<a+64*k+64->bt low (i-a)=tb (low.getD k 0) (i-a-64*k):=λi h1 h2=>by
  rw[<-Aer (ws:=low) (k:=k) (by omega)];congr 1;omega
 simp only[AgZ hb,e1,e2,e3,e4,AG4,AGW,u3];rw[AHd (Bl hk),AHd ⟨by omega,by omega⟩,AHe (by omega),AHd ⟨by omega,by omega⟩];have hsh:OX (Nl .u64 (low.getD k 0) (m:Int)):=lJ hlk rfl (by omega);have hor:OX (aO .u64 (row.getD q 0) (Nl .u64 (low.getD k 0) (m:Int))):=lI (hr.getD q) hsh;have hqr:q<row.length:=by omega
 have Od:∀i,bt (row.set q (aO .u64 (row.getD q 0) (Nl .u64 (low.getD k 0) (m:Int)))) i=(bt row i||(decide (i/64=q)&&(decide (a+64*k<=i)&&bt low (i-a)))):=λi=>by
  rw[Xo hqr];by_cases h:i/64=q
  ·rw[AHd h,uR (hr.getD q) hsh,sG hlk rfl (by omega)];have:bt row i=tb (row.getD q 0) (i%64):=by unfold bt;rw[h]
   rw[this];by_cases h2:a+64*k<=i
   ·rw[Abr i h2 (by omega),show i-a-64*k=i%64-m by omega];simp[h,h2,show i%64<64 by omega,show m<=i%64 by omega]
   ·simp[h,h2,show ¬m<=i%64 by omega]
  ·rw[AHe h];simp[h]
 have F8:DU (row.set q (aO .u64 (row.getD q 0) (Nl .u64 (low.getD k 0) (m:Int)))):=hr.set hor;refine Ax.cond (λh=>?_) λh=>?_
 ·simp only[AG2,bne_iff_ne,decide_eq_true_eq]at h;have qc:m≠0:=by omega
  have hq1:q+1<row.length:=by omega
  rw[AHd ⟨by omega,by omega⟩,AHe (by omega),AHd ⟨by omega,by omega⟩];have hsr:OX (RA .u64 (low.getD k 0) ((64-m:Nat):Int)):=bG hlk rfl (by omega);refine Ax.mk ⟨F8.set (lI (F8.getD _) hsr),by rw[AG4,AG4],λi hi=>?_⟩;show bt (List.set _ (q+1) (aO .u64 (List.getD _ (q+1) 0) (RA .u64 (low.getD k 0) ((64-m:Nat):Int)))) i=_;rw[Xo (by rw[AG4];exact hq1)];by_cases h1:i/64=q+1
  ·rw[AHd h1,uR (F8.getD _) hsr,ZO hlk rfl (by omega)];have:tb ((row.set q (aO .u64 (row.getD q 0) (Nl .u64 (low.getD k 0) (m:Int)))).getD (q+1) 0) (i%64)=bt (row.set q (aO .u64 (row.getD q 0) (Nl .u64 (low.getD k 0) (m:Int)))) i:=by unfold bt;rw[h1]
   rw[this,Od];rw[show decide (i/64=q)=false by simp;omega,show decide (a+64*k<=i)=true by simp;omega];by_cases h2:i<a+64*k+64
   ·rw[Abr i (by omega) h2,show i-a-64*k=i%64+(64-m) by omega];simp[h2]
   ·rw[WQ hlk (by omega)];simp[h2]
  ·rw[AHe h1,Od];by_cases h2:i/64=q
   ·simp only[h2,decide_true,Bool.true_and];by_cases h3:a+64*k<=i
    ·simp[h3,show i<a+64*k+64 by omega]
    ·simp[h3]
   ·rw [show(decide (a+64*k<=i)&&(decide (i<a+64*k+64)&&bt low (i-a)))=false by
      by_cases h3:a+64*k<=i
      ·simp[show ¬i<a+64*k+64 by omega]
      ·simp[h3]]
    simp[h2]
 ·refine Ax.mk ⟨F8,AG4,λi hi=>?_⟩;have h':m=0\/row.length<=q+1:=by
   rcases AHj m with h0 |h0
   ·exact .inl h0
   ·refine .inr ?_;simp only[Bool.and_eq_false_iff,bne_eq_false_iff_eq,decide_eq_false_iff_not]at h;omega
  show bt (row.set q (aO .u64 (row.getD q 0) (Nl .u64 (low.getD k 0) (m:Int)))) i=_;rw[Od];by_cases h2:i/64=q
  ·simp only[h2,decide_true,Bool.true_and];by_cases h3:a+64*k<=i
   ·simp[h3,show i<a+64*k+64 by omega]
   ·simp[h3]
  ·rw [show(decide (a+64*k<=i)&&(decide (i<a+64*k+64)&&bt low (i-a)))=false by
     by_cases h3:a+64*k<=i
     ·simp[show ¬i<a+64*k+64 by omega]
     ·simp[h3]]
   simp[h2]
theorem AcC{w b:Int}{a:Nat}{low row:AHT}(hw:DU low)(hr:DU row)(hl:low.length<=1048576)(ha:a<=1048576)(Fx:∀k,k<low.length->(a+64*k)/64<row.length) :
    Ax (HU b (a:Int) (w,low,()) row) λr=>DU r/\r.length=row.length/\∀i,i<64*row.length->bt r i=(bt row i||(decide (a<=i)&&bt low (i-a))):=by
 unfold HU Qn;refine Ax.bind (BJ (λk (s:AHT)=>((k:Int),s)) low.length (λk s=>DU s/\s.length=row.length/\∀i,i<64*row.length->bt s i=(bt row i||(decide (a<=i)&&(decide (i<a+64*k)&&bt low (i-a))))) (Q:=λr=>DU r/\r.length=row.length/\∀i,i<64*row.length->bt r i=(bt row i||(decide (a<=i)&&bt low (i-a)))) (λk s hk hI=>?_) (λs hI=>?_) (s0:=row) ⟨hr,rfl,λi _=>by
     by_cases h:a<=i
     ·simp[show ¬i<a by omega]
     ·simp[h]⟩) λr h=>Ax.mk h
 ·unfold Gv Je;simp only;rw[DN hk,AHb];refine Ax.bind (AmC hw hI.1 hk (by omega) (by rw[hI.2.1];exact Fx k hk)) λr h=>Ax.mk ⟨r,?_,h.1,h.2.1.trans hI.2.1,λi hi=>?_⟩
  ·rw[show wI ((k:Int)+1)=((k+1:Nat):Int)from A2 (by omega) (by omega)]
  ·rw[h.2.2 i (by rw[hI.2.1];exact hi),hI.2.2 i hi,Bool.or_assoc];congr 1;by_cases h1:a<=i
   ·by_cases h2:i<a+64*k
    ·simp[h1,h2,show ¬a+64*k<=i by omega,show i<a+64*(k+1) by omega]
    ·by_cases h3:i<a+64*k+64
     ·simp[h1,h2,h3,show a+64*k<=i by omega,show i<a+64*(k+1) by omega]
     ·simp[h2,h3,show ¬i<a+64*(k+1) by omega]
   ·simp[h1,show ¬a+64*k<=i by omega]
 ·unfold Gv Je;simp only;rw[EB,AHa];refine Ax.mk ⟨hI.1,hI.2.1,λi hi=>?_⟩;rw[hI.2.2 i hi];by_cases h1:a<=i
  ·by_cases h2:i<a+64*low.length
   ·simp[h2]
   ·rw[Wr (by omega:64*low.length<=i-a)];simp
  ·simp[h1]
theorem AfR{n m:Nat}{f g:Nat->Bool}(hn:n+m<=8192):EC (xF n f) (xF m g)=some (((n+m:Nat):Int),fb (low (λi=>if i<m then g i else f (i-m)) (n+m)) (nw (n+m))):=by
 unfold EC xF;refine Ax.eq_ ?_;rw[show wI (((n:Int),fb (low f n) (nw n),()).1+((m:Int),fb (low g m) (nw m),()).1)=((n+m:Nat):Int)from A2 (by show(n:Int)+(m:Int)=_;omega) (by omega),Wk (by omega),AGV];refine Ax.bind (AcC (a:=0) (Hb _ _) DU.rep (by rw[HC];unfold nw;omega) (by omega) λk hk=>by rw[HC]at hk;rw[AHs];unfold nw at *;omega) λr1 h1=>?_;rw[AHs]at h1;refine Ax.bind (AcC (a:=m) (Hb _ _) h1.1 (by rw[HC];unfold nw;omega) (by omega) λk hk=>by rw[HC]at hk;rw[h1.2.1];unfold nw at *;omega) λr2 h2=>Ax.mk ?_;refine congrArg _ (Se h2.1 (Hb _ _) (by rw[h2.2.1,h1.2.1,HC]) λi hi=>?_);have rB:i<64*nw (n+m):=by rw[h2.2.1,h1.2.1]at hi;exact hi
 rw[h2.2.2 i (by rw[h1.2.1];exact rB),h1.2.2 i rB,zb,Jb,Jb,Jb];by_cases h3:i<m
 ·simp[h3,show ¬m<=i by omega,show i<n+m by omega]
 ·by_cases h4:i<n+m
  ·simp[h3,h4,show m<=i by omega,show i-m<n by omega]
  ·simp[h3,h4,show ¬i-m<n by omega]
theorem AlE{a k:Nat}{w w1 w2 j:Int}{ws row:AHT}(hw:DU ws)(hr:DU row)(hk:k<row.length)(hb:a+64*k<1073741824)(Fx:(a+64*k)/64<ws.length) :
    Ax (IA (a:Int) w1 w2 (k:Int) (w,ws,()) j row) λr=>DU r/\r.length=row.length/\∀i,bt r i=if i/64=k then bt ws (a+i)else bt row i:=by
 unfold IA P2;obtain⟨q,hq⟩:∃q,q=(a+64*k)/64:=⟨_,rfl⟩;obtain⟨m,hm⟩:∃m,m=(a+64*k)%64:=⟨_,rfl⟩;have e1:wI (Int.tdiv (((a+64*k:Nat):Int)) 64)=(q:Int):=by rw[eH (by omega),hq]
 have e2:Int.tmod (((a+64*k:Nat):Int)) 64=(m:Int):=by rw[Wi,hm]
 have e3:wI ((q:Int)+1)=((q+1:Nat):Int):=A2 (by omega) (by omega);have e4:wI (64-(m:Int))=((64-m:Nat):Int):=A2 (by omega) (by omega);simp only[AgZ hb,e1,e2,e3,e4,AG4,AGW,u3];rw[AHd ⟨by omega,by omega⟩,AHe (by omega),AHd (Bl hk)];have hsr:OX (RA .u64 (ws.getD q 0) (m:Int)):=bG (hw.getD q) rfl (by omega);have F8:DU (row.set k (RA .u64 (ws.getD q 0) (m:Int))):=hr.set hsr;have V0:(row.set k (RA .u64 (ws.getD q 0) (m:Int))).getD k 0=RA .u64 (ws.getD q 0) (m:Int):=by simp[List.getD,hk]
 refine Ax.cond (λh=>?_) λh=>?_
 ·simp only[AG2,bne_iff_ne,decide_eq_true_eq]at h;rw[AHd (Bl hk),AHd ⟨by omega,by omega⟩,AHe (by omega),AHd (Bl hk),V0];have Iz:OX (Nl .u64 (ws.getD (q+1) 0) ((64-m:Nat):Int)):=lJ (hw.getD _) rfl (by omega);refine Ax.mk ⟨F8.set (lI hsr Iz),by rw[AG4,AG4],λi=>?_⟩;rw[Xo (by rw[AG4];exact hk)];by_cases h1:i/64=k
  ·rw[AHd h1,AHd h1,uR hsr Iz,ZO (hw.getD _) rfl (by omega),sG (hw.getD _) rfl (by omega)];by_cases h2:i%64+m<64
   ·rw[show decide (64-m<=i%64)=false by simp;omega];unfold bt;rw[show(a+i)/64=q by omega,show(a+i)%64=i%64+m by omega];simp
   ·rw[WQ (hw.getD _) (by omega)];unfold bt;rw[show(a+i)/64=q+1 by omega,show(a+i)%64=i%64-(64-m) by omega];simp[show i%64<64 by omega,show 64<=i%64+m by omega]
  ·rw[AHe h1,AHe h1,Xo hk,AHe h1]
 ·have h':m=0\/ws.length<=q+1:=by
    rcases AHj m with h0 |h0
    ·exact .inl h0
    ·refine .inr ?_;simp only[Bool.and_eq_false_iff,bne_eq_false_iff_eq,decide_eq_false_iff_not]at h;omega
  refine Ax.mk ⟨F8,AG4,λi=>?_⟩;rw[Xo hk];by_cases h1:i/64=k
  ·rw[AHd h1,AHd h1,ZO (hw.getD _) rfl (by omega)];by_cases h2:i%64+m<64
   ·unfold bt;rw[show(a+i)/64=q by omega,show(a+i)%64=i%64+m by omega]
   ·rw[WQ (hw.getD _) (by omega),Wr (by omega)]
  ·rw[AHe h1,AHe h1]
theorem AlF{n a w:Nat}{f:Nat->Bool}(hn:n<=1048576)(h1:1<=w)(h:a+w<=n):Df (xF n f) (a:Int) (w:Int)=some ((w:Int),fb (low (λi=>f (a+i)) w) (nw w)):=by
 unfold Df xF;refine Ax.eq_ ?_;rw[Wk (by omega),AGV];show Ax ((LW (a:Int) (w:Int) ((n:Int),fb (low f n) (nw n),()) (((List.replicate (nw w) (0:Int)).length:Nat):Int) (w:Int) 0 (List.replicate (nw w) 0)).bind _) _;rw[AHs];have wh:1<=nw w:=by unfold nw;omega
 refine Ax.bind (P:=λr=>DU r/\r.length=nw w/\∀i,i<64*nw w->bt r i=bt (fb (low f n) (nw n)) (a+i)) ?_ λr hr=>?_
 ·unfold LW;refine BJ (λk (s:AHT)=>((k:Int),s)) (nw w) (λk s=>DU s/\s.length=nw w/\∀i,i<64*k->bt s i=bt (fb (low f n) (nw n)) (a+i)) (λk s hk hI=>?_) (λs hI=>?_) (s0:=List.replicate (nw w) 0) ⟨DU.rep,AHs,λi hi=>by omega⟩
  ·unfold Gu Jd;simp only;rw[DN hk,AHb];refine Ax.bind (AlE (Hb _ _) hI.1 (by rw[hI.2.1];exact hk) (by unfold nw at hk;omega) (by rw[HC];unfold nw at *;omega)) λr h=>Ax.mk ⟨r,?_,h.1,h.2.1.trans hI.2.1,λi hi=>?_⟩
   ·rw[show wI ((k:Int)+1)=((k+1:Nat):Int)from A2 (by omega) (by unfold nw at hk;omega)]
   ·rw[h.2.2 i];by_cases h3:i/64=k
    ·rw[AHd h3]
    ·rw[AHe h3,hI.2.2 i (by omega)]
  ·unfold Gu Jd;simp only;rw[EB,AHa];exact Ax.mk hI
 ·unfold LX;obtain⟨m,hm⟩:∃m,m=w%64:=⟨_,rfl⟩;have e2:Int.tmod (w:Int) 64=(m:Int):=by rw[Wi,hm]
  have e3:wI ((r.length:Int)-1)=((nw w-1:Nat):Int):=by rw[hr.2.1];exact A2 (by omega) (by unfold nw;omega)
  simp only[e2,e3,AGW,u3];refine Ax.bind (P:=λx=>x=fb (low (λi=>f (a+i)) w) (nw w)) (Ax.cond (λh=>?_) λh=>?_) λx hx=>Ax.mk (by rw[hx])
  ·simp only[bne_iff_ne]at h;rw[AHd ⟨by omega,by rw[hr.2.1];omega⟩,AHe (by omega),AHd ⟨by omega,by rw[hr.2.1];omega⟩];have gY:OX (IntKind.u64.wrap (Nl .u64 1 (m:Int)-1)):=Adv rfl (by omega);refine Ax.mk (Se (hr.1.set (uX (hr.1.getD _) gY)) (Hb _ _) (by rw[AG4,hr.2.1,HC]) λi hi=>?_);rw[AG4,hr.2.1]at hi;rw[Xo (by rw[hr.2.1];omega),Jb];by_cases h3:i/64=nw w-1
   ·rw[AHd h3,Adp (hr.1.getD _) gY,Af8 rfl (by omega)];have:tb (r.getD (nw w-1) 0) (i%64)=bt r i:=by unfold bt;rw[h3]
    rw[this,hr.2.2 i hi,Jb];unfold nw at h3;by_cases h4:i<w
    ·simp[h4,show a+i<n by omega,show i%64<m by omega]
    ·simp[h4,show ¬i%64<m by omega]
   ·rw[AHe h3,hr.2.2 i hi,Jb];unfold nw at h3 hi;simp[show i<w by omega,show a+i<n by omega]
  ·have h0:m=0:=by
     have:(m:Int)=0:=by simpa using h
     omega
   refine Ax.mk (Se hr.1 (Hb _ _) (by rw[hr.2.1,HC]) λi hi=>?_);rw[hr.2.1]at hi;rw[hr.2.2 i hi,Jb,Jb];unfold nw at hi;simp[show i<w by omega,show a+i<n by omega]
theorem iq{l:AHU}(h1:1<=l.length)(h2:l.length<=4096):LC (l.map bI)=some ((l.length:Int),true,fb (low (λi=>l.getD i false) l.length) (nw l.length)):=by
 unfold LC P2;refine Ax.eq_ ?_;rw[AG7];have hn:nw l.length<=1048576:=by unfold nw;omega
 rw[show(decide ((l.length:Int)<1)||decide ((l.length:Int)>4096))=false by simp;omega,AHa,WS (by omega),AHd ⟨rfl,by omega,by omega,by omega,by omega⟩,AGW];unfold SX;refine Ax.bind (BJ (λk (s:AHT)=>((k:Int),s)) l.length (λk s=>DU s/\s.length=nw l.length/\∀i,bt s i=(decide (i<k)&&l.getD i false)) (Q:=λr=>r=fb (low (λi=>l.getD i false) l.length) (nw l.length)) (λk s hk hI=>?_) (λs hI=>?_) (s0:=List.replicate (nw l.length) 0) ⟨DU.rep,AHs,λi=>by rw[zb];simp⟩) λr hr=>Ax.mk (by rw[hr])
 ·unfold I1 Mn;have hq:k/64<s.length:=by rw[hI.2.1];unfold nw;omega
  have Awl:OX (bI (l.getD k false)):=by unfold bI;split<;>first |exact YV |exact Wj
  have AAU:IntKind.u64.wrap (bI (l.getD k false))=bI (l.getD k false):=by cases l.getD k false<;>rfl
  have Td:(l.map bI).getD k 0=bI (l.getD k false):=by simp[List.getD,hk]
  simp only[AG7,eH (show k<4611686018427387904 by omega),Wi,AGW,u3,Td,AAU,lM (show(0:Int)<=((k%64:Nat):Int) by omega) (by omega)];rw[DN hk,AHb,AHd ⟨by omega,by omega⟩,AHd (Bl hk),AHe (by omega),AHd ⟨by omega,by omega⟩];have Iz:OX (Nl .u64 (bI (l.getD k false)) ((k%64:Nat):Int)):=lJ Awl rfl (by omega);refine Ax.mk ⟨_,by rw[show wI ((k:Int)+1)=((k+1:Nat):Int)from A2 (by omega) (by omega)],hI.1.set (lI (hI.1.getD _) Iz),by rw[AG4];exact hI.2.1,λi=>?_⟩;rw[Xo hq];have tbb:∀b j,tb (bI b) j=(decide (j=0)&&b):=λb j=>by cases b<;>simp[bI,lC,UU]
  by_cases h3:i/64=k/64
  ·rw[AHd h3,uR (hI.1.getD _) Iz,sG Awl rfl (by omega),tbb];have:tb (s.getD (k/64) 0) (i%64)=bt s i:=by unfold bt;rw[h3]
   rw[this,hI.2.2 i];rcases Nat.lt_trichotomy i k with h |h |h
   ·simp[h,show i<k+1 by omega,show ¬k%64<=i%64 by omega]
   ·subst h;simp[show i%64<64 by omega]
   ·simp[show ¬i<k by omega,show ¬i<k+1 by omega];omega
  ·rw[AHe h3,hI.2.2 i];by_cases h:i<k
   ·simp[h,show i<k+1 by omega]
   ·simp[h,show ¬i<k+1 by omega]
 ·unfold I1 Mn;rw[AG7,EB,AHa];refine Ax.mk (Se hI.1 (Hb _ _) (by rw[HC];exact hI.2.1) λi hi=>?_);rw[hI.2.2 i,Jb]
theorem Yd{w:Int}{ws:AHT}(h:ws.length<=1048576):Cs (w,ws,())=some (w,ws):=by
 unfold Cs;rw[AHd (by show ws.length*8<=_;omega)]
def Small(f:AHZ):Prop:=f.length<=1048576/\∀s∈f,s.2.2.2.1.2.1.length<=1048576
theorem AG{A:Type}{l:List A}{z:A}{k:Nat}(h:k<l.length):l.getD k z∈l:=by
 rw[show l.getD k z=l[k] by simp[List.getD,h]];exact AHD h
theorem AX{A:Type}{l:List A}{z:A}{k:Nat}(h:k<l.length):l.take (k+1)=l.take k++[l.getD k z]:=by
 rw[List.take_succ_eq_append_getElem h,show l.getD k z=l[k] by simp[List.getD,h]]
theorem Bi{k n:Nat}(hk:k<n)(hn:n<=1048576):wI ((k:Int)+1)=((k+1:Nat):Int):=A2 (by omega) (by omega)
def B7{A:Type}(g:Nat->A)(z:A)(n k:Nat):List A:=(List.range n).map λi=>if i<k then g i else z
theorem Lh{A:Type}(g:Nat->A)(z:A)(n:Nat):B7 g z n 0=List.replicate n z:=by
 refine List.ext_getElem (by simp[B7]) λi h1 h2=>by simp[B7]
theorem Ox{A:Type}(g:Nat->A)(z:A){n k:Nat}:(B7 g z n k).set k (g k)=B7 g z n (k+1):=by
 refine List.ext_getElem (by simp[B7]) λi h1 h2=>?_;simp only[B7,List.getElem_set,List.getElem_map,List.getElem_range];by_cases h:k=i
 ·subst h;simp
 ·rw[AHe h];by_cases h3:i<k
  ·rw[AHd h3,AHd (by omega)]
  ·rw[AHe h3,AHe (by omega)]
theorem F7{A:Type}(g:Nat->A)(z:A)(n k:Nat):(B7 g z n k).length=n:=by simp[B7]
theorem cN{A:Type}(l:List A)(y z:A):B7 (λi=>l.getD i y) z l.length l.length=l:=by
 refine List.ext_getElem (by simp[B7]) λi h1 h2=>by simp[B7,List.getD,h2]
theorem jN{f:AHZ}(h:Small f):IG f=some f:=by
 unfold IG O6;have h1:=h.1;rw[AHd ⟨rfl,by omega,by omega,by omega,by omega⟩,AGW];rw[show fix (CN f (f.length:Int)) (0,List.replicate f.length (0,0,0,(0,([]:AHT),()),()))=some f from by
  have:=AQ (f:=CN f (f.length:Int)) (λk=>((k:Int),B7 (λi=>f.getD i Ae.zero) (0,0,0,(0,([]:AHT),()),()) f.length k)) (t:=f) f.length (λk hk=>by
   unfold CN Ig;simp only[DN hk,AHb,AHd (Bl hk),AGW,F7];rw[Yd (h.2 _ (AG hk)),AGV,Bi hk h1,<-Ox]) (by
   unfold CN Ig;simp only[EB,AHa,cN])
  rw[Lh]at this;exact this]
 rfl
theorem et{a:AHT}(hn:a.length<=maxLen):VA FD a :=
 Zi (F:=λx y=>some (x==y)) (z :=AIb.zero) (r:=λa b=>Ew a b a.length) (λ_ _=>rfl) (λ_ _ _=>rfl) hn λx _ y=>Ax.mk (by simp)
theorem mD{a:AHM}(h:a.2.1.length<=maxLen):VA IC a:=by
 intro b;obtain⟨w,ws,_⟩:=a;obtain⟨w',fh,_⟩:=b;unfold IC;refine Ax.cond (λh1=>Ax.bind (et h fh) λr hr=>Ax.mk (by simp at h1;simp[hr,h1])) λh1=>Ax.mk (by simp at h1;simp[h1])
theorem o8{a:AHM}(h:a.2.1.length<=maxLen):VA Fu a:=by
 intro b;obtain⟨w,ws,_⟩:=a;obtain⟨w',fh,_⟩:=b;unfold Fu P2;refine Ax.cond (λh1=>Ax.mk ?_) λh1=>?_
 ·simp only[Bool.or_eq_true,bne_iff_ne]at h1;simp only[Bool.false_eq_true,false_iff,AG8,and_true,not_and]
  rintro rfl rfl
  simp at h1
 ·simp only[Bool.or_eq_false_iff,bne_eq_false_iff_eq]at h1;have h1:w=w'/\(ws.length:Int)=(fh.length:Int):=h1;refine Ax.bind (tP (F:=λx y=>some (x==y)) (z :=AIb.zero) (a:=ws) (b:=fh) (f:=Da (w,ws,()) (w',fh,())) (by omega) h (λx _ y=>Ax.mk (by simp)) (λk hk=>?_) ?_) λt ht=>?_
  ·unfold Da HO;simp only[DN hk,AHb,AHd (Bl hk),AHd (Bl (show k<fh.length by omega)),AGW];rfl
  ·unfold Da HO;simp only[EB,AHa]
  ·rcases ht with ⟨rfl,e⟩|⟨rfl,e⟩
   ·exact Ax.mk ⟨λ_=>by rw[h1.1,e],λ_=>rfl⟩
   ·exact Ax.mk ⟨λh=>by(cases h),λh'=>(e (congrArg (λx=>x.2.1) h')).elim⟩
end Go.Proofs.X
namespace Go.Va
open Go.Proofs.X
inductive Bt
 |co (b:Bool)
 |va (v a:Nat)
inductive Sg
 |co (b:AHU)
 |va (v l n:Nat)
def Sg.bits:Sg->List Bt
 |.co b=>b.map .co
 |.va v l n=>(List.range n).map λk=>.va v (l+k)
def Sg.w:Sg->Nat
 |.co b=>b.length
 |.va _ _ n=>n
def Bt.sg:Bt->Sg
 |.co b=>.co [b]
 |.va v a=>.va v a 1
def Sg.join:Sg->Sg->Option Sg
 |.co a,.co b=>some (.co (a++b))
 |.va v l n,.va v' l' n'=>if v=v'/\l+n=l' then some (.va v l (n+n'))else none
 |_,_=>none
def Sg.YA(a b:Sg):Bool:=(a.join b).isSome
def G5(f:List Sg)(s:Sg):List Sg :=
 match f.getLast? with
 |none=>[s]
 |some l=>match l.join s with
  |some j=>f.dropLast++[j]
  |none=>f++[s]
def Ol(f ss:List Sg):List Sg:=ss.foldl G5 f
def VE(f:List Sg)(bs:List Bt):List Sg:=bs.foldl (λf b=>G5 f b.sg) f
def Av(bs:List Bt):List Sg:=VE [] bs
def CX(f:List Sg):List Bt:=f.flatMap Sg.bits
def A6(f:List Sg):Nat:=(f.map Sg.w).sum
theorem Qw(s:Sg):G5 [] s=[s]:=rfl
theorem EI(g:List Sg)(l s:Sg):G5 (g++[l]) s=match l.join s with |some j=>g++[j]|none=>g++[l,s]:=by
 unfold G5;rw[List.getLast?_append];simp only[List.getLast?_singleton,Option.some_or,List.dropLast_concat];cases l.join s<;>simp
theorem J0(s:Sg):s.bits.length=s.w:=by cases s<;>simp[Sg.bits,Sg.w]
theorem M6(f:List Sg):(CX f).length=A6 f:=by
 induction f with
 |nil=>rfl
 |cons s f ih=>simp only[CX,A6,List.flatMap_cons,AGZ,J0,List.map_cons,List.sum_cons]at *;rw[ih]
theorem ic{a b j:Sg}(h:a.join b=some j):j.bits=a.bits++b.bits:=by
 cases a<;>cases b<;>simp only[Sg.join]at h
 ·cases h;simp[Sg.bits]
 ·cases h
 ·cases h
 ·rename_i v l n v' l' n';split at h
  ·rename_i hc;cases h;obtain⟨rfl,rfl⟩:=hc;simp only[Sg.bits];rw[List.range_add,List.map_append,List.map_map];congr 1;refine List.map_congr_left λk _=>?_;simp[Nat.add_assoc]
  ·cases h
theorem ah(f:List Sg)(s:Sg):CX (G5 f s)=CX f++s.bits:=by
 rcases List.eq_nil_or_concat f with rfl |⟨g,l,rfl⟩
 ·simp[Qw,CX]
 ·rw[List.concat_eq_append,EI];cases h:l.join s with
  |none=>simp[CX]
  |some j=>simp[CX,ic h]
theorem ve(f:List Sg)(bs:List Bt):CX (VE f bs)=CX f++bs:=by
 induction bs generalizing f with
 |nil=>simp[VE]
 |cons b bs ih =>
  rw[show VE f (b::bs)=VE (G5 f b.sg) bs from rfl,ih,ah];cases b<;>simp[Bt.sg,Sg.bits]
theorem Hd(bs:List Bt):CX (Av bs)=bs:=ve [] bs
theorem Le(f:List Sg)(a b:List Bt):VE f (a++b)=VE (VE f a) b:=List.foldl_append
theorem sx(s:Sg)(h:2<=s.w):∃(t:Sg) (b:Bt),1<=t.w/\t.w<s.w/\s.bits=t.bits++[b]/\t.join b.sg=some s/\(∀l j:Sg,l.join t=some j->j.join b.sg=l.join s)/\(∀l:Sg,l.join t=none->l.join s=none):=by
 cases s with
 |co bs =>
  simp only[Sg.w]at h;rcases List.eq_nil_or_concat bs with rfl |⟨cs,x,rfl⟩
  ·simp at h
  ·rw[List.concat_eq_append]at h⊢;refine⟨.co cs,.co x,?_,?_,?_,rfl,λl j hj=>?_,λl hl=>?_⟩
   ·simp[Sg.w]at h⊢;omega
   ·simp[Sg.w]
   ·simp[Sg.bits]
   ·cases l<;>simp only[Sg.join]at hj
    ·cases hj;simp[Sg.join,Bt.sg]
    ·cases hj
   ·cases l<;>simp[Sg.join]at hl⊢
 |va v l n =>
  simp only[Sg.w]at h;obtain⟨m,rfl⟩:∃m,n=m+1:=⟨n-1,by omega⟩;refine⟨.va v l m,.va v (l+m),by simp[Sg.w];omega,by simp[Sg.w],?_,by simp[Sg.join,Bt.sg],λk j hj=>?_,λk hk=>?_⟩
  ·simp[Sg.bits,List.range_succ]
  ·cases k<;>simp only[Sg.join]at hj
   ·cases hj
   ·split at hj
    ·rename_i hc;cases hj;obtain⟨rfl,rfl⟩:=hc;simp[Sg.join,Bt.sg,Nat.add_assoc]
    ·cases hj
  ·cases k with
   |co b=>rfl
   |va v' l' n' =>
    simp only[Sg.join]at hk⊢;split at hk
    ·cases hk
    ·rename_i hc;rw[AHe hc]
theorem Wb:∀(n:Nat) (s:Sg) (f:List Sg),s.w=n->1<=n->G5 f s=VE f s.bits:=by
 intro n;induction n using Nat.strongRecOn with
 |_ n ih =>
  intro s f hn h1;rcases AG6 1 n with h |h
  ·obtain⟨t,b,ht1,ht2,hb,hj,hlj,hln⟩:=sx s (by omega);rw[hb,Le,<-ih t.w (by omega) t f rfl ht1];show _=G5 (G5 f t) b.sg;rcases List.eq_nil_or_concat f with rfl |⟨g,l,rfl⟩
   ·rw[Qw,Qw,show[t]=[]++[t]from rfl,EI,hj];rfl
   ·rw[List.concat_eq_append,EI,EI];cases hl:l.join t with
    |none =>
     rw[hln l hl];simp only;rw[show g++[l,t]=(g++[l])++[t] by simp,EI,hj];simp
    |some j =>
     simp only;rw[EI,hlj l j hl];cases hls:l.join s with
     |some k=>rfl
     |none =>
      have:=hlj l j hl;rw[hls]at this
      exfalso
      cases l<;>cases s<;>cases t<;>simp[Sg.join]at hl hls hj
      all_goals first |(cases b<;>simp[Bt.sg,Sg.join]at hj<;>done)|skip
      all_goals (cases b<;>simp[Bt.sg,Sg.join]at hj;try omega)
  ·have:n=1:=by omega
   subst this;have hs:∃b:Bt,s=b.sg/\s.bits=[b]:=by
    cases s with
    |co bs =>
     simp only[Sg.w]at hn;obtain⟨x,rfl⟩:=List.length_eq_one_iff.1 hn;exact⟨.co x,rfl,rfl⟩
    |va v l m =>
     simp only[Sg.w]at hn;subst hn;exact⟨.va v l,rfl,by simp[Sg.bits]⟩
   obtain⟨b,hb,Awm⟩:=hs;rw[Awm,hb];rfl
def WU(f:List Sg):Prop:=∀s∈f,1<=s.w
theorem aj{f ss:List Sg}(h:WU ss):Ol f ss=VE f (CX ss):=by
 induction ss generalizing f with
 |nil=>rfl
 |cons s ss ih =>
  rw[show Ol f (s::ss)=Ol (G5 f s) ss from rfl,ih λx hx=>h x (AHn _ hx),Wb _ s f rfl (h s AHq),show CX (s::ss)=s.bits++CX ss from rfl,Le]
theorem Ams{a b j:Sg}(h:a.join b=some j):j.w=a.w+b.w:=by rw[<-J0,ic h,AGZ,J0,J0]
theorem ai{f:List Sg}{s:Sg}(hf:WU f)(hs:1<=s.w):WU (G5 f s):=by
 rcases List.eq_nil_or_concat f with rfl |⟨g,l,rfl⟩
 ·intro x hx;rw[Qw,AHm]at hx;rw[hx];exact hs
 ·rw[List.concat_eq_append]at hf⊢;rw[EI];have hl:=hf l (by simp);cases h:l.join s with
  |none =>
   intro x hx;simp only[List.mem_append,List.mem_cons,List.not_mem_nil,or_false]at hx;rcases hx with hx |rfl |rfl
   ·exact hf x (by simp[hx])
   ·exact hl
   ·exact hs
  |some j =>
   intro x hx;simp only[List.mem_append,List.mem_cons,List.not_mem_nil,or_false]at hx;rcases hx with hx |rfl
   ·exact hf x (by simp[hx])
   ·rw[Ams h];omega
theorem AmH(b:Bt):b.sg.w=1:=by cases b<;>rfl
theorem vf{f:List Sg}(hf:WU f)(bs:List Bt):WU (VE f bs):=by
 induction bs generalizing f with
 |nil=>exact hf
 |cons b bs ih=>exact ih (ai hf (by rw[AmH];exact AG1 _))
theorem CV(bs:List Bt):WU (Av bs):=vf (λx hx=>by cases hx) bs
theorem Cj(bs:List Bt):A6 (Av bs)=bs.length:=by rw[<-M6,Hd]
theorem o6(a b:List Bt):Ol (Av a) (Av b)=Av (a++b):=by
 rw[aj (CV b),Hd];exact(Le [] a b).symm
theorem CP{f:List Sg}(h:WU f):f.length<=A6 f:=by
 induction f with
 |nil=>exact AG1 _
 |cons s f ih =>
  have:=ih λx hx=>h x (AHn _ hx);have:=h s AHq;simp only[A6,List.length_cons,List.map_cons,List.sum_cons]at *;omega
end Go.Va
namespace Go.Proofs.X
open Go Go.Va
set_option maxRecDepth 100000
def fT(bs:AHU):AHM:=xF bs.length λi=>bs.getD i false
def He:Sg->AHJ
 |.co bs=>(-1,0,(bs.length:Int),fT bs,())
 |.va v l n=>((v:Int),(l:Int),(n:Int),(0,[],()),())
def TF:Bt->AHG
 |.co b=>(-1,bI b,())
 |.va v a=>((v:Int),(a:Int),())
def fV(f:List Sg):AHZ:=f.map He
def bV(f:List Bt):AHW:=f.map TF
def Uu:Sg->Prop
 |.co bs=>bs.length<=4096
 |.va v l n=>v<=4096/\l+n<=4096
theorem rQ{bs:AHU}{n:Nat}{f:Nat->Bool}(hl:bs.length=n)(h:∀i,i<n->bs.getD i false=f i):fT bs=xF n f:=by
 unfold fT;rw[hl];exact wD h
theorem Acu{a b:AHU}(h:a.length+b.length<=8192):∃r,EC (fT b) (fT a)=some r/\(r.1,r.2,())=fT (a++b):=by
 refine⟨_,AfR (by omega),(rQ (by rw[AGZ];omega) λi hi=>?_).symm⟩;by_cases h:i<a.length
 ·rw[AHd h];simp[List.getD,AHl,h]
 ·rw[AHe h];simp[List.getD,AHl,h]
theorem tG{bs:AHU}{a w:Nat}(hn:bs.length<=8192)(h1:1<=w)(h:a+w<=bs.length):∃r,Df (fT bs) (a:Int) (w:Int)=some r/\(r.1,r.2,())=fT ((bs.drop a).take w):=by
 refine⟨_,AlF (by omega) h1 h,(rQ (by rw[AHg,AHv];omega) λi hi=>?_).symm⟩;simp[List.getD,hi]
theorem Ab7{a b:Sg}(ha:Uu a):Di (He a) (He b)=a.YA b:=by
 cases a with
 |co x =>
  cases b with
  |co y=>simp[Di,He,Sg.YA,Sg.join]
  |va v l n =>
   simp only[Di,He,Sg.YA,Sg.join,Option.isSome_none,Bool.and_eq_false_iff];left;simp
 |va v l n =>
  cases b with
  |co y =>
   simp only[Di,He,Sg.YA,Sg.join,Option.isSome_none,Bool.and_eq_false_iff];left;simp
  |va v' l' n' =>
   simp only[Uu]at ha;simp only[Di,He,Sg.YA,Sg.join];rw[show wI ((l:Int)+(n:Int))=((l+n:Nat):Int)from A2 (by omega) (by omega)];by_cases h:v=v'/\l+n=l'
   ·rw[AHd h];obtain⟨rfl,rfl⟩:=h;simp
   ·rw[AHe h];simp only[Option.isSome_none,Bool.and_eq_false_iff,Bool.or_eq_false_iff,beq_eq_false_iff_ne,ne_eq];by_cases hv:v=v'
    ·exact .inr ⟨show ¬(v:Int)=-1 by omega,λe=>h ⟨hv,Int.ofNat.inj e⟩⟩
    ·exact .inl λe=>hv (Int.ofNat.inj e)
theorem Zn{A:Type}(g:List A)(x z:A):(g++[x]).getD g.length z=x:=by simp[List.getD]
theorem ea{A:Type}(g:List A)(x y:A):(g++[x]).set g.length y=g++[y]:=by simp
theorem Ow(f g:List Sg):fV (f++g)=fV f++fV g:=List.map_append
theorem BZ(f:List Sg):(fV f).length=f.length:=AG7 _
theorem Iy{A B:Type}(f:A->B){l:List A}{k:Nat}{y:A}{z:B}(h:k<l.length):(l.map f).getD k z=f (l.getD k y):=by simp[List.getD,h]
theorem r9{ss f:List Sg}{k:Nat}{b:Int}(hk:k<ss.length)(hs:Uu (ss.getD k (.co [])))(hf:∀s∈f,Uu s)(hl:f.length<=1048576):Nc (fV ss) b (k:Int) (fV f)=some (fV (G5 f (ss.getD k (.co [])))):=by
 obtain⟨s,dk⟩:∃s,s=ss.getD k (.co []):=⟨_,rfl⟩;have Td:(fV ss).getD k Ae.zero=He s:=by rw[dk];exact Iy He hk
 rw[<-dk]at hs⊢;unfold Nc;rw[AHd (Bl (by rw[BZ];exact hk)),AGW,Td];rcases List.eq_nil_or_concat f with rfl |⟨g,l,rfl⟩
 ·unfold Na;rfl
 ·rw[List.concat_eq_append]at hf hl⊢;have xy:Uu l:=hf l (by simp);have qb:(fV (g++[l])).length=g.length+1:=by rw[BZ,AGZ];rfl
  have e1:wI (((fV (g++[l])).length:Int)-1)=(g.length:Int):=by
   rw[AGZ]at hl;rw[qb];exact A2 (by omega) (by simp at hl;omega)
  have hgl:(fV (g++[l])).getD g.length Ae.zero=He l:=by
   rw[Ow,<-BZ g];exact Zn _ _ _
  have e2:decide ((g.length:Int)<0)=false:=by simp
  have e3:(0:Int)<=(g.length:Int)/\(g.length:Int)<((fV (g++[l])).length:Int):=⟨by omega,by rw[qb];omega⟩;rw[e1,EI];unfold Na;rw[e2,AHa,AHd e3,AGW,hgl,Ab7 xy,AGV];cases hj:l.join s with
  |none =>
   rw[show l.YA s=false by unfold Sg.YA;rw[hj];rfl];show(if(_+1)*56<=_ then _ else none)=_;rw[AHd (by rw[qb];simp at hl;omega)];simp[Ow,fV]
  |some j =>
   rw[show l.YA s=true by unfold Sg.YA;rw[hj];rfl];show(Nb (fV ss) b (k:Int) (fV (g++[l])) (g.length:Int) (He s)).bind _=_;unfold Nb;cases l with
   |co x =>
    cases s with
    |va v' l' n'=>simp[Sg.join]at hj
    |co y =>
     simp only[Sg.join,AGX]at hj;subst hj;simp only[Uu]at xy hs;obtain⟨r,Z3,vZ⟩:=Acu (a:=x) (b:=y) (by omega);rw[show((He (.co y)).1==(-1:Int))=true from rfl,AHb,AHd e3,AGW,hgl];rw[show EC (He (.co y)).2.2.2.1 (He (.co x)).2.2.2.1=some r from Z3,AGV,AHd e3,vZ,AGV];have e4:(0:Int)<=(g.length:Int)/\(g.length:Int)<(((fV (g++[Sg.co x])).set g.length ((He (.co x)).1,(He (.co x)).2.1,(He (.co x)).2.2.1,fT (x++y),(He (.co x)).2.2.2.2)).length:Int):=by rw[AG4];exact e3
     rw[AHd e4,AHd e4];have F8:(fV (g++[Sg.co x])).set g.length ((He (.co x)).1,(He (.co x)).2.1,(He (.co x)).2.2.1,fT (x++y),(He (.co x)).2.2.2.2)=fV g++[(-1,0,(x.length:Int),fT (x++y),())]:=by
      rw[Ow,<-BZ g];exact ea _ _ _
     rw[F8,show(fV g++[((-1,0,(x.length:Int),fT (x++y),()):AHJ)]).getD g.length Ae.zero=(-1,0,(x.length:Int),fT (x++y),()) by rw[<-BZ g];exact Zn _ _ _];simp only;rw[show wI ((x.length:Int)+(He (.co y)).2.2.1)=(((x++y).length:Nat):Int) by
      rw[AGZ];exact A2 (by show(x.length:Int)+(y.length:Int)=_;omega) (by omega)]
     rw[Ow,<-BZ g,ea];rfl
   |va v l n =>
    cases s with
    |co y=>simp[Sg.join]at hj
    |va v' l' n' =>
     simp only[Uu]at xy hs;simp only[Sg.join]at hj;split at hj
     ·rename_i hc;cases hj;rw[show((He (.va v' l' n')).1==(-1:Int))=false by simp[He],AHa,AGV,AHd e3,AHd e3];show some (List.set (fV (g++[Sg.va v l n])) g.length (((fV (g++[Sg.va v l n])).getD g.length Ae.zero).1,((fV (g++[Sg.va v l n])).getD g.length Ae.zero).2.1,wI (((fV (g++[Sg.va v l n])).getD g.length Ae.zero).2.2.1+(He (.va v' l' n')).2.2.1),((fV (g++[Sg.va v l n])).getD g.length Ae.zero).2.2.2))=_;rw[hgl];rw[show wI ((He (.va v l n)).2.2.1+(He (.va v' l' n')).2.2.1)=((n+n':Nat):Int)from A2 (by show(n:Int)+(n':Int)=_;omega) (by omega)];rw[Ow,<-BZ g];show some (List.set (fV g++[He (.va v l n)]) (fV g).length _)=_;rw[ea,Ow];rfl
     ·cases hj
theorem YK{f:List Sg}{s:Sg}(hf:∀x∈f,Uu x)(hs:Uu s)(hw:A6 f+s.w<=4096):∀x∈G5 f s,Uu x:=by
 rcases List.eq_nil_or_concat f with rfl |⟨g,l,rfl⟩
 ·intro x hx;rw[Qw,AHm]at hx;rw[hx];exact hs
 ·rw[List.concat_eq_append]at hf hw⊢;rw[EI];have hl:=hf l (by simp);cases h:l.join s with
  |none =>
   intro x hx;simp only[List.mem_append,List.mem_cons,List.not_mem_nil,or_false]at hx;rcases hx with hx |rfl |rfl
   ·exact hf x (by simp[hx])
   ·exact hl
   ·exact hs
  |some j =>
   intro x hx;simp only[List.mem_append,List.mem_cons,List.not_mem_nil,or_false]at hx;rcases hx with hx |rfl
   ·exact hf x (by simp[hx])
   ·cases l<;>cases s<;>simp only[Sg.join]at h
    ·cases h;simp only[A6,List.map_append,List.sum_append,List.map_cons,List.map_nil,List.sum_cons,List.sum_nil,Sg.w]at hw;simp only[Uu,AGZ];omega
    ·cases h
    ·cases h
    ·split at h
     ·rename_i hc;cases h;simp only[Uu]at hl hs⊢;omega
     ·cases h
theorem dS(f:List Sg)(s:Sg):A6 (G5 f s)=A6 f+s.w:=by
 rw[<-M6,ah,AGZ,M6,J0]
theorem EK{f:List Sg}{k:Nat}(h:k<f.length):A6 (f.take (k+1))=A6 (f.take k)+(f.getD k (.co [])).w:=by
 rw[AX h (z:=.co [])];simp[A6]
theorem Ez(f:List Sg)(k:Nat):A6 (f.take k)<=A6 f:=by
 have:A6 f=A6 (f.take k)+A6 (f.drop k):=by
  unfold A6;rw[<-List.sum_append,<-List.map_append,List.take_append_drop]
 omega
theorem o5{ss f:List Sg}(h1:WU ss)(h2:WU f)(hs:∀s∈ss,Uu s)(hf:∀s∈f,Uu s)(hw:A6 f+A6 ss<=4096):Dk (fV ss) (fV f)=some (fV (Ol f ss)):=by
 unfold Dk TL;have hlen:=CP h1;have Ui:∀k,k<=ss.length->WU (Ol f (ss.take k))/\(∀s∈Ol f (ss.take k),Uu s)/\A6 (Ol f (ss.take k))=A6 f+A6 (ss.take k):=by
  intro k;induction k with
  |zero=>exact λ_=>⟨h2,hf,rfl⟩
  |succ k ih =>
   intro hk;obtain⟨i1,i2,i3⟩:=ih (by omega);have hm:ss.getD k (.co [])∈ss:=AG (by omega);have hwk:=EK (show k<ss.length by omega);have:=Ez ss (k+1);have e:Ol f (ss.take (k+1))=G5 (Ol f (ss.take k)) (ss.getD k (.co [])):=by
    rw[AX (show k<ss.length by omega) (z:=.co [])];exact List.foldl_append
   rw[e];exact⟨ai i1 (h1 _ hm),YK i2 (hs _ hm) (by omega),by rw[dS,i3,hwk];omega⟩
 have:=AQ (f:=Ft (fV ss) ((fV ss).length:Int)) (λk=>((k:Int),fV (Ol f (ss.take k)))) (t:=fV (Ol f ss)) ss.length (λk hk=>by
  obtain⟨i1,i2,i3⟩:=Ui k (by omega);have hm:ss.getD k (.co [])∈ss:=AG hk;have:=Ez ss k;unfold Ft Nv;simp only;rw[BZ,DN hk,AHb];rw[r9 hk (hs _ hm) i2 (by have:=CP i1;omega),AGV,Bi hk (by omega),AX hk (z:=.co [])];rw[show Ol f (ss.take k++[ss.getD k (.co [])])=G5 (Ol f (ss.take k)) (ss.getD k (.co []))from List.foldl_append]) (by
  unfold Ft Nv;simp only;rw[BZ,EB,AHa,AG5 (AG1 _)])
 rw[show fix (Ft (fV ss) ((fV ss).length:Int)) (0,fV f)=some (fV (Ol f ss))from this];rfl
theorem j7{f:List Sg}(h1:WU f)(hw:A6 f<=4096):EG (fV f)=some (A6 f:Int):=by
 unfold EG O7;have hlen:=CP h1;have:=AQ (f:=CO (fV f) ((fV f).length:Int)) (λk=>((A6 (f.take k):Int),(k:Int))) (t:=(A6 f:Int)) f.length (λk hk=>by
  have h1:=EK hk;have h2:=Ez f (k+1);unfold CO Ij;simp only;rw[BZ,DN hk,AHb,AHd (Bl hk),AGW];rw[Bi hk (by omega),show(fV f).getD k Ae.zero=He (f.getD k (.co []))from Iy He hk];rw[show(He (f.getD k (.co []))).2.2.1=((f.getD k (.co [])).w:Int) by cases f.getD k (.co [])<;>rfl];rw[show wI ((A6 (f.take k):Int)+((f.getD k (.co [])).w:Int))=(A6 (f.take (k+1)):Int)from A2 (by omega) (by omega)]) (by
  unfold CO Ij;simp only;rw[BZ,EB,AHa,AG5 (AG1 _)])
 rw[show fix (CO (fV f) ((fV f).length:Int)) (0,0)=some (A6 f:Int)from this];rfl
def part(s:Sg)(a w:Nat):Sg :=
 match s with
 |.co bs=>.co ((bs.drop a).take w)
 |.va v l _=>.va v (l+a) w
theorem iL{s:Sg}{a w:Nat}(h:a+w<=s.w):(part s a w).bits=(s.bits.drop a).take w:=by
 cases s with
 |co bs=>simp[part,Sg.bits]
 |va v l n =>
  simp only[Sg.w]at h;simp only[part,Sg.bits];refine List.ext_getElem (by simp;omega) λi h1 h2=>?_;simp[Nat.add_assoc]
theorem rW{s:Sg}{a w:Nat}(h:a+w<=s.w):(part s a w).w=w:=by
 rw[<-J0,iL h,AHg,AHv,J0];omega
theorem rV{s:Sg}{a w:Nat}(hs:Uu s)(h:a+w<=s.w):Uu (part s a w):=by
 cases s with
 |co bs=>simp only[part,Uu,AHg,AHv]at *;omega
 |va v l n=>simp only[part,Uu,Sg.w]at *;omega
theorem sj{s:Sg}{a w:Nat}(hs:Uu s)(h1:1<=w)(h:a+w<=s.w):∃r,Kg (He s) (a:Int) (w:Int)=some r/\(r.1,r.2.1,r.2.2.1,(r.2.2.2.1,r.2.2.2.2,()),())=He (part s a w):=by
 unfold Kg;cases s with
 |co bs =>
  simp only[Uu]at hs;simp only[Sg.w]at h;obtain⟨r,Z3,vZ⟩:=tG (show bs.length<=8192 by omega) h1 h;rw[show((He (.co bs)).1==(-1:Int))=true from rfl,AHb,show Df (He (.co bs)).2.2.2.1 (a:Int) (w:Int)=some r from Z3];refine⟨_,rfl,?_⟩;have hw:r.1=(w:Int):=by
   have:=congrArg (λx:AHM=>x.1) vZ;have e:r.1=((((bs.drop a).take w).length:Nat):Int):=this;rw[e,AHg,AHv];congr 1;omega
  show(-1,0,r.1,(r.1,r.2,()),())=He (.co ((bs.drop a).take w));rw[vZ];rw[show He (.co ((bs.drop a).take w))=(-1,0,(((bs.drop a).take w).length:Int),fT ((bs.drop a).take w),())from rfl,hw,show((bs.drop a).take w).length=w by rw[AHg,AHv];omega]
 |va v l n =>
  simp only[Uu]at hs;simp only[Sg.w]at h;rw[show((He (.va v l n)).1==(-1:Int))=false by simp[He],AHa];refine⟨_,rfl,?_⟩;simp only[part,He];rw[show wI ((l:Int)+(a:Int))=((l+a:Nat):Int)from A2 (by omega) (by omega)]
theorem cM{f:List Sg}{k:Nat}(h:k<f.length):(fV f).getD k Ae.zero=He (f.getD k (.co [])):=Iy He h
theorem Ve{f:List Sg}{k:Nat}(h:k<f.length):CX (f.take (k+1))=CX (f.take k)++(f.getD k (.co [])).bits:=by
 rw[AX h (z:=.co [])];simp[CX]
theorem Xd(s:Sg):(He s).2.2.1=(s.w:Int):=by cases s<;>rfl
theorem AaK{B S:List Bt}{lo w:Nat}:((B++S).drop lo).take w=(B.drop lo).take w++(S.drop (max lo B.length-B.length)).take (min (lo+w) (B.length+S.length)-max lo B.length):=by
 rw[List.drop_append,List.take_append,AHv];congr 1;rw[show max lo B.length-B.length=lo-B.length by omega,List.take_eq_take_iff,AHv];omega
theorem SJ{bs:List Bt}(hb:∀b∈bs,Uu b.sg)(hl:bs.length<=4096):∀s∈Av bs,Uu s:=by
 have:∀(bs:List Bt) (f:List Sg),(∀b∈bs,Uu b.sg)->(∀s∈f,Uu s)->A6 f+bs.length<=4096->∀s∈VE f bs,Uu s:=λbs=>by
  induction bs with
  |nil=>exact λf _ h _=>h
  |cons b bs ih =>
   intro f hb hf hw;simp only[List.length_cons]at hw;exact ih _ (λx hx=>hb x (AHn _ hx)) (YK hf (hb b AHq) (by rw[AmH];omega)) (by rw[dS,AmH];omega)
 exact this bs [] hb (λs hs=>by cases hs) (by show 0+_<=_;omega)
theorem nI{f:List Sg}{lo w:Nat}(h1:WU f)(hf:∀s∈f,Uu s)(hb:∀b∈CX f,Uu b.sg)(hw:A6 f<=4096)(xB:lo+w<=8192):Dh (fV f) (lo:Int) (w:Int)=some (fV (Av (((CX f).drop lo).take w))):=by
 unfold Dh Qo;have hlen:=CP h1;have:=AQ (f:=Ec (lo:Int) (w:Int) (fV f) ((fV f).length:Int)) (λk=>((A6 (f.take k):Int),(k:Int),fV (Av (((CX (f.take k)).drop lo).take w)))) (t:=fV (Av (((CX f).drop lo).take w))) f.length (λk hk=>by
  have hwk:=EK hk;have RX:=Ez f (k+1);have hm:f.getD k (.co [])∈f:=AG hk;obtain⟨s,hs⟩:∃s,s=f.getD k (.co []):=⟨_,rfl⟩;have hB:(CX (f.take k)).length=A6 (f.take k):=M6 _;have AbD:∀b∈((CX (f.take k)).drop lo).take w,b∈CX f:=λb hb=>by
   have:=List.mem_of_mem_drop (List.mem_of_mem_take hb);rw[show CX f=CX (f.take k)++CX (f.drop k) by unfold CX;rw[<-List.flatMap_append,List.take_append_drop]];exact AHt _ this
  unfold Ec Jk;simp only;rw[BZ,DN hk,AHb,AHd (Bl hk),AGW,cM hk,Bi hk (by omega),Ve hk,AaK,hB,J0,hwk];rw[<-hs]at hm hwk⊢;rw[Xd,show wI ((A6 (f.take k):Int)+(s.w:Int))=((A6 (f.take k)+s.w:Nat):Int)from A2 (by omega) (by omega),show wI ((lo:Int)+(w:Int))=((lo+w:Nat):Int)from A2 (by omega) (by omega)];generalize hA:A6 (f.take k)=A at *;rw[show(if(A:Int)>(lo:Int)then(A:Int)else(lo:Int))=((max lo A:Nat):Int) by split<;>omega];rw[show(if((A+s.w:Nat):Int)<((lo+w:Nat):Int)then((A+s.w:Nat):Int)else((lo+w:Nat):Int))=((min (lo+w) (A+s.w):Nat):Int) by split<;>omega];unfold L1;by_cases Bj:max lo A<min (lo+w) (A+s.w)
  ·rw[show decide (((max lo A:Nat):Int)<((min (lo+w) (A+s.w):Nat):Int))=true by simp only[decide_eq_true_eq];omega,AHb];rw[show wI (((max lo A:Nat):Int)-(A:Int))=((max lo A-A:Nat):Int)from A2 (by omega) (by omega),show wI (((min (lo+w) (A+s.w):Nat):Int)-((max lo A:Nat):Int))=((min (lo+w) (A+s.w)-max lo A:Nat):Int)from A2 (by omega) (by omega)];have Fx:max lo A-A+(min (lo+w) (A+s.w)-max lo A)<=s.w:=by omega
   obtain⟨r,Z3,vZ⟩:=sj (a:=max lo A-A) (w:=min (lo+w) (A+s.w)-max lo A) (hf s hm) (by omega) Fx;rw[Z3,AGV,vZ];rw[show([He (part s (max lo A-A) (min (lo+w) (A+s.w)-max lo A))]:AHZ)=fV [part s (max lo A-A) (min (lo+w) (A+s.w)-max lo A)]from rfl];rw[o5 (λx hx=>by rw[AHm]at hx;rw[hx,rW Fx];omega) (CV _) (λx hx=>by rw[AHm]at hx;rw[hx];exact rV (hf s hm) Fx)
    (SJ (λb p9=>hb b (AbD b p9)) (by rw[AHg,AHv,hB];omega)) (by
     rw[Cj,AHg,AHv,hB];show _+(A6 [part s _ _])<=_;rw[show A6 [part s (max lo A-A) (min (lo+w) (A+s.w)-max lo A)]=min (lo+w) (A+s.w)-max lo A by simp only[A6,List.map_cons,List.map_nil,List.sum_cons,List.sum_nil,rW Fx];rfl];omega)]
   simp only[AGV];rw[aj (λx hx=>by rw[AHm]at hx;rw[hx,rW Fx];omega)];rw[show CX [part s (max lo A-A) (min (lo+w) (A+s.w)-max lo A)]=(s.bits.drop (max lo A-A)).take (min (lo+w) (A+s.w)-max lo A) by simp[CX,iL Fx]];rw[show ∀a b:List Bt,VE (Av a) b=Av (a++b)from λa b=>(Le [] a b).symm]
  ·rw[show decide (((max lo A:Nat):Int)<((min (lo+w) (A+s.w):Nat):Int))=false by simp only[decide_eq_false_iff_not];omega,AHa];simp only[AGV];rw[show min (lo+w) (A+s.w)-max lo A=0 by omega,List.take_zero,AHA]) (by
  unfold Ec Jk;simp only;rw[BZ,EB,AHa,AG5 (AG1 _)])
 have h0:((A6 (f.take 0):Int),((0:Nat):Int),fV (Av (((CX (f.take 0)).drop lo).take w)))=((0:Int),(0:Int),([]:AHZ)):=by
  simp[A6,CX,Av,VE,fV]
 rw[h0]at this;rw[this];rfl
def BtB:Bt->Prop
 |.co _=>True
 |.va v a=>v<=4096/\a+1<=4096
theorem jG{b:Bt}(h:BtB b):Uu b.sg:=by
 cases b with
 |co b=>simp[Bt.sg,Uu]
 |va v a=>exact h
theorem C1(f:List Bt):(bV f).length=f.length:=AG7 _
theorem T3(f g:List Bt):bV (f++g)=bV f++bV g:=List.map_append
theorem b7{f:List Bt}{k:Nat}(h:k<f.length):(bV f).getD k Aa.zero=TF (f.getD k (.co false)):=Iy TF h
theorem LO{f:List Bt}{k:Nat}(h:k<f.length):f.take (k+1)=f.take k++[f.getD k (.co false)]:=AX h
theorem iE(bs:AHU):(fT bs).2.1.length=nw bs.length/\DU (fT bs).2.1:=⟨HC _ _,Hb _ _⟩
theorem AfM{bs:AHU}{k:Nat}(h:k<bs.length)(hl:bs.length<=8192):GL (fT bs) (k:Int)=some (bI (bs.getD k false)):=by
 have:=dy (w:=(bs.length:Int)) (Hb (low (λi=>bs.getD i false) bs.length) (nw bs.length)) (i:=k) (by rw[HC];unfold nw;omega) (by rw[HC];unfold nw;omega);rw[za h]at this;exact this
theorem rN{f:List Sg}{i:Nat}{B:List Bt}(hi:i<f.length)(hs:Uu (f.getD i (.co [])))(hB:B.length<=8192):PE (fV f) (i:Int) 0 (bV B)=some (bV (B++(f.getD i (.co [])).bits)):=by
 unfold PE;obtain⟨s,dk⟩:∃s,s=f.getD i (.co []):=⟨_,rfl⟩;rw[<-dk]at hs⊢;have hsw:s.w<=4096:=by cases s<;>simp only[Uu,Sg.w]at *<;>omega
 have:=AQ (f:=Gi (fV f) (i:Int)) (λk=>((k:Int),bV (B++s.bits.take k))) (t:=bV (B++s.bits)) s.w (λk hk=>by
  unfold Gi Mu PD;simp only;have lW:(0:Int)<=(i:Int)/\(i:Int)<((fV f).length:Int):=Bl (by rw[BZ];exact hi);rw[AHd lW,AGW,cM hi,<-dk,Xd,DN hk,AHb,AHd lW];have hlen:(bV (B++s.bits.take k)).length<=20000:=by rw[C1,AGZ,AHg];omega
  have TV:k<s.bits.length:=by rw[J0];exact hk
  rw[Bi hk (by omega),LO TV,<-AG3,show bV (B++s.bits.take k++[s.bits.getD k (.co false)])=bV (B++s.bits.take k)++[TF (s.bits.getD k (.co false))]from T3 _ _];cases s with
  |co bs =>
   simp only[Sg.w]at hk hsw;rw[show decide ((He (.co bs)).1<0)=true from rfl,AHb,AHd lW,show GL (He (.co bs)).2.2.2.1 (k:Int)=some (bI (bs.getD k false))from AfM hk (by omega),AGV];rw[AHd (by show(_+1)*16<=_;omega),AGV];rw[show wI (bI (bs.getD k false))=bI (bs.getD k false) by cases bs.getD k false<;>rfl];rw[show(Sg.co bs).bits.getD k (.co false)=.co (bs.getD k false) by simp[Sg.bits,List.getD,hk]];rfl
  |va v l n =>
   simp only[Sg.w,Uu]at hk hs hsw;rw[show decide ((He (.va v l n)).1<0)=false from AGY (show ¬((v:Int)<0) by omega),AHa,AHd lW,AHd lW,AHd (by show(_+1)*16<=_;omega),AGV];rw[show wI ((He (.va v l n)).2.1+(k:Int))=((l+k:Nat):Int)from A2 (by show(l:Int)+(k:Int)=_;omega) (by omega)];rw[show(Sg.va v l n).bits.getD k (.co false)=.va v (l+k) by simp[Sg.bits,List.getD,hk]];rfl) (by
  unfold Gi Mu;simp only;have lW:(0:Int)<=(i:Int)/\(i:Int)<((fV f).length:Int):=Bl (by rw[BZ];exact hi);rw[AHd lW,AGW,cM hi,<-dk,Xd,EB,AHa,<-J0,AG5 (AG1 _)])
 rw[List.take_zero,AHA]at this;exact this
theorem wq{f:List Sg}(h1:WU f)(hf:∀s∈f,Uu s)(hw:A6 f<=4096):OL (fV f)=some (bV (CX f)):=by
 unfold OL S4;have hlen:=CP h1;have:=AQ (f:=En (fV f)) (λk=>((k:Int),bV (CX (f.take k)))) (t:=bV (CX f)) f.length (λk hk=>by
  unfold En Mv;simp only;have:=Ez f k;rw[BZ,DN hk,AHb,rN hk (hf _ (AG hk)) (by rw[M6];omega),AGV,Bi hk (by omega),Ve hk]) (by
  unfold En Mv;simp only;rw[BZ,EB,AHa,AG5 (AG1 _)])
 rw[show fix (En (fV f)) (0,([]:AHW))=some (bV (CX f))from this];rfl
theorem tq(b:Bt):decide ((TF b).1<0)=(match b with |.co _=>true |.va _ _=>false):=by
 cases b with
 |co b=>rfl
 |va v a=>exact AGY (show ¬((v:Int)<0) by omega)
theorem AmF{B:List Bt}{D:AHZ}{i:Nat}{b:Bool}(hi:i<B.length)(hb:B.getD i (.co false)=.co b)(hl:B.length<=4096) :
    Ax (PH (bV B) D ((i+1:Nat):Int) [bI b]) λr=>∃bs:AHU,r=(((i+bs.length:Nat):Int),bs.map bI)/\1<=bs.length/\i+bs.length<=B.length/\bs.getD 0 false=b/\B.take (i+bs.length)=B.take i++bs.map .co/\(i+bs.length<B.length->∃v a,B.getD (i+bs.length) (.co false)=.va v a):=by
 unfold PH;refine B8 (λm (x:Int×AHT)=>∃bs:AHU,x=(((i+bs.length:Nat):Int),bs.map bI)/\1<=bs.length/\i+bs.length<=B.length/\bs.getD 0 false=b/\B.take (i+bs.length)=B.take i++bs.map .co/\m=B.length-(i+bs.length)) (λm x hI=>?_) (B.length-(i+1)) _ ⟨[b],rfl,by simp,hi,rfl,by
  show B.take (i+1)=_;rw[LO hi,hb];rfl,rfl⟩
 obtain⟨bs,rfl,h1,h2,h3,h4,rfl⟩:=hI;unfold Mw QC PG;simp only;rcases AG6 (i+bs.length) B.length with h |h
 ·rw[C1,DN h,AHb,AHd (Bl h),AGW,b7 h,tq];cases hx:B.getD (i+bs.length) (.co false)with
  |co y =>
   simp only[AHb,AGV,Sum.elim_inl];rw[AHd (Bl h),AHd (by show(_+1)*1<=_;rw[AG7];omega),Bi h (by omega)];refine Ax.mk ⟨_,?_,bs++[y],?_,by simp,by simp;omega,?_,?_,rfl⟩
   ·simp only[AGZ,List.length_cons,List.length_nil];omega
   ·rw[show IntKind.u8.wrap (TF (.co y)).2.1=bI y by cases y<;>rfl];simp[Nat.add_assoc]
   ·rw[<-h3];cases bs with
    |nil=>simp at h1
    |cons z zs=>rfl
   ·rw[AGZ,<-Nat.add_assoc];show B.take (i+bs.length+1)=_;rw[LO h,h4,hx,List.map_append,AG3];rfl
  |va v a =>
   simp only[AHa,AGV,Sum.elim_inr];exact Ax.mk ⟨bs,rfl,h1,h2,h3,h4,λ_=>⟨v,a,hx⟩⟩
 ·rw[C1,show decide (((i+bs.length:Nat):Int)<(B.length:Int))=false from AGY (by omega),AHa,AGV,Sum.elim_inr];exact Ax.mk ⟨bs,rfl,h1,h2,h3,h4,λh'=>absurd h' (by omega)⟩
theorem AmG{B:List Bt}{D:AHZ}{i v a:Nat}(hi:i<B.length)(hb:B.getD i (.co false)=.va v a)(hB:∀b∈B,BtB b)(hl:B.length<=4096) :
    Ax (PK (bV B) (i:Int) D ((i+1:Nat):Int)) λr=>∃n,r=((i+n:Nat):Int)/\1<=n/\i+n<=B.length/\B.take (i+n)=B.take i++(Sg.va v a n).bits/\(i+n<B.length->(Sg.va v a n).join (B.getD (i+n) (.co false)).sg=none):=by
 unfold PK;refine B8 (λm (x:Int)=>∃n,x=((i+n:Nat):Int)/\1<=n/\i+n<=B.length/\B.take (i+n)=B.take i++(Sg.va v a n).bits/\m=B.length-(i+n)) (λm x hI=>?_) (B.length-(i+1)) _ ⟨1,rfl,by omega,hi,by
  rw[LO hi,hb];rfl,rfl⟩
 obtain⟨n,rfl,h1,h2,h4,rfl⟩:=hI;unfold Mx QD PI;have AgO:B.getD (i+n-1) (.co false)=.va v (a+n-1):=by
  have e:(B.take (i+n)).getD (i+n-1) (.co false)=B.getD (i+n-1) (.co false):=by
   simp only[List.getD,List.getElem?_take,show i+n-1<i+n by omega,if_true]
  rw[<-e,h4];have hti:(B.take i).length=i:=by rw[AHg];omega
  simp only[List.getD,AHl,hti,show ¬i+n-1<i by omega,if_false];rw[show i+n-1-i=n-1 by omega];simp only[Sg.bits,AHo,List.getElem?_range,show n-1<n by omega,Option.map_some,Option.getD_some];congr 1;omega
 have MR:=hB (.va v (a+n-1)) (by rw[<-AgO];exact AG (by omega));simp only[BtB]at MR;rcases AG6 (i+n) B.length with h |h
 ·rw[C1,DN h,AHb,AHd (Bl h),AGW,AGW,b7 h,AHd (Bl hi),b7 hi,hb];rw[show wI (((i+n:Nat):Int)-1)=((i+n-1:Nat):Int)from A2 (by omega) (by omega),AGW,b7 (by omega),AgO,AHd (Bl h),AHd (Bl (by omega))];rw[show wI ((TF (.va v (a+n-1))).2.1+1)=((a+n:Nat):Int)from A2 (by show((a+n-1:Nat):Int)+1=_;omega) (by omega)];by_cases hc:B.getD (i+n) (.co false)=.va v (a+n)
  ·rw[hc];rw[show((TF (.va v (a+n))).1==(TF (.va v a)).1)=true from beq_self_eq_true (v:Int),AHb,show((TF (.va v (a+n))).2.1==((a+n:Nat):Int))=true from beq_self_eq_true _,AHb,AGV,Sum.elim_inl,Bi h (by omega)];refine Ax.mk ⟨_,?_,n+1,by rw[Nat.add_assoc],by omega,by omega,?_,rfl⟩
   ·omega
   ·rw[<-Nat.add_assoc,LO h,h4,hc];simp[Sg.bits,List.range_succ]
  ·have Vx:(bif (TF (B.getD (i+n) (.co false))).1==(TF (.va v a)).1 then(bif (TF (B.getD (i+n) (.co false))).2.1==((a+n:Nat):Int)then some (.inl ())else some (.inr ()))else some (.inr ()):Option (Unit⊕Unit))=some (.inr ()):=by
     cases hx:B.getD (i+n) (.co false)with
     |co y=>rw[show((TF (.co y)).1==(TF (.va v a)).1)=false by simp[TF]];rfl
     |va v' a' =>
      by_cases hv:v'=v
      ·by_cases ha:a'=a+n
       ·subst hv ha;exact absurd hx hc
       ·rw[show((TF (.va v' a')).2.1==((a+n:Nat):Int))=false from beq_eq_false_iff_ne.2 λe=>ha (Int.ofNat.inj e)];cases ((TF (.va v' a')).1==(TF (.va v a)).1)<;>rfl
      ·rw[show((TF (.va v' a')).1==(TF (.va v a)).1)=false from beq_eq_false_iff_ne.2 λe=>hv (Int.ofNat.inj e)];rfl
   refine Ax.of (a:=.inr ((i+n:Nat):Int)) (by
    have:=congrArg (λo=>o.bind (Sum.elim (λ(_:Unit)=>some (.inl (wI (((i+n:Nat):Int)+1)))) (λ(_:Unit)=>some (.inr ((i+n:Nat):Int):Int⊕Int)))) Vx;exact this) ?_
   refine⟨n,rfl,h1,h2,h4,λ_=>?_⟩;cases hx:B.getD (i+n) (.co false)with
   |co y=>rfl
   |va v' a' =>
    simp only[Sg.join,Bt.sg];rw[AHe]
    rintro⟨rfl,rfl⟩
    exact hc hx
 ·rw[C1,show decide (((i+n:Nat):Int)<(B.length:Int))=false from AGY (by omega),AHa,AGV,Sum.elim_inr];exact Ax.mk ⟨n,rfl,h1,h2,h4,λh'=>absurd h' (by omega)⟩
theorem Adl{l s:Sg}{b:Bt}{r:List Bt}(hs:s.bits=b::r)(h:l.join b.sg=none):l.join s=none:=by
 cases s with
 |co bs =>
  cases bs with
  |nil=>simp[Sg.bits]at hs
  |cons x xs =>
   simp only[Sg.bits,List.map_cons,List.cons.injEq]at hs;obtain⟨rfl,_⟩:=hs;cases l<;>simp[Sg.join,Bt.sg]at h⊢
 |va v a n =>
  cases n with
  |zero=>simp[Sg.bits]at hs
  |succ n =>
   simp only[Sg.bits,List.range_succ_eq_map,List.map_cons,List.cons.injEq]at hs;obtain⟨rfl,_⟩:=hs;cases l with
   |co y=>rfl
   |va v' l' n' =>
    simp only[Sg.join,Bt.sg,Nat.add_zero]at h⊢;split at h
    ·cases h
    ·rename_i hc;rw[AHe hc]
def Stop(f:List Sg)(b:Bt):Prop:=∀l,f.getLast?=some l->l.join b.sg=none
theorem sA{f:List Sg}{s:Sg}{b:Bt}{r:List Bt}(h:Stop f b)(hs:s.bits=b::r):G5 f s=f++[s]:=by
 unfold G5;cases hl:f.getLast? with
 |none=>rw[List.getLast?_eq_none_iff]at hl;subst hl;rfl
 |some l=>simp only[Adl hs (h l hl)]
theorem Acl{B:List Bt}{s:Sg}{b:Bt}{r:List Bt}(h:Stop (Av B) b)(hs:s.bits=b::r)(hw:1<=s.w):Av (B++s.bits)=Av B++[s]:=by
 rw[show Av (B++s.bits)=VE (Av B) s.bits from Le [] B s.bits,<-Wb _ s _ rfl hw,sA h hs]
theorem wu{B:List Bt}(hB:∀b∈B,BtB b)(hl:B.length<=4096):OM (bV B)=some (decide ((Av B).length<=2000),fV (Av B)):=by
 unfold OM RG;refine Ax.eq_ (Ax.bind (P:=λr=>r=fV (Av B)) ?_ λr hr=>Ax.mk (by
  rw[hr,BZ];congr 1;rw[decide_eq_decide];omega))
 refine B8 (λm (x:Int×AHZ)=>∃i:Nat,x=((i:Int),fV (Av (B.take i)))/\i<=B.length/\(i<B.length->Stop (Av (B.take i)) (B.getD i (.co false)))/\m=B.length-i) (λm x hI=>?_) B.length _ ⟨0,rfl,Nat.zero_le _,λ_ l hl=>by simp[Av,VE]at hl,rfl⟩;obtain⟨i,rfl,hi,BH,rfl⟩:=hI;unfold KW PF;simp only;rcases AG6 i B.length with h |h
 ·rw[C1,DN h,AHb,Bi h (by omega)];have qb:(fV (Av (B.take i))).length<=4096:=by
   have h1:=CP (CV (B.take i));rw[Cj,AHg]at h1;rw[BZ];omega
  have key:∀s:Sg,∀n,n=s.w->1<=n->i+n<=B.length->B.take (i+n)=B.take i++s.bits->(i+n<B.length->s.join (B.getD (i+n) (.co false)).sg=none)->(s.bits.head?=some (B.getD i (.co false))) ->
      (fV (Av (B.take i))++[He s]=fV (Av (B.take (i+n))))/\(i+n<B.length->Stop (Av (B.take (i+n))) (B.getD (i+n) (.co false))):=by
   rintro s n rfl h1 h2 h3 h4 h5
   obtain⟨r,hr⟩:∃r,s.bits=B.getD i (.co false)::r:=by
    cases hs:s.bits with
    |nil=>rw[hs]at h5;cases h5
    |cons c r=>rw[hs]at h5;simp only[List.head?_cons,AGX]at h5;exact⟨r,by rw[h5]⟩
   have hn:=Acl (BH h) hr h1;rw[h3,hn];refine⟨by rw[Ow];rfl,λBj l hl=>?_⟩;rw[List.getLast?_append]at hl;simp only[List.getLast?_singleton,Option.some_or,AGX]at hl;subst hl;exact h4 Bj
  unfold PL;rw[C1,AHd (Bl h),AGW,b7 h,tq];cases hx:B.getD i (.co false)with
  |co b =>
   simp only[AHb];rw[AHd (Bl h),show IntKind.u8.wrap (TF (.co b)).2.1=bI b by cases b<;>rfl];have DR:=AmF (D:=fV (Av (B.take i))) h hx hl;refine Ax.bind (P:=λy=>∃n,y=(((i+n:Nat):Int),fV (Av (B.take (i+n))))/\1<=n/\i+n<=B.length/\(i+n<B.length->Stop (Av (B.take (i+n))) (B.getD (i+n) (.co false)))) (DR.bind λy hy=>?_) λy hy=>?_
   ·obtain⟨bs,rfl,h1,h2,h3,h4,h5⟩:=hy;have hk:=key (.co bs) bs.length rfl h1 h2 h4 (λBj=>by obtain⟨v,a,e⟩:=h5 Bj;rw[e];rfl) (by
     rw[hx];cases bs with
     |nil=>simp at h1
     |cons z zs=>simp only[Sg.bits,List.map_cons,List.head?_cons];rw[<-h3];rfl)
    rw[iq h1 (by omega),AGV,AHd (by show(_+1)*56<=_;omega)];exact Ax.mk ⟨bs.length,by rw[<-hk.1];rfl,h1,h2,hk.2⟩
   ·obtain⟨n,rfl,h1,h2,h3⟩:=hy;exact Ax.mk ⟨B.length-(i+n),by omega,i+n,rfl,h2,h3,rfl⟩
  |va v a =>
   simp only[AHa];have DR:=AmG (D:=fV (Av (B.take i))) h hx hB hl;refine Ax.bind (P:=λy=>∃n,y=(((i+n:Nat):Int),fV (Av (B.take (i+n))))/\1<=n/\i+n<=B.length/\(i+n<B.length->Stop (Av (B.take (i+n))) (B.getD (i+n) (.co false)))) (DR.bind λy hy=>?_) λy hy=>?_
   ·obtain⟨n,rfl,h1,h2,h4,h5⟩:=hy;have hk:=key (.va v a n) n rfl h1 h2 h4 h5 (by
     rw[hx];obtain⟨m,rfl⟩:∃m,n=m+1:=⟨n-1,by omega⟩;simp[Sg.bits,List.range_succ_eq_map])
    rw[AHd (Bl h),AHd (Bl h),AHd (by show(_+1)*56<=_;omega),show wI (((i+n:Nat):Int)-(i:Int))=(n:Int)from A2 (by omega) (by omega)];exact Ax.mk ⟨n,by rw[<-hk.1];rfl,h1,h2,hk.2⟩
   ·obtain⟨n,rfl,h1,h2,h3⟩:=hy;exact Ax.mk ⟨B.length-(i+n),by omega,i+n,rfl,h2,h3,rfl⟩
 ·have:i=B.length:=by omega
  subst this;rw[C1,EB,AHa,AG5 (AG1 _)];exact Ax.mk rfl
end Go.Proofs.X
