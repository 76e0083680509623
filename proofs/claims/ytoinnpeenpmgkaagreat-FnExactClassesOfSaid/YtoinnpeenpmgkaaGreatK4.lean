import Derived.KernelRfl
import Derived.Test.YtoinnpeenpmgkaaGreatK3
set_option linter.unusedVariables false
set_option linter.unusedSimpArgs false
namespace Go.Proofs.X
open Go Go.Va Go.Proofs.Tryz
set_option maxRecDepth 100000
noncomputable section
abbrev cM:=eN [(89,c89),(91,c91),(109,AxS),(134,Ax3)] {rl:=[(59,4),(67,4),(151,4)],A1:=[(6,{Bb:=[2,7,9,10],Ck:=[(9,false,.row [] 156 Ao true)]}),(9,[2,7,9,10,11]),(17,[2,9,13]),(20,[2,9,13,14]),(24,[2,9,13,14,15,16]),(31,[2,9,13,14,15,16,17,18])],Bv:=[(6,[2,9]),(9,[2,7,9,10]),(17,{Bb:=[]}),(20,[2,9,13]),(24,[2,9,13,14]),(31,[2,9,13,14,15,16])],BR:=[(10,[2,7,9,10,11]),(25,[2,9,13,14,15,16]),(29,[2,9,13,14,15,16,17]),(30,[2,9,13,14,15,16,17]),(32,[2,9,13,14,15,16,17,18]),(36,[2,9,13,14,15,16,17,18,20,142])],D2:=[(10,[2,7,9,10,11]),(25,[2,9,13,14,15,16]),(29,[2,9,13,14,15,16,17]),(30,[2,9,13,14,15,16,17]),(32,[2,9,13,14,15,16,17,18]),(36,[2,9,13,14,15,16,17,18,19,20])]}
def AmG a (z_:Bool×ALM):=sT 159 [(2,.Am 0),(9,.Am 1),(13,dB z_.1)] [.row 154 .Ai ALW z_.2,.row 156 .Ai Ao a]
def Ak2(a:ALI):=λ(b:ALM)=>xE 4 159 [] [.row 154 .Ai ALW b]
def AmF a (z_:Bool×Int×ALM):=sT 159 [(2,.Am 0),(9,.Am 1),(13,dB z_.1),(14,dI z_.2.1)] [.row 154 .Ai ALW z_.2.2,.row 156 .Ai Ao a]
def Ak1 a:=λ(c:(Bool×ALM))=>xE 6 159 [(2,.Am 0),(9,.Am 1),(13,dB c.1)] [.row 154 .Ai ALW c.2,.row 156 .Ai Ao a]
def AmE d a e (z_:Bool×Int×ALM):=sT 159 [(2,.Am 0),(9,.Am 1),(13,dB z_.1),(14,dI d),(15,dI e),(16,dI z_.2.1)] [.row 154 .Ai ALW z_.2.2,.row 156 .Ai Ao a]
def Ak0 d a (e:Int):=λ(g:(Bool×ALM))=>xE 8 159 [(2,.Am 0),(9,.Am 1),(13,dB g.1),(14,dI d)] [.row 154 .Ai ALW g.2,.row 156 .Ai Ao a]
def AmD i d e j k a:=sT 159 [(2,.Am 0),(9,.Am 1),(13,dB i),(14,dI d),(15,dI e),(16,dI j)] [.row 154 .Ai ALW k,.row 156 .Ai Ao a]
def AkZ(i:Bool) d e j (k:ALM) a:=λ(l:(Bool×ALM))=>xN 159 [(2,.Am 0),(9,.Am 1),(13,dB l.1),(14,dI d),(15,dI e),(16,dI j)] [.row 154 .Ai ALW l.2,.row 156 .Ai Ao a]
def AtU d e j a n (z_:Bool×Int×ALM):=sT 159 [(2,.Am 0),(9,.Am 1),(13,dB z_.1),(14,dI d),(15,dI e),(16,dI j),(17,dI n),(18,dI z_.2.1)] [.row 154 .Ai ALW z_.2.2,.row 156 .Ai Ao a]
def ArM d e j a (n:Int):=λ(o:(Bool×ALM))=>xE 10 159 [(2,.Am 0),(9,.Am 1),(13,dB o.1),(14,dI d),(15,dI e),(16,dI j)] [.row 154 .Ai ALW o.2,.row 156 .Ai Ao a]
def AtT q d e j n s t a:=sT 159 [(2,.Am 0),(9,.Am 1),(13,dB q),(14,dI d),(15,dI e),(16,dI j),(17,dI n),(18,dI s)] [.row 154 .Ai ALW t,.row 156 .Ai Ao a]
def ArL(q:Bool) d e j n s (t:ALM) a:=λ(u:(Bool×ALM))=>xN 159 [(2,.Am 0),(9,.Am 1),(13,dB u.1),(14,dI d),(15,dI e),(16,dI j),(17,dI n),(18,dI s)] [.row 154 .Ai ALW u.2,.row 156 .Ai Ao a]
def AtS q d e j n s t a v w:=sT 159 [(2,.Am 0),(9,.Am 1),(13,dB q),(14,dI d),(15,dI e),(16,dI j),(17,dI n),(18,dI s),(19,.ptr 2 0 [] 0),(20,.ptr 3 0 [] 0)] [.row 154 .Ai ALW t,.row 156 .Ai Ao a,.box (.Ax [1] Ao v),.box (.Ax [1] Ao w)]
def ArK q d e j n s t a (v:ALt) w:=λ(x:Bool)=>xN 159 [(2,.Am 0),(9,.Am 1),(13,dB q),(14,dI d),(15,dI e),(16,dI j),(17,dI n),(18,dI s),(20,.ptr 2 0 [] 0),(142,dB x)] [.row 154 .Ai ALW t,.row 156 .Ai Ao a,.box (.Ax [1] Ao w)]
def Ow(q:Bool)(d e j n s:Int)(t:ALM)(a:ALI)(v w:ALt):AL8 Bool:=
 (DX v t n).bind λy=>bif y then
 (Ji w t n).bind λa1=>some a1
 else
 some false
theorem Av6 q d e j n s t a v w:AP cM 1 36 (sb (sb (sb (sb (sb (cd f86 1016) 108) 204) 6) 188) 6) 22 (AtS q d e j n s t a v w) (Ow q d e j n s t a v w) (ArK q d e j n s t a v w):=by
 unfold AP;simp only[Ow,ALh];kernel_rfl
def Kr(q:Bool)(d e j n s:Int)(t:ALM)(a:ALI):AL8 (Bool×ALM):=
 if 0<=(wI (d+s))/\(wI (d+s))<a.length then
 if 0<=(wI ((wI (d+1))-s))/\(wI ((wI (d+1))-s))<a.length then
 (Ow q d e j n s t a (a.getD (wI (d+s)).toNat Ao.zero) (a.getD (wI ((wI (d+1))-s)).toNat Ao.zero)).bind λx=>bif x then
 if 0<=n/\n<(a.getD (wI ((wI (d+1))-s)).toNat Ao.zero).1.length then
 if(0:Int)<=((a.getD (wI ((wI (d+1))-s)).toNat Ao.zero).1.getD n.toNat Aa.zero).1/\((a.getD (wI ((wI (d+1))-s)).toNat Ao.zero).1.getD n.toNat Aa.zero).1<(t.length:Int)then
 if 0<=n/\n<(a.getD (wI ((wI (d+1))-s)).toNat Ao.zero).1.length then
 if(0:Int)<=((a.getD (wI ((wI (d+1))-s)).toNat Ao.zero).1.getD n.toNat Aa.zero).2.1/\((a.getD (wI ((wI (d+1))-s)).toNat Ao.zero).1.getD n.toNat Aa.zero).2.1<(t.getD ((a.getD (wI ((wI (d+1))-s)).toNat Ao.zero).1.getD n.toNat Aa.zero).1.toNat ALW.zero).length then
 some (true,t.set ((a.getD (wI ((wI (d+1))-s)).toNat Ao.zero).1.getD n.toNat Aa.zero).1.toNat ((t.getD ((a.getD (wI ((wI (d+1))-s)).toNat Ao.zero).1.getD n.toNat Aa.zero).1.toNat ALW.zero).set ((a.getD (wI ((wI (d+1))-s)).toNat Ao.zero).1.getD n.toNat Aa.zero).2.1.toNat true))
 else none
 else none
 else none
 else none
 else
 some (q,t)
 else none
 else none
theorem Av7 q d e j n s t a:AP cM 1 32 (sb (sb (sb (sb (cd f86 1016) 108) 204) 6) 188) 6 (AtT q d e j n s t a) (Kr q d e j n s t a) (ArL q d e j n s t a):=by
 unfold AP;simp only[Kr,ALh];simp(disch:=refine id ?_;kernel_rfl) only[A8 (Av6 ..) (K:=Ta cM 1 32)];kernel_rfl
def Li(d e j:Int)(a:ALI)(n:Int)(q:Bool)(s:Int)(t:ALM):AL8 ((Bool×Int×ALM)⊕(Bool×ALM)):=
 bif decide (s<2)then
 (Kr q d e j n s t a).bind λu=>some (.inl (u.1,wI (s+1),u.2))
 else
 some (.inr (q,t))
def Fp d e j a n (z_:Bool×Int×ALM):=Li d e j a n z_.1 z_.2.1 z_.2.2
def Ox d e j a n q s t:=fix (Fp d e j a n) (q,s,t)
theorem Av8 d e j a n:A0 cM 1 31 (sb (sb (sb (cd f86 1016) 108) 204) 6) 94 (AtU d e j a n) (Fp d e j a n) (ArM d e j a n):=by
 intro _;simp only[Fp,Li,ALh];simp(disch:=refine id ?_;kernel_rfl) only[A8 (Av7 ..) (K:=LP cM 1 31)];kernel_rfl
def AtR i d e j k a b1:=sT 159 [(2,.Am 0),(9,.Am 1),(13,dB i),(14,dI d),(15,dI e),(16,dI j),(17,dI b1)] [.row 154 .Ai ALW k,.row 156 .Ai Ao a]
def ArJ i d e j k a b1:=Sum.elim (λ(c1:Unit)=>xE 9 159 [(2,.Am 0),(9,.Am 1),(13,dB i),(14,dI d),(15,dI e),(16,dI j),(17,dI b1)] [.row 154 .Ai ALW k,.row 156 .Ai Ao a]) (λ(d1:Unit)=>xN 159 [(2,.Am 0),(9,.Am 1),(13,dB i),(14,dI d),(15,dI e),(16,dI j),(17,dI b1)] [.row 154 .Ai ALW k,.row 156 .Ai Ao a])
def Ov(i:Bool)(d e j:Int)(k:ALM)(a:ALI)(b1:Int):AL8 (Unit⊕Unit):=
 bif decide (b1<1)then
 some (.inl ())
 else
 bif decide (b1>=e)then
 some (.inl ())
 else
 some (.inr ())
theorem Av5 i d e j k a b1:AP cM 1 30 (sb (sb (sb (cd f86 1016) 108) 204) 6) 22 (AtR i d e j k a b1) (Ov i d e j k a b1) (ArJ i d e j k a b1):=by
 unfold AP;simp only[Ov,ALh];kernel_rfl
def Ah5 i d e j k a:=sT 159 [(2,.Am 0),(9,.Am 1),(13,dB i),(14,dI d),(15,dI e),(16,dI j),(17,dI j)] [.row 154 .Ai ALW k,.row 156 .Ai Ao a]
def Aae(i:Bool)(d e j:Int)(k:ALM)(a:ALI)(m0:Int):Ex×St:=xN 159 [(2,.Am 0),(9,.Am 1),(13,dB i),(14,dI d),(15,dI e),(16,dI j),(17,dI m0)] [.row 154 .Ai ALW k,.row 156 .Ai Ao a]
theorem Av4 i d e j k a:Xe cM 1 29 (sb (sb (sb (cd f86 1016) 108) 204) 6) (pt 10) (Ah5 i d e j k a)=some (Aae i d e j k a (bif decide (j>=e)then(wI ((wI (2*e))-j))else j)):=by
 refine .trans (b:=
 bif decide (j>=e)then
 some (Aae i d e j k a (wI ((wI (2*e))-j)))
 else
 some (Aae i d e j k a j)) (by kernel_rfl) ?_
 cases (decide (j>=e));rfl;rfl
def Jh(i:Bool)(d e j:Int)(k:ALM)(a:ALI):AL8 (Bool×ALM):=
 QF (Ah5 i d e j k a) (
 (Ov i d e j k a (bif decide (j>=e)then(wI ((wI (2*e))-j))else j)).bind (Sum.elim (λc1=>some (i,k)) (λd1=>(Ox d e j a (bif decide (j>=e)then(wI ((wI (2*e))-j))else j) i 0 k).bind λo=>some (o.1,o.2))))
theorem Aox i d e j k a:AP cM 1 25 (sb (sb (cd f86 1016) 108) 204) 6 (AmD i d e j k a) (Jh i d e j k a) (AkZ i d e j k a):=by
 unfold AP;simp only[Jh,ALh];simp(disch:=refine id ?_;kernel_rfl) only[F8 (Av4 ..) (K:=Ta cM 1 25),A8 (Av5 ..) (K:=Ta cM 1 25),Ox,Az (Av8 _ _ _ _ _) (K:=Ta cM 1 25)];kernel_rfl
def J7(d:Int)(a:ALI)(e:Int)(i:Bool)(j:Int)(k:ALM):AL8 ((Bool×Int×ALM)⊕(Bool×ALM)):=
 bif decide (j<(wI (2*e)))then
 (Jh i d e j k a).bind λl=>some (.inl (l.1,wI (j+1),l.2))
 else
 some (.inr (i,k))
def Ej d a e (z_:Bool×Int×ALM):=J7 d a e z_.1 z_.2.1 z_.2.2
def MN d a e i j k:=fix (Ej d a e) (i,j,k)
theorem Aoy d a e:A0 cM 1 24 (sb (cd f86 1016) 108) 102 (AmE d a e) (Ej d a e) (Ak0 d a e):=by
 intro _;simp only[Ej,J7,ALh];simp(disch:=refine id ?_;kernel_rfl) only[A8 (Aox ..) (K:=LP cM 1 24)];kernel_rfl
def J8(a:ALI)(e1:Bool)(d:Int)(g1:ALM):AL8 ((Bool×Int×ALM)⊕(Bool×ALM)):=
 bif decide (d<(a.length:Int))then
 if 0<=d/\d<a.length then
 (MN d a ((a.getD d.toNat Ao.zero).1.length:Int) e1 1 g1).bind λg=>some (.inl (g.1,wI (d+2),g.2))
 else none
 else
 some (.inr (e1,g1))
def El a (z_:Bool×Int×ALM):=J8 a z_.1 z_.2.1 z_.2.2
def MO a e1 d g1:=fix (El a) (e1,d,g1)
theorem Aoz a:A0 cM 1 20 (cd f86 1016) 54 (AmF a) (El a) (Ak1 a):=by
 intro _;simp only[El,J8,ALh];simp(disch:=refine id ?_;kernel_rfl) only[MN,Az (Aoy _ _ _) (K:=LP cM 1 20)];kernel_rfl
def OY(a:ALI)(i1:Bool)(j1:ALM):AL8 ((Bool×ALM)⊕ALM):=
 bif i1 then
 (MO a false 0 j1).bind λc=>some (.inl (c.1,c.2))
 else
 some (.inr j1)
def J9 a (z_:Bool×ALM):=OY a z_.1 z_.2
def MP a i1 j1:=fix (J9 a) (i1,j1)
theorem AoA a:A0 cM 1 17 (code f86) 508 (AmG a) (J9 a) (Ak2 a):=by
 intro _;simp only[J9,OY,ALh];simp(disch:=refine id ?_;kernel_rfl) only[MO,Az (Aoz _) (K:=LP cM 1 17)];kernel_rfl
def AtQ k1 (z_:Int×ALM×ALI):=sT 159 [(2,.Am 0),(7,.Am 1),(9,.Am 2),(10,dI z_.1)] [.row 154 .Ai ALW z_.2.1,.row 122 .Ai ALS k1,.row 156 .Ai Ao z_.2.2]
def ArI(k1:ALO):=λ(l1:(ALM×ALI))=>xE 0 159 [(2,.Am 0),(9,.Am 1)] [.row 154 .Ai ALW l1.1,.row 156 .Ai Ao l1.2]
def AtP n1 k1 o1 (z_:Int×ALM):=sT 159 [(2,.Am 0),(7,.Am 1),(9,.Am 2),(10,dI n1),(11,dI z_.1)] [.row 154 .Ai ALW z_.2,.row 122 .Ai ALS k1,.row 156 .Ai Ao o1]
def ArH n1 k1 o1:=λ(q1:ALM)=>xE 2 159 [(2,.Am 0),(7,.Am 1),(9,.Am 2),(10,dI n1)] [.row 154 .Ai ALW q1,.row 122 .Ai ALS k1,.row 156 .Ai Ao o1]
def AtO n1 s1 t1 k1 o1:=sT 159 [(2,.Am 0),(7,.Am 1),(9,.Am 2),(10,dI n1),(11,dI s1)] [.row 154 .Ai ALW t1,.row 122 .Ai ALS k1,.row 156 .Ai Ao o1]
def ArG n1 s1 (t1:ALM) k1 o1:=λ(u1:ALM)=>xN 159 [(2,.Am 0),(7,.Am 1),(9,.Am 2),(10,dI n1),(11,dI s1)] [.row 154 .Ai ALW u1,.row 122 .Ai ALS k1,.row 156 .Ai Ao o1]
def Kq(n1 s1:Int)(t1:ALM)(k1:ALO)(o1:ALI):AL8 ALM:=
 if 0<=n1/\n1<k1.length then
 if 0<=s1/\s1<(k1.getD n1.toNat ALS.zero).length then
 bif decide (((k1.getD n1.toNat ALS.zero).getD s1.toNat Ae.zero).1>=0)then
 if(0:Int)<=((k1.getD n1.toNat ALS.zero).getD s1.toNat Ae.zero).1/\((k1.getD n1.toNat ALS.zero).getD s1.toNat Ae.zero).1<(t1.length:Int)then
 if(0:Int)<=((k1.getD n1.toNat ALS.zero).getD s1.toNat Ae.zero).2.1/\((k1.getD n1.toNat ALS.zero).getD s1.toNat Ae.zero).2.1<(t1.getD ((k1.getD n1.toNat ALS.zero).getD s1.toNat Ae.zero).1.toNat ALW.zero).length then
 if(0:Int)<=((k1.getD n1.toNat ALS.zero).getD s1.toNat Ae.zero).1/\((k1.getD n1.toNat ALS.zero).getD s1.toNat Ae.zero).1<((t1.set ((k1.getD n1.toNat ALS.zero).getD s1.toNat Ae.zero).1.toNat ((t1.getD ((k1.getD n1.toNat ALS.zero).getD s1.toNat Ae.zero).1.toNat ALW.zero).set ((k1.getD n1.toNat ALS.zero).getD s1.toNat Ae.zero).2.1.toNat true)).length:Int)then
 if(0:Int)<=(wI (((k1.getD n1.toNat ALS.zero).getD s1.toNat Ae.zero).2.1+((k1.getD n1.toNat ALS.zero).getD s1.toNat Ae.zero).2.2.1))/\(wI (((k1.getD n1.toNat ALS.zero).getD s1.toNat Ae.zero).2.1+((k1.getD n1.toNat ALS.zero).getD s1.toNat Ae.zero).2.2.1))<((t1.set ((k1.getD n1.toNat ALS.zero).getD s1.toNat Ae.zero).1.toNat ((t1.getD ((k1.getD n1.toNat ALS.zero).getD s1.toNat Ae.zero).1.toNat ALW.zero).set ((k1.getD n1.toNat ALS.zero).getD s1.toNat Ae.zero).2.1.toNat true)).getD ((k1.getD n1.toNat ALS.zero).getD s1.toNat Ae.zero).1.toNat ALW.zero).length then
 some ((t1.set ((k1.getD n1.toNat ALS.zero).getD s1.toNat Ae.zero).1.toNat ((t1.getD ((k1.getD n1.toNat ALS.zero).getD s1.toNat Ae.zero).1.toNat ALW.zero).set ((k1.getD n1.toNat ALS.zero).getD s1.toNat Ae.zero).2.1.toNat true)).set ((k1.getD n1.toNat ALS.zero).getD s1.toNat Ae.zero).1.toNat (((t1.set ((k1.getD n1.toNat ALS.zero).getD s1.toNat Ae.zero).1.toNat ((t1.getD ((k1.getD n1.toNat ALS.zero).getD s1.toNat Ae.zero).1.toNat ALW.zero).set ((k1.getD n1.toNat ALS.zero).getD s1.toNat Ae.zero).2.1.toNat true)).getD ((k1.getD n1.toNat ALS.zero).getD s1.toNat Ae.zero).1.toNat ALW.zero).set (wI (((k1.getD n1.toNat ALS.zero).getD s1.toNat Ae.zero).2.1+((k1.getD n1.toNat ALS.zero).getD s1.toNat Ae.zero).2.2.1)).toNat true))
 else none
 else none
 else none
 else none
 else
 some t1
 else none
 else none
theorem Av1 n1 s1 t1 k1 o1:AP cM 1 10 (sb (cd f86 500) 196) 6 (AtO n1 s1 t1 k1 o1) (Kq n1 s1 t1 k1 o1) (ArG n1 s1 t1 k1 o1):=by
 unfold AP;simp only[Kq,ALh];kernel_rfl
def Lg(n1:Int)(k1:ALO)(o1:ALI)(s1:Int)(t1:ALM):AL8 ((Int×ALM)⊕ALM):=
 if 0<=n1/\n1<k1.length then
 bif decide (s1<((k1.getD n1.toNat ALS.zero).length:Int))then
 (Kq n1 s1 t1 k1 o1).bind λu1=>some (.inl (wI (s1+1),u1))
 else
 some (.inr t1)
 else none
def Fj n1 k1 o1 (z_:Int×ALM):=Lg n1 k1 o1 z_.1 z_.2
def Ot n1 k1 o1 s1 t1:=fix (Fj n1 k1 o1) (s1,t1)
theorem Av2 n1 k1 o1:A0 cM 1 9 (cd f86 500) 98 (AtP n1 k1 o1) (Fj n1 k1 o1) (ArH n1 k1 o1):=by
 intro _;simp only[Fj,Lg,ALh];simp(disch:=refine id ?_;kernel_rfl) only[A8 (Av1 ..) (K:=LP cM 1 9)];kernel_rfl
def Lh(k1:ALO)(n1:Int)(v1:ALM)(o1:ALI):AL8 ((Int×ALM×ALI)⊕(ALM×ALI)):=
 bif decide (n1<(k1.length:Int))then
 (Ot n1 k1 o1 0 v1).bind λq1=>if 0<=n1/\n1<k1.length then
 (Jo (k1.getD n1.toNat ALS.zero)).bind λw1=>if(o1.length+([(w1.1,w1.2,())]:ALI).length)*48<=140737488355328 then
 some (.inl (wI (n1+1),q1,o1++([(w1.1,w1.2,())]:ALI)))
 else none
 else none
 else
 some (.inr (v1,o1))
def Fl k1 (z_:Int×ALM×ALI):=Lh k1 z_.1 z_.2.1 z_.2.2
def Ou k1 n1 v1 o1:=fix (Fl k1) (n1,v1,o1)
theorem Av3 k1:A0 cM 1 6 (code f86) 250 (AtQ k1) (Fl k1) (ArI k1):=by
 intro _;simp only[Fl,Lh,ALh];simp(disch:=refine id ?_;kernel_rfl) only[Ot,Az (Av2 _ _ _) (K:=LP cM 1 6)];kernel_rfl
def Tg(x1:ALC)(y1:ALF)(a2:ALM):AL8 (Bool×ALM):=
 (Qu x1 y1).bind λb2=>bif !b2.1 then
 some (false,a2)
 else
 (Ou b2.2 0 a2 ([]:ALI)).bind λl1=>(MP l1.2 true l1.1).bind λb=>some (true,b)
def c86:=B6 [.d ALU,.d ALY,.UJ] [⟨[.Ax [] ALU,.Ax [] ALY,.k (.Am 0)],[.row 154 .Ai ALW],Bool×ALM,λp=>Tg p.1.1 p.1.2.1 p.2.1,λr=>(dB r.1,[.row 154 .Ai ALW r.2])⟩]
theorem Agw:Ap prog 86 c86:=As (fn:=f86) ⟨⟨cM,pk ⟨vW,ma,Abc,Abn,trivial⟩,λ_ R K=>by
 simp only[Tg,ALi];simp(disch:=refine id ?_;kernel_rfl) only[Ou,Az (Av3 _) (K:=AY cM f86 1 R K),MP,Az (AoA _) (K:=AY cM f86 1 R K)];kernel_rfl⟩,trivial⟩
abbrev E49:=eN [] {A1:=[(3,{Bb:=[0,2,3,4],Ck:=[(3,true,.row [0] 32 ALT true)]}),(7,{Bb:=[0,2,3,4,5,6],Ck:=[(5,false,.row [] 2 ALP true)]})],Bv:=[(3,[2,3]),(7,[0,2,3,4,5])],BR:=[(8,{Bb:=[0,2,3,4,5,6],Ck:=[(5,false,.row [] 2 ALP true)]})],D2:=[(8,[0,2,3,4,5,6])]}
def AtX a (z_:Int×ALK):=sT 43 [(0,dD AL4 a),(2,.ptr 0 0 [] 0),(3,.ptr 1 0 [] 0),(4,dI z_.1)] [.box (.pr .zs .u),.box (.pr (.Am 2) .u),.row 32 .Ai ALT z_.2]
def ArP(a:ALM):=λ(b:ALK)=>xE 0 43 [(2,.ptr 0 0 [] 0),(3,.ptr 1 0 [] 0)] [.box (.pr .zs .u),.box (.pr (.Am 2) .u),.row 32 .Ai ALT b]
def AtW a c d (z_:Int×ALx):=sT 43 [(0,dD AL4 a),(2,.ptr 0 0 [] 0),(3,.ptr 1 0 [] 0),(4,dI c),(5,.Am 2),(6,dI z_.1)] [.box (.pr .zs .u),.box (.pr (.Am 3) .u),.row 2 .Ai ALP z_.2,.row 32 .Ai ALT d]
def ArO a c d:=λ(e:ALx)=>xE 2 43 [(0,dD AL4 a),(2,.ptr 0 0 [] 0),(3,.ptr 1 0 [] 0),(4,dI c),(5,.Am 2)] [.box (.pr .zs .u),.box (.pr (.Am 3) .u),.row 2 .Ai ALP e,.row 32 .Ai ALT d]
def AtV a c g i d:=sT 43 [(0,dD AL4 a),(2,.ptr 0 0 [] 0),(3,.ptr 1 0 [] 0),(4,dI c),(5,.Am 2),(6,dI g)] [.box (.pr .zs .u),.box (.pr (.Am 3) .u),.row 2 .Ai ALP i,.row 32 .Ai ALT d]
def ArN a c g (i:ALx) d:=λ(j:ALx)=>xN 43 [(0,dD AL4 a),(2,.ptr 0 0 [] 0),(3,.ptr 1 0 [] 0),(4,dI c),(5,.Am 2),(6,dI g)] [.box (.pr .zs .u),.box (.pr (.Am 3) .u),.row 2 .Ai ALP j,.row 32 .Ai ALT d]
def LX(a:ALM)(c g:Int)(i:ALx)(d:ALK):AL8 ALx:=
 if 0<=c/\c<a.length then
 if 0<=g/\g<(a.getD c.toNat ALW.zero).length then
 bif (a.getD c.toNat ALW.zero).getD g.toNat (Ty.zero .bool)then
 if(i.length+([g]:ALx).length)*8<=140737488355328 then
 some (i++([g]:ALx))
 else none
 else
 some i
 else none
 else none
theorem Av9 a c g i d:AP E49 0 8 (sb (cd f87 116) 404) 6 (AtV a c g i d) (LX a c g i d) (ArN a c g i d):=by
 unfold AP;simp only[LX,ALh];kernel_rfl
def MQ(a:ALM)(c:Int)(d:ALK)(g:Int)(i:ALx):AL8 ((Int×ALx)⊕ALx):=
 if 0<=c/\c<a.length then
 bif decide ((wI (g+1))<((a.getD c.toNat ALW.zero).length:Int))then
 (LX a c g i d).bind λj=>some (.inl (wI (g+1),j))
 else
 some (.inr i)
 else none
def Gs a c d (z_:Int×ALx):=MQ a c d z_.1 z_.2
def Qp a c d g i:=fix (Gs a c d) (g,i)
theorem Awa a c d:A0 E49 0 7 (cd f87 116) 202 (AtW a c d) (Gs a c d) (ArO a c d):=by
 intro _;simp only[Gs,MQ,ALh];simp(disch:=refine id ?_;kernel_rfl) only[A8 (Av9 ..) (K:=LP E49 0 7)];kernel_rfl
def MR(a:ALM)(c:Int)(d:ALK):AL8 ((Int×ALK)⊕ALK):=
 bif decide (c<(a.length:Int))then
 (Qp a c d 1 ([]:ALx)).bind λe=>if(d.length+([e]:ALK).length)*24<=140737488355328 then
 some (.inl (wI (c+1),d++([e]:ALK)))
 else none
 else
 some (.inr d)
def Gt a (z_:Int×ALK):=MR a z_.1 z_.2
def Ud a c d:=fix (Gt a) (c,d)
theorem Awb a:A0 E49 0 3 (code f87) 58 (AtX a) (Gt a) (ArP a):=by
 intro _;simp only[Gt,MR,ALh];simp(disch:=refine id ?_;kernel_rfl) only[Qp,Az (Awa _ _ _) (K:=LP E49 0 3)];kernel_rfl
def Sc(a:ALM):AL8 ALK:=
 (Ud a 0 ([]:ALK)).bind λb=>some b
def c87:=B6 [.d AL4] [⟨[.Ax [] AL4],[],ALK,λp=>Sc p.1.1,λr=>(.pr (.Am 0) .u,[.row 32 .Ai ALT r])⟩]
theorem Agx:Ap prog 87 c87:=As (fn:=f87) ⟨⟨E49,pk trivial,λ_ R K=>by
 simp only[Sc,ALi];simp(disch:=refine id ?_;kernel_rfl) only[Ud,Az (Awb _) (K:=AY E49 f87 0 R K)];kernel_rfl⟩,trivial⟩
abbrev E50:=eN [(83,c83),(84,c84),(85,c85),(86,c86),(87,c87)] {BR:=[(2,[0,1,5,6,18])],D2:=[(2,[0,1,5,6])],Sj:=[(0,Aj),(1,.bool)]}
def AtY a b c:=sT 31 [(0,dD ALU a),(1,dD ALY b),(5,.ptr 0 0 [] 0),(6,.ptr 1 0 [] 0)] [.box (dD Aj c),.box (.pr .zs .u)]
def ArQ a b c:=λ(d:Bool)=>xN 31 [(0,dD ALU a),(1,dD ALY b),(5,.ptr 0 0 [] 0),(6,.ptr 1 0 [] 0),(18,dB d)] [.box (dD Aj c),.box (.pr .zs .u)]
def K3(a:ALC)(b:ALF)(c:ALr):AL8 Bool:=
 (Jn a c).bind λe=>bif !e then
 some true
 else
 (Hp a b).bind λg=>some (!g)
theorem Awc a b c:AP E50 0 2 (code f40) 12 (AtY a b c) (K3 a b c) (ArQ a b c):=by
 unfold AP;simp only[K3,ALh];kernel_rfl
def EL(a:ALC)(b:ALF)(c:ALr):AL8 (ALr×Bool):=
 (K3 a b c).bind λd=>bif d then
 some ((([]:ALK),()),false)
 else
 (MS a c).bind λi=>(Tg a b i).bind λj=>bif !j.1 then
 some ((([]:ALK),()),false)
 else
 (Sc j.2).bind λk=>some ((k,()),true)
def c40:=B6 [.d ALU,.d ALY,.d Aj] [⟨[.Ax [] ALU,.Ax [] ALY,.Ax [] Aj],[],ALr×Bool,λp=>EL p.1.1 p.1.2.1 p.1.2.2.1,λr=>(.cons (dD Aj r.1) (.cons (dB r.2) .nil),[])⟩]
theorem vO:Ap prog 40 c40:=As (fn:=f40) ⟨⟨E50,pk ⟨dq,vU,vV,Agw,Agx,trivial⟩,λ_ R K=>by
 simp only[EL,ALi];simp(disch:=refine id ?_;kernel_rfl) only[A8 (Awc ..) (K:=AY E50 f40 0 R K)];kernel_rfl⟩,trivial⟩
abbrev E51:=eN [(83,c83)] {A1:=[(5,{Bb:=[0,3,5,6],Ck:=[(5,false,.row [] 151 Ab true)]}),(9,{Bb:=[0,3,5,6,7,8],Ck:=[(5,false,.row [] 151 Ab true)]})],Bv:=[(5,[5]),(9,[0,3,5,6])],BR:=[(14,[0,3,5,6,7,8,9])],D2:=[(14,[0,3,5,6,7,8,9])],dM:=[(0,.row [] 151 Ab true)]}
def At1 a b (z_:Int×ALB):=sT 64 [(0,dD ALU a),(3,.ptr 0 0 [] 0),(5,.Am 1),(6,dI z_.1)] [.box (dD Aj b),.row 151 .Ai Ab z_.2]
def ArT(a:ALC)(b:ALr):=λ(c:ALB)=>xE 0 64 [(5,.Am 0)] [.row 151 .Ai Ab c]
def At0 a d b (z_:Int×Int×ALB):=sT 64 [(0,dD ALU a),(3,.ptr 0 0 [] 0),(5,.Am 1),(6,dI d),(7,dI z_.1),(8,dI z_.2.1)] [.box (dD Aj b),.row 151 .Ai Ab z_.2.2]
def ArS a d b:=λ(e:ALB)=>xE 2 64 [(0,dD ALU a),(3,.ptr 0 0 [] 0),(5,.Am 1),(6,dI d)] [.box (dD Aj b),.row 151 .Ai Ab e]
def AtZ a d g i b j k:=sT 64 [(0,dD ALU a),(3,.ptr 0 0 [] 0),(5,.Am 1),(6,dI d),(7,dI g),(8,dI i),(9,dI k)] [.box (dD Aj b),.row 151 .Ai Ab j]
def ArR a d g i b j (k:Int):=λ(l:Int)=>xN 64 [(0,dD ALU a),(3,.ptr 0 0 [] 0),(5,.Am 1),(6,dI d),(7,dI g),(8,dI i),(9,dI l)] [.box (dD Aj b),.row 151 .Ai Ab j]
def Jc(a:ALC)(d g i:Int)(b:ALr)(j:ALB)(k:Int):AL8 Int:=
 if 0<=d/\d<b.1.length then
 bif decide (i<((b.1.getD d.toNat ALT.zero).length:Int))then
 if 0<=d/\d<b.1.length then
 if 0<=i/\i<(b.1.getD d.toNat ALT.zero).length then
 some ((b.1.getD d.toNat ALT.zero).getD i.toNat ALP.zero)
 else none
 else none
 else
 some k
 else none
theorem Awd a d g i b j k:AP E51 0 14 (sb (cd f41 244) 204) 50 (AtZ a d g i b j k) (Jc a d g i b j k) (ArR a d g i b j k):=by
 unfold AP;simp only[Jc,ALh];kernel_rfl
def JZ(a:ALC)(d:Int)(b:ALr)(g i:Int)(j:ALB):AL8 ((Int×Int×ALB)⊕ALB):=
 if 0<=d/\d<b.1.length then
 bif decide (i<=((b.1.getD d.toNat ALT.zero).length:Int))then
 if 0<=d/\d<a.length then
 (Jc a d g i b j (a.getD d.toNat Ad.zero).2.1).bind λl=>if(j.length+([(d,g,wI (l-g),())]:ALB).length)*24<=140737488355328 then
 some (.inl (l,wI (i+1),j++([(d,g,wI (l-g),())]:ALB)))
 else none
 else none
 else
 some (.inr j)
 else none
def Eg a d b (z_:Int×Int×ALB):=JZ a d b z_.1 z_.2.1 z_.2.2
def My a d b g i j:=fix (Eg a d b) (g,i,j)
theorem Awe a d b:A0 E51 0 9 (cd f41 244) 102 (At0 a d b) (Eg a d b) (ArS a d b):=by
 intro _;simp only[Eg,JZ,ALh];simp(disch:=refine id ?_;kernel_rfl) only[A8 (Awd ..) (K:=LP E51 0 9)];kernel_rfl
def J0(a:ALC)(b:ALr)(d:Int)(n:ALB):AL8 ((Int×ALB)⊕ALB):=
 bif decide (d<(a.length:Int))then
 (My a d b 0 0 n).bind λe=>some (.inl (wI (d+1),e))
 else
 some (.inr n)
def Eh a b (z_:Int×ALB):=J0 a b z_.1 z_.2
def Mz a b d n:=fix (Eh a b) (d,n)
theorem Awf a b:A0 E51 0 5 (code f41) 122 (At1 a b) (Eh a b) (ArT a b):=by
 intro _;simp only[Eh,J0,ALh];simp(disch:=refine id ?_;kernel_rfl) only[My,Az (Awe _ _ _) (K:=LP E51 0 5)];kernel_rfl
def Ii(a:ALC)(b:ALr):AL8 ALB:=
 (Jn a b).bind λo=>bif !o then
 some ([]:ALB)
 else
 (Mz a b 0 ([]:ALB)).bind λc=>some c
def c41:=B6 [.d ALU,.d Aj] [⟨[.Ax [] ALU,.Ax [] Aj],[],ALB,λp=>Ii p.1.1 p.1.2.1,λr=>(.Am 0,[.row 151 .Ai Ab r])⟩]
theorem l9:Ap prog 41 c41:=As (fn:=f41) ⟨⟨E51,pk ⟨dq,trivial⟩,λ_ R K=>by
 simp only[Ii,ALi];simp(disch:=refine id ?_;kernel_rfl) only[Mz,Az (Awf _ _) (K:=AY E51 f41 0 R K)];kernel_rfl⟩,trivial⟩
abbrev E52:=eN [] {Ai:=false,A1:=[(3,{Bb:=[0,3,4],Ck:=[(3,true,.row [2] 2 ALP true)]})],Bv:=[(3,[3])]}
def At2 a b (z_:Int×ALx):=sT 25 [(0,dI a),(3,.ptr 0 0 [] 0),(4,dI z_.1)] [.box (.pr (.Am 1) (.pr .zs (.pr (.Am 2) .u))),.row 57 (.sh []) Ah b,.row 2 .Ai ALP z_.2]
def ArU(a:Int) b:=λ(c:ALx)=>xE 0 25 [(3,.ptr 0 0 [] 0)] [.box (.pr (.Am 1) (.pr .zs (.pr (.Am 2) .u))),.row 57 (.sh []) Ah b,.row 2 .Ai ALP c]
def OG(a:Int)(b:ALG)(d:Int)(e:ALx):AL8 ((Int×ALx)⊕ALx):=
 bif decide (d<a)then
 if(e.length+([d]:ALx).length)*8<=140737488355328 then
 some (.inl (wI (d+1),e++([d]:ALx)))
 else none
 else
 some (.inr e)
def Ht a b (z_:Int×ALx):=OG a b z_.1 z_.2
def Vd a b d e:=fix (Ht a b) (d,e)
theorem Awg a b:A0 E52 0 3 (code f42) 58 (At2 a b) (Ht a b) (ArU a b):=by
 intro _;simp only[Ht,OG,ALh];kernel_rfl
def Ue(a:Int):AL8 (Int×ALG×ALx):=
 if Ty.row Ah=true/\(0:Int)<=a/\a<=a/\((32:Nat):Int)*a<=(281474976710656:Int)/\a<=(9223372036854775807:Int)then
 (Vd a (List.replicate a.toNat (0,([]:ALx),())) 0 ([]:ALx)).bind λc=>some (0,List.replicate a.toNat (0,([]:ALx),()),c)
 else none
def c42:=B6 [.d ALP] [⟨[.Ax [] ALP],[],Int×ALG×ALx,λp=>Ue p.1.1,λr=>(.ptr 0 r.1 [] 0,[.box (.pr (.Am 1) (.pr .zs (.pr (.Am 2) .u))),.row 57 (.sh []) Ah r.2.1,.row 2 .Ai ALP r.2.2])⟩]
theorem Af5:Ap prog 42 c42:=As (fn:=f42) ⟨⟨E52,pk trivial,λ_ R K=>by
 simp only[Ue,ALi];simp(disch:=refine id ?_;kernel_rfl) only[Vd,Az (Awg _ _) (K:=AY E52 f42 0 R K)];kernel_rfl⟩,trivial⟩
abbrev E53:=eN [(83,c83)] {A1:=[(5,[3,5,6])],Bv:=[(5,[5])]}
def At3 a (z_:Int×Int):=sT 29 [(3,.ptr 0 0 [] 0),(5,dI z_.1),(6,dI z_.2)] [.box (dD Aj a)]
def ArV(a:ALr):=λ(b:Int)=>xE 0 29 [(5,dI b)] []
def Og(a:ALr)(c d:Int):AL8 ((Int×Int)⊕Int):=
 bif decide (d<(a.1.length:Int))then
 if 0<=d/\d<a.1.length then
 some (.inl (wI (c+((a.1.getD d.toNat ALT.zero).length:Int)),wI (d+1)))
 else none
 else
 some (.inr c)
def Ho a (z_:Int×Int):=Og a z_.1 z_.2
def Rz a c d:=fix (Ho a) (c,d)
theorem Awh a:A0 E53 0 5 (code f88) 122 (At3 a) (Ho a) (ArV a):=by
 intro _;simp only[Ho,Og,ALh];kernel_rfl
def Rc(e:ALC)(a:ALr):AL8 Int:=
 (Jn e a).bind λg=>bif !g then
 some (-1)
 else
 (Rz a (e.length:Int) 0).bind λb=>some b
def c88:=B6 [.d ALU,.d Aj] [⟨[.Ax [] ALU,.Ax [] Aj],[],Int,λp=>Rc p.1.1 p.1.2.1,λr=>(dI r,[])⟩]
theorem Agy:Ap prog 88 c88:=As (fn:=f88) ⟨⟨E53,pk ⟨dq,trivial⟩,λ_ R K=>by
 simp only[Rc,ALi];simp(disch:=refine id ?_;kernel_rfl) only[Rz,Az (Awh _) (K:=AY E53 f88 0 R K)];kernel_rfl⟩,trivial⟩
abbrev E54:=eN [(41,c41)] {rl:=[(53,2)],A1:=[(3,{Bb:=[0,3,5,6],Ck:=[(5,false,.row [] 32 ALT true)]}),(7,[0,3,5,6,7,8]),(13,{Bb:=[5,9,10],Sj:=[(9,false,ALX)]})],Bv:=[(3,[0,3,5]),(7,[0,3,5,6,7]),(13,[5])]}
def At6 a (z_:Int×ALK):=sT 62 [(5,.Am 0),(9,dD ALX a),(10,dI z_.1)] [.row 32 .Ai ALT z_.2]
def ArY(a:ALB):=λ(b:ALK)=>xE 4 62 [(5,.Am 0)] [.row 32 .Ai ALT b]
def Ln(a:ALB)(c:Int)(d:ALK):AL8 ((Int×ALK)⊕ALK):=
 bif decide (c<(a.length:Int))then
 if 0<=c/\c<a.length then
 if(0:Int)<=(a.getD c.toNat Ab.zero).1/\(a.getD c.toNat Ab.zero).1<(d.length:Int)then
 if 0<=c/\c<a.length then
 if(0:Int)<=(a.getD c.toNat Ab.zero).2.1/\(a.getD c.toNat Ab.zero).2.1<(d.getD (a.getD c.toNat Ab.zero).1.toNat ALT.zero).length then
 some (.inl (wI (c+1),d.set (a.getD c.toNat Ab.zero).1.toNat ((d.getD (a.getD c.toNat Ab.zero).1.toNat ALT.zero).set (a.getD c.toNat Ab.zero).2.1.toNat c)))
 else none
 else none
 else none
 else none
 else
 some (.inr d)
def Fv a (z_:Int×ALK):=Ln a z_.1 z_.2
def OB a c d:=fix (Fv a) (c,d)
theorem Awk a:A0 E54 0 13 (code f90) 250 (At6 a) (Fv a) (ArY a):=by
 intro _;simp only[Fv,Ln,ALh];kernel_rfl
def At5 e g (z_:Int×ALK):=sT 62 [(0,dD ALU e),(3,.ptr 0 0 [] 0),(5,.Am 1),(6,dI z_.1)] [.box (dD Aj g),.row 32 .Ai ALT z_.2]
def ArX e g:=λ(i:ALK)=>xE 0 62 [(0,dD ALU e),(3,.ptr 0 0 [] 0),(5,.Am 1)] [.box (dD Aj g),.row 32 .Ai ALT i]
def At4 e j g k (z_:Int×ALx):=sT 62 [(0,dD ALU e),(3,.ptr 0 0 [] 0),(5,.Am 1),(6,dI j),(7,.Am 2),(8,dI z_.1)] [.box (dD Aj g),.row 32 .Ai ALT k,.row 2 .Ai ALP z_.2]
def ArW e j g k:=λ(l:ALx)=>xE 2 62 [(0,dD ALU e),(3,.ptr 0 0 [] 0),(5,.Am 1),(6,dI j),(7,.Am 2)] [.box (dD Aj g),.row 32 .Ai ALT k,.row 2 .Ai ALP l]
def Ll(e:ALC)(j:Int)(g:ALr)(k:ALK)(n:Int)(o:ALx):AL8 ((Int×ALx)⊕ALx):=
 bif decide (n<(o.length:Int))then
 if 0<=n/\n<o.length then
 some (.inl (wI (n+1),o.set n.toNat (-1)))
 else none
 else
 some (.inr o)
def Ft e j g k (z_:Int×ALx):=Ll e j g k z_.1 z_.2
def Oz e j g k n o:=fix (Ft e j g k) (n,o)
theorem Awi e j g k:A0 E54 0 7 (cd f90 116) 202 (At4 e j g k) (Ft e j g k) (ArW e j g k):=by
 intro _;simp only[Ft,Ll,ALh];kernel_rfl
def Lm(e:ALC)(g:ALr)(j:Int)(k:ALK):AL8 ((Int×ALK)⊕ALK):=
 bif decide (j<(e.length:Int))then
 if 0<=j/\j<e.length then
 if Ty.row ALP=true/\(0:Int)<=(e.getD j.toNat Ad.zero).2.1/\(e.getD j.toNat Ad.zero).2.1<=(e.getD j.toNat Ad.zero).2.1/\((8:Nat):Int)*(e.getD j.toNat Ad.zero).2.1<=(281474976710656:Int)/\(e.getD j.toNat Ad.zero).2.1<=(9223372036854775807:Int)then
 (Oz e j g k 0 (List.replicate (e.getD j.toNat Ad.zero).2.1.toNat 0)).bind λl=>if(k.length+([l]:ALK).length)*24<=140737488355328 then
 some (.inl (wI (j+1),k++([l]:ALK)))
 else none
 else none
 else none
 else
 some (.inr k)
def Fu e g (z_:Int×ALK):=Lm e g z_.1 z_.2
def OA e g j k:=fix (Fu e g) (j,k)
theorem Awj e g:A0 E54 0 3 (code f90) 58 (At5 e g) (Fu e g) (ArX e g):=by
 intro _;simp only[Fu,Lm,ALh];simp(disch:=refine id ?_;kernel_rfl) only[Oz,Az (Awi _ _ _ _) (K:=LP E54 0 3)];kernel_rfl
def Qq(e:ALC)(g:ALr):AL8 ALK:=
 (OA e g 0 ([]:ALK)).bind λi=>(Ii e g).bind λa=>(OB a 0 i).bind λb=>some b
def c90:=B6 [.d ALU,.d Aj] [⟨[.Ax [] ALU,.Ax [] Aj],[],ALK,λp=>Qq p.1.1 p.1.2.1,λr=>(.Am 0,[.row 32 .Ai ALT r])⟩]
theorem Agz:Ap prog 90 c90:=As (fn:=f90) ⟨⟨E54,pk ⟨l9,trivial⟩,λ_ R K=>by
 simp only[Qq,ALi];simp(disch:=refine id ?_;kernel_rfl) only[OA,Az (Awj _ _) (K:=AY E54 f90 0 R K),OB,Az (Awk _) (K:=AY E54 f90 0 R K)];kernel_rfl⟩,trivial⟩
abbrev E55:=eN [(67,c67)] {A1:=[(4,{Bb:=[4,5,10,12,13],Ck:=[(12,false,.row [] 5 ALR true)]}),(15,[4,5,10,16,17])],Bv:=[(4,{Bb:=[10,11,12],Sj:=[(12,false,AL1)]}),(15,[10,11,16])],BR:=[(13,[3,4,5,10,16,86])],D2:=[(13,[2,3,4,5,10,16])],dM:=[(0,.row [1,1] 199 ALQ true)]}
def At9 a b c (z_:Int):=sT 103 [(4,dI a),(5,.ptr 0 0 [] 0),(10,.ptr 1 0 [] 0),(16,dI c),(17,dI z_)] [.box (dD Ao b),.box (.pr (dI 0) (.pr (.pr (dI 0) (.pr .zs .u)) .u))]
def Ar1(a:Int)(b:ALt) c:=Sum.elim (λ(d:Unit)=>xR 103 [(10,.ptr 0 0 [] 0),(11,dB false),(16,dI c)] [.box (.pr (dI 0) (.pr (.pr (dI 0) (.pr .zs .u)) .u))]) (λ(e:Unit)=>xE 2 103 [(10,.ptr 0 0 [] 0),(16,dI c)] [.box (.pr (dI 0) (.pr (.pr (dI 0) (.pr .zs .u)) .u))])
def MM(a:Int)(b:ALt)(c g:Int):AL8 (Int⊕(Unit⊕Unit)):=
 bif decide (g<a)then
 if 0<=g/\g<b.2.1.length then
 bif b.2.1.getD g.toNat (Ty.zero .bool)then
 some (.inr (.inl ()))
 else
 some (.inl (wI (g+1)))
 else none
 else
 some (.inr (.inr ()))
def Gr a b c (z_:Int):=MM a b c z_
def Qo a b c g:=fix (Gr a b c) g
theorem Awn a b c:A0 E55 0 15 (code f92) 250 (At9 a b c) (Gr a b c) (Ar1 a b c):=by
 intro _;simp only[Gr,MM,ALh];kernel_rfl
def At8 i j a b k:=sT 103 [(2,dD ALX i),(3,dI j),(4,dI a),(5,.ptr 0 0 [] 0),(10,.ptr 1 0 [] 0),(16,dI k)] [.box (dD Ao b),.box (.pr (dI 0) (.pr (.pr (dI 0) (.pr .zs .u)) .u))]
def Ar0(i:ALB) j a b k:=λ(l:Bool)=>xN 103 [(3,dI j),(4,dI a),(5,.ptr 0 0 [] 0),(10,.ptr 1 0 [] 0),(16,dI k),(86,dB l)] [.box (dD Ao b),.box (.pr (dI 0) (.pr (.pr (dI 0) (.pr .zs .u)) .u))]
def LW(i:ALB)(j a:Int)(b:ALt)(k:Int):AL8 Bool:=
 bif decide (k<0)then
 some true
 else
 if 0<=k/\k<i.length then
 some ((i.getD k.toNat Ab.zero).2.2.1 !=(wI (a-j)))
 else none
theorem Awm i j a b k:AP E55 0 13 (code f92) 60 (At8 i j a b k) (LW i j a b k) (Ar0 i j a b k):=by
 unfold AP;simp only[LW,ALh];kernel_rfl
def At7 a b (z_:Int×ALx):=sT 103 [(4,dI a),(5,.ptr 0 0 [] 0),(10,.ptr 1 0 [] 0),(12,.Am 2),(13,dI z_.1)] [.box (dD Ao b),.box (.pr (dI 0) (.pr (.pr (dI 0) (.pr .zs .u)) .u)),.row 5 .Ai ALR z_.2]
def ArZ(a:Int)(b:ALt):=Sum.elim (λ(n:ALx)=>xR 103 [(10,.ptr 0 0 [] 0),(11,dB false),(12,dD AL1 n)] [.box (.pr (dI 0) (.pr (.pr (dI 0) (.pr .zs .u)) .u))]) (λ(o:ALx)=>xE 0 103 [(10,.ptr 0 0 [] 0),(12,dD AL1 o)] [.box (.pr (dI 0) (.pr (.pr (dI 0) (.pr .zs .u)) .u))])
def ML(a:Int)(b:ALt)(q:Int)(s:ALx):AL8 ((Int×ALx)⊕(ALx⊕ALx)):=
 bif decide (q<a)then
 if 0<=q/\q<b.1.length then
 bif decide ((b.1.getD q.toNat Aa.zero).1>=0)then
 some (.inr (.inl s))
 else
 if 0<=q/\q<b.1.length then
 if(s.length+([IntKind.u8.wrap (b.1.getD q.toNat Aa.zero).2.1]:ALx).length)*1<=140737488355328 then
 some (.inl (wI (q+1),s++([IntKind.u8.wrap (b.1.getD q.toNat Aa.zero).2.1]:ALx)))
 else none
 else none
 else none
 else
 some (.inr (.inr s))
def Gq a b (z_:Int×ALx):=ML a b z_.1 z_.2
def Qn a b q s:=fix (Gq a b) (q,s)
theorem Awl a b:A0 E55 0 4 (code f92) 426 (At7 a b) (Gq a b) (ArZ a b):=by
 intro _;simp only[Gq,ML,ALh];kernel_rfl
def Pp(b:ALt)(t:ALK)(i:ALB)(j a:Int):AL8 (Int×Int×Bool×ALx):=
 if 0<=j/\j<b.1.length then
 bif decide ((b.1.getD j.toNat Aa.zero).1<0)then
 (Qn a b j ([]:ALx)).bind (Sum.elim (λn=>some (0,0,false,([]:ALx))) (λo=>(Pl o).bind λu=>some (-1,u.1,true,u.2.2)))
 else
 if 0<=j/\j<b.1.length then
 if(0:Int)<=(b.1.getD j.toNat Aa.zero).1/\(b.1.getD j.toNat Aa.zero).1<(t.length:Int)then
 if 0<=j/\j<b.1.length then
 if(0:Int)<=(b.1.getD j.toNat Aa.zero).2.1/\(b.1.getD j.toNat Aa.zero).2.1<((t.getD (b.1.getD j.toNat Aa.zero).1.toNat ALT.zero).length:Int)then
 (LW i j a b ((t.getD (b.1.getD j.toNat Aa.zero).1.toNat ALT.zero).getD (b.1.getD j.toNat Aa.zero).2.1.toNat ALP.zero)).bind λl=>bif l then
 some (0,0,false,([]:ALx))
 else
 (Qo a b ((t.getD (b.1.getD j.toNat Aa.zero).1.toNat ALT.zero).getD (b.1.getD j.toNat Aa.zero).2.1.toNat ALP.zero) (wI (j+1))).bind (Sum.elim (λd=>some (0,0,false,([]:ALx))) (λe=>some ((t.getD (b.1.getD j.toNat Aa.zero).1.toNat ALT.zero).getD (b.1.getD j.toNat Aa.zero).2.1.toNat ALP.zero,0,true,([]:ALx))))
 else none
 else none
 else none
 else none
 else none
def c92:=B6 [.d Ao,.d AL3,.d ALX,.d ALP,.d ALP] [⟨[.Ax [] Ao,.Ax [] AL3,.Ax [] ALX,.Ax [] ALP,.Ax [] ALP],[],Int×Int×Bool×ALx,λp=>Pp p.1.1 p.1.2.1 p.1.2.2.1 p.1.2.2.2.1 p.1.2.2.2.2.1,λr=>(.cons (.pr (dI r.1) (.pr (.pr (dI r.2.1) (.pr (.Am 0) .u)) .u)) (.cons (dB r.2.2.1) .nil),[.row 199 .Ai ALQ r.2.2.2])⟩]
theorem AgA:Ap prog 92 c92:=As (fn:=f92) ⟨⟨E55,pk ⟨vR,trivial⟩,λ_ R K=>by
 simp only[Pp,ALi];simp(disch:=refine id ?_;kernel_rfl) only[Qn,Az (Awl _ _) (K:=AY E55 f92 0 R K),A8 (Awm ..) (K:=AY E55 f92 0 R K),Qo,Az (Awn _ _ _) (K:=AY E55 f92 0 R K)];kernel_rfl⟩,trivial⟩
abbrev xD:=eN [(40,c40),(41,c41),(64,c64),(83,c83),(84,c84),(85,c85),(88,c88),(89,c89),(90,c90),(91,c91),(92,c92)] {Ai:=false,A1:=[(17,{Bb:=[8,15,16,17,18,19,20,21,22],Sj:=[(17,false,AL4),(18,false,AL3),(19,false,ALX)],Ck:=[(20,false,.row [] 96 Aq false)]})],Bv:=[(17,[6,7,20])],BR:=[(3,[0,4,5,8,38]),(6,[0,4,5,8,58]),(18,{Bb:=[6,7,8,15,16,17,18,19,20,21,22],Ck:=[(20,false,.row [] 96 Aq false)]}),(20,[8,15,16,17,18,19,20,21,22]),(23,[8,15,16,17,18,19,20,21,22,23,25,137])],D2:=[(3,[0,4,5,8]),(6,[0,4,5,8,9,10]),(18,[8,15,16,17,18,19,20,21,22]),(20,[8,15,16,17,18,19,20,21,22]),(23,[8,15,16,17,18,19,20,21,22,23,24,25,26])],tX:=[(35,ALY),(43,ALY)],dM:=[(0,.row [] 96 Aq false)]}
def AmH a b c d e g i (z_:Int×Int×ALJ):=sT 150 [(8,.zs),(15,.ptr 0 0 [] 0),(16,.ptr 1 0 [] 0),(17,dD AL4 a),(18,dD AL3 b),(19,dD ALX c),(20,.Am 2),(21,dI z_.1),(22,dI z_.2.1)] [.box (.pr (.Am 3) (.pr (.Am 4) .u)),.box (.pr (.Am 5) (.pr (.Am 6) .u)),.row 96 (.sh []) Aq z_.2.2,.row 198 .Ai Aa d,.row 4 .Ai .bool e,.row 198 .Ai Aa g,.row 4 .Ai .bool i]
def Ak3(a:ALM)(b:ALK)(c:ALB)(d:ALA)(e:ALy)(g:ALA)(i:ALy):=Sum.elim (λ(j:ALJ)=>xR 150 [(6,.zs),(7,dB false),(20,.Am 0)] [.row 96 (.sh []) Aq j]) (λ(k:ALJ)=>xE 0 150 [(20,.Am 0)] [.row 96 (.sh []) Aq k])
def Aud a b c l n o d e g i:=sT 150 [(8,.zs),(15,.ptr 0 0 [] 0),(16,.ptr 1 0 [] 0),(17,dD AL4 a),(18,dD AL3 b),(19,dD ALX c),(20,.Am 2),(21,dI l),(22,dI n)] [.box (.pr (.Am 3) (.pr (.Am 4) .u)),.box (.pr (.Am 5) (.pr (.Am 6) .u)),.row 96 (.sh []) Aq o,.row 198 .Ai Aa d,.row 4 .Ai .bool e,.row 198 .Ai Aa g,.row 4 .Ai .bool i]
def Ar5 a b c l n o d e g i:=Sum.elim (λ(q:(Int×ALJ))=>xN 150 [(8,.zs),(15,.ptr 0 0 [] 0),(16,.ptr 1 0 [] 0),(17,dD AL4 a),(18,dD AL3 b),(19,dD ALX c),(20,.Am 2),(21,dI q.1),(22,dI n)] [.box (.pr (.Am 3) (.pr (.Am 4) .u)),.box (.pr (.Am 5) (.pr (.Am 6) .u)),.row 96 (.sh []) Aq q.2,.row 198 .Ai Aa d,.row 4 .Ai .bool e,.row 198 .Ai Aa g,.row 4 .Ai .bool i]) (λ(s:Unit)=>xR 150 [(6,.zs),(7,dB false),(8,.zs),(15,.ptr 0 0 [] 0),(16,.ptr 1 0 [] 0),(17,dD AL4 a),(18,dD AL3 b),(19,dD ALX c),(20,.Am 2),(21,dI l),(22,dI n)] [.box (.pr (.Am 3) (.pr (.Am 4) .u)),.box (.pr (.Am 5) (.pr (.Am 6) .u)),.row 96 (.sh []) Aq o,.row 198 .Ai Aa d,.row 4 .Ai .bool e,.row 198 .Ai Aa g,.row 4 .Ai .bool i])
def Ah6 a b c l n (t:(Int×Int×Bool×ALx)) (u:(Int×Int×Bool×ALx)) o d e g i:=sT 150 [(8,.zs),(15,.ptr 0 0 [] 0),(16,.ptr 1 0 [] 0),(17,dD AL4 a),(18,dD AL3 b),(19,dD ALX c),(20,.Am 2),(21,dI l),(22,dI n),(23,.ptr 3 0 [] 0),(24,dB t.2.2.1),(25,.ptr 4 0 [] 0),(26,dB u.2.2.1)] [.box (.pr (.Am 5) (.pr (.Am 6) .u)),.box (.pr (.Am 7) (.pr (.Am 8) .u)),.row 96 (.sh []) Aq o,.box (.pr (dI t.1) (.pr (.pr (dI t.2.1) (.pr (.Am 9) .u)) .u)),.box (.pr (dI u.1) (.pr (.pr (dI u.2.1) (.pr (.Am 10) .u)) .u)),.row 198 .Ai Aa d,.row 4 .Ai .bool e,.row 198 .Ai Aa g,.row 4 .Ai .bool i,.row 199 .Ai ALQ t.2.2.2,.row 199 .Ai ALQ u.2.2.2]
def Aaf(a:ALM)(b:ALK)(c:ALB)(l n:Int)(t u:Int×Int×Bool×ALx)(o:ALJ)(d:ALA)(e:ALy)(g:ALA)(i:ALy)(m0:Bool):Ex×St:=xN 150 [(8,.zs),(15,.ptr 0 0 [] 0),(16,.ptr 1 0 [] 0),(17,dD AL4 a),(18,dD AL3 b),(19,dD ALX c),(20,.Am 2),(21,dI l),(22,dI n),(23,.ptr 3 0 [] 0),(25,.ptr 4 0 [] 0),(137,dB m0)] [.box (.pr (.Am 5) (.pr (.Am 6) .u)),.box (.pr (.Am 7) (.pr (.Am 8) .u)),.row 96 (.sh []) Aq o,.box (.pr (dI t.1) (.pr (.pr (dI t.2.1) (.pr (.Am 9) .u)) .u)),.box (.pr (dI u.1) (.pr (.pr (dI u.2.1) (.pr (.Am 10) .u)) .u)),.row 198 .Ai Aa d,.row 4 .Ai .bool e,.row 198 .Ai Aa g,.row 4 .Ai .bool i,.row 199 .Ai ALQ t.2.2.2,.row 199 .Ai ALQ u.2.2.2]
theorem Awr a b c l n t u o d e g i:Xe xD 0 23 (sb (cd f43 524276) 6) (pt 92) (Ah6 a b c l n t u o d e g i)=some (Aaf a b c l n t u o d e g i ((!t.2.2.1)||(!u.2.2.1))):=by
 refine .trans (b:=
 bif !t.2.2.1 then
 some (Aaf a b c l n t u o d e g i true)
 else
 some (Aaf a b c l n t u o d e g i (!u.2.2.1))) (by kernel_rfl) ?_
 cases (!t.2.2.1);rfl;rfl
def Auc a b c l n o d e g i:=sT 150 [(8,.zs),(15,.ptr 0 0 [] 0),(16,.ptr 1 0 [] 0),(17,dD AL4 a),(18,dD AL3 b),(19,dD ALX c),(20,.Am 2),(21,dI l),(22,dI n)] [.box (.pr (.Am 3) (.pr (.Am 4) .u)),.box (.pr (.Am 5) (.pr (.Am 6) .u)),.row 96 (.sh []) Aq o,.row 198 .Ai Aa d,.row 4 .Ai .bool e,.row 198 .Ai Aa g,.row 4 .Ai .bool i]
def Ar4 a b c l n o d e g i:=Sum.elim (λ(v:Unit)=>xE 1 150 [(8,.zs),(15,.ptr 0 0 [] 0),(16,.ptr 1 0 [] 0),(17,dD AL4 a),(18,dD AL3 b),(19,dD ALX c),(20,.Am 2),(21,dI l),(22,dI n)] [.box (.pr (.Am 3) (.pr (.Am 4) .u)),.box (.pr (.Am 5) (.pr (.Am 6) .u)),.row 96 (.sh []) Aq o,.row 198 .Ai Aa d,.row 4 .Ai .bool e,.row 198 .Ai Aa g,.row 4 .Ai .bool i]) (λ(w:Unit)=>xN 150 [(8,.zs),(15,.ptr 0 0 [] 0),(16,.ptr 1 0 [] 0),(17,dD AL4 a),(18,dD AL3 b),(19,dD ALX c),(20,.Am 2),(21,dI l),(22,dI n)] [.box (.pr (.Am 3) (.pr (.Am 4) .u)),.box (.pr (.Am 5) (.pr (.Am 6) .u)),.row 96 (.sh []) Aq o,.row 198 .Ai Aa d,.row 4 .Ai .bool e,.row 198 .Ai Aa g,.row 4 .Ai .bool i])
def Ef(a:ALM)(b:ALK)(c:ALB)(l n:Int)(o:ALJ)(d:ALA)(e:ALy)(g:ALA)(i:ALy):AL8 (Unit⊕Unit):=
 bif decide (n<(d.length:Int))then
 (DX (d,e,()) a n).bind λx=>bif !x then
 (DX (g,i,()) a n).bind λy=>bif !y then
 some (.inl ())
 else
 some (.inr ())
 else
 some (.inr ())
 else
 some (.inr ())
theorem Awq a b c l n o d e g i:AP xD 0 20 (sb (cd f43 524276) 6) 4 (Auc a b c l n o d e g i) (Ef a b c l n o d e g i) (Ar4 a b c l n o d e g i):=by
 unfold AP;simp only[Ef,ALh];kernel_rfl
def Jb(a:ALM)(b:ALK)(c:ALB)(l n:Int)(o:ALJ)(d:ALA)(e:ALy)(g:ALA)(i:ALy):AL8 ((Int×ALJ)⊕Unit):=
 (Ef a b c l n o d e g i).bind (Sum.elim (λv=>some (.inl (l,o))) (λw=>(Pp (d,e,()) b c l n).bind λt=>(Pp (g,i,()) b c l n).bind λu=>QF (Ah6 a b c l n t u o d e g i) (
 bif (!t.2.2.1)||(!u.2.2.1)then
 some (.inr ())
 else
 if(o.length+([((t.1,(t.2.1,t.2.2.2,()),()),(u.1,(u.2.1,u.2.2.2,()),()),wI (n-l),())]:ALJ).length)*88<=140737488355328 then
 some (.inl (n,o++([((t.1,(t.2.1,t.2.2.2,()),()),(u.1,(u.2.1,u.2.2.2,()),()),wI (n-l),())]:ALJ)))
 else none)))
theorem Aws a b c l n o d e g i:AP xD 0 18 (cd f43 524276) 6 (Aud a b c l n o d e g i) (Jb a b c l n o d e g i) (Ar5 a b c l n o d e g i):=by
 unfold AP;simp only[Jb,ALh];simp(disch:=refine id ?_;kernel_rfl) only[A8 (Awq ..) (K:=Ta xD 0 18),F8 (Awr ..) (K:=Ta xD 0 18)];kernel_rfl
def IJ(a:ALM)(b:ALK)(c:ALB)(d:ALA)(e:ALy)(g:ALA)(i:ALy)(l n:Int)(o:ALJ):AL8 ((Int×Int×ALJ)⊕(ALJ⊕ALJ)):=
 bif decide (n<=(d.length:Int))then
 (Jb a b c l n o d e g i).bind (Sum.elim (λq=>some (.inl (q.1,wI (n+1),q.2))) (λs=>some (.inr (.inl o))))
 else
 some (.inr (.inr o))
def DR a b c d e g i (z_:Int×Int×ALJ):=IJ a b c d e g i z_.1 z_.2.1 z_.2.2
def K8 a b c d e g i l n o:=fix (DR a b c d e g i) (l,n,o)
theorem AoB a b c d e g i:A0 xD 0 17 (code f43) 262138 (AmH a b c d e g i) (DR a b c d e g i) (Ak3 a b c d e g i):=by
 intro _;simp only[DR,IJ,ALh];simp(disch:=refine id ?_;kernel_rfl) only[A8 (Aws ..) (K:=LP xD 0 17)];kernel_rfl
def Aub a1 b1 c1 d1 e1:=sT 150 [(0,dD ALU a1),(4,.ptr 0 0 [] 0),(5,.ptr 1 0 [] 0),(8,.zs),(9,.ptr 2 0 [] 0),(10,dB d1)] [.box (dD Ag b1),.box (dD Aj c1),.box (dD Aj e1)]
def Ar3 a1 b1 c1 (d1:Bool) (e1:ALr):=λ(g1:Bool)=>xN 150 [(0,dD ALU a1),(4,.ptr 0 0 [] 0),(5,.ptr 1 0 [] 0),(8,.zs),(58,dB g1)] [.box (dD Ag b1),.box (dD Aj c1)]
def Mx(a1:ALC)(b1:ALp)(c1:ALr)(d1:Bool)(e1:ALr):AL8 Bool:=
 bif !d1 then
 some true
 else
 (Rc a1 e1).bind λi1=>(Rc a1 c1).bind λj1=>some (i1 !=j1)
theorem Awp a1 b1 c1 d1 e1:AP xD 0 6 (code f43) 124 (Aub a1 b1 c1 d1 e1) (Mx a1 b1 c1 d1 e1) (Ar3 a1 b1 c1 d1 e1):=by
 unfold AP;simp only[Mx,ALh];kernel_rfl
def Aua a1 b1 c1:=sT 150 [(0,dD ALU a1),(4,.ptr 0 0 [] 0),(5,.ptr 1 0 [] 0),(8,.zs)] [.box (dD Ag b1),.box (dD Aj c1)]
def Ar2 a1 b1 c1:=λ(k1:Bool)=>xN 150 [(0,dD ALU a1),(4,.ptr 0 0 [] 0),(5,.ptr 1 0 [] 0),(8,.zs),(38,dB k1)] [.box (dD Ag b1),.box (dD Aj c1)]
def Mw(a1:ALC)(b1:ALp)(c1:ALr):AL8 Bool:=
 (Jn a1 c1).bind λl1=>bif !l1 then
 some true
 else
 (Hp a1 ([b1]:ALF)).bind λn1=>some (!n1)
theorem Awo a1 b1 c1:AP xD 0 3 (code f43) 28 (Aua a1 b1 c1) (Mw a1 b1 c1) (Ar2 a1 b1 c1):=by
 unfold AP;simp only[Mw,ALh];kernel_rfl
def NR(a1:ALC)(b1:ALp)(c1:ALr):AL8 (Bool×ALJ):=
 (Mw a1 b1 c1).bind λk1=>bif k1 then
 some (false,([]:ALJ))
 else
 (EL a1 ([b1]:ALF) c1).bind λo1=>(Mx a1 b1 c1 o1.2 o1.1).bind λg1=>bif g1 then
 some (false,([]:ALJ))
 else
 (C3 a1 b1.2.2.1).bind λq1=>(C3 a1 b1.2.2.2.1).bind λs1=>(Jo q1.2).bind λt1=>(Jo s1.2).bind λu1=>(MS a1 c1).bind λa=>(Qq a1 c1).bind λb=>(Ii a1 c1).bind λc=>(K8 a b c t1.1 t1.2 u1.1 u1.2 0 1 ([]:ALJ)).bind (Sum.elim (λj=>some (false,([]:ALJ))) (λk=>some (true,k)))
def c43:=B6 [.d ALU,.d Ag,.d Aj] [⟨[.Ax [] ALU,.Ax [] Ag,.Ax [] Aj],[],Bool×ALJ,λp=>NR p.1.1 p.1.2.1 p.1.2.2.1,λr=>(.cons (.Am 0) (.cons (dB r.1) .nil),[.row 96 (.sh []) Aq r.2])⟩]
theorem Af6:Ap prog 43 c43:=As (fn:=f43) ⟨⟨xD,pk ⟨vO,l9,vQ,dq,vU,vV,Agy,vW,Agz,ma,AgA,trivial⟩,λ_ R K=>by
 simp only[NR,ALi];simp(disch:=refine id ?_;kernel_rfl) only[A8 (Awo ..) (K:=AY xD f43 0 R K),A8 (Awp ..) (K:=AY xD f43 0 R K),K8,Az (AoB _ _ _ _ _ _ _) (K:=AY xD f43 0 R K)];kernel_rfl⟩,trivial⟩
abbrev E57:=eN [] {A1:=[(4,[2,3,5])],Bv:=[(4,[4])],BR:=[(2,[2,3,19])],D2:=[(2,[2,3])]}
def Aue a b (z_:Int):=sT 38 [(2,.ptr 0 0 [] 0),(3,.ptr 1 0 [] 0),(5,dI z_)] [.box (dD Ah a),.box (dD Ah b)]
def Ar6(a b:ALq):=Sum.elim (λ(c:Unit)=>xR 38 [(4,dB false)] []) (λ(d:Unit)=>xE 0 38 [] [])
def H8(a b:ALq)(e:Int):AL8 (Int⊕(Unit⊕Unit)):=
 bif decide (e<(a.2.1.length:Int))then
 if 0<=e/\e<a.2.1.length then
 if 0<=e/\e<b.2.1.length then
 bif (a.2.1.getD e.toNat ALQ.zero) !=(b.2.1.getD e.toNat ALQ.zero)then
 some (.inr (.inl ()))
 else
 some (.inl (wI (e+1)))
 else none
 else none
 else
 some (.inr (.inr ()))
def Dh a b (z_:Int):=H8 a b z_
def Ua a b e:=fix (Dh a b) e
theorem Awu a b:A0 E57 0 4 (code f78) 58 (Aue a b) (Dh a b) (Ar6 a b):=by
 intro _;simp only[Dh,H8,ALh];kernel_rfl
def Ah7 a b:=sT 38 [(2,.ptr 0 0 [] 0),(3,.ptr 1 0 [] 0)] [.box (dD Ah a),.box (dD Ah b)]
def Aag(a b:ALq)(m0:Bool):Ex×St:=xN 38 [(2,.ptr 0 0 [] 0),(3,.ptr 1 0 [] 0),(19,dB m0)] [.box (dD Ah a),.box (dD Ah b)]
theorem Awt a b:Xe E57 0 2 (code f78) (pt 12) (Ah7 a b)=some (Aag a b ((a.1 !=b.1)||((a.2.1.length:Int) !=(b.2.1.length:Int)))):=by
 refine .trans (b:=
 bif a.1 !=b.1 then
 some (Aag a b true)
 else
 some (Aag a b ((a.2.1.length:Int) !=(b.2.1.length:Int)))) (by kernel_rfl) ?_
 cases (a.1 !=b.1);rfl;rfl
def Hq(a b:ALq):AL8 Bool:=
 QF (Ah7 a b) (
 bif (a.1 !=b.1)||((a.2.1.length:Int) !=(b.2.1.length:Int))then
 some false
 else
 (Ua a b 0).bind (Sum.elim (λc=>some false) (λd=>some true)))
def c78:=B6 [.d Ah,.d Ah] [⟨[.Ax [] Ah,.Ax [] Ah],[],Bool,λp=>Hq p.1.1 p.1.2.1,λr=>(dB r,[])⟩]
theorem Agu:Ap prog 78 c78:=As (fn:=f78) ⟨⟨E57,pk trivial,λ_ R K=>by
 simp only[Hq,ALi];simp(disch:=refine id ?_;kernel_rfl) only[F8 (Awt ..) (K:=AY E57 f78 0 R K),Ua,Az (Awu _ _) (K:=AY E57 f78 0 R K)];kernel_rfl⟩,trivial⟩
abbrev vy:Type:=ALB->Int->Int->ALy->Option (Bool×ALy×ALx)
def AoV(rc:vy):Va.Callee:=B6 [.d ALX,.UJ,.d ALP,.d ALP] [⟨[.Ax [] ALX,.k (.Am 0),.Ax [] ALP,.Ax [] ALP],[.row 4 .Ai .bool],Bool×ALy×ALx,λp=>rc p.1.1 p.1.2.2.1 p.1.2.2.2.1 p.2.1,λr=>(.cons (.Am 1) (.cons (dB r.1) .nil),[.row 4 .Ai .bool r.2.1,.row 2 .Ai ALP r.2.2])⟩]
abbrev E58(rc:vy):=eN [(94,AoV rc)] {A1:=[(4,[0,1,2,3,10])],Bv:=[(4,[8,9])],BR:=[(5,[0,1,2,3,8,9,10]),(7,[0,1,2,3,10])],D2:=[(5,[0,1,2,3,10]),(7,[0,1,2,3,10])],dM:=[(0,.row [] 2 ALP true)]}
def Aui a b c (z_:Int×ALy):=sT 80 [(0,dD ALX a),(1,.Am 0),(2,dI b),(3,dI c),(10,dI z_.1)] [.row 4 .Ai .bool z_.2]
def Ar9(a:ALB)(b c:Int):=Sum.elim (λ(d:(ALy×ALx))=>xR 80 [(8,.Am 1),(9,dB true)] [.row 4 .Ai .bool d.1,.row 2 .Ai ALP d.2]) (λ(e:ALy)=>xE 0 80 [] [.row 4 .Ai .bool e])
def Auh a b c g i:=sT 80 [(0,dD ALX a),(1,.Am 0),(2,dI b),(3,dI c),(10,dI g)] [.row 4 .Ai .bool i]
def Ar8 a b c g (i:ALy):=Sum.elim (λ(j:ALy)=>xN 80 [(0,dD ALX a),(1,.Am 0),(2,dI b),(3,dI c),(10,dI g)] [.row 4 .Ai .bool j]) (λ(k:(ALy×ALx))=>xR 80 [(0,dD ALX a),(1,.Am 0),(2,dI b),(3,dI c),(8,.Am 1),(9,dB true),(10,dI g)] [.row 4 .Ai .bool k.1,.row 2 .Ai ALP k.2])
def Auf a b c g i:=sT 80 [(0,dD ALX a),(1,.Am 0),(2,dI b),(3,dI c),(10,dI g)] [.row 4 .Ai .bool i]
def Ar7 a b c g i:=Sum.elim (λ(l:Unit)=>xE 1 80 [(0,dD ALX a),(1,.Am 0),(2,dI b),(3,dI c),(10,dI g)] [.row 4 .Ai .bool i]) (λ(n:Unit)=>xN 80 [(0,dD ALX a),(1,.Am 0),(2,dI b),(3,dI c),(10,dI g)] [.row 4 .Ai .bool i])
def RA(rc:vy)(a:ALB)(b c g:Int)(i:ALy):AL8 (Unit⊕Unit):=
 if 0<=g/\g<i.length then
 bif i.getD g.toNat (Ty.zero .bool)then
 some (.inl ())
 else
 if 0<=g/\g<a.length then
 bif (a.getD g.toNat Ab.zero).1 !=b then
 if 0<=g/\g<a.length then
 bif (a.getD g.toNat Ab.zero).2.1 !=b then
 some (.inl ())
 else
 some (.inr ())
 else none
 else
 some (.inr ())
 else none
 else none
theorem Awv(rc:vy) a b c g i:AP (E58 rc) 1 7 (sb (cd f94 116) 6) 4 (Auf a b c g i) (RA rc a b c g i) (Ar7 a b c g i):=by
 unfold AP;simp only[RA,ALh];kernel_rfl
def RB(rc:vy)(a:ALB)(b c g:Int)(i:ALy):AL8 (ALy⊕(ALy×ALx)):=
 (RA rc a b c g i).bind (Sum.elim (λl=>some (.inl i)) (λn=>if 0<=g/\g<i.length then
 if 0<=g/\g<a.length then
 if 0<=g/\g<a.length then
 (rc a (wI ((wI ((a.getD g.toNat Ab.zero).1+(a.getD g.toNat Ab.zero).2.1))-b)) c (i.set g.toNat true)).bind λo=>bif o.1 then
 if 0<=g/\g<a.length then
 if(([(a.getD g.toNat Ab.zero).2.2.1]:ALx).length+o.2.2.length)*8<=140737488355328 then
 some (.inr (o.2.1,([(a.getD g.toNat Ab.zero).2.2.1]:ALx)++o.2.2))
 else none
 else none
 else
 some (.inl o.2.1)
 else none
 else none
 else none))
theorem Aww(rc:vy) a b c g i:AP (E58 rc) 1 5 (cd f94 116) 6 (Auh a b c g i) (RB rc a b c g i) (Ar8 a b c g i):=by
 unfold AP;simp only[RB,ALh];simp(disch:=refine id ?_;kernel_rfl) only[A8 (Awv ..) (K:=Ta (E58 rc) 1 5)];kernel_rfl
def SR(rc:vy)(a:ALB)(b c g:Int)(i:ALy):AL8 ((Int×ALy)⊕((ALy×ALx)⊕ALy)):=
 bif decide (g<(a.length:Int))then
 (RB rc a b c g i).bind (Sum.elim (λj=>some (.inl (wI (g+1),j))) (λk=>some (.inr (.inl (k.1,k.2)))))
 else
 some (.inr (.inr i))
def OD(rc:vy) a b c (z_:Int×ALy):=SR rc a b c z_.1 z_.2
def Vb(rc:vy) a b c g i:=fix (OD rc a b c) (g,i)
theorem Awx(rc:vy) a b c:A0 (E58 rc) 1 4 (code f94) 58 (Aui a b c) (OD rc a b c) (Ar9 a b c):=by
 intro _;simp only[OD,SR,ALh];simp(disch:=refine id ?_;kernel_rfl) only[A8 (Aww ..) (K:=LP (E58 rc) 1 4)];kernel_rfl
def Qw(rc:vy)(a:ALB)(b c:Int)(q:ALy):AL8 (Bool×ALy×ALx):=
 bif b==c then
 some (true,q,([]:ALx))
 else
 (Vb rc a b c 0 q).bind (Sum.elim (λd=>some (true,d.1,d.2)) (λe=>some (false,e,([]:ALx))))
theorem U58 R (rc:vy) a b c q K:R4 (E58 rc) f94 R [dD ALX a,.Am 0,dI b,dI c] [.row 4 .Ai .bool q] K=(Qw rc a b c q).bind λr=>K (.cons (.Am 1) (.cons (dB r.1) .nil)) [.row 4 .Ai .bool r.2.1,.row 2 .Ai ALP r.2.2]:=by
 simp only[Qw,ALi];simp(disch:=refine id ?_;kernel_rfl) only[Vb,Az (Awx _ _ _ _) (K:=AY (E58 rc) f94 1 R K)];kernel_rfl
def H9:Nat->vy
 |0=>λ_ _ _ _=>none
 |n+1=>Qw (H9 n)
def Y4:vy:=H9 1000000
def c94:Va.Callee:=AoV Y4
theorem vX:∀n,Ap prog 94 (AoV (H9 n))
 |0=>AfG ⟨λ_=>rfl,trivial⟩
 |n+1=>As (fn:=f94) ⟨⟨E58 (H9 n),pk ⟨vX n,trivial⟩,λp R K=>U58 R (H9 n) p.1.1 p.1.2.2.1 p.1.2.2.2.1 p.2.1 K⟩,trivial⟩
theorem AgC:Ap prog 94 c94:=vX _
abbrev E59:=eN [] {A1:=[(2,[0,1,5])],Bv:=[(2,[4])]}
def Auj a b (z_:Int):=sT 18 [(0,dD ALT a),(1,dI b),(5,dI z_)] []
def Asa(a:ALx)(b:Int):=Sum.elim (λ(c:Unit)=>xR 18 [(4,dB true)] []) (λ(d:Unit)=>xE 0 18 [] [])
def SI(a:ALx)(b e:Int):AL8 (Int⊕(Unit⊕Unit)):=
 bif decide (e<(a.length:Int))then
 if 0<=e/\e<a.length then
 bif (a.getD e.toNat ALP.zero)==b then
 some (.inr (.inl ()))
 else
 some (.inl (wI (e+1)))
 else none
 else
 some (.inr (.inr ()))
def Oh a b (z_:Int):=SI a b z_
def U9 a b e:=fix (Oh a b) e
theorem Awy a b:A0 E59 0 2 (code f135) 26 (Auj a b) (Oh a b) (Asa a b):=by
 intro _;simp only[Oh,SI,ALh];kernel_rfl
def T7(a:ALx)(b:Int):AL8 Bool:=
 (U9 a b 0).bind (Sum.elim (λc=>some true) (λd=>some false))
def Ax4:=B6 [.d ALT,.d ALP] [⟨[.Ax [] ALT,.Ax [] ALP],[],Bool,λp=>T7 p.1.1 p.1.2.1,λr=>(dB r,[])⟩]
theorem Abo:Ap prog 135 Ax4:=As (fn:=f135) ⟨⟨E59,pk trivial,λ_ R K=>by
 simp only[T7,ALi];simp(disch:=refine id ?_;kernel_rfl) only[U9,Az (Awy _ _) (K:=AY E59 f135 0 R K)];kernel_rfl⟩,trivial⟩
abbrev E60:=eN [(135,Ax4)] {A1:=[(3,{Bb:=[0,3,4],Ck:=[(3,false,.row [] 2 ALP true)]}),(8,[0,3,4,5])],Bv:=[(3,[3]),(8,[0,3,4,5])],BR:=[(4,{Bb:=[0,3,4],Ck:=[(3,false,.row [] 2 ALP true)]}),(9,[0,3,4,5])],D2:=[(4,[0,3,4]),(9,[0,3,4,5])]}
def Aun a (z_:Int×ALx):=sT 60 [(0,dD ALT a),(3,.Am 0),(4,dI z_.1)] [.row 2 .Ai ALP z_.2]
def Asf(a:ALx):=λ(b:ALx)=>xE 0 60 [(3,.Am 0)] [.row 2 .Ai ALP b]
def Aum a c d:=sT 60 [(0,dD ALT a),(3,.Am 0),(4,dI c)] [.row 2 .Ai ALP d]
def Ase a c (d:ALx):=λ(e:ALx)=>xN 60 [(0,dD ALT a),(3,.Am 0),(4,dI c)] [.row 2 .Ai ALP e]
def Aul a c (z_:Int×ALx):=sT 60 [(0,dD ALT a),(3,.Am 0),(4,dI c),(5,dI z_.1)] [.row 2 .Ai ALP z_.2]
def Asd a c:=λ(g:(Int×ALx))=>xE 2 60 [(0,dD ALT a),(3,.Am 0),(4,dI c),(5,dI g.1)] [.row 2 .Ai ALP g.2]
def Auk a c i j:=sT 60 [(0,dD ALT a),(3,.Am 0),(4,dI c),(5,dI i)] [.row 2 .Ai ALP j]
def Asb a c i j:=Sum.elim (λ(k:Unit)=>xN 60 [(0,dD ALT a),(3,.Am 0),(4,dI c),(5,dI i)] [.row 2 .Ai ALP j]) (λ(l:Unit)=>xE 2 60 [(0,dD ALT a),(3,.Am 0),(4,dI c),(5,dI i)] [.row 2 .Ai ALP j])
def MX(a:ALx)(c i:Int)(j:ALx):AL8 (Unit⊕Unit):=
 bif decide (i>0)then
 if 0<=(wI (i-1))/\(wI (i-1))<j.length then
 if 0<=c/\c<a.length then
 bif decide ((j.getD (wI (i-1)).toNat ALP.zero)>(a.getD c.toNat ALP.zero))then
 some (.inl ())
 else
 some (.inr ())
 else none
 else none
 else
 some (.inr ())
theorem Awz a c i j:AP E60 0 9 (sb (sb (cd f95 116) 6) 184) 2 (Auk a c i j) (MX a c i j) (Asb a c i j):=by
 unfold AP;simp only[MX,ALh];kernel_rfl
def OZ(a:ALx)(c i:Int)(j:ALx):AL8 ((Int×ALx)⊕(Int×ALx)):=
 (MX a c i j).bind (Sum.elim (λk=>if 0<=(wI (i-1))/\(wI (i-1))<j.length then
 if 0<=i/\i<j.length then
 some (.inl (wI (i-1),j.set i.toNat (j.getD (wI (i-1)).toNat ALP.zero)))
 else none
 else none) (λl=>some (.inr (i,j))))
def Ka a c (z_:Int×ALx):=OZ a c z_.1 z_.2
def Ri a c i j:=fix (Ka a c) (i,j)
theorem AwA a c:A0 E60 0 8 (sb (cd f95 116) 6) 92 (Aul a c) (Ka a c) (Asd a c):=by
 intro _;simp only[Ka,OZ,ALh];simp(disch:=refine id ?_;kernel_rfl) only[A8 (Awz ..) (K:=LP E60 0 8)];kernel_rfl
def MY(a:ALx)(c:Int)(d:ALx):AL8 ALx:=
 if 0<=c/\c<a.length then
 (T7 d (a.getD c.toNat ALP.zero)).bind λn=>bif n then
 some d
 else
 if 0<=c/\c<a.length then
 if(d.length+([a.getD c.toNat ALP.zero]:ALx).length)*8<=140737488355328 then
 (Ri a c (d.length:Int) (d++([a.getD c.toNat ALP.zero]:ALx))).bind λg=>if 0<=c/\c<a.length then
 if(0:Int)<=g.1/\g.1<(g.2.length:Int)then
 some (g.2.set g.1.toNat (a.getD c.toNat ALP.zero))
 else none
 else none
 else none
 else none
 else none
theorem AwB a c d:AP E60 0 4 (cd f95 116) 6 (Aum a c d) (MY a c d) (Ase a c d):=by
 unfold AP;simp only[MY,ALh];simp(disch:=refine id ?_;kernel_rfl) only[Ri,Az (AwA _ _) (K:=Ta E60 0 4)];kernel_rfl
def O0(a:ALx)(c:Int)(d:ALx):AL8 ((Int×ALx)⊕ALx):=
 bif decide (c<(a.length:Int))then
 (MY a c d).bind λe=>some (.inl (wI (c+1),e))
 else
 some (.inr d)
def Kb a (z_:Int×ALx):=O0 a z_.1 z_.2
def Rj a c d:=fix (Kb a) (c,d)
theorem AwC a:A0 E60 0 3 (code f95) 58 (Aun a) (Kb a) (Asf a):=by
 intro _;simp only[Kb,O0,ALh];simp(disch:=refine id ?_;kernel_rfl) only[A8 (AwB ..) (K:=LP E60 0 3)];kernel_rfl
def NT(a:ALx):AL8 ALx:=
 (Rj a 0 ([]:ALx)).bind λb=>some b
def c95:=B6 [.d ALT] [⟨[.Ax [] ALT],[],ALx,λp=>NT p.1.1,λr=>(.Am 0,[.row 2 .Ai ALP r])⟩]
theorem AgD:Ap prog 95 c95:=As (fn:=f95) ⟨⟨E60,pk ⟨Abo,trivial⟩,λ_ R K=>by
 simp only[NT,ALi];simp(disch:=refine id ?_;kernel_rfl) only[Rj,Az (AwC _) (K:=AY E60 f95 0 R K)];kernel_rfl⟩,trivial⟩
abbrev E61:=eN [] {A1:=[(3,[0,6,7,8])],Bv:=[(3,{Bb:=[]})],BR:=[(4,[0,6,7,8])],D2:=[(4,[0,6,7,8])]}
def Aup a b (z_:Int×ALx):=sT 43 [(0,.Am 0),(6,dI a),(7,dI b),(8,dI z_.1)] [.row 2 .Ai ALP z_.2]
def Ash(a b:Int):=λ(c:ALx)=>xE 0 43 [] [.row 2 .Ai ALP c]
def Auo a b d e:=sT 43 [(0,.Am 0),(6,dI a),(7,dI b),(8,dI d)] [.row 2 .Ai ALP e]
def Asg a b d (e:ALx):=λ(g:ALx)=>xN 43 [(0,.Am 0),(6,dI a),(7,dI b),(8,dI d)] [.row 2 .Ai ALP g]
def OC(a b d:Int)(e:ALx):AL8 ALx:=
 if 0<=d/\d<e.length then
 bif (e.getD d.toNat ALP.zero)==b then
 if 0<=d/\d<e.length then
 some (e.set d.toNat a)
 else none
 else
 some e
 else none
theorem AwD a b d e:AP E61 1 4 (cd f96 60) 6 (Auo a b d e) (OC a b d e) (Asg a b d e):=by
 unfold AP;simp only[OC,ALh];kernel_rfl
def Lq(a b d:Int)(e:ALx):AL8 ((Int×ALx)⊕ALx):=
 bif decide (d<(e.length:Int))then
 (OC a b d e).bind λg=>some (.inl (wI (d+1),g))
 else
 some (.inr e)
def Fw a b (z_:Int×ALx):=Lq a b z_.1 z_.2
def SQ a b d e:=fix (Fw a b) (d,e)
theorem AwE a b:A0 E61 1 3 (code f96) 30 (Aup a b) (Fw a b) (Ash a b):=by
 intro _;simp only[Fw,Lq,ALh];simp(disch:=refine id ?_;kernel_rfl) only[A8 (AwD ..) (K:=LP E61 1 3)];kernel_rfl
def MW(i j:Int)(k:ALx):AL8 ALx:=
 if 0<=i/\i<k.length then
 if 0<=j/\j<k.length then
 if 0<=i/\i<k.length then
 if 0<=j/\j<k.length then
 (SQ (if(k.getD j.toNat ALP.zero)<(k.getD i.toNat ALP.zero)then(k.getD j.toNat ALP.zero)else(k.getD i.toNat ALP.zero)) (if(k.getD j.toNat ALP.zero)>(k.getD i.toNat ALP.zero)then(k.getD j.toNat ALP.zero)else(k.getD i.toNat ALP.zero)) 0 k).bind λc=>some c
 else none
 else none
 else none
 else none
def c96:=B6 [.UJ,.d ALP,.d ALP] [⟨[.k (.Am 0),.Ax [] ALP,.Ax [] ALP],[.row 2 .Ai ALP],ALx,λp=>MW p.1.2.1 p.1.2.2.1 p.2.1,λr=>(.nil,[.row 2 .Ai ALP r])⟩]
theorem AgE:Ap prog 96 c96:=As (fn:=f96) ⟨⟨E61,pk trivial,λ_ R K=>by
 simp only[MW,ALi];simp(disch:=refine id ?_;kernel_rfl) only[SQ,Az (AwE _ _) (K:=AY E61 f96 1 R K)];kernel_rfl⟩,trivial⟩
abbrev E62:=eN [] {Ai:=false,X9:=[(3,[0]),(4,[0])],ZA:=[(3,[0,3]),(4,[0])],UT:=[.mv 0 [0],.AK 1,.mv 0 [2],.AK 3]}
def Ah9(a:Int) b c d:=sT 41 [(0,.ptr 0 a [] 0)] [.box (.pr (.Am 4) (.pr (.Am 2) (.pr (.Am 3) .u))),.AK,.row 164 .Ai Ab b,.row 2 .Ai ALP c,.row 57 (.sh []) Ah d]
def vq(a:Int) b (c:ALx) d:=λ(e:Unit)=>sT 41 [(0,.ptr 0 a [] 0)] [.box (.pr (.Am 4) (.pr (.Am 2) (.pr (.Am 5) .u))),.AK,.row 164 .Ai Ab b,.AK,.row 57 (.sh []) Ah d,.row 2 .Ai ALP (c++([(c.length:Int)]:ALx))]
def Ke(a:Int)(b:ALB)(c:ALx)(d:ALG):AL8 Unit:=
 if(c.length+([(c.length:Int)]:ALx).length)*8<=140737488355328 then
 some ()
 else none
noncomputable def Aip(a:Int)(b:ALB)(c:ALx)(d:ALG):AL8 Unit:=if(c.length+([(c.length:Int)]:ALx).length)*8<=140737488355328 then M4 (vq a b c d ()) (vq a b c d ())else none
def vB(w:AL8 Unit):AL8 Unit:=cc (cc w (cc w (cc w (cc w w)))) (cc (cc w (cc w (cc w w))) (cc (cc w (cc w w)) (cc (cc w w) w)))
theorem AwG(a:Int)(b:ALB)(c:ALx)(d:ALG):Py E62 4 4 (code f93) 30 (Ah9 a b c d) (Ke a b c d) (vq a b c d):=by
 unfold Py;have h:sy E62 4 4 (code f93) (pt 30) (Ah9 a b c d) =
 if(c.length+([(c.length:Int)]:ALx).length)*8<=140737488355328 then((vB (Aip a b c d)).bind λ_=>some (vq a b c d ()))else none:=by kernel_rfl
 rw[h];unfold Ke;simp only[ALh,mS,mO];clear h;by_cases F6:(c.length+([(c.length:Int)]:ALx).length)*8<=140737488355328
 ·rw[AJg F6,AJg F6];simp only[vB,cc,Aip,AJe,AJg F6,AJK,AIY,ER]
 ·simp only[AJK,AJh F6]
def Ah8(a:Int) g b c i:=sT 41 [(0,.ptr 0 a [] 0),(3,.ptr 4 0 [] 0)] [.box (.pr (.Am 1) (.pr (.Am 2) (.pr (.Am 3) .u))),.row 57 (.sh []) Ah g,.row 164 .Ai Ab b,.row 2 .Ai ALP c,.box (dD Cu i)]
def vp(a:Int)(g:ALG) b c (i:ALw):=λ(j:Unit)=>sT 41 [(0,.ptr 0 a [] 0)] [.box (.pr (.Am 4) (.pr (.Am 2) (.pr (.Am 3) .u))),.AK,.row 164 .Ai Ab b,.row 2 .Ai ALP c,.row 57 (.sh []) Ah (g++([i.2.1]:ALG))]
def Kd(a:Int)(g:ALG)(b:ALB)(c:ALx)(i:ALw):AL8 Unit:=
 if(g.length+([i.2.1]:ALG).length)*32<=140737488355328 then
 some ()
 else none
noncomputable def eh(a:Int)(g:ALG)(b:ALB)(c:ALx)(i:ALw):AL8 Unit:=if(g.length+([i.2.1]:ALG).length)*32<=140737488355328 then M4 (vp a g b c i ()) (vp a g b c i ())else none
theorem AwF(a:Int)(g:ALG)(b:ALB)(c:ALx)(i:ALw):Py E62 4 3 (code f93) 14 (Ah8 a g b c i) (Kd a g b c i) (vp a g b c i):=by
 unfold Py;have h:sy E62 4 3 (code f93) (pt 14) (Ah8 a g b c i) =
 if(g.length+([i.2.1]:ALG).length)*32<=140737488355328 then((((eh a g b c i).bind λ_=>(eh a g b c i).bind λ_=>eh a g b c i).bind λ_=>((eh a g b c i).bind λ_=>eh a g b c i).bind λ_=>eh a g b c i).bind λ_=>some (vp a g b c i ()))else none:=by kernel_rfl
 rw[h];unfold Kd;simp only[ALh,mS,mO];clear h;by_cases F6:(g.length+([i.2.1]:ALG).length)*32<=140737488355328
 ·rw[AJg F6,AJg F6];simp only[eh,AJe,AJg F6,AJK,AIY,ER]
 ·simp only[AJK,AJh F6]
def Hs(a:Int)(i:ALw)(g:ALG)(b:ALB)(c:ALx):AL8 (Int×ALB×ALG×ALx):=
 bif decide (i.1>=0)then
 some (i.1,b,g,c)
 else
 (Kd a g b c i).bind λj=>(Ke a b c (g++([i.2.1]:ALG))).bind λe=>some (wI (((c++([(c.length:Int)]:ALx)).length:Int)-1),b,g++([i.2.1]:ALG),c++([(c.length:Int)]:ALx))
def c93:=B6 [.UJ,.d Cu] [⟨[.ptr 0 [] 0,.Ax [] Cu],[.box (.pr (.k (.Am 1)) (.pr (.k (.Am 2)) (.pr (.k (.Am 3)) (.k .u)))),.row 57 (.sh []) Ah,.row 164 .Ai Ab,.row 2 .Ai ALP],Int×ALB×ALG×ALx,λp=>Hs p.1.1 p.1.2.1 p.2.2.1 p.2.2.2.1 p.2.2.2.2.1,λr=>(dI r.1,[.box (.pr (.Am 4) (.pr (.Am 2) (.pr (.Am 5) .u))),.AK,.row 164 .Ai Ab r.2.1,.AK,.row 57 (.sh []) Ah r.2.2.1,.row 2 .Ai ALP r.2.2.2])⟩]
theorem AgB:Ap prog 93 c93:=As (fn:=f93) ⟨⟨E62,pk trivial,λ_ R K=>by
 simp only[Hs,ALi];simp(disch:=refine id ?_;kernel_rfl) only[Up (AwF ..) (K:=AY E62 f93 4 R K),Up (AwG ..) (K:=AY E62 f93 4 R K)];kernel_rfl⟩,trivial⟩
abbrev E63:=eN [] {A1:=[(2,[0,1,5])],Bv:=[(2,[4])],BR:=[(5,[0,1,5,40])],D2:=[(5,[0,1,5])]}
def Aur(a:Int) b c d e (z_:Int):=sT 42 [(0,.ptr 0 a [] 0),(1,dI b),(5,dI z_)] [.box (.pr (.Am 1) (.pr (.Am 2) (.pr (.Am 3) .u))),.row 57 (.sh []) Ah c,.row 164 .Ai Ab d,.row 2 .Ai ALP e]
def Asj(a b:Int) c d e:=Sum.elim (λ(g:Int)=>xR 42 [(4,dI g)] [.box (.pr (.Am 1) (.pr (.Am 2) (.pr (.Am 3) .u))),.row 57 (.sh []) Ah c,.row 164 .Ai Ab d,.row 2 .Ai ALP e]) (λ(i:Unit)=>xE 0 42 [] [.box (.pr (.Am 1) (.pr (.Am 2) (.pr (.Am 3) .u))),.row 57 (.sh []) Ah c,.row 164 .Ai Ab d,.row 2 .Ai ALP e])
def Auq(a:Int) b j c d e:=sT 42 [(0,.ptr 0 a [] 0),(1,dI b),(5,dI j)] [.box (.pr (.Am 1) (.pr (.Am 2) (.pr (.Am 3) .u))),.row 57 (.sh []) Ah c,.row 164 .Ai Ab d,.row 2 .Ai ALP e]
def Asi(a:Int) b j c d e:=λ(k:Bool)=>xN 42 [(0,.ptr 0 a [] 0),(1,dI b),(5,dI j),(40,dB k)] [.box (.pr (.Am 1) (.pr (.Am 2) (.pr (.Am 3) .u))),.row 57 (.sh []) Ah c,.row 164 .Ai Ab d,.row 2 .Ai ALP e]
def IK(a b j:Int)(c:ALG)(d:ALB)(e:ALx):AL8 Bool:=
 if 0<=j/\j<e.length then
 if 0<=b/\b<e.length then
 bif (e.getD j.toNat ALP.zero)==(e.getD b.toNat ALP.zero)then
 if 0<=j/\j<c.length then
 some (decide ((c.getD j.toNat Ah.zero).1>0))
 else none
 else
 some false
 else none
 else none
theorem AwH a b j c d e:AP E63 4 5 (cd f45 52) 24 (Auq a b j c d e) (IK a b j c d e) (Asi a b j c d e):=by
 unfold AP;simp only[IK,ALh];kernel_rfl
def KH(a b:Int)(c:ALG)(d:ALB)(e:ALx)(j:Int):AL8 (Int⊕(Int⊕Unit)):=
 bif decide (j<(e.length:Int))then
 (IK a b j c d e).bind λk=>bif k then
 some (.inr (.inl j))
 else
 some (.inl (wI (j+1)))
 else
 some (.inr (.inr ()))
def G8 a b c d e (z_:Int):=KH a b c d e z_
def Nk a b c d e j:=fix (G8 a b c d e) j
theorem AwI a b c d e:A0 E63 4 2 (code f45) 26 (Aur a b c d e) (G8 a b c d e) (Asj a b c d e):=by
 intro _;simp only[G8,KH,ALh];simp(disch:=refine id ?_;kernel_rfl) only[A8 (AwH ..) (K:=LP E63 4 2)];kernel_rfl
def Em(a b:Int)(c:ALG)(d:ALB)(e:ALx):AL8 (Int×ALG×ALB×ALx):=
 (Nk a b c d e 0).bind (Sum.elim (λg=>some (g,c,d,e)) (λi=>some (-1,c,d,e)))
def c45:=B6 [.UJ,.d ALP] [⟨[.ptr 0 [] 0,.Ax [] ALP],[.box (.pr (.k (.Am 1)) (.pr (.k (.Am 2)) (.pr (.k (.Am 3)) (.k .u)))),.row 57 (.sh []) Ah,.row 164 .Ai Ab,.row 2 .Ai ALP],Int×ALG×ALB×ALx,λp=>Em p.1.1 p.1.2.1 p.2.2.1 p.2.2.2.1 p.2.2.2.2.1,λr=>(dI r.1,[.box (.pr (.Am 1) (.pr (.Am 2) (.pr (.Am 3) .u))),.row 57 (.sh []) Ah r.2.1,.row 164 .Ai Ab r.2.2.1,.row 2 .Ai ALP r.2.2.2])⟩]
theorem vP:Ap prog 45 c45:=As (fn:=f45) ⟨⟨E63,pk trivial,λ_ R K=>by
 simp only[Em,ALi];simp(disch:=refine id ?_;kernel_rfl) only[Nk,Az (AwI _ _ _ _ _) (K:=AY E63 f45 4 R K)];kernel_rfl⟩,trivial⟩
abbrev E64:=eN [(45,c45),(78,c78),(93,c93),(94,c94),(95,c95),(96,c96)] {BR:=[(9,[0,8,9,10,11,80])],D2:=[(9,[0,8,9,10,11])],UT:=[.mv 0 [1],.AK 2],dM:=[(0,.row [] 2 ALP true)]}
def Aus(a:Int) b c d e g i j:=sT 107 [(0,.ptr 0 a [] 0),(8,dI b),(9,dI c),(10,dI d),(11,dI e)] [.box (.pr (.Am 4) (.pr (.Am 5) (.pr (.Am 6) .u))),.AK,.AK,.AK,.row 57 (.sh []) Ah g,.row 164 .Ai Ab i,.row 2 .Ai ALP j]
def Asl(a:Int) b c d e g i j:=λ(k:Bool)=>xN 107 [(0,.ptr 0 a [] 0),(8,dI b),(9,dI c),(10,dI d),(11,dI e),(80,dB k)] [.box (.pr (.Am 4) (.pr (.Am 5) (.pr (.Am 6) .u))),.AK,.AK,.AK,.row 57 (.sh []) Ah g,.row 164 .Ai Ab i,.row 2 .Ai ALP j]
def Kc(a b c d e:Int)(g:ALG)(i:ALB)(j:ALx):AL8 Bool:=
 bif decide (d>=0)then
 bif decide (e>=0)then
 if 0<=d/\d<g.length then
 if 0<=e/\e<g.length then
 (Hq (g.getD d.toNat Ah.zero) (g.getD e.toNat Ah.zero)).bind λl=>some (!l)
 else none
 else none
 else
 some false
 else
 some false
theorem AwJ a b c d e g i j:AP E64 4 9 (code f44) 1020 (Aus a b c d e g i j) (Kc a b c d e g i j) (Asl a b c d e g i j):=by
 unfold AP;simp only[Kc,ALh];kernel_rfl
def Ks(a:Int)(n:ALu)(o:Int)(q:ALG)(s:ALB)(t:ALx):AL8 (Bool×ALx×ALG×ALB×ALx):=
 (Hs a n.1 q s t).bind λu=>(Hs a n.2.1 u.2.2.1 u.2.1 u.2.2.2).bind λv=>if(0:Int)<=u.1/\u.1<(v.2.2.2.length:Int)then
 if(0:Int)<=v.1/\v.1<(v.2.2.2.length:Int)then
 bif (v.2.2.2.getD u.1.toNat ALP.zero)==(v.2.2.2.getD v.1.toNat ALP.zero)then
 some (true,([]:ALx),v.2.2.1,v.2.1,v.2.2.2)
 else
 (Em a u.1 v.2.2.1 v.2.1 v.2.2.2).bind λw=>(Em a v.1 w.2.1 w.2.2.1 w.2.2.2).bind λx=>if(x.2.2.1.length+([(u.1,v.1,o,())]:ALB).length)*24<=140737488355328 then
 (Kc a u.1 v.1 w.1 x.1 x.2.1 (x.2.2.1++([(u.1,v.1,o,())]:ALB)) x.2.2.2).bind λk=>bif k then
 if Ty.row .bool=true/\(0:Int)<=((x.2.2.1++([(u.1,v.1,o,())]:ALB)).length:Int)/\((x.2.2.1++([(u.1,v.1,o,())]:ALB)).length:Int)<=((x.2.2.1++([(u.1,v.1,o,())]:ALB)).length:Int)/\((1:Nat):Int)*((x.2.2.1++([(u.1,v.1,o,())]:ALB)).length:Int)<=(281474976710656:Int)/\((x.2.2.1++([(u.1,v.1,o,())]:ALB)).length:Int)<=(9223372036854775807:Int)then
 (Y4 (x.2.2.1++([(u.1,v.1,o,())]:ALB)) w.1 x.1 (List.replicate ((x.2.2.1++([(u.1,v.1,o,())]:ALB)).length:Int).toNat false)).bind λy=>(NT y.2.2).bind λa1=>some (false,a1,x.2.1,x.2.2.1++([(u.1,v.1,o,())]:ALB),x.2.2.2)
 else none
 else
 (MW u.1 v.1 x.2.2.2).bind λb1=>some (true,([]:ALx),x.2.1,x.2.2.1++([(u.1,v.1,o,())]:ALB),b1)
 else none
 else none
 else none
def c44:=B6 [.UJ,.d Aq,.d ALP] [⟨[.ptr 0 [] 0,.Ax [] Aq,.Ax [] ALP],[.box (.pr (.k (.Am 1)) (.pr (.k (.Am 2)) (.pr (.k (.Am 3)) (.k .u)))),.row 57 (.sh []) Ah,.row 164 .Ai Ab,.row 2 .Ai ALP],Bool×ALx×ALG×ALB×ALx,λp=>Ks p.1.1 p.1.2.1 p.1.2.2.1 p.2.2.1 p.2.2.2.1 p.2.2.2.2.1,λr=>(.cons (.Am 4) (.cons (dB r.1) .nil),[.box (.pr (.Am 5) (.pr (.Am 6) (.pr (.Am 7) .u))),.AK,.AK,.AK,.row 2 .Ai ALP r.2.1,.row 57 (.sh []) Ah r.2.2.1,.row 164 .Ai Ab r.2.2.2.1,.row 2 .Ai ALP r.2.2.2.2])⟩]
theorem Af7:Ap prog 44 c44:=As (fn:=f44) ⟨⟨E64,pk ⟨vP,Agu,AgB,AgC,AgD,AgE,trivial⟩,λ_ R K=>by
 simp only[Ks,ALi];simp(disch:=refine id ?_;kernel_rfl) only[A8 (AwJ ..) (K:=AY E64 f44 4 R K)];kernel_rfl⟩,trivial⟩
abbrev E65:=eN [] {}
def OE(a:ALq):AL8 (Int×ALx):=
 if a.2.1.length*8<=140737488355328 then
 some (a.1,a.2.1)
 else none
def c46:=B6 [.d Ah] [⟨[.Ax [] Ah],[],Int×ALx,λp=>OE p.1.1,λr=>(.pr (dI r.1) (.pr (.Am 0) .u),[.row 199 .Ai ALQ r.2])⟩]
theorem Af8:Ap prog 46 c46:=As (fn:=f46) ⟨⟨E65,pk trivial,λ_ R K=>by
 simp only[OE,ALi];kernel_rfl⟩,trivial⟩
abbrev o9:=eN [(40,c40),(41,c41),(42,c42),(43,c43),(44,c44),(45,c45),(46,c46)] {A1:=[(8,{Bb:=[0,1,6,8,10,11,12,13],Ck:=[(12,true,.row [1] 164 Ab true)]}),(13,{Bb:=[0,1,6,8,10,11,12,13,14,16],Sj:=[(14,false,.sl Aq)],Ck:=[(12,true,.row [1] 164 Ab true)]}),(20,{Bb:=[6,10,11,12,19],Ck:=[(10,true,.row [1] 102 Ak true)]}),(25,{Bb:=[6,10,11,12,19,20,21],Ck:=[(20,true,.row [0] 2 ALP true)]})],Bv:=[(8,[6,7,10,11,12]),(13,[0,1,6,7,8,10,11,12,13]),(20,[6,10]),(25,[6,10,11,12,19,20])],BR:=[(9,{Bb:=[0,1,6,7,8,10,11,12,13],Ck:=[(12,true,.row [1] 164 Ab true)]}),(21,{Bb:=[6,10,11,12,19],Ck:=[(10,true,.row [1] 102 Ak true)]}),(26,{Bb:=[6,10,11,12,19,20,21],Ck:=[(20,true,.row [0] 2 ALP true)]}),(33,{Bb:=[6,10,11,12,19,20],Ck:=[(20,true,.row [2,1] 199 ALQ true)]})],D2:=[(9,[0,1,6,8,10,11,12,13]),(21,[6,10,11,12,19]),(26,[6,10,11,12,19,20,21]),(33,[6,10,11,12,19,20,22])],Sj:=[(0,AG),(1,.bool)]}
def AmM a (b:Int) c (z_:Int×ALH×ALG×ALB×ALx):=sT 146 [(6,.ptr 0 0 [] 0),(10,.ptr 1 0 [] 0),(11,dI a),(12,.ptr 2 b [] 0),(19,dI z_.1)] [.box (.pr (.pr .zs .u) (.pr .zs (.pr .zs .u))),.box (.pr (dD Aj c) (.pr (.Am 3) (.pr .zs .u))),.box (.pr (.Am 4) (.pr (.Am 5) (.pr (.Am 6) .u))),.row 102 .Ai Ak z_.2.1,.row 57 (.sh []) Ah z_.2.2.1,.row 164 .Ai Ab z_.2.2.2.1,.row 2 .Ai ALP z_.2.2.2.2]
def Ak8(a b:Int) c:=λ(d:ALH)=>xE 4 146 [(6,.ptr 0 0 [] 0),(10,.ptr 1 0 [] 0)] [.box (.pr (.pr .zs .u) (.pr .zs (.pr .zs .u))),.box (.pr (dD Aj c) (.pr (.Am 2) (.pr .zs .u))),.row 102 .Ai Ak d]
def AmL a (b:Int) e c g i j k:=sT 146 [(6,.ptr 0 0 [] 0),(10,.ptr 1 0 [] 0),(11,dI a),(12,.ptr 2 b [] 0),(19,dI e)] [.box (.pr (.pr .zs .u) (.pr .zs (.pr .zs .u))),.box (.pr (dD Aj c) (.pr (.Am 3) (.pr .zs .u))),.box (.pr (.Am 4) (.pr (.Am 5) (.pr (.Am 6) .u))),.row 102 .Ai Ak g,.row 57 (.sh []) Ah i,.row 164 .Ai Ab j,.row 2 .Ai ALP k]
def Ak7 a (b:Int) e c (g:ALH) (i:ALG) (j:ALB) (k:ALx):=λ(l:(ALH×ALG×ALB×ALx))=>xN 146 [(6,.ptr 0 0 [] 0),(10,.ptr 1 0 [] 0),(11,dI a),(12,.ptr 2 b [] 0),(19,dI e)] [.box (.pr (.pr .zs .u) (.pr .zs (.pr .zs .u))),.box (.pr (dD Aj c) (.pr (.Am 3) (.pr .zs .u))),.box (.pr (.Am 4) (.pr (.Am 5) (.pr (.Am 6) .u))),.row 102 .Ai Ak l.1,.row 57 (.sh []) Ah l.2.1,.row 164 .Ai Ab l.2.2.1,.row 2 .Ai ALP l.2.2.2]
def AmK a (b:Int) e c g n o q s t:=sT 146 [(6,.ptr 0 0 [] 0),(10,.ptr 1 0 [] 0),(11,dI a),(12,.ptr 2 b [] 0),(19,dI e),(20,.ptr 3 0 [] 0),(22,dI o)] [.box (.pr (.pr .zs .u) (.pr .zs (.pr .zs .u))),.box (.pr (dD Aj c) (.pr (.Am 4) (.pr .zs .u))),.box (.pr (.Am 5) (.pr (.Am 6) (.pr (.Am 7) .u))),.box (.pr (.Am 8) (.pr (dB false) (.pr (.pr (dI 0) (.pr .zs .u)) .u))),.row 102 .Ai Ak g,.row 57 (.sh []) Ah q,.row 164 .Ai Ab s,.row 2 .Ai ALP t,.row 2 .Ai ALP n]
def Ak6 a (b:Int) e c g n (o:Int) q s t:=λ(u:(Bool×Int×ALx))=>xN 146 [(6,.ptr 0 0 [] 0),(10,.ptr 1 0 [] 0),(11,dI a),(12,.ptr 2 b [] 0),(19,dI e),(20,.ptr 3 0 [] 0)] [.box (.pr (.pr .zs .u) (.pr .zs (.pr .zs .u))),.box (.pr (dD Aj c) (.pr (.Am 4) (.pr .zs .u))),.box (.pr (.Am 5) (.pr (.Am 6) (.pr (.Am 7) .u))),.box (.pr (.Am 8) (.pr (dB u.1) (.pr (.pr (dI u.2.1) (.pr (.Am 9) .u)) .u))),.row 102 .Ai Ak g,.row 57 (.sh []) Ah q,.row 164 .Ai Ab s,.row 2 .Ai ALP t,.row 2 .Ai ALP n,.row 199 .Ai ALQ u.2.2]
def GM(a b e:Int)(c:ALr)(g:ALH)(n:ALx)(o:Int)(q:ALG)(s:ALB)(t:ALx):AL8 (Bool×Int×ALx):=
 bif decide (o>=0)then
 if 0<=o/\o<q.length then
 (OE (q.getD o.toNat Ah.zero)).bind λv=>some (true,v.1,v.2)
 else none
 else
 some (false,0,([]:ALx))
theorem AoE a b e c g n o q s t:AP o9 0 33 (sb (cd f9 4084) 6) 94 (AmK a b e c g n o q s t) (GM a b e c g n o q s t) (Ak6 a b e c g n o q s t):=by
 unfold AP;simp only[GM,ALh];kernel_rfl
def AmJ a (b:Int) e c g i j k (z_:Int×ALx):=sT 146 [(6,.ptr 0 0 [] 0),(10,.ptr 1 0 [] 0),(11,dI a),(12,.ptr 2 b [] 0),(19,dI e),(20,.ptr 3 0 [] 0),(21,dI z_.1)] [.box (.pr (.pr .zs .u) (.pr .zs (.pr .zs .u))),.box (.pr (dD Aj c) (.pr (.Am 4) (.pr .zs .u))),.box (.pr (.Am 5) (.pr (.Am 6) (.pr (.Am 7) .u))),.box (.pr (.Am 8) (.pr (dB false) (.pr (.pr (dI 0) (.pr .zs .u)) .u))),.row 102 .Ai Ak g,.row 57 (.sh []) Ah i,.row 164 .Ai Ab j,.row 2 .Ai ALP k,.row 2 .Ai ALP z_.2]
def Ak5 a (b:Int) e c g i j k:=λ(n:ALx)=>xE 6 146 [(6,.ptr 0 0 [] 0),(10,.ptr 1 0 [] 0),(11,dI a),(12,.ptr 2 b [] 0),(19,dI e),(20,.ptr 3 0 [] 0)] [.box (.pr (.pr .zs .u) (.pr .zs (.pr .zs .u))),.box (.pr (dD Aj c) (.pr (.Am 4) (.pr .zs .u))),.box (.pr (.Am 5) (.pr (.Am 6) (.pr (.Am 7) .u))),.box (.pr (.Am 8) (.pr (dB false) (.pr (.pr (dI 0) (.pr .zs .u)) .u))),.row 102 .Ai Ak g,.row 57 (.sh []) Ah i,.row 164 .Ai Ab j,.row 2 .Ai ALP k,.row 2 .Ai ALP n]
def AmI a (b:Int) e w c g i j k x:=sT 146 [(6,.ptr 0 0 [] 0),(10,.ptr 1 0 [] 0),(11,dI a),(12,.ptr 2 b [] 0),(19,dI e),(20,.ptr 3 0 [] 0),(21,dI w)] [.box (.pr (.pr .zs .u) (.pr .zs (.pr .zs .u))),.box (.pr (dD Aj c) (.pr (.Am 4) (.pr .zs .u))),.box (.pr (.Am 5) (.pr (.Am 6) (.pr (.Am 7) .u))),.box (.pr (.Am 8) (.pr (dB false) (.pr (.pr (dI 0) (.pr .zs .u)) .u))),.row 102 .Ai Ak g,.row 57 (.sh []) Ah i,.row 164 .Ai Ab j,.row 2 .Ai ALP k,.row 2 .Ai ALP x]
def Ak4 a (b:Int) e w c g i j k (x:ALx):=λ(y:ALx)=>xN 146 [(6,.ptr 0 0 [] 0),(10,.ptr 1 0 [] 0),(11,dI a),(12,.ptr 2 b [] 0),(19,dI e),(20,.ptr 3 0 [] 0),(21,dI w)] [.box (.pr (.pr .zs .u) (.pr .zs (.pr .zs .u))),.box (.pr (dD Aj c) (.pr (.Am 4) (.pr .zs .u))),.box (.pr (.Am 5) (.pr (.Am 6) (.pr (.Am 7) .u))),.box (.pr (.Am 8) (.pr (dB false) (.pr (.pr (dI 0) (.pr .zs .u)) .u))),.row 102 .Ai Ak g,.row 57 (.sh []) Ah i,.row 164 .Ai Ab j,.row 2 .Ai ALP k,.row 2 .Ai ALP y]
def JU(a b e w:Int)(c:ALr)(g:ALH)(i:ALG)(j:ALB)(k x:ALx):AL8 ALx:=
 if 0<=w/\w<k.length then
 bif (k.getD w.toNat ALP.zero)==e then
 if(x.length+([w]:ALx).length)*8<=140737488355328 then
 some (x++([w]:ALx))
 else none
 else
 some x
 else none
theorem AoC a b e w c g i j k x:AP o9 0 26 (sb (sb (cd f9 4084) 6) 180) 6 (AmI a b e w c g i j k x) (JU a b e w c g i j k x) (Ak4 a b e w c g i j k x):=by
 unfold AP;simp only[JU,ALh];kernel_rfl
def LR(a b e:Int)(c:ALr)(g:ALH)(i:ALG)(j:ALB)(k:ALx)(w:Int)(x:ALx):AL8 ((Int×ALx)⊕ALx):=
 bif decide (w<a)then
 (JU a b e w c g i j k x).bind λy=>some (.inl (wI (w+1),y))
 else
 some (.inr x)
def HY a b e c g i j k (z_:Int×ALx):=LR a b e c g i j k z_.1 z_.2
def JV a b e c g i j k w x:=fix (HY a b e c g i j k) (w,x)
theorem AoD a b e c g i j k:A0 o9 0 25 (sb (cd f9 4084) 6) 90 (AmJ a b e c g i j k) (HY a b e c g i j k) (Ak5 a b e c g i j k):=by
 intro _;simp only[HY,LR,ALh];simp(disch:=refine id ?_;kernel_rfl) only[A8 (AoC ..) (K:=LP o9 0 25)];kernel_rfl
def JW(a b e:Int)(c:ALr)(g:ALH)(i:ALG)(j:ALB)(k:ALx):AL8 (ALH×ALG×ALB×ALx):=
 if 0<=e/\e<k.length then
 bif decide ((k.getD e.toNat ALP.zero)<e)then
 some (g,i,j,k)
 else
 (JV a b e c g i j k e ([]:ALx)).bind λn=>(Em b e i j k).bind λa1=>(GM a b e c g n a1.1 a1.2.1 a1.2.2.1 a1.2.2.2).bind λu=>if(g.length+([(n,u.1,(u.2.1,u.2.2,()),())]:ALH).length)*64<=140737488355328 then
 some (g++([(n,u.1,(u.2.1,u.2.2,()),())]:ALH),a1.2.1,a1.2.2.1,a1.2.2.2)
 else none
 else none
theorem AoF a b e c g i j k:AP o9 0 21 (cd f9 4084) 6 (AmL a b e c g i j k) (JW a b e c g i j k) (Ak7 a b e c g i j k):=by
 unfold AP;simp only[JW,ALh];simp(disch:=refine id ?_;kernel_rfl) only[JV,Az (AoD _ _ _ _ _ _ _ _) (K:=Ta o9 0 21),A8 (AoE ..) (K:=Ta o9 0 21)];kernel_rfl
def LS(a b:Int)(c:ALr)(e:Int)(g:ALH)(i:ALG)(j:ALB)(k:ALx):AL8 ((Int×ALH×ALG×ALB×ALx)⊕ALH):=
 bif decide (e<a)then
 (JW a b e c g i j k).bind λl=>some (.inl (wI (e+1),l.1,l.2.1,l.2.2.1,l.2.2.2))
 else
 some (.inr g)
def HZ a b c (z_:Int×ALH×ALG×ALB×ALx):=LS a b c z_.1 z_.2.1 z_.2.2.1 z_.2.2.2.1 z_.2.2.2.2
def JX a b c e g i j k:=fix (HZ a b c) (e,g,i,j,k)
theorem AoG a b c:A0 o9 0 20 (code f9) 2042 (AmM a b c) (HZ a b c) (Ak8 a b c):=by
 intro _;simp only[HZ,LS,ALh];simp(disch:=refine id ?_;kernel_rfl) only[A8 (AoF ..) (K:=LP o9 0 20)];kernel_rfl
def Auv b1 c1 d1 (e1:Int) g1 i1 (z_:Int×ALG×ALB×ALx):=sT 146 [(0,dD ALU b1),(1,dD ALY c1),(6,.ptr 0 0 [] 0),(8,.ptr 1 0 [] 0),(10,.ptr 2 0 [] 0),(11,dI d1),(12,.ptr 3 e1 [] 0),(13,dI z_.1)] [.box (.pr (.pr .zs .u) (.pr .zs (.pr .zs .u))),.box (dD Aj g1),.box (.pr (dD Aj i1) (.pr .zs (.pr .zs .u))),.box (.pr (.Am 4) (.pr (.Am 5) (.pr (.Am 6) .u))),.row 57 (.sh []) Ah z_.2.1,.row 164 .Ai Ab z_.2.2.1,.row 2 .Ai ALP z_.2.2.2]
def Aso(b1:ALC)(c1:ALF) d1 (e1:Int) (g1:ALr) i1:=Sum.elim (λ(j1:(ALx×ALG×ALB×ALx))=>xR 146 [(6,.ptr 0 0 [] 0),(7,dB true),(10,.ptr 1 0 [] 0),(11,dI d1),(12,.ptr 2 e1 [] 0)] [.box (.pr (dD Aj i1) (.pr .zs (.pr (.Am 3) .u))),.box (.pr (dD Aj i1) (.pr .zs (.pr (.Am 3) .u))),.box (.pr (.Am 4) (.pr (.Am 5) (.pr (.Am 6) .u))),.row 2 .Ai ALP j1.1,.row 57 (.sh []) Ah j1.2.1,.row 164 .Ai Ab j1.2.2.1,.row 2 .Ai ALP j1.2.2.2]) (λ(k1:(ALG×ALB×ALx))=>xE 0 146 [(6,.ptr 0 0 [] 0),(10,.ptr 1 0 [] 0),(11,dI d1),(12,.ptr 2 e1 [] 0)] [.box (.pr (.pr .zs .u) (.pr .zs (.pr .zs .u))),.box (.pr (dD Aj i1) (.pr .zs (.pr .zs .u))),.box (.pr (.Am 3) (.pr (.Am 4) (.pr (.Am 5) .u))),.row 57 (.sh []) Ah k1.1,.row 164 .Ai Ab k1.2.1,.row 2 .Ai ALP k1.2.2])
def Auu b1 c1 d1 (e1:Int) l1 g1 i1 n1 o1 q1:=sT 146 [(0,dD ALU b1),(1,dD ALY c1),(6,.ptr 0 0 [] 0),(8,.ptr 1 0 [] 0),(10,.ptr 2 0 [] 0),(11,dI d1),(12,.ptr 3 e1 [] 0),(13,dI l1)] [.box (.pr (.pr .zs .u) (.pr .zs (.pr .zs .u))),.box (dD Aj g1),.box (.pr (dD Aj i1) (.pr .zs (.pr .zs .u))),.box (.pr (.Am 4) (.pr (.Am 5) (.pr (.Am 6) .u))),.row 57 (.sh []) Ah n1,.row 164 .Ai Ab o1,.row 2 .Ai ALP q1]
def Asn b1 c1 d1 (e1:Int) l1 g1 i1 (n1:ALG) (o1:ALB) (q1:ALx):=Sum.elim (λ(s1:(ALG×ALB×ALx))=>xN 146 [(0,dD ALU b1),(1,dD ALY c1),(6,.ptr 0 0 [] 0),(8,.ptr 1 0 [] 0),(10,.ptr 2 0 [] 0),(11,dI d1),(12,.ptr 3 e1 [] 0),(13,dI l1)] [.box (.pr (.pr .zs .u) (.pr .zs (.pr .zs .u))),.box (dD Aj g1),.box (.pr (dD Aj i1) (.pr .zs (.pr .zs .u))),.box (.pr (.Am 4) (.pr (.Am 5) (.pr (.Am 6) .u))),.row 57 (.sh []) Ah s1.1,.row 164 .Ai Ab s1.2.1,.row 2 .Ai ALP s1.2.2]) (λ(t1:(ALx×ALG×ALB×ALx))=>xR 146 [(0,dD ALU b1),(1,dD ALY c1),(6,.ptr 0 0 [] 0),(7,dB true),(8,.ptr 1 0 [] 0),(10,.ptr 2 0 [] 0),(11,dI d1),(12,.ptr 3 e1 [] 0),(13,dI l1)] [.box (.pr (dD Aj i1) (.pr .zs (.pr (.Am 4) .u))),.box (dD Aj g1),.box (.pr (dD Aj i1) (.pr .zs (.pr (.Am 4) .u))),.box (.pr (.Am 5) (.pr (.Am 6) (.pr (.Am 7) .u))),.row 2 .Ai ALP t1.1,.row 57 (.sh []) Ah t1.2.1,.row 164 .Ai Ab t1.2.2.1,.row 2 .Ai ALP t1.2.2.2])
def Aut b1 c1 d1 (e1:Int) l1 g1 i1 u1 (z_:Int×ALG×ALB×ALx):=sT 146 [(0,dD ALU b1),(1,dD ALY c1),(6,.ptr 0 0 [] 0),(8,.ptr 1 0 [] 0),(10,.ptr 2 0 [] 0),(11,dI d1),(12,.ptr 3 e1 [] 0),(13,dI l1),(14,dD (.sl Aq) u1),(16,dI z_.1)] [.box (.pr (.pr .zs .u) (.pr .zs (.pr .zs .u))),.box (dD Aj g1),.box (.pr (dD Aj i1) (.pr .zs (.pr .zs .u))),.box (.pr (.Am 4) (.pr (.Am 5) (.pr (.Am 6) .u))),.row 57 (.sh []) Ah z_.2.1,.row 164 .Ai Ab z_.2.2.1,.row 2 .Ai ALP z_.2.2.2]
def Asm b1 c1 d1 (e1:Int) l1 g1 i1 (u1:ALJ):=Sum.elim (λ(v1:(ALx×ALG×ALB×ALx))=>xR 146 [(0,dD ALU b1),(1,dD ALY c1),(6,.ptr 0 0 [] 0),(7,dB true),(8,.ptr 1 0 [] 0),(10,.ptr 2 0 [] 0),(11,dI d1),(12,.ptr 3 e1 [] 0),(13,dI l1)] [.box (.pr (dD Aj i1) (.pr .zs (.pr (.Am 4) .u))),.box (dD Aj g1),.box (.pr (dD Aj i1) (.pr .zs (.pr (.Am 4) .u))),.box (.pr (.Am 5) (.pr (.Am 6) (.pr (.Am 7) .u))),.row 2 .Ai ALP v1.1,.row 57 (.sh []) Ah v1.2.1,.row 164 .Ai Ab v1.2.2.1,.row 2 .Ai ALP v1.2.2.2]) (λ(w1:(ALG×ALB×ALx))=>xE 2 146 [(0,dD ALU b1),(1,dD ALY c1),(6,.ptr 0 0 [] 0),(8,.ptr 1 0 [] 0),(10,.ptr 2 0 [] 0),(11,dI d1),(12,.ptr 3 e1 [] 0),(13,dI l1)] [.box (.pr (.pr .zs .u) (.pr .zs (.pr .zs .u))),.box (dD Aj g1),.box (.pr (dD Aj i1) (.pr .zs (.pr .zs .u))),.box (.pr (.Am 4) (.pr (.Am 5) (.pr (.Am 6) .u))),.row 57 (.sh []) Ah w1.1,.row 164 .Ai Ab w1.2.1,.row 2 .Ai ALP w1.2.2])
def FH(b1:ALC)(c1:ALF)(d1 e1 l1:Int)(g1 i1:ALr)(u1:ALJ)(x1:Int)(y1:ALG)(a2:ALB)(b2:ALx):AL8 ((Int×ALG×ALB×ALx)⊕((ALx×ALG×ALB×ALx)⊕(ALG×ALB×ALx))):=
 bif decide (x1<(u1.length:Int))then
 if 0<=x1/\x1<u1.length then
 if 0<=l1/\l1<c1.length then
 (Ks e1 (u1.getD x1.toNat Aq.zero) (c1.getD l1.toNat Ag.zero).1 y1 a2 b2).bind λc2=>bif !c2.1 then
 some (.inr (.inl (c2.2.1,c2.2.2.1,c2.2.2.2.1,c2.2.2.2.2)))
 else
 some (.inl (wI (x1+1),c2.2.2.1,c2.2.2.2.1,c2.2.2.2.2))
 else none
 else none
 else
 some (.inr (.inr (y1,a2,b2)))
def DL b1 c1 d1 e1 l1 g1 i1 u1 (z_:Int×ALG×ALB×ALx):=FH b1 c1 d1 e1 l1 g1 i1 u1 z_.1 z_.2.1 z_.2.2.1 z_.2.2.2
def EZ b1 c1 d1 e1 l1 g1 i1 u1 x1 y1 a2 b2:=fix (DL b1 c1 d1 e1 l1 g1 i1 u1) (x1,y1,a2,b2)
theorem AwK b1 c1 d1 e1 l1 g1 i1 u1:A0 o9 0 13 (sb (cd f9 2036) 6) 46 (Aut b1 c1 d1 e1 l1 g1 i1 u1) (DL b1 c1 d1 e1 l1 g1 i1 u1) (Asm b1 c1 d1 e1 l1 g1 i1 u1):=by
 intro _;simp only[DL,FH,ALh];kernel_rfl
def Fa(b1:ALC)(c1:ALF)(d1 e1 l1:Int)(g1 i1:ALr)(n1:ALG)(o1:ALB)(q1:ALx):AL8 ((ALG×ALB×ALx)⊕(ALx×ALG×ALB×ALx)):=
 if 0<=l1/\l1<c1.length then
 bif !(c1.getD l1.toNat Ag.zero).2.1 then
 some (.inl (n1,o1,q1))
 else
 if 0<=l1/\l1<c1.length then
 (NR b1 (c1.getD l1.toNat Ag.zero) g1).bind λd2=>(EZ b1 c1 d1 e1 l1 g1 i1 d2.2 0 n1 o1 q1).bind (Sum.elim (λv1=>some (.inr (v1.1,v1.2.1,v1.2.2.1,v1.2.2.2))) (λw1=>some (.inl (w1.1,w1.2.1,w1.2.2))))
 else none
 else none
theorem AwL b1 c1 d1 e1 l1 g1 i1 n1 o1 q1:AP o9 0 9 (cd f9 2036) 6 (Auu b1 c1 d1 e1 l1 g1 i1 n1 o1 q1) (Fa b1 c1 d1 e1 l1 g1 i1 n1 o1 q1) (Asn b1 c1 d1 e1 l1 g1 i1 n1 o1 q1):=by
 unfold AP;simp only[Fa,ALh];simp(disch:=refine id ?_;kernel_rfl) only[EZ,Az (AwK _ _ _ _ _ _ _ _) (K:=Ta o9 0 9)];kernel_rfl
def DN(b1:ALC)(c1:ALF)(d1 e1:Int)(g1 i1:ALr)(l1:Int)(n1:ALG)(o1:ALB)(q1:ALx):AL8 ((Int×ALG×ALB×ALx)⊕((ALx×ALG×ALB×ALx)⊕(ALG×ALB×ALx))):=
 bif decide (l1<(c1.length:Int))then
 (Fa b1 c1 d1 e1 l1 g1 i1 n1 o1 q1).bind (Sum.elim (λs1=>some (.inl (wI (l1+1),s1.1,s1.2.1,s1.2.2))) (λt1=>some (.inr (.inl (t1.1,t1.2.1,t1.2.2.1,t1.2.2.2)))))
 else
 some (.inr (.inr (n1,o1,q1)))
def CR b1 c1 d1 e1 g1 i1 (z_:Int×ALG×ALB×ALx):=DN b1 c1 d1 e1 g1 i1 z_.1 z_.2.1 z_.2.2.1 z_.2.2.2
def Dx b1 c1 d1 e1 g1 i1 l1 n1 o1 q1:=fix (CR b1 c1 d1 e1 g1 i1) (l1,n1,o1,q1)
theorem AwM b1 c1 d1 e1 g1 i1:A0 o9 0 8 (code f9) 1018 (Auv b1 c1 d1 e1 g1 i1) (CR b1 c1 d1 e1 g1 i1) (Aso b1 c1 d1 e1 g1 i1):=by
 intro _;simp only[CR,DN,ALh];simp(disch:=refine id ?_;kernel_rfl) only[A8 (AwL ..) (K:=LP o9 0 8)];kernel_rfl
def BN(b1:ALC)(c1:ALF)(e2:ALr):AL8 (ALj×Bool):=
 (EL b1 c1 e2).bind λg2=>bif !g2.2 then
 some (((([]:ALK),()),([]:ALH),([]:ALx),()),false)
 else
 (Ii b1 g2.1).bind λi2=>(Ue (i2.length:Int)).bind λj2=>(Dx b1 c1 (i2.length:Int) j2.1 g2.1 g2.1 0 j2.2.1 ([]:ALB) j2.2.2).bind (Sum.elim (λj1=>some ((g2.1,([]:ALH),j1.1,()),true)) (λk1=>(JX (i2.length:Int) j2.1 g2.1 0 ([]:ALH) k1.1 k1.2.1 k1.2.2).bind λd=>some ((g2.1,d,([]:ALx),()),true)))
def c9:=B6 [.d ALU,.d ALY,.d Aj] [⟨[.Ax [] ALU,.Ax [] ALY,.Ax [] Aj],[],ALj×Bool,λp=>BN p.1.1 p.1.2.1 p.1.2.2.1,λr=>(.cons (dD AG r.1) (.cons (dB r.2) .nil),[])⟩]
theorem AoW:Ap prog 9 c9:=As (fn:=f9) ⟨⟨o9,pk ⟨vO,l9,Af5,Af6,Af7,vP,Af8,trivial⟩,λ_ R K=>by
 simp only[BN,ALi];simp(disch:=refine id ?_;kernel_rfl) only[Dx,Az (AwM _ _ _ _ _ _) (K:=AY o9 f9 0 R K),JX,Az (AoG _ _ _) (K:=AY o9 f9 0 R K)];kernel_rfl⟩,trivial⟩
abbrev E67:=eN [] {A1:=[(4,[0,3])],Bv:=[(4,[2])],BR:=[(2,[0,21]),(7,[0,3,49])],D2:=[(2,[0]),(7,[0,3])]}
def Auy a (z_:Int):=sT 50 [(0,dD .str a),(3,dI z_)] []
def Asr(a:ByteArray):=Sum.elim (λ(b:Unit)=>xR 50 [(2,dB false)] []) (λ(c:Unit)=>xE 0 50 [] [])
def Aux a d:=sT 50 [(0,dD .str a),(3,dI d)] []
def Asq a d:=λ(e:Bool)=>xN 50 [(0,dD .str a),(3,dI d),(49,dB e)] []
def Ly(a:ByteArray)(d:Int):AL8 Bool:=
 if(0:Int)<=d/\d<(a.size:Int)then
 bif decide ((Cz a d)<97)then
 if(0:Int)<=d/\d<(a.size:Int)then
 bif decide ((Cz a d)<48)then
 some true
 else
 if(0:Int)<=d/\d<(a.size:Int)then
 some (decide ((Cz a d)>57))
 else none
 else none
 else
 if(0:Int)<=d/\d<(a.size:Int)then
 bif decide ((Cz a d)>122)then
 if(0:Int)<=d/\d<(a.size:Int)then
 bif decide ((Cz a d)<48)then
 some true
 else
 if(0:Int)<=d/\d<(a.size:Int)then
 some (decide ((Cz a d)>57))
 else none
 else none
 else
 some false
 else none
 else none
theorem AwO a d:AP E67 0 7 (cd f117 116) 24 (Aux a d) (Ly a d) (Asq a d):=by
 unfold AP;simp only[Ly,ALh];kernel_rfl
def Md(a:ByteArray)(d:Int):AL8 (Int⊕(Unit⊕Unit)):=
 bif decide (d<(a.size:Int))then
 (Ly a d).bind λe=>bif e then
 some (.inr (.inl ()))
 else
 some (.inl (wI (d+1)))
 else
 some (.inr (.inr ()))
def I0 a (z_:Int):=Md a z_
def TE a d:=fix (I0 a) d
theorem AwP a:A0 E67 0 4 (code f117) 58 (Auy a) (I0 a) (Asr a):=by
 intro _;simp only[I0,Md,ALh];simp(disch:=refine id ?_;kernel_rfl) only[A8 (AwO ..) (K:=LP E67 0 4)];kernel_rfl
def Auw a:=sT 50 [(0,dD .str a)] []
def Asp a:=λ(g:Bool)=>xN 50 [(0,dD .str a),(21,dB g)] []
def PR(a:ByteArray):AL8 Bool:=
 bif decide ((a.size:Int)<1)then
 some true
 else
 bif decide ((a.size:Int)>12)then
 some true
 else
 if(0:Int)<=(0:Int)/\(0:Int)<(a.size:Int)then
 bif decide ((Cz a 0)<97)then
 some true
 else
 if(0:Int)<=(0:Int)/\(0:Int)<(a.size:Int)then
 some (decide ((Cz a 0)>122))
 else none
 else none
theorem AwN a:AP E67 0 2 (code f117) 12 (Auw a) (PR a) (Asp a):=by
 unfold AP;simp only[PR,ALh];kernel_rfl
def Pb(a:ByteArray):AL8 Bool:=
 (PR a).bind λg=>bif g then
 some false
 else
 (TE a 0).bind (Sum.elim (λb=>some false) (λc=>some true))
def AxX:=B6 [.d .str] [⟨[.Ax [] .str],[],Bool,λp=>Pb p.1.1,λr=>(dB r,[])⟩]
theorem Abh:Ap prog 117 AxX:=As (fn:=f117) ⟨⟨E67,pk trivial,λ_ R K=>by
 simp only[Pb,ALi];simp(disch:=refine id ?_;kernel_rfl) only[A8 (AwN _) (K:=AY E67 f117 0 R K),TE,Az (AwP _) (K:=AY E67 f117 0 R K)];kernel_rfl⟩,trivial⟩
abbrev E68:=eN [] {}
def AH(a b c:Int):Bool:=((decide (a>=b))&&(decide (a<=c)))
theorem U68 R a b c K:R4 E68 f118 R [dI a,dI b,dI c] [] K=K (dB (AH a b c)) []:=by
 refine .trans (b:=
 bif decide (a>=b)then
 K (dB (decide (a<=c))) []
 else
 K (dB false) []) (by kernel_rfl) ?_
 unfold AH;cases (decide (a>=b));rfl;rfl
def tE:=B6 [.d ALP,.d ALP,.d ALP] [⟨[.Ax [] ALP,.Ax [] ALP,.Ax [] ALP],[],Bool,λp=>some (AH p.1.1 p.1.2.1 p.1.2.2.1),λr=>(dB r,[])⟩]
theorem Vm:Ap prog 118 tE:=As ⟨⟨E68,pk trivial,λ_ _ _=>U68 ..⟩,trivial⟩
abbrev E69:=eN [] {}
def Sp(a:ALm)(b:ByteArray):Bool:=(Jj a.1 b)
def Ayi:=B6 [.d Ad,.p .str] [⟨[.Ax [] Ad,.EJ [] .str],[],Bool,λp=>some (Sp p.1.1 p.1.2.1),λr=>(dB r,[])⟩]
theorem AbC:Ap prog 152 Ayi:=As (fn:=f152) ⟨⟨E69,pk trivial,λ_ _ _=>by kernel_rfl⟩,trivial⟩
abbrev E70:=eN [(152,Ayi)] {A1:=[(2,[0,1,7,8])],Bv:=[(2,[4])]}
def Auz a (b:Int) c d (z_:Int):=sT 19 [(0,dD ALU a),(1,.fn 152 (.cons (.ptr 0 b [] 0) .nil)),(7,dI d),(8,dI z_)] [.box (dD .str c)]
def Ass(a:ALC)(b:Int) c (d:Int):=Sum.elim (λ(e:Int)=>xR 19 [(4,dI e)] [.box (dD .str c)]) (λ(g:Unit)=>xE 0 19 [] [.box (dD .str c)])
def Dv(a:ALC)(b:Int)(c:ByteArray)(d i:Int):AL8 (Int⊕(Int⊕Unit)):=
 bif decide (i<d)then
 if 0<=i/\i<a.length then
 bif Sp (a.getD i.toNat Ad.zero) c then
 some (.inr (.inl i))
 else
 some (.inl (wI (i+1)))
 else none
 else
 some (.inr (.inr ()))
def Cw a b c d (z_:Int):=Dv a b c d z_
def Ih a b c d i:=fix (Cw a b c d) i
theorem AwQ a b c d:A0 E70 1 2 (code f151) 26 (Auz a b c d) (Cw a b c d) (Ass a b c d):=by
 intro _;simp only[Cw,Dv,ALh];kernel_rfl
def G7(a:ALC)(b:Int)(c:ByteArray):AL8 (Int×ByteArray):=
 (Ih a b c (a.length:Int) 0).bind (Sum.elim (λe=>some (e,c)) (λg=>some (-1,c)))
def Ayh:=B6 [.d ALU,.UJ] [⟨[.Ax [] ALU,.fn 152 (.cons (.ptr 0 [] 0) (.k .nil))],[.box (.Ax [] .str)],Int×ByteArray,λp=>G7 p.1.1 p.1.2.1.1 p.2.1,λr=>(dI r.1,[.box (dD .str r.2)])⟩]
theorem AbB:Ap prog 151 Ayh:=As (fn:=f151) ⟨⟨E70,pk ⟨AbC,trivial⟩,λ_ R K=>by
 simp only[G7,ALi];simp(disch:=refine id ?_;kernel_rfl) only[Ih,Az (AwQ _ _ _ _) (K:=AY E70 f151 1 R K)];kernel_rfl⟩,trivial⟩
abbrev E71:=eN [(151,Ayh)] {}
def Kx(a:ALC)(b:ByteArray):AL8 Int:=
 (G7 a 0 b).bind λc=>some c.1
def AxY:=B6 [.d ALU,.d .str] [⟨[.Ax [] ALU,.Ax [] .str],[],Int,λp=>Kx p.1.1 p.1.2.1,λr=>(dI r,[])⟩]
theorem Abi:Ap prog 119 AxY:=As (fn:=f119) ⟨⟨E71,pk ⟨AbB,trivial⟩,λ_ R K=>by
 simp only[Kx,ALi];kernel_rfl⟩,trivial⟩
end
end Go.Proofs.X
