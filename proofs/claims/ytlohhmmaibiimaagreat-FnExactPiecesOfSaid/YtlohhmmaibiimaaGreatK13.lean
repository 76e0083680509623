import Derived.Test.YtlohhmmaibiimaaGreatK12
set_option linter.unusedVariables false
set_option linter.unusedSimpArgs false
namespace Go.Va
open Go.Proofs.X
def wt:(t:Ty)->t.V->Nat
 | .str,s=>s.size
 | .pair a b,x=>wt a x.1+wt b x.2
 | .sl t,xs=>xs.length+(xs.map (wt t)).sum
 | .int _,_=>0
 | .bool,_=>0
 | .unit,_=>0
 | .opq _,_=>0
def UE(t:Ty)(F:t.V->Int->Option Int)(x:t.V):Prop:=∀left:Int,0<=left->left<=1048576->F x left=some (if(wt t x:Int)<=left then left-(wt t x:Int) else -1)
theorem mX {t:Ty} {F:t.V->Int->Option Int} {z:t.V} {G:List t.V->Int->Option Int} {r:List t.V->Int×Int->Option ((Int×Int)⊕(Int⊕Int))}
    (hG:∀a left,G a left=bif decide ((wI (left-(a.length:Int)))<0) then some (-1) else(fix (r a) (wI (left-(a.length:Int)),0)).bind (Sum.elim (λ_=>some (-1)) λy=>some y))
    (hr:∀a x,r a x=bif decide (x.2<(a.length:Int)) then(if(0:Int)<=x.2/\x.2<(a.length:Int) then
     (F (a.getD x.2.toNat z) x.1).bind λq=>bif decide (q<0) then some (.inr (.inl q)) else some (.inl (q,wI (x.2+1))) else none) else some (.inr (.inr x.1)))
    {a:List t.V} (hn:a.length<=maxLen) (hF:∀x∈a,UE t F x):UE (.sl t) G a:=by
 intro left h0 h1;have hm:maxLen=140737488355327\/True:=.inr trivial;have hw:wI (left-(a.length:Int))=left-(a.length:Int):=by unfold maxLen at hn;exact wrap64 (by omega) (by omega)
 rw[hG,hw];have hwt:wt (.sl t) a=a.length+(a.map (wt t)).sum:=rfl;rw[hwt];by_cases hneg:left-(a.length:Int)<0
 ·rw[show decide (left-(a.length:Int)<0)=true by simpa using hneg,Axc,if_neg (by omega)]
 ·rw[show decide (left-(a.length:Int)<0)=false by simpa using hneg,Axb];have key:Aq (fix (r a) (left-(a.length:Int),0)) λy=>(∃q,y=.inl q/\left<((a.length+(a.map (wt t)).sum:Nat):Int))\/y=.inr (left-((a.length+(a.map (wt t)).sum:Nat):Int))/\((a.length+(a.map (wt t)).sum:Nat):Int)<=left:=by
   refine FW (λm (x:Int×Int)=>∃k:Nat,x.2=(k:Int)/\k<=a.length/\m=a.length-k/\x.1=left-(a.length:Int)-(((a.take k).map (wt t)).sum:Nat)/\0<=x.1) (λm x hI=>?_) a.length _ ⟨0,rfl,Nat.zero_le _,rfl,by simp,by show 0<=left-(a.length:Int);omega⟩;obtain⟨l,i⟩:=x;obtain⟨k,hk1,hk,rfl,hl,hl0⟩:=hI;simp only at hk1 hl hl0;subst hk1;rw[hr];simp only;rcases Aw7 k a.length with h | h
   ·rw[EE h,Axc,if_pos (rng h)];have ha:a.getD k z=a[k]:=by simp[List.getD,h]
    have hsum:((a.take (k+1)).map (wt t)).sum=((a.take k).map (wt t)).sum+wt t a[k]:=by
     rw[List.take_succ_eq_append_getElem h,List.map_append,List.sum_append];simp
    have htot:((a.take (k+1)).map (wt t)).sum<=(a.map (wt t)).sum:=by
     conv=>rhs;rw[<-List.take_append_drop (k+1) a,List.map_append,List.sum_append]
     omega
    rw[show(k:Int).toNat=k from AwX k,ha,hF _ (List.getElem_mem h) l hl0 (by omega),AwW];split
    ·rename_i hle;rw[show decide (l-(wt t a[k]:Int)<0)=false by simpa using hle,Axb];exact Aq.mk ⟨a.length-(k+1),by omega,k+1,ZC h hn,h,rfl,by rw[hsum,hl];push_cast;omega,by show 0<=l-_;omega⟩
    ·rename_i hgt;refine Aq.mk (.inl ⟨_,rfl,?_⟩)
     push_cast
     rw[hsum] at htot;omega
   ·have hk':k=a.length:=by omega
    subst hk';rw[Ff,Axb];rw[Aw6 (Aw2 _)] at hl;exact Aq.mk (.inr ⟨by rw[hl];push_cast;rw[Int.sub_sub],by push_cast;omega⟩)
  obtain⟨y,hy,hq⟩:=key;rw[hy];rcases hq with ⟨q,rfl,hlt⟩| ⟨rfl,hle⟩
  ·rw[if_neg (by omega)];rfl
  ·rw[if_pos hle];rfl
end Go.Va
namespace Go.Proofs.X
open Go Go.Va
theorem qb{A:Type}{xs:List A}{left:Int}(h0:0<=left)(h1:left<=1048576)(hn:xs.length<=maxLen):(bif decide ((wI (left-(xs.length:Int)))<0) then(-1) else wI (left-(xs.length:Int)))=if(xs.length:Int)<=left then left-(xs.length:Int) else -1:=by
 unfold maxLen at hn;rw[wrap64 (by omega) (by omega)];split
 ·rw[show decide (left-(xs.length:Int)<0)=false by simp;omega];rfl
 ·rw[show decide (left-(xs.length:Int)<0)=true by simp;omega];rfl
theorem jC{A:Type}{f:A->Nat}(h:∀x,f x=0)(xs:List A):(xs.map f).sum=0:=by
 induction xs with
 | nil=>rfl
 | cons x xs ih=>simp[h,ih]
theorem nD(a:Axs):wt (.sl (.int .u64)) a=a.length:=congrArg (a.length+·) (jC (λ_=>rfl) a)
theorem nC(a:Axs):wt (.sl (.int .i64)) a=a.length:=congrArg (a.length+·) (jC (λ_=>rfl) a)
theorem bY{a:Axs}(hn:a.length<=maxLen):UE (.sl (.int .u64)) (λx l=>some (Bo x l)) a:=λleft h0 h1=>by
 show some (Bo a left)=_;rw[Bo,qb h0 h1 hn,nD]
theorem VZ{a:Axs}(hn:a.length<=maxLen):UE (.sl (.int .i64)) (λx l=>some (A9 x l)) a:=λleft h0 h1=>by
 show some (A9 a left)=_;rw[A9,qb h0 h1 hn,nC]
end Go.Proofs.X
namespace Go.Va
open Go.Proofs.X
section
variable {A B:Type} {Q:A->Prop} {x y:Option A}
theorem NZ{a:A}:Aq (some a) Q↔Q a:=⟨λ⟨_,h,q⟩=>by cases h;exact q,λh=>⟨a,rfl,h⟩⟩
end
theorem Bd {X S T:Type} {f:X->Option (X⊕T)} (st:Nat->S->X) (n:Nat) (I:Nat->S->Prop) {Q:T->Prop}
    (h:∀k s,k<n->I k s->Aq (f (st k s)) λr=>match r with | .inl x=>∃s',x=st (k+1) s'/\I (k+1) s' | .inr t=>Q t)
    (he:∀s,I n s->Aq (f (st n s)) λr=>match r with | .inl _=>False | .inr t=>Q t) {s0:S} (h0:I 0 s0):Aq (fix f (st 0 s0)) Q:=by
 refine FW (λm x=>∃k s,x=st k s/\k<=n/\m=n-k/\I k s) (λm x hI=>?_) n (st 0 s0) ⟨0,s0,rfl,Nat.zero_le _,rfl,h0⟩;obtain⟨k,s,rfl,hk,rfl,hI⟩:=hI;rcases Aw7 k n with hlt | hge
 ·refine(h k s hlt hI).mono λr hr=>?_;cases r with
  | inl x =>
   obtain⟨s',rfl,hI'⟩:=hr;exact⟨n-(k+1),by omega,k+1,s',rfl,hlt,rfl,hI'⟩
  | inr t=>exact hr
 ·have:k=n:=by omega
  subst this;refine(he s hI).mono λr hr=>?_;cases r with
  | inl x=>exact hr.elim
  | inr t=>exact hr
def Mq(x:Int):Prop:=0<=x/\x<18446744073709551616
def tb(x:Int)(j:Nat):Bool:=x.toNat.testBit j
theorem Mq.toNat{x:Int}(h:Mq x):x.toNat<2^64:=by unfold Mq at h;omega
theorem Mq.of{n:Nat}(h:n<2^64):Mq (n:Int):=by unfold Mq;omega
theorem SA{x:Int}(h:Mq x){j:Nat}(hj:64<=j):tb x j=false :=
 Nat.testBit_lt_two_pow (Nat.lt_of_lt_of_le h.toNat (Nat.pow_le_pow_right (by decide) hj))
theorem Mq.ext{x y:Int}(hx:Mq x)(hy:Mq y)(h:∀j,j<64->tb x j=tb y j):x=y:=by
 have:x.toNat=y.toNat:=Nat.eq_of_testBit_eq λj=>by
  rcases Aw7 j 64 with hj | hj
  ·exact h j hj
  ·exact(SA hx hj).trans (SA hy hj).symm
 unfold Mq at hx hy;omega
theorem XW{n:Nat}(h:n<2^64):IntKind.u64.wrap (n:Int)=(n:Int):=dJ (by omega) (by omega)
theorem PQ{x:Int}(h:Mq x):(BitVec.ofInt 64 x).toNat=x.toNat:=by
 unfold Mq at h;rw[BitVec.toNat_ofInt];simp;omega
theorem AaA{a b:Int}(ha:Mq a)(hb:Mq b):V4 .u64 a b=((a.toNat ||| b.toNat:Nat):Int):=by
 show IntKind.u64.wrap (((BitVec.ofInt 64 a ||| BitVec.ofInt 64 b).toNat:Nat):Int)=_;rw[XW (BitVec.isLt _),BitVec.toNat_or,PQ ha,PQ hb]
theorem nR{a b:Int}(ha:Mq a)(hb:Mq b):XZ .u64 a b=((a.toNat &&& b.toNat:Nat):Int):=by
 show IntKind.u64.wrap (((BitVec.ofInt 64 a &&& BitVec.ofInt 64 b).toNat:Nat):Int)=_;rw[XW (BitVec.isLt _),BitVec.toNat_and,PQ ha,PQ hb]
theorem dA{a b:Int}(ha:Mq a)(hb:Mq b):Mq (V4 .u64 a b):=by
 rw[AaA ha hb];exact .of (Nat.or_lt_two_pow ha.toNat hb.toNat)
theorem qm{a b:Int}(ha:Mq a)(hb:Mq b):Mq (XZ .u64 a b):=by
 rw[nR ha hb];exact .of (Nat.and_lt_two_pow _ hb.toNat)
theorem qd{a b:Int}(ha:Mq a)(hb:Mq b)(j:Nat):tb (V4 .u64 a b) j=(tb a j||tb b j):=by
 rw[AaA ha hb,tb,AwX,Nat.testBit_or];rfl
theorem Abn{a b:Int}(ha:Mq a)(hb:Mq b)(j:Nat):tb (XZ .u64 a b) j=(tb a j&&tb b j):=by
 rw[nR ha hb,tb,AwX,Nat.testBit_and];rfl
theorem pX{a:Int}(ha:Mq a){s:Int}{n:Nat}(hs:s=(n:Int))(hn:n<=64):Oa .u64 a s=((a.toNat/2^n:Nat):Int):=by
 subst hs;unfold Mq at ha;obtain⟨m,rfl⟩:∃m:Nat,a=(m:Int):=⟨a.toNat,by omega⟩;have h:Oa .u64 (m:Int) (n:Int)=Int.fdiv (m:Int) (2^min ((n:Int).toNat) 64):=rfl;rw[h,AwX,AwX,Nat.min_eq_left hn,Int.fdiv_eq_ediv_of_nonneg _ (by exact Int.le_of_lt (Int.pow_pos (by decide)))]
 norm_cast
theorem Wk{a:Int}(ha:Mq a){s:Int}{n:Nat}(hs:s=(n:Int))(hn:n<=64):Mq (Oa .u64 a s):=by
 rw[pX ha hs hn];exact .of (Nat.lt_of_le_of_lt (Nat.div_le_self _ _) ha.toNat)
theorem Vs{a:Int}(ha:Mq a){s:Int}{n:Nat}(hs:s=(n:Int))(hn:n<=64)(j:Nat):tb (Oa .u64 a s) j=tb a (j+n):=by
 rw[pX ha hs hn,tb,AwX,Nat.testBit_div_two_pow,tb,Nat.add_comm]
theorem bG{a:Int}(ha:Mq a){s:Int}{n:Nat}(hs:s=(n:Int))(hn:n<=64):Lf .u64 a s=((a.toNat*2^n%18446744073709551616:Nat):Int):=by
 subst hs;unfold Mq at ha;obtain⟨m,rfl⟩:∃m:Nat,a=(m:Int):=⟨a.toNat,by omega⟩;have h:Lf .u64 (m:Int) (n:Int)=IntKind.u64.wrap ((m:Int)*2^min ((n:Int).toNat) 64):=rfl;have hw:∀x:Int,IntKind.u64.wrap x=x%18446744073709551616:=λx=>by simp[IntKind.wrap,IntKind.bits,IntKind.signed]
 rw[h,AwX,AwX,Nat.min_eq_left hn,hw,Int.natCast_emod,Int.natCast_mul,Int.natCast_pow];rfl
theorem dF{a:Int}(ha:Mq a){s:Int}{n:Nat}(hs:s=(n:Int))(hn:n<=64):Mq (Lf .u64 a s):=by
 rw[bG ha hs hn];exact .of (Nat.mod_lt _ (by omega))
theorem mZ{a:Int}(ha:Mq a){s:Int}{n:Nat}(hs:s=(n:Int))(hn:n<=64)(j:Nat):tb (Lf .u64 a s) j=(decide (j<64)&&(decide (n<=j)&&tb a (j-n))):=by
 rw[bG ha hs hn,tb,AwX,show(18446744073709551616:Nat)=2^64 from by decide,Nat.testBit_mod_two_pow,Nat.testBit_mul_two_pow,tb]
theorem QX(j:Nat):tb 0 j=false:=by simp[tb]
theorem RY:Mq 0:=by unfold Mq;omega
theorem Uz:Mq 1:=by unfold Mq;omega
theorem pG{s:Int}{n:Nat}(hs:s=(n:Int))(hn:n<64):IntKind.u64.wrap (Lf .u64 1 s-1)=((2^n-1:Nat):Int):=by
 have h1:0<2^n:=Nat.two_pow_pos n;have h2:2^n<2^64:=Nat.pow_lt_pow_right (by decide) hn;rw[bG Uz hs (by omega)];rw[show(1:Int).toNat*2^n%18446744073709551616=2^n by rw[show(1:Int).toNat=1 from rfl,Nat.one_mul];exact Nat.mod_eq_of_lt h2];rw[show((2^n:Nat):Int)-1=((2^n-1:Nat):Int) by omega];exact XW (by omega)
theorem Abu{s:Int}{n:Nat}(hs:s=(n:Int))(hn:n<64):Mq (IntKind.u64.wrap (Lf .u64 1 s-1)):=by
 have h2:2^n<2^64:=Nat.pow_lt_pow_right (by decide) hn;rw[pG hs hn];exact .of (by omega)
theorem AdP{s:Int}{n:Nat}(hs:s=(n:Int))(hn:n<64)(j:Nat):tb (IntKind.u64.wrap (Lf .u64 1 s-1)) j=decide (j<n):=by
 rw[pG hs hn,tb,AwX,Nat.testBit_two_pow_sub_one]
theorem cB(j:Nat):tb 1 j=decide (j=0):=by
 show Nat.testBit 1 j=_;cases j with
 | zero=>rfl
 | succ j=>simp[Nat.testBit_succ]
theorem rz{a:Int}(ha:Mq a):XZ .u64 a 1=if tb a 0 then 1 else 0:=by
 refine Mq.ext (qm ha Uz) (by split<;>first | exact Uz | exact RY) λj _=>?_
 rw[Abn ha Uz,cB];by_cases h:j=0
 ·subst h;cases h:tb a 0<;>simp[cB,QX]
 ·cases h':tb a 0<;>simp[cB,QX,h]
def Words(ws:Axs):Prop:=∀x∈ws,Mq x
def bt(ws:Axs)(i:Nat):Bool:=tb (ws.getD (i/64) 0) (i%64)
theorem Words.getD{ws:Axs}(h:Words ws)(k:Nat):Mq (ws.getD k 0):=by
 rcases Aw7 k ws.length with hk | hk
 ·rw[show ws.getD k 0=ws[k] by simp[List.getD,hk]];exact h _ (List.getElem_mem hk)
 ·rw[show ws.getD k 0=0 by simp[List.getD,hk]];exact RY
theorem Words.set{ws:Axs}(h:Words ws){k:Nat}{x:Int}(hx:Mq x):Words (ws.set k x):=λy hy=>by
 rcases List.mem_or_eq_of_mem_set hy with h' | rfl
 ·exact h y h'
 ·exact hx
theorem Words.rep{n:Nat}:Words (List.replicate n 0):=λx hx=>by rw[(List.mem_replicate.1 hx).2];exact RY
theorem wP(n i:Nat):bt (List.replicate n 0) i=false:=by
 unfold bt;rw[show(List.replicate n (0:Int)).getD (i/64) 0=0 by simp[List.getD,List.getElem?_replicate];split<;>rfl];exact QX _
theorem R8{ws:Axs}{i:Nat}(h:64*ws.length<=i):bt ws i=false:=by
 unfold bt;rw[show ws.getD (i/64) 0=0 by simp[List.getD,show ws.length<=i/64 by omega]];exact QX _
theorem S9{ws:Axs}{k:Nat}{x:Int}(hk:k<ws.length)(i:Nat):bt (ws.set k x) i=if i/64=k then tb x (i%64) else bt ws i:=by
 unfold bt;by_cases h:i/64=k
 ·rw[if_pos h,h,show(ws.set k x).getD k 0=x by simp[List.getD,hk]]
 ·rw[if_neg h,show(ws.set k x).getD (i/64) 0=ws.getD (i/64) 0 by simp[List.getD,List.getElem?_set,show ¬k=i/64 from λe=>h e.symm]]
theorem OL{a b:Axs}(ha:Words a)(hb:Words b)(hl:a.length=b.length)(h:∀i,i<64*a.length->bt a i=bt b i):a=b:=by
 refine List.ext_getElem hl λk h1 h2=>Mq.ext (ha _ (List.getElem_mem h1)) (hb _ (List.getElem_mem h2)) λj hj=>?_;have:=h (64*k+j) (by omega);unfold bt at this;rw[show(64*k+j)/64=k by omega,show(64*k+j)%64=j by omega] at this;simpa [List.getD,h1,h2] using this
def pk(f:Nat->Bool):Nat->Nat
 | 0=>0
 | n+1=>(if f n then 2^n else 0)+pk f n
theorem AaD(f:Nat->Bool):∀n,pk f n<2^n
 | 0=>by simp[pk]
 | n+1=>by
  have:=AaD f n;have h2:2^(n+1)=2^n+2^n:=by rw[Nat.pow_succ];omega
  unfold pk;split<;>omega
theorem l5(f:Nat->Bool):∀n j,(pk f n).testBit j=(decide (j<n)&&f j)
 | 0,j=>by simp[pk]
 | n+1,j=>by
  have hl:=AaD f n;unfold pk;cases hf:f n with
  | false =>
   simp only[Bool.false_eq_true,if_false,Nat.zero_add,l5 f n j];by_cases h:j=n
   ·subst h;simp[hf]
   ·rw[show decide (j<n+1)=decide (j<n) by simp;omega]
  | true =>
   simp only[if_true];rcases Nat.lt_trichotomy j n with h | h | h
   ·rw[Nat.testBit_two_pow_add_gt h,l5 f n j];simp[h];omega
   ·subst h;rw[Nat.testBit_two_pow_add_eq,Nat.testBit_lt_two_pow hl];simp[hf]
   ·rw[Nat.testBit_lt_two_pow (Nat.lt_of_lt_of_le (show 2^n+pk f n<2^(n+1) by rw[Nat.pow_succ];omega) (Nat.pow_le_pow_right (by decide) h))];simp;omega
def XX(f:Nat->Bool)(m:Nat):Axs:=(List.range m).map λk=>(pk (λj=>f (64*k+j)) 64:Int)
theorem Gf(f:Nat->Bool)(m:Nat):(XX f m).length=m:=by simp[XX]
theorem FR(f:Nat->Bool)(m:Nat):Words (XX f m):=λx hx=>by
 obtain⟨k,_,rfl⟩:=List.mem_map.1 hx;exact .of (AaD _ _)
theorem Xn(f:Nat->Bool)(m i:Nat):bt (XX f m) i=(decide (i<64*m)&&f i):=by
 rcases Aw7 i (64*m) with h | h
 ·unfold bt XX;rw[show((List.range m).map λk=>(pk (λj=>f (64*k+j)) 64:Int)).getD (i/64) 0=(pk (λj=>f (64*(i/64)+j)) 64:Int) by
   simp[List.getD,show i/64<m by omega],tb,AwX,l5,show 64*(i/64)+i%64=i by omega]
  simp[h];omega
 ·rw[R8 (by rw[Gf];exact h)];simp;omega
theorem Aby{ws:Axs}(h:Words ws){f:Nat->Bool}(hf:∀i,i<64*ws.length->bt ws i=f i):ws=XX f ws.length :=
 OL h (FR _ _) (Gf _ _).symm λi hi=>by rw[hf i hi,Xn];simp[hi]
theorem rX{f g:Nat->Bool}{m:Nat}(h:∀i,i<64*m->f i=g i):XX f m=XX g m :=
 OL (FR _ _) (FR _ _) (by rw[Gf,Gf]) λi hi=>by rw[Gf] at hi;rw[Xn,Xn,h i hi]
def low(f:Nat->Bool)(n:Nat):Nat->Bool:=λi=>decide (i<n)&&f i
def nw(n:Nat):Nat:=(n+63)/64
end Go.Va
namespace Go.Proofs.X
open Go Go.Va
set_option maxRecDepth 100000
theorem XO{i:Nat}(h:i<4611686018427387904):wI (Int.tdiv (i:Int) 64)=((i/64:Nat):Int):=by
 rw[Int.tdiv_eq_ediv_of_nonneg (by omega),wrap64 (by omega) (by omega)];omega
theorem RV(i:Nat):Int.tmod (i:Int) 64=((i%64:Nat):Int):=by
 rw[Int.tmod_eq_emod_of_nonneg (by omega)];omega
theorem SD{n:Nat}(h:n<=1048576):wI (Int.tdiv (wI ((n:Int)+63)) 64)=((nw n:Nat):Int):=by
 rw[wrap64 (x:=(n:Int)+63) (by omega) (by omega),show(n:Int)+63=((n+63:Nat):Int) by omega,XO (by omega)];rfl
def uo(n:Nat)(f:Nat->Bool):Axq:=((n:Int),XX (low f n) (nw n),())
def bI(b:Bool):Int:=if b then 1 else 0
def Ys(n:Nat)(ws:Axs):Prop:=1<=n/\n<=4096/\ws.length=nw n/\Words ws/\∀i,n<=i->bt ws i=false
theorem Ys.eq{n:Nat}{ws:Axs}(h:Ys n ws):ws=XX (low (bt ws) n) (nw n):=by
 obtain⟨_,_,hl,hw,hz⟩:=h
 conv=>lhs;rw[Aby hw (f:=low (bt ws) n) λi hi=>by
  unfold low;by_cases h:i<n
  ·simp[h]
  ·rw[hz i (by omega)];simp]
 rw[hl]
theorem wO{n:Nat}{f:Nat->Bool}{i:Nat}(hi:i<n):bt (XX (low f n) (nw n)) i=f i:=by
 rw[Xn];unfold nw low;simp[hi];omega
theorem HD{n:Nat}{f:Nat->Bool}{i:Nat}:bt (XX (low f n) (nw n)) i=(decide (i<n)&&f i):=by
 by_cases h:i<n
 ·rw[wO h];simp[h]
 ·rw[Xn];unfold low;simp[h]
theorem rW{n:Nat}{f g:Nat->Bool}(h:∀i,i<n->f i=g i):uo n f=uo n g:=by
 unfold uo;rw[rX λi _=>show low f n i=low g n i by
  unfold low;by_cases hi:i<n
  ·simp[hi,h i hi]
  ·simp[hi]]
theorem Xi{w:Int}{ws:Axs}(hw:Words ws){i:Nat}(hi:i<64*ws.length)(hn:ws.length<=1048576):Fv (w,ws,()) (i:Int)=some (bI (bt ws i)):=by
 unfold Fv;rw[XO (by omega),RV,dJ (by omega) (by omega)];rw[if_pos ⟨by omega,by show((i/64:Nat):Int)<(ws.length:Int);omega⟩,if_neg (by omega),AwX];show some (IntKind.u8.wrap (XZ .u64 (Oa .u64 (ws.getD (i/64) 0) ((i%64:Nat):Int)) 1))=_;rw[show IntKind.u8.wrap (XZ .u64 (Oa .u64 (ws.getD (i/64) 0) ((i%64:Nat):Int)) 1)=bI (bt ws i) by
  rw[rz (Wk (hw.getD _) rfl (by omega)),Vs (hw.getD _) rfl (by omega),Nat.zero_add];show IntKind.u8.wrap (bI (bt ws i))=_;cases bt ws i<;>rfl]
theorem Abz{ws:Axs}(h:∀x∈ws,(IntKind.u64).min<=x/\x<=(IntKind.u64).max):Words ws:=λx hx=>by
 have:=h x hx;unfold Mq;simp only[IntKind.min,IntKind.max,IntKind.bits,IntKind.signed] at this;simp at this;omega
theorem Yk{w:Int}{ws:Axs}(hw:Words ws)(hn:ws.length<=1048576):Aq (JK (w,ws,())) λr=>r=true↔∃n:Nat,w=(n:Int)/\Ys n ws:=by
 unfold JK N8;refine Aq.cond (λh=>Aq.mk ?_) λh=>?_
 ·simp only[Bool.false_eq_true,false_iff,not_exists,not_and]
  rintro n rfl ⟨h1,h2,h3,_⟩
  unfold nw at h3;simp only[A8,SD (show n<=1048576 by omega),Bool.or_eq_true,Bool.not_eq_true',Bool.and_eq_false_iff,decide_eq_false_iff_not,bne_iff_ne] at h;unfold nw at h;omega
 ·have hb:1<=w/\w<=4096:=by
    simp only[A8,Bool.or_eq_false_iff,Bool.not_eq_false',Aw3,decide_eq_true_eq] at h;omega
  obtain⟨n,rfl⟩:∃n:Nat,w=(n:Int):=⟨w.toNat,by omega⟩;have hl:ws.length=nw n:=by
   simp only[Bool.or_eq_false_iff,bne_eq_false_iff_eq] at h;have h:=h.2;rw[SD (by omega)] at h;omega
  have key:Aq (Pm ((n:Int),ws,()) (n:Int)) λt=>(t=.inl ()/\¬∀i,n<=i->bt ws i=false)\/(t=.inr ()/\∀i,n<=i->bt ws i=false):=by
   have hle:n<=64*ws.length:=by rw[hl];unfold nw;omega
   have hwr:wI (64*(ws.length:Int))=((64*ws.length:Nat):Int):=by
    rw[wrap64 (by omega) (by omega)];omega
   refine Bd (λk (_:Unit)=>((n+k:Nat):Int)) (64*ws.length-n) (λk _=>∀i,n<=i->i<n+k->bt ws i=false) (λk _ hk hI=>?_) (λ_ hI=>?_) (s0:=()) (λi h1 h2=>by omega)
   ·unfold Hg Kl;rw[show wI (64*((((n:Int),ws,()):Axq).2.1.length:Int))=((64*ws.length:Nat):Int) from hwr,EE (by omega),Axc,Xi hw (by omega) hn,AwW];cases hb:bt ws (n+k) with
    | true=>exact Aq.mk (.inl ⟨rfl,λh=>by rw[h _ (by omega)] at hb;cases hb⟩)
    | false =>
     refine Aq.mk ⟨(),?_,λi h1 h2=>?_⟩
     ·rw[wrap64 (by omega) (by omega)];omega
     ·rcases Aw7 i (n+k) with h | h
      ·exact hI i h1 h
      ·rw[show i=n+k by omega];exact hb
   ·unfold Hg Kl;rw[show wI (64*((((n:Int),ws,()):Axq).2.1.length:Int))=((64*ws.length:Nat):Int) from hwr,show n+(64*ws.length-n)=64*ws.length by omega,Ff,Axb];refine Aq.mk (.inr ⟨rfl,λi h=>?_⟩);rcases Aw7 i (64*ws.length) with h' | h'
    ·exact hI i h (by omega)
    ·exact R8 h'
  refine Aq.bind key λt ht=>?_;rcases ht with ⟨rfl,h'⟩| ⟨rfl,h'⟩
  ·refine Aq.mk ?_;simp only[Bool.false_eq_true,false_iff,not_exists,not_and];intro m hm hp;obtain rfl:m=n:=by omega
   exact h' hp.2.2.2.2
  ·exact Aq.mk ⟨λ_=>⟨n,rfl,by omega,by omega,hl,hw,h'⟩,λ_=>rfl⟩
theorem X5{w:Int}{ws:Axs}(hw:Words ws)(hn:ws.length<=1048576):Aq (Js (w,ws,())) λr=>r=true↔∃n:Nat,w=(n:Int)/\Ys n ws:=by
 unfold Js N8;refine Aq.cond (λh=>Aq.mk ?_) λh=>?_
 ·simp only[Bool.false_eq_true,false_iff,not_exists,not_and]
  rintro n rfl ⟨h1,h2,h3,_⟩
  unfold nw at h3;simp only[Ay,Bi,SD (show n<=1048576 by omega),Bool.or_eq_true,Bool.not_eq_true',Bool.and_eq_false_iff,decide_eq_false_iff_not,bne_iff_ne] at h;unfold nw at h;omega
 ·have hb:1<=w/\w<=4096:=by
    simp only[Ay,Bool.or_eq_false_iff,Bool.not_eq_false',Aw3,decide_eq_true_eq] at h;omega
  obtain⟨n,rfl⟩:∃n:Nat,w=(n:Int):=⟨w.toNat,by omega⟩;have hl:ws.length=nw n:=by
   simp only[Bool.or_eq_false_iff,bne_eq_false_iff_eq] at h;have h:=h.2;rw[Bi,SD (by omega)] at h;omega
  have e1:((n:Int),ws,()).1=(n:Int):=rfl;have iff:(∃m:Nat,(n:Int)=(m:Int)/\Ys m ws)↔∀i,n<=i->bt ws i=false:=by
   constructor
   ·rintro⟨m,hm,hp⟩
    obtain rfl:n=m:=by omega
    exact hp.2.2.2.2
   ·exact λh=>⟨n,rfl,by omega,by omega,hl,hw,h⟩
  rw[iff];refine Aq.cond (λh=>Aq.mk ?_) λh=>?_
  ·have h:Int.tmod (n:Int) 64=0:=by simpa using h
   rw[RV] at h;refine⟨λ_ i hi=>R8 (by rw[hl];unfold nw;omega),λ_=>rfl⟩
  ·have h:Int.tmod (n:Int) 64≠0:=by simpa using h
   rw[RV] at h;have hpos:0<ws.length:=by rw[hl];unfold nw;omega
   have hlast:wI ((ws.length:Int)-1)=((ws.length-1:Nat):Int):=by rw[wrap64 (by omega) (by omega)];omega
   have e2:wI (((((n:Int),ws,()):Axq).2.1.length:Int)-1)=((ws.length-1:Nat):Int):=hlast;rw[e2,if_pos ⟨by omega,by show((ws.length-1:Nat):Int)<(ws.length:Int);omega⟩];rw[show Int.tmod (((n:Int),ws,()):Axq).1 64=((n%64:Nat):Int) from RV n,if_neg (by omega),AwX];refine Aq.mk ?_;rw[beq_iff_eq];have hw':=hw.getD (ws.length-1);have h0:Oa .u64 (ws.getD (ws.length-1) 0) ((n%64:Nat):Int)=0↔∀j,j<64->tb (ws.getD (ws.length-1) 0) (j+n%64)=false :=
    ⟨λe j _=>by rw[<-Vs hw' rfl (by omega),e,QX],λe=>Mq.ext (Wk hw' rfl (by omega)) RY λj hj=>by rw[Vs hw' rfl (by omega),QX];exact e j hj⟩
   refine h0.trans ⟨λe i hi=>?_,λe j hj=>?_⟩
   ·rcases Aw7 i (64*ws.length) with h' | h'
    ·unfold bt;rw[show i/64=ws.length-1 by rw[hl] at h' ⊢;unfold nw at *;omega];have:=e (i%64-n%64) (by omega);rwa [show i%64-n%64+n%64=i%64 by rw[hl] at h';unfold nw at *;omega] at this
    ·exact R8 h'
   ·rcases Aw7 (j+n%64) 64 with h' | h'
    ·have:=e (64*(ws.length-1)+(j+n%64)) (by rw[hl];unfold nw;omega);unfold bt at this;rwa [show(64*(ws.length-1)+(j+n%64))/64=ws.length-1 by omega,show(64*(ws.length-1)+(j+n%64))%64=j+n%64 by omega] at this
    ·exact SA hw' h'
end Go.Proofs.X
namespace Go.Proofs.X
open Go Go.Va
set_option maxRecDepth 100000
theorem qx(k:IntKind):(Ty.zero (.int k):Int)=0:=rfl
theorem Aei{a k:Nat}(h:a+64*k<1073741824):wI ((a:Int)+wI (64*(k:Int)))=((a+64*k:Nat):Int):=by
 rw[wrap64 (x:=64*(k:Int)) (by omega) (by omega),wrap64 (by omega) (by omega)];omega
theorem wrapN{x:Int}{n:Nat}(h:x=(n:Int))(hn:n<4611686018427387904):wI x=(n:Int):=by rw[wrap64 (by omega) (by omega),h]
theorem RZ{n:Nat}(h:n<=1048576):Dh (n:Int)=some ((n:Int),List.replicate (nw n) 0):=by
 have hn:nw n<=1048576:=by unfold nw;omega
 unfold Dh Bi;rw[SD h,if_pos ⟨rfl,by omega,by omega,by omega,by omega⟩,AwX]
theorem Ace{ws:Axs}{k j:Nat}(hj:j<64):bt ws (64*k+j)=tb (ws.getD k 0) j:=by
 unfold bt;rw[show(64*k+j)/64=k by omega,show(64*k+j)%64=j by omega]
theorem AhC {a k:Nat} {d b:Int} {low row:Axs} (hw:Words low) (hr:Words row) (hk:k<low.length) (hb:a+64*k<1073741824) (hin:(a+64*k)/64<row.length) :
    Aq (G2 (a:Int) low d (k:Int) row b) λr=>Words r/\r.length=row.length/\∀i,i<64*row.length->bt r i=(bt row i||(decide (a+64*k<=i)&&(decide (i<a+64*k+64)&&bt low (i-a)))):=by
 unfold G2 N8;obtain⟨q,hq⟩:∃q,q=(a+64*k)/64:=⟨_,rfl⟩;obtain⟨m,hm⟩:∃m,m=(a+64*k)%64:=⟨_,rfl⟩;have e1:wI (Int.tdiv (((a+64*k:Nat):Int)) 64)=(q:Int):=by rw[XO (by omega),hq]
 have e2:Int.tmod (((a+64*k:Nat):Int)) 64=(m:Int):=by rw[RV,hm]
 have e3:wI ((q:Int)+1)=((q+1:Nat):Int):=wrapN (by omega) (by omega);have e4:wI (64-(m:Int))=((64-m:Nat):Int):=wrapN (by omega) (by omega);have hlk:Mq (low.getD k 0):=hw.getD k;have hlow:∀i,a+64*k<=i->i<a+64*k+64->bt low (i-a)=tb (low.getD k 0) (i-a-64*k):=λi h1 h2=>by
  rw[<-Ace (ws:=low) (k:=k) (by omega)];congr 1;omega
 simp only[Aei hb,e1,e2,e3,e4,Aw5,AwX,qx];rw[if_pos (rng hk),if_pos ⟨by omega,by omega⟩,if_neg (by omega),if_pos ⟨by omega,by omega⟩];have hsh:Mq (Lf .u64 (low.getD k 0) (m:Int)):=dF hlk rfl (by omega);have hor:Mq (V4 .u64 (row.getD q 0) (Lf .u64 (low.getD k 0) (m:Int))):=dA (hr.getD q) hsh;have hqr:q<row.length:=by omega
 have hrow:∀i,bt (row.set q (V4 .u64 (row.getD q 0) (Lf .u64 (low.getD k 0) (m:Int)))) i=(bt row i||(decide (i/64=q)&&(decide (a+64*k<=i)&&bt low (i-a)))):=λi=>by
  rw[S9 hqr];by_cases h:i/64=q
  ·rw[if_pos h,qd (hr.getD q) hsh,mZ hlk rfl (by omega)];have:bt row i=tb (row.getD q 0) (i%64):=by unfold bt;rw[h]
   rw[this];by_cases h2:a+64*k<=i
   ·rw[hlow i h2 (by omega),show i-a-64*k=i%64-m by omega];simp[h,h2,show i%64<64 by omega,show m<=i%64 by omega]
   ·simp[h,h2,show ¬m<=i%64 by omega]
  ·rw[if_neg h];simp[h]
 have hset:Words (row.set q (V4 .u64 (row.getD q 0) (Lf .u64 (low.getD k 0) (m:Int)))):=hr.set hor;refine Aq.cond (λh=>?_) λh=>?_
 ·simp only[Aw3,bne_iff_ne,decide_eq_true_eq] at h;have hm0:m≠0:=by omega
  have hq1:q+1<row.length:=by omega
  rw[if_pos ⟨by omega,by omega⟩,if_neg (by omega),if_pos ⟨by omega,by omega⟩];have hsr:Mq (Oa .u64 (low.getD k 0) ((64-m:Nat):Int)):=Wk hlk rfl (by omega);refine Aq.mk ⟨hset.set (dA (hset.getD _) hsr),by rw[Aw5,Aw5],λi hi=>?_⟩;show bt (List.set _ (q+1) (V4 .u64 (List.getD _ (q+1) 0) (Oa .u64 (low.getD k 0) ((64-m:Nat):Int)))) i=_;rw[S9 (by rw[Aw5];exact hq1)];by_cases h1:i/64=q+1
  ·rw[if_pos h1,qd (hset.getD _) hsr,Vs hlk rfl (by omega)];have:tb ((row.set q (V4 .u64 (row.getD q 0) (Lf .u64 (low.getD k 0) (m:Int)))).getD (q+1) 0) (i%64)=bt (row.set q (V4 .u64 (row.getD q 0) (Lf .u64 (low.getD k 0) (m:Int)))) i:=by unfold bt;rw[h1]
   rw[this,hrow];rw[show decide (i/64=q)=false by simp;omega,show decide (a+64*k<=i)=true by simp;omega];by_cases h2:i<a+64*k+64
   ·rw[hlow i (by omega) h2,show i-a-64*k=i%64+(64-m) by omega];simp[h2]
   ·rw[SA hlk (by omega)];simp[h2]
  ·rw[if_neg h1,hrow];by_cases h2:i/64=q
   ·simp only[h2,decide_true,Bool.true_and];by_cases h3:a+64*k<=i
    ·simp[h3,show i<a+64*k+64 by omega]
    ·simp[h3]
   ·rw [show(decide (a+64*k<=i)&&(decide (i<a+64*k+64)&&bt low (i-a)))=false by
      by_cases h3:a+64*k<=i
      ·simp[show ¬i<a+64*k+64 by omega]
      ·simp[h3]]
    simp[h2]
 ·refine Aq.mk ⟨hset,Aw5,λi hi=>?_⟩;have h':m=0\/row.length<=q+1:=by
   rcases Nat.eq_zero_or_pos m with h0 | h0
   ·exact .inl h0
   ·refine .inr ?_;simp only[Bool.and_eq_false_iff,bne_eq_false_iff_eq,decide_eq_false_iff_not] at h;omega
  show bt (row.set q (V4 .u64 (row.getD q 0) (Lf .u64 (low.getD k 0) (m:Int)))) i=_;rw[hrow];by_cases h2:i/64=q
  ·simp only[h2,decide_true,Bool.true_and];by_cases h3:a+64*k<=i
   ·simp[h3,show i<a+64*k+64 by omega]
   ·simp[h3]
  ·rw [show(decide (a+64*k<=i)&&(decide (i<a+64*k+64)&&bt low (i-a)))=false by
     by_cases h3:a+64*k<=i
     ·simp[show ¬i<a+64*k+64 by omega]
     ·simp[h3]]
   simp[h2]
theorem AaH {w b:Int} {a:Nat} {low row:Axs} (hw:Words low) (hr:Words row) (hl:low.length<=1048576) (ha:a<=1048576) (hin:∀k,k<low.length->(a+64*k)/64<row.length) :
    Aq (Gt b (a:Int) (w,low,()) row) λr=>Words r/\r.length=row.length/\∀i,i<64*row.length->bt r i=(bt row i||(decide (a<=i)&&bt low (i-a))):=by
 unfold Gt Nq;refine Aq.bind (Bd (λk (s:Axs)=>((k:Int),s)) low.length (λk s=>Words s/\s.length=row.length/\∀i,i<64*row.length->bt s i=(bt row i||(decide (a<=i)&&(decide (i<a+64*k)&&bt low (i-a))))) (Q:=λr=>Words r/\r.length=row.length/\∀i,i<64*row.length->bt r i=(bt row i||(decide (a<=i)&&bt low (i-a)))) (λk s hk hI=>?_) (λs hI=>?_) (s0:=row) ⟨hr,rfl,λi _=>by
     by_cases h:a<=i
     ·simp[show ¬i<a by omega]
     ·simp[h]⟩) λr h=>Aq.mk h
 ·unfold Fh HF;simp only;rw[EE hk,Axc];refine Aq.bind (AhC hw hI.1 hk (by omega) (by rw[hI.2.1];exact hin k hk)) λr h=>Aq.mk ⟨r,?_,h.1,h.2.1.trans hI.2.1,λi hi=>?_⟩
  ·rw[show wI ((k:Int)+1)=((k+1:Nat):Int) from wrapN (by omega) (by omega)]
  ·rw[h.2.2 i (by rw[hI.2.1];exact hi),hI.2.2 i hi,Bool.or_assoc];congr 1;by_cases h1:a<=i
   ·by_cases h2:i<a+64*k
    ·simp[h1,h2,show ¬a+64*k<=i by omega,show i<a+64*(k+1) by omega]
    ·by_cases h3:i<a+64*k+64
     ·simp[h1,h2,h3,show a+64*k<=i by omega,show i<a+64*(k+1) by omega]
     ·simp[h2,h3,show ¬i<a+64*(k+1) by omega]
   ·simp[h1,show ¬a+64*k<=i by omega]
 ·unfold Fh HF;simp only;rw[Ff,Axb];refine Aq.mk ⟨hI.1,hI.2.1,λi hi=>?_⟩;rw[hI.2.2 i hi];by_cases h1:a<=i
  ·by_cases h2:i<a+64*low.length
   ·simp[h2]
   ·rw[R8 (by omega:64*low.length<=i-a)];simp
  ·simp[h1]
theorem Ady{n m:Nat}{f g:Nat->Bool}(hn:n+m<=8192):Dm (uo n f) (uo m g)=some (((n+m:Nat):Int),XX (low (λi=>if i<m then g i else f (i-m)) (n+m)) (nw (n+m))):=by
 unfold Dm uo;refine Aq.eq_ ?_;rw[show wI (((n:Int),XX (low f n) (nw n),()).1+((m:Int),XX (low g m) (nw m),()).1)=((n+m:Nat):Int) from wrapN (by show(n:Int)+(m:Int)=_;omega) (by omega),RZ (by omega),AwW];refine Aq.bind (AaH (a:=0) (FR _ _) Words.rep (by rw[Gf];unfold nw;omega) (by omega) λk hk=>by rw[Gf] at hk;rw[List.length_replicate];unfold nw at *;omega) λr1 h1=>?_;rw[List.length_replicate] at h1;refine Aq.bind (AaH (a:=m) (FR _ _) h1.1 (by rw[Gf];unfold nw;omega) (by omega) λk hk=>by rw[Gf] at hk;rw[h1.2.1];unfold nw at *;omega) λr2 h2=>Aq.mk ?_;refine congrArg _ (OL h2.1 (FR _ _) (by rw[h2.2.1,h1.2.1,Gf]) λi hi=>?_);have hi':i<64*nw (n+m):=by rw[h2.2.1,h1.2.1] at hi;exact hi
 rw[h2.2.2 i (by rw[h1.2.1];exact hi'),h1.2.2 i hi',wP,HD,HD,HD];by_cases h3:i<m
 ·simp[h3,show ¬m<=i by omega,show i<n+m by omega]
 ·by_cases h4:i<n+m
  ·simp[h3,h4,show m<=i by omega,show i-m<n by omega]
  ·simp[h3,h4,show ¬i-m<n by omega]
end Go.Proofs.X
namespace Go.Proofs.X
open Go Go.Va
set_option maxRecDepth 100000
theorem Ahb {a k:Nat} {w w1 w2 j:Int} {ws row:Axs} (hw:Words ws) (hr:Words row) (hk:k<row.length) (hb:a+64*k<1073741824) (hin:(a+64*k)/64<ws.length) :
    Aq (G1 (a:Int) w1 w2 (k:Int) (w,ws,()) j row) λr=>Words r/\r.length=row.length/\∀i,bt r i=if i/64=k then bt ws (a+i) else bt row i:=by
 unfold G1 N8;obtain⟨q,hq⟩:∃q,q=(a+64*k)/64:=⟨_,rfl⟩;obtain⟨m,hm⟩:∃m,m=(a+64*k)%64:=⟨_,rfl⟩;have e1:wI (Int.tdiv (((a+64*k:Nat):Int)) 64)=(q:Int):=by rw[XO (by omega),hq]
 have e2:Int.tmod (((a+64*k:Nat):Int)) 64=(m:Int):=by rw[RV,hm]
 have e3:wI ((q:Int)+1)=((q+1:Nat):Int):=wrapN (by omega) (by omega);have e4:wI (64-(m:Int))=((64-m:Nat):Int):=wrapN (by omega) (by omega);simp only[Aei hb,e1,e2,e3,e4,Aw5,AwX,qx];rw[if_pos ⟨by omega,by omega⟩,if_neg (by omega),if_pos (rng hk)];have hsr:Mq (Oa .u64 (ws.getD q 0) (m:Int)):=Wk (hw.getD q) rfl (by omega);have hset:Words (row.set k (Oa .u64 (ws.getD q 0) (m:Int))):=hr.set hsr;have hself:(row.set k (Oa .u64 (ws.getD q 0) (m:Int))).getD k 0=Oa .u64 (ws.getD q 0) (m:Int):=by simp[List.getD,hk]
 refine Aq.cond (λh=>?_) λh=>?_
 ·simp only[Aw3,bne_iff_ne,decide_eq_true_eq] at h;rw[if_pos (rng hk),if_pos ⟨by omega,by omega⟩,if_neg (by omega),if_pos (rng hk),hself];have hsl:Mq (Lf .u64 (ws.getD (q+1) 0) ((64-m:Nat):Int)):=dF (hw.getD _) rfl (by omega);refine Aq.mk ⟨hset.set (dA hsr hsl),by rw[Aw5,Aw5],λi=>?_⟩;rw[S9 (by rw[Aw5];exact hk)];by_cases h1:i/64=k
  ·rw[if_pos h1,if_pos h1,qd hsr hsl,Vs (hw.getD _) rfl (by omega),mZ (hw.getD _) rfl (by omega)];by_cases h2:i%64+m<64
   ·rw[show decide (64-m<=i%64)=false by simp;omega];unfold bt;rw[show(a+i)/64=q by omega,show(a+i)%64=i%64+m by omega];simp
   ·rw[SA (hw.getD _) (by omega)];unfold bt;rw[show(a+i)/64=q+1 by omega,show(a+i)%64=i%64-(64-m) by omega];simp[show i%64<64 by omega,show 64<=i%64+m by omega]
  ·rw[if_neg h1,if_neg h1,S9 hk,if_neg h1]
 ·have h':m=0\/ws.length<=q+1:=by
    rcases Nat.eq_zero_or_pos m with h0 | h0
    ·exact .inl h0
    ·refine .inr ?_;simp only[Bool.and_eq_false_iff,bne_eq_false_iff_eq,decide_eq_false_iff_not] at h;omega
  refine Aq.mk ⟨hset,Aw5,λi=>?_⟩;rw[S9 hk];by_cases h1:i/64=k
  ·rw[if_pos h1,if_pos h1,Vs (hw.getD _) rfl (by omega)];by_cases h2:i%64+m<64
   ·unfold bt;rw[show(a+i)/64=q by omega,show(a+i)%64=i%64+m by omega]
   ·rw[SA (hw.getD _) (by omega),R8 (by omega)]
  ·rw[if_neg h1,if_neg h1]
theorem Ahc{n a w:Nat}{f:Nat->Bool}(hn:n<=1048576)(h1:1<=w)(h:a+w<=n):Cr (uo n f) (a:Int) (w:Int)=some ((w:Int),XX (low (λi=>f (a+i)) w) (nw w)):=by
 unfold Cr uo;refine Aq.eq_ ?_;rw[RZ (by omega),AwW];show Aq ((J2 (a:Int) (w:Int) ((n:Int),XX (low f n) (nw n),()) (((List.replicate (nw w) (0:Int)).length:Nat):Int) (w:Int) 0 (List.replicate (nw w) 0)).bind _) _;rw[List.length_replicate];have hwl:1<=nw w:=by unfold nw;omega
 refine Aq.bind (P:=λr=>Words r/\r.length=nw w/\∀i,i<64*nw w->bt r i=bt (XX (low f n) (nw n)) (a+i)) ?_ λr hr=>?_
 ·unfold J2;refine Bd (λk (s:Axs)=>((k:Int),s)) (nw w) (λk s=>Words s/\s.length=nw w/\∀i,i<64*k->bt s i=bt (XX (low f n) (nw n)) (a+i)) (λk s hk hI=>?_) (λs hI=>?_) (s0:=List.replicate (nw w) 0) ⟨Words.rep,List.length_replicate,λi hi=>by omega⟩
  ·unfold Fg HE;simp only;rw[EE hk,Axc];refine Aq.bind (Ahb (FR _ _) hI.1 (by rw[hI.2.1];exact hk) (by unfold nw at hk;omega) (by rw[Gf];unfold nw at *;omega)) λr h=>Aq.mk ⟨r,?_,h.1,h.2.1.trans hI.2.1,λi hi=>?_⟩
   ·rw[show wI ((k:Int)+1)=((k+1:Nat):Int) from wrapN (by omega) (by unfold nw at hk;omega)]
   ·rw[h.2.2 i];by_cases h3:i/64=k
    ·rw[if_pos h3]
    ·rw[if_neg h3,hI.2.2 i (by omega)]
  ·unfold Fg HE;simp only;rw[Ff,Axb];exact Aq.mk hI
 ·unfold J3;obtain⟨m,hm⟩:∃m,m=w%64:=⟨_,rfl⟩;have e2:Int.tmod (w:Int) 64=(m:Int):=by rw[RV,hm]
  have e3:wI ((r.length:Int)-1)=((nw w-1:Nat):Int):=by rw[hr.2.1];exact wrapN (by omega) (by unfold nw;omega)
  simp only[e2,e3,AwX,qx];refine Aq.bind (P:=λx=>x=XX (low (λi=>f (a+i)) w) (nw w)) (Aq.cond (λh=>?_) λh=>?_) λx hx=>Aq.mk (by rw[hx])
  ·simp only[bne_iff_ne] at h;rw[if_pos ⟨by omega,by rw[hr.2.1];omega⟩,if_neg (by omega),if_pos ⟨by omega,by rw[hr.2.1];omega⟩];have hmk:Mq (IntKind.u64.wrap (Lf .u64 1 (m:Int)-1)):=Abu rfl (by omega);refine Aq.mk (OL (hr.1.set (qm (hr.1.getD _) hmk)) (FR _ _) (by rw[Aw5,hr.2.1,Gf]) λi hi=>?_);rw[Aw5,hr.2.1] at hi;rw[S9 (by rw[hr.2.1];omega),HD];by_cases h3:i/64=nw w-1
   ·rw[if_pos h3,Abn (hr.1.getD _) hmk,AdP rfl (by omega)];have:tb (r.getD (nw w-1) 0) (i%64)=bt r i:=by unfold bt;rw[h3]
    rw[this,hr.2.2 i hi,HD];unfold nw at h3;by_cases h4:i<w
    ·simp[h4,show a+i<n by omega,show i%64<m by omega]
    ·simp[h4,show ¬i%64<m by omega]
   ·rw[if_neg h3,hr.2.2 i hi,HD];unfold nw at h3 hi;simp[show i<w by omega,show a+i<n by omega]
  ·have h0:m=0:=by
     have:(m:Int)=0:=by simpa using h
     omega
   refine Aq.mk (OL hr.1 (FR _ _) (by rw[hr.2.1,Gf]) λi hi=>?_);rw[hr.2.1] at hi;rw[hr.2.2 i hi,HD,HD];unfold nw at hi;simp[show i<w by omega,show a+i<n by omega]
theorem Y6{l:Axt}(h1:1<=l.length)(h2:l.length<=4096):JM (l.map bI)=some ((l.length:Int),true,XX (low (λi=>l.getD i false) l.length) (nw l.length)):=by
 unfold JM N8;refine Aq.eq_ ?_;rw[Aw8];have hn:nw l.length<=1048576:=by unfold nw;omega
 rw[show(decide ((l.length:Int)<1)||decide ((l.length:Int)>4096))=false by simp;omega,Axb,SD (by omega),if_pos ⟨rfl,by omega,by omega,by omega,by omega⟩,AwX];unfold Pp;refine Aq.bind (Bd (λk (s:Axs)=>((k:Int),s)) l.length (λk s=>Words s/\s.length=nw l.length/\∀i,bt s i=(decide (i<k)&&l.getD i false)) (Q:=λr=>r=XX (low (λi=>l.getD i false) l.length) (nw l.length)) (λk s hk hI=>?_) (λs hI=>?_) (s0:=List.replicate (nw l.length) 0) ⟨Words.rep,List.length_replicate,λi=>by rw[wP];simp⟩) λr hr=>Aq.mk (by rw[hr])
 ·unfold Hm Ku;have hq:k/64<s.length:=by rw[hI.2.1];unfold nw;omega
  have hbit:Mq (bI (l.getD k false)):=by unfold bI;split<;>first | exact Uz | exact RY
  have hu64:IntKind.u64.wrap (bI (l.getD k false))=bI (l.getD k false):=by cases l.getD k false<;>rfl
  have hget:(l.map bI).getD k 0=bI (l.getD k false):=by simp[List.getD,hk]
  simp only[Aw8,XO (show k<4611686018427387904 by omega),RV,AwX,qx,hget,hu64,dJ (show(0:Int)<=((k%64:Nat):Int) by omega) (by omega)];rw[EE hk,Axc,if_pos ⟨by omega,by omega⟩,if_pos (rng hk),if_neg (by omega),if_pos ⟨by omega,by omega⟩];have hsl:Mq (Lf .u64 (bI (l.getD k false)) ((k%64:Nat):Int)):=dF hbit rfl (by omega);refine Aq.mk ⟨_,by rw[show wI ((k:Int)+1)=((k+1:Nat):Int) from wrapN (by omega) (by omega)],hI.1.set (dA (hI.1.getD _) hsl),by rw[Aw5];exact hI.2.1,λi=>?_⟩;rw[S9 hq];have tbb:∀b j,tb (bI b) j=(decide (j=0)&&b):=λb j=>by cases b<;>simp[bI,cB,QX]
  by_cases h3:i/64=k/64
  ·rw[if_pos h3,qd (hI.1.getD _) hsl,mZ hbit rfl (by omega),tbb];have:tb (s.getD (k/64) 0) (i%64)=bt s i:=by unfold bt;rw[h3]
   rw[this,hI.2.2 i];rcases Nat.lt_trichotomy i k with h | h | h
   ·simp[h,show i<k+1 by omega,show ¬k%64<=i%64 by omega]
   ·subst h;simp[show i%64<64 by omega]
   ·simp[show ¬i<k by omega,show ¬i<k+1 by omega];omega
  ·rw[if_neg h3,hI.2.2 i];by_cases h:i<k
   ·simp[h,show i<k+1 by omega]
   ·simp[h,show ¬i<k+1 by omega]
 ·unfold Hm Ku;rw[Aw8,Ff,Axb];refine Aq.mk (OL hI.1 (FR _ _) (by rw[Gf];exact hI.2.1) λi hi=>?_);rw[hI.2.2 i,HD]
theorem TR{w:Int}{ws:Axs}(h:ws.length<=1048576):Dp (w,ws,())=some (w,ws):=by
 unfold Dp;rw[if_pos (by show ws.length*8<=_;omega)]
end Go.Proofs.X
namespace Go.Proofs.X
open Go Go.Va
set_option maxRecDepth 100000
def Small(f:Axx):Prop:=f.length<=1048576/\∀s∈f,s.2.2.2.1.2.1.length<=1048576
theorem Az{A:Type}{l:List A}{z:A}{k:Nat}(h:k<l.length):l.getD k z∈l:=by
 rw[show l.getD k z=l[k] by simp[List.getD,h]];exact List.getElem_mem h
theorem AG{A:Type}{l:List A}{z:A}{k:Nat}(h:k<l.length):l.take (k+1)=l.take k++[l.getD k z]:=by
 rw[List.take_succ_eq_append_getElem h,show l.getD k z=l[k] by simp[List.getD,h]]
theorem AY{k n:Nat}(hk:k<n)(hn:n<=1048576):wI ((k:Int)+1)=((k+1:Nat):Int):=wrapN (by omega) (by omega)
def Bn{A:Type}(g:Nat->A)(z:A)(n k:Nat):List A:=(List.range n).map λi=>if i<k then g i else z
theorem Jq{A:Type}(g:Nat->A)(z:A)(n:Nat):Bn g z n 0=List.replicate n z:=by
 refine List.ext_getElem (by simp[Bn]) λi h1 h2=>by simp[Bn]
theorem L8{A:Type}(g:Nat->A)(z:A){n k:Nat}:(Bn g z n k).set k (g k)=Bn g z n (k+1):=by
 refine List.ext_getElem (by simp[Bn]) λi h1 h2=>?_;simp only[Bn,List.getElem_set,List.getElem_map,List.getElem_range];by_cases h:k=i
 ·subst h;simp
 ·rw[if_neg h];by_cases h3:i<k
  ·rw[if_pos h3,if_pos (by omega)]
  ·rw[if_neg h3,if_neg (by omega)]
theorem EI{A:Type}(g:Nat->A)(z:A)(n k:Nat):(Bn g z n k).length=n:=by simp[Bn]
theorem W2{A:Type}(l:List A)(y z:A):Bn (λi=>l.getD i y) z l.length l.length=l:=by
 refine List.ext_getElem (by simp[Bn]) λi h1 h2=>by simp[Bn,List.getD,h2]
theorem ZW{f:Axx}(h:Small f):G3 f=some f:=by
 unfold G3 Mw;have h1:=h.1;rw[if_pos ⟨rfl,by omega,by omega,by omega,by omega⟩,AwX];rw[show fix (BU f (f.length:Int)) (0,List.replicate f.length (0,0,0,(0,([]:Axs),()),()))=some f from by
  have:=AJ (f:=BU f (f.length:Int)) (λk=>((k:Int),Bn (λi=>f.getD i Ad.zero) (0,0,0,(0,([]:Axs),()),()) f.length k)) (t:=f) f.length (λk hk=>by
   unfold BU GJ;simp only[EE hk,Axc,if_pos (rng hk),AwX,EI];rw[TR (h.2 _ (Az hk)),AwW,AY hk h1,<-L8]) (by
   unfold BU GJ;simp only[Ff,Axb,W2])
  rw[Jq] at this;exact this]
 rfl
theorem Qx:(1048576:Nat)<=maxLen:=by decide
end Go.Proofs.X
namespace Go.Va
open Go.Proofs.X
inductive Bt
 | co (b:Bool)
 | va (v a:Nat)
inductive Sg
 | co (b:Axt)
 | va (v l n:Nat)
def Sg.bits:Sg->List Bt
 | .co b=>b.map .co
 | .va v l n=>(List.range n).map λk=>.va v (l+k)
def Sg.w:Sg->Nat
 | .co b=>b.length
 | .va _ _ n=>n
def Bt.sg:Bt->Sg
 | .co b=>.co [b]
 | .va v a=>.va v a 1
def Sg.join:Sg->Sg->Option Sg
 | .co a,.co b=>some (.co (a++b))
 | .va v l n,.va v' l' n'=>if v=v'/\l+n=l' then some (.va v l (n+n')) else none
 | _,_=>none
def Sg.meets(a b:Sg):Bool:=(a.join b).isSome
def FJ(f:List Sg)(s:Sg):List Sg :=
 match f.getLast? with
 | none=>[s]
 | some l=>match l.join s with
  | some j=>f.dropLast++[j]
  | none=>f++[s]
def raises(f ss:List Sg):List Sg:=ss.foldl FJ f
def Rn(f:List Sg)(bs:List Bt):List Sg:=bs.foldl (λf b=>FJ f b.sg) f
def norm(bs:List Bt):List Sg:=Rn [] bs
def Ca(f:List Sg):List Bt:=f.flatMap Sg.bits
def AO(f:List Sg):Nat:=(f.map Sg.w).sum
theorem Ny(s:Sg):FJ [] s=[s]:=rfl
theorem Dw(g:List Sg)(l s:Sg):FJ (g++[l]) s=match l.join s with | some j=>g++[j]| none=>g++[l,s]:=by
 unfold FJ;rw[List.getLast?_append];simp only[List.getLast?_singleton,Option.some_or,List.dropLast_concat];cases l.join s<;>simp
theorem Il(s:Sg):s.bits.length=s.w:=by cases s<;>simp[Sg.bits,Sg.w]
theorem K1(f:List Sg):(Ca f).length=AO f:=by
 induction f with
 | nil=>rfl
 | cons s f ih=>simp only[Ca,AO,List.flatMap_cons,Aw0,Il,List.map_cons,List.sum_cons] at *;rw[ih]
theorem Y2{a b j:Sg}(h:a.join b=some j):j.bits=a.bits++b.bits:=by
 cases a<;>cases b<;>simp only[Sg.join] at h
 ·cases h;simp[Sg.bits]
 ·cases h
 ·cases h
 ·rename_i v l n v' l' n';split at h
  ·rename_i hc;cases h;obtain⟨rfl,rfl⟩:=hc;simp only[Sg.bits];rw[List.range_add,List.map_append,List.map_map];congr 1;refine List.map_congr_left λk _=>?_;simp[Nat.add_assoc]
  ·cases h
theorem VR(f:List Sg)(s:Sg):Ca (FJ f s)=Ca f++s.bits:=by
 rcases List.eq_nil_or_concat f with rfl | ⟨g,l,rfl⟩
 ·simp[Ny,Ca]
 ·rw[List.concat_eq_append,Dw];cases h:l.join s with
  | none=>simp[Ca]
  | some j=>simp[Ca,Y2 h]
theorem qC(f:List Sg)(bs:List Bt):Ca (Rn f bs)=Ca f++bs:=by
 induction bs generalizing f with
 | nil=>simp[Rn]
 | cons b bs ih =>
  rw[show Rn f (b::bs)=Rn (FJ f b.sg) bs from rfl,ih,VR];cases b<;>simp[Bt.sg,Sg.bits]
theorem FT(bs:List Bt):Ca (norm bs)=bs:=qC [] bs
theorem Jo(f:List Sg)(a b:List Bt):Rn f (a++b)=Rn (Rn f a) b:=List.foldl_append
theorem mJ(s:Sg)(h:2<=s.w):∃(t:Sg) (b:Bt),1<=t.w/\t.w<s.w/\s.bits=t.bits++[b]/\t.join b.sg=some s/\(∀l j:Sg,l.join t=some j->j.join b.sg=l.join s)/\(∀l:Sg,l.join t=none->l.join s=none):=by
 cases s with
 | co bs =>
  simp only[Sg.w] at h;rcases List.eq_nil_or_concat bs with rfl | ⟨cs,x,rfl⟩
  ·simp at h
  ·rw[List.concat_eq_append] at h ⊢;refine⟨.co cs,.co x,?_,?_,?_,rfl,λl j hj=>?_,λl hl=>?_⟩
   ·simp[Sg.w] at h ⊢;omega
   ·simp[Sg.w]
   ·simp[Sg.bits]
   ·cases l<;>simp only[Sg.join] at hj
    ·cases hj;simp[Sg.join,Bt.sg]
    ·cases hj
   ·cases l<;>simp[Sg.join] at hl ⊢
 | va v l n =>
  simp only[Sg.w] at h;obtain⟨m,rfl⟩:∃m,n=m+1:=⟨n-1,by omega⟩;refine⟨.va v l m,.va v (l+m),by simp[Sg.w];omega,by simp[Sg.w],?_,by simp[Sg.join,Bt.sg],λk j hj=>?_,λk hk=>?_⟩
  ·simp[Sg.bits,List.range_succ]
  ·cases k<;>simp only[Sg.join] at hj
   ·cases hj
   ·split at hj
    ·rename_i hc;cases hj;obtain⟨rfl,rfl⟩:=hc;simp[Sg.join,Bt.sg,Nat.add_assoc]
    ·cases hj
  ·cases k with
   | co b=>rfl
   | va v' l' n' =>
    simp only[Sg.join] at hk ⊢;split at hk
    ·cases hk
    ·rename_i hc;rw[if_neg hc]
theorem RQ:∀(n:Nat) (s:Sg) (f:List Sg),s.w=n->1<=n->FJ f s=Rn f s.bits:=by
 intro n;induction n using Nat.strongRecOn with
 | _ n ih =>
  intro s f hn h1;rcases Aw7 1 n with h | h
  ·obtain⟨t,b,ht1,ht2,hb,hj,hlj,hln⟩:=mJ s (by omega);rw[hb,Jo,<-ih t.w (by omega) t f rfl ht1];show _=FJ (FJ f t) b.sg;rcases List.eq_nil_or_concat f with rfl | ⟨g,l,rfl⟩
   ·rw[Ny,Ny,show[t]=[]++[t] from rfl,Dw,hj];rfl
   ·rw[List.concat_eq_append,Dw,Dw];cases hl:l.join t with
    | none =>
     rw[hln l hl];simp only;rw[show g++[l,t]=(g++[l])++[t] by simp,Dw,hj];simp
    | some j =>
     simp only;rw[Dw,hlj l j hl];cases hls:l.join s with
     | some k=>rfl
     | none =>
      have:=hlj l j hl;rw[hls] at this
      exfalso
      cases l<;>cases s<;>cases t<;>simp[Sg.join] at hl hls hj
      all_goals first | (cases b<;>simp[Bt.sg,Sg.join] at hj<;>done)| skip
      all_goals (cases b<;>simp[Bt.sg,Sg.join] at hj;try omega)
  ·have:n=1:=by omega
   subst this;have hs:∃b:Bt,s=b.sg/\s.bits=[b]:=by
    cases s with
    | co bs =>
     simp only[Sg.w] at hn;obtain⟨x,rfl⟩:=List.length_eq_one_iff.1 hn;exact⟨.co x,rfl,rfl⟩
    | va v l m =>
     simp only[Sg.w] at hn;subst hn;exact⟨.va v l,rfl,by simp[Sg.bits]⟩
   obtain⟨b,hb,Aqg⟩:=hs;rw[Aqg,hb];rfl
def Full(f:List Sg):Prop:=∀s∈f,1<=s.w
theorem VT{f ss:List Sg}(h:Full ss):raises f ss=Rn f (Ca ss):=by
 induction ss generalizing f with
 | nil=>rfl
 | cons s ss ih =>
  rw[show raises f (s::ss)=raises (FJ f s) ss from rfl,ih λx hx=>h x (List.mem_cons_of_mem _ hx),RQ _ s f rfl (h s List.mem_cons_self),show Ca (s::ss)=s.bits++Ca ss from rfl,Jo]
theorem Ahs{a b j:Sg}(h:a.join b=some j):j.w=a.w+b.w:=by rw[<-Il,Y2 h,Aw0,Il,Il]
theorem VS{f:List Sg}{s:Sg}(hf:Full f)(hs:1<=s.w):Full (FJ f s):=by
 rcases List.eq_nil_or_concat f with rfl | ⟨g,l,rfl⟩
 ·intro x hx;rw[Ny,List.mem_singleton] at hx;rw[hx];exact hs
 ·rw[List.concat_eq_append] at hf ⊢;rw[Dw];have hl:=hf l (by simp);cases h:l.join s with
  | none =>
   intro x hx;simp only[List.mem_append,List.mem_cons,List.not_mem_nil,or_false] at hx;rcases hx with hx | rfl | rfl
   ·exact hf x (by simp[hx])
   ·exact hl
   ·exact hs
  | some j =>
   intro x hx;simp only[List.mem_append,List.mem_cons,List.not_mem_nil,or_false] at hx;rcases hx with hx | rfl
   ·exact hf x (by simp[hx])
   ·rw[Ahs h];omega
theorem AhG(b:Bt):b.sg.w=1:=by cases b<;>rfl
theorem qD{f:List Sg}(hf:Full f)(bs:List Bt):Full (Rn f bs):=by
 induction bs generalizing f with
 | nil=>exact hf
 | cons b bs ih=>exact ih (VS hf (by rw[AhG];exact Aw2 _))
theorem B6(bs:List Bt):Full (norm bs):=qD (λx hx=>by cases hx) bs
theorem Bv(bs:List Bt):AO (norm bs)=bs.length:=by rw[<-K1,FT]
theorem iT(a b:List Bt):raises (norm a) (norm b)=norm (a++b):=by
 rw[VT (B6 b),FT];exact(Jo [] a b).symm
theorem BW{f:List Sg}(h:Full f):f.length<=AO f:=by
 induction f with
 | nil=>exact Aw2 _
 | cons s f ih =>
  have:=ih λx hx=>h x (List.mem_cons_of_mem _ hx);have:=h s List.mem_cons_self;simp only[AO,List.length_cons,List.map_cons,List.sum_cons] at *;omega
end Go.Va
namespace Go.Proofs.X
open Go Go.Va
set_option maxRecDepth 100000
def Ye(bs:Axt):Axq:=uo bs.length λi=>bs.getD i false
def FU:Sg->Axi
 | .co bs=>(-1,0,(bs.length:Int),Ye bs,())
 | .va v l n=>((v:Int),(l:Int),(n:Int),(0,[],()),())
def PZ:Bt->Axg
 | .co b=>(-1,bI b,())
 | .va v a=>((v:Int),(a:Int),())
def fV(f:List Sg):Axx:=f.map FU
def bV(f:List Bt):Axv:=f.map PZ
def QA:Sg->Prop
 | .co bs=>bs.length<=4096
 | .va v l n=>v<=4096/\l+n<=4096
theorem lM{bs:Axt}{n:Nat}{f:Nat->Bool}(hl:bs.length=n)(h:∀i,i<n->bs.getD i false=f i):Ye bs=uo n f:=by
 unfold Ye;rw[hl];exact rW h
theorem AaB{a b:Axt}(h:a.length+b.length<=8192):∃r,Dm (Ye b) (Ye a)=some r/\(r.1,r.2,())=Ye (a++b):=by
 refine⟨_,Ady (by omega),(lM (by rw[Aw0];omega) λi hi=>?_).symm⟩;by_cases h:i<a.length
 ·rw[if_pos h];simp[List.getD,List.getElem?_append,h]
 ·rw[if_neg h];simp[List.getD,List.getElem?_append,h]
theorem oG{bs:Axt}{a w:Nat}(hn:bs.length<=8192)(h1:1<=w)(h:a+w<=bs.length):∃r,Cr (Ye bs) (a:Int) (w:Int)=some r/\(r.1,r.2,())=Ye ((bs.drop a).take w):=by
 refine⟨_,Ahc (by omega) h1 h,(lM (by rw[List.length_take,List.length_drop];omega) λi hi=>?_).symm⟩;simp[List.getD,hi]
theorem Aaj{a b:Sg}(ha:QA a):Cv (FU a) (FU b)=a.meets b:=by
 cases a with
 | co x =>
  cases b with
  | co y=>simp[Cv,FU,Sg.meets,Sg.join]
  | va v l n =>
   simp only[Cv,FU,Sg.meets,Sg.join,Option.isSome_none,Bool.and_eq_false_iff];left;simp
 | va v l n =>
  cases b with
  | co y =>
   simp only[Cv,FU,Sg.meets,Sg.join,Option.isSome_none,Bool.and_eq_false_iff];left;simp
  | va v' l' n' =>
   simp only[QA] at ha;simp only[Cv,FU,Sg.meets,Sg.join];rw[show wI ((l:Int)+(n:Int))=((l+n:Nat):Int) from wrapN (by omega) (by omega)];by_cases h:v=v'/\l+n=l'
   ·rw[if_pos h];obtain⟨rfl,rfl⟩:=h;simp
   ·rw[if_neg h];simp only[Option.isSome_none,Bool.and_eq_false_iff,Bool.or_eq_false_iff,beq_eq_false_iff_ne,ne_eq];by_cases hv:v=v'
    ·exact .inr ⟨show ¬(v:Int)=-1 by omega,λe=>h ⟨hv,Int.ofNat.inj e⟩⟩
    ·exact .inl λe=>hv (Int.ofNat.inj e)
theorem UU{A:Type}(g:List A)(x z:A):(g++[x]).getD g.length z=x:=by simp[List.getD]
theorem XF{A:Type}(g:List A)(x y:A):(g++[x]).set g.length y=g++[y]:=by simp
theorem L6(f g:List Sg):fV (f++g)=fV f++fV g:=List.map_append
theorem Bj(f:List Sg):(fV f).length=f.length:=Aw8 _
theorem K4{A B:Type}(f:A->B){l:List A}{k:Nat}{y:A}{z:B}(h:k<l.length):(l.map f).getD k z=f (l.getD k y):=by simp[List.getD,h]
theorem l8{ss f:List Sg}{k:Nat}{b:Int}(hk:k<ss.length)(hs:QA (ss.getD k (.co [])))(hf:∀s∈f,QA s)(hl:f.length<=1048576):K8 (fV ss) b (k:Int) (fV f)=some (fV (FJ f (ss.getD k (.co [])))):=by
 obtain⟨s,hse⟩:∃s,s=ss.getD k (.co []):=⟨_,rfl⟩;have hget:(fV ss).getD k Ad.zero=FU s:=by rw[hse];exact K4 FU hk
 rw[<-hse] at hs ⊢;unfold K8;rw[if_pos (rng (by rw[Bj];exact hk)),AwX,hget];rcases List.eq_nil_or_concat f with rfl | ⟨g,l,rfl⟩
 ·unfold K6;rfl
 ·rw[List.concat_eq_append] at hf hl ⊢;have hbl:QA l:=hf l (by simp);have hfl:(fV (g++[l])).length=g.length+1:=by rw[Bj,Aw0];rfl
  have e1:wI (((fV (g++[l])).length:Int)-1)=(g.length:Int):=by
   rw[Aw0] at hl;rw[hfl];exact wrapN (by omega) (by simp at hl;omega)
  have hgl:(fV (g++[l])).getD g.length Ad.zero=FU l:=by
   rw[L6,<-Bj g];exact UU _ _ _
  have e2:decide ((g.length:Int)<0)=false:=by simp
  have e3:(0:Int)<=(g.length:Int)/\(g.length:Int)<((fV (g++[l])).length:Int):=⟨by omega,by rw[hfl];omega⟩;rw[e1,Dw];unfold K6;rw[e2,Axb,if_pos e3,AwX,hgl,Aaj hbl,AwW];cases hj:l.join s with
  | none =>
   rw[show l.meets s=false by unfold Sg.meets;rw[hj];rfl];show(if(_+1)*56<=_ then _ else none)=_;rw[if_pos (by rw[hfl];simp at hl;omega)];simp[L6,fV]
  | some j =>
   rw[show l.meets s=true by unfold Sg.meets;rw[hj];rfl];show(K7 (fV ss) b (k:Int) (fV (g++[l])) (g.length:Int) (FU s)).bind _=_;unfold K7;cases l with
   | co x =>
    cases s with
    | va v' l' n'=>simp[Sg.join] at hj
    | co y =>
     simp only[Sg.join,AwY] at hj;subst hj;simp only[QA] at hbl hs;obtain⟨r,hr1,hr2⟩:=AaB (a:=x) (b:=y) (by omega);rw[show((FU (.co y)).1==(-1:Int))=true from rfl,Axc,if_pos e3,AwX,hgl];rw[show Dm (FU (.co y)).2.2.2.1 (FU (.co x)).2.2.2.1=some r from hr1,AwW,if_pos e3,hr2,AwW];have e4:(0:Int)<=(g.length:Int)/\(g.length:Int)<(((fV (g++[Sg.co x])).set g.length ((FU (.co x)).1,(FU (.co x)).2.1,(FU (.co x)).2.2.1,Ye (x++y),(FU (.co x)).2.2.2.2)).length:Int):=by rw[Aw5];exact e3
     rw[if_pos e4,if_pos e4];have hset:(fV (g++[Sg.co x])).set g.length ((FU (.co x)).1,(FU (.co x)).2.1,(FU (.co x)).2.2.1,Ye (x++y),(FU (.co x)).2.2.2.2)=fV g++[(-1,0,(x.length:Int),Ye (x++y),())]:=by
      rw[L6,<-Bj g];exact XF _ _ _
     rw[hset,show(fV g++[((-1,0,(x.length:Int),Ye (x++y),()):Axi)]).getD g.length Ad.zero=(-1,0,(x.length:Int),Ye (x++y),()) by rw[<-Bj g];exact UU _ _ _];simp only;rw[show wI ((x.length:Int)+(FU (.co y)).2.2.1)=(((x++y).length:Nat):Int) by
      rw[Aw0];exact wrapN (by show(x.length:Int)+(y.length:Int)=_;omega) (by omega)]
     rw[L6,<-Bj g,XF];rfl
   | va v l n =>
    cases s with
    | co y=>simp[Sg.join] at hj
    | va v' l' n' =>
     simp only[QA] at hbl hs;simp only[Sg.join] at hj;split at hj
     ·rename_i hc;cases hj;rw[show((FU (.va v' l' n')).1==(-1:Int))=false by simp[FU],Axb,AwW,if_pos e3,if_pos e3];show some (List.set (fV (g++[Sg.va v l n])) g.length (((fV (g++[Sg.va v l n])).getD g.length Ad.zero).1,((fV (g++[Sg.va v l n])).getD g.length Ad.zero).2.1,wI (((fV (g++[Sg.va v l n])).getD g.length Ad.zero).2.2.1+(FU (.va v' l' n')).2.2.1),((fV (g++[Sg.va v l n])).getD g.length Ad.zero).2.2.2))=_;rw[hgl];rw[show wI ((FU (.va v l n)).2.2.1+(FU (.va v' l' n')).2.2.1)=((n+n':Nat):Int) from wrapN (by show(n:Int)+(n':Int)=_;omega) (by omega)];rw[L6,<-Bj g];show some (List.set (fV g++[FU (.va v l n)]) (fV g).length _)=_;rw[XF,L6];rfl
     ·cases hj
theorem Un{f:List Sg}{s:Sg}(hf:∀x∈f,QA x)(hs:QA s)(hw:AO f+s.w<=4096):∀x∈FJ f s,QA x:=by
 rcases List.eq_nil_or_concat f with rfl | ⟨g,l,rfl⟩
 ·intro x hx;rw[Ny,List.mem_singleton] at hx;rw[hx];exact hs
 ·rw[List.concat_eq_append] at hf hw ⊢;rw[Dw];have hl:=hf l (by simp);cases h:l.join s with
  | none =>
   intro x hx;simp only[List.mem_append,List.mem_cons,List.not_mem_nil,or_false] at hx;rcases hx with hx | rfl | rfl
   ·exact hf x (by simp[hx])
   ·exact hl
   ·exact hs
  | some j =>
   intro x hx;simp only[List.mem_append,List.mem_cons,List.not_mem_nil,or_false] at hx;rcases hx with hx | rfl
   ·exact hf x (by simp[hx])
   ·cases l<;>cases s<;>simp only[Sg.join] at h
    ·cases h;simp only[AO,List.map_append,List.sum_append,List.map_cons,List.map_nil,List.sum_cons,List.sum_nil,Sg.w] at hw;simp only[QA,Aw0];omega
    ·cases h
    ·cases h
    ·split at h
     ·rename_i hc;cases h;simp only[QA] at hl hs ⊢;omega
     ·cases h
theorem Xy(f:List Sg)(s:Sg):AO (FJ f s)=AO f+s.w:=by
 rw[<-K1,VR,Aw0,K1,Il]
theorem Dy{f:List Sg}{k:Nat}(h:k<f.length):AO (f.take (k+1))=AO (f.take k)+(f.getD k (.co [])).w:=by
 rw[AG h (z:=.co [])];simp[AO]
theorem Dl(f:List Sg)(k:Nat):AO (f.take k)<=AO f:=by
 have:AO f=AO (f.take k)+AO (f.drop k):=by
  unfold AO;rw[<-List.sum_append,<-List.map_append,List.take_append_drop]
 omega
theorem iR{ss f:List Sg}(h1:Full ss)(h2:Full f)(hs:∀s∈ss,QA s)(hf:∀s∈f,QA s)(hw:AO f+AO ss<=4096):Cw (fV ss) (fV f)=some (fV (raises f ss)):=by
 unfold Cw P2;have hlen:=BW h1;have inv:∀k,k<=ss.length->Full (raises f (ss.take k))/\(∀s∈raises f (ss.take k),QA s)/\AO (raises f (ss.take k))=AO f+AO (ss.take k):=by
  intro k;induction k with
  | zero=>exact λ_=>⟨h2,hf,rfl⟩
  | succ k ih =>
   intro hk;obtain⟨i1,i2,i3⟩:=ih (by omega);have hm:ss.getD k (.co [])∈ss:=Az (by omega);have hwk:=Dy (show k<ss.length by omega);have:=Dl ss (k+1);have e:raises f (ss.take (k+1))=FJ (raises f (ss.take k)) (ss.getD k (.co [])):=by
    rw[AG (show k<ss.length by omega) (z:=.co [])];exact List.foldl_append
   rw[e];exact⟨VS i1 (h1 _ hm),Un i2 (hs _ hm) (by omega),by rw[Xy,i3,hwk];omega⟩
 have:=AJ (f:=D9 (fV ss) ((fV ss).length:Int)) (λk=>((k:Int),fV (raises f (ss.take k)))) (t:=fV (raises f ss)) ss.length (λk hk=>by
  obtain⟨i1,i2,i3⟩:=inv k (by omega);have hm:ss.getD k (.co [])∈ss:=Az hk;have:=Dl ss k;unfold D9 Lq;simp only;rw[Bj,EE hk,Axc];rw[l8 hk (hs _ hm) i2 (by have:=BW i1;omega),AwW,AY hk (by omega),AG hk (z:=.co [])];rw[show raises f (ss.take k++[ss.getD k (.co [])])=FJ (raises f (ss.take k)) (ss.getD k (.co [])) from List.foldl_append]) (by
  unfold D9 Lq;simp only;rw[Bj,Ff,Axb,Aw6 (Aw2 _)])
 rw[show fix (D9 (fV ss) ((fV ss).length:Int)) (0,fV f)=some (fV (raises f ss)) from this];rfl
theorem aj{f:List Sg}(h1:Full f)(hw:AO f<=4096):Du (fV f)=some (AO f:Int):=by
 unfold Du Mx;have hlen:=BW h1;have:=AJ (f:=BV (fV f) ((fV f).length:Int)) (λk=>((AO (f.take k):Int),(k:Int))) (t:=(AO f:Int)) f.length (λk hk=>by
  have h1:=Dy hk;have h2:=Dl f (k+1);unfold BV GM;simp only;rw[Bj,EE hk,Axc,if_pos (rng hk),AwX];rw[AY hk (by omega),show(fV f).getD k Ad.zero=FU (f.getD k (.co [])) from K4 FU hk];rw[show(FU (f.getD k (.co []))).2.2.1=((f.getD k (.co [])).w:Int) by cases f.getD k (.co [])<;>rfl];rw[show wI ((AO (f.take k):Int)+((f.getD k (.co [])).w:Int))=(AO (f.take (k+1)):Int) from wrapN (by omega) (by omega)]) (by
  unfold BV GM;simp only;rw[Bj,Ff,Axb,Aw6 (Aw2 _)])
 rw[show fix (BV (fV f) ((fV f).length:Int)) (0,0)=some (AO f:Int) from this];rfl
end Go.Proofs.X
namespace Go.Proofs.X
open Go Go.Va
set_option maxRecDepth 100000
def part(s:Sg)(a w:Nat):Sg :=
 match s with
 | .co bs=>.co ((bs.drop a).take w)
 | .va v l _=>.va v (l+a) w
theorem Zk{s:Sg}{a w:Nat}(h:a+w<=s.w):(part s a w).bits=(s.bits.drop a).take w:=by
 cases s with
 | co bs=>simp[part,Sg.bits]
 | va v l n =>
  simp only[Sg.w] at h;simp only[part,Sg.bits];refine List.ext_getElem (by simp;omega) λi h1 h2=>?_;simp[Nat.add_assoc]
theorem lX{s:Sg}{a w:Nat}(h:a+w<=s.w):(part s a w).w=w:=by
 rw[<-Il,Zk h,List.length_take,List.length_drop,Il];omega
theorem lW{s:Sg}{a w:Nat}(hs:QA s)(h:a+w<=s.w):QA (part s a w):=by
 cases s with
 | co bs=>simp only[part,QA,List.length_take,List.length_drop] at *;omega
 | va v l n=>simp only[part,QA,Sg.w] at *;omega
theorem mh{s:Sg}{a w:Nat}(hs:QA s)(h1:1<=w)(h:a+w<=s.w):∃r,Iu (FU s) (a:Int) (w:Int)=some r/\(r.1,r.2.1,r.2.2.1,(r.2.2.2.1,r.2.2.2.2,()),())=FU (part s a w):=by
 unfold Iu;cases s with
 | co bs =>
  simp only[QA] at hs;simp only[Sg.w] at h;obtain⟨r,hr1,hr2⟩:=oG (show bs.length<=8192 by omega) h1 h;rw[show((FU (.co bs)).1==(-1:Int))=true from rfl,Axc,show Cr (FU (.co bs)).2.2.2.1 (a:Int) (w:Int)=some r from hr1];refine⟨_,rfl,?_⟩;have hw:r.1=(w:Int):=by
   have:=congrArg (λx:Axq=>x.1) hr2;have e:r.1=((((bs.drop a).take w).length:Nat):Int):=this;rw[e,List.length_take,List.length_drop];congr 1;omega
  show(-1,0,r.1,(r.1,r.2,()),())=FU (.co ((bs.drop a).take w));rw[hr2];rw[show FU (.co ((bs.drop a).take w))=(-1,0,(((bs.drop a).take w).length:Int),Ye ((bs.drop a).take w),()) from rfl,hw,show((bs.drop a).take w).length=w by rw[List.length_take,List.length_drop];omega]
 | va v l n =>
  simp only[QA] at hs;simp only[Sg.w] at h;rw[show((FU (.va v l n)).1==(-1:Int))=false by simp[FU],Axb];refine⟨_,rfl,?_⟩;simp only[part,FU];rw[show wI ((l:Int)+(a:Int))=((l+a:Nat):Int) from wrapN (by omega) (by omega)]
theorem W1{f:List Sg}{k:Nat}(h:k<f.length):(fV f).getD k Ad.zero=FU (f.getD k (.co [])):=K4 FU h
theorem Q3{f:List Sg}{k:Nat}(h:k<f.length):Ca (f.take (k+1))=Ca (f.take k)++(f.getD k (.co [])).bits:=by
 rw[AG h (z:=.co [])];simp[Ca]
theorem SY(s:Sg):(FU s).2.2.1=(s.w:Int):=by cases s<;>rfl
theorem y8{B S:List Bt}{lo w:Nat}:((B++S).drop lo).take w=(B.drop lo).take w++(S.drop (max lo B.length-B.length)).take (min (lo+w) (B.length+S.length)-max lo B.length):=by
 rw[List.drop_append,List.take_append,List.length_drop];congr 1;rw[show max lo B.length-B.length=lo-B.length by omega,List.take_eq_take_iff,List.length_drop];omega
theorem Pg{bs:List Bt}(hb:∀b∈bs,QA b.sg)(hl:bs.length<=4096):∀s∈norm bs,QA s:=by
 have:∀(bs:List Bt) (f:List Sg),(∀b∈bs,QA b.sg)->(∀s∈f,QA s)->AO f+bs.length<=4096->∀s∈Rn f bs,QA s:=λbs=>by
  induction bs with
  | nil=>exact λf _ h _=>h
  | cons b bs ih =>
   intro f hb hf hw;simp only[List.length_cons] at hw;exact ih _ (λx hx=>hb x (List.mem_cons_of_mem _ hx)) (Un hf (hb b List.mem_cons_self) (by rw[AhG];omega)) (by rw[Xy,AhG];omega)
 exact this bs [] hb (λs hs=>by cases hs) (by show 0+_<=_;omega)
theorem gF{f:List Sg}{lo w:Nat}(h1:Full f)(hf:∀s∈f,QA s)(hb:∀b∈Ca f,QA b.sg)(hw:AO f<=4096)(hlo:lo+w<=8192):Cs (fV f) (lo:Int) (w:Int)=some (fV (norm (((Ca f).drop lo).take w))):=by
 unfold Cs Nr;have hlen:=BW h1;have:=AJ (f:=C4 (lo:Int) (w:Int) (fV f) ((fV f).length:Int)) (λk=>((AO (f.take k):Int),(k:Int),fV (norm (((Ca (f.take k)).drop lo).take w)))) (t:=fV (norm (((Ca f).drop lo).take w))) f.length (λk hk=>by
  have hwk:=Dy hk;have hle:=Dl f (k+1);have hm:f.getD k (.co [])∈f:=Az hk;obtain⟨s,hs⟩:∃s,s=f.getD k (.co []):=⟨_,rfl⟩;have hB:(Ca (f.take k)).length=AO (f.take k):=K1 _;have hpre:∀b∈((Ca (f.take k)).drop lo).take w,b∈Ca f:=λb hb=>by
   have:=List.mem_of_mem_drop (List.mem_of_mem_take hb);rw[show Ca f=Ca (f.take k)++Ca (f.drop k) by unfold Ca;rw[<-List.flatMap_append,List.take_append_drop]];exact List.mem_append_left _ this
  unfold C4 HI;simp only;rw[Bj,EE hk,Axc,if_pos (rng hk),AwX,W1 hk,AY hk (by omega),Q3 hk,y8,hB,Il,hwk];rw[<-hs] at hm hwk ⊢;rw[SY,show wI ((AO (f.take k):Int)+(s.w:Int))=((AO (f.take k)+s.w:Nat):Int) from wrapN (by omega) (by omega),show wI ((lo:Int)+(w:Int))=((lo+w:Nat):Int) from wrapN (by omega) (by omega)];generalize hA:AO (f.take k)=A at *;rw[show(if(A:Int)>(lo:Int) then(A:Int) else(lo:Int))=((max lo A:Nat):Int) by split<;>omega];rw[show(if((A+s.w:Nat):Int)<((lo+w:Nat):Int) then((A+s.w:Nat):Int) else((lo+w:Nat):Int))=((min (lo+w) (A+s.w):Nat):Int) by split<;>omega];unfold J8;by_cases hlt:max lo A<min (lo+w) (A+s.w)
  ·rw[show decide (((max lo A:Nat):Int)<((min (lo+w) (A+s.w):Nat):Int))=true by simp only[decide_eq_true_eq];omega,Axc];rw[show wI (((max lo A:Nat):Int)-(A:Int))=((max lo A-A:Nat):Int) from wrapN (by omega) (by omega),show wI (((min (lo+w) (A+s.w):Nat):Int)-((max lo A:Nat):Int))=((min (lo+w) (A+s.w)-max lo A:Nat):Int) from wrapN (by omega) (by omega)];have hin:max lo A-A+(min (lo+w) (A+s.w)-max lo A)<=s.w:=by omega
   obtain⟨r,hr1,hr2⟩:=mh (a:=max lo A-A) (w:=min (lo+w) (A+s.w)-max lo A) (hf s hm) (by omega) hin;rw[hr1,AwW,hr2];rw[show([FU (part s (max lo A-A) (min (lo+w) (A+s.w)-max lo A))]:Axx)=fV [part s (max lo A-A) (min (lo+w) (A+s.w)-max lo A)] from rfl];rw[iR (λx hx=>by rw[List.mem_singleton] at hx;rw[hx,lX hin];omega) (B6 _) (λx hx=>by rw[List.mem_singleton] at hx;rw[hx];exact lW (hf s hm) hin)
    (Pg (λb hb'=>hb b (hpre b hb')) (by rw[List.length_take,List.length_drop,hB];omega)) (by
     rw[Bv,List.length_take,List.length_drop,hB];show _+(AO [part s _ _])<=_;rw[show AO [part s (max lo A-A) (min (lo+w) (A+s.w)-max lo A)]=min (lo+w) (A+s.w)-max lo A by simp only[AO,List.map_cons,List.map_nil,List.sum_cons,List.sum_nil,lX hin];rfl];omega)]
   simp only[AwW];rw[VT (λx hx=>by rw[List.mem_singleton] at hx;rw[hx,lX hin];omega)];rw[show Ca [part s (max lo A-A) (min (lo+w) (A+s.w)-max lo A)]=(s.bits.drop (max lo A-A)).take (min (lo+w) (A+s.w)-max lo A) by simp[Ca,Zk hin]];rw[show ∀a b:List Bt,Rn (norm a) b=norm (a++b) from λa b=>(Jo [] a b).symm]
  ·rw[show decide (((max lo A:Nat):Int)<((min (lo+w) (A+s.w):Nat):Int))=false by simp only[decide_eq_false_iff_not];omega,Axb];simp only[AwW];rw[show min (lo+w) (A+s.w)-max lo A=0 by omega,List.take_zero,List.append_nil]) (by
  unfold C4 HI;simp only;rw[Bj,Ff,Axb,Aw6 (Aw2 _)])
 have h0:((AO (f.take 0):Int),((0:Nat):Int),fV (norm (((Ca (f.take 0)).drop lo).take w)))=((0:Int),(0:Int),([]:Axx)):=by
  simp[AO,Ca,norm,Rn,fV]
 rw[h0] at this;rw[this];rfl
def BtB:Bt->Prop
 | .co _=>True
 | .va v a=>v<=4096/\a+1<=4096
theorem ZS{b:Bt}(h:BtB b):QA b.sg:=by
 cases b with
 | co b=>simp[Bt.sg,QA]
 | va v a=>exact h
theorem Cb(f:List Bt):(bV f).length=f.length:=Aw8 _
theorem Qa(f g:List Bt):bV (f++g)=bV f++bV g:=List.map_append
theorem Ww{f:List Bt}{k:Nat}(h:k<f.length):(bV f).getD k Aa.zero=PZ (f.getD k (.co false)):=K4 PZ h
theorem JW{f:List Bt}{k:Nat}(h:k<f.length):f.take (k+1)=f.take k++[f.getD k (.co false)]:=AG h
theorem Zg(bs:Axt):(Ye bs).2.1.length=nw bs.length/\Words (Ye bs).2.1:=⟨Gf _ _,FR _ _⟩
theorem Adu{bs:Axt}{k:Nat}(h:k<bs.length)(hl:bs.length<=8192):Fv (Ye bs) (k:Int)=some (bI (bs.getD k false)):=by
 have:=Xi (w:=(bs.length:Int)) (FR (low (λi=>bs.getD i false) bs.length) (nw bs.length)) (i:=k) (by rw[Gf];unfold nw;omega) (by rw[Gf];unfold nw;omega);rw[wO h] at this;exact this
theorem lI{f:List Sg}{i:Nat}{B:List Bt}(hi:i<f.length)(hs:QA (f.getD i (.co [])))(hB:B.length<=8192):MU (fV f) (i:Int) 0 (bV B)=some (bV (B++(f.getD i (.co [])).bits)):=by
 unfold MU;obtain⟨s,hse⟩:∃s,s=f.getD i (.co []):=⟨_,rfl⟩;rw[<-hse] at hs ⊢;have hsw:s.w<=4096:=by cases s<;>simp only[QA,Sg.w] at *<;>omega
 have:=AJ (f:=ET (fV f) (i:Int)) (λk=>((k:Int),bV (B++s.bits.take k))) (t:=bV (B++s.bits)) s.w (λk hk=>by
  unfold ET KA MS;simp only;have hrg:(0:Int)<=(i:Int)/\(i:Int)<((fV f).length:Int):=rng (by rw[Bj];exact hi);rw[if_pos hrg,AwX,W1 hi,<-hse,SY,EE hk,Axc,if_pos hrg];have hlen:(bV (B++s.bits.take k)).length<=20000:=by rw[Cb,Aw0,List.length_take];omega
  have hk':k<s.bits.length:=by rw[Il];exact hk
  rw[AY hk (by omega),JW hk',<-Aw4,show bV (B++s.bits.take k++[s.bits.getD k (.co false)])=bV (B++s.bits.take k)++[PZ (s.bits.getD k (.co false))] from Qa _ _];cases s with
  | co bs =>
   simp only[Sg.w] at hk hsw;rw[show decide ((FU (.co bs)).1<0)=true from rfl,Axc,if_pos hrg,show Fv (FU (.co bs)).2.2.2.1 (k:Int)=some (bI (bs.getD k false)) from Adu hk (by omega),AwW];rw[if_pos (by show(_+1)*16<=_;omega),AwW];rw[show wI (bI (bs.getD k false))=bI (bs.getD k false) by cases bs.getD k false<;>rfl];rw[show(Sg.co bs).bits.getD k (.co false)=.co (bs.getD k false) by simp[Sg.bits,List.getD,hk]];rfl
  | va v l n =>
   simp only[Sg.w,QA] at hk hs hsw;rw[show decide ((FU (.va v l n)).1<0)=false from AwZ (show ¬((v:Int)<0) by omega),Axb,if_pos hrg,if_pos hrg,if_pos (by show(_+1)*16<=_;omega),AwW];rw[show wI ((FU (.va v l n)).2.1+(k:Int))=((l+k:Nat):Int) from wrapN (by show(l:Int)+(k:Int)=_;omega) (by omega)];rw[show(Sg.va v l n).bits.getD k (.co false)=.va v (l+k) by simp[Sg.bits,List.getD,hk]];rfl) (by
  unfold ET KA;simp only;have hrg:(0:Int)<=(i:Int)/\(i:Int)<((fV f).length:Int):=rng (by rw[Bj];exact hi);rw[if_pos hrg,AwX,W1 hi,<-hse,SY,Ff,Axb,<-Il,Aw6 (Aw2 _)])
 rw[List.take_zero,List.append_nil] at this;exact this
theorem rJ{f:List Sg}(h1:Full f)(hf:∀s∈f,QA s)(hw:AO f<=4096):Mi (fV f)=some (bV (Ca f)):=by
 unfold Mi Pu;have hlen:=BW h1;have:=AJ (f:=Dd (fV f)) (λk=>((k:Int),bV (Ca (f.take k)))) (t:=bV (Ca f)) f.length (λk hk=>by
  unfold Dd KB;simp only;have:=Dl f k;rw[Bj,EE hk,Axc,lI hk (hf _ (Az hk)) (by rw[K1];omega),AwW,AY hk (by omega),Q3 hk]) (by
  unfold Dd KB;simp only;rw[Bj,Ff,Axb,Aw6 (Aw2 _)])
 rw[show fix (Dd (fV f)) (0,([]:Axv))=some (bV (Ca f)) from this];rfl
end Go.Proofs.X
namespace Go.Proofs.X
open Go Go.Va
set_option maxRecDepth 100000
theorem og(b:Bt):decide ((PZ b).1<0)=(match b with | .co _=>true | .va _ _=>false):=by
 cases b with
 | co b=>rfl
 | va v a=>exact AwZ (show ¬((v:Int)<0) by omega)
theorem AhE {B:List Bt} {D:Axx} {i:Nat} {b:Bool} (hi:i<B.length) (hb:B.getD i (.co false)=.co b) (hl:B.length<=4096) :
    Aq (MX (bV B) D ((i+1:Nat):Int) [bI b]) λr=>∃bs:Axt,r=(((i+bs.length:Nat):Int),bs.map bI)/\1<=bs.length/\i+bs.length<=B.length/\bs.getD 0 false=b/\B.take (i+bs.length)=B.take i++bs.map .co/\(i+bs.length<B.length->∃v a,B.getD (i+bs.length) (.co false)=.va v a):=by
 unfold MX;refine FW (λm (x:Int×Axs)=>∃bs:Axt,x=(((i+bs.length:Nat):Int),bs.map bI)/\1<=bs.length/\i+bs.length<=B.length/\bs.getD 0 false=b/\B.take (i+bs.length)=B.take i++bs.map .co/\m=B.length-(i+bs.length)) (λm x hI=>?_) (B.length-(i+1)) _ ⟨[b],rfl,by simp,hi,rfl,by
  show B.take (i+1)=_;rw[JW hi,hb];rfl,rfl⟩
 obtain⟨bs,rfl,h1,h2,h3,h4,rfl⟩:=hI;unfold KC ND MW;simp only;rcases Aw7 (i+bs.length) B.length with h | h
 ·rw[Cb,EE h,Axc,if_pos (rng h),AwX,Ww h,og];cases hx:B.getD (i+bs.length) (.co false) with
  | co y =>
   simp only[Axc,AwW,Sum.elim_inl];rw[if_pos (rng h),if_pos (by show(_+1)*1<=_;rw[Aw8];omega),AY h (by omega)];refine Aq.mk ⟨_,?_,bs++[y],?_,by simp,by simp;omega,?_,?_,rfl⟩
   ·simp only[Aw0,List.length_cons,List.length_nil];omega
   ·rw[show IntKind.u8.wrap (PZ (.co y)).2.1=bI y by cases y<;>rfl];simp[Nat.add_assoc]
   ·rw[<-h3];cases bs with
    | nil=>simp at h1
    | cons z zs=>rfl
   ·rw[Aw0,<-Nat.add_assoc];show B.take (i+bs.length+1)=_;rw[JW h,h4,hx,List.map_append,Aw4];rfl
  | va v a =>
   simp only[Axb,AwW,Sum.elim_inr];exact Aq.mk ⟨bs,rfl,h1,h2,h3,h4,λ_=>⟨v,a,hx⟩⟩
 ·rw[Cb,show decide (((i+bs.length:Nat):Int)<(B.length:Int))=false from AwZ (by omega),Axb,AwW,Sum.elim_inr];exact Aq.mk ⟨bs,rfl,h1,h2,h3,h4,λh'=>absurd h' (by omega)⟩
theorem AhF {B:List Bt} {D:Axx} {i v a:Nat} (hi:i<B.length) (hb:B.getD i (.co false)=.va v a) (hB:∀b∈B,BtB b) (hl:B.length<=4096) :
    Aq (MZ (bV B) (i:Int) D ((i+1:Nat):Int)) λr=>∃n,r=((i+n:Nat):Int)/\1<=n/\i+n<=B.length/\B.take (i+n)=B.take i++(Sg.va v a n).bits/\(i+n<B.length->(Sg.va v a n).join (B.getD (i+n) (.co false)).sg=none):=by
 unfold MZ;refine FW (λm (x:Int)=>∃n,x=((i+n:Nat):Int)/\1<=n/\i+n<=B.length/\B.take (i+n)=B.take i++(Sg.va v a n).bits/\m=B.length-(i+n)) (λm x hI=>?_) (B.length-(i+1)) _ ⟨1,rfl,by omega,hi,by
  rw[JW hi,hb];rfl,rfl⟩
 obtain⟨n,rfl,h1,h2,h4,rfl⟩:=hI;unfold KD NF MY;have Aef:B.getD (i+n-1) (.co false)=.va v (a+n-1):=by
  have e:(B.take (i+n)).getD (i+n-1) (.co false)=B.getD (i+n-1) (.co false):=by
   simp only[List.getD,List.getElem?_take,show i+n-1<i+n by omega,if_true]
  rw[<-e,h4];have hti:(B.take i).length=i:=by rw[List.length_take];omega
  simp only[List.getD,List.getElem?_append,hti,show ¬i+n-1<i by omega,if_false];rw[show i+n-1-i=n-1 by omega];simp only[Sg.bits,List.getElem?_map,List.getElem?_range,show n-1<n by omega,Option.map_some,Option.getD_some];congr 1;omega
 have hba:=hB (.va v (a+n-1)) (by rw[<-Aef];exact Az (by omega));simp only[BtB] at hba;rcases Aw7 (i+n) B.length with h | h
 ·rw[Cb,EE h,Axc,if_pos (rng h),AwX,AwX,Ww h,if_pos (rng hi),Ww hi,hb];rw[show wI (((i+n:Nat):Int)-1)=((i+n-1:Nat):Int) from wrapN (by omega) (by omega),AwX,Ww (by omega),Aef,if_pos (rng h),if_pos (rng (by omega))];rw[show wI ((PZ (.va v (a+n-1))).2.1+1)=((a+n:Nat):Int) from wrapN (by show((a+n-1:Nat):Int)+1=_;omega) (by omega)];by_cases hc:B.getD (i+n) (.co false)=.va v (a+n)
  ·rw[hc];rw[show((PZ (.va v (a+n))).1==(PZ (.va v a)).1)=true from beq_self_eq_true (v:Int),Axc,show((PZ (.va v (a+n))).2.1==((a+n:Nat):Int))=true from beq_self_eq_true _,Axc,AwW,Sum.elim_inl,AY h (by omega)];refine Aq.mk ⟨_,?_,n+1,by rw[Nat.add_assoc],by omega,by omega,?_,rfl⟩
   ·omega
   ·rw[<-Nat.add_assoc,JW h,h4,hc];simp[Sg.bits,List.range_succ]
  ·have hno:(bif (PZ (B.getD (i+n) (.co false))).1==(PZ (.va v a)).1 then(bif (PZ (B.getD (i+n) (.co false))).2.1==((a+n:Nat):Int) then some (.inl ()) else some (.inr ())) else some (.inr ()):Option (Unit⊕Unit))=some (.inr ()):=by
     cases hx:B.getD (i+n) (.co false) with
     | co y=>rw[show((PZ (.co y)).1==(PZ (.va v a)).1)=false by simp[PZ]];rfl
     | va v' a' =>
      by_cases hv:v'=v
      ·by_cases ha:a'=a+n
       ·subst hv ha;exact absurd hx hc
       ·rw[show((PZ (.va v' a')).2.1==((a+n:Nat):Int))=false from beq_eq_false_iff_ne.2 λe=>ha (Int.ofNat.inj e)];cases ((PZ (.va v' a')).1==(PZ (.va v a)).1)<;>rfl
      ·rw[show((PZ (.va v' a')).1==(PZ (.va v a)).1)=false from beq_eq_false_iff_ne.2 λe=>hv (Int.ofNat.inj e)];rfl
   refine Aq.of (a:=.inr ((i+n:Nat):Int)) (by
    have:=congrArg (λo=>o.bind (Sum.elim (λ(_:Unit)=>some (.inl (wI (((i+n:Nat):Int)+1)))) (λ(_:Unit)=>some (.inr ((i+n:Nat):Int):Int⊕Int)))) hno;exact this) ?_
   refine⟨n,rfl,h1,h2,h4,λ_=>?_⟩;cases hx:B.getD (i+n) (.co false) with
   | co y=>rfl
   | va v' a' =>
    simp only[Sg.join,Bt.sg];rw[if_neg]
    rintro⟨rfl,rfl⟩
    exact hc hx
 ·rw[Cb,show decide (((i+n:Nat):Int)<(B.length:Int))=false from AwZ (by omega),Axb,AwW,Sum.elim_inr];exact Aq.mk ⟨n,rfl,h1,h2,h4,λh'=>absurd h' (by omega)⟩
theorem Abi{l s:Sg}{b:Bt}{r:List Bt}(hs:s.bits=b::r)(h:l.join b.sg=none):l.join s=none:=by
 cases s with
 | co bs =>
  cases bs with
  | nil=>simp[Sg.bits] at hs
  | cons x xs =>
   simp only[Sg.bits,List.map_cons,List.cons.injEq] at hs;obtain⟨rfl,_⟩:=hs;cases l<;>simp[Sg.join,Bt.sg] at h ⊢
 | va v a n =>
  cases n with
  | zero=>simp[Sg.bits] at hs
  | succ n =>
   simp only[Sg.bits,List.range_succ_eq_map,List.map_cons,List.cons.injEq] at hs;obtain⟨rfl,_⟩:=hs;cases l with
   | co y=>rfl
   | va v' l' n' =>
    simp only[Sg.join,Bt.sg,Nat.add_zero] at h ⊢;split at h
    ·cases h
    ·rename_i hc;rw[if_neg hc]
def Stop(f:List Sg)(b:Bt):Prop:=∀l,f.getLast?=some l->l.join b.sg=none
theorem mQ{f:List Sg}{s:Sg}{b:Bt}{r:List Bt}(h:Stop f b)(hs:s.bits=b::r):FJ f s=f++[s]:=by
 unfold FJ;cases hl:f.getLast? with
 | none=>rw[List.getLast?_eq_none_iff] at hl;subst hl;rfl
 | some l=>simp only[Abi hs (h l hl)]
theorem Aau{B:List Bt}{s:Sg}{b:Bt}{r:List Bt}(h:Stop (norm B) b)(hs:s.bits=b::r)(hw:1<=s.w):norm (B++s.bits)=norm B++[s]:=by
 rw[show norm (B++s.bits)=Rn (norm B) s.bits from Jo [] B s.bits,<-RQ _ s _ rfl hw,mQ h hs]
theorem rM{B:List Bt}(hB:∀b∈B,BtB b)(hl:B.length<=4096):Mj (bV B)=some (decide ((norm B).length<=2000),fV (norm B)):=by
 unfold Mj Oe;refine Aq.eq_ (Aq.bind (P:=λr=>r=fV (norm B)) ?_ λr hr=>Aq.mk (by
  rw[hr,Bj];congr 1;rw[decide_eq_decide];omega))
 refine FW (λm (x:Int×Axx)=>∃i:Nat,x=((i:Int),fV (norm (B.take i)))/\i<=B.length/\(i<B.length->Stop (norm (B.take i)) (B.getD i (.co false)))/\m=B.length-i) (λm x hI=>?_) B.length _ ⟨0,rfl,Nat.zero_le _,λ_ l hl=>by simp[norm,Rn] at hl,rfl⟩;obtain⟨i,rfl,hi,hst,rfl⟩:=hI;unfold I8 MV;simp only;rcases Aw7 i B.length with h | h
 ·rw[Cb,EE h,Axc,AY h (by omega)];have hfl:(fV (norm (B.take i))).length<=4096:=by
   have h1:=BW (B6 (B.take i));rw[Bv,List.length_take] at h1;rw[Bj];omega
  have key:∀s:Sg,∀n,n=s.w->1<=n->i+n<=B.length->B.take (i+n)=B.take i++s.bits->(i+n<B.length->s.join (B.getD (i+n) (.co false)).sg=none)->(s.bits.head?=some (B.getD i (.co false))) ->
      (fV (norm (B.take i))++[FU s]=fV (norm (B.take (i+n))))/\(i+n<B.length->Stop (norm (B.take (i+n))) (B.getD (i+n) (.co false))):=by
   rintro s n rfl h1 h2 h3 h4 h5
   obtain⟨r,hr⟩:∃r,s.bits=B.getD i (.co false)::r:=by
    cases hs:s.bits with
    | nil=>rw[hs] at h5;cases h5
    | cons c r=>rw[hs] at h5;simp only[List.head?_cons,AwY] at h5;exact⟨r,by rw[h5]⟩
   have hn:=Aau (hst h) hr h1;rw[h3,hn];refine⟨by rw[L6];rfl,λhlt l hl=>?_⟩;rw[List.getLast?_append] at hl;simp only[List.getLast?_singleton,Option.some_or,AwY] at hl;subst hl;exact h4 hlt
  unfold M0;rw[Cb,if_pos (rng h),AwX,Ww h,og];cases hx:B.getD i (.co false) with
  | co b =>
   simp only[Axc];rw[if_pos (rng h),show IntKind.u8.wrap (PZ (.co b)).2.1=bI b by cases b<;>rfl];have hrun:=AhE (D:=fV (norm (B.take i))) h hx hl;refine Aq.bind (P:=λy=>∃n,y=(((i+n:Nat):Int),fV (norm (B.take (i+n))))/\1<=n/\i+n<=B.length/\(i+n<B.length->Stop (norm (B.take (i+n))) (B.getD (i+n) (.co false)))) (hrun.bind λy hy=>?_) λy hy=>?_
   ·obtain⟨bs,rfl,h1,h2,h3,h4,h5⟩:=hy;have hk:=key (.co bs) bs.length rfl h1 h2 h4 (λhlt=>by obtain⟨v,a,e⟩:=h5 hlt;rw[e];rfl) (by
     rw[hx];cases bs with
     | nil=>simp at h1
     | cons z zs=>simp only[Sg.bits,List.map_cons,List.head?_cons];rw[<-h3];rfl)
    rw[Y6 h1 (by omega),AwW,if_pos (by show(_+1)*56<=_;omega)];exact Aq.mk ⟨bs.length,by rw[<-hk.1];rfl,h1,h2,hk.2⟩
   ·obtain⟨n,rfl,h1,h2,h3⟩:=hy;exact Aq.mk ⟨B.length-(i+n),by omega,i+n,rfl,h2,h3,rfl⟩
  | va v a =>
   simp only[Axb];have hrun:=AhF (D:=fV (norm (B.take i))) h hx hB hl;refine Aq.bind (P:=λy=>∃n,y=(((i+n:Nat):Int),fV (norm (B.take (i+n))))/\1<=n/\i+n<=B.length/\(i+n<B.length->Stop (norm (B.take (i+n))) (B.getD (i+n) (.co false)))) (hrun.bind λy hy=>?_) λy hy=>?_
   ·obtain⟨n,rfl,h1,h2,h4,h5⟩:=hy;have hk:=key (.va v a n) n rfl h1 h2 h4 h5 (by
     rw[hx];obtain⟨m,rfl⟩:∃m,n=m+1:=⟨n-1,by omega⟩;simp[Sg.bits,List.range_succ_eq_map])
    rw[if_pos (rng h),if_pos (rng h),if_pos (by show(_+1)*56<=_;omega),show wI (((i+n:Nat):Int)-(i:Int))=(n:Int) from wrapN (by omega) (by omega)];exact Aq.mk ⟨n,by rw[<-hk.1];rfl,h1,h2,hk.2⟩
   ·obtain⟨n,rfl,h1,h2,h3⟩:=hy;exact Aq.mk ⟨B.length-(i+n),by omega,i+n,rfl,h2,h3,rfl⟩
 ·have:i=B.length:=by omega
  subst this;rw[Cb,Ff,Axb,Aw6 (Aw2 _)];exact Aq.mk rfl
end Go.Proofs.X
namespace Go.Proofs.X
open Go Go.Va
set_option maxRecDepth 100000
def V2(c:Int):Prop:=48<=c/\c<=57
def N7(c:Int):Prop:=97<=c/\c<=122
instance (c:Int):Decidable (V2 c):=inferInstanceAs (Decidable (_/\_))
instance (c:Int):Decidable (N7 c):=inferInstanceAs (Decidable (_/\_))
def dS(s:ByteArray):Prop:=1<=s.size/\s.size<=12/\¬V2 (BL s 0)/\∀i:Nat,i<s.size->V2 (BL s i)\/N7 (BL s i)
theorem Xj(c:Int):Ks c=decide (V2 c):=(Bool.decide_and _ _).symm
theorem bR{s:ByteArray}{i:Nat}(hi:i<s.size):JO s (i:Int)=some (decide ¬(V2 (BL s i)\/N7 (BL s i))):=by
 unfold JO;rw[if_pos (rng hi),if_pos (rng hi),if_pos (rng hi),Xj];generalize BL s (i:Int)=c;by_cases h1:V2 c
 ·rw[Aw1 h1,AwZ (p:=¬(V2 c\/N7 c)) (λh=>h (.inl h1))];rfl
 ·rw[AwZ h1];by_cases h2:c<97
  ·rw[Aw1 h2,Aw1 (p:=¬(V2 c\/N7 c)) (by unfold N7;rintro(h | h);exact h1 h;omega)];rfl
  ·rw[AwZ h2];refine congrArg some (decide_eq_decide.2 ?_);unfold N7 V2 at *;omega
theorem aK{s:ByteArray}{i:Nat}(hi:i<s.size):Jv s (i:Int)=some (decide ¬(V2 (BL s i)\/N7 (BL s i))):=by
 unfold Jv;simp only[if_pos (rng hi)];generalize BL s (i:Int)=c;by_cases h1:c<97
 ·rw[Aw1 h1,Axc];by_cases h2:c<48
  ·rw[Aw1 h2,Axc];exact congrArg some (Aw1 (by unfold V2 N7;omega)).symm
  ·rw[AwZ h2,Axb];exact congrArg some (decide_eq_decide.2 (by unfold V2 N7;omega))
 ·rw[AwZ h1,Axb];by_cases h2:c>122
  ·rw[Aw1 h2,Axc];by_cases h3:c<48
   ·rw[Aw1 h3,Axc];exact congrArg some (Aw1 (by unfold V2 N7;omega)).symm
   ·rw[AwZ h3,Axb];exact congrArg some (decide_eq_decide.2 (by unfold V2 N7;omega))
  ·rw[AwZ h2,Axb];exact congrArg some (AwZ (by unfold V2 N7;omega)).symm
theorem ji(s:ByteArray):Aq (JN s) λr=>r=true↔dS s:=by
 unfold JN MP;by_cases h1:s.size<1
 ·rw[Aw1 (by omega:(s.size:Int)<1)];exact Aq.mk ⟨λh=>by(cases h),λh=>absurd h.1 (by omega)⟩
 ·rw[AwZ (by omega:¬(s.size:Int)<1),Axb];by_cases h2:s.size>12
  ·rw[Aw1 (by omega:(s.size:Int)>12)];exact Aq.mk ⟨λh=>by(cases h),λh=>absurd h.2.1 (by omega)⟩
  ·rw[AwZ (by omega:¬(s.size:Int)>12),Axb,if_pos ⟨by omega,by omega⟩,AwW,Xj];by_cases h3:V2 (BL s 0)
   ·rw[Aw1 h3];exact Aq.mk ⟨λh=>by(cases h),λh=>absurd h3 h.2.2.1⟩
   ·rw[AwZ h3,Axb];refine Aq.bind (P:=λt=>(t=.inl ()/\¬∀i:Nat,i<s.size->V2 (BL s i)\/N7 (BL s i))\/(t=.inr ()/\∀i:Nat,i<s.size->V2 (BL s i)\/N7 (BL s i))) ?_ λt ht=>?_
    ·unfold Pq;refine Bd (λk (_:Unit)=>(k:Int)) s.size (λk _=>∀i:Nat,i<k->V2 (BL s i)\/N7 (BL s i)) (λk _ hk hI=>?_) (λ_ hI=>?_) (s0:=()) (λi h=>by omega)
     ·unfold Hn Kv;rw[EE hk,Axc,bR hk,AwW];by_cases h:V2 (BL s k)\/N7 (BL s k)
      ·rw[AwZ (λhn=>hn h),Axb,AY hk (by omega)];refine Aq.mk ⟨(),rfl,λi hi=>?_⟩;rcases Aw7 i k with h' | h'
       ·exact hI i h'
       ·rw[show i=k by omega];exact h
      ·rw[Aw1 h,Axc];exact Aq.mk (.inl ⟨rfl,λh'=>h (h' k hk)⟩)
     ·unfold Hn Kv;rw[Ff,Axb];exact Aq.mk (.inr ⟨rfl,hI⟩)
    ·rcases ht with ⟨rfl,h⟩| ⟨rfl,h⟩
     ·exact Aq.mk ⟨λh=>by(cases h),λh'=>absurd h'.2.2.2 h⟩
     ·exact Aq.mk ⟨λ_=>⟨by omega,by omega,h3,h⟩,λ_=>rfl⟩
theorem gZ(s:ByteArray):Aq (Ju s) λr=>r=true↔dS s:=by
 unfold Ju Mz;by_cases h1:s.size<1
 ·rw[Aw1 (by omega:(s.size:Int)<1)];exact Aq.mk ⟨λh=>by(cases h),λh=>absurd h.1 (by omega)⟩
 ·rw[AwZ (by omega:¬(s.size:Int)<1),Axb];by_cases h2:s.size>12
  ·rw[Aw1 (by omega:(s.size:Int)>12)];exact Aq.mk ⟨λh=>by(cases h),λh=>absurd h.2.1 (by omega)⟩
  ·rw[AwZ (by omega:¬(s.size:Int)>12),Axb,if_pos ⟨by omega,by omega⟩,if_pos ⟨by omega,by omega⟩];by_cases h3:N7 (BL s 0)
   ·have h4:(bif decide (BL s 0<97) then some true else some (decide (BL s 0>122)))=some false:=by
      unfold N7 at h3;rw[AwZ (by omega),Axb,AwZ (by omega)]
    rw[h4,AwW,Axb];refine Aq.bind (P:=λt=>(t=.inl ()/\¬∀i:Nat,i<s.size->V2 (BL s i)\/N7 (BL s i))\/(t=.inr ()/\∀i:Nat,i<s.size->V2 (BL s i)\/N7 (BL s i))) ?_ λt ht=>?_
    ·unfold OY;refine Bd (λk (_:Unit)=>(k:Int)) s.size (λk _=>∀i:Nat,i<k->V2 (BL s i)\/N7 (BL s i)) (λk _ hk hI=>?_) (λ_ hI=>?_) (s0:=()) (λi h=>by omega)
     ·unfold G5 J9;rw[EE hk,Axc,aK hk,AwW];by_cases h:V2 (BL s k)\/N7 (BL s k)
      ·rw[AwZ (λhn=>hn h),Axb,AY hk (by omega)];refine Aq.mk ⟨(),rfl,λi hi=>?_⟩;rcases Aw7 i k with h' | h'
       ·exact hI i h'
       ·rw[show i=k by omega];exact h
      ·rw[Aw1 h,Axc];exact Aq.mk (.inl ⟨rfl,λh'=>h (h' k hk)⟩)
     ·unfold G5 J9;rw[Ff,Axb];exact Aq.mk (.inr ⟨rfl,hI⟩)
    ·rcases ht with ⟨rfl,h⟩| ⟨rfl,h⟩
     ·exact Aq.mk ⟨λh=>by(cases h),λh'=>absurd h'.2.2.2 h⟩
     ·refine Aq.mk ⟨λ_=>⟨by omega,by omega,?_,h⟩,λ_=>rfl⟩;unfold N7 at h3;unfold V2;omega
   ·have h4:(bif decide (BL s 0<97) then some true else some (decide (BL s 0>122)))=some true:=by
      unfold N7 at h3;by_cases h5:BL s 0<97
      ·rw[Aw1 h5];rfl
      ·rw[AwZ h5,Axb,Aw1 (by omega)]
    rw[h4,AwW,Axc];refine Aq.mk ⟨λh=>by(cases h),λh=>?_⟩;rcases h.2.2.2 0 (by omega) with h' | h'
    ·exact absurd h' h.2.2.1
    ·exact absurd h' h3
theorem NI(n a b:Int):A8 n a b=decide (a<=n/\n<=b):=by unfold A8;rw[Bool.decide_and]
theorem Kj(n a b:Int):Ay n a b=decide (a<=n/\n<=b):=by unfold Ay;rw[Bool.decide_and]
def TE(d:Axw)(i:Nat):Axh:=d.getD i Ab.zero
def dw(d:Axw)(i:Nat):Int:=(TE d i).2.1
def Tf(d:Axw)(k:Nat):Int:=((d.take k).map λx=>x.2.1).sum
theorem UO{d:Axw}{k:Nat}(h:k<d.length):Tf d (k+1)=Tf d k+dw d k:=by
 unfold Tf;rw[AG h (z :=Ab.zero),List.map_append,List.sum_append];simp[dw,TE]
def Vv(d:Axw)(i:Nat):Prop:=dS (TE d i).1/\(1<=dw d i/\dw d i<=4096)/\∀k,k<i->(TE d k).1≠(TE d i).1
def AA(d:Axw):Prop:=d.length<=60/\(∀i,i<d.length->Vv d i)/\Tf d d.length<=20000
theorem WU{d:Axw}{k:Nat}(hk:k<=d.length)(h:∀i,i<k->Vv d i):0<=Tf d k/\Tf d k<=4096*k:=by
 induction k with
 | zero=>simp[Tf]
 | succ k ih =>
  rw[UO (by omega)];have:=ih (by omega) λi hi=>h i (by omega);have:=(h k (by omega)).2.1;omega
theorem QU(d:Axw):Aq (Gl d) λr=>r=true↔AA d:=by
 unfold Gl;by_cases hl:d.length<=60
 ·rw[AwZ (by omega:¬(d.length:Int)>60),Axb];unfold Oc;refine Aq.bind (P:=λt=>(∃x,t=.inl x/\¬∀i,i<d.length->Vv d i)\/(t=.inr (Tf d d.length)/\∀i,i<d.length->Vv d i)) (Bd (λk (_:Unit)=>(Tf d k,(k:Int))) d.length (λk _=>∀i,i<k->Vv d i) (λk _ hk hI=>?_) (λ_ hI=>?_) (s0:=()) (λi h=>by omega)) λt ht=>?_
  ·unfold Gn I4 Lw;simp only;rw[EE hk,Axc,if_pos (rng hk),AwX];show Aq (((JN (TE d k).1).bind _).bind _) _;obtain⟨r,hr,hq⟩:=ji (TE d k).1;rw[hr,AwW];by_cases h1:dS (TE d k).1
   ·rw[hq.2 h1];simp only[Bool.not_true,Axb];rw[if_pos (rng hk),if_pos (rng hk),AwW];by_cases h2:1<=dw d k/\dw d k<=4096
    ·rw[show A8 (d.getD k Ab.zero).2.1 1 4096=true from(NI _ _ _).trans (Aw1 h2)];simp only[Bool.not_true,Axb];refine Aq.bind (P:=λt=>(t=.inl ()/\¬∀j,j<k->(TE d j).1≠(TE d k).1)\/(t=.inr ()/\∀j,j<k->(TE d j).1≠(TE d k).1)) ?_ λt ht=>?_
     ·unfold Ob;refine Bd (λj (_:Unit)=>(j:Int)) k (λj _=>∀i,i<j->(TE d i).1≠(TE d k).1) (λj _ hj hJ=>?_) (λ_ hJ=>?_) (s0:=()) (λi h=>by omega)
      ·unfold Gm I3;rw[EE hj,Axc,if_pos (rng (by omega)),if_pos (rng hk),AwX,AwX];show Aq (bif strEq (TE d j).1 (TE d k).1 then _ else _) _;cases he:strEq (TE d j).1 (TE d k).1 with
       | true=>exact Aq.mk (.inl ⟨rfl,λh=>h j hj ((Qy _ _).1 he)⟩)
       | false =>
        rw[Axb,AY hj (by omega)];refine Aq.mk ⟨(),rfl,λi hi=>?_⟩;rcases Aw7 i j with h' | h'
        ·exact hJ i h'
        ·rw[show i=j by omega];intro e;rw[(Qy _ _).2 e] at he;cases he
      ·unfold Gm I3;rw[Ff,Axb];exact Aq.mk (.inr ⟨rfl,hJ⟩)
     ·rcases ht with ⟨rfl,h⟩| ⟨rfl,h⟩
      ·exact Aq.mk (.inl ⟨_,rfl,λh'=>h (h' k hk).2.2⟩)
      ·simp only[Sum.elim_inr];rw[AY hk (by omega)];have hb:=WU (by omega) hI;rw[show wI (Tf d k+(d.getD k Ab.zero).2.1)=Tf d (k+1) by
        rw[UO hk];have:(d.getD k Ab.zero).2.1=dw d k:=rfl;rw[this,wrap64 (by omega) (by omega)]]
       refine Aq.mk ⟨(),rfl,λi hi=>?_⟩;rcases Aw7 i k with h' | h'
       ·exact hI i h'
       ·rw[show i=k by omega];exact⟨h1,h2,h⟩
    ·rw[show A8 (d.getD k Ab.zero).2.1 1 4096=false from(NI _ _ _).trans (AwZ h2)];exact Aq.mk (.inl ⟨_,rfl,λh=>h2 (h k hk).2.1⟩)
   ·rw[show r=false by cases r;rfl;exact absurd (hq.1 rfl) h1];exact Aq.mk (.inl ⟨_,rfl,λh=>h1 (h k hk).1⟩)
  ·unfold Gn I4;simp only;rw[Ff,Axb];exact Aq.mk (.inr ⟨rfl,hI⟩)
  ·rcases ht with ⟨x,rfl,h⟩| ⟨rfl,h⟩
   ·exact Aq.mk ⟨λh=>by(cases h),λh'=>absurd h'.2.1 h⟩
   ·refine Aq.mk ⟨λh'=>⟨hl,h,of_decide_eq_true h'⟩,λh'=>Aw1 h'.2.2⟩
 ·rw[Aw1 (by omega:(d.length:Int)>60),Axc];exact Aq.mk ⟨λh=>by(cases h),λh=>absurd h.1 hl⟩
theorem fK{d:Axw}{i:Nat}{name:ByteArray}(hi:i<=d.length)(hl:d.length<=1048576):Aq (Gv ((d.take i).drop 0) name) λr=>0<=r↔∃j,j<i/\(TE d j).1=name:=by
 unfold Gv CX GC;have hlen:(d.take i).length=i:=by rw[List.length_take];omega
 rw[List.drop_zero,hlen];refine Aq.bind (P:=λr=>0<=r.1↔∃j,j<i/\(TE d j).1=name) (Aq.bind (P:=λt=>(∃j:Nat,t=.inl (j:Int)/\j<i/\(TE d j).1=name)\/(t=.inr ()/\∀j,j<i->(TE d j).1≠name)) ?_ λt ht=>?_) λr hr=>Aq.mk hr
 ·refine Bd (λj (_:Unit)=>(j:Int)) i (λj _=>∀k,k<j->(TE d k).1≠name) (λj _ hj hJ=>?_) (λ_ hJ=>?_) (s0:=()) (λi h=>by omega)
  ·unfold BH CB;have hg:(d.take i).getD j Ab.zero=TE d j:=by simp[TE,List.getD,hj]
   rw[EE hj,Axc,hlen,if_pos (rng hj),AwX,hg];unfold Lm;cases he:strEq (TE d j).1 name with
   | true=>exact Aq.mk (.inl ⟨j,rfl,hj,(Qy _ _).1 he⟩)
   | false =>
    rw[Axb,AY hj (by omega)];refine Aq.mk ⟨(),rfl,λk hk=>?_⟩;rcases Aw7 k j with h' | h'
    ·exact hJ k h'
    ·rw[show k=j by omega];intro e;rw[(Qy _ _).2 e] at he;cases he
  ·unfold BH CB;rw[Ff,Axb];exact Aq.mk (.inr ⟨rfl,hJ⟩)
 ·rcases ht with ⟨j,rfl,h1,h2⟩| ⟨rfl,h⟩
  ·exact Aq.mk ⟨λ_=>⟨j,h1,h2⟩,λ_=>by show(0:Int)<=(j:Int);omega⟩
  ·exact Aq.mk ⟨λh'=>absurd (show(0:Int)<=-1 from h') (by omega),λ⟨j,h1,h2⟩=>absurd h2 (h j h1)⟩
theorem aH(d:Axw):Aq (J4 d) λr=>r=true↔AA d:=by
 unfold J4;by_cases hl:d.length<=60
 ·rw[AwZ (by omega:¬(d.length:Int)>60),Axb];unfold N4;refine Aq.bind (P:=λt=>(∃x,t=.inl x/\¬∀i,i<d.length->Vv d i)\/(t=.inr (Tf d d.length)/\∀i,i<d.length->Vv d i)) (Bd (λk (_:Unit)=>(Tf d k,(k:Int))) d.length (λk _=>∀i,i<k->Vv d i) (λk _ hk hI=>?_) (λ_ hI=>?_) (s0:=()) (λi h=>by omega)) λt ht=>?_
  ·unfold FY IP Lk;simp only;rw[EE hk,Axc,if_pos (rng hk),AwX];show Aq (((Ju (TE d k).1).bind _).bind _) _;obtain⟨r,hr,hq⟩:=gZ (TE d k).1;rw[hr,AwW];by_cases h1:dS (TE d k).1
   ·rw[hq.2 h1];simp only[Bool.not_true,Axb];by_cases h2:1<=dw d k/\dw d k<=4096
    ·rw[show Ay (d.getD k Ab.zero).2.1 1 4096=true from(Kj _ _ _).trans (Aw1 h2)];simp only[Bool.not_true,Axb];rw[if_pos ⟨by omega,by omega,by omega⟩];obtain⟨r',hr',hq'⟩:=fK (d:=d) (i:=k) (name:=(TE d k).1) (by omega) (by omega);rw[show Gv ((d.take k).drop 0) (d.getD k Ab.zero).1=some r' from hr',AwW,AwW];by_cases h3:0<=r'
     ·rw[Aw1 (show r'>=0 from h3)];obtain⟨j,hj1,hj2⟩:=hq'.1 h3;exact Aq.mk (.inl ⟨_,rfl,λh=>(h k hk).2.2 j hj1 hj2⟩)
     ·rw[AwZ (show ¬r'>=0 from h3),Axb,AY hk (by omega)];have hb:=WU (by omega) hI;rw[show wI (Tf d k+(d.getD k Ab.zero).2.1)=Tf d (k+1) by
       rw[UO hk];have:(d.getD k Ab.zero).2.1=dw d k:=rfl;rw[this,wrap64 (by omega) (by omega)]]
      refine Aq.mk ⟨(),rfl,λi hi=>?_⟩;rcases Aw7 i k with h' | h'
      ·exact hI i h'
      ·rw[show i=k by omega];exact⟨h1,h2,λj hj e=>h3 (hq'.2 ⟨j,hj,e⟩)⟩
    ·rw[show Ay (d.getD k Ab.zero).2.1 1 4096=false from(Kj _ _ _).trans (AwZ h2)];exact Aq.mk (.inl ⟨_,rfl,λh=>h2 (h k hk).2.1⟩)
   ·rw[show r=false by cases r;rfl;exact absurd (hq.1 rfl) h1];exact Aq.mk (.inl ⟨_,rfl,λh=>h1 (h k hk).1⟩)
  ·unfold FY IP;simp only;rw[Ff,Axb];exact Aq.mk (.inr ⟨rfl,hI⟩)
  ·rcases ht with ⟨x,rfl,h⟩| ⟨rfl,h⟩
   ·exact Aq.mk ⟨λh=>by(cases h),λh'=>absurd h'.2.1 h⟩
   ·refine Aq.mk ⟨λh'=>⟨hl,h,of_decide_eq_true h'⟩,λh'=>Aw1 h'.2.2⟩
 ·rw[Aw1 (by omega:(d.length:Int)>60),Axc];exact Aq.mk ⟨λh=>by(cases h),λh=>absurd h.1 hl⟩
end Go.Proofs.X
