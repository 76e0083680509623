import Derived.Test.YtlohhmmaibiimaaGreatK8
set_option linter.unusedVariables false
set_option linter.unusedSimpArgs false
namespace Go.Proofs.X
open Go Go.Va
set_option maxRecDepth 100000
def aD(c:Int):Prop:=48<=c/\c<=57
def Rx(c:Int):Prop:=97<=c/\c<=122
instance (c:Int):Decidable (aD c):=inferInstanceAs (Decidable (_/\_))
instance (c:Int):Decidable (Rx c):=inferInstanceAs (Decidable (_/\_))
def l7(s:ByteArray):Prop:=1<=s.size/\s.size<=12/\¬aD (CB s 0)/\∀i:Nat,i<s.size->aD (CB s i)\/Rx (CB s i)
theorem dz(c:Int):Mm c=decide (aD c):=(Bool.decide_and _ _).symm
theorem lp{s:ByteArray}{i:Nat}(hi:i<s.size):LF s (i:Int)=some (decide ¬(aD (CB s i)\/Rx (CB s i))):=by
 unfold LF;rw[AHd (Bl hi),AHd (Bl hi),AHd (Bl hi),dz];generalize CB s (i:Int)=c;by_cases h1:aD c
 ·rw[AG0 h1,AGY (p:=¬(aD c\/Rx c)) (λh=>h (.inl h1))];rfl
 ·rw[AGY h1];by_cases h2:c<97
  ·rw[AG0 h2,AG0 (p:=¬(aD c\/Rx c)) (by unfold Rx;rintro(h |h);exact h1 h;omega)];rfl
  ·rw[AGY h2];refine congrArg some (decide_eq_decide.2 ?_);unfold Rx aD at *;omega
theorem kz{s:ByteArray}{i:Nat}(hi:i<s.size):Lm s (i:Int)=some (decide ¬(aD (CB s i)\/Rx (CB s i))):=by
 unfold Lm;simp only[AHd (Bl hi)];generalize CB s (i:Int)=c;by_cases h1:c<97
 ·rw[AG0 h1,AHb];by_cases h2:c<48
  ·rw[AG0 h2,AHb];exact congrArg some (AG0 (by unfold aD Rx;omega)).symm
  ·rw[AGY h2,AHa];exact congrArg some (decide_eq_decide.2 (by unfold aD Rx;omega))
 ·rw[AGY h1,AHa];by_cases h2:c>122
  ·rw[AG0 h2,AHb];by_cases h3:c<48
   ·rw[AG0 h3,AHb];exact congrArg some (AG0 (by unfold aD Rx;omega)).symm
   ·rw[AGY h3,AHa];exact congrArg some (decide_eq_decide.2 (by unfold aD Rx;omega))
  ·rw[AGY h2,AHa];exact congrArg some (AGY (by unfold aD Rx;omega)).symm
theorem pB(s:ByteArray):Ax (LD s) λr=>r=true↔l7 s:=by
 unfold LD Px;by_cases h1:s.size<1
 ·rw[AG0 (by omega:(s.size:Int)<1)];exact Ax.mk ⟨λh=>by(cases h),λh=>absurd h.1 (by omega)⟩
 ·rw[AGY (by omega:¬(s.size:Int)<1),AHa];by_cases h2:s.size>12
  ·rw[AG0 (by omega:(s.size:Int)>12)];exact Ax.mk ⟨λh=>by(cases h),λh=>absurd h.2.1 (by omega)⟩
  ·rw[AGY (by omega:¬(s.size:Int)>12),AHa,AHd ⟨by omega,by omega⟩,AGV,dz];by_cases h3:aD (CB s 0)
   ·rw[AG0 h3];exact Ax.mk ⟨λh=>by(cases h),λh=>absurd h3 h.2.2.1⟩
   ·rw[AGY h3,AHa];refine Ax.bind (P:=λt=>(t=.inl ()/\¬∀i:Nat,i<s.size->aD (CB s i)\/Rx (CB s i))\/(t=.inr ()/\∀i:Nat,i<s.size->aD (CB s i)\/Rx (CB s i))) ?_ λt ht=>?_
    ·unfold SY;refine BJ (λk (_:Unit)=>(k:Int)) s.size (λk _=>∀i:Nat,i<k->aD (CB s i)\/Rx (CB s i)) (λk _ hk hI=>?_) (λ_ hI=>?_) (s0:=()) (λi h=>by omega)
     ·unfold I2 Mp;rw[DN hk,AHb,lp hk,AGV];by_cases h:aD (CB s k)\/Rx (CB s k)
      ·rw[AGY (λhn=>hn h),AHa,Bi hk (by omega)];refine Ax.mk ⟨(),rfl,λi hi=>?_⟩;rcases AG6 i k with h' |h'
       ·exact hI i h'
       ·rw[show i=k by omega];exact h
      ·rw[AG0 h,AHb];exact Ax.mk (.inl ⟨rfl,λh'=>h (h' k hk)⟩)
     ·unfold I2 Mp;rw[EB,AHa];exact Ax.mk (.inr ⟨rfl,hI⟩)
    ·rcases ht with ⟨rfl,h⟩|⟨rfl,h⟩
     ·exact Ax.mk ⟨λh=>by(cases h),λh'=>absurd h'.2.2.2 h⟩
     ·exact Ax.mk ⟨λ_=>⟨by omega,by omega,h3,h⟩,λ_=>rfl⟩
theorem oF(s:ByteArray):Ax (Ll s) λr=>r=true↔l7 s:=by
 unfold Ll O9;by_cases h1:s.size<1
 ·rw[AG0 (by omega:(s.size:Int)<1)];exact Ax.mk ⟨λh=>by(cases h),λh=>absurd h.1 (by omega)⟩
 ·rw[AGY (by omega:¬(s.size:Int)<1),AHa];by_cases h2:s.size>12
  ·rw[AG0 (by omega:(s.size:Int)>12)];exact Ax.mk ⟨λh=>by(cases h),λh=>absurd h.2.1 (by omega)⟩
  ·rw[AGY (by omega:¬(s.size:Int)>12),AHa,AHd ⟨by omega,by omega⟩,AHd ⟨by omega,by omega⟩];by_cases h3:Rx (CB s 0)
   ·have h4:(bif decide (CB s 0<97)then some true else some (decide (CB s 0>122)))=some false:=by
      unfold Rx at h3;rw[AGY (by omega),AHa,AGY (by omega)]
    rw[h4,AGV,AHa];refine Ax.bind (P:=λt=>(t=.inl ()/\¬∀i:Nat,i<s.size->aD (CB s i)\/Rx (CB s i))\/(t=.inr ()/\∀i:Nat,i<s.size->aD (CB s i)\/Rx (CB s i))) ?_ λt ht=>?_
    ·unfold Ss;refine BJ (λk (_:Unit)=>(k:Int)) s.size (λk _=>∀i:Nat,i<k->aD (CB s i)\/Rx (CB s i)) (λk _ hk hI=>?_) (λ_ hI=>?_) (s0:=()) (λi h=>by omega)
     ·unfold II L3;rw[DN hk,AHb,kz hk,AGV];by_cases h:aD (CB s k)\/Rx (CB s k)
      ·rw[AGY (λhn=>hn h),AHa,Bi hk (by omega)];refine Ax.mk ⟨(),rfl,λi hi=>?_⟩;rcases AG6 i k with h' |h'
       ·exact hI i h'
       ·rw[show i=k by omega];exact h
      ·rw[AG0 h,AHb];exact Ax.mk (.inl ⟨rfl,λh'=>h (h' k hk)⟩)
     ·unfold II L3;rw[EB,AHa];exact Ax.mk (.inr ⟨rfl,hI⟩)
    ·rcases ht with ⟨rfl,h⟩|⟨rfl,h⟩
     ·exact Ax.mk ⟨λh=>by(cases h),λh'=>absurd h'.2.2.2 h⟩
     ·refine Ax.mk ⟨λ_=>⟨by omega,by omega,?_,h⟩,λ_=>rfl⟩;unfold Rx at h3;unfold aD;omega
   ·have h4:(bif decide (CB s 0<97)then some true else some (decide (CB s 0>122)))=some true:=by
      unfold Rx at h3;by_cases h5:CB s 0<97
      ·rw[AG0 h5];rfl
      ·rw[AGY h5,AHa,AG0 (by omega)]
    rw[h4,AGV,AHb];refine Ax.mk ⟨λh=>by(cases h),λh=>?_⟩;rcases h.2.2.2 0 (by omega)with h' |h'
    ·exact absurd h' h.2.2.1
    ·exact absurd h' h3
theorem QR(n a b:Int):Bz n a b=decide (a<=n/\n<=b):=by unfold Bz;rw[Bool.decide_and]
theorem Kj(n a b:Int):AK n a b=decide (a<=n/\n<=b):=by unfold AK;rw[Bool.decide_and]
def XX(d:AHY)(i:Nat):AHI:=d.getD i Ad.zero
def dw(d:AHY)(i:Nat):Int:=(XX d i).2.1
def Xv(d:AHY)(k:Nat):Int:=((d.take k).map λx=>x.2.1).sum
theorem Zh{d:AHY}{k:Nat}(h:k<d.length):Xv d (k+1)=Xv d k+dw d k:=by
 unfold Xv;rw[AX h (z :=Ad.zero),List.map_append,List.sum_append];simp[dw,XX]
def ZQ(d:AHY)(i:Nat):Prop:=l7 (XX d i).1/\(1<=dw d i/\dw d i<=4096)/\∀k,k<i->(XX d k).1≠(XX d i).1
def AL(d:AHY):Prop:=d.length<=60/\(∀i,i<d.length->ZQ d i)/\Xv d d.length<=20000
theorem cF{d:AHY}{k:Nat}(hk:k<=d.length)(h:∀i,i<k->ZQ d i):0<=Xv d k/\Xv d k<=4096*k:=by
 induction k with
 |zero=>simp[Xv]
 |succ k ih =>
  rw[Zh (by omega)];have:=ih (by omega) λi hi=>h i (by omega);have:=(h k (by omega)).2.1;omega
theorem UQ(d:AHY):Ax (HK d) λr=>r=true↔AL d:=by
 unfold HK;by_cases hl:d.length<=60
 ·rw[AGY (by omega:¬(d.length:Int)>60),AHa];unfold RD;refine Ax.bind (P:=λt=>(∃x,t=.inl x/\¬∀i,i<d.length->ZQ d i)\/(t=.inr (Xv d d.length)/\∀i,i<d.length->ZQ d i)) (BJ (λk (_:Unit)=>(Xv d k,(k:Int))) d.length (λk _=>∀i,i<k->ZQ d i) (λk _ hk hI=>?_) (λ_ hI=>?_) (s0:=()) (λi h=>by omega)) λt ht=>?_
  ·unfold HM KS NG;simp only;rw[DN hk,AHb,AHd (Bl hk),AGW];show Ax (((LD (XX d k).1).bind _).bind _) _;obtain⟨r,hr,hq⟩:=pB (XX d k).1;rw[hr,AGV];by_cases h1:l7 (XX d k).1
   ·rw[hq.2 h1];simp only[Bool.not_true,AHa];rw[AHd (Bl hk),AHd (Bl hk),AGV];by_cases h2:1<=dw d k/\dw d k<=4096
    ·rw[show Bz (d.getD k Ad.zero).2.1 1 4096=true from(QR _ _ _).trans (AG0 h2)];simp only[Bool.not_true,AHa];refine Ax.bind (P:=λt=>(t=.inl ()/\¬∀j,j<k->(XX d j).1≠(XX d k).1)\/(t=.inr ()/\∀j,j<k->(XX d j).1≠(XX d k).1)) ?_ λt ht=>?_
     ·unfold RB;refine BJ (λj (_:Unit)=>(j:Int)) k (λj _=>∀i,i<j->(XX d i).1≠(XX d k).1) (λj _ hj hJ=>?_) (λ_ hJ=>?_) (s0:=()) (λi h=>by omega)
      ·unfold HL KR;rw[DN hj,AHb,AHd (Bl (by omega)),AHd (Bl hk),AGW,AGW];show Ax (bif Ia (XX d j).1 (XX d k).1 then _ else _) _;cases he:Ia (XX d j).1 (XX d k).1 with
       |true=>exact Ax.mk (.inl ⟨rfl,λh=>h j hj ((Ur _ _).1 he)⟩)
       |false =>
        rw[AHa,Bi hj (by omega)];refine Ax.mk ⟨(),rfl,λi hi=>?_⟩;rcases AG6 i j with h' |h'
        ·exact hJ i h'
        ·rw[show i=j by omega];intro e;rw[(Ur _ _).2 e]at he;cases he
      ·unfold HL KR;rw[EB,AHa];exact Ax.mk (.inr ⟨rfl,hJ⟩)
     ·rcases ht with ⟨rfl,h⟩|⟨rfl,h⟩
      ·exact Ax.mk (.inl ⟨_,rfl,λh'=>h (h' k hk).2.2⟩)
      ·simp only[Sum.elim_inr];rw[Bi hk (by omega)];have hb:=cF (by omega) hI;rw[show wI (Xv d k+(d.getD k Ad.zero).2.1)=Xv d (k+1) by
        rw[Zh hk];have:(d.getD k Ad.zero).2.1=dw d k:=rfl;rw[this,BM (by omega) (by omega)]]
       refine Ax.mk ⟨(),rfl,λi hi=>?_⟩;rcases AG6 i k with h' |h'
       ·exact hI i h'
       ·rw[show i=k by omega];exact⟨h1,h2,h⟩
    ·rw[show Bz (d.getD k Ad.zero).2.1 1 4096=false from(QR _ _ _).trans (AGY h2)];exact Ax.mk (.inl ⟨_,rfl,λh=>h2 (h k hk).2.1⟩)
   ·rw[show r=false by cases r;rfl;exact absurd (hq.1 rfl) h1];exact Ax.mk (.inl ⟨_,rfl,λh=>h1 (h k hk).1⟩)
  ·unfold HM KS;simp only;rw[EB,AHa];exact Ax.mk (.inr ⟨rfl,hI⟩)
  ·rcases ht with ⟨x,rfl,h⟩|⟨rfl,h⟩
   ·exact Ax.mk ⟨λh=>by(cases h),λh'=>absurd h'.2.1 h⟩
   ·refine Ax.mk ⟨λh'=>⟨hl,h,of_decide_eq_true h'⟩,λh'=>AG0 h'.2.2⟩
 ·rw[AG0 (by omega:(d.length:Int)>60),AHb];exact Ax.mk ⟨λh=>by(cases h),λh=>absurd h.1 hl⟩
theorem nq{d:AHY}{i:Nat}{name:ByteArray}(hi:i<=d.length)(hl:d.length<=1048576):Ax (HW ((d.take i).drop 0) name) λr=>0<=r↔∃j,j<i/\(XX d j).1=name:=by
 unfold HW D6 H6;have hlen:(d.take i).length=i:=by rw[AHg];omega
 rw[List.drop_zero,hlen];refine Ax.bind (P:=λr=>0<=r.1↔∃j,j<i/\(XX d j).1=name) (Ax.bind (P:=λt=>(∃j:Nat,t=.inl (j:Int)/\j<i/\(XX d j).1=name)\/(t=.inr ()/\∀j,j<i->(XX d j).1≠name)) ?_ λt ht=>?_) λr hr=>Ax.mk hr
 ·refine BJ (λj (_:Unit)=>(j:Int)) i (λj _=>∀k,k<j->(XX d k).1≠name) (λj _ hj hJ=>?_) (λ_ hJ=>?_) (s0:=()) (λi h=>by omega)
  ·unfold Cu Dp;have hg:(d.take i).getD j Ad.zero=XX d j:=by simp[XX,List.getD,hj]
   rw[DN hj,AHb,hlen,AHd (Bl hj),AGW,hg];unfold Ns;cases he:Ia (XX d j).1 name with
   |true=>exact Ax.mk (.inl ⟨j,rfl,hj,(Ur _ _).1 he⟩)
   |false =>
    rw[AHa,Bi hj (by omega)];refine Ax.mk ⟨(),rfl,λk hk=>?_⟩;rcases AG6 k j with h' |h'
    ·exact hJ k h'
    ·rw[show k=j by omega];intro e;rw[(Ur _ _).2 e]at he;cases he
  ·unfold Cu Dp;rw[EB,AHa];exact Ax.mk (.inr ⟨rfl,hJ⟩)
 ·rcases ht with ⟨j,rfl,h1,h2⟩|⟨rfl,h⟩
  ·exact Ax.mk ⟨λ_=>⟨j,h1,h2⟩,λ_=>by show(0:Int)<=(j:Int);omega⟩
  ·exact Ax.mk ⟨λh'=>absurd (show(0:Int)<=-1 from h') (by omega),λ⟨j,h1,h2⟩=>absurd h2 (h j h1)⟩
theorem Yw(d:AHY):Ax (Jf d) λr=>r=true↔AL d:=by
 unfold Jf;by_cases hl:d.length<=60
 ·rw[AGY (by omega:¬(d.length:Int)>60),AHa];unfold Rp;refine Ax.bind (P:=λt=>(∃x,t=.inl x/\¬∀i,i<d.length->ZQ d i)\/(t=.inr (Xv d d.length)/\∀i,i<d.length->ZQ d i)) (BJ (λk (_:Unit)=>(Xv d k,(k:Int))) d.length (λk _=>∀i,i<k->ZQ d i) (λk _ hk hI=>?_) (λ_ hI=>?_) (s0:=()) (λi h=>by omega)) λt ht=>?_
  ·unfold Hj KD Nq;simp only;rw[DN hk,AHb,AHd (Bl hk),AGW];show Ax (((Ll (XX d k).1).bind _).bind _) _;obtain⟨r,hr,hq⟩:=oF (XX d k).1;rw[hr,AGV];by_cases h1:l7 (XX d k).1
   ·rw[hq.2 h1];simp only[Bool.not_true,AHa];by_cases h2:1<=dw d k/\dw d k<=4096
    ·rw[show AK (d.getD k Ad.zero).2.1 1 4096=true from(Kj _ _ _).trans (AG0 h2)];simp only[Bool.not_true,AHa];rw[AHd ⟨by omega,by omega,by omega⟩];obtain⟨r',hr',fG⟩:=nq (d:=d) (i:=k) (name:=(XX d k).1) (by omega) (by omega);rw[show HW ((d.take k).drop 0) (d.getD k Ad.zero).1=some r' from hr',AGV,AGV];by_cases h3:0<=r'
     ·rw[AG0 (show r'>=0 from h3)];obtain⟨j,hj1,hj2⟩:=fG.1 h3;exact Ax.mk (.inl ⟨_,rfl,λh=>(h k hk).2.2 j hj1 hj2⟩)
     ·rw[AGY (show ¬r'>=0 from h3),AHa,Bi hk (by omega)];have hb:=cF (by omega) hI;rw[show wI (Xv d k+(d.getD k Ad.zero).2.1)=Xv d (k+1) by
       rw[Zh hk];have:(d.getD k Ad.zero).2.1=dw d k:=rfl;rw[this,BM (by omega) (by omega)]]
      refine Ax.mk ⟨(),rfl,λi hi=>?_⟩;rcases AG6 i k with h' |h'
      ·exact hI i h'
      ·rw[show i=k by omega];exact⟨h1,h2,λj hj e=>h3 (fG.2 ⟨j,hj,e⟩)⟩
    ·rw[show AK (d.getD k Ad.zero).2.1 1 4096=false from(Kj _ _ _).trans (AGY h2)];exact Ax.mk (.inl ⟨_,rfl,λh=>h2 (h k hk).2.1⟩)
   ·rw[show r=false by cases r;rfl;exact absurd (hq.1 rfl) h1];exact Ax.mk (.inl ⟨_,rfl,λh=>h1 (h k hk).1⟩)
  ·unfold Hj KD;simp only;rw[EB,AHa];exact Ax.mk (.inr ⟨rfl,hI⟩)
  ·rcases ht with ⟨x,rfl,h⟩|⟨rfl,h⟩
   ·exact Ax.mk ⟨λh=>by(cases h),λh'=>absurd h'.2.1 h⟩
   ·refine Ax.mk ⟨λh'=>⟨hl,h,of_decide_eq_true h'⟩,λh'=>AG0 h'.2.2⟩
 ·rw[AG0 (by omega:(d.length:Int)>60),AHb];exact Ax.mk ⟨λh=>by(cases h),λh=>absurd h.1 hl⟩
def Bo(n:AHL):Int:=n.1
def G4(n:AHL):Int:=n.2.1
def nA(n:AHL):Int:=n.2.2.1
def nB(n:AHL):Int:=n.2.2.2.1
def nW(n:AHL):Int:=n.2.2.2.2.1.1
def fe(n:AHL):AHT:=n.2.2.2.2.1.2.1
def AE(n:AHL):AHT:=n.2.2.2.2.2.1
def WY(n:AHL):Prop:=(AE n).length<=1048576/\(fe n).length<=1048576/\DU (fe n)
def MO(n:AHL)(i:Nat):Prop:=∀k∈AE n,0<=k/\k<(i:Int)
def NoB(n:AHL):Prop:=nW n=0/\(fe n).length=0
def X2(n:AHL):Prop:=4<=Bo n/\Bo n<=9
instance (n:AHL):Decidable (NoB n):=inferInstanceAs (Decidable (_/\_))
instance (n:AHL):Decidable (X2 n):=inferInstanceAs (Decidable (_/\_))
def Uv(n:AHL):Prop:=(Bo n≠1->G4 n=0)/\(Bo n≠2->NoB n)/\(Bo n≠4->nB n=0)/\(¬X2 n->nA n=0)
def mh(n:AHL):Prop:=∃m:Nat,nW n=(m:Int)/\gm m (fe n)
def Ky(d:AHY)(n:AHL):Prop :=
 (Bo n=1/\(AE n).length=0/\0<=G4 n/\G4 n<(d.length:Int))\/(Bo n=2/\(AE n).length=0/\mh n)\/(Bo n=3/\2<=(AE n).length)\/(4<=Bo n/\Bo n<=9/\(AE n).length=1)
def FF(d:AHY)(n:AHL)(s:Int):Int :=
 if Bo n=1 then dw d (G4 n).toNat else if Bo n=2 then nW n else
 if Bo n=4 then(if 0<=nB n/\nB n<=nA n/\nA n<s then nA n-nB n+1 else -1)else
 if Bo n=5\/Bo n=6 then(if 0<=nA n/\nA n<=4096 then s+nA n else -1)else
 if Bo n=7\/Bo n=8 then(if 0<=nA n/\nA n<=4096 then s else -1)else
 if Bo n=9 then(if 1<=nA n/\nA n<=4096 then s*nA n else -1)else s
def Gf(Bq:AHT)(n:AHL):AHT:=(AE n).map λk=>Bq.getD k.toNat 0
def l8(d:AHY)(Bq:AHT)(n:AHL)(w:Int):Prop :=
 MO n Bq.length/\Uv n/\Ky d n/\w=FF d n (Gf Bq n).sum/\1<=w/\w<=4096
theorem jE{A:Type}(l:List A):((l.length:Int)==0)=decide (l.length=0):=by
 cases h:decide (l.length=0)with
 |true=>have:=of_decide_eq_true h;rw[this];rfl
 |false=>have:=of_decide_eq_false h;exact beq_eq_false_iff_ne.2 (by omega)
theorem RV{a b:Int}:(a !=b)=decide (a≠b):=by
 cases h:decide (a≠b)with
 |true=>exact bne_iff_ne.2 (of_decide_eq_true h)
 |false=>have:=of_decide_eq_false h;simp at this;rw[this];simp
theorem RU{a b:Int}:(a==b)=decide (a=b):=by
 cases h:decide (a=b)with
 |true=>rw[of_decide_eq_true h];simp
 |false=>exact beq_eq_false_iff_ne.2 (of_decide_eq_false h)
theorem iI(n:AHL):Cw n.2.2.2.2.1=decide (NoB n):=by
 have h1:(nW n==0)=decide (nW n=0):=RU;have h2:=jE (fe n);show((nW n==0)&&(((fe n).length:Int)==0))=_;rw[h1,h2];exact(Bool.decide_and _ _).symm
theorem oK(n:AHL):A1 n.1=decide (X2 n):=by
 unfold A1;exact QR _ _ _
theorem pA{d:AHY}{n:AHL}{i:Nat}(hn:WY n)(hi:i<=1048576)(hd:d.length<=1048576):Ax (LG d n (i:Int)) λr=>r=true↔MO n i/\Uv n/\Ky d n:=by
 unfold LG;refine Ax.bind (P:=λt=>(t=.inl ()/\¬MO n i)\/(t=.inr ()/\MO n i)) ?_ λt ht=>?_
 ·unfold SZ;refine BJ (λj (_:Unit)=>(j:Int)) (AE n).length (λj _=>∀k,k<j->0<=(AE n).getD k 0/\(AE n).getD k 0<(i:Int)) (λj _ hj hJ=>?_) (λ_ hJ=>?_) (s0:=()) (λi h=>by omega)
  ·unfold I3 Mq;have hlen:=hn.1;show Ax (bif decide ((j:Int)<((AE n).length:Int))then(if 0<=(j:Int)/\(j:Int)<((AE n).length:Int)then(bif !Bz ((AE n).getD (j:Int).toNat 0) 0 (wI ((i:Int)-1))then _ else _)else none)else _) _;rw[DN hj,AHb,AHd (Bl hj),AGW,BM (x:=(i:Int)-1) (by omega) (by omega),QR];by_cases h:0<=(AE n).getD j 0/\(AE n).getD j 0<(i:Int)
   ·rw[AG0 (by omega)];simp only[Bool.not_true,AHa];rw[Bi hj (by omega)];refine Ax.mk ⟨(),rfl,λk hk=>?_⟩;rcases AG6 k j with h' |h'
    ·exact hJ k h'
    ·rw[show k=j by omega];exact h
   ·rw[AGY (by omega)];exact Ax.mk (.inl ⟨rfl,λhk=>h (hk _ (AG hj))⟩)
  ·unfold I3 Mq;show Ax (bif decide (((AE n).length:Int)<((AE n).length:Int))then _ else _) _;rw[EB,AHa];refine Ax.mk (.inr ⟨rfl,λk hk=>?_⟩);obtain⟨m,hm,rfl⟩:=List.getElem_of_mem hk;have:=hJ m hm;rwa [show(AE n).getD m 0=(AE n)[m] by simp[List.getD,hm]]at this
 ·rcases ht with ⟨rfl,h⟩|⟨rfl,h⟩
  ·exact Ax.mk ⟨λh=>by(cases h),λh'=>absurd h'.1 h⟩
  ·refine Ax.bind (P:=λt=>(t=.inl ()/\¬Uv n)\/(t=.inr ()/\Uv n)) ?_ λt ht=>?_
   ·unfold Py P2;have hb:=iI n;have h1:=oK n;have e1:∀x:Int,(n.1 !=x)=decide (Bo n≠x):=λx=>RV;have e2:(n.2.1 !=(0:Int))=decide (G4 n≠0):=RV;have e3:(n.2.2.2.1 !=(0:Int))=decide (nB n≠0):=RV;have e4:(n.2.2.1 !=(0:Int))=decide (nA n≠0):=RV;rw[hb,h1,e1,e1,e1,e2,e3,e4];unfold Uv;by_cases a1:Bo n=1<;>by_cases a2:Bo n=2<;>by_cases a3:Bo n=4<;>by_cases a4:X2 n<;>by_cases a5:G4 n=0<;>by_cases a6:NoB n<;>by_cases a7:nB n=0<;>by_cases a8:nA n=0 <;>
     first |(exfalso;omega)|(simp[a1,a2,a3,a4,a5,a6,a7,a8,Rc];done)
   ·rcases ht with ⟨rfl,h2⟩|⟨rfl,h2⟩
    ·exact Ax.mk ⟨λh=>by(cases h),λh'=>absurd h'.2.1 h2⟩
    ·have hk:=hn.1;have e1:∀x:Int,(n.1==x)=decide (Bo n=x):=λx=>RU;have e2:((n.2.2.2.2.2.1.length:Int)==0)=decide ((AE n).length=0):=jE (AE n);have e3:((n.2.2.2.2.2.1.length:Int)==1)=decide ((AE n).length=1):=by
      show(((AE n).length:Int)==1)=_;rw[RU,decide_eq_decide];omega
     have e4:decide ((n.2.2.2.2.2.1.length:Int)>=2)=decide (2<=(AE n).length):=by
      show decide (((AE n).length:Int)>=2)=_;rw[decide_eq_decide];omega
     have e5:Bz n.2.1 0 (wI ((d.length:Int)-1))=decide (0<=G4 n/\G4 n<(d.length:Int)):=by
      rw[QR,BM (x:=(d.length:Int)-1) (by omega) (by omega),decide_eq_decide];show 0<=G4 n/\G4 n<=(d.length:Int)-1↔_;omega
     obtain⟨r,hr,hq⟩:=gb (w:=nW n) hn.2.2 hn.2.1;have e6:Ly n.2.2.2.2.1=some r:=hr;have hv:mh n↔r=true:=hq.symm;have h1:=oK n;simp only[Sum.elim_inr];rw[e1,e1,e1,e2,e3,e4,e5,e6,h1];unfold Ky;rw[show(4<=Bo n/\Bo n<=9/\(AE n).length=1)=(X2 n/\(AE n).length=1)from propext and_assoc.symm,hv];have VW:X2 n↔4<=Bo n/\Bo n<=9:=Iff.rfl;by_cases a1:Bo n=1
     ·have a4:¬X2 n:=by rw[VW];omega
      by_cases a5:(AE n).length=0
      ·simp[a1,a4,a5,h,h2,Rc]
      ·simp[a1,a4,a5,h,h2,Rc]
     ·by_cases a2:Bo n=2
      ·have a4:¬X2 n:=by rw[VW];omega
       by_cases a5:(AE n).length=0
       ·simp[a2,a4,a5,h,h2,Rc]
       ·simp[a2,a4,a5,h,h2,Rc]
      ·by_cases a3:Bo n=3
       ·have a4:¬X2 n:=by rw[VW];omega
        simp[a3,a4,h,h2,Rc]
       ·by_cases a4:X2 n
        ·simp[a1,a2,a3,a4,h,h2,Rc]
        ·simp[a1,a2,a3,a4,h,h2,Rc]
def P5(Bq:AHT)(n:AHL):Int:=(Gf Bq n).sum
def bU(Bq:AHT):Prop:=Bq.length<=1048576/\∀w∈Bq,1<=w/\w<=4096
theorem eV{Bq:AHT}(h:bU Bq){k:Int}(hk:0<=k/\k<(Bq.length:Int)):1<=Bq.getD k.toNat 0/\Bq.getD k.toNat 0<=4096:=h.2 _ (AG (by omega))
theorem Zw{Bq:AHT}{n:AHL}{k:Nat}(hk:k<(AE n).length):((Gf Bq n).take (k+1)).sum=((Gf Bq n).take k).sum+Bq.getD ((AE n).getD k 0).toNat 0:=by
 have hl:k<(Gf Bq n).length:=by unfold Gf;rw[AG7];exact hk
 rw[AX hl (z:=0),List.sum_append];unfold Gf;rw[Iy (λk=>Bq.getD k.toNat 0) hk (y:=0)];simp
theorem XI{Bq:AHT}{n:AHL}(hw:bU Bq)(Fx:MO n Bq.length):∀k,k<=(AE n).length->(k:Int)<=((Gf Bq n).take k).sum/\((Gf Bq n).take k).sum<=4096*k:=by
 intro k;induction k with
 |zero=>simp
 |succ k ih =>
  intro hk;rw[Zw (by omega)];have:=ih (by omega);have:=eV hw (Fx _ (AG (z:=0) (show k<(AE n).length by omega)));omega
theorem im(Bq:AHT)(n:AHL):(Gf Bq n).take (AE n).length=Gf Bq n:=AG5 (by unfold Gf;rw[AG7];exact AG1 _)
theorem UT{Bq:AHT}{n:AHL}(hw:bU Bq)(Fx:MO n Bq.length):((AE n).length:Int)<=P5 Bq n/\P5 Bq n<=4096*(AE n).length:=by
 have:=XI hw Fx _ (AG1 _);rw[im]at this;exact this
theorem pH{d:AHY}{Bq:AHT}{n:AHL}(hn:WY n)(hw:bU Bq)(Fx:MO n Bq.length)(hf:Ky d n):Ax (LH d n Bq) λr=>r=FF d n (min 8192 (P5 Bq n)):=by
 unfold LH;have hlen:=hn.1;refine Ax.bind (P:=λt=>t=min 8192 (P5 Bq n)) ?_ λt ht=>?_
 ·unfold S3;have h0:min 8192 (((Gf Bq n).take 0).sum)=0:=rfl;have:=BJ (f:=Gh d Bq n) (λk (_:Unit)=>(min 8192 (((Gf Bq n).take k).sum),(k:Int))) (AE n).length (λ_ _=>True) (Q:=λt=>t=min 8192 (P5 Bq n)) (λk _ hk _=>?_) (λ_ _=>?_) (s0:=()) trivial
  ·rw[h0]at this;exact this
  ·unfold Gh Mr;have Abm:=Fx _ (AG (z:=0) hk);have hb:=XI hw Fx k (by omega);have hwk:=eV hw Abm;show Ax (bif decide ((k:Int)<((AE n).length:Int))then(if 0<=(k:Int)/\(k:Int)<((AE n).length:Int)then(if 0<=(AE n).getD (k:Int).toNat 0/\(AE n).getD (k:Int).toNat 0<(Bq.length:Int)then some (Sum.inl (if wI (min 8192 (((Gf Bq n).take k).sum)+Bq.getD ((AE n).getD (k:Int).toNat 0).toNat 0)<8192 then wI (min 8192 (((Gf Bq n).take k).sum)+Bq.getD ((AE n).getD (k:Int).toNat 0).toNat 0)else 8192,wI ((k:Int)+1)))else none)else none)else _) _;rw[DN hk,AHb,AHd (Bl hk),AGW,AHd Abm,Bi hk (by omega)];refine Ax.mk ⟨(),?_,trivial⟩;rw[BM (by omega) (by omega),Zw hk];refine congrArg (·,((k+1:Nat):Int)) ?_;split<;>omega
  ·unfold Gh Mr;show Ax (bif decide (((AE n).length:Int)<((AE n).length:Int))then _ else _) _;rw[EB,AHa];refine Ax.mk ?_;show min 8192 (((Gf Bq n).take (AE n).length).sum)=_;rw[im];rfl
 ·subst ht;generalize hS:min 8192 (P5 Bq n)=S;have hSb:0<=S/\S<=8192:=by have:=UT hw Fx;omega
  have e1:∀x:Int,(n.1==x)=decide (Bo n=x):=λx=>RU;have e2:Bz n.2.2.1 0 4096=decide (0<=nA n/\nA n<=4096):=QR _ _ _;have e3:Bz n.2.2.1 1 4096=decide (1<=nA n/\nA n<=4096):=QR _ _ _;have e4:(decide (n.2.2.2.1<0)||(decide (n.2.2.1<n.2.2.2.1)||decide (n.2.2.1>=S)))=decide (¬(0<=nB n/\nB n<=nA n/\nA n<S)):=by
   show(decide (nB n<0)||(decide (nA n<nB n)||decide (nA n>=S)))=_;rw[<-Bool.decide_or,<-Bool.decide_or,decide_eq_decide];omega
  unfold Pz FF P2;rw[e1,e1,e1,e1,e1,e1,e1,e1,e2,e3,e4];by_cases a1:Bo n=1
  ·have hv:0<=G4 n/\G4 n<(d.length:Int):=by
     rcases hf with h |h |h |h
     ·exact h.2.2
     ·omega
     ·omega
     ·omega
   rw[AHd a1,AG0 a1,AHb,AHd (show 0<=n.2.1/\n.2.1<(d.length:Int)from hv)];exact Ax.mk rfl
  ·rw[AHe a1,AGY a1,AHa];by_cases a2:Bo n=2
   ·rw[AHd a2,AG0 a2,AHb];exact Ax.mk rfl
   ·rw[AHe a2,AGY a2,AHa];by_cases a4:Bo n=4
    ·rw[AHd a4,AG0 a4,AHb];by_cases h:0<=nB n/\nB n<=nA n/\nA n<S
     ·rw[AHd h,AGY (λhh=>hh h),AHa];refine Ax.mk ?_;show wI (wI (nA n-nB n)+1)=_;rw[BM (x:=nA n-nB n) (by omega) (by omega),BM (by omega) (by omega)]
     ·rw[AHe h,AG0 h,AHb];exact Ax.mk rfl
    ·rw[AHe a4,AGY a4,AHa];by_cases a5:Bo n=5\/Bo n=6
     ·rw[AHd a5];have hc:(bif decide (Bo n=5)then decide (Bo n=5)else decide (Bo n=6))=true:=by
       rcases a5 with h |h
       ·simp[h]
       ·simp[h]
      rw[hc,AHb];by_cases h:0<=nA n/\nA n<=4096
      ·rw[AHd h,AG0 h];refine Ax.mk ?_;show wI (S+nA n)=_;rw[BM (by omega) (by omega)]
      ·rw[AHe h,AGY h];exact Ax.mk rfl
     ·rw[AHe a5];have hc:(bif decide (Bo n=5)then decide (Bo n=5)else decide (Bo n=6))=false:=by
       simp only[not_or]at a5;simp[a5]
      rw[hc,AHa];by_cases a7:Bo n=7\/Bo n=8
      ·rw[AHd a7];have hc:(bif decide (Bo n=7)then decide (Bo n=7)else decide (Bo n=8))=true:=by
        rcases a7 with h |h
        ·simp[h]
        ·simp[h]
       rw[hc,AHb];by_cases h:0<=nA n/\nA n<=4096
       ·rw[AHd h,AG0 h];exact Ax.mk rfl
       ·rw[AHe h,AGY h];exact Ax.mk rfl
      ·rw[AHe a7];have hc:(bif decide (Bo n=7)then decide (Bo n=7)else decide (Bo n=8))=false:=by
        simp only[not_or]at a7;simp[a7]
       rw[hc,AHa];by_cases a9:Bo n=9
       ·rw[AHd a9,AG0 a9,AHb];by_cases h:1<=nA n/\nA n<=4096
        ·rw[AHd h,AG0 h];refine Ax.mk ?_;show wI (S*nA n)=_;have h1:0<=S*nA n:=Int.mul_nonneg hSb.1 (by omega);have h2:S*nA n<=8192*4096:=Int.mul_le_mul hSb.2 h.2 (by omega) (by omega);rw[BM (by omega) (by omega)]
        ·rw[AHe h,AGY h];exact Ax.mk rfl
       ·rw[AHe a9,AGY a9,AHa];exact Ax.mk rfl
theorem Adw{d:AHY}{Bq:AHT}{n:AHL}(hw:bU Bq)(Fx:MO n Bq.length)(hf:Ky d n):FF d n (min 8192 (P5 Bq n))=FF d n (P5 Bq n)\/(4096<FF d n (min 8192 (P5 Bq n))/\4096<FF d n (P5 Bq n)):=by
 have hb:=UT hw Fx;rcases hf with h |h |h |h
 ·left;simp[FF,h.1]
 ·left;simp[FF,h.1]
 ·by_cases hs:P5 Bq n<=8192
  ·left;rw[show min 8192 (P5 Bq n)=P5 Bq n by omega]
  ·right;have e:∀S,FF d n S=S:=λS=>by simp[FF,h.1]
   rw[e,e];omega
 ·left;rw[show min 8192 (P5 Bq n)=P5 Bq n by omega]
instance (n:AHL):Decidable (Uv n):=inferInstanceAs (Decidable (_/\_/\_/\_))
theorem AcA(n:AHL):D8 n=decide (Uv n):=by
 have hb:((n.2.2.2.2.1.1==(0:Int))&&((n.2.2.2.2.1.2.1.length:Int)==0))=decide (NoB n):=iI n;have h1:(decide (n.1>=4)&&decide (n.1<=9))=decide (X2 n):=(Bool.decide_and _ _).symm;have e1:∀x:Int,(n.1 !=x)=decide (Bo n≠x):=λx=>RV;have e0:(n.1==(2:Int))=decide (Bo n=2):=RU;have e2:(n.2.1 !=(0:Int))=decide (G4 n≠0):=RV;have e3:(n.2.2.2.1 !=(0:Int))=decide (nB n≠0):=RV;have e4:(n.2.2.1 !=(0:Int))=decide (nA n≠0):=RV;have hp:decide (Uv n)=decide ((Bo n≠1->G4 n=0)/\(Bo n≠2->NoB n)/\(Bo n≠4->nB n=0)/\(¬X2 n->nA n=0)):=rfl;rw[hp];unfold D8;rw[hb,h1,e1,e1,e0,e2,e3,e4];by_cases a1:Bo n=1<;>by_cases a2:Bo n=2<;>by_cases a3:Bo n=4<;>by_cases a4:X2 n<;>by_cases a5:G4 n=0<;>by_cases a6:NoB n<;>by_cases a7:nB n=0<;>by_cases a8:nA n=0 <;>
  first |(exfalso;omega)|(simp[a1,a2,a3,a4,a5,a6,a7,a8];done)
theorem oI{d:AHY}{Bq:AHT}{n:AHL}(hn:WY n)(hw:bU Bq)(hd:d.length<=1048576)(Fx:MO n Bq.length):Ax (D9 n d (Gf Bq n)) λr=>(Ky d n->r=FF d n (P5 Bq n))/\(¬Ky d n->r=-1):=by
 have hlen:=hn.1;have fE:(Gf Bq n).length=(AE n).length:=by unfold Gf;rw[AG7]
 have hS:=UT hw Fx;have e1:∀x:Int,(n.1==x)=decide (Bo n=x):=λx=>RU;have e2:((((Gf Bq n).length:Nat):Int)==0)=decide ((AE n).length=0):=by rw[jE,fE]
 have e3:((((Gf Bq n).length:Nat):Int) !=1)=decide ((AE n).length≠1):=by rw[RV,decide_eq_decide];omega
 have e4:decide ((((Gf Bq n).length:Nat):Int)>1)=decide (2<=(AE n).length):=by rw[decide_eq_decide];omega
 have e5:AK n.2.1 0 (wI ((d.length:Int)-1))=decide (0<=G4 n/\G4 n<(d.length:Int)):=by
  rw[Kj,BM (x:=(d.length:Int)-1) (by omega) (by omega),decide_eq_decide];show 0<=G4 n/\G4 n<=(d.length:Int)-1↔_;omega
 have e6:AK n.2.2.1 0 4096=decide (0<=nA n/\nA n<=4096):=Kj _ _ _;have e7:AK n.2.2.1 1 4096=decide (1<=nA n/\nA n<=4096):=Kj _ _ _;have VW:X2 n↔4<=Bo n/\Bo n<=9:=Iff.rfl;obtain⟨f,hf⟩:∃f,f=(bif decide ((((Gf Bq n).length:Nat):Int)>0)then(Gf Bq n).getD 0 0 else 0):=⟨_,rfl⟩;have hf1:(AE n).length=1->f=P5 Bq n:=λh=>by
  rw[hf,AG0 (by omega),AHb];unfold P5;obtain⟨x,hx⟩:=List.length_eq_one_iff.1 (show(Gf Bq n).length=1 by omega);rw[hx];simp
 unfold D9 P2;rw[show Fy n d (Gf Bq n)=some f by
  unfold Fy;rw[hf];by_cases h:(AE n).length=0
  ·rw[AGY (by omega)];rfl
  ·rw[AG0 (by omega),AHb,AHb,AHd ⟨by omega,by omega⟩];rfl,AGV,e5,e6,e7]
 rw[e1,e1,e1,e1,e1,e1,e1,e1,e2,e3,e4];have hF:Ky d n↔(Bo n=1/\(AE n).length=0/\0<=G4 n/\G4 n<(d.length:Int))\/(Bo n=2/\(AE n).length=0/\mh n)\/(Bo n=3/\2<=(AE n).length)\/(4<=Bo n/\Bo n<=9/\(AE n).length=1):=Iff.rfl;have Axr:¬Ky d n->Ax (some (-1:Int)) λr=>(Ky d n->r=FF d n (P5 Bq n))/\(¬Ky d n->r=-1):=λh=>Ax.mk ⟨λh'=>absurd h' h,λ_=>rfl⟩;have pos:∀v:Int,Ky d n->v=FF d n (P5 Bq n)->Ax (some v) λr=>(Ky d n->r=FF d n (P5 Bq n))/\(¬Ky d n->r=-1):=λv h e=>Ax.mk ⟨λ_=>e,λh'=>absurd h h'⟩;by_cases c1:Bo n=1/\(AE n).length=0/\(0<=G4 n/\G4 n<(d.length:Int))
 ·rw[<-Bool.decide_and,<-Bool.decide_and,AG0 c1,AHb,AHd (show 0<=n.2.1/\n.2.1<(d.length:Int)from c1.2.2)];exact pos _ (hF.2 (.inl c1)) (by unfold FF;rw[AHd c1.1];rfl)
 ·rw[<-Bool.decide_and,<-Bool.decide_and,AGY c1,AHa];obtain⟨b,c7,fC⟩:∃b,Fz n (Gf Bq n) f=some b/\(b=true↔Bo n=2/\(AE n).length=0/\mh n):=by
   unfold Fz;rw[e1,e2];obtain⟨r,hr,hq⟩:=fK (w:=nW n) hn.2.2 hn.2.1;have e6:Lj n.2.2.2.2.1=some r:=hr;rw[e6];have hq:r=true↔mh n:=hq;by_cases a2:Bo n=2
   ·by_cases a3:(AE n).length=0
    ·rw[AG0 a2,AG0 a3];exact⟨r,rfl,by rw[hq];exact⟨λh=>⟨a2,a3,h⟩,λh=>h.2.2⟩⟩
    ·rw[AG0 a2,AGY a3];exact⟨false,rfl,λh=>by(cases h),λh=>absurd h.2.1 a3⟩
   ·rw[AGY a2];exact⟨false,rfl,λh=>by(cases h),λh=>absurd h.1 a2⟩
  rw[c7,AGV];cases b with
  |true =>
   have c2:=fC.1 rfl;exact pos _ (hF.2 (.inr (.inl c2))) (by unfold FF;rw[AHe (by omega),AHd c2.1];rfl)
  |false =>
   have c2:¬(Bo n=2/\(AE n).length=0/\mh n):=λh=>by have:=fC.2 h;cases this
   rw[AHa,<-Bool.decide_and];by_cases c3:Bo n=3/\2<=(AE n).length
   ·rw[AG0 c3,AHb];unfold MU;have:=AQ (f:=Ch (Gf Bq n) (((Gf Bq n).length:Nat):Int)) (λk=>((((Gf Bq n).take k).sum:Int),(k:Int))) (t:=P5 Bq n) (Gf Bq n).length (λk hk=>by
     unfold Ch GX;rw[fE]at hk;have hb:=XI hw Fx k (by omega);have hwk:=eV hw (Fx _ (AG (z:=0) hk));have hg:(Gf Bq n).getD k 0=Bq.getD ((AE n).getD k 0).toNat 0:=by unfold Gf;exact Iy (λk=>Bq.getD k.toNat 0) hk
     simp only;rw[fE,DN hk,AHb,AHd (Bl hk),AGW,Bi hk (by omega),Zw hk];show some (Sum.inl (wI (((Gf Bq n).take k).sum+(Gf Bq n).getD k 0),_))=_;rw[hg,BM (by omega) (by omega)]) (by
     unfold Ch GX;simp only;rw[EB,AHa,AG5 (AG1 _)];rfl)
    rw[show fix (Ch (Gf Bq n) (((Gf Bq n).length:Nat):Int)) (0,0)=some (P5 Bq n)from this];exact pos _ (hF.2 (.inr (.inr (.inl c3)))) (by unfold FF;simp[c3.1])
   ·rw[AGY c3,AHa];by_cases c4:(AE n).length=1
    ·rw[AGY (λh=>h c4),AHa];have hfS:=hf1 c4;have hSb:0<=f/\f<=4096:=by omega
     have BF:4<=Bo n/\Bo n<=9->Ky d n:=λh=>hF.2 (.inr (.inr (.inr ⟨h.1,h.2,c4⟩)));have e4':(decide (n.2.2.2.1>=0)&&(decide (n.2.2.2.1<=n.2.2.1)&&decide (n.2.2.1<f)))=decide (0<=nB n/\nB n<=nA n/\nA n<f):=by
      show(decide (nB n>=0)&&(decide (nB n<=nA n)&&decide (nA n<f)))=_;rw[<-Bool.decide_and,<-Bool.decide_and]
     rw[e4',<-Bool.decide_and,<-Bool.decide_and,<-Bool.decide_and,<-Bool.decide_and];have ecx:(n.2.2.1:Int)=nA n:=rfl;have ecb:(n.2.2.2.1:Int)=nB n:=rfl;have hw0:∀v,v=FF d n f->v=FF d n (P5 Bq n):=λv h=>by rw[<-hfS];exact h
     by_cases a4:Bo n=4
     ·by_cases h:0<=nB n/\nB n<=nA n/\nA n<f
      ·rw[AG0 ⟨a4,h⟩,AHb];refine pos _ (BF (by omega)) (hw0 _ ?_);show wI (wI (nA n-nB n)+1)=_;rw[BM (x:=nA n-nB n) (by omega) (by omega),BM (by omega) (by omega)];unfold FF;simp[a4,h]
      ·have:∀v:Int,v=-1->v=FF d n f:=λv hv=>by unfold FF;simp[a4,h,hv]
       simp[a4,h];exact pos _ (BF (by omega)) (hw0 _ (this _ rfl))
     ·by_cases a5:Bo n=5\/Bo n=6
      ·by_cases h:0<=nA n/\nA n<=4096
       ·have:(bif decide (Bo n=5)then decide (0<=nA n/\nA n<=4096)else decide (Bo n=6/\0<=nA n/\nA n<=4096))=true:=by
          rcases a5 with h' |h'<;>simp[h',h]
        rw[AGY (by omega),AHa,this,AHb];refine pos _ (BF (by omega)) (hw0 _ ?_);show wI (f+nA n)=_;rw[BM (by omega) (by omega)];unfold FF;rcases a5 with h' |h'<;>simp[h',h]
       ·have:∀v:Int,v=-1->v=FF d n f:=λv hv=>by unfold FF;rcases a5 with h' |h'<;>simp[h',h,hv]
        have h2:=pos _ (BF (by omega)) (hw0 _ (this _ rfl));rcases a5 with h' |h'<;>simp[h',h]<;>exact h2
      ·by_cases a7:Bo n=7\/Bo n=8
       ·by_cases h:0<=nA n/\nA n<=4096
        ·have h2:=pos f (BF (by omega)) (hw0 _ (by unfold FF;rcases a7 with h' |h'<;>simp[h',h]));rcases a7 with h' |h'<;>simp[h',h]<;>exact h2
        ·have:∀v:Int,v=-1->v=FF d n f:=λv hv=>by unfold FF;rcases a7 with h' |h'<;>simp[h',h,hv]
         have h2:=pos _ (BF (by omega)) (hw0 _ (this _ rfl));rcases a7 with h' |h'<;>simp[h',h]<;>exact h2
       ·by_cases a9:Bo n=9
        ·by_cases h:1<=nA n/\nA n<=4096
         ·have h1:0<=f*nA n:=Int.mul_nonneg hSb.1 (by omega);have h2:f*nA n<=4096*4096:=Int.mul_le_mul hSb.2 h.2 (by omega) (by omega);have h3:=pos (wI (f*nA n)) (BF (by omega)) (hw0 _ (by rw[BM (by omega) (by omega)];unfold FF;simp[a9,h]));simp[a9,h];exact h3
         ·have:∀v:Int,v=-1->v=FF d n f:=λv hv=>by unfold FF;simp[a9,h,hv]
          have h2:=pos _ (BF (by omega)) (hw0 _ (this _ rfl));simp[a9,h];exact h2
        ·simp only[not_or]at a5 a7;have h2:=Axr (by rw[hF];omega);simp[a4,a5,a7,a9];exact h2
    ·rw[AG0 c4,AHb];exact Axr (by rw[hF];intro h;rcases h with h |h |h |h;exact c1 h;exact c2 h;exact c3 h;exact c4 h.2.2)
def nd(t:AH1)(i:Nat):AHL:=t.getD i Ag.zero
def fa(d:AHY)(t:AH1)(ws:AHT):Prop:=ws.length<=t.length/\∀j,j<ws.length->l8 d (ws.take j) (nd t j) (ws.getD j 0)
def Y7(t:AH1)(k i:Nat):Prop:=∃j,j<i/\(k:Int)∈AE (nd t j)
def M4(d:AHY)(t:AH1)(ws:AHT):Prop:=1<=t.length/\t.length<=400/\ws.length=t.length/\fa d t ws/\∀k,k+1<t.length->Y7 t k t.length
def Si(t:AH1):Prop:=t.length<=1048576/\∀n∈t,WY n
theorem fa.take{d:AHY}{t:AH1}{ws:AHT}(h:fa d t ws)(i:Nat):fa d t (ws.take i):=by
 have hl:=h.1;refine⟨by rw[AHg];omega,λj hj=>?_⟩;rw[AHg]at hj;have:=h.2 j (by omega);rwa [List.take_take,Nat.min_eq_left (by omega),show(ws.take i).getD j 0=ws.getD j 0 by simp[List.getD,show j<i by omega]]
theorem fa.unique{d:AHY}{t:AH1}{a b:AHT}(ha:fa d t a)(hb:fa d t b)(hl:a.length=b.length):a=b:=by
 have:∀k,k<=a.length->a.take k=b.take k:=by
  intro k;induction k with
  |zero=>simp
  |succ k ih =>
   intro hk;have e:=ih (by omega);have h1:=ha.2 k (by omega);have h2:=hb.2 k (by omega);rw[AX (show k<a.length by omega) (z:=0),AX (show k<b.length by omega) (z:=0),e];rw[e]at h1;rw[h1.2.2.2.1,h2.2.2.2.1]
 have:=this a.length (AG1 _);rwa [AG5 (AG1 _),AG5 (by omega)]at this
theorem fa.Bq{d:AHY}{t:AH1}{ws:AHT}(h:fa d t ws)(hl:t.length<=1048576):bU ws:=by
 refine⟨AHp h.1 hl,λw hw=>?_⟩;obtain⟨j,hj,rfl⟩:=List.getElem_of_mem hw;have:=(h.2 j hj).2.2.2.2;rwa [show ws.getD j 0=ws[j] by simp[List.getD,hj]]at this
theorem fa.snoc{d:AHY}{t:AH1}{ws:AHT}{w:Int}(h:fa d t ws)(hl:ws.length<t.length)(hn:l8 d ws (nd t ws.length) w):fa d t (ws++[w]):=by
 refine⟨by rw[AGZ];exact hl,λj hj=>?_⟩;rw[AGZ]at hj;simp only[List.length_cons,List.length_nil]at hj;rcases AG6 j ws.length with h' |h'
 ·rw[List.take_append_of_le_length (by omega),show(ws++[w]).getD j 0=ws.getD j 0 by simp[List.getD,AHl,h']];exact h.2 j h'
 ·have:j=ws.length:=by omega
  subst this;rw[Zn,List.take_append_of_le_length (AG1 _),AG5 (AG1 _)];exact hn
theorem M4.node{d:AHY}{t:AH1}{ws fh:AHT}(h:M4 d t fh)(hp:fa d t ws)(hl:ws.length<t.length):∃w,l8 d ws (nd t ws.length) w:=by
 have e:ws=fh.take ws.length:=hp.unique (h.2.2.2.1.take _) (by rw[AHg,h.2.2.1];omega);have:=h.2.2.2.1.2 ws.length (by rw[h.2.2.1];exact hl);rw[<-e]at this;exact⟨_,this⟩
theorem wm(Bq:AHT)(n:AHL):B7 (λm=>Bq.getD ((AE n).getD m 0).toNat 0) 0 (AE n).length (AE n).length=Gf Bq n:=by
 refine List.ext_getElem (by simp[B7,Gf]) λi h1 h2=>?_;have:i<(AE n).length:=by simpa [B7]using h1
 simp[B7,Gf,List.getD,this]
theorem UI{l:AHT}{x:Int}:x∈l↔∃m,m<l.length/\l.getD m 0=x:=by
 constructor
 ·intro h;obtain⟨m,hm,rfl⟩:=List.getElem_of_mem h;exact⟨m,hm,by simp[List.getD,hm]⟩
 ·rintro⟨m,hm,rfl⟩
  exact AG hm
theorem W1{l:AHU}{k j:Nat}(hk:k<l.length):(l.set k true).getD j false=if j=k then true else l.getD j false:=by
 by_cases h:j=k
 ·subst h;simp[List.getD,hk]
 ·simp[List.getD,h,show ¬k=j from λe=>h e.symm]
theorem oD{D:AHY}{C E:Int}{t:AHR}{q:AHL}{ws out:AHT}{S7:AHU}{n:AHL}{N:Nat}(hn:WY n)(hl:ws.length<N)(hN:N<=1048576)(ho:out=ws++List.replicate (N-ws.length) 0)(hu:S7.length=N) :
    Ax (Lq D C (ws.length:Int) E t out q (AE n) ((AE n).length:Int) 0 S7 (List.replicate (AE n).length 0)) λr=>(∃x,r=.inl x/\¬MO n ws.length)\/(∃u,r=.inr (Gf ws n,u)/\MO n ws.length/\u.length=N/\∀k:Nat,k<N->(u.getD k false=true↔S7.getD k false=true\/(k:Int)∈AE n)):=by
 unfold Lq;have hlen:=hn.1;have hol:out.length=N:=by rw[ho,AGZ,AHs];omega
 have Td:∀k:Nat,k<ws.length->out.getD k 0=ws.getD k 0:=λk hk=>by rw[ho];simp[List.getD,AHl,hk]
 have:=BJ (f:=Gd D C (ws.length:Int) E t out q (AE n) ((AE n).length:Int)) (λj (u:AHU)=>((j:Int),u,B7 (λm=>ws.getD ((AE n).getD m 0).toNat 0) 0 (AE n).length j)) (AE n).length
  (λj u=>(∀m,m<j->0<=(AE n).getD m 0/\(AE n).getD m 0<(ws.length:Int))/\u.length=N/\∀k:Nat,k<N->(u.getD k false=true↔S7.getD k false=true\/∃m,m<j/\(AE n).getD m 0=(k:Int)))
  (Q:=λr=>(∃x,r=.inl x/\¬MO n ws.length)\/(∃u,r=.inr (Gf ws n,u)/\MO n ws.length/\u.length=N/\∀k:Nat,k<N->(u.getD k false=true↔S7.getD k false=true\/(k:Int)∈AE n))) (λj u hj hI=>?_) (λu hI=>?_) (s0:=S7) ⟨λm hm=>by omega,hu,λk _=>⟨λh=>.inl h,λh=>by rcases h with h |⟨m,hm,_⟩;exact h;omega⟩⟩
 ·rw[Lh]at this;exact this
 ·unfold Gd Mb;simp only;rw[DN hj,AHb,AHd (Bl hj),AGW,Kj,BM (x:=(ws.length:Int)-1) (by omega) (by omega)];show Ax (bif !decide (0<=(AE n).getD j 0/\(AE n).getD j 0<=(ws.length:Int)-1)then _ else _) _;by_cases h:0<=(AE n).getD j 0/\(AE n).getD j 0<=(ws.length:Int)-1
  ·rw[AG0 h];simp only[Bool.not_true,AHa];obtain⟨k,hk⟩:∃k:Nat,(AE n).getD j 0=(k:Int):=⟨((AE n).getD j 0).toNat,by omega⟩;have fE:k<ws.length:=by omega
   rw[show(AE n).getD j AIa.zero=(k:Int)from hk,AGW,AHd ⟨by omega,by rw[hol];omega⟩,AHd ⟨by omega,by rw[hI.2.1];omega⟩,F7,AHd (Bl hj),Bi hj (by omega)];refine Ax.mk ⟨u.set k true,?_,λm hm=>?_,by rw[AG4];exact hI.2.1,λi hi=>?_⟩
   ·rw[<-Ox];have hg:out.getD k AIa.zero=ws.getD ((AE n).getD j 0).toNat 0:=by
     rw[hk,AGW];exact Td k fE
    rw[hg]
   ·rcases AG6 m j with h' |h'
    ·exact hI.1 m h'
    ·rw[show m=j by omega];omega
   ·rw[W1 (by rw[hI.2.1];omega)];by_cases hik:i=k
    ·subst hik;simp only[if_true,true_iff];exact .inr ⟨j,by omega,hk⟩
    ·rw[AHe hik,hI.2.2 i hi];constructor
     ·rintro(h |⟨m,h1,h2⟩)
      ·exact .inl h
      ·exact .inr ⟨m,by omega,h2⟩
     ·rintro(h |⟨m,h1,h2⟩)
      ·exact .inl h
      ·rcases AG6 m j with h' |h'
       ·exact .inr ⟨m,h',h2⟩
       ·have:m=j:=by omega
        subst this;rw[hk]at h2;omega
  ·rw[AGY h];exact Ax.mk (.inl ⟨_,rfl,λhk=>h (by have:=hk _ (AG (z:=0) hj);omega)⟩)
 ·unfold Gd Mb;simp only;rw[EB,AHa];refine Ax.mk (.inr ⟨u,by rw[wm],λk hk=>?_,hI.2.1,λk hk=>?_⟩)
  ·obtain⟨m,hm,rfl⟩:=UI.1 hk;exact hI.1 m hm
  ·rw[hI.2.2 k hk,UI]
theorem ni{u:AHU}(hl:u.length<=1048576):Ax (C9 u false) λr=>r=true↔∃k,k<u.length/\u.getD k false=false:=by
 unfold C9 HG Lx;refine Ax.bind (P:=λr=>0<=r↔∃k,k<u.length/\u.getD k false=false) (Ax.bind (P:=λt=>(∃j:Nat,t=.inl (j:Int)/\j<u.length/\u.getD j false=false)\/(t=.inr ()/\∀j,j<u.length->u.getD j false=true)) ?_ λt ht=>?_) λr hr=>Ax.mk (by rw[decide_eq_true_iff];exact hr)
 ·refine BJ (λj (_:Unit)=>(j:Int)) u.length (λj _=>∀k,k<j->u.getD k false=true) (λj _ hj hJ=>?_) (λ_ hJ=>?_) (s0:=()) (λi h=>by omega)
  ·unfold Dq F0;rw[DN hj,AHb,AHd (Bl hj),AGW];show Ax (bif false==u.getD j false then _ else _) _;cases he:u.getD j false with
   |false=>exact Ax.mk (.inl ⟨j,rfl,hj,he⟩)
   |true =>
    rw[Bi hj (by omega)];refine Ax.mk ⟨(),rfl,λk hk=>?_⟩;rcases AG6 k j with h' |h'
    ·exact hJ k h'
    ·rw[show k=j by omega];exact he
  ·unfold Dq F0;rw[EB,AHa];exact Ax.mk (.inr ⟨rfl,hJ⟩)
 ·rcases ht with ⟨j,rfl,h1,h2⟩|⟨rfl,h⟩
  ·exact Ax.mk ⟨λ_=>⟨j,h1,h2⟩,λ_=>by show(0:Int)<=(j:Int);omega⟩
  ·exact Ax.mk ⟨λh'=>absurd (show(0:Int)<=-1 from h') (by omega),λ⟨j,h1,h2⟩=>by rw[h j h1]at h2;cases h2⟩
theorem fO{d:AHY}{t:AH1}(ht:Si t)(hd:d.length<=1048576):Ax (OH d (t,())) λr=>(r.1=true/\M4 d t r.2)\/(r.1=false/\¬∃ws,M4 d t ws):=by
 unfold OH P2;show Ax (bif decide ((t.length:Int)<1)||decide ((t.length:Int)>400)then _ else _) _;by_cases hl:1<=t.length/\t.length<=400
 ·rw[AGY (by omega),AGY (by omega),Bool.or_false,AHa];rw[show Lp d (t,()) (t.length:Int)=some (List.replicate t.length 0,List.replicate t.length false) by
   unfold Lp;rw[AHd ⟨rfl,by omega,by omega,by omega,by omega⟩,AHd ⟨rfl,by omega,by omega,by omega,by omega⟩,AGW],AGV]
  refine Ax.bind (P:=λr=>(∃x,r=.inl x/\¬∃ws,M4 d t ws)\/(∃ws u,r=.inr (u,ws)/\ws.length=t.length/\fa d t ws/\u.length=t.length/\∀k:Nat,k<t.length->(u.getD k false=true↔Y7 t k t.length))) ?_ λr hr=>?_
  ·unfold Sv;have:=BJ (f:=Ge d (t,()) (t.length:Int) (t.length:Int)) (λi (s:AHT×AHU)=>((i:Int),s.1,s.2)) t.length
    (λi s=>∃ws:AHT,ws.length=i/\fa d t ws/\s.1=ws++List.replicate (t.length-i) 0/\s.2.length=t.length/\∀k:Nat,k<t.length->(s.2.getD k false=true↔Y7 t k i))
    (Q:=λr=>(∃x,r=.inl x/\¬∃ws,M4 d t ws)\/(∃ws u,r=.inr (u,ws)/\ws.length=t.length/\fa d t ws/\u.length=t.length/\∀k:Nat,k<t.length->(u.getD k false=true↔Y7 t k t.length))) (λi s hi hI=>?_) (λs hI=>?_) (s0:=(List.replicate t.length 0,List.replicate t.length false)) ⟨[],rfl,⟨Nat.zero_le _,λj hj=>by simp at hj⟩,rfl,AHs,λk hk=>by
     have h0:(List.replicate t.length false).getD k false=false:=by simp[List.getD,hk]
     constructor
     ·intro h;rw[h0]at h;cases h
     ·rintro⟨j,hj,_⟩;omega⟩
   ·exact this
   ·obtain⟨out,S7⟩:=s;obtain⟨ws,rfl,hp,ho,qh,hu⟩:=hI;simp only at ho qh hu;have hn:WY (nd t ws.length):=ht.2 _ (AG hi);have fE:=hn.1;unfold Ge Mc;simp only;rw[show decide ((ws.length:Int)<(t.length:Int))=true from DN hi,AHb,AHd (Bl hi),AGW];show Ax (bif decide (((AE (nd t ws.length)).length:Int)>4096)then _ else if Ty.row AIa=true/\(0:Int)<=((AE (nd t ws.length)).length:Int)/\((AE (nd t ws.length)).length:Int)<=((AE (nd t ws.length)).length:Int)/\((8:Nat):Int)*((AE (nd t ws.length)).length:Int)<=(281474976710656:Int)/\((AE (nd t ws.length)).length:Int)<=(9223372036854775807:Int)then(Lq d (t.length:Int) (ws.length:Int) (t.length:Int) (t,()) out (nd t ws.length) (AE (nd t ws.length)) ((AE (nd t ws.length)).length:Int) 0 S7 (List.replicate ((AE (nd t ws.length)).length:Int).toNat 0)).bind _ else none) _;by_cases hk4:(AE (nd t ws.length)).length>4096
    ·rw[AG0 (by omega)];refine Ax.mk (.inl ⟨_,rfl,λ⟨fh,h'⟩=>?_⟩);obtain⟨w,hw⟩:=h'.node hp hi;have hb:=UT (hp.Bq ht.1) hw.1;have W3:=hw.2.2.1;have heq:=hw.2.2.2.1;have hw4:=hw.2.2.2.2.2;rcases W3 with h |h |h |h
     ·omega
     ·omega
     ·have:FF d (nd t ws.length) (Gf ws (nd t ws.length)).sum=P5 ws (nd t ws.length):=by unfold P5 FF;simp[h.1]
      omega
     ·omega
    ·rw[AGY (by omega),AHa,AHd ⟨rfl,by omega,by omega,by omega,by omega⟩,AGW];refine Ax.bind (oD hn hi ht.1 ho qh) λr hr=>?_;rcases hr with ⟨x,rfl,h⟩|⟨u,rfl,Fx,AAV,xC⟩
     ·refine Ax.mk (.inl ⟨_,rfl,λ⟨fh,h'⟩=>?_⟩);obtain⟨w,hw⟩:=h'.node hp hi;exact h hw.1
     ·simp only[Sum.elim_inr];obtain⟨r,hr,hq⟩:=oI (d:=d) hn (hp.Bq ht.1) hd Fx;rw[show D9 (t.getD ws.length Ag.zero) d (Gf ws (nd t ws.length))=some r from hr,AGV];have hol:out.length=t.length:=by rw[ho,AGZ,AHs];omega
      rw[AHd ⟨by omega,by rw[hol];omega⟩];unfold Pg;rw[show D8 (t.getD ws.length Ag.zero)=_ from AcA (nd t ws.length),AG4,AHd ⟨by omega,by rw[hol];omega⟩,AGW];have hgs:(out.set ws.length r).getD ws.length AIa.zero=r:=by simp[List.getD,hol,hi]
      rw[hgs,Kj];have F8:out.set ws.length r=(ws++[r])++List.replicate (t.length-(ws.length+1)) 0:=by
       rw[ho,show t.length-ws.length=(t.length-(ws.length+1))+1 by omega,List.replicate_succ];simp
      by_cases om:Uv (nd t ws.length)
      ·by_cases lW:1<=r/\r<=4096
       ·rw[AG0 om,AG0 lW];simp only[Bool.not_true,AHa,AGV];have W3:Ky d (nd t ws.length):=by
         by_cases hf:Ky d (nd t ws.length)
         ·exact hf
         ·have:=hq.2 hf;omega
        have Abw:l8 d ws (nd t ws.length) r:=⟨Fx,om,W3,hq.1 W3,lW⟩;refine Ax.mk ⟨(out.set ws.length r,u),by rw[Bi hi ht.1],ws++[r],by simp,hp.snoc hi Abw,F8,AAV,λk hk=>?_⟩;rw[xC k hk,hu k hk];constructor
        ·rintro(⟨j,h1,h2⟩|h)
         ·exact⟨j,by omega,h2⟩
         ·exact⟨ws.length,by omega,h⟩
        ·rintro⟨j,h1,h2⟩
         rcases AG6 j ws.length with h' |h'
         ·exact .inl ⟨j,h',h2⟩
         ·rw[show j=ws.length by omega]at h2;exact .inr h2
       ·rw[AG0 om,AGY lW];refine Ax.mk (.inl ⟨_,rfl,λ⟨fh,h'⟩=>?_⟩);obtain⟨w,hw⟩:=h'.node hp hi;have:=hq.1 hw.2.2.1;have h3:=hw.2.2.2;unfold P5 at this;rw[<-this]at h3;exact lW (by rw[<-h3.1];exact h3.2)
      ·rw[AGY om];refine Ax.mk (.inl ⟨_,rfl,λ⟨fh,h'⟩=>?_⟩);obtain⟨w,hw⟩:=h'.node hp hi;exact om hw.2.1
   ·obtain⟨out,S7⟩:=s;obtain⟨ws,wh,hp,ho,qh,hu⟩:=hI;simp only at ho qh hu;unfold Ge Mc;simp only;rw[EB,AHa];rw[Nat.sub_self,List.replicate_zero,AHA]at ho;subst ho;exact Ax.mk (.inr ⟨out,S7,rfl,wh,hp,qh,hu⟩)
  ·rcases hr with ⟨x,rfl,h⟩|⟨ws,u,rfl,wh,hp,qh,hu⟩
   ·exact Ax.mk (.inr ⟨rfl,h⟩)
   ·simp only[Sum.elim_inr];have e1:wI ((t.length:Int)-1)=((t.length-1:Nat):Int):=A2 (by omega) (by omega);rw[e1,AHd ⟨by omega,by omega,by rw[qh];omega⟩,AGW,List.drop_zero];have htl:(u.take (t.length-1)).length=t.length-1:=by rw[AHg];omega
    have xA:∀k,k<t.length-1->(u.take (t.length-1)).getD k false=u.getD k false:=λk hk=>by simp[List.getD,hk]
    refine Ax.bind (ni (by omega)) λr hr=>Ax.mk ?_;rw[htl]at hr;cases r with
    |false =>
     refine .inl ⟨rfl,hl.1,hl.2,wh,hp,λk hk=>(hu k (by omega)).1 ?_⟩;cases hc:u.getD k false with
     |true=>rfl
     |false=>have:=hr.2 ⟨k,by omega,by rw[xA k (by omega)];exact hc⟩;cases this
    |true =>
     obtain⟨k,hk,hf⟩:=hr.1 rfl;rw[xA k hk]at hf;refine .inr ⟨rfl,λ⟨fh,h'⟩=>?_⟩;have:=(hu k (by omega)).2 (h'.2.2.2.2 k (by omega));rw[this]at hf;cases hf
 ·have hc:(decide ((t.length:Int)<1)||decide ((t.length:Int)>400))=true:=by simp;omega
  rw[hc];exact Ax.mk (.inr ⟨rfl,λ⟨ws,h⟩=>hl ⟨h.1,h.2.1⟩⟩)
theorem pF{D:AHY}{W:AHT}{t:AH1}{i:Nat}{S7:AHU}(hi:i<t.length)(hn:WY (nd t i))(Fx:MO (nd t i) S7.length) :
    Ax (Ms D (i:Int) (t,()) W 0 S7) λu=>u.length=S7.length/\∀k:Nat,k<S7.length->(u.getD k false=true↔S7.getD k false=true\/(k:Int)∈AE (nd t i)):=by
 unfold Ms;have hlen:=hn.1;refine BJ (λj (u:AHU)=>((j:Int),u)) (AE (nd t i)).length (λj u=>u.length=S7.length/\∀k:Nat,k<S7.length->(u.getD k false=true↔S7.getD k false=true\/∃m,m<j/\(AE (nd t i)).getD m 0=(k:Int))) (λj u hj hI=>?_) (λu hI=>?_) (s0:=S7) ⟨rfl,λk _=>⟨λh=>.inl h,λh=>by rcases h with h |⟨m,hm,_⟩;exact h;omega⟩⟩
 ·unfold GM JH;simp only;rw[AHd (Bl hi),AGW,AHd (Bl hi),AGW];show Ax (bif decide ((j:Int)<((AE (nd t i)).length:Int))then(if(0:Int)<=(j:Int)/\(j:Int)<((AE (nd t i)).length:Int)then(if(0:Int)<=(AE (nd t i)).getD j 0/\(AE (nd t i)).getD j 0<(u.length:Int)then some (Sum.inl (wI ((j:Int)+1),u.set ((AE (nd t i)).getD j 0).toNat true))else none)else none)else _) _;have Abm:=Fx _ (AG (z:=0) hj);rw[DN hj,AHb,AHd (Bl hj),AHd ⟨Abm.1,by rw[hI.1];exact Abm.2⟩,Bi hj (by omega)];obtain⟨k,hk⟩:∃k:Nat,(AE (nd t i)).getD j 0=(k:Int):=⟨((AE (nd t i)).getD j 0).toNat,by omega⟩;rw[hk,AGW];refine Ax.mk ⟨_,rfl,by rw[AG4];exact hI.1,λi' rB=>?_⟩;rw[W1 (by rw[hI.1];omega)];by_cases hik:i'=k
  ·subst hik;simp only[if_true,true_iff];exact .inr ⟨j,by omega,hk⟩
  ·rw[AHe hik,hI.2 i' rB];constructor
   ·rintro(h |⟨m,h1,h2⟩)
    ·exact .inl h
    ·exact .inr ⟨m,by omega,h2⟩
   ·rintro(h |⟨m,h1,h2⟩)
    ·exact .inl h
    ·rcases AG6 m j with h' |h'
     ·exact .inr ⟨m,h',h2⟩
     ·have:m=j:=by omega
      subst this;rw[hk]at h2;omega
 ·unfold GM JH;simp only;rw[AHd (Bl hi),AGW];show Ax (bif decide (((AE (nd t i)).length:Int)<((AE (nd t i)).length:Int))then _ else some (Sum.inr u)) _;rw[EB,AHa];refine Ax.mk ⟨hI.1,λk hk=>?_⟩;rw[hI.2 k hk,UI]
theorem gi{d:AHY}{t:AH1}(ht:Si t)(hd:d.length<=1048576):Ax (Kp d (t,())) λr=>(AL d/\M4 d t r)\/(r=[]/\¬(AL d/\∃ws,M4 d t ws)):=by
 unfold Kp;have htb:=ht.1;obtain⟨b,c7,fC⟩:∃b,I4 d (t,())=some b/\(b=false↔AL d/\1<=t.length/\t.length<=400):=by
  obtain⟨r,hr,hq⟩:=UQ d;unfold I4;rw[hr,AGV];show ∃b,(bif !r then some true else bif decide ((t.length:Int)<1)then some true else some (decide ((t.length:Int)>400)))=some b/\_;cases r with
  |false=>exact⟨true,rfl,λh=>by(cases h),λh=>by have:=hq.2 h.1;cases this⟩
  |true =>
   have aE:=hq.1 rfl;by_cases h1:(t.length:Int)<1
   ·rw[AG0 h1];exact⟨true,rfl,λh=>by(cases h),λh=>by omega⟩
   ·rw[AGY h1];refine⟨_,rfl,?_⟩;rw[decide_eq_false_iff_not];exact⟨λh=>⟨aE,by omega,by omega⟩,λh=>by omega⟩
 rw[c7,AGV];cases b with
 |true =>
  refine Ax.mk (.inr ⟨rfl,λh=>?_⟩);obtain⟨h1,ws,h2⟩:=h;have:=fC.2 ⟨h1,h2.1,h2.2.1⟩;cases this
 |false =>
  obtain⟨aE,R9,YX⟩:=fC.1 rfl;rw[AHa];show Ax (if Ty.row .bool=true/\(0:Int)<=(t.length:Int)/\(t.length:Int)<=(t.length:Int)/\((1:Nat):Int)*(t.length:Int)<=(281474976710656:Int)/\(t.length:Int)<=(9223372036854775807:Int)then(Mt d (t,()) 0 [] (List.replicate (t.length:Int).toNat false)).bind _ else none) _;rw[AHd ⟨rfl,by omega,by omega,by omega,by omega⟩,AGW];refine Ax.bind (P:=λr=>(∃x,r=.inl x/\¬∃ws,M4 d t ws)\/(∃ws u,r=.inr (u,ws)/\ws.length=t.length/\fa d t ws/\u.length=t.length/\∀k:Nat,k<t.length->(u.getD k false=true↔Y7 t k t.length))) ?_ λr hr=>?_
  ·unfold Mt;refine BJ (λi (s:AHT×AHU)=>((i:Int),s.1,s.2)) t.length
    (λi s=>s.1.length=i/\fa d t s.1/\s.2.length=t.length/\∀k:Nat,k<t.length->(s.2.getD k false=true↔Y7 t k i))
    (λi s hi hI=>?_) (λs hI=>?_) (s0:=(([]:AHT),List.replicate t.length false)) ⟨rfl,⟨Nat.zero_le _,λj hj=>by simp at hj⟩,AHs,λk hk=>by
     have h0:(List.replicate t.length false).getD k false=false:=by simp[List.getD,hk]
     constructor
     ·intro h;rw[h0]at h;cases h
     ·rintro⟨j,hj,_⟩;omega⟩
   ·obtain⟨ws,S7⟩:=s;obtain⟨wh,hp,qh,hu⟩:=hI;simp only at wh hp qh hu;subst wh;have hn:WY (nd t ws.length):=ht.2 _ (AG hi);unfold GN JI;simp only;rw[show decide ((ws.length:Int)<(t.length:Int))=true from DN hi,AHb,AHd (Bl hi),AGW];obtain⟨r,hr,hq⟩:=pA (d:=d) (i:=ws.length) hn (by omega) hd;rw[show LG d (t.getD ws.length Ag.zero) (ws.length:Int)=some r from hr,AGV];cases r with
    |false =>
     refine Ax.mk (.inl ⟨_,rfl,λ⟨fh,h'⟩=>?_⟩);obtain⟨w,hw⟩:=h'.node hp hi;have:=hq.2 ⟨hw.1,hw.2.1,hw.2.2.1⟩;cases this
    |true =>
     obtain⟨Fx,om,W3⟩:=hq.1 rfl;simp only[Bool.not_true,AHa];rw[AHd (Bl hi)];have hwb:=hp.Bq htb;obtain⟨w,hw,hwe⟩:=pH (d:=d) hn hwb Fx W3;rw[show LH d (t.getD ws.length Ag.zero) ws=some w from hw,AGV,QR];have AgC:=Adw hwb Fx W3;by_cases lW:1<=w/\w<=4096
     ·rw[AG0 lW];simp only[Bool.not_true,AHa];have Abw:l8 d ws (nd t ws.length) w:=⟨Fx,om,W3,by
       rcases AgC with h |h
       ·rw[hwe,h];rfl
       ·omega,lW⟩
      rw[AHd (by show(_+1)*8<=_;omega)];refine Ax.bind (pF hi hn (by rw[qh];exact λk hk=>by have:=Fx k hk;omega)) λu xC=>Ax.mk ⟨(ws++[w],u),by rw[Bi hi htb],by simp,hp.snoc hi Abw,xC.1.trans qh,λk hk=>?_⟩;rw[xC.2 k (by omega),hu k hk];constructor
      ·rintro(⟨j,h1,h2⟩|h)
       ·exact⟨j,by omega,h2⟩
       ·exact⟨ws.length,by omega,h⟩
      ·rintro⟨j,h1,h2⟩
       rcases AG6 j ws.length with h' |h'
       ·exact .inl ⟨j,h',h2⟩
       ·rw[show j=ws.length by omega]at h2;exact .inr h2
     ·rw[AGY lW];refine Ax.mk (.inl ⟨_,rfl,λ⟨fh,h'⟩=>?_⟩);obtain⟨v,hv⟩:=h'.node hp hi;have h3:=hv.2.2.2;have e:(Gf ws (nd t ws.length)).sum=P5 ws (nd t ws.length):=rfl;rw[e]at h3;rcases AgC with h |h
      ·rw[hwe,h]at lW;exact lW (by rw[<-h3.1];exact h3.2)
      ·omega
   ·obtain⟨ws,S7⟩:=s;obtain⟨wh,hp,qh,hu⟩:=hI;unfold GN JI;simp only;rw[EB,AHa];exact Ax.mk (.inr ⟨ws,S7,rfl,wh,hp,qh,hu⟩)
  ·rcases hr with ⟨x,rfl,h⟩|⟨ws,u,rfl,wh,hp,qh,hu⟩
   ·exact Ax.mk (.inr ⟨rfl,λhh=>h hh.2⟩)
   ·simp only[Sum.elim_inr];refine Ax.bind (P:=λr=>(r=.inl ()/\¬∀k,k+1<t.length->u.getD k false=true)\/(r=.inr ()/\∀k,k+1<t.length->u.getD k false=true)) ?_ λr hr=>?_
    ·unfold QB;refine BJ (λj (_:Unit)=>(j:Int)) (t.length-1) (λj _=>∀k,k<j->u.getD k false=true) (λj _ hj hJ=>?_) (λ_ hJ=>?_) (s0:=()) (λi h=>by omega)
     ·unfold GQ JJ;rw[Bi (show j<t.length by omega) htb,qh,show decide (((j+1:Nat):Int)<(t.length:Int))=true from AG0 (by omega),AHb,AHd (Bl (by omega)),AGW];show Ax (bif !(u.getD j false)then _ else _) _;cases hc:u.getD j false with
      |false=>exact Ax.mk (.inl ⟨rfl,λh=>by rw[h j (by omega)]at hc;cases hc⟩)
      |true =>
       refine Ax.mk ⟨(),rfl,λk hk=>?_⟩;rcases AG6 k j with h' |h'
       ·exact hJ k h'
       ·rw[show k=j by omega];exact hc
     ·unfold GQ JJ;rw[show wI (((t.length-1:Nat):Int)+1)=(t.length:Int)from A2 (by omega) (by omega),qh,EB,AHa];exact Ax.mk (.inr ⟨rfl,λk hk=>hJ k (by omega)⟩)
    ·rcases hr with ⟨rfl,h⟩|⟨rfl,h⟩
     ·exact Ax.mk (.inr ⟨rfl,λ⟨_,fh,h'⟩=>h λk hk=>(hu k (by omega)).2 (h'.2.2.2.2 k hk)⟩)
     ·exact Ax.mk (.inl ⟨aE,R9,YX,wh,hp,λk hk=>(hu k (by omega)).1 (h k hk)⟩)
open Classical in
noncomputable def F6(d:AHY)(t:AH1):Int:=if h:∃ws,M4 d t ws then h.choose.getD (t.length-1) 0 else -1
theorem Wh{d:AHY}{t:AH1}{ws:AHT}(h:M4 d t ws):F6 d t=ws.getD (t.length-1) 0:=by
 have he:∃ws,M4 d t ws:=⟨ws,h⟩;unfold F6;rw[dif_pos he];have h1:=he.choose_spec;rw[h1.2.2.2.1.unique h.2.2.2.1 (by rw[h1.2.2.1,h.2.2.1])]
theorem UV{d:AHY}{t:AH1}(h:¬∃ws,M4 d t ws):F6 d t=-1:=by
 unfold F6;rw[dif_neg h]
theorem xo{d:AHY}{t:AH1}{ws:AHT}(h:M4 d t ws):1<=F6 d t/\F6 d t<=4096:=by
 rw[Wh h];have:=h.1;exact(h.2.2.2.1.2 (t.length-1) (by rw[h.2.2.1];omega)).2.2.2.2
theorem O5{d:AHY}{t:AH1}(ht:Si t)(hd:d.length<=1048576):Dl d (t,())=some (F6 d t):=by
 unfold Dl;refine Ax.eq_ (Ax.bind (fO ht hd) λr hr=>?_);rcases hr with ⟨h1,h2⟩|⟨h1,h2⟩
 ·rw[h1];simp only[Bool.not_true,AHa];have:=h2.1;have hb:=ht.1;rw[h2.2.2.1,show wI ((t.length:Int)-1)=((t.length-1:Nat):Int)from A2 (by omega) (by omega),AHd ⟨by omega,by omega⟩,AGW];exact Ax.mk (Wh h2).symm
 ·rw[h1];exact Ax.mk (UV h2).symm
theorem SR{d:AHY}{t:AH1}(ht:Si t)(hd:d.length<=1048576)(aE:AL d):Du d (t,())=some (F6 d t):=by
 unfold Du;refine Ax.eq_ (Ax.bind (gi ht hd) λr hr=>?_);rcases hr with ⟨_,h2⟩|⟨rfl,h2⟩
 ·have:=h2.1;have hb:=ht.1;rw[h2.2.2.1,RU,AGY (by omega),AHa,show wI ((t.length:Int)-1)=((t.length-1:Nat):Int)from A2 (by omega) (by omega),AHd ⟨by omega,by omega⟩,AGW];exact Ax.mk (Wh h2).symm
 ·exact Ax.mk (UV λh=>h2 ⟨aE,h⟩).symm
def li(l:AH0)(i:Nat):AHK:=l.getD i Af.zero
def XY(l:AH0)(i:Nat):Int:=(li l i).1
def lS(l:AH0)(i:Nat):AH1:=(li l i).2.2.1.1
def lT(l:AH0)(i:Nat):AH1:=(li l i).2.2.2.1.1
def TX(d:AHY)(l:AH0)(i:Nat):Prop:=(1<=XY l i/\XY l i<=1000000)/\(0<i->XY l (i-1)<XY l i)/\0<=F6 d (lS l i)/\F6 d (lT l i)=F6 d (lS l i)
def ML(d:AHY)(l:AH0):Prop:=l.length<=60/\∀i,i<l.length->TX d l i
def Tc(x:AHK):Prop:=Si x.2.2.1.1/\Si x.2.2.2.1.1
theorem Wd{d:AHY}{l:AH0}(hl:∀x∈l,Tc x):Ax (DZ d l) λr=>r=true↔AL d/\ML d l:=by
 unfold DZ;obtain⟨b,c7,fC⟩:∃b,GJ d l=some b/\(b=false↔AL d/\l.length<=60):=by
  obtain⟨r,hr,hq⟩:=UQ d;unfold GJ;rw[hr,AGV];cases r with
  |false=>exact⟨true,rfl,λh=>by(cases h),λh=>by have:=hq.2 h.1;cases this⟩
  |true =>
   have aE:=hq.1 rfl;refine⟨decide ((l.length:Int)>60),rfl,?_⟩;rw[decide_eq_false_iff_not];exact⟨λh=>⟨aE,by omega⟩,λh=>by omega⟩
 rw[c7,AGV];cases b with
 |true=>exact Ax.mk ⟨λh=>by(cases h),λh=>by have:=fC.2 ⟨h.1,h.2.1⟩;cases this⟩
 |false =>
  obtain⟨aE,hlen⟩:=fC.1 rfl;have hd:=aE.1;rw[AHa];refine Ax.bind (P:=λt=>(t=.inl ()/\¬∀i,i<l.length->TX d l i)\/(t=.inr ()/\∀i,i<l.length->TX d l i)) ?_ λt ht=>?_
  ·unfold On;refine BJ (λj (_:Unit)=>(j:Int)) l.length (λj _=>∀k,k<j->TX d l k) (λj _ hj hJ=>?_) (λ_ hJ=>?_) (s0:=()) (λi h=>by omega)
   ·unfold EJ HN;have hB:=hl _ (AG (z :=Af.zero) hj);have e1:Du d (l.getD j Af.zero).2.2.1=some (F6 d (lS l j)):=SR hB.1 (by omega) aE;have e2:Du d (l.getD j Af.zero).2.2.2.1=some (F6 d (lT l j)):=SR hB.2 (by omega) aE;have e3:(l.getD j Af.zero).1=XY l j:=rfl;rw[DN hj,AHb,AHd (Bl hj),AGW,e1,AGV];obtain⟨b,c7,fC⟩:∃b,GK d l (j:Int) (F6 d (lS l j))=some b/\(b=false↔TX d l j):=by
     unfold GK TX;rw[AHd (Bl hj),AHd (Bl hj),AGW,e3,QR,e2,AGV];by_cases h1:1<=XY l j/\XY l j<=1000000
     ·rw[AG0 h1];simp only[Bool.not_true,AHa];have last:∃b,(bif decide (F6 d (lS l j)<0)then some true else some (F6 d (lT l j) !=F6 d (lS l j)))=some b/\(b=false↔0<=F6 d (lS l j)/\F6 d (lT l j)=F6 d (lS l j)):=by
       by_cases h2:F6 d (lS l j)<0
       ·rw[AG0 h2];exact⟨true,rfl,λh=>by(cases h),λh=>by omega⟩
       ·rw[AGY h2,AHa];refine⟨_,rfl,?_⟩;rw[bne_eq_false_iff_eq];exact⟨λh=>⟨by omega,h⟩,λh=>h.2⟩
      obtain⟨b,hb,hq⟩:=last;by_cases h2:0<j
      ·rw[AG0 (show(j:Int)>0 by omega),AHb,show wI ((j:Int)-1)=((j-1:Nat):Int)from A2 (by omega) (by omega),AHd (Bl (by omega)),AGW];have e4:(l.getD (j-1) Af.zero).1=XY l (j-1):=rfl;rw[e4];by_cases h3:XY l j<=XY l (j-1)
       ·rw[AG0 h3];exact⟨true,rfl,λh=>by(cases h),λh=>by have:=h.2.1 h2;omega⟩
       ·rw[AGY h3,AHa,AHd (Bl hj),hb];exact⟨b,rfl,hq.trans ⟨λh=>⟨h1,λ_=>by omega,h⟩,λh=>h.2.2⟩⟩
      ·rw[AGY (show ¬(j:Int)>0 by omega),AHa,AHd (Bl hj),hb];exact⟨b,rfl,hq.trans ⟨λh=>⟨h1,λh'=>absurd h' h2,h⟩,λh=>h.2.2⟩⟩
     ·rw[AGY h1];exact⟨true,rfl,λh=>by(cases h),λh=>absurd h.1 h1⟩
    rw[c7,AGV];cases b with
    |true=>exact Ax.mk (.inl ⟨rfl,λh=>by have:=fC.2 (h j hj);cases this⟩)
    |false =>
     rw[AHa,Bi hj (by omega)];refine Ax.mk ⟨(),rfl,λk hk=>?_⟩;rcases AG6 k j with h' |h'
     ·exact hJ k h'
     ·rw[show k=j by omega];exact fC.1 rfl
   ·unfold EJ HN;rw[EB,AHa];exact Ax.mk (.inr ⟨rfl,hJ⟩)
  ·rcases ht with ⟨rfl,h⟩|⟨rfl,h⟩
   ·exact Ax.mk ⟨λh=>by(cases h),λh'=>absurd h'.2.2 h⟩
   ·exact Ax.mk ⟨λ_=>⟨aE,hlen,h⟩,λ_=>rfl⟩
theorem oE{d:AHY}{l:AH0}(hl:∀x∈l,Tc x):Ax (G8 d l) λr=>r=true↔AL d/\ML d l:=by
 unfold G8;obtain⟨r,hr,hq⟩:=Yw d;rw[hr,AGV];cases r with
 |false=>exact Ax.mk ⟨λh=>by(cases h),λh=>by have:=hq.2 h.1;cases this⟩
 |true =>
  have aE:=hq.1 rfl;have hd:=aE.1;rw[AHb];unfold DX;by_cases hlen:l.length<=60
  ·rw[AGY (by omega:¬(l.length:Int)>60),AHa];refine Ax.bind (P:=λr=>r=true↔AL d/\ML d l) (Ax.bind (P:=λt=>(t=.inl ()/\¬∀i,i<l.length->TX d l i)\/(t=.inr ()/\∀i,i<l.length->TX d l i)) ?_ λt ht=>?_) λr h=>Ax.mk h
   ·unfold Jm;have:=BJ (f:=BL d l (l.length:Int)) (λj (_:Unit)=>((if j=0 then 0 else XY l (j-1):Int),(j:Int))) l.length (λj _=>∀k,k<j->TX d l k) (Q:=λt=>(t=.inl ()/\¬∀i,i<l.length->TX d l i)\/(t=.inr ()/\∀i,i<l.length->TX d l i)) (λj _ hj hJ=>?_) (λ_ hJ=>?_) (s0:=()) (λi h=>by omega)
    ·exact this
    ·unfold BL C8;have hB:=hl _ (AG (z :=Af.zero) hj);have e1:Dl d (l.getD j Af.zero).2.2.1=some (F6 d (lS l j)):=O5 hB.1 (by omega);have e2:Dl d (l.getD j Af.zero).2.2.2.1=some (F6 d (lT l j)):=O5 hB.2 (by omega);have e3:(l.getD j Af.zero).1=XY l j:=rfl;simp only;rw[DN hj,AHb,AHd (Bl hj),AGW,e1,AGV];obtain⟨c,hc⟩:∃c:Int,c=if j=0 then 0 else XY l (j-1):=⟨_,rfl⟩;have hcb:0<=c/\c<=1000000/\(0<j->c=XY l (j-1))/\(j=0->c=0):=by
      by_cases h0:j=0
      ·rw[AHd h0]at hc;exact⟨by omega,by omega,λh=>by omega,λ_=>hc⟩
      ·rw[AHe h0]at hc;have:=(hJ (j-1) (by omega)).1;exact⟨by omega,by omega,λ_=>hc,λh=>absurd h h0⟩
     rw[<-hc];obtain⟨b,c7,fC⟩:∃b,C3 d c (F6 d (lS l j)) l (l.length:Int) (j:Int) (l.getD j Af.zero)=some b/\(b=false↔TX d l j):=by
      unfold C3 TX;rw[e3,Kj,BM (x:=c+1) (by omega) (by omega),e2,AGV];by_cases h1:c+1<=XY l j/\XY l j<=1000000
      ·rw[AG0 h1];simp only[Bool.not_true,AHa];by_cases h2:F6 d (lS l j)<0
       ·rw[AG0 h2];exact⟨true,rfl,λh=>by(cases h),λh=>by omega⟩
       ·rw[AGY h2,AHa];refine⟨_,rfl,?_⟩;rw[bne_eq_false_iff_eq];exact⟨λh=>⟨by omega,λh'=>by have:=hcb.2.2.1 h';omega,by omega,h.symm⟩,λh=>h.2.2.2.symm⟩
      ·rw[AGY h1];refine⟨true,rfl,λh=>by(cases h),λh=>?_⟩
       exfalso
       apply h1;rcases AHj j with h0 |h0
       ·have:=hcb.2.2.2 h0;omega
       ·have:=hcb.2.2.1 h0;have:=h.2.1 h0;omega
     rw[c7,AGV];cases b with
     |true=>exact Ax.mk (.inl ⟨rfl,λh=>by have:=fC.2 (h j hj);cases this⟩)
     |false =>
      rw[AHa,Bi hj (by omega)];refine Ax.mk ⟨(),rfl,λk hk=>?_⟩;rcases AG6 k j with h' |h'
      ·exact hJ k h'
      ·rw[show k=j by omega];exact fC.1 rfl
    ·unfold BL C8;simp only;rw[EB,AHa];exact Ax.mk (.inr ⟨rfl,hJ⟩)
   ·rcases ht with ⟨rfl,h⟩|⟨rfl,h⟩
    ·exact Ax.mk ⟨λh=>by(cases h),λh'=>absurd h'.2.2 h⟩
    ·exact Ax.mk ⟨λ_=>⟨aE,hlen,h⟩,λ_=>rfl⟩
  ·rw[AG0 (by omega:(l.length:Int)>60)];exact Ax.mk ⟨λh=>by(cases h),λh=>absurd h.2.1 hlen⟩
end Go.Proofs.X
namespace Go.Va
open Go.Proofs.X
theorem nQ{T:Type}{f:Int×List T->Option ((Int×List T)⊕List T)}(N:Nat)(it:Nat->List T)(a0:List T)
    (hs:∀k,k<N->f ((k:Int),a0++(List.range k).flatMap it)=some (.inl (((k+1:Nat):Int),a0++(List.range k).flatMap it++it k)))
    (he:f ((N:Int),a0++(List.range N).flatMap it)=some (.inr (a0++(List.range N).flatMap it))):fix f (0,a0)=some (a0++(List.range N).flatMap it):=by
 have:=AQ (f:=f) (λk=>((k:Int),a0++(List.range k).flatMap it)) N (λk hk=>by
  rw[hs k hk,List.range_succ,List.flatMap_append,AG3];simp) he
 simpa using this
theorem ZY{A B:Type}(g:A->B)(l:List A):l.flatMap (λx=>[g x])=l.map g:=by
 induction l with
 |nil=>rfl
 |cons x l ih=>simp[ih]
theorem cS{A B:Type}(b:List B)(l:List A):l.flatMap (λ_=>b)=(List.replicate l.length b).flatten:=by
 induction l with
 |nil=>rfl
 |cons x l ih=>simp[ih,List.replicate_succ]
end Go.Va
namespace Go.Proofs.X
open Go Go.Va
set_option maxRecDepth 100000
def M1(n:AHL)(w:Nat):Nat:=if Bo n=8 then(w-(nA n).toNat%w)%w else(nA n).toNat%w
def Bp(d:AHY)(n:AHL)(kids:List (List Bt)):List Bt :=
 if Bo n=1 then(List.range (dw d (G4 n).toNat).toNat).map λa=>.va (G4 n).toNat a
 else if Bo n=2 then(List.range (nW n).toNat).map λk=>.co (bt (fe n) k)
 else if Bo n=3 then kids.reverse.flatten
 else if Bo n=4 then((kids.getD 0 []).take ((nA n).toNat+1)).drop (nB n).toNat
 else if Bo n=5 then kids.getD 0 []++List.replicate (nA n).toNat (.co false)
 else if Bo n=6 then kids.getD 0 []++List.replicate (nA n).toNat ((kids.getD 0 []).getD ((kids.getD 0 []).length-1) (.co false))
 else if Bo n=9 then(List.replicate (nA n).toNat (kids.getD 0 [])).flatten
 else(kids.getD 0 []).drop ((kids.getD 0 []).length-M1 n (kids.getD 0 []).length)++(kids.getD 0 []).take ((kids.getD 0 []).length-M1 n (kids.getD 0 []).length)
def Vz(d:AHY):Bt->Prop
 |.co _=>True
 |.va v a=>v<d.length/\((a:Nat):Int)<dw d v
def dx(kids:List (List Bt)):Int:=((kids.map List.length).sum:Nat)
def Bm(d:AHY)(B:List Bt):Prop:=1<=B.length/\B.length<=4096/\∀b∈B,Vz d b
structure NB (d:AHY) (n:AHL) (kids:List (List Bt)):Prop where
 hd:AL d
 hf:Ky d n
 hb:WY n
 hk:kids.length=(AE n).length
 hw:1<=FF d n (dx kids)/\FF d n (dx kids)<=4096
 Fx:∀B∈kids,Bm d B
theorem T4{d:AHY}(hd:AL d){b:Bt}(h:Vz d b):BtB b:=by
 cases b with
 |co b=>trivial
 |va v a =>
  obtain⟨h1,h2⟩:=h;have:=(hd.2.1 v h1).2.1;have:=hd.1;exact⟨by omega,by omega⟩
theorem NB.one{d:AHY}{n:AHL}{kids:List (List Bt)}(h:NB d n kids)(h1:Bo n≠1)(h2:Bo n≠2)(h3:Bo n≠3):4<=Bo n/\Bo n<=9/\∃B,kids=[B]/\Bm d B/\dx kids=(B.length:Int):=by
 have hf:=h.hf;unfold Ky at hf;have:4<=Bo n/\Bo n<=9/\(AE n).length=1:=by omega
 obtain⟨h4,h9,hl⟩:=this;have hk:=h.hk;rw[hl]at hk
 match kids,hk,h.Fx with
 |[B],_,Fx=>exact⟨h4,h9,B,rfl,Fx B AHq,by simp[dx]⟩
theorem lF{n:AHL}{w:Nat}(h:1<=w):M1 n w<w:=by
 unfold M1;split<;>exact Nat.mod_lt _ (by omega)
theorem ao(l:AHV):l.reverse.sum=l.sum:=by
 induction l with
 |nil=>rfl
 |cons x l ih=>simp[ih];omega
theorem YC{d:AHY}{n:AHL}{kids:List (List Bt)}(h:NB d n kids):((Bp d n kids).length:Int)=FF d n (dx kids):=by
 have hw:=h.hw;by_cases h1:Bo n=1
 ·simp only[Bp,FF,AHd h1,AG7,AHC]at hw⊢;omega
 by_cases h2:Bo n=2
 ·simp only[Bp,FF,AHe h1,AHd h2,AG7,AHC]at hw⊢;omega
 by_cases h3:Bo n=3
 ·have e:¬Bo n=4/\¬(Bo n=5\/Bo n=6)/\¬(Bo n=7\/Bo n=8)/\¬Bo n=9:=by omega
  simp only[Bp,FF,AHe h1,AHe h2,AHd h3,AHe e.1,AHe e.2.1,AHe e.2.2.1,AHe e.2.2.2,dx];rw[List.length_flatten,List.map_reverse,ao]
 obtain⟨h4,h9,B,rfl,hB,hs⟩:=h.one h1 h2 h3;have hl:=hB.1;rw[hs]at hw⊢;by_cases nR:Bo n=4
 ·simp only[Bp,FF,AHe h1,AHe h2,AHe h3,AHd nR,List.getD_cons_zero,AHv,AHg]at hw⊢;split at hw<;>rename_i hc
  ·rw[AHd hc];omega
  ·omega
 by_cases h5:Bo n=5
 ·have pZ:Bo n=5\/Bo n=6:=.inl h5;simp only[Bp,FF,AHe h1,AHe h2,AHe h3,AHe nR,AHd h5,AHd pZ,List.getD_cons_zero,AGZ,AHs]at hw⊢;split at hw<;>rename_i hc
  ·rw[AHd hc];omega
  ·omega
 by_cases h6:Bo n=6
 ·have pZ:Bo n=5\/Bo n=6:=.inr h6;simp only[Bp,FF,AHe h1,AHe h2,AHe h3,AHe nR,AHe h5,AHd h6,AHd pZ,List.getD_cons_zero,AGZ,AHs]at hw⊢;split at hw<;>rename_i hc
  ·rw[AHd hc];omega
  ·omega
 have pZ:¬(Bo n=5\/Bo n=6):=by omega
 by_cases tY:Bo n=9
 ·have h78:¬(Bo n=7\/Bo n=8):=by omega
  simp only[Bp,FF,AHe h1,AHe h2,AHe h3,AHe nR,AHe h5,AHe h6,AHe pZ,AHe h78,AHd tY,List.getD_cons_zero,List.length_flatten,List.map_replicate,List.sum_replicate_nat]at hw⊢;split at hw<;>rename_i hc
  ·rw[AHd hc];have:(nA n)=((nA n).toNat:Int):=by omega
   rw[this,AGW,Int.natCast_mul,Int.mul_comm]
  ·omega
 ·have h78:Bo n=7\/Bo n=8:=by omega
  have ht:=lF (n:=n) hl;simp only[Bp,FF,AHe h1,AHe h2,AHe h3,AHe nR,AHe h5,AHe h6,AHe pZ,AHd h78,AHe tY,List.getD_cons_zero,AGZ,AHv,AHg]at hw⊢;split at hw<;>rename_i hc
  ·rw[AHd hc];omega
  ·omega
theorem Tt{d:AHY}{n:AHL}{kids:List (List Bt)}(h:NB d n kids):Bm d (Bp d n kids):=by
 have hl:=YC h;refine⟨by have:=h.hw;omega,by have:=h.hw;omega,λb hb=>?_⟩;by_cases h1:Bo n=1
 ·have hf:=h.hf;unfold Ky at hf;have hv:0<=G4 n/\G4 n<(d.length:Int):=by omega
  simp only[Bp,AHd h1,List.mem_map,List.mem_range]at hb;obtain⟨a,ha,rfl⟩:=hb;exact⟨by omega,by omega⟩
 by_cases h2:Bo n=2
 ·simp only[Bp,AHe h1,AHd h2,List.mem_map,List.mem_range]at hb;obtain⟨a,ha,rfl⟩:=hb;trivial
 by_cases h3:Bo n=3
 ·simp only[Bp,AHe h1,AHe h2,AHd h3,List.mem_flatten,List.mem_reverse]at hb;obtain⟨B,hB,hb⟩:=hb;exact(h.Fx B hB).2.2 b hb
 obtain⟨h4,h9,B,rfl,hB,hs⟩:=h.one h1 h2 h3;have hz:B.getD (B.length-1) (.co false)∈B:=AG (by have:=hB.1;omega);simp only[Bp,AHe h1,AHe h2,AHe h3,List.getD_cons_zero]at hb;split at hb
 ·exact hB.2.2 b (List.mem_of_mem_take (List.mem_of_mem_drop hb))
 split at hb
 ·rcases List.mem_append.1 hb with hb |hb
  ·exact hB.2.2 b hb
  ·rw[(List.mem_replicate.1 hb).2];trivial
 split at hb
 ·rcases List.mem_append.1 hb with hb |hb
  ·exact hB.2.2 b hb
  ·rw[(List.mem_replicate.1 hb).2];exact hB.2.2 _ hz
 split at hb
 ·obtain⟨C,hC,hb⟩:=List.mem_flatten.1 hb;rw[(List.mem_replicate.1 hC).2]at hb;exact hB.2.2 b hb
 ·rcases List.mem_append.1 hb with hb |hb
  ·exact hB.2.2 b (List.mem_of_mem_drop hb)
  ·exact hB.2.2 b (List.mem_of_mem_take hb)
end Go.Proofs.X
namespace Go.Va
open Go.Proofs.X
theorem VT{T:Type}{f:Int×List T->Option ((Int×List T)⊕List T)}(N:Nat)(g:Nat->T)(a0:List T)
    (hs:∀k acc,k<N->acc.length=a0.length+k->f ((k:Int),acc)=some (.inl (((k+1:Nat):Int),acc++[g k]))) (he:∀acc,f ((N:Int),acc)=some (.inr acc)):fix f (0,a0)=some (a0++(List.range N).map g):=by
 have:=nQ (f:=f) N (λk=>[g k]) a0 (λk hk=>hs k _ hk (by rw[ZY];simp)) (he _);rw[ZY]at this;exact this
end Go.Va
namespace Go.Proofs.X
open Go Go.Va
set_option maxRecDepth 100000
theorem Axm(kids:List (List Bt))(k:Nat):(kids.map bV).getD k AIh.zero=bV (kids.getD k []):=by
 simp only[List.getD,AHo];cases kids[k]?<;>rfl
theorem u0{x:Int}(h1:-4611686018427387904<=x)(h2:x<4611686018427387904):wI x=x:=BM (by omega) (by omega)
theorem uJ{A:Type}{l:List A}{z:A}{k:Nat}(h:k<l.length):l.reverse.getD k z=l.getD (l.length-1-k) z:=by
 simp only[List.getD,List.getElem?_reverse h]
theorem Ys(kids:List (List Bt))(k:Nat):((kids.reverse.take k).flatten).length<=(kids.map List.length).sum:=by
 rw[<-ao,<-List.map_reverse,List.length_flatten]
 conv=>rhs;rw[<-List.take_append_drop k kids.reverse,List.map_append,List.sum_append]
 omega
theorem AaL{a:Nat}:decide ((a:Int)>=0)=true:=AG0 (by omega)
theorem su{d:AHY}{n:AHL}{kids:List (List Bt)}(h:NB d n kids)(h3:Bo n=3):NP (kids.map bV) (wI (((kids.map bV).length:Int)-1)) []=some (bV kids.reverse.flatten):=by
 have hlen:kids.length<=1048576:=by rw[h.hk];exact h.hb.1
 have Aft:(kids.map List.length).sum<=4096:=by
  have hw:=h.hw;have e:¬Bo n=4/\¬(Bo n=5\/Bo n=6)/\¬(Bo n=7\/Bo n=8)/\¬Bo n=9/\¬Bo n=1/\¬Bo n=2:=by omega
  simp only[FF,AHe e.1,AHe e.2.1,AHe e.2.2.1,AHe e.2.2.2.1,AHe e.2.2.2.2.1,AHe e.2.2.2.2.2,dx]at hw;omega
 unfold NP;rw[AG7,u0 (by omega) (by omega)];have:=AQ (f:=Dv (kids.map bV)) (λk=>((kids.length:Int)-1-(k:Int),bV (kids.reverse.take k).flatten)) (t:=bV kids.reverse.flatten) kids.length (λk hk=>by
  unfold Dv KZ;simp only;have e:(kids.length:Int)-1-(k:Int)=((kids.length-1-k:Nat):Int):=by omega
  have hb:=Ys kids k;have Fx:=h.Fx (kids.getD (kids.length-1-k) []) (AG (by omega));rw[e,AaL,AHb,AG7,AHd ⟨by omega,by omega⟩,AGW,Axm,C1,C1,AHd (by have:=Fx.2.1;omega),u0 (by omega) (by omega)];rw[AX (z:=[]) (show k<kids.reverse.length by rw[List.length_reverse];exact hk),uJ hk,List.flatten_append,<-T3];simp only[List.flatten_cons,List.flatten_nil,AHA];rw[show(kids.length:Int)-1-((k+1:Nat):Int)=((kids.length-1-k:Nat):Int)-1 by omega]) (by
  unfold Dv KZ;simp only;rw[AGY (by omega),AHa,AG5 (by rw[List.length_reverse];omega)])
 have pP:fix (Dv (kids.map bV)) ((kids.length:Int)-1-((0:Nat):Int),[])=some (bV kids.reverse.flatten):=this;rw[show(kids.length:Int)-1-((0:Nat):Int)=(kids.length:Int)-1 by omega]at pP;exact pP
theorem pC{d:AHY}{n:AHL}{kids:List (List Bt)}(h:NB d n kids):OO d n (kids.map bV)=some (bV (Bp d n kids)):=by
 have e1:∀x:Int,(n.1==x)=decide (Bo n=x):=λx=>RU;have xy:=Tt h;have Vt:=xy.2.1;unfold OO NT P2;simp only[e1];by_cases h1:Bo n=1
 ·rw[AG0 h1,AHb];have hf:=h.hf;unfold Ky at hf;have hv:0<=G4 n/\G4 n<(d.length:Int):=by omega
  obtain⟨N,hN⟩:∃N:Nat,dw d (G4 n).toNat=(N:Int):=by
   have:=(h.hd.2.1 (G4 n).toNat (by omega)).2.1;exact⟨(dw d (G4 n).toNat).toNat,by omega⟩
  have hN4:N<=4096:=by have:=(h.hd.2.1 (G4 n).toNat (by omega)).2.1;omega
  rw[show NL d n 0 []=some (bV (Bp d n kids)) by
   unfold NL;rw[VT (f:=EY d n) N (λa=>TF (.va (G4 n).toNat a)) [] (λk acc hk ha=>by
    unfold EY KX;simp only;rw[AHd (show(0:Int)<=n.2.1/\n.2.1<(d.length:Int)from hv),show(d.getD n.2.1.toNat Ad.zero).2.1=(N:Int)from hN,DN hk,AHb,Bi hk (by omega)];simp at ha;rw[AHd (by show(_+1)*16<=_;omega)];have:n.2.1=(((G4 n).toNat:Nat):Int):=by show G4 n=_;omega
    rw[this];rfl) (λacc=>by
    unfold EY KX;simp only;rw[AHd (show(0:Int)<=n.2.1/\n.2.1<(d.length:Int)from hv),show(d.getD n.2.1.toNat Ad.zero).2.1=(N:Int)from hN,EB,AHa])]
   simp only[Bp,AHd h1,hN,AGW,bV,List.nil_append,List.map_map];rfl]
  rfl
 rw[AGY h1,AHa];by_cases h2:Bo n=2
 ·rw[AG0 h2,AHb];have hf:=h.hf;unfold Ky at hf;obtain⟨m,S9,Q4⟩:mh n:=by
   rcases hf with h |h |h |h
   ·omega
   ·exact h.2.2
   ·omega
   ·omega
  rw[show NN n 0 []=some (bV (Bp d n kids)) by
   unfold NN;rw[VT (f:=EZ n) m (λk=>TF (.co (bt (fe n) k))) [] (λk acc hk ha=>by
    unfold EZ KY;simp only;have hb:GL n.2.2.2.2.1 (k:Int)=some (bI (bt (fe n) k)):=dy (w:=nW n) Q4.2.2.2.1 (by rw[Q4.2.2.1];unfold nw;omega) h.hb.2.1;have h4:=Q4.2.1;rw[show n.2.2.2.2.1.1=(m:Int)from S9,DN hk,AHb,hb,AGV,Bi hk (by omega)];simp at ha;rw[AHd (by show(_+1)*16<=_;omega)];rw[show wI (bI (bt (fe n) k))=bI (bt (fe n) k) by cases bt (fe n) k<;>rfl];rfl) (λacc=>by
    unfold EZ KY;simp only;rw[show n.2.2.2.2.1.1=(m:Int)from S9,EB,AHa])]
   simp only[Bp,AHe h1,AHd h2,S9,AGW,bV,List.nil_append,List.map_map];rfl]
  rfl
 rw[AGY h2,AHa];by_cases h3:Bo n=3
 ·rw[AG0 h3,AHb,su h h3];simp only[Bp,AHe h1,AHe h2,AHd h3];rfl
 rw[AGY h3,AHa];obtain⟨h4,h9,B,rfl,hB,hs⟩:=h.one h1 h2 h3;have hl:=hB.1;have ui:=hB.2.1;have hw:=h.hw;have g0:([B].map bV).getD 0 AIh.zero=bV B:=rfl;have r0:(0:Int)<=(0:Int)/\(0:Int)<(([B].map bV).length:Int):=⟨by omega,by simp⟩;rw[hs]at hw;simp only[Bp,AHe h1,AHe h2,AHe h3,List.getD_cons_zero]at Vt⊢;simp only[FF,AHe h1,AHe h2]at hw;by_cases nR:Bo n=4
 ·simp only[AHd nR]at hw Vt⊢;split at hw<;>rename_i hc
  ·obtain⟨A,hA⟩:∃A:Nat,nA n=(A:Int):=⟨(nA n).toNat,by omega⟩;obtain⟨L,hL⟩:∃L:Nat,nB n=(L:Int):=⟨(nB n).toNat,by omega⟩;have c6:n.2.2.1=(A:Int):=hA;have hL':n.2.2.2.1=(L:Int):=hL;rw[AG0 nR,AHb,AHd r0,g0,c6,hL',show wI ((A:Int)+1)=((A+1:Nat):Int)from A2 (by omega) (by omega),C1];rw[AHd (show(0:Int)<=(L:Int)/\(L:Int)<=((A+1:Nat):Int)/\((A+1:Nat):Int)<=(B.length:Int)from⟨by omega,by omega,by omega⟩),AGW,AGW,hA,hL,AGW,AGW];rw[show(List.drop L (List.take (A+1) (bV B)))=bV ((B.take (A+1)).drop L) by simp[bV,List.map_drop,List.map_take],C1,AHv,AHg,AHd (by omega)];rfl
  ·omega
 rw[AGY nR,AHa];simp only[AHe nR]at hw Vt⊢;by_cases pZ:Bo n=5\/Bo n=6
 ·simp only[AHd pZ]at hw;split at hw<;>rename_i hc
  ·obtain⟨A,hA⟩:∃A:Nat,nA n=(A:Int):=⟨(nA n).toNat,by omega⟩;have c6:n.2.2.1=(A:Int):=hA;have GR:(bif decide (Bo n=5)then decide (Bo n=5)else decide (Bo n=6))=true:=by
    rcases pZ with h |h<;>simp[h]
   have Z1:wI (((bV B).length:Int)-1)=((B.length-1:Nat):Int):=by rw[C1];exact A2 (by omega) (by omega)
   rw[GR,AHb];by_cases h6:Bo n=6
   ·have h5:¬Bo n=5:=by omega
    simp only[AHe h5,AHd h6,hA,AGW,AGZ,AHs]at Vt⊢;rw[show Fv ([B].map bV) n=some (.inl ()) by
     unfold Fv;rw[e1,AG0 h6,AHb,AHd r0,AHd r0,g0,Z1,C1,AHd ⟨by omega,by omega⟩],AGV]
    simp only[Sum.elim_inl];rw[AHd r0,g0,Z1,AGW,C1,AHd (by omega),b7 (by omega)];rw[show NQ n (TF (B.getD (B.length-1) (.co false))) 0 (bV B)=some (bV (B++List.replicate A (B.getD (B.length-1) (.co false)))) by
     unfold NQ;rw[VT (f:=Fa n (TF (B.getD (B.length-1) (.co false)))) A (λ_=>TF (B.getD (B.length-1) (.co false))) (bV B) (λk acc hk ha=>by
      unfold Fa K0;simp only;rw[C1]at ha;rw[c6,DN hk,AHb,Bi hk (by omega),AHd (by show(_+1)*16<=_;omega)]) (λacc=>by
      unfold Fa K0;simp only;rw[c6,EB,AHa])]
     rw[T3];simp[bV,List.map_const']]
    rfl
   ·have h5:Bo n=5:=by omega
    simp only[AHd h5,hA,AGW,AGZ,AHs]at Vt⊢;rw[show Fv ([B].map bV) n=some (.inr ()) by
     unfold Fv;rw[e1,AGY h6,AHa],AGV]
    simp only[Sum.elim_inr];rw[AHd r0,g0,C1,AHd (by omega)];rw[show NR n 0 (bV B)=some (bV (B++List.replicate A (.co false))) by
     unfold NR;rw[VT (f:=Fb n) A (λ_=>TF (.co false)) (bV B) (λk acc hk ha=>by
      unfold Fb K1;simp only;rw[C1]at ha;rw[c6,DN hk,AHb,Bi hk (by omega),AHd (by show(_+1)*16<=_;omega)];rfl) (λacc=>by
      unfold Fb K1;simp only;rw[c6,EB,AHa])]
     rw[T3];simp[bV,List.map_const']]
    rfl
  ·omega
 have h5:¬Bo n=5:=by omega
 have h6:¬Bo n=6:=by omega
 have GR:(bif decide (Bo n=5)then decide (Bo n=5)else decide (Bo n=6))=false:=by simp[h5,h6]
 rw[GR,AHa];simp only[AHe h5,AHe h6,AHe pZ]at hw Vt⊢;by_cases h78:Bo n=7\/Bo n=8
 ·simp only[AHd h78]at hw;split at hw<;>rename_i hc
  ·obtain⟨A,hA⟩:∃A:Nat,nA n=(A:Int):=⟨(nA n).toNat,by omega⟩;have c6:n.2.2.1=(A:Int):=hA;have tY:¬Bo n=9:=by omega
   have OS:(bif decide (Bo n=7)then decide (Bo n=7)else decide (Bo n=8))=true:=by
    rcases h78 with h |h<;>simp[h]
   have ht:=lF (n:=n) hl;simp only[AHe tY,AGZ,AHv,AHg]at Vt⊢;rw[OS,AHb,AHd r0,g0,c6,C1,AHe (by omega)];have Abs:Int.tmod (A:Int) (B.length:Int)=((A%B.length:Nat):Int):=rfl;have vU:A%B.length<B.length:=Nat.mod_lt _ (by omega);rw[show Ka ([B].map bV) n (B.length:Int) (Int.tmod (A:Int) (B.length:Int))=some ((M1 n B.length:Nat):Int) by
    unfold Ka M1;rw[e1,Abs,hA,AGW];by_cases h8:Bo n=8
    ·rw[AG0 h8,AHb,AHe (by omega),AHd h8,show wI ((B.length:Int)-((A%B.length:Nat):Int))=((B.length-A%B.length:Nat):Int)from A2 (by omega) (by omega)];rfl
    ·rw[AGY h8,AHa,AHe h8],AGV]
   have XG:wI ((B.length:Int)-((M1 n B.length:Nat):Int))=((B.length-M1 n B.length:Nat):Int):=A2 (by omega) (by omega);rw[AHd r0,XG,AHd ⟨by omega,by omega,by omega⟩,AGW,AGW];generalize hq:B.length-M1 n B.length=q at *;rw[show(List.drop q (List.take B.length (bV B)))=bV (B.drop q) by rw[AG5 (by rw[C1];omega)];simp[bV,List.map_drop],show(List.drop 0 (List.take q (bV B)))=bV (B.take q) by simp[bV,List.map_take],AHd (by omega),AHd r0,AHd ⟨by omega,by omega,by omega⟩,AHd (by omega),<-T3];rfl
  ·omega
 have tY:Bo n=9:=by omega
 have OS:(bif decide (Bo n=7)then decide (Bo n=7)else decide (Bo n=8))=false:=by
  rw[show ¬Bo n=7/\¬Bo n=8 by omega |> λh=>(AGY h.1:decide (Bo n=7)=false),AHa];exact AGY (by omega)
 simp only[AHe h78,AHd tY]at hw Vt⊢;split at hw<;>rename_i hc
 ·obtain⟨A,hA⟩:∃A:Nat,nA n=(A:Int):=⟨(nA n).toNat,by omega⟩;have c6:n.2.2.1=(A:Int):=hA;rw[OS,AHa,AG0 tY,AHb];rw[hA]at hw Vt;simp only[AGW,List.length_flatten,List.map_replicate,List.sum_replicate_nat]at Vt;rw[show NS ([B].map bV) n 0 []=some (bV (List.replicate A B).flatten) by
   unfold NS;rw[nQ (f:=Fc ([B].map bV) n) A (λ_=>bV B) [] (λk hk=>by
    unfold Fc K2;simp only;have fE:k*B.length<=A*B.length:=Nat.mul_le_mul_right _ (by omega);rw[c6,DN hk,AHb,AHd r0,g0,Bi hk (by omega),AHd (by
     rw[List.nil_append,cS,List.length_flatten,List.map_replicate,List.sum_replicate_nat,AHC,C1];omega)]) (by
    unfold Fc K2;simp only;rw[c6,EB,AHa])]
   rw[List.nil_append,cS,AHC];simp[bV,List.map_flatten,List.map_replicate]]
  rw[hA];rfl
 ·omega
end Go.Proofs.X
namespace Go.Proofs.X
open Go Go.Va
set_option maxRecDepth 100000
def fN(B:List Bt):AHZ:=fV (Av B)
theorem tN(kids:List (List Bt))(k:Nat):(kids.map fN).getD k AIe.zero=fN (kids.getD k []):=by
 simp only[List.getD,AHo];cases kids[k]?<;>rfl
theorem kU{d:AHY}(hd:AL d){a b:List Bt}(ha:∀x∈a,Vz d x)(hb:∀x∈b,Vz d x)(hl:a.length+b.length<=4096):Dk (fN b) (fN a)=some (fN (a++b)):=by
 unfold fN;rw[o5 (CV b) (CV a) (SJ (λx hx=>jG (T4 hd (hb x hx))) (by omega)) (SJ (λx hx=>jG (T4 hd (ha x hx))) (by omega)) (by rw[Cj,Cj];exact hl),o6]
theorem Ack{s:Sg}(h:1<=s.w):Av s.bits=[s]:=by
 have:=Wb s.w s [] rfl h;rw[Qw]at this;exact this.symm
theorem AlG(b:Bt):fN [b]=[He b.sg]:=rfl
theorem AfU{d:AHY}(hd:AL d){a:List Bt}{b:Bt}(ha:∀x∈a,Vz d x)(hb:Vz d b)(hl:a.length+1<=4096):Dk [He b.sg] (fN a)=some (fN (a++[b])) :=
 kU hd ha (b:=[b]) (λx hx=>by rw[AHm]at hx;rw[hx];exact hb) hl
theorem Adx{d:AHY}{B:List Bt}(h:Bm d B):EG (fN B)=some (B.length:Int):=by
 unfold fN;rw[j7 (CV B) (by rw[Cj];exact h.2.1),Cj]
theorem uF{d:AHY}(hd:AL d){B:List Bt}(h:Bm d B){lo w:Nat}(xB:lo+w<=8192):Dh (fN B) (lo:Int) (w:Int)=some (fN ((B.drop lo).take w)):=by
 have hs:∀x∈B,Uu x.sg:=λx hx=>jG (T4 hd (h.2.2 x hx));unfold fN;rw[nI (CV B) (SJ hs h.2.1) (by rw[Hd];exact hs) (by rw[Cj];exact h.2.1) xB,Hd]
theorem iY{d:AHY}(hd:AL d){B:List Bt}{b:Bt}{A:Nat}(hB:Bm d B)(hb:Vz d b)(hl:B.length+A<=4096){f:Int×AHZ->Option ((Int×AHZ)⊕AHZ)}
    (hs:∀x:Int×AHZ,f x=bif decide (x.1<(A:Int))then(Dk [He b.sg] x.2).bind λo=>some (.inl (wI (x.1+1),o))else some (.inr x.2)):fix f (0,fN B)=some (fN (B++List.replicate A b)):=by
 have:=AQ (f:=f) (λk=>((k:Int),fN (B++List.replicate k b))) (t:=fN (B++List.replicate A b)) A (λk hk=>by
  rw[hs];simp only;rw[DN hk,AHb,AfU hd (λx hx=>by
   rcases List.mem_append.1 hx with hx |hx
   ·exact hB.2.2 x hx
   ·rw[(List.mem_replicate.1 hx).2];exact hb) hb (by rw[AGZ,AHs];omega),AGV,Bi hk (by omega),AG3,<-List.replicate_succ']) (by
  rw[hs];simp only;rw[EB,AHa])
 have h0:fix f (((0:Nat):Int),fN (B++List.replicate 0 b))=some (fN (B++List.replicate A b)):=this;rw[List.replicate_zero,AHA]at h0;exact h0
theorem rJ{d:AHY}{n:AHL}{kids:List (List Bt)}(h:NB d n kids)(h3:Bo n=3):GU (kids.map fN) (wI (((kids.map fN).length:Int)-1)) []=some (fN kids.reverse.flatten):=by
 have hlen:kids.length<=1048576:=by rw[h.hk];exact h.hb.1
 have Aft:(kids.map List.length).sum<=4096:=by
  have hw:=h.hw;have e:¬Bo n=4/\¬(Bo n=5\/Bo n=6)/\¬(Bo n=7\/Bo n=8)/\¬Bo n=9/\¬Bo n=1/\¬Bo n=2:=by omega
  simp only[FF,AHe e.1,AHe e.2.1,AHe e.2.2.1,AHe e.2.2.2.1,AHe e.2.2.2.2.1,AHe e.2.2.2.2.2,dx]at hw;omega
 unfold GU;rw[AG7,u0 (by omega) (by omega)];have:=AQ (f:=BU (kids.map fN)) (λk=>((kids.length:Int)-1-(k:Int),fN (kids.reverse.take k).flatten)) (t:=fN kids.reverse.flatten) kids.length (λk hk=>by
  unfold BU EL;simp only;have e:(kids.length:Int)-1-(k:Int)=((kids.length-1-k:Nat):Int):=by omega
  have hb:=Ys kids (k+1);have Fx:=h.Fx (kids.getD (kids.length-1-k) []) (AG (by omega));rw[AX (z:=[]) (show k<kids.reverse.length by rw[List.length_reverse];exact hk),uJ hk,List.flatten_append]at hb⊢;simp only[List.flatten_cons,List.flatten_nil,AHA]at hb⊢;rw[AGZ]at hb;rw[e,AaL,AHb,AG7,AHd ⟨by omega,by omega⟩,AGW,tN,kU h.hd (λx hx=>by
   obtain⟨C,hC,hx⟩:=List.mem_flatten.1 hx;exact(h.Fx C (List.mem_reverse.1 (List.mem_of_mem_take hC))).2.2 x hx) Fx.2.2 (by omega),AGV,u0 (by omega) (by omega)]
  rw[show(kids.length:Int)-1-((k+1:Nat):Int)=((kids.length-1-k:Nat):Int)-1 by omega]) (by
  unfold BU EL;simp only;rw[AGY (by omega),AHa,AG5 (by rw[List.length_reverse];omega)])
 have pP:fix (BU (kids.map fN)) ((kids.length:Int)-1-((0:Nat):Int),[])=some (fN kids.reverse.flatten):=this;rw[show(kids.length:Int)-1-((0:Nat):Int)=(kids.length:Int)-1 by omega]at pP;exact pP
theorem eh{s:Sg}{v:AHJ}(h:1<=s.w)(e:He s=v):([v]:AHZ)=fN s.bits:=by
 unfold fN;rw[Ack h,<-e];rfl
theorem oG{d:AHY}{n:AHL}{kids:List (List Bt)}(h:NB d n kids):D7 n d (kids.map fN)=some (fN (Bp d n kids)):=by
 have e1:∀x:Int,(n.1==x)=decide (Bo n=x):=λx=>RU;have xy:=Tt h;have Vt:=xy.2.1;unfold D7 P2;simp only[e1];by_cases h1:Bo n=1
 ·rw[AG0 h1,AHb];have hf:=h.hf;unfold Ky at hf;have hv:0<=G4 n/\G4 n<(d.length:Int):=by omega
  have hdw:=(h.hd.2.1 (G4 n).toNat (by omega)).2.1;obtain⟨N,hN⟩:∃N:Nat,dw d (G4 n).toNat=(N:Int):=⟨(dw d (G4 n).toNat).toNat,by omega⟩;rw[AHd (show(0:Int)<=n.2.1/\n.2.1<(d.length:Int)from hv),show(d.getD n.2.1.toNat Ad.zero).2.1=(N:Int)from hN];rw[eh (s:=.va (G4 n).toNat 0 N) (by show 1<=N;omega) (by
   show((((G4 n).toNat:Nat):Int),((0:Nat):Int),(N:Int),((0:Int),([]:AHT),()),())=_;rw[show(((G4 n).toNat:Nat):Int)=n.2.1 by show _=G4 n;omega];rfl)]
  simp only[Bp,AHd h1,hN,AGW,Sg.bits,AHr]
 rw[AGY h1,AHa];by_cases h2:Bo n=2
 ·rw[AG0 h2,AHb];have hf:=h.hf;unfold Ky at hf;obtain⟨m,S9,Q4⟩:mh n:=by
   rcases hf with h |h |h |h
   ·omega
   ·exact h.2.2
   ·omega
   ·omega
  have hl:((List.range m).map λk=>bt (fe n) k).length=m:=by simp
  rw[show Cs n.2.2.2.2.1=some (nW n,fe n)from Yd h.hb.2.1,AGV];rw[eh (s:=.co ((List.range m).map λk=>bt (fe n) k)) (by show 1<=List.length _;rw[hl];exact Q4.1) (by
   show(-1,0,((((List.range m).map λk=>bt (fe n) k).length:Nat):Int),fT ((List.range m).map λk=>bt (fe n) k),())=_;rw[rQ (f:=bt (fe n)) hl (λi hi=>by simp[List.getD,hi]),hl,show xF m (bt (fe n))=((m:Int),fe n,()) by unfold xF;rw[<-Q4.eq]];simp only[AB];rw[S9])]
  simp only[Bp,AHe h1,AHd h2,S9,AGW,Sg.bits,List.map_map];rfl
 rw[AGY h2,AHa];by_cases h3:Bo n=3
 ·rw[AG0 h3,AHb,rJ h h3];simp only[Bp,AHe h1,AHe h2,AHd h3];rfl
 rw[AGY h3,AHa];obtain⟨h4,h9,B,rfl,hB,hs⟩:=h.one h1 h2 h3;have hl:=hB.1;have ui:=hB.2.1;have hw:=h.hw;have g0:([B].map fN).getD 0 AIe.zero=fN B:=rfl;have r0:(0:Int)<=(0:Int)/\(0:Int)<(([B].map fN).length:Int):=⟨by omega,by simp⟩;have ACv:(fN B).length<=4096:=by
  unfold fN;rw[BZ];have:=CP (CV B);rw[Cj]at this;omega
 rw[hs]at hw;rw[AHd r0,g0,Adx hB,AGV];simp only[Bp,AHe h1,AHe h2,AHe h3,List.getD_cons_zero]at Vt⊢;simp only[FF,AHe h1,AHe h2]at hw;by_cases nR:Bo n=4
 ·simp only[AHd nR]at hw Vt⊢;split at hw<;>rename_i hc
  ·obtain⟨A,hA⟩:∃A:Nat,nA n=(A:Int):=⟨(nA n).toNat,by omega⟩;obtain⟨L,hL⟩:∃L:Nat,nB n=(L:Int):=⟨(nB n).toNat,by omega⟩;have c6:n.2.2.1=(A:Int):=hA;have hL':n.2.2.2.1=(L:Int):=hL;rw[AG0 nR,AHb,c6,hL',show wI ((A:Int)-(L:Int))=((A-L:Nat):Int)from A2 (by omega) (by omega),show wI (((A-L:Nat):Int)+1)=((A-L+1:Nat):Int)from A2 (by omega) (by omega),uF h.hd hB (by omega),hA,hL,AGW,AGW];rw[List.drop_take,show A+1-L=A-L+1 by omega];rfl
  ·omega
 rw[AGY nR,AHa];simp only[AHe nR]at hw Vt⊢;by_cases h78:Bo n=7\/Bo n=8
 ·have pZ:¬(Bo n=5\/Bo n=6):=by omega
  have h5:¬Bo n=5:=by omega
  have h6:¬Bo n=6:=by omega
  have tY:¬Bo n=9:=by omega
  simp only[AHe h5,AHe h6,AHe tY,AHe pZ,AHd h78]at hw⊢;split at hw<;>rename_i hc
  ·obtain⟨A,hA⟩:∃A:Nat,nA n=(A:Int):=⟨(nA n).toNat,by omega⟩;have c6:n.2.2.1=(A:Int):=hA;have OS:(bif decide (Bo n=7)then decide (Bo n=7)else decide (Bo n=8))=true:=by
    rcases h78 with h |h<;>simp[h]
   have ht:=lF (n:=n) hl;rw[OS,AHb,AHe (by omega),c6];have Abs:Int.tmod (A:Int) (B.length:Int)=((A%B.length:Nat):Int):=rfl;have vU:A%B.length<B.length:=Nat.mod_lt _ (by omega);rw[show D3 n (B.length:Int) (fN B) (Int.tmod (A:Int) (B.length:Int))=some ((M1 n B.length:Nat):Int) by
    unfold D3 M1;rw[e1,Abs,hA,AGW];by_cases h8:Bo n=8
    ·rw[AG0 h8,AHb,AHe (by omega),AHd h8,show wI ((B.length:Int)-((A%B.length:Nat):Int))=((B.length-A%B.length:Nat):Int)from A2 (by omega) (by omega)];rfl
    ·rw[AGY h8,AHa,AHe h8],AGV]
   have XG:wI ((B.length:Int)-((M1 n B.length:Nat):Int))=((B.length-M1 n B.length:Nat):Int):=A2 (by omega) (by omega);have hz:(0:Int)=((0:Nat):Int):=rfl;rw[XG,uF h.hd hB (by omega),AGV,hz,uF h.hd hB (by omega),AGV,List.drop_zero,show List.take (M1 n B.length) (List.drop (B.length-M1 n B.length) B)=List.drop (B.length-M1 n B.length) B from AG5 (by rw[AHv];omega)];rw[kU h.hd (λx hx=>hB.2.2 x (List.mem_of_mem_drop hx)) (λx hx=>hB.2.2 x (List.mem_of_mem_take hx)) (by rw[AHv,AHg];omega)];rfl
  ·omega
 have OS:(bif decide (Bo n=7)then decide (Bo n=7)else decide (Bo n=8))=false:=by
  rw[show ¬Bo n=7/\¬Bo n=8 by omega |> λh=>(AGY h.1:decide (Bo n=7)=false),AHa];exact AGY (by omega)
 rw[OS,AHa];by_cases tY:Bo n=9
 ·have pZ:¬(Bo n=5\/Bo n=6):=by omega
  have h5:¬Bo n=5:=by omega
  have h6:¬Bo n=6:=by omega
  simp only[AHe h5,AHe h6,AHd tY,AHe pZ,AHe h78]at hw Vt⊢;split at hw<;>rename_i hc
  ·obtain⟨A,hA⟩:∃A:Nat,nA n=(A:Int):=⟨(nA n).toNat,by omega⟩;have c6:n.2.2.1=(A:Int):=hA;rw[hA]at hw Vt;simp only[AGW,List.length_flatten,List.map_replicate,List.sum_replicate_nat]at Vt;rw[AG0 tY,AHb,c6];rw[show GV (fN B) (A:Int) 0 []=some (fN (List.replicate A B).flatten) by
    unfold GV;have:=AQ (f:=Ck (fN B) (A:Int)) (λk=>((k:Int),fN (List.replicate k B).flatten)) (t:=fN (List.replicate A B).flatten) A (λk hk=>by
     unfold Ck EM;simp only;have fE:(k+1)*B.length<=A*B.length:=Nat.mul_le_mul_right _ (by omega);have AFv:(k+1)*B.length=k*B.length+B.length:=Nat.succ_mul _ _;have hA2:A<=A*B.length:=Nat.le_mul_of_pos_right _ (by omega);rw[DN hk,AHb,kU h.hd (λx hx=>by
      obtain⟨C,hC,hx⟩:=List.mem_flatten.1 hx;rw[(List.mem_replicate.1 hC).2]at hx;exact hB.2.2 x hx) hB.2.2 (by rw[List.length_flatten,List.map_replicate,List.sum_replicate_nat];omega),AGV,Bi hk (by omega),List.replicate_succ',List.flatten_append]
     simp) (by
     unfold Ck EM;simp only;rw[EB,AHa])
    exact this,hA]
   rfl
  ·omega
 have pZ:Bo n=5\/Bo n=6:=by omega
 rw[AGY tY,AHa];simp only[AHe tY,AHd pZ]at hw Vt⊢;split at hw<;>rename_i hc
 ·obtain⟨A,hA⟩:∃A:Nat,nA n=(A:Int):=⟨(nA n).toNat,by omega⟩;have c6:n.2.2.1=(A:Int):=hA;have hz1:Et 1=some (1,[0]):=Wk (n:=1) (by omega);rw[hz1,AGV];rw[AHd (by omega)];by_cases h6:Bo n=6
  ·have h5:¬Bo n=5:=by omega
   have Z1:Vz d (B.getD (B.length-1) (.co false)):=hB.2.2 _ (AG (by omega));rw[show Cg n (B.length:Int) (fN B) (fN B) (AB 1 [0]).1 (AB 1 [0]).2.1 (AB 1 [0]).2.2.1 (AB 1 [0]).2.2.2.1 (AB 1 [0]).2.2.2.2=some (.inl (He (B.getD (B.length-1) (.co false)).sg)) by
    unfold Cg;rw[e1,AG0 h6,AHb,show wI ((B.length:Int)-1)=((B.length-1:Nat):Int)from A2 (by omega) (by omega),show(1:Int)=((1:Nat):Int)from rfl,uF h.hd hB (by omega),AGV];have:(B.drop (B.length-1)).take 1=[B.getD (B.length-1) (.co false)]:=by
     rw[List.drop_eq_getElem_cons (by omega),show B.getD (B.length-1) (.co false)=B[B.length-1] by simp[List.getD,show B.length-1<B.length by omega]];rfl
    rw[this,AlG,AHd ⟨by omega,by simp⟩];rfl,AGV]
   simp only[Sum.elim_inl,AHe h5,AHd h6,hA,AGW];rw[c6];unfold Ku;rw[iY (f:=EN (He (B.getD (B.length-1) (.co false)).sg) (A:Int)) h.hd hB Z1 (A:=A) (by omega) (λx=>rfl)];rfl
  ·have h5:Bo n=5:=by omega
   rw[show Cg n (B.length:Int) (fN B) (fN B) (AB 1 [0]).1 (AB 1 [0]).2.1 (AB 1 [0]).2.2.1 (AB 1 [0]).2.2.2.1 (AB 1 [0]).2.2.2.2=some (.inr ()) by
    unfold Cg;rw[e1,AGY h6,AHa],AGV]
   simp only[Sum.elim_inr,AHd h5,hA,AGW];rw[c6];have vP:((AB 1 [0]).1,(AB 1 [0]).2.1,(AB 1 [0]).2.2.1,((AB 1 [0]).2.2.2.1,(AB 1 [0]).2.2.2.2,()),())=He (Bt.co false).sg:=rfl;rw[vP];unfold Kv;rw[iY (f:=EO (A:Int) (He (Bt.co false).sg)) h.hd hB (show Vz d (.co false)from trivial) (A:=A) (by omega) (λx=>rfl)];rfl
 ·omega
def V4(all:List (List Bt))(n:AHL):List (List Bt):=(AE n).map λk=>all.getD k.toNat []
def TB(d:AHY)(t:AH1):Nat->List (List Bt)
 |0=>[]
 |i+1=>TB d t i++[Bp d (nd t i) (V4 (TB d t i) (nd t i))]
theorem Qe(d:AHY)(t:AH1):∀i,(TB d t i).length=i
 |0=>rfl
 |i+1=>by simp only[TB,AGZ,Qe d t i];rfl
theorem jy(d:AHY)(t:AH1){i j k:Nat}(h:j<i)(hk:i<=k):(TB d t k).getD j []=(TB d t i).getD j []:=by
 induction k with
 |zero=>omega
 |succ k ih =>
  rcases AG6 k i with h1 |h1
  ·have:i=k+1:=by omega
   rw[this]
  ·rw[<-ih h1];simp only[TB,List.getD];rw[AHi (by rw[Qe];omega)]
theorem X5(d:AHY)(t:AH1)(i:Nat):(TB d t (i+1)).getD i []=Bp d (nd t i) (V4 (TB d t i) (nd t i)):=by
 simp only[TB,List.getD];rw[AHh (by rw[Qe];omega),Qe];simp
theorem Adm{A:Type}(f:A->Nat)(l:List A):(((l.map f).sum:Nat):Int)=(l.map λx=>(f x:Int)).sum:=by
 induction l with
 |nil=>rfl
 |cons x l ih=>simp only[List.map_cons,List.sum_cons];rw[<-ih];omega
theorem kO{d:AHY}{t:AH1}{ws:AHT}{i:Nat}(hd:AL d)(ht:Si t)(h:M4 d t ws)(hi:i<t.length)(hp:∀j,j<i->Bm d ((TB d t i).getD j [])/\(((TB d t i).getD j []).length:Int)=ws.getD j 0) :
    NB d (nd t i) (V4 (TB d t i) (nd t i))/\FF d (nd t i) (dx (V4 (TB d t i) (nd t i)))=ws.getD i 0/\MO (nd t i) i:=by
 obtain⟨_,_,hl,⟨_,AbD⟩,_⟩:=h;have hn:=AbD i (by omega);obtain⟨Fx,_,hf,hw,h1,h2⟩:=hn;have wh:(ws.take i).length=i:=by rw[AHg];omega
 rw[wh]at Fx;have hs:dx (V4 (TB d t i) (nd t i))=(Gf (ws.take i) (nd t i)).sum:=by
  unfold dx V4 Gf;rw[List.map_map,Adm];congr 1;refine List.map_congr_left λk hk=>?_;have:=Fx k hk;show(((TB d t i).getD k.toNat []).length:Int)=_;rw[(hp k.toNat (by omega)).2];simp only[List.getD,List.getElem?_take,show k.toNat<i by omega,if_true]
 refine⟨⟨hd,hf,ht.2 _ (AG hi),by simp[V4],by rw[hs,<-hw];exact⟨h1,h2⟩,λB hB=>?_⟩,by rw[hs,<-hw],Fx⟩;obtain⟨k,hk,rfl⟩:=List.mem_map.1 hB;have:=Fx k hk;exact(hp k.toNat (by omega)).1
theorem eG{d:AHY}{t:AH1}{ws:AHT}(hd:AL d)(ht:Si t)(h:M4 d t ws):∀i,i<=t.length->∀j,j<i->Bm d ((TB d t i).getD j [])/\(((TB d t i).getD j []).length:Int)=ws.getD j 0
 |0,_,j,hj=>by omega
 |i+1,hi,j,hj=>by
  have ih:=eG hd ht h i (by omega);rcases AG6 j i with h1 |h1
  ·rw[jy d t h1 (AHw i)];exact ih j h1
  ·have:j=i:=by omega
   subst this;obtain⟨hnb,hw,_⟩:=kO hd ht h (by omega) ih;rw[X5];exact⟨Tt hnb,by rw[YC hnb,hw]⟩
def lR(d:AHY)(t:AH1)(n:Nat):Prop:=∀i,i<n->(Av ((TB d t n).getD i [])).length<=2000
def dC(d:AHY)(t:AH1):List Bt:=(TB d t t.length).getD (t.length-1) []
open Classical in
noncomputable def F3(d:AHY)(t:AH1):Bool×AHZ:=if(∃ws,M4 d t ws)/\lR d t t.length then(true,fN (dC d t))else(false,[])
theorem lR.succ{d:AHY}{t:AH1}{n:Nat}:lR d t (n+1)↔lR d t n/\(Av (Bp d (nd t n) (V4 (TB d t n) (nd t n)))).length<=2000:=by
 unfold lR;constructor
 ·intro h;refine⟨λi hi=>?_,?_⟩
  ·have:=h i (by omega);rw[jy d t hi (AHw n)]at this;exact this
  ·have:=h n (by omega);rw[X5]at this;exact this
 ·rintro⟨h1,h2⟩ i hi
  rcases AG6 i n with h |h
  ·rw[jy d t h (AHw n)];exact h1 i h
  ·have:i=n:=by omega
   subst this;rw[X5];exact h2
theorem lR.mono{d:AHY}{t:AH1}{m n:Nat}(h:lR d t n)(hm:m<=n):lR d t m:=λi hi=>by
 have:=h i (by omega);rw[jy d t hi hm]at this;exact this
theorem kx{a:AHY}{g c:Int}{b:AHR}{j:AHL}{all:List (List Bt)}{pad:AH9}{n:AHL}(hn:(AE n).length<=1048576)(Fx:MO n all.length) :
    Nt a g c b (all.map fN++pad) j (AE n) ((AE n).length:Int) 0 (List.replicate (AE n).length [])=some ((V4 all n).map fN):=by
 unfold Nt;have Td:∀m,m<(AE n).length->(all.map fN++pad).getD ((AE n).getD m 0).toNat []=fN (all.getD ((AE n).getD m 0).toNat []):=λm hm=>by
  have:=Fx _ (AG (z:=(0:Int)) hm);rw[<-tN];generalize (AE n).getD m 0=q at this⊢;simp only[List.getD];rw[AHi (by rw[AG7];omega)];rfl
 have:=AQ (f:=ER a g c b (all.map fN++pad) j (AE n) ((AE n).length:Int)) (λk=>((k:Int),B7 (λm=>(all.map fN++pad).getD ((AE n).getD m 0).toNat []) [] (AE n).length k)) (t:=(V4 all n).map fN) (AE n).length (λk hk=>by
  unfold ER KE;simp only;have hk2:=Fx _ (AG (z:=(0:Int)) hk);have e0:(Ty.zero AIa:Int)=0:=rfl;rw[e0,DN hk,AHb,AHd (Bl hk),AGW,AHd ⟨hk2.1,by rw[AGZ,AG7];omega⟩,F7,AHd (Bl hk),Bi hk (by omega)];rw[show AIe.zero=([]:AHZ)from rfl,Ox (λm=>(all.map fN++pad).getD ((AE n).getD m 0).toNat []) [] (n:=(AE n).length) (k:=k)]) (by
  unfold ER KE;simp only;rw[EB,AHa];congr 2;unfold B7 V4;rw[List.map_map];refine List.ext_getElem (by simp) λi h1 h2=>?_;simp only[List.getElem_map,List.getElem_range,Function.comp];have hi:i<(AE n).length:=by simpa using h1
  rw[AHd hi,Td i hi];simp[List.getD,hi])
 rw[show B7 (λm=>(all.map fN++pad).getD ((AE n).getD m 0).toNat []) [] (AE n).length 0=List.replicate (AE n).length []from Lh _ _ _]at this;exact this
theorem AaY(B:List Bt):(fN B).length=(Av B).length:=BZ _
theorem AcR{d:AHY}{B:List Bt}(h:Bm d B):Small (fN B):=by
 have hlen:=CP (CV B);rw[Cj]at hlen;have h4:=h.2.1;refine⟨by rw[AaY];omega,λs hs=>?_⟩;obtain⟨q,hq,rfl⟩:=List.mem_map.1 hs;cases q with
 |co bs =>
  show(fT bs).2.1.length<=1048576;rw[(iE bs).1];have:(Sg.co bs).w<=A6 (Av B):=by
   have:∀(l:List Sg) (s:Sg),s∈l->s.w<=A6 l:=λl s hs=>by
    induction l with
    |nil=>cases hs
    |cons a l ih =>
     simp only[A6,List.map_cons,List.sum_cons];rcases List.mem_cons.1 hs with rfl |hs
     ·omega
     ·have:=ih hs;unfold A6 at this;omega
   exact this _ _ hq
  rw[Cj]at this;have e:(Sg.co bs).w=bs.length:=rfl;unfold nw;omega
 |va v l n=>show([]:AHT).length<=_;simp
theorem V3{d:AHY}{t:AH1}{ws:AHT}(hd:AL d)(ht:Si t)(h:M4 d t ws):FQ d (t,())=some (F3 d t):=by
 have R9:=h.1;have YX:=h.2.1;refine Ax.eq_ ?_;unfold FQ;rw[AHd ⟨rfl,by show(0:Int)<=(t.length:Int);omega,by omega,by show((24:Nat):Int)*(t.length:Int)<=_;omega,by show(t.length:Int)<=_;omega⟩];show Ax ((Nu d (t,()) (t.length:Int) 0 (List.replicate (t.length:Int).toNat [])).bind _) _;rw[AGW];refine Ax.bind (P:=λr=>(∃x,r=.inl x/\¬lR d t t.length)\/(r=.inr ((TB d t t.length).map fN)/\lR d t t.length)) ?_ λr hr=>?_
 ·unfold Nu;refine B8 (λm (x:Int×AH9)=>∃i:Nat,i<=t.length/\m=t.length-i/\x=((i:Int),(TB d t i).map fN++List.replicate (t.length-i) [])/\lR d t i) (λm x hI=>?_) t.length _ ⟨0,Nat.zero_le _,rfl,by simp[TB],λi hi=>by omega⟩;obtain⟨i,hi,rfl,rfl,Zs⟩:=hI;unfold KF O8;simp only;rcases AG6 i t.length with Bj |YW
  ·obtain⟨hnb,hw,Fx⟩:=kO hd ht h Bj (eG hd ht h i hi);have fE:=hnb.hb.1;have QJ:t.getD i Ag.zero=nd t i:=rfl;have TW:(nd t i).2.2.2.2.2.1=AE (nd t i):=rfl;rw[DN Bj,AHb,AHd (Bl Bj),AGW,QJ,TW,AHd ⟨rfl,by omega,by omega,by omega,by omega⟩,AGW];rw[kx fE (by rw[Qe];exact Fx),AGV,oG hnb,AGV];have hlen:((TB d t i).map fN++List.replicate (t.length-i) ([]:AHZ)).length=t.length:=by rw[AGZ,AG7,Qe,AHs];omega
   have F8:((TB d t i).map fN++List.replicate (t.length-i) ([]:AHZ)).set i (fN (Bp d (nd t i) (V4 (TB d t i) (nd t i))))=(TB d t (i+1)).map fN++List.replicate (t.length-(i+1)) []:=by
    rw[List.set_append_right _ _ (by rw[AG7,Qe];omega),AG7,Qe,Nat.sub_self,show t.length-i=(t.length-(i+1))+1 by omega,List.replicate_succ,List.set_cons_zero];simp only[TB,List.map_append,List.map_cons,List.map_nil,AG3];rfl
   have Td:((TB d t (i+1)).map fN++List.replicate (t.length-(i+1)) ([]:AHZ)).getD i AIe.zero=fN (Bp d (nd t i) (V4 (TB d t i) (nd t i))):=by
    rw[<-X5,<-tN];simp only[List.getD];rw[AHi (by rw[AG7,Qe];omega)]
   rw[hlen,AHd (Bl Bj),AG4,hlen,AHd (Bl Bj),F8,Td,AaY];by_cases hc:(Av (Bp d (nd t i) (V4 (TB d t i) (nd t i)))).length<=2000
   ·rw[AGY (by omega),AHa,Bi Bj (by omega)];exact Ax.mk ⟨t.length-(i+1),by omega,i+1,Bj,rfl,rfl,lR.succ.2 ⟨Zs,hc⟩⟩
   ·rw[AG0 (by omega),AHb];exact Ax.mk (.inl ⟨_,rfl,λh'=>hc (lR.succ.1 (h'.mono Bj)).2⟩)
  ·have:i=t.length:=by omega
   subst this;rw[EB,AHa];exact Ax.mk (.inr ⟨by simp,Zs⟩)
 ·rcases hr with ⟨x,rfl,Vx⟩|⟨rfl,Zs⟩
  ·simp only[Sum.elim_inl];refine Ax.mk ?_;unfold F3;rw[AHe (λh'=>Vx h'.2)]
  ·simp only[Sum.elim_inr];have Z1:wI ((((TB d t t.length).map fN).length:Int)-1)=((t.length-1:Nat):Int):=by rw[AG7,Qe];exact A2 (by omega) (by omega)
   rw[Z1,AG7,Qe,AHd ⟨by omega,by omega⟩,AGW,tN];have hb:=(eG hd ht h t.length (AG1 _) (t.length-1) (by omega)).1;rw[jN (AcR hb),AGV];refine Ax.mk ?_;unfold F3;rw[AHd ⟨⟨ws,h⟩,Zs⟩];rfl
theorem Pr{d:AHY}{t:AH1}(hd:AL d)(ht:Si t):CM d (t,())=some (F3 d t):=by
 refine Ax.eq_ ?_;unfold CM;have AFe:=hd.1;rw[SR ht (by omega) hd,AGV];by_cases hw:∃ws,M4 d t ws
 ·obtain⟨ws,h⟩:=hw;have R9:=h.1;have YX:=h.2.1;have hp:=xo h;rw[AGY (by omega),AHa];refine Ax.bind (P:=λr=>(r=.inl ()/\¬lR d t t.length)\/(r=.inr (fN (dC d t))/\lR d t t.length)) ?_ λr hr=>?_
  ·unfold RE;refine B8 (λm (x:Int×AH8×AHZ)=>∃i:Nat,i<=t.length/\m=t.length-i/\x.1=(i:Int)/\x.2.1=(TB d t i).map bV/\(0<i->x.2.2=fN ((TB d t i).getD (i-1) []))/\lR d t i) (λm x hI=>?_) t.length _ ⟨0,Nat.zero_le _,rfl,rfl,rfl,λh=>by omega,λi hi=>by omega⟩;obtain⟨x1,x2,x3⟩:=x;obtain⟨i,hi,rfl,h1,h2,h3,Zs⟩:=hI;simp only at h1 h2 h3;subst h1 h2;unfold KU Pu;simp only;rcases AG6 i t.length with Bj |YW
   ·obtain⟨hnb,hw,Fx⟩:=kO hd ht h Bj (eG hd ht h i hi);have fE:=hnb.hb.1;have QJ:t.getD i Ag.zero=nd t i:=rfl;have TW:(nd t i).2.2.2.2.2.1=AE (nd t i):=rfl;have AwK:NH d (i:Int) (t,()) ((TB d t i).map bV) 0 []=some ((V4 (TB d t i) (nd t i)).map bV):=by
     unfold NH;rw[VT (f:=EX d (i:Int) (t,()) ((TB d t i).map bV)) (AE (nd t i)).length (λm=>bV ((TB d t i).getD ((AE (nd t i)).getD m 0).toNat [])) [] (λk acc hk ha=>by
      unfold EX KT;simp only;have hk2:=Fx _ (AG (z:=(0:Int)) hk);simp at ha;have e0:(Ty.zero AIa:Int)=0:=rfl;rw[AHd (Bl Bj),AGW,QJ,TW,DN hk,AHb,AHd (Bl Bj),AHd (Bl hk),AGW,e0,AHd ⟨hk2.1,by rw[AG7,Qe];exact hk2.2⟩,Axm,Bi hk (by omega),AHd (by show(_+1)*24<=_;omega)]) (λacc=>by
      unfold EX KT;simp only;rw[AHd (Bl Bj),AGW,QJ,TW,EB,AHa])]
     rw[List.nil_append];congr 1;unfold V4;rw[List.map_map];refine List.ext_getElem (by simp) λq h1 h2=>?_;simp only[List.getElem_map,List.getElem_range,Function.comp];have hq:q<(AE (nd t i)).length:=by simpa using h1
     simp[List.getD,hq]
    rw[DN Bj,AHb,AwK,AGV,AHd (Bl Bj),AGW,QJ,pC hnb,AGV];have hb:=Tt hnb;rw[wu (λb p9=>T4 hd (hb.2.2 b p9)) hb.2.1,AGV];by_cases hc:(Av (Bp d (nd t i) (V4 (TB d t i) (nd t i)))).length<=2000
    ·simp only[AG0 hc,Bool.not_true,AHa];rw[AG7,Qe,AHd (by show(_+1)*24<=_;omega),Bi Bj (by omega)];refine Ax.mk ⟨t.length-(i+1),by omega,i+1,Bj,rfl,rfl,?_,λ_=>?_,lR.succ.2 ⟨Zs,hc⟩⟩
     ·simp only[TB,List.map_append,List.map_cons,List.map_nil]
     ·simp only[AHy];rw[X5];rfl
    ·simp only[AGY hc,Bool.not_false,AHb];exact Ax.mk (.inl ⟨rfl,λh'=>hc (lR.succ.1 (h'.mono Bj)).2⟩)
   ·have:i=t.length:=by omega
    subst this;rw[EB,AHa];exact Ax.mk (.inr ⟨by rw[h3 (by omega)];rfl,Zs⟩)
  ·rcases hr with ⟨rfl,Vx⟩|⟨rfl,Zs⟩
   ·simp only[Sum.elim_inl];refine Ax.mk ?_;unfold F3;rw[AHe (λh'=>Vx h'.2)]
   ·simp only[Sum.elim_inr];refine Ax.mk ?_;unfold F3;rw[AHd ⟨⟨ws,h⟩,Zs⟩]
 ·rw[UV hw,AG0 (by omega),AHb];refine Ax.mk ?_;unfold F3;rw[AHe (λh'=>hw h'.1)]
end Go.Proofs.X
namespace Go.Va
open Go.Proofs.X
def brk:List Bt->Nat
 |a::b::r=>(if a.sg.join b.sg=none then 1 else 0)+brk (b::r)
 |_=>0
theorem y8(B:List Bt)(c b:Bt):brk (B++[c,b])=brk (B++[c])+if c.sg.join b.sg=none then 1 else 0:=by
 induction B with
 |nil=>simp[brk]
 |cons a B ih =>
  cases B with
  |nil=>simp only[List.nil_append,List.cons_append,brk]at *;omega
  |cons x B=>simp only[List.cons_append,brk]at *;omega
theorem AbS{l s j:Sg}(h:l.join s=some j)(x:Bt):j.join x.sg=none↔s.join x.sg=none:=by
 cases l<;>cases s<;>simp only[Sg.join]at h
 ·cases h;cases x<;>simp[Sg.join,Bt.sg]
 ·cases h
 ·cases h
 ·split at h
  ·rename_i hc;cases h;cases x with
   |co b=>simp[Sg.join,Bt.sg]
   |va v a =>
    simp only[Sg.join,Bt.sg,hc.1,<-hc.2,Nat.add_assoc];split<;>simp
  ·cases h
theorem Acj(B:List Bt)(c:Bt):∃g l,Av (B++[c])=g++[l]/\∀x:Bt,l.join x.sg=none↔c.sg.join x.sg=none:=by
 have e:Av (B++[c])=G5 (Av B) c.sg:=by unfold Av;rw[Le];rfl
 rw[e];rcases List.eq_nil_or_concat (Av B)with h |⟨g,l,h⟩
 ·rw[h];exact⟨[],c.sg,rfl,λx=>Iff.rfl⟩
 ·rw[h,List.concat_eq_append,EI];cases hj:l.join c.sg with
  |none=>exact⟨g++[l],c.sg,by simp,λx=>Iff.rfl⟩
  |some j=>exact⟨g,j,rfl,AbS hj⟩
theorem oS(B:List Bt)(c:Bt):(Av (B++[c])).length=brk (B++[c])+1:=by
 have key:∀(n:Nat) (B:List Bt) (c:Bt),B.length=n->(Av (B++[c])).length=brk (B++[c])+1:=by
  intro n;induction n with
  |zero=>intro B c h;rw[List.length_eq_zero_iff.1 h];simp[Av,VE,G5,brk]
  |succ n ih =>
   intro B c h;rcases List.eq_nil_or_concat B with rfl |⟨B0,x,rfl⟩
   ·simp at h
   ·rw[List.concat_eq_append]at h⊢;rw[AG3];simp only[List.cons_append,List.nil_append];have i:=ih B0 x (by simp at h;omega);obtain⟨g,l,hg,hl⟩:=Acj B0 x;have e:Av (B0++[x,c])=G5 (Av (B0++[x])) c.sg:=by
     rw[show B0++[x,c]=(B0++[x])++[c] by simp];unfold Av;rw[Le];rfl
    rw[y8,e,hg,EI];rw[hg]at i;simp only[AGZ,List.length_cons,List.length_nil]at i;cases hj:l.join c.sg with
    |none=>rw[AHd ((hl c).1 hj)];simp;omega
    |some j =>
     rw[AHe (λh'=>by rw[(hl c).2 h']at hj;cases hj)];simp;omega
 exact key _ B c rfl
end Go.Va
namespace Go.Proofs.X
open Go Go.Va
set_option maxRecDepth 100000
def xN(d:AHY)(B:List Bt):Prop:=Bm d B/\(Av B).length<=2000
theorem xN.pos{d:AHY}{B:List Bt}(h:xN d B):1<=(Av B).length:=by
 rcases List.eq_nil_or_concat B with rfl |⟨B0,x,rfl⟩
 ·have:=h.1.1;simp at this
 ·rw[List.concat_eq_append,oS];omega
def Ti(d:AHY):Sg->Prop
 |.co bs=>1<=bs.length/\bs.length<=4096
 |.va v l n=>v<d.length/\1<=n/\((l+n:Nat):Int)<=dw d v
theorem Wc{d:AHY}{B:List Bt}(h:Bm d B){s:Sg}(hs:s∈Av B):Ti d s/\s.w<=4096:=by
 have hw:=CV B s hs;have hb:∀b∈s.bits,Vz d b:=λb hb=>h.2.2 b (by
  rw[<-Hd B];exact List.mem_flatMap.2 ⟨s,hs,hb⟩)
 have RX:s.w<=4096:=by
  have:∀(l:List Sg) (s:Sg),s∈l->s.w<=A6 l:=λl s hs=>by
   induction l with
   |nil=>cases hs
   |cons a l ih =>
    simp only[A6,List.map_cons,List.sum_cons];rcases List.mem_cons.1 hs with rfl |hs
    ·omega
    ·have:=ih hs;unfold A6 at this;omega
  have:=this _ _ hs;rw[Cj]at this;have:=h.2.1;omega
 refine⟨?_,RX⟩;cases s with
 |co bs=>exact⟨hw,RX⟩
 |va v l n =>
  have hn:1<=n:=hw;have h0:=hb (.va v l) (List.mem_map.2 ⟨0,List.mem_range.2 hn,by simp⟩);have h1:=hb (.va v (l+(n-1))) (List.mem_map.2 ⟨n-1,List.mem_range.2 (by omega),rfl⟩);have:=h1.2;exact⟨h0.1,hn,by omega⟩
def Ayy(B:List Bt)(hi lo:Int):Prop:=0<=lo/\lo<=hi/\hi<(B.length:Int)
instance (B:List Bt) (hi lo:Int):Decidable (Ayy B hi lo):=inferInstanceAs (Decidable (_/\_))
def AnK(A B:List Bt):Prop:=A.length+B.length<=4096/\(Av (B++A)).length<=2000
instance (A B:List Bt):Decidable (AnK A B):=inferInstanceAs (Decidable (_/\_))
end Go.Proofs.X
namespace Go.Proofs.X
open Go Go.Va
set_option maxRecDepth 100000
theorem AbW{d:AHY}{t:AH1}{ws:AHT}(hd:AL d)(ht:Si t)(h:M4 d t ws):Bm d (dC d t):=by
 have:=h.1;exact(eG hd ht h t.length (AG1 _) (t.length-1) (by omega)).1
theorem cQ{d:AHY}{t:AH1}(hd:AL d)(ht:Si t)(h:(F3 d t).1=true):xN d (dC d t)/\(F3 d t).2=fN (dC d t):=by
 unfold F3 at h⊢;split at h
 ·rename_i hc;rw[AHd hc];obtain⟨⟨ws,hw⟩,Zs⟩:=hc;have:=hw.1;exact⟨⟨AbW hd ht hw,Zs _ (by omega)⟩,rfl⟩
 ·cases h
theorem UW{d:AHY}{t:AH1}(h:0<=F6 d t):∃ws,M4 d t ws :=
 Classical.byContradiction λh'=>by rw[UV h']at h;omega
def bP(d:AHY)(l:AH0)(i:Nat):Prop:=(F3 d (lS l i)).1=true/\(F3 d (lT l i)).1=true
def FG(d:AHY)(l:AH0):Prop:=∀i,i<l.length->bP d l i
theorem kT{a b:Bool}:(!a||!b)=false↔a=true/\b=true:=by cases a<;>cases b<;>decide
def qp(l:AH0)(id:Int)(i:Nat):Prop:=(li l i).1=id/\(li l i).2.1=true
def qo(l:AH0)(id g:Int):Prop:=(g=-1/\∀i,i<l.length->¬qp l id i)\/∃k:Nat,g=(k:Int)/\k<l.length/\qp l id k/\∀i,i<k->¬qp l id i
theorem qo.unique{l:AH0}{id g h:Int}(hg:qo l id g)(hh:qo l id h):g=h:=by
 rcases hg with ⟨rfl,h1⟩|⟨k,rfl,hk,hp,hn⟩
 ·rcases hh with ⟨rfl,_⟩|⟨k,rfl,hk,hp,_⟩
  ·rfl
  ·exact absurd hp (h1 k hk)
 ·rcases hh with ⟨rfl,h1⟩|⟨j,rfl,hj,hq,hm⟩
  ·exact absurd hp (h1 k hk)
  ·rcases Nat.lt_trichotomy k j with h |h |h
   ·exact absurd hp (hm k h)
   ·rw[h]
   ·exact absurd hq (hn j h)
theorem n1:Ia ⟨#[105]⟩ ⟨#[]⟩=false:=by kernel_rfl
theorem n2:Ia ⟨#[116]⟩ ⟨#[]⟩=false:=by kernel_rfl
theorem n3:Ia ⟨#[105,106]⟩ ⟨#[]⟩=false:=by kernel_rfl
theorem n4:Ia ⟨#[105,112]⟩ ⟨#[]⟩=false:=by kernel_rfl
theorem n5:Ia ⟨#[]⟩ ⟨#[]⟩=true:=by kernel_rfl
def Cy(c:AH6)(v:Nat):AHT:=c.getD v []
def Ic(l:AHT)(i:Nat):Int:=l.getD i 0
def PlP(l:AHT)(w:Int)(i:Nat):Prop:=1<=Ic l i/\Ic l i<=w-1/\(0<i->Ic l (i-1)<Ic l i)
def X4(l:AHT)(w:Int):Prop:=∀i,i<l.length->PlP l w i
def Er(d:AHY)(c:AH6):Prop:=c.length=d.length/\∀v,v<d.length->X4 (Cy c v) (dw d v)
def Vr(c:AH6):Prop:=c.length<=1048576/\∀x∈c,x.length<=1048576
theorem Vr.row{c:AH6}(h:Vr c)(v:Nat):(Cy c v).length<=1048576:=by
 unfold Cy;by_cases hv:v<c.length
 ·exact h.2 _ (AG hv)
 ·simp[List.getD,hv]
theorem AaP{d:AHY}(hd:AL d){v:Nat}(hv:v<d.length):1<=dw d v/\dw d v<=4096:=(hd.2.1 v hv).2.1
theorem lh{d:AHY}{c:AH6}(hd:AL d)(hl:c.length=d.length){v j:Nat}(hv:v<d.length)(hj:j<(Cy c v).length)(hb:(Cy c v).length<=1048576)(hp:∀i,i<j->PlP (Cy c v) (dw d v) i) :
    ∃b,LB d (v:Int) (j:Int) (c,())=some b/\(b=false↔PlP (Cy c v) (dw d v) j):=by
 have hw:=AaP hd hv;unfold LB;have e1:(c.getD v AIf.zero)=Cy c v:=rfl;have e2:(d.getD v Ad.zero).2.1=dw d v:=rfl;have e3:(Cy c v).getD j AIa.zero=Ic (Cy c v) j:=rfl;simp only[AGW,e1,e2,e3];rw[AHd (Bl (by omega)),AHd (Bl hj),AHd (Bl hv),QR,BM (x:=dw d v-1) (by omega) (by omega)];by_cases h1:1<=Ic (Cy c v) j/\Ic (Cy c v) j<=dw d v-1
 ·rw[AG0 h1];simp only[Bool.not_true,AHa];rcases AHj j with h0 |h0
  ·subst h0;exact⟨false,by simp,λ_=>⟨h1.1,h1.2,λh=>by omega⟩,λ_=>rfl⟩
  ·rw[AG0 (by omega),AHb,A2 (x:=(j:Int)-1) (n:=j-1) (by omega) (by omega),AHd (Bl (by omega)),AHd (Bl hj),AHd (Bl (by omega)),AHd (Bl (by omega)),AGW];have e4:(Cy c v).getD (j-1) AIa.zero=Ic (Cy c v) (j-1):=rfl;simp only[e4];refine⟨_,rfl,?_⟩;rw[decide_eq_false_iff_not];exact⟨λh=>⟨h1.1,h1.2,λ_=>Int.not_le.1 h⟩,λh=>Int.not_le.2 (h.2.2 h0)⟩
 ·rw[AGY h1];exact⟨true,rfl,λh=>by(cases h),λh=>(h1 ⟨h.1,h.2.1⟩).elim⟩
theorem TC{d:AHY}{c:AH6}(hc:Vr c):Ax (HJ d (c,())) λr=>r=true↔AL d/\Er d c:=by
 unfold HJ Ps;obtain⟨r,hr,hq⟩:=UQ d;rw[hr,AGV];cases r with
 |false=>exact Ax.mk ⟨λh=>by(cases h),λh=>by have:=hq.2 h.1;cases this⟩
 |true =>
  have hd:=hq.1 rfl;simp only[Bool.not_true,AHa,AGV];by_cases hl:c.length=d.length
  ·rw[show((c.length:Int) !=(d.length:Int))=false by simp[hl],AHa];refine Ax.bind (P:=λt=>(t=.inl ()/\¬Er d c)\/(t=.inr ()/\Er d c)) ?_ λt ht=>?_
   ·unfold SV;refine BJ (λv (_:Unit)=>(v:Int)) c.length (λv _=>∀u,u<v->X4 (Cy c u) (dw d u)) (λv _ hv hI=>?_) (λ_ hI=>?_) (s0:=()) (λu hu=>by omega)
    ·unfold IW Mg;simp only;rw[DN hv,AHb];refine Ax.bind (P:=λt=>(t=.inl ()/\¬X4 (Cy c v) (dw d v))\/(t=.inr ()/\X4 (Cy c v) (dw d v))) ?_ λt ht=>?_
     ·unfold SU;refine BJ (λj (_:Unit)=>(j:Int)) (Cy c v).length (λj _=>∀i,i<j->PlP (Cy c v) (dw d v) i) (λj _ hj hJ=>?_) (λ_ hJ=>?_) (s0:=()) (λi hi=>by omega)
      ·unfold IV Mf;obtain⟨b,h1,h2⟩:=lh hd hl (by omega) hj (hc.row v) hJ;have e1:(c.getD v AIf.zero)=Cy c v:=rfl;simp only[AGW,e1];rw[AHd (Bl hv),DN hj,AHb,h1,AGV];cases b with
       |true=>exact Ax.mk (.inl ⟨rfl,λh=>by have:=h2.2 (h j hj);cases this⟩)
       |false =>
        rw[AHa,Bi hj (hc.row v)];refine Ax.mk ⟨(),rfl,λi hi=>?_⟩;rcases AG6 i j with h |h
        ·exact hJ i h
        ·rw[show i=j by omega];exact h2.1 rfl
      ·unfold IV Mf;have e1:(c.getD v AIf.zero)=Cy c v:=rfl;simp only[AGW,e1];rw[AHd (Bl hv),EB,AHa];exact Ax.mk (.inr ⟨rfl,hJ⟩)
     ·rcases ht with ⟨rfl,h⟩|⟨rfl,h⟩
      ·exact Ax.mk (.inl ⟨rfl,λh'=>h (h'.2 v (by omega))⟩)
      ·simp only[Sum.elim_inr];rw[Bi hv hc.1];refine Ax.mk ⟨(),rfl,λu hu=>?_⟩;rcases AG6 u v with h' |h'
       ·exact hI u h'
       ·rw[show u=v by omega];exact h
    ·unfold IW Mg;simp only;rw[EB,AHa];exact Ax.mk (.inr ⟨rfl,hl,λv hv=>hI v (by omega)⟩)
   ·rcases ht with ⟨rfl,h⟩|⟨rfl,h⟩
    ·exact Ax.mk ⟨λh=>by(cases h),λh'=>absurd h'.2 h⟩
    ·exact Ax.mk ⟨λ_=>⟨hd,h⟩,λ_=>rfl⟩
  ·rw[show((c.length:Int) !=(d.length:Int))=true by simp;omega,AHb];exact Ax.mk ⟨λh=>by(cases h),λh=>absurd h.2.1 hl⟩
theorem kv{d:AHY}{c:AH6}(hc:Vr c)(hd:AL d):Ax (OD d (c,())) λr=>r=true↔Er d c:=by
 unfold OD;by_cases hl:c.length=d.length
 ·rw[show((c.length:Int) !=(d.length:Int))=false by simp[hl],AHa];refine Ax.bind (P:=λt=>(t=.inl ()/\¬Er d c)\/(t=.inr ()/\Er d c)) ?_ λt ht=>?_
  ·unfold Sr;refine BJ (λv (_:Unit)=>(v:Int)) c.length (λv _=>∀u,u<v->X4 (Cy c u) (dw d u)) (λv _ hv hI=>?_) (λ_ hI=>?_) (s0:=()) (λu hu=>by omega)
   ·unfold IH LZ;have e1:(c.getD v AIf.zero)=Cy c v:=rfl;have hw:=AaP hd (show v<d.length by omega);simp only[AGW,e1];rw[DN hv,AHb,AHd (Bl hv)];refine Ax.bind (P:=λt=>(t=.inl ()/\¬X4 (Cy c v) (dw d v))\/(t=.inr ()/\X4 (Cy c v) (dw d v))) ?_ λt ht=>?_
    ·unfold Sq;have:=BJ (f:=Ga d (v:Int) c (c.length:Int) (Cy c v) ((Cy c v).length:Int)) (λj (_:Unit)=>((if j=0 then 0 else Ic (Cy c v) (j-1):Int),(j:Int))) (Cy c v).length (λj _=>∀i,i<j->PlP (Cy c v) (dw d v) i) (Q:=λt=>(t=.inl ()/\¬X4 (Cy c v) (dw d v))\/(t=.inr ()/\X4 (Cy c v) (dw d v))) (λj _ hj hJ=>?_) (λ_ hJ=>?_) (s0:=()) (λi hi=>by omega)
     ·exact this
     ·unfold Ga LY;have e2:(d.getD v Ad.zero).2.1=dw d v:=rfl;have e3:(Cy c v).getD j AIa.zero=Ic (Cy c v) j:=rfl;simp only[AGW,e2,e3];obtain⟨q,hq⟩:∃q:Int,q=if j=0 then 0 else Ic (Cy c v) (j-1):=⟨_,rfl⟩;have hqb:0<=q/\q<=4096/\(0<j->q=Ic (Cy c v) (j-1))/\(j=0->q=0):=by
       by_cases h0:j=0
       ·rw[AHd h0]at hq;exact⟨by omega,by omega,λh=>by omega,λ_=>hq⟩
       ·rw[AHe h0]at hq;have:=hJ (j-1) (by omega);exact⟨by rw[hq];have:=this.1;omega,by rw[hq];have:=this.2.1;omega,λ_=>hq,λh=>absurd h h0⟩
      rw[<-hq,DN hj,AHb,AHd (Bl hj),AHd (Bl (by omega)),Kj,BM (x:=dw d v-1) (by omega) (by omega),BM (x:=q+1) (by omega) (by omega)];by_cases h1:q+1<=Ic (Cy c v) j/\Ic (Cy c v) j<=dw d v-1
      ·rw[AG0 h1];simp only[Bool.not_true,AHa];rw[Bi hj (hc.row v)];refine Ax.mk ⟨(),by simp,λi hi=>?_⟩;rcases AG6 i j with h |h
       ·exact hJ i h
       ·rw[show i=j by omega];exact⟨by omega,h1.2,λh0=>by have:=hqb.2.2.1 h0;omega⟩
      ·rw[AGY h1];refine Ax.mk (.inl ⟨rfl,λh=>h1 ?_⟩);have:=h j hj;refine⟨?_,this.2.1⟩;rcases AHj j with h0 |h0
       ·have:=hqb.2.2.2 h0;have:=(h j hj).1;omega
       ·have:=hqb.2.2.1 h0;have:=(h j hj).2.2 h0;omega
     ·unfold Ga LY;simp only;rw[EB,AHa];exact Ax.mk (.inr ⟨rfl,hJ⟩)
    ·rcases ht with ⟨rfl,h⟩|⟨rfl,h⟩
     ·exact Ax.mk (.inl ⟨rfl,λh'=>h (h'.2 v (by omega))⟩)
     ·simp only[Sum.elim_inr];rw[Bi hv hc.1];refine Ax.mk ⟨(),rfl,λu hu=>?_⟩;rcases AG6 u v with h' |h'
      ·exact hI u h'
      ·rw[show u=v by omega];exact h
   ·unfold IH LZ;simp only;rw[EB,AHa];exact Ax.mk (.inr ⟨rfl,hl,λv hv=>hI v (by omega)⟩)
  ·rcases ht with ⟨rfl,h⟩|⟨rfl,h⟩
   ·exact Ax.mk ⟨λh=>by(cases h),λh'=>absurd h' h⟩
   ·exact Ax.mk ⟨λ_=>h,λ_=>rfl⟩
 ·rw[show((c.length:Int) !=(d.length:Int))=true by simp;omega,AHb];exact Ax.mk ⟨λh=>by(cases h),λh=>absurd h.1 hl⟩
theorem oC{d:AHY}{c:AH6}(hc:Vr c):Ax (OA d (c,())) λr=>r=true↔AL d/\Er d c:=by
 unfold OA;obtain⟨r,hr,hq⟩:=Yw d;rw[hr,AGV];cases r with
 |false=>exact Ax.mk ⟨λh=>by(cases h),λh=>by have:=hq.2 h.1;cases this⟩
 |true =>
  have hd:=hq.1 rfl;rw[AHb];refine Ax.bind (kv hc hd) λr hr=>Ax.mk ⟨λh=>⟨hd,hr.1 h⟩,λh=>hr.2 h.2⟩
def GF(n:Nat)(f:Nat->Bool):AHU:=(List.range n).map f
def W(d:AHY)(v:Nat):Nat:=(dw d v).toNat
def mark(f:Nat->Nat->Bool)(v p:Nat):Nat->Nat->Bool:=λu q=>f u q||(u==v&&q==p)
def M(d:AHY)(x:Nat)(f:Nat->Nat->Bool):AH7:=(List.range d.length).map λv=>GF (W d v+x) (f v)
theorem IR(n:Nat)(f:Nat->Bool):(GF n f).length=n:=by simp[GF]
theorem YL{n:Nat}{f:Nat->Bool}{p:Nat}{z:Bool}(h:p<n):(GF n f).getD p z=f p:=by simp[GF,List.getD,h]
theorem SQ{n:Nat}{f g:Nat->Bool}(h:∀p,p<n->f p=g p):GF n f=GF n g:=List.map_congr_left λp hp=>h p (List.mem_range.1 hp)
theorem dW(n:Nat)(f:Nat->Bool)(p:Nat):(GF n f).set p true=GF n λq=>f q||q==p:=by
 apply List.ext_getElem?;intro q;rw[AHk];by_cases hq:q<n
 ·by_cases e:p=q
  ·subst e;simp[GF,hq]
  ·have:¬q=p:=λh=>e h.symm;simp[GF,hq,e,this]
 ·have h1:(GF n λq=>f q||q==p)[q]?=none:=by simp[GF];omega
  have h2:(GF n f)[q]?=none:=by simp[GF];omega
  rw[h1];split
  ·rw[AHe (by rw[IR];omega)]
  ·exact h2
theorem dV(n:Nat):GF n (λ_=>false)=List.replicate n false:=by
 apply List.ext_getElem<;>simp[GF]
theorem TY(d:AHY)(x:Nat)(f:Nat->Nat->Bool):(M d x f).length=d.length:=by simp[M]
theorem VB{d:AHY}{x:Nat}{f:Nat->Nat->Bool}{v:Nat}{z:AHU}(h:v<d.length):(M d x f).getD v z=GF (W d v+x) (f v):=by simp[M,List.getD,h]
theorem jj{d:AHY}{x:Nat}{f:Nat->Nat->Bool}{v p:Nat}{z:AHU}(h:v<d.length):(M d x f).set v (((M d x f).getD v z).set p true)=M d x (mark f v p):=by
 rw[VB h,dW];apply List.ext_getElem?;intro u;rw[AHk];by_cases hu:u<d.length
 ·by_cases e:v=u
  ·subst e;rw[AHd rfl,AHd (by rw[TY];exact h)];simp[M,hu,mark,GF]
  ·have:¬u=v:=λh=>e h.symm;rw[AHe e];simp only[M,AHo,List.getElem?_range hu,Option.map_some];exact congrArg some (SQ λp _=>by simp[mark,this])
 ·have h1:(M d x (mark f v p))[u]?=none:=by simp[M];omega
  rw[h1,AHe (by omega)];simp[M];omega
theorem Qf{d:AHY}(hd:AL d){v:Nat}(hv:v<d.length):dw d v=(W d v:Int)/\1<=W d v/\W d v<=4096:=by
 have:=AaP hd hv;unfold W;omega
def C0(c:AH6):Nat->Nat->Bool:=λv p=>(Cy c v).contains (p:Int)
def A0(w:Nat)(f:Nat->Bool):AHT:=((List.range w).filter λp=>decide (1<=p)&&f p).map Int.ofNat
def AY(d:AHY)(f:Nat->Nat->Bool):AH6:=(List.range d.length).map λv=>A0 (W d v) (f v)
theorem fX{w:Nat}{f g:Nat->Bool}(h:∀p,p<w->1<=p->f p=g p):A0 w f=A0 w g:=by
 unfold A0;congr 1;refine List.filter_congr λp hp=>?_;by_cases h1:1<=p
 ·rw[h p (List.mem_range.1 hp) h1]
 ·simp[h1]
theorem jS{d:AHY}{f g:Nat->Nat->Bool}(h:∀v p,v<d.length->p<W d v->1<=p->f v p=g v p):AY d f=AY d g :=
 List.map_congr_left λv hv=>fX λp hp h1=>h v p (List.mem_range.1 hv) hp h1
theorem UM(w:Nat)(f:Nat->Bool)(hw:w<=1):A0 w f=[]:=by
 unfold A0;rw[List.map_eq_nil_iff,List.filter_eq_nil_iff];intro p hp;have:=List.mem_range.1 hp;simp;omega
theorem YI(w:Nat)(f:Nat->Bool)(hw:1<=w):A0 (w+1) f=if f w then A0 w f++[(w:Int)]else A0 w f:=by
 unfold A0;rw[List.range_succ,List.filter_append,List.map_append];cases h:f w<;>simp[hw,h]
theorem V9(w:Nat)(f:Nat->Bool):(A0 w f).length<=w:=by
 unfold A0;rw[AG7];exact AHp (List.length_filter_le _ _) (by simp)
theorem GD{A:Type}(g:Nat->A)(k:Nat):(List.range (k+1)).map g=(List.range k).map g++[g k]:=by rw[List.range_succ,List.map_append];rfl
theorem AmQ{x:Int}(h1:0<=x)(h2:x<4611686018427387904):wI x=x:=BM (by omega) (by omega)
theorem bz{l:AHT}{w:Int}(h:X4 l w){x:Int}(hx:x∈l):1<=x/\x<=w-1:=by
 obtain⟨i,hi,rfl⟩:=List.getElem_of_mem hx;have:=h i hi;have e:Ic l i=l[i]:=by simp[Ic,List.getD,hi]
 exact⟨by have:=this.1;omega,by have:=this.2.1;omega⟩
theorem Xg{l:AHT}{i:Nat}(hi:i<l.length)(q:Int):(l.take (i+1)).contains q=((l.take i).contains q||q==Ic l i):=by
 rw[AX (z:=0) hi,List.contains_eq_any_beq,List.any_append,List.contains_eq_any_beq];simp[Ic]
theorem kB(a b:Nat):((a:Int)==(b:Int))=(a==b):=by
 by_cases h:a=b
 ·subst h;simp
 ·rw[beq_eq_false_iff_ne.2 h,beq_eq_false_iff_ne];omega
theorem YR{d:AHY}{c:AH6}(hd:AL d)(hc:Er d c)(hb:Vr c):JQ d (c,())=some (M d 1 (C0 c)):=by
 unfold JQ RH;have bj:=hd.1;rw[Option.bind_eq_some_iff];refine⟨_,?_,rfl⟩;have:=AQ (f:=Fj d (c,())) (λv=>((v:Int),(List.range v).map λu=>GF (W d u+1) (C0 c u))) (t:=M d 1 (C0 c)) d.length (λv hv=>?_) ?_
 ·exact this
 ·unfold Fj K7;obtain⟨e0,bn,dn⟩:=Qf hd hv;have hp:=hc.2 v hv;have e2:(d.getD v Ad.zero).2.1=(W d v:Int):=e0;simp only[AGW,e2];rw[DN hv,AHb,AHd (Bl hv),AmQ (x:=(W d v:Int)+1) (by omega) (by omega),AHd ⟨rfl,by omega,by omega,by omega,by omega⟩];have Od:N3 d (v:Int) (c,()) ((List.range v).map λu=>GF (W d u+1) (C0 c u)) 0 (List.replicate ((W d v:Int)+1).toNat false)=some (GF (W d v+1) (C0 c v)):=by
   unfold N3;have:=AQ (f:=Fh d (v:Int) (c,()) ((List.range v).map λu=>GF (W d u+1) (C0 c u))) (λi=>((i:Int),GF (W d v+1) λp=>((Cy c v).take i).contains (p:Int))) (t:=GF (W d v+1) (C0 c v)) (Cy c v).length (λi hi=>?_) ?_
   ·have e:List.replicate ((W d v:Int)+1).toNat false=GF (W d v+1) λp=>((Cy c v).take 0).contains (p:Int):=by
      rw[show((W d v:Int)+1).toNat=W d v+1 by omega,<-dV];exact SQ λp _=>by simp
    rw[e];exact this
   ·unfold Fh K6;have e1:(c.getD v AIf.zero)=Cy c v:=rfl;have e3:(Cy c v).getD i AIa.zero=Ic (Cy c v) i:=rfl;have hpi:=hp i hi;obtain⟨p,hpp⟩:∃p:Nat,Ic (Cy c v) i=(p:Int):=⟨(Ic (Cy c v) i).toNat,by have:=hpi.1;omega⟩;have om:p<W d v:=by have:=hpi.2.1;omega
    simp only[AGW,e1,e3,hpp];rw[AHd (Bl (by rw[hc.1];exact hv)),DN hi,AHb,AHd (Bl (by rw[hc.1];exact hv)),AHd (Bl hi),AHd (by rw[IR];exact Bl (by omega)),Bi hi (hb.row v),dW];have e5:(GF (W d v+1) λq=>((Cy c v).take i).contains (q:Int)||q==p)=GF (W d v+1) λq=>((Cy c v).take (i+1)).contains (q:Int):=SQ λq _=>by rw[Xg hi,hpp,kB]
    rw[e5]
   ·unfold Fh K6;have e1:(c.getD v AIf.zero)=Cy c v:=rfl;simp only[AGW,e1];rw[AHd (Bl (by rw[hc.1];exact hv)),EB,AHa,AG5 (AG1 _)];rfl
  rw[Od,AGV,AHd (by simp;omega),Bi hv (by omega),GD]
 ·unfold Fj K7;simp only;rw[EB,AHa];rfl
theorem gd{d:AHY}(hd:AL d)(f:Nat->Nat->Bool):OP (M d 1 f)=some (AY d f):=by
 unfold OP S5;have bj:=hd.1;rw[Option.bind_eq_some_iff];refine⟨_,?_,rfl⟩;have:=AQ (f:=Gm (M d 1 f)) (λv=>((v:Int),(List.range v).map λu=>A0 (W d u) (f u))) (t:=AY d f) d.length (λv hv=>?_) ?_
 ·exact this
 ·unfold Gm ME;obtain⟨e0,bn,dn⟩:=Qf hd hv;simp only;rw[TY,DN hv,AHb];have Od:PR (M d 1 f) (v:Int) ((List.range v).map λu=>A0 (W d u) (f u)) 1 []=some (A0 (W d v) (f v)):=by
   unfold PR;have:=AQ (f:=Gl (M d 1 f) (v:Int) ((List.range v).map λu=>A0 (W d u) (f u))) (λi=>(((i+1:Nat):Int),A0 (i+1) (f v))) (t:=A0 (W d v) (f v)) (W d v-1) (λi hi=>?_) ?_
   ·have e:A0 (0+1) (f v)=[]:=UM _ _ (by omega);rw[<-e];exact this
   ·unfold Gl MD;have hlen:=V9 (i+1) (f v);simp only;rw[TY,AHd (Bl hv),AGW,VB hv,IR,A2 (x:=((i+1:Nat):Int)+1) (n:=i+1+1) (by omega) (by omega),DN (show i+1+1<W d v+1 by omega),AHb];have:LL (M d 1 f) (v:Int) ((i+1:Nat):Int) (A0 (i+1) (f v)) ((List.range v).map λu=>A0 (W d u) (f u))=some (A0 (i+1+1) (f v)):=by
     unfold LL;rw[TY,AHd (Bl hv),AGW,VB hv,IR,AHd (Bl (by omega)),AGW,YL (by omega),YI (i+1) (f v) (by omega)];cases f v (i+1)with
     |true=>rw[AHb,AHd (by simp;omega)];rfl
     |false=>rfl
    rw[this];rfl
   ·unfold Gl MD;simp only;rw[TY,AHd (Bl hv),AGW,VB hv,IR,A2 (x:=((W d v-1+1:Nat):Int)+1) (n:=W d v+1) (by omega) (by omega),EB,AHa,show W d v-1+1=W d v by omega]
  rw[Od,AGV,AHd (by simp;omega),Bi hv (by omega),GD]
 ·unfold Gm ME;simp only;rw[TY,EB,AHa];rfl
theorem rL{d:AHY}(hd:AL d){f:Nat->Nat->Bool}(hf:∀v,f v 0=false){a:List (AHG×AHW)}{c:AHY}{e:AHW} :
    Ho a (d.length:Int) c (M d 0 f) e 0 (List.replicate d.length [])=some (AY d f):=by
 have bj:=hd.1;unfold Ho;have:=AQ (f:=CH a (d.length:Int) c (M d 0 f) e) (λv=>((v:Int),B7 (λu=>A0 (W d u) (f u)) [] d.length v)) (t:=AY d f) d.length (λv hv=>?_) ?_
 ·rw[<-Lh (λu=>A0 (W d u) (f u))];exact this
 ·unfold CH FO;obtain⟨e0,bn,dn⟩:=Qf hd hv;simp only;rw[DN hv,AHb,AHd (by rw[TY];exact Bl hv),AGW,VB hv,IR];have Od:Hn (v:Int) (d.length:Int) c (M d 0 f) a e (GF (W d v+0) (f v)) ((W d v+0:Nat):Int) 0 (B7 (λu=>A0 (W d u) (f u)) [] d.length v)=some ((B7 (λu=>A0 (W d u) (f u)) [] d.length v).set v (A0 (W d v) (f v))):=by
   unfold Hn;have:=AQ (f:=CG (v:Int) (d.length:Int) c (M d 0 f) a e (GF (W d v+0) (f v)) ((W d v+0:Nat):Int)) (λi=>((i:Int),(B7 (λu=>A0 (W d u) (f u)) [] d.length v).set v (A0 i (f v)))) (t:=(B7 (λu=>A0 (W d u) (f u)) [] d.length v).set v (A0 (W d v) (f v))) (W d v+0) (λi hi=>?_) ?_
   ·have e1:(B7 (λu=>A0 (W d u) (f u)) [] d.length v).set v (A0 0 (f v))=B7 (λu=>A0 (W d u) (f u)) [] d.length v:=by
      apply List.ext_getElem?;intro u;rw[AHk];split
      ·rename_i h;subst h;rw[F7,AHd hv];simp[B7,hv,A0]
      ·rfl
    rw[e1]at this;exact this
   ·unfold CG FN;have hlen:=V9 i (f v);simp only;rw[DN hi,AHb];have:EE (v:Int) (d.length:Int) (GF (W d v+0) (f v)) ((W d v+0:Nat):Int) (i:Int) c (M d 0 f) a e ((B7 (λu=>A0 (W d u) (f u)) [] d.length v).set v (A0 i (f v)))=some ((B7 (λu=>A0 (W d u) (f u)) [] d.length v).set v (A0 (i+1) (f v))):=by
     unfold EE Hm;have Td:((B7 (λu=>A0 (W d u) (f u)) [] d.length v).set v (A0 i (f v))).getD v AIf.zero=A0 i (f v):=by
      simp[List.getD,F7,hv]
     rw[IR,AHd (Bl hi)];simp only[AGW,Td,AG4,F7,List.set_set];rw[YL hi];rcases AHj i with h0 |h0
     ·subst h0;rw[hf v,AHa];have e1:A0 0 (f v)=A0 (0+1) (f v):=by rw[UM 0 _ (by omega),UM (0+1) _ (by omega)]
      rw[e1]
     ·rw[YI _ _ h0];cases f v i with
      |true=>rw[AHb,AHd (Bl hv),AHd (by simp;omega),AHd (Bl hv),AHd trivial];rfl
      |false=>rfl
    rw[this,AGV,Bi hi (by omega)]
   ·unfold CG FN;simp only;rw[EB,AHa];rfl
  rw[Od,AGV,Ox,Bi hv (by omega)]
 ·unfold CH FO;simp only;rw[EB,AHa];have:B7 (λu=>A0 (W d u) (f u)) [] d.length d.length=AY d f:=by
   unfold B7 AY;exact List.map_congr_left λv hv=>by rw[AHd (List.mem_range.1 hv)]
  rw[this]
def frs(s:Sg):AHU:=(List.range s.w).map (·==0)
def spot(s:Sg)(k:Nat):AHH:=if k=0 then(0,0,0,())else match s with |.co _=>(2,0,0,())|.va v l _=>(1,(v:Int),((l+k:Nat):Int),())
def spt(s:Sg):AHX:=(List.range s.w).map (spot s)
def Vg(f:List Sg):AHU:=f.flatMap frs
def YZ(f:List Sg):AHX:=f.flatMap spt
theorem Sn{A:Type}{F:Sg->List A}(hF:∀s,(F s).length=s.w)(f:List Sg):(f.flatMap F).length=A6 f:=by
 rw[List.length_flatMap];exact congrArg List.sum (List.map_congr_left λs _=>hF s)
theorem j9(s:Sg):(frs s).length=s.w:=by simp[frs]
theorem lq(s:Sg):(spt s).length=s.w:=by simp[spt]
theorem WA{A:Type}(F:Sg->List A){f:List Sg}{i:Nat}(hi:i<f.length):(f.take (i+1)).flatMap F=(f.take i).flatMap F++F (f.getD i (.co [])):=by
 rw[AX (z:=.co []) hi,List.flatMap_append];simp
theorem flat_get{A:Type}{F:Sg->List A}(hF:∀s,(F s).length=s.w){f:List Sg}{i k:Nat}{z:A}(hi:i<f.length)(hk:k<(f.getD i (.co [])).w):(f.flatMap F).getD (A6 (f.take i)+k) z=(F (f.getD i (.co []))).getD k z:=by
 have e:f.flatMap F=(f.take i).flatMap F++(F (f.getD i (.co []))++(f.drop (i+1)).flatMap F):=by
  rw[<-AG3,<-WA F hi,<-List.flatMap_append,List.take_append_drop]
 rw[e];simp only[List.getD];rw[AHh (by rw[Sn hF];omega),Sn hF,show A6 (f.take i)+k-A6 (f.take i)=k by omega,AHi (by rw[hF];exact hk)]
theorem AcH:∀{f:List Sg} {p:Nat},p<A6 f->∃i k,i<f.length/\k<(f.getD i (.co [])).w/\p=A6 (f.take i)+k
 |[],p,h=>by simp[A6]at h
 |s::f,p,h=>by
  have e:A6 (s::f)=s.w+A6 f:=by simp[A6]
  by_cases hp:p<s.w
  ·exact⟨0,p,by simp,by simpa using hp,by simp[A6]⟩
  ·obtain⟨i,k,h1,h2,h3⟩:=AcH (f:=f) (p:=p-s.w) (by omega);refine⟨i+1,k,by simp;omega,by simpa using h2,?_⟩;have:A6 ((s::f).take (i+1))=s.w+A6 (f.take i):=by simp[A6]
   omega
theorem WM{f:List Sg}{i:Nat}(hi:i<f.length):A6 (f.take i)+(f.getD i (.co [])).w<=A6 f:=by
 rw[<-EK hi];exact Ez f _
theorem Jx{A:Type}{g:Nat->A}{n k:Nat}{z:A}(h:k<n):((List.range n).map g).getD k z=g k:=by simp[List.getD,h]
theorem Ra{f:List Sg}{i k:Nat}(hi:i<f.length)(hk:k<(f.getD i (.co [])).w) :
    (CX f).getD (A6 (f.take i)+k) (.co false)=(f.getD i (.co [])).bits.getD k (.co false)/\(Vg f).getD (A6 (f.take i)+k) false=(k==0)/\(YZ f).getD (A6 (f.take i)+k) Ab.zero=spot (f.getD i (.co [])) k:=by
 refine⟨flat_get J0 hi hk,?_,?_⟩
 ·unfold Vg;rw[flat_get j9 hi hk];exact Jx hk
 ·unfold YZ;rw[flat_get lq hi hk];exact Jx hk
theorem pE{f:List Sg}(h1:WU f)(hf:∀s∈f,Uu s)(hw:A6 f<=4096):HP (fV f)=some (bV (CX f),Vg f):=by
 unfold HP;have hlen:=CP h1;rw[wq h1 hf hw,AGV];have:PT (fV f) (bV (CX f)) 0 []=some (Vg f):=by
  unfold PT;have:=AQ (f:=Gq (fV f) (bV (CX f))) (λi=>((i:Int),Vg (f.take i))) (t:=Vg f) f.length (λi hi=>?_) ?_
  ·exact this
  ·unfold Gq MI;simp only;rw[BZ,DN hi,AHb];have hwt:=Ez f i;have he:=WM hi;have Fx:PS (fV f) (i:Int) (bV (CX f)) 0 (Vg (f.take i))=some (Vg (f.take (i+1))):=by
    unfold PS;have:=AQ (f:=Gp (fV f) (i:Int) (bV (CX f))) (λk=>((k:Int),Vg (f.take i)++(List.range k).map (·==0))) (t:=Vg (f.take (i+1))) (f.getD i (.co [])).w (λk hk=>?_) ?_
    ·rw[show Vg (f.take i)=Vg (f.take i)++(List.range 0).map (·==0) by simp];exact this
    ·unfold Gp MH;simp only[AGW,cM hi,Xd];have hl:(Vg (f.take i)++(List.range k).map (·==0)).length=A6 (f.take i)+k:=by
      rw[AGZ,show(Vg (f.take i)).length=A6 (f.take i)from Sn j9 _];simp
     rw[BZ,AHd (Bl hi),DN hk,AHb,AHd (by rw[hl];simp;omega),Bi hk (by omega),GD,AG3,show((k:Int)==0)=(k==0)from kB k 0]
    ·unfold Gp MH;simp only[AGW,cM hi,Xd];rw[BZ,AHd (Bl hi),EB,AHa];unfold Vg;rw[WA frs hi];rfl
   rw[Fx,AGV,Bi hi (by omega)]
  ·unfold Gq MI;simp only;rw[BZ,EB,AHa,AG5 (AG1 _)]
 rw[this];rfl
theorem kA{f:List Sg}(h1:WU f)(hf:∀s∈f,Uu s)(hw:A6 f<=4096):Ht (fV f)=some (YZ f):=by
 unfold Ht;have hlen:=CP h1;have:Ny (fV f) ((fV f).length:Int) 0 []=some (YZ f):=by
  unfold Ny;rw[BZ];have:=AQ (f:=ET (fV f) (f.length:Int)) (λi=>((i:Int),YZ (f.take i))) (t:=YZ f) f.length (λi hi=>?_) ?_
  ·exact this
  ·unfold ET KJ;simp only[AGW,cM hi];have hwt:=Ez f i;have he:=WM hi;have h1i:=h1 _ (AG (z:=.co []) hi);have hfi:=hf _ (AG (z:=.co []) hi);have bm:(YZ (f.take i)).length=A6 (f.take i):=Sn lq _;rw[BZ,DN hi,AHb,AHd (Bl hi),AHd (by rw[bm];simp;omega)];have Fx:Nx (fV f) (f.length:Int) (i:Int) (He (f.getD i (.co []))) 1 (YZ (f.take i)++[(0,0,0,())])=some (YZ (f.take (i+1))):=by
    unfold Nx;have:=AQ (f:=ES (fV f) (f.length:Int) (i:Int) (He (f.getD i (.co [])))) (λk=>(((k+1:Nat):Int),YZ (f.take i)++(List.range (k+1)).map (spot (f.getD i (.co []))))) (t:=YZ (f.take (i+1))) ((f.getD i (.co [])).w-1) (λk hk=>?_) ?_
    ·exact this
    ·unfold ES KI;simp only[Xd];have hl:(YZ (f.take i)++(List.range (k+1)).map (spot (f.getD i (.co [])))).length=A6 (f.take i)+(k+1):=by
      rw[AGZ,bm];simp
     rw[DN (show k+1<(f.getD i (.co [])).w by omega),AHb];have:J5 ((k+1:Nat):Int) (fV f) (f.length:Int) (i:Int) (YZ (f.take i)++(List.range (k+1)).map (spot (f.getD i (.co [])))) (He (f.getD i (.co [])))=some (YZ (f.take i)++(List.range (k+1+1)).map (spot (f.getD i (.co [])))):=by
      unfold J5;rw[GD _ (k+1),<-AG3];cases hs:f.getD i (.co [])with
      |co b =>
       rw[hs]at hl;rw[show((He (.co b)).1==-1)=true from rfl,AHb,AHd (by rw[hl];simp;omega)];rfl
      |va v l n =>
       rw[hs]at hl hk hfi he;simp only[Sg.w,Uu]at hk hfi he;rw[show((He (.va v l n)).1==-1)=false from beq_eq_false_iff_ne.2 (show(v:Int)≠-1 by omega),AHa,AHd (by rw[hl];simp;omega)];rw[show wI ((He (.va v l n)).2.1+((k+1:Nat):Int))=((l+(k+1):Nat):Int)from A2 (by show(l:Int)+((k+1:Nat):Int)=_;omega) (by omega)];rfl
     rw[this,AGV,A2 (x:=((k+1:Nat):Int)+1) (n:=k+1+1) (by omega) (by omega)]
    ·unfold ES KI;simp only[Xd];rw[show(f.getD i (.co [])).w-1+1=(f.getD i (.co [])).w by omega,EB,AHa];unfold YZ;rw[WA spt hi];rfl
   rw[Fx,AGV,Bi hi (by omega)]
  ·unfold ET KJ;simp only;rw[EB,AHa,AG5 (AG1 _)]
 rw[this];rfl
def fst(B:List Bt)(p:Nat):Bool:=(Vg (Av B)).getD p false
def RS(B:List Bt)(p:Nat):Bt:=B.getD p (.co false)
def vR(h:Nat->Nat->Bool):Bt->Bool
 |.co _=>false
 |.va v a=>h v a
def dq:Bt->Bool
 |.co _=>false
 |.va _ _=>true
def Ri(B:List Bt)(h:Nat->Nat->Bool)(p:Nat):Bool:=fst B p||vR h (RS B p)
theorem kP{d:AHY}{B:List Bt}(hd:AL d)(h:Bm d B):WU (Av B)/\(∀s∈Av B,Uu s)/\A6 (Av B)=B.length :=
 ⟨CV B,SJ (λb hb=>jG (T4 hd (h.2.2 b hb))) h.2.1,Cj B⟩
theorem Acr{d:AHY}{B:List Bt}(hd:AL d)(h:Bm d B):HP (fN B)=some (bV B,Vg (Av B)):=by
 obtain⟨h1,h2,h3⟩:=kP hd h;have:=pE h1 h2 (by rw[h3];exact h.2.1);rw[Hd]at this;exact this
theorem Adh{d:AHY}{B:List Bt}(hd:AL d)(h:Bm d B):Ht (fN B)=some (YZ (Av B)):=by
 obtain⟨h1,h2,h3⟩:=kP hd h;exact kA h1 h2 (by rw[h3];exact h.2.1)
theorem tW(B:List Bt):(Vg (Av B)).length=B.length:=by rw[show(Vg (Av B)).length=A6 (Av B)from Sn j9 _,Cj]
theorem bD(B:List Bt):(YZ (Av B)).length=B.length:=by rw[show(YZ (Av B)).length=A6 (Av B)from Sn lq _,Cj]
theorem b5{d:AHY}{B:List Bt}(h:Bm d B){p:Nat}(hp:p<B.length):∃i k,i<(Av B).length/\k<((Av B).getD i (.co [])).w/\p=A6 ((Av B).take i)+k/\Ti d ((Av B).getD i (.co [])) /\
    RS B p=((Av B).getD i (.co [])).bits.getD k (.co false)/\fst B p=(k==0)/\(YZ (Av B)).getD p Ab.zero=spot ((Av B).getD i (.co [])) k:=by
 obtain⟨i,k,h1,h2,rfl⟩:=AcH (f:=Av B) (p:=p) (by rw[Cj];exact hp);obtain⟨e1,e2,e3⟩:=Ra h1 h2;rw[Hd]at e1;exact⟨i,k,h1,h2,rfl,(Wc h (AG h1)).1,e1,e2,e3⟩
theorem WR{v l n k:Nat}(h:k<n):(Sg.va v l n).bits.getD k (.co false)=.va v (l+k):=by simp[Sg.bits,List.getD,h]
theorem Yf{b:AHU}{k:Nat}(h:k<b.length):(Sg.co b).bits.getD k (.co false)=.co (b.getD k false):=by simp[Sg.bits,List.getD,h]
theorem WO{d:AHY}{B:List Bt}(h:Bm d B){p:Nat}(hp:p<B.length):(fst B p=true/\(YZ (Av B)).getD p Ab.zero=(0,0,0,())) \/
    (fst B p=false/\((∃b,RS B p=.co b)/\(YZ (Av B)).getD p Ab.zero=(2,0,0,())\/∃v a,RS B p=.va v a/\v<d.length/\1<=a/\a<W d v/\(YZ (Av B)).getD p Ab.zero=(1,(v:Int),(a:Int),()))):=by
 obtain⟨i,k,h1,h2,h3,h4,h5,h6,h7⟩:=b5 h hp;rw[h5,h6,h7];rcases AHj k with h0 |h0
 ·subst h0;exact .inl ⟨rfl,rfl⟩
 ·refine .inr ⟨by rw[beq_eq_false_iff_ne];omega,?_⟩;have hk:¬k=0:=by omega
  cases hs:(Av B).getD i (.co [])with
  |co b =>
   rw[hs]at h2;exact .inl ⟨⟨_,Yf h2⟩,by simp[spot,hk]⟩
  |va v l n =>
   rw[hs]at h2 h4;simp only[Sg.w,Ti]at h2 h4;exact .inr ⟨v,l+k,WR h2,h4.1,by omega,by unfold W;omega,by simp[spot,hk]⟩
theorem yV{d:AHY}{B:List Bt}(h:Bm d B){p:Nat}(hp:p<B.length):Vz d (RS B p):=h.2.2 _ (AG hp)
theorem Qy{d:AHY}(hd:AL d){B:List Bt}(h:Bm d B){f:Nat->Nat->Bool}{p:Nat}(hp:p<B.length):CW (bV B,Vg (Av B),()) (M d 1 f) (p:Int)=some (Ri B f p):=by
 unfold CW;have e1:(Vg (Av B)).getD p (Ty.zero .bool)=fst B p:=rfl;have e2:(bV B).getD p Aa.zero=TF (RS B p):=b7 hp;simp only[AGW,e1,e2];rw[tW,C1,AHd (Bl hp)];unfold Ri;cases fst B p with
 |true=>rfl
 |false =>
  rw[AHa,AHd (Bl hp),Bool.false_or];have hb:=yV h hp;cases hbb:RS B p with
  |co b=>rfl
  |va v a =>
   rw[hbb]at hb;obtain⟨h1,h2⟩:=hb;obtain⟨hw,_,_⟩:=Qf hd h1;rw[show(TF (.va v a)).1=(v:Int)from rfl,show(TF (.va v a)).2.1=(a:Int)from rfl,show decide ((v:Int)>=0)=true from AG0 (by omega),AHb,AHd (Bl hp),TY,AHd (Bl h1),AHd (Bl hp),AGW,VB h1,IR,AHd (Bl (by omega)),AGW,YL (by omega)];rfl
theorem pG{d:AHY}(hd:AL d){B:List Bt}(h:Bm d B){f:Nat->Nat->Bool}{p:Nat}(hp:p<B.length):Gr (bV B,Vg (Av B),()) (M d 1 f) (p:Int)=some (!Ri B f p&&dq (RS B p)):=by
 unfold Gr;have e2:(bV B).getD p Aa.zero=TF (RS B p):=b7 hp;rw[Qy hd h hp,AGV];simp only[AGW,e2];cases Ri B f p with
 |true=>rfl
 |false =>
  rw[C1,Bool.not_false,AHb,AHd (Bl hp),Bool.true_and];cases RS B p with
  |co b=>rfl
  |va v a =>
   rw[show decide ((TF (.va v a)).1>=0)=true from AG0 (show(v:Int)>=0 by omega)];rfl
section
variable {kt vt:Ty}
theorem iD(hr:∀x:kt.V,Ba kt x x=true)(k:kt.V)(v:vt.V):∀es:List (kt.V×vt.V),TP kt vt (BS kt vt es k v) k=TP kt vt es k/\Ry kt vt (BS kt vt es k v) k=true
 |[]=>by simp[BS,TP,Ry,Ni,hr]
 |x::es=>by
  obtain⟨h1,h2⟩:=iD hr k v es;unfold BS;cases hx:Ba kt k x.1 with
  |true=>simp[TP,Ry,Ni,hr,hx]
  |false =>
   simp only[AHa];unfold Ry at h2⊢;simp only[TP,Ni,hx,AHa];exact⟨by rw[h1],h2⟩
theorem cL(hr:∀x:kt.V,Ba kt x x=true)(k:kt.V)(v:vt.V)(es:List (kt.V×vt.V)):T8 kt vt (BS kt vt es k v) k (Vp kt vt es k)=true:=by
 obtain⟨h1,h2⟩:=iD hr k v es;unfold T8 Vp;rw[h1,h2];simp
theorem UJ(he:∀x y:kt.V,Ba kt x y=true↔x=y)(k k':kt.V)(v:vt.V):∀es:List (kt.V×vt.V),Ni kt vt (BS kt vt es k v) k'=bif Ba kt k' k then some v else Ni kt vt es k'
 |[]=>by simp[BS,Ni]
 |x::es=>by
  unfold BS;cases hx:Ba kt k x.1 with
  |true =>
   have:=(he _ _).1 hx;simp only[AHb,Ni];rw[<-this];cases Ba kt k' k<;>rfl
  |false =>
   simp only[AHa,Ni];rw[UJ he k k' v es];cases h1:Ba kt k' x.1 with
   |false=>rfl
   |true =>
    cases h2:Ba kt k' k with
    |false=>rfl
    |true =>
     have e1:=(he _ _).1 h1;have e2:=(he _ _).1 h2;rw[<-e2,e1]at hx;rw[(he _ _).2 rfl]at hx;cases hx
theorem Zz(he:∀x y:kt.V,Ba kt x y=true↔x=y)(k k':kt.V)(v:vt.V)(es:List (kt.V×vt.V)):Bh kt vt (BS kt vt es k v) k'=bif Ba kt k' k then v else Bh kt vt es k':=by
 unfold Bh;rw[UJ he];cases Ba kt k' k<;>rfl
end
theorem aN(x y:AHG):Ba Aa x y=true↔x=y:=by
 obtain⟨a,b,_⟩:=x;obtain⟨a',b',_⟩:=y;simp[Ba]
theorem WG(x:AHG):Ba Aa x x=true:=(aN x x).2 rfl
def Xa(d:AHY):List (Nat×Nat):=(List.range d.length).flatMap λv=>(List.range (W d v)).map λp=>(v,p)
def free(d:AHY)(f:Nat->Nat->Bool):Nat:=(Xa d).countP λx=>!f x.1 x.2
theorem wL{d:AHY}{v p:Nat}(hv:v<d.length)(hp:p<W d v):(v,p)∈Xa d :=
 List.mem_flatMap.2 ⟨v,List.mem_range.2 hv,List.mem_map.2 ⟨p,List.mem_range.2 hp,rfl⟩⟩
theorem UC{A:Type}{F:Nat->List A}{m:Nat}:∀{n:Nat},(∀v,v<n->(F v).length<=m)->((List.range n).flatMap F).length<=m*n
 |0,_=>by simp
 |n+1,h=>by
  rw[List.range_succ,List.flatMap_append,AGZ,Nat.mul_succ];have h1:=UC (n:=n) λv hv=>h v (by omega);have h2:=h n (by omega);simp only[List.flatMap_cons,List.flatMap_nil,AHA];omega
theorem Afd{d:AHY}(hd:AL d)(f:Nat->Nat->Bool):free d f<=245760:=by
 have h1:(Xa d).length<=4096*d.length:=UC λv hv=>by simp;exact(Qf hd hv).2.2
 have h2:=List.countP_le_length (p:=λx:Nat×Nat=>!f x.1 x.2) (l:=Xa d);have:=hd.1;unfold free;omega
theorem Zg{A:Type}{q q':A->Bool}:∀{l:List A} {x:A},(∀y,q' y=true->q y=true)->x∈l->q x=true->q' x=false->l.countP q'+1<=l.countP q
 |[],_,_,h,_,_=>by cases h
 |y::l,x,hq,h,h1,h2=>by
  have RX:l.countP q'<=l.countP q:=List.countP_mono_left λy _=>hq y;rw[List.countP_cons,List.countP_cons];rcases List.mem_cons.1 h with e |h
  ·subst e;rw[h1,h2];simp;omega
  ·have:=Zg hq h h1 h2;cases hy:q' y with
   |true=>rw[hq y hy];simp;omega
   |false=>simp;split<;>omega
theorem Zl{d:AHY}{f:Nat->Nat->Bool}{v p:Nat}(hv:v<d.length)(hp:p<W d v)(h:f v p=false):free d (mark f v p)+1<=free d f :=
 Zg (λy hy=>by simp[mark]at hy⊢;exact hy.1) (wL hv hp) (by simp[h]) (by simp[mark])
abbrev SC:Type:=(Nat->Nat->Bool)×AHW
open Classical in
noncomputable def HT(d:AHY)(s:SC)(v p:Nat):SC:=if 0<p/\p<W d v/\s.1 v p=false then(mark s.1 v p,s.2++[((v:Int),(p:Int),())])else s
theorem Z6{d:AHY}(hd:AL d){v p:Nat}(hv:v<d.length){r:Nat->Bool}{t:AH7}{g:AHW}{a:Int}(ht:t.length=d.length)(hr:t.getD v AIg.zero=GF (W d v) r)(hg:g.length<=1000000) :
    Bf a (v:Int) (p:Int) d t g=some (if 0<p/\p<W d v/\r p=false then(d,t.set v ((GF (W d v) r).set p true),g++[((v:Int),(p:Int),())])else(d,t,g)):=by
 obtain⟨e0,bn,dn⟩:=Qf hd hv;have e2:(d.getD v Ad.zero).2.1=(W d v:Int):=e0;have key:Gy a (v:Int) (p:Int) d t g=some (decide (0<p/\p<W d v/\r p=false)):=by
  unfold Gy;simp only[AGW,e2,hr];rcases AHj p with h0 |h0
  ·subst h0;rw[show decide (((0:Nat):Int)>0)=false from rfl,AHa];simp
  ·rw[show decide ((p:Int)>0)=true from AG0 (by omega),AHb,AHd (Bl hv)];by_cases hp:p<W d v
   ·rw[DN hp,AHb,AHd (by rw[ht];exact Bl hv),AHd (by rw[IR];exact Bl hp),YL hp];cases r p<;>simp[h0,hp]
   ·rw[AGY (by omega:¬(p:Int)<(W d v:Int)),AHa];simp[hp]
 unfold Bf;rw[key,AGV];by_cases h:0<p/\p<W d v/\r p=false
 ·rw[AG0 h,AHb,AHd h];simp only[AGW,hr];rw[AHd (by rw[ht];exact Bl hv),AHd (by rw[IR];omega),AHd (by simp;omega)]
 ·rw[AGY h,AHa,AHe h]
theorem Sp{d:AHY}(hd:AL d){v p:Nat}(hv:v<d.length)(s:SC){a:Int}(hg:s.2.length<=1000000):Bf a (v:Int) (p:Int) d (M d 0 s.1) s.2=some (d,M d 0 (HT d s v p).1,(HT d s v p).2):=by
 rw[Z6 hd hv (TY _ _ _) (VB hv) hg];unfold HT;by_cases h:0<p/\p<W d v/\s.1 v p=false
 ·rw[AHd h,AHd h];have:=jj (x:=0) (f:=s.1) (p:=p) (z:=[]) hv;rw[VB hv]at this;rw[<-this];rfl
 ·rw[AHe h,AHe h]
structure CI (d:AHY) (f0:Nat->Nat->Bool) (s:SC):Prop where
 le:∀v p,f0 v p=true->s.1 v p=true
 Y0:∀v p,s.1 v p=true->v<d.length/\1<=p/\p<W d v
 BK:∀x∈s.2,∃v p:Nat,x=((v:Int),(p:Int),())/\s.1 v p=true
 len:s.2.length+free d s.1<=500000
def mf(s:SC):Prop:=∀v p,s.1 v p=true->((v:Int),(p:Int),())∈s.2
def OW(f g:Nat->Nat->Bool):Prop:=∀v p,f v p=true->g v p=true
def vb(d:AHY)(f:Nat->Nat->Bool)(v p:Nat):Prop:=0<p->p<W d v->f v p=true
theorem vb.mono{d:AHY}{f g:Nat->Nat->Bool}(h:OW f g){v p:Nat}(hh:vb d f v p):vb d g v p:=λh1 h2=>h v p (hh h1 h2)
theorem EH{f:Nat->Nat->Bool}{v p u q:Nat}:mark f v p u q=true↔f u q=true\/(u=v/\q=p):=by simp[mark]
theorem Xu{d:AHY}(s:SC)(v p:Nat):OW s.1 (HT d s v p).1:=λu q h=>by
 unfold HT;split
 ·exact EH.2 (.inl h)
 ·exact h
theorem Yj{d:AHY}(s:SC)(v p:Nat):vb d (HT d s v p).1 v p:=λh1 h2=>by
 unfold HT;split
 ·exact EH.2 (.inr ⟨rfl,rfl⟩)
 ·rename_i h;cases hs:s.1 v p with
  |true=>rfl
  |false=>exact(h ⟨h1,h2,hs⟩).elim
theorem Yk{d:AHY}{s:SC}{v p:Nat}{h:Nat->Nat->Bool}(hu:OW s.1 h)(hh:vb d h v p):OW (HT d s v p).1 h:=λu q hq=>by
 unfold HT at hq;split at hq
 ·rename_i hc;rcases EH.1 hq with h1 |⟨rfl,rfl⟩
  ·exact hu u q h1
  ·exact hh hc.1 hc.2.1
 ·exact hu u q hq
theorem CI.cut{d:AHY}{f0:Nat->Nat->Bool}{s:SC}(h:CI d f0 s){v p:Nat}(hv:v<d.length):CI d f0 (HT d s v p):=by
 refine⟨λu q hq=>Xu s v p u q (h.le u q hq),λu q hq=>?_,λx hx=>?_,?_⟩
 ·unfold HT at hq;split at hq
  ·rename_i hc;rcases EH.1 hq with h1 |⟨rfl,rfl⟩
   ·exact h.Y0 u q h1
   ·exact⟨hv,hc.1,hc.2.1⟩
  ·exact h.Y0 u q hq
 ·unfold HT at hx⊢;split at hx
  ·rename_i hc;rw[AHd hc];rcases List.mem_append.1 hx with hx |hx
   ·obtain⟨u,q,e,h1⟩:=h.BK x hx;exact⟨u,q,e,EH.2 (.inl h1)⟩
   ·rw[AHm]at hx;exact⟨v,p,hx,EH.2 (.inr ⟨rfl,rfl⟩)⟩
  ·rename_i hc;rw[AHe hc];exact h.BK x hx
 ·unfold HT;split
  ·rename_i hc;have:=Zl hv hc.2.1 hc.2.2;have:=h.len;simp only[AGZ,AHf];omega
  ·exact h.len
theorem mf.cut{d:AHY}{s:SC}(h:mf s){v p:Nat}:mf (HT d s v p):=λu q hq=>by
 unfold HT at hq⊢;split
 ·rename_i hc;rw[AHd hc]at hq;rcases EH.1 hq with h1 |⟨rfl,rfl⟩
  ·exact AHt _ (h u q h1)
  ·exact AHu _ (List.mem_singleton.2 rfl)
 ·rename_i hc;rw[AHe hc]at hq;exact h u q hq
theorem sc{l:AHT}{w:Int}(h:X4 l w):∀{j i:Nat},i<j->j<l.length->Ic l i<Ic l j
 |j+1,i,vQ,hj=>by
  have h1:=(h (j+1) hj).2.2 (by omega);simp only[AHy]at h1;rcases AG6 i j with h2 |h2
  ·have:=sc h h2 (by omega);omega
  ·rw[show i=j by omega];exact h1
theorem AcG{l:AHT}{w:Int}(h:X4 l w):∀{i:Nat},i<l.length->((i:Int)+1)<=Ic l i
 |0,hi=>by have:=(h 0 hi).1;omega
 |i+1,hi=>by
  have h1:=AcG h (i:=i) (by omega);have h2:=(h (i+1) hi).2.2 (by omega);simp only[AHy]at h2;omega
theorem Tz{l:AHT}{w:Int}(h:X4 l w)(hw:1<=w):(l.length:Int)<=w:=by
 rcases AHj l.length with h0 |h0
 ·omega
 ·have h1:=AcG h (i:=l.length-1) (by omega);have h2:=(h (l.length-1) (by omega)).2.1;omega
theorem Ado{l:AHT}{w:Int}(h:X4 l w){i:Nat}(hi:i<l.length):(l.take i).contains (Ic l i)=false:=by
 rw[Bool.eq_false_iff];intro hc;have hm:Ic l i∈l.take i:=by simpa using hc
 obtain⟨j,hj,e⟩:=List.getElem_of_mem hm;rw[AHg]at hj;rw[List.getElem_take]at e;have h1:=sc h (i:=j) (j:=i) (by omega) hi;have h2:Ic l j=l[j]'(by omega):=by simp[Ic,List.getD,show j<l.length by omega]
 omega
def g0(c:AH6)(n:Nat):AHW:=(List.range n).flatMap λv=>(Cy c v).map λp=>((v:Int),p,())
theorem kL{d:AHY}{c:AH6}(hd:AL d)(hc:Er d c)(hb:Vr c):IJ d (c,())=some (0,d,M d 0 (C0 c),[],g0 c d.length):=by
 have bj:=hd.1;have hgl:∀n,n<=d.length->(g0 c n).length<=4096*n:=λn hn=>UC λv hv=>by
  obtain⟨e0,bn,dn⟩:=Qf hd (show v<d.length by omega);have:=Tz (hc.2 v (by omega)) (by omega);rw[AG7];omega
 unfold IJ;rw[AHd ⟨rfl,by omega,by omega,by omega,by omega⟩,AGW];have:KH d (c,()) (d.length:Int) 0 d (List.replicate d.length []) []=some (d,M d 0 (C0 c),g0 c d.length):=by
  unfold KH;have:=AQ (f:=DF d (c,()) (d.length:Int)) (λv=>((v:Int),d,B7 (λu=>GF (W d u+0) (C0 c u)) [] d.length v,g0 c v)) (t:=(d,M d 0 (C0 c),g0 c d.length)) d.length (λv hv=>?_) ?_
  ·rw[<-Lh (λu=>GF (W d u+0) (C0 c u))];exact this
  ·unfold DF Io;obtain⟨e0,bn,dn⟩:=Qf hd hv;have hp:=hc.2 v hv;have e1:(c.getD v AIf.zero)=Cy c v:=rfl;have e2:(d.getD v Ad.zero).2.1=(W d v:Int):=e0;simp only[AGW,e1,e2];rw[DN hv,AHb,AHd (Bl hv),AHd (show Ty.row .bool=true/\(0:Int)<=(W d v:Int)/\(W d v:Int)<=(W d v:Int)/\((1:Nat):Int)*(W d v:Int)<=281474976710656/\(W d v:Int)<=9223372036854775807 from⟨rfl,by omega,by omega,by omega,by omega⟩),F7,AHd (Bl hv),AHd (Bl (by rw[hc.1];exact hv))];have hrl:(Cy c v).length<=4096:=by have:=Tz hp (by omega);omega
   have Fx:KG (v:Int) d (d.length:Int) (c,()) (Cy c v) ((Cy c v).length:Int) 0 d ((B7 (λu=>GF (W d u+0) (C0 c u)) [] d.length v).set v (List.replicate (W d v) false)) (g0 c v)=some (d,B7 (λu=>GF (W d u+0) (C0 c u)) [] d.length (v+1),g0 c (v+1)):=by
    unfold KG;have:=AQ (f:=DD (v:Int) d (d.length:Int) (c,()) (Cy c v) ((Cy c v).length:Int)) (λi=>((i:Int),d,(B7 (λu=>GF (W d u+0) (C0 c u)) [] d.length v).set v (GF (W d v) λp=>((Cy c v).take i).contains (p:Int)),g0 c v++((Cy c v).take i).map λp=>((v:Int),p,()))) (t:=(d,B7 (λu=>GF (W d u+0) (C0 c u)) [] d.length (v+1),g0 c (v+1))) (Cy c v).length (λi hi=>?_) ?_
    ·have e:List.replicate (W d v) false=GF (W d v) λp=>((Cy c v).take 0).contains (p:Int):=by
       rw[<-dV];exact SQ λp _=>by simp
     rw[e,show g0 c v=g0 c v++((Cy c v).take 0).map λp=>((v:Int),p,()) by simp];exact this
    ·unfold DD Im;have hpi:=hp i hi;obtain⟨p,hpp⟩:∃p:Nat,Ic (Cy c v) i=(p:Int):=⟨(Ic (Cy c v) i).toNat,by have:=hpi.1;omega⟩;have om:p<W d v:=by have:=hpi.2.1;omega
     have e3:(Cy c v).getD i AIa.zero=(p:Int):=hpp;have Vx:=Ado hp hi;rw[hpp]at Vx;simp only[AGW,e3];rw[DN hi,AHb,AHd (Bl hi),Z6 hd hv (r:=λp=>((Cy c v).take i).contains (p:Int)) (by rw[AG4,F7]) (by simp[List.getD,F7,hv]) (by have:=hgl v (by omega);rw[AGZ,AG7,AHg];omega),AHd ⟨by have:=hpi.1;omega,om,Vx⟩,AGV,Bi hi (by omega),List.set_set,dW];have e5:(GF (W d v) λq=>((Cy c v).take i).contains (q:Int)||q==p)=GF (W d v) λq=>((Cy c v).take (i+1)).contains (q:Int):=SQ λq _=>by rw[Xg hi,hpp,kB]
     rw[e5,AX (z:=(0:Int)) hi,List.map_append,<-AG3,show(Cy c v).getD i 0=(p:Int)from hpp];rfl
    ·unfold DD Im;simp only;rw[EB,AHa,AG5 (AG1 _)];have e6:(B7 (λu=>GF (W d u+0) (C0 c u)) [] d.length v).set v (GF (W d v) λp=>(Cy c v).contains (p:Int))=B7 (λu=>GF (W d u+0) (C0 c u)) [] d.length (v+1):=Ox _ _;have e7:g0 c v++(Cy c v).map (λp=>((v:Int),p,()))=g0 c (v+1):=by
      unfold g0;rw[List.range_succ,List.flatMap_append];simp
     rw[e6,e7]
   rw[Fx,AGV,Bi hv (by omega)]
  ·unfold DF Io;simp only;rw[EB,AHa];have:B7 (λu=>GF (W d u+0) (C0 c u)) [] d.length d.length=M d 0 (C0 c):=by
    unfold B7 M;exact List.map_congr_left λv hv=>by rw[AHd (List.mem_range.1 hv)]
   rw[this]
 rw[this];rfl
theorem qk{d:AHY}{c:AH6}(hd:AL d)(hc:Er d c){v p:Nat}(h:C0 c v p=true):v<d.length/\1<=p/\p<W d v:=by
 have hm:(p:Int)∈Cy c v:=by simpa [C0]using h
 have hv:v<d.length:=by
  rw[<-hc.1];rcases AG6 v c.length with h1 |h1
  ·exact h1
  ·unfold Cy at hm;rw[List.getD,AHz h1]at hm;cases hm
 obtain⟨e0,bn,dn⟩:=Qf hd hv;have:=bz (hc.2 v hv) hm;exact⟨hv,by omega,by omega⟩
theorem Adk{d:AHY}{c:AH6}(hd:AL d)(hc:Er d c):CI d (C0 c) (C0 c,g0 c d.length)/\mf (C0 c,g0 c d.length):=by
 refine⟨⟨λ_ _ h=>h,λv p h=>qk hd hc h,λx hx=>?_,?_⟩,λv p h=>?_⟩
 ·obtain⟨v,hv,hx⟩:=List.mem_flatMap.1 hx;obtain⟨q,hq,rfl⟩:=List.mem_map.1 hx;have hq1:=bz (hc.2 v (List.mem_range.1 hv)) hq;refine⟨v,q.toNat,by rw[show((q.toNat:Nat):Int)=q by omega],?_⟩
  simp only[C0];rw[show((q.toNat:Nat):Int)=q by omega];simpa using hq
 ·have h1:=Afd hd (C0 c);have h2:(g0 c d.length).length<=4096*d.length:=UC λv hv=>by
   obtain⟨e0,bn,dn⟩:=Qf hd hv;have:=Tz (hc.2 v hv) (by omega);rw[AG7];omega
  have:=hd.1;simp only;omega
 ·have:=qk hd hc h;exact List.mem_flatMap.2 ⟨v,List.mem_range.2 this.1,List.mem_map.2 ⟨(p:Int),by simpa [C0]using h,rfl⟩⟩
def W7(x y:Nat):Nat->Nat
 |0=>0
 |1=>x
 |_=>x+y
def iz{A:Type}(x y:List A):Nat->List A
 |0=>[]
 |1=>x
 |_=>x++y
theorem jQ{a b:AHZ}(h0:1<=a.length)(ha:a.length<=100000000)(hb:b.length<=100000000):EU [a,b]=some (a++b):=by
 unfold EU;have YX:([a,b]:AH9).length=2:=rfl;have h1:HE [a,b] (([a,b]:AH9).length:Int) 0 0=some (((a.length+b.length:Nat):Int)):=by
  unfold HE;have:=AQ (f:=CK [a,b] (([a,b]:AH9).length:Int)) (λk=>((W7 a.length b.length k:Int),(k:Int))) (t:=(((a.length+b.length:Nat):Int))) 2 (λk hk=>?_) ?_
  ·exact this
  ·unfold CK FV HD;simp only[AGW];rw[YX,DN hk,AHb,AHd (Bl hk)]
   match k,hk with
   |0,_ =>
    simp only[List.getD_cons_zero];rw[show wI ((W7 a.length b.length 0:Int)+(a.length:Int))=(a.length:Int)from A2 (by simp[W7]) (by omega),AGY (by omega),AHa];rfl
   |1,_ =>
    simp only[List.getD_cons_succ,List.getD_cons_zero];rw[show wI ((W7 a.length b.length 1:Int)+(b.length:Int))=((a.length+b.length:Nat):Int)from A2 (by simp[W7]) (by omega),AGY (by omega),AHa];rfl
  ·unfold CK FV;simp only;rw[YX,EB,AHa];rfl
 rw[h1,AGV,AGY (by omega),AHa,show wI (((a.length+b.length:Nat):Int)-0)=((a.length+b.length:Nat):Int)from A2 (by omega) (by omega),show decide (((a.length+b.length:Nat):Int)>0)=true from AG0 (by omega),AHb,AHd ⟨by omega,by omega⟩,AHd ⟨by omega,by omega⟩,List.take_zero];have h2:HF [a,b] (([a,b]:AH9).length:Int) 0 []=some (a++b):=by
  unfold HF;have:=AQ (f:=CL [a,b] (([a,b]:AH9).length:Int)) (λk=>((k:Int),iz a b k)) (t:=a++b) 2 (λk hk=>?_) ?_
  ·exact this
  ·unfold CL FW;simp only[AGW];rw[YX,DN hk,AHb,AHd (Bl hk)]
   match k,hk with
   |0,_ =>
    simp only[List.getD_cons_zero];rw[AHd (by simp[iz];omega),show wI (((0:Nat):Int)+1)=((1:Nat):Int)from rfl];rfl
   |1,_ =>
    simp only[List.getD_cons_succ,List.getD_cons_zero];rw[AHd (by simp[iz];omega),show wI (((1:Nat):Int)+1)=((2:Nat):Int)from rfl];rfl
  ·unfold CL FW;simp only;rw[YX,EB,AHa];rfl
 rw[h2];rfl
theorem jP{a b:AHT}(h0:1<=a.length)(ha:a.length<=100000000)(hb:b.length<=100000000):DI [a,b]=some (a++b):=by
 unfold DI;have YX:([a,b]:AH6).length=2:=rfl;have h1:FY [a,b] (([a,b]:AH6).length:Int) 0 0=some (((a.length+b.length:Nat):Int)):=by
  unfold FY;have:=AQ (f:=Cb [a,b] (([a,b]:AH6).length:Int)) (λk=>((W7 a.length b.length k:Int),(k:Int))) (t:=(((a.length+b.length:Nat):Int))) 2 (λk hk=>?_) ?_
  ·exact this
  ·unfold Cb Eu FX;simp only[AGW];rw[YX,DN hk,AHb,AHd (Bl hk)]
   match k,hk with
   |0,_ =>
    simp only[List.getD_cons_zero];rw[show wI ((W7 a.length b.length 0:Int)+(a.length:Int))=(a.length:Int)from A2 (by simp[W7]) (by omega),AGY (by omega),AHa];rfl
   |1,_ =>
    simp only[List.getD_cons_succ,List.getD_cons_zero];rw[show wI ((W7 a.length b.length 1:Int)+(b.length:Int))=((a.length+b.length:Nat):Int)from A2 (by simp[W7]) (by omega),AGY (by omega),AHa];rfl
  ·unfold Cb Eu;simp only;rw[YX,EB,AHa];rfl
 rw[h1,AGV,AGY (by omega),AHa,show wI (((a.length+b.length:Nat):Int)-0)=((a.length+b.length:Nat):Int)from A2 (by omega) (by omega),show decide (((a.length+b.length:Nat):Int)>0)=true from AG0 (by omega),AHb,AHd ⟨by omega,by omega⟩,AHd ⟨by omega,by omega⟩,List.take_zero];have h2:FZ [a,b] (([a,b]:AH6).length:Int) 0 []=some (a++b):=by
  unfold FZ;have:=AQ (f:=Cc [a,b] (([a,b]:AH6).length:Int)) (λk=>((k:Int),iz a b k)) (t:=a++b) 2 (λk hk=>?_) ?_
  ·exact this
  ·unfold Cc Ev;simp only[AGW];rw[YX,DN hk,AHb,AHd (Bl hk)]
   match k,hk with
   |0,_ =>
    simp only[List.getD_cons_zero];rw[AHd (by simp[iz];omega),show wI (((0:Nat):Int)+1)=((1:Nat):Int)from rfl];rfl
   |1,_ =>
    simp only[List.getD_cons_succ,List.getD_cons_zero];rw[AHd (by simp[iz];omega),show wI (((1:Nat):Int)+1)=((2:Nat):Int)from rfl];rfl
  ·unfold Cc Ev;simp only;rw[YX,EB,AHa];rfl
 rw[h2];rfl
abbrev NX:Type:=List (AHG×AHW)
def nk(v p:Nat):AHG:=((v:Int),(p:Int),())
def nx(o:NX)(v p:Nat):AHW:=Bh Aa AIh o (nk v p)
def lnk(o:NX)(k x:AHG):NX:=BS Aa AIh (BS Aa AIh o k (Bh Aa AIh o k)) k (Bh Aa AIh o k++[x])
theorem V6{v p u q:Nat}:nk v p=nk u q↔v=u/\p=q:=by
 unfold nk;constructor
 ·intro h;injection h with h1 h2;injection h2 with h2 _;omega
 ·rintro⟨rfl,rfl⟩;rfl
theorem Acn(o:NX)(k x:AHG)(v p:Nat):nx (lnk o k x) v p=bif Ba Aa (nk v p) k then Bh Aa AIh o k++[x]else nx o v p:=by
 unfold nx lnk;rw[Zz aN,Zz aN];cases Ba Aa (nk v p) k<;>rfl
theorem UK{o:NX}{k x:AHG}{v p:Nat}{y:AHG}:y∈nx (lnk o k x) v p↔y∈nx o v p\/(nk v p=k/\y=x):=by
 rw[Acn];cases hk:Ba Aa (nk v p) k with
 |true =>
  have e:=(aN _ _).1 hk;rw[AHb,List.mem_append,AHm];simp only[e,true_and];unfold nx;rw[e]
 |false =>
  have e:nk v p≠k:=λe=>by rw[(aN _ _).2 e]at hk;cases hk
  simp[e]
theorem rT{o:NX}{k x:AHG}{v p N:Nat}(h:∀v p,(nx o v p).length<=N):(nx (lnk o k x) v p).length<=N+1:=by
 rw[Acn];cases hk:Ba Aa (nk v p) k with
 |true =>
  have e:=(aN _ _).1 hk;have:=h v p;unfold nx at this;rw[e]at this;rw[AHb,AGZ,AHf];omega
 |false=>rw[AHa];have:=h v p;omega
theorem AbZ{o:NX}{a:Int}{b c:AHX}{g:Int}{i:AHY}{dd:List (AHZ×AHZ×Unit)}{j:AH7}{l:AHW}{v p u q:Nat}(h:(nx o v p).length<=1000000) :
    Dx a b c g i dd j o l (v:Int) (p:Int) (u:Int) (q:Int)=some (lnk o (nk v p) (nk u q)):=by
 unfold Dx;have h':(Bh Aa AIh o ((v:Int),(p:Int),())).length<=1000000:=h;rw[AHd (by simp;omega),cL WG,AHb,WG,AHb];rfl
theorem Ab0{o:NX}{a:Int}{b c:AHX}{g:Int}{i:AHY}{dd:List (AHZ×AHZ×Unit)}{j:AH7}{l:AHW}{v p u q:Nat}(h:(nx o v p).length<=1000000) :
    Dy a b c g i dd j o l (u:Int) (q:Int) (v:Int) (p:Int)=some (lnk o (nk v p) (nk u q)):=by
 unfold Dy;have h':(Bh Aa AIh o ((v:Int),(p:Int),())).length<=1000000:=h;rw[AHd (by simp;omega),cL WG,AHb,WG,AHb];rfl
def Qd(d:AHY)(h:Nat->Nat->Bool):Sg->Prop
 |.co _=>True
 |.va v l n=>vb d h v l/\vb d h v (l+n)
def SP(B1 B2:List Bt)(h:Nat->Nat->Bool):Prop:=∀p,1<=p->p<B1.length->(Ri B1 h p=true->dq (RS B2 p)=true->Ri B2 h p=true)/\(Ri B2 h p=true->dq (RS B1 p)=true->Ri B1 h p=true)
def jw(d:AHY)(B1 B2:List Bt)(h:Nat->Nat->Bool):Prop:=(∀s∈Av B1++Av B2,Qd d h s)/\SP B1 B2 h
inductive Wm (d:AHY) (B1 B2:List Bt) (p:Nat) (s:SC) (o:NX):SC->NX->Prop
 |one (v a:Nat):fst B1 p=true->fst B2 p=false->RS B2 p=.va v a->v<d.length->1<=a->a<W d v->Wm d B1 B2 p s o (HT d s v a) o
 |ay (v a:Nat):fst B2 p=true->fst B1 p=false->RS B1 p=.va v a->v<d.length->1<=a->a<W d v->Wm d B1 B2 p s o (HT d s v a) o
 |both (v a u b:Nat):fst B1 p=false->fst B2 p=false->RS B1 p=.va v a->RS B2 p=.va u b->v<d.length->u<d.length->Wm d B1 B2 p s o s (lnk (lnk o (nk v a) (nk u b)) (nk u b) (nk v a))
 |none:(fst B1 p=true/\fst B2 p=true\/(∃b,RS B1 p=.co b/\fst B1 p=false)\/∃b,RS B2 p=.co b/\fst B2 p=false)->Wm d B1 B2 p s o s o
theorem AmA{d:AHY}(hd:AL d){B1 B2:List Bt}(h1:Bm d B1)(h2:Bm d B2)(hl:B1.length=B2.length){p:Nat}(hp:p<B1.length){s:SC}{o:NX}(hs:s.2.length<=1000000)(hn:∀v p,(nx o v p).length<=900000){a:Int}{dd:List (AHZ×AHZ×Unit)} :
    ∃s' o',EF a (YZ (Av B1)) (YZ (Av B2)) (p:Int) d dd (M d 0 s.1) o s.2=some (d,M d 0 s'.1,o',s'.2)/\Wm d B1 B2 p s o s' o':=by
 unfold EF Ii P2;rw[bD,bD,AHd (Bl hp),AHd (Bl (by omega)),AGV];simp only[AGW];rcases WO h1 hp with ⟨f1,e1⟩|⟨f1,⟨⟨b1,c1⟩,e1⟩|⟨v,x,c1,hv,aK,ow,e1⟩⟩<;>rcases WO h2 (show p<B2.length by omega)with ⟨f2,e2⟩|⟨f2,⟨⟨b2,c2⟩,e2⟩|⟨u,y,c2,hu,hy1,hy2,e2⟩⟩<;>rw[e1,e2]
 ·exact⟨s,o,rfl,.none (.inl ⟨f1,f2⟩)⟩
 ·exact⟨s,o,rfl,.none (.inr (.inr ⟨b2,c2,f2⟩))⟩
 ·refine⟨HT d s u y,o,?_,.one u y f1 f2 c2 hu hy1 hy2⟩;show(Bf a (u:Int) (y:Int) d (M d 0 s.1) s.2).bind _=_;rw[Sp hd hu s hs];rfl
 ·exact⟨s,o,rfl,.none (.inr (.inl ⟨b1,c1,f1⟩))⟩
 ·exact⟨s,o,rfl,.none (.inr (.inl ⟨b1,c1,f1⟩))⟩
 ·exact⟨s,o,rfl,.none (.inr (.inl ⟨b1,c1,f1⟩))⟩
 ·refine⟨HT d s v x,o,?_,.ay v x f2 f1 c1 hv aK ow⟩;show(Bf a (v:Int) (x:Int) d (M d 0 s.1) s.2).bind _=_;rw[Sp hd hv s hs];rfl
 ·exact⟨s,o,rfl,.none (.inr (.inr ⟨b2,c2,f2⟩))⟩
 ·refine⟨s,lnk (lnk o (nk v x) (nk u y)) (nk u y) (nk v x),?_,.both v x u y f1 f2 c1 c2 hv hu⟩;show(Dx a _ _ _ d dd _ o _ (v:Int) (x:Int) (u:Int) (y:Int)).bind (λo=>(Dy a _ _ _ d dd _ o _ (v:Int) (x:Int) (u:Int) (y:Int)).bind _)=_;rw[AbZ (by have:=hn v x;omega),AGV,Ab0 (by have:=rT (k:=nk v x) (x:=nk u y) (v:=u) (p:=y) hn;omega),AGV]
def NJ(d:AHY)(h:Nat->Nat->Bool)(o:NX):Prop:=∀v p u q:Nat,nk u q∈nx o v p->h v p=true->vb d h u q
def NV(d:AHY)(o:NX):Prop:=∀v p x,x∈nx o v p->∃u q:Nat,x=nk u q/\u<d.length
def Vb(B1 B2:List Bt)(f:Nat->Nat->Bool)(o:NX)(p:Nat):Prop :=
 (fst B1 p=true->fst B2 p=false->∀v a,RS B2 p=.va v a->f v a=true)/\(fst B2 p=true->fst B1 p=false->∀v a,RS B1 p=.va v a->f v a=true) /\
 (fst B1 p=false->fst B2 p=false->∀v a u b,RS B1 p=.va v a->RS B2 p=.va u b->nk u b∈nx o v a/\nk v a∈nx o u b)
theorem Vb.mono{B1 B2:List Bt}{f f':Nat->Nat->Bool}{o o':NX}{p:Nat}(h:Vb B1 B2 f o p)(hf:OW f f')(ho:∀v p x,x∈nx o v p->x∈nx o' v p):Vb B1 B2 f' o' p :=
 ⟨λa b v x c=>hf v x (h.1 a b v x c),λa b v x c=>hf v x (h.2.1 a b v x c),λa b v x u y c e=>⟨ho _ _ _ (h.2.2 a b v x u y c e).1,ho _ _ _ (h.2.2 a b v x u y c e).2⟩⟩
structure LI (d:AHY) (f0:Nat->Nat->Bool) (s:SC) (o:NX) (N:Nat):Prop where
 ci:CI d f0 s
 todo:mf s
 nv:NV d o
 nl:∀v p,(nx o v p).length<=N
theorem AfS{d:AHY}{B1 B2:List Bt}{p:Nat}{s s':SC}{o o':NX}{f0:Nat->Nat->Bool}{N:Nat}(XD:1<=p)(hp:p<B1.length)(h:LI d f0 s o N)(st:Wm d B1 B2 p s o s' o') :
    LI d f0 s' o' (N+2)/\OW s.1 s'.1/\(∀v p x,x∈nx o v p->x∈nx o' v p)/\Vb B1 B2 s'.1 o' p/\∀h,SP B1 B2 h->OW s.1 h->NJ d h o->OW s'.1 h/\NJ d h o':=by
 have ct1:∀{h:Nat->Nat->Bool},fst B1 p=true->Ri B1 h p=true:=λe=>by simp[Ri,e]
 have ct2:∀{h:Nat->Nat->Bool},fst B2 p=true->Ri B2 h p=true:=λe=>by simp[Ri,e]
 have no1:∀{h:Nat->Nat->Bool} {v a:Nat},fst B1 p=false->RS B1 p=.va v a->Ri B1 h p=h v a:=λe c=>by simp[Ri,e,c,vR]
 have no2:∀{h:Nat->Nat->Bool} {v a:Nat},fst B2 p=false->RS B2 p=.va v a->Ri B2 h p=h v a:=λe c=>by simp[Ri,e,c,vR]
 have nl2:∀v p,(nx o v p).length<=N+2:=λv p=>by have:=h.nl v p;omega
 cases st with
 |one v a f1 f2 c2 hv tZ ha2 =>
  refine⟨⟨h.ci.cut hv,h.todo.cut,h.nv,nl2⟩,Xu s v a,λ_ _ _ hx=>hx,⟨λ_ _ u b c=>?_,λe _=>(by rw[f2]at e;cases e),λe=>(by rw[f1]at e;cases e)⟩,λg hg hu hj=>⟨Yk hu λ_ _=>?_,hj⟩⟩
  ·rw[c2]at c;injection c with e1 e2;subst e1;subst e2;exact Yj s v a tZ ha2
  ·have:=(hg p XD hp).1 (ct1 f1) (by rw[c2];rfl);rwa [no2 f2 c2]at this
 |ay v a f2 f1 c1 hv tZ ha2 =>
  refine⟨⟨h.ci.cut hv,h.todo.cut,h.nv,nl2⟩,Xu s v a,λ_ _ _ hx=>hx,⟨λe=>(by rw[f1]at e;cases e),λ_ _ u b c=>?_,λ_ e=>(by rw[f2]at e;cases e)⟩,λg hg hu hj=>⟨Yk hu λ_ _=>?_,hj⟩⟩
  ·rw[c1]at c;injection c with e1 e2;subst e1;subst e2;exact Yj s v a tZ ha2
  ·have:=(hg p XD hp).2 (ct2 f2) (by rw[c1];rfl);rwa [no1 f1 c1]at this
 |both v a u b f1 f2 c1 c2 hv hu =>
  refine⟨⟨h.ci,h.todo,λw q x hx=>?_,λw q=>?_⟩,λ_ _ h=>h,λw q x hx=>UK.2 (.inl (UK.2 (.inl hx))),⟨λe=>(by rw[f1]at e;cases e),λe=>(by rw[f2]at e;cases e),λ_ _ v' a' u' b' e1 e2=>?_⟩,λg hg RX hj=>⟨RX,λw q w' q' hm hh=>?_⟩⟩
  ·rcases UK.1 hx with hx |⟨_,rfl⟩
   ·rcases UK.1 hx with hx |⟨_,rfl⟩
    ·exact h.nv w q x hx
    ·exact⟨u,b,rfl,hu⟩
   ·exact⟨v,a,rfl,hv⟩
  ·exact rT λw q=>rT h.nl
  ·rw[c1]at e1;injection e1 with q1 q2;subst q1;subst q2;rw[c2]at e2;injection e2 with q1 q2;subst q1;subst q2;exact⟨UK.2 (.inl (UK.2 (.inr ⟨rfl,rfl⟩))),UK.2 (.inr ⟨rfl,rfl⟩)⟩
  ·have hs:=hg p XD hp;rw[no1 f1 c1,no2 f2 c2]at hs;rcases UK.1 hm with hm |⟨e1,e2⟩
   ·rcases UK.1 hm with hm |⟨e1,e2⟩
    ·exact hj w q w' q' hm hh
    ·obtain⟨rfl,rfl⟩:=V6.1 e1;obtain⟨rfl,rfl⟩:=V6.1 e2;exact λ_ _=>hs.1 hh (by rw[c2];rfl)
   ·obtain⟨rfl,rfl⟩:=V6.1 e1;obtain⟨rfl,rfl⟩:=V6.1 e2;exact λ_ _=>hs.2 hh (by rw[c1];rfl)
 |none hc =>
  refine⟨⟨h.ci,h.todo,h.nv,nl2⟩,λ_ _ h=>h,λ_ _ _ hx=>hx,⟨λe1 e2 v a c=>?_,λe1 e2 v a c=>?_,λe1 e2 v a u b c c'=>?_⟩,λg _ hu hj=>⟨hu,hj⟩⟩
  ·rcases hc with ⟨_,q⟩|⟨_,_,q⟩|⟨_,q,_⟩
   ·rw[q]at e2;cases e2
   ·rw[q]at e1;cases e1
   ·rw[q]at c;cases c
  ·rcases hc with ⟨q,_⟩|⟨_,q,_⟩|⟨_,_,q⟩
   ·rw[q]at e2;cases e2
   ·rw[q]at c;cases c
   ·rw[q]at e1;cases e1
  ·rcases hc with ⟨q,_⟩|⟨_,q,_⟩|⟨_,q,_⟩
   ·rw[q]at e1;cases e1
   ·rw[q]at c;cases c
   ·rw[q]at c';cases c'
noncomputable def T7(d:AHY)(s:SC):Sg->SC
 |.co _=>s
 |.va v l n=>HT d (HT d s v l) v (l+n)
theorem cK{d:AHY}{f0:Nat->Nat->Bool}:∀(fs:List Sg) (s:SC),(∀x∈fs,Ti d x)->CI d f0 s->mf s->CI d f0 (fs.foldl (T7 d) s)/\mf (fs.foldl (T7 d) s)/\OW s.1 (fs.foldl (T7 d) s).1/\(∀x∈fs,Qd d (fs.foldl (T7 d) s).1 x) /\
    ∀h,(∀x∈fs,Qd d h x)->OW s.1 h->OW (fs.foldl (T7 d) s).1 h
 |[],s,_,h1,h2=>⟨h1,h2,λ_ _ h=>h,λx hx=>(by cases hx),λ_ _ h=>h⟩
 |x::fs,s,Fx,h1,h2=>by
  have key:CI d f0 (T7 d s x)/\mf (T7 d s x)/\OW s.1 (T7 d s x).1/\Qd d (T7 d s x).1 x/\∀h,Qd d h x->OW s.1 h->OW (T7 d s x).1 h:=by
   cases x with
   |co b=>exact⟨h1,h2,λ_ _ h=>h,trivial,λ_ _ h=>h⟩
   |va v l n =>
    have hv:=(Fx _ AHq).1;exact⟨(h1.cut hv).cut hv,h2.cut.cut,λu q h=>Xu _ v (l+n) u q (Xu s v l u q h),⟨(Yj s v l).mono (Xu _ v (l+n)),Yj _ v (l+n)⟩,λh hh hs=>Yk (Yk hs hh.1) hh.2⟩
  obtain⟨k1,k2,k3,k4,k5⟩:=key;obtain⟨i1,i2,i3,i4,i5⟩:=cK fs (T7 d s x) (λy hy=>Fx y (AHn _ hy)) k1 k2;refine⟨i1,i2,λu q h=>i3 u q (k3 u q h),λy hy=>?_,λh hh hs=>i5 h (λy hy=>hh y (AHn _ hy)) (k5 h (hh x AHq) hs)⟩;rcases List.mem_cons.1 hy with rfl |hy
  ·cases y with
   |co b=>trivial
   |va v l n=>exact⟨k4.1.mono i3,k4.2.mono i3⟩
  ·exact i4 y hy
theorem AbY{d:AHY}(hd:AL d){fs:List Sg}{i:Nat}(hi:i<fs.length)(Fx:Ti d (fs.getD i (.co []))){s:SC}(h1:s.2.length<=900000){a o1:Int}{x y:AHZ}{dd:List (AHZ×AHZ×Unit)}{o:NX} :
    FA a x y o1 (i:Int) d dd (M d 0 s.1) o (fV fs) s.2=some (d,M d 0 (T7 d s (fs.getD i (.co []))).1,(T7 d s (fs.getD i (.co []))).2):=by
 unfold FA;simp only[AGW,cM hi];rw[BZ,AHd (Bl hi)];cases hs:fs.getD i (.co [])with
 |co b=>rfl
 |va v l n =>
  rw[hs]at Fx;obtain⟨hv,hn,hw⟩:=Fx;obtain⟨e0,bn,dn⟩:=Qf hd hv;have RX:(HT d s v l).2.length<=s.2.length+1:=by unfold HT;split<;>simp
  rw[show decide ((He (.va v l n)).1>=0)=true from AG0 (show(v:Int)>=0 by omega),AHb];have e1:Bf a (He (.va v l n)).1 (He (.va v l n)).2.1 d (M d 0 s.1) s.2=some (d,M d 0 (HT d s v l).1,(HT d s v l).2):=Sp hd hv s (by omega);have e2:wI ((He (.va v l n)).2.1+(He (.va v l n)).2.2.1)=((l+n:Nat):Int):=A2 (show(l:Int)+(n:Int)=_ by omega) (by omega);have e3:Bf a (He (.va v l n)).1 ((l+n:Nat):Int) d (M d 0 (HT d s v l).1) (HT d s v l).2=some (d,M d 0 (HT d (HT d s v l) v (l+n)).1,(HT d (HT d s v l) v (l+n)).2):=Sp hd hv _ (by omega);rw[e1,AGV,e2,e3];rfl
theorem AfI{d:AHY}(hd:AL d){B1 B2:List Bt}(h1:Bm d B1)(h2:Bm d B2)(hl:B1.length=B2.length){f0:Nat->Nat->Bool}{s:SC}{o:NX}{N:Nat}(hI:LI d f0 s o N)(hN:N<=800000){a:Int}{dd:List (AHZ×AHZ×Unit)} :
    ∃s' o',F9 a (fN B1) (fN B2) d dd (M d 0 s.1) o s.2=some (d,dd,M d 0 s'.1,o',s'.2)/\LI d f0 s' o' (N+8192)/\OW s.1 s'.1/\(∀v p x,x∈nx o v p->x∈nx o' v p)/\(∀x∈Av B1++Av B2,Qd d s'.1 x)/\(∀p,1<=p->p<B1.length->Vb B1 B2 s'.1 o' p) /\
     ∀h,jw d B1 B2 h->OW s.1 h->NJ d h o->OW s'.1 h/\NJ d h o':=by
 unfold F9;have rE:(fN B1).length<=4096/\(fN B2).length<=4096/\1<=(fN B1).length:=by
  unfold fN;rw[BZ,BZ];have a1:=CP (CV B1);have a2:=CP (CV B2);rw[Cj]at a1 a2;have:=h1.1;have:=h1.2.1;have:=h2.2.1;refine⟨by omega,by omega,?_⟩;rcases AHj (Av B1).length with h0 |h0
  ·have e:Av B1=[]:=List.eq_nil_of_length_eq_zero h0;have:=Cj B1;rw[e]at this;simp[A6]at this;omega
  ·omega
 rw[jQ rE.2.2 (by omega) (by omega),AGV];have efs:fN B1++fN B2=fV (Av B1++Av B2):=(Ow _ _).symm;rw[efs];have oq:∀x∈Av B1++Av B2,Ti d x:=λx hx=>by
  rcases List.mem_append.1 hx with hx |hx
  ·exact(Wc h1 hx).1
  ·exact(Wc h2 hx).1
 have qb:(Av B1++Av B2).length<=8192:=by
  have:=rE.1;have:=rE.2.1;unfold fN at *;rw[BZ]at *;rw[AGZ];omega
 have YX:Ih a (fN B1) (fN B2) dd o (fV (Av B1++Av B2)) ((fV (Av B1++Av B2)).length:Int) 0 d (M d 0 s.1) s.2=some (d,M d 0 ((Av B1++Av B2).foldl (T7 d) s).1,((Av B1++Av B2).foldl (T7 d) s).2):=by
  unfold Ih;generalize Av B1++Av B2=fs at *;rw[BZ];have:=AQ (f:=CR a (fN B1) (fN B2) dd o (fV fs) (fs.length:Int)) (λk=>((k:Int),d,M d 0 ((fs.take k).foldl (T7 d) s).1,((fs.take k).foldl (T7 d) s).2)) (t:=(d,M d 0 (fs.foldl (T7 d) s).1,(fs.foldl (T7 d) s).2)) fs.length (λk hk=>?_) ?_
  ·exact this
  ·unfold CR GY;simp only;have hci:=(cK (fs.take k) s (λx hx=>oq x (List.mem_of_mem_take hx)) hI.ci hI.todo).1;rw[DN hk,AHb,AbY hd hk (oq _ (AG hk)) (by have:=hci.len;omega),AGV,Bi hk (by omega),AX (z:=.co []) hk,List.foldl_append];rfl
  ·unfold CR GY;simp only;rw[EB,AHa,AG5 (AG1 _)]
 rw[YX,AGV,Adh hd h1,AGV,Adh hd h2,AGV];obtain⟨i1,i2,i3,i4,i5⟩:=cK (Av B1++Av B2) s oq hI.ci hI.todo;generalize (Av B1++Av B2).foldl (T7 d) s=s1 at *;have od:Ax (Hp a (YZ (Av B1)) (YZ (Av B2)) dd 1 d (M d 0 s1.1) o s1.2) λr=>∃s' o',r=(d,M d 0 s'.1,o',s'.2)/\LI d f0 s' o' (N+2*(B1.length-1))/\OW s1.1 s'.1/\(∀v p x,x∈nx o v p->x∈nx o' v p)/\(∀p,1<=p->p<B1.length-1+1->Vb B1 B2 s'.1 o' p) /\
     ∀h,SP B1 B2 h->OW s1.1 h->NJ d h o->OW s'.1 h/\NJ d h o':=by
  unfold Hp;have:=BJ (f:=CJ a (YZ (Av B1)) (YZ (Av B2)) dd) (λk (x:SC×NX)=>(((k+1:Nat):Int),d,M d 0 x.1.1,x.2,x.1.2)) (B1.length-1)
   (λk x=>LI d f0 x.1 x.2 (N+2*k)/\OW s1.1 x.1.1/\(∀v p y,y∈nx o v p->y∈nx x.2 v p)/\(∀p,1<=p->p<k+1->Vb B1 B2 x.1.1 x.2 p)/\∀h,SP B1 B2 h->OW s1.1 h->NJ d h o->OW x.1.1 h/\NJ d h x.2)
   (Q:=λr=>∃s' o',r=(d,M d 0 s'.1,o',s'.2)/\LI d f0 s' o' (N+2*(B1.length-1))/\OW s1.1 s'.1/\(∀v p x,x∈nx o v p->x∈nx o' v p)/\(∀p,1<=p->p<B1.length-1+1->Vb B1 B2 s'.1 o' p)/\∀h,SP B1 B2 h->OW s1.1 h->NJ d h o->OW s'.1 h/\NJ d h o')
   (λk x hk hx=>?_) (λx hx=>?_) (s0:=(s1,o)) ⟨⟨i1,i2,hI.nv,λv p=>hI.nl v p⟩,λ_ _ h=>h,λ_ _ _ h=>h,λp h1 h2=>by omega,λh _ hu hj=>⟨hu,hj⟩⟩
  ·exact this
  ·obtain⟨j1,j2,j3,j4,j5⟩:=hx;have hb:=h1.2.1;unfold CJ FP;simp only;obtain⟨s',o',e1,st⟩:=AmA hd h1 h2 hl (show k+1<B1.length by omega) (s:=x.1) (o:=x.2) (by have:=j1.ci.len;omega) (λv p=>by have:=j1.nl v p;omega) (a:=a) (dd:=dd);obtain⟨k1,k2,k3,k4,k5⟩:=AfS (by omega) (show k+1<B1.length by omega) j1 st;rw[bD,DN (show k+1<B1.length by omega),AHb,e1,AGV,A2 (x:=((k+1:Nat):Int)+1) (n:=k+1+1) (by omega) (by omega)];refine Ax.mk ⟨(s',o'),rfl,k1,λu q h=>k2 u q (j2 u q h),λv p y hy=>k3 v p y (j3 v p y hy),λp XD Z2=>?_,λh hs hu hj=>?_⟩
   ·rcases AG6 p (k+1)with Bj |YW
    ·exact(j4 p XD Bj).mono k2 k3
    ·rw[show p=k+1 by omega];exact k4
   ·obtain⟨q1,q2⟩:=j5 h hs hu hj;exact k5 h hs q1 q2
  ·unfold CJ FP;simp only;have:=h1.1;rw[bD,show B1.length-1+1=B1.length by omega,EB,AHa];refine Ax.mk ⟨x.1,x.2,rfl,hx.1,hx.2.1,hx.2.2.1,?_,hx.2.2.2.2⟩;have:=hx.2.2.2.1;rwa [show B1.length-1+1=B1.length by omega]at this
 obtain⟨r,hr,s',o',rfl,j1,j2,j3,j4,j5⟩:=od;rw[hr,AGV];have hb:=h1.2.1;have c7:=h1.1;refine⟨s',o',rfl,⟨j1.ci,j1.todo,j1.nv,λv p=>by have:=j1.nl v p;omega⟩,λu q h=>j2 u q (i3 u q h),j3,λx hx=>?_,λp XD Z2=>j4 p XD (by omega),λh hs hu hj=>j5 h hs.2 (i5 h hs.1 hu) hj⟩;cases x with
 |co b=>trivial
 |va v l n=>exact⟨(i4 _ hx).1.mono j2,(i4 _ hx).2.mono j2⟩
abbrev ma:Type:=AHZ×AHZ×Unit
abbrev Agq:ma:=([],[],())
noncomputable def MM(d:AHY)(l:AH0)(i:Nat):ma:=((F3 d (lS l i)).2,(F3 d (lT l i)).2,())
theorem TK{d:AHY}{l:AH0}(hd:AL d)(hl:∀x∈l,Tc x)(hp:ML d l):Ax (Ln d l) λr=>(r.1=true/\FG d l/\r.2=(List.range l.length).map (MM d l))\/(r.1=false/\¬FG d l):=by
 unfold Ln;have hlen:=hp.1;rw[AHd ⟨rfl,by omega,by omega,by omega,by omega⟩,AGW];refine Ax.bind (P:=λt=>(∃x,t=.inl x/\¬FG d l)\/(t=.inr ((List.range l.length).map (MM d l))/\FG d l)) ?_ λt ht=>?_
 ·unfold TM;have z0:∀n,B7 (MM d l) (Agq) n 0=List.replicate n (([]:AHZ),([]:AHZ),()):=λn=>Lh _ _ _;refine B8 (λm (x:Int×List ma)=>∃k:Nat,k<=l.length/\m=l.length-k/\x=((k:Int),B7 (MM d l) (Agq) l.length k)/\∀i,i<k->bP d l i) (λm x hI=>?_) l.length _ ⟨0,Nat.zero_le _,rfl,by rw[z0];rfl,λi hi=>by omega⟩;obtain⟨k,hk,rfl,rfl,h3⟩:=hI;unfold Nw Rq P2;simp only;rcases AG6 k l.length with h |h
  ·have hB:=hl _ (AG (z :=Af.zero) h);have oc:=hp.2 k h;obtain⟨ws,hw⟩:=UW oc.2.2.1;obtain⟨fh,fJ⟩:=UW (show 0<=F6 d (lT l k) by rw[oc.2.2.2];exact oc.2.2.1);have e1:FQ d (l.getD k Af.zero).2.2.1=some (F3 d (lS l k)):=V3 hd hB.1 hw;have e2:FQ d (l.getD k Af.zero).2.2.2.1=some (F3 d (lT l k)):=V3 hd hB.2 fJ;rw[DN h,AHb,AHd (Bl h),AGW,e1,AGV,e2,AGV];cases hc:(!(F3 d (lS l k)).1||!(F3 d (lT l k)).1)with
   |true =>
    refine Ax.mk (.inl ⟨_,rfl,λh'=>?_⟩);have:=kT.2 (h' k h);rw[hc]at this;cases this
   |false =>
    rw[AHa,F7,AHd (Bl h),Bi h (by omega)];refine Ax.mk ⟨l.length-(k+1),by omega,k+1,h,rfl,?_,λi hi=>?_⟩
    ·rw[<-Ox];rfl
    ·rcases AG6 i k with h' |h'
     ·exact h3 i h'
     ·rw[show i=k by omega];exact kT.1 hc
  ·have:k=l.length:=by omega
   subst this;rw[EB,AHa];refine Ax.mk (.inr ⟨?_,h3⟩);congr 1;unfold B7;refine List.map_congr_left λi hi=>?_;rw[AHd (List.mem_range.1 hi)]
 ·rcases ht with ⟨x,rfl,h⟩|⟨rfl,h⟩
  ·exact Ax.mk (.inr ⟨rfl,h⟩)
  ·exact Ax.mk (.inl ⟨rfl,h,rfl⟩)
def b1(d:AHY)(l:AH0)(i:Nat):List Bt:=dC d (lS l i)
def b2(d:AHY)(l:AH0)(i:Nat):List Bt:=dC d (lT l i)
theorem TA{d:AHY}{l:AH0}(hd:AL d)(hl:∀x∈l,Tc x)(hp:ML d l)(hs:FG d l){i:Nat}(hi:i<l.length) :
    Bm d (b1 d l i)/\Bm d (b2 d l i)/\(b1 d l i).length=(b2 d l i).length/\MM d l i=(fN (b1 d l i),fN (b2 d l i),())/\(F3 d (lS l i))=(true,fN (b1 d l i))/\(F3 d (lT l i))=(true,fN (b2 d l i)):=by
 have hB:=hl _ (AG (z :=Af.zero) hi);obtain⟨h1,h2⟩:=hs i hi;have oc:=hp.2 i hi;obtain⟨ws,hw⟩:=UW oc.2.2.1;obtain⟨fh,fJ⟩:=UW (show 0<=F6 d (lT l i) by rw[oc.2.2.2];exact oc.2.2.1);obtain⟨a1,a2⟩:=cQ hd hB.1 h1;obtain⟨c1,c2⟩:=cQ hd hB.2 h2;have t1:=(eG (t:=lS l i) hd hB.1 hw _ (AG1 _) ((lS l i).length-1) (by have:=hw.1;omega)).2;have t2:=(eG (t:=lT l i) hd hB.2 fJ _ (AG1 _) ((lT l i).length-1) (by have:=fJ.1;omega)).2;have e:=oc.2.2.2;rw[Wh hw,Wh fJ]at e;refine⟨a1.1,c1.1,?_,?_,Prod.ext h1 a2,Prod.ext h2 c2⟩
 ·have e1:((b1 d l i).length:Int)=ws.getD ((lS l i).length-1) 0:=t1;have e2:((b2 d l i).length:Int)=fh.getD ((lT l i).length-1) 0:=t2;omega
 ·unfold MM;rw[show(F3 d (lS l i)).2=fN (b1 d l i)from a2,show(F3 d (lT l i)).2=fN (b2 d l i)from c2]
end Go.Proofs.X
