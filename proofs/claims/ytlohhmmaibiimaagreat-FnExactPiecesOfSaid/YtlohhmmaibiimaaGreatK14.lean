import Derived.Test.YtlohhmmaibiimaaGreatK13
set_option linter.unusedVariables false
set_option linter.unusedSimpArgs false
namespace Go.Proofs.X
open Go Go.Va
set_option maxRecDepth 100000
def A4(n:Axj):Int:=n.1
def FH(n:Axj):Int:=n.2.1
def nA(n:Axj):Int:=n.2.2.1
def nB(n:Axj):Int:=n.2.2.2.1
def nW(n:Axj):Int:=n.2.2.2.2.1.1
def VQ(n:Axj):Axs:=n.2.2.2.2.1.2.1
def Av(n:Axj):Axs:=n.2.2.2.2.2.1
def Rl(n:Axj):Prop:=(Av n).length<=1048576/\(VQ n).length<=1048576/\Words (VQ n)
def KQ(n:Axj)(i:Nat):Prop:=∀k∈Av n,0<=k/\k<(i:Int)
def NoB(n:Axj):Prop:=nW n=0/\(VQ n).length=0
def TJ(n:Axj):Prop:=4<=A4 n/\A4 n<=9
instance (n:Axj):Decidable (NoB n):=inferInstanceAs (Decidable (_/\_))
instance (n:Axj):Decidable (TJ n):=inferInstanceAs (Decidable (_/\_))
def QC(n:Axj):Prop:=(A4 n≠1->FH n=0)/\(A4 n≠2->NoB n)/\(A4 n≠4->nB n=0)/\(¬TJ n->nA n=0)
def dX(n:Axj):Prop:=∃m:Nat,nW n=(m:Int)/\Ys m (VQ n)
def IH(d:Axw)(n:Axj):Prop :=
 (A4 n=1/\(Av n).length=0/\0<=FH n/\FH n<(d.length:Int))\/(A4 n=2/\(Av n).length=0/\dX n)\/(A4 n=3/\2<=(Av n).length)\/(4<=A4 n/\A4 n<=9/\(Av n).length=1)
def Em(d:Axw)(n:Axj)(s:Int):Int :=
 if A4 n=1 then dw d (FH n).toNat else if A4 n=2 then nW n else
 if A4 n=4 then(if 0<=nB n/\nB n<=nA n/\nA n<s then nA n-nB n+1 else -1) else
 if A4 n=5\/A4 n=6 then(if 0<=nA n/\nA n<=4096 then s+nA n else -1) else
 if A4 n=7\/A4 n=8 then(if 0<=nA n/\nA n<=4096 then s else -1) else
 if A4 n=9 then(if 1<=nA n/\nA n<=4096 then s*nA n else -1) else s
def EP(wide:Axs)(n:Axj):Axs:=(Av n).map λk=>wide.getD k.toNat 0
def dU(d:Axw)(wide:Axs)(n:Axj)(w:Int):Prop :=
 KQ n wide.length/\QC n/\IH d n/\w=Em d n (EP wide n).sum/\1<=w/\w<=4096
theorem ZQ{A:Type}(l:List A):((l.length:Int)==0)=decide (l.length=0):=by
 cases h:decide (l.length=0) with
 | true=>have:=of_decide_eq_true h;rw[this];rfl
 | false=>have:=of_decide_eq_false h;exact beq_eq_false_iff_ne.2 (by omega)
theorem Ou{a b:Int}:(a !=b)=decide (a≠b):=by
 cases h:decide (a≠b) with
 | true=>exact bne_iff_ne.2 (of_decide_eq_true h)
 | false=>have:=of_decide_eq_false h;simp at this;rw[this];simp
theorem Ot{a b:Int}:(a==b)=decide (a=b):=by
 cases h:decide (a=b) with
 | true=>rw[of_decide_eq_true h];simp
 | false=>exact beq_eq_false_iff_ne.2 (of_decide_eq_false h)
theorem Zi(n:Axj):BJ n.2.2.2.2.1=decide (NoB n):=by
 have h1:(nW n==0)=decide (nW n=0):=Ot;have h2:=ZQ (VQ n);show((nW n==0)&&(((VQ n).length:Int)==0))=_;rw[h1,h2];exact(Bool.decide_and _ _).symm
theorem iA(n:Axj):AK n.1=decide (TJ n):=by
 unfold AK;exact NI _ _ _
theorem jh{d:Axw}{n:Axj}{i:Nat}(hn:Rl n)(hi:i<=1048576)(hd:d.length<=1048576):Aq (JQ d n (i:Int)) λr=>r=true↔KQ n i/\QC n/\IH d n:=by
 unfold JQ;refine Aq.bind (P:=λt=>(t=.inl ()/\¬KQ n i)\/(t=.inr ()/\KQ n i)) ?_ λt ht=>?_
 ·unfold Pr;refine Bd (λj (_:Unit)=>(j:Int)) (Av n).length (λj _=>∀k,k<j->0<=(Av n).getD k 0/\(Av n).getD k 0<(i:Int)) (λj _ hj hJ=>?_) (λ_ hJ=>?_) (s0:=()) (λi h=>by omega)
  ·unfold Ho Kw;have hlen:=hn.1;show Aq (bif decide ((j:Int)<((Av n).length:Int)) then(if 0<=(j:Int)/\(j:Int)<((Av n).length:Int) then(bif !A8 ((Av n).getD (j:Int).toNat 0) 0 (wI ((i:Int)-1)) then _ else _) else none) else _) _;rw[EE hj,Axc,if_pos (rng hj),AwX,wrap64 (x:=(i:Int)-1) (by omega) (by omega),NI];by_cases h:0<=(Av n).getD j 0/\(Av n).getD j 0<(i:Int)
   ·rw[Aw1 (by omega)];simp only[Bool.not_true,Axb];rw[AY hj (by omega)];refine Aq.mk ⟨(),rfl,λk hk=>?_⟩;rcases Aw7 k j with h' | h'
    ·exact hJ k h'
    ·rw[show k=j by omega];exact h
   ·rw[AwZ (by omega)];exact Aq.mk (.inl ⟨rfl,λhk=>h (hk _ (Az hj))⟩)
  ·unfold Ho Kw;show Aq (bif decide (((Av n).length:Int)<((Av n).length:Int)) then _ else _) _;rw[Ff,Axb];refine Aq.mk (.inr ⟨rfl,λk hk=>?_⟩);obtain⟨m,hm,rfl⟩:=List.getElem_of_mem hk;have:=hJ m hm;rwa [show(Av n).getD m 0=(Av n)[m] by simp[List.getD,hm]] at this
 ·rcases ht with ⟨rfl,h⟩| ⟨rfl,h⟩
  ·exact Aq.mk ⟨λh=>by(cases h),λh'=>absurd h'.1 h⟩
  ·refine Aq.bind (P:=λt=>(t=.inl ()/\¬QC n)\/(t=.inr ()/\QC n)) ?_ λt ht=>?_
   ·unfold MQ N8;have hb:=Zi n;have h1:=iA n;have e1:∀x:Int,(n.1 !=x)=decide (A4 n≠x):=λx=>Ou;have e2:(n.2.1 !=(0:Int))=decide (FH n≠0):=Ou;have e3:(n.2.2.2.1 !=(0:Int))=decide (nB n≠0):=Ou;have e4:(n.2.2.1 !=(0:Int))=decide (nA n≠0):=Ou;rw[hb,h1,e1,e1,e1,e2,e3,e4];unfold QC;by_cases a1:A4 n=1<;>by_cases a2:A4 n=2<;>by_cases a3:A4 n=4<;>by_cases a4:TJ n<;>by_cases a5:FH n=0<;>by_cases a6:NoB n<;>by_cases a7:nB n=0<;>by_cases a8:nA n=0 <;>
     first | (exfalso;omega)| (simp[a1,a2,a3,a4,a5,a6,a7,a8,NZ];done)
   ·rcases ht with ⟨rfl,h2⟩| ⟨rfl,h2⟩
    ·exact Aq.mk ⟨λh=>by(cases h),λh'=>absurd h'.2.1 h2⟩
    ·have hk:=hn.1;have e1:∀x:Int,(n.1==x)=decide (A4 n=x):=λx=>Ot;have e2:((n.2.2.2.2.2.1.length:Int)==0)=decide ((Av n).length=0):=ZQ (Av n);have e3:((n.2.2.2.2.2.1.length:Int)==1)=decide ((Av n).length=1):=by
      show(((Av n).length:Int)==1)=_;rw[Ot,decide_eq_decide];omega
     have e4:decide ((n.2.2.2.2.2.1.length:Int)>=2)=decide (2<=(Av n).length):=by
      show decide (((Av n).length:Int)>=2)=_;rw[decide_eq_decide];omega
     have e5:A8 n.2.1 0 (wI ((d.length:Int)-1))=decide (0<=FH n/\FH n<(d.length:Int)):=by
      rw[NI,wrap64 (x:=(d.length:Int)-1) (by omega) (by omega),decide_eq_decide];show 0<=FH n/\FH n<=(d.length:Int)-1↔_;omega
     obtain⟨r,hr,hq⟩:=Yk (w:=nW n) hn.2.2 hn.2.1;have e6:JK n.2.2.2.2.1=some r:=hr;have hv:dX n↔r=true:=hq.symm;have h1:=iA n;simp only[Sum.elim_inr];rw[e1,e1,e1,e2,e3,e4,e5,e6,h1];unfold IH;rw[show(4<=A4 n/\A4 n<=9/\(Av n).length=1)=(TJ n/\(Av n).length=1) from propext and_assoc.symm,hv];have hone:TJ n↔4<=A4 n/\A4 n<=9:=Iff.rfl;by_cases a1:A4 n=1
     ·have a4:¬TJ n:=by rw[hone];omega
      by_cases a5:(Av n).length=0
      ·simp[a1,a4,a5,h,h2,NZ]
      ·simp[a1,a4,a5,h,h2,NZ]
     ·by_cases a2:A4 n=2
      ·have a4:¬TJ n:=by rw[hone];omega
       by_cases a5:(Av n).length=0
       ·simp[a2,a4,a5,h,h2,NZ]
       ·simp[a2,a4,a5,h,h2,NZ]
      ·by_cases a3:A4 n=3
       ·have a4:¬TJ n:=by rw[hone];omega
        simp[a3,a4,h,h2,NZ]
       ·by_cases a4:TJ n
        ·simp[a1,a2,a3,a4,h,h2,NZ]
        ·simp[a1,a2,a3,a4,h,h2,NZ]
def Ng(wide:Axs)(n:Axj):Int:=(EP wide n).sum
def Wq(wide:Axs):Prop:=wide.length<=1048576/\∀w∈wide,1<=w/\w<=4096
theorem XV{wide:Axs}(h:Wq wide){k:Int}(hk:0<=k/\k<(wide.length:Int)):1<=wide.getD k.toNat 0/\wide.getD k.toNat 0<=4096:=h.2 _ (Az (by omega))
theorem Ve{wide:Axs}{n:Axj}{k:Nat}(hk:k<(Av n).length):((EP wide n).take (k+1)).sum=((EP wide n).take k).sum+wide.getD ((Av n).getD k 0).toNat 0:=by
 have hl:k<(EP wide n).length:=by unfold EP;rw[Aw8];exact hk
 rw[AG hl (z:=0),List.sum_append];unfold EP;rw[K4 (λk=>wide.getD k.toNat 0) hk (y:=0)];simp
theorem Tl{wide:Axs}{n:Axj}(hw:Wq wide)(hin:KQ n wide.length):∀k,k<=(Av n).length->(k:Int)<=((EP wide n).take k).sum/\((EP wide n).take k).sum<=4096*k:=by
 intro k;induction k with
 | zero=>simp
 | succ k ih =>
  intro hk;rw[Ve (by omega)];have:=ih (by omega);have:=XV hw (hin _ (Az (z:=0) (show k<(Av n).length by omega)));omega
theorem Y5(wide:Axs)(n:Axj):(EP wide n).take (Av n).length=EP wide n:=Aw6 (by unfold EP;rw[Aw8];exact Aw2 _)
theorem QW{wide:Axs}{n:Axj}(hw:Wq wide)(hin:KQ n wide.length):((Av n).length:Int)<=Ng wide n/\Ng wide n<=4096*(Av n).length:=by
 have:=Tl hw hin _ (Aw2 _);rw[Y5] at this;exact this
theorem jr{d:Axw}{wide:Axs}{n:Axj}(hn:Rl n)(hw:Wq wide)(hin:KQ n wide.length)(hf:IH d n):Aq (JR d n wide) λr=>r=Em d n (min 8192 (Ng wide n)):=by
 unfold JR;have hlen:=hn.1;refine Aq.bind (P:=λt=>t=min 8192 (Ng wide n)) ?_ λt ht=>?_
 ·unfold Ps;have h0:min 8192 (((EP wide n).take 0).sum)=0:=rfl;have:=Bd (f:=ES d wide n) (λk (_:Unit)=>(min 8192 (((EP wide n).take k).sum),(k:Int))) (Av n).length (λ_ _=>True) (Q:=λt=>t=min 8192 (Ng wide n)) (λk _ hk _=>?_) (λ_ _=>?_) (s0:=()) trivial
  ·rw[h0] at this;exact this
  ·unfold ES Kx;have zK:=hin _ (Az (z:=0) hk);have hb:=Tl hw hin k (by omega);have hwk:=XV hw zK;show Aq (bif decide ((k:Int)<((Av n).length:Int)) then(if 0<=(k:Int)/\(k:Int)<((Av n).length:Int) then(if 0<=(Av n).getD (k:Int).toNat 0/\(Av n).getD (k:Int).toNat 0<(wide.length:Int) then some (Sum.inl (if wI (min 8192 (((EP wide n).take k).sum)+wide.getD ((Av n).getD (k:Int).toNat 0).toNat 0)<8192 then wI (min 8192 (((EP wide n).take k).sum)+wide.getD ((Av n).getD (k:Int).toNat 0).toNat 0) else 8192,wI ((k:Int)+1))) else none) else none) else _) _;rw[EE hk,Axc,if_pos (rng hk),AwX,if_pos zK,AY hk (by omega)];refine Aq.mk ⟨(),?_,trivial⟩;rw[wrap64 (by omega) (by omega),Ve hk];refine congrArg (·,((k+1:Nat):Int)) ?_;split<;>omega
  ·unfold ES Kx;show Aq (bif decide (((Av n).length:Int)<((Av n).length:Int)) then _ else _) _;rw[Ff,Axb];refine Aq.mk ?_;show min 8192 (((EP wide n).take (Av n).length).sum)=_;rw[Y5];rfl
 ·subst ht;generalize hS:min 8192 (Ng wide n)=S;have hSb:0<=S/\S<=8192:=by have:=QW hw hin;omega
  have e1:∀x:Int,(n.1==x)=decide (A4 n=x):=λx=>Ot;have e2:A8 n.2.2.1 0 4096=decide (0<=nA n/\nA n<=4096):=NI _ _ _;have e3:A8 n.2.2.1 1 4096=decide (1<=nA n/\nA n<=4096):=NI _ _ _;have e4:(decide (n.2.2.2.1<0)||(decide (n.2.2.1<n.2.2.2.1)||decide (n.2.2.1>=S)))=decide (¬(0<=nB n/\nB n<=nA n/\nA n<S)):=by
   show(decide (nB n<0)||(decide (nA n<nB n)||decide (nA n>=S)))=_;rw[<-Bool.decide_or,<-Bool.decide_or,decide_eq_decide];omega
  unfold MR Em N8;rw[e1,e1,e1,e1,e1,e1,e1,e1,e2,e3,e4];by_cases a1:A4 n=1
  ·have hv:0<=FH n/\FH n<(d.length:Int):=by
     rcases hf with h | h | h | h
     ·exact h.2.2
     ·omega
     ·omega
     ·omega
   rw[if_pos a1,Aw1 a1,Axc,if_pos (show 0<=n.2.1/\n.2.1<(d.length:Int) from hv)];exact Aq.mk rfl
  ·rw[if_neg a1,AwZ a1,Axb];by_cases a2:A4 n=2
   ·rw[if_pos a2,Aw1 a2,Axc];exact Aq.mk rfl
   ·rw[if_neg a2,AwZ a2,Axb];by_cases a4:A4 n=4
    ·rw[if_pos a4,Aw1 a4,Axc];by_cases h:0<=nB n/\nB n<=nA n/\nA n<S
     ·rw[if_pos h,AwZ (λhh=>hh h),Axb];refine Aq.mk ?_;show wI (wI (nA n-nB n)+1)=_;rw[wrap64 (x:=nA n-nB n) (by omega) (by omega),wrap64 (by omega) (by omega)]
     ·rw[if_neg h,Aw1 h,Axc];exact Aq.mk rfl
    ·rw[if_neg a4,AwZ a4,Axb];by_cases a5:A4 n=5\/A4 n=6
     ·rw[if_pos a5];have hc:(bif decide (A4 n=5) then decide (A4 n=5) else decide (A4 n=6))=true:=by
       rcases a5 with h | h
       ·simp[h]
       ·simp[h]
      rw[hc,Axc];by_cases h:0<=nA n/\nA n<=4096
      ·rw[if_pos h,Aw1 h];refine Aq.mk ?_;show wI (S+nA n)=_;rw[wrap64 (by omega) (by omega)]
      ·rw[if_neg h,AwZ h];exact Aq.mk rfl
     ·rw[if_neg a5];have hc:(bif decide (A4 n=5) then decide (A4 n=5) else decide (A4 n=6))=false:=by
       simp only[not_or] at a5;simp[a5]
      rw[hc,Axb];by_cases a7:A4 n=7\/A4 n=8
      ·rw[if_pos a7];have hc:(bif decide (A4 n=7) then decide (A4 n=7) else decide (A4 n=8))=true:=by
        rcases a7 with h | h
        ·simp[h]
        ·simp[h]
       rw[hc,Axc];by_cases h:0<=nA n/\nA n<=4096
       ·rw[if_pos h,Aw1 h];exact Aq.mk rfl
       ·rw[if_neg h,AwZ h];exact Aq.mk rfl
      ·rw[if_neg a7];have hc:(bif decide (A4 n=7) then decide (A4 n=7) else decide (A4 n=8))=false:=by
        simp only[not_or] at a7;simp[a7]
       rw[hc,Axb];by_cases a9:A4 n=9
       ·rw[if_pos a9,Aw1 a9,Axc];by_cases h:1<=nA n/\nA n<=4096
        ·rw[if_pos h,Aw1 h];refine Aq.mk ?_;show wI (S*nA n)=_;have h1:0<=S*nA n:=Int.mul_nonneg hSb.1 (by omega);have h2:S*nA n<=8192*4096:=Int.mul_le_mul hSb.2 h.2 (by omega) (by omega);rw[wrap64 (by omega) (by omega)]
        ·rw[if_neg h,AwZ h];exact Aq.mk rfl
       ·rw[if_neg a9,AwZ a9,Axb];exact Aq.mk rfl
end Go.Proofs.X
namespace Go.Proofs.X
open Go Go.Va
set_option maxRecDepth 100000
theorem Abw{d:Axw}{wide:Axs}{n:Axj}(hw:Wq wide)(hin:KQ n wide.length)(hf:IH d n):Em d n (min 8192 (Ng wide n))=Em d n (Ng wide n)\/(4096<Em d n (min 8192 (Ng wide n))/\4096<Em d n (Ng wide n)):=by
 have hb:=QW hw hin;rcases hf with h | h | h | h
 ·left;simp[Em,h.1]
 ·left;simp[Em,h.1]
 ·by_cases hs:Ng wide n<=8192
  ·left;rw[show min 8192 (Ng wide n)=Ng wide n by omega]
  ·right;have e:∀S,Em d n S=S:=λS=>by simp[Em,h.1]
   rw[e,e];omega
 ·left;rw[show min 8192 (Ng wide n)=Ng wide n by omega]
instance (n:Axj):Decidable (QC n):=inferInstanceAs (Decidable (_/\_/\_/\_))
theorem AaE(n:Axj):C1 n=decide (QC n):=by
 have hb:((n.2.2.2.2.1.1==(0:Int))&&((n.2.2.2.2.1.2.1.length:Int)==0))=decide (NoB n):=Zi n;have h1:(decide (n.1>=4)&&decide (n.1<=9))=decide (TJ n):=(Bool.decide_and _ _).symm;have e1:∀x:Int,(n.1 !=x)=decide (A4 n≠x):=λx=>Ou;have e0:(n.1==(2:Int))=decide (A4 n=2):=Ot;have e2:(n.2.1 !=(0:Int))=decide (FH n≠0):=Ou;have e3:(n.2.2.2.1 !=(0:Int))=decide (nB n≠0):=Ou;have e4:(n.2.2.1 !=(0:Int))=decide (nA n≠0):=Ou;have hp:decide (QC n)=decide ((A4 n≠1->FH n=0)/\(A4 n≠2->NoB n)/\(A4 n≠4->nB n=0)/\(¬TJ n->nA n=0)):=rfl;rw[hp];unfold C1;rw[hb,h1,e1,e1,e0,e2,e3,e4];by_cases a1:A4 n=1<;>by_cases a2:A4 n=2<;>by_cases a3:A4 n=4<;>by_cases a4:TJ n<;>by_cases a5:FH n=0<;>by_cases a6:NoB n<;>by_cases a7:nB n=0<;>by_cases a8:nA n=0 <;>
  first | (exfalso;omega)| (simp[a1,a2,a3,a4,a5,a6,a7,a8];done)
theorem iq{d:Axw}{wide:Axs}{n:Axj}(hn:Rl n)(hw:Wq wide)(hd:d.length<=1048576)(hin:KQ n wide.length):Aq (C2 n d (EP wide n)) λr=>(IH d n->r=Em d n (Ng wide n))/\(¬IH d n->r=-1):=by
 have hlen:=hn.1;have hkl:(EP wide n).length=(Av n).length:=by unfold EP;rw[Aw8]
 have hS:=QW hw hin;have e1:∀x:Int,(n.1==x)=decide (A4 n=x):=λx=>Ot;have e2:((((EP wide n).length:Nat):Int)==0)=decide ((Av n).length=0):=by rw[ZQ,hkl]
 have e3:((((EP wide n).length:Nat):Int) !=1)=decide ((Av n).length≠1):=by rw[Ou,decide_eq_decide];omega
 have e4:decide ((((EP wide n).length:Nat):Int)>1)=decide (2<=(Av n).length):=by rw[decide_eq_decide];omega
 have e5:Ay n.2.1 0 (wI ((d.length:Int)-1))=decide (0<=FH n/\FH n<(d.length:Int)):=by
  rw[Kj,wrap64 (x:=(d.length:Int)-1) (by omega) (by omega),decide_eq_decide];show 0<=FH n/\FH n<=(d.length:Int)-1↔_;omega
 have e6:Ay n.2.2.1 0 4096=decide (0<=nA n/\nA n<=4096):=Kj _ _ _;have e7:Ay n.2.2.1 1 4096=decide (1<=nA n/\nA n<=4096):=Kj _ _ _;have hone:TJ n↔4<=A4 n/\A4 n<=9:=Iff.rfl;obtain⟨f,hf⟩:∃f,f=(bif decide ((((EP wide n).length:Nat):Int)>0) then(EP wide n).getD 0 0 else 0):=⟨_,rfl⟩;have hf1:(Av n).length=1->f=Ng wide n:=λh=>by
  rw[hf,Aw1 (by omega),Axc];unfold Ng;obtain⟨x,hx⟩:=List.length_eq_one_iff.1 (show(EP wide n).length=1 by omega);rw[hx];simp
 unfold C2 N8;rw[show Eh n d (EP wide n)=some f by
  unfold Eh;rw[hf];by_cases h:(Av n).length=0
  ·rw[AwZ (by omega)];rfl
  ·rw[Aw1 (by omega),Axc,Axc,if_pos ⟨by omega,by omega⟩];rfl,AwW,e5,e6,e7]
 rw[e1,e1,e1,e1,e1,e1,e1,e1,e2,e3,e4];have hF:IH d n↔(A4 n=1/\(Av n).length=0/\0<=FH n/\FH n<(d.length:Int))\/(A4 n=2/\(Av n).length=0/\dX n)\/(A4 n=3/\2<=(Av n).length)\/(4<=A4 n/\A4 n<=9/\(Av n).length=1):=Iff.rfl;have AqM:¬IH d n->Aq (some (-1:Int)) λr=>(IH d n->r=Em d n (Ng wide n))/\(¬IH d n->r=-1):=λh=>Aq.mk ⟨λh'=>absurd h' h,λ_=>rfl⟩;have pos:∀v:Int,IH d n->v=Em d n (Ng wide n)->Aq (some v) λr=>(IH d n->r=Em d n (Ng wide n))/\(¬IH d n->r=-1):=λv h e=>Aq.mk ⟨λ_=>e,λh'=>absurd h h'⟩;by_cases c1:A4 n=1/\(Av n).length=0/\(0<=FH n/\FH n<(d.length:Int))
 ·rw[<-Bool.decide_and,<-Bool.decide_and,Aw1 c1,Axc,if_pos (show 0<=n.2.1/\n.2.1<(d.length:Int) from c1.2.2)];exact pos _ (hF.2 (.inl c1)) (by unfold Em;rw[if_pos c1.1];rfl)
 ·rw[<-Bool.decide_and,<-Bool.decide_and,AwZ c1,Axb];obtain⟨b,hb1,hb2⟩:∃b,Ei n (EP wide n) f=some b/\(b=true↔A4 n=2/\(Av n).length=0/\dX n):=by
   unfold Ei;rw[e1,e2];obtain⟨r,hr,hq⟩:=X5 (w:=nW n) hn.2.2 hn.2.1;have e6:Js n.2.2.2.2.1=some r:=hr;rw[e6];have hq:r=true↔dX n:=hq;by_cases a2:A4 n=2
   ·by_cases a3:(Av n).length=0
    ·rw[Aw1 a2,Aw1 a3];exact⟨r,rfl,by rw[hq];exact⟨λh=>⟨a2,a3,h⟩,λh=>h.2.2⟩⟩
    ·rw[Aw1 a2,AwZ a3];exact⟨false,rfl,λh=>by(cases h),λh=>absurd h.2.1 a3⟩
   ·rw[AwZ a2];exact⟨false,rfl,λh=>by(cases h),λh=>absurd h.1 a2⟩
  rw[hb1,AwW];cases b with
  | true =>
   have c2:=hb2.1 rfl;exact pos _ (hF.2 (.inr (.inl c2))) (by unfold Em;rw[if_neg (by omega),if_pos c2.1];rfl)
  | false =>
   have c2:¬(A4 n=2/\(Av n).length=0/\dX n):=λh=>by have:=hb2.2 h;cases this
   rw[Axb,<-Bool.decide_and];by_cases c3:A4 n=3/\2<=(Av n).length
   ·rw[Aw1 c3,Axc];unfold KS;have:=AJ (f:=Bu (EP wide n) (((EP wide n).length:Nat):Int)) (λk=>((((EP wide n).take k).sum:Int),(k:Int))) (t:=Ng wide n) (EP wide n).length (λk hk=>by
     unfold Bu FB;rw[hkl] at hk;have hb:=Tl hw hin k (by omega);have hwk:=XV hw (hin _ (Az (z:=0) hk));have hg:(EP wide n).getD k 0=wide.getD ((Av n).getD k 0).toNat 0:=by unfold EP;exact K4 (λk=>wide.getD k.toNat 0) hk
     simp only;rw[hkl,EE hk,Axc,if_pos (rng hk),AwX,AY hk (by omega),Ve hk];show some (Sum.inl (wI (((EP wide n).take k).sum+(EP wide n).getD k 0),_))=_;rw[hg,wrap64 (by omega) (by omega)]) (by
     unfold Bu FB;simp only;rw[Ff,Axb,Aw6 (Aw2 _)];rfl)
    rw[show fix (Bu (EP wide n) (((EP wide n).length:Nat):Int)) (0,0)=some (Ng wide n) from this];exact pos _ (hF.2 (.inr (.inr (.inl c3)))) (by unfold Em;simp[c3.1])
   ·rw[AwZ c3,Axb];by_cases c4:(Av n).length=1
    ·rw[AwZ (λh=>h c4),Axb];have hfS:=hf1 c4;have hSb:0<=f/\f<=4096:=by omega
     have hpos:4<=A4 n/\A4 n<=9->IH d n:=λh=>hF.2 (.inr (.inr (.inr ⟨h.1,h.2,c4⟩)));have e4':(decide (n.2.2.2.1>=0)&&(decide (n.2.2.2.1<=n.2.2.1)&&decide (n.2.2.1<f)))=decide (0<=nB n/\nB n<=nA n/\nA n<f):=by
      show(decide (nB n>=0)&&(decide (nB n<=nA n)&&decide (nA n<f)))=_;rw[<-Bool.decide_and,<-Bool.decide_and]
     rw[e4',<-Bool.decide_and,<-Bool.decide_and,<-Bool.decide_and,<-Bool.decide_and];have ecx:(n.2.2.1:Int)=nA n:=rfl;have ecb:(n.2.2.2.1:Int)=nB n:=rfl;have hw0:∀v,v=Em d n f->v=Em d n (Ng wide n):=λv h=>by rw[<-hfS];exact h
     by_cases a4:A4 n=4
     ·by_cases h:0<=nB n/\nB n<=nA n/\nA n<f
      ·rw[Aw1 ⟨a4,h⟩,Axc];refine pos _ (hpos (by omega)) (hw0 _ ?_);show wI (wI (nA n-nB n)+1)=_;rw[wrap64 (x:=nA n-nB n) (by omega) (by omega),wrap64 (by omega) (by omega)];unfold Em;simp[a4,h]
      ·have:∀v:Int,v=-1->v=Em d n f:=λv hv=>by unfold Em;simp[a4,h,hv]
       simp[a4,h];exact pos _ (hpos (by omega)) (hw0 _ (this _ rfl))
     ·by_cases a5:A4 n=5\/A4 n=6
      ·by_cases h:0<=nA n/\nA n<=4096
       ·have:(bif decide (A4 n=5) then decide (0<=nA n/\nA n<=4096) else decide (A4 n=6/\0<=nA n/\nA n<=4096))=true:=by
          rcases a5 with h' | h'<;>simp[h',h]
        rw[AwZ (by omega),Axb,this,Axc];refine pos _ (hpos (by omega)) (hw0 _ ?_);show wI (f+nA n)=_;rw[wrap64 (by omega) (by omega)];unfold Em;rcases a5 with h' | h'<;>simp[h',h]
       ·have:∀v:Int,v=-1->v=Em d n f:=λv hv=>by unfold Em;rcases a5 with h' | h'<;>simp[h',h,hv]
        have h2:=pos _ (hpos (by omega)) (hw0 _ (this _ rfl));rcases a5 with h' | h'<;>simp[h',h]<;>exact h2
      ·by_cases a7:A4 n=7\/A4 n=8
       ·by_cases h:0<=nA n/\nA n<=4096
        ·have h2:=pos f (hpos (by omega)) (hw0 _ (by unfold Em;rcases a7 with h' | h'<;>simp[h',h]));rcases a7 with h' | h'<;>simp[h',h]<;>exact h2
        ·have:∀v:Int,v=-1->v=Em d n f:=λv hv=>by unfold Em;rcases a7 with h' | h'<;>simp[h',h,hv]
         have h2:=pos _ (hpos (by omega)) (hw0 _ (this _ rfl));rcases a7 with h' | h'<;>simp[h',h]<;>exact h2
       ·by_cases a9:A4 n=9
        ·by_cases h:1<=nA n/\nA n<=4096
         ·have h1:0<=f*nA n:=Int.mul_nonneg hSb.1 (by omega);have h2:f*nA n<=4096*4096:=Int.mul_le_mul hSb.2 h.2 (by omega) (by omega);have h3:=pos (wI (f*nA n)) (hpos (by omega)) (hw0 _ (by rw[wrap64 (by omega) (by omega)];unfold Em;simp[a9,h]));simp[a9,h];exact h3
         ·have:∀v:Int,v=-1->v=Em d n f:=λv hv=>by unfold Em;simp[a9,h,hv]
          have h2:=pos _ (hpos (by omega)) (hw0 _ (this _ rfl));simp[a9,h];exact h2
        ·simp only[not_or] at a5 a7;have h2:=AqM (by rw[hF];omega);simp[a4,a5,a7,a9];exact h2
    ·rw[Aw1 c4,Axc];exact AqM (by rw[hF];intro h;rcases h with h | h | h | h;exact c1 h;exact c2 h;exact c3 h;exact c4 h.2.2)
end Go.Proofs.X
namespace Go.Proofs.X
open Go Go.Va
set_option maxRecDepth 100000
def nd(t:Axy)(i:Nat):Axj:=t.getD i Ae.zero
def Pre(d:Axw)(t:Axy)(ws:Axs):Prop:=ws.length<=t.length/\∀j,j<ws.length->dU d (ws.take j) (nd t j) (ws.getD j 0)
def UF(t:Axy)(k i:Nat):Prop:=∃j,j<i/\(k:Int)∈Av (nd t j)
def KZ(d:Axw)(t:Axy)(ws:Axs):Prop:=1<=t.length/\t.length<=400/\ws.length=t.length/\Pre d t ws/\∀k,k+1<t.length->UF t k t.length
def NN(t:Axy):Prop:=t.length<=1048576/\∀n∈t,Rl n
theorem Pre.take{d:Axw}{t:Axy}{ws:Axs}(h:Pre d t ws)(i:Nat):Pre d t (ws.take i):=by
 have hl:=h.1;refine⟨by rw[List.length_take];omega,λj hj=>?_⟩;rw[List.length_take] at hj;have:=h.2 j (by omega);rwa [List.take_take,Nat.min_eq_left (by omega),show(ws.take i).getD j 0=ws.getD j 0 by simp[List.getD,show j<i by omega]]
theorem Pre.unique{d:Axw}{t:Axy}{a b:Axs}(ha:Pre d t a)(hb:Pre d t b)(hl:a.length=b.length):a=b:=by
 have:∀k,k<=a.length->a.take k=b.take k:=by
  intro k;induction k with
  | zero=>simp
  | succ k ih =>
   intro hk;have e:=ih (by omega);have h1:=ha.2 k (by omega);have h2:=hb.2 k (by omega);rw[AG (show k<a.length by omega) (z:=0),AG (show k<b.length by omega) (z:=0),e];rw[e] at h1;rw[h1.2.2.2.1,h2.2.2.2.1]
 have:=this a.length (Aw2 _);rwa [Aw6 (Aw2 _),Aw6 (by omega)] at this
theorem Pre.wide{d:Axw}{t:Axy}{ws:Axs}(h:Pre d t ws)(hl:t.length<=1048576):Wq ws:=by
 refine⟨Nat.le_trans h.1 hl,λw hw=>?_⟩;obtain⟨j,hj,rfl⟩:=List.getElem_of_mem hw;have:=(h.2 j hj).2.2.2.2;rwa [show ws.getD j 0=ws[j] by simp[List.getD,hj]] at this
theorem Pre.snoc{d:Axw}{t:Axy}{ws:Axs}{w:Int}(h:Pre d t ws)(hl:ws.length<t.length)(hn:dU d ws (nd t ws.length) w):Pre d t (ws++[w]):=by
 refine⟨by rw[Aw0];exact hl,λj hj=>?_⟩;rw[Aw0] at hj;simp only[List.length_cons,List.length_nil] at hj;rcases Aw7 j ws.length with h' | h'
 ·rw[List.take_append_of_le_length (by omega),show(ws++[w]).getD j 0=ws.getD j 0 by simp[List.getD,List.getElem?_append,h']];exact h.2 j h'
 ·have:j=ws.length:=by omega
  subst this;rw[UU,List.take_append_of_le_length (Aw2 _),Aw6 (Aw2 _)];exact hn
theorem KZ.node{d:Axw}{t:Axy}{ws ws':Axs}(h:KZ d t ws')(hp:Pre d t ws)(hl:ws.length<t.length):∃w,dU d ws (nd t ws.length) w:=by
 have e:ws=ws'.take ws.length:=hp.unique (h.2.2.2.1.take _) (by rw[List.length_take,h.2.2.1];omega);have:=h.2.2.2.1.2 ws.length (by rw[h.2.2.1];exact hl);rw[<-e] at this;exact⟨_,this⟩
theorem rG(wide:Axs)(n:Axj):Bn (λm=>wide.getD ((Av n).getD m 0).toNat 0) 0 (Av n).length (Av n).length=EP wide n:=by
 refine List.ext_getElem (by simp[Bn,EP]) λi h1 h2=>?_;have:i<(Av n).length:=by simpa [Bn] using h1
 simp[Bn,EP,List.getD,this]
theorem QM{l:Axs}{x:Int}:x∈l↔∃m,m<l.length/\l.getD m 0=x:=by
 constructor
 ·intro h;obtain⟨m,hm,rfl⟩:=List.getElem_of_mem h;exact⟨m,hm,by simp[List.getD,hm]⟩
 ·rintro⟨m,hm,rfl⟩
  exact Az hm
theorem SN{l:Axt}{k j:Nat}(hk:k<l.length):(l.set k true).getD j false=if j=k then true else l.getD j false:=by
 by_cases h:j=k
 ·subst h;simp[List.getD,hk]
 ·simp[List.getD,h,show ¬k=j from λe=>h e.symm]
theorem gY {D:Axw} {C E:Int} {t:Axp} {q:Axj} {ws out:Axs} {used:Axt} {n:Axj} {N:Nat} (hn:Rl n) (hl:ws.length<N) (hN:N<=1048576) (ho:out=ws++List.replicate (N-ws.length) 0) (hu:used.length=N) :
    Aq (Jx D C (ws.length:Int) E t out q (Av n) ((Av n).length:Int) 0 used (List.replicate (Av n).length 0)) λr=>(∃x,r=.inl x/\¬KQ n ws.length)\/(∃u,r=.inr (EP ws n,u)/\KQ n ws.length/\u.length=N/\∀k:Nat,k<N->(u.getD k false=true↔used.getD k false=true\/(k:Int)∈Av n)):=by
 unfold Jx;have hlen:=hn.1;have hol:out.length=N:=by rw[ho,Aw0,List.length_replicate];omega
 have hget:∀k:Nat,k<ws.length->out.getD k 0=ws.getD k 0:=λk hk=>by rw[ho];simp[List.getD,List.getElem?_append,hk]
 have:=Bd (f:=EN D C (ws.length:Int) E t out q (Av n) ((Av n).length:Int)) (λj (u:Axt)=>((j:Int),u,Bn (λm=>ws.getD ((Av n).getD m 0).toNat 0) 0 (Av n).length j)) (Av n).length
  (λj u=>(∀m,m<j->0<=(Av n).getD m 0/\(Av n).getD m 0<(ws.length:Int))/\u.length=N/\∀k:Nat,k<N->(u.getD k false=true↔used.getD k false=true\/∃m,m<j/\(Av n).getD m 0=(k:Int)))
  (Q:=λr=>(∃x,r=.inl x/\¬KQ n ws.length)\/(∃u,r=.inr (EP ws n,u)/\KQ n ws.length/\u.length=N/\∀k:Nat,k<N->(u.getD k false=true↔used.getD k false=true\/(k:Int)∈Av n))) (λj u hj hI=>?_) (λu hI=>?_) (s0:=used) ⟨λm hm=>by omega,hu,λk _=>⟨λh=>.inl h,λh=>by rcases h with h | ⟨m,hm,_⟩;exact h;omega⟩⟩
 ·rw[Jq] at this;exact this
 ·unfold EN Kh;simp only;rw[EE hj,Axc,if_pos (rng hj),AwX,Kj,wrap64 (x:=(ws.length:Int)-1) (by omega) (by omega)];show Aq (bif !decide (0<=(Av n).getD j 0/\(Av n).getD j 0<=(ws.length:Int)-1) then _ else _) _;by_cases h:0<=(Av n).getD j 0/\(Av n).getD j 0<=(ws.length:Int)-1
  ·rw[Aw1 h];simp only[Bool.not_true,Axb];obtain⟨k,hk⟩:∃k:Nat,(Av n).getD j 0=(k:Int):=⟨((Av n).getD j 0).toNat,by omega⟩;have hkl:k<ws.length:=by omega
   rw[show(Av n).getD j (Ty.zero (.int .i64))=(k:Int) from hk,AwX,if_pos ⟨by omega,by rw[hol];omega⟩,if_pos ⟨by omega,by rw[hI.2.1];omega⟩,EI,if_pos (rng hj),AY hj (by omega)];refine Aq.mk ⟨u.set k true,?_,λm hm=>?_,by rw[Aw5];exact hI.2.1,λi hi=>?_⟩
   ·rw[<-L8];have hg:out.getD k (Ty.zero (.int .i64))=ws.getD ((Av n).getD j 0).toNat 0:=by
     rw[hk,AwX];exact hget k hkl
    rw[hg]
   ·rcases Aw7 m j with h' | h'
    ·exact hI.1 m h'
    ·rw[show m=j by omega];omega
   ·rw[SN (by rw[hI.2.1];omega)];by_cases hik:i=k
    ·subst hik;simp only[if_true,true_iff];exact .inr ⟨j,by omega,hk⟩
    ·rw[if_neg hik,hI.2.2 i hi];constructor
     ·rintro(h | ⟨m,h1,h2⟩)
      ·exact .inl h
      ·exact .inr ⟨m,by omega,h2⟩
     ·rintro(h | ⟨m,h1,h2⟩)
      ·exact .inl h
      ·rcases Aw7 m j with h' | h'
       ·exact .inr ⟨m,h',h2⟩
       ·have:m=j:=by omega
        subst this;rw[hk] at h2;omega
  ·rw[AwZ h];exact Aq.mk (.inl ⟨_,rfl,λhk=>h (by have:=hk _ (Az (z:=0) hj);omega)⟩)
 ·unfold EN Kh;simp only;rw[Ff,Axb];refine Aq.mk (.inr ⟨u,by rw[rG],λk hk=>?_,hI.2.1,λk hk=>?_⟩)
  ·obtain⟨m,hm,rfl⟩:=QM.1 hk;exact hI.1 m hm
  ·rw[hI.2.2 k hk,QM]
theorem fG{u:Axt}(hl:u.length<=1048576):Aq (Cl u false) λr=>r=true↔∃k,k<u.length/\u.getD k false=false:=by
 unfold Cl Gj JJ;refine Aq.bind (P:=λr=>0<=r↔∃k,k<u.length/\u.getD k false=false) (Aq.bind (P:=λt=>(∃j:Nat,t=.inl (j:Int)/\j<u.length/\u.getD j false=false)\/(t=.inr ()/\∀j,j<u.length->u.getD j false=true)) ?_ λt ht=>?_) λr hr=>Aq.mk (by rw[decide_eq_true_iff];exact hr)
 ·refine Bd (λj (_:Unit)=>(j:Int)) u.length (λj _=>∀k,k<j->u.getD k false=true) (λj _ hj hJ=>?_) (λ_ hJ=>?_) (s0:=()) (λi h=>by omega)
  ·unfold CF ED;rw[EE hj,Axc,if_pos (rng hj),AwX];show Aq (bif false==u.getD j false then _ else _) _;cases he:u.getD j false with
   | false=>exact Aq.mk (.inl ⟨j,rfl,hj,he⟩)
   | true =>
    rw[AY hj (by omega)];refine Aq.mk ⟨(),rfl,λk hk=>?_⟩;rcases Aw7 k j with h' | h'
    ·exact hJ k h'
    ·rw[show k=j by omega];exact he
  ·unfold CF ED;rw[Ff,Axb];exact Aq.mk (.inr ⟨rfl,hJ⟩)
 ·rcases ht with ⟨j,rfl,h1,h2⟩| ⟨rfl,h⟩
  ·exact Aq.mk ⟨λ_=>⟨j,h1,h2⟩,λ_=>by show(0:Int)<=(j:Int);omega⟩
  ·exact Aq.mk ⟨λh'=>absurd (show(0:Int)<=-1 from h') (by omega),λ⟨j,h1,h2⟩=>by rw[h j h1] at h2;cases h2⟩
theorem X8{d:Axw}{t:Axy}(ht:NN t)(hd:d.length<=1048576):Aq (Mf d (t,())) λr=>(r.1=true/\KZ d t r.2)\/(r.1=false/\¬∃ws,KZ d t ws):=by
 unfold Mf N8;show Aq (bif decide ((t.length:Int)<1)||decide ((t.length:Int)>400) then _ else _) _;by_cases hl:1<=t.length/\t.length<=400
 ·rw[AwZ (by omega),AwZ (by omega),Bool.or_false,Axb];rw[show Jw d (t,()) (t.length:Int)=some (List.replicate t.length 0,List.replicate t.length false) by
   unfold Jw;rw[if_pos ⟨rfl,by omega,by omega,by omega,by omega⟩,if_pos ⟨rfl,by omega,by omega,by omega,by omega⟩,AwX],AwW]
  refine Aq.bind (P:=λr=>(∃x,r=.inl x/\¬∃ws,KZ d t ws)\/(∃ws u,r=.inr (u,ws)/\ws.length=t.length/\Pre d t ws/\u.length=t.length/\∀k:Nat,k<t.length->(u.getD k false=true↔UF t k t.length))) ?_ λr hr=>?_
  ·unfold OZ;have:=Bd (f:=EO d (t,()) (t.length:Int) (t.length:Int)) (λi (s:Axs×Axt)=>((i:Int),s.1,s.2)) t.length
    (λi s=>∃ws:Axs,ws.length=i/\Pre d t ws/\s.1=ws++List.replicate (t.length-i) 0/\s.2.length=t.length/\∀k:Nat,k<t.length->(s.2.getD k false=true↔UF t k i))
    (Q:=λr=>(∃x,r=.inl x/\¬∃ws,KZ d t ws)\/(∃ws u,r=.inr (u,ws)/\ws.length=t.length/\Pre d t ws/\u.length=t.length/\∀k:Nat,k<t.length->(u.getD k false=true↔UF t k t.length))) (λi s hi hI=>?_) (λs hI=>?_) (s0:=(List.replicate t.length 0,List.replicate t.length false)) ⟨[],rfl,⟨Nat.zero_le _,λj hj=>by simp at hj⟩,rfl,List.length_replicate,λk hk=>by
     have h0:(List.replicate t.length false).getD k false=false:=by simp[List.getD,hk]
     constructor
     ·intro h;rw[h0] at h;cases h
     ·rintro⟨j,hj,_⟩;omega⟩
   ·exact this
   ·obtain⟨out,used⟩:=s;obtain⟨ws,rfl,hp,ho,jU,hu⟩:=hI;simp only at ho jU hu;have hn:Rl (nd t ws.length):=ht.2 _ (Az hi);have hkl:=hn.1;unfold EO Ki;simp only;rw[show decide ((ws.length:Int)<(t.length:Int))=true from EE hi,Axc,if_pos (rng hi),AwX];show Aq (bif decide (((Av (nd t ws.length)).length:Int)>4096) then _ else if Ty.row (.int .i64)=true/\(0:Int)<=((Av (nd t ws.length)).length:Int)/\((Av (nd t ws.length)).length:Int)<=((Av (nd t ws.length)).length:Int)/\((8:Nat):Int)*((Av (nd t ws.length)).length:Int)<=(281474976710656:Int)/\((Av (nd t ws.length)).length:Int)<=(9223372036854775807:Int) then(Jx d (t.length:Int) (ws.length:Int) (t.length:Int) (t,()) out (nd t ws.length) (Av (nd t ws.length)) ((Av (nd t ws.length)).length:Int) 0 used (List.replicate ((Av (nd t ws.length)).length:Int).toNat 0)).bind _ else none) _;by_cases hk4:(Av (nd t ws.length)).length>4096
    ·rw[Aw1 (by omega)];refine Aq.mk (.inl ⟨_,rfl,λ⟨ws',h'⟩=>?_⟩);obtain⟨w,hw⟩:=h'.node hp hi;have hb:=QW (hp.wide ht.1) hw.1;have hform:=hw.2.2.1;have heq:=hw.2.2.2.1;have hw4:=hw.2.2.2.2.2;rcases hform with h | h | h | h
     ·omega
     ·omega
     ·have:Em d (nd t ws.length) (EP ws (nd t ws.length)).sum=Ng ws (nd t ws.length):=by unfold Ng Em;simp[h.1]
      omega
     ·omega
    ·rw[AwZ (by omega),Axb,if_pos ⟨rfl,by omega,by omega,by omega,by omega⟩,AwX];refine Aq.bind (gY hn hi ht.1 ho jU) λr hr=>?_;rcases hr with ⟨x,rfl,h⟩| ⟨u,rfl,hin,AsY,hu'⟩
     ·refine Aq.mk (.inl ⟨_,rfl,λ⟨ws',h'⟩=>?_⟩);obtain⟨w,hw⟩:=h'.node hp hi;exact h hw.1
     ·simp only[Sum.elim_inr];obtain⟨r,hr,hq⟩:=iq (d:=d) hn (hp.wide ht.1) hd hin;rw[show C2 (t.getD ws.length Ae.zero) d (EP ws (nd t ws.length))=some r from hr,AwW];have hol:out.length=t.length:=by rw[ho,Aw0,List.length_replicate];omega
      rw[if_pos ⟨by omega,by rw[hol];omega⟩];unfold MB;rw[show C1 (t.getD ws.length Ae.zero)=_ from AaE (nd t ws.length),Aw5,if_pos ⟨by omega,by rw[hol];omega⟩,AwX];have hgs:(out.set ws.length r).getD ws.length (Ty.zero (.int .i64))=r:=by simp[List.getD,hol,hi]
      rw[hgs,Kj];have hset:out.set ws.length r=(ws++[r])++List.replicate (t.length-(ws.length+1)) 0:=by
       rw[ho,show t.length-ws.length=(t.length-(ws.length+1))+1 by omega,List.replicate_succ];simp
      by_cases hpl:QC (nd t ws.length)
      ·by_cases hrg:1<=r/\r<=4096
       ·rw[Aw1 hpl,Aw1 hrg];simp only[Bool.not_true,Axb,AwW];have hform:IH d (nd t ws.length):=by
         by_cases hf:IH d (nd t ws.length)
         ·exact hf
         ·have:=hq.2 hf;omega
        have zN:dU d ws (nd t ws.length) r:=⟨hin,hpl,hform,hq.1 hform,hrg⟩;refine Aq.mk ⟨(out.set ws.length r,u),by rw[AY hi ht.1],ws++[r],by simp,hp.snoc hi zN,hset,AsY,λk hk=>?_⟩;rw[hu' k hk,hu k hk];constructor
        ·rintro(⟨j,h1,h2⟩| h)
         ·exact⟨j,by omega,h2⟩
         ·exact⟨ws.length,by omega,h⟩
        ·rintro⟨j,h1,h2⟩
         rcases Aw7 j ws.length with h' | h'
         ·exact .inl ⟨j,h',h2⟩
         ·rw[show j=ws.length by omega] at h2;exact .inr h2
       ·rw[Aw1 hpl,AwZ hrg];refine Aq.mk (.inl ⟨_,rfl,λ⟨ws',h'⟩=>?_⟩);obtain⟨w,hw⟩:=h'.node hp hi;have:=hq.1 hw.2.2.1;have h3:=hw.2.2.2;unfold Ng at this;rw[<-this] at h3;exact hrg (by rw[<-h3.1];exact h3.2)
      ·rw[AwZ hpl];refine Aq.mk (.inl ⟨_,rfl,λ⟨ws',h'⟩=>?_⟩);obtain⟨w,hw⟩:=h'.node hp hi;exact hpl hw.2.1
   ·obtain⟨out,used⟩:=s;obtain⟨ws,hwl,hp,ho,jU,hu⟩:=hI;simp only at ho jU hu;unfold EO Ki;simp only;rw[Ff,Axb];rw[Nat.sub_self,List.replicate_zero,List.append_nil] at ho;subst ho;exact Aq.mk (.inr ⟨out,used,rfl,hwl,hp,jU,hu⟩)
  ·rcases hr with ⟨x,rfl,h⟩| ⟨ws,u,rfl,hwl,hp,jU,hu⟩
   ·exact Aq.mk (.inr ⟨rfl,h⟩)
   ·simp only[Sum.elim_inr];have e1:wI ((t.length:Int)-1)=((t.length-1:Nat):Int):=wrapN (by omega) (by omega);rw[e1,if_pos ⟨by omega,by omega,by rw[jU];omega⟩,AwX,List.drop_zero];have htl:(u.take (t.length-1)).length=t.length-1:=by rw[List.length_take];omega
    have hgt:∀k,k<t.length-1->(u.take (t.length-1)).getD k false=u.getD k false:=λk hk=>by simp[List.getD,hk]
    refine Aq.bind (fG (by omega)) λr hr=>Aq.mk ?_;rw[htl] at hr;cases r with
    | false =>
     refine .inl ⟨rfl,hl.1,hl.2,hwl,hp,λk hk=>(hu k (by omega)).1 ?_⟩;cases hc:u.getD k false with
     | true=>rfl
     | false=>have:=hr.2 ⟨k,by omega,by rw[hgt k (by omega)];exact hc⟩;cases this
    | true =>
     obtain⟨k,hk,hf⟩:=hr.1 rfl;rw[hgt k hk] at hf;refine .inr ⟨rfl,λ⟨ws',h'⟩=>?_⟩;have:=(hu k (by omega)).2 (h'.2.2.2.2 k (by omega));rw[this] at hf;cases hf
 ·have hc:(decide ((t.length:Int)<1)||decide ((t.length:Int)>400))=true:=by simp;omega
  rw[hc];exact Aq.mk (.inr ⟨rfl,λ⟨ws,h⟩=>hl ⟨h.1,h.2.1⟩⟩)
end Go.Proofs.X
namespace Go.Proofs.X
open Go Go.Va
set_option maxRecDepth 100000
theorem jm {D:Axw} {W:Axs} {t:Axy} {i:Nat} {used:Axt} (hi:i<t.length) (hn:Rl (nd t i)) (hin:KQ (nd t i) used.length) :
    Aq (Ky D (i:Int) (t,()) W 0 used) λu=>u.length=used.length/\∀k:Nat,k<used.length->(u.getD k false=true↔used.getD k false=true\/(k:Int)∈Av (nd t i)):=by
 unfold Ky;have hlen:=hn.1;refine Bd (λj (u:Axt)=>((j:Int),u)) (Av (nd t i)).length (λj u=>u.length=used.length/\∀k:Nat,k<used.length->(u.getD k false=true↔used.getD k false=true\/∃m,m<j/\(Av (nd t i)).getD m 0=(k:Int))) (λj u hj hI=>?_) (λu hI=>?_) (s0:=used) ⟨rfl,λk _=>⟨λh=>.inl h,λh=>by rcases h with h | ⟨m,hm,_⟩;exact h;omega⟩⟩
 ·unfold Fw Ia;simp only;rw[if_pos (rng hi),AwX,if_pos (rng hi),AwX];show Aq (bif decide ((j:Int)<((Av (nd t i)).length:Int)) then(if(0:Int)<=(j:Int)/\(j:Int)<((Av (nd t i)).length:Int) then(if(0:Int)<=(Av (nd t i)).getD j 0/\(Av (nd t i)).getD j 0<(u.length:Int) then some (Sum.inl (wI ((j:Int)+1),u.set ((Av (nd t i)).getD j 0).toNat true)) else none) else none) else _) _;have zK:=hin _ (Az (z:=0) hj);rw[EE hj,Axc,if_pos (rng hj),if_pos ⟨zK.1,by rw[hI.1];exact zK.2⟩,AY hj (by omega)];obtain⟨k,hk⟩:∃k:Nat,(Av (nd t i)).getD j 0=(k:Int):=⟨((Av (nd t i)).getD j 0).toNat,by omega⟩;rw[hk,AwX];refine Aq.mk ⟨_,rfl,by rw[Aw5];exact hI.1,λi' hi'=>?_⟩;rw[SN (by rw[hI.1];omega)];by_cases hik:i'=k
  ·subst hik;simp only[if_true,true_iff];exact .inr ⟨j,by omega,hk⟩
  ·rw[if_neg hik,hI.2 i' hi'];constructor
   ·rintro(h | ⟨m,h1,h2⟩)
    ·exact .inl h
    ·exact .inr ⟨m,by omega,h2⟩
   ·rintro(h | ⟨m,h1,h2⟩)
    ·exact .inl h
    ·rcases Aw7 m j with h' | h'
     ·exact .inr ⟨m,h',h2⟩
     ·have:m=j:=by omega
      subst this;rw[hk] at h2;omega
 ·unfold Fw Ia;simp only;rw[if_pos (rng hi),AwX];show Aq (bif decide (((Av (nd t i)).length:Int)<((Av (nd t i)).length:Int)) then _ else some (Sum.inr u)) _;rw[Ff,Axb];refine Aq.mk ⟨hI.1,λk hk=>?_⟩;rw[hI.2 k hk,QM]
theorem Yo{d:Axw}{t:Axy}(ht:NN t)(hd:d.length<=1048576):Aq (IB d (t,())) λr=>(AA d/\KZ d t r)\/(r=[]/\¬(AA d/\∃ws,KZ d t ws)):=by
 unfold IB;have htb:=ht.1;obtain⟨b,hb1,hb2⟩:∃b,Hq d (t,())=some b/\(b=false↔AA d/\1<=t.length/\t.length<=400):=by
  obtain⟨r,hr,hq⟩:=QU d;unfold Hq;rw[hr,AwW];show ∃b,(bif !r then some true else bif decide ((t.length:Int)<1) then some true else some (decide ((t.length:Int)>400)))=some b/\_;cases r with
  | false=>exact⟨true,rfl,λh=>by(cases h),λh=>by have:=hq.2 h.1;cases this⟩
  | true =>
   have hdp:=hq.1 rfl;by_cases h1:(t.length:Int)<1
   ·rw[Aw1 h1];exact⟨true,rfl,λh=>by(cases h),λh=>by omega⟩
   ·rw[AwZ h1];refine⟨_,rfl,?_⟩;rw[decide_eq_false_iff_not];exact⟨λh=>⟨hdp,by omega,by omega⟩,λh=>by omega⟩
 rw[hb1,AwW];cases b with
 | true =>
  refine Aq.mk (.inr ⟨rfl,λh=>?_⟩);obtain⟨h1,ws,h2⟩:=h;have:=hb2.2 ⟨h1,h2.1,h2.2.1⟩;cases this
 | false =>
  obtain⟨hdp,hl1,hl2⟩:=hb2.1 rfl;rw[Axb];show Aq (if Ty.row .bool=true/\(0:Int)<=(t.length:Int)/\(t.length:Int)<=(t.length:Int)/\((1:Nat):Int)*(t.length:Int)<=(281474976710656:Int)/\(t.length:Int)<=(9223372036854775807:Int) then(Kz d (t,()) 0 [] (List.replicate (t.length:Int).toNat false)).bind _ else none) _;rw[if_pos ⟨rfl,by omega,by omega,by omega,by omega⟩,AwX];refine Aq.bind (P:=λr=>(∃x,r=.inl x/\¬∃ws,KZ d t ws)\/(∃ws u,r=.inr (u,ws)/\ws.length=t.length/\Pre d t ws/\u.length=t.length/\∀k:Nat,k<t.length->(u.getD k false=true↔UF t k t.length))) ?_ λr hr=>?_
  ·unfold Kz;refine Bd (λi (s:Axs×Axt)=>((i:Int),s.1,s.2)) t.length
    (λi s=>s.1.length=i/\Pre d t s.1/\s.2.length=t.length/\∀k:Nat,k<t.length->(s.2.getD k false=true↔UF t k i))
    (λi s hi hI=>?_) (λs hI=>?_) (s0:=(([]:Axs),List.replicate t.length false)) ⟨rfl,⟨Nat.zero_le _,λj hj=>by simp at hj⟩,List.length_replicate,λk hk=>by
     have h0:(List.replicate t.length false).getD k false=false:=by simp[List.getD,hk]
     constructor
     ·intro h;rw[h0] at h;cases h
     ·rintro⟨j,hj,_⟩;omega⟩
   ·obtain⟨ws,used⟩:=s;obtain⟨hwl,hp,jU,hu⟩:=hI;simp only at hwl hp jU hu;subst hwl;have hn:Rl (nd t ws.length):=ht.2 _ (Az hi);unfold Fx Ib;simp only;rw[show decide ((ws.length:Int)<(t.length:Int))=true from EE hi,Axc,if_pos (rng hi),AwX];obtain⟨r,hr,hq⟩:=jh (d:=d) (i:=ws.length) hn (by omega) hd;rw[show JQ d (t.getD ws.length Ae.zero) (ws.length:Int)=some r from hr,AwW];cases r with
    | false =>
     refine Aq.mk (.inl ⟨_,rfl,λ⟨ws',h'⟩=>?_⟩);obtain⟨w,hw⟩:=h'.node hp hi;have:=hq.2 ⟨hw.1,hw.2.1,hw.2.2.1⟩;cases this
    | true =>
     obtain⟨hin,hpl,hform⟩:=hq.1 rfl;simp only[Bool.not_true,Axb];rw[if_pos (rng hi)];have hwb:=hp.wide htb;obtain⟨w,hw,hwe⟩:=jr (d:=d) hn hwb hin hform;rw[show JR d (t.getD ws.length Ae.zero) ws=some w from hw,AwW,NI];have Aea:=Abw hwb hin hform;by_cases hrg:1<=w/\w<=4096
     ·rw[Aw1 hrg];simp only[Bool.not_true,Axb];have zN:dU d ws (nd t ws.length) w:=⟨hin,hpl,hform,by
       rcases Aea with h | h
       ·rw[hwe,h];rfl
       ·omega,hrg⟩
      rw[if_pos (by show(_+1)*8<=_;omega)];refine Aq.bind (jm hi hn (by rw[jU];exact λk hk=>by have:=hin k hk;omega)) λu hu'=>Aq.mk ⟨(ws++[w],u),by rw[AY hi htb],by simp,hp.snoc hi zN,hu'.1.trans jU,λk hk=>?_⟩;rw[hu'.2 k (by omega),hu k hk];constructor
      ·rintro(⟨j,h1,h2⟩| h)
       ·exact⟨j,by omega,h2⟩
       ·exact⟨ws.length,by omega,h⟩
      ·rintro⟨j,h1,h2⟩
       rcases Aw7 j ws.length with h' | h'
       ·exact .inl ⟨j,h',h2⟩
       ·rw[show j=ws.length by omega] at h2;exact .inr h2
     ·rw[AwZ hrg];refine Aq.mk (.inl ⟨_,rfl,λ⟨ws',h'⟩=>?_⟩);obtain⟨v,hv⟩:=h'.node hp hi;have h3:=hv.2.2.2;have e:(EP ws (nd t ws.length)).sum=Ng ws (nd t ws.length):=rfl;rw[e] at h3;rcases Aea with h | h
      ·rw[hwe,h] at hrg;exact hrg (by rw[<-h3.1];exact h3.2)
      ·omega
   ·obtain⟨ws,used⟩:=s;obtain⟨hwl,hp,jU,hu⟩:=hI;unfold Fx Ib;simp only;rw[Ff,Axb];exact Aq.mk (.inr ⟨ws,used,rfl,hwl,hp,jU,hu⟩)
  ·rcases hr with ⟨x,rfl,h⟩| ⟨ws,u,rfl,hwl,hp,jU,hu⟩
   ·exact Aq.mk (.inr ⟨rfl,λhh=>h hh.2⟩)
   ·simp only[Sum.elim_inr];refine Aq.bind (P:=λr=>(r=.inl ()/\¬∀k,k+1<t.length->u.getD k false=true)\/(r=.inr ()/\∀k,k+1<t.length->u.getD k false=true)) ?_ λr hr=>?_
    ·unfold NC;refine Bd (λj (_:Unit)=>(j:Int)) (t.length-1) (λj _=>∀k,k<j->u.getD k false=true) (λj _ hj hJ=>?_) (λ_ hJ=>?_) (s0:=()) (λi h=>by omega)
     ·unfold Fy Ic;rw[AY (show j<t.length by omega) htb,jU,show decide (((j+1:Nat):Int)<(t.length:Int))=true from Aw1 (by omega),Axc,if_pos (rng (by omega)),AwX];show Aq (bif !(u.getD j false) then _ else _) _;cases hc:u.getD j false with
      | false=>exact Aq.mk (.inl ⟨rfl,λh=>by rw[h j (by omega)] at hc;cases hc⟩)
      | true =>
       refine Aq.mk ⟨(),rfl,λk hk=>?_⟩;rcases Aw7 k j with h' | h'
       ·exact hJ k h'
       ·rw[show k=j by omega];exact hc
     ·unfold Fy Ic;rw[show wI (((t.length-1:Nat):Int)+1)=(t.length:Int) from wrapN (by omega) (by omega),jU,Ff,Axb];exact Aq.mk (.inr ⟨rfl,λk hk=>hJ k (by omega)⟩)
    ·rcases hr with ⟨rfl,h⟩| ⟨rfl,h⟩
     ·exact Aq.mk (.inr ⟨rfl,λ⟨_,ws',h'⟩=>h λk hk=>(hu k (by omega)).2 (h'.2.2.2.2 k hk)⟩)
     ·exact Aq.mk (.inl ⟨hdp,hl1,hl2,hwl,hp,λk hk=>(hu k (by omega)).1 (h k hk)⟩)
open Classical in
noncomputable def GG(d:Axw)(t:Axy):Int:=if h:∃ws,KZ d t ws then h.choose.getD (t.length-1) 0 else -1
theorem RU{d:Axw}{t:Axy}{ws:Axs}(h:KZ d t ws):GG d t=ws.getD (t.length-1) 0:=by
 have he:∃ws,KZ d t ws:=⟨ws,h⟩;unfold GG;rw[dif_pos he];have h1:=he.choose_spec;rw[h1.2.2.2.1.unique h.2.2.2.1 (by rw[h1.2.2.1,h.2.2.1])]
theorem QY{d:Axw}{t:Axy}(h:¬∃ws,KZ d t ws):GG d t=-1:=by
 unfold GG;rw[dif_neg h]
theorem tX{d:Axw}{t:Axy}{ws:Axs}(h:KZ d t ws):1<=GG d t/\GG d t<=4096:=by
 rw[RU h];have:=h.1;exact(h.2.2.2.1.2 (t.length-1) (by rw[h.2.2.1];omega)).2.2.2.2
theorem RF{d:Axw}{t:Axy}(ht:NN t)(hd:d.length<=1048576):Eu d (t,())=some (GG d t):=by
 unfold Eu;refine Aq.eq_ (Aq.bind (X8 ht hd) λr hr=>?_);rcases hr with ⟨h1,h2⟩| ⟨h1,h2⟩
 ·rw[h1];simp only[Bool.not_true,Axb];have:=h2.1;have hb:=ht.1;rw[h2.2.2.1,show wI ((t.length:Int)-1)=((t.length-1:Nat):Int) from wrapN (by omega) (by omega),if_pos ⟨by omega,by omega⟩,AwX];exact Aq.mk (RU h2).symm
 ·rw[h1];exact Aq.mk (QY h2).symm
theorem Pl{d:Axw}{t:Axy}(ht:NN t)(hd:d.length<=1048576)(hdp:AA d):CG d (t,())=some (GG d t):=by
 unfold CG;refine Aq.eq_ (Aq.bind (Yo ht hd) λr hr=>?_);rcases hr with ⟨_,h2⟩| ⟨rfl,h2⟩
 ·have:=h2.1;have hb:=ht.1;rw[h2.2.2.1,Ot,AwZ (by omega),Axb,show wI ((t.length:Int)-1)=((t.length-1:Nat):Int) from wrapN (by omega) (by omega),if_pos ⟨by omega,by omega⟩,AwX];exact Aq.mk (RU h2).symm
 ·exact Aq.mk (QY λh=>h2 ⟨hdp,h⟩).symm
end Go.Proofs.X
namespace Go.Proofs.X
open Go Go.Va
set_option maxRecDepth 100000
def li(l:AxA)(i:Nat):Axl:=l.getD i Ag.zero
def jV(l:AxA)(i:Nat):Int:=(li l i).1
def lS(l:AxA)(i:Nat):Axy:=(li l i).2.2.1.1
def lT(l:AxA)(i:Nat):Axy:=(li l i).2.2.2.1.1
def UD(d:Axw)(l:AxA)(i:Nat):Prop:=(1<=jV l i/\jV l i<=1000000)/\(0<i->jV l (i-1)<jV l i)/\0<=GG d (lS l i)/\GG d (lT l i)=GG d (lS l i)
def Rj(d:Axw)(l:AxA):Prop:=l.length<=60/\∀i,i<l.length->UD d l i
def TH(x:Axl):Prop:=NN x.2.2.1.1/\NN x.2.2.2.1.1
theorem VX{d:Axw}{l:AxA}(hl:∀x∈l,TH x):Aq (Ee d l) λr=>r=true↔AA d/\Rj d l:=by
 unfold Ee;obtain⟨b,hb1,hb2⟩:∃b,Ft d l=some b/\(b=false↔AA d/\l.length<=60):=by
  obtain⟨r,hr,hq⟩:=QU d;unfold Ft;rw[hr,AwW];cases r with
  | false=>exact⟨true,rfl,λh=>by(cases h),λh=>by have:=hq.2 h.1;cases this⟩
  | true =>
   have hdp:=hq.1 rfl;refine⟨decide ((l.length:Int)>60),rfl,?_⟩;rw[decide_eq_false_iff_not];exact⟨λh=>⟨hdp,by omega⟩,λh=>by omega⟩
 rw[hb1,AwW];cases b with
 | true=>exact Aq.mk ⟨λh=>by(cases h),λh=>by have:=hb2.2 ⟨h.1,h.2.1⟩;cases this⟩
 | false =>
  obtain⟨hdp,hlen⟩:=hb2.1 rfl;have hd:=hdp.1;rw[Axb];refine Aq.bind (P:=λt=>(t=.inl ()/\¬∀i,i<l.length->UD d l i)\/(t=.inr ()/\∀i,i<l.length->UD d l i)) ?_ λt ht=>?_
  ·unfold L3;refine Bd (λj (_:Unit)=>(j:Int)) l.length (λj _=>∀k,k<j->UD d l k) (λj _ hj hJ=>?_) (λ_ hJ=>?_) (s0:=()) (λi h=>by omega)
   ·unfold Dx Gp;have hB:=hl _ (Az (z :=Ag.zero) hj);have e1:CG d (l.getD j Ag.zero).2.2.1=some (GG d (lS l j)):=Pl hB.1 (by omega) hdp;have e2:CG d (l.getD j Ag.zero).2.2.2.1=some (GG d (lT l j)):=Pl hB.2 (by omega) hdp;have e3:(l.getD j Ag.zero).1=jV l j:=rfl;rw[EE hj,Axc,if_pos (rng hj),AwX,e1,AwW];obtain⟨b,hb1,hb2⟩:∃b,Fu d l (j:Int) (GG d (lS l j))=some b/\(b=false↔UD d l j):=by
     unfold Fu UD;rw[if_pos (rng hj),if_pos (rng hj),AwX,e3,NI,e2,AwW];by_cases h1:1<=jV l j/\jV l j<=1000000
     ·rw[Aw1 h1];simp only[Bool.not_true,Axb];have last:∃b,(bif decide (GG d (lS l j)<0) then some true else some (GG d (lT l j) !=GG d (lS l j)))=some b/\(b=false↔0<=GG d (lS l j)/\GG d (lT l j)=GG d (lS l j)):=by
       by_cases h2:GG d (lS l j)<0
       ·rw[Aw1 h2];exact⟨true,rfl,λh=>by(cases h),λh=>by omega⟩
       ·rw[AwZ h2,Axb];refine⟨_,rfl,?_⟩;rw[bne_eq_false_iff_eq];exact⟨λh=>⟨by omega,h⟩,λh=>h.2⟩
      obtain⟨b,hb,hq⟩:=last;by_cases h2:0<j
      ·rw[Aw1 (show(j:Int)>0 by omega),Axc,show wI ((j:Int)-1)=((j-1:Nat):Int) from wrapN (by omega) (by omega),if_pos (rng (by omega)),AwX];have e4:(l.getD (j-1) Ag.zero).1=jV l (j-1):=rfl;rw[e4];by_cases h3:jV l j<=jV l (j-1)
       ·rw[Aw1 h3];exact⟨true,rfl,λh=>by(cases h),λh=>by have:=h.2.1 h2;omega⟩
       ·rw[AwZ h3,Axb,if_pos (rng hj),hb];exact⟨b,rfl,hq.trans ⟨λh=>⟨h1,λ_=>by omega,h⟩,λh=>h.2.2⟩⟩
      ·rw[AwZ (show ¬(j:Int)>0 by omega),Axb,if_pos (rng hj),hb];exact⟨b,rfl,hq.trans ⟨λh=>⟨h1,λh'=>absurd h' h2,h⟩,λh=>h.2.2⟩⟩
     ·rw[AwZ h1];exact⟨true,rfl,λh=>by(cases h),λh=>absurd h.1 h1⟩
    rw[hb1,AwW];cases b with
    | true=>exact Aq.mk (.inl ⟨rfl,λh=>by have:=hb2.2 (h j hj);cases this⟩)
    | false =>
     rw[Axb,AY hj (by omega)];refine Aq.mk ⟨(),rfl,λk hk=>?_⟩;rcases Aw7 k j with h' | h'
     ·exact hJ k h'
     ·rw[show k=j by omega];exact hb2.1 rfl
   ·unfold Dx Gp;rw[Ff,Axb];exact Aq.mk (.inr ⟨rfl,hJ⟩)
  ·rcases ht with ⟨rfl,h⟩| ⟨rfl,h⟩
   ·exact Aq.mk ⟨λh=>by(cases h),λh'=>absurd h'.2.2 h⟩
   ·exact Aq.mk ⟨λ_=>⟨hdp,hlen,h⟩,λ_=>rfl⟩
end Go.Proofs.X
namespace Go.Va
open Go.Proofs.X
theorem gL {T:Type} {f:Int×List T->Option ((Int×List T)⊕List T)} (N:Nat) (it:Nat->List T) (a0:List T)
    (hs:∀k,k<N->f ((k:Int),a0++(List.range k).flatMap it)=some (.inl (((k+1:Nat):Int),a0++(List.range k).flatMap it++it k)))
    (he:f ((N:Int),a0++(List.range N).flatMap it)=some (.inr (a0++(List.range N).flatMap it))):fix f (0,a0)=some (a0++(List.range N).flatMap it):=by
 have:=AJ (f:=f) (λk=>((k:Int),a0++(List.range k).flatMap it)) N (λk hk=>by
  rw[hs k hk,List.range_succ,List.flatMap_append,Aw4];simp) he
 simpa using this
theorem VG{A B:Type}(g:A->B)(l:List A):l.flatMap (λx=>[g x])=l.map g:=by
 induction l with
 | nil=>rfl
 | cons x l ih=>simp[ih]
theorem W5{A B:Type}(b:List B)(l:List A):l.flatMap (λ_=>b)=(List.replicate l.length b).flatten:=by
 induction l with
 | nil=>rfl
 | cons x l ih=>simp[ih,List.replicate_succ]
end Go.Va
namespace Go.Proofs.X
open Go Go.Va
set_option maxRecDepth 100000
def KY(n:Axj)(w:Nat):Nat:=if A4 n=8 then(w-(nA n).toNat%w)%w else(nA n).toNat%w
def A5(d:Axw)(n:Axj)(kids:List (List Bt)):List Bt :=
 if A4 n=1 then(List.range (dw d (FH n).toNat).toNat).map λa=>.va (FH n).toNat a
 else if A4 n=2 then(List.range (nW n).toNat).map λk=>.co (bt (VQ n) k)
 else if A4 n=3 then kids.reverse.flatten
 else if A4 n=4 then((kids.getD 0 []).take ((nA n).toNat+1)).drop (nB n).toNat
 else if A4 n=5 then kids.getD 0 []++List.replicate (nA n).toNat (.co false)
 else if A4 n=6 then kids.getD 0 []++List.replicate (nA n).toNat ((kids.getD 0 []).getD ((kids.getD 0 []).length-1) (.co false))
 else if A4 n=9 then(List.replicate (nA n).toNat (kids.getD 0 [])).flatten
 else(kids.getD 0 []).drop ((kids.getD 0 []).length-KY n (kids.getD 0 []).length)++(kids.getD 0 []).take ((kids.getD 0 []).length-KY n (kids.getD 0 []).length)
def Rf(d:Axw):Bt->Prop
 | .co _=>True
 | .va v a=>v<d.length/\((a:Nat):Int)<dw d v
def Xh(kids:List (List Bt)):Int:=((kids.map List.length).sum:Nat)
def A1(d:Axw)(B:List Bt):Prop:=1<=B.length/\B.length<=4096/\∀b∈B,Rf d b
structure NB (d:Axw) (n:Axj) (kids:List (List Bt)):Prop where
 hd:AA d
 hf:IH d n
 hb:Rl n
 hk:kids.length=(Av n).length
 hw:1<=Em d n (Xh kids)/\Em d n (Xh kids)<=4096
 hin:∀B∈kids,A1 d B
theorem Qb{d:Axw}(hd:AA d){b:Bt}(h:Rf d b):BtB b:=by
 cases b with
 | co b=>trivial
 | va v a =>
  obtain⟨h1,h2⟩:=h;have:=(hd.2.1 v h1).2.1;have:=hd.1;exact⟨by omega,by omega⟩
theorem NB.one{d:Axw}{n:Axj}{kids:List (List Bt)}(h:NB d n kids)(h1:A4 n≠1)(h2:A4 n≠2)(h3:A4 n≠3):4<=A4 n/\A4 n<=9/\∃B,kids=[B]/\A1 d B/\Xh kids=(B.length:Int):=by
 have hf:=h.hf;unfold IH at hf;have:4<=A4 n/\A4 n<=9/\(Av n).length=1:=by omega
 obtain⟨h4,h9,hl⟩:=this;have hk:=h.hk;rw[hl] at hk
 match kids,hk,h.hin with
 | [B],_,hin=>exact⟨h4,h9,B,rfl,hin B List.mem_cons_self,by simp[Xh]⟩
theorem dh{n:Axj}{w:Nat}(h:1<=w):KY n w<w:=by
 unfold KY;split<;>exact Nat.mod_lt _ (by omega)
theorem VY(l:Axu):l.reverse.sum=l.sum:=by
 induction l with
 | nil=>rfl
 | cons x l ih=>simp[ih];omega
theorem Uf{d:Axw}{n:Axj}{kids:List (List Bt)}(h:NB d n kids):((A5 d n kids).length:Int)=Em d n (Xh kids):=by
 have hw:=h.hw;by_cases h1:A4 n=1
 ·simp only[A5,Em,if_pos h1,Aw8,List.length_range] at hw ⊢;omega
 by_cases h2:A4 n=2
 ·simp only[A5,Em,if_neg h1,if_pos h2,Aw8,List.length_range] at hw ⊢;omega
 by_cases h3:A4 n=3
 ·have e:¬A4 n=4/\¬(A4 n=5\/A4 n=6)/\¬(A4 n=7\/A4 n=8)/\¬A4 n=9:=by omega
  simp only[A5,Em,if_neg h1,if_neg h2,if_pos h3,if_neg e.1,if_neg e.2.1,if_neg e.2.2.1,if_neg e.2.2.2,Xh];rw[List.length_flatten,List.map_reverse,VY]
 obtain⟨h4,h9,B,rfl,hB,hs⟩:=h.one h1 h2 h3;have hl:=hB.1;rw[hs] at hw ⊢;by_cases h4':A4 n=4
 ·simp only[A5,Em,if_neg h1,if_neg h2,if_neg h3,if_pos h4',List.getD_cons_zero,List.length_drop,List.length_take] at hw ⊢;split at hw<;>rename_i hc
  ·rw[if_pos hc];omega
  ·omega
 by_cases h5:A4 n=5
 ·have jT:A4 n=5\/A4 n=6:=.inl h5;simp only[A5,Em,if_neg h1,if_neg h2,if_neg h3,if_neg h4',if_pos h5,if_pos jT,List.getD_cons_zero,Aw0,List.length_replicate] at hw ⊢;split at hw<;>rename_i hc
  ·rw[if_pos hc];omega
  ·omega
 by_cases h6:A4 n=6
 ·have jT:A4 n=5\/A4 n=6:=.inr h6;simp only[A5,Em,if_neg h1,if_neg h2,if_neg h3,if_neg h4',if_neg h5,if_pos h6,if_pos jT,List.getD_cons_zero,Aw0,List.length_replicate] at hw ⊢;split at hw<;>rename_i hc
  ·rw[if_pos hc];omega
  ·omega
 have jT:¬(A4 n=5\/A4 n=6):=by omega
 by_cases oV:A4 n=9
 ·have zF:¬(A4 n=7\/A4 n=8):=by omega
  simp only[A5,Em,if_neg h1,if_neg h2,if_neg h3,if_neg h4',if_neg h5,if_neg h6,if_neg jT,if_neg zF,if_pos oV,List.getD_cons_zero,List.length_flatten,List.map_replicate,List.sum_replicate_nat] at hw ⊢;split at hw<;>rename_i hc
  ·rw[if_pos hc];have:(nA n)=((nA n).toNat:Int):=by omega
   rw[this,AwX,Int.natCast_mul,Int.mul_comm]
  ·omega
 ·have zF:A4 n=7\/A4 n=8:=by omega
  have ht:=dh (n:=n) hl;simp only[A5,Em,if_neg h1,if_neg h2,if_neg h3,if_neg h4',if_neg h5,if_neg h6,if_neg jT,if_pos zF,if_neg oV,List.getD_cons_zero,Aw0,List.length_drop,List.length_take] at hw ⊢;split at hw<;>rename_i hc
  ·rw[if_pos hc];omega
  ·omega
theorem PO{d:Axw}{n:Axj}{kids:List (List Bt)}(h:NB d n kids):A1 d (A5 d n kids):=by
 have hl:=Uf h;refine⟨by have:=h.hw;omega,by have:=h.hw;omega,λb hb=>?_⟩;by_cases h1:A4 n=1
 ·have hf:=h.hf;unfold IH at hf;have hv:0<=FH n/\FH n<(d.length:Int):=by omega
  simp only[A5,if_pos h1,List.mem_map,List.mem_range] at hb;obtain⟨a,ha,rfl⟩:=hb;exact⟨by omega,by omega⟩
 by_cases h2:A4 n=2
 ·simp only[A5,if_neg h1,if_pos h2,List.mem_map,List.mem_range] at hb;obtain⟨a,ha,rfl⟩:=hb;trivial
 by_cases h3:A4 n=3
 ·simp only[A5,if_neg h1,if_neg h2,if_pos h3,List.mem_flatten,List.mem_reverse] at hb;obtain⟨B,hB,hb⟩:=hb;exact(h.hin B hB).2.2 b hb
 obtain⟨h4,h9,B,rfl,hB,hs⟩:=h.one h1 h2 h3;have hz:B.getD (B.length-1) (.co false)∈B:=Az (by have:=hB.1;omega);simp only[A5,if_neg h1,if_neg h2,if_neg h3,List.getD_cons_zero] at hb;split at hb
 ·exact hB.2.2 b (List.mem_of_mem_take (List.mem_of_mem_drop hb))
 split at hb
 ·rcases List.mem_append.1 hb with hb | hb
  ·exact hB.2.2 b hb
  ·rw[(List.mem_replicate.1 hb).2];trivial
 split at hb
 ·rcases List.mem_append.1 hb with hb | hb
  ·exact hB.2.2 b hb
  ·rw[(List.mem_replicate.1 hb).2];exact hB.2.2 _ hz
 split at hb
 ·obtain⟨C,hC,hb⟩:=List.mem_flatten.1 hb;rw[(List.mem_replicate.1 hC).2] at hb;exact hB.2.2 b hb
 ·rcases List.mem_append.1 hb with hb | hb
  ·exact hB.2.2 b (List.mem_of_mem_drop hb)
  ·exact hB.2.2 b (List.mem_of_mem_take hb)
end Go.Proofs.X
namespace Go.Va
open Go.Proofs.X
theorem RA {T:Type} {f:Int×List T->Option ((Int×List T)⊕List T)} (N:Nat) (g:Nat->T) (a0:List T)
    (hs:∀k acc,k<N->acc.length=a0.length+k->f ((k:Int),acc)=some (.inl (((k+1:Nat):Int),acc++[g k]))) (he:∀acc,f ((N:Int),acc)=some (.inr acc)):fix f (0,a0)=some (a0++(List.range N).map g):=by
 have:=gL (f:=f) N (λk=>[g k]) a0 (λk hk=>hs k _ hk (by rw[VG];simp)) (he _);rw[VG] at this;exact this
end Go.Va
namespace Go.Proofs.X
open Go Go.Va
set_option maxRecDepth 100000
theorem AqI(kids:List (List Bt))(k:Nat):(kids.map bV).getD k (Ty.zero (.sl Aa))=bV (kids.getD k []):=by
 simp only[List.getD,List.getElem?_map];cases kids[k]?<;>rfl
theorem qw{x:Int}(h1:-4611686018427387904<=x)(h2:x<4611686018427387904):wI x=x:=wrap64 (by omega) (by omega)
theorem pU{A:Type}{l:List A}{z:A}{k:Nat}(h:k<l.length):l.reverse.getD k z=l.getD (l.length-1-k) z:=by
 simp only[List.getD,List.getElem?_reverse h]
theorem T8(kids:List (List Bt))(k:Nat):((kids.reverse.take k).flatten).length<=(kids.map List.length).sum:=by
 rw[<-VY,<-List.map_reverse,List.length_flatten]
 conv=>rhs;rw[<-List.take_append_drop k kids.reverse,List.map_append,List.sum_append]
 omega
theorem za{a:Nat}:decide ((a:Int)>=0)=true:=Aw1 (by omega)
theorem mH{d:Axw}{n:Axj}{kids:List (List Bt)}(h:NB d n kids)(h3:A4 n=3):LB (kids.map bV) (wI (((kids.map bV).length:Int)-1)) []=some (bV kids.reverse.flatten):=by
 have hlen:kids.length<=1048576:=by rw[h.hk];exact h.hb.1
 have hsum:(kids.map List.length).sum<=4096:=by
  have hw:=h.hw;have e:¬A4 n=4/\¬(A4 n=5\/A4 n=6)/\¬(A4 n=7\/A4 n=8)/\¬A4 n=9/\¬A4 n=1/\¬A4 n=2:=by omega
  simp only[Em,if_neg e.1,if_neg e.2.1,if_neg e.2.2.1,if_neg e.2.2.2.1,if_neg e.2.2.2.2.1,if_neg e.2.2.2.2.2,Xh] at hw;omega
 unfold LB;rw[Aw8,qw (by omega) (by omega)];have:=AJ (f:=CH (kids.map bV)) (λk=>((kids.length:Int)-1-(k:Int),bV (kids.reverse.take k).flatten)) (t:=bV kids.reverse.flatten) kids.length (λk hk=>by
  unfold CH Jb;simp only;have e:(kids.length:Int)-1-(k:Int)=((kids.length-1-k:Nat):Int):=by omega
  have hb:=T8 kids k;have hin:=h.hin (kids.getD (kids.length-1-k) []) (Az (by omega));rw[e,za,Axc,Aw8,if_pos ⟨by omega,by omega⟩,AwX,AqI,Cb,Cb,if_pos (by have:=hin.2.1;omega),qw (by omega) (by omega)];rw[AG (z:=[]) (show k<kids.reverse.length by rw[List.length_reverse];exact hk),pU hk,List.flatten_append,<-Qa];simp only[List.flatten_cons,List.flatten_nil,List.append_nil];rw[show(kids.length:Int)-1-((k+1:Nat):Int)=((kids.length-1-k:Nat):Int)-1 by omega]) (by
  unfold CH Jb;simp only;rw[AwZ (by omega),Axb,Aw6 (by rw[List.length_reverse];omega)])
 have jF:fix (CH (kids.map bV)) ((kids.length:Int)-1-((0:Nat):Int),[])=some (bV kids.reverse.flatten):=this;rw[show(kids.length:Int)-1-((0:Nat):Int)=(kids.length:Int)-1 by omega] at jF;exact jF
theorem jk{d:Axw}{n:Axj}{kids:List (List Bt)}(h:NB d n kids):Mk d n (kids.map bV)=some (bV (A5 d n kids)):=by
 have e1:∀x:Int,(n.1==x)=decide (A4 n=x):=λx=>Ot;have hbl:=PO h;have Rb:=hbl.2.1;unfold Mk LG N8;simp only[e1];by_cases h1:A4 n=1
 ·rw[Aw1 h1,Axc];have hf:=h.hf;unfold IH at hf;have hv:0<=FH n/\FH n<(d.length:Int):=by omega
  obtain⟨N,hN⟩:∃N:Nat,dw d (FH n).toNat=(N:Int):=by
   have:=(h.hd.2.1 (FH n).toNat (by omega)).2.1;exact⟨(dw d (FH n).toNat).toNat,by omega⟩
  have hN4:N<=4096:=by have:=(h.hd.2.1 (FH n).toNat (by omega)).2.1;omega
  rw[show Lz d n 0 []=some (bV (A5 d n kids)) by
   unfold Lz;rw[RA (f:=DV d n) N (λa=>PZ (.va (FH n).toNat a)) [] (λk acc hk ha=>by
    unfold DV I9;simp only;rw[if_pos (show(0:Int)<=n.2.1/\n.2.1<(d.length:Int) from hv),show(d.getD n.2.1.toNat Ab.zero).2.1=(N:Int) from hN,EE hk,Axc,AY hk (by omega)];simp at ha;rw[if_pos (by show(_+1)*16<=_;omega)];have:n.2.1=(((FH n).toNat:Nat):Int):=by show FH n=_;omega
    rw[this];rfl) (λacc=>by
    unfold DV I9;simp only;rw[if_pos (show(0:Int)<=n.2.1/\n.2.1<(d.length:Int) from hv),show(d.getD n.2.1.toNat Ab.zero).2.1=(N:Int) from hN,Ff,Axb])]
   simp only[A5,if_pos h1,hN,AwX,bV,List.nil_append,List.map_map];rfl]
  rfl
 rw[AwZ h1,Axb];by_cases h2:A4 n=2
 ·rw[Aw1 h2,Axc];have hf:=h.hf;unfold IH at hf;obtain⟨m,hm1,hm2⟩:dX n:=by
   rcases hf with h | h | h | h
   ·omega
   ·exact h.2.2
   ·omega
   ·omega
  rw[show LA n 0 []=some (bV (A5 d n kids)) by
   unfold LA;rw[RA (f:=DW n) m (λk=>PZ (.co (bt (VQ n) k))) [] (λk acc hk ha=>by
    unfold DW Ja;simp only;have hb:Fv n.2.2.2.2.1 (k:Int)=some (bI (bt (VQ n) k)):=Xi (w:=nW n) hm2.2.2.2.1 (by rw[hm2.2.2.1];unfold nw;omega) h.hb.2.1;have h4:=hm2.2.1;rw[show n.2.2.2.2.1.1=(m:Int) from hm1,EE hk,Axc,hb,AwW,AY hk (by omega)];simp at ha;rw[if_pos (by show(_+1)*16<=_;omega)];rw[show wI (bI (bt (VQ n) k))=bI (bt (VQ n) k) by cases bt (VQ n) k<;>rfl];rfl) (λacc=>by
    unfold DW Ja;simp only;rw[show n.2.2.2.2.1.1=(m:Int) from hm1,Ff,Axb])]
   simp only[A5,if_neg h1,if_pos h2,hm1,AwX,bV,List.nil_append,List.map_map];rfl]
  rfl
 rw[AwZ h2,Axb];by_cases h3:A4 n=3
 ·rw[Aw1 h3,Axc,mH h h3];simp only[A5,if_neg h1,if_neg h2,if_pos h3];rfl
 rw[AwZ h3,Axb];obtain⟨h4,h9,B,rfl,hB,hs⟩:=h.one h1 h2 h3;have hl:=hB.1;have hl4:=hB.2.1;have hw:=h.hw;have g0:([B].map bV).getD 0 (Ty.zero (.sl Aa))=bV B:=rfl;have r0:(0:Int)<=(0:Int)/\(0:Int)<(([B].map bV).length:Int):=⟨by omega,by simp⟩;rw[hs] at hw;simp only[A5,if_neg h1,if_neg h2,if_neg h3,List.getD_cons_zero] at Rb ⊢;simp only[Em,if_neg h1,if_neg h2] at hw;by_cases h4':A4 n=4
 ·simp only[if_pos h4'] at hw Rb ⊢;split at hw<;>rename_i hc
  ·obtain⟨A,hA⟩:∃A:Nat,nA n=(A:Int):=⟨(nA n).toNat,by omega⟩;obtain⟨L,hL⟩:∃L:Nat,nB n=(L:Int):=⟨(nB n).toNat,by omega⟩;have hA':n.2.2.1=(A:Int):=hA;have hL':n.2.2.2.1=(L:Int):=hL;rw[Aw1 h4',Axc,if_pos r0,g0,hA',hL',show wI ((A:Int)+1)=((A+1:Nat):Int) from wrapN (by omega) (by omega),Cb];rw[if_pos (show(0:Int)<=(L:Int)/\(L:Int)<=((A+1:Nat):Int)/\((A+1:Nat):Int)<=(B.length:Int) from⟨by omega,by omega,by omega⟩),AwX,AwX,hA,hL,AwX,AwX];rw[show(List.drop L (List.take (A+1) (bV B)))=bV ((B.take (A+1)).drop L) by simp[bV,List.map_drop,List.map_take],Cb,List.length_drop,List.length_take,if_pos (by omega)];rfl
  ·omega
 rw[AwZ h4',Axb];simp only[if_neg h4'] at hw Rb ⊢;by_cases jT:A4 n=5\/A4 n=6
 ·simp only[if_pos jT] at hw;split at hw<;>rename_i hc
  ·obtain⟨A,hA⟩:∃A:Nat,nA n=(A:Int):=⟨(nA n).toNat,by omega⟩;have hA':n.2.2.1=(A:Int):=hA;have hc0:(bif decide (A4 n=5) then decide (A4 n=5) else decide (A4 n=6))=true:=by
    rcases jT with h | h<;>simp[h]
   have hlast:wI (((bV B).length:Int)-1)=((B.length-1:Nat):Int):=by rw[Cb];exact wrapN (by omega) (by omega)
   rw[hc0,Axc];by_cases h6:A4 n=6
   ·have h5:¬A4 n=5:=by omega
    simp only[if_neg h5,if_pos h6,hA,AwX,Aw0,List.length_replicate] at Rb ⊢;rw[show Ef ([B].map bV) n=some (.inl ()) by
     unfold Ef;rw[e1,Aw1 h6,Axc,if_pos r0,if_pos r0,g0,hlast,Cb,if_pos ⟨by omega,by omega⟩],AwW]
    simp only[Sum.elim_inl];rw[if_pos r0,g0,hlast,AwX,Cb,if_pos (by omega),Ww (by omega)];rw[show LC n (PZ (B.getD (B.length-1) (.co false))) 0 (bV B)=some (bV (B++List.replicate A (B.getD (B.length-1) (.co false)))) by
     unfold LC;rw[RA (f:=DX n (PZ (B.getD (B.length-1) (.co false)))) A (λ_=>PZ (B.getD (B.length-1) (.co false))) (bV B) (λk acc hk ha=>by
      unfold DX Jc;simp only;rw[Cb] at ha;rw[hA',EE hk,Axc,AY hk (by omega),if_pos (by show(_+1)*16<=_;omega)]) (λacc=>by
      unfold DX Jc;simp only;rw[hA',Ff,Axb])]
     rw[Qa];simp[bV,List.map_const']]
    rfl
   ·have h5:A4 n=5:=by omega
    simp only[if_pos h5,hA,AwX,Aw0,List.length_replicate] at Rb ⊢;rw[show Ef ([B].map bV) n=some (.inr ()) by
     unfold Ef;rw[e1,AwZ h6,Axb],AwW]
    simp only[Sum.elim_inr];rw[if_pos r0,g0,Cb,if_pos (by omega)];rw[show LD n 0 (bV B)=some (bV (B++List.replicate A (.co false))) by
     unfold LD;rw[RA (f:=DY n) A (λ_=>PZ (.co false)) (bV B) (λk acc hk ha=>by
      unfold DY Jd;simp only;rw[Cb] at ha;rw[hA',EE hk,Axc,AY hk (by omega),if_pos (by show(_+1)*16<=_;omega)];rfl) (λacc=>by
      unfold DY Jd;simp only;rw[hA',Ff,Axb])]
     rw[Qa];simp[bV,List.map_const']]
    rfl
  ·omega
 have h5:¬A4 n=5:=by omega
 have h6:¬A4 n=6:=by omega
 have hc0:(bif decide (A4 n=5) then decide (A4 n=5) else decide (A4 n=6))=false:=by simp[h5,h6]
 rw[hc0,Axb];simp only[if_neg h5,if_neg h6,if_neg jT] at hw Rb ⊢;by_cases zF:A4 n=7\/A4 n=8
 ·simp only[if_pos zF] at hw;split at hw<;>rename_i hc
  ·obtain⟨A,hA⟩:∃A:Nat,nA n=(A:Int):=⟨(nA n).toNat,by omega⟩;have hA':n.2.2.1=(A:Int):=hA;have oV:¬A4 n=9:=by omega
   have hc1:(bif decide (A4 n=7) then decide (A4 n=7) else decide (A4 n=8))=true:=by
    rcases zF with h | h<;>simp[h]
   have ht:=dh (n:=n) hl;simp only[if_neg oV,Aw0,List.length_drop,List.length_take] at Rb ⊢;rw[hc1,Axc,if_pos r0,g0,hA',Cb,if_neg (by omega)];have hmod:Int.tmod (A:Int) (B.length:Int)=((A%B.length:Nat):Int):=rfl;have hml:A%B.length<B.length:=Nat.mod_lt _ (by omega);rw[show Iq ([B].map bV) n (B.length:Int) (Int.tmod (A:Int) (B.length:Int))=some ((KY n B.length:Nat):Int) by
    unfold Iq KY;rw[e1,hmod,hA,AwX];by_cases h8:A4 n=8
    ·rw[Aw1 h8,Axc,if_neg (by omega),if_pos h8,show wI ((B.length:Int)-((A%B.length:Nat):Int))=((B.length-A%B.length:Nat):Int) from wrapN (by omega) (by omega)];rfl
    ·rw[AwZ h8,Axb,if_neg h8],AwW]
   have hsub:wI ((B.length:Int)-((KY n B.length:Nat):Int))=((B.length-KY n B.length:Nat):Int):=wrapN (by omega) (by omega);rw[if_pos r0,hsub,if_pos ⟨by omega,by omega,by omega⟩,AwX,AwX];generalize hq:B.length-KY n B.length=q at *;rw[show(List.drop q (List.take B.length (bV B)))=bV (B.drop q) by rw[Aw6 (by rw[Cb];omega)];simp[bV,List.map_drop],show(List.drop 0 (List.take q (bV B)))=bV (B.take q) by simp[bV,List.map_take],if_pos (by omega),if_pos r0,if_pos ⟨by omega,by omega,by omega⟩,if_pos (by omega),<-Qa];rfl
  ·omega
 have oV:A4 n=9:=by omega
 have hc1:(bif decide (A4 n=7) then decide (A4 n=7) else decide (A4 n=8))=false:=by
  rw[show ¬A4 n=7/\¬A4 n=8 by omega |> λh=>(AwZ h.1:decide (A4 n=7)=false),Axb];exact AwZ (by omega)
 simp only[if_neg zF,if_pos oV] at hw Rb ⊢;split at hw<;>rename_i hc
 ·obtain⟨A,hA⟩:∃A:Nat,nA n=(A:Int):=⟨(nA n).toNat,by omega⟩;have hA':n.2.2.1=(A:Int):=hA;rw[hc1,Axb,Aw1 oV,Axc];rw[hA] at hw Rb;simp only[AwX,List.length_flatten,List.map_replicate,List.sum_replicate_nat] at Rb;rw[show LF ([B].map bV) n 0 []=some (bV (List.replicate A B).flatten) by
   unfold LF;rw[gL (f:=DZ ([B].map bV) n) A (λ_=>bV B) [] (λk hk=>by
    unfold DZ Je;simp only;have hkl:k*B.length<=A*B.length:=Nat.mul_le_mul_right _ (by omega);rw[hA',EE hk,Axc,if_pos r0,g0,AY hk (by omega),if_pos (by
     rw[List.nil_append,W5,List.length_flatten,List.map_replicate,List.sum_replicate_nat,List.length_range,Cb];omega)]) (by
    unfold DZ Je;simp only;rw[hA',Ff,Axb])]
   rw[List.nil_append,W5,List.length_range];simp[bV,List.map_flatten,List.map_replicate]]
  rw[hA];rfl
 ·omega
end Go.Proofs.X
namespace Go.Proofs.X
open Go Go.Va
set_option maxRecDepth 100000
def fN(B:List Bt):Axx:=fV (norm B)
theorem oK(kids:List (List Bt))(k:Nat):(kids.map fN).getD k (Ty.zero (.sl Ad))=fN (kids.getD k []):=by
 simp only[List.getD,List.getElem?_map];cases kids[k]?<;>rfl
theorem bf{d:Axw}(hd:AA d){a b:List Bt}(ha:∀x∈a,Rf d x)(hb:∀x∈b,Rf d x)(hl:a.length+b.length<=4096):Cw (fN b) (fN a)=some (fN (a++b)):=by
 unfold fN;rw[iR (B6 b) (B6 a) (Pg (λx hx=>ZS (Qb hd (hb x hx))) (by omega)) (Pg (λx hx=>ZS (Qb hd (ha x hx))) (by omega)) (by rw[Bv,Bv];exact hl),iT]
theorem Aat{s:Sg}(h:1<=s.w):norm s.bits=[s]:=by
 have:=RQ s.w s [] rfl h;rw[Ny] at this;exact this.symm
theorem Ahd(b:Bt):fN [b]=[FU b.sg]:=rfl
theorem AdB{d:Axw}(hd:AA d){a:List Bt}{b:Bt}(ha:∀x∈a,Rf d x)(hb:Rf d b)(hl:a.length+1<=4096):Cw [FU b.sg] (fN a)=some (fN (a++[b])) :=
 bf hd ha (b:=[b]) (λx hx=>by rw[List.mem_singleton] at hx;rw[hx];exact hb) hl
theorem Abx{d:Axw}{B:List Bt}(h:A1 d B):Du (fN B)=some (B.length:Int):=by
 unfold fN;rw[aj (B6 B) (by rw[Bv];exact h.2.1),Bv]
theorem pK{d:Axw}(hd:AA d){B:List Bt}(h:A1 d B){lo w:Nat}(hlo:lo+w<=8192):Cs (fN B) (lo:Int) (w:Int)=some (fN ((B.drop lo).take w)):=by
 have hs:∀x∈B,QA x.sg:=λx hx=>ZS (Qb hd (h.2.2 x hx));unfold fN;rw[gF (B6 B) (Pg hs h.2.1) (by rw[FT];exact hs) (by rw[Bv];exact h.2.1) hlo,FT]
theorem Zv {d:Axw} (hd:AA d) {B:List Bt} {b:Bt} {A:Nat} (hB:A1 d B) (hb:Rf d b) (hl:B.length+A<=4096) {f:Int×Axx->Option ((Int×Axx)⊕Axx)}
    (hs:∀x:Int×Axx,f x=bif decide (x.1<(A:Int)) then(Cw [FU b.sg] x.2).bind λo=>some (.inl (wI (x.1+1),o)) else some (.inr x.2)):fix f (0,fN B)=some (fN (B++List.replicate A b)):=by
 have:=AJ (f:=f) (λk=>((k:Int),fN (B++List.replicate k b))) (t:=fN (B++List.replicate A b)) A (λk hk=>by
  rw[hs];simp only;rw[EE hk,Axc,AdB hd (λx hx=>by
   rcases List.mem_append.1 hx with hx | hx
   ·exact hB.2.2 x hx
   ·rw[(List.mem_replicate.1 hx).2];exact hb) hb (by rw[Aw0,List.length_replicate];omega),AwW,AY hk (by omega),Aw4,<-List.replicate_succ']) (by
  rw[hs];simp only;rw[Ff,Axb])
 have h0:fix f (((0:Nat):Int),fN (B++List.replicate 0 b))=some (fN (B++List.replicate A b)):=this;rw[List.replicate_zero,List.append_nil] at h0;exact h0
theorem lG{d:Axw}{n:Axj}{kids:List (List Bt)}(h:NB d n kids)(h3:A4 n=3):Fz (kids.map fN) (wI (((kids.map fN).length:Int)-1)) []=some (fN kids.reverse.flatten):=by
 have hlen:kids.length<=1048576:=by rw[h.hk];exact h.hb.1
 have hsum:(kids.map List.length).sum<=4096:=by
  have hw:=h.hw;have e:¬A4 n=4/\¬(A4 n=5\/A4 n=6)/\¬(A4 n=7\/A4 n=8)/\¬A4 n=9/\¬A4 n=1/\¬A4 n=2:=by omega
  simp only[Em,if_neg e.1,if_neg e.2.1,if_neg e.2.2.1,if_neg e.2.2.2.1,if_neg e.2.2.2.2.1,if_neg e.2.2.2.2.2,Xh] at hw;omega
 unfold Fz;rw[Aw8,qw (by omega) (by omega)];have:=AJ (f:=Bh (kids.map fN)) (λk=>((kids.length:Int)-1-(k:Int),fN (kids.reverse.take k).flatten)) (t:=fN kids.reverse.flatten) kids.length (λk hk=>by
  unfold Bh Dz;simp only;have e:(kids.length:Int)-1-(k:Int)=((kids.length-1-k:Nat):Int):=by omega
  have hb:=T8 kids (k+1);have hin:=h.hin (kids.getD (kids.length-1-k) []) (Az (by omega));rw[AG (z:=[]) (show k<kids.reverse.length by rw[List.length_reverse];exact hk),pU hk,List.flatten_append] at hb ⊢;simp only[List.flatten_cons,List.flatten_nil,List.append_nil] at hb ⊢;rw[Aw0] at hb;rw[e,za,Axc,Aw8,if_pos ⟨by omega,by omega⟩,AwX,oK,bf h.hd (λx hx=>by
   obtain⟨C,hC,hx⟩:=List.mem_flatten.1 hx;exact(h.hin C (List.mem_reverse.1 (List.mem_of_mem_take hC))).2.2 x hx) hin.2.2 (by omega),AwW,qw (by omega) (by omega)]
  rw[show(kids.length:Int)-1-((k+1:Nat):Int)=((kids.length-1-k:Nat):Int)-1 by omega]) (by
  unfold Bh Dz;simp only;rw[AwZ (by omega),Axb,Aw6 (by rw[List.length_reverse];omega)])
 have jF:fix (Bh (kids.map fN)) ((kids.length:Int)-1-((0:Nat):Int),[])=some (fN kids.reverse.flatten):=this;rw[show(kids.length:Int)-1-((0:Nat):Int)=(kids.length:Int)-1 by omega] at jF;exact jF
theorem XG{s:Sg}{v:Axi}(h:1<=s.w)(e:FU s=v):([v]:Axx)=fN s.bits:=by
 unfold fN;rw[Aat h,<-e];rfl
theorem ig{d:Axw}{n:Axj}{kids:List (List Bt)}(h:NB d n kids):CZ n d (kids.map fN)=some (fN (A5 d n kids)):=by
 have e1:∀x:Int,(n.1==x)=decide (A4 n=x):=λx=>Ot;have hbl:=PO h;have Rb:=hbl.2.1;unfold CZ N8;simp only[e1];by_cases h1:A4 n=1
 ·rw[Aw1 h1,Axc];have hf:=h.hf;unfold IH at hf;have hv:0<=FH n/\FH n<(d.length:Int):=by omega
  have hdw:=(h.hd.2.1 (FH n).toNat (by omega)).2.1;obtain⟨N,hN⟩:∃N:Nat,dw d (FH n).toNat=(N:Int):=⟨(dw d (FH n).toNat).toNat,by omega⟩;rw[if_pos (show(0:Int)<=n.2.1/\n.2.1<(d.length:Int) from hv),show(d.getD n.2.1.toNat Ab.zero).2.1=(N:Int) from hN];rw[XG (s:=.va (FH n).toNat 0 N) (by show 1<=N;omega) (by
   show((((FH n).toNat:Nat):Int),((0:Nat):Int),(N:Int),((0:Int),([]:Axs),()),())=_;rw[show(((FH n).toNat:Nat):Int)=n.2.1 by show _=FH n;omega];rfl)]
  simp only[A5,if_pos h1,hN,AwX,Sg.bits,Nat.zero_add]
 rw[AwZ h1,Axb];by_cases h2:A4 n=2
 ·rw[Aw1 h2,Axc];have hf:=h.hf;unfold IH at hf;obtain⟨m,hm1,hm2⟩:dX n:=by
   rcases hf with h | h | h | h
   ·omega
   ·exact h.2.2
   ·omega
   ·omega
  have hl:((List.range m).map λk=>bt (VQ n) k).length=m:=by simp
  rw[show Dp n.2.2.2.2.1=some (nW n,VQ n) from TR h.hb.2.1,AwW];rw[XG (s:=.co ((List.range m).map λk=>bt (VQ n) k)) (by show 1<=List.length _;rw[hl];exact hm2.1) (by
   show(-1,0,((((List.range m).map λk=>bt (VQ n) k).length:Nat):Int),Ye ((List.range m).map λk=>bt (VQ n) k),())=_;rw[lM (f:=bt (VQ n)) hl (λi hi=>by simp[List.getD,hi]),hl,show uo m (bt (VQ n))=((m:Int),VQ n,()) by unfold uo;rw[<-hm2.eq]];simp only[Ar];rw[hm1])]
  simp only[A5,if_neg h1,if_pos h2,hm1,AwX,Sg.bits,List.map_map];rfl
 rw[AwZ h2,Axb];by_cases h3:A4 n=3
 ·rw[Aw1 h3,Axc,lG h h3];simp only[A5,if_neg h1,if_neg h2,if_pos h3];rfl
 rw[AwZ h3,Axb];obtain⟨h4,h9,B,rfl,hB,hs⟩:=h.one h1 h2 h3;have hl:=hB.1;have hl4:=hB.2.1;have hw:=h.hw;have g0:([B].map fN).getD 0 (Ty.zero (.sl Ad))=fN B:=rfl;have r0:(0:Int)<=(0:Int)/\(0:Int)<(([B].map fN).length:Int):=⟨by omega,by simp⟩;have At5:(fN B).length<=4096:=by
  unfold fN;rw[Bj];have:=BW (B6 B);rw[Bv] at this;omega
 rw[hs] at hw;rw[if_pos r0,g0,Abx hB,AwW];simp only[A5,if_neg h1,if_neg h2,if_neg h3,List.getD_cons_zero] at Rb ⊢;simp only[Em,if_neg h1,if_neg h2] at hw;by_cases h4':A4 n=4
 ·simp only[if_pos h4'] at hw Rb ⊢;split at hw<;>rename_i hc
  ·obtain⟨A,hA⟩:∃A:Nat,nA n=(A:Int):=⟨(nA n).toNat,by omega⟩;obtain⟨L,hL⟩:∃L:Nat,nB n=(L:Int):=⟨(nB n).toNat,by omega⟩;have hA':n.2.2.1=(A:Int):=hA;have hL':n.2.2.2.1=(L:Int):=hL;rw[Aw1 h4',Axc,hA',hL',show wI ((A:Int)-(L:Int))=((A-L:Nat):Int) from wrapN (by omega) (by omega),show wI (((A-L:Nat):Int)+1)=((A-L+1:Nat):Int) from wrapN (by omega) (by omega),pK h.hd hB (by omega),hA,hL,AwX,AwX];rw[List.drop_take,show A+1-L=A-L+1 by omega];rfl
  ·omega
 rw[AwZ h4',Axb];simp only[if_neg h4'] at hw Rb ⊢;by_cases zF:A4 n=7\/A4 n=8
 ·have jT:¬(A4 n=5\/A4 n=6):=by omega
  have h5:¬A4 n=5:=by omega
  have h6:¬A4 n=6:=by omega
  have oV:¬A4 n=9:=by omega
  simp only[if_neg h5,if_neg h6,if_neg oV,if_neg jT,if_pos zF] at hw ⊢;split at hw<;>rename_i hc
  ·obtain⟨A,hA⟩:∃A:Nat,nA n=(A:Int):=⟨(nA n).toNat,by omega⟩;have hA':n.2.2.1=(A:Int):=hA;have hc1:(bif decide (A4 n=7) then decide (A4 n=7) else decide (A4 n=8))=true:=by
    rcases zF with h | h<;>simp[h]
   have ht:=dh (n:=n) hl;rw[hc1,Axc,if_neg (by omega),hA'];have hmod:Int.tmod (A:Int) (B.length:Int)=((A%B.length:Nat):Int):=rfl;have hml:A%B.length<B.length:=Nat.mod_lt _ (by omega);rw[show CV n (B.length:Int) (fN B) (Int.tmod (A:Int) (B.length:Int))=some ((KY n B.length:Nat):Int) by
    unfold CV KY;rw[e1,hmod,hA,AwX];by_cases h8:A4 n=8
    ·rw[Aw1 h8,Axc,if_neg (by omega),if_pos h8,show wI ((B.length:Int)-((A%B.length:Nat):Int))=((B.length-A%B.length:Nat):Int) from wrapN (by omega) (by omega)];rfl
    ·rw[AwZ h8,Axb,if_neg h8],AwW]
   have hsub:wI ((B.length:Int)-((KY n B.length:Nat):Int))=((B.length-KY n B.length:Nat):Int):=wrapN (by omega) (by omega);have hz:(0:Int)=((0:Nat):Int):=rfl;rw[hsub,pK h.hd hB (by omega),AwW,hz,pK h.hd hB (by omega),AwW,List.drop_zero,show List.take (KY n B.length) (List.drop (B.length-KY n B.length) B)=List.drop (B.length-KY n B.length) B from Aw6 (by rw[List.length_drop];omega)];rw[bf h.hd (λx hx=>hB.2.2 x (List.mem_of_mem_drop hx)) (λx hx=>hB.2.2 x (List.mem_of_mem_take hx)) (by rw[List.length_drop,List.length_take];omega)];rfl
  ·omega
 have hc1:(bif decide (A4 n=7) then decide (A4 n=7) else decide (A4 n=8))=false:=by
  rw[show ¬A4 n=7/\¬A4 n=8 by omega |> λh=>(AwZ h.1:decide (A4 n=7)=false),Axb];exact AwZ (by omega)
 rw[hc1,Axb];by_cases oV:A4 n=9
 ·have jT:¬(A4 n=5\/A4 n=6):=by omega
  have h5:¬A4 n=5:=by omega
  have h6:¬A4 n=6:=by omega
  simp only[if_neg h5,if_neg h6,if_pos oV,if_neg jT,if_neg zF] at hw Rb ⊢;split at hw<;>rename_i hc
  ·obtain⟨A,hA⟩:∃A:Nat,nA n=(A:Int):=⟨(nA n).toNat,by omega⟩;have hA':n.2.2.1=(A:Int):=hA;rw[hA] at hw Rb;simp only[AwX,List.length_flatten,List.map_replicate,List.sum_replicate_nat] at Rb;rw[Aw1 oV,Axc,hA'];rw[show FA (fN B) (A:Int) 0 []=some (fN (List.replicate A B).flatten) by
    unfold FA;have:=AJ (f:=BB (fN B) (A:Int)) (λk=>((k:Int),fN (List.replicate k B).flatten)) (t:=fN (List.replicate A B).flatten) A (λk hk=>by
     unfold BB DC;simp only;have hkl:(k+1)*B.length<=A*B.length:=Nat.mul_le_mul_right _ (by omega);have Awk:(k+1)*B.length=k*B.length+B.length:=Nat.succ_mul _ _;have hA2:A<=A*B.length:=Nat.le_mul_of_pos_right _ (by omega);rw[EE hk,Axc,bf h.hd (λx hx=>by
      obtain⟨C,hC,hx⟩:=List.mem_flatten.1 hx;rw[(List.mem_replicate.1 hC).2] at hx;exact hB.2.2 x hx) hB.2.2 (by rw[List.length_flatten,List.map_replicate,List.sum_replicate_nat];omega),AwW,AY hk (by omega),List.replicate_succ',List.flatten_append]
     simp) (by
     unfold BB DC;simp only;rw[Ff,Axb])
    exact this,hA]
   rfl
  ·omega
 have jT:A4 n=5\/A4 n=6:=by omega
 rw[AwZ oV,Axb];simp only[if_neg oV,if_pos jT] at hw Rb ⊢;split at hw<;>rename_i hc
 ·obtain⟨A,hA⟩:∃A:Nat,nA n=(A:Int):=⟨(nA n).toNat,by omega⟩;have hA':n.2.2.1=(A:Int):=hA;have hz1:Dh 1=some (1,[0]):=RZ (n:=1) (by omega);rw[hz1,AwW];rw[if_pos (by omega)];by_cases h6:A4 n=6
  ·have h5:¬A4 n=5:=by omega
   have hlast:Rf d (B.getD (B.length-1) (.co false)):=hB.2.2 _ (Az (by omega));rw[show Bs n (B.length:Int) (fN B) (fN B) (Ar 1 [0]).1 (Ar 1 [0]).2.1 (Ar 1 [0]).2.2.1 (Ar 1 [0]).2.2.2.1 (Ar 1 [0]).2.2.2.2=some (.inl (FU (B.getD (B.length-1) (.co false)).sg)) by
    unfold Bs;rw[e1,Aw1 h6,Axc,show wI ((B.length:Int)-1)=((B.length-1:Nat):Int) from wrapN (by omega) (by omega),show(1:Int)=((1:Nat):Int) from rfl,pK h.hd hB (by omega),AwW];have:(B.drop (B.length-1)).take 1=[B.getD (B.length-1) (.co false)]:=by
     rw[List.drop_eq_getElem_cons (by omega),show B.getD (B.length-1) (.co false)=B[B.length-1] by simp[List.getD,show B.length-1<B.length by omega]];rfl
    rw[this,Ahd,if_pos ⟨by omega,by simp⟩];rfl,AwW]
   simp only[Sum.elim_inl,if_neg h5,if_pos h6,hA,AwX];rw[hA'];unfold ID;rw[Zv (f:=DD (FU (B.getD (B.length-1) (.co false)).sg) (A:Int)) h.hd hB hlast (A:=A) (by omega) (λx=>rfl)];rfl
  ·have h5:A4 n=5:=by omega
   rw[show Bs n (B.length:Int) (fN B) (fN B) (Ar 1 [0]).1 (Ar 1 [0]).2.1 (Ar 1 [0]).2.2.1 (Ar 1 [0]).2.2.2.1 (Ar 1 [0]).2.2.2.2=some (.inr ()) by
    unfold Bs;rw[e1,AwZ h6,Axb],AwW]
   simp only[Sum.elim_inr,if_pos h5,hA,AwX];rw[hA'];have hco:((Ar 1 [0]).1,(Ar 1 [0]).2.1,(Ar 1 [0]).2.2.1,((Ar 1 [0]).2.2.2.1,(Ar 1 [0]).2.2.2.2,()),())=FU (Bt.co false).sg:=rfl;rw[hco];unfold IE;rw[Zv (f:=DF (A:Int) (FU (Bt.co false).sg)) h.hd hB (show Rf d (.co false) from trivial) (A:=A) (by omega) (λx=>rfl)];rfl
 ·omega
end Go.Proofs.X
namespace Go.Proofs.X
open Go Go.Va
set_option maxRecDepth 100000
def RG(all:List (List Bt))(n:Axj):List (List Bt):=(Av n).map λk=>all.getD k.toNat []
def TB(d:Axw)(t:Axy):Nat->List (List Bt)
 | 0=>[]
 | i+1=>TB d t i++[A5 d (nd t i) (RG (TB d t i) (nd t i))]
theorem Nl(d:Axw)(t:Axy):∀i,(TB d t i).length=i
 | 0=>rfl
 | i+1=>by simp only[TB,Aw0,Nl d t i];rfl
theorem ZM(d:Axw)(t:Axy){i j k:Nat}(h:j<i)(hk:i<=k):(TB d t k).getD j []=(TB d t i).getD j []:=by
 induction k with
 | zero=>omega
 | succ k ih =>
  rcases Aw7 k i with h1 | h1
  ·have:i=k+1:=by omega
   rw[this]
  ·rw[<-ih h1];simp only[TB,List.getD];rw[List.getElem?_append_left (by rw[Nl];omega)]
theorem TK(d:Axw)(t:Axy)(i:Nat):(TB d t (i+1)).getD i []=A5 d (nd t i) (RG (TB d t i) (nd t i)):=by
 simp only[TB,List.getD];rw[List.getElem?_append_right (by rw[Nl];omega),Nl];simp
theorem Abj{A:Type}(f:A->Nat)(l:List A):(((l.map f).sum:Nat):Int)=(l.map λx=>(f x:Int)).sum:=by
 induction l with
 | nil=>rfl
 | cons x l ih=>simp only[List.map_cons,List.sum_cons];rw[<-ih];omega
theorem aV {d:Axw} {t:Axy} {ws:Axs} {i:Nat} (hd:AA d) (ht:NN t) (h:KZ d t ws) (hi:i<t.length) (hp:∀j,j<i->A1 d ((TB d t i).getD j [])/\(((TB d t i).getD j []).length:Int)=ws.getD j 0) :
    NB d (nd t i) (RG (TB d t i) (nd t i))/\Em d (nd t i) (Xh (RG (TB d t i) (nd t i)))=ws.getD i 0/\KQ (nd t i) i:=by
 obtain⟨_,_,hl,⟨_,hpre⟩,_⟩:=h;have hn:=hpre i (by omega);obtain⟨hin,_,hf,hw,h1,h2⟩:=hn;have hwl:(ws.take i).length=i:=by rw[List.length_take];omega
 rw[hwl] at hin;have hs:Xh (RG (TB d t i) (nd t i))=(EP (ws.take i) (nd t i)).sum:=by
  unfold Xh RG EP;rw[List.map_map,Abj];congr 1;refine List.map_congr_left λk hk=>?_;have:=hin k hk;show(((TB d t i).getD k.toNat []).length:Int)=_;rw[(hp k.toNat (by omega)).2];simp only[List.getD,List.getElem?_take,show k.toNat<i by omega,if_true]
 refine⟨⟨hd,hf,ht.2 _ (Az hi),by simp[RG],by rw[hs,<-hw];exact⟨h1,h2⟩,λB hB=>?_⟩,by rw[hs,<-hw],hin⟩;obtain⟨k,hk,rfl⟩:=List.mem_map.1 hB;have:=hin k hk;exact(hp k.toNat (by omega)).1
theorem XN{d:Axw}{t:Axy}{ws:Axs}(hd:AA d)(ht:NN t)(h:KZ d t ws):∀i,i<=t.length->∀j,j<i->A1 d ((TB d t i).getD j [])/\(((TB d t i).getD j []).length:Int)=ws.getD j 0
 | 0,_,j,hj=>by omega
 | i+1,hi,j,hj=>by
  have ih:=XN hd ht h i (by omega);rcases Aw7 j i with h1 | h1
  ·rw[ZM d t h1 (Nat.le_succ i)];exact ih j h1
  ·have:j=i:=by omega
   subst this;obtain⟨hnb,hw,_⟩:=aV hd ht h (by omega) ih;rw[TK];exact⟨PO hnb,by rw[Uf hnb,hw]⟩
def dN(d:Axw)(t:Axy)(n:Nat):Prop:=∀i,i<n->(norm ((TB d t n).getD i [])).length<=2000
def lastB(d:Axw)(t:Axy):List Bt:=(TB d t t.length).getD (t.length-1) []
open Classical in
noncomputable def EF(d:Axw)(t:Axy):Bool×Axx:=if(∃ws,KZ d t ws)/\dN d t t.length then(true,fN (lastB d t)) else(false,[])
theorem dN.succ{d:Axw}{t:Axy}{n:Nat}:dN d t (n+1)↔dN d t n/\(norm (A5 d (nd t n) (RG (TB d t n) (nd t n)))).length<=2000:=by
 unfold dN;constructor
 ·intro h;refine⟨λi hi=>?_,?_⟩
  ·have:=h i (by omega);rw[ZM d t hi (Nat.le_succ n)] at this;exact this
  ·have:=h n (by omega);rw[TK] at this;exact this
 ·rintro⟨h1,h2⟩ i hi
  rcases Aw7 i n with h | h
  ·rw[ZM d t h (Nat.le_succ n)];exact h1 i h
  ·have:i=n:=by omega
   subst this;rw[TK];exact h2
theorem dN.mono{d:Axw}{t:Axy}{m n:Nat}(h:dN d t n)(hm:m<=n):dN d t m:=λi hi=>by
 have:=h i (by omega);rw[ZM d t hi hm] at this;exact this
theorem aI {a:Axw} {g c:Int} {b:Axp} {j:Axj} {all:List (List Bt)} {pad:AxG} {n:Axj} (hn:(Av n).length<=1048576) (hin:KQ n all.length) :
    Ln a g c b (all.map fN++pad) j (Av n) ((Av n).length:Int) 0 (List.replicate (Av n).length [])=some ((RG all n).map fN):=by
 unfold Ln;have hget:∀m,m<(Av n).length->(all.map fN++pad).getD ((Av n).getD m 0).toNat []=fN (all.getD ((Av n).getD m 0).toNat []):=λm hm=>by
  have:=hin _ (Az (z:=(0:Int)) hm);rw[<-oK];generalize (Av n).getD m 0=q at this ⊢;simp only[List.getD];rw[List.getElem?_append_left (by rw[Aw8];omega)];rfl
 have:=AJ (f:=DG a g c b (all.map fN++pad) j (Av n) ((Av n).length:Int)) (λk=>((k:Int),Bn (λm=>(all.map fN++pad).getD ((Av n).getD m 0).toNat []) [] (Av n).length k)) (t:=(RG all n).map fN) (Av n).length (λk hk=>by
  unfold DG IQ;simp only;have hk2:=hin _ (Az (z:=(0:Int)) hk);have e0:(Ty.zero (.int .i64):Int)=0:=rfl;rw[e0,EE hk,Axc,if_pos (rng hk),AwX,if_pos ⟨hk2.1,by rw[Aw0,Aw8];omega⟩,EI,if_pos (rng hk),AY hk (by omega)];rw[show(Ty.zero (.sl Ad))=([]:Axx) from rfl,L8 (λm=>(all.map fN++pad).getD ((Av n).getD m 0).toNat []) [] (n:=(Av n).length) (k:=k)]) (by
  unfold DG IQ;simp only;rw[Ff,Axb];congr 2;unfold Bn RG;rw[List.map_map];refine List.ext_getElem (by simp) λi h1 h2=>?_;simp only[List.getElem_map,List.getElem_range,Function.comp];have hi:i<(Av n).length:=by simpa using h1
  rw[if_pos hi,hget i hi];simp[List.getD,hi])
 rw[show Bn (λm=>(all.map fN++pad).getD ((Av n).getD m 0).toNat []) [] (Av n).length 0=List.replicate (Av n).length [] from Jq _ _ _] at this;exact this
theorem zu(B:List Bt):(fN B).length=(norm B).length:=Bj _
theorem AaV{d:Axw}{B:List Bt}(h:A1 d B):Small (fN B):=by
 have hlen:=BW (B6 B);rw[Bv] at hlen;have h4:=h.2.1;refine⟨by rw[zu];omega,λs hs=>?_⟩;obtain⟨q,hq,rfl⟩:=List.mem_map.1 hs;cases q with
 | co bs =>
  show(Ye bs).2.1.length<=1048576;rw[(Zg bs).1];have:(Sg.co bs).w<=AO (norm B):=by
   have:∀(l:List Sg) (s:Sg),s∈l->s.w<=AO l:=λl s hs=>by
    induction l with
    | nil=>cases hs
    | cons a l ih =>
     simp only[AO,List.map_cons,List.sum_cons];rcases List.mem_cons.1 hs with rfl | hs
     ·omega
     ·have:=ih hs;unfold AO at this;omega
   exact this _ _ hq
  rw[Bv] at this;have e:(Sg.co bs).w=bs.length:=rfl;unfold nw;omega
 | va v l n=>show([]:Axs).length<=_;simp
theorem RE{d:Axw}{t:Axy}{ws:Axs}(hd:AA d)(ht:NN t)(h:KZ d t ws):Et d (t,())=some (EF d t):=by
 have hl1:=h.1;have hl2:=h.2.1;refine Aq.eq_ ?_;unfold Et;rw[if_pos ⟨rfl,by show(0:Int)<=(t.length:Int);omega,by omega,by show((24:Nat):Int)*(t.length:Int)<=_;omega,by show(t.length:Int)<=_;omega⟩];show Aq ((Lp d (t,()) (t.length:Int) 0 (List.replicate (t.length:Int).toNat [])).bind _) _;rw[AwX];refine Aq.bind (P:=λr=>(∃x,r=.inl x/\¬dN d t t.length)\/(r=.inr ((TB d t t.length).map fN)/\dN d t t.length)) ?_ λr hr=>?_
 ·unfold Lp;refine FW (λm (x:Int×AxG)=>∃i:Nat,i<=t.length/\m=t.length-i/\x=((i:Int),(TB d t i).map fN++List.replicate (t.length-i) [])/\dN d t i) (λm x hI=>?_) t.length _ ⟨0,Nat.zero_le _,rfl,by simp[TB],λi hi=>by omega⟩;obtain⟨i,hi,rfl,rfl,hok⟩:=hI;unfold IR My;simp only;rcases Aw7 i t.length with hlt | hge
  ·obtain⟨hnb,hw,hin⟩:=aV hd ht h hlt (XN hd ht h i hi);have hkl:=hnb.hb.1;have hnd:t.getD i Ae.zero=nd t i:=rfl;have hkk:(nd t i).2.2.2.2.2.1=Av (nd t i):=rfl;rw[EE hlt,Axc,if_pos (rng hlt),AwX,hnd,hkk,if_pos ⟨rfl,by omega,by omega,by omega,by omega⟩,AwX];rw[aI hkl (by rw[Nl];exact hin),AwW,ig hnb,AwW];have hlen:((TB d t i).map fN++List.replicate (t.length-i) ([]:Axx)).length=t.length:=by rw[Aw0,Aw8,Nl,List.length_replicate];omega
   have hset:((TB d t i).map fN++List.replicate (t.length-i) ([]:Axx)).set i (fN (A5 d (nd t i) (RG (TB d t i) (nd t i))))=(TB d t (i+1)).map fN++List.replicate (t.length-(i+1)) []:=by
    rw[List.set_append_right _ _ (by rw[Aw8,Nl];omega),Aw8,Nl,Nat.sub_self,show t.length-i=(t.length-(i+1))+1 by omega,List.replicate_succ,List.set_cons_zero];simp only[TB,List.map_append,List.map_cons,List.map_nil,Aw4];rfl
   have hget:((TB d t (i+1)).map fN++List.replicate (t.length-(i+1)) ([]:Axx)).getD i (Ty.zero (.sl Ad))=fN (A5 d (nd t i) (RG (TB d t i) (nd t i))):=by
    rw[<-TK,<-oK];simp only[List.getD];rw[List.getElem?_append_left (by rw[Aw8,Nl];omega)]
   rw[hlen,if_pos (rng hlt),Aw5,hlen,if_pos (rng hlt),hset,hget,zu];by_cases hc:(norm (A5 d (nd t i) (RG (TB d t i) (nd t i)))).length<=2000
   ·rw[AwZ (by omega),Axb,AY hlt (by omega)];exact Aq.mk ⟨t.length-(i+1),by omega,i+1,hlt,rfl,rfl,dN.succ.2 ⟨hok,hc⟩⟩
   ·rw[Aw1 (by omega),Axc];exact Aq.mk (.inl ⟨_,rfl,λh'=>hc (dN.succ.1 (h'.mono hlt)).2⟩)
  ·have:i=t.length:=by omega
   subst this;rw[Ff,Axb];exact Aq.mk (.inr ⟨by simp,hok⟩)
 ·rcases hr with ⟨x,rfl,hno⟩| ⟨rfl,hok⟩
  ·simp only[Sum.elim_inl];refine Aq.mk ?_;unfold EF;rw[if_neg (λh'=>hno h'.2)]
  ·simp only[Sum.elim_inr];have hlast:wI ((((TB d t t.length).map fN).length:Int)-1)=((t.length-1:Nat):Int):=by rw[Aw8,Nl];exact wrapN (by omega) (by omega)
   rw[hlast,Aw8,Nl,if_pos ⟨by omega,by omega⟩,AwX,oK];have hb:=(XN hd ht h t.length (Aw2 _) (t.length-1) (by omega)).1;rw[ZW (AaV hb),AwW];refine Aq.mk ?_;unfold EF;rw[if_pos ⟨⟨ws,h⟩,hok⟩];rfl
theorem MM{d:Axw}{t:Axy}(hd:AA d)(ht:NN t):BS d (t,())=some (EF d t):=by
 refine Aq.eq_ ?_;unfold BS;have Awd:=hd.1;rw[Pl ht (by omega) hd,AwW];by_cases hw:∃ws,KZ d t ws
 ·obtain⟨ws,h⟩:=hw;have hl1:=h.1;have hl2:=h.2.1;have hp:=tX h;rw[AwZ (by omega),Axb];refine Aq.bind (P:=λr=>(r=.inl ()/\¬dN d t t.length)\/(r=.inr (fN (lastB d t))/\dN d t t.length)) ?_ λr hr=>?_
  ·unfold Od;refine FW (λm (x:Int×AxF×Axx)=>∃i:Nat,i<=t.length/\m=t.length-i/\x.1=(i:Int)/\x.2.1=(TB d t i).map bV/\(0<i->x.2.2=fN ((TB d t i).getD (i-1) []))/\dN d t i) (λm x hI=>?_) t.length _ ⟨0,Nat.zero_le _,rfl,rfl,rfl,λh=>by omega,λi hi=>by omega⟩;obtain⟨x1,x2,x3⟩:=x;obtain⟨i,hi,rfl,h1,h2,h3,hok⟩:=hI;simp only at h1 h2 h3;subst h1 h2;unfold I6 MO;simp only;rcases Aw7 i t.length with hlt | hge
   ·obtain⟨hnb,hw,hin⟩:=aV hd ht h hlt (XN hd ht h i hi);have hkl:=hnb.hb.1;have hnd:t.getD i Ae.zero=nd t i:=rfl;have hkk:(nd t i).2.2.2.2.2.1=Av (nd t i):=rfl;have Aqt:Lx d (i:Int) (t,()) ((TB d t i).map bV) 0 []=some ((RG (TB d t i) (nd t i)).map bV):=by
     unfold Lx;rw[RA (f:=DU d (i:Int) (t,()) ((TB d t i).map bV)) (Av (nd t i)).length (λm=>bV ((TB d t i).getD ((Av (nd t i)).getD m 0).toNat [])) [] (λk acc hk ha=>by
      unfold DU I5;simp only;have hk2:=hin _ (Az (z:=(0:Int)) hk);simp at ha;have e0:(Ty.zero (.int .i64):Int)=0:=rfl;rw[if_pos (rng hlt),AwX,hnd,hkk,EE hk,Axc,if_pos (rng hlt),if_pos (rng hk),AwX,e0,if_pos ⟨hk2.1,by rw[Aw8,Nl];exact hk2.2⟩,AqI,AY hk (by omega),if_pos (by show(_+1)*24<=_;omega)]) (λacc=>by
      unfold DU I5;simp only;rw[if_pos (rng hlt),AwX,hnd,hkk,Ff,Axb])]
     rw[List.nil_append];congr 1;unfold RG;rw[List.map_map];refine List.ext_getElem (by simp) λq h1 h2=>?_;simp only[List.getElem_map,List.getElem_range,Function.comp];have hq:q<(Av (nd t i)).length:=by simpa using h1
     simp[List.getD,hq]
    rw[EE hlt,Axc,Aqt,AwW,if_pos (rng hlt),AwX,hnd,jk hnb,AwW];have hb:=PO hnb;rw[rM (λb hb'=>Qb hd (hb.2.2 b hb')) hb.2.1,AwW];by_cases hc:(norm (A5 d (nd t i) (RG (TB d t i) (nd t i)))).length<=2000
    ·simp only[Aw1 hc,Bool.not_true,Axb];rw[Aw8,Nl,if_pos (by show(_+1)*24<=_;omega),AY hlt (by omega)];refine Aq.mk ⟨t.length-(i+1),by omega,i+1,hlt,rfl,rfl,?_,λ_=>?_,dN.succ.2 ⟨hok,hc⟩⟩
     ·simp only[TB,List.map_append,List.map_cons,List.map_nil]
     ·simp only[Nat.add_sub_cancel];rw[TK];rfl
    ·simp only[AwZ hc,Bool.not_false,Axc];exact Aq.mk (.inl ⟨rfl,λh'=>hc (dN.succ.1 (h'.mono hlt)).2⟩)
   ·have:i=t.length:=by omega
    subst this;rw[Ff,Axb];exact Aq.mk (.inr ⟨by rw[h3 (by omega)];rfl,hok⟩)
  ·rcases hr with ⟨rfl,hno⟩| ⟨rfl,hok⟩
   ·simp only[Sum.elim_inl];refine Aq.mk ?_;unfold EF;rw[if_neg (λh'=>hno h'.2)]
   ·simp only[Sum.elim_inr];refine Aq.mk ?_;unfold EF;rw[if_pos ⟨⟨ws,h⟩,hok⟩]
 ·rw[QY hw,Aw1 (by omega),Axc];refine Aq.mk ?_;unfold EF;rw[if_neg (λh'=>hw h'.1)]
end Go.Proofs.X
