import Derived.Test.YtlohhmmaibiimaaGreatK14
set_option linter.unusedVariables false
set_option linter.unusedSimpArgs false
namespace Go.Va
open Go.Proofs.X
def brk:List Bt->Nat
 | a::b::r=>(if a.sg.join b.sg=none then 1 else 0)+brk (b::r)
 | _=>0
theorem wM(B:List Bt)(c b:Bt):brk (B++[c,b])=brk (B++[c])+if c.sg.join b.sg=none then 1 else 0:=by
 induction B with
 | nil=>simp[brk]
 | cons a B ih =>
  cases B with
  | nil=>simp only[List.nil_append,List.cons_append,brk] at *;omega
  | cons x B=>simp only[List.cons_append,brk] at *;omega
theorem zW{l s j:Sg}(h:l.join s=some j)(x:Bt):j.join x.sg=none↔s.join x.sg=none:=by
 cases l<;>cases s<;>simp only[Sg.join] at h
 ·cases h;cases x<;>simp[Sg.join,Bt.sg]
 ·cases h
 ·cases h
 ·split at h
  ·rename_i hc;cases h;cases x with
   | co b=>simp[Sg.join,Bt.sg]
   | va v a =>
    simp only[Sg.join,Bt.sg,hc.1,<-hc.2,Nat.add_assoc];split<;>simp
  ·cases h
theorem Aas(B:List Bt)(c:Bt):∃g l,norm (B++[c])=g++[l]/\∀x:Bt,l.join x.sg=none↔c.sg.join x.sg=none:=by
 have e:norm (B++[c])=FJ (norm B) c.sg:=by unfold norm;rw[Jo];rfl
 rw[e];rcases List.eq_nil_or_concat (norm B) with h | ⟨g,l,h⟩
 ·rw[h];exact⟨[],c.sg,rfl,λx=>Iff.rfl⟩
 ·rw[h,List.concat_eq_append,Dw];cases hj:l.join c.sg with
  | none=>exact⟨g++[l],c.sg,by simp,λx=>Iff.rfl⟩
  | some j=>exact⟨g,j,rfl,zW hj⟩
theorem iI(B:List Bt)(c:Bt):(norm (B++[c])).length=brk (B++[c])+1:=by
 have key:∀(n:Nat) (B:List Bt) (c:Bt),B.length=n->(norm (B++[c])).length=brk (B++[c])+1:=by
  intro n;induction n with
  | zero=>intro B c h;rw[List.length_eq_zero_iff.1 h];simp[norm,Rn,FJ,brk]
  | succ n ih =>
   intro B c h;rcases List.eq_nil_or_concat B with rfl | ⟨B0,x,rfl⟩
   ·simp at h
   ·rw[List.concat_eq_append] at h ⊢;rw[Aw4];simp only[List.cons_append,List.nil_append];have i:=ih B0 x (by simp at h;omega);obtain⟨g,l,hg,hl⟩:=Aas B0 x;have e:norm (B0++[x,c])=FJ (norm (B0++[x])) c.sg:=by
     rw[show B0++[x,c]=(B0++[x])++[c] by simp];unfold norm;rw[Jo];rfl
    rw[wM,e,hg,Dw];rw[hg] at i;simp only[Aw0,List.length_cons,List.length_nil] at i;cases hj:l.join c.sg with
    | none=>rw[if_pos ((hl c).1 hj)];simp;omega
    | some j =>
     rw[if_neg (λh'=>by rw[(hl c).2 h'] at hj;cases hj)];simp;omega
 exact key _ B c rfl
end Go.Va
namespace Go.Proofs.X
open Go Go.Va
set_option maxRecDepth 100000
def uG(d:Axw)(B:List Bt):Prop:=A1 d B/\(norm B).length<=2000
theorem uG.pos{d:Axw}{B:List Bt}(h:uG d B):1<=(norm B).length:=by
 rcases List.eq_nil_or_concat B with rfl | ⟨B0,x,rfl⟩
 ·have:=h.1.1;simp at this
 ·rw[List.concat_eq_append,iI];omega
def Pz(d:Axw):Sg->Prop
 | .co bs=>1<=bs.length/\bs.length<=4096
 | .va v l n=>v<d.length/\1<=n/\((l+n:Nat):Int)<=dw d v
theorem RR{d:Axw}{B:List Bt}(h:A1 d B){s:Sg}(hs:s∈norm B):Pz d s/\s.w<=4096:=by
 have hw:=B6 B s hs;have hb:∀b∈s.bits,Rf d b:=λb hb=>h.2.2 b (by
  rw[<-FT B];exact List.mem_flatMap.2 ⟨s,hs,hb⟩)
 have hle:s.w<=4096:=by
  have:∀(l:List Sg) (s:Sg),s∈l->s.w<=AO l:=λl s hs=>by
   induction l with
   | nil=>cases hs
   | cons a l ih =>
    simp only[AO,List.map_cons,List.sum_cons];rcases List.mem_cons.1 hs with rfl | hs
    ·omega
    ·have:=ih hs;unfold AO at this;omega
  have:=this _ _ hs;rw[Bv] at this;have:=h.2.1;omega
 refine⟨?_,hle⟩;cases s with
 | co bs=>exact⟨hw,hle⟩
 | va v l n =>
  have hn:1<=n:=hw;have h0:=hb (.va v l) (List.mem_map.2 ⟨0,List.mem_range.2 hn,by simp⟩);have h1:=hb (.va v (l+(n-1))) (List.mem_map.2 ⟨n-1,List.mem_range.2 (by omega),rfl⟩);have:=h1.2;exact⟨h0.1,hn,by omega⟩
def Arq(B:List Bt)(hi lo:Int):Prop:=0<=lo/\lo<=hi/\hi<(B.length:Int)
instance (B:List Bt) (hi lo:Int):Decidable (Arq B hi lo):=inferInstanceAs (Decidable (_/\_))
def Aic(A B:List Bt):Prop:=A.length+B.length<=4096/\(norm (B++A)).length<=2000
instance (A B:List Bt):Decidable (Aic A B):=inferInstanceAs (Decidable (_/\_))
end Go.Proofs.X
namespace Go.Proofs.X
open Go Go.Va
set_option maxRecDepth 100000
theorem zZ{d:Axw}{t:Axy}{ws:Axs}(hd:AA d)(ht:NN t)(h:KZ d t ws):A1 d (lastB d t):=by
 have:=h.1;exact(XN hd ht h t.length (Aw2 _) (t.length-1) (by omega)).1
theorem W4{d:Axw}{t:Axy}(hd:AA d)(ht:NN t)(h:(EF d t).1=true):uG d (lastB d t)/\(EF d t).2=fN (lastB d t):=by
 unfold EF at h ⊢;split at h
 ·rename_i hc;rw[if_pos hc];obtain⟨⟨ws,hw⟩,hok⟩:=hc;have:=hw.1;exact⟨⟨zZ hd ht hw,hok _ (by omega)⟩,rfl⟩
 ·cases h
theorem QZ{d:Axw}{t:Axy}(h:0<=GG d t):∃ws,KZ d t ws :=
 Classical.byContradiction λh'=>by rw[QY h'] at h;omega
def kF(d:Axw)(l:AxA)(i:Nat):Prop:=(EF d (lS l i)).1=true/\(EF d (lT l i)).1=true
def KR(d:Axw)(l:AxA):Prop:=∀i,i<l.length->kF d l i
theorem aZ{a b:Bool}:(!a||!b)=false↔a=true/\b=true:=by cases a<;>cases b<;>decide
def j6(l:AxA)(id:Int)(i:Nat):Prop:=(li l i).1=id/\(li l i).2.1=true
def jZ(l:AxA)(id g:Int):Prop:=(g=-1/\∀i,i<l.length->¬j6 l id i)\/∃k:Nat,g=(k:Int)/\k<l.length/\j6 l id k/\∀i,i<k->¬j6 l id i
theorem jZ.unique{l:AxA}{id g h:Int}(hg:jZ l id g)(hh:jZ l id h):g=h:=by
 rcases hg with ⟨rfl,h1⟩| ⟨k,rfl,hk,hp,hn⟩
 ·rcases hh with ⟨rfl,_⟩| ⟨k,rfl,hk,hp,_⟩
  ·rfl
  ·exact absurd hp (h1 k hk)
 ·rcases hh with ⟨rfl,h1⟩| ⟨j,rfl,hj,hq,hm⟩
  ·exact absurd hp (h1 k hk)
  ·rcases Nat.lt_trichotomy k j with h | h | h
   ·exact absurd hp (hm k h)
   ·rw[h]
   ·exact absurd hq (hn j h)
theorem n1:strEq ⟨#[105]⟩ ⟨#[]⟩=false:=by kernel_rfl
theorem n2:strEq ⟨#[116]⟩ ⟨#[]⟩=false:=by kernel_rfl
theorem n3:strEq ⟨#[105,106]⟩ ⟨#[]⟩=false:=by kernel_rfl
end Go.Proofs.X
namespace Go.Proofs.X
open Go Go.Va
set_option maxRecDepth 100000
def BD(c:AxD)(v:Nat):Axs:=c.getD v []
def FX(l:Axs)(i:Nat):Int:=l.getD i 0
def PlP(l:Axs)(w:Int)(i:Nat):Prop:=1<=FX l i/\FX l i<=w-1/\(0<i->FX l (i-1)<FX l i)
def S5(l:Axs)(w:Int):Prop:=∀i,i<l.length->PlP l w i
def Ct(d:Axw)(c:AxD):Prop:=c.length=d.length/\∀v,v<d.length->S5 (BD c v) (dw d v)
def OO(c:AxD):Prop:=c.length<=1048576/\∀x∈c,x.length<=1048576
theorem OO.row{c:AxD}(h:OO c)(v:Nat):(BD c v).length<=1048576:=by
 unfold BD;by_cases hv:v<c.length
 ·exact h.2 _ (Az hv)
 ·simp[List.getD,hv]
theorem zh{d:Axw}(hd:AA d){v:Nat}(hv:v<d.length):1<=dw d v/\dw d v<=4096:=(hd.2.1 v hv).2.1
theorem bQ {d:Axw} {c:AxD} (hd:AA d) (hl:c.length=d.length) {v j:Nat} (hv:v<d.length) (hj:j<(BD c v).length) (hb:(BD c v).length<=1048576) (hp:∀i,i<j->PlP (BD c v) (dw d v) i) :
    ∃b,JL d (v:Int) (j:Int) (c,())=some b/\(b=false↔PlP (BD c v) (dw d v) j):=by
 have hw:=zh hd hv;unfold JL;have e1:(c.getD v (Ty.zero (.sl (.int .i64))))=BD c v:=rfl;have e2:(d.getD v Ab.zero).2.1=dw d v:=rfl;have e3:(BD c v).getD j (Ty.zero (.int .i64))=FX (BD c v) j:=rfl;simp only[AwX,e1,e2,e3];rw[if_pos (rng (by omega)),if_pos (rng hj),if_pos (rng hv),NI,wrap64 (x:=dw d v-1) (by omega) (by omega)];by_cases h1:1<=FX (BD c v) j/\FX (BD c v) j<=dw d v-1
 ·rw[Aw1 h1];simp only[Bool.not_true,Axb];rcases Nat.eq_zero_or_pos j with h0 | h0
  ·subst h0;exact⟨false,by simp,λ_=>⟨h1.1,h1.2,λh=>by omega⟩,λ_=>rfl⟩
  ·rw[Aw1 (by omega),Axc,wrapN (x:=(j:Int)-1) (n:=j-1) (by omega) (by omega),if_pos (rng (by omega)),if_pos (rng hj),if_pos (rng (by omega)),if_pos (rng (by omega)),AwX];have e4:(BD c v).getD (j-1) (Ty.zero (.int .i64))=FX (BD c v) (j-1):=rfl;simp only[e4];refine⟨_,rfl,?_⟩;rw[decide_eq_false_iff_not];exact⟨λh=>⟨h1.1,h1.2,λ_=>Int.not_le.1 h⟩,λh=>Int.not_le.2 (h.2.2 h0)⟩
 ·rw[AwZ h1];exact⟨true,rfl,λh=>by(cases h),λh=>(h1 ⟨h.1,h.2.1⟩).elim⟩
theorem PW{d:Axw}{c:AxD}(hc:OO c):Aq (Gk d (c,())) λr=>r=true↔AA d/\Ct d c:=by
 unfold Gk MN;obtain⟨r,hr,hq⟩:=QU d;rw[hr,AwW];cases r with
 | false=>exact Aq.mk ⟨λh=>by(cases h),λh=>by have:=hq.2 h.1;cases this⟩
 | true =>
  have hd:=hq.1 rfl;simp only[Bool.not_true,Axb,AwW];by_cases hl:c.length=d.length
  ·rw[show((c.length:Int) !=(d.length:Int))=false by simp[hl],Axb];refine Aq.bind (P:=λt=>(t=.inl ()/\¬Ct d c)\/(t=.inr ()/\Ct d c)) ?_ λt ht=>?_
   ·unfold Po;refine Bd (λv (_:Unit)=>(v:Int)) c.length (λv _=>∀u,u<v->S5 (BD c u) (dw d u)) (λv _ hv hI=>?_) (λ_ hI=>?_) (s0:=()) (λu hu=>by omega)
    ·unfold Hj Kn;simp only;rw[EE hv,Axc];refine Aq.bind (P:=λt=>(t=.inl ()/\¬S5 (BD c v) (dw d v))\/(t=.inr ()/\S5 (BD c v) (dw d v))) ?_ λt ht=>?_
     ·unfold Pn;refine Bd (λj (_:Unit)=>(j:Int)) (BD c v).length (λj _=>∀i,i<j->PlP (BD c v) (dw d v) i) (λj _ hj hJ=>?_) (λ_ hJ=>?_) (s0:=()) (λi hi=>by omega)
      ·unfold Hh Km;obtain⟨b,h1,h2⟩:=bQ hd hl (by omega) hj (hc.row v) hJ;have e1:(c.getD v (Ty.zero (.sl (.int .i64))))=BD c v:=rfl;simp only[AwX,e1];rw[if_pos (rng hv),EE hj,Axc,h1,AwW];cases b with
       | true=>exact Aq.mk (.inl ⟨rfl,λh=>by have:=h2.2 (h j hj);cases this⟩)
       | false =>
        rw[Axb,AY hj (hc.row v)];refine Aq.mk ⟨(),rfl,λi hi=>?_⟩;rcases Aw7 i j with h | h
        ·exact hJ i h
        ·rw[show i=j by omega];exact h2.1 rfl
      ·unfold Hh Km;have e1:(c.getD v (Ty.zero (.sl (.int .i64))))=BD c v:=rfl;simp only[AwX,e1];rw[if_pos (rng hv),Ff,Axb];exact Aq.mk (.inr ⟨rfl,hJ⟩)
     ·rcases ht with ⟨rfl,h⟩| ⟨rfl,h⟩
      ·exact Aq.mk (.inl ⟨rfl,λh'=>h (h'.2 v (by omega))⟩)
      ·simp only[Sum.elim_inr];rw[AY hv hc.1];refine Aq.mk ⟨(),rfl,λu hu=>?_⟩;rcases Aw7 u v with h' | h'
       ·exact hI u h'
       ·rw[show u=v by omega];exact h
    ·unfold Hj Kn;simp only;rw[Ff,Axb];exact Aq.mk (.inr ⟨rfl,hl,λv hv=>hI v (by omega)⟩)
   ·rcases ht with ⟨rfl,h⟩| ⟨rfl,h⟩
    ·exact Aq.mk ⟨λh=>by(cases h),λh'=>absurd h'.2 h⟩
    ·exact Aq.mk ⟨λ_=>⟨hd,h⟩,λ_=>rfl⟩
  ·rw[show((c.length:Int) !=(d.length:Int))=true by simp;omega,Axc];exact Aq.mk ⟨λh=>by(cases h),λh=>absurd h.2.1 hl⟩
theorem aG{d:Axw}{c:AxD}(hc:OO c)(hd:AA d):Aq (Md d (c,())) λr=>r=true↔Ct d c:=by
 unfold Md;by_cases hl:c.length=d.length
 ·rw[show((c.length:Int) !=(d.length:Int))=false by simp[hl],Axb];refine Aq.bind (P:=λt=>(t=.inl ()/\¬Ct d c)\/(t=.inr ()/\Ct d c)) ?_ λt ht=>?_
  ·unfold OX;refine Bd (λv (_:Unit)=>(v:Int)) c.length (λv _=>∀u,u<v->S5 (BD c u) (dw d u)) (λv _ hv hI=>?_) (λ_ hI=>?_) (s0:=()) (λu hu=>by omega)
   ·unfold G4 J6;have e1:(c.getD v (Ty.zero (.sl (.int .i64))))=BD c v:=rfl;have hw:=zh hd (show v<d.length by omega);simp only[AwX,e1];rw[EE hv,Axc,if_pos (rng hv)];refine Aq.bind (P:=λt=>(t=.inl ()/\¬S5 (BD c v) (dw d v))\/(t=.inr ()/\S5 (BD c v) (dw d v))) ?_ λt ht=>?_
    ·unfold OW;have:=Bd (f:=EL d (v:Int) c (c.length:Int) (BD c v) ((BD c v).length:Int)) (λj (_:Unit)=>((if j=0 then 0 else FX (BD c v) (j-1):Int),(j:Int))) (BD c v).length (λj _=>∀i,i<j->PlP (BD c v) (dw d v) i) (Q:=λt=>(t=.inl ()/\¬S5 (BD c v) (dw d v))\/(t=.inr ()/\S5 (BD c v) (dw d v))) (λj _ hj hJ=>?_) (λ_ hJ=>?_) (s0:=()) (λi hi=>by omega)
     ·exact this
     ·unfold EL J5;have e2:(d.getD v Ab.zero).2.1=dw d v:=rfl;have e3:(BD c v).getD j (Ty.zero (.int .i64))=FX (BD c v) j:=rfl;simp only[AwX,e2,e3];obtain⟨q,hq⟩:∃q:Int,q=if j=0 then 0 else FX (BD c v) (j-1):=⟨_,rfl⟩;have hqb:0<=q/\q<=4096/\(0<j->q=FX (BD c v) (j-1))/\(j=0->q=0):=by
       by_cases h0:j=0
       ·rw[if_pos h0] at hq;exact⟨by omega,by omega,λh=>by omega,λ_=>hq⟩
       ·rw[if_neg h0] at hq;have:=hJ (j-1) (by omega);exact⟨by rw[hq];have:=this.1;omega,by rw[hq];have:=this.2.1;omega,λ_=>hq,λh=>absurd h h0⟩
      rw[<-hq,EE hj,Axc,if_pos (rng hj),if_pos (rng (by omega)),Kj,wrap64 (x:=dw d v-1) (by omega) (by omega),wrap64 (x:=q+1) (by omega) (by omega)];by_cases h1:q+1<=FX (BD c v) j/\FX (BD c v) j<=dw d v-1
      ·rw[Aw1 h1];simp only[Bool.not_true,Axb];rw[AY hj (hc.row v)];refine Aq.mk ⟨(),by simp,λi hi=>?_⟩;rcases Aw7 i j with h | h
       ·exact hJ i h
       ·rw[show i=j by omega];exact⟨by omega,h1.2,λh0=>by have:=hqb.2.2.1 h0;omega⟩
      ·rw[AwZ h1];refine Aq.mk (.inl ⟨rfl,λh=>h1 ?_⟩);have:=h j hj;refine⟨?_,this.2.1⟩;rcases Nat.eq_zero_or_pos j with h0 | h0
       ·have:=hqb.2.2.2 h0;have:=(h j hj).1;omega
       ·have:=hqb.2.2.1 h0;have:=(h j hj).2.2 h0;omega
     ·unfold EL J5;simp only;rw[Ff,Axb];exact Aq.mk (.inr ⟨rfl,hJ⟩)
    ·rcases ht with ⟨rfl,h⟩| ⟨rfl,h⟩
     ·exact Aq.mk (.inl ⟨rfl,λh'=>h (h'.2 v (by omega))⟩)
     ·simp only[Sum.elim_inr];rw[AY hv hc.1];refine Aq.mk ⟨(),rfl,λu hu=>?_⟩;rcases Aw7 u v with h' | h'
      ·exact hI u h'
      ·rw[show u=v by omega];exact h
   ·unfold G4 J6;simp only;rw[Ff,Axb];exact Aq.mk (.inr ⟨rfl,hl,λv hv=>hI v (by omega)⟩)
  ·rcases ht with ⟨rfl,h⟩| ⟨rfl,h⟩
   ·exact Aq.mk ⟨λh=>by(cases h),λh'=>absurd h' h⟩
   ·exact Aq.mk ⟨λ_=>h,λ_=>rfl⟩
 ·rw[show((c.length:Int) !=(d.length:Int))=true by simp;omega,Axc];exact Aq.mk ⟨λh=>by(cases h),λh=>absurd h.1 hl⟩
theorem gX{d:Axw}{c:AxD}(hc:OO c):Aq (Ma d (c,())) λr=>r=true↔AA d/\Ct d c:=by
 unfold Ma;obtain⟨r,hr,hq⟩:=aH d;rw[hr,AwW];cases r with
 | false=>exact Aq.mk ⟨λh=>by(cases h),λh=>by have:=hq.2 h.1;cases this⟩
 | true =>
  have hd:=hq.1 rfl;rw[Axc];refine Aq.bind (aG hc hd) λr hr=>Aq.mk ⟨λh=>⟨hd,hr.1 h⟩,λh=>hr.2 h.2⟩
def Fq(n:Nat)(f:Nat->Bool):Axt:=(List.range n).map f
def W(d:Axw)(v:Nat):Nat:=(dw d v).toNat
def mark(f:Nat->Nat->Bool)(v p:Nat):Nat->Nat->Bool:=λu q=>f u q||(u==v&&q==p)
def M(d:Axw)(x:Nat)(f:Nat->Nat->Bool):AxE:=(List.range d.length).map λv=>Fq (W d v+x) (f v)
theorem Hf(n:Nat)(f:Nat->Bool):(Fq n f).length=n:=by simp[Fq]
theorem Uo{n:Nat}{f:Nat->Bool}{p:Nat}{z:Bool}(h:p<n):(Fq n f).getD p z=f p:=by simp[Fq,List.getD,h]
theorem Pj{n:Nat}{f g:Nat->Bool}(h:∀p,p<n->f p=g p):Fq n f=Fq n g:=List.map_congr_left λp hp=>h p (List.mem_range.1 hp)
theorem XB(n:Nat)(f:Nat->Bool)(p:Nat):(Fq n f).set p true=Fq n λq=>f q||q==p:=by
 apply List.ext_getElem?;intro q;rw[List.getElem?_set];by_cases hq:q<n
 ·by_cases e:p=q
  ·subst e;simp[Fq,hq]
  ·have:¬q=p:=λh=>e h.symm;simp[Fq,hq,e,this]
 ·have h1:(Fq n λq=>f q||q==p)[q]?=none:=by simp[Fq];omega
  have h2:(Fq n f)[q]?=none:=by simp[Fq];omega
  rw[h1];split
  ·rw[if_neg (by rw[Hf];omega)]
  ·exact h2
theorem XA(n:Nat):Fq n (λ_=>false)=List.replicate n false:=by
 apply List.ext_getElem<;>simp[Fq]
theorem P6(d:Axw)(x:Nat)(f:Nat->Nat->Bool):(M d x f).length=d.length:=by simp[M]
theorem Rk{d:Axw}{x:Nat}{f:Nat->Nat->Bool}{v:Nat}{z:Axt}(h:v<d.length):(M d x f).getD v z=Fq (W d v+x) (f v):=by simp[M,List.getD,h]
theorem ZH{d:Axw}{x:Nat}{f:Nat->Nat->Bool}{v p:Nat}{z:Axt}(h:v<d.length):(M d x f).set v (((M d x f).getD v z).set p true)=M d x (mark f v p):=by
 rw[Rk h,XB];apply List.ext_getElem?;intro u;rw[List.getElem?_set];by_cases hu:u<d.length
 ·by_cases e:v=u
  ·subst e;rw[if_pos rfl,if_pos (by rw[P6];exact h)];simp[M,hu,mark,Fq]
  ·have:¬u=v:=λh=>e h.symm;rw[if_neg e];simp only[M,List.getElem?_map,List.getElem?_range hu,Option.map_some];exact congrArg some (Pj λp _=>by simp[mark,this])
 ·have h1:(M d x (mark f v p))[u]?=none:=by simp[M];omega
  rw[h1,if_neg (by omega)];simp[M];omega
theorem Nc{d:Axw}(hd:AA d){v:Nat}(hv:v<d.length):dw d v=(W d v:Int)/\1<=W d v/\W d v<=4096:=by
 have:=zh hd hv;unfold W;omega
end Go.Proofs.X
namespace Go.Proofs.X
open Go Go.Va
set_option maxRecDepth 100000
def C0(c:AxD):Nat->Nat->Bool:=λv p=>(BD c v).contains (p:Int)
def AF(w:Nat)(f:Nat->Bool):Axs:=((List.range w).filter λp=>decide (1<=p)&&f p).map Int.ofNat
def Cc(d:Axw)(f:Nat->Nat->Bool):AxD:=(List.range d.length).map λv=>AF (W d v) (f v)
theorem Yg{w:Nat}{f g:Nat->Bool}(h:∀p,p<w->1<=p->f p=g p):AF w f=AF w g:=by
 unfold AF;congr 1;refine List.filter_congr λp hp=>?_;by_cases h1:1<=p
 ·rw[h p (List.mem_range.1 hp) h1]
 ·simp[h1]
theorem Z0{d:Axw}{f g:Nat->Nat->Bool}(h:∀v p,v<d.length->p<W d v->1<=p->f v p=g v p):Cc d f=Cc d g :=
 List.map_congr_left λv hv=>Yg λp hp h1=>h v p (List.mem_range.1 hv) hp h1
theorem QQ(w:Nat)(f:Nat->Bool)(hw:w<=1):AF w f=[]:=by
 unfold AF;rw[List.map_eq_nil_iff,List.filter_eq_nil_iff];intro p hp;have:=List.mem_range.1 hp;simp;omega
theorem Ul(w:Nat)(f:Nat->Bool)(hw:1<=w):AF (w+1) f=if f w then AF w f++[(w:Int)] else AF w f:=by
 unfold AF;rw[List.range_succ,List.filter_append,List.map_append];cases h:f w<;>simp[hw,h]
theorem RN(w:Nat)(f:Nat->Bool):(AF w f).length<=w:=by
 unfold AF;rw[Aw8];exact Nat.le_trans (List.length_filter_le _ _) (by simp)
theorem Cy{A:Type}(g:Nat->A)(k:Nat):(List.range (k+1)).map g=(List.range k).map g++[g k]:=by rw[List.range_succ,List.map_append];rfl
theorem AhM{x:Int}(h1:0<=x)(h2:x<4611686018427387904):wI x=x:=wrap64 (by omega) (by omega)
theorem Us{l:Axs}{w:Int}(h:S5 l w){x:Int}(hx:x∈l):1<=x/\x<=w-1:=by
 obtain⟨i,hi,rfl⟩:=List.getElem_of_mem hx;have:=h i hi;have e:FX l i=l[i]:=by simp[FX,List.getD,hi]
 exact⟨by have:=this.1;omega,by have:=this.2.1;omega⟩
theorem S1{l:Axs}{i:Nat}(hi:i<l.length)(q:Int):(l.take (i+1)).contains q=((l.take i).contains q||q==FX l i):=by
 rw[AG (z:=0) hi,List.contains_eq_any_beq,List.any_append,List.contains_eq_any_beq];simp[FX]
theorem aM(a b:Nat):((a:Int)==(b:Int))=(a==b):=by
 by_cases h:a=b
 ·subst h;simp
 ·rw[beq_eq_false_iff_ne.2 h,beq_eq_false_iff_ne];omega
theorem Uw{d:Axw}{c:AxD}(hd:AA d)(hc:Ct d c)(hb:OO c):Ii d (c,())=some (M d 1 (C0 c)):=by
 unfold Ii Og;have hdl:=hd.1;rw[Option.bind_eq_some_iff];refine⟨_,?_,rfl⟩;have:=AJ (f:=D5 d (c,())) (λv=>((v:Int),(List.range v).map λu=>Fq (W d u+1) (C0 c u))) (t:=M d 1 (C0 c)) d.length (λv hv=>?_) ?_
 ·exact this
 ·unfold D5 Jj;obtain⟨e0,hw1,hw2⟩:=Nc hd hv;have hp:=hc.2 v hv;have e2:(d.getD v Ab.zero).2.1=(W d v:Int):=e0;simp only[AwX,e2];rw[EE hv,Axc,if_pos (rng hv),AhM (x:=(W d v:Int)+1) (by omega) (by omega),if_pos ⟨rfl,by omega,by omega,by omega,by omega⟩];have hrow:LN d (v:Int) (c,()) ((List.range v).map λu=>Fq (W d u+1) (C0 c u)) 0 (List.replicate ((W d v:Int)+1).toNat false)=some (Fq (W d v+1) (C0 c v)):=by
   unfold LN;have:=AJ (f:=D4 d (v:Int) (c,()) ((List.range v).map λu=>Fq (W d u+1) (C0 c u))) (λi=>((i:Int),Fq (W d v+1) λp=>((BD c v).take i).contains (p:Int))) (t:=Fq (W d v+1) (C0 c v)) (BD c v).length (λi hi=>?_) ?_
   ·have e:List.replicate ((W d v:Int)+1).toNat false=Fq (W d v+1) λp=>((BD c v).take 0).contains (p:Int):=by
      rw[show((W d v:Int)+1).toNat=W d v+1 by omega,<-XA];exact Pj λp _=>by simp
    rw[e];exact this
   ·unfold D4 Ji;have e1:(c.getD v (Ty.zero (.sl (.int .i64))))=BD c v:=rfl;have e3:(BD c v).getD i (Ty.zero (.int .i64))=FX (BD c v) i:=rfl;have hpi:=hp i hi;obtain⟨p,hpp⟩:∃p:Nat,FX (BD c v) i=(p:Int):=⟨(FX (BD c v) i).toNat,by have:=hpi.1;omega⟩;have hpl:p<W d v:=by have:=hpi.2.1;omega
    simp only[AwX,e1,e3,hpp];rw[if_pos (rng (by rw[hc.1];exact hv)),EE hi,Axc,if_pos (rng (by rw[hc.1];exact hv)),if_pos (rng hi),if_pos (by rw[Hf];exact rng (by omega)),AY hi (hb.row v),XB];have e5:(Fq (W d v+1) λq=>((BD c v).take i).contains (q:Int)||q==p)=Fq (W d v+1) λq=>((BD c v).take (i+1)).contains (q:Int):=Pj λq _=>by rw[S1 hi,hpp,aM]
    rw[e5]
   ·unfold D4 Ji;have e1:(c.getD v (Ty.zero (.sl (.int .i64))))=BD c v:=rfl;simp only[AwX,e1];rw[if_pos (rng (by rw[hc.1];exact hv)),Ff,Axb,Aw6 (Aw2 _)];rfl
  rw[hrow,AwW,if_pos (by simp;omega),AY hv (by omega),Cy]
 ·unfold D5 Jj;simp only;rw[Ff,Axb];rfl
theorem Yl{d:Axw}(hd:AA d)(f:Nat->Nat->Bool):Ml (M d 1 f)=some (Cc d f):=by
 unfold Ml Pv;have hdl:=hd.1;rw[Option.bind_eq_some_iff];refine⟨_,?_,rfl⟩;have:=AJ (f:=EX (M d 1 f)) (λv=>((v:Int),(List.range v).map λu=>AF (W d u) (f u))) (t:=Cc d f) d.length (λv hv=>?_) ?_
 ·exact this
 ·unfold EX KL;obtain⟨e0,hw1,hw2⟩:=Nc hd hv;simp only;rw[P6,EE hv,Axc];have hrow:M5 (M d 1 f) (v:Int) ((List.range v).map λu=>AF (W d u) (f u)) 1 []=some (AF (W d v) (f v)):=by
   unfold M5;have:=AJ (f:=EW (M d 1 f) (v:Int) ((List.range v).map λu=>AF (W d u) (f u))) (λi=>(((i+1:Nat):Int),AF (i+1) (f v))) (t:=AF (W d v) (f v)) (W d v-1) (λi hi=>?_) ?_
   ·have e:AF (0+1) (f v)=[]:=QQ _ _ (by omega);rw[<-e];exact this
   ·unfold EW KJ;have hlen:=RN (i+1) (f v);simp only;rw[P6,if_pos (rng hv),AwX,Rk hv,Hf,wrapN (x:=((i+1:Nat):Int)+1) (n:=i+1+1) (by omega) (by omega),EE (show i+1+1<W d v+1 by omega),Axc];have:JV (M d 1 f) (v:Int) ((i+1:Nat):Int) (AF (i+1) (f v)) ((List.range v).map λu=>AF (W d u) (f u))=some (AF (i+1+1) (f v)):=by
     unfold JV;rw[P6,if_pos (rng hv),AwX,Rk hv,Hf,if_pos (rng (by omega)),AwX,Uo (by omega),Ul (i+1) (f v) (by omega)];cases f v (i+1) with
     | true=>rw[Axc,if_pos (by simp;omega)];rfl
     | false=>rfl
    rw[this];rfl
   ·unfold EW KJ;simp only;rw[P6,if_pos (rng hv),AwX,Rk hv,Hf,wrapN (x:=((W d v-1+1:Nat):Int)+1) (n:=W d v+1) (by omega) (by omega),Ff,Axb,show W d v-1+1=W d v by omega]
  rw[hrow,AwW,if_pos (by simp;omega),AY hv (by omega),Cy]
 ·unfold EX KL;simp only;rw[P6,Ff,Axb];rfl
theorem lH {d:Axw} (hd:AA d) {f:Nat->Nat->Bool} (hf:∀v,f v 0=false) {a:List (Axg×Axv)} {c:Axw} {e:Axv} :
    F3 a (d.length:Int) c (M d 0 f) e 0 (List.replicate d.length [])=some (Cc d f):=by
 have hdl:=hd.1;unfold F3;have:=AJ (f:=BO a (d.length:Int) c (M d 0 f) e) (λv=>((v:Int),Bn (λu=>AF (W d u) (f u)) [] d.length v)) (t:=Cc d f) d.length (λv hv=>?_) ?_
 ·rw[<-Jq (λu=>AF (W d u) (f u))];exact this
 ·unfold BO Er;obtain⟨e0,hw1,hw2⟩:=Nc hd hv;simp only;rw[EE hv,Axc,if_pos (by rw[P6];exact rng hv),AwX,Rk hv,Hf];have hrow:F2 (v:Int) (d.length:Int) c (M d 0 f) a e (Fq (W d v+0) (f v)) ((W d v+0:Nat):Int) 0 (Bn (λu=>AF (W d u) (f u)) [] d.length v)=some ((Bn (λu=>AF (W d u) (f u)) [] d.length v).set v (AF (W d v) (f v))):=by
   unfold F2;have:=AJ (f:=BN (v:Int) (d.length:Int) c (M d 0 f) a e (Fq (W d v+0) (f v)) ((W d v+0:Nat):Int)) (λi=>((i:Int),(Bn (λu=>AF (W d u) (f u)) [] d.length v).set v (AF i (f v)))) (t:=(Bn (λu=>AF (W d u) (f u)) [] d.length v).set v (AF (W d v) (f v))) (W d v+0) (λi hi=>?_) ?_
   ·have e1:(Bn (λu=>AF (W d u) (f u)) [] d.length v).set v (AF 0 (f v))=Bn (λu=>AF (W d u) (f u)) [] d.length v:=by
      apply List.ext_getElem?;intro u;rw[List.getElem?_set];split
      ·rename_i h;subst h;rw[EI,if_pos hv];simp[Bn,hv,AF]
      ·rfl
    rw[e1] at this;exact this
   ·unfold BN Ep;have hlen:=RN i (f v);simp only;rw[EE hi,Axc];have:Dr (v:Int) (d.length:Int) (Fq (W d v+0) (f v)) ((W d v+0:Nat):Int) (i:Int) c (M d 0 f) a e ((Bn (λu=>AF (W d u) (f u)) [] d.length v).set v (AF i (f v)))=some ((Bn (λu=>AF (W d u) (f u)) [] d.length v).set v (AF (i+1) (f v))):=by
     unfold Dr F1;have hget:((Bn (λu=>AF (W d u) (f u)) [] d.length v).set v (AF i (f v))).getD v (Ty.zero (.sl (.int .i64)))=AF i (f v):=by
      simp[List.getD,EI,hv]
     rw[Hf,if_pos (rng hi)];simp only[AwX,hget,Aw5,EI,List.set_set];rw[Uo hi];rcases Nat.eq_zero_or_pos i with h0 | h0
     ·subst h0;rw[hf v,Axb];have e1:AF 0 (f v)=AF (0+1) (f v):=by rw[QQ 0 _ (by omega),QQ (0+1) _ (by omega)]
      rw[e1]
     ·rw[Ul _ _ h0];cases f v i with
      | true=>rw[Axc,if_pos (rng hv),if_pos (by simp;omega),if_pos (rng hv),if_pos trivial];rfl
      | false=>rfl
    rw[this,AwW,AY hi (by omega)]
   ·unfold BN Ep;simp only;rw[Ff,Axb];rfl
  rw[hrow,AwW,L8,AY hv (by omega)]
 ·unfold BO Er;simp only;rw[Ff,Axb];have:Bn (λu=>AF (W d u) (f u)) [] d.length d.length=Cc d f:=by
   unfold Bn Cc;exact List.map_congr_left λv hv=>by rw[if_pos (List.mem_range.1 hv)]
  rw[this]
end Go.Proofs.X
namespace Go.Proofs.X
open Go Go.Va
set_option maxRecDepth 100000
def frs(s:Sg):Axt:=(List.range s.w).map (·==0)
def spot(s:Sg)(k:Nat):Axk:=if k=0 then(0,0,0,()) else match s with | .co _=>(2,0,0,())| .va v l _=>(1,(v:Int),((l+k:Nat):Int),())
def spt(s:Sg):Axz:=(List.range s.w).map (spot s)
def Q4(f:List Sg):Axt:=f.flatMap frs
def UA(f:List Sg):Axz:=f.flatMap spt
theorem OT{A:Type}{F:Sg->List A}(hF:∀s,(F s).length=s.w)(f:List Sg):(f.flatMap F).length=AO f:=by
 rw[List.length_flatMap];exact congrArg List.sum (List.map_congr_left λs _=>hF s)
theorem ak(s:Sg):(frs s).length=s.w:=by simp[frs]
theorem bT(s:Sg):(spt s).length=s.w:=by simp[spt]
theorem Sk{A:Type}(F:Sg->List A){f:List Sg}{i:Nat}(hi:i<f.length):(f.take (i+1)).flatMap F=(f.take i).flatMap F++F (f.getD i (.co [])):=by
 rw[AG (z:=.co []) hi,List.flatMap_append];simp
theorem flat_get{A:Type}{F:Sg->List A}(hF:∀s,(F s).length=s.w){f:List Sg}{i k:Nat}{z:A}(hi:i<f.length)(hk:k<(f.getD i (.co [])).w):(f.flatMap F).getD (AO (f.take i)+k) z=(F (f.getD i (.co []))).getD k z:=by
 have e:f.flatMap F=(f.take i).flatMap F++(F (f.getD i (.co []))++(f.drop (i+1)).flatMap F):=by
  rw[<-Aw4,<-Sk F hi,<-List.flatMap_append,List.take_append_drop]
 rw[e];simp only[List.getD];rw[List.getElem?_append_right (by rw[OT hF];omega),OT hF,show AO (f.take i)+k-AO (f.take i)=k by omega,List.getElem?_append_left (by rw[hF];exact hk)]
theorem AaM:∀{f:List Sg} {p:Nat},p<AO f->∃i k,i<f.length/\k<(f.getD i (.co [])).w/\p=AO (f.take i)+k
 | [],p,h=>by simp[AO] at h
 | s::f,p,h=>by
  have e:AO (s::f)=s.w+AO f:=by simp[AO]
  by_cases hp:p<s.w
  ·exact⟨0,p,by simp,by simpa using hp,by simp[AO]⟩
  ·obtain⟨i,k,h1,h2,h3⟩:=AaM (f:=f) (p:=p-s.w) (by omega);refine⟨i+1,k,by simp;omega,by simpa using h2,?_⟩;have:AO ((s::f).take (i+1))=s.w+AO (f.take i):=by simp[AO]
   omega
theorem Sw{f:List Sg}{i:Nat}(hi:i<f.length):AO (f.take i)+(f.getD i (.co [])).w<=AO f:=by
 rw[<-Dy hi];exact Dl f _
theorem L0{A:Type}{g:Nat->A}{n k:Nat}{z:A}(h:k<n):((List.range n).map g).getD k z=g k:=by simp[List.getD,h]
theorem NW {f:List Sg} {i k:Nat} (hi:i<f.length) (hk:k<(f.getD i (.co [])).w) :
    (Ca f).getD (AO (f.take i)+k) (.co false)=(f.getD i (.co [])).bits.getD k (.co false)/\(Q4 f).getD (AO (f.take i)+k) false=(k==0)/\(UA f).getD (AO (f.take i)+k) Af.zero=spot (f.getD i (.co [])) k:=by
 refine⟨flat_get Il hi hk,?_,?_⟩
 ·unfold Q4;rw[flat_get ak hi hk];exact L0 hk
 ·unfold UA;rw[flat_get bT hi hk];exact L0 hk
theorem jl{f:List Sg}(h1:Full f)(hf:∀s∈f,QA s)(hw:AO f<=4096):Gq (fV f)=some (bV (Ca f),Q4 f):=by
 unfold Gq;have hlen:=BW h1;rw[rJ h1 hf hw,AwW];have:M7 (fV f) (bV (Ca f)) 0 []=some (Q4 f):=by
  unfold M7;have:=AJ (f:=EZ (fV f) (bV (Ca f))) (λi=>((i:Int),Q4 (f.take i))) (t:=Q4 f) f.length (λi hi=>?_) ?_
  ·exact this
  ·unfold EZ KO;simp only;rw[Bj,EE hi,Axc];have hwt:=Dl f i;have he:=Sw hi;have hin:M6 (fV f) (i:Int) (bV (Ca f)) 0 (Q4 (f.take i))=some (Q4 (f.take (i+1))):=by
    unfold M6;have:=AJ (f:=EY (fV f) (i:Int) (bV (Ca f))) (λk=>((k:Int),Q4 (f.take i)++(List.range k).map (·==0))) (t:=Q4 (f.take (i+1))) (f.getD i (.co [])).w (λk hk=>?_) ?_
    ·rw[show Q4 (f.take i)=Q4 (f.take i)++(List.range 0).map (·==0) by simp];exact this
    ·unfold EY KN;simp only[AwX,W1 hi,SY];have hl:(Q4 (f.take i)++(List.range k).map (·==0)).length=AO (f.take i)+k:=by
      rw[Aw0,show(Q4 (f.take i)).length=AO (f.take i) from OT ak _];simp
     rw[Bj,if_pos (rng hi),EE hk,Axc,if_pos (by rw[hl];simp;omega),AY hk (by omega),Cy,Aw4,show((k:Int)==0)=(k==0) from aM k 0]
    ·unfold EY KN;simp only[AwX,W1 hi,SY];rw[Bj,if_pos (rng hi),Ff,Axb];unfold Q4;rw[Sk frs hi];rfl
   rw[hin,AwW,AY hi (by omega)]
  ·unfold EZ KO;simp only;rw[Bj,Ff,Axb,Aw6 (Aw2 _)]
 rw[this];rfl
theorem aL{f:List Sg}(h1:Full f)(hf:∀s∈f,QA s)(hw:AO f<=4096):F6 (fV f)=some (UA f):=by
 unfold F6;have hlen:=BW h1;have:Lt (fV f) ((fV f).length:Int) 0 []=some (UA f):=by
  unfold Lt;rw[Bj];have:=AJ (f:=DJ (fV f) (f.length:Int)) (λi=>((i:Int),UA (f.take i))) (t:=UA f) f.length (λi hi=>?_) ?_
  ·exact this
  ·unfold DJ IX;simp only[AwX,W1 hi];have hwt:=Dl f i;have he:=Sw hi;have h1i:=h1 _ (Az (z:=.co []) hi);have hfi:=hf _ (Az (z:=.co []) hi);have hll:(UA (f.take i)).length=AO (f.take i):=OT bT _;rw[Bj,EE hi,Axc,if_pos (rng hi),if_pos (by rw[hll];simp;omega)];have hin:Ls (fV f) (f.length:Int) (i:Int) (FU (f.getD i (.co []))) 1 (UA (f.take i)++[(0,0,0,())])=some (UA (f.take (i+1))):=by
    unfold Ls;have:=AJ (f:=DI (fV f) (f.length:Int) (i:Int) (FU (f.getD i (.co [])))) (λk=>(((k+1:Nat):Int),UA (f.take i)++(List.range (k+1)).map (spot (f.getD i (.co []))))) (t:=UA (f.take (i+1))) ((f.getD i (.co [])).w-1) (λk hk=>?_) ?_
    ·exact this
    ·unfold DI IW;simp only[SY];have hl:(UA (f.take i)++(List.range (k+1)).map (spot (f.getD i (.co [])))).length=AO (f.take i)+(k+1):=by
      rw[Aw0,hll];simp
     rw[EE (show k+1<(f.getD i (.co [])).w by omega),Axc];have:Io ((k+1:Nat):Int) (fV f) (f.length:Int) (i:Int) (UA (f.take i)++(List.range (k+1)).map (spot (f.getD i (.co [])))) (FU (f.getD i (.co [])))=some (UA (f.take i)++(List.range (k+1+1)).map (spot (f.getD i (.co [])))):=by
      unfold Io;rw[Cy _ (k+1),<-Aw4];cases hs:f.getD i (.co []) with
      | co b =>
       rw[hs] at hl;rw[show((FU (.co b)).1==-1)=true from rfl,Axc,if_pos (by rw[hl];simp;omega)];rfl
      | va v l n =>
       rw[hs] at hl hk hfi he;simp only[Sg.w,QA] at hk hfi he;rw[show((FU (.va v l n)).1==-1)=false from beq_eq_false_iff_ne.2 (show(v:Int)≠-1 by omega),Axb,if_pos (by rw[hl];simp;omega)];rw[show wI ((FU (.va v l n)).2.1+((k+1:Nat):Int))=((l+(k+1):Nat):Int) from wrapN (by show(l:Int)+((k+1:Nat):Int)=_;omega) (by omega)];rfl
     rw[this,AwW,wrapN (x:=((k+1:Nat):Int)+1) (n:=k+1+1) (by omega) (by omega)]
    ·unfold DI IW;simp only[SY];rw[show(f.getD i (.co [])).w-1+1=(f.getD i (.co [])).w by omega,Ff,Axb];unfold UA;rw[Sk spt hi];rfl
   rw[hin,AwW,AY hi (by omega)]
  ·unfold DJ IX;simp only;rw[Ff,Axb,Aw6 (Aw2 _)]
 rw[this];rfl
def fst(B:List Bt)(p:Nat):Bool:=(Q4 (norm B)).getD p false
def OC(B:List Bt)(p:Nat):Bt:=B.getD p (.co false)
def rE(h:Nat->Nat->Bool):Bt->Bool
 | .co _=>false
 | .va v a=>h v a
def Xe:Bt->Bool
 | .co _=>false
 | .va _ _=>true
def N2(B:List Bt)(h:Nat->Nat->Bool)(p:Nat):Bool:=fst B p||rE h (OC B p)
theorem aW{d:Axw}{B:List Bt}(hd:AA d)(h:A1 d B):Full (norm B)/\(∀s∈norm B,QA s)/\AO (norm B)=B.length :=
 ⟨B6 B,Pg (λb hb=>ZS (Qb hd (h.2.2 b hb))) h.2.1,Bv B⟩
theorem Aaz{d:Axw}{B:List Bt}(hd:AA d)(h:A1 d B):Gq (fN B)=some (bV B,Q4 (norm B)):=by
 obtain⟨h1,h2,h3⟩:=aW hd h;have:=jl h1 h2 (by rw[h3];exact h.2.1);rw[FT] at this;exact this
theorem Abf{d:Axw}{B:List Bt}(hd:AA d)(h:A1 d B):F6 (fN B)=some (UA (norm B)):=by
 obtain⟨h1,h2,h3⟩:=aW hd h;exact aL h1 h2 (by rw[h3];exact h.2.1)
theorem oQ(B:List Bt):(Q4 (norm B)).length=B.length:=by rw[show(Q4 (norm B)).length=AO (norm B) from OT ak _,Bv]
theorem Wi(B:List Bt):(UA (norm B)).length=B.length:=by rw[show(UA (norm B)).length=AO (norm B) from OT bT _,Bv]
theorem Wu {d:Axw} {B:List Bt} (h:A1 d B) {p:Nat} (hp:p<B.length):∃i k,i<(norm B).length/\k<((norm B).getD i (.co [])).w/\p=AO ((norm B).take i)+k/\Pz d ((norm B).getD i (.co [])) /\
    OC B p=((norm B).getD i (.co [])).bits.getD k (.co false)/\fst B p=(k==0)/\(UA (norm B)).getD p Af.zero=spot ((norm B).getD i (.co [])) k:=by
 obtain⟨i,k,h1,h2,rfl⟩:=AaM (f:=norm B) (p:=p) (by rw[Bv];exact hp);obtain⟨e1,e2,e3⟩:=NW h1 h2;rw[FT] at e1;exact⟨i,k,h1,h2,rfl,(RR h (Az h1)).1,e1,e2,e3⟩
theorem SB{v l n k:Nat}(h:k<n):(Sg.va v l n).bits.getD k (.co false)=.va v (l+k):=by simp[Sg.bits,List.getD,h]
theorem TT{b:Axt}{k:Nat}(h:k<b.length):(Sg.co b).bits.getD k (.co false)=.co (b.getD k false):=by simp[Sg.bits,List.getD,h]
theorem Sz {d:Axw} {B:List Bt} (h:A1 d B) {p:Nat} (hp:p<B.length):(fst B p=true/\(UA (norm B)).getD p Af.zero=(0,0,0,())) \/
    (fst B p=false/\((∃b,OC B p=.co b)/\(UA (norm B)).getD p Af.zero=(2,0,0,())\/∃v a,OC B p=.va v a/\v<d.length/\1<=a/\a<W d v/\(UA (norm B)).getD p Af.zero=(1,(v:Int),(a:Int),()))):=by
 obtain⟨i,k,h1,h2,h3,h4,h5,h6,h7⟩:=Wu h hp;rw[h5,h6,h7];rcases Nat.eq_zero_or_pos k with h0 | h0
 ·subst h0;exact .inl ⟨rfl,rfl⟩
 ·refine .inr ⟨by rw[beq_eq_false_iff_ne];omega,?_⟩;have hk:¬k=0:=by omega
  cases hs:(norm B).getD i (.co []) with
  | co b =>
   rw[hs] at h2;exact .inl ⟨⟨_,TT h2⟩,by simp[spot,hk]⟩
  | va v l n =>
   rw[hs] at h2 h4;simp only[Sg.w,Pz] at h2 h4;exact .inr ⟨v,l+k,SB h2,h4.1,by omega,by unfold W;omega,by simp[spot,hk]⟩
theorem wF{d:Axw}{B:List Bt}(h:A1 d B){p:Nat}(hp:p<B.length):Rf d (OC B p):=h.2.2 _ (Az hp)
theorem NA{d:Axw}(hd:AA d){B:List Bt}(h:A1 d B){f:Nat->Nat->Bool}{p:Nat}(hp:p<B.length):B8 (bV B,Q4 (norm B),()) (M d 1 f) (p:Int)=some (N2 B f p):=by
 unfold B8;have e1:(Q4 (norm B)).getD p (Ty.zero .bool)=fst B p:=rfl;have e2:(bV B).getD p Aa.zero=PZ (OC B p):=Ww hp;simp only[AwX,e1,e2];rw[oQ,Cb,if_pos (rng hp)];unfold N2;cases fst B p with
 | true=>rfl
 | false =>
  rw[Axb,if_pos (rng hp),Bool.false_or];have hb:=wF h hp;cases hbb:OC B p with
  | co b=>rfl
  | va v a =>
   rw[hbb] at hb;obtain⟨h1,h2⟩:=hb;obtain⟨hw,_,_⟩:=Nc hd h1;rw[show(PZ (.va v a)).1=(v:Int) from rfl,show(PZ (.va v a)).2.1=(a:Int) from rfl,show decide ((v:Int)>=0)=true from Aw1 (by omega),Axc,if_pos (rng hp),P6,if_pos (rng h1),if_pos (rng hp),AwX,Rk h1,Hf,if_pos (rng (by omega)),AwX,Uo (by omega)];rfl
theorem jo{d:Axw}(hd:AA d){B:List Bt}(h:A1 d B){f:Nat->Nat->Bool}{p:Nat}(hp:p<B.length):Fa (bV B,Q4 (norm B),()) (M d 1 f) (p:Int)=some (!N2 B f p&&Xe (OC B p)):=by
 unfold Fa;have e2:(bV B).getD p Aa.zero=PZ (OC B p):=Ww hp;rw[NA hd h hp,AwW];simp only[AwX,e2];cases N2 B f p with
 | true=>rfl
 | false =>
  rw[Cb,Bool.not_false,Axc,if_pos (rng hp),Bool.true_and];cases OC B p with
  | co b=>rfl
  | va v a =>
   rw[show decide ((PZ (.va v a)).1>=0)=true from Aw1 (show(v:Int)>=0 by omega)];rfl
end Go.Proofs.X
namespace Go.Proofs.X
open Go Go.Va
set_option maxRecDepth 100000
section
variable {kt vt:Ty}
theorem Zf(hr:∀x:kt.V,A0 kt x x=true)(k:kt.V)(v:vt.V):∀es:List (kt.V×vt.V),midx kt vt (Cq kt vt es k v) k=midx kt vt es k/\Vg kt vt (Cq kt vt es k v) k=true
 | []=>by simp[Cq,midx,Vg,MH,hr]
 | x::es=>by
  obtain⟨h1,h2⟩:=Zf hr k v es;unfold Cq;cases hx:A0 kt k x.1 with
  | true=>simp[midx,Vg,MH,hr,hx]
  | false =>
   simp only[Axb];unfold Vg at h2 ⊢;simp only[midx,MH,hx,Axb];exact⟨by rw[h1],h2⟩
theorem W0(hr:∀x:kt.V,A0 kt x x=true)(k:kt.V)(v:vt.V)(es:List (kt.V×vt.V)):Qf kt vt (Cq kt vt es k v) k (Q9 kt vt es k)=true:=by
 obtain⟨h1,h2⟩:=Zf hr k v es;unfold Qf Q9;rw[h1,h2];simp
theorem Tp(he:∀x y:kt.V,A0 kt x y=true↔x=y)(k k':kt.V)(v:vt.V):∀es:List (kt.V×vt.V),MH kt vt (Cq kt vt es k v) k'=bif A0 kt k' k then some v else MH kt vt es k'
 | []=>by simp[Cq,MH]
 | x::es=>by
  unfold Cq;cases hx:A0 kt k x.1 with
  | true =>
   have:=(he _ _).1 hx;simp only[Axc,MH];rw[<-this];cases A0 kt k' k<;>rfl
  | false =>
   simp only[Axb,MH];rw[Tp he k k' v es];cases h1:A0 kt k' x.1 with
   | false=>rfl
   | true =>
    cases h2:A0 kt k' k with
    | false=>rfl
    | true =>
     have e1:=(he _ _).1 h1;have e2:=(he _ _).1 h2;rw[<-e2,e1] at hx;rw[(he _ _).2 rfl] at hx;cases hx
theorem Zd(he:∀x y:kt.V,A0 kt x y=true↔x=y)(k k':kt.V)(v:vt.V)(es:List (kt.V×vt.V)):BG kt vt (Cq kt vt es k v) k'=bif A0 kt k' k then v else BG kt vt es k':=by
 unfold BG;rw[Tp he];cases A0 kt k' k<;>rfl
end
theorem key2(x y:Axg):A0 Aa x y=true↔x=y:=by
 obtain⟨a,b,_⟩:=x;obtain⟨a',b',_⟩:=y;simp[A0]
theorem Sn(x:Axg):A0 Aa x x=true:=(key2 x x).2 rfl
def pairs(d:Axw):List (Nat×Nat):=(List.range d.length).flatMap λv=>(List.range (W d v)).map λp=>(v,p)
def free(d:Axw)(f:Nat->Nat->Bool):Nat:=(pairs d).countP λx=>!f x.1 x.2
theorem su{d:Axw}{v p:Nat}(hv:v<d.length)(hp:p<W d v):(v,p)∈pairs d :=
 List.mem_flatMap.2 ⟨v,List.mem_range.2 hv,List.mem_map.2 ⟨p,List.mem_range.2 hp,rfl⟩⟩
theorem QG{A:Type}{F:Nat->List A}{m:Nat}:∀{n:Nat},(∀v,v<n->(F v).length<=m)->((List.range n).flatMap F).length<=m*n
 | 0,_=>by simp
 | n+1,h=>by
  rw[List.range_succ,List.flatMap_append,Aw0,Nat.mul_succ];have h1:=QG (n:=n) λv hv=>h v (by omega);have h2:=h n (by omega);simp only[List.flatMap_cons,List.flatMap_nil,List.append_nil];omega
theorem Ada{d:Axw}(hd:AA d)(f:Nat->Nat->Bool):free d f<=245760:=by
 have h1:(pairs d).length<=4096*d.length:=QG λv hv=>by simp;exact(Nc hd hv).2.2
 have h2:=List.countP_le_length (p:=λx:Nat×Nat=>!f x.1 x.2) (l:=pairs d);have:=hd.1;unfold free;omega
theorem UM{A:Type}{q q':A->Bool}:∀{l:List A} {x:A},(∀y,q' y=true->q y=true)->x∈l->q x=true->q' x=false->l.countP q'+1<=l.countP q
 | [],_,_,h,_,_=>by cases h
 | y::l,x,hq,h,h1,h2=>by
  have hle:l.countP q'<=l.countP q:=List.countP_mono_left λy _=>hq y;rw[List.countP_cons,List.countP_cons];rcases List.mem_cons.1 h with e | h
  ·subst e;rw[h1,h2];simp;omega
  ·have:=UM hq h h1 h2;cases hy:q' y with
   | true=>rw[hq y hy];simp;omega
   | false=>simp;split<;>omega
theorem UT{d:Axw}{f:Nat->Nat->Bool}{v p:Nat}(hv:v<d.length)(hp:p<W d v)(h:f v p=false):free d (mark f v p)+1<=free d f :=
 UM (λy hy=>by simp[mark] at hy ⊢;exact hy.1) (su hv hp) (by simp[h]) (by simp[mark])
abbrev SC:Type:=(Nat->Nat->Bool)×Axv
open Classical in
noncomputable def Gs(d:Axw)(s:SC)(v p:Nat):SC:=if 0<p/\p<W d v/\s.1 v p=false then(mark s.1 v p,s.2++[((v:Int),(p:Int),())]) else s
theorem VK {d:Axw} (hd:AA d) {v p:Nat} (hv:v<d.length) {r:Nat->Bool} {t:AxE} {g:Axv} {a:Int} (ht:t.length=d.length) (hr:t.getD v (Ty.zero (.sl .bool))=Fq (W d v) r) (hg:g.length<=1000000) :
    AW a (v:Int) (p:Int) d t g=some (if 0<p/\p<W d v/\r p=false then(d,t.set v ((Fq (W d v) r).set p true),g++[((v:Int),(p:Int),())]) else(d,t,g)):=by
 obtain⟨e0,hw1,hw2⟩:=Nc hd hv;have e2:(d.getD v Ab.zero).2.1=(W d v:Int):=e0;have key:Fj a (v:Int) (p:Int) d t g=some (decide (0<p/\p<W d v/\r p=false)):=by
  unfold Fj;simp only[AwX,e2,hr];rcases Nat.eq_zero_or_pos p with h0 | h0
  ·subst h0;rw[show decide (((0:Nat):Int)>0)=false from rfl,Axb];simp
  ·rw[show decide ((p:Int)>0)=true from Aw1 (by omega),Axc,if_pos (rng hv)];by_cases hp:p<W d v
   ·rw[EE hp,Axc,if_pos (by rw[ht];exact rng hv),if_pos (by rw[Hf];exact rng hp),Uo hp];cases r p<;>simp[h0,hp]
   ·rw[AwZ (by omega:¬(p:Int)<(W d v:Int)),Axb];simp[hp]
 unfold AW;rw[key,AwW];by_cases h:0<p/\p<W d v/\r p=false
 ·rw[Aw1 h,Axc,if_pos h];simp only[AwX,hr];rw[if_pos (by rw[ht];exact rng hv),if_pos (by rw[Hf];omega),if_pos (by simp;omega)]
 ·rw[AwZ h,Axb,if_neg h]
theorem OV{d:Axw}(hd:AA d){v p:Nat}(hv:v<d.length)(s:SC){a:Int}(hg:s.2.length<=1000000):AW a (v:Int) (p:Int) d (M d 0 s.1) s.2=some (d,M d 0 (Gs d s v p).1,(Gs d s v p).2):=by
 rw[VK hd hv (P6 _ _ _) (Rk hv) hg];unfold Gs;by_cases h:0<p/\p<W d v/\s.1 v p=false
 ·rw[if_pos h,if_pos h];have:=ZH (x:=0) (f:=s.1) (p:=p) (z:=[]) hv;rw[Rk hv] at this;rw[<-this];rfl
 ·rw[if_neg h,if_neg h]
structure CI (d:Axw) (f0:Nat->Nat->Bool) (s:SC):Prop where
 le:∀v p,f0 v p=true->s.1 v p=true
 top:∀v p,s.1 v p=true->v<d.length/\1<=p/\p<W d v
 SU:∀x∈s.2,∃v p:Nat,x=((v:Int),(p:Int),())/\s.1 v p=true
 len:s.2.length+free d s.1<=500000
def dW(s:SC):Prop:=∀v p,s.1 v p=true->((v:Int),(p:Int),())∈s.2
def Mr(f g:Nat->Nat->Bool):Prop:=∀v p,f v p=true->g v p=true
def qz(d:Axw)(f:Nat->Nat->Bool)(v p:Nat):Prop:=0<p->p<W d v->f v p=true
theorem qz.mono{d:Axw}{f g:Nat->Nat->Bool}(h:Mr f g){v p:Nat}(hh:qz d f v p):qz d g v p:=λh1 h2=>h v p (hh h1 h2)
theorem Dv{f:Nat->Nat->Bool}{v p u q:Nat}:mark f v p u q=true↔f u q=true\/(u=v/\q=p):=by simp[mark]
theorem Te{d:Axw}(s:SC)(v p:Nat):Mr s.1 (Gs d s v p).1:=λu q h=>by
 unfold Gs;split
 ·exact Dv.2 (.inl h)
 ·exact h
theorem TY{d:Axw}(s:SC)(v p:Nat):qz d (Gs d s v p).1 v p:=λh1 h2=>by
 unfold Gs;split
 ·exact Dv.2 (.inr ⟨rfl,rfl⟩)
 ·rename_i h;cases hs:s.1 v p with
  | true=>rfl
  | false=>exact(h ⟨h1,h2,hs⟩).elim
theorem T0{d:Axw}{s:SC}{v p:Nat}{h:Nat->Nat->Bool}(hu:Mr s.1 h)(hh:qz d h v p):Mr (Gs d s v p).1 h:=λu q hq=>by
 unfold Gs at hq;split at hq
 ·rename_i hc;rcases Dv.1 hq with h1 | ⟨rfl,rfl⟩
  ·exact hu u q h1
  ·exact hh hc.1 hc.2.1
 ·exact hu u q hq
theorem CI.cut{d:Axw}{f0:Nat->Nat->Bool}{s:SC}(h:CI d f0 s){v p:Nat}(hv:v<d.length):CI d f0 (Gs d s v p):=by
 refine⟨λu q hq=>Te s v p u q (h.le u q hq),λu q hq=>?_,λx hx=>?_,?_⟩
 ·unfold Gs at hq;split at hq
  ·rename_i hc;rcases Dv.1 hq with h1 | ⟨rfl,rfl⟩
   ·exact h.top u q h1
   ·exact⟨hv,hc.1,hc.2.1⟩
  ·exact h.top u q hq
 ·unfold Gs at hx ⊢;split at hx
  ·rename_i hc;rw[if_pos hc];rcases List.mem_append.1 hx with hx | hx
   ·obtain⟨u,q,e,h1⟩:=h.SU x hx;exact⟨u,q,e,Dv.2 (.inl h1)⟩
   ·rw[List.mem_singleton] at hx;exact⟨v,p,hx,Dv.2 (.inr ⟨rfl,rfl⟩)⟩
  ·rename_i hc;rw[if_neg hc];exact h.SU x hx
 ·unfold Gs;split
  ·rename_i hc;have:=UT hv hc.2.1 hc.2.2;have:=h.len;simp only[Aw0,List.length_singleton];omega
  ·exact h.len
theorem dW.cut{d:Axw}{s:SC}(h:dW s){v p:Nat}:dW (Gs d s v p):=λu q hq=>by
 unfold Gs at hq ⊢;split
 ·rename_i hc;rw[if_pos hc] at hq;rcases Dv.1 hq with h1 | ⟨rfl,rfl⟩
  ·exact List.mem_append_left _ (h u q h1)
  ·exact List.mem_append_right _ (List.mem_singleton.2 rfl)
 ·rename_i hc;rw[if_neg hc] at hq;exact h u q hq
theorem bn{l:Axs}{w:Int}(h:S5 l w):∀{j i:Nat},i<j->j<l.length->FX l i<FX l j
 | j+1,i,hij,hj=>by
  have h1:=(h (j+1) hj).2.2 (by omega);simp only[Nat.add_sub_cancel] at h1;rcases Aw7 i j with h2 | h2
  ·have:=bn h h2 (by omega);omega
  ·rw[show i=j by omega];exact h1
theorem AaL{l:Axs}{w:Int}(h:S5 l w):∀{i:Nat},i<l.length->((i:Int)+1)<=FX l i
 | 0,hi=>by have:=(h 0 hi).1;omega
 | i+1,hi=>by
  have h1:=AaL h (i:=i) (by omega);have h2:=(h (i+1) hi).2.2 (by omega);simp only[Nat.add_sub_cancel] at h2;omega
theorem PU{l:Axs}{w:Int}(h:S5 l w)(hw:1<=w):(l.length:Int)<=w:=by
 rcases Nat.eq_zero_or_pos l.length with h0 | h0
 ·omega
 ·have h1:=AaL h (i:=l.length-1) (by omega);have h2:=(h (l.length-1) (by omega)).2.1;omega
theorem Abm{l:Axs}{w:Int}(h:S5 l w){i:Nat}(hi:i<l.length):(l.take i).contains (FX l i)=false:=by
 rw[Bool.eq_false_iff];intro hc;have hm:FX l i∈l.take i:=by simpa using hc
 obtain⟨j,hj,e⟩:=List.getElem_of_mem hm;rw[List.length_take] at hj;rw[List.getElem_take] at e;have h1:=bn h (i:=j) (j:=i) (by omega) hi;have h2:FX l j=l[j]'(by omega):=by simp[FX,List.getD,show j<l.length by omega]
 omega
def g0(c:AxD)(n:Nat):Axv:=(List.range n).flatMap λv=>(BD c v).map λp=>((v:Int),p,())
theorem aS{d:Axw}{c:AxD}(hd:AA d)(hc:Ct d c)(hb:OO c):G6 d (c,())=some (0,d,M d 0 (C0 c),[],g0 c d.length):=by
 have hdl:=hd.1;have hgl:∀n,n<=d.length->(g0 c n).length<=4096*n:=λn hn=>QG λv hv=>by
  obtain⟨e0,hw1,hw2⟩:=Nc hd (show v<d.length by omega);have:=PU (hc.2 v (by omega)) (by omega);rw[Aw8];omega
 unfold G6;rw[if_pos ⟨rfl,by omega,by omega,by omega,by omega⟩,AwX];have:IV d (c,()) (d.length:Int) 0 d (List.replicate d.length []) []=some (d,M d 0 (C0 c),g0 c d.length):=by
  unfold IV;have:=AJ (f:=CN d (c,()) (d.length:Int)) (λv=>((v:Int),d,Bn (λu=>Fq (W d u+0) (C0 c u)) [] d.length v,g0 c v)) (t:=(d,M d 0 (C0 c),g0 c d.length)) d.length (λv hv=>?_) ?_
  ·rw[<-Jq (λu=>Fq (W d u+0) (C0 c u))];exact this
  ·unfold CN GQ;obtain⟨e0,hw1,hw2⟩:=Nc hd hv;have hp:=hc.2 v hv;have e1:(c.getD v (Ty.zero (.sl (.int .i64))))=BD c v:=rfl;have e2:(d.getD v Ab.zero).2.1=(W d v:Int):=e0;simp only[AwX,e1,e2];rw[EE hv,Axc,if_pos (rng hv),if_pos (show Ty.row .bool=true/\(0:Int)<=(W d v:Int)/\(W d v:Int)<=(W d v:Int)/\((1:Nat):Int)*(W d v:Int)<=281474976710656/\(W d v:Int)<=9223372036854775807 from⟨rfl,by omega,by omega,by omega,by omega⟩),EI,if_pos (rng hv),if_pos (rng (by rw[hc.1];exact hv))];have hrl:(BD c v).length<=4096:=by have:=PU hp (by omega);omega
   have hin:IU (v:Int) d (d.length:Int) (c,()) (BD c v) ((BD c v).length:Int) 0 d ((Bn (λu=>Fq (W d u+0) (C0 c u)) [] d.length v).set v (List.replicate (W d v) false)) (g0 c v)=some (d,Bn (λu=>Fq (W d u+0) (C0 c u)) [] d.length (v+1),g0 c (v+1)):=by
    unfold IU;have:=AJ (f:=CM (v:Int) d (d.length:Int) (c,()) (BD c v) ((BD c v).length:Int)) (λi=>((i:Int),d,(Bn (λu=>Fq (W d u+0) (C0 c u)) [] d.length v).set v (Fq (W d v) λp=>((BD c v).take i).contains (p:Int)),g0 c v++((BD c v).take i).map λp=>((v:Int),p,()))) (t:=(d,Bn (λu=>Fq (W d u+0) (C0 c u)) [] d.length (v+1),g0 c (v+1))) (BD c v).length (λi hi=>?_) ?_
    ·have e:List.replicate (W d v) false=Fq (W d v) λp=>((BD c v).take 0).contains (p:Int):=by
       rw[<-XA];exact Pj λp _=>by simp
     rw[e,show g0 c v=g0 c v++((BD c v).take 0).map λp=>((v:Int),p,()) by simp];exact this
    ·unfold CM GN;have hpi:=hp i hi;obtain⟨p,hpp⟩:∃p:Nat,FX (BD c v) i=(p:Int):=⟨(FX (BD c v) i).toNat,by have:=hpi.1;omega⟩;have hpl:p<W d v:=by have:=hpi.2.1;omega
     have e3:(BD c v).getD i (Ty.zero (.int .i64))=(p:Int):=hpp;have hno:=Abm hp hi;rw[hpp] at hno;simp only[AwX,e3];rw[EE hi,Axc,if_pos (rng hi),VK hd hv (r:=λp=>((BD c v).take i).contains (p:Int)) (by rw[Aw5,EI]) (by simp[List.getD,EI,hv]) (by have:=hgl v (by omega);rw[Aw0,Aw8,List.length_take];omega),if_pos ⟨by have:=hpi.1;omega,hpl,hno⟩,AwW,AY hi (by omega),List.set_set,XB];have e5:(Fq (W d v) λq=>((BD c v).take i).contains (q:Int)||q==p)=Fq (W d v) λq=>((BD c v).take (i+1)).contains (q:Int):=Pj λq _=>by rw[S1 hi,hpp,aM]
     rw[e5,AG (z:=(0:Int)) hi,List.map_append,<-Aw4,show(BD c v).getD i 0=(p:Int) from hpp];rfl
    ·unfold CM GN;simp only;rw[Ff,Axb,Aw6 (Aw2 _)];have e6:(Bn (λu=>Fq (W d u+0) (C0 c u)) [] d.length v).set v (Fq (W d v) λp=>(BD c v).contains (p:Int))=Bn (λu=>Fq (W d u+0) (C0 c u)) [] d.length (v+1):=L8 _ _;have e7:g0 c v++(BD c v).map (λp=>((v:Int),p,()))=g0 c (v+1):=by
      unfold g0;rw[List.range_succ,List.flatMap_append];simp
     rw[e6,e7]
   rw[hin,AwW,AY hv (by omega)]
  ·unfold CN GQ;simp only;rw[Ff,Axb];have:Bn (λu=>Fq (W d u+0) (C0 c u)) [] d.length d.length=M d 0 (C0 c):=by
    unfold Bn M;exact List.map_congr_left λv hv=>by rw[if_pos (List.mem_range.1 hv)]
   rw[this]
 rw[this];rfl
theorem jW{d:Axw}{c:AxD}(hd:AA d)(hc:Ct d c){v p:Nat}(h:C0 c v p=true):v<d.length/\1<=p/\p<W d v:=by
 have hm:(p:Int)∈BD c v:=by simpa [C0] using h
 have hv:v<d.length:=by
  rw[<-hc.1];rcases Aw7 v c.length with h1 | h1
  ·exact h1
  ·unfold BD at hm;rw[List.getD,List.getElem?_eq_none h1] at hm;cases hm
 obtain⟨e0,hw1,hw2⟩:=Nc hd hv;have:=Us (hc.2 v hv) hm;exact⟨hv,by omega,by omega⟩
theorem Abh{d:Axw}{c:AxD}(hd:AA d)(hc:Ct d c):CI d (C0 c) (C0 c,g0 c d.length)/\dW (C0 c,g0 c d.length):=by
 refine⟨⟨λ_ _ h=>h,λv p h=>jW hd hc h,λx hx=>?_,?_⟩,λv p h=>?_⟩
 ·obtain⟨v,hv,hx⟩:=List.mem_flatMap.1 hx;obtain⟨q,hq,rfl⟩:=List.mem_map.1 hx;have hq1:=Us (hc.2 v (List.mem_range.1 hv)) hq;refine⟨v,q.toNat,by rw[show((q.toNat:Nat):Int)=q by omega],?_⟩
  simp only[C0];rw[show((q.toNat:Nat):Int)=q by omega];simpa using hq
 ·have h1:=Ada hd (C0 c);have h2:(g0 c d.length).length<=4096*d.length:=QG λv hv=>by
   obtain⟨e0,hw1,hw2⟩:=Nc hd hv;have:=PU (hc.2 v hv) (by omega);rw[Aw8];omega
  have:=hd.1;simp only;omega
 ·have:=jW hd hc h;exact List.mem_flatMap.2 ⟨v,List.mem_range.2 this.1,List.mem_map.2 ⟨(p:Int),by simpa [C0] using h,rfl⟩⟩
end Go.Proofs.X
namespace Go.Proofs.X
open Go Go.Va
set_option maxRecDepth 100000
def SR(x y:Nat):Nat->Nat
 | 0=>0
 | 1=>x
 | _=>x+y
def Zb{A:Type}(x y:List A):Nat->List A
 | 0=>[]
 | 1=>x
 | _=>x++y
theorem ZY{a b:Axx}(h0:1<=a.length)(ha:a.length<=100000000)(hb:b.length<=100000000):DR [a,b]=some (a++b):=by
 unfold DR;have hl2:([a,b]:AxG).length=2:=rfl;have h1:Gh [a,b] (([a,b]:AxG).length:Int) 0 0=some (((a.length+b.length:Nat):Int)):=by
  unfold Gh;have:=AJ (f:=BQ [a,b] (([a,b]:AxG).length:Int)) (λk=>((SR a.length b.length k:Int),(k:Int))) (t:=(((a.length+b.length:Nat):Int))) 2 (λk hk=>?_) ?_
  ·exact this
  ·unfold BQ Ey Gg;simp only[AwX];rw[hl2,EE hk,Axc,if_pos (rng hk)]
   match k,hk with
   | 0,_ =>
    simp only[List.getD_cons_zero];rw[show wI ((SR a.length b.length 0:Int)+(a.length:Int))=(a.length:Int) from wrapN (by simp[SR]) (by omega),AwZ (by omega),Axb];rfl
   | 1,_ =>
    simp only[List.getD_cons_succ,List.getD_cons_zero];rw[show wI ((SR a.length b.length 1:Int)+(b.length:Int))=((a.length+b.length:Nat):Int) from wrapN (by simp[SR]) (by omega),AwZ (by omega),Axb];rfl
  ·unfold BQ Ey;simp only;rw[hl2,Ff,Axb];rfl
 rw[h1,AwW,AwZ (by omega),Axb,show wI (((a.length+b.length:Nat):Int)-0)=((a.length+b.length:Nat):Int) from wrapN (by omega) (by omega),show decide (((a.length+b.length:Nat):Int)>0)=true from Aw1 (by omega),Axc,if_pos ⟨by omega,by omega⟩,if_pos ⟨by omega,by omega⟩,List.take_zero];have h2:Gi [a,b] (([a,b]:AxG).length:Int) 0 []=some (a++b):=by
  unfold Gi;have:=AJ (f:=BR [a,b] (([a,b]:AxG).length:Int)) (λk=>((k:Int),Zb a b k)) (t:=a++b) 2 (λk hk=>?_) ?_
  ·exact this
  ·unfold BR Ez;simp only[AwX];rw[hl2,EE hk,Axc,if_pos (rng hk)]
   match k,hk with
   | 0,_ =>
    simp only[List.getD_cons_zero];rw[if_pos (by simp[Zb];omega),show wI (((0:Nat):Int)+1)=((1:Nat):Int) from rfl];rfl
   | 1,_ =>
    simp only[List.getD_cons_succ,List.getD_cons_zero];rw[if_pos (by simp[Zb];omega),show wI (((1:Nat):Int)+1)=((2:Nat):Int) from rfl];rfl
  ·unfold BR Ez;simp only;rw[hl2,Ff,Axb];rfl
 rw[h2];rfl
theorem ZX{a b:Axs}(h0:1<=a.length)(ha:a.length<=100000000)(hb:b.length<=100000000):CP [a,b]=some (a++b):=by
 unfold CP;have hl2:([a,b]:AxD).length=2:=rfl;have h1:EB [a,b] (([a,b]:AxD).length:Int) 0 0=some (((a.length+b.length:Nat):Int)):=by
  unfold EB;have:=AJ (f:=Bp [a,b] (([a,b]:AxD).length:Int)) (λk=>((SR a.length b.length k:Int),(k:Int))) (t:=(((a.length+b.length:Nat):Int))) 2 (λk hk=>?_) ?_
  ·exact this
  ·unfold Bp Dj EA;simp only[AwX];rw[hl2,EE hk,Axc,if_pos (rng hk)]
   match k,hk with
   | 0,_ =>
    simp only[List.getD_cons_zero];rw[show wI ((SR a.length b.length 0:Int)+(a.length:Int))=(a.length:Int) from wrapN (by simp[SR]) (by omega),AwZ (by omega),Axb];rfl
   | 1,_ =>
    simp only[List.getD_cons_succ,List.getD_cons_zero];rw[show wI ((SR a.length b.length 1:Int)+(b.length:Int))=((a.length+b.length:Nat):Int) from wrapN (by simp[SR]) (by omega),AwZ (by omega),Axb];rfl
  ·unfold Bp Dj;simp only;rw[hl2,Ff,Axb];rfl
 rw[h1,AwW,AwZ (by omega),Axb,show wI (((a.length+b.length:Nat):Int)-0)=((a.length+b.length:Nat):Int) from wrapN (by omega) (by omega),show decide (((a.length+b.length:Nat):Int)>0)=true from Aw1 (by omega),Axc,if_pos ⟨by omega,by omega⟩,if_pos ⟨by omega,by omega⟩,List.take_zero];have h2:EC [a,b] (([a,b]:AxD).length:Int) 0 []=some (a++b):=by
  unfold EC;have:=AJ (f:=Bq [a,b] (([a,b]:AxD).length:Int)) (λk=>((k:Int),Zb a b k)) (t:=a++b) 2 (λk hk=>?_) ?_
  ·exact this
  ·unfold Bq Dk;simp only[AwX];rw[hl2,EE hk,Axc,if_pos (rng hk)]
   match k,hk with
   | 0,_ =>
    simp only[List.getD_cons_zero];rw[if_pos (by simp[Zb];omega),show wI (((0:Nat):Int)+1)=((1:Nat):Int) from rfl];rfl
   | 1,_ =>
    simp only[List.getD_cons_succ,List.getD_cons_zero];rw[if_pos (by simp[Zb];omega),show wI (((1:Nat):Int)+1)=((2:Nat):Int) from rfl];rfl
  ·unfold Bq Dk;simp only;rw[hl2,Ff,Axb];rfl
 rw[h2];rfl
abbrev NX:Type:=List (Axg×Axv)
def nk(v p:Nat):Axg:=((v:Int),(p:Int),())
def nx(o:NX)(v p:Nat):Axv:=BG Aa (.sl Aa) o (nk v p)
def lnk(o:NX)(k x:Axg):NX:=Cq Aa (.sl Aa) (Cq Aa (.sl Aa) o k (BG Aa (.sl Aa) o k)) k (BG Aa (.sl Aa) o k++[x])
theorem RI{v p u q:Nat}:nk v p=nk u q↔v=u/\p=q:=by
 unfold nk;constructor
 ·intro h;injection h with h1 h2;injection h2 with h2 _;omega
 ·rintro⟨rfl,rfl⟩;rfl
theorem Aaw(o:NX)(k x:Axg)(v p:Nat):nx (lnk o k x) v p=bif A0 Aa (nk v p) k then BG Aa (.sl Aa) o k++[x] else nx o v p:=by
 unfold nx lnk;rw[Zd key2,Zd key2];cases A0 Aa (nk v p) k<;>rfl
theorem QN{o:NX}{k x:Axg}{v p:Nat}{y:Axg}:y∈nx (lnk o k x) v p↔y∈nx o v p\/(nk v p=k/\y=x):=by
 rw[Aaw];cases hk:A0 Aa (nk v p) k with
 | true =>
  have e:=(key2 _ _).1 hk;rw[Axc,List.mem_append,List.mem_singleton];simp only[e,true_and];unfold nx;rw[e]
 | false =>
  have e:nk v p≠k:=λe=>by rw[(key2 _ _).2 e] at hk;cases hk
  simp[e]
theorem lU{o:NX}{k x:Axg}{v p N:Nat}(h:∀v p,(nx o v p).length<=N):(nx (lnk o k x) v p).length<=N+1:=by
 rw[Aaw];cases hk:A0 Aa (nk v p) k with
 | true =>
  have e:=(key2 _ _).1 hk;have:=h v p;unfold nx at this;rw[e] at this;rw[Axc,Aw0,List.length_singleton];omega
 | false=>rw[Axb];have:=h v p;omega
theorem Aab {o:NX} {a:Int} {b c:Axz} {g:Int} {i:Axw} {dd:List (Axx×Axx×Unit)} {j:AxE} {l:Axv} {v p u q:Nat} (h:(nx o v p).length<=1000000) :
    CK a b c g i dd j o l (v:Int) (p:Int) (u:Int) (q:Int)=some (lnk o (nk v p) (nk u q)):=by
 unfold CK;have h':(BG Aa (.sl Aa) o ((v:Int),(p:Int),())).length<=1000000:=h;rw[if_pos (by simp;omega),W0 Sn,Axc,Sn,Axc];rfl
theorem Aac {o:NX} {a:Int} {b c:Axz} {g:Int} {i:Axw} {dd:List (Axx×Axx×Unit)} {j:AxE} {l:Axv} {v p u q:Nat} (h:(nx o v p).length<=1000000) :
    CL a b c g i dd j o l (u:Int) (q:Int) (v:Int) (p:Int)=some (lnk o (nk v p) (nk u q)):=by
 unfold CL;have h':(BG Aa (.sl Aa) o ((v:Int),(p:Int),())).length<=1000000:=h;rw[if_pos (by simp;omega),W0 Sn,Axc,Sn,Axc];rfl
def Nk(d:Axw)(h:Nat->Nat->Bool):Sg->Prop
 | .co _=>True
 | .va v l n=>qz d h v l/\qz d h v (l+n)
def SP(B1 B2:List Bt)(h:Nat->Nat->Bool):Prop:=∀p,1<=p->p<B1.length->(N2 B1 h p=true->Xe (OC B2 p)=true->N2 B2 h p=true)/\(N2 B2 h p=true->Xe (OC B1 p)=true->N2 B1 h p=true)
def qB(d:Axw)(B1 B2:List Bt)(h:Nat->Nat->Bool):Prop:=(∀s∈norm B1++norm B2,Nk d h s)/\SP B1 B2 h
inductive R3 (d:Axw) (B1 B2:List Bt) (p:Nat) (s:SC) (o:NX):SC->NX->Prop
 | one (v a:Nat):fst B1 p=true->fst B2 p=false->OC B2 p=.va v a->v<d.length->1<=a->a<W d v->R3 d B1 B2 p s o (Gs d s v a) o
 | two (v a:Nat):fst B2 p=true->fst B1 p=false->OC B1 p=.va v a->v<d.length->1<=a->a<W d v->R3 d B1 B2 p s o (Gs d s v a) o
 | both (v a u b:Nat):fst B1 p=false->fst B2 p=false->OC B1 p=.va v a->OC B2 p=.va u b->v<d.length->u<d.length->R3 d B1 B2 p s o s (lnk (lnk o (nk v a) (nk u b)) (nk u b) (nk v a))
 | none:(fst B1 p=true/\fst B2 p=true\/(∃b,OC B1 p=.co b/\fst B1 p=false)\/∃b,OC B2 p=.co b/\fst B2 p=false)->R3 d B1 B2 p s o s o
theorem AhA {d:Axw} (hd:AA d) {B1 B2:List Bt} (h1:A1 d B1) (h2:A1 d B2) (hl:B1.length=B2.length) {p:Nat} (hp:p<B1.length) {s:SC} {o:NX} (hs:s.2.length<=1000000) (hn:∀v p,(nx o v p).length<=900000) {a:Int} {dd:List (Axx×Axx×Unit)} :
    ∃s' o',Dt a (UA (norm B1)) (UA (norm B2)) (p:Int) d dd (M d 0 s.1) o s.2=some (d,M d 0 s'.1,o',s'.2)/\R3 d B1 B2 p s o s' o':=by
 unfold Dt GL N8;rw[Wi,Wi,if_pos (rng hp),if_pos (rng (by omega)),AwW];simp only[AwX];rcases Sz h1 hp with ⟨f1,e1⟩| ⟨f1,⟨⟨b1,c1⟩,e1⟩| ⟨v,x,c1,hv,hx1,hx2,e1⟩⟩<;>rcases Sz h2 (show p<B2.length by omega) with ⟨f2,e2⟩| ⟨f2,⟨⟨b2,c2⟩,e2⟩| ⟨u,y,c2,hu,hy1,hy2,e2⟩⟩<;>rw[e1,e2]
 ·exact⟨s,o,rfl,.none (.inl ⟨f1,f2⟩)⟩
 ·exact⟨s,o,rfl,.none (.inr (.inr ⟨b2,c2,f2⟩))⟩
 ·refine⟨Gs d s u y,o,?_,.one u y f1 f2 c2 hu hy1 hy2⟩;show(AW a (u:Int) (y:Int) d (M d 0 s.1) s.2).bind _=_;rw[OV hd hu s hs];rfl
 ·exact⟨s,o,rfl,.none (.inr (.inl ⟨b1,c1,f1⟩))⟩
 ·exact⟨s,o,rfl,.none (.inr (.inl ⟨b1,c1,f1⟩))⟩
 ·exact⟨s,o,rfl,.none (.inr (.inl ⟨b1,c1,f1⟩))⟩
 ·refine⟨Gs d s v x,o,?_,.two v x f2 f1 c1 hv hx1 hx2⟩;show(AW a (v:Int) (x:Int) d (M d 0 s.1) s.2).bind _=_;rw[OV hd hv s hs];rfl
 ·exact⟨s,o,rfl,.none (.inr (.inr ⟨b2,c2,f2⟩))⟩
 ·refine⟨s,lnk (lnk o (nk v x) (nk u y)) (nk u y) (nk v x),?_,.both v x u y f1 f2 c1 c2 hv hu⟩;show(CK a _ _ _ d dd _ o _ (v:Int) (x:Int) (u:Int) (y:Int)).bind (λo=>(CL a _ _ _ d dd _ o _ (v:Int) (x:Int) (u:Int) (y:Int)).bind _)=_;rw[Aab (by have:=hn v x;omega),AwW,Aac (by have:=lU (k:=nk v x) (x:=nk u y) (v:=u) (p:=y) hn;omega),AwW]
def NJ(d:Axw)(h:Nat->Nat->Bool)(o:NX):Prop:=∀v p u q:Nat,nk u q∈nx o v p->h v p=true->qz d h u q
def NV(d:Axw)(o:NX):Prop:=∀v p x,x∈nx o v p->∃u q:Nat,x=nk u q/\u<d.length
def Q2(B1 B2:List Bt)(f:Nat->Nat->Bool)(o:NX)(p:Nat):Prop :=
 (fst B1 p=true->fst B2 p=false->∀v a,OC B2 p=.va v a->f v a=true)/\(fst B2 p=true->fst B1 p=false->∀v a,OC B1 p=.va v a->f v a=true) /\
 (fst B1 p=false->fst B2 p=false->∀v a u b,OC B1 p=.va v a->OC B2 p=.va u b->nk u b∈nx o v a/\nk v a∈nx o u b)
theorem Q2.mono{B1 B2:List Bt}{f f':Nat->Nat->Bool}{o o':NX}{p:Nat}(h:Q2 B1 B2 f o p)(hf:Mr f f')(ho:∀v p x,x∈nx o v p->x∈nx o' v p):Q2 B1 B2 f' o' p :=
 ⟨λa b v x c=>hf v x (h.1 a b v x c),λa b v x c=>hf v x (h.2.1 a b v x c),λa b v x u y c e=>⟨ho _ _ _ (h.2.2 a b v x u y c e).1,ho _ _ _ (h.2.2 a b v x u y c e).2⟩⟩
structure LI (d:Axw) (f0:Nat->Nat->Bool) (s:SC) (o:NX) (N:Nat):Prop where
 ci:CI d f0 s
 todo:dW s
 nv:NV d o
 nl:∀v p,(nx o v p).length<=N
theorem Adz {d:Axw} {B1 B2:List Bt} {p:Nat} {s s':SC} {o o':NX} {f0:Nat->Nat->Bool} {N:Nat} (hp1:1<=p) (hp:p<B1.length) (h:LI d f0 s o N) (st:R3 d B1 B2 p s o s' o') :
    LI d f0 s' o' (N+2)/\Mr s.1 s'.1/\(∀v p x,x∈nx o v p->x∈nx o' v p)/\Q2 B1 B2 s'.1 o' p/\∀h,SP B1 B2 h->Mr s.1 h->NJ d h o->Mr s'.1 h/\NJ d h o':=by
 have ct1:∀{h:Nat->Nat->Bool},fst B1 p=true->N2 B1 h p=true:=λe=>by simp[N2,e]
 have ct2:∀{h:Nat->Nat->Bool},fst B2 p=true->N2 B2 h p=true:=λe=>by simp[N2,e]
 have no1:∀{h:Nat->Nat->Bool} {v a:Nat},fst B1 p=false->OC B1 p=.va v a->N2 B1 h p=h v a:=λe c=>by simp[N2,e,c,rE]
 have no2:∀{h:Nat->Nat->Bool} {v a:Nat},fst B2 p=false->OC B2 p=.va v a->N2 B2 h p=h v a:=λe c=>by simp[N2,e,c,rE]
 have nl2:∀v p,(nx o v p).length<=N+2:=λv p=>by have:=h.nl v p;omega
 cases st with
 | one v a f1 f2 c2 hv ha1 ha2 =>
  refine⟨⟨h.ci.cut hv,h.todo.cut,h.nv,nl2⟩,Te s v a,λ_ _ _ hx=>hx,⟨λ_ _ u b c=>?_,λe _=>(by rw[f2] at e;cases e),λe=>(by rw[f1] at e;cases e)⟩,λg hg hu hj=>⟨T0 hu λ_ _=>?_,hj⟩⟩
  ·rw[c2] at c;injection c with e1 e2;subst e1;subst e2;exact TY s v a ha1 ha2
  ·have:=(hg p hp1 hp).1 (ct1 f1) (by rw[c2];rfl);rwa [no2 f2 c2] at this
 | two v a f2 f1 c1 hv ha1 ha2 =>
  refine⟨⟨h.ci.cut hv,h.todo.cut,h.nv,nl2⟩,Te s v a,λ_ _ _ hx=>hx,⟨λe=>(by rw[f1] at e;cases e),λ_ _ u b c=>?_,λ_ e=>(by rw[f2] at e;cases e)⟩,λg hg hu hj=>⟨T0 hu λ_ _=>?_,hj⟩⟩
  ·rw[c1] at c;injection c with e1 e2;subst e1;subst e2;exact TY s v a ha1 ha2
  ·have:=(hg p hp1 hp).2 (ct2 f2) (by rw[c1];rfl);rwa [no1 f1 c1] at this
 | both v a u b f1 f2 c1 c2 hv hu =>
  refine⟨⟨h.ci,h.todo,λw q x hx=>?_,λw q=>?_⟩,λ_ _ h=>h,λw q x hx=>QN.2 (.inl (QN.2 (.inl hx))),⟨λe=>(by rw[f1] at e;cases e),λe=>(by rw[f2] at e;cases e),λ_ _ v' a' u' b' e1 e2=>?_⟩,λg hg hle hj=>⟨hle,λw q w' q' hm hh=>?_⟩⟩
  ·rcases QN.1 hx with hx | ⟨_,rfl⟩
   ·rcases QN.1 hx with hx | ⟨_,rfl⟩
    ·exact h.nv w q x hx
    ·exact⟨u,b,rfl,hu⟩
   ·exact⟨v,a,rfl,hv⟩
  ·exact lU λw q=>lU h.nl
  ·rw[c1] at e1;injection e1 with q1 q2;subst q1;subst q2;rw[c2] at e2;injection e2 with q1 q2;subst q1;subst q2;exact⟨QN.2 (.inl (QN.2 (.inr ⟨rfl,rfl⟩))),QN.2 (.inr ⟨rfl,rfl⟩)⟩
  ·have hs:=hg p hp1 hp;rw[no1 f1 c1,no2 f2 c2] at hs;rcases QN.1 hm with hm | ⟨e1,e2⟩
   ·rcases QN.1 hm with hm | ⟨e1,e2⟩
    ·exact hj w q w' q' hm hh
    ·obtain⟨rfl,rfl⟩:=RI.1 e1;obtain⟨rfl,rfl⟩:=RI.1 e2;exact λ_ _=>hs.1 hh (by rw[c2];rfl)
   ·obtain⟨rfl,rfl⟩:=RI.1 e1;obtain⟨rfl,rfl⟩:=RI.1 e2;exact λ_ _=>hs.2 hh (by rw[c1];rfl)
 | none hc =>
  refine⟨⟨h.ci,h.todo,h.nv,nl2⟩,λ_ _ h=>h,λ_ _ _ hx=>hx,⟨λe1 e2 v a c=>?_,λe1 e2 v a c=>?_,λe1 e2 v a u b c c'=>?_⟩,λg _ hu hj=>⟨hu,hj⟩⟩
  ·rcases hc with ⟨_,q⟩| ⟨_,_,q⟩| ⟨_,q,_⟩
   ·rw[q] at e2;cases e2
   ·rw[q] at e1;cases e1
   ·rw[q] at c;cases c
  ·rcases hc with ⟨q,_⟩| ⟨_,q,_⟩| ⟨_,_,q⟩
   ·rw[q] at e2;cases e2
   ·rw[q] at c;cases c
   ·rw[q] at e1;cases e1
  ·rcases hc with ⟨q,_⟩| ⟨_,q,_⟩| ⟨_,q,_⟩
   ·rw[q] at e1;cases e1
   ·rw[q] at c;cases c
   ·rw[q] at c';cases c'
end Go.Proofs.X
namespace Go.Proofs.X
open Go Go.Va
set_option maxRecDepth 100000
noncomputable def Qe(d:Axw)(s:SC):Sg->SC
 | .co _=>s
 | .va v l n=>Gs d (Gs d s v l) v (l+n)
theorem WZ {d:Axw} {f0:Nat->Nat->Bool}:∀(fs:List Sg) (s:SC),(∀x∈fs,Pz d x)->CI d f0 s->dW s->CI d f0 (fs.foldl (Qe d) s)/\dW (fs.foldl (Qe d) s)/\Mr s.1 (fs.foldl (Qe d) s).1/\(∀x∈fs,Nk d (fs.foldl (Qe d) s).1 x) /\
    ∀h,(∀x∈fs,Nk d h x)->Mr s.1 h->Mr (fs.foldl (Qe d) s).1 h
 | [],s,_,h1,h2=>⟨h1,h2,λ_ _ h=>h,λx hx=>(by cases hx),λ_ _ h=>h⟩
 | x::fs,s,hin,h1,h2=>by
  have key:CI d f0 (Qe d s x)/\dW (Qe d s x)/\Mr s.1 (Qe d s x).1/\Nk d (Qe d s x).1 x/\∀h,Nk d h x->Mr s.1 h->Mr (Qe d s x).1 h:=by
   cases x with
   | co b=>exact⟨h1,h2,λ_ _ h=>h,trivial,λ_ _ h=>h⟩
   | va v l n =>
    have hv:=(hin _ List.mem_cons_self).1;exact⟨(h1.cut hv).cut hv,h2.cut.cut,λu q h=>Te _ v (l+n) u q (Te s v l u q h),⟨(TY s v l).mono (Te _ v (l+n)),TY _ v (l+n)⟩,λh hh hs=>T0 (T0 hs hh.1) hh.2⟩
  obtain⟨k1,k2,k3,k4,k5⟩:=key;obtain⟨i1,i2,i3,i4,i5⟩:=WZ fs (Qe d s x) (λy hy=>hin y (List.mem_cons_of_mem _ hy)) k1 k2;refine⟨i1,i2,λu q h=>i3 u q (k3 u q h),λy hy=>?_,λh hh hs=>i5 h (λy hy=>hh y (List.mem_cons_of_mem _ hy)) (k5 h (hh x List.mem_cons_self) hs)⟩;rcases List.mem_cons.1 hy with rfl | hy
  ·cases y with
   | co b=>trivial
   | va v l n=>exact⟨k4.1.mono i3,k4.2.mono i3⟩
  ·exact i4 y hy
theorem Aaa {d:Axw} (hd:AA d) {fs:List Sg} {i:Nat} (hi:i<fs.length) (hin:Pz d (fs.getD i (.co []))) {s:SC} (h1:s.2.length<=900000) {a o1:Int} {x y:Axx} {dd:List (Axx×Axx×Unit)} {o:NX} :
    Ej a x y o1 (i:Int) d dd (M d 0 s.1) o (fV fs) s.2=some (d,M d 0 (Qe d s (fs.getD i (.co []))).1,(Qe d s (fs.getD i (.co []))).2):=by
 unfold Ej;simp only[AwX,W1 hi];rw[Bj,if_pos (rng hi)];cases hs:fs.getD i (.co []) with
 | co b=>rfl
 | va v l n =>
  rw[hs] at hin;obtain⟨hv,hn,hw⟩:=hin;obtain⟨e0,hw1,hw2⟩:=Nc hd hv;have hle:(Gs d s v l).2.length<=s.2.length+1:=by unfold Gs;split<;>simp
  rw[show decide ((FU (.va v l n)).1>=0)=true from Aw1 (show(v:Int)>=0 by omega),Axc];have e1:AW a (FU (.va v l n)).1 (FU (.va v l n)).2.1 d (M d 0 s.1) s.2=some (d,M d 0 (Gs d s v l).1,(Gs d s v l).2):=OV hd hv s (by omega);have e2:wI ((FU (.va v l n)).2.1+(FU (.va v l n)).2.2.1)=((l+n:Nat):Int):=wrapN (show(l:Int)+(n:Int)=_ by omega) (by omega);have e3:AW a (FU (.va v l n)).1 ((l+n:Nat):Int) d (M d 0 (Gs d s v l).1) (Gs d s v l).2=some (d,M d 0 (Gs d (Gs d s v l) v (l+n)).1,(Gs d (Gs d s v l) v (l+n)).2):=OV hd hv _ (by omega);rw[e1,AwW,e2,e3];rfl
theorem Adq {d:Axw} (hd:AA d) {B1 B2:List Bt} (h1:A1 d B1) (h2:A1 d B2) (hl:B1.length=B2.length) {f0:Nat->Nat->Bool} {s:SC} {o:NX} {N:Nat} (hI:LI d f0 s o N) (hN:N<=800000) {a:Int} {dd:List (Axx×Axx×Unit)} :
    ∃s' o',EK a (fN B1) (fN B2) d dd (M d 0 s.1) o s.2=some (d,dd,M d 0 s'.1,o',s'.2)/\LI d f0 s' o' (N+8192)/\Mr s.1 s'.1/\(∀v p x,x∈nx o v p->x∈nx o' v p)/\(∀x∈norm B1++norm B2,Nk d s'.1 x)/\(∀p,1<=p->p<B1.length->Q2 B1 B2 s'.1 o' p) /\
     ∀h,qB d B1 B2 h->Mr s.1 h->NJ d h o->Mr s'.1 h/\NJ d h o':=by
 unfold EK;have hn1:(fN B1).length<=4096/\(fN B2).length<=4096/\1<=(fN B1).length:=by
  unfold fN;rw[Bj,Bj];have a1:=BW (B6 B1);have a2:=BW (B6 B2);rw[Bv] at a1 a2;have:=h1.1;have:=h1.2.1;have:=h2.2.1;refine⟨by omega,by omega,?_⟩;rcases Nat.eq_zero_or_pos (norm B1).length with h0 | h0
  ·have e:norm B1=[]:=List.eq_nil_of_length_eq_zero h0;have:=Bv B1;rw[e] at this;simp[AO] at this;omega
  ·omega
 rw[ZY hn1.2.2 (by omega) (by omega),AwW];have efs:fN B1++fN B2=fV (norm B1++norm B2):=(L6 _ _).symm;rw[efs];have gT:∀x∈norm B1++norm B2,Pz d x:=λx hx=>by
  rcases List.mem_append.1 hx with hx | hx
  ·exact(RR h1 hx).1
  ·exact(RR h2 hx).1
 have hfl:(norm B1++norm B2).length<=8192:=by
  have:=hn1.1;have:=hn1.2.1;unfold fN at *;rw[Bj] at *;rw[Aw0];omega
 have hl2:GK a (fN B1) (fN B2) dd o (fV (norm B1++norm B2)) ((fV (norm B1++norm B2)).length:Int) 0 d (M d 0 s.1) s.2=some (d,M d 0 ((norm B1++norm B2).foldl (Qe d) s).1,((norm B1++norm B2).foldl (Qe d) s).2):=by
  unfold GK;generalize norm B1++norm B2=fs at *;rw[Bj];have:=AJ (f:=BZ a (fN B1) (fN B2) dd o (fV fs) (fs.length:Int)) (λk=>((k:Int),d,M d 0 ((fs.take k).foldl (Qe d) s).1,((fs.take k).foldl (Qe d) s).2)) (t:=(d,M d 0 (fs.foldl (Qe d) s).1,(fs.foldl (Qe d) s).2)) fs.length (λk hk=>?_) ?_
  ·exact this
  ·unfold BZ FC;simp only;have hci:=(WZ (fs.take k) s (λx hx=>gT x (List.mem_of_mem_take hx)) hI.ci hI.todo).1;rw[EE hk,Axc,Aaa hd hk (gT _ (Az hk)) (by have:=hci.len;omega),AwW,AY hk (by omega),AG (z:=.co []) hk,List.foldl_append];rfl
  ·unfold BZ FC;simp only;rw[Ff,Axb,Aw6 (Aw2 _)]
 rw[hl2,AwW,Abf hd h1,AwW,Abf hd h2,AwW];obtain⟨i1,i2,i3,i4,i5⟩:=WZ (norm B1++norm B2) s gT hI.ci hI.todo;generalize (norm B1++norm B2).foldl (Qe d) s=s1 at *;have hloop:Aq (F4 a (UA (norm B1)) (UA (norm B2)) dd 1 d (M d 0 s1.1) o s1.2) λr=>∃s' o',r=(d,M d 0 s'.1,o',s'.2)/\LI d f0 s' o' (N+2*(B1.length-1))/\Mr s1.1 s'.1/\(∀v p x,x∈nx o v p->x∈nx o' v p)/\(∀p,1<=p->p<B1.length-1+1->Q2 B1 B2 s'.1 o' p) /\
     ∀h,SP B1 B2 h->Mr s1.1 h->NJ d h o->Mr s'.1 h/\NJ d h o':=by
  unfold F4;have:=Bd (f:=BP a (UA (norm B1)) (UA (norm B2)) dd) (λk (x:SC×NX)=>(((k+1:Nat):Int),d,M d 0 x.1.1,x.2,x.1.2)) (B1.length-1)
   (λk x=>LI d f0 x.1 x.2 (N+2*k)/\Mr s1.1 x.1.1/\(∀v p y,y∈nx o v p->y∈nx x.2 v p)/\(∀p,1<=p->p<k+1->Q2 B1 B2 x.1.1 x.2 p)/\∀h,SP B1 B2 h->Mr s1.1 h->NJ d h o->Mr x.1.1 h/\NJ d h x.2)
   (Q:=λr=>∃s' o',r=(d,M d 0 s'.1,o',s'.2)/\LI d f0 s' o' (N+2*(B1.length-1))/\Mr s1.1 s'.1/\(∀v p x,x∈nx o v p->x∈nx o' v p)/\(∀p,1<=p->p<B1.length-1+1->Q2 B1 B2 s'.1 o' p)/\∀h,SP B1 B2 h->Mr s1.1 h->NJ d h o->Mr s'.1 h/\NJ d h o')
   (λk x hk hx=>?_) (λx hx=>?_) (s0:=(s1,o)) ⟨⟨i1,i2,hI.nv,λv p=>hI.nl v p⟩,λ_ _ h=>h,λ_ _ _ h=>h,λp h1 h2=>by omega,λh _ hu hj=>⟨hu,hj⟩⟩
  ·exact this
  ·obtain⟨j1,j2,j3,j4,j5⟩:=hx;have hb:=h1.2.1;unfold BP Es;simp only;obtain⟨s',o',e1,st⟩:=AhA hd h1 h2 hl (show k+1<B1.length by omega) (s:=x.1) (o:=x.2) (by have:=j1.ci.len;omega) (λv p=>by have:=j1.nl v p;omega) (a:=a) (dd:=dd);obtain⟨k1,k2,k3,k4,k5⟩:=Adz (by omega) (show k+1<B1.length by omega) j1 st;rw[Wi,EE (show k+1<B1.length by omega),Axc,e1,AwW,wrapN (x:=((k+1:Nat):Int)+1) (n:=k+1+1) (by omega) (by omega)];refine Aq.mk ⟨(s',o'),rfl,k1,λu q h=>k2 u q (j2 u q h),λv p y hy=>k3 v p y (j3 v p y hy),λp hp1 hp2=>?_,λh hs hu hj=>?_⟩
   ·rcases Aw7 p (k+1) with hlt | hge
    ·exact(j4 p hp1 hlt).mono k2 k3
    ·rw[show p=k+1 by omega];exact k4
   ·obtain⟨q1,q2⟩:=j5 h hs hu hj;exact k5 h hs q1 q2
  ·unfold BP Es;simp only;have:=h1.1;rw[Wi,show B1.length-1+1=B1.length by omega,Ff,Axb];refine Aq.mk ⟨x.1,x.2,rfl,hx.1,hx.2.1,hx.2.2.1,?_,hx.2.2.2.2⟩;have:=hx.2.2.2.1;rwa [show B1.length-1+1=B1.length by omega] at this
 obtain⟨r,hr,s',o',rfl,j1,j2,j3,j4,j5⟩:=hloop;rw[hr,AwW];have hb:=h1.2.1;have hb1:=h1.1;refine⟨s',o',rfl,⟨j1.ci,j1.todo,j1.nv,λv p=>by have:=j1.nl v p;omega⟩,λu q h=>j2 u q (i3 u q h),j3,λx hx=>?_,λp hp1 hp2=>j4 p hp1 (by omega),λh hs hu hj=>j5 h hs.2 (i5 h hs.1 hu) hj⟩;cases x with
 | co b=>trivial
 | va v l n=>exact⟨(i4 _ hx).1.mono j2,(i4 _ hx).2.mono j2⟩
abbrev vk:Type:=Axx×Axx×Unit
abbrev AdX:vk:=([],[],())
noncomputable def PV(d:Axw)(l:AxA)(i:Nat):vk:=((EF d (lS l i)).2,(EF d (lT l i)).2,())
theorem SQ{d:Axw}{l:AxA}(hd:AA d)(hl:∀x∈l,TH x)(hp:Rj d l):Aq (LS d l) λr=>(r.1=true/\KR d l/\r.2=(List.range l.length).map (PV d l))\/(r.1=false/\¬KR d l):=by
 unfold LS;have hlen:=hp.1;rw[if_pos ⟨rfl,by omega,by omega,by omega,by omega⟩,AwX];refine Aq.bind (P:=λt=>(∃x,t=.inl x/\¬KR d l)\/(t=.inr ((List.range l.length).map (PV d l))/\KR d l)) ?_ λt ht=>?_
 ·unfold P3;have z0:∀n,Bn (PV d l) (AdX) n 0=List.replicate n (([]:Axx),([]:Axx),()):=λn=>Jq _ _ _;refine FW (λm (x:Int×List vk)=>∃k:Nat,k<=l.length/\m=l.length-k/\x=((k:Int),Bn (PV d l) (AdX) l.length k)/\∀i,i<k->kF d l i) (λm x hI=>?_) l.length _ ⟨0,Nat.zero_le _,rfl,by rw[z0];rfl,λi hi=>by omega⟩;obtain⟨k,hk,rfl,rfl,h3⟩:=hI;unfold Lr N5 N8;simp only;rcases Aw7 k l.length with h | h
  ·have hB:=hl _ (Az (z :=Ag.zero) h);have hlit:=hp.2 k h;obtain⟨ws,hw⟩:=QZ hlit.2.2.1;obtain⟨ws',hw'⟩:=QZ (show 0<=GG d (lT l k) by rw[hlit.2.2.2];exact hlit.2.2.1);have e1:Et d (l.getD k Ag.zero).2.2.1=some (EF d (lS l k)):=RE hd hB.1 hw;have e2:Et d (l.getD k Ag.zero).2.2.2.1=some (EF d (lT l k)):=RE hd hB.2 hw';rw[EE h,Axc,if_pos (rng h),AwX,e1,AwW,e2,AwW];cases hc:(!(EF d (lS l k)).1||!(EF d (lT l k)).1) with
   | true =>
    refine Aq.mk (.inl ⟨_,rfl,λh'=>?_⟩);have:=aZ.2 (h' k h);rw[hc] at this;cases this
   | false =>
    rw[Axb,EI,if_pos (rng h),AY h (by omega)];refine Aq.mk ⟨l.length-(k+1),by omega,k+1,h,rfl,?_,λi hi=>?_⟩
    ·rw[<-L8];rfl
    ·rcases Aw7 i k with h' | h'
     ·exact h3 i h'
     ·rw[show i=k by omega];exact aZ.1 hc
  ·have:k=l.length:=by omega
   subst this;rw[Ff,Axb];refine Aq.mk (.inr ⟨?_,h3⟩);congr 1;unfold Bn;refine List.map_congr_left λi hi=>?_;rw[if_pos (List.mem_range.1 hi)]
 ·rcases ht with ⟨x,rfl,h⟩| ⟨rfl,h⟩
  ·exact Aq.mk (.inr ⟨rfl,h⟩)
  ·exact Aq.mk (.inl ⟨rfl,h,rfl⟩)
def b1(d:Axw)(l:AxA)(i:Nat):List Bt:=lastB d (lS l i)
def b2(d:Axw)(l:AxA)(i:Nat):List Bt:=lastB d (lT l i)
theorem Sy {d:Axw} {l:AxA} (hd:AA d) (hl:∀x∈l,TH x) (hp:Rj d l) (hs:KR d l) {i:Nat} (hi:i<l.length) :
    A1 d (b1 d l i)/\A1 d (b2 d l i)/\(b1 d l i).length=(b2 d l i).length/\PV d l i=(fN (b1 d l i),fN (b2 d l i),())/\(EF d (lS l i))=(true,fN (b1 d l i))/\(EF d (lT l i))=(true,fN (b2 d l i)):=by
 have hB:=hl _ (Az (z :=Ag.zero) hi);obtain⟨h1,h2⟩:=hs i hi;have hlit:=hp.2 i hi;obtain⟨ws,hw⟩:=QZ hlit.2.2.1;obtain⟨ws',hw'⟩:=QZ (show 0<=GG d (lT l i) by rw[hlit.2.2.2];exact hlit.2.2.1);obtain⟨a1,a2⟩:=W4 hd hB.1 h1;obtain⟨c1,c2⟩:=W4 hd hB.2 h2;have t1:=(XN (t:=lS l i) hd hB.1 hw _ (Aw2 _) ((lS l i).length-1) (by have:=hw.1;omega)).2;have t2:=(XN (t:=lT l i) hd hB.2 hw' _ (Aw2 _) ((lT l i).length-1) (by have:=hw'.1;omega)).2;have e:=hlit.2.2.2;rw[RU hw,RU hw'] at e;refine⟨a1.1,c1.1,?_,?_,Prod.ext h1 a2,Prod.ext h2 c2⟩
 ·have e1:((b1 d l i).length:Int)=ws.getD ((lS l i).length-1) 0:=t1;have e2:((b2 d l i).length:Int)=ws'.getD ((lT l i).length-1) 0:=t2;omega
 ·unfold PV;rw[show(EF d (lS l i)).2=fN (b1 d l i) from a2,show(EF d (lT l i)).2=fN (b2 d l i) from c2]
end Go.Proofs.X
namespace Go.Proofs.X
open Go Go.Va
set_option maxRecDepth 100000
def Py(d:Axw)(l:AxA)(h:Nat->Nat->Bool):Prop:=∀i,i<l.length->qB d (b1 d l i) (b2 d l i) h
structure Vy (d:Axw) (l:AxA) (c:AxD) (f:Nat->Nat->Bool):Prop where
 le:Mr (C0 c) f
 top:∀v p,f v p=true->v<d.length/\1<=p/\p<W d v
 cl:Py d l f
 min:∀h,Py d l h->Mr (C0 c) h->Mr f h
theorem Vy.unique{d:Axw}{l:AxA}{c:AxD}{f g:Nat->Nat->Bool}(hf:Vy d l c f)(hg:Vy d l c g):f=g:=by
 funext v p
 rw[Bool.eq_iff_iff];exact⟨hf.min g hg.cl hg.le v p,hg.min f hf.cl hf.le v p⟩
theorem AdM {d:Axw} {B1 B2:List Bt} (h1:A1 d B1) (h2:A1 d B2) (hl:B1.length=B2.length) {f:Nat->Nat->Bool} {o:NX} (he:∀x∈norm B1++norm B2,Nk d f x) (hp:∀p,1<=p->p<B1.length->Q2 B1 B2 f o p)
    (hc:∀v p u q:Nat,f v p=true->nk u q∈nx o v p->qz d f u q):qB d B1 B2 f:=by
 have vac:∀{b:Bt},Xe b=true->∃v a,b=.va v a:=λ{b} h=>by
  cases b with
  | co _=>cases h
  | va v a=>exact⟨v,a,rfl⟩
 refine⟨he,λp hp1 hp2=>⟨λhct hva=>?_,λhct hva=>?_⟩⟩
 ·obtain⟨u,b,e2⟩:=vac hva;unfold N2;cases f2:fst B2 p with
  | true=>rfl
  | false =>
   rw[Bool.false_or,e2];show f u b=true;have hb:1<=b/\b<W d u:=by
    rcases Sz h2 (show p<B2.length by omega) with ⟨q,_⟩| ⟨_,⟨⟨_,q⟩,_⟩| ⟨v,a,q,_,q1,q2,_⟩⟩
    ·rw[f2] at q;cases q
    ·rw[e2] at q;cases q
    ·rw[e2] at q;injection q with q3 q4;subst q3;subst q4;exact⟨q1,q2⟩
   cases f1:fst B1 p with
   | true=>exact(hp p hp1 hp2).1 f1 f2 u b e2
   | false =>
    unfold N2 at hct;rw[f1,Bool.false_or] at hct;cases e1:OC B1 p with
    | co c=>rw[e1] at hct;cases hct
    | va v a =>
     rw[e1] at hct;exact hc v a u b hct ((hp p hp1 hp2).2.2 f1 f2 v a u b e1 e2).1 hb.1 hb.2
 ·obtain⟨u,b,e1⟩:=vac hva;unfold N2;cases f1:fst B1 p with
  | true=>rfl
  | false =>
   rw[Bool.false_or,e1];show f u b=true;have hb:1<=b/\b<W d u:=by
    rcases Sz h1 hp2 with ⟨q,_⟩| ⟨_,⟨⟨_,q⟩,_⟩| ⟨v,a,q,_,q1,q2,_⟩⟩
    ·rw[f1] at q;cases q
    ·rw[e1] at q;cases q
    ·rw[e1] at q;injection q with q3 q4;subst q3;subst q4;exact⟨q1,q2⟩
   cases f2:fst B2 p with
   | true=>exact(hp p hp1 hp2).2.1 f2 f1 u b e1
   | false =>
    unfold N2 at hct;rw[f2,Bool.false_or] at hct;cases e2:OC B2 p with
    | co c=>rw[e2] at hct;cases hct
    | va v a =>
     rw[e2] at hct;exact hc v a u b hct ((hp p hp1 hp2).2.2 f1 f2 u b v a e1 e2).2 hb.1 hb.2
noncomputable def cuts(d:Axw)(s:SC)(w:Axv):SC:=w.foldl (λs x=>Gs d s x.1.toNat x.2.1.toNat) s
theorem qU{d:Axw}{s:SC}{v p:Nat}(hv:v<d.length):(∀x∈s.2,x∈(Gs d s v p).2)/\(∀u q,(Gs d s v p).1 u q=true->s.1 u q=true\/nk u q∈(Gs d s v p).2)/\(Gs d s v p).2.length+free d (Gs d s v p).1<=s.2.length+free d s.1:=by
 unfold Gs;split
 ·rename_i hc;refine⟨λx hx=>List.mem_append_left _ hx,λu q h=>?_,?_⟩
  ·rcases Dv.1 h with h | ⟨rfl,rfl⟩
   ·exact .inl h
   ·exact .inr (List.mem_append_right _ (List.mem_singleton.2 rfl))
  ·have:=UT hv hc.2.1 hc.2.2;simp only[Aw0,List.length_singleton];omega
 ·exact⟨λx h=>h,λu q h=>.inl h,Aw2 _⟩
theorem WT {d:Axw} {f0:Nat->Nat->Bool}:∀(w:Axv) (s:SC),(∀x∈w,∃u q:Nat,x=nk u q/\u<d.length)->CI d f0 s->CI d f0 (cuts d s w)/\Mr s.1 (cuts d s w).1/\(∀u q,nk u q∈w->qz d (cuts d s w).1 u q) /\
    (∀x∈s.2,x∈(cuts d s w).2)/\(∀u q,(cuts d s w).1 u q=true->s.1 u q=true\/nk u q∈(cuts d s w).2)/\(cuts d s w).2.length+free d (cuts d s w).1<=s.2.length+free d s.1/\∀h,(∀u q,nk u q∈w->qz d h u q)->Mr s.1 h->Mr (cuts d s w).1 h
 | [],s,_,h1=>⟨h1,λ_ _ h=>h,λ_ _ h=>(by cases h),λ_ h=>h,λ_ _ h=>.inl h,Aw2 _,λ_ _ h=>h⟩
 | x::w,s,hv,h1=>by
  obtain⟨u,q,rfl,hu⟩:=hv x List.mem_cons_self;have e:cuts d s (nk u q::w)=cuts d (Gs d s u q) w:=by simp[cuts,nk]
  rw[e];obtain⟨k1,k2,k3⟩:=qU (s:=s) (p:=q) hu;obtain⟨i1,i2,i3,i4,i5,i6,i7⟩:=WT w (Gs d s u q) (λy hy=>hv y (List.mem_cons_of_mem _ hy)) (h1.cut hu);refine⟨i1,λa b h=>i2 a b (Te s u q a b h),λa b h=>?_,λy hy=>i4 y (k1 y hy),λa b h=>?_,Nat.le_trans i6 k3,λh hh hs=>i7 h (λa b hm=>hh a b (List.mem_cons_of_mem _ hm)) (T0 hs (hh u q List.mem_cons_self))⟩
  ·rcases List.mem_cons.1 h with h | h
   ·obtain⟨rfl,rfl⟩:=RI.1 h;exact(TY s a b).mono i2
   ·exact i3 a b h
  ·rcases i5 a b h with h | h
   ·rcases k2 a b h with h | h
    ·exact .inl h
    ·exact .inr (i4 _ h)
   ·exact .inr h
theorem qN {d:Axw} (hd:AA d) {f0:Nat->Nat->Bool} {w:Axv} {s:SC} (hv:∀x∈w,∃u q:Nat,x=nk u q/\u<d.length) (hw:w.length<=1000000) (hs:CI d f0 s) {a:Int} {o:NX} :
    Dq a o w (w.length:Int) 0 d (M d 0 s.1) s.2=some (d,M d 0 (cuts d s w).1,(cuts d s w).2):=by
 unfold Dq;have:=AJ (f:=BM a o w (w.length:Int)) (λk=>((k:Int),d,M d 0 (cuts d s (w.take k)).1,(cuts d s (w.take k)).2)) (t:=(d,M d 0 (cuts d s w).1,(cuts d s w).2)) w.length (λk hk=>?_) ?_
 ·exact this
 ·unfold BM En;obtain⟨u,q,e,hu⟩:=hv _ (Az (z :=Aa.zero) hk);have hci:=(WT (w.take k) s (λx hx=>hv x (List.mem_of_mem_take hx)) hs).1;simp only[AwX,e];have e1:AW a (nk u q).1 (nk u q).2.1 d (M d 0 (cuts d s (w.take k)).1) (cuts d s (w.take k)).2=some (d,M d 0 (Gs d (cuts d s (w.take k)) u q).1,(Gs d (cuts d s (w.take k)) u q).2):=OV hd hu _ (by have:=hci.len;omega);have e2:cuts d s (w.take (k+1))=Gs d (cuts d s (w.take k)) u q:=by
   rw[AG (z :=Aa.zero) hk,e];simp[cuts,List.foldl_append,nk]
  rw[EE hk,Axc,if_pos (rng hk),e1,AwW,AY hk (by omega),e2]
 ·unfold BM En;simp only;rw[Ff,Axb,Aw6 (Aw2 _)]
theorem qO {d:Axw} (hd:AA d) {f0:Nat->Nat->Bool} {s1:SC} {o:NX} {N:Nat} (hI:LI d f0 s1 o N) (hN:N<=1000000) {a:Int} :
    Aq (F0 a o d (M d 0 s1.1) s1.2) λr=>∃s:SC,r=(d,M d 0 s.1,s.2)/\CI d f0 s/\Mr s1.1 s.1/\(∀v p u q:Nat,s.1 v p=true->nk u q∈nx o v p->qz d s.1 u q)/\∀h,Mr s1.1 h->NJ d h o->Mr s.1 h:=by
 unfold F0;refine FW (λm (x:Axw×AxE×Axv)=>∃s:SC,x=(d,M d 0 s.1,s.2)/\m=s.2.length+free d s.1/\CI d f0 s/\Mr s1.1 s.1/\(∀v p,s.1 v p=true->nk v p∈s.2\/∀u q,nk u q∈nx o v p->qz d s.1 u q)/\∀h,Mr s1.1 h->NJ d h o->Mr s.1 h) (λm x hx=>?_) _ _ ⟨s1,rfl,rfl,hI.ci,λ_ _ h=>h,λv p h=>.inl (hI.todo v p h),λh hh _=>hh⟩;obtain⟨s,rfl,rfl,hci,hle,hcl,hmin⟩:=hx;unfold Eo HG;simp only;rcases Nat.eq_zero_or_pos s.2.length with h0 | h0
 ·have e0:s.2=[]:=List.eq_nil_of_length_eq_zero h0;rw[show decide ((s.2.length:Int)>0)=false from AwZ (by omega),Axb];refine Aq.mk ⟨s,rfl,hci,hle,λv p u q h hm=>?_,hmin⟩;rcases hcl v p h with h | h
  ·rw[e0] at h;cases h
  ·exact h u q hm
 ·have hlen:=hci.len;obtain⟨v,p,ev,hvp⟩:=hci.SU _ (Az (z :=Aa.zero) (show s.2.length-1<s.2.length by omega));have ev:s.2.getD (s.2.length-1) Aa.zero=nk v p:=ev;rw[show decide ((s.2.length:Int)>0)=true from Aw1 (by omega),Axc,wrapN (x:=(s.2.length:Int)-1) (n:=s.2.length-1) (by omega) (by omega),if_pos (rng (by omega)),if_pos ⟨by omega,by omega⟩];simp only[AwX,ev];have hsplit:s.2=s.2.take (s.2.length-1)++[nk v p]:=by
   have:=AG (z :=Aa.zero) (l:=s.2) (k:=s.2.length-1) (by omega);rw[show s.2.length-1+1=s.2.length by omega,Aw6 (Aw2 _),ev] at this;exact this
  have Aqi:CI d f0 (s.1,s.2.take (s.2.length-1)):=⟨hci.le,hci.top,λx hx=>hci.SU x (List.mem_of_mem_take hx),by simp only[List.length_take];omega⟩;obtain⟨i1,i2,i3,i4,i5,i6,i7⟩:=WT (nx o v p) (s.1,s.2.take (s.2.length-1)) (λx hx=>hI.nv v p x hx) Aqi;have e1:=qN hd (s:=(s.1,s.2.take (s.2.length-1))) (w:=nx o v p) (a:=a) (o:=o) (λx hx=>hI.nv v p x hx) (by have:=hI.nl v p;omega) Aqi;have e1':Dq a o (BG Aa (.sl Aa) o (nk v p)) ((BG Aa (.sl Aa) o (nk v p)).length:Int) 0 d (M d 0 s.1) (s.2.take (s.2.length-1))=_:=e1;rw[e1',AwW];simp only[List.length_take] at i6;refine Aq.mk ⟨(cuts d (s.1,s.2.take (s.2.length-1)) (nx o v p)).2.length+free d (cuts d (s.1,s.2.take (s.2.length-1)) (nx o v p)).1,by omega,_,rfl,rfl,i1,λu q h=>i2 u q (hle u q h),λu q h=>?_,λh h1 h2=>?_⟩
  ·rcases i5 u q h with h | h
   ·rcases hcl u q h with h | h
    ·rw[hsplit] at h;rcases List.mem_append.1 h with h | h
     ·exact .inl (i4 _ h)
     ·obtain⟨rfl,rfl⟩:=RI.1 (List.mem_singleton.1 h);exact .inr λa b hm=>i3 a b hm
    ·exact .inr λa b hm=>(h a b hm).mono i2
   ·exact .inl h
  ·exact i7 h (λu q hm=>h2 v p u q hm (hmin h h1 h2 v p hvp)) (hmin h h1 h2)
theorem aJ{d:Axw}{l:AxA}(hd:AA d)(hl:∀x∈l,TH x):Aq (FO d l) λr=>r=true↔Rj d l:=by
 have hdd:=hd.1;unfold FO;by_cases hlen:l.length<=60
 ·rw[AwZ (by omega:¬(l.length:Int)>60),Axb];refine Aq.bind (P:=λt=>(t=.inl ()/\¬∀i,i<l.length->UD d l i)\/(t=.inr ()/\∀i,i<l.length->UD d l i)) ?_ λt ht=>?_
  ·unfold LR;have:=Bd (f:=Ce d l (l.length:Int)) (λj (_:Unit)=>((if j=0 then 0 else jV l (j-1):Int),(j:Int))) l.length (λj _=>∀k,k<j->UD d l k) (Q:=λt=>(t=.inl ()/\¬∀i,i<l.length->UD d l i)\/(t=.inr ()/\∀i,i<l.length->UD d l i)) (λj _ hj hJ=>?_) (λ_ hJ=>?_) (s0:=()) (λi h=>by omega)
   ·exact this
   ·unfold Ce F5;have hB:=hl _ (Az (z :=Ag.zero) hj);have e1:Eu d (l.getD j Ag.zero).2.2.1=some (GG d (lS l j)):=RF hB.1 (by omega);have e2:Eu d (l.getD j Ag.zero).2.2.2.1=some (GG d (lT l j)):=RF hB.2 (by omega);have e3:(l.getD j Ag.zero).1=jV l j:=rfl;simp only;rw[EE hj,Axc,if_pos (rng hj),AwX,e1,AwW];obtain⟨c,hc⟩:∃c:Int,c=if j=0 then 0 else jV l (j-1):=⟨_,rfl⟩;have hcb:0<=c/\c<=1000000/\(0<j->c=jV l (j-1))/\(j=0->c=0):=by
     by_cases h0:j=0
     ·rw[if_pos h0] at hc;exact⟨by omega,by omega,λh=>by omega,λ_=>hc⟩
     ·rw[if_neg h0] at hc;have:=(hJ (j-1) (by omega)).1;exact⟨by omega,by omega,λ_=>hc,λh=>absurd h h0⟩
    rw[<-hc];obtain⟨b,hb1,hb2⟩:∃b,Fl d c (GG d (lS l j)) l (l.length:Int) (j:Int) (l.getD j Ag.zero)=some b/\(b=false↔UD d l j):=by
     unfold Fl UD;rw[e3,Kj,wrap64 (x:=c+1) (by omega) (by omega),e2,AwW];by_cases h1:c+1<=jV l j/\jV l j<=1000000
     ·rw[Aw1 h1];simp only[Bool.not_true,Axb];by_cases h2:GG d (lS l j)<0
      ·rw[Aw1 h2];exact⟨true,rfl,λh=>by(cases h),λh=>by omega⟩
      ·rw[AwZ h2,Axb];refine⟨_,rfl,?_⟩;rw[bne_eq_false_iff_eq];exact⟨λh=>⟨by omega,λh'=>by have:=hcb.2.2.1 h';omega,by omega,h.symm⟩,λh=>h.2.2.2.symm⟩
     ·rw[AwZ h1];refine⟨true,rfl,λh=>by(cases h),λh=>?_⟩
      exfalso
      apply h1;rcases Nat.eq_zero_or_pos j with h0 | h0
      ·have:=hcb.2.2.2 h0;omega
      ·have:=hcb.2.2.1 h0;have:=h.2.1 h0;omega
    rw[hb1,AwW];cases b with
    | true=>exact Aq.mk (.inl ⟨rfl,λh=>by have:=hb2.2 (h j hj);cases this⟩)
    | false =>
     rw[Axb,AY hj (by omega)];refine Aq.mk ⟨(),rfl,λk hk=>?_⟩;rcases Aw7 k j with h' | h'
     ·exact hJ k h'
     ·rw[show k=j by omega];exact hb2.1 rfl
   ·unfold Ce F5;simp only;rw[Ff,Axb];exact Aq.mk (.inr ⟨rfl,hJ⟩)
  ·rcases ht with ⟨rfl,h⟩| ⟨rfl,h⟩
   ·exact Aq.mk ⟨λh=>by(cases h),λh'=>absurd h'.2 h⟩
   ·exact Aq.mk ⟨λ_=>⟨hlen,h⟩,λ_=>rfl⟩
 ·rw[Aw1 (by omega:(l.length:Int)>60)];exact Aq.mk ⟨λh=>by(cases h),λh=>absurd h.1 hlen⟩
theorem aF {d:Axw} {l:AxA} {c:AxD} (hc:OO c) (hl:∀x∈l,TH x):Aq (Dn d l (c,())) λr =>
    (r=(false,[])/\¬(AA d/\Ct d c/\Rj d l/\KR d l))\/(AA d/\Ct d c/\Rj d l/\KR d l/\∃f,r=(true,Cc d f)/\Vy d l c f):=by
 unfold Dn IK;obtain⟨r1,e1,q1⟩:=gX (d:=d) hc;rw[e1,AwW];cases r1 with
 | false=>exact Aq.mk (.inl ⟨rfl,λh=>by have:=q1.2 ⟨h.1,h.2.1⟩;cases this⟩)
 | true =>
  obtain⟨hd,hcp⟩:=q1.1 rfl;obtain⟨r2,e2,q2⟩:=aJ (d:=d) hd hl;simp only[Bool.not_true,Axb,e2,AwW];cases r2 with
  | false=>exact Aq.mk (.inl ⟨rfl,λh=>by have:=q2.2 h.2.2.1;cases this⟩)
  | true =>
   have hlp:=q2.1 rfl;simp only[Bool.not_true,Axb];refine Aq.bind (SQ hd hl hlp) λv hv=>?_;rcases hv with ⟨f1,hs,f2⟩| ⟨f1,hs⟩
   ·rw[f1,f2];simp only[Bool.not_true,Axb];rw[aS hd hcp hc,AwW];simp only;have hln:=hlp.1;obtain⟨st1,st2⟩:=Abh hd hcp;have n0:∀v p,nx ([]:NX) v p=[]:=λv p=>rfl;have hloop:Aq (IL 0 (((List.range l.length).map (PV d l)).length:Int) 0 d ((List.range l.length).map (PV d l)) (M d 0 (C0 c)) [] (g0 c d.length)) λr=>∃s o,r=(d,M d 0 s.1,o,s.2)/\LI d (C0 c) s o (8192*l.length)/\(∀i,i<l.length->(∀x∈norm (b1 d l i)++norm (b2 d l i),Nk d s.1 x)/\∀p,1<=p->p<(b1 d l i).length->Q2 (b1 d l i) (b2 d l i) s.1 o p)/\∀h,Py d l h->Mr (C0 c) h->Mr s.1 h/\NJ d h o:=by
     unfold IL;have:=Bd (f:=CJ 0 (((List.range l.length).map (PV d l)).length:Int)) (λk (x:SC×NX)=>((k:Int),d,(List.range l.length).map (PV d l),M d 0 x.1.1,x.2,x.1.2)) l.length
      (λk x=>LI d (C0 c) x.1 x.2 (8192*k)/\(∀i,i<k->(∀y∈norm (b1 d l i)++norm (b2 d l i),Nk d x.1.1 y)/\∀p,1<=p->p<(b1 d l i).length->Q2 (b1 d l i) (b2 d l i) x.1.1 x.2 p)/\∀h,Py d l h->Mr (C0 c) h->Mr x.1.1 h/\NJ d h x.2)
      (Q:=λr=>∃s o,r=(d,M d 0 s.1,o,s.2)/\LI d (C0 c) s o (8192*l.length)/\(∀i,i<l.length->(∀x∈norm (b1 d l i)++norm (b2 d l i),Nk d s.1 x)/\∀p,1<=p->p<(b1 d l i).length->Q2 (b1 d l i) (b2 d l i) s.1 o p)/\∀h,Py d l h->Mr (C0 c) h->Mr s.1 h/\NJ d h o)
      (λk x hk hx=>?_) (λx hx=>?_) (s0:=((C0 c,g0 c d.length),[])) ⟨⟨st1,st2,λv p x hx=>(by rw[n0] at hx;cases hx),λv p=>(by rw[n0];simp)⟩,λi hi=>by omega,λh _ hh=>⟨hh,λv p u q hm=>(by rw[n0] at hm;cases hm)⟩⟩
     ·exact this
     ·obtain⟨j1,j2,j3⟩:=hx;obtain⟨s1,s2,s3,s4,_,_⟩:=Sy hd hl hlp hs hk;have eg:((List.range l.length).map (PV d l)).getD k (Ty.zero (.pair (.sl Ad) (.pair (.sl Ad) .unit)))=(fN (b1 d l k),fN (b2 d l k),()):=by
       rw[<-s4];exact L0 hk
      unfold CJ GI;simp only[AwX,eg];obtain⟨s',o',k1,k2,k3,k4,k5,k6,k7⟩:=Adq hd s1 s2 s3 j1 (by omega) (a:=0) (dd:=(List.range l.length).map (PV d l));rw[Aw8,List.length_range,EE hk,Axc,if_pos (rng hk),k1,AwW,AY hk (by omega)];refine Aq.mk ⟨(s',o'),rfl,by rw[show 8192*(k+1)=8192*k+8192 by omega];exact k2,λi hi=>?_,λh hh hc0=>?_⟩
      ·rcases Aw7 i k with hlt | hge
       ·obtain⟨a1,a2⟩:=j2 i hlt;refine⟨λy hy=>?_,λp p1 p2=>(a2 p p1 p2).mono k3 k4⟩;have:=a1 y hy;cases y with
        | co b=>trivial
        | va v l n=>exact⟨this.1.mono k3,this.2.mono k3⟩
       ·rw[show i=k by omega];exact⟨k5,k6⟩
      ·obtain⟨a1,a2⟩:=j3 h hh hc0;exact k7 h (hh k hk) a1 a2
     ·unfold CJ GI;simp only;rw[Aw8,List.length_range,Ff,Axb];exact Aq.mk ⟨x.1,x.2,rfl,hx⟩
    obtain⟨r,hr,s,o,rfl,j1,j2,j3⟩:=hloop;rw[hr,AwW];unfold FZ;simp only;obtain⟨r,hr,s',rfl,k1,k2,k3,k4⟩:=qO hd j1 (by omega) (a:=0);have hdl:=hd.1;rw[hr,AwW];simp only;rw[if_pos (show Ty.row (.sl (.int .i64))=true/\(0:Int)<=(d.length:Int)/\(d.length:Int)<=(d.length:Int)/\((24:Nat):Int)*(d.length:Int)<=281474976710656/\(d.length:Int)<=9223372036854775807 from⟨rfl,by omega,by omega,by omega,by omega⟩),P6,AwX,
     lH hd (λv=>by cases hv:s'.1 v 0 with | false=>rfl | true=>have:=(k1.top v 0 hv).2.1;omega),AwW,AwW]
    refine Aq.mk (.inr ⟨hd,hcp,hlp,hs,s'.1,rfl,k1.le,k1.top,λi hi=>?_,λh h1 h2=>?_⟩)
    ·obtain⟨s1,s2,s3,_,_,_⟩:=Sy hd hl hlp hs hi;obtain⟨a1,a2⟩:=j2 i hi;refine AdM s1 s2 s3 (o:=o) (λy hy=>?_) (λp p1 p2=>(a2 p p1 p2).mono k2 λ_ _ _ h=>h) k3;have:=a1 y hy;cases y with
     | co b=>trivial
     | va v l n=>exact⟨this.1.mono k2,this.2.mono k2⟩
    ·obtain⟨a1,a2⟩:=j3 h h1 h2;exact k4 h a1 a2
   ·rw[f1];exact Aq.mk (.inl ⟨rfl,λh=>hs h.2.2.2⟩)
end Go.Proofs.X
