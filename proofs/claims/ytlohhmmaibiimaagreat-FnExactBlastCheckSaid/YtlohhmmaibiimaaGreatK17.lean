import Derived.Test.YtlohhmmaibiimaaGreatK16
set_option linter.unusedVariables false
set_option linter.unusedSimpArgs false
namespace Go.Proofs.X
open Go Go.Va
set_option maxRecDepth 100000
theorem Ni{A T:Type}{f:A→Option (A⊕T)}(st:Nat→A):∀(k:Nat),(∀i,i<k→f (st i)=some (.inl (st (i+1))))→fix f (st 0)=fix f (st k)
 | 0,_=>rfl
 | k+1,h=>by rw[Ni st k fun i hi=>h i (by omega),HM (h k (by omega))]
section
variable {n:Nat} {L:List (List Int)} {S c:List Int} {m z:Int} {q:List (Int×List Int)}
def Fre(S:List Int)(m:Int):Prop:=m∉S∧-m∉S
instance (S:List Int) (m:Int):Decidable (Fre S m):=inferInstanceAs (Decidable (_∧_))
theorem Vq{S:List Int}{m:Int}:(!decide (m∈S)&&!decide (-m∈S))=true↔Fre S m:=by unfold Fre; simp
theorem UX{S c:List Int}{m:Int}:m∈lft S c↔m∈c∧Fre S m:=by unfold lft Fre; rw[List.mem_filter]; simp
theorem Wb(hc:ClP n c){m:Int}(hm:m∈c):(isV n S).getD m.natAbs 0=atS S m.natAbs:=Pp (hc.2.1 m hm).2
theorem AaH(hL:CnP n L){k:Nat}(hk:k<L.length)(h1:St1 S (L.getD k []) m){g b:List Int}:Eg z (k:Int) ((n:Int),L,()) q g b S (isV n S)=some (m,((n:Int),L,()),q,g,b,S,isV n S):=by
 unfold Eg Bl
 have hc:=hL.2.2 _ (A9 (z:=[]) hk)
 have hn:=hL.1
 have h400:=hc.1
 simp only
 rw[if_pos (rng hk),Int.toNat_natCast,show Ty.zero (.sl (.int .i64))=([]:List Int) from rfl]
 generalize hcc:L.getD k []=c at h1 hc h400
 have hrun:∃j,j<c.length∧Fre S (c.getD j 0)∧C2 c 0 (c.length:Int) 0 z ((n:Int),L,()) q g b S (isV n S)=some (.inl ((j:Int),z,((n:Int),L,()),q,g,b,S,isV n S)):=by
  have:=A2 (f:=AP c 0 (c.length:Int)) (fun w (s:Int×Int×Ag.V×List (Int×List Int)×List Int×List Int×List Int×List Int)=>∃j:Nat,j≤c.length∧w=c.length-j∧s=((j:Int),z,((n:Int),L,()),q,g,b,S,isV n S)∧∀i,i<j→¬Fre S (c.getD i 0))
   (Q:=fun t=>∃j,j<c.length∧Fre S (c.getD j 0)∧t=.inl ((j:Int),z,((n:Int),L,()),q,g,b,S,isV n S)) (fun w s hI=>by
    obtain⟨j,hj,rfl,rfl,hE⟩:=hI
    unfold AP Cr D5
    simp only
    rcases Nat.lt_or_ge j c.length with h | h
    ·have hm:=A9 (z:=(0:Int)) h
     have hm':=hc.2.1 _ hm
     rw[dlt h,cond_true,if_pos (rng h),Int.toNat_natCast,zi,nAbs hm'.2 (by omega),Gz,if_pos ⟨by omega,by omega⟩,Int.toNat_natCast,Wb hc hm,Option.bind_some]
     by_cases hf:Fre S (c.getD j 0)
     ·rw[show(atS S (c.getD j 0).natAbs==0)=true from beq_iff_eq.2 ((Kr hm'.1).2 hf),cond_true]
      exact Ret.mk ⟨j,h,hf,rfl⟩
     ·rw[show(atS S (c.getD j 0).natAbs==0)=false from beq_eq_false_iff_ne.2 (fun e=>hf ((Kr hm'.1).1 e)),cond_false,stepN h (by omega)]
      exact Ret.mk ⟨_,by omega,j+1,h,rfl,rfl,fun i hi=>by rcases Nat.lt_or_ge i j with h' | h'; exact hE i h'; rw[show i=j by omega]; exact hf⟩
    ·exfalso
     have hm:m∈lft S c:=by rw[h1.2]; simp
     rw[UX] at hm
     obtain⟨i,hi,e⟩:=List.mem_iff_getElem.1 hm.1
     refine hE i (by omega) ?_
     rw[gD hi,e]; exact hm.2) c.length (0,z,((n:Int),L,()),q,g,b,S,isV n S) ⟨0,Nat.zero_le _,rfl,rfl,fun i hi=>by omega⟩
  obtain⟨t,h2,j,h3,h4,rfl⟩:=this
  exact⟨j,h3,h4,h2⟩
 obtain⟨j,hj,hf,hr⟩:=hrun
 have em:c.getD j 0=m:=by
  have:c.getD j 0∈lft S c:=UX.2 ⟨A9 hj,hf⟩
  rw[h1.2] at this
  exact List.mem_singleton.1 this
 rw[hr,Option.bind_some,Sum.elim_inl,Option.bind_some]
 simp only
 rw[if_pos (rng hk),Int.toNat_natCast,hcc,if_pos (rng hj),zi,em]
def trS(n:Nat)(L:List (List Int))(q:List (Int×List Int))(S:List Int):Ag.V×List (Int×List Int)×List Int×List Int×List Int×List Int:=(((n:Int),L,()),q,gdV L S,bdV L S,isV n S,S)
theorem unit5(hL:CnP n L)(hS:OkS n S){k:Nat}(hk:k<L.length){l':List (List Int)}{n':Int}:DA z (k:Int) l' n' ((n:Int),L,()) q (gdV L S) (bdV L S) (isV n S) S (L.getD k [])=some (if 0<cG S (L.getD k [])∨cB S (L.getD k [])+1<(L.getD k []).length then .inl () else .inr ()):=by
 have hc:=hL.2.2 _ (A9 (z:=[]) hk)
 have h400:=hc.1
 unfold DA
 rw[II,if_pos (rng hk),Int.toNat_natCast,zi,L9 hk]
 by_cases h1:0<cG S (L.getD k [])
 ·rw[decide_eq_true (by omega),cond_true,if_pos (.inl h1)]
 ·rw[decide_eq_false (by omega),cond_false,Hx,if_pos (rng hk),K8 hk,wrap64 (by omega) (by omega)]
  by_cases h2:cB S (L.getD k [])+1<(L.getD k []).length
  ·rw[decide_eq_true (by omega),cond_true,if_pos (.inr h2)]
  ·rw[decide_eq_false (by omega),cond_false,if_neg (by omega)]
theorem Rc(hS:OkS n S)(c:List Int):St0 S c↔0<cG S c∨cB S c+1<c.length:=by
 have h:=Pj hS c
 unfold St0
 rw[←Wo]
 omega
theorem TM(hL:CnP n L)(hS:OkS n S){k:Nat}(hk:k<L.length)(h:St0 S (L.getD k [])):Ax z ((n:Int),L,()) q (gdV L S) (bdV L S) (isV n S) S L (L.length:Int) (k:Int)=some (.inl ((k+1:Nat):Int)):=by
 have hll:=hL.2.1
 unfold Ax Bs B5
 rw[dlt hk,cond_true,if_pos (rng hk),Int.toNat_natCast,show Ty.zero (.sl (.int .i64))=([]:List Int) from rfl,unit5 hL hS hk,if_pos ((Rc hS _).1 h),stepN hk (by omega)]
 rfl
theorem Tl(hL:CnP n L)(hS:OkS n S){k:Nat}(hk:k<L.length)(h:St2 S (L.getD k [])):Ax z ((n:Int),L,()) q (gdV L S) (bdV L S) (isV n S) S L (L.length:Int) (k:Int)=some (.inr (.inl ())):=by
 have hn:¬St0 S (L.getD k []):=by
  rintro(⟨m,h1,h2⟩| h1)
  ·exact h.1 m h1 h2
  ·rw[h.2] at h1; simp at h1
 have h1:=Pj hS (L.getD k [])
 rw[h.2] at h1
 have h0:cG S (L.getD k [])=0:=by rcases Nat.eq_zero_or_pos (cG S (L.getD k [])) with h' | h'; exact h'; exact(hn (.inl (Wo.1 h'))).elim
 simp only[List.length_nil] at h1
 unfold Ax Bs B5
 rw[dlt hk,cond_true,if_pos (rng hk),Int.toNat_natCast,show Ty.zero (.sl (.int .i64))=([]:List Int) from rfl,unit5 hL hS hk,if_neg (fun h'=>hn ((Rc hS _).2 h')),Option.bind_some,Sum.elim_inr,Hx,if_pos (rng hk),zi,K8 hk,show(((cB S (L.getD k []):Nat):Int)==((L.getD k []).length:Int))=true from beq_iff_eq.2 (by omega),cond_true]
 rfl
theorem Tm(hL:CnP n L)(hS:OkS n S)(hh:HasP L q){k:Nat}(hk:k<L.length)(h:St1 S (L.getD k []) m):Ax z ((n:Int),L,()) q (gdV L S) (bdV L S) (isV n S) S L (L.length:Int) (k:Int)=some (.inr (.inr (true,trS n L q (S++[m])))):=by
 have hn:¬St0 S (L.getD k []):=by
  rintro(⟨m,h1,h2⟩| h1)
  ·exact h.1 m h1 h2
  ·rw[h.2] at h1; simp at h1
 have h1:=Pj hS (L.getD k [])
 rw[h.2] at h1
 have h0:cG S (L.getD k [])=0:=by rcases Nat.eq_zero_or_pos (cG S (L.getD k [])) with h' | h'; exact h'; exact(hn (.inl (Wo.1 h'))).elim
 simp only[List.length_singleton] at h1
 have hS':=(PX h (hL.2.2 _ (A9 (z:=[]) hk)) hS).1
 unfold Ax Bs B5
 rw[dlt hk,cond_true,if_pos (rng hk),Int.toNat_natCast,show Ty.zero (.sl (.int .i64))=([]:List Int) from rfl,unit5 hL hS hk,if_neg (fun h'=>hn ((Rc hS _).2 h')),Option.bind_some,Sum.elim_inr,Hx,if_pos (rng hk),zi,K8 hk,show(((cB S (L.getD k []):Nat):Int)==((L.getD k []).length:Int))=false from beq_eq_false_iff_ne.2 (by omega),cond_false,AaH hL hk h,Option.bind_some]
 simp only
 rw[Px hL hS' hh]
 rfl
theorem Xc(hL:CnP n L)(hh:HasP L q){b:Bool}{T:List Int}(h:UnitR L S b T):OkS n S→fix (AD z) (true,trS n L q S)=some (bif b then .inr (trS n L q T) else .inl (trS n L q T)):=by
 have go:∀{S:List Int},OkS n S→∀{k:Nat},k≤L.length→(∀j,j<k→St0 S (L.getD j []))→Dh z ((n:Int),L,()) q (gdV L S) (bdV L S) (isV n S) S L (L.length:Int) 0=fix (Ax z ((n:Int),L,()) q (gdV L S) (bdV L S) (isV n S) S L (L.length:Int)) (k:Int):=fun {S} hS {k} hk h0=>by
  unfold Dh
  exact Ni (fun i=>(i:Int)) k fun i hi=>TM hL hS (by omega) (h0 i hi)
 induction h with
 | done S h1 =>
  intro hS
  have e:AD z (true,trS n L q S)=some (.inl (false,trS n L q S)):=by
   unfold AD Cj trS
   simp only[cond_true]
   rw[go hS (Nat.le_refl _) h1,Bv (t:=.inr (false,trS n L q S)) (by
    unfold Ax Bs
    rw[dge,cond_false]; rfl)]
   rfl
  rw[HM e]
  exact Bv rfl
 | fail S k hk h0 h2 =>
  intro hS
  refine Bv ?_
  unfold AD Cj trS
  simp only[cond_true]
  rw[go hS (Nat.le_of_lt hk) h0,Bv (Tl hL hS hk h2)]
  rfl
 | step S k m b T hk h0 h1 _ ih =>
  intro hS
  have hS':=(PX h1 (hL.2.2 _ (A9 (z:=[]) hk)) hS).1
  have e:AD z (true,trS n L q S)=some (.inl (true,trS n L q (S++[m]))):=by
   unfold AD Cj
   simp only[cond_true]
   show(Dh z ((n:Int),L,()) q (gdV L S) (bdV L S) (isV n S) S L (L.length:Int) 0).bind _=_
   rw[go hS (Nat.le_of_lt hk) h0,Bv (Tm hL hS hh hk h1)]
   rfl
  rw[HM e]
  exact ih hS'
theorem RQ(hL:CnP n L)(hS:OkS n S)(hh:HasP L q){b:Bool}{T:List Int}(h:UnitR L S b T):DY z ((n:Int),L,()) q (gdV L S) (bdV L S) S (isV n S)=some (b,trS n L q T):=by
 unfold DY H7
 have:=Xc (z:=z) hL hh h hS
 unfold trS at this ⊢
 rw[this]
 cases b<;>rfl
theorem Ng(S:List Int){c:List Int}{j:Nat}(hj:j<c.length):lft S (c.take (j+1))=lft S (c.take j)++(if Fre S (c.getD j 0) then[c.getD j 0] else[]):=by
 unfold lft
 rw[AB (z:=(0:Int)) hj,List.filter_append]
 by_cases h:Fre S (c.getD j 0)
 ·rw[if_pos h,List.filter_cons,List.filter_nil,if_pos (Vq.2 h)]
 ·rw[if_neg h,List.filter_cons,List.filter_nil,if_neg (fun h'=>h (Vq.1 h'))]
theorem LH(hc:ClP n c)(hn:n≤400)(hS:OkS n S):Ret (Cs c (isV n S)) fun r=>(r=(0,0)∧St0 S c)∨(∃m,r=(1,m)∧St1 S c m)∨(r=(2,0)∧St2 S c):=by
 have h400:=hc.1
 unfold Cs
 refine Ret.bind (P:=fun t=>(∃x,t=.inl x∧St0 S c)∨(∃x,t=.inr x∧(∀m∈c,m∉S)∧x.2=((lft S c).length:Int)∧(∀m,lft S c=[m]→x.1=m))) ?_ fun t ht=>?_
 ·unfold JA
  refine A2 (fun w (s:Int×Int×Int)=>∃j:Nat,j≤c.length∧w=c.length-j∧s.2.2=(j:Int)∧(∀i,i<j→c.getD i 0∉S)∧s.2.1=((lft S (c.take j)).length:Int)∧s.1=(lft S (c.take j)).getLast?.getD 0) (fun w s hI=>?_) c.length (0,0,0) ⟨0,Nat.zero_le _,rfl,rfl,fun i hi=>by omega,rfl,rfl⟩
  obtain⟨e,g,i⟩:=s
  obtain⟨j,hj,rfl,h1,hE,h2,h3⟩:=hI
  simp only at h1 h2 h3
  subst h1
  unfold Fe H9 GY
  simp only
  rcases Nat.lt_or_ge j c.length with h | h
  ·have hm:=A9 (z:=(0:Int)) h
   have hm':=hc.2.1 _ hm
   have hlf:(lft S (c.take j)).length≤c.length:=by
    have:=List.length_filter_le (fun m=>!decide (m∈S)&&!decide (-m∈S)) (c.take j)
    rw[List.length_take] at this
    show(List.filter _ _).length≤_
    omega
   unfold AN
   rw[dlt h,cond_true,if_pos (rng h),Int.toNat_natCast,zi,nAbs hm'.2 (by omega),Gz,if_pos ⟨by omega,by omega⟩,Int.toNat_natCast,Wb hc hm]
   by_cases hs:c.getD j 0∈S
   ·rw[show(atS S (c.getD j 0).natAbs==c.getD j 0)=true from beq_iff_eq.2 ((VE hS hm'.1).2 hs),cond_true]
    exact Ret.mk (.inl ⟨_,rfl,.inl ⟨_,hm,hs⟩⟩)
   ·rw[show(atS S (c.getD j 0).natAbs==c.getD j 0)=false from beq_eq_false_iff_ne.2 (fun e=>hs ((VE hS hm'.1).1 e)),cond_false]
    have hE':∀i,i<j+1→c.getD i 0∉S:=fun i hi=>by rcases Nat.lt_or_ge i j with h' | h'; exact hE i h'; rw[show i=j by omega]; exact hs
    by_cases hf:Fre S (c.getD j 0)
    ·rw[show(atS S (c.getD j 0).natAbs==0)=true from beq_iff_eq.2 ((Kr hm'.1).2 hf),cond_true,Option.bind_some,Sum.elim_inr,stepN h (by omega)]
     refine Ret.mk ⟨_,by omega,j+1,h,rfl,rfl,hE',?_,?_⟩
     ·simp only
      rw[Ng S h,if_pos hf,h2,List.length_append,wrap64 (by omega) (by omega)]; simp
     ·simp only
      rw[Ng S h,if_pos hf]; simp
    ·rw[show(atS S (c.getD j 0).natAbs==0)=false from beq_eq_false_iff_ne.2 (fun e=>hf ((Kr hm'.1).1 e)),cond_false,Option.bind_some,Sum.elim_inr,stepN h (by omega)]
     refine Ret.mk ⟨_,by omega,j+1,h,rfl,rfl,hE',?_,?_⟩
     ·simp only
      rw[Ng S h,if_neg hf,h2,List.append_nil]
     ·simp only
      rw[Ng S h,if_neg hf,h3,List.append_nil]
  ·have:j=c.length:=by omega
   subst this
   rw[dge,cond_false]
   rw[List.take_of_length_le (Nat.le_refl _)] at h2 h3
   refine Ret.mk (.inr ⟨_,rfl,fun m hm=>?_,h2,fun m e=>?_⟩)
   ·obtain⟨i,hi,rfl⟩:=List.mem_iff_getElem.1 hm
    have:=hE i hi
    rw[gD hi] at this
    exact this
   ·simp only
    rw[h3,e]; rfl
 ·rcases ht with ⟨x,rfl,h⟩| ⟨x,rfl,h1,h2,h3⟩
  ·exact Ret.mk (.inl ⟨rfl,h⟩)
  ·rw[Sum.elim_inr,h2]
   match e:lft S c with
   | []=>exact Ret.mk (.inr (.inr ⟨rfl,h1,e⟩))
   | [m] =>
    rw[h3 m e]
    exact Ret.mk (.inr (.inl ⟨m,rfl,h1,e⟩))
   | a::b::r =>
    rw[show(((a::b::r).length:Int)==0)=false from beq_eq_false_iff_ne.2 (by simp; omega),cond_false,show(((a::b::r).length:Int)==1)=false from beq_eq_false_iff_ne.2 (by simp; omega),cond_false]
    exact Ret.mk (.inl ⟨rfl,.inr (by rw[e]; simp)⟩)
end
end Go.Proofs.X
namespace Go.Proofs.X
open Go Go.Va
set_option maxRecDepth 100000
section
variable {n:Nat} {L:List (List Int)} {S c:List Int} {m z:Int} {q:List (Int×List Int)}
theorem Uj(h:St0 S c)(h1:St1 S c m):False:=by
 rcases h with ⟨m,h2,h3⟩| h2
 ·exact h1.1 m h2 h3
 ·rw[h1.2] at h2; simp at h2
theorem Wc(h:St0 S c)(h1:St2 S c):False:=by
 rcases h with ⟨m,h2,h3⟩| h2
 ·exact h1.1 m h2 h3
 ·rw[h1.2] at h2; simp at h2
theorem Yq(hc:ClP n c)(hn:n≤400)(hS:OkS n S)(h:St0 S c):Cs c (isV n S)=some (0,0):=by
 obtain⟨r,h1,h2⟩:=LH hc hn hS
 rcases h2 with ⟨rfl,_⟩| ⟨m,_,h3⟩| ⟨_,h3⟩
 ·exact h1
 ·exact(Uj h h3).elim
 ·exact(Wc h h3).elim
theorem YC(hc:ClP n c)(hn:n≤400)(hS:OkS n S)(h:St1 S c m):Cs c (isV n S)=some (1,m):=by
 obtain⟨r,h1,h2⟩:=LH hc hn hS
 rcases h2 with ⟨_,h3⟩| ⟨m',rfl,h3⟩| ⟨_,h3⟩
 ·exact(Uj h3 h).elim
 ·have:=h.2
  rw[h3.2] at this
  injection this with this
  rw[h1,this]
 ·have:=h.2
  rw[h3.2] at this
  cases this
theorem YN(hc:ClP n c)(hn:n≤400)(hS:OkS n S)(h:St2 S c):Cs c (isV n S)=some (2,0):=by
 obtain⟨r,h1,h2⟩:=LH hc hn hS
 rcases h2 with ⟨_,h3⟩| ⟨m',rfl,h3⟩| ⟨rfl,h3⟩
 ·exact(Wc h3 h).elim
 ·have:=h.2
  rw[h3.2] at this
  cases this
 ·exact h1
theorem specUnit1(hL:CnP n L){b:Bool}{T:List Int}(h:UnitR L S b T):OkS n S→fix (AL ((n:Int),L,())) (0,isV n S,S)=some (bif b then .inr T else .inl T):=by
 have hll:=hL.2.1
 have go:∀{S:List Int},OkS n S→∀{k:Nat},k≤L.length→(∀j,j<k→St0 S (L.getD j []))→fix (AL ((n:Int),L,())) (0,isV n S,S)=fix (AL ((n:Int),L,())) ((k:Int),isV n S,S):=fun {S} hS {k} hk h0 =>
  Ni (fun i=>((i:Int),isV n S,S)) k fun i hi=>by
   have hi':i<L.length:=by omega
   unfold AL CB
   simp only
   rw[dlt hi',cond_true,if_pos (rng hi'),Int.toNat_natCast,show Ty.zero (.sl (.int .i64))=([]:List Int) from rfl,Yq (hL.2.2 _ (A9 (z:=[]) hi')) hL.1 hS (h0 i hi),stepN hi' (by omega)]
   rfl
 induction h with
 | done S h1 =>
  intro hS
  rw[go hS (Nat.le_refl _) h1]
  refine Bv ?_
  unfold AL CB
  simp only
  rw[dge,cond_false]
  rfl
 | fail S k hk h0 h2 =>
  intro hS
  rw[go hS (Nat.le_of_lt hk) h0]
  refine Bv ?_
  unfold AL CB
  simp only
  rw[dlt hk,cond_true,if_pos (rng hk),Int.toNat_natCast,show Ty.zero (.sl (.int .i64))=([]:List Int) from rfl,YN (hL.2.2 _ (A9 (z:=[]) hk)) hL.1 hS h2]
  rfl
 | step S k m b T hk h0 h1 _ ih =>
  intro hS
  have hS':=(PX h1 (hL.2.2 _ (A9 (z:=[]) hk)) hS).1
  have hm:=OkS.snoc.1 hS'
  have hl:=hS.len
  have hn:=hL.1
  rw[go hS (Nat.le_of_lt hk) h0,HM (s':=(0,isV n (S++[m]),S++[m]))]
  ·exact ih hS'
  ·unfold AL CB
   simp only
   rw[dlt hk,cond_true,if_pos (rng hk),Int.toNat_natCast,show Ty.zero (.sl (.int .i64))=([]:List Int) from rfl,YC (hL.2.2 _ (A9 (z:=[]) hk)) hL.1 hS h1,Option.bind_some]
   unfold AN
   rw[show((1:Int)==2)=false from rfl,cond_false,show((1:Int)==1)=true from rfl,cond_true,nAbs hm.2.2.1 (by omega),Gz,if_pos ⟨by omega,by omega⟩,if_pos (app8 (by omega) _),Int.toNat_natCast,Pk hS']
theorem VZ(n:Nat):isV n []=List.replicate (n+1) 0:=by
 refine JI (by rw[Gz,List.length_replicate]) fun i hi=>?_
 rw[Gz] at hi
 rw[Pp (by omega)]
 simp[atS,List.getD,hi]
theorem R1(hL:CnP n L)(hS:OkS n S){b:Bool}{T:List Int}(h:UnitR L S b T):HE ((n:Int),L,()) S=some (b,T):=by
 have hn:=hL.1
 have hl:=hS.len
 unfold HE J6
 simp only
 rw[show wI ((n:Int)+1)=((n+1:Nat):Int) by rw[wrap64 (by omega) (by omega)]; omega,if_pos ⟨rfl,by omega,by omega,by omega,by omega⟩,if_pos (by omega),Int.toNat_natCast]
 have h0:IA S ((n:Int),L,()) 0 (List.replicate (n+1) 0)=some (isV n S):=by
  unfold IA
  have:=AG (f:=CA S ((n:Int),L,())) (fun k=>((k:Int),isV n (S.take k))) (t:=isV n S) S.length (fun k hk=>by
   have hp:OkS n (S.take k++[S.getD k 0]):=by
    rw[←AB hk]
    exact OkS.fore (T:=S.drop (k+1)) (by rw[List.take_append_drop]; exact hS)
   have hm:=OkS.snoc.1 hp
   unfold CA FZ AN
   simp only
   rw[dlt hk,cond_true,if_pos (rng hk),if_pos (rng hk),Int.toNat_natCast,zi,nAbs hm.2.2.1 (by omega),Gz,if_pos ⟨by omega,by omega⟩,Int.toNat_natCast,Pk hp,stepN hk (by omega),←AB hk]) (by
   unfold CA FZ
   simp only
   rw[dge,cond_false,List.take_of_length_le (Nat.le_refl _)])
  rw[List.take_zero,VZ] at this
  exact this
 rw[h0,Option.bind_some,specUnit1 hL h hS]
 cases b<;>rfl
theorem PI(k:Int)(v:List Int):∀(es:List (Int×List Int)) (x:Int),mgetO (.int .i64) (.sl (.int .i64)) (mput (.int .i64) (.sl (.int .i64)) es k v) x=if x=k then some v else mgetO (.int .i64) (.sl (.int .i64)) es x
 | [],x=>by
  unfold mput mgetO
  show(bif x==k then _ else mgetO (.int .i64) (.sl (.int .i64)) [] x)=_
  by_cases h:x=k
  ·rw[show(x==k)=true from beq_iff_eq.2 h,cond_true,if_pos h]
  ·rw[show(x==k)=false from beq_eq_false_iff_ne.2 h,cond_false,if_neg h]; rfl
 | e::r,x=>by
  unfold mput
  show mgetO (.int .i64) (.sl (.int .i64)) (bif k==e.1 then(k,v)::r else e::mput (.int .i64) (.sl (.int .i64)) r k v) x=_
  by_cases h1:k=e.1
  ·rw[show(k==e.1)=true from beq_iff_eq.2 h1,cond_true]
   unfold mgetO
   show(bif x==k then some v else mgetO (.int .i64) (.sl (.int .i64)) r x)=if x=k then some v else(bif x==e.1 then some e.2 else mgetO (.int .i64) (.sl (.int .i64)) r x)
   rw[←h1]
   by_cases h:x=k
   ·rw[show(x==k)=true from beq_iff_eq.2 h,cond_true,if_pos h]
   ·rw[show(x==k)=false from beq_eq_false_iff_ne.2 h,cond_false,if_neg h,cond_false]
  ·rw[show(k==e.1)=false from beq_eq_false_iff_ne.2 h1,cond_false]
   unfold mgetO
   show(bif x==e.1 then some e.2 else mgetO (.int .i64) (.sl (.int .i64)) (mput (.int .i64) (.sl (.int .i64)) r k v) x)=if x=k then some v else(bif x==e.1 then some e.2 else mgetO (.int .i64) (.sl (.int .i64)) r x)
   rw[PI k v r x]
   by_cases h:x=k
   ·rw[if_pos h,if_pos h,show(x==e.1)=false from beq_eq_false_iff_ne.2 (by rw[h]; exact h1),cond_false]
   ·rw[if_neg h,if_neg h]
theorem W2(es:List (Int×List Int))(k x:Int)(v:List Int):mget (.int .i64) (.sl (.int .i64)) (mput (.int .i64) (.sl (.int .i64)) es k v) x=if x=k then v else mget (.int .i64) (.sl (.int .i64)) es x:=by
 unfold mget
 rw[PI]
 by_cases h:x=k
 ·rw[if_pos h,if_pos h]; rfl
 ·rw[if_neg h,if_neg h]
def hasK(L:List (List Int))(j:Nat)(m:Int):List Nat:=(List.range j).filter fun i=>decide (m∈L.getD i [])
theorem Vg(L:List (List Int))(j:Nat)(m:Int):hasK L (j+1) m=hasK L j m++if m∈L.getD j [] then[j] else[]:=by
 unfold hasK
 rw[List.range_succ,List.filter_append,List.filter_cons,List.filter_nil]
 by_cases h:m∈L.getD j []
 ·rw[if_pos h,if_pos (decide_eq_true h)]
 ·rw[if_neg h,if_neg (by rw[decide_eq_false h]; decide)]
theorem Xt(L:List (List Int))(j:Nat)(m:Int):(hasK L j m).length≤j:=by
 have:=List.length_filter_le (fun i=>decide (m∈L.getD i [])) (List.range j)
 rw[List.length_range] at this
 exact this
theorem has2 (hL:CnP n L) {j:Nat} (hj:j<L.length) {b:List (List Int)} {c:Int} {a:Ag.V} {d e g:List Int} (hq:∀m,mget (.int .i64) (.sl (.int .i64)) q m=ixV (hasK L j m)) :
    Ret (Hd (j:Int) b c a d e g (L.getD j []) ((L.getD j []).length:Int) 0 q) fun q'=>∀m,mget (.int .i64) (.sl (.int .i64)) q' m=ixV (hasK L (j+1) m):=by
 have hc:=hL.2.2 _ (A9 (z:=[]) hj)
 have h400:=hc.1
 have hll:=hL.2.1
 unfold Hd
 refine A2 (fun w (s:Int×List (Int×List Int))=>∃o:Nat,o≤(L.getD j []).length∧w=(L.getD j []).length-o∧s.1=(o:Int)∧∀m,mget (.int .i64) (.sl (.int .i64)) s.2 m=ixV (hasK L j m++if m∈(L.getD j []).take o then[j] else[])) (fun w s hI=>?_) _ (0,q) ⟨0,Nat.zero_le _,rfl,rfl,fun m=>by rw[List.take_zero,if_neg List.not_mem_nil,List.append_nil]; exact hq m⟩
 obtain⟨s1,s2⟩:=s
 obtain⟨o,ho,rfl,h1,h2⟩:=hI
 simp only at h1 h2
 subst h1
 unfold Fx HK GI
 simp only
 rcases Nat.lt_or_ge o (L.getD j []).length with h | h
 ·have hni:(L.getD j []).getD o 0∉(L.getD j []).take o:=fun hx=>by
    have hp:=hc.2.2
    rw[←List.take_append_drop o (L.getD j []),List.pairwise_append] at hp
    have:=hp.2.2 _ hx ((L.getD j []).getD o 0) (by rw[List.drop_eq_getElem_cons h,gD h]; exact List.mem_cons_self)
    omega
  have hg:mget (.int .i64) (.sl (.int .i64)) s2 ((L.getD j []).getD o 0)=ixV (hasK L j ((L.getD j []).getD o 0)):=by rw[h2,if_neg hni,List.append_nil]
  have hkl:=Xt L j ((L.getD j []).getD o 0)
  rw[dlt h,cond_true,if_pos (rng h),Int.toNat_natCast,zi,hg,if_pos (app8 (by rw[Li]; omega) _),show keyEq (.int .i64) ((L.getD j []).getD o 0) ((L.getD j []).getD o 0)=true from beq_iff_eq.2 rfl,cond_true,Option.bind_some,stepN h (by omega)]
  refine Ret.mk ⟨_,by omega,o+1,h,rfl,rfl,fun m=>?_⟩
  simp only
  rw[W2,AB (z:=(0:Int)) h]
  by_cases e:m=(L.getD j []).getD o 0
  ·rw[if_pos e,e,if_pos (by simp)]
   unfold ixV; rw[List.map_append]; rfl
  ·rw[if_neg e,h2]
   simp only[List.mem_append,List.mem_singleton,e,or_false]
 ·have:o=(L.getD j []).length:=by omega
  subst this
  rw[dge,cond_false]
  refine Ret.mk fun m=>?_
  rw[h2,List.take_of_length_le (Nat.le_refl _),Vg]
theorem R7(hL:CnP n L):∃q,HasP L q∧Gx ((n:Int),L,())=some (0,((n:Int),L,()),q,gdV L [],bdV L [],isV n []):=by
 have hn:=hL.1
 have hll:=hL.2.1
 have e1:wI ((n:Int)+1)=((n+1:Nat):Int):=by rw[wrap64 (by omega) (by omega)]; omega
 have g0:List.replicate L.length (0:Int)=gdV L []:=JI (by rw[II,List.length_replicate]) fun i hi=>by
  rw[List.length_replicate] at hi
  rw[L9 hi]; simp[List.getD,hi,cG]
 have b0:List.replicate L.length (0:Int)=bdV L []:=JI (by rw[Hx,List.length_replicate]) fun i hi=>by
  rw[List.length_replicate] at hi
  rw[K8 hi]; simp[List.getD,hi,cB]
 unfold Gx GX
 simp only
 rw[e1,if_pos ⟨rfl,by omega,by omega,by omega,by omega⟩,if_pos ⟨rfl,by omega,by omega,by omega,by omega⟩,if_pos ⟨rfl,by omega,by omega,by omega,by omega⟩,Option.bind_some,Int.toNat_natCast,Int.toNat_natCast,g0,←VZ]
 have hr:Ret (G4 ((n:Int),L,()) L (L.length:Int) (gdV L []) (gdV L []) (isV n []) 0 ([]:List (Int×List Int))) fun q=>HasP L q:=by
  unfold G4
  refine A2 (fun w (s:Int×List (Int×List Int))=>∃j:Nat,j≤L.length∧w=L.length-j∧s.1=(j:Int)∧∀m,mget (.int .i64) (.sl (.int .i64)) s.2 m=ixV (hasK L j m)) (fun w s hI=>?_) L.length (0,([]:List (Int×List Int))) ⟨0,Nat.zero_le _,rfl,rfl,fun m=>rfl⟩
  obtain⟨s1,s2⟩:=s
  obtain⟨j,hj,rfl,h1,h2⟩:=hI
  simp only at h1 h2
  subst h1
  unfold EY HT
  simp only
  rcases Nat.lt_or_ge j L.length with h | h
  ·rw[dlt h,cond_true,if_pos (rng h),Int.toNat_natCast,show Ty.zero (.sl (.int .i64))=([]:List Int) from rfl,stepN h (by omega)]
   refine Ret.bind (has2 hL h h2) fun q' hq'=>Ret.mk ⟨_,by omega,j+1,h,rfl,rfl,hq'⟩
  ·have:j=L.length:=by omega
   subst this
   rw[dge,cond_false]
   exact Ret.mk h2
 obtain⟨q,h1,h2⟩:=hr
 refine⟨q,h2,?_⟩
 rw[h1,←b0,g0]
 rfl
theorem Mh{a:List Int}(ha:a.length≤1048576)(b:Int):HF a b=some (decide (b∈a)):=by
 unfold HF
 refine Ret.eq_ (Ret.bind (P:=fun t=>(t=.inl ()∧b∈a)∨(t=.inr ()∧b∉a)) ?_ fun t ht=>?_)
 ·unfold Lh
  refine A2 (fun w (i:Int)=>∃k:Nat,i=(k:Int)∧k≤a.length∧w=a.length-k∧∀j,j<k→a.getD j 0≠b) (fun w i hI=>?_) a.length 0 ⟨0,rfl,Nat.zero_le _,rfl,fun _ h=>by omega⟩
  obtain⟨k,rfl,hk,rfl,hE⟩:=hI
  unfold It Kc
  rcases Nat.lt_or_ge k a.length with h | h
  ·rw[dlt h,cond_true,if_pos (rng h),Int.toNat_natCast,zi]
   by_cases hx:a.getD k 0=b
   ·rw[show(a.getD k 0==b)=true from beq_iff_eq.2 hx,cond_true]
    exact Ret.mk (.inl ⟨rfl,by rw[←hx]; exact A9 h⟩)
   ·rw[show(a.getD k 0==b)=false from beq_eq_false_iff_ne.2 hx,cond_false,stepN h ha]
    exact Ret.mk ⟨_,by omega,k+1,rfl,h,rfl,fun j hj=>by rcases Nat.lt_or_ge j k with h' | h'; exact hE j h'; rw[show j=k by omega]; exact hx⟩
  ·have:k=a.length:=by omega
   subst this
   rw[dge,cond_false]
   refine Ret.mk (.inr ⟨rfl,fun hb=>?_⟩)
   obtain⟨j,hj,e⟩:=List.mem_iff_getElem.1 hb
   exact hE j hj (by rw[gD hj,e])
 ·rcases ht with ⟨rfl,h⟩| ⟨rfl,h⟩
  ·exact Ret.mk (decide_eq_true h).symm
  ·exact Ret.mk (decide_eq_false h).symm
theorem WB{a:List Int}(ha:a.length≤1048576)(b:Int):Ret (BV a b) fun r=>(∃k:Nat,r=(k:Int)∧k<a.length∧a.getD k 0=b∧∀j,j<k→a.getD j 0≠b)∨(r=-1∧∀j,j<a.length→a.getD j 0≠b):=by
 unfold BV
 refine Ret.bind (P:=fun t=>(∃k:Nat,t=.inl (k:Int)∧k<a.length∧a.getD k 0=b∧∀j,j<k→a.getD j 0≠b)∨(t=.inr ()∧∀j,j<a.length→a.getD j 0≠b)) ?_ fun t ht=>?_
 ·unfold FH
  refine A2 (fun w (i:Int)=>∃k:Nat,i=(k:Int)∧k≤a.length∧w=a.length-k∧∀j,j<k→a.getD j 0≠b) (fun w i hI=>?_) a.length 0 ⟨0,rfl,Nat.zero_le _,rfl,fun _ h=>by omega⟩
  obtain⟨k,rfl,hk,rfl,hE⟩:=hI
  unfold Ck Er
  rcases Nat.lt_or_ge k a.length with h | h
  ·rw[dlt h,cond_true,if_pos (rng h),Int.toNat_natCast,zi]
   by_cases hx:a.getD k 0=b
   ·rw[show(b==a.getD k 0)=true from beq_iff_eq.2 hx.symm,cond_true]
    exact Ret.mk (.inl ⟨k,rfl,h,hx,hE⟩)
   ·rw[show(b==a.getD k 0)=false from beq_eq_false_iff_ne.2 (Ne.symm hx),cond_false,stepN h ha]
    exact Ret.mk ⟨_,by omega,k+1,rfl,h,rfl,fun j hj=>by rcases Nat.lt_or_ge j k with h' | h'; exact hE j h'; rw[show j=k by omega]; exact hx⟩
  ·have:k=a.length:=by omega
   subst this
   rw[dge,cond_false]
   exact Ret.mk (.inr ⟨rfl,hE⟩)
 ·rcases ht with ⟨k,rfl,h⟩| ⟨rfl,h⟩
  ·exact Ret.mk (.inl ⟨k,rfl,h⟩)
  ·exact Ret.mk (.inr ⟨rfl,h⟩)
end
end Go.Proofs.X
namespace Go.Proofs.X
open Go Go.Va
set_option maxRecDepth 100000
section
variable {n:Nat} {L:List (List Int)} {S T U:List Int} {m z x most:Int} {q:List (Int×List Int)}
def VisE(n:Nat)(L:List (List Int))(most:Int)(e:List Int)(code y:Int)(T:List Int)(r:Option (Bool×Ag.V×Int×Int×Bool×List Int)):Prop :=
 (code=3∧y=most∧∃e',r=some (false,((n:Int),L,()),y,most,true,e'))∨(code=2∧∃e',r=some (false,((n:Int),L,()),y,most,false,e'))∨(code=1∧r=some (true,((n:Int),L,()),y,most,false,T))
def visI(n:Nat)(L:List (List Int))(q:List (Int×List Int))(x most code y:Int)(T:List Int):Int×Int×Int×Int×Ag.V×(List (Int×(List Int)))×(List Int)×(List Int)×(List Int)×(List Int):=(code,x,y,most,((n:Int),L,()),q,gdV L T,bdV L T,isV n T,T)
theorem Acy(hU:OkS n U){k:Nat}(hk:k<n)(h:atS U (k+1)=0):OkS n (U++[-((k+1:Nat):Int)])∧OkS n (U++[((k+1:Nat):Int)]):=by
 have h1:=(Kr (S:=U) (m:=((k+1:Nat):Int)) (by omega)).1 h
 exact⟨OkS.snoc.2 ⟨hU,by omega,by omega,h1.2,by rw[Int.neg_neg]; exact h1.1⟩,OkS.snoc.2 ⟨hU,by omega,by omega,h1.1,h1.2⟩⟩
theorem O0{n:Nat}{U:List Int}{k:Nat}(hk:k<n):(((isV n U).take (n+1)).drop 1).getD k 0=atS U (k+1):=by
 rw[List.take_of_length_le (by rw[Gz]; omega)]
 rw[←Pp (n:=n) (S:=U) (show k+1≤n by omega)]
 simp[List.getD,Nat.add_comm]
theorem Uc (rc:R49) (a:Int) (c:Int) (e:List Int) (g:Int) (hU:U.length≤1048576) (hn:n≤400) {k:Nat} (hk:k≤n) (h:∀j,j<k→atS U (j+1)≠0) :
    Cn rc a ((n:Int),L,()) c false e g U 1=fix (AA rc a ((n:Int),L,()) c false e g U) ((k+1:Nat):Int):=by
 unfold Cn
 refine Ni (fun i=>((i+1:Nat):Int)) k fun i hi=>?_
 have h1:=h i hi
 have h2:¬(((i+1:Nat):Int)∉U∧-((i+1:Nat):Int)∉U):=fun hx=>h1 ((Kr (S:=U) (m:=((i+1:Nat):Int)) (by omega)).2 hx)
 unfold AA A6 Bj Bh
 simp only
 rw[decide_eq_true (show((i+1:Nat):Int)≤(n:Int) by omega),cond_true,Mh hU,Mh hU,Kl (by omega) (by omega),Option.bind_some,Option.bind_some,wrap64 (x:=((i+1:Nat):Int)+1) (by omega) (by omega)]
 by_cases h3:((i+1:Nat):Int)∈U
 ·rw[decide_eq_true h3]; rfl
 ·rw[decide_eq_false h3,cond_false,decide_eq_true (Classical.byContradiction fun h4=>h2 ⟨h3,h4⟩)]; rfl
theorem OS (hL:CnP n L) (hh:HasP L q) (hm:most≤20000):∀(F:Nat) (S:List Int) (y:Int) (e:List Int),OkS n S→n-S.length<F→0≤y→y≤most →
    ∃code y' T,AE F z x y most ((n:Int),L,()) q (gdV L S) (bdV L S) S (isV n S)=some (visI n L q x most code y' T)∧OkS n T∧y≤y'∧y'≤most∧S <+: T∧VisE n L most e code y' T (Aw F 0 S ((n:Int),L,()) y most false e)
 | 0,S,y,e,hS,hF,h0,h1=>by omega
 | F+1,S,y,e,hS,hF,h0,h1=>by
  have hn:=hL.1
  show ∃code y' T,Ci (AE F) z x y most ((n:Int),L,()) q (gdV L S) (bdV L S) S (isV n S)=some (visI n L q x most code y' T)∧OkS n T∧y≤y'∧y'≤most∧S <+: T∧VisE n L most e code y' T (BA (Aw F) 0 S ((n:Int),L,()) y most false e)
  unfold Ci BA
  by_cases hy:y=most
  ·rw[show(y==most)=true from beq_iff_eq.2 hy,cond_true,cond_true]
   exact⟨3,y,S,rfl,hS,Int.le_refl _,h1,List.prefix_refl _,.inl ⟨rfl,hy,_,rfl⟩⟩
  ·rw[show(y==most)=false from beq_eq_false_iff_ne.2 hy,cond_false,cond_false]
   obtain⟨b,U,hu,hU,hpre⟩:=AaR hL n S hS (by omega)
   have hUl:=hU.len
   have hSU:=hpre.length_le
   rw[RQ hL hS hh hu,R1 hL hS hu,Option.bind_some,Option.bind_some,Vi h0 (by omega)]
   cases b with
   | false=>exact⟨2,y+1,U,rfl,hU,by omega,by omega,hpre,.inr (.inl ⟨rfl,_,rfl⟩)⟩
   | true =>
    unfold trS
    simp only[Bool.not_true,cond_false]
    rw[Gz,if_pos ⟨by omega,by omega,Int.le_refl _⟩,Int.toNat_natCast]
    have hdl:(((isV n U).take (n+1)).drop 1).length=n:=by rw[List.length_drop,List.length_take,Gz]; omega
    obtain⟨r,hr,hix⟩:=WB (a:=((isV n U).take (n+1)).drop 1) (by omega) 0
    rw[hr,Option.bind_some]
    rcases hix with ⟨k,rfl,hk,hk0,hlt⟩| ⟨rfl,hall⟩
    ·rw[hdl] at hk
     rw[O0 hk] at hk0
     have hlt':∀j,j<k→atS U (j+1)≠0:=fun j hj=>by rw[←O0 (n:=n) (show j<n by omega)]; exact hlt j hj
     have hok:=Acy hU hk hk0
     have hfree:=(Kr (S:=U) (m:=((k+1:Nat):Int)) (by omega)).1 hk0
     have hl1:=hok.1.len
     rw[List.length_append,List.length_singleton] at hl1
     rw[wrap64 (x:=(k:Int)+1) (by omega) (by omega),show(k:Int)+1=((k+1:Nat):Int) by omega,show(((k+1:Nat):Int)==0)=false from beq_eq_false_iff_ne.2 (by omega),cond_false,Kl (by omega) (by omega)]
     rw[Uc _ _ _ _ _ (by omega) hn (Nat.le_of_lt hk) hlt']
     obtain⟨c1,y1,T1,i1,o1,le1,le1',p1,s1⟩:=OS hL hh hm F (U++[-((k+1:Nat):Int)]) (y+1) e hok.1 (by rw[List.length_append,List.length_singleton]; omega) (by omega) (by omega)
     have st1:=Px (z:=x) (x:=((n:Int),L,())) hL hok.1 hh
     have st2:=Px (z:=x) (x:=((n:Int),L,())) hL hok.2 hh
     have first:∀cs:List Int,cs=[-((k+1:Nat):Int),((k+1:Nat):Int)]→AI (AE F) z (U.length:Int) cs (0,x,y+1,most,((n:Int),L,()),q,gdV L U,bdV L U,isV n U,U) =
         (if c1≠2 then some (.inr (.inl (visI n L q x most c1 y1 T1))) else some (.inl (1,x,y1,most,((n:Int),L,()),q,gdV L U,bdV L U,isV n U,U))):=fun cs hcs=>by
      subst hcs
      unfold AI Cl
      simp only
      rw[show decide ((0:Int)<2)=true from rfl,cond_true,if_pos ⟨Int.le_refl _,show(0:Int)<2 by decide⟩,show([-((k+1:Nat):Int),((k+1:Nat):Int)]:List Int).getD (0:Int).toNat (Ty.zero (.int .i64))=-((k+1:Nat):Int) from rfl,st1,Option.bind_some]
      simp only
      rw[i1,Option.bind_some]
      by_cases hc:c1=2
      ·subst hc
       obtain⟨D,hD⟩:=(List.prefix_append U [-((k+1:Nat):Int)]).trans p1
       subst hD
       unfold visI
       simp only
       rw[show((2:Int) !=2)=false from rfl,cond_false,M0 hL hh o1,if_neg (by simp)]
       rfl
      ·unfold visI
       simp only
       rw[show(c1 !=2)=true from bne_iff_ne.2 hc,cond_true,if_pos hc]
     have sstep:AA (Aw F) 0 ((n:Int),L,()) most false e (y+1) U ((k+1:Nat):Int) =
         ((Aw F 0 (U++[-((k+1:Nat):Int)]) ((n:Int),L,()) (y+1) most false e).bind fun v =>
          (bif v.1 then some (true,v.2.1,v.2.2.1,v.2.2.2.1,v.2.2.2.2.1,v.2.2.2.2.2) else bif !v.2.2.2.2.1 then(Aw F 0 (U++[((k+1:Nat):Int)]) v.2.1 v.2.2.1 v.2.2.2.1 v.2.2.2.2.1 v.2.2.2.2.2) else some (false,v.2.1,v.2.2.1,v.2.2.2.1,v.2.2.2.2.1,v.2.2.2.2.2):Option (Bool×Ag.V×Int×Int×Bool×List Int))).bind fun o=>some (.inr (.inl o)):=by
      unfold AA A6 Bj Bh
      simp only
      rw[decide_eq_true (show((k+1:Nat):Int)≤(n:Int) by omega),cond_true,Mh (by omega),Mh (by omega),Kl (by omega) (by omega),Option.bind_some,Option.bind_some,decide_eq_false hfree.1,cond_false,decide_eq_false hfree.2,cond_false,Option.bind_some,Sum.elim_inr,if_pos (by omega),if_pos (app8 (by omega) _)]
      rw[Option.bind_assoc,Option.bind_assoc]
      congr 1
      funext v
      cases v.1 with
      | true=>rfl
      | false =>
       simp only[cond_false]
       cases v.2.2.2.2.1 with
       | true=>rfl
       | false =>
        simp only[Bool.not_false,cond_true]
        rw[if_pos (show U.length*8≤140737488355328 by omega),if_pos (app8 (by omega) _),Option.bind_assoc]
        rfl
     unfold FP
     by_cases hc:c1=2
     ·subst hc
      rcases s1 with ⟨h,_⟩| ⟨_,e1,s1⟩| ⟨h,_⟩
      ·cases h
      ·obtain⟨c2,y2,T2,i2,o2,le2,le2',p2,s2⟩:=OS hL hh hm F (U++[((k+1:Nat):Int)]) y1 e1 hok.2 (by rw[List.length_append,List.length_singleton]; omega) (by omega) le1'
       rw[s1] at sstep
       simp only[Option.bind_some,cond_false,Bool.not_false,cond_true] at sstep
       have second:AI (AE F) z (U.length:Int) [-((k+1:Nat):Int),((k+1:Nat):Int)] (1,x,y1,most,((n:Int),L,()),q,gdV L U,bdV L U,isV n U,U) =
           (if c2≠2 then some (.inr (.inl (visI n L q x most c2 y2 T2))) else some (.inl (2,x,y2,most,((n:Int),L,()),q,gdV L U,bdV L U,isV n U,U))):=by
        unfold AI Cl
        simp only
        rw[show decide ((1:Int)<2)=true from rfl,cond_true,if_pos ⟨by decide,show(1:Int)<2 by decide⟩,show([-((k+1:Nat):Int),((k+1:Nat):Int)]:List Int).getD (1:Int).toNat (Ty.zero (.int .i64))=((k+1:Nat):Int) from rfl,st2,Option.bind_some]
        simp only
        rw[i2,Option.bind_some]
        by_cases hc:c2=2
        ·subst hc
         obtain⟨D,hD⟩:=(List.prefix_append U [((k+1:Nat):Int)]).trans p2
         subst hD
         unfold visI
         simp only
         rw[show((2:Int) !=2)=false from rfl,cond_false,M0 hL hh o2,if_neg (by simp)]
         rfl
        ·unfold visI
         simp only
         rw[show(c2 !=2)=true from bne_iff_ne.2 hc,cond_true,if_pos hc]
       have f1:=first _ rfl
       rw[if_neg (by simp)] at f1
       rw[HM f1]
       rcases s2 with ⟨rfl,hy2,e2,s2⟩| ⟨rfl,e2,s2⟩| ⟨rfl,s2⟩
       ·rw[if_pos (by decide)] at second
        rw[Bv second]
        rw[s2] at sstep
        rw[Bv sstep]
        exact⟨3,y2,T2,rfl,o2,by omega,le2',hpre.trans ((List.prefix_append _ _).trans p2),.inl ⟨rfl,hy2,e2,rfl⟩⟩
       ·rw[if_neg (by simp)] at second
        rw[HM second,Bv (t:=.inr (x,y2,most,((n:Int),L,()),q,gdV L U,bdV L U,isV n U,U)) rfl]
        rw[s2] at sstep
        rw[Bv sstep]
        exact⟨2,y2,U,rfl,hU,by omega,le2',hpre,.inr (.inl ⟨rfl,e2,rfl⟩)⟩
       ·rw[if_pos (by decide)] at second
        rw[Bv second]
        rw[s2] at sstep
        rw[Bv sstep]
        exact⟨1,y2,T2,rfl,o2,by omega,le2',hpre.trans ((List.prefix_append _ _).trans p2),.inr (.inr ⟨rfl,rfl⟩)⟩
      ·cases h
     ·have f1:=first _ rfl
      rw[if_pos hc] at f1
      rw[Bv f1]
      rcases s1 with ⟨rfl,hy1,e1,s1⟩| ⟨h,_⟩| ⟨rfl,s1⟩
      ·rw[s1] at sstep
       rw[Bv sstep]
       exact⟨3,y1,T1,rfl,o1,by omega,le1',hpre.trans ((List.prefix_append _ _).trans p1),.inl ⟨rfl,hy1,e1,rfl⟩⟩
      ·exact(hc h).elim
      ·rw[s1] at sstep
       rw[Bv sstep]
       exact⟨1,y1,T1,rfl,o1,by omega,le1',hpre.trans ((List.prefix_append _ _).trans p1),.inr (.inr ⟨rfl,rfl⟩)⟩
    ·have hall':∀j,j<n→atS U (j+1)≠0:=fun j hj=>by rw[←O0 hj]; exact hall j (by omega)
     rw[Uc _ _ _ _ _ (by omega) hn (Nat.le_refl _) hall',Bv (t:=.inr ()) (by
      unfold AA A6
      simp only
      rw[decide_eq_false (by omega),cond_false])]
     exact⟨1,y+1,U,rfl,hU,by omega,by omega,hpre,.inr (.inr ⟨rfl,rfl⟩)⟩
end
end Go.Proofs.X
namespace Go.Proofs.X
open Go Go.Va
set_option maxRecDepth 100000
section
variable {n:Nat} {L:List (List Int)} {T:List Int} {most:Int}
def onV(n:Nat)(T:List Int):List Bool:=(List.range n).map fun i=>decide (((i+1:Nat):Int)∈T)
theorem Aa9{T:List Int}{k:Nat}(hk:0<k):decide (atS T k>0)=decide ((k:Int)∈T):=by
 unfold atS
 by_cases h:(k:Int)∈T
 ·rw[if_pos h,decide_eq_true h]; exact decide_eq_true (by omega)
 ·rw[if_neg h,decide_eq_false h]
  refine decide_eq_false ?_
  split<;>omega
theorem specOn(hn:n≤400)(hT:T.length≤1048576){a:Ag.V}{b c:Int}{e:Bool}:I4 ((n:Int),L,()) a b c e T 1 ([]:List Bool)=some (onV n T):=by
 unfold I4
 exact AG (f:=C5 ((n:Int),L,()) a b c e T) (fun k=>(((k+1:Nat):Int),onV k T)) (t:=onV n T) n (fun k hk=>by
  unfold C5 GW
  simp only
  rw[decide_eq_true (show((k+1:Nat):Int)≤(n:Int) by omega),cond_true,Mh hT,Option.bind_some,if_pos (by simp[onV]; omega),wrap64 (by omega) (by omega)]
  unfold onV
  rw[List.range_succ,List.map_append]
  rfl) (by
  unfold C5 GW
  simp only
  rw[decide_eq_false (by omega),cond_false])
theorem implOn(hn:n≤400){b c d:Int}{e:Ag.V}{g:List (Int×List Int)}{i j k:List Int}:Jb ((List.replicate n false).length:Int) b c d e g i j k (isV n T) 0 (List.replicate n false)=some (onV n T):=by
 unfold Jb
 rw[List.length_replicate]
 have:=AG (f:=B9 (n:Int) b c d e g i j k (isV n T)) (fun k=>((k:Int),fillN (fun i=>decide (((i+1:Nat):Int)∈T)) false n k)) (t:=fillN (fun i=>decide (((i+1:Nat):Int)∈T)) false n n) n (fun k hk=>by
  unfold B9 GL
  simp only
  rw[dlt hk,cond_true,stepN hk (by omega),Gz,if_pos ⟨by omega,by omega⟩,fillN_len,if_pos (rng hk),Int.toNat_natCast,Int.toNat_natCast,zi,Pp (by omega),Aa9 (by omega),←fillN_set]) (by
  unfold B9 GL
  simp only
  rw[dge,cond_false])
 rw[fillN_zero] at this
 rw[show fix (B9 (n:Int) b c d e g i j k (isV n T)) (0,List.replicate n false)=_ from this]
 congr 1
 unfold fillN onV
 exact List.map_congr_left fun i hi=>by rw[if_pos (List.mem_range.1 hi)]
theorem Vk(hL:CnP n L)(h0:0≤most)(hm:most≤20000):∃v c:Int,∃on:List Bool,IR ((n:Int),L,()) most=some (v,c,on)∧IK ((n:Int),L,()) most=some (v,c,on)∧(c=3∨c=2∨(c=1∧on.length=n))∧0≤v∧v≤20000:=by
 have hn:=hL.1
 have hll:=hL.2.1
 unfold IR IK Je
 obtain⟨r,hr1,hr2⟩:=OM (x:=(n:Int)) (L:=L) (by omega) (by omega) (fun c hc=>by have:=(hL.2.2 c hc).1; omega)
 rw[hr1,hr2.2 ⟨n,rfl,hL⟩,Option.bind_some,Bool.not_true,cond_false,IN,decide_eq_true ⟨h0,hm⟩,Bool.not_true,Option.bind_some,cond_false]
 obtain⟨q,hh,hq⟩:=R7 hL
 rw[hq,Option.bind_some]
 obtain⟨code,y,T,hi,hT,hy0,hy1,_,hs⟩:=OS (z:=0) (x:=0) hL hh hm 1000000 [] 0 [] OkS.nil (by simp; omega) (Int.le_refl _) h0
 have e1:Is 0 0 0 most ((n:Int),L,()) q (gdV L []) (bdV L []) [] (isV n [])=some (visI n L q 0 most code y T):=hi
 simp only
 rw[e1,Option.bind_some]
 rcases hs with ⟨rfl,rfl,e',hs⟩| ⟨rfl,e',hs⟩| ⟨rfl,hs⟩
 ·have e2:Cf 0 [] ((n:Int),L,()) 0 y false []=_:=hs
  rw[e2]
  exact⟨y,3,[],rfl,rfl,.inl rfl,hy0,by omega⟩
 ·have e2:Cf 0 [] ((n:Int),L,()) 0 most false []=_:=hs
  rw[e2]
  exact⟨y,2,[],rfl,rfl,.inr (.inl rfl),hy0,by omega⟩
 ·have e2:Cf 0 [] ((n:Int),L,()) 0 most false []=_:=hs
  rw[e2,Option.bind_some]
  unfold visI
  simp only
  have hTl:=hT.len
  have hc:Ty.row .bool=true∧(0:Int)≤(n:Int)∧(n:Int)≤(n:Int)∧((1:Nat):Int)*(n:Int)≤(281474976710656:Int)∧(n:Int)≤(9223372036854775807:Int):=⟨rfl,by omega,by omega,by omega,by omega⟩
  rw[show((1:Int)==2)=false from rfl,cond_false,show((1:Int)==3)=false from rfl,cond_false,if_pos hc,Int.toNat_natCast,implOn hn,cond_false,Bool.not_true,cond_false,specOn hn (by omega)]
  exact⟨y,1,onV n T,rfl,rfl,.inr (.inr ⟨rfl,by simp[onV]⟩),hy0,by omega⟩
end
section
variable {d:List Aa.V} {on:List Bool}
def valV(d:List Aa.V)(on:List Bool)(v:Nat):Ah.V:=mkB (dw d v).toNat fun i=>on.getD ((dSum d v).toNat+i) false
def valsV(d:List Aa.V)(on:List Bool):List Ah.V:=(List.range d.length).map (valV d on)
theorem QL(hd:DeclsP d){k:Nat}:∀j,k+j≤d.length→dSum d k≤dSum d (k+j)
 | 0,_=>Int.le_refl _
 | j+1,h=>by
  have:=QL hd (k:=k) j (by omega)
  have h2:=(hd.2.1 (k+j) (by omega)).2.1
  have h3:=Iw (d:=d) (k:=k+j) (by omega)
  rw[←Nat.add_assoc]; omega
theorem QK(hd:DeclsP d){k:Nat}(hk:k<d.length):dSum d k+dw d k≤dSum d d.length:=by
 have:=QL hd (k:=k+1) (d.length-(k+1)) (by omega)
 rw[Iw hk,show k+1+(d.length-(k+1))=d.length by omega] at this
 exact this
theorem WV (hd:DeclsP d) {k:Nat} (hk:k<d.length) (hon:dSum d d.length≤(on.length:Int)) {g:List Ah.V} :
    G2 d on ((List.range d.length).map (dSum d)) (k:Int) g 0 ([]:List Int)=some (((List.range (dw d k).toNat).map fun i=>on.getD ((dSum d k).toNat+i) false).map bI):=by
 have h1:=JB hd (Nat.le_of_lt hk)
 have h2:=(hd.2.1 k hk).2.1
 have h3:=QK hd hk
 unfold G2
 have hw:(d.getD k (Ty.zero Aa)).2.1=((dw d k).toNat:Int):=by show dw d k=_; omega
 exact AG (f:=BZ d on ((List.range d.length).map (dSum d)) (k:Int) g) (fun j=>((j:Int),((List.range j).map fun i=>on.getD ((dSum d k).toNat+i) false).map bI)) (t:=((List.range (dw d k).toNat).map fun i=>on.getD ((dSum d k).toNat+i) false).map bI) (dw d k).toNat (fun j hj=>by
  unfold BZ Fo GU
  simp only
  have ei:wI (dSum d k+(j:Int))=(((dSum d k).toNat+j:Nat):Int):=by rw[wrap64 (by omega) (by omega)]; omega
  rw[if_pos (rng hk),Int.toNat_natCast,hw,dlt hj,cond_true,List.length_map,List.length_range,if_pos (rng hk),NN hk,ei,if_pos (rng (by omega)),Int.toNat_natCast,stepN hj (by omega),List.range_succ,List.map_append,List.map_append]
  have hz:(Ty.zero .bool)=false:=rfl
  rw[hz]
  have hl:(((List.range j).map fun i=>on.getD ((dSum d k).toNat+i) false).map bI).length≤4096:=by simp; omega
  cases hb:on.getD ((dSum d k).toNat+j) false with
  | true=>rw[cond_true,Option.bind_some,if_pos (by show(_+1)*1≤_; omega)]; simp only[List.map_cons,List.map_nil,hb]; rfl
  | false=>rw[cond_false,Option.bind_some,if_pos (by show(_+1)*1≤_; omega)]; simp only[List.map_cons,List.map_nil,hb]; rfl) (by
  unfold BZ Fo
  simp only
  rw[if_pos (rng hk),Int.toNat_natCast,hw,dge,cond_false])
theorem X0(hd:DeclsP d){k:Nat}(hk:k<d.length):FE (((List.range (dw d k).toNat).map fun i=>on.getD ((dSum d k).toNat+i) false).map bI)=some (((dw d k).toNat:Int),true,(valV d on k).2.1):=by
 have h2:=(hd.2.1 k hk).2.1
 rw[P2 (by simp; omega) (by simp; omega)]
 simp only[List.length_map,List.length_range]
 unfold valV mkB
 simp only
 rw[Qk fun i _=>show low (fun i=>((List.range (dw d k).toNat).map fun i=>on.getD ((dSum d k).toNat+i) false).getD i false) (dw d k).toNat i=low (fun i=>on.getD ((dSum d k).toNat+i) false) (dw d k).toNat i by
  unfold low
  by_cases hi:i<(dw d k).toNat
  ·simp[hi,List.getD]
  ·simp[hi]]
theorem RA(hd:DeclsP d)(hon:dSum d d.length≤(on.length:Int)):F7 d on=some (true,valsV d on):=by
 have hl:=hd.1
 unfold F7
 obtain⟨r,hr1,hr2⟩:=Lv d
 rw[hr1,hr2.2 hd,Option.bind_some,Bool.not_true,cond_false,OF hd,Option.bind_some]
 simp only
 rw[decide_eq_false (by omega),cond_false]
 have:GM d on ((List.range d.length).map (dSum d)) 0 ([]:List Ah.V)=some (valsV d on):=by
  unfold GM
  exact AG (f:=B3 d on ((List.range d.length).map (dSum d))) (fun k=>((k:Int),(List.range k).map (valV d on))) (t:=valsV d on) d.length (fun k hk=>by
   unfold B3 Fa
   simp only
   rw[dlt hk,cond_true,WV hd hk hon,Option.bind_some,X0 hd hk,Option.bind_some,if_pos (by simp; omega),stepN hk (by omega),List.range_succ,List.map_append]
   rfl) (by
   unfold B3 Fa
   simp only
   rw[dge,cond_false]
   rfl)
 rw[this]
 rfl
theorem Tu{w:Int}{s:List Int}(hs:Words s){k:Nat}(hk:k<64*s.length)(hl:s.length≤1048576):∃s',Ga w (k:Int) s=some s'∧Words s'∧s'.length=s.length∧∀i,bt s' i=(bt s i||decide (i=k)):=by
 have hq:k/64<s.length:=by omega
 have hsl:W64 (shlI .u64 1 ((k%64:Nat):Int)):=Pq L5 rfl (by omega)
 refine⟨s.set (k/64) (orI .u64 (s.getD (k/64) 0) (shlI .u64 1 ((k%64:Nat):Int))),?_,hs.set (Qs (hs.getD _) hsl),List.length_set,fun i=>?_⟩
 ·unfold Ga
  rw[tdiv64 (by omega),tmod64,if_pos (rng hq),if_neg (by omega),if_pos (rng hq),Int.toNat_natCast]
  rfl
 ·rw[M3 hq]
  by_cases h3:i/64=k/64
  ·rw[if_pos h3,VD (hs.getD _) hsl,Sk L5 rfl (by omega),Q6]
   have:tb (s.getD (k/64) 0) (i%64)=bt s i:=by unfold bt; rw[h3]
   rw[this]
   congr 1
   by_cases h:i=k
   ·subst h; simp; omega
   ·simp[h]; omega
  ·rw[if_neg h3,decide_eq_false (by intro h; rw[h] at h3; exact h3 rfl),Bool.or_false]
theorem setB{A:Type}{q:List A}{e:Nat}{x z:A}(he:e<q.length):(q.set e x).getD e z=x:=by simp[List.getD,he]
theorem W4 (hd:DeclsP d) {k:Nat} (hk:k<d.length) {on':List Bool} (hon:(dw d k)≤(on'.length:Int)) {q:List Ah.V} (hq:k<q.length) {b:Int} {i:Aa.V} :
    Hf on' (k:Int) d b (dw d k) i 0 (q.set k (dw d k,List.replicate (nw (dw d k).toNat) 0,()))=some (q.set k (mkB (dw d k).toNat fun i=>on'.getD i false)):=by
 have h2:=(hd.2.1 k hk).2.1
 obtain⟨w,hw⟩:∃w:Nat,dw d k=(w:Int):=⟨(dw d k).toNat,by omega⟩
 rw[hw] at h2 hon ⊢
 rw[Int.toNat_natCast]
 unfold Hf
 refine Ret.eq_ ?_
 refine A2 (fun m (s:Int×List Ah.V)=>∃j:Nat,j≤w∧m=w-j∧s.1=(j:Int)∧∃ws,s.2=q.set k ((w:Int),ws,())∧Words ws∧ws.length=nw w∧∀i,bt ws i=(decide (i<j)&&on'.getD i false)) (fun m s hI=>?_) w _ ⟨0,Nat.zero_le _,rfl,rfl,_,rfl,Words.rep,List.length_replicate,fun i=>by rw[Vh]; simp⟩
 obtain⟨s1,s2⟩:=s
 obtain⟨j,hj,rfl,h3,ws,h4,h5,h6,h7⟩:=hI
 simp only at h3 h4
 subst h3; subst h4
 unfold Fz IE
 simp only
 rcases Nat.lt_or_ge j w with h | h
 ·rw[dlt h,cond_true,stepN h (by omega)]
  unfold GR
  rw[if_pos (rng (by omega)),Int.toNat_natCast,show(Ty.zero .bool)=false from rfl]
  cases hb:on'.getD j false with
  | true =>
   obtain⟨ws',e1,e2,e3,e4⟩:=Tu (w:=(w:Int)) h5 (k:=j) (by rw[h6]; unfold nw; omega) (by rw[h6]; unfold nw; omega)
   rw[cond_true,List.length_set,if_pos (rng hq),Int.toNat_natCast,setB hq,e1,Option.bind_some,Option.bind_some,List.set_set]
   refine Ret.mk ⟨_,by omega,j+1,h,rfl,rfl,ws',rfl,e2,by rw[e3,h6],fun i=>?_⟩
   rw[e4,h7]
   by_cases hi:i=j
   ·subst hi; simp only[hb]; simp
   ·by_cases hi':i<j
    ·simp[hi',hi,show i<j+1 by omega]
    ·simp[hi',hi,show ¬i<j+1 by omega]
  | false =>
   rw[cond_false,Option.bind_some]
   refine Ret.mk ⟨_,by omega,j+1,h,rfl,rfl,ws,rfl,h5,h6,fun i=>?_⟩
   rw[h7]
   by_cases hi:i=j
   ·subst hi; simp only[hb]; simp
   ·by_cases hi':i<j
    ·simp[hi',show i<j+1 by omega]
    ·simp[hi',show ¬i<j+1 by omega]
 ·have:j=w:=by omega
  subst this
  rw[dge,cond_false]
  refine Ret.mk ?_
  have e:ws=mkW (low (fun i=>on'.getD i false) j) (nw j):=Kg h5 (CK _ _) (by rw[D9]; exact h6) fun i _=>by rw[h7 i,ES]
  rw[e]; rfl
theorem R3(hd:DeclsP d)(hon:dSum d d.length≤(on.length:Int))(hon':on.length≤1048576):Gq d on=some (true,valsV d on):=by
 have hl:=hd.1
 unfold Gq GT
 obtain⟨r,hr1,hr2⟩:=M7 d
 rw[hr1,hr2.2 hd,Option.bind_some,Bool.not_true,cond_false,SA hd,Option.bind_some,Option.bind_some,decide_eq_false (by omega),cond_false,if_pos ⟨rfl,by omega,by omega,by omega,by omega⟩,Int.toNat_natCast]
 have z0:fillN (valV d on) (0,([]:List Int),()) d.length 0=List.replicate d.length (0,([]:List Int),()):=fillN_zero _ _ _
 have:G7 d (d.length:Int) on 0 (List.replicate d.length (0,([]:List Int),()))=some (valsV d on):=by
  unfold G7
  have:=AG (f:=Bm d (d.length:Int)) (fun k=>(on.drop (dSum d k).toNat,(k:Int),fillN (valV d on) (0,([]:List Int),()) d.length k)) (t:=fillN (valV d on) (0,([]:List Int),()) d.length d.length) d.length (fun k hk=>by
   have h1:=JB hd (Nat.le_of_lt hk)
   have h2:=(hd.2.1 k hk).2.1
   have h3:=QK hd hk
   have hw:(d.getD k (Ty.zero Aa)).2.1=dw d k:=rfl
   have hwn:dw d k=((dw d k).toNat:Int):=by omega
   have hdl:(on.drop (dSum d k).toNat).length=on.length-(dSum d k).toNat:=List.length_drop
   have hd1:((on.drop (dSum d k).toNat).length:Int)=(on.length:Int)-dSum d k:=by rw[hdl]; omega
   clear hdl
   have hz:=Lm (n:=(dw d k).toNat) (by omega)
   rw[←hwn] at hz
   unfold Bm Fk
   simp only
   rw[dlt hk,cond_true,if_pos (rng hk),Int.toNat_natCast,hw,hz,Option.bind_some,fillN_len,if_pos (rng hk)]
   have hc:(0:Int)≤dw d k∧dw d k≤((on.drop (dSum d k).toNat).length:Int)∧((on.drop (dSum d k).toNat).length:Int)≤((on.drop (dSum d k).toNat).length:Int):=⟨by omega,by omega,Int.le_refl _⟩
   rw[W4 hd hk (by omega) (by rw[fillN_len]; exact hk),Option.bind_some,if_pos hc,stepN hk (by omega),Int.toNat_natCast,List.take_of_length_le (Nat.le_refl _),List.drop_drop,←fillN_set]
   rw[show(dSum d k).toNat+(dw d k).toNat=(dSum d (k+1)).toNat by rw[Iw hk]; omega]
   rw[show(mkB (dw d k).toNat fun i=>(on.drop (dSum d k).toNat).getD i false)=valV d on k from Q2 fun i _=>by simp[List.getD]]) (by
   unfold Bm Fk
   simp only
   rw[dge,cond_false])
  rw[z0,show(dSum d 0).toNat=0 from rfl,List.drop_zero] at this
  rw[show fix (Bm d (d.length:Int)) (on,0,List.replicate d.length (0,([]:List Int),()))=_ from this]
  congr 1
  unfold fillN valsV
  exact List.map_congr_left fun i hi=>by rw[if_pos (List.mem_range.1 hi)]
 rw[this]
 rfl
end
end Go.Proofs.X
namespace Go.Proofs.X
open Go Go.Va
set_option maxRecDepth 100000
section
variable {d:List Aa.V} {l:List Ae.V}
def ResP(d:List Aa.V)(r:Int×Int×List Ah.V):Prop:=(0≤r.1∧r.1≤20000)∧(0≤r.2.1∧r.2.1≤20000)∧(r.2.2=[]∨∃on,DeclsP d∧r.2.2=valsV d on)
theorem Yh(hl:∀x∈l,LitB x)(c:Int):∃r,Em d l c=some r∧CU d l c=some r∧ResP d r:=by
 unfold Em CU EZ Fb Eb
 obtain⟨r1,e1,h1⟩:=NX (d:=d) hl
 obtain⟨r2,e2,h2⟩:=Rq (d:=d) hl
 have h12:r1=r2:=WP h1 h2
 subst h12
 rw[e1,e2,Option.bind_some,Option.bind_some]
 cases r1 with
 | false=>exact⟨_,rfl,rfl,⟨by decide,by decide⟩,⟨by decide,by decide⟩,.inl rfl⟩
 | true =>
  obtain⟨hd,hp⟩:=h1.1 rfl
  simp only[Bool.not_true,cond_false,IN,FQ]
  obtain⟨s1,f1,g1⟩:=specSidesV hd hl hp.1
  obtain⟨s2,f2,g2⟩:=implSidesV hd hl hp
  rw[f1,f2,Option.bind_some,Option.bind_some]
  by_cases hs:SidesP d l
  ·rcases g1 with ⟨rfl,_⟩| ⟨_,h⟩
   ·rcases g2 with ⟨rfl,_⟩| ⟨_,h⟩
    ·simp only[Bool.not_true,cond_false,Option.bind_some]
     by_cases hc:0≤c∧c≤20000
     ·rw[decide_eq_true hc]
      simp only[Bool.not_true,cond_false,Option.bind_some]
      have hb:BlO d l:=⟨hd,hl,hp,hs⟩
      have hbl:=MO hb l.length (Nat.le_refl _)
      obtain⟨t1,a1,b1⟩:=QR hb
      obtain⟨t2,a2,b2⟩:=PB hb
      rw[a1,a2,Option.bind_some,Option.bind_some]
      rcases b1 with ⟨rfl,hq⟩| ⟨hf,hq⟩
      ·rcases b2 with ⟨rfl,_⟩| ⟨_,hq'⟩
       ·obtain⟨n,hn,hL⟩:=hq
        simp only[Bool.not_true,cond_false]
        rw[hn]
        obtain⟨v,cd,on,i1,i2,i3,v0,v1⟩:=Vk hL hc.1 hc.2
        rw[i1,i2,Option.bind_some,Option.bind_some]
        simp only
        rcases i3 with rfl | rfl | ⟨rfl,hlen⟩
        ·exact⟨_,rfl,rfl,⟨show(0:Int)≤4 by decide,show(4:Int)≤20000 by decide⟩,⟨hc.1,hc.2⟩,.inl rfl⟩
        ·exact⟨_,rfl,rfl,⟨show(0:Int)≤3 by decide,show(3:Int)≤20000 by decide⟩,⟨v0,v1⟩,.inl rfl⟩
        ·have hmono:=(O2 (d:=d) (l:=l) 0 l.length).1
         rw[Nat.zero_add,hn] at hmono
         have ht:dSum d d.length≤(on.length:Int):=by rw[hlen]; exact hmono
         have hn4:=hL.1
         rw[RA hd ht,R3 hd ht (by omega)]
         exact⟨_,rfl,rfl,⟨show(0:Int)≤5 by decide,show(5:Int)≤20000 by decide⟩,⟨v0,v1⟩,.inr ⟨on,hd,rfl⟩⟩
       ·exact(hq' hq).elim
      ·rcases b2 with ⟨_,hq'⟩| ⟨hf',_⟩
       ·exact(hq hq').elim
       ·rw[hf,hf']
        exact⟨_,rfl,rfl,⟨by decide,by decide⟩,⟨by decide,by decide⟩,.inl rfl⟩
     ·rw[decide_eq_false hc]
      exact⟨_,rfl,rfl,⟨by decide,by decide⟩,⟨by decide,by decide⟩,.inl rfl⟩
    ·exact(h hs).elim
   ·exact(h hs).elim
  ·rcases g1 with ⟨_,h⟩| ⟨h1,_⟩
   ·exact(hs h).elim
   ·rcases g2 with ⟨_,h⟩| ⟨h2,_⟩
    ·exact(hs h).elim
    ·simp only[Option.bind_some]
     rw[h1,h2]
     by_cases hc:0≤c∧c≤20000
     ·rw[decide_eq_true hc]
      exact⟨_,rfl,rfl,⟨by decide,by decide⟩,⟨by decide,by decide⟩,.inl rfl⟩
     ·rw[decide_eq_false hc]
      exact⟨_,rfl,rfl,⟨by decide,by decide⟩,⟨by decide,by decide⟩,.inl rfl⟩
end
def Hb(b:Int)(s:Ah.V)(b':Int):Prop:=0≤b∧b+1≤2305843009213693952∧s.1=b∧s.2.1.length≤1048576∧Ch Hu s.2.1 (b+1) b'
theorem Aai{b:Int}{s:Ah.V}{b':Int}(h:Hb b s b'):b≤b':=by have:=UQ (fun _ _ _=>ZE) h.2.2.2.2; omega
def costB(s:Ah.V):Nat:=1+s.2.1.length
theorem QX{a:List Ah.V}(hl:a.length≤1048576)(hn:∀s∈a,s.2.1.length≤1048576){k:Int}(h0:0≤k)(hk:k+(((a.map costB).sum:Nat):Int)≤2305843009213693952):Ret (EV k a) (MarkR Hb a (a.map costB).sum k):=by
 unfold EV IQ
 have:=KW (f:=BD) (cost:=costB) (z:=Ty.zero Ah) (a:=a) (H:=Hb) (k:=k) 2305843009213693952 (fun b i d hi hd hg hb0 hb=>by
  unfold BD ED
  simp only
  have hid:i<d.length:=by omega
  have hnb:=hn _ (Az (z:=Ty.zero Ah) hi)
  unfold costB at hb
  rw[hd,dlt hi,cond_true]
  simp(disch:=omega) only[w1,List.length_set,hd,Int.toNat_natCast,gsS hid,List.set_set,if_pos (rng hi),Option.bind_some,Option.bind_assoc]
  rw[hg]
  refine(L1 (a:=(a.getD i (Ty.zero Ah)).2.1) hnb (by omega) (by omega)).bind fun r hr=>?_
  obtain⟨r1,r2,r3,r4⟩:=hr
  refine Ret.mk ⟨r.1,_,rfl,by omega,by unfold costB; omega,hb0,by omega,rfl,?_,r4⟩
  show r.2.length≤_; omega) (fun b d hd=>by
  unfold BD ED
  try simp only
  rw[hd,dge,cond_false]) h0 hk
 exact this.bind fun r hr=>Ret.mk hr
theorem PT{a:List Ah.V}(hn:a.length≤1048576){k k':Int}(h:Ch Hb a k k'):EU a k=some k':=by
 unfold EU IZ
 rw[P8 (f:=BH a) (z:=Ty.zero Ah) (H:=Hb) (fun i b b' hi hH=>by
  unfold BH Ew
  try simp only
  have hm:=Aai hH
  obtain⟨h1,h2,h3,h7,h8⟩:=hH
  rw[dlt hi,cond_true]
  simp(disch:=omega) only[w1,if_pos (rng hi),Int.toNat_natCast,h3,bne_self_eq_false,cond_false]
  rw[Od h7 h8,Option.bind_some,decide_eq_false (by omega),cond_false]
  rfl) (fun b=>by
  unfold BH Ew
  try simp only
  rw[dge,cond_false]) h]
 rfl
theorem TO{d:List Aa.V}(hd:DeclsP d){on:List Bool}:(valsV d on).length≤60∧∀s∈valsV d on,(0≤s.1∧s.1≤4096)∧s.2.1.length≤64∧Words s.2.1:=by
 refine⟨by simp[valsV]; exact hd.1,fun s hs=>?_⟩
 obtain⟨v,hv,rfl⟩:=List.mem_map.1 hs
 have:=(hd.2.1 v (List.mem_range.1 hv)).2.1
 refine⟨?_,?_,CK _ _⟩
 ·show 0≤((dw d v).toNat:Int)∧((dw d v).toNat:Int)≤4096
  omega
 ·show(mkW _ (nw (dw d v).toNat)).length≤64
  rw[D9]; unfold nw; omega
theorem PN{d:List Aa.V}{r:Int×Int×List Ah.V}(h:ResP d r):r.2.2.length≤60∧∀s∈r.2.2,(0≤s.1∧s.1≤4096)∧s.2.1.length≤64∧Words s.2.1:=by
 rcases h.2.2 with h | ⟨on,hd,h⟩
 ·rw[h]; exact⟨by simp,fun s hs=>by cases hs⟩
 ·rw[h]; exact TO hd
theorem Adw{d:List Aa.V}{r:Int×Int×List Ah.V}(h:ResP d r):Ty.Wf AC (r.1,r.2.1,r.2.2,()):=by
 have hs:=PN h
 refine⟨Nt (x:=r.1) (by have:=h.1; omega) (by have:=h.1; omega),Nt (x:=r.2.1) (by have:=h.2.1; omega) (by have:=h.2.1; omega),⟨Nat.le_trans (show r.2.2.length≤1048576 by omega) Qe,fun s hx=>?_⟩,trivial⟩
 have:=hs.2 s hx
 exact⟨Nt (x:=s.1) (Int.le_trans (by decide) this.1.1) (Int.le_trans this.1.2 (by decide)),YO (ws:=s.2.1) this.2.2 (by omega),trivial⟩
theorem Qy:∀{a:List Ah.V},(∀s∈a,s.2.1.length≤64)→(a.map costB).sum≤65*a.length
 | [],_=>by simp
 | s::a,h=>by
  have h1:=h s List.mem_cons_self
  have h2:=Qy fun s hs=>h s (List.mem_cons_of_mem _ hs)
  simp only[List.map_cons,List.sum_cons,List.length_cons,costB]; omega
theorem law_ok(n:List Aa.V)(o:List Ae.V)(q:Int)(hn:Ty.Wf (.sl Aa) n)(ho:Ty.Wf (.sl Ae) o):C1 n o q=some true:=by
 unfold C1 BL
 rw[Tz hn 1048576 (by omega) (by omega),Option.bind_some]
 generalize h1:wt (.sl Aa) n=w1 at *
 by_cases c1:(w1:Int)≤1048576
 case neg=>rw[if_neg c1]; rfl
 rw[if_pos c1,decide_eq_false (by omega),cond_false,O1 ho _ (by omega) (by omega),Option.bind_some]
 generalize h2:wt (.sl Ae) o=w2 at *
 by_cases c2:(w2:Int)≤1048576-(w1:Int)
 case neg=>rw[if_neg c2]; rfl
 rw[if_pos c2,decide_eq_false (by omega),cond_false]
 have ln:n.length≤1048576:=by have:=Se (t:=Aa) n; omega
 have lo:o.length≤1048576:=by have:=Se (t:=Ae) o; omega
 have bo:∀x∈o,LitB x:=fun x hx=>AhQ (ho.2 x hx) (by have:=Y8 (t:=Ae) hx; omega)
 have tn:=Ts ln
 have to':=Ps lo bo
 obtain⟨r,r1,r2,hres⟩:=Yh (d:=n) (l:=o) bo q
 have hsm:=PN hres
 have heq:=Ry (RZ (Adw hres))
 simp only[tn,to',r1,r2,Option.bind_some,heq,Bool.not_true,cond_false,bne_self_eq_false,Ry (TQ hn),Ry (O4 ho)]
 have cl:=Wd o
 have cd:2*n.length≤5*w1:=by have:=Se (t:=Aa) n; omega
 obtain⟨m1,e1,q1,q1',_⟩:=P4 ln (k:=1) (by omega) (by omega)
 rw[e1,Option.bind_some]
 obtain⟨m2,e2,q2,q2',_⟩:=NF lo bo (k:=m1.1) (by omega) (by omega)
 rw[e2,Option.bind_some,decide_eq_false (by omega)]
 simp only[cond_false,Option.bind_some,heq,Bool.not_true]
 have hcost:=Qy (a:=r.2.2) fun s hs=>(hsm.2 s hs).2.1
 obtain⟨m4,e4,q4,q4',q5,q6⟩:=QX (a:=r.2.2) (by omega) (fun s hs=>by have:=(hsm.2 s hs).2.1; omega) (k:=1) (by omega) (by omega)
 have hh:=PT (by rw[q5]; omega) q6
 unfold FK D2
 simp only[e4,Option.bind_some,hh]
 rw[decide_eq_false (show ¬m4.1<0 by omega)]
 simp only[cond_false,Option.bind_some,bne_self_eq_false]
 rw[decide_eq_false (show ¬m4.1<0 by omega)]
 rfl
end Go.Proofs.X
