import Derived.Test.YtlohhmmaibiimaaGreatK14
set_option linter.unusedVariables false
set_option linter.unusedSimpArgs false
namespace Go.Proofs.X
open Go Go.Va
set_option maxRecDepth 100000
theorem Rv {D:List Aa.V} {W:List Int} {t:List Ab.V} {i:Nat} {used:List Bool} (hi:i<t.length) (hn:NodeB (nd t i)) (hin:KidsIn (nd t i) used.length) :
    Ret (GJ D (i:Int) (t,()) W 0 used) fun u=>u.length=used.length∧∀k:Nat,k<used.length→(u.getD k false=true↔used.getD k false=true∨(k:Int)∈nKids (nd t i)):=by
 unfold GJ
 have hlen:=hn.1
 refine B1 (fun j (u:List Bool)=>((j:Int),u)) (nKids (nd t i)).length (fun j u=>u.length=used.length∧∀k:Nat,k<used.length→(u.getD k false=true↔used.getD k false=true∨∃m,m<j∧(nKids (nd t i)).getD m 0=(k:Int))) (fun j u hj hI=>?_) (fun u hI=>?_) (s0:=used) ⟨rfl,fun k _=>⟨fun h=>.inl h,fun h=>by rcases h with h | ⟨m,hm,_⟩; exact h; omega⟩⟩
 ·unfold Dn Fd
  simp only
  rw[if_pos (rng hi),Int.toNat_natCast,if_pos (rng hi),Int.toNat_natCast]
  show Ret (bif decide ((j:Int)<((nKids (nd t i)).length:Int)) then(if(0:Int)≤(j:Int)∧(j:Int)<((nKids (nd t i)).length:Int) then(if(0:Int)≤(nKids (nd t i)).getD j 0∧(nKids (nd t i)).getD j 0<(u.length:Int) then some (Sum.inl (wI ((j:Int)+1),u.set ((nKids (nd t i)).getD j 0).toNat true)) else none) else none) else _) _
  have hkin:=hin _ (Az (z:=0) hj)
  rw[dlt hj,cond_true,if_pos (rng hj),if_pos ⟨hkin.1,by rw[hI.1]; exact hkin.2⟩,stepN hj (by omega)]
  obtain⟨k,hk⟩:∃k:Nat,(nKids (nd t i)).getD j 0=(k:Int):=⟨((nKids (nd t i)).getD j 0).toNat,by omega⟩
  rw[hk,Int.toNat_natCast]
  refine Ret.mk ⟨_,rfl,by rw[List.length_set]; exact hI.1,fun i' hi'=>?_⟩
  rw[Mk (by rw[hI.1]; omega)]
  by_cases hik:i'=k
  ·subst hik
   simp only[if_true,true_iff]
   exact .inr ⟨j,by omega,hk⟩
  ·rw[if_neg hik,hI.2 i' hi']
   constructor
   ·rintro(h | ⟨m,h1,h2⟩)
    ·exact .inl h
    ·exact .inr ⟨m,by omega,h2⟩
   ·rintro(h | ⟨m,h1,h2⟩)
    ·exact .inl h
    ·rcases Nat.lt_or_ge m j with h' | h'
     ·exact .inr ⟨m,h',h2⟩
     ·have:m=j:=by omega
      subst this
      rw[hk] at h2; omega
 ·unfold Dn Fd
  simp only
  rw[if_pos (rng hi),Int.toNat_natCast]
  show Ret (bif decide (((nKids (nd t i)).length:Int)<((nKids (nd t i)).length:Int)) then _ else some (Sum.inr u)) _
  rw[dge,cond_false]
  refine Ret.mk ⟨hI.1,fun k hk=>?_⟩
  rw[hI.2 k hk,LB]
theorem Pm{d:List Aa.V}{t:List Ab.V}(ht:TermB t)(hd:d.length≤1048576):Ret (Gw d (t,())) fun r=>(DeclsP d∧TermP d t r)∨(r=[]∧¬(DeclsP d∧∃ws,TermP d t ws)):=by
 unfold Gw
 have htb:=ht.1
 obtain⟨b,hb1,hb2⟩:∃b,EN d (t,())=some b∧(b=false↔DeclsP d∧1≤t.length∧t.length≤400):=by
  obtain⟨r,hr,hq⟩:=Lv d
  unfold EN
  rw[hr,Option.bind_some]
  show ∃b,(bif !r then some true else bif decide ((t.length:Int)<1) then some true else some (decide ((t.length:Int)>400)))=some b∧_
  cases r with
  | false=>exact⟨true,rfl,fun h=>by(cases h),fun h=>by have:=hq.2 h.1; cases this⟩
  | true =>
   have hdp:=hq.1 rfl
   by_cases h1:(t.length:Int)<1
   ·rw[decide_eq_true h1]
    exact⟨true,rfl,fun h=>by(cases h),fun h=>by omega⟩
   ·rw[decide_eq_false h1]
    refine⟨_,rfl,?_⟩
    rw[decide_eq_false_iff_not]
    exact⟨fun h=>⟨hdp,by omega,by omega⟩,fun h=>by omega⟩
 rw[hb1,Option.bind_some]
 cases b with
 | true =>
  refine Ret.mk (.inr ⟨rfl,fun h=>?_⟩)
  obtain⟨h1,ws,h2⟩:=h
  have:=hb2.2 ⟨h1,h2.1,h2.2.1⟩
  cases this
 | false =>
  obtain⟨hdp,hl1,hl2⟩:=hb2.1 rfl
  rw[cond_false]
  show Ret (if Ty.row .bool=true∧(0:Int)≤(t.length:Int)∧(t.length:Int)≤(t.length:Int)∧((1:Nat):Int)*(t.length:Int)≤(281474976710656:Int)∧(t.length:Int)≤(9223372036854775807:Int) then(G3 d (t,()) 0 [] (List.replicate (t.length:Int).toNat false)).bind _ else none) _
  rw[if_pos ⟨rfl,by omega,by omega,by omega,by omega⟩,Int.toNat_natCast]
  refine Ret.bind (P:=fun r=>(∃x,r=.inl x∧¬∃ws,TermP d t ws)∨(∃ws u,r=.inr (u,ws)∧ws.length=t.length∧Pre d t ws∧u.length=t.length∧∀k:Nat,k<t.length→(u.getD k false=true↔UsedBy t k t.length))) ?_ fun r hr=>?_
  ·unfold G3
   refine B1 (fun i (s:List Int×List Bool)=>((i:Int),s.1,s.2)) t.length
    (fun i s=>s.1.length=i∧Pre d t s.1∧s.2.length=t.length∧∀k:Nat,k<t.length→(s.2.getD k false=true↔UsedBy t k i))
    (fun i s hi hI=>?_) (fun s hI=>?_) (s0:=(([]:List Int),List.replicate t.length false)) ⟨rfl,⟨Nat.zero_le _,fun j hj=>by simp at hj⟩,List.length_replicate,fun k hk=>by
     have h0:(List.replicate t.length false).getD k false=false:=by simp[List.getD,hk]
     constructor
     ·intro h; rw[h0] at h; cases h
     ·rintro⟨j,hj,_⟩; omega⟩
   ·obtain⟨ws,used⟩:=s
    obtain⟨hwl,hp,hul,hu⟩:=hI
    simp only at hwl hp hul hu
    subst hwl
    have hn:NodeB (nd t ws.length):=ht.2 _ (Az hi)
    unfold Dt Fh
    simp only
    rw[show decide ((ws.length:Int)<(t.length:Int))=true from dlt hi,cond_true,if_pos (rng hi),Int.toNat_natCast]
    obtain⟨r,hr,hq⟩:=Rr (d:=d) (i:=ws.length) hn (by omega) hd
    rw[show Hk d (t.getD ws.length (Ty.zero Ab)) (ws.length:Int)=some r from hr,Option.bind_some]
    cases r with
    | false =>
     refine Ret.mk (.inl ⟨_,rfl,fun⟨ws',h'⟩=>?_⟩)
     obtain⟨w,hw⟩:=h'.node hp hi
     have:=hq.2 ⟨hw.1,hw.2.1,hw.2.2.1⟩
     cases this
    | true =>
     obtain⟨hin,hpl,hform⟩:=hq.1 rfl
     simp only[Bool.not_true,cond_false]
     rw[if_pos (rng hi)]
     have hwb:=hp.wide htb
     obtain⟨w,hw,hwe⟩:=RN (d:=d) hn hwb hin hform
     rw[show Hw d (t.getD ws.length (Ty.zero Ab)) ws=some w from hw,Option.bind_some,IN]
     have hclip:=X2 hwb hin hform
     by_cases hrg:1≤w∧w≤4096
     ·rw[decide_eq_true hrg]
      simp only[Bool.not_true,cond_false]
      have hnode:NodeP d ws (nd t ws.length) w:=⟨hin,hpl,hform,by
       rcases hclip with h | h
       ·rw[hwe,h]; rfl
       ·omega,hrg⟩
      rw[if_pos (by show(_+1)*8≤_; omega)]
      refine Ret.bind (Rv hi hn (by rw[hul]; exact fun k hk=>by have:=hin k hk; omega)) fun u hu'=>Ret.mk ⟨(ws++[w],u),by rw[stepN hi htb],by simp,hp.snoc hi hnode,hu'.1.trans hul,fun k hk=>?_⟩
      rw[hu'.2 k (by omega),hu k hk]
      constructor
      ·rintro(⟨j,h1,h2⟩| h)
       ·exact⟨j,by omega,h2⟩
       ·exact⟨ws.length,by omega,h⟩
      ·rintro⟨j,h1,h2⟩
       rcases Nat.lt_or_ge j ws.length with h' | h'
       ·exact .inl ⟨j,h',h2⟩
       ·rw[show j=ws.length by omega] at h2; exact .inr h2
     ·rw[decide_eq_false hrg]
      refine Ret.mk (.inl ⟨_,rfl,fun⟨ws',h'⟩=>?_⟩)
      obtain⟨v,hv⟩:=h'.node hp hi
      have h3:=hv.2.2.2
      have e:(kidW ws (nd t ws.length)).sum=sumK ws (nd t ws.length):=rfl
      rw[e] at h3
      rcases hclip with h | h
      ·rw[hwe,h] at hrg
       exact hrg (by rw[←h3.1]; exact h3.2)
      ·omega
   ·obtain⟨ws,used⟩:=s
    obtain⟨hwl,hp,hul,hu⟩:=hI
    unfold Dt Fh
    simp only
    rw[dge,cond_false]
    exact Ret.mk (.inr ⟨ws,used,rfl,hwl,hp,hul,hu⟩)
  ·rcases hr with ⟨x,rfl,h⟩| ⟨ws,u,rfl,hwl,hp,hul,hu⟩
   ·exact Ret.mk (.inr ⟨rfl,fun hh=>h hh.2⟩)
   ·simp only[Sum.elim_inr]
    refine Ret.bind (P:=fun r=>(r=.inl ()∧¬∀k,k+1<t.length→u.getD k false=true)∨(r=.inr ()∧∀k,k+1<t.length→u.getD k false=true)) ?_ fun r hr=>?_
    ·unfold Ju
     refine B1 (fun j (_:Unit)=>(j:Int)) (t.length-1) (fun j _=>∀k,k<j→u.getD k false=true) (fun j _ hj hJ=>?_) (fun _ hJ=>?_) (s0:=()) (fun i h=>by omega)
     ·unfold Dl Fc
      rw[stepN (show j<t.length by omega) htb,hul,show decide (((j+1:Nat):Int)<(t.length:Int))=true from decide_eq_true (by omega),cond_true,if_pos (rng (by omega)),Int.toNat_natCast]
      show Ret (bif !(u.getD j false) then _ else _) _
      cases hc:u.getD j false with
      | false=>exact Ret.mk (.inl ⟨rfl,fun h=>by rw[h j (by omega)] at hc; cases hc⟩)
      | true =>
       refine Ret.mk ⟨(),rfl,fun k hk=>?_⟩
       rcases Nat.lt_or_ge k j with h' | h'
       ·exact hJ k h'
       ·rw[show k=j by omega]; exact hc
     ·unfold Dl Fc
      rw[show wI (((t.length-1:Nat):Int)+1)=(t.length:Int) from wrapN (by omega) (by omega),hul,dge,cond_false]
      exact Ret.mk (.inr ⟨rfl,fun k hk=>hJ k (by omega)⟩)
    ·rcases hr with ⟨rfl,h⟩| ⟨rfl,h⟩
     ·exact Ret.mk (.inr ⟨rfl,fun⟨_,ws',h'⟩=>h fun k hk=>(hu k (by omega)).2 (h'.2.2.2.2 k hk)⟩)
     ·exact Ret.mk (.inl ⟨hdp,hl1,hl2,hwl,hp,fun k hk=>(hu k (by omega)).1 (h k hk)⟩)
open Classical in
noncomputable def termW(d:List Aa.V)(t:List Ab.V):Int:=if h:∃ws,TermP d t ws then h.choose.getD (t.length-1) 0 else -1
theorem Mv{d:List Aa.V}{t:List Ab.V}{ws:List Int}(h:TermP d t ws):termW d t=ws.getD (t.length-1) 0:=by
 have he:∃ws,TermP d t ws:=⟨ws,h⟩
 unfold termW
 rw[dif_pos he]
 have h1:=he.choose_spec
 rw[h1.2.2.2.1.unique h.2.2.2.1 (by rw[h1.2.2.1,h.2.2.1])]
theorem LS{d:List Aa.V}{t:List Ab.V}(h:¬∃ws,TermP d t ws):termW d t=-1:=by
 unfold termW; rw[dif_neg h]
theorem Vm{d:List Aa.V}{t:List Ab.V}{ws:List Int}(h:TermP d t ws):1≤termW d t∧termW d t≤4096:=by
 rw[Mv h]
 have:=h.1
 exact(h.2.2.2.1.2 (t.length-1) (by rw[h.2.2.1]; omega)).2.2.2.2
theorem L0{d:List Aa.V}{t:List Ab.V}(ht:TermB t)(hd:d.length≤1048576):Dg d (t,())=some (termW d t):=by
 unfold Dg
 refine Ret.eq_ (Ret.bind (OT ht hd) fun r hr=>?_)
 rcases hr with ⟨h1,h2⟩| ⟨h1,h2⟩
 ·rw[h1]
  simp only[Bool.not_true,cond_false]
  have:=h2.1
  have hb:=ht.1
  rw[h2.2.2.1,show wI ((t.length:Int)-1)=((t.length-1:Nat):Int) from wrapN (by omega) (by omega),if_pos ⟨by omega,by omega⟩,Int.toNat_natCast]
  exact Ret.mk (Mv h2).symm
 ·rw[h1]
  exact Ret.mk (LS h2).symm
theorem KG{d:List Aa.V}{t:List Ab.V}(ht:TermB t)(hd:d.length≤1048576)(hdp:DeclsP d):BS d (t,())=some (termW d t):=by
 unfold BS
 refine Ret.eq_ (Ret.bind (Pm ht hd) fun r hr=>?_)
 rcases hr with ⟨_,h2⟩| ⟨rfl,h2⟩
 ·have:=h2.1
  have hb:=ht.1
  rw[h2.2.2.1,Ln,decide_eq_false (by omega),cond_false,show wI ((t.length:Int)-1)=((t.length-1:Nat):Int) from wrapN (by omega) (by omega),if_pos ⟨by omega,by omega⟩,Int.toNat_natCast]
  exact Ret.mk (Mv h2).symm
 ·exact Ret.mk (LS fun h=>h2 ⟨hdp,h⟩).symm
end Go.Proofs.X
namespace Go.Proofs.X
open Go Go.Va
set_option maxRecDepth 100000
def li(l:List Ae.V)(i:Nat):Ae.V:=l.getD i (Ty.zero Ae)
def lId(l:List Ae.V)(i:Nat):Int:=(li l i).1
def lS(l:List Ae.V)(i:Nat):List Ab.V:=(li l i).2.2.1.1
def lT(l:List Ae.V)(i:Nat):List Ab.V:=(li l i).2.2.2.1.1
def LitP(d:List Aa.V)(l:List Ae.V)(i:Nat):Prop:=(1≤lId l i∧lId l i≤1000000)∧(0<i→lId l (i-1)<lId l i)∧0≤termW d (lS l i)∧termW d (lT l i)=termW d (lS l i)
def LitsP(d:List Aa.V)(l:List Ae.V):Prop:=l.length≤60∧∀i,i<l.length→LitP d l i
def LitB(x:Ae.V):Prop:=TermB x.2.2.1.1∧TermB x.2.2.2.1.1
theorem NX{d:List Aa.V}{l:List Ae.V}(hl:∀x∈l,LitB x):Ret (CT d l) fun r=>r=true↔DeclsP d∧LitsP d l:=by
 unfold CT
 obtain⟨b,hb1,hb2⟩:∃b,Dk d l=some b∧(b=false↔DeclsP d∧l.length≤60):=by
  obtain⟨r,hr,hq⟩:=Lv d
  unfold Dk
  rw[hr,Option.bind_some]
  cases r with
  | false=>exact⟨true,rfl,fun h=>by(cases h),fun h=>by have:=hq.2 h.1; cases this⟩
  | true =>
   have hdp:=hq.1 rfl
   refine⟨decide ((l.length:Int)>60),rfl,?_⟩
   rw[decide_eq_false_iff_not]
   exact⟨fun h=>⟨hdp,by omega⟩,fun h=>by omega⟩
 rw[hb1,Option.bind_some]
 cases b with
 | true=>exact Ret.mk ⟨fun h=>by(cases h),fun h=>by have:=hb2.2 ⟨h.1,h.2.1⟩; cases this⟩
 | false =>
  obtain⟨hdp,hlen⟩:=hb2.1 rfl
  have hd:=hdp.1
  rw[cond_false]
  refine Ret.bind (P:=fun t=>(t=.inl ()∧¬∀i,i<l.length→LitP d l i)∨(t=.inr ()∧∀i,i<l.length→LitP d l i)) ?_ fun t ht=>?_
  ·unfold HN
   refine B1 (fun j (_:Unit)=>(j:Int)) l.length (fun j _=>∀k,k<j→LitP d l k) (fun j _ hj hJ=>?_) (fun _ hJ=>?_) (s0:=()) (fun i h=>by omega)
   ·unfold Cg DK
    have hB:=hl _ (Az (z:=Ty.zero Ae) hj)
    have e1:BS d (l.getD j (Ty.zero Ae)).2.2.1=some (termW d (lS l j)):=KG hB.1 (by omega) hdp
    have e2:BS d (l.getD j (Ty.zero Ae)).2.2.2.1=some (termW d (lT l j)):=KG hB.2 (by omega) hdp
    have e3:(l.getD j (Ty.zero Ae)).1=lId l j:=rfl
    rw[dlt hj,cond_true,if_pos (rng hj),Int.toNat_natCast,e1,Option.bind_some]
    obtain⟨b,hb1,hb2⟩:∃b,Dq d l (j:Int) (termW d (lS l j))=some b∧(b=false↔LitP d l j):=by
     unfold Dq LitP
     rw[if_pos (rng hj),if_pos (rng hj),Int.toNat_natCast,e3,IN,e2,Option.bind_some]
     by_cases h1:1≤lId l j∧lId l j≤1000000
     ·rw[decide_eq_true h1]
      simp only[Bool.not_true,cond_false]
      have last:∃b,(bif decide (termW d (lS l j)<0) then some true else some (termW d (lT l j) !=termW d (lS l j)))=some b∧(b=false↔0≤termW d (lS l j)∧termW d (lT l j)=termW d (lS l j)):=by
       by_cases h2:termW d (lS l j)<0
       ·rw[decide_eq_true h2]; exact⟨true,rfl,fun h=>by(cases h),fun h=>by omega⟩
       ·rw[decide_eq_false h2,cond_false]
        refine⟨_,rfl,?_⟩
        rw[bne_eq_false_iff_eq]
        exact⟨fun h=>⟨by omega,h⟩,fun h=>h.2⟩
      obtain⟨b,hb,hq⟩:=last
      by_cases h2:0<j
      ·rw[decide_eq_true (show(j:Int)>0 by omega),cond_true,show wI ((j:Int)-1)=((j-1:Nat):Int) from wrapN (by omega) (by omega),if_pos (rng (by omega)),Int.toNat_natCast]
       have e4:(l.getD (j-1) (Ty.zero Ae)).1=lId l (j-1):=rfl
       rw[e4]
       by_cases h3:lId l j≤lId l (j-1)
       ·rw[decide_eq_true h3]
        exact⟨true,rfl,fun h=>by(cases h),fun h=>by have:=h.2.1 h2; omega⟩
       ·rw[decide_eq_false h3,cond_false,if_pos (rng hj),hb]
        exact⟨b,rfl,hq.trans ⟨fun h=>⟨h1,fun _=>by omega,h⟩,fun h=>h.2.2⟩⟩
      ·rw[decide_eq_false (show ¬(j:Int)>0 by omega),cond_false,if_pos (rng hj),hb]
       exact⟨b,rfl,hq.trans ⟨fun h=>⟨h1,fun h'=>absurd h' h2,h⟩,fun h=>h.2.2⟩⟩
     ·rw[decide_eq_false h1]
      exact⟨true,rfl,fun h=>by(cases h),fun h=>absurd h.1 h1⟩
    rw[hb1,Option.bind_some]
    cases b with
    | true=>exact Ret.mk (.inl ⟨rfl,fun h=>by have:=hb2.2 (h j hj); cases this⟩)
    | false =>
     rw[cond_false,stepN hj (by omega)]
     refine Ret.mk ⟨(),rfl,fun k hk=>?_⟩
     rcases Nat.lt_or_ge k j with h' | h'
     ·exact hJ k h'
     ·rw[show k=j by omega]; exact hb2.1 rfl
   ·unfold Cg DK
    rw[dge,cond_false]
    exact Ret.mk (.inr ⟨rfl,hJ⟩)
  ·rcases ht with ⟨rfl,h⟩| ⟨rfl,h⟩
   ·exact Ret.mk ⟨fun h=>by(cases h),fun h'=>absurd h'.2.2 h⟩
   ·exact Ret.mk ⟨fun _=>⟨hdp,hlen,h⟩,fun _=>rfl⟩
theorem Rq{d:List Aa.V}{l:List Ae.V}(hl:∀x∈l,LitB x):Ret (Ef d l) fun r=>r=true↔DeclsP d∧LitsP d l:=by
 unfold Ef
 obtain⟨r,hr,hq⟩:=M7 d
 rw[hr,Option.bind_some]
 cases r with
 | false=>exact Ret.mk ⟨fun h=>by(cases h),fun h=>by have:=hq.2 h.1; cases this⟩
 | true =>
  have hdp:=hq.1 rfl
  have hd:=hdp.1
  rw[cond_true]
  unfold FU
  by_cases hlen:l.length≤60
  ·rw[decide_eq_false (by omega:¬(l.length:Int)>60),cond_false]
   refine Ret.bind (P:=fun r=>r=true↔DeclsP d∧LitsP d l) (Ret.bind (P:=fun t=>(t=.inl ()∧¬∀i,i<l.length→LitP d l i)∨(t=.inr ()∧∀i,i<l.length→LitP d l i)) ?_ fun t ht=>?_) fun r h=>Ret.mk h
   ·unfold Ir
    have:=B1 (f:=Bp d l (l.length:Int)) (fun j (_:Unit)=>((if j=0 then 0 else lId l (j-1):Int),(j:Int))) l.length (fun j _=>∀k,k<j→LitP d l k) (Q:=fun t=>(t=.inl ()∧¬∀i,i<l.length→LitP d l i)∨(t=.inr ()∧∀i,i<l.length→LitP d l i)) (fun j _ hj hJ=>?_) (fun _ hJ=>?_) (s0:=()) (fun i h=>by omega)
    ·exact this
    ·unfold Bp DI
     have hB:=hl _ (Az (z:=Ty.zero Ae) hj)
     have e1:Dg d (l.getD j (Ty.zero Ae)).2.2.1=some (termW d (lS l j)):=L0 hB.1 (by omega)
     have e2:Dg d (l.getD j (Ty.zero Ae)).2.2.2.1=some (termW d (lT l j)):=L0 hB.2 (by omega)
     have e3:(l.getD j (Ty.zero Ae)).1=lId l j:=rfl
     simp only
     rw[dlt hj,cond_true,if_pos (rng hj),Int.toNat_natCast,e1,Option.bind_some]
     obtain⟨c,hc⟩:∃c:Int,c=if j=0 then 0 else lId l (j-1):=⟨_,rfl⟩
     have hcb:0≤c∧c≤1000000∧(0<j→c=lId l (j-1))∧(j=0→c=0):=by
      by_cases h0:j=0
      ·rw[if_pos h0] at hc; exact⟨by omega,by omega,fun h=>by omega,fun _=>hc⟩
      ·rw[if_neg h0] at hc
       have:=(hJ (j-1) (by omega)).1
       exact⟨by omega,by omega,fun _=>hc,fun h=>absurd h h0⟩
     rw[←hc]
     obtain⟨b,hb1,hb2⟩:∃b,Dx d c (termW d (lS l j)) l (l.length:Int) (j:Int) (l.getD j (Ty.zero Ae))=some b∧(b=false↔LitP d l j):=by
      unfold Dx LitP
      rw[e3,FQ,wrap64 (x:=c+1) (by omega) (by omega),e2,Option.bind_some]
      by_cases h1:c+1≤lId l j∧lId l j≤1000000
      ·rw[decide_eq_true h1]
       simp only[Bool.not_true,cond_false]
       by_cases h2:termW d (lS l j)<0
       ·rw[decide_eq_true h2]; exact⟨true,rfl,fun h=>by(cases h),fun h=>by omega⟩
       ·rw[decide_eq_false h2,cond_false]
        refine⟨_,rfl,?_⟩
        rw[bne_eq_false_iff_eq]
        exact⟨fun h=>⟨by omega,fun h'=>by have:=hcb.2.2.1 h'; omega,by omega,h.symm⟩,fun h=>h.2.2.2.symm⟩
      ·rw[decide_eq_false h1]
       refine⟨true,rfl,fun h=>by(cases h),fun h=>?_⟩
       exfalso
       apply h1
       rcases Nat.eq_zero_or_pos j with h0 | h0
       ·have:=hcb.2.2.2 h0; omega
       ·have:=hcb.2.2.1 h0; have:=h.2.1 h0; omega
     rw[hb1,Option.bind_some]
     cases b with
     | true=>exact Ret.mk (.inl ⟨rfl,fun h=>by have:=hb2.2 (h j hj); cases this⟩)
     | false =>
      rw[cond_false,stepN hj (by omega)]
      refine Ret.mk ⟨(),rfl,fun k hk=>?_⟩
      rcases Nat.lt_or_ge k j with h' | h'
      ·exact hJ k h'
      ·rw[show k=j by omega]; exact hb2.1 rfl
    ·unfold Bp DI
     simp only
     rw[dge,cond_false]
     exact Ret.mk (.inr ⟨rfl,hJ⟩)
   ·rcases ht with ⟨rfl,h⟩| ⟨rfl,h⟩
    ·exact Ret.mk ⟨fun h=>by(cases h),fun h'=>absurd h'.2.2 h⟩
    ·exact Ret.mk ⟨fun _=>⟨hdp,hlen,h⟩,fun _=>rfl⟩
  ·rw[decide_eq_true (by omega:(l.length:Int)>60)]
   exact Ret.mk ⟨fun h=>by(cases h),fun h=>absurd h.2.1 hlen⟩
end Go.Proofs.X
namespace Go.Va
theorem S0 {T:Type} {f:Int×List T→Option ((Int×List T)⊕List T)} (N:Nat) (it:Nat→List T) (a0:List T)
    (hs:∀k,k<N→f ((k:Int),a0++(List.range k).flatMap it)=some (.inl (((k+1:Nat):Int),a0++(List.range k).flatMap it++it k)))
    (he:f ((N:Int),a0++(List.range N).flatMap it)=some (.inr (a0++(List.range N).flatMap it))):fix f (0,a0)=some (a0++(List.range N).flatMap it):=by
 have:=AG (f:=f) (fun k=>((k:Int),a0++(List.range k).flatMap it)) N (fun k hk=>by
  rw[hs k hk,List.range_succ,List.flatMap_append,List.append_assoc]; simp) he
 simpa using this
theorem Nv{A B:Type}(g:A→B)(l:List A):l.flatMap (fun x=>[g x])=l.map g:=by
 induction l with
 | nil=>rfl
 | cons x l ih=>simp[ih]
theorem Zq9{A B:Type}(b:List B)(l:List A):l.flatMap (fun _=>b)=(List.replicate l.length b).flatten:=by
 induction l with
 | nil=>rfl
 | cons x l ih=>simp[ih,List.replicate_succ]
end Go.Va
namespace Go.Proofs.X
open Go Go.Va
set_option maxRecDepth 100000
def turnBy(n:Ab.V)(w:Nat):Nat:=if nOp n=8 then(w-(nA n).toNat%w)%w else(nA n).toNat%w
def nodeBits(d:List Aa.V)(n:Ab.V)(kids:List (List Bt)):List Bt :=
 if nOp n=1 then(List.range (dw d (nVar n).toNat).toNat).map fun a=>.va (nVar n).toNat a
 else if nOp n=2 then(List.range (nW n).toNat).map fun k=>.co (bt (nWs n) k)
 else if nOp n=3 then kids.reverse.flatten
 else if nOp n=4 then((kids.getD 0 []).take ((nA n).toNat+1)).drop (nB n).toNat
 else if nOp n=5 then kids.getD 0 []++List.replicate (nA n).toNat (.co false)
 else if nOp n=6 then kids.getD 0 []++List.replicate (nA n).toNat ((kids.getD 0 []).getD ((kids.getD 0 []).length-1) (.co false))
 else if nOp n=9 then(List.replicate (nA n).toNat (kids.getD 0 [])).flatten
 else(kids.getD 0 []).drop ((kids.getD 0 []).length-turnBy n (kids.getD 0 []).length)++(kids.getD 0 []).take ((kids.getD 0 []).length-turnBy n (kids.getD 0 []).length)
def BitIn(d:List Aa.V):Bt→Prop
 | .co _=>True
 | .va v a=>v<d.length∧((a:Nat):Int)<dw d v
def kidS(kids:List (List Bt)):Int:=((kids.map List.length).sum:Nat)
def BitsIn(d:List Aa.V)(B:List Bt):Prop:=1≤B.length∧B.length≤4096∧∀b∈B,BitIn d b
structure NB (d:List Aa.V) (n:Ab.V) (kids:List (List Bt)):Prop where
 hd:DeclsP d
 hf:FormP d n
 hb:NodeB n
 hk:kids.length=(nKids n).length
 hw:1≤widF d n (kidS kids)∧widF d n (kidS kids)≤4096
 hin:∀B∈kids,BitsIn d B
theorem KR{d:List Aa.V}(hd:DeclsP d){b:Bt}(h:BitIn d b):BtB b:=by
 cases b with
 | co b=>trivial
 | va v a =>
  obtain⟨h1,h2⟩:=h
  have:=(hd.2.1 v h1).2.1
  have:=hd.1
  exact⟨by omega,by omega⟩
theorem NB.one{d:List Aa.V}{n:Ab.V}{kids:List (List Bt)}(h:NB d n kids)(h1:nOp n≠1)(h2:nOp n≠2)(h3:nOp n≠3):4≤nOp n∧nOp n≤9∧∃B,kids=[B]∧BitsIn d B∧kidS kids=(B.length:Int):=by
 have hf:=h.hf
 unfold FormP at hf
 have:4≤nOp n∧nOp n≤9∧(nKids n).length=1:=by omega
 obtain⟨h4,h9,hl⟩:=this
 have hk:=h.hk
 rw[hl] at hk
 match kids,hk,h.hin with
 | [B],_,hin=>exact⟨h4,h9,B,rfl,hin B List.mem_cons_self,by simp[kidS]⟩
theorem RV{n:Ab.V}{w:Nat}(h:1≤w):turnBy n w<w:=by
 unfold turnBy; split<;>exact Nat.mod_lt _ (by omega)
theorem NP(l:List Nat):l.reverse.sum=l.sum:=by
 induction l with
 | nil=>rfl
 | cons x l ih=>simp[ih]; omega
theorem MV{d:List Aa.V}{n:Ab.V}{kids:List (List Bt)}(h:NB d n kids):((nodeBits d n kids).length:Int)=widF d n (kidS kids):=by
 have hw:=h.hw
 by_cases h1:nOp n=1
 ·simp only[nodeBits,widF,if_pos h1,List.length_map,List.length_range] at hw ⊢; omega
 by_cases h2:nOp n=2
 ·simp only[nodeBits,widF,if_neg h1,if_pos h2,List.length_map,List.length_range] at hw ⊢; omega
 by_cases h3:nOp n=3
 ·have e:¬nOp n=4∧¬(nOp n=5∨nOp n=6)∧¬(nOp n=7∨nOp n=8)∧¬nOp n=9:=by omega
  simp only[nodeBits,widF,if_neg h1,if_neg h2,if_pos h3,if_neg e.1,if_neg e.2.1,if_neg e.2.2.1,if_neg e.2.2.2,kidS]
  rw[List.length_flatten,List.map_reverse,NP]
 obtain⟨h4,h9,B,rfl,hB,hs⟩:=h.one h1 h2 h3
 have hl:=hB.1
 rw[hs] at hw ⊢
 by_cases h4':nOp n=4
 ·simp only[nodeBits,widF,if_neg h1,if_neg h2,if_neg h3,if_pos h4',List.getD_cons_zero,List.length_drop,List.length_take] at hw ⊢
  split at hw<;>rename_i hc
  ·rw[if_pos hc]; omega
  ·omega
 by_cases h5:nOp n=5
 ·have h56:nOp n=5∨nOp n=6:=.inl h5
  simp only[nodeBits,widF,if_neg h1,if_neg h2,if_neg h3,if_neg h4',if_pos h5,if_pos h56,List.getD_cons_zero,List.length_append,List.length_replicate] at hw ⊢
  split at hw<;>rename_i hc
  ·rw[if_pos hc]; omega
  ·omega
 by_cases h6:nOp n=6
 ·have h56:nOp n=5∨nOp n=6:=.inr h6
  simp only[nodeBits,widF,if_neg h1,if_neg h2,if_neg h3,if_neg h4',if_neg h5,if_pos h6,if_pos h56,List.getD_cons_zero,List.length_append,List.length_replicate] at hw ⊢
  split at hw<;>rename_i hc
  ·rw[if_pos hc]; omega
  ·omega
 have h56:¬(nOp n=5∨nOp n=6):=by omega
 by_cases h9':nOp n=9
 ·have h78:¬(nOp n=7∨nOp n=8):=by omega
  simp only[nodeBits,widF,if_neg h1,if_neg h2,if_neg h3,if_neg h4',if_neg h5,if_neg h6,if_neg h56,if_neg h78,if_pos h9',List.getD_cons_zero,List.length_flatten,List.map_replicate,List.sum_replicate_nat] at hw ⊢
  split at hw<;>rename_i hc
  ·rw[if_pos hc]
   have:(nA n)=((nA n).toNat:Int):=by omega
   rw[this,Int.toNat_natCast,Int.natCast_mul,Int.mul_comm]
  ·omega
 ·have h78:nOp n=7∨nOp n=8:=by omega
  have ht:=RV (n:=n) hl
  simp only[nodeBits,widF,if_neg h1,if_neg h2,if_neg h3,if_neg h4',if_neg h5,if_neg h6,if_neg h56,if_pos h78,if_neg h9',List.getD_cons_zero,List.length_append,List.length_drop,List.length_take] at hw ⊢
  split at hw<;>rename_i hc
  ·rw[if_pos hc]; omega
  ·omega
theorem Ld{d:List Aa.V}{n:Ab.V}{kids:List (List Bt)}(h:NB d n kids):BitsIn d (nodeBits d n kids):=by
 have hl:=MV h
 refine⟨by have:=h.hw; omega,by have:=h.hw; omega,fun b hb=>?_⟩
 by_cases h1:nOp n=1
 ·have hf:=h.hf
  unfold FormP at hf
  have hv:0≤nVar n∧nVar n<(d.length:Int):=by omega
  simp only[nodeBits,if_pos h1,List.mem_map,List.mem_range] at hb
  obtain⟨a,ha,rfl⟩:=hb
  exact⟨by omega,by omega⟩
 by_cases h2:nOp n=2
 ·simp only[nodeBits,if_neg h1,if_pos h2,List.mem_map,List.mem_range] at hb
  obtain⟨a,ha,rfl⟩:=hb
  trivial
 by_cases h3:nOp n=3
 ·simp only[nodeBits,if_neg h1,if_neg h2,if_pos h3,List.mem_flatten,List.mem_reverse] at hb
  obtain⟨B,hB,hb⟩:=hb
  exact(h.hin B hB).2.2 b hb
 obtain⟨h4,h9,B,rfl,hB,hs⟩:=h.one h1 h2 h3
 have hz:B.getD (B.length-1) (.co false)∈B:=Az (by have:=hB.1; omega)
 simp only[nodeBits,if_neg h1,if_neg h2,if_neg h3,List.getD_cons_zero] at hb
 split at hb
 ·exact hB.2.2 b (List.mem_of_mem_take (List.mem_of_mem_drop hb))
 split at hb
 ·rcases List.mem_append.1 hb with hb | hb
  ·exact hB.2.2 b hb
  ·rw[(List.mem_replicate.1 hb).2]; trivial
 split at hb
 ·rcases List.mem_append.1 hb with hb | hb
  ·exact hB.2.2 b hb
  ·rw[(List.mem_replicate.1 hb).2]; exact hB.2.2 _ hz
 split at hb
 ·obtain⟨C,hC,hb⟩:=List.mem_flatten.1 hb
  rw[(List.mem_replicate.1 hC).2] at hb
  exact hB.2.2 b hb
 ·rcases List.mem_append.1 hb with hb | hb
  ·exact hB.2.2 b (List.mem_of_mem_drop hb)
  ·exact hB.2.2 b (List.mem_of_mem_take hb)
end Go.Proofs.X
namespace Go.Va
theorem Mq {T:Type} {f:Int×List T→Option ((Int×List T)⊕List T)} (N:Nat) (g:Nat→T) (a0:List T)
    (hs:∀k acc,k<N→acc.length=a0.length+k→f ((k:Int),acc)=some (.inl (((k+1:Nat):Int),acc++[g k]))) (he:∀acc,f ((N:Int),acc)=some (.inr acc)):fix f (0,a0)=some (a0++(List.range N).map g):=by
 have:=S0 (f:=f) N (fun k=>[g k]) a0 (fun k hk=>hs k _ hk (by rw[Nv]; simp)) (he _)
 rw[Nv] at this
 exact this
end Go.Va
namespace Go.Proofs.X
open Go Go.Va
set_option maxRecDepth 100000
theorem kGet(kids:List (List Bt))(k:Nat):(kids.map bV).getD k (Ty.zero (.sl Af))=bV (kids.getD k []):=by
 simp only[List.getD,List.getElem?_map]
 cases kids[k]?<;>rfl
theorem wrapI{x:Int}(h1:-4611686018427387904≤x)(h2:x<4611686018427387904):wI x=x:=wrap64 (by omega) (by omega)
theorem UT{A:Type}{l:List A}{z:A}{k:Nat}(h:k<l.length):l.reverse.getD k z=l.getD (l.length-1-k) z:=by
 simp only[List.getD,List.getElem?_reverse h]
theorem M4(kids:List (List Bt))(k:Nat):((kids.reverse.take k).flatten).length≤(kids.map List.length).sum:=by
 rw[←NP,←List.map_reverse,List.length_flatten]
 conv=>rhs; rw[←List.take_append_drop k kids.reverse,List.map_append,List.sum_append]
 omega
theorem Zc{a:Nat}:decide ((a:Int)≥0)=true:=decide_eq_true (by omega)
theorem TD{d:List Aa.V}{n:Ab.V}{kids:List (List Bt)}(h:NB d n kids)(h3:nOp n=3):Il (kids.map bV) (wI (((kids.map bV).length:Int)-1)) []=some (bV kids.reverse.flatten):=by
 have hlen:kids.length≤1048576:=by rw[h.hk]; exact h.hb.1
 have hsum:(kids.map List.length).sum≤4096:=by
  have hw:=h.hw
  have e:¬nOp n=4∧¬(nOp n=5∨nOp n=6)∧¬(nOp n=7∨nOp n=8)∧¬nOp n=9∧¬nOp n=1∧¬nOp n=2:=by omega
  simp only[widF,if_neg e.1,if_neg e.2.1,if_neg e.2.2.1,if_neg e.2.2.2.1,if_neg e.2.2.2.2.1,if_neg e.2.2.2.2.2,kidS] at hw
  omega
 unfold Il
 rw[List.length_map,wrapI (by omega) (by omega)]
 have:=AG (f:=BF (kids.map bV)) (fun k=>((kids.length:Int)-1-(k:Int),bV (kids.reverse.take k).flatten)) (t:=bV kids.reverse.flatten) kids.length (fun k hk=>by
  unfold BF F8
  simp only
  have e:(kids.length:Int)-1-(k:Int)=((kids.length-1-k:Nat):Int):=by omega
  have hb:=M4 kids k
  have hin:=h.hin (kids.getD (kids.length-1-k) []) (Az (by omega))
  rw[e,Zc,cond_true,List.length_map,if_pos ⟨by omega,by omega⟩,Int.toNat_natCast,kGet,Fn,Fn,if_pos (by have:=hin.2.1; omega),wrapI (by omega) (by omega)]
  rw[AB (z:=[]) (show k<kids.reverse.length by rw[List.length_reverse]; exact hk),UT hk,List.flatten_append,←Lx]
  simp only[List.flatten_cons,List.flatten_nil,List.append_nil]
  rw[show(kids.length:Int)-1-((k+1:Nat):Int)=((kids.length-1-k:Nat):Int)-1 by omega]) (by
  unfold BF F8
  simp only
  rw[decide_eq_false (by omega),cond_false,List.take_of_length_le (by rw[List.length_reverse]; omega)])
 have this':fix (BF (kids.map bV)) ((kids.length:Int)-1-((0:Nat):Int),[])=some (bV kids.reverse.flatten):=this
 rw[show(kids.length:Int)-1-((0:Nat):Int)=(kids.length:Int)-1 by omega] at this'
 exact this'
theorem Q9{d:List Aa.V}{n:Ab.V}{kids:List (List Bt)}(h:NB d n kids):IU d n (kids.map bV)=some (bV (nodeBits d n kids)):=by
 have e1:∀x:Int,(n.1==x)=decide (nOp n=x):=fun x=>Ln
 have hbl:=Ld h
 have hbl2:=hbl.2.1
 unfold IU HR mkr
 simp only[e1]
 by_cases h1:nOp n=1
 ·rw[decide_eq_true h1,cond_true]
  have hf:=h.hf
  unfold FormP at hf
  have hv:0≤nVar n∧nVar n<(d.length:Int):=by omega
  obtain⟨N,hN⟩:∃N:Nat,dw d (nVar n).toNat=(N:Int):=by
   have:=(h.hd.2.1 (nVar n).toNat (by omega)).2.1
   exact⟨(dw d (nVar n).toNat).toNat,by omega⟩
  have hN4:N≤4096:=by have:=(h.hd.2.1 (nVar n).toNat (by omega)).2.1; omega
  rw[show H6 d n 0 []=some (bV (nodeBits d n kids)) by
   unfold H6
   rw[Mq (f:=CG d n) N (fun a=>btV (.va (nVar n).toNat a)) [] (fun k acc hk ha=>by
    unfold CG Gd
    simp only
    rw[if_pos (show(0:Int)≤n.2.1∧n.2.1<(d.length:Int) from hv),show(d.getD n.2.1.toNat (Ty.zero Aa)).2.1=(N:Int) from hN,dlt hk,cond_true,stepN hk (by omega)]
    simp at ha
    rw[if_pos (by show(_+1)*16≤_; omega)]
    have:n.2.1=(((nVar n).toNat:Nat):Int):=by show nVar n=_; omega
    rw[this]; rfl) (fun acc=>by
    unfold CG Gd
    simp only
    rw[if_pos (show(0:Int)≤n.2.1∧n.2.1<(d.length:Int) from hv),show(d.getD n.2.1.toNat (Ty.zero Aa)).2.1=(N:Int) from hN,dge,cond_false])]
   simp only[nodeBits,if_pos h1,hN,Int.toNat_natCast,bV,List.nil_append,List.map_map]
   rfl]
  rfl
 rw[decide_eq_false h1,cond_false]
 by_cases h2:nOp n=2
 ·rw[decide_eq_true h2,cond_true]
  have hf:=h.hf
  unfold FormP at hf
  obtain⟨m,hm1,hm2⟩:ValP n:=by
   rcases hf with h | h | h | h
   ·omega
   ·exact h.2.2
   ·omega
   ·omega
  rw[show IB n 0 []=some (bV (nodeBits d n kids)) by
   unfold IB
   rw[Mq (f:=Cz n) m (fun k=>btV (.co (bt (nWs n) k))) [] (fun k acc hk ha=>by
    unfold Cz Gn
    simp only
    have hb:D6 n.2.2.2.2.1 (k:Int)=some (bI (bt (nWs n) k)):=OX (w:=nW n) hm2.2.2.2.1 (by rw[hm2.2.2.1]; unfold nw; omega) h.hb.2.1
    have h4:=hm2.2.1
    rw[show n.2.2.2.2.1.1=(m:Int) from hm1,dlt hk,cond_true,hb,Option.bind_some,stepN hk (by omega)]
    simp at ha
    rw[if_pos (by show(_+1)*16≤_; omega)]
    rw[show wI (bI (bt (nWs n) k))=bI (bt (nWs n) k) by cases bt (nWs n) k<;>rfl]; rfl) (fun acc=>by
    unfold Cz Gn
    simp only
    rw[show n.2.2.2.2.1.1=(m:Int) from hm1,dge,cond_false])]
   simp only[nodeBits,if_neg h1,if_pos h2,hm1,Int.toNat_natCast,bV,List.nil_append,List.map_map]
   rfl]
  rfl
 rw[decide_eq_false h2,cond_false]
 by_cases h3:nOp n=3
 ·rw[decide_eq_true h3,cond_true,TD h h3]
  simp only[nodeBits,if_neg h1,if_neg h2,if_pos h3]
  rfl
 rw[decide_eq_false h3,cond_false]
 obtain⟨h4,h9,B,rfl,hB,hs⟩:=h.one h1 h2 h3
 have hl:=hB.1
 have hl4:=hB.2.1
 have hw:=h.hw
 have g0:([B].map bV).getD 0 (Ty.zero (.sl Af))=bV B:=rfl
 have r0:(0:Int)≤(0:Int)∧(0:Int)<(([B].map bV).length:Int):=⟨by omega,by simp⟩
 rw[hs] at hw
 simp only[nodeBits,if_neg h1,if_neg h2,if_neg h3,List.getD_cons_zero] at hbl2 ⊢
 simp only[widF,if_neg h1,if_neg h2] at hw
 by_cases h4':nOp n=4
 ·simp only[if_pos h4'] at hw hbl2 ⊢
  split at hw<;>rename_i hc
  ·obtain⟨A,hA⟩:∃A:Nat,nA n=(A:Int):=⟨(nA n).toNat,by omega⟩
   obtain⟨L,hL⟩:∃L:Nat,nB n=(L:Int):=⟨(nB n).toNat,by omega⟩
   have hA':n.2.2.1=(A:Int):=hA
   have hL':n.2.2.2.1=(L:Int):=hL
   rw[decide_eq_true h4',cond_true,if_pos r0,g0,hA',hL',show wI ((A:Int)+1)=((A+1:Nat):Int) from wrapN (by omega) (by omega),Fn]
   rw[if_pos (show(0:Int)≤(L:Int)∧(L:Int)≤((A+1:Nat):Int)∧((A+1:Nat):Int)≤(B.length:Int) from⟨by omega,by omega,by omega⟩),Int.toNat_natCast,Int.toNat_natCast,hA,hL,Int.toNat_natCast,Int.toNat_natCast]
   rw[show(List.drop L (List.take (A+1) (bV B)))=bV ((B.take (A+1)).drop L) by simp[bV,List.map_drop,List.map_take],Fn,List.length_drop,List.length_take,if_pos (by omega)]
   rfl
  ·omega
 rw[decide_eq_false h4',cond_false]
 simp only[if_neg h4'] at hw hbl2 ⊢
 by_cases h56:nOp n=5∨nOp n=6
 ·simp only[if_pos h56] at hw
  split at hw<;>rename_i hc
  ·obtain⟨A,hA⟩:∃A:Nat,nA n=(A:Int):=⟨(nA n).toNat,by omega⟩
   have hA':n.2.2.1=(A:Int):=hA
   have hc0:(bif decide (nOp n=5) then decide (nOp n=5) else decide (nOp n=6))=true:=by
    rcases h56 with h | h<;>simp[h]
   have hlast:wI (((bV B).length:Int)-1)=((B.length-1:Nat):Int):=by rw[Fn]; exact wrapN (by omega) (by omega)
   rw[hc0,cond_true]
   by_cases h6:nOp n=6
   ·have h5:¬nOp n=5:=by omega
    simp only[if_neg h5,if_pos h6,hA,Int.toNat_natCast,List.length_append,List.length_replicate] at hbl2 ⊢
    rw[show CV ([B].map bV) n=some (.inl ()) by
     unfold CV
     rw[e1,decide_eq_true h6,cond_true,if_pos r0,if_pos r0,g0,hlast,Fn,if_pos ⟨by omega,by omega⟩],Option.bind_some]
    simp only[Sum.elim_inl]
    rw[if_pos r0,g0,hlast,Int.toNat_natCast,Fn,if_pos (by omega),bGet (by omega)]
    rw[show Iz n (btV (B.getD (B.length-1) (.co false))) 0 (bV B)=some (bV (B++List.replicate A (B.getD (B.length-1) (.co false)))) by
     unfold Iz
     rw[Mq (f:=CH n (btV (B.getD (B.length-1) (.co false)))) A (fun _=>btV (B.getD (B.length-1) (.co false))) (bV B) (fun k acc hk ha=>by
      unfold CH Gj
      simp only
      rw[Fn] at ha
      rw[hA',dlt hk,cond_true,stepN hk (by omega),if_pos (by show(_+1)*16≤_; omega)]) (fun acc=>by
      unfold CH Gj
      simp only
      rw[hA',dge,cond_false])]
     rw[Lx]; simp[bV,List.map_const']]
    rfl
   ·have h5:nOp n=5:=by omega
    simp only[if_pos h5,hA,Int.toNat_natCast,List.length_append,List.length_replicate] at hbl2 ⊢
    rw[show CV ([B].map bV) n=some (.inr ()) by
     unfold CV
     rw[e1,decide_eq_false h6,cond_false],Option.bind_some]
    simp only[Sum.elim_inr]
    rw[if_pos r0,g0,Fn,if_pos (by omega)]
    rw[show Ii n 0 (bV B)=some (bV (B++List.replicate A (.co false))) by
     unfold Ii
     rw[Mq (f:=CE n) A (fun _=>btV (.co false)) (bV B) (fun k acc hk ha=>by
      unfold CE Gc
      simp only
      rw[Fn] at ha
      rw[hA',dlt hk,cond_true,stepN hk (by omega),if_pos (by show(_+1)*16≤_; omega)]
      rfl) (fun acc=>by
      unfold CE Gc
      simp only
      rw[hA',dge,cond_false])]
     rw[Lx]; simp[bV,List.map_const']]
    rfl
  ·omega
 have h5:¬nOp n=5:=by omega
 have h6:¬nOp n=6:=by omega
 have hc0:(bif decide (nOp n=5) then decide (nOp n=5) else decide (nOp n=6))=false:=by simp[h5,h6]
 rw[hc0,cond_false]
 simp only[if_neg h5,if_neg h6,if_neg h56] at hw hbl2 ⊢
 by_cases h78:nOp n=7∨nOp n=8
 ·simp only[if_pos h78] at hw
  split at hw<;>rename_i hc
  ·obtain⟨A,hA⟩:∃A:Nat,nA n=(A:Int):=⟨(nA n).toNat,by omega⟩
   have hA':n.2.2.1=(A:Int):=hA
   have h9':¬nOp n=9:=by omega
   have hc1:(bif decide (nOp n=7) then decide (nOp n=7) else decide (nOp n=8))=true:=by
    rcases h78 with h | h<;>simp[h]
   have ht:=RV (n:=n) hl
   simp only[if_neg h9',List.length_append,List.length_drop,List.length_take] at hbl2 ⊢
   rw[hc1,cond_true,if_pos r0,g0,hA',Fn,if_neg (by omega)]
   have hmod:Int.tmod (A:Int) (B.length:Int)=((A%B.length:Nat):Int):=rfl
   have hml:A%B.length<B.length:=Nat.mod_lt _ (by omega)
   rw[show FJ ([B].map bV) n (B.length:Int) (Int.tmod (A:Int) (B.length:Int))=some ((turnBy n B.length:Nat):Int) by
    unfold FJ turnBy
    rw[e1,hmod,hA,Int.toNat_natCast]
    by_cases h8:nOp n=8
    ·rw[decide_eq_true h8,cond_true,if_neg (by omega),if_pos h8,show wI ((B.length:Int)-((A%B.length:Nat):Int))=((B.length-A%B.length:Nat):Int) from wrapN (by omega) (by omega)]
     rfl
    ·rw[decide_eq_false h8,cond_false,if_neg h8],Option.bind_some]
   have hsub:wI ((B.length:Int)-((turnBy n B.length:Nat):Int))=((B.length-turnBy n B.length:Nat):Int):=wrapN (by omega) (by omega)
   rw[if_pos r0,hsub,if_pos ⟨by omega,by omega,by omega⟩,Int.toNat_natCast,Int.toNat_natCast]
   generalize hq:B.length-turnBy n B.length=q at *
   rw[show(List.drop q (List.take B.length (bV B)))=bV (B.drop q) by rw[List.take_of_length_le (by rw[Fn]; omega)]; simp[bV,List.map_drop],show(List.drop 0 (List.take q (bV B)))=bV (B.take q) by simp[bV,List.map_take],if_pos (by omega),if_pos r0,if_pos ⟨by omega,by omega,by omega⟩,if_pos (by omega),←Lx]
   rfl
  ·omega
 have h9':nOp n=9:=by omega
 have hc1:(bif decide (nOp n=7) then decide (nOp n=7) else decide (nOp n=8))=false:=by
  rw[show ¬nOp n=7∧¬nOp n=8 by omega |> fun h=>(decide_eq_false h.1:decide (nOp n=7)=false),cond_false]
  exact decide_eq_false (by omega)
 simp only[if_neg h78,if_pos h9'] at hw hbl2 ⊢
 split at hw<;>rename_i hc
 ·obtain⟨A,hA⟩:∃A:Nat,nA n=(A:Int):=⟨(nA n).toNat,by omega⟩
  have hA':n.2.2.1=(A:Int):=hA
  rw[hc1,cond_false,decide_eq_true h9',cond_true]
  rw[hA] at hw hbl2
  simp only[Int.toNat_natCast,List.length_flatten,List.map_replicate,List.sum_replicate_nat] at hbl2
  rw[show Ip ([B].map bV) n 0 []=some (bV (List.replicate A B).flatten) by
   unfold Ip
   rw[S0 (f:=CD ([B].map bV) n) A (fun _=>bV B) [] (fun k hk=>by
    unfold CD F5
    simp only
    have hkl:k*B.length≤A*B.length:=Nat.mul_le_mul_right _ (by omega)
    rw[hA',dlt hk,cond_true,if_pos r0,g0,stepN hk (by omega),if_pos (by
     rw[List.nil_append,Zq9,List.length_flatten,List.map_replicate,List.sum_replicate_nat,List.length_range,Fn]; omega)]) (by
    unfold CD F5
    simp only
    rw[hA',dge,cond_false])]
   rw[List.nil_append,Zq9,List.length_range]
   simp[bV,List.map_flatten,List.map_replicate]]
  rw[hA]
  rfl
 ·omega
end Go.Proofs.X
namespace Go.Proofs.X
open Go Go.Va
set_option maxRecDepth 100000
def fN(B:List Bt):List Ad.V:=fV (norm B)
theorem fGetN(kids:List (List Bt))(k:Nat):(kids.map fN).getD k (Ty.zero (.sl Ad))=fN (kids.getD k []):=by
 simp only[List.getD,List.getElem?_map]
 cases kids[k]?<;>rfl
theorem raiseN{d:List Aa.V}(hd:DeclsP d){a b:List Bt}(ha:∀x∈a,BitIn d x)(hb:∀x∈b,BitIn d x)(hl:a.length+b.length≤4096):BX (fN b) (fN a)=some (fN (a++b)):=by
 unfold fN
 rw[SR (FD b) (FD a) (JR (fun x hx=>Ql (KR hd (hb x hx))) (by omega)) (JR (fun x hx=>Ql (KR hd (ha x hx))) (by omega)) (by rw[Hi,Hi]; exact hl),RY]
theorem Yx{s:Sg}(h:1≤s.w):norm s.bits=[s]:=by
 have:=Ma s.w s [] rfl h
 rw[JQ] at this
 exact this.symm
theorem Adm(b:Bt):fN [b]=[sgV b.sg]:=rfl
theorem raiseN1{d:List Aa.V}(hd:DeclsP d){a:List Bt}{b:Bt}(ha:∀x∈a,BitIn d x)(hb:BitIn d b)(hl:a.length+1≤4096):BX [sgV b.sg] (fN a)=some (fN (a++[b])) :=
 raiseN hd ha (b:=[b]) (fun x hx=>by rw[List.mem_singleton] at hx; rw[hx]; exact hb) hl
theorem widthN{d:List Aa.V}{B:List Bt}(h:BitsIn d B):DD (fN B)=some (B.length:Int):=by
 unfold fN
 rw[QW (FD B) (by rw[Hi]; exact h.2.1),Hi]
theorem partN{d:List Aa.V}(hd:DeclsP d){B:List Bt}(h:BitsIn d B){lo w:Nat}(hlo:lo+w≤8192):BN (fN B) (lo:Int) (w:Int)=some (fN ((B.drop lo).take w)):=by
 have hs:∀x∈B,SgB x.sg:=fun x hx=>Ql (KR hd (h.2.2 x hx))
 unfold fN
 rw[RG (FD B) (JR hs h.2.1) (by rw[J7]; exact hs) (by rw[Hi]; exact h.2.1) hlo,J7]
theorem QA {d:List Aa.V} (hd:DeclsP d) {B:List Bt} {b:Bt} {A:Nat} (hB:BitsIn d B) (hb:BitIn d b) (hl:B.length+A≤4096) {f:Int×List Ad.V→Option ((Int×List Ad.V)⊕List Ad.V)}
    (hs:∀x:Int×List Ad.V,f x=bif decide (x.1<(A:Int)) then(BX [sgV b.sg] x.2).bind fun o=>some (.inl (wI (x.1+1),o)) else some (.inr x.2)):fix f (0,fN B)=some (fN (B++List.replicate A b)):=by
 have:=AG (f:=f) (fun k=>((k:Int),fN (B++List.replicate k b))) (t:=fN (B++List.replicate A b)) A (fun k hk=>by
  rw[hs]
  simp only
  rw[dlt hk,cond_true,raiseN1 hd (fun x hx=>by
   rcases List.mem_append.1 hx with hx | hx
   ·exact hB.2.2 x hx
   ·rw[(List.mem_replicate.1 hx).2]; exact hb) hb (by rw[List.length_append,List.length_replicate]; omega),Option.bind_some,stepN hk (by omega),List.append_assoc,←List.replicate_succ']) (by
  rw[hs]
  simp only
  rw[dge,cond_false])
 have h0:fix f (((0:Nat):Int),fN (B++List.replicate 0 b))=some (fN (B++List.replicate A b)):=this
 rw[List.replicate_zero,List.append_nil] at h0
 exact h0
theorem TH{d:List Aa.V}{n:Ab.V}{kids:List (List Bt)}(h:NB d n kids)(h3:nOp n=3):Df (kids.map fN) (wI (((kids.map fN).length:Int)-1)) []=some (fN kids.reverse.flatten):=by
 have hlen:kids.length≤1048576:=by rw[h.hk]; exact h.hb.1
 have hsum:(kids.map List.length).sum≤4096:=by
  have hw:=h.hw
  have e:¬nOp n=4∧¬(nOp n=5∨nOp n=6)∧¬(nOp n=7∨nOp n=8)∧¬nOp n=9∧¬nOp n=1∧¬nOp n=2:=by omega
  simp only[widF,if_neg e.1,if_neg e.2.1,if_neg e.2.2.1,if_neg e.2.2.2.1,if_neg e.2.2.2.2.1,if_neg e.2.2.2.2.2,kidS] at hw
  omega
 unfold Df
 rw[List.length_map,wrapI (by omega) (by omega)]
 have:=AG (f:=AH (kids.map fN)) (fun k=>((kids.length:Int)-1-(k:Int),fN (kids.reverse.take k).flatten)) (t:=fN kids.reverse.flatten) kids.length (fun k hk=>by
  unfold AH Cq
  simp only
  have e:(kids.length:Int)-1-(k:Int)=((kids.length-1-k:Nat):Int):=by omega
  have hb:=M4 kids (k+1)
  have hin:=h.hin (kids.getD (kids.length-1-k) []) (Az (by omega))
  rw[AB (z:=[]) (show k<kids.reverse.length by rw[List.length_reverse]; exact hk),UT hk,List.flatten_append] at hb ⊢
  simp only[List.flatten_cons,List.flatten_nil,List.append_nil] at hb ⊢
  rw[List.length_append] at hb
  rw[e,Zc,cond_true,List.length_map,if_pos ⟨by omega,by omega⟩,Int.toNat_natCast,fGetN,raiseN h.hd (fun x hx=>by
   obtain⟨C,hC,hx⟩:=List.mem_flatten.1 hx
   exact(h.hin C (List.mem_reverse.1 (List.mem_of_mem_take hC))).2.2 x hx) hin.2.2 (by omega),Option.bind_some,wrapI (by omega) (by omega)]
  rw[show(kids.length:Int)-1-((k+1:Nat):Int)=((kids.length-1-k:Nat):Int)-1 by omega]) (by
  unfold AH Cq
  simp only
  rw[decide_eq_false (by omega),cond_false,List.take_of_length_le (by rw[List.length_reverse]; omega)])
 have this':fix (AH (kids.map fN)) ((kids.length:Int)-1-((0:Nat):Int),[])=some (fN kids.reverse.flatten):=this
 rw[show(kids.length:Int)-1-((0:Nat):Int)=(kids.length:Int)-1 by omega] at this'
 exact this'
theorem OL{s:Sg}{v:Ad.V}(h:1≤s.w)(e:sgV s=v):([v]:List Ad.V)=fN s.bits:=by
 unfold fN
 rw[Yx h,←e]; rfl
theorem Rz{d:List Aa.V}{n:Ab.V}{kids:List (List Bt)}(h:NB d n kids):B4 n d (kids.map fN)=some (fN (nodeBits d n kids)):=by
 have e1:∀x:Int,(n.1==x)=decide (nOp n=x):=fun x=>Ln
 have hbl:=Ld h
 have hbl2:=hbl.2.1
 unfold B4 mkr
 simp only[e1]
 by_cases h1:nOp n=1
 ·rw[decide_eq_true h1,cond_true]
  have hf:=h.hf
  unfold FormP at hf
  have hv:0≤nVar n∧nVar n<(d.length:Int):=by omega
  have hdw:=(h.hd.2.1 (nVar n).toNat (by omega)).2.1
  obtain⟨N,hN⟩:∃N:Nat,dw d (nVar n).toNat=(N:Int):=⟨(dw d (nVar n).toNat).toNat,by omega⟩
  rw[if_pos (show(0:Int)≤n.2.1∧n.2.1<(d.length:Int) from hv),show(d.getD n.2.1.toNat (Ty.zero Aa)).2.1=(N:Int) from hN]
  rw[OL (s:=.va (nVar n).toNat 0 N) (by show 1≤N; omega) (by
   show((((nVar n).toNat:Nat):Int),((0:Nat):Int),(N:Int),((0:Int),([]:List Int),()),())=_
   rw[show(((nVar n).toNat:Nat):Int)=n.2.1 by show _=nVar n; omega]; rfl)]
  simp only[nodeBits,if_pos h1,hN,Int.toNat_natCast,Sg.bits,Nat.zero_add]
 rw[decide_eq_false h1,cond_false]
 by_cases h2:nOp n=2
 ·rw[decide_eq_true h2,cond_true]
  have hf:=h.hf
  unfold FormP at hf
  obtain⟨m,hm1,hm2⟩:ValP n:=by
   rcases hf with h | h | h | h
   ·omega
   ·exact h.2.2
   ·omega
   ·omega
  have hl:((List.range m).map fun k=>bt (nWs n) k).length=m:=by simp
  rw[show Cw n.2.2.2.2.1=some (nW n,nWs n) from MY h.hb.2.1,Option.bind_some]
  rw[OL (s:=.co ((List.range m).map fun k=>bt (nWs n) k)) (by show 1≤List.length _; rw[hl]; exact hm2.1) (by
   show(-1,0,((((List.range m).map fun k=>bt (nWs n) k).length:Nat):Int),mkL ((List.range m).map fun k=>bt (nWs n) k),())=_
   rw[Vl (f:=bt (nWs n)) hl (fun i hi=>by simp[List.getD,hi]),hl,show mkB m (bt (nWs n))=((m:Int),nWs n,()) by unfold mkB; rw[←hm2.eq]]
   simp only[Am]
   rw[hm1])]
  simp only[nodeBits,if_neg h1,if_pos h2,hm1,Int.toNat_natCast,Sg.bits,List.map_map]
  rfl
 rw[decide_eq_false h2,cond_false]
 by_cases h3:nOp n=3
 ·rw[decide_eq_true h3,cond_true,TH h h3]
  simp only[nodeBits,if_neg h1,if_neg h2,if_pos h3]
  rfl
 rw[decide_eq_false h3,cond_false]
 obtain⟨h4,h9,B,rfl,hB,hs⟩:=h.one h1 h2 h3
 have hl:=hB.1
 have hl4:=hB.2.1
 have hw:=h.hw
 have g0:([B].map fN).getD 0 (Ty.zero (.sl Ad))=fN B:=rfl
 have r0:(0:Int)≤(0:Int)∧(0:Int)<(([B].map fN).length:Int):=⟨by omega,by simp⟩
 have hflen:(fN B).length≤4096:=by
  unfold fN; rw[FB]
  have:=F4 (FD B)
  rw[Hi] at this; omega
 rw[hs] at hw
 rw[if_pos r0,g0,widthN hB,Option.bind_some]
 simp only[nodeBits,if_neg h1,if_neg h2,if_neg h3,List.getD_cons_zero] at hbl2 ⊢
 simp only[widF,if_neg h1,if_neg h2] at hw
 by_cases h4':nOp n=4
 ·simp only[if_pos h4'] at hw hbl2 ⊢
  split at hw<;>rename_i hc
  ·obtain⟨A,hA⟩:∃A:Nat,nA n=(A:Int):=⟨(nA n).toNat,by omega⟩
   obtain⟨L,hL⟩:∃L:Nat,nB n=(L:Int):=⟨(nB n).toNat,by omega⟩
   have hA':n.2.2.1=(A:Int):=hA
   have hL':n.2.2.2.1=(L:Int):=hL
   rw[decide_eq_true h4',cond_true,hA',hL',show wI ((A:Int)-(L:Int))=((A-L:Nat):Int) from wrapN (by omega) (by omega),show wI (((A-L:Nat):Int)+1)=((A-L+1:Nat):Int) from wrapN (by omega) (by omega),partN h.hd hB (by omega),hA,hL,Int.toNat_natCast,Int.toNat_natCast]
   rw[List.drop_take,show A+1-L=A-L+1 by omega]
   rfl
  ·omega
 rw[decide_eq_false h4',cond_false]
 simp only[if_neg h4'] at hw hbl2 ⊢
 by_cases h78:nOp n=7∨nOp n=8
 ·have h56:¬(nOp n=5∨nOp n=6):=by omega
  have h5:¬nOp n=5:=by omega
  have h6:¬nOp n=6:=by omega
  have h9':¬nOp n=9:=by omega
  simp only[if_neg h5,if_neg h6,if_neg h9',if_neg h56,if_pos h78] at hw ⊢
  split at hw<;>rename_i hc
  ·obtain⟨A,hA⟩:∃A:Nat,nA n=(A:Int):=⟨(nA n).toNat,by omega⟩
   have hA':n.2.2.1=(A:Int):=hA
   have hc1:(bif decide (nOp n=7) then decide (nOp n=7) else decide (nOp n=8))=true:=by
    rcases h78 with h | h<;>simp[h]
   have ht:=RV (n:=n) hl
   rw[hc1,cond_true,if_neg (by omega),hA']
   have hmod:Int.tmod (A:Int) (B.length:Int)=((A%B.length:Nat):Int):=rfl
   have hml:A%B.length<B.length:=Nat.mod_lt _ (by omega)
   rw[show BU n (B.length:Int) (fN B) (Int.tmod (A:Int) (B.length:Int))=some ((turnBy n B.length:Nat):Int) by
    unfold BU turnBy
    rw[e1,hmod,hA,Int.toNat_natCast]
    by_cases h8:nOp n=8
    ·rw[decide_eq_true h8,cond_true,if_neg (by omega),if_pos h8,show wI ((B.length:Int)-((A%B.length:Nat):Int))=((B.length-A%B.length:Nat):Int) from wrapN (by omega) (by omega)]
     rfl
    ·rw[decide_eq_false h8,cond_false,if_neg h8],Option.bind_some]
   have hsub:wI ((B.length:Int)-((turnBy n B.length:Nat):Int))=((B.length-turnBy n B.length:Nat):Int):=wrapN (by omega) (by omega)
   have hz:(0:Int)=((0:Nat):Int):=rfl
   rw[hsub,partN h.hd hB (by omega),Option.bind_some,hz,partN h.hd hB (by omega),Option.bind_some,List.drop_zero,show List.take (turnBy n B.length) (List.drop (B.length-turnBy n B.length) B)=List.drop (B.length-turnBy n B.length) B from List.take_of_length_le (by rw[List.length_drop]; omega)]
   rw[raiseN h.hd (fun x hx=>hB.2.2 x (List.mem_of_mem_drop hx)) (fun x hx=>hB.2.2 x (List.mem_of_mem_take hx)) (by rw[List.length_drop,List.length_take]; omega)]
   rfl
  ·omega
 have hc1:(bif decide (nOp n=7) then decide (nOp n=7) else decide (nOp n=8))=false:=by
  rw[show ¬nOp n=7∧¬nOp n=8 by omega |> fun h=>(decide_eq_false h.1:decide (nOp n=7)=false),cond_false]
  exact decide_eq_false (by omega)
 rw[hc1,cond_false]
 by_cases h9':nOp n=9
 ·have h56:¬(nOp n=5∨nOp n=6):=by omega
  have h5:¬nOp n=5:=by omega
  have h6:¬nOp n=6:=by omega
  simp only[if_neg h5,if_neg h6,if_pos h9',if_neg h56,if_neg h78] at hw hbl2 ⊢
  split at hw<;>rename_i hc
  ·obtain⟨A,hA⟩:∃A:Nat,nA n=(A:Int):=⟨(nA n).toNat,by omega⟩
   have hA':n.2.2.1=(A:Int):=hA
   rw[hA] at hw hbl2
   simp only[Int.toNat_natCast,List.length_flatten,List.map_replicate,List.sum_replicate_nat] at hbl2
   rw[decide_eq_true h9',cond_true,hA']
   rw[show Dv (fN B) (A:Int) 0 []=some (fN (List.replicate A B).flatten) by
    unfold Dv
    have:=AG (f:=AW (fN B) (A:Int)) (fun k=>((k:Int),fN (List.replicate k B).flatten)) (t:=fN (List.replicate A B).flatten) A (fun k hk=>by
     unfold AW Cp
     simp only
     have hkl:(k+1)*B.length≤A*B.length:=Nat.mul_le_mul_right _ (by omega)
     have hkl2:(k+1)*B.length=k*B.length+B.length:=Nat.succ_mul _ _
     have hA2:A≤A*B.length:=Nat.le_mul_of_pos_right _ (by omega)
     rw[dlt hk,cond_true,raiseN h.hd (fun x hx=>by
      obtain⟨C,hC,hx⟩:=List.mem_flatten.1 hx
      rw[(List.mem_replicate.1 hC).2] at hx
      exact hB.2.2 x hx) hB.2.2 (by rw[List.length_flatten,List.map_replicate,List.sum_replicate_nat]; omega),Option.bind_some,stepN hk (by omega),List.replicate_succ',List.flatten_append]
     simp) (by
     unfold AW Cp
     simp only
     rw[dge,cond_false])
    exact this,hA]
   rfl
  ·omega
 have h56:nOp n=5∨nOp n=6:=by omega
 rw[decide_eq_false h9',cond_false]
 simp only[if_neg h9',if_pos h56] at hw hbl2 ⊢
 split at hw<;>rename_i hc
 ·obtain⟨A,hA⟩:∃A:Nat,nA n=(A:Int):=⟨(nA n).toNat,by omega⟩
  have hA':n.2.2.1=(A:Int):=hA
  have hz1:BM 1=some (1,[0]):=Lm (n:=1) (by omega)
  rw[hz1,Option.bind_some]
  rw[if_pos (by omega)]
  by_cases h6:nOp n=6
  ·have h5:¬nOp n=5:=by omega
   have hlast:BitIn d (B.getD (B.length-1) (.co false)):=hB.2.2 _ (Az (by omega))
   rw[show AS n (B.length:Int) (fN B) (fN B) (Am 1 [0]).1 (Am 1 [0]).2.1 (Am 1 [0]).2.2.1 (Am 1 [0]).2.2.2.1 (Am 1 [0]).2.2.2.2=some (.inl (sgV (B.getD (B.length-1) (.co false)).sg)) by
    unfold AS
    rw[e1,decide_eq_true h6,cond_true,show wI ((B.length:Int)-1)=((B.length-1:Nat):Int) from wrapN (by omega) (by omega),show(1:Int)=((1:Nat):Int) from rfl,partN h.hd hB (by omega),Option.bind_some]
    have:(B.drop (B.length-1)).take 1=[B.getD (B.length-1) (.co false)]:=by
     rw[List.drop_eq_getElem_cons (by omega),show B.getD (B.length-1) (.co false)=B[B.length-1] by simp[List.getD,show B.length-1<B.length by omega]]; rfl
    rw[this,Adm,if_pos ⟨by omega,by simp⟩]
    rfl,Option.bind_some]
   simp only[Sum.elim_inl,if_neg h5,if_pos h6,hA,Int.toNat_natCast]
   rw[hA']
   unfold FR
   rw[QA (f:=Cm (sgV (B.getD (B.length-1) (.co false)).sg) (A:Int)) h.hd hB hlast (A:=A) (by omega) (fun x=>rfl)]
   rfl
  ·have h5:nOp n=5:=by omega
   rw[show AS n (B.length:Int) (fN B) (fN B) (Am 1 [0]).1 (Am 1 [0]).2.1 (Am 1 [0]).2.2.1 (Am 1 [0]).2.2.2.1 (Am 1 [0]).2.2.2.2=some (.inr ()) by
    unfold AS
    rw[e1,decide_eq_false h6,cond_false],Option.bind_some]
   simp only[Sum.elim_inr,if_pos h5,hA,Int.toNat_natCast]
   rw[hA']
   have hco:((Am 1 [0]).1,(Am 1 [0]).2.1,(Am 1 [0]).2.2.1,((Am 1 [0]).2.2.2.1,(Am 1 [0]).2.2.2.2,()),())=sgV (Bt.co false).sg:=rfl
   rw[hco]
   unfold FN
   rw[QA (f:=Cu (A:Int) (sgV (Bt.co false).sg)) h.hd hB (show BitIn d (.co false) from trivial) (A:=A) (by omega) (fun x=>rfl)]
   rfl
 ·omega
end Go.Proofs.X
namespace Go.Proofs.X
open Go Go.Va
set_option maxRecDepth 100000
def kidB(all:List (List Bt))(n:Ab.V):List (List Bt):=(nKids n).map fun k=>all.getD k.toNat []
def TB(d:List Aa.V)(t:List Ab.V):Nat→List (List Bt)
 | 0=>[]
 | i+1=>TB d t i++[nodeBits d (nd t i) (kidB (TB d t i) (nd t i))]
theorem KY(d:List Aa.V)(t:List Ab.V):∀i,(TB d t i).length=i
 | 0=>rfl
 | i+1=>by simp only[TB,List.length_append,KY d t i]; rfl
theorem S3(d:List Aa.V)(t:List Ab.V){i j k:Nat}(h:j<i)(hk:i≤k):(TB d t k).getD j []=(TB d t i).getD j []:=by
 induction k with
 | zero=>omega
 | succ k ih =>
  rcases Nat.lt_or_ge k i with h1 | h1
  ·have:i=k+1:=by omega
   rw[this]
  ·rw[←ih h1]
   simp only[TB,List.getD]
   rw[List.getElem?_append_left (by rw[KY]; omega)]
theorem NA(d:List Aa.V)(t:List Ab.V)(i:Nat):(TB d t (i+1)).getD i []=nodeBits d (nd t i) (kidB (TB d t i) (nd t i)):=by
 simp only[TB,List.getD]
 rw[List.getElem?_append_right (by rw[KY]; omega),KY]
 simp
theorem W3{A:Type}(f:A→Nat)(l:List A):(((l.map f).sum:Nat):Int)=(l.map fun x=>(f x:Int)).sum:=by
 induction l with
 | nil=>rfl
 | cons x l ih=>simp only[List.map_cons,List.sum_cons]; rw[←ih]; omega
theorem Rh {d:List Aa.V} {t:List Ab.V} {ws:List Int} {i:Nat} (hd:DeclsP d) (ht:TermB t) (h:TermP d t ws) (hi:i<t.length) (hp:∀j,j<i→BitsIn d ((TB d t i).getD j [])∧(((TB d t i).getD j []).length:Int)=ws.getD j 0) :
    NB d (nd t i) (kidB (TB d t i) (nd t i))∧widF d (nd t i) (kidS (kidB (TB d t i) (nd t i)))=ws.getD i 0∧KidsIn (nd t i) i:=by
 obtain⟨_,_,hl,⟨_,hpre⟩,_⟩:=h
 have hn:=hpre i (by omega)
 obtain⟨hin,_,hf,hw,h1,h2⟩:=hn
 have hwl:(ws.take i).length=i:=by rw[List.length_take]; omega
 rw[hwl] at hin
 have hs:kidS (kidB (TB d t i) (nd t i))=(kidW (ws.take i) (nd t i)).sum:=by
  unfold kidS kidB kidW
  rw[List.map_map,W3]
  congr 1
  refine List.map_congr_left fun k hk=>?_
  have:=hin k hk
  show(((TB d t i).getD k.toNat []).length:Int)=_
  rw[(hp k.toNat (by omega)).2]
  simp only[List.getD,List.getElem?_take,show k.toNat<i by omega,if_true]
 refine⟨⟨hd,hf,ht.2 _ (Az hi),by simp[kidB],by rw[hs,←hw]; exact⟨h1,h2⟩,fun B hB=>?_⟩,by rw[hs,←hw],hin⟩
 obtain⟨k,hk,rfl⟩:=List.mem_map.1 hB
 have:=hin k hk
 exact(hp k.toNat (by omega)).1
theorem Rg{d:List Aa.V}{t:List Ab.V}{ws:List Int}(hd:DeclsP d)(ht:TermB t)(h:TermP d t ws):∀i,i≤t.length→∀j,j<i→BitsIn d ((TB d t i).getD j [])∧(((TB d t i).getD j []).length:Int)=ws.getD j 0
 | 0,_,j,hj=>by omega
 | i+1,hi,j,hj=>by
  have ih:=Rg hd ht h i (by omega)
  rcases Nat.lt_or_ge j i with h1 | h1
  ·rw[S3 d t h1 (Nat.le_succ i)]; exact ih j h1
  ·have:j=i:=by omega
   subst this
   obtain⟨hnb,hw,_⟩:=Rh hd ht h (by omega) ih
   rw[NA]
   exact⟨Ld hnb,by rw[MV hnb,hw]⟩
def OkF(d:List Aa.V)(t:List Ab.V)(n:Nat):Prop:=∀i,i<n→(norm ((TB d t n).getD i [])).length≤2000
def lastB(d:List Aa.V)(t:List Ab.V):List Bt:=(TB d t t.length).getD (t.length-1) []
open Classical in
noncomputable def flatF(d:List Aa.V)(t:List Ab.V):Bool×List Ad.V:=if(∃ws,TermP d t ws)∧OkF d t t.length then(true,fN (lastB d t)) else(false,[])
theorem OkF.succ{d:List Aa.V}{t:List Ab.V}{n:Nat}:OkF d t (n+1)↔OkF d t n∧(norm (nodeBits d (nd t n) (kidB (TB d t n) (nd t n)))).length≤2000:=by
 unfold OkF
 constructor
 ·intro h
  refine⟨fun i hi=>?_,?_⟩
  ·have:=h i (by omega); rw[S3 d t hi (Nat.le_succ n)] at this; exact this
  ·have:=h n (by omega); rw[NA] at this; exact this
 ·rintro⟨h1,h2⟩ i hi
  rcases Nat.lt_or_ge i n with h | h
  ·rw[S3 d t h (Nat.le_succ n)]; exact h1 i h
  ·have:i=n:=by omega
   subst this; rw[NA]; exact h2
theorem OkF.mono{d:List Aa.V}{t:List Ab.V}{m n:Nat}(h:OkF d t n)(hm:m≤n):OkF d t m:=fun i hi=>by
 have:=h i (by omega); rw[S3 d t hi hm] at this; exact this
theorem PY {a:List Aa.V} {g c:Int} {b:Aj.V} {j:Ab.V} {all:List (List Bt)} {pad:List (List Ad.V)} {n:Ab.V} (hn:(nKids n).length≤1048576) (hin:KidsIn n all.length) :
    HO a g c b (all.map fN++pad) j (nKids n) ((nKids n).length:Int) 0 (List.replicate (nKids n).length [])=some ((kidB all n).map fN):=by
 unfold HO
 have hget:∀m,m<(nKids n).length→(all.map fN++pad).getD ((nKids n).getD m 0).toNat []=fN (all.getD ((nKids n).getD m 0).toNat []):=fun m hm=>by
  have:=hin _ (Az (z:=(0:Int)) hm)
  rw[←fGetN]
  generalize (nKids n).getD m 0=q at this ⊢
  simp only[List.getD]
  rw[List.getElem?_append_left (by rw[List.length_map]; omega)]
  rfl
 have:=AG (f:=CF a g c b (all.map fN++pad) j (nKids n) ((nKids n).length:Int)) (fun k=>((k:Int),fillN (fun m=>(all.map fN++pad).getD ((nKids n).getD m 0).toNat []) [] (nKids n).length k)) (t:=(kidB all n).map fN) (nKids n).length (fun k hk=>by
  unfold CF Gl
  simp only
  have hk2:=hin _ (Az (z:=(0:Int)) hk)
  have e0:(Ty.zero (.int .i64):Int)=0:=rfl
  rw[e0,dlt hk,cond_true,if_pos (rng hk),Int.toNat_natCast,if_pos ⟨hk2.1,by rw[List.length_append,List.length_map]; omega⟩,fillN_len,if_pos (rng hk),stepN hk (by omega)]
  rw[show(Ty.zero (.sl Ad))=([]:List Ad.V) from rfl,fillN_set (fun m=>(all.map fN++pad).getD ((nKids n).getD m 0).toNat []) [] (n:=(nKids n).length) (k:=k)]) (by
  unfold CF Gl
  simp only
  rw[dge,cond_false]
  congr 2
  unfold fillN kidB
  rw[List.map_map]
  refine List.ext_getElem (by simp) fun i h1 h2=>?_
  simp only[List.getElem_map,List.getElem_range,Function.comp]
  have hi:i<(nKids n).length:=by simpa using h1
  rw[if_pos hi,hget i hi]
  simp[List.getD,hi])
 rw[show fillN (fun m=>(all.map fN++pad).getD ((nKids n).getD m 0).toNat []) [] (nKids n).length 0=List.replicate (nKids n).length [] from fillN_zero _ _ _] at this
 exact this
theorem Zd(B:List Bt):(fN B).length=(norm B).length:=FB _
theorem Xk{d:List Aa.V}{B:List Bt}(h:BitsIn d B):Small (fN B):=by
 have hlen:=F4 (FD B)
 rw[Hi] at hlen
 have h4:=h.2.1
 refine⟨by rw[Zd]; omega,fun s hs=>?_⟩
 obtain⟨q,hq,rfl⟩:=List.mem_map.1 hs
 cases q with
 | co bs =>
  show(mkL bs).2.1.length≤1048576
  rw[(UF bs).1]
  have:(Sg.co bs).w≤widL (norm B):=by
   have:∀(l:List Sg) (s:Sg),s∈l→s.w≤widL l:=fun l s hs=>by
    induction l with
    | nil=>cases hs
    | cons a l ih =>
     simp only[widL,List.map_cons,List.sum_cons]
     rcases List.mem_cons.1 hs with rfl | hs
     ·omega
     ·have:=ih hs; unfold widL at this; omega
   exact this _ _ hq
  rw[Hi] at this
  have e:(Sg.co bs).w=bs.length:=rfl
  unfold nw; omega
 | va v l n=>show([]:List Int).length≤_; simp
theorem LZ{d:List Aa.V}{t:List Ab.V}{ws:List Int}(hd:DeclsP d)(ht:TermB t)(h:TermP d t ws):C9 d (t,())=some (flatF d t):=by
 have hl1:=h.1
 have hl2:=h.2.1
 refine Ret.eq_ ?_
 unfold C9
 rw[if_pos ⟨rfl,by show(0:Int)≤(t.length:Int); omega,by omega,by show((24:Nat):Int)*(t.length:Int)≤_; omega,by show(t.length:Int)≤_; omega⟩]
 show Ret ((Ik d (t,()) (t.length:Int) 0 (List.replicate (t.length:Int).toNat [])).bind _) _
 rw[Int.toNat_natCast]
 refine Ret.bind (P:=fun r=>(∃x,r=.inl x∧¬OkF d t t.length)∨(r=.inr ((TB d t t.length).map fN)∧OkF d t t.length)) ?_ fun r hr=>?_
 ·unfold Ik
  refine A2 (fun m (x:Int×List (List Ad.V))=>∃i:Nat,i≤t.length∧m=t.length-i∧x=((i:Int),(TB d t i).map fN++List.replicate (t.length-i) [])∧OkF d t i) (fun m x hI=>?_) t.length _ ⟨0,Nat.zero_le _,rfl,by simp[TB],fun i hi=>by omega⟩
  obtain⟨i,hi,rfl,rfl,hok⟩:=hI
  unfold Gg IX
  simp only
  rcases Nat.lt_or_ge i t.length with hlt | hge
  ·obtain⟨hnb,hw,hin⟩:=Rh hd ht h hlt (Rg hd ht h i hi)
   have hkl:=hnb.hb.1
   have hnd:t.getD i (Ty.zero Ab)=nd t i:=rfl
   have hkk:(nd t i).2.2.2.2.2.1=nKids (nd t i):=rfl
   rw[dlt hlt,cond_true,if_pos (rng hlt),Int.toNat_natCast,hnd,hkk,if_pos ⟨rfl,by omega,by omega,by omega,by omega⟩,Int.toNat_natCast]
   rw[PY hkl (by rw[KY]; exact hin),Option.bind_some,Rz hnb,Option.bind_some]
   have hlen:((TB d t i).map fN++List.replicate (t.length-i) ([]:List Ad.V)).length=t.length:=by rw[List.length_append,List.length_map,KY,List.length_replicate]; omega
   have hset:((TB d t i).map fN++List.replicate (t.length-i) ([]:List Ad.V)).set i (fN (nodeBits d (nd t i) (kidB (TB d t i) (nd t i))))=(TB d t (i+1)).map fN++List.replicate (t.length-(i+1)) []:=by
    rw[List.set_append_right _ _ (by rw[List.length_map,KY]; omega),List.length_map,KY,Nat.sub_self,show t.length-i=(t.length-(i+1))+1 by omega,List.replicate_succ,List.set_cons_zero]
    simp only[TB,List.map_append,List.map_cons,List.map_nil,List.append_assoc]
    rfl
   have hget:((TB d t (i+1)).map fN++List.replicate (t.length-(i+1)) ([]:List Ad.V)).getD i (Ty.zero (.sl Ad))=fN (nodeBits d (nd t i) (kidB (TB d t i) (nd t i))):=by
    rw[←NA,←fGetN]
    simp only[List.getD]
    rw[List.getElem?_append_left (by rw[List.length_map,KY]; omega)]
   rw[hlen,if_pos (rng hlt),List.length_set,hlen,if_pos (rng hlt),hset,hget,Zd]
   by_cases hc:(norm (nodeBits d (nd t i) (kidB (TB d t i) (nd t i)))).length≤2000
   ·rw[decide_eq_false (by omega),cond_false,stepN hlt (by omega)]
    exact Ret.mk ⟨t.length-(i+1),by omega,i+1,hlt,rfl,rfl,OkF.succ.2 ⟨hok,hc⟩⟩
   ·rw[decide_eq_true (by omega),cond_true]
    exact Ret.mk (.inl ⟨_,rfl,fun h'=>hc (OkF.succ.1 (h'.mono hlt)).2⟩)
  ·have:i=t.length:=by omega
   subst this
   rw[dge,cond_false]
   exact Ret.mk (.inr ⟨by simp,hok⟩)
 ·rcases hr with ⟨x,rfl,hno⟩| ⟨rfl,hok⟩
  ·simp only[Sum.elim_inl]
   refine Ret.mk ?_
   unfold flatF
   rw[if_neg (fun h'=>hno h'.2)]
  ·simp only[Sum.elim_inr]
   have hlast:wI ((((TB d t t.length).map fN).length:Int)-1)=((t.length-1:Nat):Int):=by rw[List.length_map,KY]; exact wrapN (by omega) (by omega)
   rw[hlast,List.length_map,KY,if_pos ⟨by omega,by omega⟩,Int.toNat_natCast,fGetN]
   have hb:=(Rg hd ht h t.length (Nat.le_refl _) (t.length-1) (by omega)).1
   rw[QV (Xk hb),Option.bind_some]
   refine Ret.mk ?_
   unfold flatF
   rw[if_pos ⟨⟨ws,h⟩,hok⟩]; rfl
theorem L2{d:List Aa.V}{t:List Ab.V}(hd:DeclsP d)(ht:TermB t):Dc d (t,())=some (flatF d t):=by
 refine Ret.eq_ ?_
 unfold Dc
 have hd60:=hd.1
 rw[KG ht (by omega) hd,Option.bind_some]
 by_cases hw:∃ws,TermP d t ws
 ·obtain⟨ws,h⟩:=hw
  have hl1:=h.1
  have hl2:=h.2.1
  have hp:=Vm h
  rw[decide_eq_false (by omega),cond_false]
  refine Ret.bind (P:=fun r=>(r=.inl ()∧¬OkF d t t.length)∨(r=.inr (fN (lastB d t))∧OkF d t t.length)) ?_ fun r hr=>?_
  ·unfold Ke
   refine A2 (fun m (x:Int×List (List Af.V)×List Ad.V)=>∃i:Nat,i≤t.length∧m=t.length-i∧x.1=(i:Int)∧x.2.1=(TB d t i).map bV∧(0<i→x.2.2=fN ((TB d t i).getD (i-1) []))∧OkF d t i) (fun m x hI=>?_) t.length _ ⟨0,Nat.zero_le _,rfl,rfl,rfl,fun h=>by omega,fun i hi=>by omega⟩
   obtain⟨x1,x2,x3⟩:=x
   obtain⟨i,hi,rfl,h1,h2,h3,hok⟩:=hI
   simp only at h1 h2 h3
   subst h1 h2
   unfold Gi IL
   simp only
   rcases Nat.lt_or_ge i t.length with hlt | hge
   ·obtain⟨hnb,hw,hin⟩:=Rh hd ht h hlt (Rg hd ht h i hi)
    have hkl:=hnb.hb.1
    have hnd:t.getD i (Ty.zero Ab)=nd t i:=rfl
    have hkk:(nd t i).2.2.2.2.2.1=nKids (nd t i):=rfl
    have hkids:HI d (i:Int) (t,()) ((TB d t i).map bV) 0 []=some ((kidB (TB d t i) (nd t i)).map bV):=by
     unfold HI
     rw[Mq (f:=CI d (i:Int) (t,()) ((TB d t i).map bV)) (nKids (nd t i)).length (fun m=>bV ((TB d t i).getD ((nKids (nd t i)).getD m 0).toNat [])) [] (fun k acc hk ha=>by
      unfold CI Gf
      simp only
      have hk2:=hin _ (Az (z:=(0:Int)) hk)
      simp at ha
      have e0:(Ty.zero (.int .i64):Int)=0:=rfl
      rw[if_pos (rng hlt),Int.toNat_natCast,hnd,hkk,dlt hk,cond_true,if_pos (rng hlt),if_pos (rng hk),Int.toNat_natCast,e0,if_pos ⟨hk2.1,by rw[List.length_map,KY]; exact hk2.2⟩,kGet,stepN hk (by omega),if_pos (by show(_+1)*24≤_; omega)]) (fun acc=>by
      unfold CI Gf
      simp only
      rw[if_pos (rng hlt),Int.toNat_natCast,hnd,hkk,dge,cond_false])]
     rw[List.nil_append]
     congr 1
     unfold kidB
     rw[List.map_map]
     refine List.ext_getElem (by simp) fun q h1 h2=>?_
     simp only[List.getElem_map,List.getElem_range,Function.comp]
     have hq:q<(nKids (nd t i)).length:=by simpa using h1
     simp[List.getD,hq]
    rw[dlt hlt,cond_true,hkids,Option.bind_some,if_pos (rng hlt),Int.toNat_natCast,hnd,Q9 hnb,Option.bind_some]
    have hb:=Ld hnb
    rw[UO (fun b hb'=>KR hd (hb.2.2 b hb')) hb.2.1,Option.bind_some]
    by_cases hc:(norm (nodeBits d (nd t i) (kidB (TB d t i) (nd t i)))).length≤2000
    ·simp only[decide_eq_true hc,Bool.not_true,cond_false]
     rw[List.length_map,KY,if_pos (by show(_+1)*24≤_; omega),stepN hlt (by omega)]
     refine Ret.mk ⟨t.length-(i+1),by omega,i+1,hlt,rfl,rfl,?_,fun _=>?_,OkF.succ.2 ⟨hok,hc⟩⟩
     ·simp only[TB,List.map_append,List.map_cons,List.map_nil]
     ·simp only[Nat.add_sub_cancel]
      rw[NA]; rfl
    ·simp only[decide_eq_false hc,Bool.not_false,cond_true]
     exact Ret.mk (.inl ⟨rfl,fun h'=>hc (OkF.succ.1 (h'.mono hlt)).2⟩)
   ·have:i=t.length:=by omega
    subst this
    rw[dge,cond_false]
    exact Ret.mk (.inr ⟨by rw[h3 (by omega)]; rfl,hok⟩)
  ·rcases hr with ⟨rfl,hno⟩| ⟨rfl,hok⟩
   ·simp only[Sum.elim_inl]
    refine Ret.mk ?_
    unfold flatF
    rw[if_neg (fun h'=>hno h'.2)]
   ·simp only[Sum.elim_inr]
    refine Ret.mk ?_
    unfold flatF
    rw[if_pos ⟨⟨ws,h⟩,hok⟩]
 ·rw[LS hw,decide_eq_true (by omega),cond_true]
  refine Ret.mk ?_
  unfold flatF
  rw[if_neg (fun h'=>hw h'.1)]
end Go.Proofs.X
namespace Go.Va
def brk:List Bt→Nat
 | a::b::r=>(if a.sg.join b.sg=none then 1 else 0)+brk (b::r)
 | _=>0
theorem YK(B:List Bt)(c b:Bt):brk (B++[c,b])=brk (B++[c])+if c.sg.join b.sg=none then 1 else 0:=by
 induction B with
 | nil=>simp[brk]
 | cons a B ih =>
  cases B with
  | nil=>simp only[List.nil_append,List.cons_append,brk] at *; omega
  | cons x B=>simp only[List.cons_append,brk] at *; omega
theorem YP{l s j:Sg}(h:l.join s=some j)(x:Bt):j.join x.sg=none↔s.join x.sg=none:=by
 cases l<;>cases s<;>simp only[Sg.join] at h
 ·cases h; cases x<;>simp[Sg.join,Bt.sg]
 ·cases h
 ·cases h
 ·split at h
  ·rename_i hc
   cases h
   cases x with
   | co b=>simp[Sg.join,Bt.sg]
   | va v a =>
    simp only[Sg.join,Bt.sg,hc.1,←hc.2,Nat.add_assoc]
    split<;>simp
  ·cases h
theorem YJ(B:List Bt)(c:Bt):∃g l,norm (B++[c])=g++[l]∧∀x:Bt,l.join x.sg=none↔c.sg.join x.sg=none:=by
 have e:norm (B++[c])=raise1 (norm B) c.sg:=by unfold norm; rw[Hv]; rfl
 rw[e]
 rcases List.eq_nil_or_concat (norm B) with h | ⟨g,l,h⟩
 ·rw[h]; exact⟨[],c.sg,rfl,fun x=>Iff.rfl⟩
 ·rw[h,List.concat_eq_append,CL]
  cases hj:l.join c.sg with
  | none=>exact⟨g++[l],c.sg,by simp,fun x=>Iff.rfl⟩
  | some j=>exact⟨g,j,rfl,YP hj⟩
theorem Rb(B:List Bt)(c:Bt):(norm (B++[c])).length=brk (B++[c])+1:=by
 have key:∀(n:Nat) (B:List Bt) (c:Bt),B.length=n→(norm (B++[c])).length=brk (B++[c])+1:=by
  intro n
  induction n with
  | zero=>intro B c h; rw[List.length_eq_zero_iff.1 h]; simp[norm,addB,raise1,brk]
  | succ n ih =>
   intro B c h
   rcases List.eq_nil_or_concat B with rfl | ⟨B0,x,rfl⟩
   ·simp at h
   ·rw[List.concat_eq_append] at h ⊢
    rw[List.append_assoc]
    simp only[List.cons_append,List.nil_append]
    have i:=ih B0 x (by simp at h; omega)
    obtain⟨g,l,hg,hl⟩:=YJ B0 x
    have e:norm (B0++[x,c])=raise1 (norm (B0++[x])) c.sg:=by
     rw[show B0++[x,c]=(B0++[x])++[c] by simp]
     unfold norm; rw[Hv]; rfl
    rw[YK,e,hg,CL]
    rw[hg] at i
    simp only[List.length_append,List.length_cons,List.length_nil] at i
    cases hj:l.join c.sg with
    | none=>rw[if_pos ((hl c).1 hj)]; simp; omega
    | some j =>
     rw[if_neg (fun h'=>by rw[(hl c).2 h'] at hj; cases hj)]; simp; omega
 exact key _ B c rfl
end Go.Va
namespace Go.Proofs.X
open Go Go.Va
set_option maxRecDepth 100000
def FormB(d:List Aa.V)(B:List Bt):Prop:=BitsIn d B∧(norm B).length≤2000
theorem FormB.pos{d:List Aa.V}{B:List Bt}(h:FormB d B):1≤(norm B).length:=by
 rcases List.eq_nil_or_concat B with rfl | ⟨B0,x,rfl⟩
 ·have:=h.1.1; simp at this
 ·rw[List.concat_eq_append,Rb]; omega
def CutP(B:List Bt)(hi lo:Int):Prop:=0≤lo∧lo≤hi∧hi<(B.length:Int)
instance (B:List Bt) (hi lo:Int):Decidable (CutP B hi lo):=inferInstanceAs (Decidable (_∧_))
def JoinP(A B:List Bt):Prop:=A.length+B.length≤4096∧(norm (B++A)).length≤2000
instance (A B:List Bt):Decidable (JoinP A B):=inferInstanceAs (Decidable (_∧_))
end Go.Proofs.X
namespace Go.Proofs.X
open Go Go.Va
set_option maxRecDepth 100000
theorem XR{d:List Aa.V}{t:List Ab.V}{ws:List Int}(hd:DeclsP d)(ht:TermB t)(h:TermP d t ws):BitsIn d (lastB d t):=by
 have:=h.1
 exact(Rg hd ht h t.length (Nat.le_refl _) (t.length-1) (by omega)).1
theorem Oj{d:List Aa.V}{t:List Ab.V}(hd:DeclsP d)(ht:TermB t)(h:(flatF d t).1=true):FormB d (lastB d t)∧(flatF d t).2=fN (lastB d t):=by
 unfold flatF at h ⊢
 split at h
 ·rename_i hc
  rw[if_pos hc]
  obtain⟨⟨ws,hw⟩,hok⟩:=hc
  have:=hw.1
  exact⟨⟨XR hd ht hw,hok _ (by omega)⟩,rfl⟩
 ·cases h
theorem LL{d:List Aa.V}{t:List Ab.V}(h:0≤termW d t):∃ws,TermP d t ws :=
 Classical.byContradiction fun h'=>by rw[LS h'] at h; omega
def SideOk(d:List Aa.V)(l:List Ae.V)(i:Nat):Prop:=(flatF d (lS l i)).1=true∧(flatF d (lT l i)).1=true
def SidesP(d:List Aa.V)(l:List Ae.V):Prop:=∀i,i<l.length→SideOk d l i
theorem Sr{a b:Bool}:(!a||!b)=false↔a=true∧b=true:=by cases a<;>cases b<;>decide
def GivenP(l:List Ae.V)(id:Int)(i:Nat):Prop:=(li l i).1=id∧(li l i).2.1=true
def FirstG(l:List Ae.V)(id g:Int):Prop:=(g=-1∧∀i,i<l.length→¬GivenP l id i)∨∃k:Nat,g=(k:Int)∧k<l.length∧GivenP l id k∧∀i,i<k→¬GivenP l id i
theorem FirstG.unique{l:List Ae.V}{id g h:Int}(hg:FirstG l id g)(hh:FirstG l id h):g=h:=by
 rcases hg with ⟨rfl,h1⟩| ⟨k,rfl,hk,hp,hn⟩
 ·rcases hh with ⟨rfl,_⟩| ⟨k,rfl,hk,hp,_⟩
  ·rfl
  ·exact absurd hp (h1 k hk)
 ·rcases hh with ⟨rfl,h1⟩| ⟨j,rfl,hj,hq,hm⟩
  ·exact absurd hp (h1 k hk)
  ·rcases Nat.lt_trichotomy k j with h | h | h
   ·exact absurd hp (hm k h)
   ·rw[h]
   ·exact absurd hq (hn j h)
theorem n1:strEq ⟨#[105]⟩ ⟨#[]⟩=false:=by kernel_rfl
theorem n2:strEq ⟨#[116]⟩ ⟨#[]⟩=false:=by kernel_rfl
end Go.Proofs.X
namespace Go.Proofs.X
open Go Go.Va
set_option maxRecDepth 100000
section
end
end Go.Proofs.X
namespace Go.Va
theorem Aei {A B:Type} {F:A→Int→Option Int} {G:B→Int→Option Int} {x:A} {y:B} {m n:Nat} (hF:∀left:Int,0≤left→left≤1048576→F x left=some (if(m:Int)≤left then left-(m:Int) else -1)) (hG:∀left:Int,0≤left→left≤1048576→G y left=some (if(n:Int)≤left then left-(n:Int) else -1)) {left:Int} (h0:0≤left) (h1:left≤1048576) :
    ((F x left).bind fun c=>bif decide (c<0) then some (-1) else(G y c).bind fun d=>bif decide (d<0) then some (-1) else some d)=some (if((m+n:Nat):Int)≤left then left-((m+n:Nat):Int) else -1):=by
 rw[hF left h0 h1,Option.bind_some]
 split
 ·rw[decide_eq_false (by omega),cond_false,hG _ (by omega) (by omega),Option.bind_some]
  split
  ·rw[decide_eq_false (by omega),cond_false,if_pos (by omega)]; congr 1; omega
  ·rw[if_neg (by omega)]; rfl
 ·rw[if_neg (by omega)]; rfl
theorem Ab3 {A:Type} {F:A→Int→Option Int} {x:A} {m:Nat} (hF:∀left:Int,0≤left→left≤1048576→F x left=some (if(m:Int)≤left then left-(m:Int) else -1)) {left:Int} (h0:0≤left) (h1:left≤1048576) :
    ((F x left).bind fun c=>bif decide (c<0) then some (-1) else some c)=some (if(m:Int)≤left then left-(m:Int) else -1):=by
 rw[hF left h0 h1,Option.bind_some]
 split
 ·rw[decide_eq_false (by omega),cond_false]
 ·rfl
theorem Aa8{m:Nat}{left:Int}(h0:0≤left)(h1:left≤1048576)(hn:m≤maxLen):(bif decide ((wI (left-(m:Int)))<0) then(-1) else wI (left-(m:Int)))=if(m:Int)≤left then left-(m:Int) else -1:=by
 unfold maxLen at hn
 rw[wrap64 (by omega) (by omega)]
 split
 ·rw[show decide (left-(m:Int)<0)=false by simp; omega]; rfl
 ·rw[show decide (left-(m:Int)<0)=true by simp; omega]; rfl
theorem P0 {A E:Type} {F:A→Option E} {mk:E→A} {z:A} {z0:A} {r:Int×List A→Option ((Int×List A)⊕List A)} {a:List A}
    (hr:∀x,r x=bif decide (x.1<(a.length:Int)) then(if(0:Int)≤x.1∧x.1<(a.length:Int) then(F (a.getD x.1.toNat z)).bind fun e=>(if(0:Int)≤x.1∧x.1<(x.2.length:Int) then some (.inl (wI (x.1+1),x.2.set x.1.toNat (mk e))) else none) else none) else some (.inr x.2))
    (hn:a.length≤1048576) (hF:∀x∈a,∃e,F x=some e∧mk e=x):fix r (0,List.replicate a.length z0)=some a:=by
 have:=AG (f:=r) (fun k=>((k:Int),Go.Proofs.X.fillN (fun i=>a.getD i z) z0 a.length k)) (t:=a) a.length (fun k hk=>by
  rw[hr]
  simp only
  obtain⟨e,he,hm⟩:=hF (a.getD k z) (by simp[List.getD,hk])
  rw[dlt hk,cond_true,if_pos (rng hk),Int.toNat_natCast,he,Option.bind_some,Go.Proofs.X.fillN_len,if_pos (rng hk),hm]
  rw[show wI ((k:Int)+1)=((k+1:Nat):Int) from Go.Proofs.X.stepN hk hn,Go.Proofs.X.fillN_set (fun i=>a.getD i z) z0]) (by
  rw[hr]
  simp only
  rw[dge,cond_false,Go.Proofs.X.fillN_full])
 have h:fix r (((0:Nat):Int),Go.Proofs.X.fillN (fun i=>a.getD i z) z0 a.length 0)=some a:=this
 rw[Go.Proofs.X.fillN_zero] at h
 exact h
end Go.Va
namespace Go.Proofs.X
open Go Go.Va
set_option maxRecDepth 100000
theorem UD{a:Aa.V}(h:Ty.Wf Aa a):SzOk Aa (fun x l=>some (Es x l)) a:=fun left h0 h1=>by
 show some (Es a left)=_
 unfold Es
 rw[Aa8 h0 h1 h.1]
 rfl
theorem Tz{a:List Aa.V}(h:Ty.Wf (.sl Aa) a):SzOk (.sl Aa) Jp a :=
 VI (z:=Ty.zero Aa) (r:=Gv) (fun _ _=>rfl) (fun _ _=>rfl) h.1 fun x hx=>UD (h.2 x hx)
theorem UE{a:Ah.V}(h:Ty.Wf Ah a):SzOk Ah (fun x l=>some (Bc x l)) a:=fun left h0 h1=>by
 have hu:=Qd h.2.1.1 left h0 h1
 have e:wt Ah a=wt (.sl (.int .u64)) a.2.1:=by show 0+(_+0)=_; omega
 show some (Bc a left)=_
 unfold Bc
 rw[e]
 have hu':AT a.2.1 left=_:=Option.some.inj hu
 rw[hu']
 congr 1
 split
 ·rw[decide_eq_false (by omega),cond_false]
 ·rfl
theorem Td{a:Ab.V}(h:Ty.Wf Ab a):SzOk Ab (fun x l=>some (Dr x l)) a:=fun left h0 h1=>by
 have hb:=UE h.2.2.2.2.1 left h0 h1
 have hb':Bc a.2.2.2.2.1 left=_:=Option.some.inj hb
 have hi:∀l:Int,0≤l→l≤1048576→A7 a.2.2.2.2.2.1 l=_:=fun l h0 h1=>Option.some.inj (R4 h.2.2.2.2.2.1.1 l h0 h1)
 have e:wt Ab a=wt Ah a.2.2.2.2.1+wt (.sl (.int .i64)) a.2.2.2.2.2.1:=by show 0+(0+(0+(0+(_+(_+0)))))=_; omega
 show some (Dr a left)=_
 unfold Dr
 rw[hb',e]
 congr 1
 generalize wt Ah a.2.2.2.2.1=m at *
 by_cases hm:(m:Int)≤left
 ·rw[if_pos hm,decide_eq_false (by omega),cond_false,hi _ (by omega) (by omega)]
  generalize wt (.sl (.int .i64)) a.2.2.2.2.2.1=n at *
  by_cases hn:(n:Int)≤left-(m:Int)
  ·rw[if_pos hn,decide_eq_false (by omega),cond_false,if_pos (by omega)]; omega
  ·rw[if_neg hn,if_neg (by omega)]; rfl
 ·rw[if_neg hm,if_neg (by omega)]; rfl
theorem Ru{a:List Ab.V}(h:Ty.Wf (.sl Ab) a):SzOk (.sl Ab) F6 a :=
 VI (z:=Ty.zero Ab) (r:=Fq) (fun _ _=>rfl) (fun _ _=>rfl) h.1 fun x hx=>Td (h.2 x hx)
theorem Q4{a:Aj.V}(h:Ty.Wf Aj a):SzOk Aj FO a:=fun left h0 h1 =>
 Ab3 (F:=F6) (x:=a.1) (Ru h.1) h0 h1
theorem P3{a:Ae.V}(h:Ty.Wf Ae a):SzOk Ae GC a:=fun left h0 h1=>by
 have e:wt Ae a=wt Aj a.2.2.1+wt Aj a.2.2.2.1:=by show 0+(0+(_+(_+0)))=_; omega
 rw[e]
 exact Aei (F:=FO) (G:=FO) (Q4 h.2.2.1) (Q4 h.2.2.2.1) h0 h1
theorem O1{a:List Ae.V}(h:Ty.Wf (.sl Ae) a):SzOk (.sl Ae) FC a :=
 VI (z:=Ty.zero Ae) (r:=DS) (fun _ _=>rfl) (fun _ _=>rfl) h.1 fun x hx=>P3 (h.2 x hx)
theorem Se{t:Ty}(a:List t.V):a.length≤wt (.sl t) a:=Nat.le_add_right _ _
theorem Y8{t:Ty}{a:List t.V}{x:t.V}(h:x∈a):wt t x≤wt (.sl t) a:=by
 show _≤a.length+(a.map (wt t)).sum
 have:∀l:List t.V,x∈l→wt t x≤(l.map (wt t)).sum:=fun l hl=>by
  induction l with
  | nil=>cases hl
  | cons y l ih =>
   simp only[List.map_cons,List.sum_cons]
   rcases List.mem_cons.1 hl with rfl | hl
   ·omega
   ·have:=ih hl; omega
 have:=this a h; omega
theorem Aem{n:Ab.V}(hw:Ty.Wf Ab n)(h:wt Ab n≤1048576):NodeB n:=by
 have e:wt Ab n=wt (.sl (.int .u64)) (nWs n)+wt (.sl (.int .i64)) (nKids n):=by show 0+(0+(0+(0+((0+(_+0))+(_+0)))))=_; unfold nWs nKids; omega
 rw[e,Wa,TU] at h
 exact⟨by omega,by omega,WG hw.2.2.2.2.1.2.1.2⟩
theorem Y1{t:Aj.V}(hw:Ty.Wf Aj t)(h:wt Aj t≤1048576):TermB t.1:=by
 have e:wt Aj t=wt (.sl Ab) t.1:=rfl
 rw[e] at h
 exact⟨Nat.le_trans (Se t.1) h,fun n hn=>Aem (hw.1.2 n hn) (Nat.le_trans (Y8 hn) h)⟩
theorem AhQ{x:Ae.V}(hw:Ty.Wf Ae x)(h:wt Ae x≤1048576):LitB x:=by
 have e:wt Ae x=wt Aj x.2.2.1+wt Aj x.2.2.2.1:=by show 0+(0+(_+(_+0)))=_; omega
 rw[e] at h
 exact⟨Y1 hw.2.2.1 (by omega),Y1 hw.2.2.2.1 (by omega)⟩
theorem Ts{a:List Aa.V}(h:a.length≤1048576):Db a=some a:=by
 unfold Db J8
 rw[if_pos ⟨rfl,by omega,by omega,by omega,by omega⟩,Int.toNat_natCast,P0 (r:=Gh a) (F:=fun x=>some (IO x)) (mk:=fun e=>(e.1,e.2,())) (z:=Ty.zero Aa) (fun _=>rfl) h (fun x _=>⟨_,rfl,rfl⟩)]
 rfl
theorem PD{a:List Int}(h:a.length≤1048576):DC a=some a:=by
 unfold DC IM
 rw[if_pos ⟨rfl,by omega,by omega,by omega,by omega⟩,Int.toNat_natCast,P0 (r:=EB a) (F:=fun x=>some x) (mk:=fun e=>e) (z:=Ty.zero (.int .u64)) (fun _=>rfl) h (fun x _=>⟨_,rfl,rfl⟩)]
 rfl
theorem RP{a:List Int}(h:a.length≤1048576):EA a=some a:=by
 unfold EA Jt
 rw[if_pos ⟨rfl,by omega,by omega,by omega,by omega⟩,Int.toNat_natCast,P0 (r:=Fu a) (F:=fun x=>some x) (mk:=fun e=>e) (z:=Ty.zero (.int .i64)) (fun _=>rfl) h (fun x _=>⟨_,rfl,rfl⟩)]
 rfl
theorem R5{a:List Ab.V}(h:TermB a):Gm a=some a:=by
 unfold Gm Jv
 have hl:=h.1
 rw[if_pos ⟨rfl,by omega,by omega,by omega,by omega⟩,Int.toNat_natCast,P0 (r:=FA a) (F:=HC) (mk:=fun e=>(e.1,e.2.1,e.2.2.1,e.2.2.2.1,(e.2.2.2.2.1,e.2.2.2.2.2.1,()),e.2.2.2.2.2.2,())) (z:=Ty.zero Ab) (fun _=>rfl) hl (fun x hx=>by
  have hn:=h.2 x hx
  unfold HC Kk
  rw[show DC x.2.2.2.2.1.2.1=some x.2.2.2.2.1.2.1 from PD hn.2.1,Option.bind_some,Option.bind_some,show EA x.2.2.2.2.2.1=some x.2.2.2.2.2.1 from RP hn.1]
  exact⟨_,rfl,rfl⟩)]
 rfl
theorem Qx{t:Aj.V}(h:TermB t.1):Hn t=some t.1:=by
 unfold Hn
 rw[R5 h]; rfl
theorem Ps{a:List Ae.V}(hl:a.length≤1048576)(h:∀x∈a,LitB x):Bi a=some a:=by
 unfold Bi HU
 rw[if_pos ⟨rfl,by omega,by omega,by omega,by omega⟩,Int.toNat_natCast,P0 (r:=DN a) (F:=ER) (mk:=fun e=>(e.1,e.2.1,(e.2.2.1,()),(e.2.2.2,()),())) (z:=Ty.zero Ae) (fun _=>rfl) hl (fun x hx=>by
  unfold ER
  rw[Qx (h x hx).1,Option.bind_some,Qx (h x hx).2]
  exact⟨_,rfl,rfl⟩)]
 rfl
end Go.Proofs.X
namespace Go.Va
def Ch{A:Type}(H:Int→A→Int→Prop):List A→Int→Int→Prop
 | [],k,k'=>k=k'
 | x::xs,k,k'=>∃m,H k x m∧Ch H xs m k'
section
variable {A:Type} {H:Int→A→Int→Prop}
theorem Vr{x:A}:∀{l:List A} {k k' m:Int},Ch H l k m→H m x k'→Ch H (l++[x]) k k'
 | [],_,_,_,h1,h2=>by cases h1; exact⟨_,h2,rfl⟩
 | _::_,_,_,_,⟨n,h0,h1⟩,h2=>⟨n,h0,Vr h1 h2⟩
theorem UQ(hH:∀b x b',H b x b'→b≤b'):∀{l:List A} {k k':Int},Ch H l k k'→k≤k'
 | [],_,_,h=>by cases h; omega
 | _::_,_,_,⟨_,h0,h1⟩=>by have:=hH _ _ _ h0; have:=UQ hH h1; omega
theorem gsS{d:List A}{i:Nat}{x z:A}(h:i<d.length):(d.set i x).getD i z=x:=by simp[List.getD,h]
theorem OZ{cost:A→Nat}{a:List A}{z:A}{i:Nat}(h:i<a.length):((a.take (i+1)).map cost).sum=((a.take i).map cost).sum+cost (a.getD i z):=by
 rw[List.take_succ_eq_append_getElem h,List.map_append,List.sum_append]
 simp[List.getD,h]
theorem RD{cost:A→Nat}{a:List A}{i:Nat}:((a.take i).map cost).sum≤(a.map cost).sum:=by
 conv=>rhs; rw[←List.take_append_drop i a,List.map_append,List.sum_append]
 omega
theorem N2{c:Nat}(l:List A):(l.map fun _=>c).sum=c*l.length:=by
 induction l with
 | nil=>rfl
 | cons x l ih=>rw[List.map_cons,List.sum_cons,ih,List.length_cons,Nat.mul_succ]; omega
theorem KW {f:Int×Int×List A→Option ((Int×Int×List A)⊕(Int×List A))} {cost:A→Nat} {z:A} {a:List A} {k:Int} (M:Int)
    (hs:∀b i (d:List A),i<a.length→d.length=a.length→d.getD i z=a.getD i z→0≤b→b+(cost (a.getD i z):Int)≤M →
     Ret (f (b,(i:Int),d)) fun r=>∃b' x',r=.inl (b',((i+1:Nat):Int),d.set i x')∧b≤b'∧b'≤b+(cost (a.getD i z):Int)∧H b x' b')
    (he:∀b (d:List A),d.length=a.length→f (b,(a.length:Int),d)=some (.inr (b,d))) (h0:0≤k) (hM:k+(((a.map cost).sum:Nat):Int)≤M) :
    Ret (fix f (k,0,a)) fun r=>k≤r.1∧r.1≤k+(((a.map cost).sum:Nat):Int)∧r.2.length=a.length∧Ch H r.2 k r.1:=by
 refine A2 (fun m (x:Int×Int×List A)=>∃i:Nat,i≤a.length∧m=a.length-i∧x.2.1=(i:Int)∧x.2.2.length=a.length∧Ch H (x.2.2.take i) k x.1∧(∀j,i≤j→x.2.2.getD j z=a.getD j z)∧k≤x.1∧x.1≤k+((((a.take i).map cost).sum:Nat):Int)) (fun m x hI=>?_) a.length _ ⟨0,Nat.zero_le _,rfl,rfl,rfl,by simp[Ch],fun _ _=>rfl,by simp,by simp⟩
 obtain⟨b,c,d⟩:=x
 obtain⟨i,hi,rfl,h1,h2,h3,h4,h5,h6⟩:=hI
 simp only at h1 h2 h3 h4 h5 h6
 subst h1
 rcases Nat.lt_or_ge i a.length with h | h
 ·have hsum:=OZ (cost:=cost) (z:=z) h
  have hle:=RD (cost:=cost) (a:=a) (i:=i+1)
  refine(hs b i d h h2 (h4 i (Nat.le_refl _)) (by omega) (by omega)).mono fun r hr=>?_
  obtain⟨b',x',rfl,hb1,hb2,hH⟩:=hr
  refine⟨a.length-(i+1),by omega,i+1,h,rfl,rfl,by rw[List.length_set]; exact h2,?_,fun j hj=>?_,by show k≤b'; omega,by show b'≤_; omega⟩
  ·show Ch H ((d.set i x').take (i+1)) k b'
   rw[List.take_succ_eq_append_getElem (by rw[List.length_set]; omega),List.take_set_of_le (Nat.le_refl _)]
   simp only[List.getElem_set_self]
   exact Vr h3 hH
  ·show(d.set i x').getD j z=_
   rw[←h4 j (by omega)]
   simp only[List.getD,List.getElem?_set,show ¬i=j by omega,if_false]
 ·have:i=a.length:=by omega
  subst this
  rw[he b d h2]
  rw[List.take_of_length_le (by omega)] at h3
  rw[List.take_of_length_le (Nat.le_refl _)] at h6
  exact Ret.mk ⟨h5,h6,h2,h3⟩
theorem P8{f:Int×Int→Option ((Int×Int)⊕(Int⊕Int))}{z:A}{a:List A}(hs:∀i b b',i<a.length→H b (a.getD i z) b'→f (b,(i:Int))=some (.inl (b',((i+1:Nat):Int))))(he:∀b,f (b,(a.length:Int))=some (.inr (.inr b))){k k':Int}(h:Ch H a k k'):fix f (k,0)=some (.inr k'):=by
 have:∀(l:List A) (i:Nat) (b:Int),a.drop i=l→i+l.length=a.length→Ch H l b k'→fix f (b,(i:Int))=some (.inr k'):=fun l=>by
  induction l with
  | nil =>
   intro i b h1 h2 h3
   have h3:b=k':=h3
   subst h3
   have:i=a.length:=by simpa using h2
   rw[this]
   exact Bv (he b)
  | cons x l ih =>
   intro i b h1 h2 h3
   obtain⟨m,h3,h4⟩:=h3
   simp only[List.length_cons] at h2
   have hi:i<a.length:=by omega
   rw[List.drop_eq_getElem_cons hi] at h1
   injection h1 with h1 h5
   have hx:a.getD i z=x:=by rw[←h1]; simp[List.getD,hi]
   rw[HM (hs i b m hi (by rw[hx]; exact h3))]
   exact ih (i+1) m h5 (by omega) h4
 exact this a 0 k rfl (by simp) h
end
end Go.Va
namespace Go.Proofs.X
open Go Go.Va
set_option maxRecDepth 100000
theorem w1{b:Int}(h0:0≤b)(h1:b≤2305843009213693952):wI (b+1)=b+1:=wrap64 (by omega) (by omega)
def Hu(b x b':Int):Prop:=x=IntKind.u64.wrap b∧b'=b+1∧0≤b∧b'≤2305843009213693952
theorem ZE{b x b':Int}(h:Hu b x b'):b≤b':=by have:=h.2.1; omega
def MarkR{A:Type}(H:Int→A→Int→Prop)(a:List A)(n:Nat)(k:Int)(r:Int×List A):Prop:=k≤r.1∧r.1≤k+(n:Int)∧r.2.length=a.length∧Ch H r.2 k r.1
theorem L1{a:List Int}(hn:a.length≤1048576){k:Int}(h0:0≤k)(hk:k+(a.length:Int)≤2305843009213693952):Ret (B7 k a) (MarkR Hu a a.length k):=by
 unfold B7 Hl
 have hc:(a.map fun _=>1).sum=a.length:=by rw[N2]; omega
 have:=KW (f:=Bf) (cost:=fun _=>1) (z:=(0:Int)) (a:=a) (H:=Hu) (k:=k) 2305843009213693952 (fun b i d hi hd hg hb0 hb=>by
  unfold Bf Dd
  try simp only
  try simp only at hb
  rw[hd,dlt hi,cond_true,if_pos (rng hi),Int.toNat_natCast,w1 hb0 (by omega),stepN hi hn]
  exact Ret.mk ⟨b+1,_,rfl,by omega,by omega,rfl,rfl,hb0,by omega⟩) (fun b d hd=>by
  unfold Bf Dd
  try simp only
  rw[hd,dge,cond_false]) h0 (by rw[hc]; exact hk)
 rw[hc] at this
 exact this.bind fun r hr=>Ret.mk hr
theorem Od{a:List Int}(hn:a.length≤1048576){k k':Int}(h:Ch Hu a k k'):C8 a k=some k':=by
 unfold C8 Hm
 rw[P8 (f:=Be a) (z:=(0:Int)) (H:=Hu) (fun i b b' hi hH=>by
  unfold Be Ds
  try simp only
  obtain⟨h1,h2,h3,h4⟩:=hH
  rw[dlt hi,cond_true,if_pos (rng hi),Int.toNat_natCast,show(Ty.zero (.int .u64):Int)=0 from rfl,h1,bne_self_eq_false,cond_false,w1 h3 (by omega),stepN hi hn,h2]) (fun b=>by
  unfold Be Ds
  try simp only
  rw[dge,cond_false]) h]
 rfl
theorem OR{a:List Int}(hn:a.length≤1048576){k:Int}(h0:0≤k)(hk:k+(a.length:Int)≤2305843009213693952):Ret (Ed k a) (MarkR (fun _ _ _=>True) a a.length k):=by
 unfold Ed Io
 have hc:(a.map fun _=>1).sum=a.length:=by rw[N2]; omega
 have:=KW (f:=Bo) (cost:=fun _=>1) (z:=(0:Int)) (a:=a) (H:=fun _ _ _=>True) (k:=k) 2305843009213693952 (fun b i d hi hd hg hb0 hb=>by
  unfold Bo DH
  try simp only
  try simp only at hb
  rw[hd,dlt hi,cond_true,if_pos (rng hi),Int.toNat_natCast,w1 hb0 (by omega),stepN hi hn]
  exact Ret.mk ⟨b+1,_,rfl,by omega,by omega,trivial⟩) (fun b d hd=>by
  unfold Bo DH
  try simp only
  rw[hd,dge,cond_false]) h0 (by rw[hc]; exact hk)
 rw[hc] at this
 exact this.bind fun r hr=>Ret.mk hr
theorem Rm(k:Int)(h1:k≤2305843009213693952):Ret (Gr k) fun _=>True:=by
 unfold Gr
 refine Ret.cond (fun _=>Ret.mk trivial) fun h=>?_
 have hk:0<k:=by simpa using h
 refine Ret.bind (P:=fun s=>s.size≤100) ?_ fun s hs=>?_
 ·unfold Jz
  refine A2 (fun m (x:Int×ByteArray)=>∃j n:Nat,j≤70∧m=70-j∧x.1=(n:Int)∧n*2^j≤2^62∧x.2.size=j) (fun m x hI=>?_) 70 _ ⟨0,k.toNat,by omega,rfl,by show k=_; omega,by rw[Nat.pow_zero]; omega,rfl⟩
  obtain⟨b,c⟩:=x
  obtain⟨j,n,hj,rfl,hb0,hb1,hc⟩:=hI
  simp only at hb0 hb1 hc
  subst hb0
  unfold Ft Id
  simp only
  refine Ret.cond (fun hb=>?_) fun _=>Ret.mk (by show c.size≤100; omega)
  have hb:(n:Int)>0:=of_decide_eq_true hb
  have hp:1≤2^j:=Nat.one_le_two_pow
  have hbig:n*1≤n*2^j:=Nat.mul_le_mul_left _ hp
  have hj2:j≤62:=by
   rcases Nat.lt_or_ge 62 j with h | h
   ·exfalso
    have h2:2^63≤2^j:=Nat.pow_le_pow_right (by omega) (by omega)
    have h3:1*2^j≤n*2^j:=Nat.mul_le_mul_right _ (by omega)
    omega
   ·exact h
  rw[if_pos (by show(1:Nat)+c.size≤_; omega)]
  have hd:Int.tdiv (n:Int) 10=((n/10:Nat):Int):=rfl
  rw[hd,wrap64 (by omega) (by omega)]
  refine Ret.mk ⟨70-(j+1),by omega,j+1,n/10,by omega,rfl,rfl,?_,?_⟩
  ·have h4:n/10*2≤n:=by omega
   have h5:=Nat.mul_le_mul_right (2^j) h4
   rw[Nat.pow_succ,Nat.mul_comm (2^j) 2,←Nat.mul_assoc]
   omega
  ·show(bytesOf [_]++c).size=j+1
   rw[ByteArray.size_append,hc]
   show 1+j=_; omega
 ·rw[if_pos (by show(1:Nat)+s.size≤_; omega)]
  exact Ret.mk trivial
theorem P4{a:List Aa.V}(hn:a.length≤1048576){k:Int}(h0:0≤k)(hk:k+((2*a.length:Nat):Int)≤2305843009213693952):Ret (ET k a) (MarkR (fun _ _ _=>True) a (2*a.length) k):=by
 unfold ET I3
 have hc:(a.map fun _=>2).sum=2*a.length:=N2 a
 have:=KW (f:=BE) (cost:=fun _=>2) (z:=Ty.zero Aa) (a:=a) (H:=fun _ _ _=>True) (k:=k) 2305843009213693952 (fun b i d hi hd hg hb0 hb=>by
  unfold BE Et
  try simp only
  try simp only at hb
  rw[hd,dlt hi,cond_true]
  refine(Rm b (by omega)).bind fun s _=>?_
  have hid:i<d.length:=by omega
  simp only[List.length_set,hd,Int.toNat_natCast,gsS hid,List.set_set]
  rw[if_pos (rng hi),if_pos (rng hi),w1 hb0 (by omega),w1 (by omega) (by omega),stepN hi hn]
  exact Ret.mk ⟨b+1+1,_,rfl,by omega,by omega,trivial⟩) (fun b d hd=>by
  unfold BE Et
  try simp only
  rw[hd,dge,cond_false]) h0 (by rw[hc]; exact hk)
 rw[hc] at this
 exact this.bind fun r hr=>Ret.mk hr
def costN(n:Ab.V):Nat:=5+(nWs n).length+(nKids n).length
theorem Mt{a:List Ab.V}(hn:TermB a){k:Int}(h0:0≤k)(hk:k+(((a.map costN).sum:Nat):Int)≤2305843009213693952):Ret (CW k a) (MarkR (fun _ _ _=>True) a (a.map costN).sum k):=by
 unfold CW HL
 have hl:=hn.1
 have:=KW (f:=Bu) (cost:=costN) (z:=Ty.zero Ab) (a:=a) (H:=fun _ _ _=>True) (k:=k) 2305843009213693952 (fun b i d hi hd hg hb0 hb=>by
  unfold Bu DM Fg Fy Fj
  simp only
  have hid:i<d.length:=by omega
  have hnb:NodeB (a.getD i (Ty.zero Ab)):=hn.2 _ (Az hi)
  unfold costN at hb
  rw[hd,dlt hi,cond_true]
  simp(disch:=omega) only[w1,List.length_set,hd,Int.toNat_natCast,gsS hid,List.set_set,if_pos (rng hi),Option.bind_some,Option.bind_assoc]
  rw[hg]
  refine(L1 (a:=nWs (a.getD i (Ty.zero Ab))) hnb.2.1 (by omega) (by omega)).bind fun r hr=>?_
  obtain⟨r1,r2,_,_⟩:=hr
  refine(OR (a:=nKids (a.getD i (Ty.zero Ab))) hnb.1 (by omega) (by omega)).bind fun q hq=>?_
  obtain⟨q1,q2,_,_⟩:=hq
  exact Ret.mk ⟨q.1,_,rfl,by omega,by unfold costN; omega,trivial⟩) (fun b d hd=>by
  unfold Bu DM
  try simp only
  rw[hd,dge,cond_false]) h0 hk
 exact this.bind fun r hr=>Ret.mk hr
def costT(t:List Ab.V):Nat:=(t.map costN).sum
def costL(x:Ae.V):Nat:=2+costT x.2.2.1.1+costT x.2.2.2.1.1
theorem NF{a:List Ae.V}(hl:a.length≤1048576)(hn:∀x∈a,LitB x){k:Int}(h0:0≤k)(hk:k+(((a.map costL).sum:Nat):Int)≤2305843009213693952):Ret (CC k a) (MarkR (fun _ _ _=>True) a (a.map costL).sum k):=by
 unfold CC Gy
 have:=KW (f:=A3) (cost:=costL) (z:=Ty.zero Ae) (a:=a) (H:=fun _ _ _=>True) (k:=k) 2305843009213693952 (fun b i d hi hd hg hb0 hb=>by
  unfold A3 C0 DP DQ DJ
  simp only
  have hid:i<d.length:=by omega
  have hnb:LitB (a.getD i (Ty.zero Ae)):=hn _ (Az hi)
  unfold costL costT at hb
  rw[hd,dlt hi,cond_true]
  simp(disch:=omega) only[w1,List.length_set,hd,Int.toNat_natCast,gsS hid,List.set_set,if_pos (rng hi),Option.bind_some,Option.bind_assoc]
  rw[hg]
  refine(Mt (a:=(a.getD i (Ty.zero Ae)).2.2.1.1) hnb.1 (by omega) (by omega)).bind fun r hr=>?_
  obtain⟨r1,r2,_,_⟩:=hr
  refine(Mt (a:=(a.getD i (Ty.zero Ae)).2.2.2.1.1) hnb.2 (by omega) (by omega)).bind fun q hq=>?_
  obtain⟨q1,q2,_,_⟩:=hq
  exact Ret.mk ⟨q.1,_,rfl,by omega,by unfold costL costT; omega,trivial⟩) (fun b d hd=>by
  unfold A3 C0
  try simp only
  rw[hd,dge,cond_false]) h0 hk
 exact this.bind fun r hr=>Ret.mk hr
end Go.Proofs.X
namespace Go.Proofs.X
open Go Go.Va
set_option maxRecDepth 100000
theorem Nt{x:Int}(h1:-1≤x)(h2:x≤1048576):Ty.Wf (.int .i64) x:=by
 show IntKind.i64.min≤x∧x≤IntKind.i64.max
 have e1:IntKind.i64.min=-9223372036854775808:=rfl
 have e2:IntKind.i64.max=9223372036854775807:=rfl
 rw[e1,e2]; omega
theorem YO{ws:List Int}(h:Words ws)(hl:ws.length≤1048576):Ty.Wf (.sl (.int .u64)) ws:=by
 refine⟨Nat.le_trans hl Qe,fun x hx=>?_⟩
 have:=h x hx
 unfold W64 at this
 exact⟨this.1,Int.le_of_lt_add_one this.2⟩
theorem Ry{A:Type}{G:A→A→Option Bool}{a:A}(h:EqOk G a):G a a=some true:=by
 obtain⟨r,hr,hq⟩:=h a
 rw[hr,hq.2 rfl]
theorem UJ(n:Ab.V):costN n=5+wt Ab n:=by
 have e:wt Ab n=wt (.sl (.int .u64)) (nWs n)+wt (.sl (.int .i64)) (nKids n):=by show 0+(0+(0+(0+((0+(_+0))+(_+0)))))=_; unfold nWs nKids; omega
 rw[e,Wa,TU]; unfold costN; omega
theorem PE(t:List Ab.V):costT t≤5*wt (.sl Ab) t:=by
 show(t.map costN).sum≤5*(t.length+(t.map (wt Ab)).sum)
 induction t with
 | nil=>simp
 | cons n t ih=>simp only[List.map_cons,List.sum_cons,List.length_cons,UJ]; omega
theorem Wd(l:List Ae.V):(l.map costL).sum≤5*wt (.sl Ae) l:=by
 show _≤5*(l.length+(l.map (wt Ae)).sum)
 induction l with
 | nil=>simp
 | cons x l ih =>
  have h1:=PE x.2.2.1.1
  have h2:=PE x.2.2.2.1.1
  have e:wt Ae x=wt (.sl Ab) x.2.2.1.1+wt (.sl Ab) x.2.2.2.1.1:=by show 0+(0+((_+0)+((_+0)+0)))=_; omega
  simp only[List.map_cons,List.sum_cons,List.length_cons,costL]; omega
end Go.Proofs.X
