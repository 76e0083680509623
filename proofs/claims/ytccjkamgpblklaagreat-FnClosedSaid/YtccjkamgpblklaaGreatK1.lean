import Derived.MapKept
import Derived.Laws.Strings
import Derived.Laws.StructEq
import Derived.OrdersHeld
import Derived.WalkKit
import Derived.ProofKit
import Derived.OpenShut
import Derived.JoinedCond
import Derived.ReadAgain
import Derived.Test.YtccjkamgpblklaaGreatK0
set_option linter.unusedVariables false
set_option linter.unusedSimpArgs false
namespace Go.Va
def CK(w:World)(g:G)(n:Nat):AyZ AV->AyZ Value->Prop
 |[],[]=>True
 |a::ZI,v::vs=>BF w g n a v/\CK w g n ZI vs
 |_,_=>False
structure Am (P:Program) (f:FuncId) (c:Callee):Prop where
 UR:XW c
 snd:∀(args:List AV) (E:List Blk) (av:AV) (E':List Blk),c.run (AV×List Blk) args E (λv b=>some (v,b))=some (av,E')->E.length<=E'.length /\
  ∀(w:World) (g:G) (vs:List Value),A1 w g E->CK w g E.length args vs->∀(o:Oper) (a:Act) (next:Act->World->Prop) (Q:Exit->Act->World->Prop),
   (∀v w' g',A1 w' g' E'->BF w' g' E'.length av v->Step (List.range E.length) E.length w g w' g'->next (a.put o.dst v) w')->o.upon P a next Q ((callFunc f vs.toArray).run P w)
theorem db:∀{π:AyZ Nat} {k:Nat},k∈π->idxOf π k<π.length
 |x::r,k,h=>by
  simp only[idxOf];split
  ·simp
  ·rename_i RY;have:k∈r:=by
    grind
   have:=db this;simp;omega
theorem da:∀{π:AyZ Nat} {k:Nat},k∈π->π[idxOf π k]?=some k
 |x::r,k,h=>by
  simp only[idxOf];split
  ·grind
  ·rename_i RY;have:k∈r:=by
    grind
   simpa using da this
theorem WC:∀{π:AyZ Nat} {j k:Nat},nodup π=true->π[j]?=some k->idxOf π k=j
 |x::r,0,k,_,h=>by simp at h;subst h;simp[idxOf]
 |x::r,j+1,k,hn,h=>by
  simp only[nodup,Awg]at hn;have hr:r[j]?=some k:=by grind
  have:x≠k:=λe=>by
   grind
  simp only[idxOf];rw[Aws (by grind),WC hn.2 hr]
theorem Zd:∀{π:AyZ Nat} {L bs:AyZ Blk} {k:Nat} {x:Blk},L.length=π.length->(ME bs π L)[k]?=some x->(k∉π/\bs[k]?=some x)\/∃j:Nat,π[j]?=some k/\L[j]?=some x
 |[],[],bs,k,x,_,h=>.inl ⟨by simp,h⟩
 |p::π,b::L,bs,k,x,hl,h=>by
  rcases Zd (π:=π) (L:=L) (by grind) h with ⟨h1,h2⟩|⟨j,h1,h2⟩
  ·rw[Awy]at h2;split at h2
   ·rename_i he;subst he;split at h2
    ·exact .inr ⟨0,rfl,by grind⟩
    ·grind
   grind
  ·exact .inr ⟨j+1,by grind,by grind⟩
 |[],_::_,_,_,_,hl,_=>by grind
 |_::_,[],_,_,_,hl,_=>by grind
theorem UZ:∀(π:AyZ Nat) (L bs:AyZ Blk),(ME bs π L).length=bs.length
 |[],_,_=>by simp[ME]
 |_::_,[],_=>by simp[ME]
 |p::π,b::L,bs=>by rw[ME,UZ π L,Awi]
def G.call(g:G)(π π1 Iq:AyZ Nat):G:=⟨λb=>match g.own b with |.GH=>.GH |.Bs k r=>if k∈π1 then .Bs (idxOf π k) r else if k∈Iq then .GH else .no |.no=>.no,λj=>g.AK (π.getD j 0)⟩
def G.ret(g gc:G)(n:Nat)(π π1:AyZ Nat):G :=
 ⟨λb=>match gc.own b with |.Bs j r=>.Bs (Sy n π j) r |t=>match g.own b with |.Bs k r=>if k∈π1 then t else .Bs k r |_=>t,λk=>if k<n then g.AK k else gc.AK (k-n+π.length)⟩
def G.back(g gc:G)(n:Nat)(π:AyZ Nat):G:=⟨λb=>match gc.own b with |.Bs j r=>.Bs (Sy n π j) r |t=>t,λk=>if k<n then g.AK k else gc.AK (k-n+π.length)⟩
section
variable {w:World} {g:G} {bs:AyZ Blk} {π π1 Iq:AyZ Nat}
theorem Wp{k:Nat}(hk:k∈π):nO (idxOf π) g (g.call π π1 Iq) π.length k:=by
 refine⟨db hk,?_⟩;have:=da hk;simp[G.call,this]
theorem Yb{k:Nat}(hk:k∈π)(h1:k∈π1):Ren (idxOf π) g (g.call π π1 Iq) π.length k where
 lt:=db hk
 AK:=(Wp hk).2
 own b r h:=by simp[G.call,h,h1]
theorem Ya{b:Nat}(h:g.own b=.GH):(g.call π π1 Iq).own b=.GH:=by simp[G.call,h]
theorem QT(hb:∀k∈Iq,k∉π1){ks:AyZ Nat}(hk:∀k∈ks,k∈Iq){b:Nat}(h:Al g.own ks b):Al (g.call π π1 Iq).own [] b:=by
 rcases h with h |⟨k,tv,r,h⟩
 ·exact .inl (Ya h)
 ·have h1:=hk k tv;exact .inl (by simp[G.call,h,hb k h1,h1])
theorem oc(H:A1 w g bs){U8:AyZ Nat}(hn:nodup π=true)(h1:∀k∈π,k∉U8->k∈π1)(U7:∀k∈π,∃b,bs[k]?=some b/\(∀j∈b.BX,j∈π)/\(k∈U8\/∀j∈b.N9,j∉U8)):A1 w (g.call π π1 Iq) (π.map λk=>bif U8.contains k then .Be else((bs[k]?).getD .Be).K3 (idxOf π)):=by
 refine⟨λb hb=>by simp[G.call,H.Bz b hb],λj x hx=>?_⟩;rw[AwC]at hx;cases hj:π[j]? with
 |none=>grind
 |some k =>
  rw[hj]at hx;injection hx with hx;subst hx;have hk :=Axn hj;obtain⟨b,hb,Nf,hh⟩:=U7 k hk;cases hc:U8.contains k with
  |true=>simp only[hc];trivial
  |false =>
   have hkh:k∉U8:=by grind
   have AnE:=hh.resolve_left hkh;have:=(H.Js k b hb).UW  (g':=g.call π π1 Iq)  (λb h=>Ya h) (Yb hk (h1 k hk hkh)) (λj hj=>Wp (Nf j hj)) λj hj=>(Yb (Nf j (Wm b hj)) (h1 j (Nf j (Wm b hj)) (AnE j hj))).own;rw[WC hn hj]at this
   grind
theorem UV{t:Ty}{v:AV}{y:t.V}(h:rd bs t v=some y):v.isAgg=t.isAgg:=by
 have plain:∀(t:Ty) (ks:AyZ Nat) (u:Ty) (z:u.V) (y:t.V),G2 u t z=some y->(AV.Aw ks u z).isAgg=t.isAgg:=λt ks u z y h=>by
  obtain⟨e,_⟩:=Bn h;subst e;rfl
 cases t with
 |AH a b=>cases v<;>simp only[rd,reduceCtorEq]at h<;>first |grind |rfl
 |sl t=>cases v<;>simp only[rd,reduceCtorEq]at h<;>first |grind |rfl
 |int k=>cases v<;>simp only[rd,reduceCtorEq]at h<;>exact plain _ _ _ _ _ h
 |bool=>cases v<;>simp only[rd,reduceCtorEq]at h<;>exact plain _ _ _ _ _ h
 |str=>cases v<;>simp only[rd,reduceCtorEq]at h<;>exact plain _ _ _ _ _ h
 |unit=>cases v<;>simp only[rd,reduceCtorEq]at h<;>exact plain _ _ _ _ _ h
 |O3 z=>cases v<;>simp only[rd,reduceCtorEq]at h<;>exact plain _ _ _ _ _ h
theorem w7(H:A1 w g bs){k:Nat}{i:Int}{a:AV}(h:atB bs k i=some a)(hi:i.toNat<(g.AK k).len){b:Nat}(hb:(g.AK k).a=some ⟨b,0,none⟩):g.own b=.Bs k []:=by
 unfold atB at h;split at h
 ·rename_i a' hx;obtain⟨h1,b',cs,e,ha,ho,hh,hr⟩:=H.Js k _ hx
  grind
 ·rename_i e m t xs hx;obtain⟨Ng,hlen,Mg,BB,hr⟩:=H.Js k _ hx
  grind
 ·grind
theorem Acu(H:A1 w g bs)(hb:∀k∈Iq,k∉π1){m:PM}{v a:AV}{l:AyZ Nat}(h:nU bs m v=some (a,l))(hl:∀k∈l,k∈Iq)(hr:∀k∈rr m v,k∈π)(hh:∀k∈a.N9,k∈π->k∈π1){x:Value}(hx:BF w g bs.length v x):BF w (g.call π π1 Iq) π.length (a.K3 (idxOf π)) x:=by
 cases m with
 |d t =>
  simp only[nU]at h;split at h
  ·rename_i y hy;obtain⟨rfl,rfl⟩:=h;obtain⟨SU,Nv⟩:=QH hy;obtain⟨cs,Pj,hv⟩:=BD SU Nv hx;refine A9 rfl  ⟨λk hk=>by grind,(MD H t v y cs hy Pj).1.mono λb hA=>⟨QT hb hl hA,rfl⟩⟩ ?_;rw[UV hy]at hv;exact hv
  ·grind
 |p t =>
  cases v with
  |D7 ks u y =>
   simp only[nU]at h;split at h
   ·rename_i z hz;obtain⟨rfl,rfl⟩:=h;obtain⟨e,he⟩:=Bn hz;subst e;subst he;obtain⟨hk,b,off,ds,rfl,ha,ZT,hc⟩:=Tq hx;exact WL (λk hk=>by grind) (QT hb hl ha) (ZT.mono λb hA=>⟨QT hb hl hA,rfl⟩) hc
   ·grind
  |ptr k i p o =>
   simp only[nU]at h;split at h
   ·rename_i c hc;split at h
    ·rename_i y hy;obtain⟨rfl,rfl⟩:=h;obtain⟨hk,h0,h1,b,KP,rfl⟩:=IA hx;obtain⟨cs,Pj,CO⟩:=QQ H hc h1 KP;have BW :=by
      unfold wL at hc;split at hc
      ·rename_i d hd;exact w7 H hd h1 KP
      ·grind
     exact WL (λk hk=>by grind) (QT hb hl (.mem (AwE) BW)) ((MD H t c y cs hy Pj).1.mono λb hA=>⟨QT hb hl (hA.mono λk hk=>AwB _ hk),rfl⟩) CO
    ·grind
   ·grind
  |_=>simp[nU]at h
 |Sm =>
  obtain⟨rfl,rfl⟩:=h;exact hx.UW (λb h=>Ya h) (λk hk=>Wp (hr k hk)) λk hk=>(Yb (hr k (K8 _ hk)) (hh k hk (hr k (K8 _ hk)))).own
theorem lG(H:A1 w g bs)(hb:∀k∈Iq,k∉π1):∀{ms:AyZ PM} {vs ZI:AyZ AV} {l Up:AyZ Nat} {xs:AyZ Value},ak bs ms vs=some (ZI,l,Up)->(∀k∈l,k∈Iq)->(∀k∈Up,k∈π)->(∀a∈ZI,∀k∈a.N9,k∈π->k∈π1)->CK w g bs.length vs xs ->
    CK w (g.call π π1 Iq) π.length (ZI.map (·.K3 (idxOf π))) xs
 |[],[],ZI,l,Up,[],h,_,_,_,_=>by
  obtain⟨rfl,_,_⟩:=h;trivial
 |m::ms,v::vs,ZI,l,Up,x::xs,h,hl,hr,hh,hx=>by
  simp only[ak]at h;split at h
  ·rename_i a l1 AtS ls rs h1 h2;obtain⟨rfl,rfl,rfl⟩:=h;exact⟨Acu H hb h1 (λk hk=>hl k (AwH _ hk)) (λk hk=>hr k (AwH _ hk)) (hh a (by simp)) hx.1,
    lG H hb h2 (λk hk=>hl k (AwI _ hk)) (λk hk=>hr k (AwI _ hk)) (λa ha=>hh a (by grind)) hx.2⟩
  ·grind
 |[],[],_,_,_,_::_,_,_,_,_,hx=>hx.elim
 |[],_::_,_,_,_,_,h,_,_,_,_=>by simp[ak]at h
 |_::_,[],_,_,_,_,h,_,_,_,_=>by simp[ak]at h
 |_::_,_::_,_,_,_,[],_,_,_,_,hx=>hx.elim
end
end Go.Va
namespace Go.Va
theorem cg{n:Nat}{π:AyZ Nat}{j k:Nat}(h:π[j]?=some k):Sy n π j=k:=by simp[Sy,h]
theorem cf{n:Nat}{π:AyZ Nat}{j:Nat}(h:π.length<=j):Sy n π j=n+(j-π.length):=by
 have :=AwN h;simp[Sy,this]
theorem oq(bs:AyZ Blk):A0 [] bs=bs:=rfl
theorem aB{P:Program}{f:FuncId}{c:Callee}(hc:Am P f c){bs:AyZ Blk}{args:AyZ AV}{e:F1}(h:SB c bs args some=some e) :
    bs.length<=e.Ag.length/\(e.Bg=[]->∃l,e.Ag=bs++l)/\∀(w:World) (g:G) (vs:AyZ Value),A1 w g bs->CK w g bs.length args vs->∀(o:Oper) (a:Act) (next:Act->World->Prop) (Q:Exit->Act->World->Prop),
     (∀v w' g',A1 w' g' e.Ag->BF w' g' e.Ag.length e.val v->Step e.Bg bs.length w g w' g'->next (a.put o.dst v) w')->o.upon P a next Q ((callFunc f vs.toArray).run P w):=by
 unfold SB at h;split at h
 ·cases h
 ·rename_i ZI Iq Up l8
  dsimp only at h
  split at h
  ·rename_i hck;simp only[Awg]at hck;obtain⟨⟨⟨⟨⟨Aqm,NT⟩,Ado⟩,U7⟩,hhd⟩,Anx⟩:=hck;generalize hπ:bH bs bs.length (Xy [] Up)=π at *;generalize Auz:(π.filter λk=>c.oO.contains (idxOf π k))=U8 at *;generalize hπ1:(π.filter λk=>!U8.contains k)=π1 at *;rw[hc.UR]at h;cases C5:c.run (AV×AyZ Blk) (ZI.map (·.K3 (idxOf π))) (π.map λk=>bif U8.contains k then .Be else((bs[k]?).getD .Be).K3 (idxOf π)) λv b=>some (v,b)with
   |none=>rw[C5]at h;cases h
   |some p =>
    obtain⟨av,E'⟩:=p;rw[C5]at h;simp only[Av9]at h;split at h
    ·rename_i TK;injection h with h;subst h;obtain⟨LX,Mp⟩:=hc.snd _ _ _ _ C5;rw[Awl]at LX Mp;have uD:∀k,k∈π1↔k∈π/\k∉U8:=λk=>by rw[<-hπ1];simp
     have Anp:∀k∈Iq,k∉π/\k<bs.length:=λk hk=>by
      have:=List.all_eq_true.1 Aqm k hk;simpa using this
     have hbp:∀k∈Iq,k∉π1/\k<bs.length:=λk hk=>⟨λh=>(Anp k hk).1 ((uD k).1 h).1,(Anp k hk).2⟩;have tc:∀k∈π,∃b,bs[k]?=some b/\(∀j∈b.BX,j∈π)/\(k∈U8\/∀j∈b.N9,j∉U8):=λk hk=>by
      have:=List.all_eq_true.1 U7 k hk;split at this
      ·rename_i b hb;simp only[Awg,AxJ]at this;exact⟨b,hb,λj hj=>by have:=List.all_eq_true.1 this.1 j hj;simpa using this,this.2.imp (λh=>by simpa using h) λh j hj=>by have:=List.all_eq_true.1 h j hj;simpa using this⟩
      ·cases this
     have hr':∀k∈Up,k∈π:=λk hk=>by have:=List.all_eq_true.1 Ado k hk;simpa using this
     have hh':∀a∈ZI,∀k∈a.N9,k∈π->k∈π1:=λa ha k hk hp=>(uD k).2 ⟨hp,by have:=List.all_eq_true.1 (List.all_eq_true.1 hhd a ha) k hk;simpa using this⟩;have Aro:∀k∈π,k<bs.length:=λk hk=>by obtain⟨b,hb,_⟩:=tc k hk;exact AP hb
     let n:=bs.length
     let φ:=Sy n π
     let E1:=List.zipWith (λk b=>bif U8.contains k then((A0 π1 bs)[k]?).getD .Be else(b.K3 φ).Qy Iq) π E'
     let E2:=(E'.drop π.length).map λb=>(b.K3 φ).Qy Iq
     have hE1:E1.length=π.length:=by simp only[E1,List.length_zipWith];omega
     have hlen:(ME (A0 π1 bs) π E1++E2).length=n+(E'.length-π.length):=by
      rw[Awd,UZ,Ar];simp[E2,n]
     refine⟨by show n<=(ME (A0 π1 bs) π E1++E2).length;rw[hlen];omega,λh0=>?_,λw g vs H hx o a next Q hn=>?_⟩
     ·have h0:π1=[]:=h0;have h0':π=[]:=by rw[h0]at Anx;simpa using Anx
      refine⟨E2,?_⟩;show ME (A0 π1 bs) π E1++E2=_;rw[h0,h0'];simp[ME,oq]
     ·have Hc:=oc (Iq:=Iq) H NT (λk h1 h2=>(uD k).2 ⟨h1,h2⟩) tc;have Ac:=lG (Iq:=Iq) H (λk hk=>(hbp k hk).1) l8 (λk hk=>hk) hr' hh' hx;refine Mp w (g.call π π1 Iq) vs Hc Ac o a next Q λv w' gc H' hv st=>?_
      let g1:=g.back gc n π
      let g':=g.ret gc n π π1
      have Cw:∀b,g.own b≠.no->b<w.heap.size:=λb h=>Pz H h;have Qj:∀b k r,g.own b=.Bs k r->k∉π1->(gc.own b=.GH/\k∈Iq\/gc.own b=.no)/\w'.heap[b]?=w.heap[b]?:=λb k r hb hk=>by
       by_cases hkb:k∈Iq
       ·have:=st.GH b (by simp[G.call,hb,hk,hkb]);exact⟨.inl ⟨this.1,hkb⟩,this.2⟩
       ·have:=st.no b (Cw b (by rw[hb];simp)) (by simp[G.call,hb,hk,hkb]);exact⟨.inr this.1,this.2⟩
      have BG:Step π1 n w g w' g':=by
       refine⟨st.os,st.tape,st.output,st.size,λb hb h=>?_,λb h=>?_,λb k r h hk hm=>?_,λk hk=>?_⟩
       ·have:=st.no b hb (by simp[G.call,h]);exact⟨by simp[g',G.ret,this.1,h],this.2⟩
       ·have:=st.GH b (by simp[G.call,h]);exact⟨by simp[g',G.ret,this.1,h],this.2⟩
       ·obtain⟨h1,h2⟩:=Qj b k r h hm;refine⟨?_,h2⟩;rcases h1 with ⟨h1,_⟩|h1<;>simp[g',G.ret,h1,h,hm]
       ·have YC:k<bs.length:=hk;simp[g',G.ret,n,YC]
      have yI:∀j,j<E'.length->Ren φ gc g1 (n+(E'.length-π.length)) j:=λj hj=>by
       rcases Awk j π.length with WA |WA
       ·obtain⟨k,hk⟩:∃k,π[j]?=some k:=⟨_,Axk WA⟩;have hkm:k∈π:=Axn hk;have ZS:k<bs.length:=Aro k hkm;refine⟨by rw[show φ j=k from cg hk];omega,?_,λb r hb=>by simp[g1,G.back,hb,φ]⟩;rw[show φ j=k from cg hk];have h1:gc.AK j=(g.call π π1 Iq).AK j:=st.AK j WA;rw[h1];simp[g1,G.back,n,ZS,G.call,List.getD,hk]
       ·refine⟨by rw[show φ j=n+(j-π.length)from cf WA];omega,?_,λb r hb=>by simp[g1,G.back,hb,φ]⟩;rw[show φ j=n+(j-π.length)from cf WA];have:¬n+(j-π.length)<n:=by omega
        simp only[g1,G.back,Aws this];congr 1;omega
      have YB:∀b,gc.own b=.GH->g1.own b=.GH:=λb hb=>by simp[g1,G.back,hb]
      have Anu:Dep Iq g1 g' (n+(E'.length-π.length)):=by
       refine⟨λb hb=>?_,λb k r hb hk=>?_,λk hk=>rfl,λk hk=>by have:=(hbp k hk).2;omega⟩
       ·have hgc:gc.own b=.GH:=by
          simp only[g1,G.back]at hb;split at hb
          ·cases hb
          ·exact hb
        cases hg:g.own b with
        |no=>exact .inl (by simp[g',G.ret,hgc,hg])
        |GH=>exact .inl (by simp[g',G.ret,hgc,hg])
        |Bs k r =>
         by_cases hk:k∈π1
         ·exact .inl (by simp[g',G.ret,hgc,hg,hk])
         ·obtain⟨h1,_⟩:=Qj b k r hg hk;rcases h1 with ⟨_,hkb⟩|h1
          ·exact .inr ⟨k,hkb,r,by simp[g',G.ret,hgc,hg,hk]⟩
          ·rw[hgc]at h1;cases h1
       ·simp only[g1,G.back]at hb;split at hb
        ·rename_i j r' hj;simp only[g',G.ret,hj];exact hb
        ·rename_i h1;exact(h1 k r hb).elim
      refine hn v w' g' ⟨λb hb=>?_,λk x hx=>?_⟩ ?_ BG
      ·have h1:=H'.Bz b hb;have h2:=H.Bz b (AwD st.size hb);simp[g',G.ret,h1,h2]
      ·have hx:(ME (A0 π1 bs) π E1++E2)[k]?=some x:=hx;show J2 w' g' (ME (A0 π1 bs) π E1++E2).length k x;rw[hlen];have one:∀(j:Nat) (b:Blk),E'[j]?=some b->J2 w' g' (n+(E'.length-π.length)) (φ j) ((b.K3 φ).Qy Iq):=λj b hj=>by
        have WA:=AP hj;have hb:=H'.Js j b hj;have hbr:=hb.K3 YB (yI j WA) λi hi=>yI i (by
         cases b with
         |Be=>cases hi
         |map m kt vt es st=>exact hb.1 i hi
         |Nh e t xs i' p=>cases hi
         |tail e t xs=>cases hi
         |box a=>obtain⟨_,_,_,_,_,_,_,hx⟩:=hb;exact B9.OU a false hx i hi
         |row e m t xs=>exact hb.1 i hi)
        exact hbr.Qy Anu (yI j WA).lt
       rw[Awz]at hx;split at hx
       ·have bq:∀y,(A0 π1 bs)[k]?=some y->k∉π1->J2 w' g' (n+(E'.length-π.length)) k y:=λy hy hk=>by
          obtain⟨z,hz,rfl⟩:=CF hy;exact(H.Js k z hz).step BG (by omega) (AP hz) hk
        rcases Zd hE1 hx with ⟨hk,h⟩|⟨j,hj,h⟩
        ·exact bq x h λh1=>hk ((uD k).1 h1).1
        ·simp only[E1,List.getElem?_zipWith,hj]at h;cases hq:E'[j]? with
         |none=>rw[hq]at h;cases h
         |some b =>
          rw[hq]at h;injection h with h;cases hc:U8.contains k with
          |true =>
           rw[hc,Awp]at h;have hkh:k∈U8:=by simpa using hc
           cases hd:(A0 π1 bs)[k]? with
           |none=>rw[hd]at h;subst h;trivial
           |some y=>rw[hd]at h;subst h;exact bq _ hd λh1=>((uD k).1 h1).2 hkh
          |false =>
           rw[hc,Awo]at h;subst h;have:=one j b hq;rwa [show φ j=k from cg hj]at this
       ·rename_i hk;rw[UZ,Ar]at hx hk;simp only[E2,AwC,List.getElem?_drop]at hx;cases hq:E'[π.length+(k-bs.length)]? with
        |none=>rw[hq]at hx;cases hx
        |some b =>
         rw[hq]at hx;injection hx with hx;subst hx;have:=one _ b hq;rwa [show φ (π.length+(k-bs.length))=k from by
          rw[show φ (π.length+(k-bs.length))=n+(π.length+(k-bs.length)-π.length)from cf (by omega)];simp only[n];omega]at this
      ·show BF w' g' (ME (A0 π1 bs) π E1++E2).length ((av.K3 φ).Qy Iq) v;rw[hlen];exact(hv.K3 YB λk hk=>yI k (hv.OU k hk)).Qy Anu
    ·cases h
  ·cases h
def Aba(l:AyZ Nat)(c:Callee):Callee:={c with oO:=l}
theorem ug{P:Program}{f:FuncId}{c:Callee}(l:AyZ Nat)(h:Am P f c):Am P f (Aba l c):=⟨h.UR,h.snd⟩
end Go.Va
namespace Go.Va
theorem dL{r q L:AyZ Nat}{a b:Nat}(h:(r++a::L) <:+ (q++b::L)):a=b:=by
 obtain⟨s,hs⟩:=h;have:(s++r)++(a::L)=q++(b::L):=by grind
 have:=List.append_inj_right' this rfl;injection this
theorem YP:∀(f:Nat) (L:AyZ Nat),∃r,dn f L=r++L
 |0,L=>⟨[0],rfl⟩
 |f+1,L=>by
  obtain⟨r,h⟩:=YP f _;exact⟨r++[1],by rw[dn,h];simp⟩
theorem VK:∀(p L:AyZ Nat),∃r,P9 p L=r++L
 |[],L=>⟨[],rfl⟩
 |f::p,L=>by
  obtain⟨r,hr⟩:=VK p _;obtain⟨s,hs⟩:=YP f L;exact⟨r++s,by rw[P9,hr,hs,Awh]⟩
def Fr(w:World)(own:Nat->Pp)(w':World)(KU:Nat->Pp)(k:Nat)(P:AyZ Nat):Prop:=∀b q,own b=.Bs k q->¬P <:+ q->KU b=.Bs k q/\w'.heap[b]?=w.heap[b]?
def wZ(w:World)(own:Nat->Pp)(k:Nat)(u:Ty)(zs:AyZ u.V)(P:AyZ Nat)(t:Ty)(L:AyZ Nat)(x':t.V)(ys:AyZ u.V)(cs:AyZ Value)(o:Nat):Prop :=
 ∃c0 c1 c2,cs=c0++c1++c2/\c0.length=o/\Ht w own k (.sl u) P ys c1/\∀w' KU Oz,Fr w own w' KU k P->Ht w' KU k (.sl u) P zs Oz->Ht w' KU k t L x' (c0++Oz++c2)
section
variable {w:World} {own:Nat->Pp} {k:Nat} {u:Ty} {zs:AyZ u.V}
theorem sib{w':World}{KU:Nat->Pp}{P:AyZ Nat}{t:Ty}{L:AyZ Nat}{x:t.V}{cs:AyZ Value}(gi:Fr w own w' KU k P)(hP:∀q,¬P <:+ (q++L))(h:Ht w own k t L x cs):Ht w' KU k t L x cs :=
 h.mono λb q hb=>gi b _ hb (hP q)
theorem gv(p:AyZ Nat)(ih:∀(t:Ty) (L:AyZ Nat) (x x':t.V) (cs:AyZ Value) (o:Nat) (ys:AyZ u.V),Oj (.sl u) zs p t x=some x'->Yy (.sl u) p t x=some ys->IP t p=some o->Ht w own k t L x cs->wZ w own k u zs (P9 p L) t L x' ys cs o) :
    ∀(f:Nat) (t:Ty) (L:AyZ Nat) (x x':t.V) (cs:AyZ Value) (t1:Ty) (o1 o2:Nat) (ys:AyZ u.V),NA t x f (λt' y=>Oj (.sl u) zs p t' y)=some x'->AcO t x f (λt' y=>Yy (.sl u) p t' y)=some ys ->
     Z8 t f=some t1->PK t f=some o1->IP t1 p=some o2->Ht w own k t L x cs->wZ w own k u zs (P9 p (dn f L)) t L x' ys cs (o1+o2)
 |0,.AH a b,L,x,x',cs,t1,o1,o2,ys,hs,hg,ht,ho,mo,h=>by
  obtain⟨c,d,e,h1,h2⟩:=h;simp only[Z8,Awb]at ht;subst ht;simp only[PK,Awb]at ho;simp only[NA]at hs;split at hs
  ·rename_i y hy;injection hs with hs;subst hs;obtain⟨c0,c1,c2,e2,hl,hr,hk⟩:=ih a (0::L) x.1 y c o2 ys hy hg mo h1;refine⟨c0,c1,c2++d,by grind,by omega,hr,λw' KU Oz gi hz=>⟨c0++Oz++c2,d,by grind,hk w' KU Oz gi hz,sib gi (λq hq=>?_) h2⟩⟩;obtain⟨r,hr⟩:=VK p (dn 0 L);rw[hr]at hq;have:=dL (r:=r) (q:=q) (L:=L) (a:=0) (b:=1) hq;cases this
  ·grind
 |f+1,.AH a b,L,x,x',cs,t1,o1,o2,ys,hs,hg,ht,ho,mo,h=>by
  obtain⟨c,d,e,h1,h2⟩:=h;simp only[PK]at ho;split at ho
  ·rename_i o3 ho3;injection ho with ho;simp only[NA]at hs;split at hs
   ·rename_i y hy;injection hs with hs;subst hs;obtain⟨c0,c1,c2,e2,hl,hr,hk⟩:=gv p ih f b (1::L) x.2 y d t1 o3 o2 ys hy hg ht ho3 mo h2;refine⟨c++c0,c1,c2,by grind,by rw[Awd,h1.len];omega,hr,λw' KU Oz gi hz=>⟨c,c0++Oz++c2,by grind,sib gi (λq hq=>?_) h1,hk w' KU Oz gi hz⟩⟩;obtain⟨r,hr⟩:=VK p (dn (f+1) L);obtain⟨s,hs⟩:=YP f (1::L);rw[hr,dn,hs,<-Awh]at hq;have:=dL (r:=r++s) (q:=q) (L:=L) (a:=1) (b:=0) hq;cases this
   ·grind
  ·grind
 |f,.int _,_,_,_,_,_,_,_,_,hs,_,_,_,_,_=>by simp[NA]at hs
 |f,.bool,_,_,_,_,_,_,_,_,hs,_,_,_,_,_=>by simp[NA]at hs
 |f,.str,_,_,_,_,_,_,_,_,hs,_,_,_,_,_=>by simp[NA]at hs
 |f,.unit,_,_,_,_,_,_,_,_,hs,_,_,_,_,_=>by simp[NA]at hs
 |f,.sl _,_,_,_,_,_,_,_,_,hs,_,_,_,_,_=>by simp[NA]at hs
 |f,.O3 _,_,_,_,_,_,_,_,_,hs,_,_,_,_,_=>by simp[NA]at hs
theorem Y3:∀(p:AyZ Nat) (t:Ty) (L:AyZ Nat) (x x':t.V) (cs:AyZ Value) (o:Nat) (ys:AyZ u.V),Oj (.sl u) zs p t x=some x'->Yy (.sl u) p t x=some ys->IP t p=some o->Ht w own k t L x cs->wZ w own k u zs (P9 p L) t L x' ys cs o
 |[],t,L,x,x',cs,o,ys,hs,hg,ho,h=>by
  simp only[IP,Awb]at ho;subst ho;obtain⟨e,he⟩:=Bn hs;obtain⟨e',he'⟩:=Bn hg;subst e;subst he;subst he';exact⟨[],cs,[],by simp,rfl,h,λw' KU Oz _ hz=>by simpa [P9]using hz⟩
 |f::p,t,L,x,x',cs,o,ys,hs,hg,ho,h=>by
  simp only[IP]at ho;split at ho
  ·rename_i t1 o1 h1 h2;split at ho
   ·rename_i o2 h3;injection ho with ho;subst ho;exact gv p (Y3 p) f t L x x' cs t1 o1 o2 ys hs hg h1 h2 h3 h
   ·grind
  ·grind
end
def G.Ym(g:G)(n k:Nat)(P:AyZ Nat)(i:BI):G:=⟨λb=>match g.own b with |.Bs j q=>if j=k/\P <:+ q then .Bs n (q.take (q.length-P.length))else .Bs j q |t=>t,λj=>if j=n then i else g.AK j⟩
def G.W2(g:G)(n k:Nat)(P:AyZ Nat):G:=⟨λb=>match g.own b with |.Bs j q=>if j=n then .Bs k (q++P)else .Bs j q |t=>t,g.AK⟩
section
variable {w:World} {g:G} {bs:AyZ Blk}
theorem TC{n k:Nat}{P:AyZ Nat}{i:BI}{b:Nat}{q:AyZ Nat}(h:g.own b=.Bs k (q++P)):(g.Ym n k P i).own b=.Bs n q:=by
 have:P <:+ (q++P):=⟨q,rfl⟩;simp[G.Ym,h]
theorem Ro{n k:Nat}{P:AyZ Nat}{i:BI}{b j:Nat}{q:AyZ Nat}(h:g.own b=.Bs j q)(hn:¬(j=k/\P <:+ q)):(g.Ym n k P i).own b=.Bs j q:=by
 simp only[G.Ym,h,Aws hn]
theorem lI{n k:Nat}{P:AyZ Nat}{b:Nat}{q:AyZ Nat}(h:g.own b=.Bs n q):(g.W2 n k P).own b=.Bs k (q++P):=by simp[G.W2,h]
theorem XF{n k:Nat}{P:AyZ Nat}{b j:Nat}{q:AyZ Nat}(h:g.own b=.Bs j q)(hn:j≠n):(g.W2 n k P).own b=.Bs j q:=by simp only[G.W2,h,Aws hn]
theorem Zn{k:Nat}{P:AyZ Nat}{i:BI}:Step [k] bs.length w g w (g.Ym bs.length k P i) where
 os:=rfl
 tape:=rfl
 output:=rfl
 size:=Awf _
 no b _ h:=⟨by simp[G.Ym,h],rfl⟩
 GH b h:=⟨by simp[G.Ym,h],rfl⟩
 Bs b j q h hj hm:=⟨Ro h λhc=>hm (by grind),rfl⟩
 AK j hj:=by simp[G.Ym,Nat.ne_of_lt hj]
theorem iL{n k N:Nat}{P:AyZ Nat}:Step [n,k] N w g w (g.W2 n k P) where
 os:=rfl
 tape:=rfl
 output:=rfl
 size:=Awf _
 no b _ h:=⟨by simp[G.W2,h],rfl⟩
 GH b h:=⟨by simp[G.W2,h],rfl⟩
 Bs b j q h hj hm:=⟨XF h λhc=>hm (by grind),rfl⟩
 AK j hj:=rfl
theorem N0{A:Type}{l:AyZ A}{k j:Nat}{x y:A}(h:(l.set k x)[j]?=some y):(j=k/\y=x)\/(j≠k/\l[j]?=some y):=by
 grind
theorem A5.YX{A:Type}{I J:Nat->A->AyZ Value->Prop}:∀{lo:Nat} {xs:AyZ A} {cs:AyZ Value},(∀j x c,lo<=j->j<lo+xs.length->I j x c->J j x c)->A5 I lo xs cs->A5 J lo xs cs
 |_,[],_,_,h=>h
 |lo,_::xs,_,h,⟨c,d,e,r,l⟩=>⟨c,d,e,h _ _ _ (Awf _) (by simp) r,A5.YX (λj x c h1 h2=>h j x c (by omega) (by grind)) l⟩
theorem TD(H:A1 w g bs){k ek:Nat}{t u:Ty}{xs:AyZ t.V}(hb:bs[k]?=some (.row ek .Ao t xs)){i:Int}{p:AyZ Nat}{o:Nat}(hi:i.toNat<(g.AK k).len){ys:AyZ u.V}
    (hg:Yy (.sl u) p t (xs.getD i.toNat t.zero)=some ys) (ho:IP t p=some o) (hu:u.size≠0) {b:Nat} (KP:(g.AK k).a=some ⟨b,0,none⟩) {v:Value} (hv:w.cell? ⟨b,i.toNat*(g.AK k).aL+o,none⟩=some v)
    {zs:AyZ u.V} {x':t.V} (hs:Oj (.sl u) zs p t (xs.getD i.toNat t.zero)=some x') :
    ∃g1,A1 w g1 ((A0 [k] bs).set k .Be++[.row 0 .Ao u ys])/\Step [k] bs.length w g w g1/\BF w g1 (bs.length+1) (.AA bs.length) v /\
     (∀(w':World) (g2:G) (N:Nat) (e0:Nat),(∀b q,g1.own b=.Bs k q->g2.own b=.Bs k q/\w'.heap[b]?=w.heap[b]?)->(∀j,j<=bs.length->g2.AK j=g1.AK j) ->
      J2 w' g2 N bs.length (.row e0 .Ao u zs)->J2 w' (g2.W2 bs.length k (P9 p [i.toNat])) N k (.row ek .Ao t (xs.set i.toNat x'))) /\
     (zs=[]->vX t p=some (.sl u)->0<=i->∀N,J2 w g1 N k (.Nh ek t xs i p)):=by
 have gl:=AP hb;obtain⟨Ng,hlen,Mg,BB,hr⟩:=H.Js k _ hb;have Cw:i.toNat<xs.length:=by rw[<-hlen];exact hi
 rcases hr with ⟨Ug,_⟩|⟨b',Bh,ds,ha,BW,⟨el,RX,hh⟩,G3,cO,jT,yB,Nb⟩
 ·rw[Ug]at Cw;simp at Cw
 rw[KP]at ha;injection ha with ha;injection ha with ha;subst ha;have Nb:A5 (λi=>Ht w g.own k t [i]) 0 xs ds:=Nb;obtain⟨c0,c,d,e1,gm,mr,jZ,ZT⟩:=A5.AK (λi x c h=>Ht.len h) Nb Cw;rw[AwF]at mr ZT;have hgd:xs.getD i.toNat t.zero=xs[i.toNat]:=by simp[List.getD,Cw]
 let P:=P9 p [i.toNat]
 obtain⟨r0,hP⟩:=VK p [i.toNat];obtain⟨a0,a1,a2,e2,oI,hys,UK⟩:wZ w g.own k u zs P t [i.toNat] x' ys c o:=Y3 p t [i.toNat] (xs.getD i.toNat t.zero) x' c o ys hs hg ho (by rw[hgd];exact mr);have Arl:=hys;obtain⟨ad,cap,e3,LN⟩:=Arl;have hvh:v=.slice ad ys.length cap:=by
  rw[Mi hh,<-Awn,Mg]at hv;have hq:ds[i.toNat*t.size+o]?=some (.slice ad ys.length cap):=by
   rw[e1,e2,e3,Awh,Awv (by omega),gm];rw[show i.toNat*t.size+o-i.toNat*t.size=a0.length by omega];simp
  subst yB;rw[Aw9]at hq;split at hq
  ·rw[hv]at hq;injection hq
  ·cases hq
 let i1:BI:=⟨ad,ys.length,cap,u.size⟩
 let n:=bs.length
 let g1:=g.Ym n k P i1
 have st:Step [k] n w g w g1:=Zn;have QK:g1.AK n=i1:=by simp[g1,G.Ym]
 have ZS:k≠n:=by simp only[n];omega
 have aT:((A0 [k] bs).set k Blk.Be++[Blk.row 0 .Ao u ys]).length=n+1:=by simp[Ar,n]
 refine⟨g1,?_,st,?_,?_,?_⟩
 ·refine H.U5 st (λb hb=>by simp[g1,G.Ym,H.Bz b hb]) (by rw[aT];omega) λj x hj=>?_;rw[Awz]at hj;split at hj
  ·rcases N0 hj with ⟨rfl,rfl⟩|⟨RY,hj⟩
   ·exact .inl rfl
   ·obtain⟨y,hy,rfl⟩:=CF hj;exact .inr (.inl ⟨by simpa using RY,y,hy,rfl⟩)
  ·rename_i jV;simp only[Awi,Ar]at hj jV;have aR:j-bs.length=0:=by
    rcases Awx (j-bs.length)with h |h
    ·exact h
    ·rw[AwN (by simp;omega)]at hj;cases hj
   rw[aR]at hj;obtain rfl:j=n:=by simp only[n];omega
   simp only[List.getElem?_cons_zero,Awb]at hj;subst hj;refine .inr (.inr ⟨λj hj=>(by cases hj),by rw[QK],by rw[QK],AxG hu,?_⟩);rw[QK];refine LN.imp id λ⟨b,el,Bh,ds,q1,q2,q3,q4,q5,q6,q7,q8⟩=>⟨b,Bh,ds,q1,TC (q:=[]) (by simpa using q2),⟨el,.inl rfl,q3⟩,q4,q5,q6,q7,?_⟩;exact q8.mono λi x c r=>r.mono λb q hb=>⟨TC (by simpa using hb),rfl⟩
 ·rw[hvh];exact A9 (cs:=[_]) rfl ⟨AwP _,by rw[QK]⟩ rfl
 ·intro w' g2 N e0 Qj Anl hB;obtain⟨_,mf,_,_,mq⟩:=hB;have Aqg:g2.AK n=i1:=by rw[Anl n (Awf _),QK]
  rw[Aqg]at mf mq;have hzl:zs.length=ys.length:=mf.symm;have hz:Ht w' (g2.W2 n k P).own k (.sl u) P zs a1:=by
   refine⟨ad,cap,by rw[e3,hzl],mq.imp id λ⟨b,Bh,ds,q1,q2,⟨el,_,q3⟩,q4,q5,q6,q7,q8⟩=>⟨b,el,Bh,ds,q1,by simpa using lI (P:=P) (k:=k) q2,q3,q4,q5,q6,q7,?_⟩⟩;have q8:A5 (λi=>Ht w' g2.own n u [i]) 0 zs ds:=q8;exact q8.mono λi x c r=>r.mono λb q hb=>⟨by simpa using lI (P:=P) (k:=k) hb,rfl⟩
  have gi:Fr w g.own w' (g2.W2 n k P).own k P:=λb q hb hn=>by
   have h1:=Qj b q (Ro hb λhc=>hn hc.2);exact⟨XF h1.1 ZS,h1.2⟩
  have ma:=UK w' _ _ gi hz;rw[<-e2]at ma;have jU:∀j,j≠i.toNat->∀{x:t.V} {c:AyZ Value},Ht w g.own k t [j] x c->Ht w' (g2.W2 n k P).own k t [j] x c:=λj hj x c h=>sib gi (λq hq=>by
   rw[show P=r0++i.toNat::[]from hP]at hq;exact hj (dL (L:=[]) hq).symm) h
  have gk:=A5.join Cw (A5.YX (λj x c _ h2 h=>jU j (by rw[Awu]at h2;omega) h) jZ) (by rw[AwF];exact ma) (A5.YX (λj x c h1 _ h=>jU j (by omega) h) (by rw[AwF];exact ZT));have Nl:=gi b [] BW (by
   rw[show P=r0++[i.toNat]from hP]
   rintro⟨s,hs⟩
   simp at hs)
  have Nu:(g2.W2 n k P).AK k=g.AK k:=by
   show g2.AK k=_;rw[Anl k (by omega)];simp[g1,G.Ym,ZS]
  refine⟨λj hj=>(by cases hj),by rw[Nu,Awi];exact hlen,by rw[Nu];exact Mg,BB,.inr ⟨b,Bh,ds,by rw[Nu];exact KP,Nl.1,⟨el,RX,Nl.2.trans hh⟩,by rw[Nu,Awi];exact G3,by rw[Nu];exact cO,by rw[Nu];exact jT,by rw[Awi];exact yB,?_⟩⟩;show A5 _ 0 _ ds;rw[e1];exact gk
 ·intro hz0 XM h0 N;subst hz0;have gi:Fr w g.own w g1.own k P:=λb q hb hn=>⟨Ro hb λhc=>hn hc.2,rfl⟩;have ma:=UK w g1.own [.slice none 0 0] gi ⟨none,0,rfl,.inl ⟨rfl,rfl⟩⟩;have jU:∀j,j≠i.toNat->∀{x:t.V} {c:AyZ Value},Ht w g.own k t [j] x c->Ht w g1.own k t [j] x c:=λj hj x c h=>sib gi (λq hq=>by
   rw[show P=r0++i.toNat::[]from hP]at hq;exact hj (dL (L:=[]) hq).symm) h
  have gk:=A5.join Cw (A5.YX (λj x c _ h2 h=>jU j (by rw[Awu]at h2;omega) h) jZ) (by rw[AwF];exact ma) (A5.YX (λj x c h1 _ h=>jU j (by omega) h) (by rw[AwF];exact ZT));have Nl:=gi b [] BW (by
   rw[show P=r0++[i.toNat]from hP]
   rintro⟨s,hs⟩
   simp at hs)
  have Nu:g1.AK k=g.AK k:=by simp[g1,G.Ym,ZS]
  refine⟨by rw[Nu];exact hlen,by rw[Nu];exact Mg,BB,h0,Cw,u,o,x',b,Bh,_,ho,XM,hs,by rw[Nu];exact KP,Nl.1,⟨el,RX,hh⟩,by rw[Nu];exact G3,by rw[Nu];exact cO,by rw[Nu];exact jT,rfl,?_⟩;rw[Array.toList_setIfInBounds,List.take_set,yB,e1,e2,e3];have:(c0++(a0++[Value.slice ad ys.length cap]++a2)++d).set (i.toNat*t.size+o) (.slice none 0 0)=c0++(a0++[.slice none 0 0]++a2)++d:=by
   rw[<-gm,<-oI,Awh,Awh,Awh,Axt _ _ (by omega),Axt _ _ (by omega),show c0.length+a0.length-c0.length-a0.length=0 by omega];simp
  rw[this];exact gk
theorem pe(H:A1 w g bs){k ek:Nat}{t u:Ty}{xs:AyZ t.V}(hb:bs[k]?=some (.row ek .Ao t xs)){i:Int}{p:AyZ Nat}{o:Nat}(hi:i.toNat<(g.AK k).len){ys zs:AyZ u.V}{x':t.V}
    (hg:Yy (.sl u) p t (xs.getD i.toNat t.zero)=some ys) (hs:Oj (.sl u) zs p t (xs.getD i.toNat t.zero)=some x') (ho:IP t p=some o) {b:Nat} (KP:(g.AK k).a=some ⟨b,0,none⟩) :
    ∃ad c,w.cell? ⟨b,i.toNat*(g.AK k).aL+o,none⟩=some (.slice ad ys.length c):=by
 obtain⟨Ng,hlen,Mg,BB,hr⟩:=H.Js k _ hb;have Cw:i.toNat<xs.length:=by grind
 rcases hr with ⟨Ug,_⟩|⟨b',Bh,ds,ha,BW,⟨el,RX,hh⟩,G3,cO,jT,yB,Nb⟩
 ·grind
 rw[KP]at ha;injection ha with ha;injection ha with ha;subst ha;obtain⟨c0,c,d,e1,gm,mr,jZ,ZT⟩:=A5.AK (λi x c h=>Ht.len h) Nb Cw;rw[AwF]at mr;have hgd:xs.getD i.toNat t.zero=xs[i.toNat]:=by grind
 obtain⟨a0,a1,a2,e2,oI,⟨ad,cap,e3,_⟩,_⟩:=Y3 p t [i.toNat] (xs.getD i.toNat t.zero) x' c o ys hs hg ho (by rw[hgd];exact mr);refine⟨ad,cap,?_⟩;rw[Mi hh,<-Awn,Mg];have hq:ds[i.toNat*t.size+o]?=some (.slice ad ys.length cap):=by
  rw[e1,e2,e3,Awh,Awv (by omega),gm];rw[show i.toNat*t.size+o-i.toNat*t.size=a0.length by omega];simp
 grind
end
theorem Y1:∀{l:AyZ AV} {j0 j k:Nat} {a:AV} {i:Int} {p:AyZ Nat} {o:Nat},gV j0 l=some (j,a,k,i,p,o)->j0<=j/\l[j-j0]?=some a/\a.MC=some (k,i,p,o)
 |[],_,_,_,_,_,_,_,h=>by simp[gV]at h
 |b::r,j0,j,k,a,i,p,o,h=>by
  simp only[gV]at h;split at h
  ·grind
  ·obtain⟨h1,h2,h3⟩:=Y1 h
   grind
theorem WQ{w:World}{g:G}{n:Nat}:∀{a:AV} {cs:AyZ Value} {k:Nat} {i:Int} {p:AyZ Nat} {o:Nat},B9 w g n false a cs->a.MC=some (k,i,p,o) ->
    k<n/\0<=i/\i.toNat<(g.AK k).len/\∃b v,(g.AK k).a=some ⟨b,0,none⟩/\g.own b=.Bs k []/\w.cell? ⟨b,i.toNat*(g.AK k).aL+o,none⟩=some v
 |.O1 k i p o e,cs,_,_,_,_,⟨hk,h0,h1,b,v,ha,ho,e1,e2,hc⟩,h=>by
  obtain⟨rfl,rfl,rfl,rfl⟩:=h
  grind
 |.pr a b,cs,k,i,p,o,⟨c,d,e,h1,h2⟩,h=>by
  simp only[AV.MC]at h;split at h
  ·rename_i z hz;injection h with h;subst h;exact WQ h1 hz
  ·exact WQ h2 h
 |.Aw _ _ _,_,_,_,_,_,_,h=>by simp[AV.MC]at h
 |.zs,_,_,_,_,_,_,h=>by simp[AV.MC]at h
 |.AA _,_,_,_,_,_,_,h=>by simp[AV.MC]at h
 |.mp _,_,_,_,_,_,_,h=>by simp[AV.MC]at h
 |.ptr _ _ _ _,_,_,_,_,_,_,h=>by simp[AV.MC]at h
 |.D7 _ _ _,_,_,_,_,_,_,h=>by simp[AV.MC]at h
 |.JH,_,_,_,_,_,_,h=>by simp[AV.MC]at h
 |.fn _ _,_,_,_,_,_,_,h=>by simp[AV.MC]at h
 |.un _,_,_,_,_,_,_,h=>by simp[AV.MC]at h
 |.cons _ _,_,_,_,_,_,h,_=>h.elim
 |.nil,_,_,_,_,_,h,_=>h.elim
theorem ky{a:AV}{z:Nat×Int×AyZ Nat×Nat}(h:a.MC=some z)(N:Nat):a.Cz=false/\a.KT=false/\(a.UT N).Cz=false/\(a.UT N).isAgg=a.isAgg:=by
 cases a with
 |O1 k i p o e=>exact⟨rfl,rfl,rfl,rfl⟩
 |pr a b =>
  refine⟨rfl,rfl,?_,?_⟩
  ·simp only[AV.UT];split<;>rfl
  ·simp only[AV.UT];split<;>rfl
 |_=>simp[AV.MC]at h
theorem dC{w:World}{g g1:G}{n N k:Nat}(st:Step [k] n w g w g1){i:Int}{p:AyZ Nat}{o:Nat}{v b:_}(KP:(g.AK k).a=some ⟨b,0,none⟩)(hc:w.cell? ⟨b,i.toNat*(g.AK k).aL+o,none⟩=some v)(hr:B9 w g1 (n+1) false (.AA N) [v]) :
    ∀{a:AV} {cs:AyZ Value},B9 w g n false a cs->a.MC=some (k,i,p,o)->(∀q∈(a.UT N).BX,[k].contains q=false)->B9 w g1 (n+1) false (a.UT N) cs
 |.O1 _ _ _ _ _,cs,⟨_,_,_,b',v',ha,_,e1,_,hc'⟩,h,_=>by
  obtain⟨rfl,rfl,rfl,rfl⟩:=h;rw[KP]at ha;injection ha with ha;injection ha with ha;subst ha;rw[hc]at hc';injection hc' with hc';subst hc';rw[e1];exact hr
 |.pr a b,cs,⟨c,d,e,h1,h2⟩,h,hq=>by
  simp only[AV.MC]at h;simp only[AV.UT]at hq⊢;split at h
  ·rename_i z hz;injection h with h;subst h;rw[hz]at hq;refine⟨c,d,e,dC st KP hc hr h1 hz λq gx=>hq q (by simp[AV.BX,gx]),?_⟩;have:=B9.step st (AwK n) b _ h2;rwa [K7 λq gx=>hq q (by simp[AV.BX,gx])]at this
  ·rename_i hz;rw[hz]at hq;refine⟨c,d,e,?_,dC st KP hc hr h2 h λq gx=>hq q (by simp[AV.BX,gx])⟩;have:=B9.step st (AwK n) a _ h1;rwa [K7 λq gx=>hq q (by simp[AV.BX,gx])]at this
 |.Aw _ _ _,_,_,h,_=>by simp[AV.MC]at h
 |.zs,_,_,h,_=>by simp[AV.MC]at h
 |.AA _,_,_,h,_=>by simp[AV.MC]at h
 |.mp _,_,_,h,_=>by simp[AV.MC]at h
 |.ptr _ _ _ _,_,_,h,_=>by simp[AV.MC]at h
 |.D7 _ _ _,_,_,h,_=>by simp[AV.MC]at h
 |.JH,_,_,h,_=>by simp[AV.MC]at h
 |.fn _ _,_,_,h,_=>by simp[AV.MC]at h
 |.un _,_,_,h,_=>by simp[AV.MC]at h
 |.cons _ _,_,h,_,_=>h.elim
 |.nil,_,h,_,_=>h.elim
theorem e9{w:World}{g:G}{n:Nat}:∀{l:AyZ AV} {vs:AyZ Value} {j:Nat} {a:AV},CK w g n l vs->l[j]?=some a->∃v,vs[j]?=some v/\BF w g n a v
 |_::_,v::_,0,_,h,hx=>by simp at hx;subst hx;exact⟨v,rfl,h.1⟩
 |_::_,_::_,j+1,_,h,hx=>by
  obtain⟨v,hv,hr⟩:=e9  h.2 (by simpa using hx)
  grind
 |[],[],_,_,_,hx=>by grind
 |[],_::_,_,_,h,_=>h.elim
 |_::_,[],_,_,h,_=>h.elim
theorem ay{w:World}{g g1:G}{n n1:Nat}{a1:AV}:∀{l:AyZ AV} {vs:AyZ Value} {j:Nat} {v:Value},CK w g n l vs->vs[j]?=some v->BF w g1 n1 a1 v->(∀a∈l.set j (.un 1),∀v,BF w g n a v->BF w g1 n1 a v)->CK w g1 n1 (l.set j a1) vs
 |a::l,v0::vs,0,v,h,hv,hx,ht=>by
  simp at hv;subst hv;refine⟨hx,?_⟩;have key:∀{l:AyZ AV} {vs:AyZ _},(∀a∈l,∀v,BF w g n a v->BF w g1 n1 a v)->CK w g n l vs->CK w g1 n1 l vs:=by
   intro l;induction l with
   |nil=>intro vs _ h;cases vs with
    |nil=>trivial
    |cons _ _=>exact h.elim
   |cons a l ih=>intro vs ht h;cases vs with
    |nil=>exact h.elim
    |cons v vs=>exact⟨ht a (by simp) v h.1,ih (λa ha=>ht a (by grind)) h.2⟩
  exact key (λa ha=>ht a (by grind)) h.2
 |a::l,v0::vs,j+1,v,h,hv,hx,ht=>⟨ht a (by simp) v0 h.1,ay h.2 (by grind) hx λa ha=>ht a (by grind)⟩
 |[],[],_,_,_,hv,_,_=>by grind
 |[],_::_,_,_,h,_,_,_=>h.elim
 |_::_,[],_,_,h,_,_,_=>h.elim
theorem oa{P:Program}{f:FuncId}{c:Callee}(hc:Am P f c){bs:AyZ Blk}{args:AyZ AV}{e:F1}(h:X9 c bs args some=some e) :
    bs.length<=e.Ag.length/\(e.Bg=[]->∃l,e.Ag=bs++l)/\∀(w:World) (g:G) (vs:AyZ Value),A1 w g bs->CK w g bs.length args vs->∀(o:Oper) (a:Act) (next:Act->World->Prop) (Q:Exit->Act->World->Prop),
     (∀v w' g',A1 w' g' e.Ag->BF w' g' e.Ag.length e.val v->Step e.Bg bs.length w g w' g'->next (a.put o.dst v) w')->o.upon P a next Q ((callFunc f vs.toArray).run P w):=by
 unfold X9 at h;split at h
 ·exact aB hc h
 ·rename_i j a0 k i p of hix;split at h
  ·rename_i ek t xs hb;split at h
   ·rename_i u XM;split at h
    ·rename_i ys hg;split at h
     ·rename_i gb;obtain⟨cT,hu,yy⟩:=gb;rw[Wo c hc.UR]at h;cases hx:SB c ((A0 [k] bs).set k Blk.Be++[Blk.row 0 .Ao u ys]) (args.set j (a0.UT bs.length)) some with
      |none=>grind
      |some e0 =>
       rw[hx]at h;simp only[Av9]at h;split at h
       ·grind
       ·rename_i cS;split at h
        ·rename_i e1 u' zs' hn0;split at h
         ·rename_i zs ga;split at h
          ·rename_i x' F2;injection h with h;subst h;obtain⟨ec,hec⟩:=Bn ga;injection ec with ec;have ec:=ec.symm;subst ec;subst hec;obtain⟨hlen,_,Anq⟩:=aB hc hx;have jh:((A0 [k] bs).set k Blk.Be++[Blk.row 0 .Ao u ys]).length=bs.length+1:=by simp[Ar]
           have Ada:k∉e0.Bg:=by grind
           refine⟨by simp only[Awi,Ar];omega,λhm=>by simp at hm,λw g vs H l8 o a next Q hn=>?_⟩
           obtain⟨_,Adi,hG⟩:=Y1 hix;rw[Nat.sub_zero]at Adi;obtain⟨v,hvj,l9⟩:=e9 l8 Adi;obtain⟨pl1,pl2,pl3,pl4⟩:=ky hG bs.length;obtain⟨cs,Pj,hval⟩:=BD pl1 pl2 l9;obtain⟨_,h0,hi,b,v',KP,BW,CO⟩:=WQ Pj hG;obtain⟨g1,H1,Nq,oF,UK,_⟩:=TD H hb hi hg cT hu KP CO F2;have AnV:∀a∈args.set j (a0.UT bs.length),∀q∈a.BX,[k].contains q=false:=λa ha q hq=>by
            grind
           have WA:=AP Adi;have An0:BF w g1 (bs.length+1) (a0.UT bs.length) v:=by
            obtain⟨cs1,AcV,ZV⟩:=BD rfl rfl oF;have e1:cs1=[v']:=ZV;subst e1;exact A9 pl3 (dC Nq KP CO AcV Pj hG (AnV _ (Axn (i:=j) (by grind)))) (by grind)
           have Aqf:CK w g1 (bs.length+1) (args.set j (a0.UT bs.length)) vs:=ay l8 hvj An0 λa ha v h=>by
            obtain⟨q,hq⟩:=List.getElem?_of_mem ha;rcases N0 hq with ⟨rfl,rfl⟩|⟨RY,gx⟩
            ·exact M4
            ·have:=h.step Nq (AwK _);rwa [K7 (AnV a (Axn (i:=q) (by grind)))]at this
           refine Anq w g1 vs H1 (by grind) o a next Q λv2 w2 g2 H2 yN LS=>?_
           let N:=e0.Ag.length
           have aS:(((A0 [k,bs.length] e0.Ag).set bs.length Blk.Be).set k (.row ek .Ao t (xs.set i.toNat x'))).length=N:=by simp[Ar,N]
           have stA:Step [bs.length,k] N w2 g2 w2 (g2.W2 bs.length k (P9 p [i.toNat])):=iL;have zz:Step [k,bs.length] N w2 g2 w2 (g2.W2 bs.length k (P9 p [i.toNat])):=stA.weaken (λq hq=>by simp at hq⊢;exact hq.symm) (Awf _);have tO:J2 w2 (g2.W2 bs.length k (P9 p [i.toNat])) N k (.row ek .Ao t (xs.set i.toNat x')):=by
            refine UK w2 g2 N e1 (λb q hb=>LS.Bs b k q hb (by omega) Ada) (λj hj=>LS.AK j (by omega)) (H2.Js bs.length _ hn0)
           refine hn v2 w2 (g2.W2 bs.length k (P9 p [i.toNat])) ?_ ?_ ?_
           ·refine H2.U5 zz (λb hb=>by simp[G.W2,H2.Bz b hb]) (by rw[aS];exact Awf _) λj' y P5=>?_;rw[aS];rcases N0 P5 with ⟨rfl,rfl⟩|⟨RY,P5⟩
            ·exact .inr (.inr tO)
            ·rcases N0 P5 with ⟨rfl,rfl⟩|⟨Adg,P5⟩
             ·exact .inl rfl
             ·obtain⟨y',QB,rfl⟩:=CF P5;exact .inr (.inl ⟨by simp only[Axm,AxD,or_false,not_or];exact⟨RY,Adg⟩,y',QB,rfl⟩)
           ·rw[aS];exact yN.step zz (Awf _)
           ·refine⟨LS.os.trans Nq.os,LS.tape.trans Nq.tape,LS.output.trans Nq.output,LS.size,λb hb h=>?_,λb h=>?_,λb j' q h P5 hm=>?_,λj' P5=>?_⟩
            ·have h1:=Nq.no b hb h;have h2:=LS.no b hb h1.1;exact⟨by simp[G.W2,h2.1],h2.2⟩
            ·have h1:=Nq.GH b h;have h2:=LS.GH b h1.1;exact⟨by simp[G.W2,h2.1],h2.2⟩
            ·simp only[Axz,not_or]at hm;have h1:=Nq.Bs b j' q h P5 (by simpa using hm.2);have h2:=LS.Bs b j' q h1.1 (by omega) hm.1;exact⟨XF h2.1 (by omega),h2.2⟩
            ·show g2.AK j'=_;rw[LS.AK j' (by omega),Nq.AK j' P5]
          ·grind
         ·grind
        ·cases h
     ·grind
    ·cases h
   ·grind
  ·cases h
end Go.Va
namespace Go.Va
section
variable {w:World} {g:G} {n:Nat}
def G.RL(g:G)(Z:AyZ Nat):G:=⟨λb=>match g.own b with |.Bs k r=>if k∈Z then .GH else .Bs k r |t=>t,g.AK⟩
theorem cM{Z:AyZ Nat}{b:Nat}(h:g.own b=.GH):(g.RL Z).own b=.GH:=by simp[G.RL,h]
theorem Ml{Z:AyZ Nat}{b k:Nat}{r:AyZ Nat}(h:g.own b=.Bs k r)(hk:k∉Z):(g.RL Z).own b=.Bs k r:=by simp[G.RL,h,hk]
theorem Al.Ph{Z ks:AyZ Nat}{b:Nat}(h:Al g.own ks b):Al (g.RL Z).own (ks.filter λk=>!decide (k∈Z)) b:=by
 rcases h with h |⟨k,hk,r,h⟩
 ·exact .inl (cM h)
 ·by_cases hz:k∈Z
  ·exact .inl (by simp[G.RL,h,hz])
  ·exact .inr ⟨k,by simp[hk,hz],r,Ml h hz⟩
theorem Al.sU{Z ks:AyZ Nat}{b:Nat}(h:Al g.own ks b):Al (g.RL Z).own ks b:=h.Ph.mono λk hk=>(List.mem_filter.1 hk).1
theorem pg(a:AV):a.Vd.Cz=a.Cz:=by cases a<;>rfl
theorem bp(a:AV):a.Vd.KT=true\/a.Vd.isAgg=a.isAgg:=by cases a<;>first |exact .inl rfl |exact .inr rfl
theorem uI{a:AV}(h:a.KT=true):a.Vd.KT=true:=by cases a<;>simp_all [AV.KT,AV.Vd]
theorem B9.Ph(Z:AyZ Nat):∀(a:AV) (m:Bool) {cs:AyZ Value},B9 w g n m a cs->B9 w (g.RL Z) n m a.Vd cs
 |.Aw ks t x,false,cs,⟨hk,r⟩=>⟨hk,r.mono λb a=>⟨a.sU,rfl⟩⟩
 |.zs,false,_,h=>h
 |.AA _,false,_,h=>h
 |.mp _,false,_,h=>h
 |.ptr _ _ _ _,false,_,h=>h
 |.D7 ks t x,false,cs,⟨hk,b,off,ds,e,ha,r,hc⟩=>⟨hk,b,off,ds,e,ha.sU,r.mono λb a=>⟨a.sU,rfl⟩,hc⟩
 |.JH,false,_,h=>h
 |.O1 _ _ _ _ _,false,_,⟨_,_,_,_,_,_,_,e,h1,_⟩=>by subst e;exact⟨rfl,by intro u hu;simp at hu;subst hu;exact h1⟩
 |.QF _ _ _ _ _ _,false,_,⟨_,_,_,_,_,_,_,_,_,e,_⟩=>by subst e;exact⟨rfl,by intro u hu;simp at hu;subst hu;rfl⟩
 |.pr a b,false,_,⟨c,e,he,h1,h2⟩=>⟨c,e,he,B9.Ph Z a false h1,B9.Ph Z b false h2⟩
 |.fn f c,false,_,⟨vs,e,hx⟩=>⟨vs,e,B9.Ph Z c true hx⟩
 |.un k,false,_,h=>h
 |.cons a b,true,_,⟨v,r,e,h1,h2⟩=>by
  refine⟨v,r,e,?_,B9.Ph Z b true h2⟩;rcases bp a with hd |hd
  ·exact .inl hd
  ·exact h1.imp uI λ⟨cs,hx,hv⟩=>⟨cs,B9.Ph Z a false hx,by rw[hd];exact hv⟩
 |.nil,true,_,h=>h
 |.cons _ _,false,_,h=>h.elim
 |.nil,false,_,h=>h.elim
 |.O1 _ _ _ _ _,true,_,h=>h.elim
 |.QF _ _ _ _ _ _,true,_,h=>h.elim
 |.Aw _ _ _,true,_,h=>h.elim
 |.zs,true,_,h=>h.elim
 |.AA _,true,_,h=>h.elim
 |.mp _,true,_,h=>h.elim
 |.ptr _ _ _ _,true,_,h=>h.elim
 |.D7 _ _ _,true,_,h=>h.elim
 |.JH,true,_,h=>h.elim
 |.pr _ _,true,_,h=>h.elim
 |.fn _ _,true,_,h=>h.elim
 |.un _,true,_,h=>h.elim
theorem BF.Ph(Z:AyZ Nat){a:AV}{v:Value}(h:BF w g n a v):BF w (g.RL Z) n a.Vd v:=by
 cases ht:a.Cz with
 |false =>
  rw[BF.iff ht]at h;rw[BF.iff (by rw[pg];exact ht)];rcases bp a with hd |hd
  ·exact .inl hd
  ·exact h.imp uI λ⟨cs,h,hv⟩=>⟨cs,B9.Ph Z a false h,by rw[hd];exact hv⟩
 |true =>
  cases a with
  |cons a b=>obtain⟨vs,e,h⟩:=h;exact⟨vs,e,B9.Ph Z (.cons a b) true h⟩
  |nil=>exact h
  |_=>cases ht
theorem J2.Ph{Z:AyZ Nat}{k:Nat}(hk:k∉Z){b:Blk}(h:J2 w g n k b):J2 w (g.RL Z) n k b.Vd:=by
 cases b with
 |Be=>trivial
 |map m kt vt es st =>
  obtain⟨Ng,b,FK,CL,ha,ho,hh,NT,hm⟩:=h;refine⟨Ng,b,FK,CL,ha,Ml ho hk,hh,NT,hm.on λi x c r=>?_⟩;cases m with
  |Ao=>exact Ht.mono (λb q hb=>⟨Ml hb hk,rfl⟩) r
  |sh ks=>exact FX.mono (λb a=>⟨a.sU,rfl⟩) r
 |Nh e t xs i p =>
  obtain⟨h1,h2,h3,h4,h5,u,o,x0,b,Bh,ds,q1,q2,q3,ha,ho,hh,c1,c2,c3,c4,hc⟩:=h;exact⟨h1,h2,h3,h4,h5,u,o,x0,b,Bh,ds,q1,q2,q3,ha,Ml ho hk,hh,c1,c2,c3,c4,hc.mono λi x c r=>r.mono λb q hb=>⟨Ml hb hk,rfl⟩⟩
 |tail e t xs =>
  obtain⟨hf,hlen,Mg,BB,hr⟩:=h;exact⟨hf,hlen,Mg,BB,hr.imp id λ⟨b,o,Bh,ds,ha,ho,hh,h1,h2,h3,h4,hc⟩=>⟨b,o,Bh,ds,ha,Ml ho hk,hh,h1,h2,h3,h4,hc.mono λi x c r=>r.mono λb q hb=>⟨Ml hb hk,rfl⟩⟩⟩
 |box a =>
  obtain⟨h1,b,cs,e,ha,ho,hh,hx⟩:=h;exact⟨h1,b,cs,e,ha,Ml ho hk,hh,B9.Ph Z a false hx⟩
 |row e m t xs =>
  obtain⟨Ng,hlen,Mg,BB,hr⟩:=h;refine⟨Ng,hlen,Mg,BB,hr.imp id λ⟨b,Bh,ds,ha,ho,hh,h1,h2,h3,h4,hc⟩=>⟨b,Bh,ds,ha,Ml ho hk,hh,h1,h2,h3,h4,?_⟩⟩;cases m with
  |Ao=>exact hc.mono λi x c r=>r.mono λb q hb=>⟨Ml hb hk,rfl⟩
  |sh ks=>exact hc.mono λx c r=>r.mono λb a=>⟨a.sU,rfl⟩
theorem fS{bs:AyZ Blk}(H:A1 w g bs)(Z:AyZ Nat):A1 w (g.RL Z) ((Blk.Eu bs Z).map Blk.Vd):=by
 refine⟨λb hb=>by simp[G.RL,H.Bz b hb],λk x hx=>?_⟩;rw[AwC]at hx;cases hq:(Blk.Eu bs Z)[k]? with
 |none=>rw[hq]at hx;cases hx
 |some y =>
  rw[hq]at hx;injection hx with hx;subst hx;rw[Awl,AQ];rcases Ha hq with rfl |⟨hn,h⟩
  ·trivial
  ·exact(H.Js k y h).Ph hn
theorem Q1:∀a:AV,a.Wy=false->a.Vd=a
 |.pr a b,h=>by
  simp only[AV.Wy,Axf]at h;simp[AV.Vd,Q1 a h.1,Q1 b h.2]
 |.cons a b,h=>by
  simp only[AV.Wy,Axf]at h;simp[AV.Vd,Q1 a h.1,Q1 b h.2]
 |.fn f c,h=>by simp[AV.Vd,Q1 c h]
 |.Aw _ _ _,_=>rfl
 |.zs,_=>rfl
 |.AA _,_=>rfl
 |.mp _,_=>rfl
 |.ptr _ _ _ _,_=>rfl
 |.D7 _ _ _,_=>rfl
 |.JH,_=>rfl
 |.nil,_=>rfl
 |.O1 _ _ _ _ _,h=>by cases h
 |.QF _ _ _ _ _ _,h=>by cases h
 |.un _,_=>rfl
theorem s9{b:Blk}(h:b.Wy=false):b.Vd=b:=by
 cases b with
 |box a=>simp[Blk.Vd,Q1 a h]
 |_=>rfl
theorem oB{bs:AyZ Blk}(H:A1 w g bs)(hn:bs.all (λb=>!b.Wy)=true)(Z:AyZ Nat):A1 w (g.RL Z) (Blk.Eu bs Z):=by
 have:=fS H Z;rwa [Aw5 (g:=id) (λb hb=>?_),List.map_id]at this;obtain⟨j,hj⟩:=List.getElem?_of_mem hb;rcases Ha hj with h |⟨_,h⟩
 ·subst h;rfl
 ·have:=List.all_eq_true.1 hn b (Axn h);exact s9 (by simpa using this)
theorem gI:∀(Z:AyZ Nat) (a b:AyZ Blk),(∀k∈Z,a.length<=k)->∃l,Blk.Eu (a++b) Z=a++l
 |[],a,b,_=>⟨b,rfl⟩
 |k::Z,a,b,h=>by
  have hk:=h k (by simp);simp only[Blk.Eu];rw[Axt _ _ hk];exact gI Z a _ λj hj=>h j (by simp[hj])
end
end Go.Va
namespace Go.Va
section
variable {w:World} {g:G} {n:Nat} {v:Value}
end
section
variable {w:World} {g:G} {bs:AyZ Blk} {m:Nat}
theorem yr{a b:AV}{f:Nat}(h:a.U6 f=some b):a.isAgg=true:=by
 cases a with
 |Aw ks t x =>
  cases t<;>first |rfl |(cases f<;>simp[AV.U6,Si]at h)
 |pr _ _=>rfl
 |_=>cases f<;>simp[AV.U6]at h
theorem jJ(H:A1 w g bs){c:Co}{a a':AV}{nb:AyZ Blk}(h:oh bs c a=some (a',nb)){cs:AyZ Value}(hx:B9 w g bs.length false a cs) :
    ∃g',A1 w g' (bs++nb)/\B9 w g' (bs++nb).length false a' cs/\a'.isAgg=a.isAgg/\Step [] bs.length w g w g':=by
 have stay:∀a':AV,B9 w g bs.length false a' cs->a'.isAgg=a.isAgg->∃g',A1 w g' (bs++[])/\B9 w g' (bs++[]).length false a' cs/\a'.isAgg=a.isAgg/\Step [] bs.length w g w g':=λa' h1 h2=>⟨g,by grind,by grind,h2,Step.refl _ _ _ _⟩;cases c with
 |Aw t =>
  simp only[oh]at h;split at h
  ·rename_i x hr;obtain⟨rfl,rfl⟩:=h;have:=MD H t a x cs hr hx;exact stay _ ⟨this.2,this.1⟩ (UV hr).symm
  ·grind
 |Xt ks =>
  simp only[oh]at h;split at h
  ·split at h
   ·rename_i hc;obtain⟨rfl,rfl⟩:=h;rw[Awg,AxJ]at hc;have tv:∀k∈ks,k<bs.length:=λk hk=>by grind
    refine stay _ ⟨tv,Abe hx.2 λhf b hb=>?_⟩ rfl;rcases hc.1 with h |h
    ·grind
    ·exact hb.mono λk hk=>by grind
   ·grind
  ·grind
 |row p e t Ao =>
  simp only[oh]at h;split at h
  ·rename_i hz;split at h
   ·rename_i LN;split at h
    ·rename_i b hb;simp only[Awb,Awm]at h;obtain⟨rfl,rfl⟩:=h;obtain⟨_,BB⟩:=Zb LN;obtain⟨c0,c1,c2,e1,ho,⟨ad,G3⟩,_⟩:=Nz p a cs .zs hx hz
     let g':=g.P7 (λj r=>.Bs j r) none bs.length ⟨ad,0,0,t.size⟩
     have st:Step [] bs.length w g w g':=Step.P7 H.Bz rfl rfl rfl (Awf _) (λ_ _ _=>rfl) (λq h=>by grind) (Awf _) λ_ _ _ _=>rfl;have QK:g'.AK bs.length=⟨ad,0,0,t.size⟩:=by simp[g',G.P7]
     have j7:=hx.M3 st (AwK bs.length);obtain⟨d0,d1,d2,e2,mo,⟨jd,XK⟩,F2⟩:=Nz p a cs .zs j7 hz;have hlen:c0.length=d0.length:=by grind
     have l7:ad=jd:=by
      have h1:cs[c0.length]?=some (.slice ad 0 0):=by
       grind
      grind
     have VF:=F2 (.AA bs.length) b d1 hb ⟨AwP _,by grind⟩;rw[<-e2]at VF;have Nf:(if(t.Bu||Ao)=true then RM.Ao else RM.sh []).BX=[]:=by split<;>rfl
     refine⟨g',H.push st (J8 H.Bz (Awf _) λq h=>by grind) ⟨(by rw[Nf];intro j hj;cases hj),by grind,by rw[QK],BB,.inl ⟨rfl,by rw[QK]⟩⟩,by rw[Awd];exact VF,?_,st⟩;cases p with
     |nil =>
      simp only[AV.Qz,Awb]at hz;simp only[AV.U1,Awb]at hb;subst hz;subst hb;rfl
     |cons f p =>
      simp only[AV.Qz]at hz;split at hz
      ·rename_i q hq;simp only[AV.U1,hq]at hb;split at hb
       ·rw[U0 hb,yr hq]
       ·cases hb
      ·cases hz
    ·cases h
   ·cases h
  ·obtain⟨rfl,rfl⟩:=h;exact stay _ hx rfl
theorem XH{k:Nat}{c:Co}{bs FQ:AyZ Blk}(h:coB k c bs=some FQ):bs.length<=FQ.length:=by
 unfold coB at h
 grind
theorem su(H:A1 w g bs){k:Nat}{c:Co}{FQ:AyZ Blk}(h:coB k c bs=some FQ):∃g',A1 w g' FQ/\Step [] bs.length w g w g':=by
 unfold coB at h;split at h
 ·rename_i a0 hb;split at h
  ·rename_i a' nb tf;injection h with h;subst h;obtain⟨hlen,bb,cs,e,ha,ho,hh,hx⟩:=H.Js k _ hb;obtain⟨g',h1,h2,h3,h4⟩:=jJ H tf hx;have hk:=AP hb;have ji:(bs.set k (.box a')++nb).length=(bs++nb).length:=by simp
   refine⟨g',⟨h1.Bz,λj x hj=>?_⟩,h4⟩;rw[ji];rw[Awz]at hj;split at hj
   ·rename_i WA;rw[Awi]at WA;rw[Awy]at hj;split at hj
    ·rename_i ek;subst ek;injection hj with hj;subst hj;have hl:=h4.Bs bb k [] ho hk (by simp);exact⟨by rw[h4.AK k hk];exact hlen,bb,cs,e,by rw[h4.AK k hk];exact ha,hl.1,hh,h2⟩
    ·exact h1.Js j x (by grind)
   ·rename_i WA;rw[Awi]at WA hj;exact h1.Js j x (by grind)
  ·grind
 ·grind
theorem lY:∀{l:AyZ (Nat×Co)} {bs FQ:AyZ Blk} {g:G},cE l bs=some FQ->A1 w g bs->bs.length<=FQ.length/\∃g',A1 w g' FQ/\Step [] bs.length w g w g'
 |[],bs,FQ,g,h,H=>by
  simp only[cE,Awb]at h;subst h;exact⟨Awf _,g,H,Step.refl _ _ _ _⟩
 |(k,c)::r,bs,FQ,g,h,H=>by
  simp only[cE]at h;split at h
  ·rename_i b1 h1;obtain⟨g1,H1,s1⟩:=su H h1;obtain⟨hl,g2,H2,s2⟩:=lY h H1;exact⟨AwD (XH h1) hl,g2,H2,s1.trans s2 (XH h1)⟩
  ·grind
theorem fK:∀{l:AyZ (Nat×Co)} {bs FQ:AyZ Blk},cE l bs=some FQ->bs.length<=FQ.length
 |[],bs,FQ,h=>by simp only[cE,Awb]at h;subst h;exact Awf _
 |(k,c)::r,bs,FQ,h=>by
  simp only[cE]at h;split at h
  ·rename_i b1 h1;exact AwD (XH h1) (fK h)
  ·grind
theorem gY:∀{l:AyZ (Nat×AyZ (AyZ Nat)×Co)} {args:AyZ AV} {bs FQ:AyZ Blk},preB l args bs=some FQ->∃l',cE l' bs=some FQ
 |[],args,bs,FQ,h=>⟨[],h⟩
 |(j,q,c)::r,args,bs,FQ,h=>by
  simp only[preB]at h;split at h
  ·split at h
   ·rename_i k _;split at h
    ·rename_i b1 h1;obtain⟨l',h2⟩:=gY h;exact⟨(k,c)::l',by simp only[cE,h1];exact h2⟩
    ·grind
   ·grind
  ·grind
end
section
variable {P:Program} {σ:St} {o:Oper} {en:Fe} {e:F1}
theorem pL{c:Call}(ho:o.op=.call c)(hc:c.callee=.builtin .cap)(hx:LP σ c.args=[.zs]){t:TypeId}{r:AyZ TypeId}(Qk:c.argTypes.toList=t::r){ti:TI}(ht:Dy P t ti)(hs:ti.Da=true):KO P σ o ⟨.int .i64 0,σ.Ag,[]⟩:=by
 obtain⟨a0,ha,Ug⟩:=ru hx;refine .GI <| IQ (s:=λρ=>Builtin.cap_ c.argTypes o.type #[ρ a0]) (λρ=>?_) λa w g BG=>?_
 ·rw[HB ho hc,ha];simp[builtin]
 ·have R3:=AF BG a0;rw[Ug]at R3;obtain⟨ad,hv⟩:=Sw R3;have h0:c.argTypes[0]?=some t:=by rw[<-Awn,Qk];rfl
  exact BK (by rw[hv];simp[Builtin.cap_,h0,underlying,Bf ht hs,goInt])
end
end Go.Va
namespace Go.Va
section
variable {P:Program} {σ:St} {o:Oper} {en:Fe} {e:F1}
theorem pR{t:TypeId}{x:Operand}(ho:o.op=.load t x){ti:TI}(ht:Dy P t ti)(H7:ti.Da=true)(h:U3 σ.Ag ti (σ.BP x) some=some e):KO P σ o e:=by
 unfold U3 at h;split at h
 ·rename_i k i p f hx;split at h
  ·rename_i el tr xs hb;split at h
   ·rename_i u XM;split at h
    ·rename_i ys x0 hg hs;split at h
     ·rename_i hc;injection h with h;subst h;obtain⟨hti,cT,hu⟩:=hc;refine⟨by simp[Ar],λh=>(by grind),λa w g BG next Q hn=>?_⟩
      have R3:=AF BG x;rw[hx]at R3;obtain⟨hk,h0,h1,b,KP,hpe⟩:=IA R3;obtain⟨ad,c,CO⟩:=pe BG.heap hb h1 hg hs cT KP;obtain⟨g1,H1,Nq,oF,_,AsO⟩:=TD BG.heap hb h1 hg cT hu KP CO hs;have C5:(execOp a.eval o).run P w=.ok (.value (.slice ad ys.length c)) w:=by
       have hl:=Od (P:=P) (w:=w) ht (b:=b) (off:=i.toNat*(g.AK k).aL+f) (cs:=[.slice ad ys.length c]) (by rw[hti];rfl) (λj v hv=>by
        grind) (λ_=>rfl)
       obtain⟨v,hv,eO⟩:=hl;rw[hti]at eO;have:[Value.slice ad ys.length c]=[v]:=eO;injection this with h2 _;subst h2;simp[execOp,ho,hpe,Instr.loadAt,Instr.sureAddr,hv]
      unfold Oper.wp;rw[C5];have U9:((A0 [k] σ.Ag).set k (Blk.Nh el tr xs i p)++[Blk.row 0 .Ao u ys]).length=σ.Ag.length+1:=by simp[Ar]
      refine hn _ w g1 ⟨H1.Bz,λj y hj=>?_⟩ (by grind) Nq;rw[U9];have jh:((A0 [k] σ.Ag).set k Blk.Be++[Blk.row 0 .Ao u ys]).length=σ.Ag.length+1:=by grind
      by_cases ZG:j=k
      ·grind
      ·have:=H1.Js j y (by
         grind)
       rwa [jh]at this
     ·grind
    ·grind
   ·grind
  ·grind
 ·grind
structure ZD (P:Program) (Ui:TypeId) (kt:Ty):Prop where
 check:∀(w:World) (em:Bool) (x:kt.V),(Instr.checkKey em 10000 Ui (DU kt x)).run P w=.ok () w
 find:∀(w:World) (x:kt.V) (ks:List kt.V) (ms:List MapEntry),ms.map (·.key)=ks.map (DU kt) ->
  (∀j:Nat,(∀i,i<j->∀y,ks[i]?=some y->Bq kt x y=false)->(∀y,ks[j]?=some y->Bq kt x y=true)->(Instr.findKey Ui (DU kt x) ms).run P w=.ok (if h:j<ms.length then some (j,ms[j].val)else none) w)
 stays:∀(w:World) (x:kt.V),(Instr.keyThatStays (DU kt x) (DU kt x)).run P w=.ok (DU kt x) w
 eq:∀x y:kt.V,Bq kt x y=true->x=y
theorem U4{s t:ByteArray}:KL s t=true↔s=t:=by
 unfold KL;rw[ByteArray.toList_eq,ByteArray.toList_eq,Axj];constructor
 ·intro h;cases s with
  |mk a=>cases t with
   |mk b=>simp at h;rw[h]
 ·grind
theorem AaJ{s t:ByteArray}:(s==t)=true↔s=t:=by
 constructor
 ·intro h;have:(s.data==t.data)=true:=h;cases s;simp at this;rw[this]
 ·rintro rfl
  show(s.data==s.data)=true;simp
theorem iN{s t:ByteArray}:KL s t=(s==t):=by rw[Bool.eq_iff_iff,U4,AaJ]
theorem Ys{kt:Ty}{d:TypeDesc}(hs:∀x y:kt.V,Instr.sameNow d (DU kt x) (DU kt y)=some (Bq kt x y)){x:kt.V}:∀(ks:AyZ kt.V) (ms:AyZ MapEntry) (n j:Nat),ms.map (·.key)=ks.map (DU kt) ->
    (∀i,i<j->∀y,ks[i]?=some y->Bq kt x y=false)->(∀y,ks[j]?=some y->Bq kt x y=true)->Instr.findNow d (DU kt x) ms n=some (if h:j<ms.length then some (n+j,ms[j].val)else none)
 |[],ms,n,j,hm,_,_=>by
  have :=by simpa using hm
  subst this;rfl
 |k::ks,m::ms,n,0,hm,_,h1=>by
  simp only[AwU,AxK]at hm;simp[Instr.findNow,hm.1,hs,h1 k rfl]
 |k::ks,m::ms,n,j+1,hm,h0,h1=>by
  simp only[AwU,AxK]at hm;have ih:=Ys hs ks ms (n+1) j hm.2 (λi hi y hy=>h0 (i+1) (by omega) y (by grind)) (λy hy=>h1 y (by grind));simp only[Instr.findNow,hm.1,hs,h0 0 (by omega) k rfl]
  grind
 |k::ks,[],n,j,hm,_,_=>by grind
theorem ZD.plain{Ui:TypeId}{kt:Ty}{d:TypeDesc}(hu:P.underlying Ui=some d)(hs:∀x y:kt.V,Instr.sameNow d (DU kt x) (DU kt y)=some (Bq kt x y))(hc:∀(w:World) (em:Bool) (x:kt.V),(Instr.checkKey em 10000 Ui (DU kt x)).run P w=.ok () w)
    (BG:∀(w:World) (x:kt.V),(Instr.keyThatStays (DU kt x) (DU kt x)).run P w=.ok (DU kt x) w) (heq:∀x y:kt.V,Bq kt x y=true->x=y):ZD P Ui kt where
 check:=hc
 find w x ks ms hm j h0 h1:=by
  have:=Ys hs  ks ms 0 j hm h0 h1;simp[Instr.findKey,underlying,hu,this]
 stays:=BG
 eq:=heq
theorem yX{Ui:TypeId}{q q':IntKind}(hu:P.underlying Ui=some (.int q')):ZD P Ui (.int q) :=
 .plain hu (λx y=>by simp[DU,Instr.sameNow,Bq]) (λw em x=>by
     rw[Instr.checkKey];simp[underlying,hu]) (λw x=>by
     have:Instr.sameBits 10000 (.int q x) (.int q x)=true:=by simp[Instr.sameBits]
     simp[Instr.keyThatStays,DU,this]) λx y h=>by simpa [Bq]using h
theorem yY{Ui:TypeId}(hu:P.underlying Ui=some .string):ZD P Ui .str :=
 .plain hu (λx y=>by simp[DU,Instr.sameNow,Bq,iN]) (λw em x=>by
     rw[Instr.checkKey];simp[underlying,hu]) (λw x=>by
     have:Instr.sameBits 10000 (.string x) (.string x)=true:=by exact AaJ.2 rfl
     simp[Instr.keyThatStays,DU,this]) λx y h=>U4.1 (by simpa [Bq]using h)
theorem VS{e2:TypeId}{te:TI}(C9:Dy P e2 te){q:IntKind}(hq:te.ty=.int q){w:World}{cs:Array Value}{i:Nat}{v:Value}(h:cs[i]?=some v):(part e2 cs i).run P w=.ok v w:=by
 have ha:=Vh (w:=w) C9;rw[hq]at ha;simp[part,ha,Ty.isAgg,h]
theorem W6{e2:TypeId}{q q':IntKind}(hu:P.underlying e2=some (.int q'))(d:Nat)(w:World)(a b:Int):(Op.equalIn (d+1) e2 (.int q a) (.int q b)).run P w=.ok (a==b) w:=by
 simp[Op.equalIn,underlying,hu]
theorem aK{Ui e2:TypeId}(hu:P.underlying Ui=some (.array 2 e2)){te:TI}(C9:Dy P e2 te){q:IntKind}(hq:te.ty=.int q)(w:World)(a b c d:Int) :
    (Op.equal Ui (.agg #[.int q a,.int q b]) (.agg #[.int q c,.int q d])).run P w=.ok (a==c&&b==d) w:=by
 have hs:=CR (w:=w) C9;rw[hq]at hs;have hi:=Pk C9 hq;have p0:∀x y ,(part e2 #[.int q x,.int q y] 0).run P w=.ok _ w:=λx y=>VS C9 hq rfl;have p1:∀x y ,(part e2 #[.int q x,.int q y] 1).run P w=.ok _ w:=λx y=>VS C9 hq rfl;have eq:=λx y=>W6  (q:=q) hi 9998 w x y;unfold Op.equal Op.maxDepth;rw[Op.equalIn];simp only[Sem.run_bind,run_underlying hu,Result.andThen_ok,hs];simp only[Std.Legacy.Range.forIn_eq_forIn_range',Std.Legacy.Range.size,List.range'_succ,List.forIn_nil];by_cases h1:a=c<;>by_cases h2:b=d<;>simp[p0,p1,eq,h1,h2,Ty.size]
theorem Uc{Ui e2:TypeId}(hu:P.underlying Ui=some (.array 2 e2)){te:TI}(C9:Dy P e2 te){q:IntKind}(hq:te.ty=.int q)(w:World){x:(Ty.AH (.int q) (.AH (.int q) .unit)).V} :
    ∀(ks:AyZ (Ty.AH (.int q) (.AH (.int q) .unit)).V) (ms:AyZ MapEntry) (n j:Nat),ms.map (·.key)=ks.map (DU (.AH (.int q) (.AH (.int q) .unit))) ->
    (∀i,i<j->∀y,ks[i]?=some y->Bq (.AH (.int q) (.AH (.int q) .unit)) x y=false)->(∀y,ks[j]?=some y->Bq (.AH (.int q) (.AH (.int q) .unit)) x y=true) ->
    (Instr.findAsking Ui (DU (.AH (.int q) (.AH (.int q) .unit)) x) ms n).run P w=.ok (if h:j<ms.length then some (n+j,ms[j].val)else none) w
 |[],ms,n,j,hm,_,_=>by
  have :=by simpa using hm
  subst this;simp[Instr.findAsking]
 |k::ks,m::ms,n,0,hm,_,h1=>by
  simp only[AwU,AxK]at hm;have:=h1 k rfl;simp only[Bq,Bool.and_true]at this;simp[Instr.findAsking,hm.1,DU,aK hu C9 hq,this]
 |k::ks,m::ms,n,j+1,hm,h0,h1=>by
  simp only[AwU,AxK]at hm;have ih:=Uc hu C9 hq w ks ms (n+1) j hm.2 (λi hi y hy=>h0 (i+1) (by omega) y (by grind)) (λy hy=>h1 y (by grind));have:=h0 0 (by omega) k rfl;simp only[Bq,Bool.and_true]at this;simp only[Instr.findAsking,hm.1,Sem.run_bind];rw[show(Op.equal Ui _ _).run P w=.ok false w by simp[DU,aK hu C9 hq,this]];simp
  grind
 |k::ks,[],n,j,hm,_,_=>by grind
theorem yW{Ui e2:TypeId}(hu:P.underlying Ui=some (.array 2 e2)){te:TI}(C9:Dy P e2 te){q:IntKind}(hq:te.ty=.int q):ZD P Ui (.AH (.int q) (.AH (.int q) .unit)) where
 check w em x:=by
  have hs:=CR (w:=w) C9;rw[hq]at hs;have hi:=Pk C9 hq;have p0:(part e2 #[.int q x.1,.int q x.2.1] 0).run P w=.ok _ w:=VS C9 hq rfl;have p1:(part e2 #[.int q x.1,.int q _] 1).run P w=.ok (.int q x.2.1) w:=VS C9 hq rfl;have hc:∀y,(Instr.checkKey em 9999 e2 (.int q y)).run P w=.ok () w:=λy=>by
   rw[Instr.checkKey];simp[underlying,hi]
  rw[Instr.checkKey];simp only[Sem.run_bind,run_underlying hu,Result.andThen_ok,DU];simp only[Std.Legacy.Range.forIn_eq_forIn_range',Std.Legacy.Range.size,List.range'_succ,List.forIn_nil];simp[hs,p0,p1,hc,Ty.size]
 find w x ks ms hm j h0 h1:=by
  have hf:=Uc hu C9 hq w  ks ms 0 j hm h0 h1;simp only[Instr.findKey,run_underlying hu];cases ms with
  |nil=>simp[underlying,hu,Instr.findNow]
  |cons m ms =>
   cases ks with
   |nil=>grind
   |cons k ks =>
    have:Instr.findNow (.array 2 e2) (DU _ x) (m::ms) 0=none:=by simp[Instr.findNow,Instr.sameNow]
    simp[underlying,hu,this,hf]
 stays w x:=by
  have:Instr.sameBits 10000 (.agg #[.int q x.1,.int q x.2.1]) (.agg #[.int q x.1,.int q x.2.1])=true:=by
   simp[Instr.sameBits]
  simp[Instr.keyThatStays,DU,this]
 eq x y h:=by
  simp only[Bq,Bool.and_true]at h
  grind
theorem ZD.of{C6:lA}{Ui:TypeId}{tk:TI}(ht:Xl P C6=true)(hk:Dy P Ui tk)(h:tk.ty.Dc=true)(hh:UM C6 tk=true):ZD P Ui tk.ty:=by
 unfold UM at hh;split at hh
 ·simp only[Awg,Axj]at hh;obtain⟨ZO,hh⟩:=hh;split at hh
  ·rename_i te C9;simp only[Awg,Axj]at hh;have hu:=hk.FK (by omega);rw[ZO]at hu;rw[hh.2];exact yW hu (Dy.of ht C9) hh.1
  ·grind
 ·cases hq:tk.ty with
  |int q=>exact yX (Pk hk hq)
  |str=>exact yY (NN hk hq)
  |AH a b =>
   rename_i mj;rw[hq]at h;cases a with
   |int q=>grind
   |_=>simp[Ty.Dc]at h
  |_=>rw[hq]at h;simp[Ty.Dc]at h
theorem yU{w:World}{A:Nat->Prop}:∀{kt:Ty} {x:kt.V} {cs:AyZ Value} {v:Value},kt.Dc=true->FX w A kt x cs->BV kt.isAgg cs v->v=DU kt x
 |.int k,x,cs,v,_,h,hv=>by
  subst h;simpa [DU]using hv.symm
 |.str,x,cs,v,_,h,hv=>by
  subst h;simpa [DU]using hv.symm
 |.AH a b,x,cs,v,hk,h,hv=>by
  cases a with
  |int q=>cases b with
   |AH b c=>cases b with
    |int q'=>cases c with
     |unit =>
      obtain⟨c1,d1,rfl,h1,c2,d2,rfl,h2,h3⟩:=h;subst h1;subst h2;subst h3;simpa [BV,Ty.isAgg,DU]using hv
     |_=>simp[Ty.Dc]at hk
    |_=>simp[Ty.Dc]at hk
   |_=>simp[Ty.Dc]at hk
  |_=>simp[Ty.Dc]at hk
 |.bool,_,_,_,hk,_,_=>by simp[Ty.Dc]at hk
 |.unit,_,_,_,hk,_,_=>by simp[Ty.Dc]at hk
 |.sl _,_,_,_,hk,_,_=>by simp[Ty.Dc]at hk
 |.O3 _,_,_,_,hk,_,_=>by simp[Ty.Dc]at hk
theorem YL{w:World}{g:G}{bs:AyZ Blk}(H:A1 w g bs){kt:Ty}{a:AV}{key:kt.V}{v:Value}(hk:kt.Dc=true)(h:rd bs kt a=some key)(hv:BF w g bs.length a v):v=DU kt key:=by
 obtain⟨h1,h2⟩:=QH h;obtain⟨cs,Pj,hv⟩:=BD h1 h2 hv;rw[UV h]at hv;exact yU hk (MD H kt a key cs h Pj).1 hv
theorem Ru:∀{kt:Ty},kt.Dc=true->∀{x:kt.V},Bq kt x x=true
 |.int _,_,x=>by simp[Bq]
 |.str,_,x=>U4.2 rfl
 |.AH a b,hk,x=>by
  cases a with
  |int q=>cases b with
   |AH b c=>cases b with
    |int q'=>cases c with
     |unit=>simp[Bq]
     |_=>simp[Ty.Dc]at hk
    |_=>simp[Ty.Dc]at hk
   |_=>simp[Ty.Dc]at hk
  |_=>simp[Ty.Dc]at hk
 |.bool,hk,_=>by simp[Ty.Dc]at hk
 |.unit,hk,_=>by simp[Ty.Dc]at hk
 |.sl _,hk,_=>by simp[Ty.Dc]at hk
 |.O3 _,hk,_=>by simp[Ty.Dc]at hk
theorem bj{kt vt:Ty}(k:kt.V):∀(es:AyZ (kt.V×vt.V)),(∃(j:Nat) (x:kt.V×vt.V),es[j]?=some x/\Bq kt k x.1=true/\(∀i,i<j->∀y,es[i]?=some y->Bq kt k y.1=false)/\Nn kt vt es k=some x.2/\∀v,Dv kt vt es k v=es.set j (k,v)) \/
    ((∀(i:Nat) y,es[i]?=some y->Bq kt k y.1=false)/\Nn kt vt es k=none/\∀v,Dv kt vt es k v=es++[(k,v)])
 |[]=>.inr ⟨λi y h=>by grind,rfl,λ_=>rfl⟩
 |x::r=>by
  cases hk:Bq kt k x.1 with
  |true=>exact .inl ⟨0,x,rfl,hk,λi hi=>by omega,by simp[Nn,hk],λv=>by simp[Dv,hk]⟩
  |false =>
   rcases bj k r with ⟨j,y,h1,h2,h3,h4,h5⟩|⟨h1,h2,h3⟩
   ·refine .inl ⟨j+1,y,by grind,h2,λi hi z hz=>?_,by simp[Nn,hk,h4],λv=>by simp[Dv,hk,h5]⟩
    grind
   ·refine .inr ⟨λi z hz=>?_,by simp[Nn,hk,h2],λv=>by simp[Dv,hk,h3]⟩
    grind
section
variable {w:World} {own:Nat->Pp} {k:Nat} {md:RM} {kt vt:Ty} {st:Ay0 kt.V}
theorem QN.yV:∀{i:Nat} {es:AyZ (kt.V×vt.V)} {ms:AyZ MapEntry},QN w own k md kt vt st i es ms->ms.map (·.key)=(es.map (·.1)).map (DU kt)
 |_,[],_,h=>by cases h;rfl
 |_,x::xs,_,⟨m,r,e,h1,_,h3⟩=>by subst e;simp[h1.1,QN.yV h3]
theorem QN.len{i:Nat}{es:AyZ (kt.V×vt.V)}{ms:AyZ MapEntry}(h:QN w own k md kt vt st i es ms):ms.length=es.length:=by
 have:=congrArg List.length h.yV;simpa using this
theorem QN.get:∀{i:Nat} {es:AyZ (kt.V×vt.V)} {ms:AyZ MapEntry} {j:Nat} {x:kt.V×vt.V},QN w own k md kt vt st i es ms->es[j]?=some x ->
    ∃m,ms[j]?=some m/\(m.key=DU kt x.1/\m.born=i+j)/\(st=some x.1\/∃cs,OV w own k md vt (i+j) x.2 cs/\BV vt.isAgg cs m.val)
 |i,x::xs,_,0,y,⟨m,r,e,h1,h2,h3⟩,hj=>by
  grind
 |i,x::xs,_,j+1,y,⟨m,r,e,h1,h2,h3⟩,hj=>by
  subst e;obtain⟨m',h4,h5,h6⟩:=h3.get (j:=j) (by simpa using hj)
  grind
 |_,[],_,_,_,_,hj=>by grind
theorem QN.mk:∀{i:Nat} {es:AyZ (kt.V×vt.V)} {ms:AyZ MapEntry},ms.length=es.length->(∀(j:Nat) (x:kt.V×vt.V) (m:MapEntry),es[j]?=some x->ms[j]?=some m->(m.key=DU kt x.1/\m.born=i+j)/\(st=some x.1\/∃cs,OV w own k md vt (i+j) x.2 cs/\BV vt.isAgg cs m.val))->QN w own k md kt vt st i es ms
 |_,[],ms,hl,_=>by
  cases ms with
  |nil=>rfl
  |cons _ _=>grind
 |i,x::xs,[],hl,_=>by grind
 |i,x::xs,m::ms,hl,h=>by
  obtain⟨h1,h2⟩:=h 0 x m rfl rfl;refine⟨m,ms,rfl,h1,h2,QN.mk (by grind) λj y m' hy hm=>?_⟩;have:=h (j+1) y m' (by grind) (by grind)
  grind
end
theorem iV{t:Nat}{ti:TI}(h:Dy P t ti)(w:World):∃z,(zeroValue t).run P w=.ok z w/\BV ti.ty.isAgg (M7 ti.ty) z:=by
 obtain⟨i,z,hi,_,_,hz,aU,ha⟩:=h.info;refine⟨z,by simp[zeroValue,typeInfo,hi,hz],?_⟩;cases hg:ti.ty.isAgg with
 |true =>
  obtain⟨c,rfl⟩:=ha.2 hg;have:c.toList=M7 _:=aU;simp[BV,<-this]
 |false =>
  have hn:∀c,z≠.agg c:=λc e=>by grind
  have:z.cells=#[z]:=by cases z<;>first |rfl |grind
  rw[this]at aU;simp[BV,<-aU]
theorem VB{w:World}{g:G}{k:Nat}{md:RM}{kt vt:Ty}{st:Ay0 kt.V}{Ui:TypeId}(K:ZD P Ui kt){es:AyZ (kt.V×vt.V)}{FK:Array MapEntry}(hm:QN w g.own k md kt vt st 0 es FK.toList)(key:kt.V) :
    (∃(j:Nat) (x:kt.V×vt.V) (m:MapEntry),es[j]?=some x/\x.1=key/\FK[j]?=some m/\(∀i,i<j->∀y,es[i]?=some y->Bq kt key y.1=false)/\Nn kt vt es key=some x.2/\(∀v,Dv kt vt es key v=es.set j (key,v))/\(st=some x.1\/∃cs,OV w g.own k md vt j x.2 cs/\BV vt.isAgg cs m.val)/\(m.key=DU kt key/\m.born=j) /\
     (Instr.findKey Ui (DU kt key) FK.toList).run P w=.ok (some (j,m.val)) w) \/
    ((∀(i:Nat) y,es[i]?=some y->Bq kt key y.1=false)/\Nn kt vt es key=none/\(∀v,Dv kt vt es key v=es++[(key,v)])/\(Instr.findKey Ui (DU kt key) FK.toList).run P w=.ok none w):=by
 rcases bj key es with ⟨j,x,h1,h2,h3,h4,h5⟩|⟨h1,h2,h3⟩
 ·obtain⟨m,h6,⟨h7,h7b⟩,h8⟩:=hm.get h1;have WA:j<FK.toList.length:=AP h6;have hf:=K.find w key (es.map (·.1)) FK.toList hm.yV j (λi hi y hy=>by
   grind) (λy hy=>by
   grind)
  have hmv:FK.toList[j]=m:=by
   grind
  rw[dif_pos WA,hmv]at hf;have e:=(K.eq _ _ h2).symm
  grind
 ·have hf:=K.find w key (es.map (·.1)) FK.toList hm.yV es.length (λi hi y hy=>by
    grind) (λy hy=>by
    grind)
  rw[dif_neg (by rw[hm.len];omega)]at hf;exact .inr ⟨h1,h2,h3,hf⟩
theorem X2{w:World}{g:G}{n k:Nat}{v:Value}(h:BF w g n (.mp k) v):k<n/\∃b,(g.AK k).a=some ⟨b,0,none⟩/\v=.map (some b):=by
 obtain⟨cs,⟨hk,b,hb,e⟩,hv⟩:=BD rfl rfl h;subst e;exact⟨hk,b,hb,by simpa [AV.isAgg]using hv.symm⟩
theorem iy{t:TypeId}(ho:o.op=.makeMap t none){m:RM}{kt vt:Ty}(hm:m.BX=[]):KO P σ o ⟨.mp σ.Ag.length,σ.Ag++[.map m kt vt [] none],[]⟩:=by
 refine⟨by simp,λ_=>⟨_,rfl⟩,λa w g hs next Q hn=>?_⟩
 have hr:(execOp a.eval o).run P w=.ok (.value (.map (some w.heap.size))) (w.alloc (.map #[] 0)):=by
  simp[execOp,ho,Instr.makeMap]
 unfold Oper.wp;rw[hr];have st:=Step.add hs.heap (.map #[] 0) ⟨some ⟨w.heap.size,0,none⟩,0,0,0⟩;refine hn _ _ _ (hs.heap.new ?_) ?_ st
 ·exact⟨(by grind),w.heap.size,#[],0,by simp[G.add],by simp[G.add],heap_alloc_new w _,by simp,rfl⟩
 ·exact A9  rfl ⟨by simp,w.heap.size,by simp[G.add],rfl⟩ (by simp[BV,AV.isAgg])
theorem gN{w:World}{g:G}{k b:Nat}{md:RM}{kt vt:Ty}{st:Ay0 kt.V}{t Ui el:TypeId}{te:TI}(ht:P.underlying t=some (.map Ui el))(C9:Dy P el te)(tZ:vt=te.ty)(hd:te.ty.data=true)(K:ZD P Ui kt){es:AyZ (kt.V×vt.V)}{FK:Array MapEntry}{CL:Nat}(hb:w.heap[b]?=some (.map FK CL))
    (hm:QN w g.own k md kt vt st 0 es FK.toList) (key:kt.V) (ok:Bool):∃v,(Instr.lookup t (.map (some b)) (DU kt key) ok).run P w=.ok (if ok then .tuple #[v,.bool (WJ kt vt es key)]else v) w /\
     ((∃(j:Nat) (x:kt.V×vt.V) (m:MapEntry),es[j]?=some x/\x.1=key/\FK[j]?=some m/\m.val=v/\Cx kt vt es key=x.2/\(st=some x.1\/∃cs,OV w g.own k md vt j x.2 cs/\BV vt.isAgg cs v))\/(Cx kt vt es key=vt.zero/\BV vt.isAgg (M7 vt) v)):=by
 subst tZ;rcases VB K hm key with ⟨j,x,m,h1,h2,h3,_,h4,_,h5,_,hf⟩|⟨_,h2,_,hf⟩
 ·refine⟨m.val,?_,.inl ⟨j,x,m,h1,h2,h3,rfl,by simp[Cx,h4],h5⟩⟩;cases ok<;>simp[Instr.lookup,underlying,ht,MapKept.run_getObj_map hb,K.check,hf,WJ,h4]
 ·obtain⟨z,hz,hzv⟩:=iV C9 w;refine⟨z,?_,.inr ⟨by simp[Cx,h2],hzv⟩⟩;cases ok<;>simp[Instr.lookup,underlying,ht,MapKept.run_getObj_map hb,K.check,hf,hz,WJ,h2]
theorem vz{t:TypeId}{m x:Operand}{ok:Bool}(ho:o.op=.lookup t m x ok){ti tk te:TI}(ht:Dy P t ti)(cS:ti.Lf≠0)(C9:Dy P ti.elem te)(hd:te.ty.data=true)(K:tk.ty.Dc=true->ZD P ti.Lf tk.ty){z:AV}
    (h:Xd σ.Ag tk te ok (σ.BP m) (σ.BP x) some=some z):KO P σ o ⟨z,σ.Ag,[]⟩ :=
 .GI <| IQ (s:=λρ=>Instr.lookup t (ρ m) (ρ x) ok) (λρ=>by simp[execOp,ho]) λa w g BG=>by
  unfold Xd at h;split at h
  ·rename_i k hm;split at h
   ·rename_i md kt vt es hb;split at h
    ·rename_i key hx;split at h
     ·rename_i hc;obtain⟨hkt,tZ,QL⟩:=hc;subst hkt;subst tZ;have oK:=AF BG m;rw[hm]at oK;obtain⟨hk,b,KP,qg⟩:=X2 oK;obtain⟨Ng,b',FK,CL,ha,BW,hh,NT,YD⟩:=BG.heap.Js k _ hb;rw[KP]at ha;injection ha with ha;injection ha with ha;subst ha;have cQ:=YL BG.heap QL hx (AF BG x);obtain⟨v,hr,VH⟩:=gN (ht.mp cS) C9 rfl hd (K QL) hh YD key ok;have hv:BF w g σ.Ag.length (.Aw (UO (md.own k) te.ty) te.ty (Cx tk.ty te.ty es key)) v:=by
       have ZT:∃cs,FX w (Al g.own (md.own k)) te.ty (Cx tk.ty te.ty es key) cs/\BV te.ty.isAgg cs v:=by
        rcases VH with ⟨j,y,mm,h1,h2,h3,h4,h5,h6⟩|⟨h1,h2⟩
        ·rw[h5];rcases h6 with h6 |⟨cs,h6,h7⟩
         ·grind
         ·refine⟨cs,?_,h7⟩;cases md with
          |Ao=>exact Ht.rd (λb q hb=>.mem (AwE) hb) h6
          |sh ks=>exact h6
        ·rw[h1];exact⟨_,FX.zero hd,h2⟩
       obtain⟨cs,h1,h2⟩:=ZT;refine A9 rfl (cs:=cs) ⟨λj hj=>?_,?_⟩ h2
       ·unfold UO at hj;split at hj
        ·grind
        ·cases md with
         |Ao=>simp[RM.own]at hj;subst hj;exact hk
         |sh ks=>exact Ng j hj
       ·unfold UO;split
        ·rename_i hf;exact(FX.Bu hf).2 ((FX.Bu hf).1 h1)
        ·grind
      cases ok with
      |false =>
       simp only[Awo,Awb]at h;subst h;exact⟨v,by grind,hv⟩
      |true =>
       simp only[Awp,Awb]at h;subst h;refine⟨_,by grind,[v,.bool (WJ tk.ty te.ty es key)],rfl,v,_,rfl,(BF.iff rfl).1 hv,.bool (WJ tk.ty te.ty es key),[],rfl,?_,rfl⟩;exact(BF.iff rfl).1 (VO _)
     ·grind
    ·grind
   ·grind
  ·grind
theorem pP{t:TypeId}{m x:Operand}(ho:o.op=.lookup t m x false){ti tk te:TI}(ht:Dy P t ti)(cS:ti.Lf≠0)(C9:Dy P ti.elem te)(hd:te.ty.data=true)(K:tk.ty.Dc=true->ZD P ti.Lf tk.ty)
    (h:bf σ.Ag tk te (σ.BP m) (σ.BP x) some=some e):KO P σ o e:=by
 unfold bf at h;split at h
 ·rename_i k hm;split at h
  ·rename_i kt u es hb;split at h
   ·rename_i key hx;split at h
    ·rename_i hc;injection h with h;subst h;obtain⟨hkt,tZ,QL,hu⟩:=hc;subst hkt;refine⟨by simp[Ar],λh=>(by cases h),λa w g BG next Q hn=>?_⟩
     have H:=BG.heap;have oK:=AF BG m;rw[hm]at oK;obtain⟨hk,b,KP,qg⟩:=X2 oK;obtain⟨Ng,b',FK,CL,ha,BW,hh,NT,YD⟩:=H.Js k _ hb;rw[KP]at ha;injection ha with ha;injection ha with ha;subst ha;have cQ:=YL H QL hx (AF BG x);obtain⟨v,hr,VH⟩:=gN (ht.mp cS) C9 tZ hd (K QL) hh YD key false;have C5:(execOp a.eval o).run P w=.ok (.value v) w:=by
      simp only[AwX,Axo]at hr;simp[execOp,ho,qg,cQ,hr]
     unfold Oper.wp;rw[C5];obtain ⟨J,ad,cap,hv,LN,Qj⟩:∃(J:Nat) (ad:Ay0 Addr) (cap:Nat),v=.slice ad (Cx tk.ty (.sl u) es key).length cap/\Ht w g.own k (.sl u) [J] (Cx tk.ty (.sl u) es key) [.slice ad (Cx tk.ty (.sl u) es key).length cap] /\
         ∀(i:Nat) (y:tk.ty.V×(Ty.sl u).V),es[i]?=some y->y.1=key\/i≠J:=by
      rcases VH with ⟨j,y,mm,h1,h2,h3,h4,h5,h6⟩|⟨h1,h2⟩
      ·rcases h6 with h6 |⟨cs,h6,h7⟩
       ·cases h6
       ·have h6':Ht w g.own k (.sl u) [j] y.2 cs:=h6;obtain⟨ad,cap,e1,h8⟩:=h6;subst e1;have hv:[Value.slice ad y.2.length cap]=[v]:=h7;injection hv with hv _;refine⟨j,ad,cap,by rw[h5];exact hv.symm,by rw[h5];exact h6',λi z hz=>?_⟩;by_cases hi:i=j
        ·subst hi;rw[h1]at hz;injection hz with hz;subst hz;exact .inl h2
        ·exact .inr hi
      ·have hv:[Value.slice none 0 0]=[v]:=h2;injection hv with hv _;refine⟨es.length,none,0,by rw[h1];exact hv.symm,by rw[h1];exact⟨none,0,rfl,.inl ⟨rfl,rfl⟩⟩,λi z hz=>.inr ?_⟩;have:=AP hz;omega
     let ys:=Cx tk.ty (.sl u) es key
     let i1:BI:=⟨ad,ys.length,cap,u.size⟩
     let n:=σ.Ag.length
     let g1:=g.Ym n k [J] i1
     have st:Step [k] n w g w g1:=Zn;have QK:g1.AK n=i1:=by simp[g1,G.Ym]
     have ZS:k≠n:=by simp only[n];omega
     have aT:((A0 [k] σ.Ag).set k (Blk.map .Ao tk.ty (.sl u) es (some key))++[Blk.row 0 .Ao u ys]).length=n+1:=by simp[Ar,n]
     refine hn v w g1 ?_ ?_ st
     ·refine H.U5 st (λb hb=>by simp[g1,G.Ym,H.Bz b hb]) (by rw[aT];exact AwK _) λj y hj=>?_;rw[Awz]at hj;split at hj
      ·rcases N0 hj with ⟨ZG,rfl⟩|⟨RY,hj⟩
       ·rw[ZG];have Nu:g1.AK k=g.AK k:=by simp[g1,G.Ym,ZS]
        refine .inr (.inr ⟨λj hj=>(by cases hj),b,FK,CL,by rw[Nu];exact KP,Ro BW (λhc=>by have:=hc.2;simp at this),hh,NT,QN.mk YD.len λi z mm hz hmz=>?_⟩);obtain⟨m',h1,h2,h3⟩:=YD.get hz;rw[hmz]at h1;injection h1 with h1;subst h1;refine⟨h2,?_⟩;rcases Qj i z hz with h |h
        ·exact .inl (by rw[h])
        ·rcases h3 with h3 |⟨cs,h3,h4⟩
         ·cases h3
         ·refine .inr ⟨cs,?_,h4⟩;rw[AwF]at h3⊢;exact Ht.mono (λb q hb=>⟨Ro hb λhc=>by
           obtain⟨s,hs⟩:=hc.2;have:=List.append_inj_right' hs rfl;simp at this;exact h this.symm,rfl⟩) h3
       ·obtain⟨y,hy,rfl⟩:=CF hj;exact .inr (.inl ⟨by simpa using RY,y,hy,rfl⟩)
      ·rename_i jV;simp only[Awi,Ar]at hj jV;have aR:j-σ.Ag.length=0:=by
        rcases Awx (j-σ.Ag.length)with h |h
        ·exact h
        ·rw[AwN (by simp;omega)]at hj;cases hj
       rw[aR]at hj;obtain rfl:j=n:=by simp only[n];omega
       simp only[List.getElem?_cons_zero,Awb]at hj;subst hj;refine .inr (.inr ⟨λj hj=>(by cases hj),by rw[QK],by rw[QK],AxG hu,?_⟩);rw[QK];obtain⟨jd,N5,e3,LN⟩:=LN;injection e3 with e3 _;injection e3 with e3 _ e4;subst e3;subst e4;refine LN.imp id λ⟨b,el,Bh,ds,q1,q2,q3,q4,q5,q6,q7,q8⟩=>⟨b,Bh,ds,q1,TC (q:=[]) (by simpa using q2),⟨el,.inl rfl,q3⟩,q4,q5,q6,q7,?_⟩;exact q8.mono λi x c r=>r.mono λb q hb=>⟨TC (by simpa using hb),rfl⟩
     ·rw[aT,hv];exact A9 (cs:=[_]) rfl ⟨AwP _,by rw[QK]⟩ rfl
    ·cases h
   ·cases h
  ·cases h
 ·cases h
theorem uf{w:World}{g:G}{Bg:AyZ Nat}{b k:Nat}{FK:Array MapEntry}{CL:Nat}{ob:Obj}(hh:w.heap[b]?=some (.map FK CL))(ho:g.own b=.Bs k [])(hk:k∈Bg):∀q,q<w.heap.size->(∀k p,g.own q=.Bs k p->k∉Bg)->({w with heap:=w.heap.setIfInBounds b ob}:World).heap[q]?=w.heap[q]?:=by
 intro q _ hq;exact Axx (λe=>by subst e;exact hq k [] ho hk)
theorem AdQ{P:Program}{w:World}{g:G}{bs:AyZ Blk}(H:A1 w g bs){t:TypeId}{am ax av:AV}{mv xv vv:Value}(s7:BF w g bs.length am mv)(hAx:BF w g bs.length ax xv)(hAv:BF w g bs.length av vv){ti tk te:TI}(ht:Dy P t ti)(cS:ti.Lf≠0)(K:tk.ty.Dc=true->ZD P ti.Lf tk.ty){e:F1}
    (h:V5 bs tk te am ax av some=some e):e.Bg≠[]/\e.Ag.length=bs.length/\e.val=.un 0/\∃w' g',(Instr.mapUpdate t mv xv vv).run P w=.ok () w'/\A1 w' g' e.Ag/\Step e.Bg bs.length w g w' g':=by
 unfold V5 at h;split at h
 ·rename_i k;split at h
  ·rename_i md kt vt es st0 hb;split at h
   ·rename_i key y m' rs hx Uf;split at h
    ·rename_i hc;obtain⟨hkt,tZ,QL,Mn,hrk⟩:=hc;subst hkt;have h':e=⟨.un 0,(Blk.Eu (A0 (k::rs) bs) rs).set k (.map m' tk.ty vt (Dv tk.ty vt es key y) none),k::rs⟩/\(st0=none\/st0=some key):=by
      cases st0 with
      |none=>injection h with h;exact⟨h.symm,.inl rfl⟩
      |some k0 =>
       simp only at h;cases hq:Bq tk.ty k0 key with
       |false=>rw[hq]at h;cases h
       |true =>
        rw[hq,Awp]at h;injection h with h;exact⟨h.symm,.inr (by rw[(K QL).eq _ _ hq])⟩
     obtain⟨rfl,gB⟩:=h';refine⟨by simp,by simp[AQ,Ar],rfl,?_⟩;have oK:=s7;obtain⟨hk,b,KP,qg⟩:=X2 oK;obtain⟨Ng,b',FK,CL,ha,BW,hh,NT,YD⟩:=H.Js k _ hb;rw[KP]at ha;injection ha with ha;injection ha with ha;subst ha;have cQ:=YL H QL hx hAx;obtain⟨hy,yJ,AqO,AqL⟩:=Mc Uf;obtain⟨SU,Nv⟩:=QH hy;obtain⟨cv,Wd,ua⟩:=BD SU Nv hAv;rw[UV hy]at ua;obtain⟨UL,ZR⟩:=V4 Uf;have RZ:=Ra Mn;have jW:k∉rs:=by simpa using hrk
     have Cw:b<w.heap.size:=Pz H (by rw[BW];simp);obtain ⟨J,fa,Wq,C5,tm⟩:∃(J:Nat) (fa:Array MapEntry) (Wq:Nat),(Instr.mapUpdate t mv xv vv).run P w=.ok () {w with heap:=w.heap.setIfInBounds b (.map fa Wq)} /\
         ((((Dv tk.ty vt es key y).map (·.1)).Nodup/\Wq=fa.size)/\fa.toList.length=(Dv tk.ty vt es key y).length/\∀(i:Nat) (z:tk.ty.V×vt.V) (mm:MapEntry),(Dv tk.ty vt es key y)[i]?=some z->fa.toList[i]?=some mm ->
          (i=J/\z=(key,y)/\(mm.key=DU tk.ty key/\mm.born=i)/\mm.val=vv)\/(i≠J/\es[i]?=some z/\FK.toList[i]?=some mm/\st0≠some z.1)):=by
      have hu:=ht.mp cS;have YG:∀z:tk.ty.V,Bq tk.ty key z=false->st0≠some z:=λz hz e=>by
       rcases gB with h |h
       ·rw[h]at e;cases e
       ·rw[h]at e;injection e with e;subst e;rw[Ru QL]at hz;cases hz
      rcases VB (K QL) YD key with ⟨j,z,mm,h1,h2,h3,h4,h5,h6,h7,⟨h8,h8b⟩,hf⟩|⟨h1,h2,h3,hf⟩
      ·refine⟨j,FK.modify j λe=>{e with key:=DU tk.ty key,val:=vv},CL,?_,?_⟩
       ·rw[qg,cQ];simp[Instr.mapUpdate,underlying,hu,MapKept.run_getObj_map hh,(K QL).check,hf,h3,h8,(K QL).stays,MapKept.run_setObj_map _ hh]
       ·rw[h6 y];have hl:FK.toList.length=es.length:=YD.len;refine⟨⟨by
         rw[List.map_set];have:(es.map (·.1)).set j key=es.map (·.1):=by
          have hg:(es.map (·.1))[j]?=some key:=by rw[AwC,h1,<-h2];rfl
          apply Axi;intro i;rw[Awy];split
          ·rename_i e;subst e;rw[Awr (AP hg),hg]
          ·rfl
         rw[this];exact NT.1,by simp[NT.2]⟩,by simpa using hl,λi z' m2 hz P6=>?_⟩
        rw[Awn,Axu]at P6;rw[Awy]at hz;by_cases yD:j=i
        ·subst yD;have WA:=AP h1;simp only[AwS,WA]at hz;injection hz with hz;simp only[AwS,h3,Option.map_some,Awb]at P6;subst P6;exact .inl ⟨rfl,hz.symm,⟨rfl,h8b⟩,rfl⟩
        ·simp only[Aws yD]at hz P6;refine .inr ⟨λe=>yD e.symm,hz,by rw[Awn];exact P6,?_⟩;intro e;rcases gB with h |h
         ·rw[h]at e;cases e
         ·rw[h]at e;injection e with e;have g1:(es.map (·.1))[j]?=some key:=by rw[AwC,h1,<-h2];rfl
          have g2:(es.map (·.1))[i]?=some key:=by rw[AwC,hz,e];rfl
          exact yD ((List.getElem?_inj (AP g1) NT.1).1 (g1.trans g2.symm))
      ·refine⟨es.length,FK.push {key:=DU tk.ty key,val:=vv,born:=CL},CL+1,?_,?_⟩
       ·rw[qg,cQ];simp[Instr.mapUpdate,underlying,hu,MapKept.run_getObj_map hh,(K QL).check,hf,MapKept.run_setObj_map _ hh]
       ·rw[h3 y];have hl:FK.toList.length=es.length:=YD.len;refine⟨⟨by
         rw[AwY,List.nodup_append];refine⟨NT.1,by simp,λa ha b hb=>?_⟩;simp at hb;subst hb
         rintro rfl
         obtain⟨z,hz,rfl⟩:=List.mem_map.1 ha;obtain⟨i,hi⟩:=List.getElem?_of_mem hz;have:=h1 i z hi;rw[Ru QL]at this;exact Bool.noConfusion this,by simp[NT.2]⟩,by simpa using hl,λi z' m2 hz P6=>?_⟩
        rw[Array.toList_push]at P6;by_cases hi:i<es.length
        ·rw[Aww hi]at hz;rw[Aww (by rw[hl];exact hi)]at P6;exact .inr ⟨by omega,hz,P6,YG _ (h1 i z' hz)⟩
        ·have wP:=AP hz;rw[Awd,Awt]at wP;obtain rfl:i=es.length:=by omega
         simp at hz;rw[<-hl]at P6;simp at P6;subst P6;subst hz;exact .inl ⟨rfl,rfl,⟨rfl,by show CL=es.length;rw[NT.2,<-hl];simp⟩,rfl⟩
     obtain⟨AqN,mf,tm⟩:=tm
     let w':World:={w with heap:=w.heap.setIfInBounds b (.map fa Wq)}
     let M:=Ia av [J]
     have jS:M.map (·.1)=rs:=by rw[yJ];exact EN _ _
     let f:=Ri md k M
     let g':=g.P7 f none bs.length ⟨none,0,0,0⟩
     have gw:∀b' r,g.own b'=.Bs k r->g'.own b'=.Bs k r:=λb' r h=>by
      have:=Gv (f:=f) (ob:=none) (n:=bs.length) (i:=⟨none,0,0,0⟩) (by simp) h;rw[this];exact LU (by rw[jS];exact jW)
     have J9:w'.heap.size=w.heap.size:=by simp[w']
     have st:Step (k::rs) bs.length w g w' g':=Step.P7 H.Bz rfl rfl rfl (by rw[J9];exact Awf _) (uf hh BW (by simp)) (λq h=>by cases h) (Awf _) λj r _ hm =>
      LU (by rw[jS];exact λh=>hm (AwB _ h))
     have Adf:∀b',b'≠b->w'.heap[b']?=w.heap[b']?:=λb' h=>Axx (Ne.symm h);have tC:∀b' j r,g.own b'=.Bs j r->j≠k->w'.heap[b']?=w.heap[b']?:=λb' j r h hj=>Adf b' λe=>by subst e;rw[BW]at h;injection h with h;exact hj h.symm
     have tE:∀b' q,g.own b'=.Bs k q->q≠[]->w'.heap[b']?=w.heap[b']?:=λb' q h hq=>Adf b' λe=>by subst e;rw[BW]at h;injection h with _ h;exact hq h.symm
     have gu:∀b',g.own b'=.GH->w'.heap[b']?=w.heap[b']?:=λb' h=>Adf b' λe=>by subst e;rw[BW]at h;cases h
     have hon:∀(i':Nat) (x:vt.V) (c:AyZ Value),OV w g.own k md vt i' x c->OV w' g'.own k m' vt i' x c:=by
      intro i' x c RX;refine RX.on ?_;rcases AqL with ⟨rfl,rfl,_⟩|⟨ks,rfl,rfl⟩
      ·exact λb' q h=>⟨gw b' _ h,tE b' _ h (by simp)⟩
      ·intro b' h;rcases h with h |⟨j,hj,r,h⟩
       ·exact⟨.inl (Qs (by simp) h),gu b' h⟩
       ·have gj:=UL j hj;have ZG:=RZ j gj;exact⟨.inr ⟨j,gj,r,by
         have:=Gv (f:=f) (ob:=none) (n:=bs.length) (i:=⟨none,0,0,0⟩) (by simp) h;rw[this];exact LU (by rw[jS];exact λh=>ZG (AwB _ h))⟩,tC b' j r h λe=>ZG (by simp[e])⟩
     have UK:InR w' g'.own k m' vt [J] y cv:=by
      refine dY H Uf Wd (M:=M) (λjq hj=>VM (by rw[EN];exact AqO) hj) (λ_ h=>h) (λj hj=>Pl (by rw[jS];exact λh=>RZ j hj (AwB _ h))) ZR
       (λb' j r h _=>Gv (by simp) h) (λb' h=>Qs (by simp) h) λb' h=>?_
      rcases h with h |⟨j,r,h,hj⟩
      ·exact gu b' h
      ·refine tC b' j r h λe=>?_;subst e;rcases hj with hj |hj
       ·rw[jS]at hj;exact jW hj
       ·exact RZ j hj (by simp)
     have AnZ:OV w' g'.own k m' vt J y cv:=by
      cases m' with
      |Ao=>exact UK
      |sh ks=>exact UK
     refine⟨w',g',C5,H.U5 st (J8 H.Bz (by rw[J9];exact Awf _) (λq h=>by cases h)) (by simp[AQ,Ar]) λj z hj=>?_,st⟩;rcases N0 hj with ⟨ZG,rfl⟩|⟨RY,hj⟩
     ·rw[ZG];have Nu:g'.AK k=g.AK k:=st.AK k hk;refine .inr (.inr ⟨by simpa [AQ,Ar]using dZ H Uf Wd Ng,b,fa,Wq,by rw[Nu];exact KP,gw b [] BW,by simp[w',Cw],AqN,QN.mk mf λi z mm hz hmz=>?_⟩);rw[AwF];rcases tm i z mm hz hmz with ⟨rfl,rfl,h3,h4⟩|⟨h1,h2,h3,h4⟩
      ·exact⟨h3,.inr ⟨cv,AnZ,by rw[h4];exact ua⟩⟩
      ·obtain⟨m2,h5,h6,h7⟩:=YD.get h2;rw[h3]at h5;injection h5 with h5;subst h5;rw[AwF]at h6;refine⟨h6,?_⟩;rcases h7 with h7 |⟨cs,h7,h8⟩
       ·exact(h4 h7).elim
       ·rw[AwF]at h7;exact .inr ⟨cs,hon _ _ _ h7,h8⟩
     ·rcases Ha hj with h |⟨cP,h⟩
      ·exact .inl h
      ·obtain⟨y',QB,rfl⟩:=CF h;exact .inr (.inl ⟨by simp only[Axm,not_or];exact⟨RY,cP⟩,y',QB,rfl⟩)
    ·cases h
   ·cases h
  ·cases h
 ·cases h
theorem Zv{bs:AyZ Blk}{tk te:TI}{am ax av:AV}{e:F1}(h:V5 bs tk te am ax av some=some e):e.Bg≠[]/\e.Ag.length=bs.length:=by
 unfold V5 at h;split at h
 ·split at h
  ·split at h
   ·split at h
    ·split at h
     ·injection h with h;subst h;exact⟨by simp,by simp[AQ,Ar]⟩
     ·rename_i y0 _;generalize Bq _ y0 _=q at h;cases q with
      |false=>cases h
      |true=>injection h with h;subst h;exact⟨by simp,by simp[AQ,Ar]⟩
    ·cases h
   ·cases h
  ·cases h
 ·cases h
theorem mW{t:TypeId}{m x v:Operand}(ho:o.op=.mapUpdate t m x v\/o.op=.insert t m x v){ti tk te:TI}(ht:Dy P t ti)(cS:ti.Lf≠0)(K:tk.ty.Dc=true->ZD P ti.Lf tk.ty)
    (h:V5 σ.Ag tk te (σ.BP m) (σ.BP x) (σ.BP v) some=some e):KO P σ o e:=by
 obtain⟨s1,s2⟩:=Zv h;refine⟨by rw[s2];exact Awf _,λh=>(s1 h).elim,λa w g BG next Q hn=>?_⟩
 ·obtain⟨h1,h2,h3,w',g',C5,hH,st⟩:=AdQ BG.heap (AF BG m) (AF BG x) (AF BG v) ht cS K h;have Ud:(execOp a.eval o).run P w=.ok .skip w':=by
   rcases ho with ho |ho<;>simp[execOp,ho,C5]
  unfold Oper.wp;rw[Ud];exact hn undef w' g' hH (by rw[h3];exact M4) st
theorem Abg{w:World}{g:G}{bs:AyZ Blk}(H:A1 w g bs){k:Nat}{kt u:Ty}{es:AyZ (kt.V×(Ty.sl u).V)}(hb:bs[k]?=some (.map .Ao kt (.sl u) es none))(hu:u.size≠0){J:Nat}{key:kt.V}{ys:(Ty.sl u).V}(hJ:es[J]?=some (key,ys)){b:Nat}(KP:(g.AK k).a=some ⟨b,0,none⟩)
    {FK:Array MapEntry} {CL:Nat} (hh:w.heap[b]?=some (.map FK CL)) {mm:MapEntry} (hm:FK[J]?=some mm) :
    mm.born=J/\CL=FK.size/\∃g1,A1 w g1 ((A0 [k] bs).set k (.map .Ao kt (.sl u) es (some key))++[.row 0 .Ao u ys])/\Step [k] bs.length w g w g1/\BF w g1 (bs.length+1) (.AA bs.length) mm.val/\g1.AK k=g.AK k:=by
 have hk:=AP hb;obtain⟨Ng,b',fa,Wq,ha,BW,hh',NT,YD⟩:=H.Js k _ hb;rw[KP]at ha;injection ha with ha;injection ha with ha;subst ha;rw[hh]at hh';injection hh' with hh';injection hh' with e1 e2;subst e1;subst e2;obtain⟨m',q1,⟨_,q2⟩,q3⟩:=YD.get hJ;rw[Awn,hm]at q1;injection q1 with q1;subst q1;rw[AwF]at q2 q3;refine⟨q2,NT.2,?_⟩;obtain⟨ad,cap,hv,LN⟩:∃(ad:Ay0 Addr) (cap:Nat),mm.val=.slice ad ys.length cap/\Ht w g.own k (.sl u) [J] ys [.slice ad ys.length cap]:=by
  rcases q3 with h6 |⟨cs,h6,h7⟩
  ·cases h6
  ·have h6':Ht w g.own k (.sl u) [J] ys cs:=h6;obtain⟨ad,cap,e1,h8⟩:=h6;subst e1;have hv:[Value.slice ad ys.length cap]=[mm.val]:=h7;injection hv with hv _;exact⟨ad,cap,hv.symm,h6'⟩
 let i1:BI:=⟨ad,ys.length,cap,u.size⟩
 let n:=bs.length
 let g1:=g.Ym n k [J] i1
 have st:Step [k] n w g w g1:=Zn;have QK:g1.AK n=i1:=by simp[g1,G.Ym]
 have ZS:k≠n:=by simp only[n];omega
 have Nu:g1.AK k=g.AK k:=by simp[g1,G.Ym,ZS]
 have aT:((A0 [k] bs).set k (Blk.map .Ao kt (.sl u) es (some key))++[Blk.row 0 .Ao u ys]).length=n+1:=by simp[Ar,n]
 refine⟨g1,?_,st,?_,Nu⟩
 ·refine H.U5 st (λb hb=>by simp[g1,G.Ym,H.Bz b hb]) (by rw[aT];exact AwK _) λj y hj=>?_;rw[Awz]at hj;split at hj
  ·rcases N0 hj with ⟨ZG,rfl⟩|⟨RY,hj⟩
   ·rw[ZG];refine .inr (.inr ⟨λj hj=>(by cases hj),b,FK,CL,by rw[Nu];exact KP,Ro BW (λhc=>by have:=hc.2;simp at this),hh,NT,QN.mk YD.len λi z mm hz hmz=>?_⟩);obtain⟨m',h1,h2,h3⟩:=YD.get hz;rw[hmz]at h1;injection h1 with h1;subst h1;refine⟨h2,?_⟩;by_cases hi:i=J
    ·subst hi;rw[hJ]at hz;injection hz with hz;subst hz;exact .inl rfl
    ·rcases h3 with h3 |⟨cs,h3,h4⟩
     ·cases h3
     ·refine .inr ⟨cs,?_,h4⟩;rw[AwF]at h3⊢;exact Ht.mono (λb q hb=>⟨Ro hb λhc=>by
       obtain⟨s,hs⟩:=hc.2;have:=List.append_inj_right' hs rfl;simp at this;exact hi this.symm,rfl⟩) h3
   ·obtain⟨y,hy,rfl⟩:=CF hj;exact .inr (.inl ⟨by simpa using RY,y,hy,rfl⟩)
  ·rename_i jV;simp only[Awi,Ar]at hj jV;have aR:j-bs.length=0:=by
    rcases Awx (j-bs.length)with h |h
    ·exact h
    ·rw[AwN (by simp;omega)]at hj;cases hj
   rw[aR]at hj;obtain rfl:j=n:=by simp only[n];omega
   simp only[List.getElem?_cons_zero,Awb]at hj;subst hj;refine .inr (.inr ⟨λj hj=>(by cases hj),by rw[QK],by rw[QK],AxG hu,?_⟩);rw[QK];obtain⟨jd,N5,e3,LN⟩:=LN;injection e3 with e3 _;injection e3 with e3 _ e4;subst e3;subst e4;refine LN.imp id λ⟨b,el,Bh,ds,q1,q2,q3,q4,q5,q6,q7,q8⟩=>⟨b,Bh,ds,q1,TC (q:=[]) (by simpa using q2),⟨el,.inl rfl,q3⟩,q4,q5,q6,q7,?_⟩;exact q8.mono λi x c r=>r.mono λb q hb=>⟨TC (by simpa using hb),rfl⟩
 ·rw[hv];exact A9 (cs:=[_]) rfl ⟨AwP _,by rw[QK]⟩ rfl
end
end Go.Va
namespace Go.Va
theorem J3(RU:Nat->Bool):∀a:AV,(a.drop RU).drop RU=a.drop RU
 |.Aw ks t x=>by
  simp only[AV.drop];split
  ·rfl
  ·rename_i h;simp only[AV.drop,Aws h]
 |.D7 ks t x=>by
  simp only[AV.drop];split
  ·rfl
  ·rename_i h;simp only[AV.drop,Aws h]
 |.O1 k i p o e=>by
  simp only[AV.drop];split
  ·rfl
  ·rename_i h;simp only[AV.drop,Aws h]
 |.QF k i p o j u=>by
  simp only[AV.drop];split
  ·rfl
  ·rename_i h;simp only[AV.drop,Aws h]
 |.pr a b=>by simp only[AV.drop,J3 RU a,J3 RU b]
 |.fn f c=>by simp only[AV.drop,J3 RU c]
 |.cons a b=>by simp only[AV.drop,J3 RU a,J3 RU b]
 |.zs=>rfl
 |.AA _=>rfl
 |.ptr _ _ _ _=>rfl
 |.JH=>rfl
 |.nil=>rfl
 |.mp _=>rfl
 |.un _=>rfl
theorem ZK(RU:Nat->Bool):∀b:Blk,(b.drop RU).drop RU=b.drop RU
 |.box a=>by simp only[Blk.drop,J3]
 |.row e m t xs=>by cases h:m.BX.any RU<;>simp[Blk.drop,h]
 |.map m kt vt es st=>by cases h:m.BX.any RU<;>simp[Blk.drop,h]
 |.Nh _ _ _ _ _=>rfl
 |.tail _ _ _=>rfl
 |.Be=>rfl
theorem ZL{bs:AyZ Blk}{k:Nat}{X Y:Blk}:(A0 [k] ((Blk.Eu (A0 [k] bs) []).set k X)).set k Y=(A0 [k] bs).set k Y:=by
 apply Axi;intro i;by_cases h:i=k
 ·subst h;simp only[Awy];simp[Ar,AQ]
 ·have h' :=Ne.symm h;rw[AxZ h',AxZ h'];unfold A0;rw[AwC,AxZ h'];unfold Blk.Eu;simp;cases bs[i]? with
  |none=>simp
  |some y=>simp[ZK]
section
variable {kt vt:Ty}
theorem dq{k:kt.V}:∀{es:AyZ (kt.V×vt.V)} {j:Nat} {x:kt.V×vt.V},es[j]?=some x->Bq kt k x.1=true->(∀i,i<j->∀y,es[i]?=some y->Bq kt k y.1=false)->Sk kt vt es k=j
 |y::r,0,x,h,he,_=>by
  simp at h;subst h;unfold Sk;rw[he];rfl
 |y::r,j+1,x,h,he,hn=>by
  unfold Sk;rw[hn 0 (by omega) y rfl,Awo,dq  (j:=j) (by grind) he λi hi z hz=>hn (i+1) (by omega) z (by grind)]
 |[],_,_,h,_,_=>by grind
theorem gQ{k:kt.V}:∀{es:AyZ (kt.V×vt.V)},(∀(i:Nat) y,es[i]?=some y->Bq kt k y.1=false)->Sk kt vt es k=es.length
 |[],_=>rfl
 |y::r,h=>by
  unfold Sk;rw[h 0 y rfl,gQ  λi z hz=>h (i+1) z (by grind)];rfl
theorem ik{FK:Array MapEntry}{j:Nat}{m:MapEntry}{v:Value}(h:FK[j]?=some m)(hk:m.key=v):FK.modify j (λe=>{e with key:=v})=FK:=by
 apply Array.ext_getElem?;intro i;rw[Axu];split
 ·rename_i e;subst e;rw[h];simp[<-hk]
 ·rfl
theorem pD{w:World}{b:Nat}{o:Obj}(h:w.heap[b]?=some o):({w with heap:=w.heap.setIfInBounds b o}:World)=w:=by
 have:w.heap.setIfInBounds b o=w.heap:=by
  grind
 rw[this]
theorem Ap1{P:Program}{w:World}{g:G}{bs:AyZ Blk}(H:A1 w g bs){k:Nat}{u:Ty}{tk:TI}{es:AyZ (tk.ty.V×(Ty.sl u).V)}(hb:bs[k]?=some (.map .Ao tk.ty (.sl u) es none)){ax:AV}{key:tk.ty.V}(hx:rd bs tk.ty ax=some key){mv xv:Value}(s7:BF w g bs.length (.mp k) mv)(hAx:BF w g bs.length ax xv)
    {t:TypeId} {ti te:TI} (ht:Dy P t ti) (cS:ti.Lf≠0) (C9:Dy P ti.elem te) (tZ:.sl u=te.ty) (QL:tk.ty.Dc=true) (hu:u.size≠0) (K:tk.ty.Dc=true->ZD P ti.Lf tk.ty) :
    ∃v w' g',(Instr.mapEntry t mv xv).run P w=.ok (.tuple #[v,.int .i64 (Sk tk.ty (.sl u) es key:Nat)]) w' /\
     A1 w' g' ((A0 [k] bs).set k (.map .Ao tk.ty (.sl u) (Dv tk.ty (.sl u) es key (Cx tk.ty (.sl u) es key)) (some key))++[.row 0 .Ao u (Cx tk.ty (.sl u) es key)])/\BF w' g' (bs.length+1) (.AA bs.length) v/\Step [k] bs.length w g w' g':=by
 obtain⟨hk,b,KP,qg⟩:=X2 s7;obtain⟨Ng,b',FK,CL,ha,BW,hh,NT,YD⟩:=H.Js k _ hb;rw[KP]at ha;injection ha with ha;injection ha with ha;subst ha;have cQ:=YL H QL hx hAx;have Nv:=ht.mp cS;have hl:FK.toList.length=es.length:=YD.len;rcases VB (K QL) YD key with ⟨j,x,m,h1,h2,h3,h4,h5,h6,h7,⟨h8,h8b⟩,hf⟩|⟨h1,h2,h3,hf⟩
 ·have hJ:es[j]?=some (key,x.2):=by rw[h1,<-h2]
  obtain⟨fZ,Aul,g1,H1,st,l9,_⟩:=Abg H hb hu hJ KP hh h3;have hg:Cx tk.ty (.sl u) es key=x.2:=by unfold Cx;rw[h5];rfl
  have hp:Dv tk.ty (.sl u) es key x.2=es:=by
   rw[h6];apply Axi;intro i;rw[Awy];split
   ·rename_i e;subst e;rw[Awr (AP hJ),hJ]
   ·rfl
  have gq:Sk tk.ty (.sl u) es key=j:=dq hJ (Ru QL) h4;refine⟨m.val,w,g1,?_,by rw[hg,hp];exact H1,l9,st⟩;rw[qg,cQ];have hw:=pD (o:=.map (FK.modify j λe=>{e with key:=DU tk.ty key}) CL) (by rw[ik h3 h8];exact hh);simp[Instr.mapEntry,underlying,Nv,MapKept.run_getObj_map hh,(K QL).check,hf,h3,h8,(K QL).stays,MapKept.run_setObj_map _ hh,hw,gq,fZ,goInt]
 ·obtain⟨z,hz,hzv⟩:=iV C9 w;rw[<-tZ]at hzv;have ub:z=.slice none 0 0:=by
   have:[Value.slice none 0 0]=[z]:=hzv;injection this with h _;exact h.symm
  subst ub;have hg:Cx tk.ty (.sl u) es key=[]:=by unfold Cx;rw[h2];rfl
  have gq:Sk tk.ty (.sl u) es key=es.length:=gQ h1;have hA0:BF w g bs.length .zs (.slice none 0 0):=A9 (cs:=[_]) rfl ⟨none,rfl⟩ rfl;have Are:V5 bs tk te (.mp k) ax .zs some=some ⟨.un 0,(Blk.Eu (A0 [k] bs) []).set k (.map .Ao tk.ty (.sl u) (Dv tk.ty (.sl u) es key []) none),[k]⟩:=by
   have Uf:take bs .Ao (.sl u) .zs=some ([],.Ao,[]):=by simp[take,rd,AV.Ni,AV.SJ,nodup]
   unfold V5;simp only[hb,hx,Uf];rw[Awr ⟨trivial,tZ,QL,by rfl,by rfl⟩]
  obtain⟨_,_,_,w',g',C5,H',st'⟩:=AdQ H s7 hAx hA0 ht cS K Are;have hw:w'={w with heap:=w.heap.setIfInBounds b (.map (FK.push {key:=DU tk.ty key,val:=.slice none 0 0,born:=CL}) (CL+1))}:=by
   rw[qg,cQ]at C5;simp[Instr.mapUpdate,underlying,Nv,MapKept.run_getObj_map hh,(K QL).check,hf,MapKept.run_setObj_map _ hh]at C5;exact C5.symm
  have Cw:b<w.heap.size:=Pz H (by rw[BW];simp);have oG:((Blk.Eu (A0 [k] bs) []).set k (Blk.map .Ao tk.ty (.sl u) (Dv tk.ty (.sl u) es key []) none))[k]?=some (.map .Ao tk.ty (.sl u) (Dv tk.ty (.sl u) es key []) none):=by
   rw[List.getElem?_set_self (by simpa [AQ,Ar]using hk)]
  have hJ:(Dv tk.ty (.sl u) es key [])[es.length]?=some (key,[]):=by rw[h3];simp
  have Aqj:(g'.AK k).a=some ⟨b,0,none⟩:=by rw[st'.AK k hk];exact KP
  have hh':w'.heap[b]?=some (.map (FK.push {key:=DU tk.ty key,val:=.slice none 0 0,born:=CL}) (CL+1)):=by
   rw[hw];simp[Cw]
  have J9:FK.size=es.length:=by rw[<-hl];simp
  have hm:(FK.push {key:=DU tk.ty key,val:=.slice none 0 0,born:=CL})[es.length]?=some {key:=DU tk.ty key,val:=.slice none 0 0,born:=CL}:=by
   rw[<-J9];simp
  obtain⟨fZ,_,g1,H1,Nq,l9,_⟩:=Abg H' oG hu hJ Aqj hh' hm;have jh:((Blk.Eu (A0 [k] bs) []).set k (Blk.map .Ao tk.ty (.sl u) (Dv tk.ty (.sl u) es key []) none)).length=bs.length:=by simp[AQ,Ar]
  rw[jh]at l9 Nq;rw[ZL]at H1;have LS:=st'.trans Nq (Awf _);refine⟨.slice none 0 0,w',g1,?_,by rw[hg];exact H1,l9,⟨LS.os,LS.tape,LS.output,LS.size,LS.no,LS.GH,λb k' p h1 h2 h3=>LS.Bs b k' p h1 h2 (by simpa using h3),LS.AK⟩⟩;have fZ:CL=es.length:=fZ;rw[qg,cQ,hw];simp[Instr.mapEntry,underlying,Nv,MapKept.run_getObj_map hh,(K QL).check,hf,hz,MapKept.run_setObj_map _ hh,gq,fZ,goInt]
variable {P:Program} {σ:St} {o:Oper} {en:Fe} {e:F1}
theorem zw{t:TypeId}{m x:Operand}(ho:o.op=.mapEntry t m x){ti tk te:TI}(ht:Dy P t ti)(cS:ti.Lf≠0)(C9:Dy P ti.elem te)(K:tk.ty.Dc=true->ZD P ti.Lf tk.ty)
    (h:ou σ.Ag tk te (σ.BP m) (σ.BP x) some=some e):KO P σ o e:=by
 unfold ou at h;split at h
 ·rename_i k hm;split at h
  ·rename_i kt u es hb;split at h
   ·rename_i key hx;split at h
    ·rename_i hc;obtain⟨rfl,tZ,QL,hu⟩:=hc;injection h with h;subst h;refine⟨by simp[Ar],λh=>(by grind),λa w g BG next Q hn=>?_⟩
     have s7:=AF BG m;rw[hm]at s7;obtain⟨v,w',g',C5,hH,l9,st⟩:=Ap1 BG.heap hb hx s7 (AF BG x) ht cS C9 tZ QL hu K;have Ud:(execOp a.eval o).run P w=.ok (.value (.tuple #[v,.int .i64 (Sk _ _ es key)])) w':=by
      simp[execOp,ho,C5]
     unfold Oper.wp;rw[Ud];have U9:((A0 [k] σ.Ag).set k (Blk.map .Ao _ _ (Dv _ _ es key (Cx _ _ es key)) (some key))++[Blk.row 0 .Ao u (Cx _ _ es key)]).length=σ.Ag.length+1:=by simp[Ar]
     refine hn _ w' g' hH ?_ st;rw[U9];have hr:=(BF.iff  rfl).1 l9;exact⟨[v,.int .i64 _],rfl,v,[.int .i64 _],rfl,hr,_,[],rfl,.inr ⟨[.int .i64 _],⟨λ_ h=>(by grind),rfl⟩,rfl⟩,rfl⟩
    ·grind
   ·grind
  ·grind
 ·grind
theorem w8{w:World}{g:G}{n:Nat}:∀{kt:Ty} {x:kt.V},kt.Dc=true->BF w g n (.Aw [] kt x) (DU kt x):=by
 intro kt x hk;have key:∀cs,FX w (Al g.own []) kt x cs->BV kt.isAgg cs (DU kt x)->BF w g n (.Aw [] kt x) (DU kt x):=λcs h1 h2=>A9 (cs:=cs) rfl ⟨λ_ h=>(by cases h),h1⟩ h2
 match kt,x,hk with
 |.int q,x,_=>exact key [.int q x] rfl rfl
 |.str,x,_=>exact key [.string x] rfl rfl
 |.AH (.int q) (.AH (.int q') .unit),x,_=>exact key [.int q x.1,.int q' x.2.1] ⟨[_],[_],rfl,rfl,[_],[],rfl,rfl,rfl⟩ rfl
theorem vr{t:TypeId}{m j v:Operand}(ho:o.op=.entryStore t m j v){ti tk te:TI}(ht:Dy P t ti)(cS:ti.Lf≠0)(K:tk.ty.Dc=true->ZD P ti.Lf tk.ty)
    (h:ov σ.Ag tk te (σ.BP m) (σ.BP j) (σ.BP v) some=some e):KO P σ o e:=by
 unfold ov at h;split at h
 ·rename_i k hm;split at h
  ·rename_i md kt vt es key hb;split at h
   ·rename_i n hj;split at h
    ·rename_i hc;obtain⟨hkt,QL⟩:=hc;subst hkt;obtain⟨hn,hmh,h⟩:n=Int.ofNat (Sk tk.ty vt es key)/\WJ tk.ty vt es key=true/\V5 σ.Ag tk te (σ.BP m) (.Aw [] tk.ty key) (σ.BP v) some=some e:=by
      cases hq:QV tk.ty vt es key n with
      |false=>rw[hq]at h;cases h
      |true =>
       rw[hq,Awp]at h;simp only[QV,Awg,Axj]at hq;exact⟨hq.1,hq.2,h⟩
     obtain⟨s1,s2⟩:=Zv h;refine⟨by rw[s2];exact Awf _,λh=>(s1 h).elim,λa w g BG next Q hnx=>?_⟩
     have s7:=AF BG m;rw[hm]at s7 h;obtain⟨h1,h2,h3,w',g',C5,hH,st⟩:=AdQ BG.heap s7 (w8 QL) (AF BG v) ht cS K h;obtain⟨hk,b,KP,qg⟩:=X2 s7;obtain⟨Ng,b',FK,CL,ha,BW,hh,NT,YD⟩:=BG.heap.Js k _ hb;rw[KP]at ha;injection ha with ha;injection ha with ha;subst ha;have hjv:a.eval j=.int .i64 n:=YL (kt:=.int .i64) BG.heap rfl hj (AF BG j);have Nv:=ht.mp cS;have Ud:(execOp a.eval o).run P w=.ok .skip w':=by
      rcases VB (K QL) YD key with ⟨J,x,mm,h1',h2',h3',fU,h5',h6',h7',⟨h8,h8b⟩,hf⟩|⟨_,h2',_,_⟩
      ·have hJ:es[J]?=some (key,x.2):=by rw[h1',<-h2']
       have gq:Sk tk.ty vt es key=J:=dq hJ (Ru QL) fU;rw[gq]at hn;rw[qg]at C5;simp[Instr.mapUpdate,underlying,Nv,MapKept.run_getObj_map hh,(K QL).check,hf,h3',h8,(K QL).stays,MapKept.run_setObj_map _ hh]at C5;have hJl:J<FK.size:=by
        have:=AP (show FK.toList[J]?=some mm by rw[Awn];exact h3');simpa using this
       have Aqy:FK.findIdx? (λe=>(e.born:Int)==n)=some J:=by
        rw[Array.findIdx?_eq_some_iff_getElem];have hbn:∀i (h:i<FK.size),FK[i].born=i:=λi hi=>by
         have wP:i<es.length:=by rw[<-YD.len];simpa using hi
         obtain⟨m',q1,⟨_,q2⟩,_⟩:=YD.get (Axk wP);rw[Awn,Aw0 hi]at q1;injection q1 with q1;rw[q1,q2];omega
        refine⟨hJl,by rw[hbn,hn];simp,λi hi=>?_⟩;rw[hbn,hn];simp;omega
       have tB:FK.modify J (λe=>{e with val:=a.eval v})=FK.modify J (λe=>{e with key:=DU tk.ty key,val:=a.eval v}):=by
        apply Array.ext_getElem?;intro i;rw[Axu,Axu];split
        ·rename_i e;subst e;rw[h3'];simp[h8]
        ·rfl
       simp[execOp,ho,qg,hjv,Instr.entryStore,asInt,asIntOf,MapKept.run_getObj_map hh,Aqy,MapKept.run_setObj_map _ hh,tB,C5]
      ·simp[WJ,h2']at hmh
     unfold Oper.wp;rw[Ud];exact hnx undef w' g' hH (by rw[h3];exact M4) st
    ·cases h
   ·cases h
  ·cases h
 ·cases h
end
end Go.Va
namespace Go.Va
section
variable {P:Program} {σ:St} {o:Oper}
def kG:TypeDesc->Bool
 |.int _=>true
 |.bool=>true
 |.string=>true
 |_=>false
theorem Y4{t:TypeId}{d:TypeDesc}(hu:P.underlying t=some d)(hd:kG d=true){w:World}{cs:Array Value}{i:Nat}{v:Value}(h:cs[i]?=some v):(part t cs i).run P w=.ok v w:=by
 cases d<;>simp[kG]at hd<;>simp[part,isAgg,underlying,hu,h]
theorem lW(d:Nat)(w:World):∀(t:Ty) (p q:AyZ Value) (fs:AyZ Field) (u v:t.V) (n:Nat),p.length=n->q.length=n->QW P t n fs=true->(Op.eqFields (d+1) (p++H5 t u).toArray (q++H5 t v).toArray fs).run P w=.ok (Mk t u v) w
 |.unit,p,q,[],u,v,n,_,_,_=>by simp[Op.eqFields,Mk]
 |.AH a b,p,q,f::fs,u,v,n,hp,hq,h=>by
  simp only[QW,Awg,bne_iff_ne,Axj]at h;obtain⟨⟨⟨h1,h2⟩,h3⟩,h4⟩:=h;have key:∀(x y:Value) (r:Bool) (dd:TypeDesc),H5 a u.1=[x]->H5 a v.1=[y]->P.underlying f.type=some dd->kG dd=true ->
      (Op.equalIn (d+1) f.type x y).run P w=.ok r w->r=Mk a u.1 v.1->(Op.eqFields (d+1) (p++H5 (.AH a b) u).toArray (q++H5 (.AH a b) v).toArray (f::fs)).run P w=.ok (Mk (.AH a b) u v) w:=by
   intro x y r dd hx hy hu hd he hr;have ih:=lW d w b (p++[x]) (q++[y]) fs u.2 v.2 (n+1) (by simp[hp]) (by simp[hq]) h4;have ex:p++H5 (.AH a b) u=p++[x]++H5 b u.2:=by simp[H5,hx]
   have ey:q++H5 (.AH a b) v=q++[y]++H5 b v.2:=by simp[H5,hy]
   rw[ex,ey];have px:(part f.type (p++[x]++H5 b u.2).toArray n).run P w=.ok x w:=Y4 hu hd (by simp[<-hp]);have py:(part f.type (q++[y]++H5 b v.2).toArray n).run P w=.ok y w:=Y4 hu hd (by simp[<-hq]);simp only[Op.eqFields,h1,ne_eq,not_false_eq_true,AwS,Sem.run_bind,h2,px,py,Result.andThen_ok,he];subst hr;cases hq:Mk a u.1 v.1 with
   |false=>simp[Mk,hq]
   |true=>simp only[AwT,AwX,Axo];rw[ih];simp[Mk,hq]
  split at h3
  ·rename_i k k' hu;rw[Axj]at h3;subst h3;exact key _ _ _ _ rfl rfl hu rfl (W6 hu d w _ _) rfl
  ·rename_i hu;exact key _ _ _ _ rfl rfl hu rfl (by simp[Op.equalIn,underlying,hu];rfl) rfl
  ·rename_i hu;exact key _ _ _ _ rfl rfl hu rfl (by simp[Op.equalIn,underlying,hu]) iN.symm
  ·cases h3
 |.unit,_,_,_::_,_,_,_,_,_,h=>by simp[QW]at h
 |.AH _ _,_,_,[],_,_,_,_,_,h=>by simp[QW]at h
 |.int _,_,_,_,_,_,_,_,_,h=>by simp[QW]at h
 |.bool,_,_,_,_,_,_,_,_,h=>by simp[QW]at h
 |.str,_,_,_,_,_,_,_,_,h=>by simp[QW]at h
 |.sl _,_,_,_,_,_,_,_,_,h=>by simp[QW]at h
 |.O3 _,_,_,_,_,_,_,_,_,h=>by simp[QW]at h
theorem aJ:∀{t:Ty} {n:Nat} {fs:AyZ Field},QW P t n fs=true->t.Bu=true/\t.isAgg=true
 |.unit,_,[],_=>⟨rfl,rfl⟩
 |.AH a b,n,f::fs,h=>by
  simp only[QW,Awg]at h;obtain⟨⟨_,h3⟩,h4⟩:=h;have:=(aJ h4).1;refine⟨?_,rfl⟩;split at h3<;>first |(cases h3;done)|simp[Ty.Bu,this]
 |.unit,_,_::_,h=>by simp[QW]at h
 |.AH _ _,_,[],h=>by simp[QW]at h
 |.int _,_,_,h=>by simp[QW]at h
 |.bool,_,_,h=>by simp[QW]at h
 |.str,_,_,h=>by simp[QW]at h
 |.sl _,_,_,h=>by simp[QW]at h
 |.O3 _,_,_,h=>by simp[QW]at h
theorem zx{C6:lA}(ht:Xl P C6=true){op:BinOp}{t yt:TypeId}{x y:Operand}(ho:o.op=.binOp op t x y yt){z:AV}(h:eqS σ.Ag C6 op t (σ.BP x) (σ.BP y)=some z):KO P σ o ⟨z,σ.Ag,[]⟩ :=
 .GI <| IQ (s:=λρ=>do eqGuard op t x y (ρ x) (ρ y);binOp op t (ρ x) (ρ y)) (λρ=>by simp[execOp,ho]) λa w g BG=>by
  unfold eqS at h;split at h
  ·rename_i ti hti;split at h
   ·rename_i he;have hT:=Dy.of ht hti;have heq:=hT.eqs he;unfold sM at heq;split at heq
    ·rename_i fs hu;simp only[Awg,Axp]at heq;obtain⟨⟨h1,h2⟩,h3⟩:=heq;have hF:P.fieldsOf t=fs:=by simp[Program.fieldsOf,hu]
     obtain⟨AnB,fX⟩:=aJ h3;have get:∀(X:Operand) (u:ti.ty.V),rd σ.Ag ti.ty (σ.BP X)=some u->a.eval X=.agg (H5 ti.ty u).toArray:=λX u hr=>by
      obtain⟨q1,q2⟩:=QH hr;obtain⟨cs,Pj,hv⟩:=BD q1 q2 (AF BG X);rw[UV hr,fX]at hv;have:=(FX.Bu AnB).1 (MD BG.heap _ _ u cs hr Pj).1;subst this;exact hv
     have run:∀u v:ti.ty.V,(Op.equalIn 10000 t (.agg (H5 ti.ty u).toArray) (.agg (H5 ti.ty v).toArray)).run P w=.ok (Mk ti.ty u v) w:=λu v=>by
      rw[show(10000:Nat)=9999+1 from rfl,run_equalIn_struct w 9999 t _ _ (by rw[hF];exact hu) h1,hF];have:=lW (P:=P) 9998 w ti.ty [] [] fs.toList u v 0 rfl rfl h3;simpa using this
     split at h
     ·split at h
      ·rename_i u v hx hy;injection h with h;subst h;refine⟨.bool (Mk ti.ty u v),?_,VO _⟩;simp only[get x u hx,get y v hy,Sem.run_bind,run_eqGuard_agg w .eql t x y _ _ h2,Result.andThen_ok,run_eql_struct,run]
      ·cases h
     ·split at h
      ·rename_i u v hx hy;injection h with h;subst h;refine⟨.bool (!Mk ti.ty u v),?_,VO _⟩;simp only[get x u hx,get y v hy,Sem.run_bind,run_eqGuard_agg w .neq t x y _ _ h2,Result.andThen_ok,run_neq_struct,run]
      ·cases h
     ·cases h
    ·cases heq
   ·cases h
  ·cases h
end
end Go.Va
namespace Go.Va
structure EnvOk (P:Program) (en:Fe):Prop where
 C6:Xl P en.C6=true
 yu:∀g c,en.yu g=some c->Am P g c
theorem EnvOk.UR{P:Program}{en:Fe}(h:EnvOk P en):T1 en:=λg c hc=>(h.yu g c hc).UR
section
variable {P:Program} {σ:St} {o:Oper} {en:Fe} {e:F1}
theorem EnvOk.t(he:EnvOk P en){t:Nat}{ti:TI}(h:en.C6.get t=some ti):Dy P t ti:=Dy.of he.C6 h
theorem au{w:World}{g:G}{a:Act}(hs:Ip w g σ a):∀(l:AyZ Operand),CK w g σ.Ag.length (l.map σ.BP) (l.map a.eval)
 |[]=>trivial
 |x::l=>⟨AF hs x,au hs l⟩
theorem al{w:World}{g:G}{n:Nat}:∀{l k:AyZ AV} {xs ys:AyZ Value},CK w g n l xs->CK w g n k ys->CK w g n (l++k) (xs++ys)
 |[],_,[],_,_,h=>h
 |_::_,_,_::_,_,h1,h2=>⟨h1.1,al h1.2 h2⟩
 |[],_,_::_,_,h,_=>h.elim
 |_::_,_,[],_,h,_=>h.elim
theorem AaK{w:World}{g:G}{n:Nat}:∀{a:AV} {vs:AyZ Value},B9 w g n true a vs->CK w g n (lU a) vs
 |.cons a b,_,⟨v,r,e,h1,h2⟩=>by
  subst e;refine⟨?_,AaK h2⟩;have ht:a.Cz=false:=by
   rcases h1 with h |⟨cs,h,_⟩
   ·cases a<;>first |rfl |simp[AV.KT]at h
   ·exact QE h
  exact(BF.iff ht).2 h1
 |.nil,_,h=>by cases h;trivial
 |.O1 _ _ _ _ _,_,h=>h.elim
 |.QF _ _ _ _ _ _,_,h=>h.elim
 |.Aw _ _ _,_,h=>h.elim
 |.zs,_,h=>h.elim
 |.AA _,_,h=>h.elim
 |.mp _,_,h=>h.elim
 |.ptr _ _ _ _,_,h=>h.elim
 |.D7 _ _ _,_,h=>h.elim
 |.JH,_,h=>h.elim
 |.pr _ _,_,h=>h.elim
 |.fn _ _,_,h=>h.elim
 |.un _,_,h=>h.elim
theorem vp(he:EnvOk P en){c:Call}(ho:o.op=.call c){fo:Operand}(hc:c.callee=.value fo){g0:Nat}{UD:AV}(hf:σ.BP fo=.fn g0 UD){ca:Callee}(hg:en.yu g0=some ca)(h:X9 ca σ.Ag (LP σ c.args++lU UD) some=some e):KO P σ o e:=by
 obtain⟨h1,h2,h3⟩:=oa (he.yu _ _ hg) h;refine⟨h1,h2,λa w g hs next Q hn=>?_⟩
 have hv:=AF hs fo;rw[hf]at hv;obtain⟨cs,⟨vs,e1,hx⟩,Pj⟩:=BD rfl rfl hv;have e2 :=by
  subst e1;simpa [AV.isAgg]using Pj.symm
 have hr:(execOp a.eval o).run P w=(callFunc g0 (c.args.toList.map a.eval++vs).toArray).run P w:=by
  have:(c.args.toList.map a.eval++vs).toArray=#[]++c.args.map a.eval++vs.toArray:=by
   simp
  rw[this];simp[execOp,ho,resolve,hc,e2,Deferred.ofValue,invoke]
 unfold Oper.wp;rw[hr];exact h3 w g _ hs.heap (al (au hs _) (AaK hx)) o a next Q hn
theorem aI(he:EnvOk P en){ti:TI}(u:Ty)(h:(match en.C6.get ti.elem with |some te=>if ti.Da=true then some te.ty else none |none=>none)=some u):ti.Da=true/\∃ZH,ZH.ty=u/\Dy P ti.elem ZH:=by
 split at h
 ·rename_i te C9;split at h
  ·rename_i H7;injection h with h;exact⟨H7,te,h,he.t C9⟩
  ·grind
 ·grind
theorem vu{t:TypeId}{x i:Operand}(ho:o.op=.indexAddr t x i){ti te:TI}(ht:Dy P t ti)(C9:Dy P ti.elem te)(H7:ti.Da=true){k:Nat}{i0:Int}{p:AyZ Nat}{f e0:Nat}(hx:σ.BP x=.O1 k i0 p f e0){ks:AyZ Nat}{kk:IntKind}{j:Int}(hi:σ.BP i=.Aw ks (.int kk) j)
    {ek:Nat} {tr:Ty} {xs:AyZ tr.V} (hb:σ.Ag[k]?=some (.row ek .Ao tr xs)) {ys:AyZ te.ty.V} (hg:Yy (.sl te.ty) p tr (xs.getD i0.toNat tr.zero)=some ys) {x':tr.V} (hs:Oj (.sl te.ty) [] p tr (xs.getD i0.toNat tr.zero)=some x')
    (hu:te.ty.size≠0) (cT:IP tr p=some f) (hj:0<=j/\j<(ys.length:Int)):KO P σ o ⟨.QF k i0 p f j te.ty,σ.Ag,[]⟩ :=
 .GI <| IQ (s:=λρ=>Instr.indexAt t (ρ x) (ρ i)) (λρ=>by simp[execOp,ho]) λa w g BG=>by
  have R3:=AF BG x;rw[hx]at R3;have hii:=AF BG i;rw[hi]at hii;have hii:=CH hii;obtain⟨cs,⟨hk,h0,h1,b,v,KP,BW,e1,e2,CO⟩,hval⟩:=BD rfl rfl R3;subst e1;have hv:a.eval x=v:=by
   have:[v]=[a.eval x]:=hval
   grind
  obtain⟨g1,H1,Nq,oF,_,_⟩:=TD BG.heap hb h1 hg cT hu KP CO hs;obtain⟨_,hvs⟩:=DV oF;obtain⟨_,AaW,Anz,_,Vb⟩:=H1.Js σ.Ag.length (.row 0 .Ao _ ys) (by simp[Ar]);have Cw :=Rh hj;rcases Vb with ⟨Ug,_⟩|⟨b',Bh,ds,ha,_⟩
  ·grind
  ·rw[ha,AaW]at hvs;have Nv:=Bf ht H7;refine⟨.pointer (some ⟨b',j.toNat*te.ty.size,none⟩),?_,A9  rfl ⟨hk,h0,h1,b,b',_,_,KP,BW,rfl,⟨hj.1,Cw⟩,by rw[CO,hvs]⟩ (by simp[BV,AV.isAgg])⟩;rw[hv,hii,hvs];simp[Instr.indexAt,asIntOf,underlying,Nv,hj.1,hj.2,CR C9,T4]
theorem Zk{t:TypeId}{x i:Operand}(ho:o.op=.indexAddr t x i){ti te:TI}(ht:Dy P t ti)(C9:Dy P ti.elem te)(H7:ti.Da=true){z:AV}(h:gC σ.Ag te.ty (σ.BP x) (σ.BP i) some=some z):KO P σ o ⟨z,σ.Ag,[]⟩:=by
 unfold gC at h;split at h
 ·rename_i k i0 p f e0 ks kk j hx hi;split at h
  ·rename_i ek tr xs hb;split at h
   ·rename_i ys x' hg hs;split at h
    ·rename_i hc;split at h
     ·rename_i hj;injection h with h;subst h;exact vu ho ht C9 H7 hx hi hb hg hs hc.1 hc.2 hj
     ·grind
    ·grind
   ·grind
  ·grind
 ·exact Z4 ho ht C9 H7 h
theorem Wv(he:EnvOk P en)(h:Nk en σ o some=some e):KO P σ o e:=by
 unfold Nk at h
 dsimp only at h
 split at h
 ·rename_i x ho;injection h with h;subst h;exact iz (.inl ho)
 ·rename_i x ho;injection h with h;subst h;exact iz (.inr ho)
 ·rename_i c a b ho;split at h
  ·rename_i ks t hc;have:=vE (P:=P) ho hc;cases t
   ·injection h with h;subst h;exact this
   ·injection h with h;subst h;exact this
  ·cases h
 ·rename_i el ho;split at h
  ·rename_i ti ht;injection h with h;subst h;exact pI ho (he.t ht)
  ·cases h
 ·rename_i el x ho;split at h
  ·rename_i ht;injection h with h;subst h;exact zr ho ht
  ·cases h
 ·rename_i t Fu ho;split at h
  ·rename_i ti ht;split at h
   ·cases h
   ·rename_i cT;split at h
    ·rename_i v hv;injection h with h;subst h;exact pK ho (he.t ht) (λe=>cT (by rw[e];rfl)) hv
    ·cases h
  ·cases h
 ·rename_i t len Fu ho;split at h
  ·rename_i ti ht;split at h
   ·rename_i te C9;split at h
    ·rename_i m xs rs hp;split at h
     ·rename_i hc;obtain⟨h1,h2⟩:=Zj ho (he.t ht) (he.t C9) hp hc;split at h
      ·rename_i h0;injection h with h;subst h;exact h1 h0
      ·rename_i h0;injection h with h;subst h;exact h2 h0
     ·cases h
    ·cases h
   ·cases h
  ·cases h
 ·rename_i t x ho;split at h
  ·rename_i ti ht;split at h
   ·split at h
    ·rename_i H7;exact pR ho (he.t ht) H7 h
    ·cases h
   ·obtain⟨z,hz,rfl⟩:=Sc (f:=λR K=>Uk σ.Ag ti (σ.BP x) K) (λR K=>aZ ..) (g:=λv=>⟨v,σ.Ag,[]⟩) h;exact vy ho (he.t ht) hz
  ·cases h
 ·rename_i t r ho;split at h
  ·rename_i ti ht;split at h
   ·cases h
   ·rename_i hr;split at h
    ·rename_i tk te Uf C9;split at h
     ·injection h with h;subst h;have:r=none:=by cases r<;>simp_all
      subst this;exact iy ho (PH _ _)
     ·cases h
    ·cases h
  ·cases h
 ·rename_i t m x ok ho;split at h
  ·rename_i ti ht;split at h
   ·rename_i tk te Uf C9;split at h
    ·rename_i hc;split at h
     ·split at h
      ·cases h
      ·rename_i W9;have:ok=false:=by simpa using W9
       subst this;exact pP ho (he.t ht) hc.1 (he.t C9) hc.2.1 (λhk=>ZD.of he.C6 (he.t Uf) hk hc.2.2) h
     ·obtain⟨z,hz,rfl⟩:=Sc (f:=λR K=>Xd σ.Ag tk te ok (σ.BP m) (σ.BP x) K) (λR K=>bd ..) (g:=λv=>⟨v,σ.Ag,[]⟩) h;exact vz ho (he.t ht) hc.1 (he.t C9) hc.2.1 (λhk=>ZD.of he.C6 (he.t Uf) hk hc.2.2) hz
    ·cases h
   ·cases h
  ·cases h
 ·rename_i t m x v ho;split at h
  ·rename_i ti ht;split at h
   ·rename_i tk te Uf C9;split at h
    ·rename_i hc;exact mW (.inl ho) (he.t ht) hc.1 (λhk=>ZD.of he.C6 (he.t Uf) hk hc.2.2) h
    ·cases h
   ·cases h
  ·cases h
 ·rename_i t m x v ho;split at h
  ·rename_i ti ht;split at h
   ·rename_i tk te Uf C9;split at h
    ·rename_i hc;exact mW (.inr ho) (he.t ht) hc.1 (λhk=>ZD.of he.C6 (he.t Uf) hk hc.2.2) h
    ·cases h
   ·cases h
  ·cases h
 ·rename_i t m x ho;split at h
  ·rename_i ti ht;split at h
   ·rename_i tk te Uf C9;split at h
    ·rename_i hc;exact zw ho (he.t ht) hc.1 (he.t C9) (λhk=>ZD.of he.C6 (he.t Uf) hk hc.2) h
    ·cases h
   ·cases h
  ·cases h
 ·rename_i t m x v ho;split at h
  ·rename_i ti ht;split at h
   ·rename_i tk te Uf C9;split at h
    ·rename_i hc;exact vr ho (he.t ht) hc.1 (λhk=>ZD.of he.C6 (he.t Uf) hk hc.2) h
    ·cases h
   ·cases h
  ·cases h
 ·rename_i t x v ho;split at h
  ·rename_i ti ht;exact pS ho (he.t ht) h
  ·cases h
 ·rename_i x ho;split at h
  ·rename_i k i p q hx;injection h with h;subst h;rw[<-hx];exact V3 ho λw g n v hv=>by rw[hx]at hv;exact dy hv
  ·rename_i ks t y hx;injection h with h;subst h;rw[<-hx];exact V3 ho λw g n v hv=>by rw[hx]at hv;exact dz hv
  ·cases h
 ·rename_i op t x y yt ho;split at h
  ·rename_i z hz;injection h with h;subst h;exact zx he.C6 ho hz
  obtain⟨z,hz,rfl⟩:=Sc (f:=λR K=>ck op (match en.C6.get t with |some ti=>ti.ty==.bool |none=>false) (σ.BP x) (σ.BP y) K) (λR K=>fe ..) (g:=λv=>⟨v,σ.Ag,[]⟩) h
  refine pJ ho (λhb=>?_) hz;split at hb
  ·rename_i ti ht;exact jG (he.t ht) (by simpa using hb)
  ·cases hb
 ·rename_i op t x ho;obtain⟨z,hz,rfl⟩:=Sc (f:=λR K=>zI op (σ.BP x) K) (λR K=>ng ..) (g:=λv=>⟨v,σ.Ag,[]⟩) h;exact vF ho hz
 ·rename_i s t x ho;split at h
  ·rename_i ts ti Qk ht;obtain⟨z,hz,rfl⟩:=Sc (f:=λR K=>Vq σ.Ag (match en.C6.get ts.elem with |some te=>if ts.Da=true then some te.ty else none |none=>none) ti.ty (σ.BP x) K) (λR K=>aE ..) (g:=λv=>⟨v,σ.Ag,[]⟩) h
   exact iw ho (he.t Qk) (he.t ht) (aI he) hz
  ·cases h
 ·rename_i fn first UD ho
  split at h
  ·split at h
   ·rename_i h0;injection h with h;subst h;exact dQ ho h0
   ·cases h
  ·cases h
 ·rename_i t l c ho;split at h
  ·rename_i ti ht;split at h
   ·rename_i te C9;split at h
    ·rename_i H7;exact vA ho (he.t ht) (he.t C9) H7 h
    ·cases h
   ·cases h
  ·cases h
 ·rename_i t x lo hi mx ho;split at h
  ·rename_i d ti hd ht;split at h
   ·split at h
    ·split at h
     ·rename_i H7;split at h
      ·rename_i te C9;exact zu ho (he.t ht) H7 (he.t C9) h
      ·cases h
     ·cases h
    ·cases h
   ·obtain⟨z,hz,rfl⟩:=Sc (f:=λR K=>RB σ.Ag ti (match en.C6.get ti.elem with |some te=>if ti.Da=true then some te.ty else none |none=>none) (σ.BP x) (lo.map σ.BP) (hi.map σ.BP) (mx.map σ.BP) K) (λR K=>Zi ..) (g:=λv=>⟨v,σ.Ag,[]⟩) h
    exact pQ ho (he.t ht) (aI he) hz
  ·cases h
 ·rename_i t x f ho;split at h
  ·rename_i ti ht;obtain⟨z,hz,rfl⟩:=Sc (f:=λR K=>ZM ti f (σ.BP x) K) (λR K=>fO ..) (g:=λv=>⟨v,σ.Ag,[]⟩) h;exact Z3 ho (he.t ht) hz
  ·cases h
 ·rename_i t x i ho;split at h
  ·rename_i ti ht;split at h
   ·rename_i te C9;split at h
    ·rename_i H7;obtain⟨z,hz,rfl⟩:=Sc (f:=λR K=>gC σ.Ag te.ty (σ.BP x) (σ.BP i) K) (λR K=>gD ..) (g:=λv=>⟨v,σ.Ag,[]⟩) h;exact Zk ho (he.t ht) (he.t C9) H7 hz
    ·cases h
   ·cases h
  ·cases h
 ·rename_i t x i ho;split at h
  ·rename_i ti ht;split at h
   ·rename_i hs;obtain⟨z,hz,rfl⟩:=Sc (f:=λR K=>cu (σ.BP x) (σ.BP i) K) (λR K=>fx ..) (g:=λv=>⟨v,σ.Ag,[]⟩) h;exact pO ho (he.t ht) hs hz
   ·cases h
  ·cases h
 ·rename_i x i ho;split at h
  ·rename_i v hv;split at h
   ·cases h
   ·rename_i ht;injection h with h;subst h;exact ix ho hv (by simpa using ht)
  ·cases h
 ·rename_i c ho;unfold QY at h;split at h
  ·rename_i hc;split at h
   ·rename_i x t r hx Qk;split at h
    ·rename_i ti ht;obtain⟨z,hz,rfl⟩:=Sc (f:=λR K=>dp σ.Ag ti x K) (λR K=>gK ..) (g:=λv=>⟨v,σ.Ag,[]⟩) h;exact zy ho hc hx Qk (he.t ht) hz
    ·cases h
   ·cases h
  ·rename_i hc;split at h
   ·rename_i x y hx;obtain⟨z,hz,rfl⟩:=Sc (f:=λR K=>qq false x y K) (λR K=>XP ..) (g:=λv=>⟨v,σ.Ag,[]⟩) h;exact vB (mx:=false) ho hc hx hz
   ·cases h
  ·rename_i hc;split at h
   ·rename_i x y hx;obtain⟨z,hz,rfl⟩:=Sc (f:=λR K=>qq true x y K) (λR K=>XP ..) (g:=λv=>⟨v,σ.Ag,[]⟩) h;exact vB (mx:=true) ho hc hx hz
   ·cases h
  ·rename_i hc;split at h
   ·rename_i x y t tx hx Qk;split at h
    ·rename_i ti WX ht jk;split at h
     ·rename_i te C9;split at h
      ·rename_i hk;rw[Awg]at hk;exact kP ho hc hx Qk (he.t ht) (he.t C9) hk.1 (he.t jk) hk.2 h
      ·split at h
       ·rename_i hk;rw[Awg]at hk;exact iu ho hc hx Qk (he.t ht) (he.t C9) hk.1 (he.t jk) hk.2 h
       ·cases h
     ·cases h
    ·cases h
   ·cases h
  ·cases h
  ·rename_i fo hc;split at h
   ·rename_i g0 UD hf;split at h
    ·rename_i ca hg;exact vp he ho hc hf hg h
    ·cases h
   ·cases h
  ·cases h
 ·cases h
theorem sV{e':F1}{t:Ty}(h:KO P σ o e)(hf:AcN σ.Ag.length t e=some e'):KO P σ o e':=by
 unfold AcN at hf;split at hf
 ·rename_i x hr;split at hf
  ·rename_i hN;injection hf with hf;subst hf;have hZ:∀k∈(e.val.PD e.Ag).filter (λk=>!decide (k<σ.Ag.length)),σ.Ag.length<=k:=λk hk=>by
    have:=(List.mem_filter.1 hk).2;simpa using this
   refine⟨by rw[AQ];exact h.grow,λhm=>?_,λa w g hs next Q hn=>h.wp a w g hs next Q λv w' g' H hv st=>?_⟩
   ·obtain⟨l,hl⟩:=h.ext hm;simp only;generalize (e.val.PD e.Ag).filter (λk=>!decide (k<σ.Ag.length))=Z at hZ;rw[hl];exact gI Z _ _ hZ
   ·generalize hZe:(e.val.PD e.Ag).filter (λk=>!decide (k<σ.Ag.length))=Z at hZ hn;refine hn v w' (g'.RL Z) (oB H hN Z) ?_ ⟨st.os,st.tape,st.output,st.size,λb hb h=>?_,λb h=>?_,λb k p h hk hm=>?_,λk hk=>st.AK k hk⟩
    ·rw[AQ];obtain⟨h1,h2⟩:=QH hr;obtain⟨cs,Pj,hv⟩:=BD h1 h2 hv;obtain⟨ZT,Cw⟩:=MD H t e.val x cs hr Pj;refine A9 (a:=.Aw _ t x) rfl ⟨λk hk=>Cw k (List.mem_filter.1 hk).1,ZT.mono λb a=>⟨a.Ph.mono λk hk=>?_,rfl⟩⟩ (by rw[show(AV.Aw _ t x).isAgg=e.val.isAgg from(UV hr).symm];exact hv);subst hZe;simp only[List.mem_filter,Axp,AwV,Axc]at hk⊢;refine⟨hk.1,?_⟩;rcases Awk k σ.Ag.length with h |h
     ·exact h
     ·exact absurd ⟨hk.1,by omega⟩ hk.2
    ·have:=st.no b hb h;exact⟨by simp[G.RL,this.1],this.2⟩
    ·have:=st.GH b h;exact⟨cM this.1,this.2⟩
    ·have:=st.Bs b k p h hk hm;exact⟨Ml this.1 λhz=>by have:=hZ k hz;omega,this.2⟩
  ·cases hf
 ·cases hf
def G.pE(g:G)(k:Nat):G:=⟨λb=>match g.own b with |.Bs j r=>if j=k/\r≠[]then .GH else .Bs j r |t=>t,g.AK⟩
theorem Ht.rdS{w:World}{own:Nat->Pp}{k:Nat}{A:Nat->Prop}(h:∀b q,q≠[]->own b=.Bs k q->A b):∀{t:Ty} {L:AyZ Nat} {x:t.V} {cs:AyZ Value},L≠[]->Ht w own k t L x cs->FX w A t x cs
 |.int _,_,_,_,_,r=>r
 |.bool,_,_,_,_,r=>r
 |.str,_,_,_,_,r=>r
 |.unit,_,_,_,_,r=>r
 |.AH _ _,_,_,_,_,⟨c,d,e,r1,r2⟩=>⟨c,d,e,Ht.rdS h (by simp) r1,Ht.rdS h (by simp) r2⟩
 |.sl t,L,xs,cs,hL,⟨ad,cap,e,r⟩=>by
  rcases r with ⟨hx,Wz⟩|⟨b,e1,Bh,ds,ha,ho,hh,h1,h2,h3,h4,hc⟩
  ·subst hx;exact⟨ad,cap,[],e,by simp,rfl,.inl rfl⟩
  ·refine⟨ad,cap,ds,e,h1,hc.toR λi x c r=>Ht.rdS h (by simp) r,.inr ⟨b,0,ha,h b L hL ho,λj q hq=>?_⟩⟩;rw[Mi hh,AwF,<-Awn];subst h4;rw[Aw9]at hq;split at hq
   ·exact hq
   ·cases hq
 |.O3 _,_,_,_,_,r=>r.elim
theorem pF{e':F1}(h:KO P σ o e)(hf:vg σ.Ag.length e=some e'):KO P σ o e':=by
 unfold vg at hf;split at hf
 ·rename_i k hval;split at hf
  ·rename_i hk;split at hf
   ·rename_i el t xs hb;injection hf with hf;subst hf;refine⟨by simpa using h.grow,λhm=>?_,λa w g hs next Q hn=>h.wp a w g hs next Q λv w' g' H hv st=>?_⟩
    ·obtain⟨l,hl⟩:=h.ext hm;simp only;rw[hl,Axt _ _ hk];exact⟨_,rfl⟩
    ·have hal:∀{ks:AyZ Nat} {b:Nat},Al g'.own ks b->Al (g'.pE k).own ks b:=λ{ks b} ha=>by
       rcases ha with ha |⟨j,hj,r,ha⟩
       ·exact .inl (by simp[G.pE,ha])
       ·by_cases hc:j=k/\r≠[]
        ·exact .inl (by simp[G.pE,ha,hc])
        ·exact .inr ⟨j,hj,r,by simp only[G.pE,ha,Aws hc]⟩
     have Nl:∀{b j:Nat},g'.own b=.Bs j []->(g'.pE k).own b=.Bs j []:=λ{b j} h=>by simp[G.pE,h]
     have l9:∀(a:AV) (m:Bool) {cs:AyZ Value},B9 w' g' e.Ag.length m a cs->B9 w' (g'.pE k) e.Ag.length m a cs:=by
      intro a;induction a with
      |Aw ks t x=>intro m cs hx;cases m with
       |false=>exact⟨hx.1,hx.2.mono λb a=>⟨hal a,rfl⟩⟩
       |true=>exact hx.elim
      |D7 ks t x=>intro m cs hx;cases m with
       |false =>
        obtain⟨hk,b,off,ds,e,ha,r,hc⟩:=hx;exact⟨hk,b,off,ds,e,hal ha,r.mono λb a=>⟨hal a,rfl⟩,hc⟩
       |true=>exact hx.elim
      |O1 k i p o e=>intro m cs hx;cases m with
       |false =>
        obtain⟨hk,h0,h1,b,v,ha,ho,e1,e2,hc⟩:=hx;exact⟨hk,h0,h1,b,v,ha,Nl ho,e1,e2,hc⟩
       |true=>exact hx.elim
      |QF k i p o j u=>intro m cs hx;cases m with
       |false =>
        obtain⟨hk,h0,h1,b,b',l,c,ha,ho,e1,e2,hc⟩:=hx;exact⟨hk,h0,h1,b,b',l,c,ha,Nl ho,e1,e2,hc⟩
       |true=>exact hx.elim
      |pr a b yQ yR=>intro m cs hx;cases m with
       |false =>
        obtain⟨c,d,e,h1,h2⟩:=hx;exact⟨c,d,e,yQ false h1,yR false h2⟩
       |true=>exact hx.elim
      |fn f c ih=>intro m cs hx;cases m with
       |false =>
        obtain⟨vs,e,hx⟩:=hx;exact⟨vs,e,ih true hx⟩
       |true=>exact hx.elim
      |cons a b yQ yR=>intro m cs hx;cases m with
       |true =>
        obtain⟨v,r,e,h1,h2⟩:=hx;exact⟨v,r,e,h1.imp id λ⟨cs,hx,hv⟩=>⟨cs,yQ false hx,hv⟩,yR true h2⟩
       |false=>exact hx.elim
      |_=>intro m cs hx;cases m<;>exact hx
     refine hn v w' (g'.pE k) ⟨λb hb=>by simp[G.pE,H.Bz b hb],λj x hx=>?_⟩ ?_ ⟨st.os,st.tape,st.output,st.size,λb hb h=>?_,λb h=>?_,λb j p h hj hm=>?_,λj hj=>st.AK j hj⟩
     ·rw[Awi];rw[Awy]at hx;split at hx
      ·rename_i ek;subst ek;split at hx
       ·injection hx with hx;subst hx;obtain⟨Ng,hlen,Mg,BB,hr⟩:=H.Js k _ hb;cases oH:t.Bu with
        |true=>exact⟨oH,hlen,Mg,BB,hr.imp id λ⟨b,Bh,ds,ha,ho,hh,h1,h2,h3,h4,hc⟩=>⟨b,0,Bh,ds,ha,Nl ho,hh,h1,h2,by rw[AwF];exact h3,h4,CQ.2 ((CQ.1 hc).mono λi x c h=>(OV.Bu oH).2 ((OV.Bu oH).1 h))⟩⟩
        |false =>
        refine⟨λj hj=>(by cases hj),hlen,Mg,BB,hr.imp id λ⟨b,Bh,ds,ha,ho,hh,h1,h2,h3,h4,hc⟩=>⟨b,Bh,ds,ha,Nl ho,hh,h1,h2,h3,h4,?_⟩⟩;exact hc.toR λi x c r=>Ht.rdS (λb q hq hb=>.inl (by simp[G.pE,hb,hq])) (by simp) r
       ·cases hx
      ·rename_i RY;have hB:=H.Js j x hx;cases x with
       |Be=>trivial
       |map m kt vt es st =>
        obtain⟨Ng,b,FK,CL,ha,ho,hh,NT,hm⟩:=hB;refine⟨Ng,b,FK,CL,ha,Nl ho,hh,NT,hm.on λi x c r=>?_⟩;cases m with
        |Ao =>
         refine Ht.mono (λb q hb=>⟨?_,rfl⟩) r;have:¬(j=k/\q++[i]≠[]):=λhq=>RY hq.1.symm;show(match g'.own b with |.Bs j r=>if j=k/\r≠[]then Pp.GH else .Bs j r |t=>t)=_
         rw[hb];exact Aws this
        |sh ks=>exact FX.mono (λb a=>⟨hal a,rfl⟩) r
       |Nh e2 t xs i p =>
        obtain⟨h1,h2,h3,h4,h5,u,o,x0,b,Bh,ds,q1,q2,q3,ha,ho,hh,c1,c2,c3,c4,hc⟩:=hB;refine⟨h1,h2,h3,h4,h5,u,o,x0,b,Bh,ds,q1,q2,q3,ha,Nl ho,hh,c1,c2,c3,c4,hc.mono λi x c r=>r.mono λb q hb=>⟨?_,rfl⟩⟩;have:¬(j=k/\q++[i]≠[]):=λhq=>RY hq.1.symm;show(match g'.own b with |.Bs j r=>if j=k/\r≠[]then Pp.GH else .Bs j r |t=>t)=_
        rw[hb];exact Aws this
       |tail e2 t xs =>
        obtain⟨oH,hlen,Mg,BB,hr⟩:=hB;exact⟨oH,hlen,Mg,BB,hr.imp id λ⟨b,o,Bh,ds,ha,ho,hh,h1,h2,h3,h4,hc⟩=>⟨b,o,Bh,ds,ha,Nl ho,hh,h1,h2,h3,h4,CQ.2 ((CQ.1 hc).mono λi x c h=>(OV.Bu oH).2 ((OV.Bu oH).1 h))⟩⟩
       |box a =>
        obtain⟨h1,b,cs,e,ha,ho,hh,hx⟩:=hB;exact⟨h1,b,cs,e,ha,Nl ho,hh,l9 a false hx⟩
       |row e2 m t xs =>
        obtain⟨Ng,hlen,Mg,BB,hr⟩:=hB;refine⟨Ng,hlen,Mg,BB,hr.imp id λ⟨b,Bh,ds,ha,ho,hh,h1,h2,h3,h4,hc⟩=>⟨b,Bh,ds,ha,Nl ho,hh,h1,h2,h3,h4,?_⟩⟩;cases m with
        |Ao =>
         refine hc.mono λi x c r=>r.mono λb q hb=>⟨?_,rfl⟩;have:¬(j=k/\q++[i]≠[]):=λhq=>RY hq.1.symm;show(match g'.own b with |.Bs j r=>if j=k/\r≠[]then Pp.GH else .Bs j r |t=>t)=_
         rw[hb];exact Aws this
        |sh ks=>exact hc.mono λx c r=>r.mono λb a=>⟨hal a,rfl⟩
     ·rw[Awi];rw[hval]at hv;obtain⟨hk1,ZV⟩:=DV hv;rw[ZV];exact A9 (cs:=[_]) rfl ⟨hk1,rfl⟩ rfl
     ·have:=st.no b hb h;exact⟨by simp[G.pE,this.1],this.2⟩
     ·have:=st.GH b h;exact⟨by simp[G.pE,this.1],this.2⟩
     ·have:=st.Bs b j p h hj hm;have RY:¬(j=k/\p≠[]):=λhq=>by have:=hq.1;omega
      exact⟨by simp only[G.pE,this.1,Aws RY],this.2⟩
   ·cases hf
  ·cases hf
 ·cases hf
theorem vC{t:TypeId}{x:Operand}(ho:o.op=.load t x){ti:TI}(ht:Dy P t ti)(H7:ti.Da=true){k:Nat}{i:Int}{p:AyZ Nat}{f e0:Nat}(hx:σ.BP x=.ptr k i p f){el:Nat}{tr:Ty}{xs:AyZ tr.V}(hb:σ.Ag[k]?=some (.row el .Ao tr xs)){v:AV}(QK:wL σ.Ag k i p f=some v)(J9:v.size=1):KO P σ o ⟨.O1 k i p f e0,σ.Ag,[]⟩ :=
 .GI <| IQ (s:=λρ=>Instr.loadAt t (ρ x)) (λρ=>by simp[execOp,ho]) λa w g BG=>by
  have R3:=AF BG x;rw[hx]at R3;obtain⟨hk,h0,h1,b,KP,hpe⟩:=IA R3;obtain⟨Ng,hlen,Mg,BB,hr⟩:=BG.heap.Js k _ hb;obtain⟨cs,ZQ,CO⟩:=QQ BG.heap QK h1 KP;have UJ:ti.ty.size=1/\ti.ty.isAgg=false:=by
   unfold TI.Da at H7;split at H7
   ·rename_i u hu;rw[hu];exact⟨rfl,rfl⟩
   ·cases H7
  have hl:cs.length=ti.ty.size:=by rw[ZQ.len,J9,UJ.1]
  obtain⟨v1,ZV,eO⟩:=Od (w:=w) ht hl CO (λhg=>by rw[hl];exact UJ.1);rw[UJ.2]at eO;have Pj:cs=[v1]:=eO;subst Pj;rcases hr with ⟨Ug,_⟩|⟨b',Bh,ds,ha,BW,_⟩
  ·rw[hlen,Ug]at h1;simp at h1
  ·rw[KP]at ha;injection ha with ha;injection ha with ha;subst ha;refine⟨v1,by rw[hpe];simp[Instr.loadAt,Instr.sureAddr,ZV],A9 (cs:=[v1]) rfl ⟨hk,h0,h1,b,v1,KP,BW,rfl,ZQ.one v1 (by simp),?_⟩ rfl⟩;have:=CO 0 v1 rfl;simpa using this
theorem mK{w:World}{g:G}{n k:Nat}{i:Int}{p:AyZ Nat}{e b:Nat}(hk:k<n)(h0:0<=i)(h1:i.toNat<(g.AK k).len)(KP:(g.AK k).a=some ⟨b,0,none⟩)(BW:g.own b=.Bs k []){A:Nat->Prop} :
    ∀{t:Ty} {x:t.V} {f o:Nat} {z:AV} {cs:AyZ Value},Y0 k i p e t x f o=some z->FX w A t x cs->(∀j u,cs[j]?=some u->w.cell? ⟨b,i.toNat*(g.AK k).aL+o+j,none⟩=some u)->B9 w g n false z cs/\z.isAgg=t.isAgg/\z.Cz=false
 |.unit,x,f,o,z,cs,h,hr,_=>by
  simp only[Y0,Awb]at h;subst h;exact⟨⟨λk hk=>(by cases hk),hr⟩,rfl,rfl⟩
 |.AH a c,x,f,o,z,cs,h,⟨c1,c2,ecs,r1,r2⟩,hc=>by
  simp only[Y0]at h;split at h
  ·rename_i r hrr;have U9:=r1.len;obtain⟨ih,_,_⟩:=mK hk h0 h1 KP BW hrr r2 (λj u hu=>by
    have:=hc (c1.length+j) u (by rw[ecs,Awv (by omega)];rw[show c1.length+j-c1.length=j by omega];exact hu);rw[<-this];congr 2;omega)
   split at h
   ·rename_i H7;injection h with h;subst h;obtain⟨ad,n0,cap,e1⟩:∃ad n0 cap,c1=[.slice ad n0 cap]:=by
     cases a with
     |sl u=>obtain⟨ad,cap,ds,e1,_⟩:=r1;exact⟨_,_,_,e1⟩
     |_=>cases H7
    refine⟨⟨c1,c2,ecs,⟨hk,h0,h1,b,_,KP,BW,e1,rfl,?_⟩,ih⟩,rfl,rfl⟩;have:=hc 0 _ (by rw[ecs,e1];rfl);simpa using this
   ·split at h
    ·rename_i hf;injection h with h;subst h;exact⟨⟨c1,c2,ecs,⟨λk hk=>(by cases hk),(FX.Bu hf).2 ((FX.Bu hf).1 r1)⟩,ih⟩,rfl,rfl⟩
    ·cases h
  ·cases h
 |.int _,_,_,_,_,_,h,_,_=>by simp[Y0]at h
 |.bool,_,_,_,_,_,h,_,_=>by simp[Y0]at h
 |.str,_,_,_,_,_,h,_,_=>by simp[Y0]at h
 |.sl _,_,_,_,_,_,h,_,_=>by simp[Y0]at h
 |.O3 _,_,_,_,_,_,h,_,_=>by simp[Y0]at h
theorem vD{t:TypeId}{x:Operand}(ho:o.op=.load t x){ti:TI}(ht:Dy P t ti){k:Nat}{i:Int}{p:AyZ Nat}{f e0:Nat}(hx:σ.BP x=.ptr k i p f){el:Nat}{tr:Ty}{xs:AyZ tr.V}(hb:σ.Ag[k]?=some (.row el .Ao tr xs)){ks:AyZ Nat}{t':Ty}{y:t'.V}(QK:wL σ.Ag k i p f=some (.Aw ks t' y))(XM:t'=ti.ty){z:AV}(hz:Y0 k i p e0 t' y 0 f=some z):KO P σ o ⟨z,σ.Ag,[]⟩ :=
 .GI <| IQ (s:=λρ=>Instr.loadAt t (ρ x)) (λρ=>by simp[execOp,ho]) λa w g BG=>by
  subst XM;have R3:=AF BG x;rw[hx]at R3;obtain⟨hk,h0,h1,b,KP,hpe⟩:=IA R3;obtain⟨Ng,hlen,Mg,BB,hr⟩:=BG.heap.Js k _ hb;obtain⟨cs,ZQ,CO⟩:=QQ BG.heap QK h1 KP;have hl:cs.length=ti.ty.size:=ZQ.len;obtain⟨v1,ZV,eO⟩:=Od (P:=P) (w:=w) ht hl CO (λhg=>by rw[hl];exact Ol hg);rcases hr with ⟨Ug,_⟩|⟨b',Bh,ds,ha,BW,_⟩
  ·rw[hlen,Ug]at h1;simp at h1
  ·rw[KP]at ha;injection ha with ha;injection ha with ha;subst ha;obtain⟨h2,h3,h4⟩:=mK hk h0 h1 KP BW hz ZQ.2 CO;exact⟨v1,by rw[hpe];simp[Instr.loadAt,Instr.sureAddr,ZV],A9 h4 h2 (by rw[h3];exact eO)⟩
theorem ry(he:EnvOk P en){v:AV}(h:X1 en σ o=some v):KO P σ o ⟨v,σ.Ag,[]⟩:=by
 unfold X1 at h;split at h
 ·rename_i t x ho;split at h
  ·cases h
  ·rename_i d hd;split at h
   ·rename_i e ti k i p f _ ht hxp;split at h
    ·rename_i el tr xs v0 hb QK;split at h
     ·rename_i hc;injection h with h;subst h;exact vC ho (he.t ht) hc.1 hxp hb QK hc.2
     ·split at h
      ·rename_i ks t' y Ank;split at h
       ·rename_i XM;exact vD ho (he.t ht) hxp hb QK XM h
       ·cases h
      ·cases h
    ·cases h
   ·cases h
 ·rename_i t Fu ho;split at h
  ·rename_i ti ht;split at h
   ·cases h
   ·rename_i hn;split at h
    ·rename_i te C9;split at h
     ·rename_i XM;exact dO ho (he.t ht) (he.t C9) hn XM h
     ·cases h
    ·cases h
  ·cases h
 ·rename_i t x i ho;split at h
  ·rename_i ti ht;split at h
   ·cases h
   ·rename_i hn;split at h
    ·rename_i te C9;split at h
     ·rename_i ks kk j hi;split at h
      ·rename_i hj;split at h
       ·rename_i v' hv;split at h
        ·rename_i J9;injection h with h;subst h;exact dP ho (he.t ht) (he.t C9) hn hi hj hv J9
        ·cases h
       ·cases h
      ·cases h
     ·cases h
    ·cases h
  ·cases h
 ·rename_i t x f ho;split at h
  ·rename_i ti ht;split at h
   ·rename_i fo u v' tn hu hv;split at h
    ·rename_i hc;injection h with h;subst h;exact pM ho (he.t ht) tn hu hv hc
    ·cases h
   ·cases h
  ·cases h
 ·rename_i c ho;split at h
  ·rename_i t r hc hx Qk;split at h
   ·rename_i ti ht;split at h
    ·rename_i hs;injection h with h;subst h;exact pL ho hc hx Qk (he.t ht) hs
    ·cases h
   ·cases h
  ·cases h
 ·rename_i t x i ho;split at h
  ·rename_i ti ht;split at h
   ·cases h
   ·rename_i hn;split at h
    ·rename_i te C9;split at h
     ·rename_i ks kk j hi;split at h
      ·rename_i hj;exact WU ho (he.t ht) (he.t C9) hn hi hj.1 hj.2 h
      ·cases h
     ·cases h
    ·cases h
  ·cases h
 ·cases h
theorem kR{t:TypeId}{x v:Operand}(ho:o.op=.store t x v){ti:TI}(ht:Dy P t ti){k:Nat}{i:Int}{p:AyZ Nat}{f:Nat}{j:Int}{u:Ty}(hx:σ.BP x=.QF k i p f j u)(h:kX σ.Ag ti k i p f j u (σ.BP v)=some e):KO P σ o e:=by
 unfold kX at h;split at h
 ·rename_i ek tr xs hb;split at h
  ·rename_i ys hg;split at h
   ·rename_i y Uf;split at h
    ·rename_i y' QB;split at h
     ·rename_i x' F2;split at h
      ·rename_i hc;obtain⟨XM,cT,hu,Ara,AqQ,U8⟩:=hc;injection h with h;subst h;have gl:=AP hb;have jh:((A0 [k] σ.Ag).set k Blk.Be++[Blk.row 0 .Ao u ys]).length=σ.Ag.length+1:=by simp[Ar]
       refine⟨by simp only[Awi,Ar,AQ,jh];omega,λhm=>by simp at hm,λa w g BG next Q hn=>?_⟩
       have R3:=AF BG x;rw[hx]at R3;obtain⟨cs,⟨hk,h0,h1,b,b',l,c,KP,BW,e1,aR,CO⟩,hval⟩:=BD rfl rfl R3;subst e1;have hpv:a.eval x=.pointer (some ⟨b',j.toNat*u.size,none⟩):=by
        have:[Value.pointer (some ⟨b',j.toNat*u.size,none⟩)]=[a.eval x]:=hval;injection this with h _;exact h.symm
       obtain⟨g1,H1,Nq,oF,UK,_⟩:=TD BG.heap hb h1 hg cT hu KP CO F2;have hN:((A0 [k] σ.Ag).set k Blk.Be++[Blk.row 0 .Ao u ys])[σ.Ag.length]?=some (.row 0 .Ao u ys):=by rw[Awv (by simp[Ar])];simp[Ar]
       obtain⟨_,hvs⟩:=DV oF;injection hvs with l6 U9 _;obtain⟨_,AaW,Anz,_,_⟩:=H1.Js σ.Ag.length (.row 0 .Ao u ys) hN;have AqV:BF w g1 (σ.Ag.length+1) (.ptr σ.Ag.length j [] 0) (.pointer (some ⟨b',j.toNat*u.size,none⟩)):=by
        have:=WK (w:=w) (g:=g1) (n:=σ.Ag.length+1) (p:=[]) (o:=0) (AwP σ.Ag.length) aR.1 (by rw[<-U9];exact aR.2) l6.symm;rwa [Anz,Nat.add_zero]at this
       have ZV:BF w g1 (σ.Ag.length+1) (σ.BP v) (a.eval v):=by
        have:=(AF BG v).step Nq (AwK _);rwa [K7 λq hq=>by
         simp only[List.contains_eq_mem,AwA,AwV];intro e;subst e;simp only[List.contains_eq_mem,AwV]at U8;exact U8 hq]at this
       obtain⟨w2,g2,C5,H2,LS⟩:=Td (σ:=⟨[],(A0 [k] σ.Ag).set k Blk.Be++[Blk.row 0 .Ao u ys]⟩) H1 ht hN Uf ⟨AqQ,Ara,rfl,rfl⟩ QB (by show BF w g1 _ _ _;rw[jh];exact AqV) (by show BF w g1 _ _ _;rw[jh];exact ZV);simp only at H2 LS;rw[jh]at LS;have Ada:k∉[σ.Ag.length]:=by simp;omega
       have ZS:k≠σ.Ag.length:=by omega
       generalize hE:(Blk.Eu (A0 [σ.Ag.length] ((A0 [k] σ.Ag).set k Blk.Be++[Blk.row 0 .Ao u ys])) []).set σ.Ag.length (.row 0 .Ao u (ys.set j.toNat y'))=E at H2 hn;have wN:E.length=σ.Ag.length+1:=by rw[<-hE];simp[AQ,Ar]
       have hEN:E[σ.Ag.length]?=some (.row 0 .Ao u (ys.set j.toNat y')):=by rw[<-hE,List.getElem?_set_self (by simp[AQ,Ar])]
       have stA:Step [σ.Ag.length,k] E.length w2 g2 w2 (g2.W2 σ.Ag.length k (P9 p [i.toNat])):=iL;have zz:Step [k,σ.Ag.length] E.length w2 g2 w2 (g2.W2 σ.Ag.length k (P9 p [i.toNat])):=stA.weaken (λq hq=>by simp at hq⊢;exact hq.symm) (Awf _);have aS:(((A0 [k,σ.Ag.length] E).set σ.Ag.length Blk.Be).set k (.row ek .Ao tr (xs.set i.toNat x'))).length=E.length:=by simp[Ar]
       have tO:J2 w2 (g2.W2 σ.Ag.length k (P9 p [i.toNat])) E.length k (.row ek .Ao tr (xs.set i.toNat x')) :=
        UK w2 g2 E.length 0 (λb q hb=>LS.Bs b k q hb (by omega) Ada) (λj hj=>LS.AK j (by omega)) (H2.Js σ.Ag.length _ hEN)
       unfold Oper.wp;simp only[execOp,ho,hpv,Sem.run_bind,C5,Result.andThen_ok];refine hn undef w2 (g2.W2 σ.Ag.length k (P9 p [i.toNat])) ?_ M4 ?_
       ·refine H2.U5 zz (λb hb=>by simp[G.W2,H2.Bz b hb]) (by rw[aS];exact Awf _) λj' y P5=>?_;rw[aS];rcases N0 P5 with ⟨rfl,rfl⟩|⟨RY,P5⟩
        ·exact .inr (.inr tO)
        ·rcases N0 P5 with ⟨rfl,rfl⟩|⟨Adg,P5⟩
         ·exact .inl rfl
         ·obtain⟨y',QB,rfl⟩:=CF P5;exact .inr (.inl ⟨by simp only[Axm,AxD,or_false,not_or];exact⟨RY,Adg⟩,y',QB,rfl⟩)
       ·refine⟨LS.os.trans Nq.os,LS.tape.trans Nq.tape,LS.output.trans Nq.output,LS.size,λb hb h=>?_,λb h=>?_,λb j' q h P5 hm=>?_,λj' P5=>?_⟩
        ·have h1:=Nq.no b hb h;have h2:=LS.no b hb h1.1;exact⟨by simp[G.W2,h2.1],h2.2⟩
        ·have h1:=Nq.GH b h;have h2:=LS.GH b h1.1;exact⟨by simp[G.W2,h2.1],h2.2⟩
        ·simp only[Axz,AwA,not_or]at hm;have h1:=Nq.Bs b j' q h P5 (by simpa using hm.2);have h2:=LS.Bs b j' q h1.1 (by omega) (by simpa using hm.1);exact⟨XF h2.1 (by omega),h2.2⟩
        ·show g2.AK j'=_;rw[LS.AK j' (by omega),Nq.AK j' P5]
      ·cases h
     ·cases h
    ·cases h
   ·cases h
  ·cases h
 ·cases h
theorem uN(he:EnvOk P en)(h:pn en σ o=some e):KO P σ o e:=by
 unfold pn at h;split at h
 ·rename_i t x v ho;split at h
  ·rename_i ti k i p f j u ht hx;exact kR ho (he.t ht) hx h
  ·cases h
 ·cases h
theorem zF(he:EnvOk P en)(h:zE en σ o=some (true,e)):KO P σ o e:=by
 unfold zE at h;split at h
 ·rename_i t x lo ho;split at h
  ·rename_i ti k ks kk l oN hx hl;split at h
   ·rename_i el u xs te hb C9;split at h
    ·rename_i hc;obtain⟨H7,hu⟩:=hc;subst hu;simp only[Awb,Awm,Awg,Axc]at h;obtain⟨⟨h0,h1⟩,rfl⟩:=h;exact vq ho (he.t oN) H7 (he.t C9) hx hl hb h0 h1
    ·cases h
   ·cases h
  ·cases h
 ·rename_i t x y ho;split at h
  ·rename_i ti k ks kk l oN hx hl;split at h
   ·rename_i el u xs te hb C9;split at h
    ·rename_i hc;obtain⟨H7,hu⟩:=hc;subst hu;simp only[Awb,Awm,Awg,Axc]at h;obtain⟨⟨h0,h1⟩,rfl⟩:=h;exact vw ho (he.t oN) H7 (he.t C9) hx hl hb h0 h1
    ·cases h
   ·cases h
  ·cases h
 ·rename_i c ho;split at h
  ·rename_i k t hc hx Qk;split at h
   ·rename_i el u xs ti hb oN;split at h
    ·rename_i H7;simp only[Awb,Awm,true_and]at h;subst h;exact vx ho hc hx Qk (he.t oN) H7 hb
    ·cases h
   ·cases h
  ·rename_i k y t tx hc hx Qk;split at h
   ·rename_i el u xs0 ti WX hb oN jk;split at h
    ·rename_i te C9;split at h
     ·rename_i xs ys m2 rs ga YH;split at h
      ·rename_i gb;obtain⟨H7,wQ,_,jf,RX,_⟩:=gb;obtain⟨ec,hec⟩:=Bn ga;injection ec with ec;subst ec;simp only at hec;subst hec;simp only[Awb,Awm,Axc]at h;obtain⟨Nc,rfl⟩:=h;exact vo ho hc hx Qk (he.t oN) (he.t C9) H7 (he.t jk) wQ jf hb RX YH Nc
      ·cases h
     ·cases h
    ·cases h
   ·cases h
  ·cases h
 ·cases h
theorem vj(he:EnvOk P en)(h:im en σ o=some e):KO P σ o e:=by
 exact uN he h
theorem Wu(he:EnvOk P en)(h:Qh en σ o some=some e):KO P σ o e:=by
 unfold Qh at h;split at h
 ·rename_i v hv;injection h with h;subst h;exact ry he hv
 split at h
 ·rename_i e' hv;injection h with h;subst h;exact vj he hv
 split at h
 ·rename_i c e' hv;cases c with
  |false=>cases h
  |true=>injection h with h;subst h;exact zF he hv
 split at h
 ·cases hd:Yp en o with
  |false=>rw[hd]at h;exact Wv he h
  |true =>
   rw[hd]at h;simp only[Awp]at h;rw[J6 en he.UR]at h;cases hx:Nk en σ o some with
   |none=>rw[hx]at h;cases h
   |some e0 =>
    rw[hx]at h;simp only[Av9]at h;split at h
    ·rename_i e' hf;injection h with h;subst h;exact pF (Wv he hx) hf
    ·cases h
 ·rename_i t _;rw[J6 en he.UR]at h;cases hx:Nk en σ o some with
  |none=>rw[hx]at h;cases h
  |some e0 =>
   rw[hx]at h;simp only[Av9]at h;split at h
   ·rename_i e' hf;injection h with h;subst h;exact sV (Wv he hx) hf
   ·cases h
theorem N8(he:EnvOk P en)(h:exec en σ o some=some e):KO P σ o e:=by
 unfold exec at h;split at h
 ·split at h
  ·split at h
   ·rename_i bs hp;rw[QX en he.UR]at h;cases hx:Qh en ⟨σ.Az,bs⟩ o some with
    |none=>rw[hx]at h;cases h
    |some e0 =>
     rw[hx,Av9]at h;split at h
     ·cases h
     ·rename_i hm;injection h with h;subst h;have hs:=Wu he hx;obtain⟨l',hf⟩:=gY hp;have hl:=fK hf;refine⟨AwD hl hs.grow,λmh=>by rw[mh]at hm;exact(hm rfl).elim,λa w g BG next Q hn=>?_⟩
      obtain⟨_,g',H',st⟩:=lY hf BG.heap;exact hs.wp a w g' ⟨H',BG.len,λi x hx=>(BG.Az i x hx).M3 st hl⟩ next Q λv w' g2 h1 h2 h3=>hn v w' g2 h1 h2 (st.trans h3 hl)
   ·cases h
  ·exact Wu he h
 ·exact Wu he h
end
end Go.Va
namespace Go.Va
def Bi(m:Nat)(w:World)(g:G)(w':World)(g':G):Prop:=Step (List.range m) m w g w' g'
theorem Bi.refl(m:Nat)(w:World)(g:G):Bi m w g w g:=Step.refl _ _ _ _
theorem Step.kZ{Bg:AyZ Nat}{n m:Nat}{w w':World}{g g':G}(s:Step Bg n w g w' g')(h:m<=n):Bi m w g w' g' :=
 ⟨s.os,s.tape,s.output,s.size,s.no,s.GH,λ_ k _ _ hk hm=>(hm (List.mem_range.2 hk)).elim,λk hk=>s.AK k (AwL hk h)⟩
theorem Bi.trans{m:Nat}{w w1 w2:World}{g g1 g2:G}(s:Bi m w g w1 g1)(t:Bi m w1 g1 w2 g2):Bi m w g w2 g2:=by
 have h:=Step.trans s t (Awf _);exact⟨h.os,h.tape,h.output,h.size,h.no,h.GH,λ_ k _ _ hk hm=>(hm (List.mem_range.2 hk)).elim,h.AK⟩
theorem ve{l:AyZ AV}{d:Nat}{x:AV}(h:l[d]?=some x):l.set d x=l:=by
 apply Axi;intro i;rw[Awy];split
 ·rename_i he;subst he;split
  ·exact h.symm
  ·rename_i hl;rw[AwN (Nat.le_of_not_lt hl)]
 ·rfl
inductive Want (all:List Oper) (σ:St) (o:Oper):Bool->Prop where
 |plain (h:o.guard=none):Want all σ o true
 |guard {g:Nat} {XC:Bool} {d:Nat} {b:Bool} (h:o.guard=some (g,XC)) (hd:(all[g]?).bind (·.dst)=some d) (hb:σ.Az[d]?=some (.bool b)):Want all σ o (b==XC)
 |nil {g:Nat} {XC:Bool} {d:Nat} (h:o.guard=some (g,XC)) (hd:(all[g]?).bind (·.dst)=some d) (hb:σ.Az[d]?=some .nil):Want all σ o false
theorem LW{R:Type}{all:AyZ Oper}{σ:St}{o:Oper}{Kt Kf:St->Ay0 R}{r:R}(h:Rq all σ o Kt Kf=some r):(Want all σ o true/\Kt σ=some r)\/(Want all σ o false/\Kf σ=some r):=by
 unfold Rq at h;split at h
 ·rename_i hg;exact .inl ⟨.plain hg,h⟩
 ·rename_i g XC hg;split at h
  ·cases h
  ·rename_i d hd;split at h
   ·rename_i b hb;have e:({σ with Az:=σ.Az.set d (.bool b)}:St)=σ:=by
     have:=ve hb;cases σ;simp only at this⊢;rw[this]
    cases b
    ·simp only[Awo]at h;rw[e]at h;split at h
     ·rename_i hw;subst hw;exact .inr ⟨.guard hg hd hb,h⟩
     ·rename_i hw;have:XC=false:=by simpa using hw
      subst this;exact .inl ⟨.guard hg hd hb,h⟩
    ·simp only[Awp]at h;rw[e]at h;split at h
     ·rename_i hw;subst hw;exact .inl ⟨.guard hg hd hb,h⟩
     ·rename_i hw;have:XC=false:=by simpa using hw
      subst this;exact .inr ⟨.guard hg hd hb,h⟩
   ·rename_i hb;exact .inr ⟨.nil hg hd hb,h⟩
   ·cases h
theorem Yz{R:Type}{all:AyZ Oper}{σ:St}{o:Oper}{T:Type}{Kt Kf:St->Ay0 R}{Kt' Kf':St->Ay0 T}{K:T->Ay0 R}(h1:∀σ,Kt σ=(Kt' σ).bind K)(h2:∀σ,Kf σ=(Kf' σ).bind K):Rq all σ o Kt Kf=(Rq all σ o Kt' Kf').bind K:=by
 unfold Rq;split
 ·exact h1 _
 ·split
  ·rfl
  ·split
   ·rename_i b _;cases b<;>simp only[Awp,Awo]<;>split<;>first |exact h1 _ |exact h2 _
   ·exact h2 _
   ·rfl
section
variable {P:Program} {en:Fe} {R:Type}
theorem fI(he:T1 en)(σ:St)(o:Oper){T:Type}{K:F1->Ay0 R}{K':F1->Ay0 T}{k:T->Ay0 R}(h:∀e,K e=(K' e).bind k):exec en σ o K=(exec en σ o K').bind k:=by
 rw[N7 en he σ o K,N7 en he σ o K'];cases exec en σ o some with
 |none=>rfl
 |some e=>exact h e
theorem Pf(he:T1 en)(all:AyZ Oper):∀(is:AyZ Nat) (σ:St) (K:St->Ay0 R),Nj en all is σ K=(Nj en all is σ some).bind K
 |[],_,_=>rfl
 |i::is,σ,K=>by
  simp only[Nj];split
  ·rfl
  ·refine Yz (λσ=>?_) λσ=>Pf he all is _ K;exact fI he σ _ λe=>Pf he all is _ K
theorem Pb(he:T1 en)(all:AyZ Oper)(A:AyZ (Nat×AyZ Nat)):∀(is done K5:AyZ Nat) (σ:St) (K:St->Ay0 R),Ps en all A is done K5 σ K=(Ps en all A is done K5 σ some).bind K
 |[],_,_,_,_=>rfl
 |i::is,done,K5,σ,K=>by
  simp only[Ps];split
  ·rfl
  ·split
   ·refine Yz (λσ=>?_) λσ=>Pb he all A is _ _ _ K;refine fI he σ _ λe=>?_;split
    ·exact Pb he all A is _ _ _ K
    ·split
     ·exact Pb he all A is _ _ _ K
     ·rfl
   ·rfl
theorem pH{w:World}{g:G}{σ:St}{a:Act}(hs:Ip w g σ a){d:Nat}{b:Bool}(h:σ.Az[d]?=some (.bool b)):a.tmps[d]?=some (.bool b):=by
 have h1:=N4 (hs.Az d _ h);have hl:d<a.tmps.size:=by rw[<-hs.len];exact AP h
 rw[Aw0 hl];rw[Aw1,Aw0 hl]at h1;exact congrArg some h1
theorem vl{w:World}{g:G}{σ:St}{a:Act}(hs:Ip w g σ a){d:Nat}(h:σ.Az[d]?=some .nil):a.tmps[d]?=some (.tuple #[]):=by
 have h1:a.tmps.getD d undef=.tuple #[]:=hs.Az d _ h;have hl:d<a.tmps.size:=by rw[<-hs.len];exact AP h
 rw[Aw0 hl];rw[Aw1,Aw0 hl]at h1;exact congrArg some h1
theorem Hp{w:World}{g:G}{σ:St}{a:Act}{BL:Array Oper}{o:Oper}{t:Bool}(hs:Ip w g σ a)(h:Want BL.toList σ o t):Region.wanted o (yielded BL a.tmps)=t:=by
 cases h with
 |plain h=>simp[Region.wanted,h]
 |guard h hd hb =>
  have h1:=pH hs hb;rw[Awn]at hd;simp[Region.wanted,h,yielded,hd,h1]
 |nil h hd hb =>
  have h1:=vl hs hb;rw[Awn]at hd;simp[Region.wanted,h,yielded,hd,h1]
theorem Ip.skip{w:World}{g:G}{σ:St}{a:Act}(h:Ip w g σ a)(d:Ay0 Nat):Ip w g (σ.skip d) (a.put d undef) where
 heap:=h.heap
 len:=by simp only[St.skip,VX,Rc];exact h.len
 Az:=bQ h.len h.Az (show BF w g _ .nil undef from rfl)
theorem put_defers(a:Act)(d:Ay0 Tmp)(v:Value):(a.put d v).defers=a.defers:=by cases d<;>rfl
theorem Vz(he:EnvOk P en){BL:Array Oper}{m:Nat}{Q:Exit->Act->World->Prop}:∀(is:AyZ Nat) (σ σ':St),Nj en BL.toList is σ some=some σ'->m<=σ.Ag.length->m<=σ'.Ag.length/\∀(a:Act) (w:World) (g:G),Ip w g σ a ->
    (∀a' w' g',Ip w' g' σ' a'->Bi m w g w' g'->a'.defers=a.defers->Q .normal a' w')->wpOps P BL Q is a w
 |[],σ,σ',h,hm=>by
  simp only[Nj,Awb]at h;subst h;exact⟨hm,λa w g hs hq=>hq a w g hs (Bi.refl _ _ _) rfl⟩
 |i::is,σ,σ',h,hm=>by
  simp only[Nj]at h;split at h
  ·cases h
  ·rename_i o ho;have ml:BL[i]?=some o:=by rw[<-Awn];exact ho
   rcases LW h with ⟨hw,h⟩|⟨hw,h⟩
   ·rw[N7 en he.UR]at h;cases hx:exec en σ o some with
    |none=>rw[hx]at h;cases h
    |some e =>
     rw[hx]at h;have Mp:=N8 he hx;have LX:=Mp.grow;obtain⟨hm',ih⟩:=Vz he (Q:=Q) is _ _ h (AwD hm LX);refine⟨hm',λa w g hs hq=>?_⟩;simp only[wpOps,ml];rw[Awr (Hp hs hw)];refine .inl (Mp.wp a w g hs _ Q λv w' g' hH hv BG=>?_);exact ih _ _ _ (hs.after LX hH hv BG) λa'' w'' oC Adp tV hd=>hq a'' w'' oC Adp ((BG.kZ hm).trans tV) (by rw[hd,put_defers])
   ·obtain⟨hm',ih⟩:=Vz he (Q:=Q) is _ _ h hm;refine⟨hm',λa w g hs hq=>?_⟩;simp only[wpOps,ml];rw[Hp hs hw];simp only[AwX,Axo];exact ih _ _ _ (hs.skip o.dst) λa'' w'' oC Adp tV hd=>hq a'' w'' oC Adp tV (by rw[hd,put_defers])
end
end Go.Va
namespace Go.Va
theorem PG{n:Nat}{ks:AyZ Nat}{k:Nat}:k∈UC n ks↔k<n/\k∈ks:=by simp[UC]
section
variable {w:World} {g:G} {n:Nat}
theorem Al.C8{ks:AyZ Nat}(h:∀k∈ks,k<n){b:Nat}(a:Al g.own ks b):Al g.own (UC n ks) b:=a.mono λk hk=>PG.2 ⟨h k hk,hk⟩
theorem Yc(a:AV):(a.C8 n).KT=a.KT:=by cases a<;>rfl
theorem W4(a:AV):(a.C8 n).isAgg=a.isAgg:=by cases a<;>rfl
theorem fw(a:AV):(a.C8 n).Cz=a.Cz:=by cases a<;>rfl
theorem B9.C8:∀(a:AV) (m:Bool) {cs:AyZ Value},B9 w g n m a cs->B9 w g n m (a.C8 n) cs
 |.Aw ks t x,false,cs,⟨hk,r⟩=>⟨λk h=>(PG.1 h).1,r.mono λb a=>⟨a.C8 hk,rfl⟩⟩
 |.zs,false,_,h=>h
 |.AA _,false,_,h=>h
 |.mp _,false,_,h=>h
 |.ptr _ _ _ _,false,_,h=>h
 |.D7 ks t x,false,cs,⟨hk,b,off,ds,e,ha,r,hc⟩=>⟨λk h=>(PG.1 h).1,b,off,ds,e,ha.C8 hk,r.mono λb a=>⟨a.C8 hk,rfl⟩,hc⟩
 |.JH,false,_,h=>h
 |.O1 _ _ _ _ _,false,_,h=>h
 |.QF _ _ _ _ _ _,false,_,h=>h
 |.pr a b,false,_,⟨c,e,he,h1,h2⟩=>⟨c,e,he,B9.C8 a _ h1,B9.C8 b _ h2⟩
 |.fn f c,false,_,⟨vs,e,hx⟩=>⟨vs,e,B9.C8 c true hx⟩
 |.un k,false,_,h=>h
 |.cons a b,true,_,⟨v,r,e,h1,h2⟩=>by
  refine⟨v,r,e,?_,B9.C8 b true h2⟩;rw[Yc,W4];exact h1.imp id λ⟨cs,hx,hv⟩=>⟨cs,B9.C8 a _ hx,hv⟩
 |.nil,true,_,h=>h
 |.cons _ _,false,_,h=>h.elim
 |.nil,false,_,h=>h.elim
 |.O1 _ _ _ _ _,true,_,h=>h.elim
 |.QF _ _ _ _ _ _,true,_,h=>h.elim
 |.Aw _ _ _,true,_,h=>h.elim
 |.zs,true,_,h=>h.elim
 |.AA _,true,_,h=>h.elim
 |.mp _,true,_,h=>h.elim
 |.ptr _ _ _ _,true,_,h=>h.elim
 |.D7 _ _ _,true,_,h=>h.elim
 |.JH,true,_,h=>h.elim
 |.pr _ _,true,_,h=>h.elim
 |.fn _ _,true,_,h=>h.elim
 |.un _,true,_,h=>h.elim
theorem BF.C8{a:AV}{v:Value}(h:BF w g n a v):BF w g n (a.C8 n) v:=by
 cases ht:a.Cz with
 |false =>
  rw[BF.iff ht]at h;rw[BF.iff (by rw[fw];exact ht),Yc,W4];exact h.imp id λ⟨cs,hx,hv⟩=>⟨cs,B9.C8 a _ hx,hv⟩
 |true =>
  cases a with
  |cons a b=>obtain⟨vs,e,h⟩:=h;exact⟨vs,e,B9.C8 _ true h⟩
  |nil=>exact h
  |_=>cases ht
theorem J2.C8{k:Nat}{b:Blk}(h:J2 w g n k b):J2 w g n k (b.C8 n):=by
 cases b with
 |Be=>trivial
 |map m kt vt es st =>
  cases m with
  |Ao=>exact h
  |sh ks =>
   obtain⟨Ng,b,FK,CL,ha,ho,hh,NT,hm⟩:=h;exact⟨λj hj=>(PG.1 hj).1,b,FK,CL,ha,ho,hh,NT,hm.on λi x c r=>by
    exact r.mono λb a=>⟨a.C8 Ng,rfl⟩⟩
 |Nh e t xs i p=>exact h
 |tail e t xs=>exact h
 |box a =>
  obtain⟨h1,b,cs,e,ha,ho,hh,hx⟩:=h;exact⟨h1,b,cs,e,ha,ho,hh,B9.C8 a _ hx⟩
 |row e m t xs =>
  cases m with
  |Ao=>exact h
  |sh ks =>
   obtain⟨Ng,hlen,Mg,BB,hr⟩:=h;refine⟨λj hj=>(PG.1 hj).1,hlen,Mg,BB,hr.imp id λ⟨b,Bh,ds,ha,ho,hh,h1,h2,h3,h4,hc⟩=>⟨b,Bh,ds,ha,ho,hh,h1,h2,h3,h4,?_⟩⟩;exact hc.mono λx c r=>r.mono λb a=>⟨a.C8 Ng,rfl⟩
end
def G.pick(g:G)(π:AyZ Nat):G:=⟨λb=>match g.own b with |.Bs k r=>if k∈π then .Bs (idxOf π k) r else .no |t=>t,λj=>g.AK (π.getD j 0)⟩
theorem Pm{bs:AyZ Blk}{m:Nat}{π BX:AyZ Nat}(h:pw bs m π BX=true):π.take m=List.range m/\nodup π=true/\(∀k∈BX,k∈π)/\∀k∈π,∃b,bs[k]?=some b/\∀j∈b.BX,j∈π:=by
 simp only[pw,Awg,Axj]at h
 grind
theorem uT{m:Nat}{π:AyZ Nat}(h:π.take m=List.range m):m<=π.length/\∀j,j<m->π[j]?=some j:=by
 have hl:(π.take m).length=m:=by grind
 rw[Awu]at hl;refine⟨by omega,λj hj=>?_⟩;have:(π.take m)[j]?=some j:=by grind
 grind
section
variable {w:World} {g:G} {bs:AyZ Blk} {π BX:AyZ Nat} {m:Nat}
theorem VU{k:Nat}(hk:k∈π):Ren (idxOf π) g (g.pick π) π.length k where
 lt:=db hk
 AK:=by
  have:=da hk;simp[G.pick,this]
 own b r h:=by simp[G.pick,h,hk]
theorem VT{b:Nat}(h:g.own b=.GH):(g.pick π).own b=.GH:=by simp[G.pick,h]
theorem bu(H:A1 w g bs)(h:pw bs m π BX=true):A1 w (g.pick π) (π.map λk=>(((bs[k]?).getD .Be).K3 (idxOf π)).C8 π.length):=by
 obtain⟨_,hn,_,U7⟩:=Pm h;refine⟨λb hb=>by simp[G.pick,H.Bz b hb],λj x hx=>?_⟩;rw[AwC]at hx;cases hj:π[j]? with
 |none=>grind
 |some k =>
  rw[hj]at hx;injection hx with hx;subst hx;have hk :=Axn hj;obtain⟨b,hb,Nf⟩:=U7 k hk;have:=(H.Js k b hb).K3    (λb h=>VT h) (VU hk) (λj hj=>VU (Nf j hj));rw[WC hn hj]at this;simp only[hb,Awl];exact this.C8
theorem bw(h:pw bs m π BX=true):Bi m w g w (g.pick π)/\m<=π.length:=by
 obtain⟨ht,hn,_,U7⟩:=Pm h;obtain⟨h1,h2⟩:=uT ht;refine⟨⟨rfl,rfl,rfl,Awf _,λb _ h=>⟨by simp[G.pick,h],rfl⟩,λb h=>⟨VT h,rfl⟩,λb k p h hk hm=>(hm (List.mem_range.2 hk)).elim,λk hk=>?_⟩,h1⟩;simp[G.pick,h2 k hk]
theorem aW:∀{Bb:AyZ Nat} {l:AyZ AV} {j i:Nat} {x:AV},(Nm Bb j l)[i]?=some x->∃y,l[i]?=some y/\(x=y\/x=.un 0)
 |Bb,a::r,j,0,x,h=>by
  simp only[Nm,List.getElem?_cons_zero,Awb]at h
  grind
 |Bb,a::r,j,i+1,x,h=>by
  simp only[Nm]at h;obtain⟨y,hy,hx⟩:=aW h
  grind
 |_,[],_,_,_,h=>by simp[Nm]at h
theorem WE(Bb:AyZ Nat):∀(l:AyZ AV) (j:Nat),(Nm Bb j l).length=l.length
 |[],_=>rfl
 |_::r,j=>by simp[Nm,WE Bb r]
theorem ze{σ σ0:St}{l:AyZ Nat}(h:σ.AY m l=some σ0){a:Act}(hs:Ip w g σ a):∃g0,Ip w g0 σ0 a/\Bi m w g w g0/\m<=σ0.Ag.length:=by
 unfold St.AY at h
 dsimp only at h
 split at h
 ·rename_i hp;injection h with h;subst h;obtain⟨BG,hm⟩:=bw   hp;obtain⟨_,_,Nf,_⟩:=Pm hp;refine⟨_,⟨bu hs.heap hp,by simp[WE];exact hs.len,λi x hx=>?_⟩,BG,by grind⟩;simp only[Awl];rw[AwC]at hx;cases hq:(Nm l 0 σ.Az)[i]? with
  |none=>grind
  |some y =>
   rw[hq]at hx;injection hx with hx;subst hx;obtain⟨z,hz,hyz⟩:=aW hq;rcases hyz with rfl |rfl
   ·exact((hs.Az i y hz).K3 (λb h=>VT h) λk hk=>VU (Nf k (List.mem_flatMap.2 ⟨y,Axn hq,hk⟩))).C8
   ·exact M4
 ·grind
theorem sX{m:Nat}{Z:AyZ Nat}:Bi m w g w (g.RL Z) :=
 ⟨rfl,rfl,rfl,Awf _,λb _ h=>⟨by simp[G.RL,h],rfl⟩,λb h=>⟨cM h,rfl⟩,λb k p h hk hm=>(hm (List.mem_range.2 hk)).elim,λk hk=>rfl⟩
theorem cL{bs:AyZ Blk}(H:A1 w g bs){m:Nat}{t:Ty}{v v':AV}{FQ:AyZ Blk}(h:sW m t v bs=some (v',FQ)) :
    ∃g',A1 w g' FQ/\FQ.length=bs.length/\Bi m w g w g'/\(∀a u,BF w g bs.length a u->BF w g' bs.length a.Vd u)/\(∀u,BF w g bs.length v u->BF w g' bs.length v' u)/\(∀k,g'.AK k=g.AK k)/\∀cs,B9 w g bs.length false v cs->B9 w g' bs.length false v' cs:=by
 unfold sW at h;split at h
 ·rename_i x hr;obtain⟨rfl,rfl⟩:=h;have key:∀cs,B9 w g bs.length false v cs->B9 w (g.RL ((v.PD bs).filter λk=>!decide (k<m))) bs.length false (.Aw ((v.PD bs).filter λk=>decide (k<m)) t x) cs:=by
   intro cs Pj;obtain⟨ZT,Cw⟩:=MD H t v x cs hr Pj;refine⟨λk hk=>Cw k (List.mem_filter.1 hk).1,ZT.mono λb a=>⟨a.Ph.mono λk hk=>?_,rfl⟩⟩
   grind
  refine⟨g.RL _,fS H _,by simp[AQ],sX,λa u h=>h.Ph _,λu hu=>?_,λk=>rfl,?_⟩
  ·obtain⟨h1,h2⟩:=QH hr;obtain⟨cs,Pj,hv⟩:=BD h1 h2 hu;exact A9  rfl (key cs Pj) (by rw[show(AV.Aw _ t x).isAgg=v.isAgg from(UV hr).symm];exact hv)
  ·grind
 ·grind
end
section
variable {w:World} {g:G} {bs:AyZ Blk} {m:Nat}
end
section
variable {w:World} {g:G} {bs:AyZ Blk} {m:Nat}
theorem jI(H:A1 w g bs){c:Co}{a a':AV}{nb:AyZ Blk}(h:oh bs c a=some (a',nb)){v:Value}(hx:BF w g bs.length a v):∃g',A1 w g' (bs++nb)/\BF w g' (bs++nb).length a' v/\Step [] bs.length w g w g':=by
 have dK:a'=a/\nb=[]->∃g',A1 w g' (bs++nb)/\BF w g' (bs++nb).length a' v/\Step [] bs.length w g w g':=by
  rintro⟨rfl,rfl⟩
  exact⟨g,by grind,by grind,Step.refl _ _ _ _⟩
 have Avu:a.Cz=true\/a.KT=true->a'=a/\nb=[]:=by
  intro hq;cases c with
  |Aw t =>
   simp only[oh]at h;split at h
   ·rename_i y hy;obtain⟨h1,h2⟩:=QH hy
    grind
   ·grind
  |Xt ks=>cases a<;>simp_all [oh,AV.Cz,AV.KT]
  |row p e t Ao =>
   have:a.Qz p≠some .zs:=by
    cases a<;>simp[AV.Cz,AV.KT]at hq<;>cases p<;>simp[AV.Qz,AV.U6]
   simp only[oh]at h
   grind
 by_cases ht:a.Cz=true
 ·grind
 ·by_cases hu:a.KT=true
  ·grind
  ·obtain⟨cs,Pj,hv⟩:=BD (by grind) (by grind) hx;obtain⟨g',h1,h2,h3,h4⟩:=jJ H h Pj;exact⟨g',h1,A9 (QE h2) h2 (by grind),h4⟩
theorem AcJ{σ σ':St}{s:Nat}{b:Bool}{c:Co}(h:coS σ s b c=some σ'){a:Act}(hs:Ip w g σ a)(hm:m<=σ.Ag.length):∃g',Ip w g' σ' a/\Bi m w g w g'/\m<=σ'.Ag.length:=by
 unfold coS at h;split at h
 ·grind
 ·rename_i v hv;cases b with
  |false =>
   simp only[Awo]at h;split at h
   ·rename_i v' nb tf;injection h with h;subst h;obtain⟨g',h1,h2,h3⟩:=jI hs.heap tf (hs.Az s v hv);refine⟨g',⟨h1,by simp only[Awi];exact hs.len,λi x hx=>?_⟩,h3.kZ hm,by grind⟩;rw[Awy]at hx;split at hx
    ·grind
    ·exact(hs.Az i x hx).M3 h3 (by simp)
   ·grind
  |true =>
   split at h
   ·rename_i k i p o;split at h
    ·rename_i a0 hb;split at h
     ·rename_i a' nb tf;injection h with h;subst h;obtain⟨hlen,bb,cs,e,ha,ho,hh,hx⟩:=hs.heap.Js k _ hb;obtain⟨g',h1,h2,h3,h4⟩:=jJ hs.heap tf hx;have hk:=AP hb;have ji:(σ.Ag.set k (.box a')++nb).length=(σ.Ag++nb).length:=by simp
      refine⟨g',⟨⟨h1.Bz,λj x hj=>?_⟩,hs.len,λi x j7=>(hs.Az i x j7).M3 h4 (by simp)⟩,h4.kZ hm,by grind⟩;rw[ji];rw[Awz]at hj;split at hj
      ·rename_i WA;rw[Awi]at WA;rw[Awy]at hj;split at hj
       ·rename_i ek;subst ek;injection hj with hj;subst hj;have hl:=h4.Bs bb k [] ho hk (by simp);exact⟨by rw[h4.AK k hk];exact hlen,bb,cs,e,by rw[h4.AK k hk];exact ha,hl.1,hh,h2⟩
       ·exact h1.Js j x (by grind)
      ·rename_i WA;rw[Awi]at WA hj;exact h1.Js j x (by grind)
     ·grind
    ·grind
   ·grind
theorem Ye:∀{l:AyZ (Nat×Bool×Co)} {σ σ':St} {g:G},Vo l σ=some σ'->∀{a:Act},Ip w g σ a->m<=σ.Ag.length->∃g',Ip w g' σ' a/\Bi m w g w g'/\m<=σ'.Ag.length
 |[],σ,σ',g,h,a,hs,hm=>by
  simp only[Vo,Awb]at h;subst h;exact⟨g,hs,Bi.refl _ _ _,hm⟩
 |(s,b,c)::r,σ,σ',g,h,a,hs,hm=>by
  simp only[Vo]at h;split at h
  ·rename_i σ1 h1;obtain⟨g1,Oa,Nq,QA⟩:=AcJ h1 hs hm;obtain⟨g2,T7,LS,P6⟩:=Ye h Oa QA;exact⟨g2,T7,Nq.trans LS,P6⟩
  ·grind
theorem YY{bs:AyZ Blk}(H:A1 w g bs){k e:Nat}{md:RM}{t:Ty}{xs:AyZ t.V}(hb:bs[k]?=some (.row e md t xs))(Mn:k∉md.BX) :
    ∃g',A1 w g' (Blk.Eu (A0 [k] bs) [k]++[.row e md t xs])/\Step [k] bs.length w g w g'/\g'.AK bs.length=g.AK k:=by
 obtain⟨Ng,hlen,Mg,BB,hr⟩:=H.Js k _ hb
 let n:=bs.length
 let f:Nat->AyZ Nat->Pp:=λj r=>if j=k then .Bs n r else .Bs j r
 let g':=g.P7 f none n (g.AK k)
 have st:Step [k] n w g w g':=Step.P7 H.Bz rfl rfl rfl (Awf _) (λ_ _ _=>rfl) (λq h=>by grind) (Awf _) λj r _ hm=>by
  grind
 have Mf:g'.AK n=g.AK k:=by simp[g',G.P7]
 refine⟨g',H.U5 st (J8 H.Bz (Awf _) λq h=>by grind) (by simp[AQ,Ar]) λj y hj=>?_,st,Mf⟩;rw[Awz]at hj;split at hj
 ·rcases Ha hj with h |⟨cP,h⟩
  ·grind
  ·obtain⟨y',QB,rfl⟩:=CF h
   grind
 ·rename_i Cw;rw[AQ,Ar]at hj Cw;have aR:j-bs.length=0:=by
   grind
  rw[aR]at hj;obtain rfl:j=n:=by omega
  simp only[List.getElem?_cons_zero,Awb]at hj;subst hj;refine .inr (.inr ⟨λj hj=>by have:=Ng j hj;simp[AQ,Ar];omega,by grind,by grind,BB,?_⟩);rw[Mf];refine hr.imp id λ⟨b,Bh,ds,ha,BW,tg,p1,p2,p3,p4,Nb⟩=>⟨b,Bh,ds,ha,by rw[Gv (by simp) BW];simp[f],tg,p1,p2,p3,p4,?_⟩;rw[CQ];refine(CQ.1 Nb).mono λi x c RX=>RX.on ?_;cases md with
  |Ao=>exact λb q hb=>⟨by rw[Gv (by simp) hb];simp[f],rfl⟩
  |sh ks =>
   intro b hb;rcases hb with hb |⟨j,hj,r,hb⟩
   ·exact⟨.inl (Qs (by simp) hb),rfl⟩
   ·refine⟨.inr ⟨j,hj,r,?_⟩,rfl⟩;have:j≠k:=λe=>Mn (e▸hj);rw[Gv (by simp) hb];simp[f,this]
theorem du:∀{l:AyZ Nat} {σ σ':St} {g:G},mvS m l σ=some σ'->∀{a:Act},Ip w g σ a->m<=σ.Ag.length->∃g',Ip w g' σ' a/\Bi m w g w g'/\m<=σ'.Ag.length
 |[],σ,σ',g,h,a,hs,hm=>by
  simp only[mvS,Awb]at h;subst h;exact⟨g,hs,Bi.refl _ _ _,hm⟩
 |s::r,σ,σ',g,h,a,hs,hm=>by
  simp only[mvS]at h;split at h
  ·rename_i k hv;split at h
   ·split at h
    ·rename_i e md t xs hb;split at h
     ·grind
     ·rename_i Mn;obtain⟨g1,H1,st,QK⟩:=YY hs.heap hb (by grind);have hl:(Blk.Eu (A0 [k] σ.Ag) [k]++[Blk.row e md t xs]).length=σ.Ag.length+1:=by simp[AQ,Ar]
      have Oa:Ip w g1 ⟨(Pr [k] σ.Az).set s (.AA σ.Ag.length),Blk.Eu (A0 [k] σ.Ag) [k]++[.row e md t xs]⟩ a:=by
       refine⟨H1,by simp[Pr];exact hs.len,λi x hx=>?_⟩;simp only[hl];rw[Awy]at hx;split at hx
       ·rename_i e';subst e';split at hx
        ·injection hx with hx;subst hx;obtain⟨hk,yN⟩:=DV (hs.Az s _ hv);rw[yN];exact A9  rfl ⟨AwP _,by grind⟩ rfl
        ·grind
       ·obtain⟨y,hy,rfl⟩:=TE hx;exact(hs.Az i y hy).step st (AwK _)
      obtain⟨g2,T7,LS,P6⟩:=du h Oa (by grind);exact⟨g2,T7,(st.kZ hm).trans LS,P6⟩
    ·grind
   ·exact du h hs hm
  ·exact du h hs hm
theorem rB{w:World}{g:G}{n j N:Nat}{p:AyZ Nat}{a a2:AV}{v:Value}(h:BF w g n a v)(hp:a.Qz p=some (.AA j))(F2:a.U1 p (.AA N)=some a2)(hN:N<n)(QK:g.AK N=g.AK j):BF w g n a2 v:=by
 cases p with
 |nil =>
  simp only[AV.Qz,Awb]at hp;simp only[AV.U1,Awb]at F2;subst hp;subst F2;obtain⟨_,hv⟩:=DV h;rw[hv,<-QK];exact A9  rfl ⟨hN,rfl⟩ rfl
 |cons f p =>
  have h2 :=by
   simp only[AV.U1]at F2;split at F2
   ·split at F2
    ·exact U0 F2
    ·grind
   ·grind
  have h1:a.isAgg=true/\a.Cz=false/\a.KT=false:=by
   simp only[AV.Qz]at hp;cases a with
   |pr x y=>exact⟨rfl,rfl,rfl⟩
   |Aw ks t x =>
    cases t with
    |AH b c=>exact⟨rfl,rfl,rfl⟩
    |_=>simp[AV.U6,Si]at hp
   |_=>simp[AV.U6]at hp
  obtain⟨cs,Pj,hv⟩:=BD h1.2.1 h1.2.2 h;obtain⟨c0,c1,c2,e1,_,hr,UK⟩:=Nz _ _ cs _ Pj hp;obtain⟨_,G3⟩:=hr;have jl:=UK _ a2 c1 F2 ⟨hN,by grind⟩;rw[<-e1]at jl;have ht:a2.Cz=false:=by cases a2<;>first |rfl |cases h2
  exact A9 ht jl (by grind)
theorem uH{m s:Nat}{p:AyZ Nat}{a:Act}{a0:AV}{σ σ2:St}{g:G}(jj:σ.Az[s]?=some a0)(h:mvV m s p a0 σ=some σ2)(hs:Ip w g σ a)(hm:m<=σ.Ag.length):∃g',Ip w g' σ2 a/\Bi m w g w g'/\m<=σ2.Ag.length:=by
 unfold mvV at h;split at h
 ·split at h
  ·split at h
   ·rename_i e md t xs hj;split at h
    ·grind
    ·rename_i Mn;split at h
     ·rename_i j' a2 YF F2;split at h
      ·rename_i hc;subst hc;injection h with h;subst h;obtain⟨g1,H1,st,QK⟩:=YY hs.heap hj (by grind);have hl:(Blk.Eu (A0 [j'] σ.Ag) [j']++[Blk.row e md t xs]).length=σ.Ag.length+1:=by simp[AQ,Ar]
       refine⟨g1,⟨H1,by simp[Pr];exact hs.len,λi x hx=>?_⟩,st.kZ hm,by grind⟩;rw[hl];rcases N0 hx with ⟨rfl,rfl⟩|⟨RY,hx⟩
       ·have hv:=(hs.Az i a0 jj).step st (AwK _);exact rB hv YF F2 (AwP _) (by rw[QK,st.AK j' (AP hj)])
       ·obtain⟨y,hy,rfl⟩:=TE (show(Pr [j'] _)[i]?=some x from hx);exact(hs.Az i y hy).step st (AwK _)
      ·grind
     ·grind
   ·grind
  ·injection h with h;subst h;exact⟨g,hs,Bi.refl _ _ _,hm⟩
 ·grind
theorem kx{m k:Nat}{p:AyZ Nat}{w:World}{a:Act}{σ σ2:St}{g:G}(h:mvB m k p σ=some σ2)(hs:Ip w g σ a)(hm:m<=σ.Ag.length):∃g',Ip w g' σ2 a/\Bi m w g w g'/\m<=σ2.Ag.length:=by
 unfold mvB at h;split at h
 ·rename_i a0 hb;split at h
  ·split at h
   ·split at h
    ·rename_i e md t xs hj;split at h
     ·grind
     ·rename_i Mn;split at h
      ·rename_i j' a2 YF F2;split at h
       ·rename_i hc;obtain⟨rfl,hkj⟩:=hc;injection h with h;subst h;obtain⟨g1,H1,st,QK⟩:=YY hs.heap hj (by grind);have hl:(Blk.Eu (A0 [j'] σ.Ag) [j']++[Blk.row e md t xs]).length=σ.Ag.length+1:=by simp[AQ,Ar]
        have hk:=AP hb;have aO:(Blk.Eu (A0 [j'] σ.Ag) [j']++[Blk.row e md t xs])[k]?=some (.box (a0.drop λq=>[j'].contains q)):=by
         rw[Aww (by grind)];simp only[Blk.Eu,A0,Awy,AwC,hb,Option.map_some,Blk.drop,Aws (λe:j'=k=>hkj e.symm)]
        obtain⟨h1,bb,cs,el,ha,ho,hh,hx⟩:=H1.Js k _ aO;rw[hl]at hx;obtain⟨c0,c1,c2,e1,_,hr,UK⟩:=Nz p _ cs.toList _ hx YF;obtain⟨WA,G3⟩:=hr;have jl:=UK (.AA σ.Ag.length) a2 c1 F2 ⟨AwP _,by rw[G3,QK,st.AK j' (AP hj)]⟩;rw[<-e1]at jl;refine⟨g1,⟨⟨H1.Bz,λq x hq=>?_⟩,by simp[Pr];exact hs.len,λi x hx=>?_⟩,st.kZ hm,by grind⟩
        ·rw[Awi,hl];rw[Awy]at hq;split at hq
         ·rename_i e';subst e';split at hq
          ·injection hq with hq;subst hq;exact⟨h1,bb,cs,el,ha,ho,hh,jl⟩
          ·grind
         ·have:=H1.Js q x hq;rwa [hl]at this
        ·simp only[Awi,hl];obtain⟨y,hy,rfl⟩:=TE (show(Pr [j'] σ.Az)[i]?=some x from hx);exact(hs.Az i y hy).step st (AwK _)
       ·grind
      ·grind
    ·grind
   ·injection h with h;subst h;exact⟨g,hs,Bi.refl _ _ _,hm⟩
  ·grind
 ·grind
theorem mJ:∀{l:AyZ (Nat×AyZ Nat)} {σ σ':St} {g:G},uG m l σ=some σ'->∀{a:Act},Ip w g σ a->m<=σ.Ag.length->∃g',Ip w g' σ' a/\Bi m w g w g'/\m<=σ'.Ag.length
 |[],σ,σ',g,h,a,hs,hm=>by
  simp only[uG,Awb]at h;subst h;exact⟨g,hs,Bi.refl _ _ _,hm⟩
 |(s,p)::r,σ,σ',g,h,a,hs,hm=>by
  simp only[uG]at h;split at h
  ·rename_i σ1 h1;have h2 :=by
    unfold mvP at h1;split at h1
    ·exact kx h1 hs hm
    ·rename_i a0 jj;exact uH jj h1 hs hm
    ·grind
   obtain⟨g1,Oa,Nq,QA⟩:=h2;obtain⟨g2,T7,LS,P6⟩:=mJ h Oa QA;exact⟨g2,T7,Nq.trans LS,P6⟩
  ·grind
theorem VD:∀{l:AyZ (Nat×Bool×Ty)} {σ σ':St} {g:G},cK m l σ=some σ'->∀{a:Act},Ip w g σ a->m<=σ.Ag.length->∃g',Ip w g' σ' a/\Bi m w g w g'/\m<=σ'.Ag.length
 |[],σ,σ',g,h,a,hs,hm=>by
  simp only[cK,Awb]at h;subst h;exact⟨g,hs,Bi.refl _ _ _,hm⟩
 |(s,false,t)::r,σ,σ',g,h,a,hs,hm=>by
  simp only[cK]at h;split at h
  ·exact VD h hs hm
  ·rename_i v _ hv;split at h
   ·rename_i v' FQ hf;obtain⟨g1,H1,hl,Nq,ha,ZV,_,_⟩:=cL hs.heap hf;have Oa:Ip w g1 ⟨(σ.Az.map AV.Vd).set s v',FQ⟩ a:=by
     refine⟨H1,by simpa using hs.len,λi x hx=>?_⟩;simp only[hl];rw[Awy]at hx;split at hx
     ·rename_i e;subst e;split at hx
      ·injection hx with hx;subst hx;exact ZV _ (hs.Az s v hv)
      ·grind
     ·rw[AwC]at hx;cases hq:σ.Az[i]? with
      |none=>grind
      |some y =>
       rw[hq]at hx;injection hx with hx;subst hx;exact ha _ _ (hs.Az i y hq)
    obtain⟨g2,T7,LS,P6⟩:=VD h Oa (by grind);exact⟨g2,T7,Nq.trans LS,P6⟩
   ·grind
  ·grind
 |(s,true,t)::r,σ,σ',g,h,a,hs,hm=>by
  simp only[cK]at h;split at h
  ·rename_i k _ _ _ hv;split at h
   ·rename_i a0 hb;split at h
    ·rename_i a' FQ hf;obtain⟨g1,H1,hl,Nq,ha,ZV,QK,YI⟩:=cL hs.heap hf;split at h
     ·rename_i a1 aO;have Oa:Ip w g1 ⟨σ.Az.map AV.Vd,FQ.set k (.box a')⟩ a:=by
       refine⟨⟨H1.Bz,λj x hj=>?_⟩,by simpa using hs.len,λi x hx=>?_⟩
       ·rw[Awi];rw[Awy]at hj;split at hj
        ·rename_i e;subst e;split at hj
         ·injection hj with hj;subst hj;obtain⟨p1,b,cs,e,l6,ho,hh,hx⟩:=H1.Js k _ aO;obtain⟨q1,b2,cs2,e2,ha2,mo,hh2,jl⟩:=hs.heap.Js k _ hb;rw[QK,ha2]at l6;injection l6 with l6;injection l6 with l6;subst l6;rw[hh2]at hh;injection hh with hh;injection hh with hh;exact⟨p1,b2,cs2,e2,by grind,ho,hh2,by grind⟩
         ·grind
        ·exact H1.Js j x hj
       ·simp only[Awi,hl];rw[AwC]at hx;cases hq:σ.Az[i]? with
        |none=>grind
        |some y =>
         rw[hq]at hx;injection hx with hx;subst hx;exact ha _ _ (hs.Az i y hq)
      obtain⟨g2,T7,LS,P6⟩:=VD h Oa (by grind);exact⟨g2,T7,Nq.trans LS,P6⟩
     ·grind
    ·grind
   ·grind
  ·exact VD h hs hm
theorem lf{ks:AyZ Nat}{n:Nat}(hk:∀j∈ks,j<n):∀{a:AV} {cs:AyZ Value},B9 w g n false a cs->B9 w g n false (a.wid ks) cs
 |.Aw l t x,cs,h=>by
  unfold AV.wid;split
  ·rename_i hc;have UL:∀j∈l,j∈ks:=λj hj=>by grind
   exact⟨hk,h.2.mono λb a=>⟨a.mono UL,rfl⟩⟩
  ·grind
 |.pr _ _,_,⟨c,d,e,h1,h2⟩=>⟨c,d,e,lf hk h1,lf hk h2⟩
 |.zs,_,h=>h
 |.AA _,_,h=>h
 |.ptr _ _ _ _,_,h=>h
 |.D7 _ _ _,_,h=>h
 |.JH,_,h=>h
 |.O1 _ _ _ _ _,_,h=>h
 |.QF _ _ _ _ _ _,_,h=>h
 |.mp _,_,h=>h
 |.fn _ _,_,h=>h
 |.un _,_,h=>h
 |.cons _ _,_,h=>h.elim
 |.nil,_,h=>h.elim
theorem eA:∀{l:AyZ (Nat×AyZ Nat)} {bs FQ:AyZ Blk},et l bs=some FQ->A1 w g bs->A1 w g FQ/\FQ.length=bs.length
 |[],bs,FQ,h,H=>by
  simp only[et,Awb]at h;subst h;exact⟨H,rfl⟩
 |(k,ks)::r,bs,FQ,h,H=>by
  simp only[et]at h;split at h
  ·rename_i e l t xs hb;split at h
   ·rename_i hc;rw[Awg]at hc;have UL:∀j∈l,j∈ks:=λj hj=>by grind
    have Cw:∀j∈ks,j<bs.length:=λj hj=>by grind
    have H1:A1 w g (bs.set k (.row e (.sh ks) t xs)):=by
     refine⟨H.Bz,λj x hx=>?_⟩;rw[Awi];rw[Awy]at hx;split at hx
     ·rename_i ek;subst ek;split at hx
      ·injection hx with hx;subst hx;obtain⟨Ng,hlen,Mg,BB,hr⟩:=H.Js k _ hb;refine⟨Cw,hlen,Mg,BB,hr.imp id λ⟨b,Bh,ds,ha,ho,hh,h1,h2,h3,h4,hc⟩=>⟨b,Bh,ds,ha,ho,hh,h1,h2,h3,h4,?_⟩⟩;exact hc.mono λx c r=>r.mono λb a=>⟨a.mono UL,rfl⟩
      ·grind
     ·exact H.Js j x hx
    obtain⟨H2,hl⟩:=eA h H1
    grind
   ·grind
  ·rename_i a hb;split at h
   ·rename_i hc;have Cw:∀j∈ks,j<bs.length:=λj hj=>by grind
    have H1:A1 w g (bs.set k (.box (a.wid ks))):=by
     refine⟨H.Bz,λj x hx=>?_⟩;rw[Awi];rw[Awy]at hx;split at hx
     ·rename_i ek;subst ek;split at hx
      ·injection hx with hx;subst hx;obtain⟨hlen,b,cs,e,ha,ho,hh,hr⟩:=H.Js k _ hb;exact⟨hlen,b,cs,e,ha,ho,hh,lf Cw hr⟩
      ·grind
     ·exact H.Js j x hx
    obtain⟨H2,hl⟩:=eA h H1
    grind
   ·grind
  ·grind
theorem Rs{h:SH}{σ σ':St}(hh:σ.head h m=some σ'){a:Act}(hs:Ip w g σ a)(hm:m<=σ.Ag.length):∃g',Ip w g' σ' a/\Bi m w g w g'/\m<=σ'.Ag.length:=by
 unfold St.head at hh;split at hh
 ·grind
 ·rename_i σ0 h0;rw[AwZ]at h0;obtain⟨σz,hz,h0⟩:=h0;rw[AwZ]at hz;obtain⟨σy,hy,hz⟩:=hz;obtain⟨gy,hsy,sty,hmy⟩:=du hy hs hm;obtain⟨gz,J9,ArC,hmz⟩:=mJ hz hsy hmy;have stz:=sty.trans ArC;obtain⟨g0,jj,st0,mh⟩:=VD h0 J9 hmz;split at hh
  ·grind
  ·rename_i σ1 h1;obtain⟨g1,Oa,Nq,QA⟩:=Ye h1 jj mh;split at hh
   ·grind
   ·rename_i σ2 h2;obtain⟨g2,T7,LS,P6⟩:=ze h2 Oa;split at hh
    ·grind
    ·rename_i bs h3;obtain⟨H3,hl⟩:=eA h3 T7.heap;have gA:Ip w g2 ⟨σ2.Az,bs⟩ a:=⟨H3,T7.len,λi x hx=>by simp only[hl];exact T7.Az i x hx⟩;obtain⟨g3,hs4,st3,hm3⟩:=Ye hh gA (by simp only[hl];exact P6);exact⟨g3,hs4,(((stz.trans st0).trans Nq).trans LS).trans st3,hm3⟩
end
theorem yd{σ σ':St}{s:Nat}{b:Bool}{c:Co}(h:coS σ s b c=some σ'):σ.Ag.length<=σ'.Ag.length:=by
 unfold coS at h;split at h
 ·grind
 grind
theorem aD:∀{l:AyZ (Nat×Bool×Co)} {σ σ':St},Vo l σ=some σ'->σ.Ag.length<=σ'.Ag.length
 |[],σ,σ',h=>by
  simp only[Vo,Awb]at h;subst h;exact Awf _
 |(s,b,c)::r,σ,σ',h=>by
  simp only[Vo]at h;split at h
  ·rename_i σ1 h1;exact AwD (yd h1) (aD h)
  ·grind
theorem Zw:∀{l:AyZ (Nat×AyZ Nat)} {bs FQ:AyZ Blk},et l bs=some FQ->FQ.length=bs.length
 |[],bs,FQ,h=>by
  simp only[et,Awb]at h;subst h;rfl
 |(k,ks)::r,bs,FQ,h=>by
  simp only[et]at h;split at h
  ·split at h
   ·rw[Zw h,Awi]
   ·grind
  ·split at h
   ·rw[Zw h,Awi]
   ·grind
  ·grind
theorem Q2{h:SH}{m:Nat}{σ σ':St}(hh:σ.head h m=some σ'):m<=σ'.Ag.length:=by
 unfold St.head at hh;split at hh
 ·grind
 ·split at hh
  ·grind
  ·split at hh
   ·grind
   ·rename_i σ2 h2;split at hh
    ·grind
    ·rename_i bs h3;refine AwD ?_ (aD hh);simp only[Zw h3];unfold St.AY at h2
     dsimp only at h2
     split at h2
     ·rename_i hp;injection h2 with h2;subst h2;have:=(uT (Pm hp).1).1;simpa using this
     ·grind
def cB:Ex->Exit
 |.normal=>.normal
 |.exit n=>.exit n
 |.ret=>.ret
theorem p9{P:Program}{Q:Exit->Act->World->Prop}{c:Code}(R:Nat->Act->World->Prop)(round:∀n a w,R n a w->c.wp P (Exit.then (λa' w'=>∃k,k<n/\R k a' w') Q) a w){n:Nat}{a:Act}{w:World}(h0:R n a w):(Code.loop c).wp P Q a w:=by
 intro b k cs;have key:∀n a w,R n a w->∃e a' w',Q e a' w'/\Arrives P (lone (b.at a (.code c::.inLoop c::k)) cs w) b k cs e a' w':=by
  intro n;induction n using Nat.strongRecOn with
  |_ n ih =>
   intro a w hI;obtain⟨e,a₁,w₁,hq,ZO⟩:=round n a w hI b _ cs;cases e with
   |normal =>
    obtain⟨j,Cw,hI₁⟩:=hq;obtain⟨e₂,a₂,w₂,hq₂,Anj⟩:=ih j Cw a₁ w₁ hI₁;exact⟨e₂,a₂,w₂,hq₂,.of_steps (Steps.trans ZO (.one step_inLoop)) Anj⟩
   |exit id=>exact⟨_,a₁,w₁,hq,.pass  rfl (λ_ _=>.inl (by simp)) ZO⟩
   |goto l=>exact⟨_,a₁,w₁,hq,.pass  rfl (λ_ _=>.inl (by simp)) ZO⟩
   |ret=>exact⟨_,a₁,w₁,hq,.pass  rfl (λ_ _=>.inl (by simp)) ZO⟩
   |panic ch=>exact⟨_,a₁,w₁,hq,.pass  rfl (λ_ _=>.inl (by simp)) ZO⟩
   |outgrown=>exact⟨_,a₁,w₁,hq,.pass  rfl (λ_ _=>.inl (by simp)) ZO⟩
 obtain⟨e,a',w',hq,ZO⟩:=key n a w h0;exact⟨e,a',w',hq,.of_steps (.one step_loop) ZO⟩
inductive ToN {S T:Type} (f:S->Option (S⊕T)):Nat->S->T->Prop
 |done {s:S} {t:T} (h:f s=some (.inr t)):ToN f 0 s t
 |WM {s s':S} {t:T} {n:Nat} (h:f s=some (.inl s')) (k:ToN f n s' t):ToN f (n+1) s t
theorem To.n{S T:Type}{f:S->Ay0 (S⊕T)}{s:S}{t:T}(h:To f s t):∃n,ToN f n s t:=by
 induction h with
 |done h=>exact⟨0,.done h⟩
 |WM h _ ih=>obtain⟨n,hn⟩:=ih;exact⟨n+1,.WM h hn⟩
structure Hy (P:Program) (en:Fe):Prop extends EnvOk P en where
 mixed:P.follows .mixedOrders=true
section
variable {P:Program} {en:Fe} {m:Nat}
abbrev Oe(e:Ex)(σ:St):Option (Ex×St):=some (e,σ)
theorem lb{c:Code}(hn:∀(R:Type) (σ:St) (K:Ex->St->Ay0 R),ev en m c R σ K=(ev en m c (Ex×St) σ Oe).bind λp=>K p.1 p.2){R T:Type}{σ:St}{K:Ex->St->Ay0 R}{K':Ex->St->Ay0 T}{k:T->Ay0 R}
    (h:∀e s,K e s=(K' e s).bind k):ev en m c R σ K=(ev en m c T σ K').bind k:=by
 grind
theorem zg(he:T1 en){all:AyZ Oper}{is:AyZ Nat}{σ:St}{R T:Type}{K:St->Ay0 R}{K':St->Ay0 T}{k:T->Ay0 R}(h:∀s,K s=(K' s).bind k):Nj en all is σ K=(Nj en all is σ K').bind k:=by
 rw[Pf he all is σ K,Pf he all is σ K'];cases Nj en all is σ some with
 |none=>rfl
 |some p=>grind
theorem w6(he:T1 en){all:AyZ Oper}{A:AyZ (Nat×AyZ Nat)}{is done K5:AyZ Nat}{σ:St}{R T:Type}{K:St->Ay0 R}{K':St->Ay0 T}{k:T->Ay0 R}(h:∀s,K s=(K' s).bind k):Ps en all A is done K5 σ K=(Ps en all A is done K5 σ K').bind k:=by
 rw[Pb he all A is done K5 σ K,Pb he all A is done K5 σ K'];cases Ps en all A is done K5 σ some with
 |none=>rfl
 |some p=>grind
theorem Rp(he:T1 en):∀(c:Code) (R:Type) (σ:St) (K:Ex->St->Ay0 R),ev en m c R σ K=(ev en m c (Ex×St) σ Oe).bind λp=>K p.1 p.2
 |.skip,_,_,_=>rfl
 |.ret,_,_,_=>rfl
 |.exit _,_,_,_=>rfl
 |.seq a b,R,σ,K=>by
  simp only[ev];split
  ·refine lb (Rp he a) λe s=>?_;cases e with
   |normal=>exact Rp he b R s K
   |exit n=>rfl
   |ret=>rfl
  ·rw[Awq];congr 1
   funext s0
   rw[Awq];congr 1
   funext ⟨e,s⟩
   cases e with
   |normal=>exact Rp he b R s K
   |exit n=>rfl
   |ret=>rfl
 |.cond c a b,R,σ,K=>by
  simp only[ev];split
  ·rename_i t _;cases t
   ·exact Rp he b R σ K
   ·exact Rp he a R σ K
  ·rfl
 |.block n a,R,σ,K=>by
  refine lb (Rp he a) λe s=>?_
  grind
 |.region _ BL false,R,σ,K=>by
  exact zg he λs=>rfl
 |.region _ BL true,R,σ,K=>by
  simp only[ev];split
  ·rw[Awq];congr 1
   funext s0
   generalize zm en m _ BL s0=x;cases x<;>rfl
  ·split
   ·exact w6 he λs=>rfl
   ·rfl
 |.loop body,R,σ,K=>by
  simp only[ev];split
  ·split
   ·rfl
   ·generalize fix _ _=x;cases x<;>rfl
  ·rfl
 |.goto _,_,_,_=>rfl
 |.label _,_,_,_=>rfl
 |.rangeFunc ..,_,_,_=>rfl
 |.scope _,_,_,_=>rfl
 |.refuse _,_,_,_=>rfl
theorem RE(he:T1 en){h ho:SH}{body:Code}{s:St}{r:St⊕(Ex×St)}(hh:bR en m h ho body s=some r):∃e s',ev en m body (Ex×St) s Oe=some (e,s') /\
    ((e=.normal/\∃TR,s'.head h m=some TR/\r=.inl TR)\/(e≠.normal/\∃TR,s'.head ho m=some TR/\r=.inr (e,TR))):=by
 unfold bR at hh;rw[Rp he]at hh;cases hx:ev en m body _ s _ with
 |none=>grind
 |some p =>
  obtain⟨e,s'⟩:=p;rw[hx]at hh;simp only[Av9]at hh;refine⟨e,s',rfl,?_⟩;cases e with
  |normal =>
   cases hn:s'.head h m with
   |none=>grind
   |some TR=>grind
  |exit n =>
   cases hn:s'.head ho m with
   |none=>grind
   |some TR=>grind
  |ret =>
   cases hn:s'.head ho m with
   |none=>grind
   |some TR=>grind
end
end Go.Va
namespace Go.Va
theorem PL{σ τ:St}{l:AyZ Operand}(h:∀x∈l,σ.BP x=τ.BP x):l.map σ.BP=l.map τ.BP:=Aw5 h
theorem S5{σ τ:St}{l:AyZ (Nat×Operand)}(h:∀x∈l.map (·.2),σ.BP x=τ.BP x):l.map (λp=>(p.1,σ.BP p.2))=l.map (λp=>(p.1,τ.BP p.2)) :=
 Aw5 λp hp=>by grind
theorem SI{R:Type}{en:Fe}{σ τ:St}{o:Oper}{K:F1->Ay0 R}(hb:σ.Ag=τ.Ag)(h:∀x∈o.op.operands,σ.BP x=τ.BP x):Nk en σ o K=Nk en τ o K:=by
 obtain⟨dst,op,type,pos,after,guard⟩:=o;unfold Nk
 dsimp only at h⊢
 rw[hb];cases op<;>simp only[Op.operands]at h<;>dsimp only
 case build t ps=>rw[S5 (l:=ps.toList) λx hx=>h x (by simpa using hx)]
 case buildSlice t n ps=>rw[S5 (l:=ps.toList) λx hx=>h x (by simpa using hx)]
 case makeFunc fn first captured =>
  rw[PL (l:=captured.toList) λx hx=>h x (by simp[Array.mem_toList_iff.1 hx])]
 case call c =>
  have ha:LP σ c.args=LP τ c.args:=PL λx hx=>h x (by simp[Call.operands,Array.mem_toList_iff.1 hx]);unfold QY;rw[ha,hb];cases hc:c.callee with
  |value f =>
   have hf:σ.BP f=τ.BP f:=h f (by simp[Call.operands,hc]);simp only[hf]
  |builtin b=>cases b<;>rfl
  |invoke r n=>rfl
 case slice t x lo hi mx =>
  have hx:σ.BP x=τ.BP x:=h x (by simp);have qk:lo.map σ.BP=lo.map τ.BP:=by cases lo with |none=>rfl |some y=>simp[h y (by simp)]
  have mb:hi.map σ.BP=hi.map τ.BP:=by cases hi with |none=>rfl |some y=>simp[h y (by simp)]
  have gq:mx.map σ.BP=mx.map τ.BP:=by cases mx with |none=>rfl |some y=>simp[h y (by simp)]
  rw[hx,qk,mb,gq]
 all_goals (first |rfl |(simp_all;done))
theorem SG{R:Type}{en:Fe}{σ τ:St}{o:Oper}{K:F1->Ay0 R}(hb:σ.Ag=τ.Ag)(h:∀x∈o.op.operands,σ.BP x=τ.BP x):Qh en σ o K=Qh en τ o K:=by
 have ha:X1 en σ o=X1 en τ o:=by
  obtain⟨dst,op,type,pos,after,guard⟩:=o;unfold X1;cases op<;>simp only[Op.operands]at h<;>dsimp only
  case load t x=>rw[h x (by simp),hb]
  case build t ps=>rw[S5 (l:=ps.toList) λx hx=>h x (by simpa using hx)]
  case index t x i=>rw[h x (by simp),h i (by simp)]
  case field t x f=>rw[h x (by simp)]
  case indexAddr t x i=>rw[h x (by simp),h i (by simp)]
  case call c =>
   have ha:LP σ c.args=LP τ c.args:=PL λx hx=>h x (by simp[Call.operands,Array.mem_toList_iff.1 hx]);rw[ha]
 have hs:im en σ o=im en τ o:=by
  obtain⟨dst,op,type,pos,after,guard⟩:=o;unfold im pn;cases op<;>simp only[Op.operands]at h<;>dsimp only
  case store t x v=>rw[h x (by simp),h v (by simp),hb]
 have ht:zE en σ o=zE en τ o:=by
  obtain⟨dst,op,type,pos,after,guard⟩:=o;unfold zE;cases op<;>simp only[Op.operands]at h<;>dsimp only
  case slice t x lo hi mx =>
   cases lo with
   |none=>rfl
   |some lo=>cases hi with
    |some _=>rfl
    |none=>cases mx with
     |some _=>rfl
     |none=>dsimp only;rw[h x (by simp),h lo (by simp),hb]
  case indexAddr t x i=>rw[h x (by simp),h i (by simp),hb]
  case call c =>
   have ha:LP σ c.args=LP τ c.args:=PL λx hx=>h x (by simp[Call.operands,Array.mem_toList_iff.1 hx]);rw[ha,hb]
 unfold Qh;rw[ha,hs,ht,hb];split
 ·rfl
 split
 ·rfl
 split
 ·rfl
 ·split
  ·have hd:Yp en o=Yp en o:=rfl;cases Yp en o
   ·exact SI hb h
   ·simp only[Awp];rw[show τ.Ag=σ.Ag from hb.symm];exact SI hb h
  ·exact SI hb h
theorem jO{R:Type}{en:Fe}{σ τ:St}{o:Oper}{K:F1->Ay0 R}(hb:σ.Ag=τ.Ag)(h:∀x∈o.op.operands,σ.BP x=τ.BP x):exec en σ o K=exec en τ o K:=by
 unfold exec;split
 ·rename_i c d ho _;have ha:LP σ _=LP τ c.args:=PL λx hx=>h x (by rw[ho];simp[Op.operands,Call.operands,Array.mem_toList_iff.1 hx]);rw[ha,hb];split
  ·split
   ·exact SG rfl h
   ·rfl
  ·exact SG hb h
 ·exact SG hb h
theorem J4:∀a:AV,a.K3 id=a
 |.Aw ks t x=>by simp[AV.K3]
 |.D7 ks t x=>by simp[AV.K3]
 |.AA k=>rfl
 |.mp k=>rfl
 |.ptr k i p o=>rfl
 |.O1 _ _ _ _ _=>rfl
 |.QF _ _ _ _ _ _=>rfl
 |.pr a b=>by simp[AV.K3,J4 a,J4 b]
 |.fn g c=>by simp[AV.K3,J4 c]
 |.cons a b=>by simp[AV.K3,J4 a,J4 b]
 |.zs=>rfl
 |.JH=>rfl
 |.nil=>rfl
 |.un n=>rfl
theorem UA(b:Blk):b.K3 id=b:=by
 cases b with
 |Be=>rfl
 |map m kt vt es st=>cases m<;>simp[Blk.K3,RM.K3]
 |Nh e t xs i p=>rfl
 |tail e t xs=>rfl
 |box a=>simp[Blk.K3,J4]
 |row e m t xs=>cases m<;>simp[Blk.K3,RM.K3]
def Rl(bs:AyZ Blk):Prop:=∀(k:Nat) (x:Blk),bs[k]?=some x->∀j∈x.BX,j<bs.length
theorem rE{w:World}{g:G}{n k:Nat}{x:Blk}(h:J2 w g n k x):∀j∈x.BX,j<n:=by
 cases x with
 |Be=>intro j hj;cases hj
 |map m kt vt es st=>exact h.1
 |Nh e t xs i p=>intro j hj;cases hj
 |tail e t xs=>intro j hj;cases hj
 |box a=>obtain⟨_,_,_,_,_,_,_,hx⟩:=h;exact B9.OU a _ hx
 |row e m t xs=>exact h.1
theorem A1.scp{w:World}{g:G}{bs:AyZ Blk}(H:A1 w g bs):Rl bs:=λk x hx=>rE (H.Js k x hx)
def G.cut(g:G)(n:Nat):G:=⟨λb=>match g.own b with |.Bs k r=>if k<n then .Bs k r else .no |t=>t,g.AK⟩
def G.VE(g g':G)(n:Nat):G:=⟨λb=>match g.own b with |.Bs k r=>if k<n then g'.own b else .Bs k r |_=>g'.own b,λk=>if k<n then g'.AK k else g.AK k⟩
section
variable {P:Program} {o:Oper} {e:F1}
theorem XI{g:G}{n k:Nat}(hk:k<n):Ren id g (g.cut n) n k:=⟨hk,rfl,λb r h=>by simp[G.cut,h,hk]⟩
theorem pN{σ:St}(Mp:KO P σ o e)(hm:e.Bg=[]){l l':AyZ Blk}(wR:e.Ag=σ.Ag++l')(hor:l=[]\/l'=[]){w:World}{g:G}{a:Act}(H:A1 w g (σ.Ag++l))(hsc:Rl σ.Ag)(hlen:σ.Az.length=a.tmps.size)
    (H7:∀(i:Nat) (x:AV),σ.Az[i]?=some x->BF w g (σ.Ag++l).length x (a.tmps.getD i undef)/\∀k∈x.BX,k<σ.Ag.length) {next:Act->World->Prop} {Q:Exit->Act->World->Prop}
    (hn:∀v w' g',A1 w' g' (σ.Ag++(l++l'))->BF w' g' (σ.Ag++(l++l')).length e.val v->(∀k∈e.val.BX,k<e.Ag.length)->Step [] (σ.Ag++l).length w g w' g'->next (a.put o.dst v) w'):o.wp P a w next Q:=by
 rcases hor with rfl |rfl
 ·simp only[AwO]at H H7 hn;refine Mp.wp a w g ⟨H,hlen,λi x hx=>(H7 i x hx).1⟩ next Q λv w' g' H' hv BG=>?_
  rw[hm]at BG;rw[wR]at H' hv;exact hn v w' g' H' hv (by rw[wR];exact hv.OU) BG
 ·simp only[AwO]at wR hn
  let n:=σ.Ag.length
  have hnl:n<=(σ.Ag++l).length:=by grind
  have YG:∀k,k<n->Ren id g (g.cut n) n k:=λk hk=>XI hk;have YB:∀b,g.own b=.GH->(g.cut n).own b=.GH:=λb h=>by simp[G.cut,h]
  have Hr:A1 w (g.cut n) σ.Ag:=by
   refine⟨λb hb=>by simp[G.cut,H.Bz b hb],λk x hx=>?_⟩;have hk:=AP hx;have h1:=H.Js k x (by grind);have:=h1.K3 (φ:=id) YB (YG k hk) λj hj=>YG j (hsc k x hx j hj);rwa [UA]at this
  refine Mp.wp a w (g.cut n) ⟨Hr,hlen,λi x hx=>?_⟩ next Q λv w' g' H' hv BG=>?_
  ·obtain⟨h1,h2⟩:=H7 i x hx;have:=h1.K3 (φ:=id) (g':=g.cut n) (n':=n) YB λk hk=>YG k (h2 k hk);rwa [J4]at this
  ·rw[hm]at BG;rw[wR]at H' hv;have yG:∀b,g.own b≠.no->b<w.heap.size:=λb h=>Pz H h;have jU:∀b k r,g.own b=.Bs k r->¬k<n->g'.own b=.no/\w'.heap[b]?=w.heap[b]?:=λb k r h hk=>BG.no b (yG b (by grind)) (by simp[G.cut,h,hk]);have st:Step [] (σ.Ag++l).length w g w' (g.VE g' n):=by
    refine⟨BG.os,BG.tape,BG.output,BG.size,λb hb h=>?_,λb h=>?_,λb k r h hk hm=>?_,λk hk=>?_⟩
    ·have:=BG.no b hb (by simp[G.cut,h]);exact⟨by simp[G.VE,h,this.1],this.2⟩
    ·have:=BG.GH b (YB b h);exact⟨by simp[G.VE,h,this.1],this.2⟩
    ·by_cases ZS:k<n
     ·have:=BG.Bs b k r (by simp[G.cut,h,ZS]) ZS (by simp);exact⟨by simp[G.VE,h,this.1],this.2⟩
     ·exact⟨by simp[G.VE,h,ZS],(jU b k r h ZS).2⟩
    ·by_cases ZS:k<n
     ·have:=BG.AK k ZS;simp only[G.VE,Awr ZS,this];rfl
     ·simp[G.VE,ZS]
   have ta:∀k,k<n->Ren id g' (g.VE g' n) (σ.Ag++l).length k:=λk hk=>by
    refine⟨by grind,by simp[G.VE,hk],λb r h=>?_⟩;simp only[G.VE]
    grind
   have AaV:∀b,g'.own b=.GH->(g.VE g' n).own b=.GH:=λb h=>by
    simp only[G.VE]
    grind
   refine hn v w' (g.VE g' n) ⟨λb hb=>?_,λk x hx=>?_⟩ ?_ (by rw[wR];exact hv.OU) st
   ·have h1:=H'.Bz b hb;have h2:=H.Bz b (AwD BG.size hb);simp[G.VE,h2,h1]
   ·by_cases hk:k<n
    ·rw[Aww hk]at hx;have:=(H'.Js k x hx).K3 (φ:=id) AaV (ta k hk) λj hj=>ta j (hsc k x hx j hj);rwa [UA]at this
    ·exact(H.Js k x hx).M3 st (Awf _) (AP hx)
   ·have:=hv.K3 (φ:=id) AaV λk hk=>ta k (hv.OU k hk);rwa [J4]at this
end
end Go.Va
namespace Go.Va
theorem YU:∀(r l:AyZ Nat) {x:Nat},x∈Xy l r->x∈l\/x∈r
 |[],_,_,h=>.inl h
 |k::r,l,x,h=>by
  simp only[Xy]at h;split at h
  ·rcases YU r l h with h |h
   ·exact .inl h
   ·exact .inr (by simp[h])
  ·rcases YU r _ h with h |h
   ·rcases List.mem_append.1 h with h |h
    ·exact .inl h
    ·simp at h;exact .inr (by simp[h])
   ·exact .inr (by simp[h])
def Z9(all:AyZ Oper)(A:AyZ (Nat×AyZ Nat)):Prop:=∀i x,x∈C7 A i->x∈Pq all i\/∃d∈Pq all i,x∈C7 A d
theorem aj(all:AyZ Oper):∀(is:AyZ Nat) (A:AyZ (Nat×AyZ Nat)),Z9 all A->nodup is=true->(∀i∈is,∀p∈A,p.1≠i)->Z9 all (Sv all is A)
 |[],_,h,_,_=>h
 |i::is,A,h,hn,hf=>by
  simp only[nodup,Awg,Axp]at hn;refine aj all is _ ?_ hn.2 ?_
  ·have oO:∀d y,y∈C7 A d->y∈C7 ((i,Xy [] (Pq all i++(Pq all i).flatMap (C7 A)))::A) d:=by
     intro d y hy;simp only[C7];split
     ·rename_i he;have he:i=d:=by simpa using he
      subst he;have:∀(A:AyZ (Nat×AyZ Nat)),(∀p∈A,p.1≠i)->C7 A i=[]:=by
       intro A;induction A with
       |nil=>exact λ_=>rfl
       |cons p A ih =>
        intro hp;obtain⟨k,l⟩:=p;simp only[C7];rw[Aws (by simpa using hp (k,l) (by simp))];exact ih λq hq=>hp q (by simp[hq])
      rw[this A (hf i (by simp))]at hy;cases hy
     ·exact hy
   intro j x hx;by_cases he:i=j
   ·subst he;simp only[C7,beq_self_eq_true,AwS]at hx;rcases YU _ _ hx with hx |hx
    ·cases hx
    ·rcases List.mem_append.1 hx with hx |hx
     ·exact .inl hx
     ·obtain⟨d,hd,hx⟩:=List.mem_flatMap.1 hx;exact .inr ⟨d,hd,oO d x hx⟩
   ·simp only[C7]at hx;rw[Aws (by simpa using he)]at hx;rcases h j x hx with h |⟨d,hd,hx⟩
    ·exact .inl h
    ·exact .inr ⟨d,hd,oO d x hx⟩
  ·intro j hj p hp;rcases List.mem_cons.1 hp with rfl |hp
   ·intro e;have e:i=j:=e;subst e;have:=hn.1;simp[hj]at this
   ·exact hf j (by simp[hj]) p hp
def XX(A:AyZ (Nat×AyZ Nat))(D:Nat->Bool):Prop:=∀i,D i=true->∀x∈C7 A i,D x=true
theorem bJ{all:AyZ Oper}{A:AyZ (Nat×AyZ Nat)}(hA:Z9 all A){D:Nat->Bool}(hc:XX A D){i:Nat}(hd:∀d∈Pq all i,D d=true):∀x∈C7 A i,D x=true:=λx hx=>by
 rcases hA i x hx with h |⟨d,hdi,h⟩
 ·exact hd x h
 ·exact hc d (hd d hdi) x h
structure GK where
 i:Nat
 o:Oper
 σ:St
 e:Option F1
def GK.val(t:GK):AV:=match t.e with |some e=>e.val |none=>.nil
def GK.post(t:GK):St:=match t.e with |some e=>t.σ.after t.o.dst e |none=>t.σ.skip t.o.dst
def GK.ZJ(t:GK):Bool:=match t.e with |some e=>!e.Bg.isEmpty |none=>false
def GK.grow(t:GK):Bool:=match t.e with |some e=>e.Bg.isEmpty&&decide (e.Ag.length≠t.σ.Ag.length)|none=>false
def GK.Ok(en:Fe)(all:AyZ Oper)(t:GK):Prop:=all[t.i]?=some t.o/\match t.e with |some e=>Want all t.σ t.o true/\exec en t.σ t.o some=some e |none=>Want all t.σ t.o false
inductive Tr (en:Fe) (all:List Oper) (A:List (Nat×List Nat)):List Nat->List Nat->St->List GK->St->Prop
 |nil {done K5:List Nat} {σ:St}:Tr en all A done K5 σ [] σ
 |cons {done K5:List Nat} {σ σ':St} {t:GK} {ts:List GK} (hσ:t.σ=σ) (ok:t.Ok en all) (ha:∀x∈K5,x∈C7 A t.i) (hb:t.ZJ=true->∀x∈done,x∈C7 A t.i)
     (next:Tr en all A (t.i::done) (if t.ZJ||t.grow then t.i::K5 else K5) t.post ts σ'):Tr en all A done K5 σ (t::ts) σ'
section
variable {en:Fe} {all:AyZ Oper} {A:AyZ (Nat×AyZ Nat)}
theorem Vy(he:T1 en):∀{is done K5:AyZ Nat} {σ σ':St},Ps en all A is done K5 σ some=some σ'->∃ts:AyZ GK,ts.map (·.i)=is/\Tr en all A done K5 σ ts σ'
 |[],done,K5,σ,σ',h=>by
  simp only[Ps,Awb]at h;subst h;exact⟨[],rfl,.nil⟩
 |i::is,done,K5,σ,σ',h=>by
  simp only[Ps]at h;split at h
  ·cases h
  ·rename_i o ho;split at h
   ·rename_i Aqe;have s8:∀x∈K5,x∈C7 A i:=λx hx=>by have:=List.all_eq_true.1 Aqe x hx;simpa using this
    rcases LW h with ⟨hw,h⟩|⟨hw,h⟩
    ·rw[N7 en he]at h;cases hx:exec en σ o some with
     |none=>rw[hx]at h;cases h
     |some e =>
      rw[hx]at h;simp only[Av9]at h;split at h
      ·rename_i hm;obtain⟨ts,h1,h2⟩:=Vy he h;refine⟨⟨i,o,σ,some e⟩::ts,by simp[h1],.cons rfl ⟨ho,hw,hx⟩ s8 (λhb=>?_) ?_⟩
       ·simp[GK.ZJ,hm]at hb
       ·simp only[GK.ZJ,GK.grow,hm,AwT,Bool.false_or,AxV,GK.post];by_cases hl:e.Ag.length=σ.Ag.length
        ·simpa [hl]using h2
        ·simpa [hl]using h2
      ·rename_i hm;split at h
       ·rename_i tj;obtain⟨ts,h1,h2⟩:=Vy he h;refine⟨⟨i,o,σ,some e⟩::ts,by simp[h1],.cons rfl ⟨ho,hw,hx⟩ s8 (λhb x hx=>?_) ?_⟩
        ·have:=List.all_eq_true.1 tj x hx;simpa using this
        ·simp only[GK.ZJ,GK.post];have hm':e.Bg.isEmpty=false:=by simpa using hm
         simpa [hm']using h2
       ·cases h
    ·obtain⟨ts,h1,h2⟩:=Vy he h;refine⟨⟨i,o,σ,none⟩::ts,by simp[h1],.cons rfl ⟨ho,hw⟩ s8 (λhb=>by cases hb) ?_⟩;simpa [GK.ZJ,GK.grow,GK.post]using h2
   ·cases h
theorem Tr.rl:∀{ts:AyZ GK} {done K5:AyZ Nat} {σ σ':St},Tr en all A done K5 σ ts σ'->∀x∈K5,∀u∈ts,x∈C7 A u.i
 |[],_,_,_,_,_,_,_,_,hu=>by cases hu
 |t::ts,_,_,_,_,.cons _ _ ha _ next,x,hx,u,hu=>by
  rcases List.mem_cons.1 hu with rfl |hu
  ·exact ha x hx
  ·exact next.rl x (by split<;>simp[hx]) u hu
theorem Tr.Un:∀{Cy post:AyZ GK} {t:GK} {done K5:AyZ Nat} {σ σ':St},Tr en all A done K5 σ (Cy++t::post) σ' ->
    ((t.ZJ||t.grow)=true->∀u∈post,t.i∈C7 A u.i)/\(t.ZJ=true->(∀x∈done,x∈C7 A t.i)/\∀u∈Cy,u.i∈C7 A t.i)
 |[],post,t,done,K5,σ,σ',.cons hσ ok ha hb next=>by
  refine⟨λh u hu=>next.rl t.i (by rw[Awr h];simp) u hu,λh=>⟨hb h,λu hu=>by cases hu⟩⟩
 |p::Cy,post,t,done,K5,σ,σ',.cons hσ ok ha hb next=>by
  obtain⟨h1,h2⟩:=next.Un
  refine⟨h1,λh=>⟨λx hx=>(h2 h).1 x (by simp[hx]),λu hu=>?_⟩⟩;rcases List.mem_cons.1 hu with rfl |hu
  ·exact(h2 h).1 u.i (by simp)
  ·exact(h2 h).2 u hu
theorem Tr.split:∀{Cy ts:AyZ GK} {done K5:AyZ Nat} {σ σ':St},Tr en all A done K5 σ (Cy++ts) σ'->∃nS σ1,Tr en all A done K5 σ Cy σ1/\Tr en all A ((Cy.map (·.i)).reverse++done) nS σ1 ts σ'
 |[],ts,done,K5,σ,σ',h=>⟨K5,σ,.nil,h⟩
 |p::Cy,ts,done,K5,σ,σ',.cons hσ ok ha hb next=>by
  obtain⟨nS,σ1,h1,h2⟩:=next.split
  exact⟨nS,σ1,.cons hσ ok ha hb h1,by simpa using h2⟩
theorem Tr.uP:∀{ts:AyZ GK} {done K5:AyZ Nat} {σ σ':St},Tr en all A done K5 σ ts σ'->∀u∈ts,u.Ok en all
 |[],_,_,_,_,_,_,hu=>by cases hu
 |t::ts,_,_,_,_,.cons _ ok _ _ next,u,hu=>by
  rcases List.mem_cons.1 hu with rfl |hu
  ·exact ok
  ·exact next.uP u hu
end
end Go.Va
namespace Go.Va
def Jx(D:Nat->Bool):AyZ GK->AyZ AV->AyZ AV
 |[],sl=>sl
 |t::ts,sl=>Jx D ts (if D t.i then T8 t.o.dst t.val sl else sl)
def GK.nb(t:GK)(bs:AyZ Blk):AyZ Blk:=match t.e with |some e=>e.Ag |none=>bs
def FU(D:Nat->Bool):AyZ GK->AyZ Blk->AyZ Blk
 |[],bs=>bs
 |t::ts,bs=>FU D ts (if D t.i&&t.grow then t.nb bs else bs)
theorem XR{d:Ay0 Nat}{v:AV}{sl:AyZ AV}{k:Nat}(h:d≠some k):(T8 d v sl)[k]?=sl[k]?:=by
 cases d with
 |none=>rfl
 |some d =>
  have:d≠k:=λe=>h (by rw[e]);simp[T8,Awy,this]
theorem Y6{d:Ay0 Nat}{v:AV}{sl vi:AyZ AV}{k:Nat}(h:sl[k]?=vi[k]?):(T8 d v sl)[k]?=(T8 d v vi)[k]?:=by
 cases d with
 |none=>exact h
 |some d =>
  simp only[T8,Awy];split
  ·rename_i e;subst e;have:d<sl.length↔d<vi.length:=by
    constructor
    ·intro hl;rw[Axk hl]at h;exact AP h.symm
    ·intro hl;rw[Axk hl]at h;exact AP h
   by_cases hl:d<sl.length
   ·rw[Awr hl,Awr (this.1 hl)]
   ·rw[Aws hl,Aws (λh=>hl (this.2 h))]
  ·exact h
theorem bF{d:Nat}{v:AV}{sl:AyZ AV}{x:AV}(h:(T8 (some d) v sl)[d]?=some x):x=v:=by
 simp only[T8,Awy,AwS]at h;split at h
 ·injection h with h;exact h.symm
 ·cases h
theorem Vs(D:Nat->Bool):∀(ts:AyZ GK) (sl:AyZ AV),(Jx D ts sl).length=sl.length
 |[],_=>rfl
 |t::ts,sl=>by
  rw[Jx,Vs D ts];split
  ·exact VX ..
  ·rfl
theorem SE(D:Nat->Bool):∀(Cy ts:AyZ GK) (sl:AyZ AV),Jx D (Cy++ts) sl=Jx D ts (Jx D Cy sl)
 |[],_,_=>rfl
 |t::Cy,ts,sl=>by rw[AxR,Jx,Jx,SE D Cy ts]
theorem Vr(D:Nat->Bool):∀(Cy ts:AyZ GK) (bs:AyZ Blk),FU D (Cy++ts) bs=FU D ts (FU D Cy bs)
 |[],_,_=>rfl
 |t::Cy,ts,bs=>by rw[AxR,FU,FU,Vr D Cy ts]
theorem Yi{D:Nat->Bool}{k:Nat}:∀{ts:AyZ GK} {sl vi:AyZ AV},sl[k]?=vi[k]?->(Jx D ts sl)[k]?=(Jx D ts vi)[k]?
 |[],_,_,h=>h
 |t::ts,sl,vi,h=>by
  simp only[Jx];refine Yi ?_;split
  ·exact Y6 h
  ·exact h
theorem UF{D:Nat->Bool}{k:Nat}:∀{ts:AyZ GK} {sl vi:AyZ AV},(∀u∈ts,D u.i=false->u.o.dst≠some k)->sl[k]?=vi[k]?->(Jx D ts sl)[k]?=(Jx (λ_=>true) ts vi)[k]?
 |[],_,_,_,h=>h
 |t::ts,sl,vi,hu,h=>by
  simp only[Jx,AwS];refine UF (λu hm=>hu u (by simp[hm])) ?_;cases hD:D t.i with
  |true=>simp only[AwS];exact Y6 h
  |false =>
   simp only[AwX,Axo];rw[XR (hu t (by simp) hD)];exact h
theorem TA{D:Nat->Bool}{k:Nat}:∀{ts:AyZ GK} {sl:AyZ AV},(∀u∈ts,D u.i=true->u.o.dst≠some k)->(Jx D ts sl)[k]?=sl[k]?
 |[],_,_=>rfl
 |t::ts,sl,hu=>by
  simp only[Jx];rw[TA λu hm=>hu u (by simp[hm])];split
  ·rename_i h;exact XR (hu t (by simp) h)
  ·rfl
theorem jN{D D':Nat->Bool}:∀{ts:AyZ GK} {sl:AyZ AV},(∀u∈ts,D u.i=D' u.i)->Jx D ts sl=Jx D' ts sl
 |[],_,_=>rfl
 |t::ts,sl,h=>by
  rw[Jx,Jx,h t (by simp)];exact jN λu hu=>h u (by simp[hu])
theorem jM{D D':Nat->Bool}:∀{ts:AyZ GK} {bs:AyZ Blk},(∀u∈ts,D u.i=D' u.i)->FU D ts bs=FU D' ts bs
 |[],_,_=>rfl
 |t::ts,bs,h=>by
  rw[FU,FU,h t (by simp)];exact jM λu hu=>h u (by simp[hu])
theorem Tz{D:Nat->Bool}:∀{ts:AyZ GK} {bs:AyZ Blk},(∀u∈ts,D u.i=true->u.grow=false)->FU D ts bs=bs
 |[],_,_=>rfl
 |t::ts,bs,h=>by
  rw[FU];have:(D t.i&&t.grow)=false:=by
   cases hD:D t.i with
   |false=>rfl
   |true=>rw[h t (by simp) hD];rfl
  rw[this];exact Tz λu hu=>h u (by simp[hu])
section
variable {P:Program} {en:Fe} {all:AyZ Oper} {A:AyZ (Nat×AyZ Nat)}
theorem Vx(he:EnvOk P en){t:GK}(ok:t.Ok en all)(hb:t.ZJ=false):∃l,t.post.Ag=t.σ.Ag++l/\(t.grow=false->l=[])/\(∀e,t.e=some e->e.Bg=[]/\e.Ag=t.σ.Ag++l)/\t.post.Az=T8 t.o.dst t.val t.σ.Az:=by
 unfold GK.Ok at ok;unfold GK.ZJ at hb;unfold GK.post GK.grow GK.val;cases hq:t.e with
 |none=>exact⟨[],by simp[St.skip],λ_=>rfl,λe h=>by(cases h),rfl⟩
 |some e =>
  rw[hq]at ok hb;have hm:e.Bg=[]:=by simpa using hb
  have Mp:=N8 he ok.2.2;obtain⟨l,hl⟩:=Mp.ext hm;refine⟨l,hl,λh=>?_,λe' h=>by injection h with h;subst h;exact⟨hm,hl⟩,?_⟩
  ·simp only[hm,List.isEmpty_nil,AxV,AwV,ne_eq,Decidable.not_not]at h;rw[hl,Awd]at h;exact Aw3 (by omega)
  ·simp only[St.after,hm,Pr]
theorem Tr.ai(he:EnvOk P en):∀{ts:AyZ GK} {done K5:AyZ Nat} {σ σ':St},Tr en all A done K5 σ ts σ'->(∀u∈ts,u.ZJ=false)->σ'.Az=Jx (λ_=>true) ts σ.Az/\σ'.Ag=FU (λ_=>true) ts σ.Ag/\(∃l,σ'.Ag=σ.Ag++l)
 |[],_,_,_,_,.nil,_=>⟨rfl,rfl,[],(AwO _).symm⟩
 |t::ts,done,K5,σ,σ',.cons hσ ok ha hb next,OA=>by
  obtain⟨l,h1,h2,h3,h4⟩:=Vx he ok (OA t (by simp));obtain⟨i1,i2,l',i3⟩:=next.ai he λu hu=>OA u (by simp[hu])
  subst hσ;refine⟨by rw[i1,Jx,Awr rfl,h4],?_,l++l',by rw[i3,h1,Awh]⟩;rw[i2,FU,AxV];congr 1;cases hg:t.grow with
  |false=>rw[h1,h2 hg,AwO];rfl
  |true =>
   cases hq:t.e with
   |none=>simp[GK.grow,hq]at hg
   |some e=>simp only[AwS,GK.nb,hq];rw[h1,(h3 e hq).2]
theorem Tr.fC(he:EnvOk P en)(D:Nat->Bool):∀{ts:AyZ GK} {done K5:AyZ Nat} {σ σ':St},Tr en all A done K5 σ ts σ'->(∀u∈ts,u.ZJ=false)->∀(b0:AyZ Blk),(∃l,σ.Ag=b0++l)->∀bs,(∃l,bs=b0++l)->∃l,FU D ts bs=b0++l
 |[],_,_,_,_,_,_,_,_,_,h=>h
 |t::ts,done,K5,σ,σ',.cons hσ ok ha hb next,OA,b0,hb0,bs,hbs=>by
  obtain⟨l,h1,h2,h3,h4⟩:=Vx he ok (OA t (by simp));obtain⟨l0,gm⟩:=hb0;subst hσ;rw[FU];refine next.fC he D (λu hu=>OA u (by simp[hu])) b0 ⟨l0++l,by rw[h1,gm,Awh]⟩ _ ?_
  split
  ·cases hq:t.e with
   |none=>simpa [GK.nb,hq]using hbs
   |some e=>exact⟨l0++l,by simp only[GK.nb,hq];rw[(h3 e hq).2,gm,Awh]⟩
  ·exact hbs
end
theorem WG:∀{Bb:AyZ Nat} {l:AyZ AV} {j i:Nat},(j+i)∈Bb->(Nm Bb j l)[i]?=l[i]?
 |Bb,a::r,j,0,h=>by
  have h':j∈Bb:=h;simp[Nm,h']
 |Bb,a::r,j,i+1,h=>by
  simp only[Nm,List.getElem?_cons_succ];exact WG (by rwa [show j+1+i=j+(i+1) by omega])
 |_,[],_,_,_=>by simp[Nm]
theorem aX:∀{Bb:AyZ Nat} {l:AyZ AV} {j i:Nat} {x:AV},(j+i)∉Bb->(Nm Bb j l)[i]?=some x->x=.un 0
 |Bb,a::r,j,0,x,h,hx=>by
  have:Bb.contains j=false:=by simpa using h
  simp only[Nm,this,AwX,Axo,List.getElem?_cons_zero,Awb]at hx;exact hx.symm
 |Bb,a::r,j,i+1,x,h,hx=>by
  simp only[Nm,List.getElem?_cons_succ]at hx;exact aX (by rwa [show j+1+i=j+(i+1) by omega]) hx
 |_,[],_,_,_,_,hx=>by simp[Nm]at hx
def gP(BL:Array Oper)(o:Oper)(σ:St):St:=⟨Nm (o.looksAt BL) 0 σ.Az,σ.Ag⟩
theorem o7{en:Fe}{BL:Array Oper}{o:Oper}{σ:St}{K:F1->Ay0 F1}:exec en (gP BL o σ) o K=exec en σ o K:=by
 refine jO rfl λx hx=>?_;cases x with
 |tmp t =>
  have:t∈o.looksAt BL:=AwH _ (List.mem_filterMap.2 ⟨.tmp t,by simpa using hx,rfl⟩);simp only[St.BP,gP];rw[WG (j:=0) (by simpa using this)]
 |const v=>rfl
 |global g=>rfl
 |func f=>rfl
end Go.Va
namespace Go.Va
theorem UE{D:Nat->Bool}:∀{ts:AyZ GK} {bs:AyZ Blk},(∀u∈ts,u.grow=true->D u.i=true)->FU D ts bs=FU (λ_=>true) ts bs
 |[],_,_=>rfl
 |t::ts,bs,h=>by
  rw[FU,FU];have:(D t.i&&t.grow)=(true&&t.grow):=by
   cases hg:t.grow with
   |false=>simp
   |true=>rw[h t (by simp) hg]
  rw[this];exact UE λu hu=>h u (by simp[hu])
theorem aN{t:GK}{e:F1}(h:t.e=some e):t.post.Ag=e.Ag:=by simp[GK.post,h,St.after]
theorem Yg{D:Nat->Bool}:∀{ts:AyZ GK} {bs:AyZ Blk},FU D ts bs=bs\/∃u∈ts,D u.i=true/\u.grow=true/\FU D ts bs=u.post.Ag
 |[],_=>.inl rfl
 |t::ts,bs=>by
  rw[FU];rcases Yg (D:=D) (ts:=ts) (bs:=if D t.i&&t.grow then t.nb bs else bs)with h |⟨u,hu,h1,h2,h3⟩
  ·rw[h];split
   ·rename_i hc;rw[Awg]at hc;cases hq:t.e with
    |none=>exact .inl (by simp[GK.nb,hq])
    |some e=>exact .inr ⟨t,by simp,hc.1,hc.2,by rw[aN hq];simp[GK.nb,hq]⟩
   ·exact .inl rfl
  ·exact .inr ⟨u,by simp[hu],h1,h2,h3⟩
theorem Yh:∀{ts:AyZ GK} {sl:AyZ AV} {k:Nat} {x:AV},(Jx (λ_=>true) ts sl)[k]?=some x->sl[k]?=some x\/∃Cy u post,ts=Cy++u::post/\u.o.dst=some k/\x=u.val
 |[],_,_,_,h=>.inl h
 |t::ts,sl,k,x,h=>by
  simp only[Jx,AwS]at h;rcases Yh h with h |⟨Cy,u,post,e,h1,h2⟩
  ·by_cases hd:t.o.dst=some k
   ·rw[hd]at h;exact .inr ⟨[],t,ts,rfl,hd,bF h⟩
   ·rw[XR hd]at h;exact .inl h
  ·exact .inr ⟨t::Cy,u,post,by rw[e];rfl,h1,h2⟩
structure Inv (P:Program) (A:List (Nat×List Nat)) (N:Nat) (done:List Nat) (Gx:List GK) (σ:St) (m:Nat) (a0:Act) (w0:World) (g0:G) (D:Nat->Bool) (a:Act) (w:World) (g:G):Prop where
 l7:∀i∈done,D i=true
 only:∀i,D i=true->i∈done\/∃u∈Gx,u.i=i
 closed:XX A D
 dfr:a.defers=a0.defers
 len:σ.Az.length=a.tmps.size
 step:Bi m w0 g0 w g
 heap:A1 w g (FU D Gx σ.Ag)
 Az:∀(i:Nat) (x:AV),(Jx D Gx σ.Az)[i]?=some x->BF w g (FU D Gx σ.Ag).length x (a.tmps.getD i undef)
 BX:∀u∈Gx,D u.i=true->∀k∈u.val.BX,k<u.post.Ag.length
 scp:∀u∈Gx,D u.i=true->u.grow=true->Rl u.post.Ag
section
variable {P:Program} {en:Fe} {BL:Array Oper} {A:AyZ (Nat×AyZ Nat)} {N m:Nat} {done K5:AyZ Nat} {Gx Cy post:AyZ GK} {t:GK} {σ σ1:St} {a0 a:Act} {w0 w:World} {g0 g:G} {D:Nat->Bool}
theorem Inv.find(he:EnvOk P en)(Q6:Inv P A N done Gx σ m a0 w0 g0 D a w g)(Xx:Tr en BL.toList A done K5 σ Gx σ1)(OA:∀u∈Gx,u.ZJ=false)(Ob:Gx=Cy++t::post)(Nv:D t.i=false)(Rr:∀x∈C7 A t.i,D x=true)
    (VG:∀u∈Cy,u.i∈C7 A t.i\/u.o.apart BL t.o=true) (YF:∀u∈post,t.i∈C7 A u.i\/t.o.apart BL u.o=true)
    (h0:∀(i:Nat) (x:AV),σ.Az[i]?=some x->∀k∈x.BX,k<σ.Ag.length) (ZU:Rl σ.Ag) :
    (∃l,FU D Gx σ.Ag=t.σ.Ag++l/\FU D post t.σ.Ag=t.σ.Ag++l/\(t.grow=true->l=[]))/\Rl t.σ.Ag/\t.σ.Az.length=a.tmps.size/\(∀u∈post,D u.i=true->t.grow=false/\t.o.apart BL u.o=true)/\(∀u∈Cy,u.grow=true->D u.i=true)/\FU D Cy σ.Ag=t.σ.Ag /\
     (∀k∈t.o.looksAt BL,∀x,t.σ.Az[k]?=some x->BF w g (FU D Gx σ.Ag).length x (a.tmps.getD k undef)/\∀j∈x.BX,j<t.σ.Ag.length):=by
 subst Ob;obtain⟨nS,σt,htp,oN⟩:=Xx.split;have hpb:∀u∈Cy,u.ZJ=false:=λu hu=>OA u (by simp[hu]);obtain⟨Oa,T7,l0,gA⟩:=htp.ai he hpb;cases oN with
 |cons hσ ok ha hb next =>
  subst hσ;have hgp:∀u∈Cy,u.grow=true->D u.i=true:=λu hu hg=>by
   obtain⟨p1,p2,rfl⟩:=List.append_of_mem hu;have Aq8:Tr en BL.toList A done K5 σ (p1++u::(p2++t::post)) σ1:=by simpa using Xx
   exact Rr _ (Aq8.Un.1 (by simp[hg]) t (by simp))
  have hB:FU D Cy σ.Ag=t.σ.Ag:=by rw[UE hgp,<-T7]
  have R1:∀u∈post,D u.i=true->t.i∉C7 A u.i:=λu _ hd hm=>by
   rw[Q6.closed _ hd _ hm]at Nv;cases Nv
  have tq:t.grow=true->∀u∈post,D u.i=false:=λhg u hu=>by
   cases hd:D u.i with
   |false=>rfl
   |true=>exact(R1 u hu hd (Xx.Un.1 (by simp[hg]) u hu)).elim
  have SS:FU D (Cy++t::post) σ.Ag=FU D post t.σ.Ag:=by
   rw[Vr,FU,hB,Nv];rfl
  obtain⟨l1,e1,_,_,_⟩:=Vx he ok (OA t (by simp));obtain⟨l,hl⟩:=next.fC he D (λu hu=>OA u (by simp[hu])) t.σ.Ag ⟨l1,e1⟩ t.σ.Ag ⟨[],(AwO _).symm⟩
  have hsc:Rl t.σ.Ag:=by
   rw[<-hB];rcases Yg (D:=D) (ts:=Cy) (bs:=σ.Ag)with h |⟨u,hu,h1,h2,h3⟩
   ·rw[h];exact ZU
   ·rw[h3];exact Q6.scp u (by simp[hu]) h1 h2
  refine⟨⟨l,by rw[SS];exact hl,hl,λhg=>?_⟩,hsc,by rw[Oa,Vs];exact Q6.len,λu hu hd=>⟨?_,?_⟩,hgp,hB,λk hk x hx=>⟨?_,?_⟩⟩
  ·have:=Tz (D:=D) (ts:=post) (bs:=t.σ.Ag) λu hu hd=>by rw[tq hg u hu]at hd;cases hd
   rw[this]at hl;have h2:t.σ.Ag.length=t.σ.Ag.length+l.length:=by rw[<-Awd,<-hl]
   exact Aw3 (by omega)
  ·cases hg:t.grow with
   |false=>rfl
   |true=>rw[tq hg u hu]at hd;cases hd
  ·exact(YF u hu).resolve_left (R1 u hu hd)
  ·have h1:(Jx D (Cy++t::post) σ.Az)[k]?=t.σ.Az[k]?:=by
     rw[SE,Jx,Nv];simp only[AwX,Axo];rw[TA,UF,<-Oa]
     ·intro u hu hd e;rcases VG u hu with h |h
      ·rw[Rr _ h]at hd;cases hd
      ·exact(Oper.apart_spec h).1 k e hk
     ·rfl
     ·intro u hu hd e;have:=(YF u hu).resolve_left (R1 u hu hd);exact(Oper.apart_spec this).2.2 k e hk
   exact Q6.Az k x (by rw[h1];exact hx)
  ·rw[Oa]at hx;rcases Yh hx with h |⟨p1,u,p2,e,h1,rfl⟩
   ·intro j hj;have:=h0 k x h j hj;rw[gA,Awd];omega
   ·intro j hj;have hu:u∈Cy:=by rw[e];simp
    have hD:D u.i=true:=by
     rcases VG u hu with h |h
     ·exact Rr _ h
     ·exact((Oper.apart_spec h).1 k h1 hk).elim
    have:=Q6.BX u (by simp[hu]) hD j hj;subst e;obtain⟨AtR,σu,q1,q2⟩:=htp.split;cases q2 with
    |cons hσ' ok' ha' oG next' =>
     obtain⟨_,_,l2,q3⟩:=next'.ai he λv hv=>hpb v (by simp[hv]);rw[q3,Awd];omega
end
end Go.Va
namespace Go.Va
theorem Qq{a:Act}{d:Ay0 Tmp}{v:Value}{k:Nat}(h:d≠some k):(a.put d v).tmps.getD k undef=a.tmps.getD k undef:=by
 cases d with
 |none=>rfl
 |some d =>
  have:d≠k:=λe=>h (by rw[e]);simp[Act.put,Axx this]
theorem Oh{a:Act}{k:Nat}{v:Value}(h:k<a.tmps.size):(a.put (some k) v).tmps.getD k undef=v:=by
 simp[Act.put,h]
section
variable {P:Program} {en:Fe} {BL:Array Oper} {A:AyZ (Nat×AyZ Nat)} {N m:Nat} {done K5:AyZ Nat} {Gx Cy post:AyZ GK} {t:GK} {σ σ1:St} {a0 a:Act} {w0 w:World} {g0 g:G} {D D':Nat->Bool}
theorem Inv.next(he:EnvOk P en)(Q6:Inv P A N done Gx σ m a0 w0 g0 D a w g)(Xx:Tr en BL.toList A done K5 σ Gx σ1)(OA:∀u∈Gx,u.ZJ=false)(Ob:Gx=Cy++t::post)(Nv:D t.i=false)(Rr:∀x∈C7 A t.i,D x=true)
    (VG:∀u∈Cy,u.i∈C7 A t.i\/u.o.apart BL t.o=true) (YF:∀u∈post,t.i∈C7 A u.i\/t.o.apart BL u.o=true)
    (h0:∀(i:Nat) (x:AV),σ.Az[i]?=some x->∀k∈x.BX,k<σ.Ag.length) (ZU:Rl σ.Ag) (hm:m<=σ.Ag.length)
    (fW:∀i,D' i=if i=t.i then true else D i) (tH:∀u∈Cy,u.i≠t.i) (tJ:∀u∈post,u.i≠t.i)
    {l l':AyZ Blk} (hl:FU D Gx σ.Ag=t.σ.Ag++l) (wR:t.post.Ag=t.σ.Ag++l') (hlg:t.grow=true->l=[]) (AqD:t.grow=false->l'=[])
    {v:Value} {w':World} {g':G} (H':A1 w' g' (t.σ.Ag++(l++l'))) (hv:BF w' g' (t.σ.Ag++(l++l')).length t.val v) (Nf:∀k∈t.val.BX,k<t.post.Ag.length) (st:Step [] (FU D Gx σ.Ag).length w g w' g') :
    Inv P A N done Gx σ m a0 w0 g0 D' (a.put t.o.dst v) w' g':=by
 obtain⟨_,hsc,hlen,R1,hgp,hB,_⟩:=Q6.find he Xx OA Ob Nv Rr VG YF h0 ZU;have Ap3:∃l0,t.σ.Ag=σ.Ag++l0:=by
  subst Ob;obtain⟨nS,σt,htp,oN⟩:=Xx.split;cases oN with
  |cons hσ ok ha hb next =>
   subst hσ;obtain⟨_,_,l0,gA⟩:=htp.ai he λu hu=>OA u (by simp[hu]);exact⟨l0,gA⟩
 have W9:t.Ok en BL.toList:=Xx.uP t (by rw[Ob];simp);obtain⟨l1,e1,e2,e3,_⟩:=Vx he W9 (OA t (by rw[Ob];simp));have ji:l1=l':=List.append_cancel_left (e1.symm.trans wR);subst ji;have hDt:D' t.i=true:=by rw[fW];simp
 have hDp:∀u∈Cy,D u.i=D' u.i:=λu hu=>by rw[fW,Aws (tH u hu)]
 have hDq:∀u∈post,D u.i=D' u.i:=λu hu=>by rw[fW,Aws (tJ u hu)]
 have hB':FU D' Gx σ.Ag=t.σ.Ag++(l++l1):=by
  have h1:FU D Gx σ.Ag=FU D post t.σ.Ag:=by
   rw[Ob,Vr,FU,hB,Nv];rfl
  rw[Ob,Vr,FU,<-jM hDp,hB,hDt,AxV,<-jM hDq];cases hg:t.grow with
  |false =>
   simp only[AwX,Axo];rw[<-h1,hl,AqD hg,AwO]
  |true =>
   simp only[AwS];have AnU:∀u∈post,D u.i=true->u.grow=false:=λu hu hd=>by
    have:=(R1 u hu hd).1;rw[hg]at this;cases this
   rw[Tz AnU,hlg hg,Axe];cases hq:t.e with
   |none=>simp[GK.grow,hq]at hg
   |some e=>simp only[GK.nb,hq];exact(e3 e hq).2
 have TK:(FU D Gx σ.Ag).length<=(FU D' Gx σ.Ag).length:=by rw[hl,hB'];simp
 refine⟨λi hi=>?_,λi hi=>?_,λi hi x hx=>?_,by rw[put_defers];exact Q6.dfr,by rw[Rc];exact Q6.len,?_,by rw[hB'];exact H',λk x hx=>?_,λu hu hd=>?_,λu hu hd hg=>?_⟩
 ·rw[fW];split
  ·rfl
  ·exact Q6.l7 i hi
 ·rw[fW]at hi;split at hi
  ·rename_i e;exact .inr ⟨t,by rw[Ob];simp,e.symm⟩
  ·exact Q6.only i hi
 ·rw[fW]at hi⊢;split
  ·rfl
  ·split at hi
   ·rename_i e;subst e;exact Rr x hx
   ·exact Q6.closed i hi x hx
 ·refine Q6.step.trans (st.kZ ?_);obtain⟨l0,gm⟩:=Ap3;rw[hl,gm];simp only[Awd];omega
 ·by_cases hd:t.o.dst=some k
  ·have j7:(Jx D' Gx σ.Az)[k]?=(T8 (some k) t.val (Jx D' Cy σ.Az))[k]?:=by
     rw[Ob,SE,Jx,hDt,Awr rfl,hd];refine TA λu hu hd' e=>?_;rw[<-hDq u hu]at hd';exact(Oper.apart_spec (R1 u hu hd').2).2.1 k hd e
   rw[j7]at hx;have hval:=bF hx;subst hval;have gl:k<a.tmps.size:=by
    have:=AP hx;rw[VX,Vs,Q6.len]at this;exact this
   rw[hd,Oh gl,hB'];exact hv
  ·rw[Qq hd];have j7:(Jx D' Gx σ.Az)[k]?=(Jx D Gx σ.Az)[k]?:=by
    rw[Ob,SE,SE,Jx,Jx,hDt,Nv,<-jN hDq,<-jN hDp];simp only[AwS,AwX,Axo];exact Yi (XR hd)
   rw[j7]at hx;exact(Q6.Az k x hx).M3 st TK
 ·rw[fW]at hd;split at hd
  ·rename_i e;have hut:u=t:=by
    rw[Ob]at hu;rcases List.mem_append.1 hu with hu |hu
    ·exact(tH u hu e).elim
    ·rcases List.mem_cons.1 hu with hu |hu
     ·exact hu
     ·exact(tJ u hu e).elim
   subst hut;exact Nf
  ·exact Q6.BX u hu hd
 ·rw[fW]at hd;split at hd
  ·rename_i e;have hut:u=t:=by
    rw[Ob]at hu;rcases List.mem_append.1 hu with hu |hu
    ·exact(tH u hu e).elim
    ·rcases List.mem_cons.1 hu with hu |hu
     ·exact hu
     ·exact(tJ u hu e).elim
   subst hut;rw[hlg hg,Axe]at H';rw[wR];exact H'.scp
  ·exact Q6.scp u hu hd hg
end
end Go.Va
namespace Go.Va
theorem ni{w:World}{g:G}{n:Nat}{σ:St}{a:Act}{BL:Array Oper}{o:Oper}{b:Bool}(h:Want BL.toList σ o b)(hlen:σ.Az.length=a.tmps.size)
    (hs:∀k∈o.looksAt BL,∀x,σ.Az[k]?=some x->BF w g n x (a.tmps.getD k undef)):Region.wanted o (yielded BL a.tmps)=b:=by
 cases h with
 |plain h=>simp[Region.wanted,h]
 |@guard g0 XC d b h hd hb =>
  rw[Awn]at hd;have hk:d∈o.looksAt BL:=AwI _ (by simp[h,hd]);have h1:=N4 (hs d hk _ hb);have hl:d<a.tmps.size:=by rw[<-hlen];exact AP hb
  have h2:a.tmps[d]?=some (.bool b):=by
   rw[Aw0 hl];rw[Aw1,Aw0 hl]at h1;exact congrArg some h1
  simp[Region.wanted,h,yielded,hd,h2]
 |@nil g0 XC d h hd hb =>
  rw[Awn]at hd;have hk:d∈o.looksAt BL:=AwI _ (by simp[h,hd]);have h1:a.tmps.getD d undef=.tuple #[]:=hs d hk _ hb;have hl:d<a.tmps.size:=by rw[<-hlen];exact AP hb
  have h2:a.tmps[d]?=some (.tuple #[]):=by
   rw[Aw0 hl];rw[Aw1,Aw0 hl]at h1;exact congrArg some h1
  simp[Region.wanted,h,yielded,hd,h2]
section
variable {P:Program} {en:Fe} {BL:Array Oper} {A:AyZ (Nat×AyZ Nat)} {N m:Nat} {done K5:AyZ Nat} {Gx Cy post:AyZ GK} {t:GK} {σ σ1:St} {a0 a:Act} {w0 w:World} {g0 g:G} {D D':Nat->Bool} {Q:Exit->Act->World->Prop}
theorem Inv.op(he:EnvOk P en)(Q6:Inv P A N done Gx σ m a0 w0 g0 D a w g)(Xx:Tr en BL.toList A done K5 σ Gx σ1)(OA:∀u∈Gx,u.ZJ=false)(Ob:Gx=Cy++t::post)(Nv:D t.i=false)(Rr:∀x∈C7 A t.i,D x=true)
    (VG:∀u∈Cy,u.i∈C7 A t.i\/u.o.apart BL t.o=true) (YF:∀u∈post,t.i∈C7 A u.i\/t.o.apart BL u.o=true)
    (h0:∀(i:Nat) (x:AV),σ.Az[i]?=some x->∀k∈x.BX,k<σ.Ag.length) (ZU:Rl σ.Ag) (hm:m<=σ.Ag.length)
    (fW:∀i,D' i=if i=t.i then true else D i) (tH:∀u∈Cy,u.i≠t.i) (tJ:∀u∈post,u.i≠t.i) {K:Act->World->Prop}
    (hK:∀a' w' g',Inv P A N done Gx σ m a0 w0 g0 D' a' w' g'->K a' w'):wpOp P BL Q t.i K a w:=by
 obtain⟨⟨l,hl,_,hlg⟩,hsc,hlen,R1,hgp,hB,H7⟩:=Q6.find he Xx OA Ob Nv Rr VG YF h0 ZU;have W9:t.Ok en BL.toList:=Xx.uP t (by rw[Ob];simp);obtain⟨l1,e1,e2,e3,_⟩:=Vx he W9 (OA t (by rw[Ob];simp));have ho:BL[t.i]?=some t.o:=by rw[<-Awn];exact W9.1
 have tQ:∀k∈t.o.looksAt BL,∀x,t.σ.Az[k]?=some x->BF w g (FU D Gx σ.Ag).length x (a.tmps.getD k undef):=λk hk x hx=>(H7 k hk x hx).1;have cV:=W9.2;unfold wpOp;simp only[ho];cases hq:t.e with
 |none =>
  rw[hq]at cV;rw[ni cV hlen tQ];simp only[AwX,Axo];have hg:t.grow=false:=by simp[GK.grow,hq]
  have hval:t.val=.nil:=by simp[GK.val,hq]
  have U9:=e2 hg;subst U9;refine hK _ _ g (Q6.next he Xx OA Ob Nv Rr VG YF h0 ZU hm fW tH tJ hl e1 hlg e2 ?_ ?_ ?_ (Step.refl _ _ _ _))
  ·rw[AwO,<-hl];exact Q6.heap
  ·rw[hval];exact(show BF _ _ _ .nil undef from rfl)
  ·rw[hval];intro k hk;cases hk
 |some e =>
  rw[hq]at cV;rw[ni cV.1 hlen tQ];simp only[AwS];obtain⟨AnR,Aql⟩:=e3 e hq;have hval:t.val=e.val:=by simp[GK.val,hq]
  have Mp:KO P (gP BL t.o t.σ) t.o e:=N8 he (by rw[o7];exact cV.2);refine .inl (pN Mp AnR (l:=l) (l':=l1) Aql ?_ (w:=w) (g:=g) ?_ hsc (by simp only[gP,WE];exact hlen) (λi x hx=>?_) λv w' g' H' hv Nf st=>?_)
  ·cases hg:t.grow with
   |true=>exact .inl (hlg hg)
   |false=>exact .inr (e2 hg)
  ·show A1 w g (t.σ.Ag++l);rw[<-hl];exact Q6.heap
  ·show BF w g (t.σ.Ag++l).length x _/\∀k∈x.BX,k<t.σ.Ag.length;rw[<-hl];by_cases hi:i∈t.o.looksAt BL
   ·simp only[gP]at hx;rw[WG (j:=0) (by simpa using hi)]at hx;exact H7 i hi x hx
   ·have:=aX (j:=0) (by simpa using hi) hx;subst this;exact⟨M4,λk hk=>by cases hk⟩
  ·refine hK _ _ g' (Q6.next he Xx OA Ob Nv Rr VG YF h0 ZU hm fW tH tJ hl e1 hlg e2 H' (by rw[hval];exact hv) (by rw[hval,aN hq];exact Nf) ?_);rw[hl];exact st
def Ul(listed:Array Bool)(i:Nat):Bool:=listed.getD i false
theorem mF{listed:Array Bool}{i:Nat}(hi:i<listed.size)(j:Nat):Ul (listed.setIfInBounds i true) j=if j=i then true else Ul listed j:=by
 unfold Ul;by_cases h:j=i
 ·subst h;simp[hi]
 ·rw[Aws h,getD_set_ne false (Ne.symm h)]
theorem PQ{listed:Array Bool}(hs:listed.size=BL.size){i:Nat}:i∈Region.ready .any BL listed↔i<BL.size/\Ul listed i=false/\∀d∈Pq BL.toList i,Ul listed d=true:=by
 rw[mem_ready];constructor
 ·rintro⟨h1,o,ho,h2⟩
  have hi:i<BL.size:=(Array.getElem?_eq_some_iff.1 ho).1;refine⟨hi,?_,λd hd=>?_⟩
  ·unfold Ul;have wP:i<listed.size:=by omega
   simpa [Aw1,wP]using h1
  ·unfold Pq at hd;rw[Awn,ho]at hd;obtain⟨e,he,hd⟩:=List.mem_filterMap.1 hd;split at hd
   ·rename_i hb;injection hd with hd;subst hd;exact h2 e (by simpa using he) hb
   ·cases hd
 ·rintro⟨hi,h1,h2⟩
  have wP:i<listed.size:=by omega
  refine⟨?_,BL[i],Aw0 hi,λe he hb=>?_⟩
  ·unfold Ul at h1;simpa [Aw1,wP]using h1
  ·refine h2 e.on ?_;unfold Pq;rw[Awn,Aw0 hi];exact List.mem_filterMap.2 ⟨e,by simpa using he,by rw[Awr hb]⟩
def left(D:Nat->Bool)(Gx:AyZ GK):Nat:=(Gx.filter λu=>!D u.i).length
theorem oW(Ob:Gx=Cy++t::post)(Nv:D t.i=false)(fW:∀i,D' i=if i=t.i then true else D i)(tH:∀u∈Cy,u.i≠t.i)(tJ:∀u∈post,u.i≠t.i):left D Gx=left D' Gx+1:=by
 have dK:∀(l:AyZ GK),(∀u∈l,u.i≠t.i)->l.filter (λu=>!D u.i)=l.filter λu=>!D' u.i:=λl h=>List.filter_congr λu hu=>by rw[fW,Aws (h u hu)]
 subst Ob;unfold left;rw[List.filter_append,List.filter_append,List.filter_cons,List.filter_cons,dK Cy tH,dK post tJ,Nv,show D' t.i=true by rw[fW];simp];simp;omega
end
end Go.Va
namespace Go.Va
theorem oX{D:Nat->Bool}{Gx:AyZ GK}(h:left D Gx=0):∀u∈Gx,D u.i=true:=λu hu=>by
 have:=Aw3 h;cases hd:D u.i with
 |true=>rfl
 |false =>
  have hm:u∈Gx.filter λu=>!D u.i:=List.mem_filter.2 ⟨hu,by grind⟩;rw[this]at hm;cases hm
theorem fL{D:Nat->Bool}:∀{Gx:AyZ GK},left D Gx≠0->∃Cy t post,Gx=Cy++t::post/\D t.i=false/\∀u∈Cy,D u.i=true
 |[],h=>(h rfl).elim
 |u::Gx,h=>by
  cases hd:D u.i with
  |false=>exact⟨[],u,Gx,rfl,hd,λ_ hu=>by grind⟩
  |true =>
   have:left D Gx≠0:=by
    unfold left at h⊢
    grind
   obtain⟨Cy,t,post,e,h1,h2⟩:=fL this
   grind
section
variable {P:Program} {en:Fe} {BL:Array Oper} {A:AyZ (Nat×AyZ Nat)} {m:Nat} {Q:Exit->Act->World->Prop} {a0:Act} {w0:World} {g0:G}
theorem gR{Gx Cy post:AyZ GK}{t:GK}(h:(Gx.map (·.i)).Nodup)(Ob:Gx=Cy++t::post):(∀u∈Cy,u.i≠t.i)/\∀u∈post,u.i≠t.i:=by
 grind
theorem vb(he:EnvOk P en)(hA:Z9 BL.toList A){done K5:AyZ Nat}{Gx:AyZ GK}{σ σ1:St}(Xx:Tr en BL.toList A done K5 σ Gx σ1)(OA:∀u∈Gx,u.ZJ=false)(R:AyZ Nat)
    (ZP:∀i,i<BL.size->i∈done\/(∃u∈Gx,u.i=i)\/i∈R) (Cw:∀u∈Gx,u.i<BL.size) (NT:(Gx.map (·.i)).Nodup)
    (SQ:∀Cy t post,Gx=Cy++t::post->∀u∈post,t.i∈C7 A u.i\/t.o.apart BL u.o=true) (Xa:∀Cy t post,Gx=Cy++t::post->∀d∈Pq BL.toList t.i,d∈done\/∃u∈Cy,u.i=d)
    (hR:∀i∈R,∀D:Nat->Bool,XX A D->(∀x∈C7 A i,D x=true)->(∀r∈R,D r=false)->∀u∈Gx,D u.i=true) (hRd:∀r∈R,r∉done/\∀u∈Gx,u.i≠r)
    (h0:∀(i:Nat) (x:AV),σ.Az[i]?=some x->∀k∈x.BX,k<σ.Ag.length) (ZU:Rl σ.Ag) (hm:m<=σ.Ag.length)
    (cont:∀(listed:Array Bool) (a:Act) (w:World) (g:G),listed.size=BL.size->(∀i∈done,Ul listed i=true)->(∀u∈Gx,Ul listed u.i=true)->(∀r∈R,Ul listed r=false)->XX A (Ul listed)->Ip w g σ1 a->Bi m w0 g0 w g->a.defers=a0.defers ->
     wpAny P .any BL Q R.length listed a w) :
    ∀(n:Nat) (listed:Array Bool) (a:Act) (w:World) (g:G),listed.size=BL.size->left (Ul listed) Gx=n->Inv P A BL.size done Gx σ m a0 w0 g0 (Ul listed) a w g->wpAny P .any BL Q (n+R.length) listed a w
 |0,listed,a,w,g,hs,hn,Q6=>by
  have yy:=oX hn;obtain⟨h1,h2,_⟩:=Xx.ai he OA;have hR0:∀r∈R,Ul listed r=false:=λr hr=>by
   cases hd:Ul listed r with
   |false=>rfl
   |true =>
    rcases Q6.only r hd with h |⟨u,hu,e⟩
    ·exact((hRd r hr).1 h).elim
    ·exact((hRd r hr).2 u hu e).elim
  have hB:FU (Ul listed) Gx σ.Ag=σ1.Ag:=by rw[UE λu hu _=>yy u hu,<-h2]
  rw[AwF];refine cont listed a w g hs Q6.l7 yy hR0 Q6.closed ⟨by rw[<-hB];exact Q6.heap,by rw[h1,Vs];exact Q6.len,λi x hx=>?_⟩ Q6.step Q6.dfr;rw[<-hB];refine Q6.Az i x ?_;rw[UF (λu hu hd=>by rw[yy u hu]at hd;cases hd) rfl,<-h1];exact hx
 |n+1,listed,a,w,g,hs,hn,Q6=>by
  obtain⟨Cy,t,post,Ob,Nv,tM⟩:=fL (D:=Ul listed) (Gx:=Gx) (by rw[hn];simp);rw[show n+1+R.length=(n+R.length)+1 by omega];have An9:t.i∈Region.ready .any BL listed:=(PQ hs).2 ⟨Cw t (by rw[Ob];simp),Nv,λd hd=>by
   rcases Xa Cy t post Ob d hd with h |⟨u,hu,e⟩
   ·exact Q6.l7 d h
   ·rw[<-e];exact tM u hu⟩
  refine⟨λh=>by(rw[h]at An9;cases An9),λi hi=>?_⟩;obtain⟨hil,me,U8⟩:=(PQ hs).1 hi;have Rr:=bJ hA Q6.closed U8;rcases ZP i hil with h |⟨u,hu,rfl⟩|h
  ·rw[Q6.l7 i h]at me;cases me
  ·obtain⟨p1,p2,SS⟩:=List.append_of_mem hu;obtain⟨tH,tJ⟩:=gR NT SS;have fW:=mF (listed:=listed) (i:=u.i) (by omega);refine Q6.op he Xx OA SS me Rr (λv hv=>?_) (SQ p1 u p2 SS) h0 ZU hm fW tH tJ λa' w' g' Arp=>?_
   ·obtain⟨q1,q2,hq⟩:=List.append_of_mem hv;exact SQ q1 v (q2++u::p2) (by rw[SS,hq];simp) u (by simp)
   ·refine vb he hA Xx OA R ZP Cw NT SQ Xa hR hRd h0 ZU hm cont n _ a' w' g' (by simpa using hs) ?_ Arp;have:=oW SS me fW tH tJ;omega
  ·have:=hR i h _ Q6.closed Rr λr hr=>by
     cases hd:Ul listed r with
     |false=>rfl
     |true =>
      rcases Q6.only r hd with h |⟨u,hu,e⟩
      ·exact((hRd r hr).1 h).elim
      ·exact((hRd r hr).2 u hu e).elim
   rw[this t (by rw[Ob];simp)]at Nv;cases Nv
theorem iO:∀(ts:AyZ GK),∃Gx XA,ts=Gx++XA/\(∀u∈Gx,u.ZJ=false)/\(XA=[]\/∃b r,XA=b::r/\b.ZJ=true)
 |[]=>⟨[],[],rfl,λ_ h=>by grind,.inl rfl⟩
 |t::ts=>by
  cases hb:t.ZJ with
  |true=>exact⟨[],t::ts,rfl,λ_ h=>by grind,.inr ⟨t,ts,rfl,hb⟩⟩
  |false =>
   obtain⟨Gx,XA,e,h1,h2⟩:=iO ts
   grind
theorem rq(he:EnvOk P en)(hA:Z9 BL.toList A){σ':St}(Sl:∀a' w' g',Ip w' g' σ' a'->Bi m w0 g0 w' g'->a'.defers=a0.defers->Q .normal a' w') :
    ∀(k:Nat) (ts:AyZ GK) (done K5:AyZ Nat) (σ:St),ts.length=k->Tr en BL.toList A done K5 σ ts σ'->(∀i,i<BL.size->i∈done\/∃u∈ts,u.i=i)->(∀u∈ts,u.i<BL.size)->(∀u∈ts,u.i∉done)->(ts.map (·.i)).Nodup ->
     (∀Cy t post,ts=Cy++t::post->∀u∈post,t.i∈C7 A u.i\/t.o.apart BL u.o=true)->(∀Cy t post,ts=Cy++t::post->∀d∈Pq BL.toList t.i,d∈done\/∃u∈Cy,u.i=d)->m<=σ.Ag.length ->
     ∀(listed:Array Bool) (a:Act) (w:World) (g:G),listed.size=BL.size->(∀i∈done,Ul listed i=true)->(∀u∈ts,Ul listed u.i=false)->XX A (Ul listed)->Ip w g σ a->Bi m w0 g0 w g->a.defers=a0.defers->wpAny P .any BL Q k listed a w:=by
 intro k;induction k using Nat.strongRecOn with
 |_ k ih =>
  intro ts done K5 σ hk Xx ZP Cw Anv NT SQ Xa hm listed a w g hs tj Nv U7 BG An6 Aqs;obtain⟨Gx,XA,rfl,OA,tN⟩:=iO ts;obtain⟨nS,σ1,ht1,ht2⟩:=Xx.split;obtain⟨_,_,lx,Aqu⟩:=ht1.ai he OA;have AqM:(Gx.map (·.i)).Nodup:=by
   rw[AwY,List.nodup_append]at NT;exact NT.1
  have AnL:left (Ul listed) Gx=Gx.length:=by
   unfold left;rw[List.filter_eq_self.2 λu hu=>by rw[Nv u (by simp[hu])];rfl]
  have UJ:∀u∈XA,∀v∈Gx,v.i≠u.i:=λu hu v hv=>by
   rw[AwY,List.nodup_append]at NT;exact NT.2.2 v.i (List.mem_map.2 ⟨v,hv,rfl⟩) u.i (List.mem_map.2 ⟨u,hu,rfl⟩)
  have hBn:FU (Ul listed) Gx σ.Ag=σ.Ag:=Tz λu hu hd=>by rw[Nv u (by simp[hu])]at hd;cases hd
  have hSn:∀i,(Jx (Ul listed) Gx σ.Az)[i]?=σ.Az[i]?:=λi=>TA λu hu hd=>by rw[Nv u (by simp[hu])]at hd;cases hd
  have AnK:k=Gx.length+(XA.map (·.i)).length:=by rw[Awl,<-Awd];exact hk.symm
  rw[AnK];refine vb (a0:=a0) (w0:=w0) (g0:=g0) he hA ht1 OA (XA.map (·.i)) (λi hi=>?_) (λu hu=>Cw u (by simp[hu])) AqM (λCy t post SS u hu=>SQ Cy t (post++XA) (by rw[SS];simp) u (by simp[hu])) (λCy t post SS=>Xa Cy t (post++XA) (by rw[SS];simp))
   (λi hi D hD Rr hRf u hu=>?_) (λr hr=>?_) (λi x hx=>(BG.Az i x hx).OU) BG.heap.scp hm (λmD a' w' g' XL hd' yK hR' tc Xw tX AaT=>?_) Gx.length listed a w g hs AnL ?_
  ·rcases ZP i hi with h |⟨u,hu,e⟩
   ·exact .inl h
   ·rcases List.mem_append.1 hu with hu |hu
    ·exact .inr (.inl ⟨u,hu,e⟩)
    ·exact .inr (.inr (List.mem_map.2 ⟨u,hu,e⟩))
  ·rcases tN with rfl |⟨b,r,rfl,hb⟩
   ·cases hi
   ·obtain⟨p1,p2⟩:=Xx.Un;rw[AwU]at hi;rcases List.mem_cons.1 hi with rfl |hi
    ·exact Rr _ ((p2 hb).2 u hu)
    ·obtain⟨v,hv,rfl⟩:=List.mem_map.1 hi;have h1:=Rr _ (p1 (by simp[hb]) v hv);rw[hRf b.i (by simp)]at h1;cases h1
  ·obtain⟨v,hv,rfl⟩:=List.mem_map.1 hr;exact⟨Anv v (by simp[hv]),λu hu=>UJ v hv u hu⟩
  ·rcases tN with rfl |⟨b,r,rfl,hb⟩
   ·cases ht2;refine⟨List.eq_nil_iff_forall_not_mem.2 λi hi=>?_,Sl a' w' g' Xw tX AaT⟩;obtain⟨hil,me,_⟩:=(PQ XL).1 hi;rcases ZP i hil with h |⟨u,hu,e⟩
    ·rw[hd' i h]at me;cases me
    ·rw[<-e,yK u (by simpa using hu)]at me;cases me
   ·rw[AwU,Axg,Awl];have hbr:b.i∈Region.ready .any BL mD:=(PQ XL).2 ⟨Cw b (by simp),hR' b.i (by simp),λd hd=>by
     rcases Xa Gx b r rfl d hd with h |⟨u,hu,e⟩
     ·exact hd' d h
     ·rw[<-e];exact yK u hu⟩
    refine⟨λh=>by(rw[h]at hbr;cases hbr),λi hi=>?_⟩;obtain⟨hil,me,U8⟩:=(PQ XL).1 hi;have Rr:=bJ hA tc U8;obtain⟨p1,p2⟩:=Xx.Un;have hib:i=b.i:=by
     rcases ZP i hil with h |⟨u,hu,rfl⟩
     ·rw[hd' i h]at me;cases me
     ·rcases List.mem_append.1 hu with hu |hu
      ·rw[yK u hu]at me;cases me
      ·rcases List.mem_cons.1 hu with rfl |hu
       ·rfl
       ·have:=Rr _ (p1 (by simp[hb]) u hu);rw[hR' b.i (by simp)]at this;cases this
    subst hib;cases ht2 with
    |cons hσ ok ha hbd next =>
     subst hσ;have ho:BL[b.i]?=some b.o:=by rw[<-Awn];exact ok.1
     have cV:=ok.2;cases hq:b.e with
     |none=>simp[GK.ZJ,hq]at hb
     |some e =>
      rw[hq]at cV;have Mp:=N8 he cV.2;unfold wpOp;simp only[ho];rw[Awr (Hp Xw cV.1)];have QA:m<=b.σ.Ag.length:=by rw[Aqu,Awd];omega
      refine .inl (Mp.wp a' w' g' Xw _ Q λv w2 g2 H2 yN LS=>?_);have R1:b.post=b.σ.after b.o.dst e:=by simp[GK.post,hq]
      have F2:=mF (listed:=mD) (i:=b.i) (by omega);have An3:∀u∈r,u.i≠b.i:=(gR NT rfl).2;refine ih r.length (by rw[<-hk];simp;omega) r (b.i::((Gx.map (·.i)).reverse++done)) _ b.post rfl next (λi hi=>?_) (λu hu=>Cw u (by simp[hu])) (λu hu=>?_) ?_ (λCy t post SS u hu=>SQ (Gx++b::Cy) t post (by rw[SS];simp) u hu) (λCy t post SS d hd=>?_) (by rw[R1];exact AwD QA Mp.grow)
       _ _ w2 g2 (by simpa using XL) (λi hi=>?_) (λu hu=>?_) (λi hi x hx=>?_) (by rw[R1];exact Xw.after Mp.grow H2 yN LS) (tX.trans (LS.kZ QA)) (by rw[put_defers];exact AaT)
      ·rcases ZP i hi with h |⟨u,hu,e⟩
       ·exact .inl (by simp[h])
       ·rcases List.mem_append.1 hu with hu |hu
        ·exact .inl (by simp;exact .inr (.inl ⟨u,hu,e⟩))
        ·rcases List.mem_cons.1 hu with rfl |hu
         ·exact .inl (by simp[e])
         ·exact .inr ⟨u,hu,e⟩
      ·have h1:=Anv u (by simp[hu]);have h2:=An3 u hu;have h3:∀v∈Gx,v.i≠u.i:=λv hv=>UJ u (by simp[hu]) v hv;simp only[Axm,Axz,List.mem_reverse,List.mem_map,not_or,not_exists,not_and];exact⟨h2,λv hv=>h3 v hv,h1⟩
      ·rw[AwY,List.nodup_append,AwU,List.nodup_cons]at NT;exact NT.2.1.2
      ·rcases Xa (Gx++b::Cy) t post (by rw[SS];simp) d hd with h |⟨u,hu,e⟩
       ·exact .inl (by simp[h])
       ·rcases List.mem_append.1 hu with hu |hu
        ·exact .inl (by simp;exact .inr (.inl ⟨u,hu,e⟩))
        ·rcases List.mem_cons.1 hu with rfl |hu
         ·exact .inl (by simp[e])
         ·exact .inr ⟨u,hu,e⟩
      ·rw[F2];split
       ·rfl
       ·rename_i RY;rcases List.mem_cons.1 hi with h |h
        ·exact(RY h).elim
        ·rcases List.mem_append.1 h with h |h
         ·obtain⟨u,hu,rfl⟩:=List.mem_map.1 (List.mem_reverse.1 h);exact yK u hu
         ·exact hd' i h
      ·rw[F2,Aws (An3 u hu)];exact hR' u.i (by simp;exact .inr ⟨u,hu,rfl⟩)
      ·rw[F2]at hi⊢;split
       ·rfl
       ·split at hi
        ·rename_i e;subst e;exact Rr x hx
        ·exact tc i hi x hx
  ·refine⟨tj,λi hi=>.inl ?_,U7,Aqs,BG.len,An6,by rw[hBn];exact BG.heap,λi x hx=>?_,λu hu hd=>by(rw[Nv u (by simp[hu])]at hd;cases hd),λu hu hd=>by(rw[Nv u (by simp[hu])]at hd;cases hd)⟩
   ·have hil:i<BL.size:=by
      unfold Ul at hi;rcases Awk i listed.size with h' |h'
      ·omega
      ·simp[Aw1,Array.getElem?_eq_none h']at hi
    rcases ZP i hil with h |⟨u,hu,rfl⟩
    ·exact h
    ·rw[Nv u hu]at hi;cases hi
   ·rw[hSn]at hx;rw[hBn];exact BG.Az i x hx
end
theorem WO:∀{l:AyZ Nat},nodup l=true->l.Nodup
 |[],_=>List.nodup_nil
 |k::r,h=>by
  simp only[nodup,Awg]at h;rw[List.nodup_cons];exact⟨by grind,WO h.2⟩
theorem gW{all:AyZ Oper}{A:AyZ (Nat×AyZ Nat)}:∀{L Cy post:AyZ Nat} {i:Nat},VR all A L=true->L=Cy++i::post->∀j∈post,i∈C7 A j\/∃x y,all[i]?=some x/\all[j]?=some y/\x.apart all.toArray y=true
 |[],Cy,post,i,_,h=>by simp at h
 |k::L,[],post,i,hp,h=>by
  injection h with h1 h2;subst h1;subst h2;intro j hj;simp only[VR,Awg]at hp
  grind
 |k::L,p::Cy,post,i,hp,h=>by
  injection h with h1 h2;simp only[VR,Awg]at hp;exact gW hp.2 h2
theorem mZ{all:AyZ Oper}:∀{L Cy post done:AyZ Nat} {i:Nat},Zr all L done=true->L=Cy++i::post->∀d∈Pq all i,d∈done\/d∈Cy
 |[],Cy,post,done,i,_,h=>by simp at h
 |k::L,[],post,done,i,hp,h=>by
  injection h with h1 h2;subst h1;intro d hd;simp only[Zr,Awg]at hp
  grind
 |k::L,p::Cy,post,done,i,hp,h=>by
  injection h with h1 h2;subst h1;simp only[Zr,Awg]at hp;intro d hd;rcases mZ hp.2 h2 d hd with h |h
  ·grind
  ·grind
theorem cA{P:Program}{en:Fe}{m:Nat}(he:EnvOk P en)(AqK:P.follows .mixedOrders=true){id:Nat}{BL:Array Oper}{L:AyZ Nat}(W9:rp BL.toList L=true){σ σ':St}(hx:Ps en BL.toList (Sv BL.toList L []) L [] [] σ some=some σ')(hm:m<=σ.Ag.length) :
    m<=σ'.Ag.length/\∀(a:Act) (w:World) (g:G) (Q:Exit->Act->World->Prop),Ip w g σ a->(∀a' w' g',Ip w' g' σ' a'->Bi m w g w' g'->a'.defers=a.defers->Q .normal a' w')->(Code.region id BL true).wp P Q a w:=by
 simp only[rp,Awg]at W9;obtain⟨⟨⟨⟨NT,ZP⟩,Cw⟩,SQ⟩,Xa⟩:=W9;obtain⟨ts,Qk,Xx⟩:=Vy he.UR hx;have hA:Z9 BL.toList (Sv BL.toList L []):=aj _ L [] (λi x h=>by cases h) NT λi _ p hp=>by grind
 have grow:∀{ts:AyZ GK} {done K5:AyZ Nat} {σ σ':St},Tr en BL.toList (Sv BL.toList L []) done K5 σ ts σ'->σ.Ag.length<=σ'.Ag.length:=by
  intro ts;induction ts with
  |nil=>intro done K5 σ σ' h;cases h;exact Awf _
  |cons t ts ih =>
   intro done K5 σ σ' h;cases h with
   |cons hσ ok ha hb next =>
    subst hσ;refine AwD ?_ (ih next)
    have ok2:=ok.2;unfold GK.post;cases hq:t.e with
    |none=>exact Awf _
    |some e =>
     rw[hq]at ok2;exact(N8 he ok2.2).grow
 have Aoi:∀Cy t post,ts=Cy++t::post->L=Cy.map (·.i)++t.i::post.map (·.i):=λCy t post h=>by grind
 refine⟨AwD hm (grow Xx),λa w g Q hs hq=>wp_region_any AqK ?_⟩;have Oa:Ip {w with drawn:=w.drawn+1} g σ a:=⟨hs.heap.drew,hs.len,λi x hx=>(hs.Az i x hx).M3 (Step.drew [] _ w g) (Awf _)⟩;have hlen:ts.length=BL.size:=by
  have h1:ts.length=L.length:=by grind
  have hn:=WO NT;have UL:∀i∈L,i∈List.range BL.size:=λi hi=>by
   grind
  have Aq4:∀i∈List.range BL.size,i∈L:=λi hi=>by
   grind
  have h2:=hn.length_le_of_subset UL;have h3:=List.nodup_range.length_le_of_subset Aq4
  grind
 have AqW:∀i,Ul (Array.replicate BL.size false) i=false:=λi=>by
  unfold Ul;rw[Aw1,Array.getElem?_replicate];split<;>rfl
 refine rq (m:=m) (a0:=a) (w0:=w) (g0:=g) he hA hq BL.size ts [] [] σ hlen Xx (λi hi=>.inr ?_) (λu hu=>?_) (λu _ h=>by grind) (by rw[Qk];exact WO NT) (λCy t post SS u hu=>?_) (λCy t post SS d hd=>?_) hm
  _ a _ g (by simp) (λi hi=>by grind) (λu _=>AqW _) (λi hi=>by grind) Oa (Step.drew _ _ w g) rfl
 ·have:=List.all_eq_true.1 ZP i (by grind)
  grind
 ·have yL:u.i∈L:=by grind
  grind
 ·rcases gW SQ (Aoi Cy t post SS) u.i (List.mem_map.2 ⟨u,hu,rfl⟩)with h |⟨x,y,hx,hy,h⟩
  ·grind
  ·have h1:=(Xx.uP t (by grind)).1;have h2:=(Xx.uP u (by rw[SS];simp[hu])).1;rw[hx]at h1;injection h1 with h1;rw[hy]at h2;injection h2 with h2;subst h1;subst h2;exact .inr (by simpa using h)
 ·rcases mZ Xa (Aoi Cy t post SS) d hd with h |h
  ·cases h
  ·obtain⟨u,hu,e⟩:=List.mem_map.1 h;exact .inr ⟨u,hu,e⟩
end Go.Va
namespace Go.Va
section
variable {P:Program} {en:Fe} {m:Nat}
def js(P:Program)(en:Fe)(m:Nat)(c:Code):Prop:=∀(σ:St) (e:Ex) (σ':St),ev en m c (Ex×St) σ Oe=some (e,σ')->m<=σ.Ag.length->m<=σ'.Ag.length /\
 ∀(a:Act) (w:World) (g:G) (Q:Exit->Act->World->Prop),Ip w g σ a->(∀a' w' g',Ip w' g' σ' a'->Bi m w g w' g'->a'.defers=a.defers->Q (cB e) a' w')->c.wp P Q a w
theorem VA(he:T1 en){c:Code}{R:Type}{σ:St}{K:Ex->St->Ay0 R}{r:R}(h:ev en m c R σ K=some r):∃e s,ev en m c (Ex×St) σ Oe=some (e,s)/\K e s=some r:=by
 rw[Rp he]at h;cases hx:ev en m c _ σ _ with
 |none=>grind
 |some p=>grind
theorem zb(he:Hy P en){body:Code}(ih:js P en m body):js P en m (.loop body):=by
 intro σ e σ' h hm;simp only[ev]at h;split at h
 ·rename_i hh ho _ _;split at h
  ·grind
  ·rename_i σ0 hσ0;have h:(fix (bR en m hh ho body) σ0).bind (λp=>Oe p.1 p.2)=some _:=h;cases hf:fix (bR en m hh ho body) σ0 with
   |none=>grind
   |some p =>
    rw[hf]at h;have h:p=(e,σ'):=by grind
    subst h;obtain⟨n,hn⟩:=(QZ.1 hf).n;have Sl:∀n s,ToN (bR en m hh ho body) n s (e,σ')->m<=s.Ag.length->m<=σ'.Ag.length:=by
     intro n s hs;generalize ht:(e,σ')=t at hs;induction hs with
     |done hd =>
      subst ht;intro hms;obtain⟨e1,s',hb,hc⟩:=RE he.UR hd;rcases hc with ⟨_,TR,_,hr⟩|⟨_,TR,hh2,hr⟩
      ·grind
      ·injection hr with hr;injection hr with h1 h2;subst h2;exact Q2 hh2
     |WM hd _ ihn =>
      intro hms;obtain⟨e1,s',hb,hc⟩:=RE he.UR hd;rcases hc with ⟨_,TR,tG,hr⟩|⟨_,TR,_,hr⟩
      ·injection hr with hr;subst hr;exact ihn ht (Q2 tG)
      ·grind
    have mh :=Q2 hσ0;refine⟨Sl n σ0 hn mh,λa w g Q hs hq=>?_⟩;obtain⟨g0,jj,gB,_⟩:=Rs hσ0 hs hm;refine p9 (λn a' w'=>∃s g',ToN _ n s _/\Ip w' g' s a'/\m<=s.Ag.length/\Bi m w g w' g'/\a'.defers=a.defers) (λn a1 w1 hR=>?_)  ⟨σ0,g0,hn,jj,mh,gB,rfl⟩;obtain⟨s,g1,oM,Oa,hms,Rt,XK⟩:=hR;cases oM with
    |done hd =>
     obtain⟨e1,s',hb,hc⟩:=RE he.UR hd;rcases hc with ⟨_,TR,_,hr⟩|⟨RY,TR,hh2,hr⟩
     ·grind
     ·injection hr with hr;injection hr with h1 h2;subst h1;subst h2;obtain⟨Adc,cZ⟩:=ih _ _ _ hb hms;refine cZ a1 w1 g1 _ Oa λa2 w2 g2 T7 j6 qj=>?_;obtain⟨g3,gA,tW,_⟩:=Rs hh2 T7 Adc;have hQ:=hq a2 w2 g3 gA ((Rt.trans j6).trans tW) (qj.trans XK);cases e with
      |normal=>grind
      |exit k=>exact hQ
      |ret=>exact hQ
    |WM hd Aq7 =>
     rename_i k;obtain⟨e1,s',hb,hc⟩:=RE he.UR hd;rcases hc with ⟨he1,TR,tG,hr⟩|⟨_,TR,_,hr⟩
     ·injection hr with hr;subst hr;subst he1;obtain⟨Adc,cZ⟩:=ih _ _ _ hb hms;refine cZ a1 w1 g1 _ Oa λa2 w2 g2 T7 j6 qj=>?_;obtain⟨g3,gA,tW,hm3⟩:=Rs tG T7 Adc;exact⟨k,AwP _,_,g3,Aq7,gA,hm3,(Rt.trans j6).trans tW,qj.trans XK⟩
     ·grind
 ·grind
theorem UI:∀{l:AyZ (Ay0 Unit)},fQ l=some ()->∀x∈l,x=some ()
 |[],_,_,h=>by grind
 |[x],h,y,hy=>by rw[AwA]at hy;subst hy;exact h
 |x::y::r,h,z,hz=>by
  simp only[fQ]at h;cases hf:x with
  |none=>grind
  |some u =>
   rw[hf]at h;rcases List.mem_cons.1 hz with rfl |hz
   ·grind
   ·exact UI h z hz
theorem sK(he:Hy P en){σ σ0:St}{l:Ay0 (AyZ Nat)}(h:ym m σ l=some σ0)(hm:m<=σ.Ag.length):m<=σ0.Ag.length/\∀{a:Act} {w:World} {g:G},Ip w g σ a->∃g0,Ip w g0 σ0 a/\Bi m w g w g0:=by
 cases l with
 |none=>simp only[ym,Awb]at h;subst h;exact⟨hm,λhs=>⟨_,hs,Bi.refl _ _ _⟩⟩
 |some l =>
  have h:σ.head {Bb:=l} m=some σ0:=h;exact⟨Q2 h,λhs=>by obtain⟨g1,h1,h2,_⟩:=Rs h hs hm;exact⟨g1,h1,h2⟩⟩
theorem sN(he:T1 en){σ:St}{o:Oper}{e:F1}(ha:X1 en σ o=none)(hs:im en σ o=none)(ht:zE en σ o=none)(hc:∀c,o.op≠.call c)(h:exec en σ o some=some e):∃e0,Nk en σ o some=some e0:=by
 have h:Qh en σ o some=some e:=by
  unfold exec at h
  grind
 unfold Qh at h;rw[ha,hs,ht]at h;simp only at h;split at h
 ·cases hd:Yp en o with
  |false=>grind
  |true =>
   rw[hd]at h;rw[J6 en he]at h;cases hx:Nk en σ o some with
   |none=>grind
   |some e0=>grind
 ·rw[J6 en he]at h;cases hx:Nk en σ o some with
  |none=>grind
  |some e0=>grind
theorem Wn{α:Type}{k:IntKind}{x y:Int}{c:BoundsCode}{w w1:World}{r:α}(h:(boundsPanic k x y c:Sem α).run P w=.ok r w1):False:=by
 unfold boundsPanic at h;split at h
 ·rw[Sem.run_bind]at h;generalize (Sem.run P _ w)=q at h;cases q with
  |halt e w=>cases h
  |ok b w2=>simp[runtimePanic]at h
 ·simp[runtimePanic]at h
theorem V2{t:TypeId}{w w1:World}{n:Nat}(h:(sizeOf t).run P w=.ok n w1):∀w',(sizeOf t).run P w'=.ok n w':=by
 intro w';unfold sizeOf typeInfo at h⊢;simp only[Sem.run_bind]at h⊢;have hp:(program).run P w=.ok P w:=rfl;have hp':(program).run P w'=.ok P w':=rfl;simp only[hp,hp',Result.andThen_ok]at h⊢;cases hq:P.info? t with
 |none=>rw[hq]at h;simp at h
 |some i=>rw[hq]at h;simp at h⊢;exact h.1
theorem Z0{t:TypeId}{u v c:Value}{w w1:World}(h:(Instr.indexAt t u v).run P w=.ok c w1):∀w',(Instr.indexAt t u v).run P w'=.ok c w':=by
 intro w';unfold Instr.indexAt at h⊢;cases v with
 |int k i =>
  simp only[asIntOf,pure_bind]at h⊢;cases hu:P.underlying t with
  |none=>simp[underlying,hu]at h
  |some d =>
   cases d with
   |slice elem =>
    cases u with
    |slice base len cap =>
     simp[underlying,hu]at h⊢;cases base with
     |none=>exact(Wn (by simpa using h)).elim
     |some a =>
      simp only at h⊢;split at h
      ·rename_i hc;rw[Awr hc];simp only[Sem.run_map]at h⊢;cases hs:(sizeOf elem).run P w with
       |halt e w=>rw[hs]at h;cases h
       |ok n w2 =>
        rw[hs]at h;rw[V2 hs w'];simp at h⊢;exact h.1
      ·exact(Wn (by simpa using h)).elim
    |_=>simp[underlying,hu]at h
   |array len elem =>
    cases u with
    |pointer p =>
     cases p with
     |none=>simp[underlying,hu,Instr.sureAddr]at h
     |some a =>
      simp[underlying,hu,Instr.sureAddr]at h⊢;split at h
      ·rename_i hc;rw[Awr hc];cases hs:(sizeOf elem).run P w with
       |halt e w=>rw[hs]at h;cases h
       |ok n w2 =>
        rw[hs]at h;rw[V2 hs w'];simp at h⊢;exact h.1
      ·split at h
       ·cases h
       ·exact(Wn h).elim
    |_=>simp[underlying,hu,Instr.sureAddr]at h
   |_=>simp[underlying,hu]at h
 |pointer p=>cases p<;>simp[asIntOf]at h
 |_=>simp[asIntOf]at h
def eJ(P:Program){α:Type}(s:Sem α):Prop:=∀w w1 c,s.run P w=.ok c w1->∀w',s.run P w'=.ok c w'
theorem eJ.pure{α:Type}(x:α):eJ P (Pure.pure x:Sem α):=λw w1 c h w'=>by simp at h⊢;exact h.1
theorem eJ.bind{α β:Type}{s:Sem α}{f:α->Sem β}(h1:eJ P s)(h2:∀x,eJ P (f x)):eJ P (s >>= f):=λw w1 c h w'=>by
 rw[Sem.run_bind]at h⊢;cases hs:s.run P w with
 |halt e w2=>rw[hs]at h;cases h
 |ok x w2 =>
  rw[hs]at h;rw[h1 _ _ _ hs w'];exact h2 x _ _ _ h w'
theorem eJ.info(t:TypeId):eJ P (typeInfo t):=λw w1 c h w'=>by
 unfold typeInfo at h⊢;simp only[Sem.run_bind]at h⊢;have hp:(program).run P w=.ok P w:=rfl;have hp':(program).run P w'=.ok P w':=rfl;simp only[hp,hp',Result.andThen_ok]at h⊢;cases hq:P.info? t with
 |none=>rw[hq]at h;simp at h
 |some i=>rw[hq]at h;simp at h⊢;exact h.1
theorem eJ.mapM{α β:Type}{f:α->Sem β}(h:∀x,eJ P (f x)):∀l:AyZ α,eJ P (l.mapM f)
 |[]=>by exact .pure _
 |x::l=>by rw[List.mapM_cons];exact .bind (h x) λy=>.bind (eJ.mapM h l) λys=>.pure _
theorem eJ.map{α β:Type}{s:Sem α}(f:α->β)(h:eJ P s):eJ P (f <$> s):=by
 exact .bind h λx=>.pure _
theorem fh(t:TypeId)(Fu:Array (Nat×Value)):eJ P (Instr.build t Fu):=by
 have J9:∀t,eJ P (sizeOf t):=λt=>by exact .bind (.info t) λ_=>.pure _
 have Nv:eJ P (underlying t):=by
  refine .bind (λw w1 c h w'=>?_) λp=>?_
  ·have hp:(program).run P w=.ok P w:=rfl;have hp':(program).run P w'=.ok P w':=rfl
   grind
  ·split
   ·exact .pure _
   ·exact λw w1 c h=>by simp at h
 refine .bind (.bind (.info t) λi=>?_) λz=>?_
 ·split
  ·exact .pure _
  ·exact λw w1 c h=>by simp at h
 ·refine .bind Nv λd=>?_;split
  ·refine .bind ?_ λps=>?_
   ·rw[Array.mapM_eq_mapM_toList];exact .map _ (.mapM (λf=>.bind (J9 _) λ_=>.pure _) _)
   ·split
    ·exact .pure _
    ·exact λw w1 c h=>by simp at h
  ·refine .bind (J9 _) λn=>?_;split
   ·exact .pure _
   ·exact λw w1 c h=>by simp at h
  ·exact λw w1 c h=>by simp at h
theorem bD(he:EnvOk P en){σ:St}{o:Oper}{e:F1}(hp:mQ o=true)(hx:exec en σ o some=some e){w w1:World}{g:G}{a:Act}(hs:Ip w g σ a){n:Next}(hr:(execOp a.eval o).run P w=.ok n w1) :
    ∃c,∀w',(execOp a.eval o).run P w'=.ok (.value c) w':=by
 unfold mQ at hp;split at hp
 ·rename_i x ho;exact⟨a.eval x,λw'=>by simp[execOp,ho]⟩
 ·rename_i x ho;exact⟨a.eval x,λw'=>by simp[execOp,ho]⟩
 ·rename_i x i ho;simp only[execOp,ho,Instr.extract]at hr⊢;split at hr
  ·split at hr
   ·rename_i v hv;exact⟨v,λw'=>by simp⟩
   ·cases hr
  ·cases hr
 ·rename_i t x f ho;have ha:X1 en σ o=none:=by unfold X1;rw[ho]
  obtain⟨e0,hx⟩:=sN he.UR ha (by unfold im pn;rw[ho]) (by unfold zE;rw[ho]) (λc e=>by grind) hx;unfold Nk at hx;rw[ho]at hx;simp only at hx;split at hx
  ·rename_i ti ht;have R3:=AF hs x;unfold ZM at hx;split at hx
   ·rename_i k i p q hq;rw[hq]at R3;split at hx
    ·rename_i fo tn;obtain⟨_,_,_,b,_,e1⟩:=IA R3;exact⟨.pointer (some ⟨b,i.toNat*(g.AK k).aL+q+fo,none⟩),λw'=>by simp[execOp,ho,e1,(Qi   (he.t ht) tn b _).1]⟩
    ·grind
   ·rename_i ks t' y hq;rw[hq]at R3;split at hx
    ·rename_i hc;obtain⟨_,b,off,ds,e1,_⟩:=Tq R3;cases tn:ti.Rb[f]? with
     |none =>
      rw[tn]at hc;obtain⟨rfl,hc⟩:=hc;split at hx
      ·rename_i Uj u z hz
       exfalso
       have:∀(f:Nat) (t:Ty) (x:t.V) (v:AV),Si ks t x f=some v->PK t f≠none:=by
        intro f;induction f with
        |zero=>intro t x v h;cases t<;>simp[Si,PK]at h⊢
        |succ f ih =>
         intro t x v h;cases t with
         |AH a b =>
          have:=ih b x.2 v h;simp only[PK]
          grind
         |_=>simp[Si]at h
       exact this f _ y _ hz hc
      ·grind
     |some fo=>exact⟨.pointer (some ⟨b,off+fo,none⟩),λw'=>by simp[execOp,ho,e1,(Qi   (he.t ht) tn b _).1]⟩
    ·grind
   ·grind
  ·grind
 ·rename_i t x i ho;simp only[execOp,ho]at hr⊢;rw[Sem.run_bind]at hr;cases hq:(Instr.indexAt t _ _).run P w with
  |halt e w=>rw[hq]at hr;cases hr
  |ok c w2=>exact⟨c,λw'=>by rw[Sem.run_bind,Z0 hq w'];rfl⟩
 ·rename_i t Fu ho;simp only[execOp,ho]at hr⊢;rw[Sem.run_bind]at hr;cases hq:(Instr.build t _).run P w with
  |halt e w=>rw[hq]at hr;cases hr
  |ok c w2=>exact⟨c,λw'=>by rw[Sem.run_bind,fh _ _ _ _ _ hq w'];rfl⟩
 ·grind
theorem Vj(he:Hy P en){h:SH}{BL:Array Oper}{σ':St}{Q:Exit->Act->World->Prop}{a0:Act}{w0:World}{g0:G}
    (Sl:∀a' w' g',Ip w' g' σ' a'->Bi m w0 g0 w' g'->a'.defers=a0.defers->Q .normal a' w') (WB:Region.noSelect BL=true) (hQ:∀c a w,¬Q (.panic c) a w) :
    ∀(k:Nat) (listed:Array Bool) (σ:St),nT en h m BL σ' k listed σ=some ()->m<=σ.Ag.length->∀(a:Act) (w:World) (g:G),Ip w g σ a->Bi m w0 g0 w g->a.defers=a0.defers->wpAny P .any BL Q k listed a w
 |0,listed,σ,hw,hm,a,w,g,hs,BG,hd=>by
  simp only[nT]at hw;split at hw
  ·rename_i hr;split at hw
   ·rename_i s hh;unfold N6 at hw;split at hw
    ·rename_i e;subst e;obtain⟨g1,Oa,Nq,_⟩:=Rs hh hs hm;exact⟨by grind,Sl a w g1 Oa (BG.trans Nq) hd⟩
    ·grind
   ·grind
  ·grind
 |k+1,listed,σ,hw,hm,a,w,g,hs,BG,hd=>by
  simp only[nT]at hw;split at hw
  ·rename_i i hi;have hp:=List.find?_some hi;have ZT:=List.mem_of_find?_eq_some hi;rw[Awg]at hp;simp only[Nj]at hw;split at hw
   ·grind
   ·rename_i o ho;have ml:BL[i]?=some o:=by grind
    rw[ml]at hp;rcases LW hw with ⟨hwt,h1⟩|⟨hwt,h1⟩
    ·rw[N7 en he.UR]at h1;cases hx:exec en σ o some with
     |none=>grind
     |some e =>
      rw[hx]at h1;have Mp:=N8 he.toEnvOk hx;have LX:=Mp.grow;have cZ:=Mp.wp a w g hs (wpAny P .any BL Q k (listed.setIfInBounds i true)) (λ_ _ _=>False) λv w' g' hH hv Xw=>Vj he Sl WB hQ k _ _ h1 (AwD hm LX) _ _ _ (hs.after LX hH hv Xw) (BG.trans (Xw.kZ hm)) (by rw[Go.Va.put_defers];exact hd);have C5:∃n w1,(execOp a.eval o).run P w=.ok n w1:=by
       unfold Oper.wp at cZ;cases hq:(execOp a.eval o).run P w with
       |ok n w1=>grind
       |halt e w1=>rw[hq]at cZ;cases e<;>exact cZ.elim
      obtain⟨n,w1,C5⟩:=C5;obtain⟨c,hc⟩:=bD he.toEnvOk hp.1 hx hs C5;have hy:Yields P BL o c a:=.inl ⟨Hp hs hwt,hc⟩;refine wpAny_take ml WB hp.2 (by grind) (λc a w h=>(hQ c _ _ h).elim) hy ?_;unfold Oper.wp at cZ;rw[hc w]at cZ;exact cZ
    ·have hy:Yields P BL o undef a:=.inr ⟨Hp hs hwt,rfl⟩;refine wpAny_take ml WB hp.2 (by grind) (λc a w h=>(hQ c _ _ h).elim) hy ?_;exact Vj he Sl WB hQ k _ _ h1 hm _ _ _ (hs.skip o.dst) BG (by rw[Go.Va.put_defers];exact hd)
  split at hw
  ·grind
  ·rename_i hr;refine⟨λe=>by grind,λi hi=>?_⟩;have h1:=UI hw _ (List.mem_map_of_mem hi);simp only[Nj]at h1;unfold wpOp;split at h1
   ·grind
   ·rename_i o ho;have ml:BL[i]?=some o:=by grind
    simp only[ml];rcases LW h1 with ⟨hw,h1⟩|⟨hw,h1⟩
    ·rw[N7 en he.UR]at h1;cases hx:exec en σ o some with
     |none=>grind
     |some e =>
      rw[hx]at h1;have Mp:=N8 he.toEnvOk hx;have LX:=Mp.grow;rw[Awr (Hp hs hw)];refine .inl (Mp.wp a w g hs _ Q λv w' g' hH hv Xw=>?_);exact Vj he Sl WB hQ k _ _ h1 (AwD hm LX) _ _ _ (hs.after LX hH hv Xw) (BG.trans (Xw.kZ hm)) (by rw[put_defers];exact hd)
    ·rw[Hp hs hw];exact Vj he Sl WB hQ k _ _ h1 hm _ _ _ (hs.skip o.dst) BG (by rw[put_defers];exact hd)
theorem Ip.cut{w:World}{g:G}{σ:St}{a:Act}(hs:Ip w g σ a):Ip w (g.cut σ.Ag.length) σ a:=by
 have YB:∀b,g.own b=.GH->(g.cut σ.Ag.length).own b=.GH:=λb h=>by simp[G.cut,h]
 refine⟨⟨λb hb=>by simp[G.cut,hs.heap.Bz b hb],λk x hx=>?_⟩,hs.len,λi x hx=>?_⟩
 ·have:=(hs.heap.Js k x hx).K3  YB (XI (AP hx)) λj hj=>XI (hs.heap.scp k x hx j hj);rwa [UA]at this
 ·have h:=hs.Az i x hx;have:=h.K3    YB λk hk=>XI (h.OU k hk);rwa [J4]at this
theorem kr(he:EnvOk P en){σ:St}{o:Oper}{e:F1}{t:TypeId}{x:Operand}(ho:o.op=.load t x){k:Nat}{i:Int}{p:AyZ Nat}{f:Nat}{a0:AV}(hx:σ.BP x=.ptr k i p f)(hb:σ.Ag[k]?=some (.box a0))(hex:exec en σ o some=some e)
    {w:World} {g:G} {a:Act} (hs:Ip w g σ a):∃b,(g.AK k).a=some ⟨b,0,none⟩/\∃c,∀w',w'.heap[b]?=w.heap[b]?->(execOp a.eval o).run P w'=.ok (.value c) w':=by
 have ha:X1 en σ o=none:=by
  unfold X1
  grind
 obtain⟨e0,hex⟩:=sN he.UR ha (by unfold im pn;rw[ho]) (by unfold zE;rw[ho]) (λc e=>by grind) hex;unfold Nk at hex;rw[ho]at hex;simp only at hex;split at hex
 ·rename_i ti ht;have R3:=AF hs x;rw[hx]at R3 hex;obtain⟨hk,h0,h1,b,KP,hpe⟩:=IA R3;refine⟨b,KP,?_⟩;have hld:∃v,wL σ.Ag k i p f=some v/\v.size=ti.ty.size:=by
   split at hex
   ·split at hex
    ·unfold U3 at hex;simp only[hb]at hex;cases hex
    ·grind
   ·unfold Uk at hex
    grind
  obtain⟨v,hv,J9⟩:=hld;obtain⟨cs,ZQ,CO⟩:=QQ hs.heap hv h1 KP;have hl:cs.length=ti.ty.size:=by rw[ZQ.len,J9]
  obtain⟨c,_,eO⟩:=Od (P:=P) (w:=w) (he.t ht) hl CO (λhg=>by rw[hl];exact Ol hg);refine⟨c,λw' ZW=>?_⟩;obtain⟨c',hr,tY⟩:=Od (P:=P) (w:=w') (he.t ht) hl (λj u hu=>(QU ZW).trans (CO j u hu)) (λhg=>by rw[hl];exact Ol hg);have:c'=c:=by
   cases hq:ti.ty.isAgg with
   |true=>rw[hq]at eO tY;rw[eO,tY]
   |false=>rw[hq]at eO tY;rw[eO]at tY;injection tY with h _;exact h.symm
  subst this;simp[execOp,ho,hpe,Instr.loadAt,Instr.sureAddr,hr]
 ·grind
theorem AdA{ts:Array TypeId}{t:TypeId}{ad:Ay0 Addr}{n cp:Nat}{w w1:World}{v:Value}(h:(Builtin.len_ ts t #[.slice ad n cp]).run P w=.ok v w1)(w':World):(Builtin.len_ ts t #[.slice ad n cp]).run P w'=.ok v w':=by
 unfold Builtin.len_ at h⊢;cases ht:ts[0]? with
 |none=>simp[ht]at h
 |some t =>
  cases hu:P.underlying t with
  |none=>simp[ht,underlying,hu]at h
  |some d =>
   cases d with
   |pointer q =>
    cases hq:P.underlying q with
    |none=>simp[ht,underlying,hu,hq]at h
    |some d=>cases d<;>simp[ht,underlying,hu,hq,goInt]at h⊢<;>exact h.1
   |slice _=>simp[ht,underlying,hu,goInt]at h⊢;exact h.1
   |array _ _=>simp[ht,underlying,hu,goInt]at h⊢;exact h.1
   |_=>simp[ht,underlying,hu,goInt]at h
theorem oY{o:Oper}{c:Call}(ho:o.op=.call c)(hc:c.callee=.builtin .len){a:Act}{X:Operand}(hX:c.args.toList=[X]){ad:Ay0 Addr}{n cp:Nat}(hv:a.eval X=.slice ad n cp){w w1:World}{nx:Next}(hr:(execOp a.eval o).run P w=.ok nx w1) :
    ∃v,∀w',(execOp a.eval o).run P w'=.ok (.value v) w':=by
 have hA:c.args=#[X]:=by grind
 have key:∀w',(execOp a.eval o).run P w'=((Builtin.len_ c.argTypes o.type #[.slice ad n cp]).run P w').andThen λv w'=>.ok (.value v) w':=λw'=>by
  simp[execOp,ho,resolve,hc,hA,hv,invoke,builtin]
 rw[key]at hr;cases hq:(Builtin.len_ _ _ _).run P w with
 |ok v w2=>exact⟨v,λw'=>by rw[key,AdA hq w'];rfl⟩
 |halt e w2=>rw[hq]at hr;cases hr
theorem pz(he:EnvOk P en){NR:AyZ Blk}{σ:St}{o:Oper}{e:F1}(hp:kE NR σ o=true)(hx:exec en σ o some=some e){w w1:World}{g:G}{a:Act}(hs:Ip w g σ a){nx:Next}(hr:(execOp a.eval o).run P w=.ok nx w1)
    {B:Nat->Prop} {w0:World} (hN:∀k b,(g.AK k).a=some ⟨b,0,none⟩->(∃a0,NR[k]?=some (.box a0))->B b) (hw:∀b,B b->w.heap[b]?=w0.heap[b]?):∃c,∀w',(∀b,B b->w'.heap[b]?=w0.heap[b]?)->(execOp a.eval o).run P w'=.ok (.value c) w':=by
 unfold kE at hp;rw[AxJ]at hp;rcases hp with hp |hp
 ·obtain⟨c,hc⟩:=bD he hp hx hs hr;exact⟨c,λw' _=>hc w'⟩
 ·split at hp
  ·rename_i t x ho;split at hp
   ·rename_i k i p f R3;split at hp
    ·rename_i a1 a0 hb0 hbb;obtain⟨b,KP,c,hc⟩:=kr he ho R3 hbb hx hs;have hbn:=hN k b KP ⟨a1,hb0⟩;exact⟨c,λw' ZW=>hc w' ((ZW b hbn).trans (hw b hbn).symm)⟩
    ·grind
   ·grind
  ·rename_i c ho;have go:∀(X:Operand),c.callee=.builtin .len->c.args.toList=[X]->(∃ad n cp,a.eval X=.slice ad n cp)->∃v,∀w',(∀b,B b->w'.heap[b]?=w0.heap[b]?)->(execOp a.eval o).run P w'=.ok (.value v) w':=λX h1 h2 ⟨ad,n,cp,h3⟩=>by
    obtain⟨v,hv⟩:=oY ho h1 h2 h3 hr;exact⟨v,λw' _=>hv w'⟩
   split at hp
   ·rename_i hc cW;unfold LP at cW;cases hl:c.args.toList with
    |nil=>grind
    |cons X r =>
     rw[hl]at cW;cases r with
     |nil =>
      simp only[AwU,List.map_nil,AxK,and_true]at cW;have hv:=AF hs X;rw[cW]at hv;obtain⟨_,ad,cp,ds,hv,_⟩:=Uz hv;exact go X hc hl ⟨_,_,_,hv⟩
     |cons _ _=>grind
   ·rename_i hc cW;unfold LP at cW;cases hl:c.args.toList with
    |nil=>grind
    |cons X r =>
     rw[hl]at cW;cases r with
     |nil =>
      simp only[AwU,List.map_nil,AxK,and_true]at cW;have hv:=AF hs X;rw[cW]at hv;obtain⟨ad,hv⟩:=Sw hv;exact go X hc hl ⟨_,_,_,hv⟩
     |cons _ _=>grind
   ·grind
  ·rename_i op t x y yt ho;rw[Awg]at hp;obtain⟨h1,h2⟩:=hp;split at h2
   ·rename_i ks k u Uj k' v R3 hyy;have hk:k=k':=by grind
    subst hk;have e1:=AF hs x;rw[R3]at e1;have e1:=CH e1;have e2:=AF hs y;rw[hyy]at e2;have e2:=CH e2;split at h1
    ·exact⟨_,λw' _=>by simp[execOp,ho,e1,e2,binOp];rfl⟩
    ·exact⟨_,λw' _=>by simp[execOp,ho,e1,e2,binOp];rfl⟩
    ·grind
   ·grind
  ·grind
theorem fH{R:Type}{all:AyZ Oper}{NR:AyZ Blk}{i:Nat}{σ:St}{K:St->Ay0 R}{r:R}(h:evQ en all NR i σ K=some r):∃o,all[i]?=some o/\Rq all σ o (λσ=>exec en σ o λe=>if e.Bg.all (nbx NR)then K (σ.after o.dst e)else none) (λσ=>K (σ.skip o.dst))=some r:=by
 unfold evQ at h
 grind
theorem pX{w:World}{g:G}{n:Nat}:Bi m w g w (g.cut n) :=
 ⟨rfl,rfl,rfl,Awf _,λb _ h=>⟨by simp[G.cut,h],rfl⟩,λb h=>⟨by simp[G.cut,h],rfl⟩,λb k p h hk hm=>(hm (List.mem_range.2 hk)).elim,λk hk=>rfl⟩
theorem aQ{w:World}{g:G}{bs:AyZ Blk}(H:A1 w g bs)(Z:AyZ Nat):A1 w g (Blk.Eu bs Z):=⟨H.Bz,λk x hx=>by
 rw[AQ];rcases Ha hx with rfl |⟨_,h⟩
 ·trivial
 ·exact H.Js k x h⟩
def Ve(gS:G)(NR:AyZ Blk)(b:Nat):Prop:=∃k a1,NR[k]?=some (.box a1)/\(gS.AK k).a=some ⟨b,0,none⟩
theorem kH{σ:St}{o:Oper}{e:F1}(Mp:KO P σ o e){NR:AyZ Blk}{gS:G}(hme:e.Bg.all (nbx NR)=true){w:World}{g:G}{a:Act}(hs:Ip w g σ a)(hm:m<=σ.Ag.length)(hNl:NR.length<=σ.Ag.length)(BW:∀k a1 b,NR[k]?=some (.box a1)->(gS.AK k).a=some ⟨b,0,none⟩->g.own b=.Bs k []){next:Act->World->Prop}{Q:Exit->Act->World->Prop}
    (hn:∀v w' g',Ip w' g' (σ.after o.dst e) (a.put o.dst v)->Bi m w g w' g'->(∀b,Ve gS NR b->w'.heap[b]?=w.heap[b]?)->(∀k,k<σ.Ag.length->g'.AK k=g.AK k)->(∀k a1 b,NR[k]?=some (.box a1)->(gS.AK k).a=some ⟨b,0,none⟩->g'.own b=.Bs k [])->next (a.put o.dst v) w'):o.wp P a w next Q:=by
 refine Mp.wp a w g hs next Q λv w' g' hH hv st=>?_
 have both:∀k a1 b,NR[k]?=some _->(gS.AK k).a=some _->w'.heap[b]?=w.heap[b]?/\g'.own b=.Bs k []:=λk a1 b hk hb=>by
  have h:=st.Bs b k [] (BW k a1 b hk hb) (AwL (AP hk) hNl) (λh=>by
   have:=List.all_eq_true.1 hme k h;unfold nbx at this;rw[hk]at this;cases this)
  exact⟨h.2,h.1⟩
 exact hn v w' g' (hs.after Mp.grow hH hv st) (st.kZ hm) (λb ⟨k,a1,h1,h2⟩=>(both k a1 b h1 h2).1) (λk hk=>st.AK k hk) λk a1 b h1 h2=>(both k a1 b h1 h2).2
theorem XE(he:Hy P en){h:SH}{BL:Array Oper}{σ':St}{Q:Exit->Act->World->Prop}{a0:Act}{w0:World}{g0 gS:G}
    (Sl:∀a' w' g',Ip w' g' σ' a'->Bi m w0 g0 w' g'->a'.defers=a0.defers->Q .normal a' w') (WB:Region.noSelect BL=true) (hQ:∀c a w,¬Q (.panic c) a w) {NR:AyZ Blk} (H0:A1 w0 gS NR) :
    ∀(k:Nat) (listed:Array Bool) (σ:St),jD en h m NR BL σ' k listed σ=some ()->m<=σ.Ag.length->NR.length<=σ.Ag.length->∀(a:Act) (w:World) (g:G),Ip w g σ a->Bi m w0 g0 w g->a.defers=a0.defers->(∀b,Ve gS NR b->w.heap[b]?=w0.heap[b]?)->(∀k,k<NR.length->g.AK k=gS.AK k)->(∀k a1 b,NR[k]?=some (.box a1)->(gS.AK k).a=some ⟨b,0,none⟩->g.own b=.Bs k []) ->
     wpAnyH P .any BL Q (λw=>∀b,Ve gS NR b->w.heap[b]?=w0.heap[b]?) k listed a w
 |0,listed,σ,hw,hm,hl,a,w,g,hs,BG,hd,hS,QK,BW=>by
  simp only[jD]at hw;split at hw
  ·rename_i hr;split at hw
   ·rename_i s hh;unfold N6 at hw;split at hw
    ·rename_i e;subst e;obtain⟨g1,Oa,Nq,_⟩:=Rs hh hs hm;exact⟨by grind,Sl a w g1 Oa (BG.trans Nq) hd⟩
    ·grind
   ·grind
  ·grind
 |k+1,listed,σ,hw,hm,hl,a,w,g,hs,BG,hd,hS,QK,BW=>by
  have one:∀(o:Oper) (e:F1) (i:Nat),exec en σ o some=some e->(if e.Bg.all (nbx NR)then jD en h m NR BL σ' k (listed.setIfInBounds i true) (σ.after o.dst e)else none)=some ()->∀(Q':Exit->Act->World->Prop),
      o.wp P a w (λa' w'=>(∀b,Ve gS NR b->w'.heap[b]?=w0.heap[b]?)/\wpAnyH P .any BL Q (λw=>∀b,Ve gS NR b->w.heap[b]?=w0.heap[b]?) k (listed.setIfInBounds i true) a' w') Q':=by
   intro o e i hx h1 Q';split at h1
   ·rename_i hme;have Mp:=N8 he.toEnvOk hx;refine kH (m:=m) (gS:=gS) Mp hme hs hm hl BW λv w' g' XL st' hS' Ank AnY=>?_;have hS2:∀b,Ve gS NR b->w'.heap[b]?=w0.heap[b]?:=λb hb=>(hS' b hb).trans (hS b hb);exact⟨hS2,XE he Sl WB hQ H0 k _ _ h1 (AwD hm Mp.grow) (AwD hl Mp.grow) _ _ _ XL (BG.trans st') (by rw[Go.Va.put_defers];exact hd) hS2 (λk hk=>(Ank k (AwL hk hl)).trans (QK k hk)) AnY⟩
   ·grind
  simp only[jD]at hw;split at hw
  ·rename_i i hi;have hp:=List.find?_some hi;have ZT:=List.mem_of_find?_eq_some hi;rw[Awg]at hp;obtain⟨o,ho,hw⟩:=fH hw;have ml:BL[i]?=some o:=by grind
   rw[ml]at hp;rcases LW hw with ⟨hwt,h1⟩|⟨hwt,h1⟩
   ·rw[N7 en he.UR]at h1;cases hx:exec en σ o some with
    |none=>grind
    |some e =>
     rw[hx]at h1;have cZ:=one o e i hx h1 (λ_ _ _=>False);have C5:∃n w1,(execOp a.eval o).run P w=.ok n w1:=by
      unfold Oper.wp at cZ;cases hq:(execOp a.eval o).run P w with
      |ok n w1=>grind
      |halt e w1=>rw[hq]at cZ;cases e<;>exact cZ.elim
     obtain⟨n,w1,C5⟩:=C5;obtain⟨c,hc⟩:=pz he.toEnvOk hp.1 hx hs C5 (B:=Ve gS NR) (w0:=w0) (λk b hb yA=>by
      obtain⟨a1,yA⟩:=yA;rw[QK k (AP yA)]at hb;exact⟨k,a1,yA,hb⟩) hS
     have hy:YieldsIf P BL (λw=>∀b,Ve gS NR b->w.heap[b]?=w0.heap[b]?) o c a:=.inl ⟨Hp hs hwt,hc⟩;refine wpAnyH_take ml WB hp.2 (by grind) (λc a w h=>(hQ c _ _ h).elim) hy hS ?_;unfold Oper.wp at cZ;rw[hc w hS]at cZ;exact cZ.2
   ·have hy:YieldsIf P BL (λw=>∀b,Ve gS NR b->w.heap[b]?=w0.heap[b]?) o undef a:=.inr ⟨Hp hs hwt,rfl⟩;refine wpAnyH_take ml WB hp.2 (by grind) (λc a w h=>(hQ c _ _ h).elim) hy hS ?_;exact XE he Sl WB hQ H0 k _ _ h1 hm hl _ _ _ (hs.skip o.dst) BG (by rw[Go.Va.put_defers];exact hd) hS QK BW
  split at hw
  ·grind
  ·rename_i hr;refine⟨λe=>by grind,λi hi=>?_⟩;have h1:=UI hw _ (List.mem_map_of_mem hi);obtain⟨o,ho,h1⟩:=fH h1;unfold wpOp;have ml:BL[i]?=some o:=by grind
   simp only[ml];rcases LW h1 with ⟨hw,h1⟩|⟨hw,h1⟩
   ·rw[N7 en he.UR]at h1;cases hx:exec en σ o some with
    |none=>rw[hx]at h1;cases h1
    |some e =>
     rw[hx]at h1;rw[Awr (Hp hs hw)];exact .inl (one o e i hx h1 Q)
   ·rw[Hp hs hw];exact⟨hS,XE he Sl WB hQ H0 k _ _ h1 hm hl _ _ _ (hs.skip o.dst) BG (by rw[put_defers];exact hd) hS QK BW⟩
theorem Mj(he:Hy P en):∀c:Code,js P en m c
 |.skip=>λσ e σ' h hm=>by
  obtain⟨rfl,rfl⟩:=h;exact⟨hm,λa w g Q hs hq=>wp_skip (hq a w g hs (Bi.refl _ _ _) rfl)⟩
 |.ret=>λσ e σ' h hm=>by
  obtain⟨rfl,rfl⟩:=h;exact⟨hm,λa w g Q hs hq=>wp_ret (hq a w g hs (Bi.refl _ _ _) rfl)⟩
 |.exit n=>λσ e σ' h hm=>by
  obtain⟨rfl,rfl⟩:=h;exact⟨hm,λa w g Q hs hq=>wp_exit (hq a w g hs (Bi.refl _ _ _) rfl)⟩
 |.seq c d=>λσ e σ' h hm=>by
  simp only[ev]at h;have hj:∃e1 s1,m<=s1.Ag.length/\(∀(a:Act) (w:World) (g:G) (Q:Exit->Act->World->Prop),Ip w g σ a->(∀a' w' g',Ip w' g' s1 a'->Bi m w g w' g'->a'.defers=a.defers->Q (cB e1) a' w')->c.wp P Q a w) /\
      (match e1 with |.normal=>ev en m d _ s1 Oe |.exit n=>Oe (.exit n) s1 |.ret=>Oe .ret s1)=some (e,σ'):=by
   split at h
   ·obtain⟨e1,s1,h1,h2⟩:=VA he.UR h;obtain⟨QA,jm⟩:=Mj he c σ e1 s1 h1 hm;exact⟨e1,s1,QA,jm,h2⟩
   ·rw[AwZ]at h;obtain⟨σ0,h0,h⟩:=h;obtain⟨mh,AcY⟩:=sK he h0 hm;rw[AwZ]at h;obtain⟨⟨e1,s2⟩,h1,h2⟩:=h;obtain⟨e0,s1,h3,h4⟩:=VA he.UR h1;rw[AwZ]at h4;obtain⟨s3,h5,h6⟩:=h4;simp only[Awb,Awm]at h6;obtain⟨rfl,rfl⟩:=h6;obtain⟨QA,jm⟩:=Mj he c σ0 e0 s1 h3 mh;refine⟨e0,s3,Q2 h5,λa w g Q hs hq=>?_,h2⟩;obtain⟨g0,jj,gB⟩:=AcY hs;refine jm a w g0 Q jj λa' w' g' XL BG hd=>?_;obtain⟨g3,gA,tW,_⟩:=Rs h5 XL QA;exact hq a' w' g3 gA (gB.trans (BG.trans tW)) hd
  obtain⟨e1,s1,QA,jm,h2⟩:=hj;cases e1 with
  |normal =>
   obtain⟨P6,ih2⟩:=Mj he d s1 e σ' h2 QA;refine⟨P6,λa w g Q hs hq=>wp_seq (jm a w g _ hs λa1 w1 g1 Oa Rt XK=>?_)⟩;exact ih2 a1 w1 g1 Q Oa λa2 w2 g2 T7 j6 qj=>hq a2 w2 g2 T7 (Rt.trans j6) (qj.trans XK)
  |exit n =>
   obtain⟨rfl,rfl⟩:=h2;exact⟨QA,λa w g Q hs hq=>wp_seq (jm a w g _ hs λa1 w1 g1 Oa Rt XK=>hq a1 w1 g1 Oa Rt XK)⟩
  |ret =>
   obtain⟨rfl,rfl⟩:=h2;exact⟨QA,λa w g Q hs hq=>wp_seq (jm a w g _ hs λa1 w1 g1 Oa Rt XK=>hq a1 w1 g1 Oa Rt XK)⟩
 |.cond c x y=>λσ e σ' h hm=>by
  simp only[ev]at h;split at h
  ·rename_i ks t hc;have hb:∀(a:Act) (w:World) (g:G),Ip w g σ a->a.eval c=.bool t:=λa w g hs=>by
    have:=AF hs c;rw[hc]at this;exact N4 this
   cases t
   ·obtain⟨QA,jm⟩:=Mj he y σ e σ' h hm;exact⟨QA,λa w g Q hs hq=>wp_cond_false (hb a w g hs) (jm a w g Q hs hq)⟩
   ·obtain⟨QA,jm⟩:=Mj he x σ e σ' h hm;exact⟨QA,λa w g Q hs hq=>wp_cond_true (hb a w g hs) (jm a w g Q hs hq)⟩
  ·grind
 |.block n c=>λσ e σ' h hm=>by
  simp only[ev]at h;obtain⟨e1,s1,h1,h2⟩:=VA he.UR h;obtain⟨QA,jm⟩:=Mj he c σ e1 s1 h1 hm;cases e1 with
  |normal =>
   obtain⟨rfl,rfl⟩:=h2;exact⟨QA,λa w g Q hs hq=>wp_block (jm a w g _ hs λa1 w1 g1 Oa Rt XK=>hq a1 w1 g1 Oa Rt XK)⟩
  |exit k =>
   simp only at h2;cases hk:k==n with
   |true =>
    rw[hk]at h2;obtain⟨rfl,rfl⟩:=h2;have YC:k=n:=by grind
    subst YC;exact⟨QA,λa w g Q hs hq=>wp_block (jm a w g _ hs λa1 w1 g1 Oa Rt XK=>by
     simp only[cB,Exit.inBlock];exact hq a1 w1 g1 Oa Rt XK)⟩
   |false =>
    rw[hk]at h2;obtain⟨rfl,rfl⟩:=h2;have YC:¬k=n:=by grind
    exact⟨QA,λa w g Q hs hq=>wp_block (jm a w g _ hs λa1 w1 g1 Oa Rt XK=>by
     simp only[cB,Exit.inBlock,Aws YC];exact hq a1 w1 g1 Oa Rt XK)⟩
  |ret =>
   obtain⟨rfl,rfl⟩:=h2;exact⟨QA,λa w g Q hs hq=>wp_block (jm a w g _ hs λa1 w1 g1 Oa Rt XK=>hq a1 w1 g1 Oa Rt XK)⟩
 |.region id BL false=>λσ e σ' h hm=>by
  simp only[ev]at h;rw[Pf he.UR]at h;cases hx:Nj en BL.toList (List.range BL.size) σ some with
  |none=>grind
  |some s =>
   rw[hx]at h;obtain⟨rfl,rfl⟩:=h;refine⟨(Vz (Q:=λ_ _ _=>True) he.toEnvOk _ _ _ hx hm).1,λa w g Q hs hq=>wp_region ((Vz he.toEnvOk _ _ _ hx hm).2 a w g hs hq)⟩
 |.region id BL true=>λσ e σ' h hm=>by
  simp only[ev]at h;split at h
  ·rw[AwZ]at h;obtain⟨σ0,h0,h⟩:=h;obtain⟨mh,AcY⟩:=sK he h0 hm;rw[AwZ]at h;obtain⟨s,h1,h2⟩:=h;obtain⟨rfl,rfl⟩:=h2;unfold zm at h1;split at h1
   ·grind
   rename_i WB;rw[Pf he.UR,AwZ]at h1;obtain⟨s0,h3,h4⟩:=h1;rw[AwZ]at h4;obtain⟨s1,h5,h6⟩:=h4;rw[AwZ]at h6;obtain⟨_,h7,h8⟩:=h6;injection h8 with h8;subst h8;refine⟨Q2 h5,λa w g Q hs hq=>Code.wp_mono (Q:=λe a w=>match e with |.panic _=>False |e=>Q e a w) (λe a w h=>by grind) (wp_region_any he.mixed ?_)⟩
   obtain⟨g1,hs,Rt⟩:=AcY hs;cases hqt:(SH.PO _)with
   |false =>
    rw[hqt]at h7;exact Vj (Q:=λe a w=>match e with |.panic _=>False |e=>Q e a w) he    (λa' w' g' h1 h2 h3=>hq a' w' g' h1 (Rt.trans h2) h3) (by grind) (λc a w h=>h) _ _ σ0 h7 mh a _ g1 ⟨hs.heap.drew,hs.len,λi x hx=>(hs.Az i x hx).M3 (Step.drew [] _ w g1) (Awf _)⟩ (Step.drew _ _ w g1) rfl
   |true =>
    rw[hqt]at h7;have hsD :=Ip.cut ⟨hs.heap.drew,hs.len,λi x hx=>(hs.Az i x hx).M3 (Step.drew _ _ _ _) (Awf _)⟩;exact wpAny_of_held _ _ _ _ (XE (Q:=λe a w=>match e with |.panic _=>False |e=>Q e a w) he     (λa' w' g' h1 h2 h3=>hq a' w' g' h1 (((Rt.trans ((Step.drew [] _ w g1).kZ mh)).trans pX).trans h2) h3) (by grind) (λc a w h=>h) (aQ hsD.heap _) _ _ σ0 h7 mh (Nat.le_of_eq (AQ _ _)) a _ _ hsD (Bi.refl _ _ _) rfl (λ_ _=>rfl) (λ_ _=>rfl) λk a1 b hk hb=>by
     obtain⟨_,b',_,_,ha',ho,_⟩:=(aQ hsD.heap _).Js k _ hk
     grind)
  split at h
  ·rename_i W9;rw[Pb he.UR]at h;cases hx:Ps en BL.toList (Sv BL.toList (Rx en BL.toList BL.toList.length []) []) (Rx en BL.toList BL.toList.length []) [] [] σ some with
   |none=>grind
   |some s =>
    rw[hx]at h;obtain⟨rfl,rfl⟩:=h;exact cA he.toEnvOk he.mixed W9 hx hm
  ·grind
 |.loop body=>zb he (Mj he body)
 |.goto _=>λ_ _ _ h _=>by simp[ev]at h
 |.label _=>λ_ _ _ h _=>by simp[ev]at h
 |.rangeFunc ..=>λ_ _ _ h _=>by simp[ev]at h
 |.scope _=>λ_ _ _ h _=>by simp[ev]at h
 |.refuse _=>λ_ _ _ h _=>by simp[ev]at h
end
end Go.Va
namespace Go.Va
def u5(tmps:Array Value):ResultVar->Sem Value
 |.tmp t=>pure (tmps.getD t undef)
 |.cell a t=>do loadVar t (<-asAddr (tmps.getD a undef))
theorem Y8(fn:Func)(tmps:Array Value):results fn tmps=(do let vs <-fn.results.mapM (u5 tmps);pure (if h:vs.size=1 then vs[0]else .tuple vs)):=by
 congr 1
section
variable {P:Program} {en:Fe}
theorem kJ(he:EnvOk P en){σ:St}{w:World}{g:G}{a:Act}(hs:Ip w g σ a):∀{rs:AyZ ResultVar} {l:AyZ AV},Xz en.C6 σ rs=some l ->
    ∃vs,(rs.mapM (u5 a.tmps)).run P w=.ok vs w/\CK w g σ.Ag.length l vs
 |[],l,h=>by
  simp only[Xz,Awb]at h;subst h;exact⟨[],rfl,trivial⟩
 |.tmp t::rs,l,h=>by
  simp only[Xz]at h;split at h
  ·rename_i x l' hx hl;injection h with h;subst h;obtain⟨vs,hr,hv⟩:=kJ he hs hl;exact⟨a.tmps.getD t _::vs,by simp only[List.mapM_cons,u5,Sem.run_bind,Sem.run_pure,Result.andThen_ok,hr],hs.Az t x hx,hv⟩
  ·grind
 |.cell b t::rs,l,h=>by
  simp only[Xz]at h;split at h
  ·rename_i ti k i p o ht hx;split at h
   ·rename_i x l' QK hl;split at h
    ·rename_i J9;injection h with h;subst h;obtain⟨vs,hr,hv⟩:=kJ he hs hl;obtain⟨hk,h0,h1,bb,hb,hp⟩:=IA (hs.Az b _ hx);obtain⟨cs,ZQ,CO⟩:=QQ hs.heap QK h1 hb;obtain⟨v,cY,eO⟩:=Od  (he.t ht) (by rw[ZQ.len,J9.1]) CO (λhg=>by rw[ZQ.len,J9.1];exact Ol hg);rw[<-J9.2]at eO;refine⟨v::vs,?_,A9 (QE ZQ) ZQ eO,hv⟩;have:(asAddr (a.tmps.getD b undef)).run P w=.ok ⟨bb,i.toNat*(g.AK k).aL+o,none⟩ w:=by rw[hp];rfl
     simp only[List.mapM_cons,u5,Sem.run_bind,Sem.run_pure,Result.andThen_ok,hr,this,cY]
    ·grind
   ·grind
  ·grind
theorem Yf{w:World}{g:G}{n:Nat}:∀{l:AyZ AV} {vs:AyZ Value},CK w g n l vs->B9 w g n true (Tx l) vs
 |[],[],_=>rfl
 |a::l,v::vs,⟨h1,h2⟩=>by
  refine⟨v,vs,rfl,?_,Yf h2⟩;split
  ·exact .inl rfl
  ·rename_i ht;exact(BF.iff (by grind)).1 h1
 |[],_::_,h=>h.elim
 |_::_,[],h=>h.elim
theorem zn{w:World}{g:G}{n:Nat}{l:AyZ AV}{vs:AyZ Value}(h:CK w g n l vs):BF w g n (ib l) (if h:vs.toArray.size=1 then vs.toArray[0]else .tuple vs.toArray):=by
 match l,vs,h with
 |[],[],_=>rfl
 |[a],[v],h=>exact h.1
 |a::b::l,v::u::vs,h =>
  have:¬(v::u::vs).toArray.size=1:=by simp
  exact⟨_,rfl,Yf h⟩
theorem ao{w:World}{g:G}{n:Nat}:∀{l:AyZ AV} {vs:AyZ Value},CK w g n l vs->l.length=vs.length
 |[],[],_=>rfl
 |_::_,_::_,h=>by simp[ao h.2]
 |[],_::_,h=>h.elim
 |_::_,[],h=>h.elim
theorem Tp{w:World}{g:G}{n:Nat}:∀{l:AyZ AV} {vs:AyZ Value} {i:Nat} {x:AV},CK w g n l vs->l[i]?=some x->∃v,vs[i]?=some v/\BF w g n x v
 |_::_,v::_,0,_,h,hx=>by simp at hx;subst hx;exact⟨v,rfl,h.1⟩
 |_::_,_::_,i+1,_,h,hx=>by
  obtain⟨v,hv,hr⟩:=Tp  h.2 (by simpa using hx)
  grind
 |[],[],_,_,_,hx=>by grind
 |[],_::_,_,_,h,_=>h.elim
 |_::_,[],_,_,h,_=>h.elim
theorem X0{w w':World}{g g':G}{n n':Nat}(st:Step [] n w g w' g')(hn:n<=n'):∀{l:AyZ AV} {vs:AyZ Value},CK w g n l vs->CK w' g' n' l vs
 |[],[],_=>trivial
 |_::_,_::_,h=>⟨h.1.M3 st hn,X0 st hn h.2⟩
 |[],_::_,h=>h.elim
 |_::_,[],h=>h.elim
theorem Wl{w:World}{g:G}{n:Nat}{x:AV}:∀{l:AyZ AV} {vs:AyZ Value} {i:Nat} {v:Value},CK w g n l vs->vs[i]?=some v->BF w g n x v->CK w g n (l.set i x) vs
 |_::_,_::_,0,v,h,hv,hx=>by
  simp at hv;subst hv;exact⟨hx,h.2⟩
 |_::_,_::_,i+1,v,h,hv,hx=>⟨h.1,Wl h.2 (by grind) hx⟩
 |[],[],_,_,_,hv,_=>by grind
 |[],_::_,_,_,h,_,_=>h.elim
 |_::_,[],_,_,h,_,_=>h.elim
theorem fz{m:Nat}{w:World}:∀{cs:AyZ (Nat×Co)} {l l':AyZ AV} {bs FQ:AyZ Blk} {g:G} {vs:AyZ Value},Vp cs l bs=some (l',FQ)->A1 w g bs->CK w g bs.length l vs->m<=bs.length ->
    ∃g',A1 w g' FQ/\CK w g' FQ.length l' vs/\Bi m w g w g'
 |[],l,l',bs,FQ,g,vs,h,H,hx,hm=>by
  obtain⟨rfl,rfl⟩:=h;exact⟨g,H,hx,Bi.refl _ _ _⟩
 |(i,c)::r,l,l',bs,FQ,g,vs,h,H,hx,hm=>by
  simp only[Vp]at h;split at h
  ·grind
  ·rename_i v hv;split at h
   ·rename_i v' nb tf;obtain⟨u,hu,hr⟩:=Tp hx hv;obtain⟨g1,H1,ZV,Nq⟩:=jI H tf hr;obtain⟨g2,H2,jl,LS⟩:=fz (m:=m) h H1 (Wl (X0 Nq (by simp) hx) hu ZV) (by grind);exact⟨g2,H2,jl,(Nq.kZ hm).trans LS⟩
   ·grind
theorem l3{m:Nat}{w:World}:∀{cs:AyZ (Nat×Ty)} {l l':AyZ AV} {bs FQ:AyZ Blk} {g:G} {vs:AyZ Value},cJ m cs l bs=some (l',FQ)->A1 w g bs->CK w g bs.length l vs ->
    ∃g',A1 w g' FQ/\CK w g' FQ.length l' vs/\Bi m w g w g'/\FQ.length=bs.length
 |[],l,l',bs,FQ,g,vs,h,H,hx=>by
  obtain⟨rfl,rfl⟩:=h;exact⟨g,H,hx,Bi.refl _ _ _,rfl⟩
 |(i,t)::r,l,l',bs,FQ,g,vs,h,H,hx=>by
  simp only[cJ]at h;split at h
  ·grind
  ·rename_i v hv;split at h
   ·rename_i v' nb hf;obtain⟨g1,H1,hl,Nq,ha,ZV,_,_⟩:=cL H hf;obtain⟨u,hu,hr⟩:=Tp hx hv;have AqI:∀{l:AyZ AV} {vs:AyZ _},CK w g bs.length l vs->CK w g1 nb.length (l.map AV.Vd) vs:=by
     intro l;induction l with
     |nil=>intro vs h;cases vs with
      |nil=>trivial
      |cons _ _=>exact h.elim
     |cons a l ih=>intro vs h;cases vs with
      |nil=>exact h.elim
      |cons v vs=>exact⟨by rw[hl];exact ha a v h.1,ih h.2⟩
    obtain⟨g2,H2,jl,LS,oI⟩:=l3  h H1 (Wl (AqI hx) hu (by grind));exact⟨g2,H2,jl,Nq.trans LS,oI.trans hl⟩
   ·grind
theorem iK{w:World}{g:G}{E:AyZ Blk}{args:AyZ AV}{vs:AyZ Value}(H:A1 w g E)(h:CK w g E.length args vs){n:Nat}(hn:args.length<=n) :
    Ip w g ⟨args++List.replicate (n-args.length) (.un 0),E⟩ {tmps:=vs.toArray++Array.replicate (n-vs.toArray.size) undef,defers:=[]} where
 heap:=H
 len:=by simp[ao h]
 Az i x hx:=by
  rw[Awz]at hx;split at hx
  ·obtain⟨v,hv,hr⟩:=Tp h hx;have hi:=AP hv;have:(vs.toArray++Array.replicate (n-vs.toArray.size) undef).getD i undef=v:=by
    rw[Aw1,Array.getElem?_append_left (by grind)];simp[hv]
   rw[this];exact hr
  ·rw[List.getElem?_replicate]at hx;split at hx
   ·injection hx with hx;subst hx;exact M4
   ·grind
theorem TF{m:Nat}{w:World}{a:Act}:∀{l:AyZ Fi} {σ σ2:St} {g:G},T5 m l σ=some σ2->Ip w g σ a->m<=σ.Ag.length->∃g',Ip w g' σ2 a/\Bi m w g w g'/\m<=σ2.Ag.length
 |[],σ,σ2,g,h,hs,hm=>by
  simp only[T5,Awb]at h;subst h;exact⟨g,hs,Bi.refl _ _ _,hm⟩
 |.co k c::r,σ,σ2,g,h,hs,hm=>by
  simp only[T5]at h;split at h
  ·rename_i bs hb;obtain⟨g1,H1,st⟩:=su hs.heap hb;have hl:=XH hb;obtain⟨g2,h2,LS,P6⟩:=TF  h ⟨H1,hs.len,λi x hx=>(hs.Az i x hx).M3 st hl⟩ (AwD hm hl);exact⟨g2,h2,(st.kZ hm).trans LS,P6⟩
  ·grind
 |.Be j::r,σ,σ2,g,h,hs,hm=>by
  refine TF (σ:=⟨σ.Az,σ.Ag.set j _⟩) h ⟨⟨hs.heap.Bz,λk x hx=>?_⟩,hs.len,λi x hx=>by rw[Awi];exact hs.Az i x hx⟩ (by grind);rw[Awi];rw[Awy]at hx;split at hx
  ·split at hx
   ·injection hx with hx;subst hx;trivial
   ·grind
  ·exact hs.heap.Js k x hx
 |.mvs s p::r,σ,σ2,g,h,hs,hm=>by
  simp only[T5]at h;split at h
  ·rename_i σ1 h1;unfold mvP at h1;split at h1
   ·obtain⟨g1,Oa,Nq,QA⟩:=kx h1 hs hm;obtain⟨g2,T7,LS,P6⟩:=TF h Oa QA;exact⟨g2,T7,Nq.trans LS,P6⟩
   ·rename_i a0 jj;obtain⟨g1,Oa,Nq,QA⟩:=uH jj h1 hs hm;obtain⟨g2,T7,LS,P6⟩:=TF h Oa QA;exact⟨g2,T7,Nq.trans LS,P6⟩
   ·grind
  ·grind
 |.mv k p::r,σ,σ2,g,h,hs,hm=>by
  simp only[T5]at h;split at h
  ·rename_i σ1 h1;obtain⟨g1,Oa,Nq,QA⟩:=kx h1 hs hm;obtain⟨g2,T7,LS,P6⟩:=TF h Oa QA;exact⟨g2,T7,Nq.trans LS,P6⟩
  ·grind
theorem UX(he:Hy P en){f:FuncId}{fn:Func}(hf:P.funcs[f]?=some fn){args:AyZ AV}{E:AyZ Blk}{av:AV}{E':AyZ Blk}(h:RA en fn (AV×AyZ Blk) args E (λv b=>some (v,b))=some (av,E')) :
    E.length<=E'.length/\∀(w:World) (g:G) (vs:AyZ Value),A1 w g E->CK w g E.length args vs->Calls P f vs.toArray w λe w'=>∃v g',e=.returned v/\A1 w' g' E'/\BF w' g' E'.length av v/\Bi E.length w g w' g':=by
 unfold RA at h;split at h
 ·grind
 ·rename_i c hc;split at h
  ·rename_i hl;obtain⟨e,σ',h1,h2⟩:=VA he.UR h;obtain⟨hm,cZ⟩:=Mj he c _ e σ' h1 (Awf _);have key:∀(σ2:St) (l l0:AyZ AV) (NR:AyZ Blk) (l':AyZ AV) (FQ:AyZ Blk),T5 E.length en.fi.Sl σ'=some σ2->Xz en.C6 σ2 fn.results.toList=some l->cJ E.length en.fi.Ph l σ2.Ag=some (l0,NR)->Vp en.fi.jo l0 NR=some (l',FQ)->YS E.length FQ (ib l')=some (av,E')->(cB e=.normal\/cB e=.ret) ->
       E.length<=E'.length/\∀(w:World) (g:G) (vs:AyZ Value),A1 w g E->CK w g E.length args vs->Calls P f vs.toArray w λe w'=>∃v g',e=.returned v/\A1 w' g' E'/\BF w' g' E'.length av v/\Bi E.length w g w' g':=by
    intro σ2 l l0 NR l' FQ Aqv VH gi tf wS hex;unfold YS at wS
    dsimp only at wS
    split at wS
    ·rename_i hp;simp only[Awb,Awm]at wS;obtain⟨l9,hE⟩:=wS;have hmn:=(uT (Pm hp).1).1;have wN:E'.length=(bH FQ FQ.length (Xy (List.range E.length) (ib l').BX)).length:=by grind
     refine⟨by grind,λw g vs H hx=>?_⟩;refine calls_of_wp hf hc ?_;refine cZ _ w g _ (iK H hx hl) λa' w' g0 jj gB hd=>?_;obtain⟨g',XL,Xw,P6⟩:=TF Aqv jj hm;have BG:=gB.trans Xw;obtain⟨vs',hr,hv⟩:=kJ he.toEnvOk XL VH;obtain⟨g1,H1,ZV,Nq,U9⟩:=l3 gi XL.heap hv;obtain⟨g2,H2,yN,LS⟩:=fz tf H1 ZV (by rw[U9];exact P6);have R1:∃u,(results fn a'.tmps).run P w'=.ok u w'/\∃v' oC,Ending.returned u=Ending.returned v'/\A1 w' oC E'/\BF w' oC E'.length av v'/\Bi E.length w g w' oC:=by
      refine⟨if h:vs'.toArray.size=1 then vs'.toArray[0]else .tuple vs'.toArray,?_,_,g2.pick _,rfl,by rw[<-hE];exact bu H2 hp,?_,((BG.trans Nq).trans LS).trans (bw hp).1⟩
      ·rw[Y8,Array.mapM_eq_mapM_toList];simp only[Sem.run_bind,Sem.run_map,hr];rfl
      ·rw[wN,<-l9];exact((zn yN).K3 (λb h=>VT h) λk hk=>VU ((Pm hp).2.2.1 k hk)).C8
     obtain⟨u,ZV,yN⟩:=R1;rcases hex with h |h<;>rw[h]<;>exact⟨hd,u,ZV,yN⟩
    ·grind
   have vN:(match T5 E.length en.fi.Sl σ' with
         |none=>none
         |some σ=>match Xz en.C6 σ fn.results.toList with
          |some l=>match cJ E.length en.fi.Ph l σ.Ag with
           |some (l,bs)=>match Vp en.fi.jo l bs with
            |some (l',FQ)=>match YS E.length FQ (ib l')with
             |some (v,bs)=>some (v,bs)
             |none=>none
            |none=>none
           |none=>none
          |none=>none)=some (av,E')->(cB e=.normal\/cB e=.ret)->E.length<=E'.length/\∀(w:World) (g:G) (vs:AyZ Value),A1 w g E->CK w g E.length args vs->Calls P f vs.toArray w λe w'=>∃v g',e=.returned v/\A1 w' g' E'/\BF w' g' E'.length av v/\Bi E.length w g w' g':=by
    intro h hex;split at h
    ·grind
    grind
   cases e with
   |exit n=>grind
   |normal=>exact vN h2 (.inl rfl)
   |ret=>exact vN h2 (.inr rfl)
  ·grind
theorem Am.of(he:Hy P en){f:FuncId}{fn:Func}(hf:P.funcs[f]?=some fn)(hn:(fn.name=="runtime.NumGoroutine")=false)(hb:fn.body.isNone=false){c:Callee}(hc:XW c)
    (h:∀args E av E',c.run (AV×AyZ Blk) args E (λv b=>some (v,b))=some (av,E')->RA en fn (AV×AyZ Blk) args E (λv b=>some (v,b))=some (av,E')):Am P f c where
 UR:=hc
 snd args E av E' hr:=by
  obtain⟨h1,h2⟩:=UX he hf (h args E av E' hr);refine⟨h1,λw g vs H hx o a next Q yH=>?_⟩
  have:(callFunc f vs.toArray).run P w=.ok (.enter f vs.toArray) w:=by
   have hn1:¬fn.name="runtime.NumGoroutine":=by grind
   have aO:¬fn.body=none:=by
    grind
   simp[callFunc,hf,hn1,aO]
  rw[this];refine(h2 w g vs H hx).mono λe w' ⟨v,g',e1,hH,hv,BG⟩=>?_;subst e1;exact yH v w' g' hH hv BG
theorem Am.of2{f:FuncId}{fn:Func}(hf:P.funcs[f]?=some fn)(hn:(fn.name=="runtime.NumGoroutine")=false)(hb:fn.body.isNone=false){c:Callee}(hc:XW c)
    (h:∀args E av E',c.run (AV×AyZ Blk) args E (λv b=>some (v,b))=some (av,E')->∃en,Hy P en/\RA en fn (AV×AyZ Blk) args E (λv b=>some (v,b))=some (av,E')):Am P f c where
 UR:=hc
 snd args E av E' hr:=by
  obtain⟨en,he,h0⟩:=h args E av E' hr;obtain⟨h1,h2⟩:=UX he hf h0;refine⟨h1,λw g vs H hx o a next Q yH=>?_⟩
  have:(callFunc f vs.toArray).run P w=.ok (.enter f vs.toArray) w:=by
   have hn1:¬fn.name="runtime.NumGoroutine":=by grind
   have aO:¬fn.body=none:=by
    grind
   simp[callFunc,hf,hn1,aO]
  rw[this];refine(h2 w g vs H hx).mono λe w' ⟨v,g',e1,hH,hv,BG⟩=>?_;subst e1;exact yH v w' g' hH hv BG
end
end Go.Va
namespace Go.Va
def RN(P:Program):Ty->TypeId->Bool
 |.int k,t=>match P.underlying t with |some (.int k')=>k==k' |_=>false
 |.bool,t=>match P.underlying t with |some .bool=>true |_=>false
 |.str,t=>match P.underlying t with |some .string=>true |_=>false
 |.sl u,t=>match P.underlying t with |some (.slice e)=>P.cellsOf e==u.size&&u.size !=0&&RN P u e |_=>false
 |.AH a b,t=>match P.underlying t with
  |some (.struct fs)=>P.cellsOf t==a.size+b.size&&(match fs.toList with |f::r=>f.offset==0&&P.cellsOf f.type==a.size&&RN P a f.type&&Zt P b a.size r |[]=>false)
  |_=>false
 |_,_=>false
where Zt (P:Program):Ty->Nat->AyZ Field->Bool
 |.AH a b,o,f::r=>f.offset==o&&P.cellsOf f.type==a.size&&RN P a f.type&&Zt P b (o+a.size) r
 |.unit,_,[]=>true
 |_,_,_=>false
def Ty.Wf:(t:Ty)->t.V->Prop
 |.int k,n=>k.min<=n/\n<=k.max
 |.str,s=>s.size<=maxLen
 |.AH a b,x=>a.Wf x.1/\b.Wf x.2
 |.sl t,xs=>xs.length<=maxLen/\∀x∈xs,t.Wf x
 |_,_=>True
section
variable {P:Program} {H:Type} {enc:TypeId×Value->H} {w:World} {base:Nat} {sp:Nat->Bool} {held:Bool}
def jy(w:World)(b:Nat):Prop:=b<w.heap.size
theorem PF{α β:Type}{f:α->Ay0 β}{x:α}{l:AyZ α}{r:AyZ β}(h:(x::l).mapM f=some r):∃y ys,f x=some y/\l.mapM f=some ys/\r=y::ys:=by
 cases hx:f x with
 |none=>grind
 |some y =>
  cases hl:l.mapM f with
  |none=>grind
  |some ys=>simp[hx,hl]at h;exact⟨y,ys,rfl,rfl,h.symm⟩
theorem ah(a:Addr)(k:Nat):(a.add k).block=a.block/\(a.add k).off=a.off+k:=by
 unfold Addr.add
 grind
theorem jH{a:Addr}{k:Nat}{v:Value}(h:w.cell? (a.add k)=some v):w.cell? ⟨a.block,a.off+k,none⟩=some v:=by
 unfold Addr.add at h;split at h
 ·rename_i hk;subst hk;cases a with
  |mk b o sp =>
   cases sp with
   |none=>grind
   |some q =>
    simp only[World.cell?,AwS]at h;split at h<;>cases h
 ·grind
theorem fF{u:Ty}{s:Nat}(hs:s=u.size){a:Addr}{F:AyZ Value->Ay0 (DataW H×AyZ MemPlace)}(ih:∀cs y,F cs=some y->∃x:u.V,FX w (jy w) u x cs/\u.Wf x) :
    ∀(n i:Nat) (ys:AyZ (DataW H×AyZ MemPlace)),(List.range' i n).mapM (λi=>(w.cells? base (a.add (i*s)) s).bind F)=some ys ->
     ∃(xs:AyZ u.V) (ds:AyZ Value),xs.length=n/\Ca (FX w (jy w) u) xs ds/\(∀x∈xs,u.Wf x)/\∀j v,ds[j]?=some v->w.cell? ⟨a.block,a.off+i*s+j,none⟩=some v
 |0,i,ys,_=>⟨[],[],rfl,rfl,λ_ h=>by grind,λj v h=>by grind⟩
 |n+1,i,ys,h=>by
  obtain⟨y,ys',h1,h2,_⟩:=PF h;obtain⟨c,hc,hF⟩:=Option.bind_eq_some_iff.1 h1;obtain⟨x,hx,hw⟩:=ih c y hF;obtain⟨_,U7,CO⟩:=World.cells?_some hc;obtain⟨xs,ds,hl,hr,hwf,hd⟩:=fF hs ih n (i+1) ys' h2;refine⟨x::xs,c++ds,by grind,⟨c,ds,rfl,hx,hr⟩,λz hz=>by
   grind,λj v hj=>?_⟩
  rw[Awz]at hj;split at hj
  ·rw[<-CO j (by omega)]at hj;have:=jH hj;rw[(ah _ _).1,(ah _ _).2]at this;exact this
  grind
theorem zf:∀(ty:Ty),(∀(t:TypeId) (Na:Nat) (cs:AyZ Value) (y:DataW H×AyZ MemPlace),RN P ty t=true->DataW.trod enc P w base sp held Na t cs=some y->∃x:ty.V,FX w (jy w) ty x cs/\ty.Wf x) /\
    ∀(o Na:Nat) (fs:AyZ Field) (cs:AyZ Value) (ys:AyZ (DataW H×AyZ MemPlace)),RN.Zt P ty o fs=true->fs.mapM (λf=>DataW.trod enc P w base sp held Na f.type ((cs.drop f.offset).take (P.cellsOf f.type)))=some ys->cs.length=o+ty.size ->
     ∃x:ty.V,FX w (jy w) ty x (cs.drop o)/\ty.Wf x:=by
 intro ty;induction ty with
 |int k =>
  refine⟨λt Na cs y hm h=>?_,λo Na fs cs ys hm=>by simp[RN.Zt]at hm⟩;simp only[RN]at hm;split at hm
  ·rename_i k' hu;have:k=k':=by simpa using hm
   subst this;cases Na with
   |zero=>simp[DataW.trod]at h
   |succ n =>
    simp only[DataW.trod,hu]at h;split at h<;>try (rename_i he;cases he;done)
    all_goals try (cases h;done)
    all_goals try (rename_i he _;cases he;done)
    rename_i k1 k2 n2 he;injection he with he;injection he with he;subst he;split at h
    ·rename_i hc;obtain⟨hk,hwf⟩:=hc;subst hk;simp only[Lit.wf,Awg,Axc]at hwf;exact⟨n2,rfl,hwf⟩
    ·cases h
  ·cases hm
 |bool =>
  refine⟨λt Na cs y hm h=>?_,λo Na fs cs ys hm=>by simp[RN.Zt]at hm⟩;simp only[RN]at hm;split at hm
  ·rename_i hu;cases Na with
   |zero=>simp[DataW.trod]at h
   |succ n =>
    simp only[DataW.trod,hu]at h;split at h<;>try (rename_i he;cases he;done)
    all_goals try (cases h;done)
    all_goals try (rename_i he _;cases he;done)
    rename_i b he;exact⟨b,rfl,trivial⟩
  ·cases hm
 |str =>
  refine⟨λt Na cs y hm h=>?_,λo Na fs cs ys hm=>by simp[RN.Zt]at hm⟩;simp only[RN]at hm;split at hm
  ·rename_i hu;cases Na with
   |zero=>simp[DataW.trod]at h
   |succ n =>
    simp only[DataW.trod,hu]at h;split at h<;>try (rename_i he;cases he;done)
    all_goals try (cases h;done)
    all_goals try (rename_i he _;cases he;done)
    rename_i s he;split at h
    ·rename_i hc;exact⟨s,rfl,hc⟩
    ·cases h
  ·cases hm
 |unit =>
  refine⟨λt Na cs y hm=>by simp[RN]at hm,λo Na fs cs ys hm h hl=>?_⟩;refine⟨(),?_,trivial⟩;show cs.drop o=[];rw[List.drop_eq_nil_iff];simp only[Ty.size]at hl;omega
 |O3 z=>exact⟨λt Na cs y hm=>by simp[RN]at hm,λo Na fs cs ys hm=>by simp[RN.Zt]at hm⟩
 |sl u ih =>
  refine⟨λt Na cs y hm h=>?_,λo Na fs cs ys hm=>by simp[RN.Zt]at hm⟩;simp only[RN]at hm;split at hm
  ·rename_i e hu;simp only[Awg,Axj,bne_iff_ne]at hm;obtain⟨⟨J9,BB⟩,hm⟩:=hm;cases Na with
   |zero=>simp[DataW.trod]at h
   |succ n =>
    simp only[DataW.trod,hu]at h;split at h<;>try (rename_i he;cases he;done)
    all_goals try (cases h;done)
    all_goals try (rename_i he _;cases he;done)
    all_goals try (rename_i he _ _;cases he;done)
    ·exact⟨[],⟨none,0,[],rfl,Awf _,rfl,.inl rfl⟩,AwW _,λx hx=>by(cases hx)⟩
    ·rename_i e' a len cap he;injection he with he;injection he with he;subst he;split at h
     ·rename_i hc;obtain⟨elems,RX,_⟩:=Option.bind_eq_some_iff.1 h;rw[List.range_eq_range']at RX;obtain⟨xs,ds,hxl,hr,hwf,hd⟩:=fF (u:=u) J9 (λcs y hy=>ih.1 e n cs y hm hy) len 0 elems RX;subst hxl;refine⟨xs,⟨some a,cap,ds,rfl,hc.2.1,hr,?_⟩,AwD hc.2.1 hc.2.2,hwf⟩;cases xs with
      |nil=>exact .inl rfl
      |cons x xs =>
       refine .inr ?_;rw[Axg,List.range'_succ]at RX;obtain⟨y1,_,h1,_,_⟩:=PF RX;obtain⟨c,G3,_⟩:=Option.bind_eq_some_iff.1 h1;obtain⟨_,U7,CO⟩:=World.cells?_some G3;have DT:=CO 0 (by omega);have SS:a.spot=none/\jy w a.block:=by
        have Wd:∃v,c[0]?=some v:=⟨_,Axk (by omega)⟩;obtain⟨v,hv⟩:=Wd;rw[hv]at DT;have DT:w.cell? a=some v:=by simpa [Addr.add]using DT
        refine⟨?_,World.block_lt_of_cell? w a DT⟩;cases SS:a.spot with
        |none=>rfl
        |some q =>
         unfold World.cell? at DT;rw[SS]at DT;split at DT
         ·simp at DT
         ·cases DT
       refine⟨a.block,a.off,?_,SS.2,λj v hj=>by simpa using hd j v hj⟩;cases a with
       |mk b o sp=>simp only at SS;rw[SS.1]
     ·cases h
  ·cases hm
 |AH a b yQ yR =>
  have main:∀(o Na:Nat) (f:Field) (r:AyZ Field) (cs:AyZ Value) (ys:AyZ (DataW H×AyZ MemPlace)),f.offset=o->P.cellsOf f.type=a.size->RN P a f.type=true->RN.Zt P b (o+a.size) r=true ->
      (f::r).mapM (λf=>DataW.trod enc P w base sp held Na f.type ((cs.drop f.offset).take (P.cellsOf f.type)))=some ys->cs.length=o+(a.size+b.size)->∃x:(Ty.AH a b).V,FX w (jy w) (.AH a b) x (cs.drop o)/\(Ty.AH a b).Wf x:=by
   intro o Na f r cs ys ho J9 hma hmb h hl;obtain⟨y,ys',h1,h2,_⟩:=PF h;rw[ho,J9]at h1;obtain⟨xa,hra,hwa⟩:=yQ.1 f.type Na _ y hma h1;obtain⟨xb,hrb,hwb⟩:=yR.2 (o+a.size) Na r cs ys' hmb h2 (by omega);refine⟨(xa,xb),⟨_,_,?_,hra,hrb⟩,hwa,hwb⟩;rw[<-List.drop_drop];exact(Axs a.size (cs.drop o)).symm
  refine⟨λt Na cs y hm h=>?_,λo Na fs cs ys hm h hl=>?_⟩
  ·simp only[RN]at hm;split at hm
   ·rename_i fs hu;rw[Awg]at hm;obtain⟨J9,hm⟩:=hm;have J9:P.cellsOf t=a.size+b.size:=by simpa using J9
    split at hm
    ·rename_i f r hfs;simp only[Awg,Axj]at hm;obtain⟨⟨⟨h1,h2⟩,h3⟩,h4⟩:=hm;cases Na with
     |zero=>simp[DataW.trod]at h
     |succ n =>
      have BG:(if cs.length=P.cellsOf t then(fs.toList.mapM λf=>DataW.trod enc P w base sp held n f.type ((cs.drop f.offset).take (P.cellsOf f.type))).map λxs=>((.agg (xs.map (·.1)):DataW H),xs.flatMap (·.2))else none)=some y:=by
       simp only[DataW.trod,hu]at h;exact h
      split at BG
      ·rename_i U7;cases hq:fs.toList.mapM λf=>DataW.trod enc P w base sp held n f.type ((cs.drop f.offset).take (P.cellsOf f.type))with
       |none=>rw[hq]at BG;cases BG
       |some ys =>
        rw[hfs]at hq;have:=main 0 n f r cs ys h1 h2 h3 (by rw[AwF];exact h4) hq (by omega);simpa using this
      ·cases BG
    ·cases hm
   ·cases hm
  ·cases fs with
   |nil=>simp[RN.Zt]at hm
   |cons f r =>
    simp only[RN.Zt,Awg,Axj]at hm;obtain⟨⟨⟨h1,h2⟩,h3⟩,h4⟩:=hm;exact main o Na f r cs ys h1 h2 h3 h4 h hl
end
def QP:AyZ Ty->Type
 |[]=>Unit
 |t::ts=>t.V×QP ts
def QP.av:(ts:AyZ Ty)->QP ts->AyZ AV
 |[],_=>[]
 |t::ts,x=>.Aw [] t x.1::QP.av ts x.2
def QP.Wf:(ts:AyZ Ty)->QP ts->Prop
 |[],_=>True
 |t::ts,x=>t.Wf x.1/\QP.Wf ts x.2
def G.bq(w:World):G:=⟨λb=>if b<w.heap.size then .GH else .no,λ_=>⟨none,0,0,0⟩⟩
section
variable {P:Program} {H:Type} {enc:TypeId×Value->H} {w:World} {base:Nat} {sp:Nat->Bool} {held:Bool}
theorem zG{ty:Ty}{t:TypeId}{v:Value}{x:ty.V}(hm:RN P ty t=true)(hf:v.formed P t=true)(hr:FX w (jy w) ty x v.cells.toList):BV ty.isAgg v.cells.toList v:=by
 cases ty with
 |AH a b =>
  simp only[RN]at hm;split at hm
  ·rename_i fs hu;unfold Value.formed at hf;split at hf
   ·simp[BV,Ty.isAgg,Value.cells]
   ·grind
   ·grind
  ·grind
 |int k =>
  simp only[RN]at hm;split at hm
  ·cases v<;>simp_all [BV,Ty.isAgg,Value.cells,Value.formed]
  ·grind
 |bool =>
  simp only[RN]at hm;split at hm
  ·cases v<;>simp_all [BV,Ty.isAgg,Value.cells,Value.formed]
  ·grind
 |str =>
  simp only[RN]at hm;split at hm
  ·cases v<;>simp_all [BV,Ty.isAgg,Value.cells,Value.formed]
  ·grind
 |sl u =>
  simp only[RN]at hm;split at hm
  ·cases v<;>simp_all [BV,Ty.isAgg,Value.cells,Value.formed]
  ·grind
 |unit=>simp[RN]at hm
 |O3 z=>simp[RN]at hm
end
section
variable {P:Program} {H:Type} {enc:TypeId×Value->H}
open Go.ChangeShapes Go.WideShapes Go.ChangeAt Go.RowKit
theorem Uu{w w':World}{base:Nat}{sp:Nat->Bool}{held:Bool}:∀{ts:AyZ TypeId} {vs:AyZ Value} {ds:AyZ (DataW H)} {ps:AyZ MemPlace},DataW.TrodAll enc P w base sp held ts vs ds ps->(∀p∈ps,w.sameAt w' p)->DataW.TrodAll enc P w' base sp held ts vs ds ps
 |[],[],[],_,h,_=>h
 |_::_,_::_,_::_,_,⟨p,q,⟨n,h1⟩,h2,e⟩,hs=>⟨p,q,⟨n,DataW.trod_carry n _ _ _ h1 λx hx=>hs x (by grind)⟩,Uu h2 (λx hx=>hs x (by grind)),e⟩
theorem uj{f:Func}{s:ChangeSpec}{Bz handsOn:Bool}{W W':World}{args:Array Value}{ds gs:AyZ (DataW H)}{before:AyZ MemPlace}(hW:DataW.Whole enc P f.params.toList s.vars false W args.toList ds gs before)(hv:s.vars=[])
    (tT:gs=[]->s.fn H (ds++gs)={results:=[.lit (.bool true)],args:=ds}) {tb:TypeId} (hrt:f.resultTypes=#[tb]) (yM:P.underlying tb=some .bool) (hold:∀b,b<W.heap.size->W'.heap[b]?=W.heap[b]?) (hos:W'.os=W.os) (AqS:W'.output=W.output)
    (K:Kids P (·<P.types.size)) (hz:∀t e,t<P.types.size->P.underlying t=some (.slice e)->0<P.cellsOf e) (ht:∀t∈f.params.toList,t<P.types.size):s.post enc P f false Bz handsOn false W args (.bool true) W':=by
 have Cw:=hW.lt;obtain⟨p,q,hA,hV,hpq,hfz,NT⟩:=id hW;rw[hv]at hV;obtain⟨rfl,rfl⟩:=trodVars_none hV;have SS:=tT rfl;rw[AwO]at hpq SS;subst hpq;have dK:∀x∈before,W.sameAt W' x:=λx hx=>by
  have hb:=hold x.block (Cw x hx);cases x with
  |cell b off=>simp only[World.sameAt,World.cell?];simp only[MemPlace.block]at hb;rw[hb]
  |map b=>exact hb
 have ZF:=Uu hA dK;have hre:∀sp:Nat->Bool,(∀x∈before,sp x.block=true)->DataW.TrodAll enc P W' 0 sp true f.params.toList args.toList ds before:=λsp hs=>ZF.respare K hz ht hs;have VH:∀(b:Nat) (sp:Nat->Bool) (hd:Bool),DataW.TrodAll enc P W' b sp hd f.resultTypes.toList ((Value.bool true).resultList f.resultTypes.size) [.lit (.bool true)] []:=λb sp hd=>by
  rw[hrt];exact trodAll_cons_mk (shut_bool yM _) trodAll_mk0
 have AaZ:∀x∈before,(λb=>decide (b<W.heap.size)) x.block=true:=λx hx=>by grind
 refine⟨ds,[],before,[],before,[],hW,?_,?_,?_,⟨hos,AqS,λi hi=>?_⟩,λh=>by grind⟩
 ·grind
 ·grind
 ·rw[hv];rw[AwO,SS];rfl
 grind
def eh(P:Program):AyZ Ty->AyZ TypeId->Bool
 |[],[]=>true
 |ty::tys,t::ts=>RN P ty t&&eh P tys ts
 |_,_=>false
theorem az{w:World}{base:Nat}{sp:Nat->Bool}{held:Bool}:∀{tys:AyZ Ty} {ts:AyZ TypeId} {vs:AyZ Value} {ds:AyZ (DataW H)} {ps:AyZ MemPlace},eh P tys ts=true->DataW.TrodAll enc P w base sp held ts vs ds ps ->
    (∀(j:Nat) t v,ts[j]?=some t->vs[j]?=some v->v.formed P t=true)->∃xs:QP tys,QP.Wf tys xs/\CK w (G.bq w) 0 (QP.av tys xs) vs
 |[],[],[],[],_,_,_,_=>⟨(),trivial,trivial⟩
 |ty::tys,t::ts,v::vs,d::ds,_,hm,⟨p,q,⟨n,h1⟩,h2,_⟩,hf=>by
  simp only[eh,Awg]at hm;obtain⟨x,hr,hw⟩:=(zf ty).1 t n _ _ hm.1 h1;obtain⟨xs,hws,ha⟩:=az hm.2 h2 λj t v h3 h4=>hf (j+1) t v (by grind) (by grind);refine⟨(x,xs),⟨hw,hws⟩,A9 rfl  ⟨λk hk=>by grind,hr.mono λb hb=>⟨.inl ?_,rfl⟩⟩ (zG hm.1 (hf 0 t v rfl rfl) hr),ha⟩;have hb:b<w.heap.size:=hb;simp[G.bq,hb]
 |[],_::_,_,_,_,hm,_,_=>by simp[eh]at hm
 |_::_,[],_,_,_,hm,_,_=>by simp[eh]at hm
 |[],[],_::_,_,_,_,h,_=>by simp[DataW.TrodAll]at h
 |[],[],[],_::_,_,_,h,_=>by simp[DataW.TrodAll]at h
 |_::_,_::_,[],_,_,_,h,_=>by simp[DataW.TrodAll]at h
 |_::_,_::_,_::_,[],_,_,h,_=>by simp[DataW.TrodAll]at h
theorem uQ(w:World):A1 w (G.bq w) []:=⟨λb hb=>by simp[G.bq];omega,λk x hx=>by grind⟩
theorem oV{en:Fe}(he:Hy P en){f:FuncId}{fn:Func}(hf:P.funcs[f]?=some fn){av:AyZ AV}{w:World}{vs:AyZ Value}(C5:RA en fn (AV×AyZ Blk) av [] (λv b=>some (v,b))=some (.bool true,[]))(ha:CK w (G.bq w) 0 av vs) :
    Calls P f vs.toArray w λe w'=>e=.returned (.bool true)/\(∀b,b<w.heap.size->w'.heap[b]?=w.heap[b]?)/\w'.os=w.os/\w'.output=w.output:=by
 refine((UX he hf C5).2 w _ vs (uQ w) ha).mono λe w' ⟨v,g',e1,_,hv,st⟩=>?_;have:=N4 hv;subst this;exact⟨e1,λb hb=>(st.GH b (by simp[G.bq,hb])).2,st.os,st.output⟩
theorem fR{ty:Ty}{t:TypeId}{v:Value}{w:World}{r:Reach}{base:Nat}(hm:RN P ty t=true)(h:Value.okWide P w r base t v):v.formed P t=true:=by
 unfold Value.okWide at h;cases ty with
 |AH a b =>
  simp only[RN]at hm;split at hm
  ·rename_i fs hu;rw[hu]at h;obtain⟨cs,rfl,hs,_⟩:=h;simp[Value.formed,hu,hs]
  ·cases hm
 |int k =>
  simp only[RN]at hm;split at hm
  ·rename_i k' hu;rw[hu]at h;cases v<;>simp_all [Value.formed,Cell.okWide,Cell.ok]
  ·cases hm
 |bool =>
  simp only[RN]at hm;split at hm
  ·rename_i hu;rw[hu]at h;cases v<;>simp_all [Value.formed,Cell.okWide,Cell.ok]
  ·cases hm
 |str =>
  simp only[RN]at hm;split at hm
  ·rename_i hu;rw[hu]at h;cases v<;>simp_all [Value.formed,Cell.okWide,Cell.ok]
  ·cases hm
 |sl u =>
  simp only[RN]at hm;split at hm
  ·rename_i e hu;rw[hu]at h;cases v<;>simp_all [Value.formed,Cell.okWide,Cell.ok]
  ·cases hm
 |unit=>simp[RN]at hm
 |O3 z=>simp[RN]at hm
theorem law_contract{en:Fe}(he:Hy P en){f:FuncId}{fn:Func}(hf:P.funcs[f]?=some fn){tys:AyZ Ty}(hm:eh P tys fn.params.toList=true){s:ChangeSpec}(hv:s.vars=[]){tb:TypeId}(hrt:fn.resultTypes=#[tb])(yM:P.underlying tb=some .bool)
    (K:Kids P (·<P.types.size)) (hz:∀t e,t<P.types.size->P.underlying t=some (.slice e)->0<P.cellsOf e) (ht:∀t∈fn.params.toList,t<P.types.size)
    {W:World} {base:Nat} {args:Array Value} {ds gs:AyZ (DataW H)} {before:AyZ MemPlace} (tT:gs=[]->s.fn H (ds++gs)={results:=[.lit (.bool true)],args:=ds})
    (hval:∀(j:Nat) t v,fn.params[j]?=some t->args[j]?=some v->Value.okWide P W .any base t v) (hW:DataW.Whole enc P fn.params.toList s.vars false W args.toList ds gs before)
    (C5:∀xs:QP tys,QP.Wf tys xs->RA en fn (AV×AyZ Blk) (QP.av tys xs) [] (λv b=>some (v,b))=some (.bool true,[])) {Bz handsOn:Bool} :
    Calls P f args W λe W'=>∃v,e=.returned v/\s.post enc P fn false Bz handsOn false W args v W':=by
 obtain⟨p,q,hA,_⟩:=id hW;have Ue:∀(j:Nat) t v,fn.params.toList[j]?=some t->args.toList[j]?=some v->v.formed P t=true:=λj t v h1 h2=>by
  rw[Awn]at h1 h2;have key:∀(tys:AyZ Ty) (ts:AyZ TypeId) (j:Nat),eh P tys ts=true->ts[j]?=some t->∃ty,RN P ty t=true:=by
   intro tys;induction tys with
   |nil=>intro ts j hm hj;cases ts<;>simp_all [eh]
   |cons ty tys ih =>
    intro ts j hm hj;cases ts with
    |nil=>grind
    |cons u ts =>
     simp only[eh,Awg]at hm
     grind
  obtain⟨ty,XM⟩:=key tys fn.params.toList j hm (by grind);exact fR XM (hval j t v h1 h2)
 obtain⟨xs,hwf,ha⟩:=az hm hA Ue;have:=oV he hf (C5 xs hwf) ha;refine this.mono λe W' ⟨e1,h1,h2,h3⟩=>⟨_,e1,uj hW hv tT hrt yM h1 h2 h3 K hz ht⟩
end
end Go.Va
namespace Go.Va
theorem uB{A B:Type}(f:A->B)(c:Prop)[Decidable c](x:Ay0 A):(if c then none else x).map f=if c then none else x.map f:=by split<;>rfl
theorem uA{A B C D:Type}(f:C->D)(g:A->Ay0 C)(h:B->Ay0 C)(y:A⊕B):(Sum.elim g h y).map f=Sum.elim (λa=>(g a).map f) (λb=>(h b).map f) y:=by cases y<;>rfl
theorem nV{A B:Type}(k:A->Ay0 B)(c:Bool)(x y:Ay0 A):(bif c then x else y).bind k=bif c then x.bind k else y.bind k:=by cases c<;>rfl
theorem rD{A B:Type}(k:A->Ay0 B)(c:Prop)[Decidable c](x y:Ay0 A):(if c then x else y).bind k=if c then x.bind k else y.bind k:=by split<;>rfl
theorem nY{A B:Type}(k:A->Ay0 B)(c:Prop)[Decidable c](x:Ay0 A):(if c then none else x).bind k=if c then none else x.bind k:=by split<;>rfl
theorem nX{A B C D:Type}(k:C->Ay0 D)(g:A->Ay0 C)(h:B->Ay0 C)(y:A⊕B):(Sum.elim g h y).bind k=Sum.elim (λa=>(g a).bind k) (λb=>(h b).bind k) y:=by cases y<;>rfl
theorem CX(s:St):N6 s s=some ():=by simp[N6]
def code(f:Func):Code:=(f.body).getD .skip
def AdI:Code->Array Oper
 |.region _ BL _=>BL
 |_=>#[]
def qw(P:Program):AyZ (Nat×Callee)->Prop
 |[]=>True
 |(n,c)::r=>Am P n c/\qw P r
theorem sS{P:Program}:∀{l:AyZ (Nat×Callee)},qw P l->∀g c,L4 l g=some c->Am P g c
 |[],_,_,_,h=>by cases h
 |(n,c)::r,⟨h1,h2⟩,g,c',h=>by
  simp only[L4]at h;split at h
  ·rename_i e;have e:n=g:=by simpa using e
   subst e;injection h with h;subst h;exact h1
  ·exact sS h2 g c' h
def Wr(e:Nat)(t:Ty)(bytes:Nat):Callee:={bn:=[.d (.sl t)],run:=λR avs E K=>match avs,E with
    |[.Aw [] u xs],[]=>match G2 u (.sl t) xs with
     |some xs=>if xs.length*bytes<=140737488355328 then K (.AA 0) [.row e (if t.Bu then .Ao else .sh []) t xs]else none
     |_=>none
    |_,_=>none}
end Go.Va
