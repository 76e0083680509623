import Derived.MapKept
import Derived.Laws.Strings
import Derived.Laws.StructEq
import Derived.OrdersHeld
import Derived.WalkKit
import Derived.ProofKit
import Derived.OpenShut
import Derived.JoinedCond
import Derived.ReadAgain
import Derived.Test.YtniphlhooggimaaGreatK0
set_option linter.unusedVariables false
set_option linter.unusedSimpArgs false
namespace Go.Va
def DU(w:World)(g:G)(n:Nat):ATB AV->ATB Value->Prop
 |[],[]=>True
 |a::mz,v::vs=>B5 w g n a v/\DU w g n mz vs
 |_,_=>False
structure Am (P:Program) (f:FuncId) (c:Callee):Prop where
 aI:gX c
 snd:∀(args:List AV) (E:List Blk) (av:AV) (E':List Blk),c.run (AV×List Blk) args E (λv b=>some (v,b))=some (av,E')->E.length<=E'.length /\
  ∀(w:World) (g:G) (vs:List Value),Bi w g E->DU w g E.length args vs->∀(o:Oper) (a:Act) (next:Act->World->Prop) (Q:Exit->Act->World->Prop),
   (∀v w' g',Bi w' g' E'->B5 w' g' E'.length av v->Step (List.range E.length) E.length w g w' g'->next (a.put o.dst v) w')->o.upon P a next Q ((callFunc f vs.toArray).run P w)
theorem rI:∀{π:ATB Nat} {k:Nat},k∈π->idxOf π k<π.length
 |x::r,k,h=>by
  simp only[idxOf];split
  ·simp
  ·rename_i Ke;have:k∈r:=by
    grind
   have:=rI this;simp;omega
theorem rH:∀{π:ATB Nat} {k:Nat},k∈π->π[idxOf π k]?=some k
 |x::r,k,h=>by
  simp only[idxOf];split
  ·grind
  ·rename_i Ke;have:k∈r:=by
    grind
   simpa using rH this
theorem ft:∀{π:ATB Nat} {j k:Nat},nodup π=true->π[j]?=some k->idxOf π k=j
 |x::r,0,k,_,h=>by simp at h;subst h;simp[idxOf]
 |x::r,j+1,k,hn,h=>by
  simp only[nodup,AP3]at hn;have hr:r[j]?=some k:=by grind
  have:x≠k:=λe=>by
   grind
  simp only[idxOf];rw[AQf (by grind),ft hn.2 hr]
theorem lI:∀{π:ATB Nat} {L bs:ATB Blk} {k:Nat} {x:Blk},L.length=π.length->(Rj bs π L)[k]?=some x->(k∉π/\bs[k]?=some x)\/∃j:Nat,π[j]?=some k/\L[j]?=some x
 |[],[],bs,k,x,_,h=>.inl ⟨by simp,h⟩
 |p::π,b::L,bs,k,x,hl,h=>by
  rcases lI (π:=π) (L:=L) (by grind) h with ⟨h1,h2⟩|⟨j,h1,h2⟩
  ·rw[AQl]at h2;split at h2
   ·rename_i he;subst he;split at h2
    ·exact .inr ⟨0,rfl,by grind⟩
    ·grind
   grind
  ·exact .inr ⟨j+1,by grind,by grind⟩
 |[],_::_,_,_,_,hl,_=>by grind
 |_::_,[],_,_,_,hl,_=>by grind
theorem bT:∀(π:ATB Nat) (L bs:ATB Blk),(Rj bs π L).length=bs.length
 |[],_,_=>by simp[Rj]
 |_::_,[],_=>by simp[Rj]
 |p::π,b::L,bs=>by rw[Rj,bT π L,AP5]
def G.call(g:G)(π π1 LD:ATB Nat):G:=⟨λb=>match g.own b with |.Jb=>.Jb |.BL k r=>if k∈π1 then .BL (idxOf π k) r else if k∈LD then .Jb else .no |.no=>.no,λj=>g.AY (π.getD j 0)⟩
def G.ret(g gc:G)(n:Nat)(π π1:ATB Nat):G :=
 ⟨λb=>match gc.own b with |.BL j r=>.BL (YN n π j) r |t=>match g.own b with |.BL k r=>if k∈π1 then t else .BL k r |_=>t,λk=>if k<n then g.AY k else gc.AY (k-n+π.length)⟩
def G.back(g gc:G)(n:Nat)(π:ATB Nat):G:=⟨λb=>match gc.own b with |.BL j r=>.BL (YN n π j) r |t=>t,λk=>if k<n then g.AY k else gc.AY (k-n+π.length)⟩
section
variable {w:World} {g:G} {bs:ATB Blk} {π π1 LD:ATB Nat}
theorem eQ{k:Nat}(hk:k∈π):Aca (idxOf π) g (g.call π π1 LD) π.length k:=by
 refine⟨rI hk,?_⟩;have:=rH hk;simp[G.call,this]
theorem jR{k:Nat}(hk:k∈π)(h1:k∈π1):Ren (idxOf π) g (g.call π π1 LD) π.length k where
 lt:=rI hk
 AY:=(eQ hk).2
 own b r h:=by simp[G.call,h,h1]
theorem jQ{b:Nat}(h:g.own b=.Jb):(g.call π π1 LD).own b=.Jb:=by simp[G.call,h]
theorem WZ(hb:∀k∈LD,k∉π1){ks:ATB Nat}(hk:∀k∈ks,k∈LD){b:Nat}(h:Al g.own ks b):Al (g.call π π1 LD).own [] b:=by
 rcases h with h |⟨k,hks,r,h⟩
 ·exact .inl (jQ h)
 ·have h1:=hk k hks;exact .inl (by simp[G.call,h,hb k h1,h1])
theorem Acs(H:Bi w g bs){YA:ATB Nat}(hn:nodup π=true)(h1:∀k∈π,k∉YA->k∈π1)(Il:∀k∈π,∃b,bs[k]?=some b/\(∀j∈b.Cs,j∈π)/\(k∈YA\/∀j∈b.Tv,j∉YA)):Bi w (g.call π π1 LD) (π.map λk=>bif YA.contains k then .Ba else((bs[k]?).getD .Ba).OU (idxOf π)):=by
 refine⟨λb hb=>by simp[G.call,H.BZ b hb],λj x hx=>?_⟩;rw[AQp]at hx;cases hj:π[j]? with
 |none=>grind
 |some k =>
  rw[hj]at hx;injection hx with hx;subst hx;have hk :=ARp hj;obtain⟨b,hb,RZ,hh⟩:=Il k hk;cases hc:YA.contains k with
  |true=>simp only[hc];trivial
  |false =>
   have hkh:k∉YA:=by grind
   have AFM:=hh.resolve_left hkh;have:=(H.MG k b hb).bP  (g':=g.call π π1 LD)  (λb h=>jQ h) (jR hk (h1 k hk hkh)) (λj hj=>eQ (RZ j hj)) λj hj=>(jR (RZ j (eJ b hj)) (h1 j (RZ j (eJ b hj)) (AFM j hj))).own;rw[ft hn hj]at this
   grind
theorem bL{t:Ty}{v:AV}{y:t.V}(h:rd bs t v=some y):v.isAgg=t.isAgg:=by
 have plain:∀(t:Ty) (ks:ATB Nat) (u:Ty) (z:u.V) (y:t.V),I9 u t z=some y->(AV.AA ks u z).isAgg=t.isAgg:=λt ks u z y h=>by
  obtain⟨e,_⟩:=BG h;subst e;rfl
 cases t with
 |AE a b=>cases v<;>simp only[rd,reduceCtorEq]at h<;>first |grind |rfl
 |sl t=>cases v<;>simp only[rd,reduceCtorEq]at h<;>first |grind |rfl
 |int k=>cases v<;>simp only[rd,reduceCtorEq]at h<;>exact plain _ _ _ _ _ h
 |bool=>cases v<;>simp only[rd,reduceCtorEq]at h<;>exact plain _ _ _ _ _ h
 |str=>cases v<;>simp only[rd,reduceCtorEq]at h<;>exact plain _ _ _ _ _ h
 |unit=>cases v<;>simp only[rd,reduceCtorEq]at h<;>exact plain _ _ _ _ _ h
 |R4 z=>cases v<;>simp only[rd,reduceCtorEq]at h<;>exact plain _ _ _ _ _ h
theorem Akr(H:Bi w g bs){k:Nat}{i:Int}{a:AV}(h:atB bs k i=some a)(hi:i.toNat<(g.AY k).len){b:Nat}(hb:(g.AY k).a=some ⟨b,0,none⟩):g.own b=.BL k []:=by
 unfold atB at h;split at h
 ·rename_i a' hx;obtain⟨h1,b',cs,e,ha,ho,hh,hr⟩:=H.MG k _ hx
  grind
 ·rename_i e m t xs hx;obtain⟨RV,hlen,QN,BU,hr⟩:=H.MG k _ hx
  grind
 ·grind
theorem AuV(H:Bi w g bs)(hb:∀k∈LD,k∉π1){m:PM}{v a:AV}{l:ATB Nat}(h:Aci bs m v=some (a,l))(hl:∀k∈l,k∈LD)(hr:∀k∈Afc m v,k∈π)(hh:∀k∈a.Tv,k∈π->k∈π1){x:Value}(hx:B5 w g bs.length v x):B5 w (g.call π π1 LD) π.length (a.OU (idxOf π)) x:=by
 cases m with
 |d t =>
  simp only[Aci]at h;split at h
  ·rename_i y hy;obtain⟨rfl,rfl⟩:=h;obtain⟨Y5,Ss⟩:=WH hy;obtain⟨cs,S6,hv⟩:=B3 Y5 Ss hx;refine Bs rfl  ⟨λk hk=>by grind,(Rh H t v y cs hy S6).1.mono λb hA=>⟨WZ hb hl hA,rfl⟩⟩ ?_;rw[bL hy]at hv;exact hv
  ·grind
 |p t =>
  cases v with
  |Fw ks u y =>
   simp only[Aci]at h;split at h
   ·rename_i z hz;obtain⟨rfl,rfl⟩:=h;obtain⟨e,he⟩:=BG hz;subst e;subst he;obtain⟨hk,b,off,ds,rfl,ha,mV,hc⟩:=Zy hx;exact fD (λk hk=>by grind) (WZ hb hl ha) (mV.mono λb hA=>⟨WZ hb hl hA,rfl⟩) hc
   ·grind
  |ptr k i p o =>
   simp only[Aci]at h;split at h
   ·rename_i c hc;split at h
    ·rename_i y hy;obtain⟨rfl,rfl⟩:=h;obtain⟨hk,h0,h1,b,OB,rfl⟩:=LU hx;obtain⟨cs,S6,Dp⟩:=WV H hc h1 OB;have Cr :=by
      unfold atP at hc;split at hc
      ·rename_i d hd;exact Akr H hd h1 OB
      ·grind
     exact fD (λk hk=>by grind) (WZ hb hl (.mem (AQr) Cr)) ((Rh H t c y cs hy S6).1.mono λb hA=>⟨WZ hb hl (hA.mono λk hk=>AQo _ hk),rfl⟩) Dp
    ·grind
   ·grind
  |_=>simp[Aci]at h
 |UY =>
  obtain⟨rfl,rfl⟩:=h;exact hx.bP (λb h=>jQ h) (λk hk=>eQ (hr k hk)) λk hk=>(jR (hr k (O0 _ hk)) (hh k hk (hr k (O0 _ hk)))).own
theorem Aaq(H:Bi w g bs)(hb:∀k∈LD,k∉π1):∀{ms:ATB PM} {vs mz:ATB AV} {l aL:ATB Nat} {xs:ATB Value},nS bs ms vs=some (mz,l,aL)->(∀k∈l,k∈LD)->(∀k∈aL,k∈π)->(∀a∈mz,∀k∈a.Tv,k∈π->k∈π1)->DU w g bs.length vs xs ->
    DU w (g.call π π1 LD) π.length (mz.map (·.OU (idxOf π))) xs
 |[],[],mz,l,aL,[],h,_,_,_,_=>by
  obtain⟨rfl,_,_⟩:=h;trivial
 |m::ms,v::vs,mz,l,aL,x::xs,h,hl,hr,hh,hx=>by
  simp only[nS]at h;split at h
  ·rename_i a l1 ANf ls rs h1 h2;obtain⟨rfl,rfl,rfl⟩:=h;exact⟨AuV H hb h1 (λk hk=>hl k (AQu _ hk)) (λk hk=>hr k (AQu _ hk)) (hh a (by simp)) hx.1,
    Aaq H hb h2 (λk hk=>hl k (AQv _ hk)) (λk hk=>hr k (AQv _ hk)) (λa ha=>hh a (by grind)) hx.2⟩
  ·grind
 |[],[],_,_,_,_::_,_,_,_,_,hx=>hx.elim
 |[],_::_,_,_,_,_,h,_,_,_,_=>by simp[nS]at h
 |_::_,[],_,_,_,_,h,_,_,_,_=>by simp[nS]at h
 |_::_,_::_,_,_,_,[],_,_,_,_,hx=>hx.elim
end
theorem qu{n:Nat}{π:ATB Nat}{j k:Nat}(h:π[j]?=some k):YN n π j=k:=by simp[YN,h]
theorem qt{n:Nat}{π:ATB Nat}{j:Nat}(h:π.length<=j):YN n π j=n+(j-π.length):=by
 have :=AQA h;simp[YN,this]
theorem AcF(bs:ATB Blk):Bd [] bs=bs:=rfl
theorem nZ{P:Program}{f:FuncId}{c:Callee}(hc:Am P f c){bs:ATB Blk}{args:ATB AV}{e:Ij}(h:YQ c bs args some=some e) :
    bs.length<=e.Aj.length/\(e.BJ=[]->∃l,e.Aj=bs++l)/\∀(w:World) (g:G) (vs:ATB Value),Bi w g bs->DU w g bs.length args vs->∀(o:Oper) (a:Act) (next:Act->World->Prop) (Q:Exit->Act->World->Prop),
     (∀v w' g',Bi w' g' e.Aj->B5 w' g' e.Aj.length e.val v->Step e.BJ bs.length w g w' g'->next (a.put o.dst v) w')->o.upon P a next Q ((callFunc f vs.toArray).run P w):=by
 unfold YQ at h;split at h
 ·cases h
 ·rename_i mz LD aL Aa2
  dsimp only at h
  split at h
  ·rename_i hck;simp only[AP3]at hck;obtain⟨⟨⟨⟨⟨AI4,S8⟩,AvW⟩,Il⟩,hhd⟩,AFI⟩:=hck;generalize hπ:pC bs bs.length (iu [] aL)=π at *;generalize AN4:(π.filter λk=>c.Ac9.contains (idxOf π k))=YA at *;generalize hπ1:(π.filter λk=>!YA.contains k)=π1 at *;rw[hc.aI]at h;cases El:c.run (AV×ATB Blk) (mz.map (·.OU (idxOf π))) (π.map λk=>bif YA.contains k then .Ba else((bs[k]?).getD .Ba).OU (idxOf π)) λv b=>some (v,b)with
   |none=>rw[El]at h;cases h
   |some p =>
    obtain⟨av,E'⟩:=p;rw[El]at h;simp only[APW]at h;split at h
    ·rename_i QP;injection h with h;subst h;obtain⟨Ot,QX⟩:=hc.snd _ _ _ _ El;rw[AP8]at Ot QX;have Ah1:∀k,k∈π1↔k∈π/\k∉YA:=λk=>by rw[<-hπ1];simp
     have AFy:∀k∈LD,k∉π/\k<bs.length:=λk hk=>by
      have:=List.all_eq_true.1 AI4 k hk;simpa using this
     have hbp:∀k∈LD,k∉π1/\k<bs.length:=λk hk=>⟨λh=>(AFy k hk).1 ((Ah1 k).1 h).1,(AFy k hk).2⟩;have Ag8:∀k∈π,∃b,bs[k]?=some b/\(∀j∈b.Cs,j∈π)/\(k∈YA\/∀j∈b.Tv,j∉YA):=λk hk=>by
      have:=List.all_eq_true.1 Il k hk;split at this
      ·rename_i b hb;simp only[AP3,ARh]at this;exact⟨b,hb,λj hj=>by have:=List.all_eq_true.1 this.1 j hj;simpa using this,this.2.imp (λh=>by simpa using h) λh j hj=>by have:=List.all_eq_true.1 h j hj;simpa using this⟩
      ·cases this
     have hr':∀k∈aL,k∈π:=λk hk=>by have:=List.all_eq_true.1 AvW k hk;simpa using this
     have hh':∀a∈mz,∀k∈a.Tv,k∈π->k∈π1:=λa ha k hk hp=>(Ah1 k).2 ⟨hp,by have:=List.all_eq_true.1 (List.all_eq_true.1 hhd a ha) k hk;simpa using this⟩;have AJ8:∀k∈π,k<bs.length:=λk hk=>by obtain⟨b,hb,_⟩:=Ag8 k hk;exact A5 hb
     let n:=bs.length
     let φ:=YN n π
     let E1:=List.zipWith (λk b=>bif YA.contains k then((Bd π1 bs)[k]?).getD .Ba else(b.OU φ).Wt LD) π E'
     let E2:=(E'.drop π.length).map λb=>(b.OU φ).Wt LD
     have hE1:E1.length=π.length:=by simp only[E1,List.length_zipWith];omega
     have hlen:(Rj (Bd π1 bs) π E1++E2).length=n+(E'.length-π.length):=by
      rw[AP0,bT,AF];simp[E2,n]
     refine⟨by show n<=(Rj (Bd π1 bs) π E1++E2).length;rw[hlen];omega,λh0=>?_,λw g vs H hx o a next Q hn=>?_⟩
     ·have h0:π1=[]:=h0;have h0':π=[]:=by rw[h0]at AFI;simpa using AFI
      refine⟨E2,?_⟩;show Rj (Bd π1 bs) π E1++E2=_;rw[h0,h0'];simp[Rj,AcF]
     ·have Hc:=Acs (LD:=LD) H S8 (λk h1 h2=>(Ah1 k).2 ⟨h1,h2⟩) Ag8;have Ac:=Aaq (LD:=LD) H (λk hk=>(hbp k hk).1) Aa2 (λk hk=>hk) hr' hh' hx;refine QX w (g.call π π1 LD) vs Hc Ac o a next Q λv w' gc H' hv st=>?_
      let g1:=g.back gc n π
      let g':=g.ret gc n π π1
      have Bp:∀b,g.own b≠.no->b<w.heap.size:=λb h=>Ve H h;have V4:∀b k r,g.own b=.BL k r->k∉π1->(gc.own b=.Jb/\k∈LD\/gc.own b=.no)/\w'.heap[b]?=w.heap[b]?:=λb k r hb hk=>by
       by_cases hkb:k∈LD
       ·have:=st.Jb b (by simp[G.call,hb,hk,hkb]);exact⟨.inl ⟨this.1,hkb⟩,this.2⟩
       ·have:=st.no b (Bp b (by rw[hb];simp)) (by simp[G.call,hb,hk,hkb]);exact⟨.inr this.1,this.2⟩
      have BO:Step π1 n w g w' g':=by
       refine⟨st.os,st.tape,st.output,st.size,λb hb h=>?_,λb h=>?_,λb k r h hk hm=>?_,λk hk=>?_⟩
       ·have:=st.no b hb (by simp[G.call,h]);exact⟨by simp[g',G.ret,this.1,h],this.2⟩
       ·have:=st.Jb b (by simp[G.call,h]);exact⟨by simp[g',G.ret,this.1,h],this.2⟩
       ·obtain⟨h1,h2⟩:=V4 b k r h hm;refine⟨?_,h2⟩;rcases h1 with ⟨h1,_⟩|h1<;>simp[g',G.ret,h1,h,hm]
       ·have YB:k<bs.length:=hk;simp[g',G.ret,n,YB]
      have Ama:∀j,j<E'.length->Ren φ gc g1 (n+(E'.length-π.length)) j:=λj hj=>by
       rcases AP7 j π.length with eC |eC
       ·obtain⟨k,hk⟩:∃k,π[j]?=some k:=⟨_,AQ7 eC⟩;have hkm:k∈π:=ARp hk;have mU:k<bs.length:=AJ8 k hkm;refine⟨by rw[show φ j=k from qu hk];omega,?_,λb r hb=>by simp[g1,G.back,hb,φ]⟩;rw[show φ j=k from qu hk];have h1:gc.AY j=(g.call π π1 LD).AY j:=st.AY j eC;rw[h1];simp[g1,G.back,n,mU,G.call,List.getD,hk]
       ·refine⟨by rw[show φ j=n+(j-π.length)from qt eC];omega,?_,λb r hb=>by simp[g1,G.back,hb,φ]⟩;rw[show φ j=n+(j-π.length)from qt eC];have:¬n+(j-π.length)<n:=by omega
        simp only[g1,G.back,AQf this];congr 1;omega
      have kE:∀b,gc.own b=.Jb->g1.own b=.Jb:=λb hb=>by simp[g1,G.back,hb]
      have AFF:Dep LD g1 g' (n+(E'.length-π.length)):=by
       refine⟨λb hb=>?_,λb k r hb hk=>?_,λk hk=>rfl,λk hk=>by have:=(hbp k hk).2;omega⟩
       ·have hgc:gc.own b=.Jb:=by
          simp only[g1,G.back]at hb;split at hb
          ·cases hb
          ·exact hb
        cases hg:g.own b with
        |no=>exact .inl (by simp[g',G.ret,hgc,hg])
        |Jb=>exact .inl (by simp[g',G.ret,hgc,hg])
        |BL k r =>
         by_cases hk:k∈π1
         ·exact .inl (by simp[g',G.ret,hgc,hg,hk])
         ·obtain⟨h1,_⟩:=V4 b k r hg hk;rcases h1 with ⟨_,hkb⟩|h1
          ·exact .inr ⟨k,hkb,r,by simp[g',G.ret,hgc,hg,hk]⟩
          ·rw[hgc]at h1;cases h1
       ·simp only[g1,G.back]at hb;split at hb
        ·rename_i j r' hj;simp only[g',G.ret,hj];exact hb
        ·rename_i h1;exact(h1 k r hb).elim
      refine hn v w' g' ⟨λb hb=>?_,λk x hx=>?_⟩ ?_ BO
      ·have h1:=H'.BZ b hb;have h2:=H.BZ b (AQq st.size hb);simp[g',G.ret,h1,h2]
      ·have hx:(Rj (Bd π1 bs) π E1++E2)[k]?=some x:=hx;show Nl w' g' (Rj (Bd π1 bs) π E1++E2).length k x;rw[hlen];have one:∀(j:Nat) (b:Blk),E'[j]?=some b->Nl w' g' (n+(E'.length-π.length)) (φ j) ((b.OU φ).Wt LD):=λj b hj=>by
        have eC:=A5 hj;have hb:=H'.MG j b hj;have hbr:=hb.OU kE (Ama j eC) λi hi=>Ama i (by
         cases b with
         |Ba=>cases hi
         |map m kt vt es st=>exact hb.1 i hi
         |R1 e t xs i' p=>cases hi
         |tail e t xs=>cases hi
         |box a=>obtain⟨_,_,_,_,_,_,_,hx⟩:=hb;exact CF.Uu a false hx i hi
         |row e m t xs=>exact hb.1 i hi)
        exact hbr.Wt AFF (Ama j eC).lt
       rw[AQm]at hx;split at hx
       ·have pe:∀y,(Bd π1 bs)[k]?=some y->k∉π1->Nl w' g' (n+(E'.length-π.length)) k y:=λy hy hk=>by
          obtain⟨z,hz,rfl⟩:=Dy hy;exact(H.MG k z hz).step BO (by omega) (A5 hz) hk
        rcases lI hE1 hx with ⟨hk,h⟩|⟨j,hj,h⟩
        ·exact pe x h λh1=>hk ((Ah1 k).1 h1).1
        ·simp only[E1,List.getElem?_zipWith,hj]at h;cases hq:E'[j]? with
         |none=>rw[hq]at h;cases h
         |some b =>
          rw[hq]at h;injection h with h;cases hc:YA.contains k with
          |true =>
           rw[hc,AQc]at h;have hkh:k∈YA:=by simpa using hc
           cases hd:(Bd π1 bs)[k]? with
           |none=>rw[hd]at h;subst h;trivial
           |some y=>rw[hd]at h;subst h;exact pe _ hd λh1=>((Ah1 k).1 h1).2 hkh
          |false =>
           rw[hc,AQb]at h;subst h;have:=one j b hq;rwa [show φ j=k from qu hj]at this
       ·rename_i hk;rw[bT,AF]at hx hk;simp only[E2,AQp,ARZ]at hx;cases hq:E'[π.length+(k-bs.length)]? with
        |none=>rw[hq]at hx;cases hx
        |some b =>
         rw[hq]at hx;injection hx with hx;subst hx;have:=one _ b hq;rwa [show φ (π.length+(k-bs.length))=k from by
          rw[show φ (π.length+(k-bs.length))=n+(π.length+(k-bs.length)-π.length)from qt (by omega)];simp only[n];omega]at this
      ·show B5 w' g' (Rj (Bd π1 bs) π E1++E2).length ((av.OU φ).Wt LD) v;rw[hlen];exact(hv.OU kE λk hk=>Ama k (hv.Uu k hk)).Wt AFF
    ·cases h
  ·cases h
def An8(l:ATB Nat)(c:Callee):Callee:={c with Ac9:=l}
theorem AhM{P:Program}{f:FuncId}{c:Callee}(l:ATB Nat)(h:Am P f c):Am P f (An8 l c):=⟨h.aI,h.snd⟩
theorem su{r q L:ATB Nat}{a b:Nat}(h:(r++a::L) <:+ (q++b::L)):a=b:=by
 obtain⟨s,hs⟩:=h;have:(s++r)++(a::L)=q++(b::L):=by grind
 have:=List.append_inj_right' this rfl;injection this
theorem kV:∀(f:Nat) (L:ATB Nat),∃r,rQ f L=r++L
 |0,L=>⟨[0],rfl⟩
 |f+1,L=>by
  obtain⟨r,h⟩:=kV f _;exact⟨r++[1],by rw[rQ,h];simp⟩
theorem dm:∀(p L:ATB Nat),∃r,VU p L=r++L
 |[],L=>⟨[],rfl⟩
 |f::p,L=>by
  obtain⟨r,hr⟩:=dm p _;obtain⟨s,hs⟩:=kV f L;exact⟨r++s,by rw[VU,hr,hs,AP4]⟩
def Fr(w:World)(own:Nat->S4)(w':World)(MJ:Nat->S4)(k:Nat)(P:ATB Nat):Prop:=∀b q,own b=.BL k q->¬P <:+ q->MJ b=.BL k q/\w'.heap[b]?=w.heap[b]?
def Aki(w:World)(own:Nat->S4)(k:Nat)(u:Ty)(zs:ATB u.V)(P:ATB Nat)(t:Ty)(L:ATB Nat)(x':t.V)(ys:ATB u.V)(cs:ATB Value)(o:Nat):Prop :=
 ∃c0 c1 c2,cs=c0++c1++c2/\c0.length=o/\Ik w own k (.sl u) P ys c1/\∀w' MJ T4,Fr w own w' MJ k P->Ik w' MJ k (.sl u) P zs T4->Ik w' MJ k t L x' (c0++T4++c2)
section
variable {w:World} {own:Nat->S4} {k:Nat} {u:Ty} {zs:ATB u.V}
theorem sib{w':World}{MJ:Nat->S4}{P:ATB Nat}{t:Ty}{L:ATB Nat}{x:t.V}{cs:ATB Value}(mn:Fr w own w' MJ k P)(hP:∀q,¬P <:+ (q++L))(h:Ik w own k t L x cs):Ik w' MJ k t L x cs :=
 h.mono λb q hb=>mn b _ hb (hP q)
theorem vq(p:ATB Nat)(ih:∀(t:Ty) (L:ATB Nat) (x x':t.V) (cs:ATB Value) (o:Nat) (ys:ATB u.V),TQ (.sl u) zs p t x=some x'->kA (.sl u) p t x=some ys->Ma t p=some o->Ik w own k t L x cs->Aki w own k u zs (VU p L) t L x' ys cs o) :
    ∀(f:Nat) (t:Ty) (L:ATB Nat) (x x':t.V) (cs:ATB Value) (t1:Ty) (o1 o2:Nat) (ys:ATB u.V),SF t x f (λt' y=>TQ (.sl u) zs p t' y)=some x'->Avk t x f (λt' y=>kA (.sl u) p t' y)=some ys ->
     nL t f=some t1->Vt t f=some o1->Ma t1 p=some o2->Ik w own k t L x cs->Aki w own k u zs (VU p (rQ f L)) t L x' ys cs (o1+o2)
 |0,.AE a b,L,x,x',cs,t1,o1,o2,ys,hs,hg,ht,ho,ho2,h=>by
  obtain⟨c,d,e,h1,h2⟩:=h;simp only[nL,APY]at ht;subst ht;simp only[Vt,APY]at ho;simp only[SF]at hs;split at hs
  ·rename_i y hy;injection hs with hs;subst hs;obtain⟨c0,c1,c2,e2,hl,hr,hk⟩:=ih a (0::L) x.1 y c o2 ys hy hg ho2 h1;refine⟨c0,c1,c2++d,by grind,by omega,hr,λw' MJ T4 mn hz=>⟨c0++T4++c2,d,by grind,hk w' MJ T4 mn hz,sib mn (λq hq=>?_) h2⟩⟩;obtain⟨r,hr⟩:=dm p (rQ 0 L);rw[hr]at hq;have:=su (r:=r) (q:=q) (L:=L) (a:=0) (b:=1) hq;cases this
  ·grind
 |f+1,.AE a b,L,x,x',cs,t1,o1,o2,ys,hs,hg,ht,ho,ho2,h=>by
  obtain⟨c,d,e,h1,h2⟩:=h;simp only[Vt]at ho;split at ho
  ·rename_i o3 ho3;injection ho with ho;simp only[SF]at hs;split at hs
   ·rename_i y hy;injection hs with hs;subst hs;obtain⟨c0,c1,c2,e2,hl,hr,hk⟩:=vq p ih f b (1::L) x.2 y d t1 o3 o2 ys hy hg ht ho3 ho2 h2;refine⟨c++c0,c1,c2,by grind,by rw[AP0,h1.len];omega,hr,λw' MJ T4 mn hz=>⟨c,c0++T4++c2,by grind,sib mn (λq hq=>?_) h1,hk w' MJ T4 mn hz⟩⟩;obtain⟨r,hr⟩:=dm p (rQ (f+1) L);obtain⟨s,hs⟩:=kV f (1::L);rw[hr,rQ,hs,<-AP4]at hq;have:=su (r:=r++s) (q:=q) (L:=L) (a:=1) (b:=0) hq;cases this
   ·grind
  ·grind
 |f,.int _,_,_,_,_,_,_,_,_,hs,_,_,_,_,_=>by simp[SF]at hs
 |f,.bool,_,_,_,_,_,_,_,_,hs,_,_,_,_,_=>by simp[SF]at hs
 |f,.str,_,_,_,_,_,_,_,_,hs,_,_,_,_,_=>by simp[SF]at hs
 |f,.unit,_,_,_,_,_,_,_,_,hs,_,_,_,_,_=>by simp[SF]at hs
 |f,.sl _,_,_,_,_,_,_,_,_,hs,_,_,_,_,_=>by simp[SF]at hs
 |f,.R4 _,_,_,_,_,_,_,_,_,hs,_,_,_,_,_=>by simp[SF]at hs
theorem lr:∀(p:ATB Nat) (t:Ty) (L:ATB Nat) (x x':t.V) (cs:ATB Value) (o:Nat) (ys:ATB u.V),TQ (.sl u) zs p t x=some x'->kA (.sl u) p t x=some ys->Ma t p=some o->Ik w own k t L x cs->Aki w own k u zs (VU p L) t L x' ys cs o
 |[],t,L,x,x',cs,o,ys,hs,hg,ho,h=>by
  simp only[Ma,APY]at ho;subst ho;obtain⟨e,he⟩:=BG hs;obtain⟨e',he'⟩:=BG hg;subst e;subst he;subst he';exact⟨[],cs,[],by simp,rfl,h,λw' MJ T4 _ hz=>by simpa [VU]using hz⟩
 |f::p,t,L,x,x',cs,o,ys,hs,hg,ho,h=>by
  simp only[Ma]at ho;split at ho
  ·rename_i t1 o1 h1 h2;split at ho
   ·rename_i o2 h3;injection ho with ho;subst ho;exact vq p (lr p) f t L x x' cs t1 o1 o2 ys hs hg h1 h2 h3 h
   ·grind
  ·grind
end
def G.kh(g:G)(n k:Nat)(P:ATB Nat)(i:BI):G:=⟨λb=>match g.own b with |.BL j q=>if j=k/\P <:+ q then .BL n (q.take (q.length-P.length))else .BL j q |t=>t,λj=>if j=n then i else g.AY j⟩
def G.fY(g:G)(n k:Nat)(P:ATB Nat):G:=⟨λb=>match g.own b with |.BL j q=>if j=n then .BL k (q++P)else .BL j q |t=>t,g.AY⟩
section
variable {w:World} {g:G} {bs:ATB Blk}
theorem ZF{n k:Nat}{P:ATB Nat}{i:BI}{b:Nat}{q:ATB Nat}(h:g.own b=.BL k (q++P)):(g.kh n k P i).own b=.BL n q:=by
 have:P <:+ (q++P):=⟨q,rfl⟩;simp[G.kh,h]
theorem XD{n k:Nat}{P:ATB Nat}{i:BI}{b j:Nat}{q:ATB Nat}(h:g.own b=.BL j q)(hn:¬(j=k/\P <:+ q)):(g.kh n k P i).own b=.BL j q:=by
 simp only[G.kh,h,AQf hn]
theorem Aas{n k:Nat}{P:ATB Nat}{b:Nat}{q:ATB Nat}(h:g.own b=.BL n q):(g.fY n k P).own b=.BL k (q++P):=by simp[G.fY,h]
theorem iH{n k:Nat}{P:ATB Nat}{b j:Nat}{q:ATB Nat}(h:g.own b=.BL j q)(hn:j≠n):(g.fY n k P).own b=.BL j q:=by simp only[G.fY,h,AQf hn]
theorem lV{k:Nat}{P:ATB Nat}{i:BI}:Step [k] bs.length w g w (g.kh bs.length k P i) where
 os:=rfl
 tape:=rfl
 output:=rfl
 size:=AP2 _
 no b _ h:=⟨by simp[G.kh,h],rfl⟩
 Jb b h:=⟨by simp[G.kh,h],rfl⟩
 BL b j q h hj hm:=⟨XD h λhc=>hm (by grind),rfl⟩
 AY j hj:=by simp[G.kh,Nat.ne_of_lt hj]
theorem wT{n k N:Nat}{P:ATB Nat}:Step [n,k] N w g w (g.fY n k P) where
 os:=rfl
 tape:=rfl
 output:=rfl
 size:=AP2 _
 no b _ h:=⟨by simp[G.fY,h],rfl⟩
 Jb b h:=⟨by simp[G.fY,h],rfl⟩
 BL b j q h hj hm:=⟨iH h λhc=>hm (by grind),rfl⟩
 AY j hj:=rfl
theorem Tg{A:Type}{l:ATB A}{k j:Nat}{x y:A}(h:(l.set k x)[j]?=some y):(j=k/\y=x)\/(j≠k/\l[j]?=some y):=by
 grind
theorem Be.lg{A:Type}{I J:Nat->A->ATB Value->Prop}:∀{lo:Nat} {xs:ATB A} {cs:ATB Value},(∀j x c,lo<=j->j<lo+xs.length->I j x c->J j x c)->Be I lo xs cs->Be J lo xs cs
 |_,[],_,_,h=>h
 |lo,_::xs,_,h,⟨c,d,e,r,l⟩=>⟨c,d,e,h _ _ _ (AP2 _) (by simp) r,Be.lg (λj x c h1 h2=>h j x c (by omega) (by grind)) l⟩
theorem ZG(H:Bi w g bs){k ek:Nat}{t u:Ty}{xs:ATB t.V}(hb:bs[k]?=some (.row ek .Av t xs)){i:Int}{p:ATB Nat}{o:Nat}(hi:i.toNat<(g.AY k).len){ys:ATB u.V}
    (hg:kA (.sl u) p t (xs.getD i.toNat t.zero)=some ys) (ho:Ma t p=some o) (hu:u.size≠0) {b:Nat} (OB:(g.AY k).a=some ⟨b,0,none⟩) {v:Value} (hv:w.cell? ⟨b,i.toNat*(g.AY k).ov+o,none⟩=some v)
    {zs:ATB u.V} {x':t.V} (hs:TQ (.sl u) zs p t (xs.getD i.toNat t.zero)=some x') :
    ∃g1,Bi w g1 ((Bd [k] bs).set k .Ba++[.row 0 .Av u ys])/\Step [k] bs.length w g w g1/\B5 w g1 (bs.length+1) (.AH bs.length) v /\
     (∀(w':World) (g2:G) (N:Nat) (e0:Nat),(∀b q,g1.own b=.BL k q->g2.own b=.BL k q/\w'.heap[b]?=w.heap[b]?)->(∀j,j<=bs.length->g2.AY j=g1.AY j) ->
      Nl w' g2 N bs.length (.row e0 .Av u zs)->Nl w' (g2.fY bs.length k (VU p [i.toNat])) N k (.row ek .Av t (xs.set i.toNat x'))) /\
     (zs=[]->tyP t p=some (.sl u)->0<=i->∀N,Nl w g1 N k (.R1 ek t xs i p)):=by
 have ru:=A5 hb;obtain⟨RV,hlen,QN,BU,hr⟩:=H.MG k _ hb;have Bp:i.toNat<xs.length:=by rw[<-hlen];exact hi
 rcases hr with ⟨ZP,_⟩|⟨b',Bq,ds,ha,Cr,⟨el,VR,hh⟩,Pp,xG,hc3,hc4,Ns⟩
 ·rw[ZP]at Bp;simp at Bp
 rw[OB]at ha;injection ha with ha;injection ha with ha;subst ha;have Ns:Be (λi=>Ik w g.own k t [i]) 0 xs ds:=Ns;obtain⟨c0,c,d,e1,kG,hrc,hr0,mV⟩:=Be.AY (λi x c h=>Ik.len h) Ns Bp;rw[AQs]at hrc mV;have hgd:xs.getD i.toNat t.zero=xs[i.toNat]:=by simp[List.getD,Bp]
 let P:=VU p [i.toNat]
 obtain⟨r0,hP⟩:=dm p [i.toNat];obtain⟨a0,a1,a2,e2,iP,hys,bB⟩:Aki w g.own k u zs P t [i.toNat] x' ys c o:=lr p t [i.toNat] (xs.getD i.toNat t.zero) x' c o ys hs hg ho (by rw[hgd];exact hrc);have AJ5:=hys;obtain⟨ad,cap,e3,MP⟩:=AJ5;have hvh:v=.slice ad ys.length cap:=by
  rw[QS hh,<-AQa,QN]at hv;have hq:ds[i.toNat*t.size+o]?=some (.slice ad ys.length cap):=by
   rw[e1,e2,e3,AP4,AQi (by omega),kG];rw[show i.toNat*t.size+o-i.toNat*t.size=a0.length by omega];simp
  subst hc4;rw[AQT]at hq;split at hq
  ·rw[hv]at hq;injection hq
  ·cases hq
 let i1:BI:=⟨ad,ys.length,cap,u.size⟩
 let n:=bs.length
 let g1:=g.kh n k P i1
 have st:Step [k] n w g w g1:=lV;have VP:g1.AY n=i1:=by simp[g1,G.kh]
 have mU:k≠n:=by simp only[n];omega
 have oG:((Bd [k] bs).set k Blk.Ba++[Blk.row 0 .Av u ys]).length=n+1:=by simp[AF,n]
 refine⟨g1,?_,st,?_,?_,?_⟩
 ·refine H.b8 st (λb hb=>by simp[g1,G.kh,H.BZ b hb]) (by rw[oG];omega) λj x hj=>?_;rw[AQm]at hj;split at hj
  ·rcases Tg hj with ⟨rfl,rfl⟩|⟨Ke,hj⟩
   ·exact .inl rfl
   ·obtain⟨y,hy,rfl⟩:=Dy hj;exact .inr (.inl ⟨by simpa using Ke,y,hy,rfl⟩)
  ·rename_i ZO;simp only[AP5,AF]at hj ZO;have oD:j-bs.length=0:=by
    rcases AQk (j-bs.length)with h |h
    ·exact h
    ·rw[AQA (by simp;omega)]at hj;cases hj
   rw[oD]at hj;obtain rfl:j=n:=by simp only[n];omega
   simp only[List.getElem?_cons_zero,APY]at hj;subst hj;refine .inr (.inr ⟨λj hj=>(by cases hj),by rw[VP],by rw[VP],ARL hu,?_⟩);rw[VP];refine MP.imp id λ⟨b,el,Bq,ds,q1,q2,q3,q4,q5,q6,q7,q8⟩=>⟨b,Bq,ds,q1,ZF (q:=[]) (by simpa using q2),⟨el,.inl rfl,q3⟩,q4,q5,q6,q7,?_⟩;exact q8.mono λi x c r=>r.mono λb q hb=>⟨ZF (by simpa using hb),rfl⟩
 ·rw[hvh];exact Bs (cs:=[_]) rfl ⟨AQC _,by rw[VP]⟩ rfl
 ·intro w' g2 N e0 V4 AFt hB;obtain⟨_,Aba,_,_,hr2⟩:=hB;have AIY:g2.AY n=i1:=by rw[AFt n (AP2 _),VP]
  rw[AIY]at Aba hr2;have hzl:zs.length=ys.length:=Aba.symm;have hz:Ik w' (g2.fY n k P).own k (.sl u) P zs a1:=by
   refine⟨ad,cap,by rw[e3,hzl],hr2.imp id λ⟨b,Bq,ds,q1,q2,⟨el,_,q3⟩,q4,q5,q6,q7,q8⟩=>⟨b,el,Bq,ds,q1,by simpa using Aas (P:=P) (k:=k) q2,q3,q4,q5,q6,q7,?_⟩⟩;have q8:Be (λi=>Ik w' g2.own n u [i]) 0 zs ds:=q8;exact q8.mono λi x c r=>r.mono λb q hb=>⟨by simpa using Aas (P:=P) (k:=k) hb,rfl⟩
  have mn:Fr w g.own w' (g2.fY n k P).own k P:=λb q hb hn=>by
   have h1:=V4 b q (XD hb λhc=>hn hc.2);exact⟨iH h1.1 mU,h1.2⟩
  have Aa5:=bB w' _ _ mn hz;rw[<-e2]at Aa5;have yS:∀j,j≠i.toNat->∀{x:t.V} {c:ATB Value},Ik w g.own k t [j] x c->Ik w' (g2.fY n k P).own k t [j] x c:=λj hj x c h=>sib mn (λq hq=>by
   rw[show P=r0++i.toNat::[]from hP]at hq;exact hj (su (L:=[]) hq).symm) h
  have vj:=Be.join Bp (Be.lg (λj x c _ h2 h=>yS j (by rw[AQh]at h2;omega) h) hr0) (by rw[AQs];exact Aa5) (Be.lg (λj x c h1 _ h=>yS j (by omega) h) (by rw[AQs];exact mV));have R9:=mn b [] Cr (by
   rw[show P=r0++[i.toNat]from hP]
   rintro⟨s,hs⟩
   simp at hs)
  have Sr:(g2.fY n k P).AY k=g.AY k:=by
   show g2.AY k=_;rw[AFt k (by omega)];simp[g1,G.kh,mU]
  refine⟨λj hj=>(by cases hj),by rw[Sr,AP5];exact hlen,by rw[Sr];exact QN,BU,.inr ⟨b,Bq,ds,by rw[Sr];exact OB,R9.1,⟨el,VR,R9.2.trans hh⟩,by rw[Sr,AP5];exact Pp,by rw[Sr];exact xG,by rw[Sr];exact hc3,by rw[AP5];exact hc4,?_⟩⟩;show Be _ 0 _ ds;rw[e1];exact vj
 ·intro hz0 iR h0 N;subst hz0;have mn:Fr w g.own w g1.own k P:=λb q hb hn=>⟨XD hb λhc=>hn hc.2,rfl⟩;have Aa5:=bB w g1.own [.slice none 0 0] mn ⟨none,0,rfl,.inl ⟨rfl,rfl⟩⟩;have yS:∀j,j≠i.toNat->∀{x:t.V} {c:ATB Value},Ik w g.own k t [j] x c->Ik w g1.own k t [j] x c:=λj hj x c h=>sib mn (λq hq=>by
   rw[show P=r0++i.toNat::[]from hP]at hq;exact hj (su (L:=[]) hq).symm) h
  have vj:=Be.join Bp (Be.lg (λj x c _ h2 h=>yS j (by rw[AQh]at h2;omega) h) hr0) (by rw[AQs];exact Aa5) (Be.lg (λj x c h1 _ h=>yS j (by omega) h) (by rw[AQs];exact mV));have R9:=mn b [] Cr (by
   rw[show P=r0++[i.toNat]from hP]
   rintro⟨s,hs⟩
   simp at hs)
  have Sr:g1.AY k=g.AY k:=by simp[g1,G.kh,mU]
  refine⟨by rw[Sr];exact hlen,by rw[Sr];exact QN,BU,h0,Bp,u,o,x',b,Bq,_,ho,iR,hs,by rw[Sr];exact OB,R9.1,⟨el,VR,hh⟩,by rw[Sr];exact Pp,by rw[Sr];exact xG,by rw[Sr];exact hc3,rfl,?_⟩;rw[Array.toList_setIfInBounds,List.take_set,hc4,e1,e2,e3];have:(c0++(a0++[Value.slice ad ys.length cap]++a2)++d).set (i.toNat*t.size+o) (.slice none 0 0)=c0++(a0++[.slice none 0 0]++a2)++d:=by
   rw[<-kG,<-iP,AP4,AP4,AP4,ARm _ _ (by omega),ARm _ _ (by omega),show c0.length+a0.length-c0.length-a0.length=0 by omega];simp
  rw[this];exact vj
theorem Adp(H:Bi w g bs){k ek:Nat}{t u:Ty}{xs:ATB t.V}(hb:bs[k]?=some (.row ek .Av t xs)){i:Int}{p:ATB Nat}{o:Nat}(hi:i.toNat<(g.AY k).len){ys zs:ATB u.V}{x':t.V}
    (hg:kA (.sl u) p t (xs.getD i.toNat t.zero)=some ys) (hs:TQ (.sl u) zs p t (xs.getD i.toNat t.zero)=some x') (ho:Ma t p=some o) {b:Nat} (OB:(g.AY k).a=some ⟨b,0,none⟩) :
    ∃ad c,w.cell? ⟨b,i.toNat*(g.AY k).ov+o,none⟩=some (.slice ad ys.length c):=by
 obtain⟨RV,hlen,QN,BU,hr⟩:=H.MG k _ hb;have Bp:i.toNat<xs.length:=by grind
 rcases hr with ⟨ZP,_⟩|⟨b',Bq,ds,ha,Cr,⟨el,VR,hh⟩,Pp,xG,hc3,hc4,Ns⟩
 ·grind
 rw[OB]at ha;injection ha with ha;injection ha with ha;subst ha;obtain⟨c0,c,d,e1,kG,hrc,hr0,mV⟩:=Be.AY (λi x c h=>Ik.len h) Ns Bp;rw[AQs]at hrc;have hgd:xs.getD i.toNat t.zero=xs[i.toNat]:=by grind
 obtain⟨a0,a1,a2,e2,iP,⟨ad,cap,e3,_⟩,_⟩:=lr p t [i.toNat] (xs.getD i.toNat t.zero) x' c o ys hs hg ho (by rw[hgd];exact hrc);refine⟨ad,cap,?_⟩;rw[QS hh,<-AQa,QN];have hq:ds[i.toNat*t.size+o]?=some (.slice ad ys.length cap):=by
  rw[e1,e2,e3,AP4,AQi (by omega),kG];rw[show i.toNat*t.size+o-i.toNat*t.size=a0.length by omega];simp
 grind
end
theorem lq:∀{l:ATB AV} {j0 j k:Nat} {a:AV} {i:Int} {p:ATB Nat} {o:Nat},wh j0 l=some (j,a,k,i,p,o)->j0<=j/\l[j-j0]?=some a/\a.Rf=some (k,i,p,o)
 |[],_,_,_,_,_,_,_,h=>by simp[wh]at h
 |b::r,j0,j,k,a,i,p,o,h=>by
  simp only[wh]at h;split at h
  ·grind
  ·obtain⟨h1,h2,h3⟩:=lq h
   grind
theorem fG{w:World}{g:G}{n:Nat}:∀{a:AV} {cs:ATB Value} {k:Nat} {i:Int} {p:ATB Nat} {o:Nat},CF w g n false a cs->a.Rf=some (k,i,p,o) ->
    k<n/\0<=i/\i.toNat<(g.AY k).len/\∃b v,(g.AY k).a=some ⟨b,0,none⟩/\g.own b=.BL k []/\w.cell? ⟨b,i.toNat*(g.AY k).ov+o,none⟩=some v
 |.UI k i p o e,cs,_,_,_,_,⟨hk,h0,h1,b,v,ha,ho,e1,e2,hc⟩,h=>by
  obtain⟨rfl,rfl,rfl,rfl⟩:=h
  grind
 |.pr a b,cs,k,i,p,o,⟨c,d,e,h1,h2⟩,h=>by
  simp only[AV.Rf]at h;split at h
  ·rename_i z hz;injection h with h;subst h;exact fG h1 hz
  ·exact fG h2 h
 |.AA _ _ _,_,_,_,_,_,_,h=>by simp[AV.Rf]at h
 |.zs,_,_,_,_,_,_,h=>by simp[AV.Rf]at h
 |.AH _,_,_,_,_,_,_,h=>by simp[AV.Rf]at h
 |.mp _,_,_,_,_,_,_,h=>by simp[AV.Rf]at h
 |.ptr _ _ _ _,_,_,_,_,_,_,h=>by simp[AV.Rf]at h
 |.Fw _ _ _,_,_,_,_,_,_,h=>by simp[AV.Rf]at h
 |.M8,_,_,_,_,_,_,h=>by simp[AV.Rf]at h
 |.fn _ _,_,_,_,_,_,_,h=>by simp[AV.Rf]at h
 |.un _,_,_,_,_,_,_,h=>by simp[AV.Rf]at h
 |.cons _ _,_,_,_,_,_,h,_=>h.elim
 |.nil,_,_,_,_,_,h,_=>h.elim
theorem zn{a:AV}{z:Nat×Int×ATB Nat×Nat}(h:a.Rf=some z)(N:Nat):a.Dq=false/\a.OL=false/\(a.bK N).Dq=false/\(a.bK N).isAgg=a.isAgg:=by
 cases a with
 |UI k i p o e=>exact⟨rfl,rfl,rfl,rfl⟩
 |pr a b =>
  refine⟨rfl,rfl,?_,?_⟩
  ·simp only[AV.bK];split<;>rfl
  ·simp only[AV.bK];split<;>rfl
 |_=>simp[AV.Rf]at h
theorem r9{w:World}{g g1:G}{n N k:Nat}(st:Step [k] n w g w g1){i:Int}{p:ATB Nat}{o:Nat}{v b:_}(OB:(g.AY k).a=some ⟨b,0,none⟩)(hc:w.cell? ⟨b,i.toNat*(g.AY k).ov+o,none⟩=some v)(hr:CF w g1 (n+1) false (.AH N) [v]) :
    ∀{a:AV} {cs:ATB Value},CF w g n false a cs->a.Rf=some (k,i,p,o)->(∀q∈(a.bK N).Cs,[k].contains q=false)->CF w g1 (n+1) false (a.bK N) cs
 |.UI _ _ _ _ _,cs,⟨_,_,_,b',v',ha,_,e1,_,hc'⟩,h,_=>by
  obtain⟨rfl,rfl,rfl,rfl⟩:=h;rw[OB]at ha;injection ha with ha;injection ha with ha;subst ha;rw[hc]at hc';injection hc' with hc';subst hc';rw[e1];exact hr
 |.pr a b,cs,⟨c,d,e,h1,h2⟩,h,hq=>by
  simp only[AV.Rf]at h;simp only[AV.bK]at hq⊢;split at h
  ·rename_i z hz;injection h with h;subst h;rw[hz]at hq;refine⟨c,d,e,r9 st OB hc hr h1 hz λq vw=>hq q (by simp[AV.Cs,vw]),?_⟩;have:=CF.step st (AQx n) b _ h2;rwa [OY λq vw=>hq q (by simp[AV.Cs,vw])]at this
  ·rename_i hz;rw[hz]at hq;refine⟨c,d,e,?_,r9 st OB hc hr h2 h λq vw=>hq q (by simp[AV.Cs,vw])⟩;have:=CF.step st (AQx n) a _ h1;rwa [OY λq vw=>hq q (by simp[AV.Cs,vw])]at this
 |.AA _ _ _,_,_,h,_=>by simp[AV.Rf]at h
 |.zs,_,_,h,_=>by simp[AV.Rf]at h
 |.AH _,_,_,h,_=>by simp[AV.Rf]at h
 |.mp _,_,_,h,_=>by simp[AV.Rf]at h
 |.ptr _ _ _ _,_,_,h,_=>by simp[AV.Rf]at h
 |.Fw _ _ _,_,_,h,_=>by simp[AV.Rf]at h
 |.M8,_,_,h,_=>by simp[AV.Rf]at h
 |.fn _ _,_,_,h,_=>by simp[AV.Rf]at h
 |.un _,_,_,h,_=>by simp[AV.Rf]at h
 |.cons _ _,_,h,_,_=>h.elim
 |.nil,_,h,_,_=>h.elim
theorem tW{w:World}{g:G}{n:Nat}:∀{l:ATB AV} {vs:ATB Value} {j:Nat} {a:AV},DU w g n l vs->l[j]?=some a->∃v,vs[j]?=some v/\B5 w g n a v
 |_::_,v::_,0,_,h,hx=>by simp at hx;subst hx;exact⟨v,rfl,h.1⟩
 |_::_,_::_,j+1,_,h,hx=>by
  obtain⟨v,hv,hr⟩:=tW  h.2 (by simpa using hx)
  grind
 |[],[],_,_,_,hx=>by grind
 |[],_::_,_,_,h,_=>h.elim
 |_::_,[],_,_,h,_=>h.elim
theorem nX{w:World}{g g1:G}{n n1:Nat}{a1:AV}:∀{l:ATB AV} {vs:ATB Value} {j:Nat} {v:Value},DU w g n l vs->vs[j]?=some v->B5 w g1 n1 a1 v->(∀a∈l.set j (.un 1),∀v,B5 w g n a v->B5 w g1 n1 a v)->DU w g1 n1 (l.set j a1) vs
 |a::l,v0::vs,0,v,h,hv,hx,ht=>by
  simp at hv;subst hv;refine⟨hx,?_⟩;have key:∀{l:ATB AV} {vs:ATB _},(∀a∈l,∀v,B5 w g n a v->B5 w g1 n1 a v)->DU w g n l vs->DU w g1 n1 l vs:=by
   intro l;induction l with
   |nil=>intro vs _ h;cases vs with
    |nil=>trivial
    |cons _ _=>exact h.elim
   |cons a l ih=>intro vs ht h;cases vs with
    |nil=>exact h.elim
    |cons v vs=>exact⟨ht a (by simp) v h.1,ih (λa ha=>ht a (by grind)) h.2⟩
  exact key (λa ha=>ht a (by grind)) h.2
 |a::l,v0::vs,j+1,v,h,hv,hx,ht=>⟨ht a (by simp) v0 h.1,nX h.2 (by grind) hx λa ha=>ht a (by grind)⟩
 |[],[],_,_,_,hv,_,_=>by grind
 |[],_::_,_,_,h,_,_,_=>h.elim
 |_::_,[],_,_,h,_,_,_=>h.elim
theorem Acr{P:Program}{f:FuncId}{c:Callee}(hc:Am P f c){bs:ATB Blk}{args:ATB AV}{e:Ij}(h:jP c bs args some=some e) :
    bs.length<=e.Aj.length/\(e.BJ=[]->∃l,e.Aj=bs++l)/\∀(w:World) (g:G) (vs:ATB Value),Bi w g bs->DU w g bs.length args vs->∀(o:Oper) (a:Act) (next:Act->World->Prop) (Q:Exit->Act->World->Prop),
     (∀v w' g',Bi w' g' e.Aj->B5 w' g' e.Aj.length e.val v->Step e.BJ bs.length w g w' g'->next (a.put o.dst v) w')->o.upon P a next Q ((callFunc f vs.toArray).run P w):=by
 unfold jP at h;split at h
 ·exact nZ hc h
 ·rename_i j a0 k i p of hix;split at h
  ·rename_i ek t xs hb;split at h
   ·rename_i u iR;split at h
    ·rename_i ys hg;split at h
     ·rename_i vd;obtain⟨rB,hu,yR⟩:=vd;rw[eO c hc.aI]at h;cases hx:YQ c ((Bd [k] bs).set k Blk.Ba++[Blk.row 0 .Av u ys]) (args.set j (a0.bK bs.length)) some with
      |none=>grind
      |some e0 =>
       rw[hx]at h;simp only[APW]at h;split at h
       ·grind
       ·rename_i rA;split at h
        ·rename_i e1 u' zs' hn0;split at h
         ·rename_i zs vb;split at h
          ·rename_i x' HY;injection h with h;subst h;obtain⟨ec,hec⟩:=BG vb;injection ec with ec;have ec:=ec.symm;subst ec;subst hec;obtain⟨hlen,_,AFz⟩:=nZ hc hx;have oE:((Bd [k] bs).set k Blk.Ba++[Blk.row 0 .Av u ys]).length=bs.length+1:=by simp[AF]
           have AvL:k∉e0.BJ:=by grind
           refine⟨by simp only[AP5,AF];omega,λhm=>by simp at hm,λw g vs H Aa2 o a next Q hn=>?_⟩
           obtain⟨_,AvR,hG⟩:=lq hix;rw[Nat.sub_zero]at AvR;obtain⟨v,hvj,hav⟩:=tW Aa2 AvR;obtain⟨pl1,pl2,pl3,pl4⟩:=zn hG bs.length;obtain⟨cs,S6,hval⟩:=B3 pl1 pl2 hav;obtain⟨_,h0,hi,b,v',OB,Cr,Dp⟩:=fG S6 hG;obtain⟨g1,H1,Se,AcU,bB,_⟩:=ZG H hb hi hg rB hu OB Dp HY;have AF5:∀a∈args.set j (a0.bK bs.length),∀q∈a.Cs,[k].contains q=false:=λa ha q hq=>by
            grind
           have eC:=A5 AvR;have AGa:B5 w g1 (bs.length+1) (a0.bK bs.length) v:=by
            obtain⟨cs1,Avu,iT⟩:=B3 rfl rfl AcU;have e1:cs1=[v']:=iT;subst e1;exact Bs pl3 (r9 Se OB Dp Avu S6 hG (AF5 _ (ARp (i:=j) (by grind)))) (by grind)
           have AIX:DU w g1 (bs.length+1) (args.set j (a0.bK bs.length)) vs:=nX Aa2 hvj AGa λa ha v h=>by
            obtain⟨q,hq⟩:=List.getElem?_of_mem ha;rcases Tg hq with ⟨rfl,rfl⟩|⟨Ke,vw⟩
            ·exact RQ
            ·have:=h.step Se (AQx _);rwa [OY (AF5 a (ARp (i:=q) (by grind)))]at this
           refine AFz w g1 vs H1 (by grind) o a next Q λv2 w2 g2 H2 hv2 Qp=>?_
           let N:=e0.Aj.length
           have oF:(((Bd [k,bs.length] e0.Aj).set bs.length Blk.Ba).set k (.row ek .Av t (xs.set i.toNat x'))).length=N:=by simp[AF,N]
           have stA:Step [bs.length,k] N w2 g2 w2 (g2.fY bs.length k (VU p [i.toNat])):=wT;have AmN:Step [k,bs.length] N w2 g2 w2 (g2.fY bs.length k (VU p [i.toNat])):=stA.weaken (λq hq=>by simp at hq⊢;exact hq.symm) (AP2 _);have Ahx:Nl w2 (g2.fY bs.length k (VU p [i.toNat])) N k (.row ek .Av t (xs.set i.toNat x')):=by
            refine bB w2 g2 N e1 (λb q hb=>Qp.BL b k q hb (by omega) AvL) (λj hj=>Qp.AY j (by omega)) (H2.MG bs.length _ hn0)
           refine hn v2 w2 (g2.fY bs.length k (VU p [i.toNat])) ?_ ?_ ?_
           ·refine H2.b8 AmN (λb hb=>by simp[G.fY,H2.BZ b hb]) (by rw[oF];exact AP2 _) λj' y R8=>?_;rw[oF];rcases Tg R8 with ⟨rfl,rfl⟩|⟨Ke,R8⟩
            ·exact .inr (.inr Ahx)
            ·rcases Tg R8 with ⟨rfl,rfl⟩|⟨AvP,R8⟩
             ·exact .inl rfl
             ·obtain⟨y',iV,rfl⟩:=Dy R8;exact .inr (.inl ⟨by simp only[ARC,AR7,or_false,not_or];exact⟨Ke,AvP⟩,y',iV,rfl⟩)
           ·rw[oF];exact hv2.step AmN (AP2 _)
           ·refine⟨Qp.os.trans Se.os,Qp.tape.trans Se.tape,Qp.output.trans Se.output,Qp.size,λb hb h=>?_,λb h=>?_,λb j' q h R8 hm=>?_,λj' R8=>?_⟩
            ·have h1:=Se.no b hb h;have h2:=Qp.no b hb h1.1;exact⟨by simp[G.fY,h2.1],h2.2⟩
            ·have h1:=Se.Jb b h;have h2:=Qp.Jb b h1.1;exact⟨by simp[G.fY,h2.1],h2.2⟩
            ·simp only[ARl,not_or]at hm;have h1:=Se.BL b j' q h R8 (by simpa using hm.2);have h2:=Qp.BL b j' q h1.1 (by omega) hm.1;exact⟨iH h2.1 (by omega),h2.2⟩
            ·show g2.AY j'=_;rw[Qp.AY j' (by omega),Se.AY j' R8]
          ·grind
         ·grind
        ·cases h
     ·grind
    ·cases h
   ·grind
  ·cases h
section
variable {w:World} {g:G} {n:Nat}
def G.X0(g:G)(Z:ATB Nat):G:=⟨λb=>match g.own b with |.BL k r=>if k∈Z then .Jb else .BL k r |t=>t,g.AY⟩
theorem ri{Z:ATB Nat}{b:Nat}(h:g.own b=.Jb):(g.X0 Z).own b=.Jb:=by simp[G.X0,h]
theorem QV{Z:ATB Nat}{b k:Nat}{r:ATB Nat}(h:g.own b=.BL k r)(hk:k∉Z):(g.X0 Z).own b=.BL k r:=by simp[G.X0,h,hk]
theorem Al.Sp{Z ks:ATB Nat}{b:Nat}(h:Al g.own ks b):Al (g.X0 Z).own (ks.filter λk=>!decide (k∈Z)) b:=by
 rcases h with h |⟨k,hk,r,h⟩
 ·exact .inl (ri h)
 ·by_cases hz:k∈Z
  ·exact .inl (by simp[G.X0,h,hz])
  ·exact .inr ⟨k,by simp[hk,hz],r,QV h hz⟩
theorem Al.AgT{Z ks:ATB Nat}{b:Nat}(h:Al g.own ks b):Al (g.X0 Z).own ks b:=h.Sp.mono λk hk=>(List.mem_filter.1 hk).1
theorem Adq(a:AV):a.ck.Dq=a.Dq:=by cases a<;>rfl
theorem o8(a:AV):a.ck.OL=true\/a.ck.isAgg=a.isAgg:=by cases a<;>first |exact .inl rfl |exact .inr rfl
theorem Aia{a:AV}(h:a.OL=true):a.ck.OL=true:=by cases a<;>simp_all [AV.OL,AV.ck]
theorem CF.Sp(Z:ATB Nat):∀(a:AV) (m:Bool) {cs:ATB Value},CF w g n m a cs->CF w (g.X0 Z) n m a.ck cs
 |.AA ks t x,false,cs,⟨hk,r⟩=>⟨hk,r.mono λb a=>⟨a.AgT,rfl⟩⟩
 |.zs,false,_,h=>h
 |.AH _,false,_,h=>h
 |.mp _,false,_,h=>h
 |.ptr _ _ _ _,false,_,h=>h
 |.Fw ks t x,false,cs,⟨hk,b,off,ds,e,ha,r,hc⟩=>⟨hk,b,off,ds,e,ha.AgT,r.mono λb a=>⟨a.AgT,rfl⟩,hc⟩
 |.M8,false,_,h=>h
 |.UI _ _ _ _ _,false,_,⟨_,_,_,_,_,_,_,e,h1,_⟩=>by subst e;exact⟨rfl,by intro u hu;simp at hu;subst hu;exact h1⟩
 |.WE _ _ _ _ _ _,false,_,⟨_,_,_,_,_,_,_,_,_,e,_⟩=>by subst e;exact⟨rfl,by intro u hu;simp at hu;subst hu;rfl⟩
 |.pr a b,false,_,⟨c,e,he,h1,h2⟩=>⟨c,e,he,CF.Sp Z a false h1,CF.Sp Z b false h2⟩
 |.fn f c,false,_,⟨vs,e,hx⟩=>⟨vs,e,CF.Sp Z c true hx⟩
 |.un k,false,_,h=>h
 |.cons a b,true,_,⟨v,r,e,h1,h2⟩=>by
  refine⟨v,r,e,?_,CF.Sp Z b true h2⟩;rcases o8 a with hd |hd
  ·exact .inl hd
  ·exact h1.imp Aia λ⟨cs,hx,hv⟩=>⟨cs,CF.Sp Z a false hx,by rw[hd];exact hv⟩
 |.nil,true,_,h=>h
 |.cons _ _,false,_,h=>h.elim
 |.nil,false,_,h=>h.elim
 |.UI _ _ _ _ _,true,_,h=>h.elim
 |.WE _ _ _ _ _ _,true,_,h=>h.elim
 |.AA _ _ _,true,_,h=>h.elim
 |.zs,true,_,h=>h.elim
 |.AH _,true,_,h=>h.elim
 |.mp _,true,_,h=>h.elim
 |.ptr _ _ _ _,true,_,h=>h.elim
 |.Fw _ _ _,true,_,h=>h.elim
 |.M8,true,_,h=>h.elim
 |.pr _ _,true,_,h=>h.elim
 |.fn _ _,true,_,h=>h.elim
 |.un _,true,_,h=>h.elim
theorem B5.Sp(Z:ATB Nat){a:AV}{v:Value}(h:B5 w g n a v):B5 w (g.X0 Z) n a.ck v:=by
 cases ht:a.Dq with
 |false =>
  rw[B5.iff ht]at h;rw[B5.iff (by rw[Adq];exact ht)];rcases o8 a with hd |hd
  ·exact .inl hd
  ·exact h.imp Aia λ⟨cs,h,hv⟩=>⟨cs,CF.Sp Z a false h,by rw[hd];exact hv⟩
 |true =>
  cases a with
  |cons a b=>obtain⟨vs,e,h⟩:=h;exact⟨vs,e,CF.Sp Z (.cons a b) true h⟩
  |nil=>exact h
  |_=>cases ht
theorem Nl.Sp{Z:ATB Nat}{k:Nat}(hk:k∉Z){b:Blk}(h:Nl w g n k b):Nl w (g.X0 Z) n k b.ck:=by
 cases b with
 |Ba=>trivial
 |map m kt vt es st =>
  obtain⟨RV,b,HF,DW,ha,ho,hh,S8,hm⟩:=h;refine⟨RV,b,HF,DW,ha,QV ho hk,hh,S8,hm.on λi x c r=>?_⟩;cases m with
  |Av=>exact Ik.mono (λb q hb=>⟨QV hb hk,rfl⟩) r
  |sh ks=>exact H7.mono (λb a=>⟨a.AgT,rfl⟩) r
 |R1 e t xs i p =>
  obtain⟨h1,h2,h3,h4,h5,u,o,x0,b,Bq,ds,q1,q2,q3,ha,ho,hh,c1,c2,c3,c4,hc⟩:=h;exact⟨h1,h2,h3,h4,h5,u,o,x0,b,Bq,ds,q1,q2,q3,ha,QV ho hk,hh,c1,c2,c3,c4,hc.mono λi x c r=>r.mono λb q hb=>⟨QV hb hk,rfl⟩⟩
 |tail e t xs =>
  obtain⟨hf,hlen,QN,BU,hr⟩:=h;exact⟨hf,hlen,QN,BU,hr.imp id λ⟨b,o,Bq,ds,ha,ho,hh,h1,h2,h3,h4,hc⟩=>⟨b,o,Bq,ds,ha,QV ho hk,hh,h1,h2,h3,h4,hc.mono λi x c r=>r.mono λb q hb=>⟨QV hb hk,rfl⟩⟩⟩
 |box a =>
  obtain⟨h1,b,cs,e,ha,ho,hh,hx⟩:=h;exact⟨h1,b,cs,e,ha,QV ho hk,hh,CF.Sp Z a false hx⟩
 |row e m t xs =>
  obtain⟨RV,hlen,QN,BU,hr⟩:=h;refine⟨RV,hlen,QN,BU,hr.imp id λ⟨b,Bq,ds,ha,ho,hh,h1,h2,h3,h4,hc⟩=>⟨b,Bq,ds,ha,QV ho hk,hh,h1,h2,h3,h4,?_⟩⟩;cases m with
  |Av=>exact hc.mono λi x c r=>r.mono λb q hb=>⟨QV hb hk,rfl⟩
  |sh ks=>exact hc.mono λx c r=>r.mono λb a=>⟨a.AgT,rfl⟩
theorem uV{bs:ATB Blk}(H:Bi w g bs)(Z:ATB Nat):Bi w (g.X0 Z) ((Blk.G3 bs Z).map Blk.ck):=by
 refine⟨λb hb=>by simp[G.X0,H.BZ b hb],λk x hx=>?_⟩;rw[AQp]at hx;cases hq:(Blk.G3 bs Z)[k]? with
 |none=>rw[hq]at hx;cases hx
 |some y =>
  rw[hq]at hx;injection hx with hx;subst hx;rw[AP8,A7];rcases Lh hq with rfl |⟨hn,h⟩
  ·trivial
  ·exact(H.MG k y h).Sp hn
theorem W8:∀a:AV,a.fh=false->a.ck=a
 |.pr a b,h=>by
  simp only[AV.fh,AQ0]at h;simp[AV.ck,W8 a h.1,W8 b h.2]
 |.cons a b,h=>by
  simp only[AV.fh,AQ0]at h;simp[AV.ck,W8 a h.1,W8 b h.2]
 |.fn f c,h=>by simp[AV.ck,W8 c h]
 |.AA _ _ _,_=>rfl
 |.zs,_=>rfl
 |.AH _,_=>rfl
 |.mp _,_=>rfl
 |.ptr _ _ _ _,_=>rfl
 |.Fw _ _ _,_=>rfl
 |.M8,_=>rfl
 |.nil,_=>rfl
 |.UI _ _ _ _ _,h=>by cases h
 |.WE _ _ _ _ _ _,h=>by cases h
 |.un _,_=>rfl
theorem Ag3{b:Blk}(h:b.fh=false):b.ck=b:=by
 cases b with
 |box a=>simp[Blk.ck,W8 a h]
 |_=>rfl
theorem AcO{bs:ATB Blk}(H:Bi w g bs)(hn:bs.all (λb=>!b.fh)=true)(Z:ATB Nat):Bi w (g.X0 Z) (Blk.G3 bs Z):=by
 have:=uV H Z;rwa [AQK (g:=id) (λb hb=>?_),List.map_id]at this;obtain⟨j,hj⟩:=List.getElem?_of_mem hb;rcases Lh hj with h |⟨_,h⟩
 ·subst h;rfl
 ·have:=List.all_eq_true.1 hn b (ARp h);exact Ag3 (by simpa using this)
theorem vN:∀(Z:ATB Nat) (a b:ATB Blk),(∀k∈Z,a.length<=k)->∃l,Blk.G3 (a++b) Z=a++l
 |[],a,b,_=>⟨b,rfl⟩
 |k::Z,a,b,h=>by
  have hk:=h k (by simp);simp only[Blk.G3];rw[ARm _ _ hk];exact vN Z a _ λj hj=>h j (by simp[hj])
end
section
variable {w:World} {g:G} {n:Nat} {v:Value}
end
section
variable {w:World} {g:G} {bs:ATB Blk} {m:Nat}
theorem AlT{a b:AV}{f:Nat}(h:a.cf f=some b):a.isAgg=true:=by
 cases a with
 |AA ks t x =>
  cases t<;>first |rfl |(cases f<;>simp[AV.cf,Yx]at h)
 |pr _ _=>rfl
 |_=>cases f<;>simp[AV.cf]at h
theorem yE(H:Bi w g bs){c:Co}{a a':AV}{nb:ATB Blk}(h:coV bs c a=some (a',nb)){cs:ATB Value}(hx:CF w g bs.length false a cs) :
    ∃g',Bi w g' (bs++nb)/\CF w g' (bs++nb).length false a' cs/\a'.isAgg=a.isAgg/\Step [] bs.length w g w g':=by
 have stay:∀a':AV,CF w g bs.length false a' cs->a'.isAgg=a.isAgg->∃g',Bi w g' (bs++[])/\CF w g' (bs++[]).length false a' cs/\a'.isAgg=a.isAgg/\Step [] bs.length w g w g':=λa' h1 h2=>⟨g,by grind,by grind,h2,Step.refl _ _ _ _⟩;cases c with
 |AA t =>
  simp only[coV]at h;split at h
  ·rename_i x hr;obtain⟨rfl,rfl⟩:=h;have:=Rh H t a x cs hr hx;exact stay _ ⟨this.2,this.1⟩ (bL hr).symm
  ·grind
 |ic ks =>
  simp only[coV]at h;split at h
  ·split at h
   ·rename_i hc;obtain⟨rfl,rfl⟩:=h;rw[AP3,ARh]at hc;have hks:∀k∈ks,k<bs.length:=λk hk=>by grind
    refine stay _ ⟨hks,Aod hx.2 λhf b hb=>?_⟩ rfl;rcases hc.1 with h |h
    ·grind
    ·exact hb.mono λk hk=>by grind
   ·grind
  ·grind
 |row p e t Av =>
  simp only[coV]at h;split at h
  ·rename_i hz;split at h
   ·rename_i MP;split at h
    ·rename_i b hb;simp only[APY,AP9]at h;obtain⟨rfl,rfl⟩:=h;obtain⟨_,BU⟩:=lH MP;obtain⟨c0,c1,c2,e1,ho,⟨ad,Pp⟩,_⟩:=SE p a cs .zs hx hz
     let g':=g.VQ (λj r=>.BL j r) none bs.length ⟨ad,0,0,t.size⟩
     have st:Step [] bs.length w g w g':=Step.VQ H.BZ rfl rfl rfl (AP2 _) (λ_ _ _=>rfl) (λq h=>by grind) (AP2 _) λ_ _ _ _=>rfl;have VP:g'.AY bs.length=⟨ad,0,0,t.size⟩:=by simp[g',G.VQ]
     have vC:=hx.RP st (AQx bs.length);obtain⟨d0,d1,d2,e2,ho2,⟨xB,mR⟩,HY⟩:=SE p a cs .zs vC hz;have hlen:c0.length=d0.length:=by grind
     have had:ad=xB:=by
      have h1:cs[c0.length]?=some (.slice ad 0 0):=by
       grind
      grind
     have Y0:=HY (.AH bs.length) b d1 hb ⟨AQC _,by grind⟩;rw[<-e2]at Y0;have RZ:(if(t.BS||Av)=true then RM.Av else RM.sh []).Cs=[]:=by split<;>rfl
     refine⟨g',H.push st (Nr H.BZ (AP2 _) λq h=>by grind) ⟨(by rw[RZ];intro j hj;cases hj),by grind,by rw[VP],BU,.inl ⟨rfl,by rw[VP]⟩⟩,by rw[AP0];exact Y0,?_,st⟩;cases p with
     |nil =>
      simp only[AV.Wu,APY]at hz;simp only[AV.bW,APY]at hb;subst hz;subst hb;rfl
     |cons f p =>
      simp only[AV.Wu]at hz;split at hz
      ·rename_i q hq;simp only[AV.bW,hq]at hb;split at hb
       ·rw[bU hb,AlT hq]
       ·cases hb
      ·cases hz
    ·cases h
   ·cases h
  ·obtain⟨rfl,rfl⟩:=h;exact stay _ hx rfl
theorem iK{k:Nat}{c:Co}{bs Gp:ATB Blk}(h:coB k c bs=some Gp):bs.length<=Gp.length:=by
 unfold coB at h
 grind
theorem Agu(H:Bi w g bs){k:Nat}{c:Co}{Gp:ATB Blk}(h:coB k c bs=some Gp):∃g',Bi w g' Gp/\Step [] bs.length w g w g':=by
 unfold coB at h;split at h
 ·rename_i a0 hb;split at h
  ·rename_i a' nb hco;injection h with h;subst h;obtain⟨hlen,bb,cs,e,ha,ho,hh,hx⟩:=H.MG k _ hb;obtain⟨g',h1,h2,h3,h4⟩:=yE H hco hx;have hk:=A5 hb;have fp:(bs.set k (.box a')++nb).length=(bs++nb).length:=by simp
   refine⟨g',⟨h1.BZ,λj x hj=>?_⟩,h4⟩;rw[fp];rw[AQm]at hj;split at hj
   ·rename_i eC;rw[AP5]at eC;rw[AQl]at hj;split at hj
    ·rename_i ek;subst ek;injection hj with hj;subst hj;have hl:=h4.BL bb k [] ho hk (by simp);exact⟨by rw[h4.AY k hk];exact hlen,bb,cs,e,by rw[h4.AY k hk];exact ha,hl.1,hh,h2⟩
    ·exact h1.MG j x (by grind)
   ·rename_i eC;rw[AP5]at eC hj;exact h1.MG j x (by grind)
  ·grind
 ·grind
theorem AaR:∀{l:ATB (Nat×Co)} {bs Gp:ATB Blk} {g:G},qX l bs=some Gp->Bi w g bs->bs.length<=Gp.length/\∃g',Bi w g' Gp/\Step [] bs.length w g w g'
 |[],bs,Gp,g,h,H=>by
  simp only[qX,APY]at h;subst h;exact⟨AP2 _,g,H,Step.refl _ _ _ _⟩
 |(k,c)::r,bs,Gp,g,h,H=>by
  simp only[qX]at h;split at h
  ·rename_i b1 h1;obtain⟨g1,H1,s1⟩:=Agu H h1;obtain⟨hl,g2,H2,s2⟩:=AaR h H1;exact⟨AQq (iK h1) hl,g2,H2,s1.trans s2 (iK h1)⟩
  ·grind
theorem uN:∀{l:ATB (Nat×Co)} {bs Gp:ATB Blk},qX l bs=some Gp->bs.length<=Gp.length
 |[],bs,Gp,h=>by simp only[qX,APY]at h;subst h;exact AP2 _
 |(k,c)::r,bs,Gp,h=>by
  simp only[qX]at h;split at h
  ·rename_i b1 h1;exact AQq (iK h1) (uN h)
  ·grind
theorem wo:∀{l:ATB (Nat×ATB (ATB Nat)×Co)} {args:ATB AV} {bs Gp:ATB Blk},preB l args bs=some Gp->∃l',qX l' bs=some Gp
 |[],args,bs,Gp,h=>⟨[],h⟩
 |(j,q,c)::r,args,bs,Gp,h=>by
  simp only[preB]at h;split at h
  ·split at h
   ·rename_i k _;split at h
    ·rename_i b1 h1;obtain⟨l',h2⟩:=wo h;exact⟨(k,c)::l',by simp only[qX,h1];exact h2⟩
    ·grind
   ·grind
  ·grind
end
section
variable {P:Program} {σ:St} {o:Oper} {en:GV} {e:Ij}
theorem AdO{c:Call}(ho:o.op=.call c)(hc:c.callee=.builtin .cap)(hx:Qk σ c.args=[.zs]){t:TypeId}{r:ATB TypeId}(aB:c.argTypes.toList=t::r){ti:TI}(ht:Fh P t ti)(hs:ti.Ew=true):Oz P σ o ⟨.int .i64 0,σ.Aj,[]⟩:=by
 obtain⟨a0,ha,ZP⟩:=Afd hx;refine .Jc <| Mb (s:=λρ=>Builtin.cap_ c.argTypes o.type #[ρ a0]) (λρ=>?_) λa w g BO=>?_
 ·rw[Ko ho hc,ha];simp[builtin]
 ·have Yh:=AU BO a0;rw[ZP]at Yh;obtain⟨ad,hv⟩:=YM Yh;have h0:c.argTypes[0]?=some t:=by rw[<-AQa,aB];rfl
  exact B7 (by rw[hv];simp[Builtin.cap_,h0,underlying,BH ht hs,goInt])
end
section
variable {P:Program} {σ:St} {o:Oper} {en:GV} {e:Ij}
theorem AdU{t:TypeId}{x:Operand}(ho:o.op=.load t x){ti:TI}(ht:Fh P t ti)(Im:ti.Ew=true)(h:bZ σ.Aj ti (σ.Cg x) some=some e):Oz P σ o e:=by
 unfold bZ at h;split at h
 ·rename_i k i p f hx;split at h
  ·rename_i el tr xs hb;split at h
   ·rename_i u iR;split at h
    ·rename_i ys x0 hg hs;split at h
     ·rename_i hc;injection h with h;subst h;obtain⟨hti,rB,hu⟩:=hc;refine⟨by simp[AF],λh=>(by grind),λa w g BO next Q hn=>?_⟩
      have Yh:=AU BO x;rw[hx]at Yh;obtain⟨hk,h0,h1,b,OB,hpe⟩:=LU Yh;obtain⟨ad,c,Dp⟩:=Adp BO.heap hb h1 hg hs rB OB;obtain⟨g1,H1,Se,AcU,_,ALZ⟩:=ZG BO.heap hb h1 hg rB hu OB Dp hs;have El:(execOp a.eval o).run P w=.ok (.value (.slice ad ys.length c)) w:=by
       have hl:=TK (P:=P) (w:=w) ht (b:=b) (off:=i.toNat*(g.AY k).ov+f) (cs:=[.slice ad ys.length c]) (by rw[hti];rfl) (λj v hv=>by
        grind) (λ_=>rfl)
       obtain⟨v,hv,tu⟩:=hl;rw[hti]at tu;have:[Value.slice ad ys.length c]=[v]:=tu;injection this with h2 _;subst h2;simp[execOp,ho,hpe,Instr.loadAt,Instr.sureAddr,hv]
      unfold Oper.wp;rw[El];have VS:((Bd [k] σ.Aj).set k (Blk.R1 el tr xs i p)++[Blk.row 0 .Av u ys]).length=σ.Aj.length+1:=by simp[AF]
      refine hn _ w g1 ⟨H1.BZ,λj y hj=>?_⟩ (by grind) Se;rw[VS];have oE:((Bd [k] σ.Aj).set k Blk.Ba++[Blk.row 0 .Av u ys]).length=σ.Aj.length+1:=by grind
      by_cases mq:j=k
      ·grind
      ·have:=H1.MG j y (by
         grind)
       rwa [oE]at this
     ·grind
    ·grind
   ·grind
  ·grind
 ·grind
structure mh (P:Program) (aE:TypeId) (kt:Ty):Prop where
 check:∀(w:World) (em:Bool) (x:kt.V),(Instr.checkKey em 10000 aE (Fx kt x)).run P w=.ok () w
 find:∀(w:World) (x:kt.V) (ks:List kt.V) (ms:List MapEntry),ms.map (·.key)=ks.map (Fx kt) ->
  (∀j:Nat,(∀i,i<j->∀y,ks[i]?=some y->Bf kt x y=false)->(∀y,ks[j]?=some y->Bf kt x y=true)->(Instr.findKey aE (Fx kt x) ms).run P w=.ok (if h:j<ms.length then some (j,ms[j].val)else none) w)
 stays:∀(w:World) (x:kt.V),(Instr.keyThatStays (Fx kt x) (Fx kt x)).run P w=.ok (Fx kt x) w
 eq:∀x y:kt.V,Bf kt x y=true->x=y
theorem b5{s t:ByteArray}:Jd s t=true↔s=t:=by
 unfold Jd;rw[ByteArray.toList_eq,ByteArray.toList_eq,AQ8];constructor
 ·intro h;cases s with
  |mk a=>cases t with
   |mk b=>simp at h;rw[h]
 ·grind
theorem Anw{s t:ByteArray}:(s==t)=true↔s=t:=by
 constructor
 ·intro h;have:(s.data==t.data)=true:=h;cases s;simp at this;rw[this]
 ·rintro rfl
  show(s.data==s.data)=true;simp
theorem wV{s t:ByteArray}:Jd s t=(s==t):=by rw[ARA,b5,Anw]
theorem kq{kt:Ty}{d:TypeDesc}(hs:∀x y:kt.V,Instr.sameNow d (Fx kt x) (Fx kt y)=some (Bf kt x y)){x:kt.V}:∀(ks:ATB kt.V) (ms:ATB MapEntry) (n j:Nat),ms.map (·.key)=ks.map (Fx kt) ->
    (∀i,i<j->∀y,ks[i]?=some y->Bf kt x y=false)->(∀y,ks[j]?=some y->Bf kt x y=true)->Instr.findNow d (Fx kt x) ms n=some (if h:j<ms.length then some (n+j,ms[j].val)else none)
 |[],ms,n,j,hm,_,_=>by
  have :=by simpa using hm
  subst this;rfl
 |k::ks,m::ms,n,0,hm,_,h1=>by
  simp only[AQI,ARO]at hm;simp[Instr.findNow,hm.1,hs,h1 k rfl]
 |k::ks,m::ms,n,j+1,hm,h0,h1=>by
  simp only[AQI,ARO]at hm;have ih:=kq hs ks ms (n+1) j hm.2 (λi hi y hy=>h0 (i+1) (by omega) y (by grind)) (λy hy=>h1 y (by grind));simp only[Instr.findNow,hm.1,hs,h0 0 (by omega) k rfl]
  grind
 |k::ks,[],n,j,hm,_,_=>by grind
theorem mh.plain{aE:TypeId}{kt:Ty}{d:TypeDesc}(hu:P.underlying aE=some d)(hs:∀x y:kt.V,Instr.sameNow d (Fx kt x) (Fx kt y)=some (Bf kt x y))(hc:∀(w:World) (em:Bool) (x:kt.V),(Instr.checkKey em 10000 aE (Fx kt x)).run P w=.ok () w)
    (BO:∀(w:World) (x:kt.V),(Instr.keyThatStays (Fx kt x) (Fx kt x)).run P w=.ok (Fx kt x) w) (heq:∀x y:kt.V,Bf kt x y=true->x=y):mh P aE kt where
 check:=hc
 find w x ks ms hm j h0 h1:=by
  have:=kq hs  ks ms 0 j hm h0 h1;simp[Instr.findKey,underlying,hu,this]
 stays:=BO
 eq:=heq
theorem Amq{aE:TypeId}{q q':IntKind}(hu:P.underlying aE=some (.int q')):mh P aE (.int q) :=
 .plain hu (λx y=>by simp[Fx,Instr.sameNow,Bf]) (λw em x=>by
     rw[Instr.checkKey];simp[underlying,hu]) (λw x=>by
     have:Instr.sameBits 10000 (.int q x) (.int q x)=true:=by simp[Instr.sameBits]
     simp[Instr.keyThatStays,Fx,this]) λx y h=>by simpa [Bf]using h
theorem Amr{aE:TypeId}(hu:P.underlying aE=some .string):mh P aE .str :=
 .plain hu (λx y=>by simp[Fx,Instr.sameNow,Bf,wV]) (λw em x=>by
     rw[Instr.checkKey];simp[underlying,hu]) (λw x=>by
     have:Instr.sameBits 10000 (.string x) (.string x)=true:=by exact Anw.2 rfl
     simp[Instr.keyThatStays,Fx,this]) λx y h=>b5.1 (by simpa [Bf]using h)
theorem dE{e2:TypeId}{te:TI}(Ev:Fh P e2 te){q:IntKind}(hq:te.ty=.int q){w:World}{cs:Array Value}{i:Nat}{v:Value}(h:cs[i]?=some v):(part e2 cs i).run P w=.ok v w:=by
 have ha:=cu (w:=w) Ev;rw[hq]at ha;simp[part,ha,Ty.isAgg,h]
theorem gd{e2:TypeId}{q q':IntKind}(hu:P.underlying e2=some (.int q'))(d:Nat)(w:World)(a b:Int):(Op.equalIn (d+1) e2 (.int q a) (.int q b)).run P w=.ok (a==b) w:=by
 simp[Op.equalIn,underlying,hu]
theorem ou{aE e2:TypeId}(hu:P.underlying aE=some (.array 2 e2)){te:TI}(Ev:Fh P e2 te){q:IntKind}(hq:te.ty=.int q)(w:World)(a b c d:Int) :
    (Op.equal aE (.agg #[.int q a,.int q b]) (.agg #[.int q c,.int q d])).run P w=.ok (a==c&&b==d) w:=by
 have hs:=D2 (w:=w) Ev;rw[hq]at hs;have hi:=UU Ev hq;have p0:∀x y ,(part e2 #[.int q x,.int q y] 0).run P w=.ok _ w:=λx y=>dE Ev hq rfl;have p1:∀x y ,(part e2 #[.int q x,.int q y] 1).run P w=.ok _ w:=λx y=>dE Ev hq rfl;have eq:=λx y=>gd  (q:=q) hi 9998 w x y;unfold Op.equal Op.maxDepth;rw[Op.equalIn];simp only[Sem.run_bind,run_underlying hu,Result.andThen_ok,hs];simp only[Std.Legacy.Range.forIn_eq_forIn_range',Std.Legacy.Range.size,List.range'_succ,List.forIn_nil];by_cases h1:a=c<;>by_cases h2:b=d<;>simp[p0,p1,eq,h1,h2,Ty.size]
theorem au{aE e2:TypeId}(hu:P.underlying aE=some (.array 2 e2)){te:TI}(Ev:Fh P e2 te){q:IntKind}(hq:te.ty=.int q)(w:World){x:(Ty.AE (.int q) (.AE (.int q) .unit)).V} :
    ∀(ks:ATB (Ty.AE (.int q) (.AE (.int q) .unit)).V) (ms:ATB MapEntry) (n j:Nat),ms.map (·.key)=ks.map (Fx (.AE (.int q) (.AE (.int q) .unit))) ->
    (∀i,i<j->∀y,ks[i]?=some y->Bf (.AE (.int q) (.AE (.int q) .unit)) x y=false)->(∀y,ks[j]?=some y->Bf (.AE (.int q) (.AE (.int q) .unit)) x y=true) ->
    (Instr.findAsking aE (Fx (.AE (.int q) (.AE (.int q) .unit)) x) ms n).run P w=.ok (if h:j<ms.length then some (n+j,ms[j].val)else none) w
 |[],ms,n,j,hm,_,_=>by
  have :=by simpa using hm
  subst this;simp[Instr.findAsking]
 |k::ks,m::ms,n,0,hm,_,h1=>by
  simp only[AQI,ARO]at hm;have:=h1 k rfl;simp only[Bf,Bool.and_true]at this;simp[Instr.findAsking,hm.1,Fx,ou hu Ev hq,this]
 |k::ks,m::ms,n,j+1,hm,h0,h1=>by
  simp only[AQI,ARO]at hm;have ih:=au hu Ev hq w ks ms (n+1) j hm.2 (λi hi y hy=>h0 (i+1) (by omega) y (by grind)) (λy hy=>h1 y (by grind));have:=h0 0 (by omega) k rfl;simp only[Bf,Bool.and_true]at this;simp only[Instr.findAsking,hm.1,Sem.run_bind];rw[show(Op.equal aE _ _).run P w=.ok false w by simp[Fx,ou hu Ev hq,this]];simp
  grind
 |k::ks,[],n,j,hm,_,_=>by grind
theorem Amp{aE e2:TypeId}(hu:P.underlying aE=some (.array 2 e2)){te:TI}(Ev:Fh P e2 te){q:IntKind}(hq:te.ty=.int q):mh P aE (.AE (.int q) (.AE (.int q) .unit)) where
 check w em x:=by
  have hs:=D2 (w:=w) Ev;rw[hq]at hs;have hi:=UU Ev hq;have p0:(part e2 #[.int q x.1,.int q x.2.1] 0).run P w=.ok _ w:=dE Ev hq rfl;have p1:(part e2 #[.int q x.1,.int q _] 1).run P w=.ok (.int q x.2.1) w:=dE Ev hq rfl;have hc:∀y,(Instr.checkKey em 9999 e2 (.int q y)).run P w=.ok () w:=λy=>by
   rw[Instr.checkKey];simp[underlying,hi]
  rw[Instr.checkKey];simp only[Sem.run_bind,run_underlying hu,Result.andThen_ok,Fx];simp only[Std.Legacy.Range.forIn_eq_forIn_range',Std.Legacy.Range.size,List.range'_succ,List.forIn_nil];simp[hs,p0,p1,hc,Ty.size]
 find w x ks ms hm j h0 h1:=by
  have hf:=au hu Ev hq w  ks ms 0 j hm h0 h1;simp only[Instr.findKey,run_underlying hu];cases ms with
  |nil=>simp[underlying,hu,Instr.findNow]
  |cons m ms =>
   cases ks with
   |nil=>grind
   |cons k ks =>
    have:Instr.findNow (.array 2 e2) (Fx _ x) (m::ms) 0=none:=by simp[Instr.findNow,Instr.sameNow]
    simp[underlying,hu,this,hf]
 stays w x:=by
  have:Instr.sameBits 10000 (.agg #[.int q x.1,.int q x.2.1]) (.agg #[.int q x.1,.int q x.2.1])=true:=by
   simp[Instr.sameBits]
  simp[Instr.keyThatStays,Fx,this]
 eq x y h:=by
  simp only[Bf,Bool.and_true]at h
  grind
theorem mh.of{D7:Tab}{aE:TypeId}{tk:TI}(ht:gP P D7=true)(hk:Fh P aE tk)(h:tk.ty.EC=true)(hh:bF D7 tk=true):mh P aE tk.ty:=by
 unfold bF at hh;split at hh
 ·simp only[AP3,AQ8]at hh;obtain⟨mL,hh⟩:=hh;split at hh
  ·rename_i te Ev;simp only[AP3,AQ8]at hh;have hu:=hk.HF (by omega);rw[mL]at hu;rw[hh.2];exact Amp hu (Fh.of ht Ev) hh.1
  ·grind
 ·cases hq:tk.ty with
  |int q=>exact Amq (UU hk hq)
  |str=>exact Amr (S0 hk hq)
  |AE a b =>
   rename_i VT;rw[hq]at h;cases a with
   |int q=>grind
   |_=>simp[Ty.EC]at h
  |_=>rw[hq]at h;simp[Ty.EC]at h
theorem Amn{w:World}{A:Nat->Prop}:∀{kt:Ty} {x:kt.V} {cs:ATB Value} {v:Value},kt.EC=true->H7 w A kt x cs->Cq kt.isAgg cs v->v=Fx kt x
 |.int k,x,cs,v,_,h,hv=>by
  subst h;simpa [Fx]using hv.symm
 |.str,x,cs,v,_,h,hv=>by
  subst h;simpa [Fx]using hv.symm
 |.AE a b,x,cs,v,hk,h,hv=>by
  cases a with
  |int q=>cases b with
   |AE b c=>cases b with
    |int q'=>cases c with
     |unit =>
      obtain⟨c1,d1,rfl,h1,c2,d2,rfl,h2,h3⟩:=h;subst h1;subst h2;subst h3;simpa [Cq,Ty.isAgg,Fx]using hv
     |_=>simp[Ty.EC]at hk
    |_=>simp[Ty.EC]at hk
   |_=>simp[Ty.EC]at hk
  |_=>simp[Ty.EC]at hk
 |.bool,_,_,_,hk,_,_=>by simp[Ty.EC]at hk
 |.unit,_,_,_,hk,_,_=>by simp[Ty.EC]at hk
 |.sl _,_,_,_,hk,_,_=>by simp[Ty.EC]at hk
 |.R4 _,_,_,_,hk,_,_=>by simp[Ty.EC]at hk
theorem kR{w:World}{g:G}{bs:ATB Blk}(H:Bi w g bs){kt:Ty}{a:AV}{key:kt.V}{v:Value}(hk:kt.EC=true)(h:rd bs kt a=some key)(hv:B5 w g bs.length a v):v=Fx kt key:=by
 obtain⟨h1,h2⟩:=WH h;obtain⟨cs,S6,hv⟩:=B3 h1 h2 hv;rw[bL h]at hv;exact Amn hk (Rh H kt a key cs h S6).1 hv
theorem XL:∀{kt:Ty},kt.EC=true->∀{x:kt.V},Bf kt x x=true
 |.int _,_,x=>by simp[Bf]
 |.str,_,x=>b5.2 rfl
 |.AE a b,hk,x=>by
  cases a with
  |int q=>cases b with
   |AE b c=>cases b with
    |int q'=>cases c with
     |unit=>simp[Bf]
     |_=>simp[Ty.EC]at hk
    |_=>simp[Ty.EC]at hk
   |_=>simp[Ty.EC]at hk
  |_=>simp[Ty.EC]at hk
 |.bool,hk,_=>by simp[Ty.EC]at hk
 |.unit,hk,_=>by simp[Ty.EC]at hk
 |.sl _,hk,_=>by simp[Ty.EC]at hk
 |.R4 _,hk,_=>by simp[Ty.EC]at hk
theorem oZ{kt vt:Ty}(k:kt.V):∀(es:ATB (kt.V×vt.V)),(∃(j:Nat) (x:kt.V×vt.V),es[j]?=some x/\Bf kt k x.1=true/\(∀i,i<j->∀y,es[i]?=some y->Bf kt k y.1=false)/\Pf kt vt es k=some x.2/\∀v,Cf kt vt es k v=es.set j (k,v)) \/
    ((∀(i:Nat) y,es[i]?=some y->Bf kt k y.1=false)/\Pf kt vt es k=none/\∀v,Cf kt vt es k v=es++[(k,v)])
 |[]=>.inr ⟨λi y h=>by grind,rfl,λ_=>rfl⟩
 |x::r=>by
  cases hk:Bf kt k x.1 with
  |true=>exact .inl ⟨0,x,rfl,hk,λi hi=>by omega,by simp[Pf,hk],λv=>by simp[Cf,hk]⟩
  |false =>
   rcases oZ k r with ⟨j,y,h1,h2,h3,h4,h5⟩|⟨h1,h2,h3⟩
   ·refine .inl ⟨j+1,y,by grind,h2,λi hi z hz=>?_,by simp[Pf,hk,h4],λv=>by simp[Cf,hk,h5]⟩
    grind
   ·refine .inr ⟨λi z hz=>?_,by simp[Pf,hk,h2],λv=>by simp[Cf,hk,h3]⟩
    grind
section
variable {w:World} {own:Nat->S4} {k:Nat} {md:RM} {kt vt:Ty} {st:ATC kt.V}
theorem WT.Amo:∀{i:Nat} {es:ATB (kt.V×vt.V)} {ms:ATB MapEntry},WT w own k md kt vt st i es ms->ms.map (·.key)=(es.map (·.1)).map (Fx kt)
 |_,[],_,h=>by cases h;rfl
 |_,x::xs,_,⟨m,r,e,h1,_,h3⟩=>by subst e;simp[h1.1,WT.Amo h3]
theorem WT.len{i:Nat}{es:ATB (kt.V×vt.V)}{ms:ATB MapEntry}(h:WT w own k md kt vt st i es ms):ms.length=es.length:=by
 have:=congrArg List.length h.Amo;simpa using this
theorem WT.get:∀{i:Nat} {es:ATB (kt.V×vt.V)} {ms:ATB MapEntry} {j:Nat} {x:kt.V×vt.V},WT w own k md kt vt st i es ms->es[j]?=some x ->
    ∃m,ms[j]?=some m/\(m.key=Fx kt x.1/\m.born=i+j)/\(st=some x.1\/∃cs,Uy w own k md vt (i+j) x.2 cs/\Cq vt.isAgg cs m.val)
 |i,x::xs,_,0,y,⟨m,r,e,h1,h2,h3⟩,hj=>by
  grind
 |i,x::xs,_,j+1,y,⟨m,r,e,h1,h2,h3⟩,hj=>by
  subst e;obtain⟨m',h4,h5,h6⟩:=h3.get (j:=j) (by simpa using hj)
  grind
 |_,[],_,_,_,_,hj=>by grind
theorem WT.mk:∀{i:Nat} {es:ATB (kt.V×vt.V)} {ms:ATB MapEntry},ms.length=es.length->(∀(j:Nat) (x:kt.V×vt.V) (m:MapEntry),es[j]?=some x->ms[j]?=some m->(m.key=Fx kt x.1/\m.born=i+j)/\(st=some x.1\/∃cs,Uy w own k md vt (i+j) x.2 cs/\Cq vt.isAgg cs m.val))->WT w own k md kt vt st i es ms
 |_,[],ms,hl,_=>by
  cases ms with
  |nil=>rfl
  |cons _ _=>grind
 |i,x::xs,[],hl,_=>by grind
 |i,x::xs,m::ms,hl,h=>by
  obtain⟨h1,h2⟩:=h 0 x m rfl rfl;refine⟨m,ms,rfl,h1,h2,WT.mk (by grind) λj y m' hy hm=>?_⟩;have:=h (j+1) y m' (by grind) (by grind)
  grind
end
theorem xf{t:Nat}{ti:TI}(h:Fh P t ti)(w:World):∃z,(zeroValue t).run P w=.ok z w/\Cq ti.ty.isAgg (RS ti.ty) z:=by
 obtain⟨i,z,hi,_,_,hz,oH,ha⟩:=h.info;refine⟨z,by simp[zeroValue,typeInfo,hi,hz],?_⟩;cases hg:ti.ty.isAgg with
 |true =>
  obtain⟨c,rfl⟩:=ha.2 hg;have:c.toList=RS _:=oH;simp[Cq,<-this]
 |false =>
  have hn:∀c,z≠.agg c:=λc e=>by grind
  have:z.cells=#[z]:=by cases z<;>first |rfl |grind
  rw[this]at oH;simp[Cq,<-oH]
theorem c8{w:World}{g:G}{k:Nat}{md:RM}{kt vt:Ty}{st:ATC kt.V}{aE:TypeId}(K:mh P aE kt){es:ATB (kt.V×vt.V)}{HF:Array MapEntry}(hm:WT w g.own k md kt vt st 0 es HF.toList)(key:kt.V) :
    (∃(j:Nat) (x:kt.V×vt.V) (m:MapEntry),es[j]?=some x/\x.1=key/\HF[j]?=some m/\(∀i,i<j->∀y,es[i]?=some y->Bf kt key y.1=false)/\Pf kt vt es key=some x.2/\(∀v,Cf kt vt es key v=es.set j (key,v))/\(st=some x.1\/∃cs,Uy w g.own k md vt j x.2 cs/\Cq vt.isAgg cs m.val)/\(m.key=Fx kt key/\m.born=j) /\
     (Instr.findKey aE (Fx kt key) HF.toList).run P w=.ok (some (j,m.val)) w) \/
    ((∀(i:Nat) y,es[i]?=some y->Bf kt key y.1=false)/\Pf kt vt es key=none/\(∀v,Cf kt vt es key v=es++[(key,v)])/\(Instr.findKey aE (Fx kt key) HF.toList).run P w=.ok none w):=by
 rcases oZ key es with ⟨j,x,h1,h2,h3,h4,h5⟩|⟨h1,h2,h3⟩
 ·obtain⟨m,h6,⟨h7,h7b⟩,h8⟩:=hm.get h1;have eC:j<HF.toList.length:=A5 h6;have hf:=K.find w key (es.map (·.1)) HF.toList hm.Amo j (λi hi y hy=>by
   grind) (λy hy=>by
   grind)
  have hmv:HF.toList[j]=m:=by
   grind
  rw[dif_pos eC,hmv]at hf;have e:=(K.eq _ _ h2).symm
  grind
 ·have hf:=K.find w key (es.map (·.1)) HF.toList hm.Amo es.length (λi hi y hy=>by
    grind) (λy hy=>by
    grind)
  rw[dif_neg (by rw[hm.len];omega)]at hf;exact .inr ⟨h1,h2,h3,hf⟩
theorem jE{w:World}{g:G}{n k:Nat}{v:Value}(h:B5 w g n (.mp k) v):k<n/\∃b,(g.AY k).a=some ⟨b,0,none⟩/\v=.map (some b):=by
 obtain⟨cs,⟨hk,b,hb,e⟩,hv⟩:=B3 rfl rfl h;subst e;exact⟨hk,b,hb,by simpa [AV.isAgg]using hv.symm⟩
theorem wG{t:TypeId}(ho:o.op=.makeMap t none){m:RM}{kt vt:Ty}(hm:m.Cs=[]):Oz P σ o ⟨.mp σ.Aj.length,σ.Aj++[.map m kt vt [] none],[]⟩:=by
 refine⟨by simp,λ_=>⟨_,rfl⟩,λa w g hs next Q hn=>?_⟩
 have hr:(execOp a.eval o).run P w=.ok (.value (.map (some w.heap.size))) (w.alloc (.map #[] 0)):=by
  simp[execOp,ho,Instr.makeMap]
 unfold Oper.wp;rw[hr];have st:=Step.add hs.heap (.map #[] 0) ⟨some ⟨w.heap.size,0,none⟩,0,0,0⟩;refine hn _ _ _ (hs.heap.new ?_) ?_ st
 ·exact⟨(by grind),w.heap.size,#[],0,by simp[G.add],by simp[G.add],heap_alloc_new w _,by simp,rfl⟩
 ·exact Bs  rfl ⟨by simp,w.heap.size,by simp[G.add],rfl⟩ (by simp[Cq,AV.isAgg])
theorem vQ{w:World}{g:G}{k b:Nat}{md:RM}{kt vt:Ty}{st:ATC kt.V}{t aE el:TypeId}{te:TI}(ht:P.underlying t=some (.map aE el))(Ev:Fh P el te)(hvt:vt=te.ty)(hd:te.ty.data=true)(K:mh P aE kt){es:ATB (kt.V×vt.V)}{HF:Array MapEntry}{DW:Nat}(hb:w.heap[b]?=some (.map HF DW))
    (hm:WT w g.own k md kt vt st 0 es HF.toList) (key:kt.V) (ok:Bool):∃v,(Instr.lookup t (.map (some b)) (Fx kt key) ok).run P w=.ok (if ok then .tuple #[v,.bool (Uf kt vt es key)]else v) w /\
     ((∃(j:Nat) (x:kt.V×vt.V) (m:MapEntry),es[j]?=some x/\x.1=key/\HF[j]?=some m/\m.val=v/\Bv kt vt es key=x.2/\(st=some x.1\/∃cs,Uy w g.own k md vt j x.2 cs/\Cq vt.isAgg cs v))\/(Bv kt vt es key=vt.zero/\Cq vt.isAgg (RS vt) v)):=by
 subst hvt;rcases c8 K hm key with ⟨j,x,m,h1,h2,h3,_,h4,_,h5,_,hf⟩|⟨_,h2,_,hf⟩
 ·refine⟨m.val,?_,.inl ⟨j,x,m,h1,h2,h3,rfl,by simp[Bv,h4],h5⟩⟩;cases ok<;>simp[Instr.lookup,underlying,ht,MapKept.run_getObj_map hb,K.check,hf,Uf,h4]
 ·obtain⟨z,hz,hzv⟩:=xf Ev w;refine⟨z,?_,.inr ⟨by simp[Bv,h2],hzv⟩⟩;cases ok<;>simp[Instr.lookup,underlying,ht,MapKept.run_getObj_map hb,K.check,hf,hz,Uf,h2]
theorem AiS{t:TypeId}{m x:Operand}{ok:Bool}(ho:o.op=.lookup t m x ok){ti tk te:TI}(ht:Fh P t ti)(rA:ti.Pg≠0)(Ev:Fh P ti.elem te)(hd:te.ty.data=true)(K:tk.ty.EC=true->mh P ti.Pg tk.ty){z:AV}
    (h:gE σ.Aj tk te ok (σ.Cg m) (σ.Cg x) some=some z):Oz P σ o ⟨z,σ.Aj,[]⟩ :=
 .Jc <| Mb (s:=λρ=>Instr.lookup t (ρ m) (ρ x) ok) (λρ=>by simp[execOp,ho]) λa w g BO=>by
  unfold gE at h;split at h
  ·rename_i k hm;split at h
   ·rename_i md kt vt es hb;split at h
    ·rename_i key hx;split at h
     ·rename_i hc;obtain⟨hkt,hvt,WR⟩:=hc;subst hkt;subst hvt;have hmm:=AU BO m;rw[hm]at hmm;obtain⟨hk,b,OB,tj⟩:=jE hmm;obtain⟨RV,b',HF,DW,ha,Cr,hh,S8,kH⟩:=BO.heap.MG k _ hb;rw[OB]at ha;injection ha with ha;injection ha with ha;subst ha;have kF:=kR BO.heap WR hx (AU BO x);obtain⟨v,hr,df⟩:=vQ (ht.mp rA) Ev rfl hd (K WR) hh kH key ok;have hv:B5 w g σ.Aj.length (.AA (bH (md.own k) te.ty) te.ty (Bv tk.ty te.ty es key)) v:=by
       have mV:∃cs,H7 w (Al g.own (md.own k)) te.ty (Bv tk.ty te.ty es key) cs/\Cq te.ty.isAgg cs v:=by
        rcases df with ⟨j,y,mm,h1,h2,h3,h4,h5,h6⟩|⟨h1,h2⟩
        ·rw[h5];rcases h6 with h6 |⟨cs,h6,h7⟩
         ·grind
         ·refine⟨cs,?_,h7⟩;cases md with
          |Av=>exact Ik.rd (λb q hb=>.mem (AQr) hb) h6
          |sh ks=>exact h6
        ·rw[h1];exact⟨_,H7.zero hd,h2⟩
       obtain⟨cs,h1,h2⟩:=mV;refine Bs rfl (cs:=cs) ⟨λj hj=>?_,?_⟩ h2
       ·unfold bH at hj;split at hj
        ·grind
        ·cases md with
         |Av=>simp[RM.own]at hj;subst hj;exact hk
         |sh ks=>exact RV j hj
       ·unfold bH;split
        ·rename_i hf;exact(H7.BS hf).2 ((H7.BS hf).1 h1)
        ·grind
      cases ok with
      |false =>
       simp only[AQb,APY]at h;subst h;exact⟨v,by grind,hv⟩
      |true =>
       simp only[AQc,APY]at h;subst h;refine⟨_,by grind,[v,.bool (Uf tk.ty te.ty es key)],rfl,v,_,rfl,(B5.iff rfl).1 hv,.bool (Uf tk.ty te.ty es key),[],rfl,?_,rfl⟩;exact(B5.iff rfl).1 (dy _)
     ·grind
    ·grind
   ·grind
  ·grind
theorem AdS{t:TypeId}{m x:Operand}(ho:o.op=.lookup t m x false){ti tk te:TI}(ht:Fh P t ti)(rA:ti.Pg≠0)(Ev:Fh P ti.elem te)(hd:te.ty.data=true)(K:tk.ty.EC=true->mh P ti.Pg tk.ty)
    (h:oU σ.Aj tk te (σ.Cg m) (σ.Cg x) some=some e):Oz P σ o e:=by
 unfold oU at h;split at h
 ·rename_i k hm;split at h
  ·rename_i kt u es hb;split at h
   ·rename_i key hx;split at h
    ·rename_i hc;injection h with h;subst h;obtain⟨hkt,hvt,WR,hu⟩:=hc;subst hkt;refine⟨by simp[AF],λh=>(by cases h),λa w g BO next Q hn=>?_⟩
     have H:=BO.heap;have hmm:=AU BO m;rw[hm]at hmm;obtain⟨hk,b,OB,tj⟩:=jE hmm;obtain⟨RV,b',HF,DW,ha,Cr,hh,S8,kH⟩:=H.MG k _ hb;rw[OB]at ha;injection ha with ha;injection ha with ha;subst ha;have kF:=kR H WR hx (AU BO x);obtain⟨v,hr,df⟩:=vQ (ht.mp rA) Ev hvt hd (K WR) hh kH key false;have El:(execOp a.eval o).run P w=.ok (.value v) w:=by
      simp only[AQM,ARo]at hr;simp[execOp,ho,tj,kF,hr]
     unfold Oper.wp;rw[El];obtain ⟨J,ad,cap,hv,MP,V4⟩:∃(J:Nat) (ad:ATC Addr) (cap:Nat),v=.slice ad (Bv tk.ty (.sl u) es key).length cap/\Ik w g.own k (.sl u) [J] (Bv tk.ty (.sl u) es key) [.slice ad (Bv tk.ty (.sl u) es key).length cap] /\
         ∀(i:Nat) (y:tk.ty.V×(Ty.sl u).V),es[i]?=some y->y.1=key\/i≠J:=by
      rcases df with ⟨j,y,mm,h1,h2,h3,h4,h5,h6⟩|⟨h1,h2⟩
      ·rcases h6 with h6 |⟨cs,h6,h7⟩
       ·cases h6
       ·have h6':Ik w g.own k (.sl u) [j] y.2 cs:=h6;obtain⟨ad,cap,e1,h8⟩:=h6;subst e1;have hv:[Value.slice ad y.2.length cap]=[v]:=h7;injection hv with hv _;refine⟨j,ad,cap,by rw[h5];exact hv.symm,by rw[h5];exact h6',λi z hz=>?_⟩;by_cases hi:i=j
        ·subst hi;rw[h1]at hz;injection hz with hz;subst hz;exact .inl h2
        ·exact .inr hi
      ·have hv:[Value.slice none 0 0]=[v]:=h2;injection hv with hv _;refine⟨es.length,none,0,by rw[h1];exact hv.symm,by rw[h1];exact⟨none,0,rfl,.inl ⟨rfl,rfl⟩⟩,λi z hz=>.inr ?_⟩;have:=A5 hz;omega
     let ys:=Bv tk.ty (.sl u) es key
     let i1:BI:=⟨ad,ys.length,cap,u.size⟩
     let n:=σ.Aj.length
     let g1:=g.kh n k [J] i1
     have st:Step [k] n w g w g1:=lV;have VP:g1.AY n=i1:=by simp[g1,G.kh]
     have mU:k≠n:=by simp only[n];omega
     have oG:((Bd [k] σ.Aj).set k (Blk.map .Av tk.ty (.sl u) es (some key))++[Blk.row 0 .Av u ys]).length=n+1:=by simp[AF,n]
     refine hn v w g1 ?_ ?_ st
     ·refine H.b8 st (λb hb=>by simp[g1,G.kh,H.BZ b hb]) (by rw[oG];exact AQx _) λj y hj=>?_;rw[AQm]at hj;split at hj
      ·rcases Tg hj with ⟨mq,rfl⟩|⟨Ke,hj⟩
       ·rw[mq];have Sr:g1.AY k=g.AY k:=by simp[g1,G.kh,mU]
        refine .inr (.inr ⟨λj hj=>(by cases hj),b,HF,DW,by rw[Sr];exact OB,XD Cr (λhc=>by have:=hc.2;simp at this),hh,S8,WT.mk kH.len λi z mm hz hmz=>?_⟩);obtain⟨m',h1,h2,h3⟩:=kH.get hz;rw[hmz]at h1;injection h1 with h1;subst h1;refine⟨h2,?_⟩;rcases V4 i z hz with h |h
        ·exact .inl (by rw[h])
        ·rcases h3 with h3 |⟨cs,h3,h4⟩
         ·cases h3
         ·refine .inr ⟨cs,?_,h4⟩;rw[AQs]at h3⊢;exact Ik.mono (λb q hb=>⟨XD hb λhc=>by
           obtain⟨s,hs⟩:=hc.2;have:=List.append_inj_right' hs rfl;simp at this;exact h this.symm,rfl⟩) h3
       ·obtain⟨y,hy,rfl⟩:=Dy hj;exact .inr (.inl ⟨by simpa using Ke,y,hy,rfl⟩)
      ·rename_i ZO;simp only[AP5,AF]at hj ZO;have oD:j-σ.Aj.length=0:=by
        rcases AQk (j-σ.Aj.length)with h |h
        ·exact h
        ·rw[AQA (by simp;omega)]at hj;cases hj
       rw[oD]at hj;obtain rfl:j=n:=by simp only[n];omega
       simp only[List.getElem?_cons_zero,APY]at hj;subst hj;refine .inr (.inr ⟨λj hj=>(by cases hj),by rw[VP],by rw[VP],ARL hu,?_⟩);rw[VP];obtain⟨xB,Tp,e3,MP⟩:=MP;injection e3 with e3 _;injection e3 with e3 _ e4;subst e3;subst e4;refine MP.imp id λ⟨b,el,Bq,ds,q1,q2,q3,q4,q5,q6,q7,q8⟩=>⟨b,Bq,ds,q1,ZF (q:=[]) (by simpa using q2),⟨el,.inl rfl,q3⟩,q4,q5,q6,q7,?_⟩;exact q8.mono λi x c r=>r.mono λb q hb=>⟨ZF (by simpa using hb),rfl⟩
     ·rw[oG,hv];exact Bs (cs:=[_]) rfl ⟨AQC _,by rw[VP]⟩ rfl
    ·cases h
   ·cases h
  ·cases h
 ·cases h
theorem AhL{w:World}{g:G}{BJ:ATB Nat}{b k:Nat}{HF:Array MapEntry}{DW:Nat}{ob:Obj}(hh:w.heap[b]?=some (.map HF DW))(ho:g.own b=.BL k [])(hk:k∈BJ):∀q,q<w.heap.size->(∀k p,g.own q=.BL k p->k∉BJ)->({w with heap:=w.heap.setIfInBounds b ob}:World).heap[q]?=w.heap[q]?:=by
 intro q _ hq;exact ARy (λe=>by subst e;exact hq k [] ho hk)
theorem Aww{P:Program}{w:World}{g:G}{bs:ATB Blk}(H:Bi w g bs){t:TypeId}{am ax av:AV}{mv xv vv:Value}(hAm:B5 w g bs.length am mv)(hAx:B5 w g bs.length ax xv)(hAv:B5 w g bs.length av vv){ti tk te:TI}(ht:Fh P t ti)(rA:ti.Pg≠0)(K:tk.ty.EC=true->mh P ti.Pg tk.ty){e:Ij}
    (h:dV bs tk te am ax av some=some e):e.BJ≠[]/\e.Aj.length=bs.length/\e.val=.un 0/\∃w' g',(Instr.mapUpdate t mv xv vv).run P w=.ok () w'/\Bi w' g' e.Aj/\Step e.BJ bs.length w g w' g':=by
 unfold dV at h;split at h
 ·rename_i k;split at h
  ·rename_i md kt vt es st0 hb;split at h
   ·rename_i key y m' rs hx aA;split at h
    ·rename_i hc;obtain⟨hkt,hvt,WR,QW,hrk⟩:=hc;subst hkt;have h':e=⟨.un 0,(Blk.G3 (Bd (k::rs) bs) rs).set k (.map m' tk.ty vt (Cf tk.ty vt es key y) none),k::rs⟩/\(st0=none\/st0=some key):=by
      cases st0 with
      |none=>injection h with h;exact⟨h.symm,.inl rfl⟩
      |some k0 =>
       simp only at h;cases hq:Bf tk.ty k0 key with
       |false=>rw[hq]at h;cases h
       |true =>
        rw[hq,AQc]at h;injection h with h;exact⟨h.symm,.inr (by rw[(K WR).eq _ _ hq])⟩
     obtain⟨rfl,vz⟩:=h';refine⟨by simp,by simp[A7,AF],rfl,?_⟩;have hmm:=hAm;obtain⟨hk,b,OB,tj⟩:=jE hmm;obtain⟨RV,b',HF,DW,ha,Cr,hh,S8,kH⟩:=H.MG k _ hb;rw[OB]at ha;injection ha with ha;injection ha with ha;subst ha;have kF:=kR H WR hx hAx;obtain⟨hy,hrs,AJx,AJu⟩:=QK aA;obtain⟨Y5,Ss⟩:=WH hy;obtain⟨cv,YZ,hvv⟩:=B3 Y5 Ss hAv;rw[bL hy]at hvv;obtain⟨bD,iO⟩:=dU aA;have Yf:=Xj QW;have yT:k∉rs:=by simpa using hrk
     have Bp:b<w.heap.size:=Ve H (by rw[Cr];simp);obtain ⟨J,tX,eR,El,Ahe⟩:∃(J:Nat) (tX:Array MapEntry) (eR:Nat),(Instr.mapUpdate t mv xv vv).run P w=.ok () {w with heap:=w.heap.setIfInBounds b (.map tX eR)} /\
         ((((Cf tk.ty vt es key y).map (·.1)).Nodup/\eR=tX.size)/\tX.toList.length=(Cf tk.ty vt es key y).length/\∀(i:Nat) (z:tk.ty.V×vt.V) (mm:MapEntry),(Cf tk.ty vt es key y)[i]?=some z->tX.toList[i]?=some mm ->
          (i=J/\z=(key,y)/\(mm.key=Fx tk.ty key/\mm.born=i)/\mm.val=vv)\/(i≠J/\es[i]?=some z/\HF.toList[i]?=some mm/\st0≠some z.1)):=by
      have hu:=ht.mp rA;have Y3:∀z:tk.ty.V,Bf tk.ty key z=false->st0≠some z:=λz hz e=>by
       rcases vz with h |h
       ·rw[h]at e;cases e
       ·rw[h]at e;injection e with e;subst e;rw[XL WR]at hz;cases hz
      rcases c8 (K WR) kH key with ⟨j,z,mm,h1,h2,h3,h4,h5,h6,h7,⟨h8,h8b⟩,hf⟩|⟨h1,h2,h3,hf⟩
      ·refine⟨j,HF.modify j λe=>{e with key:=Fx tk.ty key,val:=vv},DW,?_,?_⟩
       ·rw[tj,kF];simp[Instr.mapUpdate,underlying,hu,MapKept.run_getObj_map hh,(K WR).check,hf,h3,h8,(K WR).stays,MapKept.run_setObj_map _ hh]
       ·rw[h6 y];have hl:HF.toList.length=es.length:=kH.len;refine⟨⟨by
         rw[List.map_set];have:(es.map (·.1)).set j key=es.map (·.1):=by
          have hg:(es.map (·.1))[j]?=some key:=by rw[AQp,h1,<-h2];rfl
          apply AQ2;intro i;rw[AQl];split
          ·rename_i e;subst e;rw[AQe (A5 hg),hg]
          ·rfl
         rw[this];exact S8.1,by simp[S8.2]⟩,by simpa using hl,λi z' m2 hz S7=>?_⟩
        rw[AQa,ARf]at S7;rw[AQl]at hz;by_cases vg:j=i
        ·subst vg;have eC:=A5 h1;simp only[AQJ,eC]at hz;injection hz with hz;simp only[AQJ,h3,Option.map_some,APY]at S7;subst S7;exact .inl ⟨rfl,hz.symm,⟨rfl,h8b⟩,rfl⟩
        ·simp only[AQf vg]at hz S7;refine .inr ⟨λe=>vg e.symm,hz,by rw[AQa];exact S7,?_⟩;intro e;rcases vz with h |h
         ·rw[h]at e;cases e
         ·rw[h]at e;injection e with e;have g1:(es.map (·.1))[j]?=some key:=by rw[AQp,h1,<-h2];rfl
          have g2:(es.map (·.1))[i]?=some key:=by rw[AQp,hz,e];rfl
          exact vg ((List.getElem?_inj (A5 g1) S8.1).1 (g1.trans g2.symm))
      ·refine⟨es.length,HF.push {key:=Fx tk.ty key,val:=vv,born:=DW},DW+1,?_,?_⟩
       ·rw[tj,kF];simp[Instr.mapUpdate,underlying,hu,MapKept.run_getObj_map hh,(K WR).check,hf,MapKept.run_setObj_map _ hh]
       ·rw[h3 y];have hl:HF.toList.length=es.length:=kH.len;refine⟨⟨by
         rw[AQG,AR0];refine⟨S8.1,by simp,λa ha b hb=>?_⟩;simp at hb;subst hb
         rintro rfl
         obtain⟨z,hz,rfl⟩:=List.mem_map.1 ha;obtain⟨i,hi⟩:=List.getElem?_of_mem hz;have:=h1 i z hi;rw[XL WR]at this;exact Bool.noConfusion this,by simp[S8.2]⟩,by simpa using hl,λi z' m2 hz S7=>?_⟩
        rw[Array.toList_push]at S7;by_cases hi:i<es.length
        ·rw[AQj hi]at hz;rw[AQj (by rw[hl];exact hi)]at S7;exact .inr ⟨by omega,hz,S7,Y3 _ (h1 i z' hz)⟩
        ·have tm:=A5 hz;rw[AP0,AQg]at tm;obtain rfl:i=es.length:=by omega
         simp at hz;rw[<-hl]at S7;simp at S7;subst S7;subst hz;exact .inl ⟨rfl,rfl,⟨rfl,by show DW=es.length;rw[S8.2,<-hl];simp⟩,rfl⟩
     obtain⟨AJw,Aba,Ahe⟩:=Ahe
     let w':World:={w with heap:=w.heap.setIfInBounds b (.map tX eR)}
     let M:=Lj av [J]
     have yP:M.map (·.1)=rs:=by rw[hrs];exact GR _ _
     let f:=Xv md k M
     let g':=g.VQ f none bs.length ⟨none,0,0,0⟩
     have vr:∀b' r,g.own b'=.BL k r->g'.own b'=.BL k r:=λb' r h=>by
      have:=I0 (f:=f) (ob:=none) (n:=bs.length) (i:=⟨none,0,0,0⟩) (by simp) h;rw[this];exact Qq (by rw[yP];exact yT)
     have MQ:w'.heap.size=w.heap.size:=by simp[w']
     have st:Step (k::rs) bs.length w g w' g':=Step.VQ H.BZ rfl rfl rfl (by rw[MQ];exact AP2 _) (AhL hh Cr (by simp)) (λq h=>by cases h) (AP2 _) λj r _ hm =>
      Qq (by rw[yP];exact λh=>hm (AQo _ h))
     have AvO:∀b',b'≠b->w'.heap[b']?=w.heap[b']?:=λb' h=>ARy (Ne.symm h);have Ahm:∀b' j r,g.own b'=.BL j r->j≠k->w'.heap[b']?=w.heap[b']?:=λb' j r h hj=>AvO b' λe=>by subst e;rw[Cr]at h;injection h with h;exact hj h.symm
     have Ahn:∀b' q,g.own b'=.BL k q->q≠[]->w'.heap[b']?=w.heap[b']?:=λb' q h hq=>AvO b' λe=>by subst e;rw[Cr]at h;injection h with _ h;exact hq h.symm
     have vp:∀b',g.own b'=.Jb->w'.heap[b']?=w.heap[b']?:=λb' h=>AvO b' λe=>by subst e;rw[Cr]at h;cases h
     have hon:∀(i':Nat) (x:vt.V) (c:ATB Value),Uy w g.own k md vt i' x c->Uy w' g'.own k m' vt i' x c:=by
      intro i' x c VR;refine VR.on ?_;rcases AJu with ⟨rfl,rfl,_⟩|⟨ks,rfl,rfl⟩
      ·exact λb' q h=>⟨vr b' _ h,Ahn b' _ h (by simp)⟩
      ·intro b' h;rcases h with h |⟨j,hj,r,h⟩
       ·exact⟨.inl (Wq (by simp) h),vp b' h⟩
       ·have vi:=bD j hj;have mq:=Yf j vi;exact⟨.inr ⟨j,vi,r,by
         have:=I0 (f:=f) (ob:=none) (n:=bs.length) (i:=⟨none,0,0,0⟩) (by simp) h;rw[this];exact Qq (by rw[yP];exact λh=>mq (AQo _ h))⟩,Ahm b' j r h λe=>mq (by simp[e])⟩
     have bB:InR w' g'.own k m' vt [J] y cv:=by
      refine sK H aA YZ (M:=M) (λjq hj=>dq (by rw[GR];exact AJx) hj) (λ_ h=>h) (λj hj=>UV (by rw[yP];exact λh=>Yf j hj (AQo _ h))) iO
       (λb' j r h _=>I0 (by simp) h) (λb' h=>Wq (by simp) h) λb' h=>?_
      rcases h with h |⟨j,r,h,hj⟩
      ·exact vp b' h
      ·refine Ahm b' j r h λe=>?_;subst e;rcases hj with hj |hj
       ·rw[yP]at hj;exact yT hj
       ·exact Yf j hj (by simp)
     have AF9:Uy w' g'.own k m' vt J y cv:=by
      cases m' with
      |Av=>exact bB
      |sh ks=>exact bB
     refine⟨w',g',El,H.b8 st (Nr H.BZ (by rw[MQ];exact AP2 _) (λq h=>by cases h)) (by simp[A7,AF]) λj z hj=>?_,st⟩;rcases Tg hj with ⟨mq,rfl⟩|⟨Ke,hj⟩
     ·rw[mq];have Sr:g'.AY k=g.AY k:=st.AY k hk;refine .inr (.inr ⟨by simpa [A7,AF]using sL H aA YZ RV,b,tX,eR,by rw[Sr];exact OB,vr b [] Cr,by simp[w',Bp],AJw,WT.mk Aba λi z mm hz hmz=>?_⟩);rw[AQs];rcases Ahe i z mm hz hmz with ⟨rfl,rfl,h3,h4⟩|⟨h1,h2,h3,h4⟩
      ·exact⟨h3,.inr ⟨cv,AF9,by rw[h4];exact hvv⟩⟩
      ·obtain⟨m2,h5,h6,h7⟩:=kH.get h2;rw[h3]at h5;injection h5 with h5;subst h5;rw[AQs]at h6;refine⟨h6,?_⟩;rcases h7 with h7 |⟨cs,h7,h8⟩
       ·exact(h4 h7).elim
       ·rw[AQs]at h7;exact .inr ⟨cs,hon _ _ _ h7,h8⟩
     ·rcases Lh hj with h |⟨rr,h⟩
      ·exact .inl h
      ·obtain⟨y',iV,rfl⟩:=Dy h;exact .inr (.inl ⟨by simp only[ARC,not_or];exact⟨Ke,rr⟩,y',iV,rfl⟩)
    ·cases h
   ·cases h
  ·cases h
 ·cases h
theorem l7{bs:ATB Blk}{tk te:TI}{am ax av:AV}{e:Ij}(h:dV bs tk te am ax av some=some e):e.BJ≠[]/\e.Aj.length=bs.length:=by
 unfold dV at h;split at h
 ·split at h
  ·split at h
   ·split at h
    ·split at h
     ·injection h with h;subst h;exact⟨by simp,by simp[A7,AF]⟩
     ·rename_i y0 _;generalize Bf _ y0 _=q at h;cases q with
      |false=>cases h
      |true=>injection h with h;subst h;exact⟨by simp,by simp[A7,AF]⟩
    ·cases h
   ·cases h
  ·cases h
 ·cases h
theorem AbC{t:TypeId}{m x v:Operand}(ho:o.op=.mapUpdate t m x v\/o.op=.insert t m x v){ti tk te:TI}(ht:Fh P t ti)(rA:ti.Pg≠0)(K:tk.ty.EC=true->mh P ti.Pg tk.ty)
    (h:dV σ.Aj tk te (σ.Cg m) (σ.Cg x) (σ.Cg v) some=some e):Oz P σ o e:=by
 obtain⟨s1,s2⟩:=l7 h;refine⟨by rw[s2];exact AP2 _,λh=>(s1 h).elim,λa w g BO next Q hn=>?_⟩
 ·obtain⟨h1,h2,h3,w',g',El,hH,st⟩:=Aww BO.heap (AU BO m) (AU BO x) (AU BO v) ht rA K h;have ay:(execOp a.eval o).run P w=.ok .skip w':=by
   rcases ho with ho |ho<;>simp[execOp,ho,El]
  unfold Oper.wp;rw[ay];exact hn undef w' g' hH (by rw[h3];exact RQ) st
theorem Aog{w:World}{g:G}{bs:ATB Blk}(H:Bi w g bs){k:Nat}{kt u:Ty}{es:ATB (kt.V×(Ty.sl u).V)}(hb:bs[k]?=some (.map .Av kt (.sl u) es none))(hu:u.size≠0){J:Nat}{key:kt.V}{ys:(Ty.sl u).V}(hJ:es[J]?=some (key,ys)){b:Nat}(OB:(g.AY k).a=some ⟨b,0,none⟩)
    {HF:Array MapEntry} {DW:Nat} (hh:w.heap[b]?=some (.map HF DW)) {mm:MapEntry} (hm:HF[J]?=some mm) :
    mm.born=J/\DW=HF.size/\∃g1,Bi w g1 ((Bd [k] bs).set k (.map .Av kt (.sl u) es (some key))++[.row 0 .Av u ys])/\Step [k] bs.length w g w g1/\B5 w g1 (bs.length+1) (.AH bs.length) mm.val/\g1.AY k=g.AY k:=by
 have hk:=A5 hb;obtain⟨RV,b',tX,eR,ha,Cr,hh',S8,kH⟩:=H.MG k _ hb;rw[OB]at ha;injection ha with ha;injection ha with ha;subst ha;rw[hh]at hh';injection hh' with hh';injection hh' with e1 e2;subst e1;subst e2;obtain⟨m',q1,⟨_,q2⟩,q3⟩:=kH.get hJ;rw[AQa,hm]at q1;injection q1 with q1;subst q1;rw[AQs]at q2 q3;refine⟨q2,S8.2,?_⟩;obtain⟨ad,cap,hv,MP⟩:∃(ad:ATC Addr) (cap:Nat),mm.val=.slice ad ys.length cap/\Ik w g.own k (.sl u) [J] ys [.slice ad ys.length cap]:=by
  rcases q3 with h6 |⟨cs,h6,h7⟩
  ·cases h6
  ·have h6':Ik w g.own k (.sl u) [J] ys cs:=h6;obtain⟨ad,cap,e1,h8⟩:=h6;subst e1;have hv:[Value.slice ad ys.length cap]=[mm.val]:=h7;injection hv with hv _;exact⟨ad,cap,hv.symm,h6'⟩
 let i1:BI:=⟨ad,ys.length,cap,u.size⟩
 let n:=bs.length
 let g1:=g.kh n k [J] i1
 have st:Step [k] n w g w g1:=lV;have VP:g1.AY n=i1:=by simp[g1,G.kh]
 have mU:k≠n:=by simp only[n];omega
 have Sr:g1.AY k=g.AY k:=by simp[g1,G.kh,mU]
 have oG:((Bd [k] bs).set k (Blk.map .Av kt (.sl u) es (some key))++[Blk.row 0 .Av u ys]).length=n+1:=by simp[AF,n]
 refine⟨g1,?_,st,?_,Sr⟩
 ·refine H.b8 st (λb hb=>by simp[g1,G.kh,H.BZ b hb]) (by rw[oG];exact AQx _) λj y hj=>?_;rw[AQm]at hj;split at hj
  ·rcases Tg hj with ⟨mq,rfl⟩|⟨Ke,hj⟩
   ·rw[mq];refine .inr (.inr ⟨λj hj=>(by cases hj),b,HF,DW,by rw[Sr];exact OB,XD Cr (λhc=>by have:=hc.2;simp at this),hh,S8,WT.mk kH.len λi z mm hz hmz=>?_⟩);obtain⟨m',h1,h2,h3⟩:=kH.get hz;rw[hmz]at h1;injection h1 with h1;subst h1;refine⟨h2,?_⟩;by_cases hi:i=J
    ·subst hi;rw[hJ]at hz;injection hz with hz;subst hz;exact .inl rfl
    ·rcases h3 with h3 |⟨cs,h3,h4⟩
     ·cases h3
     ·refine .inr ⟨cs,?_,h4⟩;rw[AQs]at h3⊢;exact Ik.mono (λb q hb=>⟨XD hb λhc=>by
       obtain⟨s,hs⟩:=hc.2;have:=List.append_inj_right' hs rfl;simp at this;exact hi this.symm,rfl⟩) h3
   ·obtain⟨y,hy,rfl⟩:=Dy hj;exact .inr (.inl ⟨by simpa using Ke,y,hy,rfl⟩)
  ·rename_i ZO;simp only[AP5,AF]at hj ZO;have oD:j-bs.length=0:=by
    rcases AQk (j-bs.length)with h |h
    ·exact h
    ·rw[AQA (by simp;omega)]at hj;cases hj
   rw[oD]at hj;obtain rfl:j=n:=by simp only[n];omega
   simp only[List.getElem?_cons_zero,APY]at hj;subst hj;refine .inr (.inr ⟨λj hj=>(by cases hj),by rw[VP],by rw[VP],ARL hu,?_⟩);rw[VP];obtain⟨xB,Tp,e3,MP⟩:=MP;injection e3 with e3 _;injection e3 with e3 _ e4;subst e3;subst e4;refine MP.imp id λ⟨b,el,Bq,ds,q1,q2,q3,q4,q5,q6,q7,q8⟩=>⟨b,Bq,ds,q1,ZF (q:=[]) (by simpa using q2),⟨el,.inl rfl,q3⟩,q4,q5,q6,q7,?_⟩;exact q8.mono λi x c r=>r.mono λb q hb=>⟨ZF (by simpa using hb),rfl⟩
 ·rw[hv];exact Bs (cs:=[_]) rfl ⟨AQC _,by rw[VP]⟩ rfl
end
theorem Nn(Yc:Nat->Bool):∀a:AV,(a.drop Yc).drop Yc=a.drop Yc
 |.AA ks t x=>by
  simp only[AV.drop];split
  ·rfl
  ·rename_i h;simp only[AV.drop,AQf h]
 |.Fw ks t x=>by
  simp only[AV.drop];split
  ·rfl
  ·rename_i h;simp only[AV.drop,AQf h]
 |.UI k i p o e=>by
  simp only[AV.drop];split
  ·rfl
  ·rename_i h;simp only[AV.drop,AQf h]
 |.WE k i p o j u=>by
  simp only[AV.drop];split
  ·rfl
  ·rename_i h;simp only[AV.drop,AQf h]
 |.pr a b=>by simp only[AV.drop,Nn Yc a,Nn Yc b]
 |.fn f c=>by simp only[AV.drop,Nn Yc c]
 |.cons a b=>by simp only[AV.drop,Nn Yc a,Nn Yc b]
 |.zs=>rfl
 |.AH _=>rfl
 |.ptr _ _ _ _=>rfl
 |.M8=>rfl
 |.nil=>rfl
 |.mp _=>rfl
 |.un _=>rfl
theorem mD(Yc:Nat->Bool):∀b:Blk,(b.drop Yc).drop Yc=b.drop Yc
 |.box a=>by simp only[Blk.drop,Nn]
 |.row e m t xs=>by cases h:m.Cs.any Yc<;>simp[Blk.drop,h]
 |.map m kt vt es st=>by cases h:m.Cs.any Yc<;>simp[Blk.drop,h]
 |.R1 _ _ _ _ _=>rfl
 |.tail _ _ _=>rfl
 |.Ba=>rfl
theorem mF{bs:ATB Blk}{k:Nat}{X Y:Blk}:(Bd [k] ((Blk.G3 (Bd [k] bs) []).set k X)).set k Y=(Bd [k] bs).set k Y:=by
 apply AQ2;intro i;by_cases h:i=k
 ·subst h;simp only[AQl];simp[AF,A7]
 ·have h' :=Ne.symm h;rw[AR6 h',AR6 h'];unfold Bd;rw[AQp,AR6 h'];unfold Blk.G3;simp;cases bs[i]? with
  |none=>simp
  |some y=>simp[mD]
section
variable {kt vt:Ty}
theorem rW{k:kt.V}:∀{es:ATB (kt.V×vt.V)} {j:Nat} {x:kt.V×vt.V},es[j]?=some x->Bf kt k x.1=true->(∀i,i<j->∀y,es[i]?=some y->Bf kt k y.1=false)->Yz kt vt es k=j
 |y::r,0,x,h,he,_=>by
  simp at h;subst h;unfold Yz;rw[he];rfl
 |y::r,j+1,x,h,he,hn=>by
  unfold Yz;rw[hn 0 (by omega) y rfl,AQb,rW  (j:=j) (by grind) he λi hi z hz=>hn (i+1) (by omega) z (by grind)]
 |[],_,_,h,_,_=>by grind
theorem vU{k:kt.V}:∀{es:ATB (kt.V×vt.V)},(∀(i:Nat) y,es[i]?=some y->Bf kt k y.1=false)->Yz kt vt es k=es.length
 |[],_=>rfl
 |y::r,h=>by
  unfold Yz;rw[h 0 y rfl,vU  λi z hz=>h (i+1) z (by grind)];rfl
theorem wz{HF:Array MapEntry}{j:Nat}{m:MapEntry}{v:Value}(h:HF[j]?=some m)(hk:m.key=v):HF.modify j (λe=>{e with key:=v})=HF:=by
 apply Array.ext_getElem?;intro i;rw[ARf];split
 ·rename_i e;subst e;rw[h];simp[<-hk]
 ·rfl
theorem AdD{w:World}{b:Nat}{o:Obj}(h:w.heap[b]?=some o):({w with heap:=w.heap.setIfInBounds b o}:World)=w:=by
 have:w.heap.setIfInBounds b o=w.heap:=by
  grind
 rw[this]
theorem AIJ{P:Program}{w:World}{g:G}{bs:ATB Blk}(H:Bi w g bs){k:Nat}{u:Ty}{tk:TI}{es:ATB (tk.ty.V×(Ty.sl u).V)}(hb:bs[k]?=some (.map .Av tk.ty (.sl u) es none)){ax:AV}{key:tk.ty.V}(hx:rd bs tk.ty ax=some key){mv xv:Value}(hAm:B5 w g bs.length (.mp k) mv)(hAx:B5 w g bs.length ax xv)
    {t:TypeId} {ti te:TI} (ht:Fh P t ti) (rA:ti.Pg≠0) (Ev:Fh P ti.elem te) (hvt:.sl u=te.ty) (WR:tk.ty.EC=true) (hu:u.size≠0) (K:tk.ty.EC=true->mh P ti.Pg tk.ty) :
    ∃v w' g',(Instr.mapEntry t mv xv).run P w=.ok (.tuple #[v,.int .i64 (Yz tk.ty (.sl u) es key:Nat)]) w' /\
     Bi w' g' ((Bd [k] bs).set k (.map .Av tk.ty (.sl u) (Cf tk.ty (.sl u) es key (Bv tk.ty (.sl u) es key)) (some key))++[.row 0 .Av u (Bv tk.ty (.sl u) es key)])/\B5 w' g' (bs.length+1) (.AH bs.length) v/\Step [k] bs.length w g w' g':=by
 obtain⟨hk,b,OB,tj⟩:=jE hAm;obtain⟨RV,b',HF,DW,ha,Cr,hh,S8,kH⟩:=H.MG k _ hb;rw[OB]at ha;injection ha with ha;injection ha with ha;subst ha;have kF:=kR H WR hx hAx;have Ss:=ht.mp rA;have hl:HF.toList.length=es.length:=kH.len;rcases c8 (K WR) kH key with ⟨j,x,m,h1,h2,h3,h4,h5,h6,h7,⟨h8,h8b⟩,hf⟩|⟨h1,h2,h3,hf⟩
 ·have hJ:es[j]?=some (key,x.2):=by rw[h1,<-h2]
  obtain⟨u9,ANO,g1,H1,st,hav,_⟩:=Aog H hb hu hJ OB hh h3;have hg:Bv tk.ty (.sl u) es key=x.2:=by unfold Bv;rw[h5];rfl
  have hp:Cf tk.ty (.sl u) es key x.2=es:=by
   rw[h6];apply AQ2;intro i;rw[AQl];split
   ·rename_i e;subst e;rw[AQe (A5 hJ),hJ]
   ·rfl
  have vo:Yz tk.ty (.sl u) es key=j:=rW hJ (XL WR) h4;refine⟨m.val,w,g1,?_,by rw[hg,hp];exact H1,hav,st⟩;rw[tj,kF];have hw:=AdD (o:=.map (HF.modify j λe=>{e with key:=Fx tk.ty key}) DW) (by rw[wz h3 h8];exact hh);simp[Instr.mapEntry,underlying,Ss,MapKept.run_getObj_map hh,(K WR).check,hf,h3,h8,(K WR).stays,MapKept.run_setObj_map _ hh,hw,vo,u9,goInt]
 ·obtain⟨z,hz,hzv⟩:=xf Ev w;rw[<-hvt]at hzv;have hzs:z=.slice none 0 0:=by
   have:[Value.slice none 0 0]=[z]:=hzv;injection this with h _;exact h.symm
  subst hzs;have hg:Bv tk.ty (.sl u) es key=[]:=by unfold Bv;rw[h2];rfl
  have vo:Yz tk.ty (.sl u) es key=es.length:=vU h1;have hA0:B5 w g bs.length .zs (.slice none 0 0):=Bs (cs:=[_]) rfl ⟨none,rfl⟩ rfl;have AJY:dV bs tk te (.mp k) ax .zs some=some ⟨.un 0,(Blk.G3 (Bd [k] bs) []).set k (.map .Av tk.ty (.sl u) (Cf tk.ty (.sl u) es key []) none),[k]⟩:=by
   have aA:take bs .Av (.sl u) .zs=some ([],.Av,[]):=by simp[take,rd,AV.R5,AV.YV,nodup]
   unfold dV;simp only[hb,hx,aA];rw[AQe ⟨trivial,hvt,WR,by rfl,by rfl⟩]
  obtain⟨_,_,_,w',g',El,H',st'⟩:=Aww H hAm hAx hA0 ht rA K AJY;have hw:w'={w with heap:=w.heap.setIfInBounds b (.map (HF.push {key:=Fx tk.ty key,val:=.slice none 0 0,born:=DW}) (DW+1))}:=by
   rw[tj,kF]at El;simp[Instr.mapUpdate,underlying,Ss,MapKept.run_getObj_map hh,(K WR).check,hf,MapKept.run_setObj_map _ hh]at El;exact El.symm
  have Bp:b<w.heap.size:=Ve H (by rw[Cr];simp);have hb':((Blk.G3 (Bd [k] bs) []).set k (Blk.map .Av tk.ty (.sl u) (Cf tk.ty (.sl u) es key []) none))[k]?=some (.map .Av tk.ty (.sl u) (Cf tk.ty (.sl u) es key []) none):=by
   rw[List.getElem?_set_self (by simpa [A7,AF]using hk)]
  have hJ:(Cf tk.ty (.sl u) es key [])[es.length]?=some (key,[]):=by rw[h3];simp
  have AI0:(g'.AY k).a=some ⟨b,0,none⟩:=by rw[st'.AY k hk];exact OB
  have hh':w'.heap[b]?=some (.map (HF.push {key:=Fx tk.ty key,val:=.slice none 0 0,born:=DW}) (DW+1)):=by
   rw[hw];simp[Bp]
  have MQ:HF.size=es.length:=by rw[<-hl];simp
  have hm:(HF.push {key:=Fx tk.ty key,val:=.slice none 0 0,born:=DW})[es.length]?=some {key:=Fx tk.ty key,val:=.slice none 0 0,born:=DW}:=by
   rw[<-MQ];simp
  obtain⟨u9,_,g1,H1,Se,hav,_⟩:=Aog H' hb' hu hJ AI0 hh' hm;have oE:((Blk.G3 (Bd [k] bs) []).set k (Blk.map .Av tk.ty (.sl u) (Cf tk.ty (.sl u) es key []) none)).length=bs.length:=by simp[A7,AF]
  rw[oE]at hav Se;rw[mF]at H1;have Qp:=st'.trans Se (AP2 _);refine⟨.slice none 0 0,w',g1,?_,by rw[hg];exact H1,hav,⟨Qp.os,Qp.tape,Qp.output,Qp.size,Qp.no,Qp.Jb,λb k' p h1 h2 h3=>Qp.BL b k' p h1 h2 (by simpa using h3),Qp.AY⟩⟩;have u9:DW=es.length:=u9;rw[tj,kF,hw];simp[Instr.mapEntry,underlying,Ss,MapKept.run_getObj_map hh,(K WR).check,hf,hz,MapKept.run_setObj_map _ hh,vo,u9,goInt]
variable {P:Program} {σ:St} {o:Oper} {en:GV} {e:Ij}
theorem AmK{t:TypeId}{m x:Operand}(ho:o.op=.mapEntry t m x){ti tk te:TI}(ht:Fh P t ti)(rA:ti.Pg≠0)(Ev:Fh P ti.elem te)(K:tk.ty.EC=true->mh P ti.Pg tk.ty)
    (h:AcG σ.Aj tk te (σ.Cg m) (σ.Cg x) some=some e):Oz P σ o e:=by
 unfold AcG at h;split at h
 ·rename_i k hm;split at h
  ·rename_i kt u es hb;split at h
   ·rename_i key hx;split at h
    ·rename_i hc;obtain⟨rfl,hvt,WR,hu⟩:=hc;injection h with h;subst h;refine⟨by simp[AF],λh=>(by grind),λa w g BO next Q hn=>?_⟩
     have hAm:=AU BO m;rw[hm]at hAm;obtain⟨v,w',g',El,hH,hav,st⟩:=AIJ BO.heap hb hx hAm (AU BO x) ht rA Ev hvt WR hu K;have ay:(execOp a.eval o).run P w=.ok (.value (.tuple #[v,.int .i64 (Yz _ _ es key)])) w':=by
      simp[execOp,ho,El]
     unfold Oper.wp;rw[ay];have VS:((Bd [k] σ.Aj).set k (Blk.map .Av _ _ (Cf _ _ es key (Bv _ _ es key)) (some key))++[Blk.row 0 .Av u (Bv _ _ es key)]).length=σ.Aj.length+1:=by simp[AF]
     refine hn _ w' g' hH ?_ st;rw[VS];have hr:=(B5.iff  rfl).1 hav;exact⟨[v,.int .i64 _],rfl,v,[.int .i64 _],rfl,hr,_,[],rfl,.inr ⟨[.int .i64 _],⟨λ_ h=>(by grind),rfl⟩,rfl⟩,rfl⟩
    ·grind
   ·grind
  ·grind
 ·grind
theorem Aks{w:World}{g:G}{n:Nat}:∀{kt:Ty} {x:kt.V},kt.EC=true->B5 w g n (.AA [] kt x) (Fx kt x):=by
 intro kt x hk;have key:∀cs,H7 w (Al g.own []) kt x cs->Cq kt.isAgg cs (Fx kt x)->B5 w g n (.AA [] kt x) (Fx kt x):=λcs h1 h2=>Bs (cs:=cs) rfl ⟨λ_ h=>(by cases h),h1⟩ h2
 match kt,x,hk with
 |.int q,x,_=>exact key [.int q x] rfl rfl
 |.str,x,_=>exact key [.string x] rfl rfl
 |.AE (.int q) (.AE (.int q') .unit),x,_=>exact key [.int q x.1,.int q' x.2.1] ⟨[_],[_],rfl,rfl,[_],[],rfl,rfl,rfl⟩ rfl
theorem AiN{t:TypeId}{m j v:Operand}(ho:o.op=.entryStore t m j v){ti tk te:TI}(ht:Fh P t ti)(rA:ti.Pg≠0)(K:tk.ty.EC=true->mh P ti.Pg tk.ty)
    (h:AcH σ.Aj tk te (σ.Cg m) (σ.Cg j) (σ.Cg v) some=some e):Oz P σ o e:=by
 unfold AcH at h;split at h
 ·rename_i k hm;split at h
  ·rename_i md kt vt es key hb;split at h
   ·rename_i n hj;split at h
    ·rename_i hc;obtain⟨hkt,WR⟩:=hc;subst hkt;obtain⟨hn,hmh,h⟩:n=Int.ofNat (Yz tk.ty vt es key)/\Uf tk.ty vt es key=true/\dV σ.Aj tk te (σ.Cg m) (.AA [] tk.ty key) (σ.Cg v) some=some e:=by
      cases hq:W2 tk.ty vt es key n with
      |false=>rw[hq]at h;cases h
      |true =>
       rw[hq,AQc]at h;simp only[W2,AP3,AQ8]at hq;exact⟨hq.1,hq.2,h⟩
     obtain⟨s1,s2⟩:=l7 h;refine⟨by rw[s2];exact AP2 _,λh=>(s1 h).elim,λa w g BO next Q hnx=>?_⟩
     have hAm:=AU BO m;rw[hm]at hAm h;obtain⟨h1,h2,h3,w',g',El,hH,st⟩:=Aww BO.heap hAm (Aks WR) (AU BO v) ht rA K h;obtain⟨hk,b,OB,tj⟩:=jE hAm;obtain⟨RV,b',HF,DW,ha,Cr,hh,S8,kH⟩:=BO.heap.MG k _ hb;rw[OB]at ha;injection ha with ha;injection ha with ha;subst ha;have hjv:a.eval j=.int .i64 n:=kR (kt:=.int .i64) BO.heap rfl hj (AU BO j);have Ss:=ht.mp rA;have ay:(execOp a.eval o).run P w=.ok .skip w':=by
      rcases c8 (K WR) kH key with ⟨J,x,mm,uX,h2',h3',uY,h5',h6',h7',⟨h8,h8b⟩,hf⟩|⟨_,h2',_,_⟩
      ·have hJ:es[J]?=some (key,x.2):=by rw[uX,<-h2']
       have vo:Yz tk.ty vt es key=J:=rW hJ (XL WR) uY;rw[vo]at hn;rw[tj]at El;simp[Instr.mapUpdate,underlying,Ss,MapKept.run_getObj_map hh,(K WR).check,hf,h3',h8,(K WR).stays,MapKept.run_setObj_map _ hh]at El;have hJl:J<HF.size:=by
        have:=A5 (show HF.toList[J]?=some mm by rw[AQa];exact h3');simpa using this
       have AJi:HF.findIdx? (λe=>(e.born:Int)==n)=some J:=by
        rw[Array.findIdx?_eq_some_iff_getElem];have hbn:∀i (h:i<HF.size),HF[i].born=i:=λi hi=>by
         have tm:i<es.length:=by rw[<-kH.len];simpa using hi
         obtain⟨m',q1,⟨_,q2⟩,_⟩:=kH.get (AQ7 tm);rw[AQa,AQQ hi]at q1;injection q1 with q1;rw[q1,q2];omega
        refine⟨hJl,by rw[hbn,hn];simp,λi hi=>?_⟩;rw[hbn,hn];simp;omega
       have Ahl:HF.modify J (λe=>{e with val:=a.eval v})=HF.modify J (λe=>{e with key:=Fx tk.ty key,val:=a.eval v}):=by
        apply Array.ext_getElem?;intro i;rw[ARf,ARf];split
        ·rename_i e;subst e;rw[h3'];simp[h8]
        ·rfl
       simp[execOp,ho,tj,hjv,Instr.entryStore,asInt,asIntOf,MapKept.run_getObj_map hh,AJi,MapKept.run_setObj_map _ hh,Ahl,El]
      ·simp[Uf,h2']at hmh
     unfold Oper.wp;rw[ay];exact hnx undef w' g' hH (by rw[h3];exact RQ) st
    ·cases h
   ·cases h
  ·cases h
 ·cases h
end
section
variable {P:Program} {σ:St} {o:Oper}
def zx:TypeDesc->Bool
 |.int _=>true
 |.bool=>true
 |.string=>true
 |_=>false
theorem lu{t:TypeId}{d:TypeDesc}(hu:P.underlying t=some d)(hd:zx d=true){w:World}{cs:Array Value}{i:Nat}{v:Value}(h:cs[i]?=some v):(part t cs i).run P w=.ok v w:=by
 cases d<;>simp[zx]at hd<;>simp[part,isAgg,underlying,hu,h]
theorem AaO(d:Nat)(w:World):∀(t:Ty) (p q:ATB Value) (fs:ATB Field) (u v:t.V) (n:Nat),p.length=n->q.length=n->W3 P t n fs=true->(Op.eqFields (d+1) (p++Lc t u).toArray (q++Lc t v).toArray fs).run P w=.ok (OA t u v) w
 |.unit,p,q,[],u,v,n,_,_,_=>by simp[Op.eqFields,OA]
 |.AE a b,p,q,f::fs,u,v,n,hp,hq,h=>by
  simp only[W3,AP3,ARt,AQ8]at h;obtain⟨⟨⟨h1,h2⟩,h3⟩,h4⟩:=h;have key:∀(x y:Value) (r:Bool) (dd:TypeDesc),Lc a u.1=[x]->Lc a v.1=[y]->P.underlying f.type=some dd->zx dd=true ->
      (Op.equalIn (d+1) f.type x y).run P w=.ok r w->r=OA a u.1 v.1->(Op.eqFields (d+1) (p++Lc (.AE a b) u).toArray (q++Lc (.AE a b) v).toArray (f::fs)).run P w=.ok (OA (.AE a b) u v) w:=by
   intro x y r dd hx hy hu hd he hr;have ih:=AaO d w b (p++[x]) (q++[y]) fs u.2 v.2 (n+1) (by simp[hp]) (by simp[hq]) h4;have ex:p++Lc (.AE a b) u=p++[x]++Lc b u.2:=by simp[Lc,hx]
   have ey:q++Lc (.AE a b) v=q++[y]++Lc b v.2:=by simp[Lc,hy]
   rw[ex,ey];have px:(part f.type (p++[x]++Lc b u.2).toArray n).run P w=.ok x w:=lu hu hd (by simp[<-hp]);have py:(part f.type (q++[y]++Lc b v.2).toArray n).run P w=.ok y w:=lu hu hd (by simp[<-hq]);simp only[Op.eqFields,h1,ne_eq,not_false_eq_true,AQJ,Sem.run_bind,h2,px,py,Result.andThen_ok,he];subst hr;cases hq:OA a u.1 v.1 with
   |false=>simp[OA,hq]
   |true=>simp only[AQF,AQM,ARo];rw[ih];simp[OA,hq]
  split at h3
  ·rename_i k k' hu;rw[AQ8]at h3;subst h3;exact key _ _ _ _ rfl rfl hu rfl (gd hu d w _ _) rfl
  ·rename_i hu;exact key _ _ _ _ rfl rfl hu rfl (by simp[Op.equalIn,underlying,hu];rfl) rfl
  ·rename_i hu;exact key _ _ _ _ rfl rfl hu rfl (by simp[Op.equalIn,underlying,hu]) wV.symm
  ·cases h3
 |.unit,_,_,_::_,_,_,_,_,_,h=>by simp[W3]at h
 |.AE _ _,_,_,[],_,_,_,_,_,h=>by simp[W3]at h
 |.int _,_,_,_,_,_,_,_,_,h=>by simp[W3]at h
 |.bool,_,_,_,_,_,_,_,_,h=>by simp[W3]at h
 |.str,_,_,_,_,_,_,_,_,h=>by simp[W3]at h
 |.sl _,_,_,_,_,_,_,_,_,h=>by simp[W3]at h
 |.R4 _,_,_,_,_,_,_,_,_,h=>by simp[W3]at h
theorem om:∀{t:Ty} {n:Nat} {fs:ATB Field},W3 P t n fs=true->t.BS=true/\t.isAgg=true
 |.unit,_,[],_=>⟨rfl,rfl⟩
 |.AE a b,n,f::fs,h=>by
  simp only[W3,AP3]at h;obtain⟨⟨_,h3⟩,h4⟩:=h;have:=(om h4).1;refine⟨?_,rfl⟩;split at h3<;>first |(cases h3;done)|simp[Ty.BS,this]
 |.unit,_,_::_,h=>by simp[W3]at h
 |.AE _ _,_,[],h=>by simp[W3]at h
 |.int _,_,_,h=>by simp[W3]at h
 |.bool,_,_,h=>by simp[W3]at h
 |.str,_,_,h=>by simp[W3]at h
 |.sl _,_,_,h=>by simp[W3]at h
 |.R4 _,_,_,h=>by simp[W3]at h
theorem AmL{D7:Tab}(ht:gP P D7=true){op:BinOp}{t yt:TypeId}{x y:Operand}(ho:o.op=.binOp op t x y yt){z:AV}(h:eqS σ.Aj D7 op t (σ.Cg x) (σ.Cg y)=some z):Oz P σ o ⟨z,σ.Aj,[]⟩ :=
 .Jc <| Mb (s:=λρ=>do eqGuard op t x y (ρ x) (ρ y);binOp op t (ρ x) (ρ y)) (λρ=>by simp[execOp,ho]) λa w g BO=>by
  unfold eqS at h;split at h
  ·rename_i ti hti;split at h
   ·rename_i he;have hT:=Fh.of ht hti;have heq:=hT.eqs he;unfold AgJ at heq;split at heq
    ·rename_i fs hu;simp only[AP3,ARk]at heq;obtain⟨⟨h1,h2⟩,h3⟩:=heq;have hF:P.fieldsOf t=fs:=by simp[Program.fieldsOf,hu]
     obtain⟨AFL,u7⟩:=om h3;have get:∀(X:Operand) (u:ti.ty.V),rd σ.Aj ti.ty (σ.Cg X)=some u->a.eval X=.agg (Lc ti.ty u).toArray:=λX u hr=>by
      obtain⟨q1,q2⟩:=WH hr;obtain⟨cs,S6,hv⟩:=B3 q1 q2 (AU BO X);rw[bL hr,u7]at hv;have:=(H7.BS AFL).1 (Rh BO.heap _ _ u cs hr S6).1;subst this;exact hv
     have run:∀u v:ti.ty.V,(Op.equalIn 10000 t (.agg (Lc ti.ty u).toArray) (.agg (Lc ti.ty v).toArray)).run P w=.ok (OA ti.ty u v) w:=λu v=>by
      rw[show(10000:Nat)=9999+1 from rfl,run_equalIn_struct w 9999 t _ _ (by rw[hF];exact hu) h1,hF];have:=AaO (P:=P) 9998 w ti.ty [] [] fs.toList u v 0 rfl rfl h3;simpa using this
     split at h
     ·split at h
      ·rename_i u v hx hy;injection h with h;subst h;refine⟨.bool (OA ti.ty u v),?_,dy _⟩;simp only[get x u hx,get y v hy,Sem.run_bind,run_eqGuard_agg w .eql t x y _ _ h2,Result.andThen_ok,run_eql_struct,run]
      ·cases h
     ·split at h
      ·rename_i u v hx hy;injection h with h;subst h;refine⟨.bool (!OA ti.ty u v),?_,dy _⟩;simp only[get x u hx,get y v hy,Sem.run_bind,run_eqGuard_agg w .neq t x y _ _ h2,Result.andThen_ok,run_neq_struct,run]
      ·cases h
     ·cases h
    ·cases heq
   ·cases h
  ·cases h
end
structure EnvOk (P:Program) (en:GV):Prop where
 D7:gP P en.D7=true
 fns:∀g c,en.fns g=some c->Am P g c
theorem EnvOk.aI{P:Program}{en:GV}(h:EnvOk P en):Z7 en:=λg c hc=>(h.fns g c hc).aI
section
variable {P:Program} {σ:St} {o:Oper} {en:GV} {e:Ij}
theorem EnvOk.t(he:EnvOk P en){t:Nat}{ti:TI}(h:en.D7.get t=some ti):Fh P t ti:=Fh.of he.D7 h
theorem nV{w:World}{g:G}{a:Act}(hs:LC w g σ a):∀(l:ATB Operand),DU w g σ.Aj.length (l.map σ.Cg) (l.map a.eval)
 |[]=>trivial
 |x::l=>⟨AU hs x,nV hs l⟩
theorem nT{w:World}{g:G}{n:Nat}:∀{l k:ATB AV} {xs ys:ATB Value},DU w g n l xs->DU w g n k ys->DU w g n (l++k) (xs++ys)
 |[],_,[],_,_,h=>h
 |_::_,_,_::_,_,h1,h2=>⟨h1.1,nT h1.2 h2⟩
 |[],_,_::_,_,h,_=>h.elim
 |_::_,_,[],_,h,_=>h.elim
theorem Anz{w:World}{g:G}{n:Nat}:∀{a:AV} {vs:ATB Value},CF w g n true a vs->DU w g n (AaJ a) vs
 |.cons a b,_,⟨v,r,e,h1,h2⟩=>by
  subst e;refine⟨?_,Anz h2⟩;have ht:a.Dq=false:=by
   rcases h1 with h |⟨cs,h,_⟩
   ·cases a<;>first |rfl |simp[AV.OL]at h
   ·exact WC h
  exact(B5.iff ht).2 h1
 |.nil,_,h=>by cases h;trivial
 |.UI _ _ _ _ _,_,h=>h.elim
 |.WE _ _ _ _ _ _,_,h=>h.elim
 |.AA _ _ _,_,h=>h.elim
 |.zs,_,h=>h.elim
 |.AH _,_,h=>h.elim
 |.mp _,_,h=>h.elim
 |.ptr _ _ _ _,_,h=>h.elim
 |.Fw _ _ _,_,h=>h.elim
 |.M8,_,h=>h.elim
 |.pr _ _,_,h=>h.elim
 |.fn _ _,_,h=>h.elim
 |.un _,_,h=>h.elim
theorem AiL(he:EnvOk P en){c:Call}(ho:o.op=.call c){fo:Operand}(hc:c.callee=.value fo){g0:Nat}{bf:AV}(hf:σ.Cg fo=.fn g0 bf){ca:Callee}(hg:en.fns g0=some ca)(h:jP ca σ.Aj (Qk σ c.args++AaJ bf) some=some e):Oz P σ o e:=by
 obtain⟨h1,h2,h3⟩:=Acr (he.fns _ _ hg) h;refine⟨h1,h2,λa w g hs next Q hn=>?_⟩
 have hv:=AU hs fo;rw[hf]at hv;obtain⟨cs,⟨vs,e1,hx⟩,S6⟩:=B3 rfl rfl hv;have e2 :=by
  subst e1;simpa [AV.isAgg]using S6.symm
 have hr:(execOp a.eval o).run P w=(callFunc g0 (c.args.toList.map a.eval++vs).toArray).run P w:=by
  have:(c.args.toList.map a.eval++vs).toArray=#[]++c.args.map a.eval++vs.toArray:=by
   simp
  rw[this];simp[execOp,ho,resolve,hc,e2,Deferred.ofValue,invoke]
 unfold Oper.wp;rw[hr];exact h3 w g _ hs.heap (nT (nV hs _) (Anz hx)) o a next Q hn
theorem oi(he:EnvOk P en){ti:TI}(u:Ty)(h:(match en.D7.get ti.elem with |some te=>if ti.Ew=true then some te.ty else none |none=>none)=some u):ti.Ew=true/\∃mr,mr.ty=u/\Fh P ti.elem mr:=by
 split at h
 ·rename_i te Ev;split at h
  ·rename_i Im;injection h with h;exact⟨Im,te,h,he.t Ev⟩
  ·grind
 ·grind
theorem AiO{t:TypeId}{x i:Operand}(ho:o.op=.indexAddr t x i){ti te:TI}(ht:Fh P t ti)(Ev:Fh P ti.elem te)(Im:ti.Ew=true){k:Nat}{i0:Int}{p:ATB Nat}{f e0:Nat}(hx:σ.Cg x=.UI k i0 p f e0){ks:ATB Nat}{kk:IntKind}{j:Int}(hi:σ.Cg i=.AA ks (.int kk) j)
    {ek:Nat} {tr:Ty} {xs:ATB tr.V} (hb:σ.Aj[k]?=some (.row ek .Av tr xs)) {ys:ATB te.ty.V} (hg:kA (.sl te.ty) p tr (xs.getD i0.toNat tr.zero)=some ys) {x':tr.V} (hs:TQ (.sl te.ty) [] p tr (xs.getD i0.toNat tr.zero)=some x')
    (hu:te.ty.size≠0) (rB:Ma tr p=some f) (hj:0<=j/\j<(ys.length:Int)):Oz P σ o ⟨.WE k i0 p f j te.ty,σ.Aj,[]⟩ :=
 .Jc <| Mb (s:=λρ=>Instr.indexAt t (ρ x) (ρ i)) (λρ=>by simp[execOp,ho]) λa w g BO=>by
  have Yh:=AU BO x;rw[hx]at Yh;have hii:=AU BO i;rw[hi]at hii;have hii:=DL hii;obtain⟨cs,⟨hk,h0,h1,b,v,OB,Cr,e1,e2,Dp⟩,hval⟩:=B3 rfl rfl Yh;subst e1;have hv:a.eval x=v:=by
   have:[v]=[a.eval x]:=hval
   grind
  obtain⟨g1,H1,Se,AcU,_,_⟩:=ZG BO.heap hb h1 hg rB hu OB Dp hs;obtain⟨_,hvs⟩:=EZ AcU;obtain⟨_,AnQ,AFJ,_,gp⟩:=H1.MG σ.Aj.length (.row 0 .Av _ ys) (by simp[AF]);have Bp :=Xu hj;rcases gp with ⟨ZP,_⟩|⟨b',Bq,ds,ha,_⟩
  ·grind
  ·rw[ha,AnQ]at hvs;have Ss:=BH ht Im;refine⟨.pointer (some ⟨b',j.toNat*te.ty.size,none⟩),?_,Bs  rfl ⟨hk,h0,h1,b,b',_,_,OB,Cr,rfl,⟨hj.1,Bp⟩,by rw[Dp,hvs]⟩ (by simp[Cq,AV.isAgg])⟩;rw[hv,hii,hvs];simp[Instr.indexAt,asIntOf,underlying,Ss,hj.1,hj.2,D2 Ev,Z9]
theorem lR{t:TypeId}{x i:Operand}(ho:o.op=.indexAddr t x i){ti te:TI}(ht:Fh P t ti)(Ev:Fh P ti.elem te)(Im:ti.Ew=true){z:AV}(h:vD σ.Aj te.ty (σ.Cg x) (σ.Cg i) some=some z):Oz P σ o ⟨z,σ.Aj,[]⟩:=by
 unfold vD at h;split at h
 ·rename_i k i0 p f e0 ks kk j hx hi;split at h
  ·rename_i ek tr xs hb;split at h
   ·rename_i ys x' hg hs;split at h
    ·rename_i hc;split at h
     ·rename_i hj;injection h with h;subst h;exact AiO ho ht Ev Im hx hi hb hg hs hc.1 hc.2 hj
     ·grind
    ·grind
   ·grind
  ·grind
 ·exact nD ho ht Ev Im h
theorem fa(he:EnvOk P en)(h:R7 en σ o some=some e):Oz P σ o e:=by
 unfold R7 at h
 dsimp only at h
 split at h
 ·rename_i x ho;injection h with h;subst h;exact wH (.inl ho)
 ·rename_i x ho;injection h with h;subst h;exact wH (.inr ho)
 ·rename_i c a b ho;split at h
  ·rename_i ks t hc;have:=AiX (P:=P) ho hc;cases t
   ·injection h with h;subst h;exact this
   ·injection h with h;subst h;exact this
  ·cases h
 ·rename_i el ho;split at h
  ·rename_i ti ht;injection h with h;subst h;exact AdL ho (he.t ht)
  ·cases h
 ·rename_i el x ho;split at h
  ·rename_i ht;injection h with h;subst h;exact AmI ho ht
  ·cases h
 ·rename_i t Ht ho;split at h
  ·rename_i ti ht;split at h
   ·cases h
   ·rename_i rB;split at h
    ·rename_i v hv;injection h with h;subst h;exact AdN ho (he.t ht) (λe=>rB (by rw[e];rfl)) hv
    ·cases h
  ·cases h
 ·rename_i t len Ht ho;split at h
  ·rename_i ti ht;split at h
   ·rename_i te Ev;split at h
    ·rename_i m xs rs hp;split at h
     ·rename_i hc;obtain⟨h1,h2⟩:=lQ ho (he.t ht) (he.t Ev) hp hc;split at h
      ·rename_i h0;injection h with h;subst h;exact h1 h0
      ·rename_i h0;injection h with h;subst h;exact h2 h0
     ·cases h
    ·cases h
   ·cases h
  ·cases h
 ·rename_i t x ho;split at h
  ·rename_i ti ht;split at h
   ·split at h
    ·rename_i Im;exact AdU ho (he.t ht) Im h
    ·cases h
   ·obtain⟨z,hz,rfl⟩:=Yu (f:=λR K=>aF σ.Aj ti (σ.Cg x) K) (λR K=>oS ..) (g:=λv=>⟨v,σ.Aj,[]⟩) h;exact AiR ho (he.t ht) hz
  ·cases h
 ·rename_i t r ho;split at h
  ·rename_i ti ht;split at h
   ·cases h
   ·rename_i hr;split at h
    ·rename_i tk te aA Ev;split at h
     ·injection h with h;subst h;have:r=none:=by cases r<;>simp_all
      subst this;exact wG ho (Vr _ _)
     ·cases h
    ·cases h
  ·cases h
 ·rename_i t m x ok ho;split at h
  ·rename_i ti ht;split at h
   ·rename_i tk te aA Ev;split at h
    ·rename_i hc;split at h
     ·split at h
      ·cases h
      ·rename_i gm;have:ok=false:=by simpa using gm
       subst this;exact AdS ho (he.t ht) hc.1 (he.t Ev) hc.2.1 (λhk=>mh.of he.D7 (he.t aA) hk hc.2.2) h
     ·obtain⟨z,hz,rfl⟩:=Yu (f:=λR K=>gE σ.Aj tk te ok (σ.Cg m) (σ.Cg x) K) (λR K=>oT ..) (g:=λv=>⟨v,σ.Aj,[]⟩) h;exact AiS ho (he.t ht) hc.1 (he.t Ev) hc.2.1 (λhk=>mh.of he.D7 (he.t aA) hk hc.2.2) hz
    ·cases h
   ·cases h
  ·cases h
 ·rename_i t m x v ho;split at h
  ·rename_i ti ht;split at h
   ·rename_i tk te aA Ev;split at h
    ·rename_i hc;exact AbC (.inl ho) (he.t ht) hc.1 (λhk=>mh.of he.D7 (he.t aA) hk hc.2.2) h
    ·cases h
   ·cases h
  ·cases h
 ·rename_i t m x v ho;split at h
  ·rename_i ti ht;split at h
   ·rename_i tk te aA Ev;split at h
    ·rename_i hc;exact AbC (.inr ho) (he.t ht) hc.1 (λhk=>mh.of he.D7 (he.t aA) hk hc.2.2) h
    ·cases h
   ·cases h
  ·cases h
 ·rename_i t m x ho;split at h
  ·rename_i ti ht;split at h
   ·rename_i tk te aA Ev;split at h
    ·rename_i hc;exact AmK ho (he.t ht) hc.1 (he.t Ev) (λhk=>mh.of he.D7 (he.t aA) hk hc.2) h
    ·cases h
   ·cases h
  ·cases h
 ·rename_i t m x v ho;split at h
  ·rename_i ti ht;split at h
   ·rename_i tk te aA Ev;split at h
    ·rename_i hc;exact AiN ho (he.t ht) hc.1 (λhk=>mh.of he.D7 (he.t aA) hk hc.2) h
    ·cases h
   ·cases h
  ·cases h
 ·rename_i t x v ho;split at h
  ·rename_i ti ht;exact AdV ho (he.t ht) h
  ·cases h
 ·rename_i x ho;split at h
  ·rename_i k i p q hx;injection h with h;subst h;rw[<-hx];exact dQ ho λw g n v hv=>by rw[hx]at hv;exact r5 hv
  ·rename_i ks t y hx;injection h with h;subst h;rw[<-hx];exact dQ ho λw g n v hv=>by rw[hx]at hv;exact r6 hv
  ·cases h
 ·rename_i op t x y yt ho;split at h
  ·rename_i z hz;injection h with h;subst h;exact AmL he.D7 ho hz
  obtain⟨z,hz,rfl⟩:=Yu (f:=λR K=>qx op (match en.D7.get t with |some ti=>ti.ty==.bool |none=>false) (σ.Cg x) (σ.Cg y) K) (λR K=>tZ ..) (g:=λv=>⟨v,σ.Aj,[]⟩) h
  refine AdM ho (λhb=>?_) hz;split at hb
  ·rename_i ti ht;exact yA (he.t ht) (by simpa using hb)
  ·cases hb
 ·rename_i op t x ho;obtain⟨z,hz,rfl⟩:=Yu (f:=λR K=>unA op (σ.Cg x) K) (λR K=>AbJ ..) (g:=λv=>⟨v,σ.Aj,[]⟩) h;exact AiY ho hz
 ·rename_i s t x ho;split at h
  ·rename_i ts ti aB ht;obtain⟨z,hz,rfl⟩:=Yu (f:=λR K=>cH σ.Aj (match en.D7.get ts.elem with |some te=>if ts.Ew=true then some te.ty else none |none=>none) ti.ty (σ.Cg x) K) (λR K=>oc ..) (g:=λv=>⟨v,σ.Aj,[]⟩) h
   exact wE ho (he.t aB) (he.t ht) (oi he) hz
  ·cases h
 ·rename_i fn first bf ho
  split at h
  ·split at h
   ·rename_i h0;injection h with h;subst h;exact sB ho h0
   ·cases h
  ·cases h
 ·rename_i t l c ho;split at h
  ·rename_i ti ht;split at h
   ·rename_i te Ev;split at h
    ·rename_i Im;exact AiT ho (he.t ht) (he.t Ev) Im h
    ·cases h
   ·cases h
  ·cases h
 ·rename_i t x lo hi mx ho;split at h
  ·rename_i d ti hd ht;split at h
   ·split at h
    ·split at h
     ·rename_i Im;split at h
      ·rename_i te Ev;exact AmJ ho (he.t ht) Im (he.t Ev) h
      ·cases h
     ·cases h
    ·cases h
   ·obtain⟨z,hz,rfl⟩:=Yu (f:=λR K=>XS σ.Aj ti (match en.D7.get ti.elem with |some te=>if ti.Ew=true then some te.ty else none |none=>none) (σ.Cg x) (lo.map σ.Cg) (hi.map σ.Cg) (mx.map σ.Cg) K) (λR K=>lN ..) (g:=λv=>⟨v,σ.Aj,[]⟩) h
    exact AdT ho (he.t ht) (oi he) hz
  ·cases h
 ·rename_i t x f ho;split at h
  ·rename_i ti ht;obtain⟨z,hz,rfl⟩:=Yu (f:=λR K=>mJ ti f (σ.Cg x) K) (λR K=>uR ..) (g:=λv=>⟨v,σ.Aj,[]⟩) h;exact nC ho (he.t ht) hz
  ·cases h
 ·rename_i t x i ho;split at h
  ·rename_i ti ht;split at h
   ·rename_i te Ev;split at h
    ·rename_i Im;obtain⟨z,hz,rfl⟩:=Yu (f:=λR K=>vD σ.Aj te.ty (σ.Cg x) (σ.Cg i) K) (λR K=>vE ..) (g:=λv=>⟨v,σ.Aj,[]⟩) h;exact lR ho (he.t ht) (he.t Ev) Im hz
    ·cases h
   ·cases h
  ·cases h
 ·rename_i t x i ho;split at h
  ·rename_i ti ht;split at h
   ·rename_i hs;obtain⟨z,hz,rfl⟩:=Yu (f:=λR K=>qF (σ.Cg x) (σ.Cg i) K) (λR K=>ux ..) (g:=λv=>⟨v,σ.Aj,[]⟩) h;exact AdR ho (he.t ht) hs hz
   ·cases h
  ·cases h
 ·rename_i x i ho;split at h
  ·rename_i v hv;split at h
   ·cases h
   ·rename_i ht;injection h with h;subst h;exact wF ho hv (by simpa using ht)
  ·cases h
 ·rename_i c ho;unfold W5 at h;split at h
  ·rename_i hc;split at h
   ·rename_i x t r hx aB;split at h
    ·rename_i ti ht;obtain⟨z,hz,rfl⟩:=Yu (f:=λR K=>rS σ.Aj ti x K) (λR K=>vP ..) (g:=λv=>⟨v,σ.Aj,[]⟩) h;exact AmM ho hc hx aB (he.t ht) hz
    ·cases h
   ·cases h
  ·rename_i hc;split at h
   ·rename_i x y hx;obtain⟨z,hz,rfl⟩:=Yu (f:=λR K=>mmA false x y K) (λR K=>iZ ..) (g:=λv=>⟨v,σ.Aj,[]⟩) h;exact AiU (mx:=false) ho hc hx hz
   ·cases h
  ·rename_i hc;split at h
   ·rename_i x y hx;obtain⟨z,hz,rfl⟩:=Yu (f:=λR K=>mmA true x y K) (λR K=>iZ ..) (g:=λv=>⟨v,σ.Aj,[]⟩) h;exact AiU (mx:=true) ho hc hx hz
   ·cases h
  ·rename_i hc;split at h
   ·rename_i x y t tx hx aB;split at h
    ·rename_i ti fT ht xJ;split at h
     ·rename_i te Ev;split at h
      ·rename_i hk;rw[AP3]at hk;exact zG ho hc hx aB (he.t ht) (he.t Ev) hk.1 (he.t xJ) hk.2 h
      ·split at h
       ·rename_i hk;rw[AP3]at hk;exact wD ho hc hx aB (he.t ht) (he.t Ev) hk.1 (he.t xJ) hk.2 h
       ·cases h
     ·cases h
    ·cases h
   ·cases h
  ·cases h
  ·rename_i fo hc;split at h
   ·rename_i g0 bf hf;split at h
    ·rename_i ca hg;exact AiL he ho hc hf hg h
    ·cases h
   ·cases h
  ·cases h
 ·cases h
theorem AgU{e':Ij}{t:Ty}(h:Oz P σ o e)(hf:Avj σ.Aj.length t e=some e'):Oz P σ o e':=by
 unfold Avj at hf;split at hf
 ·rename_i x hr;split at hf
  ·rename_i hN;injection hf with hf;subst hf;have hZ:∀k∈(e.val.Vm e.Aj).filter (λk=>!decide (k<σ.Aj.length)),σ.Aj.length<=k:=λk hk=>by
    have:=(List.mem_filter.1 hk).2;simpa using this
   refine⟨by rw[A7];exact h.grow,λhm=>?_,λa w g hs next Q hn=>h.wp a w g hs next Q λv w' g' H hv st=>?_⟩
   ·obtain⟨l,hl⟩:=h.ext hm;simp only;generalize (e.val.Vm e.Aj).filter (λk=>!decide (k<σ.Aj.length))=Z at hZ;rw[hl];exact vN Z _ _ hZ
   ·generalize hZe:(e.val.Vm e.Aj).filter (λk=>!decide (k<σ.Aj.length))=Z at hZ hn;refine hn v w' (g'.X0 Z) (AcO H hN Z) ?_ ⟨st.os,st.tape,st.output,st.size,λb hb h=>?_,λb h=>?_,λb k p h hk hm=>?_,λk hk=>st.AY k hk⟩
    ·rw[A7];obtain⟨h1,h2⟩:=WH hr;obtain⟨cs,S6,hv⟩:=B3 h1 h2 hv;obtain⟨mV,Bp⟩:=Rh H t e.val x cs hr S6;refine Bs (a:=.AA _ t x) rfl ⟨λk hk=>Bp k (List.mem_filter.1 hk).1,mV.mono λb a=>⟨a.Sp.mono λk hk=>?_,rfl⟩⟩ (by rw[show(AV.AA _ t x).isAgg=e.val.isAgg from(bL hr).symm];exact hv);subst hZe;simp only[List.mem_filter,ARk,AQN,AQ3]at hk⊢;refine⟨hk.1,?_⟩;rcases AP7 k σ.Aj.length with h |h
     ·exact h
     ·exact absurd ⟨hk.1,by omega⟩ hk.2
    ·have:=st.no b hb h;exact⟨by simp[G.X0,this.1],this.2⟩
    ·have:=st.Jb b h;exact⟨ri this.1,this.2⟩
    ·have:=st.BL b k p h hk hm;exact⟨QV this.1 λhz=>by have:=hZ k hz;omega,this.2⟩
  ·cases hf
 ·cases hf
def G.sha(g:G)(k:Nat):G:=⟨λb=>match g.own b with |.BL j r=>if j=k/\r≠[]then .Jb else .BL j r |t=>t,g.AY⟩
theorem Ik.rdS{w:World}{own:Nat->S4}{k:Nat}{A:Nat->Prop}(h:∀b q,q≠[]->own b=.BL k q->A b):∀{t:Ty} {L:ATB Nat} {x:t.V} {cs:ATB Value},L≠[]->Ik w own k t L x cs->H7 w A t x cs
 |.int _,_,_,_,_,r=>r
 |.bool,_,_,_,_,r=>r
 |.str,_,_,_,_,r=>r
 |.unit,_,_,_,_,r=>r
 |.AE _ _,_,_,_,_,⟨c,d,e,r1,r2⟩=>⟨c,d,e,Ik.rdS h (by simp) r1,Ik.rdS h (by simp) r2⟩
 |.sl t,L,xs,cs,hL,⟨ad,cap,e,r⟩=>by
  rcases r with ⟨hx,fj⟩|⟨b,e1,Bq,ds,ha,ho,hh,h1,h2,h3,h4,hc⟩
  ·subst hx;exact⟨ad,cap,[],e,by simp,rfl,.inl rfl⟩
  ·refine⟨ad,cap,ds,e,h1,hc.toR λi x c r=>Ik.rdS h (by simp) r,.inr ⟨b,0,ha,h b L hL ho,λj q hq=>?_⟩⟩;rw[QS hh,AQs,<-AQa];subst h4;rw[AQT]at hq;split at hq
   ·exact hq
   ·cases hq
 |.R4 _,_,_,_,_,r=>r.elim
theorem AdI{e':Ij}(h:Oz P σ o e)(hf:AiA σ.Aj.length e=some e'):Oz P σ o e':=by
 unfold AiA at hf;split at hf
 ·rename_i k hval;split at hf
  ·rename_i hk;split at hf
   ·rename_i el t xs hb;injection hf with hf;subst hf;refine⟨by simpa using h.grow,λhm=>?_,λa w g hs next Q hn=>h.wp a w g hs next Q λv w' g' H hv st=>?_⟩
    ·obtain⟨l,hl⟩:=h.ext hm;simp only;rw[hl,ARm _ _ hk];exact⟨_,rfl⟩
    ·have hal:∀{ks:ATB Nat} {b:Nat},Al g'.own ks b->Al (g'.sha k).own ks b:=λ{ks b} ha=>by
       rcases ha with ha |⟨j,hj,r,ha⟩
       ·exact .inl (by simp[G.sha,ha])
       ·by_cases hc:j=k/\r≠[]
        ·exact .inl (by simp[G.sha,ha,hc])
        ·exact .inr ⟨j,hj,r,by simp only[G.sha,ha,AQf hc]⟩
     have R9:∀{b j:Nat},g'.own b=.BL j []->(g'.sha k).own b=.BL j []:=λ{b j} h=>by simp[G.sha,h]
     have hav:∀(a:AV) (m:Bool) {cs:ATB Value},CF w' g' e.Aj.length m a cs->CF w' (g'.sha k) e.Aj.length m a cs:=by
      intro a;induction a with
      |AA ks t x=>intro m cs hx;cases m with
       |false=>exact⟨hx.1,hx.2.mono λb a=>⟨hal a,rfl⟩⟩
       |true=>exact hx.elim
      |Fw ks t x=>intro m cs hx;cases m with
       |false =>
        obtain⟨hk,b,off,ds,e,ha,r,hc⟩:=hx;exact⟨hk,b,off,ds,e,hal ha,r.mono λb a=>⟨hal a,rfl⟩,hc⟩
       |true=>exact hx.elim
      |UI k i p o e=>intro m cs hx;cases m with
       |false =>
        obtain⟨hk,h0,h1,b,v,ha,ho,e1,e2,hc⟩:=hx;exact⟨hk,h0,h1,b,v,ha,R9 ho,e1,e2,hc⟩
       |true=>exact hx.elim
      |WE k i p o j u=>intro m cs hx;cases m with
       |false =>
        obtain⟨hk,h0,h1,b,b',l,c,ha,ho,e1,e2,hc⟩:=hx;exact⟨hk,h0,h1,b,b',l,c,ha,R9 ho,e1,e2,hc⟩
       |true=>exact hx.elim
      |pr a b iha ihb=>intro m cs hx;cases m with
       |false =>
        obtain⟨c,d,e,h1,h2⟩:=hx;exact⟨c,d,e,iha false h1,ihb false h2⟩
       |true=>exact hx.elim
      |fn f c ih=>intro m cs hx;cases m with
       |false =>
        obtain⟨vs,e,hx⟩:=hx;exact⟨vs,e,ih true hx⟩
       |true=>exact hx.elim
      |cons a b iha ihb=>intro m cs hx;cases m with
       |true =>
        obtain⟨v,r,e,h1,h2⟩:=hx;exact⟨v,r,e,h1.imp id λ⟨cs,hx,hv⟩=>⟨cs,iha false hx,hv⟩,ihb true h2⟩
       |false=>exact hx.elim
      |_=>intro m cs hx;cases m<;>exact hx
     refine hn v w' (g'.sha k) ⟨λb hb=>by simp[G.sha,H.BZ b hb],λj x hx=>?_⟩ ?_ ⟨st.os,st.tape,st.output,st.size,λb hb h=>?_,λb h=>?_,λb j p h hj hm=>?_,λj hj=>st.AY j hj⟩
     ·rw[AP5];rw[AQl]at hx;split at hx
      ·rename_i ek;subst ek;split at hx
       ·injection hx with hx;subst hx;obtain⟨RV,hlen,QN,BU,hr⟩:=H.MG k _ hb;cases hfl:t.BS with
        |true=>exact⟨hfl,hlen,QN,BU,hr.imp id λ⟨b,Bq,ds,ha,ho,hh,h1,h2,h3,h4,hc⟩=>⟨b,0,Bq,ds,ha,R9 ho,hh,h1,h2,by rw[AQs];exact h3,h4,D1.2 ((D1.1 hc).mono λi x c h=>(Uy.BS hfl).2 ((Uy.BS hfl).1 h))⟩⟩
        |false =>
        refine⟨λj hj=>(by cases hj),hlen,QN,BU,hr.imp id λ⟨b,Bq,ds,ha,ho,hh,h1,h2,h3,h4,hc⟩=>⟨b,Bq,ds,ha,R9 ho,hh,h1,h2,h3,h4,?_⟩⟩;exact hc.toR λi x c r=>Ik.rdS (λb q hq hb=>.inl (by simp[G.sha,hb,hq])) (by simp) r
       ·cases hx
      ·rename_i Ke;have hB:=H.MG j x hx;cases x with
       |Ba=>trivial
       |map m kt vt es st =>
        obtain⟨RV,b,HF,DW,ha,ho,hh,S8,hm⟩:=hB;refine⟨RV,b,HF,DW,ha,R9 ho,hh,S8,hm.on λi x c r=>?_⟩;cases m with
        |Av =>
         refine Ik.mono (λb q hb=>⟨?_,rfl⟩) r;have:¬(j=k/\q++[i]≠[]):=λhq=>Ke hq.1.symm;show(match g'.own b with |.BL j r=>if j=k/\r≠[]then S4.Jb else .BL j r |t=>t)=_
         rw[hb];exact AQf this
        |sh ks=>exact H7.mono (λb a=>⟨hal a,rfl⟩) r
       |R1 e2 t xs i p =>
        obtain⟨h1,h2,h3,h4,h5,u,o,x0,b,Bq,ds,q1,q2,q3,ha,ho,hh,c1,c2,c3,c4,hc⟩:=hB;refine⟨h1,h2,h3,h4,h5,u,o,x0,b,Bq,ds,q1,q2,q3,ha,R9 ho,hh,c1,c2,c3,c4,hc.mono λi x c r=>r.mono λb q hb=>⟨?_,rfl⟩⟩;have:¬(j=k/\q++[i]≠[]):=λhq=>Ke hq.1.symm;show(match g'.own b with |.BL j r=>if j=k/\r≠[]then S4.Jb else .BL j r |t=>t)=_
        rw[hb];exact AQf this
       |tail e2 t xs =>
        obtain⟨hfl,hlen,QN,BU,hr⟩:=hB;exact⟨hfl,hlen,QN,BU,hr.imp id λ⟨b,o,Bq,ds,ha,ho,hh,h1,h2,h3,h4,hc⟩=>⟨b,o,Bq,ds,ha,R9 ho,hh,h1,h2,h3,h4,D1.2 ((D1.1 hc).mono λi x c h=>(Uy.BS hfl).2 ((Uy.BS hfl).1 h))⟩⟩
       |box a =>
        obtain⟨h1,b,cs,e,ha,ho,hh,hx⟩:=hB;exact⟨h1,b,cs,e,ha,R9 ho,hh,hav a false hx⟩
       |row e2 m t xs =>
        obtain⟨RV,hlen,QN,BU,hr⟩:=hB;refine⟨RV,hlen,QN,BU,hr.imp id λ⟨b,Bq,ds,ha,ho,hh,h1,h2,h3,h4,hc⟩=>⟨b,Bq,ds,ha,R9 ho,hh,h1,h2,h3,h4,?_⟩⟩;cases m with
        |Av =>
         refine hc.mono λi x c r=>r.mono λb q hb=>⟨?_,rfl⟩;have:¬(j=k/\q++[i]≠[]):=λhq=>Ke hq.1.symm;show(match g'.own b with |.BL j r=>if j=k/\r≠[]then S4.Jb else .BL j r |t=>t)=_
         rw[hb];exact AQf this
        |sh ks=>exact hc.mono λx c r=>r.mono λb a=>⟨hal a,rfl⟩
     ·rw[AP5];rw[hval]at hv;obtain⟨hk1,iT⟩:=EZ hv;rw[iT];exact Bs (cs:=[_]) rfl ⟨hk1,rfl⟩ rfl
     ·have:=st.no b hb h;exact⟨by simp[G.sha,this.1],this.2⟩
     ·have:=st.Jb b h;exact⟨by simp[G.sha,this.1],this.2⟩
     ·have:=st.BL b j p h hj hm;have Ke:¬(j=k/\p≠[]):=λhq=>by have:=hq.1;omega
      exact⟨by simp only[G.sha,this.1,AQf Ke],this.2⟩
   ·cases hf
  ·cases hf
 ·cases hf
theorem AiV{t:TypeId}{x:Operand}(ho:o.op=.load t x){ti:TI}(ht:Fh P t ti)(Im:ti.Ew=true){k:Nat}{i:Int}{p:ATB Nat}{f e0:Nat}(hx:σ.Cg x=.ptr k i p f){el:Nat}{tr:Ty}{xs:ATB tr.V}(hb:σ.Aj[k]?=some (.row el .Av tr xs)){v:AV}(VP:atP σ.Aj k i p f=some v)(MQ:v.size=1):Oz P σ o ⟨.UI k i p f e0,σ.Aj,[]⟩ :=
 .Jc <| Mb (s:=λρ=>Instr.loadAt t (ρ x)) (λρ=>by simp[execOp,ho]) λa w g BO=>by
  have Yh:=AU BO x;rw[hx]at Yh;obtain⟨hk,h0,h1,b,OB,hpe⟩:=LU Yh;obtain⟨RV,hlen,QN,BU,hr⟩:=BO.heap.MG k _ hb;obtain⟨cs,mQ,Dp⟩:=WV BO.heap VP h1 OB;have bz:ti.ty.size=1/\ti.ty.isAgg=false:=by
   unfold TI.Ew at Im;split at Im
   ·rename_i u hu;rw[hu];exact⟨rfl,rfl⟩
   ·cases Im
  have hl:cs.length=ti.ty.size:=by rw[mQ.len,MQ,bz.1]
  obtain⟨v1,iT,tu⟩:=TK (w:=w) ht hl Dp (λhg=>by rw[hl];exact bz.1);rw[bz.2]at tu;have S6:cs=[v1]:=tu;subst S6;rcases hr with ⟨ZP,_⟩|⟨b',Bq,ds,ha,Cr,_⟩
  ·rw[hlen,ZP]at h1;simp at h1
  ·rw[OB]at ha;injection ha with ha;injection ha with ha;subst ha;refine⟨v1,by rw[hpe];simp[Instr.loadAt,Instr.sureAddr,iT],Bs (cs:=[v1]) rfl ⟨hk,h0,h1,b,v1,OB,Cr,rfl,mQ.one v1 (by simp),?_⟩ rfl⟩;have:=Dp 0 v1 rfl;simpa using this
theorem Abq{w:World}{g:G}{n k:Nat}{i:Int}{p:ATB Nat}{e b:Nat}(hk:k<n)(h0:0<=i)(h1:i.toNat<(g.AY k).len)(OB:(g.AY k).a=some ⟨b,0,none⟩)(Cr:g.own b=.BL k []){A:Nat->Prop} :
    ∀{t:Ty} {x:t.V} {f o:Nat} {z:AV} {cs:ATB Value},lp k i p e t x f o=some z->H7 w A t x cs->(∀j u,cs[j]?=some u->w.cell? ⟨b,i.toNat*(g.AY k).ov+o+j,none⟩=some u)->CF w g n false z cs/\z.isAgg=t.isAgg/\z.Dq=false
 |.unit,x,f,o,z,cs,h,hr,_=>by
  simp only[lp,APY]at h;subst h;exact⟨⟨λk hk=>(by cases hk),hr⟩,rfl,rfl⟩
 |.AE a c,x,f,o,z,cs,h,⟨c1,c2,ecs,r1,r2⟩,hc=>by
  simp only[lp]at h;split at h
  ·rename_i r hrr;have VS:=r1.len;obtain⟨ih,_,_⟩:=Abq hk h0 h1 OB Cr hrr r2 (λj u hu=>by
    have:=hc (c1.length+j) u (by rw[ecs,AQi (by omega)];rw[show c1.length+j-c1.length=j by omega];exact hu);rw[<-this];congr 2;omega)
   split at h
   ·rename_i Im;injection h with h;subst h;obtain⟨ad,n0,cap,e1⟩:∃ad n0 cap,c1=[.slice ad n0 cap]:=by
     cases a with
     |sl u=>obtain⟨ad,cap,ds,e1,_⟩:=r1;exact⟨_,_,_,e1⟩
     |_=>cases Im
    refine⟨⟨c1,c2,ecs,⟨hk,h0,h1,b,_,OB,Cr,e1,rfl,?_⟩,ih⟩,rfl,rfl⟩;have:=hc 0 _ (by rw[ecs,e1];rfl);simpa using this
   ·split at h
    ·rename_i hf;injection h with h;subst h;exact⟨⟨c1,c2,ecs,⟨λk hk=>(by cases hk),(H7.BS hf).2 ((H7.BS hf).1 r1)⟩,ih⟩,rfl,rfl⟩
    ·cases h
  ·cases h
 |.int _,_,_,_,_,_,h,_,_=>by simp[lp]at h
 |.bool,_,_,_,_,_,h,_,_=>by simp[lp]at h
 |.str,_,_,_,_,_,h,_,_=>by simp[lp]at h
 |.sl _,_,_,_,_,_,h,_,_=>by simp[lp]at h
 |.R4 _,_,_,_,_,_,h,_,_=>by simp[lp]at h
theorem AiW{t:TypeId}{x:Operand}(ho:o.op=.load t x){ti:TI}(ht:Fh P t ti){k:Nat}{i:Int}{p:ATB Nat}{f e0:Nat}(hx:σ.Cg x=.ptr k i p f){el:Nat}{tr:Ty}{xs:ATB tr.V}(hb:σ.Aj[k]?=some (.row el .Av tr xs)){ks:ATB Nat}{t':Ty}{y:t'.V}(VP:atP σ.Aj k i p f=some (.AA ks t' y))(iR:t'=ti.ty){z:AV}(hz:lp k i p e0 t' y 0 f=some z):Oz P σ o ⟨z,σ.Aj,[]⟩ :=
 .Jc <| Mb (s:=λρ=>Instr.loadAt t (ρ x)) (λρ=>by simp[execOp,ho]) λa w g BO=>by
  subst iR;have Yh:=AU BO x;rw[hx]at Yh;obtain⟨hk,h0,h1,b,OB,hpe⟩:=LU Yh;obtain⟨RV,hlen,QN,BU,hr⟩:=BO.heap.MG k _ hb;obtain⟨cs,mQ,Dp⟩:=WV BO.heap VP h1 OB;have hl:cs.length=ti.ty.size:=mQ.len;obtain⟨v1,iT,tu⟩:=TK (P:=P) (w:=w) ht hl Dp (λhg=>by rw[hl];exact TS hg);rcases hr with ⟨ZP,_⟩|⟨b',Bq,ds,ha,Cr,_⟩
  ·rw[hlen,ZP]at h1;simp at h1
  ·rw[OB]at ha;injection ha with ha;injection ha with ha;subst ha;obtain⟨h2,h3,h4⟩:=Abq hk h0 h1 OB Cr hz mQ.2 Dp;exact⟨v1,by rw[hpe];simp[Instr.loadAt,Instr.sureAddr,iT],Bs h4 h2 (by rw[h3];exact tu)⟩
theorem Afe(he:EnvOk P en){v:AV}(h:jC en σ o=some v):Oz P σ o ⟨v,σ.Aj,[]⟩:=by
 unfold jC at h;split at h
 ·rename_i t x ho;split at h
  ·cases h
  ·rename_i d hd;split at h
   ·rename_i e ti k i p f _ ht hxp;split at h
    ·rename_i el tr xs v0 hb VP;split at h
     ·rename_i hc;injection h with h;subst h;exact AiV ho (he.t ht) hc.1 hxp hb VP hc.2
     ·split at h
      ·rename_i ks t' y AFs;split at h
       ·rename_i iR;exact AiW ho (he.t ht) hxp hb VP iR h
       ·cases h
      ·cases h
    ·cases h
   ·cases h
 ·rename_i t Ht ho;split at h
  ·rename_i ti ht;split at h
   ·cases h
   ·rename_i hn;split at h
    ·rename_i te Ev;split at h
     ·rename_i iR;exact sy ho (he.t ht) (he.t Ev) hn iR h
     ·cases h
    ·cases h
  ·cases h
 ·rename_i t x i ho;split at h
  ·rename_i ti ht;split at h
   ·cases h
   ·rename_i hn;split at h
    ·rename_i te Ev;split at h
     ·rename_i ks kk j hi;split at h
      ·rename_i hj;split at h
       ·rename_i v' hv;split at h
        ·rename_i MQ;injection h with h;subst h;exact sA ho (he.t ht) (he.t Ev) hn hi hj hv MQ
        ·cases h
       ·cases h
      ·cases h
     ·cases h
    ·cases h
  ·cases h
 ·rename_i t x f ho;split at h
  ·rename_i ti ht;split at h
   ·rename_i fo u v' hfo hu hv;split at h
    ·rename_i hc;injection h with h;subst h;exact AdP ho (he.t ht) hfo hu hv hc
    ·cases h
   ·cases h
  ·cases h
 ·rename_i c ho;split at h
  ·rename_i t r hc hx aB;split at h
   ·rename_i ti ht;split at h
    ·rename_i hs;injection h with h;subst h;exact AdO ho hc hx aB (he.t ht) hs
    ·cases h
   ·cases h
  ·cases h
 ·rename_i t x i ho;split at h
  ·rename_i ti ht;split at h
   ·cases h
   ·rename_i hn;split at h
    ·rename_i te Ev;split at h
     ·rename_i ks kk j hi;split at h
      ·rename_i hj;exact fP ho (he.t ht) (he.t Ev) hn hi hj.1 hj.2 h
      ·cases h
     ·cases h
    ·cases h
  ·cases h
 ·cases h
theorem zH{t:TypeId}{x v:Operand}(ho:o.op=.store t x v){ti:TI}(ht:Fh P t ti){k:Nat}{i:Int}{p:ATB Nat}{f:Nat}{j:Int}{u:Ty}(hx:σ.Cg x=.WE k i p f j u)(h:zO σ.Aj ti k i p f j u (σ.Cg v)=some e):Oz P σ o e:=by
 unfold zO at h;split at h
 ·rename_i ek tr xs hb;split at h
  ·rename_i ys hg;split at h
   ·rename_i y aA;split at h
    ·rename_i y' iV;split at h
     ·rename_i x' HY;split at h
      ·rename_i hc;obtain⟨iR,rB,hu,AJU,AJB,YA⟩:=hc;injection h with h;subst h;have ru:=A5 hb;have oE:((Bd [k] σ.Aj).set k Blk.Ba++[Blk.row 0 .Av u ys]).length=σ.Aj.length+1:=by simp[AF]
       refine⟨by simp only[AP5,AF,A7,oE];omega,λhm=>by simp at hm,λa w g BO next Q hn=>?_⟩
       have Yh:=AU BO x;rw[hx]at Yh;obtain⟨cs,⟨hk,h0,h1,b,b',l,c,OB,Cr,e1,oD,Dp⟩,hval⟩:=B3 rfl rfl Yh;subst e1;have hpv:a.eval x=.pointer (some ⟨b',j.toNat*u.size,none⟩):=by
        have:[Value.pointer (some ⟨b',j.toNat*u.size,none⟩)]=[a.eval x]:=hval;injection this with h _;exact h.symm
       obtain⟨g1,H1,Se,AcU,bB,_⟩:=ZG BO.heap hb h1 hg rB hu OB Dp HY;have hN:((Bd [k] σ.Aj).set k Blk.Ba++[Blk.row 0 .Av u ys])[σ.Aj.length]?=some (.row 0 .Av u ys):=by rw[AQi (by simp[AF])];simp[AF]
       obtain⟨_,hvs⟩:=EZ AcU;injection hvs with ha1 VS _;obtain⟨_,AnQ,AFJ,_,_⟩:=H1.MG σ.Aj.length (.row 0 .Av u ys) hN;have AJI:B5 w g1 (σ.Aj.length+1) (.ptr σ.Aj.length j [] 0) (.pointer (some ⟨b',j.toNat*u.size,none⟩)):=by
        have:=fC (w:=w) (g:=g1) (n:=σ.Aj.length+1) (p:=[]) (o:=0) (AQC σ.Aj.length) oD.1 (by rw[<-VS];exact oD.2) ha1.symm;rwa [AFJ,AR2]at this
       have iT:B5 w g1 (σ.Aj.length+1) (σ.Cg v) (a.eval v):=by
        have:=(AU BO v).step Se (AQx _);rwa [OY λq hq=>by
         simp only[List.contains_eq_mem,AQn,AQN];intro e;subst e;simp only[List.contains_eq_mem,AQN]at YA;exact YA hq]at this
       obtain⟨w2,g2,El,H2,Qp⟩:=Zp (σ:=⟨[],(Bd [k] σ.Aj).set k Blk.Ba++[Blk.row 0 .Av u ys]⟩) H1 ht hN aA ⟨AJB,AJU,rfl,rfl⟩ iV (by show B5 w g1 _ _ _;rw[oE];exact AJI) (by show B5 w g1 _ _ _;rw[oE];exact iT);simp only at H2 Qp;rw[oE]at Qp;have AvL:k∉[σ.Aj.length]:=by simp;omega
       have mU:k≠σ.Aj.length:=by omega
       generalize hE:(Blk.G3 (Bd [σ.Aj.length] ((Bd [k] σ.Aj).set k Blk.Ba++[Blk.row 0 .Av u ys])) []).set σ.Aj.length (.row 0 .Av u (ys.set j.toNat y'))=E at H2 hn;have hEl:E.length=σ.Aj.length+1:=by rw[<-hE];simp[A7,AF]
       have hEN:E[σ.Aj.length]?=some (.row 0 .Av u (ys.set j.toNat y')):=by rw[<-hE,List.getElem?_set_self (by simp[A7,AF])]
       have stA:Step [σ.Aj.length,k] E.length w2 g2 w2 (g2.fY σ.Aj.length k (VU p [i.toNat])):=wT;have AmN:Step [k,σ.Aj.length] E.length w2 g2 w2 (g2.fY σ.Aj.length k (VU p [i.toNat])):=stA.weaken (λq hq=>by simp at hq⊢;exact hq.symm) (AP2 _);have oF:(((Bd [k,σ.Aj.length] E).set σ.Aj.length Blk.Ba).set k (.row ek .Av tr (xs.set i.toNat x'))).length=E.length:=by simp[AF]
       have Ahx:Nl w2 (g2.fY σ.Aj.length k (VU p [i.toNat])) E.length k (.row ek .Av tr (xs.set i.toNat x')) :=
        bB w2 g2 E.length 0 (λb q hb=>Qp.BL b k q hb (by omega) AvL) (λj hj=>Qp.AY j (by omega)) (H2.MG σ.Aj.length _ hEN)
       unfold Oper.wp;simp only[execOp,ho,hpv,Sem.run_bind,El,Result.andThen_ok];refine hn undef w2 (g2.fY σ.Aj.length k (VU p [i.toNat])) ?_ RQ ?_
       ·refine H2.b8 AmN (λb hb=>by simp[G.fY,H2.BZ b hb]) (by rw[oF];exact AP2 _) λj' y R8=>?_;rw[oF];rcases Tg R8 with ⟨rfl,rfl⟩|⟨Ke,R8⟩
        ·exact .inr (.inr Ahx)
        ·rcases Tg R8 with ⟨rfl,rfl⟩|⟨AvP,R8⟩
         ·exact .inl rfl
         ·obtain⟨y',iV,rfl⟩:=Dy R8;exact .inr (.inl ⟨by simp only[ARC,AR7,or_false,not_or];exact⟨Ke,AvP⟩,y',iV,rfl⟩)
       ·refine⟨Qp.os.trans Se.os,Qp.tape.trans Se.tape,Qp.output.trans Se.output,Qp.size,λb hb h=>?_,λb h=>?_,λb j' q h R8 hm=>?_,λj' R8=>?_⟩
        ·have h1:=Se.no b hb h;have h2:=Qp.no b hb h1.1;exact⟨by simp[G.fY,h2.1],h2.2⟩
        ·have h1:=Se.Jb b h;have h2:=Qp.Jb b h1.1;exact⟨by simp[G.fY,h2.1],h2.2⟩
        ·simp only[ARl,AQn,not_or]at hm;have h1:=Se.BL b j' q h R8 (by simpa using hm.2);have h2:=Qp.BL b j' q h1.1 (by omega) (by simpa using hm.1);exact⟨iH h2.1 (by omega),h2.2⟩
        ·show g2.AY j'=_;rw[Qp.AY j' (by omega),Se.AY j' R8]
      ·cases h
     ·cases h
    ·cases h
   ·cases h
  ·cases h
 ·cases h
theorem Aid(he:EnvOk P en)(h:Adr en σ o=some e):Oz P σ o e:=by
 unfold Adr at h;split at h
 ·rename_i t x v ho;split at h
  ·rename_i ti k i p f j u ht hx;exact zH ho (he.t ht) hx h
  ·cases h
 ·cases h
theorem AmU(he:EnvOk P en)(h:tlE en σ o=some (true,e)):Oz P σ o e:=by
 unfold tlE at h;split at h
 ·rename_i t x lo ho;split at h
  ·rename_i ti k ks kk l htt hx hl;split at h
   ·rename_i el u xs te hb Ev;split at h
    ·rename_i hc;obtain⟨Im,hu⟩:=hc;subst hu;simp only[APY,AP9,AP3,AQ3]at h;obtain⟨⟨h0,h1⟩,rfl⟩:=h;exact AiM ho (he.t htt) Im (he.t Ev) hx hl hb h0 h1
    ·cases h
   ·cases h
  ·cases h
 ·rename_i t x y ho;split at h
  ·rename_i ti k ks kk l htt hx hl;split at h
   ·rename_i el u xs te hb Ev;split at h
    ·rename_i hc;obtain⟨Im,hu⟩:=hc;subst hu;simp only[APY,AP9,AP3,AQ3]at h;obtain⟨⟨h0,h1⟩,rfl⟩:=h;exact AiP ho (he.t htt) Im (he.t Ev) hx hl hb h0 h1
    ·cases h
   ·cases h
  ·cases h
 ·rename_i c ho;split at h
  ·rename_i k t hc hx aB;split at h
   ·rename_i el u xs ti hb htt;split at h
    ·rename_i Im;simp only[APY,AP9,true_and]at h;subst h;exact AiQ ho hc hx aB (he.t htt) Im hb
    ·cases h
   ·cases h
  ·rename_i k y t tx hc hx aB;split at h
   ·rename_i el u xs0 ti fT hb htt xJ;split at h
    ·rename_i te Ev;split at h
     ·rename_i xs ys m2 rs vb kK;split at h
      ·rename_i vd;obtain⟨Im,hkx,_,xF,VR,_⟩:=vd;obtain⟨ec,hec⟩:=BG vb;injection ec with ec;subst ec;simp only at hec;subst hec;simp only[APY,AP9,AQ3]at h;obtain⟨RY,rfl⟩:=h;exact AiK ho hc hx aB (he.t htt) (he.t Ev) Im (he.t xJ) hkx xF hb VR kK RY
      ·cases h
     ·cases h
    ·cases h
   ·cases h
  ·cases h
 ·cases h
theorem AiF(he:EnvOk P en)(h:wB en σ o=some e):Oz P σ o e:=by
 exact Aid he h
theorem eZ(he:EnvOk P en)(h:V2 en σ o some=some e):Oz P σ o e:=by
 unfold V2 at h;split at h
 ·rename_i v hv;injection h with h;subst h;exact Afe he hv
 split at h
 ·rename_i e' hv;injection h with h;subst h;exact AiF he hv
 split at h
 ·rename_i c e' hv;cases c with
  |false=>cases h
  |true=>injection h with h;subst h;exact AmU he hv
 split at h
 ·cases hd:kl en o with
  |false=>rw[hd]at h;exact fa he h
  |true =>
   rw[hd]at h;simp only[AQc]at h;rw[Nq en he.aI]at h;cases hx:R7 en σ o some with
   |none=>rw[hx]at h;cases h
   |some e0 =>
    rw[hx]at h;simp only[APW]at h;split at h
    ·rename_i e' hf;injection h with h;subst h;exact AdI (fa he hx) hf
    ·cases h
 ·rename_i t _;rw[Nq en he.aI]at h;cases hx:R7 en σ o some with
  |none=>rw[hx]at h;cases h
  |some e0 =>
   rw[hx]at h;simp only[APW]at h;split at h
   ·rename_i e' hf;injection h with h;subst h;exact AgU (fa he hx) hf
   ·cases h
theorem Ts(he:EnvOk P en)(h:exec en σ o some=some e):Oz P σ o e:=by
 unfold exec at h;split at h
 ·split at h
  ·split at h
   ·rename_i bs hp;rw[W4 en he.aI]at h;cases hx:V2 en ⟨σ.AO,bs⟩ o some with
    |none=>rw[hx]at h;cases h
    |some e0 =>
     rw[hx,APW]at h;split at h
     ·cases h
     ·rename_i hm;injection h with h;subst h;have hs:=eZ he hx;obtain⟨l',hf⟩:=wo hp;have hl:=uN hf;refine⟨AQq hl hs.grow,λyX=>by rw[yX]at hm;exact(hm rfl).elim,λa w g BO next Q hn=>?_⟩
      obtain⟨_,g',H',st⟩:=AaR hf BO.heap;exact hs.wp a w g' ⟨H',BO.len,λi x hx=>(BO.AO i x hx).RP st hl⟩ next Q λv w' g2 h1 h2 h3=>hn v w' g2 h1 h2 (st.trans h3 hl)
   ·cases h
  ·exact eZ he h
 ·exact eZ he h
end
def BK(m:Nat)(w:World)(g:G)(w':World)(g':G):Prop:=Step (List.range m) m w g w' g'
theorem BK.refl(m:Nat)(w:World)(g:G):BK m w g w g:=Step.refl _ _ _ _
theorem Step.zU{BJ:ATB Nat}{n m:Nat}{w w':World}{g g':G}(s:Step BJ n w g w' g')(h:m<=n):BK m w g w' g' :=
 ⟨s.os,s.tape,s.output,s.size,s.no,s.Jb,λ_ k _ _ hk hm=>(hm (List.mem_range.2 hk)).elim,λk hk=>s.AY k (AQy hk h)⟩
theorem BK.trans{m:Nat}{w w1 w2:World}{g g1 g2:G}(s:BK m w g w1 g1)(t:BK m w1 g1 w2 g2):BK m w g w2 g2:=by
 have h:=Step.trans s t (AP2 _);exact⟨h.os,h.tape,h.output,h.size,h.no,h.Jb,λ_ k _ _ hk hm=>(hm (List.mem_range.2 hk)).elim,h.AY⟩
theorem Aiy{l:ATB AV}{d:Nat}{x:AV}(h:l[d]?=some x):l.set d x=l:=by
 apply AQ2;intro i;rw[AQl];split
 ·rename_i he;subst he;split
  ·exact h.symm
  ·rename_i hl;rw[AQA (Nat.le_of_not_lt hl)]
 ·rfl
inductive Want (all:List Oper) (σ:St) (o:Oper):Bool->Prop where
 |plain (h:o.guard=none):Want all σ o true
 |guard {g:Nat} {iE:Bool} {d:Nat} {b:Bool} (h:o.guard=some (g,iE)) (hd:(all[g]?).bind (·.dst)=some d) (hb:σ.AO[d]?=some (.bool b)):Want all σ o (b==iE)
 |nil {g:Nat} {iE:Bool} {d:Nat} (h:o.guard=some (g,iE)) (hd:(all[g]?).bind (·.dst)=some d) (hb:σ.AO[d]?=some .nil):Want all σ o false
theorem Qx{R:Type}{all:ATB Oper}{σ:St}{o:Oper}{Kt Kf:St->ATC R}{r:R}(h:XG all σ o Kt Kf=some r):(Want all σ o true/\Kt σ=some r)\/(Want all σ o false/\Kf σ=some r):=by
 unfold XG at h;split at h
 ·rename_i hg;exact .inl ⟨.plain hg,h⟩
 ·rename_i g iE hg;split at h
  ·cases h
  ·rename_i d hd;split at h
   ·rename_i b hb;have e:({σ with AO:=σ.AO.set d (.bool b)}:St)=σ:=by
     have:=Aiy hb;cases σ;simp only at this⊢;rw[this]
    cases b
    ·simp only[AQb]at h;rw[e]at h;split at h
     ·rename_i hw;subst hw;exact .inr ⟨.guard hg hd hb,h⟩
     ·rename_i hw;have:iE=false:=by simpa using hw
      subst this;exact .inl ⟨.guard hg hd hb,h⟩
    ·simp only[AQc]at h;rw[e]at h;split at h
     ·rename_i hw;subst hw;exact .inl ⟨.guard hg hd hb,h⟩
     ·rename_i hw;have:iE=false:=by simpa using hw
      subst this;exact .inr ⟨.guard hg hd hb,h⟩
   ·rename_i hb;exact .inr ⟨.nil hg hd hb,h⟩
   ·cases h
theorem kB{R:Type}{all:ATB Oper}{σ:St}{o:Oper}{T:Type}{Kt Kf:St->ATC R}{Kt' Kf':St->ATC T}{K:T->ATC R}(h1:∀σ,Kt σ=(Kt' σ).bind K)(h2:∀σ,Kf σ=(Kf' σ).bind K):XG all σ o Kt Kf=(XG all σ o Kt' Kf').bind K:=by
 unfold XG;split
 ·exact h1 _
 ·split
  ·rfl
  ·split
   ·rename_i b _;cases b<;>simp only[AQc,AQb]<;>split<;>first |exact h1 _ |exact h2 _
   ·exact h2 _
   ·rfl
section
variable {P:Program} {en:GV} {R:Type}
theorem uM(he:Z7 en)(σ:St)(o:Oper){T:Type}{K:Ij->ATC R}{K':Ij->ATC T}{k:T->ATC R}(h:∀e,K e=(K' e).bind k):exec en σ o K=(exec en σ o K').bind k:=by
 rw[Tq en he σ o K,Tq en he σ o K'];cases exec en σ o some with
 |none=>rfl
 |some e=>exact h e
theorem UT(he:Z7 en)(all:ATB Oper):∀(is:ATB Nat) (σ:St) (K:St->ATC R),R6 en all is σ K=(R6 en all is σ some).bind K
 |[],_,_=>rfl
 |i::is,σ,K=>by
  simp only[R6];split
  ·rfl
  ·refine kB (λσ=>?_) λσ=>UT he all is _ K;exact uM he σ _ λe=>UT he all is _ K
theorem US(he:Z7 en)(all:ATB Oper)(A:ATB (Nat×ATB Nat)):∀(is done OV:ATB Nat) (σ:St) (K:St->ATC R),U8 en all A is done OV σ K=(U8 en all A is done OV σ some).bind K
 |[],_,_,_,_=>rfl
 |i::is,done,OV,σ,K=>by
  simp only[U8];split
  ·rfl
  ·split
   ·refine kB (λσ=>?_) λσ=>US he all A is _ _ _ K;refine uM he σ _ λe=>?_;split
    ·exact US he all A is _ _ _ K
    ·split
     ·exact US he all A is _ _ _ K
     ·rfl
   ·rfl
theorem AdK{w:World}{g:G}{σ:St}{a:Act}(hs:LC w g σ a){d:Nat}{b:Bool}(h:σ.AO[d]?=some (.bool b)):a.tmps[d]?=some (.bool b):=by
 have h1:=Tn (hs.AO d _ h);have hl:d<a.tmps.size:=by rw[<-hs.len];exact A5 h
 rw[AQQ hl];rw[AQU,AQQ hl]at h1;exact congrArg some h1
theorem AiI{w:World}{g:G}{σ:St}{a:Act}(hs:LC w g σ a){d:Nat}(h:σ.AO[d]?=some .nil):a.tmps[d]?=some (.tuple #[]):=by
 have h1:a.tmps.getD d undef=.tuple #[]:=hs.AO d _ h;have hl:d<a.tmps.size:=by rw[<-hs.len];exact A5 h
 rw[AQQ hl];rw[AQU,AQQ hl]at h1;exact congrArg some h1
theorem Kb{w:World}{g:G}{σ:St}{a:Act}{B9:Array Oper}{o:Oper}{t:Bool}(hs:LC w g σ a)(h:Want B9.toList σ o t):Region.wanted o (yielded B9 a.tmps)=t:=by
 cases h with
 |plain h=>simp[Region.wanted,h]
 |guard h hd hb =>
  have h1:=AdK hs hb;rw[AQa]at hd;simp[Region.wanted,h,yielded,hd,h1]
 |nil h hd hb =>
  have h1:=AiI hs hb;rw[AQa]at hd;simp[Region.wanted,h,yielded,hd,h1]
theorem LC.skip{w:World}{g:G}{σ:St}{a:Act}(h:LC w g σ a)(d:ATC Nat):LC w g (σ.skip d) (a.put d undef) where
 heap:=h.heap
 len:=by simp only[St.skip,dJ,Xm];exact h.len
 AO:=pJ h.len h.AO (show B5 w g _ .nil undef from rfl)
theorem put_defers(a:Act)(d:ATC Tmp)(v:Value):(a.put d v).defers=a.defers:=by cases d<;>rfl
theorem cY(he:EnvOk P en){B9:Array Oper}{m:Nat}{Q:Exit->Act->World->Prop}:∀(is:ATB Nat) (σ σ':St),R6 en B9.toList is σ some=some σ'->m<=σ.Aj.length->m<=σ'.Aj.length/\∀(a:Act) (w:World) (g:G),LC w g σ a ->
    (∀a' w' g',LC w' g' σ' a'->BK m w g w' g'->a'.defers=a.defers->Q .normal a' w')->wpOps P B9 Q is a w
 |[],σ,σ',h,hm=>by
  simp only[R6,APY]at h;subst h;exact⟨hm,λa w g hs hq=>hq a w g hs (BK.refl _ _ _) rfl⟩
 |i::is,σ,σ',h,hm=>by
  simp only[R6]at h;split at h
  ·cases h
  ·rename_i o ho;have xH:B9[i]?=some o:=by rw[<-AQa];exact ho
   rcases Qx h with ⟨hw,h⟩|⟨hw,h⟩
   ·rw[Tq en he.aI]at h;cases hx:exec en σ o some with
    |none=>rw[hx]at h;cases h
    |some e =>
     rw[hx]at h;have QX:=Ts he hx;have Ot:=QX.grow;obtain⟨hm',ih⟩:=cY he (Q:=Q) is _ _ h (AQq hm Ot);refine⟨hm',λa w g hs hq=>?_⟩;simp only[wpOps,xH];rw[AQe (Kb hs hw)];refine .inl (QX.wp a w g hs _ Q λv w' g' hH hv BO=>?_);exact ih _ _ _ (hs.after Ot hH hv BO) λa'' w'' g'' AvY AhA hd=>hq a'' w'' g'' AvY ((BO.zU hm).trans AhA) (by rw[hd,put_defers])
   ·obtain⟨hm',ih⟩:=cY he (Q:=Q) is _ _ h hm;refine⟨hm',λa w g hs hq=>?_⟩;simp only[wpOps,xH];rw[Kb hs hw];simp only[AQM,ARo];exact ih _ _ _ (hs.skip o.dst) λa'' w'' g'' AvY AhA hd=>hq a'' w'' g'' AvY AhA (by rw[hd,put_defers])
end
theorem Vp{n:Nat}{ks:ATB Nat}{k:Nat}:k∈aZ n ks↔k<n/\k∈ks:=by simp[aZ]
section
variable {w:World} {g:G} {n:Nat}
theorem Al.Eo{ks:ATB Nat}(h:∀k∈ks,k<n){b:Nat}(a:Al g.own ks b):Al g.own (aZ n ks) b:=a.mono λk hk=>Vp.2 ⟨h k hk,hk⟩
theorem jS(a:AV):(a.Eo n).OL=a.OL:=by cases a<;>rfl
theorem ga(a:AV):(a.Eo n).isAgg=a.isAgg:=by cases a<;>rfl
theorem uw(a:AV):(a.Eo n).Dq=a.Dq:=by cases a<;>rfl
theorem CF.Eo:∀(a:AV) (m:Bool) {cs:ATB Value},CF w g n m a cs->CF w g n m (a.Eo n) cs
 |.AA ks t x,false,cs,⟨hk,r⟩=>⟨λk h=>(Vp.1 h).1,r.mono λb a=>⟨a.Eo hk,rfl⟩⟩
 |.zs,false,_,h=>h
 |.AH _,false,_,h=>h
 |.mp _,false,_,h=>h
 |.ptr _ _ _ _,false,_,h=>h
 |.Fw ks t x,false,cs,⟨hk,b,off,ds,e,ha,r,hc⟩=>⟨λk h=>(Vp.1 h).1,b,off,ds,e,ha.Eo hk,r.mono λb a=>⟨a.Eo hk,rfl⟩,hc⟩
 |.M8,false,_,h=>h
 |.UI _ _ _ _ _,false,_,h=>h
 |.WE _ _ _ _ _ _,false,_,h=>h
 |.pr a b,false,_,⟨c,e,he,h1,h2⟩=>⟨c,e,he,CF.Eo a _ h1,CF.Eo b _ h2⟩
 |.fn f c,false,_,⟨vs,e,hx⟩=>⟨vs,e,CF.Eo c true hx⟩
 |.un k,false,_,h=>h
 |.cons a b,true,_,⟨v,r,e,h1,h2⟩=>by
  refine⟨v,r,e,?_,CF.Eo b true h2⟩;rw[jS,ga];exact h1.imp id λ⟨cs,hx,hv⟩=>⟨cs,CF.Eo a _ hx,hv⟩
 |.nil,true,_,h=>h
 |.cons _ _,false,_,h=>h.elim
 |.nil,false,_,h=>h.elim
 |.UI _ _ _ _ _,true,_,h=>h.elim
 |.WE _ _ _ _ _ _,true,_,h=>h.elim
 |.AA _ _ _,true,_,h=>h.elim
 |.zs,true,_,h=>h.elim
 |.AH _,true,_,h=>h.elim
 |.mp _,true,_,h=>h.elim
 |.ptr _ _ _ _,true,_,h=>h.elim
 |.Fw _ _ _,true,_,h=>h.elim
 |.M8,true,_,h=>h.elim
 |.pr _ _,true,_,h=>h.elim
 |.fn _ _,true,_,h=>h.elim
 |.un _,true,_,h=>h.elim
theorem B5.Eo{a:AV}{v:Value}(h:B5 w g n a v):B5 w g n (a.Eo n) v:=by
 cases ht:a.Dq with
 |false =>
  rw[B5.iff ht]at h;rw[B5.iff (by rw[uw];exact ht),jS,ga];exact h.imp id λ⟨cs,hx,hv⟩=>⟨cs,CF.Eo a _ hx,hv⟩
 |true =>
  cases a with
  |cons a b=>obtain⟨vs,e,h⟩:=h;exact⟨vs,e,CF.Eo _ true h⟩
  |nil=>exact h
  |_=>cases ht
theorem Nl.Eo{k:Nat}{b:Blk}(h:Nl w g n k b):Nl w g n k (b.Eo n):=by
 cases b with
 |Ba=>trivial
 |map m kt vt es st =>
  cases m with
  |Av=>exact h
  |sh ks =>
   obtain⟨RV,b,HF,DW,ha,ho,hh,S8,hm⟩:=h;exact⟨λj hj=>(Vp.1 hj).1,b,HF,DW,ha,ho,hh,S8,hm.on λi x c r=>by
    exact r.mono λb a=>⟨a.Eo RV,rfl⟩⟩
 |R1 e t xs i p=>exact h
 |tail e t xs=>exact h
 |box a =>
  obtain⟨h1,b,cs,e,ha,ho,hh,hx⟩:=h;exact⟨h1,b,cs,e,ha,ho,hh,CF.Eo a _ hx⟩
 |row e m t xs =>
  cases m with
  |Av=>exact h
  |sh ks =>
   obtain⟨RV,hlen,QN,BU,hr⟩:=h;refine⟨λj hj=>(Vp.1 hj).1,hlen,QN,BU,hr.imp id λ⟨b,Bq,ds,ha,ho,hh,h1,h2,h3,h4,hc⟩=>⟨b,Bq,ds,ha,ho,hh,h1,h2,h3,h4,?_⟩⟩;exact hc.mono λx c r=>r.mono λb a=>⟨a.Eo RV,rfl⟩
end
def G.pick(g:G)(π:ATB Nat):G:=⟨λb=>match g.own b with |.BL k r=>if k∈π then .BL (idxOf π k) r else .no |t=>t,λj=>g.AY (π.getD j 0)⟩
theorem UX{bs:ATB Blk}{m:Nat}{π Cs:ATB Nat}(h:Adu bs m π Cs=true):π.take m=List.range m/\nodup π=true/\(∀k∈Cs,k∈π)/\∀k∈π,∃b,bs[k]?=some b/\∀j∈b.Cs,j∈π:=by
 simp only[Adu,AP3,AQ8]at h
 grind
theorem Ail{m:Nat}{π:ATB Nat}(h:π.take m=List.range m):m<=π.length/\∀j,j<m->π[j]?=some j:=by
 have hl:(π.take m).length=m:=by grind
 rw[AQh]at hl;refine⟨by omega,λj hj=>?_⟩;have:(π.take m)[j]?=some j:=by grind
 grind
section
variable {w:World} {g:G} {bs:ATB Blk} {π Cs:ATB Nat} {m:Nat}
theorem dG{k:Nat}(hk:k∈π):Ren (idxOf π) g (g.pick π) π.length k where
 lt:=rI hk
 AY:=by
  have:=rH hk;simp[G.pick,this]
 own b r h:=by simp[G.pick,h,hk]
theorem dF{b:Nat}(h:g.own b=.Jb):(g.pick π).own b=.Jb:=by simp[G.pick,h]
theorem pn(H:Bi w g bs)(h:Adu bs m π Cs=true):Bi w (g.pick π) (π.map λk=>(((bs[k]?).getD .Ba).OU (idxOf π)).Eo π.length):=by
 obtain⟨_,hn,_,Il⟩:=UX h;refine⟨λb hb=>by simp[G.pick,H.BZ b hb],λj x hx=>?_⟩;rw[AQp]at hx;cases hj:π[j]? with
 |none=>grind
 |some k =>
  rw[hj]at hx;injection hx with hx;subst hx;have hk :=ARp hj;obtain⟨b,hb,RZ⟩:=Il k hk;have:=(H.MG k b hb).OU    (λb h=>dF h) (dG hk) (λj hj=>dG (RZ j hj));rw[ft hn hj]at this;simp only[hb,AP8];exact this.Eo
theorem po(h:Adu bs m π Cs=true):BK m w g w (g.pick π)/\m<=π.length:=by
 obtain⟨ht,hn,_,Il⟩:=UX h;obtain⟨h1,h2⟩:=Ail ht;refine⟨⟨rfl,rfl,rfl,AP2 _,λb _ h=>⟨by simp[G.pick,h],rfl⟩,λb h=>⟨dF h,rfl⟩,λb k p h hk hm=>(hm (List.mem_range.2 hk)).elim,λk hk=>?_⟩,h1⟩;simp[G.pick,h2 k hk]
theorem oJ:∀{Bc:ATB Nat} {l:ATB AV} {j i:Nat} {x:AV},(Sc Bc j l)[i]?=some x->∃y,l[i]?=some y/\(x=y\/x=.un 0)
 |Bc,a::r,j,0,x,h=>by
  simp only[Sc,List.getElem?_cons_zero,APY]at h
  grind
 |Bc,a::r,j,i+1,x,h=>by
  simp only[Sc]at h;obtain⟨y,hy,hx⟩:=oJ h
  grind
 |_,[],_,_,_,h=>by simp[Sc]at h
theorem fu(Bc:ATB Nat):∀(l:ATB AV) (j:Nat),(Sc Bc j l).length=l.length
 |[],_=>rfl
 |_::r,j=>by simp[Sc,fu Bc r]
theorem Amy{σ σ0:St}{l:ATB Nat}(h:σ.Ay m l=some σ0){a:Act}(hs:LC w g σ a):∃g0,LC w g0 σ0 a/\BK m w g w g0/\m<=σ0.Aj.length:=by
 unfold St.Ay at h
 dsimp only at h
 split at h
 ·rename_i hp;injection h with h;subst h;obtain⟨BO,hm⟩:=po   hp;obtain⟨_,_,RZ,_⟩:=UX hp;refine⟨_,⟨pn hs.heap hp,by simp[fu];exact hs.len,λi x hx=>?_⟩,BO,by grind⟩;simp only[AP8];rw[AQp]at hx;cases hq:(Sc l 0 σ.AO)[i]? with
  |none=>grind
  |some y =>
   rw[hq]at hx;injection hx with hx;subst hx;obtain⟨z,hz,hyz⟩:=oJ hq;rcases hyz with rfl |rfl
   ·exact((hs.AO i y hz).OU (λb h=>dF h) λk hk=>dG (RZ k (List.mem_flatMap.2 ⟨y,ARp hq,hk⟩))).Eo
   ·exact RQ
 ·grind
theorem AgW{m:Nat}{Z:ATB Nat}:BK m w g w (g.X0 Z) :=
 ⟨rfl,rfl,rfl,AP2 _,λb _ h=>⟨by simp[G.X0,h],rfl⟩,λb h=>⟨ri h,rfl⟩,λb k p h hk hm=>(hm (List.mem_range.2 hk)).elim,λk hk=>rfl⟩
theorem rh{bs:ATB Blk}(H:Bi w g bs){m:Nat}{t:Ty}{v v':AV}{Gp:ATB Blk}(h:AgV m t v bs=some (v',Gp)) :
    ∃g',Bi w g' Gp/\Gp.length=bs.length/\BK m w g w g'/\(∀a u,B5 w g bs.length a u->B5 w g' bs.length a.ck u)/\(∀u,B5 w g bs.length v u->B5 w g' bs.length v' u)/\(∀k,g'.AY k=g.AY k)/\∀cs,CF w g bs.length false v cs->CF w g' bs.length false v' cs:=by
 unfold AgV at h;split at h
 ·rename_i x hr;obtain⟨rfl,rfl⟩:=h;have key:∀cs,CF w g bs.length false v cs->CF w (g.X0 ((v.Vm bs).filter λk=>!decide (k<m))) bs.length false (.AA ((v.Vm bs).filter λk=>decide (k<m)) t x) cs:=by
   intro cs S6;obtain⟨mV,Bp⟩:=Rh H t v x cs hr S6;refine⟨λk hk=>Bp k (List.mem_filter.1 hk).1,mV.mono λb a=>⟨a.Sp.mono λk hk=>?_,rfl⟩⟩
   grind
  refine⟨g.X0 _,uV H _,by simp[A7],AgW,λa u h=>h.Sp _,λu hu=>?_,λk=>rfl,?_⟩
  ·obtain⟨h1,h2⟩:=WH hr;obtain⟨cs,S6,hv⟩:=B3 h1 h2 hu;exact Bs  rfl (key cs S6) (by rw[show(AV.AA _ t x).isAgg=v.isAgg from(bL hr).symm];exact hv)
  ·grind
 ·grind
end
section
variable {w:World} {g:G} {bs:ATB Blk} {m:Nat}
end
section
variable {w:World} {g:G} {bs:ATB Blk} {m:Nat}
theorem yD(H:Bi w g bs){c:Co}{a a':AV}{nb:ATB Blk}(h:coV bs c a=some (a',nb)){v:Value}(hx:B5 w g bs.length a v):∃g',Bi w g' (bs++nb)/\B5 w g' (bs++nb).length a' v/\Step [] bs.length w g w g':=by
 have sq:a'=a/\nb=[]->∃g',Bi w g' (bs++nb)/\B5 w g' (bs++nb).length a' v/\Step [] bs.length w g w g':=by
  rintro⟨rfl,rfl⟩
  exact⟨g,by grind,by grind,Step.refl _ _ _ _⟩
 have AO9:a.Dq=true\/a.OL=true->a'=a/\nb=[]:=by
  intro hq;cases c with
  |AA t =>
   simp only[coV]at h;split at h
   ·rename_i y hy;obtain⟨h1,h2⟩:=WH hy
    grind
   ·grind
  |ic ks=>cases a<;>simp_all [coV,AV.Dq,AV.OL]
  |row p e t Av =>
   have:a.Wu p≠some .zs:=by
    cases a<;>simp[AV.Dq,AV.OL]at hq<;>cases p<;>simp[AV.Wu,AV.cf]
   simp only[coV]at h
   grind
 by_cases ht:a.Dq=true
 ·grind
 ·by_cases hu:a.OL=true
  ·grind
  ·obtain⟨cs,S6,hv⟩:=B3 (by grind) (by grind) hx;obtain⟨g',h1,h2,h3,h4⟩:=yE H h S6;exact⟨g',h1,Bs (WC h2) h2 (by grind),h4⟩
theorem Avf{σ σ':St}{s:Nat}{b:Bool}{c:Co}(h:coS σ s b c=some σ'){a:Act}(hs:LC w g σ a)(hm:m<=σ.Aj.length):∃g',LC w g' σ' a/\BK m w g w g'/\m<=σ'.Aj.length:=by
 unfold coS at h;split at h
 ·grind
 ·rename_i v hv;cases b with
  |false =>
   simp only[AQb]at h;split at h
   ·rename_i v' nb hco;injection h with h;subst h;obtain⟨g',h1,h2,h3⟩:=yD hs.heap hco (hs.AO s v hv);refine⟨g',⟨h1,by simp only[AP5];exact hs.len,λi x hx=>?_⟩,h3.zU hm,by grind⟩;rw[AQl]at hx;split at hx
    ·grind
    ·exact(hs.AO i x hx).RP h3 (by simp)
   ·grind
  |true =>
   split at h
   ·rename_i k i p o;split at h
    ·rename_i a0 hb;split at h
     ·rename_i a' nb hco;injection h with h;subst h;obtain⟨hlen,bb,cs,e,ha,ho,hh,hx⟩:=hs.heap.MG k _ hb;obtain⟨g',h1,h2,h3,h4⟩:=yE hs.heap hco hx;have hk:=A5 hb;have fp:(σ.Aj.set k (.box a')++nb).length=(σ.Aj++nb).length:=by simp
      refine⟨g',⟨⟨h1.BZ,λj x hj=>?_⟩,hs.len,λi x vC=>(hs.AO i x vC).RP h4 (by simp)⟩,h4.zU hm,by grind⟩;rw[fp];rw[AQm]at hj;split at hj
      ·rename_i eC;rw[AP5]at eC;rw[AQl]at hj;split at hj
       ·rename_i ek;subst ek;injection hj with hj;subst hj;have hl:=h4.BL bb k [] ho hk (by simp);exact⟨by rw[h4.AY k hk];exact hlen,bb,cs,e,by rw[h4.AY k hk];exact ha,hl.1,hh,h2⟩
       ·exact h1.MG j x (by grind)
      ·rename_i eC;rw[AP5]at eC hj;exact h1.MG j x (by grind)
     ·grind
    ·grind
   ·grind
theorem jV:∀{l:ATB (Nat×Bool×Co)} {σ σ':St} {g:G},cE l σ=some σ'->∀{a:Act},LC w g σ a->m<=σ.Aj.length->∃g',LC w g' σ' a/\BK m w g w g'/\m<=σ'.Aj.length
 |[],σ,σ',g,h,a,hs,hm=>by
  simp only[cE,APY]at h;subst h;exact⟨g,hs,BK.refl _ _ _,hm⟩
 |(s,b,c)::r,σ,σ',g,h,a,hs,hm=>by
  simp only[cE]at h;split at h
  ·rename_i σ1 h1;obtain⟨g1,Sb,Se,Ut⟩:=Avf h1 hs hm;obtain⟨g2,YC,Qp,S7⟩:=jV h Sb Ut;exact⟨g2,YC,Se.trans Qp,S7⟩
  ·grind
theorem lh{bs:ATB Blk}(H:Bi w g bs){k e:Nat}{md:RM}{t:Ty}{xs:ATB t.V}(hb:bs[k]?=some (.row e md t xs))(QW:k∉md.Cs) :
    ∃g',Bi w g' (Blk.G3 (Bd [k] bs) [k]++[.row e md t xs])/\Step [k] bs.length w g w g'/\g'.AY bs.length=g.AY k:=by
 obtain⟨RV,hlen,QN,BU,hr⟩:=H.MG k _ hb
 let n:=bs.length
 let f:Nat->ATB Nat->S4:=λj r=>if j=k then .BL n r else .BL j r
 let g':=g.VQ f none n (g.AY k)
 have st:Step [k] n w g w g':=Step.VQ H.BZ rfl rfl rfl (AP2 _) (λ_ _ _=>rfl) (λq h=>by grind) (AP2 _) λj r _ hm=>by
  grind
 have QM:g'.AY n=g.AY k:=by simp[g',G.VQ]
 refine⟨g',H.b8 st (Nr H.BZ (AP2 _) λq h=>by grind) (by simp[A7,AF]) λj y hj=>?_,st,QM⟩;rw[AQm]at hj;split at hj
 ·rcases Lh hj with h |⟨rr,h⟩
  ·grind
  ·obtain⟨y',iV,rfl⟩:=Dy h
   grind
 ·rename_i Bp;rw[A7,AF]at hj Bp;have oD:j-bs.length=0:=by
   grind
  rw[oD]at hj;obtain rfl:j=n:=by omega
  simp only[List.getElem?_cons_zero,APY]at hj;subst hj;refine .inr (.inr ⟨λj hj=>by have:=RV j hj;simp[A7,AF];omega,by grind,by grind,BU,?_⟩);rw[QM];refine hr.imp id λ⟨b,Bq,ds,ha,Cr,Aha,p1,p2,p3,p4,Ns⟩=>⟨b,Bq,ds,ha,by rw[I0 (by simp) Cr];simp[f],Aha,p1,p2,p3,p4,?_⟩;rw[D1];refine(D1.1 Ns).mono λi x c VR=>VR.on ?_;cases md with
  |Av=>exact λb q hb=>⟨by rw[I0 (by simp) hb];simp[f],rfl⟩
  |sh ks =>
   intro b hb;rcases hb with hb |⟨j,hj,r,hb⟩
   ·exact⟨.inl (Wq (by simp) hb),rfl⟩
   ·refine⟨.inr ⟨j,hj,r,?_⟩,rfl⟩;have:j≠k:=λe=>QW (e▸hj);rw[I0 (by simp) hb];simp[f,this]
theorem rY:∀{l:ATB Nat} {σ σ':St} {g:G},mvS m l σ=some σ'->∀{a:Act},LC w g σ a->m<=σ.Aj.length->∃g',LC w g' σ' a/\BK m w g w g'/\m<=σ'.Aj.length
 |[],σ,σ',g,h,a,hs,hm=>by
  simp only[mvS,APY]at h;subst h;exact⟨g,hs,BK.refl _ _ _,hm⟩
 |s::r,σ,σ',g,h,a,hs,hm=>by
  simp only[mvS]at h;split at h
  ·rename_i k hv;split at h
   ·split at h
    ·rename_i e md t xs hb;split at h
     ·grind
     ·rename_i QW;obtain⟨g1,H1,st,VP⟩:=lh hs.heap hb (by grind);have hl:(Blk.G3 (Bd [k] σ.Aj) [k]++[Blk.row e md t xs]).length=σ.Aj.length+1:=by simp[A7,AF]
      have Sb:LC w g1 ⟨(U7 [k] σ.AO).set s (.AH σ.Aj.length),Blk.G3 (Bd [k] σ.Aj) [k]++[.row e md t xs]⟩ a:=by
       refine⟨H1,by simp[U7];exact hs.len,λi x hx=>?_⟩;simp only[hl];rw[AQl]at hx;split at hx
       ·rename_i e';subst e';split at hx
        ·injection hx with hx;subst hx;obtain⟨hk,hv2⟩:=EZ (hs.AO s _ hv);rw[hv2];exact Bs  rfl ⟨AQC _,by grind⟩ rfl
        ·grind
       ·obtain⟨y,hy,rfl⟩:=ZH hx;exact(hs.AO i y hy).step st (AQx _)
      obtain⟨g2,YC,Qp,S7⟩:=rY h Sb (by grind);exact⟨g2,YC,(st.zU hm).trans Qp,S7⟩
    ·grind
   ·exact rY h hs hm
  ·exact rY h hs hm
theorem Afh{w:World}{g:G}{n j N:Nat}{p:ATB Nat}{a a2:AV}{v:Value}(h:B5 w g n a v)(hp:a.Wu p=some (.AH j))(HY:a.bW p (.AH N)=some a2)(hN:N<n)(VP:g.AY N=g.AY j):B5 w g n a2 v:=by
 cases p with
 |nil =>
  simp only[AV.Wu,APY]at hp;simp only[AV.bW,APY]at HY;subst hp;subst HY;obtain⟨_,hv⟩:=EZ h;rw[hv,<-VP];exact Bs  rfl ⟨hN,rfl⟩ rfl
 |cons f p =>
  have h2 :=by
   simp only[AV.bW]at HY;split at HY
   ·split at HY
    ·exact bU HY
    ·grind
   ·grind
  have h1:a.isAgg=true/\a.Dq=false/\a.OL=false:=by
   simp only[AV.Wu]at hp;cases a with
   |pr x y=>exact⟨rfl,rfl,rfl⟩
   |AA ks t x =>
    cases t with
    |AE b c=>exact⟨rfl,rfl,rfl⟩
    |_=>simp[AV.cf,Yx]at hp
   |_=>simp[AV.cf]at hp
  obtain⟨cs,S6,hv⟩:=B3 h1.2.1 h1.2.2 h;obtain⟨c0,c1,c2,e1,_,hr,bB⟩:=SE _ _ cs _ S6 hp;obtain⟨_,Pp⟩:=hr;have xK:=bB _ a2 c1 HY ⟨hN,by grind⟩;rw[<-e1]at xK;have ht:a2.Dq=false:=by cases a2<;>first |rfl |cases h2
  exact Bs ht xK (by grind)
theorem Ah7{m s:Nat}{p:ATB Nat}{a:Act}{a0:AV}{σ σ2:St}{g:G}(xI:σ.AO[s]?=some a0)(h:mvV m s p a0 σ=some σ2)(hs:LC w g σ a)(hm:m<=σ.Aj.length):∃g',LC w g' σ2 a/\BK m w g w g'/\m<=σ2.Aj.length:=by
 unfold mvV at h;split at h
 ·split at h
  ·split at h
   ·rename_i e md t xs hj;split at h
    ·grind
    ·rename_i QW;split at h
     ·rename_i j' a2 gn HY;split at h
      ·rename_i hc;subst hc;injection h with h;subst h;obtain⟨g1,H1,st,VP⟩:=lh hs.heap hj (by grind);have hl:(Blk.G3 (Bd [j'] σ.Aj) [j']++[Blk.row e md t xs]).length=σ.Aj.length+1:=by simp[A7,AF]
       refine⟨g1,⟨H1,by simp[U7];exact hs.len,λi x hx=>?_⟩,st.zU hm,by grind⟩;rw[hl];rcases Tg hx with ⟨rfl,rfl⟩|⟨Ke,hx⟩
       ·have hv:=(hs.AO i a0 xI).step st (AQx _);exact Afh hv gn HY (AQC _) (by rw[VP,st.AY j' (A5 hj)])
       ·obtain⟨y,hy,rfl⟩:=ZH (show(U7 [j'] _)[i]?=some x from hx);exact(hs.AO i y hy).step st (AQx _)
      ·grind
     ·grind
   ·grind
  ·injection h with h;subst h;exact⟨g,hs,BK.refl _ _ _,hm⟩
 ·grind
theorem zl{m k:Nat}{p:ATB Nat}{w:World}{a:Act}{σ σ2:St}{g:G}(h:mvB m k p σ=some σ2)(hs:LC w g σ a)(hm:m<=σ.Aj.length):∃g',LC w g' σ2 a/\BK m w g w g'/\m<=σ2.Aj.length:=by
 unfold mvB at h;split at h
 ·rename_i a0 hb;split at h
  ·split at h
   ·split at h
    ·rename_i e md t xs hj;split at h
     ·grind
     ·rename_i QW;split at h
      ·rename_i j' a2 gn HY;split at h
       ·rename_i hc;obtain⟨rfl,hkj⟩:=hc;injection h with h;subst h;obtain⟨g1,H1,st,VP⟩:=lh hs.heap hj (by grind);have hl:(Blk.G3 (Bd [j'] σ.Aj) [j']++[Blk.row e md t xs]).length=σ.Aj.length+1:=by simp[A7,AF]
        have hk:=A5 hb;have ik:(Blk.G3 (Bd [j'] σ.Aj) [j']++[Blk.row e md t xs])[k]?=some (.box (a0.drop λq=>[j'].contains q)):=by
         rw[AQj (by grind)];simp only[Blk.G3,Bd,AQl,AQp,hb,Option.map_some,Blk.drop,AQf (λe:j'=k=>hkj e.symm)]
        obtain⟨h1,bb,cs,el,ha,ho,hh,hx⟩:=H1.MG k _ ik;rw[hl]at hx;obtain⟨c0,c1,c2,e1,_,hr,bB⟩:=SE p _ cs.toList _ hx gn;obtain⟨eC,Pp⟩:=hr;have xK:=bB (.AH σ.Aj.length) a2 c1 HY ⟨AQC _,by rw[Pp,VP,st.AY j' (A5 hj)]⟩;rw[<-e1]at xK;refine⟨g1,⟨⟨H1.BZ,λq x hq=>?_⟩,by simp[U7];exact hs.len,λi x hx=>?_⟩,st.zU hm,by grind⟩
        ·rw[AP5,hl];rw[AQl]at hq;split at hq
         ·rename_i e';subst e';split at hq
          ·injection hq with hq;subst hq;exact⟨h1,bb,cs,el,ha,ho,hh,xK⟩
          ·grind
         ·have:=H1.MG q x hq;rwa [hl]at this
        ·simp only[AP5,hl];obtain⟨y,hy,rfl⟩:=ZH (show(U7 [j'] σ.AO)[i]?=some x from hx);exact(hs.AO i y hy).step st (AQx _)
       ·grind
      ·grind
    ·grind
   ·injection h with h;subst h;exact⟨g,hs,BK.refl _ _ _,hm⟩
  ·grind
 ·grind
theorem Abo:∀{l:ATB (Nat×ATB Nat)} {σ σ':St} {g:G},Ah6 m l σ=some σ'->∀{a:Act},LC w g σ a->m<=σ.Aj.length->∃g',LC w g' σ' a/\BK m w g w g'/\m<=σ'.Aj.length
 |[],σ,σ',g,h,a,hs,hm=>by
  simp only[Ah6,APY]at h;subst h;exact⟨g,hs,BK.refl _ _ _,hm⟩
 |(s,p)::r,σ,σ',g,h,a,hs,hm=>by
  simp only[Ah6]at h;split at h
  ·rename_i σ1 h1;have h2 :=by
    unfold mvP at h1;split at h1
    ·exact zl h1 hs hm
    ·rename_i a0 xI;exact Ah7 xI h1 hs hm
    ·grind
   obtain⟨g1,Sb,Se,Ut⟩:=h2;obtain⟨g2,YC,Qp,S7⟩:=Abo h Sb Ut;exact⟨g2,YC,Se.trans Qp,S7⟩
  ·grind
theorem db:∀{l:ATB (Nat×Bool×Ty)} {σ σ':St} {g:G},rf m l σ=some σ'->∀{a:Act},LC w g σ a->m<=σ.Aj.length->∃g',LC w g' σ' a/\BK m w g w g'/\m<=σ'.Aj.length
 |[],σ,σ',g,h,a,hs,hm=>by
  simp only[rf,APY]at h;subst h;exact⟨g,hs,BK.refl _ _ _,hm⟩
 |(s,false,t)::r,σ,σ',g,h,a,hs,hm=>by
  simp only[rf]at h;split at h
  ·exact db h hs hm
  ·rename_i v _ hv;split at h
   ·rename_i v' Gp hf;obtain⟨g1,H1,hl,Se,ha,iT,_,_⟩:=rh hs.heap hf;have Sb:LC w g1 ⟨(σ.AO.map AV.ck).set s v',Gp⟩ a:=by
     refine⟨H1,by simpa using hs.len,λi x hx=>?_⟩;simp only[hl];rw[AQl]at hx;split at hx
     ·rename_i e;subst e;split at hx
      ·injection hx with hx;subst hx;exact iT _ (hs.AO s v hv)
      ·grind
     ·rw[AQp]at hx;cases hq:σ.AO[i]? with
      |none=>grind
      |some y =>
       rw[hq]at hx;injection hx with hx;subst hx;exact ha _ _ (hs.AO i y hq)
    obtain⟨g2,YC,Qp,S7⟩:=db h Sb (by grind);exact⟨g2,YC,Se.trans Qp,S7⟩
   ·grind
  ·grind
 |(s,true,t)::r,σ,σ',g,h,a,hs,hm=>by
  simp only[rf]at h;split at h
  ·rename_i k _ _ _ hv;split at h
   ·rename_i a0 hb;split at h
    ·rename_i a' Gp hf;obtain⟨g1,H1,hl,Se,ha,iT,VP,kM⟩:=rh hs.heap hf;split at h
     ·rename_i a1 ik;have Sb:LC w g1 ⟨σ.AO.map AV.ck,Gp.set k (.box a')⟩ a:=by
       refine⟨⟨H1.BZ,λj x hj=>?_⟩,by simpa using hs.len,λi x hx=>?_⟩
       ·rw[AP5];rw[AQl]at hj;split at hj
        ·rename_i e;subst e;split at hj
         ·injection hj with hj;subst hj;obtain⟨p1,b,cs,e,ha1,ho,hh,hx⟩:=H1.MG k _ ik;obtain⟨q1,b2,cs2,e2,ha2,ho2,hh2,xK⟩:=hs.heap.MG k _ hb;rw[VP,ha2]at ha1;injection ha1 with ha1;injection ha1 with ha1;subst ha1;rw[hh2]at hh;injection hh with hh;injection hh with hh;exact⟨p1,b2,cs2,e2,by grind,ho,hh2,by grind⟩
         ·grind
        ·exact H1.MG j x hj
       ·simp only[AP5,hl];rw[AQp]at hx;cases hq:σ.AO[i]? with
        |none=>grind
        |some y =>
         rw[hq]at hx;injection hx with hx;subst hx;exact ha _ _ (hs.AO i y hq)
      obtain⟨g2,YC,Qp,S7⟩:=db h Sb (by grind);exact⟨g2,YC,Se.trans Qp,S7⟩
     ·grind
    ·grind
   ·grind
  ·exact db h hs hm
theorem z6{ks:ATB Nat}{n:Nat}(hk:∀j∈ks,j<n):∀{a:AV} {cs:ATB Value},CF w g n false a cs->CF w g n false (a.wid ks) cs
 |.AA l t x,cs,h=>by
  unfold AV.wid;split
  ·rename_i hc;have bD:∀j∈l,j∈ks:=λj hj=>by grind
   exact⟨hk,h.2.mono λb a=>⟨a.mono bD,rfl⟩⟩
  ·grind
 |.pr _ _,_,⟨c,d,e,h1,h2⟩=>⟨c,d,e,z6 hk h1,z6 hk h2⟩
 |.zs,_,h=>h
 |.AH _,_,h=>h
 |.ptr _ _ _ _,_,h=>h
 |.Fw _ _ _,_,h=>h
 |.M8,_,h=>h
 |.UI _ _ _ _ _,_,h=>h
 |.WE _ _ _ _ _ _,_,h=>h
 |.mp _,_,h=>h
 |.fn _ _,_,h=>h
 |.un _,_,h=>h
 |.cons _ _,_,h=>h.elim
 |.nil,_,h=>h.elim
theorem sS:∀{l:ATB (Nat×ATB Nat)} {bs Gp:ATB Blk},sR l bs=some Gp->Bi w g bs->Bi w g Gp/\Gp.length=bs.length
 |[],bs,Gp,h,H=>by
  simp only[sR,APY]at h;subst h;exact⟨H,rfl⟩
 |(k,ks)::r,bs,Gp,h,H=>by
  simp only[sR]at h;split at h
  ·rename_i e l t xs hb;split at h
   ·rename_i hc;rw[AP3]at hc;have bD:∀j∈l,j∈ks:=λj hj=>by grind
    have Bp:∀j∈ks,j<bs.length:=λj hj=>by grind
    have H1:Bi w g (bs.set k (.row e (.sh ks) t xs)):=by
     refine⟨H.BZ,λj x hx=>?_⟩;rw[AP5];rw[AQl]at hx;split at hx
     ·rename_i ek;subst ek;split at hx
      ·injection hx with hx;subst hx;obtain⟨RV,hlen,QN,BU,hr⟩:=H.MG k _ hb;refine⟨Bp,hlen,QN,BU,hr.imp id λ⟨b,Bq,ds,ha,ho,hh,h1,h2,h3,h4,hc⟩=>⟨b,Bq,ds,ha,ho,hh,h1,h2,h3,h4,?_⟩⟩;exact hc.mono λx c r=>r.mono λb a=>⟨a.mono bD,rfl⟩
      ·grind
     ·exact H.MG j x hx
    obtain⟨H2,hl⟩:=sS h H1
    grind
   ·grind
  ·rename_i a hb;split at h
   ·rename_i hc;have Bp:∀j∈ks,j<bs.length:=λj hj=>by grind
    have H1:Bi w g (bs.set k (.box (a.wid ks))):=by
     refine⟨H.BZ,λj x hx=>?_⟩;rw[AP5];rw[AQl]at hx;split at hx
     ·rename_i ek;subst ek;split at hx
      ·injection hx with hx;subst hx;obtain⟨hlen,b,cs,e,ha,ho,hh,hr⟩:=H.MG k _ hb;exact⟨hlen,b,cs,e,ha,ho,hh,z6 Bp hr⟩
      ·grind
     ·exact H.MG j x hx
    obtain⟨H2,hl⟩:=sS h H1
    grind
   ·grind
  ·grind
theorem XI{h:SH}{σ σ':St}(hh:σ.head h m=some σ'){a:Act}(hs:LC w g σ a)(hm:m<=σ.Aj.length):∃g',LC w g' σ' a/\BK m w g w g'/\m<=σ'.Aj.length:=by
 unfold St.head at hh;split at hh
 ·grind
 ·rename_i σ0 h0;rw[AQP]at h0;obtain⟨σz,hz,h0⟩:=h0;rw[AQP]at hz;obtain⟨σy,hy,hz⟩:=hz;obtain⟨gy,hsy,sty,hmy⟩:=rY hy hs hm;obtain⟨gz,MQ,AKj,hmz⟩:=Abo hz hsy hmy;have stz:=sty.trans AKj;obtain⟨g0,xI,st0,yX⟩:=db h0 MQ hmz;split at hh
  ·grind
  ·rename_i σ1 h1;obtain⟨g1,Sb,Se,Ut⟩:=jV h1 xI yX;split at hh
   ·grind
   ·rename_i σ2 h2;obtain⟨g2,YC,Qp,S7⟩:=Amy h2 Sb;split at hh
    ·grind
    ·rename_i bs h3;obtain⟨H3,hl⟩:=sS h3 YC.heap;have vx:LC w g2 ⟨σ2.AO,bs⟩ a:=⟨H3,YC.len,λi x hx=>by simp only[hl];exact YC.AO i x hx⟩;obtain⟨g3,hs4,st3,hm3⟩:=jV hh vx (by simp only[hl];exact S7);exact⟨g3,hs4,(((stz.trans st0).trans Se).trans Qp).trans st3,hm3⟩
end
theorem AlJ{σ σ':St}{s:Nat}{b:Bool}{c:Co}(h:coS σ s b c=some σ'):σ.Aj.length<=σ'.Aj.length:=by
 unfold coS at h;split at h
 ·grind
 grind
theorem oa:∀{l:ATB (Nat×Bool×Co)} {σ σ':St},cE l σ=some σ'->σ.Aj.length<=σ'.Aj.length
 |[],σ,σ',h=>by
  simp only[cE,APY]at h;subst h;exact AP2 _
 |(s,b,c)::r,σ,σ',h=>by
  simp only[cE]at h;split at h
  ·rename_i σ1 h1;exact AQq (AlJ h1) (oa h)
  ·grind
theorem l8:∀{l:ATB (Nat×ATB Nat)} {bs Gp:ATB Blk},sR l bs=some Gp->Gp.length=bs.length
 |[],bs,Gp,h=>by
  simp only[sR,APY]at h;subst h;rfl
 |(k,ks)::r,bs,Gp,h=>by
  simp only[sR]at h;split at h
  ·split at h
   ·rw[l8 h,AP5]
   ·grind
  ·split at h
   ·rw[l8 h,AP5]
   ·grind
  ·grind
theorem W9{h:SH}{m:Nat}{σ σ':St}(hh:σ.head h m=some σ'):m<=σ'.Aj.length:=by
 unfold St.head at hh;split at hh
 ·grind
 ·split at hh
  ·grind
  ·split at hh
   ·grind
   ·rename_i σ2 h2;split at hh
    ·grind
    ·rename_i bs h3;refine AQq ?_ (oa hh);simp only[l8 h3];unfold St.Ay at h2
     dsimp only at h2
     split at h2
     ·rename_i hp;injection h2 with h2;subst h2;have:=(Ail (UX hp).1).1;simpa using this
     ·grind
def qV:Ex->Exit
 |.normal=>.normal
 |.exit n=>.exit n
 |.ret=>.ret
theorem Ad5{P:Program}{Q:Exit->Act->World->Prop}{c:Code}(R:Nat->Act->World->Prop)(round:∀n a w,R n a w->c.wp P (Exit.then (λa' w'=>∃k,k<n/\R k a' w') Q) a w){n:Nat}{a:Act}{w:World}(h0:R n a w):(Code.loop c).wp P Q a w:=by
 intro b k cs;have key:∀n a w,R n a w->∃e a' w',Q e a' w'/\Arrives P (lone (b.at a (.code c::.inLoop c::k)) cs w) b k cs e a' w':=by
  intro n;induction n using Nat.strongRecOn with
  |_ n ih =>
   intro a w hI;obtain⟨e,a₁,w₁,hq,mL⟩:=round n a w hI b _ cs;cases e with
   |normal =>
    obtain⟨j,Bp,hI₁⟩:=hq;obtain⟨e₂,a₂,w₂,hq₂,AFr⟩:=ih j Bp a₁ w₁ hI₁;exact⟨e₂,a₂,w₂,hq₂,.of_steps (Steps.trans mL (.one step_inLoop)) AFr⟩
   |exit id=>exact⟨_,a₁,w₁,hq,.pass  rfl (λ_ _=>.inl (by simp)) mL⟩
   |goto l=>exact⟨_,a₁,w₁,hq,.pass  rfl (λ_ _=>.inl (by simp)) mL⟩
   |ret=>exact⟨_,a₁,w₁,hq,.pass  rfl (λ_ _=>.inl (by simp)) mL⟩
   |panic ch=>exact⟨_,a₁,w₁,hq,.pass  rfl (λ_ _=>.inl (by simp)) mL⟩
   |outgrown=>exact⟨_,a₁,w₁,hq,.pass  rfl (λ_ _=>.inl (by simp)) mL⟩
 obtain⟨e,a',w',hq,mL⟩:=key n a w h0;exact⟨e,a',w',hq,.of_steps (.one step_loop) mL⟩
inductive ToN {S T:Type} (f:S->Option (S⊕T)):Nat->S->T->Prop
 |done {s:S} {t:T} (h:f s=some (.inr t)):ToN f 0 s t
 |fE {s s':S} {t:T} {n:Nat} (h:f s=some (.inl s')) (k:ToN f n s' t):ToN f (n+1) s t
theorem To.n{S T:Type}{f:S->ATC (S⊕T)}{s:S}{t:T}(h:To f s t):∃n,ToN f n s t:=by
 induction h with
 |done h=>exact⟨0,.done h⟩
 |fE h _ ih=>obtain⟨n,hn⟩:=ih;exact⟨n+1,.fE h hn⟩
structure Jy (P:Program) (en:GV):Prop extends EnvOk P en where
 mixed:P.follows .mixedOrders=true
section
variable {P:Program} {en:GV} {m:Nat}
abbrev Sd(e:Ex)(σ:St):Option (Ex×St):=some (e,σ)
theorem zZ{c:Code}(hn:∀(R:Type) (σ:St) (K:Ex->St->ATC R),ev en m c R σ K=(ev en m c (Ex×St) σ Sd).bind λp=>K p.1 p.2){R T:Type}{σ:St}{K:Ex->St->ATC R}{K':Ex->St->ATC T}{k:T->ATC R}
    (h:∀e s,K e s=(K' e s).bind k):ev en m c R σ K=(ev en m c T σ K').bind k:=by
 grind
theorem AmA(he:Z7 en){all:ATB Oper}{is:ATB Nat}{σ:St}{R T:Type}{K:St->ATC R}{K':St->ATC T}{k:T->ATC R}(h:∀s,K s=(K' s).bind k):R6 en all is σ K=(R6 en all is σ K').bind k:=by
 rw[UT he all is σ K,UT he all is σ K'];cases R6 en all is σ some with
 |none=>rfl
 |some p=>grind
theorem Akq(he:Z7 en){all:ATB Oper}{A:ATB (Nat×ATB Nat)}{is done OV:ATB Nat}{σ:St}{R T:Type}{K:St->ATC R}{K':St->ATC T}{k:T->ATC R}(h:∀s,K s=(K' s).bind k):U8 en all A is done OV σ K=(U8 en all A is done OV σ K').bind k:=by
 rw[US he all A is done OV σ K,US he all A is done OV σ K'];cases U8 en all A is done OV σ some with
 |none=>rfl
 |some p=>grind
theorem XE(he:Z7 en):∀(c:Code) (R:Type) (σ:St) (K:Ex->St->ATC R),ev en m c R σ K=(ev en m c (Ex×St) σ Sd).bind λp=>K p.1 p.2
 |.skip,_,_,_=>rfl
 |.ret,_,_,_=>rfl
 |.exit _,_,_,_=>rfl
 |.seq a b,R,σ,K=>by
  simp only[ev];split
  ·refine zZ (XE he a) λe s=>?_;cases e with
   |normal=>exact XE he b R s K
   |exit n=>rfl
   |ret=>rfl
  ·rw[AQd];congr 1
   funext s0
   rw[AQd];congr 1
   funext ⟨e,s⟩
   cases e with
   |normal=>exact XE he b R s K
   |exit n=>rfl
   |ret=>rfl
 |.cond c a b,R,σ,K=>by
  simp only[ev];split
  ·rename_i t _;cases t
   ·exact XE he b R σ K
   ·exact XE he a R σ K
  ·rfl
 |.block n a,R,σ,K=>by
  refine zZ (XE he a) λe s=>?_
  grind
 |.region _ B9 false,R,σ,K=>by
  exact AmA he λs=>rfl
 |.region _ B9 true,R,σ,K=>by
  simp only[ev];split
  ·rw[AQd];congr 1
   funext s0
   generalize AmF en m _ B9 s0=x;cases x<;>rfl
  ·split
   ·exact Akq he λs=>rfl
   ·rfl
 |.loop body,R,σ,K=>by
  simp only[ev];split
  ·split
   ·rfl
   ·generalize fix _ _=x;cases x<;>rfl
  ·rfl
 |.goto _,_,_,_=>rfl
 |.label _,_,_,_=>rfl
 |.rangeFunc ..,_,_,_=>rfl
 |.scope _,_,_,_=>rfl
 |.refuse _,_,_,_=>rfl
theorem XU(he:Z7 en){h ho:SH}{body:Code}{s:St}{r:St⊕(Ex×St)}(hh:pK en m h ho body s=some r):∃e s',ev en m body (Ex×St) s Sd=some (e,s') /\
    ((e=.normal/\∃ZV,s'.head h m=some ZV/\r=.inl ZV)\/(e≠.normal/\∃ZV,s'.head ho m=some ZV/\r=.inr (e,ZV))):=by
 unfold pK at hh;rw[XE he]at hh;cases hx:ev en m body _ s _ with
 |none=>grind
 |some p =>
  obtain⟨e,s'⟩:=p;rw[hx]at hh;simp only[APW]at hh;refine⟨e,s',rfl,?_⟩;cases e with
  |normal =>
   cases hn:s'.head h m with
   |none=>grind
   |some ZV=>grind
  |exit n =>
   cases hn:s'.head ho m with
   |none=>grind
   |some ZV=>grind
  |ret =>
   cases hn:s'.head ho m with
   |none=>grind
   |some ZV=>grind
end
theorem Vu{σ τ:St}{l:ATB Operand}(h:∀x∈l,σ.Cg x=τ.Cg x):l.map σ.Cg=l.map τ.Cg:=AQK h
theorem Zf{σ τ:St}{l:ATB (Nat×Operand)}(h:∀x∈l.map (·.2),σ.Cg x=τ.Cg x):l.map (λp=>(p.1,σ.Cg p.2))=l.map (λp=>(p.1,τ.Cg p.2)) :=
 AQK λp hp=>by grind
theorem YU{R:Type}{en:GV}{σ τ:St}{o:Oper}{K:Ij->ATC R}(hb:σ.Aj=τ.Aj)(h:∀x∈o.op.operands,σ.Cg x=τ.Cg x):R7 en σ o K=R7 en τ o K:=by
 obtain⟨dst,op,type,pos,after,guard⟩:=o;unfold R7
 dsimp only at h⊢
 rw[hb];cases op<;>simp only[Op.operands]at h<;>dsimp only
 case build t ps=>rw[Zf (l:=ps.toList) λx hx=>h x (by simpa using hx)]
 case buildSlice t n ps=>rw[Zf (l:=ps.toList) λx hx=>h x (by simpa using hx)]
 case makeFunc fn first captured =>
  rw[Vu (l:=captured.toList) λx hx=>h x (by simp[Array.mem_toList_iff.1 hx])]
 case call c =>
  have ha:Qk σ c.args=Qk τ c.args:=Vu λx hx=>h x (by simp[Call.operands,Array.mem_toList_iff.1 hx]);unfold W5;rw[ha,hb];cases hc:c.callee with
  |value f =>
   have hf:σ.Cg f=τ.Cg f:=h f (by simp[Call.operands,hc]);simp only[hf]
  |builtin b=>cases b<;>rfl
  |invoke r n=>rfl
 case slice t x lo hi mx =>
  have hx:σ.Cg x=τ.Cg x:=h x (by simp);have hlo:lo.map σ.Cg=lo.map τ.Cg:=by cases lo with |none=>rfl |some y=>simp[h y (by simp)]
  have hhi:hi.map σ.Cg=hi.map τ.Cg:=by cases hi with |none=>rfl |some y=>simp[h y (by simp)]
  have vo:mx.map σ.Cg=mx.map τ.Cg:=by cases mx with |none=>rfl |some y=>simp[h y (by simp)]
  rw[hx,hlo,hhi,vo]
 all_goals (first |rfl |(simp_all;done))
theorem YT{R:Type}{en:GV}{σ τ:St}{o:Oper}{K:Ij->ATC R}(hb:σ.Aj=τ.Aj)(h:∀x∈o.op.operands,σ.Cg x=τ.Cg x):V2 en σ o K=V2 en τ o K:=by
 have ha:jC en σ o=jC en τ o:=by
  obtain⟨dst,op,type,pos,after,guard⟩:=o;unfold jC;cases op<;>simp only[Op.operands]at h<;>dsimp only
  case load t x=>rw[h x (by simp),hb]
  case build t ps=>rw[Zf (l:=ps.toList) λx hx=>h x (by simpa using hx)]
  case index t x i=>rw[h x (by simp),h i (by simp)]
  case field t x f=>rw[h x (by simp)]
  case indexAddr t x i=>rw[h x (by simp),h i (by simp)]
  case call c =>
   have ha:Qk σ c.args=Qk τ c.args:=Vu λx hx=>h x (by simp[Call.operands,Array.mem_toList_iff.1 hx]);rw[ha]
 have hs:wB en σ o=wB en τ o:=by
  obtain⟨dst,op,type,pos,after,guard⟩:=o;unfold wB Adr;cases op<;>simp only[Op.operands]at h<;>dsimp only
  case store t x v=>rw[h x (by simp),h v (by simp),hb]
 have ht:tlE en σ o=tlE en τ o:=by
  obtain⟨dst,op,type,pos,after,guard⟩:=o;unfold tlE;cases op<;>simp only[Op.operands]at h<;>dsimp only
  case slice t x lo hi mx =>
   cases lo with
   |none=>rfl
   |some lo=>cases hi with
    |some _=>rfl
    |none=>cases mx with
     |some _=>rfl
     |none=>dsimp only;rw[h x (by simp),h lo (by simp),hb]
  case indexAddr t x i=>rw[h x (by simp),h i (by simp),hb]
  case call c =>
   have ha:Qk σ c.args=Qk τ c.args:=Vu λx hx=>h x (by simp[Call.operands,Array.mem_toList_iff.1 hx]);rw[ha,hb]
 unfold V2;rw[ha,hs,ht,hb];split
 ·rfl
 split
 ·rfl
 split
 ·rfl
 ·split
  ·have hd:kl en o=kl en o:=rfl;cases kl en o
   ·exact YU hb h
   ·simp only[AQc];rw[show τ.Aj=σ.Aj from hb.symm];exact YU hb h
  ·exact YU hb h
theorem yN{R:Type}{en:GV}{σ τ:St}{o:Oper}{K:Ij->ATC R}(hb:σ.Aj=τ.Aj)(h:∀x∈o.op.operands,σ.Cg x=τ.Cg x):exec en σ o K=exec en τ o K:=by
 unfold exec;split
 ·rename_i c d ho _;have ha:Qk σ _=Qk τ c.args:=Vu λx hx=>h x (by rw[ho];simp[Op.operands,Call.operands,Array.mem_toList_iff.1 hx]);rw[ha,hb];split
  ·split
   ·exact YT rfl h
   ·rfl
  ·exact YT hb h
 ·exact YT hb h
theorem Np:∀a:AV,a.OU id=a
 |.AA ks t x=>by simp[AV.OU]
 |.Fw ks t x=>by simp[AV.OU]
 |.AH k=>rfl
 |.mp k=>rfl
 |.ptr k i p o=>rfl
 |.UI _ _ _ _ _=>rfl
 |.WE _ _ _ _ _ _=>rfl
 |.pr a b=>by simp[AV.OU,Np a,Np b]
 |.fn g c=>by simp[AV.OU,Np c]
 |.cons a b=>by simp[AV.OU,Np a,Np b]
 |.zs=>rfl
 |.M8=>rfl
 |.nil=>rfl
 |.un n=>rfl
theorem aX(b:Blk):b.OU id=b:=by
 cases b with
 |Ba=>rfl
 |map m kt vt es st=>cases m<;>simp[Blk.OU,RM.OU]
 |R1 e t xs i p=>rfl
 |tail e t xs=>rfl
 |box a=>simp[Blk.OU,Np]
 |row e m t xs=>cases m<;>simp[Blk.OU,RM.OU]
def Xz(bs:ATB Blk):Prop:=∀(k:Nat) (x:Blk),bs[k]?=some x->∀j∈x.Cs,j<bs.length
theorem Afl{w:World}{g:G}{n k:Nat}{x:Blk}(h:Nl w g n k x):∀j∈x.Cs,j<n:=by
 cases x with
 |Ba=>intro j hj;cases hj
 |map m kt vt es st=>exact h.1
 |R1 e t xs i p=>intro j hj;cases hj
 |tail e t xs=>intro j hj;cases hj
 |box a=>obtain⟨_,_,_,_,_,_,_,hx⟩:=h;exact CF.Uu a _ hx
 |row e m t xs=>exact h.1
theorem Bi.scp{w:World}{g:G}{bs:ATB Blk}(H:Bi w g bs):Xz bs:=λk x hx=>Afl (H.MG k x hx)
def G.cut(g:G)(n:Nat):G:=⟨λb=>match g.own b with |.BL k r=>if k<n then .BL k r else .no |t=>t,g.AY⟩
def G.dc(g g':G)(n:Nat):G:=⟨λb=>match g.own b with |.BL k r=>if k<n then g'.own b else .BL k r |_=>g'.own b,λk=>if k<n then g'.AY k else g.AY k⟩
section
variable {P:Program} {o:Oper} {e:Ij}
theorem iL{g:G}{n k:Nat}(hk:k<n):Ren id g (g.cut n) n k:=⟨hk,rfl,λb r h=>by simp[G.cut,h,hk]⟩
theorem AdQ{σ:St}(QX:Oz P σ o e)(hm:e.BJ=[]){l l':ATB Blk}(yU:e.Aj=σ.Aj++l')(hor:l=[]\/l'=[]){w:World}{g:G}{a:Act}(H:Bi w g (σ.Aj++l))(hsc:Xz σ.Aj)(hlen:σ.AO.length=a.tmps.size)
    (Im:∀(i:Nat) (x:AV),σ.AO[i]?=some x->B5 w g (σ.Aj++l).length x (a.tmps.getD i undef)/\∀k∈x.Cs,k<σ.Aj.length) {next:Act->World->Prop} {Q:Exit->Act->World->Prop}
    (hn:∀v w' g',Bi w' g' (σ.Aj++(l++l'))->B5 w' g' (σ.Aj++(l++l')).length e.val v->(∀k∈e.val.Cs,k<e.Aj.length)->Step [] (σ.Aj++l).length w g w' g'->next (a.put o.dst v) w'):o.wp P a w next Q:=by
 rcases hor with rfl |rfl
 ·simp only[AQB]at H Im hn;refine QX.wp a w g ⟨H,hlen,λi x hx=>(Im i x hx).1⟩ next Q λv w' g' H' hv BO=>?_
  rw[hm]at BO;rw[yU]at H' hv;exact hn v w' g' H' hv (by rw[yU];exact hv.Uu) BO
 ·simp only[AQB]at yU hn
  let n:=σ.Aj.length
  have hnl:n<=(σ.Aj++l).length:=by grind
  have Y3:∀k,k<n->Ren id g (g.cut n) n k:=λk hk=>iL hk;have kE:∀b,g.own b=.Jb->(g.cut n).own b=.Jb:=λb h=>by simp[G.cut,h]
  have Hr:Bi w (g.cut n) σ.Aj:=by
   refine⟨λb hb=>by simp[G.cut,H.BZ b hb],λk x hx=>?_⟩;have hk:=A5 hx;have h1:=H.MG k x (by grind);have:=h1.OU (φ:=id) kE (Y3 k hk) λj hj=>Y3 j (hsc k x hx j hj);rwa [aX]at this
  refine QX.wp a w (g.cut n) ⟨Hr,hlen,λi x hx=>?_⟩ next Q λv w' g' H' hv BO=>?_
  ·obtain⟨h1,h2⟩:=Im i x hx;have:=h1.OU (φ:=id) (g':=g.cut n) (n':=n) kE λk hk=>Y3 k (h2 k hk);rwa [Np]at this
  ·rw[hm]at BO;rw[yU]at H' hv;have Al2:∀b,g.own b≠.no->b<w.heap.size:=λb h=>Ve H h;have yS:∀b k r,g.own b=.BL k r->¬k<n->g'.own b=.no/\w'.heap[b]?=w.heap[b]?:=λb k r h hk=>BO.no b (Al2 b (by grind)) (by simp[G.cut,h,hk]);have st:Step [] (σ.Aj++l).length w g w' (g.dc g' n):=by
    refine⟨BO.os,BO.tape,BO.output,BO.size,λb hb h=>?_,λb h=>?_,λb k r h hk hm=>?_,λk hk=>?_⟩
    ·have:=BO.no b hb (by simp[G.cut,h]);exact⟨by simp[G.dc,h,this.1],this.2⟩
    ·have:=BO.Jb b (kE b h);exact⟨by simp[G.dc,h,this.1],this.2⟩
    ·by_cases mU:k<n
     ·have:=BO.BL b k r (by simp[G.cut,h,mU]) mU (by simp);exact⟨by simp[G.dc,h,this.1],this.2⟩
     ·exact⟨by simp[G.dc,h,mU],(yS b k r h mU).2⟩
    ·by_cases mU:k<n
     ·have:=BO.AY k mU;simp only[G.dc,AQe mU,this];rfl
     ·simp[G.dc,mU]
   have Ag4:∀k,k<n->Ren id g' (g.dc g' n) (σ.Aj++l).length k:=λk hk=>by
    refine⟨by grind,by simp[G.dc,hk],λb r h=>?_⟩;simp only[G.dc]
    grind
   have AnN:∀b,g'.own b=.Jb->(g.dc g' n).own b=.Jb:=λb h=>by
    simp only[G.dc]
    grind
   refine hn v w' (g.dc g' n) ⟨λb hb=>?_,λk x hx=>?_⟩ ?_ (by rw[yU];exact hv.Uu) st
   ·have h1:=H'.BZ b hb;have h2:=H.BZ b (AQq BO.size hb);simp[G.dc,h2,h1]
   ·by_cases hk:k<n
    ·rw[AQj hk]at hx;have:=(H'.MG k x hx).OU (φ:=id) AnN (Ag4 k hk) λj hj=>Ag4 j (hsc k x hx j hj);rwa [aX]at this
    ·exact(H.MG k x hx).RP st (AP2 _) (A5 hx)
   ·have:=hv.OU (φ:=id) AnN λk hk=>Ag4 k (hv.Uu k hk);rwa [Np]at this
end
theorem kZ:∀(r l:ATB Nat) {x:Nat},x∈iu l r->x∈l\/x∈r
 |[],_,_,h=>.inl h
 |k::r,l,x,h=>by
  simp only[iu]at h;split at h
  ·rcases kZ r l h with h |h
   ·exact .inl h
   ·exact .inr (by simp[h])
  ·rcases kZ r _ h with h |h
   ·rcases List.mem_append.1 h with h |h
    ·exact .inl h
    ·simp at h;exact .inr (by simp[h])
   ·exact .inr (by simp[h])
def nN(all:ATB Oper)(A:ATB (Nat×ATB Nat)):Prop:=∀i x,x∈En A i->x∈U6 all i\/∃d∈U6 all i,x∈En A d
theorem nR(all:ATB Oper):∀(is:ATB Nat) (A:ATB (Nat×ATB Nat)),nN all A->nodup is=true->(∀i∈is,∀p∈A,p.1≠i)->nN all (YL all is A)
 |[],_,h,_,_=>h
 |i::is,A,h,hn,hf=>by
  simp only[nodup,AP3,ARk]at hn;refine nR all is _ ?_ hn.2 ?_
  ·have Ac9:∀d y,y∈En A d->y∈En ((i,iu [] (U6 all i++(U6 all i).flatMap (En A)))::A) d:=by
     intro d y hy;simp only[En];split
     ·rename_i he;have he:i=d:=by simpa using he
      subst he;have:∀(A:ATB (Nat×ATB Nat)),(∀p∈A,p.1≠i)->En A i=[]:=by
       intro A;induction A with
       |nil=>exact λ_=>rfl
       |cons p A ih =>
        intro hp;obtain⟨k,l⟩:=p;simp only[En];rw[AQf (by simpa using hp (k,l) (by simp))];exact ih λq hq=>hp q (by simp[hq])
      rw[this A (hf i (by simp))]at hy;cases hy
     ·exact hy
   intro j x hx;by_cases he:i=j
   ·subst he;simp only[En,ARU,AQJ]at hx;rcases kZ _ _ hx with hx |hx
    ·cases hx
    ·rcases List.mem_append.1 hx with hx |hx
     ·exact .inl hx
     ·obtain⟨d,hd,hx⟩:=List.mem_flatMap.1 hx;exact .inr ⟨d,hd,Ac9 d x hx⟩
   ·simp only[En]at hx;rw[AQf (by simpa using he)]at hx;rcases h j x hx with h |⟨d,hd,hx⟩
    ·exact .inl h
    ·exact .inr ⟨d,hd,Ac9 d x hx⟩
  ·intro j hj p hp;rcases List.mem_cons.1 hp with rfl |hp
   ·intro e;have e:i=j:=e;subst e;have:=hn.1;simp[hj]at this
   ·exact hf j (by simp[hj]) p hp
def jm(A:ATB (Nat×ATB Nat))(D:Nat->Bool):Prop:=∀i,D i=true->∀x∈En A i,D x=true
theorem pD{all:ATB Oper}{A:ATB (Nat×ATB Nat)}(hA:nN all A){D:Nat->Bool}(hc:jm A D){i:Nat}(hd:∀d∈U6 all i,D d=true):∀x∈En A i,D x=true:=λx hx=>by
 rcases hA i x hx with h |⟨d,hdi,h⟩
 ·exact hd x h
 ·exact hc d (hd d hdi) x h
structure Je where
 i:Nat
 o:Oper
 σ:St
 e:Option Ij
def Je.val(t:Je):AV:=match t.e with |some e=>e.val |none=>.nil
def Je.post(t:Je):St:=match t.e with |some e=>t.σ.after t.o.dst e |none=>t.σ.skip t.o.dst
def Je.mA(t:Je):Bool:=match t.e with |some e=>!e.BJ.isEmpty |none=>false
def Je.grow(t:Je):Bool:=match t.e with |some e=>e.BJ.isEmpty&&decide (e.Aj.length≠t.σ.Aj.length)|none=>false
def Je.Ok(en:GV)(all:ATB Oper)(t:Je):Prop:=all[t.i]?=some t.o/\match t.e with |some e=>Want all t.σ t.o true/\exec en t.σ t.o some=some e |none=>Want all t.σ t.o false
inductive Tr (en:GV) (all:List Oper) (A:List (Nat×List Nat)):List Nat->List Nat->St->List Je->St->Prop
 |nil {done OV:List Nat} {σ:St}:Tr en all A done OV σ [] σ
 |cons {done OV:List Nat} {σ σ':St} {t:Je} {ts:List Je} (hσ:t.σ=σ) (ok:t.Ok en all) (ha:∀x∈OV,x∈En A t.i) (hb:t.mA=true->∀x∈done,x∈En A t.i)
     (next:Tr en all A (t.i::done) (if t.mA||t.grow then t.i::OV else OV) t.post ts σ'):Tr en all A done OV σ (t::ts) σ'
section
variable {en:GV} {all:ATB Oper} {A:ATB (Nat×ATB Nat)}
theorem cX(he:Z7 en):∀{is done OV:ATB Nat} {σ σ':St},U8 en all A is done OV σ some=some σ'->∃ts:ATB Je,ts.map (·.i)=is/\Tr en all A done OV σ ts σ'
 |[],done,OV,σ,σ',h=>by
  simp only[U8,APY]at h;subst h;exact⟨[],rfl,.nil⟩
 |i::is,done,OV,σ,σ',h=>by
  simp only[U8]at h;split at h
  ·cases h
  ·rename_i o ho;split at h
   ·rename_i AIW;have Ag2:∀x∈OV,x∈En A i:=λx hx=>by have:=List.all_eq_true.1 AIW x hx;simpa using this
    rcases Qx h with ⟨hw,h⟩|⟨hw,h⟩
    ·rw[Tq en he]at h;cases hx:exec en σ o some with
     |none=>rw[hx]at h;cases h
     |some e =>
      rw[hx]at h;simp only[APW]at h;split at h
      ·rename_i hm;obtain⟨ts,h1,h2⟩:=cX he h;refine⟨⟨i,o,σ,some e⟩::ts,by simp[h1],.cons rfl ⟨ho,hw,hx⟩ Ag2 (λhb=>?_) ?_⟩
       ·simp[Je.mA,hm]at hb
       ·simp only[Je.mA,Je.grow,hm,AQF,ASa,ARY,Je.post];by_cases hl:e.Aj.length=σ.Aj.length
        ·simpa [hl]using h2
        ·simpa [hl]using h2
      ·rename_i hm;split at h
       ·rename_i gk;obtain⟨ts,h1,h2⟩:=cX he h;refine⟨⟨i,o,σ,some e⟩::ts,by simp[h1],.cons rfl ⟨ho,hw,hx⟩ Ag2 (λhb x hx=>?_) ?_⟩
        ·have:=List.all_eq_true.1 gk x hx;simpa using this
        ·simp only[Je.mA,Je.post];have hm':e.BJ.isEmpty=false:=by simpa using hm
         simpa [hm']using h2
       ·cases h
    ·obtain⟨ts,h1,h2⟩:=cX he h;refine⟨⟨i,o,σ,none⟩::ts,by simp[h1],.cons rfl ⟨ho,hw⟩ Ag2 (λhb=>by cases hb) ?_⟩;simpa [Je.mA,Je.grow,Je.post]using h2
   ·cases h
theorem Tr.Ae7:∀{ts:ATB Je} {done OV:ATB Nat} {σ σ':St},Tr en all A done OV σ ts σ'->∀x∈OV,∀u∈ts,x∈En A u.i
 |[],_,_,_,_,_,_,_,_,hu=>by cases hu
 |t::ts,_,_,_,_,.cons _ _ ha _ next,x,hx,u,hu=>by
  rcases List.mem_cons.1 hu with rfl |hu
  ·exact ha x hx
  ·exact next.Ae7 x (by split<;>simp[hx]) u hu
theorem Tr.aJ:∀{Ce post:ATB Je} {t:Je} {done OV:ATB Nat} {σ σ':St},Tr en all A done OV σ (Ce++t::post) σ' ->
    ((t.mA||t.grow)=true->∀u∈post,t.i∈En A u.i)/\(t.mA=true->(∀x∈done,x∈En A t.i)/\∀u∈Ce,u.i∈En A t.i)
 |[],post,t,done,OV,σ,σ',.cons hσ ok ha hb next=>by
  refine⟨λh u hu=>next.Ae7 t.i (by rw[AQe h];simp) u hu,λh=>⟨hb h,λu hu=>by cases hu⟩⟩
 |p::Ce,post,t,done,OV,σ,σ',.cons hσ ok ha hb next=>by
  obtain⟨h1,h2⟩:=next.aJ
  refine⟨h1,λh=>⟨λx hx=>(h2 h).1 x (by simp[hx]),λu hu=>?_⟩⟩;rcases List.mem_cons.1 hu with rfl |hu
  ·exact(h2 h).1 u.i (by simp)
  ·exact(h2 h).2 u hu
theorem Tr.split:∀{Ce ts:ATB Je} {done OV:ATB Nat} {σ σ':St},Tr en all A done OV σ (Ce++ts) σ'->∃Acg σ1,Tr en all A done OV σ Ce σ1/\Tr en all A ((Ce.map (·.i)).reverse++done) Acg σ1 ts σ'
 |[],ts,done,OV,σ,σ',h=>⟨OV,σ,.nil,h⟩
 |p::Ce,ts,done,OV,σ,σ',.cons hσ ok ha hb next=>by
  obtain⟨Acg,σ1,h1,h2⟩:=next.split
  exact⟨Acg,σ1,.cons hσ ok ha hb h1,by simpa using h2⟩
theorem Tr.Aif:∀{ts:ATB Je} {done OV:ATB Nat} {σ σ':St},Tr en all A done OV σ ts σ'->∀u∈ts,u.Ok en all
 |[],_,_,_,_,_,_,hu=>by cases hu
 |t::ts,_,_,_,_,.cons _ ok _ _ next,u,hu=>by
  rcases List.mem_cons.1 hu with rfl |hu
  ·exact ok
  ·exact next.Aif u hu
end
def MM(D:Nat->Bool):ATB Je->ATB AV->ATB AV
 |[],sl=>sl
 |t::ts,sl=>MM D ts (if D t.i then ah t.o.dst t.val sl else sl)
def Je.nb(t:Je)(bs:ATB Blk):ATB Blk:=match t.e with |some e=>e.Aj |none=>bs
def HZ(D:Nat->Bool):ATB Je->ATB Blk->ATB Blk
 |[],bs=>bs
 |t::ts,bs=>HZ D ts (if D t.i&&t.grow then t.nb bs else bs)
theorem jb{d:ATC Nat}{v:AV}{sl:ATB AV}{k:Nat}(h:d≠some k):(ah d v sl)[k]?=sl[k]?:=by
 cases d with
 |none=>rfl
 |some d =>
  have:d≠k:=λe=>h (by rw[e]);simp[ah,AQl,this]
theorem lA{d:ATC Nat}{v:AV}{sl sl':ATB AV}{k:Nat}(h:sl[k]?=sl'[k]?):(ah d v sl)[k]?=(ah d v sl')[k]?:=by
 cases d with
 |none=>exact h
 |some d =>
  simp only[ah,AQl];split
  ·rename_i e;subst e;have:d<sl.length↔d<sl'.length:=by
    constructor
    ·intro hl;rw[AQ7 hl]at h;exact A5 h.symm
    ·intro hl;rw[AQ7 hl]at h;exact A5 h
   by_cases hl:d<sl.length
   ·rw[AQe hl,AQe (this.1 hl)]
   ·rw[AQf hl,AQf (λh=>hl (this.2 h))]
  ·exact h
theorem pA{d:Nat}{v:AV}{sl:ATB AV}{x:AV}(h:(ah (some d) v sl)[d]?=some x):x=v:=by
 simp only[ah,AQl,AQJ]at h;split at h
 ·injection h with h;exact h.symm
 ·cases h
theorem cL(D:Nat->Bool):∀(ts:ATB Je) (sl:ATB AV),(MM D ts sl).length=sl.length
 |[],_=>rfl
 |t::ts,sl=>by
  rw[MM,cL D ts];split
  ·exact dJ ..
  ·rfl
theorem YR(D:Nat->Bool):∀(Ce ts:ATB Je) (sl:ATB AV),MM D (Ce++ts) sl=MM D ts (MM D Ce sl)
 |[],_,_=>rfl
 |t::Ce,ts,sl=>by rw[ART,MM,MM,YR D Ce ts]
theorem cK(D:Nat->Bool):∀(Ce ts:ATB Je) (bs:ATB Blk),HZ D (Ce++ts) bs=HZ D ts (HZ D Ce bs)
 |[],_,_=>rfl
 |t::Ce,ts,bs=>by rw[ART,HZ,HZ,cK D Ce ts]
theorem j6{D:Nat->Bool}{k:Nat}:∀{ts:ATB Je} {sl sl':ATB AV},sl[k]?=sl'[k]?->(MM D ts sl)[k]?=(MM D ts sl')[k]?
 |[],_,_,h=>h
 |t::ts,sl,sl',h=>by
  simp only[MM];refine j6 ?_;split
  ·exact lA h
  ·exact h
theorem bj{D:Nat->Bool}{k:Nat}:∀{ts:ATB Je} {sl sl':ATB AV},(∀u∈ts,D u.i=false->u.o.dst≠some k)->sl[k]?=sl'[k]?->(MM D ts sl)[k]?=(MM (λ_=>true) ts sl')[k]?
 |[],_,_,_,h=>h
 |t::ts,sl,sl',hu,h=>by
  simp only[MM,AQJ];refine bj (λu hm=>hu u (by simp[hm])) ?_;cases hD:D t.i with
  |true=>simp only[AQJ];exact lA h
  |false =>
   simp only[AQM,ARo];rw[jb (hu t (by simp) hD)];exact h
theorem ZE{D:Nat->Bool}{k:Nat}:∀{ts:ATB Je} {sl:ATB AV},(∀u∈ts,D u.i=true->u.o.dst≠some k)->(MM D ts sl)[k]?=sl[k]?
 |[],_,_=>rfl
 |t::ts,sl,hu=>by
  simp only[MM];rw[ZE λu hm=>hu u (by simp[hm])];split
  ·rename_i h;exact jb (hu t (by simp) h)
  ·rfl
theorem yH{D D':Nat->Bool}:∀{ts:ATB Je} {sl:ATB AV},(∀u∈ts,D u.i=D' u.i)->MM D ts sl=MM D' ts sl
 |[],_,_=>rfl
 |t::ts,sl,h=>by
  rw[MM,MM,h t (by simp)];exact yH λu hu=>h u (by simp[hu])
theorem yG{D D':Nat->Bool}:∀{ts:ATB Je} {bs:ATB Blk},(∀u∈ts,D u.i=D' u.i)->HZ D ts bs=HZ D' ts bs
 |[],_,_=>rfl
 |t::ts,bs,h=>by
  rw[HZ,HZ,h t (by simp)];exact yG λu hu=>h u (by simp[hu])
theorem ZD{D:Nat->Bool}:∀{ts:ATB Je} {bs:ATB Blk},(∀u∈ts,D u.i=true->u.grow=false)->HZ D ts bs=bs
 |[],_,_=>rfl
 |t::ts,bs,h=>by
  rw[HZ];have:(D t.i&&t.grow)=false:=by
   cases hD:D t.i with
   |false=>rfl
   |true=>rw[h t (by simp) hD];rfl
  rw[this];exact ZD λu hu=>h u (by simp[hu])
section
variable {P:Program} {en:GV} {all:ATB Oper} {A:ATB (Nat×ATB Nat)}
theorem cW(he:EnvOk P en){t:Je}(ok:t.Ok en all)(hb:t.mA=false):∃l,t.post.Aj=t.σ.Aj++l/\(t.grow=false->l=[])/\(∀e,t.e=some e->e.BJ=[]/\e.Aj=t.σ.Aj++l)/\t.post.AO=ah t.o.dst t.val t.σ.AO:=by
 unfold Je.Ok at ok;unfold Je.mA at hb;unfold Je.post Je.grow Je.val;cases hq:t.e with
 |none=>exact⟨[],by simp[St.skip],λ_=>rfl,λe h=>by(cases h),rfl⟩
 |some e =>
  rw[hq]at ok hb;have hm:e.BJ=[]:=by simpa using hb
  have QX:=Ts he ok.2.2;obtain⟨l,hl⟩:=QX.ext hm;refine⟨l,hl,λh=>?_,λe' h=>by injection h with h;subst h;exact⟨hm,hl⟩,?_⟩
  ·simp only[hm,List.isEmpty_nil,ARY,AQN,ne_eq,Decidable.not_not]at h;rw[hl,AP0]at h;exact AQR (by omega)
  ·simp only[St.after,hm,U7]
theorem Tr.nQ(he:EnvOk P en):∀{ts:ATB Je} {done OV:ATB Nat} {σ σ':St},Tr en all A done OV σ ts σ'->(∀u∈ts,u.mA=false)->σ'.AO=MM (λ_=>true) ts σ.AO/\σ'.Aj=HZ (λ_=>true) ts σ.Aj/\(∃l,σ'.Aj=σ.Aj++l)
 |[],_,_,_,_,.nil,_=>⟨rfl,rfl,[],(AQB _).symm⟩
 |t::ts,done,OV,σ,σ',.cons hσ ok ha hb next,T5=>by
  obtain⟨l,h1,h2,h3,h4⟩:=cW he ok (T5 t (by simp));obtain⟨i1,i2,l',i3⟩:=next.nQ he λu hu=>T5 u (by simp[hu])
  subst hσ;refine⟨by rw[i1,MM,AQe rfl,h4],?_,l++l',by rw[i3,h1,AP4]⟩;rw[i2,HZ,ARY];congr 1;cases hg:t.grow with
  |false=>rw[h1,h2 hg,AQB];rfl
  |true =>
   cases hq:t.e with
   |none=>simp[Je.grow,hq]at hg
   |some e=>simp only[AQJ,Je.nb,hq];rw[h1,(h3 e hq).2]
theorem Tr.uE(he:EnvOk P en)(D:Nat->Bool):∀{ts:ATB Je} {done OV:ATB Nat} {σ σ':St},Tr en all A done OV σ ts σ'->(∀u∈ts,u.mA=false)->∀(b0:ATB Blk),(∃l,σ.Aj=b0++l)->∀bs,(∃l,bs=b0++l)->∃l,HZ D ts bs=b0++l
 |[],_,_,_,_,_,_,_,_,_,h=>h
 |t::ts,done,OV,σ,σ',.cons hσ ok ha hb next,T5,b0,rq,bs,hbs=>by
  obtain⟨l,h1,h2,h3,h4⟩:=cW he ok (T5 t (by simp));obtain⟨l0,kG⟩:=rq;subst hσ;rw[HZ];refine next.uE he D (λu hu=>T5 u (by simp[hu])) b0 ⟨l0++l,by rw[h1,kG,AP4]⟩ _ ?_
  split
  ·cases hq:t.e with
   |none=>simpa [Je.nb,hq]using hbs
   |some e=>exact⟨l0++l,by simp only[Je.nb,hq];rw[(h3 e hq).2,kG,AP4]⟩
  ·exact hbs
end
theorem fw:∀{Bc:ATB Nat} {l:ATB AV} {j i:Nat},(j+i)∈Bc->(Sc Bc j l)[i]?=l[i]?
 |Bc,a::r,j,0,h=>by
  have h':j∈Bc:=h;simp[Sc,h']
 |Bc,a::r,j,i+1,h=>by
  simp only[Sc,List.getElem?_cons_succ];exact fw (by rwa [show j+1+i=j+(i+1) by omega])
 |_,[],_,_,_=>by simp[Sc]
theorem oK:∀{Bc:ATB Nat} {l:ATB AV} {j i:Nat} {x:AV},(j+i)∉Bc->(Sc Bc j l)[i]?=some x->x=.un 0
 |Bc,a::r,j,0,x,h,hx=>by
  have:Bc.contains j=false:=by simpa using h
  simp only[Sc,this,AQM,ARo,List.getElem?_cons_zero,APY]at hx;exact hx.symm
 |Bc,a::r,j,i+1,x,h,hx=>by
  simp only[Sc,List.getElem?_cons_succ]at hx;exact oK (by rwa [show j+1+i=j+(i+1) by omega]) hx
 |_,[],_,_,_,_,hx=>by simp[Sc]at hx
def vT(B9:Array Oper)(o:Oper)(σ:St):St:=⟨Sc (o.looksAt B9) 0 σ.AO,σ.Aj⟩
theorem Adm{en:GV}{B9:Array Oper}{o:Oper}{σ:St}{K:Ij->ATC Ij}:exec en (vT B9 o σ) o K=exec en σ o K:=by
 refine yN rfl λx hx=>?_;cases x with
 |tmp t =>
  have:t∈o.looksAt B9:=AQu _ (List.mem_filterMap.2 ⟨.tmp t,by simpa using hx,rfl⟩);simp only[St.Cg,vT];rw[fw (j:=0) (by simpa using this)]
 |const v=>rfl
 |global g=>rfl
 |func f=>rfl
theorem bh{D:Nat->Bool}:∀{ts:ATB Je} {bs:ATB Blk},(∀u∈ts,u.grow=true->D u.i=true)->HZ D ts bs=HZ (λ_=>true) ts bs
 |[],_,_=>rfl
 |t::ts,bs,h=>by
  rw[HZ,HZ];have:(D t.i&&t.grow)=(true&&t.grow):=by
   cases hg:t.grow with
   |false=>simp
   |true=>rw[h t (by simp) hg]
  rw[this];exact bh λu hu=>h u (by simp[hu])
theorem oz{t:Je}{e:Ij}(h:t.e=some e):t.post.Aj=e.Aj:=by simp[Je.post,h,St.after]
theorem jY{D:Nat->Bool}:∀{ts:ATB Je} {bs:ATB Blk},HZ D ts bs=bs\/∃u∈ts,D u.i=true/\u.grow=true/\HZ D ts bs=u.post.Aj
 |[],_=>.inl rfl
 |t::ts,bs=>by
  rw[HZ];rcases jY (D:=D) (ts:=ts) (bs:=if D t.i&&t.grow then t.nb bs else bs)with h |⟨u,hu,h1,h2,h3⟩
  ·rw[h];split
   ·rename_i hc;rw[AP3]at hc;cases hq:t.e with
    |none=>exact .inl (by simp[Je.nb,hq])
    |some e=>exact .inr ⟨t,by simp,hc.1,hc.2,by rw[oz hq];simp[Je.nb,hq]⟩
   ·exact .inl rfl
  ·exact .inr ⟨u,by simp[hu],h1,h2,h3⟩
theorem jZ:∀{ts:ATB Je} {sl:ATB AV} {k:Nat} {x:AV},(MM (λ_=>true) ts sl)[k]?=some x->sl[k]?=some x\/∃Ce u post,ts=Ce++u::post/\u.o.dst=some k/\x=u.val
 |[],_,_,_,h=>.inl h
 |t::ts,sl,k,x,h=>by
  simp only[MM,AQJ]at h;rcases jZ h with h |⟨Ce,u,post,e,h1,h2⟩
  ·by_cases hd:t.o.dst=some k
   ·rw[hd]at h;exact .inr ⟨[],t,ts,rfl,hd,pA h⟩
   ·rw[jb hd]at h;exact .inl h
  ·exact .inr ⟨t::Ce,u,post,by rw[e];rfl,h1,h2⟩
structure Inv (P:Program) (A:List (Nat×List Nat)) (N:Nat) (done:List Nat) (I3:List Je) (σ:St) (m:Nat) (a0:Act) (w0:World) (g0:G) (D:Nat->Bool) (a:Act) (w:World) (g:G):Prop where
 had:∀i∈done,D i=true
 only:∀i,D i=true->i∈done\/∃u∈I3,u.i=i
 jU:jm A D
 dfr:a.defers=a0.defers
 len:σ.AO.length=a.tmps.size
 step:BK m w0 g0 w g
 heap:Bi w g (HZ D I3 σ.Aj)
 AO:∀(i:Nat) (x:AV),(MM D I3 σ.AO)[i]?=some x->B5 w g (HZ D I3 σ.Aj).length x (a.tmps.getD i undef)
 Cs:∀u∈I3,D u.i=true->∀k∈u.val.Cs,k<u.post.Aj.length
 scp:∀u∈I3,D u.i=true->u.grow=true->Xz u.post.Aj
section
variable {P:Program} {en:GV} {B9:Array Oper} {A:ATB (Nat×ATB Nat)} {N m:Nat} {done OV:ATB Nat} {I3 Ce post:ATB Je} {t:Je} {σ σ1:St} {a0 a:Act} {w0 w:World} {g0 g:G} {D:Nat->Bool}
theorem Inv.find(he:EnvOk P en)(Xe:Inv P A N done I3 σ m a0 w0 g0 D a w g)(im:Tr en B9.toList A done OV σ I3 σ1)(T5:∀u∈I3,u.mA=false)(Tw:I3=Ce++t::post)(Ss:D t.i=false)(XH:∀x∈En A t.i,D x=true)
    (cg:∀u∈Ce,u.i∈En A t.i\/u.o.apart B9 t.o=true) (gn:∀u∈post,t.i∈En A u.i\/t.o.apart B9 u.o=true)
    (h0:∀(i:Nat) (x:AV),σ.AO[i]?=some x->∀k∈x.Cs,k<σ.Aj.length) (mW:Xz σ.Aj) :
    (∃l,HZ D I3 σ.Aj=t.σ.Aj++l/\HZ D post t.σ.Aj=t.σ.Aj++l/\(t.grow=true->l=[]))/\Xz t.σ.Aj/\t.σ.AO.length=a.tmps.size/\(∀u∈post,D u.i=true->t.grow=false/\t.o.apart B9 u.o=true)/\(∀u∈Ce,u.grow=true->D u.i=true)/\HZ D Ce σ.Aj=t.σ.Aj /\
     (∀k∈t.o.looksAt B9,∀x,t.σ.AO[k]?=some x->B5 w g (HZ D I3 σ.Aj).length x (a.tmps.getD k undef)/\∀j∈x.Cs,j<t.σ.Aj.length):=by
 subst Tw;obtain⟨Acg,σt,htp,htt⟩:=im.split;have hpb:∀u∈Ce,u.mA=false:=λu hu=>T5 u (by simp[hu]);obtain⟨Sb,YC,l0,vx⟩:=htp.nQ he hpb;cases htt with
 |cons hσ ok ha hb next =>
  subst hσ;have hgp:∀u∈Ce,u.grow=true->D u.i=true:=λu hu hg=>by
   obtain⟨p1,p2,rfl⟩:=List.append_of_mem hu;have AJS:Tr en B9.toList A done OV σ (p1++u::(p2++t::post)) σ1:=by simpa using im
   exact XH _ (AJS.aJ.1 (by simp[hg]) t (by simp))
  have hB:HZ D Ce σ.Aj=t.σ.Aj:=by rw[bh hgp,<-YC]
  have Yg:∀u∈post,D u.i=true->t.i∉En A u.i:=λu _ hd hm=>by
   rw[Xe.jU _ hd _ hm]at Ss;cases Ss
  have hgt:t.grow=true->∀u∈post,D u.i=false:=λhg u hu=>by
   cases hd:D u.i with
   |false=>rfl
   |true=>exact(Yg u hu hd (im.aJ.1 (by simp[hg]) u hu)).elim
  have Y4:HZ D (Ce++t::post) σ.Aj=HZ D post t.σ.Aj:=by
   rw[cK,HZ,hB,Ss];rfl
  obtain⟨l1,e1,_,_,_⟩:=cW he ok (T5 t (by simp));obtain⟨l,hl⟩:=next.uE he D (λu hu=>T5 u (by simp[hu])) t.σ.Aj ⟨l1,e1⟩ t.σ.Aj ⟨[],(AQB _).symm⟩
  have hsc:Xz t.σ.Aj:=by
   rw[<-hB];rcases jY (D:=D) (ts:=Ce) (bs:=σ.Aj)with h |⟨u,hu,h1,h2,h3⟩
   ·rw[h];exact mW
   ·rw[h3];exact Xe.scp u (by simp[hu]) h1 h2
  refine⟨⟨l,by rw[Y4];exact hl,hl,λhg=>?_⟩,hsc,by rw[Sb,cL];exact Xe.len,λu hu hd=>⟨?_,?_⟩,hgp,hB,λk hk x hx=>⟨?_,?_⟩⟩
  ·have:=ZD (D:=D) (ts:=post) (bs:=t.σ.Aj) λu hu hd=>by rw[hgt hg u hu]at hd;cases hd
   rw[this]at hl;have h2:t.σ.Aj.length=t.σ.Aj.length+l.length:=by rw[<-AP0,<-hl]
   exact AQR (by omega)
  ·cases hg:t.grow with
   |false=>rfl
   |true=>rw[hgt hg u hu]at hd;cases hd
  ·exact(gn u hu).resolve_left (Yg u hu hd)
  ·have h1:(MM D (Ce++t::post) σ.AO)[k]?=t.σ.AO[k]?:=by
     rw[YR,MM,Ss];simp only[AQM,ARo];rw[ZE,bj,<-Sb]
     ·intro u hu hd e;rcases cg u hu with h |h
      ·rw[XH _ h]at hd;cases hd
      ·exact(Oper.apart_spec h).1 k e hk
     ·rfl
     ·intro u hu hd e;have:=(gn u hu).resolve_left (Yg u hu hd);exact(Oper.apart_spec this).2.2 k e hk
   exact Xe.AO k x (by rw[h1];exact hx)
  ·rw[Sb]at hx;rcases jZ hx with h |⟨p1,u,p2,e,h1,rfl⟩
   ·intro j hj;have:=h0 k x h j hj;rw[vx,AP0];omega
   ·intro j hj;have hu:u∈Ce:=by rw[e];simp
    have hD:D u.i=true:=by
     rcases cg u hu with h |h
     ·exact XH _ h
     ·exact((Oper.apart_spec h).1 k h1 hk).elim
    have:=Xe.Cs u (by simp[hu]) hD j hj;subst e;obtain⟨ANe,σu,q1,q2⟩:=htp.split;cases q2 with
    |cons hσ' ok' ha' hb' next' =>
     obtain⟨_,_,l2,q3⟩:=next'.nQ he λv hv=>hpb v (by simp[hv]);rw[q3,AP0];omega
end
theorem Wl{a:Act}{d:ATC Tmp}{v:Value}{k:Nat}(h:d≠some k):(a.put d v).tmps.getD k undef=a.tmps.getD k undef:=by
 cases d with
 |none=>rfl
 |some d =>
  have:d≠k:=λe=>h (by rw[e]);simp[Act.put,ARy this]
theorem TM{a:Act}{k:Nat}{v:Value}(h:k<a.tmps.size):(a.put (some k) v).tmps.getD k undef=v:=by
 simp[Act.put,h]
section
variable {P:Program} {en:GV} {B9:Array Oper} {A:ATB (Nat×ATB Nat)} {N m:Nat} {done OV:ATB Nat} {I3 Ce post:ATB Je} {t:Je} {σ σ1:St} {a0 a:Act} {w0 w:World} {g0 g:G} {D D':Nat->Bool}
theorem Inv.next(he:EnvOk P en)(Xe:Inv P A N done I3 σ m a0 w0 g0 D a w g)(im:Tr en B9.toList A done OV σ I3 σ1)(T5:∀u∈I3,u.mA=false)(Tw:I3=Ce++t::post)(Ss:D t.i=false)(XH:∀x∈En A t.i,D x=true)
    (cg:∀u∈Ce,u.i∈En A t.i\/u.o.apart B9 t.o=true) (gn:∀u∈post,t.i∈En A u.i\/t.o.apart B9 u.o=true)
    (h0:∀(i:Nat) (x:AV),σ.AO[i]?=some x->∀k∈x.Cs,k<σ.Aj.length) (mW:Xz σ.Aj) (hm:m<=σ.Aj.length)
    (u0:∀i,D' i=if i=t.i then true else D i) (hnp:∀u∈Ce,u.i≠t.i) (hnq:∀u∈post,u.i≠t.i)
    {l l':ATB Blk} (hl:HZ D I3 σ.Aj=t.σ.Aj++l) (yU:t.post.Aj=t.σ.Aj++l') (hlg:t.grow=true->l=[]) (AJn:t.grow=false->l'=[])
    {v:Value} {w':World} {g':G} (H':Bi w' g' (t.σ.Aj++(l++l'))) (hv:B5 w' g' (t.σ.Aj++(l++l')).length t.val v) (RZ:∀k∈t.val.Cs,k<t.post.Aj.length) (st:Step [] (HZ D I3 σ.Aj).length w g w' g') :
    Inv P A N done I3 σ m a0 w0 g0 D' (a.put t.o.dst v) w' g':=by
 obtain⟨_,hsc,hlen,Yg,hgp,hB,_⟩:=Xe.find he im T5 Tw Ss XH cg gn h0 mW;have AIL:∃l0,t.σ.Aj=σ.Aj++l0:=by
  subst Tw;obtain⟨Acg,σt,htp,htt⟩:=im.split;cases htt with
  |cons hσ ok ha hb next =>
   subst hσ;obtain⟨_,_,l0,vx⟩:=htp.nQ he λu hu=>T5 u (by simp[hu]);exact⟨l0,vx⟩
 have gm:t.Ok en B9.toList:=im.Aif t (by rw[Tw];simp);obtain⟨l1,e1,e2,e3,_⟩:=cW he gm (T5 t (by rw[Tw];simp));have fp:l1=l':=List.append_cancel_left (e1.symm.trans yU);subst fp;have hDt:D' t.i=true:=by rw[u0];simp
 have hDp:∀u∈Ce,D u.i=D' u.i:=λu hu=>by rw[u0,AQf (hnp u hu)]
 have hDq:∀u∈post,D u.i=D' u.i:=λu hu=>by rw[u0,AQf (hnq u hu)]
 have hB':HZ D' I3 σ.Aj=t.σ.Aj++(l++l1):=by
  have h1:HZ D I3 σ.Aj=HZ D post t.σ.Aj:=by
   rw[Tw,cK,HZ,hB,Ss];rfl
  rw[Tw,cK,HZ,<-yG hDp,hB,hDt,ARY,<-yG hDq];cases hg:t.grow with
  |false =>
   simp only[AQM,ARo];rw[<-h1,hl,AJn hg,AQB]
  |true =>
   simp only[AQJ];have AF4:∀u∈post,D u.i=true->u.grow=false:=λu hu hd=>by
    have:=(Yg u hu hd).1;rw[hg]at this;cases this
   rw[ZD AF4,hlg hg,AQ5];cases hq:t.e with
   |none=>simp[Je.grow,hq]at hg
   |some e=>simp only[Je.nb,hq];exact(e3 e hq).2
 have QP:(HZ D I3 σ.Aj).length<=(HZ D' I3 σ.Aj).length:=by rw[hl,hB'];simp
 refine⟨λi hi=>?_,λi hi=>?_,λi hi x hx=>?_,by rw[put_defers];exact Xe.dfr,by rw[Xm];exact Xe.len,?_,by rw[hB'];exact H',λk x hx=>?_,λu hu hd=>?_,λu hu hd hg=>?_⟩
 ·rw[u0];split
  ·rfl
  ·exact Xe.had i hi
 ·rw[u0]at hi;split at hi
  ·rename_i e;exact .inr ⟨t,by rw[Tw];simp,e.symm⟩
  ·exact Xe.only i hi
 ·rw[u0]at hi⊢;split
  ·rfl
  ·split at hi
   ·rename_i e;subst e;exact XH x hx
   ·exact Xe.jU i hi x hx
 ·refine Xe.step.trans (st.zU ?_);obtain⟨l0,kG⟩:=AIL;rw[hl,kG];simp only[AP0];omega
 ·by_cases hd:t.o.dst=some k
  ·have vC:(MM D' I3 σ.AO)[k]?=(ah (some k) t.val (MM D' Ce σ.AO))[k]?:=by
     rw[Tw,YR,MM,hDt,AQe rfl,hd];refine ZE λu hu hd' e=>?_;rw[<-hDq u hu]at hd';exact(Oper.apart_spec (Yg u hu hd').2).2.1 k hd e
   rw[vC]at hx;have hval:=pA hx;subst hval;have ru:k<a.tmps.size:=by
    have:=A5 hx;rw[dJ,cL,Xe.len]at this;exact this
   rw[hd,TM ru,hB'];exact hv
  ·rw[Wl hd];have vC:(MM D' I3 σ.AO)[k]?=(MM D I3 σ.AO)[k]?:=by
    rw[Tw,YR,YR,MM,MM,hDt,Ss,<-yH hDq,<-yH hDp];simp only[AQJ,AQM,ARo];exact j6 (jb hd)
   rw[vC]at hx;exact(Xe.AO k x hx).RP st QP
 ·rw[u0]at hd;split at hd
  ·rename_i e;have hut:u=t:=by
    rw[Tw]at hu;rcases List.mem_append.1 hu with hu |hu
    ·exact(hnp u hu e).elim
    ·rcases List.mem_cons.1 hu with hu |hu
     ·exact hu
     ·exact(hnq u hu e).elim
   subst hut;exact RZ
  ·exact Xe.Cs u hu hd
 ·rw[u0]at hd;split at hd
  ·rename_i e;have hut:u=t:=by
    rw[Tw]at hu;rcases List.mem_append.1 hu with hu |hu
    ·exact(hnp u hu e).elim
    ·rcases List.mem_cons.1 hu with hu |hu
     ·exact hu
     ·exact(hnq u hu e).elim
   subst hut;rw[hlg hg,AQ5]at H';rw[yU];exact H'.scp
  ·exact Xe.scp u hu hd hg
end
theorem AbM{w:World}{g:G}{n:Nat}{σ:St}{a:Act}{B9:Array Oper}{o:Oper}{b:Bool}(h:Want B9.toList σ o b)(hlen:σ.AO.length=a.tmps.size)
    (hs:∀k∈o.looksAt B9,∀x,σ.AO[k]?=some x->B5 w g n x (a.tmps.getD k undef)):Region.wanted o (yielded B9 a.tmps)=b:=by
 cases h with
 |plain h=>simp[Region.wanted,h]
 |@guard g0 iE d b h hd hb =>
  rw[AQa]at hd;have hk:d∈o.looksAt B9:=AQv _ (by simp[h,hd]);have h1:=Tn (hs d hk _ hb);have hl:d<a.tmps.size:=by rw[<-hlen];exact A5 hb
  have h2:a.tmps[d]?=some (.bool b):=by
   rw[AQQ hl];rw[AQU,AQQ hl]at h1;exact congrArg some h1
  simp[Region.wanted,h,yielded,hd,h2]
 |@nil g0 iE d h hd hb =>
  rw[AQa]at hd;have hk:d∈o.looksAt B9:=AQv _ (by simp[h,hd]);have h1:a.tmps.getD d undef=.tuple #[]:=hs d hk _ hb;have hl:d<a.tmps.size:=by rw[<-hlen];exact A5 hb
  have h2:a.tmps[d]?=some (.tuple #[]):=by
   rw[AQQ hl];rw[AQU,AQQ hl]at h1;exact congrArg some h1
  simp[Region.wanted,h,yielded,hd,h2]
section
variable {P:Program} {en:GV} {B9:Array Oper} {A:ATB (Nat×ATB Nat)} {N m:Nat} {done OV:ATB Nat} {I3 Ce post:ATB Je} {t:Je} {σ σ1:St} {a0 a:Act} {w0 w:World} {g0 g:G} {D D':Nat->Bool} {Q:Exit->Act->World->Prop}
theorem Inv.op(he:EnvOk P en)(Xe:Inv P A N done I3 σ m a0 w0 g0 D a w g)(im:Tr en B9.toList A done OV σ I3 σ1)(T5:∀u∈I3,u.mA=false)(Tw:I3=Ce++t::post)(Ss:D t.i=false)(XH:∀x∈En A t.i,D x=true)
    (cg:∀u∈Ce,u.i∈En A t.i\/u.o.apart B9 t.o=true) (gn:∀u∈post,t.i∈En A u.i\/t.o.apart B9 u.o=true)
    (h0:∀(i:Nat) (x:AV),σ.AO[i]?=some x->∀k∈x.Cs,k<σ.Aj.length) (mW:Xz σ.Aj) (hm:m<=σ.Aj.length)
    (u0:∀i,D' i=if i=t.i then true else D i) (hnp:∀u∈Ce,u.i≠t.i) (hnq:∀u∈post,u.i≠t.i) {K:Act->World->Prop}
    (hK:∀a' w' g',Inv P A N done I3 σ m a0 w0 g0 D' a' w' g'->K a' w'):wpOp P B9 Q t.i K a w:=by
 obtain⟨⟨l,hl,_,hlg⟩,hsc,hlen,Yg,hgp,hB,Im⟩:=Xe.find he im T5 Tw Ss XH cg gn h0 mW;have gm:t.Ok en B9.toList:=im.Aif t (by rw[Tw];simp);obtain⟨l1,e1,e2,e3,_⟩:=cW he gm (T5 t (by rw[Tw];simp));have ho:B9[t.i]?=some t.o:=by rw[<-AQa];exact gm.1
 have Ahy:∀k∈t.o.looksAt B9,∀x,t.σ.AO[k]?=some x->B5 w g (HZ D I3 σ.Aj).length x (a.tmps.getD k undef):=λk hk x hx=>(Im k hk x hx).1;have rC:=gm.2;unfold wpOp;simp only[ho];cases hq:t.e with
 |none =>
  rw[hq]at rC;rw[AbM rC hlen Ahy];simp only[AQM,ARo];have hg:t.grow=false:=by simp[Je.grow,hq]
  have hval:t.val=.nil:=by simp[Je.val,hq]
  have VS:=e2 hg;subst VS;refine hK _ _ g (Xe.next he im T5 Tw Ss XH cg gn h0 mW hm u0 hnp hnq hl e1 hlg e2 ?_ ?_ ?_ (Step.refl _ _ _ _))
  ·rw[AQB,<-hl];exact Xe.heap
  ·rw[hval];exact(show B5 _ _ _ .nil undef from rfl)
  ·rw[hval];intro k hk;cases hk
 |some e =>
  rw[hq]at rC;rw[AbM rC.1 hlen Ahy];simp only[AQJ];obtain⟨AF0,AI3⟩:=e3 e hq;have hval:t.val=e.val:=by simp[Je.val,hq]
  have QX:Oz P (vT B9 t.o t.σ) t.o e:=Ts he (by rw[Adm];exact rC.2);refine .inl (AdQ QX AF0 (l:=l) (l':=l1) AI3 ?_ (w:=w) (g:=g) ?_ hsc (by simp only[vT,fu];exact hlen) (λi x hx=>?_) λv w' g' H' hv RZ st=>?_)
  ·cases hg:t.grow with
   |true=>exact .inl (hlg hg)
   |false=>exact .inr (e2 hg)
  ·show Bi w g (t.σ.Aj++l);rw[<-hl];exact Xe.heap
  ·show B5 w g (t.σ.Aj++l).length x _/\∀k∈x.Cs,k<t.σ.Aj.length;rw[<-hl];by_cases hi:i∈t.o.looksAt B9
   ·simp only[vT]at hx;rw[fw (j:=0) (by simpa using hi)]at hx;exact Im i hi x hx
   ·have:=oK (j:=0) (by simpa using hi) hx;subst this;exact⟨RQ,λk hk=>by cases hk⟩
  ·refine hK _ _ g' (Xe.next he im T5 Tw Ss XH cg gn h0 mW hm u0 hnp hnq hl e1 hlg e2 H' (by rw[hval];exact hv) (by rw[hval,oz hq];exact RZ) ?_);rw[hl];exact st
def BA(listed:Array Bool)(i:Nat):Bool:=listed.getD i false
theorem Abl{listed:Array Bool}{i:Nat}(hi:i<listed.size)(j:Nat):BA (listed.setIfInBounds i true) j=if j=i then true else BA listed j:=by
 unfold BA;by_cases h:j=i
 ·subst h;simp[hi]
 ·rw[AQf h,getD_set_ne false (Ne.symm h)]
theorem Vw{listed:Array Bool}(hs:listed.size=B9.size){i:Nat}:i∈Region.ready .any B9 listed↔i<B9.size/\BA listed i=false/\∀d∈U6 B9.toList i,BA listed d=true:=by
 rw[mem_ready];constructor
 ·rintro⟨h1,o,ho,h2⟩
  have hi:i<B9.size:=(Array.getElem?_eq_some_iff.1 ho).1;refine⟨hi,?_,λd hd=>?_⟩
  ·unfold BA;have tm:i<listed.size:=by omega
   simpa [AQU,tm]using h1
  ·unfold U6 at hd;rw[AQa,ho]at hd;obtain⟨e,he,hd⟩:=List.mem_filterMap.1 hd;split at hd
   ·rename_i hb;injection hd with hd;subst hd;exact h2 e (by simpa using he) hb
   ·cases hd
 ·rintro⟨hi,h1,h2⟩
  have tm:i<listed.size:=by omega
  refine⟨?_,B9[i],AQQ hi,λe he hb=>?_⟩
  ·unfold BA at h1;simpa [AQU,tm]using h1
  ·refine h2 e.on ?_;unfold U6;rw[AQa,AQQ hi];exact List.mem_filterMap.2 ⟨e,by simpa using he,by rw[AQe hb]⟩
def left(D:Nat->Bool)(I3:ATB Je):Nat:=(I3.filter λu=>!D u.i).length
theorem Adg(Tw:I3=Ce++t::post)(Ss:D t.i=false)(u0:∀i,D' i=if i=t.i then true else D i)(hnp:∀u∈Ce,u.i≠t.i)(hnq:∀u∈post,u.i≠t.i):left D I3=left D' I3+1:=by
 have sq:∀(l:ATB Je),(∀u∈l,u.i≠t.i)->l.filter (λu=>!D u.i)=l.filter λu=>!D' u.i:=λl h=>List.filter_congr λu hu=>by rw[u0,AQf (h u hu)]
 subst Tw;unfold left;rw[ARM,ARM,ARG,ARG,sq Ce hnp,sq post hnq,Ss,show D' t.i=true by rw[u0];simp];simp;omega
end
theorem Adh{D:Nat->Bool}{I3:ATB Je}(h:left D I3=0):∀u∈I3,D u.i=true:=λu hu=>by
 have:=AQR h;cases hd:D u.i with
 |true=>rfl
 |false =>
  have hm:u∈I3.filter λu=>!D u.i:=List.mem_filter.2 ⟨hu,by grind⟩;rw[this]at hm;cases hm
theorem uO{D:Nat->Bool}:∀{I3:ATB Je},left D I3≠0->∃Ce t post,I3=Ce++t::post/\D t.i=false/\∀u∈Ce,D u.i=true
 |[],h=>(h rfl).elim
 |u::I3,h=>by
  cases hd:D u.i with
  |false=>exact⟨[],u,I3,rfl,hd,λ_ hu=>by grind⟩
  |true =>
   have:left D I3≠0:=by
    unfold left at h⊢
    grind
   obtain⟨Ce,t,post,e,h1,h2⟩:=uO this
   grind
section
variable {P:Program} {en:GV} {B9:Array Oper} {A:ATB (Nat×ATB Nat)} {m:Nat} {Q:Exit->Act->World->Prop} {a0:Act} {w0:World} {g0:G}
theorem vX{I3 Ce post:ATB Je}{t:Je}(h:(I3.map (·.i)).Nodup)(Tw:I3=Ce++t::post):(∀u∈Ce,u.i≠t.i)/\∀u∈post,u.i≠t.i:=by
 grind
theorem Aiw(he:EnvOk P en)(hA:nN B9.toList A){done OV:ATB Nat}{I3:ATB Je}{σ σ1:St}(im:Tr en B9.toList A done OV σ I3 σ1)(T5:∀u∈I3,u.mA=false)(R:ATB Nat)
    (mP:∀i,i<B9.size->i∈done\/(∃u∈I3,u.i=i)\/i∈R) (Bp:∀u∈I3,u.i<B9.size) (S8:(I3.map (·.i)).Nodup)
    (Y1:∀Ce t post,I3=Ce++t::post->∀u∈post,t.i∈En A u.i\/t.o.apart B9 u.o=true) (gq:∀Ce t post,I3=Ce++t::post->∀d∈U6 B9.toList t.i,d∈done\/∃u∈Ce,u.i=d)
    (hR:∀i∈R,∀D:Nat->Bool,jm A D->(∀x∈En A i,D x=true)->(∀r∈R,D r=false)->∀u∈I3,D u.i=true) (hRd:∀r∈R,r∉done/\∀u∈I3,u.i≠r)
    (h0:∀(i:Nat) (x:AV),σ.AO[i]?=some x->∀k∈x.Cs,k<σ.Aj.length) (mW:Xz σ.Aj) (hm:m<=σ.Aj.length)
    (cont:∀(listed:Array Bool) (a:Act) (w:World) (g:G),listed.size=B9.size->(∀i∈done,BA listed i=true)->(∀u∈I3,BA listed u.i=true)->(∀r∈R,BA listed r=false)->jm A (BA listed)->LC w g σ1 a->BK m w0 g0 w g->a.defers=a0.defers ->
     wpAny P .any B9 Q R.length listed a w) :
    ∀(n:Nat) (listed:Array Bool) (a:Act) (w:World) (g:G),listed.size=B9.size->left (BA listed) I3=n->Inv P A B9.size done I3 σ m a0 w0 g0 (BA listed) a w g->wpAny P .any B9 Q (n+R.length) listed a w
 |0,listed,a,w,g,hs,hn,Xe=>by
  have yR:=Adh hn;obtain⟨h1,h2,_⟩:=im.nQ he T5;have hR0:∀r∈R,BA listed r=false:=λr hr=>by
   cases hd:BA listed r with
   |false=>rfl
   |true =>
    rcases Xe.only r hd with h |⟨u,hu,e⟩
    ·exact((hRd r hr).1 h).elim
    ·exact((hRd r hr).2 u hu e).elim
  have hB:HZ (BA listed) I3 σ.Aj=σ1.Aj:=by rw[bh λu hu _=>yR u hu,<-h2]
  rw[AQs];refine cont listed a w g hs Xe.had yR hR0 Xe.jU ⟨by rw[<-hB];exact Xe.heap,by rw[h1,cL];exact Xe.len,λi x hx=>?_⟩ Xe.step Xe.dfr;rw[<-hB];refine Xe.AO i x ?_;rw[bj (λu hu hd=>by rw[yR u hu]at hd;cases hd) rfl,<-h1];exact hx
 |n+1,listed,a,w,g,hs,hn,Xe=>by
  obtain⟨Ce,t,post,Tw,Ss,Ahv⟩:=uO (D:=BA listed) (I3:=I3) (by rw[hn];simp);rw[show n+1+R.length=(n+R.length)+1 by omega];have AGk:t.i∈Region.ready .any B9 listed:=(Vw hs).2 ⟨Bp t (by rw[Tw];simp),Ss,λd hd=>by
   rcases gq Ce t post Tw d hd with h |⟨u,hu,e⟩
   ·exact Xe.had d h
   ·rw[<-e];exact Ahv u hu⟩
  refine⟨λh=>by(rw[h]at AGk;cases AGk),λi hi=>?_⟩;obtain⟨hil,hiu,YA⟩:=(Vw hs).1 hi;have XH:=pD hA Xe.jU YA;rcases mP i hil with h |⟨u,hu,rfl⟩|h
  ·rw[Xe.had i h]at hiu;cases hiu
  ·obtain⟨p1,p2,Y4⟩:=List.append_of_mem hu;obtain⟨hnp,hnq⟩:=vX S8 Y4;have u0:=Abl (listed:=listed) (i:=u.i) (by omega);refine Xe.op he im T5 Y4 hiu XH (λv hv=>?_) (Y1 p1 u p2 Y4) h0 mW hm u0 hnp hnq λa' w' g' AJ9=>?_
   ·obtain⟨q1,q2,hq⟩:=List.append_of_mem hv;exact Y1 q1 v (q2++u::p2) (by rw[Y4,hq];simp) u (by simp)
   ·refine Aiw he hA im T5 R mP Bp S8 Y1 gq hR hRd h0 mW hm cont n _ a' w' g' (by simpa using hs) ?_ AJ9;have:=Adg Y4 hiu u0 hnp hnq;omega
  ·have:=hR i h _ Xe.jU XH λr hr=>by
     cases hd:BA listed r with
     |false=>rfl
     |true =>
      rcases Xe.only r hd with h |⟨u,hu,e⟩
      ·exact((hRd r hr).1 h).elim
      ·exact((hRd r hr).2 u hu e).elim
   rw[this t (by rw[Tw];simp)]at Ss;cases Ss
theorem w5:∀(ts:ATB Je),∃I3 iB,ts=I3++iB/\(∀u∈I3,u.mA=false)/\(iB=[]\/∃b r,iB=b::r/\b.mA=true)
 |[]=>⟨[],[],rfl,λ_ h=>by grind,.inl rfl⟩
 |t::ts=>by
  cases hb:t.mA with
  |true=>exact⟨[],t::ts,rfl,λ_ h=>by grind,.inr ⟨t,ts,rfl,hb⟩⟩
  |false =>
   obtain⟨I3,iB,e,h1,h2⟩:=w5 ts
   grind
theorem Afb(he:EnvOk P en)(hA:nN B9.toList A){σ':St}(WO:∀a' w' g',LC w' g' σ' a'->BK m w0 g0 w' g'->a'.defers=a0.defers->Q .normal a' w') :
    ∀(k:Nat) (ts:ATB Je) (done OV:ATB Nat) (σ:St),ts.length=k->Tr en B9.toList A done OV σ ts σ'->(∀i,i<B9.size->i∈done\/∃u∈ts,u.i=i)->(∀u∈ts,u.i<B9.size)->(∀u∈ts,u.i∉done)->(ts.map (·.i)).Nodup ->
     (∀Ce t post,ts=Ce++t::post->∀u∈post,t.i∈En A u.i\/t.o.apart B9 u.o=true)->(∀Ce t post,ts=Ce++t::post->∀d∈U6 B9.toList t.i,d∈done\/∃u∈Ce,u.i=d)->m<=σ.Aj.length ->
     ∀(listed:Array Bool) (a:Act) (w:World) (g:G),listed.size=B9.size->(∀i∈done,BA listed i=true)->(∀u∈ts,BA listed u.i=false)->jm A (BA listed)->LC w g σ a->BK m w0 g0 w g->a.defers=a0.defers->wpAny P .any B9 Q k listed a w:=by
 intro k;induction k using Nat.strongRecOn with
 |_ k ih =>
  intro ts done OV σ hk im mP Bp AFG S8 Y1 gq hm listed a w g hs gk Ss Il BO AGh AJb;obtain⟨I3,iB,rfl,T5,Ahw⟩:=w5 ts;obtain⟨Acg,σ1,ht1,ht2⟩:=im.split;obtain⟨_,_,lx,AJd⟩:=ht1.nQ he T5;have AJv:(I3.map (·.i)).Nodup:=by
   rw[AQG,AR0]at S8;exact S8.1
  have AFT:left (BA listed) I3=I3.length:=by
   unfold left;rw[List.filter_eq_self.2 λu hu=>by rw[Ss u (by simp[hu])];rfl]
  have bz:∀u∈iB,∀v∈I3,v.i≠u.i:=λu hu v hv=>by
   rw[AQG,AR0]at S8;exact S8.2.2 v.i (List.mem_map.2 ⟨v,hv,rfl⟩) u.i (List.mem_map.2 ⟨u,hu,rfl⟩)
  have hBn:HZ (BA listed) I3 σ.Aj=σ.Aj:=ZD λu hu hd=>by rw[Ss u (by simp[hu])]at hd;cases hd
  have hSn:∀i,(MM (BA listed) I3 σ.AO)[i]?=σ.AO[i]?:=λi=>ZE λu hu hd=>by rw[Ss u (by simp[hu])]at hd;cases hd
  have AFS:k=I3.length+(iB.map (·.i)).length:=by rw[AP8,<-AP0];exact hk.symm
  rw[AFS];refine Aiw (a0:=a0) (w0:=w0) (g0:=g0) he hA ht1 T5 (iB.map (·.i)) (λi hi=>?_) (λu hu=>Bp u (by simp[hu])) AJv (λCe t post Y4 u hu=>Y1 Ce t (post++iB) (by rw[Y4];simp) u (by simp[hu])) (λCe t post Y4=>gq Ce t (post++iB) (by rw[Y4];simp))
   (λi hi D hD XH hRf u hu=>?_) (λr hr=>?_) (λi x hx=>(BO.AO i x hx).Uu) BO.heap.scp hm (λAbk a' w' g' iQ hd' Amc hR' Ag8 dh AhC AnK=>?_) I3.length listed a w g hs AFT ?_
  ·rcases mP i hi with h |⟨u,hu,e⟩
   ·exact .inl h
   ·rcases List.mem_append.1 hu with hu |hu
    ·exact .inr (.inl ⟨u,hu,e⟩)
    ·exact .inr (.inr (List.mem_map.2 ⟨u,hu,e⟩))
  ·rcases Ahw with rfl |⟨b,r,rfl,hb⟩
   ·cases hi
   ·obtain⟨p1,p2⟩:=im.aJ;rw[AQI]at hi;rcases List.mem_cons.1 hi with rfl |hi
    ·exact XH _ ((p2 hb).2 u hu)
    ·obtain⟨v,hv,rfl⟩:=List.mem_map.1 hi;have h1:=XH _ (p1 (by simp[hb]) v hv);rw[hRf b.i (by simp)]at h1;cases h1
  ·obtain⟨v,hv,rfl⟩:=List.mem_map.1 hr;exact⟨AFG v (by simp[hv]),λu hu=>bz v hv u hu⟩
  ·rcases Ahw with rfl |⟨b,r,rfl,hb⟩
   ·cases ht2;refine⟨List.eq_nil_iff_forall_not_mem.2 λi hi=>?_,WO a' w' g' dh AhC AnK⟩;obtain⟨hil,hiu,_⟩:=(Vw iQ).1 hi;rcases mP i hil with h |⟨u,hu,e⟩
    ·rw[hd' i h]at hiu;cases hiu
    ·rw[<-e,Amc u (by simpa using hu)]at hiu;cases hiu
   ·rw[AQI,AQL,AP8];have hbr:b.i∈Region.ready .any B9 Abk:=(Vw iQ).2 ⟨Bp b (by simp),hR' b.i (by simp),λd hd=>by
     rcases gq I3 b r rfl d hd with h |⟨u,hu,e⟩
     ·exact hd' d h
     ·rw[<-e];exact Amc u hu⟩
    refine⟨λh=>by(rw[h]at hbr;cases hbr),λi hi=>?_⟩;obtain⟨hil,hiu,YA⟩:=(Vw iQ).1 hi;have XH:=pD hA Ag8 YA;obtain⟨p1,p2⟩:=im.aJ;have hib:i=b.i:=by
     rcases mP i hil with h |⟨u,hu,rfl⟩
     ·rw[hd' i h]at hiu;cases hiu
     ·rcases List.mem_append.1 hu with hu |hu
      ·rw[Amc u hu]at hiu;cases hiu
      ·rcases List.mem_cons.1 hu with rfl |hu
       ·rfl
       ·have:=XH _ (p1 (by simp[hb]) u hu);rw[hR' b.i (by simp)]at this;cases this
    subst hib;cases ht2 with
    |cons hσ ok ha hbd next =>
     subst hσ;have ho:B9[b.i]?=some b.o:=by rw[<-AQa];exact ok.1
     have rC:=ok.2;cases hq:b.e with
     |none=>simp[Je.mA,hq]at hb
     |some e =>
      rw[hq]at rC;have QX:=Ts he rC.2;unfold wpOp;simp only[ho];rw[AQe (Kb dh rC.1)];have Ut:m<=b.σ.Aj.length:=by rw[AJd,AP0];omega
      refine .inl (QX.wp a' w' g' dh _ Q λv w2 g2 H2 hv2 Qp=>?_);have Yg:b.post=b.σ.after b.o.dst e:=by simp[Je.post,hq]
      have HY:=Abl (listed:=Abk) (i:=b.i) (by omega);have AGd:∀u∈r,u.i≠b.i:=(vX S8 rfl).2;refine ih r.length (by rw[<-hk];simp;omega) r (b.i::((I3.map (·.i)).reverse++done)) _ b.post rfl next (λi hi=>?_) (λu hu=>Bp u (by simp[hu])) (λu hu=>?_) ?_ (λCe t post Y4 u hu=>Y1 (I3++b::Ce) t post (by rw[Y4];simp) u hu) (λCe t post Y4 d hd=>?_) (by rw[Yg];exact AQq Ut QX.grow)
       _ _ w2 g2 (by simpa using iQ) (λi hi=>?_) (λu hu=>?_) (λi hi x hx=>?_) (by rw[Yg];exact dh.after QX.grow H2 hv2 Qp) (AhC.trans (Qp.zU Ut)) (by rw[put_defers];exact AnK)
      ·rcases mP i hi with h |⟨u,hu,e⟩
       ·exact .inl (by simp[h])
       ·rcases List.mem_append.1 hu with hu |hu
        ·exact .inl (by simp;exact .inr (.inl ⟨u,hu,e⟩))
        ·rcases List.mem_cons.1 hu with rfl |hu
         ·exact .inl (by simp[e])
         ·exact .inr ⟨u,hu,e⟩
      ·have h1:=AFG u (by simp[hu]);have h2:=AGd u hu;have h3:∀v∈I3,v.i≠u.i:=λv hv=>bz u (by simp[hu]) v hv;simp only[ARC,ARl,List.mem_reverse,List.mem_map,not_or,not_exists,not_and];exact⟨h2,λv hv=>h3 v hv,h1⟩
      ·rw[AQG,AR0,AQI,List.nodup_cons]at S8;exact S8.2.1.2
      ·rcases gq (I3++b::Ce) t post (by rw[Y4];simp) d hd with h |⟨u,hu,e⟩
       ·exact .inl (by simp[h])
       ·rcases List.mem_append.1 hu with hu |hu
        ·exact .inl (by simp;exact .inr (.inl ⟨u,hu,e⟩))
        ·rcases List.mem_cons.1 hu with rfl |hu
         ·exact .inl (by simp[e])
         ·exact .inr ⟨u,hu,e⟩
      ·rw[HY];split
       ·rfl
       ·rename_i Ke;rcases List.mem_cons.1 hi with h |h
        ·exact(Ke h).elim
        ·rcases List.mem_append.1 h with h |h
         ·obtain⟨u,hu,rfl⟩:=List.mem_map.1 (List.mem_reverse.1 h);exact Amc u hu
         ·exact hd' i h
      ·rw[HY,AQf (AGd u hu)];exact hR' u.i (by simp;exact .inr ⟨u,hu,rfl⟩)
      ·rw[HY]at hi⊢;split
       ·rfl
       ·split at hi
        ·rename_i e;subst e;exact XH x hx
        ·exact Ag8 i hi x hx
  ·refine⟨gk,λi hi=>.inl ?_,Il,AJb,BO.len,AGh,by rw[hBn];exact BO.heap,λi x hx=>?_,λu hu hd=>by(rw[Ss u (by simp[hu])]at hd;cases hd),λu hu hd=>by(rw[Ss u (by simp[hu])]at hd;cases hd)⟩
   ·have hil:i<B9.size:=by
      unfold BA at hi;rcases AP7 i listed.size with h' |h'
      ·omega
      ·simp[AQU,Array.getElem?_eq_none h']at hi
    rcases mP i hil with h |⟨u,hu,rfl⟩
    ·exact h
    ·rw[Ss u hu]at hi;cases hi
   ·rw[hSn]at hx;rw[hBn];exact BO.AO i x hx
end
theorem fF:∀{l:ATB Nat},nodup l=true->l.Nodup
 |[],_=>List.nodup_nil
 |k::r,h=>by
  simp only[nodup,AP3]at h;rw[List.nodup_cons];exact⟨by grind,fF h.2⟩
theorem wi{all:ATB Oper}{A:ATB (Nat×ATB Nat)}:∀{L Ce post:ATB Nat} {i:Nat},dC all A L=true->L=Ce++i::post->∀j∈post,i∈En A j\/∃x y,all[i]?=some x/\all[j]?=some y/\x.apart all.toArray y=true
 |[],Ce,post,i,_,h=>by simp at h
 |k::L,[],post,i,hp,h=>by
  injection h with h1 h2;subst h1;subst h2;intro j hj;simp only[dC,AP3]at hp
  grind
 |k::L,p::Ce,post,i,hp,h=>by
  injection h with h1 h2;simp only[dC,AP3]at hp;exact wi hp.2 h2
theorem AbG{all:ATB Oper}:∀{L Ce post done:ATB Nat} {i:Nat},lY all L done=true->L=Ce++i::post->∀d∈U6 all i,d∈done\/d∈Ce
 |[],Ce,post,done,i,_,h=>by simp at h
 |k::L,[],post,done,i,hp,h=>by
  injection h with h1 h2;subst h1;intro d hd;simp only[lY,AP3]at hp
  grind
 |k::L,p::Ce,post,done,i,hp,h=>by
  injection h with h1 h2;subst h1;simp only[lY,AP3]at hp;intro d hd;rcases AbG hp.2 h2 d hd with h |h
  ·grind
  ·grind
theorem qU{P:Program}{en:GV}{m:Nat}(he:EnvOk P en)(AJt:P.follows .mixedOrders=true){id:Nat}{B9:Array Oper}{L:ATB Nat}(gm:Afa B9.toList L=true){σ σ':St}(hx:U8 en B9.toList (YL B9.toList L []) L [] [] σ some=some σ')(hm:m<=σ.Aj.length) :
    m<=σ'.Aj.length/\∀(a:Act) (w:World) (g:G) (Q:Exit->Act->World->Prop),LC w g σ a->(∀a' w' g',LC w' g' σ' a'->BK m w g w' g'->a'.defers=a.defers->Q .normal a' w')->(Code.region id B9 true).wp P Q a w:=by
 simp only[Afa,AP3]at gm;obtain⟨⟨⟨⟨S8,mP⟩,Bp⟩,Y1⟩,gq⟩:=gm;obtain⟨ts,aB,im⟩:=cX he.aI hx;have hA:nN B9.toList (YL B9.toList L []):=nR _ L [] (λi x h=>by cases h) S8 λi _ p hp=>by grind
 have grow:∀{ts:ATB Je} {done OV:ATB Nat} {σ σ':St},Tr en B9.toList (YL B9.toList L []) done OV σ ts σ'->σ.Aj.length<=σ'.Aj.length:=by
  intro ts;induction ts with
  |nil=>intro done OV σ σ' h;cases h;exact AP2 _
  |cons t ts ih =>
   intro done OV σ σ' h;cases h with
   |cons hσ ok ha hb next =>
    subst hσ;refine AQq ?_ (ih next)
    have ok2:=ok.2;unfold Je.post;cases hq:t.e with
    |none=>exact AP2 _
    |some e =>
     rw[hq]at ok2;exact(Ts he ok2.2).grow
 have AGv:∀Ce t post,ts=Ce++t::post->L=Ce.map (·.i)++t.i::post.map (·.i):=λCe t post h=>by grind
 refine⟨AQq hm (grow im),λa w g Q hs hq=>wp_region_any AJt ?_⟩;have Sb:LC {w with drawn:=w.drawn+1} g σ a:=⟨hs.heap.drew,hs.len,λi x hx=>(hs.AO i x hx).RP (Step.drew [] _ w g) (AP2 _)⟩;have hlen:ts.length=B9.size:=by
  have h1:ts.length=L.length:=by grind
  have hn:=fF S8;have bD:∀i∈L,i∈List.range B9.size:=λi hi=>by
   grind
  have AJO:∀i∈List.range B9.size,i∈L:=λi hi=>by
   grind
  have h2:=hn.length_le_of_subset bD;have h3:=List.nodup_range.length_le_of_subset AJO
  grind
 have rE:∀i,BA (Array.replicate B9.size false) i=false:=λi=>by
  unfold BA;rw[AQU,Array.getElem?_replicate];split<;>rfl
 refine Afb (m:=m) (a0:=a) (w0:=w) (g0:=g) he hA hq B9.size ts [] [] σ hlen im (λi hi=>.inr ?_) (λu hu=>?_) (λu _ h=>by grind) (by rw[aB];exact fF S8) (λCe t post Y4 u hu=>?_) (λCe t post Y4 d hd=>?_) hm
  _ a _ g (by simp) (λi hi=>by grind) (λu _=>rE _) (λi hi=>by grind) Sb (Step.drew _ _ w g) rfl
 ·have:=List.all_eq_true.1 mP i (by grind)
  grind
 ·have hu':u.i∈L:=by grind
  grind
 ·rcases wi Y1 (AGv Ce t post Y4) u.i (List.mem_map.2 ⟨u,hu,rfl⟩)with h |⟨x,y,hx,hy,h⟩
  ·grind
  ·have h1:=(im.Aif t (by grind)).1;have h2:=(im.Aif u (by rw[Y4];simp[hu])).1;rw[hx]at h1;injection h1 with h1;rw[hy]at h2;injection h2 with h2;subst h1;subst h2;exact .inr (by simpa using h)
 ·rcases AbG gq (AGv Ce t post Y4) d hd with h |h
  ·cases h
  ·obtain⟨u,hu,e⟩:=List.mem_map.1 h;exact .inr ⟨u,hu,e⟩
section
variable {P:Program} {en:GV} {m:Nat}
def xP(P:Program)(en:GV)(m:Nat)(c:Code):Prop:=∀(σ:St) (e:Ex) (σ':St),ev en m c (Ex×St) σ Sd=some (e,σ')->m<=σ.Aj.length->m<=σ'.Aj.length /\
 ∀(a:Act) (w:World) (g:G) (Q:Exit->Act->World->Prop),LC w g σ a->(∀a' w' g',LC w' g' σ' a'->BK m w g w' g'->a'.defers=a.defers->Q (qV e) a' w')->c.wp P Q a w
theorem cZ(he:Z7 en){c:Code}{R:Type}{σ:St}{K:Ex->St->ATC R}{r:R}(h:ev en m c R σ K=some r):∃e s,ev en m c (Ex×St) σ Sd=some (e,s)/\K e s=some r:=by
 rw[XE he]at h;cases hx:ev en m c _ σ _ with
 |none=>grind
 |some p=>grind
theorem Amv(he:Jy P en){body:Code}(ih:xP P en m body):xP P en m (.loop body):=by
 intro σ e σ' h hm;simp only[ev]at h;split at h
 ·rename_i hh ho _ _;split at h
  ·grind
  ·rename_i σ0 hσ0;have h:(fix (pK en m hh ho body) σ0).bind (λp=>Sd p.1 p.2)=some _:=h;cases hf:fix (pK en m hh ho body) σ0 with
   |none=>grind
   |some p =>
    rw[hf]at h;have h:p=(e,σ'):=by grind
    subst h;obtain⟨n,hn⟩:=(W6.1 hf).n;have WO:∀n s,ToN (pK en m hh ho body) n s (e,σ')->m<=s.Aj.length->m<=σ'.Aj.length:=by
     intro n s hs;generalize ht:(e,σ')=t at hs;induction hs with
     |done hd =>
      subst ht;intro hms;obtain⟨e1,s',hb,hc⟩:=XU he.aI hd;rcases hc with ⟨_,ZV,_,hr⟩|⟨_,ZV,hh2,hr⟩
      ·grind
      ·injection hr with hr;injection hr with h1 h2;subst h2;exact W9 hh2
     |fE hd _ ihn =>
      intro hms;obtain⟨e1,s',hb,hc⟩:=XU he.aI hd;rcases hc with ⟨_,ZV,Ahp,hr⟩|⟨_,ZV,_,hr⟩
      ·injection hr with hr;subst hr;exact ihn ht (W9 Ahp)
      ·grind
    have yX :=W9 hσ0;refine⟨WO n σ0 hn yX,λa w g Q hs hq=>?_⟩;obtain⟨g0,xI,vz,_⟩:=XI hσ0 hs hm;refine Ad5 (λn a' w'=>∃s g',ToN _ n s _/\LC w' g' s a'/\m<=s.Aj.length/\BK m w g w' g'/\a'.defers=a.defers) (λn a1 w1 hR=>?_)  ⟨σ0,g0,hn,xI,yX,vz,rfl⟩;obtain⟨s,g1,vA,Sb,hms,XJ,mR⟩:=hR;cases vA with
    |done hd =>
     obtain⟨e1,s',hb,hc⟩:=XU he.aI hd;rcases hc with ⟨_,ZV,_,hr⟩|⟨Ke,ZV,hh2,hr⟩
     ·grind
     ·injection hr with hr;injection hr with h1 h2;subst h1;subst h2;obtain⟨AvM,rG⟩:=ih _ _ _ hb hms;refine rG a1 w1 g1 _ Sb λa2 w2 g2 YC y8 hd2=>?_;obtain⟨g3,vx,AhB,_⟩:=XI hh2 YC AvM;have hQ:=hq a2 w2 g3 vx ((XJ.trans y8).trans AhB) (hd2.trans mR);cases e with
      |normal=>grind
      |exit k=>exact hQ
      |ret=>exact hQ
    |fE hd AJQ =>
     rename_i k;obtain⟨e1,s',hb,hc⟩:=XU he.aI hd;rcases hc with ⟨he1,ZV,Ahp,hr⟩|⟨_,ZV,_,hr⟩
     ·injection hr with hr;subst hr;subst he1;obtain⟨AvM,rG⟩:=ih _ _ _ hb hms;refine rG a1 w1 g1 _ Sb λa2 w2 g2 YC y8 hd2=>?_;obtain⟨g3,vx,AhB,hm3⟩:=XI Ahp YC AvM;exact⟨k,AQC _,_,g3,AJQ,vx,hm3,(XJ.trans y8).trans AhB,hd2.trans mR⟩
     ·grind
 ·grind
theorem bn:∀{l:ATB (ATC Unit)},uT l=some ()->∀x∈l,x=some ()
 |[],_,_,h=>by grind
 |[x],h,y,hy=>by rw[AQn]at hy;subst hy;exact h
 |x::y::r,h,z,hz=>by
  simp only[uT]at h;cases hf:x with
  |none=>grind
  |some u =>
   rw[hf]at h;rcases List.mem_cons.1 hz with rfl |hz
   ·grind
   ·exact bn h z hz
theorem AgH(he:Jy P en){σ σ0:St}{l:ATC (ATB Nat)}(h:AlQ m σ l=some σ0)(hm:m<=σ.Aj.length):m<=σ0.Aj.length/\∀{a:Act} {w:World} {g:G},LC w g σ a->∃g0,LC w g0 σ0 a/\BK m w g w g0:=by
 cases l with
 |none=>simp only[AlQ,APY]at h;subst h;exact⟨hm,λhs=>⟨_,hs,BK.refl _ _ _⟩⟩
 |some l =>
  have h:σ.head {Bc:=l} m=some σ0:=h;exact⟨W9 h,λhs=>by obtain⟨g1,h1,h2,_⟩:=XI h hs hm;exact⟨g1,h1,h2⟩⟩
theorem AgM(he:Z7 en){σ:St}{o:Oper}{e:Ij}(ha:jC en σ o=none)(hs:wB en σ o=none)(ht:tlE en σ o=none)(hc:∀c,o.op≠.call c)(h:exec en σ o some=some e):∃e0,R7 en σ o some=some e0:=by
 have h:V2 en σ o some=some e:=by
  unfold exec at h
  grind
 unfold V2 at h;rw[ha,hs,ht]at h;simp only at h;split at h
 ·cases hd:kl en o with
  |false=>grind
  |true =>
   rw[hd]at h;rw[Nq en he]at h;cases hx:R7 en σ o some with
   |none=>grind
   |some e0=>grind
 ·rw[Nq en he]at h;cases hx:R7 en σ o some with
  |none=>grind
  |some e0=>grind
theorem eK{α:Type}{k:IntKind}{x y:Int}{c:BoundsCode}{w w1:World}{r:α}(h:(boundsPanic k x y c:Sem α).run P w=.ok r w1):False:=by
 unfold boundsPanic at h;split at h
 ·rw[Sem.run_bind]at h;generalize (Sem.run P _ w)=q at h;cases q with
  |halt e w=>cases h
  |ok b w2=>simp[runtimePanic]at h
 ·simp[runtimePanic]at h
theorem dP{t:TypeId}{w w1:World}{n:Nat}(h:(sizeOf t).run P w=.ok n w1):∀w',(sizeOf t).run P w'=.ok n w':=by
 intro w';unfold sizeOf typeInfo at h⊢;simp only[Sem.run_bind]at h⊢;have hp:(program).run P w=.ok P w:=rfl;have hp':(program).run P w'=.ok P w':=rfl;simp only[hp,hp',Result.andThen_ok]at h⊢;cases hq:P.info? t with
 |none=>rw[hq]at h;simp at h
 |some i=>rw[hq]at h;simp at h⊢;exact h.1
theorem nh{t:TypeId}{u v c:Value}{w w1:World}(h:(Instr.indexAt t u v).run P w=.ok c w1):∀w',(Instr.indexAt t u v).run P w'=.ok c w':=by
 intro w';unfold Instr.indexAt at h⊢;cases v with
 |int k i =>
  simp only[asIntOf,pure_bind]at h⊢;cases hu:P.underlying t with
  |none=>simp[underlying,hu]at h
  |some d =>
   cases d with
   |slice elem =>
    cases u with
    |slice base len cap =>
     simp[underlying,hu]at h⊢;cases base with
     |none=>exact(eK (by simpa using h)).elim
     |some a =>
      simp only at h⊢;split at h
      ·rename_i hc;rw[AQe hc];simp only[Sem.run_map]at h⊢;cases hs:(sizeOf elem).run P w with
       |halt e w=>rw[hs]at h;cases h
       |ok n w2 =>
        rw[hs]at h;rw[dP hs w'];simp at h⊢;exact h.1
      ·exact(eK (by simpa using h)).elim
    |_=>simp[underlying,hu]at h
   |array len elem =>
    cases u with
    |pointer p =>
     cases p with
     |none=>simp[underlying,hu,Instr.sureAddr]at h
     |some a =>
      simp[underlying,hu,Instr.sureAddr]at h⊢;split at h
      ·rename_i hc;rw[AQe hc];cases hs:(sizeOf elem).run P w with
       |halt e w=>rw[hs]at h;cases h
       |ok n w2 =>
        rw[hs]at h;rw[dP hs w'];simp at h⊢;exact h.1
      ·split at h
       ·cases h
       ·exact(eK h).elim
    |_=>simp[underlying,hu,Instr.sureAddr]at h
   |_=>simp[underlying,hu]at h
 |pointer p=>cases p<;>simp[asIntOf]at h
 |_=>simp[asIntOf]at h
def tc(P:Program){α:Type}(s:Sem α):Prop:=∀w w1 c,s.run P w=.ok c w1->∀w',s.run P w'=.ok c w'
theorem tc.pure{α:Type}(x:α):tc P (Pure.pure x:Sem α):=λw w1 c h w'=>by simp at h⊢;exact h.1
theorem tc.bind{α β:Type}{s:Sem α}{f:α->Sem β}(h1:tc P s)(h2:∀x,tc P (f x)):tc P (s >>= f):=λw w1 c h w'=>by
 rw[Sem.run_bind]at h⊢;cases hs:s.run P w with
 |halt e w2=>rw[hs]at h;cases h
 |ok x w2 =>
  rw[hs]at h;rw[h1 _ _ _ hs w'];exact h2 x _ _ _ h w'
theorem tc.info(t:TypeId):tc P (typeInfo t):=λw w1 c h w'=>by
 unfold typeInfo at h⊢;simp only[Sem.run_bind]at h⊢;have hp:(program).run P w=.ok P w:=rfl;have hp':(program).run P w'=.ok P w':=rfl;simp only[hp,hp',Result.andThen_ok]at h⊢;cases hq:P.info? t with
 |none=>rw[hq]at h;simp at h
 |some i=>rw[hq]at h;simp at h⊢;exact h.1
theorem tc.mapM{α β:Type}{f:α->Sem β}(h:∀x,tc P (f x)):∀l:ATB α,tc P (l.mapM f)
 |[]=>by exact .pure _
 |x::l=>by rw[List.mapM_cons];exact .bind (h x) λy=>.bind (tc.mapM h l) λys=>.pure _
theorem tc.map{α β:Type}{s:Sem α}(f:α->β)(h:tc P s):tc P (f <$> s):=by
 exact .bind h λx=>.pure _
theorem uc(t:TypeId)(Ht:Array (Nat×Value)):tc P (Instr.build t Ht):=by
 have MQ:∀t,tc P (sizeOf t):=λt=>by exact .bind (.info t) λ_=>.pure _
 have Ss:tc P (underlying t):=by
  refine .bind (λw w1 c h w'=>?_) λp=>?_
  ·have hp:(program).run P w=.ok P w:=rfl;have hp':(program).run P w'=.ok P w':=rfl
   grind
  ·split
   ·exact .pure _
   ·exact λw w1 c h=>by simp at h
 refine .bind (.bind (.info t) λi=>?_) λz=>?_
 ·split
  ·exact .pure _
  ·exact λw w1 c h=>by simp at h
 ·refine .bind Ss λd=>?_;split
  ·refine .bind ?_ λps=>?_
   ·rw[Array.mapM_eq_mapM_toList];exact .map _ (.mapM (λf=>.bind (MQ _) λ_=>.pure _) _)
   ·split
    ·exact .pure _
    ·exact λw w1 c h=>by simp at h
  ·refine .bind (MQ _) λn=>?_;split
   ·exact .pure _
   ·exact λw w1 c h=>by simp at h
  ·exact λw w1 c h=>by simp at h
theorem pz(he:EnvOk P en){σ:St}{o:Oper}{e:Ij}(hp:Abv o=true)(hx:exec en σ o some=some e){w w1:World}{g:G}{a:Act}(hs:LC w g σ a){n:Next}(hr:(execOp a.eval o).run P w=.ok n w1) :
    ∃c,∀w',(execOp a.eval o).run P w'=.ok (.value c) w':=by
 unfold Abv at hp;split at hp
 ·rename_i x ho;exact⟨a.eval x,λw'=>by simp[execOp,ho]⟩
 ·rename_i x ho;exact⟨a.eval x,λw'=>by simp[execOp,ho]⟩
 ·rename_i x i ho;simp only[execOp,ho,Instr.extract]at hr⊢;split at hr
  ·split at hr
   ·rename_i v hv;exact⟨v,λw'=>by simp⟩
   ·cases hr
  ·cases hr
 ·rename_i t x f ho;have ha:jC en σ o=none:=by unfold jC;rw[ho]
  obtain⟨e0,hx⟩:=AgM he.aI ha (by unfold wB Adr;rw[ho]) (by unfold tlE;rw[ho]) (λc e=>by grind) hx;unfold R7 at hx;rw[ho]at hx;simp only at hx;split at hx
  ·rename_i ti ht;have Yh:=AU hs x;unfold mJ at hx;split at hx
   ·rename_i k i p q hq;rw[hq]at Yh;split at hx
    ·rename_i fo hfo;obtain⟨_,_,_,b,_,e1⟩:=LU Yh;exact⟨.pointer (some ⟨b,i.toNat*(g.AY k).ov+q+fo,none⟩),λw'=>by simp[execOp,ho,e1,(V3   (he.t ht) hfo b _).1]⟩
    ·grind
   ·rename_i ks t' y hq;rw[hq]at Yh;split at hx
    ·rename_i hc;obtain⟨_,b,off,ds,e1,_⟩:=Zy Yh;cases hfo:ti.Xk[f]? with
     |none =>
      rw[hfo]at hc;obtain⟨rfl,hc⟩:=hc;split at hx
      ·rename_i UD u z hz
       exfalso
       have:∀(f:Nat) (t:Ty) (x:t.V) (v:AV),Yx ks t x f=some v->Vt t f≠none:=by
        intro f;induction f with
        |zero=>intro t x v h;cases t<;>simp[Yx,Vt]at h⊢
        |succ f ih =>
         intro t x v h;cases t with
         |AE a b =>
          have:=ih b x.2 v h;simp only[Vt]
          grind
         |_=>simp[Yx]at h
       exact this f _ y _ hz hc
      ·grind
     |some fo=>exact⟨.pointer (some ⟨b,off+fo,none⟩),λw'=>by simp[execOp,ho,e1,(V3   (he.t ht) hfo b _).1]⟩
    ·grind
   ·grind
  ·grind
 ·rename_i t x i ho;simp only[execOp,ho]at hr⊢;rw[Sem.run_bind]at hr;cases hq:(Instr.indexAt t _ _).run P w with
  |halt e w=>rw[hq]at hr;cases hr
  |ok c w2=>exact⟨c,λw'=>by rw[Sem.run_bind,nh hq w'];rfl⟩
 ·rename_i t Ht ho;simp only[execOp,ho]at hr⊢;rw[Sem.run_bind]at hr;cases hq:(Instr.build t _).run P w with
  |halt e w=>rw[hq]at hr;cases hr
  |ok c w2=>exact⟨c,λw'=>by rw[Sem.run_bind,uc _ _ _ _ _ hq w'];rfl⟩
 ·grind
theorem cx(he:Jy P en){h:SH}{B9:Array Oper}{σ':St}{Q:Exit->Act->World->Prop}{a0:Act}{w0:World}{g0:G}
    (WO:∀a' w' g',LC w' g' σ' a'->BK m w0 g0 w' g'->a'.defers=a0.defers->Q .normal a' w') (fq:Region.noSelect B9=true) (hQ:∀c a w,¬Q (.panic c) a w) :
    ∀(k:Nat) (listed:Array Bool) (σ:St),Ach en h m B9 σ' k listed σ=some ()->m<=σ.Aj.length->∀(a:Act) (w:World) (g:G),LC w g σ a->BK m w0 g0 w g->a.defers=a0.defers->wpAny P .any B9 Q k listed a w
 |0,listed,σ,hw,hm,a,w,g,hs,BO,hd=>by
  simp only[Ach]at hw;split at hw
  ·rename_i hr;split at hw
   ·rename_i s hh;unfold mH at hw;split at hw
    ·rename_i e;subst e;obtain⟨g1,Sb,Se,_⟩:=XI hh hs hm;exact⟨by grind,WO a w g1 Sb (BO.trans Se) hd⟩
    ·grind
   ·grind
  ·grind
 |k+1,listed,σ,hw,hm,a,w,g,hs,BO,hd=>by
  simp only[Ach]at hw;split at hw
  ·rename_i i hi;have hp:=List.find?_some hi;have mV:=List.mem_of_find?_eq_some hi;rw[AP3]at hp;simp only[R6]at hw;split at hw
   ·grind
   ·rename_i o ho;have xH:B9[i]?=some o:=by grind
    rw[xH]at hp;rcases Qx hw with ⟨hwt,h1⟩|⟨hwt,h1⟩
    ·rw[Tq en he.aI]at h1;cases hx:exec en σ o some with
     |none=>grind
     |some e =>
      rw[hx]at h1;have QX:=Ts he.toEnvOk hx;have Ot:=QX.grow;have rG:=QX.wp a w g hs (wpAny P .any B9 Q k (listed.setIfInBounds i true)) (λ_ _ _=>False) λv w' g' hH hv dh=>cx he WO fq hQ k _ _ h1 (AQq hm Ot) _ _ _ (hs.after Ot hH hv dh) (BO.trans (dh.zU hm)) (by rw[Go.Va.put_defers];exact hd);have El:∃n w1,(execOp a.eval o).run P w=.ok n w1:=by
       unfold Oper.wp at rG;cases hq:(execOp a.eval o).run P w with
       |ok n w1=>grind
       |halt e w1=>rw[hq]at rG;cases e<;>exact rG.elim
      obtain⟨n,w1,El⟩:=El;obtain⟨c,hc⟩:=pz he.toEnvOk hp.1 hx hs El;have hy:Yields P B9 o c a:=.inl ⟨Kb hs hwt,hc⟩;refine wpAny_take xH fq hp.2 (by grind) (λc a w h=>(hQ c _ _ h).elim) hy ?_;unfold Oper.wp at rG;rw[hc w]at rG;exact rG
    ·have hy:Yields P B9 o undef a:=.inr ⟨Kb hs hwt,rfl⟩;refine wpAny_take xH fq hp.2 (by grind) (λc a w h=>(hQ c _ _ h).elim) hy ?_;exact cx he WO fq hQ k _ _ h1 hm _ _ _ (hs.skip o.dst) BO (by rw[Go.Va.put_defers];exact hd)
  split at hw
  ·grind
  ·rename_i hr;refine⟨λe=>by grind,λi hi=>?_⟩;have h1:=bn hw _ (List.mem_map_of_mem hi);simp only[R6]at h1;unfold wpOp;split at h1
   ·grind
   ·rename_i o ho;have xH:B9[i]?=some o:=by grind
    simp only[xH];rcases Qx h1 with ⟨hw,h1⟩|⟨hw,h1⟩
    ·rw[Tq en he.aI]at h1;cases hx:exec en σ o some with
     |none=>grind
     |some e =>
      rw[hx]at h1;have QX:=Ts he.toEnvOk hx;have Ot:=QX.grow;rw[AQe (Kb hs hw)];refine .inl (QX.wp a w g hs _ Q λv w' g' hH hv dh=>?_);exact cx he WO fq hQ k _ _ h1 (AQq hm Ot) _ _ _ (hs.after Ot hH hv dh) (BO.trans (dh.zU hm)) (by rw[put_defers];exact hd)
    ·rw[Kb hs hw];exact cx he WO fq hQ k _ _ h1 hm _ _ _ (hs.skip o.dst) BO (by rw[put_defers];exact hd)
theorem LC.cut{w:World}{g:G}{σ:St}{a:Act}(hs:LC w g σ a):LC w (g.cut σ.Aj.length) σ a:=by
 have kE:∀b,g.own b=.Jb->(g.cut σ.Aj.length).own b=.Jb:=λb h=>by simp[G.cut,h]
 refine⟨⟨λb hb=>by simp[G.cut,hs.heap.BZ b hb],λk x hx=>?_⟩,hs.len,λi x hx=>?_⟩
 ·have:=(hs.heap.MG k x hx).OU  kE (iL (A5 hx)) λj hj=>iL (hs.heap.scp k x hx j hj);rwa [aX]at this
 ·have h:=hs.AO i x hx;have:=h.OU    kE λk hk=>iL (h.Uu k hk);rwa [Np]at this
theorem zj(he:EnvOk P en){σ:St}{o:Oper}{e:Ij}{t:TypeId}{x:Operand}(ho:o.op=.load t x){k:Nat}{i:Int}{p:ATB Nat}{f:Nat}{a0:AV}(hx:σ.Cg x=.ptr k i p f)(hb:σ.Aj[k]?=some (.box a0))(hex:exec en σ o some=some e)
    {w:World} {g:G} {a:Act} (hs:LC w g σ a):∃b,(g.AY k).a=some ⟨b,0,none⟩/\∃c,∀w',w'.heap[b]?=w.heap[b]?->(execOp a.eval o).run P w'=.ok (.value c) w':=by
 have ha:jC en σ o=none:=by
  unfold jC
  grind
 obtain⟨e0,hex⟩:=AgM he.aI ha (by unfold wB Adr;rw[ho]) (by unfold tlE;rw[ho]) (λc e=>by grind) hex;unfold R7 at hex;rw[ho]at hex;simp only at hex;split at hex
 ·rename_i ti ht;have Yh:=AU hs x;rw[hx]at Yh hex;obtain⟨hk,h0,h1,b,OB,hpe⟩:=LU Yh;refine⟨b,OB,?_⟩;have hld:∃v,atP σ.Aj k i p f=some v/\v.size=ti.ty.size:=by
   split at hex
   ·split at hex
    ·unfold bZ at hex;simp only[hb]at hex;cases hex
    ·grind
   ·unfold aF at hex
    grind
  obtain⟨v,hv,MQ⟩:=hld;obtain⟨cs,mQ,Dp⟩:=WV hs.heap hv h1 OB;have hl:cs.length=ti.ty.size:=by rw[mQ.len,MQ]
  obtain⟨c,_,tu⟩:=TK (P:=P) (w:=w) (he.t ht) hl Dp (λhg=>by rw[hl];exact TS hg);refine⟨c,λw' mX=>?_⟩;obtain⟨c',hr,AhD⟩:=TK (P:=P) (w:=w') (he.t ht) hl (λj u hu=>(W0 mX).trans (Dp j u hu)) (λhg=>by rw[hl];exact TS hg);have:c'=c:=by
   cases hq:ti.ty.isAgg with
   |true=>rw[hq]at tu AhD;rw[tu,AhD]
   |false=>rw[hq]at tu AhD;rw[tu]at AhD;injection AhD with h _;exact h.symm
  subst this;simp[execOp,ho,hpe,Instr.loadAt,Instr.sureAddr,hr]
 ·grind
theorem Awb{ts:Array TypeId}{t:TypeId}{ad:ATC Addr}{n cp:Nat}{w w1:World}{v:Value}(h:(Builtin.len_ ts t #[.slice ad n cp]).run P w=.ok v w1)(w':World):(Builtin.len_ ts t #[.slice ad n cp]).run P w'=.ok v w':=by
 unfold Builtin.len_ at h⊢;cases ht:ts[0]? with
 |none=>simp[ht]at h
 |some t =>
  cases hu:P.underlying t with
  |none=>simp[ht,underlying,hu]at h
  |some d =>
   cases d with
   |pointer q =>
    cases hq:P.underlying q with
    |none=>simp[ht,underlying,hu,hq]at h
    |some d=>cases d<;>simp[ht,underlying,hu,hq,goInt]at h⊢<;>exact h.1
   |slice _=>simp[ht,underlying,hu,goInt]at h⊢;exact h.1
   |array _ _=>simp[ht,underlying,hu,goInt]at h⊢;exact h.1
   |_=>simp[ht,underlying,hu,goInt]at h
theorem Adi{o:Oper}{c:Call}(ho:o.op=.call c)(hc:c.callee=.builtin .len){a:Act}{X:Operand}(hX:c.args.toList=[X]){ad:ATC Addr}{n cp:Nat}(hv:a.eval X=.slice ad n cp){w w1:World}{nx:Next}(hr:(execOp a.eval o).run P w=.ok nx w1) :
    ∃v,∀w',(execOp a.eval o).run P w'=.ok (.value v) w':=by
 have hA:c.args=#[X]:=by grind
 have key:∀w',(execOp a.eval o).run P w'=((Builtin.len_ c.argTypes o.type #[.slice ad n cp]).run P w').andThen λv w'=>.ok (.value v) w':=λw'=>by
  simp[execOp,ho,resolve,hc,hA,hv,invoke,builtin]
 rw[key]at hr;cases hq:(Builtin.len_ _ _ _).run P w with
 |ok v w2=>exact⟨v,λw'=>by rw[key,Awb hq w'];rfl⟩
 |halt e w2=>rw[hq]at hr;cases hr
theorem Adv(he:EnvOk P en){S5:ATB Blk}{σ:St}{o:Oper}{e:Ij}(hp:zu S5 σ o=true)(hx:exec en σ o some=some e){w w1:World}{g:G}{a:Act}(hs:LC w g σ a){nx:Next}(hr:(execOp a.eval o).run P w=.ok nx w1)
    {B:Nat->Prop} {w0:World} (hN:∀k b,(g.AY k).a=some ⟨b,0,none⟩->(∃a0,S5[k]?=some (.box a0))->B b) (hw:∀b,B b->w.heap[b]?=w0.heap[b]?):∃c,∀w',(∀b,B b->w'.heap[b]?=w0.heap[b]?)->(execOp a.eval o).run P w'=.ok (.value c) w':=by
 unfold zu at hp;rw[ARh]at hp;rcases hp with hp |hp
 ·obtain⟨c,hc⟩:=pz he hp hx hs hr;exact⟨c,λw' _=>hc w'⟩
 ·split at hp
  ·rename_i t x ho;split at hp
   ·rename_i k i p f Yh;split at hp
    ·rename_i a1 a0 rq hbb;obtain⟨b,OB,c,hc⟩:=zj he ho Yh hbb hx hs;have hbn:=hN k b OB ⟨a1,rq⟩;exact⟨c,λw' mX=>hc w' ((mX b hbn).trans (hw b hbn).symm)⟩
    ·grind
   ·grind
  ·rename_i c ho;have go:∀(X:Operand),c.callee=.builtin .len->c.args.toList=[X]->(∃ad n cp,a.eval X=.slice ad n cp)->∃v,∀w',(∀b,B b->w'.heap[b]?=w0.heap[b]?)->(execOp a.eval o).run P w'=.ok (.value v) w':=λX h1 h2 ⟨ad,n,cp,h3⟩=>by
    obtain⟨v,hv⟩:=Adi ho h1 h2 h3 hr;exact⟨v,λw' _=>hv w'⟩
   split at hp
   ·rename_i hc rD;unfold Qk at rD;cases hl:c.args.toList with
    |nil=>grind
    |cons X r =>
     rw[hl]at rD;cases r with
     |nil =>
      simp only[AQI,ARK,ARO,and_true]at rD;have hv:=AU hs X;rw[rD]at hv;obtain⟨_,ad,cp,ds,hv,_⟩:=aW hv;exact go X hc hl ⟨_,_,_,hv⟩
     |cons _ _=>grind
   ·rename_i hc rD;unfold Qk at rD;cases hl:c.args.toList with
    |nil=>grind
    |cons X r =>
     rw[hl]at rD;cases r with
     |nil =>
      simp only[AQI,ARK,ARO,and_true]at rD;have hv:=AU hs X;rw[rD]at hv;obtain⟨ad,hv⟩:=YM hv;exact go X hc hl ⟨_,_,_,hv⟩
     |cons _ _=>grind
   ·grind
  ·rename_i op t x y yt ho;rw[AP3]at hp;obtain⟨h1,h2⟩:=hp;split at h2
   ·rename_i ks k u UD k' v Yh hyy;have hk:k=k':=by grind
    subst hk;have e1:=AU hs x;rw[Yh]at e1;have e1:=DL e1;have e2:=AU hs y;rw[hyy]at e2;have e2:=DL e2;split at h1
    ·exact⟨_,λw' _=>by simp[execOp,ho,e1,e2,binOp];rfl⟩
    ·exact⟨_,λw' _=>by simp[execOp,ho,e1,e2,binOp];rfl⟩
    ·grind
   ·grind
  ·grind
theorem uL{R:Type}{all:ATB Oper}{S5:ATB Blk}{i:Nat}{σ:St}{K:St->ATC R}{r:R}(h:evQ en all S5 i σ K=some r):∃o,all[i]?=some o/\XG all σ o (λσ=>exec en σ o λe=>if e.BJ.all (nbx S5)then K (σ.after o.dst e)else none) (λσ=>K (σ.skip o.dst))=some r:=by
 unfold evQ at h
 grind
theorem Ad0{w:World}{g:G}{n:Nat}:BK m w g w (g.cut n) :=
 ⟨rfl,rfl,rfl,AP2 _,λb _ h=>⟨by simp[G.cut,h],rfl⟩,λb h=>⟨by simp[G.cut,h],rfl⟩,λb k p h hk hm=>(hm (List.mem_range.2 hk)).elim,λk hk=>rfl⟩
def cm(gS:G)(S5:ATB Blk)(b:Nat):Prop:=∃k a1,S5[k]?=some (.box a1)/\(gS.AY k).a=some ⟨b,0,none⟩
theorem zz{σ:St}{o:Oper}{e:Ij}(QX:Oz P σ o e){S5:ATB Blk}{gS:G}(hme:e.BJ.all (nbx S5)=true){w:World}{g:G}{a:Act}(hs:LC w g σ a)(hm:m<=σ.Aj.length)(hNl:S5.length<=σ.Aj.length)(Cr:∀k a1 b,S5[k]?=some (.box a1)->(gS.AY k).a=some ⟨b,0,none⟩->g.own b=.BL k []){next:Act->World->Prop}{Q:Exit->Act->World->Prop}
    (hn:∀v w' g',LC w' g' (σ.after o.dst e) (a.put o.dst v)->BK m w g w' g'->(∀b,cm gS S5 b->w'.heap[b]?=w.heap[b]?)->(∀k,k<σ.Aj.length->g'.AY k=g.AY k)->(∀k a1 b,S5[k]?=some (.box a1)->(gS.AY k).a=some ⟨b,0,none⟩->g'.own b=.BL k [])->next (a.put o.dst v) w'):o.wp P a w next Q:=by
 refine QX.wp a w g hs next Q λv w' g' hH hv st=>?_
 have both:∀k a1 b,S5[k]?=some _->(gS.AY k).a=some _->w'.heap[b]?=w.heap[b]?/\g'.own b=.BL k []:=λk a1 b hk hb=>by
  have h:=st.BL b k [] (Cr k a1 b hk hb) (AQy (A5 hk) hNl) (λh=>by
   have:=List.all_eq_true.1 hme k h;unfold nbx at this;rw[hk]at this;cases this)
  exact⟨h.2,h.1⟩
 exact hn v w' g' (hs.after QX.grow hH hv st) (st.zU hm) (λb ⟨k,a1,h1,h2⟩=>(both k a1 b h1 h2).1) (λk hk=>st.AY k hk) λk a1 b h1 h2=>(both k a1 b h1 h2).2
theorem iG(he:Jy P en){h:SH}{B9:Array Oper}{σ':St}{Q:Exit->Act->World->Prop}{a0:Act}{w0:World}{g0 gS:G}
    (WO:∀a' w' g',LC w' g' σ' a'->BK m w0 g0 w' g'->a'.defers=a0.defers->Q .normal a' w') (fq:Region.noSelect B9=true) (hQ:∀c a w,¬Q (.panic c) a w) {S5:ATB Blk} (H0:Bi w0 gS S5) :
    ∀(k:Nat) (listed:Array Bool) (σ:St),yw en h m S5 B9 σ' k listed σ=some ()->m<=σ.Aj.length->S5.length<=σ.Aj.length->∀(a:Act) (w:World) (g:G),LC w g σ a->BK m w0 g0 w g->a.defers=a0.defers->(∀b,cm gS S5 b->w.heap[b]?=w0.heap[b]?)->(∀k,k<S5.length->g.AY k=gS.AY k)->(∀k a1 b,S5[k]?=some (.box a1)->(gS.AY k).a=some ⟨b,0,none⟩->g.own b=.BL k []) ->
     wpAnyH P .any B9 Q (λw=>∀b,cm gS S5 b->w.heap[b]?=w0.heap[b]?) k listed a w
 |0,listed,σ,hw,hm,hl,a,w,g,hs,BO,hd,hS,VP,Cr=>by
  simp only[yw]at hw;split at hw
  ·rename_i hr;split at hw
   ·rename_i s hh;unfold mH at hw;split at hw
    ·rename_i e;subst e;obtain⟨g1,Sb,Se,_⟩:=XI hh hs hm;exact⟨by grind,WO a w g1 Sb (BO.trans Se) hd⟩
    ·grind
   ·grind
  ·grind
 |k+1,listed,σ,hw,hm,hl,a,w,g,hs,BO,hd,hS,VP,Cr=>by
  have one:∀(o:Oper) (e:Ij) (i:Nat),exec en σ o some=some e->(if e.BJ.all (nbx S5)then yw en h m S5 B9 σ' k (listed.setIfInBounds i true) (σ.after o.dst e)else none)=some ()->∀(Q':Exit->Act->World->Prop),
      o.wp P a w (λa' w'=>(∀b,cm gS S5 b->w'.heap[b]?=w0.heap[b]?)/\wpAnyH P .any B9 Q (λw=>∀b,cm gS S5 b->w.heap[b]?=w0.heap[b]?) k (listed.setIfInBounds i true) a' w') Q':=by
   intro o e i hx h1 Q';split at h1
   ·rename_i hme;have QX:=Ts he.toEnvOk hx;refine zz (m:=m) (gS:=gS) QX hme hs hm hl Cr λv w' g' iQ st' hS' AFs AF8=>?_;have hS2:∀b,cm gS S5 b->w'.heap[b]?=w0.heap[b]?:=λb hb=>(hS' b hb).trans (hS b hb);exact⟨hS2,iG he WO fq hQ H0 k _ _ h1 (AQq hm QX.grow) (AQq hl QX.grow) _ _ _ iQ (BO.trans st') (by rw[Go.Va.put_defers];exact hd) hS2 (λk hk=>(AFs k (AQy hk hl)).trans (VP k hk)) AF8⟩
   ·grind
  simp only[yw]at hw;split at hw
  ·rename_i i hi;have hp:=List.find?_some hi;have mV:=List.mem_of_find?_eq_some hi;rw[AP3]at hp;obtain⟨o,ho,hw⟩:=uL hw;have xH:B9[i]?=some o:=by grind
   rw[xH]at hp;rcases Qx hw with ⟨hwt,h1⟩|⟨hwt,h1⟩
   ·rw[Tq en he.aI]at h1;cases hx:exec en σ o some with
    |none=>grind
    |some e =>
     rw[hx]at h1;have rG:=one o e i hx h1 (λ_ _ _=>False);have El:∃n w1,(execOp a.eval o).run P w=.ok n w1:=by
      unfold Oper.wp at rG;cases hq:(execOp a.eval o).run P w with
      |ok n w1=>grind
      |halt e w1=>rw[hq]at rG;cases e<;>exact rG.elim
     obtain⟨n,w1,El⟩:=El;obtain⟨c,hc⟩:=Adv he.toEnvOk hp.1 hx hs El (B:=cm gS S5) (w0:=w0) (λk b hb AlW=>by
      obtain⟨a1,AlW⟩:=AlW;rw[VP k (A5 AlW)]at hb;exact⟨k,a1,AlW,hb⟩) hS
     have hy:YieldsIf P B9 (λw=>∀b,cm gS S5 b->w.heap[b]?=w0.heap[b]?) o c a:=.inl ⟨Kb hs hwt,hc⟩;refine wpAnyH_take xH fq hp.2 (by grind) (λc a w h=>(hQ c _ _ h).elim) hy hS ?_;unfold Oper.wp at rG;rw[hc w hS]at rG;exact rG.2
   ·have hy:YieldsIf P B9 (λw=>∀b,cm gS S5 b->w.heap[b]?=w0.heap[b]?) o undef a:=.inr ⟨Kb hs hwt,rfl⟩;refine wpAnyH_take xH fq hp.2 (by grind) (λc a w h=>(hQ c _ _ h).elim) hy hS ?_;exact iG he WO fq hQ H0 k _ _ h1 hm hl _ _ _ (hs.skip o.dst) BO (by rw[Go.Va.put_defers];exact hd) hS VP Cr
  split at hw
  ·grind
  ·rename_i hr;refine⟨λe=>by grind,λi hi=>?_⟩;have h1:=bn hw _ (List.mem_map_of_mem hi);obtain⟨o,ho,h1⟩:=uL h1;unfold wpOp;have xH:B9[i]?=some o:=by grind
   simp only[xH];rcases Qx h1 with ⟨hw,h1⟩|⟨hw,h1⟩
   ·rw[Tq en he.aI]at h1;cases hx:exec en σ o some with
    |none=>rw[hx]at h1;cases h1
    |some e =>
     rw[hx]at h1;rw[AQe (Kb hs hw)];exact .inl (one o e i hx h1 Q)
   ·rw[Kb hs hw];exact⟨hS,iG he WO fq hQ H0 k _ _ h1 hm hl _ _ _ (hs.skip o.dst) BO (by rw[put_defers];exact hd) hS VP Cr⟩
theorem QT(he:Jy P en):∀c:Code,xP P en m c
 |.skip=>λσ e σ' h hm=>by
  obtain⟨rfl,rfl⟩:=h;exact⟨hm,λa w g Q hs hq=>wp_skip (hq a w g hs (BK.refl _ _ _) rfl)⟩
 |.ret=>λσ e σ' h hm=>by
  obtain⟨rfl,rfl⟩:=h;exact⟨hm,λa w g Q hs hq=>wp_ret (hq a w g hs (BK.refl _ _ _) rfl)⟩
 |.exit n=>λσ e σ' h hm=>by
  obtain⟨rfl,rfl⟩:=h;exact⟨hm,λa w g Q hs hq=>wp_exit (hq a w g hs (BK.refl _ _ _) rfl)⟩
 |.seq c d=>λσ e σ' h hm=>by
  simp only[ev]at h;have hj:∃e1 s1,m<=s1.Aj.length/\(∀(a:Act) (w:World) (g:G) (Q:Exit->Act->World->Prop),LC w g σ a->(∀a' w' g',LC w' g' s1 a'->BK m w g w' g'->a'.defers=a.defers->Q (qV e1) a' w')->c.wp P Q a w) /\
      (match e1 with |.normal=>ev en m d _ s1 Sd |.exit n=>Sd (.exit n) s1 |.ret=>Sd .ret s1)=some (e,σ'):=by
   split at h
   ·obtain⟨e1,s1,h1,h2⟩:=cZ he.aI h;obtain⟨Ut,xL⟩:=QT he c σ e1 s1 h1 hm;exact⟨e1,s1,Ut,xL,h2⟩
   ·rw[AQP]at h;obtain⟨σ0,h0,h⟩:=h;obtain⟨yX,Avx⟩:=AgH he h0 hm;rw[AQP]at h;obtain⟨⟨e1,s2⟩,h1,h2⟩:=h;obtain⟨e0,s1,h3,h4⟩:=cZ he.aI h1;rw[AQP]at h4;obtain⟨s3,h5,h6⟩:=h4;simp only[APY,AP9]at h6;obtain⟨rfl,rfl⟩:=h6;obtain⟨Ut,xL⟩:=QT he c σ0 e0 s1 h3 yX;refine⟨e0,s3,W9 h5,λa w g Q hs hq=>?_,h2⟩;obtain⟨g0,xI,vz⟩:=Avx hs;refine xL a w g0 Q xI λa' w' g' iQ BO hd=>?_;obtain⟨g3,vx,AhB,_⟩:=XI h5 iQ Ut;exact hq a' w' g3 vx (vz.trans (BO.trans AhB)) hd
  obtain⟨e1,s1,Ut,xL,h2⟩:=hj;cases e1 with
  |normal =>
   obtain⟨S7,ih2⟩:=QT he d s1 e σ' h2 Ut;refine⟨S7,λa w g Q hs hq=>wp_seq (xL a w g _ hs λa1 w1 g1 Sb XJ mR=>?_)⟩;exact ih2 a1 w1 g1 Q Sb λa2 w2 g2 YC y8 hd2=>hq a2 w2 g2 YC (XJ.trans y8) (hd2.trans mR)
  |exit n =>
   obtain⟨rfl,rfl⟩:=h2;exact⟨Ut,λa w g Q hs hq=>wp_seq (xL a w g _ hs λa1 w1 g1 Sb XJ mR=>hq a1 w1 g1 Sb XJ mR)⟩
  |ret =>
   obtain⟨rfl,rfl⟩:=h2;exact⟨Ut,λa w g Q hs hq=>wp_seq (xL a w g _ hs λa1 w1 g1 Sb XJ mR=>hq a1 w1 g1 Sb XJ mR)⟩
 |.cond c x y=>λσ e σ' h hm=>by
  simp only[ev]at h;split at h
  ·rename_i ks t hc;have hb:∀(a:Act) (w:World) (g:G),LC w g σ a->a.eval c=.bool t:=λa w g hs=>by
    have:=AU hs c;rw[hc]at this;exact Tn this
   cases t
   ·obtain⟨Ut,xL⟩:=QT he y σ e σ' h hm;exact⟨Ut,λa w g Q hs hq=>wp_cond_false (hb a w g hs) (xL a w g Q hs hq)⟩
   ·obtain⟨Ut,xL⟩:=QT he x σ e σ' h hm;exact⟨Ut,λa w g Q hs hq=>wp_cond_true (hb a w g hs) (xL a w g Q hs hq)⟩
  ·grind
 |.block n c=>λσ e σ' h hm=>by
  simp only[ev]at h;obtain⟨e1,s1,h1,h2⟩:=cZ he.aI h;obtain⟨Ut,xL⟩:=QT he c σ e1 s1 h1 hm;cases e1 with
  |normal =>
   obtain⟨rfl,rfl⟩:=h2;exact⟨Ut,λa w g Q hs hq=>wp_block (xL a w g _ hs λa1 w1 g1 Sb XJ mR=>hq a1 w1 g1 Sb XJ mR)⟩
  |exit k =>
   simp only at h2;cases hk:k==n with
   |true =>
    rw[hk]at h2;obtain⟨rfl,rfl⟩:=h2;have YB:k=n:=by grind
    subst YB;exact⟨Ut,λa w g Q hs hq=>wp_block (xL a w g _ hs λa1 w1 g1 Sb XJ mR=>by
     simp only[qV,Exit.inBlock];exact hq a1 w1 g1 Sb XJ mR)⟩
   |false =>
    rw[hk]at h2;obtain⟨rfl,rfl⟩:=h2;have YB:¬k=n:=by grind
    exact⟨Ut,λa w g Q hs hq=>wp_block (xL a w g _ hs λa1 w1 g1 Sb XJ mR=>by
     simp only[qV,Exit.inBlock,AQf YB];exact hq a1 w1 g1 Sb XJ mR)⟩
  |ret =>
   obtain⟨rfl,rfl⟩:=h2;exact⟨Ut,λa w g Q hs hq=>wp_block (xL a w g _ hs λa1 w1 g1 Sb XJ mR=>hq a1 w1 g1 Sb XJ mR)⟩
 |.region id B9 false=>λσ e σ' h hm=>by
  simp only[ev]at h;rw[UT he.aI]at h;cases hx:R6 en B9.toList (List.range B9.size) σ some with
  |none=>grind
  |some s =>
   rw[hx]at h;obtain⟨rfl,rfl⟩:=h;refine⟨(cY (Q:=λ_ _ _=>True) he.toEnvOk _ _ _ hx hm).1,λa w g Q hs hq=>wp_region ((cY he.toEnvOk _ _ _ hx hm).2 a w g hs hq)⟩
 |.region id B9 true=>λσ e σ' h hm=>by
  simp only[ev]at h;split at h
  ·rw[AQP]at h;obtain⟨σ0,h0,h⟩:=h;obtain⟨yX,Avx⟩:=AgH he h0 hm;rw[AQP]at h;obtain⟨s,h1,h2⟩:=h;obtain⟨rfl,rfl⟩:=h2;unfold AmF at h1;split at h1
   ·grind
   rename_i fq;rw[UT he.aI,AQP]at h1;obtain⟨s0,h3,h4⟩:=h1;rw[AQP]at h4;obtain⟨s1,h5,h6⟩:=h4;rw[AQP]at h6;obtain⟨_,h7,h8⟩:=h6;injection h8 with h8;subst h8;refine⟨W9 h5,λa w g Q hs hq=>Code.wp_mono (Q:=λe a w=>match e with |.panic _=>False |e=>Q e a w) (λe a w h=>by grind) (wp_region_any he.mixed ?_)⟩
   obtain⟨g1,hs,XJ⟩:=Avx hs;cases hqt:(SH.Yp _)with
   |false =>
    rw[hqt]at h7;exact cx (Q:=λe a w=>match e with |.panic _=>False |e=>Q e a w) he    (λa' w' g' h1 h2 h3=>hq a' w' g' h1 (XJ.trans h2) h3) (by grind) (λc a w h=>h) _ _ σ0 h7 yX a _ g1 ⟨hs.heap.drew,hs.len,λi x hx=>(hs.AO i x hx).RP (Step.drew [] _ w g1) (AP2 _)⟩ (Step.drew _ _ w g1) rfl
   |true =>
    rw[hqt]at h7;have hsD :=LC.cut ⟨hs.heap.drew,hs.len,λi x hx=>(hs.AO i x hx).RP (Step.drew _ _ _ _) (AP2 _)⟩;exact wpAny_of_held _ _ _ _ (iG (Q:=λe a w=>match e with |.panic _=>False |e=>Q e a w) he     (λa' w' g' h1 h2 h3=>hq a' w' g' h1 (((XJ.trans ((Step.drew [] _ w g1).zU yX)).trans Ad0).trans h2) h3) (by grind) (λc a w h=>h) hsD.heap _ _ σ0 h7 yX (AP2 _) a _ _ hsD (BK.refl _ _ _) rfl (λ_ _=>rfl) (λ_ _=>rfl) λk a1 b hk hb=>by
     obtain⟨_,b',_,_,ha',ho,_⟩:=hsD.heap.MG k _ hk
     grind)
  split at h
  ·rename_i gm;rw[US he.aI]at h;cases hx:U8 en B9.toList (YL B9.toList (XP en B9.toList B9.toList.length []) []) (XP en B9.toList B9.toList.length []) [] [] σ some with
   |none=>grind
   |some s =>
    rw[hx]at h;obtain⟨rfl,rfl⟩:=h;exact qU he.toEnvOk he.mixed gm hx hm
  ·grind
 |.loop body=>Amv he (QT he body)
 |.goto _=>λ_ _ _ h _=>by simp[ev]at h
 |.label _=>λ_ _ _ h _=>by simp[ev]at h
 |.rangeFunc ..=>λ_ _ _ h _=>by simp[ev]at h
 |.scope _=>λ_ _ _ h _=>by simp[ev]at h
 |.refuse _=>λ_ _ _ h _=>by simp[ev]at h
end
def Ais(tmps:Array Value):ResultVar->Sem Value
 |.tmp t=>pure (tmps.getD t undef)
 |.cell a t=>do loadVar t (<-asAddr (tmps.getD a undef))
theorem lC(fn:Func)(tmps:Array Value):results fn tmps=(do let vs <-fn.results.mapM (Ais tmps);pure (if h:vs.size=1 then vs[0]else .tuple vs)):=by
 congr 1
section
variable {P:Program} {en:GV}
theorem zB(he:EnvOk P en){σ:St}{w:World}{g:G}{a:Act}(hs:LC w g σ a):∀{rs:ATB ResultVar} {l:ATB AV},iA en.D7 σ rs=some l ->
    ∃vs,(rs.mapM (Ais a.tmps)).run P w=.ok vs w/\DU w g σ.Aj.length l vs
 |[],l,h=>by
  simp only[iA,APY]at h;subst h;exact⟨[],rfl,trivial⟩
 |.tmp t::rs,l,h=>by
  simp only[iA]at h;split at h
  ·rename_i x l' hx hl;injection h with h;subst h;obtain⟨vs,hr,hv⟩:=zB he hs hl;exact⟨a.tmps.getD t _::vs,by simp only[List.mapM_cons,Ais,Sem.run_bind,Sem.run_pure,Result.andThen_ok,hr],hs.AO t x hx,hv⟩
  ·grind
 |.cell b t::rs,l,h=>by
  simp only[iA]at h;split at h
  ·rename_i ti k i p o ht hx;split at h
   ·rename_i x l' VP hl;split at h
    ·rename_i MQ;injection h with h;subst h;obtain⟨vs,hr,hv⟩:=zB he hs hl;obtain⟨hk,h0,h1,bb,hb,hp⟩:=LU (hs.AO b _ hx);obtain⟨cs,mQ,Dp⟩:=WV hs.heap VP h1 hb;obtain⟨v,vB,tu⟩:=TK  (he.t ht) (by rw[mQ.len,MQ.1]) Dp (λhg=>by rw[mQ.len,MQ.1];exact TS hg);rw[<-MQ.2]at tu;refine⟨v::vs,?_,Bs (WC mQ) mQ tu,hv⟩;have:(asAddr (a.tmps.getD b undef)).run P w=.ok ⟨bb,i.toNat*(g.AY k).ov+o,none⟩ w:=by rw[hp];rfl
     simp only[List.mapM_cons,Ais,Sem.run_bind,Sem.run_pure,Result.andThen_ok,hr,this,vB]
    ·grind
   ·grind
  ·grind
theorem jW{w:World}{g:G}{n:Nat}:∀{l:ATB AV} {vs:ATB Value},DU w g n l vs->CF w g n true (ZB l) vs
 |[],[],_=>rfl
 |a::l,v::vs,⟨h1,h2⟩=>by
  refine⟨v,vs,rfl,?_,jW h2⟩;split
  ·exact .inl rfl
  ·rename_i ht;exact(B5.iff (by grind)).1 h1
 |[],_::_,h=>h.elim
 |_::_,[],h=>h.elim
theorem AmG{w:World}{g:G}{n:Nat}{l:ATB AV}{vs:ATB Value}(h:DU w g n l vs):B5 w g n (wy l) (if h:vs.toArray.size=1 then vs.toArray[0]else .tuple vs.toArray):=by
 match l,vs,h with
 |[],[],_=>rfl
 |[a],[v],h=>exact h.1
 |a::b::l,v::u::vs,h =>
  have:¬(v::u::vs).toArray.size=1:=by simp
  exact⟨_,rfl,jW h⟩
theorem nU{w:World}{g:G}{n:Nat}:∀{l:ATB AV} {vs:ATB Value},DU w g n l vs->l.length=vs.length
 |[],[],_=>rfl
 |_::_,_::_,h=>by simp[nU h.2]
 |[],_::_,h=>h.elim
 |_::_,[],h=>h.elim
theorem Zx{w:World}{g:G}{n:Nat}:∀{l:ATB AV} {vs:ATB Value} {i:Nat} {x:AV},DU w g n l vs->l[i]?=some x->∃v,vs[i]?=some v/\B5 w g n x v
 |_::_,v::_,0,_,h,hx=>by simp at hx;subst hx;exact⟨v,rfl,h.1⟩
 |_::_,_::_,i+1,_,h,hx=>by
  obtain⟨v,hv,hr⟩:=Zx  h.2 (by simpa using hx)
  grind
 |[],[],_,_,_,hx=>by grind
 |[],_::_,_,_,h,_=>h.elim
 |_::_,[],_,_,h,_=>h.elim
theorem jB{w w':World}{g g':G}{n n':Nat}(st:Step [] n w g w' g')(hn:n<=n'):∀{l:ATB AV} {vs:ATB Value},DU w g n l vs->DU w' g' n' l vs
 |[],[],_=>trivial
 |_::_,_::_,h=>⟨h.1.RP st hn,jB st hn h.2⟩
 |[],_::_,h=>h.elim
 |_::_,[],h=>h.elim
theorem eH{w:World}{g:G}{n:Nat}{x:AV}:∀{l:ATB AV} {vs:ATB Value} {i:Nat} {v:Value},DU w g n l vs->vs[i]?=some v->B5 w g n x v->DU w g n (l.set i x) vs
 |_::_,_::_,0,v,h,hv,hx=>by
  simp at hv;subst hv;exact⟨hx,h.2⟩
 |_::_,_::_,i+1,v,h,hv,hx=>⟨h.1,eH h.2 (by grind) hx⟩
 |[],[],_,_,_,hv,_=>by grind
 |[],_::_,_,_,h,_,_=>h.elim
 |_::_,[],_,_,h,_,_=>h.elim
theorem uz{m:Nat}{w:World}:∀{cs:ATB (Nat×Co)} {l l':ATB AV} {bs Gp:ATB Blk} {g:G} {vs:ATB Value},cF cs l bs=some (l',Gp)->Bi w g bs->DU w g bs.length l vs->m<=bs.length ->
    ∃g',Bi w g' Gp/\DU w g' Gp.length l' vs/\BK m w g w g'
 |[],l,l',bs,Gp,g,vs,h,H,hx,hm=>by
  obtain⟨rfl,rfl⟩:=h;exact⟨g,H,hx,BK.refl _ _ _⟩
 |(i,c)::r,l,l',bs,Gp,g,vs,h,H,hx,hm=>by
  simp only[cF]at h;split at h
  ·grind
  ·rename_i v hv;split at h
   ·rename_i v' nb hco;obtain⟨u,hu,hr⟩:=Zx hx hv;obtain⟨g1,H1,iT,Se⟩:=yD H hco hr;obtain⟨g2,H2,xK,Qp⟩:=uz (m:=m) h H1 (eH (jB Se (by simp) hx) hu iT) (by grind);exact⟨g2,H2,xK,(Se.zU hm).trans Qp⟩
   ·grind
theorem AaV{m:Nat}{w:World}:∀{cs:ATB (Nat×Ty)} {l l':ATB AV} {bs Gp:ATB Blk} {g:G} {vs:ATB Value},re m cs l bs=some (l',Gp)->Bi w g bs->DU w g bs.length l vs ->
    ∃g',Bi w g' Gp/\DU w g' Gp.length l' vs/\BK m w g w g'/\Gp.length=bs.length
 |[],l,l',bs,Gp,g,vs,h,H,hx=>by
  obtain⟨rfl,rfl⟩:=h;exact⟨g,H,hx,BK.refl _ _ _,rfl⟩
 |(i,t)::r,l,l',bs,Gp,g,vs,h,H,hx=>by
  simp only[re]at h;split at h
  ·grind
  ·rename_i v hv;split at h
   ·rename_i v' nb hf;obtain⟨g1,H1,hl,Se,ha,iT,_,_⟩:=rh H hf;obtain⟨u,hu,hr⟩:=Zx hx hv;have AJs:∀{l:ATB AV} {vs:ATB _},DU w g bs.length l vs->DU w g1 nb.length (l.map AV.ck) vs:=by
     intro l;induction l with
     |nil=>intro vs h;cases vs with
      |nil=>trivial
      |cons _ _=>exact h.elim
     |cons a l ih=>intro vs h;cases vs with
      |nil=>exact h.elim
      |cons v vs=>exact⟨by rw[hl];exact ha a v h.1,ih h.2⟩
    obtain⟨g2,H2,xK,Qp,iP⟩:=AaV  h H1 (eH (AJs hx) hu (by grind));exact⟨g2,H2,xK,Se.trans Qp,iP.trans hl⟩
   ·grind
theorem dT{w:World}{g:G}{E:ATB Blk}{args:ATB AV}{vs:ATB Value}(H:Bi w g E)(h:DU w g E.length args vs){n:Nat}(hn:args.length<=n) :
    LC w g ⟨args++List.replicate (n-args.length) (.un 0),E⟩ {tmps:=vs.toArray++Array.replicate (n-vs.toArray.size) undef,defers:=[]} where
 heap:=H
 len:=by simp[nU h]
 AO i x hx:=by
  rw[AQm]at hx;split at hx
  ·obtain⟨v,hv,hr⟩:=Zx h hx;have hi:=A5 hv;have:(vs.toArray++Array.replicate (n-vs.toArray.size) undef).getD i undef=v:=by
    rw[AQU,Array.getElem?_append_left (by grind)];simp[hv]
   rw[this];exact hr
  ·rw[List.getElem?_replicate]at hx;split at hx
   ·injection hx with hx;subst hx;exact RQ
   ·grind
theorem ZI{m:Nat}{w:World}{a:Act}:∀{l:ATB Fi} {σ σ2:St} {g:G},ae m l σ=some σ2->LC w g σ a->m<=σ.Aj.length->∃g',LC w g' σ2 a/\BK m w g w g'/\m<=σ2.Aj.length
 |[],σ,σ2,g,h,hs,hm=>by
  simp only[ae,APY]at h;subst h;exact⟨g,hs,BK.refl _ _ _,hm⟩
 |.co k c::r,σ,σ2,g,h,hs,hm=>by
  simp only[ae]at h;split at h
  ·rename_i bs hb;obtain⟨g1,H1,st⟩:=Agu hs.heap hb;have hl:=iK hb;obtain⟨g2,h2,Qp,S7⟩:=ZI  h ⟨H1,hs.len,λi x hx=>(hs.AO i x hx).RP st hl⟩ (AQq hm hl);exact⟨g2,h2,(st.zU hm).trans Qp,S7⟩
  ·grind
 |.Ba j::r,σ,σ2,g,h,hs,hm=>by
  refine ZI (σ:=⟨σ.AO,σ.Aj.set j _⟩) h ⟨⟨hs.heap.BZ,λk x hx=>?_⟩,hs.len,λi x hx=>by rw[AP5];exact hs.AO i x hx⟩ (by grind);rw[AP5];rw[AQl]at hx;split at hx
  ·split at hx
   ·injection hx with hx;subst hx;trivial
   ·grind
  ·exact hs.heap.MG k x hx
 |.mvs s p::r,σ,σ2,g,h,hs,hm=>by
  simp only[ae]at h;split at h
  ·rename_i σ1 h1;unfold mvP at h1;split at h1
   ·obtain⟨g1,Sb,Se,Ut⟩:=zl h1 hs hm;obtain⟨g2,YC,Qp,S7⟩:=ZI h Sb Ut;exact⟨g2,YC,Se.trans Qp,S7⟩
   ·rename_i a0 xI;obtain⟨g1,Sb,Se,Ut⟩:=Ah7 xI h1 hs hm;obtain⟨g2,YC,Qp,S7⟩:=ZI h Sb Ut;exact⟨g2,YC,Se.trans Qp,S7⟩
   ·grind
  ·grind
 |.mv k p::r,σ,σ2,g,h,hs,hm=>by
  simp only[ae]at h;split at h
  ·rename_i σ1 h1;obtain⟨g1,Sb,Se,Ut⟩:=zl h1 hs hm;obtain⟨g2,YC,Qp,S7⟩:=ZI h Sb Ut;exact⟨g2,YC,Se.trans Qp,S7⟩
  ·grind
theorem bQ(he:Jy P en){f:FuncId}{fn:Func}(hf:P.funcs[f]?=some fn){args:ATB AV}{E:ATB Blk}{av:AV}{E':ATB Blk}(h:TP en fn (AV×ATB Blk) args E (λv b=>some (v,b))=some (av,E')) :
    E.length<=E'.length/\∀(w:World) (g:G) (vs:ATB Value),Bi w g E->DU w g E.length args vs->Calls P f vs.toArray w λe w'=>∃v g',e=.returned v/\Bi w' g' E'/\B5 w' g' E'.length av v/\BK E.length w g w' g':=by
 unfold TP at h;split at h
 ·grind
 ·rename_i c hc;split at h
  ·rename_i hl;obtain⟨e,σ',h1,h2⟩:=cZ he.aI h;obtain⟨hm,rG⟩:=QT he c _ e σ' h1 (AP2 _);have key:∀(σ2:St) (l l0:ATB AV) (S5:ATB Blk) (l':ATB AV) (Gp:ATB Blk),ae E.length en.fi.WO σ'=some σ2->iA en.D7 σ2 fn.results.toList=some l->re E.length en.fi.Sp l σ2.Aj=some (l0,S5)->cF en.fi.jc l0 S5=some (l',Gp)->kW E.length Gp (wy l')=some (av,E')->(qV e=.normal\/qV e=.ret) ->
       E.length<=E'.length/\∀(w:World) (g:G) (vs:ATB Value),Bi w g E->DU w g E.length args vs->Calls P f vs.toArray w λe w'=>∃v g',e=.returned v/\Bi w' g' E'/\B5 w' g' E'.length av v/\BK E.length w g w' g':=by
    intro σ2 l l0 S5 l' Gp AJe df mn hco hlv hex;unfold kW at hlv
    dsimp only at hlv
    split at hlv
    ·rename_i hp;simp only[APY,AP9]at hlv;obtain⟨hav,hE⟩:=hlv;have hmn:=(Ail (UX hp).1).1;have hEl:E'.length=(pC Gp Gp.length (iu (List.range E.length) (wy l').Cs)).length:=by grind
     refine⟨by grind,λw g vs H hx=>?_⟩;refine calls_of_wp hf hc ?_;refine rG _ w g _ (dT H hx hl) λa' w' g0 xI vz hd=>?_;obtain⟨g',iQ,dh,S7⟩:=ZI AJe xI hm;have BO:=vz.trans dh;obtain⟨Z2,hr,hv⟩:=zB he.toEnvOk iQ df;obtain⟨g1,H1,iT,Se,VS⟩:=AaV mn iQ.heap hv;obtain⟨g2,H2,hv2,Qp⟩:=uz hco H1 iT (by rw[VS];exact S7);have Yg:∃u,(results fn a'.tmps).run P w'=.ok u w'/\∃v' g'',Ending.returned u=Ending.returned v'/\Bi w' g'' E'/\B5 w' g'' E'.length av v'/\BK E.length w g w' g'':=by
      refine⟨if h:Z2.toArray.size=1 then Z2.toArray[0]else .tuple Z2.toArray,?_,_,g2.pick _,rfl,by rw[<-hE];exact pn H2 hp,?_,((BO.trans Se).trans Qp).trans (po hp).1⟩
      ·rw[lC,Array.mapM_eq_mapM_toList];simp only[Sem.run_bind,Sem.run_map,hr];rfl
      ·rw[hEl,<-hav];exact((AmG hv2).OU (λb h=>dF h) λk hk=>dG ((UX hp).2.2.1 k hk)).Eo
     obtain⟨u,iT,hv2⟩:=Yg;rcases hex with h |h<;>rw[h]<;>exact⟨hd,u,iT,hv2⟩
    ·grind
   have Ai6:(match ae E.length en.fi.WO σ' with
         |none=>none
         |some σ=>match iA en.D7 σ fn.results.toList with
          |some l=>match re E.length en.fi.Sp l σ.Aj with
           |some (l,bs)=>match cF en.fi.jc l bs with
            |some (l',Gp)=>match kW E.length Gp (wy l')with
             |some (v,bs)=>some (v,bs)
             |none=>none
            |none=>none
           |none=>none
          |none=>none)=some (av,E')->(qV e=.normal\/qV e=.ret)->E.length<=E'.length/\∀(w:World) (g:G) (vs:ATB Value),Bi w g E->DU w g E.length args vs->Calls P f vs.toArray w λe w'=>∃v g',e=.returned v/\Bi w' g' E'/\B5 w' g' E'.length av v/\BK E.length w g w' g':=by
    intro h hex;split at h
    ·grind
    grind
   cases e with
   |exit n=>grind
   |normal=>exact Ai6 h2 (.inl rfl)
   |ret=>exact Ai6 h2 (.inr rfl)
  ·grind
theorem Am.of(he:Jy P en){f:FuncId}{fn:Func}(hf:P.funcs[f]?=some fn)(hn:(fn.name=="runtime.NumGoroutine")=false)(hb:fn.body.isNone=false){c:Callee}(hc:gX c)
    (h:∀args E av E',c.run (AV×ATB Blk) args E (λv b=>some (v,b))=some (av,E')->TP en fn (AV×ATB Blk) args E (λv b=>some (v,b))=some (av,E')):Am P f c where
 aI:=hc
 snd args E av E' hr:=by
  obtain⟨h1,h2⟩:=bQ he hf (h args E av E' hr);refine⟨h1,λw g vs H hx o a next Q hn'=>?_⟩
  have:(callFunc f vs.toArray).run P w=.ok (.enter f vs.toArray) w:=by
   have hn1:¬fn.name="runtime.NumGoroutine":=by grind
   have ik:¬fn.body=none:=by
    grind
   simp[callFunc,hf,hn1,ik]
  rw[this];refine(h2 w g vs H hx).mono λe w' ⟨v,g',e1,hH,hv,BO⟩=>?_;subst e1;exact hn' v w' g' hH hv BO
theorem Am.of2{f:FuncId}{fn:Func}(hf:P.funcs[f]?=some fn)(hn:(fn.name=="runtime.NumGoroutine")=false)(hb:fn.body.isNone=false){c:Callee}(hc:gX c)
    (h:∀args E av E',c.run (AV×ATB Blk) args E (λv b=>some (v,b))=some (av,E')->∃en,Jy P en/\TP en fn (AV×ATB Blk) args E (λv b=>some (v,b))=some (av,E')):Am P f c where
 aI:=hc
 snd args E av E' hr:=by
  obtain⟨en,he,h0⟩:=h args E av E' hr;obtain⟨h1,h2⟩:=bQ he hf h0;refine⟨h1,λw g vs H hx o a next Q hn'=>?_⟩
  have:(callFunc f vs.toArray).run P w=.ok (.enter f vs.toArray) w:=by
   have hn1:¬fn.name="runtime.NumGoroutine":=by grind
   have ik:¬fn.body=none:=by
    grind
   simp[callFunc,hf,hn1,ik]
  rw[this];refine(h2 w g vs H hx).mono λe w' ⟨v,g',e1,hH,hv,BO⟩=>?_;subst e1;exact hn' v w' g' hH hv BO
end
def X4(P:Program):Ty->TypeId->Bool
 |.int k,t=>match P.underlying t with |some (.int k')=>k==k' |_=>false
 |.bool,t=>match P.underlying t with |some .bool=>true |_=>false
 |.str,t=>match P.underlying t with |some .string=>true |_=>false
 |.sl u,t=>match P.underlying t with |some (.slice e)=>P.cellsOf e==u.size&&u.size !=0&&X4 P u e |_=>false
 |.AE a b,t=>match P.underlying t with
  |some (.struct fs)=>P.cellsOf t==a.size+b.size&&(match fs.toList with |f::r=>f.offset==0&&P.cellsOf f.type==a.size&&X4 P a f.type&&l5 P b a.size r |[]=>false)
  |_=>false
 |_,_=>false
where l5 (P:Program):Ty->Nat->ATB Field->Bool
 |.AE a b,o,f::r=>f.offset==o&&P.cellsOf f.type==a.size&&X4 P a f.type&&l5 P b (o+a.size) r
 |.unit,_,[]=>true
 |_,_,_=>false
def Ty.Wf:(t:Ty)->t.V->Prop
 |.int k,n=>k.min<=n/\n<=k.max
 |.str,s=>s.size<=maxLen
 |.AE a b,x=>a.Wf x.1/\b.Wf x.2
 |.sl t,xs=>xs.length<=maxLen/\∀x∈xs,t.Wf x
 |_,_=>True
section
variable {P:Program} {H:Type} {enc:TypeId×Value->H} {w:World} {base:Nat} {sp:Nat->Bool} {held:Bool}
def xX(w:World)(b:Nat):Prop:=b<w.heap.size
theorem Vo{α β:Type}{f:α->ATC β}{x:α}{l:ATB α}{r:ATB β}(h:(x::l).mapM f=some r):∃y ys,f x=some y/\l.mapM f=some ys/\r=y::ys:=by
 cases hx:f x with
 |none=>grind
 |some y =>
  cases hl:l.mapM f with
  |none=>grind
  |some ys=>simp[hx,hl]at h;exact⟨y,ys,rfl,rfl,h.symm⟩
theorem nP(a:Addr)(k:Nat):(a.add k).block=a.block/\(a.add k).off=a.off+k:=by
 unfold Addr.add
 grind
theorem yB{a:Addr}{k:Nat}{v:Value}(h:w.cell? (a.add k)=some v):w.cell? ⟨a.block,a.off+k,none⟩=some v:=by
 unfold Addr.add at h;split at h
 ·rename_i hk;subst hk;cases a with
  |mk b o sp =>
   cases sp with
   |none=>grind
   |some q =>
    simp only[World.cell?,AQJ]at h;split at h<;>cases h
 ·grind
theorem uI{u:Ty}{s:Nat}(hs:s=u.size){a:Addr}{F:ATB Value->ATC (DataW H×ATB MemPlace)}(ih:∀cs y,F cs=some y->∃x:u.V,H7 w (xX w) u x cs/\u.Wf x) :
    ∀(n i:Nat) (ys:ATB (DataW H×ATB MemPlace)),(List.range' i n).mapM (λi=>(w.cells? base (a.add (i*s)) s).bind F)=some ys ->
     ∃(xs:ATB u.V) (ds:ATB Value),xs.length=n/\CH (H7 w (xX w) u) xs ds/\(∀x∈xs,u.Wf x)/\∀j v,ds[j]?=some v->w.cell? ⟨a.block,a.off+i*s+j,none⟩=some v
 |0,i,ys,_=>⟨[],[],rfl,rfl,λ_ h=>by grind,λj v h=>by grind⟩
 |n+1,i,ys,h=>by
  obtain⟨y,ys',h1,h2,_⟩:=Vo h;obtain⟨c,hc,hF⟩:=Option.bind_eq_some_iff.1 h1;obtain⟨x,hx,hw⟩:=ih c y hF;obtain⟨_,Il,Dp⟩:=World.cells?_some hc;obtain⟨xs,ds,hl,hr,hwf,hd⟩:=uI hs ih n (i+1) ys' h2;refine⟨x::xs,c++ds,by grind,⟨c,ds,rfl,hx,hr⟩,λz hz=>by
   grind,λj v hj=>?_⟩
  rw[AQm]at hj;split at hj
  ·rw[<-Dp j (by omega)]at hj;have:=yB hj;rw[(nP _ _).1,(nP _ _).2]at this;exact this
  grind
theorem Amz:∀(ty:Ty),(∀(t:TypeId) (RX:Nat) (cs:ATB Value) (y:DataW H×ATB MemPlace),X4 P ty t=true->DataW.trod enc P w base sp held RX t cs=some y->∃x:ty.V,H7 w (xX w) ty x cs/\ty.Wf x) /\
    ∀(o RX:Nat) (fs:ATB Field) (cs:ATB Value) (ys:ATB (DataW H×ATB MemPlace)),X4.l5 P ty o fs=true->fs.mapM (λf=>DataW.trod enc P w base sp held RX f.type ((cs.drop f.offset).take (P.cellsOf f.type)))=some ys->cs.length=o+ty.size ->
     ∃x:ty.V,H7 w (xX w) ty x (cs.drop o)/\ty.Wf x:=by
 intro ty;induction ty with
 |int k =>
  refine⟨λt RX cs y hm h=>?_,λo RX fs cs ys hm=>by simp[X4.l5]at hm⟩;simp only[X4]at hm;split at hm
  ·rename_i k' hu;have:k=k':=by simpa using hm
   subst this;cases RX with
   |zero=>simp[DataW.trod]at h
   |succ n =>
    simp only[DataW.trod,hu]at h;split at h<;>try (rename_i he;cases he;done)
    all_goals try (cases h;done)
    all_goals try (rename_i he _;cases he;done)
    rename_i k1 k2 n2 he;injection he with he;injection he with he;subst he;split at h
    ·rename_i hc;obtain⟨hk,hwf⟩:=hc;subst hk;simp only[Lit.wf,AP3,AQ3]at hwf;exact⟨n2,rfl,hwf⟩
    ·cases h
  ·cases hm
 |bool =>
  refine⟨λt RX cs y hm h=>?_,λo RX fs cs ys hm=>by simp[X4.l5]at hm⟩;simp only[X4]at hm;split at hm
  ·rename_i hu;cases RX with
   |zero=>simp[DataW.trod]at h
   |succ n =>
    simp only[DataW.trod,hu]at h;split at h<;>try (rename_i he;cases he;done)
    all_goals try (cases h;done)
    all_goals try (rename_i he _;cases he;done)
    rename_i b he;exact⟨b,rfl,trivial⟩
  ·cases hm
 |str =>
  refine⟨λt RX cs y hm h=>?_,λo RX fs cs ys hm=>by simp[X4.l5]at hm⟩;simp only[X4]at hm;split at hm
  ·rename_i hu;cases RX with
   |zero=>simp[DataW.trod]at h
   |succ n =>
    simp only[DataW.trod,hu]at h;split at h<;>try (rename_i he;cases he;done)
    all_goals try (cases h;done)
    all_goals try (rename_i he _;cases he;done)
    rename_i s he;split at h
    ·rename_i hc;exact⟨s,rfl,hc⟩
    ·cases h
  ·cases hm
 |unit =>
  refine⟨λt RX cs y hm=>by simp[X4]at hm,λo RX fs cs ys hm h hl=>?_⟩;refine⟨(),?_,trivial⟩;show cs.drop o=[];rw[List.drop_eq_nil_iff];simp only[Ty.size]at hl;omega
 |R4 z=>exact⟨λt RX cs y hm=>by simp[X4]at hm,λo RX fs cs ys hm=>by simp[X4.l5]at hm⟩
 |sl u ih =>
  refine⟨λt RX cs y hm h=>?_,λo RX fs cs ys hm=>by simp[X4.l5]at hm⟩;simp only[X4]at hm;split at hm
  ·rename_i e hu;simp only[AP3,AQ8,ARt]at hm;obtain⟨⟨MQ,BU⟩,hm⟩:=hm;cases RX with
   |zero=>simp[DataW.trod]at h
   |succ n =>
    simp only[DataW.trod,hu]at h;split at h<;>try (rename_i he;cases he;done)
    all_goals try (cases h;done)
    all_goals try (rename_i he _;cases he;done)
    all_goals try (rename_i he _ _;cases he;done)
    ·exact⟨[],⟨none,0,[],rfl,AP2 _,rfl,.inl rfl⟩,AQH _,λx hx=>by(cases hx)⟩
    ·rename_i e' a len cap he;injection he with he;injection he with he;subst he;split at h
     ·rename_i hc;obtain⟨elems,VR,_⟩:=Option.bind_eq_some_iff.1 h;rw[List.range_eq_range']at VR;obtain⟨xs,ds,hxl,hr,hwf,hd⟩:=uI (u:=u) MQ (λcs y hy=>ih.1 e n cs y hm hy) len 0 elems VR;subst hxl;refine⟨xs,⟨some a,cap,ds,rfl,hc.2.1,hr,?_⟩,AQq hc.2.1 hc.2.2,hwf⟩;cases xs with
      |nil=>exact .inl rfl
      |cons x xs =>
       refine .inr ?_;rw[AQL,List.range'_succ]at VR;obtain⟨y1,_,h1,_,_⟩:=Vo VR;obtain⟨c,Pp,_⟩:=Option.bind_eq_some_iff.1 h1;obtain⟨_,Il,Dp⟩:=World.cells?_some Pp;have Gb:=Dp 0 (by omega);have Y4:a.spot=none/\xX w a.block:=by
        have YZ:∃v,c[0]?=some v:=⟨_,AQ7 (by omega)⟩;obtain⟨v,hv⟩:=YZ;rw[hv]at Gb;have Gb:w.cell? a=some v:=by simpa [Addr.add]using Gb
        refine⟨?_,World.block_lt_of_cell? w a Gb⟩;cases Y4:a.spot with
        |none=>rfl
        |some q =>
         unfold World.cell? at Gb;rw[Y4]at Gb;split at Gb
         ·simp at Gb
         ·cases Gb
       refine⟨a.block,a.off,?_,Y4.2,λj v hj=>by simpa using hd j v hj⟩;cases a with
       |mk b o sp=>simp only at Y4;rw[Y4.1]
     ·cases h
  ·cases hm
 |AE a b iha ihb =>
  have main:∀(o RX:Nat) (f:Field) (r:ATB Field) (cs:ATB Value) (ys:ATB (DataW H×ATB MemPlace)),f.offset=o->P.cellsOf f.type=a.size->X4 P a f.type=true->X4.l5 P b (o+a.size) r=true ->
      (f::r).mapM (λf=>DataW.trod enc P w base sp held RX f.type ((cs.drop f.offset).take (P.cellsOf f.type)))=some ys->cs.length=o+(a.size+b.size)->∃x:(Ty.AE a b).V,H7 w (xX w) (.AE a b) x (cs.drop o)/\(Ty.AE a b).Wf x:=by
   intro o RX f r cs ys ho MQ hma hmb h hl;obtain⟨y,ys',h1,h2,_⟩:=Vo h;rw[ho,MQ]at h1;obtain⟨xa,hra,hwa⟩:=iha.1 f.type RX _ y hma h1;obtain⟨xb,hrb,hwb⟩:=ihb.2 (o+a.size) RX r cs ys' hmb h2 (by omega);refine⟨(xa,xb),⟨_,_,?_,hra,hrb⟩,hwa,hwb⟩;rw[<-List.drop_drop];exact(ARa a.size (cs.drop o)).symm
  refine⟨λt RX cs y hm h=>?_,λo RX fs cs ys hm h hl=>?_⟩
  ·simp only[X4]at hm;split at hm
   ·rename_i fs hu;rw[AP3]at hm;obtain⟨MQ,hm⟩:=hm;have MQ:P.cellsOf t=a.size+b.size:=by simpa using MQ
    split at hm
    ·rename_i f r hfs;simp only[AP3,AQ8]at hm;obtain⟨⟨⟨h1,h2⟩,h3⟩,h4⟩:=hm;cases RX with
     |zero=>simp[DataW.trod]at h
     |succ n =>
      have BO:(if cs.length=P.cellsOf t then(fs.toList.mapM λf=>DataW.trod enc P w base sp held n f.type ((cs.drop f.offset).take (P.cellsOf f.type))).map λxs=>((.agg (xs.map (·.1)):DataW H),xs.flatMap (·.2))else none)=some y:=by
       simp only[DataW.trod,hu]at h;exact h
      split at BO
      ·rename_i Il;cases hq:fs.toList.mapM λf=>DataW.trod enc P w base sp held n f.type ((cs.drop f.offset).take (P.cellsOf f.type))with
       |none=>rw[hq]at BO;cases BO
       |some ys =>
        rw[hfs]at hq;have:=main 0 n f r cs ys h1 h2 h3 (by rw[AQs];exact h4) hq (by omega);simpa using this
      ·cases BO
    ·cases hm
   ·cases hm
  ·cases fs with
   |nil=>simp[X4.l5]at hm
   |cons f r =>
    simp only[X4.l5,AP3,AQ8]at hm;obtain⟨⟨⟨h1,h2⟩,h3⟩,h4⟩:=hm;exact main o RX f r cs ys h1 h2 h3 h4 h hl
end
def WU:ATB Ty->Type
 |[]=>Unit
 |t::ts=>t.V×WU ts
def WU.av:(ts:ATB Ty)->WU ts->ATB AV
 |[],_=>[]
 |t::ts,x=>.AA [] t x.1::WU.av ts x.2
def WU.Wf:(ts:ATB Ty)->WU ts->Prop
 |[],_=>True
 |t::ts,x=>t.Wf x.1/\WU.Wf ts x.2
def G.pe(w:World):G:=⟨λb=>if b<w.heap.size then .Jb else .no,λ_=>⟨none,0,0,0⟩⟩
section
variable {P:Program} {H:Type} {enc:TypeId×Value->H} {w:World} {base:Nat} {sp:Nat->Bool} {held:Bool}
theorem AmV{ty:Ty}{t:TypeId}{v:Value}{x:ty.V}(hm:X4 P ty t=true)(hf:v.formed P t=true)(hr:H7 w (xX w) ty x v.cells.toList):Cq ty.isAgg v.cells.toList v:=by
 cases ty with
 |AE a b =>
  simp only[X4]at hm;split at hm
  ·rename_i fs hu;unfold Value.formed at hf;split at hf
   ·simp[Cq,Ty.isAgg,Value.cells]
   ·grind
   ·grind
  ·grind
 |int k =>
  simp only[X4]at hm;split at hm
  ·cases v<;>simp_all [Cq,Ty.isAgg,Value.cells,Value.formed]
  ·grind
 |bool =>
  simp only[X4]at hm;split at hm
  ·cases v<;>simp_all [Cq,Ty.isAgg,Value.cells,Value.formed]
  ·grind
 |str =>
  simp only[X4]at hm;split at hm
  ·cases v<;>simp_all [Cq,Ty.isAgg,Value.cells,Value.formed]
  ·grind
 |sl u =>
  simp only[X4]at hm;split at hm
  ·cases v<;>simp_all [Cq,Ty.isAgg,Value.cells,Value.formed]
  ·grind
 |unit=>simp[X4]at hm
 |R4 z=>simp[X4]at hm
end
section
variable {P:Program} {H:Type} {enc:TypeId×Value->H}
open Go.ChangeShapes Go.WideShapes Go.ChangeAt Go.RowKit
theorem aP{w w':World}{base:Nat}{sp:Nat->Bool}{held:Bool}:∀{ts:ATB TypeId} {vs:ATB Value} {ds:ATB (DataW H)} {ps:ATB MemPlace},DataW.TrodAll enc P w base sp held ts vs ds ps->(∀p∈ps,w.sameAt w' p)->DataW.TrodAll enc P w' base sp held ts vs ds ps
 |[],[],[],_,h,_=>h
 |_::_,_::_,_::_,_,⟨p,q,⟨n,h1⟩,h2,e⟩,hs=>⟨p,q,⟨n,DataW.trod_carry n _ _ _ h1 λx hx=>hs x (by grind)⟩,aP h2 (λx hx=>hs x (by grind)),e⟩
theorem AhR{f:Func}{s:ChangeSpec}{BZ handsOn:Bool}{W W':World}{args:Array Value}{ds gs:ATB (DataW H)}{before:ATB MemPlace}(hW:DataW.Whole enc P f.params.toList s.vars false W args.toList ds gs before)(hv:s.vars=[])
    (Ahz:gs=[]->s.fn H (ds++gs)={results:=[.lit (.bool true)],args:=ds}) {tb:TypeId} (hrt:f.resultTypes=#[tb]) (hub:P.underlying tb=some .bool) (Xb:∀b,b<W.heap.size->W'.heap[b]?=W.heap[b]?) (hos:W'.os=W.os) (AJD:W'.output=W.output)
    (K:Kids P (·<P.types.size)) (hz:∀t e,t<P.types.size->P.underlying t=some (.slice e)->0<P.cellsOf e) (ht:∀t∈f.params.toList,t<P.types.size):s.post enc P f false BZ handsOn false W args (.bool true) W':=by
 have Bp:=hW.lt;obtain⟨p,q,hA,hV,hpq,hfz,S8⟩:=id hW;rw[hv]at hV;obtain⟨rfl,rfl⟩:=trodVars_none hV;have Y4:=Ahz rfl;rw[AQB]at hpq Y4;subst hpq;have sq:∀x∈before,W.sameAt W' x:=λx hx=>by
  have hb:=Xb x.block (Bp x hx);cases x with
  |cell b off=>simp only[World.sameAt,World.cell?];simp only[MemPlace.block]at hb;rw[hb]
  |map b=>exact hb
 have kC:=aP hA sq;have yZ:∀sp:Nat->Bool,(∀x∈before,sp x.block=true)->DataW.TrodAll enc P W' 0 sp true f.params.toList args.toList ds before:=λsp hs=>kC.respare K hz ht hs;have df:∀(b:Nat) (sp:Nat->Bool) (hd:Bool),DataW.TrodAll enc P W' b sp hd f.resultTypes.toList ((Value.bool true).resultList f.resultTypes.size) [.lit (.bool true)] []:=λb sp hd=>by
  rw[hrt];exact trodAll_cons_mk (shut_bool hub _) trodAll_mk0
 have AnV:∀x∈before,(λb=>decide (b<W.heap.size)) x.block=true:=λx hx=>by grind
 refine⟨ds,[],before,[],before,[],hW,?_,?_,?_,⟨hos,AJD,λi hi=>?_⟩,λh=>by grind⟩
 ·grind
 ·grind
 ·rw[hv];rw[AQB,Y4];rfl
 grind
def sO(P:Program):ATB Ty->ATB TypeId->Bool
 |[],[]=>true
 |ty::tys,t::ts=>X4 P ty t&&sO P tys ts
 |_,_=>false
theorem nY{w:World}{base:Nat}{sp:Nat->Bool}{held:Bool}:∀{tys:ATB Ty} {ts:ATB TypeId} {vs:ATB Value} {ds:ATB (DataW H)} {ps:ATB MemPlace},sO P tys ts=true->DataW.TrodAll enc P w base sp held ts vs ds ps ->
    (∀(j:Nat) t v,ts[j]?=some t->vs[j]?=some v->v.formed P t=true)->∃xs:WU tys,WU.Wf tys xs/\DU w (G.pe w) 0 (WU.av tys xs) vs
 |[],[],[],[],_,_,_,_=>⟨(),trivial,trivial⟩
 |ty::tys,t::ts,v::vs,d::ds,_,hm,⟨p,q,⟨n,h1⟩,h2,_⟩,hf=>by
  simp only[sO,AP3]at hm;obtain⟨x,hr,hw⟩:=(Amz ty).1 t n _ _ hm.1 h1;obtain⟨xs,hws,ha⟩:=nY hm.2 h2 λj t v h3 h4=>hf (j+1) t v (by grind) (by grind);refine⟨(x,xs),⟨hw,hws⟩,Bs rfl  ⟨λk hk=>by grind,hr.mono λb hb=>⟨.inl ?_,rfl⟩⟩ (AmV hm.1 (hf 0 t v rfl rfl) hr),ha⟩;have hb:b<w.heap.size:=hb;simp[G.pe,hb]
 |[],_::_,_,_,_,hm,_,_=>by simp[sO]at hm
 |_::_,[],_,_,_,hm,_,_=>by simp[sO]at hm
 |[],[],_::_,_,_,_,h,_=>by simp[DataW.TrodAll]at h
 |[],[],[],_::_,_,_,h,_=>by simp[DataW.TrodAll]at h
 |_::_,_::_,[],_,_,_,h,_=>by simp[DataW.TrodAll]at h
 |_::_,_::_,_::_,[],_,_,h,_=>by simp[DataW.TrodAll]at h
theorem Aig(w:World):Bi w (G.pe w) []:=⟨λb hb=>by simp[G.pe];omega,λk x hx=>by grind⟩
theorem Adf{en:GV}(he:Jy P en){f:FuncId}{fn:Func}(hf:P.funcs[f]?=some fn){av:ATB AV}{w:World}{vs:ATB Value}(El:TP en fn (AV×ATB Blk) av [] (λv b=>some (v,b))=some (.bool true,[]))(ha:DU w (G.pe w) 0 av vs) :
    Calls P f vs.toArray w λe w'=>e=.returned (.bool true)/\(∀b,b<w.heap.size->w'.heap[b]?=w.heap[b]?)/\w'.os=w.os/\w'.output=w.output:=by
 refine((bQ he hf El).2 w _ vs (Aig w) ha).mono λe w' ⟨v,g',e1,_,hv,st⟩=>?_;have:=Tn hv;subst this;exact⟨e1,λb hb=>(st.Jb b (by simp[G.pe,hb])).2,st.os,st.output⟩
theorem uU{ty:Ty}{t:TypeId}{v:Value}{w:World}{r:Reach}{base:Nat}(hm:X4 P ty t=true)(h:Value.okWide P w r base t v):v.formed P t=true:=by
 unfold Value.okWide at h;cases ty with
 |AE a b =>
  simp only[X4]at hm;split at hm
  ·rename_i fs hu;rw[hu]at h;obtain⟨cs,rfl,hs,_⟩:=h;simp[Value.formed,hu,hs]
  ·cases hm
 |int k =>
  simp only[X4]at hm;split at hm
  ·rename_i k' hu;rw[hu]at h;cases v<;>simp_all [Value.formed,Cell.okWide,Cell.ok]
  ·cases hm
 |bool =>
  simp only[X4]at hm;split at hm
  ·rename_i hu;rw[hu]at h;cases v<;>simp_all [Value.formed,Cell.okWide,Cell.ok]
  ·cases hm
 |str =>
  simp only[X4]at hm;split at hm
  ·rename_i hu;rw[hu]at h;cases v<;>simp_all [Value.formed,Cell.okWide,Cell.ok]
  ·cases hm
 |sl u =>
  simp only[X4]at hm;split at hm
  ·rename_i e hu;rw[hu]at h;cases v<;>simp_all [Value.formed,Cell.okWide,Cell.ok]
  ·cases hm
 |unit=>simp[X4]at hm
 |R4 z=>simp[X4]at hm
theorem law_contract{en:GV}(he:Jy P en){f:FuncId}{fn:Func}(hf:P.funcs[f]?=some fn){tys:ATB Ty}(hm:sO P tys fn.params.toList=true){s:ChangeSpec}(hv:s.vars=[]){tb:TypeId}(hrt:fn.resultTypes=#[tb])(hub:P.underlying tb=some .bool)
    (K:Kids P (·<P.types.size)) (hz:∀t e,t<P.types.size->P.underlying t=some (.slice e)->0<P.cellsOf e) (ht:∀t∈fn.params.toList,t<P.types.size)
    {W:World} {base:Nat} {args:Array Value} {ds gs:ATB (DataW H)} {before:ATB MemPlace} (Ahz:gs=[]->s.fn H (ds++gs)={results:=[.lit (.bool true)],args:=ds})
    (hval:∀(j:Nat) t v,fn.params[j]?=some t->args[j]?=some v->Value.okWide P W .any base t v) (hW:DataW.Whole enc P fn.params.toList s.vars false W args.toList ds gs before)
    (El:∀xs:WU tys,WU.Wf tys xs->TP en fn (AV×ATB Blk) (WU.av tys xs) [] (λv b=>some (v,b))=some (.bool true,[])) {BZ handsOn:Bool} :
    Calls P f args W λe W'=>∃v,e=.returned v/\s.post enc P fn false BZ handsOn false W args v W':=by
 obtain⟨p,q,hA,_⟩:=id hW;have az:∀(j:Nat) t v,fn.params.toList[j]?=some t->args.toList[j]?=some v->v.formed P t=true:=λj t v h1 h2=>by
  rw[AQa]at h1 h2;have key:∀(tys:ATB Ty) (ts:ATB TypeId) (j:Nat),sO P tys ts=true->ts[j]?=some t->∃ty,X4 P ty t=true:=by
   intro tys;induction tys with
   |nil=>intro ts j hm hj;cases ts<;>simp_all [sO]
   |cons ty tys ih =>
    intro ts j hm hj;cases ts with
    |nil=>grind
    |cons u ts =>
     simp only[sO,AP3]at hm
     grind
  obtain⟨ty,iR⟩:=key tys fn.params.toList j hm (by grind);exact uU iR (hval j t v h1 h2)
 obtain⟨xs,hwf,ha⟩:=nY hm hA az;have:=Adf he hf (El xs hwf) ha;refine this.mono λe W' ⟨e1,h1,h2,h3⟩=>⟨_,e1,AhR hW hv Ahz hrt hub h1 h2 h3 K hz ht⟩
end
theorem AhZ{A B:Type}(f:A->B)(c:Prop)[Decidable c](x:ATC A):(if c then none else x).map f=if c then none else x.map f:=by split<;>rfl
theorem AhY{A B C D:Type}(f:C->D)(g:A->ATC C)(h:B->ATC C)(y:A⊕B):(Sum.elim g h y).map f=Sum.elim (λa=>(g a).map f) (λb=>(h b).map f) y:=by cases y<;>rfl
theorem Acm{A B:Type}(k:A->ATC B)(c:Bool)(x y:ATC A):(bif c then x else y).bind k=bif c then x.bind k else y.bind k:=by cases c<;>rfl
theorem Afj{A B:Type}(k:A->ATC B)(c:Prop)[Decidable c](x y:ATC A):(if c then x else y).bind k=if c then x.bind k else y.bind k:=by split<;>rfl
theorem Aco{A B:Type}(k:A->ATC B)(c:Prop)[Decidable c](x:ATC A):(if c then none else x).bind k=if c then none else x.bind k:=by split<;>rfl
theorem Acn{A B C D:Type}(k:C->ATC D)(g:A->ATC C)(h:B->ATC C)(y:A⊕B):(Sum.elim g h y).bind k=Sum.elim (λa=>(g a).bind k) (λb=>(h b).bind k) y:=by cases y<;>rfl
theorem GX(s:St):mH s s=some ():=by simp[mH]
def code(f:Func):Code:=(f.body).getD .skip
def Awl:Code->Array Oper
 |.region _ B9 _=>B9
 |_=>#[]
def Aet(P:Program):ATB (Nat×Callee)->Prop
 |[]=>True
 |(n,c)::r=>Am P n c/\Aet P r
theorem AgS{P:Program}:∀{l:ATB (Nat×Callee)},Aet P l->∀g c,Pb l g=some c->Am P g c
 |[],_,_,_,h=>by cases h
 |(n,c)::r,⟨h1,h2⟩,g,c',h=>by
  simp only[Pb]at h;split at h
  ·rename_i e;have e:n=g:=by simpa using e
   subst e;injection h with h;subst h;exact h1
  ·exact AgS h2 g c' h
def bg(e:Nat)(t:Ty)(bytes:Nat):Callee:={lf:=[.d (.sl t)],run:=λR avs E K=>match avs,E with
    |[.AA [] u xs],[]=>match I9 u (.sl t) xs with
     |some xs=>if xs.length*bytes<=140737488355328 then K (.AH 0) [.row e (if t.BS then .Av else .sh []) t xs]else none
     |_=>none
    |_,_=>none}
end Go.Va
