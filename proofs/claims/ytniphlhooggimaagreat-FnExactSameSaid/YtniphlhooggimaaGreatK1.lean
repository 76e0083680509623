import Derived.MapKept
import Derived.Laws.Strings
import Derived.Laws.StructEq
import Derived.OrdersHeld
import Derived.WalkKit
import Derived.ProofKit
import Derived.OpenShut
import Derived.JoinedCond
import Derived.ReadAgain
import Derived.Test.YtniphlhooggimaaGreatK0
set_option linter.unusedVariables false
set_option linter.unusedSimpArgs false
namespace Go.Va
def Dz(w:World)(g:G)(n:Nat):APH AV->APH Value->Prop
 |[],[]=>True
 |a::kp,v::vs=>B4 w g n a v/\Dz w g n kp vs
 |_,_=>False
structure Aq (P:Program) (f:FuncId) (c:Callee):Prop where
 Zj:gk c
 snd:∀(args:List AV) (E:List Blk) (av:AV) (E':List Blk),c.run (AV×List Blk) args E (λv b=>some (v,b))=some (av,E')->E.length<=E'.length /\
  ∀(w:World) (g:G) (vs:List Value),Bf w g E->Dz w g E.length args vs->∀(o:Oper) (a:Act) (next:Act->World->Prop) (Q:Exit->Act->World->Prop),
   (∀v w' g',Bf w' g' E'->B4 w' g' E'.length av v->Step (List.range E.length) E.length w g w' g'->next (a.put o.dst v) w')->o.upon P a next Q ((callFunc f vs.toArray).run P w)
theorem pA:∀{π:APH Nat} {k:Nat},k∈π->idxOf π k<π.length
 |x::r,k,h=>by
  simp only[idxOf];split
  ·simp
  ·rename_i Nk;have:k∈r:=by
    grind
   have:=pA this;simp;omega
theorem pz:∀{π:APH Nat} {k:Nat},k∈π->π[idxOf π k]?=some k
 |x::r,k,h=>by
  simp only[idxOf];split
  ·grind
  ·rename_i Nk;have:k∈r:=by
    grind
   simpa using pz this
theorem cZ:∀{π:APH Nat} {j k:Nat},nodup π=true->π[j]?=some k->idxOf π k=j
 |x::r,0,k,_,h=>by simp at h;subst h;simp[idxOf]
 |x::r,j+1,k,hn,h=>by
  simp only[nodup,AMd]at hn;have hr:r[j]?=some k:=by grind
  have:x≠k:=λe=>by
   grind
  simp only[idxOf];rw[AMp (by grind),cZ hn.2 hr]
theorem jD:∀{π:APH Nat} {L bs:APH Blk} {k:Nat} {x:Blk},L.length=π.length->(Qf bs π L)[k]?=some x->(k∉π/\bs[k]?=some x)\/∃j:Nat,π[j]?=some k/\L[j]?=some x
 |[],[],bs,k,x,_,h=>.inl ⟨by simp,h⟩
 |p::π,b::L,bs,k,x,hl,h=>by
  rcases jD (π:=π) (L:=L) (by grind) h with ⟨h1,h2⟩|⟨j,h1,h2⟩
  ·rw[AMv]at h2;split at h2
   ·rename_i he;subst he;split at h2
    ·exact .inr ⟨0,rfl,by grind⟩
    ·grind
   grind
  ·exact .inr ⟨j+1,by grind,by grind⟩
 |[],_::_,_,_,_,hl,_=>by grind
 |_::_,[],_,_,_,hl,_=>by grind
theorem ZV:∀(π:APH Nat) (L bs:APH Blk),(Qf bs π L).length=bs.length
 |[],_,_=>by simp[Qf]
 |_::_,[],_=>by simp[Qf]
 |p::π,b::L,bs=>by rw[Qf,ZV π L,AMf]
def G.call(g:G)(π π1 KP:APH Nat):G:=⟨λb=>match g.own b with |.Ir=>.Ir |.BO k r=>if k∈π1 then .BO (idxOf π k) r else if k∈KP then .Ir else .no |.no=>.no,λj=>g.AZ (π.getD j 0)⟩
def G.ret(g gc:G)(n:Nat)(π π1:APH Nat):G :=
 ⟨λb=>match gc.own b with |.BO j r=>.BO (Xz n π j) r |t=>match g.own b with |.BO k r=>if k∈π1 then t else .BO k r |_=>t,λk=>if k<n then g.AZ k else gc.AZ (k-n+π.length)⟩
def G.back(g gc:G)(n:Nat)(π:APH Nat):G:=⟨λb=>match gc.own b with |.BO j r=>.BO (Xz n π j) r |t=>t,λk=>if k<n then g.AZ k else gc.AZ (k-n+π.length)⟩
section
variable {w:World} {g:G} {bs:APH Blk} {π π1 KP:APH Nat}
theorem cH{k:Nat}(hk:k∈π):Aan (idxOf π) g (g.call π π1 KP) π.length k:=by
 refine⟨pA hk,?_⟩;have:=pz hk;simp[G.call,this]
theorem gW{k:Nat}(hk:k∈π)(h1:k∈π1):Ren (idxOf π) g (g.call π π1 KP) π.length k where
 lt:=pA hk
 AZ:=(cH hk).2
 own b r h:=by simp[G.call,h,h1]
theorem gV{b:Nat}(h:g.own b=.Ir):(g.call π π1 KP).own b=.Ir:=by simp[G.call,h]
theorem VN(hb:∀k∈KP,k∉π1){ks:APH Nat}(hk:∀k∈ks,k∈KP){b:Nat}(h:Al g.own ks b):Al (g.call π π1 KP).own [] b:=by
 rcases h with h |⟨k,hks,r,h⟩
 ·exact .inl (gV h)
 ·have h1:=hk k hks;exact .inl (by simp[G.call,h,hb k h1,h1])
theorem AaB(H:Bf w g bs){Z7:APH Nat}(hn:nodup π=true)(h1:∀k∈π,k∉Z7->k∈π1)(HQ:∀k∈π,∃b,bs[k]?=some b/\(∀j∈b.Ct,j∈π)/\(k∈Z7\/∀j∈b.R8,j∉Z7)):Bf w (g.call π π1 KP) (π.map λk=>bif Z7.contains k then .A9 else((bs[k]?).getD .A9).NI (idxOf π)):=by
 refine⟨λb hb=>by simp[G.call,H.BZ b hb],λj x hx=>?_⟩;rw[AMz]at hx;cases hj:π[j]? with
 |none=>grind
 |some k =>
  rw[hj]at hx;injection hx with hx;subst hx;have hk :=ANt hj;obtain⟨b,hb,QS,hh⟩:=HQ k hk;cases hc:Z7.contains k with
  |true=>simp only[hc];trivial
  |false =>
   have hkh:k∉Z7:=by grind
   have ACd:=hh.resolve_left hkh;have:=(H.LP k b hb).ZS  (g':=g.call π π1 KP)  (λb h=>gV h) (gW hk (h1 k hk hkh)) (λj hj=>cH (QS j hj)) λj hj=>(gW (QS j (cC b hj)) (h1 j (QS j (cC b hj)) (ACd j hj))).own;rw[cZ hn hj]at this
   grind
theorem ZR{t:Ty}{v:AV}{y:t.V}(h:rd bs t v=some y):v.isAgg=t.isAgg:=by
 have plain:∀(t:Ty) (ks:APH Nat) (u:Ty) (z:u.V) (y:t.V),IU u t z=some y->(AV.AB ks u z).isAgg=t.isAgg:=λt ks u z y h=>by
  obtain⟨e,_⟩:=BJ h;subst e;rfl
 cases t with
 |AE a b=>cases v<;>simp only[rd,reduceCtorEq]at h<;>first |grind |rfl
 |sl t=>cases v<;>simp only[rd,reduceCtorEq]at h<;>first |grind |rfl
 |int k=>cases v<;>simp only[rd,reduceCtorEq]at h<;>exact plain _ _ _ _ _ h
 |bool=>cases v<;>simp only[rd,reduceCtorEq]at h<;>exact plain _ _ _ _ _ h
 |str=>cases v<;>simp only[rd,reduceCtorEq]at h<;>exact plain _ _ _ _ _ h
 |unit=>cases v<;>simp only[rd,reduceCtorEq]at h<;>exact plain _ _ _ _ _ h
 |QV z=>cases v<;>simp only[rd,reduceCtorEq]at h<;>exact plain _ _ _ _ _ h
theorem Aiq(H:Bf w g bs){k:Nat}{i:Int}{a:AV}(h:atB bs k i=some a)(hi:i.toNat<(g.AZ k).len){b:Nat}(hb:(g.AZ k).a=some ⟨b,0,none⟩):g.own b=.BO k []:=by
 unfold atB at h;split at h
 ·rename_i a' hx;obtain⟨h1,b',cs,e,ha,ho,hh,hr⟩:=H.LP k _ hx
  grind
 ·rename_i e m t xs hx;obtain⟨QT,hlen,PE,BU,hr⟩:=H.LP k _ hx
  grind
 ·grind
theorem Art(H:Bf w g bs)(hb:∀k∈KP,k∉π1){m:PM}{v a:AV}{l:APH Nat}(h:Aau bs m v=some (a,l))(hl:∀k∈l,k∈KP)(hr:∀k∈Ade m v,k∈π)(hh:∀k∈a.R8,k∈π->k∈π1){x:Value}(hx:B4 w g bs.length v x):B4 w (g.call π π1 KP) π.length (a.NI (idxOf π)) x:=by
 cases m with
 |d t =>
  simp only[Aau]at h;split at h
  ·rename_i y hy;obtain⟨rfl,rfl⟩:=h;obtain⟨XP,Rb⟩:=Vu hy;obtain⟨cs,SI,hv⟩:=B3 XP Rb hx;refine Bs rfl  ⟨λk hk=>by grind,(Qe H t v y cs hy SI).1.mono λb hA=>⟨VN hb hl hA,rfl⟩⟩ ?_;rw[ZR hy]at hv;exact hv
  ·grind
 |p t =>
  cases v with
  |Fv ks u y =>
   simp only[Aau]at h;split at h
   ·rename_i z hz;obtain⟨rfl,rfl⟩:=h;obtain⟨e,he⟩:=BJ hz;subst e;subst he;obtain⟨hk,b,off,ds,rfl,ha,kF,hc⟩:=Yk hx;exact dj (λk hk=>by grind) (VN hb hl ha) (kF.mono λb hA=>⟨VN hb hl hA,rfl⟩) hc
   ·grind
  |ptr k i p o =>
   simp only[Aau]at h;split at h
   ·rename_i c hc;split at h
    ·rename_i y hy;obtain⟨rfl,rfl⟩:=h;obtain⟨hk,h0,h1,b,Nt,rfl⟩:=K1 hx;obtain⟨cs,SI,DF⟩:=VK H hc h1 Nt;have Cs :=by
      unfold atP at hc;split at hc
      ·rename_i d hd;exact Aiq H hd h1 Nt
      ·grind
     exact dj (λk hk=>by grind) (VN hb hl (.mem (AMB) Cs)) ((Qe H t c y cs hy SI).1.mono λb hA=>⟨VN hb hl (hA.mono λk hk=>AMy _ hk),rfl⟩) DF
    ·grind
   ·grind
  |_=>simp[Aau]at h
 |WH =>
  obtain⟨rfl,rfl⟩:=h;exact hx.ZS (λb h=>gV h) (λk hk=>cH (hr k hk)) λk hk=>(gW (hr k (NP _ hk)) (hh k hk (hr k (NP _ hk)))).own
theorem ym(H:Bf w g bs)(hb:∀k∈KP,k∉π1):∀{ms:APH PM} {vs kp:APH AV} {l Zm:APH Nat} {xs:APH Value},lu bs ms vs=some (kp,l,Zm)->(∀k∈l,k∈KP)->(∀k∈Zm,k∈π)->(∀a∈kp,∀k∈a.R8,k∈π->k∈π1)->Dz w g bs.length vs xs ->
    Dz w (g.call π π1 KP) π.length (kp.map (·.NI (idxOf π))) xs
 |[],[],kp,l,Zm,[],h,_,_,_,_=>by
  obtain⟨rfl,_,_⟩:=h;trivial
 |m::ms,v::vs,kp,l,Zm,x::xs,h,hl,hr,hh,hx=>by
  simp only[lu]at h;split at h
  ·rename_i a l1 AJq ls rs h1 h2;obtain⟨rfl,rfl,rfl⟩:=h;exact⟨Art H hb h1 (λk hk=>hl k (AME _ hk)) (λk hk=>hr k (AME _ hk)) (hh a (by simp)) hx.1,
    ym H hb h2 (λk hk=>hl k (AMF _ hk)) (λk hk=>hr k (AMF _ hk)) (λa ha=>hh a (by grind)) hx.2⟩
  ·grind
 |[],[],_,_,_,_::_,_,_,_,_,hx=>hx.elim
 |[],_::_,_,_,_,_,h,_,_,_,_=>by simp[lu]at h
 |_::_,[],_,_,_,_,h,_,_,_,_=>by simp[lu]at h
 |_::_,_::_,_,_,_,[],_,_,_,_,hx=>hx.elim
end
theorem nZ{n:Nat}{π:APH Nat}{j k:Nat}(h:π[j]?=some k):Xz n π j=k:=by simp[Xz,h]
theorem nY{n:Nat}{π:APH Nat}{j:Nat}(h:π.length<=j):Xz n π j=n+(j-π.length):=by
 have :=AMK h;simp[Xz,this]
theorem AaK(bs:APH Blk):Ba [] bs=bs:=rfl
theorem lF{P:Program}{f:FuncId}{c:Callee}(hc:Aq P f c){bs:APH Blk}{args:APH AV}{e:HO}(h:XC c bs args some=some e) :
    bs.length<=e.Aj.length/\(e.Bz=[]->∃l,e.Aj=bs++l)/\∀(w:World) (g:G) (vs:APH Value),Bf w g bs->Dz w g bs.length args vs->∀(o:Oper) (a:Act) (next:Act->World->Prop) (Q:Exit->Act->World->Prop),
     (∀v w' g',Bf w' g' e.Aj->B4 w' g' e.Aj.length e.val v->Step e.Bz bs.length w g w' g'->next (a.put o.dst v) w')->o.upon P a next Q ((callFunc f vs.toArray).run P w):=by
 unfold XC at h;split at h
 ·cases h
 ·rename_i kp KP Zm y8
  dsimp only at h
  split at h
  ·rename_i hck;simp only[AMd]at hck;obtain⟨⟨⟨⟨⟨AFz,RH⟩,Asx⟩,HQ⟩,hhd⟩,AB9⟩:=hck;generalize hπ:mX bs bs.length (fl [] Zm)=π at *;generalize AKg:(π.filter λk=>c.Abb.contains (idxOf π k))=Z7 at *;generalize hπ1:(π.filter λk=>!Z7.contains k)=π1 at *;rw[hc.Zj]at h;cases D8:c.run (AV×APH Blk) (kp.map (·.NI (idxOf π))) (π.map λk=>bif Z7.contains k then .A9 else((bs[k]?).getD .A9).NI (idxOf π)) λv b=>some (v,b)with
   |none=>rw[D8]at h;cases h
   |some p =>
    obtain⟨av,E'⟩:=p;rw[D8]at h;simp only[AL6]at h;split at h
    ·rename_i PR;injection h with h;subst h;obtain⟨Pg,PT⟩:=hc.snd _ _ _ _ D8;rw[AMi]at Pg PT;have AfX:∀k,k∈π1↔k∈π/\k∉Z7:=λk=>by rw[<-hπ1];simp
     have AB0:∀k∈KP,k∉π/\k<bs.length:=λk hk=>by
      have:=List.all_eq_true.1 AFz k hk;simpa using this
     have hbp:∀k∈KP,k∉π1/\k<bs.length:=λk hk=>⟨λh=>(AB0 k hk).1 ((AfX k).1 h).1,(AB0 k hk).2⟩;have Ae6:∀k∈π,∃b,bs[k]?=some b/\(∀j∈b.Ct,j∈π)/\(k∈Z7\/∀j∈b.R8,j∉Z7):=λk hk=>by
      have:=List.all_eq_true.1 HQ k hk;split at this
      ·rename_i b hb;simp only[AMd,ANp]at this;exact⟨b,hb,λj hj=>by have:=List.all_eq_true.1 this.1 j hj;simpa using this,this.2.imp (λh=>by simpa using h) λh j hj=>by have:=List.all_eq_true.1 h j hj;simpa using this⟩
      ·cases this
     have hr':∀k∈Zm,k∈π:=λk hk=>by have:=List.all_eq_true.1 Asx k hk;simpa using this
     have hh':∀a∈kp,∀k∈a.R8,k∈π->k∈π1:=λa ha k hk hp=>(AfX k).2 ⟨hp,by have:=List.all_eq_true.1 (List.all_eq_true.1 hhd a ha) k hk;simpa using this⟩;have AGG:∀k∈π,k<bs.length:=λk hk=>by obtain⟨b,hb,_⟩:=Ae6 k hk;exact A3 hb
     let n:=bs.length
     let φ:=Xz n π
     let E1:=List.zipWith (λk b=>bif Z7.contains k then((Ba π1 bs)[k]?).getD .A9 else(b.NI φ).Vi KP) π E'
     let E2:=(E'.drop π.length).map λb=>(b.NI φ).Vi KP
     have hE1:E1.length=π.length:=by simp only[E1,List.length_zipWith];omega
     have hlen:(Qf (Ba π1 bs) π E1++E2).length=n+(E'.length-π.length):=by
      rw[AMa,ZV,AF];simp[E2,n]
     refine⟨by show n<=(Qf (Ba π1 bs) π E1++E2).length;rw[hlen];omega,λh0=>?_,λw g vs H hx o a next Q hn=>?_⟩
     ·have h0:π1=[]:=h0;have h0':π=[]:=by rw[h0]at AB9;simpa using AB9
      refine⟨E2,?_⟩;show Qf (Ba π1 bs) π E1++E2=_;rw[h0,h0'];simp[Qf,AaK]
     ·have Hc:=AaB (KP:=KP) H RH (λk h1 h2=>(AfX k).2 ⟨h1,h2⟩) Ae6;have Ac:=ym (KP:=KP) H (λk hk=>(hbp k hk).1) y8 (λk hk=>hk) hr' hh' hx;refine PT w (g.call π π1 KP) vs Hc Ac o a next Q λv w' gc H' hv st=>?_
      let g1:=g.back gc n π
      let g':=g.ret gc n π π1
      have Bm:∀b,g.own b≠.no->b<w.heap.size:=λb h=>T2 H h;have US:∀b k r,g.own b=.BO k r->k∉π1->(gc.own b=.Ir/\k∈KP\/gc.own b=.no)/\w'.heap[b]?=w.heap[b]?:=λb k r hb hk=>by
       by_cases hkb:k∈KP
       ·have:=st.Ir b (by simp[G.call,hb,hk,hkb]);exact⟨.inl ⟨this.1,hkb⟩,this.2⟩
       ·have:=st.no b (Bm b (by rw[hb];simp)) (by simp[G.call,hb,hk,hkb]);exact⟨.inr this.1,this.2⟩
      have BH:Step π1 n w g w' g':=by
       refine⟨st.os,st.tape,st.output,st.size,λb hb h=>?_,λb h=>?_,λb k r h hk hm=>?_,λk hk=>?_⟩
       ·have:=st.no b hb (by simp[G.call,h]);exact⟨by simp[g',G.ret,this.1,h],this.2⟩
       ·have:=st.Ir b (by simp[G.call,h]);exact⟨by simp[g',G.ret,this.1,h],this.2⟩
       ·obtain⟨h1,h2⟩:=US b k r h hm;refine⟨?_,h2⟩;rcases h1 with ⟨h1,_⟩|h1<;>simp[g',G.ret,h1,h,hm]
       ·have Xp:k<bs.length:=hk;simp[g',G.ret,n,Xp]
      have AjO:∀j,j<E'.length->Ren φ gc g1 (n+(E'.length-π.length)) j:=λj hj=>by
       rcases AMh j π.length with cw |cw
       ·obtain⟨k,hk⟩:∃k,π[j]?=some k:=⟨_,ANd cw⟩;have hkm:k∈π:=ANt hk;have kE:k<bs.length:=AGG k hkm;refine⟨by rw[show φ j=k from nZ hk];omega,?_,λb r hb=>by simp[g1,G.back,hb,φ]⟩;rw[show φ j=k from nZ hk];have h1:gc.AZ j=(g.call π π1 KP).AZ j:=st.AZ j cw;rw[h1];simp[g1,G.back,n,kE,G.call,List.getD,hk]
       ·refine⟨by rw[show φ j=n+(j-π.length)from nY cw];omega,?_,λb r hb=>by simp[g1,G.back,hb,φ]⟩;rw[show φ j=n+(j-π.length)from nY cw];have:¬n+(j-π.length)<n:=by omega
        simp only[g1,G.back,AMp this];congr 1;omega
      have iK:∀b,gc.own b=.Ir->g1.own b=.Ir:=λb hb=>by simp[g1,G.back,hb]
      have AB6:Dep KP g1 g' (n+(E'.length-π.length)):=by
       refine⟨λb hb=>?_,λb k r hb hk=>?_,λk hk=>rfl,λk hk=>by have:=(hbp k hk).2;omega⟩
       ·have hgc:gc.own b=.Ir:=by
          simp only[g1,G.back]at hb;split at hb
          ·cases hb
          ·exact hb
        cases hg:g.own b with
        |no=>exact .inl (by simp[g',G.ret,hgc,hg])
        |Ir=>exact .inl (by simp[g',G.ret,hgc,hg])
        |BO k r =>
         by_cases hk:k∈π1
         ·exact .inl (by simp[g',G.ret,hgc,hg,hk])
         ·obtain⟨h1,_⟩:=US b k r hg hk;rcases h1 with ⟨_,hkb⟩|h1
          ·exact .inr ⟨k,hkb,r,by simp[g',G.ret,hgc,hg,hk]⟩
          ·rw[hgc]at h1;cases h1
       ·simp only[g1,G.back]at hb;split at hb
        ·rename_i j r' hj;simp only[g',G.ret,hj];exact hb
        ·rename_i h1;exact(h1 k r hb).elim
      refine hn v w' g' ⟨λb hb=>?_,λk x hx=>?_⟩ ?_ BH
      ·have h1:=H'.BZ b hb;have h2:=H.BZ b (AMA st.size hb);simp[g',G.ret,h1,h2]
      ·have hx:(Qf (Ba π1 bs) π E1++E2)[k]?=some x:=hx;show Mn w' g' (Qf (Ba π1 bs) π E1++E2).length k x;rw[hlen];have one:∀(j:Nat) (b:Blk),E'[j]?=some b->Mn w' g' (n+(E'.length-π.length)) (φ j) ((b.NI φ).Vi KP):=λj b hj=>by
        have cw:=A3 hj;have hb:=H'.LP j b hj;have hbr:=hb.NI iK (AjO j cw) λi hi=>AjO i (by
         cases b with
         |A9=>cases hi
         |map m kt vt es st=>exact hb.1 i hi
         |QU e t xs i' p=>cases hi
         |tail e t xs=>cases hi
         |box a=>obtain⟨_,_,_,_,_,_,_,hx⟩:=hb;exact CG.Tk a false hx i hi
         |row e m t xs=>exact hb.1 i hi)
        exact hbr.Vi AB6 (AjO j cw).lt
       rw[AMw]at hx;split at hx
       ·have mJ:∀y,(Ba π1 bs)[k]?=some y->k∉π1->Mn w' g' (n+(E'.length-π.length)) k y:=λy hy hk=>by
          obtain⟨z,hz,rfl⟩:=Dq hy;exact(H.LP k z hz).step BH (by omega) (A3 hz) hk
        rcases jD hE1 hx with ⟨hk,h⟩|⟨j,hj,h⟩
        ·exact mJ x h λh1=>hk ((AfX k).1 h1).1
        ·simp only[E1,List.getElem?_zipWith,hj]at h;cases hq:E'[j]? with
         |none=>rw[hq]at h;cases h
         |some b =>
          rw[hq]at h;injection h with h;cases hc:Z7.contains k with
          |true =>
           rw[hc,AMm]at h;have hkh:k∈Z7:=by simpa using hc
           cases hd:(Ba π1 bs)[k]? with
           |none=>rw[hd]at h;subst h;trivial
           |some y=>rw[hd]at h;subst h;exact mJ _ hd λh1=>((AfX k).1 h1).2 hkh
          |false =>
           rw[hc,AMl]at h;subst h;have:=one j b hq;rwa [show φ j=k from nZ hj]at this
       ·rename_i hk;rw[ZV,AF]at hx hk;simp only[E2,AMz,AN6]at hx;cases hq:E'[π.length+(k-bs.length)]? with
        |none=>rw[hq]at hx;cases hx
        |some b =>
         rw[hq]at hx;injection hx with hx;subst hx;have:=one _ b hq;rwa [show φ (π.length+(k-bs.length))=k from by
          rw[show φ (π.length+(k-bs.length))=n+(π.length+(k-bs.length)-π.length)from nY (by omega)];simp only[n];omega]at this
      ·show B4 w' g' (Qf (Ba π1 bs) π E1++E2).length ((av.NI φ).Vi KP) v;rw[hlen];exact(hv.NI iK λk hk=>AjO k (hv.Tk k hk)).Vi AB6
    ·cases h
  ·cases h
def AlL(l:APH Nat)(c:Callee):Callee:={c with Abb:=l}
theorem AfJ{P:Program}{f:FuncId}{c:Callee}(l:APH Nat)(h:Aq P f c):Aq P f (AlL l c):=⟨h.Zj,h.snd⟩
theorem qg{r q L:APH Nat}{a b:Nat}(h:(r++a::L) <:+ (q++b::L)):a=b:=by
 obtain⟨s,hs⟩:=h;have:(s++r)++(a::L)=q++(b::L):=by grind
 have:=List.append_inj_right' this rfl;injection this
theorem jb:∀(f:Nat) (L:APH Nat),∃r,pK f L=r++L
 |0,L=>⟨[0],rfl⟩
 |f+1,L=>by
  obtain⟨r,h⟩:=jb f _;exact⟨r++[1],by rw[pK,h];simp⟩
theorem bk:∀(p L:APH Nat),∃r,UI p L=r++L
 |[],L=>⟨[],rfl⟩
 |f::p,L=>by
  obtain⟨r,hr⟩:=bk p _;obtain⟨s,hs⟩:=jb f L;exact⟨r++s,by rw[UI,hr,hs,AMe]⟩
def Fr(w:World)(own:Nat->TT)(w':World)(ND:Nat->TT)(k:Nat)(P:APH Nat):Prop:=∀b q,own b=.BO k q->¬P <:+ q->ND b=.BO k q/\w'.heap[b]?=w.heap[b]?
def Aih(w:World)(own:Nat->TT)(k:Nat)(u:Ty)(zs:APH u.V)(P:APH Nat)(t:Ty)(L:APH Nat)(x':t.V)(ys:APH u.V)(cs:APH Value)(o:Nat):Prop :=
 ∃c0 c1 c2,cs=c0++c1++c2/\c0.length=o/\Jo w own k (.sl u) P ys c1/\∀w' ND SN,Fr w own w' ND k P->Jo w' ND k (.sl u) P zs SN->Jo w' ND k t L x' (c0++SN++c2)
section
variable {w:World} {own:Nat->TT} {k:Nat} {u:Ty} {zs:APH u.V}
theorem sib{w':World}{ND:Nat->TT}{P:APH Nat}{t:Ty}{L:APH Nat}{x:t.V}{cs:APH Value}(kj:Fr w own w' ND k P)(hP:∀q,¬P <:+ (q++L))(h:Jo w own k t L x cs):Jo w' ND k t L x cs :=
 h.mono λb q hb=>kj b _ hb (hP q)
theorem sU(p:APH Nat)(ih:∀(t:Ty) (L:APH Nat) (x x':t.V) (cs:APH Value) (o:Nat) (ys:APH u.V),Ss (.sl u) zs p t x=some x'->iG (.sl u) p t x=some ys->Lg t p=some o->Jo w own k t L x cs->Aih w own k u zs (UI p L) t L x' ys cs o) :
    ∀(f:Nat) (t:Ty) (L:APH Nat) (x x':t.V) (cs:APH Value) (t1:Ty) (o1 o2:Nat) (ys:APH u.V),Rn t x f (λt' y=>Ss (.sl u) zs p t' y)=some x'->ArS t x f (λt' y=>iG (.sl u) p t' y)=some ys ->
     lb t f=some t1->Ug t f=some o1->Lg t1 p=some o2->Jo w own k t L x cs->Aih w own k u zs (UI p (pK f L)) t L x' ys cs (o1+o2)
 |0,.AE a b,L,x,x',cs,t1,o1,o2,ys,hs,hg,ht,ho,zj,h=>by
  obtain⟨c,d,e,h1,h2⟩:=h;simp only[lb,AL8]at ht;subst ht;simp only[Ug,AL8]at ho;simp only[Rn]at hs;split at hs
  ·rename_i y hy;injection hs with hs;subst hs;obtain⟨c0,c1,c2,e2,hl,hr,hk⟩:=ih a (0::L) x.1 y c o2 ys hy hg zj h1;refine⟨c0,c1,c2++d,by grind,by omega,hr,λw' ND SN kj hz=>⟨c0++SN++c2,d,by grind,hk w' ND SN kj hz,sib kj (λq hq=>?_) h2⟩⟩;obtain⟨r,hr⟩:=bk p (pK 0 L);rw[hr]at hq;have:=qg (r:=r) (q:=q) (L:=L) (a:=0) (b:=1) hq;cases this
  ·grind
 |f+1,.AE a b,L,x,x',cs,t1,o1,o2,ys,hs,hg,ht,ho,zj,h=>by
  obtain⟨c,d,e,h1,h2⟩:=h;simp only[Ug]at ho;split at ho
  ·rename_i o3 ho3;injection ho with ho;simp only[Rn]at hs;split at hs
   ·rename_i y hy;injection hs with hs;subst hs;obtain⟨c0,c1,c2,e2,hl,hr,hk⟩:=sU p ih f b (1::L) x.2 y d t1 o3 o2 ys hy hg ht ho3 zj h2;refine⟨c++c0,c1,c2,by grind,by rw[AMa,h1.len];omega,hr,λw' ND SN kj hz=>⟨c,c0++SN++c2,by grind,sib kj (λq hq=>?_) h1,hk w' ND SN kj hz⟩⟩;obtain⟨r,hr⟩:=bk p (pK (f+1) L);obtain⟨s,hs⟩:=jb f (1::L);rw[hr,pK,hs,<-AMe]at hq;have:=qg (r:=r++s) (q:=q) (L:=L) (a:=1) (b:=0) hq;cases this
   ·grind
  ·grind
 |f,.int _,_,_,_,_,_,_,_,_,hs,_,_,_,_,_=>by simp[Rn]at hs
 |f,.bool,_,_,_,_,_,_,_,_,hs,_,_,_,_,_=>by simp[Rn]at hs
 |f,.str,_,_,_,_,_,_,_,_,hs,_,_,_,_,_=>by simp[Rn]at hs
 |f,.unit,_,_,_,_,_,_,_,_,hs,_,_,_,_,_=>by simp[Rn]at hs
 |f,.sl _,_,_,_,_,_,_,_,_,hs,_,_,_,_,_=>by simp[Rn]at hs
 |f,.QV _,_,_,_,_,_,_,_,_,hs,_,_,_,_,_=>by simp[Rn]at hs
theorem jm:∀(p:APH Nat) (t:Ty) (L:APH Nat) (x x':t.V) (cs:APH Value) (o:Nat) (ys:APH u.V),Ss (.sl u) zs p t x=some x'->iG (.sl u) p t x=some ys->Lg t p=some o->Jo w own k t L x cs->Aih w own k u zs (UI p L) t L x' ys cs o
 |[],t,L,x,x',cs,o,ys,hs,hg,ho,h=>by
  simp only[Lg,AL8]at ho;subst ho;obtain⟨e,he⟩:=BJ hs;obtain⟨e',he'⟩:=BJ hg;subst e;subst he;subst he';exact⟨[],cs,[],by simp,rfl,h,λw' ND SN _ hz=>by simpa [UI]using hz⟩
 |f::p,t,L,x,x',cs,o,ys,hs,hg,ho,h=>by
  simp only[Lg]at ho;split at ho
  ·rename_i t1 o1 h1 h2;split at ho
   ·rename_i o2 h3;injection ho with ho;subst ho;exact sU p (jm p) f t L x x' cs t1 o1 o2 ys hs hg h1 h2 h3 h
   ·grind
  ·grind
end
def G.iq(g:G)(n k:Nat)(P:APH Nat)(i:BI):G:=⟨λb=>match g.own b with |.BO j q=>if j=k/\P <:+ q then .BO n (q.take (q.length-P.length))else .BO j q |t=>t,λj=>if j=n then i else g.AZ j⟩
def G.dH(g:G)(n k:Nat)(P:APH Nat):G:=⟨λb=>match g.own b with |.BO j q=>if j=n then .BO k (q++P)else .BO j q |t=>t,g.AZ⟩
section
variable {w:World} {g:G} {bs:APH Blk}
theorem Yr{n k:Nat}{P:APH Nat}{i:BI}{b:Nat}{q:APH Nat}(h:g.own b=.BO k (q++P)):(g.iq n k P i).own b=.BO n q:=by
 have:P <:+ (q++P):=⟨q,rfl⟩;simp[G.iq,h]
theorem Wq{n k:Nat}{P:APH Nat}{i:BI}{b j:Nat}{q:APH Nat}(h:g.own b=.BO j q)(hn:¬(j=k/\P <:+ q)):(g.iq n k P i).own b=.BO j q:=by
 simp only[G.iq,h,AMp hn]
theorem yo{n k:Nat}{P:APH Nat}{b:Nat}{q:APH Nat}(h:g.own b=.BO n q):(g.dH n k P).own b=.BO k (q++P):=by simp[G.dH,h]
theorem fC{n k:Nat}{P:APH Nat}{b j:Nat}{q:APH Nat}(h:g.own b=.BO j q)(hn:j≠n):(g.dH n k P).own b=.BO j q:=by simp only[G.dH,h,AMp hn]
theorem jN{k:Nat}{P:APH Nat}{i:BI}:Step [k] bs.length w g w (g.iq bs.length k P i) where
 os:=rfl
 tape:=rfl
 output:=rfl
 size:=AMc _
 no b _ h:=⟨by simp[G.iq,h],rfl⟩
 Ir b h:=⟨by simp[G.iq,h],rfl⟩
 BO b j q h hj hm:=⟨Wq h λhc=>hm (by grind),rfl⟩
 AZ j hj:=by simp[G.iq,Nat.ne_of_lt hj]
theorem uD{n k N:Nat}{P:APH Nat}:Step [n,k] N w g w (g.dH n k P) where
 os:=rfl
 tape:=rfl
 output:=rfl
 size:=AMc _
 no b _ h:=⟨by simp[G.dH,h],rfl⟩
 Ir b h:=⟨by simp[G.dH,h],rfl⟩
 BO b j q h hj hm:=⟨fC h λhc=>hm (by grind),rfl⟩
 AZ j hj:=rfl
theorem RS{A:Type}{l:APH A}{k j:Nat}{x y:A}(h:(l.set k x)[j]?=some y):(j=k/\y=x)\/(j≠k/\l[j]?=some y):=by
 grind
theorem Bi.jh{A:Type}{I J:Nat->A->APH Value->Prop}:∀{lo:Nat} {xs:APH A} {cs:APH Value},(∀j x c,lo<=j->j<lo+xs.length->I j x c->J j x c)->Bi I lo xs cs->Bi J lo xs cs
 |_,[],_,_,h=>h
 |lo,_::xs,_,h,⟨c,d,e,r,l⟩=>⟨c,d,e,h _ _ _ (AMc _) (by simp) r,Bi.jh (λj x c h1 h2=>h j x c (by omega) (by grind)) l⟩
theorem Ys(H:Bf w g bs){k ek:Nat}{t u:Ty}{xs:APH t.V}(hb:bs[k]?=some (.row ek .Aw t xs)){i:Int}{p:APH Nat}{o:Nat}(hi:i.toNat<(g.AZ k).len){ys:APH u.V}
    (hg:iG (.sl u) p t (xs.getD i.toNat t.zero)=some ys) (ho:Lg t p=some o) (hu:u.size≠0) {b:Nat} (Nt:(g.AZ k).a=some ⟨b,0,none⟩) {v:Value} (hv:w.cell? ⟨b,i.toNat*(g.AZ k).lQ+o,none⟩=some v)
    {zs:APH u.V} {x':t.V} (hs:Ss (.sl u) zs p t (xs.getD i.toNat t.zero)=some x') :
    ∃g1,Bf w g1 ((Ba [k] bs).set k .A9++[.row 0 .Aw u ys])/\Step [k] bs.length w g w g1/\B4 w g1 (bs.length+1) (.AG bs.length) v /\
     (∀(w':World) (g2:G) (N:Nat) (e0:Nat),(∀b q,g1.own b=.BO k q->g2.own b=.BO k q/\w'.heap[b]?=w.heap[b]?)->(∀j,j<=bs.length->g2.AZ j=g1.AZ j) ->
      Mn w' g2 N bs.length (.row e0 .Aw u zs)->Mn w' (g2.dH bs.length k (UI p [i.toNat])) N k (.row ek .Aw t (xs.set i.toNat x'))) /\
     (zs=[]->tyP t p=some (.sl u)->0<=i->∀N,Mn w g1 N k (.QU ek t xs i p)):=by
 have o9:=A3 hb;obtain⟨QT,hlen,PE,BU,hr⟩:=H.LP k _ hb;have Bm:i.toNat<xs.length:=by rw[<-hlen];exact hi
 rcases hr with ⟨Zd,_⟩|⟨b',BA,ds,ha,Cs,⟨el,UF,hh⟩,PQ,vn,hc3,hc4,NQ⟩
 ·rw[Zd]at Bm;simp at Bm
 rw[Nt]at ha;injection ha with ha;injection ha with ha;subst ha;have NQ:Bi (λi=>Jo w g.own k t [i]) 0 xs ds:=NQ;obtain⟨c0,c,d,e1,iM,zk,hr0,kF⟩:=Bi.AZ (λi x c h=>Jo.len h) NQ Bm;rw[AMC]at zk kF;have hgd:xs.getD i.toNat t.zero=xs[i.toNat]:=by simp[List.getD,Bm]
 let P:=UI p [i.toNat]
 obtain⟨r0,hP⟩:=bk p [i.toNat];obtain⟨a0,a1,a2,e2,fJ,hys,ZK⟩:Aih w g.own k u zs P t [i.toNat] x' ys c o:=jm p t [i.toNat] (xs.getD i.toNat t.zero) x' c o ys hs hg ho (by rw[hgd];exact zk);have AGD:=hys;obtain⟨ad,cap,e3,NR⟩:=AGD;have hvh:v=.slice ad ys.length cap:=by
  rw[PI hh,<-AMk,PE]at hv;have hq:ds[i.toNat*t.size+o]?=some (.slice ad ys.length cap):=by
   rw[e1,e2,e3,AMe,AMs (by omega),iM];rw[show i.toNat*t.size+o-i.toNat*t.size=a0.length by omega];simp
  subst hc4;rw[AM9]at hq;split at hq
  ·rw[hv]at hq;injection hq
  ·cases hq
 let i1:BI:=⟨ad,ys.length,cap,u.size⟩
 let n:=bs.length
 let g1:=g.iq n k P i1
 have st:Step [k] n w g w g1:=jN;have UD:g1.AZ n=i1:=by simp[g1,G.iq]
 have kE:k≠n:=by simp only[n];omega
 have lX:((Ba [k] bs).set k Blk.A9++[Blk.row 0 .Aw u ys]).length=n+1:=by simp[AF,n]
 refine⟨g1,?_,st,?_,?_,?_⟩
 ·refine H.Z4 st (λb hb=>by simp[g1,G.iq,H.BZ b hb]) (by rw[lX];omega) λj x hj=>?_;rw[AMw]at hj;split at hj
  ·rcases RS hj with ⟨rfl,rfl⟩|⟨Nk,hj⟩
   ·exact .inl rfl
   ·obtain⟨y,hy,rfl⟩:=Dq hj;exact .inr (.inl ⟨by simpa using Nk,y,hy,rfl⟩)
  ·rename_i YC;simp only[AMf,AF]at hj YC;have lV:j-bs.length=0:=by
    rcases AMu (j-bs.length)with h |h
    ·exact h
    ·rw[AMK (by simp;omega)]at hj;cases hj
   rw[lV]at hj;obtain rfl:j=n:=by simp only[n];omega
   simp only[List.getElem?_cons_zero,AL8]at hj;subst hj;refine .inr (.inr ⟨λj hj=>(by cases hj),by rw[UD],by rw[UD],ANO hu,?_⟩);rw[UD];refine NR.imp id λ⟨b,el,BA,ds,q1,q2,q3,q4,q5,q6,q7,q8⟩=>⟨b,BA,ds,q1,Yr (q:=[]) (by simpa using q2),⟨el,.inl rfl,q3⟩,q4,q5,q6,q7,?_⟩;exact q8.mono λi x c r=>r.mono λb q hb=>⟨Yr (by simpa using hb),rfl⟩
 ·rw[hvh];exact Bs (cs:=[_]) rfl ⟨AMM _,by rw[UD]⟩ rfl
 ·intro w' g2 N e0 US ABV hB;obtain⟨_,zf,_,_,hr2⟩:=hB;have AFt:g2.AZ n=i1:=by rw[ABV n (AMc _),UD]
  rw[AFt]at zf hr2;have hzl:zs.length=ys.length:=zf.symm;have hz:Jo w' (g2.dH n k P).own k (.sl u) P zs a1:=by
   refine⟨ad,cap,by rw[e3,hzl],hr2.imp id λ⟨b,BA,ds,q1,q2,⟨el,_,q3⟩,q4,q5,q6,q7,q8⟩=>⟨b,el,BA,ds,q1,by simpa using yo (P:=P) (k:=k) q2,q3,q4,q5,q6,q7,?_⟩⟩;have q8:Bi (λi=>Jo w' g2.own n u [i]) 0 zs ds:=q8;exact q8.mono λi x c r=>r.mono λb q hb=>⟨by simpa using yo (P:=P) (k:=k) hb,rfl⟩
  have kj:Fr w g.own w' (g2.dH n k P).own k P:=λb q hb hn=>by
   have h1:=US b q (Wq hb λhc=>hn hc.2);exact⟨fC h1.1 kE,h1.2⟩
  have zb:=ZK w' _ _ kj hz;rw[<-e2]at zb;have wL:∀j,j≠i.toNat->∀{x:t.V} {c:APH Value},Jo w g.own k t [j] x c->Jo w' (g2.dH n k P).own k t [j] x c:=λj hj x c h=>sib kj (λq hq=>by
   rw[show P=r0++i.toNat::[]from hP]at hq;exact hj (qg (L:=[]) hq).symm) h
  have sM:=Bi.join Bm (Bi.jh (λj x c _ h2 h=>wL j (by rw[AMr]at h2;omega) h) hr0) (by rw[AMC];exact zb) (Bi.jh (λj x c h1 _ h=>wL j (by omega) h) (by rw[AMC];exact kF));have Q0:=kj b [] Cs (by
   rw[show P=r0++[i.toNat]from hP]
   rintro⟨s,hs⟩
   simp at hs)
  have Ra:(g2.dH n k P).AZ k=g.AZ k:=by
   show g2.AZ k=_;rw[ABV k (by omega)];simp[g1,G.iq,kE]
  refine⟨λj hj=>(by cases hj),by rw[Ra,AMf];exact hlen,by rw[Ra];exact PE,BU,.inr ⟨b,BA,ds,by rw[Ra];exact Nt,Q0.1,⟨el,UF,Q0.2.trans hh⟩,by rw[Ra,AMf];exact PQ,by rw[Ra];exact vn,by rw[Ra];exact hc3,by rw[AMf];exact hc4,?_⟩⟩;show Bi _ 0 _ ds;rw[e1];exact sM
 ·intro hz0 fM h0 N;subst hz0;have kj:Fr w g.own w g1.own k P:=λb q hb hn=>⟨Wq hb λhc=>hn hc.2,rfl⟩;have zb:=ZK w g1.own [.slice none 0 0] kj ⟨none,0,rfl,.inl ⟨rfl,rfl⟩⟩;have wL:∀j,j≠i.toNat->∀{x:t.V} {c:APH Value},Jo w g.own k t [j] x c->Jo w g1.own k t [j] x c:=λj hj x c h=>sib kj (λq hq=>by
   rw[show P=r0++i.toNat::[]from hP]at hq;exact hj (qg (L:=[]) hq).symm) h
  have sM:=Bi.join Bm (Bi.jh (λj x c _ h2 h=>wL j (by rw[AMr]at h2;omega) h) hr0) (by rw[AMC];exact zb) (Bi.jh (λj x c h1 _ h=>wL j (by omega) h) (by rw[AMC];exact kF));have Q0:=kj b [] Cs (by
   rw[show P=r0++[i.toNat]from hP]
   rintro⟨s,hs⟩
   simp at hs)
  have Ra:g1.AZ k=g.AZ k:=by simp[g1,G.iq,kE]
  refine⟨by rw[Ra];exact hlen,by rw[Ra];exact PE,BU,h0,Bm,u,o,x',b,BA,_,ho,fM,hs,by rw[Ra];exact Nt,Q0.1,⟨el,UF,hh⟩,by rw[Ra];exact PQ,by rw[Ra];exact vn,by rw[Ra];exact hc3,rfl,?_⟩;rw[Array.toList_setIfInBounds,List.take_set,hc4,e1,e2,e3];have:(c0++(a0++[Value.slice ad ys.length cap]++a2)++d).set (i.toNat*t.size+o) (.slice none 0 0)=c0++(a0++[.slice none 0 0]++a2)++d:=by
   rw[<-iM,<-fJ,AMe,AMe,AMe,ANs _ _ (by omega),ANs _ _ (by omega),show c0.length+a0.length-c0.length-a0.length=0 by omega];simp
  rw[this];exact sM
theorem Abp(H:Bf w g bs){k ek:Nat}{t u:Ty}{xs:APH t.V}(hb:bs[k]?=some (.row ek .Aw t xs)){i:Int}{p:APH Nat}{o:Nat}(hi:i.toNat<(g.AZ k).len){ys zs:APH u.V}{x':t.V}
    (hg:iG (.sl u) p t (xs.getD i.toNat t.zero)=some ys) (hs:Ss (.sl u) zs p t (xs.getD i.toNat t.zero)=some x') (ho:Lg t p=some o) {b:Nat} (Nt:(g.AZ k).a=some ⟨b,0,none⟩) :
    ∃ad c,w.cell? ⟨b,i.toNat*(g.AZ k).lQ+o,none⟩=some (.slice ad ys.length c):=by
 obtain⟨QT,hlen,PE,BU,hr⟩:=H.LP k _ hb;have Bm:i.toNat<xs.length:=by grind
 rcases hr with ⟨Zd,_⟩|⟨b',BA,ds,ha,Cs,⟨el,UF,hh⟩,PQ,vn,hc3,hc4,NQ⟩
 ·grind
 rw[Nt]at ha;injection ha with ha;injection ha with ha;subst ha;obtain⟨c0,c,d,e1,iM,zk,hr0,kF⟩:=Bi.AZ (λi x c h=>Jo.len h) NQ Bm;rw[AMC]at zk;have hgd:xs.getD i.toNat t.zero=xs[i.toNat]:=by grind
 obtain⟨a0,a1,a2,e2,fJ,⟨ad,cap,e3,_⟩,_⟩:=jm p t [i.toNat] (xs.getD i.toNat t.zero) x' c o ys hs hg ho (by rw[hgd];exact zk);refine⟨ad,cap,?_⟩;rw[PI hh,<-AMk,PE];have hq:ds[i.toNat*t.size+o]?=some (.slice ad ys.length cap):=by
  rw[e1,e2,e3,AMe,AMs (by omega),iM];rw[show i.toNat*t.size+o-i.toNat*t.size=a0.length by omega];simp
 grind
end
theorem jl:∀{l:APH AV} {j0 j k:Nat} {a:AV} {i:Int} {p:APH Nat} {o:Nat},tQ j0 l=some (j,a,k,i,p,o)->j0<=j/\l[j-j0]?=some a/\a.Qd=some (k,i,p,o)
 |[],_,_,_,_,_,_,_,h=>by simp[tQ]at h
 |b::r,j0,j,k,a,i,p,o,h=>by
  simp only[tQ]at h;split at h
  ·grind
  ·obtain⟨h1,h2,h3⟩:=jl h
   grind
theorem dn{w:World}{g:G}{n:Nat}:∀{a:AV} {cs:APH Value} {k:Nat} {i:Int} {p:APH Nat} {o:Nat},CG w g n false a cs->a.Qd=some (k,i,p,o) ->
    k<n/\0<=i/\i.toNat<(g.AZ k).len/\∃b v,(g.AZ k).a=some ⟨b,0,none⟩/\g.own b=.BO k []/\w.cell? ⟨b,i.toNat*(g.AZ k).lQ+o,none⟩=some v
 |.TA k i p o e,cs,_,_,_,_,⟨hk,h0,h1,b,v,ha,ho,e1,e2,hc⟩,h=>by
  obtain⟨rfl,rfl,rfl,rfl⟩:=h
  grind
 |.pr a b,cs,k,i,p,o,⟨c,d,e,h1,h2⟩,h=>by
  simp only[AV.Qd]at h;split at h
  ·rename_i z hz;injection h with h;subst h;exact dn h1 hz
  ·exact dn h2 h
 |.AB _ _ _,_,_,_,_,_,_,h=>by simp[AV.Qd]at h
 |.zs,_,_,_,_,_,_,h=>by simp[AV.Qd]at h
 |.AG _,_,_,_,_,_,_,h=>by simp[AV.Qd]at h
 |.mp _,_,_,_,_,_,_,h=>by simp[AV.Qd]at h
 |.ptr _ _ _ _,_,_,_,_,_,_,h=>by simp[AV.Qd]at h
 |.Fv _ _ _,_,_,_,_,_,_,h=>by simp[AV.Qd]at h
 |.JU,_,_,_,_,_,_,h=>by simp[AV.Qd]at h
 |.fn _ _,_,_,_,_,_,_,h=>by simp[AV.Qd]at h
 |.un _,_,_,_,_,_,_,h=>by simp[AV.Qd]at h
 |.cons _ _,_,_,_,_,_,h,_=>h.elim
 |.nil,_,_,_,_,_,h,_=>h.elim
theorem xh{a:AV}{z:Nat×Int×APH Nat×Nat}(h:a.Qd=some z)(N:Nat):a.Dj=false/\a.NC=false/\(a.ZQ N).Dj=false/\(a.ZQ N).isAgg=a.isAgg:=by
 cases a with
 |TA k i p o e=>exact⟨rfl,rfl,rfl,rfl⟩
 |pr a b =>
  refine⟨rfl,rfl,?_,?_⟩
  ·simp only[AV.ZQ];split<;>rfl
  ·simp only[AV.ZQ];split<;>rfl
 |_=>simp[AV.Qd]at h
theorem pY{w:World}{g g1:G}{n N k:Nat}(st:Step [k] n w g w g1){i:Int}{p:APH Nat}{o:Nat}{v b:_}(Nt:(g.AZ k).a=some ⟨b,0,none⟩)(hc:w.cell? ⟨b,i.toNat*(g.AZ k).lQ+o,none⟩=some v)(hr:CG w g1 (n+1) false (.AG N) [v]) :
    ∀{a:AV} {cs:APH Value},CG w g n false a cs->a.Qd=some (k,i,p,o)->(∀q∈(a.ZQ N).Ct,[k].contains q=false)->CG w g1 (n+1) false (a.ZQ N) cs
 |.TA _ _ _ _ _,cs,⟨_,_,_,b',v',ha,_,e1,_,hc'⟩,h,_=>by
  obtain⟨rfl,rfl,rfl,rfl⟩:=h;rw[Nt]at ha;injection ha with ha;injection ha with ha;subst ha;rw[hc]at hc';injection hc' with hc';subst hc';rw[e1];exact hr
 |.pr a b,cs,⟨c,d,e,h1,h2⟩,h,hq=>by
  simp only[AV.Qd]at h;simp only[AV.ZQ]at hq⊢;split at h
  ·rename_i z hz;injection h with h;subst h;rw[hz]at hq;refine⟨c,d,e,pY st Nt hc hr h1 hz λq sY=>hq q (by simp[AV.Ct,sY]),?_⟩;have:=CG.step st (AMH n) b _ h2;rwa [NN λq sY=>hq q (by simp[AV.Ct,sY])]at this
  ·rename_i hz;rw[hz]at hq;refine⟨c,d,e,?_,pY st Nt hc hr h2 h λq sY=>hq q (by simp[AV.Ct,sY])⟩;have:=CG.step st (AMH n) a _ h1;rwa [NN λq sY=>hq q (by simp[AV.Ct,sY])]at this
 |.AB _ _ _,_,_,h,_=>by simp[AV.Qd]at h
 |.zs,_,_,h,_=>by simp[AV.Qd]at h
 |.AG _,_,_,h,_=>by simp[AV.Qd]at h
 |.mp _,_,_,h,_=>by simp[AV.Qd]at h
 |.ptr _ _ _ _,_,_,h,_=>by simp[AV.Qd]at h
 |.Fv _ _ _,_,_,h,_=>by simp[AV.Qd]at h
 |.JU,_,_,h,_=>by simp[AV.Qd]at h
 |.fn _ _,_,_,h,_=>by simp[AV.Qd]at h
 |.un _,_,_,h,_=>by simp[AV.Qd]at h
 |.cons _ _,_,h,_,_=>h.elim
 |.nil,_,h,_,_=>h.elim
theorem rr{w:World}{g:G}{n:Nat}:∀{l:APH AV} {vs:APH Value} {j:Nat} {a:AV},Dz w g n l vs->l[j]?=some a->∃v,vs[j]?=some v/\B4 w g n a v
 |_::_,v::_,0,_,h,hx=>by simp at hx;subst hx;exact⟨v,rfl,h.1⟩
 |_::_,_::_,j+1,_,h,hx=>by
  obtain⟨v,hv,hr⟩:=rr  h.2 (by simpa using hx)
  grind
 |[],[],_,_,_,hx=>by grind
 |[],_::_,_,_,h,_=>h.elim
 |_::_,[],_,_,h,_=>h.elim
theorem lB{w:World}{g g1:G}{n n1:Nat}{a1:AV}:∀{l:APH AV} {vs:APH Value} {j:Nat} {v:Value},Dz w g n l vs->vs[j]?=some v->B4 w g1 n1 a1 v->(∀a∈l.set j (.un 1),∀v,B4 w g n a v->B4 w g1 n1 a v)->Dz w g1 n1 (l.set j a1) vs
 |a::l,v0::vs,0,v,h,hv,hx,ht=>by
  simp at hv;subst hv;refine⟨hx,?_⟩;have key:∀{l:APH AV} {vs:APH _},(∀a∈l,∀v,B4 w g n a v->B4 w g1 n1 a v)->Dz w g n l vs->Dz w g1 n1 l vs:=by
   intro l;induction l with
   |nil=>intro vs _ h;cases vs with
    |nil=>trivial
    |cons _ _=>exact h.elim
   |cons a l ih=>intro vs ht h;cases vs with
    |nil=>exact h.elim
    |cons v vs=>exact⟨ht a (by simp) v h.1,ih (λa ha=>ht a (by grind)) h.2⟩
  exact key (λa ha=>ht a (by grind)) h.2
 |a::l,v0::vs,j+1,v,h,hv,hx,ht=>⟨ht a (by simp) v0 h.1,lB h.2 (by grind) hx λa ha=>ht a (by grind)⟩
 |[],[],_,_,_,hv,_,_=>by grind
 |[],_::_,_,_,h,_,_,_=>h.elim
 |_::_,[],_,_,h,_,_,_=>h.elim
theorem AaA{P:Program}{f:FuncId}{c:Callee}(hc:Aq P f c){bs:APH Blk}{args:APH AV}{e:HO}(h:gU c bs args some=some e) :
    bs.length<=e.Aj.length/\(e.Bz=[]->∃l,e.Aj=bs++l)/\∀(w:World) (g:G) (vs:APH Value),Bf w g bs->Dz w g bs.length args vs->∀(o:Oper) (a:Act) (next:Act->World->Prop) (Q:Exit->Act->World->Prop),
     (∀v w' g',Bf w' g' e.Aj->B4 w' g' e.Aj.length e.val v->Step e.Bz bs.length w g w' g'->next (a.put o.dst v) w')->o.upon P a next Q ((callFunc f vs.toArray).run P w):=by
 unfold gU at h;split at h
 ·exact lF hc h
 ·rename_i j a0 k i p of hix;split at h
  ·rename_i ek t xs hb;split at h
   ·rename_i u fM;split at h
    ·rename_i ys hg;split at h
     ·rename_i sH;obtain⟨pg,hu,wK⟩:=sH;rw[cG c hc.Zj]at h;cases hx:XC c ((Ba [k] bs).set k Blk.A9++[Blk.row 0 .Aw u ys]) (args.set j (a0.ZQ bs.length)) some with
      |none=>grind
      |some e0 =>
       rw[hx]at h;simp only[AL6]at h;split at h
       ·grind
       ·rename_i pe;split at h
        ·rename_i e1 u' zs' hn0;split at h
         ·rename_i zs sG;split at h
          ·rename_i x' Hu;injection h with h;subst h;obtain⟨ec,hec⟩:=BJ sG;injection ec with ec;have ec:=ec.symm;subst ec;subst hec;obtain⟨hlen,_,AB1⟩:=lF hc hx;have wO:((Ba [k] bs).set k Blk.A9++[Blk.row 0 .Aw u ys]).length=bs.length+1:=by simp[AF]
           have Asl:k∉e0.Bz:=by grind
           refine⟨by simp only[AMf,AF];omega,λhm=>by simp at hm,λw g vs H y8 o a next Q hn=>?_⟩
           obtain⟨_,Asr,hG⟩:=jl hix;rw[Nat.sub_zero]at Asr;obtain⟨v,hvj,y9⟩:=rr y8 Asr;obtain⟨pl1,pl2,pl3,pl4⟩:=xh hG bs.length;obtain⟨cs,SI,hval⟩:=B3 pl1 pl2 y9;obtain⟨_,h0,hi,b,v',Nt,Cs,DF⟩:=dn SI hG;obtain⟨g1,H1,Q4,AaZ,ZK,_⟩:=Ys H hb hi hg pg hu Nt DF Hu;have ACw:∀a∈args.set j (a0.ZQ bs.length),∀q∈a.Ct,[k].contains q=false:=λa ha q hq=>by
            grind
           have cw:=A3 Asr;have ACB:B4 w g1 (bs.length+1) (a0.ZQ bs.length) v:=by
            obtain⟨cs1,Ar1,fO⟩:=B3 rfl rfl AaZ;have e1:cs1=[v']:=fO;subst e1;exact Bs pl3 (pY Q4 Nt DF Ar1 SI hG (ACw _ (ANt (i:=j) (by grind)))) (by grind)
           have AFs:Dz w g1 (bs.length+1) (args.set j (a0.ZQ bs.length)) vs:=lB y8 hvj ACB λa ha v h=>by
            obtain⟨q,hq⟩:=List.getElem?_of_mem ha;rcases RS hq with ⟨rfl,rfl⟩|⟨Nk,sY⟩
            ·exact QK
            ·have:=h.step Q4 (AMH _);rwa [NN (ACw a (ANt (i:=q) (by grind)))]at this
           refine AB1 w g1 vs H1 (by grind) o a next Q λv2 w2 g2 H2 hv2 O7=>?_
           let N:=e0.Aj.length
           have lW:(((Ba [k,bs.length] e0.Aj).set bs.length Blk.A9).set k (.row ek .Aw t (xs.set i.toNat x'))).length=N:=by simp[AF,N]
           have stA:Step [bs.length,k] N w2 g2 w2 (g2.dH bs.length k (UI p [i.toNat])):=uD;have Akr:Step [k,bs.length] N w2 g2 w2 (g2.dH bs.length k (UI p [i.toNat])):=stA.weaken (λq hq=>by simp at hq⊢;exact hq.symm) (AMc _);have Afu:Mn w2 (g2.dH bs.length k (UI p [i.toNat])) N k (.row ek .Aw t (xs.set i.toNat x')):=by
            refine ZK w2 g2 N e1 (λb q hb=>O7.BO b k q hb (by omega) Asl) (λj hj=>O7.AZ j (by omega)) (H2.LP bs.length _ hn0)
           refine hn v2 w2 (g2.dH bs.length k (UI p [i.toNat])) ?_ ?_ ?_
           ·refine H2.Z4 Akr (λb hb=>by simp[G.dH,H2.BZ b hb]) (by rw[lW];exact AMc _) λj' y QZ=>?_;rw[lW];rcases RS QZ with ⟨rfl,rfl⟩|⟨Nk,QZ⟩
            ·exact .inr (.inr Afu)
            ·rcases RS QZ with ⟨rfl,rfl⟩|⟨Asp,QZ⟩
             ·exact .inl rfl
             ·obtain⟨y',fQ,rfl⟩:=Dq QZ;exact .inr (.inl ⟨by simp only[ANH,AOd,or_false,not_or];exact⟨Nk,Asp⟩,y',fQ,rfl⟩)
           ·rw[lW];exact hv2.step Akr (AMc _)
           ·refine⟨O7.os.trans Q4.os,O7.tape.trans Q4.tape,O7.output.trans Q4.output,O7.size,λb hb h=>?_,λb h=>?_,λb j' q h QZ hm=>?_,λj' QZ=>?_⟩
            ·have h1:=Q4.no b hb h;have h2:=O7.no b hb h1.1;exact⟨by simp[G.dH,h2.1],h2.2⟩
            ·have h1:=Q4.Ir b h;have h2:=O7.Ir b h1.1;exact⟨by simp[G.dH,h2.1],h2.2⟩
            ·simp only[ANr,not_or]at hm;have h1:=Q4.BO b j' q h QZ (by simpa using hm.2);have h2:=O7.BO b j' q h1.1 (by omega) hm.1;exact⟨fC h2.1 (by omega),h2.2⟩
            ·show g2.AZ j'=_;rw[O7.AZ j' (by omega),Q4.AZ j' QZ]
          ·grind
         ·grind
        ·cases h
     ·grind
    ·cases h
   ·grind
  ·cases h
section
variable {w:World} {g:G} {n:Nat}
def G.WQ(g:G)(Z:APH Nat):G:=⟨λb=>match g.own b with |.BO k r=>if k∈Z then .Ir else .BO k r |t=>t,g.AZ⟩
theorem oX{Z:APH Nat}{b:Nat}(h:g.own b=.Ir):(g.WQ Z).own b=.Ir:=by simp[G.WQ,h]
theorem PO{Z:APH Nat}{b k:Nat}{r:APH Nat}(h:g.own b=.BO k r)(hk:k∉Z):(g.WQ Z).own b=.BO k r:=by simp[G.WQ,h,hk]
theorem Al.RF{Z ks:APH Nat}{b:Nat}(h:Al g.own ks b):Al (g.WQ Z).own (ks.filter λk=>!decide (k∈Z)) b:=by
 rcases h with h |⟨k,hk,r,h⟩
 ·exact .inl (oX h)
 ·by_cases hz:k∈Z
  ·exact .inl (by simp[G.WQ,h,hz])
  ·exact .inr ⟨k,by simp[hk,hz],r,PO h hz⟩
theorem Al.AeT{Z ks:APH Nat}{b:Nat}(h:Al g.own ks b):Al (g.WQ Z).own ks b:=h.RF.mono λk hk=>(List.mem_filter.1 hk).1
theorem Abq(a:AV):a.ae.Dj=a.Dj:=by cases a<;>rfl
theorem mF(a:AV):a.ae.NC=true\/a.ae.isAgg=a.isAgg:=by cases a<;>first |exact .inl rfl |exact .inr rfl
theorem Af6{a:AV}(h:a.NC=true):a.ae.NC=true:=by cases a<;>simp_all [AV.NC,AV.ae]
theorem CG.RF(Z:APH Nat):∀(a:AV) (m:Bool) {cs:APH Value},CG w g n m a cs->CG w (g.WQ Z) n m a.ae cs
 |.AB ks t x,false,cs,⟨hk,r⟩=>⟨hk,r.mono λb a=>⟨a.AeT,rfl⟩⟩
 |.zs,false,_,h=>h
 |.AG _,false,_,h=>h
 |.mp _,false,_,h=>h
 |.ptr _ _ _ _,false,_,h=>h
 |.Fv ks t x,false,cs,⟨hk,b,off,ds,e,ha,r,hc⟩=>⟨hk,b,off,ds,e,ha.AeT,r.mono λb a=>⟨a.AeT,rfl⟩,hc⟩
 |.JU,false,_,h=>h
 |.TA _ _ _ _ _,false,_,⟨_,_,_,_,_,_,_,e,h1,_⟩=>by subst e;exact⟨rfl,by intro u hu;simp at hu;subst hu;exact h1⟩
 |.Vs _ _ _ _ _ _,false,_,⟨_,_,_,_,_,_,_,_,_,e,_⟩=>by subst e;exact⟨rfl,by intro u hu;simp at hu;subst hu;rfl⟩
 |.pr a b,false,_,⟨c,e,he,h1,h2⟩=>⟨c,e,he,CG.RF Z a false h1,CG.RF Z b false h2⟩
 |.fn f c,false,_,⟨vs,e,hx⟩=>⟨vs,e,CG.RF Z c true hx⟩
 |.un k,false,_,h=>h
 |.cons a b,true,_,⟨v,r,e,h1,h2⟩=>by
  refine⟨v,r,e,?_,CG.RF Z b true h2⟩;rcases mF a with hd |hd
  ·exact .inl hd
  ·exact h1.imp Af6 λ⟨cs,hx,hv⟩=>⟨cs,CG.RF Z a false hx,by rw[hd];exact hv⟩
 |.nil,true,_,h=>h
 |.cons _ _,false,_,h=>h.elim
 |.nil,false,_,h=>h.elim
 |.TA _ _ _ _ _,true,_,h=>h.elim
 |.Vs _ _ _ _ _ _,true,_,h=>h.elim
 |.AB _ _ _,true,_,h=>h.elim
 |.zs,true,_,h=>h.elim
 |.AG _,true,_,h=>h.elim
 |.mp _,true,_,h=>h.elim
 |.ptr _ _ _ _,true,_,h=>h.elim
 |.Fv _ _ _,true,_,h=>h.elim
 |.JU,true,_,h=>h.elim
 |.pr _ _,true,_,h=>h.elim
 |.fn _ _,true,_,h=>h.elim
 |.un _,true,_,h=>h.elim
theorem B4.RF(Z:APH Nat){a:AV}{v:Value}(h:B4 w g n a v):B4 w (g.WQ Z) n a.ae v:=by
 cases ht:a.Dj with
 |false =>
  rw[B4.iff ht]at h;rw[B4.iff (by rw[Abq];exact ht)];rcases mF a with hd |hd
  ·exact .inl hd
  ·exact h.imp Af6 λ⟨cs,h,hv⟩=>⟨cs,CG.RF Z a false h,by rw[hd];exact hv⟩
 |true =>
  cases a with
  |cons a b=>obtain⟨vs,e,h⟩:=h;exact⟨vs,e,CG.RF Z (.cons a b) true h⟩
  |nil=>exact h
  |_=>cases ht
theorem Mn.RF{Z:APH Nat}{k:Nat}(hk:k∉Z){b:Blk}(h:Mn w g n k b):Mn w (g.WQ Z) n k b.ae:=by
 cases b with
 |A9=>trivial
 |map m kt vt es st =>
  obtain⟨QT,b,He,DC,ha,ho,hh,RH,hm⟩:=h;refine⟨QT,b,He,DC,ha,PO ho hk,hh,RH,hm.on λi x c r=>?_⟩;cases m with
  |Aw=>exact Jo.mono (λb q hb=>⟨PO hb hk,rfl⟩) r
  |sh ks=>exact HE.mono (λb a=>⟨a.AeT,rfl⟩) r
 |QU e t xs i p =>
  obtain⟨h1,h2,h3,h4,h5,u,o,x0,b,BA,ds,q1,q2,q3,ha,ho,hh,c1,c2,c3,c4,hc⟩:=h;exact⟨h1,h2,h3,h4,h5,u,o,x0,b,BA,ds,q1,q2,q3,ha,PO ho hk,hh,c1,c2,c3,c4,hc.mono λi x c r=>r.mono λb q hb=>⟨PO hb hk,rfl⟩⟩
 |tail e t xs =>
  obtain⟨hf,hlen,PE,BU,hr⟩:=h;exact⟨hf,hlen,PE,BU,hr.imp id λ⟨b,o,BA,ds,ha,ho,hh,h1,h2,h3,h4,hc⟩=>⟨b,o,BA,ds,ha,PO ho hk,hh,h1,h2,h3,h4,hc.mono λi x c r=>r.mono λb q hb=>⟨PO hb hk,rfl⟩⟩⟩
 |box a =>
  obtain⟨h1,b,cs,e,ha,ho,hh,hx⟩:=h;exact⟨h1,b,cs,e,ha,PO ho hk,hh,CG.RF Z a false hx⟩
 |row e m t xs =>
  obtain⟨QT,hlen,PE,BU,hr⟩:=h;refine⟨QT,hlen,PE,BU,hr.imp id λ⟨b,BA,ds,ha,ho,hh,h1,h2,h3,h4,hc⟩=>⟨b,BA,ds,ha,PO ho hk,hh,h1,h2,h3,h4,?_⟩⟩;cases m with
  |Aw=>exact hc.mono λi x c r=>r.mono λb q hb=>⟨PO hb hk,rfl⟩
  |sh ks=>exact hc.mono λx c r=>r.mono λb a=>⟨a.AeT,rfl⟩
theorem sx{bs:APH Blk}(H:Bf w g bs)(Z:APH Nat):Bf w (g.WQ Z) ((Blk.GF bs Z).map Blk.ae):=by
 refine⟨λb hb=>by simp[G.WQ,H.BZ b hb],λk x hx=>?_⟩;rw[AMz]at hx;cases hq:(Blk.GF bs Z)[k]? with
 |none=>rw[hq]at hx;cases hx
 |some y =>
  rw[hq]at hx;injection hx with hx;subst hx;rw[AMi,A7];rcases Ks hq with rfl |⟨hn,h⟩
  ·trivial
  ·exact(H.LP k y h).RF hn
theorem VW:∀a:AV,a.cT=false->a.ae=a
 |.pr a b,h=>by
  simp only[AV.cT,AM8]at h;simp[AV.ae,VW a h.1,VW b h.2]
 |.cons a b,h=>by
  simp only[AV.cT,AM8]at h;simp[AV.ae,VW a h.1,VW b h.2]
 |.fn f c,h=>by simp[AV.ae,VW c h]
 |.AB _ _ _,_=>rfl
 |.zs,_=>rfl
 |.AG _,_=>rfl
 |.mp _,_=>rfl
 |.ptr _ _ _ _,_=>rfl
 |.Fv _ _ _,_=>rfl
 |.JU,_=>rfl
 |.nil,_=>rfl
 |.TA _ _ _ _ _,h=>by cases h
 |.Vs _ _ _ _ _ _,h=>by cases h
 |.un _,_=>rfl
theorem Ae3{b:Blk}(h:b.cT=false):b.ae=b:=by
 cases b with
 |box a=>simp[Blk.ae,VW a h]
 |_=>rfl
theorem AaT{bs:APH Blk}(H:Bf w g bs)(hn:bs.all (λb=>!b.cT)=true)(Z:APH Nat):Bf w (g.WQ Z) (Blk.GF bs Z):=by
 have:=sx H Z;rwa [AMV (g:=id) (λb hb=>?_),List.map_id]at this;obtain⟨j,hj⟩:=List.getElem?_of_mem hb;rcases Ks hj with h |⟨_,h⟩
 ·subst h;rfl
 ·have:=List.all_eq_true.1 hn b (ANt h);exact Ae3 (by simpa using this)
theorem tB:∀(Z:APH Nat) (a b:APH Blk),(∀k∈Z,a.length<=k)->∃l,Blk.GF (a++b) Z=a++l
 |[],a,b,_=>⟨b,rfl⟩
 |k::Z,a,b,h=>by
  have hk:=h k (by simp);simp only[Blk.GF];rw[ANs _ _ hk];exact tB Z a _ λj hj=>h j (by simp[hj])
end
section
variable {w:World} {g:G} {n:Nat} {v:Value}
end
section
variable {w:World} {g:G} {bs:APH Blk} {m:Nat}
theorem Ajy{a b:AV}{f:Nat}(h:a.Z6 f=some b):a.isAgg=true:=by
 cases a with
 |AB ks t x =>
  cases t<;>first |rfl |(cases f<;>simp[AV.Z6,Xl]at h)
 |pr _ _=>rfl
 |_=>cases f<;>simp[AV.Z6]at h
theorem wx(H:Bf w g bs){c:Co}{a a':AV}{nb:APH Blk}(h:coV bs c a=some (a',nb)){cs:APH Value}(hx:CG w g bs.length false a cs) :
    ∃g',Bf w g' (bs++nb)/\CG w g' (bs++nb).length false a' cs/\a'.isAgg=a.isAgg/\Step [] bs.length w g w g':=by
 have stay:∀a':AV,CG w g bs.length false a' cs->a'.isAgg=a.isAgg->∃g',Bf w g' (bs++[])/\CG w g' (bs++[]).length false a' cs/\a'.isAgg=a.isAgg/\Step [] bs.length w g w g':=λa' h1 h2=>⟨g,by grind,by grind,h2,Step.refl _ _ _ _⟩;cases c with
 |AB t =>
  simp only[coV]at h;split at h
  ·rename_i x hr;obtain⟨rfl,rfl⟩:=h;have:=Qe H t a x cs hr hx;exact stay _ ⟨this.2,this.1⟩ (ZR hr).symm
  ·grind
 |fb ks =>
  simp only[coV]at h;split at h
  ·split at h
   ·rename_i hc;obtain⟨rfl,rfl⟩:=h;rw[AMd,ANp]at hc;have hks:∀k∈ks,k<bs.length:=λk hk=>by grind
    refine stay _ ⟨hks,AlQ hx.2 λhf b hb=>?_⟩ rfl;rcases hc.1 with h |h
    ·grind
    ·exact hb.mono λk hk=>by grind
   ·grind
  ·grind
 |row p e t Aw =>
  simp only[coV]at h;split at h
  ·rename_i hz;split at h
   ·rename_i NR;split at h
    ·rename_i b hb;simp only[AL8,AMj]at h;obtain⟨rfl,rfl⟩:=h;obtain⟨_,BU⟩:=jC NR;obtain⟨c0,c1,c2,e1,ho,⟨ad,PQ⟩,_⟩:=Rm p a cs .zs hx hz
     let g':=g.UE (λj r=>.BO j r) none bs.length ⟨ad,0,0,t.size⟩
     have st:Step [] bs.length w g w g':=Step.UE H.BZ rfl rfl rfl (AMc _) (λ_ _ _=>rfl) (λq h=>by grind) (AMc _) λ_ _ _ _=>rfl;have UD:g'.AZ bs.length=⟨ad,0,0,t.size⟩:=by simp[g',G.UE]
     have tf:=hx.QJ st (AMH bs.length);obtain⟨d0,d1,d2,e2,zj,⟨vg,kD⟩,Hu⟩:=Rm p a cs .zs tf hz;have hlen:c0.length=d0.length:=by grind
     have y7:ad=vg:=by
      have h1:cs[c0.length]?=some (.slice ad 0 0):=by
       grind
      grind
     have aZ:=Hu (.AG bs.length) b d1 hb ⟨AMM _,by grind⟩;rw[<-e2]at aZ;have QS:(if(t.BP||Aw)=true then RM.Aw else RM.sh []).Ct=[]:=by split<;>rfl
     refine⟨g',H.push st (Mu H.BZ (AMc _) λq h=>by grind) ⟨(by rw[QS];intro j hj;cases hj),by grind,by rw[UD],BU,.inl ⟨rfl,by rw[UD]⟩⟩,by rw[AMa];exact aZ,?_,st⟩;cases p with
     |nil =>
      simp only[AV.Vj,AL8]at hz;simp only[AV.ZX,AL8]at hb;subst hz;subst hb;rfl
     |cons f p =>
      simp only[AV.Vj]at hz;split at hz
      ·rename_i q hq;simp only[AV.ZX,hq]at hb;split at hb
       ·rw[ZW hb,Ajy hq]
       ·cases hb
      ·cases hz
    ·cases h
   ·cases h
  ·obtain⟨rfl,rfl⟩:=h;exact stay _ hx rfl
theorem fF{k:Nat}{c:Co}{bs Ga:APH Blk}(h:coB k c bs=some Ga):bs.length<=Ga.length:=by
 unfold coB at h
 grind
theorem Aex(H:Bf w g bs){k:Nat}{c:Co}{Ga:APH Blk}(h:coB k c bs=some Ga):∃g',Bf w g' Ga/\Step [] bs.length w g w g':=by
 unfold coB at h;split at h
 ·rename_i a0 hb;split at h
  ·rename_i a' nb hco;injection h with h;subst h;obtain⟨hlen,bb,cs,e,ha,ho,hh,hx⟩:=H.LP k _ hb;obtain⟨g',h1,h2,h3,h4⟩:=wx H hco hx;have hk:=A3 hb;have fK:(bs.set k (.box a')++nb).length=(bs++nb).length:=by simp
   refine⟨g',⟨h1.BZ,λj x hj=>?_⟩,h4⟩;rw[fK];rw[AMw]at hj;split at hj
   ·rename_i cw;rw[AMf]at cw;rw[AMv]at hj;split at hj
    ·rename_i ek;subst ek;injection hj with hj;subst hj;have hl:=h4.BO bb k [] ho hk (by simp);exact⟨by rw[h4.AZ k hk];exact hlen,bb,cs,e,by rw[h4.AZ k hk];exact ha,hl.1,hh,h2⟩
    ·exact h1.LP j x (by grind)
   ·rename_i cw;rw[AMf]at cw hj;exact h1.LP j x (by grind)
  ·grind
 ·grind
theorem yQ:∀{l:APH (Nat×Co)} {bs Ga:APH Blk} {g:G},oP l bs=some Ga->Bf w g bs->bs.length<=Ga.length/\∃g',Bf w g' Ga/\Step [] bs.length w g w g'
 |[],bs,Ga,g,h,H=>by
  simp only[oP,AL8]at h;subst h;exact⟨AMc _,g,H,Step.refl _ _ _ _⟩
 |(k,c)::r,bs,Ga,g,h,H=>by
  simp only[oP]at h;split at h
  ·rename_i b1 h1;obtain⟨g1,H1,s1⟩:=Aex H h1;obtain⟨hl,g2,H2,s2⟩:=yQ h H1;exact⟨AMA (fF h1) hl,g2,H2,s1.trans s2 (fF h1)⟩
  ·grind
theorem sc:∀{l:APH (Nat×Co)} {bs Ga:APH Blk},oP l bs=some Ga->bs.length<=Ga.length
 |[],bs,Ga,h=>by simp only[oP,AL8]at h;subst h;exact AMc _
 |(k,c)::r,bs,Ga,h=>by
  simp only[oP]at h;split at h
  ·rename_i b1 h1;exact AMA (fF h1) (sc h)
  ·grind
theorem tX:∀{l:APH (Nat×APH (APH Nat)×Co)} {args:APH AV} {bs Ga:APH Blk},preB l args bs=some Ga->∃l',oP l' bs=some Ga
 |[],args,bs,Ga,h=>⟨[],h⟩
 |(j,q,c)::r,args,bs,Ga,h=>by
  simp only[preB]at h;split at h
  ·split at h
   ·rename_i k _;split at h
    ·rename_i b1 h1;obtain⟨l',h2⟩:=tX h;exact⟨(k,c)::l',by simp only[oP,h1];exact h2⟩
    ·grind
   ·grind
  ·grind
end
section
variable {P:Program} {σ:St} {o:Oper} {en:Gx} {e:HO}
theorem AbL{c:Call}(ho:o.op=.call c)(hc:c.callee=.builtin .cap)(hx:O2 σ c.args=[.zs]){t:TypeId}{r:APH TypeId}(Zc:c.argTypes.toList=t::r){ti:TI}(ht:ES P t ti)(hs:ti.Eh=true):Nr P σ o ⟨.int .i64 0,σ.Aj,[]⟩:=by
 obtain⟨a0,ha,Zd⟩:=Adf hx;refine .Is <| Lh (s:=λρ=>Builtin.cap_ c.argTypes o.type #[ρ a0]) (λρ=>?_) λa w g BH=>?_
 ·rw[Jw ho hc,ha];simp[builtin]
 ·have W6:=AQ BH a0;rw[Zd]at W6;obtain⟨ad,hv⟩:=Xy W6;have h0:c.argTypes[0]?=some t:=by rw[<-AMk,Zc];rfl
  exact B7 (by rw[hv];simp[Builtin.cap_,h0,underlying,Bw ht hs,goInt])
end
section
variable {P:Program} {σ:St} {o:Oper} {en:Gx} {e:HO}
theorem AbR{t:TypeId}{x:Operand}(ho:o.op=.load t x){ti:TI}(ht:ES P t ti)(Iw:ti.Eh=true)(h:Z0 σ.Aj ti (σ.Ci x) some=some e):Nr P σ o e:=by
 unfold Z0 at h;split at h
 ·rename_i k i p f hx;split at h
  ·rename_i el tr xs hb;split at h
   ·rename_i u fM;split at h
    ·rename_i ys x0 hg hs;split at h
     ·rename_i hc;injection h with h;subst h;obtain⟨hti,pg,hu⟩:=hc;refine⟨by simp[AF],λh=>(by grind),λa w g BH next Q hn=>?_⟩
      have W6:=AQ BH x;rw[hx]at W6;obtain⟨hk,h0,h1,b,Nt,hpe⟩:=K1 W6;obtain⟨ad,c,DF⟩:=Abp BH.heap hb h1 hg hs pg Nt;obtain⟨g1,H1,Q4,AaZ,_,AIe⟩:=Ys BH.heap hb h1 hg pg hu Nt DF hs;have D8:(execOp a.eval o).run P w=.ok (.value (.slice ad ys.length c)) w:=by
       have hl:=Sm (P:=P) (w:=w) ht (b:=b) (off:=i.toNat*(g.AZ k).lQ+f) (cs:=[.slice ad ys.length c]) (by rw[hti];rfl) (λj v hv=>by
        grind) (λ_=>rfl)
       obtain⟨v,hv,qT⟩:=hl;rw[hti]at qT;have:[Value.slice ad ys.length c]=[v]:=qT;injection this with h2 _;subst h2;simp[execOp,ho,hpe,Instr.loadAt,Instr.sureAddr,hv]
      unfold Oper.wp;rw[D8];have UG:((Ba [k] σ.Aj).set k (Blk.QU el tr xs i p)++[Blk.row 0 .Aw u ys]).length=σ.Aj.length+1:=by simp[AF]
      refine hn _ w g1 ⟨H1.BZ,λj y hj=>?_⟩ (by grind) Q4;rw[UG];have wO:((Ba [k] σ.Aj).set k Blk.A9++[Blk.row 0 .Aw u ys]).length=σ.Aj.length+1:=by grind
      by_cases kl:j=k
      ·grind
      ·have:=H1.LP j y (by
         grind)
       rwa [wO]at this
     ·grind
    ·grind
   ·grind
  ·grind
 ·grind
structure j9 (P:Program) (Zh:TypeId) (kt:Ty):Prop where
 check:∀(w:World) (em:Bool) (x:kt.V),(Instr.checkKey em 10000 Zh (Fc kt x)).run P w=.ok () w
 find:∀(w:World) (x:kt.V) (ks:List kt.V) (ms:List MapEntry),ms.map (·.key)=ks.map (Fc kt) ->
  (∀j:Nat,(∀i,i<j->∀y,ks[i]?=some y->Bd kt x y=false)->(∀y,ks[j]?=some y->Bd kt x y=true)->(Instr.findKey Zh (Fc kt x) ms).run P w=.ok (if h:j<ms.length then some (j,ms[j].val)else none) w)
 stays:∀(w:World) (x:kt.V),(Instr.keyThatStays (Fc kt x) (Fc kt x)).run P w=.ok (Fc kt x) w
 eq:∀x y:kt.V,Bd kt x y=true->x=y
theorem Z1{s t:ByteArray}:Iu s t=true↔s=t:=by
 unfold Iu;rw[ByteArray.toList_eq,ByteArray.toList_eq,ANf];constructor
 ·intro h;cases s with
  |mk a=>cases t with
   |mk b=>simp at h;rw[h]
 ·grind
theorem Ala{s t:ByteArray}:(s==t)=true↔s=t:=by
 constructor
 ·intro h;have:(s.data==t.data)=true:=h;cases s;simp at this;rw[this]
 ·rintro rfl
  show(s.data==s.data)=true;simp
theorem uF{s t:ByteArray}:Iu s t=(s==t):=by rw[ANF,Z1,Ala]
theorem iB{kt:Ty}{d:TypeDesc}(hs:∀x y:kt.V,Instr.sameNow d (Fc kt x) (Fc kt y)=some (Bd kt x y)){x:kt.V}:∀(ks:APH kt.V) (ms:APH MapEntry) (n j:Nat),ms.map (·.key)=ks.map (Fc kt) ->
    (∀i,i<j->∀y,ks[i]?=some y->Bd kt x y=false)->(∀y,ks[j]?=some y->Bd kt x y=true)->Instr.findNow d (Fc kt x) ms n=some (if h:j<ms.length then some (n+j,ms[j].val)else none)
 |[],ms,n,j,hm,_,_=>by
  have :=by simpa using hm
  subst this;rfl
 |k::ks,m::ms,n,0,hm,_,h1=>by
  simp only[AMT,ANR]at hm;simp[Instr.findNow,hm.1,hs,h1 k rfl]
 |k::ks,m::ms,n,j+1,hm,h0,h1=>by
  simp only[AMT,ANR]at hm;have ih:=iB hs ks ms (n+1) j hm.2 (λi hi y hy=>h0 (i+1) (by omega) y (by grind)) (λy hy=>h1 y (by grind));simp only[Instr.findNow,hm.1,hs,h0 0 (by omega) k rfl]
  grind
 |k::ks,[],n,j,hm,_,_=>by grind
theorem j9.plain{Zh:TypeId}{kt:Ty}{d:TypeDesc}(hu:P.underlying Zh=some d)(hs:∀x y:kt.V,Instr.sameNow d (Fc kt x) (Fc kt y)=some (Bd kt x y))(hc:∀(w:World) (em:Bool) (x:kt.V),(Instr.checkKey em 10000 Zh (Fc kt x)).run P w=.ok () w)
    (BH:∀(w:World) (x:kt.V),(Instr.keyThatStays (Fc kt x) (Fc kt x)).run P w=.ok (Fc kt x) w) (heq:∀x y:kt.V,Bd kt x y=true->x=y):j9 P Zh kt where
 check:=hc
 find w x ks ms hm j h0 h1:=by
  have:=iB hs  ks ms 0 j hm h0 h1;simp[Instr.findKey,underlying,hu,this]
 stays:=BH
 eq:=heq
theorem Aj4{Zh:TypeId}{q q':IntKind}(hu:P.underlying Zh=some (.int q')):j9 P Zh (.int q) :=
 .plain hu (λx y=>by simp[Fc,Instr.sameNow,Bd]) (λw em x=>by
     rw[Instr.checkKey];simp[underlying,hu]) (λw x=>by
     have:Instr.sameBits 10000 (.int q x) (.int q x)=true:=by simp[Instr.sameBits]
     simp[Instr.keyThatStays,Fc,this]) λx y h=>by simpa [Bd]using h
theorem Aj5{Zh:TypeId}(hu:P.underlying Zh=some .string):j9 P Zh .str :=
 .plain hu (λx y=>by simp[Fc,Instr.sameNow,Bd,uF]) (λw em x=>by
     rw[Instr.checkKey];simp[underlying,hu]) (λw x=>by
     have:Instr.sameBits 10000 (.string x) (.string x)=true:=by exact Ala.2 rfl
     simp[Instr.keyThatStays,Fc,this]) λx y h=>Z1.1 (by simpa [Bd]using h)
theorem bF{e2:TypeId}{te:TI}(D9:ES P e2 te){q:IntKind}(hq:te.ty=.int q){w:World}{cs:Array Value}{i:Nat}{v:Value}(h:cs[i]?=some v):(part e2 cs i).run P w=.ok v w:=by
 have ha:=ai (w:=w) D9;rw[hq]at ha;simp[part,ha,Ty.isAgg,h]
theorem dM{e2:TypeId}{q q':IntKind}(hu:P.underlying e2=some (.int q'))(d:Nat)(w:World)(a b:Int):(Op.equalIn (d+1) e2 (.int q a) (.int q b)).run P w=.ok (a==b) w:=by
 simp[Op.equalIn,underlying,hu]
theorem lO{Zh e2:TypeId}(hu:P.underlying Zh=some (.array 2 e2)){te:TI}(D9:ES P e2 te){q:IntKind}(hq:te.ty=.int q)(w:World)(a b c d:Int) :
    (Op.equal Zh (.agg #[.int q a,.int q b]) (.agg #[.int q c,.int q d])).run P w=.ok (a==c&&b==d) w:=by
 have hs:=DL (w:=w) D9;rw[hq]at hs;have hi:=TN D9 hq;have p0:∀x y ,(part e2 #[.int q x,.int q y] 0).run P w=.ok _ w:=λx y=>bF D9 hq rfl;have p1:∀x y ,(part e2 #[.int q x,.int q y] 1).run P w=.ok _ w:=λx y=>bF D9 hq rfl;have eq:=λx y=>dM  (q:=q) hi 9998 w x y;unfold Op.equal Op.maxDepth;rw[Op.equalIn];simp only[Sem.run_bind,run_underlying hu,Result.andThen_ok,hs];simp only[Std.Legacy.Range.forIn_eq_forIn_range',Std.Legacy.Range.size,List.range'_succ,List.forIn_nil];by_cases h1:a=c<;>by_cases h2:b=d<;>simp[p0,p1,eq,h1,h2,Ty.size]
theorem Y8{Zh e2:TypeId}(hu:P.underlying Zh=some (.array 2 e2)){te:TI}(D9:ES P e2 te){q:IntKind}(hq:te.ty=.int q)(w:World){x:(Ty.AE (.int q) (.AE (.int q) .unit)).V} :
    ∀(ks:APH (Ty.AE (.int q) (.AE (.int q) .unit)).V) (ms:APH MapEntry) (n j:Nat),ms.map (·.key)=ks.map (Fc (.AE (.int q) (.AE (.int q) .unit))) ->
    (∀i,i<j->∀y,ks[i]?=some y->Bd (.AE (.int q) (.AE (.int q) .unit)) x y=false)->(∀y,ks[j]?=some y->Bd (.AE (.int q) (.AE (.int q) .unit)) x y=true) ->
    (Instr.findAsking Zh (Fc (.AE (.int q) (.AE (.int q) .unit)) x) ms n).run P w=.ok (if h:j<ms.length then some (n+j,ms[j].val)else none) w
 |[],ms,n,j,hm,_,_=>by
  have :=by simpa using hm
  subst this;simp[Instr.findAsking]
 |k::ks,m::ms,n,0,hm,_,h1=>by
  simp only[AMT,ANR]at hm;have:=h1 k rfl;simp only[Bd,Bool.and_true]at this;simp[Instr.findAsking,hm.1,Fc,lO hu D9 hq,this]
 |k::ks,m::ms,n,j+1,hm,h0,h1=>by
  simp only[AMT,ANR]at hm;have ih:=Y8 hu D9 hq w ks ms (n+1) j hm.2 (λi hi y hy=>h0 (i+1) (by omega) y (by grind)) (λy hy=>h1 y (by grind));have:=h0 0 (by omega) k rfl;simp only[Bd,Bool.and_true]at this;simp only[Instr.findAsking,hm.1,Sem.run_bind];rw[show(Op.equal Zh _ _).run P w=.ok false w by simp[Fc,lO hu D9 hq,this]];simp
  grind
 |k::ks,[],n,j,hm,_,_=>by grind
theorem Aj3{Zh e2:TypeId}(hu:P.underlying Zh=some (.array 2 e2)){te:TI}(D9:ES P e2 te){q:IntKind}(hq:te.ty=.int q):j9 P Zh (.AE (.int q) (.AE (.int q) .unit)) where
 check w em x:=by
  have hs:=DL (w:=w) D9;rw[hq]at hs;have hi:=TN D9 hq;have p0:(part e2 #[.int q x.1,.int q x.2.1] 0).run P w=.ok _ w:=bF D9 hq rfl;have p1:(part e2 #[.int q x.1,.int q _] 1).run P w=.ok (.int q x.2.1) w:=bF D9 hq rfl;have hc:∀y,(Instr.checkKey em 9999 e2 (.int q y)).run P w=.ok () w:=λy=>by
   rw[Instr.checkKey];simp[underlying,hi]
  rw[Instr.checkKey];simp only[Sem.run_bind,run_underlying hu,Result.andThen_ok,Fc];simp only[Std.Legacy.Range.forIn_eq_forIn_range',Std.Legacy.Range.size,List.range'_succ,List.forIn_nil];simp[hs,p0,p1,hc,Ty.size]
 find w x ks ms hm j h0 h1:=by
  have hf:=Y8 hu D9 hq w  ks ms 0 j hm h0 h1;simp only[Instr.findKey,run_underlying hu];cases ms with
  |nil=>simp[underlying,hu,Instr.findNow]
  |cons m ms =>
   cases ks with
   |nil=>grind
   |cons k ks =>
    have:Instr.findNow (.array 2 e2) (Fc _ x) (m::ms) 0=none:=by simp[Instr.findNow,Instr.sameNow]
    simp[underlying,hu,this,hf]
 stays w x:=by
  have:Instr.sameBits 10000 (.agg #[.int q x.1,.int q x.2.1]) (.agg #[.int q x.1,.int q x.2.1])=true:=by
   simp[Instr.sameBits]
  simp[Instr.keyThatStays,Fc,this]
 eq x y h:=by
  simp only[Bd,Bool.and_true]at h
  grind
theorem j9.of{DU:yg}{Zh:TypeId}{tk:TI}(ht:eH P DU=true)(hk:ES P Zh tk)(h:tk.ty.El=true)(hh:ZM DU tk=true):j9 P Zh tk.ty:=by
 unfold ZM at hh;split at hh
 ·simp only[AMd,ANf]at hh;obtain⟨kA,hh⟩:=hh;split at hh
  ·rename_i te D9;simp only[AMd,ANf]at hh;have hu:=hk.He (by omega);rw[kA]at hu;rw[hh.2];exact Aj3 hu (ES.of ht D9) hh.1
  ·grind
 ·cases hq:tk.ty with
  |int q=>exact Aj4 (TN hk hq)
  |str=>exact Aj5 (RA hk hq)
  |AE a b =>
   rename_i VF;rw[hq]at h;cases a with
   |int q=>grind
   |_=>simp[Ty.El]at h
  |_=>rw[hq]at h;simp[Ty.El]at h
theorem Aj1{w:World}{A:Nat->Prop}:∀{kt:Ty} {x:kt.V} {cs:APH Value} {v:Value},kt.El=true->HE w A kt x cs->Cr kt.isAgg cs v->v=Fc kt x
 |.int k,x,cs,v,_,h,hv=>by
  subst h;simpa [Fc]using hv.symm
 |.str,x,cs,v,_,h,hv=>by
  subst h;simpa [Fc]using hv.symm
 |.AE a b,x,cs,v,hk,h,hv=>by
  cases a with
  |int q=>cases b with
   |AE b c=>cases b with
    |int q'=>cases c with
     |unit =>
      obtain⟨c1,d1,rfl,h1,c2,d2,rfl,h2,h3⟩:=h;subst h1;subst h2;subst h3;simpa [Cr,Ty.isAgg,Fc]using hv
     |_=>simp[Ty.El]at hk
    |_=>simp[Ty.El]at hk
   |_=>simp[Ty.El]at hk
  |_=>simp[Ty.El]at hk
 |.bool,_,_,_,hk,_,_=>by simp[Ty.El]at hk
 |.unit,_,_,_,hk,_,_=>by simp[Ty.El]at hk
 |.sl _,_,_,_,hk,_,_=>by simp[Ty.El]at hk
 |.QV _,_,_,_,hk,_,_=>by simp[Ty.El]at hk
theorem iX{w:World}{g:G}{bs:APH Blk}(H:Bf w g bs){kt:Ty}{a:AV}{key:kt.V}{v:Value}(hk:kt.El=true)(h:rd bs kt a=some key)(hv:B4 w g bs.length a v):v=Fc kt key:=by
 obtain⟨h1,h2⟩:=Vu h;obtain⟨cs,SI,hv⟩:=B3 h1 h2 hv;rw[ZR h]at hv;exact Aj1 hk (Qe H kt a key cs h SI).1 hv
theorem Wz:∀{kt:Ty},kt.El=true->∀{x:kt.V},Bd kt x x=true
 |.int _,_,x=>by simp[Bd]
 |.str,_,x=>Z1.2 rfl
 |.AE a b,hk,x=>by
  cases a with
  |int q=>cases b with
   |AE b c=>cases b with
    |int q'=>cases c with
     |unit=>simp[Bd]
     |_=>simp[Ty.El]at hk
    |_=>simp[Ty.El]at hk
   |_=>simp[Ty.El]at hk
  |_=>simp[Ty.El]at hk
 |.bool,hk,_=>by simp[Ty.El]at hk
 |.unit,hk,_=>by simp[Ty.El]at hk
 |.sl _,hk,_=>by simp[Ty.El]at hk
 |.QV _,hk,_=>by simp[Ty.El]at hk
theorem mr{kt vt:Ty}(k:kt.V):∀(es:APH (kt.V×vt.V)),(∃(j:Nat) (x:kt.V×vt.V),es[j]?=some x/\Bd kt k x.1=true/\(∀i,i<j->∀y,es[i]?=some y->Bd kt k y.1=false)/\N4 kt vt es k=some x.2/\∀v,Ch kt vt es k v=es.set j (k,v)) \/
    ((∀(i:Nat) y,es[i]?=some y->Bd kt k y.1=false)/\N4 kt vt es k=none/\∀v,Ch kt vt es k v=es++[(k,v)])
 |[]=>.inr ⟨λi y h=>by grind,rfl,λ_=>rfl⟩
 |x::r=>by
  cases hk:Bd kt k x.1 with
  |true=>exact .inl ⟨0,x,rfl,hk,λi hi=>by omega,by simp[N4,hk],λv=>by simp[Ch,hk]⟩
  |false =>
   rcases mr k r with ⟨j,y,h1,h2,h3,h4,h5⟩|⟨h1,h2,h3⟩
   ·refine .inl ⟨j+1,y,by grind,h2,λi hi z hz=>?_,by simp[N4,hk,h4],λv=>by simp[Ch,hk,h5]⟩
    grind
   ·refine .inr ⟨λi z hz=>?_,by simp[N4,hk,h2],λv=>by simp[Ch,hk,h3]⟩
    grind
section
variable {w:World} {own:Nat->TT} {k:Nat} {md:RM} {kt vt:Ty} {st:APJ kt.V}
theorem VI.Aj2:∀{i:Nat} {es:APH (kt.V×vt.V)} {ms:APH MapEntry},VI w own k md kt vt st i es ms->ms.map (·.key)=(es.map (·.1)).map (Fc kt)
 |_,[],_,h=>by cases h;rfl
 |_,x::xs,_,⟨m,r,e,h1,_,h3⟩=>by subst e;simp[h1.1,VI.Aj2 h3]
theorem VI.len{i:Nat}{es:APH (kt.V×vt.V)}{ms:APH MapEntry}(h:VI w own k md kt vt st i es ms):ms.length=es.length:=by
 have:=congrArg List.length h.Aj2;simpa using this
theorem VI.get:∀{i:Nat} {es:APH (kt.V×vt.V)} {ms:APH MapEntry} {j:Nat} {x:kt.V×vt.V},VI w own k md kt vt st i es ms->es[j]?=some x ->
    ∃m,ms[j]?=some m/\(m.key=Fc kt x.1/\m.born=i+j)/\(st=some x.1\/∃cs,Tn w own k md vt (i+j) x.2 cs/\Cr vt.isAgg cs m.val)
 |i,x::xs,_,0,y,⟨m,r,e,h1,h2,h3⟩,hj=>by
  grind
 |i,x::xs,_,j+1,y,⟨m,r,e,h1,h2,h3⟩,hj=>by
  subst e;obtain⟨m',h4,h5,h6⟩:=h3.get (j:=j) (by simpa using hj)
  grind
 |_,[],_,_,_,_,hj=>by grind
theorem VI.mk:∀{i:Nat} {es:APH (kt.V×vt.V)} {ms:APH MapEntry},ms.length=es.length->(∀(j:Nat) (x:kt.V×vt.V) (m:MapEntry),es[j]?=some x->ms[j]?=some m->(m.key=Fc kt x.1/\m.born=i+j)/\(st=some x.1\/∃cs,Tn w own k md vt (i+j) x.2 cs/\Cr vt.isAgg cs m.val))->VI w own k md kt vt st i es ms
 |_,[],ms,hl,_=>by
  cases ms with
  |nil=>rfl
  |cons _ _=>grind
 |i,x::xs,[],hl,_=>by grind
 |i,x::xs,m::ms,hl,h=>by
  obtain⟨h1,h2⟩:=h 0 x m rfl rfl;refine⟨m,ms,rfl,h1,h2,VI.mk (by grind) λj y m' hy hm=>?_⟩;have:=h (j+1) y m' (by grind) (by grind)
  grind
end
theorem uR{t:Nat}{ti:TI}(h:ES P t ti)(w:World):∃z,(zeroValue t).run P w=.ok z w/\Cr ti.ty.isAgg (QM ti.ty) z:=by
 obtain⟨i,z,hi,_,_,hz,lY,ha⟩:=h.info;refine⟨z,by simp[zeroValue,typeInfo,hi,hz],?_⟩;cases hg:ti.ty.isAgg with
 |true =>
  obtain⟨c,rfl⟩:=ha.2 hg;have:c.toList=QM _:=lY;simp[Cr,<-this]
 |false =>
  have hn:∀c,z≠.agg c:=λc e=>by grind
  have:z.cells=#[z]:=by cases z<;>first |rfl |grind
  rw[this]at lY;simp[Cr,<-lY]
theorem aT{w:World}{g:G}{k:Nat}{md:RM}{kt vt:Ty}{st:APJ kt.V}{Zh:TypeId}(K:j9 P Zh kt){es:APH (kt.V×vt.V)}{He:Array MapEntry}(hm:VI w g.own k md kt vt st 0 es He.toList)(key:kt.V) :
    (∃(j:Nat) (x:kt.V×vt.V) (m:MapEntry),es[j]?=some x/\x.1=key/\He[j]?=some m/\(∀i,i<j->∀y,es[i]?=some y->Bd kt key y.1=false)/\N4 kt vt es key=some x.2/\(∀v,Ch kt vt es key v=es.set j (key,v))/\(st=some x.1\/∃cs,Tn w g.own k md vt j x.2 cs/\Cr vt.isAgg cs m.val)/\(m.key=Fc kt key/\m.born=j) /\
     (Instr.findKey Zh (Fc kt key) He.toList).run P w=.ok (some (j,m.val)) w) \/
    ((∀(i:Nat) y,es[i]?=some y->Bd kt key y.1=false)/\N4 kt vt es key=none/\(∀v,Ch kt vt es key v=es++[(key,v)])/\(Instr.findKey Zh (Fc kt key) He.toList).run P w=.ok none w):=by
 rcases mr key es with ⟨j,x,h1,h2,h3,h4,h5⟩|⟨h1,h2,h3⟩
 ·obtain⟨m,h6,⟨h7,h7b⟩,h8⟩:=hm.get h1;have cw:j<He.toList.length:=A3 h6;have hf:=K.find w key (es.map (·.1)) He.toList hm.Aj2 j (λi hi y hy=>by
   grind) (λy hy=>by
   grind)
  have hmv:He.toList[j]=m:=by
   grind
  rw[dif_pos cw,hmv]at hf;have e:=(K.eq _ _ h2).symm
  grind
 ·have hf:=K.find w key (es.map (·.1)) He.toList hm.Aj2 es.length (λi hi y hy=>by
    grind) (λy hy=>by
    grind)
  rw[dif_neg (by rw[hm.len];omega)]at hf;exact .inr ⟨h1,h2,h3,hf⟩
theorem gG{w:World}{g:G}{n k:Nat}{v:Value}(h:B4 w g n (.mp k) v):k<n/\∃b,(g.AZ k).a=some ⟨b,0,none⟩/\v=.map (some b):=by
 obtain⟨cs,⟨hk,b,hb,e⟩,hv⟩:=B3 rfl rfl h;subst e;exact⟨hk,b,hb,by simpa [AV.isAgg]using hv.symm⟩
theorem um{t:TypeId}(ho:o.op=.makeMap t none){m:RM}{kt vt:Ty}(hm:m.Ct=[]):Nr P σ o ⟨.mp σ.Aj.length,σ.Aj++[.map m kt vt [] none],[]⟩:=by
 refine⟨by simp,λ_=>⟨_,rfl⟩,λa w g hs next Q hn=>?_⟩
 have hr:(execOp a.eval o).run P w=.ok (.value (.map (some w.heap.size))) (w.alloc (.map #[] 0)):=by
  simp[execOp,ho,Instr.makeMap]
 unfold Oper.wp;rw[hr];have st:=Step.add hs.heap (.map #[] 0) ⟨some ⟨w.heap.size,0,none⟩,0,0,0⟩;refine hn _ _ _ (hs.heap.new ?_) ?_ st
 ·exact⟨(by grind),w.heap.size,#[],0,by simp[G.add],by simp[G.add],heap_alloc_new w _,by simp,rfl⟩
 ·exact Bs  rfl ⟨by simp,w.heap.size,by simp[G.add],rfl⟩ (by simp[Cr,AV.isAgg])
theorem tG{w:World}{g:G}{k b:Nat}{md:RM}{kt vt:Ty}{st:APJ kt.V}{t Zh el:TypeId}{te:TI}(ht:P.underlying t=some (.map Zh el))(D9:ES P el te)(hvt:vt=te.ty)(hd:te.ty.data=true)(K:j9 P Zh kt){es:APH (kt.V×vt.V)}{He:Array MapEntry}{DC:Nat}(hb:w.heap[b]?=some (.map He DC))
    (hm:VI w g.own k md kt vt st 0 es He.toList) (key:kt.V) (ok:Bool):∃v,(Instr.lookup t (.map (some b)) (Fc kt key) ok).run P w=.ok (if ok then .tuple #[v,.bool (S5 kt vt es key)]else v) w /\
     ((∃(j:Nat) (x:kt.V×vt.V) (m:MapEntry),es[j]?=some x/\x.1=key/\He[j]?=some m/\m.val=v/\Bn kt vt es key=x.2/\(st=some x.1\/∃cs,Tn w g.own k md vt j x.2 cs/\Cr vt.isAgg cs v))\/(Bn kt vt es key=vt.zero/\Cr vt.isAgg (QM vt) v)):=by
 subst hvt;rcases aT K hm key with ⟨j,x,m,h1,h2,h3,_,h4,_,h5,_,hf⟩|⟨_,h2,_,hf⟩
 ·refine⟨m.val,?_,.inl ⟨j,x,m,h1,h2,h3,rfl,by simp[Bn,h4],h5⟩⟩;cases ok<;>simp[Instr.lookup,underlying,ht,MapKept.run_getObj_map hb,K.check,hf,S5,h4]
 ·obtain⟨z,hz,hzv⟩:=uR D9 w;refine⟨z,?_,.inr ⟨by simp[Bn,h2],hzv⟩⟩;cases ok<;>simp[Instr.lookup,underlying,ht,MapKept.run_getObj_map hb,K.check,hf,hz,S5,h2]
theorem AgP{t:TypeId}{m x:Operand}{ok:Bool}(ho:o.op=.lookup t m x ok){ti tk te:TI}(ht:ES P t ti)(pe:ti.N5≠0)(D9:ES P ti.elem te)(hd:te.ty.data=true)(K:tk.ty.El=true->j9 P ti.N5 tk.ty){z:AV}
    (h:ei σ.Aj tk te ok (σ.Ci m) (σ.Ci x) some=some z):Nr P σ o ⟨z,σ.Aj,[]⟩ :=
 .Is <| Lh (s:=λρ=>Instr.lookup t (ρ m) (ρ x) ok) (λρ=>by simp[execOp,ho]) λa w g BH=>by
  unfold ei at h;split at h
  ·rename_i k hm;split at h
   ·rename_i md kt vt es hb;split at h
    ·rename_i key hx;split at h
     ·rename_i hc;obtain⟨hkt,hvt,VE⟩:=hc;subst hkt;subst hvt;have hmm:=AQ BH m;rw[hm]at hmm;obtain⟨hk,b,Nt,qQ⟩:=gG hmm;obtain⟨QT,b',He,DC,ha,Cs,hh,RH,iN⟩:=BH.heap.LP k _ hb;rw[Nt]at ha;injection ha with ha;injection ha with ha;subst ha;have iL:=iX BH.heap VE hx (AQ BH x);obtain⟨v,hr,bf⟩:=tG (ht.mp pe) D9 rfl hd (K VE) hh iN key ok;have hv:B4 w g σ.Aj.length (.AB (ZO (md.own k) te.ty) te.ty (Bn tk.ty te.ty es key)) v:=by
       have kF:∃cs,HE w (Al g.own (md.own k)) te.ty (Bn tk.ty te.ty es key) cs/\Cr te.ty.isAgg cs v:=by
        rcases bf with ⟨j,y,mm,h1,h2,h3,h4,h5,h6⟩|⟨h1,h2⟩
        ·rw[h5];rcases h6 with h6 |⟨cs,h6,h7⟩
         ·grind
         ·refine⟨cs,?_,h7⟩;cases md with
          |Aw=>exact Jo.rd (λb q hb=>.mem (AMB) hb) h6
          |sh ks=>exact h6
        ·rw[h1];exact⟨_,HE.zero hd,h2⟩
       obtain⟨cs,h1,h2⟩:=kF;refine Bs rfl (cs:=cs) ⟨λj hj=>?_,?_⟩ h2
       ·unfold ZO at hj;split at hj
        ·grind
        ·cases md with
         |Aw=>simp[RM.own]at hj;subst hj;exact hk
         |sh ks=>exact QT j hj
       ·unfold ZO;split
        ·rename_i hf;exact(HE.BP hf).2 ((HE.BP hf).1 h1)
        ·grind
      cases ok with
      |false =>
       simp only[AMl,AL8]at h;subst h;exact⟨v,by grind,hv⟩
      |true =>
       simp only[AMm,AL8]at h;subst h;refine⟨_,by grind,[v,.bool (S5 tk.ty te.ty es key)],rfl,v,_,rfl,(B4.iff rfl).1 hv,.bool (S5 tk.ty te.ty es key),[],rfl,?_,rfl⟩;exact(B4.iff rfl).1 (bu _)
     ·grind
    ·grind
   ·grind
  ·grind
theorem AbP{t:TypeId}{m x:Operand}(ho:o.op=.lookup t m x false){ti tk te:TI}(ht:ES P t ti)(pe:ti.N5≠0)(D9:ES P ti.elem te)(hd:te.ty.data=true)(K:tk.ty.El=true->j9 P ti.N5 tk.ty)
    (h:mj σ.Aj tk te (σ.Ci m) (σ.Ci x) some=some e):Nr P σ o e:=by
 unfold mj at h;split at h
 ·rename_i k hm;split at h
  ·rename_i kt u es hb;split at h
   ·rename_i key hx;split at h
    ·rename_i hc;injection h with h;subst h;obtain⟨hkt,hvt,VE,hu⟩:=hc;subst hkt;refine⟨by simp[AF],λh=>(by cases h),λa w g BH next Q hn=>?_⟩
     have H:=BH.heap;have hmm:=AQ BH m;rw[hm]at hmm;obtain⟨hk,b,Nt,qQ⟩:=gG hmm;obtain⟨QT,b',He,DC,ha,Cs,hh,RH,iN⟩:=H.LP k _ hb;rw[Nt]at ha;injection ha with ha;injection ha with ha;subst ha;have iL:=iX H VE hx (AQ BH x);obtain⟨v,hr,bf⟩:=tG (ht.mp pe) D9 hvt hd (K VE) hh iN key false;have D8:(execOp a.eval o).run P w=.ok (.value v) w:=by
      simp only[AMU,ANz]at hr;simp[execOp,ho,qQ,iL,hr]
     unfold Oper.wp;rw[D8];obtain ⟨J,ad,cap,hv,NR,US⟩:∃(J:Nat) (ad:APJ Addr) (cap:Nat),v=.slice ad (Bn tk.ty (.sl u) es key).length cap/\Jo w g.own k (.sl u) [J] (Bn tk.ty (.sl u) es key) [.slice ad (Bn tk.ty (.sl u) es key).length cap] /\
         ∀(i:Nat) (y:tk.ty.V×(Ty.sl u).V),es[i]?=some y->y.1=key\/i≠J:=by
      rcases bf with ⟨j,y,mm,h1,h2,h3,h4,h5,h6⟩|⟨h1,h2⟩
      ·rcases h6 with h6 |⟨cs,h6,h7⟩
       ·cases h6
       ·have h6':Jo w g.own k (.sl u) [j] y.2 cs:=h6;obtain⟨ad,cap,e1,h8⟩:=h6;subst e1;have hv:[Value.slice ad y.2.length cap]=[v]:=h7;injection hv with hv _;refine⟨j,ad,cap,by rw[h5];exact hv.symm,by rw[h5];exact h6',λi z hz=>?_⟩;by_cases hi:i=j
        ·subst hi;rw[h1]at hz;injection hz with hz;subst hz;exact .inl h2
        ·exact .inr hi
      ·have hv:[Value.slice none 0 0]=[v]:=h2;injection hv with hv _;refine⟨es.length,none,0,by rw[h1];exact hv.symm,by rw[h1];exact⟨none,0,rfl,.inl ⟨rfl,rfl⟩⟩,λi z hz=>.inr ?_⟩;have:=A3 hz;omega
     let ys:=Bn tk.ty (.sl u) es key
     let i1:BI:=⟨ad,ys.length,cap,u.size⟩
     let n:=σ.Aj.length
     let g1:=g.iq n k [J] i1
     have st:Step [k] n w g w g1:=jN;have UD:g1.AZ n=i1:=by simp[g1,G.iq]
     have kE:k≠n:=by simp only[n];omega
     have lX:((Ba [k] σ.Aj).set k (Blk.map .Aw tk.ty (.sl u) es (some key))++[Blk.row 0 .Aw u ys]).length=n+1:=by simp[AF,n]
     refine hn v w g1 ?_ ?_ st
     ·refine H.Z4 st (λb hb=>by simp[g1,G.iq,H.BZ b hb]) (by rw[lX];exact AMH _) λj y hj=>?_;rw[AMw]at hj;split at hj
      ·rcases RS hj with ⟨kl,rfl⟩|⟨Nk,hj⟩
       ·rw[kl];have Ra:g1.AZ k=g.AZ k:=by simp[g1,G.iq,kE]
        refine .inr (.inr ⟨λj hj=>(by cases hj),b,He,DC,by rw[Ra];exact Nt,Wq Cs (λhc=>by have:=hc.2;simp at this),hh,RH,VI.mk iN.len λi z mm hz hmz=>?_⟩);obtain⟨m',h1,h2,h3⟩:=iN.get hz;rw[hmz]at h1;injection h1 with h1;subst h1;refine⟨h2,?_⟩;rcases US i z hz with h |h
        ·exact .inl (by rw[h])
        ·rcases h3 with h3 |⟨cs,h3,h4⟩
         ·cases h3
         ·refine .inr ⟨cs,?_,h4⟩;rw[AMC]at h3⊢;exact Jo.mono (λb q hb=>⟨Wq hb λhc=>by
           obtain⟨s,hs⟩:=hc.2;have:=List.append_inj_right' hs rfl;simp at this;exact h this.symm,rfl⟩) h3
       ·obtain⟨y,hy,rfl⟩:=Dq hj;exact .inr (.inl ⟨by simpa using Nk,y,hy,rfl⟩)
      ·rename_i YC;simp only[AMf,AF]at hj YC;have lV:j-σ.Aj.length=0:=by
        rcases AMu (j-σ.Aj.length)with h |h
        ·exact h
        ·rw[AMK (by simp;omega)]at hj;cases hj
       rw[lV]at hj;obtain rfl:j=n:=by simp only[n];omega
       simp only[List.getElem?_cons_zero,AL8]at hj;subst hj;refine .inr (.inr ⟨λj hj=>(by cases hj),by rw[UD],by rw[UD],ANO hu,?_⟩);rw[UD];obtain⟨vg,R4,e3,NR⟩:=NR;injection e3 with e3 _;injection e3 with e3 _ e4;subst e3;subst e4;refine NR.imp id λ⟨b,el,BA,ds,q1,q2,q3,q4,q5,q6,q7,q8⟩=>⟨b,BA,ds,q1,Yr (q:=[]) (by simpa using q2),⟨el,.inl rfl,q3⟩,q4,q5,q6,q7,?_⟩;exact q8.mono λi x c r=>r.mono λb q hb=>⟨Yr (by simpa using hb),rfl⟩
     ·rw[lX,hv];exact Bs (cs:=[_]) rfl ⟨AMM _,by rw[UD]⟩ rfl
    ·cases h
   ·cases h
  ·cases h
 ·cases h
theorem AfI{w:World}{g:G}{Bz:APH Nat}{b k:Nat}{He:Array MapEntry}{DC:Nat}{ob:Obj}(hh:w.heap[b]?=some (.map He DC))(ho:g.own b=.BO k [])(hk:k∈Bz):∀q,q<w.heap.size->(∀k p,g.own q=.BO k p->k∉Bz)->({w with heap:=w.heap.setIfInBounds b ob}:World).heap[q]?=w.heap[q]?:=by
 intro q _ hq;exact ANC (λe=>by subst e;exact hq k [] ho hk)
theorem As3{P:Program}{w:World}{g:G}{bs:APH Blk}(H:Bf w g bs){t:TypeId}{am ax av:AV}{mv xv vv:Value}(hAm:B4 w g bs.length am mv)(hAx:B4 w g bs.length ax xv)(hAv:B4 w g bs.length av vv){ti tk te:TI}(ht:ES P t ti)(pe:ti.N5≠0)(K:tk.ty.El=true->j9 P ti.N5 tk.ty){e:HO}
    (h:b7 bs tk te am ax av some=some e):e.Bz≠[]/\e.Aj.length=bs.length/\e.val=.un 0/\∃w' g',(Instr.mapUpdate t mv xv vv).run P w=.ok () w'/\Bf w' g' e.Aj/\Step e.Bz bs.length w g w' g':=by
 unfold b7 at h;split at h
 ·rename_i k;split at h
  ·rename_i md kt vt es st0 hb;split at h
   ·rename_i key y m' rs hx Zb;split at h
    ·rename_i hc;obtain⟨hkt,hvt,VE,PS,hrk⟩:=hc;subst hkt;have h':e=⟨.un 0,(Blk.GF (Ba (k::rs) bs) rs).set k (.map m' tk.ty vt (Ch tk.ty vt es key y) none),k::rs⟩/\(st0=none\/st0=some key):=by
      cases st0 with
      |none=>injection h with h;exact⟨h.symm,.inl rfl⟩
      |some k0 =>
       simp only at h;cases hq:Bd tk.ty k0 key with
       |false=>rw[hq]at h;cases h
       |true =>
        rw[hq,AMm]at h;injection h with h;exact⟨h.symm,.inr (by rw[(K VE).eq _ _ hq])⟩
     obtain⟨rfl,s9⟩:=h';refine⟨by simp,by simp[A7,AF],rfl,?_⟩;have hmm:=hAm;obtain⟨hk,b,Nt,qQ⟩:=gG hmm;obtain⟨QT,b',He,DC,ha,Cs,hh,RH,iN⟩:=H.LP k _ hb;rw[Nt]at ha;injection ha with ha;injection ha with ha;subst ha;have iL:=iX H VE hx hAx;obtain⟨hy,hrs,AF5,AF2⟩:=Pu Zb;obtain⟨XP,Rb⟩:=Vu hy;obtain⟨cv,XK,hvv⟩:=B3 XP Rb hAv;rw[ZR hy]at hvv;obtain⟨ZL,fI⟩:=b6 Zb;have W4:=V7 PS;have wM:k∉rs:=by simpa using hrk
     have Bm:b<w.heap.size:=T2 H (by rw[Cs];simp);obtain ⟨J,ru,cJ,D8,Afc⟩:∃(J:Nat) (ru:Array MapEntry) (cJ:Nat),(Instr.mapUpdate t mv xv vv).run P w=.ok () {w with heap:=w.heap.setIfInBounds b (.map ru cJ)} /\
         ((((Ch tk.ty vt es key y).map (·.1)).Nodup/\cJ=ru.size)/\ru.toList.length=(Ch tk.ty vt es key y).length/\∀(i:Nat) (z:tk.ty.V×vt.V) (mm:MapEntry),(Ch tk.ty vt es key y)[i]?=some z->ru.toList[i]?=some mm ->
          (i=J/\z=(key,y)/\(mm.key=Fc tk.ty key/\mm.born=i)/\mm.val=vv)\/(i≠J/\es[i]?=some z/\He.toList[i]?=some mm/\st0≠some z.1)):=by
      have hu:=ht.mp pe;have XN:∀z:tk.ty.V,Bd tk.ty key z=false->st0≠some z:=λz hz e=>by
       rcases s9 with h |h
       ·rw[h]at e;cases e
       ·rw[h]at e;injection e with e;subst e;rw[Wz VE]at hz;cases hz
      rcases aT (K VE) iN key with ⟨j,z,mm,h1,h2,h3,h4,h5,h6,h7,⟨h8,h8b⟩,hf⟩|⟨h1,h2,h3,hf⟩
      ·refine⟨j,He.modify j λe=>{e with key:=Fc tk.ty key,val:=vv},DC,?_,?_⟩
       ·rw[qQ,iL];simp[Instr.mapUpdate,underlying,hu,MapKept.run_getObj_map hh,(K VE).check,hf,h3,h8,(K VE).stays,MapKept.run_setObj_map _ hh]
       ·rw[h6 y];have hl:He.toList.length=es.length:=iN.len;refine⟨⟨by
         rw[List.map_set];have:(es.map (·.1)).set j key=es.map (·.1):=by
          have hg:(es.map (·.1))[j]?=some key:=by rw[AMz,h1,<-h2];rfl
          apply ANi;intro i;rw[AMv];split
          ·rename_i e;subst e;rw[AMo (A3 hg),hg]
          ·rfl
         rw[this];exact RH.1,by simp[RH.2]⟩,by simpa using hl,λi z' m2 hz RG=>?_⟩
        rw[AMk,ANA]at RG;rw[AMv]at hz;by_cases sK:j=i
        ·subst sK;have cw:=A3 h1;simp only[AMR,cw]at hz;injection hz with hz;simp only[AMR,h3,Option.map_some,AL8]at RG;subst RG;exact .inl ⟨rfl,hz.symm,⟨rfl,h8b⟩,rfl⟩
        ·simp only[AMp sK]at hz RG;refine .inr ⟨λe=>sK e.symm,hz,by rw[AMk];exact RG,?_⟩;intro e;rcases s9 with h |h
         ·rw[h]at e;cases e
         ·rw[h]at e;injection e with e;have g1:(es.map (·.1))[j]?=some key:=by rw[AMz,h1,<-h2];rfl
          have g2:(es.map (·.1))[i]?=some key:=by rw[AMz,hz,e];rfl
          exact sK ((List.getElem?_inj (A3 g1) RH.1).1 (g1.trans g2.symm))
      ·refine⟨es.length,He.push {key:=Fc tk.ty key,val:=vv,born:=DC},DC+1,?_,?_⟩
       ·rw[qQ,iL];simp[Instr.mapUpdate,underlying,hu,MapKept.run_getObj_map hh,(K VE).check,hf,MapKept.run_setObj_map _ hh]
       ·rw[h3 y];have hl:He.toList.length=es.length:=iN.len;refine⟨⟨by
         rw[AMQ,AN9];refine⟨RH.1,by simp,λa ha b hb=>?_⟩;simp at hb;subst hb
         rintro rfl
         obtain⟨z,hz,rfl⟩:=List.mem_map.1 ha;obtain⟨i,hi⟩:=List.getElem?_of_mem hz;have:=h1 i z hi;rw[Wz VE]at this;exact Bool.noConfusion this,by simp[RH.2]⟩,by simpa using hl,λi z' m2 hz RG=>?_⟩
        rw[Array.toList_push]at RG;by_cases hi:i<es.length
        ·rw[AMt hi]at hz;rw[AMt (by rw[hl];exact hi)]at RG;exact .inr ⟨by omega,hz,RG,XN _ (h1 i z' hz)⟩
        ·have qR:=A3 hz;rw[AMa,AMq]at qR;obtain rfl:i=es.length:=by omega
         simp at hz;rw[<-hl]at RG;simp at RG;subst RG;subst hz;exact .inl ⟨rfl,rfl,⟨rfl,by show DC=es.length;rw[RH.2,<-hl];simp⟩,rfl⟩
     obtain⟨AF4,zf,Afc⟩:=Afc
     let w':World:={w with heap:=w.heap.setIfInBounds b (.map ru cJ)}
     let M:=Ku av [J]
     have wH:M.map (·.1)=rs:=by rw[hrs];exact Gv _ _
     let f:=Wl md k M
     let g':=g.UE f none bs.length ⟨none,0,0,0⟩
     have sW:∀b' r,g.own b'=.BO k r->g'.own b'=.BO k r:=λb' r h=>by
      have:=Ih (f:=f) (ob:=none) (n:=bs.length) (i:=⟨none,0,0,0⟩) (by simp) h;rw[this];exact O8 (by rw[wH];exact wM)
     have Mv:w'.heap.size=w.heap.size:=by simp[w']
     have st:Step (k::rs) bs.length w g w' g':=Step.UE H.BZ rfl rfl rfl (by rw[Mv];exact AMc _) (AfI hh Cs (by simp)) (λq h=>by cases h) (AMc _) λj r _ hm =>
      O8 (by rw[wH];exact λh=>hm (AMy _ h))
     have Aso:∀b',b'≠b->w'.heap[b']?=w.heap[b']?:=λb' h=>ANC (Ne.symm h);have Afk:∀b' j r,g.own b'=.BO j r->j≠k->w'.heap[b']?=w.heap[b']?:=λb' j r h hj=>Aso b' λe=>by subst e;rw[Cs]at h;injection h with h;exact hj h.symm
     have Afl:∀b' q,g.own b'=.BO k q->q≠[]->w'.heap[b']?=w.heap[b']?:=λb' q h hq=>Aso b' λe=>by subst e;rw[Cs]at h;injection h with _ h;exact hq h.symm
     have sR:∀b',g.own b'=.Ir->w'.heap[b']?=w.heap[b']?:=λb' h=>Aso b' λe=>by subst e;rw[Cs]at h;cases h
     have hon:∀(i':Nat) (x:vt.V) (c:APH Value),Tn w g.own k md vt i' x c->Tn w' g'.own k m' vt i' x c:=by
      intro i' x c UF;refine UF.on ?_;rcases AF2 with ⟨rfl,rfl,_⟩|⟨ks,rfl,rfl⟩
      ·exact λb' q h=>⟨sW b' _ h,Afl b' _ h (by simp)⟩
      ·intro b' h;rcases h with h |⟨j,hj,r,h⟩
       ·exact⟨.inl (Vg (by simp) h),sR b' h⟩
       ·have sL:=ZL j hj;have kl:=W4 j sL;exact⟨.inr ⟨j,sL,r,by
         have:=Ih (f:=f) (ob:=none) (n:=bs.length) (i:=⟨none,0,0,0⟩) (by simp) h;rw[this];exact O8 (by rw[wH];exact λh=>kl (AMy _ h))⟩,Afk b' j r h λe=>kl (by simp[e])⟩
     have ZK:InR w' g'.own k m' vt [J] y cv:=by
      refine qw H Zb XK (M:=M) (λjq hj=>bl (by rw[Gv];exact AF5) hj) (λ_ h=>h) (λj hj=>TP (by rw[wH];exact λh=>W4 j hj (AMy _ h))) fI
       (λb' j r h _=>Ih (by simp) h) (λb' h=>Vg (by simp) h) λb' h=>?_
      rcases h with h |⟨j,r,h,hj⟩
      ·exact sR b' h
      ·refine Afk b' j r h λe=>?_;subst e;rcases hj with hj |hj
       ·rw[wH]at hj;exact wM hj
       ·exact W4 j hj (by simp)
     have ACA:Tn w' g'.own k m' vt J y cv:=by
      cases m' with
      |Aw=>exact ZK
      |sh ks=>exact ZK
     refine⟨w',g',D8,H.Z4 st (Mu H.BZ (by rw[Mv];exact AMc _) (λq h=>by cases h)) (by simp[A7,AF]) λj z hj=>?_,st⟩;rcases RS hj with ⟨kl,rfl⟩|⟨Nk,hj⟩
     ·rw[kl];have Ra:g'.AZ k=g.AZ k:=st.AZ k hk;refine .inr (.inr ⟨by simpa [A7,AF]using qx H Zb XK QT,b,ru,cJ,by rw[Ra];exact Nt,sW b [] Cs,by simp[w',Bm],AF4,VI.mk zf λi z mm hz hmz=>?_⟩);rw[AMC];rcases Afc i z mm hz hmz with ⟨rfl,rfl,h3,h4⟩|⟨h1,h2,h3,h4⟩
      ·exact⟨h3,.inr ⟨cv,ACA,by rw[h4];exact hvv⟩⟩
      ·obtain⟨m2,h5,h6,h7⟩:=iN.get h2;rw[h3]at h5;injection h5 with h5;subst h5;rw[AMC]at h6;refine⟨h6,?_⟩;rcases h7 with h7 |⟨cs,h7,h8⟩
       ·exact(h4 h7).elim
       ·rw[AMC]at h7;exact .inr ⟨cs,hon _ _ _ h7,h8⟩
     ·rcases Ks hj with h |⟨o8,h⟩
      ·exact .inl h
      ·obtain⟨y',fQ,rfl⟩:=Dq h;exact .inr (.inl ⟨by simp only[ANH,not_or];exact⟨Nk,o8⟩,y',fQ,rfl⟩)
    ·cases h
   ·cases h
  ·cases h
 ·cases h
theorem jU{bs:APH Blk}{tk te:TI}{am ax av:AV}{e:HO}(h:b7 bs tk te am ax av some=some e):e.Bz≠[]/\e.Aj.length=bs.length:=by
 unfold b7 at h;split at h
 ·split at h
  ·split at h
   ·split at h
    ·split at h
     ·injection h with h;subst h;exact⟨by simp,by simp[A7,AF]⟩
     ·rename_i y0 _;generalize Bd _ y0 _=q at h;cases q with
      |false=>cases h
      |true=>injection h with h;subst h;exact⟨by simp,by simp[A7,AF]⟩
    ·cases h
   ·cases h
  ·cases h
 ·cases h
theorem zI{t:TypeId}{m x v:Operand}(ho:o.op=.mapUpdate t m x v\/o.op=.insert t m x v){ti tk te:TI}(ht:ES P t ti)(pe:ti.N5≠0)(K:tk.ty.El=true->j9 P ti.N5 tk.ty)
    (h:b7 σ.Aj tk te (σ.Ci m) (σ.Ci x) (σ.Ci v) some=some e):Nr P σ o e:=by
 obtain⟨s1,s2⟩:=jU h;refine⟨by rw[s2];exact AMc _,λh=>(s1 h).elim,λa w g BH next Q hn=>?_⟩
 ·obtain⟨h1,h2,h3,w',g',D8,hH,st⟩:=As3 BH.heap (AQ BH m) (AQ BH x) (AQ BH v) ht pe K h;have Y9:(execOp a.eval o).run P w=.ok .skip w':=by
   rcases ho with ho |ho<;>simp[execOp,ho,D8]
  unfold Oper.wp;rw[Y9];exact hn undef w' g' hH (by rw[h3];exact QK) st
theorem AlT{w:World}{g:G}{bs:APH Blk}(H:Bf w g bs){k:Nat}{kt u:Ty}{es:APH (kt.V×(Ty.sl u).V)}(hb:bs[k]?=some (.map .Aw kt (.sl u) es none))(hu:u.size≠0){J:Nat}{key:kt.V}{ys:(Ty.sl u).V}(hJ:es[J]?=some (key,ys)){b:Nat}(Nt:(g.AZ k).a=some ⟨b,0,none⟩)
    {He:Array MapEntry} {DC:Nat} (hh:w.heap[b]?=some (.map He DC)) {mm:MapEntry} (hm:He[J]?=some mm) :
    mm.born=J/\DC=He.size/\∃g1,Bf w g1 ((Ba [k] bs).set k (.map .Aw kt (.sl u) es (some key))++[.row 0 .Aw u ys])/\Step [k] bs.length w g w g1/\B4 w g1 (bs.length+1) (.AG bs.length) mm.val/\g1.AZ k=g.AZ k:=by
 have hk:=A3 hb;obtain⟨QT,b',ru,cJ,ha,Cs,hh',RH,iN⟩:=H.LP k _ hb;rw[Nt]at ha;injection ha with ha;injection ha with ha;subst ha;rw[hh]at hh';injection hh' with hh';injection hh' with e1 e2;subst e1;subst e2;obtain⟨m',q1,⟨_,q2⟩,q3⟩:=iN.get hJ;rw[AMk,hm]at q1;injection q1 with q1;subst q1;rw[AMC]at q2 q3;refine⟨q2,RH.2,?_⟩;obtain⟨ad,cap,hv,NR⟩:∃(ad:APJ Addr) (cap:Nat),mm.val=.slice ad ys.length cap/\Jo w g.own k (.sl u) [J] ys [.slice ad ys.length cap]:=by
  rcases q3 with h6 |⟨cs,h6,h7⟩
  ·cases h6
  ·have h6':Jo w g.own k (.sl u) [J] ys cs:=h6;obtain⟨ad,cap,e1,h8⟩:=h6;subst e1;have hv:[Value.slice ad ys.length cap]=[mm.val]:=h7;injection hv with hv _;exact⟨ad,cap,hv.symm,h6'⟩
 let i1:BI:=⟨ad,ys.length,cap,u.size⟩
 let n:=bs.length
 let g1:=g.iq n k [J] i1
 have st:Step [k] n w g w g1:=jN;have UD:g1.AZ n=i1:=by simp[g1,G.iq]
 have kE:k≠n:=by simp only[n];omega
 have Ra:g1.AZ k=g.AZ k:=by simp[g1,G.iq,kE]
 have lX:((Ba [k] bs).set k (Blk.map .Aw kt (.sl u) es (some key))++[Blk.row 0 .Aw u ys]).length=n+1:=by simp[AF,n]
 refine⟨g1,?_,st,?_,Ra⟩
 ·refine H.Z4 st (λb hb=>by simp[g1,G.iq,H.BZ b hb]) (by rw[lX];exact AMH _) λj y hj=>?_;rw[AMw]at hj;split at hj
  ·rcases RS hj with ⟨kl,rfl⟩|⟨Nk,hj⟩
   ·rw[kl];refine .inr (.inr ⟨λj hj=>(by cases hj),b,He,DC,by rw[Ra];exact Nt,Wq Cs (λhc=>by have:=hc.2;simp at this),hh,RH,VI.mk iN.len λi z mm hz hmz=>?_⟩);obtain⟨m',h1,h2,h3⟩:=iN.get hz;rw[hmz]at h1;injection h1 with h1;subst h1;refine⟨h2,?_⟩;by_cases hi:i=J
    ·subst hi;rw[hJ]at hz;injection hz with hz;subst hz;exact .inl rfl
    ·rcases h3 with h3 |⟨cs,h3,h4⟩
     ·cases h3
     ·refine .inr ⟨cs,?_,h4⟩;rw[AMC]at h3⊢;exact Jo.mono (λb q hb=>⟨Wq hb λhc=>by
       obtain⟨s,hs⟩:=hc.2;have:=List.append_inj_right' hs rfl;simp at this;exact hi this.symm,rfl⟩) h3
   ·obtain⟨y,hy,rfl⟩:=Dq hj;exact .inr (.inl ⟨by simpa using Nk,y,hy,rfl⟩)
  ·rename_i YC;simp only[AMf,AF]at hj YC;have lV:j-bs.length=0:=by
    rcases AMu (j-bs.length)with h |h
    ·exact h
    ·rw[AMK (by simp;omega)]at hj;cases hj
   rw[lV]at hj;obtain rfl:j=n:=by simp only[n];omega
   simp only[List.getElem?_cons_zero,AL8]at hj;subst hj;refine .inr (.inr ⟨λj hj=>(by cases hj),by rw[UD],by rw[UD],ANO hu,?_⟩);rw[UD];obtain⟨vg,R4,e3,NR⟩:=NR;injection e3 with e3 _;injection e3 with e3 _ e4;subst e3;subst e4;refine NR.imp id λ⟨b,el,BA,ds,q1,q2,q3,q4,q5,q6,q7,q8⟩=>⟨b,BA,ds,q1,Yr (q:=[]) (by simpa using q2),⟨el,.inl rfl,q3⟩,q4,q5,q6,q7,?_⟩;exact q8.mono λi x c r=>r.mono λb q hb=>⟨Yr (by simpa using hb),rfl⟩
 ·rw[hv];exact Bs (cs:=[_]) rfl ⟨AMM _,by rw[UD]⟩ rfl
end
theorem Mq(W1:Nat->Bool):∀a:AV,(a.drop W1).drop W1=a.drop W1
 |.AB ks t x=>by
  simp only[AV.drop];split
  ·rfl
  ·rename_i h;simp only[AV.drop,AMp h]
 |.Fv ks t x=>by
  simp only[AV.drop];split
  ·rfl
  ·rename_i h;simp only[AV.drop,AMp h]
 |.TA k i p o e=>by
  simp only[AV.drop];split
  ·rfl
  ·rename_i h;simp only[AV.drop,AMp h]
 |.Vs k i p o j u=>by
  simp only[AV.drop];split
  ·rfl
  ·rename_i h;simp only[AV.drop,AMp h]
 |.pr a b=>by simp only[AV.drop,Mq W1 a,Mq W1 b]
 |.fn f c=>by simp only[AV.drop,Mq W1 c]
 |.cons a b=>by simp only[AV.drop,Mq W1 a,Mq W1 b]
 |.zs=>rfl
 |.AG _=>rfl
 |.ptr _ _ _ _=>rfl
 |.JU=>rfl
 |.nil=>rfl
 |.mp _=>rfl
 |.un _=>rfl
theorem kr(W1:Nat->Bool):∀b:Blk,(b.drop W1).drop W1=b.drop W1
 |.box a=>by simp only[Blk.drop,Mq]
 |.row e m t xs=>by cases h:m.Ct.any W1<;>simp[Blk.drop,h]
 |.map m kt vt es st=>by cases h:m.Ct.any W1<;>simp[Blk.drop,h]
 |.QU _ _ _ _ _=>rfl
 |.tail _ _ _=>rfl
 |.A9=>rfl
theorem ku{bs:APH Blk}{k:Nat}{X Y:Blk}:(Ba [k] ((Blk.GF (Ba [k] bs) []).set k X)).set k Y=(Ba [k] bs).set k Y:=by
 apply ANi;intro i;by_cases h:i=k
 ·subst h;simp only[AMv];simp[AF,A7]
 ·have h' :=Ne.symm h;rw[AOc h',AOc h'];unfold Ba;rw[AMz,AOc h'];unfold Blk.GF;simp;cases bs[i]? with
  |none=>simp
  |some y=>simp[kr]
section
variable {kt vt:Ty}
theorem pQ{k:kt.V}:∀{es:APH (kt.V×vt.V)} {j:Nat} {x:kt.V×vt.V},es[j]?=some x->Bd kt k x.1=true->(∀i,i<j->∀y,es[i]?=some y->Bd kt k y.1=false)->Xo kt vt es k=j
 |y::r,0,x,h,he,_=>by
  simp at h;subst h;unfold Xo;rw[he];rfl
 |y::r,j+1,x,h,he,hn=>by
  unfold Xo;rw[hn 0 (by omega) y rfl,AMl,pQ  (j:=j) (by grind) he λi hi z hz=>hn (i+1) (by omega) z (by grind)]
 |[],_,_,h,_,_=>by grind
theorem tK{k:kt.V}:∀{es:APH (kt.V×vt.V)},(∀(i:Nat) y,es[i]?=some y->Bd kt k y.1=false)->Xo kt vt es k=es.length
 |[],_=>rfl
 |y::r,h=>by
  unfold Xo;rw[h 0 y rfl,tK  λi z hz=>h (i+1) z (by grind)];rfl
theorem ud{He:Array MapEntry}{j:Nat}{m:MapEntry}{v:Value}(h:He[j]?=some m)(hk:m.key=v):He.modify j (λe=>{e with key:=v})=He:=by
 apply Array.ext_getElem?;intro i;rw[ANA];split
 ·rename_i e;subst e;rw[h];simp[<-hk]
 ·rfl
theorem AbB{w:World}{b:Nat}{o:Obj}(h:w.heap[b]?=some o):({w with heap:=w.heap.setIfInBounds b o}:World)=w:=by
 have:w.heap.setIfInBounds b o=w.heap:=by
  grind
 rw[this]
theorem AFd{P:Program}{w:World}{g:G}{bs:APH Blk}(H:Bf w g bs){k:Nat}{u:Ty}{tk:TI}{es:APH (tk.ty.V×(Ty.sl u).V)}(hb:bs[k]?=some (.map .Aw tk.ty (.sl u) es none)){ax:AV}{key:tk.ty.V}(hx:rd bs tk.ty ax=some key){mv xv:Value}(hAm:B4 w g bs.length (.mp k) mv)(hAx:B4 w g bs.length ax xv)
    {t:TypeId} {ti te:TI} (ht:ES P t ti) (pe:ti.N5≠0) (D9:ES P ti.elem te) (hvt:.sl u=te.ty) (VE:tk.ty.El=true) (hu:u.size≠0) (K:tk.ty.El=true->j9 P ti.N5 tk.ty) :
    ∃v w' g',(Instr.mapEntry t mv xv).run P w=.ok (.tuple #[v,.int .i64 (Xo tk.ty (.sl u) es key:Nat)]) w' /\
     Bf w' g' ((Ba [k] bs).set k (.map .Aw tk.ty (.sl u) (Ch tk.ty (.sl u) es key (Bn tk.ty (.sl u) es key)) (some key))++[.row 0 .Aw u (Bn tk.ty (.sl u) es key)])/\B4 w' g' (bs.length+1) (.AG bs.length) v/\Step [k] bs.length w g w' g':=by
 obtain⟨hk,b,Nt,qQ⟩:=gG hAm;obtain⟨QT,b',He,DC,ha,Cs,hh,RH,iN⟩:=H.LP k _ hb;rw[Nt]at ha;injection ha with ha;injection ha with ha;subst ha;have iL:=iX H VE hx hAx;have Rb:=ht.mp pe;have hl:He.toList.length=es.length:=iN.len;rcases aT (K VE) iN key with ⟨j,x,m,h1,h2,h3,h4,h5,h6,h7,⟨h8,h8b⟩,hf⟩|⟨h1,h2,h3,hf⟩
 ·have hJ:es[j]?=some (key,x.2):=by rw[h1,<-h2]
  obtain⟨sF,AJ1,g1,H1,st,y9,_⟩:=AlT H hb hu hJ Nt hh h3;have hg:Bn tk.ty (.sl u) es key=x.2:=by unfold Bn;rw[h5];rfl
  have hp:Ch tk.ty (.sl u) es key x.2=es:=by
   rw[h6];apply ANi;intro i;rw[AMv];split
   ·rename_i e;subst e;rw[AMo (A3 hJ),hJ]
   ·rfl
  have sP:Xo tk.ty (.sl u) es key=j:=pQ hJ (Wz VE) h4;refine⟨m.val,w,g1,?_,by rw[hg,hp];exact H1,y9,st⟩;rw[qQ,iL];have hw:=AbB (o:=.map (He.modify j λe=>{e with key:=Fc tk.ty key}) DC) (by rw[ud h3 h8];exact hh);simp[Instr.mapEntry,underlying,Rb,MapKept.run_getObj_map hh,(K VE).check,hf,h3,h8,(K VE).stays,MapKept.run_setObj_map _ hh,hw,sP,sF,goInt]
 ·obtain⟨z,hz,hzv⟩:=uR D9 w;rw[<-hvt]at hzv;have hzs:z=.slice none 0 0:=by
   have:[Value.slice none 0 0]=[z]:=hzv;injection this with h _;exact h.symm
  subst hzs;have hg:Bn tk.ty (.sl u) es key=[]:=by unfold Bn;rw[h2];rfl
  have sP:Xo tk.ty (.sl u) es key=es.length:=tK h1;have hA0:B4 w g bs.length .zs (.slice none 0 0):=Bs (cs:=[_]) rfl ⟨none,rfl⟩ rfl;have AGx:b7 bs tk te (.mp k) ax .zs some=some ⟨.un 0,(Blk.GF (Ba [k] bs) []).set k (.map .Aw tk.ty (.sl u) (Ch tk.ty (.sl u) es key []) none),[k]⟩:=by
   have Zb:take bs .Aw (.sl u) .zs=some ([],.Aw,[]):=by simp[take,rd,AV.QW,AV.XG,nodup]
   unfold b7;simp only[hb,hx,Zb];rw[AMo ⟨trivial,hvt,VE,by rfl,by rfl⟩]
  obtain⟨_,_,_,w',g',D8,H',st'⟩:=As3 H hAm hAx hA0 ht pe K AGx;have hw:w'={w with heap:=w.heap.setIfInBounds b (.map (He.push {key:=Fc tk.ty key,val:=.slice none 0 0,born:=DC}) (DC+1))}:=by
   rw[qQ,iL]at D8;simp[Instr.mapUpdate,underlying,Rb,MapKept.run_getObj_map hh,(K VE).check,hf,MapKept.run_setObj_map _ hh]at D8;exact D8.symm
  have Bm:b<w.heap.size:=T2 H (by rw[Cs];simp);have za:((Blk.GF (Ba [k] bs) []).set k (Blk.map .Aw tk.ty (.sl u) (Ch tk.ty (.sl u) es key []) none))[k]?=some (.map .Aw tk.ty (.sl u) (Ch tk.ty (.sl u) es key []) none):=by
   rw[List.getElem?_set_self (by simpa [A7,AF]using hk)]
  have hJ:(Ch tk.ty (.sl u) es key [])[es.length]?=some (key,[]):=by rw[h3];simp
  have AFw:(g'.AZ k).a=some ⟨b,0,none⟩:=by rw[st'.AZ k hk];exact Nt
  have hh':w'.heap[b]?=some (.map (He.push {key:=Fc tk.ty key,val:=.slice none 0 0,born:=DC}) (DC+1)):=by
   rw[hw];simp[Bm]
  have Mv:He.size=es.length:=by rw[<-hl];simp
  have hm:(He.push {key:=Fc tk.ty key,val:=.slice none 0 0,born:=DC})[es.length]?=some {key:=Fc tk.ty key,val:=.slice none 0 0,born:=DC}:=by
   rw[<-Mv];simp
  obtain⟨sF,_,g1,H1,Q4,y9,_⟩:=AlT H' za hu hJ AFw hh' hm;have wO:((Blk.GF (Ba [k] bs) []).set k (Blk.map .Aw tk.ty (.sl u) (Ch tk.ty (.sl u) es key []) none)).length=bs.length:=by simp[A7,AF]
  rw[wO]at y9 Q4;rw[ku]at H1;have O7:=st'.trans Q4 (AMc _);refine⟨.slice none 0 0,w',g1,?_,by rw[hg];exact H1,y9,⟨O7.os,O7.tape,O7.output,O7.size,O7.no,O7.Ir,λb k' p h1 h2 h3=>O7.BO b k' p h1 h2 (by simpa using h3),O7.AZ⟩⟩;have sF:DC=es.length:=sF;rw[qQ,iL,hw];simp[Instr.mapEntry,underlying,Rb,MapKept.run_getObj_map hh,(K VE).check,hf,hz,MapKept.run_setObj_map _ hh,sP,sF,goInt]
variable {P:Program} {σ:St} {o:Oper} {en:Gx} {e:HO}
theorem Ako{t:TypeId}{m x:Operand}(ho:o.op=.mapEntry t m x){ti tk te:TI}(ht:ES P t ti)(pe:ti.N5≠0)(D9:ES P ti.elem te)(K:tk.ty.El=true->j9 P ti.N5 tk.ty)
    (h:AaL σ.Aj tk te (σ.Ci m) (σ.Ci x) some=some e):Nr P σ o e:=by
 unfold AaL at h;split at h
 ·rename_i k hm;split at h
  ·rename_i kt u es hb;split at h
   ·rename_i key hx;split at h
    ·rename_i hc;obtain⟨rfl,hvt,VE,hu⟩:=hc;injection h with h;subst h;refine⟨by simp[AF],λh=>(by grind),λa w g BH next Q hn=>?_⟩
     have hAm:=AQ BH m;rw[hm]at hAm;obtain⟨v,w',g',D8,hH,y9,st⟩:=AFd BH.heap hb hx hAm (AQ BH x) ht pe D9 hvt VE hu K;have Y9:(execOp a.eval o).run P w=.ok (.value (.tuple #[v,.int .i64 (Xo _ _ es key)])) w':=by
      simp[execOp,ho,D8]
     unfold Oper.wp;rw[Y9];have UG:((Ba [k] σ.Aj).set k (Blk.map .Aw _ _ (Ch _ _ es key (Bn _ _ es key)) (some key))++[Blk.row 0 .Aw u (Bn _ _ es key)]).length=σ.Aj.length+1:=by simp[AF]
     refine hn _ w' g' hH ?_ st;rw[UG];have hr:=(B4.iff  rfl).1 y9;exact⟨[v,.int .i64 _],rfl,v,[.int .i64 _],rfl,hr,_,[],rfl,.inr ⟨[.int .i64 _],⟨λ_ h=>(by grind),rfl⟩,rfl⟩,rfl⟩
    ·grind
   ·grind
  ·grind
 ·grind
theorem Air{w:World}{g:G}{n:Nat}:∀{kt:Ty} {x:kt.V},kt.El=true->B4 w g n (.AB [] kt x) (Fc kt x):=by
 intro kt x hk;have key:∀cs,HE w (Al g.own []) kt x cs->Cr kt.isAgg cs (Fc kt x)->B4 w g n (.AB [] kt x) (Fc kt x):=λcs h1 h2=>Bs (cs:=cs) rfl ⟨λ_ h=>(by cases h),h1⟩ h2
 match kt,x,hk with
 |.int q,x,_=>exact key [.int q x] rfl rfl
 |.str,x,_=>exact key [.string x] rfl rfl
 |.AE (.int q) (.AE (.int q') .unit),x,_=>exact key [.int q x.1,.int q' x.2.1] ⟨[_],[_],rfl,rfl,[_],[],rfl,rfl,rfl⟩ rfl
theorem AgK{t:TypeId}{m j v:Operand}(ho:o.op=.entryStore t m j v){ti tk te:TI}(ht:ES P t ti)(pe:ti.N5≠0)(K:tk.ty.El=true->j9 P ti.N5 tk.ty)
    (h:AaM σ.Aj tk te (σ.Ci m) (σ.Ci j) (σ.Ci v) some=some e):Nr P σ o e:=by
 unfold AaM at h;split at h
 ·rename_i k hm;split at h
  ·rename_i md kt vt es key hb;split at h
   ·rename_i n hj;split at h
    ·rename_i hc;obtain⟨hkt,VE⟩:=hc;subst hkt;obtain⟨hn,hmh,h⟩:n=Int.ofNat (Xo tk.ty vt es key)/\S5 tk.ty vt es key=true/\b7 σ.Aj tk te (σ.Ci m) (.AB [] tk.ty key) (σ.Ci v) some=some e:=by
      cases hq:VP tk.ty vt es key n with
      |false=>rw[hq]at h;cases h
      |true =>
       rw[hq,AMm]at h;simp only[VP,AMd,ANf]at hq;exact⟨hq.1,hq.2,h⟩
     obtain⟨s1,s2⟩:=jU h;refine⟨by rw[s2];exact AMc _,λh=>(s1 h).elim,λa w g BH next Q hnx=>?_⟩
     have hAm:=AQ BH m;rw[hm]at hAm h;obtain⟨h1,h2,h3,w',g',D8,hH,st⟩:=As3 BH.heap hAm (Air VE) (AQ BH v) ht pe K h;obtain⟨hk,b,Nt,qQ⟩:=gG hAm;obtain⟨QT,b',He,DC,ha,Cs,hh,RH,iN⟩:=BH.heap.LP k _ hb;rw[Nt]at ha;injection ha with ha;injection ha with ha;subst ha;have hjv:a.eval j=.int .i64 n:=iX (kt:=.int .i64) BH.heap rfl hj (AQ BH j);have Rb:=ht.mp pe;have Y9:(execOp a.eval o).run P w=.ok .skip w':=by
      rcases aT (K VE) iN key with ⟨J,x,mm,sA,h2',h3',sB,h5',h6',h7',⟨h8,h8b⟩,hf⟩|⟨_,h2',_,_⟩
      ·have hJ:es[J]?=some (key,x.2):=by rw[sA,<-h2']
       have sP:Xo tk.ty vt es key=J:=pQ hJ (Wz VE) sB;rw[sP]at hn;rw[qQ]at D8;simp[Instr.mapUpdate,underlying,Rb,MapKept.run_getObj_map hh,(K VE).check,hf,h3',h8,(K VE).stays,MapKept.run_setObj_map _ hh]at D8;have hJl:J<He.size:=by
        have:=A3 (show He.toList[J]?=some mm by rw[AMk];exact h3');simpa using this
       have AFO:He.findIdx? (λe=>(e.born:Int)==n)=some J:=by
        rw[Array.findIdx?_eq_some_iff_getElem];have hbn:∀i (h:i<He.size),He[i].born=i:=λi hi=>by
         have qR:i<es.length:=by rw[<-iN.len];simpa using hi
         obtain⟨m',q1,⟨_,q2⟩,_⟩:=iN.get (ANd qR);rw[AMk,AMY hi]at q1;injection q1 with q1;rw[q1,q2];omega
        refine⟨hJl,by rw[hbn,hn];simp,λi hi=>?_⟩;rw[hbn,hn];simp;omega
       have Afj:He.modify J (λe=>{e with val:=a.eval v})=He.modify J (λe=>{e with key:=Fc tk.ty key,val:=a.eval v}):=by
        apply Array.ext_getElem?;intro i;rw[ANA,ANA];split
        ·rename_i e;subst e;rw[h3'];simp[h8]
        ·rfl
       simp[execOp,ho,qQ,hjv,Instr.entryStore,asInt,asIntOf,MapKept.run_getObj_map hh,AFO,MapKept.run_setObj_map _ hh,Afj,D8]
      ·simp[S5,h2']at hmh
     unfold Oper.wp;rw[Y9];exact hnx undef w' g' hH (by rw[h3];exact QK) st
    ·cases h
   ·cases h
  ·cases h
 ·cases h
end
section
variable {P:Program} {σ:St} {o:Oper}
def xp:TypeDesc->Bool
 |.int _=>true
 |.bool=>true
 |.string=>true
 |_=>false
theorem jo{t:TypeId}{d:TypeDesc}(hu:P.underlying t=some d)(hd:xp d=true){w:World}{cs:Array Value}{i:Nat}{v:Value}(h:cs[i]?=some v):(part t cs i).run P w=.ok v w:=by
 cases d<;>simp[xp]at hd<;>simp[part,isAgg,underlying,hu,h]
theorem yN(d:Nat)(w:World):∀(t:Ty) (p q:APH Value) (fs:APH Field) (u v:t.V) (n:Nat),p.length=n->q.length=n->VQ P t n fs=true->(Op.eqFields (d+1) (p++Ko t u).toArray (q++Ko t v).toArray fs).run P w=.ok (Ns t u v) w
 |.unit,p,q,[],u,v,n,_,_,_=>by simp[Op.eqFields,Ns]
 |.AE a b,p,q,f::fs,u,v,n,hp,hq,h=>by
  simp only[VQ,AMd,ANy,ANf]at h;obtain⟨⟨⟨h1,h2⟩,h3⟩,h4⟩:=h;have key:∀(x y:Value) (r:Bool) (dd:TypeDesc),Ko a u.1=[x]->Ko a v.1=[y]->P.underlying f.type=some dd->xp dd=true ->
      (Op.equalIn (d+1) f.type x y).run P w=.ok r w->r=Ns a u.1 v.1->(Op.eqFields (d+1) (p++Ko (.AE a b) u).toArray (q++Ko (.AE a b) v).toArray (f::fs)).run P w=.ok (Ns (.AE a b) u v) w:=by
   intro x y r dd hx hy hu hd he hr;have ih:=yN d w b (p++[x]) (q++[y]) fs u.2 v.2 (n+1) (by simp[hp]) (by simp[hq]) h4;have ex:p++Ko (.AE a b) u=p++[x]++Ko b u.2:=by simp[Ko,hx]
   have ey:q++Ko (.AE a b) v=q++[y]++Ko b v.2:=by simp[Ko,hy]
   rw[ex,ey];have px:(part f.type (p++[x]++Ko b u.2).toArray n).run P w=.ok x w:=jo hu hd (by simp[<-hp]);have py:(part f.type (q++[y]++Ko b v.2).toArray n).run P w=.ok y w:=jo hu hd (by simp[<-hq]);simp only[Op.eqFields,h1,ne_eq,not_false_eq_true,AMR,Sem.run_bind,h2,px,py,Result.andThen_ok,he];subst hr;cases hq:Ns a u.1 v.1 with
   |false=>simp[Ns,hq]
   |true=>simp only[AMP,AMU,ANz];rw[ih];simp[Ns,hq]
  split at h3
  ·rename_i k k' hu;rw[ANf]at h3;subst h3;exact key _ _ _ _ rfl rfl hu rfl (dM hu d w _ _) rfl
  ·rename_i hu;exact key _ _ _ _ rfl rfl hu rfl (by simp[Op.equalIn,underlying,hu];rfl) rfl
  ·rename_i hu;exact key _ _ _ _ rfl rfl hu rfl (by simp[Op.equalIn,underlying,hu]) uF.symm
  ·cases h3
 |.unit,_,_,_::_,_,_,_,_,_,h=>by simp[VQ]at h
 |.AE _ _,_,_,[],_,_,_,_,_,h=>by simp[VQ]at h
 |.int _,_,_,_,_,_,_,_,_,h=>by simp[VQ]at h
 |.bool,_,_,_,_,_,_,_,_,h=>by simp[VQ]at h
 |.str,_,_,_,_,_,_,_,_,h=>by simp[VQ]at h
 |.sl _,_,_,_,_,_,_,_,_,h=>by simp[VQ]at h
 |.QV _,_,_,_,_,_,_,_,_,h=>by simp[VQ]at h
theorem lM:∀{t:Ty} {n:Nat} {fs:APH Field},VQ P t n fs=true->t.BP=true/\t.isAgg=true
 |.unit,_,[],_=>⟨rfl,rfl⟩
 |.AE a b,n,f::fs,h=>by
  simp only[VQ,AMd]at h;obtain⟨⟨_,h3⟩,h4⟩:=h;have:=(lM h4).1;refine⟨?_,rfl⟩;split at h3<;>first |(cases h3;done)|simp[Ty.BP,this]
 |.unit,_,_::_,h=>by simp[VQ]at h
 |.AE _ _,_,[],h=>by simp[VQ]at h
 |.int _,_,_,h=>by simp[VQ]at h
 |.bool,_,_,h=>by simp[VQ]at h
 |.str,_,_,h=>by simp[VQ]at h
 |.sl _,_,_,h=>by simp[VQ]at h
 |.QV _,_,_,h=>by simp[VQ]at h
theorem Akp{DU:yg}(ht:eH P DU=true){op:BinOp}{t yt:TypeId}{x y:Operand}(ho:o.op=.binOp op t x y yt){z:AV}(h:eqS σ.Aj DU op t (σ.Ci x) (σ.Ci y)=some z):Nr P σ o ⟨z,σ.Aj,[]⟩ :=
 .Is <| Lh (s:=λρ=>do eqGuard op t x y (ρ x) (ρ y);binOp op t (ρ x) (ρ y)) (λρ=>by simp[execOp,ho]) λa w g BH=>by
  unfold eqS at h;split at h
  ·rename_i ti hti;split at h
   ·rename_i he;have hT:=ES.of ht hti;have heq:=hT.eqs he;unfold AeL at heq;split at heq
    ·rename_i fs hu;simp only[AMd,ANu]at heq;obtain⟨⟨h1,h2⟩,h3⟩:=heq;have hF:P.fieldsOf t=fs:=by simp[Program.fieldsOf,hu]
     obtain⟨ACc,sE⟩:=lM h3;have get:∀(X:Operand) (u:ti.ty.V),rd σ.Aj ti.ty (σ.Ci X)=some u->a.eval X=.agg (Ko ti.ty u).toArray:=λX u hr=>by
      obtain⟨q1,q2⟩:=Vu hr;obtain⟨cs,SI,hv⟩:=B3 q1 q2 (AQ BH X);rw[ZR hr,sE]at hv;have:=(HE.BP ACc).1 (Qe BH.heap _ _ u cs hr SI).1;subst this;exact hv
     have run:∀u v:ti.ty.V,(Op.equalIn 10000 t (.agg (Ko ti.ty u).toArray) (.agg (Ko ti.ty v).toArray)).run P w=.ok (Ns ti.ty u v) w:=λu v=>by
      rw[show(10000:Nat)=9999+1 from rfl,run_equalIn_struct w 9999 t _ _ (by rw[hF];exact hu) h1,hF];have:=yN (P:=P) 9998 w ti.ty [] [] fs.toList u v 0 rfl rfl h3;simpa using this
     split at h
     ·split at h
      ·rename_i u v hx hy;injection h with h;subst h;refine⟨.bool (Ns ti.ty u v),?_,bu _⟩;simp only[get x u hx,get y v hy,Sem.run_bind,run_eqGuard_agg w .eql t x y _ _ h2,Result.andThen_ok,run_eql_struct,run]
      ·cases h
     ·split at h
      ·rename_i u v hx hy;injection h with h;subst h;refine⟨.bool (!Ns ti.ty u v),?_,bu _⟩;simp only[get x u hx,get y v hy,Sem.run_bind,run_eqGuard_agg w .neq t x y _ _ h2,Result.andThen_ok,run_neq_struct,run]
      ·cases h
     ·cases h
    ·cases heq
   ·cases h
  ·cases h
end
structure EnvOk (P:Program) (en:Gx):Prop where
 DU:eH P en.DU=true
 fns:∀g c,en.fns g=some c->Aq P g c
theorem EnvOk.Zj{P:Program}{en:Gx}(h:EnvOk P en):YW en:=λg c hc=>(h.fns g c hc).Zj
section
variable {P:Program} {σ:St} {o:Oper} {en:Gx} {e:HO}
theorem EnvOk.t(he:EnvOk P en){t:Nat}{ti:TI}(h:en.DU.get t=some ti):ES P t ti:=ES.of he.DU h
theorem lA{w:World}{g:G}{a:Act}(hs:KO w g σ a):∀(l:APH Operand),Dz w g σ.Aj.length (l.map σ.Ci) (l.map a.eval)
 |[]=>trivial
 |x::l=>⟨AQ hs x,lA hs l⟩
theorem ly{w:World}{g:G}{n:Nat}:∀{l k:APH AV} {xs ys:APH Value},Dz w g n l xs->Dz w g n k ys->Dz w g n (l++k) (xs++ys)
 |[],_,[],_,_,h=>h
 |_::_,_,_::_,_,h1,h2=>⟨h1.1,ly h1.2 h2⟩
 |[],_,_::_,_,h,_=>h.elim
 |_::_,_,[],_,h,_=>h.elim
theorem Alc{w:World}{g:G}{n:Nat}:∀{a:AV} {vs:APH Value},CG w g n true a vs->Dz w g n (yI a) vs
 |.cons a b,_,⟨v,r,e,h1,h2⟩=>by
  subst e;refine⟨?_,Alc h2⟩;have ht:a.Dj=false:=by
   rcases h1 with h |⟨cs,h,_⟩
   ·cases a<;>first |rfl |simp[AV.NC]at h
   ·exact Vr h
  exact(B4.iff ht).2 h1
 |.nil,_,h=>by cases h;trivial
 |.TA _ _ _ _ _,_,h=>h.elim
 |.Vs _ _ _ _ _ _,_,h=>h.elim
 |.AB _ _ _,_,h=>h.elim
 |.zs,_,h=>h.elim
 |.AG _,_,h=>h.elim
 |.mp _,_,h=>h.elim
 |.ptr _ _ _ _,_,h=>h.elim
 |.Fv _ _ _,_,h=>h.elim
 |.JU,_,h=>h.elim
 |.pr _ _,_,h=>h.elim
 |.fn _ _,_,h=>h.elim
 |.un _,_,h=>h.elim
theorem AgI(he:EnvOk P en){c:Call}(ho:o.op=.call c){fo:Operand}(hc:c.callee=.value fo){g0:Nat}{Zy:AV}(hf:σ.Ci fo=.fn g0 Zy){ca:Callee}(hg:en.fns g0=some ca)(h:gU ca σ.Aj (O2 σ c.args++yI Zy) some=some e):Nr P σ o e:=by
 obtain⟨h1,h2,h3⟩:=AaA (he.fns _ _ hg) h;refine⟨h1,h2,λa w g hs next Q hn=>?_⟩
 have hv:=AQ hs fo;rw[hf]at hv;obtain⟨cs,⟨vs,e1,hx⟩,SI⟩:=B3 rfl rfl hv;have e2 :=by
  subst e1;simpa [AV.isAgg]using SI.symm
 have hr:(execOp a.eval o).run P w=(callFunc g0 (c.args.toList.map a.eval++vs).toArray).run P w:=by
  have:(c.args.toList.map a.eval++vs).toArray=#[]++c.args.map a.eval++vs.toArray:=by
   simp
  rw[this];simp[execOp,ho,resolve,hc,e2,Deferred.ofValue,invoke]
 unfold Oper.wp;rw[hr];exact h3 w g _ hs.heap (ly (lA hs _) (Alc hx)) o a next Q hn
theorem lL(he:EnvOk P en){ti:TI}(u:Ty)(h:(match en.DU.get ti.elem with |some te=>if ti.Eh=true then some te.ty else none |none=>none)=some u):ti.Eh=true/\∃kn,kn.ty=u/\ES P ti.elem kn:=by
 split at h
 ·rename_i te D9;split at h
  ·rename_i Iw;injection h with h;exact⟨Iw,te,h,he.t D9⟩
  ·grind
 ·grind
theorem AgL{t:TypeId}{x i:Operand}(ho:o.op=.indexAddr t x i){ti te:TI}(ht:ES P t ti)(D9:ES P ti.elem te)(Iw:ti.Eh=true){k:Nat}{i0:Int}{p:APH Nat}{f e0:Nat}(hx:σ.Ci x=.TA k i0 p f e0){ks:APH Nat}{kk:IntKind}{j:Int}(hi:σ.Ci i=.AB ks (.int kk) j)
    {ek:Nat} {tr:Ty} {xs:APH tr.V} (hb:σ.Aj[k]?=some (.row ek .Aw tr xs)) {ys:APH te.ty.V} (hg:iG (.sl te.ty) p tr (xs.getD i0.toNat tr.zero)=some ys) {x':tr.V} (hs:Ss (.sl te.ty) [] p tr (xs.getD i0.toNat tr.zero)=some x')
    (hu:te.ty.size≠0) (pg:Lg tr p=some f) (hj:0<=j/\j<(ys.length:Int)):Nr P σ o ⟨.Vs k i0 p f j te.ty,σ.Aj,[]⟩ :=
 .Is <| Lh (s:=λρ=>Instr.indexAt t (ρ x) (ρ i)) (λρ=>by simp[execOp,ho]) λa w g BH=>by
  have W6:=AQ BH x;rw[hx]at W6;have hii:=AQ BH i;rw[hi]at hii;have hii:=Dx hii;obtain⟨cs,⟨hk,h0,h1,b,v,Nt,Cs,e1,e2,DF⟩,hval⟩:=B3 rfl rfl W6;subst e1;have hv:a.eval x=v:=by
   have:[v]=[a.eval x]:=hval
   grind
  obtain⟨g1,H1,Q4,AaZ,_,_⟩:=Ys BH.heap hb h1 hg pg hu Nt DF hs;obtain⟨_,hvs⟩:=Fe AaZ;obtain⟨_,Als,ACa,_,dT⟩:=H1.LP σ.Aj.length (.row 0 .Aw _ ys) (by simp[AF]);have Bm :=Wk hj;rcases dT with ⟨Zd,_⟩|⟨b',BA,ds,ha,_⟩
  ·grind
  ·rw[ha,Als]at hvs;have Rb:=Bw ht Iw;refine⟨.pointer (some ⟨b',j.toNat*te.ty.size,none⟩),?_,Bs  rfl ⟨hk,h0,h1,b,b',_,_,Nt,Cs,rfl,⟨hj.1,Bm⟩,by rw[DF,hvs]⟩ (by simp[Cr,AV.isAgg])⟩;rw[hv,hii,hvs];simp[Instr.indexAt,asIntOf,underlying,Rb,hj.1,hj.2,DL D9,YY]
theorem jL{t:TypeId}{x i:Operand}(ho:o.op=.indexAddr t x i){ti te:TI}(ht:ES P t ti)(D9:ES P ti.elem te)(Iw:ti.Eh=true){z:AV}(h:tg σ.Aj te.ty (σ.Ci x) (σ.Ci i) some=some z):Nr P σ o ⟨z,σ.Aj,[]⟩:=by
 unfold tg at h;split at h
 ·rename_i k i0 p f e0 ks kk j hx hi;split at h
  ·rename_i ek tr xs hb;split at h
   ·rename_i ys x' hg hs;split at h
    ·rename_i hc;split at h
     ·rename_i hj;injection h with h;subst h;exact AgL ho ht D9 Iw hx hi hb hg hs hc.1 hc.2 hj
     ·grind
    ·grind
   ·grind
  ·grind
 ·exact kV ho ht D9 Iw h
theorem cO(he:EnvOk P en)(h:QY en σ o some=some e):Nr P σ o e:=by
 unfold QY at h
 dsimp only at h
 split at h
 ·rename_i x ho;injection h with h;subst h;exact uo (.inl ho)
 ·rename_i x ho;injection h with h;subst h;exact uo (.inr ho)
 ·rename_i c a b ho;split at h
  ·rename_i ks t hc;have:=AgU (P:=P) ho hc;cases t
   ·injection h with h;subst h;exact this
   ·injection h with h;subst h;exact this
  ·cases h
 ·rename_i el ho;split at h
  ·rename_i ti ht;injection h with h;subst h;exact AbI ho (he.t ht)
  ·cases h
 ·rename_i el x ho;split at h
  ·rename_i ht;injection h with h;subst h;exact Akm ho ht
  ·cases h
 ·rename_i t G3 ho;split at h
  ·rename_i ti ht;split at h
   ·cases h
   ·rename_i pg;split at h
    ·rename_i v hv;injection h with h;subst h;exact AbK ho (he.t ht) (λe=>pg (by rw[e];rfl)) hv
    ·cases h
  ·cases h
 ·rename_i t len G3 ho;split at h
  ·rename_i ti ht;split at h
   ·rename_i te D9;split at h
    ·rename_i m xs rs hp;split at h
     ·rename_i hc;obtain⟨h1,h2⟩:=jK ho (he.t ht) (he.t D9) hp hc;split at h
      ·rename_i h0;injection h with h;subst h;exact h1 h0
      ·rename_i h0;injection h with h;subst h;exact h2 h0
     ·cases h
    ·cases h
   ·cases h
  ·cases h
 ·rename_i t x ho;split at h
  ·rename_i ti ht;split at h
   ·split at h
    ·rename_i Iw;exact AbR ho (he.t ht) Iw h
    ·cases h
   ·obtain⟨z,hz,rfl⟩:=Xh (f:=λR K=>Zi σ.Aj ti (σ.Ci x) K) (λR K=>mg ..) (g:=λv=>⟨v,σ.Aj,[]⟩) h;exact AgO ho (he.t ht) hz
  ·cases h
 ·rename_i t r ho;split at h
  ·rename_i ti ht;split at h
   ·cases h
   ·rename_i hr;split at h
    ·rename_i tk te Zb D9;split at h
     ·injection h with h;subst h;have:r=none:=by cases r<;>simp_all
      subst this;exact um ho (Uf _ _)
     ·cases h
    ·cases h
  ·cases h
 ·rename_i t m x ok ho;split at h
  ·rename_i ti ht;split at h
   ·rename_i tk te Zb D9;split at h
    ·rename_i hc;split at h
     ·split at h
      ·cases h
      ·rename_i dR;have:ok=false:=by simpa using dR
       subst this;exact AbP ho (he.t ht) hc.1 (he.t D9) hc.2.1 (λhk=>j9.of he.DU (he.t Zb) hk hc.2.2) h
     ·obtain⟨z,hz,rfl⟩:=Xh (f:=λR K=>ei σ.Aj tk te ok (σ.Ci m) (σ.Ci x) K) (λR K=>mh ..) (g:=λv=>⟨v,σ.Aj,[]⟩) h;exact AgP ho (he.t ht) hc.1 (he.t D9) hc.2.1 (λhk=>j9.of he.DU (he.t Zb) hk hc.2.2) hz
    ·cases h
   ·cases h
  ·cases h
 ·rename_i t m x v ho;split at h
  ·rename_i ti ht;split at h
   ·rename_i tk te Zb D9;split at h
    ·rename_i hc;exact zI (.inl ho) (he.t ht) hc.1 (λhk=>j9.of he.DU (he.t Zb) hk hc.2.2) h
    ·cases h
   ·cases h
  ·cases h
 ·rename_i t m x v ho;split at h
  ·rename_i ti ht;split at h
   ·rename_i tk te Zb D9;split at h
    ·rename_i hc;exact zI (.inr ho) (he.t ht) hc.1 (λhk=>j9.of he.DU (he.t Zb) hk hc.2.2) h
    ·cases h
   ·cases h
  ·cases h
 ·rename_i t m x ho;split at h
  ·rename_i ti ht;split at h
   ·rename_i tk te Zb D9;split at h
    ·rename_i hc;exact Ako ho (he.t ht) hc.1 (he.t D9) (λhk=>j9.of he.DU (he.t Zb) hk hc.2) h
    ·cases h
   ·cases h
  ·cases h
 ·rename_i t m x v ho;split at h
  ·rename_i ti ht;split at h
   ·rename_i tk te Zb D9;split at h
    ·rename_i hc;exact AgK ho (he.t ht) hc.1 (λhk=>j9.of he.DU (he.t Zb) hk hc.2) h
    ·cases h
   ·cases h
  ·cases h
 ·rename_i t x v ho;split at h
  ·rename_i ti ht;exact AbS ho (he.t ht) h
  ·cases h
 ·rename_i x ho;split at h
  ·rename_i k i p q hx;injection h with h;subst h;rw[<-hx];exact bX ho λw g n v hv=>by rw[hx]at hv;exact pU hv
  ·rename_i ks t y hx;injection h with h;subst h;rw[<-hx];exact bX ho λw g n v hv=>by rw[hx]at hv;exact pV hv
  ·cases h
 ·rename_i op t x y yt ho;split at h
  ·rename_i z hz;injection h with h;subst h;exact Akp he.DU ho hz
  obtain⟨z,hz,rfl⟩:=Xh (f:=λR K=>od op (match en.DU.get t with |some ti=>ti.ty==.bool |none=>false) (σ.Ci x) (σ.Ci y) K) (λR K=>rA ..) (g:=λv=>⟨v,σ.Aj,[]⟩) h
  refine AbJ ho (λhb=>?_) hz;split at hb
  ·rename_i ti ht;exact wo (he.t ht) (by simpa using hb)
  ·cases hb
 ·rename_i op t x ho;obtain⟨z,hz,rfl⟩:=Xh (f:=λR K=>unA op (σ.Ci x) K) (λR K=>zP ..) (g:=λv=>⟨v,σ.Aj,[]⟩) h;exact AgV ho hz
 ·rename_i s t x ho;split at h
  ·rename_i ts ti Zc ht;obtain⟨z,hz,rfl⟩:=Xh (f:=λR K=>aE σ.Aj (match en.DU.get ts.elem with |some te=>if ts.Eh=true then some te.ty else none |none=>none) ti.ty (σ.Ci x) K) (λR K=>lH ..) (g:=λv=>⟨v,σ.Aj,[]⟩) h
   exact uj ho (he.t Zc) (he.t ht) (lL he) hz
  ·cases h
 ·rename_i fn first Zy ho
  split at h
  ·split at h
   ·rename_i h0;injection h with h;subst h;exact qm ho h0
   ·cases h
  ·cases h
 ·rename_i t l c ho;split at h
  ·rename_i ti ht;split at h
   ·rename_i te D9;split at h
    ·rename_i Iw;exact AgQ ho (he.t ht) (he.t D9) Iw h
    ·cases h
   ·cases h
  ·cases h
 ·rename_i t x lo hi mx ho;split at h
  ·rename_i d ti hd ht;split at h
   ·split at h
    ·split at h
     ·rename_i Iw;split at h
      ·rename_i te D9;exact Akn ho (he.t ht) Iw (he.t D9) h
      ·cases h
     ·cases h
    ·cases h
   ·obtain⟨z,hz,rfl⟩:=Xh (f:=λR K=>WI σ.Aj ti (match en.DU.get ti.elem with |some te=>if ti.Eh=true then some te.ty else none |none=>none) (σ.Ci x) (lo.map σ.Ci) (hi.map σ.Ci) (mx.map σ.Ci) K) (λR K=>jI ..) (g:=λv=>⟨v,σ.Aj,[]⟩) h
    exact AbQ ho (he.t ht) (lL he) hz
  ·cases h
 ·rename_i t x f ho;split at h
  ·rename_i ti ht;obtain⟨z,hz,rfl⟩:=Xh (f:=λR K=>ky ti f (σ.Ci x) K) (λR K=>sq ..) (g:=λv=>⟨v,σ.Aj,[]⟩) h;exact kU ho (he.t ht) hz
  ·cases h
 ·rename_i t x i ho;split at h
  ·rename_i ti ht;split at h
   ·rename_i te D9;split at h
    ·rename_i Iw;obtain⟨z,hz,rfl⟩:=Xh (f:=λR K=>tg σ.Aj te.ty (σ.Ci x) (σ.Ci i) K) (λR K=>tj ..) (g:=λv=>⟨v,σ.Aj,[]⟩) h;exact jL ho (he.t ht) (he.t D9) Iw hz
    ·cases h
   ·cases h
  ·cases h
 ·rename_i t x i ho;split at h
  ·rename_i ti ht;split at h
   ·rename_i hs;obtain⟨z,hz,rfl⟩:=Xh (f:=λR K=>ov (σ.Ci x) (σ.Ci i) K) (λR K=>rQ ..) (g:=λv=>⟨v,σ.Aj,[]⟩) h;exact AbO ho (he.t ht) hs hz
   ·cases h
  ·cases h
 ·rename_i x i ho;split at h
  ·rename_i v hv;split at h
   ·cases h
   ·rename_i ht;injection h with h;subst h;exact uk ho hv (by simpa using ht)
  ·cases h
 ·rename_i c ho;unfold VS at h;split at h
  ·rename_i hc;split at h
   ·rename_i x t r hx Zc;split at h
    ·rename_i ti ht;obtain⟨z,hz,rfl⟩:=Xh (f:=λR K=>pM σ.Aj ti x K) (λR K=>tF ..) (g:=λv=>⟨v,σ.Aj,[]⟩) h;exact Akq ho hc hx Zc (he.t ht) hz
    ·cases h
   ·cases h
  ·rename_i hc;split at h
   ·rename_i x y hx;obtain⟨z,hz,rfl⟩:=Xh (f:=λR K=>mmA false x y K) (λR K=>fT ..) (g:=λv=>⟨v,σ.Aj,[]⟩) h;exact AgR (mx:=false) ho hc hx hz
   ·cases h
  ·rename_i hc;split at h
   ·rename_i x y hx;obtain⟨z,hz,rfl⟩:=Xh (f:=λR K=>mmA true x y K) (λR K=>fT ..) (g:=λv=>⟨v,σ.Aj,[]⟩) h;exact AgR (mx:=true) ho hc hx hz
   ·cases h
  ·rename_i hc;split at h
   ·rename_i x y t tx hx Zc;split at h
    ·rename_i ti dF ht vp;split at h
     ·rename_i te D9;split at h
      ·rename_i hk;rw[AMd]at hk;exact xB ho hc hx Zc (he.t ht) (he.t D9) hk.1 (he.t vp) hk.2 h
      ·split at h
       ·rename_i hk;rw[AMd]at hk;exact ui ho hc hx Zc (he.t ht) (he.t D9) hk.1 (he.t vp) hk.2 h
       ·cases h
     ·cases h
    ·cases h
   ·cases h
  ·cases h
  ·rename_i fo hc;split at h
   ·rename_i g0 Zy hf;split at h
    ·rename_i ca hg;exact AgI he ho hc hf hg h
    ·cases h
   ·cases h
  ·cases h
 ·cases h
theorem AeU{e':HO}{t:Ty}(h:Nr P σ o e)(hf:ArR σ.Aj.length t e=some e'):Nr P σ o e':=by
 unfold ArR at hf;split at hf
 ·rename_i x hr;split at hf
  ·rename_i hN;injection hf with hf;subst hf;have hZ:∀k∈(e.val.Ua e.Aj).filter (λk=>!decide (k<σ.Aj.length)),σ.Aj.length<=k:=λk hk=>by
    have:=(List.mem_filter.1 hk).2;simpa using this
   refine⟨by rw[A7];exact h.grow,λhm=>?_,λa w g hs next Q hn=>h.wp a w g hs next Q λv w' g' H hv st=>?_⟩
   ·obtain⟨l,hl⟩:=h.ext hm;simp only;generalize (e.val.Ua e.Aj).filter (λk=>!decide (k<σ.Aj.length))=Z at hZ;rw[hl];exact tB Z _ _ hZ
   ·generalize hZe:(e.val.Ua e.Aj).filter (λk=>!decide (k<σ.Aj.length))=Z at hZ hn;refine hn v w' (g'.WQ Z) (AaT H hN Z) ?_ ⟨st.os,st.tape,st.output,st.size,λb hb h=>?_,λb h=>?_,λb k p h hk hm=>?_,λk hk=>st.AZ k hk⟩
    ·rw[A7];obtain⟨h1,h2⟩:=Vu hr;obtain⟨cs,SI,hv⟩:=B3 h1 h2 hv;obtain⟨kF,Bm⟩:=Qe H t e.val x cs hr SI;refine Bs (a:=.AB _ t x) rfl ⟨λk hk=>Bm k (List.mem_filter.1 hk).1,kF.mono λb a=>⟨a.RF.mono λk hk=>?_,rfl⟩⟩ (by rw[show(AV.AB _ t x).isAgg=e.val.isAgg from(ZR hr).symm];exact hv);subst hZe;simp only[List.mem_filter,ANu,AMW,ANj]at hk⊢;refine⟨hk.1,?_⟩;rcases AMh k σ.Aj.length with h |h
     ·exact h
     ·exact absurd ⟨hk.1,by omega⟩ hk.2
    ·have:=st.no b hb h;exact⟨by simp[G.WQ,this.1],this.2⟩
    ·have:=st.Ir b h;exact⟨oX this.1,this.2⟩
    ·have:=st.BO b k p h hk hm;exact⟨PO this.1 λhz=>by have:=hZ k hz;omega,this.2⟩
  ·cases hf
 ·cases hf
def G.sha(g:G)(k:Nat):G:=⟨λb=>match g.own b with |.BO j r=>if j=k/\r≠[]then .Ir else .BO j r |t=>t,g.AZ⟩
theorem Jo.rdS{w:World}{own:Nat->TT}{k:Nat}{A:Nat->Prop}(h:∀b q,q≠[]->own b=.BO k q->A b):∀{t:Ty} {L:APH Nat} {x:t.V} {cs:APH Value},L≠[]->Jo w own k t L x cs->HE w A t x cs
 |.int _,_,_,_,_,r=>r
 |.bool,_,_,_,_,r=>r
 |.str,_,_,_,_,r=>r
 |.unit,_,_,_,_,r=>r
 |.AE _ _,_,_,_,_,⟨c,d,e,r1,r2⟩=>⟨c,d,e,Jo.rdS h (by simp) r1,Jo.rdS h (by simp) r2⟩
 |.sl t,L,xs,cs,hL,⟨ad,cap,e,r⟩=>by
  rcases r with ⟨hx,cW⟩|⟨b,e1,BA,ds,ha,ho,hh,h1,h2,h3,h4,hc⟩
  ·subst hx;exact⟨ad,cap,[],e,by simp,rfl,.inl rfl⟩
  ·refine⟨ad,cap,ds,e,h1,hc.toR λi x c r=>Jo.rdS h (by simp) r,.inr ⟨b,0,ha,h b L hL ho,λj q hq=>?_⟩⟩;rw[PI hh,AMC,<-AMk];subst h4;rw[AM9]at hq;split at hq
   ·exact hq
   ·cases hq
 |.QV _,_,_,_,_,r=>r.elim
theorem AbE{e':HO}(h:Nr P σ o e)(hf:Agx σ.Aj.length e=some e'):Nr P σ o e':=by
 unfold Agx at hf;split at hf
 ·rename_i k hval;split at hf
  ·rename_i hk;split at hf
   ·rename_i el t xs hb;injection hf with hf;subst hf;refine⟨by simpa using h.grow,λhm=>?_,λa w g hs next Q hn=>h.wp a w g hs next Q λv w' g' H hv st=>?_⟩
    ·obtain⟨l,hl⟩:=h.ext hm;simp only;rw[hl,ANs _ _ hk];exact⟨_,rfl⟩
    ·have hal:∀{ks:APH Nat} {b:Nat},Al g'.own ks b->Al (g'.sha k).own ks b:=λ{ks b} ha=>by
       rcases ha with ha |⟨j,hj,r,ha⟩
       ·exact .inl (by simp[G.sha,ha])
       ·by_cases hc:j=k/\r≠[]
        ·exact .inl (by simp[G.sha,ha,hc])
        ·exact .inr ⟨j,hj,r,by simp only[G.sha,ha,AMp hc]⟩
     have Q0:∀{b j:Nat},g'.own b=.BO j []->(g'.sha k).own b=.BO j []:=λ{b j} h=>by simp[G.sha,h]
     have y9:∀(a:AV) (m:Bool) {cs:APH Value},CG w' g' e.Aj.length m a cs->CG w' (g'.sha k) e.Aj.length m a cs:=by
      intro a;induction a with
      |AB ks t x=>intro m cs hx;cases m with
       |false=>exact⟨hx.1,hx.2.mono λb a=>⟨hal a,rfl⟩⟩
       |true=>exact hx.elim
      |Fv ks t x=>intro m cs hx;cases m with
       |false =>
        obtain⟨hk,b,off,ds,e,ha,r,hc⟩:=hx;exact⟨hk,b,off,ds,e,hal ha,r.mono λb a=>⟨hal a,rfl⟩,hc⟩
       |true=>exact hx.elim
      |TA k i p o e=>intro m cs hx;cases m with
       |false =>
        obtain⟨hk,h0,h1,b,v,ha,ho,e1,e2,hc⟩:=hx;exact⟨hk,h0,h1,b,v,ha,Q0 ho,e1,e2,hc⟩
       |true=>exact hx.elim
      |Vs k i p o j u=>intro m cs hx;cases m with
       |false =>
        obtain⟨hk,h0,h1,b,b',l,c,ha,ho,e1,e2,hc⟩:=hx;exact⟨hk,h0,h1,b,b',l,c,ha,Q0 ho,e1,e2,hc⟩
       |true=>exact hx.elim
      |pr a b iha ihb=>intro m cs hx;cases m with
       |false =>
        obtain⟨c,d,e,h1,h2⟩:=hx;exact⟨c,d,e,iha false h1,ihb false h2⟩
       |true=>exact hx.elim
      |fn f c ih=>intro m cs hx;cases m with
       |false =>
        obtain⟨vs,e,hx⟩:=hx;exact⟨vs,e,ih true hx⟩
       |true=>exact hx.elim
      |cons a b iha ihb=>intro m cs hx;cases m with
       |true =>
        obtain⟨v,r,e,h1,h2⟩:=hx;exact⟨v,r,e,h1.imp id λ⟨cs,hx,hv⟩=>⟨cs,iha false hx,hv⟩,ihb true h2⟩
       |false=>exact hx.elim
      |_=>intro m cs hx;cases m<;>exact hx
     refine hn v w' (g'.sha k) ⟨λb hb=>by simp[G.sha,H.BZ b hb],λj x hx=>?_⟩ ?_ ⟨st.os,st.tape,st.output,st.size,λb hb h=>?_,λb h=>?_,λb j p h hj hm=>?_,λj hj=>st.AZ j hj⟩
     ·rw[AMf];rw[AMv]at hx;split at hx
      ·rename_i ek;subst ek;split at hx
       ·injection hx with hx;subst hx;obtain⟨QT,hlen,PE,BU,hr⟩:=H.LP k _ hb;cases hfl:t.BP with
        |true=>exact⟨hfl,hlen,PE,BU,hr.imp id λ⟨b,BA,ds,ha,ho,hh,h1,h2,h3,h4,hc⟩=>⟨b,0,BA,ds,ha,Q0 ho,hh,h1,h2,by rw[AMC];exact h3,h4,DK.2 ((DK.1 hc).mono λi x c h=>(Tn.BP hfl).2 ((Tn.BP hfl).1 h))⟩⟩
        |false =>
        refine⟨λj hj=>(by cases hj),hlen,PE,BU,hr.imp id λ⟨b,BA,ds,ha,ho,hh,h1,h2,h3,h4,hc⟩=>⟨b,BA,ds,ha,Q0 ho,hh,h1,h2,h3,h4,?_⟩⟩;exact hc.toR λi x c r=>Jo.rdS (λb q hq hb=>.inl (by simp[G.sha,hb,hq])) (by simp) r
       ·cases hx
      ·rename_i Nk;have hB:=H.LP j x hx;cases x with
       |A9=>trivial
       |map m kt vt es st =>
        obtain⟨QT,b,He,DC,ha,ho,hh,RH,hm⟩:=hB;refine⟨QT,b,He,DC,ha,Q0 ho,hh,RH,hm.on λi x c r=>?_⟩;cases m with
        |Aw =>
         refine Jo.mono (λb q hb=>⟨?_,rfl⟩) r;have:¬(j=k/\q++[i]≠[]):=λhq=>Nk hq.1.symm;show(match g'.own b with |.BO j r=>if j=k/\r≠[]then TT.Ir else .BO j r |t=>t)=_
         rw[hb];exact AMp this
        |sh ks=>exact HE.mono (λb a=>⟨hal a,rfl⟩) r
       |QU e2 t xs i p =>
        obtain⟨h1,h2,h3,h4,h5,u,o,x0,b,BA,ds,q1,q2,q3,ha,ho,hh,c1,c2,c3,c4,hc⟩:=hB;refine⟨h1,h2,h3,h4,h5,u,o,x0,b,BA,ds,q1,q2,q3,ha,Q0 ho,hh,c1,c2,c3,c4,hc.mono λi x c r=>r.mono λb q hb=>⟨?_,rfl⟩⟩;have:¬(j=k/\q++[i]≠[]):=λhq=>Nk hq.1.symm;show(match g'.own b with |.BO j r=>if j=k/\r≠[]then TT.Ir else .BO j r |t=>t)=_
        rw[hb];exact AMp this
       |tail e2 t xs =>
        obtain⟨hfl,hlen,PE,BU,hr⟩:=hB;exact⟨hfl,hlen,PE,BU,hr.imp id λ⟨b,o,BA,ds,ha,ho,hh,h1,h2,h3,h4,hc⟩=>⟨b,o,BA,ds,ha,Q0 ho,hh,h1,h2,h3,h4,DK.2 ((DK.1 hc).mono λi x c h=>(Tn.BP hfl).2 ((Tn.BP hfl).1 h))⟩⟩
       |box a =>
        obtain⟨h1,b,cs,e,ha,ho,hh,hx⟩:=hB;exact⟨h1,b,cs,e,ha,Q0 ho,hh,y9 a false hx⟩
       |row e2 m t xs =>
        obtain⟨QT,hlen,PE,BU,hr⟩:=hB;refine⟨QT,hlen,PE,BU,hr.imp id λ⟨b,BA,ds,ha,ho,hh,h1,h2,h3,h4,hc⟩=>⟨b,BA,ds,ha,Q0 ho,hh,h1,h2,h3,h4,?_⟩⟩;cases m with
        |Aw =>
         refine hc.mono λi x c r=>r.mono λb q hb=>⟨?_,rfl⟩;have:¬(j=k/\q++[i]≠[]):=λhq=>Nk hq.1.symm;show(match g'.own b with |.BO j r=>if j=k/\r≠[]then TT.Ir else .BO j r |t=>t)=_
         rw[hb];exact AMp this
        |sh ks=>exact hc.mono λx c r=>r.mono λb a=>⟨hal a,rfl⟩
     ·rw[AMf];rw[hval]at hv;obtain⟨hk1,fO⟩:=Fe hv;rw[fO];exact Bs (cs:=[_]) rfl ⟨hk1,rfl⟩ rfl
     ·have:=st.no b hb h;exact⟨by simp[G.sha,this.1],this.2⟩
     ·have:=st.Ir b h;exact⟨by simp[G.sha,this.1],this.2⟩
     ·have:=st.BO b j p h hj hm;have Nk:¬(j=k/\p≠[]):=λhq=>by have:=hq.1;omega
      exact⟨by simp only[G.sha,this.1,AMp Nk],this.2⟩
   ·cases hf
  ·cases hf
 ·cases hf
theorem AgS{t:TypeId}{x:Operand}(ho:o.op=.load t x){ti:TI}(ht:ES P t ti)(Iw:ti.Eh=true){k:Nat}{i:Int}{p:APH Nat}{f e0:Nat}(hx:σ.Ci x=.ptr k i p f){el:Nat}{tr:Ty}{xs:APH tr.V}(hb:σ.Aj[k]?=some (.row el .Aw tr xs)){v:AV}(UD:atP σ.Aj k i p f=some v)(Mv:v.size=1):Nr P σ o ⟨.TA k i p f e0,σ.Aj,[]⟩ :=
 .Is <| Lh (s:=λρ=>Instr.loadAt t (ρ x)) (λρ=>by simp[execOp,ho]) λa w g BH=>by
  have W6:=AQ BH x;rw[hx]at W6;obtain⟨hk,h0,h1,b,Nt,hpe⟩:=K1 W6;obtain⟨QT,hlen,PE,BU,hr⟩:=BH.heap.LP k _ hb;obtain⟨cs,kC,DF⟩:=VK BH.heap UD h1 Nt;have ZJ:ti.ty.size=1/\ti.ty.isAgg=false:=by
   unfold TI.Eh at Iw;split at Iw
   ·rename_i u hu;rw[hu];exact⟨rfl,rfl⟩
   ·cases Iw
  have hl:cs.length=ti.ty.size:=by rw[kC.len,Mv,ZJ.1]
  obtain⟨v1,fO,qT⟩:=Sm (w:=w) ht hl DF (λhg=>by rw[hl];exact ZJ.1);rw[ZJ.2]at qT;have SI:cs=[v1]:=qT;subst SI;rcases hr with ⟨Zd,_⟩|⟨b',BA,ds,ha,Cs,_⟩
  ·rw[hlen,Zd]at h1;simp at h1
  ·rw[Nt]at ha;injection ha with ha;injection ha with ha;subst ha;refine⟨v1,by rw[hpe];simp[Instr.loadAt,Instr.sureAddr,fO],Bs (cs:=[v1]) rfl ⟨hk,h0,h1,b,v1,Nt,Cs,rfl,kC.one v1 (by simp),?_⟩ rfl⟩;have:=DF 0 v1 rfl;simpa using this
theorem zw{w:World}{g:G}{n k:Nat}{i:Int}{p:APH Nat}{e b:Nat}(hk:k<n)(h0:0<=i)(h1:i.toNat<(g.AZ k).len)(Nt:(g.AZ k).a=some ⟨b,0,none⟩)(Cs:g.own b=.BO k []){A:Nat->Prop} :
    ∀{t:Ty} {x:t.V} {f o:Nat} {z:AV} {cs:APH Value},jk k i p e t x f o=some z->HE w A t x cs->(∀j u,cs[j]?=some u->w.cell? ⟨b,i.toNat*(g.AZ k).lQ+o+j,none⟩=some u)->CG w g n false z cs/\z.isAgg=t.isAgg/\z.Dj=false
 |.unit,x,f,o,z,cs,h,hr,_=>by
  simp only[jk,AL8]at h;subst h;exact⟨⟨λk hk=>(by cases hk),hr⟩,rfl,rfl⟩
 |.AE a c,x,f,o,z,cs,h,⟨c1,c2,ecs,r1,r2⟩,hc=>by
  simp only[jk]at h;split at h
  ·rename_i r hrr;have UG:=r1.len;obtain⟨ih,_,_⟩:=zw hk h0 h1 Nt Cs hrr r2 (λj u hu=>by
    have:=hc (c1.length+j) u (by rw[ecs,AMs (by omega)];rw[show c1.length+j-c1.length=j by omega];exact hu);rw[<-this];congr 2;omega)
   split at h
   ·rename_i Iw;injection h with h;subst h;obtain⟨ad,n0,cap,e1⟩:∃ad n0 cap,c1=[.slice ad n0 cap]:=by
     cases a with
     |sl u=>obtain⟨ad,cap,ds,e1,_⟩:=r1;exact⟨_,_,_,e1⟩
     |_=>cases Iw
    refine⟨⟨c1,c2,ecs,⟨hk,h0,h1,b,_,Nt,Cs,e1,rfl,?_⟩,ih⟩,rfl,rfl⟩;have:=hc 0 _ (by rw[ecs,e1];rfl);simpa using this
   ·split at h
    ·rename_i hf;injection h with h;subst h;exact⟨⟨c1,c2,ecs,⟨λk hk=>(by cases hk),(HE.BP hf).2 ((HE.BP hf).1 r1)⟩,ih⟩,rfl,rfl⟩
    ·cases h
  ·cases h
 |.int _,_,_,_,_,_,h,_,_=>by simp[jk]at h
 |.bool,_,_,_,_,_,h,_,_=>by simp[jk]at h
 |.str,_,_,_,_,_,h,_,_=>by simp[jk]at h
 |.sl _,_,_,_,_,_,h,_,_=>by simp[jk]at h
 |.QV _,_,_,_,_,_,h,_,_=>by simp[jk]at h
theorem AgT{t:TypeId}{x:Operand}(ho:o.op=.load t x){ti:TI}(ht:ES P t ti){k:Nat}{i:Int}{p:APH Nat}{f e0:Nat}(hx:σ.Ci x=.ptr k i p f){el:Nat}{tr:Ty}{xs:APH tr.V}(hb:σ.Aj[k]?=some (.row el .Aw tr xs)){ks:APH Nat}{t':Ty}{y:t'.V}(UD:atP σ.Aj k i p f=some (.AB ks t' y))(fM:t'=ti.ty){z:AV}(hz:jk k i p e0 t' y 0 f=some z):Nr P σ o ⟨z,σ.Aj,[]⟩ :=
 .Is <| Lh (s:=λρ=>Instr.loadAt t (ρ x)) (λρ=>by simp[execOp,ho]) λa w g BH=>by
  subst fM;have W6:=AQ BH x;rw[hx]at W6;obtain⟨hk,h0,h1,b,Nt,hpe⟩:=K1 W6;obtain⟨QT,hlen,PE,BU,hr⟩:=BH.heap.LP k _ hb;obtain⟨cs,kC,DF⟩:=VK BH.heap UD h1 Nt;have hl:cs.length=ti.ty.size:=kC.len;obtain⟨v1,fO,qT⟩:=Sm (P:=P) (w:=w) ht hl DF (λhg=>by rw[hl];exact Sv hg);rcases hr with ⟨Zd,_⟩|⟨b',BA,ds,ha,Cs,_⟩
  ·rw[hlen,Zd]at h1;simp at h1
  ·rw[Nt]at ha;injection ha with ha;injection ha with ha;subst ha;obtain⟨h2,h3,h4⟩:=zw hk h0 h1 Nt Cs hz kC.2 DF;exact⟨v1,by rw[hpe];simp[Instr.loadAt,Instr.sureAddr,fO],Bs h4 h2 (by rw[h3];exact qT)⟩
theorem Adg(he:EnvOk P en){v:AV}(h:gE en σ o=some v):Nr P σ o ⟨v,σ.Aj,[]⟩:=by
 unfold gE at h;split at h
 ·rename_i t x ho;split at h
  ·cases h
  ·rename_i d hd;split at h
   ·rename_i e ti k i p f _ ht hxp;split at h
    ·rename_i el tr xs v0 hb UD;split at h
     ·rename_i hc;injection h with h;subst h;exact AgS ho (he.t ht) hc.1 hxp hb UD hc.2
     ·split at h
      ·rename_i ks t' y ABU;split at h
       ·rename_i fM;exact AgT ho (he.t ht) hxp hb UD fM h
       ·cases h
      ·cases h
    ·cases h
   ·cases h
 ·rename_i t G3 ho;split at h
  ·rename_i ti ht;split at h
   ·cases h
   ·rename_i hn;split at h
    ·rename_i te D9;split at h
     ·rename_i fM;exact qk ho (he.t ht) (he.t D9) hn fM h
     ·cases h
    ·cases h
  ·cases h
 ·rename_i t x i ho;split at h
  ·rename_i ti ht;split at h
   ·cases h
   ·rename_i hn;split at h
    ·rename_i te D9;split at h
     ·rename_i ks kk j hi;split at h
      ·rename_i hj;split at h
       ·rename_i v' hv;split at h
        ·rename_i Mv;injection h with h;subst h;exact ql ho (he.t ht) (he.t D9) hn hi hj hv Mv
        ·cases h
       ·cases h
      ·cases h
     ·cases h
    ·cases h
  ·cases h
 ·rename_i t x f ho;split at h
  ·rename_i ti ht;split at h
   ·rename_i fo u v' hfo hu hv;split at h
    ·rename_i hc;injection h with h;subst h;exact AbM ho (he.t ht) hfo hu hv hc
    ·cases h
   ·cases h
  ·cases h
 ·rename_i c ho;split at h
  ·rename_i t r hc hx Zc;split at h
   ·rename_i ti ht;split at h
    ·rename_i hs;injection h with h;subst h;exact AbL ho hc hx Zc (he.t ht) hs
    ·cases h
   ·cases h
  ·cases h
 ·rename_i t x i ho;split at h
  ·rename_i ti ht;split at h
   ·cases h
   ·rename_i hn;split at h
    ·rename_i te D9;split at h
     ·rename_i ks kk j hi;split at h
      ·rename_i hj;exact dz ho (he.t ht) (he.t D9) hn hi hj.1 hj.2 h
      ·cases h
     ·cases h
    ·cases h
  ·cases h
 ·cases h
theorem xC{t:TypeId}{x v:Operand}(ho:o.op=.store t x v){ti:TI}(ht:ES P t ti){k:Nat}{i:Int}{p:APH Nat}{f:Nat}{j:Int}{u:Ty}(hx:σ.Ci x=.Vs k i p f j u)(h:xK σ.Aj ti k i p f j u (σ.Ci v)=some e):Nr P σ o e:=by
 unfold xK at h;split at h
 ·rename_i ek tr xs hb;split at h
  ·rename_i ys hg;split at h
   ·rename_i y Zb;split at h
    ·rename_i y' fQ;split at h
     ·rename_i x' Hu;split at h
      ·rename_i hc;obtain⟨fM,pg,hu,AGt,AF9,Z7⟩:=hc;injection h with h;subst h;have o9:=A3 hb;have wO:((Ba [k] σ.Aj).set k Blk.A9++[Blk.row 0 .Aw u ys]).length=σ.Aj.length+1:=by simp[AF]
       refine⟨by simp only[AMf,AF,A7,wO];omega,λhm=>by simp at hm,λa w g BH next Q hn=>?_⟩
       have W6:=AQ BH x;rw[hx]at W6;obtain⟨cs,⟨hk,h0,h1,b,b',l,c,Nt,Cs,e1,lV,DF⟩,hval⟩:=B3 rfl rfl W6;subst e1;have hpv:a.eval x=.pointer (some ⟨b',j.toNat*u.size,none⟩):=by
        have:[Value.pointer (some ⟨b',j.toNat*u.size,none⟩)]=[a.eval x]:=hval;injection this with h _;exact h.symm
       obtain⟨g1,H1,Q4,AaZ,ZK,_⟩:=Ys BH.heap hb h1 hg pg hu Nt DF Hu;have hN:((Ba [k] σ.Aj).set k Blk.A9++[Blk.row 0 .Aw u ys])[σ.Aj.length]?=some (.row 0 .Aw u ys):=by rw[AMs (by simp[AF])];simp[AF]
       obtain⟨_,hvs⟩:=Fe AaZ;injection hvs with yZ UG _;obtain⟨_,Als,ACa,_,_⟩:=H1.LP σ.Aj.length (.row 0 .Aw u ys) hN;have AGg:B4 w g1 (σ.Aj.length+1) (.ptr σ.Aj.length j [] 0) (.pointer (some ⟨b',j.toNat*u.size,none⟩)):=by
        have:=di (w:=w) (g:=g1) (n:=σ.Aj.length+1) (p:=[]) (o:=0) (AMM σ.Aj.length) lV.1 (by rw[<-UG];exact lV.2) yZ.symm;rwa [ACa,AOa]at this
       have fO:B4 w g1 (σ.Aj.length+1) (σ.Ci v) (a.eval v):=by
        have:=(AQ BH v).step Q4 (AMH _);rwa [NN λq hq=>by
         simp only[List.contains_eq_mem,AMx,AMW];intro e;subst e;simp only[List.contains_eq_mem,AMW]at Z7;exact Z7 hq]at this
       obtain⟨w2,g2,D8,H2,O7⟩:=Yb (σ:=⟨[],(Ba [k] σ.Aj).set k Blk.A9++[Blk.row 0 .Aw u ys]⟩) H1 ht hN Zb ⟨AF9,AGt,rfl,rfl⟩ fQ (by show B4 w g1 _ _ _;rw[wO];exact AGg) (by show B4 w g1 _ _ _;rw[wO];exact fO);simp only at H2 O7;rw[wO]at O7;have Asl:k∉[σ.Aj.length]:=by simp;omega
       have kE:k≠σ.Aj.length:=by omega
       generalize hE:(Blk.GF (Ba [σ.Aj.length] ((Ba [k] σ.Aj).set k Blk.A9++[Blk.row 0 .Aw u ys])) []).set σ.Aj.length (.row 0 .Aw u (ys.set j.toNat y'))=E at H2 hn;have hEl:E.length=σ.Aj.length+1:=by rw[<-hE];simp[A7,AF]
       have hEN:E[σ.Aj.length]?=some (.row 0 .Aw u (ys.set j.toNat y')):=by rw[<-hE,List.getElem?_set_self (by simp[A7,AF])]
       have stA:Step [σ.Aj.length,k] E.length w2 g2 w2 (g2.dH σ.Aj.length k (UI p [i.toNat])):=uD;have Akr:Step [k,σ.Aj.length] E.length w2 g2 w2 (g2.dH σ.Aj.length k (UI p [i.toNat])):=stA.weaken (λq hq=>by simp at hq⊢;exact hq.symm) (AMc _);have lW:(((Ba [k,σ.Aj.length] E).set σ.Aj.length Blk.A9).set k (.row ek .Aw tr (xs.set i.toNat x'))).length=E.length:=by simp[AF]
       have Afu:Mn w2 (g2.dH σ.Aj.length k (UI p [i.toNat])) E.length k (.row ek .Aw tr (xs.set i.toNat x')) :=
        ZK w2 g2 E.length 0 (λb q hb=>O7.BO b k q hb (by omega) Asl) (λj hj=>O7.AZ j (by omega)) (H2.LP σ.Aj.length _ hEN)
       unfold Oper.wp;simp only[execOp,ho,hpv,Sem.run_bind,D8,Result.andThen_ok];refine hn undef w2 (g2.dH σ.Aj.length k (UI p [i.toNat])) ?_ QK ?_
       ·refine H2.Z4 Akr (λb hb=>by simp[G.dH,H2.BZ b hb]) (by rw[lW];exact AMc _) λj' y QZ=>?_;rw[lW];rcases RS QZ with ⟨rfl,rfl⟩|⟨Nk,QZ⟩
        ·exact .inr (.inr Afu)
        ·rcases RS QZ with ⟨rfl,rfl⟩|⟨Asp,QZ⟩
         ·exact .inl rfl
         ·obtain⟨y',fQ,rfl⟩:=Dq QZ;exact .inr (.inl ⟨by simp only[ANH,AOd,or_false,not_or];exact⟨Nk,Asp⟩,y',fQ,rfl⟩)
       ·refine⟨O7.os.trans Q4.os,O7.tape.trans Q4.tape,O7.output.trans Q4.output,O7.size,λb hb h=>?_,λb h=>?_,λb j' q h QZ hm=>?_,λj' QZ=>?_⟩
        ·have h1:=Q4.no b hb h;have h2:=O7.no b hb h1.1;exact⟨by simp[G.dH,h2.1],h2.2⟩
        ·have h1:=Q4.Ir b h;have h2:=O7.Ir b h1.1;exact⟨by simp[G.dH,h2.1],h2.2⟩
        ·simp only[ANr,AMx,not_or]at hm;have h1:=Q4.BO b j' q h QZ (by simpa using hm.2);have h2:=O7.BO b j' q h1.1 (by omega) (by simpa using hm.1);exact⟨fC h2.1 (by omega),h2.2⟩
        ·show g2.AZ j'=_;rw[O7.AZ j' (by omega),Q4.AZ j' QZ]
      ·cases h
     ·cases h
    ·cases h
   ·cases h
  ·cases h
 ·cases h
theorem Aga(he:EnvOk P en)(h:Abr en σ o=some e):Nr P σ o e:=by
 unfold Abr at h;split at h
 ·rename_i t x v ho;split at h
  ·rename_i ti k i p f j u ht hx;exact xC ho (he.t ht) hx h
  ·cases h
 ·cases h
theorem Akx(he:EnvOk P en)(h:tlE en σ o=some (true,e)):Nr P σ o e:=by
 unfold tlE at h;split at h
 ·rename_i t x lo ho;split at h
  ·rename_i ti k ks kk l htt hx hl;split at h
   ·rename_i el u xs te hb D9;split at h
    ·rename_i hc;obtain⟨Iw,hu⟩:=hc;subst hu;simp only[AL8,AMj,AMd,ANj]at h;obtain⟨⟨h0,h1⟩,rfl⟩:=h;exact AgJ ho (he.t htt) Iw (he.t D9) hx hl hb h0 h1
    ·cases h
   ·cases h
  ·cases h
 ·rename_i t x y ho;split at h
  ·rename_i ti k ks kk l htt hx hl;split at h
   ·rename_i el u xs te hb D9;split at h
    ·rename_i hc;obtain⟨Iw,hu⟩:=hc;subst hu;simp only[AL8,AMj,AMd,ANj]at h;obtain⟨⟨h0,h1⟩,rfl⟩:=h;exact AgM ho (he.t htt) Iw (he.t D9) hx hl hb h0 h1
    ·cases h
   ·cases h
  ·cases h
 ·rename_i c ho;split at h
  ·rename_i k t hc hx Zc;split at h
   ·rename_i el u xs ti hb htt;split at h
    ·rename_i Iw;simp only[AL8,AMj,true_and]at h;subst h;exact AgN ho hc hx Zc (he.t htt) Iw hb
    ·cases h
   ·cases h
  ·rename_i k y t tx hc hx Zc;split at h
   ·rename_i el u xs0 ti dF hb htt vp;split at h
    ·rename_i te D9;split at h
     ·rename_i xs ys m2 rs sG iP;split at h
      ·rename_i sH;obtain⟨Iw,hkx,_,vk,UF,_⟩:=sH;obtain⟨ec,hec⟩:=BJ sG;injection ec with ec;subst ec;simp only at hec;subst hec;simp only[AL8,AMj,ANj]at h;obtain⟨QR,rfl⟩:=h;exact AgH ho hc hx Zc (he.t htt) (he.t D9) Iw (he.t vp) hkx vk hb UF iP QR
      ·cases h
     ·cases h
    ·cases h
   ·cases h
  ·cases h
 ·cases h
theorem AgC(he:EnvOk P en)(h:ug en σ o=some e):Nr P σ o e:=by
 exact Aga he h
theorem cN(he:EnvOk P en)(h:UQ en σ o some=some e):Nr P σ o e:=by
 unfold UQ at h;split at h
 ·rename_i v hv;injection h with h;subst h;exact Adg he hv
 split at h
 ·rename_i e' hv;injection h with h;subst h;exact AgC he hv
 split at h
 ·rename_i c e' hv;cases c with
  |false=>cases h
  |true=>injection h with h;subst h;exact Akx he hv
 split at h
 ·cases hd:ix en o with
  |false=>rw[hd]at h;exact cO he h
  |true =>
   rw[hd]at h;simp only[AMm]at h;rw[Mt en he.Zj]at h;cases hx:QY en σ o some with
   |none=>rw[hx]at h;cases h
   |some e0 =>
    rw[hx]at h;simp only[AL6]at h;split at h
    ·rename_i e' hf;injection h with h;subst h;exact AbE (cO he hx) hf
    ·cases h
 ·rename_i t _;rw[Mt en he.Zj]at h;cases hx:QY en σ o some with
  |none=>rw[hx]at h;cases h
  |some e0 =>
   rw[hx]at h;simp only[AL6]at h;split at h
   ·rename_i e' hf;injection h with h;subst h;exact AeU (cO he hx) hf
   ·cases h
theorem R6(he:EnvOk P en)(h:exec en σ o some=some e):Nr P σ o e:=by
 unfold exec at h;split at h
 ·split at h
  ·split at h
   ·rename_i bs hp;rw[VR en he.Zj]at h;cases hx:UQ en ⟨σ.AO,bs⟩ o some with
    |none=>rw[hx]at h;cases h
    |some e0 =>
     rw[hx,AL6]at h;split at h
     ·cases h
     ·rename_i hm;injection h with h;subst h;have hs:=cN he hx;obtain⟨l',hf⟩:=tX hp;have hl:=sc hf;refine⟨AMA hl hs.grow,λwQ=>by rw[wQ]at hm;exact(hm rfl).elim,λa w g BH next Q hn=>?_⟩
      obtain⟨_,g',H',st⟩:=yQ hf BH.heap;exact hs.wp a w g' ⟨H',BH.len,λi x hx=>(BH.AO i x hx).QJ st hl⟩ next Q λv w' g2 h1 h2 h3=>hn v w' g2 h1 h2 (st.trans h3 hl)
   ·cases h
  ·exact cN he h
 ·exact cN he h
end
def BB(m:Nat)(w:World)(g:G)(w':World)(g':G):Prop:=Step (List.range m) m w g w' g'
theorem BB.refl(m:Nat)(w:World)(g:G):BB m w g w g:=Step.refl _ _ _ _
theorem Step.xQ{Bz:APH Nat}{n m:Nat}{w w':World}{g g':G}(s:Step Bz n w g w' g')(h:m<=n):BB m w g w' g' :=
 ⟨s.os,s.tape,s.output,s.size,s.no,s.Ir,λ_ k _ _ hk hm=>(hm (List.mem_range.2 hk)).elim,λk hk=>s.AZ k (AMI hk h)⟩
theorem BB.trans{m:Nat}{w w1 w2:World}{g g1 g2:G}(s:BB m w g w1 g1)(t:BB m w1 g1 w2 g2):BB m w g w2 g2:=by
 have h:=Step.trans s t (AMc _);exact⟨h.os,h.tape,h.output,h.size,h.no,h.Ir,λ_ k _ _ hk hm=>(hm (List.mem_range.2 hk)).elim,h.AZ⟩
theorem Agv{l:APH AV}{d:Nat}{x:AV}(h:l[d]?=some x):l.set d x=l:=by
 apply ANi;intro i;rw[AMv];split
 ·rename_i he;subst he;split
  ·exact h.symm
  ·rename_i hl;rw[AMK (Nat.le_of_not_lt hl)]
 ·rfl
inductive Want (all:List Oper) (σ:St) (o:Oper):Bool->Prop where
 |plain (h:o.guard=none):Want all σ o true
 |guard {g:Nat} {fy:Bool} {d:Nat} {b:Bool} (h:o.guard=some (g,fy)) (hd:(all[g]?).bind (·.dst)=some d) (hb:σ.AO[d]?=some (.bool b)):Want all σ o (b==fy)
 |nil {g:Nat} {fy:Bool} {d:Nat} (h:o.guard=some (g,fy)) (hd:(all[g]?).bind (·.dst)=some d) (hb:σ.AO[d]?=some .nil):Want all σ o false
theorem Pf{R:Type}{all:APH Oper}{σ:St}{o:Oper}{Kt Kf:St->APJ R}{r:R}(h:Wt all σ o Kt Kf=some r):(Want all σ o true/\Kt σ=some r)\/(Want all σ o false/\Kf σ=some r):=by
 unfold Wt at h;split at h
 ·rename_i hg;exact .inl ⟨.plain hg,h⟩
 ·rename_i g fy hg;split at h
  ·cases h
  ·rename_i d hd;split at h
   ·rename_i b hb;have e:({σ with AO:=σ.AO.set d (.bool b)}:St)=σ:=by
     have:=Agv hb;cases σ;simp only at this⊢;rw[this]
    cases b
    ·simp only[AMl]at h;rw[e]at h;split at h
     ·rename_i hw;subst hw;exact .inr ⟨.guard hg hd hb,h⟩
     ·rename_i hw;have:fy=false:=by simpa using hw
      subst this;exact .inl ⟨.guard hg hd hb,h⟩
    ·simp only[AMm]at h;rw[e]at h;split at h
     ·rename_i hw;subst hw;exact .inl ⟨.guard hg hd hb,h⟩
     ·rename_i hw;have:fy=false:=by simpa using hw
      subst this;exact .inr ⟨.guard hg hd hb,h⟩
   ·rename_i hb;exact .inr ⟨.nil hg hd hb,h⟩
   ·cases h
theorem iH{R:Type}{all:APH Oper}{σ:St}{o:Oper}{T:Type}{Kt Kf:St->APJ R}{Kt' Kf':St->APJ T}{K:T->APJ R}(h1:∀σ,Kt σ=(Kt' σ).bind K)(h2:∀σ,Kf σ=(Kf' σ).bind K):Wt all σ o Kt Kf=(Wt all σ o Kt' Kf').bind K:=by
 unfold Wt;split
 ·exact h1 _
 ·split
  ·rfl
  ·split
   ·rename_i b _;cases b<;>simp only[AMm,AMl]<;>split<;>first |exact h1 _ |exact h2 _
   ·exact h2 _
   ·rfl
section
variable {P:Program} {en:Gx} {R:Type}
theorem sa(he:YW en)(σ:St)(o:Oper){T:Type}{K:HO->APJ R}{K':HO->APJ T}{k:T->APJ R}(h:∀e,K e=(K' e).bind k):exec en σ o K=(exec en σ o K').bind k:=by
 rw[R5 en he σ o K,R5 en he σ o K'];cases exec en σ o some with
 |none=>rfl
 |some e=>exact h e
theorem TM(he:YW en)(all:APH Oper):∀(is:APH Nat) (σ:St) (K:St->APJ R),QX en all is σ K=(QX en all is σ some).bind K
 |[],_,_=>rfl
 |i::is,σ,K=>by
  simp only[QX];split
  ·rfl
  ·refine iH (λσ=>?_) λσ=>TM he all is _ K;exact sa he σ _ λe=>TM he all is _ K
theorem TL(he:YW en)(all:APH Oper)(A:APH (Nat×APH Nat)):∀(is done NL:APH Nat) (σ:St) (K:St->APJ R),TW en all A is done NL σ K=(TW en all A is done NL σ some).bind K
 |[],_,_,_,_=>rfl
 |i::is,done,NL,σ,K=>by
  simp only[TW];split
  ·rfl
  ·split
   ·refine iH (λσ=>?_) λσ=>TL he all A is _ _ _ K;refine sa he σ _ λe=>?_;split
    ·exact TL he all A is _ _ _ K
    ·split
     ·exact TL he all A is _ _ _ K
     ·rfl
   ·rfl
theorem AbH{w:World}{g:G}{σ:St}{a:Act}(hs:KO w g σ a){d:Nat}{b:Bool}(h:σ.AO[d]?=some (.bool b)):a.tmps[d]?=some (.bool b):=by
 have h1:=R3 (hs.AO d _ h);have hl:d<a.tmps.size:=by rw[<-hs.len];exact A3 h
 rw[AMY hl];rw[AM0,AMY hl]at h1;exact congrArg some h1
theorem AgF{w:World}{g:G}{σ:St}{a:Act}(hs:KO w g σ a){d:Nat}(h:σ.AO[d]?=some .nil):a.tmps[d]?=some (.tuple #[]):=by
 have h1:a.tmps.getD d undef=.tuple #[]:=hs.AO d _ h;have hl:d<a.tmps.size:=by rw[<-hs.len];exact A3 h
 rw[AMY hl];rw[AM0,AMY hl]at h1;exact congrArg some h1
theorem Jm{w:World}{g:G}{σ:St}{a:Act}{B9:Array Oper}{o:Oper}{t:Bool}(hs:KO w g σ a)(h:Want B9.toList σ o t):Region.wanted o (yielded B9 a.tmps)=t:=by
 cases h with
 |plain h=>simp[Region.wanted,h]
 |guard h hd hb =>
  have h1:=AbH hs hb;rw[AMk]at hd;simp[Region.wanted,h,yielded,hd,h1]
 |nil h hd hb =>
  have h1:=AgF hs hb;rw[AMk]at hd;simp[Region.wanted,h,yielded,hd,h1]
theorem KO.skip{w:World}{g:G}{σ:St}{a:Act}(h:KO w g σ a)(d:APJ Nat):KO w g (σ.skip d) (a.put d undef) where
 heap:=h.heap
 len:=by simp only[St.skip,bK,Wa];exact h.len
 AO:=ni h.len h.AO (show B4 w g _ .nil undef from rfl)
theorem put_defers(a:Act)(d:APJ Tmp)(v:Value):(a.put d v).defers=a.defers:=by cases d<;>rfl
theorem aR(he:EnvOk P en){B9:Array Oper}{m:Nat}{Q:Exit->Act->World->Prop}:∀(is:APH Nat) (σ σ':St),QX en B9.toList is σ some=some σ'->m<=σ.Aj.length->m<=σ'.Aj.length/\∀(a:Act) (w:World) (g:G),KO w g σ a ->
    (∀a' w' g',KO w' g' σ' a'->BB m w g w' g'->a'.defers=a.defers->Q .normal a' w')->wpOps P B9 Q is a w
 |[],σ,σ',h,hm=>by
  simp only[QX,AL8]at h;subst h;exact⟨hm,λa w g hs hq=>hq a w g hs (BB.refl _ _ _) rfl⟩
 |i::is,σ,σ',h,hm=>by
  simp only[QX]at h;split at h
  ·cases h
  ·rename_i o ho;have sS:B9[i]?=some o:=by rw[<-AMk];exact ho
   rcases Pf h with ⟨hw,h⟩|⟨hw,h⟩
   ·rw[R5 en he.Zj]at h;cases hx:exec en σ o some with
    |none=>rw[hx]at h;cases h
    |some e =>
     rw[hx]at h;have PT:=R6 he hx;have Pg:=PT.grow;obtain⟨hm',ih⟩:=aR he (Q:=Q) is _ _ h (AMA hm Pg);refine⟨hm',λa w g hs hq=>?_⟩;simp only[wpOps,sS];rw[AMo (Jm hs hw)];refine .inl (PT.wp a w g hs _ Q λv w' g' hH hv BH=>?_);exact ih _ _ _ (hs.after Pg hH hv BH) λa'' w'' g'' Asy Afy hd=>hq a'' w'' g'' Asy ((BH.xQ hm).trans Afy) (by rw[hd,put_defers])
   ·obtain⟨hm',ih⟩:=aR he (Q:=Q) is _ _ h hm;refine⟨hm',λa w g hs hq=>?_⟩;simp only[wpOps,sS];rw[Jm hs hw];simp only[AMU,ANz];exact ih _ _ _ (hs.skip o.dst) λa'' w'' g'' Asy Afy hd=>hq a'' w'' g'' Asy Afy (by rw[hd,put_defers])
end
theorem Ud{n:Nat}{ks:APH Nat}{k:Nat}:k∈Zx n ks↔k<n/\k∈ks:=by simp[Zx]
section
variable {w:World} {g:G} {n:Nat}
theorem Al.Ec{ks:APH Nat}(h:∀k∈ks,k<n){b:Nat}(a:Al g.own ks b):Al g.own (Zx n ks) b:=a.mono λk hk=>Ud.2 ⟨h k hk,hk⟩
theorem gX(a:AV):(a.Ec n).NC=a.NC:=by cases a<;>rfl
theorem dK(a:AV):(a.Ec n).isAgg=a.isAgg:=by cases a<;>rfl
theorem rP(a:AV):(a.Ec n).Dj=a.Dj:=by cases a<;>rfl
theorem CG.Ec:∀(a:AV) (m:Bool) {cs:APH Value},CG w g n m a cs->CG w g n m (a.Ec n) cs
 |.AB ks t x,false,cs,⟨hk,r⟩=>⟨λk h=>(Ud.1 h).1,r.mono λb a=>⟨a.Ec hk,rfl⟩⟩
 |.zs,false,_,h=>h
 |.AG _,false,_,h=>h
 |.mp _,false,_,h=>h
 |.ptr _ _ _ _,false,_,h=>h
 |.Fv ks t x,false,cs,⟨hk,b,off,ds,e,ha,r,hc⟩=>⟨λk h=>(Ud.1 h).1,b,off,ds,e,ha.Ec hk,r.mono λb a=>⟨a.Ec hk,rfl⟩,hc⟩
 |.JU,false,_,h=>h
 |.TA _ _ _ _ _,false,_,h=>h
 |.Vs _ _ _ _ _ _,false,_,h=>h
 |.pr a b,false,_,⟨c,e,he,h1,h2⟩=>⟨c,e,he,CG.Ec a _ h1,CG.Ec b _ h2⟩
 |.fn f c,false,_,⟨vs,e,hx⟩=>⟨vs,e,CG.Ec c true hx⟩
 |.un k,false,_,h=>h
 |.cons a b,true,_,⟨v,r,e,h1,h2⟩=>by
  refine⟨v,r,e,?_,CG.Ec b true h2⟩;rw[gX,dK];exact h1.imp id λ⟨cs,hx,hv⟩=>⟨cs,CG.Ec a _ hx,hv⟩
 |.nil,true,_,h=>h
 |.cons _ _,false,_,h=>h.elim
 |.nil,false,_,h=>h.elim
 |.TA _ _ _ _ _,true,_,h=>h.elim
 |.Vs _ _ _ _ _ _,true,_,h=>h.elim
 |.AB _ _ _,true,_,h=>h.elim
 |.zs,true,_,h=>h.elim
 |.AG _,true,_,h=>h.elim
 |.mp _,true,_,h=>h.elim
 |.ptr _ _ _ _,true,_,h=>h.elim
 |.Fv _ _ _,true,_,h=>h.elim
 |.JU,true,_,h=>h.elim
 |.pr _ _,true,_,h=>h.elim
 |.fn _ _,true,_,h=>h.elim
 |.un _,true,_,h=>h.elim
theorem B4.Ec{a:AV}{v:Value}(h:B4 w g n a v):B4 w g n (a.Ec n) v:=by
 cases ht:a.Dj with
 |false =>
  rw[B4.iff ht]at h;rw[B4.iff (by rw[rP];exact ht),gX,dK];exact h.imp id λ⟨cs,hx,hv⟩=>⟨cs,CG.Ec a _ hx,hv⟩
 |true =>
  cases a with
  |cons a b=>obtain⟨vs,e,h⟩:=h;exact⟨vs,e,CG.Ec _ true h⟩
  |nil=>exact h
  |_=>cases ht
theorem Mn.Ec{k:Nat}{b:Blk}(h:Mn w g n k b):Mn w g n k (b.Ec n):=by
 cases b with
 |A9=>trivial
 |map m kt vt es st =>
  cases m with
  |Aw=>exact h
  |sh ks =>
   obtain⟨QT,b,He,DC,ha,ho,hh,RH,hm⟩:=h;exact⟨λj hj=>(Ud.1 hj).1,b,He,DC,ha,ho,hh,RH,hm.on λi x c r=>by
    exact r.mono λb a=>⟨a.Ec QT,rfl⟩⟩
 |QU e t xs i p=>exact h
 |tail e t xs=>exact h
 |box a =>
  obtain⟨h1,b,cs,e,ha,ho,hh,hx⟩:=h;exact⟨h1,b,cs,e,ha,ho,hh,CG.Ec a _ hx⟩
 |row e m t xs =>
  cases m with
  |Aw=>exact h
  |sh ks =>
   obtain⟨QT,hlen,PE,BU,hr⟩:=h;refine⟨λj hj=>(Ud.1 hj).1,hlen,PE,BU,hr.imp id λ⟨b,BA,ds,ha,ho,hh,h1,h2,h3,h4,hc⟩=>⟨b,BA,ds,ha,ho,hh,h1,h2,h3,h4,?_⟩⟩;exact hc.mono λx c r=>r.mono λb a=>⟨a.Ec QT,rfl⟩
end
def G.pick(g:G)(π:APH Nat):G:=⟨λb=>match g.own b with |.BO k r=>if k∈π then .BO (idxOf π k) r else .no |t=>t,λj=>g.AZ (π.getD j 0)⟩
theorem TQ{bs:APH Blk}{m:Nat}{π Ct:APH Nat}(h:Abu bs m π Ct=true):π.take m=List.range m/\nodup π=true/\(∀k∈Ct,k∈π)/\∀k∈π,∃b,bs[k]?=some b/\∀j∈b.Ct,j∈π:=by
 simp only[Abu,AMd,ANf]at h
 grind
theorem Agi{m:Nat}{π:APH Nat}(h:π.take m=List.range m):m<=π.length/\∀j,j<m->π[j]?=some j:=by
 have hl:(π.take m).length=m:=by grind
 rw[AMr]at hl;refine⟨by omega,λj hj=>?_⟩;have:(π.take m)[j]?=some j:=by grind
 grind
section
variable {w:World} {g:G} {bs:APH Blk} {π Ct:APH Nat} {m:Nat}
theorem bH{k:Nat}(hk:k∈π):Ren (idxOf π) g (g.pick π) π.length k where
 lt:=pA hk
 AZ:=by
  have:=pz hk;simp[G.pick,this]
 own b r h:=by simp[G.pick,h,hk]
theorem bG{b:Nat}(h:g.own b=.Ir):(g.pick π).own b=.Ir:=by simp[G.pick,h]
theorem mP(H:Bf w g bs)(h:Abu bs m π Ct=true):Bf w (g.pick π) (π.map λk=>(((bs[k]?).getD .A9).NI (idxOf π)).Ec π.length):=by
 obtain⟨_,hn,_,HQ⟩:=TQ h;refine⟨λb hb=>by simp[G.pick,H.BZ b hb],λj x hx=>?_⟩;rw[AMz]at hx;cases hj:π[j]? with
 |none=>grind
 |some k =>
  rw[hj]at hx;injection hx with hx;subst hx;have hk :=ANt hj;obtain⟨b,hb,QS⟩:=HQ k hk;have:=(H.LP k b hb).NI    (λb h=>bG h) (bH hk) (λj hj=>bH (QS j hj));rw[cZ hn hj]at this;simp only[hb,AMi];exact this.Ec
theorem mQ(h:Abu bs m π Ct=true):BB m w g w (g.pick π)/\m<=π.length:=by
 obtain⟨ht,hn,_,HQ⟩:=TQ h;obtain⟨h1,h2⟩:=Agi ht;refine⟨⟨rfl,rfl,rfl,AMc _,λb _ h=>⟨by simp[G.pick,h],rfl⟩,λb h=>⟨bG h,rfl⟩,λb k p h hk hm=>(hm (List.mem_range.2 hk)).elim,λk hk=>?_⟩,h1⟩;simp[G.pick,h2 k hk]
theorem l5:∀{Bb:APH Nat} {l:APH AV} {j i:Nat} {x:AV},(Q2 Bb j l)[i]?=some x->∃y,l[i]?=some y/\(x=y\/x=.un 0)
 |Bb,a::r,j,0,x,h=>by
  simp only[Q2,List.getElem?_cons_zero,AL8]at h
  grind
 |Bb,a::r,j,i+1,x,h=>by
  simp only[Q2]at h;obtain⟨y,hy,hx⟩:=l5 h
  grind
 |_,[],_,_,_,h=>by simp[Q2]at h
theorem da(Bb:APH Nat):∀(l:APH AV) (j:Nat),(Q2 Bb j l).length=l.length
 |[],_=>rfl
 |_::r,j=>by simp[Q2,da Bb r]
theorem Akc{σ σ0:St}{l:APH Nat}(h:σ.Ax m l=some σ0){a:Act}(hs:KO w g σ a):∃g0,KO w g0 σ0 a/\BB m w g w g0/\m<=σ0.Aj.length:=by
 unfold St.Ax at h
 dsimp only at h
 split at h
 ·rename_i hp;injection h with h;subst h;obtain⟨BH,hm⟩:=mQ   hp;obtain⟨_,_,QS,_⟩:=TQ hp;refine⟨_,⟨mP hs.heap hp,by simp[da];exact hs.len,λi x hx=>?_⟩,BH,by grind⟩;simp only[AMi];rw[AMz]at hx;cases hq:(Q2 l 0 σ.AO)[i]? with
  |none=>grind
  |some y =>
   rw[hq]at hx;injection hx with hx;subst hx;obtain⟨z,hz,hyz⟩:=l5 hq;rcases hyz with rfl |rfl
   ·exact((hs.AO i y hz).NI (λb h=>bG h) λk hk=>bH (QS k (List.mem_flatMap.2 ⟨y,ANt hq,hk⟩))).Ec
   ·exact QK
 ·grind
theorem AeW{m:Nat}{Z:APH Nat}:BB m w g w (g.WQ Z) :=
 ⟨rfl,rfl,rfl,AMc _,λb _ h=>⟨by simp[G.WQ,h],rfl⟩,λb h=>⟨oX h,rfl⟩,λb k p h hk hm=>(hm (List.mem_range.2 hk)).elim,λk hk=>rfl⟩
theorem oW{bs:APH Blk}(H:Bf w g bs){m:Nat}{t:Ty}{v v':AV}{Ga:APH Blk}(h:AeV m t v bs=some (v',Ga)) :
    ∃g',Bf w g' Ga/\Ga.length=bs.length/\BB m w g w g'/\(∀a u,B4 w g bs.length a u->B4 w g' bs.length a.ae u)/\(∀u,B4 w g bs.length v u->B4 w g' bs.length v' u)/\(∀k,g'.AZ k=g.AZ k)/\∀cs,CG w g bs.length false v cs->CG w g' bs.length false v' cs:=by
 unfold AeV at h;split at h
 ·rename_i x hr;obtain⟨rfl,rfl⟩:=h;have key:∀cs,CG w g bs.length false v cs->CG w (g.WQ ((v.Ua bs).filter λk=>!decide (k<m))) bs.length false (.AB ((v.Ua bs).filter λk=>decide (k<m)) t x) cs:=by
   intro cs SI;obtain⟨kF,Bm⟩:=Qe H t v x cs hr SI;refine⟨λk hk=>Bm k (List.mem_filter.1 hk).1,kF.mono λb a=>⟨a.RF.mono λk hk=>?_,rfl⟩⟩
   grind
  refine⟨g.WQ _,sx H _,by simp[A7],AeW,λa u h=>h.RF _,λu hu=>?_,λk=>rfl,?_⟩
  ·obtain⟨h1,h2⟩:=Vu hr;obtain⟨cs,SI,hv⟩:=B3 h1 h2 hu;exact Bs  rfl (key cs SI) (by rw[show(AV.AB _ t x).isAgg=v.isAgg from(ZR hr).symm];exact hv)
  ·grind
 ·grind
end
section
variable {w:World} {g:G} {bs:APH Blk} {m:Nat}
end
section
variable {w:World} {g:G} {bs:APH Blk} {m:Nat}
theorem wv(H:Bf w g bs){c:Co}{a a':AV}{nb:APH Blk}(h:coV bs c a=some (a',nb)){v:Value}(hx:B4 w g bs.length a v):∃g',Bf w g' (bs++nb)/\B4 w g' (bs++nb).length a' v/\Step [] bs.length w g w g':=by
 have same:a'=a/\nb=[]->∃g',Bf w g' (bs++nb)/\B4 w g' (bs++nb).length a' v/\Step [] bs.length w g w g':=by
  rintro⟨rfl,rfl⟩
  exact⟨g,by grind,by grind,Step.refl _ _ _ _⟩
 have ALl:a.Dj=true\/a.NC=true->a'=a/\nb=[]:=by
  intro hq;cases c with
  |AB t =>
   simp only[coV]at h;split at h
   ·rename_i y hy;obtain⟨h1,h2⟩:=Vu hy
    grind
   ·grind
  |fb ks=>cases a<;>simp_all [coV,AV.Dj,AV.NC]
  |row p e t Aw =>
   have:a.Vj p≠some .zs:=by
    cases a<;>simp[AV.Dj,AV.NC]at hq<;>cases p<;>simp[AV.Vj,AV.Z6]
   simp only[coV]at h
   grind
 by_cases ht:a.Dj=true
 ·grind
 ·by_cases hu:a.NC=true
  ·grind
  ·obtain⟨cs,SI,hv⟩:=B3 (by grind) (by grind) hx;obtain⟨g',h1,h2,h3,h4⟩:=wx H h SI;exact⟨g',h1,Bs (Vr h2) h2 (by grind),h4⟩
theorem ArN{σ σ':St}{s:Nat}{b:Bool}{c:Co}(h:coS σ s b c=some σ'){a:Act}(hs:KO w g σ a)(hm:m<=σ.Aj.length):∃g',KO w g' σ' a/\BB m w g w g'/\m<=σ'.Aj.length:=by
 unfold coS at h;split at h
 ·grind
 ·rename_i v hv;cases b with
  |false =>
   simp only[AMl]at h;split at h
   ·rename_i v' nb hco;injection h with h;subst h;obtain⟨g',h1,h2,h3⟩:=wv hs.heap hco (hs.AO s v hv);refine⟨g',⟨h1,by simp only[AMf];exact hs.len,λi x hx=>?_⟩,h3.xQ hm,by grind⟩;rw[AMv]at hx;split at hx
    ·grind
    ·exact(hs.AO i x hx).QJ h3 (by simp)
   ·grind
  |true =>
   split at h
   ·rename_i k i p o;split at h
    ·rename_i a0 hb;split at h
     ·rename_i a' nb hco;injection h with h;subst h;obtain⟨hlen,bb,cs,e,ha,ho,hh,hx⟩:=hs.heap.LP k _ hb;obtain⟨g',h1,h2,h3,h4⟩:=wx hs.heap hco hx;have hk:=A3 hb;have fK:(σ.Aj.set k (.box a')++nb).length=(σ.Aj++nb).length:=by simp
      refine⟨g',⟨⟨h1.BZ,λj x hj=>?_⟩,hs.len,λi x tf=>(hs.AO i x tf).QJ h4 (by simp)⟩,h4.xQ hm,by grind⟩;rw[fK];rw[AMw]at hj;split at hj
      ·rename_i cw;rw[AMf]at cw;rw[AMv]at hj;split at hj
       ·rename_i ek;subst ek;injection hj with hj;subst hj;have hl:=h4.BO bb k [] ho hk (by simp);exact⟨by rw[h4.AZ k hk];exact hlen,bb,cs,e,by rw[h4.AZ k hk];exact ha,hl.1,hh,h2⟩
       ·exact h1.LP j x (by grind)
      ·rename_i cw;rw[AMf]at cw hj;exact h1.LP j x (by grind)
     ·grind
    ·grind
   ·grind
theorem hU:∀{l:APH (Nat×Bool×Co)} {σ σ':St} {g:G},aB l σ=some σ'->∀{a:Act},KO w g σ a->m<=σ.Aj.length->∃g',KO w g' σ' a/\BB m w g w g'/\m<=σ'.Aj.length
 |[],σ,σ',g,h,a,hs,hm=>by
  simp only[aB,AL8]at h;subst h;exact⟨g,hs,BB.refl _ _ _,hm⟩
 |(s,b,c)::r,σ,σ',g,h,a,hs,hm=>by
  simp only[aB]at h;split at h
  ·rename_i σ1 h1;obtain⟨g1,Q1,Q4,Tj⟩:=ArN h1 hs hm;obtain⟨g2,Y1,O7,RG⟩:=hU h Q1 Tj;exact⟨g2,Y1,Q4.trans O7,RG⟩
  ·grind
theorem ji{bs:APH Blk}(H:Bf w g bs){k e:Nat}{md:RM}{t:Ty}{xs:APH t.V}(hb:bs[k]?=some (.row e md t xs))(PS:k∉md.Ct) :
    ∃g',Bf w g' (Blk.GF (Ba [k] bs) [k]++[.row e md t xs])/\Step [k] bs.length w g w g'/\g'.AZ bs.length=g.AZ k:=by
 obtain⟨QT,hlen,PE,BU,hr⟩:=H.LP k _ hb
 let n:=bs.length
 let f:Nat->APH Nat->TT:=λj r=>if j=k then .BO n r else .BO j r
 let g':=g.UE f none n (g.AZ k)
 have st:Step [k] n w g w g':=Step.UE H.BZ rfl rfl rfl (AMc _) (λ_ _ _=>rfl) (λq h=>by grind) (AMc _) λj r _ hm=>by
  grind
 have Py:g'.AZ n=g.AZ k:=by simp[g',G.UE]
 refine⟨g',H.Z4 st (Mu H.BZ (AMc _) λq h=>by grind) (by simp[A7,AF]) λj y hj=>?_,st,Py⟩;rw[AMw]at hj;split at hj
 ·rcases Ks hj with h |⟨o8,h⟩
  ·grind
  ·obtain⟨y',fQ,rfl⟩:=Dq h
   grind
 ·rename_i Bm;rw[A7,AF]at hj Bm;have lV:j-bs.length=0:=by
   grind
  rw[lV]at hj;obtain rfl:j=n:=by omega
  simp only[List.getElem?_cons_zero,AL8]at hj;subst hj;refine .inr (.inr ⟨λj hj=>by have:=QT j hj;simp[A7,AF];omega,by grind,by grind,BU,?_⟩);rw[Py];refine hr.imp id λ⟨b,BA,ds,ha,Cs,Ae8,p1,p2,p3,p4,NQ⟩=>⟨b,BA,ds,ha,by rw[Ih (by simp) Cs];simp[f],Ae8,p1,p2,p3,p4,?_⟩;rw[DK];refine(DK.1 NQ).mono λi x c UF=>UF.on ?_;cases md with
  |Aw=>exact λb q hb=>⟨by rw[Ih (by simp) hb];simp[f],rfl⟩
  |sh ks =>
   intro b hb;rcases hb with hb |⟨j,hj,r,hb⟩
   ·exact⟨.inl (Vg (by simp) hb),rfl⟩
   ·refine⟨.inr ⟨j,hj,r,?_⟩,rfl⟩;have:j≠k:=λe=>PS (e▸hj);rw[Ih (by simp) hb];simp[f,this]
theorem pS:∀{l:APH Nat} {σ σ':St} {g:G},mvS m l σ=some σ'->∀{a:Act},KO w g σ a->m<=σ.Aj.length->∃g',KO w g' σ' a/\BB m w g w g'/\m<=σ'.Aj.length
 |[],σ,σ',g,h,a,hs,hm=>by
  simp only[mvS,AL8]at h;subst h;exact⟨g,hs,BB.refl _ _ _,hm⟩
 |s::r,σ,σ',g,h,a,hs,hm=>by
  simp only[mvS]at h;split at h
  ·rename_i k hv;split at h
   ·split at h
    ·rename_i e md t xs hb;split at h
     ·grind
     ·rename_i PS;obtain⟨g1,H1,st,UD⟩:=ji hs.heap hb (by grind);have hl:(Blk.GF (Ba [k] σ.Aj) [k]++[Blk.row e md t xs]).length=σ.Aj.length+1:=by simp[A7,AF]
      have Q1:KO w g1 ⟨(TV [k] σ.AO).set s (.AG σ.Aj.length),Blk.GF (Ba [k] σ.Aj) [k]++[.row e md t xs]⟩ a:=by
       refine⟨H1,by simp[TV];exact hs.len,λi x hx=>?_⟩;simp only[hl];rw[AMv]at hx;split at hx
       ·rename_i e';subst e';split at hx
        ·injection hx with hx;subst hx;obtain⟨hk,hv2⟩:=Fe (hs.AO s _ hv);rw[hv2];exact Bs  rfl ⟨AMM _,by grind⟩ rfl
        ·grind
       ·obtain⟨y,hy,rfl⟩:=Yt hx;exact(hs.AO i y hy).step st (AMH _)
      obtain⟨g2,Y1,O7,RG⟩:=pS h Q1 (by grind);exact⟨g2,Y1,(st.xQ hm).trans O7,RG⟩
    ·grind
   ·exact pS h hs hm
  ·exact pS h hs hm
theorem Adj{w:World}{g:G}{n j N:Nat}{p:APH Nat}{a a2:AV}{v:Value}(h:B4 w g n a v)(hp:a.Vj p=some (.AG j))(Hu:a.ZX p (.AG N)=some a2)(hN:N<n)(UD:g.AZ N=g.AZ j):B4 w g n a2 v:=by
 cases p with
 |nil =>
  simp only[AV.Vj,AL8]at hp;simp only[AV.ZX,AL8]at Hu;subst hp;subst Hu;obtain⟨_,hv⟩:=Fe h;rw[hv,<-UD];exact Bs  rfl ⟨hN,rfl⟩ rfl
 |cons f p =>
  have h2 :=by
   simp only[AV.ZX]at Hu;split at Hu
   ·split at Hu
    ·exact ZW Hu
    ·grind
   ·grind
  have h1:a.isAgg=true/\a.Dj=false/\a.NC=false:=by
   simp only[AV.Vj]at hp;cases a with
   |pr x y=>exact⟨rfl,rfl,rfl⟩
   |AB ks t x =>
    cases t with
    |AE b c=>exact⟨rfl,rfl,rfl⟩
    |_=>simp[AV.Z6,Xl]at hp
   |_=>simp[AV.Z6]at hp
  obtain⟨cs,SI,hv⟩:=B3 h1.2.1 h1.2.2 h;obtain⟨c0,c1,c2,e1,_,hr,ZK⟩:=Rm _ _ cs _ SI hp;obtain⟨_,PQ⟩:=hr;have vq:=ZK _ a2 c1 Hu ⟨hN,by grind⟩;rw[<-e1]at vq;have ht:a2.Dj=false:=by cases a2<;>first |rfl |cases h2
  exact Bs ht vq (by grind)
theorem Af2{m s:Nat}{p:APH Nat}{a:Act}{a0:AV}{σ σ2:St}{g:G}(vo:σ.AO[s]?=some a0)(h:mvV m s p a0 σ=some σ2)(hs:KO w g σ a)(hm:m<=σ.Aj.length):∃g',KO w g' σ2 a/\BB m w g w g'/\m<=σ2.Aj.length:=by
 unfold mvV at h;split at h
 ·split at h
  ·split at h
   ·rename_i e md t xs hj;split at h
    ·grind
    ·rename_i PS;split at h
     ·rename_i j' a2 dS Hu;split at h
      ·rename_i hc;subst hc;injection h with h;subst h;obtain⟨g1,H1,st,UD⟩:=ji hs.heap hj (by grind);have hl:(Blk.GF (Ba [j'] σ.Aj) [j']++[Blk.row e md t xs]).length=σ.Aj.length+1:=by simp[A7,AF]
       refine⟨g1,⟨H1,by simp[TV];exact hs.len,λi x hx=>?_⟩,st.xQ hm,by grind⟩;rw[hl];rcases RS hx with ⟨rfl,rfl⟩|⟨Nk,hx⟩
       ·have hv:=(hs.AO i a0 vo).step st (AMH _);exact Adj hv dS Hu (AMM _) (by rw[UD,st.AZ j' (A3 hj)])
       ·obtain⟨y,hy,rfl⟩:=Yt (show(TV [j'] _)[i]?=some x from hx);exact(hs.AO i y hy).step st (AMH _)
      ·grind
     ·grind
   ·grind
  ·injection h with h;subst h;exact⟨g,hs,BB.refl _ _ _,hm⟩
 ·grind
theorem xf{m k:Nat}{p:APH Nat}{w:World}{a:Act}{σ σ2:St}{g:G}(h:mvB m k p σ=some σ2)(hs:KO w g σ a)(hm:m<=σ.Aj.length):∃g',KO w g' σ2 a/\BB m w g w g'/\m<=σ2.Aj.length:=by
 unfold mvB at h;split at h
 ·rename_i a0 hb;split at h
  ·split at h
   ·split at h
    ·rename_i e md t xs hj;split at h
     ·grind
     ·rename_i PS;split at h
      ·rename_i j' a2 dS Hu;split at h
       ·rename_i hc;obtain⟨rfl,hkj⟩:=hc;injection h with h;subst h;obtain⟨g1,H1,st,UD⟩:=ji hs.heap hj (by grind);have hl:(Blk.GF (Ba [j'] σ.Aj) [j']++[Blk.row e md t xs]).length=σ.Aj.length+1:=by simp[A7,AF]
        have hk:=A3 hb;have ki:(Blk.GF (Ba [j'] σ.Aj) [j']++[Blk.row e md t xs])[k]?=some (.box (a0.drop λq=>[j'].contains q)):=by
         rw[AMt (by grind)];simp only[Blk.GF,Ba,AMv,AMz,hb,Option.map_some,Blk.drop,AMp (λe:j'=k=>hkj e.symm)]
        obtain⟨h1,bb,cs,el,ha,ho,hh,hx⟩:=H1.LP k _ ki;rw[hl]at hx;obtain⟨c0,c1,c2,e1,_,hr,ZK⟩:=Rm p _ cs.toList _ hx dS;obtain⟨cw,PQ⟩:=hr;have vq:=ZK (.AG σ.Aj.length) a2 c1 Hu ⟨AMM _,by rw[PQ,UD,st.AZ j' (A3 hj)]⟩;rw[<-e1]at vq;refine⟨g1,⟨⟨H1.BZ,λq x hq=>?_⟩,by simp[TV];exact hs.len,λi x hx=>?_⟩,st.xQ hm,by grind⟩
        ·rw[AMf,hl];rw[AMv]at hq;split at hq
         ·rename_i e';subst e';split at hq
          ·injection hq with hq;subst hq;exact⟨h1,bb,cs,el,ha,ho,hh,vq⟩
          ·grind
         ·have:=H1.LP q x hq;rwa [hl]at this
        ·simp only[AMf,hl];obtain⟨y,hy,rfl⟩:=Yt (show(TV [j'] σ.AO)[i]?=some x from hx);exact(hs.AO i y hy).step st (AMH _)
       ·grind
      ·grind
    ·grind
   ·injection h with h;subst h;exact⟨g,hs,BB.refl _ _ _,hm⟩
  ·grind
 ·grind
theorem zt:∀{l:APH (Nat×APH Nat)} {σ σ':St} {g:G},Af1 m l σ=some σ'->∀{a:Act},KO w g σ a->m<=σ.Aj.length->∃g',KO w g' σ' a/\BB m w g w g'/\m<=σ'.Aj.length
 |[],σ,σ',g,h,a,hs,hm=>by
  simp only[Af1,AL8]at h;subst h;exact⟨g,hs,BB.refl _ _ _,hm⟩
 |(s,p)::r,σ,σ',g,h,a,hs,hm=>by
  simp only[Af1]at h;split at h
  ·rename_i σ1 h1;have h2 :=by
    unfold mvP at h1;split at h1
    ·exact xf h1 hs hm
    ·rename_i a0 vo;exact Af2 vo h1 hs hm
    ·grind
   obtain⟨g1,Q1,Q4,Tj⟩:=h2;obtain⟨g2,Y1,O7,RG⟩:=zt h Q1 Tj;exact⟨g2,Y1,Q4.trans O7,RG⟩
  ·grind
theorem aW:∀{l:APH (Nat×Bool×Ty)} {σ σ':St} {g:G},oV m l σ=some σ'->∀{a:Act},KO w g σ a->m<=σ.Aj.length->∃g',KO w g' σ' a/\BB m w g w g'/\m<=σ'.Aj.length
 |[],σ,σ',g,h,a,hs,hm=>by
  simp only[oV,AL8]at h;subst h;exact⟨g,hs,BB.refl _ _ _,hm⟩
 |(s,false,t)::r,σ,σ',g,h,a,hs,hm=>by
  simp only[oV]at h;split at h
  ·exact aW h hs hm
  ·rename_i v _ hv;split at h
   ·rename_i v' Ga hf;obtain⟨g1,H1,hl,Q4,ha,fO,_,_⟩:=oW hs.heap hf;have Q1:KO w g1 ⟨(σ.AO.map AV.ae).set s v',Ga⟩ a:=by
     refine⟨H1,by simpa using hs.len,λi x hx=>?_⟩;simp only[hl];rw[AMv]at hx;split at hx
     ·rename_i e;subst e;split at hx
      ·injection hx with hx;subst hx;exact fO _ (hs.AO s v hv)
      ·grind
     ·rw[AMz]at hx;cases hq:σ.AO[i]? with
      |none=>grind
      |some y =>
       rw[hq]at hx;injection hx with hx;subst hx;exact ha _ _ (hs.AO i y hq)
    obtain⟨g2,Y1,O7,RG⟩:=aW h Q1 (by grind);exact⟨g2,Y1,Q4.trans O7,RG⟩
   ·grind
  ·grind
 |(s,true,t)::r,σ,σ',g,h,a,hs,hm=>by
  simp only[oV]at h;split at h
  ·rename_i k _ _ _ hv;split at h
   ·rename_i a0 hb;split at h
    ·rename_i a' Ga hf;obtain⟨g1,H1,hl,Q4,ha,fO,UD,iR⟩:=oW hs.heap hf;split at h
     ·rename_i a1 ki;have Q1:KO w g1 ⟨σ.AO.map AV.ae,Ga.set k (.box a')⟩ a:=by
       refine⟨⟨H1.BZ,λj x hj=>?_⟩,by simpa using hs.len,λi x hx=>?_⟩
       ·rw[AMf];rw[AMv]at hj;split at hj
        ·rename_i e;subst e;split at hj
         ·injection hj with hj;subst hj;obtain⟨p1,b,cs,e,yZ,ho,hh,hx⟩:=H1.LP k _ ki;obtain⟨q1,b2,cs2,e2,ha2,zj,hh2,vq⟩:=hs.heap.LP k _ hb;rw[UD,ha2]at yZ;injection yZ with yZ;injection yZ with yZ;subst yZ;rw[hh2]at hh;injection hh with hh;injection hh with hh;exact⟨p1,b2,cs2,e2,by grind,ho,hh2,by grind⟩
         ·grind
        ·exact H1.LP j x hj
       ·simp only[AMf,hl];rw[AMz]at hx;cases hq:σ.AO[i]? with
        |none=>grind
        |some y =>
         rw[hq]at hx;injection hx with hx;subst hx;exact ha _ _ (hs.AO i y hq)
      obtain⟨g2,Y1,O7,RG⟩:=aW h Q1 (by grind);exact⟨g2,Y1,Q4.trans O7,RG⟩
     ·grind
    ·grind
   ·grind
  ·exact aW h hs hm
theorem xW{ks:APH Nat}{n:Nat}(hk:∀j∈ks,j<n):∀{a:AV} {cs:APH Value},CG w g n false a cs->CG w g n false (a.wid ks) cs
 |.AB l t x,cs,h=>by
  unfold AV.wid;split
  ·rename_i hc;have ZL:∀j∈l,j∈ks:=λj hj=>by grind
   exact⟨hk,h.2.mono λb a=>⟨a.mono ZL,rfl⟩⟩
  ·grind
 |.pr _ _,_,⟨c,d,e,h1,h2⟩=>⟨c,d,e,xW hk h1,xW hk h2⟩
 |.zs,_,h=>h
 |.AG _,_,h=>h
 |.ptr _ _ _ _,_,h=>h
 |.Fv _ _ _,_,h=>h
 |.JU,_,h=>h
 |.TA _ _ _ _ _,_,h=>h
 |.Vs _ _ _ _ _ _,_,h=>h
 |.mp _,_,h=>h
 |.fn _ _,_,h=>h
 |.un _,_,h=>h
 |.cons _ _,_,h=>h.elim
 |.nil,_,h=>h.elim
theorem qF:∀{l:APH (Nat×APH Nat)} {bs Ga:APH Blk},qE l bs=some Ga->Bf w g bs->Bf w g Ga/\Ga.length=bs.length
 |[],bs,Ga,h,H=>by
  simp only[qE,AL8]at h;subst h;exact⟨H,rfl⟩
 |(k,ks)::r,bs,Ga,h,H=>by
  simp only[qE]at h;split at h
  ·rename_i e l t xs hb;split at h
   ·rename_i hc;rw[AMd]at hc;have ZL:∀j∈l,j∈ks:=λj hj=>by grind
    have Bm:∀j∈ks,j<bs.length:=λj hj=>by grind
    have H1:Bf w g (bs.set k (.row e (.sh ks) t xs)):=by
     refine⟨H.BZ,λj x hx=>?_⟩;rw[AMf];rw[AMv]at hx;split at hx
     ·rename_i ek;subst ek;split at hx
      ·injection hx with hx;subst hx;obtain⟨QT,hlen,PE,BU,hr⟩:=H.LP k _ hb;refine⟨Bm,hlen,PE,BU,hr.imp id λ⟨b,BA,ds,ha,ho,hh,h1,h2,h3,h4,hc⟩=>⟨b,BA,ds,ha,ho,hh,h1,h2,h3,h4,?_⟩⟩;exact hc.mono λx c r=>r.mono λb a=>⟨a.mono ZL,rfl⟩
      ·grind
     ·exact H.LP j x hx
    obtain⟨H2,hl⟩:=qF h H1
    grind
   ·grind
  ·rename_i a hb;split at h
   ·rename_i hc;have Bm:∀j∈ks,j<bs.length:=λj hj=>by grind
    have H1:Bf w g (bs.set k (.box (a.wid ks))):=by
     refine⟨H.BZ,λj x hx=>?_⟩;rw[AMf];rw[AMv]at hx;split at hx
     ·rename_i ek;subst ek;split at hx
      ·injection hx with hx;subst hx;obtain⟨hlen,b,cs,e,ha,ho,hh,hr⟩:=H.LP k _ hb;exact⟨hlen,b,cs,e,ha,ho,hh,xW Bm hr⟩
      ·grind
     ·exact H.LP j x hx
    obtain⟨H2,hl⟩:=qF h H1
    grind
   ·grind
  ·grind
theorem Wv{h:SH}{σ σ':St}(hh:σ.head h m=some σ'){a:Act}(hs:KO w g σ a)(hm:m<=σ.Aj.length):∃g',KO w g' σ' a/\BB m w g w g'/\m<=σ'.Aj.length:=by
 unfold St.head at hh;split at hh
 ·grind
 ·rename_i σ0 h0;rw[AMX]at h0;obtain⟨σz,hz,h0⟩:=h0;rw[AMX]at hz;obtain⟨σy,hy,hz⟩:=hz;obtain⟨gy,hsy,sty,hmy⟩:=pS hy hs hm;obtain⟨gz,Mv,AGR,hmz⟩:=zt hz hsy hmy;have stz:=sty.trans AGR;obtain⟨g0,vo,st0,wQ⟩:=aW h0 Mv hmz;split at hh
  ·grind
  ·rename_i σ1 h1;obtain⟨g1,Q1,Q4,Tj⟩:=hU h1 vo wQ;split at hh
   ·grind
   ·rename_i σ2 h2;obtain⟨g2,Y1,O7,RG⟩:=Akc h2 Q1;split at hh
    ·grind
    ·rename_i bs h3;obtain⟨H3,hl⟩:=qF h3 Y1.heap;have s7:KO w g2 ⟨σ2.AO,bs⟩ a:=⟨H3,Y1.len,λi x hx=>by simp only[hl];exact Y1.AO i x hx⟩;obtain⟨g3,hs4,st3,hm3⟩:=hU hh s7 (by simp only[hl];exact RG);exact⟨g3,hs4,(((stz.trans st0).trans Q4).trans O7).trans st3,hm3⟩
end
theorem Ajq{σ σ':St}{s:Nat}{b:Bool}{c:Co}(h:coS σ s b c=some σ'):σ.Aj.length<=σ'.Aj.length:=by
 unfold coS at h;split at h
 ·grind
 grind
theorem lG:∀{l:APH (Nat×Bool×Co)} {σ σ':St},aB l σ=some σ'->σ.Aj.length<=σ'.Aj.length
 |[],σ,σ',h=>by
  simp only[aB,AL8]at h;subst h;exact AMc _
 |(s,b,c)::r,σ,σ',h=>by
  simp only[aB]at h;split at h
  ·rename_i σ1 h1;exact AMA (Ajq h1) (lG h)
  ·grind
theorem jV:∀{l:APH (Nat×APH Nat)} {bs Ga:APH Blk},qE l bs=some Ga->Ga.length=bs.length
 |[],bs,Ga,h=>by
  simp only[qE,AL8]at h;subst h;rfl
 |(k,ks)::r,bs,Ga,h=>by
  simp only[qE]at h;split at h
  ·split at h
   ·rw[jV h,AMf]
   ·grind
  ·split at h
   ·rw[jV h,AMf]
   ·grind
  ·grind
theorem VX{h:SH}{m:Nat}{σ σ':St}(hh:σ.head h m=some σ'):m<=σ'.Aj.length:=by
 unfold St.head at hh;split at hh
 ·grind
 ·split at hh
  ·grind
  ·split at hh
   ·grind
   ·rename_i σ2 h2;split at hh
    ·grind
    ·rename_i bs h3;refine AMA ?_ (lG hh);simp only[jV h3];unfold St.Ax at h2
     dsimp only at h2
     split at h2
     ·rename_i hp;injection h2 with h2;subst h2;have:=(Agi (TQ hp).1).1;simpa using this
     ·grind
def oM:Ex->Exit
 |.normal=>.normal
 |.exit n=>.exit n
 |.ret=>.ret
theorem Ab1{P:Program}{Q:Exit->Act->World->Prop}{c:Code}(R:Nat->Act->World->Prop)(round:∀n a w,R n a w->c.wp P (Exit.then (λa' w'=>∃k,k<n/\R k a' w') Q) a w){n:Nat}{a:Act}{w:World}(h0:R n a w):(Code.loop c).wp P Q a w:=by
 intro b k cs;have key:∀n a w,R n a w->∃e a' w',Q e a' w'/\Arrives P (lone (b.at a (.code c::.inLoop c::k)) cs w) b k cs e a' w':=by
  intro n;induction n using Nat.strongRecOn with
  |_ n ih =>
   intro a w hI;obtain⟨e,a₁,w₁,hq,kA⟩:=round n a w hI b _ cs;cases e with
   |normal =>
    obtain⟨j,Bm,hI₁⟩:=hq;obtain⟨e₂,a₂,w₂,hq₂,ABT⟩:=ih j Bm a₁ w₁ hI₁;exact⟨e₂,a₂,w₂,hq₂,.of_steps (Steps.trans kA (.one step_inLoop)) ABT⟩
   |exit id=>exact⟨_,a₁,w₁,hq,.pass  rfl (λ_ _=>.inl (by simp)) kA⟩
   |goto l=>exact⟨_,a₁,w₁,hq,.pass  rfl (λ_ _=>.inl (by simp)) kA⟩
   |ret=>exact⟨_,a₁,w₁,hq,.pass  rfl (λ_ _=>.inl (by simp)) kA⟩
   |panic ch=>exact⟨_,a₁,w₁,hq,.pass  rfl (λ_ _=>.inl (by simp)) kA⟩
   |outgrown=>exact⟨_,a₁,w₁,hq,.pass  rfl (λ_ _=>.inl (by simp)) kA⟩
 obtain⟨e,a',w',hq,kA⟩:=key n a w h0;exact⟨e,a',w',hq,.of_steps (.one step_loop) kA⟩
inductive ToN {S T:Type} (f:S->Option (S⊕T)):Nat->S->T->Prop
 |done {s:S} {t:T} (h:f s=some (.inr t)):ToN f 0 s t
 |dk {s s':S} {t:T} {n:Nat} (h:f s=some (.inl s')) (k:ToN f n s' t):ToN f (n+1) s t
theorem To.n{S T:Type}{f:S->APJ (S⊕T)}{s:S}{t:T}(h:To f s t):∃n,ToN f n s t:=by
 induction h with
 |done h=>exact⟨0,.done h⟩
 |dk h _ ih=>obtain⟨n,hn⟩:=ih;exact⟨n+1,.dk h hn⟩
structure IR (P:Program) (en:Gx):Prop extends EnvOk P en where
 mixed:P.follows .mixedOrders=true
section
variable {P:Program} {en:Gx} {m:Nat}
abbrev Q3(e:Ex)(σ:St):Option (Ex×St):=some (e,σ)
theorem xV{c:Code}(hn:∀(R:Type) (σ:St) (K:Ex->St->APJ R),ev en m c R σ K=(ev en m c (Ex×St) σ Q3).bind λp=>K p.1 p.2){R T:Type}{σ:St}{K:Ex->St->APJ R}{K':Ex->St->APJ T}{k:T->APJ R}
    (h:∀e s,K e s=(K' e s).bind k):ev en m c R σ K=(ev en m c T σ K').bind k:=by
 grind
theorem Ake(he:YW en){all:APH Oper}{is:APH Nat}{σ:St}{R T:Type}{K:St->APJ R}{K':St->APJ T}{k:T->APJ R}(h:∀s,K s=(K' s).bind k):QX en all is σ K=(QX en all is σ K').bind k:=by
 rw[TM he all is σ K,TM he all is σ K'];cases QX en all is σ some with
 |none=>rfl
 |some p=>grind
theorem Aip(he:YW en){all:APH Oper}{A:APH (Nat×APH Nat)}{is done NL:APH Nat}{σ:St}{R T:Type}{K:St->APJ R}{K':St->APJ T}{k:T->APJ R}(h:∀s,K s=(K' s).bind k):TW en all A is done NL σ K=(TW en all A is done NL σ K').bind k:=by
 rw[TL he all A is done NL σ K,TL he all A is done NL σ K'];cases TW en all A is done NL σ some with
 |none=>rfl
 |some p=>grind
theorem Wr(he:YW en):∀(c:Code) (R:Type) (σ:St) (K:Ex->St->APJ R),ev en m c R σ K=(ev en m c (Ex×St) σ Q3).bind λp=>K p.1 p.2
 |.skip,_,_,_=>rfl
 |.ret,_,_,_=>rfl
 |.exit _,_,_,_=>rfl
 |.seq a b,R,σ,K=>by
  simp only[ev];split
  ·refine xV (Wr he a) λe s=>?_;cases e with
   |normal=>exact Wr he b R s K
   |exit n=>rfl
   |ret=>rfl
  ·rw[AMn];congr 1
   funext s0
   rw[AMn];congr 1
   funext ⟨e,s⟩
   cases e with
   |normal=>exact Wr he b R s K
   |exit n=>rfl
   |ret=>rfl
 |.cond c a b,R,σ,K=>by
  simp only[ev];split
  ·rename_i t _;cases t
   ·exact Wr he b R σ K
   ·exact Wr he a R σ K
  ·rfl
 |.block n a,R,σ,K=>by
  refine xV (Wr he a) λe s=>?_
  grind
 |.region _ B9 false,R,σ,K=>by
  exact Ake he λs=>rfl
 |.region _ B9 true,R,σ,K=>by
  simp only[ev];split
  ·rw[AMn];congr 1
   funext s0
   generalize Akj en m _ B9 s0=x;cases x<;>rfl
  ·split
   ·exact Aip he λs=>rfl
   ·rfl
 |.loop body,R,σ,K=>by
  simp only[ev];split
  ·split
   ·rfl
   ·generalize fix _ _=x;cases x<;>rfl
  ·rfl
 |.goto _,_,_,_=>rfl
 |.label _,_,_,_=>rfl
 |.rangeFunc ..,_,_,_=>rfl
 |.scope _,_,_,_=>rfl
 |.refuse _,_,_,_=>rfl
theorem WK(he:YW en){h ho:SH}{body:Code}{s:St}{r:St⊕(Ex×St)}(hh:np en m h ho body s=some r):∃e s',ev en m body (Ex×St) s Q3=some (e,s') /\
    ((e=.normal/\∃YJ,s'.head h m=some YJ/\r=.inl YJ)\/(e≠.normal/\∃YJ,s'.head ho m=some YJ/\r=.inr (e,YJ))):=by
 unfold np at hh;rw[Wr he]at hh;cases hx:ev en m body _ s _ with
 |none=>grind
 |some p =>
  obtain⟨e,s'⟩:=p;rw[hx]at hh;simp only[AL6]at hh;refine⟨e,s',rfl,?_⟩;cases e with
  |normal =>
   cases hn:s'.head h m with
   |none=>grind
   |some YJ=>grind
  |exit n =>
   cases hn:s'.head ho m with
   |none=>grind
   |some YJ=>grind
  |ret =>
   cases hn:s'.head ho m with
   |none=>grind
   |some YJ=>grind
end
theorem Uh{σ τ:St}{l:APH Operand}(h:∀x∈l,σ.Ci x=τ.Ci x):l.map σ.Ci=l.map τ.Ci:=AMV h
theorem XX{σ τ:St}{l:APH (Nat×Operand)}(h:∀x∈l.map (·.2),σ.Ci x=τ.Ci x):l.map (λp=>(p.1,σ.Ci p.2))=l.map (λp=>(p.1,τ.Ci p.2)) :=
 AMV λp hp=>by grind
theorem XF{R:Type}{en:Gx}{σ τ:St}{o:Oper}{K:HO->APJ R}(hb:σ.Aj=τ.Aj)(h:∀x∈o.op.operands,σ.Ci x=τ.Ci x):QY en σ o K=QY en τ o K:=by
 obtain⟨dst,op,type,pos,after,guard⟩:=o;unfold QY
 dsimp only at h⊢
 rw[hb];cases op<;>simp only[Op.operands]at h<;>dsimp only
 case build t ps=>rw[XX (l:=ps.toList) λx hx=>h x (by simpa using hx)]
 case buildSlice t n ps=>rw[XX (l:=ps.toList) λx hx=>h x (by simpa using hx)]
 case makeFunc fn first captured =>
  rw[Uh (l:=captured.toList) λx hx=>h x (by simp[Array.mem_toList_iff.1 hx])]
 case call c =>
  have ha:O2 σ c.args=O2 τ c.args:=Uh λx hx=>h x (by simp[Call.operands,Array.mem_toList_iff.1 hx]);unfold VS;rw[ha,hb];cases hc:c.callee with
  |value f =>
   have hf:σ.Ci f=τ.Ci f:=h f (by simp[Call.operands,hc]);simp only[hf]
  |builtin b=>cases b<;>rfl
  |invoke r n=>rfl
 case slice t x lo hi mx =>
  have hx:σ.Ci x=τ.Ci x:=h x (by simp);have hlo:lo.map σ.Ci=lo.map τ.Ci:=by cases lo with |none=>rfl |some y=>simp[h y (by simp)]
  have zc:hi.map σ.Ci=hi.map τ.Ci:=by cases hi with |none=>rfl |some y=>simp[h y (by simp)]
  have sP:mx.map σ.Ci=mx.map τ.Ci:=by cases mx with |none=>rfl |some y=>simp[h y (by simp)]
  rw[hx,hlo,zc,sP]
 all_goals (first |rfl |(simp_all;done))
theorem XE{R:Type}{en:Gx}{σ τ:St}{o:Oper}{K:HO->APJ R}(hb:σ.Aj=τ.Aj)(h:∀x∈o.op.operands,σ.Ci x=τ.Ci x):UQ en σ o K=UQ en τ o K:=by
 have ha:gE en σ o=gE en τ o:=by
  obtain⟨dst,op,type,pos,after,guard⟩:=o;unfold gE;cases op<;>simp only[Op.operands]at h<;>dsimp only
  case load t x=>rw[h x (by simp),hb]
  case build t ps=>rw[XX (l:=ps.toList) λx hx=>h x (by simpa using hx)]
  case index t x i=>rw[h x (by simp),h i (by simp)]
  case field t x f=>rw[h x (by simp)]
  case indexAddr t x i=>rw[h x (by simp),h i (by simp)]
  case call c =>
   have ha:O2 σ c.args=O2 τ c.args:=Uh λx hx=>h x (by simp[Call.operands,Array.mem_toList_iff.1 hx]);rw[ha]
 have hs:ug en σ o=ug en τ o:=by
  obtain⟨dst,op,type,pos,after,guard⟩:=o;unfold ug Abr;cases op<;>simp only[Op.operands]at h<;>dsimp only
  case store t x v=>rw[h x (by simp),h v (by simp),hb]
 have ht:tlE en σ o=tlE en τ o:=by
  obtain⟨dst,op,type,pos,after,guard⟩:=o;unfold tlE;cases op<;>simp only[Op.operands]at h<;>dsimp only
  case slice t x lo hi mx =>
   cases lo with
   |none=>rfl
   |some lo=>cases hi with
    |some _=>rfl
    |none=>cases mx with
     |some _=>rfl
     |none=>dsimp only;rw[h x (by simp),h lo (by simp),hb]
  case indexAddr t x i=>rw[h x (by simp),h i (by simp),hb]
  case call c =>
   have ha:O2 σ c.args=O2 τ c.args:=Uh λx hx=>h x (by simp[Call.operands,Array.mem_toList_iff.1 hx]);rw[ha,hb]
 unfold UQ;rw[ha,hs,ht,hb];split
 ·rfl
 split
 ·rfl
 split
 ·rfl
 ·split
  ·have hd:ix en o=ix en o:=rfl;cases ix en o
   ·exact XF hb h
   ·simp only[AMm];rw[show τ.Aj=σ.Aj from hb.symm];exact XF hb h
  ·exact XF hb h
theorem wF{R:Type}{en:Gx}{σ τ:St}{o:Oper}{K:HO->APJ R}(hb:σ.Aj=τ.Aj)(h:∀x∈o.op.operands,σ.Ci x=τ.Ci x):exec en σ o K=exec en τ o K:=by
 unfold exec;split
 ·rename_i c d ho _;have ha:O2 σ _=O2 τ c.args:=Uh λx hx=>h x (by rw[ho];simp[Op.operands,Call.operands,Array.mem_toList_iff.1 hx]);rw[ha,hb];split
  ·split
   ·exact XE rfl h
   ·rfl
  ·exact XE hb h
 ·exact XE hb h
theorem Mr:∀a:AV,a.NI id=a
 |.AB ks t x=>by simp[AV.NI]
 |.Fv ks t x=>by simp[AV.NI]
 |.AG k=>rfl
 |.mp k=>rfl
 |.ptr k i p o=>rfl
 |.TA _ _ _ _ _=>rfl
 |.Vs _ _ _ _ _ _=>rfl
 |.pr a b=>by simp[AV.NI,Mr a,Mr b]
 |.fn g c=>by simp[AV.NI,Mr c]
 |.cons a b=>by simp[AV.NI,Mr a,Mr b]
 |.zs=>rfl
 |.JU=>rfl
 |.nil=>rfl
 |.un n=>rfl
theorem Zv(b:Blk):b.NI id=b:=by
 cases b with
 |A9=>rfl
 |map m kt vt es st=>cases m<;>simp[Blk.NI,RM.NI]
 |QU e t xs i p=>rfl
 |tail e t xs=>rfl
 |box a=>simp[Blk.NI,Mr]
 |row e m t xs=>cases m<;>simp[Blk.NI,RM.NI]
def Wn(bs:APH Blk):Prop:=∀(k:Nat) (x:Blk),bs[k]?=some x->∀j∈x.Ct,j<bs.length
theorem Adn{w:World}{g:G}{n k:Nat}{x:Blk}(h:Mn w g n k x):∀j∈x.Ct,j<n:=by
 cases x with
 |A9=>intro j hj;cases hj
 |map m kt vt es st=>exact h.1
 |QU e t xs i p=>intro j hj;cases hj
 |tail e t xs=>intro j hj;cases hj
 |box a=>obtain⟨_,_,_,_,_,_,_,hx⟩:=h;exact CG.Tk a _ hx
 |row e m t xs=>exact h.1
theorem Bf.scp{w:World}{g:G}{bs:APH Blk}(H:Bf w g bs):Wn bs:=λk x hx=>Adn (H.LP k x hx)
def G.cut(g:G)(n:Nat):G:=⟨λb=>match g.own b with |.BO k r=>if k<n then .BO k r else .no |t=>t,g.AZ⟩
def G.aX(g g':G)(n:Nat):G:=⟨λb=>match g.own b with |.BO k r=>if k<n then g'.own b else .BO k r |_=>g'.own b,λk=>if k<n then g'.AZ k else g.AZ k⟩
section
variable {P:Program} {o:Oper} {e:HO}
theorem fG{g:G}{n k:Nat}(hk:k<n):Ren id g (g.cut n) n k:=⟨hk,rfl,λb r h=>by simp[G.cut,h,hk]⟩
theorem AbN{σ:St}(PT:Nr P σ o e)(hm:e.Bz=[]){l l':APH Blk}(wN:e.Aj=σ.Aj++l')(hor:l=[]\/l'=[]){w:World}{g:G}{a:Act}(H:Bf w g (σ.Aj++l))(hsc:Wn σ.Aj)(hlen:σ.AO.length=a.tmps.size)
    (Iw:∀(i:Nat) (x:AV),σ.AO[i]?=some x->B4 w g (σ.Aj++l).length x (a.tmps.getD i undef)/\∀k∈x.Ct,k<σ.Aj.length) {next:Act->World->Prop} {Q:Exit->Act->World->Prop}
    (hn:∀v w' g',Bf w' g' (σ.Aj++(l++l'))->B4 w' g' (σ.Aj++(l++l')).length e.val v->(∀k∈e.val.Ct,k<e.Aj.length)->Step [] (σ.Aj++l).length w g w' g'->next (a.put o.dst v) w'):o.wp P a w next Q:=by
 rcases hor with rfl |rfl
 ·simp only[AML]at H Iw hn;refine PT.wp a w g ⟨H,hlen,λi x hx=>(Iw i x hx).1⟩ next Q λv w' g' H' hv BH=>?_
  rw[hm]at BH;rw[wN]at H' hv;exact hn v w' g' H' hv (by rw[wN];exact hv.Tk) BH
 ·simp only[AML]at wN hn
  let n:=σ.Aj.length
  have hnl:n<=(σ.Aj++l).length:=by grind
  have XN:∀k,k<n->Ren id g (g.cut n) n k:=λk hk=>fG hk;have iK:∀b,g.own b=.Ir->(g.cut n).own b=.Ir:=λb h=>by simp[G.cut,h]
  have Hr:Bf w (g.cut n) σ.Aj:=by
   refine⟨λb hb=>by simp[G.cut,H.BZ b hb],λk x hx=>?_⟩;have hk:=A3 hx;have h1:=H.LP k x (by grind);have:=h1.NI (φ:=id) iK (XN k hk) λj hj=>XN j (hsc k x hx j hj);rwa [Zv]at this
  refine PT.wp a w (g.cut n) ⟨Hr,hlen,λi x hx=>?_⟩ next Q λv w' g' H' hv BH=>?_
  ·obtain⟨h1,h2⟩:=Iw i x hx;have:=h1.NI (φ:=id) (g':=g.cut n) (n':=n) iK λk hk=>XN k (h2 k hk);rwa [Mr]at this
  ·rw[hm]at BH;rw[wN]at H' hv;have AjI:∀b,g.own b≠.no->b<w.heap.size:=λb h=>T2 H h;have wL:∀b k r,g.own b=.BO k r->¬k<n->g'.own b=.no/\w'.heap[b]?=w.heap[b]?:=λb k r h hk=>BH.no b (AjI b (by grind)) (by simp[G.cut,h,hk]);have st:Step [] (σ.Aj++l).length w g w' (g.aX g' n):=by
    refine⟨BH.os,BH.tape,BH.output,BH.size,λb hb h=>?_,λb h=>?_,λb k r h hk hm=>?_,λk hk=>?_⟩
    ·have:=BH.no b hb (by simp[G.cut,h]);exact⟨by simp[G.aX,h,this.1],this.2⟩
    ·have:=BH.Ir b (iK b h);exact⟨by simp[G.aX,h,this.1],this.2⟩
    ·by_cases kE:k<n
     ·have:=BH.BO b k r (by simp[G.cut,h,kE]) kE (by simp);exact⟨by simp[G.aX,h,this.1],this.2⟩
     ·exact⟨by simp[G.aX,h,kE],(wL b k r h kE).2⟩
    ·by_cases kE:k<n
     ·have:=BH.AZ k kE;simp only[G.aX,AMo kE,this];rfl
     ·simp[G.aX,kE]
   have Ae4:∀k,k<n->Ren id g' (g.aX g' n) (σ.Aj++l).length k:=λk hk=>by
    refine⟨by grind,by simp[G.aX,hk],λb r h=>?_⟩;simp only[G.aX]
    grind
   have Alr:∀b,g'.own b=.Ir->(g.aX g' n).own b=.Ir:=λb h=>by
    simp only[G.aX]
    grind
   refine hn v w' (g.aX g' n) ⟨λb hb=>?_,λk x hx=>?_⟩ ?_ (by rw[wN];exact hv.Tk) st
   ·have h1:=H'.BZ b hb;have h2:=H.BZ b (AMA BH.size hb);simp[G.aX,h2,h1]
   ·by_cases hk:k<n
    ·rw[AMt hk]at hx;have:=(H'.LP k x hx).NI (φ:=id) Alr (Ae4 k hk) λj hj=>Ae4 j (hsc k x hx j hj);rwa [Zv]at this
    ·exact(H.LP k x hx).QJ st (AMc _) (A3 hx)
   ·have:=hv.NI (φ:=id) Alr λk hk=>Ae4 k (hv.Tk k hk);rwa [Mr]at this
end
theorem je:∀(r l:APH Nat) {x:Nat},x∈fl l r->x∈l\/x∈r
 |[],_,_,h=>.inl h
 |k::r,l,x,h=>by
  simp only[fl]at h;split at h
  ·rcases je r l h with h |h
   ·exact .inl h
   ·exact .inr (by simp[h])
  ·rcases je r _ h with h |h
   ·rcases List.mem_append.1 h with h |h
    ·exact .inl h
    ·simp at h;exact .inr (by simp[h])
   ·exact .inr (by simp[h])
def lh(all:APH Oper)(A:APH (Nat×APH Nat)):Prop:=∀i x,x∈Eb A i->x∈TU all i\/∃d∈TU all i,x∈Eb A d
theorem lr(all:APH Oper):∀(is:APH Nat) (A:APH (Nat×APH Nat)),lh all A->nodup is=true->(∀i∈is,∀p∈A,p.1≠i)->lh all (Xx all is A)
 |[],_,h,_,_=>h
 |i::is,A,h,hn,hf=>by
  simp only[nodup,AMd,ANu]at hn;refine lr all is _ ?_ hn.2 ?_
  ·have Abb:∀d y,y∈Eb A d->y∈Eb ((i,fl [] (TU all i++(TU all i).flatMap (Eb A)))::A) d:=by
     intro d y hy;simp only[Eb];split
     ·rename_i he;have he:i=d:=by simpa using he
      subst he;have:∀(A:APH (Nat×APH Nat)),(∀p∈A,p.1≠i)->Eb A i=[]:=by
       intro A;induction A with
       |nil=>exact λ_=>rfl
       |cons p A ih =>
        intro hp;obtain⟨k,l⟩:=p;simp only[Eb];rw[AMp (by simpa using hp (k,l) (by simp))];exact ih λq hq=>hp q (by simp[hq])
      rw[this A (hf i (by simp))]at hy;cases hy
     ·exact hy
   intro j x hx;by_cases he:i=j
   ·subst he;simp only[Eb,ANK,AMR]at hx;rcases je _ _ hx with hx |hx
    ·cases hx
    ·rcases List.mem_append.1 hx with hx |hx
     ·exact .inl hx
     ·obtain⟨d,hd,hx⟩:=List.mem_flatMap.1 hx;exact .inr ⟨d,hd,Abb d x hx⟩
   ·simp only[Eb]at hx;rw[AMp (by simpa using he)]at hx;rcases h j x hx with h |⟨d,hd,hx⟩
    ·exact .inl h
    ·exact .inr ⟨d,hd,Abb d x hx⟩
  ·intro j hj p hp;rcases List.mem_cons.1 hp with rfl |hp
   ·intro e;have e:i=j:=e;subst e;have:=hn.1;simp[hj]at this
   ·exact hf j (by simp[hj]) p hp
def gl(A:APH (Nat×APH Nat))(D:Nat->Bool):Prop:=∀i,D i=true->∀x∈Eb A i,D x=true
theorem mY{all:APH Oper}{A:APH (Nat×APH Nat)}(hA:lh all A){D:Nat->Bool}(hc:gl A D){i:Nat}(hd:∀d∈TU all i,D d=true):∀x∈Eb A i,D x=true:=λx hx=>by
 rcases hA i x hx with h |⟨d,hdi,h⟩
 ·exact hd x h
 ·exact hc d (hd d hdi) x h
structure Iv where
 i:Nat
 o:Oper
 σ:St
 e:Option HO
def Iv.val(t:Iv):AV:=match t.e with |some e=>e.val |none=>.nil
def Iv.post(t:Iv):St:=match t.e with |some e=>t.σ.after t.o.dst e |none=>t.σ.skip t.o.dst
def Iv.kq(t:Iv):Bool:=match t.e with |some e=>!e.Bz.isEmpty |none=>false
def Iv.grow(t:Iv):Bool:=match t.e with |some e=>e.Bz.isEmpty&&decide (e.Aj.length≠t.σ.Aj.length)|none=>false
def Iv.Ok(en:Gx)(all:APH Oper)(t:Iv):Prop:=all[t.i]?=some t.o/\match t.e with |some e=>Want all t.σ t.o true/\exec en t.σ t.o some=some e |none=>Want all t.σ t.o false
inductive Tr (en:Gx) (all:List Oper) (A:List (Nat×List Nat)):List Nat->List Nat->St->List Iv->St->Prop
 |nil {done NL:List Nat} {σ:St}:Tr en all A done NL σ [] σ
 |cons {done NL:List Nat} {σ σ':St} {t:Iv} {ts:List Iv} (hσ:t.σ=σ) (ok:t.Ok en all) (ha:∀x∈NL,x∈Eb A t.i) (hb:t.kq=true->∀x∈done,x∈Eb A t.i)
     (next:Tr en all A (t.i::done) (if t.kq||t.grow then t.i::NL else NL) t.post ts σ'):Tr en all A done NL σ (t::ts) σ'
section
variable {en:Gx} {all:APH Oper} {A:APH (Nat×APH Nat)}
theorem aQ(he:YW en):∀{is done NL:APH Nat} {σ σ':St},TW en all A is done NL σ some=some σ'->∃ts:APH Iv,ts.map (·.i)=is/\Tr en all A done NL σ ts σ'
 |[],done,NL,σ,σ',h=>by
  simp only[TW,AL8]at h;subst h;exact⟨[],rfl,.nil⟩
 |i::is,done,NL,σ,σ',h=>by
  simp only[TW]at h;split at h
  ·cases h
  ·rename_i o ho;split at h
   ·rename_i AFr;have Ae2:∀x∈NL,x∈Eb A i:=λx hx=>by have:=List.all_eq_true.1 AFr x hx;simpa using this
    rcases Pf h with ⟨hw,h⟩|⟨hw,h⟩
    ·rw[R5 en he]at h;cases hx:exec en σ o some with
     |none=>rw[hx]at h;cases h
     |some e =>
      rw[hx]at h;simp only[AL6]at h;split at h
      ·rename_i hm;obtain⟨ts,h1,h2⟩:=aQ he h;refine⟨⟨i,o,σ,some e⟩::ts,by simp[h1],.cons rfl ⟨ho,hw,hx⟩ Ae2 (λhb=>?_) ?_⟩
       ·simp[Iv.kq,hm]at hb
       ·simp only[Iv.kq,Iv.grow,hm,AMP,AOg,AN5,Iv.post];by_cases hl:e.Aj.length=σ.Aj.length
        ·simpa [hl]using h2
        ·simpa [hl]using h2
      ·rename_i hm;split at h
       ·rename_i dP;obtain⟨ts,h1,h2⟩:=aQ he h;refine⟨⟨i,o,σ,some e⟩::ts,by simp[h1],.cons rfl ⟨ho,hw,hx⟩ Ae2 (λhb x hx=>?_) ?_⟩
        ·have:=List.all_eq_true.1 dP x hx;simpa using this
        ·simp only[Iv.kq,Iv.post];have hm':e.Bz.isEmpty=false:=by simpa using hm
         simpa [hm']using h2
       ·cases h
    ·obtain⟨ts,h1,h2⟩:=aQ he h;refine⟨⟨i,o,σ,none⟩::ts,by simp[h1],.cons rfl ⟨ho,hw⟩ Ae2 (λhb=>by cases hb) ?_⟩;simpa [Iv.kq,Iv.grow,Iv.post]using h2
   ·cases h
theorem Tr.Ac8:∀{ts:APH Iv} {done NL:APH Nat} {σ σ':St},Tr en all A done NL σ ts σ'->∀x∈NL,∀u∈ts,x∈Eb A u.i
 |[],_,_,_,_,_,_,_,_,hu=>by cases hu
 |t::ts,_,_,_,_,.cons _ _ ha _ next,x,hx,u,hu=>by
  rcases List.mem_cons.1 hu with rfl |hu
  ·exact ha x hx
  ·exact next.Ac8 x (by split<;>simp[hx]) u hu
theorem Tr.Zk:∀{Cg post:APH Iv} {t:Iv} {done NL:APH Nat} {σ σ':St},Tr en all A done NL σ (Cg++t::post) σ' ->
    ((t.kq||t.grow)=true->∀u∈post,t.i∈Eb A u.i)/\(t.kq=true->(∀x∈done,x∈Eb A t.i)/\∀u∈Cg,u.i∈Eb A t.i)
 |[],post,t,done,NL,σ,σ',.cons hσ ok ha hb next=>by
  refine⟨λh u hu=>next.Ac8 t.i (by rw[AMo h];simp) u hu,λh=>⟨hb h,λu hu=>by cases hu⟩⟩
 |p::Cg,post,t,done,NL,σ,σ',.cons hσ ok ha hb next=>by
  obtain⟨h1,h2⟩:=next.Zk
  refine⟨h1,λh=>⟨λx hx=>(h2 h).1 x (by simp[hx]),λu hu=>?_⟩⟩;rcases List.mem_cons.1 hu with rfl |hu
  ·exact(h2 h).1 u.i (by simp)
  ·exact(h2 h).2 u hu
theorem Tr.split:∀{Cg ts:APH Iv} {done NL:APH Nat} {σ σ':St},Tr en all A done NL σ (Cg++ts) σ'->∃Aas σ1,Tr en all A done NL σ Cg σ1/\Tr en all A ((Cg.map (·.i)).reverse++done) Aas σ1 ts σ'
 |[],ts,done,NL,σ,σ',h=>⟨NL,σ,.nil,h⟩
 |p::Cg,ts,done,NL,σ,σ',.cons hσ ok ha hb next=>by
  obtain⟨Aas,σ1,h1,h2⟩:=next.split
  exact⟨Aas,σ1,.cons hσ ok ha hb h1,by simpa using h2⟩
theorem Tr.Agc:∀{ts:APH Iv} {done NL:APH Nat} {σ σ':St},Tr en all A done NL σ ts σ'->∀u∈ts,u.Ok en all
 |[],_,_,_,_,_,_,hu=>by cases hu
 |t::ts,_,_,_,_,.cons _ ok _ _ next,u,hu=>by
  rcases List.mem_cons.1 hu with rfl |hu
  ·exact ok
  ·exact next.Agc u hu
end
def LS(D:Nat->Bool):APH Iv->APH AV->APH AV
 |[],sl=>sl
 |t::ts,sl=>LS D ts (if D t.i then Y3 t.o.dst t.val sl else sl)
def Iv.nb(t:Iv)(bs:APH Blk):APH Blk:=match t.e with |some e=>e.Aj |none=>bs
def Hy(D:Nat->Bool):APH Iv->APH Blk->APH Blk
 |[],bs=>bs
 |t::ts,bs=>Hy D ts (if D t.i&&t.grow then t.nb bs else bs)
theorem fU{d:APJ Nat}{v:AV}{sl:APH AV}{k:Nat}(h:d≠some k):(Y3 d v sl)[k]?=sl[k]?:=by
 cases d with
 |none=>rfl
 |some d =>
  have:d≠k:=λe=>h (by rw[e]);simp[Y3,AMv,this]
theorem ju{d:APJ Nat}{v:AV}{sl sl':APH AV}{k:Nat}(h:sl[k]?=sl'[k]?):(Y3 d v sl)[k]?=(Y3 d v sl')[k]?:=by
 cases d with
 |none=>exact h
 |some d =>
  simp only[Y3,AMv];split
  ·rename_i e;subst e;have:d<sl.length↔d<sl'.length:=by
    constructor
    ·intro hl;rw[ANd hl]at h;exact A3 h.symm
    ·intro hl;rw[ANd hl]at h;exact A3 h
   by_cases hl:d<sl.length
   ·rw[AMo hl,AMo (this.1 hl)]
   ·rw[AMp hl,AMp (λh=>hl (this.2 h))]
  ·exact h
theorem mV{d:Nat}{v:AV}{sl:APH AV}{x:AV}(h:(Y3 (some d) v sl)[d]?=some x):x=v:=by
 simp only[Y3,AMv,AMR]at h;split at h
 ·injection h with h;exact h.symm
 ·cases h
theorem aG(D:Nat->Bool):∀(ts:APH Iv) (sl:APH AV),(LS D ts sl).length=sl.length
 |[],_=>rfl
 |t::ts,sl=>by
  rw[LS,aG D ts];split
  ·exact bK ..
  ·rfl
theorem XD(D:Nat->Bool):∀(Cg ts:APH Iv) (sl:APH AV),LS D (Cg++ts) sl=LS D ts (LS D Cg sl)
 |[],_,_=>rfl
 |t::Cg,ts,sl=>by rw[AN1,LS,LS,XD D Cg ts]
theorem aF(D:Nat->Bool):∀(Cg ts:APH Iv) (bs:APH Blk),Hy D (Cg++ts) bs=Hy D ts (Hy D Cg bs)
 |[],_,_=>rfl
 |t::Cg,ts,bs=>by rw[AN1,Hy,Hy,aF D Cg ts]
theorem ig{D:Nat->Bool}{k:Nat}:∀{ts:APH Iv} {sl sl':APH AV},sl[k]?=sl'[k]?->(LS D ts sl)[k]?=(LS D ts sl')[k]?
 |[],_,_,h=>h
 |t::ts,sl,sl',h=>by
  simp only[LS];refine ig ?_;split
  ·exact ju h
  ·exact h
theorem ZB{D:Nat->Bool}{k:Nat}:∀{ts:APH Iv} {sl sl':APH AV},(∀u∈ts,D u.i=false->u.o.dst≠some k)->sl[k]?=sl'[k]?->(LS D ts sl)[k]?=(LS (λ_=>true) ts sl')[k]?
 |[],_,_,_,h=>h
 |t::ts,sl,sl',hu,h=>by
  simp only[LS,AMR];refine ZB (λu hm=>hu u (by simp[hm])) ?_;cases hD:D t.i with
  |true=>simp only[AMR];exact ju h
  |false =>
   simp only[AMU,ANz];rw[fU (hu t (by simp) hD)];exact h
theorem Yq{D:Nat->Bool}{k:Nat}:∀{ts:APH Iv} {sl:APH AV},(∀u∈ts,D u.i=true->u.o.dst≠some k)->(LS D ts sl)[k]?=sl[k]?
 |[],_,_=>rfl
 |t::ts,sl,hu=>by
  simp only[LS];rw[Yq λu hm=>hu u (by simp[hm])];split
  ·rename_i h;exact fU (hu t (by simp) h)
  ·rfl
theorem wA{D D':Nat->Bool}:∀{ts:APH Iv} {sl:APH AV},(∀u∈ts,D u.i=D' u.i)->LS D ts sl=LS D' ts sl
 |[],_,_=>rfl
 |t::ts,sl,h=>by
  rw[LS,LS,h t (by simp)];exact wA λu hu=>h u (by simp[hu])
theorem wz{D D':Nat->Bool}:∀{ts:APH Iv} {bs:APH Blk},(∀u∈ts,D u.i=D' u.i)->Hy D ts bs=Hy D' ts bs
 |[],_,_=>rfl
 |t::ts,bs,h=>by
  rw[Hy,Hy,h t (by simp)];exact wz λu hu=>h u (by simp[hu])
theorem Yp{D:Nat->Bool}:∀{ts:APH Iv} {bs:APH Blk},(∀u∈ts,D u.i=true->u.grow=false)->Hy D ts bs=bs
 |[],_,_=>rfl
 |t::ts,bs,h=>by
  rw[Hy];have:(D t.i&&t.grow)=false:=by
   cases hD:D t.i with
   |false=>rfl
   |true=>rw[h t (by simp) hD];rfl
  rw[this];exact Yp λu hu=>h u (by simp[hu])
section
variable {P:Program} {en:Gx} {all:APH Oper} {A:APH (Nat×APH Nat)}
theorem aO(he:EnvOk P en){t:Iv}(ok:t.Ok en all)(hb:t.kq=false):∃l,t.post.Aj=t.σ.Aj++l/\(t.grow=false->l=[])/\(∀e,t.e=some e->e.Bz=[]/\e.Aj=t.σ.Aj++l)/\t.post.AO=Y3 t.o.dst t.val t.σ.AO:=by
 unfold Iv.Ok at ok;unfold Iv.kq at hb;unfold Iv.post Iv.grow Iv.val;cases hq:t.e with
 |none=>exact⟨[],by simp[St.skip],λ_=>rfl,λe h=>by(cases h),rfl⟩
 |some e =>
  rw[hq]at ok hb;have hm:e.Bz=[]:=by simpa using hb
  have PT:=R6 he ok.2.2;obtain⟨l,hl⟩:=PT.ext hm;refine⟨l,hl,λh=>?_,λe' h=>by injection h with h;subst h;exact⟨hm,hl⟩,?_⟩
  ·simp only[hm,List.isEmpty_nil,AN5,AMW,ne_eq,Decidable.not_not]at h;rw[hl,AMa]at h;exact AMZ (by omega)
  ·simp only[St.after,hm,TV]
theorem Tr.lq(he:EnvOk P en):∀{ts:APH Iv} {done NL:APH Nat} {σ σ':St},Tr en all A done NL σ ts σ'->(∀u∈ts,u.kq=false)->σ'.AO=LS (λ_=>true) ts σ.AO/\σ'.Aj=Hy (λ_=>true) ts σ.Aj/\(∃l,σ'.Aj=σ.Aj++l)
 |[],_,_,_,_,.nil,_=>⟨rfl,rfl,[],(AML _).symm⟩
 |t::ts,done,NL,σ,σ',.cons hσ ok ha hb next,SQ=>by
  obtain⟨l,h1,h2,h3,h4⟩:=aO he ok (SQ t (by simp));obtain⟨i1,i2,l',i3⟩:=next.lq he λu hu=>SQ u (by simp[hu])
  subst hσ;refine⟨by rw[i1,LS,AMo rfl,h4],?_,l++l',by rw[i3,h1,AMe]⟩;rw[i2,Hy,AN5];congr 1;cases hg:t.grow with
  |false=>rw[h1,h2 hg,AML];rfl
  |true =>
   cases hq:t.e with
   |none=>simp[Iv.grow,hq]at hg
   |some e=>simp only[AMR,Iv.nb,hq];rw[h1,(h3 e hq).2]
theorem Tr.rW(he:EnvOk P en)(D:Nat->Bool):∀{ts:APH Iv} {done NL:APH Nat} {σ σ':St},Tr en all A done NL σ ts σ'->(∀u∈ts,u.kq=false)->∀(b0:APH Blk),(∃l,σ.Aj=b0++l)->∀bs,(∃l,bs=b0++l)->∃l,Hy D ts bs=b0++l
 |[],_,_,_,_,_,_,_,_,_,h=>h
 |t::ts,done,NL,σ,σ',.cons hσ ok ha hb next,SQ,b0,hb0,bs,hbs=>by
  obtain⟨l,h1,h2,h3,h4⟩:=aO he ok (SQ t (by simp));obtain⟨l0,iM⟩:=hb0;subst hσ;rw[Hy];refine next.rW he D (λu hu=>SQ u (by simp[hu])) b0 ⟨l0++l,by rw[h1,iM,AMe]⟩ _ ?_
  split
  ·cases hq:t.e with
   |none=>simpa [Iv.nb,hq]using hbs
   |some e=>exact⟨l0++l,by simp only[Iv.nb,hq];rw[(h3 e hq).2,iM,AMe]⟩
  ·exact hbs
end
theorem db:∀{Bb:APH Nat} {l:APH AV} {j i:Nat},(j+i)∈Bb->(Q2 Bb j l)[i]?=l[i]?
 |Bb,a::r,j,0,h=>by
  have h':j∈Bb:=h;simp[Q2,h']
 |Bb,a::r,j,i+1,h=>by
  simp only[Q2,List.getElem?_cons_succ];exact db (by rwa [show j+1+i=j+(i+1) by omega])
 |_,[],_,_,_=>by simp[Q2]
theorem l6:∀{Bb:APH Nat} {l:APH AV} {j i:Nat} {x:AV},(j+i)∉Bb->(Q2 Bb j l)[i]?=some x->x=.un 0
 |Bb,a::r,j,0,x,h,hx=>by
  have:Bb.contains j=false:=by simpa using h
  simp only[Q2,this,AMU,ANz,List.getElem?_cons_zero,AL8]at hx;exact hx.symm
 |Bb,a::r,j,i+1,x,h,hx=>by
  simp only[Q2,List.getElem?_cons_succ]at hx;exact l6 (by rwa [show j+1+i=j+(i+1) by omega]) hx
 |_,[],_,_,_,_,hx=>by simp[Q2]at hx
def tJ(B9:Array Oper)(o:Oper)(σ:St):St:=⟨Q2 (o.looksAt B9) 0 σ.AO,σ.Aj⟩
theorem Abm{en:Gx}{B9:Array Oper}{o:Oper}{σ:St}{K:HO->APJ HO}:exec en (tJ B9 o σ) o K=exec en σ o K:=by
 refine wF rfl λx hx=>?_;cases x with
 |tmp t =>
  have:t∈o.looksAt B9:=AME _ (List.mem_filterMap.2 ⟨.tmp t,by simpa using hx,rfl⟩);simp only[St.Ci,tJ];rw[db (j:=0) (by simpa using this)]
 |const v=>rfl
 |global g=>rfl
 |func f=>rfl
theorem ZA{D:Nat->Bool}:∀{ts:APH Iv} {bs:APH Blk},(∀u∈ts,u.grow=true->D u.i=true)->Hy D ts bs=Hy (λ_=>true) ts bs
 |[],_,_=>rfl
 |t::ts,bs,h=>by
  rw[Hy,Hy];have:(D t.i&&t.grow)=(true&&t.grow):=by
   cases hg:t.grow with
   |false=>simp
   |true=>rw[h t (by simp) hg]
  rw[this];exact ZA λu hu=>h u (by simp[hu])
theorem lU{t:Iv}{e:HO}(h:t.e=some e):t.post.Aj=e.Aj:=by simp[Iv.post,h,St.after]
theorem ib{D:Nat->Bool}:∀{ts:APH Iv} {bs:APH Blk},Hy D ts bs=bs\/∃u∈ts,D u.i=true/\u.grow=true/\Hy D ts bs=u.post.Aj
 |[],_=>.inl rfl
 |t::ts,bs=>by
  rw[Hy];rcases ib (D:=D) (ts:=ts) (bs:=if D t.i&&t.grow then t.nb bs else bs)with h |⟨u,hu,h1,h2,h3⟩
  ·rw[h];split
   ·rename_i hc;rw[AMd]at hc;cases hq:t.e with
    |none=>exact .inl (by simp[Iv.nb,hq])
    |some e=>exact .inr ⟨t,by simp,hc.1,hc.2,by rw[lU hq];simp[Iv.nb,hq]⟩
   ·exact .inl rfl
  ·exact .inr ⟨u,by simp[hu],h1,h2,h3⟩
theorem ic:∀{ts:APH Iv} {sl:APH AV} {k:Nat} {x:AV},(LS (λ_=>true) ts sl)[k]?=some x->sl[k]?=some x\/∃Cg u post,ts=Cg++u::post/\u.o.dst=some k/\x=u.val
 |[],_,_,_,h=>.inl h
 |t::ts,sl,k,x,h=>by
  simp only[LS,AMR]at h;rcases ic h with h |⟨Cg,u,post,e,h1,h2⟩
  ·by_cases hd:t.o.dst=some k
   ·rw[hd]at h;exact .inr ⟨[],t,ts,rfl,hd,mV h⟩
   ·rw[fU hd]at h;exact .inl h
  ·exact .inr ⟨t::Cg,u,post,by rw[e];rfl,h1,h2⟩
structure Inv (P:Program) (A:List (Nat×List Nat)) (N:Nat) (done:List Nat) (Il:List Iv) (σ:St) (m:Nat) (a0:Act) (w0:World) (g0:G) (D:Nat->Bool) (a:Act) (w:World) (g:G):Prop where
 y7:∀i∈done,D i=true
 only:∀i,D i=true->i∈done\/∃u∈Il,u.i=i
 gZ:gl A D
 dfr:a.defers=a0.defers
 len:σ.AO.length=a.tmps.size
 step:BB m w0 g0 w g
 heap:Bf w g (Hy D Il σ.Aj)
 AO:∀(i:Nat) (x:AV),(LS D Il σ.AO)[i]?=some x->B4 w g (Hy D Il σ.Aj).length x (a.tmps.getD i undef)
 Ct:∀u∈Il,D u.i=true->∀k∈u.val.Ct,k<u.post.Aj.length
 scp:∀u∈Il,D u.i=true->u.grow=true->Wn u.post.Aj
section
variable {P:Program} {en:Gx} {B9:Array Oper} {A:APH (Nat×APH Nat)} {N m:Nat} {done NL:APH Nat} {Il Cg post:APH Iv} {t:Iv} {σ σ1:St} {a0 a:Act} {w0 w:World} {g0 g:G} {D:Nat->Bool}
theorem Inv.find(he:EnvOk P en)(V2:Inv P A N done Il σ m a0 w0 g0 D a w g)(fh:Tr en B9.toList A done NL σ Il σ1)(SQ:∀u∈Il,u.kq=false)(R9:Il=Cg++t::post)(Rb:D t.i=false)(Wu:∀x∈Eb A t.i,D x=true)
    (Z8:∀u∈Cg,u.i∈Eb A t.i\/u.o.apart B9 t.o=true) (dS:∀u∈post,t.i∈Eb A u.i\/t.o.apart B9 u.o=true)
    (h0:∀(i:Nat) (x:AV),σ.AO[i]?=some x->∀k∈x.Ct,k<σ.Aj.length) (kG:Wn σ.Aj) :
    (∃l,Hy D Il σ.Aj=t.σ.Aj++l/\Hy D post t.σ.Aj=t.σ.Aj++l/\(t.grow=true->l=[]))/\Wn t.σ.Aj/\t.σ.AO.length=a.tmps.size/\(∀u∈post,D u.i=true->t.grow=false/\t.o.apart B9 u.o=true)/\(∀u∈Cg,u.grow=true->D u.i=true)/\Hy D Cg σ.Aj=t.σ.Aj /\
     (∀k∈t.o.looksAt B9,∀x,t.σ.AO[k]?=some x->B4 w g (Hy D Il σ.Aj).length x (a.tmps.getD k undef)/\∀j∈x.Ct,j<t.σ.Aj.length):=by
 subst R9;obtain⟨Aas,σt,htp,htt⟩:=fh.split;have hpb:∀u∈Cg,u.kq=false:=λu hu=>SQ u (by simp[hu]);obtain⟨Q1,Y1,l0,s7⟩:=htp.lq he hpb;cases htt with
 |cons hσ ok ha hb next =>
  subst hσ;have hgp:∀u∈Cg,u.grow=true->D u.i=true:=λu hu hg=>by
   obtain⟨p1,p2,rfl⟩:=List.append_of_mem hu;have AGr:Tr en B9.toList A done NL σ (p1++u::(p2++t::post)) σ1:=by simpa using fh
   exact Wu _ (AGr.Zk.1 (by simp[hg]) t (by simp))
  have hB:Hy D Cg σ.Aj=t.σ.Aj:=by rw[ZA hgp,<-Y1]
  have W5:∀u∈post,D u.i=true->t.i∉Eb A u.i:=λu _ hd hm=>by
   rw[V2.gZ _ hd _ hm]at Rb;cases Rb
  have hgt:t.grow=true->∀u∈post,D u.i=false:=λhg u hu=>by
   cases hd:D u.i with
   |false=>rfl
   |true=>exact(W5 u hu hd (fh.Zk.1 (by simp[hg]) u hu)).elim
  have XO:Hy D (Cg++t::post) σ.Aj=Hy D post t.σ.Aj:=by
   rw[aF,Hy,hB,Rb];rfl
  obtain⟨l1,e1,_,_,_⟩:=aO he ok (SQ t (by simp));obtain⟨l,hl⟩:=next.rW he D (λu hu=>SQ u (by simp[hu])) t.σ.Aj ⟨l1,e1⟩ t.σ.Aj ⟨[],(AML _).symm⟩
  have hsc:Wn t.σ.Aj:=by
   rw[<-hB];rcases ib (D:=D) (ts:=Cg) (bs:=σ.Aj)with h |⟨u,hu,h1,h2,h3⟩
   ·rw[h];exact kG
   ·rw[h3];exact V2.scp u (by simp[hu]) h1 h2
  refine⟨⟨l,by rw[XO];exact hl,hl,λhg=>?_⟩,hsc,by rw[Q1,aG];exact V2.len,λu hu hd=>⟨?_,?_⟩,hgp,hB,λk hk x hx=>⟨?_,?_⟩⟩
  ·have:=Yp (D:=D) (ts:=post) (bs:=t.σ.Aj) λu hu hd=>by rw[hgt hg u hu]at hd;cases hd
   rw[this]at hl;have h2:t.σ.Aj.length=t.σ.Aj.length+l.length:=by rw[<-AMa,<-hl]
   exact AMZ (by omega)
  ·cases hg:t.grow with
   |false=>rfl
   |true=>rw[hgt hg u hu]at hd;cases hd
  ·exact(dS u hu).resolve_left (W5 u hu hd)
  ·have h1:(LS D (Cg++t::post) σ.AO)[k]?=t.σ.AO[k]?:=by
     rw[XD,LS,Rb];simp only[AMU,ANz];rw[Yq,ZB,<-Q1]
     ·intro u hu hd e;rcases Z8 u hu with h |h
      ·rw[Wu _ h]at hd;cases hd
      ·exact(Oper.apart_spec h).1 k e hk
     ·rfl
     ·intro u hu hd e;have:=(dS u hu).resolve_left (W5 u hu hd);exact(Oper.apart_spec this).2.2 k e hk
   exact V2.AO k x (by rw[h1];exact hx)
  ·rw[Q1]at hx;rcases ic hx with h |⟨p1,u,p2,e,h1,rfl⟩
   ·intro j hj;have:=h0 k x h j hj;rw[s7,AMa];omega
   ·intro j hj;have hu:u∈Cg:=by rw[e];simp
    have hD:D u.i=true:=by
     rcases Z8 u hu with h |h
     ·exact Wu _ h
     ·exact((Oper.apart_spec h).1 k h1 hk).elim
    have:=V2.Ct u (by simp[hu]) hD j hj;subst e;obtain⟨AJp,σu,q1,q2⟩:=htp.split;cases q2 with
    |cons hσ' ok' ha' za next' =>
     obtain⟨_,_,l2,q3⟩:=next'.lq he λv hv=>hpb v (by simp[hv]);rw[q3,AMa];omega
end
theorem U8{a:Act}{d:APJ Tmp}{v:Value}{k:Nat}(h:d≠some k):(a.put d v).tmps.getD k undef=a.tmps.getD k undef:=by
 cases d with
 |none=>rfl
 |some d =>
  have:d≠k:=λe=>h (by rw[e]);simp[Act.put,ANC this]
theorem Sp{a:Act}{k:Nat}{v:Value}(h:k<a.tmps.size):(a.put (some k) v).tmps.getD k undef=v:=by
 simp[Act.put,h]
section
variable {P:Program} {en:Gx} {B9:Array Oper} {A:APH (Nat×APH Nat)} {N m:Nat} {done NL:APH Nat} {Il Cg post:APH Iv} {t:Iv} {σ σ1:St} {a0 a:Act} {w0 w:World} {g0 g:G} {D D':Nat->Bool}
theorem Inv.next(he:EnvOk P en)(V2:Inv P A N done Il σ m a0 w0 g0 D a w g)(fh:Tr en B9.toList A done NL σ Il σ1)(SQ:∀u∈Il,u.kq=false)(R9:Il=Cg++t::post)(Rb:D t.i=false)(Wu:∀x∈Eb A t.i,D x=true)
    (Z8:∀u∈Cg,u.i∈Eb A t.i\/u.o.apart B9 t.o=true) (dS:∀u∈post,t.i∈Eb A u.i\/t.o.apart B9 u.o=true)
    (h0:∀(i:Nat) (x:AV),σ.AO[i]?=some x->∀k∈x.Ct,k<σ.Aj.length) (kG:Wn σ.Aj) (hm:m<=σ.Aj.length)
    (sD:∀i,D' i=if i=t.i then true else D i) (hnp:∀u∈Cg,u.i≠t.i) (hnq:∀u∈post,u.i≠t.i)
    {l l':APH Blk} (hl:Hy D Il σ.Aj=t.σ.Aj++l) (wN:t.post.Aj=t.σ.Aj++l') (hlg:t.grow=true->l=[]) (AFU:t.grow=false->l'=[])
    {v:Value} {w':World} {g':G} (H':Bf w' g' (t.σ.Aj++(l++l'))) (hv:B4 w' g' (t.σ.Aj++(l++l')).length t.val v) (QS:∀k∈t.val.Ct,k<t.post.Aj.length) (st:Step [] (Hy D Il σ.Aj).length w g w' g') :
    Inv P A N done Il σ m a0 w0 g0 D' (a.put t.o.dst v) w' g':=by
 obtain⟨_,hsc,hlen,W5,hgp,hB,_⟩:=V2.find he fh SQ R9 Rb Wu Z8 dS h0 kG;have AFg:∃l0,t.σ.Aj=σ.Aj++l0:=by
  subst R9;obtain⟨Aas,σt,htp,htt⟩:=fh.split;cases htt with
  |cons hσ ok ha hb next =>
   subst hσ;obtain⟨_,_,l0,s7⟩:=htp.lq he λu hu=>SQ u (by simp[hu]);exact⟨l0,s7⟩
 have dR:t.Ok en B9.toList:=fh.Agc t (by rw[R9];simp);obtain⟨l1,e1,e2,e3,_⟩:=aO he dR (SQ t (by rw[R9];simp));have fK:l1=l':=List.append_cancel_left (e1.symm.trans wN);subst fK;have hDt:D' t.i=true:=by rw[sD];simp
 have hDp:∀u∈Cg,D u.i=D' u.i:=λu hu=>by rw[sD,AMp (hnp u hu)]
 have hDq:∀u∈post,D u.i=D' u.i:=λu hu=>by rw[sD,AMp (hnq u hu)]
 have hB':Hy D' Il σ.Aj=t.σ.Aj++(l++l1):=by
  have h1:Hy D Il σ.Aj=Hy D post t.σ.Aj:=by
   rw[R9,aF,Hy,hB,Rb];rfl
  rw[R9,aF,Hy,<-wz hDp,hB,hDt,AN5,<-wz hDq];cases hg:t.grow with
  |false =>
   simp only[AMU,ANz];rw[<-h1,hl,AFU hg,AML]
  |true =>
   simp only[AMR];have ACv:∀u∈post,D u.i=true->u.grow=false:=λu hu hd=>by
    have:=(W5 u hu hd).1;rw[hg]at this;cases this
   rw[Yp ACv,hlg hg,ANk];cases hq:t.e with
   |none=>simp[Iv.grow,hq]at hg
   |some e=>simp only[Iv.nb,hq];exact(e3 e hq).2
 have PR:(Hy D Il σ.Aj).length<=(Hy D' Il σ.Aj).length:=by rw[hl,hB'];simp
 refine⟨λi hi=>?_,λi hi=>?_,λi hi x hx=>?_,by rw[put_defers];exact V2.dfr,by rw[Wa];exact V2.len,?_,by rw[hB'];exact H',λk x hx=>?_,λu hu hd=>?_,λu hu hd hg=>?_⟩
 ·rw[sD];split
  ·rfl
  ·exact V2.y7 i hi
 ·rw[sD]at hi;split at hi
  ·rename_i e;exact .inr ⟨t,by rw[R9];simp,e.symm⟩
  ·exact V2.only i hi
 ·rw[sD]at hi⊢;split
  ·rfl
  ·split at hi
   ·rename_i e;subst e;exact Wu x hx
   ·exact V2.gZ i hi x hx
 ·refine V2.step.trans (st.xQ ?_);obtain⟨l0,iM⟩:=AFg;rw[hl,iM];simp only[AMa];omega
 ·by_cases hd:t.o.dst=some k
  ·have tf:(LS D' Il σ.AO)[k]?=(Y3 (some k) t.val (LS D' Cg σ.AO))[k]?:=by
     rw[R9,XD,LS,hDt,AMo rfl,hd];refine Yq λu hu hd' e=>?_;rw[<-hDq u hu]at hd';exact(Oper.apart_spec (W5 u hu hd').2).2.1 k hd e
   rw[tf]at hx;have hval:=mV hx;subst hval;have o9:k<a.tmps.size:=by
    have:=A3 hx;rw[bK,aG,V2.len]at this;exact this
   rw[hd,Sp o9,hB'];exact hv
  ·rw[U8 hd];have tf:(LS D' Il σ.AO)[k]?=(LS D Il σ.AO)[k]?:=by
    rw[R9,XD,XD,LS,LS,hDt,Rb,<-wA hDq,<-wA hDp];simp only[AMR,AMU,ANz];exact ig (fU hd)
   rw[tf]at hx;exact(V2.AO k x hx).QJ st PR
 ·rw[sD]at hd;split at hd
  ·rename_i e;have hut:u=t:=by
    rw[R9]at hu;rcases List.mem_append.1 hu with hu |hu
    ·exact(hnp u hu e).elim
    ·rcases List.mem_cons.1 hu with hu |hu
     ·exact hu
     ·exact(hnq u hu e).elim
   subst hut;exact QS
  ·exact V2.Ct u hu hd
 ·rw[sD]at hd;split at hd
  ·rename_i e;have hut:u=t:=by
    rw[R9]at hu;rcases List.mem_append.1 hu with hu |hu
    ·exact(hnp u hu e).elim
    ·rcases List.mem_cons.1 hu with hu |hu
     ·exact hu
     ·exact(hnq u hu e).elim
   subst hut;rw[hlg hg,ANk]at H';rw[wN];exact H'.scp
  ·exact V2.scp u hu hd hg
end
theorem zT{w:World}{g:G}{n:Nat}{σ:St}{a:Act}{B9:Array Oper}{o:Oper}{b:Bool}(h:Want B9.toList σ o b)(hlen:σ.AO.length=a.tmps.size)
    (hs:∀k∈o.looksAt B9,∀x,σ.AO[k]?=some x->B4 w g n x (a.tmps.getD k undef)):Region.wanted o (yielded B9 a.tmps)=b:=by
 cases h with
 |plain h=>simp[Region.wanted,h]
 |@guard g0 fy d b h hd hb =>
  rw[AMk]at hd;have hk:d∈o.looksAt B9:=AMF _ (by simp[h,hd]);have h1:=R3 (hs d hk _ hb);have hl:d<a.tmps.size:=by rw[<-hlen];exact A3 hb
  have h2:a.tmps[d]?=some (.bool b):=by
   rw[AMY hl];rw[AM0,AMY hl]at h1;exact congrArg some h1
  simp[Region.wanted,h,yielded,hd,h2]
 |@nil g0 fy d h hd hb =>
  rw[AMk]at hd;have hk:d∈o.looksAt B9:=AMF _ (by simp[h,hd]);have h1:a.tmps.getD d undef=.tuple #[]:=hs d hk _ hb;have hl:d<a.tmps.size:=by rw[<-hlen];exact A3 hb
  have h2:a.tmps[d]?=some (.tuple #[]):=by
   rw[AMY hl];rw[AM0,AMY hl]at h1;exact congrArg some h1
  simp[Region.wanted,h,yielded,hd,h2]
section
variable {P:Program} {en:Gx} {B9:Array Oper} {A:APH (Nat×APH Nat)} {N m:Nat} {done NL:APH Nat} {Il Cg post:APH Iv} {t:Iv} {σ σ1:St} {a0 a:Act} {w0 w:World} {g0 g:G} {D D':Nat->Bool} {Q:Exit->Act->World->Prop}
theorem Inv.op(he:EnvOk P en)(V2:Inv P A N done Il σ m a0 w0 g0 D a w g)(fh:Tr en B9.toList A done NL σ Il σ1)(SQ:∀u∈Il,u.kq=false)(R9:Il=Cg++t::post)(Rb:D t.i=false)(Wu:∀x∈Eb A t.i,D x=true)
    (Z8:∀u∈Cg,u.i∈Eb A t.i\/u.o.apart B9 t.o=true) (dS:∀u∈post,t.i∈Eb A u.i\/t.o.apart B9 u.o=true)
    (h0:∀(i:Nat) (x:AV),σ.AO[i]?=some x->∀k∈x.Ct,k<σ.Aj.length) (kG:Wn σ.Aj) (hm:m<=σ.Aj.length)
    (sD:∀i,D' i=if i=t.i then true else D i) (hnp:∀u∈Cg,u.i≠t.i) (hnq:∀u∈post,u.i≠t.i) {K:Act->World->Prop}
    (hK:∀a' w' g',Inv P A N done Il σ m a0 w0 g0 D' a' w' g'->K a' w'):wpOp P B9 Q t.i K a w:=by
 obtain⟨⟨l,hl,_,hlg⟩,hsc,hlen,W5,hgp,hB,Iw⟩:=V2.find he fh SQ R9 Rb Wu Z8 dS h0 kG;have dR:t.Ok en B9.toList:=fh.Agc t (by rw[R9];simp);obtain⟨l1,e1,e2,e3,_⟩:=aO he dR (SQ t (by rw[R9];simp));have ho:B9[t.i]?=some t.o:=by rw[<-AMk];exact dR.1
 have Afw:∀k∈t.o.looksAt B9,∀x,t.σ.AO[k]?=some x->B4 w g (Hy D Il σ.Aj).length x (a.tmps.getD k undef):=λk hk x hx=>(Iw k hk x hx).1;have pj:=dR.2;unfold wpOp;simp only[ho];cases hq:t.e with
 |none =>
  rw[hq]at pj;rw[zT pj hlen Afw];simp only[AMU,ANz];have hg:t.grow=false:=by simp[Iv.grow,hq]
  have hval:t.val=.nil:=by simp[Iv.val,hq]
  have UG:=e2 hg;subst UG;refine hK _ _ g (V2.next he fh SQ R9 Rb Wu Z8 dS h0 kG hm sD hnp hnq hl e1 hlg e2 ?_ ?_ ?_ (Step.refl _ _ _ _))
  ·rw[AML,<-hl];exact V2.heap
  ·rw[hval];exact(show B4 _ _ _ .nil undef from rfl)
  ·rw[hval];intro k hk;cases hk
 |some e =>
  rw[hq]at pj;rw[zT pj.1 hlen Afw];simp only[AMR];obtain⟨ACr,AFy⟩:=e3 e hq;have hval:t.val=e.val:=by simp[Iv.val,hq]
  have PT:Nr P (tJ B9 t.o t.σ) t.o e:=R6 he (by rw[Abm];exact pj.2);refine .inl (AbN PT ACr (l:=l) (l':=l1) AFy ?_ (w:=w) (g:=g) ?_ hsc (by simp only[tJ,da];exact hlen) (λi x hx=>?_) λv w' g' H' hv QS st=>?_)
  ·cases hg:t.grow with
   |true=>exact .inl (hlg hg)
   |false=>exact .inr (e2 hg)
  ·show Bf w g (t.σ.Aj++l);rw[<-hl];exact V2.heap
  ·show B4 w g (t.σ.Aj++l).length x _/\∀k∈x.Ct,k<t.σ.Aj.length;rw[<-hl];by_cases hi:i∈t.o.looksAt B9
   ·simp only[tJ]at hx;rw[db (j:=0) (by simpa using hi)]at hx;exact Iw i hi x hx
   ·have:=l6 (j:=0) (by simpa using hi) hx;subst this;exact⟨QK,λk hk=>by cases hk⟩
  ·refine hK _ _ g' (V2.next he fh SQ R9 Rb Wu Z8 dS h0 kG hm sD hnp hnq hl e1 hlg e2 H' (by rw[hval];exact hv) (by rw[hval,lU hq];exact QS) ?_);rw[hl];exact st
def Bq(listed:Array Bool)(i:Nat):Bool:=listed.getD i false
theorem zp{listed:Array Bool}{i:Nat}(hi:i<listed.size)(j:Nat):Bq (listed.setIfInBounds i true) j=if j=i then true else Bq listed j:=by
 unfold Bq;by_cases h:j=i
 ·subst h;simp[hi]
 ·rw[AMp h,getD_set_ne false (Ne.symm h)]
theorem Uj{listed:Array Bool}(hs:listed.size=B9.size){i:Nat}:i∈Region.ready .any B9 listed↔i<B9.size/\Bq listed i=false/\∀d∈TU B9.toList i,Bq listed d=true:=by
 rw[mem_ready];constructor
 ·rintro⟨h1,o,ho,h2⟩
  have hi:i<B9.size:=(Array.getElem?_eq_some_iff.1 ho).1;refine⟨hi,?_,λd hd=>?_⟩
  ·unfold Bq;have qR:i<listed.size:=by omega
   simpa [AM0,qR]using h1
  ·unfold TU at hd;rw[AMk,ho]at hd;obtain⟨e,he,hd⟩:=List.mem_filterMap.1 hd;split at hd
   ·rename_i hb;injection hd with hd;subst hd;exact h2 e (by simpa using he) hb
   ·cases hd
 ·rintro⟨hi,h1,h2⟩
  have qR:i<listed.size:=by omega
  refine⟨?_,B9[i],AMY hi,λe he hb=>?_⟩
  ·unfold Bq at h1;simpa [AM0,qR]using h1
  ·refine h2 e.on ?_;unfold TU;rw[AMk,AMY hi];exact List.mem_filterMap.2 ⟨e,by simpa using he,by rw[AMo hb]⟩
def left(D:Nat->Bool)(Il:APH Iv):Nat:=(Il.filter λu=>!D u.i).length
theorem Abh(R9:Il=Cg++t::post)(Rb:D t.i=false)(sD:∀i,D' i=if i=t.i then true else D i)(hnp:∀u∈Cg,u.i≠t.i)(hnq:∀u∈post,u.i≠t.i):left D Il=left D' Il+1:=by
 have same:∀(l:APH Iv),(∀u∈l,u.i≠t.i)->l.filter (λu=>!D u.i)=l.filter λu=>!D' u.i:=λl h=>List.filter_congr λu hu=>by rw[sD,AMp (h u hu)]
 subst R9;unfold left;rw[AN7,AN7,List.filter_cons,List.filter_cons,same Cg hnp,same post hnq,Rb,show D' t.i=true by rw[sD];simp];simp;omega
end
theorem Abi{D:Nat->Bool}{Il:APH Iv}(h:left D Il=0):∀u∈Il,D u.i=true:=λu hu=>by
 have:=AMZ h;cases hd:D u.i with
 |true=>rfl
 |false =>
  have hm:u∈Il.filter λu=>!D u.i:=List.mem_filter.2 ⟨hu,by grind⟩;rw[this]at hm;cases hm
theorem sf{D:Nat->Bool}:∀{Il:APH Iv},left D Il≠0->∃Cg t post,Il=Cg++t::post/\D t.i=false/\∀u∈Cg,D u.i=true
 |[],h=>(h rfl).elim
 |u::Il,h=>by
  cases hd:D u.i with
  |false=>exact⟨[],u,Il,rfl,hd,λ_ hu=>by grind⟩
  |true =>
   have:left D Il≠0:=by
    unfold left at h⊢
    grind
   obtain⟨Cg,t,post,e,h1,h2⟩:=sf this
   grind
section
variable {P:Program} {en:Gx} {B9:Array Oper} {A:APH (Nat×APH Nat)} {m:Nat} {Q:Exit->Act->World->Prop} {a0:Act} {w0:World} {g0:G}
theorem tM{Il Cg post:APH Iv}{t:Iv}(h:(Il.map (·.i)).Nodup)(R9:Il=Cg++t::post):(∀u∈Cg,u.i≠t.i)/\∀u∈post,u.i≠t.i:=by
 grind
theorem Agt(he:EnvOk P en)(hA:lh B9.toList A){done NL:APH Nat}{Il:APH Iv}{σ σ1:St}(fh:Tr en B9.toList A done NL σ Il σ1)(SQ:∀u∈Il,u.kq=false)(R:APH Nat)
    (kB:∀i,i<B9.size->i∈done\/(∃u∈Il,u.i=i)\/i∈R) (Bm:∀u∈Il,u.i<B9.size) (RH:(Il.map (·.i)).Nodup)
    (XL:∀Cg t post,Il=Cg++t::post->∀u∈post,t.i∈Eb A u.i\/t.o.apart B9 u.o=true) (dV:∀Cg t post,Il=Cg++t::post->∀d∈TU B9.toList t.i,d∈done\/∃u∈Cg,u.i=d)
    (hR:∀i∈R,∀D:Nat->Bool,gl A D->(∀x∈Eb A i,D x=true)->(∀r∈R,D r=false)->∀u∈Il,D u.i=true) (hRd:∀r∈R,r∉done/\∀u∈Il,u.i≠r)
    (h0:∀(i:Nat) (x:AV),σ.AO[i]?=some x->∀k∈x.Ct,k<σ.Aj.length) (kG:Wn σ.Aj) (hm:m<=σ.Aj.length)
    (cont:∀(listed:Array Bool) (a:Act) (w:World) (g:G),listed.size=B9.size->(∀i∈done,Bq listed i=true)->(∀u∈Il,Bq listed u.i=true)->(∀r∈R,Bq listed r=false)->gl A (Bq listed)->KO w g σ1 a->BB m w0 g0 w g->a.defers=a0.defers ->
     wpAny P .any B9 Q R.length listed a w) :
    ∀(n:Nat) (listed:Array Bool) (a:Act) (w:World) (g:G),listed.size=B9.size->left (Bq listed) Il=n->Inv P A B9.size done Il σ m a0 w0 g0 (Bq listed) a w g->wpAny P .any B9 Q (n+R.length) listed a w
 |0,listed,a,w,g,hs,hn,V2=>by
  have wK:=Abi hn;obtain⟨h1,h2,_⟩:=fh.lq he SQ;have hR0:∀r∈R,Bq listed r=false:=λr hr=>by
   cases hd:Bq listed r with
   |false=>rfl
   |true =>
    rcases V2.only r hd with h |⟨u,hu,e⟩
    ·exact((hRd r hr).1 h).elim
    ·exact((hRd r hr).2 u hu e).elim
  have hB:Hy (Bq listed) Il σ.Aj=σ1.Aj:=by rw[ZA λu hu _=>wK u hu,<-h2]
  rw[AMC];refine cont listed a w g hs V2.y7 wK hR0 V2.gZ ⟨by rw[<-hB];exact V2.heap,by rw[h1,aG];exact V2.len,λi x hx=>?_⟩ V2.step V2.dfr;rw[<-hB];refine V2.AO i x ?_;rw[ZB (λu hu hd=>by rw[wK u hu]at hd;cases hd) rfl,<-h1];exact hx
 |n+1,listed,a,w,g,hs,hn,V2=>by
  obtain⟨Cg,t,post,R9,Rb,Afs⟩:=sf (D:=Bq listed) (Il:=Il) (by rw[hn];simp);rw[show n+1+R.length=(n+R.length)+1 by omega];have ACO:t.i∈Region.ready .any B9 listed:=(Uj hs).2 ⟨Bm t (by rw[R9];simp),Rb,λd hd=>by
   rcases dV Cg t post R9 d hd with h |⟨u,hu,e⟩
   ·exact V2.y7 d h
   ·rw[<-e];exact Afs u hu⟩
  refine⟨λh=>by(rw[h]at ACO;cases ACO),λi hi=>?_⟩;obtain⟨hil,zd,Z7⟩:=(Uj hs).1 hi;have Wu:=mY hA V2.gZ Z7;rcases kB i hil with h |⟨u,hu,rfl⟩|h
  ·rw[V2.y7 i h]at zd;cases zd
  ·obtain⟨p1,p2,XO⟩:=List.append_of_mem hu;obtain⟨hnp,hnq⟩:=tM RH XO;have sD:=zp (listed:=listed) (i:=u.i) (by omega);refine V2.op he fh SQ XO zd Wu (λv hv=>?_) (XL p1 u p2 XO) h0 kG hm sD hnp hnq λa' w' g' AGH=>?_
   ·obtain⟨q1,q2,hq⟩:=List.append_of_mem hv;exact XL q1 v (q2++u::p2) (by rw[XO,hq];simp) u (by simp)
   ·refine Agt he hA fh SQ R kB Bm RH XL dV hR hRd h0 kG hm cont n _ a' w' g' (by simpa using hs) ?_ AGH;have:=Abh XO zd sD hnp hnq;omega
  ·have:=hR i h _ V2.gZ Wu λr hr=>by
     cases hd:Bq listed r with
     |false=>rfl
     |true =>
      rcases V2.only r hd with h |⟨u,hu,e⟩
      ·exact((hRd r hr).1 h).elim
      ·exact((hRd r hr).2 u hu e).elim
   rw[this t (by rw[R9];simp)]at Rb;cases Rb
theorem uJ:∀(ts:APH Iv),∃Il fu,ts=Il++fu/\(∀u∈Il,u.kq=false)/\(fu=[]\/∃b r,fu=b::r/\b.kq=true)
 |[]=>⟨[],[],rfl,λ_ h=>by grind,.inl rfl⟩
 |t::ts=>by
  cases hb:t.kq with
  |true=>exact⟨[],t::ts,rfl,λ_ h=>by grind,.inr ⟨t,ts,rfl,hb⟩⟩
  |false =>
   obtain⟨Il,fu,e,h1,h2⟩:=uJ ts
   grind
theorem Adc(he:EnvOk P en)(hA:lh B9.toList A){σ':St}(VC:∀a' w' g',KO w' g' σ' a'->BB m w0 g0 w' g'->a'.defers=a0.defers->Q .normal a' w') :
    ∀(k:Nat) (ts:APH Iv) (done NL:APH Nat) (σ:St),ts.length=k->Tr en B9.toList A done NL σ ts σ'->(∀i,i<B9.size->i∈done\/∃u∈ts,u.i=i)->(∀u∈ts,u.i<B9.size)->(∀u∈ts,u.i∉done)->(ts.map (·.i)).Nodup ->
     (∀Cg t post,ts=Cg++t::post->∀u∈post,t.i∈Eb A u.i\/t.o.apart B9 u.o=true)->(∀Cg t post,ts=Cg++t::post->∀d∈TU B9.toList t.i,d∈done\/∃u∈Cg,u.i=d)->m<=σ.Aj.length ->
     ∀(listed:Array Bool) (a:Act) (w:World) (g:G),listed.size=B9.size->(∀i∈done,Bq listed i=true)->(∀u∈ts,Bq listed u.i=false)->gl A (Bq listed)->KO w g σ a->BB m w0 g0 w g->a.defers=a0.defers->wpAny P .any B9 Q k listed a w:=by
 intro k;induction k using Nat.strongRecOn with
 |_ k ih =>
  intro ts done NL σ hk fh kB Bm AB7 RH XL dV hm listed a w g hs dP Rb HQ BH ACI AFH;obtain⟨Il,fu,rfl,SQ,Aft⟩:=uJ ts;obtain⟨Aas,σ1,ht1,ht2⟩:=fh.split;obtain⟨_,_,lx,AFJ⟩:=ht1.lq he SQ;have AF3:(Il.map (·.i)).Nodup:=by
   rw[AMQ,AN9]at RH;exact RH.1
  have ACl:left (Bq listed) Il=Il.length:=by
   unfold left;rw[List.filter_eq_self.2 λu hu=>by rw[Rb u (by simp[hu])];rfl]
  have ZJ:∀u∈fu,∀v∈Il,v.i≠u.i:=λu hu v hv=>by
   rw[AMQ,AN9]at RH;exact RH.2.2 v.i (List.mem_map.2 ⟨v,hv,rfl⟩) u.i (List.mem_map.2 ⟨u,hu,rfl⟩)
  have hBn:Hy (Bq listed) Il σ.Aj=σ.Aj:=Yp λu hu hd=>by rw[Rb u (by simp[hu])]at hd;cases hd
  have hSn:∀i,(LS (Bq listed) Il σ.AO)[i]?=σ.AO[i]?:=λi=>Yq λu hu hd=>by rw[Rb u (by simp[hu])]at hd;cases hd
  have ACk:k=Il.length+(fu.map (·.i)).length:=by rw[AMi,<-AMa];exact hk.symm
  rw[ACk];refine Agt (a0:=a0) (w0:=w0) (g0:=g0) he hA ht1 SQ (fu.map (·.i)) (λi hi=>?_) (λu hu=>Bm u (by simp[hu])) AF3 (λCg t post XO u hu=>XL Cg t (post++fu) (by rw[XO];simp) u (by simp[hu])) (λCg t post XO=>dV Cg t (post++fu) (by rw[XO];simp))
   (λi hi D hD Wu hRf u hu=>?_) (λr hr=>?_) (λi x hx=>(BH.AO i x hx).Tk) BH.heap.scp hm (λzo a' w' g' fL hd' AjP hR' Ae6 bg AfA Alo=>?_) Il.length listed a w g hs ACl ?_
  ·rcases kB i hi with h |⟨u,hu,e⟩
   ·exact .inl h
   ·rcases List.mem_append.1 hu with hu |hu
    ·exact .inr (.inl ⟨u,hu,e⟩)
    ·exact .inr (.inr (List.mem_map.2 ⟨u,hu,e⟩))
  ·rcases Aft with rfl |⟨b,r,rfl,hb⟩
   ·cases hi
   ·obtain⟨p1,p2⟩:=fh.Zk;rw[AMT]at hi;rcases List.mem_cons.1 hi with rfl |hi
    ·exact Wu _ ((p2 hb).2 u hu)
    ·obtain⟨v,hv,rfl⟩:=List.mem_map.1 hi;have h1:=Wu _ (p1 (by simp[hb]) v hv);rw[hRf b.i (by simp)]at h1;cases h1
  ·obtain⟨v,hv,rfl⟩:=List.mem_map.1 hr;exact⟨AB7 v (by simp[hv]),λu hu=>ZJ v hv u hu⟩
  ·rcases Aft with rfl |⟨b,r,rfl,hb⟩
   ·cases ht2;refine⟨List.eq_nil_iff_forall_not_mem.2 λi hi=>?_,VC a' w' g' bg AfA Alo⟩;obtain⟨hil,zd,_⟩:=(Uj fL).1 hi;rcases kB i hil with h |⟨u,hu,e⟩
    ·rw[hd' i h]at zd;cases zd
    ·rw[<-e,AjP u (by simpa using hu)]at zd;cases zd
   ·rw[AMT,ANe,AMi];have hbr:b.i∈Region.ready .any B9 zo:=(Uj fL).2 ⟨Bm b (by simp),hR' b.i (by simp),λd hd=>by
     rcases dV Il b r rfl d hd with h |⟨u,hu,e⟩
     ·exact hd' d h
     ·rw[<-e];exact AjP u hu⟩
    refine⟨λh=>by(rw[h]at hbr;cases hbr),λi hi=>?_⟩;obtain⟨hil,zd,Z7⟩:=(Uj fL).1 hi;have Wu:=mY hA Ae6 Z7;obtain⟨p1,p2⟩:=fh.Zk;have hib:i=b.i:=by
     rcases kB i hil with h |⟨u,hu,rfl⟩
     ·rw[hd' i h]at zd;cases zd
     ·rcases List.mem_append.1 hu with hu |hu
      ·rw[AjP u hu]at zd;cases zd
      ·rcases List.mem_cons.1 hu with rfl |hu
       ·rfl
       ·have:=Wu _ (p1 (by simp[hb]) u hu);rw[hR' b.i (by simp)]at this;cases this
    subst hib;cases ht2 with
    |cons hσ ok ha hbd next =>
     subst hσ;have ho:B9[b.i]?=some b.o:=by rw[<-AMk];exact ok.1
     have pj:=ok.2;cases hq:b.e with
     |none=>simp[Iv.kq,hq]at hb
     |some e =>
      rw[hq]at pj;have PT:=R6 he pj.2;unfold wpOp;simp only[ho];rw[AMo (Jm bg pj.1)];have Tj:m<=b.σ.Aj.length:=by rw[AFJ,AMa];omega
      refine .inl (PT.wp a' w' g' bg _ Q λv w2 g2 H2 hv2 O7=>?_);have W5:b.post=b.σ.after b.o.dst e:=by simp[Iv.post,hq]
      have Hu:=zp (listed:=zo) (i:=b.i) (by omega);have ACE:∀u∈r,u.i≠b.i:=(tM RH rfl).2;refine ih r.length (by rw[<-hk];simp;omega) r (b.i::((Il.map (·.i)).reverse++done)) _ b.post rfl next (λi hi=>?_) (λu hu=>Bm u (by simp[hu])) (λu hu=>?_) ?_ (λCg t post XO u hu=>XL (Il++b::Cg) t post (by rw[XO];simp) u hu) (λCg t post XO d hd=>?_) (by rw[W5];exact AMA Tj PT.grow)
       _ _ w2 g2 (by simpa using fL) (λi hi=>?_) (λu hu=>?_) (λi hi x hx=>?_) (by rw[W5];exact bg.after PT.grow H2 hv2 O7) (AfA.trans (O7.xQ Tj)) (by rw[put_defers];exact Alo)
      ·rcases kB i hi with h |⟨u,hu,e⟩
       ·exact .inl (by simp[h])
       ·rcases List.mem_append.1 hu with hu |hu
        ·exact .inl (by simp;exact .inr (.inl ⟨u,hu,e⟩))
        ·rcases List.mem_cons.1 hu with rfl |hu
         ·exact .inl (by simp[e])
         ·exact .inr ⟨u,hu,e⟩
      ·have h1:=AB7 u (by simp[hu]);have h2:=ACE u hu;have h3:∀v∈Il,v.i≠u.i:=λv hv=>ZJ u (by simp[hu]) v hv;simp only[ANH,ANr,List.mem_reverse,List.mem_map,not_or,not_exists,not_and];exact⟨h2,λv hv=>h3 v hv,h1⟩
      ·rw[AMQ,AN9,AMT,List.nodup_cons]at RH;exact RH.2.1.2
      ·rcases dV (Il++b::Cg) t post (by rw[XO];simp) d hd with h |⟨u,hu,e⟩
       ·exact .inl (by simp[h])
       ·rcases List.mem_append.1 hu with hu |hu
        ·exact .inl (by simp;exact .inr (.inl ⟨u,hu,e⟩))
        ·rcases List.mem_cons.1 hu with rfl |hu
         ·exact .inl (by simp[e])
         ·exact .inr ⟨u,hu,e⟩
      ·rw[Hu];split
       ·rfl
       ·rename_i Nk;rcases List.mem_cons.1 hi with h |h
        ·exact(Nk h).elim
        ·rcases List.mem_append.1 h with h |h
         ·obtain⟨u,hu,rfl⟩:=List.mem_map.1 (List.mem_reverse.1 h);exact AjP u hu
         ·exact hd' i h
      ·rw[Hu,AMp (ACE u hu)];exact hR' u.i (by simp;exact .inr ⟨u,hu,rfl⟩)
      ·rw[Hu]at hi⊢;split
       ·rfl
       ·split at hi
        ·rename_i e;subst e;exact Wu x hx
        ·exact Ae6 i hi x hx
  ·refine⟨dP,λi hi=>.inl ?_,HQ,AFH,BH.len,ACI,by rw[hBn];exact BH.heap,λi x hx=>?_,λu hu hd=>by(rw[Rb u (by simp[hu])]at hd;cases hd),λu hu hd=>by(rw[Rb u (by simp[hu])]at hd;cases hd)⟩
   ·have hil:i<B9.size:=by
      unfold Bq at hi;rcases AMh i listed.size with h' |h'
      ·omega
      ·simp[AM0,Array.getElem?_eq_none h']at hi
    rcases kB i hil with h |⟨u,hu,rfl⟩
    ·exact h
    ·rw[Rb u hu]at hi;cases hi
   ·rw[hSn]at hx;rw[hBn];exact BH.AO i x hx
end
theorem dm:∀{l:APH Nat},nodup l=true->l.Nodup
 |[],_=>List.nodup_nil
 |k::r,h=>by
  simp only[nodup,AMd]at h;rw[List.nodup_cons];exact⟨by grind,dm h.2⟩
theorem tT{all:APH Oper}{A:APH (Nat×APH Nat)}:∀{L Cg post:APH Nat} {i:Nat},bD all A L=true->L=Cg++i::post->∀j∈post,i∈Eb A j\/∃x y,all[i]?=some x/\all[j]?=some y/\x.apart all.toArray y=true
 |[],Cg,post,i,_,h=>by simp at h
 |k::L,[],post,i,hp,h=>by
  injection h with h1 h2;subst h1;subst h2;intro j hj;simp only[bD,AMd]at hp
  grind
 |k::L,p::Cg,post,i,hp,h=>by
  injection h with h1 h2;simp only[bD,AMd]at hp;exact tT hp.2 h2
theorem zM{all:APH Oper}:∀{L Cg post done:APH Nat} {i:Nat},jQ all L done=true->L=Cg++i::post->∀d∈TU all i,d∈done\/d∈Cg
 |[],Cg,post,done,i,_,h=>by simp at h
 |k::L,[],post,done,i,hp,h=>by
  injection h with h1 h2;subst h1;intro d hd;simp only[jQ,AMd]at hp
  grind
 |k::L,p::Cg,post,done,i,hp,h=>by
  injection h with h1 h2;subst h1;simp only[jQ,AMd]at hp;intro d hd;rcases zM hp.2 h2 d hd with h |h
  ·grind
  ·grind
theorem oL{P:Program}{en:Gx}{m:Nat}(he:EnvOk P en)(AF1:P.follows .mixedOrders=true){id:Nat}{B9:Array Oper}{L:APH Nat}(dR:Adb B9.toList L=true){σ σ':St}(hx:TW en B9.toList (Xx B9.toList L []) L [] [] σ some=some σ')(hm:m<=σ.Aj.length) :
    m<=σ'.Aj.length/\∀(a:Act) (w:World) (g:G) (Q:Exit->Act->World->Prop),KO w g σ a->(∀a' w' g',KO w' g' σ' a'->BB m w g w' g'->a'.defers=a.defers->Q .normal a' w')->(Code.region id B9 true).wp P Q a w:=by
 simp only[Adb,AMd]at dR;obtain⟨⟨⟨⟨RH,kB⟩,Bm⟩,XL⟩,dV⟩:=dR;obtain⟨ts,Zc,fh⟩:=aQ he.Zj hx;have hA:lh B9.toList (Xx B9.toList L []):=lr _ L [] (λi x h=>by cases h) RH λi _ p hp=>by grind
 have grow:∀{ts:APH Iv} {done NL:APH Nat} {σ σ':St},Tr en B9.toList (Xx B9.toList L []) done NL σ ts σ'->σ.Aj.length<=σ'.Aj.length:=by
  intro ts;induction ts with
  |nil=>intro done NL σ σ' h;cases h;exact AMc _
  |cons t ts ih =>
   intro done NL σ σ' h;cases h with
   |cons hσ ok ha hb next =>
    subst hσ;refine AMA ?_ (ih next)
    have ok2:=ok.2;unfold Iv.post;cases hq:t.e with
    |none=>exact AMc _
    |some e =>
     rw[hq]at ok2;exact(R6 he ok2.2).grow
 have ACZ:∀Cg t post,ts=Cg++t::post->L=Cg.map (·.i)++t.i::post.map (·.i):=λCg t post h=>by grind
 refine⟨AMA hm (grow fh),λa w g Q hs hq=>wp_region_any AF1 ?_⟩;have Q1:KO {w with drawn:=w.drawn+1} g σ a:=⟨hs.heap.drew,hs.len,λi x hx=>(hs.AO i x hx).QJ (Step.drew [] _ w g) (AMc _)⟩;have hlen:ts.length=B9.size:=by
  have h1:ts.length=L.length:=by grind
  have hn:=dm RH;have ZL:∀i∈L,i∈List.range B9.size:=λi hi=>by
   grind
  have AGn:∀i∈List.range B9.size,i∈L:=λi hi=>by
   grind
  have h2:=hn.length_le_of_subset ZL;have h3:=List.nodup_range.length_le_of_subset AGn
  grind
 have po:∀i,Bq (Array.replicate B9.size false) i=false:=λi=>by
  unfold Bq;rw[AM0,Array.getElem?_replicate];split<;>rfl
 refine Adc (m:=m) (a0:=a) (w0:=w) (g0:=g) he hA hq B9.size ts [] [] σ hlen fh (λi hi=>.inr ?_) (λu hu=>?_) (λu _ h=>by grind) (by rw[Zc];exact dm RH) (λCg t post XO u hu=>?_) (λCg t post XO d hd=>?_) hm
  _ a _ g (by simp) (λi hi=>by grind) (λu _=>po _) (λi hi=>by grind) Q1 (Step.drew _ _ w g) rfl
 ·have:=List.all_eq_true.1 kB i (by grind)
  grind
 ·have hu':u.i∈L:=by grind
  grind
 ·rcases tT XL (ACZ Cg t post XO) u.i (List.mem_map.2 ⟨u,hu,rfl⟩)with h |⟨x,y,hx,hy,h⟩
  ·grind
  ·have h1:=(fh.Agc t (by grind)).1;have h2:=(fh.Agc u (by rw[XO];simp[hu])).1;rw[hx]at h1;injection h1 with h1;rw[hy]at h2;injection h2 with h2;subst h1;subst h2;exact .inr (by simpa using h)
 ·rcases zM dV (ACZ Cg t post XO) d hd with h |h
  ·cases h
  ·obtain⟨u,hu,e⟩:=List.mem_map.1 h;exact .inr ⟨u,hu,e⟩
section
variable {P:Program} {en:Gx} {m:Nat}
def vx(P:Program)(en:Gx)(m:Nat)(c:Code):Prop:=∀(σ:St) (e:Ex) (σ':St),ev en m c (Ex×St) σ Q3=some (e,σ')->m<=σ.Aj.length->m<=σ'.Aj.length /\
 ∀(a:Act) (w:World) (g:G) (Q:Exit->Act->World->Prop),KO w g σ a->(∀a' w' g',KO w' g' σ' a'->BB m w g w' g'->a'.defers=a.defers->Q (oM e) a' w')->c.wp P Q a w
theorem aS(he:YW en){c:Code}{R:Type}{σ:St}{K:Ex->St->APJ R}{r:R}(h:ev en m c R σ K=some r):∃e s,ev en m c (Ex×St) σ Q3=some (e,s)/\K e s=some r:=by
 rw[Wr he]at h;cases hx:ev en m c _ σ _ with
 |none=>grind
 |some p=>grind
theorem Aj9(he:IR P en){body:Code}(ih:vx P en m body):vx P en m (.loop body):=by
 intro σ e σ' h hm;simp only[ev]at h;split at h
 ·rename_i hh ho _ _;split at h
  ·grind
  ·rename_i σ0 hσ0;have h:(fix (np en m hh ho body) σ0).bind (λp=>Q3 p.1 p.2)=some _:=h;cases hf:fix (np en m hh ho body) σ0 with
   |none=>grind
   |some p =>
    rw[hf]at h;have h:p=(e,σ'):=by grind
    subst h;obtain⟨n,hn⟩:=(VT.1 hf).n;have VC:∀n s,ToN (np en m hh ho body) n s (e,σ')->m<=s.Aj.length->m<=σ'.Aj.length:=by
     intro n s hs;generalize ht:(e,σ')=t at hs;induction hs with
     |done hd =>
      subst ht;intro hms;obtain⟨e1,s',hb,hc⟩:=WK he.Zj hd;rcases hc with ⟨_,YJ,_,hr⟩|⟨_,YJ,hh2,hr⟩
      ·grind
      ·injection hr with hr;injection hr with h1 h2;subst h2;exact VX hh2
     |dk hd _ ihn =>
      intro hms;obtain⟨e1,s',hb,hc⟩:=WK he.Zj hd;rcases hc with ⟨_,YJ,Afn,hr⟩|⟨_,YJ,_,hr⟩
      ·injection hr with hr;subst hr;exact ihn ht (VX Afn)
      ·grind
    have wQ :=VX hσ0;refine⟨VC n σ0 hn wQ,λa w g Q hs hq=>?_⟩;obtain⟨g0,vo,s9,_⟩:=Wv hσ0 hs hm;refine Ab1 (λn a' w'=>∃s g',ToN _ n s _/\KO w' g' s a'/\m<=s.Aj.length/\BB m w g w' g'/\a'.defers=a.defers) (λn a1 w1 hR=>?_)  ⟨σ0,g0,hn,vo,wQ,s9,rfl⟩;obtain⟨s,g1,ta,Q1,hms,Ww,kD⟩:=hR;cases ta with
    |done hd =>
     obtain⟨e1,s',hb,hc⟩:=WK he.Zj hd;rcases hc with ⟨_,YJ,_,hr⟩|⟨Nk,YJ,hh2,hr⟩
     ·grind
     ·injection hr with hr;injection hr with h1 h2;subst h1;subst h2;obtain⟨Asm,pw⟩:=ih _ _ _ hb hms;refine pw a1 w1 g1 _ Q1 λa2 w2 g2 Y1 wU hd2=>?_;obtain⟨g3,s7,Afz,_⟩:=Wv hh2 Y1 Asm;have hQ:=hq a2 w2 g3 s7 ((Ww.trans wU).trans Afz) (hd2.trans kD);cases e with
      |normal=>grind
      |exit k=>exact hQ
      |ret=>exact hQ
    |dk hd AGp =>
     rename_i k;obtain⟨e1,s',hb,hc⟩:=WK he.Zj hd;rcases hc with ⟨he1,YJ,Afn,hr⟩|⟨_,YJ,_,hr⟩
     ·injection hr with hr;subst hr;subst he1;obtain⟨Asm,pw⟩:=ih _ _ _ hb hms;refine pw a1 w1 g1 _ Q1 λa2 w2 g2 Y1 wU hd2=>?_;obtain⟨g3,s7,Afz,hm3⟩:=Wv Afn Y1 Asm;exact⟨k,AMM _,_,g3,AGp,s7,hm3,(Ww.trans wU).trans Afz,hd2.trans kD⟩
     ·grind
 ·grind
theorem ZG:∀{l:APH (APJ Unit)},su l=some ()->∀x∈l,x=some ()
 |[],_,_,h=>by grind
 |[x],h,y,hy=>by rw[AMx]at hy;subst hy;exact h
 |x::y::r,h,z,hz=>by
  simp only[su]at h;cases hf:x with
  |none=>grind
  |some u =>
   rw[hf]at h;rcases List.mem_cons.1 hz with rfl |hz
   ·grind
   ·exact ZG h z hz
theorem AeJ(he:IR P en){σ σ0:St}{l:APJ (APH Nat)}(h:Ajv m σ l=some σ0)(hm:m<=σ.Aj.length):m<=σ0.Aj.length/\∀{a:Act} {w:World} {g:G},KO w g σ a->∃g0,KO w g0 σ0 a/\BB m w g w g0:=by
 cases l with
 |none=>simp only[Ajv,AL8]at h;subst h;exact⟨hm,λhs=>⟨_,hs,BB.refl _ _ _⟩⟩
 |some l =>
  have h:σ.head {Bb:=l} m=some σ0:=h;exact⟨VX h,λhs=>by obtain⟨g1,h1,h2,_⟩:=Wv h hs hm;exact⟨g1,h1,h2⟩⟩
theorem AeO(he:YW en){σ:St}{o:Oper}{e:HO}(ha:gE en σ o=none)(hs:ug en σ o=none)(ht:tlE en σ o=none)(hc:∀c,o.op≠.call c)(h:exec en σ o some=some e):∃e0,QY en σ o some=some e0:=by
 have h:UQ en σ o some=some e:=by
  unfold exec at h
  grind
 unfold UQ at h;rw[ha,hs,ht]at h;simp only at h;split at h
 ·cases hd:ix en o with
  |false=>grind
  |true =>
   rw[hd]at h;rw[Mt en he]at h;cases hx:QY en σ o some with
   |none=>grind
   |some e0=>grind
 ·rw[Mt en he]at h;cases hx:QY en σ o some with
  |none=>grind
  |some e0=>grind
theorem cE{α:Type}{k:IntKind}{x y:Int}{c:BoundsCode}{w w1:World}{r:α}(h:(boundsPanic k x y c:Sem α).run P w=.ok r w1):False:=by
 unfold boundsPanic at h;split at h
 ·rw[Sem.run_bind]at h;generalize (Sem.run P _ w)=q at h;cases q with
  |halt e w=>cases h
  |ok b w2=>simp[runtimePanic]at h
 ·simp[runtimePanic]at h
theorem bW{t:TypeId}{w w1:World}{n:Nat}(h:(sizeOf t).run P w=.ok n w1):∀w',(sizeOf t).run P w'=.ok n w':=by
 intro w';unfold sizeOf typeInfo at h⊢;simp only[Sem.run_bind]at h⊢;have hp:(program).run P w=.ok P w:=rfl;have hp':(program).run P w'=.ok P w':=rfl;simp only[hp,hp',Result.andThen_ok]at h⊢;cases hq:P.info? t with
 |none=>rw[hq]at h;simp at h
 |some i=>rw[hq]at h;simp at h⊢;exact h.1
theorem kM{t:TypeId}{u v c:Value}{w w1:World}(h:(Instr.indexAt t u v).run P w=.ok c w1):∀w',(Instr.indexAt t u v).run P w'=.ok c w':=by
 intro w';unfold Instr.indexAt at h⊢;cases v with
 |int k i =>
  simp only[asIntOf,pure_bind]at h⊢;cases hu:P.underlying t with
  |none=>simp[underlying,hu]at h
  |some d =>
   cases d with
   |slice elem =>
    cases u with
    |slice base len cap =>
     simp[underlying,hu]at h⊢;cases base with
     |none=>exact(cE (by simpa using h)).elim
     |some a =>
      simp only at h⊢;split at h
      ·rename_i hc;rw[AMo hc];simp only[Sem.run_map]at h⊢;cases hs:(sizeOf elem).run P w with
       |halt e w=>rw[hs]at h;cases h
       |ok n w2 =>
        rw[hs]at h;rw[bW hs w'];simp at h⊢;exact h.1
      ·exact(cE (by simpa using h)).elim
    |_=>simp[underlying,hu]at h
   |array len elem =>
    cases u with
    |pointer p =>
     cases p with
     |none=>simp[underlying,hu,Instr.sureAddr]at h
     |some a =>
      simp[underlying,hu,Instr.sureAddr]at h⊢;split at h
      ·rename_i hc;rw[AMo hc];cases hs:(sizeOf elem).run P w with
       |halt e w=>rw[hs]at h;cases h
       |ok n w2 =>
        rw[hs]at h;rw[bW hs w'];simp at h⊢;exact h.1
      ·split at h
       ·cases h
       ·exact(cE h).elim
    |_=>simp[underlying,hu,Instr.sureAddr]at h
   |_=>simp[underlying,hu]at h
 |pointer p=>cases p<;>simp[asIntOf]at h
 |_=>simp[asIntOf]at h
def qO(P:Program){α:Type}(s:Sem α):Prop:=∀w w1 c,s.run P w=.ok c w1->∀w',s.run P w'=.ok c w'
theorem qO.pure{α:Type}(x:α):qO P (Pure.pure x:Sem α):=λw w1 c h w'=>by simp at h⊢;exact h.1
theorem qO.bind{α β:Type}{s:Sem α}{f:α->Sem β}(h1:qO P s)(h2:∀x,qO P (f x)):qO P (s >>= f):=λw w1 c h w'=>by
 rw[Sem.run_bind]at h⊢;cases hs:s.run P w with
 |halt e w2=>rw[hs]at h;cases h
 |ok x w2 =>
  rw[hs]at h;rw[h1 _ _ _ hs w'];exact h2 x _ _ _ h w'
theorem qO.info(t:TypeId):qO P (typeInfo t):=λw w1 c h w'=>by
 unfold typeInfo at h⊢;simp only[Sem.run_bind]at h⊢;have hp:(program).run P w=.ok P w:=rfl;have hp':(program).run P w'=.ok P w':=rfl;simp only[hp,hp',Result.andThen_ok]at h⊢;cases hq:P.info? t with
 |none=>rw[hq]at h;simp at h
 |some i=>rw[hq]at h;simp at h⊢;exact h.1
theorem qO.mapM{α β:Type}{f:α->Sem β}(h:∀x,qO P (f x)):∀l:APH α,qO P (l.mapM f)
 |[]=>by exact .pure _
 |x::l=>by rw[List.mapM_cons];exact .bind (h x) λy=>.bind (qO.mapM h l) λys=>.pure _
theorem qO.map{α β:Type}{s:Sem α}(f:α->β)(h:qO P s):qO P (f <$> s):=by
 exact .bind h λx=>.pure _
theorem rD(t:TypeId)(G3:Array (Nat×Value)):qO P (Instr.build t G3):=by
 have Mv:∀t,qO P (sizeOf t):=λt=>by exact .bind (.info t) λ_=>.pure _
 have Rb:qO P (underlying t):=by
  refine .bind (λw w1 c h w'=>?_) λp=>?_
  ·have hp:(program).run P w=.ok P w:=rfl;have hp':(program).run P w'=.ok P w':=rfl
   grind
  ·split
   ·exact .pure _
   ·exact λw w1 c h=>by simp at h
 refine .bind (.bind (.info t) λi=>?_) λz=>?_
 ·split
  ·exact .pure _
  ·exact λw w1 c h=>by simp at h
 ·refine .bind Rb λd=>?_;split
  ·refine .bind ?_ λps=>?_
   ·rw[Array.mapM_eq_mapM_toList];exact .map _ (.mapM (λf=>.bind (Mv _) λ_=>.pure _) _)
   ·split
    ·exact .pure _
    ·exact λw w1 c h=>by simp at h
  ·refine .bind (Mv _) λn=>?_;split
   ·exact .pure _
   ·exact λw w1 c h=>by simp at h
  ·exact λw w1 c h=>by simp at h
theorem mU(he:EnvOk P en){σ:St}{o:Oper}{e:HO}(hp:zB o=true)(hx:exec en σ o some=some e){w w1:World}{g:G}{a:Act}(hs:KO w g σ a){n:Next}(hr:(execOp a.eval o).run P w=.ok n w1) :
    ∃c,∀w',(execOp a.eval o).run P w'=.ok (.value c) w':=by
 unfold zB at hp;split at hp
 ·rename_i x ho;exact⟨a.eval x,λw'=>by simp[execOp,ho]⟩
 ·rename_i x ho;exact⟨a.eval x,λw'=>by simp[execOp,ho]⟩
 ·rename_i x i ho;simp only[execOp,ho,Instr.extract]at hr⊢;split at hr
  ·split at hr
   ·rename_i v hv;exact⟨v,λw'=>by simp⟩
   ·cases hr
  ·cases hr
 ·rename_i t x f ho;have ha:gE en σ o=none:=by unfold gE;rw[ho]
  obtain⟨e0,hx⟩:=AeO he.Zj ha (by unfold ug Abr;rw[ho]) (by unfold tlE;rw[ho]) (λc e=>by grind) hx;unfold QY at hx;rw[ho]at hx;simp only at hx;split at hx
  ·rename_i ti ht;have W6:=AQ hs x;unfold ky at hx;split at hx
   ·rename_i k i p q hq;rw[hq]at W6;split at hx
    ·rename_i fo hfo;obtain⟨_,_,_,b,_,e1⟩:=K1 W6;exact⟨.pointer (some ⟨b,i.toNat*(g.AZ k).lQ+q+fo,none⟩),λw'=>by simp[execOp,ho,e1,(UR   (he.t ht) hfo b _).1]⟩
    ·grind
   ·rename_i ks t' y hq;rw[hq]at W6;split at hx
    ·rename_i hc;obtain⟨_,b,off,ds,e1,_⟩:=Yk W6;cases hfo:ti.V8[f]? with
     |none =>
      rw[hfo]at hc;obtain⟨rfl,hc⟩:=hc;split at hx
      ·rename_i Tv u z hz
       exfalso
       have:∀(f:Nat) (t:Ty) (x:t.V) (v:AV),Xl ks t x f=some v->Ug t f≠none:=by
        intro f;induction f with
        |zero=>intro t x v h;cases t<;>simp[Xl,Ug]at h⊢
        |succ f ih =>
         intro t x v h;cases t with
         |AE a b =>
          have:=ih b x.2 v h;simp only[Ug]
          grind
         |_=>simp[Xl]at h
       exact this f _ y _ hz hc
      ·grind
     |some fo=>exact⟨.pointer (some ⟨b,off+fo,none⟩),λw'=>by simp[execOp,ho,e1,(UR   (he.t ht) hfo b _).1]⟩
    ·grind
   ·grind
  ·grind
 ·rename_i t x i ho;simp only[execOp,ho]at hr⊢;rw[Sem.run_bind]at hr;cases hq:(Instr.indexAt t _ _).run P w with
  |halt e w=>rw[hq]at hr;cases hr
  |ok c w2=>exact⟨c,λw'=>by rw[Sem.run_bind,kM hq w'];rfl⟩
 ·rename_i t G3 ho;simp only[execOp,ho]at hr⊢;rw[Sem.run_bind]at hr;cases hq:(Instr.build t _).run P w with
  |halt e w=>rw[hq]at hr;cases hr
  |ok c w2=>exact⟨c,λw'=>by rw[Sem.run_bind,rD _ _ _ _ _ hq w'];rfl⟩
 ·grind
theorem al(he:IR P en){h:SH}{B9:Array Oper}{σ':St}{Q:Exit->Act->World->Prop}{a0:Act}{w0:World}{g0:G}
    (VC:∀a' w' g',KO w' g' σ' a'->BB m w0 g0 w' g'->a'.defers=a0.defers->Q .normal a' w') (cY:Region.noSelect B9=true) (hQ:∀c a w,¬Q (.panic c) a w) :
    ∀(k:Nat) (listed:Array Bool) (σ:St),Aat en h m B9 σ' k listed σ=some ()->m<=σ.Aj.length->∀(a:Act) (w:World) (g:G),KO w g σ a->BB m w0 g0 w g->a.defers=a0.defers->wpAny P .any B9 Q k listed a w
 |0,listed,σ,hw,hm,a,w,g,hs,BH,hd=>by
  simp only[Aat]at hw;split at hw
  ·rename_i hr;split at hw
   ·rename_i s hh;unfold kx at hw;split at hw
    ·rename_i e;subst e;obtain⟨g1,Q1,Q4,_⟩:=Wv hh hs hm;exact⟨by grind,VC a w g1 Q1 (BH.trans Q4) hd⟩
    ·grind
   ·grind
  ·grind
 |k+1,listed,σ,hw,hm,a,w,g,hs,BH,hd=>by
  simp only[Aat]at hw;split at hw
  ·rename_i i hi;have hp:=List.find?_some hi;have kF:=List.mem_of_find?_eq_some hi;rw[AMd]at hp;simp only[QX]at hw;split at hw
   ·grind
   ·rename_i o ho;have sS:B9[i]?=some o:=by grind
    rw[sS]at hp;rcases Pf hw with ⟨hwt,h1⟩|⟨hwt,h1⟩
    ·rw[R5 en he.Zj]at h1;cases hx:exec en σ o some with
     |none=>grind
     |some e =>
      rw[hx]at h1;have PT:=R6 he.toEnvOk hx;have Pg:=PT.grow;have pw:=PT.wp a w g hs (wpAny P .any B9 Q k (listed.setIfInBounds i true)) (λ_ _ _=>False) λv w' g' hH hv bg=>al he VC cY hQ k _ _ h1 (AMA hm Pg) _ _ _ (hs.after Pg hH hv bg) (BH.trans (bg.xQ hm)) (by rw[Go.Va.put_defers];exact hd);have D8:∃n w1,(execOp a.eval o).run P w=.ok n w1:=by
       unfold Oper.wp at pw;cases hq:(execOp a.eval o).run P w with
       |ok n w1=>grind
       |halt e w1=>rw[hq]at pw;cases e<;>exact pw.elim
      obtain⟨n,w1,D8⟩:=D8;obtain⟨c,hc⟩:=mU he.toEnvOk hp.1 hx hs D8;have hy:Yields P B9 o c a:=.inl ⟨Jm hs hwt,hc⟩;refine wpAny_take sS cY hp.2 (by grind) (λc a w h=>(hQ c _ _ h).elim) hy ?_;unfold Oper.wp at pw;rw[hc w]at pw;exact pw
    ·have hy:Yields P B9 o undef a:=.inr ⟨Jm hs hwt,rfl⟩;refine wpAny_take sS cY hp.2 (by grind) (λc a w h=>(hQ c _ _ h).elim) hy ?_;exact al he VC cY hQ k _ _ h1 hm _ _ _ (hs.skip o.dst) BH (by rw[Go.Va.put_defers];exact hd)
  split at hw
  ·grind
  ·rename_i hr;refine⟨λe=>by grind,λi hi=>?_⟩;have h1:=ZG hw _ (List.mem_map_of_mem hi);simp only[QX]at h1;unfold wpOp;split at h1
   ·grind
   ·rename_i o ho;have sS:B9[i]?=some o:=by grind
    simp only[sS];rcases Pf h1 with ⟨hw,h1⟩|⟨hw,h1⟩
    ·rw[R5 en he.Zj]at h1;cases hx:exec en σ o some with
     |none=>grind
     |some e =>
      rw[hx]at h1;have PT:=R6 he.toEnvOk hx;have Pg:=PT.grow;rw[AMo (Jm hs hw)];refine .inl (PT.wp a w g hs _ Q λv w' g' hH hv bg=>?_);exact al he VC cY hQ k _ _ h1 (AMA hm Pg) _ _ _ (hs.after Pg hH hv bg) (BH.trans (bg.xQ hm)) (by rw[put_defers];exact hd)
    ·rw[Jm hs hw];exact al he VC cY hQ k _ _ h1 hm _ _ _ (hs.skip o.dst) BH (by rw[put_defers];exact hd)
theorem KO.cut{w:World}{g:G}{σ:St}{a:Act}(hs:KO w g σ a):KO w (g.cut σ.Aj.length) σ a:=by
 have iK:∀b,g.own b=.Ir->(g.cut σ.Aj.length).own b=.Ir:=λb h=>by simp[G.cut,h]
 refine⟨⟨λb hb=>by simp[G.cut,hs.heap.BZ b hb],λk x hx=>?_⟩,hs.len,λi x hx=>?_⟩
 ·have:=(hs.heap.LP k x hx).NI  iK (fG (A3 hx)) λj hj=>fG (hs.heap.scp k x hx j hj);rwa [Zv]at this
 ·have h:=hs.AO i x hx;have:=h.NI    iK λk hk=>fG (h.Tk k hk);rwa [Mr]at this
def Same(n:Nat)(w w':World):Prop:=w.heap.size<=w'.heap.size/\∀b,b<n->w'.heap[b]?=w.heap[b]?
theorem w9(he:EnvOk P en){σ:St}{o:Oper}{e:HO}{t:TypeId}{x:Operand}(ho:o.op=.load t x){k:Nat}{i:Int}{p:APH Nat}{f:Nat}{a0:AV}(hx:σ.Ci x=.ptr k i p f)(hb:σ.Aj[k]?=some (.box a0))(hex:exec en σ o some=some e)
    {w:World} {g:G} {a:Act} (hs:KO w g σ a):∃b,(g.AZ k).a=some ⟨b,0,none⟩/\∃c,∀w',w'.heap[b]?=w.heap[b]?->(execOp a.eval o).run P w'=.ok (.value c) w':=by
 have ha:gE en σ o=none:=by
  unfold gE
  grind
 obtain⟨e0,hex⟩:=AeO he.Zj ha (by unfold ug Abr;rw[ho]) (by unfold tlE;rw[ho]) (λc e=>by grind) hex;unfold QY at hex;rw[ho]at hex;simp only at hex;split at hex
 ·rename_i ti ht;have W6:=AQ hs x;rw[hx]at W6 hex;obtain⟨hk,h0,h1,b,Nt,hpe⟩:=K1 W6;refine⟨b,Nt,?_⟩;have hld:∃v,atP σ.Aj k i p f=some v/\v.size=ti.ty.size:=by
   split at hex
   ·split at hex
    ·unfold Z0 at hex;simp only[hb]at hex;cases hex
    ·grind
   ·unfold Zi at hex
    grind
  obtain⟨v,hv,Mv⟩:=hld;obtain⟨cs,kC,DF⟩:=VK hs.heap hv h1 Nt;have hl:cs.length=ti.ty.size:=by rw[kC.len,Mv]
  obtain⟨c,_,qT⟩:=Sm (P:=P) (w:=w) (he.t ht) hl DF (λhg=>by rw[hl];exact Sv hg);refine⟨c,λw' kH=>?_⟩;obtain⟨c',hr,AfB⟩:=Sm (P:=P) (w:=w') (he.t ht) hl (λj u hu=>(VO kH).trans (DF j u hu)) (λhg=>by rw[hl];exact Sv hg);have:c'=c:=by
   cases hq:ti.ty.isAgg with
   |true=>rw[hq]at qT AfB;rw[qT,AfB]
   |false=>rw[hq]at qT AfB;rw[qT]at AfB;injection AfB with h _;exact h.symm
  subst this;simp[execOp,ho,hpe,Instr.loadAt,Instr.sureAddr,hr]
 ·grind
theorem AsI{ts:Array TypeId}{t:TypeId}{ad:APJ Addr}{n cp:Nat}{w w1:World}{v:Value}(h:(Builtin.len_ ts t #[.slice ad n cp]).run P w=.ok v w1)(w':World):(Builtin.len_ ts t #[.slice ad n cp]).run P w'=.ok v w':=by
 unfold Builtin.len_ at h⊢;cases ht:ts[0]? with
 |none=>simp[ht]at h
 |some t =>
  cases hu:P.underlying t with
  |none=>simp[ht,underlying,hu]at h
  |some d =>
   cases d with
   |pointer q =>
    cases hq:P.underlying q with
    |none=>simp[ht,underlying,hu,hq]at h
    |some d=>cases d<;>simp[ht,underlying,hu,hq,goInt]at h⊢<;>exact h.1
   |slice _=>simp[ht,underlying,hu,goInt]at h⊢;exact h.1
   |array _ _=>simp[ht,underlying,hu,goInt]at h⊢;exact h.1
   |_=>simp[ht,underlying,hu,goInt]at h
theorem Abj{o:Oper}{c:Call}(ho:o.op=.call c)(hc:c.callee=.builtin .len){a:Act}{X:Operand}(hX:c.args.toList=[X]){ad:APJ Addr}{n cp:Nat}(hv:a.eval X=.slice ad n cp){w w1:World}{nx:Next}(hr:(execOp a.eval o).run P w=.ok nx w1) :
    ∃v,∀w',(execOp a.eval o).run P w'=.ok (.value v) w':=by
 have hA:c.args=#[X]:=by grind
 have key:∀w',(execOp a.eval o).run P w'=((Builtin.len_ c.argTypes o.type #[.slice ad n cp]).run P w').andThen λv w'=>.ok (.value v) w':=λw'=>by
  simp[execOp,ho,resolve,hc,hA,hv,invoke,builtin]
 rw[key]at hr;cases hq:(Builtin.len_ _ _ _).run P w with
 |ok v w2=>exact⟨v,λw'=>by rw[key,AsI hq w'];rfl⟩
 |halt e w2=>rw[hq]at hr;cases hr
theorem Abv(he:EnvOk P en){RE:APH Blk}{σ:St}{o:Oper}{e:HO}(hp:xn RE σ o=true)(hx:exec en σ o some=some e){w w1:World}{g:G}{a:Act}(hs:KO w g σ a){nx:Next}(hr:(execOp a.eval o).run P w=.ok nx w1)
    {B:Nat->Prop} {w0:World} (hN:∀k b,(g.AZ k).a=some ⟨b,0,none⟩->(∃a0,RE[k]?=some (.box a0))->B b) (hw:∀b,B b->w.heap[b]?=w0.heap[b]?):∃c,∀w',(∀b,B b->w'.heap[b]?=w0.heap[b]?)->(execOp a.eval o).run P w'=.ok (.value c) w':=by
 unfold xn at hp;rw[ANp]at hp;rcases hp with hp |hp
 ·obtain⟨c,hc⟩:=mU he hp hx hs hr;exact⟨c,λw' _=>hc w'⟩
 ·split at hp
  ·rename_i t x ho;split at hp
   ·rename_i k i p f W6;split at hp
    ·rename_i a1 a0 hb0 hbb;obtain⟨b,Nt,c,hc⟩:=w9 he ho W6 hbb hx hs;have hbn:=hN k b Nt ⟨a1,hb0⟩;exact⟨c,λw' kH=>hc w' ((kH b hbn).trans (hw b hbn).symm)⟩
    ·grind
   ·grind
  ·rename_i c ho;have go:∀(X:Operand),c.callee=.builtin .len->c.args.toList=[X]->(∃ad n cp,a.eval X=.slice ad n cp)->∃v,∀w',(∀b,B b->w'.heap[b]?=w0.heap[b]?)->(execOp a.eval o).run P w'=.ok (.value v) w':=λX h1 h2 ⟨ad,n,cp,h3⟩=>by
    obtain⟨v,hv⟩:=Abj ho h1 h2 h3 hr;exact⟨v,λw' _=>hv w'⟩
   split at hp
   ·rename_i hc pn;unfold O2 at pn;cases hl:c.args.toList with
    |nil=>grind
    |cons X r =>
     rw[hl]at pn;cases r with
     |nil =>
      simp only[AMT,AN0,ANR,and_true]at pn;have hv:=AQ hs X;rw[pn]at hv;obtain⟨_,ad,cp,ds,hv,_⟩:=Zu hv;exact go X hc hl ⟨_,_,_,hv⟩
     |cons _ _=>grind
   ·rename_i hc pn;unfold O2 at pn;cases hl:c.args.toList with
    |nil=>grind
    |cons X r =>
     rw[hl]at pn;cases r with
     |nil =>
      simp only[AMT,AN0,ANR,and_true]at pn;have hv:=AQ hs X;rw[pn]at hv;obtain⟨ad,hv⟩:=Xy hv;exact go X hc hl ⟨_,_,_,hv⟩
     |cons _ _=>grind
   ·grind
  ·rename_i op t x y yt ho;rw[AMd]at hp;obtain⟨h1,h2⟩:=hp;split at h2
   ·rename_i ks k u Tv k' v W6 hyy;have hk:k=k':=by grind
    subst hk;have e1:=AQ hs x;rw[W6]at e1;have e1:=Dx e1;have e2:=AQ hs y;rw[hyy]at e2;have e2:=Dx e2;split at h1
    ·exact⟨_,λw' _=>by simp[execOp,ho,e1,e2,binOp];rfl⟩
    ·exact⟨_,λw' _=>by simp[execOp,ho,e1,e2,binOp];rfl⟩
    ·grind
   ·grind
  ·grind
theorem r9{R:Type}{all:APH Oper}{RE:APH Blk}{i:Nat}{σ:St}{K:St->APJ R}{r:R}(h:evQ en all RE i σ K=some r):∃o,all[i]?=some o/\Wt all σ o (λσ=>exec en σ o λe=>if e.Bz.all (nbx RE)then K (σ.after o.dst e)else none) (λσ=>K (σ.skip o.dst))=some r:=by
 unfold evQ at h
 grind
theorem AbX{w:World}{g:G}{n:Nat}:BB m w g w (g.cut n) :=
 ⟨rfl,rfl,rfl,AMc _,λb _ h=>⟨by simp[G.cut,h],rfl⟩,λb h=>⟨by simp[G.cut,h],rfl⟩,λb k p h hk hm=>(hm (List.mem_range.2 hk)).elim,λk hk=>rfl⟩
def af(gS:G)(RE:APH Blk)(b:Nat):Prop:=∃k a1,RE[k]?=some (.box a1)/\(gS.AZ k).a=some ⟨b,0,none⟩
theorem xq{σ:St}{o:Oper}{e:HO}(PT:Nr P σ o e){RE:APH Blk}{gS:G}(hme:e.Bz.all (nbx RE)=true){w:World}{g:G}{a:Act}(hs:KO w g σ a)(hm:m<=σ.Aj.length)(hNl:RE.length<=σ.Aj.length)(Cs:∀k a1 b,RE[k]?=some (.box a1)->(gS.AZ k).a=some ⟨b,0,none⟩->g.own b=.BO k []){next:Act->World->Prop}{Q:Exit->Act->World->Prop}
    (hn:∀v w' g',KO w' g' (σ.after o.dst e) (a.put o.dst v)->BB m w g w' g'->(∀b,af gS RE b->w'.heap[b]?=w.heap[b]?)->(∀k,k<σ.Aj.length->g'.AZ k=g.AZ k)->(∀k a1 b,RE[k]?=some (.box a1)->(gS.AZ k).a=some ⟨b,0,none⟩->g'.own b=.BO k [])->next (a.put o.dst v) w'):o.wp P a w next Q:=by
 refine PT.wp a w g hs next Q λv w' g' hH hv st=>?_
 have both:∀k a1 b,RE[k]?=some _->(gS.AZ k).a=some _->w'.heap[b]?=w.heap[b]?/\g'.own b=.BO k []:=λk a1 b hk hb=>by
  have h:=st.BO b k [] (Cs k a1 b hk hb) (AMI (A3 hk) hNl) (λh=>by
   have:=List.all_eq_true.1 hme k h;unfold nbx at this;rw[hk]at this;cases this)
  exact⟨h.2,h.1⟩
 exact hn v w' g' (hs.after PT.grow hH hv st) (st.xQ hm) (λb ⟨k,a1,h1,h2⟩=>(both k a1 b h1 h2).1) (λk hk=>st.AZ k hk) λk a1 b h1 h2=>(both k a1 b h1 h2).2
theorem fB(he:IR P en){h:SH}{B9:Array Oper}{σ':St}{Q:Exit->Act->World->Prop}{a0:Act}{w0:World}{g0 gS:G}
    (VC:∀a' w' g',KO w' g' σ' a'->BB m w0 g0 w' g'->a'.defers=a0.defers->Q .normal a' w') (cY:Region.noSelect B9=true) (hQ:∀c a w,¬Q (.panic c) a w) {RE:APH Blk} (H0:Bf w0 gS RE) :
    ∀(k:Nat) (listed:Array Bool) (σ:St),wi en h m RE B9 σ' k listed σ=some ()->m<=σ.Aj.length->RE.length<=σ.Aj.length->∀(a:Act) (w:World) (g:G),KO w g σ a->BB m w0 g0 w g->a.defers=a0.defers->(∀b,af gS RE b->w.heap[b]?=w0.heap[b]?)->(∀k,k<RE.length->g.AZ k=gS.AZ k)->(∀k a1 b,RE[k]?=some (.box a1)->(gS.AZ k).a=some ⟨b,0,none⟩->g.own b=.BO k []) ->
     wpAnyH P .any B9 Q (λw=>∀b,af gS RE b->w.heap[b]?=w0.heap[b]?) k listed a w
 |0,listed,σ,hw,hm,hl,a,w,g,hs,BH,hd,hS,UD,Cs=>by
  simp only[wi]at hw;split at hw
  ·rename_i hr;split at hw
   ·rename_i s hh;unfold kx at hw;split at hw
    ·rename_i e;subst e;obtain⟨g1,Q1,Q4,_⟩:=Wv hh hs hm;exact⟨by grind,VC a w g1 Q1 (BH.trans Q4) hd⟩
    ·grind
   ·grind
  ·grind
 |k+1,listed,σ,hw,hm,hl,a,w,g,hs,BH,hd,hS,UD,Cs=>by
  have one:∀(o:Oper) (e:HO) (i:Nat),exec en σ o some=some e->(if e.Bz.all (nbx RE)then wi en h m RE B9 σ' k (listed.setIfInBounds i true) (σ.after o.dst e)else none)=some ()->∀(Q':Exit->Act->World->Prop),
      o.wp P a w (λa' w'=>(∀b,af gS RE b->w'.heap[b]?=w0.heap[b]?)/\wpAnyH P .any B9 Q (λw=>∀b,af gS RE b->w.heap[b]?=w0.heap[b]?) k (listed.setIfInBounds i true) a' w') Q':=by
   intro o e i hx h1 Q';split at h1
   ·rename_i hme;have PT:=R6 he.toEnvOk hx;refine xq (m:=m) (gS:=gS) PT hme hs hm hl Cs λv w' g' fL st' hS' ABU ACz=>?_;have hS2:∀b,af gS RE b->w'.heap[b]?=w0.heap[b]?:=λb hb=>(hS' b hb).trans (hS b hb);exact⟨hS2,fB he VC cY hQ H0 k _ _ h1 (AMA hm PT.grow) (AMA hl PT.grow) _ _ _ fL (BH.trans st') (by rw[Go.Va.put_defers];exact hd) hS2 (λk hk=>(ABU k (AMI hk hl)).trans (UD k hk)) ACz⟩
   ·grind
  simp only[wi]at hw;split at hw
  ·rename_i i hi;have hp:=List.find?_some hi;have kF:=List.mem_of_find?_eq_some hi;rw[AMd]at hp;obtain⟨o,ho,hw⟩:=r9 hw;have sS:B9[i]?=some o:=by grind
   rw[sS]at hp;rcases Pf hw with ⟨hwt,h1⟩|⟨hwt,h1⟩
   ·rw[R5 en he.Zj]at h1;cases hx:exec en σ o some with
    |none=>grind
    |some e =>
     rw[hx]at h1;have pw:=one o e i hx h1 (λ_ _ _=>False);have D8:∃n w1,(execOp a.eval o).run P w=.ok n w1:=by
      unfold Oper.wp at pw;cases hq:(execOp a.eval o).run P w with
      |ok n w1=>grind
      |halt e w1=>rw[hq]at pw;cases e<;>exact pw.elim
     obtain⟨n,w1,D8⟩:=D8;obtain⟨c,hc⟩:=Abv he.toEnvOk hp.1 hx hs D8 (B:=af gS RE) (w0:=w0) (λk b hb AjC=>by
      obtain⟨a1,AjC⟩:=AjC;rw[UD k (A3 AjC)]at hb;exact⟨k,a1,AjC,hb⟩) hS
     have hy:YieldsIf P B9 (λw=>∀b,af gS RE b->w.heap[b]?=w0.heap[b]?) o c a:=.inl ⟨Jm hs hwt,hc⟩;refine wpAnyH_take sS cY hp.2 (by grind) (λc a w h=>(hQ c _ _ h).elim) hy hS ?_;unfold Oper.wp at pw;rw[hc w hS]at pw;exact pw.2
   ·have hy:YieldsIf P B9 (λw=>∀b,af gS RE b->w.heap[b]?=w0.heap[b]?) o undef a:=.inr ⟨Jm hs hwt,rfl⟩;refine wpAnyH_take sS cY hp.2 (by grind) (λc a w h=>(hQ c _ _ h).elim) hy hS ?_;exact fB he VC cY hQ H0 k _ _ h1 hm hl _ _ _ (hs.skip o.dst) BH (by rw[Go.Va.put_defers];exact hd) hS UD Cs
  split at hw
  ·grind
  ·rename_i hr;refine⟨λe=>by grind,λi hi=>?_⟩;have h1:=ZG hw _ (List.mem_map_of_mem hi);obtain⟨o,ho,h1⟩:=r9 h1;unfold wpOp;have sS:B9[i]?=some o:=by grind
   simp only[sS];rcases Pf h1 with ⟨hw,h1⟩|⟨hw,h1⟩
   ·rw[R5 en he.Zj]at h1;cases hx:exec en σ o some with
    |none=>rw[hx]at h1;cases h1
    |some e =>
     rw[hx]at h1;rw[AMo (Jm hs hw)];exact .inl (one o e i hx h1 Q)
   ·rw[Jm hs hw];exact⟨hS,fB he VC cY hQ H0 k _ _ h1 hm hl _ _ _ (hs.skip o.dst) BH (by rw[put_defers];exact hd) hS UD Cs⟩
theorem PK(he:IR P en):∀c:Code,vx P en m c
 |.skip=>λσ e σ' h hm=>by
  obtain⟨rfl,rfl⟩:=h;exact⟨hm,λa w g Q hs hq=>wp_skip (hq a w g hs (BB.refl _ _ _) rfl)⟩
 |.ret=>λσ e σ' h hm=>by
  obtain⟨rfl,rfl⟩:=h;exact⟨hm,λa w g Q hs hq=>wp_ret (hq a w g hs (BB.refl _ _ _) rfl)⟩
 |.exit n=>λσ e σ' h hm=>by
  obtain⟨rfl,rfl⟩:=h;exact⟨hm,λa w g Q hs hq=>wp_exit (hq a w g hs (BB.refl _ _ _) rfl)⟩
 |.seq c d=>λσ e σ' h hm=>by
  simp only[ev]at h;have hj:∃e1 s1,m<=s1.Aj.length/\(∀(a:Act) (w:World) (g:G) (Q:Exit->Act->World->Prop),KO w g σ a->(∀a' w' g',KO w' g' s1 a'->BB m w g w' g'->a'.defers=a.defers->Q (oM e1) a' w')->c.wp P Q a w) /\
      (match e1 with |.normal=>ev en m d _ s1 Q3 |.exit n=>Q3 (.exit n) s1 |.ret=>Q3 .ret s1)=some (e,σ'):=by
   split at h
   ·obtain⟨e1,s1,h1,h2⟩:=aS he.Zj h;obtain⟨Tj,vr⟩:=PK he c σ e1 s1 h1 hm;exact⟨e1,s1,Tj,vr,h2⟩
   ·rw[AMX]at h;obtain⟨σ0,h0,h⟩:=h;obtain⟨wQ,Ar4⟩:=AeJ he h0 hm;rw[AMX]at h;obtain⟨⟨e1,s2⟩,h1,h2⟩:=h;obtain⟨e0,s1,h3,h4⟩:=aS he.Zj h1;rw[AMX]at h4;obtain⟨s3,h5,h6⟩:=h4;simp only[AL8,AMj]at h6;obtain⟨rfl,rfl⟩:=h6;obtain⟨Tj,vr⟩:=PK he c σ0 e0 s1 h3 wQ;refine⟨e0,s3,VX h5,λa w g Q hs hq=>?_,h2⟩;obtain⟨g0,vo,s9⟩:=Ar4 hs;refine vr a w g0 Q vo λa' w' g' fL BH hd=>?_;obtain⟨g3,s7,Afz,_⟩:=Wv h5 fL Tj;exact hq a' w' g3 s7 (s9.trans (BH.trans Afz)) hd
  obtain⟨e1,s1,Tj,vr,h2⟩:=hj;cases e1 with
  |normal =>
   obtain⟨RG,ih2⟩:=PK he d s1 e σ' h2 Tj;refine⟨RG,λa w g Q hs hq=>wp_seq (vr a w g _ hs λa1 w1 g1 Q1 Ww kD=>?_)⟩;exact ih2 a1 w1 g1 Q Q1 λa2 w2 g2 Y1 wU hd2=>hq a2 w2 g2 Y1 (Ww.trans wU) (hd2.trans kD)
  |exit n =>
   obtain⟨rfl,rfl⟩:=h2;exact⟨Tj,λa w g Q hs hq=>wp_seq (vr a w g _ hs λa1 w1 g1 Q1 Ww kD=>hq a1 w1 g1 Q1 Ww kD)⟩
  |ret =>
   obtain⟨rfl,rfl⟩:=h2;exact⟨Tj,λa w g Q hs hq=>wp_seq (vr a w g _ hs λa1 w1 g1 Q1 Ww kD=>hq a1 w1 g1 Q1 Ww kD)⟩
 |.cond c x y=>λσ e σ' h hm=>by
  simp only[ev]at h;split at h
  ·rename_i ks t hc;have hb:∀(a:Act) (w:World) (g:G),KO w g σ a->a.eval c=.bool t:=λa w g hs=>by
    have:=AQ hs c;rw[hc]at this;exact R3 this
   cases t
   ·obtain⟨Tj,vr⟩:=PK he y σ e σ' h hm;exact⟨Tj,λa w g Q hs hq=>wp_cond_false (hb a w g hs) (vr a w g Q hs hq)⟩
   ·obtain⟨Tj,vr⟩:=PK he x σ e σ' h hm;exact⟨Tj,λa w g Q hs hq=>wp_cond_true (hb a w g hs) (vr a w g Q hs hq)⟩
  ·grind
 |.block n c=>λσ e σ' h hm=>by
  simp only[ev]at h;obtain⟨e1,s1,h1,h2⟩:=aS he.Zj h;obtain⟨Tj,vr⟩:=PK he c σ e1 s1 h1 hm;cases e1 with
  |normal =>
   obtain⟨rfl,rfl⟩:=h2;exact⟨Tj,λa w g Q hs hq=>wp_block (vr a w g _ hs λa1 w1 g1 Q1 Ww kD=>hq a1 w1 g1 Q1 Ww kD)⟩
  |exit k =>
   simp only at h2;cases hk:k==n with
   |true =>
    rw[hk]at h2;obtain⟨rfl,rfl⟩:=h2;have Xp:k=n:=by grind
    subst Xp;exact⟨Tj,λa w g Q hs hq=>wp_block (vr a w g _ hs λa1 w1 g1 Q1 Ww kD=>by
     simp only[oM,Exit.inBlock];exact hq a1 w1 g1 Q1 Ww kD)⟩
   |false =>
    rw[hk]at h2;obtain⟨rfl,rfl⟩:=h2;have Xp:¬k=n:=by grind
    exact⟨Tj,λa w g Q hs hq=>wp_block (vr a w g _ hs λa1 w1 g1 Q1 Ww kD=>by
     simp only[oM,Exit.inBlock,AMp Xp];exact hq a1 w1 g1 Q1 Ww kD)⟩
  |ret =>
   obtain⟨rfl,rfl⟩:=h2;exact⟨Tj,λa w g Q hs hq=>wp_block (vr a w g _ hs λa1 w1 g1 Q1 Ww kD=>hq a1 w1 g1 Q1 Ww kD)⟩
 |.region id B9 false=>λσ e σ' h hm=>by
  simp only[ev]at h;rw[TM he.Zj]at h;cases hx:QX en B9.toList (List.range B9.size) σ some with
  |none=>grind
  |some s =>
   rw[hx]at h;obtain⟨rfl,rfl⟩:=h;refine⟨(aR (Q:=λ_ _ _=>True) he.toEnvOk _ _ _ hx hm).1,λa w g Q hs hq=>wp_region ((aR he.toEnvOk _ _ _ hx hm).2 a w g hs hq)⟩
 |.region id B9 true=>λσ e σ' h hm=>by
  simp only[ev]at h;split at h
  ·rw[AMX]at h;obtain⟨σ0,h0,h⟩:=h;obtain⟨wQ,Ar4⟩:=AeJ he h0 hm;rw[AMX]at h;obtain⟨s,h1,h2⟩:=h;obtain⟨rfl,rfl⟩:=h2;unfold Akj at h1;split at h1
   ·grind
   rename_i cY;rw[TM he.Zj,AMX]at h1;obtain⟨s0,h3,h4⟩:=h1;rw[AMX]at h4;obtain⟨s1,h5,h6⟩:=h4;rw[AMX]at h6;obtain⟨_,h7,h8⟩:=h6;injection h8 with h8;subst h8;refine⟨VX h5,λa w g Q hs hq=>Code.wp_mono (Q:=λe a w=>match e with |.panic _=>False |e=>Q e a w) (λe a w h=>by grind) (wp_region_any he.mixed ?_)⟩
   obtain⟨g1,hs,Ww⟩:=Ar4 hs;cases hqt:(SH.X3 _)with
   |false =>
    rw[hqt]at h7;exact al (Q:=λe a w=>match e with |.panic _=>False |e=>Q e a w) he    (λa' w' g' h1 h2 h3=>hq a' w' g' h1 (Ww.trans h2) h3) (by grind) (λc a w h=>h) _ _ σ0 h7 wQ a _ g1 ⟨hs.heap.drew,hs.len,λi x hx=>(hs.AO i x hx).QJ (Step.drew [] _ w g1) (AMc _)⟩ (Step.drew _ _ w g1) rfl
   |true =>
    rw[hqt]at h7;have hsD :=KO.cut ⟨hs.heap.drew,hs.len,λi x hx=>(hs.AO i x hx).QJ (Step.drew _ _ _ _) (AMc _)⟩;exact wpAny_of_held _ _ _ _ (fB (Q:=λe a w=>match e with |.panic _=>False |e=>Q e a w) he     (λa' w' g' h1 h2 h3=>hq a' w' g' h1 (((Ww.trans ((Step.drew [] _ w g1).xQ wQ)).trans AbX).trans h2) h3) (by grind) (λc a w h=>h) hsD.heap _ _ σ0 h7 wQ (AMc _) a _ _ hsD (BB.refl _ _ _) rfl (λ_ _=>rfl) (λ_ _=>rfl) λk a1 b hk hb=>by
     obtain⟨_,b',_,_,ha',ho,_⟩:=hsD.heap.LP k _ hk
     grind)
  split at h
  ·rename_i dR;rw[TL he.Zj]at h;cases hx:TW en B9.toList (Xx B9.toList (WE en B9.toList B9.toList.length []) []) (WE en B9.toList B9.toList.length []) [] [] σ some with
   |none=>grind
   |some s =>
    rw[hx]at h;obtain⟨rfl,rfl⟩:=h;exact oL he.toEnvOk he.mixed dR hx hm
  ·grind
 |.loop body=>Aj9 he (PK he body)
 |.goto _=>λ_ _ _ h _=>by simp[ev]at h
 |.label _=>λ_ _ _ h _=>by simp[ev]at h
 |.rangeFunc ..=>λ_ _ _ h _=>by simp[ev]at h
 |.scope _=>λ_ _ _ h _=>by simp[ev]at h
 |.refuse _=>λ_ _ _ h _=>by simp[ev]at h
end
def Agp(tmps:Array Value):ResultVar->Sem Value
 |.tmp t=>pure (tmps.getD t undef)
 |.cell a t=>do loadVar t (<-asAddr (tmps.getD a undef))
theorem jy(fn:Func)(tmps:Array Value):results fn tmps=(do let vs <-fn.results.mapM (Agp tmps);pure (if h:vs.size=1 then vs[0]else .tuple vs)):=by
 congr 1
section
variable {P:Program} {en:Gx}
theorem xt(he:EnvOk P en){σ:St}{w:World}{g:G}{a:Act}(hs:KO w g σ a):∀{rs:APH ResultVar} {l:APH AV},ft en.DU σ rs=some l ->
    ∃vs,(rs.mapM (Agp a.tmps)).run P w=.ok vs w/\Dz w g σ.Aj.length l vs
 |[],l,h=>by
  simp only[ft,AL8]at h;subst h;exact⟨[],rfl,trivial⟩
 |.tmp t::rs,l,h=>by
  simp only[ft]at h;split at h
  ·rename_i x l' hx hl;injection h with h;subst h;obtain⟨vs,hr,hv⟩:=xt he hs hl;exact⟨a.tmps.getD t _::vs,by simp only[List.mapM_cons,Agp,Sem.run_bind,Sem.run_pure,Result.andThen_ok,hr],hs.AO t x hx,hv⟩
  ·grind
 |.cell b t::rs,l,h=>by
  simp only[ft]at h;split at h
  ·rename_i ti k i p o ht hx;split at h
   ·rename_i x l' UD hl;split at h
    ·rename_i Mv;injection h with h;subst h;obtain⟨vs,hr,hv⟩:=xt he hs hl;obtain⟨hk,h0,h1,bb,hb,hp⟩:=K1 (hs.AO b _ hx);obtain⟨cs,kC,DF⟩:=VK hs.heap UD h1 hb;obtain⟨v,tc,qT⟩:=Sm  (he.t ht) (by rw[kC.len,Mv.1]) DF (λhg=>by rw[kC.len,Mv.1];exact Sv hg);rw[<-Mv.2]at qT;refine⟨v::vs,?_,Bs (Vr kC) kC qT,hv⟩;have:(asAddr (a.tmps.getD b undef)).run P w=.ok ⟨bb,i.toNat*(g.AZ k).lQ+o,none⟩ w:=by rw[hp];rfl
     simp only[List.mapM_cons,Agp,Sem.run_bind,Sem.run_pure,Result.andThen_ok,hr,this,tc]
    ·grind
   ·grind
  ·grind
theorem ia{w:World}{g:G}{n:Nat}:∀{l:APH AV} {vs:APH Value},Dz w g n l vs->CG w g n true (Yn l) vs
 |[],[],_=>rfl
 |a::l,v::vs,⟨h1,h2⟩=>by
  refine⟨v,vs,rfl,?_,ia h2⟩;split
  ·exact .inl rfl
  ·rename_i ht;exact(B4.iff (by grind)).1 h1
 |[],_::_,h=>h.elim
 |_::_,[],h=>h.elim
theorem Akk{w:World}{g:G}{n:Nat}{l:APH AV}{vs:APH Value}(h:Dz w g n l vs):B4 w g n (uc l) (if h:vs.toArray.size=1 then vs.toArray[0]else .tuple vs.toArray):=by
 match l,vs,h with
 |[],[],_=>rfl
 |[a],[v],h=>exact h.1
 |a::b::l,v::u::vs,h =>
  have:¬(v::u::vs).toArray.size=1:=by simp
  exact⟨_,rfl,ia h⟩
theorem lz{w:World}{g:G}{n:Nat}:∀{l:APH AV} {vs:APH Value},Dz w g n l vs->l.length=vs.length
 |[],[],_=>rfl
 |_::_,_::_,h=>by simp[lz h.2]
 |[],_::_,h=>h.elim
 |_::_,[],h=>h.elim
theorem Yj{w:World}{g:G}{n:Nat}:∀{l:APH AV} {vs:APH Value} {i:Nat} {x:AV},Dz w g n l vs->l[i]?=some x->∃v,vs[i]?=some v/\B4 w g n x v
 |_::_,v::_,0,_,h,hx=>by simp at hx;subst hx;exact⟨v,rfl,h.1⟩
 |_::_,_::_,i+1,_,h,hx=>by
  obtain⟨v,hv,hr⟩:=Yj  h.2 (by simpa using hx)
  grind
 |[],[],_,_,_,hx=>by grind
 |[],_::_,_,_,h,_=>h.elim
 |_::_,[],_,_,h,_=>h.elim
theorem gD{w w':World}{g g':G}{n n':Nat}(st:Step [] n w g w' g')(hn:n<=n'):∀{l:APH AV} {vs:APH Value},Dz w g n l vs->Dz w' g' n' l vs
 |[],[],_=>trivial
 |_::_,_::_,h=>⟨h.1.QJ st hn,gD st hn h.2⟩
 |[],_::_,h=>h.elim
 |_::_,[],h=>h.elim
theorem cB{w:World}{g:G}{n:Nat}{x:AV}:∀{l:APH AV} {vs:APH Value} {i:Nat} {v:Value},Dz w g n l vs->vs[i]?=some v->B4 w g n x v->Dz w g n (l.set i x) vs
 |_::_,_::_,0,v,h,hv,hx=>by
  simp at hv;subst hv;exact⟨hx,h.2⟩
 |_::_,_::_,i+1,v,h,hv,hx=>⟨h.1,cB h.2 (by grind) hx⟩
 |[],[],_,_,_,hv,_=>by grind
 |[],_::_,_,_,h,_,_=>h.elim
 |_::_,[],_,_,h,_,_=>h.elim
theorem rS{m:Nat}{w:World}:∀{cs:APH (Nat×Co)} {l l':APH AV} {bs Ga:APH Blk} {g:G} {vs:APH Value},aC cs l bs=some (l',Ga)->Bf w g bs->Dz w g bs.length l vs->m<=bs.length ->
    ∃g',Bf w g' Ga/\Dz w g' Ga.length l' vs/\BB m w g w g'
 |[],l,l',bs,Ga,g,vs,h,H,hx,hm=>by
  obtain⟨rfl,rfl⟩:=h;exact⟨g,H,hx,BB.refl _ _ _⟩
 |(i,c)::r,l,l',bs,Ga,g,vs,h,H,hx,hm=>by
  simp only[aC]at h;split at h
  ·grind
  ·rename_i v hv;split at h
   ·rename_i v' nb hco;obtain⟨u,hu,hr⟩:=Yj hx hv;obtain⟨g1,H1,fO,Q4⟩:=wv H hco hr;obtain⟨g2,H2,vq,O7⟩:=rS (m:=m) h H1 (cB (gD Q4 (by simp) hx) hu fO) (by grind);exact⟨g2,H2,vq,(Q4.xQ hm).trans O7⟩
   ·grind
theorem yU{m:Nat}{w:World}:∀{cs:APH (Nat×Ty)} {l l':APH AV} {bs Ga:APH Blk} {g:G} {vs:APH Value},oU m cs l bs=some (l',Ga)->Bf w g bs->Dz w g bs.length l vs ->
    ∃g',Bf w g' Ga/\Dz w g' Ga.length l' vs/\BB m w g w g'/\Ga.length=bs.length
 |[],l,l',bs,Ga,g,vs,h,H,hx=>by
  obtain⟨rfl,rfl⟩:=h;exact⟨g,H,hx,BB.refl _ _ _,rfl⟩
 |(i,t)::r,l,l',bs,Ga,g,vs,h,H,hx=>by
  simp only[oU]at h;split at h
  ·grind
  ·rename_i v hv;split at h
   ·rename_i v' nb hf;obtain⟨g1,H1,hl,Q4,ha,fO,_,_⟩:=oW H hf;obtain⟨u,hu,hr⟩:=Yj hx hv;have AFZ:∀{l:APH AV} {vs:APH _},Dz w g bs.length l vs->Dz w g1 nb.length (l.map AV.ae) vs:=by
     intro l;induction l with
     |nil=>intro vs h;cases vs with
      |nil=>trivial
      |cons _ _=>exact h.elim
     |cons a l ih=>intro vs h;cases vs with
      |nil=>exact h.elim
      |cons v vs=>exact⟨by rw[hl];exact ha a v h.1,ih h.2⟩
    obtain⟨g2,H2,vq,O7,fJ⟩:=yU  h H1 (cB (AFZ hx) hu (by grind));exact⟨g2,H2,vq,Q4.trans O7,fJ.trans hl⟩
   ·grind
theorem b5{w:World}{g:G}{E:APH Blk}{args:APH AV}{vs:APH Value}(H:Bf w g E)(h:Dz w g E.length args vs){n:Nat}(hn:args.length<=n) :
    KO w g ⟨args++List.replicate (n-args.length) (.un 0),E⟩ {tmps:=vs.toArray++Array.replicate (n-vs.toArray.size) undef,defers:=[]} where
 heap:=H
 len:=by simp[lz h]
 AO i x hx:=by
  rw[AMw]at hx;split at hx
  ·obtain⟨v,hv,hr⟩:=Yj h hx;have hi:=A3 hv;have:(vs.toArray++Array.replicate (n-vs.toArray.size) undef).getD i undef=v:=by
    rw[AM0,Array.getElem?_append_left (by grind)];simp[hv]
   rw[this];exact hr
  ·rw[List.getElem?_replicate]at hx;split at hx
   ·injection hx with hx;subst hx;exact QK
   ·grind
theorem Yv{m:Nat}{w:World}{a:Act}:∀{l:APH Fi} {σ σ2:St} {g:G},YZ m l σ=some σ2->KO w g σ a->m<=σ.Aj.length->∃g',KO w g' σ2 a/\BB m w g w g'/\m<=σ2.Aj.length
 |[],σ,σ2,g,h,hs,hm=>by
  simp only[YZ,AL8]at h;subst h;exact⟨g,hs,BB.refl _ _ _,hm⟩
 |.co k c::r,σ,σ2,g,h,hs,hm=>by
  simp only[YZ]at h;split at h
  ·rename_i bs hb;obtain⟨g1,H1,st⟩:=Aex hs.heap hb;have hl:=fF hb;obtain⟨g2,h2,O7,RG⟩:=Yv  h ⟨H1,hs.len,λi x hx=>(hs.AO i x hx).QJ st hl⟩ (AMA hm hl);exact⟨g2,h2,(st.xQ hm).trans O7,RG⟩
  ·grind
 |.A9 j::r,σ,σ2,g,h,hs,hm=>by
  refine Yv (σ:=⟨σ.AO,σ.Aj.set j _⟩) h ⟨⟨hs.heap.BZ,λk x hx=>?_⟩,hs.len,λi x hx=>by rw[AMf];exact hs.AO i x hx⟩ (by grind);rw[AMf];rw[AMv]at hx;split at hx
  ·split at hx
   ·injection hx with hx;subst hx;trivial
   ·grind
  ·exact hs.heap.LP k x hx
 |.mvs s p::r,σ,σ2,g,h,hs,hm=>by
  simp only[YZ]at h;split at h
  ·rename_i σ1 h1;unfold mvP at h1;split at h1
   ·obtain⟨g1,Q1,Q4,Tj⟩:=xf h1 hs hm;obtain⟨g2,Y1,O7,RG⟩:=Yv h Q1 Tj;exact⟨g2,Y1,Q4.trans O7,RG⟩
   ·rename_i a0 vo;obtain⟨g1,Q1,Q4,Tj⟩:=Af2 vo h1 hs hm;obtain⟨g2,Y1,O7,RG⟩:=Yv h Q1 Tj;exact⟨g2,Y1,Q4.trans O7,RG⟩
   ·grind
  ·grind
 |.mv k p::r,σ,σ2,g,h,hs,hm=>by
  simp only[YZ]at h;split at h
  ·rename_i σ1 h1;obtain⟨g1,Q1,Q4,Tj⟩:=xf h1 hs hm;obtain⟨g2,Y1,O7,RG⟩:=Yv h Q1 Tj;exact⟨g2,Y1,Q4.trans O7,RG⟩
  ·grind
theorem ZT(he:IR P en){f:FuncId}{fn:Func}(hf:P.funcs[f]?=some fn){args:APH AV}{E:APH Blk}{av:AV}{E':APH Blk}(h:Sr en fn (AV×APH Blk) args E (λv b=>some (v,b))=some (av,E')) :
    E.length<=E'.length/\∀(w:World) (g:G) (vs:APH Value),Bf w g E->Dz w g E.length args vs->Calls P f vs.toArray w λe w'=>∃v g',e=.returned v/\Bf w' g' E'/\B4 w' g' E'.length av v/\BB E.length w g w' g':=by
 unfold Sr at h;split at h
 ·grind
 ·rename_i c hc;split at h
  ·rename_i hl;obtain⟨e,σ',h1,h2⟩:=aS he.Zj h;obtain⟨hm,pw⟩:=PK he c _ e σ' h1 (AMc _);have key:∀(σ2:St) (l l0:APH AV) (RE:APH Blk) (l':APH AV) (Ga:APH Blk),YZ E.length en.fi.VC σ'=some σ2->ft en.DU σ2 fn.results.toList=some l->oU E.length en.fi.RF l σ2.Aj=some (l0,RE)->aC en.fi.jw l0 RE=some (l',Ga)->jc E.length Ga (uc l')=some (av,E')->(oM e=.normal\/oM e=.ret) ->
       E.length<=E'.length/\∀(w:World) (g:G) (vs:APH Value),Bf w g E->Dz w g E.length args vs->Calls P f vs.toArray w λe w'=>∃v g',e=.returned v/\Bf w' g' E'/\B4 w' g' E'.length av v/\BB E.length w g w' g':=by
    intro σ2 l l0 RE l' Ga AFK bf kj hco hlv hex;unfold jc at hlv
    dsimp only at hlv
    split at hlv
    ·rename_i hp;simp only[AL8,AMj]at hlv;obtain⟨y9,hE⟩:=hlv;have hmn:=(Agi (TQ hp).1).1;have hEl:E'.length=(mX Ga Ga.length (fl (List.range E.length) (uc l').Ct)).length:=by grind
     refine⟨by grind,λw g vs H hx=>?_⟩;refine calls_of_wp hf hc ?_;refine pw _ w g _ (b5 H hx hl) λa' w' g0 vo s9 hd=>?_;obtain⟨g',fL,bg,RG⟩:=Yv AFK vo hm;have BH:=s9.trans bg;obtain⟨YR,hr,hv⟩:=xt he.toEnvOk fL bf;obtain⟨g1,H1,fO,Q4,UG⟩:=yU kj fL.heap hv;obtain⟨g2,H2,hv2,O7⟩:=rS hco H1 fO (by rw[UG];exact RG);have W5:∃u,(results fn a'.tmps).run P w'=.ok u w'/\∃v' g'',Ending.returned u=Ending.returned v'/\Bf w' g'' E'/\B4 w' g'' E'.length av v'/\BB E.length w g w' g'':=by
      refine⟨if h:YR.toArray.size=1 then YR.toArray[0]else .tuple YR.toArray,?_,_,g2.pick _,rfl,by rw[<-hE];exact mP H2 hp,?_,((BH.trans Q4).trans O7).trans (mQ hp).1⟩
      ·rw[jy,Array.mapM_eq_mapM_toList];simp only[Sem.run_bind,Sem.run_map,hr];rfl
      ·rw[hEl,<-y9];exact((Akk hv2).NI (λb h=>bG h) λk hk=>bH ((TQ hp).2.2.1 k hk)).Ec
     obtain⟨u,fO,hv2⟩:=W5;rcases hex with h |h<;>rw[h]<;>exact⟨hd,u,fO,hv2⟩
    ·grind
   have Ag3:(match YZ E.length en.fi.VC σ' with
         |none=>none
         |some σ=>match ft en.DU σ fn.results.toList with
          |some l=>match oU E.length en.fi.RF l σ.Aj with
           |some (l,bs)=>match aC en.fi.jw l bs with
            |some (l',Ga)=>match jc E.length Ga (uc l')with
             |some (v,bs)=>some (v,bs)
             |none=>none
            |none=>none
           |none=>none
          |none=>none)=some (av,E')->(oM e=.normal\/oM e=.ret)->E.length<=E'.length/\∀(w:World) (g:G) (vs:APH Value),Bf w g E->Dz w g E.length args vs->Calls P f vs.toArray w λe w'=>∃v g',e=.returned v/\Bf w' g' E'/\B4 w' g' E'.length av v/\BB E.length w g w' g':=by
    intro h hex;split at h
    ·grind
    grind
   cases e with
   |exit n=>grind
   |normal=>exact Ag3 h2 (.inl rfl)
   |ret=>exact Ag3 h2 (.inr rfl)
  ·grind
theorem Aq.of(he:IR P en){f:FuncId}{fn:Func}(hf:P.funcs[f]?=some fn)(hn:(fn.name=="runtime.NumGoroutine")=false)(hb:fn.body.isNone=false){c:Callee}(hc:gk c)
    (h:∀args E av E',c.run (AV×APH Blk) args E (λv b=>some (v,b))=some (av,E')->Sr en fn (AV×APH Blk) args E (λv b=>some (v,b))=some (av,E')):Aq P f c where
 Zj:=hc
 snd args E av E' hr:=by
  obtain⟨h1,h2⟩:=ZT he hf (h args E av E' hr);refine⟨h1,λw g vs H hx o a next Q hn'=>?_⟩
  have:(callFunc f vs.toArray).run P w=.ok (.enter f vs.toArray) w:=by
   have zh:¬fn.name="runtime.NumGoroutine":=by grind
   have ki:¬fn.body=none:=by
    grind
   simp[callFunc,hf,zh,ki]
  rw[this];refine(h2 w g vs H hx).mono λe w' ⟨v,g',e1,hH,hv,BH⟩=>?_;subst e1;exact hn' v w' g' hH hv BH
theorem Aq.of2{f:FuncId}{fn:Func}(hf:P.funcs[f]?=some fn)(hn:(fn.name=="runtime.NumGoroutine")=false)(hb:fn.body.isNone=false){c:Callee}(hc:gk c)
    (h:∀args E av E',c.run (AV×APH Blk) args E (λv b=>some (v,b))=some (av,E')->∃en,IR P en/\Sr en fn (AV×APH Blk) args E (λv b=>some (v,b))=some (av,E')):Aq P f c where
 Zj:=hc
 snd args E av E' hr:=by
  obtain⟨en,he,h0⟩:=h args E av E' hr;obtain⟨h1,h2⟩:=ZT he hf h0;refine⟨h1,λw g vs H hx o a next Q hn'=>?_⟩
  have:(callFunc f vs.toArray).run P w=.ok (.enter f vs.toArray) w:=by
   have zh:¬fn.name="runtime.NumGoroutine":=by grind
   have ki:¬fn.body=none:=by
    grind
   simp[callFunc,hf,zh,ki]
  rw[this];refine(h2 w g vs H hx).mono λe w' ⟨v,g',e1,hH,hv,BH⟩=>?_;subst e1;exact hn' v w' g' hH hv BH
end
def WS(P:Program):Ty->TypeId->Bool
 |.int k,t=>match P.underlying t with |some (.int k')=>k==k' |_=>false
 |.bool,t=>match P.underlying t with |some .bool=>true |_=>false
 |.str,t=>match P.underlying t with |some .string=>true |_=>false
 |.sl u,t=>match P.underlying t with |some (.slice e)=>P.cellsOf e==u.size&&u.size !=0&&WS P u e |_=>false
 |.AE a b,t=>match P.underlying t with
  |some (.struct fs)=>P.cellsOf t==a.size+b.size&&(match fs.toList with |f::r=>f.offset==0&&P.cellsOf f.type==a.size&&WS P a f.type&&jS P b a.size r |[]=>false)
  |_=>false
 |_,_=>false
where jS (P:Program):Ty->Nat->APH Field->Bool
 |.AE a b,o,f::r=>f.offset==o&&P.cellsOf f.type==a.size&&WS P a f.type&&jS P b (o+a.size) r
 |.unit,_,[]=>true
 |_,_,_=>false
def Ty.Wf:(t:Ty)->t.V->Prop
 |.int k,n=>k.min<=n/\n<=k.max
 |.str,s=>s.size<=maxLen
 |.AE a b,x=>a.Wf x.1/\b.Wf x.2
 |.sl t,xs=>xs.length<=maxLen/\∀x∈xs,t.Wf x
 |_,_=>True
section
variable {P:Program} {H:Type} {enc:TypeId×Value->H} {w:World} {base:Nat} {sp:Nat->Bool} {held:Bool}
def vF(w:World)(b:Nat):Prop:=b<w.heap.size
theorem Uc{α β:Type}{f:α->APJ β}{x:α}{l:APH α}{r:APH β}(h:(x::l).mapM f=some r):∃y ys,f x=some y/\l.mapM f=some ys/\r=y::ys:=by
 cases hx:f x with
 |none=>grind
 |some y =>
  cases hl:l.mapM f with
  |none=>grind
  |some ys=>simp[hx,hl]at h;exact⟨y,ys,rfl,rfl,h.symm⟩
theorem lp(a:Addr)(k:Nat):(a.add k).block=a.block/\(a.add k).off=a.off+k:=by
 unfold Addr.add
 grind
theorem wq{a:Addr}{k:Nat}{v:Value}(h:w.cell? (a.add k)=some v):w.cell? ⟨a.block,a.off+k,none⟩=some v:=by
 unfold Addr.add at h;split at h
 ·rename_i hk;subst hk;cases a with
  |mk b o sp =>
   cases sp with
   |none=>grind
   |some q =>
    simp only[World.cell?,AMR]at h;split at h<;>cases h
 ·grind
theorem r5{u:Ty}{s:Nat}(hs:s=u.size){a:Addr}{F:APH Value->APJ (DataW H×APH MemPlace)}(ih:∀cs y,F cs=some y->∃x:u.V,HE w (vF w) u x cs/\u.Wf x) :
    ∀(n i:Nat) (ys:APH (DataW H×APH MemPlace)),(List.range' i n).mapM (λi=>(w.cells? base (a.add (i*s)) s).bind F)=some ys ->
     ∃(xs:APH u.V) (ds:APH Value),xs.length=n/\CH (HE w (vF w) u) xs ds/\(∀x∈xs,u.Wf x)/\∀j v,ds[j]?=some v->w.cell? ⟨a.block,a.off+i*s+j,none⟩=some v
 |0,i,ys,_=>⟨[],[],rfl,rfl,λ_ h=>by grind,λj v h=>by grind⟩
 |n+1,i,ys,h=>by
  obtain⟨y,ys',h1,h2,_⟩:=Uc h;obtain⟨c,hc,hF⟩:=Option.bind_eq_some_iff.1 h1;obtain⟨x,hx,hw⟩:=ih c y hF;obtain⟨_,HQ,DF⟩:=World.cells?_some hc;obtain⟨xs,ds,hl,hr,hwf,hd⟩:=r5 hs ih n (i+1) ys' h2;refine⟨x::xs,c++ds,by grind,⟨c,ds,rfl,hx,hr⟩,λz hz=>by
   grind,λj v hj=>?_⟩
  rw[AMw]at hj;split at hj
  ·rw[<-DF j (by omega)]at hj;have:=wq hj;rw[(lp _ _).1,(lp _ _).2]at this;exact this
  grind
theorem Akd:∀(ty:Ty),(∀(t:TypeId) (QP:Nat) (cs:APH Value) (y:DataW H×APH MemPlace),WS P ty t=true->DataW.trod enc P w base sp held QP t cs=some y->∃x:ty.V,HE w (vF w) ty x cs/\ty.Wf x) /\
    ∀(o QP:Nat) (fs:APH Field) (cs:APH Value) (ys:APH (DataW H×APH MemPlace)),WS.jS P ty o fs=true->fs.mapM (λf=>DataW.trod enc P w base sp held QP f.type ((cs.drop f.offset).take (P.cellsOf f.type)))=some ys->cs.length=o+ty.size ->
     ∃x:ty.V,HE w (vF w) ty x (cs.drop o)/\ty.Wf x:=by
 intro ty;induction ty with
 |int k =>
  refine⟨λt QP cs y hm h=>?_,λo QP fs cs ys hm=>by simp[WS.jS]at hm⟩;simp only[WS]at hm;split at hm
  ·rename_i k' hu;have:k=k':=by simpa using hm
   subst this;cases QP with
   |zero=>simp[DataW.trod]at h
   |succ n =>
    simp only[DataW.trod,hu]at h;split at h<;>try (rename_i he;cases he;done)
    all_goals try (cases h;done)
    all_goals try (rename_i he _;cases he;done)
    rename_i k1 k2 n2 he;injection he with he;injection he with he;subst he;split at h
    ·rename_i hc;obtain⟨hk,hwf⟩:=hc;subst hk;simp only[Lit.wf,AMd,ANj]at hwf;exact⟨n2,rfl,hwf⟩
    ·cases h
  ·cases hm
 |bool =>
  refine⟨λt QP cs y hm h=>?_,λo QP fs cs ys hm=>by simp[WS.jS]at hm⟩;simp only[WS]at hm;split at hm
  ·rename_i hu;cases QP with
   |zero=>simp[DataW.trod]at h
   |succ n =>
    simp only[DataW.trod,hu]at h;split at h<;>try (rename_i he;cases he;done)
    all_goals try (cases h;done)
    all_goals try (rename_i he _;cases he;done)
    rename_i b he;exact⟨b,rfl,trivial⟩
  ·cases hm
 |str =>
  refine⟨λt QP cs y hm h=>?_,λo QP fs cs ys hm=>by simp[WS.jS]at hm⟩;simp only[WS]at hm;split at hm
  ·rename_i hu;cases QP with
   |zero=>simp[DataW.trod]at h
   |succ n =>
    simp only[DataW.trod,hu]at h;split at h<;>try (rename_i he;cases he;done)
    all_goals try (cases h;done)
    all_goals try (rename_i he _;cases he;done)
    rename_i s he;split at h
    ·rename_i hc;exact⟨s,rfl,hc⟩
    ·cases h
  ·cases hm
 |unit =>
  refine⟨λt QP cs y hm=>by simp[WS]at hm,λo QP fs cs ys hm h hl=>?_⟩;refine⟨(),?_,trivial⟩;show cs.drop o=[];rw[List.drop_eq_nil_iff];simp only[Ty.size]at hl;omega
 |QV z=>exact⟨λt QP cs y hm=>by simp[WS]at hm,λo QP fs cs ys hm=>by simp[WS.jS]at hm⟩
 |sl u ih =>
  refine⟨λt QP cs y hm h=>?_,λo QP fs cs ys hm=>by simp[WS.jS]at hm⟩;simp only[WS]at hm;split at hm
  ·rename_i e hu;simp only[AMd,ANf,ANy]at hm;obtain⟨⟨Mv,BU⟩,hm⟩:=hm;cases QP with
   |zero=>simp[DataW.trod]at h
   |succ n =>
    simp only[DataW.trod,hu]at h;split at h<;>try (rename_i he;cases he;done)
    all_goals try (cases h;done)
    all_goals try (rename_i he _;cases he;done)
    all_goals try (rename_i he _ _;cases he;done)
    ·exact⟨[],⟨none,0,[],rfl,AMc _,rfl,.inl rfl⟩,AMS _,λx hx=>by(cases hx)⟩
    ·rename_i e' a len cap he;injection he with he;injection he with he;subst he;split at h
     ·rename_i hc;obtain⟨elems,UF,_⟩:=Option.bind_eq_some_iff.1 h;rw[List.range_eq_range']at UF;obtain⟨xs,ds,hxl,hr,hwf,hd⟩:=r5 (u:=u) Mv (λcs y hy=>ih.1 e n cs y hm hy) len 0 elems UF;subst hxl;refine⟨xs,⟨some a,cap,ds,rfl,hc.2.1,hr,?_⟩,AMA hc.2.1 hc.2.2,hwf⟩;cases xs with
      |nil=>exact .inl rfl
      |cons x xs =>
       refine .inr ?_;rw[ANe,List.range'_succ]at UF;obtain⟨y1,_,h1,_,_⟩:=Uc UF;obtain⟨c,PQ,_⟩:=Option.bind_eq_some_iff.1 h1;obtain⟨_,HQ,DF⟩:=World.cells?_some PQ;have Hf:=DF 0 (by omega);have XO:a.spot=none/\vF w a.block:=by
        have XK:∃v,c[0]?=some v:=⟨_,ANd (by omega)⟩;obtain⟨v,hv⟩:=XK;rw[hv]at Hf;have Hf:w.cell? a=some v:=by simpa [Addr.add]using Hf
        refine⟨?_,World.block_lt_of_cell? w a Hf⟩;cases XO:a.spot with
        |none=>rfl
        |some q =>
         unfold World.cell? at Hf;rw[XO]at Hf;split at Hf
         ·simp at Hf
         ·cases Hf
       refine⟨a.block,a.off,?_,XO.2,λj v hj=>by simpa using hd j v hj⟩;cases a with
       |mk b o sp=>simp only at XO;rw[XO.1]
     ·cases h
  ·cases hm
 |AE a b iha ihb =>
  have main:∀(o QP:Nat) (f:Field) (r:APH Field) (cs:APH Value) (ys:APH (DataW H×APH MemPlace)),f.offset=o->P.cellsOf f.type=a.size->WS P a f.type=true->WS.jS P b (o+a.size) r=true ->
      (f::r).mapM (λf=>DataW.trod enc P w base sp held QP f.type ((cs.drop f.offset).take (P.cellsOf f.type)))=some ys->cs.length=o+(a.size+b.size)->∃x:(Ty.AE a b).V,HE w (vF w) (.AE a b) x (cs.drop o)/\(Ty.AE a b).Wf x:=by
   intro o QP f r cs ys ho Mv hma hmb h hl;obtain⟨y,ys',h1,h2,_⟩:=Uc h;rw[ho,Mv]at h1;obtain⟨xa,hra,hwa⟩:=iha.1 f.type QP _ y hma h1;obtain⟨xb,hrb,hwb⟩:=ihb.2 (o+a.size) QP r cs ys' hmb h2 (by omega);refine⟨(xa,xb),⟨_,_,?_,hra,hrb⟩,hwa,hwb⟩;rw[<-List.drop_drop];exact(ANm a.size (cs.drop o)).symm
  refine⟨λt QP cs y hm h=>?_,λo QP fs cs ys hm h hl=>?_⟩
  ·simp only[WS]at hm;split at hm
   ·rename_i fs hu;rw[AMd]at hm;obtain⟨Mv,hm⟩:=hm;have Mv:P.cellsOf t=a.size+b.size:=by simpa using Mv
    split at hm
    ·rename_i f r hfs;simp only[AMd,ANf]at hm;obtain⟨⟨⟨h1,h2⟩,h3⟩,h4⟩:=hm;cases QP with
     |zero=>simp[DataW.trod]at h
     |succ n =>
      have BH:(if cs.length=P.cellsOf t then(fs.toList.mapM λf=>DataW.trod enc P w base sp held n f.type ((cs.drop f.offset).take (P.cellsOf f.type))).map λxs=>((.agg (xs.map (·.1)):DataW H),xs.flatMap (·.2))else none)=some y:=by
       simp only[DataW.trod,hu]at h;exact h
      split at BH
      ·rename_i HQ;cases hq:fs.toList.mapM λf=>DataW.trod enc P w base sp held n f.type ((cs.drop f.offset).take (P.cellsOf f.type))with
       |none=>rw[hq]at BH;cases BH
       |some ys =>
        rw[hfs]at hq;have:=main 0 n f r cs ys h1 h2 h3 (by rw[AMC];exact h4) hq (by omega);simpa using this
      ·cases BH
    ·cases hm
   ·cases hm
  ·cases fs with
   |nil=>simp[WS.jS]at hm
   |cons f r =>
    simp only[WS.jS,AMd,ANf]at hm;obtain⟨⟨⟨h1,h2⟩,h3⟩,h4⟩:=hm;exact main o QP f r cs ys h1 h2 h3 h4 h hl
end
def VJ:APH Ty->Type
 |[]=>Unit
 |t::ts=>t.V×VJ ts
def VJ.av:(ts:APH Ty)->VJ ts->APH AV
 |[],_=>[]
 |t::ts,x=>.AB [] t x.1::VJ.av ts x.2
def VJ.Wf:(ts:APH Ty)->VJ ts->Prop
 |[],_=>True
 |t::ts,x=>t.Wf x.1/\VJ.Wf ts x.2
def G.mJ(w:World):G:=⟨λb=>if b<w.heap.size then .Ir else .no,λ_=>⟨none,0,0,0⟩⟩
section
variable {P:Program} {H:Type} {enc:TypeId×Value->H} {w:World} {base:Nat} {sp:Nat->Bool} {held:Bool}
theorem Aky{ty:Ty}{t:TypeId}{v:Value}{x:ty.V}(hm:WS P ty t=true)(hf:v.formed P t=true)(hr:HE w (vF w) ty x v.cells.toList):Cr ty.isAgg v.cells.toList v:=by
 cases ty with
 |AE a b =>
  simp only[WS]at hm;split at hm
  ·rename_i fs hu;unfold Value.formed at hf;split at hf
   ·simp[Cr,Ty.isAgg,Value.cells]
   ·grind
   ·grind
  ·grind
 |int k =>
  simp only[WS]at hm;split at hm
  ·cases v<;>simp_all [Cr,Ty.isAgg,Value.cells,Value.formed]
  ·grind
 |bool =>
  simp only[WS]at hm;split at hm
  ·cases v<;>simp_all [Cr,Ty.isAgg,Value.cells,Value.formed]
  ·grind
 |str =>
  simp only[WS]at hm;split at hm
  ·cases v<;>simp_all [Cr,Ty.isAgg,Value.cells,Value.formed]
  ·grind
 |sl u =>
  simp only[WS]at hm;split at hm
  ·cases v<;>simp_all [Cr,Ty.isAgg,Value.cells,Value.formed]
  ·grind
 |unit=>simp[WS]at hm
 |QV z=>simp[WS]at hm
end
section
variable {P:Program} {H:Type} {enc:TypeId×Value->H}
open Go.ChangeShapes Go.WideShapes Go.ChangeAt Go.RowKit
theorem Zp{w w':World}{base:Nat}{sp:Nat->Bool}{held:Bool}:∀{ts:APH TypeId} {vs:APH Value} {ds:APH (DataW H)} {ps:APH MemPlace},DataW.TrodAll enc P w base sp held ts vs ds ps->(∀p∈ps,w.sameAt w' p)->DataW.TrodAll enc P w' base sp held ts vs ds ps
 |[],[],[],_,h,_=>h
 |_::_,_::_,_::_,_,⟨p,q,⟨n,h1⟩,h2,e⟩,hs=>⟨p,q,⟨n,DataW.trod_carry n _ _ _ h1 λx hx=>hs x (by grind)⟩,Zp h2 (λx hx=>hs x (by grind)),e⟩
theorem AfN{f:Func}{s:ChangeSpec}{BZ handsOn:Bool}{W W':World}{args:Array Value}{ds gs:APH (DataW H)}{before:APH MemPlace}(hW:DataW.Whole enc P f.params.toList s.vars false W args.toList ds gs before)(hv:s.vars=[])
    (Afx:gs=[]->s.fn H (ds++gs)={results:=[.lit (.bool true)],args:=ds}) {tb:TypeId} (hrt:f.resultTypes=#[tb]) (hub:P.underlying tb=some .bool) (Y0:∀b,b<W.heap.size->W'.heap[b]?=W.heap[b]?) (hos:W'.os=W.os) (AGb:W'.output=W.output)
    (K:Kids P (·<P.types.size)) (hz:∀t e,t<P.types.size->P.underlying t=some (.slice e)->0<P.cellsOf e) (ht:∀t∈f.params.toList,t<P.types.size):s.post enc P f false BZ handsOn false W args (.bool true) W':=by
 have Bm:=hW.lt;obtain⟨p,q,hA,hV,hpq,hfz,RH⟩:=id hW;rw[hv]at hV;obtain⟨rfl,rfl⟩:=trodVars_none hV;have XO:=Afx rfl;rw[AML]at hpq XO;subst hpq;have same:∀x∈before,W.sameAt W' x:=λx hx=>by
  have hb:=Y0 x.block (Bm x hx);cases x with
  |cell b off=>simp only[World.sameAt,World.cell?];simp only[MemPlace.block]at hb;rw[hb]
  |map b=>exact hb
 have iI:=Zp hA same;have sZ:∀sp:Nat->Bool,(∀x∈before,sp x.block=true)->DataW.TrodAll enc P W' 0 sp true f.params.toList args.toList ds before:=λsp hs=>iI.respare K hz ht hs;have bf:∀(b:Nat) (sp:Nat->Bool) (hd:Bool),DataW.TrodAll enc P W' b sp hd f.resultTypes.toList ((Value.bool true).resultList f.resultTypes.size) [.lit (.bool true)] []:=λb sp hd=>by
  rw[hrt];exact trodAll_cons_mk (shut_bool hub _) trodAll_mk0
 have Aly:∀x∈before,(λb=>decide (b<W.heap.size)) x.block=true:=λx hx=>by grind
 refine⟨ds,[],before,[],before,[],hW,?_,?_,?_,⟨hos,AGb,λi hi=>?_⟩,λh=>by grind⟩
 ·grind
 ·grind
 ·rw[hv];rw[AML,XO];rfl
 grind
def qB(P:Program):APH Ty->APH TypeId->Bool
 |[],[]=>true
 |ty::tys,t::ts=>WS P ty t&&qB P tys ts
 |_,_=>false
theorem lC{w:World}{base:Nat}{sp:Nat->Bool}{held:Bool}:∀{tys:APH Ty} {ts:APH TypeId} {vs:APH Value} {ds:APH (DataW H)} {ps:APH MemPlace},qB P tys ts=true->DataW.TrodAll enc P w base sp held ts vs ds ps ->
    (∀(j:Nat) t v,ts[j]?=some t->vs[j]?=some v->v.formed P t=true)->∃xs:VJ tys,VJ.Wf tys xs/\Dz w (G.mJ w) 0 (VJ.av tys xs) vs
 |[],[],[],[],_,_,_,_=>⟨(),trivial,trivial⟩
 |ty::tys,t::ts,v::vs,d::ds,_,hm,⟨p,q,⟨n,h1⟩,h2,_⟩,hf=>by
  simp only[qB,AMd]at hm;obtain⟨x,hr,hw⟩:=(Akd ty).1 t n _ _ hm.1 h1;obtain⟨xs,hws,ha⟩:=lC hm.2 h2 λj t v h3 h4=>hf (j+1) t v (by grind) (by grind);refine⟨(x,xs),⟨hw,hws⟩,Bs rfl  ⟨λk hk=>by grind,hr.mono λb hb=>⟨.inl ?_,rfl⟩⟩ (Aky hm.1 (hf 0 t v rfl rfl) hr),ha⟩;have hb:b<w.heap.size:=hb;simp[G.mJ,hb]
 |[],_::_,_,_,_,hm,_,_=>by simp[qB]at hm
 |_::_,[],_,_,_,hm,_,_=>by simp[qB]at hm
 |[],[],_::_,_,_,_,h,_=>by simp[DataW.TrodAll]at h
 |[],[],[],_::_,_,_,h,_=>by simp[DataW.TrodAll]at h
 |_::_,_::_,[],_,_,_,h,_=>by simp[DataW.TrodAll]at h
 |_::_,_::_,_::_,[],_,_,h,_=>by simp[DataW.TrodAll]at h
theorem Agd(w:World):Bf w (G.mJ w) []:=⟨λb hb=>by simp[G.mJ];omega,λk x hx=>by grind⟩
theorem Abg{en:Gx}(he:IR P en){f:FuncId}{fn:Func}(hf:P.funcs[f]?=some fn){av:APH AV}{w:World}{vs:APH Value}(D8:Sr en fn (AV×APH Blk) av [] (λv b=>some (v,b))=some (.bool true,[]))(ha:Dz w (G.mJ w) 0 av vs) :
    Calls P f vs.toArray w λe w'=>e=.returned (.bool true)/\(∀b,b<w.heap.size->w'.heap[b]?=w.heap[b]?)/\w'.os=w.os/\w'.output=w.output:=by
 refine((ZT he hf D8).2 w _ vs (Agd w) ha).mono λe w' ⟨v,g',e1,_,hv,st⟩=>?_;have:=R3 hv;subst this;exact⟨e1,λb hb=>(st.Ir b (by simp[G.mJ,hb])).2,st.os,st.output⟩
theorem sw{ty:Ty}{t:TypeId}{v:Value}{w:World}{r:Reach}{base:Nat}(hm:WS P ty t=true)(h:Value.okWide P w r base t v):v.formed P t=true:=by
 unfold Value.okWide at h;cases ty with
 |AE a b =>
  simp only[WS]at hm;split at hm
  ·rename_i fs hu;rw[hu]at h;obtain⟨cs,rfl,hs,_⟩:=h;simp[Value.formed,hu,hs]
  ·cases hm
 |int k =>
  simp only[WS]at hm;split at hm
  ·rename_i k' hu;rw[hu]at h;cases v<;>simp_all [Value.formed,Cell.okWide,Cell.ok]
  ·cases hm
 |bool =>
  simp only[WS]at hm;split at hm
  ·rename_i hu;rw[hu]at h;cases v<;>simp_all [Value.formed,Cell.okWide,Cell.ok]
  ·cases hm
 |str =>
  simp only[WS]at hm;split at hm
  ·rename_i hu;rw[hu]at h;cases v<;>simp_all [Value.formed,Cell.okWide,Cell.ok]
  ·cases hm
 |sl u =>
  simp only[WS]at hm;split at hm
  ·rename_i e hu;rw[hu]at h;cases v<;>simp_all [Value.formed,Cell.okWide,Cell.ok]
  ·cases hm
 |unit=>simp[WS]at hm
 |QV z=>simp[WS]at hm
theorem law_contract{en:Gx}(he:IR P en){f:FuncId}{fn:Func}(hf:P.funcs[f]?=some fn){tys:APH Ty}(hm:qB P tys fn.params.toList=true){s:ChangeSpec}(hv:s.vars=[]){tb:TypeId}(hrt:fn.resultTypes=#[tb])(hub:P.underlying tb=some .bool)
    (K:Kids P (·<P.types.size)) (hz:∀t e,t<P.types.size->P.underlying t=some (.slice e)->0<P.cellsOf e) (ht:∀t∈fn.params.toList,t<P.types.size)
    {W:World} {base:Nat} {args:Array Value} {ds gs:APH (DataW H)} {before:APH MemPlace} (Afx:gs=[]->s.fn H (ds++gs)={results:=[.lit (.bool true)],args:=ds})
    (hval:∀(j:Nat) t v,fn.params[j]?=some t->args[j]?=some v->Value.okWide P W .any base t v) (hW:DataW.Whole enc P fn.params.toList s.vars false W args.toList ds gs before)
    (D8:∀xs:VJ tys,VJ.Wf tys xs->Sr en fn (AV×APH Blk) (VJ.av tys xs) [] (λv b=>some (v,b))=some (.bool true,[])) {BZ handsOn:Bool} :
    Calls P f args W λe W'=>∃v,e=.returned v/\s.post enc P fn false BZ handsOn false W args v W':=by
 obtain⟨p,q,hA,_⟩:=id hW;have Za:∀(j:Nat) t v,fn.params.toList[j]?=some t->args.toList[j]?=some v->v.formed P t=true:=λj t v h1 h2=>by
  rw[AMk]at h1 h2;have key:∀(tys:APH Ty) (ts:APH TypeId) (j:Nat),qB P tys ts=true->ts[j]?=some t->∃ty,WS P ty t=true:=by
   intro tys;induction tys with
   |nil=>intro ts j hm hj;cases ts<;>simp_all [qB]
   |cons ty tys ih =>
    intro ts j hm hj;cases ts with
    |nil=>grind
    |cons u ts =>
     simp only[qB,AMd]at hm
     grind
  obtain⟨ty,fM⟩:=key tys fn.params.toList j hm (by grind);exact sw fM (hval j t v h1 h2)
 obtain⟨xs,hwf,ha⟩:=lC hm hA Za;have:=Abg he hf (D8 xs hwf) ha;refine this.mono λe W' ⟨e1,h1,h2,h3⟩=>⟨_,e1,AfN hW hv Afx hrt hub h1 h2 h3 K hz ht⟩
end
theorem AfV{A B:Type}(f:A->B)(c:Prop)[Decidable c](x:APJ A):(if c then none else x).map f=if c then none else x.map f:=by split<;>rfl
theorem AfU{A B C D:Type}(f:C->D)(g:A->APJ C)(h:B->APJ C)(y:A⊕B):(Sum.elim g h y).map f=Sum.elim (λa=>(g a).map f) (λb=>(h b).map f) y:=by cases y<;>rfl
theorem Aaw{A B:Type}(k:A->APJ B)(c:Bool)(x y:APJ A):(bif c then x else y).bind k=bif c then x.bind k else y.bind k:=by cases c<;>rfl
theorem Adl{A B:Type}(k:A->APJ B)(c:Prop)[Decidable c](x y:APJ A):(if c then x else y).bind k=if c then x.bind k else y.bind k:=by split<;>rfl
theorem Aay{A B:Type}(k:A->APJ B)(c:Prop)[Decidable c](x:APJ A):(if c then none else x).bind k=if c then none else x.bind k:=by split<;>rfl
theorem Aax{A B C D:Type}(k:C->APJ D)(g:A->APJ C)(h:B->APJ C)(y:A⊕B):(Sum.elim g h y).bind k=Sum.elim (λa=>(g a).bind k) (λb=>(h b).bind k) y:=by cases y<;>rfl
theorem HF(s:St):kx s s=some ():=by simp[kx]
def code(f:Func):Code:=(f.body).getD .skip
def AsS:Code->Array Oper
 |.region _ B9 _=>B9
 |_=>#[]
def Acs(P:Program):APH (Nat×Callee)->Prop
 |[]=>True
 |(n,c)::r=>Aq P n c/\Acs P r
theorem AeS{P:Program}:∀{l:APH (Nat×Callee)},Acs P l->∀g c,N3 l g=some c->Aq P g c
 |[],_,_,_,h=>by cases h
 |(n,c)::r,⟨h1,h2⟩,g,c',h=>by
  simp only[N3]at h;split at h
  ·rename_i e;have e:n=g:=by simpa using e
   subst e;injection h with h;subst h;exact h1
  ·exact AeS h2 g c' h
def Zz(e:Nat)(t:Ty)(bytes:Nat):Callee:={mA:=[.d (.sl t)],run:=λR avs E K=>match avs,E with
    |[.AB [] u xs],[]=>match IU u (.sl t) xs with
     |some xs=>if xs.length*bytes<=140737488355328 then K (.AG 0) [.row e (if t.BP then .Aw else .sh []) t xs]else none
     |_=>none
    |_,_=>none}
end Go.Va
