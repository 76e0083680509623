import Derived.OrdersHeld
import Derived.WalkKit
import Derived.ProofKit
import Derived.OpenShut
import Derived.JoinedCond
import Derived.ReadAgain
import Derived.Shelf.SortG.Plain
import Derived.Shelf.SortG.SortNone
import Derived.Shelf.SlicesG.CompactI
import Derived.KernelRfl
import Derived.Test.YtlohhmmaibiimaaGreatK2
set_option linter.unusedVariables false
set_option linter.unusedSimpArgs false
namespace Go.Va
theorem uY{w:World}{g:G}{n:Nat}{σ:St}{a:Act}{BW:Array Oper}{o:Oper}{b:Bool}(h:Want BW.toList σ o b)(hlen:σ.AJ.length=a.tmps.size)
    (hs:∀k∈o.looksAt BW,∀x,σ.AJ[k]?=some x->BR w g n x (a.tmps.getD k undef)):Region.wanted o (yielded BW a.tmps)=b:=by
 cases h with
 |plain h=>simp[Region.wanted,h]
 |@guard g0 aQ d b h hd hb =>
  rw[AG9]at hd;have hk:d∈o.looksAt BW:=AHu _ (by simp[h,hd]);have h1:=QZ (hs d hk _ hb);have hl:d<a.tmps.size:=by rw[<-hlen];exact AP hb
  have h2:a.tmps[d]?=some (.bool b):=by
   rw[Array.getElem?_eq_getElem hl];rw[Array.getD_eq_getD_getElem?,Array.getElem?_eq_getElem hl]at h1;exact congrArg some h1
  simp[Region.wanted,h,yielded,hd,h2]
 |@nil g0 aQ d h hd hb =>
  rw[AG9]at hd;have hk:d∈o.looksAt BW:=AHu _ (by simp[h,hd]);have h1:a.tmps.getD d undef=.tuple #[]:=hs d hk _ hb;have hl:d<a.tmps.size:=by rw[<-hlen];exact AP hb
  have h2:a.tmps[d]?=some (.tuple #[]):=by
   rw[Array.getElem?_eq_getElem hl];rw[Array.getD_eq_getD_getElem?,Array.getElem?_eq_getElem hl]at h1;exact congrArg some h1
  simp[Region.wanted,h,yielded,hd,h2]
section
variable {P:Program} {en:Bd} {BW:Array Oper} {A:List (Nat×List Nat)} {N m:Nat} {done M5:List Nat} {HS B6 post:List Ib} {t:Ib} {σ σ1:St} {a0 a:Act} {w0 w:World} {g0 g:G} {D D':Nat->Bool} {Q:Exit->Act->World->Prop}
theorem Inv.op(he:EnvOk P en)(Ui:Inv P A N done HS σ m a0 w0 g0 D a w g)(aH:Tr en BW.toList A done M5 σ HS σ1)(Ro:∀u∈HS,u.ft=false)(Ql:HS=B6++t::post)(Qm:D t.i=false)(UE:∀x∈DV A t.i,D x=true)
    (XD:∀u∈B6,u.i∈DV A t.i\/u.o.apart BW t.o=true) (Z2:∀u∈post,t.i∈DV A u.i\/t.o.apart BW u.o=true)
    (h0:∀(i:Nat) (x:AV),σ.AJ[i]?=some x->∀k∈x.Cf,k<σ.Am.length) (fI:Uw σ.Am) (hm:m<=σ.Am.length)
    (nS:∀i,D' i=if i=t.i then true else D i) (hnp:∀u∈B6,u.i≠t.i) (hnq:∀u∈post,u.i≠t.i) {K:Act->World->Prop}
    (hK:∀a' w' g',Inv P A N done HS σ m a0 w0 g0 D' a' w' g'->K a' w'):wpOp P BW Q t.i K a w:=by
 obtain⟨⟨l,hl,_,hlg⟩,hsc,hlen,Vi,hgp,hB,Iz⟩:=Ui.find he aH Ro Ql Qm UE XD Z2 h0 fI;have Zs:t.Ok en BW.toList:=aH.Aco t (by rw[Ql];simp);obtain⟨l1,e1,e2,e3,_⟩:=Yn he Zs (Ro t (by rw[Ql];simp));have ho:BW[t.i]?=some t.o:=by rw[<-AG9];exact Zs.1
 have AbH:∀k∈t.o.looksAt BW,∀x,t.σ.AJ[k]?=some x->BR w g (G3 D HS σ.Am).length x (a.tmps.getD k undef):=λk hk x hx=>(Iz k hk x hx).1;have kn:=Zs.2;unfold wpOp;simp only[ho];cases hq:t.e with
 |none =>
  rw[hq]at kn;rw[uY kn hlen AbH];simp only[Bool.false_eq_true,if_false];have hg:t.grow=false:=by simp[Ib.grow,hq]
  have hval:t.val=.nil:=by simp[Ib.val,hq]
  have R9:=e2 hg;subst R9;refine hK _ _ g (Ui.next he aH Ro Ql Qm UE XD Z2 h0 fI hm nS hnp hnq hl e1 hlg e2 ?_ ?_ ?_ (Step.refl _ _ _ _))
  ·rw[AHA,<-hl];exact Ui.heap
  ·rw[hval];exact(show BR _ _ _ .nil undef from rfl)
  ·rw[hval];intro k hk;cases hk
 |some e =>
  rw[hq]at kn;rw[uY kn.1 hlen AbH];simp only[if_true];obtain⟨AwT,Az1⟩:=e3 e hq;have hval:t.val=e.val:=by simp[Ib.val,hq]
  have O4:MP P (oO BW t.o t.σ) t.o e:=Q2 he (by rw[wC];exact kn.2);refine .inl (w8 O4 AwT (l:=l) (l':=l1) Az1 ?_ (w:=w) (g:=g) ?_ hsc (by simp only[oO,Zu];exact hlen) (λi x hx=>?_) λv w' g' H' hv P1 st=>?_)
  ·cases hg:t.grow with
   |true=>exact .inl (hlg hg)
   |false=>exact .inr (e2 hg)
  ·show Bc w g (t.σ.Am++l);rw[<-hl];exact Ui.heap
  ·show BR w g (t.σ.Am++l).length x _/\∀k∈x.Cf,k<t.σ.Am.length;rw[<-hl];by_cases hi:i∈t.o.looksAt BW
   ·simp only[oO]at hx;rw[Zv (j:=0) (by simpa using hi)]at hx;exact Iz i hi x hx
   ·have:=ik (j:=0) (by simpa using hi) hx;subst this;exact⟨PX,λk hk=>by cases hk⟩
  ·refine hK _ _ g' (Ui.next he aH Ro Ql Qm UE XD Z2 h0 fI hm nS hnp hnq hl e1 hlg e2 H' (by rw[hval];exact hv) (by rw[hval,gR hq];exact P1) ?_);rw[hl];exact st
def BK(listed:Array Bool)(i:Nat):Bool:=listed.getD i false
theorem uz{listed:Array Bool}{i:Nat}(hi:i<listed.size)(j:Nat):BK (listed.setIfInBounds i true) j=if j=i then true else BK listed j:=by
 unfold BK;by_cases h:j=i
 ·subst h;simp[hi]
 ·rw[AHe h,getD_set_ne false (Ne.symm h)]
theorem SN{listed:Array Bool}(hs:listed.size=BW.size){i:Nat}:i∈Region.ready .any BW listed↔i<BW.size/\BK listed i=false/\∀d∈Sj BW.toList i,BK listed d=true:=by
 rw[mem_ready];constructor
 ·rintro⟨h1,o,ho,h2⟩
  have hi:i<BW.size:=(Array.getElem?_eq_some_iff.1 ho).1;refine⟨hi,?_,λd hd=>?_⟩
  ·unfold BK;have rB:i<listed.size:=by omega
   simpa [Array.getD_eq_getD_getElem?,rB]using h1
  ·unfold Sj at hd;rw[AG9,ho]at hd;obtain⟨e,he,hd⟩:=List.mem_filterMap.1 hd;split at hd
   ·rename_i hb;injection hd with hd;subst hd;exact h2 e (by simpa using he) hb
   ·cases hd
 ·rintro⟨hi,h1,h2⟩
  have rB:i<listed.size:=by omega
  refine⟨?_,BW[i],Array.getElem?_eq_getElem hi,λe he hb=>?_⟩
  ·unfold BK at h1;simpa [Array.getD_eq_getD_getElem?,rB]using h1
  ·refine h2 e.on ?_;unfold Sj;rw[AG9,Array.getElem?_eq_getElem hi];exact List.mem_filterMap.2 ⟨e,by simpa using he,by rw[AHd hb]⟩
def left(D:Nat->Bool)(HS:List Ib):Nat:=(HS.filter λu=>!D u.i).length
theorem wx(Ql:HS=B6++t::post)(Qm:D t.i=false)(nS:∀i,D' i=if i=t.i then true else D i)(hnp:∀u∈B6,u.i≠t.i)(hnq:∀u∈post,u.i≠t.i):left D HS=left D' HS+1:=by
 have dY:∀(l:List Ib),(∀u∈l,u.i≠t.i)->l.filter (λu=>!D u.i)=l.filter λu=>!D' u.i:=λl h=>List.filter_congr λu hu=>by rw[nS,AHe (h u hu)]
 subst Ql;unfold left;rw[List.filter_append,List.filter_append,List.filter_cons,List.filter_cons,dY B6 hnp,dY post hnq,Qm,show D' t.i=true by rw[nS];simp];simp;omega
end
theorem wy{D:Nat->Bool}{HS:List Ib}(h:left D HS=0):∀u∈HS,D u.i=true:=λu hu=>by
 have:=List.eq_nil_of_length_eq_zero h;cases hd:D u.i with
 |true=>rfl
 |false =>
  have hm:u∈HS.filter λu=>!D u.i:=List.mem_filter.2 ⟨hu,by simp[hd]⟩;rw[this]at hm;cases hm
theorem nH{D:Nat->Bool}:∀{HS:List Ib},left D HS≠0->∃B6 t post,HS=B6++t::post/\D t.i=false/\∀u∈B6,D u.i=true
 |[],h=>(h rfl).elim
 |u::HS,h=>by
  cases hd:D u.i with
  |false=>exact⟨[],u,HS,rfl,hd,λ_ hu=>by cases hu⟩
  |true =>
   have:left D HS≠0:=by
    unfold left at h⊢;rw[List.filter_cons,hd]at h;simpa using h
   obtain⟨B6,t,post,e,h1,h2⟩:=nH this;exact⟨u::B6,t,post,by rw[e];rfl,h1,λv hv=>by
    rcases List.mem_cons.1 hv with rfl |hv
    ·exact hd
    ·exact h2 v hv⟩
section
variable {P:Program} {en:Bd} {BW:Array Oper} {A:List (Nat×List Nat)} {m:Nat} {Q:Exit->Act->World->Prop} {a0:Act} {w0:World} {g0:G}
theorem oQ{HS B6 post:List Ib}{t:Ib}(h:(HS.map (·.i)).Nodup)(Ql:HS=B6++t::post):(∀u∈B6,u.i≠t.i)/\∀u∈post,u.i≠t.i:=by
 subst Ql;rw[List.map_append,List.map_cons,List.nodup_append]at h;obtain⟨_,h2,h3⟩:=h;rw[List.nodup_cons]at h2;exact⟨λu hu=>h3 u.i (List.mem_map.2 ⟨u,hu,rfl⟩) t.i (by simp),λu hu e=>h2.1 (List.mem_map.2 ⟨u,hu,e⟩)⟩
theorem AcI(he:EnvOk P en)(hA:gl BW.toList A){done M5:List Nat}{HS:List Ib}{σ σ1:St}(aH:Tr en BW.toList A done M5 σ HS σ1)(Ro:∀u∈HS,u.ft=false)(R:List Nat)
    (da:∀i,i<BW.size->i∈done\/(∃u∈HS,u.i=i)\/i∈R) (Bj:∀u∈HS,u.i<BW.size) (QJ:(HS.map (·.i)).Nodup)
    (VX:∀B6 t post,HS=B6++t::post->∀u∈post,t.i∈DV A u.i\/t.o.apart BW u.o=true) (Z4:∀B6 t post,HS=B6++t::post->∀d∈Sj BW.toList t.i,d∈done\/∃u∈B6,u.i=d)
    (hR:∀i∈R,∀D:Nat->Bool,bJ A D->(∀x∈DV A i,D x=true)->(∀r∈R,D r=false)->∀u∈HS,D u.i=true) (hRd:∀r∈R,r∉done/\∀u∈HS,u.i≠r)
    (h0:∀(i:Nat) (x:AV),σ.AJ[i]?=some x->∀k∈x.Cf,k<σ.Am.length) (fI:Uw σ.Am) (hm:m<=σ.Am.length)
    (cont:∀(listed:Array Bool) (a:Act) (w:World) (g:G),listed.size=BW.size->(∀i∈done,BK listed i=true)->(∀u∈HS,BK listed u.i=true)->(∀r∈R,BK listed r=false)->bJ A (BK listed)->JZ w g σ1 a->Bu m w0 g0 w g->a.defers=a0.defers ->
     wpAny P .any BW Q R.length listed a w) :
    ∀(n:Nat) (listed:Array Bool) (a:Act) (w:World) (g:G),listed.size=BW.size->left (BK listed) HS=n->Inv P A BW.size done HS σ m a0 w0 g0 (BK listed) a w g->wpAny P .any BW Q (n+R.length) listed a w
 |0,listed,a,w,g,hs,hn,Ui=>by
  have kj:=wy hn;obtain⟨h1,h2,_⟩:=aH.gq he Ro;have hR0:∀r∈R,BK listed r=false:=λr hr=>by
   cases hd:BK listed r with
   |false=>rfl
   |true =>
    rcases Ui.only r hd with h |⟨u,hu,e⟩
    ·exact((hRd r hr).1 h).elim
    ·exact((hRd r hr).2 u hu e).elim
  have hB:G3 (BK listed) HS σ.Am=σ1.Am:=by rw[Xr λu hu _=>kj u hu,<-h2]
  rw[AHr];refine cont listed a w g hs Ui.ru kj hR0 Ui.cx ⟨by rw[<-hB];exact Ui.heap,by rw[h1,Yi];exact Ui.len,λi x hx=>?_⟩ Ui.step Ui.dfr;rw[<-hB];refine Ui.AJ i x ?_;rw[Xt (λu hu hd=>by rw[kj u hu]at hd;cases hd) rfl,<-h1];exact hx
 |n+1,listed,a,w,g,hs,hn,Ui=>by
  obtain⟨B6,t,post,Ql,Qm,AbD⟩:=nH (D:=BK listed) (HS:=HS) (by rw[hn];simp);rw[show n+1+R.length=(n+R.length)+1 by omega];have Axf:t.i∈Region.ready .any BW listed:=(SN hs).2 ⟨Bj t (by rw[Ql];simp),Qm,λd hd=>by
   rcases Z4 B6 t post Ql d hd with h |⟨u,hu,e⟩
   ·exact Ui.ru d h
   ·rw[<-e];exact AbD u hu⟩
  refine⟨λh=>by(rw[h]at Axf;cases Axf),λi hi=>?_⟩;obtain⟨hil,uh,W4⟩:=(SN hs).1 hi;have UE:=iW hA Ui.cx W4;rcases da i hil with h |⟨u,hu,rfl⟩|h
  ·rw[Ui.ru i h]at uh;cases uh
  ·obtain⟨p1,p2,Vj⟩:=List.append_of_mem hu;obtain⟨hnp,hnq⟩:=oQ QJ Vj;have nS:=uz (listed:=listed) (i:=u.i) (by omega);refine Ui.op he aH Ro Vj uh UE (λv hv=>?_) (VX p1 u p2 Vj) h0 fI hm nS hnp hnq λa' w' g' AA7=>?_
   ·obtain⟨q1,q2,hq⟩:=List.append_of_mem hv;exact VX q1 v (q2++u::p2) (by rw[Vj,hq];simp) u (by simp)
   ·refine AcI he hA aH Ro R da Bj QJ VX Z4 hR hRd h0 fI hm cont n _ a' w' g' (by simpa using hs) ?_ AA7;have:=wx Vj uh nS hnp hnq;omega
  ·have:=hR i h _ Ui.cx UE λr hr=>by
     cases hd:BK listed r with
     |false=>rfl
     |true =>
      rcases Ui.only r hd with h |⟨u,hu,e⟩
      ·exact((hRd r hr).1 h).elim
      ·exact((hRd r hr).2 u hu e).elim
   rw[this t (by rw[Ql];simp)]at Qm;cases Qm
theorem pO:∀(ts:List Ib),∃HS ZI,ts=HS++ZI/\(∀u∈HS,u.ft=false)/\(ZI=[]\/∃b r,ZI=b::r/\b.ft=true)
 |[]=>⟨[],[],rfl,λ_ h=>by(cases h),.inl rfl⟩
 |t::ts=>by
  cases hb:t.ft with
  |true=>exact⟨[],t::ts,rfl,λ_ h=>by(cases h),.inr ⟨t,ts,rfl,hb⟩⟩
  |false =>
   obtain⟨HS,ZI,e,h1,h2⟩:=pO ts;exact⟨t::HS,ZI,by rw[e];rfl,λu hu=>by
    rcases List.mem_cons.1 hu with rfl |hu
    ·exact hb
    ·exact h1 u hu,h2⟩
theorem yP(he:EnvOk P en)(hA:gl BW.toList A){σ':St}(TH:∀a' w' g',JZ w' g' σ' a'->Bu m w0 g0 w' g'->a'.defers=a0.defers->Q .normal a' w') :
    ∀(k:Nat) (ts:List Ib) (done M5:List Nat) (σ:St),ts.length=k->Tr en BW.toList A done M5 σ ts σ'->(∀i,i<BW.size->i∈done\/∃u∈ts,u.i=i)->(∀u∈ts,u.i<BW.size)->(∀u∈ts,u.i∉done)->(ts.map (·.i)).Nodup ->
     (∀B6 t post,ts=B6++t::post->∀u∈post,t.i∈DV A u.i\/t.o.apart BW u.o=true)->(∀B6 t post,ts=B6++t::post->∀d∈Sj BW.toList t.i,d∈done\/∃u∈B6,u.i=d)->m<=σ.Am.length ->
     ∀(listed:Array Bool) (a:Act) (w:World) (g:G),listed.size=BW.size->(∀i∈done,BK listed i=true)->(∀u∈ts,BK listed u.i=false)->bJ A (BK listed)->JZ w g σ a->Bu m w0 g0 w g->a.defers=a0.defers->wpAny P .any BW Q k listed a w:=by
 intro k;induction k using Nat.strongRecOn with
 |_ k ih =>
  intro ts done M5 σ hk aH da Bj Awv QJ VX Z4 hm listed a w g hs Z0 Qm S8 BH Axc Az7;obtain⟨HS,ZI,rfl,Ro,AbE⟩:=pO ts;obtain⟨vg,σ1,ht1,ht2⟩:=aH.split;obtain⟨_,_,lx,AAa⟩:=ht1.gq he Ro;have AAs:(HS.map (·.i)).Nodup:=by
   rw[List.map_append,List.nodup_append]at QJ;exact QJ.1
  have AwN:left (BK listed) HS=HS.length:=by
   unfold left;rw[List.filter_eq_self.2 λu hu=>by rw[Qm u (by simp[hu])];rfl]
  have VW:∀u∈ZI,∀v∈HS,v.i≠u.i:=λu hu v hv=>by
   rw[List.map_append,List.nodup_append]at QJ;exact QJ.2.2 v.i (List.mem_map.2 ⟨v,hv,rfl⟩) u.i (List.mem_map.2 ⟨u,hu,rfl⟩)
  have hBn:G3 (BK listed) HS σ.Am=σ.Am:=Wu λu hu hd=>by rw[Qm u (by simp[hu])]at hd;cases hd
  have hSn:∀i,(Lg (BK listed) HS σ.AJ)[i]?=σ.AJ[i]?:=λi=>Wv λu hu hd=>by rw[Qm u (by simp[hu])]at hd;cases hd
  have AwM:k=HS.length+(ZI.map (·.i)).length:=by rw[AG7,<-AGZ];exact hk.symm
  rw[AwM];refine AcI (a0:=a0) (w0:=w0) (g0:=g0) he hA ht1 Ro (ZI.map (·.i)) (λi hi=>?_) (λu hu=>Bj u (by simp[hu])) AAs (λB6 t post Vj u hu=>VX B6 t (post++ZI) (by rw[Vj];simp) u (by simp[hu])) (λB6 t post Vj=>Z4 B6 t (post++ZI) (by rw[Vj];simp))
   (λi hi D hD UE hRf u hu=>?_) (λr hr=>?_) (λi x hx=>(BH.AJ i x hx).RO) BH.heap.scp hm (λuy a' w' g' YY hd' Afs hR' Abd aG AbL AgF=>?_) HS.length listed a w g hs AwN ?_
  ·rcases da i hi with h |⟨u,hu,e⟩
   ·exact .inl h
   ·rcases List.mem_append.1 hu with hu |hu
    ·exact .inr (.inl ⟨u,hu,e⟩)
    ·exact .inr (.inr (List.mem_map.2 ⟨u,hu,e⟩))
  ·rcases AbE with rfl |⟨b,r,rfl,hb⟩
   ·cases hi
   ·obtain⟨p1,p2⟩:=aH.Xa;rw[List.map_cons]at hi;rcases List.mem_cons.1 hi with rfl |hi
    ·exact UE _ ((p2 hb).2 u hu)
    ·obtain⟨v,hv,rfl⟩:=List.mem_map.1 hi;have h1:=UE _ (p1 (by simp[hb]) v hv);rw[hRf b.i (by simp)]at h1;cases h1
  ·obtain⟨v,hv,rfl⟩:=List.mem_map.1 hr;exact⟨Awv v (by simp[hv]),λu hu=>VW v hv u hu⟩
  ·rcases AbE with rfl |⟨b,r,rfl,hb⟩
   ·cases ht2;refine⟨List.eq_nil_iff_forall_not_mem.2 λi hi=>?_,TH a' w' g' aG AbL AgF⟩;obtain⟨hil,uh,_⟩:=(SN YY).1 hi;rcases da i hil with h |⟨u,hu,e⟩
    ·rw[hd' i h]at uh;cases uh
    ·rw[<-e,Afs u (by simpa using hu)]at uh;cases uh
   ·rw[List.map_cons,List.length_cons,AG7];have hbr:b.i∈Region.ready .any BW uy:=(SN YY).2 ⟨Bj b (by simp),hR' b.i (by simp),λd hd=>by
     rcases Z4 HS b r rfl d hd with h |⟨u,hu,e⟩
     ·exact hd' d h
     ·rw[<-e];exact Afs u hu⟩
    refine⟨λh=>by(rw[h]at hbr;cases hbr),λi hi=>?_⟩;obtain⟨hil,uh,W4⟩:=(SN YY).1 hi;have UE:=iW hA Abd W4;obtain⟨p1,p2⟩:=aH.Xa;have hib:i=b.i:=by
     rcases da i hil with h |⟨u,hu,rfl⟩
     ·rw[hd' i h]at uh;cases uh
     ·rcases List.mem_append.1 hu with hu |hu
      ·rw[Afs u hu]at uh;cases uh
      ·rcases List.mem_cons.1 hu with rfl |hu
       ·rfl
       ·have:=UE _ (p1 (by simp[hb]) u hu);rw[hR' b.i (by simp)]at this;cases this
    subst hib;cases ht2 with
    |cons hσ ok ha hbd next =>
     subst hσ;have ho:BW[b.i]?=some b.o:=by rw[<-AG9];exact ok.1
     have kn:=ok.2;cases hq:b.e with
     |none=>simp[Ib.ft,hq]at hb
     |some e =>
      rw[hq]at kn;have O4:=Q2 he kn.2;unfold wpOp;simp only[ho];rw[AHd (I6 aG kn.1)];have S9:m<=b.σ.Am.length:=by rw[AAa,AGZ];omega
      refine .inl (O4.wp a' w' g' aG _ Q λv w2 g2 H2 hv2 Oa=>?_);have Vi:b.post=b.σ.after b.o.dst e:=by simp[Ib.post,hq]
      have F8:=uz (listed:=uy) (i:=b.i) (by omega);have Aw8:∀u∈r,u.i≠b.i:=(oQ QJ rfl).2;refine ih r.length (by rw[<-hk];simp;omega) r (b.i::((HS.map (·.i)).reverse++done)) _ b.post rfl next (λi hi=>?_) (λu hu=>Bj u (by simp[hu])) (λu hu=>?_) ?_ (λB6 t post Vj u hu=>VX (HS++b::B6) t post (by rw[Vj];simp) u hu) (λB6 t post Vj d hd=>?_) (by rw[Vi];exact AHp S9 O4.grow)
       _ _ w2 g2 (by simpa using YY) (λi hi=>?_) (λu hu=>?_) (λi hi x hx=>?_) (by rw[Vi];exact aG.after O4.grow H2 hv2 Oa) (AbL.trans (Oa.sH S9)) (by rw[put_defers];exact AgF)
      ·rcases da i hi with h |⟨u,hu,e⟩
       ·exact .inl (by simp[h])
       ·rcases List.mem_append.1 hu with hu |hu
        ·exact .inl (by simp;exact .inr (.inl ⟨u,hu,e⟩))
        ·rcases List.mem_cons.1 hu with rfl |hu
         ·exact .inl (by simp[e])
         ·exact .inr ⟨u,hu,e⟩
      ·have h1:=Awv u (by simp[hu]);have h2:=Aw8 u hu;have h3:∀v∈HS,v.i≠u.i:=λv hv=>VW u (by simp[hu]) v hv;simp only[List.mem_cons,List.mem_append,List.mem_reverse,List.mem_map,not_or,not_exists,not_and];exact⟨h2,λv hv=>h3 v hv,h1⟩
      ·rw[List.map_append,List.nodup_append,List.map_cons,List.nodup_cons]at QJ;exact QJ.2.1.2
      ·rcases Z4 (HS++b::B6) t post (by rw[Vj];simp) d hd with h |⟨u,hu,e⟩
       ·exact .inl (by simp[h])
       ·rcases List.mem_append.1 hu with hu |hu
        ·exact .inl (by simp;exact .inr (.inl ⟨u,hu,e⟩))
        ·rcases List.mem_cons.1 hu with rfl |hu
         ·exact .inl (by simp[e])
         ·exact .inr ⟨u,hu,e⟩
      ·rw[F8];split
       ·rfl
       ·rename_i I8;rcases List.mem_cons.1 hi with h |h
        ·exact(I8 h).elim
        ·rcases List.mem_append.1 h with h |h
         ·obtain⟨u,hu,rfl⟩:=List.mem_map.1 (List.mem_reverse.1 h);exact Afs u hu
         ·exact hd' i h
      ·rw[F8,AHe (Aw8 u hu)];exact hR' u.i (by simp;exact .inr ⟨u,hu,rfl⟩)
      ·rw[F8]at hi⊢;split
       ·rfl
       ·split at hi
        ·rename_i e;subst e;exact UE x hx
        ·exact Abd i hi x hx
  ·refine⟨Z0,λi hi=>.inl ?_,S8,Az7,BH.len,Axc,by rw[hBn];exact BH.heap,λi x hx=>?_,λu hu hd=>by(rw[Qm u (by simp[hu])]at hd;cases hd),λu hu hd=>by(rw[Qm u (by simp[hu])]at hd;cases hd)⟩
   ·have hil:i<BW.size:=by
      unfold BK at hi;rcases AG6 i listed.size with h' |h'
      ·omega
      ·simp[Array.getD_eq_getD_getElem?,Array.getElem?_eq_none h']at hi
    rcases da i hil with h |⟨u,hu,rfl⟩
    ·exact h
    ·rw[Qm u hu]at hi;cases hi
   ·rw[hSn]at hx;rw[hBn];exact BH.AJ i x hx
end
theorem ZD:∀{l:List Nat},nodup l=true->l.Nodup
 |[],_=>List.nodup_nil
 |k::r,h=>by
  simp only[nodup,AG2,Bool.not_eq_true']at h;rw[List.nodup_cons];exact⟨by simpa using h.1,ZD h.2⟩
theorem oV{all:List Oper}{A:List (Nat×List Nat)}:∀{L B6 post:List Nat} {i:Nat},YE all A L=true->L=B6++i::post->∀j∈post,i∈DV A j\/∃x y,all[i]?=some x/\all[j]?=some y/\x.apart all.toArray y=true
 |[],B6,post,i,_,h=>by simp at h
 |k::L,[],post,i,hp,h=>by
  injection h with h1 h2;subst h1;subst h2;intro j hj;simp only[YE,AG2]at hp;have:=List.all_eq_true.1 hp.1 j hj;rw[Bool.or_eq_true]at this;rcases this with h |h
  ·exact .inl (by simpa using h)
  ·split at h
   ·rename_i x y hx hy;exact .inr ⟨x,y,hx,hy,h⟩
   ·cases h
 |k::L,p::B6,post,i,hp,h=>by
  injection h with h1 h2;simp only[YE,AG2]at hp;exact oV hp.2 h2
theorem uS{all:List Oper}:∀{L B6 post done:List Nat} {i:Nat},eK all L done=true->L=B6++i::post->∀d∈Sj all i,d∈done\/d∈B6
 |[],B6,post,done,i,_,h=>by simp at h
 |k::L,[],post,done,i,hp,h=>by
  injection h with h1 h2;subst h1;intro d hd;simp only[eK,AG2]at hp;have:=List.all_eq_true.1 hp.1 d hd;exact .inl (by simpa using this)
 |k::L,p::B6,post,done,i,hp,h=>by
  injection h with h1 h2;subst h1;simp only[eK,AG2]at hp;intro d hd;rcases uS hp.2 h2 d hd with h |h
  ·rcases List.mem_cons.1 h with h |h
   ·exact .inr (by simp[h])
   ·exact .inl h
  ·exact .inr (by simp[h])
theorem jW{P:Program}{en:Bd}{m:Nat}(he:EnvOk P en)(AAq:P.follows .mixedOrders=true){id:Nat}{BW:Array Oper}{L:List Nat}(Zs:yO BW.toList L=true){σ σ':St}(hx:Sm en BW.toList (VF BW.toList L []) L [] [] σ some=some σ')(hm:m<=σ.Am.length) :
    m<=σ'.Am.length/\∀(a:Act) (w:World) (g:G) (Q:Exit->Act->World->Prop),JZ w g σ a->(∀a' w' g',JZ w' g' σ' a'->Bu m w g w' g'->a'.defers=a.defers->Q .normal a' w')->(Code.region id BW true).wp P Q a w:=by
 simp only[yO,AG2]at Zs;obtain⟨⟨⟨⟨QJ,da⟩,Bj⟩,VX⟩,Z4⟩:=Zs;obtain⟨ts,V1,aH⟩:=Yo he.W9 hx;have hA:gl BW.toList (VF BW.toList L []):=gu _ L [] (λi x h=>by cases h) QJ λi _ p hp=>by cases hp
 have grow:∀{ts:List Ib} {done M5:List Nat} {σ σ':St},Tr en BW.toList (VF BW.toList L []) done M5 σ ts σ'->σ.Am.length<=σ'.Am.length:=by
  intro ts;induction ts with
  |nil=>intro done M5 σ σ' h;cases h;exact AG1 _
  |cons t ts ih =>
   intro done M5 σ σ' h;cases h with
   |cons hσ ok ha hb next =>
    subst hσ;refine AHp ?_ (ih next)
    have ok2:=ok.2;unfold Ib.post;cases hq:t.e with
    |none=>exact AG1 _
    |some e =>
     rw[hq]at ok2;exact(Q2 he ok2.2).grow
 have Axo:∀B6 t post,ts=B6++t::post->L=B6.map (·.i)++t.i::post.map (·.i):=λB6 t post h=>by rw[<-V1,h];simp
 refine⟨AHp hm (grow aH),λa w g Q hs hq=>wp_region_any AAq ?_⟩;have Qa:JZ {w with drawn:=w.drawn+1} g σ a:=⟨hs.heap.drew,hs.len,λi x hx=>(hs.AJ i x hx).PW (Step.drew [] _ w g) (AG1 _)⟩;have hlen:ts.length=BW.size:=by
  have h1:ts.length=L.length:=by rw[<-V1,AG7]
  have hn:=ZD QJ;have XG:∀i∈L,i∈List.range BW.size:=λi hi=>by
   have:=List.all_eq_true.1 Bj i hi;simpa using this
  have AAM:∀i∈List.range BW.size,i∈L:=λi hi=>by
   have:=List.all_eq_true.1 da i (by simpa using hi);simpa using this
  have h2:=hn.length_le_of_subset XG;have h3:=List.nodup_range.length_le_of_subset AAM;rw[AHC]at h2 h3;omega
 have fH:∀i,BK (Array.replicate BW.size false) i=false:=λi=>by
  unfold BK;rw[Array.getD_eq_getD_getElem?,Array.getElem?_replicate];split<;>rfl
 refine yP (m:=m) (a0:=a) (w0:=w) (g0:=g) he hA hq BW.size ts [] [] σ hlen aH (λi hi=>.inr ?_) (λu hu=>?_) (λu _ h=>by cases h) (by rw[V1];exact ZD QJ) (λB6 t post Vj u hu=>?_) (λB6 t post Vj d hd=>?_) hm
  _ a _ g (by simp) (λi hi=>by cases hi) (λu _=>fH _) (λi hi=>by rw[fH]at hi;cases hi) Qa (Step.drew _ _ w g) rfl
 ·have:=List.all_eq_true.1 da i (by simpa using hi);have rB:i∈L:=by simpa using this
  rw[<-V1]at rB;obtain⟨u,hu,e⟩:=List.mem_map.1 rB;exact⟨u,hu,e⟩
 ·have xC:u.i∈L:=by rw[<-V1];exact List.mem_map.2 ⟨u,hu,rfl⟩
  have:=List.all_eq_true.1 Bj u.i xC;simpa using this
 ·rcases oV VX (Axo B6 t post Vj) u.i (List.mem_map.2 ⟨u,hu,rfl⟩)with h |⟨x,y,hx,hy,h⟩
  ·exact .inl h
  ·have h1:=(aH.Aco t (by rw[Vj];simp)).1;have h2:=(aH.Aco u (by rw[Vj];simp[hu])).1;rw[hx]at h1;injection h1 with h1;rw[hy]at h2;injection h2 with h2;subst h1;subst h2;exact .inr (by simpa using h)
 ·rcases uS Z4 (Axo B6 t post Vj) d hd with h |h
  ·cases h
  ·obtain⟨u,hu,e⟩:=List.mem_map.1 h;exact .inr ⟨u,hu,e⟩
section
variable {P:Program} {en:Bd} {m:Nat}
def ql(P:Program)(en:Bd)(m:Nat)(c:Code):Prop:=∀(σ:St) (e:Ex) (σ':St),ev en m c (Ex×St) σ Nk=some (e,σ')->m<=σ.Am.length->m<=σ'.Am.length /\
 ∀(a:Act) (w:World) (g:G) (Q:Exit->Act->World->Prop),JZ w g σ a->(∀a' w' g',JZ w' g' σ' a'->Bu m w g w' g'->a'.defers=a.defers->Q (jX e) a' w')->c.wp P Q a w
theorem Yq(he:WT en){c:Code}{R:Type}{σ:St}{K:Ex->St->Option R}{r:R}(h:ev en m c R σ K=some r):∃e s,ev en m c (Ex×St) σ Nk=some (e,s)/\K e s=some r:=by
 rw[UB he]at h;cases hx:ev en m c (Ex×St) σ Nk with
 |none=>rw[hx]at h;cases h
 |some p=>rw[hx]at h;exact⟨p.1,p.2,rfl,h⟩
theorem AfK(he:Iv P en){body:Code}(ih:ql P en m body):ql P en m (.loop body):=by
 intro σ e σ' h hm;simp only[ev]at h;split at h
 ·rename_i hh ho _ _;split at h
  ·cases h
  ·rename_i σ0 hσ0;have h:(fix (eD en m hh ho body) σ0).bind (λp=>Nk p.1 p.2)=some (e,σ'):=h;cases hf:fix (eD en m hh ho body) σ0 with
   |none=>rw[hf]at h;cases h
   |some p =>
    rw[hf]at h;have h:p=(e,σ'):=by injection h
    subst h;obtain⟨n,hn⟩:=(Uc.1 hf).n;have TH:∀n s,ToN (eD en m hh ho body) n s (e,σ')->m<=s.Am.length->m<=σ'.Am.length:=by
     intro n s hs;generalize ht:(e,σ')=t at hs;induction hs with
     |done hd =>
      subst ht;intro hms;obtain⟨e1,s',hb,hc⟩:=UR he.W9 hd;rcases hc with ⟨_,Vv,_,hr⟩|⟨_,Vv,hh2,hr⟩
      ·cases hr
      ·injection hr with hr;injection hr with h1 h2;subst h2;exact Uf hh2
     |ZC hd _ ihn =>
      intro hms;obtain⟨e1,s',hb,hc⟩:=UR he.W9 hd;rcases hc with ⟨_,Vv,Abx,hr⟩|⟨_,Vv,_,hr⟩
      ·injection hr with hr;subst hr;exact ihn ht (Uf Abx)
      ·cases hr
    have qc:m<=σ0.Am.length:=Uf hσ0;refine⟨TH n σ0 hn qc,λa w g Q hs hq=>?_⟩;obtain⟨g0,qf,ou,_⟩:=UF hσ0 hs hm;refine xq (λn a' w'=>∃s g',ToN (eD en m hh ho body) n s (e,σ')/\JZ w' g' s a'/\m<=s.Am.length/\Bu m w g w' g'/\a'.defers=a.defers) (λn a1 w1 hR=>?_) (n:=n) ⟨σ0,g0,hn,qf,qc,ou,rfl⟩;obtain⟨s,g1,ov,Qa,hms,UG,db⟩:=hR;cases ov with
    |done hd =>
     obtain⟨e1,s',hb,hc⟩:=UR he.W9 hd;rcases hc with ⟨_,Vv,_,hr⟩|⟨I8,Vv,hh2,hr⟩
     ·cases hr
     ·injection hr with hr;injection hr with h1 h2;subst h1;subst h2;obtain⟨Al9,kp⟩:=ih _ _ _ hb hms;refine kp a1 w1 g1 _ Qa λa2 w2 g2 WE rG hd2=>?_;obtain⟨g3,oo,AbK,_⟩:=UF hh2 WE Al9;have hQ:=hq a2 w2 g3 oo ((UG.trans rG).trans AbK) (hd2.trans db);cases e with
      |normal=>exact(I8 rfl).elim
      |exit k=>exact hQ
      |ret=>exact hQ
    |ZC hd AAO =>
     rename_i k;obtain⟨e1,s',hb,hc⟩:=UR he.W9 hd;rcases hc with ⟨he1,Vv,Abx,hr⟩|⟨_,Vv,_,hr⟩
     ·injection hr with hr;subst hr;subst he1;obtain⟨Al9,kp⟩:=ih _ _ _ hb hms;refine kp a1 w1 g1 _ Qa λa2 w2 g2 WE rG hd2=>?_;obtain⟨g3,oo,AbK,hm3⟩:=UF Abx WE Al9;exact⟨k,AHB _,_,g3,AAO,oo,hm3,(UG.trans rG).trans AbK,hd2.trans db⟩
     ·cases hr
 ·cases h
theorem Xz:∀{l:List (Option Unit)},nL l=some ()->∀x∈l,x=some ()
 |[],_,_,h=>by cases h
 |[x],h,y,hy=>by rw[AHm]at hy;subst hy;exact h
 |x::y::r,h,z,hz=>by
  simp only[nL]at h;cases hf:x with
  |none=>rw[hf]at h;cases h
  |some u =>
   rw[hf]at h;rcases List.mem_cons.1 hz with rfl |hz
   ·exact hf
   ·exact Xz h z hz
theorem AaS(he:Iv P en){σ σ0:St}{l:Option (List Nat)}(h:Ae9 m σ l=some σ0)(hm:m<=σ.Am.length):m<=σ0.Am.length/\∀{a:Act} {w:World} {g:G},JZ w g σ a->∃g0,JZ w g0 σ0 a/\Bu m w g w g0:=by
 cases l with
 |none=>simp only[Ae9,AGX]at h;subst h;exact⟨hm,λhs=>⟨_,hs,Bu.refl _ _ _⟩⟩
 |some l =>
  have h:σ.head {Ap:=l} m=some σ0:=h;exact⟨Uf h,λhs=>by obtain⟨g1,h1,h2,_⟩:=UF h hs hm;exact⟨g1,h1,h2⟩⟩
theorem AaX(he:WT en){σ:St}{o:Oper}{e:G2}(ha:bZ en σ o=none)(hs:pe en σ o=none)(ht:tlE en σ o=none)(hc:∀c,o.op≠.call c)(h:exec en σ o some=some e):∃e0,P8 en σ o some=some e0:=by
 have h:Tk en σ o some=some e:=by
  unfold exec at h;split at h
  ·rename_i ho _;exact(hc _ ho).elim
  ·exact h
 unfold Tk at h;rw[ha,hs,ht]at h;simp only at h;split at h
 ·cases hd:cJ en o with
  |false=>rw[hd]at h;exact⟨e,h⟩
  |true =>
   rw[hd]at h;simp only[AHb]at h;rw[LU en he]at h;cases hx:P8 en σ o some with
   |none=>rw[hx]at h;cases h
   |some e0=>exact⟨e0,rfl⟩
 ·rw[LU en he]at h;cases hx:P8 en σ o some with
  |none=>rw[hx]at h;cases h
  |some e0=>exact⟨e0,rfl⟩
theorem Zb{α:Type}{k:IntKind}{x y:Int}{c:BoundsCode}{w w1:World}{r:α}(h:(boundsPanic k x y c:Sem α).run P w=.ok r w1):False:=by
 unfold boundsPanic at h
 dsimp only at h
 split at h
 ·rw[Sem.run_bind]at h;generalize (Sem.run P _ w)=q at h;cases q with
  |halt e w=>cases h
  |ok b w2=>simp[runtimePanic]at h
 ·simp[runtimePanic]at h
theorem YP{t:TypeId}{w w1:World}{n:Nat}(h:(sizeOf t).run P w=.ok n w1):∀w',(sizeOf t).run P w'=.ok n w':=by
 intro w';unfold sizeOf typeInfo at h⊢;simp only[Sem.run_bind]at h⊢;have hp:(program).run P w=.ok P w:=rfl;have vW:(program).run P w'=.ok P w':=rfl;simp only[hp,vW,Result.andThen_ok]at h⊢;cases hq:P.info? t with
 |none=>rw[hq]at h;simp at h
 |some i=>rw[hq]at h;simp at h⊢;exact h.1
theorem fP{t:TypeId}{u v c:Value}{w w1:World}(h:(Instr.indexAt t u v).run P w=.ok c w1):∀w',(Instr.indexAt t u v).run P w'=.ok c w':=by
 intro w';unfold Instr.indexAt at h⊢;cases v with
 |int k i =>
  simp only[asIntOf,pure_bind]at h⊢;cases hu:P.underlying t with
  |none=>simp[underlying,hu]at h
  |some d =>
   cases d with
   |slice elem =>
    cases u with
    |slice base len cap =>
     simp[underlying,hu]at h⊢;cases base with
     |none=>exact(Zb (by simpa using h)).elim
     |some a =>
      simp only at h⊢;split at h
      ·rename_i hc;rw[AHd hc];simp only[Sem.run_map]at h⊢;cases hs:(sizeOf elem).run P w with
       |halt e w=>rw[hs]at h;cases h
       |ok n w2 =>
        rw[hs]at h;rw[YP hs w'];simp at h⊢;exact h.1
      ·exact(Zb (by simpa using h)).elim
    |_=>simp[underlying,hu]at h
   |array len elem =>
    cases u with
    |pointer p =>
     cases p with
     |none=>simp[underlying,hu,Instr.sureAddr]at h
     |some a =>
      simp[underlying,hu,Instr.sureAddr]at h⊢;split at h
      ·rename_i hc;rw[AHd hc];cases hs:(sizeOf elem).run P w with
       |halt e w=>rw[hs]at h;cases h
       |ok n w2 =>
        rw[hs]at h;rw[YP hs w'];simp at h⊢;exact h.1
      ·split at h
       ·cases h
       ·exact(Zb h).elim
    |_=>simp[underlying,hu,Instr.sureAddr]at h
   |_=>simp[underlying,hu]at h
 |pointer p=>cases p<;>simp[asIntOf]at h
 |_=>simp[asIntOf]at h
def lO(P:Program){α:Type}(s:Sem α):Prop:=∀w w1 c,s.run P w=.ok c w1->∀w',s.run P w'=.ok c w'
theorem lO.pure{α:Type}(x:α):lO P (Pure.pure x:Sem α):=λw w1 c h w'=>by simp at h⊢;exact h.1
theorem lO.bind{α β:Type}{s:Sem α}{f:α->Sem β}(h1:lO P s)(h2:∀x,lO P (f x)):lO P (s >>= f):=λw w1 c h w'=>by
 rw[Sem.run_bind]at h⊢;cases hs:s.run P w with
 |halt e w2=>rw[hs]at h;cases h
 |ok x w2 =>
  rw[hs]at h;rw[h1 _ _ _ hs w'];exact h2 x _ _ _ h w'
theorem lO.info(t:TypeId):lO P (typeInfo t):=λw w1 c h w'=>by
 unfold typeInfo at h⊢;simp only[Sem.run_bind]at h⊢;have hp:(program).run P w=.ok P w:=rfl;have vW:(program).run P w'=.ok P w':=rfl;simp only[hp,vW,Result.andThen_ok]at h⊢;cases hq:P.info? t with
 |none=>rw[hq]at h;simp at h
 |some i=>rw[hq]at h;simp at h⊢;exact h.1
theorem lO.mapM{α β:Type}{f:α->Sem β}(h:∀x,lO P (f x)):∀l:List α,lO P (l.mapM f)
 |[]=>by rw[List.mapM_nil];exact .pure _
 |x::l=>by rw[List.mapM_cons];exact .bind (h x) λy=>.bind (lO.mapM h l) λys=>.pure _
theorem lO.map{α β:Type}{s:Sem α}(f:α->β)(h:lO P s):lO P (f <$> s):=by
 rw[map_eq_pure_bind];exact .bind h λx=>.pure _
theorem mG(t:TypeId)(FC:Array (Nat×Value)):lO P (Instr.build t FC):=by
 have Ks:∀t,lO P (sizeOf t):=λt=>by unfold sizeOf;exact .bind (.info t) λ_=>.pure _
 have Qm:lO P (underlying t):=by
  unfold underlying;refine .bind (λw w1 c h w'=>?_) λp=>?_
  ·have hp:(program).run P w=.ok P w:=rfl;have vW:(program).run P w'=.ok P w':=rfl;rw[hp]at h;rw[vW];injection h with h _;rw[h]
  ·split
   ·exact .pure _
   ·exact λw w1 c h=>by simp at h
 unfold Instr.build zeroValue;refine .bind (.bind (.info t) λi=>?_) λz=>?_
 ·split
  ·exact .pure _
  ·exact λw w1 c h=>by simp at h
 ·refine .bind Qm λd=>?_;split
  ·refine .bind ?_ λps=>?_
   ·rw[Array.mapM_eq_mapM_toList];exact .map _ (.mapM (λf=>.bind (Ks _) λ_=>.pure _) _)
   ·split
    ·exact .pure _
    ·exact λw w1 c h=>by simp at h
  ·refine .bind (Ks _) λn=>?_;split
   ·exact .pure _
   ·exact λw w1 c h=>by simp at h
  ·exact λw w1 c h=>by simp at h
theorem iR(he:EnvOk P en){σ:St}{o:Oper}{e:G2}(hp:uI o=true)(hx:exec en σ o some=some e){w w1:World}{g:G}{a:Act}(hs:JZ w g σ a){n:Next}(hr:(execOp a.eval o).run P w=.ok n w1) :
    ∃c,∀w',(execOp a.eval o).run P w'=.ok (.value c) w':=by
 unfold uI at hp;split at hp
 ·rename_i x ho;exact⟨a.eval x,λw'=>by simp[execOp,ho]⟩
 ·rename_i x ho;exact⟨a.eval x,λw'=>by simp[execOp,ho]⟩
 ·rename_i x i ho;simp only[execOp,ho,Instr.extract]at hr⊢;split at hr
  ·split at hr
   ·rename_i v hv;exact⟨v,λw'=>by simp⟩
   ·cases hr
  ·cases hr
 ·rename_i t x f ho;have ha:bZ en σ o=none:=by unfold bZ;rw[ho]
  obtain⟨e0,hx⟩:=AaX he.W9 ha (by unfold pe wJ;rw[ho]) (by unfold tlE;rw[ho]) (λc e=>by rw[ho]at e;cases e) hx;unfold P8 at hx
  dsimp only at hx
  rw[ho]at hx;simp only at hx;split at hx
  ·rename_i ti ht;have Vl:=AO hs x;unfold fz at hx;split at hx
   ·rename_i k i p q hq;rw[hq]at Vl;split at hx
    ·rename_i fo hfo;obtain⟨_,_,_,b,_,e1⟩:=KA Vl;exact⟨.pointer (some ⟨b,i.toNat*(g.AU k).gP+q+fo,none⟩),λw'=>by simp[execOp,ho,e1,(Tl (P:=P) (w:=w') (he.t ht) hfo b _).1]⟩
    ·cases hx
   ·rename_i ks t' y hq;rw[hq]at Vl;split at hx
    ·rename_i hc;obtain⟨_,b,off,ds,e1,_⟩:=Wq Vl;cases hfo:ti.Uo[f]? with
     |none =>
      rw[hfo]at hc;obtain⟨rfl,hc⟩:=hc;split at hx
      ·rename_i Ta u z hz
       exfalso
       have:∀(f:Nat) (t:Ty) (x:t.V) (v:AV),Ud ks t x f=some v->R3 t f≠none:=by
        intro f;induction f with
        |zero=>intro t x v h;cases t<;>simp[Ud,R3]at h⊢
        |succ f ih =>
         intro t x v h;cases t with
         |Au a b =>
          simp only[Ud]at h;have:=ih b x.2 v h;simp only[R3];cases ho:R3 b f with
          |none=>exact(this ho).elim
          |some _=>simp
         |_=>simp[Ud]at h
       exact this f _ y _ hz hc
      ·cases hx
     |some fo=>exact⟨.pointer (some ⟨b,off+fo,none⟩),λw'=>by simp[execOp,ho,e1,(Tl (P:=P) (w:=w') (he.t ht) hfo b _).1]⟩
    ·cases hx
   ·cases hx
  ·cases hx
 ·rename_i t x i ho;simp only[execOp,ho]at hr⊢;rw[Sem.run_bind]at hr;cases hq:(Instr.indexAt t (a.eval x) (a.eval i)).run P w with
  |halt e w=>rw[hq]at hr;cases hr
  |ok c w2=>exact⟨c,λw'=>by rw[Sem.run_bind,fP hq w'];rfl⟩
 ·rename_i t FC ho;simp only[execOp,ho]at hr⊢;rw[Sem.run_bind]at hr;cases hq:(Instr.build t (FC.map λ(i,x)=>(i,a.eval x))).run P w with
  |halt e w=>rw[hq]at hr;cases hr
  |ok c w2=>exact⟨c,λw'=>by rw[Sem.run_bind,mG _ _ _ _ _ hq w'];rfl⟩
 ·cases hp
theorem X8(he:Iv P en){h:SH}{BW:Array Oper}{σ':St}{Q:Exit->Act->World->Prop}{a0:Act}{w0:World}{g0:G}
    (TH:∀a' w' g',JZ w' g' σ' a'->Bu m w0 g0 w' g'->a'.defers=a0.defers->Q .normal a' w') (XF:Region.noSelect BW=true) (hQ:∀c a w,¬Q (.panic c) a w) :
    ∀(k:Nat) (listed:Array Bool) (σ:St),vi en h m BW σ' k listed σ=some ()->m<=σ.Am.length->∀(a:Act) (w:World) (g:G),JZ w g σ a->Bu m w0 g0 w g->a.defers=a0.defers->wpAny P .any BW Q k listed a w
 |0,listed,σ,hw,hm,a,w,g,hs,BH,hd=>by
  simp only[vi]at hw;split at hw
  ·rename_i hr;split at hw
   ·rename_i s hh;unfold Sl at hw;split at hw
    ·rename_i e;subst e;obtain⟨g1,Qa,Qc,_⟩:=UF hh hs hm;exact⟨by simpa using hr,TH a w g1 Qa (BH.trans Qc) hd⟩
    ·cases hw
   ·cases hw
  ·cases hw
 |k+1,listed,σ,hw,hm,a,w,g,hs,BH,hd=>by
  simp only[vi]at hw;split at hw
  ·rename_i i hi;unfold Ag4 at hi;have hp:=List.find?_some hi;have aF:=List.mem_of_find?_eq_some hi;rw[AG2]at hp;simp only[P7]at hw;split at hw
   ·cases hw
   ·rename_i o ho;have um:BW[i]?=some o:=by rw[<-AG9];exact ho
    rw[um]at hp;rcases Oy hw with ⟨hwt,h1⟩|⟨hwt,h1⟩
    ·rw[Q1 en he.W9]at h1;cases hx:exec en σ o some with
     |none=>rw[hx]at h1;cases h1
     |some e =>
      rw[hx]at h1;have O4:=Q2 he.toEnvOk hx;have Oz:=O4.grow;have kp:=O4.wp a w g hs (wpAny P .any BW Q k (listed.setIfInBounds i true)) (λ_ _ _=>False) λv w' g' hH hv aG=>X8 he TH XF hQ k _ _ h1 (AHp hm Oz) _ _ _ (hs.after Oz hH hv aG) (BH.trans (aG.sH hm)) (by rw[Go.Va.put_defers];exact hd);have DR:∃n w1,(execOp a.eval o).run P w=.ok n w1:=by
       unfold Oper.wp at kp;cases hq:(execOp a.eval o).run P w with
       |ok n w1=>exact⟨n,w1,rfl⟩
       |halt e w1=>rw[hq]at kp;cases e<;>exact kp.elim
      obtain⟨n,w1,DR⟩:=DR;obtain⟨c,hc⟩:=iR he.toEnvOk hp.1 hx hs DR;have hy:Yields P BW o c a:=.inl ⟨I6 hs hwt,hc⟩;refine wpAny_take um XF hp.2 (by simpa using aF) (λc a w h=>(hQ c _ _ h).elim) hy ?_;unfold Oper.wp at kp;rw[hc w]at kp;exact kp
    ·have hy:Yields P BW o undef a:=.inr ⟨I6 hs hwt,rfl⟩;refine wpAny_take um XF hp.2 (by simpa using aF) (λc a w h=>(hQ c _ _ h).elim) hy ?_;exact X8 he TH XF hQ k _ _ h1 hm _ _ _ (hs.skip o.dst) BH (by rw[Go.Va.put_defers];exact hd)
  split at hw
  ·cases hw
  ·rename_i hr;refine⟨λe=>by rw[e]at hr;exact(hr rfl).elim,λi hi=>?_⟩;have h1:=Xz hw _ (List.mem_map_of_mem hi);simp only[P7]at h1;unfold wpOp;split at h1
   ·cases h1
   ·rename_i o ho;have um:BW[i]?=some o:=by rw[<-AG9];exact ho
    simp only[um];rcases Oy h1 with ⟨hw,h1⟩|⟨hw,h1⟩
    ·rw[Q1 en he.W9]at h1;cases hx:exec en σ o some with
     |none=>rw[hx]at h1;cases h1
     |some e =>
      rw[hx]at h1;have O4:=Q2 he.toEnvOk hx;have Oz:=O4.grow;rw[AHd (I6 hs hw)];refine .inl (O4.wp a w g hs _ Q λv w' g' hH hv aG=>?_);exact X8 he TH XF hQ k _ _ h1 (AHp hm Oz) _ _ _ (hs.after Oz hH hv aG) (BH.trans (aG.sH hm)) (by rw[put_defers];exact hd)
    ·rw[I6 hs hw];simp only[Bool.false_eq_true,if_false];exact X8 he TH XF hQ k _ _ h1 hm _ _ _ (hs.skip o.dst) BH (by rw[put_defers];exact hd)
theorem JZ.cut{w:World}{g:G}{σ:St}{a:Act}(hs:JZ w g σ a):JZ w (g.cut σ.Am.length) σ a:=by
 have de:∀b,g.own b=.H8->(g.cut σ.Am.length).own b=.H8:=λb h=>by simp[G.cut,h]
 refine⟨⟨λb hb=>by simp[G.cut,hs.heap.BN b hb],λk x hx=>?_⟩,hs.len,λi x hx=>?_⟩
 ·have:=(hs.heap.Lf k x hx).M3 (φ:=id) de (aW (AP hx)) λj hj=>aW (hs.heap.scp k x hx j hj);rwa [Xn]at this
 ·have h:=hs.AJ i x hx;have:=h.M3 (φ:=id) (g':=g.cut σ.Am.length) (n':=σ.Am.length) de λk hk=>aW (h.RO k hk);rwa [LS]at this
theorem rO(he:EnvOk P en){σ:St}{o:Oper}{e:G2}{t:TypeId}{x:Operand}(ho:o.op=.load t x){k:Nat}{i:Int}{p:List Nat}{f:Nat}{a0:AV}(hx:σ.B5 x=.ptr k i p f)(hb:σ.Am[k]?=some (.box a0))(hex:exec en σ o some=some e)
    {w:World} {g:G} {a:Act} (hs:JZ w g σ a):∃b,(g.AU k).a=some ⟨b,0,none⟩/\∃c,∀w',w'.heap[b]?=w.heap[b]?->(execOp a.eval o).run P w'=.ok (.value c) w':=by
 have ha:bZ en σ o=none:=by
  unfold bZ;rw[ho]
  dsimp only
  split
  ·rfl
  ·split
   ·rename_i e' ti k' i' p' f' _ _ ia;rw[hx]at ia;injection ia with h1 h2 h3 h4;subst h1;rw[hb]
   ·rfl
 obtain⟨e0,hex⟩:=AaX he.W9 ha (by unfold pe wJ;rw[ho]) (by unfold tlE;rw[ho]) (λc e=>by rw[ho]at e;cases e) hex;unfold P8 at hex
 dsimp only at hex
 rw[ho]at hex;simp only at hex;split at hex
 ·rename_i ti ht;have Vl:=AO hs x;rw[hx]at Vl hex;obtain⟨hk,h0,h1,b,MR,vX⟩:=KA Vl;refine⟨b,MR,?_⟩;have hld:∃v,atP σ.Am k i p f=some v/\v.size=ti.ty.size:=by
   split at hex
   ·split at hex
    ·unfold XU at hex;simp only[hb]at hex;cases hex
    ·cases hex
   ·unfold W8 at hex;simp only at hex;split at hex
    ·rename_i v hv;split at hex
     ·rename_i hc;exact⟨v,hv,hc.1⟩
     ·cases hex
    ·cases hex
  obtain⟨v,hv,Ks⟩:=hld;obtain⟨cs,fD,CY⟩:=T2 hs.heap hv h1 MR;have hl:cs.length=ti.ty.size:=by rw[fD.len,Ks]
  obtain⟨c,_,hU⟩:=Q9 (P:=P) (w:=w) (he.t ht) hl CY (λhg=>by rw[hl];exact Rf hg);refine⟨c,λw' fJ=>?_⟩;obtain⟨c',hr,rH⟩:=Q9 (P:=P) (w:=w') (he.t ht) hl (λj u hu=>(T6 fJ).trans (CY j u hu)) (λhg=>by rw[hl];exact Rf hg);have:c'=c:=by
   cases hq:ti.ty.isAgg with
   |true=>rw[hq]at hU rH;simp only[Bv,AHb]at hU rH;rw[hU,rH]
   |false=>rw[hq]at hU rH;simp only[Bv,AHa]at hU rH;rw[hU]at rH;injection rH with h _;exact h.symm
  subst this;simp[execOp,ho,vX,Instr.loadAt,Instr.sureAddr,hr]
 ·cases hex
theorem Amu{ts:Array TypeId}{t:TypeId}{ad:Option Addr}{n cp:Nat}{w w1:World}{v:Value}(h:(Builtin.len_ ts t #[.slice ad n cp]).run P w=.ok v w1)(w':World):(Builtin.len_ ts t #[.slice ad n cp]).run P w'=.ok v w':=by
 unfold Builtin.len_ at h⊢;cases ht:ts[0]? with
 |none=>simp[ht]at h
 |some t =>
  cases hu:P.underlying t with
  |none=>simp[ht,underlying,hu]at h
  |some d =>
   cases d with
   |pointer q =>
    cases hq:P.underlying q with
    |none=>simp[ht,underlying,hu,hq]at h
    |some d=>cases d<;>simp[ht,underlying,hu,hq,goInt]at h⊢<;>exact h.1
   |slice _=>simp[ht,underlying,hu,goInt]at h⊢;exact h.1
   |array _ _=>simp[ht,underlying,hu,goInt]at h⊢;exact h.1
   |_=>simp[ht,underlying,hu,goInt]at h
theorem wz{o:Oper}{c:Call}(ho:o.op=.call c)(hc:c.callee=.builtin .len){a:Act}{X:Operand}(hX:c.args.toList=[X]){ad:Option Addr}{n cp:Nat}(hv:a.eval X=.slice ad n cp){w w1:World}{nx:Next}(hr:(execOp a.eval o).run P w=.ok nx w1) :
    ∃v,∀w',(execOp a.eval o).run P w'=.ok (.value v) w':=by
 have hA:c.args=#[X]:=by apply Array.toList_inj.1;rw[hX]
 have key:∀w',(execOp a.eval o).run P w'=((Builtin.len_ c.argTypes o.type #[.slice ad n cp]).run P w').andThen λv w'=>.ok (.value v) w':=λw'=>by
  simp[execOp,ho,resolve,hc,hA,hv,invoke,builtin]
 rw[key]at hr;cases hq:(Builtin.len_ c.argTypes o.type #[.slice ad n cp]).run P w with
 |ok v w2=>exact⟨v,λw'=>by rw[key,Amu hq w'];rfl⟩
 |halt e w2=>rw[hq]at hr;cases hr
theorem wN(he:EnvOk P en){P6:List Blk}{σ:St}{o:Oper}{e:G2}(hp:rY P6 σ o=true)(hx:exec en σ o some=some e){w w1:World}{g:G}{a:Act}(hs:JZ w g σ a){nx:Next}(hr:(execOp a.eval o).run P w=.ok nx w1)
    {B:Nat->Prop} {w0:World} (hN:∀k b,(g.AU k).a=some ⟨b,0,none⟩->(∃a0,P6[k]?=some (.box a0))->B b) (hw:∀b,B b->w.heap[b]?=w0.heap[b]?):∃c,∀w',(∀b,B b->w'.heap[b]?=w0.heap[b]?)->(execOp a.eval o).run P w'=.ok (.value c) w':=by
 unfold rY at hp;rw[Bool.or_eq_true]at hp;rcases hp with hp |hp
 ·obtain⟨c,hc⟩:=iR he hp hx hs hr;exact⟨c,λw' _=>hc w'⟩
 ·split at hp
  ·rename_i t x ho;split at hp
   ·rename_i k i p f Vl;split at hp
    ·rename_i a1 a0 hb0 hbb;obtain⟨b,MR,c,hc⟩:=rO he ho Vl hbb hx hs;have hbn:=hN k b MR ⟨a1,hb0⟩;exact⟨c,λw' fJ=>hc w' ((fJ b hbn).trans (hw b hbn).symm)⟩
    ·cases hp
   ·cases hp
  ·rename_i c ho;have go:∀(X:Operand),c.callee=.builtin .len->c.args.toList=[X]->(∃ad n cp,a.eval X=.slice ad n cp)->∃v,∀w',(∀b,B b->w'.heap[b]?=w0.heap[b]?)->(execOp a.eval o).run P w'=.ok (.value v) w':=λX h1 h2 ⟨ad,n,cp,h3⟩=>by
    obtain⟨v,hv⟩:=wz ho h1 h2 h3 hr;exact⟨v,λw' _=>hv w'⟩
   split at hp
   ·rename_i hc XC;unfold Oj at XC;cases hl:c.args.toList with
    |nil=>rw[hl]at XC;cases XC
    |cons X r =>
     rw[hl]at XC;cases r with
     |nil =>
      simp only[List.map_cons,List.map_nil,List.cons.injEq,and_true]at XC;have hv:=AO hs X;rw[XC]at hv;obtain⟨_,ad,cp,ds,hv,_⟩:=Xm hv;exact go X hc hl ⟨_,_,_,hv⟩
     |cons _ _=>simp at XC
   ·rename_i hc XC;unfold Oj at XC;cases hl:c.args.toList with
    |nil=>rw[hl]at XC;cases XC
    |cons X r =>
     rw[hl]at XC;cases r with
     |nil =>
      simp only[List.map_cons,List.map_nil,List.cons.injEq,and_true]at XC;have hv:=AO hs X;rw[XC]at hv;obtain⟨ad,hv⟩:=VG hv;exact go X hc hl ⟨_,_,_,hv⟩
     |cons _ _=>simp at XC
   ·cases hp
  ·rename_i op t x y yt ho;rw[AG2]at hp;obtain⟨h1,h2⟩:=hp;split at h2
   ·rename_i ks k u Ta k' v Vl hyy;have hk:k=k':=by simpa using h2
    subst hk;have e1:=AO hs x;rw[Vl]at e1;have e1:=Dc e1;have e2:=AO hs y;rw[hyy]at e2;have e2:=Dc e2;split at h1
    ·exact⟨_,λw' _=>by simp[execOp,ho,e1,e2,eqGuard,binOp,Op.intArith];rfl⟩
    ·exact⟨_,λw' _=>by simp[execOp,ho,e1,e2,eqGuard,binOp,Op.intArith];rfl⟩
    ·cases h1
   ·cases h2
  ·cases hp
theorem nE{R:Type}{all:List Oper}{P6:List Blk}{i:Nat}{σ:St}{K:St->Option R}{r:R}(h:evQ en all P6 i σ K=some r):∃o,all[i]?=some o/\UD all σ o (λσ=>exec en σ o λe=>if e.Bw.all (nbx P6)then K (σ.after o.dst e)else none) (λσ=>K (σ.skip o.dst))=some r:=by
 unfold evQ at h;split at h
 ·cases h
 ·rename_i o ho;exact⟨o,ho,h⟩
theorem xk{w:World}{g:G}{n:Nat}:Bu m w g w (g.cut n) :=
 ⟨rfl,rfl,rfl,AG1 _,λb _ h=>⟨by simp[G.cut,h],rfl⟩,λb h=>⟨by simp[G.cut,h],rfl⟩,λb k p h hk hm=>(hm (List.mem_range.2 hk)).elim,λk hk=>rfl⟩
def X1(gS:G)(P6:List Blk)(b:Nat):Prop:=∃k a1,P6[k]?=some (.box a1)/\(gS.AU k).a=some ⟨b,0,none⟩
theorem r8{σ:St}{o:Oper}{e:G2}(O4:MP P σ o e){P6:List Blk}{gS:G}(hme:e.Bw.all (nbx P6)=true){w:World}{g:G}{a:Act}(hs:JZ w g σ a)(hm:m<=σ.Am.length)(hNl:P6.length<=σ.Am.length)(Ce:∀k a1 b,P6[k]?=some (.box a1)->(gS.AU k).a=some ⟨b,0,none⟩->g.own b=.BG k []){next:Act->World->Prop}{Q:Exit->Act->World->Prop}
    (hn:∀v w' g',JZ w' g' (σ.after o.dst e) (a.put o.dst v)->Bu m w g w' g'->(∀b,X1 gS P6 b->w'.heap[b]?=w.heap[b]?)->(∀k,k<σ.Am.length->g'.AU k=g.AU k)->(∀k a1 b,P6[k]?=some (.box a1)->(gS.AU k).a=some ⟨b,0,none⟩->g'.own b=.BG k [])->next (a.put o.dst v) w'):o.wp P a w next Q:=by
 refine O4.wp a w g hs next Q λv w' g' hH hv st=>?_
 have both:∀k a1 b,P6[k]?=some (.box a1)->(gS.AU k).a=some ⟨b,0,none⟩->w'.heap[b]?=w.heap[b]?/\g'.own b=.BG k []:=λk a1 b hk hb=>by
  have h:=st.BG b k [] (Ce k a1 b hk hb) (AHx (AP hk) hNl) (λh=>by
   have:=List.all_eq_true.1 hme k h;unfold nbx at this;rw[hk]at this;cases this)
  exact⟨h.2,h.1⟩
 exact hn v w' g' (hs.after O4.grow hH hv st) (st.sH hm) (λb ⟨k,a1,h1,h2⟩=>(both k a1 b h1 h2).1) (λk hk=>st.AU k hk) λk a1 b h1 h2=>(both k a1 b h1 h2).2
theorem aR(he:Iv P en){h:SH}{BW:Array Oper}{σ':St}{Q:Exit->Act->World->Prop}{a0:Act}{w0:World}{g0 gS:G}
    (TH:∀a' w' g',JZ w' g' σ' a'->Bu m w0 g0 w' g'->a'.defers=a0.defers->Q .normal a' w') (XF:Region.noSelect BW=true) (hQ:∀c a w,¬Q (.panic c) a w) {P6:List Blk} (H0:Bc w0 gS P6) :
    ∀(k:Nat) (listed:Array Bool) (σ:St),qR en h m P6 BW σ' k listed σ=some ()->m<=σ.Am.length->P6.length<=σ.Am.length->∀(a:Act) (w:World) (g:G),JZ w g σ a->Bu m w0 g0 w g->a.defers=a0.defers->(∀b,X1 gS P6 b->w.heap[b]?=w0.heap[b]?)->(∀k,k<P6.length->g.AU k=gS.AU k)->(∀k a1 b,P6[k]?=some (.box a1)->(gS.AU k).a=some ⟨b,0,none⟩->g.own b=.BG k []) ->
     wpAnyH P .any BW Q (λw=>∀b,X1 gS P6 b->w.heap[b]?=w0.heap[b]?) k listed a w
 |0,listed,σ,hw,hm,hl,a,w,g,hs,BH,hd,hS,Rn,Ce=>by
  simp only[qR]at hw;split at hw
  ·rename_i hr;split at hw
   ·rename_i s hh;unfold Sl at hw;split at hw
    ·rename_i e;subst e;obtain⟨g1,Qa,Qc,_⟩:=UF hh hs hm;exact⟨by simpa using hr,TH a w g1 Qa (BH.trans Qc) hd⟩
    ·cases hw
   ·cases hw
  ·cases hw
 |k+1,listed,σ,hw,hm,hl,a,w,g,hs,BH,hd,hS,Rn,Ce=>by
  have one:∀(o:Oper) (e:G2) (i:Nat),exec en σ o some=some e->(if e.Bw.all (nbx P6)then qR en h m P6 BW σ' k (listed.setIfInBounds i true) (σ.after o.dst e)else none)=some ()->∀(Q':Exit->Act->World->Prop),
      o.wp P a w (λa' w'=>(∀b,X1 gS P6 b->w'.heap[b]?=w0.heap[b]?)/\wpAnyH P .any BW Q (λw=>∀b,X1 gS P6 b->w.heap[b]?=w0.heap[b]?) k (listed.setIfInBounds i true) a' w') Q':=by
   intro o e i hx h1 Q';split at h1
   ·rename_i hme;have O4:=Q2 he.toEnvOk hx;refine r8 (m:=m) (gS:=gS) O4 hme hs hm hl Ce λv w' g' YY st' hS' Awh Aw2=>?_;have hS2:∀b,X1 gS P6 b->w'.heap[b]?=w0.heap[b]?:=λb hb=>(hS' b hb).trans (hS b hb);exact⟨hS2,aR he TH XF hQ H0 k _ _ h1 (AHp hm O4.grow) (AHp hl O4.grow) _ _ _ YY (BH.trans st') (by rw[Go.Va.put_defers];exact hd) hS2 (λk hk=>(Awh k (AHx hk hl)).trans (Rn k hk)) Aw2⟩
   ·cases h1
  simp only[qR]at hw;split at hw
  ·rename_i i hi;unfold Ag3 at hi;have hp:=List.find?_some hi;have aF:=List.mem_of_find?_eq_some hi;rw[AG2]at hp;obtain⟨o,ho,hw⟩:=nE hw;have um:BW[i]?=some o:=by rw[<-AG9];exact ho
   rw[um]at hp;rcases Oy hw with ⟨hwt,h1⟩|⟨hwt,h1⟩
   ·rw[Q1 en he.W9]at h1;cases hx:exec en σ o some with
    |none=>rw[hx]at h1;cases h1
    |some e =>
     rw[hx]at h1;have kp:=one o e i hx h1 (λ_ _ _=>False);have DR:∃n w1,(execOp a.eval o).run P w=.ok n w1:=by
      unfold Oper.wp at kp;cases hq:(execOp a.eval o).run P w with
      |ok n w1=>exact⟨n,w1,rfl⟩
      |halt e w1=>rw[hq]at kp;cases e<;>exact kp.elim
     obtain⟨n,w1,DR⟩:=DR;obtain⟨c,hc⟩:=wN he.toEnvOk hp.1 hx hs DR (B:=X1 gS P6) (w0:=w0) (λk b hb Afi=>by
      obtain⟨a1,Afi⟩:=Afi;rw[Rn k (AP Afi)]at hb;exact⟨k,a1,Afi,hb⟩) hS
     have hy:YieldsIf P BW (λw=>∀b,X1 gS P6 b->w.heap[b]?=w0.heap[b]?) o c a:=.inl ⟨I6 hs hwt,hc⟩;refine wpAnyH_take um XF hp.2 (by simpa using aF) (λc a w h=>(hQ c _ _ h).elim) hy hS ?_;unfold Oper.wp at kp;rw[hc w hS]at kp;exact kp.2
   ·have hy:YieldsIf P BW (λw=>∀b,X1 gS P6 b->w.heap[b]?=w0.heap[b]?) o undef a:=.inr ⟨I6 hs hwt,rfl⟩;refine wpAnyH_take um XF hp.2 (by simpa using aF) (λc a w h=>(hQ c _ _ h).elim) hy hS ?_;exact aR he TH XF hQ H0 k _ _ h1 hm hl _ _ _ (hs.skip o.dst) BH (by rw[Go.Va.put_defers];exact hd) hS Rn Ce
  split at hw
  ·cases hw
  ·rename_i hr;refine⟨λe=>by rw[e]at hr;exact(hr rfl).elim,λi hi=>?_⟩;have h1:=Xz hw _ (List.mem_map_of_mem hi);obtain⟨o,ho,h1⟩:=nE h1;unfold wpOp;have um:BW[i]?=some o:=by rw[<-AG9];exact ho
   simp only[um];rcases Oy h1 with ⟨hw,h1⟩|⟨hw,h1⟩
   ·rw[Q1 en he.W9]at h1;cases hx:exec en σ o some with
    |none=>rw[hx]at h1;cases h1
    |some e =>
     rw[hx]at h1;rw[AHd (I6 hs hw)];exact .inl (one o e i hx h1 Q)
   ·rw[I6 hs hw];simp only[Bool.false_eq_true,if_false];exact⟨hS,aR he TH XF hQ H0 k _ _ h1 hm hl _ _ _ (hs.skip o.dst) BH (by rw[put_defers];exact hd) hS Rn Ce⟩
theorem O0(he:Iv P en):∀c:Code,ql P en m c
 |.skip=>λσ e σ' h hm=>by
  simp only[ev,AGX,AG8]at h;obtain⟨rfl,rfl⟩:=h;exact⟨hm,λa w g Q hs hq=>wp_skip (hq a w g hs (Bu.refl _ _ _) rfl)⟩
 |.ret=>λσ e σ' h hm=>by
  simp only[ev,AGX,AG8]at h;obtain⟨rfl,rfl⟩:=h;exact⟨hm,λa w g Q hs hq=>wp_ret (hq a w g hs (Bu.refl _ _ _) rfl)⟩
 |.exit n=>λσ e σ' h hm=>by
  simp only[ev,AGX,AG8]at h;obtain⟨rfl,rfl⟩:=h;exact⟨hm,λa w g Q hs hq=>wp_exit (hq a w g hs (Bu.refl _ _ _) rfl)⟩
 |.seq c d=>λσ e σ' h hm=>by
  simp only[ev]at h;have hj:∃e1 s1,m<=s1.Am.length/\(∀(a:Act) (w:World) (g:G) (Q:Exit->Act->World->Prop),JZ w g σ a->(∀a' w' g',JZ w' g' s1 a'->Bu m w g w' g'->a'.defers=a.defers->Q (jX e1) a' w')->c.wp P Q a w) /\
      (match e1 with |.normal=>ev en m d (Ex×St) s1 Nk |.exit n=>Nk (.exit n) s1 |.ret=>Nk .ret s1)=some (e,σ'):=by
   split at h
   ·obtain⟨e1,s1,h1,h2⟩:=Yq he.W9 h;obtain⟨S9,qj⟩:=O0 he c σ e1 s1 h1 hm;exact⟨e1,s1,S9,qj,h2⟩
   ·rename_i hh _;rw[Option.bind_eq_some_iff]at h;obtain⟨σ0,h0,h⟩:=h;obtain⟨qc,AlT⟩:=AaS he h0 hm;rw[Option.bind_eq_some_iff]at h;obtain⟨⟨e1,s2⟩,h1,h2⟩:=h;obtain⟨e0,s1,h3,h4⟩:=Yq he.W9 h1;rw[Option.bind_eq_some_iff]at h4;obtain⟨s3,h5,h6⟩:=h4;simp only[AGX,AG8]at h6;obtain⟨rfl,rfl⟩:=h6;obtain⟨S9,qj⟩:=O0 he c σ0 e0 s1 h3 qc;refine⟨e0,s3,Uf h5,λa w g Q hs hq=>?_,h2⟩;obtain⟨g0,qf,ou⟩:=AlT hs;refine qj a w g0 Q qf λa' w' g' YY BH hd=>?_;obtain⟨g3,oo,AbK,_⟩:=UF h5 YY S9;exact hq a' w' g3 oo (ou.trans (BH.trans AbK)) hd
  obtain⟨e1,s1,S9,qj,h2⟩:=hj;cases e1 with
  |normal =>
   obtain⟨Q4,ih2⟩:=O0 he d s1 e σ' h2 S9;refine⟨Q4,λa w g Q hs hq=>wp_seq (qj a w g _ hs λa1 w1 g1 Qa UG db=>?_)⟩;exact ih2 a1 w1 g1 Q Qa λa2 w2 g2 WE rG hd2=>hq a2 w2 g2 WE (UG.trans rG) (hd2.trans db)
  |exit n =>
   simp only[AGX,AG8]at h2;obtain⟨rfl,rfl⟩:=h2;exact⟨S9,λa w g Q hs hq=>wp_seq (qj a w g _ hs λa1 w1 g1 Qa UG db=>hq a1 w1 g1 Qa UG db)⟩
  |ret =>
   simp only[AGX,AG8]at h2;obtain⟨rfl,rfl⟩:=h2;exact⟨S9,λa w g Q hs hq=>wp_seq (qj a w g _ hs λa1 w1 g1 Qa UG db=>hq a1 w1 g1 Qa UG db)⟩
 |.cond c x y=>λσ e σ' h hm=>by
  simp only[ev]at h;split at h
  ·rename_i ks t hc;have hb:∀(a:Act) (w:World) (g:G),JZ w g σ a->a.eval c=.bool t:=λa w g hs=>by
    have:=AO hs c;rw[hc]at this;exact QZ this
   cases t
   ·obtain⟨S9,qj⟩:=O0 he y σ e σ' h hm;exact⟨S9,λa w g Q hs hq=>wp_cond_false (hb a w g hs) (qj a w g Q hs hq)⟩
   ·obtain⟨S9,qj⟩:=O0 he x σ e σ' h hm;exact⟨S9,λa w g Q hs hq=>wp_cond_true (hb a w g hs) (qj a w g Q hs hq)⟩
  ·cases h
 |.block n c=>λσ e σ' h hm=>by
  simp only[ev]at h;obtain⟨e1,s1,h1,h2⟩:=Yq he.W9 h;obtain⟨S9,qj⟩:=O0 he c σ e1 s1 h1 hm;cases e1 with
  |normal =>
   simp only[AGX,AG8]at h2;obtain⟨rfl,rfl⟩:=h2;exact⟨S9,λa w g Q hs hq=>wp_block (qj a w g _ hs λa1 w1 g1 Qa UG db=>hq a1 w1 g1 Qa UG db)⟩
  |exit k =>
   simp only at h2;cases hk:k==n with
   |true =>
    rw[hk]at h2;simp only[AHb,AGX,AG8]at h2;obtain⟨rfl,rfl⟩:=h2;have TV:k=n:=by simpa using hk
    subst TV;exact⟨S9,λa w g Q hs hq=>wp_block (qj a w g _ hs λa1 w1 g1 Qa UG db=>by
     simp only[jX,Exit.inBlock,if_true];exact hq a1 w1 g1 Qa UG db)⟩
   |false =>
    rw[hk]at h2;simp only[AHa,AGX,AG8]at h2;obtain⟨rfl,rfl⟩:=h2;have TV:¬k=n:=by simpa using hk
    exact⟨S9,λa w g Q hs hq=>wp_block (qj a w g _ hs λa1 w1 g1 Qa UG db=>by
     simp only[jX,Exit.inBlock,AHe TV];exact hq a1 w1 g1 Qa UG db)⟩
  |ret =>
   simp only[AGX,AG8]at h2;obtain⟨rfl,rfl⟩:=h2;exact⟨S9,λa w g Q hs hq=>wp_block (qj a w g _ hs λa1 w1 g1 Qa UG db=>hq a1 w1 g1 Qa UG db)⟩
 |.region id BW false=>λσ e σ' h hm=>by
  simp only[ev]at h;rw[R7 he.W9]at h;cases hx:P7 en BW.toList (List.range BW.size) σ some with
  |none=>rw[hx]at h;cases h
  |some s =>
   rw[hx]at h;simp only[AGV,AGX,AG8]at h;obtain⟨rfl,rfl⟩:=h;refine⟨(Yp (Q:=λ_ _ _=>True) he.toEnvOk _ _ _ hx hm).1,λa w g Q hs hq=>wp_region ((Yp he.toEnvOk _ _ _ hx hm).2 a w g hs hq)⟩
 |.region id BW true=>λσ e σ' h hm=>by
  simp only[ev]at h;split at h
  ·rename_i hh _;rw[Option.bind_eq_some_iff]at h;obtain⟨σ0,h0,h⟩:=h;obtain⟨qc,AlT⟩:=AaS he h0 hm;rw[Option.bind_eq_some_iff]at h;obtain⟨s,h1,h2⟩:=h;simp only[AGX,AG8]at h2;obtain⟨rfl,rfl⟩:=h2;unfold AfV at h1;split at h1
   ·cases h1
   rename_i XF;rw[R7 he.W9,Option.bind_eq_some_iff]at h1;obtain⟨s0,h3,h4⟩:=h1;rw[Option.bind_eq_some_iff]at h4;obtain⟨s1,h5,h6⟩:=h4;rw[Option.bind_eq_some_iff]at h6;obtain⟨_,h7,h8⟩:=h6;injection h8 with h8;subst h8;refine⟨Uf h5,λa w g Q hs hq=>Code.wp_mono (Q:=λe a w=>match e with |.panic _=>False |e=>Q e a w) (λe a w h=>by cases e<;>first |exact h |exact h.elim) (wp_region_any he.mixed ?_)⟩
   obtain⟨g1,hs,UG⟩:=AlT hs;cases hqt:(SH.Wa _)with
   |false =>
    rw[hqt,AHa]at h7;exact X8 (Q:=λe a w=>match e with |.panic _=>False |e=>Q e a w) he (a0:=a) (w0:=w) (g0:=g1) (λa' w' g' h1 h2 h3=>hq a' w' g' h1 (UG.trans h2) h3) (by simpa using XF) (λc a w h=>h) _ _ σ0 h7 qc a _ g1 ⟨hs.heap.drew,hs.len,λi x hx=>(hs.AJ i x hx).PW (Step.drew [] _ w g1) (AG1 _)⟩ (Step.drew _ _ w g1) rfl
   |true =>
    rw[hqt,AHb]at h7;have hsD:JZ w.drew (g1.cut σ0.Am.length) σ0 a:=JZ.cut ⟨hs.heap.drew,hs.len,λi x hx=>(hs.AJ i x hx).PW (Step.drew _ _ _ _) (AG1 _)⟩;exact wpAny_of_held _ _ _ _ (aR (Q:=λe a w=>match e with |.panic _=>False |e=>Q e a w) he (a0:=a) (w0:=w.drew) (g0:=g1.cut σ0.Am.length) (gS:=g1.cut σ0.Am.length) (λa' w' g' h1 h2 h3=>hq a' w' g' h1 (((UG.trans ((Step.drew [] _ w g1).sH qc)).trans xk).trans h2) h3) (by simpa using XF) (λc a w h=>h) hsD.heap _ _ σ0 h7 qc (AG1 _) a _ _ hsD (Bu.refl _ _ _) rfl (λ_ _=>rfl) (λ_ _=>rfl) λk a1 b hk hb=>by
     obtain⟨_,b',_,_,ha',ho,_⟩:=hsD.heap.Lf k _ hk;rw[ha']at hb;injection hb with hb;injection hb with hb;subst hb;exact ho)
  split at h
  ·rename_i Zs;rw[R6 he.W9]at h;cases hx:Sm en BW.toList (VF BW.toList (UL en BW.toList BW.toList.length []) []) (UL en BW.toList BW.toList.length []) [] [] σ some with
   |none=>rw[hx]at h;cases h
   |some s =>
    rw[hx]at h;simp only[AGV,AGX,AG8]at h;obtain⟨rfl,rfl⟩:=h;exact jW he.toEnvOk he.mixed Zs hx hm
  ·cases h
 |.loop body=>AfK he (O0 he body)
 |.goto _=>λ_ _ _ h _=>by simp[ev]at h
 |.label _=>λ_ _ _ h _=>by simp[ev]at h
 |.rangeFunc ..=>λ_ _ _ h _=>by simp[ev]at h
 |.scope _=>λ_ _ _ h _=>by simp[ev]at h
 |.refuse _=>λ_ _ _ h _=>by simp[ev]at h
end
def AcE(tmps:Array Value):ResultVar->Sem Value
 |.tmp t=>pure (tmps.getD t undef)
 |.cell a t=>do loadVar t (<-asAddr (tmps.getD a undef))
theorem dU(fn:Func)(tmps:Array Value):results fn tmps=(do let vs <-fn.results.mapM (AcE tmps);pure (if h:vs.size=1 then vs[0]else .tuple vs)):=by
 unfold results;congr 1
section
variable {P:Program} {en:Bd}
theorem sa(he:EnvOk P en){σ:St}{w:World}{g:G}{a:Act}(hs:JZ w g σ a):∀{rs:List ResultVar} {l:List AV},ZH en.A7 σ rs=some l ->
    ∃vs,(rs.mapM (AcE a.tmps)).run P w=.ok vs w/\Dd w g σ.Am.length l vs
 |[],l,h=>by
  simp only[ZH,AGX]at h;subst h;exact⟨[],rfl,trivial⟩
 |.tmp t::rs,l,h=>by
  simp only[ZH]at h;split at h
  ·rename_i x l' hx hl;injection h with h;subst h;obtain⟨vs,hr,hv⟩:=sa he hs hl;exact⟨a.tmps.getD t undef::vs,by simp only[List.mapM_cons,AcE,Sem.run_bind,Sem.run_pure,Result.andThen_ok,hr],hs.AJ t x hx,hv⟩
  ·cases h
 |.cell b t::rs,l,h=>by
  simp only[ZH]at h;split at h
  ·rename_i ti k i p o ht hx;split at h
   ·rename_i x l' Rn hl;split at h
    ·rename_i Ks;injection h with h;subst h;obtain⟨vs,hr,hv⟩:=sa he hs hl;obtain⟨hk,h0,h1,bb,hb,hp⟩:=KA (hs.AJ b _ hx);obtain⟨cs,fD,CY⟩:=T2 hs.heap Rn h1 hb;obtain⟨v,lX,hU⟩:=Q9 (w:=w) (he.t ht) (by rw[fD.len,Ks.1]) CY (λhg=>by rw[fD.len,Ks.1];exact Rf hg);rw[<-Ks.2]at hU;refine⟨v::vs,?_,Bn (TQ fD) fD hU,hv⟩;have:(asAddr (a.tmps.getD b undef)).run P w=.ok ⟨bb,i.toNat*(g.AU k).gP+o,none⟩ w:=by rw[hp];rfl
     simp only[List.mapM_cons,AcE,Sem.run_bind,Sem.run_pure,Result.andThen_ok,hr,this,lX]
    ·cases h
   ·cases h
  ·cases h
theorem cz{w:World}{g:G}{n:Nat}:∀{l:List AV} {vs:List Value},Dd w g n l vs->Cq w g n true (Uz l) vs
 |[],[],_=>rfl
 |a::l,v::vs,⟨h1,h2⟩=>by
  refine⟨v,vs,rfl,?_,cz h2⟩;split
  ·exact .inl rfl
  ·rename_i ht;exact(BR.iff (by simpa using ht)).1 h1
 |[],_::_,h=>h.elim
 |_::_,[],h=>h.elim
theorem AfW{w:World}{g:G}{n:Nat}{l:List AV}{vs:List Value}(h:Dd w g n l vs):BR w g n (kV l) (if h:vs.toArray.size=1 then vs.toArray[0]else .tuple vs.toArray):=by
 match l,vs,h with
 |[],[],_=>rfl
 |[a],[v],h=>exact h.1
 |a::b::l,v::u::vs,h =>
  have:¬(v::u::vs).toArray.size=1:=by simp
  rw[dif_neg this];exact⟨_,rfl,cz h⟩
theorem Y8{w:World}{g:G}{n:Nat}:∀{l:List AV} {vs:List Value},Dd w g n l vs->l.length=vs.length
 |[],[],_=>rfl
 |_::_,_::_,h=>by simp[Y8 h.2]
 |[],_::_,h=>h.elim
 |_::_,[],h=>h.elim
theorem Wp{w:World}{g:G}{n:Nat}:∀{l:List AV} {vs:List Value} {i:Nat} {x:AV},Dd w g n l vs->l[i]?=some x->∃v,vs[i]?=some v/\BR w g n x v
 |_::_,v::_,0,_,h,hx=>by simp at hx;subst hx;exact⟨v,rfl,h.1⟩
 |_::_,_::_,i+1,_,h,hx=>by
  obtain⟨v,hv,hr⟩:=Wp (i:=i) h.2 (by simpa using hx);exact⟨v,by simpa using hv,hr⟩
 |[],[],_,_,_,hx=>by simp at hx
 |[],_::_,_,_,h,_=>h.elim
 |_::_,[],_,_,h,_=>h.elim
theorem bY{w w':World}{g g':G}{n n':Nat}(st:Step [] n w g w' g')(hn:n<=n'):∀{l:List AV} {vs:List Value},Dd w g n l vs->Dd w' g' n' l vs
 |[],[],_=>trivial
 |_::_,_::_,h=>⟨h.1.PW st hn,bY st hn h.2⟩
 |[],_::_,h=>h.elim
 |_::_,[],h=>h.elim
theorem Y9{w:World}{g:G}{n:Nat}{x:AV}:∀{l:List AV} {vs:List Value} {i:Nat} {v:Value},Dd w g n l vs->vs[i]?=some v->BR w g n x v->Dd w g n (l.set i x) vs
 |_::_,_::_,0,v,h,hv,hx=>by
  simp at hv;subst hv;exact⟨hx,h.2⟩
 |_::_,_::_,i+1,v,h,hv,hx=>⟨h.1,Y9 h.2 (by simpa using hv) hx⟩
 |[],[],_,_,_,hv,_=>by simp at hv
 |[],_::_,_,_,h,_,_=>h.elim
 |_::_,[],_,_,h,_,_=>h.elim
theorem nh{m:Nat}{w:World}:∀{cs:List (Nat×Co)} {l l':List AV} {bs Gt:List Blk} {g:G} {vs:List Value},VL cs l bs=some (l',Gt)->Bc w g bs->Dd w g bs.length l vs->m<=bs.length ->
    ∃g',Bc w g' Gt/\Dd w g' Gt.length l' vs/\Bu m w g w g'
 |[],l,l',bs,Gt,g,vs,h,H,hx,hm=>by
  simp only[VL,AGX,AG8]at h;obtain⟨rfl,rfl⟩:=h;exact⟨g,H,hx,Bu.refl _ _ _⟩
 |(i,c)::r,l,l',bs,Gt,g,vs,h,H,hx,hm=>by
  simp only[VL]at h;split at h
  ·cases h
  ·rename_i v hv;split at h
   ·rename_i v' nb vP;obtain⟨u,hu,hr⟩:=Wp hx hv;obtain⟨g1,H1,aJ,Qc⟩:=qY H vP hr;obtain⟨g2,H2,ow,Oa⟩:=nh (m:=m) h H1 (Y9 (bY Qc (by simp) hx) hu aJ) (by simp;omega);exact⟨g2,H2,ow,(Qc.sH hm).trans Oa⟩
   ·cases h
theorem tV{m:Nat}{w:World}:∀{cs:List (Nat×Ty)} {l l':List AV} {bs Gt:List Blk} {g:G} {vs:List Value},cT m cs l bs=some (l',Gt)->Bc w g bs->Dd w g bs.length l vs ->
    ∃g',Bc w g' Gt/\Dd w g' Gt.length l' vs/\Bu m w g w g'/\Gt.length=bs.length
 |[],l,l',bs,Gt,g,vs,h,H,hx=>by
  simp only[cT,AGX,AG8]at h;obtain⟨rfl,rfl⟩:=h;exact⟨g,H,hx,Bu.refl _ _ _,rfl⟩
 |(i,t)::r,l,l',bs,Gt,g,vs,h,H,hx=>by
  simp only[cT]at h;split at h
  ·cases h
  ·rename_i v hv;split at h
   ·rename_i v' nb hf;obtain⟨g1,H1,hl,Qc,ha,aJ,_,_⟩:=kh H hf;obtain⟨u,hu,hr⟩:=Wp hx hv;have AAo:∀{l:List AV} {vs:List Value},Dd w g bs.length l vs->Dd w g1 nb.length (l.map AV.XZ) vs:=by
     intro l;induction l with
     |nil=>intro vs h;cases vs with
      |nil=>trivial
      |cons _ _=>exact h.elim
     |cons a l ih=>intro vs h;cases vs with
      |nil=>exact h.elim
      |cons v vs=>exact⟨by rw[hl];exact ha a v h.1,ih h.2⟩
    obtain⟨g2,H2,ow,Oa,YX⟩:=tV (m:=m) h H1 (Y9 (AAo hx) hu (by rw[hl];exact aJ u hr));exact⟨g2,H2,ow,Qc.trans Oa,YX.trans hl⟩
   ·cases h
theorem YS{w:World}{g:G}{E:List Blk}{args:List AV}{vs:List Value}(H:Bc w g E)(h:Dd w g E.length args vs){n:Nat}(hn:args.length<=n) :
    JZ w g ⟨args++List.replicate (n-args.length) (.un 0),E⟩ {tmps:=vs.toArray++Array.replicate (n-vs.toArray.size) undef,defers:=[]} where
 heap:=H
 len:=by simp[Y8 h]
 AJ i x hx:=by
  have hl:=Y8 h;rw[AHl]at hx;split at hx
  ·obtain⟨v,hv,hr⟩:=Wp h hx;have hi:=AP hv;have:(vs.toArray++Array.replicate (n-vs.toArray.size) undef).getD i undef=v:=by
    rw[Array.getD_eq_getD_getElem?,Array.getElem?_append_left (by simpa using hi)];simp[hv]
   rw[this];exact hr
  ·rw[List.getElem?_replicate]at hx;split at hx
   ·injection hx with hx;subst hx;exact PX
   ·cases hx
theorem Wz{m:Nat}{w:World}{a:Act}:∀{l:List Fi} {σ σ2:St} {g:G},VQ m l σ=some σ2->JZ w g σ a->m<=σ.Am.length->∃g',JZ w g' σ2 a/\Bu m w g w g'/\m<=σ2.Am.length
 |[],σ,σ2,g,h,hs,hm=>by
  simp only[VQ,AGX]at h;subst h;exact⟨g,hs,Bu.refl _ _ _,hm⟩
 |.co k c::r,σ,σ2,g,h,hs,hm=>by
  simp only[VQ]at h;split at h
  ·rename_i bs hb;obtain⟨g1,H1,st⟩:=AaG hs.heap hb;have hl:=aV hb;obtain⟨g2,h2,Oa,Q4⟩:=Wz (σ:=⟨σ.AJ,bs⟩) h ⟨H1,hs.len,λi x hx=>(hs.AJ i x hx).PW st hl⟩ (AHp hm hl);exact⟨g2,h2,(st.sH hm).trans Oa,Q4⟩
  ·cases h
 |.AH j::r,σ,σ2,g,h,hs,hm=>by
  simp only[VQ]at h;refine Wz (σ:=⟨σ.AJ,σ.Am.set j .AH⟩) h ⟨⟨hs.heap.BN,λk x hx=>?_⟩,hs.len,λi x hx=>by rw[AG4];exact hs.AJ i x hx⟩ (by rw[AG4];exact hm);rw[AG4];rw[AHk]at hx;split at hx
  ·split at hx
   ·injection hx with hx;subst hx;trivial
   ·cases hx
  ·exact hs.heap.Lf k x hx
 |.mvs s p::r,σ,σ2,g,h,hs,hm=>by
  simp only[VQ]at h;split at h
  ·rename_i σ1 h1;unfold mvP at h1;split at h1
   ·obtain⟨g1,Qa,Qc,S9⟩:=rR h1 hs hm;obtain⟨g2,WE,Oa,Q4⟩:=Wz h Qa S9;exact⟨g2,WE,Qc.trans Oa,Q4⟩
   ·rename_i a0 qf;obtain⟨g1,Qa,Qc,S9⟩:=Acf qf h1 hs hm;obtain⟨g2,WE,Oa,Q4⟩:=Wz h Qa S9;exact⟨g2,WE,Qc.trans Oa,Q4⟩
   ·cases h1
  ·cases h
 |.mv k p::r,σ,σ2,g,h,hs,hm=>by
  simp only[VQ]at h;split at h
  ·rename_i σ1 h1;obtain⟨g1,Qa,Qc,S9⟩:=rR h1 hs hm;obtain⟨g2,WE,Oa,Q4⟩:=Wz h Qa S9;exact⟨g2,WE,Qc.trans Oa,Q4⟩
  ·cases h
theorem XO(he:Iv P en){f:FuncId}{fn:Func}(hf:P.funcs[f]?=some fn){args:List AV}{E:List Blk}{av:AV}{E':List Blk}(h:AW en fn (AV×List Blk) args E (λv b=>some (v,b))=some (av,E')) :
    E.length<=E'.length/\∀(w:World) (g:G) (vs:List Value),Bc w g E->Dd w g E.length args vs->Calls P f vs.toArray w λe w'=>∃v g',e=.returned v/\Bc w' g' E'/\BR w' g' E'.length av v/\Bu E.length w g w' g':=by
 unfold AW at h;split at h
 ·cases h
 ·rename_i c hc;split at h
  ·rename_i hl;obtain⟨e,σ',h1,h2⟩:=Yq he.W9 h;obtain⟨hm,kp⟩:=O0 he c _ e σ' h1 (AG1 _);have key:∀(σ2:St) (l l0:List AV) (P6:List Blk) (l':List AV) (Gt:List Blk),VQ E.length en.fi.TH σ'=some σ2->ZH en.A7 σ2 fn.results.toList=some l->cT E.length en.fi.Rj l σ2.Am=some (l0,P6)->VL en.fi.dT l0 P6=some (l',Gt)->ae E.length Gt (kV l')=some (av,E')->(jX e=.normal\/jX e=.ret) ->
       E.length<=E'.length/\∀(w:World) (g:G) (vs:List Value),Bc w g E->Dd w g E.length args vs->Calls P f vs.toArray w λe w'=>∃v g',e=.returned v/\Bc w' g' E'/\BR w' g' E'.length av v/\Bu E.length w g w' g':=by
    intro σ2 l l0 P6 l' Gt AlX VY bk vP vS hex;unfold ae at vS
    dsimp only at vS
    split at vS
    ·rename_i hp;simp only[AGX,AG8]at vS;obtain⟨ub,hE⟩:=vS;have hmn:=(Acw (Sd hp).1).1;have xx:E'.length=(iV Gt Gt.length (aM (List.range E.length) (kV l').Cf)).length:=by rw[<-hE,AG7]
     refine⟨by rw[xx];exact hmn,λw g vs H hx=>?_⟩;refine calls_of_wp hf hc ?_;refine kp _ w g _ (YS H hx hl) λa' w' g0 qf ou hd=>?_;obtain⟨g',YY,aG,Q4⟩:=Wz AlX qf hm;have BH:=ou.trans aG;obtain⟨pV,hr,hv⟩:=sa he.toEnvOk YY VY;obtain⟨g1,H1,aJ,Qc,R9⟩:=tV bk YY.heap hv;obtain⟨g2,H2,hv2,Oa⟩:=nh vP H1 aJ (by rw[R9];exact Q4);have Vi:∃u,(results fn a'.tmps).run P w'=.ok u w'/\∃v' vO,Ending.returned u=Ending.returned v'/\Bc w' vO E'/\BR w' vO E'.length av v'/\Bu E.length w g w' vO:=by
      refine⟨if h:pV.toArray.size=1 then pV.toArray[0]else .tuple pV.toArray,?_,_,g2.pick _,rfl,by rw[<-hE];exact iN H2 hp,?_,((BH.trans Qc).trans Oa).trans (iO hp).1⟩
      ·rw[dU,Array.mapM_eq_mapM_toList];simp only[Sem.run_bind,Sem.run_map,hr];rfl
      ·rw[xx,<-ub];exact((AfW hv2).M3 (λb h=>YG h) λk hk=>YH ((Sd hp).2.2.1 k hk)).DW
     obtain⟨u,aJ,hv2⟩:=Vi;rcases hex with h |h<;>rw[h]<;>exact⟨hd,u,aJ,hv2⟩
    ·cases vS
   have Adg:(match VQ E.length en.fi.TH σ' with
         |none=>none
         |some σ=>match ZH en.A7 σ fn.results.toList with
          |some l=>match cT E.length en.fi.Rj l σ.Am with
           |some (l,bs)=>match VL en.fi.dT l bs with
            |some (l',Gt)=>match ae E.length Gt (kV l')with
             |some (v,bs)=>some (v,bs)
             |none=>none
            |none=>none
           |none=>none
          |none=>none)=some (av,E')->(jX e=.normal\/jX e=.ret)->E.length<=E'.length/\∀(w:World) (g:G) (vs:List Value),Bc w g E->Dd w g E.length args vs->Calls P f vs.toArray w λe w'=>∃v g',e=.returned v/\Bc w' g' E'/\BR w' g' E'.length av v/\Bu E.length w g w' g':=by
    intro h hex;split at h
    ·cases h
    ·rename_i σ2 AlX;split at h
     ·rename_i l VY;split at h
      ·rename_i l0 P6 bk;split at h
       ·rename_i l' Gt vP;split at h
        ·rename_i v bs vS;simp only[AGX,AG8]at h;obtain⟨rfl,rfl⟩:=h;exact key σ2 l l0 P6 l' Gt AlX VY bk vP vS hex
        ·cases h
       ·cases h
      ·cases h
     ·cases h
   cases e with
   |exit n=>cases h2
   |normal=>exact Adg h2 (.inl rfl)
   |ret=>exact Adg h2 (.inr rfl)
  ·cases h
theorem As.of(he:Iv P en){f:FuncId}{fn:Func}(hf:P.funcs[f]?=some fn)(hn:(fn.name=="runtime.NumGoroutine")=false)(hb:fn.body.isNone=false){c:Callee}(hc:bH c)
    (h:∀args E av E',c.run (AV×List Blk) args E (λv b=>some (v,b))=some (av,E')->AW en fn (AV×List Blk) args E (λv b=>some (v,b))=some (av,E')):As P f c where
 W9:=hc
 snd args E av E' hr:=by
  obtain⟨h1,h2⟩:=XO he hf (h args E av E' hr);refine⟨h1,λw g vs H hx o a next Q hn'=>?_⟩
  have:(callFunc f vs.toArray).run P w=.ok (.enter f vs.toArray) w:=by
   have rE:¬fn.name="runtime.NumGoroutine":=by simpa using hn
   have c7:¬fn.body=none:=by
    intro e;rw[e]at hb;cases hb
   simp[callFunc,hf,rE,c7]
  rw[this,Oper.upon_enter];refine(h2 w g vs H hx).mono λe w' ⟨v,g',e1,hH,hv,BH⟩=>?_;subst e1;exact hn' v w' g' hH hv BH
theorem As.of2{f:FuncId}{fn:Func}(hf:P.funcs[f]?=some fn)(hn:(fn.name=="runtime.NumGoroutine")=false)(hb:fn.body.isNone=false){c:Callee}(hc:bH c)
    (h:∀args E av E',c.run (AV×List Blk) args E (λv b=>some (v,b))=some (av,E')->∃en,Iv P en/\AW en fn (AV×List Blk) args E (λv b=>some (v,b))=some (av,E')):As P f c where
 W9:=hc
 snd args E av E' hr:=by
  obtain⟨en,he,h0⟩:=h args E av E' hr;obtain⟨h1,h2⟩:=XO he hf h0;refine⟨h1,λw g vs H hx o a next Q hn'=>?_⟩
  have:(callFunc f vs.toArray).run P w=.ok (.enter f vs.toArray) w:=by
   have rE:¬fn.name="runtime.NumGoroutine":=by simpa using hn
   have c7:¬fn.body=none:=by
    intro e;rw[e]at hb;cases hb
   simp[callFunc,hf,rE,c7]
  rw[this,Oper.upon_enter];refine(h2 w g vs H hx).mono λe w' ⟨v,g',e1,hH,hv,BH⟩=>?_;subst e1;exact hn' v w' g' hH hv BH
end
def UY(P:Program):Ty->TypeId->Bool
 |.int k,t=>match P.underlying t with |some (.int k')=>k==k' |_=>false
 |.bool,t=>match P.underlying t with |some .bool=>true |_=>false
 |.str,t=>match P.underlying t with |some .string=>true |_=>false
 |.sl u,t=>match P.underlying t with |some (.slice e)=>P.cellsOf e==u.size&&u.size !=0&&UY P u e |_=>false
 |.Au a b,t=>match P.underlying t with
  |some (.struct fs)=>P.cellsOf t==a.size+b.size&&(match fs.toList with |f::r=>f.offset==0&&P.cellsOf f.type==a.size&&UY P a f.type&&eO P b a.size r |[]=>false)
  |_=>false
 |_,_=>false
where eO (P:Program):Ty->Nat->List Field->Bool
 |.Au a b,o,f::r=>f.offset==o&&P.cellsOf f.type==a.size&&UY P a f.type&&eO P b (o+a.size) r
 |.unit,_,[]=>true
 |_,_,_=>false
def Ty.Wf:(t:Ty)->t.V->Prop
 |.int k,n=>k.min<=n/\n<=k.max
 |.str,s=>s.size<=maxLen
 |.Au a b,x=>a.Wf x.1/\b.Wf x.2
 |.sl t,xs=>xs.length<=maxLen/\∀x∈xs,t.Wf x
 |_,_=>True
section
variable {P:Program} {H:Type} {enc:TypeId×Value->H} {w:World} {base:Nat} {sp:Nat->Bool} {held:Bool}
def qq(w:World)(b:Nat):Prop:=b<w.heap.size
theorem SF{α β:Type}{f:α->Option β}{x:α}{l:List α}{r:List β}(h:(x::l).mapM f=some r):∃y ys,f x=some y/\l.mapM f=some ys/\r=y::ys:=by
 simp only[List.mapM_cons,Option.bind_eq_bind,Option.pure_def]at h;cases hx:f x with
 |none=>simp[hx]at h
 |some y =>
  cases hl:l.mapM f with
  |none=>simp[hx,hl]at h
  |some ys=>simp[hx,hl]at h;exact⟨y,ys,rfl,rfl,h.symm⟩
theorem gp(a:Addr)(k:Nat):(a.add k).block=a.block/\(a.add k).off=a.off+k:=by
 unfold Addr.add;split
 ·rename_i h;subst h;exact⟨rfl,rfl⟩
 ·exact⟨rfl,rfl⟩
theorem qW{a:Addr}{k:Nat}{v:Value}(h:w.cell? (a.add k)=some v):w.cell? ⟨a.block,a.off+k,none⟩=some v:=by
 unfold Addr.add at h;split at h
 ·rename_i hk;subst hk;cases a with
  |mk b o sp =>
   cases sp with
   |none=>exact h
   |some q =>
    simp only[World.cell?,Option.isSome_some,if_true]at h;split at h<;>cases h
 ·exact h
theorem ny{u:Ty}{s:Nat}(hs:s=u.size){a:Addr}{F:List Value->Option (DataW H×List MemPlace)}(ih:∀cs y,F cs=some y->∃x:u.V,G1 w (qq w) u x cs/\u.Wf x) :
    ∀(n i:Nat) (ys:List (DataW H×List MemPlace)),(List.range' i n).mapM (λi=>(w.cells? base (a.add (i*s)) s).bind F)=some ys ->
     ∃(xs:List u.V) (ds:List Value),xs.length=n/\Cr (G1 w (qq w) u) xs ds/\(∀x∈xs,u.Wf x)/\∀j v,ds[j]?=some v->w.cell? ⟨a.block,a.off+i*s+j,none⟩=some v
 |0,i,ys,_=>⟨[],[],rfl,rfl,λ_ h=>by(cases h),λj v h=>by simp at h⟩
 |n+1,i,ys,h=>by
  rw[List.range'_succ]at h;obtain⟨y,ys',h1,h2,_⟩:=SF h;obtain⟨c,hc,hF⟩:=Option.bind_eq_some_iff.1 h1;obtain⟨x,hx,hw⟩:=ih c y hF;obtain⟨_,S8,CY⟩:=World.cells?_some hc;obtain⟨xs,ds,hl,hr,hwf,hd⟩:=ny hs ih n (i+1) ys' h2;refine⟨x::xs,c++ds,by simp[hl],⟨c,ds,rfl,hx,hr⟩,λz hz=>by
   rcases List.mem_cons.1 hz with rfl |hz
   ·exact hw
   ·exact hwf z hz,λj v hj=>?_⟩
  rw[AHl]at hj;split at hj
  ·rename_i Bj;rw[<-CY j (by omega)]at hj;have:=qW hj;rw[(gp _ _).1,(gp _ _).2]at this;exact this
  ·rename_i YW;have:=hd _ v hj;have h3:(i+1)*s=i*s+s:=by rw[Nat.add_mul,Nat.one_mul]
   rw[show a.off+(i+1)*s+(j-c.length)=a.off+i*s+j by omega]at this;exact this
theorem AfP:∀(ty:Ty),(∀(t:TypeId) (P0:Nat) (cs:List Value) (y:DataW H×List MemPlace),UY P ty t=true->DataW.trod enc P w base sp held P0 t cs=some y->∃x:ty.V,G1 w (qq w) ty x cs/\ty.Wf x) /\
    ∀(o P0:Nat) (fs:List Field) (cs:List Value) (ys:List (DataW H×List MemPlace)),UY.eO P ty o fs=true->fs.mapM (λf=>DataW.trod enc P w base sp held P0 f.type ((cs.drop f.offset).take (P.cellsOf f.type)))=some ys->cs.length=o+ty.size ->
     ∃x:ty.V,G1 w (qq w) ty x (cs.drop o)/\ty.Wf x:=by
 intro ty;induction ty with
 |int k =>
  refine⟨λt P0 cs y hm h=>?_,λo P0 fs cs ys hm=>by simp[UY.eO]at hm⟩;simp only[UY]at hm;split at hm
  ·rename_i k' hu;have:k=k':=by simpa using hm
   subst this;cases P0 with
   |zero=>simp[DataW.trod]at h
   |succ n =>
    simp only[DataW.trod,hu]at h;split at h<;>try (rename_i he;cases he;done)
    all_goals try (cases h;done)
    all_goals try (rename_i he _;cases he;done)
    rename_i k1 k2 n2 he;injection he with he;injection he with he;subst he;split at h
    ·rename_i hc;obtain⟨hk,hwf⟩:=hc;subst hk;simp only[Lit.wf,AG2,decide_eq_true_eq]at hwf;exact⟨n2,rfl,hwf⟩
    ·cases h
  ·cases hm
 |bool =>
  refine⟨λt P0 cs y hm h=>?_,λo P0 fs cs ys hm=>by simp[UY.eO]at hm⟩;simp only[UY]at hm;split at hm
  ·rename_i hu;cases P0 with
   |zero=>simp[DataW.trod]at h
   |succ n =>
    simp only[DataW.trod,hu]at h;split at h<;>try (rename_i he;cases he;done)
    all_goals try (cases h;done)
    all_goals try (rename_i he _;cases he;done)
    rename_i b he;exact⟨b,rfl,trivial⟩
  ·cases hm
 |str =>
  refine⟨λt P0 cs y hm h=>?_,λo P0 fs cs ys hm=>by simp[UY.eO]at hm⟩;simp only[UY]at hm;split at hm
  ·rename_i hu;cases P0 with
   |zero=>simp[DataW.trod]at h
   |succ n =>
    simp only[DataW.trod,hu]at h;split at h<;>try (rename_i he;cases he;done)
    all_goals try (cases h;done)
    all_goals try (rename_i he _;cases he;done)
    rename_i s he;split at h
    ·rename_i hc;exact⟨s,rfl,hc⟩
    ·cases h
  ·cases hm
 |unit =>
  refine⟨λt P0 cs y hm=>by simp[UY]at hm,λo P0 fs cs ys hm h hl=>?_⟩;refine⟨(),?_,trivial⟩;show cs.drop o=[];rw[List.drop_eq_nil_iff];simp only[Ty.size]at hl;omega
 |P3 z=>exact⟨λt P0 cs y hm=>by simp[UY]at hm,λo P0 fs cs ys hm=>by simp[UY.eO]at hm⟩
 |sl u ih =>
  refine⟨λt P0 cs y hm h=>?_,λo P0 fs cs ys hm=>by simp[UY.eO]at hm⟩;simp only[UY]at hm;split at hm
  ·rename_i e hu;simp only[AG2,beq_iff_eq,bne_iff_ne]at hm;obtain⟨⟨Ks,BF⟩,hm⟩:=hm;cases P0 with
   |zero=>simp[DataW.trod]at h
   |succ n =>
    simp only[DataW.trod,hu]at h;split at h<;>try (rename_i he;cases he;done)
    all_goals try (cases h;done)
    all_goals try (rename_i he _;cases he;done)
    all_goals try (rename_i he _ _;cases he;done)
    ·exact⟨[],⟨none,0,[],rfl,AG1 _,rfl,.inl rfl⟩,Nat.zero_le _,λx hx=>by(cases hx)⟩
    ·rename_i e' a len cap he;injection he with he;injection he with he;subst he;split at h
     ·rename_i hc;obtain⟨elems,R8,_⟩:=Option.bind_eq_some_iff.1 h;rw[List.range_eq_range']at R8;obtain⟨xs,ds,hxl,hr,hwf,hd⟩:=ny (u:=u) Ks (λcs y hy=>ih.1 e n cs y hm hy) len 0 elems R8;subst hxl;refine⟨xs,⟨some a,cap,ds,rfl,hc.2.1,hr,?_⟩,AHp hc.2.1 hc.2.2,hwf⟩;cases xs with
      |nil=>exact .inl rfl
      |cons x xs =>
       refine .inr ?_;rw[List.length_cons,List.range'_succ]at R8;obtain⟨y1,_,h1,_,_⟩:=SF R8;obtain⟨c,OS,_⟩:=Option.bind_eq_some_iff.1 h1;obtain⟨_,S8,CY⟩:=World.cells?_some OS;have GR:=CY 0 (by omega);have Vj:a.spot=none/\qq w a.block:=by
        have XB:∃v,c[0]?=some v:=⟨_,List.getElem?_eq_getElem (by omega)⟩;obtain⟨v,hv⟩:=XB;rw[hv]at GR;have GR:w.cell? a=some v:=by simpa [Addr.add]using GR
        refine⟨?_,World.block_lt_of_cell? w a GR⟩;cases Vj:a.spot with
        |none=>rfl
        |some q =>
         unfold World.cell? at GR;rw[Vj]at GR;split at GR
         ·simp at GR
         ·cases GR
       refine⟨a.block,a.off,?_,Vj.2,λj v hj=>by simpa using hd j v hj⟩;cases a with
       |mk b o sp=>simp only at Vj;rw[Vj.1]
     ·cases h
  ·cases hm
 |Au a b iha ihb =>
  have main:∀(o P0:Nat) (f:Field) (r:List Field) (cs:List Value) (ys:List (DataW H×List MemPlace)),f.offset=o->P.cellsOf f.type=a.size->UY P a f.type=true->UY.eO P b (o+a.size) r=true ->
      (f::r).mapM (λf=>DataW.trod enc P w base sp held P0 f.type ((cs.drop f.offset).take (P.cellsOf f.type)))=some ys->cs.length=o+(a.size+b.size)->∃x:(Ty.Au a b).V,G1 w (qq w) (.Au a b) x (cs.drop o)/\(Ty.Au a b).Wf x:=by
   intro o P0 f r cs ys ho Ks hma hmb h hl;obtain⟨y,ys',h1,h2,_⟩:=SF h;rw[ho,Ks]at h1;obtain⟨xa,hra,hwa⟩:=iha.1 f.type P0 _ y hma h1;obtain⟨xb,hrb,hwb⟩:=ihb.2 (o+a.size) P0 r cs ys' hmb h2 (by omega);refine⟨(xa,xb),⟨_,_,?_,hra,hrb⟩,hwa,hwb⟩;rw[<-List.drop_drop];exact(List.take_append_drop a.size (cs.drop o)).symm
  refine⟨λt P0 cs y hm h=>?_,λo P0 fs cs ys hm h hl=>?_⟩
  ·simp only[UY]at hm;split at hm
   ·rename_i fs hu;rw[AG2]at hm;obtain⟨Ks,hm⟩:=hm;have Ks:P.cellsOf t=a.size+b.size:=by simpa using Ks
    split at hm
    ·rename_i f r hfs;simp only[AG2,beq_iff_eq]at hm;obtain⟨⟨⟨h1,h2⟩,h3⟩,h4⟩:=hm;cases P0 with
     |zero=>simp[DataW.trod]at h
     |succ n =>
      have BH:(if cs.length=P.cellsOf t then(fs.toList.mapM λf=>DataW.trod enc P w base sp held n f.type ((cs.drop f.offset).take (P.cellsOf f.type))).map λxs=>((.agg (xs.map (·.1)):DataW H),xs.flatMap (·.2))else none)=some y:=by
       simp only[DataW.trod,hu]at h;exact h
      split at BH
      ·rename_i S8;cases hq:fs.toList.mapM λf=>DataW.trod enc P w base sp held n f.type ((cs.drop f.offset).take (P.cellsOf f.type))with
       |none=>rw[hq]at BH;cases BH
       |some ys =>
        rw[hfs]at hq;have:=main 0 n f r cs ys h1 h2 h3 (by rw[AHr];exact h4) hq (by omega);simpa using this
      ·cases BH
    ·cases hm
   ·cases hm
  ·cases fs with
   |nil=>simp[UY.eO]at hm
   |cons f r =>
    simp only[UY.eO,AG2,beq_iff_eq]at hm;obtain⟨⟨⟨h1,h2⟩,h3⟩,h4⟩:=hm;exact main o P0 f r cs ys h1 h2 h3 h4 h hl
end
def T1:List Ty->Type
 |[]=>Unit
 |t::ts=>t.V×T1 ts
def T1.av:(ts:List Ty)->T1 ts->List AV
 |[],_=>[]
 |t::ts,x=>.AA [] t x.1::T1.av ts x.2
def T1.Wf:(ts:List Ty)->T1 ts->Prop
 |[],_=>True
 |t::ts,x=>t.Wf x.1/\T1.Wf ts x.2
def G.fW(w:World):G:=⟨λb=>if b<w.heap.size then .H8 else .no,λ_=>⟨none,0,0,0⟩⟩
section
variable {P:Program} {H:Type} {enc:TypeId×Value->H} {w:World} {base:Nat} {sp:Nat->Bool} {held:Bool}
theorem Agb{ty:Ty}{t:TypeId}{v:Value}{x:ty.V}(hm:UY P ty t=true)(hf:v.formed P t=true)(hr:G1 w (qq w) ty x v.cells.toList):Bv ty.isAgg v.cells.toList v:=by
 cases ty with
 |Au a b =>
  simp only[UY]at hm;split at hm
  ·rename_i fs hu;unfold Value.formed at hf;split at hf
   ·rename_i cs;simp[Bv,Ty.isAgg,Value.cells]
   ·cases hf
   ·rw[hu]at hf;cases hf
  ·cases hm
 |int k =>
  simp only[UY]at hm;split at hm
  ·rename_i k' hu;have hr':v.cells.toList=[.int k x]:=hr;cases v<;>simp_all [Bv,Ty.isAgg,Value.cells,Value.formed]
  ·cases hm
 |bool =>
  simp only[UY]at hm;split at hm
  ·rename_i hu;cases v<;>simp_all [Bv,Ty.isAgg,Value.cells,Value.formed]
  ·cases hm
 |str =>
  simp only[UY]at hm;split at hm
  ·rename_i hu;cases v<;>simp_all [Bv,Ty.isAgg,Value.cells,Value.formed]
  ·cases hm
 |sl u =>
  simp only[UY]at hm;split at hm
  ·rename_i e hu;cases v<;>simp_all [Bv,Ty.isAgg,Value.cells,Value.formed]
  ·cases hm
 |unit=>simp[UY]at hm
 |P3 z=>simp[UY]at hm
end
section
variable {P:Program} {H:Type} {enc:TypeId×Value->H}
open Go.ChangeShapes Go.WideShapes Go.ChangeAt Go.RowKit
theorem Xh{w w':World}{base:Nat}{sp:Nat->Bool}{held:Bool}:∀{ts:List TypeId} {vs:List Value} {ds:List (DataW H)} {ps:List MemPlace},DataW.TrodAll enc P w base sp held ts vs ds ps->(∀p∈ps,w.sameAt w' p)->DataW.TrodAll enc P w' base sp held ts vs ds ps
 |[],[],[],_,h,_=>h
 |_::_,_::_,_::_,_,⟨p,q,⟨n,h1⟩,h2,e⟩,hs=>⟨p,q,⟨n,DataW.trod_carry n _ _ _ h1 λx hx=>hs x (by rw[e];exact AHt _ hx)⟩,Xh h2 (λx hx=>hs x (by rw[e];exact AHu _ hx)),e⟩
theorem AbX{f:Func}{s:ChangeSpec}{BN handsOn:Bool}{W W':World}{args:Array Value}{ds gs:List (DataW H)}{before:List MemPlace}(hW:DataW.Whole enc P f.params.toList s.vars false W args.toList ds gs before)(hv:s.vars=[])
    (AbI:gs=[]->s.fn H (ds++gs)={results:=[.lit (.bool true)],args:=ds}) {tb:TypeId} (hrt:f.resultTypes=#[tb]) (hub:P.underlying tb=some .bool) (Ug:∀b,b<W.heap.size->W'.heap[b]?=W.heap[b]?) (hos:W'.os=W.os) (AAz:W'.output=W.output)
    (K:Kids P (·<P.types.size)) (hz:∀t e,t<P.types.size->P.underlying t=some (.slice e)->0<P.cellsOf e) (ht:∀t∈f.params.toList,t<P.types.size):s.post enc P f false BN handsOn false W args (.bool true) W':=by
 have Bj:=hW.lt;obtain⟨p,q,hA,hV,hpq,hfz,QJ⟩:=id hW;rw[hv]at hV;obtain⟨rfl,rfl⟩:=trodVars_none hV;have Vj:=AbI rfl;rw[AHA]at hpq Vj;subst hpq;have dY:∀x∈before,W.sameAt W' x:=λx hx=>by
  have hb:=Ug x.block (Bj x hx);cases x with
  |cell b off=>simp only[World.sameAt,World.cell?];simp only[MemPlace.block]at hb;rw[hb]
  |map b=>exact hb
 have c6:=Xh hA dY;have qe:∀sp:Nat->Bool,(∀x∈before,sp x.block=true)->DataW.TrodAll enc P W' 0 sp true f.params.toList args.toList ds before:=λsp hs=>c6.respare K hz ht hs;have VY:∀(b:Nat) (sp:Nat->Bool) (hd:Bool),DataW.TrodAll enc P W' b sp hd f.resultTypes.toList ((Value.bool true).resultList f.resultTypes.size) [.lit (.bool true)] []:=λb sp hd=>by
  rw[hrt];exact trodAll_cons_mk (shut_bool hub _) trodAll_mk0
 have AbA:∀x∈before,(λb=>decide (b<W.heap.size)) x.block=true:=λx hx=>by simpa using Bj x hx
 refine⟨ds,[],before,[],before,[],hW,?_,?_,?_,⟨hos,AAz,λi hi=>?_⟩,λh=>by cases h⟩
 ·rw[AHA,Vj];exact VY _ _ _
 ·rw[AHA,Vj];exact qe _ AbA
 ·rw[hv];rw[AHA,Vj];rfl
 ·rw[Ug i hi];cases hq:W.heap[i]? with
  |none=>rfl
  |some o=>cases o<;>first |exact⟨rfl,rfl,rfl,λ_ _=>rfl⟩|exact .inr ⟨rfl,rfl⟩|rfl
def lG(P:Program):List Ty->List TypeId->Bool
 |[],[]=>true
 |ty::tys,t::ts=>UY P ty t&&lG P tys ts
 |_,_=>false
theorem gC{w:World}{base:Nat}{sp:Nat->Bool}{held:Bool}:∀{tys:List Ty} {ts:List TypeId} {vs:List Value} {ds:List (DataW H)} {ps:List MemPlace},lG P tys ts=true->DataW.TrodAll enc P w base sp held ts vs ds ps ->
    (∀(j:Nat) t v,ts[j]?=some t->vs[j]?=some v->v.formed P t=true)->∃xs:T1 tys,T1.Wf tys xs/\Dd w (G.fW w) 0 (T1.av tys xs) vs
 |[],[],[],[],_,_,_,_=>⟨(),trivial,trivial⟩
 |ty::tys,t::ts,v::vs,d::ds,_,hm,⟨p,q,⟨n,h1⟩,h2,_⟩,hf=>by
  simp only[lG,AG2]at hm;obtain⟨x,hr,hw⟩:=(AfP ty).1 t n _ _ hm.1 h1;obtain⟨xs,hws,ha⟩:=gC hm.2 h2 λj t v h3 h4=>hf (j+1) t v (by simpa using h3) (by simpa using h4);refine⟨(x,xs),⟨hw,hws⟩,Bn rfl (cs:=v.cells.toList) ⟨λk hk=>by(cases hk),hr.mono λb hb=>⟨.inl ?_,rfl⟩⟩ (Agb hm.1 (hf 0 t v rfl rfl) hr),ha⟩;have hb:b<w.heap.size:=hb;simp[G.fW,hb]
 |[],_::_,_,_,_,hm,_,_=>by simp[lG]at hm
 |_::_,[],_,_,_,hm,_,_=>by simp[lG]at hm
 |[],[],_::_,_,_,_,h,_=>by simp[DataW.TrodAll]at h
 |[],[],[],_::_,_,_,h,_=>by simp[DataW.TrodAll]at h
 |_::_,_::_,[],_,_,_,h,_=>by simp[DataW.TrodAll]at h
 |_::_,_::_,_::_,[],_,_,h,_=>by simp[DataW.TrodAll]at h
theorem Acp(w:World):Bc w (G.fW w) []:=⟨λb hb=>by simp[G.fW];omega,λk x hx=>by simp at hx⟩
theorem wv{en:Bd}(he:Iv P en){f:FuncId}{fn:Func}(hf:P.funcs[f]?=some fn){av:List AV}{w:World}{vs:List Value}(DR:AW en fn (AV×List Blk) av [] (λv b=>some (v,b))=some (.bool true,[]))(ha:Dd w (G.fW w) 0 av vs) :
    Calls P f vs.toArray w λe w'=>e=.returned (.bool true)/\(∀b,b<w.heap.size->w'.heap[b]?=w.heap[b]?)/\w'.os=w.os/\w'.output=w.output:=by
 refine((XO he hf DR).2 w (G.fW w) vs (Acp w) ha).mono λe w' ⟨v,g',e1,_,hv,st⟩=>?_;have:=QZ hv;subst this;exact⟨e1,λb hb=>(st.H8 b (by simp[G.fW,hb])).2,st.os,st.output⟩
theorem nM{ty:Ty}{t:TypeId}{v:Value}{w:World}{r:Reach}{base:Nat}(hm:UY P ty t=true)(h:Value.okWide P w r base t v):v.formed P t=true:=by
 unfold Value.okWide at h;cases ty with
 |Au a b =>
  simp only[UY]at hm;split at hm
  ·rename_i fs hu;rw[hu]at h;obtain⟨cs,rfl,hs,_⟩:=h;simp[Value.formed,hu,hs]
  ·cases hm
 |int k =>
  simp only[UY]at hm;split at hm
  ·rename_i k' hu;rw[hu]at h;cases v<;>simp_all [Value.formed,Cell.okWide,Cell.ok]
  ·cases hm
 |bool =>
  simp only[UY]at hm;split at hm
  ·rename_i hu;rw[hu]at h;cases v<;>simp_all [Value.formed,Cell.okWide,Cell.ok]
  ·cases hm
 |str =>
  simp only[UY]at hm;split at hm
  ·rename_i hu;rw[hu]at h;cases v<;>simp_all [Value.formed,Cell.okWide,Cell.ok]
  ·cases hm
 |sl u =>
  simp only[UY]at hm;split at hm
  ·rename_i e hu;rw[hu]at h;cases v<;>simp_all [Value.formed,Cell.okWide,Cell.ok]
  ·cases hm
 |unit=>simp[UY]at hm
 |P3 z=>simp[UY]at hm
theorem law_contract{en:Bd}(he:Iv P en){f:FuncId}{fn:Func}(hf:P.funcs[f]?=some fn){tys:List Ty}(hm:lG P tys fn.params.toList=true){s:ChangeSpec}(hv:s.vars=[]){tb:TypeId}(hrt:fn.resultTypes=#[tb])(hub:P.underlying tb=some .bool)
    (K:Kids P (·<P.types.size)) (hz:∀t e,t<P.types.size->P.underlying t=some (.slice e)->0<P.cellsOf e) (ht:∀t∈fn.params.toList,t<P.types.size)
    {W:World} {base:Nat} {args:Array Value} {ds gs:List (DataW H)} {before:List MemPlace} (AbI:gs=[]->s.fn H (ds++gs)={results:=[.lit (.bool true)],args:=ds})
    (hval:∀(j:Nat) t v,fn.params[j]?=some t->args[j]?=some v->Value.okWide P W .any base t v) (hW:DataW.Whole enc P fn.params.toList s.vars false W args.toList ds gs before)
    (DR:∀xs:T1 tys,T1.Wf tys xs->AW en fn (AV×List Blk) (T1.av tys xs) [] (λv b=>some (v,b))=some (.bool true,[])) {BN handsOn:Bool} :
    Calls P f args W λe W'=>∃v,e=.returned v/\s.post enc P fn false BN handsOn false W args v W':=by
 obtain⟨p,q,hA,_⟩:=id hW;have W3:∀(j:Nat) t v,fn.params.toList[j]?=some t->args.toList[j]?=some v->v.formed P t=true:=λj t v h1 h2=>by
  rw[AG9]at h1 h2;have key:∀(tys:List Ty) (ts:List TypeId) (j:Nat),lG P tys ts=true->ts[j]?=some t->∃ty,UY P ty t=true:=by
   intro tys;induction tys with
   |nil=>intro ts j hm hj;cases ts<;>simp_all [lG]
   |cons ty tys ih =>
    intro ts j hm hj;cases ts with
    |nil=>simp at hj
    |cons u ts =>
     simp only[lG,AG2]at hm;cases j with
     |zero=>simp at hj;subst hj;exact⟨ty,hm.1⟩
     |succ j=>exact ih ts j hm.2 (by simpa using hj)
  obtain⟨ty,aI⟩:=key tys fn.params.toList j hm (by rw[AG9];exact h1);exact nM aI (hval j t v h1 h2)
 obtain⟨xs,hwf,ha⟩:=gC hm hA W3;have:=wv he hf (DR xs hwf) ha;rw[Array.toArray_toList]at this;refine this.mono λe W' ⟨e1,h1,h2,h3⟩=>⟨_,e1,AbX hW hv AbI hrt hub h1 h2 h3 K hz ht⟩
end
theorem Ab6{A B:Type}(f:A->B)(c:Prop)[Decidable c](x:Option A):(if c then none else x).map f=if c then none else x.map f:=by split<;>rfl
theorem Ab5{A B C D:Type}(f:C->D)(g:A->Option C)(h:B->Option C)(y:A⊕B):(Sum.elim g h y).map f=Sum.elim (λa=>(g a).map f) (λb=>(h b).map f) y:=by cases y<;>rfl
theorem vk{A B:Type}(k:A->Option B)(c:Bool)(x y:Option A):(bif c then x else y).bind k=bif c then x.bind k else y.bind k:=by cases c<;>rfl
theorem yW{A B:Type}(k:A->Option B)(c:Prop)[Decidable c](x y:Option A):(if c then x else y).bind k=if c then x.bind k else y.bind k:=by split<;>rfl
theorem vo{A B:Type}(k:A->Option B)(c:Prop)[Decidable c](x:Option A):(if c then none else x).bind k=if c then none else x.bind k:=by split<;>rfl
theorem vn{A B C D:Type}(k:C->Option D)(g:A->Option C)(h:B->Option C)(y:A⊕B):(Sum.elim g h y).bind k=Sum.elim (λa=>(g a).bind k) (λb=>(h b).bind k) y:=by cases y<;>rfl
theorem G7(s:St):Sl s s=some ():=by simp[Sl]
def code(f:Func):Code:=(f.body).getD .skip
def AmD:Code->Array Oper
 |.region _ BW _=>BW
 |_=>#[]
def xM(P:Program):List (Nat×Callee)->Prop
 |[]=>True
 |(n,c)::r=>As P n c/\xM P r
theorem Aa2{P:Program}:∀{l:List (Nat×Callee)},xM P l->∀g c,Az l g=some c->As P g c
 |[],_,_,_,h=>by cases h
 |(n,c)::r,⟨h1,h2⟩,g,c',h=>by
  simp only[Az]at h;split at h
  ·rename_i e;have e:n=g:=by simpa using e
   subst e;injection h with h;subst h;exact h1
  ·exact Aa2 h2 g c' h
def Xq(e:Nat)(t:Ty)(bytes:Nat):Callee:={iG:=[.d (.sl t)],run:=λR avs E K=>match avs,E with
    |[.AA [] u xs],[]=>match Iw u (.sl t) xs with
     |some xs=>if xs.length*bytes<=140737488355328 then K (.Ak 0) [.row e (if t.BD then .Ai else .sh []) t xs]else none
     |_=>none
    |_,_=>none}
theorem As.kS{P:Program}{f:FuncId}{fn:Func}(hf:P.funcs[f]?=some fn)(hn:(fn.name=="runtime.NumGoroutine")=false)(hb:fn.body.isNone=false){c:Callee}(hc:bH c)
    (h:∀args E av E',c.run (AV×List Blk) args E (λv b=>some (v,b))=some (av,E')->E.length<=E'.length/\∀(w:World) (g:G) (vs:List Value),Bc w g E->Dd w g E.length args vs ->
     Calls P f vs.toArray w λe w'=>∃v g',e=.returned v/\Bc w' g' E'/\BR w' g' E'.length av v/\Bu E.length w g w' g'):As P f c where
 W9:=hc
 snd args E av E' hr:=by
  obtain⟨h1,h2⟩:=h args E av E' hr;refine⟨h1,λw g vs H hx o a next Q hn'=>?_⟩
  have:(callFunc f vs.toArray).run P w=.ok (.enter f vs.toArray) w:=by
   have rE:¬fn.name="runtime.NumGoroutine":=by simpa using hn
   have c7:¬fn.body=none:=by
    intro e;rw[e]at hb;cases hb
   simp[callFunc,hf,rE,c7]
  rw[this,Oper.upon_enter];refine(h2 w g vs H hx).mono λe w' ⟨v,g',e1,hH,hv,BH⟩=>?_;subst e1;exact hn' v w' g' hH hv BH
theorem vH{P:Program}{t:TypeId}{ti:TI}(ht:EA P t ti)(hs:ti.D4=true){ad:Option Addr}{n c:Nat}{x y:Operand}(w:World) :
    (do eqGuard .eql t x y (.slice ad n c) (.slice none 0 0);binOp .eql t (.slice ad n c) (.slice none 0 0):Sem Value).run P w=.ok (.bool ad.isNone) w:=by
 have hu:=BB ht hs;have h1:∀d,(Op.equalIn (d+1) t (.slice ad n c) (.slice none 0 0)).run P w=.ok ad.isNone w:=by
  intro d;unfold Op.equalIn;cases ad<;>simp[underlying,hu]
 have h2:(Op.equal t (.slice ad n c) (.slice none 0 0)).run P w=.ok ad.isNone w:=h1 (Op.maxDepth-1);show(do pure (.bool (<-Op.equal t (.slice ad n c) (.slice none 0 0))):Sem Value).run P w=_
 rw[Sem.run_bind,h2];rfl
section
variable {P:Program} {en:Bd}
theorem nc(he:Iv P en){f:FuncId}{fn:Func}(hf:P.funcs[f]?=some fn){R0 R2 T:Code}{id:Nat}{o3 o4:Oper}{t t2 e bytes:Nat}{u:Ty}{ti:TI}
    (hb:fn.body=some (R0.seq (((Code.region id #[o3,o4] false).seq (Code.cond (.tmp 4) (R2.seq .ret) .skip)).seq T))) (hnt:fn.ntmps=8) (VY:fn.results=#[.tmp 2])
    (h3:o3.op=.move (.tmp 0)/\o3.dst=some 3/\o3.guard=none) (h4:o4.op=.binOp .eql t (.tmp 3) (.const (.slice none 0 0)) t2/\o4.dst=some 4/\o4.guard=none)
    (ht:en.A7.get t=some ti) (Iz:ti.D4=true) (hu:u.row=true)
    (hR0:∀xs:(Ty.sl u).V,ev en 0 R0 (Ex×St) ⟨[.AA [] (.sl u) xs,.un 0,.un 0,.un 0,.un 0,.un 0,.un 0,.un 0],[]⟩ Nk=some (.normal,⟨[.AA [] (.sl u) xs,.un 0,.zs,.un 0,.un 0,.un 0,.un 0,.un 0],[]⟩))
    (hA:∀xs:(Ty.sl u).V,ev en 0 (R2.seq .ret) (Ex×St) ⟨[.AA [] (.sl u) xs,.un 0,.zs,.AA [] (.sl u) xs,.bool true,.un 0,.un 0,.un 0],[]⟩ Nk=some (.ret,⟨[.AA [] (.sl u) xs,.un 0,.zs,.AA [] (.sl u) xs,.bool true,.un 0,.un 0,.un 0],[]⟩))
    (hT:∀xs:(Ty.sl u).V,xs.length*bytes<=140737488355328->ev en 0 T (Ex×St) ⟨[.AA [] (.sl u) xs,.un 0,.zs,.AA [] (.sl u) xs,.bool false,.un 0,.un 0,.un 0],[]⟩ Nk=some (.ret,⟨[.AA [] (.sl u) xs,.un 0,.Ak 0,.AA [] (.sl u) xs,.bool false,.zs,.AA [] (.sl u) xs,.Ak 0],[.row e (if u.BD then .Ai else .sh []) u xs]⟩))
    {xs:(Ty.sl u).V} (Afh:xs.length*bytes<=140737488355328) (w:World) (g:G) (vs:List Value) (H:Bc w g []) (hx:Dd w g 0 [.AA [] (.sl u) xs] vs) :
    Calls P f vs.toArray w λee w'=>∃v g',ee=.returned v/\Bc w' g' [.row e (if u.BD then .Ai else .sh []) u xs]/\BR w' g' 1 (.Ak 0) v/\Bu 0 w g w' g':=by
 refine calls_of_wp hf hb ?_;have qf:=YS H hx (n:=fn.ntmps) (by rw[hnt];simp);have AAJ:JZ w g ⟨[.AA [] (.sl u) xs,.un 0,.un 0,.un 0,.un 0,.un 0,.un 0,.un 0],[]⟩ {tmps:=vs.toArray++Array.replicate (fn.ntmps-vs.toArray.size) undef,defers:=[]}:=by
  rw[hnt]at qf;rw[hnt];exact qf
 have TH:∀(a':Act) (w':World) (g':G),a'.defers=[]->Bu 0 w g w' g'->(∃vO,Bc w' vO [.row e (if u.BD then .Ai else .sh []) u xs]/\BR w' vO 1 (.Ak 0) (a'.tmps.getD 2 undef)/\Bu 0 w' g' w' vO) ->
     a'.defers=[]/\∃v,(results fn a'.tmps).run P w'=.ok v w'/\∃v' g',Ending.returned v=.returned v'/\Bc w' g' [.row e (if u.BD then .Ai else .sh []) u xs]/\BR w' g' 1 (.Ak 0) v'/\Bu 0 w g w' g':=by
  intro a' w' g' hd BH ⟨vO,H'',ub,rG⟩;refine⟨hd,a'.tmps.getD 2 undef,?_,_,vO,rfl,H'',ub,BH.trans rG⟩;rw[dU,VY,Array.mapM_eq_mapM_toList];simp[AcE]
 refine wp_seq ((O0 he R0 _ _ _ (hR0 xs) (AG1 _)).2 _ w g _ AAJ λa1 w1 g1 Qa Qc db=>?_);simp only[jX];refine wp_seq (wp_seq (wp_region ?_));have Vk:=Qa.AJ 0 _ rfl;obtain⟨cs,RN,hval⟩:=BO rfl rfl Vk;obtain⟨_,ad,cap,ds,AlQ,hlen,Abq,km⟩:=RN;subst AlQ;have xD:a1.tmps.getD 0 undef=.slice ad xs.length cap:=by
  have:[Value.slice ad xs.length cap]=[a1.tmps.getD 0 undef]:=hval;injection this with h _;exact h.symm
 have AAv:ad=none->xs=[]:=λh=>by
  rcases km with h1 |⟨b,off,h1,_⟩
  ·exact h1
  ·rw[h]at h1;cases h1
 let a2:=(a1.put (some 3) (.slice ad xs.length cap)).put (some 4) (.bool ad.isNone)
 have Ks:a1.tmps.size=8:=Qa.len.symm;have WE:JZ w1 g1 ⟨[.AA [] (.sl u) xs,.un 0,.zs,.AA [] (.sl u) xs,.bool ad.isNone,.un 0,.un 0,.un 0],[]⟩ a2:=by
  refine⟨Qa.heap,by simp[a2,Up,Ks],λi x hx=>?_⟩;have h5:∀i,i≠3->i≠4->a2.tmps.getD i undef=a1.tmps.getD i undef:=λi h3 h4=>by
   simp only[a2];rw[Tx (by simpa using λh=>h4 h.symm),Tx (by simpa using λh=>h3 h.symm)]
  match i,hx with
  |0,hx=>rw[h5 0 (by decide) (by decide)];exact Qa.AJ 0 x hx
  |1,hx=>rw[h5 1 (by decide) (by decide)];exact Qa.AJ 1 x hx
  |2,hx=>rw[h5 2 (by decide) (by decide)];exact Qa.AJ 2 x hx
  |3,hx =>
   injection hx with hx;subst hx;have:a2.tmps.getD 3 undef=.slice ad xs.length cap:=by
    simp only[a2];rw[Tx (by decide),Rb (by omega)]
   rw[this,<-xD];exact Vk
  |4,hx =>
   injection hx with hx;subst hx;have:a2.tmps.getD 4 undef=.bool ad.isNone:=by
    simp only[a2];rw[Rb (by rw[Up];omega)]
   rw[this];exact Bn (cs:=[.bool ad.isNone]) rfl ⟨λk hk=>by(cases hk),rfl⟩ rfl
  |5,hx=>injection hx with hx;subst hx;exact PX
  |6,hx=>injection hx with hx;subst hx;exact PX
  |7,hx=>injection hx with hx;subst hx;exact PX
  |i+8,hx=>simp at hx
 have e3:a1.eval (.tmp 0)=.slice ad xs.length cap:=xD;have Az9:(a1.put (some 3) (.slice ad xs.length cap)).eval (.tmp 3)=.slice ad xs.length cap:=by
  show(a1.put (some 3) (.slice ad xs.length cap)).tmps.getD 3 undef=_;rw[Rb (by omega)]
 simp only[List.range,wpOps];show wpOps P #[o3,o4] _ [0,1] a1 w1;simp only[wpOps];have g0:(#[o3,o4]:Array Oper)[0]?=some o3:=rfl;have g1':(#[o3,o4]:Array Oper)[1]?=some o4:=rfl;rw[g0,g1'];simp only[Region.wanted,h3.2.2,h4.2.2,if_true];refine .inl ?_;unfold Oper.wp;rw[show(execOp a1.eval o3).run P w1=.ok (.value (.slice ad xs.length cap)) w1 by simp[execOp,h3.1,e3],Oper.upon_value,h3.2.1];have AwB:(a1.put (some 3) (.slice ad xs.length cap)).tmps.getD 3 undef=.slice ad xs.length cap:=Az9;have Axa:(execOp (a1.put (some 3) (.slice ad xs.length cap)).eval o4).run P w1=.ok (.value (.bool ad.isNone)) w1:=by
  have:=vH (P:=P) (t:=t) (he.t ht) Iz (ad:=ad) (n:=xs.length) (c:=cap) (x:=.tmp 3) (y:=.const (.slice none 0 0)) w1;simp only[execOp,h4.1,Act.eval,AwB];rw[Sem.run_bind,this];rfl
 refine .inl ?_;rw[Axa,Oper.upon_value,h4.2.1];show(Code.cond (.tmp 4) (R2.seq .ret) .skip).wp P _ a2 w1;have Afk:a2.eval (.tmp 4)=.bool ad.isNone:=by
  show a2.tmps.getD 4 undef=_;simp only[a2];rw[Rb (by rw[Up];omega)]
 have hd2:a2.defers=[]:=by simp only[a2,Go.Va.put_defers];exact db
 cases ru:ad with
 |none =>
  have hxs:=AAv ru;subst hxs;rw[ru]at WE Afk;refine wp_cond_true Afk ?_;refine(O0 he _ _ _ _ (hA []) (AG1 _)).2 a2 w1 g1 _ WE λa3 w3 g3 oo st3 hd3=>?_;have hz:=oo.AJ 2 _ rfl;obtain⟨g4,H4,AzY,st4⟩:=qY oo.heap (c:=.row [] e u false) (a:=.zs) (a':=.Ak 0) (nb:=[.row e (if(u.BD||false)=true then .Ai else .sh []) u []]) (by simp[vy,AV.TJ,AV.XS,hu]) hz;exact TH a3 w3 g3 (hd3.trans hd2) (Qc.trans st3) ⟨g4,by simpa using H4,by simpa using AzY,st4.sH (Nat.zero_le _)⟩
 |some ad0 =>
  rw[ru]at WE Afk;refine wp_cond_false Afk (wp_skip ?_);refine(O0 he _ _ _ _ (hT xs Afh) (AG1 _)).2 a2 w1 g1 _ WE λa3 w3 g3 oo st3 hd3=>?_;exact TH a3 w3 g3 (hd3.trans hd2) (Qc.trans st3) ⟨g3,oo.heap,oo.AJ 2 _ rfl,Bu.refl _ _ _⟩
theorem vu{e bytes:Nat}{u:Ty}:bH (Xq e u bytes):=by
 intro R args E K;simp only[Xq];split
 ·split
  ·split<;>rfl
  ·rfl
 ·rfl
theorem Zf(he:Iv P en){f:FuncId}{fn:Func}(hf:P.funcs[f]?=some fn)(hn:(fn.name=="runtime.NumGoroutine")=false){R0 R2 T:Code}{id:Nat}{o3 o4:Oper}{t t2 e bytes:Nat}{u:Ty}{ti:TI}
    (hb:fn.body=some (R0.seq (((Code.region id #[o3,o4] false).seq (Code.cond (.tmp 4) (R2.seq .ret) .skip)).seq T))) (hnt:fn.ntmps=8) (VY:fn.results=#[.tmp 2])
    (h3:o3.op=.move (.tmp 0)/\o3.dst=some 3/\o3.guard=none) (h4:o4.op=.binOp .eql t (.tmp 3) (.const (.slice none 0 0)) t2/\o4.dst=some 4/\o4.guard=none)
    (ht:en.A7.get t=some ti) (Iz:ti.D4=true) (hu:u.row=true)
    (hR0:∀xs:(Ty.sl u).V,ev en 0 R0 (Ex×St) ⟨[.AA [] (.sl u) xs,.un 0,.un 0,.un 0,.un 0,.un 0,.un 0,.un 0],[]⟩ Nk=some (.normal,⟨[.AA [] (.sl u) xs,.un 0,.zs,.un 0,.un 0,.un 0,.un 0,.un 0],[]⟩))
    (hA:∀xs:(Ty.sl u).V,ev en 0 (R2.seq .ret) (Ex×St) ⟨[.AA [] (.sl u) xs,.un 0,.zs,.AA [] (.sl u) xs,.bool true,.un 0,.un 0,.un 0],[]⟩ Nk=some (.ret,⟨[.AA [] (.sl u) xs,.un 0,.zs,.AA [] (.sl u) xs,.bool true,.un 0,.un 0,.un 0],[]⟩))
    (hT:∀xs:(Ty.sl u).V,xs.length*bytes<=140737488355328->ev en 0 T (Ex×St) ⟨[.AA [] (.sl u) xs,.un 0,.zs,.AA [] (.sl u) xs,.bool false,.un 0,.un 0,.un 0],[]⟩ Nk=some (.ret,⟨[.AA [] (.sl u) xs,.un 0,.Ak 0,.AA [] (.sl u) xs,.bool false,.zs,.AA [] (.sl u) xs,.Ak 0],[.row e (if u.BD then .Ai else .sh []) u xs]⟩)) :
    As P f (Xq e u bytes):=by
 refine As.kS hf hn (by rw[hb];rfl) vu λargs E av E' h=>?_;simp only[Xq]at h;split at h
 ·split at h
  ·rename_i xs hc;obtain⟨e1,q⟩:=BA hc;subst e1;subst q;split at h
   ·rename_i Afh;simp only[AGX,AG8]at h;obtain⟨rfl,rfl⟩:=h;exact⟨Nat.zero_le _,λw g vs H hx=>nc he hf hb hnt VY h3 h4 ht Iz hu hR0 hA hT Afh w g vs H hx⟩
   ·cases h
  ·cases h
 ·cases h
end
open Go.Sort Go.Shelf
def leI(x y:Int):Bool:=decide (x<=y)
def Np(xs:List Int):List Int:=xs.mergeSort leI
def MN(xs:List Int):List Int:=Lib.compact xs
def pz:Callee:={iG:=[.Vu],run:=λ_ avs E K=>match avs,E with
    |[.Ak 0],[.row e .Ai u xs]=>match Iw (.sl u) (.sl (.int .i64)) xs with
     |some xs=>if xs.length<4611686018427387904 then K .nil [.row e .Ai (.int .i64) (Np xs)]else none
     |none=>none
    |[.zs],[]=>K .nil []
    |_,_=>none}
def pU:Callee:={iG:=[.Vu],run:=λ_ avs E K=>match avs,E with
    |[.Ak 0],[.row e .Ai u xs]=>match Iw (.sl u) (.sl (.int .i64)) xs with
     |some xs=>K (.Ak 1) [.AH,.row e .Ai (.int .i64) (MN xs)]
     |none=>none
    |_,_=>none}
theorem Ac7:bH pz:=by
 intro R args E K;simp only[pz];split
 ·split
  ·split<;>rfl
  ·rfl
 ·rfl
 ·rfl
theorem Adt:bH pU:=by
 intro R args E K;simp only[pU];split
 ·split<;>rfl
 ·rfl
section
variable {w:World} {g:G} {n:Nat}
theorem Uh{own:Nat->Sf}{k:Nat}:∀{xs:List Int} {j:Nat} {ds:List Value},Be (λi=>I7 w own k (.int .i64) [i]) j xs ds↔ds=xs.map (Value.int .i64)
 |[],_,_=>Iff.rfl
 |x::xs,j,ds=>by
  constructor
  ·rintro⟨c,d,e,h1,h2⟩
   have h1:c=[.int .i64 x]:=h1;rw[e,h1,Uh.1 h2];rfl
  ·intro e;exact⟨[.int .i64 x],xs.map (Value.int .i64),by rw[e];rfl,rfl,Uh.2 rfl⟩
theorem dj{b el:Nat}{Bs:Array Value}{xs:List Int}(hc:w.heap[b]?=some (.cells Bs el (0,0)))(hd:Bs.toList.take (xs.length*1)=xs.map (Value.int .i64)):Holds (Value.int .i64) w b 0 xs.toArray:=by
 intro j hj;have hj:j<xs.length:=by simpa using hj
 constructor
 ·have h1:(Bs.toList.take (xs.length*1))[j]?=some (.int .i64 xs[j]):=by rw[hd];simp[hj]
  rw[List.getElem?_take,AHd (by omega)]at h1;simp only[World.cell?,hc,AHr];simpa [hj]using h1
 ·simp[World.frozen?,hc]
theorem oZ{b el:Nat}{Bs:Array Value}{q:Nat}{d:Array Int}(hc:w.heap[b]?=some (.cells Bs el (0,0))):(putRow (Value.int .i64) (Sort.ahead w q) b 0 d).heap[b]?=some (.cells (putCells (Value.int .i64) 0 d Bs) el (0,0)):=by
 simp[putRow,mapBlock,Sort.ahead,Array.getElem?_modify,hc,onCells]
theorem iU{b c q:Nat}{d:Array Int}(h:c≠b):(putRow (Value.int .i64) (Sort.ahead w q) b 0 d).heap[c]?=w.heap[c]?:=by
 simp[putRow,mapBlock,Sort.ahead,Array.getElem?_modify,h.symm]
theorem WJ(w:World)(b q:Nat)(d:Array Int):(putRow (Value.int .i64) (Sort.ahead w q) b 0 d).heap.size=w.heap.size:=by
 simp[putRow,mapBlock,Sort.ahead]
theorem Xb{Bs:Array Value}{d:Array Int}{m:Nat}(hm:m<=d.size)(hs:d.size<=Bs.size):(putCells (Value.int .i64) 0 d Bs).toList.take m=(d.toList.take m).map (Value.int .i64):=by
 apply List.ext_getElem?;intro i;rw[List.getElem?_take,AHo,List.getElem?_take];split
 ·rename_i h;have h1:i<Bs.size:=by omega
  have h2:i<d.size:=by omega
  simp[putCells,h1,h2]
 ·rfl
theorem rP{E:List Blk}(H:Bc w g E){b k:Nat}{r:List Nat}(h:g.own b=.BG k r):b<w.heap.size:=by
 by_cases hb:b<w.heap.size
 ·exact hb
 ·rw[H.BN b (by omega)]at h;cases h
end
section
variable {P:Program} {ρ:Shelf.Ren}
theorem Ac8(L:Proofs.SlLaysN.n53 P ρ){f:FuncId}{fn:Func}(e:ρ.f 53=f)(hf:P.funcs[f]?=some fn)(hn:(fn.name=="runtime.NumGoroutine")=false)(hb:fn.body.isNone=false):As P f pz:=by
 refine As.kS hf hn hb Ac7 λargs E av E' h=>?_;simp only[pz]at h;split at h
 ·rename_i el u xs;split at h
  ·rename_i ys hc;obtain⟨e1,q⟩:=BA hc;cases e1;have q:xs=ys:=q;subst q;split at h
   ·rename_i Bj;simp only[AGX,AG8]at h;obtain⟨rfl,rfl⟩:=h;refine⟨AG1 _,λw g vs H hx=>?_⟩
    match vs,hx with
    |[v],⟨hv,_⟩ =>
     obtain⟨_,hv⟩:=FJ hv;subst hv;obtain⟨PZ,hl,OU,BF,hr⟩:=H.Lf 0 _ rfl;rcases hr with ⟨Vk,GR⟩|⟨b,Bs,ds,ha,ho,⟨ce,he,CY⟩,h1,h2,h3,h4,h5⟩
     ·rw[GR,hl,Vk,<-e];refine(Proofs.AnyG.slices_Sort_int_none L _ 0 w).mono λe w' ⟨e1,e2⟩=>?_;subst e1;subst e2;exact⟨_,g,rfl,by simpa [Vk,Np]using H,rfl,Bu.refl _ _ _⟩
     ·rw[hl,ha,<-e];have h5:ds=_:=Uh.1 h5;have h4:Bs.toList.take (List.length (α:=Int) xs*1)=ds:=h4;rw[h5]at h4;have Ks:Bs.size=(g.AU 0).cap*1:=h3;refine(Proofs.AnyG.slices_Sort_int L b 0 _ xs w (dj CY h4) (rP H ho) Bj).mono λe w' ⟨e1,n,os,e2⟩=>?_;subst e1;have lV:=rP H ho;have Ug:∀c,c≠b->c<w.heap.size->w'.heap[c]?=w.heap[c]?:=λc hc Bj=>by
       rw[e2];show((putRow _ _ _ _ _).heap++os)[c]?=_;rw[Array.getElem?_append_left (by rw[WJ];exact Bj),iU hc]
      have Yv:w'.heap[b]?=some (.cells (putCells (Value.int .i64) 0 (List.toArray (Np xs)) Bs) ce (0,0)):=by
       rw[e2];show((putRow _ _ _ _ _).heap++os)[b]?=_;rw[Array.getElem?_append_left (by rw[WJ];exact lV)];exact oZ CY
      have Oz:w.heap.size<=w'.heap.size:=by
       rw[e2];show _<=((putRow _ _ _ _ _).heap++os).size;rw[Array.size_append,WJ];omega
      refine⟨_,g,rfl,⟨λc hc=>H.BN c (by omega),λk x hx=>?_⟩,rfl,?_⟩
      ·match k,hx with
       |0,hx =>
        injection hx with hx;subst hx;have hls:(Np xs).length=List.length (α:=Int) xs:=List.length_mergeSort _;refine⟨λj hj=>by(cases hj),by rw[hl];exact hls.symm,OU,BF,.inr ⟨b,_,_,ha,ho,⟨ce,he,Yv⟩,?_,h2,?_,rfl,?_⟩⟩
        ·rw[hls];exact h1
        ·simpa [putCells]using h3
        ·show mb w' g.own 0 .Ai (.int .i64) _ _;refine Uh.2 ?_;rw[Xb (by simp[Ty.size]) (by simp only[List.size_toArray,hls];omega)];simp[Ty.size]
       |k+1,hx=>simp at hx
      ·refine⟨by rw[e2];rfl,by rw[e2];rfl,by rw[e2];rfl,Oz,λc hc h=>⟨h,Ug c (λe=>by rw[e,ho]at h;cases h) hc⟩,λc h=>⟨h,?_⟩,λc k r h hk hm=>(hm (List.mem_range.2 hk)).elim,λk hk=>rfl⟩;by_cases RN:c<w.heap.size
       ·exact Ug c (λe=>by rw[e,ho]at h;cases h) RN
       ·rw[H.BN c (by omega)]at h;cases h
   ·cases h
  ·cases h
 ·simp only[AGX,AG8]at h;obtain⟨rfl,rfl⟩:=h;refine⟨AG1 _,λw g vs H hx=>?_⟩
  match vs,hx with
  |[v],⟨hv,_⟩ =>
   obtain⟨cs,⟨ad,RN⟩,hval⟩:=BO rfl rfl hv;subst RN;have hv:v=.slice ad 0 0:=by
    have:[Value.slice ad 0 0]=[v]:=hval;injection this with h _;exact h.symm
   subst hv;rw[<-e];refine(Proofs.AnyG.slices_Sort_int_none L ad 0 w).mono λe w' ⟨e1,e2⟩=>?_;subst e1;subst e2;exact⟨_,g,rfl,H,rfl,Bu.refl _ _ _⟩
 ·cases h
theorem Ads(xs:List Int):(MN xs).length<=xs.length:=by
 unfold MN Lib.compact Lib.compactUpTo;rw[AG7];exact AHp (List.length_filter_le _ _) (by simp)
theorem Adu(L:Proofs.SlLaysN.n43 P ρ){f:FuncId}{fn:Func}(e:ρ.f 43=f)(hf:P.funcs[f]?=some fn)(hn:(fn.name=="runtime.NumGoroutine")=false)(hb:fn.body.isNone=false):As P f pU:=by
 refine As.kS hf hn hb Adt λargs E av E' h=>?_;simp only[pU]at h;split at h
 ·rename_i el u xs;split at h
  ·rename_i ys hc;obtain⟨e1,q⟩:=BA hc;cases e1;have q:xs=ys:=q;subst q;simp only[AGX,AG8]at h;obtain⟨rfl,rfl⟩:=h;refine⟨by simp,λw g vs H hx=>?_⟩
   match vs,hx with
   |[v],⟨hv,_⟩ =>
    obtain⟨_,hv⟩:=FJ hv;subst hv;obtain⟨PZ,hl,OU,BF,hr⟩:=H.Lf 0 _ rfl;rcases hr with ⟨Vk,GR⟩|⟨b,Bs,ds,ha,ho,⟨ce,he,CY⟩,h1,h2,h3,h4,h5⟩
    ·rw[GR,hl,Vk,<-e];refine(Proofs.AnyG.slices_Compact_int_empty L _ 0 w).mono λe w' ⟨e1,e2⟩=>?_;subst e1;subst e2;refine⟨_,⟨g.own,λk=>if k=1 then⟨(g.AU 0).a,0,0,1⟩else g.AU k⟩,rfl,⟨H.BN,λk x hx=>?_⟩,?_,?_⟩
     ·match k,hx with
      |0,hx=>injection hx with hx;subst hx;trivial
      |1,hx =>
       injection hx with hx;subst hx;exact⟨λj hj=>by(cases hj),rfl,rfl,BF,.inl ⟨rfl,rfl⟩⟩
      |k+2,hx=>simp at hx
     ·exact Bn (cs:=[.slice (g.AU 0).a 0 0]) rfl ⟨by simp,rfl⟩ rfl
     ·refine⟨rfl,rfl,rfl,AG1 _,λc hc h=>⟨h,rfl⟩,λc h=>⟨h,rfl⟩,λc k r h hk hm=>(hm (List.mem_range.2 hk)).elim,λk hk=>?_⟩;have hk:k<1:=hk;have:k≠1:=by omega
      simp[this]
    ·rw[hl,ha,<-e];have h5:ds=_:=Uh.1 h5;have h4:Bs.toList.take (List.length (α:=Int) xs*1)=ds:=h4;rw[h5]at h4;have Al7:(g.AU 0).cap<=9223372036854775807:=h2;refine(Proofs.AnyG.slices_Compact_int L b 0 _ xs w (dj CY h4) (AHp h1 Al7) h1).mono λe w' ⟨e1,q,e2⟩=>?_;subst e1;have lV:=rP H ho;have Ug:∀c,c≠b->w'.heap[c]?=w.heap[c]?:=λc hc=>by rw[e2,iU hc]
     have Yv:=oZ (q:=q) (d:=(Lib.compact (show List Int from xs)++List.replicate (List.length (α:=Int) xs-(Lib.compact (show List Int from xs)).length) 0).toArray) CY;rw[<-e2]at Yv;have Oz:w'.heap.size=w.heap.size:=by rw[e2,WJ]
     have bm:(MN xs).length<=List.length (α:=Int) xs:=Ads xs;have Ks:(Lib.compact (show List Int from xs)++List.replicate (List.length (α:=Int) xs-(Lib.compact (show List Int from xs)).length) 0).length=List.length (α:=Int) xs:=by
      rw[AGZ,AHs];exact Nat.add_sub_cancel' bm
     refine⟨_,⟨λc=>if c=b then .BG 1 []else g.own c,λk=>if k=1 then⟨(g.AU 0).a,(MN xs).length,(g.AU 0).cap,1⟩else g.AU k⟩,rfl,⟨λc hc=>?_,λk x hx=>?_⟩,?_,?_⟩
     ·have:c≠b:=λe=>by omega
      simp only[this,if_false];exact H.BN c (by omega)
     ·match k,hx with
      |0,hx=>injection hx with hx;subst hx;trivial
      |1,hx =>
       injection hx with hx;subst hx;refine⟨λj hj=>by(cases hj),rfl,rfl,BF,.inr ⟨b,_,_,ha,by simp,⟨ce,he,Yv⟩,AHp bm h1,h2,?_,rfl,?_⟩⟩
       ·simpa [putCells]using h3
       ·show mb w' _ 1 .Ai (.int .i64) _ _;refine Uh.2 ?_;have RN:Bs.size=(g.AU 0).cap*1:=h3;rw[Xb (by simp[Ty.size,MN]) (by rw[List.size_toArray,Ks,RN];exact AHp h1 (Nat.le_of_eq (Nat.mul_one _).symm))];simp[Ty.size,MN]
      |k+2,hx=>simp at hx
     ·exact Bn (cs:=[.slice (some ⟨b,0,none⟩) (MN xs).length (g.AU 0).cap]) rfl ⟨by simp,by simp[ha]⟩ rfl
     ·refine⟨by rw[e2];rfl,by rw[e2];rfl,by rw[e2];rfl,Nat.le_of_eq Oz.symm,λc hc h=>?_,λc h=>?_,λc k r h hk hm=>(hm (List.mem_range.2 hk)).elim,λk hk=>?_⟩
      ·have I8:c≠b:=λe=>by rw[e,ho]at h;cases h
       exact⟨by simp[I8,h],Ug c I8⟩
      ·have I8:c≠b:=λe=>by rw[e,ho]at h;cases h
       exact⟨by simp[I8,h],Ug c I8⟩
      ·have hk:k<1:=hk;have:k≠1:=by omega
       simp[this]
  ·cases h
 ·cases h
end
section
variable {A B C D:Type}
theorem bC(k:A->Option B)(c:Bool)(x y:Option A):(bif c then x else y).bind k=bif c then x.bind k else y.bind k:=vk k c x y
theorem bI(k:A->Option B)(c:Prop)[Decidable c](x y:Option A):(if c then x else y).bind k=if c then x.bind k else y.bind k:=yW k c x y
theorem bN(k:A->Option B)(c:Prop)[Decidable c](x:Option A):(if c then none else x).bind k=if c then none else x.bind k:=vo k c x
theorem bE(k:C->Option D)(g:A->Option C)(h:B->Option C)(y:A⊕B):(Sum.elim g h y).bind k=Sum.elim (λa=>(g a).bind k) (λb=>(h b).bind k) y:=vn k g h y
theorem bA(x:Option A)(f:A->Option B)(g:B->Option C):(x.bind f).bind g=x.bind λy=>(f y).bind g:=AHc x f g
theorem bS(a:A)(f:A->Option B):(some a).bind f=f a:=rfl
theorem bO(f:A->Option B):(none:Option A).bind f=none:=rfl
theorem mC(f:A->B)(c:Bool)(x y:Option A):(bif c then x else y).map f=bif c then x.map f else y.map f:=Ab4 f c x y
theorem mI(f:A->B)(c:Prop)[Decidable c](x y:Option A):(if c then x else y).map f=if c then x.map f else y.map f:=AfL f c x y
theorem mN(f:A->B)(c:Prop)[Decidable c](x:Option A):(if c then none else x).map f=if c then none else x.map f:=Ab6 f c x
theorem mB(f:B->C)(x:Option A)(k:A->Option B):(x.bind k).map f=x.bind λy=>(k y).map f:=Ab3 f x k
theorem mE(f:C->D)(g:A->Option C)(h:B->Option C)(y:A⊕B):(Sum.elim g h y).map f=Sum.elim (λa=>(g a).map f) (λb=>(h b).map f) y:=Ab5 f g h y
theorem mS(f:A->B)(a:A):(some a).map f=some (f a):=rfl
theorem mO(f:A->B):(none:Option A).map f=none:=rfl
def cc(x y:Option Unit):Option Unit:=x.bind λ_=>y
class Sh (Y:Type) where
 T:Type->Type
 sp:{Z:Type}->(Y->Z)->T Z
 ij:∀{Z:Type} {f g:Y->Z},sp f=sp g->f=g
instance (priority:=low) shB:Sh A:=⟨λZ=>A->Z,λf=>f,λh=>h⟩
instance shS [Sh A] [Sh B]:Sh (A⊕B):=⟨λZ=>Sh.T A Z×Sh.T B Z,λf=>(Sh.sp λa=>f (.inl a),Sh.sp λb=>f (.inr b)),λ{Z f g} h=>by
 have h1:=Sh.ij (congrArg Prod.fst h);have h2:=Sh.ij (congrArg Prod.snd h)
 funext y
 cases y with
 |inl a=>exact congrFun h1 a
 |inr b=>exact congrFun h2 b⟩
theorem k3{a a':A}{b b':B}{c c':C}(h:(a,b,c)=(a',b',c')):a=a'/\b=b'/\c=c':=by injection h with h1 h;injection h with h2 h3;exact⟨h1,h2,h3⟩
end
abbrev dI(x:Int):AV:=.AA [] (.int .i64) x
abbrev dB(b:Bool):AV:=.AA [] .bool b
abbrev dD(t:Ty)(x:t.V):AV:=.AA [] t x
def sT(n:Nat)(l:List (Nat×AV))(bs:List Blk):St:=⟨mkS n 0 l,bs⟩
def Bd.hd(en:Bd)(k:Nat):SH:=(Az en.fi.A9 k).getD {Ap:=[]}
def Bd.ot(en:Bd)(k:Nat):SH:=(Az en.fi.BQ k).getD {Ap:=[]}
def Bd.jn(en:Bd)(k:Nat):SH:=(Az en.fi.BP k).getD {Ap:=[]}
def Bd.dr(en:Bd)(k:Nat):SH:=(Az en.fi.Yl k).getD {Ap:=[]}
def ptG:Nat->Nat->List Nat->List Nat
 |0,_,a=>a
 |f+1,n,a=>if n<=1 then a else ptG f (n/2) (n%2::a)
def pt(n:Nat):List Nat:=ptG 60 n []
section
variable {X Y R:Type}
def cd(f:Func)(n:Nat):Code:=sub (code f) (pt n)
def sb(c:Code)(n:Nat):Code:=sub c (pt n)
noncomputable def Ld(en:Bd)(m k:Nat):=Axw m (en.hd k) (en.ot k)
noncomputable def Te(en:Bd)(m k:Nat):=Axk m (en.jn k)
noncomputable def lpS(en:Bd)(m k:Nat)(fc:Code)(p:List Nat):St->Option (St⊕(Ex×St)):=eD en m (en.hd k) (en.ot k) (sub fc (p++[0]))
noncomputable def MY(en:Bd)(m k:Nat)(fc:Code)(p:List Nat):St->Option (Ex×St):=Axl en m (en.jn k) (sub fc p)
noncomputable def tH(en:Bd)(m k:Nat)(fc:Code)(p:List Nat):St->Option St:=AfV en m (en.dr k) (AmD (sub fc p))
noncomputable def kQ(en:Bd)(m:Nat)(R:Type)(fc:Code)(p:List Nat)(K:Ex->St->Option R)(q:Ex×St):Option R:=wo en m R fc p K q.1 q.2
noncomputable def lpC(en:Bd)(m k:Nat)(fc:Code)(p:List Nat)(R:Type)(K:Ex->St->Option R)(s:St):Option R:=(fix (lpS en m k fc p) s).bind (kQ en m R fc p K)
noncomputable def jnC(en:Bd)(m k:Nat)(fc:Code)(p:List Nat)(R:Type)(K:Ex->St->Option R)(s:St):Option R:=(MY en m k fc p s).bind (kQ en m R fc p K)
noncomputable def drC(en:Bd)(m k:Nat)(fc:Code)(p:List Nat)(R:Type)(K:Ex->St->Option R)(s:St):Option R:=(tH en m k fc p s).bind λq=>kQ en m R fc p K (.normal,q)
def A5(en:Bd)(m k:Nat)(fc:Code)(n:Nat)(s:X->St)(r:X->Option (X⊕Y))(o:Y->Ex×St):Prop:=∀x,lpS en m k fc (pt n) (s x)=(r x).map (Sum.map s o)
def AZ(en:Bd)(m k:Nat)(fc:Code)(n:Nat)(s:St)(x:Option Y)(o:Y->Ex×St):Prop:=MY en m k fc (pt n) s=x.map o
def Rk(en:Bd)(m k:Nat)(fc:Code)(n:Nat)(s:St)(x:Option Y)(o:Y->St):Prop:=tH en m k fc (pt n) s=x.map o
theorem AF{en:Bd}{m k:Nat}{fc:Code}{n:Nat}{s:X->St}{r:X->Option (X⊕Y)}{o:Y->Ex×St}(h:A5 en m k fc n s r o){K:Ex->St->Option R}{x:X}{F:Y->Option R}[Sh Y](hF:Sh.sp F=Sh.sp λy=>kQ en m R fc (pt n) K (o y)) :
    (fix r x).bind F=lpC en m k fc (pt n) R K (s x):=by
 unfold lpC;rw[Afa s o _ r h x,b8];exact congrArg _ (Sh.ij hF)
theorem Bg{en:Bd}{m k:Nat}{fc:Code}{n:Nat}{s:St}{x:Option Y}{o:Y->Ex×St}(h:AZ en m k fc n s x o){K:Ex->St->Option R}{F:Y->Option R}[Sh Y](hF:Sh.sp F=Sh.sp λy=>kQ en m R fc (pt n) K (o y)) :
    x.bind F=jnC en m k fc (pt n) R K s:=by
 unfold jnC;rw[h,b8];exact congrArg _ (Sh.ij hF)
theorem Vf{en:Bd}{m k:Nat}{fc:Code}{n:Nat}{s:St}{x:Option Y}{o:Y->St}(h:Rk en m k fc n s x o){K:Ex->St->Option R}{F:Y->Option R}[Sh Y](hF:Sh.sp F=Sh.sp λy=>kQ en m R fc (pt n) K (.normal,o y)) :
    x.bind F=drC en m k fc (pt n) R K s:=by
 unfold drC;rw[h,b8];exact congrArg _ (Sh.ij hF)
def P2(_:St)(x:Option R):Option R:=x
theorem bM(s:St)(x:Option X)(k:X->Option Y):(P2 s x).bind k=P2 s (x.bind k):=rfl
theorem mM(s:St)(x:Option X)(k:X->Y):(P2 s x).map k=P2 s (x.map k):=rfl
theorem F4{en:Bd}{m k:Nat}{fc:Code}{p:List Nat}{s:St}{e:Ex×St}(h:MY en m k fc p s=some e){K:Ex->St->Option R}{T:Option R}(hT:T=kQ en m R fc p K e):P2 s T=jnC en m k fc p R K s:=by
 unfold jnC;rw[h];exact hT
end
noncomputable def wi(ms:List PM)(en:Bd)(fn:Func):Callee:={iG:=ms,run:=λR args E K=>AW en fn R args E K}
theorem AfB{ms:List PM}{en:Bd}{fn:Func}(he:WT en):bH (wi ms en fn):=by
 intro R args E K;show AW en fn R args E K=(AW en fn (AV×List Blk) args E _).bind _;unfold AW;split
 ·rfl
 ·split
  ·have TH:∀s:St,(match VQ E.length en.fi.TH s with
       |none=>none
       |some σ=>match ZH en.A7 σ fn.results.toList with
        |some l=>match cT E.length en.fi.Rj l σ.Am with
         |some (l,bs)=>match VL en.fi.dT l bs with
          |some (l',Gt)=>match ae E.length Gt (kV l')with
           |some (v,bs)=>K v bs
           |none=>none
          |none=>none
         |none=>none
        |none=>none)=(match VQ E.length en.fi.TH s with
       |none=>none
       |some σ=>match ZH en.A7 σ fn.results.toList with
        |some l=>match cT E.length en.fi.Rj l σ.Am with
         |some (l,bs)=>match VL en.fi.dT l bs with
          |some (l',Gt)=>match ae E.length Gt (kV l')with
           |some (v,bs)=>some (v,bs)
           |none=>none
          |none=>none
         |none=>none
        |none=>none).bind λp=>K p.1 p.2:=λs=>by
     cases VQ E.length en.fi.TH s with
     |none=>rfl
     |some s =>
      dsimp only
      cases ZH en.A7 s fn.results.toList with
      |none=>rfl
      |some l =>
       dsimp only
       cases cT E.length en.fi.Rj l s.Am with
       |none=>rfl
       |some q =>
        dsimp only
        cases VL en.fi.dT q.1 q.2 with
        |none=>rfl
        |some q =>
         dsimp only
         cases ae E.length q.2 (kV q.1)with
         |none=>rfl
         |some q=>rfl
   refine sL (UB he _) λe s=>?_;cases e with
   |exit n=>rfl
   |normal=>exact TH s
   |ret=>exact TH s
  ·rfl
theorem bp{P:Program}{f:FuncId}{fn:Func}{ms:List PM}{en:Bd}(he:Iv P en)(q:(P.funcs[f]?,fn.name=="runtime.NumGoroutine",fn.body.isNone)=(some fn,false,false):=by kernel_rfl):As P f (wi ms en fn) :=
 As.of he (k3 q).1 (k3 q).2.1 (k3 q).2.2 (AfB he.W9) λ_ _ _ _ h=>h
inductive Pt where
 |k (a:AV)|AA (ks:List Nat) (t:Ty)|Eh (ks:List Nat) (t:Ty)|ptr (k:Nat) (p:List Nat) (o:Nat)|pr (a b:Pt)|cons (a b:Pt)|fn (f:Nat) (c:Pt)
def AV.isK:AV->AV->Bool
 |.zs,.zs=>true
 |.Lw,.Lw=>true
 |.nil,.nil=>true
 |.un n,.un m=>n==m
 |.Ak n,.Ak m=>n==m
 |.mp n,.mp m=>n==m
 |.ptr k i p o,.ptr k' i' p' o'=>k==k'&&i==i'&&p==p'&&o==o'
 |.AA [] .unit _,.AA [] .unit _=>true
 |_,_=>false
theorem AV.Amq{a b:AV}(h:a.isK b=true):b=a:=by
 unfold AV.isK at h;split at h<;>first |rfl |(simp at h;obtain⟨⟨⟨rfl,rfl⟩,rfl⟩,rfl⟩:=h;rfl)|(simp at h;subst h;rfl)|cases h
@[reducible] def Pt.T:Pt->Type
 |.k _=>Unit
 |.AA _ t=>t.V
 |.Eh _ t=>t.V
 |.ptr _ _ _=>Int
 |.pr a b=>a.T×b.T
 |.cons a b=>a.T×b.T
 |.fn _ c=>c.T
def Pt.fill:(p:Pt)->p.T->AV
 |.k a,_=>a
 |.AA ks t,x=>.AA ks t x
 |.Eh ks t,x=>.Eh ks t x
 |.ptr j p o,i=>.ptr j i p o
 |.pr a b,x=>.pr (a.fill x.1) (b.fill x.2)
 |.cons a b,x=>.cons (a.fill x.1) (b.fill x.2)
 |.fn f c,x=>.fn f (c.fill x)
def Pt.mt:(p:Pt)->AV->Option p.T
 |.k a,b=>bif a.isK b then some ()else none
 |.AA ks t,a=>match a with |.AA Ta t' x=>if Ta=ks then Iw t' t x else none |_=>none
 |.Eh ks t,a=>match a with |.Eh Ta t' x=>if Ta=ks then Iw t' t x else none |_=>none
 |.ptr j p o,a=>match a with |.ptr j' i p' o'=>if j'=j/\p'=p/\o'=o then some i else none |_=>none
 |.pr a b,c=>match c with |.pr x y=>(match a.mt x,b.mt y with |some u,some v=>some (u,v)|_,_=>none)|_=>none
 |.cons a b,c=>match c with |.cons x y=>(match a.mt x,b.mt y with |some u,some v=>some (u,v)|_,_=>none)|_=>none
 |.fn f c,a=>match a with |.fn f' x=>if f'=f then c.mt x else none |_=>none
theorem Pt.RZ:∀{p:Pt} {a:AV} {x:p.T},p.mt a=some x->a=p.fill x
 |.k a,b,x,h=>by
  unfold Pt.mt at h;cases e:a.isK b with
  |false=>rw[e]at h;cases h
  |true=>exact AV.Amq e
 |.AA ks t,a,x,h=>by
  unfold Pt.mt at h;cases a with
  |AA Ta t' y =>
   simp only at h;split at h
   ·rename_i e;subst e;obtain⟨e,q⟩:=BA h;subst e;subst q;rfl
   ·cases h
  |_=>cases h
 |.Eh ks t,a,x,h=>by
  unfold Pt.mt at h;cases a with
  |Eh Ta t' y =>
   simp only at h;split at h
   ·rename_i e;subst e;obtain⟨e,q⟩:=BA h;subst e;subst q;rfl
   ·cases h
  |_=>cases h
 |.ptr j p o,a,x,h=>by
  unfold Pt.mt at h;cases a with
  |ptr j' i p' o' =>
   simp only at h;split at h
   ·rename_i e;obtain⟨rfl,rfl,rfl⟩:=e;injection h with h;subst h;rfl
   ·cases h
  |_=>cases h
 |.pr a b,c,x,h=>by
  unfold Pt.mt at h;cases c with
  |pr y z =>
   simp only at h;split at h
   ·rename_i u v hu hv;injection h with h;subst h;rw[Pt.RZ hu,Pt.RZ hv];rfl
   ·cases h
  |_=>cases h
 |.cons a b,c,x,h=>by
  unfold Pt.mt at h;cases c with
  |cons y z =>
   simp only at h;split at h
   ·rename_i u v hu hv;injection h with h;subst h;rw[Pt.RZ hu,Pt.RZ hv];rfl
   ·cases h
  |_=>cases h
 |.fn f c,a,x,h=>by
  unfold Pt.mt at h;cases a with
  |fn f' y =>
   simp only at h;split at h
   ·rename_i e;subst e;rw[Pt.RZ h];rfl
   ·cases h
  |_=>cases h
@[reducible] def AcB:List Pt->Type
 |[]=>Unit
 |p::r=>p.T×AcB r
def AmB:(l:List Pt)->AcB l->List AV
 |[],_=>[]
 |p::r,x=>p.fill x.1::AmB r x.2
def AfT:(l:List Pt)->List AV->Option (AcB l)
 |[],l=>match l with |[]=>some ()|_=>none
 |p::r,l=>match l with |a::fq=>(match p.mt a,AfT r fq with |some u,some v=>some (u,v)|_,_=>none)|_=>none
theorem iQ:∀{l:List Pt} {a:List AV} {x:AcB l},AfT l a=some x->a=AmB l x
 |[],a,x,h=>by
  cases a with
  |nil=>rfl
  |cons _ _=>cases h
 |p::r,a,x,h=>by
  unfold AfT at h;cases a with
  |nil=>cases h
  |cons a fq =>
   simp only at h;split at h
   ·rename_i u v hu hv;injection h with h;subst h;rw[Pt.RZ hu,iQ hv];rfl
   ·cases h
inductive lN where
 |box (p:Pt)|row (e:Nat) (m:RM) (t:Ty)|map (m:RM) (kt vt:Ty)|AH
def RM.eqb:RM->RM->Bool
 |.Ai,.Ai=>true
 |.sh a,.sh b=>a==b
 |_,_=>false
theorem RM.AaT{a b:RM}(h:a.eqb b=true):b=a:=by
 cases a<;>cases b<;>simp[RM.eqb]at h
 ·rfl
 ·subst h;rfl
@[reducible] def lN.T:lN->Type
 |.box p=>p.T
 |.row _ _ t=>List t.V
 |.map _ kt vt=>List (kt.V×vt.V)
 |.AH=>Unit
def lN.fill:(p:lN)->p.T->Blk
 |.box p,x=>.box (p.fill x)
 |.row e m t,x=>.row e m t x
 |.map m kt vt,x=>.map m kt vt x none
 |.AH,_=>.AH
def lN.mt:(p:lN)->Blk->Option p.T
 |.box p,b=>match b with |.box a=>p.mt a |_=>none
 |.row e m t,b=>match b with |.row e' m' t' xs=>if e'=e then bif m.eqb m' then Iw (.sl t') (.sl t) xs else none else none |_=>none
 |.map m kt vt,b=>match b with |.map m' kt' vt' es none=>bif m.eqb m' then Iw (.sl (.Au kt' vt')) (.sl (.Au kt vt)) es else none |_=>none
 |.AH,b=>match b with |.AH=>some ()|_=>none
theorem lN.RZ:∀{p:lN} {a:Blk} {x:p.T},p.mt a=some x->a=p.fill x
 |.box p,a,x,h=>by
  unfold lN.mt at h;cases a with
  |box y=>rw[Pt.RZ h];rfl
  |_=>cases h
 |.row e m t,a,x,h=>by
  unfold lN.mt at h;cases a with
  |row e' m' t' y =>
   simp only at h;split at h
   ·rename_i e0;subst e0;cases hm:m.eqb m' with
    |false=>rw[hm]at h;cases h
    |true =>
     rw[hm,AHb]at h;have:=RM.AaT hm;subst this;obtain⟨e1,q⟩:=BA h;cases Ty.sl.inj e1;subst q;rfl
   ·cases h
  |_=>cases h
 |.map m kt vt,a,x,h=>by
  unfold lN.mt at h;cases a with
  |map m' kt' vt' es st =>
   cases st with
   |none =>
    simp only at h;cases hm:m.eqb m' with
    |false=>rw[hm]at h;cases h
    |true =>
     rw[hm,AHb]at h;have:=RM.AaT hm;subst this;obtain⟨e1,q⟩:=BA h;obtain⟨e2,e3⟩:=Ty.Au.inj (Ty.sl.inj e1);subst e2;subst e3;subst q;rfl
   |some z=>cases h
  |_=>cases h
 |.AH,a,x,h=>by
  unfold lN.mt at h;cases a with
  |AH=>rfl
  |_=>cases h
@[reducible] def mF:List lN->Type
 |[]=>Unit
 |p::r=>p.T×mF r
def yZ:(l:List lN)->mF l->List Blk
 |[],_=>[]
 |p::r,x=>p.fill x.1::yZ r x.2
def tm:(l:List lN)->List Blk->Option (mF l)
 |[],l=>match l with |[]=>some ()|_=>none
 |p::r,l=>match l with |a::fq=>(match p.mt a,tm r fq with |some u,some v=>some (u,v)|_,_=>none)|_=>none
theorem b9:∀{l:List lN} {a:List Blk} {x:mF l},tm l a=some x->a=yZ l x
 |[],a,x,h=>by
  cases a with
  |nil=>rfl
  |cons _ _=>cases h
 |p::r,a,x,h=>by
  unfold tm at h;cases a with
  |nil=>cases h
  |cons a fq =>
   simp only at h;split at h
   ·rename_i u v hu hv;injection h with h;subst h;rw[lN.RZ hu,b9 hv];rfl
   ·cases h
structure Br where
 pa:List Pt
 pb:List lN
 U:Type
 F:AcB pa×mF pb->Option U
 out:U->AV×List Blk
def Yc:List Br->(R:Type)->List AV->List Blk->(AV->List Blk->Option R)->Option R
 |[],_,_,_,_=>none
 |b::r,R,avs,E,K=>match AfT b.pa avs,tm b.pb E with
  |some x,some y=>(b.F (x,y)).bind λu=>K (b.out u).1 (b.out u).2
  |_,_=>Yc r R avs E K
def Cx(ms:List PM)(bs:List Br):Callee:={iG:=ms,run:=Yc bs}
theorem Zc:∀(bs:List Br) (R:Type) (args:List AV) (E:List Blk) (K:AV->List Blk->Option R),Yc bs R args E K=(Yc bs (AV×List Blk) args E λv b=>some (v,b)).bind λp=>K p.1 p.2
 |[],_,_,_,_=>rfl
 |b::r,R,args,E,K=>by
  unfold Yc;split
  ·rw[AHc];rfl
  ·exact Zc r R args E K
def Ayx(P:Program)(fn:Func)(b:Br):Prop:=∃en,Iv P en/\∀p (R:Type) (K:AV->List Blk->Option R),AW en fn R (AmB b.pa p.1) (yZ b.pb p.2) K=(b.F p).bind λu=>K (b.out u).1 (b.out u).2
def xK(P:Program)(fn:Func):List Br->Prop
 |[]=>True
 |b::r=>Ayx P fn b/\xK P fn r
theorem y7{P:Program}{fn:Func}:∀{bs:List Br},xK P fn bs->∀args E av E',Yc bs (AV×List Blk) args E (λv b=>some (v,b))=some (av,E')->∃en,Iv P en/\AW en fn (AV×List Blk) args E (λv b=>some (v,b))=some (av,E')
 |[],_,_,_,_,_,h=>by cases h
 |b::r,⟨⟨en,he,hb⟩,hr⟩,args,E,av,E',h=>by
  unfold Yc at h;split at h
  ·rename_i x y hx hy;refine⟨en,he,?_⟩;rw[iQ hx,b9 hy];exact(hb (x,y) _ _).trans h
  ·exact y7 hr args E av E' h
theorem Aw{P:Program}{f:FuncId}{fn:Func}{ms:List PM}{bs:List Br}(h:xK P fn bs)(q:(P.funcs[f]?,fn.name=="runtime.NumGoroutine",fn.body.isNone)=(some fn,false,false):=by kernel_rfl):As P f (Cx ms bs) :=
 As.of2 (k3 q).1 (k3 q).2.1 (k3 q).2.2 (Zc bs) (y7 h)
def xJ:List Br->Prop
 |[]=>True
 |b::r=>(∀p,b.F p=none)/\xJ r
theorem Agx:∀{bs:List Br},xJ bs->∀(R:Type) args E K,Yc bs R args E K=none
 |[],_,_,_,_,_=>rfl
 |b::r,h,R,args,E,K=>by
  unfold Yc;split
  ·rw[h.1];rfl
  ·exact Agx h.2 R args E K
theorem Aep{P:Program}{f:FuncId}{ms:List PM}{bs:List Br}(h:xJ bs):As P f (Cx ms bs) where
 W9:=Zc bs
 snd args E av E' hr:=by
  rw[show(Cx ms bs).run _ args E _=none from Agx h _ _ _ _]at hr;cases hr
abbrev AHE:=And.intro @mC (And.intro @mI (And.intro @mN (And.intro @mB (And.intro @mE @mM))))
abbrev AHF:=And.intro @bC (And.intro @bI (And.intro @bN (And.intro @bE (And.intro @bA (And.intro @bS (And.intro @bO @bM))))))
abbrev wI(x:Int):Int:=IntKind.i64.wrap x
end Go.Va
