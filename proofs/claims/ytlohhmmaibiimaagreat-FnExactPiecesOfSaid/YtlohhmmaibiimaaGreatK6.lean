import Derived.OrdersHeld
import Derived.Test.YtlohhmmaibiimaaGreatK5
set_option linter.unusedVariables false
set_option linter.unusedSimpArgs false
namespace Go.Va
def Jp(D:Nat->Bool):List GH->List AV->List AV
 | [],sl=>sl
 | t::ts,sl=>Jp D ts (if D t.i then SI t.o.dst t.val sl else sl)
def GH.nb(t:GH)(bs:List Blk):List Blk:=match t.e with | some e=>e.blks | none=>bs
def FG(D:Nat->Bool):List GH->List Blk->List Blk
 | [],bs=>bs
 | t::ts,bs=>FG D ts (if D t.i&&t.grow then t.nb bs else bs)
theorem Wh{d:Option Nat}{v:AV}{sl:List AV}{k:Nat}(h:d≠some k):(SI d v sl)[k]?=sl[k]?:=by
 cases d with
 | none=>rfl
 | some d =>
  have:d≠k:=λe=>h (by rw[e]);simp[SI,List.getElem?_set,this]
theorem Xx{d:Option Nat}{v:AV}{sl sl':List AV}{k:Nat}(h:sl[k]?=sl'[k]?):(SI d v sl)[k]?=(SI d v sl')[k]?:=by
 cases d with
 | none=>exact h
 | some d =>
  simp only[SI,List.getElem?_set];split
  ·rename_i e;subst e;have:d<sl.length↔d<sl'.length:=by
    constructor
    ·intro hl;rw[List.getElem?_eq_getElem hl] at h;exact AE h.symm
    ·intro hl;rw[List.getElem?_eq_getElem hl] at h;exact AE h
   by_cases hl:d<sl.length
   ·rw[if_pos hl,if_pos (this.1 hl)]
   ·rw[if_neg hl,if_neg (λh=>hl (this.2 h))]
  ·exact h
theorem Zr{d:Nat}{v:AV}{sl:List AV}{x:AV}(h:(SI (some d) v sl)[d]?=some x):x=v:=by
 simp only[SI,List.getElem?_set,if_true] at h;split at h
 ·injection h with h;exact h.symm
 ·cases h
theorem TX(D:Nat->Bool):∀(ts:List GH) (sl:List AV),(Jp D ts sl).length=sl.length
 | [],_=>rfl
 | t::ts,sl=>by
  rw[Jp,TX D ts];split
  ·exact Um ..
  ·rfl
theorem Ru(D:Nat->Bool):∀(pre ts:List GH) (sl:List AV),Jp D (pre++ts) sl=Jp D ts (Jp D pre sl)
 | [],_,_=>rfl
 | t::pre,ts,sl=>by rw[List.cons_append,Jp,Jp,Ru D pre ts]
theorem TW(D:Nat->Bool):∀(pre ts:List GH) (bs:List Blk),FG D (pre++ts) bs=FG D ts (FG D pre bs)
 | [],_,_=>rfl
 | t::pre,ts,bs=>by rw[List.cons_append,FG,FG,TW D pre ts]
theorem WS{D:Nat->Bool}{k:Nat}:∀{ts:List GH} {sl sl':List AV},sl[k]?=sl'[k]?->(Jp D ts sl)[k]?=(Jp D ts sl')[k]?
 | [],_,_,h=>h
 | t::ts,sl,sl',h=>by
  simp only[Jp];refine WS ?_;split
  ·exact Xx h
  ·exact h
theorem Td{D:Nat->Bool}{k:Nat}:∀{ts:List GH} {sl sl':List AV},(∀u∈ts,D u.i=false->u.o.dst≠some k)->sl[k]?=sl'[k]?->(Jp D ts sl)[k]?=(Jp (λ_=>true) ts sl')[k]?
 | [],_,_,_,h=>h
 | t::ts,sl,sl',hu,h=>by
  simp only[Jp,if_true];refine Td (λu hm=>hu u (by simp[hm])) ?_;cases hD:D t.i with
  | true=>simp only[if_true];exact Xx h
  | false =>
   simp only[Bool.false_eq_true,if_false];rw[Wh (hu t (by simp) hD)];exact h
theorem Sd{D:Nat->Bool}{k:Nat}:∀{ts:List GH} {sl:List AV},(∀u∈ts,D u.i=true->u.o.dst≠some k)->(Jp D ts sl)[k]?=sl[k]?
 | [],_,_=>rfl
 | t::ts,sl,hu=>by
  simp only[Jp];rw[Sd λu hm=>hu u (by simp[hm])];split
  ·rename_i h;exact Wh (hu t (by simp) h)
  ·rfl
theorem kT{D D':Nat->Bool}:∀{ts:List GH} {sl:List AV},(∀u∈ts,D u.i=D' u.i)->Jp D ts sl=Jp D' ts sl
 | [],_,_=>rfl
 | t::ts,sl,h=>by
  rw[Jp,Jp,h t (by simp)];exact kT λu hu=>h u (by simp[hu])
theorem kS{D D':Nat->Bool}:∀{ts:List GH} {bs:List Blk},(∀u∈ts,D u.i=D' u.i)->FG D ts bs=FG D' ts bs
 | [],_,_=>rfl
 | t::ts,bs,h=>by
  rw[FG,FG,h t (by simp)];exact kS λu hu=>h u (by simp[hu])
theorem Sc{D:Nat->Bool}:∀{ts:List GH} {bs:List Blk},(∀u∈ts,D u.i=true->u.grow=false)->FG D ts bs=bs
 | [],_,_=>rfl
 | t::ts,bs,h=>by
  rw[FG];have:(D t.i&&t.grow)=false:=by
   cases hD:D t.i with
   | false=>rfl
   | true=>rw[h t (by simp) hD];rfl
  rw[this];exact Sc λu hu=>h u (by simp[hu])
section
variable {P:Program} {en:Env} {all:List Oper} {A:List (Nat×List Nat)}
theorem T2(he:EnvOk P en){t:GH}(ok:t.Ok en all)(hb:t.bar=false):∃l,t.post.blks=t.σ.blks++l/\(t.grow=false->l=[])/\(∀e,t.e=some e->e.mods=[]/\e.blks=t.σ.blks++l)/\t.post.slots=SI t.o.dst t.val t.σ.slots:=by
 unfold GH.Ok at ok;unfold GH.bar at hb;unfold GH.post GH.grow GH.val;cases hq:t.e with
 | none=>exact⟨[],by simp[St.skip],λ_=>rfl,λe h=>by(cases h),rfl⟩
 | some e =>
  rw[hq] at ok hb;have hm:e.mods=[]:=by simpa using hb
  have Mv:=NR he ok.2.2;obtain⟨l,hl⟩:=Mv.ext hm;refine⟨l,hl,λh=>?_,λe' h=>by injection h with h;subst h;exact⟨hm,hl⟩,?_⟩
  ·simp only[hm,List.isEmpty_nil,Bool.true_and,decide_eq_false_iff_not,ne_eq,Decidable.not_not] at h;rw[hl,Aw0] at h;exact List.eq_nil_of_length_eq_zero (by omega)
  ·simp only[St.after,hm,OR]
theorem Tr.Yx(he:EnvOk P en):∀{ts:List GH} {done K0:List Nat} {σ σ':St},Tr en all A done K0 σ ts σ'->(∀u∈ts,u.bar=false)->σ'.slots=Jp (λ_=>true) ts σ.slots/\σ'.blks=FG (λ_=>true) ts σ.blks/\(∃l,σ'.blks=σ.blks++l)
 | [],_,_,_,_,.nil,_=>⟨rfl,rfl,[],(List.append_nil _).symm⟩
 | t::ts,done,K0,σ,σ',.cons hσ ok ha hb next,hbar=>by
  obtain⟨l,h1,h2,h3,h4⟩:=T2 he ok (hbar t (by simp));obtain⟨i1,i2,l',i3⟩:=next.Yx he λu hu=>hbar u (by simp[hu])
  subst hσ;refine⟨by rw[i1,Jp,if_pos rfl,h4],?_,l++l',by rw[i3,h1,Aw4]⟩;rw[i2,FG,Bool.true_and];congr 1;cases hg:t.grow with
  | false=>rw[h1,h2 hg,List.append_nil];rfl
  | true =>
   cases hq:t.e with
   | none=>simp[GH.grow,hq] at hg
   | some e=>simp only[if_true,GH.nb,hq];rw[h1,(h3 e hq).2]
theorem Tr.fJ(he:EnvOk P en)(D:Nat->Bool):∀{ts:List GH} {done K0:List Nat} {σ σ':St},Tr en all A done K0 σ ts σ'->(∀u∈ts,u.bar=false)->∀(b0:List Blk),(∃l,σ.blks=b0++l)->∀bs,(∃l,bs=b0++l)->∃l,FG D ts bs=b0++l
 | [],_,_,_,_,_,_,_,_,_,h=>h
 | t::ts,done,K0,σ,σ',.cons hσ ok ha hb next,hbar,b0,hb0,bs,hbs=>by
  obtain⟨l,h1,h2,h3,h4⟩:=T2 he ok (hbar t (by simp));obtain⟨l0,hl0⟩:=hb0;subst hσ;rw[FG];refine next.fJ he D (λu hu=>hbar u (by simp[hu])) b0 ⟨l0++l,by rw[h1,hl0,Aw4]⟩ _ ?_
  split
  ·cases hq:t.e with
   | none=>simpa [GH.nb,hq] using hbs
   | some e=>exact⟨l0++l,by simp only[GH.nb,hq];rw[(h3 e hq).2,hl0,Aw4]⟩
  ·exact hbs
end
theorem Vb:∀{live:List Nat} {l:List AV} {j i:Nat},(j+i)∈live->(Nj live j l)[i]?=l[i]?
 | live,a::r,j,0,h=>by
  have h':j∈live:=h;simp[Nj,h']
 | live,a::r,j,i+1,h=>by
  simp only[Nj,List.getElem?_cons_succ];exact Vb (by rwa [show j+1+i=j+(i+1) by omega])
 | _,[],_,_,_=>by simp[Nj]
theorem Y4:∀{live:List Nat} {l:List AV} {j i:Nat} {x:AV},(j+i)∉live->(Nj live j l)[i]?=some x->x=.un 0
 | live,a::r,j,0,x,h,hx=>by
  have:live.contains j=false:=by simpa using h
  simp only[Nj,this,Bool.false_eq_true,if_false,List.getElem?_cons_zero,AwY] at hx;exact hx.symm
 | live,a::r,j,i+1,x,h,hx=>by
  simp only[Nj,List.getElem?_cons_succ] at hx;exact Y4 (by rwa [show j+1+i=j+(i+1) by omega]) hx
 | _,[],_,_,_,_,hx=>by simp[Nj] at hx
def iF(ops:Array Oper)(o:Oper)(σ:St):St:=⟨Nj (o.looksAt ops) 0 σ.slots,σ.blks⟩
theorem rV{en:Env}{ops:Array Oper}{o:Oper}{σ:St}{K:Eff->Option Eff}:exec en (iF ops o σ) o K=exec en σ o K:=by
 refine kY rfl λx hx=>?_;cases x with
 | tmp t =>
  have:t∈o.looksAt ops:=List.mem_append_left _ (List.mem_filterMap.2 ⟨.tmp t,by simpa using hx,rfl⟩);simp only[St.Bw,iF];rw[Vb (j:=0) (by simpa using this)]
 | const v=>rfl
 | global g=>rfl
 | func f=>rfl
end Go.Va
namespace Go.Va
theorem Tc{D:Nat->Bool}:∀{ts:List GH} {bs:List Blk},(∀u∈ts,u.grow=true->D u.i=true)->FG D ts bs=FG (λ_=>true) ts bs
 | [],_,_=>rfl
 | t::ts,bs,h=>by
  rw[FG,FG];have:(D t.i&&t.grow)=(true&&t.grow):=by
   cases hg:t.grow with
   | false=>simp
   | true=>rw[h t (by simp) hg]
  rw[this];exact Tc λu hu=>h u (by simp[hu])
theorem YX{t:GH}{e:Eff}(h:t.e=some e):t.post.blks=e.blks:=by simp[GH.post,h,St.after]
theorem WQ{D:Nat->Bool}:∀{ts:List GH} {bs:List Blk},FG D ts bs=bs\/∃u∈ts,D u.i=true/\u.grow=true/\FG D ts bs=u.post.blks
 | [],_=>.inl rfl
 | t::ts,bs=>by
  rw[FG];rcases WQ (D:=D) (ts:=ts) (bs:=if D t.i&&t.grow then t.nb bs else bs) with h | ⟨u,hu,h1,h2,h3⟩
  ·rw[h];split
   ·rename_i hc;rw[Aw3] at hc;cases hq:t.e with
    | none=>exact .inl (by simp[GH.nb,hq])
    | some e=>exact .inr ⟨t,by simp,hc.1,hc.2,by rw[YX hq];simp[GH.nb,hq]⟩
   ·exact .inl rfl
  ·exact .inr ⟨u,by simp[hu],h1,h2,h3⟩
theorem WR:∀{ts:List GH} {sl:List AV} {k:Nat} {x:AV},(Jp (λ_=>true) ts sl)[k]?=some x->sl[k]?=some x\/∃pre u post,ts=pre++u::post/\u.o.dst=some k/\x=u.val
 | [],_,_,_,h=>.inl h
 | t::ts,sl,k,x,h=>by
  simp only[Jp,if_true] at h;rcases WR h with h | ⟨pre,u,post,e,h1,h2⟩
  ·by_cases hd:t.o.dst=some k
   ·rw[hd] at h;exact .inr ⟨[],t,ts,rfl,hd,Zr h⟩
   ·rw[Wh hd] at h;exact .inl h
  ·exact .inr ⟨t::pre,u,post,by rw[e];rfl,h1,h2⟩
structure Inv (P:Program) (A:List (Nat×List Nat)) (N:Nat) (done:List Nat) (seg:List GH) (σ:St) (m:Nat) (a0:Act) (w0:World) (g0:G) (D:Nat->Bool) (a:Act) (w:World) (g:G):Prop where
 had:∀i∈done,D i=true
 only:∀i,D i=true->i∈done\/∃u∈seg,u.i=i
 closed:Closed A D
 dfr:a.defers=a0.defers
 len:σ.slots.length=a.tmps.size
 step:A2 m w0 g0 w g
 heap:Heap w g (FG D seg σ.blks)
 slots:∀(i:Nat) (x:AV),(Jp D seg σ.slots)[i]?=some x->Bg w g (FG D seg σ.blks).length x (a.tmps.getD i undef)
 ids:∀u∈seg,D u.i=true->∀k∈u.val.ids,k<u.post.blks.length
 scp:∀u∈seg,D u.i=true->u.grow=true->Scoped u.post.blks
section
variable {P:Program} {en:Env} {ops:Array Oper} {A:List (Nat×List Nat)} {N m:Nat} {done K0:List Nat} {seg pre post:List GH} {t:GH} {σ σ1:St} {a0 a:Act} {w0 w:World} {g0 g:G} {D:Nat->Bool}
theorem Inv.find (he:EnvOk P en) (inv:Inv P A N done seg σ m a0 w0 g0 D a w g) (htr:Tr en ops.toList A done K0 σ seg σ1) (hbar:∀u∈seg,u.bar=false) (hseg:seg=pre++t::post) (hun:D t.i=false) (QI:∀x∈CS A t.i,D x=true)
    (hp1:∀u∈pre,u.i∈CS A t.i\/u.o.apart ops t.o=true) (hp2:∀u∈post,t.i∈CS A u.i\/t.o.apart ops u.o=true)
    (h0:∀(i:Nat) (x:AV),σ.slots[i]?=some x->∀k∈x.ids,k<σ.blks.length) (X4:Scoped σ.blks) :
    (∃l,FG D seg σ.blks=t.σ.blks++l/\FG D post t.σ.blks=t.σ.blks++l/\(t.grow=true->l=[]))/\Scoped t.σ.blks/\t.σ.slots.length=a.tmps.size/\(∀u∈post,D u.i=true->t.grow=false/\t.o.apart ops u.o=true)/\(∀u∈pre,u.grow=true->D u.i=true)/\FG D pre σ.blks=t.σ.blks /\
     (∀k∈t.o.looksAt ops,∀x,t.σ.slots[k]?=some x->Bg w g (FG D seg σ.blks).length x (a.tmps.getD k undef)/\∀j∈x.ids,j<t.σ.blks.length):=by
 subst hseg;obtain⟨qE,σt,htp,htt⟩:=htr.split;have hpb:∀u∈pre,u.bar=false:=λu hu=>hbar u (by simp[hu]);obtain⟨hs1,hs2,l0,hs3⟩:=htp.Yx he hpb;cases htt with
 | cons hσ ok ha hb next =>
  subst hσ;have hgp:∀u∈pre,u.grow=true->D u.i=true:=λu hu hg=>by
   obtain⟨p1,p2,rfl⟩:=List.append_of_mem hu;have AsW:Tr en ops.toList A done K0 σ (p1++u::(p2++t::post)) σ1:=by simpa using htr
   exact QI _ (AsW.pairs.1 (by simp[hg]) t (by simp))
  have hB:FG D pre σ.blks=t.σ.blks:=by rw[Tc hgp,<-hs2]
  have hpost:∀u∈post,D u.i=true->t.i∉CS A u.i:=λu _ hd hm=>by
   rw[inv.closed _ hd _ hm] at hun;cases hun
  have hgt:t.grow=true->∀u∈post,D u.i=false:=λhg u hu=>by
   cases hd:D u.i with
   | false=>rfl
   | true=>exact(hpost u hu hd (htr.pairs.1 (by simp[hg]) u hu)).elim
  have hsp:FG D (pre++t::post) σ.blks=FG D post t.σ.blks:=by
   rw[TW,FG,hB,hun];rfl
  obtain⟨l1,e1,_,_,_⟩:=T2 he ok (hbar t (by simp));obtain⟨l,hl⟩:=next.fJ he D (λu hu=>hbar u (by simp[hu])) t.σ.blks ⟨l1,e1⟩ t.σ.blks ⟨[],(List.append_nil _).symm⟩
  have hsc:Scoped t.σ.blks:=by
   rw[<-hB];rcases WQ (D:=D) (ts:=pre) (bs:=σ.blks) with h | ⟨u,hu,h1,h2,h3⟩
   ·rw[h];exact X4
   ·rw[h3];exact inv.scp u (by simp[hu]) h1 h2
  refine⟨⟨l,by rw[hsp];exact hl,hl,λhg=>?_⟩,hsc,by rw[hs1,TX];exact inv.len,λu hu hd=>⟨?_,?_⟩,hgp,hB,λk hk x hx=>⟨?_,?_⟩⟩
  ·have:=Sc (D:=D) (ts:=post) (bs:=t.σ.blks) λu hu hd=>by rw[hgt hg u hu] at hd;cases hd
   rw[this] at hl;have h2:t.σ.blks.length=t.σ.blks.length+l.length:=by rw[<-Aw0,<-hl]
   exact List.eq_nil_of_length_eq_zero (by omega)
  ·cases hg:t.grow with
   | false=>rfl
   | true=>rw[hgt hg u hu] at hd;cases hd
  ·exact(hp2 u hu).resolve_left (hpost u hu hd)
  ·have h1:(Jp D (pre++t::post) σ.slots)[k]?=t.σ.slots[k]?:=by
     rw[Ru,Jp,hun];simp only[Bool.false_eq_true,if_false];rw[Sd,Td,<-hs1]
     ·intro u hu hd e;rcases hp1 u hu with h | h
      ·rw[QI _ h] at hd;cases hd
      ·exact(Oper.apart_spec h).1 k e hk
     ·rfl
     ·intro u hu hd e;have:=(hp2 u hu).resolve_left (hpost u hu hd);exact(Oper.apart_spec this).2.2 k e hk
   exact inv.slots k x (by rw[h1];exact hx)
  ·rw[hs1] at hx;rcases WR hx with h | ⟨p1,u,p2,e,h1,rfl⟩
   ·intro j hj;have:=h0 k x h j hj;rw[hs3,Aw0];omega
   ·intro j hj;have hu:u∈pre:=by rw[e];simp
    have hD:D u.i=true:=by
     rcases hp1 u hu with h | h
     ·exact QI _ h
     ·exact((Oper.apart_spec h).1 k h1 hk).elim
    have:=inv.ids u (by simp[hu]) hD j hj;subst e;obtain⟨AvT,σu,q1,q2⟩:=htp.split;cases q2 with
    | cons hσ' ok' ha' hb' next' =>
     obtain⟨_,_,l2,q3⟩:=next'.Yx he λv hv=>hpb v (by simp[hv]);rw[q3,Aw0];omega
end
end Go.Va
namespace Go.Va
theorem PT{a:Act}{d:Option Tmp}{v:Value}{k:Nat}(h:d≠some k):(a.put d v).tmps.getD k undef=a.tmps.getD k undef:=by
 cases d with
 | none=>rfl
 | some d =>
  have:d≠k:=λe=>h (by rw[e]);simp[Act.put,Array.getElem?_setIfInBounds_ne this]
theorem NY{a:Act}{k:Nat}{v:Value}(h:k<a.tmps.size):(a.put (some k) v).tmps.getD k undef=v:=by
 simp[Act.put,h]
section
variable {P:Program} {en:Env} {ops:Array Oper} {A:List (Nat×List Nat)} {N m:Nat} {done K0:List Nat} {seg pre post:List GH} {t:GH} {σ σ1:St} {a0 a:Act} {w0 w:World} {g0 g:G} {D D':Nat->Bool}
theorem Inv.next (he:EnvOk P en) (inv:Inv P A N done seg σ m a0 w0 g0 D a w g) (htr:Tr en ops.toList A done K0 σ seg σ1) (hbar:∀u∈seg,u.bar=false) (hseg:seg=pre++t::post) (hun:D t.i=false) (QI:∀x∈CS A t.i,D x=true)
    (hp1:∀u∈pre,u.i∈CS A t.i\/u.o.apart ops t.o=true) (hp2:∀u∈post,t.i∈CS A u.i\/t.o.apart ops u.o=true)
    (h0:∀(i:Nat) (x:AV),σ.slots[i]?=some x->∀k∈x.ids,k<σ.blks.length) (X4:Scoped σ.blks) (hm:m<=σ.blks.length)
    (hD':∀i,D' i=if i=t.i then true else D i) (hnp:∀u∈pre,u.i≠t.i) (hnq:∀u∈post,u.i≠t.i)
    {l l':List Blk} (hl:FG D seg σ.blks=t.σ.blks++l) (hl':t.post.blks=t.σ.blks++l') (hlg:t.grow=true->l=[]) (AsH:t.grow=false->l'=[])
    {v:Value} {w':World} {g':G} (H':Heap w' g' (t.σ.blks++(l++l'))) (hv:Bg w' g' (t.σ.blks++(l++l')).length t.val v) (Nf:∀k∈t.val.ids,k<t.post.blks.length) (st:Step [] (FG D seg σ.blks).length w g w' g') :
    Inv P A N done seg σ m a0 w0 g0 D' (a.put t.o.dst v) w' g':=by
 obtain⟨_,hsc,hlen,hpost,hgp,hB,_⟩:=inv.find he htr hbar hseg hun QI hp1 hp2 h0 X4;have Asr:∃l0,t.σ.blks=σ.blks++l0:=by
  subst hseg;obtain⟨qE,σt,htp,htt⟩:=htr.split;cases htt with
  | cons hσ ok ha hb next =>
   subst hσ;obtain⟨_,_,l0,hs3⟩:=htp.Yx he λu hu=>hbar u (by simp[hu]);exact⟨l0,hs3⟩
 have hok:t.Ok en ops.toList:=htr.Aax t (by rw[hseg];simp);obtain⟨l1,e1,e2,e3,_⟩:=T2 he hok (hbar t (by rw[hseg];simp));have hll:l1=l':=List.append_cancel_left (e1.symm.trans hl');subst hll;have hDt:D' t.i=true:=by rw[hD'];simp
 have hDp:∀u∈pre,D u.i=D' u.i:=λu hu=>by rw[hD',if_neg (hnp u hu)]
 have hDq:∀u∈post,D u.i=D' u.i:=λu hu=>by rw[hD',if_neg (hnq u hu)]
 have hB':FG D' seg σ.blks=t.σ.blks++(l++l1):=by
  have h1:FG D seg σ.blks=FG D post t.σ.blks:=by
   rw[hseg,TW,FG,hB,hun];rfl
  rw[hseg,TW,FG,<-kS hDp,hB,hDt,Bool.true_and,<-kS hDq];cases hg:t.grow with
  | false =>
   simp only[Bool.false_eq_true,if_false];rw[<-h1,hl,AsH hg,List.append_nil]
  | true =>
   simp only[if_true];have hnone:∀u∈post,D u.i=true->u.grow=false:=λu hu hd=>by
    have:=(hpost u hu hd).1;rw[hg] at this;cases this
   rw[Sc hnone,hlg hg,List.nil_append];cases hq:t.e with
   | none=>simp[GH.grow,hq] at hg
   | some e=>simp only[GH.nb,hq];exact(e3 e hq).2
 have hle:(FG D seg σ.blks).length<=(FG D' seg σ.blks).length:=by rw[hl,hB'];simp
 refine⟨λi hi=>?_,λi hi=>?_,λi hi x hx=>?_,by rw[put_defers];exact inv.dfr,by rw[Qw];exact inv.len,?_,by rw[hB'];exact H',λk x hx=>?_,λu hu hd=>?_,λu hu hd hg=>?_⟩
 ·rw[hD'];split
  ·rfl
  ·exact inv.had i hi
 ·rw[hD'] at hi;split at hi
  ·rename_i e;exact .inr ⟨t,by rw[hseg];simp,e.symm⟩
  ·exact inv.only i hi
 ·rw[hD'] at hi ⊢;split
  ·rfl
  ·split at hi
   ·rename_i e;subst e;exact QI x hx
   ·exact inv.closed i hi x hx
 ·refine inv.step.trans (st.toC ?_);obtain⟨l0,hl0⟩:=Asr;rw[hl,hl0];simp only[Aw0];omega
 ·by_cases hd:t.o.dst=some k
  ·have hx':(Jp D' seg σ.slots)[k]?=(SI (some k) t.val (Jp D' pre σ.slots))[k]?:=by
     rw[hseg,Ru,Jp,hDt,if_pos rfl,hd];refine Sd λu hu hd' e=>?_;rw[<-hDq u hu] at hd';exact(Oper.apart_spec (hpost u hu hd').2).2.1 k hd e
   rw[hx'] at hx;have hval:=Zr hx;subst hval;have hkl:k<a.tmps.size:=by
    have:=AE hx;rw[Um,TX,inv.len] at this;exact this
   rw[hd,NY hkl,hB'];exact hv
  ·rw[PT hd];have hx':(Jp D' seg σ.slots)[k]?=(Jp D seg σ.slots)[k]?:=by
    rw[hseg,Ru,Ru,Jp,Jp,hDt,hun,<-kT hDq,<-kT hDp];simp only[if_true,Bool.false_eq_true,if_false];exact WS (Wh hd)
   rw[hx'] at hx;exact(inv.slots k x hx).step0 st hle
 ·rw[hD'] at hd;split at hd
  ·rename_i e;have hut:u=t:=by
    rw[hseg] at hu;rcases List.mem_append.1 hu with hu | hu
    ·exact(hnp u hu e).elim
    ·rcases List.mem_cons.1 hu with hu | hu
     ·exact hu
     ·exact(hnq u hu e).elim
   subst hut;exact Nf
  ·exact inv.ids u hu hd
 ·rw[hD'] at hd;split at hd
  ·rename_i e;have hut:u=t:=by
    rw[hseg] at hu;rcases List.mem_append.1 hu with hu | hu
    ·exact(hnp u hu e).elim
    ·rcases List.mem_cons.1 hu with hu | hu
     ·exact hu
     ·exact(hnq u hu e).elim
   subst hut;rw[hlg hg,List.nil_append] at H';rw[hl'];exact H'.scp
  ·exact inv.scp u hu hd hg
end
end Go.Va
namespace Go.Va
theorem qo {w:World} {g:G} {n:Nat} {σ:St} {a:Act} {ops:Array Oper} {o:Oper} {b:Bool} (h:Want ops.toList σ o b) (hlen:σ.slots.length=a.tmps.size)
    (hs:∀k∈o.looksAt ops,∀x,σ.slots[k]?=some x->Bg w g n x (a.tmps.getD k undef)):Region.wanted o (yielded ops a.tmps)=b:=by
 cases h with
 | plain h=>simp[Region.wanted,h]
 | @guard g0 want d b h hd hb =>
  rw[Axa] at hd;have hk:d∈o.looksAt ops:=List.mem_append_right _ (by simp[h,hd]);have h1:=NP (hs d hk _ hb);have hl:d<a.tmps.size:=by rw[<-hlen];exact AE hb
  have h2:a.tmps[d]?=some (.bool b):=by
   rw[Array.getElem?_eq_getElem hl];rw[Array.getD_eq_getD_getElem?,Array.getElem?_eq_getElem hl] at h1;exact congrArg some h1
  simp[Region.wanted,h,yielded,hd,h2]
 | @nil g0 want d h hd hb =>
  rw[Axa] at hd;have hk:d∈o.looksAt ops:=List.mem_append_right _ (by simp[h,hd]);have h1:a.tmps.getD d undef=.tuple #[]:=hs d hk _ hb;have hl:d<a.tmps.size:=by rw[<-hlen];exact AE hb
  have h2:a.tmps[d]?=some (.tuple #[]):=by
   rw[Array.getElem?_eq_getElem hl];rw[Array.getD_eq_getD_getElem?,Array.getElem?_eq_getElem hl] at h1;exact congrArg some h1
  simp[Region.wanted,h,yielded,hd,h2]
section
variable {P:Program} {en:Env} {ops:Array Oper} {A:List (Nat×List Nat)} {N m:Nat} {done K0:List Nat} {seg pre post:List GH} {t:GH} {σ σ1:St} {a0 a:Act} {w0 w:World} {g0 g:G} {D D':Nat->Bool} {Q:Exit->Act->World->Prop}
theorem Inv.op (he:EnvOk P en) (inv:Inv P A N done seg σ m a0 w0 g0 D a w g) (htr:Tr en ops.toList A done K0 σ seg σ1) (hbar:∀u∈seg,u.bar=false) (hseg:seg=pre++t::post) (hun:D t.i=false) (QI:∀x∈CS A t.i,D x=true)
    (hp1:∀u∈pre,u.i∈CS A t.i\/u.o.apart ops t.o=true) (hp2:∀u∈post,t.i∈CS A u.i\/t.o.apart ops u.o=true)
    (h0:∀(i:Nat) (x:AV),σ.slots[i]?=some x->∀k∈x.ids,k<σ.blks.length) (X4:Scoped σ.blks) (hm:m<=σ.blks.length)
    (hD':∀i,D' i=if i=t.i then true else D i) (hnp:∀u∈pre,u.i≠t.i) (hnq:∀u∈post,u.i≠t.i) {K:Act->World->Prop}
    (hK:∀a' w' g',Inv P A N done seg σ m a0 w0 g0 D' a' w' g'->K a' w'):wpOp P ops Q t.i K a w:=by
 obtain⟨⟨l,hl,_,hlg⟩,hsc,hlen,hpost,hgp,hB,hsl⟩:=inv.find he htr hbar hseg hun QI hp1 hp2 h0 X4;have hok:t.Ok en ops.toList:=htr.Aax t (by rw[hseg];simp);obtain⟨l1,e1,e2,e3,_⟩:=T2 he hok (hbar t (by rw[hseg];simp));have ho:ops[t.i]?=some t.o:=by rw[<-Axa];exact hok.1
 have zQ:∀k∈t.o.looksAt ops,∀x,t.σ.slots[k]?=some x->Bg w g (FG D seg σ.blks).length x (a.tmps.getD k undef):=λk hk x hx=>(hsl k hk x hx).1;have hok2:=hok.2;unfold wpOp;simp only[ho];cases hq:t.e with
 | none =>
  rw[hq] at hok2;rw[qo hok2 hlen zQ];simp only[Bool.false_eq_true,if_false];have hg:t.grow=false:=by simp[GH.grow,hq]
  have hval:t.val=.nil:=by simp[GH.val,hq]
  have hl1:=e2 hg;subst hl1;refine hK _ _ g (inv.next he htr hbar hseg hun QI hp1 hp2 h0 X4 hm hD' hnp hnq hl e1 hlg e2 ?_ ?_ ?_ (Step.refl _ _ _ _))
  ·rw[List.append_nil,<-hl];exact inv.heap
  ·rw[hval];exact(show Bg _ _ _ .nil undef from rfl)
  ·rw[hval];intro k hk;cases hk
 | some e =>
  rw[hq] at hok2;rw[qo hok2.1 hlen zQ];simp only[if_true];obtain⟨Aqw,hblk⟩:=e3 e hq;have hval:t.val=e.val:=by simp[GH.val,hq]
  have Mv:Lj P (iF ops t.o t.σ) t.o e:=NR he (by rw[rV];exact hok2.2);refine .inl (sV Mv Aqw (l:=l) (l':=l1) hblk ?_ (w:=w) (g:=g) ?_ hsc (by simp only[iF,UZ];exact hlen) (λi x hx=>?_) λv w' g' H' hv Nf st=>?_)
  ·cases hg:t.grow with
   | true=>exact .inl (hlg hg)
   | false=>exact .inr (e2 hg)
  ·show Heap w g (t.σ.blks++l);rw[<-hl];exact inv.heap
  ·show Bg w g (t.σ.blks++l).length x _/\∀k∈x.ids,k<t.σ.blks.length;rw[<-hl];by_cases hi:i∈t.o.looksAt ops
   ·simp only[iF] at hx;rw[Vb (j:=0) (by simpa using hi)] at hx;exact hsl i hi x hx
   ·have:=Y4 (j:=0) (by simpa using hi) hx;subst this;exact⟨M9,λk hk=>by cases hk⟩
  ·refine hK _ _ g' (inv.next he htr hbar hseg hun QI hp1 hp2 h0 X4 hm hD' hnp hnq hl e1 hlg e2 H' (by rw[hval];exact hv) (by rw[hval,YX hq];exact Nf) ?_);rw[hl];exact st
def SU(listed:Array Bool)(i:Nat):Bool:=listed.getD i false
theorem pE{listed:Array Bool}{i:Nat}(hi:i<listed.size)(j:Nat):SU (listed.setIfInBounds i true) j=if j=i then true else SU listed j:=by
 unfold SU;by_cases h:j=i
 ·subst h;simp[hi]
 ·rw[if_neg h,getD_set_ne false (Ne.symm h)]
theorem Ph{listed:Array Bool}(hs:listed.size=ops.size){i:Nat}:i∈Region.ready .any ops listed↔i<ops.size/\SU listed i=false/\∀d∈OQ ops.toList i,SU listed d=true:=by
 rw[mem_ready];constructor
 ·rintro⟨h1,o,ho,h2⟩
  have hi:i<ops.size:=(Array.getElem?_eq_some_iff.1 ho).1;refine⟨hi,?_,λd hd=>?_⟩
  ·unfold SU;have hi':i<listed.size:=by omega
   simpa [Array.getD_eq_getD_getElem?,hi'] using h1
  ·unfold OQ at hd;rw[Axa,ho] at hd;obtain⟨e,he,hd⟩:=List.mem_filterMap.1 hd;split at hd
   ·rename_i hb;injection hd with hd;subst hd;exact h2 e (by simpa using he) hb
   ·cases hd
 ·rintro⟨hi,h1,h2⟩
  have hi':i<listed.size:=by omega
  refine⟨?_,ops[i],Array.getElem?_eq_getElem hi,λe he hb=>?_⟩
  ·unfold SU at h1;simpa [Array.getD_eq_getD_getElem?,hi'] using h1
  ·refine h2 e.on ?_;unfold OQ;rw[Axa,Array.getElem?_eq_getElem hi];exact List.mem_filterMap.2 ⟨e,by simpa using he,by rw[if_pos hb]⟩
def left(D:Nat->Bool)(seg:List GH):Nat:=(seg.filter λu=>!D u.i).length
theorem rP(hseg:seg=pre++t::post)(hun:D t.i=false)(hD':∀i,D' i=if i=t.i then true else D i)(hnp:∀u∈pre,u.i≠t.i)(hnq:∀u∈post,u.i≠t.i):left D seg=left D' seg+1:=by
 have same:∀(l:List GH),(∀u∈l,u.i≠t.i)->l.filter (λu=>!D u.i)=l.filter λu=>!D' u.i:=λl h=>List.filter_congr λu hu=>by rw[hD',if_neg (h u hu)]
 subst hseg;unfold left;rw[List.filter_append,List.filter_append,List.filter_cons,List.filter_cons,same pre hnp,same post hnq,hun,show D' t.i=true by rw[hD'];simp];simp;omega
end
end Go.Va
namespace Go.Va
theorem rQ{D:Nat->Bool}{seg:List GH}(h:left D seg=0):∀u∈seg,D u.i=true:=λu hu=>by
 have:=List.eq_nil_of_length_eq_zero h;cases hd:D u.i with
 | true=>rfl
 | false =>
  have hm:u∈seg.filter λu=>!D u.i:=List.mem_filter.2 ⟨hu,by simp[hd]⟩;rw[this] at hm;cases hm
theorem gD{D:Nat->Bool}:∀{seg:List GH},left D seg≠0->∃pre t post,seg=pre++t::post/\D t.i=false/\∀u∈pre,D u.i=true
 | [],h=>(h rfl).elim
 | u::seg,h=>by
  cases hd:D u.i with
  | false=>exact⟨[],u,seg,rfl,hd,λ_ hu=>by cases hu⟩
  | true =>
   have:left D seg≠0:=by
    unfold left at h ⊢;rw[List.filter_cons,hd] at h;simpa using h
   obtain⟨pre,t,post,e,h1,h2⟩:=gD this;exact⟨u::pre,t,post,by rw[e];rfl,h1,λv hv=>by
    rcases List.mem_cons.1 hv with rfl | hv
    ·exact hd
    ·exact h2 v hv⟩
section
variable {P:Program} {en:Env} {ops:Array Oper} {A:List (Nat×List Nat)} {m:Nat} {Q:Exit->Act->World->Prop} {a0:Act} {w0:World} {g0:G}
theorem iH{seg pre post:List GH}{t:GH}(h:(seg.map (·.i)).Nodup)(hseg:seg=pre++t::post):(∀u∈pre,u.i≠t.i)/\∀u∈post,u.i≠t.i:=by
 subst hseg;rw[List.map_append,List.map_cons,List.nodup_append] at h;obtain⟨_,h2,h3⟩:=h;rw[List.nodup_cons] at h2;exact⟨λu hu=>h3 u.i (List.mem_map.2 ⟨u,hu,rfl⟩) t.i (by simp),λu hu e=>h2.1 (List.mem_map.2 ⟨u,hu,e⟩)⟩
theorem AaN (he:EnvOk P en) (hA:Yr ops.toList A) {done K0:List Nat} {seg:List GH} {σ σ1:St} (htr:Tr en ops.toList A done K0 σ seg σ1) (hbar:∀u∈seg,u.bar=false) (R:List Nat)
    (W9:∀i,i<ops.size->i∈done\/(∃u∈seg,u.i=i)\/i∈R) (hlt:∀u∈seg,u.i<ops.size) (hnd:(seg.map (·.i)).Nodup)
    (RD:∀pre t post,seg=pre++t::post->∀u∈post,t.i∈CS A u.i\/t.o.apart ops u.o=true) (VI:∀pre t post,seg=pre++t::post->∀d∈OQ ops.toList t.i,d∈done\/∃u∈pre,u.i=d)
    (hR:∀i∈R,∀D:Nat->Bool,Closed A D->(∀x∈CS A i,D x=true)->(∀r∈R,D r=false)->∀u∈seg,D u.i=true) (hRd:∀r∈R,r∉done/\∀u∈seg,u.i≠r)
    (h0:∀(i:Nat) (x:AV),σ.slots[i]?=some x->∀k∈x.ids,k<σ.blks.length) (X4:Scoped σ.blks) (hm:m<=σ.blks.length)
    (cont:∀(listed:Array Bool) (a:Act) (w:World) (g:G),listed.size=ops.size->(∀i∈done,SU listed i=true)->(∀u∈seg,SU listed u.i=true)->(∀r∈R,SU listed r=false)->Closed A (SU listed)->Ik w g σ1 a->A2 m w0 g0 w g->a.defers=a0.defers ->
     wpAny P .any ops Q R.length listed a w) :
    ∀(n:Nat) (listed:Array Bool) (a:Act) (w:World) (g:G),listed.size=ops.size->left (SU listed) seg=n->Inv P A ops.size done seg σ m a0 w0 g0 (SU listed) a w g->wpAny P .any ops Q (n+R.length) listed a w
 | 0,listed,a,w,g,hs,hn,inv=>by
  have hall:=rQ hn;obtain⟨h1,h2,_⟩:=htr.Yx he hbar;have hR0:∀r∈R,SU listed r=false:=λr hr=>by
   cases hd:SU listed r with
   | false=>rfl
   | true =>
    rcases inv.only r hd with h | ⟨u,hu,e⟩
    ·exact((hRd r hr).1 h).elim
    ·exact((hRd r hr).2 u hu e).elim
  have hB:FG (SU listed) seg σ.blks=σ1.blks:=by rw[Tc λu hu _=>hall u hu,<-h2]
  rw[Nat.zero_add];refine cont listed a w g hs inv.had hall hR0 inv.closed ⟨by rw[<-hB];exact inv.heap,by rw[h1,TX];exact inv.len,λi x hx=>?_⟩ inv.step inv.dfr;rw[<-hB];refine inv.slots i x ?_;rw[Td (λu hu hd=>by rw[hall u hu] at hd;cases hd) rfl,<-h1];exact hx
 | n+1,listed,a,w,g,hs,hn,inv=>by
  obtain⟨pre,t,post,hseg,hun,hpre⟩:=gD (D:=SU listed) (seg:=seg) (by rw[hn];simp);rw[show n+1+R.length=(n+R.length)+1 by omega];have AqE:t.i∈Region.ready .any ops listed:=(Ph hs).2 ⟨hlt t (by rw[hseg];simp),hun,λd hd=>by
   rcases VI pre t post hseg d hd with h | ⟨u,hu,e⟩
   ·exact inv.had d h
   ·rw[<-e];exact hpre u hu⟩
  refine⟨λh=>by(rw[h] at AqE;cases AqE),λi hi=>?_⟩;obtain⟨hil,hiu,hid⟩:=(Ph hs).1 hi;have QI:=Zt hA inv.closed hid;rcases W9 i hil with h | ⟨u,hu,rfl⟩| h
  ·rw[inv.had i h] at hiu;cases hiu
  ·obtain⟨p1,p2,hsp⟩:=List.append_of_mem hu;obtain⟨hnp,hnq⟩:=iH hnd hsp;have hD':=pE (listed:=listed) (i:=u.i) (by omega);refine inv.op he htr hbar hsp hiu QI (λv hv=>?_) (RD p1 u p2 hsp) h0 X4 hm hD' hnp hnq λa' w' g' As4=>?_
   ·obtain⟨q1,q2,hq⟩:=List.append_of_mem hv;exact RD q1 v (q2++u::p2) (by rw[hsp,hq];simp) u (by simp)
   ·refine AaN he hA htr hbar R W9 hlt hnd RD VI hR hRd h0 X4 hm cont n _ a' w' g' (by simpa using hs) ?_ As4;have:=rP hsp hiu hD' hnp hnq;omega
  ·have:=hR i h _ inv.closed QI λr hr=>by
     cases hd:SU listed r with
     | false=>rfl
     | true =>
      rcases inv.only r hd with h | ⟨u,hu,e⟩
      ·exact((hRd r hr).1 h).elim
      ·exact((hRd r hr).2 u hu e).elim
   rw[this t (by rw[hseg];simp)] at hun;cases hun
theorem jE:∀(ts:List GH),∃seg rest,ts=seg++rest/\(∀u∈seg,u.bar=false)/\(rest=[]\/∃b r,rest=b::r/\b.bar=true)
 | []=>⟨[],[],rfl,λ_ h=>by(cases h),.inl rfl⟩
 | t::ts=>by
  cases hb:t.bar with
  | true=>exact⟨[],t::ts,rfl,λ_ h=>by(cases h),.inr ⟨t,ts,rfl,hb⟩⟩
  | false =>
   obtain⟨seg,rest,e,h1,h2⟩:=jE ts;exact⟨t::seg,rest,by rw[e];rfl,λu hu=>by
    rcases List.mem_cons.1 hu with rfl | hu
    ·exact hb
    ·exact h1 u hu,h2⟩
theorem wu (he:EnvOk P en) (hA:Yr ops.toList A) {σ':St} (fin:∀a' w' g',Ik w' g' σ' a'->A2 m w0 g0 w' g'->a'.defers=a0.defers->Q .normal a' w') :
    ∀(k:Nat) (ts:List GH) (done K0:List Nat) (σ:St),ts.length=k->Tr en ops.toList A done K0 σ ts σ'->(∀i,i<ops.size->i∈done\/∃u∈ts,u.i=i)->(∀u∈ts,u.i<ops.size)->(∀u∈ts,u.i∉done)->(ts.map (·.i)).Nodup ->
     (∀pre t post,ts=pre++t::post->∀u∈post,t.i∈CS A u.i\/t.o.apart ops u.o=true)->(∀pre t post,ts=pre++t::post->∀d∈OQ ops.toList t.i,d∈done\/∃u∈pre,u.i=d)->m<=σ.blks.length ->
     ∀(listed:Array Bool) (a:Act) (w:World) (g:G),listed.size=ops.size->(∀i∈done,SU listed i=true)->(∀u∈ts,SU listed u.i=false)->Closed A (SU listed)->Ik w g σ a->A2 m w0 g0 w g->a.defers=a0.defers->wpAny P .any ops Q k listed a w:=by
 intro k;induction k using Nat.strongRecOn with
 | _ k ih =>
  intro ts done K0 σ hk htr W9 hlt Aqm hnd RD VI hm listed a w g hs hdone hun hcl hst hstep AsC;obtain⟨seg,rest,rfl,hbar,hrest⟩:=jE ts;obtain⟨qE,σ1,ht1,ht2⟩:=htr.split;obtain⟨_,_,lx,hext⟩:=ht1.Yx he hbar;have AsL:(seg.map (·.i)).Nodup:=by
   rw[List.map_append,List.nodup_append] at hnd;exact hnd.1
  have hleft:left (SU listed) seg=seg.length:=by
   unfold left;rw[List.filter_eq_self.2 λu hu=>by rw[hun u (by simp[hu])];rfl]
  have hone:∀u∈rest,∀v∈seg,v.i≠u.i:=λu hu v hv=>by
   rw[List.map_append,List.nodup_append] at hnd;exact hnd.2.2 v.i (List.mem_map.2 ⟨v,hv,rfl⟩) u.i (List.mem_map.2 ⟨u,hu,rfl⟩)
  have hBn:FG (SU listed) seg σ.blks=σ.blks:=Sc λu hu hd=>by rw[hun u (by simp[hu])] at hd;cases hd
  have hSn:∀i,(Jp (SU listed) seg σ.slots)[i]?=σ.slots[i]?:=λi=>Sd λu hu hd=>by rw[hun u (by simp[hu])] at hd;cases hd
  have Aqu:k=seg.length+(rest.map (·.i)).length:=by rw[Aw8,<-Aw0];exact hk.symm
  rw[Aqu];refine AaN (a0:=a0) (w0:=w0) (g0:=g0) he hA ht1 hbar (rest.map (·.i)) (λi hi=>?_) (λu hu=>hlt u (by simp[hu])) AsL (λpre t post hsp u hu=>RD pre t (post++rest) (by rw[hsp];simp) u (by simp[hu])) (λpre t post hsp=>VI pre t (post++rest) (by rw[hsp];simp))
   (λi hi D hD QI hRf u hu=>?_) (λr hr=>?_) (λi x hx=>(hst.slots i x hx).Oj) hst.heap.scp hm (λlisted' a' w' g' hs' hd' Adi hR' hcl' hst' zT Aec=>?_) seg.length listed a w g hs hleft ?_
  ·rcases W9 i hi with h | ⟨u,hu,e⟩
   ·exact .inl h
   ·rcases List.mem_append.1 hu with hu | hu
    ·exact .inr (.inl ⟨u,hu,e⟩)
    ·exact .inr (.inr (List.mem_map.2 ⟨u,hu,e⟩))
  ·rcases hrest with rfl | ⟨b,r,rfl,hb⟩
   ·cases hi
   ·obtain⟨p1,p2⟩:=htr.pairs;rw[List.map_cons] at hi;rcases List.mem_cons.1 hi with rfl | hi
    ·exact QI _ ((p2 hb).2 u hu)
    ·obtain⟨v,hv,rfl⟩:=List.mem_map.1 hi;have h1:=QI _ (p1 (by simp[hb]) v hv);rw[hRf b.i (by simp)] at h1;cases h1
  ·obtain⟨v,hv,rfl⟩:=List.mem_map.1 hr;exact⟨Aqm v (by simp[hv]),λu hu=>hone v hv u hu⟩
  ·rcases hrest with rfl | ⟨b,r,rfl,hb⟩
   ·cases ht2;refine⟨List.eq_nil_iff_forall_not_mem.2 λi hi=>?_,fin a' w' g' hst' zT Aec⟩;obtain⟨hil,hiu,_⟩:=(Ph hs').1 hi;rcases W9 i hil with h | ⟨u,hu,e⟩
    ·rw[hd' i h] at hiu;cases hiu
    ·rw[<-e,Adi u (by simpa using hu)] at hiu;cases hiu
   ·rw[List.map_cons,List.length_cons,Aw8];have hbr:b.i∈Region.ready .any ops listed':=(Ph hs').2 ⟨hlt b (by simp),hR' b.i (by simp),λd hd=>by
     rcases VI seg b r rfl d hd with h | ⟨u,hu,e⟩
     ·exact hd' d h
     ·rw[<-e];exact Adi u hu⟩
    refine⟨λh=>by(rw[h] at hbr;cases hbr),λi hi=>?_⟩;obtain⟨hil,hiu,hid⟩:=(Ph hs').1 hi;have QI:=Zt hA hcl' hid;obtain⟨p1,p2⟩:=htr.pairs;have hib:i=b.i:=by
     rcases W9 i hil with h | ⟨u,hu,rfl⟩
     ·rw[hd' i h] at hiu;cases hiu
     ·rcases List.mem_append.1 hu with hu | hu
      ·rw[Adi u hu] at hiu;cases hiu
      ·rcases List.mem_cons.1 hu with rfl | hu
       ·rfl
       ·have:=QI _ (p1 (by simp[hb]) u hu);rw[hR' b.i (by simp)] at this;cases this
    subst hib;cases ht2 with
    | cons hσ ok ha hbd next =>
     subst hσ;have ho:ops[b.i]?=some b.o:=by rw[<-Axa];exact ok.1
     have hok2:=ok.2;cases hq:b.e with
     | none=>simp[GH.bar,hq] at hb
     | some e =>
      rw[hq] at hok2;have Mv:=NR he hok2.2;unfold wpOp;simp only[ho];rw[if_pos (Ht hst' hok2.1)];have hm1:m<=b.σ.blks.length:=by rw[hext,Aw0];omega
      refine .inl (Mv.wp a' w' g' hst' _ Q λv w2 g2 H2 hv2 st2=>?_);have hpost:b.post=b.σ.after b.o.dst e:=by simp[GH.post,hq]
      have hset:=pE (listed:=listed') (i:=b.i) (by omega);have hrnd:∀u∈r,u.i≠b.i:=(iH hnd rfl).2;refine ih r.length (by rw[<-hk];simp;omega) r (b.i::((seg.map (·.i)).reverse++done)) _ b.post rfl next (λi hi=>?_) (λu hu=>hlt u (by simp[hu])) (λu hu=>?_) ?_ (λpre t post hsp u hu=>RD (seg++b::pre) t post (by rw[hsp];simp) u hu) (λpre t post hsp d hd=>?_) (by rw[hpost];exact Nat.le_trans hm1 Mv.grow)
       _ _ w2 g2 (by simpa using hs') (λi hi=>?_) (λu hu=>?_) (λi hi x hx=>?_) (by rw[hpost];exact hst'.after Mv.grow H2 hv2 st2) (zT.trans (st2.toC hm1)) (by rw[put_defers];exact Aec)
      ·rcases W9 i hi with h | ⟨u,hu,e⟩
       ·exact .inl (by simp[h])
       ·rcases List.mem_append.1 hu with hu | hu
        ·exact .inl (by simp;exact .inr (.inl ⟨u,hu,e⟩))
        ·rcases List.mem_cons.1 hu with rfl | hu
         ·exact .inl (by simp[e])
         ·exact .inr ⟨u,hu,e⟩
      ·have h1:=Aqm u (by simp[hu]);have h2:=hrnd u hu;have h3:∀v∈seg,v.i≠u.i:=λv hv=>hone u (by simp[hu]) v hv;simp only[List.mem_cons,List.mem_append,List.mem_reverse,List.mem_map,not_or,not_exists,not_and];exact⟨h2,λv hv=>h3 v hv,h1⟩
      ·rw[List.map_append,List.nodup_append,List.map_cons,List.nodup_cons] at hnd;exact hnd.2.1.2
      ·rcases VI (seg++b::pre) t post (by rw[hsp];simp) d hd with h | ⟨u,hu,e⟩
       ·exact .inl (by simp[h])
       ·rcases List.mem_append.1 hu with hu | hu
        ·exact .inl (by simp;exact .inr (.inl ⟨u,hu,e⟩))
        ·rcases List.mem_cons.1 hu with rfl | hu
         ·exact .inl (by simp[e])
         ·exact .inr ⟨u,hu,e⟩
      ·rw[hset];split
       ·rfl
       ·rename_i hne;rcases List.mem_cons.1 hi with h | h
        ·exact(hne h).elim
        ·rcases List.mem_append.1 h with h | h
         ·obtain⟨u,hu,rfl⟩:=List.mem_map.1 (List.mem_reverse.1 h);exact Adi u hu
         ·exact hd' i h
      ·rw[hset,if_neg (hrnd u hu)];exact hR' u.i (by simp;exact .inr ⟨u,hu,rfl⟩)
      ·rw[hset] at hi ⊢;split
       ·rfl
       ·split at hi
        ·rename_i e;subst e;exact QI x hx
        ·exact hcl' i hi x hx
  ·refine⟨hdone,λi hi=>.inl ?_,hcl,AsC,hst.len,hstep,by rw[hBn];exact hst.heap,λi x hx=>?_,λu hu hd=>by(rw[hun u (by simp[hu])] at hd;cases hd),λu hu hd=>by(rw[hun u (by simp[hu])] at hd;cases hd)⟩
   ·have hil:i<ops.size:=by
      unfold SU at hi;rcases Aw7 i listed.size with h' | h'
      ·omega
      ·simp[Array.getD_eq_getD_getElem?,Array.getElem?_eq_none h'] at hi
    rcases W9 i hil with h | ⟨u,hu,rfl⟩
    ·exact h
    ·rw[hun u hu] at hi;cases hi
   ·rw[hSn] at hx;rw[hBn];exact hst.slots i x hx
end
theorem Vh:∀{l:List Nat},nodup l=true->l.Nodup
 | [],_=>List.nodup_nil
 | k::r,h=>by
  simp only[nodup,Aw3,Bool.not_eq_true'] at h;rw[List.nodup_cons];exact⟨by simpa using h.1,Vh h.2⟩
theorem iL{all:List Oper}{A:List (Nat×List Nat)}:∀{L pre post:List Nat} {i:Nat},Uh all A L=true->L=pre++i::post->∀j∈post,i∈CS A j\/∃x y,all[i]?=some x/\all[j]?=some y/\x.apart all.toArray y=true
 | [],pre,post,i,_,h=>by simp at h
 | k::L,[],post,i,hp,h=>by
  injection h with h1 h2;subst h1;subst h2;intro j hj;simp only[Uh,Aw3] at hp;have:=List.all_eq_true.1 hp.1 j hj;rw[Bool.or_eq_true] at this;rcases this with h | h
  ·exact .inl (by simpa using h)
  ·split at h
   ·rename_i x y hx hy;exact .inr ⟨x,y,hx,hy,h⟩
   ·cases h
 | k::L,p::pre,post,i,hp,h=>by
  injection h with h1 h2;simp only[Uh,Aw3] at hp;exact iL hp.2 h2
theorem qg{all:List Oper}:∀{L pre post done:List Nat} {i:Nat},XQ all L done=true->L=pre++i::post->∀d∈OQ all i,d∈done\/d∈pre
 | [],pre,post,done,i,_,h=>by simp at h
 | k::L,[],post,done,i,hp,h=>by
  injection h with h1 h2;subst h1;intro d hd;simp only[XQ,Aw3] at hp;have:=List.all_eq_true.1 hp.1 d hd;exact .inl (by simpa using this)
 | k::L,p::pre,post,done,i,hp,h=>by
  injection h with h1 h2;subst h1;simp only[XQ,Aw3] at hp;intro d hd;rcases qg hp.2 h2 d hd with h | h
  ·rcases List.mem_cons.1 h with h | h
   ·exact .inr (by simp[h])
   ·exact .inl h
  ·exact .inr (by simp[h])
theorem Z6 {P:Program} {en:Env} {m:Nat} (he:EnvOk P en) (AsK:P.follows .mixedOrders=true) {id:Nat} {ops:Array Oper} {L:List Nat} (hok:wo ops.toList L=true) {σ σ':St} (hx:OS en ops.toList (Ro ops.toList L []) L [] [] σ some=some σ') (hm:m<=σ.blks.length) :
    m<=σ'.blks.length/\∀(a:Act) (w:World) (g:G) (Q:Exit->Act->World->Prop),Ik w g σ a->(∀a' w' g',Ik w' g' σ' a'->A2 m w g w' g'->a'.defers=a.defers->Q .normal a' w')->(Code.region id ops true).wp P Q a w:=by
 simp only[wo,Aw3] at hok;obtain⟨⟨⟨⟨hnd,W9⟩,hlt⟩,RD⟩,VI⟩:=hok;obtain⟨ts,hts,htr⟩:=T3 he.nat hx;have hA:Yr ops.toList (Ro ops.toList L []):=Yy _ L [] (λi x h=>by cases h) hnd λi _ p hp=>by cases hp
 have grow:∀{ts:List GH} {done K0:List Nat} {σ σ':St},Tr en ops.toList (Ro ops.toList L []) done K0 σ ts σ'->σ.blks.length<=σ'.blks.length:=by
  intro ts;induction ts with
  | nil=>intro done K0 σ σ' h;cases h;exact Aw2 _
  | cons t ts ih =>
   intro done K0 σ σ' h;cases h with
   | cons hσ ok ha hb next =>
    subst hσ;refine Nat.le_trans ?_ (ih next)
    have ok2:=ok.2;unfold GH.post;cases hq:t.e with
    | none=>exact Aw2 _
    | some e =>
     rw[hq] at ok2;exact(NR he ok2.2).grow
 have AqK:∀pre t post,ts=pre++t::post->L=pre.map (·.i)++t.i::post.map (·.i):=λpre t post h=>by rw[<-hts,h];simp
 refine⟨Nat.le_trans hm (grow htr),λa w g Q hs hq=>wp_region_any AsK ?_⟩;have hs1:Ik {w with drawn:=w.drawn+1} g σ a:=⟨hs.heap.drew,hs.len,λi x hx=>(hs.slots i x hx).step0 (Step.drew [] _ w g) (Aw2 _)⟩;have hlen:ts.length=ops.size:=by
  have h1:ts.length=L.length:=by rw[<-hts,Aw8]
  have hn:=Vh hnd;have hsub:∀i∈L,i∈List.range ops.size:=λi hi=>by
   have:=List.all_eq_true.1 hlt i hi;simpa using this
  have hsup:∀i∈List.range ops.size,i∈L:=λi hi=>by
   have:=List.all_eq_true.1 W9 i (by simpa using hi);simpa using this
  have h2:=hn.length_le_of_subset hsub;have h3:=List.nodup_range.length_le_of_subset hsup;rw[List.length_range] at h2 h3;omega
 have hrep:∀i,SU (Array.replicate ops.size false) i=false:=λi=>by
  unfold SU;rw[Array.getD_eq_getD_getElem?,Array.getElem?_replicate];split<;>rfl
 refine wu (m:=m) (a0:=a) (w0:=w) (g0:=g) he hA hq ops.size ts [] [] σ hlen htr (λi hi=>.inr ?_) (λu hu=>?_) (λu _ h=>by cases h) (by rw[hts];exact Vh hnd) (λpre t post hsp u hu=>?_) (λpre t post hsp d hd=>?_) hm
  _ a _ g (by simp) (λi hi=>by cases hi) (λu _=>hrep _) (λi hi=>by rw[hrep] at hi;cases hi) hs1 (Step.drew _ _ w g) rfl
 ·have:=List.all_eq_true.1 W9 i (by simpa using hi);have hi':i∈L:=by simpa using this
  rw[<-hts] at hi';obtain⟨u,hu,e⟩:=List.mem_map.1 hi';exact⟨u,hu,e⟩
 ·have hu':u.i∈L:=by rw[<-hts];exact List.mem_map.2 ⟨u,hu,rfl⟩
  have:=List.all_eq_true.1 hlt u.i hu';simpa using this
 ·rcases iL RD (AqK pre t post hsp) u.i (List.mem_map.2 ⟨u,hu,rfl⟩) with h | ⟨x,y,hx,hy,h⟩
  ·exact .inl h
  ·have h1:=(htr.Aax t (by rw[hsp];simp)).1;have h2:=(htr.Aax u (by rw[hsp];simp[hu])).1;rw[hx] at h1;injection h1 with h1;rw[hy] at h2;injection h2 with h2;subst h1;subst h2;exact .inr (by simpa using h)
 ·rcases qg VI (AqK pre t post hsp) d hd with h | h
  ·cases h
  ·obtain⟨u,hu,e⟩:=List.mem_map.1 h;exact .inr ⟨u,hu,e⟩
end Go.Va
namespace Go.Va
section
variable {P:Program} {en:Env} {m:Nat}
def ZG(P:Program)(en:Env)(m:Nat)(c:Code):Prop:=∀(σ:St) (e:Ex) (σ':St),ev en m c (Ex×St) σ Hz=some (e,σ')->m<=σ.blks.length->m<=σ'.blks.length /\
 ∀(a:Act) (w:World) (g:G) (Q:Exit->Act->World->Prop),Ik w g σ a->(∀a' w' g',Ik w' g' σ' a'->A2 m w g w' g'->a'.defers=a.defers->Q (Z7 e) a' w')->c.wp P Q a w
theorem Qh(he:Rh en){c:Code}{R:Type}{σ:St}{K:Ex->St->Option R}{r:R}(h:ev en m c R σ K=some r):∃e s,ev en m c (Ex×St) σ Hz=some (e,s)/\K e s=some r:=by
 rw[P0 he] at h;cases hx:ev en m c (Ex×St) σ Hz with
 | none=>rw[hx] at h;cases h
 | some p=>rw[hx] at h;exact⟨p.1,p.2,rfl,h⟩
theorem jK(he:Rh en){body:Code}(ih:ZG P en m body){e:Ex}{σ':St}:∀(n:Nat) (σ:St),dz (λs K=>ev en m body (Ex×St) s K) Hz n σ=some (e,σ')->m<=σ.blks.length->m<=σ'.blks.length
 | 0,_,h,_=>by cases h
 | n+1,σ,h,hm=>by
  simp only[dz] at h;obtain⟨e1,s',hb,hc⟩:=Qh he h;have hms:=(ih _ _ _ hb hm).1;cases e1 with
  | normal=>exact jK he ih n s' hc hms
  | exit k =>
   simp only[AwY,Aw9] at hc;obtain⟨_,rfl⟩:=hc;exact hms
  | ret =>
   simp only[AwY,Aw9] at hc;obtain⟨_,rfl⟩:=hc;exact hms
theorem Ads(he:HB P en){body:Code}(ih:ZG P en m body):ZG P en m (.loop body):=by
 intro σ e σ' h hm;simp only[ev] at h;split at h
 ·rename_i n _;refine⟨jK he.nat ih n σ h hm,λa w g Q hs hq=>?_⟩;refine ZB (λn a' w'=>∃s g',dz (λs K=>ev en m body (Ex×St) s K) Hz n s=some (e,σ')/\Ik w' g' s a'/\m<=s.blks.length/\A2 m w g w' g'/\a'.defers=a.defers) (λn a1 w1 hR=>?_) (n:=n) ⟨σ,g,h,hs,hm,A2.refl _ _ _,rfl⟩;obtain⟨s,g1,hu,hs1,hms,OU,hd1⟩:=hR;cases n with
  | zero=>cases hu
  | succ n =>
   simp only[dz] at hu;obtain⟨e1,s',hb,hc⟩:=Qh he.nat hu;obtain⟨zL,hwp⟩:=ih _ _ _ hb hms;refine hwp a1 w1 g1 _ hs1 λa2 w2 g2 hs2 Xd hd2=>?_;cases e1 with
   | normal=>exact⟨n,Nat.lt_succ_self _,s',g2,hc,hs2,zL,OU.trans Xd,hd2.trans hd1⟩
   | exit k =>
    simp only[AwY,Aw9] at hc;obtain⟨rfl,rfl⟩:=hc;exact hq a2 w2 g2 hs2 (OU.trans Xd) (hd2.trans hd1)
   | ret =>
    simp only[AwY,Aw9] at hc;obtain⟨rfl,rfl⟩:=hc;exact hq a2 w2 g2 hs2 (OU.trans Xd) (hd2.trans hd1)
 split at h
 ·rename_i hh ho _ _;split at h
  ·cases h
  ·rename_i σ0 hσ0;have h:(fix (XL en m hh ho body) σ0).bind (λp=>Hz p.1 p.2)=some (e,σ'):=h;cases hf:fix (XL en m hh ho body) σ0 with
   | none=>rw[hf] at h;cases h
   | some p =>
    rw[hf] at h;have h:p=(e,σ'):=by injection h
    subst h;obtain⟨n,hn⟩:=(Qk.1 hf).n;have fin:∀n s,ToN (XL en m hh ho body) n s (e,σ')->m<=s.blks.length->m<=σ'.blks.length:=by
     intro n s hs;generalize ht:(e,σ')=t at hs;induction hs with
     | done hd =>
      subst ht;intro hms;obtain⟨e1,s',hb,hc⟩:=QV he.nat hd;rcases hc with ⟨_,s'',_,hr⟩| ⟨_,s'',hh2,hr⟩
      ·cases hr
      ·injection hr with hr;injection hr with h1 h2;subst h2;exact Qo hh2
     | more hd _ ihn =>
      intro hms;obtain⟨e1,s',hb,hc⟩:=QV he.nat hd;rcases hc with ⟨_,s'',zO,hr⟩| ⟨_,s'',_,hr⟩
      ·injection hr with hr;subst hr;exact ihn ht (Qo zO)
      ·cases hr
    have hm0:m<=σ0.blks.length:=Qo hσ0;refine⟨fin n σ0 hn hm0,λa w g Q hs hq=>?_⟩;obtain⟨g0,hs0,gU,_⟩:=QJ hσ0 hs hm;refine ZB (λn a' w'=>∃s g',ToN (XL en m hh ho body) n s (e,σ')/\Ik w' g' s a'/\m<=s.blks.length/\A2 m w g w' g'/\a'.defers=a.defers) (λn a1 w1 hR=>?_) (n:=n) ⟨σ0,g0,hn,hs0,hm0,gU,rfl⟩;obtain⟨s,g1,hto,hs1,hms,OU,hd1⟩:=hR;cases hto with
    | done hd =>
     obtain⟨e1,s',hb,hc⟩:=QV he.nat hd;rcases hc with ⟨_,s'',_,hr⟩| ⟨hne,s'',hh2,hr⟩
     ·cases hr
     ·injection hr with hr;injection hr with h1 h2;subst h1;subst h2;obtain⟨zL,hwp⟩:=ih _ _ _ hb hms;refine hwp a1 w1 g1 _ hs1 λa2 w2 g2 hs2 Xd hd2=>?_;obtain⟨g3,hs3,zS,_⟩:=QJ hh2 hs2 zL;have hQ:=hq a2 w2 g3 hs3 ((OU.trans Xd).trans zS) (hd2.trans hd1);cases e with
      | normal=>exact(hne rfl).elim
      | exit k=>exact hQ
      | ret=>exact hQ
    | more hd AsV =>
     rename_i k;obtain⟨e1,s',hb,hc⟩:=QV he.nat hd;rcases hc with ⟨he1,s'',zO,hr⟩| ⟨_,s'',_,hr⟩
     ·injection hr with hr;subst hr;subst he1;obtain⟨zL,hwp⟩:=ih _ _ _ hb hms;refine hwp a1 w1 g1 _ hs1 λa2 w2 g2 hs2 Xd hd2=>?_;obtain⟨g3,hs3,zS,hm3⟩:=QJ zO hs2 zL;exact⟨k,Nat.lt_succ_self _,_,g3,AsV,hs3,hm3,(OU.trans Xd).trans zS,hd2.trans hd1⟩
     ·cases hr
 ·cases h
theorem Tj:∀{l:List (Option Unit)},gH l=some ()->∀x∈l,x=some ()
 | [],_,_,h=>by cases h
 | [x],h,y,hy=>by rw[List.mem_singleton] at hy;subst hy;exact h
 | x::y::r,h,z,hz=>by
  simp only[gH] at h;cases hf:x with
  | none=>rw[hf] at h;cases h
  | some u =>
   rw[hf] at h;rcases List.mem_cons.1 hz with rfl | hz
   ·exact hf
   ·exact Tj h z hz
theorem zm(he:HB P en){σ σ0:St}{l:Option (List Nat)}(h:Ac6 m σ l=some σ0)(hm:m<=σ.blks.length):m<=σ0.blks.length/\∀{a:Act} {w:World} {g:G},Ik w g σ a->∃g0,Ik w g0 σ0 a/\A2 m w g w g0:=by
 cases l with
 | none=>simp only[Ac6,AwY] at h;subst h;exact⟨hm,λhs=>⟨_,hs,A2.refl _ _ _⟩⟩
 | some l =>
  have h:σ.head {live:=l} m=some σ0:=h;exact⟨Qo h,λhs=>by obtain⟨g1,h1,h2,_⟩:=QJ h hs hm;exact⟨g1,h1,h2⟩⟩
theorem zq(he:Rh en){σ:St}{o:Oper}{e:Eff}(ha:Wt en σ o=none)(hs:bH en σ o=none)(hc:∀c,o.op≠.call c)(h:exec en σ o some=some e):∃e0,Ni en σ o some=some e0:=by
 have h:PE en σ o some=some e:=by
  unfold exec at h;split at h
  ·rename_i ho _;exact(hc _ ho).elim
  ·exact h
 unfold PE at h;rw[ha,hs] at h;simp only at h;split at h
 ·cases hd:WY en o with
  | false=>rw[hd] at h;exact⟨e,h⟩
  | true =>
   rw[hd] at h;simp only[Axc] at h;rw[J1 en he] at h;cases hx:Ni en σ o some with
   | none=>rw[hx] at h;cases h
   | some e0=>exact⟨e0,rfl⟩
 ·rw[J1 en he] at h;cases hx:Ni en σ o some with
  | none=>rw[hx] at h;cases h
  | some e0=>exact⟨e0,rfl⟩
theorem UJ{α:Type}{k:IntKind}{x y:Int}{c:BoundsCode}{w w1:World}{r:α}(h:(boundsPanic k x y c:Sem α).run P w=.ok r w1):False:=by
 unfold boundsPanic at h
 dsimp only at h
 split at h
 ·rw[Sem.run_bind] at h;generalize (Sem.run P _ w)=q at h;cases q with
  | halt e w=>cases h
  | ok b w2=>simp[runtimePanic] at h
 ·simp[runtimePanic] at h
theorem Ut{t:TypeId}{w w1:World}{n:Nat}(h:(sizeOf t).run P w=.ok n w1):∀w',(sizeOf t).run P w'=.ok n w':=by
 intro w';unfold sizeOf typeInfo at h ⊢;simp only[Sem.run_bind] at h ⊢;have hp:(program).run P w=.ok P w:=rfl;have hp':(program).run P w'=.ok P w':=rfl;simp only[hp,hp',Result.andThen_ok] at h ⊢;cases hq:P.info? t with
 | none=>rw[hq] at h;simp at h
 | some i=>rw[hq] at h;simp at h ⊢;exact h.1
theorem X9{t:TypeId}{u v c:Value}{w w1:World}(h:(Instr.indexAt t u v).run P w=.ok c w1):∀w',(Instr.indexAt t u v).run P w'=.ok c w':=by
 intro w';unfold Instr.indexAt at h ⊢;cases v with
 | int k i =>
  simp only[asIntOf,pure_bind] at h ⊢;cases hu:P.underlying t with
  | none=>simp[underlying,hu] at h
  | some d =>
   cases d with
   | slice elem =>
    cases u with
    | slice base len cap =>
     simp[underlying,hu] at h ⊢;cases base with
     | none=>exact(UJ (by simpa using h)).elim
     | some a =>
      simp only at h ⊢;split at h
      ·rename_i hc;rw[if_pos hc];simp only[Sem.run_map] at h ⊢;cases hs:(sizeOf elem).run P w with
       | halt e w=>rw[hs] at h;cases h
       | ok n w2 =>
        rw[hs] at h;rw[Ut hs w'];simp at h ⊢;exact h.1
      ·exact(UJ (by simpa using h)).elim
    | _=>simp[underlying,hu] at h
   | array len elem =>
    cases u with
    | pointer p =>
     cases p with
     | none=>simp[underlying,hu,Instr.sureAddr] at h
     | some a =>
      simp[underlying,hu,Instr.sureAddr] at h ⊢;split at h
      ·rename_i hc;rw[if_pos hc];cases hs:(sizeOf elem).run P w with
       | halt e w=>rw[hs] at h;cases h
       | ok n w2 =>
        rw[hs] at h;rw[Ut hs w'];simp at h ⊢;exact h.1
      ·split at h
       ·cases h
       ·exact(UJ h).elim
    | _=>simp[underlying,hu,Instr.sureAddr] at h
   | _=>simp[underlying,hu] at h
 | pointer p=>cases p<;>simp[asIntOf] at h
 | _=>simp[asIntOf] at h
def dL(P:Program){α:Type}(s:Sem α):Prop:=∀w w1 c,s.run P w=.ok c w1->∀w',s.run P w'=.ok c w'
theorem dL.pure{α:Type}(x:α):dL P (Pure.pure x:Sem α):=λw w1 c h w'=>by simp at h ⊢;exact h.1
theorem dL.bind{α β:Type}{s:Sem α}{f:α->Sem β}(h1:dL P s)(h2:∀x,dL P (f x)):dL P (s >>= f):=λw w1 c h w'=>by
 rw[Sem.run_bind] at h ⊢;cases hs:s.run P w with
 | halt e w2=>rw[hs] at h;cases h
 | ok x w2 =>
  rw[hs] at h;rw[h1 _ _ _ hs w'];exact h2 x _ _ _ h w'
theorem dL.info(t:TypeId):dL P (typeInfo t):=λw w1 c h w'=>by
 unfold typeInfo at h ⊢;simp only[Sem.run_bind] at h ⊢;have hp:(program).run P w=.ok P w:=rfl;have hp':(program).run P w'=.ok P w':=rfl;simp only[hp,hp',Result.andThen_ok] at h ⊢;cases hq:P.info? t with
 | none=>rw[hq] at h;simp at h
 | some i=>rw[hq] at h;simp at h ⊢;exact h.1
theorem dL.mapM{α β:Type}{f:α->Sem β}(h:∀x,dL P (f x)):∀l:List α,dL P (l.mapM f)
 | []=>by rw[List.mapM_nil];exact .pure _
 | x::l=>by rw[List.mapM_cons];exact .bind (h x) λy=>.bind (dL.mapM h l) λys=>.pure _
theorem dL.map{α β:Type}{s:Sem α}(f:α->β)(h:dL P s):dL P (f <$> s):=by
 rw[map_eq_pure_bind];exact .bind h λx=>.pure _
theorem eF(t:TypeId)(parts:Array (Nat×Value)):dL P (Instr.build t parts):=by
 have hsz:∀t,dL P (sizeOf t):=λt=>by unfold sizeOf;exact .bind (.info t) λ_=>.pure _
 have hun:dL P (underlying t):=by
  unfold underlying;refine .bind (λw w1 c h w'=>?_) λp=>?_
  ·have hp:(program).run P w=.ok P w:=rfl;have hp':(program).run P w'=.ok P w':=rfl;rw[hp] at h;rw[hp'];injection h with h _;rw[h]
  ·split
   ·exact .pure _
   ·exact λw w1 c h=>by simp at h
 unfold Instr.build zeroValue;refine .bind (.bind (.info t) λi=>?_) λz=>?_
 ·split
  ·exact .pure _
  ·exact λw w1 c h=>by simp at h
 ·refine .bind hun λd=>?_;split
  ·refine .bind ?_ λps=>?_
   ·rw[Array.mapM_eq_mapM_toList];exact .map _ (.mapM (λf=>.bind (hsz _) λ_=>.pure _) _)
   ·split
    ·exact .pure _
    ·exact λw w1 c h=>by simp at h
  ·refine .bind (hsz _) λn=>?_;split
   ·exact .pure _
   ·exact λw w1 c h=>by simp at h
  ·exact λw w1 c h=>by simp at h
theorem Zq (he:EnvOk P en) {σ:St} {o:Oper} {e:Eff} (hp:pR o=true) (hx:exec en σ o some=some e) {w w1:World} {g:G} {a:Act} (hs:Ik w g σ a) {n:Next} (hr:(execOp a.eval o).run P w=.ok n w1) :
    ∃c,∀w',(execOp a.eval o).run P w'=.ok (.value c) w':=by
 unfold pR at hp;split at hp
 ·rename_i x ho;exact⟨a.eval x,λw'=>by simp[execOp,ho]⟩
 ·rename_i x ho;exact⟨a.eval x,λw'=>by simp[execOp,ho]⟩
 ·rename_i x i ho;simp only[execOp,ho,Instr.extract] at hr ⊢;split at hr
  ·split at hr
   ·rename_i v hv;exact⟨v,λw'=>by simp⟩
   ·cases hr
  ·cases hr
 ·rename_i t x f ho;have ha:Wt en σ o=none:=by unfold Wt;rw[ho]
  obtain⟨e0,hx⟩:=zq he.nat ha (by unfold bH Zx r9;rw[ho]) (λc e=>by rw[ho] at e;cases e) hx;unfold Ni at hx
  dsimp only at hx
  rw[ho] at hx;simp only at hx;split at hx
  ·rename_i ti ht;have QK:=AB hs x;unfold X2 at hx;split at hx
   ·rename_i k i p q hq;rw[hq] at QK;split at hx
    ·rename_i fo hfo;obtain⟨_,_,_,b,_,e1⟩:=IJ QK;exact⟨.pointer (some ⟨b,i.toNat*(g.at_ k).YS+q+fo,none⟩),λw'=>by simp[execOp,ho,e1,(PF (P:=P) (w:=w') (he.t ht) hfo b _).1]⟩
    ·cases hx
   ·rename_i ks t' y hq;rw[hq] at QK;split at hx
    ·rename_i hc;obtain⟨_,b,off,ds,e1,_⟩:=R7 QK;cases hfo:ti.Rc[f]? with
     | none =>
      rw[hfo] at hc;obtain⟨rfl,hc⟩:=hc;split at hx
      ·rename_i ks' u z hz
       exfalso
       have:∀(f:Nat) (t:Ty) (x:t.V) (v:AV),Ql ks t x f=some v->OA t f≠none:=by
        intro f;induction f with
        | zero=>intro t x v h;cases t<;>simp[Ql,OA] at h ⊢
        | succ f ih =>
         intro t x v h;cases t with
         | pair a b =>
          simp only[Ql] at h;have:=ih b x.2 v h;simp only[OA];cases ho:OA b f with
          | none=>exact(this ho).elim
          | some _=>simp
         | _=>simp[Ql] at h
       exact this f _ y _ hz hc
      ·cases hx
     | some fo=>exact⟨.pointer (some ⟨b,off+fo,none⟩),λw'=>by simp[execOp,ho,e1,(PF (P:=P) (w:=w') (he.t ht) hfo b _).1]⟩
    ·cases hx
   ·cases hx
  ·cases hx
 ·rename_i t x i ho;simp only[execOp,ho] at hr ⊢;rw[Sem.run_bind] at hr;cases hq:(Instr.indexAt t (a.eval x) (a.eval i)).run P w with
  | halt e w=>rw[hq] at hr;cases hr
  | ok c w2=>exact⟨c,λw'=>by rw[Sem.run_bind,X9 hq w'];rfl⟩
 ·rename_i t parts ho;simp only[execOp,ho] at hr ⊢;rw[Sem.run_bind] at hr;cases hq:(Instr.build t (parts.map λ(i,x)=>(i,a.eval x))).run P w with
  | halt e w=>rw[hq] at hr;cases hr
  | ok c w2=>exact⟨c,λw'=>by rw[Sem.run_bind,eF _ _ _ _ _ hq w'];rfl⟩
 ·cases hp
theorem TN (he:HB P en) {h:SH} {ops:Array Oper} {σ':St} {Q:Exit->Act->World->Prop} {a0:Act} {w0:World} {g0:G}
    (fin:∀a' w' g',Ik w' g' σ' a'->A2 m w0 g0 w' g'->a'.defers=a0.defers->Q .normal a' w') (hsel:Region.noSelect ops=true) (hQ:∀c a w,¬Q (.panic c) a w) :
    ∀(k:Nat) (listed:Array Bool) (σ:St),qF en h m ops σ' k listed σ=some ()->m<=σ.blks.length->∀(a:Act) (w:World) (g:G),Ik w g σ a->A2 m w0 g0 w g->a.defers=a0.defers->wpAny P .any ops Q k listed a w
 | 0,listed,σ,hw,hm,a,w,g,hs,hst,hd=>by
  simp only[qF] at hw;split at hw
  ·rename_i hr;split at hw
   ·rename_i s hh;unfold Ti at hw;split at hw
    ·rename_i e;subst e;obtain⟨g1,hs1,st1,_⟩:=QJ hh hs hm;exact⟨by simpa using hr,fin a w g1 hs1 (hst.trans st1) hd⟩
    ·cases hw
   ·cases hw
  ·cases hw
 | k+1,listed,σ,hw,hm,a,w,g,hs,hst,hd=>by
  simp only[qF] at hw;split at hw
  ·rename_i i hi;unfold Aem at hi;have hp:=List.find?_some hi;have hrd:=List.mem_of_find?_eq_some hi;rw[Aw3] at hp;simp only[Nh] at hw;split at hw
   ·cases hw
   ·rename_i o ho;have ho':ops[i]?=some o:=by rw[<-Axa];exact ho
    rw[ho'] at hp;rcases L9 hw with ⟨hwt,h1⟩| ⟨hwt,h1⟩
    ·rw[NQ en he.nat] at h1;cases hx:exec en σ o some with
     | none=>rw[hx] at h1;cases h1
     | some e =>
      rw[hx] at h1;have Mv:=NR he.toEnvOk hx;have hgrow:=Mv.grow;have hwp:=Mv.wp a w g hs (wpAny P .any ops Q k (listed.setIfInBounds i true)) (λ_ _ _=>False) λv w' g' hH hv hst'=>TN he fin hsel hQ k _ _ h1 (Nat.le_trans hm hgrow) _ _ _ (hs.after hgrow hH hv hst') (hst.trans (hst'.toC hm)) (by rw[Go.Va.put_defers];exact hd);have hrun:∃n w1,(execOp a.eval o).run P w=.ok n w1:=by
       unfold Oper.wp at hwp;cases hq:(execOp a.eval o).run P w with
       | ok n w1=>exact⟨n,w1,rfl⟩
       | halt e w1=>rw[hq] at hwp;cases e<;>exact hwp.elim
      obtain⟨n,w1,hrun⟩:=hrun;obtain⟨c,hc⟩:=Zq he.toEnvOk hp.1 hx hs hrun;have hy:Yields P ops o c a:=.inl ⟨Ht hs hwt,hc⟩;refine wpAny_take ho' hsel hp.2 (by simpa using hrd) (λc a w h=>(hQ c _ _ h).elim) hy ?_;unfold Oper.wp at hwp;rw[hc w] at hwp;exact hwp
    ·have hy:Yields P ops o undef a:=.inr ⟨Ht hs hwt,rfl⟩;refine wpAny_take ho' hsel hp.2 (by simpa using hrd) (λc a w h=>(hQ c _ _ h).elim) hy ?_;exact TN he fin hsel hQ k _ _ h1 hm _ _ _ (hs.skip o.dst) hst (by rw[Go.Va.put_defers];exact hd)
  split at hw
  ·cases hw
  ·rename_i hr;refine⟨λe=>by rw[e] at hr;exact(hr rfl).elim,λi hi=>?_⟩;have h1:=Tj hw _ (List.mem_map_of_mem hi);simp only[Nh] at h1;unfold wpOp;split at h1
   ·cases h1
   ·rename_i o ho;have ho':ops[i]?=some o:=by rw[<-Axa];exact ho
    simp only[ho'];rcases L9 h1 with ⟨hw,h1⟩| ⟨hw,h1⟩
    ·rw[NQ en he.nat] at h1;cases hx:exec en σ o some with
     | none=>rw[hx] at h1;cases h1
     | some e =>
      rw[hx] at h1;have Mv:=NR he.toEnvOk hx;have hgrow:=Mv.grow;rw[if_pos (Ht hs hw)];refine .inl (Mv.wp a w g hs _ Q λv w' g' hH hv hst'=>?_);exact TN he fin hsel hQ k _ _ h1 (Nat.le_trans hm hgrow) _ _ _ (hs.after hgrow hH hv hst') (hst.trans (hst'.toC hm)) (by rw[put_defers];exact hd)
    ·rw[Ht hs hw];simp only[Bool.false_eq_true,if_false];exact TN he fin hsel hQ k _ _ h1 hm _ _ _ (hs.skip o.dst) hst (by rw[put_defers];exact hd)
theorem Ik.cut{w:World}{g:G}{σ:St}{a:Act}(hs:Ik w g σ a):Ik w (g.cut σ.blks.length) σ a:=by
 have Xb:∀b,g.own b=.Gr->(g.cut σ.blks.length).own b=.Gr:=λb h=>by simp[G.cut,h]
 refine⟨⟨λb hb=>by simp[G.cut,hs.heap.fresh b hb],λk x hx=>?_⟩,hs.len,λi x hx=>?_⟩
 ·have:=(hs.heap.blk k x hx).ren (φ:=id) Xb (Wa (AE hx)) λj hj=>Wa (hs.heap.scp k x hx j hj);rwa [S8] at this
 ·have h:=hs.slots i x hx;have:=h.ren (φ:=id) (g':=g.cut σ.blks.length) (n':=σ.blks.length) Xb λk hk=>Wa (h.Oj k hk);rwa [JZ] at this
theorem lJ (he:EnvOk P en) {σ:St} {o:Oper} {e:Eff} {t:TypeId} {x:Operand} (ho:o.op=.load t x) {k:Nat} {i:Int} {p:List Nat} {f:Nat} {a0:AV} (hx:σ.Bw x=.ptr k i p f) (hb:σ.blks[k]?=some (.box a0)) (hex:exec en σ o some=some e)
    {w:World} {g:G} {a:Act} (hs:Ik w g σ a):∃b,(g.at_ k).a=some ⟨b,0,none⟩/\∃c,∀w',w'.heap[b]?=w.heap[b]?->(execOp a.eval o).run P w'=.ok (.value c) w':=by
 have ha:Wt en σ o=none:=by
  unfold Wt;rw[ho]
  dsimp only
  split
  ·rfl
  ·split
   ·rename_i e' ti k' i' p' f' _ _ hx';rw[hx] at hx';injection hx' with h1 h2 h3 h4;subst h1;rw[hb]
   ·rfl
 obtain⟨e0,hex⟩:=zq he.nat ha (by unfold bH Zx r9;rw[ho]) (λc e=>by rw[ho] at e;cases e) hex;unfold Ni at hex
 dsimp only at hex
 rw[ho] at hex;simp only at hex;split at hex
 ·rename_i ti ht;have QK:=AB hs x;rw[hx] at QK hex;obtain⟨hk,h0,h1,b,hba,hpe⟩:=IJ QK;refine⟨b,hba,?_⟩;have hld:∃v,atP σ.blks k i p f=some v/\v.size=ti.ty.size:=by
   split at hex
   ·split at hex
    ·unfold TC at hex;simp only[hb] at hex;cases hex
    ·cases hex
   ·unfold SS at hex;simp only at hex;split at hex
    ·rename_i v hv;split at hex
     ·rename_i hc;exact⟨v,hv,hc.1⟩
     ·cases hex
    ·cases hex
  obtain⟨v,hv,hsz⟩:=hld;obtain⟨cs,hcx,hcell⟩:=P9 hs.heap hv h1 hba;have hl:cs.length=ti.ty.size:=by rw[hcx.len,hsz]
  obtain⟨c,_,hsv⟩:=NU (P:=P) (w:=w) (he.t ht) hl hcell (λhg=>by rw[hl];exact Pk hg);refine⟨c,λw' hw'=>?_⟩;obtain⟨c',hr,lD⟩:=NU (P:=P) (w:=w') (he.t ht) hl (λj u hu=>(Qd hw').trans (hcell j u hu)) (λhg=>by rw[hl];exact Pk hg);have:c'=c:=by
   cases hq:ti.ty.isAgg with
   | true=>rw[hq] at hsv lD;simp only[A3,Axc] at hsv lD;rw[hsv,lD]
   | false=>rw[hq] at hsv lD;simp only[A3,Axb] at hsv lD;rw[hsv] at lD;injection lD with h _;exact h.symm
  subst this;simp[execOp,ho,hpe,Instr.loadAt,Instr.sureAddr,hr]
 ·cases hex
theorem Ahu{ts:Array TypeId}{t:TypeId}{ad:Option Addr}{n cp:Nat}{w w1:World}{v:Value}(h:(Builtin.len_ ts t #[.slice ad n cp]).run P w=.ok v w1)(w':World):(Builtin.len_ ts t #[.slice ad n cp]).run P w'=.ok v w':=by
 unfold Builtin.len_ at h ⊢;cases ht:ts[0]? with
 | none=>simp[ht] at h
 | some t =>
  cases hu:P.underlying t with
  | none=>simp[ht,underlying,hu] at h
  | some d =>
   cases d with
   | pointer q =>
    cases hq:P.underlying q with
    | none=>simp[ht,underlying,hu,hq] at h
    | some d=>cases d<;>simp[ht,underlying,hu,hq,goInt] at h ⊢<;>exact h.1
   | slice _=>simp[ht,underlying,hu,goInt] at h ⊢;exact h.1
   | array _ _=>simp[ht,underlying,hu,goInt] at h ⊢;exact h.1
   | _=>simp[ht,underlying,hu,goInt] at h
theorem rR {o:Oper} {c:Call} (ho:o.op=.call c) (hc:c.callee=.builtin .len) {a:Act} {X:Operand} (hX:c.args.toList=[X]) {ad:Option Addr} {n cp:Nat} (hv:a.eval X=.slice ad n cp) {w w1:World} {nx:Next} (hr:(execOp a.eval o).run P w=.ok nx w1) :
    ∃v,∀w',(execOp a.eval o).run P w'=.ok (.value v) w':=by
 have hA:c.args=#[X]:=by apply Array.toList_inj.1;rw[hX]
 have key:∀w',(execOp a.eval o).run P w'=((Builtin.len_ c.argTypes o.type #[.slice ad n cp]).run P w').andThen λv w'=>.ok (.value v) w':=λw'=>by
  simp[execOp,ho,resolve,hc,hA,hv,invoke,builtin]
 rw[key] at hr;cases hq:(Builtin.len_ c.argTypes o.type #[.slice ad n cp]).run P w with
 | ok v w2=>exact⟨v,λw'=>by rw[key,Ahu hq w'];rfl⟩
 | halt e w2=>rw[hq] at hr;cases hr
theorem sD (he:EnvOk P en) {SG:List Blk} {σ:St} {o:Oper} {e:Eff} (hp:lZ SG σ o=true) (hx:exec en σ o some=some e) {w w1:World} {g:G} {a:Act} (hs:Ik w g σ a) {nx:Next} (hr:(execOp a.eval o).run P w=.ok nx w1)
    {n0:Nat} {w0:World} (hN:∀k b,(g.at_ k).a=some ⟨b,0,none⟩->(∃a0,SG[k]?=some (.box a0))->b<n0) (hw:∀b,b<n0->w.heap[b]?=w0.heap[b]?):∃c,∀w',(∀b,b<n0->w'.heap[b]?=w0.heap[b]?)->(execOp a.eval o).run P w'=.ok (.value c) w':=by
 unfold lZ at hp;rw[Bool.or_eq_true] at hp;rcases hp with hp | hp
 ·obtain⟨c,hc⟩:=Zq he hp hx hs hr;exact⟨c,λw' _=>hc w'⟩
 ·split at hp
  ·rename_i t x ho;split at hp
   ·rename_i k i p f QK;split at hp
    ·rename_i a1 a0 hb0 hbb;obtain⟨b,hba,c,hc⟩:=lJ he ho QK hbb hx hs;have hbn:=hN k b hba ⟨a1,hb0⟩;exact⟨c,λw' hw'=>hc w' ((hw' b hbn).trans (hw b hbn).symm)⟩
    ·cases hp
   ·cases hp
  ·rename_i c ho;have go:∀(X:Operand),c.callee=.builtin .len->c.args.toList=[X]->(∃ad n cp,a.eval X=.slice ad n cp)->∃v,∀w',(∀b,b<n0->w'.heap[b]?=w0.heap[b]?)->(execOp a.eval o).run P w'=.ok (.value v) w':=λX h1 h2 ⟨ad,n,cp,h3⟩=>by
    obtain⟨v,hv⟩:=rR ho h1 h2 h3 hr;exact⟨v,λw' _=>hv w'⟩
   split at hp
   ·rename_i hc hops;unfold Nv at hops;cases hl:c.args.toList with
    | nil=>rw[hl] at hops;cases hops
    | cons X r =>
     rw[hl] at hops;cases r with
     | nil =>
      simp only[List.map_cons,List.map_nil,List.cons.injEq,and_true] at hops;have hv:=AB hs X;rw[hops] at hv;obtain⟨_,ad,cp,ds,hv,_⟩:=S7 hv;exact go X hc hl ⟨_,_,_,hv⟩
     | cons _ _=>simp at hops
   ·rename_i hc hops;unfold Nv at hops;cases hl:c.args.toList with
    | nil=>rw[hl] at hops;cases hops
    | cons X r =>
     rw[hl] at hops;cases r with
     | nil =>
      simp only[List.map_cons,List.map_nil,List.cons.injEq,and_true] at hops;have hv:=AB hs X;rw[hops] at hv;obtain⟨ad,hv⟩:=Rp hv;exact go X hc hl ⟨_,_,_,hv⟩
     | cons _ _=>simp at hops
   ·cases hp
  ·rename_i op t x y yt ho;rw[Aw3] at hp;obtain⟨h1,h2⟩:=hp;split at h2
   ·rename_i ks k u ks' k' v QK hyy;have hk:k=k':=by simpa using h2
    subst hk;have e1:=AB hs x;rw[QK] at e1;have e1:=Cu e1;have e2:=AB hs y;rw[hyy] at e2;have e2:=Cu e2;split at h1
    ·exact⟨_,λw' _=>by simp[execOp,ho,e1,e2,eqGuard,binOp,Op.intArith];rfl⟩
    ·exact⟨_,λw' _=>by simp[execOp,ho,e1,e2,eqGuard,binOp,Op.intArith];rfl⟩
    ·cases h1
   ·cases h2
  ·cases hp
theorem gq{R:Type}{all:List Oper}{N i:Nat}{σ:St}{K:St->Option R}{r:R}(h:evQ en all N i σ K=some r):∃o,all[i]?=some o/\QH all σ o (λσ=>exec en σ o λe=>if e.mods.all (λk=>decide (N<=k)) then K (σ.after o.dst e) else none) (λσ=>K (σ.skip o.dst))=some r:=by
 unfold evQ at h;split at h
 ·cases h
 ·rename_i o ho;exact⟨o,ho,h⟩
theorem tN{w:World}{g:G}{n:Nat}:A2 m w g w (g.cut n) :=
 ⟨rfl,rfl,rfl,Aw2 _,λb _ h=>⟨by simp[G.cut,h],rfl⟩,λb h=>⟨by simp[G.cut,h],rfl⟩,λb k p h hk hm=>(hm (List.mem_range.2 hk)).elim,λk hk=>rfl⟩
theorem l7 {σ:St} {o:Oper} {e:Eff} (Mv:Lj P σ o e) {N n0:Nat} (hme:∀k∈e.mods,N<=k) {w:World} {g:G} {a:Act} (hs:Ik w g σ a) (hm:m<=σ.blks.length) (hNl:N<=σ.blks.length) (hn0:n0<=w.heap.size) (hown:∀b,b<n0->∀k r,g.own b=.lab k r->k<N) {next:Act->World->Prop} {Q:Exit->Act->World->Prop}
    (hn:∀v w' g',Ik w' g' (σ.after o.dst e) (a.put o.dst v)->A2 m w g w' g'->(∀b,b<n0->w'.heap[b]?=w.heap[b]?)->w.heap.size<=w'.heap.size->(∀k,k<σ.blks.length->g'.at_ k=g.at_ k)->(∀b,b<n0->∀k r,g'.own b=.lab k r->k<N)->next (a.put o.dst v) w'):o.wp P a w next Q:=by
 refine Mv.wp a w g hs next Q λv w' g' hH hv st=>?_
 have both:∀b,b<n0->w'.heap[b]?=w.heap[b]?/\∀k r,g'.own b=.lab k r->k<N:=λb hb=>by
  cases hq:g.own b with
  | no =>
   have:=st.no b (by omega) hq;exact⟨this.2,λk r h=>by rw[this.1] at h;cases h⟩
  | Gr =>
   have:=st.Gr b hq;exact⟨this.2,λk r h=>by rw[this.1] at h;cases h⟩
  | lab k r =>
   have hk:=hown b hb k r hq;have:=st.lab b k r hq (by omega) (λh=>by have:=hme k h;omega);exact⟨this.2,λk' r' h=>by rw[this.1] at h;injection h with h1 _;omega⟩
 exact hn v w' g' (hs.after Mv.grow hH hv st) (st.toC hm) (λb hb=>(both b hb).1) st.size (λk hk=>st.at_ k hk) λb hb=>(both b hb).2
theorem V6 (he:HB P en) {h:SH} {ops:Array Oper} {σ':St} {Q:Exit->Act->World->Prop} {a0:Act} {w0:World} {g0 gS:G}
    (fin:∀a' w' g',Ik w' g' σ' a'->A2 m w0 g0 w' g'->a'.defers=a0.defers->Q .normal a' w') (hsel:Region.noSelect ops=true) (hQ:∀c a w,¬Q (.panic c) a w) {SG:List Blk} (H0:Heap w0 gS SG) :
    ∀(k:Nat) (listed:Array Bool) (σ:St),kG en h m SG ops σ' k listed σ=some ()->m<=σ.blks.length->SG.length<=σ.blks.length->∀(a:Act) (w:World) (g:G),Ik w g σ a->A2 m w0 g0 w g->a.defers=a0.defers->(∀b,b<w0.heap.size->w.heap[b]?=w0.heap[b]?)->w0.heap.size<=w.heap.size->(∀k,k<SG.length->g.at_ k=gS.at_ k)->(∀b,b<w0.heap.size->∀k r,g.own b=.lab k r->k<SG.length) ->
     wpAnyH P .any ops Q (λw=>∀b,b<w0.heap.size->w.heap[b]?=w0.heap[b]?) k listed a w
 | 0,listed,σ,hw,hm,hl,a,w,g,hs,hst,hd,hS,hsz,hat,hown=>by
  simp only[kG] at hw;split at hw
  ·rename_i hr;split at hw
   ·rename_i s hh;unfold Ti at hw;split at hw
    ·rename_i e;subst e;obtain⟨g1,hs1,st1,_⟩:=QJ hh hs hm;exact⟨by simpa using hr,fin a w g1 hs1 (hst.trans st1) hd⟩
    ·cases hw
   ·cases hw
  ·cases hw
 | k+1,listed,σ,hw,hm,hl,a,w,g,hs,hst,hd,hS,hsz,hat,hown=>by
  have one:∀(o:Oper) (e:Eff) (i:Nat),exec en σ o some=some e->(if e.mods.all (λk=>decide (SG.length<=k)) then kG en h m SG ops σ' k (listed.setIfInBounds i true) (σ.after o.dst e) else none)=some ()->∀(Q':Exit->Act->World->Prop),
      o.wp P a w (λa' w'=>(∀b,b<w0.heap.size->w'.heap[b]?=w0.heap[b]?)/\wpAnyH P .any ops Q (λw=>∀b,b<w0.heap.size->w.heap[b]?=w0.heap[b]?) k (listed.setIfInBounds i true) a' w') Q':=by
   intro o e i hx h1 Q';split at h1
   ·rename_i hme;have hme:∀k∈e.mods,SG.length<=k:=λk hk=>by have:=List.all_eq_true.1 hme k hk;simpa using this
    have Mv:=NR he.toEnvOk hx;refine l7 (m:=m) Mv hme hs hm hl hsz hown λv w' g' hs' st' hS' hsz' hat' hown'=>?_;have hS2:∀b,b<w0.heap.size->w'.heap[b]?=w0.heap[b]?:=λb hb=>(hS' b hb).trans (hS b hb);exact⟨hS2,V6 he fin hsel hQ H0 k _ _ h1 (Nat.le_trans hm Mv.grow) (Nat.le_trans hl Mv.grow) _ _ _ hs' (hst.trans st') (by rw[Go.Va.put_defers];exact hd) hS2 (Nat.le_trans hsz hsz') (λk hk=>(hat' k (Nat.lt_of_lt_of_le hk hl)).trans (hat k hk)) hown'⟩
   ·cases h1
  simp only[kG] at hw;split at hw
  ·rename_i i hi;unfold Ael at hi;have hp:=List.find?_some hi;have hrd:=List.mem_of_find?_eq_some hi;rw[Aw3] at hp;obtain⟨o,ho,hw⟩:=gq hw;have ho':ops[i]?=some o:=by rw[<-Axa];exact ho
   rw[ho'] at hp;rcases L9 hw with ⟨hwt,h1⟩| ⟨hwt,h1⟩
   ·rw[NQ en he.nat] at h1;cases hx:exec en σ o some with
    | none=>rw[hx] at h1;cases h1
    | some e =>
     rw[hx] at h1;have hwp:=one o e i hx h1 (λ_ _ _=>False);have hrun:∃n w1,(execOp a.eval o).run P w=.ok n w1:=by
      unfold Oper.wp at hwp;cases hq:(execOp a.eval o).run P w with
      | ok n w1=>exact⟨n,w1,rfl⟩
      | halt e w1=>rw[hq] at hwp;cases e<;>exact hwp.elim
     obtain⟨n,w1,hrun⟩:=hrun;obtain⟨c,hc⟩:=sD he.toEnvOk hp.1 hx hs hrun (n0:=w0.heap.size) (w0:=w0) (λk b hb Ade=>by
      obtain⟨a1,Ade⟩:=Ade;obtain⟨_,b',cs,e',ha',_,hh',_⟩:=H0.blk k _ Ade;rw[hat k (AE Ade),ha'] at hb;injection hb with hb;injection hb with hb;subst hb;exact AE (l:=w0.heap.toList) (by rw[Axa];exact hh')|> λh=>by simpa using h) hS
     have hy:YieldsIf P ops (λw=>∀b,b<w0.heap.size->w.heap[b]?=w0.heap[b]?) o c a:=.inl ⟨Ht hs hwt,hc⟩;refine wpAnyH_take ho' hsel hp.2 (by simpa using hrd) (λc a w h=>(hQ c _ _ h).elim) hy hS ?_;unfold Oper.wp at hwp;rw[hc w hS] at hwp;exact hwp.2
   ·have hy:YieldsIf P ops (λw=>∀b,b<w0.heap.size->w.heap[b]?=w0.heap[b]?) o undef a:=.inr ⟨Ht hs hwt,rfl⟩;refine wpAnyH_take ho' hsel hp.2 (by simpa using hrd) (λc a w h=>(hQ c _ _ h).elim) hy hS ?_;exact V6 he fin hsel hQ H0 k _ _ h1 hm hl _ _ _ (hs.skip o.dst) hst (by rw[Go.Va.put_defers];exact hd) hS hsz hat hown
  split at hw
  ·cases hw
  ·rename_i hr;refine⟨λe=>by rw[e] at hr;exact(hr rfl).elim,λi hi=>?_⟩;have h1:=Tj hw _ (List.mem_map_of_mem hi);obtain⟨o,ho,h1⟩:=gq h1;unfold wpOp;have ho':ops[i]?=some o:=by rw[<-Axa];exact ho
   simp only[ho'];rcases L9 h1 with ⟨hw,h1⟩| ⟨hw,h1⟩
   ·rw[NQ en he.nat] at h1;cases hx:exec en σ o some with
    | none=>rw[hx] at h1;cases h1
    | some e =>
     rw[hx] at h1;rw[if_pos (Ht hs hw)];exact .inl (one o e i hx h1 Q)
   ·rw[Ht hs hw];simp only[Bool.false_eq_true,if_false];exact⟨hS,V6 he fin hsel hQ H0 k _ _ h1 hm hl _ _ _ (hs.skip o.dst) hst (by rw[put_defers];exact hd) hS hsz hat hown⟩
theorem Ms(he:HB P en):∀c:Code,ZG P en m c
 | .skip=>λσ e σ' h hm=>by
  simp only[ev,AwY,Aw9] at h;obtain⟨rfl,rfl⟩:=h;exact⟨hm,λa w g Q hs hq=>wp_skip (hq a w g hs (A2.refl _ _ _) rfl)⟩
 | .ret=>λσ e σ' h hm=>by
  simp only[ev,AwY,Aw9] at h;obtain⟨rfl,rfl⟩:=h;exact⟨hm,λa w g Q hs hq=>wp_ret (hq a w g hs (A2.refl _ _ _) rfl)⟩
 | .exit n=>λσ e σ' h hm=>by
  simp only[ev,AwY,Aw9] at h;obtain⟨rfl,rfl⟩:=h;exact⟨hm,λa w g Q hs hq=>wp_exit (hq a w g hs (A2.refl _ _ _) rfl)⟩
 | .seq c d=>λσ e σ' h hm=>by
  simp only[ev] at h;have hj:∃e1 s1,m<=s1.blks.length/\(∀(a:Act) (w:World) (g:G) (Q:Exit->Act->World->Prop),Ik w g σ a->(∀a' w' g',Ik w' g' s1 a'->A2 m w g w' g'->a'.defers=a.defers->Q (Z7 e1) a' w')->c.wp P Q a w) /\
      (match e1 with | .normal=>ev en m d (Ex×St) s1 Hz | .exit n=>Hz (.exit n) s1 | .ret=>Hz .ret s1)=some (e,σ'):=by
   split at h
   ·obtain⟨e1,s1,h1,h2⟩:=Qh he.nat h;obtain⟨hm1,ih1⟩:=Ms he c σ e1 s1 h1 hm;exact⟨e1,s1,hm1,ih1,h2⟩
   ·rename_i hh _;rw[Option.bind_eq_some_iff] at h;obtain⟨σ0,h0,h⟩:=h;obtain⟨hm0,hent⟩:=zm he h0 hm;rw[Option.bind_eq_some_iff] at h;obtain⟨⟨e1,s2⟩,h1,h2⟩:=h;obtain⟨e0,s1,h3,h4⟩:=Qh he.nat h1;rw[Option.bind_eq_some_iff] at h4;obtain⟨s3,h5,h6⟩:=h4;simp only[AwY,Aw9] at h6;obtain⟨rfl,rfl⟩:=h6;obtain⟨hm1,ih1⟩:=Ms he c σ0 e0 s1 h3 hm0;refine⟨e0,s3,Qo h5,λa w g Q hs hq=>?_,h2⟩;obtain⟨g0,hs0,gU⟩:=hent hs;refine ih1 a w g0 Q hs0 λa' w' g' hs' hst hd=>?_;obtain⟨g3,hs3,zS,_⟩:=QJ h5 hs' hm1;exact hq a' w' g3 hs3 (gU.trans (hst.trans zS)) hd
  obtain⟨e1,s1,hm1,ih1,h2⟩:=hj;cases e1 with
  | normal =>
   obtain⟨hm2,ih2⟩:=Ms he d s1 e σ' h2 hm1;refine⟨hm2,λa w g Q hs hq=>wp_seq (ih1 a w g _ hs λa1 w1 g1 hs1 OU hd1=>?_)⟩;exact ih2 a1 w1 g1 Q hs1 λa2 w2 g2 hs2 Xd hd2=>hq a2 w2 g2 hs2 (OU.trans Xd) (hd2.trans hd1)
  | exit n =>
   simp only[AwY,Aw9] at h2;obtain⟨rfl,rfl⟩:=h2;exact⟨hm1,λa w g Q hs hq=>wp_seq (ih1 a w g _ hs λa1 w1 g1 hs1 OU hd1=>hq a1 w1 g1 hs1 OU hd1)⟩
  | ret =>
   simp only[AwY,Aw9] at h2;obtain⟨rfl,rfl⟩:=h2;exact⟨hm1,λa w g Q hs hq=>wp_seq (ih1 a w g _ hs λa1 w1 g1 hs1 OU hd1=>hq a1 w1 g1 hs1 OU hd1)⟩
 | .cond c x y=>λσ e σ' h hm=>by
  simp only[ev] at h;split at h
  ·rename_i ks t hc;have hb:∀(a:Act) (w:World) (g:G),Ik w g σ a->a.eval c=.bool t:=λa w g hs=>by
    have:=AB hs c;rw[hc] at this;exact NP this
   cases t
   ·obtain⟨hm1,ih1⟩:=Ms he y σ e σ' h hm;exact⟨hm1,λa w g Q hs hq=>wp_cond_false (hb a w g hs) (ih1 a w g Q hs hq)⟩
   ·obtain⟨hm1,ih1⟩:=Ms he x σ e σ' h hm;exact⟨hm1,λa w g Q hs hq=>wp_cond_true (hb a w g hs) (ih1 a w g Q hs hq)⟩
  ·cases h
 | .block n c=>λσ e σ' h hm=>by
  simp only[ev] at h;obtain⟨e1,s1,h1,h2⟩:=Qh he.nat h;obtain⟨hm1,ih1⟩:=Ms he c σ e1 s1 h1 hm;cases e1 with
  | normal =>
   simp only[AwY,Aw9] at h2;obtain⟨rfl,rfl⟩:=h2;exact⟨hm1,λa w g Q hs hq=>wp_block (ih1 a w g _ hs λa1 w1 g1 hs1 OU hd1=>hq a1 w1 g1 hs1 OU hd1)⟩
  | exit k =>
   simp only at h2;cases hk:k==n with
   | true =>
    rw[hk] at h2;simp only[Axc,AwY,Aw9] at h2;obtain⟨rfl,rfl⟩:=h2;have hk':k=n:=by simpa using hk
    subst hk';exact⟨hm1,λa w g Q hs hq=>wp_block (ih1 a w g _ hs λa1 w1 g1 hs1 OU hd1=>by
     simp only[Z7,Exit.inBlock,if_true];exact hq a1 w1 g1 hs1 OU hd1)⟩
   | false =>
    rw[hk] at h2;simp only[Axb,AwY,Aw9] at h2;obtain⟨rfl,rfl⟩:=h2;have hk':¬k=n:=by simpa using hk
    exact⟨hm1,λa w g Q hs hq=>wp_block (ih1 a w g _ hs λa1 w1 g1 hs1 OU hd1=>by
     simp only[Z7,Exit.inBlock,if_neg hk'];exact hq a1 w1 g1 hs1 OU hd1)⟩
  | ret =>
   simp only[AwY,Aw9] at h2;obtain⟨rfl,rfl⟩:=h2;exact⟨hm1,λa w g Q hs hq=>wp_block (ih1 a w g _ hs λa1 w1 g1 hs1 OU hd1=>hq a1 w1 g1 hs1 OU hd1)⟩
 | .region id ops false=>λσ e σ' h hm=>by
  simp only[ev] at h;rw[OE he.nat] at h;cases hx:Nh en ops.toList (List.range ops.size) σ some with
  | none=>rw[hx] at h;cases h
  | some s =>
   rw[hx] at h;simp only[AwW,AwY,Aw9] at h;obtain⟨rfl,rfl⟩:=h;refine⟨(T4 (Q:=λ_ _ _=>True) he.toEnvOk _ _ _ hx hm).1,λa w g Q hs hq=>wp_region ((T4 he.toEnvOk _ _ _ hx hm).2 a w g hs hq)⟩
 | .region id ops true=>λσ e σ' h hm=>by
  simp only[ev] at h;split at h
  ·rename_i hh _;rw[Option.bind_eq_some_iff] at h;obtain⟨σ0,h0,h⟩:=h;obtain⟨hm0,hent⟩:=zm he h0 hm;rw[Option.bind_eq_some_iff] at h;obtain⟨s,h1,h2⟩:=h;simp only[AwY,Aw9] at h2;obtain⟨rfl,rfl⟩:=h2;unfold AdC at h1;split at h1
   ·cases h1
   rename_i hsel;rw[OE he.nat,Option.bind_eq_some_iff] at h1;obtain⟨s0,h3,h4⟩:=h1;rw[Option.bind_eq_some_iff] at h4;obtain⟨s1,h5,h6⟩:=h4;rw[Option.bind_eq_some_iff] at h6;obtain⟨_,h7,h8⟩:=h6;injection h8 with h8;subst h8;refine⟨Qo h5,λa w g Q hs hq=>Code.wp_mono (Q:=λe a w=>match e with | .panic _=>False | e=>Q e a w) (λe a w h=>by cases e<;>first | exact h | exact h.elim) (wp_region_any he.mixed ?_)⟩
   obtain⟨g1,hs,OU⟩:=hent hs;cases hqt:(SH.quiet _) with
   | false =>
    rw[hqt,Axb] at h7;exact TN (Q:=λe a w=>match e with | .panic _=>False | e=>Q e a w) he (a0:=a) (w0:=w) (g0:=g1) (λa' w' g' h1 h2 h3=>hq a' w' g' h1 (OU.trans h2) h3) (by simpa using hsel) (λc a w h=>h) _ _ σ0 h7 hm0 a _ g1 ⟨hs.heap.drew,hs.len,λi x hx=>(hs.slots i x hx).step0 (Step.drew [] _ w g1) (Aw2 _)⟩ (Step.drew _ _ w g1) rfl
   | true =>
    rw[hqt,Axc] at h7;have hsD:Ik w.drew (g1.cut σ0.blks.length) σ0 a:=Ik.cut ⟨hs.heap.drew,hs.len,λi x hx=>(hs.slots i x hx).step0 (Step.drew _ _ _ _) (Aw2 _)⟩;exact wpAny_of_held _ _ _ _ (V6 (Q:=λe a w=>match e with | .panic _=>False | e=>Q e a w) he (a0:=a) (w0:=w.drew) (g0:=g1.cut σ0.blks.length) (gS:=g1.cut σ0.blks.length) (λa' w' g' h1 h2 h3=>hq a' w' g' h1 (((OU.trans ((Step.drew [] _ w g1).toC hm0)).trans tN).trans h2) h3) (by simpa using hsel) (λc a w h=>h) hsD.heap _ _ σ0 h7 hm0 (Aw2 _) a _ _ hsD (A2.refl _ _ _) rfl (λ_ _=>rfl) (Aw2 _) (λ_ _=>rfl) λb _ k r hb=>by
     simp only[G.cut] at hb;split at hb
     ·split at hb
      ·rename_i hk;injection hb with h1 _;omega
      ·cases hb
     ·rename_i hno;exact(hno k r hb).elim)
  split at h
  ·rename_i hok;rw[OD he.nat] at h;cases hx:OS en ops.toList (Ro ops.toList (QP en ops.toList ops.toList.length []) []) (QP en ops.toList ops.toList.length []) [] [] σ some with
   | none=>rw[hx] at h;cases h
   | some s =>
    rw[hx] at h;simp only[AwW,AwY,Aw9] at h;obtain⟨rfl,rfl⟩:=h;exact Z6 he.toEnvOk he.mixed hok hx hm
  ·cases h
 | .loop body=>Ads he (Ms he body)
 | .goto _=>λ_ _ _ h _=>by simp[ev] at h
 | .label _=>λ_ _ _ h _=>by simp[ev] at h
 | .rangeFunc ..=>λ_ _ _ h _=>by simp[ev] at h
 | .scope _=>λ_ _ _ h _=>by simp[ev] at h
 | .refuse _=>λ_ _ _ h _=>by simp[ev] at h
end
end Go.Va
namespace Go.Va
def AaJ(tmps:Array Value):ResultVar->Sem Value
 | .tmp t=>pure (tmps.getD t undef)
 | .cell a t=>do loadVar t (<-asAddr (tmps.getD a undef))
theorem Xz(fn:Func)(tmps:Array Value):results fn tmps=(do let vs <-fn.results.mapM (AaJ tmps);pure (if h:vs.size=1 then vs[0] else .tuple vs)):=by
 unfold results;congr 1
section
variable {P:Program} {en:Env}
theorem l9 (he:EnvOk P en) {σ:St} {w:World} {g:G} {a:Act} (hs:Ik w g σ a):∀{rs:List ResultVar} {l:List AV},Vl en.tab σ rs=some l ->
    ∃vs,(rs.mapM (AaJ a.tmps)).run P w=.ok vs w/\B9 w g σ.blks.length l vs
 | [],l,h=>by
  simp only[Vl,AwY] at h;subst h;exact⟨[],rfl,trivial⟩
 | .tmp t::rs,l,h=>by
  simp only[Vl] at h;split at h
  ·rename_i x l' hx hl;injection h with h;subst h;obtain⟨vs,hr,hv⟩:=l9 he hs hl;exact⟨a.tmps.getD t undef::vs,by simp only[List.mapM_cons,AaJ,Sem.run_bind,Sem.run_pure,Result.andThen_ok,hr],hs.slots t x hx,hv⟩
  ·cases h
 | .cell b t::rs,l,h=>by
  simp only[Vl] at h;split at h
  ·rename_i ti k i p o ht hx;split at h
   ·rename_i x l' hat hl;split at h
    ·rename_i hsz;injection h with h;subst h;obtain⟨vs,hr,hv⟩:=l9 he hs hl;obtain⟨hk,h0,h1,bb,hb,hp⟩:=IJ (hs.slots b _ hx);obtain⟨cs,hcx,hcell⟩:=P9 hs.heap hat h1 hb;obtain⟨v,hv',hsv⟩:=NU (w:=w) (he.t ht) (by rw[hcx.len,hsz.1]) hcell (λhg=>by rw[hcx.len,hsz.1];exact Pk hg);rw[<-hsz.2] at hsv;refine⟨v::vs,?_,A7 (RJ hcx) hcx hsv,hv⟩;have:(asAddr (a.tmps.getD b undef)).run P w=.ok ⟨bb,i.toNat*(g.at_ k).YS+o,none⟩ w:=by rw[hp];rfl
     simp only[List.mapM_cons,AaJ,Sem.run_bind,Sem.run_pure,Result.andThen_ok,hr,this,hv']
    ·cases h
   ·cases h
  ·cases h
theorem WN{w:World}{g:G}{n:Nat}:∀{l:List AV} {vs:List Value},B9 w g n l vs->BA w g n true (QE l) vs
 | [],[],_=>rfl
 | a::l,v::vs,⟨h1,h2⟩=>by
  refine⟨v,vs,rfl,?_,WN h2⟩;split
  ·exact .inl rfl
  ·rename_i ht;exact(Bg.iff (by simpa using ht)).1 h1
 | [],_::_,h=>h.elim
 | _::_,[],h=>h.elim
theorem AdD{w:World}{g:G}{n:Nat}{l:List AV}{vs:List Value}(h:B9 w g n l vs):Bg w g n (bg l) (if h:vs.toArray.size=1 then vs.toArray[0] else .tuple vs.toArray):=by
 match l,vs,h with
 | [],[],_=>rfl
 | [a],[v],h=>exact h.1
 | a::b::l,v::u::vs,h =>
  have:¬(v::u::vs).toArray.size=1:=by simp
  rw[dif_neg this];exact⟨_,rfl,WN h⟩
theorem UG{w:World}{g:G}{n:Nat}:∀{l:List AV} {vs:List Value},B9 w g n l vs->l.length=vs.length
 | [],[],_=>rfl
 | _::_,_::_,h=>by simp[UG h.2]
 | [],_::_,h=>h.elim
 | _::_,[],h=>h.elim
theorem R6{w:World}{g:G}{n:Nat}:∀{l:List AV} {vs:List Value} {i:Nat} {x:AV},B9 w g n l vs->l[i]?=some x->∃v,vs[i]?=some v/\Bg w g n x v
 | _::_,v::_,0,_,h,hx=>by simp at hx;subst hx;exact⟨v,rfl,h.1⟩
 | _::_,_::_,i+1,_,h,hx=>by
  obtain⟨v,hv,hr⟩:=R6 (i:=i) h.2 (by simpa using hx);exact⟨v,by simpa using hv,hr⟩
 | [],[],_,_,_,hx=>by simp at hx
 | [],_::_,_,_,h,_=>h.elim
 | _::_,[],_,_,h,_=>h.elim
theorem Ws{w w':World}{g g':G}{n n':Nat}(st:Step [] n w g w' g')(hn:n<=n'):∀{l:List AV} {vs:List Value},B9 w g n l vs->B9 w' g' n' l vs
 | [],[],_=>trivial
 | _::_,_::_,h=>⟨h.1.step0 st hn,Ws st hn h.2⟩
 | [],_::_,h=>h.elim
 | _::_,[],h=>h.elim
theorem UH{w:World}{g:G}{n:Nat}{x:AV}:∀{l:List AV} {vs:List Value} {i:Nat} {v:Value},B9 w g n l vs->vs[i]?=some v->Bg w g n x v->B9 w g n (l.set i x) vs
 | _::_,_::_,0,v,h,hv,hx=>by
  simp at hv;subst hv;exact⟨hx,h.2⟩
 | _::_,_::_,i+1,v,h,hv,hx=>⟨h.1,UH h.2 (by simpa using hv) hx⟩
 | [],[],_,_,_,hv,_=>by simp at hv
 | [],_::_,_,_,h,_,_=>h.elim
 | _::_,[],_,_,h,_,_=>h.elim
theorem fF {m:Nat} {w:World}:∀{cs:List (Nat×Co)} {l l':List AV} {bs bs':List Blk} {g:G} {vs:List Value},Rt cs l bs=some (l',bs')->Heap w g bs->B9 w g bs.length l vs->m<=bs.length ->
    ∃g',Heap w g' bs'/\B9 w g' bs'.length l' vs/\A2 m w g w g'
 | [],l,l',bs,bs',g,vs,h,H,hx,hm=>by
  simp only[Rt,AwY,Aw9] at h;obtain⟨rfl,rfl⟩:=h;exact⟨g,H,hx,A2.refl _ _ _⟩
 | (i,c)::r,l,l',bs,bs',g,vs,h,H,hx,hm=>by
  simp only[Rt] at h;split at h
  ·cases h
  ·rename_i v hv;split at h
   ·rename_i v' nb hco;obtain⟨u,hu,hr⟩:=R6 hx hv;obtain⟨g1,H1,hv1,st1⟩:=kM H hco hr;obtain⟨g2,H2,hx2,st2⟩:=fF (m:=m) h H1 (UH (Ws st1 (by simp) hx) hu hv1) (by simp;omega);exact⟨g2,H2,hx2,(st1.toC hm).trans st2⟩
   ·cases h
theorem oP {m:Nat} {w:World}:∀{cs:List (Nat×Ty)} {l l':List AV} {bs bs':List Blk} {g:G} {vs:List Value},W6 m cs l bs=some (l',bs')->Heap w g bs->B9 w g bs.length l vs ->
    ∃g',Heap w g' bs'/\B9 w g' bs'.length l' vs/\A2 m w g w g'/\bs'.length=bs.length
 | [],l,l',bs,bs',g,vs,h,H,hx=>by
  simp only[W6,AwY,Aw9] at h;obtain⟨rfl,rfl⟩:=h;exact⟨g,H,hx,A2.refl _ _ _,rfl⟩
 | (i,t)::r,l,l',bs,bs',g,vs,h,H,hx=>by
  simp only[W6] at h;split at h
  ·cases h
  ·rename_i v hv;split at h
   ·rename_i v' nb hf;obtain⟨g1,H1,hl,st1,ha,hv1,_,_⟩:=ay H hf;obtain⟨u,hu,hr⟩:=R6 hx hv;have hmap:∀{l:List AV} {vs:List Value},B9 w g bs.length l vs->B9 w g1 nb.length (l.map AV.TF) vs:=by
     intro l;induction l with
     | nil=>intro vs h;cases vs with
      | nil=>trivial
      | cons _ _=>exact h.elim
     | cons a l ih=>intro vs h;cases vs with
      | nil=>exact h.elim
      | cons v vs=>exact⟨by rw[hl];exact ha a v h.1,ih h.2⟩
    obtain⟨g2,H2,hx2,st2,hl2⟩:=oP (m:=m) h H1 (UH (hmap hx) hu (by rw[hl];exact hv1 u hr));exact⟨g2,H2,hx2,st1.trans st2,hl2.trans hl⟩
   ·cases h
theorem jv {w:World} {g:G} {E:List Blk} {args:List AV} {vs:List Value} (H:Heap w g E) (h:B9 w g E.length args vs) {n:Nat} (hn:args.length<=n) :
    Ik w g ⟨args++List.replicate (n-args.length) (.un 0),E⟩ {tmps:=vs.toArray++Array.replicate (n-vs.toArray.size) undef,defers:=[]} where
 heap:=H
 len:=by simp[UG h]
 slots i x hx:=by
  have hl:=UG h;rw[List.getElem?_append] at hx;split at hx
  ·obtain⟨v,hv,hr⟩:=R6 h hx;have hi:=AE hv;have:(vs.toArray++Array.replicate (n-vs.toArray.size) undef).getD i undef=v:=by
    rw[Array.getD_eq_getD_getElem?,Array.getElem?_append_left (by simpa using hi)];simp[hv]
   rw[this];exact hr
  ·rw[List.getElem?_replicate] at hx;split at hx
   ·injection hx with hx;subst hx;exact M9
   ·cases hx
theorem Sj{m:Nat}{w:World}{a:Act}:∀{l:List Fi} {σ σ2:St} {g:G},Ry m l σ=some σ2->Ik w g σ a->m<=σ.blks.length->∃g',Ik w g' σ2 a/\A2 m w g w g'/\m<=σ2.blks.length
 | [],σ,σ2,g,h,hs,hm=>by
  simp only[Ry,AwY] at h;subst h;exact⟨g,hs,A2.refl _ _ _,hm⟩
 | .co k c::r,σ,σ2,g,h,hs,hm=>by
  simp only[Ry] at h;split at h
  ·rename_i bs hb;obtain⟨g1,H1,st⟩:=yY hs.heap hb;have hl:=V9 hb;obtain⟨g2,h2,st2,hm2⟩:=Sj (σ:=⟨σ.slots,bs⟩) h ⟨H1,hs.len,λi x hx=>(hs.slots i x hx).step0 st hl⟩ (Nat.le_trans hm hl);exact⟨g2,h2,(st.toC hm).trans st2,hm2⟩
  ·cases h
 | .dead j::r,σ,σ2,g,h,hs,hm=>by
  simp only[Ry] at h;refine Sj (σ:=⟨σ.slots,σ.blks.set j .dead⟩) h ⟨⟨hs.heap.fresh,λk x hx=>?_⟩,hs.len,λi x hx=>by rw[Aw5];exact hs.slots i x hx⟩ (by rw[Aw5];exact hm);rw[Aw5];rw[List.getElem?_set] at hx;split at hx
  ·split at hx
   ·injection hx with hx;subst hx;trivial
   ·cases hx
  ·exact hs.heap.blk k x hx
 | .mvs s p::r,σ,σ2,g,h,hs,hm=>by
  simp only[Ry] at h;split at h
  ·rename_i σ1 h1;unfold mvP at h1;split at h1
   ·obtain⟨g1,hs1,st1,hm1⟩:=lN h1 hs hm;obtain⟨g2,hs2,st2,hm2⟩:=Sj h hs1 hm1;exact⟨g2,hs2,st1.trans st2,hm2⟩
   ·rename_i a0 hs0;obtain⟨g1,hs1,st1,hm1⟩:=Aan hs0 h1 hs hm;obtain⟨g2,hs2,st2,hm2⟩:=Sj h hs1 hm1;exact⟨g2,hs2,st1.trans st2,hm2⟩
   ·cases h1
  ·cases h
 | .mv k p::r,σ,σ2,g,h,hs,hm=>by
  simp only[Ry] at h;split at h
  ·rename_i σ1 h1;obtain⟨g1,hs1,st1,hm1⟩:=lN h1 hs hm;obtain⟨g2,hs2,st2,hm2⟩:=Sj h hs1 hm1;exact⟨g2,hs2,st1.trans st2,hm2⟩
  ·cases h
theorem Tv (he:HB P en) {f:FuncId} {fn:Func} (hf:P.funcs[f]?=some fn) {args:List AV} {E:List Blk} {av:AV} {E':List Blk} (h:AH en fn (AV×List Blk) args E (λv b=>some (v,b))=some (av,E')) :
    E.length<=E'.length/\∀(w:World) (g:G) (vs:List Value),Heap w g E->B9 w g E.length args vs->Calls P f vs.toArray w λe w'=>∃v g',e=.returned v/\Heap w' g' E'/\Bg w' g' E'.length av v/\A2 E.length w g w' g':=by
 unfold AH at h;split at h
 ·cases h
 ·rename_i c hc;split at h
  ·rename_i hl;obtain⟨e,σ',h1,h2⟩:=Qh he.nat h;obtain⟨hm,hwp⟩:=Ms he c _ e σ' h1 (Aw2 _);have key:∀(σ2:St) (l l0:List AV) (SG:List Blk) (l':List AV) (bs':List Blk),Ry E.length en.fi.fin σ'=some σ2->Vl en.tab σ2 fn.results.toList=some l->W6 E.length en.fi.Ow l σ2.blks=some (l0,SG)->Rt en.fi.res l0 SG=some (l',bs')->leave E.length bs' (bg l')=some (av,E')->(Z7 e=.normal\/Z7 e=.ret) ->
       E.length<=E'.length/\∀(w:World) (g:G) (vs:List Value),Heap w g E->B9 w g E.length args vs->Calls P f vs.toArray w λe w'=>∃v g',e=.returned v/\Heap w' g' E'/\Bg w' g' E'.length av v/\A2 E.length w g w' g':=by
    intro σ2 l l0 SG l' bs' hfin hres hfr hco hlv hex;unfold leave at hlv
    dsimp only at hlv
    split at hlv
    ·rename_i hp;simp only[AwY,Aw9] at hlv;obtain⟨oW,hE⟩:=hlv;have hmn:=(AaC (OJ hp).1).1;have hEl:E'.length=(reach bs' bs'.length (V3 (List.range E.length) (bg l').ids)).length:=by rw[<-hE,Aw8]
     refine⟨by rw[hEl];exact hmn,λw g vs H hx=>?_⟩;refine calls_of_wp hf hc ?_;refine hwp _ w g _ (jv H hx hl) λa' w' g0 hs0 gU hd=>?_;obtain⟨g',hs',hst',hm2⟩:=Sj hfin hs0 hm;have hst:=gU.trans hst';obtain⟨vs',hr,hv⟩:=l9 he.toEnvOk hs' hres;obtain⟨g1,H1,hv1,st1,hl1⟩:=oP hfr hs'.heap hv;obtain⟨g2,H2,hv2,st2⟩:=fF hco H1 hv1 (by rw[hl1];exact hm2);have hpost:∃u,(results fn a'.tmps).run P w'=.ok u w'/\∃v' g'',Ending.returned u=Ending.returned v'/\Heap w' g'' E'/\Bg w' g'' E'.length av v'/\A2 E.length w g w' g'':=by
      refine⟨if h:vs'.toArray.size=1 then vs'.toArray[0] else .tuple vs'.toArray,?_,_,g2.pick _,rfl,by rw[<-hE];exact Zm H2 hp,?_,((hst.trans st1).trans st2).trans (Zn hp).1⟩
      ·rw[Xz,Array.mapM_eq_mapM_toList];simp only[Sem.run_bind,Sem.run_map,hr];rfl
      ·rw[hEl,<-oW];exact((AdD hv2).ren (λb h=>Uj h) λk hk=>Uk ((OJ hp).2.2.1 k hk)).canon
     obtain⟨u,hv1,hv2⟩:=hpost;rcases hex with h | h<;>rw[h]<;>exact⟨hd,u,hv1,hv2⟩
    ·cases hlv
   have Abe:(match Ry E.length en.fi.fin σ' with
         | none=>none
         | some σ=>match Vl en.tab σ fn.results.toList with
          | some l=>match W6 E.length en.fi.Ow l σ.blks with
           | some (l,bs)=>match Rt en.fi.res l bs with
            | some (l',bs')=>match leave E.length bs' (bg l') with
             | some (v,bs)=>some (v,bs)
             | none=>none
            | none=>none
           | none=>none
          | none=>none)=some (av,E')->(Z7 e=.normal\/Z7 e=.ret)->E.length<=E'.length/\∀(w:World) (g:G) (vs:List Value),Heap w g E->B9 w g E.length args vs->Calls P f vs.toArray w λe w'=>∃v g',e=.returned v/\Heap w' g' E'/\Bg w' g' E'.length av v/\A2 E.length w g w' g':=by
    intro h hex;split at h
    ·cases h
    ·rename_i σ2 hfin;split at h
     ·rename_i l hres;split at h
      ·rename_i l0 SG hfr;split at h
       ·rename_i l' bs' hco;split at h
        ·rename_i v bs hlv;simp only[AwY,Aw9] at h;obtain⟨rfl,rfl⟩:=h;exact key σ2 l l0 SG l' bs' hfin hres hfr hco hlv hex
        ·cases h
       ·cases h
      ·cases h
     ·cases h
   cases e with
   | exit n=>cases h2
   | normal=>exact Abe h2 (.inl rfl)
   | ret=>exact Abe h2 (.inr rfl)
  ·cases h
theorem An.of (he:HB P en) {f:FuncId} {fn:Func} (hf:P.funcs[f]?=some fn) (hn:(fn.name=="runtime.NumGoroutine")=false) (hb:fn.body.isNone=false) {c:Callee} (hc:Wl c)
    (h:∀args E av E',c.run (AV×List Blk) args E (λv b=>some (v,b))=some (av,E')->AH en fn (AV×List Blk) args E (λv b=>some (v,b))=some (av,E')):An P f c where
 nat:=hc
 snd args E av E' hr:=by
  obtain⟨h1,h2⟩:=Tv he hf (h args E av E' hr);refine⟨h1,λw g vs H hx o a next Q hn'=>?_⟩
  have:(callFunc f vs.toArray).run P w=.ok (.enter f vs.toArray) w:=by
   have hn1:¬fn.name="runtime.NumGoroutine":=by simpa using hn
   have hb1:¬fn.body=none:=by
    intro e;rw[e] at hb;cases hb
   simp[callFunc,hf,hn1,hb1]
  rw[this,Oper.upon_enter];refine(h2 w g vs H hx).mono λe w' ⟨v,g',e1,hH,hv,hst⟩=>?_;subst e1;exact hn' v w' g' hH hv hst
theorem An.of2 {f:FuncId} {fn:Func} (hf:P.funcs[f]?=some fn) (hn:(fn.name=="runtime.NumGoroutine")=false) (hb:fn.body.isNone=false) {c:Callee} (hc:Wl c)
    (h:∀args E av E',c.run (AV×List Blk) args E (λv b=>some (v,b))=some (av,E')->∃en,HB P en/\AH en fn (AV×List Blk) args E (λv b=>some (v,b))=some (av,E')):An P f c where
 nat:=hc
 snd args E av E' hr:=by
  obtain⟨en,he,h0⟩:=h args E av E' hr;obtain⟨h1,h2⟩:=Tv he hf h0;refine⟨h1,λw g vs H hx o a next Q hn'=>?_⟩
  have:(callFunc f vs.toArray).run P w=.ok (.enter f vs.toArray) w:=by
   have hn1:¬fn.name="runtime.NumGoroutine":=by simpa using hn
   have hb1:¬fn.body=none:=by
    intro e;rw[e] at hb;cases hb
   simp[callFunc,hf,hn1,hb1]
  rw[this,Oper.upon_enter];refine(h2 w g vs H hx).mono λe w' ⟨v,g',e1,hH,hv,hst⟩=>?_;subst e1;exact hn' v w' g' hH hv hst
end
end Go.Va
