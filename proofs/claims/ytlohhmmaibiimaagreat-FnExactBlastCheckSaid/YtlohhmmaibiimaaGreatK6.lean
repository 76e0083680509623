import Derived.OrdersHeld
import Derived.WalkKit
import Derived.ProofKit
import Derived.OpenShut
import Derived.JoinedCond
import Derived.ReadAgain
import Derived.Test.YtlohhmmaibiimaaGreatK5
set_option linter.unusedVariables false
set_option linter.unusedSimpArgs false
namespace Go.Va
theorem UK{D:Nat→Bool}{seg:List Ent}(h:left D seg=0):∀u∈seg,D u.i=true:=fun u hu=>by
 have:=List.eq_nil_of_length_eq_zero h
 cases hd:D u.i with
 | true=>rfl
 | false =>
  have hm:u∈seg.filter fun u=>!D u.i:=List.mem_filter.2 ⟨hu,by simp[hd]⟩
  rw[this] at hm; cases hm
theorem Ss{D:Nat→Bool}:∀{seg:List Ent},left D seg≠0→∃pre t post,seg=pre++t::post∧D t.i=false∧∀u∈pre,D u.i=true
 | [],h=>(h rfl).elim
 | u::seg,h=>by
  cases hd:D u.i with
  | false=>exact⟨[],u,seg,rfl,hd,fun _ hu=>by cases hu⟩
  | true =>
   have:left D seg≠0:=by
    unfold left at h ⊢
    rw[List.filter_cons,hd] at h
    simpa using h
   obtain⟨pre,t,post,e,h1,h2⟩:=Ss this
   exact⟨u::pre,t,post,by rw[e]; rfl,h1,fun v hv=>by
    rcases List.mem_cons.1 hv with rfl | hv
    ·exact hd
    ·exact h2 v hv⟩
section
variable {P:Program} {en:Env} {ops:Array Oper} {A:List (Nat×List Nat)} {m:Nat} {Q:Exit→Act→World→Prop} {a0:Act} {w0:World} {g0:G}
theorem SJ{seg pre post:List Ent}{t:Ent}(h:(seg.map (·.i)).Nodup)(hseg:seg=pre++t::post):(∀u∈pre,u.i≠t.i)∧∀u∈post,u.i≠t.i:=by
 subst hseg
 rw[List.map_append,List.map_cons,List.nodup_append] at h
 obtain⟨_,h2,h3⟩:=h
 rw[List.nodup_cons] at h2
 exact⟨fun u hu=>h3 u.i (List.mem_map.2 ⟨u,hu,rfl⟩) t.i (by simp),fun u hu e=>h2.1 (List.mem_map.2 ⟨u,hu,e⟩)⟩
theorem Y0 (he:EnvOk P en) (hA:AncOk ops.toList A) {done aff:List Nat} {seg:List Ent} {σ σ1:St} (htr:Tr en ops.toList A done aff σ seg σ1) (hbar:∀u∈seg,u.bar=false) (R:List Nat)
    (hcov:∀i,i<ops.size→i∈done∨(∃u∈seg,u.i=i)∨i∈R) (hlt:∀u∈seg,u.i<ops.size) (hnd:(seg.map (·.i)).Nodup)
    (hpairs:∀pre t post,seg=pre++t::post→∀u∈post,t.i∈ancOf A u.i∨t.o.apart ops u.o=true) (htopo:∀pre t post,seg=pre++t::post→∀d∈dirOf ops.toList t.i,d∈done∨∃u∈pre,u.i=d)
    (hR:∀i∈R,∀D:Nat→Bool,Closed A D→(∀x∈ancOf A i,D x=true)→(∀r∈R,D r=false)→∀u∈seg,D u.i=true) (hRd:∀r∈R,r∉done∧∀u∈seg,u.i≠r)
    (h0:∀(i:Nat) (x:AV),σ.slots[i]?=some x→∀k∈x.ids,k<σ.blks.length) (hsc0:Scoped σ.blks) (hm:m≤σ.blks.length)
    (cont:∀(listed:Array Bool) (a:Act) (w:World) (g:G),listed.size=ops.size→(∀i∈done,lst listed i=true)→(∀u∈seg,lst listed u.i=true)→(∀r∈R,lst listed r=false)→Closed A (lst listed)→StR w g σ1 a→StepC m w0 g0 w g→a.defers=a0.defers →
     wpAny P .any ops Q R.length listed a w) :
    ∀(n:Nat) (listed:Array Bool) (a:Act) (w:World) (g:G),listed.size=ops.size→left (lst listed) seg=n→Inv P A ops.size done seg σ m a0 w0 g0 (lst listed) a w g→wpAny P .any ops Q (n+R.length) listed a w
 | 0,listed,a,w,g,hs,hn,inv=>by
  have hall:=UK hn
  obtain⟨h1,h2,_⟩:=htr.allAt he hbar
  have hR0:∀r∈R,lst listed r=false:=fun r hr=>by
   cases hd:lst listed r with
   | false=>rfl
   | true =>
    rcases inv.only r hd with h | ⟨u,hu,e⟩
    ·exact((hRd r hr).1 h).elim
    ·exact((hRd r hr).2 u hu e).elim
  have hB:curB (lst listed) seg σ.blks=σ1.blks:=by rw[ML fun u hu _=>hall u hu,←h2]
  rw[Nat.zero_add]
  refine cont listed a w g hs inv.had hall hR0 inv.closed ⟨by rw[←hB]; exact inv.heap,by rw[h1,Nm]; exact inv.len,fun i x hx=>?_⟩ inv.step inv.dfr
  rw[←hB]
  refine inv.slots i x ?_
  rw[MC (fun u hu hd=>by rw[hall u hu] at hd; cases hd) rfl,←h1]
  exact hx
 | n+1,listed,a,w,g,hs,hn,inv=>by
  obtain⟨pre,t,post,hseg,hun,hpre⟩:=Ss (D:=lst listed) (seg:=seg) (by rw[hn]; simp)
  rw[show n+1+R.length=(n+R.length)+1 by omega]
  have htr0:t.i∈Region.ready .any ops listed:=(KT hs).2 ⟨hlt t (by rw[hseg]; simp),hun,fun d hd=>by
   rcases htopo pre t post hseg d hd with h | ⟨u,hu,e⟩
   ·exact inv.had d h
   ·rw[←e]; exact hpre u hu⟩
  refine⟨fun h=>by(rw[h] at htr0; cases htr0),fun i hi=>?_⟩
  obtain⟨hil,hiu,hid⟩:=(KT hs).1 hi
  have hanc:=QN hA inv.closed hid
  rcases hcov i hil with h | ⟨u,hu,rfl⟩| h
  ·rw[inv.had i h] at hiu; cases hiu
  ·obtain⟨p1,p2,hsp⟩:=List.append_of_mem hu
   obtain⟨hnp,hnq⟩:=SJ hnd hsp
   have hD':=T5 (listed:=listed) (i:=u.i) (by omega)
   refine inv.op he htr hbar hsp hiu hanc (fun v hv=>?_) (hpairs p1 u p2 hsp) h0 hsc0 hm hD' hnp hnq fun a' w' g' inv'=>?_
   ·obtain⟨q1,q2,hq⟩:=List.append_of_mem hv
    exact hpairs q1 v (q2++u::p2) (by rw[hsp,hq]; simp) u (by simp)
   ·refine Y0 he hA htr hbar R hcov hlt hnd hpairs htopo hR hRd h0 hsc0 hm cont n _ a' w' g' (by simpa using hs) ?_ inv'
    have:=Um hsp hiu hD' hnp hnq
    omega
  ·have:=hR i h _ inv.closed hanc fun r hr=>by
     cases hd:lst listed r with
     | false=>rfl
     | true =>
      rcases inv.only r hd with h | ⟨u,hu,e⟩
      ·exact((hRd r hr).1 h).elim
      ·exact((hRd r hr).2 u hu e).elim
   rw[this t (by rw[hseg]; simp)] at hun; cases hun
theorem SO:∀(ts:List Ent),∃seg rest,ts=seg++rest∧(∀u∈seg,u.bar=false)∧(rest=[]∨∃b r,rest=b::r∧b.bar=true)
 | []=>⟨[],[],rfl,fun _ h=>by(cases h),.inl rfl⟩
 | t::ts=>by
  cases hb:t.bar with
  | true=>exact⟨[],t::ts,rfl,fun _ h=>by(cases h),.inr ⟨t,ts,rfl,hb⟩⟩
  | false =>
   obtain⟨seg,rest,e,h1,h2⟩:=SO ts
   exact⟨t::seg,rest,by rw[e]; rfl,fun u hu=>by
    rcases List.mem_cons.1 hu with rfl | hu
    ·exact hb
    ·exact h1 u hu,h2⟩
theorem Xz (he:EnvOk P en) (hA:AncOk ops.toList A) {σ':St} (fin:∀a' w' g',StR w' g' σ' a'→StepC m w0 g0 w' g'→a'.defers=a0.defers→Q .normal a' w') :
    ∀(k:Nat) (ts:List Ent) (done aff:List Nat) (σ:St),ts.length=k→Tr en ops.toList A done aff σ ts σ'→(∀i,i<ops.size→i∈done∨∃u∈ts,u.i=i)→(∀u∈ts,u.i<ops.size)→(∀u∈ts,u.i∉done)→(ts.map (·.i)).Nodup →
     (∀pre t post,ts=pre++t::post→∀u∈post,t.i∈ancOf A u.i∨t.o.apart ops u.o=true)→(∀pre t post,ts=pre++t::post→∀d∈dirOf ops.toList t.i,d∈done∨∃u∈pre,u.i=d)→m≤σ.blks.length →
     ∀(listed:Array Bool) (a:Act) (w:World) (g:G),listed.size=ops.size→(∀i∈done,lst listed i=true)→(∀u∈ts,lst listed u.i=false)→Closed A (lst listed)→StR w g σ a→StepC m w0 g0 w g→a.defers=a0.defers→wpAny P .any ops Q k listed a w:=by
 intro k
 induction k using Nat.strongRecOn with
 | _ k ih =>
  intro ts done aff σ hk htr hcov hlt hdis hnd hpairs htopo hm listed a w g hs hdone hun hcl hst hstep hdfr
  obtain⟨seg,rest,rfl,hbar,hrest⟩:=SO ts
  obtain⟨aff',σ1,ht1,ht2⟩:=htr.split
  obtain⟨_,_,lx,hext⟩:=ht1.allAt he hbar
  have hnd1:(seg.map (·.i)).Nodup:=by
   rw[List.map_append,List.nodup_append] at hnd
   exact hnd.1
  have hleft:left (lst listed) seg=seg.length:=by
   unfold left
   rw[List.filter_eq_self.2 fun u hu=>by rw[hun u (by simp[hu])]; rfl]
  have hone:∀u∈rest,∀v∈seg,v.i≠u.i:=fun u hu v hv=>by
   rw[List.map_append,List.nodup_append] at hnd
   exact hnd.2.2 v.i (List.mem_map.2 ⟨v,hv,rfl⟩) u.i (List.mem_map.2 ⟨u,hu,rfl⟩)
  have hBn:curB (lst listed) seg σ.blks=σ.blks:=Mm fun u hu hd=>by rw[hun u (by simp[hu])] at hd; cases hd
  have hSn:∀i,(curS (lst listed) seg σ.slots)[i]?=σ.slots[i]?:=fun i=>Me fun u hu hd=>by rw[hun u (by simp[hu])] at hd; cases hd
  have hklen:k=seg.length+(rest.map (·.i)).length:=by rw[List.length_map,←List.length_append]; exact hk.symm
  rw[hklen]
  refine Y0 (a0:=a0) (w0:=w0) (g0:=g0) he hA ht1 hbar (rest.map (·.i)) (fun i hi=>?_) (fun u hu=>hlt u (by simp[hu])) hnd1 (fun pre t post hsp u hu=>hpairs pre t (post++rest) (by rw[hsp]; simp) u (by simp[hu])) (fun pre t post hsp=>htopo pre t (post++rest) (by rw[hsp]; simp))
   (fun i hi D hD hanc hRf u hu=>?_) (fun r hr=>?_) (fun i x hx=>(hst.slots i x hx).idsLt) hst.heap.scp hm (fun listed' a' w' g' hs' hd' hsg' hR' hcl' hst' hstep' hdfr'=>?_) seg.length listed a w g hs hleft ?_
  ·rcases hcov i hi with h | ⟨u,hu,e⟩
   ·exact .inl h
   ·rcases List.mem_append.1 hu with hu | hu
    ·exact .inr (.inl ⟨u,hu,e⟩)
    ·exact .inr (.inr (List.mem_map.2 ⟨u,hu,e⟩))
  ·rcases hrest with rfl | ⟨b,r,rfl,hb⟩
   ·cases hi
   ·obtain⟨p1,p2⟩:=htr.pairs
    rw[List.map_cons] at hi
    rcases List.mem_cons.1 hi with rfl | hi
    ·exact hanc _ ((p2 hb).2 u hu)
    ·obtain⟨v,hv,rfl⟩:=List.mem_map.1 hi
     have h1:=hanc _ (p1 (by simp[hb]) v hv)
     rw[hRf b.i (by simp)] at h1; cases h1
  ·obtain⟨v,hv,rfl⟩:=List.mem_map.1 hr
   exact⟨hdis v (by simp[hv]),fun u hu=>hone v hv u hu⟩
  ·rcases hrest with rfl | ⟨b,r,rfl,hb⟩
   ·cases ht2
    refine⟨List.eq_nil_iff_forall_not_mem.2 fun i hi=>?_,fin a' w' g' hst' hstep' hdfr'⟩
    obtain⟨hil,hiu,_⟩:=(KT hs').1 hi
    rcases hcov i hil with h | ⟨u,hu,e⟩
    ·rw[hd' i h] at hiu; cases hiu
    ·rw[←e,hsg' u (by simpa using hu)] at hiu; cases hiu
   ·rw[List.map_cons,List.length_cons,List.length_map]
    have hbr:b.i∈Region.ready .any ops listed':=(KT hs').2 ⟨hlt b (by simp),hR' b.i (by simp),fun d hd=>by
     rcases htopo seg b r rfl d hd with h | ⟨u,hu,e⟩
     ·exact hd' d h
     ·rw[←e]; exact hsg' u hu⟩
    refine⟨fun h=>by(rw[h] at hbr; cases hbr),fun i hi=>?_⟩
    obtain⟨hil,hiu,hid⟩:=(KT hs').1 hi
    have hanc:=QN hA hcl' hid
    obtain⟨p1,p2⟩:=htr.pairs
    have hib:i=b.i:=by
     rcases hcov i hil with h | ⟨u,hu,rfl⟩
     ·rw[hd' i h] at hiu; cases hiu
     ·rcases List.mem_append.1 hu with hu | hu
      ·rw[hsg' u hu] at hiu; cases hiu
      ·rcases List.mem_cons.1 hu with rfl | hu
       ·rfl
       ·have:=hanc _ (p1 (by simp[hb]) u hu)
        rw[hR' b.i (by simp)] at this; cases this
    subst hib
    cases ht2 with
    | cons hσ ok ha hbd next =>
     subst hσ
     have ho:ops[b.i]?=some b.o:=by rw[←Array.getElem?_toList]; exact ok.1
     have hok2:=ok.2
     cases hq:b.e with
     | none=>simp[Ent.bar,hq] at hb
     | some e =>
      rw[hq] at hok2
      have hsnd:=Kn he hok2.2
      unfold wpOp
      simp only[ho]
      rw[if_pos (FV hst' hok2.1)]
      have hm1:m≤b.σ.blks.length:=by rw[hext,List.length_append]; omega
      refine .inl (hsnd.wp a' w' g' hst' _ Q fun v w2 g2 H2 hv2 st2=>?_)
      have hpost:b.post=b.σ.after b.o.dst e:=by simp[Ent.post,hq]
      have hset:=T5 (listed:=listed') (i:=b.i) (by omega)
      have hrnd:∀u∈r,u.i≠b.i:=(SJ hnd rfl).2
      refine ih r.length (by rw[←hk]; simp; omega) r (b.i::((seg.map (·.i)).reverse++done)) _ b.post rfl next (fun i hi=>?_) (fun u hu=>hlt u (by simp[hu])) (fun u hu=>?_) ?_ (fun pre t post hsp u hu=>hpairs (seg++b::pre) t post (by rw[hsp]; simp) u hu) (fun pre t post hsp d hd=>?_) (by rw[hpost]; exact Nat.le_trans hm1 hsnd.grow)
       _ _ w2 g2 (by simpa using hs') (fun i hi=>?_) (fun u hu=>?_) (fun i hi x hx=>?_) (by rw[hpost]; exact hst'.after hsnd.grow H2 hv2 st2) (hstep'.trans (st2.toC hm1)) (by rw[put_defers]; exact hdfr')
      ·rcases hcov i hi with h | ⟨u,hu,e⟩
       ·exact .inl (by simp[h])
       ·rcases List.mem_append.1 hu with hu | hu
        ·exact .inl (by simp; exact .inr (.inl ⟨u,hu,e⟩))
        ·rcases List.mem_cons.1 hu with rfl | hu
         ·exact .inl (by simp[e])
         ·exact .inr ⟨u,hu,e⟩
      ·have h1:=hdis u (by simp[hu])
       have h2:=hrnd u hu
       have h3:∀v∈seg,v.i≠u.i:=fun v hv=>hone u (by simp[hu]) v hv
       simp only[List.mem_cons,List.mem_append,List.mem_reverse,List.mem_map,not_or,not_exists,not_and]
       exact⟨h2,fun v hv=>h3 v hv,h1⟩
      ·rw[List.map_append,List.nodup_append,List.map_cons,List.nodup_cons] at hnd
       exact hnd.2.1.2
      ·rcases htopo (seg++b::pre) t post (by rw[hsp]; simp) d hd with h | ⟨u,hu,e⟩
       ·exact .inl (by simp[h])
       ·rcases List.mem_append.1 hu with hu | hu
        ·exact .inl (by simp; exact .inr (.inl ⟨u,hu,e⟩))
        ·rcases List.mem_cons.1 hu with rfl | hu
         ·exact .inl (by simp[e])
         ·exact .inr ⟨u,hu,e⟩
      ·rw[hset]
       split
       ·rfl
       ·rename_i hne
        rcases List.mem_cons.1 hi with h | h
        ·exact(hne h).elim
        ·rcases List.mem_append.1 h with h | h
         ·obtain⟨u,hu,rfl⟩:=List.mem_map.1 (List.mem_reverse.1 h)
          exact hsg' u hu
         ·exact hd' i h
      ·rw[hset,if_neg (hrnd u hu)]
       exact hR' u.i (by simp; exact .inr ⟨u,hu,rfl⟩)
      ·rw[hset] at hi ⊢
       split
       ·rfl
       ·split at hi
        ·rename_i e; subst e; exact hanc x hx
        ·exact hcl' i hi x hx
  ·refine⟨hdone,fun i hi=>.inl ?_,hcl,hdfr,hst.len,hstep,by rw[hBn]; exact hst.heap,fun i x hx=>?_,fun u hu hd=>by(rw[hun u (by simp[hu])] at hd; cases hd),fun u hu hd=>by(rw[hun u (by simp[hu])] at hd; cases hd)⟩
   ·have hil:i<ops.size:=by
      unfold lst at hi
      rcases Nat.lt_or_ge i listed.size with h' | h'
      ·omega
      ·simp[Array.getD_eq_getD_getElem?,Array.getElem?_eq_none h'] at hi
    rcases hcov i hil with h | ⟨u,hu,rfl⟩
    ·exact h
    ·rw[hun u hu] at hi; cases hi
   ·rw[hSn] at hx
    rw[hBn]
    exact hst.slots i x hx
end
theorem NR:∀{l:List Nat},nodup l=true→l.Nodup
 | [],_=>List.nodup_nil
 | k::r,h=>by
  simp only[nodup,Bool.and_eq_true,Bool.not_eq_true'] at h
  rw[List.nodup_cons]
  exact⟨by simpa using h.1,NR h.2⟩
theorem SW{all:List Oper}{A:List (Nat×List Nat)}:∀{L pre post:List Nat} {i:Nat},pairsOk all A L=true→L=pre++i::post→∀j∈post,i∈ancOf A j∨∃x y,all[i]?=some x∧all[j]?=some y∧x.apart all.toArray y=true
 | [],pre,post,i,_,h=>by simp at h
 | k::L,[],post,i,hp,h=>by
  injection h with h1 h2
  subst h1; subst h2
  intro j hj
  simp only[pairsOk,Bool.and_eq_true] at hp
  have:=List.all_eq_true.1 hp.1 j hj
  rw[Bool.or_eq_true] at this
  rcases this with h | h
  ·exact .inl (by simpa using h)
  ·split at h
   ·rename_i x y hx hy; exact .inr ⟨x,y,hx,hy,h⟩
   ·cases h
 | k::L,p::pre,post,i,hp,h=>by
  injection h with h1 h2
  simp only[pairsOk,Bool.and_eq_true] at hp
  exact SW hp.2 h2
theorem Ux{all:List Oper}:∀{L pre post done:List Nat} {i:Nat},topoOk all L done=true→L=pre++i::post→∀d∈dirOf all i,d∈done∨d∈pre
 | [],pre,post,done,i,_,h=>by simp at h
 | k::L,[],post,done,i,hp,h=>by
  injection h with h1 h2
  subst h1
  intro d hd
  simp only[topoOk,Bool.and_eq_true] at hp
  have:=List.all_eq_true.1 hp.1 d hd
  exact .inl (by simpa using this)
 | k::L,p::pre,post,done,i,hp,h=>by
  injection h with h1 h2
  subst h1
  simp only[topoOk,Bool.and_eq_true] at hp
  intro d hd
  rcases Ux hp.2 h2 d hd with h | h
  ·rcases List.mem_cons.1 h with h | h
   ·exact .inr (by simp[h])
   ·exact .inl h
  ·exact .inr (by simp[h])
theorem Qf {P:Program} {en:Env} {m:Nat} (he:EnvOk P en) (hmix:P.follows .mixedOrders=true) {id:Nat} {ops:Array Oper} {L:List Nat} (hok:anyOk ops.toList L=true) {σ σ':St} (hx:evAny en ops.toList (ancTab ops.toList L []) L [] [] σ some=some σ') (hm:m≤σ.blks.length) :
    m≤σ'.blks.length∧∀(a:Act) (w:World) (g:G) (Q:Exit→Act→World→Prop),StR w g σ a→(∀a' w' g',StR w' g' σ' a'→StepC m w g w' g'→a'.defers=a.defers→Q .normal a' w')→(Code.region id ops true).wp P Q a w:=by
 simp only[anyOk,Bool.and_eq_true] at hok
 obtain⟨⟨⟨⟨hnd,hcov⟩,hlt⟩,hpairs⟩,htopo⟩:=hok
 obtain⟨ts,hts,htr⟩:=Ns he.nat hx
 have hA:AncOk ops.toList (ancTab ops.toList L []):=PF _ L [] (fun i x h=>by cases h) hnd fun i _ p hp=>by cases hp
 have grow:∀{ts:List Ent} {done aff:List Nat} {σ σ':St},Tr en ops.toList (ancTab ops.toList L []) done aff σ ts σ'→σ.blks.length≤σ'.blks.length:=by
  intro ts
  induction ts with
  | nil=>intro done aff σ σ' h; cases h; exact Nat.le_refl _
  | cons t ts ih =>
   intro done aff σ σ' h
   cases h with
   | cons hσ ok ha hb next =>
    subst hσ
    refine Nat.le_trans ?_ (ih next)
    have ok2:=ok.2
    unfold Ent.post
    cases hq:t.e with
    | none=>exact Nat.le_refl _
    | some e =>
     rw[hq] at ok2
     exact(Kn he ok2.2).grow
 have mapL:∀pre t post,ts=pre++t::post→L=pre.map (·.i)++t.i::post.map (·.i):=fun pre t post h=>by rw[←hts,h]; simp
 refine⟨Nat.le_trans hm (grow htr),fun a w g Q hs hq=>wp_region_any hmix ?_⟩
 have hs1:StR {w with drawn:=w.drawn+1} g σ a:=⟨hs.heap.drew,hs.len,fun i x hx=>(hs.slots i x hx).step0 (Step.drew [] _ w g) (Nat.le_refl _)⟩
 have hlen:ts.length=ops.size:=by
  have h1:ts.length=L.length:=by rw[←hts,List.length_map]
  have hn:=NR hnd
  have hsub:∀i∈L,i∈List.range ops.size:=fun i hi=>by
   have:=List.all_eq_true.1 hlt i hi
   simpa using this
  have hsup:∀i∈List.range ops.size,i∈L:=fun i hi=>by
   have:=List.all_eq_true.1 hcov i (by simpa using hi)
   simpa using this
  have h2:=hn.length_le_of_subset hsub
  have h3:=List.nodup_range.length_le_of_subset hsup
  rw[List.length_range] at h2 h3
  omega
 have hrep:∀i,lst (Array.replicate ops.size false) i=false:=fun i=>by
  unfold lst
  rw[Array.getD_eq_getD_getElem?,Array.getElem?_replicate]
  split<;>rfl
 refine Xz (m:=m) (a0:=a) (w0:=w) (g0:=g) he hA hq ops.size ts [] [] σ hlen htr (fun i hi=>.inr ?_) (fun u hu=>?_) (fun u _ h=>by cases h) (by rw[hts]; exact NR hnd) (fun pre t post hsp u hu=>?_) (fun pre t post hsp d hd=>?_) hm
  _ a _ g (by simp) (fun i hi=>by cases hi) (fun u _=>hrep _) (fun i hi=>by rw[hrep] at hi; cases hi) hs1 (Step.drew _ _ w g) rfl
 ·have:=List.all_eq_true.1 hcov i (by simpa using hi)
  have hi':i∈L:=by simpa using this
  rw[←hts] at hi'
  obtain⟨u,hu,e⟩:=List.mem_map.1 hi'
  exact⟨u,hu,e⟩
 ·have hu':u.i∈L:=by rw[←hts]; exact List.mem_map.2 ⟨u,hu,rfl⟩
  have:=List.all_eq_true.1 hlt u.i hu'
  simpa using this
 ·rcases SW hpairs (mapL pre t post hsp) u.i (List.mem_map.2 ⟨u,hu,rfl⟩) with h | ⟨x,y,hx,hy,h⟩
  ·exact .inl h
  ·have h1:=(htr.okAt t (by rw[hsp]; simp)).1
   have h2:=(htr.okAt u (by rw[hsp]; simp[hu])).1
   rw[hx] at h1; injection h1 with h1
   rw[hy] at h2; injection h2 with h2
   subst h1; subst h2
   exact .inr (by simpa using h)
 ·rcases Ux htopo (mapL pre t post hsp) d hd with h | h
  ·cases h
  ·obtain⟨u,hu,e⟩:=List.mem_map.1 h
   exact .inr ⟨u,hu,e⟩
end Go.Va
namespace Go.Va
section
variable {P:Program} {en:Env} {m:Nat}
def CodeOk(P:Program)(en:Env)(m:Nat)(c:Code):Prop:=∀(σ:St) (e:Ex) (σ':St),ev en m c (Ex×St) σ pair2=some (e,σ')→m≤σ.blks.length→m≤σ'.blks.length ∧
 ∀(a:Act) (w:World) (g:G) (Q:Exit→Act→World→Prop),StR w g σ a→(∀a' w' g',StR w' g' σ' a'→StepC m w g w' g'→a'.defers=a.defers→Q (exOf e) a' w')→c.wp P Q a w
theorem LR(he:ENat en){c:Code}{R:Type}{σ:St}{K:Ex→St→Option R}{r:R}(h:ev en m c R σ K=some r):∃e s,ev en m c (Ex×St) σ pair2=some (e,s)∧K e s=some r:=by
 rw[Mr he] at h
 cases hx:ev en m c (Ex×St) σ pair2 with
 | none=>rw[hx] at h; cases h
 | some p=>rw[hx] at h; exact⟨p.1,p.2,rfl,h⟩
theorem SN(he:ENat en){body:Code}(ih:CodeOk P en m body){e:Ex}{σ':St}:∀(n:Nat) (σ:St),unrl (fun s K=>ev en m body (Ex×St) s K) pair2 n σ=some (e,σ')→m≤σ.blks.length→m≤σ'.blks.length
 | 0,_,h,_=>by cases h
 | n+1,σ,h,hm=>by
  simp only[unrl] at h
  obtain⟨e1,s',hb,hc⟩:=LR he h
  have hms:=(ih _ _ _ hb hm).1
  cases e1 with
  | normal=>exact SN he ih n s' hc hms
  | exit k =>
   simp only[Option.some.injEq,Prod.mk.injEq] at hc
   obtain⟨_,rfl⟩:=hc
   exact hms
  | ret =>
   simp only[Option.some.injEq,Prod.mk.injEq] at hc
   obtain⟨_,rfl⟩:=hc
   exact hms
theorem Aar(he:ProgOk P en){body:Code}(ih:CodeOk P en m body):CodeOk P en m (.loop body):=by
 intro σ e σ' h hm
 simp only[ev] at h
 split at h
 ·rename_i n _
  refine⟨SN he.nat ih n σ h hm,fun a w g Q hs hq=>?_⟩
  refine P6 (fun n a' w'=>∃s g',unrl (fun s K=>ev en m body (Ex×St) s K) pair2 n s=some (e,σ')∧StR w' g' s a'∧m≤s.blks.length∧StepC m w g w' g'∧a'.defers=a.defers) (fun n a1 w1 hR=>?_) (n:=n) ⟨σ,g,h,hs,hm,StepC.refl _ _ _,rfl⟩
  obtain⟨s,g1,hu,hs1,hms,hst1,hd1⟩:=hR
  cases n with
  | zero=>cases hu
  | succ n =>
   simp only[unrl] at hu
   obtain⟨e1,s',hb,hc⟩:=LR he.nat hu
   obtain⟨hms',hwp⟩:=ih _ _ _ hb hms
   refine hwp a1 w1 g1 _ hs1 fun a2 w2 g2 hs2 hst2 hd2=>?_
   cases e1 with
   | normal=>exact⟨n,Nat.lt_succ_self _,s',g2,hc,hs2,hms',hst1.trans hst2,hd2.trans hd1⟩
   | exit k =>
    simp only[Option.some.injEq,Prod.mk.injEq] at hc
    obtain⟨rfl,rfl⟩:=hc
    exact hq a2 w2 g2 hs2 (hst1.trans hst2) (hd2.trans hd1)
   | ret =>
    simp only[Option.some.injEq,Prod.mk.injEq] at hc
    obtain⟨rfl,rfl⟩:=hc
    exact hq a2 w2 g2 hs2 (hst1.trans hst2) (hd2.trans hd1)
 split at h
 ·rename_i hh ho _ _
  split at h
  ·cases h
  ·rename_i σ0 hσ0
   have h:(fix (stepL en m hh ho body) σ0).bind (fun p=>pair2 p.1 p.2)=some (e,σ'):=h
   cases hf:fix (stepL en m hh ho body) σ0 with
   | none=>rw[hf] at h; cases h
   | some p =>
    rw[hf] at h
    have h:p=(e,σ'):=by injection h
    subst h
    obtain⟨n,hn⟩:=(LV.1 hf).n
    have fin:∀n s,ToN (stepL en m hh ho body) n s (e,σ')→m≤s.blks.length→m≤σ'.blks.length:=by
     intro n s hs
     generalize ht:(e,σ')=t at hs
     induction hs with
     | done hd =>
      subst ht
      intro hms
      obtain⟨e1,s',hb,hc⟩:=LN he.nat hd
      rcases hc with ⟨_,s'',_,hr⟩| ⟨_,s'',hh2,hr⟩
      ·cases hr
      ·injection hr with hr; injection hr with h1 h2; subst h2
       exact LW hh2
     | more hd _ ihn =>
      intro hms
      obtain⟨e1,s',hb,hc⟩:=LN he.nat hd
      rcases hc with ⟨_,s'',hnorm,hr⟩| ⟨_,s'',_,hr⟩
      ·injection hr with hr; subst hr
       exact ihn ht (LW hnorm)
      ·cases hr
    have hm0:m≤σ0.blks.length:=LW hσ0
    refine⟨fin n σ0 hn hm0,fun a w g Q hs hq=>?_⟩
    obtain⟨g0,hs0,hst0,_⟩:=L6 hσ0 hs hm
    refine P6 (fun n a' w'=>∃s g',ToN (stepL en m hh ho body) n s (e,σ')∧StR w' g' s a'∧m≤s.blks.length∧StepC m w g w' g'∧a'.defers=a.defers) (fun n a1 w1 hR=>?_) (n:=n) ⟨σ0,g0,hn,hs0,hm0,hst0,rfl⟩
    obtain⟨s,g1,hto,hs1,hms,hst1,hd1⟩:=hR
    cases hto with
    | done hd =>
     obtain⟨e1,s',hb,hc⟩:=LN he.nat hd
     rcases hc with ⟨_,s'',_,hr⟩| ⟨hne,s'',hh2,hr⟩
     ·cases hr
     ·injection hr with hr; injection hr with h1 h2; subst h1; subst h2
      obtain⟨hms',hwp⟩:=ih _ _ _ hb hms
      refine hwp a1 w1 g1 _ hs1 fun a2 w2 g2 hs2 hst2 hd2=>?_
      obtain⟨g3,hs3,hst3,_⟩:=L6 hh2 hs2 hms'
      have hQ:=hq a2 w2 g3 hs3 ((hst1.trans hst2).trans hst3) (hd2.trans hd1)
      cases e with
      | normal=>exact(hne rfl).elim
      | exit k=>exact hQ
      | ret=>exact hQ
    | more hd hto' =>
     rename_i k
     obtain⟨e1,s',hb,hc⟩:=LN he.nat hd
     rcases hc with ⟨he1,s'',hnorm,hr⟩| ⟨_,s'',_,hr⟩
     ·injection hr with hr; subst hr
      subst he1
      obtain⟨hms',hwp⟩:=ih _ _ _ hb hms
      refine hwp a1 w1 g1 _ hs1 fun a2 w2 g2 hs2 hst2 hd2=>?_
      obtain⟨g3,hs3,hst3,hm3⟩:=L6 hnorm hs2 hms'
      exact⟨k,Nat.lt_succ_self _,_,g3,hto',hs3,hm3,(hst1.trans hst2).trans hst3,hd2.trans hd1⟩
     ·cases hr
 ·cases h
theorem MQ:∀{l:List (Option Unit)},foldW l=some ()→∀x∈l,x=some ()
 | [],_,_,h=>by cases h
 | [x],h,y,hy=>by rw[List.mem_singleton] at hy; subst hy; exact h
 | x::y::r,h,z,hz=>by
  simp only[foldW] at h
  cases hf:x with
  | none=>rw[hf] at h; cases h
  | some u =>
   rw[hf] at h
   rcases List.mem_cons.1 hz with rfl | hz
   ·exact hf
   ·exact MQ h z hz
theorem Y6(he:ProgOk P en){σ σ0:St}{l:Option (List Nat)}(h:entS m σ l=some σ0)(hm:m≤σ.blks.length):m≤σ0.blks.length∧∀{a:Act} {w:World} {g:G},StR w g σ a→∃g0,StR w g0 σ0 a∧StepC m w g w g0:=by
 cases l with
 | none=>simp only[entS,Option.some.injEq] at h; subst h; exact⟨hm,fun hs=>⟨_,hs,StepC.refl _ _ _⟩⟩
 | some l =>
  have h:σ.head {live:=l} m=some σ0:=h
  exact⟨LW h,fun hs=>by obtain⟨g1,h1,h2,_⟩:=L6 h hs hm; exact⟨g1,h1,h2⟩⟩
theorem Ze(he:ENat en){σ:St}{o:Oper}{e:Eff}(ha:arrO en σ o=none)(hs:sldE en σ o=none)(hc:∀c,o.op≠.call c)(h:exec en σ o some=some e):∃e0,execP en σ o some=some e0:=by
 have h:exec0 en σ o some=some e:=by
  unfold exec at h
  split at h
  ·rename_i ho _; exact(hc _ ho).elim
  ·exact h
 unfold exec0 at h
 rw[ha,hs] at h
 simp only at h
 split at h
 ·cases hd:dstSh en o with
  | false=>rw[hd] at h; exact⟨e,h⟩
  | true =>
   rw[hd] at h
   simp only[cond_true] at h
   rw[IC en he] at h
   cases hx:execP en σ o some with
   | none=>rw[hx] at h; cases h
   | some e0=>exact⟨e0,rfl⟩
 ·rw[IC en he] at h
  cases hx:execP en σ o some with
  | none=>rw[hx] at h; cases h
  | some e0=>exact⟨e0,rfl⟩
theorem Nw{α:Type}{k:IntKind}{x y:Int}{c:BoundsCode}{w w1:World}{r:α}(h:(boundsPanic k x y c:Sem α).run P w=.ok r w1):False:=by
 unfold boundsPanic at h
 dsimp only at h
 split at h
 ·rw[Sem.run_bind] at h
  generalize (Sem.run P _ w)=q at h
  cases q with
  | halt e w=>cases h
  | ok b w2=>simp[runtimePanic] at h
 ·simp[runtimePanic] at h
theorem MZ{t:TypeId}{w w1:World}{n:Nat}(h:(sizeOf t).run P w=.ok n w1):∀w',(sizeOf t).run P w'=.ok n w':=by
 intro w'
 unfold sizeOf typeInfo at h ⊢
 simp only[Sem.run_bind] at h ⊢
 have hp:(program).run P w=.ok P w:=rfl
 have hp':(program).run P w'=.ok P w':=rfl
 simp only[hp,hp',Result.andThen_ok] at h ⊢
 cases hq:P.info? t with
 | none=>rw[hq] at h; simp at h
 | some i=>rw[hq] at h; simp at h ⊢; exact h.1
theorem O5{t:TypeId}{u v c:Value}{w w1:World}(h:(Instr.indexAt t u v).run P w=.ok c w1):∀w',(Instr.indexAt t u v).run P w'=.ok c w':=by
 intro w'
 unfold Instr.indexAt at h ⊢
 cases v with
 | int k i =>
  simp only[asIntOf,pure_bind] at h ⊢
  cases hu:P.underlying t with
  | none=>simp[underlying,hu] at h
  | some d =>
   cases d with
   | slice elem =>
    cases u with
    | slice base len cap =>
     simp[underlying,hu] at h ⊢
     cases base with
     | none=>exact(Nw (by simpa using h)).elim
     | some a =>
      simp only at h ⊢
      split at h
      ·rename_i hc
       rw[if_pos hc]
       simp only[Sem.run_map] at h ⊢
       cases hs:(sizeOf elem).run P w with
       | halt e w=>rw[hs] at h; cases h
       | ok n w2 =>
        rw[hs] at h
        rw[MZ hs w']
        simp at h ⊢
        exact h.1
      ·exact(Nw (by simpa using h)).elim
    | _=>simp[underlying,hu] at h
   | array len elem =>
    cases u with
    | pointer p =>
     cases p with
     | none=>simp[underlying,hu,Instr.sureAddr] at h
     | some a =>
      simp[underlying,hu,Instr.sureAddr] at h ⊢
      split at h
      ·rename_i hc
       rw[if_pos hc]
       cases hs:(sizeOf elem).run P w with
       | halt e w=>rw[hs] at h; cases h
       | ok n w2 =>
        rw[hs] at h
        rw[MZ hs w']
        simp at h ⊢
        exact h.1
      ·split at h
       ·cases h
       ·exact(Nw h).elim
    | _=>simp[underlying,hu,Instr.sureAddr] at h
   | _=>simp[underlying,hu] at h
 | pointer p=>cases p<;>simp[asIntOf] at h
 | _=>simp[asIntOf] at h
theorem Qm (he:EnvOk P en) {σ:St} {o:Oper} {e:Eff} (hp:pureO o=true) (hx:exec en σ o some=some e) {w w1:World} {g:G} {a:Act} (hs:StR w g σ a) {n:Next} (hr:(execOp a.eval o).run P w=.ok n w1) :
    ∃c,∀w',(execOp a.eval o).run P w'=.ok (.value c) w':=by
 unfold pureO at hp
 split at hp
 ·rename_i x ho; exact⟨a.eval x,fun w'=>by simp[execOp,ho]⟩
 ·rename_i x ho; exact⟨a.eval x,fun w'=>by simp[execOp,ho]⟩
 ·rename_i x i ho
  simp only[execOp,ho,Instr.extract] at hr ⊢
  split at hr
  ·split at hr
   ·rename_i v hv; exact⟨v,fun w'=>by simp⟩
   ·cases hr
  ·cases hr
 ·rename_i t x f ho
  have ha:arrO en σ o=none:=by unfold arrO; rw[ho]
  obtain⟨e0,hx⟩:=Ze he.nat ha (by unfold sldE; rw[ho]) (fun c e=>by rw[ho] at e; cases e) hx
  unfold execP at hx
  dsimp only at hx
  rw[ho] at hx
  simp only at hx
  split at hx
  ·rename_i ti ht
   have hxx:=Av hs x
   unfold fldA at hx
   split at hx
   ·rename_i k i p q hq
    rw[hq] at hxx
    split at hx
    ·rename_i fo hfo
     obtain⟨_,_,_,b,_,e1⟩:=Im hxx
     exact⟨.pointer (some ⟨b,i.toNat*(g.at_ k).esz+q+fo,none⟩),fun w'=>by simp[execOp,ho,e1,(Lk (P:=P) (w:=w') (he.t ht) hfo b _).1]⟩
    ·cases hx
   ·rename_i ks t' y hq
    rw[hq] at hxx
    split at hx
    ·rename_i hc
     obtain⟨_,b,off,ds,e1,_⟩:=MM hxx
     cases hfo:ti.offs[f]? with
     | none =>
      rw[hfo] at hc
      obtain⟨rfl,hc⟩:=hc
      split at hx
      ·rename_i ks' u z hz
       exfalso
       have:∀(f:Nat) (t:Ty) (x:t.V) (v:AV),fldD ks t x f=some v→offD t f≠none:=by
        intro f
        induction f with
        | zero=>intro t x v h; cases t<;>simp[fldD,offD] at h ⊢
        | succ f ih =>
         intro t x v h
         cases t with
         | pair a b =>
          simp only[fldD] at h
          have:=ih b x.2 v h
          simp only[offD]
          cases ho:offD b f with
          | none=>exact(this ho).elim
          | some _=>simp
         | _=>simp[fldD] at h
       exact this f _ y _ hz hc
      ·cases hx
     | some fo=>exact⟨.pointer (some ⟨b,off+fo,none⟩),fun w'=>by simp[execOp,ho,e1,(Lk (P:=P) (w:=w') (he.t ht) hfo b _).1]⟩
    ·cases hx
   ·cases hx
  ·cases hx
 ·rename_i t x i ho
  simp only[execOp,ho] at hr ⊢
  rw[Sem.run_bind] at hr
  cases hq:(Instr.indexAt t (a.eval x) (a.eval i)).run P w with
  | halt e w=>rw[hq] at hr; cases hr
  | ok c w2=>exact⟨c,fun w'=>by rw[Sem.run_bind,O5 hq w']; rfl⟩
 ·cases hp
theorem N6 (he:ProgOk P en) {h:SH} {ops:Array Oper} {σ':St} {Q:Exit→Act→World→Prop} {a0:Act} {w0:World} {g0:G}
    (fin:∀a' w' g',StR w' g' σ' a'→StepC m w0 g0 w' g'→a'.defers=a0.defers→Q .normal a' w') (hsel:Region.noSelect ops=true) (hQ:∀c a w,¬Q (.panic c) a w) :
    ∀(k:Nat) (listed:Array Bool) (σ:St),allW en h m ops σ' k listed σ=some ()→m≤σ.blks.length→∀(a:Act) (w:World) (g:G),StR w g σ a→StepC m w0 g0 w g→a.defers=a0.defers→wpAny P .any ops Q k listed a w
 | 0,listed,σ,hw,hm,a,w,g,hs,hst,hd=>by
  simp only[allW] at hw
  split at hw
  ·rename_i hr
   split at hw
   ·rename_i s hh
    unfold eqSt at hw
    split at hw
    ·rename_i e
     subst e
     obtain⟨g1,hs1,st1,_⟩:=L6 hh hs hm
     exact⟨by simpa using hr,fin a w g1 hs1 (hst.trans st1) hd⟩
    ·cases hw
   ·cases hw
  ·cases hw
 | k+1,listed,σ,hw,hm,a,w,g,hs,hst,hd=>by
  simp only[allW] at hw
  split at hw
  ·rename_i i hi
   unfold pickW at hi
   have hp:=List.find?_some hi
   have hrd:=List.mem_of_find?_eq_some hi
   rw[Bool.and_eq_true] at hp
   simp only[evOps] at hw
   split at hw
   ·cases hw
   ·rename_i o ho
    have ho':ops[i]?=some o:=by rw[←Array.getElem?_toList]; exact ho
    rw[ho'] at hp
    rcases I0 hw with ⟨hwt,h1⟩| ⟨hwt,h1⟩
    ·rw[Ko en he.nat] at h1
     cases hx:exec en σ o some with
     | none=>rw[hx] at h1; cases h1
     | some e =>
      rw[hx] at h1
      have hsnd:=Kn he.toEnvOk hx
      have hgrow:=hsnd.grow
      have hwp:=hsnd.wp a w g hs (wpAny P .any ops Q k (listed.setIfInBounds i true)) (fun _ _ _=>False) fun v w' g' hH hv hst'=>N6 he fin hsel hQ k _ _ h1 (Nat.le_trans hm hgrow) _ _ _ (hs.after hgrow hH hv hst') (hst.trans (hst'.toC hm)) (by rw[Go.Va.put_defers]; exact hd)
      have hrun:∃n w1,(execOp a.eval o).run P w=.ok n w1:=by
       unfold Oper.wp at hwp
       cases hq:(execOp a.eval o).run P w with
       | ok n w1=>exact⟨n,w1,rfl⟩
       | halt e w1=>rw[hq] at hwp; cases e<;>exact hwp.elim
      obtain⟨n,w1,hrun⟩:=hrun
      obtain⟨c,hc⟩:=Qm he.toEnvOk hp.1 hx hs hrun
      have hy:Yields P ops o c a:=.inl ⟨FV hs hwt,hc⟩
      refine wpAny_take ho' hsel hp.2 (by simpa using hrd) (fun c a w h=>(hQ c _ _ h).elim) hy ?_
      unfold Oper.wp at hwp
      rw[hc w] at hwp
      exact hwp
    ·have hy:Yields P ops o undef a:=.inr ⟨FV hs hwt,rfl⟩
     refine wpAny_take ho' hsel hp.2 (by simpa using hrd) (fun c a w h=>(hQ c _ _ h).elim) hy ?_
     exact N6 he fin hsel hQ k _ _ h1 hm _ _ _ (hs.skip o.dst) hst (by rw[Go.Va.put_defers]; exact hd)
  split at hw
  ·cases hw
  ·rename_i hr
   refine⟨fun e=>by rw[e] at hr; exact(hr rfl).elim,fun i hi=>?_⟩
   have h1:=MQ hw _ (List.mem_map_of_mem hi)
   simp only[evOps] at h1
   unfold wpOp
   split at h1
   ·cases h1
   ·rename_i o ho
    have ho':ops[i]?=some o:=by rw[←Array.getElem?_toList]; exact ho
    simp only[ho']
    rcases I0 h1 with ⟨hw,h1⟩| ⟨hw,h1⟩
    ·rw[Ko en he.nat] at h1
     cases hx:exec en σ o some with
     | none=>rw[hx] at h1; cases h1
     | some e =>
      rw[hx] at h1
      have hsnd:=Kn he.toEnvOk hx
      have hgrow:=hsnd.grow
      rw[if_pos (FV hs hw)]
      refine .inl (hsnd.wp a w g hs _ Q fun v w' g' hH hv hst'=>?_)
      exact N6 he fin hsel hQ k _ _ h1 (Nat.le_trans hm hgrow) _ _ _ (hs.after hgrow hH hv hst') (hst.trans (hst'.toC hm)) (by rw[put_defers]; exact hd)
    ·rw[FV hs hw]
     simp only[Bool.false_eq_true,if_false]
     exact N6 he fin hsel hQ k _ _ h1 hm _ _ _ (hs.skip o.dst) hst (by rw[put_defers]; exact hd)
theorem StR.cut{w:World}{g:G}{σ:St}{a:Act}(hs:StR w g σ a):StR w (g.cut σ.blks.length) σ a:=by
 have himm:∀b,g.own b=.imm→(g.cut σ.blks.length).own b=.imm:=fun b h=>by simp[G.cut,h]
 refine⟨⟨fun b hb=>by simp[G.cut,hs.heap.fresh b hb],fun k x hx=>?_⟩,hs.len,fun i x hx=>?_⟩
 ·have:=(hs.heap.blk k x hx).ren (φ:=id) himm (Pv (At hx)) fun j hj=>Pv (hs.heap.scp k x hx j hj)
  rwa [MR] at this
 ·have h:=hs.slots i x hx
  have:=h.ren (φ:=id) (g':=g.cut σ.blks.length) (n':=σ.blks.length) himm fun k hk=>Pv (h.idsLt k hk)
  rwa [HX] at this
theorem Tg (he:EnvOk P en) {σ:St} {o:Oper} {e:Eff} {t:TypeId} {x:Operand} (ho:o.op=.load t x) {k:Nat} {i:Int} {p:List Nat} {f:Nat} {a0:AV} (hx:σ.opd x=.ptr k i p f) (hb:σ.blks[k]?=some (.box a0)) (hex:exec en σ o some=some e)
    {w:World} {g:G} {a:Act} (hs:StR w g σ a):∃b,(g.at_ k).a=some ⟨b,0,none⟩∧∃c,∀w',w'.heap[b]?=w.heap[b]?→(execOp a.eval o).run P w'=.ok (.value c) w':=by
 have ha:arrO en σ o=none:=by
  unfold arrO
  rw[ho]
  dsimp only
  split
  ·rfl
  ·split
   ·rename_i e' ti k' i' p' f' _ _ hx'
    rw[hx] at hx'
    injection hx' with h1 h2 h3 h4
    subst h1
    rw[hb]
   ·rfl
 obtain⟨e0,hex⟩:=Ze he.nat ha (by unfold sldE; rw[ho]) (fun c e=>by rw[ho] at e; cases e) hex
 unfold execP at hex
 dsimp only at hex
 rw[ho] at hex
 simp only at hex
 split at hex
 ·rename_i ti ht
  have hxx:=Av hs x
  rw[hx] at hxx hex
  obtain⟨hk,h0,h1,b,hba,hpe⟩:=Im hxx
  refine⟨b,hba,?_⟩
  have hld:∃v,atP σ.blks k i p f=some v∧v.size=ti.ty.size:=by
   split at hex
   ·split at hex
    ·unfold stealA at hex; simp only[hb] at hex; cases hex
    ·cases hex
   ·unfold loadA at hex
    simp only at hex
    split at hex
    ·rename_i v hv
     split at hex
     ·rename_i hc; exact⟨v,hv,hc.1⟩
     ·cases hex
    ·cases hex
  obtain⟨v,hv,hsz⟩:=hld
  obtain⟨cs,hcx,hcell⟩:=LM hs.heap hv h1 hba
  have hl:cs.length=ti.ty.size:=by rw[hcx.len,hsz]
  obtain⟨c,_,hsv⟩:=KA (P:=P) (w:=w) (he.t ht) hl hcell (fun hg=>by rw[hl]; exact Lo hg)
  refine⟨c,fun w' hw'=>?_⟩
  obtain⟨c',hr,hsv'⟩:=KA (P:=P) (w:=w') (he.t ht) hl (fun j u hu=>(Md hw').trans (hcell j u hu)) (fun hg=>by rw[hl]; exact Lo hg)
  have:c'=c:=by
   cases hq:ti.ty.isAgg with
   | true=>rw[hq] at hsv hsv'; simp only[asVal,cond_true] at hsv hsv'; rw[hsv,hsv']
   | false=>rw[hq] at hsv hsv'; simp only[asVal,cond_false] at hsv hsv'; rw[hsv] at hsv'; injection hsv' with h _; exact h.symm
  subst this
  simp[execOp,ho,hpe,Instr.loadAt,Instr.sureAddr,hr]
 ·cases hex
theorem AbX{ts:Array TypeId}{t:TypeId}{ad:Option Addr}{n cp:Nat}{w w1:World}{v:Value}(h:(Builtin.len_ ts t #[.slice ad n cp]).run P w=.ok v w1)(w':World):(Builtin.len_ ts t #[.slice ad n cp]).run P w'=.ok v w':=by
 unfold Builtin.len_ at h ⊢
 cases ht:ts[0]? with
 | none=>simp[ht] at h
 | some t =>
  cases hu:P.underlying t with
  | none=>simp[ht,underlying,hu] at h
  | some d =>
   cases d with
   | pointer q =>
    cases hq:P.underlying q with
    | none=>simp[ht,underlying,hu,hq] at h
    | some d=>cases d<;>simp[ht,underlying,hu,hq,goInt] at h ⊢<;>exact h.1
   | slice _=>simp[ht,underlying,hu,goInt] at h ⊢; exact h.1
   | array _ _=>simp[ht,underlying,hu,goInt] at h ⊢; exact h.1
   | _=>simp[ht,underlying,hu,goInt] at h
theorem TV {o:Oper} {c:Call} (ho:o.op=.call c) (hc:c.callee=.builtin .len) {a:Act} {X:Operand} (hX:c.args.toList=[X]) {ad:Option Addr} {n cp:Nat} (hv:a.eval X=.slice ad n cp) {w w1:World} {nx:Next} (hr:(execOp a.eval o).run P w=.ok nx w1) :
    ∃v,∀w',(execOp a.eval o).run P w'=.ok (.value v) w':=by
 have hA:c.args=#[X]:=by apply Array.toList_inj.1; rw[hX]
 have key:∀w',(execOp a.eval o).run P w'=((Builtin.len_ c.argTypes o.type #[.slice ad n cp]).run P w').andThen fun v w'=>.ok (.value v) w':=fun w'=>by
  simp[execOp,ho,resolve,hc,hA,hv,invoke,builtin]
 rw[key] at hr
 cases hq:(Builtin.len_ c.argTypes o.type #[.slice ad n cp]).run P w with
 | ok v w2=>exact⟨v,fun w'=>by rw[key,AbX hq w']; rfl⟩
 | halt e w2=>rw[hq] at hr; cases hr
theorem VN (he:EnvOk P en) {N:Nat} {σ:St} {o:Oper} {e:Eff} (hp:pickQ1 N σ o=true) (hx:exec en σ o some=some e) {w w1:World} {g:G} {a:Act} (hs:StR w g σ a) {nx:Next} (hr:(execOp a.eval o).run P w=.ok nx w1)
    {n0:Nat} {w0:World} (hN:∀k b,k<N→(g.at_ k).a=some ⟨b,0,none⟩→(∃a0,σ.blks[k]?=some (.box a0))→b<n0) (hw:∀b,b<n0→w.heap[b]?=w0.heap[b]?):∃c,∀w',(∀b,b<n0→w'.heap[b]?=w0.heap[b]?)→(execOp a.eval o).run P w'=.ok (.value c) w':=by
 unfold pickQ1 at hp
 rw[Bool.or_eq_true] at hp
 rcases hp with hp | hp
 ·obtain⟨c,hc⟩:=Qm he hp hx hs hr
  exact⟨c,fun w' _=>hc w'⟩
 ·split at hp
  ·rename_i t x ho
   split at hp
   ·rename_i k i p f hxx
    rw[Bool.and_eq_true] at hp
    obtain⟨hk,hb⟩:=hp
    split at hb
    ·rename_i a0 hbb
     obtain⟨b,hba,c,hc⟩:=Tg he ho hxx hbb hx hs
     have hbn:=hN k b (by simpa using hk) hba ⟨a0,hbb⟩
     exact⟨c,fun w' hw'=>hc w' ((hw' b hbn).trans (hw b hbn).symm)⟩
    ·cases hb
   ·cases hp
  ·rename_i c ho
   have go:∀(X:Operand),c.callee=.builtin .len→c.args.toList=[X]→(∃ad n cp,a.eval X=.slice ad n cp)→∃v,∀w',(∀b,b<n0→w'.heap[b]?=w0.heap[b]?)→(execOp a.eval o).run P w'=.ok (.value v) w':=fun X h1 h2 ⟨ad,n,cp,h3⟩=>by
    obtain⟨v,hv⟩:=TV ho h1 h2 h3 hr
    exact⟨v,fun w' _=>hv w'⟩
   split at hp
   ·rename_i hc hops
    unfold opds at hops
    cases hl:c.args.toList with
    | nil=>rw[hl] at hops; cases hops
    | cons X r =>
     rw[hl] at hops
     cases r with
     | nil =>
      simp only[List.map_cons,List.map_nil,List.cons.injEq,and_true] at hops
      have hv:=Av hs X
      rw[hops] at hv
      obtain⟨_,ad,cp,ds,hv,_⟩:=NQ hv
      exact go X hc hl ⟨_,_,_,hv⟩
     | cons _ _=>simp at hops
   ·rename_i hc hops
    unfold opds at hops
    cases hl:c.args.toList with
    | nil=>rw[hl] at hops; cases hops
    | cons X r =>
     rw[hl] at hops
     cases r with
     | nil =>
      simp only[List.map_cons,List.map_nil,List.cons.injEq,and_true] at hops
      have hv:=Av hs X
      rw[hops] at hv
      obtain⟨ad,hv⟩:=Ou hv
      exact go X hc hl ⟨_,_,_,hv⟩
     | cons _ _=>simp at hops
   ·cases hp
  ·rename_i op t x y yt ho
   rw[Bool.and_eq_true] at hp
   obtain⟨h1,h2⟩:=hp
   split at h2
   ·rename_i ks k u ks' k' v hxx hyy
    have hk:k=k':=by simpa using h2
    subst hk
    have e1:=Av hs x
    rw[hxx] at e1
    have e1:=D4 e1
    have e2:=Av hs y
    rw[hyy] at e2
    have e2:=D4 e2
    split at h1
    ·exact⟨_,fun w' _=>by simp[execOp,ho,e1,e2,eqGuard,binOp,Op.intArith]; rfl⟩
    ·exact⟨_,fun w' _=>by simp[execOp,ho,e1,e2,eqGuard,binOp,Op.intArith]; rfl⟩
    ·cases h1
   ·cases h2
  ·cases hp
theorem R9{R:Type}{all:List Oper}{i:Nat}{σ:St}{K:St→Option R}{r:R}(h:evQ en all i σ K=some r):∃o,all[i]?=some o∧guardA all σ o (fun σ=>exec en σ o fun e=>if e.mods.isEmpty then K (σ.after o.dst e) else none) (fun σ=>K (σ.skip o.dst))=some r:=by
 unfold evQ at h
 split at h
 ·cases h
 ·rename_i o ho; exact⟨o,ho,h⟩
theorem Wk{w:World}{g:G}{n:Nat}:StepC m w g w (g.cut n) :=
 ⟨rfl,rfl,rfl,Nat.le_refl _,fun b _ h=>⟨by simp[G.cut,h],rfl⟩,fun b h=>⟨by simp[G.cut,h],rfl⟩,fun b k p h hk hm=>(hm (List.mem_range.2 hk)).elim,fun k hk=>rfl⟩
theorem Tw {σ:St} {o:Oper} {e:Eff} (hsnd:Snd P σ o e) (hme:e.mods=[]) {w:World} {g:G} {a:Act} (hs:StR w g σ a) (hm:m≤σ.blks.length) {next:Act→World→Prop} {Q:Exit→Act→World→Prop}
    (hn:∀v w' g',StR w' g' (σ.after o.dst e) (a.put o.dst v)→StepC m w g w' g'→(∀b,b<w.heap.size→w'.heap[b]?=w.heap[b]?)→w.heap.size≤w'.heap.size→(∀k,k<σ.blks.length→g'.at_ k=g.at_ k)→next (a.put o.dst v) w'):o.wp P a w next Q:=by
 have hsC:=hs.cut
 refine hsnd.wp a w (g.cut σ.blks.length) hsC next Q fun v w' g' hH hv st=>?_
 refine hn v w' g' (hsC.after hsnd.grow hH hv st) (Wk.trans (st.toC hm)) (fun b hb=>?_) st.size (fun k hk=>st.at_ k hk)
 cases hq:(g.cut σ.blks.length).own b with
 | no=>exact(st.no b hb hq).2
 | imm=>exact(st.imm b hq).2
 | lab k r =>
  have hk:k<σ.blks.length:=by
   simp only[G.cut] at hq
   split at hq
   ·split at hq
    ·rename_i hk; injection hq with h1 _; subst h1; exact hk
    ·cases hq
   ·rename_i hno; exact(hno k r hq).elim
  exact(st.lab b k r hq hk (by rw[hme]; simp)).2
theorem OV (he:ProgOk P en) {h:SH} {N:Nat} {ops:Array Oper} {σ':St} {Q:Exit→Act→World→Prop} {a0:Act} {w0:World} {g0 gS:G}
    (fin:∀a' w' g',StR w' g' σ' a'→StepC m w0 g0 w' g'→a'.defers=a0.defers→Q .normal a' w') (hsel:Region.noSelect ops=true) (hQ:∀c a w,¬Q (.panic c) a w) {bs0:List Blk} (H0:Heap w0 gS bs0) (hN:bs0.length=N) :
    ∀(k:Nat) (listed:Array Bool) (σ:St),allQ en h m N ops σ' k listed σ=some ()→m≤σ.blks.length→(∃l,σ.blks=bs0++l)→∀(a:Act) (w:World) (g:G),StR w g σ a→StepC m w0 g0 w g→a.defers=a0.defers→(∀b,b<w0.heap.size→w.heap[b]?=w0.heap[b]?)→w0.heap.size≤w.heap.size→(∀k,k<N→g.at_ k=gS.at_ k) →
     wpAnyH P .any ops Q (fun w=>∀b,b<w0.heap.size→w.heap[b]?=w0.heap[b]?) k listed a w
 | 0,listed,σ,hw,hm,hl,a,w,g,hs,hst,hd,hS,hsz,hat=>by
  simp only[allQ] at hw
  split at hw
  ·rename_i hr
   split at hw
   ·rename_i s hh
    unfold eqSt at hw
    split at hw
    ·rename_i e
     subst e
     obtain⟨g1,hs1,st1,_⟩:=L6 hh hs hm
     exact⟨by simpa using hr,fin a w g1 hs1 (hst.trans st1) hd⟩
    ·cases hw
   ·cases hw
  ·cases hw
 | k+1,listed,σ,hw,hm,hl,a,w,g,hs,hst,hd,hS,hsz,hat=>by
  have hgN:N≤σ.blks.length:=by obtain⟨l,hl⟩:=hl; rw[hl,List.length_append]; omega
  have one:∀(o:Oper) (e:Eff) (i:Nat),exec en σ o some=some e→(if e.mods.isEmpty then allQ en h m N ops σ' k (listed.setIfInBounds i true) (σ.after o.dst e) else none)=some ()→∀(Q':Exit→Act→World→Prop),
      o.wp P a w (fun a' w'=>(∀b,b<w0.heap.size→w'.heap[b]?=w0.heap[b]?)∧wpAnyH P .any ops Q (fun w=>∀b,b<w0.heap.size→w.heap[b]?=w0.heap[b]?) k (listed.setIfInBounds i true) a' w') Q':=by
   intro o e i hx h1 Q'
   split at h1
   ·rename_i hme
    have hme:e.mods=[]:=by simpa using hme
    have hsnd:=Kn he.toEnvOk hx
    refine Tw (m:=m) hsnd hme hs hm fun v w' g' hs' st' hS' hsz' hat'=>?_
    have hS2:∀b,b<w0.heap.size→w'.heap[b]?=w0.heap[b]?:=fun b hb=>(hS' b (Nat.lt_of_lt_of_le hb hsz)).trans (hS b hb)
    refine⟨hS2,OV he fin hsel hQ H0 hN k _ _ h1 (Nat.le_trans hm hsnd.grow) ?_ _ _ _ hs' (hst.trans st') (by rw[Go.Va.put_defers]; exact hd) hS2 (Nat.le_trans hsz hsz') fun k hk=>(hat' k (Nat.lt_of_lt_of_le hk hgN)).trans (hat k hk)⟩
    obtain⟨l,hl⟩:=hl
    obtain⟨l',hl'⟩:=hsnd.ext hme
    exact⟨l++l',by show e.blks=_; rw[hl',hl,List.append_assoc]⟩
   ·cases h1
  simp only[allQ] at hw
  split at hw
  ·rename_i i hi
   unfold pickQ at hi
   have hp:=List.find?_some hi
   have hrd:=List.mem_of_find?_eq_some hi
   rw[Bool.and_eq_true] at hp
   obtain⟨o,ho,hw⟩:=R9 hw
   have ho':ops[i]?=some o:=by rw[←Array.getElem?_toList]; exact ho
   rw[ho'] at hp
   rcases I0 hw with ⟨hwt,h1⟩| ⟨hwt,h1⟩
   ·rw[Ko en he.nat] at h1
    cases hx:exec en σ o some with
    | none=>rw[hx] at h1; cases h1
    | some e =>
     rw[hx] at h1
     have hwp:=one o e i hx h1 (fun _ _ _=>False)
     have hrun:∃n w1,(execOp a.eval o).run P w=.ok n w1:=by
      unfold Oper.wp at hwp
      cases hq:(execOp a.eval o).run P w with
      | ok n w1=>exact⟨n,w1,rfl⟩
      | halt e w1=>rw[hq] at hwp; cases e<;>exact hwp.elim
     obtain⟨n,w1,hrun⟩:=hrun
     obtain⟨c,hc⟩:=VN he.toEnvOk hp.1 hx hs hrun (n0:=w0.heap.size) (w0:=w0) (fun k b hk hb hbox=>by
      obtain⟨a1,hbox⟩:=hbox
      obtain⟨l,hl⟩:=hl
      rw[hl,List.getElem?_append_left (by omega)] at hbox
      obtain⟨_,b',cs,e',ha',_,hh',_⟩:=H0.blk k _ hbox
      rw[hat k hk,ha'] at hb
      injection hb with hb; injection hb with hb; subst hb
      exact At (l:=w0.heap.toList) (by rw[Array.getElem?_toList]; exact hh')|> fun h=>by simpa using h) hS
     have hy:YieldsIf P ops (fun w=>∀b,b<w0.heap.size→w.heap[b]?=w0.heap[b]?) o c a:=.inl ⟨FV hs hwt,hc⟩
     refine wpAnyH_take ho' hsel hp.2 (by simpa using hrd) (fun c a w h=>(hQ c _ _ h).elim) hy hS ?_
     unfold Oper.wp at hwp
     rw[hc w hS] at hwp
     exact hwp.2
   ·have hy:YieldsIf P ops (fun w=>∀b,b<w0.heap.size→w.heap[b]?=w0.heap[b]?) o undef a:=.inr ⟨FV hs hwt,rfl⟩
    refine wpAnyH_take ho' hsel hp.2 (by simpa using hrd) (fun c a w h=>(hQ c _ _ h).elim) hy hS ?_
    exact OV he fin hsel hQ H0 hN k _ _ h1 hm hl _ _ _ (hs.skip o.dst) hst (by rw[Go.Va.put_defers]; exact hd) hS hsz hat
  split at hw
  ·cases hw
  ·rename_i hr
   refine⟨fun e=>by rw[e] at hr; exact(hr rfl).elim,fun i hi=>?_⟩
   have h1:=MQ hw _ (List.mem_map_of_mem hi)
   obtain⟨o,ho,h1⟩:=R9 h1
   unfold wpOp
   have ho':ops[i]?=some o:=by rw[←Array.getElem?_toList]; exact ho
   simp only[ho']
   rcases I0 h1 with ⟨hw,h1⟩| ⟨hw,h1⟩
   ·rw[Ko en he.nat] at h1
    cases hx:exec en σ o some with
    | none=>rw[hx] at h1; cases h1
    | some e =>
     rw[hx] at h1
     rw[if_pos (FV hs hw)]
     exact .inl (one o e i hx h1 Q)
   ·rw[FV hs hw]
    simp only[Bool.false_eq_true,if_false]
    exact⟨hS,OV he fin hsel hQ H0 hN k _ _ h1 hm hl _ _ _ (hs.skip o.dst) hst (by rw[put_defers]; exact hd) hS hsz hat⟩
theorem Kb(he:ProgOk P en):∀c:Code,CodeOk P en m c
 | .skip=>fun σ e σ' h hm=>by
  simp only[ev,Option.some.injEq,Prod.mk.injEq] at h
  obtain⟨rfl,rfl⟩:=h
  exact⟨hm,fun a w g Q hs hq=>wp_skip (hq a w g hs (StepC.refl _ _ _) rfl)⟩
 | .ret=>fun σ e σ' h hm=>by
  simp only[ev,Option.some.injEq,Prod.mk.injEq] at h
  obtain⟨rfl,rfl⟩:=h
  exact⟨hm,fun a w g Q hs hq=>wp_ret (hq a w g hs (StepC.refl _ _ _) rfl)⟩
 | .exit n=>fun σ e σ' h hm=>by
  simp only[ev,Option.some.injEq,Prod.mk.injEq] at h
  obtain⟨rfl,rfl⟩:=h
  exact⟨hm,fun a w g Q hs hq=>wp_exit (hq a w g hs (StepC.refl _ _ _) rfl)⟩
 | .seq c d=>fun σ e σ' h hm=>by
  simp only[ev] at h
  have hj:∃e1 s1,m≤s1.blks.length∧(∀(a:Act) (w:World) (g:G) (Q:Exit→Act→World→Prop),StR w g σ a→(∀a' w' g',StR w' g' s1 a'→StepC m w g w' g'→a'.defers=a.defers→Q (exOf e1) a' w')→c.wp P Q a w) ∧
      (match e1 with | .normal=>ev en m d (Ex×St) s1 pair2 | .exit n=>pair2 (.exit n) s1 | .ret=>pair2 .ret s1)=some (e,σ'):=by
   split at h
   ·obtain⟨e1,s1,h1,h2⟩:=LR he.nat h
    obtain⟨hm1,ih1⟩:=Kb he c σ e1 s1 h1 hm
    exact⟨e1,s1,hm1,ih1,h2⟩
   ·rename_i hh _
    rw[Option.bind_eq_some_iff] at h
    obtain⟨σ0,h0,h⟩:=h
    obtain⟨hm0,hent⟩:=Y6 he h0 hm
    rw[Option.bind_eq_some_iff] at h
    obtain⟨⟨e1,s2⟩,h1,h2⟩:=h
    obtain⟨e0,s1,h3,h4⟩:=LR he.nat h1
    rw[Option.bind_eq_some_iff] at h4
    obtain⟨s3,h5,h6⟩:=h4
    simp only[Option.some.injEq,Prod.mk.injEq] at h6
    obtain⟨rfl,rfl⟩:=h6
    obtain⟨hm1,ih1⟩:=Kb he c σ0 e0 s1 h3 hm0
    refine⟨e0,s3,LW h5,fun a w g Q hs hq=>?_,h2⟩
    obtain⟨g0,hs0,hst0⟩:=hent hs
    refine ih1 a w g0 Q hs0 fun a' w' g' hs' hst hd=>?_
    obtain⟨g3,hs3,hst3,_⟩:=L6 h5 hs' hm1
    exact hq a' w' g3 hs3 (hst0.trans (hst.trans hst3)) hd
  obtain⟨e1,s1,hm1,ih1,h2⟩:=hj
  cases e1 with
  | normal =>
   obtain⟨hm2,ih2⟩:=Kb he d s1 e σ' h2 hm1
   refine⟨hm2,fun a w g Q hs hq=>wp_seq (ih1 a w g _ hs fun a1 w1 g1 hs1 hst1 hd1=>?_)⟩
   exact ih2 a1 w1 g1 Q hs1 fun a2 w2 g2 hs2 hst2 hd2=>hq a2 w2 g2 hs2 (hst1.trans hst2) (hd2.trans hd1)
  | exit n =>
   simp only[Option.some.injEq,Prod.mk.injEq] at h2
   obtain⟨rfl,rfl⟩:=h2
   exact⟨hm1,fun a w g Q hs hq=>wp_seq (ih1 a w g _ hs fun a1 w1 g1 hs1 hst1 hd1=>hq a1 w1 g1 hs1 hst1 hd1)⟩
  | ret =>
   simp only[Option.some.injEq,Prod.mk.injEq] at h2
   obtain⟨rfl,rfl⟩:=h2
   exact⟨hm1,fun a w g Q hs hq=>wp_seq (ih1 a w g _ hs fun a1 w1 g1 hs1 hst1 hd1=>hq a1 w1 g1 hs1 hst1 hd1)⟩
 | .cond c x y=>fun σ e σ' h hm=>by
  simp only[ev] at h
  split at h
  ·rename_i ks t hc
   have hb:∀(a:Act) (w:World) (g:G),StR w g σ a→a.eval c=.bool t:=fun a w g hs=>by
    have:=Av hs c
    rw[hc] at this
    exact Ks this
   cases t
   ·obtain⟨hm1,ih1⟩:=Kb he y σ e σ' h hm
    exact⟨hm1,fun a w g Q hs hq=>wp_cond_false (hb a w g hs) (ih1 a w g Q hs hq)⟩
   ·obtain⟨hm1,ih1⟩:=Kb he x σ e σ' h hm
    exact⟨hm1,fun a w g Q hs hq=>wp_cond_true (hb a w g hs) (ih1 a w g Q hs hq)⟩
  ·cases h
 | .block n c=>fun σ e σ' h hm=>by
  simp only[ev] at h
  obtain⟨e1,s1,h1,h2⟩:=LR he.nat h
  obtain⟨hm1,ih1⟩:=Kb he c σ e1 s1 h1 hm
  cases e1 with
  | normal =>
   simp only[Option.some.injEq,Prod.mk.injEq] at h2
   obtain⟨rfl,rfl⟩:=h2
   exact⟨hm1,fun a w g Q hs hq=>wp_block (ih1 a w g _ hs fun a1 w1 g1 hs1 hst1 hd1=>hq a1 w1 g1 hs1 hst1 hd1)⟩
  | exit k =>
   simp only at h2
   cases hk:k==n with
   | true =>
    rw[hk] at h2
    simp only[cond_true,Option.some.injEq,Prod.mk.injEq] at h2
    obtain⟨rfl,rfl⟩:=h2
    have hk':k=n:=by simpa using hk
    subst hk'
    exact⟨hm1,fun a w g Q hs hq=>wp_block (ih1 a w g _ hs fun a1 w1 g1 hs1 hst1 hd1=>by
     simp only[exOf,Exit.inBlock,if_true]; exact hq a1 w1 g1 hs1 hst1 hd1)⟩
   | false =>
    rw[hk] at h2
    simp only[cond_false,Option.some.injEq,Prod.mk.injEq] at h2
    obtain⟨rfl,rfl⟩:=h2
    have hk':¬k=n:=by simpa using hk
    exact⟨hm1,fun a w g Q hs hq=>wp_block (ih1 a w g _ hs fun a1 w1 g1 hs1 hst1 hd1=>by
     simp only[exOf,Exit.inBlock,if_neg hk']; exact hq a1 w1 g1 hs1 hst1 hd1)⟩
  | ret =>
   simp only[Option.some.injEq,Prod.mk.injEq] at h2
   obtain⟨rfl,rfl⟩:=h2
   exact⟨hm1,fun a w g Q hs hq=>wp_block (ih1 a w g _ hs fun a1 w1 g1 hs1 hst1 hd1=>hq a1 w1 g1 hs1 hst1 hd1)⟩
 | .region id ops false=>fun σ e σ' h hm=>by
  simp only[ev] at h
  rw[K0 he.nat] at h
  cases hx:evOps en ops.toList (List.range ops.size) σ some with
  | none=>rw[hx] at h; cases h
  | some s =>
   rw[hx] at h
   simp only[Option.bind_some,Option.some.injEq,Prod.mk.injEq] at h
   obtain⟨rfl,rfl⟩:=h
   refine⟨(Nh (Q:=fun _ _ _=>True) he.toEnvOk _ _ _ hx hm).1,fun a w g Q hs hq=>wp_region ((Nh he.toEnvOk _ _ _ hx hm).2 a w g hs hq)⟩
 | .region id ops true=>fun σ e σ' h hm=>by
  simp only[ev] at h
  split at h
  ·rename_i hh _
   rw[Option.bind_eq_some_iff] at h
   obtain⟨σ0,h0,h⟩:=h
   obtain⟨hm0,hent⟩:=Y6 he h0 hm
   rw[Option.bind_eq_some_iff] at h
   obtain⟨s,h1,h2⟩:=h
   simp only[Option.some.injEq,Prod.mk.injEq] at h2
   obtain⟨rfl,rfl⟩:=h2
   unfold regW at h1
   split at h1
   ·cases h1
   rename_i hsel
   rw[K0 he.nat,Option.bind_eq_some_iff] at h1
   obtain⟨s0,h3,h4⟩:=h1
   rw[Option.bind_eq_some_iff] at h4
   obtain⟨s1,h5,h6⟩:=h4
   rw[Option.bind_eq_some_iff] at h6
   obtain⟨_,h7,h8⟩:=h6
   injection h8 with h8; subst h8
   refine⟨LW h5,fun a w g Q hs hq=>Code.wp_mono (Q:=fun e a w=>match e with | .panic _=>False | e=>Q e a w) (fun e a w h=>by cases e<;>first | exact h | exact h.elim) (wp_region_any he.mixed ?_)⟩
   obtain⟨g1,hs,hst1⟩:=hent hs
   cases hqt:(SH.quiet _) with
   | false =>
    rw[hqt,cond_false] at h7
    exact N6 (Q:=fun e a w=>match e with | .panic _=>False | e=>Q e a w) he (a0:=a) (w0:=w) (g0:=g1) (fun a' w' g' h1 h2 h3=>hq a' w' g' h1 (hst1.trans h2) h3) (by simpa using hsel) (fun c a w h=>h) _ _ σ0 h7 hm0 a _ g1 ⟨hs.heap.drew,hs.len,fun i x hx=>(hs.slots i x hx).step0 (Step.drew [] _ w g1) (Nat.le_refl _)⟩ (Step.drew _ _ w g1) rfl
   | true =>
    rw[hqt,cond_true] at h7
    have hsD:StR w.drew g1 σ0 a:=⟨hs.heap.drew,hs.len,fun i x hx=>(hs.slots i x hx).step0 (Step.drew _ _ _ _) (Nat.le_refl _)⟩
    exact wpAny_of_held _ _ _ _ (OV (Q:=fun e a w=>match e with | .panic _=>False | e=>Q e a w) he (a0:=a) (w0:=w.drew) (g0:=g1) (gS:=g1) (fun a' w' g' h1 h2 h3=>hq a' w' g' h1 ((hst1.trans ((Step.drew [] _ w g1).toC hm0)).trans h2) h3) (by simpa using hsel) (fun c a w h=>h) hsD.heap rfl _ _ σ0 h7 hm0 ⟨[],by simp⟩ a _ g1 hsD (StepC.refl _ _ _) rfl (fun _ _=>rfl) (Nat.le_refl _) (fun _ _=>rfl))
  split at h
  ·rename_i hok
   rw[K4 he.nat] at h
   cases hx:evAny en ops.toList (ancTab ops.toList (orderOf en ops.toList ops.toList.length []) []) (orderOf en ops.toList ops.toList.length []) [] [] σ some with
   | none=>rw[hx] at h; cases h
   | some s =>
    rw[hx] at h
    simp only[Option.bind_some,Option.some.injEq,Prod.mk.injEq] at h
    obtain⟨rfl,rfl⟩:=h
    exact Qf he.toEnvOk he.mixed hok hx hm
  ·cases h
 | .loop body=>Aar he (Kb he body)
 | .goto _=>fun _ _ _ h _=>by simp[ev] at h
 | .label _=>fun _ _ _ h _=>by simp[ev] at h
 | .rangeFunc ..=>fun _ _ _ h _=>by simp[ev] at h
 | .scope _=>fun _ _ _ h _=>by simp[ev] at h
 | .refuse _=>fun _ _ _ h _=>by simp[ev] at h
end
end Go.Va
namespace Go.Va
def resS(tmps:Array Value):ResultVar→Sem Value
 | .tmp t=>pure (tmps.getD t undef)
 | .cell a t=>do loadVar t (←asAddr (tmps.getD a undef))
theorem Ov(fn:Func)(tmps:Array Value):results fn tmps=(do let vs ←fn.results.mapM (resS tmps); pure (if h:vs.size=1 then vs[0] else .tuple vs)):=by
 unfold results
 congr 1
section
variable {P:Program} {en:Env}
theorem Wh (he:EnvOk P en) {σ:St} {w:World} {g:G} {a:Act} (hs:StR w g σ a):∀{rs:List ResultVar} {l:List AV},resA en.tab σ rs=some l →
    ∃vs,(rs.mapM (resS a.tmps)).run P w=.ok vs w∧ArgsR w g σ.blks.length l vs
 | [],l,h=>by
  simp only[resA,Option.some.injEq] at h; subst h
  exact⟨[],rfl,trivial⟩
 | .tmp t::rs,l,h=>by
  simp only[resA] at h
  split at h
  ·rename_i x l' hx hl
   injection h with h; subst h
   obtain⟨vs,hr,hv⟩:=Wh he hs hl
   exact⟨a.tmps.getD t undef::vs,by simp only[List.mapM_cons,resS,Sem.run_bind,Sem.run_pure,Result.andThen_ok,hr],hs.slots t x hx,hv⟩
  ·cases h
 | .cell b t::rs,l,h=>by
  simp only[resA] at h
  split at h
  ·rename_i ti k i p o ht hx
   split at h
   ·rename_i x l' hat hl
    split at h
    ·rename_i hsz
     injection h with h; subst h
     obtain⟨vs,hr,hv⟩:=Wh he hs hl
     obtain⟨hk,h0,h1,bb,hb,hp⟩:=Im (hs.slots b _ hx)
     obtain⟨cs,hcx,hcell⟩:=LM hs.heap hat h1 hb
     obtain⟨v,hv',hsv⟩:=KA (w:=w) (he.t ht) (by rw[hcx.len,hsz.1]) hcell (fun hg=>by rw[hcx.len,hsz.1]; exact Lo hg)
     rw[←hsz.2] at hsv
     refine⟨v::vs,?_,Bg (notTup hcx) hcx hsv,hv⟩
     have:(asAddr (a.tmps.getD b undef)).run P w=.ok ⟨bb,i.toNat*(g.at_ k).esz+o,none⟩ w:=by rw[hp]; rfl
     simp only[List.mapM_cons,resS,Sem.run_bind,Sem.run_pure,Result.andThen_ok,hr,this,hv']
    ·cases h
   ·cases h
  ·cases h
theorem Ox{w:World}{g:G}{n:Nat}:∀{l:List AV} {vs:List Value},ArgsR w g n l vs→AVX w g n true (consAll l) vs
 | [],[],_=>rfl
 | a::l,v::vs,⟨h1,h2⟩=>by
  refine⟨v,vs,rfl,?_,Ox h2⟩
  split
  ·exact .inl rfl
  ·rename_i ht
   exact(AVR.iff (by simpa using ht)).1 h1
 | [],_::_,h=>h.elim
 | _::_,[],h=>h.elim
theorem Aa1{w:World}{g:G}{n:Nat}{l:List AV}{vs:List Value}(h:ArgsR w g n l vs):AVR w g n (resV l) (if h:vs.toArray.size=1 then vs.toArray[0] else .tuple vs.toArray):=by
 match l,vs,h with
 | [],[],_=>rfl
 | [a],[v],h=>exact h.1
 | a::b::l,v::u::vs,h =>
  have:¬(v::u::vs).toArray.size=1:=by simp
  rw[dif_neg this]
  exact⟨_,rfl,Ox h⟩
theorem Nu{w:World}{g:G}{n:Nat}:∀{l:List AV} {vs:List Value},ArgsR w g n l vs→l.length=vs.length
 | [],[],_=>rfl
 | _::_,_::_,h=>by simp[Nu h.2]
 | [],_::_,h=>h.elim
 | _::_,[],h=>h.elim
theorem Mz{w:World}{g:G}{n:Nat}:∀{l:List AV} {vs:List Value} {i:Nat} {x:AV},ArgsR w g n l vs→l[i]?=some x→∃v,vs[i]?=some v∧AVR w g n x v
 | _::_,v::_,0,_,h,hx=>by simp at hx; subst hx; exact⟨v,rfl,h.1⟩
 | _::_,_::_,i+1,_,h,hx=>by
  obtain⟨v,hv,hr⟩:=Mz (i:=i) h.2 (by simpa using hx)
  exact⟨v,by simpa using hv,hr⟩
 | [],[],_,_,_,hx=>by simp at hx
 | [],_::_,_,_,h,_=>h.elim
 | _::_,[],_,_,h,_=>h.elim
theorem Oi{w w':World}{g g':G}{n n':Nat}(st:Step [] n w g w' g')(hn:n≤n'):∀{l:List AV} {vs:List Value},ArgsR w g n l vs→ArgsR w' g' n' l vs
 | [],[],_=>trivial
 | _::_,_::_,h=>⟨h.1.step0 st hn,Oi st hn h.2⟩
 | [],_::_,h=>h.elim
 | _::_,[],h=>h.elim
theorem NK{w:World}{g:G}{n:Nat}{x:AV}:∀{l:List AV} {vs:List Value} {i:Nat} {v:Value},ArgsR w g n l vs→vs[i]?=some v→AVR w g n x v→ArgsR w g n (l.set i x) vs
 | _::_,_::_,0,v,h,hv,hx=>by
  simp at hv; subst hv
  exact⟨hx,h.2⟩
 | _::_,_::_,i+1,v,h,hv,hx=>⟨h.1,NK h.2 (by simpa using hv) hx⟩
 | [],[],_,_,_,hv,_=>by simp at hv
 | [],_::_,_,_,h,_,_=>h.elim
 | _::_,[],_,_,h,_,_=>h.elim
theorem Ta {m:Nat} {w:World}:∀{cs:List (Nat×Co)} {l l':List AV} {bs bs':List Blk} {g:G} {vs:List Value},coRes cs l bs=some (l',bs')→Heap w g bs→ArgsR w g bs.length l vs→m≤bs.length →
    ∃g',Heap w g' bs'∧ArgsR w g' bs'.length l' vs∧StepC m w g w g'
 | [],l,l',bs,bs',g,vs,h,H,hx,hm=>by
  simp only[coRes,Option.some.injEq,Prod.mk.injEq] at h
  obtain⟨rfl,rfl⟩:=h
  exact⟨g,H,hx,StepC.refl _ _ _⟩
 | (i,c)::r,l,l',bs,bs',g,vs,h,H,hx,hm=>by
  simp only[coRes] at h
  split at h
  ·cases h
  ·rename_i v hv
   split at h
   ·rename_i v' nb hco
    obtain⟨u,hu,hr⟩:=Mz hx hv
    obtain⟨g1,H1,hv1,st1⟩:=T9 H hco hr
    obtain⟨g2,H2,hx2,st2⟩:=Ta (m:=m) h H1 (NK (Oi st1 (by simp) hx) hu hv1) (by simp; omega)
    exact⟨g2,H2,hx2,(st1.toC hm).trans st2⟩
   ·cases h
theorem V5 {m:Nat} {w:World}:∀{cs:List (Nat×Ty)} {l l':List AV} {bs bs':List Blk} {g:G} {vs:List Value},frzR m cs l bs=some (l',bs')→Heap w g bs→ArgsR w g bs.length l vs →
    ∃g',Heap w g' bs'∧ArgsR w g' bs'.length l' vs∧StepC m w g w g'∧bs'.length=bs.length
 | [],l,l',bs,bs',g,vs,h,H,hx=>by
  simp only[frzR,Option.some.injEq,Prod.mk.injEq] at h
  obtain⟨rfl,rfl⟩:=h
  exact⟨g,H,hx,StepC.refl _ _ _,rfl⟩
 | (i,t)::r,l,l',bs,bs',g,vs,h,H,hx=>by
  simp only[frzR] at h
  split at h
  ·cases h
  ·rename_i v hv
   split at h
   ·rename_i v' nb hf
    obtain⟨g1,H1,hl,st1,ha,hv1,_,_⟩:=R6 H hf
    obtain⟨u,hu,hr⟩:=Mz hx hv
    have hmap:∀{l:List AV} {vs:List Value},ArgsR w g bs.length l vs→ArgsR w g1 nb.length (l.map AV.noN) vs:=by
     intro l
     induction l with
     | nil=>intro vs h; cases vs with
      | nil=>trivial
      | cons _ _=>exact h.elim
     | cons a l ih=>intro vs h; cases vs with
      | nil=>exact h.elim
      | cons v vs=>exact⟨by rw[hl]; exact ha a v h.1,ih h.2⟩
    obtain⟨g2,H2,hx2,st2,hl2⟩:=V5 (m:=m) h H1 (NK (hmap hx) hu (by rw[hl]; exact hv1 u hr))
    exact⟨g2,H2,hx2,st1.trans st2,hl2.trans hl⟩
   ·cases h
theorem SP {w:World} {g:G} {E:List Blk} {args:List AV} {vs:List Value} (H:Heap w g E) (h:ArgsR w g E.length args vs) {n:Nat} (hn:args.length≤n) :
    StR w g ⟨args++List.replicate (n-args.length) (.un 0),E⟩ {tmps:=vs.toArray++Array.replicate (n-vs.toArray.size) undef,defers:=[]} where
 heap:=H
 len:=by simp[Nu h]
 slots i x hx:=by
  have hl:=Nu h
  rw[List.getElem?_append] at hx
  split at hx
  ·obtain⟨v,hv,hr⟩:=Mz h hx
   have hi:=At hv
   have:(vs.toArray++Array.replicate (n-vs.toArray.size) undef).getD i undef=v:=by
    rw[Array.getD_eq_getD_getElem?,Array.getElem?_append_left (by simpa using hi)]
    simp[hv]
   rw[this]; exact hr
  ·rw[List.getElem?_replicate] at hx
   split at hx
   ·injection hx with hx; subst hx; exact Lt
   ·cases hx
theorem MF{m:Nat}{w:World}{a:Act}:∀{l:List Fi} {σ σ2:St} {g:G},finS m l σ=some σ2→StR w g σ a→m≤σ.blks.length→∃g',StR w g' σ2 a∧StepC m w g w g'∧m≤σ2.blks.length
 | [],σ,σ2,g,h,hs,hm=>by
  simp only[finS,Option.some.injEq] at h; subst h
  exact⟨g,hs,StepC.refl _ _ _,hm⟩
 | .co k c::r,σ,σ2,g,h,hs,hm=>by
  simp only[finS] at h
  split at h
  ·rename_i bs hb
   obtain⟨g1,H1,st⟩:=Zh hs.heap hb
   have hl:=Pg hb
   obtain⟨g2,h2,st2,hm2⟩:=MF (σ:=⟨σ.slots,bs⟩) h ⟨H1,hs.len,fun i x hx=>(hs.slots i x hx).step0 st hl⟩ (Nat.le_trans hm hl)
   exact⟨g2,h2,(st.toC hm).trans st2,hm2⟩
  ·cases h
 | .dead j::r,σ,σ2,g,h,hs,hm=>by
  simp only[finS] at h
  refine MF (σ:=⟨σ.slots,σ.blks.set j .dead⟩) h ⟨⟨hs.heap.fresh,fun k x hx=>?_⟩,hs.len,fun i x hx=>by rw[List.length_set]; exact hs.slots i x hx⟩ (by rw[List.length_set]; exact hm)
  rw[List.length_set]
  rw[List.getElem?_set] at hx
  split at hx
  ·split at hx
   ·injection hx with hx; subst hx; trivial
   ·cases hx
  ·exact hs.heap.blk k x hx
 | .mvs s p::r,σ,σ2,g,h,hs,hm=>by
  simp only[finS] at h
  split at h
  ·rename_i σ1 h1
   unfold mvP at h1
   split at h1
   ·obtain⟨g1,hs1,st1,hm1⟩:=Ur h1 hs hm
    obtain⟨g2,hs2,st2,hm2⟩:=MF h hs1 hm1
    exact⟨g2,hs2,st1.trans st2,hm2⟩
   ·rename_i a0 hs0
    obtain⟨g1,hs1,st1,hm1⟩:=Y4 hs0 h1 hs hm
    obtain⟨g2,hs2,st2,hm2⟩:=MF h hs1 hm1
    exact⟨g2,hs2,st1.trans st2,hm2⟩
   ·cases h1
  ·cases h
 | .mv k p::r,σ,σ2,g,h,hs,hm=>by
  simp only[finS] at h
  split at h
  ·rename_i σ1 h1
   obtain⟨g1,hs1,st1,hm1⟩:=Ur h1 hs hm
   obtain⟨g2,hs2,st2,hm2⟩:=MF h hs1 hm1
   exact⟨g2,hs2,st1.trans st2,hm2⟩
  ·cases h
theorem MP (he:ProgOk P en) {f:FuncId} {fn:Func} (hf:P.funcs[f]?=some fn) {args:List AV} {E:List Blk} {av:AV} {E':List Blk} (h:runF en fn (AV×List Blk) args E (fun v b=>some (v,b))=some (av,E')) :
    E.length≤E'.length∧∀(w:World) (g:G) (vs:List Value),Heap w g E→ArgsR w g E.length args vs→Calls P f vs.toArray w fun e w'=>∃v g',e=.returned v∧Heap w' g' E'∧AVR w' g' E'.length av v∧StepC E.length w g w' g':=by
 unfold runF at h
 split at h
 ·cases h
 ·rename_i c hc
  split at h
  ·rename_i hl
   obtain⟨e,σ',h1,h2⟩:=LR he.nat h
   obtain⟨hm,hwp⟩:=Kb he c _ e σ' h1 (Nat.le_refl _)
   have key:∀(σ2:St) (l l0:List AV) (bs0:List Blk) (l':List AV) (bs':List Blk),finS E.length en.fi.fin σ'=some σ2→resA en.tab σ2 fn.results.toList=some l→frzR E.length en.fi.frz l σ2.blks=some (l0,bs0)→coRes en.fi.res l0 bs0=some (l',bs')→leave E.length bs' (resV l')=some (av,E')→(exOf e=.normal∨exOf e=.ret) →
       E.length≤E'.length∧∀(w:World) (g:G) (vs:List Value),Heap w g E→ArgsR w g E.length args vs→Calls P f vs.toArray w fun e w'=>∃v g',e=.returned v∧Heap w' g' E'∧AVR w' g' E'.length av v∧StepC E.length w g w' g':=by
    intro σ2 l l0 bs0 l' bs' hfin hres hfr hco hlv hex
    unfold leave at hlv
    dsimp only at hlv
    split at hlv
    ·rename_i hp
     simp only[Option.some.injEq,Prod.mk.injEq] at hlv
     obtain⟨hav,hE⟩:=hlv
     have hmn:=(ZQ (K1 hp).1).1
     have hEl:E'.length=(reach bs' bs'.length (insN (List.range E.length) (resV l').ids)).length:=by rw[←hE,List.length_map]
     refine⟨by rw[hEl]; exact hmn,fun w g vs H hx=>?_⟩
     refine calls_of_wp hf hc ?_
     refine hwp _ w g _ (SP H hx hl) fun a' w' g0 hs0 hst0 hd=>?_
     obtain⟨g',hs',hst',hm2⟩:=MF hfin hs0 hm
     have hst:=hst0.trans hst'
     obtain⟨vs',hr,hv⟩:=Wh he.toEnvOk hs' hres
     obtain⟨g1,H1,hv1,st1,hl1⟩:=V5 hfr hs'.heap hv
     obtain⟨g2,H2,hv2,st2⟩:=Ta hco H1 hv1 (by rw[hl1]; exact hm2)
     have hpost:∃u,(results fn a'.tmps).run P w'=.ok u w'∧∃v' g'',Ending.returned u=Ending.returned v'∧Heap w' g'' E'∧AVR w' g'' E'.length av v'∧StepC E.length w g w' g'':=by
      refine⟨if h:vs'.toArray.size=1 then vs'.toArray[0] else .tuple vs'.toArray,?_,_,g2.pick _,rfl,by rw[←hE]; exact PG H2 hp,?_,((hst.trans st1).trans st2).trans (QM hp).1⟩
      ·rw[Ov,Array.mapM_eq_mapM_toList]
       simp only[Sem.run_bind,Sem.run_map,hr]
       rfl
      ·rw[hEl,←hav]
       exact((Aa1 hv2).ren (fun b h=>Nc h) fun k hk=>Nr ((K1 hp).2.2.1 k hk)).canon
     obtain⟨u,hv1,hv2⟩:=hpost
     rcases hex with h | h<;>rw[h]<;>exact⟨hd,u,hv1,hv2⟩
    ·cases hlv
   have split3:(match finS E.length en.fi.fin σ' with
         | none=>none
         | some σ=>match resA en.tab σ fn.results.toList with
          | some l=>match frzR E.length en.fi.frz l σ.blks with
           | some (l,bs)=>match coRes en.fi.res l bs with
            | some (l',bs')=>match leave E.length bs' (resV l') with
             | some (v,bs)=>some (v,bs)
             | none=>none
            | none=>none
           | none=>none
          | none=>none)=some (av,E')→(exOf e=.normal∨exOf e=.ret)→E.length≤E'.length∧∀(w:World) (g:G) (vs:List Value),Heap w g E→ArgsR w g E.length args vs→Calls P f vs.toArray w fun e w'=>∃v g',e=.returned v∧Heap w' g' E'∧AVR w' g' E'.length av v∧StepC E.length w g w' g':=by
    intro h hex
    split at h
    ·cases h
    ·rename_i σ2 hfin
     split at h
     ·rename_i l hres
      split at h
      ·rename_i l0 bs0 hfr
       split at h
       ·rename_i l' bs' hco
        split at h
        ·rename_i v bs hlv
         simp only[Option.some.injEq,Prod.mk.injEq] at h
         obtain⟨rfl,rfl⟩:=h
         exact key σ2 l l0 bs0 l' bs' hfin hres hfr hco hlv hex
        ·cases h
       ·cases h
      ·cases h
     ·cases h
   cases e with
   | exit n=>cases h2
   | normal=>exact split3 h2 (.inl rfl)
   | ret=>exact split3 h2 (.inr rfl)
  ·cases h
theorem SoundC.of (he:ProgOk P en) {f:FuncId} {fn:Func} (hf:P.funcs[f]?=some fn) (hn:(fn.name=="runtime.NumGoroutine")=false) (hb:fn.body.isNone=false) {c:Callee} (hc:CNat c)
    (h:∀args E av E',c.run (AV×List Blk) args E (fun v b=>some (v,b))=some (av,E')→runF en fn (AV×List Blk) args E (fun v b=>some (v,b))=some (av,E')):SoundC P f c where
 nat:=hc
 snd args E av E' hr:=by
  obtain⟨h1,h2⟩:=MP he hf (h args E av E' hr)
  refine⟨h1,fun w g vs H hx o a next Q hn'=>?_⟩
  have:(callFunc f vs.toArray).run P w=.ok (.enter f vs.toArray) w:=by
   have hn1:¬fn.name="runtime.NumGoroutine":=by simpa using hn
   have hb1:¬fn.body=none:=by
    intro e; rw[e] at hb; cases hb
   simp[callFunc,hf,hn1,hb1]
  rw[this,Oper.upon_enter]
  refine(h2 w g vs H hx).mono fun e w' ⟨v,g',e1,hH,hv,hst⟩=>?_
  subst e1
  exact hn' v w' g' hH hv hst
theorem SoundC.of2 {f:FuncId} {fn:Func} (hf:P.funcs[f]?=some fn) (hn:(fn.name=="runtime.NumGoroutine")=false) (hb:fn.body.isNone=false) {c:Callee} (hc:CNat c)
    (h:∀args E av E',c.run (AV×List Blk) args E (fun v b=>some (v,b))=some (av,E')→∃en,ProgOk P en∧runF en fn (AV×List Blk) args E (fun v b=>some (v,b))=some (av,E')):SoundC P f c where
 nat:=hc
 snd args E av E' hr:=by
  obtain⟨en,he,h0⟩:=h args E av E' hr
  obtain⟨h1,h2⟩:=MP he hf h0
  refine⟨h1,fun w g vs H hx o a next Q hn'=>?_⟩
  have:(callFunc f vs.toArray).run P w=.ok (.enter f vs.toArray) w:=by
   have hn1:¬fn.name="runtime.NumGoroutine":=by simpa using hn
   have hb1:¬fn.body=none:=by
    intro e; rw[e] at hb; cases hb
   simp[callFunc,hf,hn1,hb1]
  rw[this,Oper.upon_enter]
  refine(h2 w g vs H hx).mono fun e w' ⟨v,g',e1,hH,hv,hst⟩=>?_
  subst e1
  exact hn' v w' g' hH hv hst
end
end Go.Va
namespace Go.Va
def tyM(P:Program):Ty→TypeId→Bool
 | .int k,t=>match P.underlying t with | some (.int k')=>k==k' | _=>false
 | .bool,t=>match P.underlying t with | some .bool=>true | _=>false
 | .str,t=>match P.underlying t with | some .string=>true | _=>false
 | .sl u,t=>match P.underlying t with | some (.slice e)=>P.cellsOf e==u.size&&u.size !=0&&tyM P u e | _=>false
 | .pair a b,t=>match P.underlying t with
  | some (.struct fs)=>P.cellsOf t==a.size+b.size&&(match fs.toList with | f::r=>f.offset==0&&P.cellsOf f.type==a.size&&tyM P a f.type&&tyFs P b a.size r | []=>false)
  | _=>false
 | _,_=>false
where tyFs (P:Program):Ty→Nat→List Field→Bool
 | .pair a b,o,f::r=>f.offset==o&&P.cellsOf f.type==a.size&&tyM P a f.type&&tyFs P b (o+a.size) r
 | .unit,_,[]=>true
 | _,_,_=>false
def Ty.Wf:(t:Ty)→t.V→Prop
 | .int k,n=>k.min≤n∧n≤k.max
 | .str,s=>s.size≤maxLen
 | .pair a b,x=>a.Wf x.1∧b.Wf x.2
 | .sl t,xs=>xs.length≤maxLen∧∀x∈xs,t.Wf x
 | _,_=>True
section
variable {P:Program} {H:Type} {enc:TypeId×Value→H} {w:World} {base:Nat} {sp:Nat→Bool} {held:Bool}
def Here(w:World)(b:Nat):Prop:=b<w.heap.size
theorem KO{α β:Type}{f:α→Option β}{x:α}{l:List α}{r:List β}(h:(x::l).mapM f=some r):∃y ys,f x=some y∧l.mapM f=some ys∧r=y::ys:=by
 simp only[List.mapM_cons,Option.bind_eq_bind,Option.pure_def] at h
 cases hx:f x with
 | none=>simp[hx] at h
 | some y =>
  cases hl:l.mapM f with
  | none=>simp[hx,hl] at h
  | some ys=>simp[hx,hl] at h; exact⟨y,ys,rfl,rfl,h.symm⟩
theorem QP(a:Addr)(k:Nat):(a.add k).block=a.block∧(a.add k).off=a.off+k:=by
 unfold Addr.add
 split
 ·rename_i h; subst h; exact⟨rfl,rfl⟩
 ·exact⟨rfl,rfl⟩
theorem Tf{a:Addr}{k:Nat}{v:Value}(h:w.cell? (a.add k)=some v):w.cell? ⟨a.block,a.off+k,none⟩=some v:=by
 unfold Addr.add at h
 split at h
 ·rename_i hk
  subst hk
  cases a with
  | mk b o sp =>
   cases sp with
   | none=>exact h
   | some q =>
    simp only[World.cell?,Option.isSome_some,if_true] at h
    split at h<;>cases h
 ·exact h
theorem Su {u:Ty} {s:Nat} (hs:s=u.size) {a:Addr} {F:List Value→Option (DataW H×List MemPlace)} (ih:∀cs y,F cs=some y→∃x:u.V,RdR w (Here w) u x cs∧u.Wf x) :
    ∀(n i:Nat) (ys:List (DataW H×List MemPlace)),(List.range' i n).mapM (fun i=>(w.cells? base (a.add (i*s)) s).bind F)=some ys →
     ∃(xs:List u.V) (ds:List Value),xs.length=n∧ListR (RdR w (Here w) u) xs ds∧(∀x∈xs,u.Wf x)∧∀j v,ds[j]?=some v→w.cell? ⟨a.block,a.off+i*s+j,none⟩=some v
 | 0,i,ys,_=>⟨[],[],rfl,rfl,fun _ h=>by(cases h),fun j v h=>by simp at h⟩
 | n+1,i,ys,h=>by
  rw[List.range'_succ] at h
  obtain⟨y,ys',h1,h2,_⟩:=KO h
  obtain⟨c,hc,hF⟩:=Option.bind_eq_some_iff.1 h1
  obtain⟨x,hx,hw⟩:=ih c y hF
  obtain⟨_,hcl,hcell⟩:=World.cells?_some hc
  obtain⟨xs,ds,hl,hr,hwf,hd⟩:=Su hs ih n (i+1) ys' h2
  refine⟨x::xs,c++ds,by simp[hl],⟨c,ds,rfl,hx,hr⟩,fun z hz=>by
   rcases List.mem_cons.1 hz with rfl | hz
   ·exact hw
   ·exact hwf z hz,fun j v hj=>?_⟩
  rw[List.getElem?_append] at hj
  split at hj
  ·rename_i hlt
   rw[←hcell j (by omega)] at hj
   have:=Tf hj
   rw[(QP _ _).1,(QP _ _).2] at this
   exact this
  ·rename_i hge
   have:=hd _ v hj
   have h3:(i+1)*s=i*s+s:=by rw[Nat.add_mul,Nat.one_mul]
   rw[show a.off+(i+1)*s+(j-c.length)=a.off+i*s+j by omega] at this
   exact this
theorem Aal:∀(ty:Ty),(∀(t:TypeId) (fuel:Nat) (cs:List Value) (y:DataW H×List MemPlace),tyM P ty t=true→DataW.trod enc P w base sp held fuel t cs=some y→∃x:ty.V,RdR w (Here w) ty x cs∧ty.Wf x) ∧
    ∀(o fuel:Nat) (fs:List Field) (cs:List Value) (ys:List (DataW H×List MemPlace)),tyM.tyFs P ty o fs=true→fs.mapM (fun f=>DataW.trod enc P w base sp held fuel f.type ((cs.drop f.offset).take (P.cellsOf f.type)))=some ys→cs.length=o+ty.size →
     ∃x:ty.V,RdR w (Here w) ty x (cs.drop o)∧ty.Wf x:=by
 intro ty
 induction ty with
 | int k =>
  refine⟨fun t fuel cs y hm h=>?_,fun o fuel fs cs ys hm=>by simp[tyM.tyFs] at hm⟩
  simp only[tyM] at hm
  split at hm
  ·rename_i k' hu
   have:k=k':=by simpa using hm
   subst this
   cases fuel with
   | zero=>simp[DataW.trod] at h
   | succ n =>
    simp only[DataW.trod,hu] at h
    split at h<;>try (rename_i he; cases he; done)
    all_goals try (cases h; done)
    all_goals try (rename_i he _; cases he; done)
    rename_i k1 k2 n2 he
    injection he with he
    injection he with he
    subst he
    split at h
    ·rename_i hc
     obtain⟨hk,hwf⟩:=hc
     subst hk
     simp only[Lit.wf,Bool.and_eq_true,decide_eq_true_eq] at hwf
     exact⟨n2,rfl,hwf⟩
    ·cases h
  ·cases hm
 | bool =>
  refine⟨fun t fuel cs y hm h=>?_,fun o fuel fs cs ys hm=>by simp[tyM.tyFs] at hm⟩
  simp only[tyM] at hm
  split at hm
  ·rename_i hu
   cases fuel with
   | zero=>simp[DataW.trod] at h
   | succ n =>
    simp only[DataW.trod,hu] at h
    split at h<;>try (rename_i he; cases he; done)
    all_goals try (cases h; done)
    all_goals try (rename_i he _; cases he; done)
    rename_i b he
    exact⟨b,rfl,trivial⟩
  ·cases hm
 | str =>
  refine⟨fun t fuel cs y hm h=>?_,fun o fuel fs cs ys hm=>by simp[tyM.tyFs] at hm⟩
  simp only[tyM] at hm
  split at hm
  ·rename_i hu
   cases fuel with
   | zero=>simp[DataW.trod] at h
   | succ n =>
    simp only[DataW.trod,hu] at h
    split at h<;>try (rename_i he; cases he; done)
    all_goals try (cases h; done)
    all_goals try (rename_i he _; cases he; done)
    rename_i s he
    split at h
    ·rename_i hc; exact⟨s,rfl,hc⟩
    ·cases h
  ·cases hm
 | unit =>
  refine⟨fun t fuel cs y hm=>by simp[tyM] at hm,fun o fuel fs cs ys hm h hl=>?_⟩
  refine⟨(),?_,trivial⟩
  show cs.drop o=[]
  rw[List.drop_eq_nil_iff]
  simp only[Ty.size] at hl
  omega
 | opq z=>exact⟨fun t fuel cs y hm=>by simp[tyM] at hm,fun o fuel fs cs ys hm=>by simp[tyM.tyFs] at hm⟩
 | sl u ih =>
  refine⟨fun t fuel cs y hm h=>?_,fun o fuel fs cs ys hm=>by simp[tyM.tyFs] at hm⟩
  simp only[tyM] at hm
  split at hm
  ·rename_i e hu
   simp only[Bool.and_eq_true,beq_iff_eq,bne_iff_ne] at hm
   obtain⟨⟨hsz,hpos⟩,hm⟩:=hm
   cases fuel with
   | zero=>simp[DataW.trod] at h
   | succ n =>
    simp only[DataW.trod,hu] at h
    split at h<;>try (rename_i he; cases he; done)
    all_goals try (cases h; done)
    all_goals try (rename_i he _; cases he; done)
    all_goals try (rename_i he _ _; cases he; done)
    ·exact⟨[],⟨none,0,[],rfl,Nat.le_refl _,rfl,.inl rfl⟩,Nat.zero_le _,fun x hx=>by(cases hx)⟩
    ·rename_i e' a len cap he
     injection he with he
     injection he with he
     subst he
     split at h
     ·rename_i hc
      obtain⟨elems,hel,_⟩:=Option.bind_eq_some_iff.1 h
      rw[List.range_eq_range'] at hel
      obtain⟨xs,ds,hxl,hr,hwf,hd⟩:=Su (u:=u) hsz (fun cs y hy=>ih.1 e n cs y hm hy) len 0 elems hel
      subst hxl
      refine⟨xs,⟨some a,cap,ds,rfl,hc.2.1,hr,?_⟩,Nat.le_trans hc.2.1 hc.2.2,hwf⟩
      cases xs with
      | nil=>exact .inl rfl
      | cons x xs =>
       refine .inr ?_
       rw[List.length_cons,List.range'_succ] at hel
       obtain⟨y1,_,h1,_,_⟩:=KO hel
       obtain⟨c,hc1,_⟩:=Option.bind_eq_some_iff.1 h1
       obtain⟨_,hcl,hcell⟩:=World.cells?_some hc1
       have hc0:=hcell 0 (by omega)
       have hsp:a.spot=none∧Here w a.block:=by
        have hcv:∃v,c[0]?=some v:=⟨_,List.getElem?_eq_getElem (by omega)⟩
        obtain⟨v,hv⟩:=hcv
        rw[hv] at hc0
        have hc0:w.cell? a=some v:=by simpa [Addr.add] using hc0
        refine⟨?_,World.block_lt_of_cell? w a hc0⟩
        cases hsp:a.spot with
        | none=>rfl
        | some q =>
         unfold World.cell? at hc0
         rw[hsp] at hc0
         split at hc0
         ·simp at hc0
         ·cases hc0
       refine⟨a.block,a.off,?_,hsp.2,fun j v hj=>by simpa using hd j v hj⟩
       cases a with
       | mk b o sp=>simp only at hsp; rw[hsp.1]
     ·cases h
  ·cases hm
 | pair a b iha ihb =>
  have main:∀(o fuel:Nat) (f:Field) (r:List Field) (cs:List Value) (ys:List (DataW H×List MemPlace)),f.offset=o→P.cellsOf f.type=a.size→tyM P a f.type=true→tyM.tyFs P b (o+a.size) r=true →
      (f::r).mapM (fun f=>DataW.trod enc P w base sp held fuel f.type ((cs.drop f.offset).take (P.cellsOf f.type)))=some ys→cs.length=o+(a.size+b.size)→∃x:(Ty.pair a b).V,RdR w (Here w) (.pair a b) x (cs.drop o)∧(Ty.pair a b).Wf x:=by
   intro o fuel f r cs ys ho hsz hma hmb h hl
   obtain⟨y,ys',h1,h2,_⟩:=KO h
   rw[ho,hsz] at h1
   obtain⟨xa,hra,hwa⟩:=iha.1 f.type fuel _ y hma h1
   obtain⟨xb,hrb,hwb⟩:=ihb.2 (o+a.size) fuel r cs ys' hmb h2 (by omega)
   refine⟨(xa,xb),⟨_,_,?_,hra,hrb⟩,hwa,hwb⟩
   rw[←List.drop_drop]
   exact(List.take_append_drop a.size (cs.drop o)).symm
  refine⟨fun t fuel cs y hm h=>?_,fun o fuel fs cs ys hm h hl=>?_⟩
  ·simp only[tyM] at hm
   split at hm
   ·rename_i fs hu
    rw[Bool.and_eq_true] at hm
    obtain⟨hsz,hm⟩:=hm
    have hsz:P.cellsOf t=a.size+b.size:=by simpa using hsz
    split at hm
    ·rename_i f r hfs
     simp only[Bool.and_eq_true,beq_iff_eq] at hm
     obtain⟨⟨⟨h1,h2⟩,h3⟩,h4⟩:=hm
     cases fuel with
     | zero=>simp[DataW.trod] at h
     | succ n =>
      have hst:(if cs.length=P.cellsOf t then(fs.toList.mapM fun f=>DataW.trod enc P w base sp held n f.type ((cs.drop f.offset).take (P.cellsOf f.type))).map fun xs=>((.agg (xs.map (·.1)):DataW H),xs.flatMap (·.2)) else none)=some y:=by
       simp only[DataW.trod,hu] at h
       exact h
      split at hst
      ·rename_i hcl
       cases hq:fs.toList.mapM fun f=>DataW.trod enc P w base sp held n f.type ((cs.drop f.offset).take (P.cellsOf f.type)) with
       | none=>rw[hq] at hst; cases hst
       | some ys =>
        rw[hfs] at hq
        have:=main 0 n f r cs ys h1 h2 h3 (by rw[Nat.zero_add]; exact h4) hq (by omega)
        simpa using this
      ·cases hst
    ·cases hm
   ·cases hm
  ·cases fs with
   | nil=>simp[tyM.tyFs] at hm
   | cons f r =>
    simp only[tyM.tyFs,Bool.and_eq_true,beq_iff_eq] at hm
    obtain⟨⟨⟨h1,h2⟩,h3⟩,h4⟩:=hm
    exact main o fuel f r cs ys h1 h2 h3 h4 h hl
end
def TArgs:List Ty→Type
 | []=>Unit
 | t::ts=>t.V×TArgs ts
def TArgs.av:(ts:List Ty)→TArgs ts→List AV
 | [],_=>[]
 | t::ts,x=>.dat [] t x.1::TArgs.av ts x.2
def TArgs.Wf:(ts:List Ty)→TArgs ts→Prop
 | [],_=>True
 | t::ts,x=>t.Wf x.1∧TArgs.Wf ts x.2
def G.old(w:World):G:=⟨fun b=>if b<w.heap.size then .imm else .no,fun _=>⟨none,0,0,0⟩⟩
section
variable {P:Program} {H:Type} {enc:TypeId×Value→H} {w:World} {base:Nat} {sp:Nat→Bool} {held:Bool}
theorem Aag{ty:Ty}{t:TypeId}{v:Value}{x:ty.V}(hm:tyM P ty t=true)(hf:v.formed P t=true)(hr:RdR w (Here w) ty x v.cells.toList):asVal ty.isAgg v.cells.toList v:=by
 cases ty with
 | pair a b =>
  simp only[tyM] at hm
  split at hm
  ·rename_i fs hu
   unfold Value.formed at hf
   split at hf
   ·rename_i cs; simp[asVal,Ty.isAgg,Value.cells]
   ·cases hf
   ·rw[hu] at hf; cases hf
  ·cases hm
 | int k =>
  simp only[tyM] at hm
  split at hm
  ·rename_i k' hu
   have hr':v.cells.toList=[.int k x]:=hr
   cases v<;>simp_all [asVal,Ty.isAgg,Value.cells,Value.formed]
  ·cases hm
 | bool =>
  simp only[tyM] at hm
  split at hm
  ·rename_i hu
   cases v<;>simp_all [asVal,Ty.isAgg,Value.cells,Value.formed]
  ·cases hm
 | str =>
  simp only[tyM] at hm
  split at hm
  ·rename_i hu
   cases v<;>simp_all [asVal,Ty.isAgg,Value.cells,Value.formed]
  ·cases hm
 | sl u =>
  simp only[tyM] at hm
  split at hm
  ·rename_i e hu
   cases v<;>simp_all [asVal,Ty.isAgg,Value.cells,Value.formed]
  ·cases hm
 | unit=>simp[tyM] at hm
 | opq z=>simp[tyM] at hm
end
section
variable {P:Program} {H:Type} {enc:TypeId×Value→H}
open Go.ChangeShapes Go.WideShapes Go.ChangeAt Go.RowKit
theorem Mp{w w':World}{base:Nat}{sp:Nat→Bool}{held:Bool}:∀{ts:List TypeId} {vs:List Value} {ds:List (DataW H)} {ps:List MemPlace},DataW.TrodAll enc P w base sp held ts vs ds ps→(∀p∈ps,w.sameAt w' p)→DataW.TrodAll enc P w' base sp held ts vs ds ps
 | [],[],[],_,h,_=>h
 | _::_,_::_,_::_,_,⟨p,q,⟨n,h1⟩,h2,e⟩,hs=>⟨p,q,⟨n,DataW.trod_carry n _ _ _ h1 fun x hx=>hs x (by rw[e]; exact List.mem_append_left _ hx)⟩,Mp h2 (fun x hx=>hs x (by rw[e]; exact List.mem_append_right _ hx)),e⟩
theorem Yd {f:Func} {s:ChangeSpec} {fresh handsOn:Bool} {W W':World} {args:Array Value} {ds gs:List (DataW H)} {before:List MemPlace} (hW:DataW.Whole enc P f.params.toList s.vars false W args.toList ds gs before) (hv:s.vars=[])
    (hspec:gs=[]→s.fn H (ds++gs)={results:=[.lit (.bool true)],args:=ds}) {tb:TypeId} (hrt:f.resultTypes=#[tb]) (hub:P.underlying tb=some .bool) (hold:∀b,b<W.heap.size→W'.heap[b]?=W.heap[b]?) (hos:W'.os=W.os) (hout:W'.output=W.output)
    (K:Kids P (·<P.types.size)) (hz:∀t e,t<P.types.size→P.underlying t=some (.slice e)→0<P.cellsOf e) (ht:∀t∈f.params.toList,t<P.types.size):s.post enc P f false fresh handsOn false W args (.bool true) W':=by
 have hlt:=hW.lt
 obtain⟨p,q,hA,hV,hpq,hfz,hnd⟩:=id hW
 rw[hv] at hV
 obtain⟨rfl,rfl⟩:=trodVars_none hV
 have hsp:=hspec rfl
 rw[List.append_nil] at hpq hsp
 subst hpq
 have same:∀x∈before,W.sameAt W' x:=fun x hx=>by
  have hb:=hold x.block (hlt x hx)
  cases x with
  | cell b off=>simp only[World.sameAt,World.cell?]; simp only[MemPlace.block] at hb; rw[hb]
  | map b=>exact hb
 have hA':=Mp hA same
 have hre:∀sp:Nat→Bool,(∀x∈before,sp x.block=true)→DataW.TrodAll enc P W' 0 sp true f.params.toList args.toList ds before:=fun sp hs=>hA'.respare K hz ht hs
 have hres:∀(b:Nat) (sp:Nat→Bool) (hd:Bool),DataW.TrodAll enc P W' b sp hd f.resultTypes.toList ((Value.bool true).resultList f.resultTypes.size) [.lit (.bool true)] []:=fun b sp hd=>by
  rw[hrt]
  exact trodAll_cons_mk (shut_bool hub _) trodAll_mk0
 have hold':∀x∈before,(fun b=>decide (b<W.heap.size)) x.block=true:=fun x hx=>by simpa using hlt x hx
 refine⟨ds,[],before,[],before,[],hW,?_,?_,?_,⟨hos,hout,fun i hi=>?_⟩,fun h=>by cases h⟩
 ·rw[List.append_nil,hsp]; exact hres _ _ _
 ·rw[List.append_nil,hsp]; exact hre _ hold'
 ·rw[hv]; rw[List.append_nil,hsp]; rfl
 ·rw[hold i hi]
  cases hq:W.heap[i]? with
  | none=>rfl
  | some o=>cases o<;>first | exact⟨rfl,rfl,rfl,fun _ _=>rfl⟩| exact .inr ⟨rfl,rfl⟩| rfl
def tysM(P:Program):List Ty→List TypeId→Bool
 | [],[]=>true
 | ty::tys,t::ts=>tyM P ty t&&tysM P tys ts
 | _,_=>false
theorem PC {w:World} {base:Nat} {sp:Nat→Bool} {held:Bool}:∀{tys:List Ty} {ts:List TypeId} {vs:List Value} {ds:List (DataW H)} {ps:List MemPlace},tysM P tys ts=true→DataW.TrodAll enc P w base sp held ts vs ds ps →
    (∀(j:Nat) t v,ts[j]?=some t→vs[j]?=some v→v.formed P t=true)→∃xs:TArgs tys,TArgs.Wf tys xs∧ArgsR w (G.old w) 0 (TArgs.av tys xs) vs
 | [],[],[],[],_,_,_,_=>⟨(),trivial,trivial⟩
 | ty::tys,t::ts,v::vs,d::ds,_,hm,⟨p,q,⟨n,h1⟩,h2,_⟩,hf=>by
  simp only[tysM,Bool.and_eq_true] at hm
  obtain⟨x,hr,hw⟩:=(Aal ty).1 t n _ _ hm.1 h1
  obtain⟨xs,hws,ha⟩:=PC hm.2 h2 fun j t v h3 h4=>hf (j+1) t v (by simpa using h3) (by simpa using h4)
  refine⟨(x,xs),⟨hw,hws⟩,Bg rfl (cs:=v.cells.toList) ⟨fun k hk=>by(cases hk),hr.mono fun b hb=>⟨.inl ?_,rfl⟩⟩ (Aag hm.1 (hf 0 t v rfl rfl) hr),ha⟩
  have hb:b<w.heap.size:=hb
  simp[G.old,hb]
 | [],_::_,_,_,_,hm,_,_=>by simp[tysM] at hm
 | _::_,[],_,_,_,hm,_,_=>by simp[tysM] at hm
 | [],[],_::_,_,_,_,h,_=>by simp[DataW.TrodAll] at h
 | [],[],[],_::_,_,_,h,_=>by simp[DataW.TrodAll] at h
 | _::_,_::_,[],_,_,_,h,_=>by simp[DataW.TrodAll] at h
 | _::_,_::_,_::_,[],_,_,h,_=>by simp[DataW.TrodAll] at h
theorem Ya(w:World):Heap w (G.old w) []:=⟨fun b hb=>by simp[G.old]; omega,fun k x hx=>by simp at hx⟩
theorem Us {en:Env} (he:ProgOk P en) {f:FuncId} {fn:Func} (hf:P.funcs[f]?=some fn) {av:List AV} {w:World} {vs:List Value} (hrun:runF en fn (AV×List Blk) av [] (fun v b=>some (v,b))=some (.bool true,[])) (ha:ArgsR w (G.old w) 0 av vs) :
    Calls P f vs.toArray w fun e w'=>e=.returned (.bool true)∧(∀b,b<w.heap.size→w'.heap[b]?=w.heap[b]?)∧w'.os=w.os∧w'.output=w.output:=by
 refine((MP he hf hrun).2 w (G.old w) vs (Ya w) ha).mono fun e w' ⟨v,g',e1,_,hv,st⟩=>?_
 have:=Ks hv
 subst this
 exact⟨e1,fun b hb=>(st.imm b (by simp[G.old,hb])).2,st.os,st.output⟩
theorem Rl{ty:Ty}{t:TypeId}{v:Value}{w:World}{r:Reach}{base:Nat}(hm:tyM P ty t=true)(h:Value.okWide P w r base t v):v.formed P t=true:=by
 unfold Value.okWide at h
 cases ty with
 | pair a b =>
  simp only[tyM] at hm
  split at hm
  ·rename_i fs hu
   rw[hu] at h
   obtain⟨cs,rfl,hs,_⟩:=h
   simp[Value.formed,hu,hs]
  ·cases hm
 | int k =>
  simp only[tyM] at hm
  split at hm
  ·rename_i k' hu
   rw[hu] at h
   cases v<;>simp_all [Value.formed,Cell.okWide,Cell.ok]
  ·cases hm
 | bool =>
  simp only[tyM] at hm
  split at hm
  ·rename_i hu
   rw[hu] at h
   cases v<;>simp_all [Value.formed,Cell.okWide,Cell.ok]
  ·cases hm
 | str =>
  simp only[tyM] at hm
  split at hm
  ·rename_i hu
   rw[hu] at h
   cases v<;>simp_all [Value.formed,Cell.okWide,Cell.ok]
  ·cases hm
 | sl u =>
  simp only[tyM] at hm
  split at hm
  ·rename_i e hu
   rw[hu] at h
   cases v<;>simp_all [Value.formed,Cell.okWide,Cell.ok]
  ·cases hm
 | unit=>simp[tyM] at hm
 | opq z=>simp[tyM] at hm
theorem law_contract {en:Env} (he:ProgOk P en) {f:FuncId} {fn:Func} (hf:P.funcs[f]?=some fn) {tys:List Ty} (hm:tysM P tys fn.params.toList=true) {s:ChangeSpec} (hv:s.vars=[]) {tb:TypeId} (hrt:fn.resultTypes=#[tb]) (hub:P.underlying tb=some .bool)
    (K:Kids P (·<P.types.size)) (hz:∀t e,t<P.types.size→P.underlying t=some (.slice e)→0<P.cellsOf e) (ht:∀t∈fn.params.toList,t<P.types.size)
    {W:World} {base:Nat} {args:Array Value} {ds gs:List (DataW H)} {before:List MemPlace} (hspec:gs=[]→s.fn H (ds++gs)={results:=[.lit (.bool true)],args:=ds})
    (hval:∀(j:Nat) t v,fn.params[j]?=some t→args[j]?=some v→Value.okWide P W .any base t v) (hW:DataW.Whole enc P fn.params.toList s.vars false W args.toList ds gs before)
    (hrun:∀xs:TArgs tys,TArgs.Wf tys xs→runF en fn (AV×List Blk) (TArgs.av tys xs) [] (fun v b=>some (v,b))=some (.bool true,[])) {fresh handsOn:Bool} :
    Calls P f args W fun e W'=>∃v,e=.returned v∧s.post enc P fn false fresh handsOn false W args v W':=by
 obtain⟨p,q,hA,_⟩:=id hW
 have hform:∀(j:Nat) t v,fn.params.toList[j]?=some t→args.toList[j]?=some v→v.formed P t=true:=fun j t v h1 h2=>by
  rw[Array.getElem?_toList] at h1 h2
  have key:∀(tys:List Ty) (ts:List TypeId) (j:Nat),tysM P tys ts=true→ts[j]?=some t→∃ty,tyM P ty t=true:=by
   intro tys
   induction tys with
   | nil=>intro ts j hm hj; cases ts<;>simp_all [tysM]
   | cons ty tys ih =>
    intro ts j hm hj
    cases ts with
    | nil=>simp at hj
    | cons u ts =>
     simp only[tysM,Bool.and_eq_true] at hm
     cases j with
     | zero=>simp at hj; subst hj; exact⟨ty,hm.1⟩
     | succ j=>exact ih ts j hm.2 (by simpa using hj)
  obtain⟨ty,hty⟩:=key tys fn.params.toList j hm (by rw[Array.getElem?_toList]; exact h1)
  exact Rl hty (hval j t v h1 h2)
 obtain⟨xs,hwf,ha⟩:=PC hm hA hform
 have:=Us he hf (hrun xs hwf) ha
 rw[Array.toArray_toList] at this
 refine this.mono fun e W' ⟨e1,h1,h2,h3⟩=>⟨_,e1,Yd hW hv hspec hrt hub h1 h2 h3 K hz ht⟩
end
end Go.Va
namespace Go.Va
theorem YS{A B:Type}(f:A→B)(c:Prop)[Decidable c](x:Option A):(if c then none else x).map f=if c then none else x.map f:=by split<;>rfl
theorem WL{A B C D:Type}(f:C→D)(g:A→Option C)(h:B→Option C)(y:A⊕B):(Sum.elim g h y).map f=Sum.elim (fun a=>(g a).map f) (fun b=>(h b).map f) y:=by cases y<;>rfl
theorem TS{A B:Type}(k:A→Option B)(c:Bool)(x y:Option A):(bif c then x else y).bind k=bif c then x.bind k else y.bind k:=by cases c<;>rfl
theorem Xr{A B:Type}(k:A→Option B)(c:Prop)[Decidable c](x y:Option A):(if c then x else y).bind k=if c then x.bind k else y.bind k:=by split<;>rfl
theorem Vy{A B:Type}(k:A→Option B)(c:Prop)[Decidable c](x:Option A):(if c then none else x).bind k=if c then none else x.bind k:=by split<;>rfl
theorem VF{A B C D:Type}(k:C→Option D)(g:A→Option C)(h:B→Option C)(y:A⊕B):(Sum.elim g h y).bind k=Sum.elim (fun a=>(g a).bind k) (fun b=>(h b).bind k) y:=by cases y<;>rfl
theorem LC(s:St):eqSt s s=some ():=by simp[eqSt]
def code(f:Func):Code:=(f.body).getD .skip
def regOps:Code→Array Oper
 | .region _ ops _=>ops
 | _=>#[]
def FnsOk(P:Program):List (Nat×Callee)→Prop
 | []=>True
 | (n,c)::r=>SoundC P n c∧FnsOk P r
theorem An{P:Program}:∀{l:List (Nat×Callee)},FnsOk P l→∀g c,lookH l g=some c→SoundC P g c
 | [],_,_,_,h=>by cases h
 | (n,c)::r,⟨h1,h2⟩,g,c',h=>by
  simp only[lookH] at h
  split at h
  ·rename_i e
   have e:n=g:=by simpa using e
   subst e
   injection h with h; subst h; exact h1
  ·exact An h2 g c' h
def cloneC (e:Nat) (t:Ty) (bytes:Nat):Callee:={modes:=[.d (.sl t)],run:=fun R avs E K=>match avs,E with
    | [.dat [] u xs],[]=>match castV u (.sl t) xs with
     | some xs=>if xs.length*bytes≤140737488355328 then K (.ref 0) [.row e (if t.flat then .deep else .sh []) t xs] else none
     | _=>none
    | _,_=>none}
end Go.Va
