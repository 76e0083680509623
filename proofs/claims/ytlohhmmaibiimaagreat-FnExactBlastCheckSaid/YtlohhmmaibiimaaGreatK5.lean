import Derived.Test.YtlohhmmaibiimaaGreatK4
set_option linter.unusedVariables false
set_option linter.unusedSimpArgs false
namespace Go.Va
def StepC(m:Nat)(w:World)(g:G)(w':World)(g':G):Prop:=Step (List.range m) m w g w' g'
theorem StepC.refl(m:Nat)(w:World)(g:G):StepC m w g w g:=Step.refl _ _ _ _
theorem Step.toC{mods:List Nat}{n m:Nat}{w w':World}{g g':G}(s:Step mods n w g w' g')(h:m≤n):StepC m w g w' g' :=
 ⟨s.os,s.tape,s.output,s.size,s.no,s.imm,fun _ k _ _ hk hm=>(hm (List.mem_range.2 hk)).elim,fun k hk=>s.at_ k (Nat.lt_of_lt_of_le hk h)⟩
theorem StepC.trans{m:Nat}{w w1 w2:World}{g g1 g2:G}(s:StepC m w g w1 g1)(t:StepC m w1 g1 w2 g2):StepC m w g w2 g2:=by
 have h:=Step.trans s t (Nat.le_refl _)
 exact⟨h.os,h.tape,h.output,h.size,h.no,h.imm,fun _ k _ _ hk hm=>(hm (List.mem_range.2 hk)).elim,h.at_⟩
theorem XP{l:List AV}{d:Nat}{x:AV}(h:l[d]?=some x):l.set d x=l:=by
 apply List.ext_getElem?
 intro i
 rw[List.getElem?_set]
 split
 ·rename_i he; subst he
  split
  ·exact h.symm
  ·rename_i hl; rw[List.getElem?_eq_none (Nat.le_of_not_lt hl)]
 ·rfl
inductive Want (all:List Oper) (σ:St) (o:Oper):Bool→Prop where
 | plain (h:o.guard=none):Want all σ o true
 | guard {g:Nat} {want:Bool} {d:Nat} {b:Bool} (h:o.guard=some (g,want)) (hd:(all[g]?).bind (·.dst)=some d) (hb:σ.slots[d]?=some (.bool b)):Want all σ o (b==want)
 | nil {g:Nat} {want:Bool} {d:Nat} (h:o.guard=some (g,want)) (hd:(all[g]?).bind (·.dst)=some d) (hb:σ.slots[d]?=some .nil):Want all σ o false
theorem I0{R:Type}{all:List Oper}{σ:St}{o:Oper}{Kt Kf:St→Option R}{r:R}(h:guardA all σ o Kt Kf=some r):(Want all σ o true∧Kt σ=some r)∨(Want all σ o false∧Kf σ=some r):=by
 unfold guardA at h
 split at h
 ·rename_i hg; exact .inl ⟨.plain hg,h⟩
 ·rename_i g want hg
  split at h
  ·cases h
  ·rename_i d hd
   split at h
   ·rename_i b hb
    have e:({σ with slots:=σ.slots.set d (.bool b)}:St)=σ:=by
     have:=XP hb
     cases σ; simp only at this ⊢; rw[this]
    cases b
    ·simp only[cond_false] at h
     rw[e] at h
     split at h
     ·rename_i hw; subst hw; exact .inr ⟨.guard hg hd hb,h⟩
     ·rename_i hw
      have:want=false:=by simpa using hw
      subst this; exact .inl ⟨.guard hg hd hb,h⟩
    ·simp only[cond_true] at h
     rw[e] at h
     split at h
     ·rename_i hw; subst hw; exact .inl ⟨.guard hg hd hb,h⟩
     ·rename_i hw
      have:want=false:=by simpa using hw
      subst this; exact .inr ⟨.guard hg hd hb,h⟩
   ·rename_i hb
    exact .inr ⟨.nil hg hd hb,h⟩
   ·cases h
theorem OC{R:Type}{all:List Oper}{σ:St}{o:Oper}{T:Type}{Kt Kf:St→Option R}{Kt' Kf':St→Option T}{K:T→Option R}(h1:∀σ,Kt σ=(Kt' σ).bind K)(h2:∀σ,Kf σ=(Kf' σ).bind K):guardA all σ o Kt Kf=(guardA all σ o Kt' Kf').bind K:=by
 unfold guardA
 split
 ·exact h1 _
 ·split
  ·rfl
  ·split
   ·rename_i b _
    cases b<;>simp only[cond_true,cond_false]<;>split<;>first | exact h1 _ | exact h2 _
   ·exact h2 _
   ·rfl
section
variable {P:Program} {en:Env} {R:Type}
theorem SZ(he:ENat en)(σ:St)(o:Oper){T:Type}{K:Eff→Option R}{K':Eff→Option T}{k:T→Option R}(h:∀e,K e=(K' e).bind k):exec en σ o K=(exec en σ o K').bind k:=by
 rw[Ko en he σ o K,Ko en he σ o K']
 cases exec en σ o some with
 | none=>rfl
 | some e=>exact h e
theorem K0(he:ENat en)(all:List Oper):∀(is:List Nat) (σ:St) (K:St→Option R),evOps en all is σ K=(evOps en all is σ some).bind K
 | [],_,_=>rfl
 | i::is,σ,K=>by
  simp only[evOps]
  split
  ·rfl
  ·refine OC (fun σ=>?_) fun σ=>K0 he all is _ K
   exact SZ he σ _ fun e=>K0 he all is _ K
theorem K4(he:ENat en)(all:List Oper)(A:List (Nat×List Nat)):∀(is done aff:List Nat) (σ:St) (K:St→Option R),evAny en all A is done aff σ K=(evAny en all A is done aff σ some).bind K
 | [],_,_,_,_=>rfl
 | i::is,done,aff,σ,K=>by
  simp only[evAny]
  split
  ·rfl
  ·split
   ·refine OC (fun σ=>?_) fun σ=>K4 he all A is _ _ _ K
    refine SZ he σ _ fun e=>?_
    split
    ·exact K4 he all A is _ _ _ K
    ·split
     ·exact K4 he all A is _ _ _ K
     ·rfl
   ·rfl
theorem UC{w:World}{g:G}{σ:St}{a:Act}(hs:StR w g σ a){d:Nat}{b:Bool}(h:σ.slots[d]?=some (.bool b)):a.tmps[d]?=some (.bool b):=by
 have h1:=Ks (hs.slots d _ h)
 have hl:d<a.tmps.size:=by rw[←hs.len]; exact At h
 rw[Array.getElem?_eq_getElem hl]
 rw[Array.getD_eq_getD_getElem?,Array.getElem?_eq_getElem hl] at h1
 exact congrArg some h1
theorem XA{w:World}{g:G}{σ:St}{a:Act}(hs:StR w g σ a){d:Nat}(h:σ.slots[d]?=some .nil):a.tmps[d]?=some (.tuple #[]):=by
 have h1:a.tmps.getD d undef=.tuple #[]:=hs.slots d _ h
 have hl:d<a.tmps.size:=by rw[←hs.len]; exact At h
 rw[Array.getElem?_eq_getElem hl]
 rw[Array.getD_eq_getD_getElem?,Array.getElem?_eq_getElem hl] at h1
 exact congrArg some h1
theorem FV{w:World}{g:G}{σ:St}{a:Act}{ops:Array Oper}{o:Oper}{t:Bool}(hs:StR w g σ a)(h:Want ops.toList σ o t):Region.wanted o (yielded ops a.tmps)=t:=by
 cases h with
 | plain h=>simp[Region.wanted,h]
 | guard h hd hb =>
  have h1:=UC hs hb
  rw[Array.getElem?_toList] at hd
  simp[Region.wanted,h,yielded,hd,h1]
 | nil h hd hb =>
  have h1:=XA hs hb
  rw[Array.getElem?_toList] at hd
  simp[Region.wanted,h,yielded,hd,h1]
theorem StR.skip{w:World}{g:G}{σ:St}{a:Act}(h:StR w g σ a)(d:Option Nat):StR w g (σ.skip d) (a.put d undef) where
 heap:=h.heap
 len:=by simp only[St.skip,Np,LP]; exact h.len
 slots:=Q5 h.len h.slots (show AVR w g _ .nil undef from rfl)
theorem put_defers(a:Act)(d:Option Tmp)(v:Value):(a.put d v).defers=a.defers:=by cases d<;>rfl
theorem Nh (he:EnvOk P en) {ops:Array Oper} {m:Nat} {Q:Exit→Act→World→Prop}:∀(is:List Nat) (σ σ':St),evOps en ops.toList is σ some=some σ'→m≤σ.blks.length→m≤σ'.blks.length∧∀(a:Act) (w:World) (g:G),StR w g σ a →
    (∀a' w' g',StR w' g' σ' a'→StepC m w g w' g'→a'.defers=a.defers→Q .normal a' w')→wpOps P ops Q is a w
 | [],σ,σ',h,hm=>by
  simp only[evOps,Option.some.injEq] at h; subst h
  exact⟨hm,fun a w g hs hq=>hq a w g hs (StepC.refl _ _ _) rfl⟩
 | i::is,σ,σ',h,hm=>by
  simp only[evOps] at h
  split at h
  ·cases h
  ·rename_i o ho
   have ho':ops[i]?=some o:=by rw[←Array.getElem?_toList]; exact ho
   rcases I0 h with ⟨hw,h⟩| ⟨hw,h⟩
   ·rw[Ko en he.nat] at h
    cases hx:exec en σ o some with
    | none=>rw[hx] at h; cases h
    | some e =>
     rw[hx] at h
     have hsnd:=Kn he hx
     have hgrow:=hsnd.grow
     obtain⟨hm',ih⟩:=Nh he (Q:=Q) is _ _ h (Nat.le_trans hm hgrow)
     refine⟨hm',fun a w g hs hq=>?_⟩
     simp only[wpOps,ho']
     rw[if_pos (FV hs hw)]
     refine .inl (hsnd.wp a w g hs _ Q fun v w' g' hH hv hst=>?_)
     exact ih _ _ _ (hs.after hgrow hH hv hst) fun a'' w'' g'' hs'' hst'' hd=>hq a'' w'' g'' hs'' ((hst.toC hm).trans hst'') (by rw[hd,put_defers])
   ·obtain⟨hm',ih⟩:=Nh he (Q:=Q) is _ _ h hm
    refine⟨hm',fun a w g hs hq=>?_⟩
    simp only[wpOps,ho']
    rw[FV hs hw]
    simp only[Bool.false_eq_true,if_false]
    exact ih _ _ _ (hs.skip o.dst) fun a'' w'' g'' hs'' hst'' hd=>hq a'' w'' g'' hs'' hst'' (by rw[hd,put_defers])
end
end Go.Va
namespace Go.Va
theorem K5{n:Nat}{ks:List Nat}{k:Nat}:k∈canonL n ks↔k<n∧k∈ks:=by simp[canonL]
section
variable {w:World} {g:G} {n:Nat}
theorem Al.canon{ks:List Nat}(h:∀k∈ks,k<n){b:Nat}(a:Al g.own ks b):Al g.own (canonL n ks) b:=a.mono fun k hk=>K5.2 ⟨h k hk,hk⟩
theorem Om(a:AV):(a.canon n).isUn=a.isUn:=by cases a<;>rfl
theorem Oa(a:AV):(a.canon n).isAgg=a.isAgg:=by cases a<;>rfl
theorem Ri(a:AV):(a.canon n).isTup=a.isTup:=by cases a<;>rfl
theorem AVX.canon:∀(a:AV) (m:Bool) {cs:List Value},AVX w g n m a cs→AVX w g n m (a.canon n) cs
 | .dat ks t x,false,cs,⟨hk,r⟩=>⟨fun k h=>(K5.1 h).1,r.mono fun b a=>⟨a.canon hk,rfl⟩⟩
 | .zs,false,_,h=>h
 | .ref _,false,_,h=>h
 | .sld _ _,false,_,h=>h
 | .mp _,false,_,h=>h
 | .ptr _ _ _ _,false,_,h=>h
 | .rop ks t x,false,cs,⟨hk,b,off,ds,e,ha,r,hc⟩=>⟨fun k h=>(K5.1 h).1,b,off,ds,e,ha.canon hk,r.mono fun b a=>⟨a.canon hk,rfl⟩,hc⟩
 | .nilp,false,_,h=>h
 | .nst _ _ _ _ _,false,_,h=>h
 | .pr a b,false,_,⟨c,e,he,h1,h2⟩=>⟨c,e,he,AVX.canon a false h1,AVX.canon b false h2⟩
 | .fn f c,false,_,⟨vs,e,hx⟩=>⟨vs,e,AVX.canon c true hx⟩
 | .un k,false,_,h=>h
 | .cons a b,true,_,⟨v,r,e,h1,h2⟩=>by
  refine⟨v,r,e,?_,AVX.canon b true h2⟩
  rw[Om,Oa]
  exact h1.imp id fun⟨cs,hx,hv⟩=>⟨cs,AVX.canon a false hx,hv⟩
 | .nil,true,_,h=>h
 | .cons _ _,false,_,h=>h.elim
 | .nil,false,_,h=>h.elim
 | .nst _ _ _ _ _,true,_,h=>h.elim
 | .dat _ _ _,true,_,h=>h.elim
 | .zs,true,_,h=>h.elim
 | .ref _,true,_,h=>h.elim
 | .sld _ _,true,_,h=>h.elim
 | .mp _,true,_,h=>h.elim
 | .ptr _ _ _ _,true,_,h=>h.elim
 | .rop _ _ _,true,_,h=>h.elim
 | .nilp,true,_,h=>h.elim
 | .pr _ _,true,_,h=>h.elim
 | .fn _ _,true,_,h=>h.elim
 | .un _,true,_,h=>h.elim
theorem AVR.canon{a:AV}{v:Value}(h:AVR w g n a v):AVR w g n (a.canon n) v:=by
 cases ht:a.isTup with
 | false =>
  rw[AVR.iff ht] at h
  rw[AVR.iff (by rw[Ri]; exact ht),Om,Oa]
  exact h.imp id fun⟨cs,hx,hv⟩=>⟨cs,AVX.canon a false hx,hv⟩
 | true =>
  cases a with
  | cons a b=>obtain⟨vs,e,h⟩:=h; exact⟨vs,e,AVX.canon (.cons a b) true h⟩
  | nil=>exact h
  | _=>cases ht
theorem BlkR.canon{k:Nat}{b:Blk}(h:BlkR w g n k b):BlkR w g n k (b.canon n):=by
 cases b with
 | dead=>trivial
 | map m kt vt es st =>
  cases m with
  | deep=>exact h
  | sh ks =>
   obtain⟨hmi,b,arr,clock,ha,ho,hh,hnd,hm⟩:=h
   exact⟨fun j hj=>(K5.1 hj).1,b,arr,clock,ha,ho,hh,hnd,hm.on fun i x c r=>by
    have r:RdR w (Al g.own ks) vt x c:=r
    exact r.mono fun b a=>⟨a.canon hmi,rfl⟩⟩
 | hole e t xs i p=>exact h
 | box a =>
  obtain⟨h1,b,cs,e,ha,ho,hh,hx⟩:=h
  exact⟨h1,b,cs,e,ha,ho,hh,AVX.canon a false hx⟩
 | row e m t xs =>
  cases m with
  | deep=>exact h
  | sh ks =>
   obtain⟨hmi,hlen,hes,hpos,hr⟩:=h
   refine⟨fun j hj=>(K5.1 hj).1,hlen,hes,hpos,hr.imp id fun⟨b,cur,ds,ha,ho,hh,h1,h2,h3,h4,hc⟩=>⟨b,cur,ds,ha,ho,hh,h1,h2,h3,h4,?_⟩⟩
   exact hc.mono fun x c r=>r.mono fun b a=>⟨a.canon hmi,rfl⟩
end
def G.pick(g:G)(π:List Nat):G:=⟨fun b=>match g.own b with | .lab k r=>if k∈π then .lab (idxOf π k) r else .no | t=>t,fun j=>g.at_ (π.getD j 0)⟩
theorem K1{bs:List Blk}{m:Nat}{π ids:List Nat}(h:piOk bs m π ids=true):π.take m=List.range m∧nodup π=true∧(∀k∈ids,k∈π)∧∀k∈π,∃b,bs[k]?=some b∧∀j∈b.ids,j∈π:=by
 simp only[piOk,Bool.and_eq_true,beq_iff_eq] at h
 obtain⟨⟨⟨h1,h2⟩,h3⟩,h4⟩:=h
 refine⟨h1,h2,fun k hk=>by have:=List.all_eq_true.1 h3 k hk; simpa using this,fun k hk=>?_⟩
 have:=List.all_eq_true.1 h4 k hk
 split at this
 ·rename_i b hb
  exact⟨b,hb,fun j hj=>by have:=List.all_eq_true.1 this j hj; simpa using this⟩
 ·cases this
theorem ZQ{m:Nat}{π:List Nat}(h:π.take m=List.range m):m≤π.length∧∀j,j<m→π[j]?=some j:=by
 have hl:(π.take m).length=m:=by rw[h,List.length_range]
 rw[List.length_take] at hl
 refine⟨by omega,fun j hj=>?_⟩
 have:(π.take m)[j]?=some j:=by rw[h,List.getElem?_range hj]
 rw[List.getElem?_take,if_pos hj] at this
 exact this
section
variable {w:World} {g:G} {bs:List Blk} {π ids:List Nat} {m:Nat}
theorem Nr{k:Nat}(hk:k∈π):Ren (idxOf π) g (g.pick π) π.length k where
 lt:=T6 hk
 at_:=by
  have:=RH hk
  simp[G.pick,List.getD,this]
 own b r h:=by simp[G.pick,h,hk]
theorem Nc{b:Nat}(h:g.own b=.imm):(g.pick π).own b=.imm:=by simp[G.pick,h]
theorem PG(H:Heap w g bs)(h:piOk bs m π ids=true):Heap w (g.pick π) (π.map fun k=>(((bs[k]?).getD .dead).ren (idxOf π)).canon π.length):=by
 obtain⟨_,hn,_,hcl⟩:=K1 h
 refine⟨fun b hb=>by simp[G.pick,H.fresh b hb],fun j x hx=>?_⟩
 rw[List.getElem?_map] at hx
 cases hj:π[j]? with
 | none=>rw[hj] at hx; cases hx
 | some k =>
  rw[hj] at hx
  injection hx with hx; subst hx
  have hk:k∈π:=List.mem_of_getElem? hj
  obtain⟨b,hb,hids⟩:=hcl k hk
  have:=(H.blk k b hb).ren (φ:=idxOf π) (g':=g.pick π) (n':=π.length) (fun b h=>Nc h) (Nr hk) (fun j hj=>Nr (hids j hj))
  rw[Ob hn hj] at this
  simp only[hb,Option.getD_some,List.length_map]
  exact this.canon
theorem QM(h:piOk bs m π ids=true):StepC m w g w (g.pick π)∧m≤π.length:=by
 obtain⟨ht,hn,_,hcl⟩:=K1 h
 obtain⟨h1,h2⟩:=ZQ ht
 refine⟨⟨rfl,rfl,rfl,Nat.le_refl _,fun b _ h=>⟨by simp[G.pick,h],rfl⟩,fun b h=>⟨Nc h,rfl⟩,fun b k p h hk hm=>(hm (List.mem_range.2 hk)).elim,fun k hk=>?_⟩,h1⟩
 simp[G.pick,List.getD,h2 k hk]
theorem Qb:∀{live:List Nat} {l:List AV} {j i:Nat} {x:AV},(keepS live j l)[i]?=some x→∃y,l[i]?=some y∧(x=y∨x=.un 0)
 | live,a::r,j,0,x,h=>by
  simp only[keepS,List.getElem?_cons_zero,Option.some.injEq] at h
  refine⟨a,rfl,?_⟩
  split at h
  ·exact .inl h.symm
  ·exact .inr h.symm
 | live,a::r,j,i+1,x,h=>by
  simp only[keepS,List.getElem?_cons_succ] at h
  obtain⟨y,hy,hx⟩:=Qb h
  exact⟨y,by simpa using hy,hx⟩
 | _,[],_,_,_,h=>by simp[keepS] at h
theorem Ny(live:List Nat):∀(l:List AV) (j:Nat),(keepS live j l).length=l.length
 | [],_=>rfl
 | _::r,j=>by simp[keepS,Ny live r]
theorem Abi{σ σ0:St}{l:List Nat}(h:σ.norm m l=some σ0){a:Act}(hs:StR w g σ a):∃g0,StR w g0 σ0 a∧StepC m w g w g0∧m≤σ0.blks.length:=by
 unfold St.norm at h
 dsimp only at h
 split at h
 ·rename_i hp
  injection h with h; subst h
  obtain⟨hst,hm⟩:=QM (w:=w) (g:=g) hp
  obtain⟨_,_,hids,_⟩:=K1 hp
  refine⟨_,⟨PG hs.heap hp,by simp[Ny]; exact hs.len,fun i x hx=>?_⟩,hst,by simpa using hm⟩
  simp only[List.length_map]
  rw[List.getElem?_map] at hx
  cases hq:(keepS l 0 σ.slots)[i]? with
  | none=>rw[hq] at hx; cases hx
  | some y =>
   rw[hq] at hx
   injection hx with hx; subst hx
   obtain⟨z,hz,hyz⟩:=Qb hq
   rcases hyz with rfl | rfl
   ·exact((hs.slots i y hz).ren (fun b h=>Nc h) fun k hk=>Nr (hids k (List.mem_flatMap.2 ⟨y,List.mem_of_getElem? hq,hk⟩))).canon
   ·exact Lt
 ·cases h
theorem Xn{m:Nat}{Z:List Nat}:StepC m w g w (g.thaw Z) :=
 ⟨rfl,rfl,rfl,Nat.le_refl _,fun b _ h=>⟨by simp[G.thaw,h],rfl⟩,fun b h=>⟨Ro h,rfl⟩,fun b k p h hk hm=>(hm (List.mem_range.2 hk)).elim,fun k hk=>rfl⟩
theorem R6 {bs:List Blk} (H:Heap w g bs) {m:Nat} {t:Ty} {v v':AV} {bs':List Blk} (h:frzV m t v bs=some (v',bs')) :
    ∃g',Heap w g' bs'∧bs'.length=bs.length∧StepC m w g w g'∧(∀a u,AVR w g bs.length a u→AVR w g' bs.length a.noN u)∧(∀u,AVR w g bs.length v u→AVR w g' bs.length v' u)∧(∀k,g'.at_ k=g.at_ k)∧∀cs,AVX w g bs.length false v cs→AVX w g' bs.length false v' cs:=by
 unfold frzV at h
 split at h
 ·rename_i x hr
  simp only[Option.some.injEq,Prod.mk.injEq] at h
  obtain⟨rfl,rfl⟩:=h
  have key:∀cs,AVX w g bs.length false v cs→AVX w (g.thaw ((v.lend bs).filter fun k=>!decide (k<m))) bs.length false (.dat ((v.lend bs).filter fun k=>decide (k<m)) t x) cs:=by
   intro cs hcs
   obtain⟨hrd,hlt⟩:=J1 H t v x cs hr hcs
   refine⟨fun k hk=>hlt k (List.mem_filter.1 hk).1,hrd.mono fun b a=>⟨a.frz.mono fun k hk=>?_,rfl⟩⟩
   simp only[List.mem_filter,Bool.not_eq_true',decide_eq_false_iff_not,decide_eq_true_eq] at hk ⊢
   refine⟨hk.1,?_⟩
   rcases Nat.lt_or_ge k m with h | h
   ·exact h
   ·exact absurd ⟨hk.1,by omega⟩ hk.2
  refine⟨g.thaw ((v.lend bs).filter fun k=>!decide (k<m)),SB H _,by simp[AJ],Xn,fun a u h=>h.frz _,fun u hu=>?_,fun k=>rfl,?_⟩
  ·obtain⟨h1,h2⟩:=LX hr
   obtain⟨cs,hcs,hv⟩:=A0 h1 h2 hu
   exact Bg (a:=.dat _ t x) rfl (key cs hcs) (by rw[show(AV.dat _ t x).isAgg=v.isAgg from(Nz hr).symm]; exact hv)
  ·exact key
 ·cases h
end
section
variable {w:World} {g:G} {bs:List Blk} {m:Nat}
end
section
variable {w:World} {g:G} {bs:List Blk} {m:Nat}
theorem T9(H:Heap w g bs){c:Co}{a a':AV}{nb:List Blk}(h:coV bs c a=some (a',nb)){v:Value}(hx:AVR w g bs.length a v):∃g',Heap w g' (bs++nb)∧AVR w g' (bs++nb).length a' v∧Step [] bs.length w g w g':=by
 have same:a'=a∧nb=[]→∃g',Heap w g' (bs++nb)∧AVR w g' (bs++nb).length a' v∧Step [] bs.length w g w g':=by
  rintro⟨rfl,rfl⟩
  exact⟨g,by rw[List.append_nil]; exact H,by rw[List.append_nil]; exact hx,Step.refl _ _ _ _⟩
 have tupU:a.isTup=true∨a.isUn=true→a'=a∧nb=[]:=by
  intro hq
  cases c with
  | dat t =>
   simp only[coV] at h
   split at h
   ·rename_i y hy
    obtain⟨h1,h2⟩:=LX hy
    rw[h1,h2] at hq
    rcases hq with hq | hq<;>cases hq
   ·cases h
  | deps ks=>cases a<;>simp_all [coV,AV.isTup,AV.isUn]
  | row p e t deep =>
   have:a.getP p≠some .zs:=by
    cases a<;>simp[AV.isTup,AV.isUn] at hq<;>cases p<;>simp[AV.getP,AV.fld]
   simp only[coV] at h
   simp only[Option.some.injEq,Prod.mk.injEq] at h
   exact⟨h.1.symm,h.2.symm⟩
 by_cases ht:a.isTup=true
 ·exact same (tupU (.inl ht))
 ·by_cases hu:a.isUn=true
  ·exact same (tupU (.inr hu))
  ·obtain⟨cs,hcs,hv⟩:=A0 (by simpa using ht) (by simpa using hu) hx
   obtain⟨g',h1,h2,h3,h4⟩:=TX H h hcs
   exact⟨g',h1,Bg (notTup h2) h2 (by rw[h3]; exact hv),h4⟩
theorem Aet{σ σ':St}{s:Nat}{b:Bool}{c:Co}(h:coS σ s b c=some σ'){a:Act}(hs:StR w g σ a)(hm:m≤σ.blks.length):∃g',StR w g' σ' a∧StepC m w g w g'∧m≤σ'.blks.length:=by
 unfold coS at h
 split at h
 ·cases h
 ·rename_i v hv
  cases b with
  | false =>
   simp only[cond_false] at h
   split at h
   ·rename_i v' nb hco
    injection h with h; subst h
    obtain⟨g',h1,h2,h3⟩:=T9 hs.heap hco (hs.slots s v hv)
    refine⟨g',⟨h1,by simp only[List.length_set]; exact hs.len,fun i x hx=>?_⟩,h3.toC hm,by simp only[List.length_append]; omega⟩
    rw[List.getElem?_set] at hx
    split at hx
    ·rename_i e; subst e
     split at hx
     ·injection hx with hx; subst hx; exact h2
     ·cases hx
    ·exact(hs.slots i x hx).step0 h3 (by simp)
   ·cases h
  | true =>
   simp only[cond_true] at h
   split at h
   ·rename_i k i p o
    split at h
    ·rename_i a0 hb
     split at h
     ·rename_i a' nb hco
      injection h with h; subst h
      obtain⟨hlen,bb,cs,e,ha,ho,hh,hx⟩:=hs.heap.blk k _ hb
      obtain⟨g',h1,h2,h3,h4⟩:=TX hs.heap hco hx
      have hk:=At hb
      have hll:(σ.blks.set k (.box a')++nb).length=(σ.blks++nb).length:=by simp
      refine⟨g',⟨⟨h1.fresh,fun j x hj=>?_⟩,hs.len,fun i x hx'=>(hs.slots i x hx').step0 h4 (by simp)⟩,h4.toC hm,by simp only[List.length_append,List.length_set]; omega⟩
      rw[hll]
      rw[List.getElem?_append] at hj
      split at hj
      ·rename_i hjl
       rw[List.length_set] at hjl
       rw[List.getElem?_set] at hj
       split at hj
       ·rename_i ek; subst ek
        injection hj with hj; subst hj
        have hl:=h4.lab bb k [] ho hk (by simp)
        exact⟨by rw[h4.at_ k hk]; exact hlen,bb,cs,e,by rw[h4.at_ k hk]; exact ha,hl.1,hh,h2⟩
       ·exact h1.blk j x (by rw[List.getElem?_append_left hjl]; exact hj)
      ·rename_i hjl
       rw[List.length_set] at hjl hj
       exact h1.blk j x (by rw[List.getElem?_append_right (by omega)]; exact hj)
     ·cases h
    ·cases h
   ·cases h
theorem OO:∀{l:List (Nat×Bool×Co)} {σ σ':St} {g:G},coAll l σ=some σ'→∀{a:Act},StR w g σ a→m≤σ.blks.length→∃g',StR w g' σ' a∧StepC m w g w g'∧m≤σ'.blks.length
 | [],σ,σ',g,h,a,hs,hm=>by
  simp only[coAll,Option.some.injEq] at h; subst h
  exact⟨g,hs,StepC.refl _ _ _,hm⟩
 | (s,b,c)::r,σ,σ',g,h,a,hs,hm=>by
  simp only[coAll] at h
  split at h
  ·rename_i σ1 h1
   obtain⟨g1,hs1,st1,hm1⟩:=Aet h1 hs hm
   obtain⟨g2,hs2,st2,hm2⟩:=OO h hs1 hm1
   exact⟨g2,hs2,st1.trans st2,hm2⟩
  ·cases h
theorem Py {bs:List Blk} (H:Heap w g bs) {k e:Nat} {md:RM} {t:Ty} {xs:List t.V} (hb:bs[k]?=some (.row e md t xs)) (hoff:k∉md.ids) :
    ∃g',Heap w g' (Blk.kill (dropB [k] bs) [k]++[.row e md t xs])∧Step [k] bs.length w g w g'∧g'.at_ bs.length=g.at_ k:=by
 obtain⟨hmi,hlen,hes,hpos,hr⟩:=H.blk k _ hb
 let n:=bs.length
 let f:Nat→List Nat→Tag:=fun j r=>if j=k then .lab n r else .lab j r
 let g':=g.upd f none n (g.at_ k)
 have st:Step [k] n w g w g':=Step.upd H.fresh rfl rfl rfl (Nat.le_refl _) (fun _ _ _=>rfl) (fun q h=>by cases h) (Nat.le_refl _) fun j r _ hm=>by
  simp only[List.mem_singleton] at hm
  simp[f,hm]
 have hatn:g'.at_ n=g.at_ k:=by simp[g',G.upd]
 refine⟨g',H.turn st (J4 H.fresh (Nat.le_refl _) fun q h=>by cases h) (by simp[AJ,Ar]) fun j y hj=>?_,st,hatn⟩
 rw[List.getElem?_append] at hj
 split at hj
 ·rcases Jh hj with h | ⟨hjr,h⟩
  ·exact .inl h
  ·obtain⟨y',hy',rfl⟩:=Ec h
   exact .inr (.inl ⟨hjr,y',hy',rfl⟩)
 ·rename_i hlt
  rw[AJ,Ar] at hj hlt
  have hj0:j-bs.length=0:=by
   rcases Nat.eq_zero_or_pos (j-bs.length) with h | h
   ·exact h
   ·rw[List.getElem?_eq_none (by simp; omega)] at hj; cases hj
  rw[hj0] at hj
  obtain rfl:j=n:=by simp only[n]; omega
  simp only[List.getElem?_cons_zero,Option.some.injEq] at hj
  subst hj
  refine .inr (.inr ⟨fun j hj=>by have:=hmi j hj; simp[AJ,Ar]; omega,by rw[hatn]; exact hlen,by rw[hatn]; exact hes,hpos,?_⟩)
  rw[hatn]
  refine hr.imp id fun⟨b,cur,ds,ha,hown,hcur,p1,p2,p3,p4,hcon⟩=>⟨b,cur,ds,ha,by rw[HA (by simp) hown]; simp[f],hcur,p1,p2,p3,p4,?_⟩
  rw[Jk]
  refine(Jk.1 hcon).mono fun i x c hel=>hel.on ?_
  cases md with
  | deep=>exact fun b q hb=>⟨by rw[HA (by simp) hb]; simp[f],rfl⟩
  | sh ks =>
   intro b hb
   rcases hb with hb | ⟨j,hj,r,hb⟩
   ·exact⟨.inl (Lz (by simp) hb),rfl⟩
   ·refine⟨.inr ⟨j,hj,r,?_⟩,rfl⟩
    have:j≠k:=fun e=>hoff (e▸hj)
    rw[HA (by simp) hb]; simp[f,this]
theorem Sz:∀{l:List Nat} {σ σ':St} {g:G},mvS m l σ=some σ'→∀{a:Act},StR w g σ a→m≤σ.blks.length→∃g',StR w g' σ' a∧StepC m w g w g'∧m≤σ'.blks.length
 | [],σ,σ',g,h,a,hs,hm=>by
  simp only[mvS,Option.some.injEq] at h; subst h
  exact⟨g,hs,StepC.refl _ _ _,hm⟩
 | s::r,σ,σ',g,h,a,hs,hm=>by
  simp only[mvS] at h
  split at h
  ·rename_i k hv
   split at h
   ·split at h
    ·rename_i e md t xs hb
     split at h
     ·cases h
     ·rename_i hoff
      obtain⟨g1,H1,st,hat⟩:=Py hs.heap hb (by simpa using hoff)
      have hl:(Blk.kill (dropB [k] σ.blks) [k]++[Blk.row e md t xs]).length=σ.blks.length+1:=by simp[AJ,Ar]
      have hs1:StR w g1 ⟨(dropS [k] σ.slots).set s (.ref σ.blks.length),Blk.kill (dropB [k] σ.blks) [k]++[.row e md t xs]⟩ a:=by
       refine⟨H1,by simp[dropS]; exact hs.len,fun i x hx=>?_⟩
       simp only[hl]
       rw[List.getElem?_set] at hx
       split at hx
       ·rename_i e'; subst e'
        split at hx
        ·injection hx with hx; subst hx
         obtain⟨hk,hv2⟩:=KF (hs.slots s _ hv)
         rw[hv2]
         exact Bg (cs:=[_]) rfl ⟨Nat.lt_succ_self _,by rw[hat]⟩ rfl
        ·cases hx
       ·obtain⟨y,hy,rfl⟩:=Mf hx
        exact(hs.slots i y hy).step st (Nat.le_succ _)
      obtain⟨g2,hs2,st2,hm2⟩:=Sz h hs1 (by simp only[hl]; omega)
      exact⟨g2,hs2,(st.toC hm).trans st2,hm2⟩
    ·cases h
   ·exact Sz h hs hm
  ·exact Sz h hs hm
theorem YF{w:World}{g:G}{n j N:Nat}{p:List Nat}{a a2:AV}{v:Value}(h:AVR w g n a v)(hp:a.getP p=some (.ref j))(hset:a.setP p (.ref N)=some a2)(hN:N<n)(hat:g.at_ N=g.at_ j):AVR w g n a2 v:=by
 cases p with
 | nil =>
  simp only[AV.getP,Option.some.injEq] at hp
  simp only[AV.setP,Option.some.injEq] at hset
  subst hp; subst hset
  obtain⟨_,hv⟩:=KF h
  rw[hv,←hat]
  exact Bg (cs:=[_]) rfl ⟨hN,rfl⟩ rfl
 | cons f p =>
  have h2:a2.isAgg=true:=by
   simp only[AV.setP] at hset
   split at hset
   ·split at hset
    ·exact MJ hset
    ·cases hset
   ·cases hset
  have h1:a.isAgg=true∧a.isTup=false∧a.isUn=false:=by
   simp only[AV.getP] at hp
   cases a with
   | pr x y=>exact⟨rfl,rfl,rfl⟩
   | dat ks t x =>
    cases t with
    | pair b c=>exact⟨rfl,rfl,rfl⟩
    | _=>simp[AV.fld,fldD] at hp
   | _=>simp[AV.fld] at hp
  obtain⟨cs,hcs,hv⟩:=A0 h1.2.1 h1.2.2 h
  obtain⟨c0,c1,c2,e1,_,hr,hput⟩:=JT (f::p) _ cs _ hcs hp
  obtain⟨_,hc1⟩:=hr
  have hx2:=hput (.ref N) a2 c1 hset ⟨hN,by rw[hc1,hat]⟩
  rw[←e1] at hx2
  have ht:a2.isTup=false:=by cases a2<;>first | rfl | cases h2
  exact Bg ht hx2 (by rw[h2]; rw[h1.1] at hv; exact hv)
theorem Y4{m s:Nat}{p:List Nat}{a:Act}{a0:AV}{σ σ2:St}{g:G}(hs0:σ.slots[s]?=some a0)(h:mvV m s p a0 σ=some σ2)(hs:StR w g σ a)(hm:m≤σ.blks.length):∃g',StR w g' σ2 a∧StepC m w g w g'∧m≤σ2.blks.length:=by
 unfold mvV at h
 split at h
 ·rename_i j hp
  split at h
  ·split at h
   ·rename_i e md t xs hj
    split at h
    ·cases h
    ·rename_i hoff
     split at h
     ·rename_i j' a2 hp2 hset
      split at h
      ·rename_i hc
       subst hc
       injection h with h; subst h
       obtain⟨g1,H1,st,hat⟩:=Py hs.heap hj (by simpa using hoff)
       have hl:(Blk.kill (dropB [j'] σ.blks) [j']++[Blk.row e md t xs]).length=σ.blks.length+1:=by simp[AJ,Ar]
       refine⟨g1,⟨H1,by simp[dropS]; exact hs.len,fun i x hx=>?_⟩,st.toC hm,by simp only[hl]; omega⟩
       rw[hl]
       rcases K7 hx with ⟨rfl,rfl⟩| ⟨hne,hx⟩
       ·have hv:=(hs.slots i a0 hs0).step st (Nat.le_succ _)
        exact YF hv hp2 hset (Nat.lt_succ_self _) (by rw[hat,st.at_ j' (At hj)])
       ·obtain⟨y,hy,rfl⟩:=Mf (show(dropS [j'] σ.slots)[i]?=some x from hx)
        exact(hs.slots i y hy).step st (Nat.le_succ _)
      ·cases h
     ·cases h
   ·cases h
  ·injection h with h; subst h; exact⟨g,hs,StepC.refl _ _ _,hm⟩
 ·cases h
theorem Ur{m k:Nat}{p:List Nat}{w:World}{a:Act}{σ σ2:St}{g:G}(h:mvB m k p σ=some σ2)(hs:StR w g σ a)(hm:m≤σ.blks.length):∃g',StR w g' σ2 a∧StepC m w g w g'∧m≤σ2.blks.length:=by
 unfold mvB at h
 split at h
 ·rename_i a0 hb
  split at h
  ·rename_i j hp
   split at h
   ·split at h
    ·rename_i e md t xs hj
     split at h
     ·cases h
     ·rename_i hoff
      split at h
      ·rename_i j' a2 hp2 hset
       split at h
       ·rename_i hc
        obtain⟨rfl,hkj⟩:=hc
        injection h with h; subst h
        obtain⟨g1,H1,st,hat⟩:=Py hs.heap hj (by simpa using hoff)
        have hl:(Blk.kill (dropB [j'] σ.blks) [j']++[Blk.row e md t xs]).length=σ.blks.length+1:=by simp[AJ,Ar]
        have hk:=At hb
        have hb1:(Blk.kill (dropB [j'] σ.blks) [j']++[Blk.row e md t xs])[k]?=some (.box (a0.drop fun q=>[j'].contains q)):=by
         rw[List.getElem?_append_left (by rw[AJ,Ar]; exact hk)]
         simp only[Blk.kill,dropB,List.getElem?_set,List.getElem?_map,hb,Option.map_some,Blk.drop,if_neg (fun e:j'=k=>hkj e.symm)]
        obtain⟨h1,bb,cs,el,ha,ho,hh,hx⟩:=H1.blk k _ hb1
        rw[hl] at hx
        obtain⟨c0,c1,c2,e1,_,hr,hput⟩:=JT p _ cs.toList _ hx hp2
        obtain⟨hjl,hc1⟩:=hr
        have hx2:=hput (.ref σ.blks.length) a2 c1 hset ⟨Nat.lt_succ_self _,by rw[hc1,hat,st.at_ j' (At hj)]⟩
        rw[←e1] at hx2
        refine⟨g1,⟨⟨H1.fresh,fun q x hq=>?_⟩,by simp[dropS]; exact hs.len,fun i x hx=>?_⟩,st.toC hm,by simp only[List.length_set,hl]; omega⟩
        ·rw[List.length_set,hl]
         rw[List.getElem?_set] at hq
         split at hq
         ·rename_i e'; subst e'
          split at hq
          ·injection hq with hq; subst hq
           exact⟨h1,bb,cs,el,ha,ho,hh,hx2⟩
          ·cases hq
         ·have:=H1.blk q x hq
          rwa [hl] at this
        ·simp only[List.length_set,hl]
         obtain⟨y,hy,rfl⟩:=Mf (show(dropS [j'] σ.slots)[i]?=some x from hx)
         exact(hs.slots i y hy).step st (Nat.le_succ _)
       ·cases h
      ·cases h
    ·cases h
   ·injection h with h; subst h; exact⟨g,hs,StepC.refl _ _ _,hm⟩
  ·cases h
 ·cases h
theorem UH:∀{l:List (Nat×List Nat)} {σ σ':St} {g:G},mvPS m l σ=some σ'→∀{a:Act},StR w g σ a→m≤σ.blks.length→∃g',StR w g' σ' a∧StepC m w g w g'∧m≤σ'.blks.length
 | [],σ,σ',g,h,a,hs,hm=>by
  simp only[mvPS,Option.some.injEq] at h; subst h
  exact⟨g,hs,StepC.refl _ _ _,hm⟩
 | (s,p)::r,σ,σ',g,h,a,hs,hm=>by
  simp only[mvPS] at h
  split at h
  ·rename_i σ1 h1
   have h2:∃g',StR w g' σ1 a∧StepC m w g w g'∧m≤σ1.blks.length:=by
    unfold mvP at h1
    split at h1
    ·exact Ur h1 hs hm
    ·rename_i a0 hs0; exact Y4 hs0 h1 hs hm
    ·cases h1
   obtain⟨g1,hs1,st1,hm1⟩:=h2
   obtain⟨g2,hs2,st2,hm2⟩:=UH h hs1 hm1
   exact⟨g2,hs2,st1.trans st2,hm2⟩
  ·cases h
theorem NS:∀{l:List (Nat×Bool×Ty)} {σ σ':St} {g:G},frzS m l σ=some σ'→∀{a:Act},StR w g σ a→m≤σ.blks.length→∃g',StR w g' σ' a∧StepC m w g w g'∧m≤σ'.blks.length
 | [],σ,σ',g,h,a,hs,hm=>by
  simp only[frzS,Option.some.injEq] at h; subst h
  exact⟨g,hs,StepC.refl _ _ _,hm⟩
 | (s,false,t)::r,σ,σ',g,h,a,hs,hm=>by
  simp only[frzS] at h
  split at h
  ·exact NS h hs hm
  ·rename_i v _ hv
   split at h
   ·rename_i v' bs' hf
    obtain⟨g1,H1,hl,st1,ha,hv1,_,_⟩:=R6 hs.heap hf
    have hs1:StR w g1 ⟨(σ.slots.map AV.noN).set s v',bs'⟩ a:=by
     refine⟨H1,by simpa using hs.len,fun i x hx=>?_⟩
     simp only[hl]
     rw[List.getElem?_set] at hx
     split at hx
     ·rename_i e; subst e
      split at hx
      ·injection hx with hx; subst hx
       exact hv1 _ (hs.slots s v hv)
      ·cases hx
     ·rw[List.getElem?_map] at hx
      cases hq:σ.slots[i]? with
      | none=>rw[hq] at hx; cases hx
      | some y =>
       rw[hq] at hx
       injection hx with hx; subst hx
       exact ha _ _ (hs.slots i y hq)
    obtain⟨g2,hs2,st2,hm2⟩:=NS h hs1 (by simp only[hl]; exact hm)
    exact⟨g2,hs2,st1.trans st2,hm2⟩
   ·cases h
  ·cases h
 | (s,true,t)::r,σ,σ',g,h,a,hs,hm=>by
  simp only[frzS] at h
  split at h
  ·rename_i k _ _ _ hv
   split at h
   ·rename_i a0 hb
    split at h
    ·rename_i a' bs' hf
     obtain⟨g1,H1,hl,st1,ha,hv1,hat,hx1⟩:=R6 hs.heap hf
     split at h
     ·rename_i a1 hb1
      have hs1:StR w g1 ⟨σ.slots.map AV.noN,bs'.set k (.box a')⟩ a:=by
       refine⟨⟨H1.fresh,fun j x hj=>?_⟩,by simpa using hs.len,fun i x hx=>?_⟩
       ·rw[List.length_set]
        rw[List.getElem?_set] at hj
        split at hj
        ·rename_i e; subst e
         split at hj
         ·injection hj with hj; subst hj
          obtain⟨p1,b,cs,e,ha1,ho,hh,hx⟩:=H1.blk k _ hb1
          obtain⟨q1,b2,cs2,e2,ha2,ho2,hh2,hx2⟩:=hs.heap.blk k _ hb
          rw[hat,ha2] at ha1
          injection ha1 with ha1
          injection ha1 with ha1
          subst ha1
          rw[hh2] at hh
          injection hh with hh
          injection hh with hh
          subst hh
          exact⟨p1,b2,cs2,e2,by rw[hat]; exact ha2,ho,hh2,by rw[hl]; exact hx1 _ hx2⟩
         ·cases hj
        ·exact H1.blk j x hj
       ·simp only[List.length_set,hl]
        rw[List.getElem?_map] at hx
        cases hq:σ.slots[i]? with
        | none=>rw[hq] at hx; cases hx
        | some y =>
         rw[hq] at hx
         injection hx with hx; subst hx
         exact ha _ _ (hs.slots i y hq)
      obtain⟨g2,hs2,st2,hm2⟩:=NS h hs1 (by simp only[List.length_set,hl]; exact hm)
      exact⟨g2,hs2,st1.trans st2,hm2⟩
     ·cases h
    ·cases h
   ·cases h
  ·exact NS h hs hm
theorem V8:∀{l:List (Nat×List Nat)} {bs bs':List Blk},widB l bs=some bs'→Heap w g bs→Heap w g bs'∧bs'.length=bs.length
 | [],bs,bs',h,H=>by
  simp only[widB,Option.some.injEq] at h; subst h; exact⟨H,rfl⟩
 | (k,ks)::r,bs,bs',h,H=>by
  simp only[widB] at h
  split at h
  ·rename_i e l t xs hb
   split at h
   ·rename_i hc
    rw[Bool.and_eq_true] at hc
    have hsub:∀j∈l,j∈ks:=fun j hj=>by have:=List.all_eq_true.1 hc.1 j hj; simpa using this
    have hlt:∀j∈ks,j<bs.length:=fun j hj=>by have:=List.all_eq_true.1 hc.2 j hj; simpa using this
    have H1:Heap w g (bs.set k (.row e (.sh ks) t xs)):=by
     refine⟨H.fresh,fun j x hx=>?_⟩
     rw[List.length_set]
     rw[List.getElem?_set] at hx
     split at hx
     ·rename_i ek; subst ek
      split at hx
      ·injection hx with hx; subst hx
       obtain⟨hmi,hlen,hes,hpos,hr⟩:=H.blk k _ hb
       refine⟨hlt,hlen,hes,hpos,hr.imp id fun⟨b,cur,ds,ha,ho,hh,h1,h2,h3,h4,hc⟩=>⟨b,cur,ds,ha,ho,hh,h1,h2,h3,h4,?_⟩⟩
       exact hc.mono fun x c r=>r.mono fun b a=>⟨a.mono hsub,rfl⟩
      ·cases hx
     ·exact H.blk j x hx
    obtain⟨H2,hl⟩:=V8 h H1
    exact⟨H2,by rw[hl,List.length_set]⟩
   ·cases h
  ·cases h
theorem L6{h:SH}{σ σ':St}(hh:σ.head h m=some σ'){a:Act}(hs:StR w g σ a)(hm:m≤σ.blks.length):∃g',StR w g' σ' a∧StepC m w g w g'∧m≤σ'.blks.length:=by
 unfold St.head at hh
 split at hh
 ·cases hh
 ·rename_i σ0 h0
  rw[Option.bind_eq_some_iff] at h0
  obtain⟨σz,hz,h0⟩:=h0
  rw[Option.bind_eq_some_iff] at hz
  obtain⟨σy,hy,hz⟩:=hz
  obtain⟨gy,hsy,sty,hmy⟩:=Sz hy hs hm
  obtain⟨gz,hsz,stz0,hmz⟩:=UH hz hsy hmy
  have stz:=sty.trans stz0
  obtain⟨g0,hs0,st0,hm0⟩:=NS h0 hsz hmz
  split at hh
  ·cases hh
  ·rename_i σ1 h1
   obtain⟨g1,hs1,st1,hm1⟩:=OO h1 hs0 hm0
   split at hh
   ·cases hh
   ·rename_i σ2 h2
    obtain⟨g2,hs2,st2,hm2⟩:=Abi h2 hs1
    split at hh
    ·cases hh
    ·rename_i bs h3
     obtain⟨H3,hl⟩:=V8 h3 hs2.heap
     have hs3:StR w g2 ⟨σ2.slots,bs⟩ a:=⟨H3,hs2.len,fun i x hx=>by simp only[hl]; exact hs2.slots i x hx⟩
     obtain⟨g3,hs4,st3,hm3⟩:=OO hh hs3 (by simp only[hl]; exact hm2)
     exact⟨g3,hs4,(((stz.trans st0).trans st1).trans st2).trans st3,hm3⟩
end
theorem AaM{σ σ':St}{s:Nat}{b:Bool}{c:Co}(h:coS σ s b c=some σ'):σ.blks.length≤σ'.blks.length:=by
 unfold coS at h
 split at h
 ·cases h
 ·cases b with
  | false =>
   simp only[cond_false] at h
   split at h
   ·injection h with h; subst h; simp
   ·cases h
  | true =>
   simp only[cond_true] at h
   split at h
   ·split at h
    ·split at h
     ·injection h with h; subst h; simp
     ·cases h
    ·cases h
   ·cases h
theorem QY:∀{l:List (Nat×Bool×Co)} {σ σ':St},coAll l σ=some σ'→σ.blks.length≤σ'.blks.length
 | [],σ,σ',h=>by
  simp only[coAll,Option.some.injEq] at h; subst h; exact Nat.le_refl _
 | (s,b,c)::r,σ,σ',h=>by
  simp only[coAll] at h
  split at h
  ·rename_i σ1 h1; exact Nat.le_trans (AaM h1) (QY h)
  ·cases h
theorem S4:∀{l:List (Nat×List Nat)} {bs bs':List Blk},widB l bs=some bs'→bs'.length=bs.length
 | [],bs,bs',h=>by
  simp only[widB,Option.some.injEq] at h; subst h; rfl
 | (k,ks)::r,bs,bs',h=>by
  simp only[widB] at h
  split at h
  ·split at h
   ·rw[S4 h,List.length_set]
   ·cases h
  ·cases h
theorem LW{h:SH}{m:Nat}{σ σ':St}(hh:σ.head h m=some σ'):m≤σ'.blks.length:=by
 unfold St.head at hh
 split at hh
 ·cases hh
 ·split at hh
  ·cases hh
  ·split at hh
   ·cases hh
   ·rename_i σ2 h2
    split at hh
    ·cases hh
    ·rename_i bs h3
     refine Nat.le_trans ?_ (QY hh)
     simp only[S4 h3]
     unfold St.norm at h2
     dsimp only at h2
     split at h2
     ·rename_i hp
      injection h2 with h2; subst h2
      have:=(ZQ (K1 hp).1).1
      simpa using this
     ·cases h2
def exOf:Ex→Exit
 | .normal=>.normal
 | .exit n=>.exit n
 | .ret=>.ret
theorem P6{P:Program}{Q:Exit→Act→World→Prop}{c:Code}(R:Nat→Act→World→Prop)(round:∀n a w,R n a w→c.wp P (Exit.then (fun a' w'=>∃k,k<n∧R k a' w') Q) a w){n:Nat}{a:Act}{w:World}(h0:R n a w):(Code.loop c).wp P Q a w:=by
 intro b k cs
 have key:∀n a w,R n a w→∃e a' w',Q e a' w'∧Arrives P (lone (b.at a (.code c::.inLoop c::k)) cs w) b k cs e a' w':=by
  intro n
  induction n using Nat.strongRecOn with
  | _ n ih =>
   intro a w hI
   obtain⟨e,a₁,w₁,hq,harr⟩:=round n a w hI b (.inLoop c::k) cs
   cases e with
   | normal =>
    obtain⟨j,hlt,hI₁⟩:=hq
    obtain⟨e₂,a₂,w₂,hq₂,harr₂⟩:=ih j hlt a₁ w₁ hI₁
    exact⟨e₂,a₂,w₂,hq₂,.of_steps (Steps.trans harr (.one step_inLoop)) harr₂⟩
   | exit id=>exact⟨_,a₁,w₁,hq,.pass (x:=.inLoop c) rfl (fun _ _=>.inl (by simp)) harr⟩
   | goto l=>exact⟨_,a₁,w₁,hq,.pass (x:=.inLoop c) rfl (fun _ _=>.inl (by simp)) harr⟩
   | ret=>exact⟨_,a₁,w₁,hq,.pass (x:=.inLoop c) rfl (fun _ _=>.inl (by simp)) harr⟩
   | panic ch=>exact⟨_,a₁,w₁,hq,.pass (x:=.inLoop c) rfl (fun _ _=>.inl (by simp)) harr⟩
   | outgrown=>exact⟨_,a₁,w₁,hq,.pass (x:=.inLoop c) rfl (fun _ _=>.inl (by simp)) harr⟩
 obtain⟨e,a',w',hq,harr⟩:=key n a w h0
 exact⟨e,a',w',hq,.of_steps (.one step_loop) harr⟩
inductive ToN {S T:Type} (f:S→Option (S⊕T)):Nat→S→T→Prop
 | done {s:S} {t:T} (h:f s=some (.inr t)):ToN f 0 s t
 | more {s s':S} {t:T} {n:Nat} (h:f s=some (.inl s')) (k:ToN f n s' t):ToN f (n+1) s t
theorem To.n{S T:Type}{f:S→Option (S⊕T)}{s:S}{t:T}(h:To f s t):∃n,ToN f n s t:=by
 induction h with
 | done h=>exact⟨0,.done h⟩
 | more h _ ih=>obtain⟨n,hn⟩:=ih; exact⟨n+1,.more h hn⟩
structure ProgOk (P:Program) (en:Env):Prop extends EnvOk P en where
 mixed:P.follows .mixedOrders=true
section
variable {P:Program} {en:Env} {m:Nat}
abbrev pair2(e:Ex)(σ:St):Option (Ex×St):=some (e,σ)
theorem Zj {c:Code} (hn:∀(R:Type) (σ:St) (K:Ex→St→Option R),ev en m c R σ K=(ev en m c (Ex×St) σ pair2).bind fun p=>K p.1 p.2) {R T:Type} {σ:St} {K:Ex→St→Option R} {K':Ex→St→Option T} {k:T→Option R}
    (h:∀e s,K e s=(K' e s).bind k):ev en m c R σ K=(ev en m c T σ K').bind k:=by
 rw[hn R,hn T]
 cases ev en m c (Ex×St) σ pair2 with
 | none=>rfl
 | some p=>exact h p.1 p.2
theorem Z5(he:ENat en){all:List Oper}{is:List Nat}{σ:St}{R T:Type}{K:St→Option R}{K':St→Option T}{k:T→Option R}(h:∀s,K s=(K' s).bind k):evOps en all is σ K=(evOps en all is σ K').bind k:=by
 rw[K0 he all is σ K,K0 he all is σ K']
 cases evOps en all is σ some with
 | none=>rfl
 | some p=>exact h p
theorem AaG(he:ENat en){all:List Oper}{A:List (Nat×List Nat)}{is done aff:List Nat}{σ:St}{R T:Type}{K:St→Option R}{K':St→Option T}{k:T→Option R}(h:∀s,K s=(K' s).bind k):evAny en all A is done aff σ K=(evAny en all A is done aff σ K').bind k:=by
 rw[K4 he all A is done aff σ K,K4 he all A is done aff σ K']
 cases evAny en all A is done aff σ some with
 | none=>rfl
 | some p=>exact h p
theorem Sh {f:(R:Type)→St→(Ex→St→Option R)→Option R} (hf:∀(R:Type) (σ:St) (K:Ex→St→Option R),f R σ K=(f (Ex×St) σ pair2).bind fun p=>K p.1 p.2) :
    ∀(n:Nat) (R:Type) (σ:St) (K:Ex→St→Option R),unrl (f R) K n σ=(unrl (f (Ex×St)) pair2 n σ).bind fun p=>K p.1 p.2
 | 0,_,_,_=>rfl
 | n+1,R,σ,K=>by
  simp only[unrl]
  refine(hf R σ _).trans ?_
  refine Eq.trans ?_ (congrArg (fun x:Option (Ex×St)=>x.bind fun p=>K p.1 p.2) (hf (Ex×St) σ _).symm)
  cases f (Ex×St) σ pair2 with
  | none=>rfl
  | some p =>
   obtain⟨e,s⟩:=p
   cases e with
   | normal=>exact Sh hf n R s K
   | exit k=>rfl
   | ret=>rfl
theorem Mr(he:ENat en):∀(c:Code) (R:Type) (σ:St) (K:Ex→St→Option R),ev en m c R σ K=(ev en m c (Ex×St) σ pair2).bind fun p=>K p.1 p.2
 | .skip,_,_,_=>rfl
 | .ret,_,_,_=>rfl
 | .exit _,_,_,_=>rfl
 | .seq a b,R,σ,K=>by
  simp only[ev]
  split
  ·refine Zj (Mr he a) fun e s=>?_
   cases e with
   | normal=>exact Mr he b R s K
   | exit n=>rfl
   | ret=>rfl
  ·rw[Option.bind_assoc]
   congr 1
   funext s0
   rw[Option.bind_assoc]
   congr 1
   funext ⟨e,s⟩
   cases e with
   | normal=>exact Mr he b R s K
   | exit n=>rfl
   | ret=>rfl
 | .cond c a b,R,σ,K=>by
  simp only[ev]
  split
  ·rename_i t _
   cases t
   ·exact Mr he b R σ K
   ·exact Mr he a R σ K
  ·rfl
 | .block n a,R,σ,K=>by
  simp only[ev]
  refine Zj (Mr he a) fun e s=>?_
  cases e with
  | normal=>rfl
  | exit k=>dsimp only; cases k==n<;>rfl
  | ret=>rfl
 | .region _ ops false,R,σ,K=>by
  simp only[ev]
  exact Z5 he fun s=>rfl
 | .region _ ops true,R,σ,K=>by
  simp only[ev]
  split
  ·rw[Option.bind_assoc]
   congr 1
   funext s0
   generalize regW en m _ ops s0=x
   cases x<;>rfl
  ·split
   ·exact AaG he fun s=>rfl
   ·rfl
 | .loop body,R,σ,K=>by
  simp only[ev]
  split
  ·rename_i n _
   exact Sh (fun R σ K=>Mr he body R σ K) n R σ K
  split
  ·split
   ·rfl
   ·generalize fix _ _=x
    cases x<;>rfl
  ·rfl
 | .goto _,_,_,_=>rfl
 | .label _,_,_,_=>rfl
 | .rangeFunc ..,_,_,_=>rfl
 | .scope _,_,_,_=>rfl
 | .refuse _,_,_,_=>rfl
theorem LN (he:ENat en) {h ho:SH} {body:Code} {s:St} {r:St⊕(Ex×St)} (hh:stepL en m h ho body s=some r):∃e s',ev en m body (Ex×St) s pair2=some (e,s') ∧
    ((e=.normal∧∃s'',s'.head h m=some s''∧r=.inl s'')∨(e≠.normal∧∃s'',s'.head ho m=some s''∧r=.inr (e,s''))):=by
 unfold stepL at hh
 rw[Mr he] at hh
 cases hx:ev en m body (Ex×St) s pair2 with
 | none=>rw[hx] at hh; cases hh
 | some p =>
  obtain⟨e,s'⟩:=p
  rw[hx] at hh
  simp only[Option.bind_some] at hh
  refine⟨e,s',rfl,?_⟩
  cases e with
  | normal =>
   simp only at hh
   cases hn:s'.head h m with
   | none=>rw[hn] at hh; cases hh
   | some s''=>rw[hn] at hh; injection hh with hh; exact .inl ⟨rfl,s'',rfl,hh.symm⟩
  | exit n =>
   simp only at hh
   cases hn:s'.head ho m with
   | none=>rw[hn] at hh; cases hh
   | some s''=>rw[hn] at hh; injection hh with hh; exact .inr ⟨by simp,s'',rfl,hh.symm⟩
  | ret =>
   simp only at hh
   cases hn:s'.head ho m with
   | none=>rw[hn] at hh; cases hh
   | some s''=>rw[hn] at hh; injection hh with hh; exact .inr ⟨by simp,s'',rfl,hh.symm⟩
end
end Go.Va
namespace Go.Va
theorem LK{σ τ:St}{l:List Operand}(h:∀x∈l,σ.opd x=τ.opd x):l.map σ.opd=l.map τ.opd:=List.map_congr_left h
theorem K9{σ τ:St}{l:List (Nat×Operand)}(h:∀x∈l.map (·.2),σ.opd x=τ.opd x):l.map (fun p=>(p.1,σ.opd p.2))=l.map (fun p=>(p.1,τ.opd p.2)) :=
 List.map_congr_left fun p hp=>by rw[h p.2 (List.mem_map.2 ⟨p,hp,rfl⟩)]
theorem L4{R:Type}{en:Env}{σ τ:St}{o:Oper}{K:Eff→Option R}(hb:σ.blks=τ.blks)(h:∀x∈o.op.operands,σ.opd x=τ.opd x):execP en σ o K=execP en τ o K:=by
 obtain⟨dst,op,type,pos,after,guard⟩:=o
 unfold execP
 dsimp only at h ⊢
 rw[hb]
 cases op<;>simp only[Op.operands] at h<;>dsimp only
 case build t ps=>rw[K9 (l:=ps.toList) fun x hx=>h x (by simpa using hx)]
 case buildSlice t n ps=>rw[K9 (l:=ps.toList) fun x hx=>h x (by simpa using hx)]
 case makeFunc fn first captured =>
  rw[LK (l:=captured.toList) fun x hx=>h x (by simp[Array.mem_toList_iff.1 hx])]
 case call c =>
  have ha:opds σ c.args=opds τ c.args:=LK fun x hx=>h x (by simp[Call.operands,Array.mem_toList_iff.1 hx])
  unfold execCall
  rw[ha,hb]
  cases hc:c.callee with
  | value f =>
   have hf:σ.opd f=τ.opd f:=h f (by simp[Call.operands,hc])
   simp only[hf]
  | builtin b=>cases b<;>rfl
  | invoke r n=>rfl
 case slice t x lo hi mx =>
  have hx:σ.opd x=τ.opd x:=h x (by simp)
  have hlo:lo.map σ.opd=lo.map τ.opd:=by cases lo with | none=>rfl | some y=>simp[h y (by simp)]
  have hhi:hi.map σ.opd=hi.map τ.opd:=by cases hi with | none=>rfl | some y=>simp[h y (by simp)]
  have hmx:mx.map σ.opd=mx.map τ.opd:=by cases mx with | none=>rfl | some y=>simp[h y (by simp)]
  rw[hx,hlo,hhi,hmx]
 all_goals (first | rfl | (simp_all; done))
theorem L8{R:Type}{en:Env}{σ τ:St}{o:Oper}{K:Eff→Option R}(hb:σ.blks=τ.blks)(h:∀x∈o.op.operands,σ.opd x=τ.opd x):exec0 en σ o K=exec0 en τ o K:=by
 have ha:arrO en σ o=arrO en τ o:=by
  obtain⟨dst,op,type,pos,after,guard⟩:=o
  unfold arrO
  cases op<;>simp only[Op.operands] at h<;>dsimp only
  case load t x=>rw[h x (by simp),hb]
  case build t ps=>rw[K9 (l:=ps.toList) fun x hx=>h x (by simpa using hx)]
  case index t x i=>rw[h x (by simp),h i (by simp)]
  case indexAddr t x i=>rw[h x (by simp),h i (by simp),hb]
  case call c =>
   have ha:opds σ c.args=opds τ c.args:=LK fun x hx=>h x (by simp[Call.operands,Array.mem_toList_iff.1 hx])
   rw[ha]
 have hs:sldE en σ o=sldE en τ o:=by
  obtain⟨dst,op,type,pos,after,guard⟩:=o
  unfold sldE
  cases op<;>simp only[Op.operands] at h<;>dsimp only
  case buildSlice t n ps=>rw[K9 (l:=ps.toList) fun x hx=>h x (by simpa using hx),hb]
 unfold exec0
 rw[ha,hs,hb]
 split
 ·rfl
 split
 ·rfl
 ·split
  ·have hd:dstSh en o=dstSh en o:=rfl
   cases dstSh en o
   ·exact L4 hb h
   ·simp only[cond_true]
    rw[show τ.blks=σ.blks from hb.symm]
    exact L4 hb h
  ·exact L4 hb h
theorem Tp{R:Type}{en:Env}{σ τ:St}{o:Oper}{K:Eff→Option R}(hb:σ.blks=τ.blks)(h:∀x∈o.op.operands,σ.opd x=τ.opd x):exec en σ o K=exec en τ o K:=by
 unfold exec
 split
 ·rename_i c d ho _
  have ha:opds σ c.args=opds τ c.args:=LK fun x hx=>h x (by rw[ho]; simp[Op.operands,Call.operands,Array.mem_toList_iff.1 hx])
  rw[ha,hb]
  split
  ·split
   ·exact L8 rfl h
   ·rfl
  ·exact L8 hb h
 ·exact L8 hb h
theorem HX:∀a:AV,a.ren id=a
 | .dat ks t x=>by simp[AV.ren]
 | .rop ks t x=>by simp[AV.ren]
 | .ref k=>rfl
 | .sld k l_=>rfl
 | .mp k=>rfl
 | .ptr k i p o=>rfl
 | .nst _ _ _ _ _=>rfl
 | .pr a b=>by simp[AV.ren,HX a,HX b]
 | .fn g c=>by simp[AV.ren,HX c]
 | .cons a b=>by simp[AV.ren,HX a,HX b]
 | .zs=>rfl
 | .nilp=>rfl
 | .nil=>rfl
 | .un n=>rfl
theorem MR(b:Blk):b.ren id=b:=by
 cases b with
 | dead=>rfl
 | map m kt vt es st=>cases m<;>simp[Blk.ren,RM.ren]
 | hole e t xs i p=>rfl
 | box a=>simp[Blk.ren,HX]
 | row e m t xs=>cases m<;>simp[Blk.ren,RM.ren]
def Scoped(bs:List Blk):Prop:=∀(k:Nat) (x:Blk),bs[k]?=some x→∀j∈x.ids,j<bs.length
theorem Yv{w:World}{g:G}{n k:Nat}{x:Blk}(h:BlkR w g n k x):∀j∈x.ids,j<n:=by
 cases x with
 | dead=>intro j hj; cases hj
 | map m kt vt es st=>exact h.1
 | hole e t xs i p=>intro j hj; cases hj
 | box a=>obtain⟨_,_,_,_,_,_,_,hx⟩:=h; exact AVX.idsLt a false hx
 | row e m t xs=>exact h.1
theorem Heap.scp{w:World}{g:G}{bs:List Blk}(H:Heap w g bs):Scoped bs:=fun k x hx=>Yv (H.blk k x hx)
def G.cut(g:G)(n:Nat):G:=⟨fun b=>match g.own b with | .lab k r=>if k<n then .lab k r else .no | t=>t,g.at_⟩
def G.glue(g g':G)(n:Nat):G:=⟨fun b=>match g.own b with | .lab k r=>if k<n then g'.own b else .lab k r | _=>g'.own b,fun k=>if k<n then g'.at_ k else g.at_ k⟩
section
variable {P:Program} {o:Oper} {e:Eff}
theorem Pv{g:G}{n k:Nat}(hk:k<n):Ren id g (g.cut n) n k:=⟨hk,rfl,fun b r h=>by simp[G.cut,h,hk]⟩
theorem V4 {σ:St} (hsnd:Snd P σ o e) (hm:e.mods=[]) {l l':List Blk} (hl':e.blks=σ.blks++l') (hor:l=[]∨l'=[]) {w:World} {g:G} {a:Act} (H:Heap w g (σ.blks++l)) (hsc:Scoped σ.blks) (hlen:σ.slots.length=a.tmps.size)
    (hsl:∀(i:Nat) (x:AV),σ.slots[i]?=some x→AVR w g (σ.blks++l).length x (a.tmps.getD i undef)∧∀k∈x.ids,k<σ.blks.length) {next:Act→World→Prop} {Q:Exit→Act→World→Prop}
    (hn:∀v w' g',Heap w' g' (σ.blks++(l++l'))→AVR w' g' (σ.blks++(l++l')).length e.val v→(∀k∈e.val.ids,k<e.blks.length)→Step [] (σ.blks++l).length w g w' g'→next (a.put o.dst v) w'):o.wp P a w next Q:=by
 rcases hor with rfl | rfl
 ·simp only[List.append_nil,List.nil_append] at H hsl hn
  refine hsnd.wp a w g ⟨H,hlen,fun i x hx=>(hsl i x hx).1⟩ next Q fun v w' g' H' hv hst=>?_
  rw[hm] at hst
  rw[hl'] at H' hv
  exact hn v w' g' H' hv (by rw[hl']; exact hv.idsLt) hst
 ·simp only[List.append_nil] at hl' hn
  let n:=σ.blks.length
  have hnl:n≤(σ.blks++l).length:=by simp[n]
  have hself:∀k,k<n→Ren id g (g.cut n) n k:=fun k hk=>Pv hk
  have himm:∀b,g.own b=.imm→(g.cut n).own b=.imm:=fun b h=>by simp[G.cut,h]
  have Hr:Heap w (g.cut n) σ.blks:=by
   refine⟨fun b hb=>by simp[G.cut,H.fresh b hb],fun k x hx=>?_⟩
   have hk:=At hx
   have h1:=H.blk k x (by rw[List.getElem?_append_left hk]; exact hx)
   have:=h1.ren (φ:=id) himm (hself k hk) fun j hj=>hself j (hsc k x hx j hj)
   rwa [MR] at this
  refine hsnd.wp a w (g.cut n) ⟨Hr,hlen,fun i x hx=>?_⟩ next Q fun v w' g' H' hv hst=>?_
  ·obtain⟨h1,h2⟩:=hsl i x hx
   have:=h1.ren (φ:=id) (g':=g.cut n) (n':=n) himm fun k hk=>hself k (h2 k hk)
   rwa [HX] at this
  ·rw[hm] at hst
   rw[hl'] at H' hv
   have hltw:∀b,g.own b≠.no→b<w.heap.size:=fun b h=>LY H h
   have hfar:∀b k r,g.own b=.lab k r→¬k<n→g'.own b=.no∧w'.heap[b]?=w.heap[b]?:=fun b k r h hk=>hst.no b (hltw b (by rw[h]; simp)) (by simp[G.cut,h,hk])
   have st:Step [] (σ.blks++l).length w g w' (g.glue g' n):=by
    refine⟨hst.os,hst.tape,hst.output,hst.size,fun b hb h=>?_,fun b h=>?_,fun b k r h hk hm=>?_,fun k hk=>?_⟩
    ·have:=hst.no b hb (by simp[G.cut,h])
     exact⟨by simp[G.glue,h,this.1],this.2⟩
    ·have:=hst.imm b (himm b h)
     exact⟨by simp[G.glue,h,this.1],this.2⟩
    ·by_cases hkn:k<n
     ·have:=hst.lab b k r (by simp[G.cut,h,hkn]) hkn (by simp)
      exact⟨by simp[G.glue,h,hkn,this.1],this.2⟩
     ·exact⟨by simp[G.glue,h,hkn],(hfar b k r h hkn).2⟩
    ·by_cases hkn:k<n
     ·have:=hst.at_ k hkn
      simp only[G.glue,if_pos hkn,this]; rfl
     ·simp[G.glue,hkn]
   have hback:∀k,k<n→Ren id g' (g.glue g' n) (σ.blks++l).length k:=fun k hk=>by
    refine⟨by show k<_; omega,by simp[G.glue,hk],fun b r h=>?_⟩
    simp only[G.glue,id]
    split
    ·rename_i k' r' hg
     split
     ·exact h
     ·rename_i hk'
      rw[(hfar b k' r' hg hk').1] at h; cases h
    ·exact h
   have himm':∀b,g'.own b=.imm→(g.glue g' n).own b=.imm:=fun b h=>by
    simp only[G.glue]
    split
    ·rename_i k' r' hg
     split
     ·exact h
     ·rename_i hk'
      rw[(hfar b k' r' hg hk').1] at h; cases h
    ·exact h
   refine hn v w' (g.glue g' n) ⟨fun b hb=>?_,fun k x hx=>?_⟩ ?_ (by rw[hl']; exact hv.idsLt) st
   ·have h1:=H'.fresh b hb
    have h2:=H.fresh b (Nat.le_trans hst.size hb)
    simp[G.glue,h2,h1]
   ·by_cases hk:k<n
    ·rw[List.getElem?_append_left hk] at hx
     have:=(H'.blk k x hx).ren (φ:=id) himm' (hback k hk) fun j hj=>hback j (hsc k x hx j hj)
     rwa [MR] at this
    ·exact(H.blk k x hx).step0 st (Nat.le_refl _) (At hx)
   ·have:=hv.ren (φ:=id) himm' fun k hk=>hback k (hv.idsLt k hk)
    rwa [HX] at this
end
end Go.Va
namespace Go.Va
theorem OP:∀(r l:List Nat) {x:Nat},x∈insN l r→x∈l∨x∈r
 | [],_,_,h=>.inl h
 | k::r,l,x,h=>by
  simp only[insN] at h
  split at h
  ·rcases OP r l h with h | h
   ·exact .inl h
   ·exact .inr (by simp[h])
  ·rcases OP r _ h with h | h
   ·rcases List.mem_append.1 h with h | h
    ·exact .inl h
    ·simp at h; exact .inr (by simp[h])
   ·exact .inr (by simp[h])
def AncOk(all:List Oper)(A:List (Nat×List Nat)):Prop:=∀i x,x∈ancOf A i→x∈dirOf all i∨∃d∈dirOf all i,x∈ancOf A d
theorem PF(all:List Oper):∀(is:List Nat) (A:List (Nat×List Nat)),AncOk all A→nodup is=true→(∀i∈is,∀p∈A,p.1≠i)→AncOk all (ancTab all is A)
 | [],_,h,_,_=>h
 | i::is,A,h,hn,hf=>by
  simp only[nodup,Bool.and_eq_true,Bool.not_eq_true'] at hn
  refine PF all is _ ?_ hn.2 ?_
  ·have keep:∀d y,y∈ancOf A d→y∈ancOf ((i,insN [] (dirOf all i++(dirOf all i).flatMap (ancOf A)))::A) d:=by
     intro d y hy
     simp only[ancOf]
     split
     ·rename_i he
      have he:i=d:=by simpa using he
      subst he
      have:∀(A:List (Nat×List Nat)),(∀p∈A,p.1≠i)→ancOf A i=[]:=by
       intro A
       induction A with
       | nil=>exact fun _=>rfl
       | cons p A ih =>
        intro hp
        obtain⟨k,l⟩:=p
        simp only[ancOf]
        rw[if_neg (by simpa using hp (k,l) (by simp))]
        exact ih fun q hq=>hp q (by simp[hq])
      rw[this A (hf i (by simp))] at hy
      cases hy
     ·exact hy
   intro j x hx
   by_cases he:i=j
   ·subst he
    simp only[ancOf,beq_self_eq_true,if_true] at hx
    rcases OP _ _ hx with hx | hx
    ·cases hx
    ·rcases List.mem_append.1 hx with hx | hx
     ·exact .inl hx
     ·obtain⟨d,hd,hx⟩:=List.mem_flatMap.1 hx
      exact .inr ⟨d,hd,keep d x hx⟩
   ·simp only[ancOf] at hx
    rw[if_neg (by simpa using he)] at hx
    rcases h j x hx with h | ⟨d,hd,hx⟩
    ·exact .inl h
    ·exact .inr ⟨d,hd,keep d x hx⟩
  ·intro j hj p hp
   rcases List.mem_cons.1 hp with rfl | hp
   ·intro e
    have e:i=j:=e
    subst e
    have:=hn.1
    simp[hj] at this
   ·exact hf j (by simp[hj]) p hp
def Closed(A:List (Nat×List Nat))(D:Nat→Bool):Prop:=∀i,D i=true→∀x∈ancOf A i,D x=true
theorem QN{all:List Oper}{A:List (Nat×List Nat)}(hA:AncOk all A){D:Nat→Bool}(hc:Closed A D){i:Nat}(hd:∀d∈dirOf all i,D d=true):∀x∈ancOf A i,D x=true:=fun x hx=>by
 rcases hA i x hx with h | ⟨d,hdi,h⟩
 ·exact hd x h
 ·exact hc d (hd d hdi) x h
structure Ent where
 i:Nat
 o:Oper
 σ:St
 e:Option Eff
def Ent.val(t:Ent):AV:=match t.e with | some e=>e.val | none=>.nil
def Ent.post(t:Ent):St:=match t.e with | some e=>t.σ.after t.o.dst e | none=>t.σ.skip t.o.dst
def Ent.bar(t:Ent):Bool:=match t.e with | some e=>!e.mods.isEmpty | none=>false
def Ent.grow(t:Ent):Bool:=match t.e with | some e=>e.mods.isEmpty&&decide (e.blks.length≠t.σ.blks.length)| none=>false
def Ent.Ok(en:Env)(all:List Oper)(t:Ent):Prop:=all[t.i]?=some t.o∧match t.e with | some e=>Want all t.σ t.o true∧exec en t.σ t.o some=some e | none=>Want all t.σ t.o false
inductive Tr (en:Env) (all:List Oper) (A:List (Nat×List Nat)):List Nat→List Nat→St→List Ent→St→Prop
 | nil {done aff:List Nat} {σ:St}:Tr en all A done aff σ [] σ
 | cons {done aff:List Nat} {σ σ':St} {t:Ent} {ts:List Ent} (hσ:t.σ=σ) (ok:t.Ok en all) (ha:∀x∈aff,x∈ancOf A t.i) (hb:t.bar=true→∀x∈done,x∈ancOf A t.i)
     (next:Tr en all A (t.i::done) (if t.bar||t.grow then t.i::aff else aff) t.post ts σ'):Tr en all A done aff σ (t::ts) σ'
section
variable {en:Env} {all:List Oper} {A:List (Nat×List Nat)}
theorem Ns(he:ENat en):∀{is done aff:List Nat} {σ σ':St},evAny en all A is done aff σ some=some σ'→∃ts:List Ent,ts.map (·.i)=is∧Tr en all A done aff σ ts σ'
 | [],done,aff,σ,σ',h=>by
  simp only[evAny,Option.some.injEq] at h; subst h
  exact⟨[],rfl,.nil⟩
 | i::is,done,aff,σ,σ',h=>by
  simp only[evAny] at h
  split at h
  ·cases h
  ·rename_i o ho
   split at h
   ·rename_i haff
    have haff':∀x∈aff,x∈ancOf A i:=fun x hx=>by have:=List.all_eq_true.1 haff x hx; simpa using this
    rcases I0 h with ⟨hw,h⟩| ⟨hw,h⟩
    ·rw[Ko en he] at h
     cases hx:exec en σ o some with
     | none=>rw[hx] at h; cases h
     | some e =>
      rw[hx] at h
      simp only[Option.bind_some] at h
      split at h
      ·rename_i hm
       obtain⟨ts,h1,h2⟩:=Ns he h
       refine⟨⟨i,o,σ,some e⟩::ts,by simp[h1],.cons rfl ⟨ho,hw,hx⟩ haff' (fun hb=>?_) ?_⟩
       ·simp[Ent.bar,hm] at hb
       ·simp only[Ent.bar,Ent.grow,hm,Bool.not_true,Bool.false_or,Bool.true_and,Ent.post]
        by_cases hl:e.blks.length=σ.blks.length
        ·simpa [hl] using h2
        ·simpa [hl] using h2
      ·rename_i hm
       split at h
       ·rename_i hdone
        obtain⟨ts,h1,h2⟩:=Ns he h
        refine⟨⟨i,o,σ,some e⟩::ts,by simp[h1],.cons rfl ⟨ho,hw,hx⟩ haff' (fun hb x hx=>?_) ?_⟩
        ·have:=List.all_eq_true.1 hdone x hx; simpa using this
        ·simp only[Ent.bar,Ent.post]
         have hm':e.mods.isEmpty=false:=by simpa using hm
         simpa [hm'] using h2
       ·cases h
    ·obtain⟨ts,h1,h2⟩:=Ns he h
     refine⟨⟨i,o,σ,none⟩::ts,by simp[h1],.cons rfl ⟨ho,hw⟩ haff' (fun hb=>by cases hb) ?_⟩
     simpa [Ent.bar,Ent.grow,Ent.post] using h2
   ·cases h
theorem Tr.affAnc:∀{ts:List Ent} {done aff:List Nat} {σ σ':St},Tr en all A done aff σ ts σ'→∀x∈aff,∀u∈ts,x∈ancOf A u.i
 | [],_,_,_,_,_,_,_,_,hu=>by cases hu
 | t::ts,_,_,_,_,.cons _ _ ha _ next,x,hx,u,hu=>by
  rcases List.mem_cons.1 hu with rfl | hu
  ·exact ha x hx
  ·exact next.affAnc x (by split<;>simp[hx]) u hu
theorem Tr.pairs:∀{pre post:List Ent} {t:Ent} {done aff:List Nat} {σ σ':St},Tr en all A done aff σ (pre++t::post) σ' →
    ((t.bar||t.grow)=true→∀u∈post,t.i∈ancOf A u.i)∧(t.bar=true→(∀x∈done,x∈ancOf A t.i)∧∀u∈pre,u.i∈ancOf A t.i)
 | [],post,t,done,aff,σ,σ',.cons hσ ok ha hb next=>by
  refine⟨fun h u hu=>next.affAnc t.i (by rw[if_pos h]; simp) u hu,fun h=>⟨hb h,fun u hu=>by cases hu⟩⟩
 | p::pre,post,t,done,aff,σ,σ',.cons hσ ok ha hb next=>by
  obtain⟨h1,h2⟩:=next.pairs
  refine⟨h1,fun h=>⟨fun x hx=>(h2 h).1 x (by simp[hx]),fun u hu=>?_⟩⟩
  rcases List.mem_cons.1 hu with rfl | hu
  ·exact(h2 h).1 u.i (by simp)
  ·exact(h2 h).2 u hu
theorem Tr.split:∀{pre ts:List Ent} {done aff:List Nat} {σ σ':St},Tr en all A done aff σ (pre++ts) σ'→∃aff' σ1,Tr en all A done aff σ pre σ1∧Tr en all A ((pre.map (·.i)).reverse++done) aff' σ1 ts σ'
 | [],ts,done,aff,σ,σ',h=>⟨aff,σ,.nil,h⟩
 | p::pre,ts,done,aff,σ,σ',.cons hσ ok ha hb next=>by
  obtain⟨aff',σ1,h1,h2⟩:=next.split
  exact⟨aff',σ1,.cons hσ ok ha hb h1,by simpa using h2⟩
theorem Tr.okAt:∀{ts:List Ent} {done aff:List Nat} {σ σ':St},Tr en all A done aff σ ts σ'→∀u∈ts,u.Ok en all
 | [],_,_,_,_,_,_,hu=>by cases hu
 | t::ts,_,_,_,_,.cons _ ok _ _ next,u,hu=>by
  rcases List.mem_cons.1 hu with rfl | hu
  ·exact ok
  ·exact next.okAt u hu
end
end Go.Va
namespace Go.Va
def curS(D:Nat→Bool):List Ent→List AV→List AV
 | [],sl=>sl
 | t::ts,sl=>curS D ts (if D t.i then putS t.o.dst t.val sl else sl)
def Ent.nb(t:Ent)(bs:List Blk):List Blk:=match t.e with | some e=>e.blks | none=>bs
def curB(D:Nat→Bool):List Ent→List Blk→List Blk
 | [],bs=>bs
 | t::ts,bs=>curB D ts (if D t.i&&t.grow then t.nb bs else bs)
theorem Pd{d:Option Nat}{v:AV}{sl:List AV}{k:Nat}(h:d≠some k):(putS d v sl)[k]?=sl[k]?:=by
 cases d with
 | none=>rfl
 | some d =>
  have:d≠k:=fun e=>h (by rw[e])
  simp[putS,List.getElem?_set,this]
theorem On{d:Option Nat}{v:AV}{sl sl':List AV}{k:Nat}(h:sl[k]?=sl'[k]?):(putS d v sl)[k]?=(putS d v sl')[k]?:=by
 cases d with
 | none=>exact h
 | some d =>
  simp only[putS,List.getElem?_set]
  split
  ·rename_i e; subst e
   have:d<sl.length↔d<sl'.length:=by
    constructor
    ·intro hl
     rw[List.getElem?_eq_getElem hl] at h
     exact At h.symm
    ·intro hl
     rw[List.getElem?_eq_getElem hl] at h
     exact At h
   by_cases hl:d<sl.length
   ·rw[if_pos hl,if_pos (this.1 hl)]
   ·rw[if_neg hl,if_neg (fun h=>hl (this.2 h))]
  ·exact h
theorem Q1{d:Nat}{v:AV}{sl:List AV}{x:AV}(h:(putS (some d) v sl)[d]?=some x):x=v:=by
 simp only[putS,List.getElem?_set,if_true] at h
 split at h
 ·injection h with h; exact h.symm
 ·cases h
theorem Nm(D:Nat→Bool):∀(ts:List Ent) (sl:List AV),(curS D ts sl).length=sl.length
 | [],_=>rfl
 | t::ts,sl=>by
  rw[curS,Nm D ts]
  split
  ·exact Np ..
  ·rfl
theorem Mg(D:Nat→Bool):∀(pre ts:List Ent) (sl:List AV),curS D (pre++ts) sl=curS D ts (curS D pre sl)
 | [],_,_=>rfl
 | t::pre,ts,sl=>by rw[List.cons_append,curS,curS,Mg D pre ts]
theorem Nl(D:Nat→Bool):∀(pre ts:List Ent) (bs:List Blk),curB D (pre++ts) bs=curB D ts (curB D pre bs)
 | [],_,_=>rfl
 | t::pre,ts,bs=>by rw[List.cons_append,curB,curB,Nl D pre ts]
theorem Ol{D:Nat→Bool}{k:Nat}:∀{ts:List Ent} {sl sl':List AV},sl[k]?=sl'[k]?→(curS D ts sl)[k]?=(curS D ts sl')[k]?
 | [],_,_,h=>h
 | t::ts,sl,sl',h=>by
  simp only[curS]
  refine Ol ?_
  split
  ·exact On h
  ·exact h
theorem MC{D:Nat→Bool}{k:Nat}:∀{ts:List Ent} {sl sl':List AV},(∀u∈ts,D u.i=false→u.o.dst≠some k)→sl[k]?=sl'[k]?→(curS D ts sl)[k]?=(curS (fun _=>true) ts sl')[k]?
 | [],_,_,_,h=>h
 | t::ts,sl,sl',hu,h=>by
  simp only[curS,if_true]
  refine MC (fun u hm=>hu u (by simp[hm])) ?_
  cases hD:D t.i with
  | true=>simp only[if_true]; exact On h
  | false =>
   simp only[Bool.false_eq_true,if_false]
   rw[Pd (hu t (by simp) hD)]
   exact h
theorem Me{D:Nat→Bool}{k:Nat}:∀{ts:List Ent} {sl:List AV},(∀u∈ts,D u.i=true→u.o.dst≠some k)→(curS D ts sl)[k]?=sl[k]?
 | [],_,_=>rfl
 | t::ts,sl,hu=>by
  simp only[curS]
  rw[Me fun u hm=>hu u (by simp[hm])]
  split
  ·rename_i h; exact Pd (hu t (by simp) h)
  ·rfl
theorem Wj{D D':Nat→Bool}:∀{ts:List Ent} {sl:List AV},(∀u∈ts,D u.i=D' u.i)→curS D ts sl=curS D' ts sl
 | [],_,_=>rfl
 | t::ts,sl,h=>by
  rw[curS,curS,h t (by simp)]
  exact Wj fun u hu=>h u (by simp[hu])
theorem VL{D D':Nat→Bool}:∀{ts:List Ent} {bs:List Blk},(∀u∈ts,D u.i=D' u.i)→curB D ts bs=curB D' ts bs
 | [],_,_=>rfl
 | t::ts,bs,h=>by
  rw[curB,curB,h t (by simp)]
  exact VL fun u hu=>h u (by simp[hu])
theorem Mm{D:Nat→Bool}:∀{ts:List Ent} {bs:List Blk},(∀u∈ts,D u.i=true→u.grow=false)→curB D ts bs=bs
 | [],_,_=>rfl
 | t::ts,bs,h=>by
  rw[curB]
  have:(D t.i&&t.grow)=false:=by
   cases hD:D t.i with
   | false=>rfl
   | true=>rw[h t (by simp) hD]; rfl
  rw[this]
  exact Mm fun u hu=>h u (by simp[hu])
section
variable {P:Program} {en:Env} {all:List Oper} {A:List (Nat×List Nat)}
theorem NW(he:EnvOk P en){t:Ent}(ok:t.Ok en all)(hb:t.bar=false):∃l,t.post.blks=t.σ.blks++l∧(t.grow=false→l=[])∧(∀e,t.e=some e→e.mods=[]∧e.blks=t.σ.blks++l)∧t.post.slots=putS t.o.dst t.val t.σ.slots:=by
 unfold Ent.Ok at ok
 unfold Ent.bar at hb
 unfold Ent.post Ent.grow Ent.val
 cases hq:t.e with
 | none=>exact⟨[],by simp[St.skip],fun _=>rfl,fun e h=>by(cases h),rfl⟩
 | some e =>
  rw[hq] at ok hb
  have hm:e.mods=[]:=by simpa using hb
  have hsnd:=Kn he ok.2.2
  obtain⟨l,hl⟩:=hsnd.ext hm
  refine⟨l,hl,fun h=>?_,fun e' h=>by injection h with h; subst h; exact⟨hm,hl⟩,?_⟩
  ·simp only[hm,List.isEmpty_nil,Bool.true_and,decide_eq_false_iff_not,ne_eq,Decidable.not_not] at h
   rw[hl,List.length_append] at h
   exact List.eq_nil_of_length_eq_zero (by omega)
  ·simp only[St.after,hm,dropS]
theorem Tr.allAt(he:EnvOk P en):∀{ts:List Ent} {done aff:List Nat} {σ σ':St},Tr en all A done aff σ ts σ'→(∀u∈ts,u.bar=false)→σ'.slots=curS (fun _=>true) ts σ.slots∧σ'.blks=curB (fun _=>true) ts σ.blks∧(∃l,σ'.blks=σ.blks++l)
 | [],_,_,_,_,.nil,_=>⟨rfl,rfl,[],(List.append_nil _).symm⟩
 | t::ts,done,aff,σ,σ',.cons hσ ok ha hb next,hbar=>by
  obtain⟨l,h1,h2,h3,h4⟩:=NW he ok (hbar t (by simp))
  obtain⟨i1,i2,l',i3⟩:=next.allAt he fun u hu=>hbar u (by simp[hu])
  subst hσ
  refine⟨by rw[i1,curS,if_pos rfl,h4],?_,l++l',by rw[i3,h1,List.append_assoc]⟩
  rw[i2,curB,Bool.true_and]
  congr 1
  cases hg:t.grow with
  | false=>rw[h1,h2 hg,List.append_nil]; rfl
  | true =>
   cases hq:t.e with
   | none=>simp[Ent.grow,hq] at hg
   | some e=>simp only[if_true,Ent.nb,hq]; rw[h1,(h3 e hq).2]
theorem Tr.curB_ext(he:EnvOk P en)(D:Nat→Bool):∀{ts:List Ent} {done aff:List Nat} {σ σ':St},Tr en all A done aff σ ts σ'→(∀u∈ts,u.bar=false)→∀(b0:List Blk),(∃l,σ.blks=b0++l)→∀bs,(∃l,bs=b0++l)→∃l,curB D ts bs=b0++l
 | [],_,_,_,_,_,_,_,_,_,h=>h
 | t::ts,done,aff,σ,σ',.cons hσ ok ha hb next,hbar,b0,hb0,bs,hbs=>by
  obtain⟨l,h1,h2,h3,h4⟩:=NW he ok (hbar t (by simp))
  obtain⟨l0,hl0⟩:=hb0
  subst hσ
  rw[curB]
  refine next.curB_ext he D (fun u hu=>hbar u (by simp[hu])) b0 ⟨l0++l,by rw[h1,hl0,List.append_assoc]⟩ _ ?_
  split
  ·cases hq:t.e with
   | none=>simpa [Ent.nb,hq] using hbs
   | some e=>exact⟨l0++l,by simp only[Ent.nb,hq]; rw[(h3 e hq).2,hl0,List.append_assoc]⟩
  ·exact hbs
end
theorem N4:∀{live:List Nat} {l:List AV} {j i:Nat},(j+i)∈live→(keepS live j l)[i]?=l[i]?
 | live,a::r,j,0,h=>by
  have h':j∈live:=h
  simp[keepS,h']
 | live,a::r,j,i+1,h=>by
  simp only[keepS,List.getElem?_cons_succ]
  exact N4 (by rwa [show j+1+i=j+(i+1) by omega])
 | _,[],_,_,_=>by simp[keepS]
theorem Qi:∀{live:List Nat} {l:List AV} {j i:Nat} {x:AV},(j+i)∉live→(keepS live j l)[i]?=some x→x=.un 0
 | live,a::r,j,0,x,h,hx=>by
  have:live.contains j=false:=by simpa using h
  simp only[keepS,this,Bool.false_eq_true,if_false,List.getElem?_cons_zero,Option.some.injEq] at hx
  exact hx.symm
 | live,a::r,j,i+1,x,h,hx=>by
  simp only[keepS,List.getElem?_cons_succ] at hx
  exact Qi (by rwa [show j+1+i=j+(i+1) by omega]) hx
 | _,[],_,_,_,_,hx=>by simp[keepS] at hx
def maskO(ops:Array Oper)(o:Oper)(σ:St):St:=⟨keepS (o.looksAt ops) 0 σ.slots,σ.blks⟩
theorem Vc{en:Env}{ops:Array Oper}{o:Oper}{σ:St}{K:Eff→Option Eff}:exec en (maskO ops o σ) o K=exec en σ o K:=by
 refine Tp rfl fun x hx=>?_
 cases x with
 | tmp t =>
  have:t∈o.looksAt ops:=List.mem_append_left _ (List.mem_filterMap.2 ⟨.tmp t,by simpa using hx,rfl⟩)
  simp only[St.opd,maskO]
  rw[N4 (j:=0) (by simpa using this)]
 | const v=>rfl
 | global g=>rfl
 | func f=>rfl
end Go.Va
namespace Go.Va
theorem ML{D:Nat→Bool}:∀{ts:List Ent} {bs:List Blk},(∀u∈ts,u.grow=true→D u.i=true)→curB D ts bs=curB (fun _=>true) ts bs
 | [],_,_=>rfl
 | t::ts,bs,h=>by
  rw[curB,curB]
  have:(D t.i&&t.grow)=(true&&t.grow):=by
   cases hg:t.grow with
   | false=>simp
   | true=>rw[h t (by simp) hg]
  rw[this]
  exact ML fun u hu=>h u (by simp[hu])
theorem Qj{t:Ent}{e:Eff}(h:t.e=some e):t.post.blks=e.blks:=by simp[Ent.post,h,St.after]
theorem Of{D:Nat→Bool}:∀{ts:List Ent} {bs:List Blk},curB D ts bs=bs∨∃u∈ts,D u.i=true∧u.grow=true∧curB D ts bs=u.post.blks
 | [],_=>.inl rfl
 | t::ts,bs=>by
  rw[curB]
  rcases Of (D:=D) (ts:=ts) (bs:=if D t.i&&t.grow then t.nb bs else bs) with h | ⟨u,hu,h1,h2,h3⟩
  ·rw[h]
   split
   ·rename_i hc
    rw[Bool.and_eq_true] at hc
    cases hq:t.e with
    | none=>exact .inl (by simp[Ent.nb,hq])
    | some e=>exact .inr ⟨t,by simp,hc.1,hc.2,by rw[Qj hq]; simp[Ent.nb,hq]⟩
   ·exact .inl rfl
  ·exact .inr ⟨u,by simp[hu],h1,h2,h3⟩
theorem Ot:∀{ts:List Ent} {sl:List AV} {k:Nat} {x:AV},(curS (fun _=>true) ts sl)[k]?=some x→sl[k]?=some x∨∃pre u post,ts=pre++u::post∧u.o.dst=some k∧x=u.val
 | [],_,_,_,h=>.inl h
 | t::ts,sl,k,x,h=>by
  simp only[curS,if_true] at h
  rcases Ot h with h | ⟨pre,u,post,e,h1,h2⟩
  ·by_cases hd:t.o.dst=some k
   ·rw[hd] at h
    exact .inr ⟨[],t,ts,rfl,hd,Q1 h⟩
   ·rw[Pd hd] at h
    exact .inl h
  ·exact .inr ⟨t::pre,u,post,by rw[e]; rfl,h1,h2⟩
structure Inv (P:Program) (A:List (Nat×List Nat)) (N:Nat) (done:List Nat) (seg:List Ent) (σ:St) (m:Nat) (a0:Act) (w0:World) (g0:G) (D:Nat→Bool) (a:Act) (w:World) (g:G):Prop where
 had:∀i∈done,D i=true
 only:∀i,D i=true→i∈done∨∃u∈seg,u.i=i
 closed:Closed A D
 dfr:a.defers=a0.defers
 len:σ.slots.length=a.tmps.size
 step:StepC m w0 g0 w g
 heap:Heap w g (curB D seg σ.blks)
 slots:∀(i:Nat) (x:AV),(curS D seg σ.slots)[i]?=some x→AVR w g (curB D seg σ.blks).length x (a.tmps.getD i undef)
 ids:∀u∈seg,D u.i=true→∀k∈u.val.ids,k<u.post.blks.length
 scp:∀u∈seg,D u.i=true→u.grow=true→Scoped u.post.blks
section
variable {P:Program} {en:Env} {ops:Array Oper} {A:List (Nat×List Nat)} {N m:Nat} {done aff:List Nat} {seg pre post:List Ent} {t:Ent} {σ σ1:St} {a0 a:Act} {w0 w:World} {g0 g:G} {D:Nat→Bool}
theorem Inv.find (he:EnvOk P en) (inv:Inv P A N done seg σ m a0 w0 g0 D a w g) (htr:Tr en ops.toList A done aff σ seg σ1) (hbar:∀u∈seg,u.bar=false) (hseg:seg=pre++t::post) (hun:D t.i=false) (hanc:∀x∈ancOf A t.i,D x=true)
    (hp1:∀u∈pre,u.i∈ancOf A t.i∨u.o.apart ops t.o=true) (hp2:∀u∈post,t.i∈ancOf A u.i∨t.o.apart ops u.o=true)
    (h0:∀(i:Nat) (x:AV),σ.slots[i]?=some x→∀k∈x.ids,k<σ.blks.length) (hsc0:Scoped σ.blks) :
    (∃l,curB D seg σ.blks=t.σ.blks++l∧curB D post t.σ.blks=t.σ.blks++l∧(t.grow=true→l=[]))∧Scoped t.σ.blks∧t.σ.slots.length=a.tmps.size∧(∀u∈post,D u.i=true→t.grow=false∧t.o.apart ops u.o=true)∧(∀u∈pre,u.grow=true→D u.i=true)∧curB D pre σ.blks=t.σ.blks ∧
     (∀k∈t.o.looksAt ops,∀x,t.σ.slots[k]?=some x→AVR w g (curB D seg σ.blks).length x (a.tmps.getD k undef)∧∀j∈x.ids,j<t.σ.blks.length):=by
 subst hseg
 obtain⟨aff',σt,htp,htt⟩:=htr.split
 have hpb:∀u∈pre,u.bar=false:=fun u hu=>hbar u (by simp[hu])
 obtain⟨hs1,hs2,l0,hs3⟩:=htp.allAt he hpb
 cases htt with
 | cons hσ ok ha hb next =>
  subst hσ
  have hgp:∀u∈pre,u.grow=true→D u.i=true:=fun u hu hg=>by
   obtain⟨p1,p2,rfl⟩:=List.append_of_mem hu
   have htr':Tr en ops.toList A done aff σ (p1++u::(p2++t::post)) σ1:=by simpa using htr
   exact hanc _ (htr'.pairs.1 (by simp[hg]) t (by simp))
  have hB:curB D pre σ.blks=t.σ.blks:=by rw[ML hgp,←hs2]
  have hpost:∀u∈post,D u.i=true→t.i∉ancOf A u.i:=fun u _ hd hm=>by
   rw[inv.closed _ hd _ hm] at hun; cases hun
  have hgt:t.grow=true→∀u∈post,D u.i=false:=fun hg u hu=>by
   cases hd:D u.i with
   | false=>rfl
   | true=>exact(hpost u hu hd (htr.pairs.1 (by simp[hg]) u hu)).elim
  have hsp:curB D (pre++t::post) σ.blks=curB D post t.σ.blks:=by
   rw[Nl,curB,hB,hun]; rfl
  obtain⟨l1,e1,_,_,_⟩:=NW he ok (hbar t (by simp))
  obtain⟨l,hl⟩:=next.curB_ext he D (fun u hu=>hbar u (by simp[hu])) t.σ.blks ⟨l1,e1⟩ t.σ.blks ⟨[],(List.append_nil _).symm⟩
  have hsc:Scoped t.σ.blks:=by
   rw[←hB]
   rcases Of (D:=D) (ts:=pre) (bs:=σ.blks) with h | ⟨u,hu,h1,h2,h3⟩
   ·rw[h]; exact hsc0
   ·rw[h3]; exact inv.scp u (by simp[hu]) h1 h2
  refine⟨⟨l,by rw[hsp]; exact hl,hl,fun hg=>?_⟩,hsc,by rw[hs1,Nm]; exact inv.len,fun u hu hd=>⟨?_,?_⟩,hgp,hB,fun k hk x hx=>⟨?_,?_⟩⟩
  ·have:=Mm (D:=D) (ts:=post) (bs:=t.σ.blks) fun u hu hd=>by rw[hgt hg u hu] at hd; cases hd
   rw[this] at hl
   have h2:t.σ.blks.length=t.σ.blks.length+l.length:=by rw[←List.length_append,←hl]
   exact List.eq_nil_of_length_eq_zero (by omega)
  ·cases hg:t.grow with
   | false=>rfl
   | true=>rw[hgt hg u hu] at hd; cases hd
  ·exact(hp2 u hu).resolve_left (hpost u hu hd)
  ·have h1:(curS D (pre++t::post) σ.slots)[k]?=t.σ.slots[k]?:=by
     rw[Mg,curS,hun]
     simp only[Bool.false_eq_true,if_false]
     rw[Me,MC,←hs1]
     ·intro u hu hd e
      rcases hp1 u hu with h | h
      ·rw[hanc _ h] at hd; cases hd
      ·exact(Oper.apart_spec h).1 k e hk
     ·rfl
     ·intro u hu hd e
      have:=(hp2 u hu).resolve_left (hpost u hu hd)
      exact(Oper.apart_spec this).2.2 k e hk
   exact inv.slots k x (by rw[h1]; exact hx)
  ·rw[hs1] at hx
   rcases Ot hx with h | ⟨p1,u,p2,e,h1,rfl⟩
   ·intro j hj
    have:=h0 k x h j hj
    rw[hs3,List.length_append]; omega
   ·intro j hj
    have hu:u∈pre:=by rw[e]; simp
    have hD:D u.i=true:=by
     rcases hp1 u hu with h | h
     ·exact hanc _ h
     ·exact((Oper.apart_spec h).1 k h1 hk).elim
    have:=inv.ids u (by simp[hu]) hD j hj
    subst e
    obtain⟨aff2,σu,q1,q2⟩:=htp.split
    cases q2 with
    | cons hσ' ok' ha' hb' next' =>
     obtain⟨_,_,l2,q3⟩:=next'.allAt he fun v hv=>hpb v (by simp[hv])
     rw[q3,List.length_append]; omega
end
end Go.Va
namespace Go.Va
theorem Lp{a:Act}{d:Option Tmp}{v:Value}{k:Nat}(h:d≠some k):(a.put d v).tmps.getD k undef=a.tmps.getD k undef:=by
 cases d with
 | none=>rfl
 | some d =>
  have:d≠k:=fun e=>h (by rw[e])
  simp[Act.put,Array.getElem?_setIfInBounds_ne this]
theorem Kd{a:Act}{k:Nat}{v:Value}(h:k<a.tmps.size):(a.put (some k) v).tmps.getD k undef=v:=by
 simp[Act.put,h]
section
variable {P:Program} {en:Env} {ops:Array Oper} {A:List (Nat×List Nat)} {N m:Nat} {done aff:List Nat} {seg pre post:List Ent} {t:Ent} {σ σ1:St} {a0 a:Act} {w0 w:World} {g0 g:G} {D D':Nat→Bool}
theorem Inv.next (he:EnvOk P en) (inv:Inv P A N done seg σ m a0 w0 g0 D a w g) (htr:Tr en ops.toList A done aff σ seg σ1) (hbar:∀u∈seg,u.bar=false) (hseg:seg=pre++t::post) (hun:D t.i=false) (hanc:∀x∈ancOf A t.i,D x=true)
    (hp1:∀u∈pre,u.i∈ancOf A t.i∨u.o.apart ops t.o=true) (hp2:∀u∈post,t.i∈ancOf A u.i∨t.o.apart ops u.o=true)
    (h0:∀(i:Nat) (x:AV),σ.slots[i]?=some x→∀k∈x.ids,k<σ.blks.length) (hsc0:Scoped σ.blks) (hm:m≤σ.blks.length)
    (hD':∀i,D' i=if i=t.i then true else D i) (hnp:∀u∈pre,u.i≠t.i) (hnq:∀u∈post,u.i≠t.i)
    {l l':List Blk} (hl:curB D seg σ.blks=t.σ.blks++l) (hl':t.post.blks=t.σ.blks++l') (hlg:t.grow=true→l=[]) (hlg':t.grow=false→l'=[])
    {v:Value} {w':World} {g':G} (H':Heap w' g' (t.σ.blks++(l++l'))) (hv:AVR w' g' (t.σ.blks++(l++l')).length t.val v) (hids:∀k∈t.val.ids,k<t.post.blks.length) (st:Step [] (curB D seg σ.blks).length w g w' g') :
    Inv P A N done seg σ m a0 w0 g0 D' (a.put t.o.dst v) w' g':=by
 obtain⟨_,hsc,hlen,hpost,hgp,hB,_⟩:=inv.find he htr hbar hseg hun hanc hp1 hp2 h0 hsc0
 have ext0:∃l0,t.σ.blks=σ.blks++l0:=by
  subst hseg
  obtain⟨aff',σt,htp,htt⟩:=htr.split
  cases htt with
  | cons hσ ok ha hb next =>
   subst hσ
   obtain⟨_,_,l0,hs3⟩:=htp.allAt he fun u hu=>hbar u (by simp[hu])
   exact⟨l0,hs3⟩
 have hok:t.Ok en ops.toList:=htr.okAt t (by rw[hseg]; simp)
 obtain⟨l1,e1,e2,e3,_⟩:=NW he hok (hbar t (by rw[hseg]; simp))
 have hll:l1=l':=List.append_cancel_left (e1.symm.trans hl')
 subst hll
 have hDt:D' t.i=true:=by rw[hD']; simp
 have hDp:∀u∈pre,D u.i=D' u.i:=fun u hu=>by rw[hD',if_neg (hnp u hu)]
 have hDq:∀u∈post,D u.i=D' u.i:=fun u hu=>by rw[hD',if_neg (hnq u hu)]
 have hB':curB D' seg σ.blks=t.σ.blks++(l++l1):=by
  have h1:curB D seg σ.blks=curB D post t.σ.blks:=by
   rw[hseg,Nl,curB,hB,hun]; rfl
  rw[hseg,Nl,curB,←VL hDp,hB,hDt,Bool.true_and,←VL hDq]
  cases hg:t.grow with
  | false =>
   simp only[Bool.false_eq_true,if_false]
   rw[←h1,hl,hlg' hg,List.append_nil]
  | true =>
   simp only[if_true]
   have hnone:∀u∈post,D u.i=true→u.grow=false:=fun u hu hd=>by
    have:=(hpost u hu hd).1
    rw[hg] at this; cases this
   rw[Mm hnone,hlg hg,List.nil_append]
   cases hq:t.e with
   | none=>simp[Ent.grow,hq] at hg
   | some e=>simp only[Ent.nb,hq]; exact(e3 e hq).2
 have hle:(curB D seg σ.blks).length≤(curB D' seg σ.blks).length:=by rw[hl,hB']; simp
 refine⟨fun i hi=>?_,fun i hi=>?_,fun i hi x hx=>?_,by rw[put_defers]; exact inv.dfr,by rw[LP]; exact inv.len,?_,by rw[hB']; exact H',fun k x hx=>?_,fun u hu hd=>?_,fun u hu hd hg=>?_⟩
 ·rw[hD']; split
  ·rfl
  ·exact inv.had i hi
 ·rw[hD'] at hi
  split at hi
  ·rename_i e; exact .inr ⟨t,by rw[hseg]; simp,e.symm⟩
  ·exact inv.only i hi
 ·rw[hD'] at hi ⊢
  split
  ·rfl
  ·split at hi
   ·rename_i e; subst e; exact hanc x hx
   ·exact inv.closed i hi x hx
 ·refine inv.step.trans (st.toC ?_)
  obtain⟨l0,hl0⟩:=ext0
  rw[hl,hl0]
  simp only[List.length_append]
  omega
 ·by_cases hd:t.o.dst=some k
  ·have hx':(curS D' seg σ.slots)[k]?=(putS (some k) t.val (curS D' pre σ.slots))[k]?:=by
     rw[hseg,Mg,curS,hDt,if_pos rfl,hd]
     refine Me fun u hu hd' e=>?_
     rw[←hDq u hu] at hd'
     exact(Oper.apart_spec (hpost u hu hd').2).2.1 k hd e
   rw[hx'] at hx
   have hval:=Q1 hx
   subst hval
   have hkl:k<a.tmps.size:=by
    have:=At hx
    rw[Np,Nm,inv.len] at this
    exact this
   rw[hd,Kd hkl,hB']
   exact hv
  ·rw[Lp hd]
   have hx':(curS D' seg σ.slots)[k]?=(curS D seg σ.slots)[k]?:=by
    rw[hseg,Mg,Mg,curS,curS,hDt,hun,←Wj hDq,←Wj hDp]
    simp only[if_true,Bool.false_eq_true,if_false]
    exact Ol (Pd hd)
   rw[hx'] at hx
   exact(inv.slots k x hx).step0 st hle
 ·rw[hD'] at hd
  split at hd
  ·rename_i e
   have hut:u=t:=by
    rw[hseg] at hu
    rcases List.mem_append.1 hu with hu | hu
    ·exact(hnp u hu e).elim
    ·rcases List.mem_cons.1 hu with hu | hu
     ·exact hu
     ·exact(hnq u hu e).elim
   subst hut
   exact hids
  ·exact inv.ids u hu hd
 ·rw[hD'] at hd
  split at hd
  ·rename_i e
   have hut:u=t:=by
    rw[hseg] at hu
    rcases List.mem_append.1 hu with hu | hu
    ·exact(hnp u hu e).elim
    ·rcases List.mem_cons.1 hu with hu | hu
     ·exact hu
     ·exact(hnq u hu e).elim
   subst hut
   rw[hlg hg,List.nil_append] at H'
   rw[hl']
   exact H'.scp
  ·exact inv.scp u hu hd hg
end
end Go.Va
namespace Go.Va
theorem Uz {w:World} {g:G} {n:Nat} {σ:St} {a:Act} {ops:Array Oper} {o:Oper} {b:Bool} (h:Want ops.toList σ o b) (hlen:σ.slots.length=a.tmps.size)
    (hs:∀k∈o.looksAt ops,∀x,σ.slots[k]?=some x→AVR w g n x (a.tmps.getD k undef)):Region.wanted o (yielded ops a.tmps)=b:=by
 cases h with
 | plain h=>simp[Region.wanted,h]
 | @guard g0 want d b h hd hb =>
  rw[Array.getElem?_toList] at hd
  have hk:d∈o.looksAt ops:=List.mem_append_right _ (by simp[h,hd])
  have h1:=Ks (hs d hk _ hb)
  have hl:d<a.tmps.size:=by rw[←hlen]; exact At hb
  have h2:a.tmps[d]?=some (.bool b):=by
   rw[Array.getElem?_eq_getElem hl]
   rw[Array.getD_eq_getD_getElem?,Array.getElem?_eq_getElem hl] at h1
   exact congrArg some h1
  simp[Region.wanted,h,yielded,hd,h2]
 | @nil g0 want d h hd hb =>
  rw[Array.getElem?_toList] at hd
  have hk:d∈o.looksAt ops:=List.mem_append_right _ (by simp[h,hd])
  have h1:a.tmps.getD d undef=.tuple #[]:=hs d hk _ hb
  have hl:d<a.tmps.size:=by rw[←hlen]; exact At hb
  have h2:a.tmps[d]?=some (.tuple #[]):=by
   rw[Array.getElem?_eq_getElem hl]
   rw[Array.getD_eq_getD_getElem?,Array.getElem?_eq_getElem hl] at h1
   exact congrArg some h1
  simp[Region.wanted,h,yielded,hd,h2]
section
variable {P:Program} {en:Env} {ops:Array Oper} {A:List (Nat×List Nat)} {N m:Nat} {done aff:List Nat} {seg pre post:List Ent} {t:Ent} {σ σ1:St} {a0 a:Act} {w0 w:World} {g0 g:G} {D D':Nat→Bool} {Q:Exit→Act→World→Prop}
theorem Inv.op (he:EnvOk P en) (inv:Inv P A N done seg σ m a0 w0 g0 D a w g) (htr:Tr en ops.toList A done aff σ seg σ1) (hbar:∀u∈seg,u.bar=false) (hseg:seg=pre++t::post) (hun:D t.i=false) (hanc:∀x∈ancOf A t.i,D x=true)
    (hp1:∀u∈pre,u.i∈ancOf A t.i∨u.o.apart ops t.o=true) (hp2:∀u∈post,t.i∈ancOf A u.i∨t.o.apart ops u.o=true)
    (h0:∀(i:Nat) (x:AV),σ.slots[i]?=some x→∀k∈x.ids,k<σ.blks.length) (hsc0:Scoped σ.blks) (hm:m≤σ.blks.length)
    (hD':∀i,D' i=if i=t.i then true else D i) (hnp:∀u∈pre,u.i≠t.i) (hnq:∀u∈post,u.i≠t.i) {K:Act→World→Prop}
    (hK:∀a' w' g',Inv P A N done seg σ m a0 w0 g0 D' a' w' g'→K a' w'):wpOp P ops Q t.i K a w:=by
 obtain⟨⟨l,hl,_,hlg⟩,hsc,hlen,hpost,hgp,hB,hsl⟩:=inv.find he htr hbar hseg hun hanc hp1 hp2 h0 hsc0
 have hok:t.Ok en ops.toList:=htr.okAt t (by rw[hseg]; simp)
 obtain⟨l1,e1,e2,e3,_⟩:=NW he hok (hbar t (by rw[hseg]; simp))
 have ho:ops[t.i]?=some t.o:=by rw[←Array.getElem?_toList]; exact hok.1
 have hslots:∀k∈t.o.looksAt ops,∀x,t.σ.slots[k]?=some x→AVR w g (curB D seg σ.blks).length x (a.tmps.getD k undef):=fun k hk x hx=>(hsl k hk x hx).1
 have hok2:=hok.2
 unfold wpOp
 simp only[ho]
 cases hq:t.e with
 | none =>
  rw[hq] at hok2
  rw[Uz hok2 hlen hslots]
  simp only[Bool.false_eq_true,if_false]
  have hg:t.grow=false:=by simp[Ent.grow,hq]
  have hval:t.val=.nil:=by simp[Ent.val,hq]
  have hl1:=e2 hg
  subst hl1
  refine hK _ _ g (inv.next he htr hbar hseg hun hanc hp1 hp2 h0 hsc0 hm hD' hnp hnq hl e1 hlg e2 ?_ ?_ ?_ (Step.refl _ _ _ _))
  ·rw[List.append_nil,←hl]; exact inv.heap
  ·rw[hval]; exact(show AVR _ _ _ .nil undef from rfl)
  ·rw[hval]; intro k hk; cases hk
 | some e =>
  rw[hq] at hok2
  rw[Uz hok2.1 hlen hslots]
  simp only[if_true]
  obtain⟨hmods,hblk⟩:=e3 e hq
  have hval:t.val=e.val:=by simp[Ent.val,hq]
  have hsnd:Snd P (maskO ops t.o t.σ) t.o e:=Kn he (by rw[Vc]; exact hok2.2)
  refine .inl (V4 hsnd hmods (l:=l) (l':=l1) hblk ?_ (w:=w) (g:=g) ?_ hsc (by simp only[maskO,Ny]; exact hlen) (fun i x hx=>?_) fun v w' g' H' hv hids st=>?_)
  ·cases hg:t.grow with
   | true=>exact .inl (hlg hg)
   | false=>exact .inr (e2 hg)
  ·show Heap w g (t.σ.blks++l)
   rw[←hl]; exact inv.heap
  ·show AVR w g (t.σ.blks++l).length x _∧∀k∈x.ids,k<t.σ.blks.length
   rw[←hl]
   by_cases hi:i∈t.o.looksAt ops
   ·simp only[maskO] at hx
    rw[N4 (j:=0) (by simpa using hi)] at hx
    exact hsl i hi x hx
   ·have:=Qi (j:=0) (by simpa using hi) hx
    subst this
    exact⟨Lt,fun k hk=>by cases hk⟩
  ·refine hK _ _ g' (inv.next he htr hbar hseg hun hanc hp1 hp2 h0 hsc0 hm hD' hnp hnq hl e1 hlg e2 H' (by rw[hval]; exact hv) (by rw[hval,Qj hq]; exact hids) ?_)
   rw[hl]; exact st
def lst(listed:Array Bool)(i:Nat):Bool:=listed.getD i false
theorem T5{listed:Array Bool}{i:Nat}(hi:i<listed.size)(j:Nat):lst (listed.setIfInBounds i true) j=if j=i then true else lst listed j:=by
 unfold lst
 by_cases h:j=i
 ·subst h
  simp[hi]
 ·rw[if_neg h,getD_set_ne false (Ne.symm h)]
theorem KT{listed:Array Bool}(hs:listed.size=ops.size){i:Nat}:i∈Region.ready .any ops listed↔i<ops.size∧lst listed i=false∧∀d∈dirOf ops.toList i,lst listed d=true:=by
 rw[mem_ready]
 constructor
 ·rintro⟨h1,o,ho,h2⟩
  have hi:i<ops.size:=(Array.getElem?_eq_some_iff.1 ho).1
  refine⟨hi,?_,fun d hd=>?_⟩
  ·unfold lst
   have hi':i<listed.size:=by omega
   simpa [Array.getD_eq_getD_getElem?,hi'] using h1
  ·unfold dirOf at hd
   rw[Array.getElem?_toList,ho] at hd
   obtain⟨e,he,hd⟩:=List.mem_filterMap.1 hd
   split at hd
   ·rename_i hb
    injection hd with hd; subst hd
    exact h2 e (by simpa using he) hb
   ·cases hd
 ·rintro⟨hi,h1,h2⟩
  have hi':i<listed.size:=by omega
  refine⟨?_,ops[i],Array.getElem?_eq_getElem hi,fun e he hb=>?_⟩
  ·unfold lst at h1
   simpa [Array.getD_eq_getD_getElem?,hi'] using h1
  ·refine h2 e.on ?_
   unfold dirOf
   rw[Array.getElem?_toList,Array.getElem?_eq_getElem hi]
   exact List.mem_filterMap.2 ⟨e,by simpa using he,by rw[if_pos hb]⟩
def left(D:Nat→Bool)(seg:List Ent):Nat:=(seg.filter fun u=>!D u.i).length
theorem Um(hseg:seg=pre++t::post)(hun:D t.i=false)(hD':∀i,D' i=if i=t.i then true else D i)(hnp:∀u∈pre,u.i≠t.i)(hnq:∀u∈post,u.i≠t.i):left D seg=left D' seg+1:=by
 have same:∀(l:List Ent),(∀u∈l,u.i≠t.i)→l.filter (fun u=>!D u.i)=l.filter fun u=>!D' u.i:=fun l h=>List.filter_congr fun u hu=>by rw[hD',if_neg (h u hu)]
 subst hseg
 unfold left
 rw[List.filter_append,List.filter_append,List.filter_cons,List.filter_cons,same pre hnp,same post hnq,hun,show D' t.i=true by rw[hD']; simp]
 simp
 omega
end
end Go.Va
