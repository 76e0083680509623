import Derived.MapKept
import Derived.Laws.Strings
import Derived.Laws.StructEq
import Derived.Test.YtlohhmmaibiimaaGreatK3
set_option linter.unusedVariables false
set_option linter.unusedSimpArgs false
namespace Go.Va
section
variable {w:World} {g:G} {n:Nat}
def G.thaw(g:G)(Z:List Nat):G:=⟨fun b=>match g.own b with | .lab k r=>if k∈Z then .imm else .lab k r | t=>t,g.at_⟩
theorem Ro{Z:List Nat}{b:Nat}(h:g.own b=.imm):(g.thaw Z).own b=.imm:=by simp[G.thaw,h]
theorem Lc{Z:List Nat}{b k:Nat}{r:List Nat}(h:g.own b=.lab k r)(hk:k∉Z):(g.thaw Z).own b=.lab k r:=by simp[G.thaw,h,hk]
theorem Al.frz{Z ks:List Nat}{b:Nat}(h:Al g.own ks b):Al (g.thaw Z).own (ks.filter fun k=>!decide (k∈Z)) b:=by
 rcases h with h | ⟨k,hk,r,h⟩
 ·exact .inl (Ro h)
 ·by_cases hz:k∈Z
  ·exact .inl (by simp[G.thaw,h,hz])
  ·exact .inr ⟨k,by simp[hk,hz],r,Lc h hz⟩
theorem Al.frz'{Z ks:List Nat}{b:Nat}(h:Al g.own ks b):Al (g.thaw Z).own ks b:=h.frz.mono fun k hk=>(List.mem_filter.1 hk).1
theorem Ul(a:AV):a.noN.isTup=a.isTup:=by cases a<;>rfl
theorem PJ(a:AV):a.noN.isUn=true∨a.noN.isAgg=a.isAgg:=by cases a<;>first | exact .inl rfl | exact .inr rfl
theorem Y9{a:AV}(h:a.isUn=true):a.noN.isUn=true:=by cases a<;>simp_all [AV.isUn,AV.noN]
theorem AVX.frz(Z:List Nat):∀(a:AV) (m:Bool) {cs:List Value},AVX w g n m a cs→AVX w (g.thaw Z) n m a.noN cs
 | .dat ks t x,false,cs,⟨hk,r⟩=>⟨hk,r.mono fun b a=>⟨a.frz',rfl⟩⟩
 | .zs,false,_,h=>h
 | .ref _,false,_,h=>h
 | .sld _ _,false,_,h=>h
 | .mp _,false,_,h=>h
 | .ptr _ _ _ _,false,_,h=>h
 | .rop ks t x,false,cs,⟨hk,b,off,ds,e,ha,r,hc⟩=>⟨hk,b,off,ds,e,ha.frz',r.mono fun b a=>⟨a.frz',rfl⟩,hc⟩
 | .nilp,false,_,h=>h
 | .nst _ _ _ _ _,false,_,⟨_,_,_,_,_,_,_,e,h1,_⟩=>by subst e; exact⟨rfl,by intro u hu; simp at hu; subst hu; exact h1⟩
 | .pr a b,false,_,⟨c,e,he,h1,h2⟩=>⟨c,e,he,AVX.frz Z a false h1,AVX.frz Z b false h2⟩
 | .fn f c,false,_,⟨vs,e,hx⟩=>⟨vs,e,AVX.frz Z c true hx⟩
 | .un k,false,_,h=>h
 | .cons a b,true,_,⟨v,r,e,h1,h2⟩=>by
  refine⟨v,r,e,?_,AVX.frz Z b true h2⟩
  rcases PJ a with hd | hd
  ·exact .inl hd
  ·exact h1.imp Y9 fun⟨cs,hx,hv⟩=>⟨cs,AVX.frz Z a false hx,by rw[hd]; exact hv⟩
 | .nil,true,_,h=>h
 | .cons _ _,false,_,h=>h.elim
 | .nil,false,_,h=>h.elim
 | .nst _ _ _ _ _,true,_,h=>h.elim
 | .dat _ _ _,true,_,h=>h.elim
 | .zs,true,_,h=>h.elim
 | .ref _,true,_,h=>h.elim
 | .sld _ _,true,_,h=>h.elim
 | .mp _,true,_,h=>h.elim
 | .ptr _ _ _ _,true,_,h=>h.elim
 | .rop _ _ _,true,_,h=>h.elim
 | .nilp,true,_,h=>h.elim
 | .pr _ _,true,_,h=>h.elim
 | .fn _ _,true,_,h=>h.elim
 | .un _,true,_,h=>h.elim
theorem AVR.frz(Z:List Nat){a:AV}{v:Value}(h:AVR w g n a v):AVR w (g.thaw Z) n a.noN v:=by
 cases ht:a.isTup with
 | false =>
  rw[AVR.iff ht] at h
  rw[AVR.iff (by rw[Ul]; exact ht)]
  rcases PJ a with hd | hd
  ·exact .inl hd
  ·exact h.imp Y9 fun⟨cs,h,hv⟩=>⟨cs,AVX.frz Z a false h,by rw[hd]; exact hv⟩
 | true =>
  cases a with
  | cons a b=>obtain⟨vs,e,h⟩:=h; exact⟨vs,e,AVX.frz Z (.cons a b) true h⟩
  | nil=>exact h
  | _=>cases ht
theorem BlkR.frz{Z:List Nat}{k:Nat}(hk:k∉Z){b:Blk}(h:BlkR w g n k b):BlkR w (g.thaw Z) n k b.noN:=by
 cases b with
 | dead=>trivial
 | map m kt vt es st =>
  obtain⟨hmi,b,arr,clock,ha,ho,hh,hnd,hm⟩:=h
  refine⟨hmi,b,arr,clock,ha,Lc ho hk,hh,hnd,hm.on fun i x c r=>?_⟩
  cases m with
  | deep=>exact OwR.mono (fun b q hb=>⟨Lc hb hk,rfl⟩) r
  | sh ks=>exact RdR.mono (fun b a=>⟨a.frz',rfl⟩) r
 | hole e t xs i p =>
  obtain⟨h1,h2,h3,h4,h5,u,o,x0,b,cur,ds,q1,q2,q3,ha,ho,hh,c1,c2,c3,c4,hc⟩:=h
  exact⟨h1,h2,h3,h4,h5,u,o,x0,b,cur,ds,q1,q2,q3,ha,Lc ho hk,hh,c1,c2,c3,c4,hc.mono fun i x c r=>r.mono fun b q hb=>⟨Lc hb hk,rfl⟩⟩
 | box a =>
  obtain⟨h1,b,cs,e,ha,ho,hh,hx⟩:=h
  exact⟨h1,b,cs,e,ha,Lc ho hk,hh,AVX.frz Z a false hx⟩
 | row e m t xs =>
  obtain⟨hmi,hlen,hes,hpos,hr⟩:=h
  refine⟨hmi,hlen,hes,hpos,hr.imp id fun⟨b,cur,ds,ha,ho,hh,h1,h2,h3,h4,hc⟩=>⟨b,cur,ds,ha,Lc ho hk,hh,h1,h2,h3,h4,?_⟩⟩
  cases m with
  | deep=>exact hc.mono fun i x c r=>r.mono fun b q hb=>⟨Lc hb hk,rfl⟩
  | sh ks=>exact hc.mono fun x c r=>r.mono fun b a=>⟨a.frz',rfl⟩
theorem SB{bs:List Blk}(H:Heap w g bs)(Z:List Nat):Heap w (g.thaw Z) ((Blk.kill bs Z).map Blk.noN):=by
 refine⟨fun b hb=>by simp[G.thaw,H.fresh b hb],fun k x hx=>?_⟩
 rw[List.getElem?_map] at hx
 cases hq:(Blk.kill bs Z)[k]? with
 | none=>rw[hq] at hx; cases hx
 | some y =>
  rw[hq] at hx
  injection hx with hx; subst hx
  rw[List.length_map,AJ]
  rcases Jh hq with rfl | ⟨hn,h⟩
  ·trivial
  ·exact(H.blk k y h).frz hn
theorem LO:∀a:AV,a.hasN=false→a.noN=a
 | .pr a b,h=>by
  simp only[AV.hasN,Bool.or_eq_false_iff] at h
  simp[AV.noN,LO a h.1,LO b h.2]
 | .cons a b,h=>by
  simp only[AV.hasN,Bool.or_eq_false_iff] at h
  simp[AV.noN,LO a h.1,LO b h.2]
 | .fn f c,h=>by simp[AV.noN,LO c h]
 | .dat _ _ _,_=>rfl
 | .zs,_=>rfl
 | .ref _,_=>rfl
 | .sld _ _,_=>rfl
 | .mp _,_=>rfl
 | .ptr _ _ _ _,_=>rfl
 | .rop _ _ _,_=>rfl
 | .nilp,_=>rfl
 | .nil,_=>rfl
 | .nst _ _ _ _ _,h=>by cases h
 | .un _,_=>rfl
theorem W5{b:Blk}(h:b.hasN=false):b.noN=b:=by
 cases b with
 | box a=>simp[Blk.noN,LO a h]
 | _=>rfl
theorem VM{bs:List Blk}(H:Heap w g bs)(hn:bs.all (fun b=>!b.hasN)=true)(Z:List Nat):Heap w (g.thaw Z) (Blk.kill bs Z):=by
 have:=SB H Z
 rwa [List.map_congr_left (g:=id) (fun b hb=>?_),List.map_id] at this
 obtain⟨j,hj⟩:=List.getElem?_of_mem hb
 rcases Jh hj with h | ⟨_,h⟩
 ·subst h; rfl
 ·have:=List.all_eq_true.1 hn b (List.mem_of_getElem? h)
  exact W5 (by simpa using this)
theorem Sq:∀(Z:List Nat) (a b:List Blk),(∀k∈Z,a.length≤k)→∃l,Blk.kill (a++b) Z=a++l
 | [],a,b,_=>⟨b,rfl⟩
 | k::Z,a,b,h=>by
  have hk:=h k (by simp)
  simp only[Blk.kill]
  rw[List.set_append_right _ _ hk]
  exact Sq Z a _ fun j hj=>h j (by simp[hj])
end
end Go.Va
namespace Go.Va
section
variable {w:World} {g:G} {n:Nat} {v:Value}
theorem T7{k l:Nat}(h:AVR w g n (.sld k l) v):k<n∧v=.slice (g.at_ k).a l l:=by
 obtain⟨cs,⟨hk,e⟩,hv⟩:=A0 rfl rfl h
 subst e
 exact⟨hk,by simpa [asVal,AV.isAgg] using hv.symm⟩
theorem Aeb{k l:Nat}(hk:k<n):AVR w g n (.sld k l) (.slice (g.at_ k).a l l):=Bg rfl (cs:=[_]) ⟨hk,rfl⟩ (by simp[asVal,AV.isAgg])
theorem V6{a:AV}(h:a.isPtr=true)(hv:AVR w g n a v):AVX w g n false a [v]∧v.cells=#[v]:=by
 unfold AV.isPtr at h
 split at h
 ·obtain⟨cs,hx,hv⟩:=A0 rfl rfl hv
  have e:cs=[v]:=by simpa [asVal,AV.isAgg] using hv
  subst e
  obtain⟨_,_,_,b,_,e⟩:=hx
  exact⟨⟨‹_›,‹_›,‹_›,b,‹_›,e⟩,by injection e with e; subst e; rfl⟩
 ·obtain⟨cs,hx,hv⟩:=A0 rfl rfl hv
  have e:cs=[v]:=by simpa [asVal,AV.isAgg] using hv
  subst e
  obtain⟨hk,b,off,ds,e,hr⟩:=hx
  exact⟨⟨hk,b,off,ds,e,hr⟩,by injection e with e; subst e; rfl⟩
 ·cases h
theorem Y7:∀{l:List AV} {vs:List Value},(∀a∈l,a.isPtr=true)→ArgsR w g n l vs→AVX w g n false (prs l) vs∧∀v∈vs,v.cells=#[v]
 | [],[],_,_=>⟨⟨fun k h=>(by cases h),rfl⟩,fun v h=>(by cases h)⟩
 | a::l,v::vs,h,⟨h1,h2⟩=>by
  obtain⟨hx,hc⟩:=V6 (h a (by simp)) h1
  obtain⟨hy,hd⟩:=Y7 (fun b hb=>h b (by simp[hb])) h2
  exact⟨⟨[v],vs,rfl,hx,hy⟩,fun u hu=>by rcases List.mem_cons.1 hu with rfl | hu; exact hc; exact hd u hu⟩
 | [],_::_,_,h=>h.elim
 | _::_,[],_,h=>h.elim
end
section
variable {w:World} {g:G} {bs:List Blk} {m:Nat}
theorem ZT{a b:AV}{f:Nat}(h:a.fld f=some b):a.isAgg=true:=by
 cases a with
 | dat ks t x =>
  cases t<;>first | rfl | (cases f<;>simp[AV.fld,fldD] at h)
 | pr _ _=>rfl
 | _=>cases f<;>simp[AV.fld] at h
theorem TX (H:Heap w g bs) {c:Co} {a a':AV} {nb:List Blk} (h:coV bs c a=some (a',nb)) {cs:List Value} (hx:AVX w g bs.length false a cs) :
    ∃g',Heap w g' (bs++nb)∧AVX w g' (bs++nb).length false a' cs∧a'.isAgg=a.isAgg∧Step [] bs.length w g w g':=by
 have stay:∀a':AV,AVX w g bs.length false a' cs→a'.isAgg=a.isAgg→∃g',Heap w g' (bs++[])∧AVX w g' (bs++[]).length false a' cs∧a'.isAgg=a.isAgg∧Step [] bs.length w g w g':=fun a' h1 h2=>⟨g,by rw[List.append_nil]; exact H,by rw[List.append_nil]; exact h1,h2,Step.refl _ _ _ _⟩
 cases c with
 | dat t =>
  simp only[coV] at h
  split at h
  ·rename_i x hr
   simp only[Option.some.injEq,Prod.mk.injEq] at h
   obtain⟨rfl,rfl⟩:=h
   have:=J1 H t a x cs hr hx
   exact stay _ ⟨this.2,this.1⟩ (Nz hr).symm
  ·cases h
 | deps ks =>
  simp only[coV] at h
  split at h
  ·rename_i l t x
   split at h
   ·rename_i hc
    simp only[Option.some.injEq,Prod.mk.injEq] at h
    obtain⟨rfl,rfl⟩:=h
    rw[Bool.and_eq_true,Bool.or_eq_true] at hc
    have hks:∀k∈ks,k<bs.length:=fun k hk=>by have:=List.all_eq_true.1 hc.2 k hk; simpa using this
    refine stay _ ⟨hks,AeD hx.2 fun hf b hb=>?_⟩ rfl
    rcases hc.1 with h | h
    ·rw[h] at hf; cases hf
    ·exact hb.mono fun k hk=>by have:=List.all_eq_true.1 h k hk; simpa using this
   ·cases h
  ·cases h
 | row p e t deep =>
  simp only[coV] at h
  split at h
  ·rename_i hz
   split at h
   ·rename_i hrow
    split at h
    ·rename_i b hb
     simp only[Option.some.injEq,Prod.mk.injEq] at h
     obtain⟨rfl,rfl⟩:=h
     obtain⟨_,hpos⟩:=Sl hrow
     obtain⟨c0,c1,c2,e1,ho,⟨ad,hc1⟩,_⟩:=JT p a cs .zs hx hz
     let g':=g.upd (fun j r=>.lab j r) none bs.length ⟨ad,0,0,t.size⟩
     have st:Step [] bs.length w g w g':=Step.upd H.fresh rfl rfl rfl (Nat.le_refl _) (fun _ _ _=>rfl) (fun q h=>by cases h) (Nat.le_refl _) fun _ _ _ _=>rfl
     have hat:g'.at_ bs.length=⟨ad,0,0,t.size⟩:=by simp[g',G.upd]
     have hx':=hx.step0 st (Nat.le_succ bs.length)
     obtain⟨d0,d1,d2,e2,ho2,⟨ad',hd1⟩,hset⟩:=JT p a cs .zs hx' hz
     have hlen:c0.length=d0.length:=by rw[ho] at ho2; injection ho2
     have had:ad=ad':=by
      have h1:cs[c0.length]?=some (.slice ad 0 0):=by
       rw[e1,hc1,List.append_assoc,List.getElem?_append_right (Nat.le_refl _),Nat.sub_self]; rfl
      have h2:cs[d0.length]?=some (.slice ad' 0 0):=by
       rw[e2,hd1,List.append_assoc,List.getElem?_append_right (Nat.le_refl _),Nat.sub_self]; rfl
      rw[hlen,h2] at h1
      injection h1 with h1
      injection h1 with h1
      exact h1.symm
     have hnew:=hset (.ref bs.length) b d1 hb ⟨Nat.lt_succ_self _,by rw[hat,hd1,had]⟩
     rw[←e2] at hnew
     have hids:(if(t.flat||deep)=true then RM.deep else RM.sh []).ids=[]:=by split<;>rfl
     refine⟨g',H.push st (J4 H.fresh (Nat.le_refl _) fun q h=>by cases h) ⟨(by rw[hids]; intro j hj; cases hj),by rw[hat]; rfl,by rw[hat],hpos,.inl ⟨rfl,by rw[hat]⟩⟩,by rw[List.length_append]; exact hnew,?_,st⟩
     cases p with
     | nil =>
      simp only[AV.getP,Option.some.injEq] at hz
      simp only[AV.setP,Option.some.injEq] at hb
      subst hz; subst hb; rfl
     | cons f p =>
      simp only[AV.getP] at hz
      split at hz
      ·rename_i q hq
       simp only[AV.setP,hq] at hb
       split at hb
       ·rw[MJ hb,ZT hq]
       ·cases hb
      ·cases hz
    ·cases h
   ·cases h
  ·simp only[Option.some.injEq,Prod.mk.injEq] at h
   obtain⟨rfl,rfl⟩:=h
   exact stay _ hx rfl
theorem Pg{k:Nat}{c:Co}{bs bs':List Blk}(h:coB k c bs=some bs'):bs.length≤bs'.length:=by
 unfold coB at h
 split at h
 ·split at h
  ·injection h with h; subst h; simp
  ·cases h
 ·cases h
theorem Zh(H:Heap w g bs){k:Nat}{c:Co}{bs':List Blk}(h:coB k c bs=some bs'):∃g',Heap w g' bs'∧Step [] bs.length w g w g':=by
 unfold coB at h
 split at h
 ·rename_i a0 hb
  split at h
  ·rename_i a' nb hco
   injection h with h; subst h
   obtain⟨hlen,bb,cs,e,ha,ho,hh,hx⟩:=H.blk k _ hb
   obtain⟨g',h1,h2,h3,h4⟩:=TX H hco hx
   have hk:=At hb
   have hll:(bs.set k (.box a')++nb).length=(bs++nb).length:=by simp
   refine⟨g',⟨h1.fresh,fun j x hj=>?_⟩,h4⟩
   rw[hll]
   rw[List.getElem?_append] at hj
   split at hj
   ·rename_i hjl
    rw[List.length_set] at hjl
    rw[List.getElem?_set] at hj
    split at hj
    ·rename_i ek; subst ek
     injection hj with hj; subst hj
     have hl:=h4.lab bb k [] ho hk (by simp)
     exact⟨by rw[h4.at_ k hk]; exact hlen,bb,cs,e,by rw[h4.at_ k hk]; exact ha,hl.1,hh,h2⟩
    ·exact h1.blk j x (by rw[List.getElem?_append_left hjl]; exact hj)
   ·rename_i hjl
    rw[List.length_set] at hjl hj
    exact h1.blk j x (by rw[List.getElem?_append_right (by omega)]; exact hj)
  ·cases h
 ·cases h
theorem We:∀{l:List (Nat×Co)} {bs bs':List Blk} {g:G},finB l bs=some bs'→Heap w g bs→bs.length≤bs'.length∧∃g',Heap w g' bs'∧Step [] bs.length w g w g'
 | [],bs,bs',g,h,H=>by
  simp only[finB,Option.some.injEq] at h; subst h
  exact⟨Nat.le_refl _,g,H,Step.refl _ _ _ _⟩
 | (k,c)::r,bs,bs',g,h,H=>by
  simp only[finB] at h
  split at h
  ·rename_i b1 h1
   obtain⟨g1,H1,s1⟩:=Zh H h1
   obtain⟨hl,g2,H2,s2⟩:=We h H1
   exact⟨Nat.le_trans (Pg h1) hl,g2,H2,s1.trans s2 (Pg h1)⟩
  ·cases h
theorem SI:∀{l:List (Nat×Co)} {bs bs':List Blk},finB l bs=some bs'→bs.length≤bs'.length
 | [],bs,bs',h=>by simp only[finB,Option.some.injEq] at h; subst h; exact Nat.le_refl _
 | (k,c)::r,bs,bs',h=>by
  simp only[finB] at h
  split at h
  ·rename_i b1 h1
   exact Nat.le_trans (Pg h1) (SI h)
  ·cases h
theorem Sv:∀{l:List (Nat×List (List Nat)×Co)} {args:List AV} {bs bs':List Blk},preB l args bs=some bs'→∃l',finB l' bs=some bs'
 | [],args,bs,bs',h=>⟨[],h⟩
 | (j,q,c)::r,args,bs,bs',h=>by
  simp only[preB] at h
  split at h
  ·split at h
   ·rename_i k _
    split at h
    ·rename_i b1 h1
     obtain⟨l',h2⟩:=Sv h
     exact⟨(k,c)::l',by simp only[finB,h1]; exact h2⟩
    ·cases h
   ·cases h
  ·cases h
end
theorem Qz:∀(ps:List (Nat×Value)) (pre post:List Value),post.length=ps.length→ps.map (·.1)=List.range' pre.length ps.length→(∀p∈ps,p.2.cells=#[p.2]) →
    Instr.fill (fun i=>some (i*1,1)) (pre++post).toArray ps=some (pre++ps.map (·.2)).toArray
 | [],pre,post,hl,_,_=>by
  have:post=[]:=List.eq_nil_of_length_eq_zero hl
  subst this; simp[Instr.fill]
 | (i,v)::ps,pre,q::post,hl,hr,hc=>by
  have hc1:v.cells=#[v]:=hc (i,v) (by simp)
  simp only[List.map_cons,List.length_cons,List.range'_succ,List.cons.injEq] at hr
  obtain⟨rfl,hr⟩:=hr
  have ih:=Qz ps (pre++[v]) post (by simpa using hl) (by simpa using hr) (fun p hp=>hc p (by simp[hp]))
  unfold Instr.fill
  simp only[hc1]
  have e:(Array.zipIdx #[v]).foldl (fun cs (x:Value×Nat)=>cs.setIfInBounds (pre.length*1+x.2) x.1) (pre++q::post).toArray=(pre++[v]++post).toArray:=by
   simp
  rw[e,ih]
  simp
 | _::_,_,[],hl,_,_=>by simp at hl
section
variable {P:Program} {σ:St} {o:Oper} {en:Env} {e:Eff}
theorem Tc{c:Call}(ho:o.op=.call c)(hc:c.callee=.builtin .len){k n:Nat}(hx:opds σ c.args=[.sld k n]){t:TypeId}{r:List TypeId}(hts:c.argTypes.toList=t::r){ti:TI}(ht:TOk P t ti)(hs:ti.isSl=true):Snd P σ o ⟨.int .i64 (n:Int),σ.blks,[]⟩:=by
 obtain⟨a0,ha,hx⟩:=args1 hx
 refine .of_qt <| KM (s:=fun ρ=>Builtin.len_ c.argTypes o.type #[ρ a0]) (fun ρ=>?_) fun a w g hst=>?_
 ·rw[Kw ho hc,ha]; simp[builtin]
 ·have h0:=Av hst a0
  rw[hx] at h0
  obtain⟨hk,e⟩:=T7 h0
  rw[e]
  have hts:c.argTypes[0]?=some t:=by rw[←Array.getElem?_toList,hts]; rfl
  exact A5 (by simp[Builtin.len_,hts,underlying,AU ht hs,goInt])
theorem TK {t:TypeId} {x i:Operand} (ho:o.op=.indexAddr t x i) {ti te:TI} (ht:TOk P t ti) (hte:TOk P ti.elem te) (hs:ti.isSl=true) (hsz:te.ty.size=1) {k n:Nat} (hx:σ.opd x=.sld k n) {ks:List Nat} {kk:IntKind} {j:Int} (hi:σ.opd i=.dat ks (.int kk) j)
    (h0:0≤j) (h1:j<(n:Int)) {b:AV} (hb:σ.blks[k]?=some (.box b)):Snd P σ o ⟨.ptr k 0 [j.toNat] j.toNat,σ.blks,[]⟩ :=
 .of_qt <| KM (s:=fun ρ=>Instr.indexAt t (ρ x) (ρ i)) (fun ρ=>by simp[execOp,ho]) fun a w g hst=>by
  have hix:=Av hst i
  rw[hi] at hix
  have hie:=D4 hix
  have hxx:=Av hst x
  rw[hx] at hxx
  obtain⟨hk,e⟩:=T7 hxx
  have hu:=AU ht hs
  obtain⟨hl,bb,cs,el,ha,_⟩:=hst.heap.blk k _ hb
  rw[hie,e,ha]
  refine⟨.pointer (some ⟨bb,(0:Int).toNat*(g.at_ k).esz+j.toNat,none⟩),?_,P1 hk (Int.le_refl _) (by rw[hl]; decide) ha⟩
  simp[Instr.indexAt,asIntOf,underlying,hu,h0,h1,DV hte,hsz,addN]
end
end Go.Va
namespace Go.Va
section
variable {P:Program} {σ:St} {o:Oper} {en:Env} {e:Eff}
theorem Vf{t:TypeId}{x:Operand}(ho:o.op=.load t x){ti:TI}(ht:TOk P t ti)(hsl:ti.isSl=true)(h:stealA σ.blks ti (σ.opd x) some=some e):Snd P σ o e:=by
 unfold stealA at h
 split at h
 ·rename_i k i p f hx
  split at h
  ·rename_i el tr xs hb
   split at h
   ·rename_i u hty
    split at h
    ·rename_i ys x0 hg hs
     split at h
     ·rename_i hc
      injection h with h; subst h
      obtain⟨hti,hof,hu⟩:=hc
      refine⟨by simp[Ar],fun h=>(by cases h),fun a w g hst next Q hn=>?_⟩
      have hxx:=Av hst x
      rw[hx] at hxx
      obtain⟨hk,h0,h1,b,hba,hpe⟩:=Im hxx
      obtain⟨ad,c,hcell⟩:=UR hst.heap hb h1 hg hs hof hba
      obtain⟨g1,H1,st1,hav1,_,hhole⟩:=PV hst.heap hb h1 hg hof hu hba hcell hs
      have hrun:(execOp a.eval o).run P w=.ok (.value (.slice ad ys.length c)) w:=by
       have hl:=KA (P:=P) (w:=w) ht (b:=b) (off:=i.toNat*(g.at_ k).esz+f) (cs:=[.slice ad ys.length c]) (by rw[hti]; rfl) (fun j v hv=>by
        match j,hv with
        | 0,hv=>simp at hv; subst hv; exact hcell
        | j+1,hv=>simp at hv) (fun _=>rfl)
       obtain⟨v,hv,hsv⟩:=hl
       rw[hti] at hsv
       have:[Value.slice ad ys.length c]=[v]:=hsv
       injection this with h2 _; subst h2
       simp[execOp,ho,hpe,Instr.loadAt,Instr.sureAddr,hv]
      unfold Oper.wp
      rw[hrun]
      have hl1:((dropB [k] σ.blks).set k (Blk.hole el tr xs i p)++[Blk.row 0 .deep u ys]).length=σ.blks.length+1:=by simp[Ar]
      refine hn _ w g1 ⟨H1.fresh,fun j y hj=>?_⟩ (by rw[hl1]; exact hav1) st1
      rw[hl1]
      have hlb:((dropB [k] σ.blks).set k Blk.dead++[Blk.row 0 .deep u ys]).length=σ.blks.length+1:=by simp[Ar]
      by_cases hjk:j=k
      ·subst hjk
       rw[List.getElem?_append_left (by rw[List.length_set,Ar]; exact hk),List.getElem?_set_self (by rw[Ar]; exact hk)] at hj
       injection hj with hj; subst hj
       exact hhole rfl hty h0 _
      ·have:=H1.blk j y (by
         rw[List.getElem?_append] at hj ⊢
         simp only[List.length_set] at hj ⊢
         split at hj
         ·rename_i hlt
          rw[if_pos hlt]
          rw[List.getElem?_set_ne (fun h=>hjk h.symm)] at hj ⊢
          exact hj
         ·rename_i hlt
          rw[if_neg hlt]; exact hj)
       rwa [hlb] at this
     ·cases h
    ·cases h
   ·cases h
  ·cases h
 ·cases h
structure KOk (P:Program) (kid:TypeId) (kt:Ty):Prop where
 check:∀(w:World) (em:Bool) (x:kt.V),(Instr.checkKey em 10000 kid (keyV kt x)).run P w=.ok () w
 find:∀(w:World) (x:kt.V) (ks:List kt.V) (ms:List MapEntry),ms.map (·.key)=ks.map (keyV kt) →
  (∀j:Nat,(∀i,i<j→∀y,ks[i]?=some y→keyEq kt x y=false)→(∀y,ks[j]?=some y→keyEq kt x y=true)→(Instr.findKey kid (keyV kt x) ms).run P w=.ok (if h:j<ms.length then some (j,ms[j].val) else none) w)
 stays:∀(w:World) (x:kt.V),(Instr.keyThatStays (keyV kt x) (keyV kt x)).run P w=.ok (keyV kt x) w
 eq:∀x y:kt.V,keyEq kt x y=true→x=y
theorem MD{s t:ByteArray}:strEq s t=true↔s=t:=by
 unfold strEq
 rw[ByteArray.toList_eq,ByteArray.toList_eq,beq_iff_eq]
 constructor
 ·intro h
  cases s with
  | mk a=>cases t with
   | mk b=>simp at h; rw[h]
 ·rintro rfl; rfl
theorem baBeq{s t:ByteArray}:(s==t)=true↔s=t:=by
 constructor
 ·intro h
  have:(s.data==t.data)=true:=h
  rw[beq_iff_eq] at this
  cases s; cases t; simp at this; rw[this]
 ·rintro rfl
  show(s.data==s.data)=true
  simp
theorem SE{s t:ByteArray}:strEq s t=(s==t):=by rw[Bool.eq_iff_iff,MD,baBeq]
theorem OA {kt:Ty} {d:TypeDesc} (hs:∀x y:kt.V,Instr.sameNow d (keyV kt x) (keyV kt y)=some (keyEq kt x y)) {x:kt.V}:∀(ks:List kt.V) (ms:List MapEntry) (n j:Nat),ms.map (·.key)=ks.map (keyV kt) →
    (∀i,i<j→∀y,ks[i]?=some y→keyEq kt x y=false)→(∀y,ks[j]?=some y→keyEq kt x y=true)→Instr.findNow d (keyV kt x) ms n=some (if h:j<ms.length then some (n+j,ms[j].val) else none)
 | [],ms,n,j,hm,_,_=>by
  have:ms=[]:=by simpa using hm
  subst this; rfl
 | k::ks,m::ms,n,0,hm,_,h1=>by
  simp only[List.map_cons,List.cons.injEq] at hm
  simp[Instr.findNow,hm.1,hs,h1 k rfl]
 | k::ks,m::ms,n,j+1,hm,h0,h1=>by
  simp only[List.map_cons,List.cons.injEq] at hm
  have ih:=OA hs ks ms (n+1) j hm.2 (fun i hi y hy=>h0 (i+1) (by omega) y (by simpa using hy)) (fun y hy=>h1 y (by simpa using hy))
  simp only[Instr.findNow,hm.1,hs,h0 0 (by omega) k rfl]
  rw[ih]
  by_cases hj:j<ms.length
  ·simp[hj]; omega
  ·simp[hj]
 | k::ks,[],n,j,hm,_,_=>by simp at hm
theorem KOk.plain {kid:TypeId} {kt:Ty} {d:TypeDesc} (hu:P.underlying kid=some d) (hs:∀x y:kt.V,Instr.sameNow d (keyV kt x) (keyV kt y)=some (keyEq kt x y)) (hc:∀(w:World) (em:Bool) (x:kt.V),(Instr.checkKey em 10000 kid (keyV kt x)).run P w=.ok () w)
    (hst:∀(w:World) (x:kt.V),(Instr.keyThatStays (keyV kt x) (keyV kt x)).run P w=.ok (keyV kt x) w) (heq:∀x y:kt.V,keyEq kt x y=true→x=y):KOk P kid kt where
 check:=hc
 find w x ks ms hm j h0 h1:=by
  have:=OA hs (x:=x) ks ms 0 j hm h0 h1
  rw[Nat.zero_add] at this
  simp[Instr.findKey,underlying,hu,this]
 stays:=hst
 eq:=heq
theorem ZM{kid:TypeId}{q q':IntKind}(hu:P.underlying kid=some (.int q')):KOk P kid (.int q) :=
 .plain hu (fun x y=>by simp[keyV,Instr.sameNow,keyEq]) (fun w em x=>by
     rw[show(10000:Nat)=9999+1 from rfl,Instr.checkKey]
     simp[underlying,hu,keyV]) (fun w x=>by
     have:Instr.sameBits 10000 (.int q x) (.int q x)=true:=by rw[show(10000:Nat)=9999+1 from rfl]; simp[Instr.sameBits]
     simp[Instr.keyThatStays,keyV,this]) fun x y h=>by simpa [keyEq] using h
theorem Aao{kid:TypeId}(hu:P.underlying kid=some .string):KOk P kid .str :=
 .plain hu (fun x y=>by simp[keyV,Instr.sameNow,keyEq,SE]) (fun w em x=>by
     rw[show(10000:Nat)=9999+1 from rfl,Instr.checkKey]
     simp[underlying,hu,keyV]) (fun w x=>by
     have:Instr.sameBits 10000 (.string x) (.string x)=true:=by rw[show(10000:Nat)=9999+1 from rfl]; simp only[Instr.sameBits]; exact baBeq.2 rfl
     simp[Instr.keyThatStays,keyV,this]) fun x y h=>MD.1 (by simpa [keyEq] using h)
theorem Nq{e2:TypeId}{te:TI}(hte:TOk P e2 te){q:IntKind}(hq:te.ty=.int q){w:World}{cs:Array Value}{i:Nat}{v:Value}(h:cs[i]?=some v):(part e2 cs i).run P w=.ok v w:=by
 have ha:=N3 (w:=w) hte
 rw[hq] at ha
 simp[part,ha,Ty.isAgg,h]
theorem NY{e2:TypeId}{q q':IntKind}(hu:P.underlying e2=some (.int q'))(d:Nat)(w:World)(a b:Int):(Op.equalIn (d+1) e2 (.int q a) (.int q b)).run P w=.ok (a==b) w:=by
 simp[Op.equalIn,underlying,hu]
theorem PW {kid e2:TypeId} (hu:P.underlying kid=some (.array 2 e2)) {te:TI} (hte:TOk P e2 te) {q:IntKind} (hq:te.ty=.int q) (w:World) (a b c d:Int) :
    (Op.equal kid (.agg #[.int q a,.int q b]) (.agg #[.int q c,.int q d])).run P w=.ok (a==c&&b==d) w:=by
 have hs:=DV (w:=w) hte
 rw[hq] at hs
 have hi:=Ly hte hq
 have p0:∀x y:Int,(part e2 #[.int q x,.int q y] 0).run P w=.ok (.int q x) w:=fun x y=>Nq hte hq rfl
 have p1:∀x y:Int,(part e2 #[.int q x,.int q y] 1).run P w=.ok (.int q y) w:=fun x y=>Nq hte hq rfl
 have eq:=fun x y=>NY (P:=P) (q:=q) hi 9998 w x y
 unfold Op.equal Op.maxDepth
 rw[show(10000:Nat)=9999+1 from rfl,Op.equalIn]
 simp only[Sem.run_bind,run_underlying hu,Result.andThen_ok,hs]
 simp only[Std.Legacy.Range.forIn_eq_forIn_range',Std.Legacy.Range.size,Nat.sub_zero,Nat.add_sub_cancel,Nat.div_one,List.range'_succ,List.range'_zero,List.forIn_cons,List.forIn_nil]
 by_cases h1:a=c<;>by_cases h2:b=d<;>simp[p0,p1,eq,h1,h2,Ty.size]
theorem My {kid e2:TypeId} (hu:P.underlying kid=some (.array 2 e2)) {te:TI} (hte:TOk P e2 te) {q:IntKind} (hq:te.ty=.int q) (w:World) {x:(Ty.pair (.int q) (.pair (.int q) .unit)).V} :
    ∀(ks:List (Ty.pair (.int q) (.pair (.int q) .unit)).V) (ms:List MapEntry) (n j:Nat),ms.map (·.key)=ks.map (keyV (.pair (.int q) (.pair (.int q) .unit))) →
    (∀i,i<j→∀y,ks[i]?=some y→keyEq (.pair (.int q) (.pair (.int q) .unit)) x y=false)→(∀y,ks[j]?=some y→keyEq (.pair (.int q) (.pair (.int q) .unit)) x y=true) →
    (Instr.findAsking kid (keyV (.pair (.int q) (.pair (.int q) .unit)) x) ms n).run P w=.ok (if h:j<ms.length then some (n+j,ms[j].val) else none) w
 | [],ms,n,j,hm,_,_=>by
  have:ms=[]:=by simpa using hm
  subst this; simp[Instr.findAsking]
 | k::ks,m::ms,n,0,hm,_,h1=>by
  simp only[List.map_cons,List.cons.injEq] at hm
  have:=h1 k rfl
  simp only[keyEq,Bool.and_true] at this
  simp[Instr.findAsking,hm.1,keyV,PW hu hte hq,this]
 | k::ks,m::ms,n,j+1,hm,h0,h1=>by
  simp only[List.map_cons,List.cons.injEq] at hm
  have ih:=My hu hte hq w ks ms (n+1) j hm.2 (fun i hi y hy=>h0 (i+1) (by omega) y (by simpa using hy)) (fun y hy=>h1 y (by simpa using hy))
  have:=h0 0 (by omega) k rfl
  simp only[keyEq,Bool.and_true] at this
  simp only[Instr.findAsking,hm.1,Sem.run_bind]
  rw[show(Op.equal kid (keyV (.pair (.int q) (.pair (.int q) .unit)) x) (keyV (.pair (.int q) (.pair (.int q) .unit)) k)).run P w=.ok false w by simp[keyV,PW hu hte hq,this]]
  simp only[Result.andThen_ok,Bool.false_eq_true,if_false]
  rw[ih]
  by_cases hj:j<ms.length
  ·simp[hj]; omega
  ·simp[hj]
 | k::ks,[],n,j,hm,_,_=>by simp at hm
theorem AaV{kid e2:TypeId}(hu:P.underlying kid=some (.array 2 e2)){te:TI}(hte:TOk P e2 te){q:IntKind}(hq:te.ty=.int q):KOk P kid (.pair (.int q) (.pair (.int q) .unit)) where
 check w em x:=by
  have hs:=DV (w:=w) hte
  rw[hq] at hs
  have hi:=Ly hte hq
  have p0:(part e2 #[.int q x.1,.int q x.2.1] 0).run P w=.ok (.int q x.1) w:=Nq hte hq rfl
  have p1:(part e2 #[.int q x.1,.int q x.2.1] 1).run P w=.ok (.int q x.2.1) w:=Nq hte hq rfl
  have hc:∀y,(Instr.checkKey em 9999 e2 (.int q y)).run P w=.ok () w:=fun y=>by
   rw[show(9999:Nat)=9998+1 from rfl,Instr.checkKey]
   simp[underlying,hi]
  rw[show(10000:Nat)=9999+1 from rfl,Instr.checkKey]
  simp only[Sem.run_bind,run_underlying hu,Result.andThen_ok,keyV]
  simp only[Std.Legacy.Range.forIn_eq_forIn_range',Std.Legacy.Range.size,Nat.sub_zero,Nat.add_sub_cancel,Nat.div_one,List.range'_succ,List.range'_zero,List.forIn_cons,List.forIn_nil]
  simp[hs,p0,p1,hc,Ty.size]
 find w x ks ms hm j h0 h1:=by
  have hf:=My hu hte hq w (x:=x) ks ms 0 j hm h0 h1
  rw[Nat.zero_add] at hf
  simp only[Instr.findKey,underlying,Sem.run_bind,run_underlying hu]
  cases ms with
  | nil=>simp[underlying,hu,Instr.findNow]
  | cons m ms =>
   cases ks with
   | nil=>simp at hm
   | cons k ks =>
    have hk:=(List.cons.inj (by simpa using hm:m.key::ms.map (·.key)=keyV _ k::ks.map (keyV _))).1
    have:Instr.findNow (.array 2 e2) (keyV (.pair (.int q) (.pair (.int q) .unit)) x) (m::ms) 0=none:=by simp[Instr.findNow,Instr.sameNow]
    simp[underlying,hu,this,hf]
 stays w x:=by
  have:Instr.sameBits 10000 (.agg #[.int q x.1,.int q x.2.1]) (.agg #[.int q x.1,.int q x.2.1])=true:=by
   rw[show(10000:Nat)=9998+1+1 from rfl]; simp[Instr.sameBits]
  simp[Instr.keyThatStays,keyV,this]
 eq x y h:=by
  simp only[keyEq,Bool.and_eq_true,beq_iff_eq,Bool.and_true] at h
  obtain⟨x1,x2,_⟩:=x
  obtain⟨y1,y2,_⟩:=y
  simp at h; rw[h.1,h.2]
theorem KOk.of{tab:Tab}{kid:TypeId}{tk:TI}(ht:tabOk P tab=true)(hk:TOk P kid tk)(h:tk.ty.keyed=true)(hh:keyTOk tab tk=true):KOk P kid tk.ty:=by
 unfold keyTOk at hh
 split at hh
 ·rename_i q r hq
  simp only[Bool.and_eq_true,beq_iff_eq] at hh
  obtain⟨harr,hh⟩:=hh
  split at hh
  ·rename_i te hte
   simp only[Bool.and_eq_true,beq_iff_eq] at hh
   have hu:=hk.arr (by omega)
   rw[harr] at hu
   rw[hh.2]
   exact AaV hu (TOk.of ht hte) hh.1
  ·cases hh
 ·cases hq:tk.ty with
  | int q=>exact ZM (Ly hk hq)
  | str=>exact Aao (J3 hk hq)
  | pair a b =>
   rename_i hno
   rw[hq] at h
   cases a with
   | int q=>exact(hno q b hq).elim
   | _=>simp[Ty.keyed] at h
  | _=>rw[hq] at h; simp[Ty.keyed] at h
theorem Abe{w:World}{A:Nat→Prop}:∀{kt:Ty} {x:kt.V} {cs:List Value} {v:Value},kt.keyed=true→RdR w A kt x cs→asVal kt.isAgg cs v→v=keyV kt x
 | .int k,x,cs,v,_,h,hv=>by
  have h:cs=[.int k x]:=h
  subst h
  simpa [asVal,Ty.isAgg,keyV] using hv.symm
 | .str,x,cs,v,_,h,hv=>by
  have h:cs=[.string x]:=h
  subst h
  simpa [asVal,Ty.isAgg,keyV] using hv.symm
 | .pair a b,x,cs,v,hk,h,hv=>by
  cases a with
  | int q=>cases b with
   | pair b c=>cases b with
    | int q'=>cases c with
     | unit =>
      obtain⟨c1,d1,rfl,h1,c2,d2,rfl,h2,h3⟩:=h
      have h1:c1=[.int q x.1]:=h1
      have h2:c2=[.int q' x.2.1]:=h2
      have h3:d2=[]:=h3
      subst h1; subst h2; subst h3
      simpa [asVal,Ty.isAgg,keyV] using hv
     | _=>simp[Ty.keyed] at hk
    | _=>simp[Ty.keyed] at hk
   | _=>simp[Ty.keyed] at hk
  | _=>simp[Ty.keyed] at hk
 | .bool,_,_,_,hk,_,_=>by simp[Ty.keyed] at hk
 | .unit,_,_,_,hk,_,_=>by simp[Ty.keyed] at hk
 | .sl _,_,_,_,hk,_,_=>by simp[Ty.keyed] at hk
 | .opq _,_,_,_,hk,_,_=>by simp[Ty.keyed] at hk
theorem VT{w:World}{g:G}{bs:List Blk}(H:Heap w g bs){kt:Ty}{a:AV}{key:kt.V}{v:Value}(hk:kt.keyed=true)(h:rd bs kt a=some key)(hv:AVR w g bs.length a v):v=keyV kt key:=by
 obtain⟨h1,h2⟩:=LX h
 obtain⟨cs,hcs,hv⟩:=A0 h1 h2 hv
 rw[Nz h] at hv
 exact Abe hk (J1 H kt a key cs h hcs).1 hv
theorem Og:∀{kt:Ty},kt.keyed=true→∀{x:kt.V},keyEq kt x x=true
 | .int _,_,x=>by simp[keyEq]
 | .str,_,x=>MD.2 rfl
 | .pair a b,hk,x=>by
  cases a with
  | int q=>cases b with
   | pair b c=>cases b with
    | int q'=>cases c with
     | unit=>simp[keyEq]
     | _=>simp[Ty.keyed] at hk
    | _=>simp[Ty.keyed] at hk
   | _=>simp[Ty.keyed] at hk
  | _=>simp[Ty.keyed] at hk
 | .bool,hk,_=>by simp[Ty.keyed] at hk
 | .unit,hk,_=>by simp[Ty.keyed] at hk
 | .sl _,hk,_=>by simp[Ty.keyed] at hk
 | .opq _,hk,_=>by simp[Ty.keyed] at hk
theorem QZ {kt vt:Ty} (k:kt.V):∀(es:List (kt.V×vt.V)),(∃(j:Nat) (x:kt.V×vt.V),es[j]?=some x∧keyEq kt k x.1=true∧(∀i,i<j→∀y,es[i]?=some y→keyEq kt k y.1=false)∧mgetO kt vt es k=some x.2∧∀v,mput kt vt es k v=es.set j (k,v)) ∨
    ((∀(i:Nat) y,es[i]?=some y→keyEq kt k y.1=false)∧mgetO kt vt es k=none∧∀v,mput kt vt es k v=es++[(k,v)])
 | []=>.inr ⟨fun i y h=>by simp at h,rfl,fun _=>rfl⟩
 | x::r=>by
  cases hk:keyEq kt k x.1 with
  | true=>exact .inl ⟨0,x,rfl,hk,fun i hi=>by omega,by simp[mgetO,hk],fun v=>by simp[mput,hk]⟩
  | false =>
   rcases QZ k r with ⟨j,y,h1,h2,h3,h4,h5⟩| ⟨h1,h2,h3⟩
   ·refine .inl ⟨j+1,y,by simpa using h1,h2,fun i hi z hz=>?_,by simp[mgetO,hk,h4],fun v=>by simp[mput,hk,h5]⟩
    cases i with
    | zero=>simp at hz; subst hz; exact hk
    | succ i=>exact h3 i (by omega) z (by simpa using hz)
   ·refine .inr ⟨fun i z hz=>?_,by simp[mgetO,hk,h2],fun v=>by simp[mput,hk,h3]⟩
    cases i with
    | zero=>simp at hz; subst hz; exact hk
    | succ i=>exact h1 i z (by simpa using hz)
section
variable {w:World} {own:Nat→Tag} {k:Nat} {md:RM} {kt vt:Ty} {st:Option kt.V}
theorem MapR.keys:∀{i:Nat} {es:List (kt.V×vt.V)} {ms:List MapEntry},MapR w own k md kt vt st i es ms→ms.map (·.key)=(es.map (·.1)).map (keyV kt)
 | _,[],_,h=>by cases h; rfl
 | _,x::xs,_,⟨m,r,e,h1,_,h3⟩=>by subst e; simp[h1,MapR.keys h3]
theorem MapR.len{i:Nat}{es:List (kt.V×vt.V)}{ms:List MapEntry}(h:MapR w own k md kt vt st i es ms):ms.length=es.length:=by
 have:=congrArg List.length h.keys
 simpa using this
theorem MapR.get:∀{i:Nat} {es:List (kt.V×vt.V)} {ms:List MapEntry} {j:Nat} {x:kt.V×vt.V},MapR w own k md kt vt st i es ms→es[j]?=some x →
    ∃m,ms[j]?=some m∧m.key=keyV kt x.1∧(st=some x.1∨∃cs,ElR w own k md vt (i+j) x.2 cs∧asVal vt.isAgg cs m.val)
 | i,x::xs,_,0,y,⟨m,r,e,h1,h2,h3⟩,hj=>by
  simp at hj; subst hj; subst e
  exact⟨m,rfl,h1,h2⟩
 | i,x::xs,_,j+1,y,⟨m,r,e,h1,h2,h3⟩,hj=>by
  subst e
  obtain⟨m',h4,h5,h6⟩:=h3.get (j:=j) (by simpa using hj)
  exact⟨m',by simpa using h4,h5,by rw[show i+(j+1)=i+1+j by omega]; exact h6⟩
 | _,[],_,_,_,_,hj=>by simp at hj
theorem MapR.mk:∀{i:Nat} {es:List (kt.V×vt.V)} {ms:List MapEntry},ms.length=es.length→(∀(j:Nat) (x:kt.V×vt.V) (m:MapEntry),es[j]?=some x→ms[j]?=some m→m.key=keyV kt x.1∧(st=some x.1∨∃cs,ElR w own k md vt (i+j) x.2 cs∧asVal vt.isAgg cs m.val))→MapR w own k md kt vt st i es ms
 | _,[],ms,hl,_=>by
  cases ms with
  | nil=>rfl
  | cons _ _=>simp at hl
 | i,x::xs,[],hl,_=>by simp at hl
 | i,x::xs,m::ms,hl,h=>by
  obtain⟨h1,h2⟩:=h 0 x m rfl rfl
  refine⟨m,ms,rfl,h1,h2,MapR.mk (by simpa using hl) fun j y m' hy hm=>?_⟩
  have:=h (j+1) y m' (by simpa using hy) (by simpa using hm)
  rwa [show i+(j+1)=i+1+j by omega] at this
end
theorem WE{t:Nat}{ti:TI}(h:TOk P t ti)(w:World):∃z,(zeroValue t).run P w=.ok z w∧asVal ti.ty.isAgg (zeroC ti.ty) z:=by
 obtain⟨i,z,hi,_,_,hz,hzc,ha⟩:=h.info
 refine⟨z,by simp[zeroValue,typeInfo,hi,hz],?_⟩
 cases hg:ti.ty.isAgg with
 | true =>
  obtain⟨c,rfl⟩:=ha.2 hg
  have:c.toList=zeroC ti.ty:=hzc
  simp[asVal,←this]
 | false =>
  have hn:∀c,z≠.agg c:=fun c e=>by have:=ha.1 ⟨c,e⟩; rw[hg] at this; cases this
  have:z.cells=#[z]:=by cases z<;>first | rfl | exact(hn _ rfl).elim
  rw[this] at hzc
  simp[asVal,←hzc]
theorem S9 {w:World} {g:G} {k:Nat} {md:RM} {kt vt:Ty} {st:Option kt.V} {kid:TypeId} (K:KOk P kid kt) {es:List (kt.V×vt.V)} {arr:Array MapEntry} (hm:MapR w g.own k md kt vt st 0 es arr.toList) (key:kt.V) :
    (∃(j:Nat) (x:kt.V×vt.V) (m:MapEntry),es[j]?=some x∧x.1=key∧arr[j]?=some m∧(∀i,i<j→∀y,es[i]?=some y→keyEq kt key y.1=false)∧mgetO kt vt es key=some x.2∧(∀v,mput kt vt es key v=es.set j (key,v))∧(st=some x.1∨∃cs,ElR w g.own k md vt j x.2 cs∧asVal vt.isAgg cs m.val)∧m.key=keyV kt key ∧
     (Instr.findKey kid (keyV kt key) arr.toList).run P w=.ok (some (j,m.val)) w) ∨
    ((∀(i:Nat) y,es[i]?=some y→keyEq kt key y.1=false)∧mgetO kt vt es key=none∧(∀v,mput kt vt es key v=es++[(key,v)])∧(Instr.findKey kid (keyV kt key) arr.toList).run P w=.ok none w):=by
 rcases QZ key es with ⟨j,x,h1,h2,h3,h4,h5⟩| ⟨h1,h2,h3⟩
 ·obtain⟨m,h6,h7,h8⟩:=hm.get h1
  have hjl:j<arr.toList.length:=At h6
  have hf:=K.find w key (es.map (·.1)) arr.toList hm.keys j (fun i hi y hy=>by
   rw[List.getElem?_map] at hy
   cases hq:es[i]? with
   | none=>rw[hq] at hy; cases hy
   | some z=>rw[hq] at hy; injection hy with hy; subst hy; exact h3 i hi z hq) (fun y hy=>by
   rw[List.getElem?_map,h1] at hy
   injection hy with hy; subst hy; exact h2)
  have hmv:arr.toList[j]=m:=by
   have:=List.getElem?_eq_getElem hjl
   rw[this] at h6; injection h6
  rw[dif_pos hjl,hmv] at hf
  have e:=(K.eq _ _ h2).symm
  exact .inl ⟨j,x,m,h1,e,by rw[←Array.getElem?_toList]; exact h6,h3,h4,h5,by rw[Nat.zero_add] at h8; exact h8,by rw[h7,e],hf⟩
 ·have hf:=K.find w key (es.map (·.1)) arr.toList hm.keys es.length (fun i hi y hy=>by
    rw[List.getElem?_map] at hy
    cases hq:es[i]? with
    | none=>rw[hq] at hy; cases hy
    | some z=>rw[hq] at hy; injection hy with hy; subst hy; exact h1 i z hq) (fun y hy=>by
    rw[List.getElem?_map,List.getElem?_eq_none (Nat.le_refl _)] at hy; cases hy)
  rw[dif_neg (by rw[hm.len]; omega)] at hf
  exact .inr ⟨h1,h2,h3,hf⟩
theorem Wr{w:World}{g:G}{n k:Nat}{v:Value}(h:AVR w g n (.mp k) v):k<n∧∃b,(g.at_ k).a=some ⟨b,0,none⟩∧v=.map (some b):=by
 obtain⟨cs,⟨hk,b,hb,e⟩,hv⟩:=A0 rfl rfl h
 subst e
 exact⟨hk,b,hb,by simpa [asVal,AV.isAgg] using hv.symm⟩
theorem Re{t:TypeId}(ho:o.op=.makeMap t none){m:RM}{kt vt:Ty}(hm:m.ids=[]):Snd P σ o ⟨.mp σ.blks.length,σ.blks++[.map m kt vt [] none],[]⟩:=by
 refine⟨by simp,fun _=>⟨_,rfl⟩,fun a w g hs next Q hn=>?_⟩
 have hr:(execOp a.eval o).run P w=.ok (.value (.map (some w.heap.size))) (w.alloc (.map #[] 0)):=by
  simp[execOp,ho,Instr.makeMap]
 unfold Oper.wp
 rw[hr]
 have st:=Step.add hs.heap (.map #[] 0) ⟨some ⟨w.heap.size,0,none⟩,0,0,0⟩
 refine hn _ _ _ (hs.heap.new ?_) ?_ st
 ·exact⟨(by rw[hm]; intro j hj; cases hj),w.heap.size,#[],0,by simp[G.add],by simp[G.add],heap_alloc_new w _,by simp,rfl⟩
 ·exact Bg (cs:=[_]) rfl ⟨by simp,w.heap.size,by simp[G.add],rfl⟩ (by simp[asVal,AV.isAgg])
theorem SX {w:World} {g:G} {k b:Nat} {md:RM} {kt vt:Ty} {st:Option kt.V} {t kid:TypeId} {el:TypeId} {te:TI} (ht:P.underlying t=some (.map kid el)) (hte:TOk P el te) (hvt:vt=te.ty) (hd:te.ty.data=true) (K:KOk P kid kt) {es:List (kt.V×vt.V)} {arr:Array MapEntry} {clock:Nat} (hb:w.heap[b]?=some (.map arr clock))
    (hm:MapR w g.own k md kt vt st 0 es arr.toList) (key:kt.V) (ok:Bool):∃v,(Instr.lookup t (.map (some b)) (keyV kt key) ok).run P w=.ok (if ok then .tuple #[v,.bool (mhas kt vt es key)] else v) w ∧
     ((∃(j:Nat) (x:kt.V×vt.V) (m:MapEntry),es[j]?=some x∧x.1=key∧arr[j]?=some m∧m.val=v∧mget kt vt es key=x.2∧(st=some x.1∨∃cs,ElR w g.own k md vt j x.2 cs∧asVal vt.isAgg cs v))∨(mget kt vt es key=vt.zero∧asVal vt.isAgg (zeroC vt) v)):=by
 subst hvt
 rcases S9 K hm key with ⟨j,x,m,h1,h2,h3,_,h4,_,h5,_,hf⟩| ⟨_,h2,_,hf⟩
 ·refine⟨m.val,?_,.inl ⟨j,x,m,h1,h2,h3,rfl,by simp[mget,h4],h5⟩⟩
  cases ok<;>simp[Instr.lookup,underlying,ht,MapKept.run_getObj_map hb,K.check,hf,mhas,h4]
 ·obtain⟨z,hz,hzv⟩:=WE hte w
  refine⟨z,?_,.inr ⟨by simp[mget,h2],hzv⟩⟩
  cases ok<;>simp[Instr.lookup,underlying,ht,MapKept.run_getObj_map hb,K.check,hf,hz,mhas,h2]
theorem WY {t:TypeId} {m x:Operand} {ok:Bool} (ho:o.op=.lookup t m x ok) {ti tk te:TI} (ht:TOk P t ti) (hmk:ti.mkey≠0) (hte:TOk P ti.elem te) (hd:te.ty.data=true) (K:tk.ty.keyed=true→KOk P ti.mkey tk.ty) {z:AV}
    (h:lookA σ.blks tk te ok (σ.opd m) (σ.opd x) some=some z):Snd P σ o ⟨z,σ.blks,[]⟩ :=
 .of_qt <| KM (s:=fun ρ=>Instr.lookup t (ρ m) (ρ x) ok) (fun ρ=>by simp[execOp,ho]) fun a w g hst=>by
  unfold lookA at h
  split at h
  ·rename_i k hm
   split at h
   ·rename_i md kt vt es hb
    split at h
    ·rename_i key hx
     split at h
     ·rename_i hc
      obtain⟨hkt,hvt,hkk⟩:=hc
      subst hkt; subst hvt
      have hmm:=Av hst m
      rw[hm] at hmm
      obtain⟨hk,b,hba,hbe⟩:=Wr hmm
      obtain⟨hmi,b',arr,clock,ha,hown,hh,hnd,hmr⟩:=hst.heap.blk k _ hb
      rw[hba] at ha; injection ha with ha; injection ha with ha; subst ha
      have hkey:=VT hst.heap hkk hx (Av hst x)
      obtain⟨v,hr,hres⟩:=SX (ht.mp hmk) hte rfl hd (K hkk) hh hmr key ok
      have hv:AVR w g σ.blks.length (.dat (ksOf (md.own k) te.ty) te.ty (mget tk.ty te.ty es key)) v:=by
       have hrd:∃cs,RdR w (Al g.own (md.own k)) te.ty (mget tk.ty te.ty es key) cs∧asVal te.ty.isAgg cs v:=by
        rcases hres with ⟨j,y,mm,h1,h2,h3,h4,h5,h6⟩| ⟨h1,h2⟩
        ·rw[h5]
         rcases h6 with h6 | ⟨cs,h6,h7⟩
         ·cases h6
         ·refine⟨cs,?_,h7⟩
          cases md with
          | deep=>exact OwR.rd (fun b q hb=>.mem (List.mem_cons_self) hb) h6
          | sh ks=>exact h6
        ·rw[h1]
         exact⟨_,RdR.zero hd,h2⟩
       obtain⟨cs,h1,h2⟩:=hrd
       refine Bg rfl (cs:=cs) ⟨fun j hj=>?_,?_⟩ h2
       ·unfold ksOf at hj
        split at hj
        ·cases hj
        ·cases md with
         | deep=>simp[RM.own] at hj; subst hj; exact hk
         | sh ks=>exact hmi j hj
       ·unfold ksOf
        split
        ·rename_i hf; exact(RdR.flat hf).2 ((RdR.flat hf).1 h1)
        ·cases md<;>exact h1
      cases ok with
      | false =>
       simp only[cond_false,Option.some.injEq] at h
       subst h
       exact⟨v,by rw[hbe,hkey]; simpa using hr,hv⟩
      | true =>
       simp only[cond_true,Option.some.injEq] at h
       subst h
       refine⟨_,by rw[hbe,hkey]; simpa using hr,[v,.bool (mhas tk.ty te.ty es key)],rfl,v,_,rfl,(AVR.iff rfl).1 hv,.bool (mhas tk.ty te.ty es key),[],rfl,?_,rfl⟩
       exact(AVR.iff rfl).1 (NH _)
     ·cases h
    ·cases h
   ·cases h
  ·cases h
theorem Vu {t:TypeId} {m x:Operand} (ho:o.op=.lookup t m x false) {ti tk te:TI} (ht:TOk P t ti) (hmk:ti.mkey≠0) (hte:TOk P ti.elem te) (hd:te.ty.data=true) (K:tk.ty.keyed=true→KOk P ti.mkey tk.ty)
    (h:lookS σ.blks tk te (σ.opd m) (σ.opd x) some=some e):Snd P σ o e:=by
 unfold lookS at h
 split at h
 ·rename_i k hm
  split at h
  ·rename_i kt u es hb
   split at h
   ·rename_i key hx
    split at h
    ·rename_i hc
     injection h with h; subst h
     obtain⟨hkt,hvt,hkk,hu⟩:=hc
     subst hkt
     refine⟨by simp[Ar],fun h=>(by cases h),fun a w g hst next Q hn=>?_⟩
     have H:=hst.heap
     have hmm:=Av hst m
     rw[hm] at hmm
     obtain⟨hk,b,hba,hbe⟩:=Wr hmm
     obtain⟨hmi,b',arr,clock,ha,hown,hh,hnd,hmr⟩:=H.blk k _ hb
     rw[hba] at ha; injection ha with ha; injection ha with ha; subst ha
     have hkey:=VT H hkk hx (Av hst x)
     obtain⟨v,hr,hres⟩:=SX (ht.mp hmk) hte hvt hd (K hkk) hh hmr key false
     have hrun:(execOp a.eval o).run P w=.ok (.value v) w:=by
      simp only[Bool.false_eq_true,if_false] at hr
      simp[execOp,ho,hbe,hkey,hr]
     unfold Oper.wp
     rw[hrun]
     obtain ⟨J,ad,cap,hv,hrow,hkeep⟩:∃(J:Nat) (ad:Option Addr) (cap:Nat),v=.slice ad (mget tk.ty (.sl u) es key).length cap∧OwR w g.own k (.sl u) [J] (mget tk.ty (.sl u) es key) [.slice ad (mget tk.ty (.sl u) es key).length cap] ∧
         ∀(i:Nat) (y:tk.ty.V×(Ty.sl u).V),es[i]?=some y→y.1=key∨i≠J:=by
      rcases hres with ⟨j,y,mm,h1,h2,h3,h4,h5,h6⟩| ⟨h1,h2⟩
      ·rcases h6 with h6 | ⟨cs,h6,h7⟩
       ·cases h6
       ·have h6':OwR w g.own k (.sl u) [j] y.2 cs:=h6
        obtain⟨ad,cap,e1,h8⟩:=h6
        subst e1
        have hv:[Value.slice ad y.2.length cap]=[v]:=h7
        injection hv with hv _
        refine⟨j,ad,cap,by rw[h5]; exact hv.symm,by rw[h5]; exact h6',fun i z hz=>?_⟩
        by_cases hi:i=j
        ·subst hi; rw[h1] at hz; injection hz with hz; subst hz; exact .inl h2
        ·exact .inr hi
      ·have hv:[Value.slice none 0 0]=[v]:=h2
       injection hv with hv _
       refine⟨es.length,none,0,by rw[h1]; exact hv.symm,by rw[h1]; exact⟨none,0,rfl,.inl ⟨rfl,rfl⟩⟩,fun i z hz=>.inr ?_⟩
       have:=At hz; omega
     let ys:=mget tk.ty (.sl u) es key
     let i1:BI:=⟨ad,ys.length,cap,u.size⟩
     let n:=σ.blks.length
     let g1:=g.det n k [J] i1
     have st:Step [k] n w g w g1:=Sd
     have hat:g1.at_ n=i1:=by simp[g1,G.det]
     have hkn:k≠n:=by simp only[n]; omega
     have hlenb:((dropB [k] σ.blks).set k (Blk.map .deep tk.ty (.sl u) es (some key))++[Blk.row 0 .deep u ys]).length=n+1:=by simp[Ar,n]
     refine hn v w g1 ?_ ?_ st
     ·refine H.turn st (fun b hb=>by simp[g1,G.det,H.fresh b hb]) (by rw[hlenb]; exact Nat.le_succ _) fun j y hj=>?_
      rw[List.getElem?_append] at hj
      split at hj
      ·rcases K7 hj with ⟨hjk,rfl⟩| ⟨hne,hj⟩
       ·rw[hjk]
        have hatk:g1.at_ k=g.at_ k:=by simp[g1,G.det,hkn]
        refine .inr (.inr ⟨fun j hj=>(by cases hj),b,arr,clock,by rw[hatk]; exact hba,N5 hown (fun hc=>by have:=hc.2; simp at this),hh,hnd,MapR.mk hmr.len fun i z mm hz hmz=>?_⟩)
        obtain⟨m',h1,h2,h3⟩:=hmr.get hz
        rw[hmz] at h1; injection h1 with h1; subst h1
        refine⟨h2,?_⟩
        rcases hkeep i z hz with h | h
        ·exact .inl (by rw[h])
        ·rcases h3 with h3 | ⟨cs,h3,h4⟩
         ·cases h3
         ·refine .inr ⟨cs,?_,h4⟩
          rw[Nat.zero_add] at h3 ⊢
          exact OwR.mono (fun b q hb=>⟨N5 hb fun hc=>by
           obtain⟨s,hs⟩:=hc.2
           have:=List.append_inj_right' hs rfl
           simp at this; exact h this.symm,rfl⟩) h3
       ·obtain⟨y,hy,rfl⟩:=Ec hj
        exact .inr (.inl ⟨by simpa using hne,y,hy,rfl⟩)
      ·rename_i hge
       simp only[List.length_set,Ar] at hj hge
       have hj0:j-σ.blks.length=0:=by
        rcases Nat.eq_zero_or_pos (j-σ.blks.length) with h | h
        ·exact h
        ·rw[List.getElem?_eq_none (by simp; omega)] at hj; cases hj
       rw[hj0] at hj
       obtain rfl:j=n:=by simp only[n]; omega
       simp only[List.getElem?_cons_zero,Option.some.injEq] at hj
       subst hj
       refine .inr (.inr ⟨fun j hj=>(by cases hj),by rw[hat],by rw[hat],Nat.pos_of_ne_zero hu,?_⟩)
       rw[hat]
       obtain⟨ad',cap',e3,hrow⟩:=hrow
       injection e3 with e3 _
       injection e3 with e3 _ e4
       subst e3; subst e4
       refine hrow.imp id fun⟨b,el,cur,ds,q1,q2,q3,q4,q5,q6,q7,q8⟩=>⟨b,cur,ds,q1,PA (q:=[]) (by simpa using q2),⟨el,.inl rfl,q3⟩,q4,q5,q6,q7,?_⟩
       exact q8.mono fun i x c r=>r.mono fun b q hb=>⟨PA (by simpa using hb),rfl⟩
     ·rw[hlenb,hv]
      exact Bg (cs:=[_]) rfl ⟨Nat.lt_succ_self _,by rw[hat]⟩ rfl
    ·cases h
   ·cases h
  ·cases h
 ·cases h
theorem WO{w:World}{g:G}{mods:List Nat}{b k:Nat}{arr:Array MapEntry}{clock:Nat}{ob:Obj}(hh:w.heap[b]?=some (.map arr clock))(ho:g.own b=.lab k [])(hk:k∈mods):∀q,q<w.heap.size→(∀k p,g.own q=.lab k p→k∉mods)→({w with heap:=w.heap.setIfInBounds b ob}:World).heap[q]?=w.heap[q]?:=by
 intro q _ hq
 exact Array.getElem?_setIfInBounds_ne (fun e=>by subst e; exact hq k [] ho hk)
theorem Abq {t:TypeId} {m x v:Operand} (ho:o.op=.mapUpdate t m x v∨o.op=.insert t m x v) {ti tk te:TI} (ht:TOk P t ti) (hmk:ti.mkey≠0) (K:tk.ty.keyed=true→KOk P ti.mkey tk.ty)
    (h:updA σ.blks tk te (σ.opd m) (σ.opd x) (σ.opd v) some=some e):Snd P σ o e:=by
 unfold updA at h
 split at h
 ·rename_i k hm
  split at h
  ·rename_i md kt vt es st0 hb
   split at h
   ·rename_i key y m' rs hx htk
    split at h
    ·rename_i hc
     obtain⟨hkt,hvt,hkk,hoff,hrk⟩:=hc
     subst hkt
     have h':e=⟨.un 0,(Blk.kill (dropB (k::rs) σ.blks) rs).set k (.map m' tk.ty vt (mput tk.ty vt es key y) none),k::rs⟩∧(st0=none∨st0=some key):=by
      cases st0 with
      | none=>injection h with h; exact⟨h.symm,.inl rfl⟩
      | some k0 =>
       simp only at h
       cases hq:keyEq tk.ty k0 key with
       | false=>rw[hq] at h; cases h
       | true =>
        rw[hq,cond_true] at h
        injection h with h
        exact⟨h.symm,.inr (by rw[(K hkk).eq _ _ hq])⟩
     obtain⟨rfl,hst0⟩:=h'
     refine⟨by simp[AJ,Ar],fun h=>(by cases h),fun a w g hst next Q hn=>?_⟩
     have H:=hst.heap
     have hmm:=Av hst m
     rw[hm] at hmm
     obtain⟨hk,b,hba,hbe⟩:=Wr hmm
     obtain⟨hmi,b',arr,clock,ha,hown,hh,hnd,hmr⟩:=H.blk k _ hb
     rw[hba] at ha; injection ha with ha; injection ha with ha; subst ha
     have hkey:=VT H hkk hx (Av hst x)
     obtain⟨hy,hrs,hndr,hmm'⟩:=Jm htk
     obtain⟨htup,hun⟩:=LX hy
     obtain⟨cv,hcv,hvv⟩:=A0 htup hun (Av hst v)
     rw[Nz hy] at hvv
     obtain⟨hsub,hdp⟩:=No htk
     have hoffm:=LJ hoff
     have hkrs:k∉rs:=by simpa using hrk
     have hlt:b<w.heap.size:=LY H (by rw[hown]; simp)
     obtain ⟨J,arr',clock',hrun,hents⟩:∃(J:Nat) (arr':Array MapEntry) (clock':Nat),(Instr.mapUpdate t (a.eval m) (a.eval x) (a.eval v)).run P w=.ok () {w with heap:=w.heap.setIfInBounds b (.map arr' clock')} ∧
         (((mput tk.ty vt es key y).map (·.1)).Nodup∧arr'.toList.length=(mput tk.ty vt es key y).length∧∀(i:Nat) (z:tk.ty.V×vt.V) (mm:MapEntry),(mput tk.ty vt es key y)[i]?=some z→arr'.toList[i]?=some mm →
          (i=J∧z=(key,y)∧mm.key=keyV tk.ty key∧mm.val=a.eval v)∨(i≠J∧es[i]?=some z∧arr.toList[i]?=some mm∧st0≠some z.1)):=by
      have hu:=ht.mp hmk
      have hself:∀z:tk.ty.V,keyEq tk.ty key z=false→st0≠some z:=fun z hz e=>by
       rcases hst0 with h | h
       ·rw[h] at e; cases e
       ·rw[h] at e; injection e with e
        subst e
        rw[Og hkk] at hz; cases hz
      rcases S9 (K hkk) hmr key with ⟨j,z,mm,h1,h2,h3,h4,h5,h6,h7,h8,hf⟩| ⟨h1,h2,h3,hf⟩
      ·refine⟨j,arr.modify j fun e=>{e with key:=keyV tk.ty key,val:=a.eval v},clock,?_,?_⟩
       ·rw[hbe,hkey]
        simp[Instr.mapUpdate,underlying,hu,MapKept.run_getObj_map hh,(K hkk).check,hf,h3,h8,(K hkk).stays,MapKept.run_setObj_map _ hh]
       ·rw[h6 y]
        have hl:arr.toList.length=es.length:=hmr.len
        refine⟨by
         rw[List.map_set]
         have:(es.map (·.1)).set j key=es.map (·.1):=by
          have hg:(es.map (·.1))[j]?=some key:=by rw[List.getElem?_map,h1,←h2]; rfl
          apply List.ext_getElem?
          intro i
          rw[List.getElem?_set]
          split
          ·rename_i e; subst e
           rw[if_pos (At hg),hg]
          ·rfl
         rw[this]; exact hnd,by simpa using hl,fun i z' m2 hz hm2=>?_⟩
        rw[Array.getElem?_toList,Array.getElem?_modify] at hm2
        rw[List.getElem?_set] at hz
        by_cases hij:j=i
        ·subst hij
         have hjl:=At h1
         simp only[if_true,hjl] at hz
         injection hz with hz
         simp only[if_true,h3,Option.map_some,Option.some.injEq] at hm2
         subst hm2
         exact .inl ⟨rfl,hz.symm,rfl,rfl⟩
        ·simp only[if_neg hij] at hz hm2
         refine .inr ⟨fun e=>hij e.symm,hz,by rw[Array.getElem?_toList]; exact hm2,?_⟩
         intro e
         rcases hst0 with h | h
         ·rw[h] at e; cases e
         ·rw[h] at e; injection e with e
          have g1:(es.map (·.1))[j]?=some key:=by rw[List.getElem?_map,h1,←h2]; rfl
          have g2:(es.map (·.1))[i]?=some key:=by rw[List.getElem?_map,hz,e]; rfl
          exact hij ((List.getElem?_inj (At g1) hnd).1 (g1.trans g2.symm))
      ·refine⟨es.length,arr.push {key:=keyV tk.ty key,val:=a.eval v,born:=clock},clock+1,?_,?_⟩
       ·rw[hbe,hkey]
        simp[Instr.mapUpdate,underlying,hu,MapKept.run_getObj_map hh,(K hkk).check,hf,MapKept.run_setObj_map _ hh]
       ·rw[h3 y]
        have hl:arr.toList.length=es.length:=hmr.len
        refine⟨by
         rw[List.map_append,List.nodup_append]
         refine⟨hnd,by simp,fun a ha b hb=>?_⟩
         simp at hb; subst hb
         rintro rfl
         obtain⟨z,hz,rfl⟩:=List.mem_map.1 ha
         obtain⟨i,hi⟩:=List.getElem?_of_mem hz
         have:=h1 i z hi
         rw[Og hkk] at this; exact Bool.noConfusion this,by simpa using hl,fun i z' m2 hz hm2=>?_⟩
        rw[Array.toList_push] at hm2
        by_cases hi:i<es.length
        ·rw[List.getElem?_append_left hi] at hz
         rw[List.getElem?_append_left (by rw[hl]; exact hi)] at hm2
         exact .inr ⟨by omega,hz,hm2,hself _ (h1 i z' hz)⟩
        ·have hi':=At hz
         rw[List.length_append,List.length_singleton] at hi'
         obtain rfl:i=es.length:=by omega
         simp at hz
         rw[←hl] at hm2
         simp at hm2
         subst hm2; subst hz
         exact .inl ⟨rfl,rfl,rfl,rfl⟩
     obtain⟨hnd2,hlen2,hents⟩:=hents
     let w':World:={w with heap:=w.heap.setIfInBounds b (.map arr' clock')}
     let M:=refPaths (σ.opd v) [J]
     have hMr:M.map (·.1)=rs:=by rw[hrs]; exact Dy _ _
     let f:=turnF md k M
     let g':=g.upd f none σ.blks.length ⟨none,0,0,0⟩
     have hownk:∀b' r,g.own b'=.lab k r→g'.own b'=.lab k r:=fun b' r h=>by
      have:=HA (f:=f) (ob:=none) (n:=σ.blks.length) (i:=⟨none,0,0,0⟩) (by simp) h
      rw[this]; exact IS (by rw[hMr]; exact hkrs)
     have hsz:w'.heap.size=w.heap.size:=by simp[w']
     have st:Step (k::rs) σ.blks.length w g w' g':=Step.upd H.fresh rfl rfl rfl (by rw[hsz]; exact Nat.le_refl _) (WO hh hown (by simp)) (fun q h=>by cases h) (Nat.le_refl _) fun j r _ hm =>
      IS (by rw[hMr]; exact fun h=>hm (List.mem_cons_of_mem _ h))
     have hne1:∀b',b'≠b→w'.heap[b']?=w.heap[b']?:=fun b' h=>Array.getElem?_setIfInBounds_ne (Ne.symm h)
     have hneb:∀b' j r,g.own b'=.lab j r→j≠k→w'.heap[b']?=w.heap[b']?:=fun b' j r h hj=>hne1 b' fun e=>by subst e; rw[hown] at h; injection h with h; exact hj h.symm
     have hneb2:∀b' q,g.own b'=.lab k q→q≠[]→w'.heap[b']?=w.heap[b']?:=fun b' q h hq=>hne1 b' fun e=>by subst e; rw[hown] at h; injection h with _ h; exact hq h.symm
     have hneb3:∀b',g.own b'=.imm→w'.heap[b']?=w.heap[b']?:=fun b' h=>hne1 b' fun e=>by subst e; rw[hown] at h; cases h
     have hon:∀(i':Nat) (x:vt.V) (c:List Value),ElR w g.own k md vt i' x c→ElR w' g'.own k m' vt i' x c:=by
      intro i' x c hel
      refine hel.on ?_
      rcases hmm' with ⟨rfl,rfl,_⟩| ⟨ks,rfl,rfl⟩
      ·exact fun b' q h=>⟨hownk b' _ h,hneb2 b' _ h (by simp)⟩
      ·intro b' h
       rcases h with h | ⟨j,hj,r,h⟩
       ·exact⟨.inl (Lz (by simp) h),hneb3 b' h⟩
       ·have hjm:=hsub j hj
        have hjk:=hoffm j hjm
        exact⟨.inr ⟨j,hjm,r,by
         have:=HA (f:=f) (ob:=none) (n:=σ.blks.length) (i:=⟨none,0,0,0⟩) (by simp) h
         rw[this]; exact IS (by rw[hMr]; exact fun h=>hjk (List.mem_cons_of_mem _ h))⟩,hneb b' j r h fun e=>hjk (by simp[e])⟩
     have hput:InR w' g'.own k m' vt [J] y cv:=by
      refine Q8 H htk hcv (M:=M) (fun jq hj=>Nf (by rw[Dy]; exact hndr) hj) (fun _ h=>h) (fun j hj=>K3 (by rw[hMr]; exact fun h=>hoffm j hj (List.mem_cons_of_mem _ h))) hdp
       (fun b' j r h _=>HA (by simp) h) (fun b' h=>Lz (by simp) h) fun b' h=>?_
      rcases h with h | ⟨j,r,h,hj⟩
      ·exact hneb3 b' h
      ·refine hneb b' j r h fun e=>?_
       subst e
       rcases hj with hj | hj
       ·rw[hMr] at hj; exact hkrs hj
       ·exact hoffm j hj (by simp)
     have hput':ElR w' g'.own k m' vt J y cv:=by
      cases m' with
      | deep=>exact hput
      | sh ks=>exact hput
     have hexec:(execOp a.eval o).run P w=.ok .skip w':=by
      rcases ho with ho | ho<;>simp[execOp,ho,hrun,w']
     unfold Oper.wp
     rw[hexec]
     refine hn undef w' g' (H.turn st (J4 H.fresh (by rw[hsz]; exact Nat.le_refl _) (fun q h=>by cases h)) (by simp[AJ,Ar]) fun j z hj=>?_) Lt st
     rcases K7 hj with ⟨hjk,rfl⟩| ⟨hne,hj⟩
     ·rw[hjk]
      have hatk:g'.at_ k=g.at_ k:=st.at_ k hk
      refine .inr (.inr ⟨by simpa [AJ,Ar] using RW H htk hcv hmi,b,arr',clock',by rw[hatk]; exact hba,hownk b [] hown,by simp[w',hlt],hnd2,MapR.mk hlen2 fun i z mm hz hmz=>?_⟩)
      rw[Nat.zero_add]
      rcases hents i z mm hz hmz with ⟨rfl,rfl,h3,h4⟩| ⟨h1,h2,h3,h4⟩
      ·exact⟨h3,.inr ⟨cv,hput',by rw[h4]; exact hvv⟩⟩
      ·obtain⟨m2,h5,h6,h7⟩:=hmr.get h2
       rw[h3] at h5; injection h5 with h5; subst h5
       refine⟨h6,?_⟩
       rcases h7 with h7 | ⟨cs,h7,h8⟩
       ·exact(h4 h7).elim
       ·rw[Nat.zero_add] at h7
        exact .inr ⟨cs,hon _ _ _ h7,h8⟩
     ·rcases Jh hj with h | ⟨hjr,h⟩
      ·exact .inl h
      ·obtain⟨y',hy',rfl⟩:=Ec h
       exact .inr (.inl ⟨by simp only[List.mem_cons,not_or]; exact⟨hne,hjr⟩,y',hy',rfl⟩)
    ·cases h
   ·cases h
  ·cases h
 ·cases h
end
end Go.Va
namespace Go.Va
section
variable {P:Program} {σ:St} {o:Oper}
def plainD:TypeDesc→Bool
 | .int _=>true
 | .bool=>true
 | .string=>true
 | _=>false
theorem OH{t:TypeId}{d:TypeDesc}(hu:P.underlying t=some d)(hd:plainD d=true){w:World}{cs:Array Value}{i:Nat}{v:Value}(h:cs[i]?=some v):(part t cs i).run P w=.ok v w:=by
 cases d<;>simp[plainD] at hd<;>simp[part,isAgg,underlying,hu,h]
theorem VP(d:Nat)(w:World):∀(t:Ty) (p q:List Value) (fs:List Field) (u v:t.V) (n:Nat),p.length=n→q.length=n→eqFs P t n fs=true→(Op.eqFields (d+1) (p++flatC t u).toArray (q++flatC t v).toArray fs).run P w=.ok (flatEq t u v) w
 | .unit,p,q,[],u,v,n,_,_,_=>by simp[Op.eqFields,flatEq]
 | .pair a b,p,q,f::fs,u,v,n,hp,hq,h=>by
  simp only[eqFs,Bool.and_eq_true,bne_iff_ne,beq_iff_eq] at h
  obtain⟨⟨⟨h1,h2⟩,h3⟩,h4⟩:=h
  have key:∀(x y:Value) (r:Bool) (dd:TypeDesc),flatC a u.1=[x]→flatC a v.1=[y]→P.underlying f.type=some dd→plainD dd=true →
      (Op.equalIn (d+1) f.type x y).run P w=.ok r w→r=flatEq a u.1 v.1→(Op.eqFields (d+1) (p++flatC (.pair a b) u).toArray (q++flatC (.pair a b) v).toArray (f::fs)).run P w=.ok (flatEq (.pair a b) u v) w:=by
   intro x y r dd hx hy hu hd he hr
   have ih:=VP d w b (p++[x]) (q++[y]) fs u.2 v.2 (n+1) (by simp[hp]) (by simp[hq]) h4
   have ex:p++flatC (.pair a b) u=p++[x]++flatC b u.2:=by simp[flatC,hx]
   have ey:q++flatC (.pair a b) v=q++[y]++flatC b v.2:=by simp[flatC,hy]
   rw[ex,ey]
   have px:(part f.type (p++[x]++flatC b u.2).toArray n).run P w=.ok x w:=OH hu hd (by simp[←hp])
   have py:(part f.type (q++[y]++flatC b v.2).toArray n).run P w=.ok y w:=OH hu hd (by simp[←hq])
   simp only[Op.eqFields,h1,ne_eq,not_false_eq_true,if_true,Sem.run_bind,h2,px,py,Result.andThen_ok,he]
   subst hr
   cases hq:flatEq a u.1 v.1 with
   | false=>simp[flatEq,hq]
   | true=>simp only[Bool.not_true,Bool.false_eq_true,if_false]; rw[ih]; simp[flatEq,hq]
  split at h3
  ·rename_i k k' hu
   rw[beq_iff_eq] at h3; subst h3
   exact key _ _ _ _ rfl rfl hu rfl (NY hu d w _ _) rfl
  ·rename_i hu
   exact key _ _ _ _ rfl rfl hu rfl (by simp[Op.equalIn,underlying,hu]; rfl) rfl
  ·rename_i hu
   exact key _ _ _ _ rfl rfl hu rfl (by simp[Op.equalIn,underlying,hu]) SE.symm
  ·cases h3
 | .unit,_,_,_::_,_,_,_,_,_,h=>by simp[eqFs] at h
 | .pair _ _,_,_,[],_,_,_,_,_,h=>by simp[eqFs] at h
 | .int _,_,_,_,_,_,_,_,_,h=>by simp[eqFs] at h
 | .bool,_,_,_,_,_,_,_,_,h=>by simp[eqFs] at h
 | .str,_,_,_,_,_,_,_,_,h=>by simp[eqFs] at h
 | .sl _,_,_,_,_,_,_,_,_,h=>by simp[eqFs] at h
 | .opq _,_,_,_,_,_,_,_,_,h=>by simp[eqFs] at h
theorem PQ:∀{t:Ty} {n:Nat} {fs:List Field},eqFs P t n fs=true→t.flat=true∧t.isAgg=true
 | .unit,_,[],_=>⟨rfl,rfl⟩
 | .pair a b,n,f::fs,h=>by
  simp only[eqFs,Bool.and_eq_true] at h
  obtain⟨⟨_,h3⟩,h4⟩:=h
  have:=(PQ h4).1
  refine⟨?_,rfl⟩
  split at h3<;>first | (cases h3; done)| simp[Ty.flat,this]
 | .unit,_,_::_,h=>by simp[eqFs] at h
 | .pair _ _,_,[],h=>by simp[eqFs] at h
 | .int _,_,_,h=>by simp[eqFs] at h
 | .bool,_,_,h=>by simp[eqFs] at h
 | .str,_,_,h=>by simp[eqFs] at h
 | .sl _,_,_,h=>by simp[eqFs] at h
 | .opq _,_,_,h=>by simp[eqFs] at h
theorem Aaw{tab:Tab}(ht:tabOk P tab=true){op:BinOp}{t yt:TypeId}{x y:Operand}(ho:o.op=.binOp op t x y yt){z:AV}(h:eqS σ.blks tab op t (σ.opd x) (σ.opd y)=some z):Snd P σ o ⟨z,σ.blks,[]⟩ :=
 .of_qt <| KM (s:=fun ρ=>do eqGuard op t x y (ρ x) (ρ y); binOp op t (ρ x) (ρ y)) (fun ρ=>by simp[execOp,ho]) fun a w g hst=>by
  unfold eqS at h
  split at h
  ·rename_i ti hti
   split at h
   ·rename_i he
    have hT:=TOk.of ht hti
    have heq:=hT.eqs he
    unfold eqsOk at heq
    split at heq
    ·rename_i fs hu
     simp only[Bool.and_eq_true,Bool.not_eq_true'] at heq
     obtain⟨⟨h1,h2⟩,h3⟩:=heq
     have hF:P.fieldsOf t=fs:=by simp[Program.fieldsOf,hu]
     obtain⟨hflat,hagg⟩:=PQ h3
     have get:∀(X:Operand) (u:ti.ty.V),rd σ.blks ti.ty (σ.opd X)=some u→a.eval X=.agg (flatC ti.ty u).toArray:=fun X u hr=>by
      obtain⟨q1,q2⟩:=LX hr
      obtain⟨cs,hcs,hv⟩:=A0 q1 q2 (Av hst X)
      rw[Nz hr,hagg] at hv
      have:=(RdR.flat hflat).1 (J1 hst.heap _ _ u cs hr hcs).1
      subst this
      exact hv
     have run:∀u v:ti.ty.V,(Op.equalIn 10000 t (.agg (flatC ti.ty u).toArray) (.agg (flatC ti.ty v).toArray)).run P w=.ok (flatEq ti.ty u v) w:=fun u v=>by
      rw[show(10000:Nat)=9999+1 from rfl,run_equalIn_struct w 9999 t _ _ (by rw[hF]; exact hu) h1,hF]
      have:=VP (P:=P) 9998 w ti.ty [] [] fs.toList u v 0 rfl rfl h3
      simpa using this
     split at h
     ·split at h
      ·rename_i u v hx hy
       injection h with h; subst h
       refine⟨.bool (flatEq ti.ty u v),?_,NH _⟩
       simp only[get x u hx,get y v hy,Sem.run_bind,run_eqGuard_agg w .eql t x y _ _ h2,Result.andThen_ok,run_eql_struct,run]
      ·cases h
     ·split at h
      ·rename_i u v hx hy
       injection h with h; subst h
       refine⟨.bool (!flatEq ti.ty u v),?_,NH _⟩
       simp only[get x u hx,get y v hy,Sem.run_bind,run_eqGuard_agg w .neq t x y _ _ h2,Result.andThen_ok,run_neq_struct,run]
      ·cases h
     ·cases h
    ·cases heq
   ·cases h
  ·cases h
end
end Go.Va
namespace Go.Va
structure EnvOk (P:Program) (en:Env):Prop where
 tab:tabOk P en.tab=true
 fns:∀g c,en.fns g=some c→SoundC P g c
theorem EnvOk.nat{P:Program}{en:Env}(h:EnvOk P en):ENat en:=fun g c hc=>(h.fns g c hc).nat
section
variable {P:Program} {σ:St} {o:Oper} {en:Env} {e:Eff}
theorem EnvOk.t(he:EnvOk P en){t:Nat}{ti:TI}(h:en.tab.get t=some ti):TOk P t ti:=TOk.of he.tab h
theorem QG{w:World}{g:G}{a:Act}(hs:StR w g σ a):∀(l:List Operand),ArgsR w g σ.blks.length (l.map σ.opd) (l.map a.eval)
 | []=>trivial
 | x::l=>⟨Av hs x,QG hs l⟩
theorem PS{w:World}{g:G}{n:Nat}:∀{l k:List AV} {xs ys:List Value},ArgsR w g n l xs→ArgsR w g n k ys→ArgsR w g n (l++k) (xs++ys)
 | [],_,[],_,_,h=>h
 | _::_,_,_::_,_,h1,h2=>⟨h1.1,PS h1.2 h2⟩
 | [],_,_::_,_,h,_=>h.elim
 | _::_,_,[],_,h,_=>h.elim
theorem capsR{w:World}{g:G}{n:Nat}:∀{a:AV} {vs:List Value},AVX w g n true a vs→ArgsR w g n (capsL a) vs
 | .cons a b,_,⟨v,r,e,h1,h2⟩=>by
  subst e
  refine⟨?_,capsR h2⟩
  have ht:a.isTup=false:=by
   rcases h1 with h | ⟨cs,h,_⟩
   ·cases a<;>first | rfl | simp[AV.isUn] at h
   ·exact notTup h
  exact(AVR.iff ht).2 h1
 | .nil,_,h=>by cases h; trivial
 | .nst _ _ _ _ _,_,h=>h.elim
 | .dat _ _ _,_,h=>h.elim
 | .zs,_,h=>h.elim
 | .ref _,_,h=>h.elim
 | .sld _ _,_,h=>h.elim
 | .mp _,_,h=>h.elim
 | .ptr _ _ _ _,_,h=>h.elim
 | .rop _ _ _,_,h=>h.elim
 | .nilp,_,h=>h.elim
 | .pr _ _,_,h=>h.elim
 | .fn _ _,_,h=>h.elim
 | .un _,_,h=>h.elim
theorem XH(he:EnvOk P en){c:Call}(ho:o.op=.call c){fo:Operand}(hc:c.callee=.value fo){g0:Nat}{caps:AV}(hf:σ.opd fo=.fn g0 caps){ca:Callee}(hg:en.fns g0=some ca)(h:callN ca σ.blks (opds σ c.args++capsL caps) some=some e):Snd P σ o e:=by
 obtain⟨h1,h2,h3⟩:=VR (he.fns _ _ hg) h
 refine⟨h1,h2,fun a w g hs next Q hn=>?_⟩
 have hv:=Av hs fo
 rw[hf] at hv
 obtain⟨cs,⟨vs,e1,hx⟩,hcs⟩:=A0 rfl rfl hv
 have e2:a.eval fo=.func (.func g0) #[] vs.toArray:=by
  subst e1
  simpa [asVal,AV.isAgg] using hcs.symm
 have hr:(execOp a.eval o).run P w=(callFunc g0 (c.args.toList.map a.eval++vs).toArray).run P w:=by
  have:(c.args.toList.map a.eval++vs).toArray=#[]++c.args.map a.eval++vs.toArray:=by
   apply Array.toList_inj.1; simp
  rw[this]
  simp[execOp,ho,resolve,hc,e2,Deferred.ofValue,invoke]
 unfold Oper.wp
 rw[hr]
 exact h3 w g _ hs.heap (PS (QG hs _) (capsR hx)) o a next Q hn
theorem QO(he:EnvOk P en){ti:TI}(u:Ty)(h:(match en.tab.get ti.elem with | some te=>if ti.isSl=true then some te.ty else none | none=>none)=some u):ti.isSl=true∧∃tie,tie.ty=u∧TOk P ti.elem tie:=by
 split at h
 ·rename_i te hte
  split at h
  ·rename_i hsl
   injection h with h
   exact⟨hsl,te,h,he.t hte⟩
  ·cases h
 ·cases h
theorem N0(he:EnvOk P en)(h:execP en σ o some=some e):Snd P σ o e:=by
 unfold execP at h
 dsimp only at h
 split at h
 ·rename_i x ho; injection h with h; subst h; exact Sa (.inl ho)
 ·rename_i x ho; injection h with h; subst h; exact Sa (.inr ho)
 ·rename_i c a b ho
  split at h
  ·rename_i ks t hc
   have:=YR (P:=P) ho hc
   cases t
   ·injection h with h; subst h; exact this
   ·injection h with h; subst h; exact this
  ·cases h
 ·rename_i el ho
  split at h
  ·rename_i ti ht; injection h with h; subst h; exact V2 ho (he.t ht)
  ·cases h
 ·rename_i el x ho
  split at h
  ·rename_i ht; injection h with h; subst h; exact Aak ho ht
  ·cases h
 ·rename_i t parts ho
  split at h
  ·rename_i ti ht
   split at h
   ·cases h
   ·rename_i hof
    split at h
    ·rename_i v hv
     injection h with h; subst h
     exact Uy ho (he.t ht) (fun e=>hof (by rw[e]; rfl)) hv
    ·cases h
  ·cases h
 ·rename_i t len parts ho
  split at h
  ·rename_i ti ht
   split at h
   ·rename_i te hte
    split at h
    ·rename_i m xs rs hp
     split at h
     ·rename_i hc
      obtain⟨h1,h2⟩:=Oc ho (he.t ht) (he.t hte) hp hc
      split at h
      ·rename_i h0; injection h with h; subst h; exact h1 h0
      ·rename_i h0; injection h with h; subst h; exact h2 h0
     ·cases h
    ·cases h
   ·cases h
  ·cases h
 ·rename_i t x ho
  split at h
  ·rename_i ti ht
   split at h
   ·split at h
    ·rename_i hsl; exact Vf ho (he.t ht) hsl h
    ·cases h
   ·obtain⟨z,hz,rfl⟩:=viaN' (f:=fun R K=>loadA σ.blks ti (σ.opd x) K) (fun R K=>Qa ..) (g:=fun v=>⟨v,σ.blks,[]⟩) h
    exact Xd ho (he.t ht) hz
  ·cases h
 ·rename_i t r ho
  split at h
  ·rename_i ti ht
   split at h
   ·cases h
   ·rename_i hr
    split at h
    ·rename_i tk te htk hte
     split at h
     ·injection h with h; subst h
      have:r=none:=by cases r<;>simp_all
      subst this
      exact Re ho (Mn _ _)
     ·cases h
    ·cases h
  ·cases h
 ·rename_i t m x ok ho
  split at h
  ·rename_i ti ht
   split at h
   ·rename_i tk te htk hte
    split at h
    ·rename_i hc
     split at h
     ·split at h
      ·cases h
      ·rename_i hok
       have:ok=false:=by simpa using hok
       subst this
       exact Vu ho (he.t ht) hc.1 (he.t hte) hc.2.1 (fun hk=>KOk.of he.tab (he.t htk) hk hc.2.2) h
     ·obtain⟨z,hz,rfl⟩:=viaN' (f:=fun R K=>lookA σ.blks tk te ok (σ.opd m) (σ.opd x) K) (fun R K=>P7 ..) (g:=fun v=>⟨v,σ.blks,[]⟩) h
      exact WY ho (he.t ht) hc.1 (he.t hte) hc.2.1 (fun hk=>KOk.of he.tab (he.t htk) hk hc.2.2) hz
    ·cases h
   ·cases h
  ·cases h
 ·rename_i t m x v ho
  split at h
  ·rename_i ti ht
   split at h
   ·rename_i tk te htk hte
    split at h
    ·rename_i hc
     exact Abq (.inl ho) (he.t ht) hc.1 (fun hk=>KOk.of he.tab (he.t htk) hk hc.2.2) h
    ·cases h
   ·cases h
  ·cases h
 ·rename_i t x v ho
  split at h
  ·rename_i ti ht; exact VC ho (he.t ht) h
  ·cases h
 ·rename_i x ho
  split at h
  ·rename_i k i p q hx
   injection h with h; subst h
   rw[←hx]
   exact MX ho fun w g n v hv=>by rw[hx] at hv; exact P5 hv
  ·rename_i ks t y hx
   injection h with h; subst h
   rw[←hx]
   exact MX ho fun w g n v hv=>by rw[hx] at hv; exact QC hv
  ·cases h
 ·rename_i op t x y yt ho
  split at h
  ·rename_i z hz
   injection h with h; subst h
   exact Aaw he.tab ho hz
  obtain⟨z,hz,rfl⟩:=viaN' (f:=fun R K=>binA op (match en.tab.get t with | some ti=>ti.ty==.bool | none=>false) (σ.opd x) (σ.opd y) K) (fun R K=>SS ..) (g:=fun v=>⟨v,σ.blks,[]⟩) h
  refine Wm ho (fun hb=>?_) hz
  split at hb
  ·rename_i ti ht; exact Th (he.t ht) (by simpa using hb)
  ·cases hb
 ·rename_i op t x ho
  obtain⟨z,hz,rfl⟩:=viaN' (f:=fun R K=>unA op (σ.opd x) K) (fun R K=>US ..) (g:=fun v=>⟨v,σ.blks,[]⟩) h
  exact WR ho hz
 ·rename_i s t x ho
  split at h
  ·rename_i ts ti hts ht
   obtain⟨z,hz,rfl⟩:=viaN' (f:=fun R K=>convA σ.blks (match en.tab.get ts.elem with | some te=>if ts.isSl=true then some te.ty else none | none=>none) ti.ty (σ.opd x) K) (fun R K=>Q3 ..) (g:=fun v=>⟨v,σ.blks,[]⟩) h
   exact Rj ho (he.t hts) (he.t ht) (QO he) hz
  ·cases h
 ·rename_i fn first caps ho
  split at h
  ·split at h
   ·rename_i h0; injection h with h; subst h; exact QT ho h0
   ·cases h
  ·cases h
 ·rename_i t l c ho
  split at h
  ·rename_i ti ht
   split at h
   ·rename_i te hte
    split at h
    ·rename_i hsl; exact XK ho (he.t ht) (he.t hte) hsl h
    ·cases h
   ·cases h
  ·cases h
 ·rename_i t x lo hi mx ho
  split at h
  ·rename_i d ti hd ht
   split at h
   ·split at h
    ·split at h
     ·rename_i hsl
      split at h
      ·rename_i te hte; exact AaQ ho (he.t ht) hsl (he.t hte) h
      ·cases h
     ·cases h
    ·cases h
   ·obtain⟨z,hz,rfl⟩:=viaN' (f:=fun R K=>sliceA σ.blks ti (match en.tab.get ti.elem with | some te=>if ti.isSl=true then some te.ty else none | none=>none) (σ.opd x) (lo.map σ.opd) (hi.map σ.opd) (mx.map σ.opd) K) (fun R K=>Ow ..) (g:=fun v=>⟨v,σ.blks,[]⟩) h
    exact Vt ho (he.t ht) (QO he) hz
  ·cases h
 ·rename_i t x f ho
  split at h
  ·rename_i ti ht
   obtain⟨z,hz,rfl⟩:=viaN' (f:=fun R K=>fldA ti f (σ.opd x) K) (fun R K=>Sf ..) (g:=fun v=>⟨v,σ.blks,[]⟩) h
   exact O6 ho (he.t ht) hz
  ·cases h
 ·rename_i t x i ho
  split at h
  ·rename_i ti ht
   split at h
   ·rename_i te hte
    split at h
    ·rename_i hsl
     obtain⟨z,hz,rfl⟩:=viaN' (f:=fun R K=>idxA σ.blks te.ty (σ.opd x) (σ.opd i) K) (fun R K=>Sb ..) (g:=fun v=>⟨v,σ.blks,[]⟩) h
     exact O7 ho (he.t ht) (he.t hte) hsl hz
    ·cases h
   ·cases h
  ·cases h
 ·rename_i t x i ho
  split at h
  ·rename_i ti ht
   split at h
   ·rename_i hs
    obtain⟨z,hz,rfl⟩:=viaN' (f:=fun R K=>chrA (σ.opd x) (σ.opd i) K) (fun R K=>S7 ..) (g:=fun v=>⟨v,σ.blks,[]⟩) h
    exact UG ho (he.t ht) hs hz
   ·cases h
  ·cases h
 ·rename_i x i ho
  split at h
  ·rename_i v hv
   split at h
   ·cases h
   ·rename_i ht; injection h with h; subst h; exact RF ho hv (by simpa using ht)
  ·cases h
 ·rename_i c ho
  unfold execCall at h
  split at h
  ·rename_i hc
   split at h
   ·rename_i x t r hx hts
    split at h
    ·rename_i ti ht
     obtain⟨z,hz,rfl⟩:=viaN' (f:=fun R K=>lenA σ.blks ti x K) (fun R K=>SU ..) (g:=fun v=>⟨v,σ.blks,[]⟩) h
     exact Zp ho hc hx hts (he.t ht) hz
    ·cases h
   ·cases h
  ·rename_i hc
   split at h
   ·rename_i x y hx
    obtain⟨z,hz,rfl⟩:=viaN' (f:=fun R K=>mmA false x y K) (fun R K=>OU ..) (g:=fun v=>⟨v,σ.blks,[]⟩) h
    exact Zg (mx:=false) ho hc hx hz
   ·cases h
  ·rename_i hc
   split at h
   ·rename_i x y hx
    obtain⟨z,hz,rfl⟩:=viaN' (f:=fun R K=>mmA true x y K) (fun R K=>OU ..) (g:=fun v=>⟨v,σ.blks,[]⟩) h
    exact Zg (mx:=true) ho hc hx hz
   ·cases h
  ·rename_i hc
   split at h
   ·rename_i x y t tx hx hts
    split at h
    ·rename_i ti tix ht htx
     split at h
     ·rename_i te hte
      split at h
      ·rename_i hk
       rw[Bool.and_eq_true] at hk
       exact Te ho hc hx hts (he.t ht) (he.t hte) hk.1 (he.t htx) hk.2 h
      ·cases h
     ·cases h
    ·cases h
   ·cases h
  ·cases h
  ·rename_i fo hc
   split at h
   ·rename_i g0 caps hf
    split at h
    ·rename_i ca hg; exact XH he ho hc hf hg h
    ·cases h
   ·cases h
  ·cases h
 ·cases h
theorem X8{e':Eff}{t:Ty}(h:Snd P σ o e)(hf:frzE σ.blks.length t e=some e'):Snd P σ o e':=by
 unfold frzE at hf
 split at hf
 ·rename_i x hr
  split at hf
  ·rename_i hN
   injection hf with hf; subst hf
   have hZ:∀k∈(e.val.lend e.blks).filter (fun k=>!decide (k<σ.blks.length)),σ.blks.length≤k:=fun k hk=>by
    have:=(List.mem_filter.1 hk).2
    simpa using this
   refine⟨by rw[AJ]; exact h.grow,fun hm=>?_,fun a w g hs next Q hn=>h.wp a w g hs next Q fun v w' g' H hv st=>?_⟩
   ·obtain⟨l,hl⟩:=h.ext hm
    simp only
    generalize (e.val.lend e.blks).filter (fun k=>!decide (k<σ.blks.length))=Z at hZ
    rw[hl]
    exact Sq Z _ _ hZ
   ·generalize hZe:(e.val.lend e.blks).filter (fun k=>!decide (k<σ.blks.length))=Z at hZ hn
    refine hn v w' (g'.thaw Z) (VM H hN Z) ?_ ⟨st.os,st.tape,st.output,st.size,fun b hb h=>?_,fun b h=>?_,fun b k p h hk hm=>?_,fun k hk=>st.at_ k hk⟩
    ·rw[AJ]
     obtain⟨h1,h2⟩:=LX hr
     obtain⟨cs,hcs,hv⟩:=A0 h1 h2 hv
     obtain⟨hrd,hlt⟩:=J1 H t e.val x cs hr hcs
     refine Bg (a:=.dat _ t x) rfl ⟨fun k hk=>hlt k (List.mem_filter.1 hk).1,hrd.mono fun b a=>⟨a.frz.mono fun k hk=>?_,rfl⟩⟩ (by rw[show(AV.dat _ t x).isAgg=e.val.isAgg from(Nz hr).symm]; exact hv)
     subst hZe
     simp only[List.mem_filter,Bool.not_eq_true',decide_eq_false_iff_not,decide_eq_true_eq] at hk ⊢
     refine⟨hk.1,?_⟩
     rcases Nat.lt_or_ge k σ.blks.length with h | h
     ·exact h
     ·exact absurd ⟨hk.1,by omega⟩ hk.2
    ·have:=st.no b hb h
     exact⟨by simp[G.thaw,this.1],this.2⟩
    ·have:=st.imm b h
     exact⟨Ro this.1,this.2⟩
    ·have:=st.lab b k p h hk hm
     exact⟨Lc this.1 fun hz=>by have:=hZ k hz; omega,this.2⟩
  ·cases hf
 ·cases hf
def G.sha(g:G)(k:Nat):G:=⟨fun b=>match g.own b with | .lab j r=>if j=k∧r≠[] then .imm else .lab j r | t=>t,g.at_⟩
theorem OwR.rdS{w:World}{own:Nat→Tag}{k:Nat}{A:Nat→Prop}(h:∀b q,q≠[]→own b=.lab k q→A b):∀{t:Ty} {L:List Nat} {x:t.V} {cs:List Value},L≠[]→OwR w own k t L x cs→RdR w A t x cs
 | .int _,_,_,_,_,r=>r
 | .bool,_,_,_,_,r=>r
 | .str,_,_,_,_,r=>r
 | .unit,_,_,_,_,r=>r
 | .pair _ _,_,_,_,_,⟨c,d,e,r1,r2⟩=>⟨c,d,e,OwR.rdS h (by simp) r1,OwR.rdS h (by simp) r2⟩
 | .sl t,L,xs,cs,hL,⟨ad,cap,e,r⟩=>by
  rcases r with ⟨hx,hcap⟩| ⟨b,e1,cur,ds,ha,ho,hh,h1,h2,h3,h4,hc⟩
  ·subst hx
   exact⟨ad,cap,[],e,by simp,rfl,.inl rfl⟩
  ·refine⟨ad,cap,ds,e,h1,hc.toR fun i x c r=>OwR.rdS h (by simp) r,.inr ⟨b,0,ha,h b L hL ho,fun j q hq=>?_⟩⟩
   rw[Lg hh,Nat.zero_add,←Array.getElem?_toList]
   subst h4
   rw[List.getElem?_take] at hq
   split at hq
   ·exact hq
   ·cases hq
 | .opq _,_,_,_,_,r=>r.elim
theorem Vj{e':Eff}(h:Snd P σ o e)(hf:shalE σ.blks.length e=some e'):Snd P σ o e':=by
 unfold shalE at hf
 split at hf
 ·rename_i k hval
  split at hf
  ·rename_i hk
   split at hf
   ·rename_i el t xs hb
    injection hf with hf; subst hf
    refine⟨by simpa using h.grow,fun hm=>?_,fun a w g hs next Q hn=>h.wp a w g hs next Q fun v w' g' H hv st=>?_⟩
    ·obtain⟨l,hl⟩:=h.ext hm
     simp only
     rw[hl,List.set_append_right _ _ hk]
     exact⟨_,rfl⟩
    ·have hal:∀{ks:List Nat} {b:Nat},Al g'.own ks b→Al (g'.sha k).own ks b:=fun {ks b} ha=>by
       rcases ha with ha | ⟨j,hj,r,ha⟩
       ·exact .inl (by simp[G.sha,ha])
       ·by_cases hc:j=k∧r≠[]
        ·exact .inl (by simp[G.sha,ha,hc])
        ·exact .inr ⟨j,hj,r,by simp only[G.sha,ha,if_neg hc]⟩
     have hroot:∀{b j:Nat},g'.own b=.lab j []→(g'.sha k).own b=.lab j []:=fun {b j} h=>by simp[G.sha,h]
     have hav:∀(a:AV) (m:Bool) {cs:List Value},AVX w' g' e.blks.length m a cs→AVX w' (g'.sha k) e.blks.length m a cs:=by
      intro a
      induction a with
      | dat ks t x=>intro m cs hx; cases m with
       | false=>exact⟨hx.1,hx.2.mono fun b a=>⟨hal a,rfl⟩⟩
       | true=>exact hx.elim
      | rop ks t x=>intro m cs hx; cases m with
       | false =>
        obtain⟨hk,b,off,ds,e,ha,r,hc⟩:=hx
        exact⟨hk,b,off,ds,e,hal ha,r.mono fun b a=>⟨hal a,rfl⟩,hc⟩
       | true=>exact hx.elim
      | nst k i p o e=>intro m cs hx; cases m with
       | false =>
        obtain⟨hk,h0,h1,b,v,ha,ho,e1,e2,hc⟩:=hx
        exact⟨hk,h0,h1,b,v,ha,hroot ho,e1,e2,hc⟩
       | true=>exact hx.elim
      | pr a b iha ihb=>intro m cs hx; cases m with
       | false =>
        obtain⟨c,d,e,h1,h2⟩:=hx
        exact⟨c,d,e,iha false h1,ihb false h2⟩
       | true=>exact hx.elim
      | fn f c ih=>intro m cs hx; cases m with
       | false =>
        obtain⟨vs,e,hx⟩:=hx
        exact⟨vs,e,ih true hx⟩
       | true=>exact hx.elim
      | cons a b iha ihb=>intro m cs hx; cases m with
       | true =>
        obtain⟨v,r,e,h1,h2⟩:=hx
        exact⟨v,r,e,h1.imp id fun⟨cs,hx,hv⟩=>⟨cs,iha false hx,hv⟩,ihb true h2⟩
       | false=>exact hx.elim
      | _=>intro m cs hx; cases m<;>exact hx
     refine hn v w' (g'.sha k) ⟨fun b hb=>by simp[G.sha,H.fresh b hb],fun j x hx=>?_⟩ ?_ ⟨st.os,st.tape,st.output,st.size,fun b hb h=>?_,fun b h=>?_,fun b j p h hj hm=>?_,fun j hj=>st.at_ j hj⟩
     ·rw[List.length_set]
      rw[List.getElem?_set] at hx
      split at hx
      ·rename_i ek; subst ek
       split at hx
       ·injection hx with hx; subst hx
        obtain⟨hmi,hlen,hes,hpos,hr⟩:=H.blk k _ hb
        refine⟨fun j hj=>(by cases hj),hlen,hes,hpos,hr.imp id fun⟨b,cur,ds,ha,ho,hh,h1,h2,h3,h4,hc⟩=>⟨b,cur,ds,ha,hroot ho,hh,h1,h2,h3,h4,?_⟩⟩
        exact hc.toR fun i x c r=>OwR.rdS (fun b q hq hb=>.inl (by simp[G.sha,hb,hq])) (by simp) r
       ·cases hx
      ·rename_i hne
       have hB:=H.blk j x hx
       cases x with
       | dead=>trivial
       | map m kt vt es st =>
        obtain⟨hmi,b,arr,clock,ha,ho,hh,hnd,hm⟩:=hB
        refine⟨hmi,b,arr,clock,ha,hroot ho,hh,hnd,hm.on fun i x c r=>?_⟩
        cases m with
        | deep =>
         refine OwR.mono (fun b q hb=>⟨?_,rfl⟩) r
         have:¬(j=k∧q++[i]≠[]):=fun hq=>hne hq.1.symm
         show(match g'.own b with | .lab j r=>if j=k∧r≠[] then Tag.imm else .lab j r | t=>t)=_
         rw[hb]
         exact if_neg this
        | sh ks=>exact RdR.mono (fun b a=>⟨hal a,rfl⟩) r
       | hole e2 t xs i p =>
        obtain⟨h1,h2,h3,h4,h5,u,o,x0,b,cur,ds,q1,q2,q3,ha,ho,hh,c1,c2,c3,c4,hc⟩:=hB
        refine⟨h1,h2,h3,h4,h5,u,o,x0,b,cur,ds,q1,q2,q3,ha,hroot ho,hh,c1,c2,c3,c4,hc.mono fun i x c r=>r.mono fun b q hb=>⟨?_,rfl⟩⟩
        have:¬(j=k∧q++[i]≠[]):=fun hq=>hne hq.1.symm
        show(match g'.own b with | .lab j r=>if j=k∧r≠[] then Tag.imm else .lab j r | t=>t)=_
        rw[hb]
        exact if_neg this
       | box a =>
        obtain⟨h1,b,cs,e,ha,ho,hh,hx⟩:=hB
        exact⟨h1,b,cs,e,ha,hroot ho,hh,hav a false hx⟩
       | row e2 m t xs =>
        obtain⟨hmi,hlen,hes,hpos,hr⟩:=hB
        refine⟨hmi,hlen,hes,hpos,hr.imp id fun⟨b,cur,ds,ha,ho,hh,h1,h2,h3,h4,hc⟩=>⟨b,cur,ds,ha,hroot ho,hh,h1,h2,h3,h4,?_⟩⟩
        cases m with
        | deep =>
         refine hc.mono fun i x c r=>r.mono fun b q hb=>⟨?_,rfl⟩
         have:¬(j=k∧q++[i]≠[]):=fun hq=>hne hq.1.symm
         show(match g'.own b with | .lab j r=>if j=k∧r≠[] then Tag.imm else .lab j r | t=>t)=_
         rw[hb]
         exact if_neg this
        | sh ks=>exact hc.mono fun x c r=>r.mono fun b a=>⟨hal a,rfl⟩
     ·rw[List.length_set]
      rw[hval] at hv
      obtain⟨hk1,hv1⟩:=KF hv
      rw[hv1]
      exact Bg (cs:=[_]) rfl ⟨hk1,rfl⟩ rfl
     ·have:=st.no b hb h
      exact⟨by simp[G.sha,this.1],this.2⟩
     ·have:=st.imm b h
      exact⟨by simp[G.sha,this.1],this.2⟩
     ·have:=st.lab b j p h hj hm
      have hne:¬(j=k∧p≠[]):=fun hq=>by have:=hq.1; omega
      exact⟨by simp only[G.sha,this.1,if_neg hne],this.2⟩
   ·cases hf
  ·cases hf
 ·cases hf
theorem XS{t:TypeId}{x:Operand}(ho:o.op=.load t x){ti:TI}(ht:TOk P t ti)(hsl:ti.isSl=true){k:Nat}{i:Int}{p:List Nat}{f e0:Nat}(hx:σ.opd x=.ptr k i p f){el:Nat}{tr:Ty}{xs:List tr.V}(hb:σ.blks[k]?=some (.row el .deep tr xs)){v:AV}(hat:atP σ.blks k i p f=some v)(hsz:v.size=1):Snd P σ o ⟨.nst k i p f e0,σ.blks,[]⟩ :=
 .of_qt <| KM (s:=fun ρ=>Instr.loadAt t (ρ x)) (fun ρ=>by simp[execOp,ho]) fun a w g hst=>by
  have hxx:=Av hst x
  rw[hx] at hxx
  obtain⟨hk,h0,h1,b,hba,hpe⟩:=Im hxx
  obtain⟨hmi,hlen,hes,hpos,hr⟩:=hst.heap.blk k _ hb
  obtain⟨cs,hcx,hcell⟩:=LM hst.heap hat h1 hba
  have hone:ti.ty.size=1∧ti.ty.isAgg=false:=by
   unfold TI.isSl at hsl
   split at hsl
   ·rename_i u hu; rw[hu]; exact⟨rfl,rfl⟩
   ·cases hsl
  have hl:cs.length=ti.ty.size:=by rw[hcx.len,hsz,hone.1]
  obtain⟨v1,hv1,hsv⟩:=KA (w:=w) ht hl hcell (fun hg=>by rw[hl]; exact hone.1)
  rw[hone.2] at hsv
  have hcs:cs=[v1]:=hsv
  subst hcs
  rcases hr with ⟨hx0,_⟩| ⟨b',cur,ds,ha,hown,_⟩
  ·rw[hlen,hx0] at h1; simp at h1
  ·rw[hba] at ha; injection ha with ha; injection ha with ha; subst ha
   refine⟨v1,by rw[hpe]; simp[Instr.loadAt,Instr.sureAddr,hv1],Bg (cs:=[v1]) rfl ⟨hk,h0,h1,b,v1,hba,hown,rfl,hcx.one v1 (by simp),?_⟩ rfl⟩
   have:=hcell 0 v1 rfl
   simpa using this
theorem Wi {w:World} {g:G} {n k:Nat} {i:Int} {p:List Nat} {e b:Nat} (hk:k<n) (h0:0≤i) (h1:i.toNat<(g.at_ k).len) (hba:(g.at_ k).a=some ⟨b,0,none⟩) (hown:g.own b=.lab k []) {A:Nat→Prop} :
    ∀{t:Ty} {x:t.V} {f o:Nat} {z:AV} {cs:List Value},nstF k i p e t x f o=some z→RdR w A t x cs→(∀j u,cs[j]?=some u→w.cell? ⟨b,i.toNat*(g.at_ k).esz+o+j,none⟩=some u)→AVX w g n false z cs∧z.isAgg=t.isAgg∧z.isTup=false
 | .unit,x,f,o,z,cs,h,hr,_=>by
  simp only[nstF,Option.some.injEq] at h; subst h
  exact⟨⟨fun k hk=>(by cases hk),hr⟩,rfl,rfl⟩
 | .pair a c,x,f,o,z,cs,h,⟨c1,c2,ecs,r1,r2⟩,hc=>by
  simp only[nstF] at h
  split at h
  ·rename_i r hrr
   have hl1:=r1.len
   obtain⟨ih,_,_⟩:=Wi hk h0 h1 hba hown hrr r2 (fun j u hu=>by
    have:=hc (c1.length+j) u (by rw[ecs,List.getElem?_append_right (by omega)]; rw[show c1.length+j-c1.length=j by omega]; exact hu)
    rw[←this]; congr 2; omega)
   split at h
   ·rename_i hsl
    injection h with h; subst h
    obtain⟨ad,n0,cap,e1⟩:∃ad n0 cap,c1=[.slice ad n0 cap]:=by
     cases a with
     | sl u=>obtain⟨ad,cap,ds,e1,_⟩:=r1; exact⟨_,_,_,e1⟩
     | _=>cases hsl
    refine⟨⟨c1,c2,ecs,⟨hk,h0,h1,b,_,hba,hown,e1,rfl,?_⟩,ih⟩,rfl,rfl⟩
    have:=hc 0 _ (by rw[ecs,e1]; rfl)
    simpa using this
   ·split at h
    ·rename_i hf
     injection h with h; subst h
     exact⟨⟨c1,c2,ecs,⟨fun k hk=>(by cases hk),(RdR.flat hf).2 ((RdR.flat hf).1 r1)⟩,ih⟩,rfl,rfl⟩
    ·cases h
  ·cases h
 | .int _,_,_,_,_,_,h,_,_=>by simp[nstF] at h
 | .bool,_,_,_,_,_,h,_,_=>by simp[nstF] at h
 | .str,_,_,_,_,_,h,_,_=>by simp[nstF] at h
 | .sl _,_,_,_,_,_,h,_,_=>by simp[nstF] at h
 | .opq _,_,_,_,_,_,h,_,_=>by simp[nstF] at h
theorem XC{t:TypeId}{x:Operand}(ho:o.op=.load t x){ti:TI}(ht:TOk P t ti){k:Nat}{i:Int}{p:List Nat}{f e0:Nat}(hx:σ.opd x=.ptr k i p f){el:Nat}{tr:Ty}{xs:List tr.V}(hb:σ.blks[k]?=some (.row el .deep tr xs)){ks:List Nat}{t':Ty}{y:t'.V}(hat:atP σ.blks k i p f=some (.dat ks t' y))(hty:t'=ti.ty){z:AV}(hz:nstF k i p e0 t' y 0 f=some z):Snd P σ o ⟨z,σ.blks,[]⟩ :=
 .of_qt <| KM (s:=fun ρ=>Instr.loadAt t (ρ x)) (fun ρ=>by simp[execOp,ho]) fun a w g hst=>by
  subst hty
  have hxx:=Av hst x
  rw[hx] at hxx
  obtain⟨hk,h0,h1,b,hba,hpe⟩:=Im hxx
  obtain⟨hmi,hlen,hes,hpos,hr⟩:=hst.heap.blk k _ hb
  obtain⟨cs,hcx,hcell⟩:=LM hst.heap hat h1 hba
  have hl:cs.length=ti.ty.size:=hcx.len
  obtain⟨v1,hv1,hsv⟩:=KA (P:=P) (w:=w) ht hl hcell (fun hg=>by rw[hl]; exact Lo hg)
  rcases hr with ⟨hx0,_⟩| ⟨b',cur,ds,ha,hown,_⟩
  ·rw[hlen,hx0] at h1; simp at h1
  ·rw[hba] at ha; injection ha with ha; injection ha with ha; subst ha
   obtain⟨h2,h3,h4⟩:=Wi hk h0 h1 hba hown hz hcx.2 hcell
   exact⟨v1,by rw[hpe]; simp[Instr.loadAt,Instr.sureAddr,hv1],Bg h4 h2 (by rw[h3]; exact hsv)⟩
theorem W7(he:EnvOk P en)(h:sldE en σ o=some e):Snd P σ o e:=by
 unfold sldE at h
 split at h
 ·rename_i t len parts ho
  split at h
  ·rename_i ti ht
   split at h
   ·rename_i te hte
    split at h
    ·rename_i hc
     injection h with h; subst h
     obtain⟨hty,hsl,h0,hbig,hrg,hall⟩:=hc
     have hu:=AU (he.t ht) hsl
     obtain⟨ie,z,hie,hsz,_,hz,hzc,_⟩:=(he.t hte).info
     have hsz1:ie.size=1:=by rw[hsz,hty]; rfl
     have hpl:parts.toList.length=len:=by
      have:=congrArg List.length hrg
      simpa using this
     refine⟨by simp,fun _=>⟨_,rfl⟩,fun a w g hs next Q hn=>?_⟩
     have hargs:∀(ps:List (Nat×Operand)),ArgsR w g σ.blks.length (ps.map fun p=>σ.opd p.2) (ps.map fun p=>a.eval p.2):=by
      intro ps
      induction ps with
      | nil=>trivial
      | cons p ps ih=>exact⟨Av hs p.2,ih⟩
     obtain⟨hx,hone⟩:=Y7 (l:=parts.toList.map fun p=>σ.opd p.2) (by
      intro b hb
      obtain⟨p,hp,rfl⟩:=List.mem_map.1 hb
      have:=List.all_eq_true.1 hall (p.1,σ.opd p.2) (List.mem_map.2 ⟨p,hp,rfl⟩)
      exact this) (hargs parts.toList)
     have hcells:∃l:List Value,(Array.range (len*ie.size)).map (z.cells[·%z.cells.size]!)=l.toArray∧l.length=len:=by
      exact⟨((Array.range (len*ie.size)).map (z.cells[·%z.cells.size]!)).toList,(Array.toArray_toList).symm,by simp[hsz1]⟩
     obtain⟨l0,hl0,hl0n⟩:=hcells
     have hfill:=Qz (parts.toList.map fun p=>(p.1,a.eval p.2)) [] l0 (by simpa using hl0n.trans hpl.symm) (by
      have:parts.toList.map (·.1)=List.range len:=by simpa [Function.comp_def] using hrg
      simp only[List.map_map,List.length_map,List.length_nil,hpl]
      rw[←List.range_eq_range']
      exact this) (by
      intro p hp
      obtain⟨q,hq,rfl⟩:=List.mem_map.1 hp
      exact hone _ (List.mem_map.2 ⟨q,hq,rfl⟩))
     have hr:(execOp a.eval o).run P w=.ok (.value (.slice (some ⟨w.heap.size,0,none⟩) len len)) (w.alloc (.cells (parts.toList.map fun p=>a.eval p.2).toArray ti.elem)):=by
      have:=run_buildSlice (P:=P) w t ti.elem len (parts.map fun(i,x)=>(i,a.eval x)) (parts.toList.map fun p=>a.eval p.2).toArray ie z hu hie hz (by rw[hsz1]; omega) (by rw[hsz1]; omega) (by
       rw[hl0,hsz1]
       simpa [List.map_map,Function.comp_def] using hfill)
      simp[execOp,ho,this]
     unfold Oper.wp
     rw[hr]
     have st:=Step.add hs.heap (.cells (parts.toList.map fun p=>a.eval p.2).toArray ti.elem) ⟨some ⟨w.heap.size,0,none⟩,1,1,0⟩
     have hat:(g.add σ.blks.length w.heap.size ⟨some ⟨w.heap.size,0,none⟩,1,1,0⟩).at_ σ.blks.length=⟨some ⟨w.heap.size,0,none⟩,1,1,0⟩:=by simp[G.add]
     refine hn _ _ (g.add σ.blks.length w.heap.size ⟨some ⟨w.heap.size,0,none⟩,1,1,0⟩) (hs.heap.new ?_) ?_ st
     ·refine⟨by rw[hat],w.heap.size,(parts.toList.map fun p=>a.eval p.2).toArray,ti.elem,by rw[hat],by simp[G.add],heap_alloc_new w _,?_⟩
      have hx':AVX w g σ.blks.length false (prs ((parts.toList.map fun p=>(p.1,σ.opd p.2)).map (·.2))) (parts.toList.map fun p=>a.eval p.2):=by
       rw[List.map_map]; exact hx
      exact hx'.step0 st (Nat.le_succ _)
     ·have:=Aeb (w:=w.alloc (.cells (parts.toList.map fun p=>a.eval p.2).toArray ti.elem)) (g:=g.add σ.blks.length w.heap.size ⟨some ⟨w.heap.size,0,none⟩,1,1,0⟩) (n:=σ.blks.length+1) (k:=σ.blks.length) (l:=len) (Nat.lt_succ_self _)
      rw[hat] at this
      simpa using this
    ·cases h
   ·cases h
  ·cases h
 ·cases h
theorem WU(he:EnvOk P en){v:AV}(h:arrO en σ o=some v):Snd P σ o ⟨v,σ.blks,[]⟩:=by
 unfold arrO at h
 split at h
 ·rename_i t x ho
  split at h
  ·cases h
  ·rename_i d hd
   split at h
   ·rename_i e ti k i p f _ ht hxp
    split at h
    ·rename_i el tr xs v0 hb hat
     split at h
     ·rename_i hc
      injection h with h; subst h
      exact XS ho (he.t ht) hc.1 hxp hb hat hc.2
     ·split at h
      ·rename_i ks t' y hat'
       split at h
       ·rename_i hty
        exact XC ho (he.t ht) hxp hb hat hty h
       ·cases h
      ·cases h
    ·cases h
   ·cases h
 ·rename_i t parts ho
  split at h
  ·rename_i ti ht
   split at h
   ·cases h
   ·rename_i hn
    split at h
    ·rename_i te hte
     split at h
     ·rename_i hty
      exact QH ho (he.t ht) (he.t hte) hn hty h
     ·cases h
    ·cases h
  ·cases h
 ·rename_i t x i ho
  split at h
  ·rename_i ti ht
   split at h
   ·cases h
   ·rename_i hn
    split at h
    ·rename_i te hte
     split at h
     ·rename_i ks kk j hi
      split at h
      ·rename_i hj
       split at h
       ·rename_i v' hv
        split at h
        ·rename_i hsz
         injection h with h; subst h
         exact QJ ho (he.t ht) (he.t hte) hn hi hj hv hsz
        ·cases h
       ·cases h
      ·cases h
     ·cases h
    ·cases h
  ·cases h
 ·rename_i c ho
  split at h
  ·rename_i k n t r hc hx hts
   split at h
   ·rename_i ti ht
    split at h
    ·rename_i hs
     injection h with h; subst h
     exact Tc ho hc hx hts (he.t ht) hs
    ·cases h
   ·cases h
  ·cases h
 ·rename_i t x i ho
  split at h
  ·rename_i ti ht
   split at h
   ·split at h
    ·rename_i te k n ks kk j hte hx hi
     split at h
     ·rename_i hc
      split at h
      ·rename_i b hb
       injection h with h; subst h
       exact TK ho (he.t ht) (he.t hte) hc.1 hc.2.1 hx hi hc.2.2.1 hc.2.2.2 hb
      ·cases h
     ·cases h
    ·cases h
   ·rename_i hn
    split at h
    ·rename_i te hte
     split at h
     ·rename_i ks kk j hi
      split at h
      ·rename_i hj
       exact M9 ho (he.t ht) (he.t hte) hn hi hj.1 hj.2 h
      ·cases h
     ·cases h
    ·cases h
  ·cases h
 ·cases h
theorem NT(he:EnvOk P en)(h:exec0 en σ o some=some e):Snd P σ o e:=by
 unfold exec0 at h
 split at h
 ·rename_i v hv
  injection h with h; subst h
  exact WU he hv
 split at h
 ·rename_i e' hv
  injection h with h; subst h
  exact W7 he hv
 split at h
 ·cases hd:dstSh en o with
  | false=>rw[hd] at h; exact N0 he h
  | true =>
   rw[hd] at h
   simp only[cond_true] at h
   rw[IC en he.nat] at h
   cases hx:execP en σ o some with
   | none=>rw[hx] at h; cases h
   | some e0 =>
    rw[hx] at h
    simp only[Option.bind_some] at h
    split at h
    ·rename_i e' hf
     injection h with h; subst h
     exact Vj (N0 he hx) hf
    ·cases h
 ·rename_i t _
  rw[IC en he.nat] at h
  cases hx:execP en σ o some with
  | none=>rw[hx] at h; cases h
  | some e0 =>
   rw[hx] at h
   simp only[Option.bind_some] at h
   split at h
   ·rename_i e' hf
    injection h with h; subst h
    exact X8 (N0 he hx) hf
   ·cases h
theorem Kn(he:EnvOk P en)(h:exec en σ o some=some e):Snd P σ o e:=by
 unfold exec at h
 split at h
 ·split at h
  ·split at h
   ·rename_i bs hp
    rw[Lw en he.nat] at h
    cases hx:exec0 en ⟨σ.slots,bs⟩ o some with
    | none=>rw[hx] at h; cases h
    | some e0 =>
     rw[hx,Option.bind_some] at h
     split at h
     ·cases h
     ·rename_i hm
      injection h with h; subst h
      have hs:=NT he hx
      obtain⟨l',hf⟩:=Sv hp
      have hl:=SI hf
      refine⟨Nat.le_trans hl hs.grow,fun hm0=>by rw[hm0] at hm; exact(hm rfl).elim,fun a w g hst next Q hn=>?_⟩
      obtain⟨_,g',H',st⟩:=We hf hst.heap
      exact hs.wp a w g' ⟨H',hst.len,fun i x hx=>(hst.slots i x hx).step0 st hl⟩ next Q fun v w' g2 h1 h2 h3=>hn v w' g2 h1 h2 (st.trans h3 hl)
   ·cases h
  ·exact NT he h
 ·exact NT he h
end
end Go.Va
