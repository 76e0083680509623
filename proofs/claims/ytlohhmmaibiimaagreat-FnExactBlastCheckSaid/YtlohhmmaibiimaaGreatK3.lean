import Derived.Test.YtlohhmmaibiimaaGreatK2
set_option linter.unusedVariables false
set_option linter.unusedSimpArgs false
namespace Go.Va
def SrcEl(w:World)(g:G)(t:Ty)(m:RM)(rs:List Nat)(i:Nat)(x:t.V)(c:List Value):Prop :=
 (t.flat=true∧c=flatC t x)∨(∃ks,m=.sh ks∧RdR w (Al g.own ks) t x c)∨∃j,rs=[j]∧ElR w g.own j m t i x c
theorem SrcEl.len{w:World}{g:G}{t:Ty}{m:RM}{rs:List Nat}{i:Nat}{x:t.V}{c:List Value}(h:SrcEl w g t m rs i x c):c.length=t.size:=by
 rcases h with ⟨hf,rfl⟩| ⟨ks,_,h⟩| ⟨j,_,h⟩
 ·exact RdR.len (w:=default) (A:=fun _=>True) ((RdR.flat hf).2 rfl)
 ·exact h.len
 ·exact h.len
theorem SrcEl.one{w:World}{g:G}{t:Ty}{m:RM}{rs:List Nat}{i:Nat}{x:t.V}{c:List Value}(h:SrcEl w g t m rs i x c):∀v∈c,v.oneCell'=true:=by
 rcases h with ⟨hf,rfl⟩| ⟨ks,_,h⟩| ⟨j,_,h⟩
 ·exact RdR.one (w:=default) (A:=fun _=>True) ((RdR.flat hf).2 rfl)
 ·exact h.one
 ·cases m with
  | deep=>exact OwR.one h
  | sh ks=>exact RdR.one h
theorem ElR.flat{w:World}{own:Nat→Tag}{k:Nat}{m:RM}{t:Ty}{i:Nat}{x:t.V}{c:List Value}(hf:t.flat=true):ElR w own k m t i x c↔c=flatC t x:=by
 cases m with
 | deep=>exact OwR.flat hf
 | sh ks=>exact RdR.flat hf
section
variable {P:Program} {w:World} {g:G} {bs:List Blk}
theorem Xu{ds:List Value}{b:Nat}{cur:Array Value}{el:TypeId}{fr:Nat×Nat}{n:Nat}(hh:w.heap[b]?=some (.cells cur el fr))(h4:cur.toList.take n=ds):∀j u,ds[j]?=some u→w.cell? ((⟨b,0,none⟩:Addr).add j)=some u:=by
 intro j u hu
 rw[addN,Nat.zero_add,Lg hh,←Array.getElem?_toList]
 subst h4
 rw[List.getElem?_take] at hu
 split at hu
 ·exact hu
 ·cases hu
theorem AbR (H:Heap w g bs) {t:Ty} {y:AV} {ys:List t.V} {m:RM} {rs:List Nat} (h:srcA bs t y=some (ys,m,rs)) {v:Value} (hv:AVR w g bs.length y v) {tx:TypeId} {tix:TI} (htx:TOk P tx tix) (hk:(tix.isSl||tix.ty==.str)=true) :
    ∃news,Src P t.size tx v ys.length news w∧ListI (SrcEl w g t m rs) 0 ys news∧(∀j∈m.ids,j<bs.length)∧(∀j∈rs,j<bs.length)∧(rs=[]∨∃j,rs=[j]):=by
 have hkind:(∃e',P.underlying tx=some (.slice e'))∨P.underlying tx=some .string:=by
  rw[Bool.or_eq_true] at hk
  rcases hk with hk | hk
  ·exact .inl ⟨_,AU htx hk⟩
  ·exact .inr (J3 htx (by simpa using hk))
 have nilS:∀(ad:Option Addr) (c:Nat),Src P t.size tx (.slice ad 0 c) 0 [] w:=fun ad c =>
  ⟨hkind,fun _=>rfl,by
   cases ad with
   | none=>exact run_firstCells_none w t.size 0 0 c
   | some a=>exact run_firstCells_some w t.size 0 a 0 c [] (by simp) (by simp),by
   cases ad with
   | none=>exact run_firstCells_none w.drew t.size 0 0 c
   | some a=>exact run_firstCells_some w.drew t.size 0 a 0 c [] (by simp) (by simp),by simp,fun _ h=>by cases h⟩
 have sliceS:∀(a:Addr) (n c:Nat) (news:List Value),news.length=n*t.size→(∀j u,news[j]?=some u→w.cell? (a.add j)=some u)→(∀u∈news,u.oneCell'=true)→Src P t.size tx (.slice (some a) n c) n news w:=fun a n c news hl hn h1 =>
  ⟨hkind,fun _=>rfl,run_firstCells_some w t.size n a n c news hl hn,run_firstCells_some w.drew t.size n a n c news hl (by simpa using hn),hl,h1⟩
 unfold srcA at h
 split at h
 ·simp only[Option.some.injEq,Prod.mk.injEq] at h
  obtain⟨rfl,rfl,rfl⟩:=h
  obtain⟨ad,rfl⟩:=Ou hv
  exact⟨[],nilS ad 0,rfl,fun j hj=>by(cases hj),fun j hj=>by(cases hj),.inl rfl⟩
 ·rename_i ks u xs
  split at h
  ·rename_i l hl
   obtain⟨e',he⟩:=AQ hl
   injection e' with e'; subst e'; simp only at he; subst he
   simp only[Option.some.injEq,Prod.mk.injEq] at h
   obtain⟨rfl,rfl,rfl⟩:=h
   obtain⟨hks,ad,cap,ds,rfl,hcap,hr,hm⟩:=NQ hv
   have hEl:ListI (SrcEl w g u (if u.flat=true then RM.deep else RM.sh ks) []) 0 xs ds:=by
    refine hr.toI fun i x c h=>?_
    cases hf:u.flat with
    | true=>exact .inl ⟨hf,(RdR.flat hf).1 h⟩
    | false=>exact .inr (.inl ⟨ks,by simp,h⟩)
   refine⟨ds,?_,hEl,fun j hj=>?_,fun j hj=>by(cases hj),.inl rfl⟩
   ·rcases hm with rfl | ⟨b,off,rfl,_,hc⟩
    ·cases hr; exact nilS ad cap
    ·exact sliceS _ _ _ _ (ListR.len (fun x c h=>RdR.len h) hr) (fun j u hu=>by rw[addN]; exact hc j u hu) (ListR.all (fun x c h=>RdR.one h) hr)
   ·cases hf:u.flat with
    | true=>rw[hf] at hj; cases hj
    | false=>rw[hf] at hj; exact hks j hj
  ·cases h
 ·rename_i ks s
  split at h
  ·rename_i l hl
   obtain⟨e',he⟩:=AQ hl
   injection e' with e'; subst e'; simp only at he; subst he
   simp only[Option.some.injEq,Prod.mk.injEq] at h
   obtain⟨rfl,rfl,rfl⟩:=h
   obtain rfl:=L3 hv
   refine⟨byteCells s,?_,?_,fun j hj=>by(cases hj),fun j hj=>by(cases hj),.inl rfl⟩
   ·have e1:(s.data.toList.map fun b=>(b.toNat:Int)).length=s.size:=by rw[List.length_map,Array.length_toList]; rfl
    rw[e1]
    exact⟨hkind,fun _=>rfl,firstCells_string s w,firstCells_string s w.drew,by rw[byteCells_length]; exact(Nat.mul_one _).symm,fun u hu=>by
     obtain⟨_,_,rfl⟩:=List.mem_map.1 hu
     rfl⟩
   ·have:∀(l:List UInt8) (i:Nat),ListI (SrcEl w g (.int .u8) .deep []) i (l.map fun b=>(b.toNat:Int)) (l.map fun b=>Value.int .u8 b.toNat):=by
      intro l
      induction l with
      | nil=>exact fun _=>rfl
      | cons b l ih=>exact fun i=>⟨[_],_,rfl,.inl ⟨rfl,rfl⟩,ih (i+1)⟩
    exact this _ 0
  ·cases h
 ·rename_i j
  split at h
  ·rename_i el m1 u xs hb
   split at h
   ·rename_i l hl
    obtain⟨e',he⟩:=AQ hl
    injection e' with e'; subst e'; simp only at he; subst he
    simp only[Option.some.injEq,Prod.mk.injEq] at h
    obtain⟨rfl,rfl,rfl⟩:=h
    obtain⟨hj,rfl⟩:=KF hv
    obtain⟨hmi,hlen,hes,hpos,hr⟩:=H.blk j _ hb
    rw[hlen]
    have hids:∀j'∈(if u.flat=true then RM.deep else m1).ids,j'<bs.length:=fun j' hj'=>by
     split at hj'
     ·cases hj'
     ·exact hmi j' hj'
    have hrs:∀j'∈(if u.flat=true then[] else[j]),j'<bs.length:=fun j' hj'=>by
     split at hj'
     ·cases hj'
     ·simp at hj'; subst hj'; exact hj
    have hsh:(if u.flat=true then[] else[j])=[]∨∃j',(if u.flat=true then[] else[j])=[j']:=by
     cases u.flat with
     | true=>exact .inl rfl
     | false=>exact .inr ⟨j,rfl⟩
    rcases hr with ⟨rfl,hc0⟩| ⟨b,cur,ds,ha,hown,⟨elq,_,hh⟩,h1,h2,h3,h4,hcon⟩
    ·rw[hc0]
     exact⟨[],nilS _ 0,rfl,hids,hrs,hsh⟩
    ·rw[ha]
     have hEl:ListI (SrcEl w g u (if u.flat=true then RM.deep else m1) (if u.flat=true then[] else[j])) 0 xs ds:=by
      refine(Jk.1 hcon).mono fun i x c h=>?_
      cases hf:u.flat with
      | true=>exact .inl ⟨hf,(ElR.flat hf).1 h⟩
      | false=>exact .inr (.inr ⟨j,by simp,by simpa using h⟩)
     exact⟨ds,sliceS _ _ _ _ (ListI.len (fun i x c h=>h.len) hEl) (Xu hh h4) (ListI.all (fun i x c h=>h.one) hEl),hEl,hids,hrs,hsh⟩
   ·cases h
  ·cases h
 ·cases h
def shiftL(off:Nat):List Nat→List Nat
 | []=>[]
 | [i]=>[off+i]
 | a::b::r=>a::shiftL off (b::r)
theorem NZ(off i:Nat):∀(q:List Nat),shiftL off (q++[i])=q++[off+i]
 | []=>rfl
 | [a]=>rfl
 | a::b::q=>by
  have:=NZ off i (b::q)
  simp only[List.cons_append] at this ⊢
  simp only[shiftL,this]
def appF(kk:Option Nat)(n off:Nat)(m:RM)(rs:List Nat)(j:Nat)(r:List Nat):Tag :=
 if kk=some j then .lab n r else if j∈rs then(match m with | .deep=>.lab n (shiftL off r)| .sh _=>.imm) else .lab j r
theorem Oz{m m2 m':RM}(h:joinM m m2=some m'):(∀j,j∈m'.ids↔j∈m.ids∨j∈m2.ids)∧(m=.deep↔m'=.deep)∧(m'=.deep→m2=.deep):=by
 cases m<;>cases m2<;>simp only[joinM,Option.some.injEq,reduceCtorEq] at h<;>subst h<;>simp[RM.ids]
end
section
variable {P:Program} {σ:St} {o:Oper} {en:Env} {e:Eff}
theorem M5 {w:World} {g:G} {bs:List Blk} (H:Heap w g bs) {t tx ty:TypeId} {ti te tix:TI} (ht:TOk P t ti) (hte:TOk P ti.elem te) (hsl:ti.isSl=true) (htx:TOk P tx tix) (hkx:(tix.isSl||tix.ty==.str)=true) (hrow:te.ty.row=true) (hby:te.bytes≠0)
    {er:Nat} (her:er=0∨er=ti.elem) {kk:Option Nat} {m m2 m':RM} {xs ys:List te.ty.V} {rs:List Nat} {y:AV} (hsrc:srcA bs te.ty y=some (ys,m2,rs)) {ad:Option Addr} {cap:Nat}
    (hold:(xs=[]∧cap=0)∨∃k b cur ds,kk=some k∧ad=some ⟨b,0,none⟩∧g.own b=.lab k []∧CellsAt w b er cur∧xs.length≤cap∧cap≤maxLen∧cur.size=cap*te.ty.size∧cur.toList.take (xs.length*te.ty.size)=ds∧RowC w g.own k m te.ty xs ds)
    (hkk:∀k,kk=some k→k∉rs∧k∉m'.ids∧k<bs.length) (hids:∀j∈m.ids,j∈m'.ids∧j<bs.length) (hdp:xs≠[]→(m=.deep↔m'=.deep)) (hj:(∀j∈m2.ids,j∈m'.ids)∧(m'=.deep→m2=.deep)) (hm'n:∀j∈m'.ids,j<bs.length) (hoff:∀j∈m'.ids,j∉rs)
    (hfit:(xs.length+ys.length)*te.bytes≤140737488355328) {v:Value} (hv:AVR w g bs.length y v) {bs0:List Blk} (hbs0:bs0.length=bs.length) (hget:∀(j:Nat) (x:Blk),bs0[j]?=some x→x=.dead∨(j∉kk.toList++rs∧∃y,bs[j]?=some y∧x=y.drop fun i=>(kk.toList++rs).contains i)) :
    ∃r w' g',(Builtin.append_ #[t,tx] ty #[.slice ad xs.length cap,v]).run P w=.ok r w'∧Heap w' g' (bs0++[.row er m' te.ty (xs++ys)])∧AVR w' g' (bs.length+1) (.ref bs.length) r∧Step (kk.toList++rs) bs.length w g w' g':=by
 obtain⟨hdata,hpos⟩:=Sl hrow
 obtain⟨i,z,hi,hsz,hbi,hz,hzc,_⟩:=hte.info
 obtain⟨news,hs,hel,hm2,hrsn,hrs1⟩:=AbR H hsrc hv htx hkx
 have hu:=AU ht hsl
 have hzs:z.cells.size=i.size:=by rw[←Array.length_toList,hzc,LA,hsz]
 let n:=bs.length
 let f:=appF kk n xs.length m' rs
 obtain ⟨ds,hold1,hold2⟩:∃ds,((xs.length=0∧cap=0∧ds=[])∨∃b cur e0,ad=some ⟨b,0,none⟩∧(∃k,kk=some k∧g.own b=.lab k [])∧(w.heap[b]?=some (.cells cur e0 (0,0))∧(er=0∨e0=ti.elem))∧xs.length≤cap∧cap≤maxLen∧cur.size=cap*i.size∧cur.toList.take (xs.length*i.size)=ds) ∧
     ((xs=[]∧ds=[])∨∃k,kk=some k∧RowC w g.own k m te.ty xs ds):=by
  rcases hold with ⟨rfl,rfl⟩| ⟨k,b,cur,ds,h1,h2,h3,⟨e0,he0,h4⟩,h5,h6,h7,h8,h9⟩
  ·exact⟨[],.inl ⟨rfl,rfl,rfl⟩,.inl ⟨rfl,rfl⟩⟩
  ·exact⟨ds,.inr ⟨b,cur,e0,h2,⟨k,h1,h3⟩,⟨h4,by rcases he0 with h | h; exact .inl h; exact her.imp id fun h'=>h.trans h'⟩,h5,h6,by rw[hsz]; exact h7,by rw[hsz]; exact h8⟩,.inr ⟨k,h1,h9⟩⟩
 obtain⟨ad',cap',w',hrun,hos,hta,hou,hgrow,hres⟩:=Ti (P:=P) w t tx ty ti.elem i z hu hi hz hzs (by rw[hsz]; exact hpos) hold1 (by rw[hsz]; exact hs) (by rw[hbi]; exact hby) (by rw[hbi]; exact hfit)
 let i':BI:=⟨ad',xs.length+ys.length,cap',te.ty.size⟩
 have lt:∀b,g.own b≠.no→b<w.heap.size:=fun b h=>LY H h
 obtain ⟨ob,hob,hkeep,hh,hroot⟩:∃ob:Option Nat,(∀q,ob=some q→w.heap.size≤q∧q<w'.heap.size) ∧
     (∀q,q<w.heap.size→(∀k p,g.own q=.lab k p→k∉kk.toList++rs)→w'.heap[q]?=w.heap[q]?) ∧
     (∀b,(g.own b=.imm∨∃j r,g.own b=.lab j r∧(kk≠some j∨r≠[]))→w'.heap[b]?=w.heap[b]?) ∧
     ((xs++ys=[]∧cap'=0)∨∃b' cur',ad'=some ⟨b',0,none⟩∧CellsAt w' b' er cur'∧xs.length+ys.length≤cap'∧cap'≤maxLen∧cur'.size=cap'*te.ty.size∧cur'.toList.take ((xs.length+ys.length)*te.ty.size)=ds++news∧(g.upd f ob n i').own b'=.lab n []):=by
  rcases hres with ⟨h0,hc0,rfl⟩| ⟨b',cur',e1,h1,⟨h2,he1⟩,h3,h4,h5,h6,h7⟩
  ·refine⟨none,fun q h=>by(cases h),fun q _ _=>rfl,fun b _=>rfl,.inl ⟨?_,hc0⟩⟩
   apply List.eq_nil_of_length_eq_zero; rw[List.length_append]; omega
  ·rw[hsz] at h5 h6
   have h2:CellsAt w' b' er cur':=⟨e1,by rcases her with h | h; exact .inl h; exact he1.imp id fun h'=>h'.trans h.symm,h2⟩
   rcases h7 with ⟨cur,e0,_,⟨k,hk,hown⟩,hb,rfl⟩| ⟨rfl,hlt,hkp⟩
   ·have hne:∀b,(g.own b=.imm∨∃j r,g.own b=.lab j r∧(kk≠some j∨r≠[]))→b≠b':=fun b hq e=>by
      subst e
      rcases hq with hq | ⟨j,r,hq,hj⟩
      ·rw[hown] at hq; cases hq
      ·rw[hown] at hq; injection hq with e1 e2
       subst e1; subst e2
       rcases hj with hj | hj
       ·exact hj hk
       ·exact hj rfl
    refine⟨none,fun q h=>by(cases h),SQ hown (by simp[hk]),fun b hb=>setRow_other w b' b cur' (hne b hb),.inr ⟨b',cur',h1,h2,h3,h4,h5,h6,?_⟩⟩
    rw[HA (by simp) hown]
    simp[f,appF,hk]
   ·refine⟨some w.heap.size,fun q h=>by injection h with h; subst h; exact⟨Nat.le_refl _,hlt⟩,fun q hq _=>hkp q hq,fun b hb=>hkp b (lt b ?_),.inr ⟨_,cur',h1,h2,h3,h4,h5,h6,by simp[G.upd]⟩⟩
    rcases hb with hb | ⟨j,r,hb,_⟩<;>rw[hb]<;>simp
 let g':=g.upd f ob n i'
 have own_lab:∀b j r,g.own b=.lab j r→g'.own b=f j r:=fun b j r h=>HA (fun e=>by
  have h1:=(hob b e).1
  have h2:=lt b (by rw[h]; simp)
  omega) h
 have own_imm:∀b,g.own b=.imm→g'.own b=.imm:=fun b h=>Lz (fun e=>by
  have h1:=(hob b e).1
  have h2:=lt b (by rw[h]; simp)
  omega) h
 have st:Step (kk.toList++rs) n w g w' g':=Step.upd H.fresh hos hta hou hgrow hkeep (fun q h=>(hob q h).1) (Nat.le_refl _) fun j r _ hm=>by
  have h1:kk≠some j:=fun e=>hm (by simp[e])
  have h2:j∉rs:=fun e=>hm (by simp[e])
  simp[f,appF,h1,h2]
 have fkeep:∀j r,j∈m'.ids→f j r=.lab j r:=fun j r hj=>by
  have h1:kk≠some j:=fun e=>(hkk j e).2.1 hj
  simp[f,appF,h1,hoff j hj]
 have hold':∀(k i:Nat) (x:te.ty.V) (c:List Value),kk=some k→xs≠[]→ElR w g.own k m te.ty i x c→ElR w' g'.own n m' te.ty i x c:=by
  intro k i x c hk hne hel
  refine hel.on ?_
  have hd:=hdp hne
  cases m with
  | deep =>
   have:m'=.deep:=hd.1 rfl
   subst this
   intro b q hb
   exact⟨by rw[own_lab b k _ hb]; simp[f,appF,hk],hh b (.inr ⟨k,_,hb,.inr (by simp)⟩)⟩
  | sh ks =>
   cases m' with
   | deep=>have:=hd.2 rfl; cases this
   | sh ks' =>
    intro b hb
    rcases hb with hb | ⟨j,hj,r,hb⟩
    ·exact⟨.inl (own_imm b hb),hh b (.inl hb)⟩
    ·have hjm:j∈ks':=(hids j hj).1
     exact⟨.inr ⟨j,hjm,r,by rw[own_lab b j r hb]; exact fkeep j r hjm⟩,hh b (.inr ⟨j,r,hb,.inl fun e=>(hkk j e).2.1 hjm⟩)⟩
 have hnew':∀(i:Nat) (x:te.ty.V) (c:List Value),SrcEl w g te.ty m2 rs i x c→ElR w' g'.own n m' te.ty (xs.length+i) x c:=by
  intro i x c hel
  rcases hel with ⟨hf,rfl⟩| ⟨ks,rfl,hr⟩| ⟨j,hrj,hr⟩
  ·exact(ElR.flat hf).2 rfl
  ·cases m' with
   | deep=>have:=hj.2 rfl; cases this
   | sh ks' =>
    refine RdR.mono (fun b hb=>?_) hr
    rcases hb with hb | ⟨j,hjk,r,hb⟩
    ·exact⟨.inl (own_imm b hb),hh b (.inl hb)⟩
    ·have hjm:j∈ks':=hj.1 j hjk
     exact⟨.inr ⟨j,hjm,r,by rw[own_lab b j r hb]; exact fkeep j r hjm⟩,hh b (.inr ⟨j,r,hb,.inl fun e=>(hkk j e).2.1 hjm⟩)⟩
  ·have hjk:kk≠some j:=fun e=>(hkk j e).1 (by simp[hrj])
   have hjr:j∈rs:=by simp[hrj]
   refine hr.on ?_
   cases m2 with
   | deep =>
    cases m' with
    | deep =>
     intro b q hb
     refine⟨?_,hh b (.inr ⟨j,_,hb,.inl hjk⟩)⟩
     rw[own_lab b j _ hb]
     simp only[f,appF,if_neg hjk,if_pos hjr,NZ]
    | sh ks' =>
     intro b q hb
     exact⟨.inl (by rw[own_lab b j _ hb]; simp only[f,appF,if_neg hjk,if_pos hjr]),hh b (.inr ⟨j,_,hb,.inl hjk⟩)⟩
   | sh ks =>
    cases m' with
    | deep=>have:=hj.2 rfl; cases this
    | sh ks' =>
     intro b hb
     rcases hb with hb | ⟨j',hjk',r,hb⟩
     ·exact⟨.inl (own_imm b hb),hh b (.inl hb)⟩
     ·have hjm:j'∈ks':=hj.1 j' hjk'
      exact⟨.inr ⟨j',hjm,r,by rw[own_lab b j' r hb]; exact fkeep j' r hjm⟩,hh b (.inr ⟨j',r,hb,.inl fun e=>(hkk j' e).2.1 hjm⟩)⟩
 have hatn:g'.at_ n=i':=by simp[g',G.upd]
 refine⟨_,w',g',hrun,H.turn st (J4 H.fresh hgrow fun q h=>(hob q h).2) (by simp[hbs0]) fun j x hj'=>?_,?_,st⟩
 ·rw[List.getElem?_append] at hj'
  split at hj'
  ·rcases hget j x hj' with h | h
   ·exact .inl h
   ·exact .inr (.inl h)
  ·rename_i hlen
   rw[hbs0] at hj' hlen
   have hj0:j-bs.length=0:=by
    rcases Nat.eq_zero_or_pos (j-bs.length) with h | h
    ·exact h
    ·rw[List.getElem?_eq_none (by simp; omega)] at hj'; cases hj'
   rw[hj0] at hj'
   obtain rfl:j=n:=by simp only[n]; omega
   simp only[List.getElem?_cons_zero,Option.some.injEq] at hj'
   subst hj'
   refine .inr (.inr ⟨fun j hj=>by have:=hm'n j hj; simp[hbs0]; omega,by rw[hatn,List.length_append],by rw[hatn],hpos,?_⟩)
   rw[hatn,List.length_append]
   refine hroot.imp id fun⟨b',cur',h1,h2,h3,h4,h5,h6,h7⟩=>⟨b',cur',_,h1,h7,h2,h3,h4,h5,h6,?_⟩
   rw[Jk]
   refine ListI.append ?_ ?_
   ·rcases hold2 with ⟨rfl,rfl⟩| ⟨k,hk,hcon⟩
    ·rfl
    ·rcases Classical.em (xs=[]) with hx | hx
     ·subst hx
      have:ds=[]:=by cases m<;>exact hcon
      subst this; rfl
     ·exact(Jk.1 hcon).mono fun i x c h=>hold' k i x c hk hx h
   ·rw[Nat.zero_add]
    have shift:∀(ys:List te.ty.V) (cs:List Value) (a b:Nat),ListI (SrcEl w g te.ty m2 rs) a ys cs→ListI (ElR w' g'.own n m' te.ty) (xs.length+a) ys cs:=by
     intro ys
     induction ys with
     | nil=>exact fun cs a _ h=>h
     | cons y ys ih =>
      intro cs a b ⟨c,d,e,h1,h2⟩
      exact⟨c,d,e,hnew' a y c h1,ih d (a+1) b h2⟩
    exact shift ys news 0 0 hel
 ·refine Bg (cs:=[_]) rfl ⟨Nat.lt_succ_self _,rfl⟩ ?_
  have:g'.at_ bs.length=i':=hatn
  simp[asVal,AV.isAgg,this,i']
end
end Go.Va
namespace Go.Va
section
variable {P:Program} {σ:St} {o:Oper} {en:Env} {e:Eff} {fi:FI}
theorem args2{c:Call}{x y:AV}(h:opds σ c.args=[x,y]):∃a b,c.args=#[a,b]∧σ.opd a=x∧σ.opd b=y:=by
 unfold opds at h
 cases hc:c.args with
 | mk l =>
  rw[hc] at h
  match l,h with
  | [a,b],h =>
   simp only[List.map_cons,List.map_nil,List.cons.injEq,and_true] at h
   exact⟨a,b,rfl,h.1,h.2⟩
  | [],h=>simp at h
  | [_],h=>simp at h
  | _::_::_::_,h=>simp at h
theorem args1{c:Call}{x:AV}(h:opds σ c.args=[x]):∃a,c.args=#[a]∧σ.opd a=x:=by
 unfold opds at h
 cases hc:c.args with
 | mk l =>
  rw[hc] at h
  match l,h with
  | [a],h =>
   simp only[List.map_cons,List.map_nil,List.cons.injEq,and_true] at h
   exact⟨a,rfl,h⟩
  | [],h=>simp at h
  | _::_::_,h=>simp at h
theorem types2{ts:Array TypeId}{t u:TypeId}(h:ts.toList=[t,u]):ts=#[t,u]:=by apply Array.toList_inj.1; rw[h]
theorem Kw {c:Call} (ho:o.op=.call c) {b:Builtin} (hc:c.callee=.builtin b) (ρ:Operand→Value) :
    execOp ρ o=builtin b c.argTypes o.type (c.args.map fun | .const _=>true | _=>false) (c.args.map ρ):=by
 simp only[execOp,ho,resolve,hc]
 rfl
theorem Zp{c:Call}(ho:o.op=.call c)(hc:c.callee=.builtin .len){x:AV}(hx:opds σ c.args=[x]){t:TypeId}{r:List TypeId}(hts:c.argTypes.toList=t::r){ti:TI}(ht:TOk P t ti){z:AV}(h:lenA σ.blks ti x some=some z):Snd P σ o ⟨z,σ.blks,[]⟩:=by
 obtain⟨a0,ha,rfl⟩:=args1 hx
 refine .of_qt <| KM (s:=fun ρ=>Builtin.len_ c.argTypes o.type #[ρ a0]) (fun ρ=>?_) fun a w g hs=>?_
 ·rw[Kw ho hc,ha]; simp[builtin]
 ·obtain⟨z',e,hG⟩:=AaT (n:=σ.blks.length) hs.heap ht h (Av hs a0) o.type c.argTypes (by rw[←Array.getElem?_toList,hts]; rfl)
  injection e with e; subst e; exact hG
theorem Zg{c:Call}(ho:o.op=.call c){mx:Bool}(hc:c.callee=.builtin (if mx then .max else .min)){x y:AV}(hx:opds σ c.args=[x,y]){z:AV}(h:mmA mx x y some=some z):Snd P σ o ⟨z,σ.blks,[]⟩:=by
 obtain⟨a0,a1,ha,rfl,rfl⟩:=args2 hx
 refine .of_qt <| KM (s:=fun ρ=>if mx then Builtin.max_ c.argTypes o.type #[ρ a0,ρ a1] else Builtin.min_ c.argTypes o.type #[ρ a0,ρ a1]) (fun ρ=>?_) fun a w g hs=>?_
 ·rw[Kw ho hc,ha]; cases mx<;>simp[builtin]
 ·obtain⟨z',e,hG⟩:=Adj (n:=σ.blks.length) h (Av hs a0) (Av hs a1) o.type c.argTypes
  injection e with e; subst e; exact hG
theorem Y3{w:World}{g:G}{bs:List Blk}(H:Heap w g bs){t:Ty}{y:AV}{ys:List t.V}{m:RM}{rs:List Nat}(h:srcA bs t y=some (ys,m,rs)){v:Value}(hv:AVR w g bs.length y v):(∀j∈m.ids,j<bs.length):=by
 unfold srcA at h
 split at h
 ·simp only[Option.some.injEq,Prod.mk.injEq] at h
  obtain⟨rfl,rfl,rfl⟩:=h
  intro j hj; cases hj
 ·rename_i ks u xs
  split at h
  ·simp only[Option.some.injEq,Prod.mk.injEq] at h
   obtain⟨rfl,rfl,rfl⟩:=h
   intro j hj
   split at hj
   ·cases hj
   ·exact(NQ hv).1 j hj
  ·cases h
 ·split at h
  ·simp only[Option.some.injEq,Prod.mk.injEq] at h
   obtain⟨rfl,rfl,rfl⟩:=h
   intro j hj; cases hj
  ·cases h
 ·rename_i k
  split at h
  ·rename_i el m1 u xs hb
   split at h
   ·simp only[Option.some.injEq,Prod.mk.injEq] at h
    obtain⟨rfl,rfl,rfl⟩:=h
    intro j hj
    split at hj
    ·cases hj
    ·exact(H.blk k _ hb).1 j hj
   ·cases h
  ·cases h
 ·cases h
theorem Te {c:Call} (ho:o.op=.call c) (hc:c.callee=.builtin .append) {x y:AV} (hx:opds σ c.args=[x,y]) {t tx:TypeId} (hts:c.argTypes.toList=[t,tx]) {ti te tix:TI} (ht:TOk P t ti) (hte:TOk P ti.elem te) (hsl:ti.isSl=true) (htx:TOk P tx tix) (hkx:(tix.isSl||tix.ty==.str)=true)
    (h:appendA fi σ.blks ti.elem te x y some=some e):Snd P σ o e:=by
 obtain⟨a0,a1,ha,rfl,rfl⟩:=args2 hx
 have hrun:∀(a:Act) (w:World) (r:Value) (w':World),(Builtin.append_ #[t,tx] o.type #[a.eval a0,a.eval a1]).run P w=.ok r w'→(execOp a.eval o).run P w=.ok (.value r) w':=by
  intro a w r w' hr
  rw[Kw ho hc,ha,types2 hts]
  simp[builtin,hr]
 have fin:∀(bs':List Blk) (mods:List Nat),σ.blks.length+1=bs'.length→(mods=[]→∃l,bs'=σ.blks++l) →
     (∀(a:Act) (w:World) (g:G),StR w g σ a→∃r w' g',(Builtin.append_ #[t,tx] o.type #[a.eval a0,a.eval a1]).run P w=.ok r w'∧Heap w' g' bs'∧AVR w' g' (σ.blks.length+1) (.ref σ.blks.length) r∧Step mods σ.blks.length w g w' g')→Snd P σ o ⟨.ref σ.blks.length,bs',mods⟩:=by
  intro bs' mods hl hm hh
  refine⟨by show σ.blks.length≤bs'.length; omega,hm,fun a w g hs next Q hn=>?_⟩
  obtain⟨r,w',g',hr,hH,hv,hst⟩:=hh a w g hs
  unfold Oper.wp
  rw[hrun a w r w' hr]
  exact hn r w' g' hH (by show AVR w' g' bs'.length _ _; rw[←hl]; exact hv) hst
 have hlen:∀(mods l:List Nat),(Blk.kill (dropB mods σ.blks) l).length=σ.blks.length:=fun mods l=>by rw[AJ,Ar]
 unfold appendA at h
 split at h
 ·rename_i hzs
  split at h
  ·cases h
  ·rename_i hr0
   have hr1:(te.ty.row&&te.bytes !=0)=true:=by simpa using hr0
   rw[Bool.and_eq_true] at hr1
   have hby:te.bytes≠0:=by simpa using hr1.2
   split at h
   ·rename_i ys m2 rs hsrc
    split at h
    ·rename_i m' hj
     split at h
     ·rename_i hoff
      split at h
      ·rename_i hfit
       injection h with h; subst h
       refine fin _ _ (by rw[List.length_append,hlen]; rfl) (fun h=>⟨[.row ti.elem m' te.ty ys],by have h:rs=[]:=h; rw[h]; rfl⟩) fun a w g hs=>?_
       have hv0:=Av hs a0
       rw[hzs] at hv0
       obtain⟨ad,hv0⟩:=Ou hv0
       rw[hv0]
       have hsp:(∀j∈m'.ids,j∈m2.ids)∧(∀j∈m2.ids,j∈m'.ids)∧(m'=.deep→m2=.deep):=by
        obtain⟨h1,h2,h3⟩:=Oz hj
        refine⟨fun j hj=>?_,fun j hj=>(h1 j).2 (.inr hj),h3⟩
        rcases(h1 j).1 hj with h | h
        ·cases m2 with
         | deep=>rw[Mn] at h; cases h
         | sh ks=>exact h
        ·exact h
       have:=M5 (er:=ti.elem) (her:=.inr rfl) (kk:=none) (m:=.deep) (xs:=([]:List te.ty.V)) (cap:=0) (ad:=ad) (m':=m') (bs0:=Blk.kill (dropB rs σ.blks) rs) (ty:=o.type) hs.heap ht hte hsl htx hkx hr1.1 hby hsrc (.inl ⟨rfl,rfl⟩) (fun k hk=>by cases hk) (fun j hj=>by cases hj) (fun h=>(h rfl).elim) hsp.2
        (fun j hj=>Y3 hs.heap hsrc (Av hs a1) j (hsp.1 j hj)) (LJ hoff) (by simpa using hfit) (Av hs a1) (hlen rs rs) (fun j x hx=>by
         rcases Jh hx with h | ⟨hjr,h⟩
         ·exact .inl h
         ·obtain⟨y',hy',rfl⟩:=Ec h
          exact .inr ⟨by simpa using hjr,y',hy',rfl⟩)
       simpa using this
      ·cases h
     ·cases h
    ·cases h
   ·cases h
 ·rename_i k hk
  split at h
  ·cases h
  ·rename_i hr0
   have hr1:(te.ty.row&&te.bytes !=0)=true:=by simpa using hr0
   rw[Bool.and_eq_true] at hr1
   have hby:te.bytes≠0:=by simpa using hr1.2
   split at h
   ·rename_i e' m t' xs0 ys m2 rs hb hsrc
    split at h
    ·rename_i xs m' hcast hj
     split at h
     ·rename_i hcond
      split at h
      ·rename_i hfit
       injection h with h; subst h
       obtain⟨he,hrk,hoff⟩:=hcond
       obtain⟨ec,hec⟩:=AQ hcast
       injection ec with ec; subst ec; simp only at hec; subst hec
       have hkrs:k∉rs:=by simpa using hrk
       have hoffm:=LJ hoff
       refine fin _ _ (by rw[List.length_append,hlen]; rfl) (fun h=>by cases h) fun a w g hs=>?_
       have hv0:=Av hs a0
       rw[hk] at hv0
       obtain⟨hkn,hv0⟩:=KF hv0
       obtain⟨hmi,hl,hes,hpos,hrr⟩:=hs.heap.blk k _ hb
       rw[hv0,hl]
       obtain⟨h1,h2,h3⟩:=Oz hj
       have hm2:=Y3 hs.heap hsrc (Av hs a1)
       have:=M5 (er:=e') (her:=he.symm.imp id fun h=>h.1.symm) (kk:=some k) (m:=m) (xs:=xs0) (ad:=(g.at_ k).a) (cap:=(g.at_ k).cap) (m':=m') (bs0:=Blk.kill (dropB (k::rs) σ.blks) (k::rs)) (ty:=o.type) hs.heap ht hte hsl htx hkx hr1.1 hby hsrc
        (hrr.imp id fun⟨b,cur,ds,p1,p2,p3,p4,p5,p6,p7,p8⟩=>⟨k,b,cur,ds,rfl,p1,p2,p3,p4,p5,p6,p7,p8⟩)
        (fun k' hk'=>by injection hk' with hk'; subst hk'; exact⟨hkrs,fun h=>hoffm k h (by simp),hkn⟩) (fun j hj=>⟨(h1 j).2 (.inl hj),hmi j hj⟩) (fun _=>h2) ⟨fun j hj=>(h1 j).2 (.inr hj),h3⟩
        (fun j hj=>by rcases(h1 j).1 hj with h | h; exact hmi j h; exact hm2 j h) (fun j hj h=>hoffm j hj (List.mem_cons_of_mem _ h)) hfit (Av hs a1) (hlen (k::rs) (k::rs)) (fun j x hx=>by
         rcases Jh hx with h | ⟨hjr,h⟩
         ·exact .inl h
         ·obtain⟨y',hy',rfl⟩:=Ec h
          exact .inr ⟨by simpa using hjr,y',hy',rfl⟩)
       simpa using this
      ·cases h
     ·cases h
    ·cases h
   ·cases h
 ·cases h
theorem AaQ {t:TypeId} {x:Operand} {hi:Option Operand} (ho:o.op=.slice t x none hi none) {ti:TI} (ht:TOk P t ti) (hsl:ti.isSl=true) {te:TI} (hte:TOk P ti.elem te)
    (h:cutA te.ty σ.blks (σ.opd x) (hi.map σ.opd) some=some e):Snd P σ o e:=by
 unfold cutA at h
 split at h
 ·rename_i k ks kk hv hx hh
  split at h
  ·rename_i el m tr xs hb
   split at h
   ·rename_i hoff
    obtain⟨hoff,htt⟩:=hoff
    subst htt
    split at h
    ·rename_i hc
     injection h with h; subst h
     obtain⟨h0,h1⟩:=hc
     refine⟨by simp[AJ,Ar],fun h=>by(cases h),fun a w g hs next Q hn=>?_⟩
     have H:=hs.heap
     have hxo:=Av hs x
     rw[hx] at hxo
     obtain⟨hk,hxv⟩:=KF hxo
     obtain⟨hmi,hlen,hes,hpos,hr⟩:=H.blk k _ hb
     have hhi:=Mj hs hi
     rw[hh] at hhi
     obtain⟨hv',hve⟩:∃v,hi.map a.eval=some v∧v=.int kk hv:=by
      cases hq:hi.map a.eval with
      | none=>rw[hq] at hhi; exact hhi.elim
      | some v=>rw[hq] at hhi; exact⟨v,rfl,D4 hhi⟩
     obtain⟨hveq,hvint⟩:=hve
     subst hvint
     have hcap:(g.at_ k).len≤(g.at_ k).cap:=by
      rw[hlen]
      rcases hr with ⟨rfl,hc0⟩| ⟨b,cur,ds,_,_,_,h1,_⟩
      ·simp
      ·exact h1
     have had:(if(g.at_ k).cap=0 then(g.at_ k).a else(g.at_ k).a.map (·.add (0*te.ty.size)))=(g.at_ k).a:=by
      split
      ·rfl
      ·rename_i hc0
       rcases hr with ⟨_,hc1⟩| ⟨b,cur,ds,ha,_⟩
       ·exact(hc0 hc1).elim
       ·rw[ha]; simp[addN]
     have hrun:(execOp a.eval o).run P w=.ok (.value (.slice (g.at_ k).a hv.toNat (g.at_ k).cap)) w:=by
      have hb2:=KX (P:=P) (w:=w) (isS:=true) (len:=(g.at_ k).len) (cap:=(g.at_ k).cap) (lo:=none) (hi:=some (.int kk hv)) (l:=0) (h:=hv) (.inl ⟨rfl,rfl⟩) (.inr ⟨kk,rfl⟩) (Int.le_refl _) h0 (by rw[hlen]; exact h1) hcap
      have:(Instr.sliceAt t (.slice (g.at_ k).a (g.at_ k).len (g.at_ k).cap) none (some (.int kk hv)) none).run P w=.ok (.slice (g.at_ k).a hv.toNat (g.at_ k).cap) w:=by
       rw[If ht hsl]
       simp[Instr.slice,underlying,AU ht hsl,hb2,DV hte]
       simpa using had
      simp[execOp,ho,hxv,hveq,this]
     unfold Oper.wp
     rw[hrun]
     let n:=σ.blks.length
     let i':BI:=⟨(g.at_ k).a,hv.toNat,(g.at_ k).cap,te.ty.size⟩
     let f:Nat→List Nat→Tag:=fun j r=>if j=k then .lab n r else .lab j r
     let g':=g.upd f none n i'
     have st:Step [k] n w g w g':=Step.upd H.fresh rfl rfl rfl (Nat.le_refl _) (fun _ _ _=>rfl) (fun q h=>by cases h) (Nat.le_refl _) fun j r _ hm=>by
      simp only[List.mem_singleton] at hm
      simp[f,hm]
     have hatn:g'.at_ n=i':=by simp[g',G.upd]
     have hvl:hv.toNat≤xs.length:=by have h1':(hv:Int)≤(xs.length:Int):=h1; exact Int.toNat_le.2 h1'
     have hoffm:=LJ hoff
     refine hn _ w g' (H.turn st (J4 H.fresh (Nat.le_refl _) fun q h=>by cases h) (by simp[AJ,Ar]) fun j y hj=>?_) ?_ st
     ·rw[List.getElem?_append] at hj
      split at hj
      ·rcases Jh hj with h | ⟨hjr,h⟩
       ·exact .inl h
       ·obtain⟨y',hy',rfl⟩:=Ec h
        exact .inr (.inl ⟨hjr,y',hy',rfl⟩)
      ·rename_i hlt
       rw[AJ,Ar] at hj hlt
       have hj0:j-σ.blks.length=0:=by
        rcases Nat.eq_zero_or_pos (j-σ.blks.length) with h | h
        ·exact h
        ·rw[List.getElem?_eq_none (by simp; omega)] at hj; cases hj
       rw[hj0] at hj
       obtain rfl:j=n:=by simp only[n]; omega
       simp only[List.getElem?_cons_zero,Option.some.injEq] at hj
       subst hj
       refine .inr (.inr ⟨fun j hj=>by have:=hmi j hj; simp[AJ,Ar]; omega,by rw[hatn,List.length_take]; simp only[i']; omega,by rw[hatn],hpos,?_⟩)
       rw[hatn]
       rcases hr with ⟨rfl,hc0⟩| ⟨b,cur,ds,ha,hown,hcur,p1,p2,p3,p4,hcon⟩
       ·exact .inl ⟨by simp,hc0⟩
       ·refine .inr ⟨b,cur,ds.take (hv.toNat*te.ty.size),ha,by rw[HA (by simp) hown]; simp[f],hcur,by rw[List.length_take]; simp only[i']; omega,p2,p3,?_,?_⟩
        ·rw[List.length_take,Nat.min_eq_left hvl,←p4,List.take_take,Nat.min_eq_left (Nat.mul_le_mul_right _ hvl)]
        ·rw[Jk]
         refine(ListI.takeN (fun i x c h=>ElR.len h) hv.toNat (Jk.1 hcon)).mono fun i x c hel=>hel.on ?_
         cases m with
         | deep=>exact fun b q hb=>⟨by rw[HA (by simp) hb]; simp[f],rfl⟩
         | sh ks =>
          intro b hb
          rcases hb with hb | ⟨j,hj,r,hb⟩
          ·exact⟨.inl (Lz (by simp) hb),rfl⟩
          ·refine⟨.inr ⟨j,hj,r,?_⟩,rfl⟩
           have:j≠k:=fun e=>hoffm j hj (by simp[e])
           rw[HA (by simp) hb]; simp[f,this]
     ·refine Bg (cs:=[_]) rfl ⟨by simp[AJ,Ar],rfl⟩ ?_
      have:g'.at_ σ.blks.length=i':=hatn
      simp[asVal,AV.isAgg,this,i']
    ·cases h
   ·cases h
  ·cases h
 ·cases h
end
end Go.Va
namespace Go.Va
theorem SF(φ:Nat→Nat)(a:AV):(a.ren φ).isUn=a.isUn:=by cases a<;>rfl
theorem Qh(φ:Nat→Nat)(a:AV):(a.ren φ).isAgg=a.isAgg:=by cases a<;>rfl
theorem TT(φ:Nat→Nat)(a:AV):(a.ren φ).isTup=a.isTup:=by cases a<;>rfl
theorem Si(bor:List Nat)(a:AV):(a.dep bor).isUn=a.isUn:=by cases a<;>rfl
theorem QF(bor:List Nat)(a:AV):(a.dep bor).isAgg=a.isAgg:=by cases a<;>rfl
theorem UA(bor:List Nat)(a:AV):(a.dep bor).isTup=a.isTup:=by cases a<;>rfl
structure Ren (φ:Nat→Nat) (g g':G) (n' k:Nat):Prop where
 lt:φ k<n'
 at_:g'.at_ (φ k)=g.at_ k
 own:∀b r,g.own b=.lab k r→g'.own b=.lab (φ k) r
theorem Al.ren{φ:Nat→Nat}{g g':G}{n':Nat}(hi:∀b,g.own b=.imm→g'.own b=.imm){ks:List Nat}(hk:∀k∈ks,Ren φ g g' n' k){b:Nat}(h:Al g.own ks b):Al g'.own (ks.map φ) b:=by
 rcases h with h | ⟨k,hks,r,h⟩
 ·exact .inl (hi b h)
 ·exact .inr ⟨φ k,List.mem_map.2 ⟨k,hks,rfl⟩,r,(hk k hks).own b r h⟩
section
variable {w:World} {g g':G} {n n':Nat} {φ:Nat→Nat}
theorem mapLt{ks:List Nat}(hk:∀k∈ks,Ren φ g g' n' k):∀k∈ks.map φ,k<n':=fun k h=>by
 obtain⟨j,hj,rfl⟩:=List.mem_map.1 h
 exact(hk j hj).lt
theorem AVX.ren(hi:∀b,g.own b=.imm→g'.own b=.imm):∀(a:AV) (m:Bool) {cs:List Value},AVX w g n m a cs→(∀k∈a.ids,Ren φ g g' n' k)→AVX w g' n' m (a.ren φ) cs
 | .dat ks t x,false,cs,⟨hk,r⟩,h=>⟨mapLt h,r.mono fun b a=>⟨a.ren hi h,rfl⟩⟩
 | .zs,false,_,h,_=>h
 | .ref k,false,_,⟨hk,e⟩,h=>by
  have:=h k (by simp[AV.ids])
  exact⟨this.lt,by rw[this.at_]; exact e⟩
 | .ptr k i p o,false,_,⟨hk,h0,h1,b,hb,e⟩,h=>by
  have:=h k (by simp[AV.ids])
  exact⟨this.lt,h0,by rw[this.at_]; exact h1,b,by rw[this.at_]; exact hb,by rw[this.at_]; exact e⟩
 | .rop ks t x,false,cs,⟨hk,b,off,ds,e,ha,r,hc⟩,h=>⟨mapLt h,b,off,ds,e,ha.ren hi h,r.mono fun b a=>⟨a.ren hi h,rfl⟩,hc⟩
 | .nilp,false,_,h,_=>h
 | .pr a b,false,_,⟨c,d,e,h1,h2⟩,h=>⟨c,d,e,AVX.ren hi a false h1 fun k hk=>h k (by simp[AV.ids,hk]),AVX.ren hi b false h2 fun k hk=>h k (by simp[AV.ids,hk])⟩
 | .fn f c,false,_,⟨vs,e,hx⟩,h=>⟨vs,e,AVX.ren hi c true hx fun k hk=>h k (by simpa [AV.ids] using hk)⟩
 | .un k,false,_,h,_=>h
 | .cons a b,true,_,⟨v,r,e,h1,h2⟩,h=>by
  refine⟨v,r,e,?_,AVX.ren hi b true h2 fun k hk=>h k (by simp[AV.ids,hk])⟩
  rw[SF,Qh]
  exact h1.imp id fun⟨cs,hx,hv⟩=>⟨cs,AVX.ren hi a false hx fun k hk=>h k (by simp[AV.ids,hk]),hv⟩
 | .nil,true,_,h,_=>h
 | .cons _ _,false,_,h,_=>h.elim
 | .nil,false,_,h,_=>h.elim
 | .sld k l,false,_,⟨hk,e⟩,h=>by
  have:=h k (by simp[AV.ids])
  exact⟨this.lt,by rw[this.at_]; exact e⟩
 | .mp k,false,_,⟨hk,b,hb,e⟩,h=>by
  have:=h k (by simp[AV.ids])
  exact⟨this.lt,b,by rw[this.at_]; exact hb,e⟩
 | .nst k i p o e,false,_,⟨hk,h0,h1,b,v,ha,ho,e1,e2,hc⟩,h=>by
  have:=h k (by simp[AV.ids])
  exact⟨this.lt,h0,by rw[this.at_]; exact h1,b,v,by rw[this.at_]; exact ha,this.own b [] ho,e1,e2,by rw[this.at_]; exact hc⟩
 | .nst _ _ _ _ _,true,_,h,_=>h.elim
 | .dat _ _ _,true,_,h,_=>h.elim
 | .zs,true,_,h,_=>h.elim
 | .ref _,true,_,h,_=>h.elim
 | .sld _ _,true,_,h,_=>h.elim
 | .mp _,true,_,h,_=>h.elim
 | .ptr _ _ _ _,true,_,h,_=>h.elim
 | .rop _ _ _,true,_,h,_=>h.elim
 | .nilp,true,_,h,_=>h.elim
 | .pr _ _,true,_,h,_=>h.elim
 | .fn _ _,true,_,h,_=>h.elim
 | .un _,true,_,h,_=>h.elim
theorem AVX.idsLt:∀(a:AV) (m:Bool) {cs:List Value},AVX w g n m a cs→∀k∈a.ids,k<n
 | .dat ks t x,false,cs,h,k,hk=>h.1 k hk
 | .zs,false,_,_,_,hk=>by cases hk
 | .ref j,false,_,h,k,hk=>by
  have:k=j:=by simpa [AV.ids] using hk
  rw[this]; exact h.1
 | .ptr j i p o,false,_,h,k,hk=>by
  have:k=j:=by simpa [AV.ids] using hk
  rw[this]; exact h.1
 | .rop ks t x,false,cs,h,k,hk=>h.1 k hk
 | .nilp,false,_,_,_,hk=>by cases hk
 | .pr a b,false,_,⟨c,d,e,h1,h2⟩,k,hk=>by
  rcases List.mem_append.1 hk with hk | hk
  ·exact AVX.idsLt a false h1 k hk
  ·exact AVX.idsLt b false h2 k hk
 | .fn f c,false,_,⟨vs,e,hx⟩,k,hk=>AVX.idsLt c true hx k hk
 | .un _,false,_,_,_,hk=>by cases hk
 | .cons a b,true,_,⟨v,r,e,h1,h2⟩,k,hk=>by
  rcases List.mem_append.1 hk with hk | hk
  ·rcases h1 with h1 | ⟨cs,h1,_⟩
   ·cases a<;>simp[AV.isUn] at h1; cases hk
   ·exact AVX.idsLt a false h1 k hk
  ·exact AVX.idsLt b true h2 k hk
 | .nil,true,_,_,_,hk=>by cases hk
 | .cons _ _,false,_,h,_,_=>h.elim
 | .nil,false,_,h,_,_=>h.elim
 | .sld j l,false,_,h,k,hk=>by
  have:k=j:=by simpa [AV.ids] using hk
  rw[this]; exact h.1
 | .mp j,false,_,h,k,hk=>by
  have:k=j:=by simpa [AV.ids] using hk
  rw[this]; exact h.1
 | .nst j i p o e,false,_,h,k,hk=>by
  have:k=j:=by simpa [AV.ids] using hk
  rw[this]; exact h.1
 | .nst _ _ _ _ _,true,_,h,_,_=>h.elim
 | .dat _ _ _,true,_,h,_,_=>h.elim
 | .zs,true,_,h,_,_=>h.elim
 | .ref _,true,_,h,_,_=>h.elim
 | .sld _ _,true,_,h,_,_=>h.elim
 | .mp _,true,_,h,_,_=>h.elim
 | .ptr _ _ _ _,true,_,h,_,_=>h.elim
 | .rop _ _ _,true,_,h,_,_=>h.elim
 | .nilp,true,_,h,_,_=>h.elim
 | .pr _ _,true,_,h,_,_=>h.elim
 | .fn _ _,true,_,h,_,_=>h.elim
 | .un _,true,_,h,_,_=>h.elim
theorem AVR.idsLt{a:AV}{v:Value}(h:AVR w g n a v):∀k∈a.ids,k<n:=by
 cases ht:a.isTup with
 | false =>
  rcases(AVR.iff ht).1 h with h | ⟨cs,h,_⟩
  ·intro k hk; cases a<;>simp[AV.isUn] at h; cases hk
  ·exact AVX.idsLt a false h
 | true =>
  cases a with
  | cons a b=>obtain⟨vs,e,h⟩:=h; exact AVX.idsLt _ true h
  | nil=>intro k hk; cases hk
  | _=>cases ht
theorem AVR.ren(hi:∀b,g.own b=.imm→g'.own b=.imm){a:AV}{v:Value}(h:AVR w g n a v)(hk:∀k∈a.ids,Ren φ g g' n' k):AVR w g' n' (a.ren φ) v:=by
 cases ht:a.isTup with
 | false =>
  rw[AVR.iff ht] at h
  rw[AVR.iff (by rw[TT]; exact ht),SF,Qh]
  exact h.imp id fun⟨cs,h,hv⟩=>⟨cs,AVX.ren hi a false h hk,hv⟩
 | true =>
  cases a with
  | cons a b=>obtain⟨vs,e,h⟩:=h; exact⟨vs,e,AVX.ren hi (.cons a b) true h hk⟩
  | nil=>exact h
  | _=>cases ht
theorem BlkR.ren(hi:∀b,g.own b=.imm→g'.own b=.imm){k:Nat}{b:Blk}(h:BlkR w g n k b)(hk:Ren φ g g' n' k)(hids:∀j∈b.ids,Ren φ g g' n' j):BlkR w g' n' (φ k) (b.ren φ):=by
 cases b with
 | dead=>trivial
 | map m kt vt es st =>
  obtain⟨hmi,b,arr,clock,ha,ho,hh,hnd,hm⟩:=h
  have hmm:(m.ren φ).ids=m.ids.map φ:=by cases m<;>rfl
  refine⟨by rw[hmm]; exact mapLt hids,b,arr,clock,by rw[hk.at_]; exact ha,hk.own b [] ho,hh,hnd,hm.on fun i x c r=>?_⟩
  cases m with
  | deep=>exact OwR.mono (fun b q hb=>⟨hk.own b _ hb,rfl⟩) r
  | sh ks=>exact RdR.mono (fun b a=>⟨a.ren hi hids,rfl⟩) r
 | hole e t xs i p =>
  obtain⟨h1,h2,h3,h4,h5,u,o,x0,b,cur,ds,q1,q2,q3,ha,ho,hh,c1,c2,c3,c4,hc⟩:=h
  refine⟨by rw[hk.at_]; exact h1,by rw[hk.at_]; exact h2,h3,h4,h5,u,o,x0,b,cur,ds,q1,q2,q3,?_⟩
  rw[hk.at_]
  exact⟨ha,hk.own b [] ho,hh,c1,c2,c3,c4,hc.mono fun i x c r=>r.mono fun b q hb=>⟨hk.own b _ hb,rfl⟩⟩
 | box a =>
  obtain⟨h1,b,cs,e,ha,ho,hh,hx⟩:=h
  exact⟨by rw[hk.at_]; exact h1,b,cs,e,by rw[hk.at_]; exact ha,hk.own b [] ho,hh,AVX.ren hi a false hx hids⟩
 | row e m t xs =>
  obtain⟨hmi,hlen,hes,hpos,hr⟩:=h
  have hm:(m.ren φ).ids=m.ids.map φ:=by cases m<;>rfl
  refine⟨by rw[hm]; exact mapLt hids,by rw[hk.at_]; exact hlen,by rw[hk.at_]; exact hes,hpos,?_⟩
  rw[hk.at_]
  refine hr.imp id fun⟨b,cur,ds,ha,ho,hh,h1,h2,h3,h4,hc⟩=>⟨b,cur,ds,ha,hk.own b [] ho,hh,h1,h2,h3,h4,?_⟩
  cases m with
  | deep=>exact hc.mono fun i x c r=>r.mono fun b q hb=>⟨hk.own b _ hb,rfl⟩
  | sh ks=>exact hc.mono fun x c r=>r.mono fun b a=>⟨a.ren hi hids,rfl⟩
structure Dep (bor:List Nat) (g g':G) (n:Nat):Prop where
 imm:∀b,g.own b=.imm→Al g'.own bor b
 lab:∀b k r,g.own b=.lab k r→k<n→g'.own b=.lab k r
 at_:∀k,k<n→g'.at_ k=g.at_ k
 lt:∀k∈bor,k<n
theorem Al.dep{bor:List Nat}(d:Dep bor g g' n){ks:List Nat}(hk:∀k∈ks,k<n){b:Nat}(h:Al g.own ks b):Al g'.own (ks++bor) b:=by
 rcases h with h | ⟨k,hks,r,h⟩
 ·exact(d.imm b h).mono fun k hk=>List.mem_append_right _ hk
 ·exact .inr ⟨k,List.mem_append_left _ hks,r,d.lab b k r h (hk k hks)⟩
theorem appLt{bor ks:List Nat}(d:Dep bor g g' n)(hk:∀k∈ks,k<n):∀k∈ks++bor,k<n:=fun k h=>by
 rcases List.mem_append.1 h with h | h
 ·exact hk k h
 ·exact d.lt k h
theorem AVX.dep{bor:List Nat}(d:Dep bor g g' n):∀(a:AV) (m:Bool) {cs:List Value},AVX w g n m a cs→AVX w g' n m (a.dep bor) cs
 | .dat ks t x,false,cs,⟨hk,r⟩=>by
  simp only[AV.dep]
  cases hf:t.flat with
  | true=>exact⟨by simpa using hk,(RdR.flat hf).2 ((RdR.flat hf).1 r)⟩
  | false=>exact⟨by simpa using appLt d hk,by simpa using r.mono fun b a=>⟨a.dep d hk,rfl⟩⟩
 | .zs,false,_,h=>h
 | .ref k,false,_,⟨hk,e⟩=>⟨hk,by rw[d.at_ k hk]; exact e⟩
 | .sld k l_,false,_,⟨hk,e⟩=>⟨hk,by rw[d.at_ k hk]; exact e⟩
 | .mp k,false,_,⟨hk,b,hb,e⟩=>⟨hk,b,by rw[d.at_ k hk]; exact hb,e⟩
 | .ptr k i p o,false,_,⟨hk,h0,h1,b,hb,e⟩=>⟨hk,h0,by rw[d.at_ k hk]; exact h1,b,by rw[d.at_ k hk]; exact hb,by rw[d.at_ k hk]; exact e⟩
 | .rop ks t x,false,cs,⟨hk,b,off,ds,e,ha,r,hc⟩=>⟨appLt d hk,b,off,ds,e,ha.dep d hk,r.mono fun b a=>⟨a.dep d hk,rfl⟩,hc⟩
 | .nilp,false,_,h=>h
 | .pr a b,false,_,⟨c,e,he,h1,h2⟩=>⟨c,e,he,AVX.dep d a false h1,AVX.dep d b false h2⟩
 | .fn f c,false,_,⟨vs,e,hx⟩=>⟨vs,e,AVX.dep d c true hx⟩
 | .un k,false,_,h=>h
 | .cons a b,true,_,⟨v,r,e,h1,h2⟩=>by
  refine⟨v,r,e,?_,AVX.dep d b true h2⟩
  rw[Si,QF]
  exact h1.imp id fun⟨cs,hx,hv⟩=>⟨cs,AVX.dep d a false hx,hv⟩
 | .nil,true,_,h=>h
 | .cons _ _,false,_,h=>h.elim
 | .nil,false,_,h=>h.elim
 | .nst k i p o e,false,_,⟨hk,h0,h1,b,v,ha,ho,e1,e2,hc⟩=>⟨hk,h0,by rw[d.at_ k hk]; exact h1,b,v,by rw[d.at_ k hk]; exact ha,d.lab b k [] ho hk,e1,e2,by rw[d.at_ k hk]; exact hc⟩
 | .nst _ _ _ _ _,true,_,h=>h.elim
 | .dat _ _ _,true,_,h=>h.elim
 | .zs,true,_,h=>h.elim
 | .ref _,true,_,h=>h.elim
 | .sld _ _,true,_,h=>h.elim
 | .mp _,true,_,h=>h.elim
 | .ptr _ _ _ _,true,_,h=>h.elim
 | .rop _ _ _,true,_,h=>h.elim
 | .nilp,true,_,h=>h.elim
 | .pr _ _,true,_,h=>h.elim
 | .fn _ _,true,_,h=>h.elim
 | .un _,true,_,h=>h.elim
theorem AVR.dep{bor:List Nat}(d:Dep bor g g' n){a:AV}{v:Value}(h:AVR w g n a v):AVR w g' n (a.dep bor) v:=by
 cases ht:a.isTup with
 | false =>
  rw[AVR.iff ht] at h
  rw[AVR.iff (by rw[UA]; exact ht),Si,QF]
  exact h.imp id fun⟨cs,h,hv⟩=>⟨cs,AVX.dep d a false h,hv⟩
 | true =>
  cases a with
  | cons a b=>obtain⟨vs,e,h⟩:=h; exact⟨vs,e,AVX.dep d (.cons a b) true h⟩
  | nil=>exact h
  | _=>cases ht
theorem BlkR.dep{bor:List Nat}(d:Dep bor g g' n){k:Nat}(hk:k<n){b:Blk}(h:BlkR w g n k b):BlkR w g' n k (b.dep bor):=by
 cases b with
 | dead=>trivial
 | map m kt vt es st =>
  obtain⟨hmi,b,arr,clock,ha,ho,hh,hnd,hm⟩:=h
  refine⟨?_,b,arr,clock,by rw[d.at_ k hk]; exact ha,d.lab b k [] ho hk,hh,hnd,hm.on fun i x c r=>?_⟩
  ·cases m with
   | deep=>exact hmi
   | sh ks=>exact appLt d hmi
  ·cases m with
   | deep=>exact OwR.mono (fun b q hb=>⟨d.lab b k _ hb hk,rfl⟩) r
   | sh ks=>exact RdR.mono (fun b a=>⟨a.dep d hmi,rfl⟩) r
 | hole e t xs i p =>
  obtain⟨h1,h2,h3,h4,h5,u,o,x0,b,cur,ds,q1,q2,q3,ha,ho,hh,c1,c2,c3,c4,hc⟩:=h
  refine⟨by rw[d.at_ k hk]; exact h1,by rw[d.at_ k hk]; exact h2,h3,h4,h5,u,o,x0,b,cur,ds,q1,q2,q3,?_⟩
  rw[d.at_ k hk]
  exact⟨ha,d.lab b k [] ho hk,hh,c1,c2,c3,c4,hc.mono fun i x c r=>r.mono fun b q hb=>⟨d.lab b k _ hb hk,rfl⟩⟩
 | box a =>
  obtain⟨h1,b,cs,e,ha,ho,hh,hx⟩:=h
  exact⟨by rw[d.at_ k hk]; exact h1,b,cs,e,by rw[d.at_ k hk]; exact ha,d.lab b k [] ho hk,hh,AVX.dep d a false hx⟩
 | row e m t xs =>
  obtain⟨hmi,hlen,hes,hpos,hr⟩:=h
  refine⟨?_,by rw[d.at_ k hk]; exact hlen,by rw[d.at_ k hk]; exact hes,hpos,?_⟩
  ·cases m with
   | deep=>exact hmi
   | sh ks=>exact appLt d hmi
  ·rw[d.at_ k hk]
   refine hr.imp id fun⟨b,cur,ds,ha,ho,hh,h1,h2,h3,h4,hc⟩=>⟨b,cur,ds,ha,d.lab b k [] ho hk,hh,h1,h2,h3,h4,?_⟩
   cases m with
   | deep=>exact hc.mono fun i x c r=>r.mono fun b q hb=>⟨d.lab b k _ hb hk,rfl⟩
   | sh ks=>exact hc.mono fun x c r=>r.mono fun b a=>⟨a.dep d hmi,rfl⟩
end
end Go.Va
namespace Go.Va
def ArgsR(w:World)(g:G)(n:Nat):List AV→List Value→Prop
 | [],[]=>True
 | a::as',v::vs=>AVR w g n a v∧ArgsR w g n as' vs
 | _,_=>False
structure SoundC (P:Program) (f:FuncId) (c:Callee):Prop where
 nat:CNat c
 snd:∀(args:List AV) (E:List Blk) (av:AV) (E':List Blk),c.run (AV×List Blk) args E (fun v b=>some (v,b))=some (av,E')→E.length≤E'.length ∧
  ∀(w:World) (g:G) (vs:List Value),Heap w g E→ArgsR w g E.length args vs→∀(o:Oper) (a:Act) (next:Act→World→Prop) (Q:Exit→Act→World→Prop),
   (∀v w' g',Heap w' g' E'→AVR w' g' E'.length av v→Step (List.range E.length) E.length w g w' g'→next (a.put o.dst v) w')→o.upon P a next Q ((callFunc f vs.toArray).run P w)
theorem T6:∀{π:List Nat} {k:Nat},k∈π→idxOf π k<π.length
 | x::r,k,h=>by
  simp only[idxOf]
  split
  ·simp
  ·rename_i hne
   have:k∈r:=by
    rcases List.mem_cons.1 h with h | h
    ·subst h; simp at hne
    ·exact h
   have:=T6 this
   simp; omega
theorem RH:∀{π:List Nat} {k:Nat},k∈π→π[idxOf π k]?=some k
 | x::r,k,h=>by
  simp only[idxOf]
  split
  ·rename_i he; simp at he; simp[he]
  ·rename_i hne
   have:k∈r:=by
    rcases List.mem_cons.1 h with h | h
    ·subst h; simp at hne
    ·exact h
   simpa using RH this
theorem Ob:∀{π:List Nat} {j k:Nat},nodup π=true→π[j]?=some k→idxOf π k=j
 | x::r,0,k,_,h=>by simp at h; subst h; simp[idxOf]
 | x::r,j+1,k,hn,h=>by
  simp only[nodup,Bool.and_eq_true,Bool.not_eq_true'] at hn
  have hr:r[j]?=some k:=by simpa using h
  have:x≠k:=fun e=>by
   subst e
   have hm:x∈r:=List.mem_of_getElem? hr
   have:=hn.1
   simp[hm] at this
  simp only[idxOf]
  rw[if_neg (by simpa using this),Ob hn.2 hr]
theorem OI:∀{π:List Nat} {L bs:List Blk} {k:Nat} {x:Blk},L.length=π.length→(setAll bs π L)[k]?=some x→(k∉π∧bs[k]?=some x)∨∃j:Nat,π[j]?=some k∧L[j]?=some x
 | [],[],bs,k,x,_,h=>.inl ⟨by simp,h⟩
 | p::π,b::L,bs,k,x,hl,h=>by
  rcases OI (π:=π) (L:=L) (by simpa using hl) h with ⟨h1,h2⟩| ⟨j,h1,h2⟩
  ·rw[List.getElem?_set] at h2
   split at h2
   ·rename_i he; subst he
    split at h2
    ·injection h2 with h2; exact .inr ⟨0,rfl,by rw[←h2]; rfl⟩
    ·cases h2
   ·rename_i hne
    exact .inl ⟨by simp only[List.mem_cons,not_or]; exact⟨fun e=>hne e.symm,h1⟩,h2⟩
  ·exact .inr ⟨j+1,by simpa using h1,by simpa using h2⟩
 | [],_::_,_,_,_,hl,_=>by simp at hl
 | _::_,[],_,_,_,hl,_=>by simp at hl
theorem MN:∀(π:List Nat) (L bs:List Blk),(setAll bs π L).length=bs.length
 | [],_,_=>by simp[setAll]
 | _::_,[],_=>by simp[setAll]
 | p::π,b::L,bs=>by rw[setAll,MN π L,List.length_set]
def G.call(g:G)(π bor:List Nat):G:=⟨fun b=>match g.own b with | .imm=>.imm | .lab k r=>if k∈π then .lab (idxOf π k) r else if k∈bor then .imm else .no | .no=>.no,fun j=>g.at_ (π.getD j 0)⟩
def G.ret(g gc:G)(n:Nat)(π:List Nat):G :=
 ⟨fun b=>match gc.own b with | .lab j r=>.lab (backTo n π j) r | t=>match g.own b with | .lab k r=>if k∈π then t else .lab k r | _=>t,fun k=>if k<n then g.at_ k else gc.at_ (k-n+π.length)⟩
def G.back(g gc:G)(n:Nat)(π:List Nat):G:=⟨fun b=>match gc.own b with | .lab j r=>.lab (backTo n π j) r | t=>t,fun k=>if k<n then g.at_ k else gc.at_ (k-n+π.length)⟩
section
variable {w:World} {g:G} {bs:List Blk} {π bor:List Nat}
theorem Ph{k:Nat}(hk:k∈π):Ren (idxOf π) g (g.call π bor) π.length k where
 lt:=T6 hk
 at_:=by
  have:=RH hk
  simp[G.call,List.getD,this]
 own b r h:=by simp[G.call,h,hk]
theorem OY{b:Nat}(h:g.own b=.imm):(g.call π bor).own b=.imm:=by simp[G.call,h]
theorem LF(hb:∀k∈bor,k∉π){ks:List Nat}(hk:∀k∈ks,k∈bor){b:Nat}(h:Al g.own ks b):Al (g.call π bor).own [] b:=by
 rcases h with h | ⟨k,hks,r,h⟩
 ·exact .inl (OY h)
 ·have h1:=hk k hks
  exact .inl (by simp[G.call,h,hb k h1,h1])
theorem Ut(H:Heap w g bs)(hn:nodup π=true)(hcl:∀k∈π,∃b,bs[k]?=some b∧∀j∈b.ids,j∈π):Heap w (g.call π bor) (π.map fun k=>((bs[k]?).getD .dead).ren (idxOf π)):=by
 refine⟨fun b hb=>by simp[G.call,H.fresh b hb],fun j x hx=>?_⟩
 rw[List.getElem?_map] at hx
 cases hj:π[j]? with
 | none=>rw[hj] at hx; cases hx
 | some k =>
  rw[hj] at hx
  injection hx with hx; subst hx
  have hk:k∈π:=List.mem_of_getElem? hj
  obtain⟨b,hb,hids⟩:=hcl k hk
  have:=(H.blk k b hb).ren (φ:=idxOf π) (g':=g.call π bor) (n':=π.length) (fun b h=>OY h) (Ph hk) (fun j hj=>Ph (hids j hj))
  rw[Ob hn hj] at this
  simp only[hb,Option.getD_some,List.length_map]
  exact this
theorem Nz{t:Ty}{v:AV}{y:t.V}(h:rd bs t v=some y):v.isAgg=t.isAgg:=by
 have plain:∀(t:Ty) (ks:List Nat) (u:Ty) (z:u.V) (y:t.V),castV u t z=some y→(AV.dat ks u z).isAgg=t.isAgg:=fun t ks u z y h=>by
  obtain⟨e,_⟩:=AQ h
  subst e; rfl
 cases t with
 | pair a b=>cases v<;>simp only[rd,reduceCtorEq] at h<;>first | exact plain _ _ _ _ _ h | rfl
 | sl t=>cases v<;>simp only[rd,reduceCtorEq] at h<;>first | exact plain _ _ _ _ _ h | rfl
 | int k=>cases v<;>simp only[rd,reduceCtorEq] at h<;>exact plain _ _ _ _ _ h
 | bool=>cases v<;>simp only[rd,reduceCtorEq] at h<;>exact plain _ _ _ _ _ h
 | str=>cases v<;>simp only[rd,reduceCtorEq] at h<;>exact plain _ _ _ _ _ h
 | unit=>cases v<;>simp only[rd,reduceCtorEq] at h<;>exact plain _ _ _ _ _ h
 | opq z=>cases v<;>simp only[rd,reduceCtorEq] at h<;>exact plain _ _ _ _ _ h
theorem Aax(H:Heap w g bs){k:Nat}{i:Int}{a:AV}(h:atB bs k i=some a)(hi:i.toNat<(g.at_ k).len){b:Nat}(hb:(g.at_ k).a=some ⟨b,0,none⟩):g.own b=.lab k []:=by
 unfold atB at h
 split at h
 ·rename_i a' hx
  obtain⟨h1,b',cs,e,ha,ho,hh,hr⟩:=H.blk k _ hx
  rw[hb] at ha; injection ha with ha; injection ha with ha; subst ha
  exact ho
 ·rename_i e m t xs hx
  obtain⟨hmi,hlen,hes,hpos,hr⟩:=H.blk k _ hx
  rcases hr with ⟨hx0,_⟩| ⟨b',cur,ds,ha,ho,_⟩
  ·rw[hlen,hx0] at hi; simp at hi
  ·rw[hb] at ha; injection ha with ha; injection ha with ha; subst ha
   exact ho
 ·cases h
theorem Ad5(H:Heap w g bs)(hb:∀k∈bor,k∉π){m:PM}{v a:AV}{l:List Nat}(h:argA bs m v=some (a,l))(hl:∀k∈l,k∈bor)(hr:∀k∈argIds m v,k∈π){x:Value}(hx:AVR w g bs.length v x):AVR w (g.call π bor) π.length (a.ren (idxOf π)) x:=by
 cases m with
 | d t =>
  simp only[argA] at h
  split at h
  ·rename_i y hy
   simp only[Option.some.injEq,Prod.mk.injEq] at h
   obtain⟨rfl,rfl⟩:=h
   obtain⟨htup,hun⟩:=LX hy
   obtain⟨cs,hcs,hv⟩:=A0 htup hun hx
   refine Bg rfl (cs:=cs) ⟨fun k hk=>by(cases hk),(J1 H t v y cs hy hcs).1.mono fun b hA=>⟨LF hb hl hA,rfl⟩⟩ ?_
   rw[Nz hy] at hv
   exact hv
  ·cases h
 | p t =>
  cases v with
  | rop ks u y =>
   simp only[argA] at h
   split at h
   ·rename_i z hz
    simp only[Option.some.injEq,Prod.mk.injEq] at h
    obtain⟨rfl,rfl⟩:=h
    obtain⟨e,he⟩:=AQ hz
    subst e; simp only at he; subst he
    obtain⟨hk,b,off,ds,rfl,ha,hrd,hc⟩:=MM hx
    exact QE (fun k hk=>by cases hk) (LF hb hl ha) (hrd.mono fun b hA=>⟨LF hb hl hA,rfl⟩) hc
   ·cases h
  | ptr k i p o =>
   simp only[argA] at h
   split at h
   ·rename_i c hc
    split at h
    ·rename_i y hy
     simp only[Option.some.injEq,Prod.mk.injEq] at h
     obtain⟨rfl,rfl⟩:=h
     obtain⟨hk,h0,h1,b,hba,rfl⟩:=Im hx
     obtain⟨cs,hcs,hcell⟩:=LM H hc h1 hba
     have hown:g.own b=.lab k []:=by
      unfold atP at hc
      split at hc
      ·rename_i d hd; exact Aax H hd h1 hba
      ·cases hc
     exact QE (fun k hk=>by cases hk) (LF hb hl (.mem (List.mem_cons_self) hown)) ((J1 H t c y cs hy hcs).1.mono fun b hA=>⟨LF hb hl (hA.mono fun k hk=>List.mem_cons_of_mem _ hk),rfl⟩) hcell
    ·cases h
   ·cases h
  | _=>simp[argA] at h
 | raw =>
  simp only[argA,Option.some.injEq,Prod.mk.injEq] at h
  obtain⟨rfl,rfl⟩:=h
  exact hx.ren (fun b h=>OY h) fun k hk=>Ph (hr k hk)
theorem Vp (H:Heap w g bs) (hb:∀k∈bor,k∉π):∀{ms:List PM} {vs as':List AV} {l roots:List Nat} {xs:List Value},argsA bs ms vs=some (as',l,roots)→(∀k∈l,k∈bor)→(∀k∈roots,k∈π)→ArgsR w g bs.length vs xs →
    ArgsR w (g.call π bor) π.length (as'.map (·.ren (idxOf π))) xs
 | [],[],as',l,roots,[],h,_,_,_=>by
  simp only[argsA,Option.some.injEq,Prod.mk.injEq] at h
  obtain⟨rfl,_,_⟩:=h
  trivial
 | m::ms,v::vs,as',l,roots,x::xs,h,hl,hr,hx=>by
  simp only[argsA] at h
  split at h
  ·rename_i a l1 as'' ls rs h1 h2
   simp only[Option.some.injEq,Prod.mk.injEq] at h
   obtain⟨rfl,rfl,rfl⟩:=h
   exact⟨Ad5 H hb h1 (fun k hk=>hl k (List.mem_append_left _ hk)) (fun k hk=>hr k (List.mem_append_left _ hk)) hx.1,
    Vp H hb h2 (fun k hk=>hl k (List.mem_append_right _ hk)) (fun k hk=>hr k (List.mem_append_right _ hk)) hx.2⟩
  ·cases h
 | [],[],_,_,_,_::_,_,_,_,hx=>hx.elim
 | [],_::_,_,_,_,_,h,_,_,_=>by simp[argsA] at h
 | _::_,[],_,_,_,_,h,_,_,_=>by simp[argsA] at h
 | _::_,_::_,_,_,_,[],_,_,_,hx=>hx.elim
end
end Go.Va
namespace Go.Va
theorem RX{n:Nat}{π:List Nat}{j k:Nat}(h:π[j]?=some k):backTo n π j=k:=by simp[backTo,h]
theorem Rw{n:Nat}{π:List Nat}{j:Nat}(h:π.length≤j):backTo n π j=n+(j-π.length):=by
 have:π[j]?=none:=List.getElem?_eq_none h
 simp[backTo,this]
theorem Ud(bs:List Blk):dropB [] bs=bs:=rfl
theorem PH {P:Program} {f:FuncId} {c:Callee} (hc:SoundC P f c) {bs:List Blk} {args:List AV} {e:Eff} (h:callA c bs args some=some e) :
    bs.length≤e.blks.length∧(e.mods=[]→∃l,e.blks=bs++l)∧∀(w:World) (g:G) (vs:List Value),Heap w g bs→ArgsR w g bs.length args vs→∀(o:Oper) (a:Act) (next:Act→World→Prop) (Q:Exit→Act→World→Prop),
     (∀v w' g',Heap w' g' e.blks→AVR w' g' e.blks.length e.val v→Step e.mods bs.length w g w' g'→next (a.put o.dst v) w')→o.upon P a next Q ((callFunc f vs.toArray).run P w):=by
 unfold callA at h
 split at h
 ·cases h
 ·rename_i as' bor roots hargs
  dsimp only at h
  split at h
  ·rename_i hck
   simp only[Bool.and_eq_true] at hck
   obtain⟨⟨⟨hbor,hnd⟩,hroots⟩,hcl⟩:=hck
   generalize hπ:reach bs bs.length (insN [] roots)=π at *
   rw[hc.nat] at h
   cases hrun:c.run (AV×List Blk) (as'.map (·.ren (idxOf π))) (π.map fun k=>((bs[k]?).getD .dead).ren (idxOf π)) fun v b=>some (v,b) with
   | none=>rw[hrun] at h; cases h
   | some p =>
    obtain⟨av,E'⟩:=p
    rw[hrun] at h
    simp only[Option.bind_some] at h
    split at h
    ·rename_i hle
     injection h with h; subst h
     obtain⟨hgrow,hsnd⟩:=hc.snd _ _ _ _ hrun
     rw[List.length_map] at hgrow hsnd
     have hbp:∀k∈bor,k∉π∧k<bs.length:=fun k hk=>by
      have:=List.all_eq_true.1 hbor k hk
      simpa using this
     have hcl':∀k∈π,∃b,bs[k]?=some b∧∀j∈b.ids,j∈π:=fun k hk=>by
      have:=List.all_eq_true.1 hcl k hk
      split at this
      ·rename_i b hb
       exact⟨b,hb,fun j hj=>by have:=List.all_eq_true.1 this j hj; simpa using this⟩
      ·cases this
     have hr':∀k∈roots,k∈π:=fun k hk=>by have:=List.all_eq_true.1 hroots k hk; simpa using this
     have hπlt:∀k∈π,k<bs.length:=fun k hk=>by obtain⟨b,hb,_⟩:=hcl' k hk; exact At hb
     let n:=bs.length
     let φ:=backTo n π
     let E1:=(E'.take π.length).map fun b=>(b.ren φ).dep bor
     let E2:=(E'.drop π.length).map fun b=>(b.ren φ).dep bor
     have hE1:E1.length=π.length:=by simp only[E1,List.length_map,List.length_take]; omega
     have hlen:(setAll (dropB π bs) π E1++E2).length=n+(E'.length-π.length):=by
      rw[List.length_append,MN,Ar]
      simp[E2,n]
     refine⟨by show n≤(setAll (dropB π bs) π E1++E2).length; rw[hlen]; omega,fun h0=>?_,fun w g vs H hx o a next Q hn=>?_⟩
     ·have h0:π=[]:=h0
      refine⟨E2,?_⟩
      show setAll (dropB π bs) π E1++E2=_
      rw[h0]
      simp[setAll,Ud]
     ·have Hc:=Ut (bor:=bor) H hnd hcl'
      have Ac:=Vp (bor:=bor) H (fun k hk=>(hbp k hk).1) hargs (fun k hk=>hk) hr' hx
      refine hsnd w (g.call π bor) vs Hc Ac o a next Q fun v w' gc H' hv st=>?_
      let g1:=g.back gc n π
      let g':=g.ret gc n π
      have hlt:∀b,g.own b≠.no→b<w.heap.size:=fun b h=>LY H h
      have hkeep:∀b k r,g.own b=.lab k r→k∉π→(gc.own b=.imm∧k∈bor∨gc.own b=.no)∧w'.heap[b]?=w.heap[b]?:=fun b k r hb hk=>by
       by_cases hkb:k∈bor
       ·have:=st.imm b (by simp[G.call,hb,hk,hkb])
        exact⟨.inl ⟨this.1,hkb⟩,this.2⟩
       ·have:=st.no b (hlt b (by rw[hb]; simp)) (by simp[G.call,hb,hk,hkb])
        exact⟨.inr this.1,this.2⟩
      have hst:Step π n w g w' g':=by
       refine⟨st.os,st.tape,st.output,st.size,fun b hb h=>?_,fun b h=>?_,fun b k r h hk hm=>?_,fun k hk=>?_⟩
       ·have:=st.no b hb (by simp[G.call,h])
        exact⟨by simp[g',G.ret,this.1,h],this.2⟩
       ·have:=st.imm b (by simp[G.call,h])
        exact⟨by simp[g',G.ret,this.1,h],this.2⟩
       ·obtain⟨h1,h2⟩:=hkeep b k r h hm
        refine⟨?_,h2⟩
        rcases h1 with ⟨h1,_⟩| h1<;>simp[g',G.ret,h1,h,hm]
       ·have hk':k<bs.length:=hk
        simp[g',G.ret,n,hk']
      have hren:∀j,j<E'.length→Ren φ gc g1 (n+(E'.length-π.length)) j:=fun j hj=>by
       rcases Nat.lt_or_ge j π.length with hjl | hjl
       ·obtain⟨k,hk⟩:∃k,π[j]?=some k:=⟨_,List.getElem?_eq_getElem hjl⟩
        have hkm:k∈π:=List.mem_of_getElem? hk
        have hkn:k<bs.length:=hπlt k hkm
        refine⟨by rw[show φ j=k from RX hk]; omega,?_,fun b r hb=>by simp[g1,G.back,hb,φ]⟩
        rw[show φ j=k from RX hk]
        have h1:gc.at_ j=(g.call π bor).at_ j:=st.at_ j hjl
        rw[h1]
        simp[g1,G.back,n,hkn,G.call,List.getD,hk]
       ·refine⟨by rw[show φ j=n+(j-π.length) from Rw hjl]; omega,?_,fun b r hb=>by simp[g1,G.back,hb,φ]⟩
        rw[show φ j=n+(j-π.length) from Rw hjl]
        have:¬n+(j-π.length)<n:=by omega
        simp only[g1,G.back,if_neg this]
        congr 1
        omega
      have himm:∀b,gc.own b=.imm→g1.own b=.imm:=fun b hb=>by simp[g1,G.back,hb]
      have hdep:Dep bor g1 g' (n+(E'.length-π.length)):=by
       refine⟨fun b hb=>?_,fun b k r hb hk=>?_,fun k hk=>rfl,fun k hk=>by have:=(hbp k hk).2; omega⟩
       ·have hgc:gc.own b=.imm:=by
          simp only[g1,G.back] at hb
          split at hb
          ·cases hb
          ·exact hb
        cases hg:g.own b with
        | no=>exact .inl (by simp[g',G.ret,hgc,hg])
        | imm=>exact .inl (by simp[g',G.ret,hgc,hg])
        | lab k r =>
         by_cases hk:k∈π
         ·exact .inl (by simp[g',G.ret,hgc,hg,hk])
         ·obtain⟨h1,_⟩:=hkeep b k r hg hk
          rcases h1 with ⟨_,hkb⟩| h1
          ·exact .inr ⟨k,hkb,r,by simp[g',G.ret,hgc,hg,hk]⟩
          ·rw[hgc] at h1; cases h1
       ·simp only[g1,G.back] at hb
        split at hb
        ·rename_i j r' hj
         simp only[g',G.ret,hj]; exact hb
        ·rename_i h1
         exact(h1 k r hb).elim
      refine hn v w' g' ⟨fun b hb=>?_,fun k x hx=>?_⟩ ?_ hst
      ·have h1:=H'.fresh b hb
       have h2:=H.fresh b (Nat.le_trans st.size hb)
       simp[g',G.ret,h1,h2]
      ·have hx:(setAll (dropB π bs) π E1++E2)[k]?=some x:=hx
       show BlkR w' g' (setAll (dropB π bs) π E1++E2).length k x
       rw[hlen]
       have one:∀(j:Nat) (b:Blk),E'[j]?=some b→BlkR w' g' (n+(E'.length-π.length)) (φ j) ((b.ren φ).dep bor):=fun j b hj=>by
        have hjl:=At hj
        have hb:=H'.blk j b hj
        have hbr:=hb.ren himm (hren j hjl) fun i hi=>hren i (by
         cases b with
         | dead=>cases hi
         | map m kt vt es st=>exact hb.1 i hi
         | hole e t xs i' p=>cases hi
         | box a=>obtain⟨_,_,_,_,_,_,_,hx⟩:=hb; exact AVX.idsLt a false hx i hi
         | row e m t xs=>exact hb.1 i hi)
        exact hbr.dep hdep (hren j hjl).lt
       rw[List.getElem?_append] at hx
       split at hx
       ·rcases OI hE1 hx with ⟨hk,h⟩| ⟨j,hj,h⟩
        ·obtain⟨y,hy,rfl⟩:=Ec h
         exact(H.blk k y hy).step hst (by omega) (At hy) hk
        ·simp only[E1,List.getElem?_map] at h
         cases hq:(E'.take π.length)[j]? with
         | none=>rw[hq] at h; cases h
         | some b =>
          rw[hq] at h
          injection h with h; subst h
          have hq':E'[j]?=some b:=by
           rw[List.getElem?_take] at hq
           split at hq
           ·exact hq
           ·cases hq
          have:=one j b hq'
          rwa [show φ j=k from RX hj] at this
       ·rename_i hk
        rw[MN,Ar] at hx hk
        simp only[E2,List.getElem?_map,List.getElem?_drop] at hx
        cases hq:E'[π.length+(k-bs.length)]? with
        | none=>rw[hq] at hx; cases hx
        | some b =>
         rw[hq] at hx
         injection hx with hx; subst hx
         have:=one _ b hq
         rwa [show φ (π.length+(k-bs.length))=k from by
          rw[show φ (π.length+(k-bs.length))=n+(π.length+(k-bs.length)-π.length) from Rw (by omega)]
          simp only[n]; omega] at this
      ·show AVR w' g' (setAll (dropB π bs) π E1++E2).length ((av.ren φ).dep bor) v
       rw[hlen]
       exact(hv.ren himm fun k hk=>hren k (hv.idsLt k hk)).dep hdep
    ·cases h
  ·cases h
end Go.Va
namespace Go.Va
theorem S6{r q L:List Nat}{a b:Nat}(h:(r++a::L) <:+ (q++b::L)):a=b:=by
 obtain⟨s,hs⟩:=h
 have:(s++r)++(a::L)=q++(b::L):=by simpa using hs
 have:=List.append_inj_right' this rfl
 injection this
theorem O8:∀(f:Nat) (L:List Nat),∃r,labF f L=r++L
 | 0,L=>⟨[0],rfl⟩
 | f+1,L=>by
  obtain⟨r,h⟩:=O8 f (1::L)
  exact⟨r++[1],by rw[labF,h]; simp⟩
theorem Na:∀(p L:List Nat),∃r,labP p L=r++L
 | [],L=>⟨[],rfl⟩
 | f::p,L=>by
  obtain⟨r,hr⟩:=Na p (labF f L)
  obtain⟨s,hs⟩:=O8 f L
  exact⟨r++s,by rw[labP,hr,hs,List.append_assoc]⟩
def Fr(w:World)(own:Nat→Tag)(w':World)(own':Nat→Tag)(k:Nat)(P:List Nat):Prop:=∀b q,own b=.lab k q→¬P <:+ q→own' b=.lab k q∧w'.heap[b]?=w.heap[b]?
def Hole(w:World)(own:Nat→Tag)(k:Nat)(u:Ty)(zs:List u.V)(P:List Nat)(t:Ty)(L:List Nat)(x':t.V)(ys:List u.V)(cs:List Value)(o:Nat):Prop :=
 ∃c0 c1 c2,cs=c0++c1++c2∧c0.length=o∧OwR w own k (.sl u) P ys c1∧∀w' own' c1',Fr w own w' own' k P→OwR w' own' k (.sl u) P zs c1'→OwR w' own' k t L x' (c0++c1'++c2)
section
variable {w:World} {own:Nat→Tag} {k:Nat} {u:Ty} {zs:List u.V}
theorem sib{w':World}{own':Nat→Tag}{P:List Nat}{t:Ty}{L:List Nat}{x:t.V}{cs:List Value}(hfr:Fr w own w' own' k P)(hP:∀q,¬P <:+ (q++L))(h:OwR w own k t L x cs):OwR w' own' k t L x cs :=
 h.mono fun b q hb=>hfr b _ hb (hP q)
theorem Sm (p:List Nat) (ih:∀(t:Ty) (L:List Nat) (x x':t.V) (cs:List Value) (o:Nat) (ys:List u.V),setV (.sl u) zs p t x=some x'→getT (.sl u) p t x=some ys→offTP t p=some o→OwR w own k t L x cs→Hole w own k u zs (labP p L) t L x' ys cs o) :
    ∀(f:Nat) (t:Ty) (L:List Nat) (x x':t.V) (cs:List Value) (t1:Ty) (o1 o2:Nat) (ys:List u.V),setF t x f (fun t' y=>setV (.sl u) zs p t' y)=some x'→getF t x f (fun t' y=>getT (.sl u) p t' y)=some ys →
     tyF t f=some t1→offD t f=some o1→offTP t1 p=some o2→OwR w own k t L x cs→Hole w own k u zs (labP p (labF f L)) t L x' ys cs (o1+o2)
 | 0,.pair a b,L,x,x',cs,t1,o1,o2,ys,hs,hg,ht,ho,ho2,h=>by
  obtain⟨c,d,e,h1,h2⟩:=h
  simp only[tyF,Option.some.injEq] at ht; subst ht
  simp only[offD,Option.some.injEq] at ho; subst ho
  simp only[setF] at hs
  split at hs
  ·rename_i y hy
   injection hs with hs; subst hs
   obtain⟨c0,c1,c2,e2,hl,hr,hk⟩:=ih a (0::L) x.1 y c o2 ys hy hg ho2 h1
   refine⟨c0,c1,c2++d,by rw[e,e2]; simp only[List.append_assoc],by omega,hr,fun w' own' c1' hfr hz=>⟨c0++c1'++c2,d,by simp only[List.append_assoc],hk w' own' c1' hfr hz,sib hfr (fun q hq=>?_) h2⟩⟩
   obtain⟨r,hr⟩:=Na p (labF 0 L)
   rw[hr] at hq
   have:=S6 (r:=r) (q:=q) (L:=L) (a:=0) (b:=1) hq
   cases this
  ·cases hs
 | f+1,.pair a b,L,x,x',cs,t1,o1,o2,ys,hs,hg,ht,ho,ho2,h=>by
  obtain⟨c,d,e,h1,h2⟩:=h
  simp only[tyF] at ht
  simp only[offD] at ho
  split at ho
  ·rename_i o3 ho3
   injection ho with ho; subst ho
   simp only[setF] at hs
   split at hs
   ·rename_i y hy
    injection hs with hs; subst hs
    obtain⟨c0,c1,c2,e2,hl,hr,hk⟩:=Sm p ih f b (1::L) x.2 y d t1 o3 o2 ys hy hg ht ho3 ho2 h2
    refine⟨c++c0,c1,c2,by rw[e,e2]; simp only[List.append_assoc],by rw[List.length_append,h1.len]; omega,hr,fun w' own' c1' hfr hz=>⟨c,c0++c1'++c2,by simp only[List.append_assoc],sib hfr (fun q hq=>?_) h1,hk w' own' c1' hfr hz⟩⟩
    obtain⟨r,hr⟩:=Na p (labF (f+1) L)
    obtain⟨s,hs⟩:=O8 f (1::L)
    rw[hr,labF,hs,←List.append_assoc] at hq
    have:=S6 (r:=r++s) (q:=q) (L:=L) (a:=1) (b:=0) hq
    cases this
   ·cases hs
  ·cases ho
 | f,.int _,_,_,_,_,_,_,_,_,hs,_,_,_,_,_=>by simp[setF] at hs
 | f,.bool,_,_,_,_,_,_,_,_,hs,_,_,_,_,_=>by simp[setF] at hs
 | f,.str,_,_,_,_,_,_,_,_,hs,_,_,_,_,_=>by simp[setF] at hs
 | f,.unit,_,_,_,_,_,_,_,_,hs,_,_,_,_,_=>by simp[setF] at hs
 | f,.sl _,_,_,_,_,_,_,_,_,hs,_,_,_,_,_=>by simp[setF] at hs
 | f,.opq _,_,_,_,_,_,_,_,_,hs,_,_,_,_,_=>by simp[setF] at hs
theorem O9:∀(p:List Nat) (t:Ty) (L:List Nat) (x x':t.V) (cs:List Value) (o:Nat) (ys:List u.V),setV (.sl u) zs p t x=some x'→getT (.sl u) p t x=some ys→offTP t p=some o→OwR w own k t L x cs→Hole w own k u zs (labP p L) t L x' ys cs o
 | [],t,L,x,x',cs,o,ys,hs,hg,ho,h=>by
  simp only[offTP,Option.some.injEq] at ho; subst ho
  obtain⟨e,he⟩:=AQ hs
  obtain⟨e',he'⟩:=AQ hg
  subst e
  simp only at he he'; subst he; subst he'
  exact⟨[],cs,[],by simp,rfl,h,fun w' own' c1' _ hz=>by simpa [labP] using hz⟩
 | f::p,t,L,x,x',cs,o,ys,hs,hg,ho,h=>by
  simp only[offTP] at ho
  split at ho
  ·rename_i t1 o1 h1 h2
   split at ho
   ·rename_i o2 h3
    injection ho with ho; subst ho
    exact Sm p (O9 p) f t L x x' cs t1 o1 o2 ys hs hg h1 h2 h3 h
   ·cases ho
  ·cases ho
end
def G.det(g:G)(n k:Nat)(P:List Nat)(i:BI):G:=⟨fun b=>match g.own b with | .lab j q=>if j=k∧P <:+ q then .lab n (q.take (q.length-P.length)) else .lab j q | t=>t,fun j=>if j=n then i else g.at_ j⟩
def G.att(g:G)(n k:Nat)(P:List Nat):G:=⟨fun b=>match g.own b with | .lab j q=>if j=n then .lab k (q++P) else .lab j q | t=>t,g.at_⟩
section
variable {w:World} {g:G} {bs:List Blk}
theorem PA{n k:Nat}{P:List Nat}{i:BI}{b:Nat}{q:List Nat}(h:g.own b=.lab k (q++P)):(g.det n k P i).own b=.lab n q:=by
 have:P <:+ (q++P):=⟨q,rfl⟩
 simp[G.det,h,this]
theorem N5{n k:Nat}{P:List Nat}{i:BI}{b j:Nat}{q:List Nat}(h:g.own b=.lab j q)(hn:¬(j=k∧P <:+ q)):(g.det n k P i).own b=.lab j q:=by
 simp only[G.det,h,if_neg hn]
theorem V3{n k:Nat}{P:List Nat}{b:Nat}{q:List Nat}(h:g.own b=.lab n q):(g.att n k P).own b=.lab k (q++P):=by simp[G.att,h]
theorem RB{n k:Nat}{P:List Nat}{b j:Nat}{q:List Nat}(h:g.own b=.lab j q)(hn:j≠n):(g.att n k P).own b=.lab j q:=by simp only[G.att,h,if_neg hn]
theorem Sd{k:Nat}{P:List Nat}{i:BI}:Step [k] bs.length w g w (g.det bs.length k P i) where
 os:=rfl
 tape:=rfl
 output:=rfl
 size:=Nat.le_refl _
 no b _ h:=⟨by simp[G.det,h],rfl⟩
 imm b h:=⟨by simp[G.det,h],rfl⟩
 lab b j q h hj hm:=⟨N5 h fun hc=>hm (by simp[hc.1]),rfl⟩
 at_ j hj:=by simp[G.det,Nat.ne_of_lt hj]
theorem X7{n k N:Nat}{P:List Nat}:Step [n,k] N w g w (g.att n k P) where
 os:=rfl
 tape:=rfl
 output:=rfl
 size:=Nat.le_refl _
 no b _ h:=⟨by simp[G.att,h],rfl⟩
 imm b h:=⟨by simp[G.att,h],rfl⟩
 lab b j q h hj hm:=⟨RB h fun hc=>hm (by simp[hc]),rfl⟩
 at_ j hj:=rfl
theorem K7{A:Type}{l:List A}{k j:Nat}{x y:A}(h:(l.set k x)[j]?=some y):(j=k∧y=x)∨(j≠k∧l[j]?=some y):=by
 rw[List.getElem?_set] at h
 split at h
 ·rename_i e; subst e
  split at h
  ·injection h with h; exact .inl ⟨rfl,h.symm⟩
  ·cases h
 ·rename_i e; exact .inr ⟨fun h=>e h.symm,h⟩
theorem ListI.monoIx{A:Type}{I J:Nat→A→List Value→Prop}:∀{lo:Nat} {xs:List A} {cs:List Value},(∀j x c,lo≤j→j<lo+xs.length→I j x c→J j x c)→ListI I lo xs cs→ListI J lo xs cs
 | _,[],_,_,h=>h
 | lo,_::xs,_,h,⟨c,d,e,r,l⟩=>⟨c,d,e,h _ _ _ (Nat.le_refl _) (by simp) r,ListI.monoIx (fun j x c h1 h2=>h j x c (by omega) (by simp only[List.length_cons]; omega)) l⟩
theorem PV (H:Heap w g bs) {k ek:Nat} {t u:Ty} {xs:List t.V} (hb:bs[k]?=some (.row ek .deep t xs)) {i:Int} {p:List Nat} {o:Nat} (hi:i.toNat<(g.at_ k).len) {ys:List u.V}
    (hg:getT (.sl u) p t (xs.getD i.toNat t.zero)=some ys) (ho:offTP t p=some o) (hu:u.size≠0) {b:Nat} (hba:(g.at_ k).a=some ⟨b,0,none⟩) {v:Value} (hv:w.cell? ⟨b,i.toNat*(g.at_ k).esz+o,none⟩=some v)
    {zs:List u.V} {x':t.V} (hs:setV (.sl u) zs p t (xs.getD i.toNat t.zero)=some x') :
    ∃g1,Heap w g1 ((dropB [k] bs).set k .dead++[.row 0 .deep u ys])∧Step [k] bs.length w g w g1∧AVR w g1 (bs.length+1) (.ref bs.length) v ∧
     (∀(w':World) (g2:G) (N:Nat) (e0:Nat),(∀b q,g1.own b=.lab k q→g2.own b=.lab k q∧w'.heap[b]?=w.heap[b]?)→(∀j,j≤bs.length→g2.at_ j=g1.at_ j) →
      BlkR w' g2 N bs.length (.row e0 .deep u zs)→BlkR w' (g2.att bs.length k (labP p [i.toNat])) N k (.row ek .deep t (xs.set i.toNat x'))) ∧
     (zs=[]→tyP t p=some (.sl u)→0≤i→∀N,BlkR w g1 N k (.hole ek t xs i p)):=by
 have hkl:=At hb
 obtain⟨hmi,hlen,hes,hpos,hr⟩:=H.blk k _ hb
 have hlt:i.toNat<xs.length:=by rw[←hlen]; exact hi
 rcases hr with ⟨hx0,_⟩| ⟨b',cur,ds,ha,hown,⟨el,hel,hh⟩,hc1,hc2,hc3,hc4,hcon⟩
 ·rw[hx0] at hlt; simp at hlt
 rw[hba] at ha; injection ha with ha; injection ha with ha; subst ha
 have hcon:ListI (fun i=>OwR w g.own k t [i]) 0 xs ds:=hcon
 obtain⟨c0,c,d,e1,hl0,hrc,hr0,hrd⟩:=ListI.at_ (fun i x c h=>OwR.len h) hcon hlt
 rw[Nat.zero_add] at hrc hrd
 have hgd:xs.getD i.toNat t.zero=xs[i.toNat]:=by simp[List.getD,hlt]
 let P:=labP p [i.toNat]
 obtain⟨r0,hP⟩:=Na p [i.toNat]
 obtain⟨a0,a1,a2,e2,hl2,hys,hput⟩:Hole w g.own k u zs P t [i.toNat] x' ys c o:=O9 p t [i.toNat] (xs.getD i.toNat t.zero) x' c o ys hs hg ho (by rw[hgd]; exact hrc)
 have hys':=hys
 obtain⟨ad,cap,e3,hrow⟩:=hys'
 have hvh:v=.slice ad ys.length cap:=by
  rw[Lg hh,←Array.getElem?_toList,hes] at hv
  have hq:ds[i.toNat*t.size+o]?=some (.slice ad ys.length cap):=by
   rw[e1,e2,e3,List.append_assoc,List.getElem?_append_right (by omega),hl0]
   rw[show i.toNat*t.size+o-i.toNat*t.size=a0.length by omega]
   simp
  subst hc4
  rw[List.getElem?_take] at hq
  split at hq
  ·rw[hv] at hq; injection hq
  ·cases hq
 let i1:BI:=⟨ad,ys.length,cap,u.size⟩
 let n:=bs.length
 let g1:=g.det n k P i1
 have st:Step [k] n w g w g1:=Sd
 have hat:g1.at_ n=i1:=by simp[g1,G.det]
 have hkn:k≠n:=by simp only[n]; omega
 have hlenb:((dropB [k] bs).set k Blk.dead++[Blk.row 0 .deep u ys]).length=n+1:=by simp[Ar,n]
 refine⟨g1,?_,st,?_,?_,?_⟩
 ·refine H.turn st (fun b hb=>by simp[g1,G.det,H.fresh b hb]) (by rw[hlenb]; omega) fun j x hj=>?_
  rw[List.getElem?_append] at hj
  split at hj
  ·rcases K7 hj with ⟨rfl,rfl⟩| ⟨hne,hj⟩
   ·exact .inl rfl
   ·obtain⟨y,hy,rfl⟩:=Ec hj
    exact .inr (.inl ⟨by simpa using hne,y,hy,rfl⟩)
  ·rename_i hge
   simp only[List.length_set,Ar] at hj hge
   have hj0:j-bs.length=0:=by
    rcases Nat.eq_zero_or_pos (j-bs.length) with h | h
    ·exact h
    ·rw[List.getElem?_eq_none (by simp; omega)] at hj; cases hj
   rw[hj0] at hj
   obtain rfl:j=n:=by simp only[n]; omega
   simp only[List.getElem?_cons_zero,Option.some.injEq] at hj
   subst hj
   refine .inr (.inr ⟨fun j hj=>(by cases hj),by rw[hat],by rw[hat],Nat.pos_of_ne_zero hu,?_⟩)
   rw[hat]
   refine hrow.imp id fun⟨b,el,cur,ds,q1,q2,q3,q4,q5,q6,q7,q8⟩=>⟨b,cur,ds,q1,PA (q:=[]) (by simpa using q2),⟨el,.inl rfl,q3⟩,q4,q5,q6,q7,?_⟩
   exact q8.mono fun i x c r=>r.mono fun b q hb=>⟨PA (by simpa using hb),rfl⟩
 ·rw[hvh]
  exact Bg (cs:=[_]) rfl ⟨Nat.lt_succ_self _,by rw[hat]⟩ rfl
 ·intro w' g2 N e0 hkeep hat2 hB
  obtain⟨_,hlen2,_,_,hr2⟩:=hB
  have hat3:g2.at_ n=i1:=by rw[hat2 n (Nat.le_refl _),hat]
  rw[hat3] at hlen2 hr2
  have hzl:zs.length=ys.length:=hlen2.symm
  have hz:OwR w' (g2.att n k P).own k (.sl u) P zs a1:=by
   refine⟨ad,cap,by rw[e3,hzl],hr2.imp id fun⟨b,cur,ds,q1,q2,⟨el,_,q3⟩,q4,q5,q6,q7,q8⟩=>⟨b,el,cur,ds,q1,by simpa using V3 (P:=P) (k:=k) q2,q3,q4,q5,q6,q7,?_⟩⟩
   have q8:ListI (fun i=>OwR w' g2.own n u [i]) 0 zs ds:=q8
   exact q8.mono fun i x c r=>r.mono fun b q hb=>⟨by simpa using V3 (P:=P) (k:=k) hb,rfl⟩
  have hfr:Fr w g.own w' (g2.att n k P).own k P:=fun b q hb hn=>by
   have h1:=hkeep b q (N5 hb fun hc=>hn hc.2)
   exact⟨RB h1.1 hkn,h1.2⟩
  have helem:=hput w' _ _ hfr hz
  rw[←e2] at helem
  have hfar:∀j,j≠i.toNat→∀{x:t.V} {c:List Value},OwR w g.own k t [j] x c→OwR w' (g2.att n k P).own k t [j] x c:=fun j hj x c h=>sib hfr (fun q hq=>by
   rw[show P=r0++i.toNat::[] from hP] at hq
   exact hj (S6 (L:=[]) hq).symm) h
  have hjoin:=ListI.join hlt (ListI.monoIx (fun j x c _ h2 h=>hfar j (by rw[List.length_take] at h2; omega) h) hr0) (by rw[Nat.zero_add]; exact helem) (ListI.monoIx (fun j x c h1 _ h=>hfar j (by omega) h) (by rw[Nat.zero_add]; exact hrd))
  have hroot:=hfr b [] hown (by
   rw[show P=r0++[i.toNat] from hP]
   rintro⟨s,hs⟩
   simp at hs)
  have hatk:(g2.att n k P).at_ k=g.at_ k:=by
   show g2.at_ k=_
   rw[hat2 k (by omega)]
   simp[g1,G.det,hkn]
  refine⟨fun j hj=>(by cases hj),by rw[hatk,List.length_set]; exact hlen,by rw[hatk]; exact hes,hpos,.inr ⟨b,cur,ds,by rw[hatk]; exact hba,hroot.1,⟨el,hel,hroot.2.trans hh⟩,by rw[hatk,List.length_set]; exact hc1,by rw[hatk]; exact hc2,by rw[hatk]; exact hc3,by rw[List.length_set]; exact hc4,?_⟩⟩
  show ListI _ 0 _ ds
  rw[e1]
  exact hjoin
 ·intro hz0 hty h0 N
  subst hz0
  have hfr:Fr w g.own w g1.own k P:=fun b q hb hn=>⟨N5 hb fun hc=>hn hc.2,rfl⟩
  have helem:=hput w g1.own [.slice none 0 0] hfr ⟨none,0,rfl,.inl ⟨rfl,rfl⟩⟩
  have hfar:∀j,j≠i.toNat→∀{x:t.V} {c:List Value},OwR w g.own k t [j] x c→OwR w g1.own k t [j] x c:=fun j hj x c h=>sib hfr (fun q hq=>by
   rw[show P=r0++i.toNat::[] from hP] at hq
   exact hj (S6 (L:=[]) hq).symm) h
  have hjoin:=ListI.join hlt (ListI.monoIx (fun j x c _ h2 h=>hfar j (by rw[List.length_take] at h2; omega) h) hr0) (by rw[Nat.zero_add]; exact helem) (ListI.monoIx (fun j x c h1 _ h=>hfar j (by omega) h) (by rw[Nat.zero_add]; exact hrd))
  have hroot:=hfr b [] hown (by
   rw[show P=r0++[i.toNat] from hP]
   rintro⟨s,hs⟩
   simp at hs)
  have hatk:g1.at_ k=g.at_ k:=by simp[g1,G.det,hkn]
  refine⟨by rw[hatk]; exact hlen,by rw[hatk]; exact hes,hpos,h0,hlt,u,o,x',b,cur,_,ho,hty,hs,by rw[hatk]; exact hba,hroot.1,⟨el,hel,hh⟩,by rw[hatk]; exact hc1,by rw[hatk]; exact hc2,by rw[hatk]; exact hc3,rfl,?_⟩
  rw[Array.toList_setIfInBounds,List.take_set,hc4,e1,e2,e3]
  have:(c0++(a0++[Value.slice ad ys.length cap]++a2)++d).set (i.toNat*t.size+o) (.slice none 0 0)=c0++(a0++[.slice none 0 0]++a2)++d:=by
   rw[←hl0,←hl2,List.append_assoc,List.append_assoc,List.append_assoc,List.set_append_right _ _ (by omega),List.set_append_right _ _ (by omega),show c0.length+a0.length-c0.length-a0.length=0 by omega]
   simp
  rw[this]
  exact hjoin
theorem UR (H:Heap w g bs) {k ek:Nat} {t u:Ty} {xs:List t.V} (hb:bs[k]?=some (.row ek .deep t xs)) {i:Int} {p:List Nat} {o:Nat} (hi:i.toNat<(g.at_ k).len) {ys zs:List u.V} {x':t.V}
    (hg:getT (.sl u) p t (xs.getD i.toNat t.zero)=some ys) (hs:setV (.sl u) zs p t (xs.getD i.toNat t.zero)=some x') (ho:offTP t p=some o) {b:Nat} (hba:(g.at_ k).a=some ⟨b,0,none⟩) :
    ∃ad c,w.cell? ⟨b,i.toNat*(g.at_ k).esz+o,none⟩=some (.slice ad ys.length c):=by
 obtain⟨hmi,hlen,hes,hpos,hr⟩:=H.blk k _ hb
 have hlt:i.toNat<xs.length:=by rw[←hlen]; exact hi
 rcases hr with ⟨hx0,_⟩| ⟨b',cur,ds,ha,hown,⟨el,hel,hh⟩,hc1,hc2,hc3,hc4,hcon⟩
 ·rw[hx0] at hlt; simp at hlt
 rw[hba] at ha; injection ha with ha; injection ha with ha; subst ha
 have hcon:ListI (fun i=>OwR w g.own k t [i]) 0 xs ds:=hcon
 obtain⟨c0,c,d,e1,hl0,hrc,hr0,hrd⟩:=ListI.at_ (fun i x c h=>OwR.len h) hcon hlt
 rw[Nat.zero_add] at hrc
 have hgd:xs.getD i.toNat t.zero=xs[i.toNat]:=by simp[List.getD,hlt]
 obtain⟨a0,a1,a2,e2,hl2,⟨ad,cap,e3,_⟩,_⟩:=O9 p t [i.toNat] (xs.getD i.toNat t.zero) x' c o ys hs hg ho (by rw[hgd]; exact hrc)
 refine⟨ad,cap,?_⟩
 rw[Lg hh,←Array.getElem?_toList,hes]
 have hq:ds[i.toNat*t.size+o]?=some (.slice ad ys.length cap):=by
  rw[e1,e2,e3,List.append_assoc,List.getElem?_append_right (by omega),hl0]
  rw[show i.toNat*t.size+o-i.toNat*t.size=a0.length by omega]
  simp
 subst hc4
 rw[List.getElem?_take] at hq
 split at hq
 ·exact hq
 ·cases hq
end
theorem OK:∀{l:List AV} {j0 j k:Nat} {a:AV} {i:Int} {p:List Nat} {o:Nat},nstIx j0 l=some (j,a,k,i,p,o)→j0≤j∧l[j-j0]?=some a∧a.nstG=some (k,i,p,o)
 | [],_,_,_,_,_,_,_,h=>by simp[nstIx] at h
 | b::r,j0,j,k,a,i,p,o,h=>by
  simp only[nstIx] at h
  split at h
  ·rename_i k' i' p' o' hg
   simp only[Option.some.injEq,Prod.mk.injEq] at h
   obtain⟨rfl,rfl,rfl,rfl,rfl,rfl⟩:=h
   exact⟨Nat.le_refl _,by simp,hg⟩
  ·obtain⟨h1,h2,h3⟩:=OK h
   refine⟨by omega,?_,h3⟩
   rw[show j-j0=(j-(j0+1))+1 by omega,List.getElem?_cons_succ]
   exact h2
theorem N1 {w:World} {g:G} {n:Nat}:∀{a:AV} {cs:List Value} {k:Nat} {i:Int} {p:List Nat} {o:Nat},AVX w g n false a cs→a.nstG=some (k,i,p,o) →
    k<n∧0≤i∧i.toNat<(g.at_ k).len∧∃b v,(g.at_ k).a=some ⟨b,0,none⟩∧g.own b=.lab k []∧w.cell? ⟨b,i.toNat*(g.at_ k).esz+o,none⟩=some v
 | .nst k i p o e,cs,_,_,_,_,⟨hk,h0,h1,b,v,ha,ho,e1,e2,hc⟩,h=>by
  simp only[AV.nstG,Option.some.injEq,Prod.mk.injEq] at h
  obtain⟨rfl,rfl,rfl,rfl⟩:=h
  exact⟨hk,h0,h1,b,v,ha,ho,hc⟩
 | .pr a b,cs,k,i,p,o,⟨c,d,e,h1,h2⟩,h=>by
  simp only[AV.nstG] at h
  split at h
  ·rename_i z hz
   injection h with h; subst h
   exact N1 h1 hz
  ·exact N1 h2 h
 | .dat _ _ _,_,_,_,_,_,_,h=>by simp[AV.nstG] at h
 | .zs,_,_,_,_,_,_,h=>by simp[AV.nstG] at h
 | .ref _,_,_,_,_,_,_,h=>by simp[AV.nstG] at h
 | .sld _ _,_,_,_,_,_,_,h=>by simp[AV.nstG] at h
 | .mp _,_,_,_,_,_,_,h=>by simp[AV.nstG] at h
 | .ptr _ _ _ _,_,_,_,_,_,_,h=>by simp[AV.nstG] at h
 | .rop _ _ _,_,_,_,_,_,_,h=>by simp[AV.nstG] at h
 | .nilp,_,_,_,_,_,_,h=>by simp[AV.nstG] at h
 | .fn _ _,_,_,_,_,_,_,h=>by simp[AV.nstG] at h
 | .un _,_,_,_,_,_,_,h=>by simp[AV.nstG] at h
 | .cons _ _,_,_,_,_,_,h,_=>h.elim
 | .nil,_,_,_,_,_,h,_=>h.elim
theorem Tj{a:AV}{z:Nat×Int×List Nat×Nat}(h:a.nstG=some z)(N:Nat):a.isTup=false∧a.isUn=false∧(a.nstR N).isTup=false∧(a.nstR N).isAgg=a.isAgg:=by
 cases a with
 | nst k i p o e=>exact⟨rfl,rfl,rfl,rfl⟩
 | pr a b =>
  refine⟨rfl,rfl,?_,?_⟩
  ·simp only[AV.nstR]; split<;>rfl
  ·simp only[AV.nstR]; split<;>rfl
 | _=>simp[AV.nstG] at h
theorem RR {w:World} {g g1:G} {n N k:Nat} (st:Step [k] n w g w g1) {i:Int} {p:List Nat} {o:Nat} {v b:_} (hba:(g.at_ k).a=some ⟨b,0,none⟩) (hc:w.cell? ⟨b,i.toNat*(g.at_ k).esz+o,none⟩=some v) (hr:AVX w g1 (n+1) false (.ref N) [v]) :
    ∀{a:AV} {cs:List Value},AVX w g n false a cs→a.nstG=some (k,i,p,o)→(∀q∈(a.nstR N).ids,[k].contains q=false)→AVX w g1 (n+1) false (a.nstR N) cs
 | .nst _ _ _ _ _,cs,⟨_,_,_,b',v',ha,_,e1,_,hc'⟩,h,_=>by
  simp only[AV.nstG,Option.some.injEq,Prod.mk.injEq] at h
  obtain⟨rfl,rfl,rfl,rfl⟩:=h
  rw[hba] at ha; injection ha with ha; injection ha with ha; subst ha
  rw[hc] at hc'; injection hc' with hc'; subst hc'
  rw[e1]; exact hr
 | .pr a b,cs,⟨c,d,e,h1,h2⟩,h,hq=>by
  simp only[AV.nstG] at h
  simp only[AV.nstR] at hq ⊢
  split at h
  ·rename_i z hz
   injection h with h; subst h
   rw[hz] at hq
   refine⟨c,d,e,RR st hba hc hr h1 hz fun q hq'=>hq q (by simp[AV.ids,hq']),?_⟩
   have:=AVX.step st (Nat.le_succ n) b false h2
   rwa [JM fun q hq'=>hq q (by simp[AV.ids,hq'])] at this
  ·rename_i hz
   rw[hz] at hq
   refine⟨c,d,e,?_,RR st hba hc hr h2 h fun q hq'=>hq q (by simp[AV.ids,hq'])⟩
   have:=AVX.step st (Nat.le_succ n) a false h1
   rwa [JM fun q hq'=>hq q (by simp[AV.ids,hq'])] at this
 | .dat _ _ _,_,_,h,_=>by simp[AV.nstG] at h
 | .zs,_,_,h,_=>by simp[AV.nstG] at h
 | .ref _,_,_,h,_=>by simp[AV.nstG] at h
 | .sld _ _,_,_,h,_=>by simp[AV.nstG] at h
 | .mp _,_,_,h,_=>by simp[AV.nstG] at h
 | .ptr _ _ _ _,_,_,h,_=>by simp[AV.nstG] at h
 | .rop _ _ _,_,_,h,_=>by simp[AV.nstG] at h
 | .nilp,_,_,h,_=>by simp[AV.nstG] at h
 | .fn _ _,_,_,h,_=>by simp[AV.nstG] at h
 | .un _,_,_,h,_=>by simp[AV.nstG] at h
 | .cons _ _,_,h,_,_=>h.elim
 | .nil,_,h,_,_=>h.elim
theorem ST{w:World}{g:G}{n:Nat}:∀{l:List AV} {vs:List Value} {j:Nat} {a:AV},ArgsR w g n l vs→l[j]?=some a→∃v,vs[j]?=some v∧AVR w g n a v
 | _::_,v::_,0,_,h,hx=>by simp at hx; subst hx; exact⟨v,rfl,h.1⟩
 | _::_,_::_,j+1,_,h,hx=>by
  obtain⟨v,hv,hr⟩:=ST (j:=j) h.2 (by simpa using hx)
  exact⟨v,by simpa using hv,hr⟩
 | [],[],_,_,_,hx=>by simp at hx
 | [],_::_,_,_,h,_=>h.elim
 | _::_,[],_,_,h,_=>h.elim
theorem Q7{w:World}{g g1:G}{n n1:Nat}{a1:AV}:∀{l:List AV} {vs:List Value} {j:Nat} {v:Value},ArgsR w g n l vs→vs[j]?=some v→AVR w g1 n1 a1 v→(∀a∈l.set j (.un 1),∀v,AVR w g n a v→AVR w g1 n1 a v)→ArgsR w g1 n1 (l.set j a1) vs
 | a::l,v0::vs,0,v,h,hv,hx,ht=>by
  simp at hv; subst hv
  refine⟨hx,?_⟩
  have key:∀{l:List AV} {vs:List Value},(∀a∈l,∀v,AVR w g n a v→AVR w g1 n1 a v)→ArgsR w g n l vs→ArgsR w g1 n1 l vs:=by
   intro l
   induction l with
   | nil=>intro vs _ h; cases vs with
    | nil=>trivial
    | cons _ _=>exact h.elim
   | cons a l ih=>intro vs ht h; cases vs with
    | nil=>exact h.elim
    | cons v vs=>exact⟨ht a (by simp) v h.1,ih (fun a ha=>ht a (by simp[ha])) h.2⟩
  exact key (fun a ha=>ht a (by simp[ha])) h.2
 | a::l,v0::vs,j+1,v,h,hv,hx,ht=>⟨ht a (by simp) v0 h.1,Q7 h.2 (by simpa using hv) hx fun a ha=>ht a (by simp[ha])⟩
 | [],[],_,_,_,hv,_,_=>by simp at hv
 | [],_::_,_,_,h,_,_,_=>h.elim
 | _::_,[],_,_,h,_,_,_=>h.elim
theorem VR {P:Program} {f:FuncId} {c:Callee} (hc:SoundC P f c) {bs:List Blk} {args:List AV} {e:Eff} (h:callN c bs args some=some e) :
    bs.length≤e.blks.length∧(e.mods=[]→∃l,e.blks=bs++l)∧∀(w:World) (g:G) (vs:List Value),Heap w g bs→ArgsR w g bs.length args vs→∀(o:Oper) (a:Act) (next:Act→World→Prop) (Q:Exit→Act→World→Prop),
     (∀v w' g',Heap w' g' e.blks→AVR w' g' e.blks.length e.val v→Step e.mods bs.length w g w' g'→next (a.put o.dst v) w')→o.upon P a next Q ((callFunc f vs.toArray).run P w):=by
 unfold callN at h
 split at h
 ·exact PH hc h
 ·rename_i j a0 k i p of hix
  split at h
  ·rename_i ek t xs hb
   split at h
   ·rename_i u hty
    split at h
    ·rename_i ys hg
     split at h
     ·rename_i hcond
      obtain⟨hof,hu,hall⟩:=hcond
      rw[MA c hc.nat] at h
      cases hx:callA c ((dropB [k] bs).set k Blk.dead++[Blk.row 0 .deep u ys]) (args.set j (a0.nstR bs.length)) some with
      | none=>rw[hx] at h; cases h
      | some e0 =>
       rw[hx] at h
       simp only[Option.bind_some] at h
       split at h
       ·cases h
       ·rename_i hmk
        split at h
        ·rename_i e1 u' zs' hn0
         split at h
         ·rename_i zs hcast
          split at h
          ·rename_i x' hset
           injection h with h; subst h
           obtain⟨ec,hec⟩:=AQ hcast
           injection ec with ec; have ec:=ec.symm; subst ec; simp only at hec; subst hec
           obtain⟨hlen,_,hcall⟩:=PH hc hx
           have hkl:=At hb
           have hlb:((dropB [k] bs).set k Blk.dead++[Blk.row 0 .deep u ys]).length=bs.length+1:=by simp[Ar]
           rw[hlb] at hlen
           have hmk':k∉e0.mods:=by simpa using hmk
           refine⟨by simp only[List.length_set,Ar]; omega,fun hm=>by simp at hm,fun w g vs H hargs o a next Q hn=>?_⟩
           obtain⟨_,hnth,hG⟩:=OK hix
           rw[Nat.sub_zero] at hnth
           obtain⟨v,hvj,hav⟩:=ST hargs hnth
           obtain⟨pl1,pl2,pl3,pl4⟩:=Tj hG bs.length
           obtain⟨cs,hcs,hval⟩:=A0 pl1 pl2 hav
           obtain⟨_,h0,hi,b,v',hba,hown,hcell⟩:=N1 hcs hG
           obtain⟨g1,H1,st1,hav1,hput,_⟩:=PV H hb hi hg hof hu hba hcell hset
           have hnot:∀a∈args.set j (a0.nstR bs.length),∀q∈a.ids,[k].contains q=false:=fun a ha q hq=>by
            have:=List.all_eq_true.1 hall a ha
            simp only[Bool.not_eq_true',List.contains_eq_mem,decide_eq_false_iff_not] at this
            simp only[List.contains_eq_mem,List.mem_singleton,decide_eq_false_iff_not]
            intro e; subst e; exact this hq
           have hjl:=At hnth
           have hput0:AVR w g1 (bs.length+1) (a0.nstR bs.length) v:=by
            obtain⟨cs1,hcs1,hv1⟩:=A0 rfl rfl hav1
            have e1:cs1=[v']:=hv1
            subst e1
            exact Bg pl3 (RR st1 hba hcell hcs1 hcs hG (hnot _ (List.mem_of_getElem? (i:=j) (by rw[List.getElem?_set_self hjl])))) (by rw[pl4]; exact hval)
           have hargs1:ArgsR w g1 (bs.length+1) (args.set j (a0.nstR bs.length)) vs:=Q7 hargs hvj hput0 fun a ha v h=>by
            obtain⟨q,hq⟩:=List.getElem?_of_mem ha
            rcases K7 hq with ⟨rfl,rfl⟩| ⟨hne,hq'⟩
            ·exact Lt
            ·have:=h.step st1 (Nat.le_succ _)
             rwa [JM (hnot a (List.mem_of_getElem? (i:=q) (by rw[List.getElem?_set_ne (Ne.symm hne)]; exact hq')))] at this
           refine hcall w g1 vs H1 (by rw[hlb]; exact hargs1) o a next Q fun v2 w2 g2 H2 hv2 st2=>?_
           rw[hlb] at st2
           have hkn:k≠bs.length:=by omega
           let N:=e0.blks.length
           have hlenF:(((dropB [k,bs.length] e0.blks).set bs.length Blk.dead).set k (.row ek .deep t (xs.set i.toNat x'))).length=N:=by simp[Ar,N]
           have stA:Step [bs.length,k] N w2 g2 w2 (g2.att bs.length k (labP p [i.toNat])):=X7
           have stA':Step [k,bs.length] N w2 g2 w2 (g2.att bs.length k (labP p [i.toNat])):=stA.weaken (fun q hq=>by simp at hq ⊢; exact hq.symm) (Nat.le_refl _)
           have hrowk:BlkR w2 (g2.att bs.length k (labP p [i.toNat])) N k (.row ek .deep t (xs.set i.toNat x')):=by
            refine hput w2 g2 N e1 (fun b q hb=>st2.lab b k q hb (by omega) hmk') (fun j hj=>st2.at_ j (by omega)) (H2.blk bs.length _ hn0)
           refine hn v2 w2 (g2.att bs.length k (labP p [i.toNat])) ?_ ?_ ?_
           ·refine H2.turn stA' (fun b hb=>by simp[G.att,H2.fresh b hb]) (by rw[hlenF]; exact Nat.le_refl _) fun j' y hj'=>?_
            rw[hlenF]
            rcases K7 hj' with ⟨rfl,rfl⟩| ⟨hne,hj'⟩
            ·exact .inr (.inr hrowk)
            ·rcases K7 hj' with ⟨rfl,rfl⟩| ⟨hne2,hj'⟩
             ·exact .inl rfl
             ·obtain⟨y',hy',rfl⟩:=Ec hj'
              exact .inr (.inl ⟨by simp only[List.mem_cons,List.not_mem_nil,or_false,not_or]; exact⟨hne,hne2⟩,y',hy',rfl⟩)
           ·rw[hlenF]
            exact hv2.step stA' (Nat.le_refl _)
           ·refine⟨st2.os.trans st1.os,st2.tape.trans st1.tape,st2.output.trans st1.output,st2.size,fun b hb h=>?_,fun b h=>?_,fun b j' q h hj' hm=>?_,fun j' hj'=>?_⟩
            ·have h1:=st1.no b hb h
             have h2:=st2.no b hb h1.1
             exact⟨by simp[G.att,h2.1],h2.2⟩
            ·have h1:=st1.imm b h
             have h2:=st2.imm b h1.1
             exact⟨by simp[G.att,h2.1],h2.2⟩
            ·simp only[List.mem_append,List.mem_singleton,not_or] at hm
             have h1:=st1.lab b j' q h hj' (by simpa using hm.2)
             have h2:=st2.lab b j' q h1.1 (by omega) hm.1
             exact⟨RB h2.1 (by omega),h2.2⟩
            ·show g2.at_ j'=_
             rw[st2.at_ j' (by omega),st1.at_ j' hj']
          ·cases h
         ·cases h
        ·cases h
     ·cases h
    ·cases h
   ·cases h
  ·cases h
end Go.Va
