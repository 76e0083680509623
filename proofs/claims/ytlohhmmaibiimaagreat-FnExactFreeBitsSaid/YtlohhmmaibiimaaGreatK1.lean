import Derived.Great.BuildSlice
import Derived.Deep.AppendSrc
import Derived.Test.YtlohhmmaibiimaaGreatK0
set_option linter.unusedVariables false
set_option linter.unusedSimpArgs false
namespace Go.Va
theorem tg{u:Ty}:∀{n i:Nat},i<n->eN (mz u n) i=some u/\R3 (mz u n) i=some (i*u.size)
 |n+1,0,_=>by simp[mz,eN,R3]
 |n+1,i+1,h=>by
  obtain⟨h1,h2⟩:=tg (u:=u) (n:=n) (i:=i) (by omega);refine⟨by simpa [mz,eN]using h1,?_⟩;simp only[mz,R3,h2];rw[Nat.add_mul,Nat.one_mul,Nat.add_comm]
theorem gQ{place Acz:Nat->Option (Nat×Nat)}(h:∀i p,place i=some p->Acz i=some p):∀{FC:List (Nat×Value)} {cs r:Array Value},Instr.fill place cs FC=some r->Instr.fill Acz cs FC=some r
 |[],_,_,hf=>hf
 |(i,v)::ZI,cs,r,hf=>by
  unfold Instr.fill at hf⊢;split at hf
  ·cases hf
  ·rename_i off size hp;rw[h i _ hp];simp only;split at hf
   ·cases hf
   ·rename_i hc;rw[AHe hc];exact gQ h hf
section
variable {P:Program} {σ:St} {o:Oper} {en:Bd}
theorem k9{t:TypeId}{FC:Array (Nat×Operand)}(ho:o.op=.build t FC){ti te:TI}(ht:EA P t ti)(D1:EA P ti.elem te)(hn:ti.Gs≠0)(aI:ti.ty=mz te.ty ti.Gs){z:AV}
    (h:VJ (ti.plc te) ti.ty.Xi (FC.toList.map λp=>(p.1,σ.B5 p.2))=some z):MP P σ o ⟨z,σ.Am,[]⟩ :=
 .H9 <| KP (s:=λρ=>Instr.build t (FC.map λ(i,x)=>(i,ρ x))) (λρ=>by simp[execOp,ho]) λa w g BH=>by
  have hu:=ht.Gs hn;have ha:ti.ty.isAgg=true:=by
   rw[aI];cases hq:ti.Gs with
   |zero=>exact(hn hq).elim
   |succ n=>rfl
  obtain⟨i,zv,hi,Ks,lU,hz,rA,nT⟩:=ht.info;obtain⟨fv,nY,hx,hxa⟩:=cb (ti:=ti.plc te) (pl:=(List.range ti.Gs).map λi=>(i*te.ty.size,te.ty.size)) (n:=σ.Am.length) (w:=w) (g:=g) (λj o hj=>by
   simp only[TI.plc,AHo,Option.map_eq_some_iff]at hj;obtain⟨q,hq,rfl⟩:=hj;have VU:j<ti.Gs:=by
    have:=AP hq;simpa using this
   rw[List.getElem?_range VU]at hq;injection hq with hq;subst hq;refine⟨te.ty,by show eN ti.ty j=_;rw[aI];exact(tg VU).1,?_⟩;simp[List.getElem?_range VU]) (AO BH) h Wl (by rw[je];exact ha)
  refine⟨.agg fv.toArray,?_,Bn (TQ hx) hx (by rw[hxa];rfl)⟩;have ib:zv.cells=(PY ti.ty).toArray:=by rw[<-rA]
  have AlV:Instr.fill (λi=>some (i*te.ty.size,te.ty.size)) zv.cells (FC.map λ(i,x)=>(i,a.eval x)).toList=some fv.toArray:=by
   rw[ib];refine gQ (λi p hp=>?_) (by simpa using nY);simp only[List.getElem?_toArray,AHo,Option.map_eq_some_iff]at hp;obtain⟨q,hq,rfl⟩:=hp;have VU:i<ti.Gs:=by
    have:=AP hq;simpa using this
   rw[List.getElem?_range VU]at hq;injection hq with hq;subst hq;rfl
  have AlW:Instr.fill (λi=>some (i*te.ty.size,te.ty.size)) zv.cells (List.map (λx=>(x.fst,a.eval x.snd)) FC.toList)=some fv.toArray:=by simpa using AlV
  simp[Instr.build,run_underlying hu,zeroValue,typeInfo,hi,hz,Dn D1,AlW]
theorem lb{t:TypeId}{x i:Operand}(ho:o.op=.index t x i){ti te:TI}(ht:EA P t ti)(D1:EA P ti.elem te)(hn:ti.Gs≠0){ks:List Nat}{kk:IntKind}{j:Int}(hi:σ.B5 i=.AA ks (.int kk) j)
    (hj:0<=j/\j<(ti.Gs:Int)/\(σ.B5 x).off j.toNat=some (j.toNat*te.ty.size)/\(σ.B5 x).isAgg=true/\(σ.B5 x).CZ=false) {v:AV} (hv:(σ.B5 x).Xy j.toNat=some v) (Ks:v.size=te.ty.size/\v.isAgg=te.ty.isAgg):MP P σ o ⟨v,σ.Am,[]⟩ :=
 .H9 <| KP (s:=λρ=>Instr.index t (ρ x) (ρ i)) (λρ=>by simp[execOp,ho]) λa w g BH=>by
  have hu:=ht.Gs hn;obtain⟨h0,h1,MS,nT,V2⟩:=hj;have hix:=AO BH i;rw[hi]at hix;have hie:=Dc hix;have Vl:=AO BH x;have Qm:(σ.B5 x).MX=false:=by
   cases hq:σ.B5 x<;>rw[hq]at hv<;>first |rfl |simp[AV.Xy]at hv
  obtain⟨cs,RN,oz⟩:=BO V2 Qm Vl;rw[nT]at oz;have oz:a.eval x=.agg cs.toArray:=oz;obtain⟨c0,c1,c2,e,qd,aK,_⟩:=VS _ _ cs v RN hv;rw[MS]at qd;injection qd with qd;have R9:c1.length=te.ty.size:=by rw[aK.len,Ks.1]
  rw[hie,oz];cases hg:te.ty.isAgg with
  |true =>
   refine⟨.agg c1.toArray,?_,Bn (TQ aK) aK (by rw[Ks.2,hg];rfl)⟩;have hex:cs.toArray.extract (j.toNat*te.ty.size) (j.toNat*te.ty.size+te.ty.size)=c1.toArray:=by
    apply Array.ext';rw[Array.toList_extract,qd,e];simp only[List.extract];rw[show c0.length+te.ty.size-c0.length=c1.length by omega,AG3,List.drop_left,List.take_left]
   have AlU:List.take te.ty.size (List.drop (j.toNat*te.ty.size) cs)=c1:=by
    rw[qd,e,AG3,List.drop_left,<-R9,List.take_left]
   simp[Instr.index,asIntOf,run_underlying hu,h0,h1,part,X6 D1,hg,Dn D1,AlU]
  |false =>
   have VW:te.ty.size=1:=Rf hg;obtain⟨u,hu1⟩:∃u,c1=[u]:=by
    cases c1 with
    |nil=>rw[VW]at R9;cases R9
    |cons u r=>cases r with
     |nil=>exact⟨u,rfl⟩
     |cons _ _=>rw[VW]at R9;simp at R9
   subst hu1;refine⟨u,?_,Bn (TQ aK) aK (by rw[Ks.2,hg];rfl)⟩;have Td:cs[j.toNat*te.ty.size]?=some u:=by
    rw[qd,e,AG3,AHh (AG1 _),Nat.sub_self];rfl
   simp[Instr.index,asIntOf,run_underlying hu,h0,h1,part,X6 D1,hg,Dn D1,Td]
theorem nK{ty:Ty}:∀{fs:List Field} {os:List Nat} {i j:Nat} {fd:Field} {u:Ty},MQ P ty i fs os=true->fs[j]?=some fd->eN ty (i+j)=some u->∃d,P.underlying fd.type=some d/\Aej d=u.isAgg
 |[],_,_,_,_,_,_,h,_=>by simp at h
 |_::_,[],_,_,_,_,h,_,_=>by simp[MQ]at h
 |f::fs,o'::os,i,0,fd,u,h,hf,hu=>by
  simp only[List.getElem?_cons_zero,AGX]at hf;subst hf;simp only[MQ,AG2]at h;obtain⟨⟨_,h3⟩,_⟩:=h;rw[show eN ty i=some u from hu]at h3;simp only[AG2]at h3;have h4:=h3.2;unfold AuD at h4;cases hd:P.underlying f.type with
  |none=>rw[hd]at h4;cases h4
  |some d=>rw[hd]at h4;exact⟨d,rfl,by simpa using h4⟩
 |f::fs,o'::os,i,j+1,fd,u,h,hf,hu=>by
  simp only[MQ,AG2]at h;exact nK (i:=i+1) h.2 (by simpa using hf) (by rw[show i+1+j=i+(j+1) by omega];exact hu)
theorem yN{w:World}{t:Nat}{d:TypeDesc}(h:P.underlying t=some d):(isAgg t).run P w=.ok (Aej d) w:=by
 cases d<;>simp[isAgg,underlying,h,Aej]
theorem w7{t:TypeId}{x:Operand}{f:Nat}(ho:o.op=.field t x f){ti:TI}(ht:EA P t ti){fo:Nat}(hfo:ti.Uo[f]?=some fo){u:Ty}(hu:eN ti.ty f=some u){v:AV}(hv:(σ.B5 x).Xy f=some v)
    (hc:(σ.B5 x).off f=some fo/\(σ.B5 x).isAgg=true/\(σ.B5 x).CZ=false/\v.size=u.size/\v.isAgg=u.isAgg):MP P σ o ⟨v,σ.Am,[]⟩ :=
 .H9 <| KP (s:=λρ=>Instr.field t (ρ x) f) (λρ=>by simp[execOp,ho]) λa w g BH=>by
  obtain⟨MS,nT,V2,AAN,Axd⟩:=hc;obtain⟨fs,Axg,qb⟩:=US ht hfo;obtain⟨fd,u',inf,h1,h2,h3,h4,h5,h6,h7⟩:=j8 qb hfo;rw[AHr]at h3 h4;have:u'=u:=by rw[hu]at h4;injection h4 with h4;exact h4.symm
  subst this;obtain⟨d,hd,hda⟩:=nK (i:=0) qb h1 (by rw[AHr];exact hu);have hfd:fs[f]?=some fd:=by rw[<-AG9];exact h1
  have hsr:(sizeOf fd.type).run P w=.ok u'.size w:=by simp[sizeOf,typeInfo,h5,h6]
  have har:=yN (w:=w) hd;rw[hda]at har;have Vl:=AO BH x;have Qm:(σ.B5 x).MX=false:=by
   cases hq:σ.B5 x<;>rw[hq]at hv<;>first |rfl |simp[AV.Xy]at hv
  obtain⟨cs,RN,oz⟩:=BO V2 Qm Vl;rw[nT]at oz;have oz:a.eval x=.agg cs.toArray:=oz;obtain⟨c0,c1,c2,e,qd,aK,_⟩:=VS _ _ cs v RN hv;rw[MS]at qd;injection qd with qd;have R9:c1.length=u'.size:=by rw[aK.len,AAN]
  rw[oz];cases hg:u'.isAgg with
  |true =>
   rw[hg]at har;refine⟨.agg c1.toArray,?_,Bn (TQ aK) aK (by rw[Axd,hg];rfl)⟩;have AlU:List.take u'.size (List.drop fo cs)=c1:=by
    rw[qd,e,AG3,List.drop_left,<-R9,List.take_left]
   simp[Instr.field,underlying,Axg,hfd,asAgg,part,har,hsr,h2,AlU]
  |false =>
   rw[hg]at har;have VW:u'.size=1:=Rf hg;obtain⟨y,hy⟩:∃y,c1=[y]:=by
    cases c1 with
    |nil=>rw[VW]at R9;cases R9
    |cons y r=>cases r with
     |nil=>exact⟨y,rfl⟩
     |cons _ _=>rw[VW]at R9;simp at R9
   subst hy;refine⟨y,?_,Bn (TQ aK) aK (by rw[Axd,hg];rfl)⟩;have Td:cs[fo]?=some y:=by
    rw[qd,e,AG3,AHh (AG1 _),Nat.sub_self];rfl
   simp[Instr.field,underlying,Axg,hfd,asAgg,part,har,h2,Td]
theorem Z7{t:TypeId}{w:World}{ti te:TI}(ht:EA P t ti)(D1:EA P ti.elem te)(hn:ti.Gs≠0){kk:IntKind}{j:Int}(h0:0<=j)(h1:j<(ti.Gs:Int))(b f:Nat) :
    (Instr.indexAt t (.pointer (some ⟨b,f,none⟩)) (.int kk j)).run P w=.ok (.pointer (some ⟨b,f+j.toNat*te.ty.size,none⟩)) w:=by
 have hu:=ht.Gs hn;simp[Instr.indexAt,asIntOf,run_underlying hu,Instr.sureAddr,h0,h1,Dn D1,WV]
theorem ZM{t:TypeId}{x i:Operand}(ho:o.op=.indexAddr t x i){ti te:TI}(ht:EA P t ti)(D1:EA P ti.elem te)(hn:ti.Gs≠0){ks:List Nat}{kk:IntKind}{j:Int}(hi:σ.B5 i=.AA ks (.int kk) j)
    (h0:0<=j) (h1:j<(ti.Gs:Int)) {v:AV}
    (hv : (match σ.B5 x with
          |.ptr k q p f=>some (.ptr k q (p++[j.toNat]) (f+j.toNat*te.ty.size))
          |.Eh ks t' y=>if R3 t' j.toNat=some (j.toNat*te.ty.size)then match Ud ks t' y j.toNat with |some (.AA _ u z)=>some (.Eh ks u z)|_=>none else none
          |_=>none)=some v):MP P σ o ⟨v,σ.Am,[]⟩ :=
 .H9 <| KP (s:=λρ=>Instr.indexAt t (ρ x) (ρ i)) (λρ=>by simp[execOp,ho]) λa w g BH=>by
  have hix:=AO BH i;rw[hi]at hix;have hie:=Dc hix;have Vl:=AO BH x;rw[hie];split at hv
  ·rename_i k q p f hq;injection hv with hv;subst hv;rw[hq]at Vl;obtain⟨hk,g0,g1,b,hb,e⟩:=KA Vl;rw[e];refine⟨_,Z7 ht D1 hn h0 h1 b _,?_⟩;rw[Nat.add_assoc];exact ZA hk g0 g1 hb
  ·rename_i ks t' y hq;rw[hq]at Vl;split at hv
   ·rename_i MS;split at hv
    ·rename_i Ta u z hz;injection hv with hv;subst hv;obtain⟨hk,b,off,ds,e0,ha,hr,hc⟩:=Wq Vl;obtain⟨c0,c1,c2,e,qd,_,⟨u',y',heq,Z3⟩,_⟩:=WB (g:=g) hk _ _ y ds _ hr hz;injection heq with _ h2 h3;subst h2;obtain rfl:=eq_of_heq h3;rw[MS]at qd;injection qd with qd;rw[e0];refine⟨_,Z7 ht D1 hn h0 h1 b off,ZB hk ha Z3 λq' u fG=>?_⟩;rw[Nat.add_assoc];refine hc _ u ?_;rw[e,AG3,AHh (by omega),show j.toNat*te.ty.size+q'-c0.length=q' by omega,AHi (AP fG)];exact fG
    ·cases hv
   ·cases hv
  ·cases hv
end
def G.add(g:G)(n b:Nat)(i:BI):G:=⟨λq=>if q=b then .BG n []else g.own q,λk=>if k=n then i else g.AU k⟩
def G.Rj(g:G)(rs:List Nat):G:=⟨λq=>match g.own q with |.BG j r=>if j∈rs then .H8 else .BG j r |t=>t,g.AU⟩
section
variable {w:World} {g:G} {bs:List Blk}
theorem Rv(H:Bc w g bs){b:Nat}(h:g.own b≠.no):b<w.heap.size:=by
 rcases AG6 b w.heap.size with h' |h'
 ·exact h'
 ·exact(h (H.BN b h')).elim
theorem Step.add(H:Bc w g bs)(o:Obj)(i:BI):Step [] bs.length w g (w.alloc o) (g.add bs.length w.heap.size i) where
 os:=rfl
 tape:=rfl
 output:=rfl
 size:=by show w.heap.size<=(w.heap.push o).size;simp
 no b hb h:=by
  refine⟨by simp[G.add,h,Nat.ne_of_lt hb],heap_alloc_old w o b hb⟩
 H8 b h:=by
  have hb:=Rv H (b:=b) (by rw[h];simp);exact⟨by simp[G.add,h,Nat.ne_of_lt hb],heap_alloc_old w o b hb⟩
 BG b k p h hk _:=by
  have hb:=Rv H (b:=b) (by rw[h];simp);exact⟨by simp[G.add,h,Nat.ne_of_lt hb],heap_alloc_old w o b hb⟩
 AU k hk:=by simp[G.add,Nat.ne_of_lt hk]
theorem vK(H:Bc w g bs)(o:Obj)(i:BI):∀b,(w.alloc o).heap.size<=b->(g.add bs.length w.heap.size i).own b=.no:=by
 intro b hb;have Ks:(w.alloc o).heap.size=w.heap.size+1:=by show(w.heap.push o).size=_;simp
 have p9:w.heap.size+1<=b:=by omega
 have:b≠w.heap.size:=by omega
 simp[G.add,this,H.BN b (by omega)]
theorem Bc.new(H:Bc w g bs){o:Obj}{i:BI}{b:Blk}(hb:LP (w.alloc o) (g.add bs.length w.heap.size i) (bs.length+1) bs.length b):Bc (w.alloc o) (g.add bs.length w.heap.size i) (bs++[b]) :=
 H.push (Step.add H o i) (vK H o i) hb
theorem Step.Rj(rs:List Nat)(n:Nat)(w:World)(g:G):Step rs n w g w (g.Rj rs) where
 os:=rfl
 tape:=rfl
 output:=rfl
 size:=AG1 _
 no b _ h:=⟨by simp[G.Rj,h],rfl⟩
 H8 b h:=⟨by simp[G.Rj,h],rfl⟩
 BG b k p h _ hm:=⟨by simp[G.Rj,h,hm],rfl⟩
 AU _ _:=rfl
theorem Bc.XW{w':World}{g':G}{Bw:List Nat}{Gt:List Blk}(H:Bc w g bs)(s:Step Bw bs.length w g w' g')(hf:∀b,w'.heap.size<=b->g'.own b=.no)(hl:bs.length<=Gt.length)
    (hb:∀(j:Nat) (x:Blk),Gt[j]?=some x->x=.AH\/(j∉Bw/\∃y,bs[j]?=some y/\x=y.drop λk=>Bw.contains k)\/LP w' g' Gt.length j x):Bc w' g' Gt :=
 ⟨hf,λj x hx=>by
  rcases hb j x hx with h |⟨hm,y,hy,rfl⟩|h
  ·subst h;trivial
  ·exact(H.Lf j y hy).step s hl (AP hy) hm
  ·exact h⟩
theorem C4{Bw:List Nat}{bs:List Blk}{i:Nat}{x:Blk}(h:(A8 Bw bs)[i]?=some x):∃y,bs[i]?=some y/\x=y.drop λk=>Bw.contains k:=by
 unfold A8 at h;split at h
 ·exact⟨x,h,by rw[show(λk=>([]:List Nat).contains k)=λ_=>false from funext λ_=>rfl,Yb]⟩
 ·rw[AHo]at h;cases hs:bs[i]? with
  |none=>rw[hs]at h;cases h
  |some y=>rw[hs]at h;injection h with h;exact⟨y,rfl,h.symm⟩
theorem Ay(Bw:List Nat)(bs:List Blk):(A8 Bw bs).length=bs.length:=by unfold A8;split<;>simp
theorem A3:∀(rs:List Nat) (bs:List Blk),(Blk.Gg bs rs).length=bs.length
 |[],_=>rfl
 |k::r,bs=>by rw[Blk.Gg,A3 r,AG4]
theorem J6:∀{rs:List Nat} {bs:List Blk} {j:Nat} {x:Blk},(Blk.Gg bs rs)[j]?=some x->x=.AH\/(j∉rs/\bs[j]?=some x)
 |[],_,_,_,h=>.inr ⟨by simp,h⟩
 |k::r,bs,j,x,h=>by
  rcases J6 (rs:=r) h with h' |⟨h1,h2⟩
  ·exact .inl h'
  ·rw[AHk]at h2;split at h2
   ·split at h2
    ·injection h2 with h2;exact .inl h2.symm
    ·cases h2
   ·rename_i I8;exact .inr ⟨by simp;exact⟨λe=>I8 e.symm,h1⟩,h2⟩
end
section
variable {P:Program} {σ:St} {o:Oper} {en:Bd} {e:G2}
theorem eB{x:AV}{el:TypeId}{f:Act->Value}(ho:∀a:Act,∀w:World,∀g:G,JZ w g σ a->(execOp a.eval o).run P w=.ok (.value (.pointer (some ⟨w.heap.size,0,none⟩))) (w.alloc (.cells (f a).cells el))/\∃cs,Cq w g σ.Am.length false x cs/\(f a).cells=cs.toArray) :
    MP P σ o ⟨.ptr σ.Am.length 0 [] 0,σ.Am++[.box x],[]⟩ where
 grow:=by simp
 ext _:=⟨_,rfl⟩
 wp a w g hs next Q hn:=by
  obtain⟨hr,cs,RN,hc⟩:=ho a w g hs;unfold Oper.wp;rw[hr];have st:=Step.add hs.heap (.cells (f a).cells el) ⟨some ⟨w.heap.size,0,none⟩,1,1,0⟩;refine hn _ _ (g.add σ.Am.length w.heap.size ⟨some ⟨w.heap.size,0,none⟩,1,1,0⟩) (hs.heap.new ?_) ?_ st
  ·refine⟨by simp[G.add],w.heap.size,(f a).cells,el,by simp[G.add],by simp[G.add],heap_alloc_new w _,?_⟩;have e1:(f a).cells.toList=cs:=by rw[hc]
   rw[e1];exact RN.PW st (AHw _)
  ·have:=ZA (w:=w.alloc (.cells (f a).cells el)) (g:=g.add σ.Am.length w.heap.size ⟨some ⟨w.heap.size,0,none⟩,1,1,0⟩) (n:=(σ.Am++[Blk.box x]).length) (k:=σ.Am.length) (i:=0) (p:=[]) (o:=0) (b:=w.heap.size)
     (by simp) (Int.le_refl _) (by simp[G.add]) (by simp[G.add])
   simpa using this
theorem AfZ{el:TypeId}{x:Operand}(ho:o.op=.box el x)(ht:(σ.B5 x).Y0=true):MP P σ o ⟨.ptr σ.Am.length 0 [] 0,σ.Am++[.box (σ.B5 x)],[]⟩ :=
 eB (el:=el) (f:=λa=>a.eval x) λa w g hs=>by
  obtain⟨h1,h2⟩:=sJ ht;obtain⟨cs,RN,hv⟩:=BO h2 h1 (AO hs x);exact⟨by simp[execOp,ho,Instr.box,newVar,newRow],cs,RN,X7 hv RN.one⟩
theorem wY{el:TypeId}(ho:o.op=.alloc el){ti:TI}(ht:EA P el ti):MP P σ o ⟨.ptr σ.Am.length 0 [] 0,σ.Am++[.box ti.ty.Xi],[]⟩:=by
 obtain⟨i,z,hi,_,_,hz,hc,_⟩:=ht.info;refine eB (el:=el) (f:=λ_=>z) λa w g hs=>⟨?_,PY ti.ty,Wl,by rw[<-hc]⟩;simp[execOp,ho,Instr.alloc,zeroValue,typeInfo,hi,hz,newVar,newRow]
theorem Zy(z:Array Value){s l c:Nat}(hs:z.size=s)(h0:0<s)(hl:l<=c):(madeCells z (c*s)).toList.take (l*s)=(List.replicate l (Value.agg z)).flatMap λv=>v.cells.toList:=by
 apply List.ext_getElem?;intro k;rw[Great.flat_get h0 _ (λv hv=>by rw[List.eq_of_mem_replicate hv];exact hs),List.getElem?_take];have hm:l*s<=c*s:=Nat.mul_le_mul_right s hl;by_cases hk:k<l*s
 ·have hd:k/s<l:=(Nat.div_lt_iff_lt_mul h0).2 hk;have hr:k%s<s:=Nat.mod_lt _ h0;rw[AHd hk,List.getElem?_replicate,AHd hd];have TV:k<(madeCells z (c*s)).toList.length:=by simp[madeCells];omega
  rw[List.getElem?_eq_getElem TV];have hr':k%s<z.size:=by omega
  simp only[madeCells,Value.cells,hs];simp;rw[Array.getElem?_eq_getElem hr',getElem!_pos z _ hr']
 ·have hd:¬k/s<l:=λh=>hk ((Nat.div_lt_iff_lt_mul h0).1 h);rw[AHe hk,List.getElem?_replicate,AHe hd];rfl
theorem WL{α:Type}{I:Nat->α->List Value->Prop}{x:α}{v:Value}(h:∀i,I i x v.cells.toList):∀(l i:Nat),Be I i (List.replicate l x) ((List.replicate l v).flatMap λv=>v.cells.toList)
 |0,_=>rfl
 |l+1,i=>by
  rw[List.replicate_succ,List.replicate_succ,List.flatMap_cons];exact⟨_,_,rfl,h i,WL h l (i+1)⟩
theorem dX{t:Ty}(h:t.row=true):t.data=true/\0<t.size:=by
 simp only[Ty.row,AG2,bne_iff_ne]at h;exact⟨h.1,Nat.pos_of_ne_zero h.2⟩
theorem jg{w:World}{own:Nat->Sf}{k:Nat}{t:Ty}(h:t.data=true){v:Value}(hv:v.cells.toList=PY t)(l:Nat)(fi:FI) :
    mb w own k (fi.mode t) t (List.replicate l t.zero) ((List.replicate l v).flatMap λv=>v.cells.toList):=by
 unfold FI.mode;split
 ·exact WL (λi=>by rw[hv];exact I7.zero h) l 0
 ·exact HB.2 (WL (I:=λ_=>G1 w (Al own []) t) (λi=>by rw[hv];exact G1.zero h) l 0)
theorem SI(fi:FI)(t:Ty):(fi.mode t).Cf=[]:=by unfold FI.mode;split<;>rfl
theorem Axp{l c:Int}(h0:0<=l)(h:l<=c)(hm:c<=9223372036854775807):l.toNat<=c.toNat/\c.toNat<=maxLen:=by
 simp only[maxLen];omega
theorem Ac1{t:TypeId}{l c:Operand}(ho:o.op=.makeSlice t l c){fi:FI}{ti te:TI}(ht:EA P t ti)(D1:EA P ti.elem te)(Iz:ti.D4=true)
    (h:iA fi σ.Am ti.elem te (σ.B5 l) (σ.B5 c) some=some e):MP P σ o e:=by
 unfold iA at h;split at h
 ·rename_i x1 x2 ks1 k1 lv ks2 k2 cv hl hc;split at h
  ·rename_i hg;obtain⟨Od,h0,hlc,lU,oe⟩:=hg;injection h with h;subst h;obtain⟨dc,BF⟩:=dX Od;obtain⟨i,z,hi,Ks,hbs,hz,ib,_⟩:=D1.info;refine⟨by simp,λ_=>⟨_,rfl⟩,λa w g hs next Q hn=>?_⟩
   have e1:=AO hs l;rw[hl]at e1;have e1:=Dc e1;have e2:=AO hs c;rw[hc]at e2;have e2:=Dc e2;have hr:=run_make (P:=P) w t ti.elem i z (BB ht Iz) hi hz k1 k2 lv cv h0 hlc (by rw[hbs];exact lU) oe;unfold Oper.wp;simp only[execOp,ho,e1,e2,Sem.run_bind,hr,Result.andThen_ok];obtain⟨S8,hcm⟩:=Axp h0 hlc oe;have st:=Step.add hs.heap (.cells (madeCells z.cells (cv.toNat*i.size)) ti.elem) ⟨some ⟨w.heap.size,0,none⟩,lv.toNat,cv.toNat,te.ty.size⟩;refine hn _ _ _ (hs.heap.new ?_) ?_ st
   ·refine⟨(by rw[SI];intro j hj;cases hj),by simp[G.add],by simp[G.add],BF,.inr ⟨w.heap.size,_,_,by simp[G.add],by simp[G.add],⟨_,.inr rfl,heap_alloc_new w _⟩,by simpa [G.add]using S8,by simpa [G.add]using hcm,by simp[G.add,size_madeCells,Ks],rfl,?_⟩⟩;rw[AHs,Ks];rw[Zy z.cells (by rw[<-Array.length_toList,ib,QI]) BF S8];exact jg dc (by show z.cells.toList=_;exact ib) _ fi
   ·refine Bn (cs:=[_]) rfl ⟨by simp,rfl⟩ ?_;simp[Bv,AV.isAgg,G.add]
  ·cases h
 ·cases h
end
def G.Tb(g:G)(f:Nat->List Nat->Sf)(ob:Option Nat)(n:Nat)(i:BI):G :=
 ⟨λq=>if ob=some q then .BG n []else match g.own q with |.BG j r=>f j r |t=>t,λk=>if k=n then i else g.AU k⟩
section
variable {w w':World} {g:G} {bs:List Blk} {f:Nat->List Nat->Sf} {ob:Option Nat} {n N:Nat} {i:BI} {Bw:List Nat}
theorem Step.Tb(fr:∀b,w.heap.size<=b->g.own b=.no)(hos:w'.os=w.os)(hta:w'.tape=w.tape)(hou:w'.output=w.output)(Ks:w.heap.size<=w'.heap.size)
    (Tm:∀q,q<w.heap.size->(∀k p,g.own q=.BG k p->k∉Bw)->w'.heap[q]?=w.heap[q]?) (rF:∀q,ob=some q->w.heap.size<=q) (hN:n<=N) (hf:∀j r,j<n->j∉Bw->f j r=.BG j r) :
    Step Bw n w g w' (g.Tb f ob N i):=by
 have lt:∀b,g.own b≠.no->b<w.heap.size:=λb h=>by
  rcases AG6 b w.heap.size with h' |h'
  ·exact h'
  ·exact(h (fr b h')).elim
 have nob:∀b,b<w.heap.size->¬(ob=some b):=λb hb e=>by have:=rF b e;omega
 refine⟨hos,hta,hou,Ks,λb hb h=>⟨?_,Tm b hb λk p e=>?_⟩,λb h=>⟨?_,Tm b (lt b (by rw[h];simp)) λk p e=>?_⟩,λb k p h hk hm=>⟨?_,Tm b (lt b (by rw[h];simp)) λk' p' e=>?_⟩,λk hk=>?_⟩
 ·simp[G.Tb,nob b hb,h]
 ·rw[h]at e;cases e
 ·simp[G.Tb,nob b (lt b (by rw[h];simp)),h]
 ·rw[h]at e;cases e
 ·simp[G.Tb,nob b (lt b (by rw[h];simp)),h,hf k p hk hm]
 ·rw[h]at e;injection e with e;subst e;exact hm
 ·have:k≠N:=by omega
  simp[G.Tb,this]
theorem LV(fr:∀b,w.heap.size<=b->g.own b=.no)(Ks:w.heap.size<=w'.heap.size)(rF:∀q,ob=some q->q<w'.heap.size):∀b,w'.heap.size<=b->(g.Tb f ob N i).own b=.no:=by
 intro b hb;have h1:¬(ob=some b):=λe=>by have:=rF b e;omega
 simp[G.Tb,h1,fr b (AHp Ks hb)]
end
def J9:AV->List Nat->List (Nat×List Nat)
 |.Ak k,p=>[(k,p)]
 |.pr a b,p=>J9 a (0::p)++J9 b (1::p)
 |_,_=>[]
theorem F5:∀(a:AV) (p:List Nat),(J9 a p).map (·.1)=a.P4
 |.Ak k,_=>rfl
 |.mp _,_=>rfl
 |.pr a b,p=>by simp[J9,AV.P4,F5 a,F5 b]
 |.AA _ _ _,_=>rfl
 |.zs,_=>rfl
 |.ptr _ _ _ _,_=>rfl
 |.Eh _ _ _,_=>rfl
 |.Lw,_=>rfl
 |.fn _ _,_=>rfl
 |.cons _ _,_=>rfl
 |.nil,_=>rfl
 |.R1 _ _ _ _ _,_=>rfl
 |.TR _ _ _ _ _ _,_=>rfl
 |.un _,_=>rfl
def dF:List (Nat×List Nat)->Nat->Option (List Nat)
 |[],_=>none
 |(k,p)::r,j=>if k=j then some p else dF r j
theorem Yz:∀{M:List (Nat×List Nat)},nodup (M.map (·.1))=true->∀{j p},(j,p)∈M->dF M j=some p
 |(k,q)::r,hn,j,p,h=>by
  simp only[List.map_cons,nodup,AG2,Bool.not_eq_true']at hn;simp only[dF];rcases List.mem_cons.1 h with h |h
  ·injection h with h1 h2;subst h1;subst h2;simp
  ·split
   ·rename_i e;subst e;have:k∈r.map (·.1):=List.mem_map.2 ⟨_,h,rfl⟩;simp at hn this;obtain⟨x,hx⟩:=this;exact(hn.1 x hx).elim
   ·exact Yz hn.2 h
theorem Sc:∀{M:List (Nat×List Nat)} {j:Nat},j∉M.map (·.1)->dF M j=none
 |[],_,_=>rfl
 |(k,q)::r,j,h=>by
  simp only[List.map_cons,List.mem_cons,not_or]at h;simp only[dF,AHe (Ne.symm h.1)];exact Sc h.2
section
variable {w:World} {g:G} {bs:List Blk}
theorem xn(H:Bc w g bs){MZ:Nat->Sf}{k:Nat}:∀(t:Ty) (v:AV) (y:t.V) (cs:List Value) (p:List Nat),rd bs t v=some y->v.VR=true->(∀j∈v.P4,YM bs j=some .Ai) ->
    (∀jq∈J9 v p,∀b q,g.own b=.BG jq.1 q->MZ b=.BG k (q++jq.2))->Cq w g bs.length false v cs->I7 w MZ k t p y cs:=by
 have plain:∀(t:Ty) (ks:List Nat) (u:Ty) (y:u.V) (x:t.V) (cs:List Value) (p:List Nat),Iw u t y=some x->u.BD=true->Cq w g bs.length false (.AA ks u y) cs->I7 w MZ k t p x cs:=by
  intro t ks u y x cs p h hf hx;obtain⟨e,he⟩:=BA h;subst e;simp only at he;subst he;exact(I7.BD hf).2 ((G1.BD hf).1 hx.2)
 intro t;induction t with
 |Au a b iha ihb =>
  intro v y cs p h hf hd hm hx;simp only[rd]at h;split at h
  ·exact plain _ _ _ _ _ _ _ h (by simpa [AV.VR]using hf) hx
  ·rename_i u z;split at h
   ·rename_i y1 y2 h1 h2;injection h with h;subst h;obtain⟨c,d,e,aK,ow⟩:=hx;simp only[AV.VR,AG2]at hf;exact⟨c,d,e,iha u y1 c _ h1 hf.1 (λj hj=>hd j (by simp[AV.P4,hj])) (λjq hj=>hm jq (by simp[J9,hj])) aK,
     ihb z y2 d _ h2 hf.2 (λj hj=>hd j (by simp[AV.P4,hj])) (λjq hj=>hm jq (by simp[J9,hj])) ow⟩
   ·cases h
  ·cases h
 |sl t _ =>
  intro v y cs p h hf hd hm hx;simp only[rd]at h;split at h
  ·exact plain _ _ _ _ _ _ _ h (by simpa [AV.VR]using hf) hx
  ·injection h with h;subst h;obtain⟨ad,e⟩:=hx;exact⟨ad,0,e,.inl ⟨rfl,rfl⟩⟩
  ·rename_i j;split at h
   ·rename_i el m u ys hb;obtain⟨e',he⟩:=BA h;injection e' with e';subst e';simp only at he;subst he;obtain⟨hk,hc⟩:=hx;have AgE:=hd j (by simp[AV.P4]);simp only[YM,hb,AGX]at AgE;subst AgE;obtain⟨_,hlen,OU,BF,hr⟩:=H.Lf j _ hb;have hmj:=hm (j,p) (by simp[J9]);rw[hlen]at hc;refine⟨_,_,hc,hr.imp id λ⟨b,Bs,ds,ha,Ce,⟨el,_,hh⟩,h1,h2,h3,h4,OT⟩=>⟨b,el,Bs,ds,ha,by simpa using hmj b [] Ce,hh,h1,h2,h3,h4,?_⟩⟩;exact Be.mono (λi x c r=>r.mono λb q hb=>⟨by simpa using hmj b _ hb,rfl⟩) OT
   ·cases h
  ·cases h
 |_ =>
  intro v y cs p h hf hd hm hx;simp only[rd]at h;split at h
  ·exact plain _ _ _ _ _ _ _ h (by simpa [AV.VR]using hf) hx
  ·cases h
theorem XK:∀(v:AV) (j:Nat),j∈v.RY bs->j∈v.P4\/j∈v.aC\/∃r∈v.P4,∃l,YM bs r=some (.sh l)/\j∈l
 |.AA ks _ _,j,h=>.inr (.inl h)
 |.Ak k,j,h=>by
  simp only[AV.RY]at h;rcases List.mem_cons.1 h with h |h
  ·exact .inl (by simp[AV.P4,h])
  ·cases hm:YM bs k with
   |none=>rw[hm]at h;cases h
   |some m =>
    rw[hm]at h;cases m with
    |Ai=>cases h
    |sh l=>exact .inr (.inr ⟨k,by simp[AV.P4],l,hm,h⟩)
 |.pr a b,j,h=>by
  simp only[AV.RY]at h;rcases List.mem_append.1 h with h |h
  ·rcases XK a j h with h |h |⟨r,h,l,hl⟩
   ·exact .inl (by simp[AV.P4,h])
   ·exact .inr (.inl (by simp[AV.aC,h]))
   ·exact .inr (.inr ⟨r,by simp[AV.P4,h],l,hl⟩)
  ·rcases XK b j h with h |h |⟨r,h,l,hl⟩
   ·exact .inl (by simp[AV.P4,h])
   ·exact .inr (.inl (by simp[AV.aC,h]))
   ·exact .inr (.inr ⟨r,by simp[AV.P4,h],l,hl⟩)
 |.zs,_,h=>by cases h
 |.ptr _ _ _ _,_,h=>by cases h
 |.Eh _ _ _,_,h=>by cases h
 |.Lw,_,h=>by cases h
 |.fn _ _,_,h=>by cases h
 |.cons _ _,_,h=>by cases h
 |.nil,_,h=>by cases h
 |.R1 _ _ _ _ _,_,h=>by cases h
 |.TR _ _ _ _ _ _,_,h=>by cases h
 |.mp _,_,h=>by cases h
 |.un _,_,h=>by cases h
end
theorem M7{Vd:Nat->Bool}:∀{a:AV},(∀k∈a.Cf,Vd k=false)->a.drop Vd=a
 |.AA ks t x,h=>by
  simp only[AV.drop];rw[AHe];intro hc;obtain⟨k,hk,hb⟩:=List.any_eq_true.1 hc;rw[h k hk]at hb;cases hb
 |.Eh ks t x,h=>by
  simp only[AV.drop];rw[AHe];intro hc;obtain⟨k,hk,hb⟩:=List.any_eq_true.1 hc;rw[h k hk]at hb;cases hb
 |.pr a b,h=>by
  simp only[AV.drop];rw[M7 λk hk=>h k (by simp[AV.Cf,hk]),M7 λk hk=>h k (by simp[AV.Cf,hk])]
 |.fn g c,h=>by
  simp only[AV.drop];rw[M7 λk hk=>h k (by simpa [AV.Cf]using hk)]
 |.cons a b,h=>by
  simp only[AV.drop];rw[M7 λk hk=>h k (by simp[AV.Cf,hk]),M7 λk hk=>h k (by simp[AV.Cf,hk])]
 |.zs,_=>rfl
 |.Ak _,_=>rfl
 |.mp _,_=>rfl
 |.ptr _ _ _ _,_=>rfl
 |.Lw,_=>rfl
 |.nil,_=>rfl
 |.R1 k i p o e,h=>by simp[AV.drop,h k (by simp[AV.Cf])]
 |.TR k i p o j u,h=>by simp[AV.drop,h k (by simp[AV.Cf])]
 |.un _,_=>rfl
theorem Dm{w:World}{own:Nat->Sf}{k:Nat}{m:RM}{t:Ty}{xs:List t.V}{ds:List Value}:mb w own k m t xs ds↔Be (RR w own k m t) 0 xs ds:=by
 cases m with
 |Ai=>exact Iff.rfl
 |sh ks=>exact HB
theorem RR.len{w:World}{own:Nat->Sf}{k:Nat}{m:RM}{t:Ty}{i:Nat}{x:t.V}{cs:List Value}(h:RR w own k m t i x cs):cs.length=t.size:=by
 cases m with
 |Ai=>exact I7.len h
 |sh ks=>exact G1.len h
open Classical in
theorem RR.on{w w':World}{own MZ:Nat->Sf}{k k':Nat}{m m':RM}{t:Ty}{i i':Nat}{x:t.V}{cs:List Value}(h:RR w own k m t i x cs)
    (hm:match m,m' with
     |.Ai,.Ai=>∀b q,own b=.BG k (q++[i])->MZ b=.BG k' (q++[i'])/\w'.heap[b]?=w.heap[b]?
     |.sh ks,.sh Ta=>∀b,Al own ks b->Al MZ Ta b/\w'.heap[b]?=w.heap[b]?
     |.Ai,.sh Ta=>∀b q,own b=.BG k (q++[i])->Al MZ Ta b/\w'.heap[b]?=w.heap[b]?
     |.sh _,.Ai=>False):RR w' MZ k' m' t i' x cs:=by
 cases m with
 |Ai=>cases m' with
  |Ai=>exact I7.mono (p:=[i]) (p':=[i']) hm h
  |sh Ta =>
   have h1:I7 w' (λb=>if(∃q,own b=.BG k (q++[i]))then own b else .no) k t [i] x cs :=
    I7.mono (p:=[i]) (p':=[i]) (λb q hb=>⟨by rw[AHd ⟨q,hb⟩];exact hb,(hm b q hb).2⟩) h
   exact I7.rd (λb q hb=>by
    split at hb
    ·rename_i hq;obtain⟨q',hq⟩:=hq;exact(hm b q' hq).1
    ·cases hb) h1
 |sh ks=>cases m' with
  |Ai=>exact hm.elim
  |sh Ta=>exact G1.mono hm h
def Ag7(bs:List Blk)(v:AV):List Nat:=v.P4.flatMap (λk=>match YM bs k with |some (.sh l)=>l |_=>[])
theorem OQ{bs:List Blk}{m m':RM}{t:Ty}{v:AV}{y:t.V}{rs:List Nat}(h:take bs m t v=some (y,m',rs)):rd bs t v=some y/\rs=v.P4/\nodup v.P4=true /\
    ((m=.Ai/\m'=.Ai/\v.VR=true/\∀j∈v.P4,YM bs j=some .Ai)\/∃ks,m=.sh ks/\m'=.sh (ks++v.aC++Ag7 bs v)):=by
 unfold take at h;split at h
 ·cases h
 ·rename_i y' hy
  dsimp only at h
  split at h
  ·split at h
   ·rename_i hc;simp only[AG2]at hc;simp only[AGX,AG8]at h;obtain⟨rfl,rfl,rfl⟩:=h;refine⟨hy,rfl,hc.1.2,.inl ⟨rfl,rfl,hc.1.1,λj hj=>?_⟩⟩;have:=List.all_eq_true.1 hc.2 j hj;split at this
    ·assumption
    ·cases this
   ·cases h
  ·split at h
   ·rename_i hc;simp only[AG2]at hc;simp only[AGX,AG8]at h;obtain⟨rfl,rfl,rfl⟩:=h;exact⟨hy,rfl,hc.1,.inr ⟨_,rfl,rfl⟩⟩
   ·cases h
theorem AcL{w:World}{g:G}{bs:List Blk}(H:Bc w g bs){v:AV}:∀j∈Ag7 bs v,j<bs.length:=by
 intro j hj;obtain⟨r,_,hr⟩:=List.mem_flatMap.1 hj;split at hr
 ·rename_i l hl;unfold YM at hl;split at hl
  ·rename_i e m t xs hb;injection hl with hl;subst hl;exact(H.Lf r _ hb).1 j hr
  ·cases hl
 ·cases hr
theorem lB{w:World}{g:G}{bs:List Blk}(H:Bc w g bs){m m':RM}{t:Ty}{v:AV}{y:t.V}{rs:List Nat}{cs:List Value}(h:take bs m t v=some (y,m',rs))(hx:Cq w g bs.length false v cs)(hm:∀j∈m.Cf,j<bs.length):∀j∈m'.Cf,j<bs.length:=by
 obtain⟨_,_,_,hc⟩:=OQ h;rcases hc with ⟨rfl,rfl,_⟩|⟨ks,rfl,rfl⟩
 ·exact hm
 ·intro j hj;rcases List.mem_append.1 hj with hj |hj
  ·rcases List.mem_append.1 hj with hj |hj
   ·exact hm j hj
   ·exact hx.scope j hj
  ·exact AcL H j hj
theorem YT{bs:List Blk}{m m':RM}{t:Ty}{v:AV}{y:t.V}{rs:List Nat}(h:take bs m t v=some (y,m',rs)):(∀j∈m.Cf,j∈m'.Cf)/\(m=.Ai↔m'=.Ai):=by
 obtain⟨_,_,_,hc⟩:=OQ h;rcases hc with ⟨rfl,rfl,_⟩|⟨ks,rfl,rfl⟩
 ·exact⟨λ_ h=>h,Iff.rfl⟩
 ·exact⟨λj hj=>AHt _ (AHt _ hj),by simp⟩
theorem Un{ks:List Nat}{m:RM}(h:fU ks m=true):∀j∈m.Cf,j∉ks:=λj hj=>by
 have:=List.all_eq_true.1 h j hj;simpa using this
def Ut(m:RM)(k:Nat)(M:List (Nat×List Nat))(j:Nat)(r:List Nat):Sf :=
 match dF M j with
 |none=>.BG j r
 |some path=>match m with |.Ai=>.BG k (r++path)|.sh _=>.H8
theorem Ou{m:RM}{k:Nat}{M:List (Nat×List Nat)}{j:Nat}{r:List Nat}(h:j∉M.map (·.1)):Ut m k M j r=.BG j r:=by simp[Ut,Sc h]
def InR(w:World)(own:Nat->Sf)(k:Nat):RM->(t:Ty)->List Nat->t.V->List Value->Prop
 |.Ai,t,L,x,cs=>I7 w own k t L x cs
 |.sh ks,t,_,x,cs=>G1 w (Al own ks) t x cs
theorem AfY{w:World}{own:Nat->Sf}{k:Nat}{m:RM}{u:Ty}{y:u.V}{p:List Nat}{t:Ty}{i:Nat}{x x':t.V}{cs:List Value}{o:Nat}(hs:Re u y p t x=some x')(ho:KO t p=some o)(h:RR w own k m t i x cs) :
    ∃c0 c1 c2,cs=c0++c1++c2/\c0.length=o/\c1.length=u.size/\∀Rl,InR w own k m u (Sw p [i]) y Rl->RR w own k m t i x' (c0++Rl++c2):=by
 cases m with
 |Ai=>exact WN (Ag2 w own k) u y p t [i] x x' cs o hs ho h
 |sh ks=>exact WN (Axs w (Al own ks)) u y p t [i] x x' cs o hs ho h
theorem lA{w w':World}{g:G}{bs:List Blk}(H:Bc w g bs){m m':RM}{t:Ty}{v:AV}{y:t.V}{rs:List Nat}{cs:List Value}(h:take bs m t v=some (y,m',rs))(hx:Cq w g bs.length false v cs){k:Nat}{M:List (Nat×List Nat)}{L:List Nat}{MZ:Nat->Sf}{m'':RM}
    (hM:∀jq∈J9 v L,dF M jq.1=some jq.2) (P1:∀j∈m'.Cf,j∈m''.Cf) (MS:∀j∈m''.Cf,dF M j=none) (aE:m=.Ai↔m''=.Ai)
    (Ce:∀b j r,g.own b=.BG j r->(j∈M.map (·.1)\/j∈m''.Cf)->MZ b=Ut m k M j r) (de:∀b,g.own b=.H8->MZ b=.H8)
    (Abl:∀b,g.own b=.H8\/(∃j r,g.own b=.BG j r/\(j∈M.map (·.1)\/j∈m''.Cf))->w'.heap[b]?=w.heap[b]?):InR w' MZ k m'' t L y cs:=by
 obtain⟨hy,rfl,hn,hc⟩:=OQ h;have Ab2:∀j p,dF M j=some p->j∈M.map (·.1):=λj p hj=>Classical.byContradiction λhn=>by rw[Sc hn]at hj;cases hj
 have Axt:∀j∈v.P4,∃p,dF M j=some p:=λj hj=>by
  rw[<-F5 v L]at hj;obtain⟨jq,hjq,rfl⟩:=List.mem_map.1 hj;exact⟨_,hM jq hjq⟩
 rcases hc with ⟨rfl,rfl,hf,hd⟩|⟨ks,rfl,rfl⟩
 ·obtain rfl:=aE.1 rfl;have h1:I7 w (λb=>match g.own b with |.BG j r=>(match dF M j with |some p=>.BG k (r++p)|none=>.no)|_=>.no) k t L y cs :=
   xn H t v y cs L hy hf hd (λjq hj b q hb=>by simp[hb,hM jq hj]) hx
  refine I7.mono (p:=L) (p':=L) (λb q hb=>?_) h1;split at hb
  ·rename_i j r hj;split at hb
   ·rename_i p hp;have hm:=Ab2 j p hp;refine⟨?_,Abl b (.inr ⟨j,r,hj,.inl hm⟩)⟩;rw[Ce b j r hj (.inl hm)];simp only[Ut,hp];exact hb
   ·cases hb
  ·cases hb
 ·obtain ⟨Amt,rfl⟩:∃l,m''=.sh l:=by
    cases m'' with
    |Ai=>have:=aE.2 rfl;cases this
    |sh l=>exact⟨l,rfl⟩
  have key:∀b j q,g.own b=.BG j q->(j∈v.P4\/j∈Amt)->Al MZ Amt b:=by
   intro b j q hb hj;rcases hj with hj |hj
   ·obtain⟨p,hp⟩:=Axt j hj;exact .inl (by rw[Ce b j q hb (.inl (Ab2 j p hp))];simp[Ut,hp])
   ·exact .inr ⟨j,hj,q,by rw[Ce b j q hb (.inr hj)];simp[Ut,MS j hj]⟩
  obtain⟨hr,hl⟩:=Pm H t v y cs hy hx;refine hr.mono λb hb=>?_;rcases hb with hb |⟨j,hj,q,hq⟩
  ·exact⟨.inl (de b hb),Abl b (.inl hb)⟩
  ·have Qj:j∈v.P4\/j∈Amt:=by
     rcases XK v j hj with h |h |⟨r,h,l,hm,VU⟩
     ·exact .inl h
     ·exact .inr (P1 j (AHt _ (AHu _ h)))
     ·exact .inr (P1 j (AHu _ (List.mem_flatMap.2 ⟨r,h,by rw[hm];exact VU⟩)))
   refine⟨key b j q hq Qj,Abl b (.inr ⟨j,q,hq,?_⟩)⟩;rcases Qj with h |h
   ·obtain⟨p,hp⟩:=Axt j h;exact .inl (Ab2 j p hp)
   ·exact .inr h
section
variable {P:Program} {σ:St} {o:Oper} {en:Bd} {e:G2} {w:World} {g:G}
theorem R5{t:Nat}{ti:TI}(ht:EA P t ti){b off:Nat}{Bs:Array Value}{el:TypeId}(hh:w.heap[b]?=some (.cells Bs el (0,0))){v:Value}{cs:List Value}(hv:v.cells=cs.toArray)(hl:cs.length=ti.ty.size)
    (OV:off+cs.length<=Bs.size) (h1:∀c∈cs,c.oneCell'=true) :
    (storeVar t ⟨b,off,none⟩ v).run P w=.ok () (w.setRow b (Bs.toList.take off++cs++Bs.toList.drop (off+cs.length)).toArray):=by
 have hs:=run_storeCells_at P b off el cs 0 Bs w hh (by simpa using OV) h1;simp only[Nat.add_zero]at hs;simp[storeVar,Dn ht,hv,hl,hs]
theorem du{Bw:List Nat}{b k:Nat}{cs:Array Value}(ho:g.own b=.BG k [])(hk:k∈Bw):∀q,q<w.heap.size->(∀k p,g.own q=.BG k p->k∉Bw)->(w.setRow b cs).heap[q]?=w.heap[q]?:=by
 intro q _ hq;refine setRow_other w b q cs λe=>?_;subst e;exact hq k [] ho hk
theorem HR{f:Nat->List Nat->Sf}{ob:Option Nat}{n:Nat}{i:BI}{b j:Nat}{r:List Nat}(rF:ob≠some b)(h:g.own b=.BG j r):(g.Tb f ob n i).own b=f j r:=by simp[G.Tb,rF,h]
theorem TE{f:Nat->List Nat->Sf}{ob:Option Nat}{n:Nat}{i:BI}{b:Nat}(rF:ob≠some b)(h:g.own b=.H8):(g.Tb f ob n i).own b=.H8:=by simp[G.Tb,rF,h]
theorem pJ(H:Bc w g σ.Am){t:Nat}{ti:TI}(ht:EA P t ti){k:Nat}{i:Int}{p:List Nat}{of:Nat}{a fW a' v:AV}(hb:σ.Am[k]?=some (.box a))(hg:a.TJ p=some fW)(hs:a.XS p v=some a')
    (hc:v.Y0/\a.wK p=some of/\fW.size=v.size/\v.size=ti.ty.size/\v.isAgg=ti.ty.isAgg/\a'.Cf.contains k=false) {u vv:Value} (hu:BR w g σ.Am.length (.ptr k i p of) u) (hv:BR w g σ.Am.length v vv) :
    ∃w' g',(Instr.storeAt t u vv).run P w=.ok () w'/\Bc w' g' ((A8 [k] σ.Am).set k (.box a'))/\Step [k] σ.Am.length w g w' g':=by
 obtain⟨Amm,gZ,Ks,BH,nT,W4⟩:=hc;obtain⟨hk,h0,h1,b,MR,rfl⟩:=KA hu;obtain⟨hlen,b',cs,el,ha,ho,hh,hx⟩:=H.Lf k _ hb;rw[MR]at ha;injection ha with ha;injection ha with ha;subst ha;obtain⟨Qm,V2⟩:=sJ Amm;obtain⟨cv,XB,v8⟩:=BO V2 Qm hv;have hvc:=X7 v8 XB.one;obtain⟨c0,c1,c2,e1,fF,aK,F8⟩:=Qv p a cs.toList fW hx hg;rw[gZ]at fF;injection fF with fF;have R9:c1.length=cv.length:=by rw[aK.len,XB.len,Ks]
 have hi0:i.toNat=0:=by omega
 have Az4:cs.size=c0.length+c1.length+c2.length:=by rw[<-Array.length_toList,e1];simp only[AGZ]
 have DR:=R5 (P:=P) ht (off:=of) hh hvc (by rw[XB.len,BH]) (by omega) XB.one;have Yv:(cs.toList.take of++cv++cs.toList.drop (of+cv.length))=c0++cv++c2:=by
  rw[e1,fF];congr 1
  ·congr 1;rw[AG3,List.take_left]
  ·rw[<-R9,<-AGZ,List.drop_left]
 rw[Yv]at DR;have st:Step [k] σ.Am.length w g (w.setRow b (c0++cv++c2).toArray) g :=
  ⟨rfl,rfl,rfl,by simp,λq hq h=>⟨h,setRow_other w b q _ (λe=>by subst e;rw[ho]at h;cases h)⟩,λq h=>⟨h,setRow_other w b q _ (λe=>by subst e;rw[ho]at h;cases h)⟩,
   λq j r h _ hm=>⟨h,setRow_other w b q _ (λe=>by subst e;rw[ho]at h;injection h with h;exact hm (by simp[h]))⟩,λ_ _=>rfl⟩
 refine⟨_,g,?_,?_,st⟩
 ·simp only[Instr.storeAt,Instr.sureAddr,Sem.run_bind,Sem.run_pure,Result.andThen_ok,hi0,Nat.zero_mul,AHr];exact DR
 ·refine H.XW st (λq hq=>H.BN q (by simpa using hq)) (by simp[Ay]) λj x hj=>?_;rw[AHk]at hj;split at hj
  ·rename_i hkj;subst hkj;split at hj
   ·injection hj with hj;subst hj;refine .inr (.inr ⟨hlen,b,_,el,MR,ho,setRow_heap w b cs _ el (0,0) hh,?_⟩);have:=Cq.step st (AG1 _) a' false (F8 v a' cv hs XB);rw[M7 (λj hj=>by
     cases Zr:([k]:List Nat).contains j with
     |false=>rfl
     |true =>
      simp at Zr;subst Zr;simp at W4;exact(W4 hj).elim)]at this
    simpa [Ay]using this
   ·cases hj
  ·rename_i I8;obtain⟨y,hy,rfl⟩:=C4 hj;exact .inr (.inl ⟨by simpa using λe:j=k=>I8 e.symm,y,hy,rfl⟩)
theorem TS{bs:List Blk}{t:Ty}{v:AV}{y:t.V}(h:rd bs t v=some y):v.CZ=false/\v.MX=false:=by
 cases v with
 |cons a b=>cases t<;>simp[rd]at h
 |nil=>cases t<;>simp[rd]at h
 |un n=>cases t<;>simp[rd]at h
 |_=>exact⟨rfl,rfl⟩
theorem rm{α:Type}{l:List α}{i:Nat}(h:i<l.length)(d:α):l.getD i d=l[i]:=by simp[List.getD,h]
theorem Wg(H:Bc w g σ.Am){t:Nat}{ti:TI}(ht:EA P t ti){k:Nat}{i:Int}{p:List Nat}{of e:Nat}{m m':RM}{tr:Ty}{xs:List tr.V}{v:AV}{y:ti.ty.V}{x':tr.V}{rs:List Nat}(hb:σ.Am[k]?=some (.row e m tr xs))
    (W5:take σ.Am m ti.ty v=some (y,m',rs)) (hc:KO tr p=some of/\tyP tr p=some ti.ty/\fU (k::rs) m'=true/\rs.contains k=false) (F8:Re ti.ty y p tr (xs.getD i.toNat tr.zero)=some x')
    {u vv:Value} (hu:BR w g σ.Am.length (.ptr k i p of) u) (hv:BR w g σ.Am.length v vv) :
    ∃w' g',(Instr.storeAt t u vv).run P w=.ok () w'/\Bc w' g' ((Blk.Gg (A8 (k::rs) σ.Am) rs).set k (.row e m' tr (xs.set i.toNat x')))/\Step (k::rs) σ.Am.length w g w' g':=by
 obtain⟨gZ,aI,MS,hrk⟩:=hc;obtain⟨hk,h0,h1,b,MR,rfl⟩:=KA hu;obtain⟨PZ,hlen,OU,BF,hr⟩:=H.Lf k _ hb;have Bj:i.toNat<xs.length:=by rw[<-hlen];exact h1
 rcases hr with ⟨Vk,_⟩|⟨b',Bs,ds,ha,Ce,⟨el,R8,hh⟩,OS,qa,hc3,hc4,OT⟩
 ·rw[Vk]at Bj;simp at Bj
 rw[MR]at ha;injection ha with ha;injection ha with ha;subst ha;obtain⟨hy,hrs,QJ,vV⟩:=OQ W5;obtain⟨V2,Qm⟩:=TS hy;obtain⟨cv,XB,v8⟩:=BO V2 Qm hv;have hvc:=X7 v8 XB.one;have S8:cv.length=ti.ty.size:=(Pm H _ _ _ _ hy XB).1.len;obtain⟨c0,c,d,e1,bl,uo,vY,aF⟩:=Be.AU (λi x c h=>RR.len h) (Dm.1 OT) Bj;have Az4:=RR.len uo;obtain⟨XG,aE⟩:=YT W5;have Vh:=Un MS;have rC:k∉rs:=by simpa using hrk
 let M:=J9 v (Sw p [i.toNat])
 have rq:M.map (·.1)=rs:=by rw[hrs];exact F5 v _
 let f:=Ut m k M
 let g':=g.Tb f none σ.Am.length ⟨none,0,0,0⟩
 let off:=i.toNat*tr.size+of
 let new:=Bs.toList.take off++cv++Bs.toList.drop (off+cv.length)
 let w':=w.setRow b new.toArray
 have oi:∀b' r,g.own b'=.BG k r->g'.own b'=.BG k r:=λb' r h=>by
  have:=HR (f:=f) (ob:=none) (n:=σ.Am.length) (i:=⟨none,0,0,0⟩) (by simp) h;rw[this];exact Ou (by rw[rq];exact rC)
 have st:Step (k::rs) σ.Am.length w g w' g':=Step.Tb H.BN rfl rfl rfl (by simp[w']) (du Ce (by simp)) (λq h=>by cases h) (AG1 _) λj r _ hm =>
  Ou (by rw[rq];exact λh=>hm (AHn _ h))
 have Abu:∀b' j r,g.own b'=.BG j r->j≠k->w'.heap[b']?=w.heap[b']?:=λb' j r h hj=>setRow_other w b b' _ λe=>by subst e;rw[Ce]at h;injection h with h;exact hj h.symm
 have Abv:∀b' q,g.own b'=.BG k q->q≠[]->w'.heap[b']?=w.heap[b']?:=λb' q h hq=>setRow_other w b b' _ λe=>by subst e;rw[Ce]at h;injection h with _ h;exact hq h.symm
 have og:∀b',g.own b'=.H8->w'.heap[b']?=w.heap[b']?:=λb' h=>setRow_other w b b' _ λe=>by subst e;rw[Ce]at h;cases h
 have hon:∀(i':Nat) (x:tr.V) (c:List Value),RR w g.own k m tr i' x c->RR w' g'.own k m' tr i' x c:=by
  intro i' x c R8;refine R8.on ?_;rcases vV with ⟨rfl,rfl,_⟩|⟨ks,rfl,rfl⟩
  ·exact λb' q h=>⟨oi b' _ h,Abv b' _ h (by simp)⟩
  ·intro b' h;rcases h with h |⟨j,hj,r,h⟩
   ·exact⟨.inl (TE (by simp) h),og b' h⟩
   ·have nZ:=XG j hj;have Zr:=Vh j nZ;exact⟨.inr ⟨j,nZ,r,by
     have:=HR (f:=f) (ob:=none) (n:=σ.Am.length) (i:=⟨none,0,0,0⟩) (by simp) h;rw[this];exact Ou (by rw[rq];exact λh=>Zr (AHn _ h))⟩,Abu b' j r h λe=>Zr (by simp[e])⟩
 rw[AHr]at uo;rw[rm Bj]at F8;obtain⟨d0,d1,d2,e2,hd0,db,Fx⟩:=AfY F8 gZ (hon _ _ _ uo);have XE:InR w' g'.own k m' ti.ty (Sw p [i.toNat]) y cv:=by
  refine lA H W5 XB (M:=M) (λjq hj=>Yz (by rw[F5];exact QJ) hj) (λ_ h=>h) (λj hj=>Sc (by rw[rq];exact λh=>Vh j hj (AHn _ h))) aE
   (λb' j r h _=>HR (by simp) h) (λb' h=>TE (by simp) h) λb' h=>?_
  rcases h with h |⟨j,r,h,hj⟩
  ·exact og b' h
  ·refine Abu b' j r h λe=>?_;subst e;rcases hj with hj |hj
   ·rw[rq]at hj;exact rC hj
   ·exact Vh j hj (by simp)
 have oa:=Be.join Bj (vY.mono λi' x c h=>hon i' x c h) (by rw[AHr];exact Fx cv XE) (aF.mono λi' x c h=>hon i' x c h);have Awt:Bs.toList=ds++Bs.toList.drop (xs.length*tr.size):=by rw[<-hc4,List.take_append_drop]
 have hds:ds.length=xs.length*tr.size:=by
  have bm:Bs.toList.length=Bs.size:=Array.length_toList;rw[<-hc4,AHg,bm,hc3];exact Nat.min_eq_left (Nat.mul_le_mul_right _ OS)
 have AbE:(Bs.toList.drop (xs.length*tr.size)).length=Bs.size-xs.length*tr.size:=by simp
 have RX:xs.length*tr.size<=Bs.size:=by rw[hc3];exact Nat.mul_le_mul_right _ OS
 have AFi:c0.length+c.length+d.length=xs.length*tr.size:=by rw[<-hds,e1];simp only[AGZ]
 have AFb:d0.length+d1.length+d2.length=c.length:=by rw[e2];simp only[AGZ]
 have AgM:off=(c0++d0).length:=by simp only[off,AGZ,bl,hd0]
 have Az5:cv.length=d1.length:=by rw[S8,db]
 have Yv:new=(c0++(d0++cv++d2)++d)++Bs.toList.drop (xs.length*tr.size):=by
  simp only[new];have ko:Bs.toList=(c0++d0)++(d1++(d2++d++Bs.toList.drop (xs.length*tr.size))):=by
   conv=>lhs;rw[Awt,e1,e2]
   simp only[AG3]
  generalize Bs.toList.drop (xs.length*tr.size)=ZI at ko⊢;rw[ko,AgM,Az5,List.take_left,<-AGZ,<-AG3 (c0++d0) d1,List.drop_left];simp only[AG3]
 have DR:(storeVar t ⟨b,off,none⟩ vv).run P w=.ok () w':=R5 (P:=P) ht hh hvc S8 (by
  have:off=c0.length+d0.length:=by rw[AgM,AGZ]
  omega) XB.one
 refine⟨w',g',?_,?_,by exact st⟩
 ·simp only[Instr.storeAt,Instr.sureAddr,Sem.run_bind,Sem.run_pure,Result.andThen_ok,OU];exact DR
 ·refine H.XW st (LV H.BN (by simp[w']) (λq h=>by cases h)) (by simp[A3,Ay]) λj x hj=>?_;rw[AHk]at hj;split at hj
  ·rename_i hkj;subst hkj;split at hj
   ·injection hj with hj;subst hj;have Qi:g'.AU k=g.AU k:=st.AU k hk;have AwO:((Blk.Gg (A8 (k::rs) σ.Am) rs).set k (.row e m' tr (xs.set i.toNat x'))).length=σ.Am.length:=by simp[A3,Ay]
    refine .inr (.inr ⟨by rw[AwO];exact lB H W5 XB PZ,by rw[Qi,AG4];exact hlen,by rw[Qi];exact OU,BF,.inr ⟨b,new.toArray,_,by rw[Qi];exact MR,oi b [] Ce,⟨el,R8,setRow_heap w b Bs _ el (0,0) hh⟩,by rw[Qi,AG4];exact OS,by rw[Qi];exact qa,?_,rfl,?_⟩⟩)
    ·rw[Qi,<-hc3,Yv];simp only[List.size_toArray,AGZ];omega
    ·rw[Dm,AG4];have:(new.toArray).toList.take (xs.length*tr.size)=c0++(d0++cv++d2)++d:=by
      rw[List.toList_toArray,Yv];have bm:(c0++(d0++cv++d2)++d).length=xs.length*tr.size:=by simp only[AGZ];omega
      rw[<-bm,List.take_left]
     rw[this];exact oa
   ·cases hj
  ·rename_i I8;rcases J6 hj with h |⟨gV,h⟩
   ·exact .inl h
   ·obtain⟨y',aL,rfl⟩:=C4 h;exact .inr (.inl ⟨by simp only[List.mem_cons,not_or];exact⟨λe=>I8 e.symm,gV⟩,y',aL,rfl⟩)
theorem sk{f:Nat}{F G:∀u:Ty,u.V->Option u.V}(h:∀(u:Ty) (x x0:u.V),F u x=some x0->G u x0=G u x):∀{t:Ty} {x x0:t.V},Qx t x f F=some x0->Qx t x0 f G=Qx t x f G:=by
 induction f with
 |zero =>
  intro t x x0 hs;cases t with
  |Au a b =>
   simp only[Qx]at hs⊢;split at hs
   ·rename_i y hy;injection hs with hs;subst hs;rw[h _ _ _ hy]
   ·cases hs
  |_=>simp[Qx]at hs
 |succ f ih =>
  intro t x x0 hs;cases t with
  |Au a b =>
   simp only[Qx]at hs⊢;split at hs
   ·rename_i y hy;injection hs with hs;subst hs;rw[ih hy]
   ·cases hs
  |_=>simp[Qx]at hs
theorem d9{u:Ty}{y z:u.V}:∀(p:List Nat) (t:Ty) (x x0:t.V),Re u z p t x=some x0->Re u y p t x0=Re u y p t x
 |[],_,_,_,_=>rfl
 |f::p,_,_,_,h=>sk (f:=f) (λu' x x0 hx=>d9 p u' x x0 hx) h
theorem AcJ{A:Type}{l:List A}{i:Nat}(h:i<l.length)(x d:A):(l.set i x).getD i d=x:=by simp[List.getD,h]
theorem lu{bs:List Blk}(H:Bc w g bs){t:Nat}{ti:TI}(ht:EA P t ti){k j e ej of:Nat}{i:Int}{p:List Nat}{tr u:Ty}{xs:List tr.V}{ys:List u.V}{x0 x':tr.V}(hb:bs[k]?=some (.Qk e tr xs i p))(hj:bs[j]?=some (.row ej .Ai u ys))
    (Vk:Re (.sl u) [] p tr (xs.getD i.toNat tr.zero)=some x0) (ia:Re (.sl u) ys p tr (xs.getD i.toNat tr.zero)=some x') (hc:ti.ty=.sl u/\KO tr p=some of/\tyP tr p=some (.sl u)/\j≠k)
    {uu vv:Value} (hu:BR w g bs.length (.ptr k i p of) uu) (hv:BR w g bs.length (.Ak j) vv) :
    ∃w' g',(Instr.storeAt t uu vv).run P w=.ok () w'/\Bc w' g' ((Blk.Gg (A8 [k,j] ((A8 [k] bs).set k (.row e .Ai tr (xs.set i.toNat x0)))) [j]).set k (.row e .Ai tr (xs.set i.toNat x')))/\Step [k,j] bs.length w g w' g':=by
 obtain⟨aI,gZ,htp,Zr⟩:=hc;have fE:=AP hb;obtain⟨hlen,OU,BF,h0,Bj,u1,o1,x1,b,Bs,ds,q1,q2,q3,MR,Ce,⟨el,R8,hh⟩,OS,qa,hc3,hc4,OT⟩:=H.Lf k _ hb;rw[gZ]at q1;injection q1 with q1;subst q1;rw[htp]at q2;injection q2 with q2;injection q2 with q2;subst q2;rw[Vk]at q3;injection q3 with q3;subst q3
 let q:=i.toNat*tr.size+of
 let nj:=Bs.setIfInBounds q (.slice none 0 0)
 let w0:=w.setRow b nj
 let y9:=(A8 [k] bs).set k (Blk.row e .Ai tr (xs.set i.toNat x0))
 have R9:y9.length=bs.length:=by simp[y9,Ay]
 have st:Step [k] bs.length w g w0 g :=
  ⟨rfl,rfl,rfl,by simp[w0],λq hq h=>⟨h,setRow_other w b q _ (λe=>by subst e;rw[Ce]at h;cases h)⟩,λq h=>⟨h,setRow_other w b q _ (λe=>by subst e;rw[Ce]at h;cases h)⟩,
   λq j r h _ hm=>⟨h,setRow_other w b q _ (λe=>by subst e;rw[Ce]at h;injection h with h;exact hm (by simp[h]))⟩,λ_ _=>rfl⟩
 have H1:Bc w0 g y9:=by
  refine H.XW st (λq hq=>H.BN q (by simpa [w0]using hq)) (by rw[R9];exact AG1 _) λm x hm=>?_;rw[AHk]at hm;split at hm
  ·rename_i hkm;subst hkm;split at hm
   ·injection hm with hm;subst hm;exact .inr (.inr ⟨λj hj=>(by cases hj),by rw[AG4];exact hlen,OU,BF,.inr ⟨b,nj,ds,MR,Ce,⟨el,R8,setRow_heap w b Bs _ el (0,0) hh⟩,by rw[AG4];exact OS,qa,by rw[<-hc3];simp[nj],by rw[AG4];exact hc4,OT.mono λi x c r=>r.mono λb' q hb=>⟨hb,setRow_other w b b' _ λe=>by subst e;rw[Ce]at hb;injection hb with _ hb;simp at hb⟩⟩⟩)
   ·cases hm
  ·rename_i I8;obtain⟨y,hy,rfl⟩:=C4 hm;exact .inr (.inl ⟨by simpa using λe:m=k=>I8 e.symm,y,hy,rfl⟩)
 have hj1:y9[j]?=some (.row ej .Ai u ys):=by
  simp only[y9];rw[List.getElem?_set_ne (Ne.symm Zr)];simp[A8,hj,Blk.drop,RM.Cf]
 have hk1:y9[k]?=some (.row e .Ai tr (xs.set i.toNat x0)):=by
  simp only[y9];rw[List.getElem?_set_self (by rw[Ay];exact fE)]
 obtain⟨ty,Uo,elem,bytes,Gs,Nj⟩:=ti
 dsimp only at aI
 subst aI;have W5:take y9 .Ai (.sl u) (.Ak j)=some (ys,.Ai,[j]):=by
  simp[take,rd,hj1,Iw,AV.P4,AV.VR,nodup,YM]
 have AgS:Re (.sl u) ys p tr ((xs.set i.toNat x0).getD i.toNat tr.zero)=some x':=by
  rw[AcJ Bj,d9 p tr _ _ Vk,ia]
 have hu1:BR w0 g y9.length (.ptr k i p of) uu:=by
  have:=hu.step st (AG1 _);rw[R9];exact this
 have aJ:BR w0 g y9.length (.Ak j) vv:=by
  have:=hv.step st (AG1 _);rw[R9];exact this
 obtain⟨w',g',DR,hH,BH⟩:=Wg (σ:=⟨[],y9⟩) H1 ht hk1 W5 ⟨gZ,htp,by simp[fU,RM.Cf],by simpa using Ne.symm Zr⟩ AgS hu1 aJ;obtain⟨_,_,_,b',p9,he⟩:=KA hu;rw[MR]at p9;injection p9 with p9;injection p9 with p9;subst p9;obtain⟨_,v8⟩:=FJ hv;have OV:q+1<=Bs.size:=by
  obtain⟨c0,c,d,e1,bl,uo,vY,aF⟩:=Be.AU (λi x c h=>I7.len h) OT (by rw[AG4];exact Bj);obtain⟨a0,a1,a2,e2,ha0,tZ,_⟩:=WN (Ag2 w g.own k) (.sl u) ys p tr _ _ _ _ of (by rw[<-AgS];simp[List.getD,Bj]) gZ uo;have S8:=I7.len uo;have h1:c.length=a0.length+a1.length+a2.length:=by rw[e2];simp only[AGZ]
  have h2:a1.length=1:=tZ;have h3:(i.toNat+1)*tr.size<=Bs.size:=by rw[hc3];exact Nat.mul_le_mul_right _ (AHp Bj OS)
  rw[Nat.add_mul,Nat.one_mul]at h3;simp only[q];omega
 have one:∀c∈[vv],c.oneCell'=true:=λc hc=>by simp at hc;subst hc;rw[v8];rfl
 have hvc:vv.cells=[vv].toArray:=by rw[v8];rfl
 have r1:=R5 (P:=P) ht (off:=q) (setRow_heap w b Bs nj el (0,0) hh) hvc rfl (by simp[nj];exact OV) one;have r2:=R5 (P:=P) ht (off:=q) hh hvc rfl (by simpa using OV) one;have hX:(nj.toList.take q++[vv]++nj.toList.drop (q+[vv].length))=(Bs.toList.take q++[vv]++Bs.toList.drop (q+[vv].length)):=by
  simp only[nj,Array.toList_setIfInBounds];rw[List.take_set_of_le (AG1 _),List.drop_set_of_lt (by simp)]
 rw[hX,setRow_setRow]at r1;have AgR:(Instr.storeAt t uu vv).run P w0=.ok () (w.setRow b (Bs.toList.take q++[vv]++Bs.toList.drop (q+[vv].length)).toArray):=by
  rw[he];simp only[Instr.storeAt,Instr.sureAddr,Sem.run_bind,Sem.run_pure,Result.andThen_ok,OU];exact r1
 have fJ:w'=w.setRow b (Bs.toList.take q++[vv]++Bs.toList.drop (q+[vv].length)).toArray:=by
  rw[DR]at AgR;injection AgR
 refine⟨w',g',?_,?_,(st.trans BH (by rw[R9];exact AG1 _)).weaken (by simp) (AG1 _)⟩
 ·rw[he,fJ];simp only[Instr.storeAt,Instr.sureAddr,Sem.run_bind,Sem.run_pure,Result.andThen_ok,OU];exact r2
 ·rw[List.set_set]at hH;exact hH
theorem xf{t:TypeId}{x v:Operand}(ho:o.op=.store t x v){ti:TI}(ht:EA P t ti)(h:ZN σ.Am ti (σ.B5 x) (σ.B5 v) some=some e):MP P σ o e:=by
 have TH:∀(Gt:List Blk) (Bw:List Nat),Bw≠[]->Gt.length=σ.Am.length ->
     (∀(a:Act) (w:World) (g:G),JZ w g σ a->∃w' g',(Instr.storeAt t (a.eval x) (a.eval v)).run P w=.ok () w'/\Bc w' g' Gt/\Step Bw σ.Am.length w g w' g')->MP P σ o ⟨.un 0,Gt,Bw⟩:=by
  intro Gt Bw hm hl hh;refine⟨by simp[hl],λh=>(hm h).elim,λa w g hs next Q hn=>?_⟩
  obtain⟨w',g',hr,hH,BH⟩:=hh a w g hs;unfold Oper.wp;simp only[execOp,ho,Sem.run_bind,hr,Result.andThen_ok];exact hn undef w' g' hH PX BH
 unfold ZN at h;split at h
 ·rename_i k i p of vv hx;split at h
  ·rename_i a hb;split at h
   ·rename_i fW a' hg F8;split at h
    ·rename_i hc;injection h with h;subst h;refine TH _ _ (by simp) (by simp[Ay]) λac w g hs=>?_;have hu:=AO hs x;rw[hx]at hu;exact pJ hs.heap ht hb hg F8 hc hu (AO hs v)
    ·cases h
   ·cases h
  ·rename_i el m tr xs hb;split at h
   ·rename_i y m' rs W5;split at h
    ·rename_i hc;split at h
     ·rename_i x' F8;injection h with h;subst h;refine TH _ _ (by simp) (by simp[Ay,A3]) λac w g hs=>?_;have hu:=AO hs x;rw[hx]at hu;exact Wg hs.heap ht hb W5 hc F8 hu (AO hs v)
     ·cases h
    ·cases h
   ·cases h
  ·rename_i el tr xs i' p' hb;split at h
   ·rename_i j hj;split at h
    ·rename_i ej u ys hbj;split at h
     ·rename_i x0 x' Vk ia;split at h
      ·rename_i hc;split at h
       ·rename_i hi;injection h with h;subst h;subst hi;obtain⟨c1,c2,c3,c4,c5⟩:=hc;subst c4;refine TH _ _ (by simp) (by simp[Ay,A3]) λac w g hs=>?_;have hu:=AO hs x;rw[hx]at hu;have hv:=AO hs v;rw[hj]at hv;exact lu hs.heap ht hb hbj Vk ia ⟨c1,c2,c3,c5⟩ hu hv
       ·cases h
      ·cases h
     ·cases h
    ·cases h
   ·cases h
  ·cases h
 ·cases h
end
section
variable {P:Program} {σ:St} {o:Oper} {en:Bd} {e:G2}
theorem V7{bs:List Blk}{t:Ty}:∀{ps:List (Nat×AV)} {m m':RM} {xs xr:List t.V} {rs xH:List Nat},Qu bs t m xs rs ps=some (m',xr,xH) ->
    (∀j∈m.Cf,j∈m'.Cf)/\(m=.Ai↔m'=.Ai)/\xH=rs++ps.flatMap (λp=>p.2.P4)/\xr.length=xs.length
 |[],m,m',xs,xr,rs,xH,h=>by
  simp only[Qu,AGX,AG8]at h;obtain⟨rfl,rfl,rfl⟩:=h;exact⟨λ_ h=>h,Iff.rfl,by simp,rfl⟩
 |(i,v)::ps,m,m',xs,xr,rs,xH,h=>by
  simp only[Qu]at h;split at h
  ·rename_i y m1 l ht;split at h
   ·obtain⟨h1,h2,h3,h4⟩:=V7 h;obtain⟨hs,hd⟩:=YT ht;obtain⟨_,hl,_⟩:=OQ ht;exact⟨λj hj=>h1 j (hs j hj),hd.trans h2,by rw[h3,hl];simp,by rw[h4,AG4]⟩
   ·cases h
  ·cases h
theorem dP{t:Ty}{E:Nat->t.V->List Value->Prop}(hE:∀i x c,E i x c->c.length=t.size){bs:List Blk}{ρ:Operand->AV}{ε:Operand->Value}{m':RM}:∀{ps:List (Nat×Operand)} {m:RM} {xs xr:List t.V} {rs xH:List Nat} {cs:List Value},
    Qu bs t m xs rs (ps.map λp=>(p.1,ρ p.2))=some (m',xr,xH)->Be E 0 xs cs ->
    (∀p∈ps,∀m m1 y rs,take bs m t (ρ p.2)=some (y,m1,rs)->(m=.Ai↔m'=.Ai)->(∀j∈m1.Cf,j∈m'.Cf)->∃cv,(ε p.2).cells=cv.toArray/\E p.1 y cv) ->
    ∃fv,Instr.fill (λi=>some (i*t.size,t.size)) cs.toArray (ps.map λp=>(p.1,ε p.2))=some fv.toArray/\Be E 0 xr fv
 |[],m,xs,xr,rs,xH,cs,h,hl,_=>by
  simp only[List.map_nil,Qu,AGX,AG8]at h;obtain⟨rfl,rfl,rfl⟩:=h;exact⟨cs,rfl,hl⟩
 |(i,x)::ps,m,xs,xr,rs,xH,cs,h,hl,hp=>by
  simp only[List.map_cons,Qu]at h;split at h
  ·rename_i y m1 l ht;split at h
   ·rename_i hi;obtain⟨h1,h2,_⟩:=V7 h;obtain⟨hs,hd⟩:=YT ht;obtain⟨cv,XB,hey⟩:=hp (i,x) (by simp) m m1 y l ht (hd.trans h2) h1;obtain⟨c0,c,d,e1,bl,uo,vY,aF⟩:=Be.AU hE hl hi;have Yv:=Be.join hi vY (by rw[AHr];exact hey) aF;obtain⟨fv,hf,rD⟩:=dP hE h Yv λp vW=>hp p (by simp[vW]);refine⟨fv,?_,rD⟩;simp only[List.map_cons];unfold Instr.fill;have RN:(ε x).cells.size=t.size:=by
     have AlR:(ε x).cells=cv.toArray:=XB;rw[AlR,List.size_toArray,hE _ _ _ hey]
    have hc:=hE _ _ _ uo;have OV:¬i*t.size+t.size>cs.toArray.size:=by
     rw[List.size_toArray,e1,AGZ,AGZ,bl,hc];omega
    simp only[RN,ne_eq,not_true_eq_false,decide_false,Bool.false_or,OV,Bool.false_eq_true,if_false];rw[<-hf];congr 1;have AlR:(ε x).cells=cv.toArray:=XB;rw[AlR,e1,<-bl];exact uK (by rw[hE _ _ _ hey,hc])
   ·cases h
  ·cases h
theorem pT{m m':RM}(h:m=.Ai↔m'=.Ai)(k:Nat)(M:List (Nat×List Nat))(j:Nat)(r:List Nat):Ut m k M j r=Ut m' k M j r:=by
 unfold Ut;split
 ·rfl
 ·cases m with
  |Ai=>rw[h.1 rfl]
  |sh _=>cases m' with
   |Ai=>have:=h.2 rfl;cases this
   |sh _=>rfl
def rX(ps:List (Nat×AV)):List (Nat×List Nat):=ps.flatMap λp=>J9 p.2 [p.1]
theorem oW(ps:List (Nat×AV)):(rX ps).map (·.1)=ps.flatMap λp=>p.2.P4:=by
 induction ps with
 |nil=>rfl
 |cons p ps ih =>
  simp only[rX,List.flatMap_cons,List.map_append]at ih⊢;rw[F5,ih]
theorem ZF{w:World}{g:G}{bs:List Blk}(H:Bc w g bs){t:Ty}{ρ:Operand->AV}{ε:Operand->Value}(hρ:∀x,BR w g bs.length (ρ x) (ε x)):∀{ps:List (Nat×Operand)} {m m':RM} {xs xr:List t.V} {rs xH:List Nat},
    Qu bs t m xs rs (ps.map λp=>(p.1,ρ p.2))=some (m',xr,xH)->(∀j∈m.Cf,j<bs.length)->∀j∈m'.Cf,j<bs.length
 |[],m,m',xs,xr,rs,xH,h,hm=>by
  simp only[List.map_nil,Qu,AGX,AG8]at h;obtain⟨rfl,rfl,rfl⟩:=h;exact hm
 |(i,x)::ps,m,m',xs,xr,rs,xH,h,hm=>by
  simp only[List.map_cons,Qu]at h;split at h
  ·rename_i y m1 l ht;split at h
   ·obtain⟨hy,_⟩:=OQ ht;obtain⟨V2,Qm⟩:=TS hy;obtain⟨cv,XB,_⟩:=BO V2 Qm (hρ x);exact ZF H hρ h (lB H ht XB hm)
   ·cases h
  ·cases h
theorem eu{t:TypeId}{len:Nat}{FC:Array (Nat×Operand)}(ho:o.op=.buildSlice t len FC){fi:FI}{ti te:TI}(ht:EA P t ti)(D1:EA P ti.elem te){m:RM}{xs:List te.ty.V}{rs:List Nat}
    (hp:Qu σ.Am te.ty (fi.mode te.ty) (List.replicate len te.ty.zero) [] (FC.toList.map λp=>(p.1,σ.B5 p.2))=some (m,xs,rs))
    (hc:(ti.D4&&te.ty.row&&fU rs m&&nodup rs&&decide (len*te.ty.size<=16777216))=true) :
    (len=0->MP P σ o ⟨.zs,σ.Am,[]⟩)/\(len≠0->MP P σ o ⟨.Ak σ.Am.length,Blk.Gg (A8 rs σ.Am) rs++[.row ti.elem m te.ty xs],rs⟩):=by
 simp only[AG2,decide_eq_true_eq]at hc;obtain⟨⟨⟨⟨Iz,Od⟩,MS⟩,QJ⟩,Afh⟩:=hc;have hu:=BB ht Iz;obtain⟨dc,BF⟩:=dX Od;obtain⟨ie,z,hi,Ks,lU,hz,ib,_⟩:=D1.info;obtain⟨_,aE,hrs,hxl⟩:=V7 hp;rw[AHs]at hxl;rw[List.nil_append]at hrs;refine⟨λh0=>?_,λh0=>?_⟩
 ·subst h0;have hps:FC.toList=[]:=by
   cases hq:FC.toList with
   |nil=>rfl
   |cons p r =>
    rw[hq]at hp;simp only[List.map_cons,Qu]at hp;split at hp
    ·split at hp
     ·rename_i h;simp at h
     ·cases hp
    ·cases hp
  have AAD:FC=#[]:=by apply Array.toList_inj.1;rw[hps]
  refine⟨AG1 _,λ_=>⟨[],(AHA _).symm⟩,λa w g hs next Q hn=>?_⟩
  have hr:(execOp a.eval o).run P w=.ok (.value (.slice (some ⟨w.heap.size,0,none⟩) 0 0)) (w.alloc (.cells #[] ti.elem)):=by
   simp[execOp,ho,Instr.buildSlice,run_underlying hu,sizeOf,typeInfo,hi,AAD,Instr.fill,newRow];congr 2;apply Array.eq_empty_of_size_eq_zero;simp
  unfold Oper.wp;rw[hr];have st:Step [] σ.Am.length w g (w.alloc (.cells #[] ti.elem)) g:=⟨rfl,rfl,rfl,by show w.heap.size<=(w.heap.push _).size;simp,λb hb h=>⟨h,heap_alloc_old w _ b hb⟩,λb h=>⟨h,heap_alloc_old w _ b (Rv hs.heap (by rw[h];simp))⟩,
   λb k p h _ _=>⟨h,heap_alloc_old w _ b (Rv hs.heap (by rw[h];simp))⟩,λ_ _=>rfl⟩
  refine hn _ _ g (hs.heap.PW st λb hb=>hs.heap.BN b (AHp st.size hb)) (iF _) st
 ·refine⟨by simp[A3,Ay],λh=>⟨[.row ti.elem m te.ty xs],?_⟩,λa w g hs next Q hn=>?_⟩
  ·have h:rs=[]:=h;rw[h];rfl
  have H:=hs.heap
  let n:=σ.Am.length
  let M:=rX (FC.toList.map λp=>(p.1,σ.B5 p.2))
  have rq:M.map (·.1)=rs:=by rw[hrs];exact oW _
  let i:BI:=⟨some ⟨w.heap.size,0,none⟩,len,len,te.ty.size⟩
  let g':=g.Tb (Ut m n M) (some w.heap.size) n i
  have Afn:∀b,g.own b≠.no->b≠w.heap.size:=λb h e=>by have:=Rv H h;omega
  have key:∀cells:Array Value,∃w':World,w'=w.alloc (.cells cells ti.elem)/\Step rs n w g w' g':=λcells=>⟨_,rfl,Step.Tb H.BN rfl rfl rfl (by show w.heap.size<=(w.heap.push _).size;simp) (λq hq _=>heap_alloc_old w _ q hq)
   (λq h=>by injection h with h;omega) (AG1 _) λj r _ hm=>Ou (by rw[rq];exact hm)⟩
  have Tw:∀b j r,g.own b=.BG j r->g'.own b=Ut m n M j r:=λb j r h=>HR (by
   intro e;injection e with e;exact Afn b (by rw[h];simp) e.symm) h
  have YD:∀b,g.own b=.H8->g'.own b=.H8:=λb h=>TE (by
   intro e;injection e with e;exact Afn b (by rw[h];simp) e.symm) h
  have hzero:Be (RR w g'.own n m te.ty) 0 (List.replicate len te.ty.zero) ((List.replicate len (Value.agg z.cells)).flatMap λv=>v.cells.toList):=by
   refine WL (λi=>?_) len 0;have AA4:(Value.agg z.cells).cells.toList=PY te.ty:=ib;rw[AA4];cases m with
   |Ai=>exact I7.zero dc
   |sh ks=>exact G1.zero dc
  obtain⟨fv,nY,Abq⟩:=dP (E:=RR w g'.own n m te.ty) (ε:=a.eval) (λi x c h=>h.len) hp hzero (by
   intro p hpm m0 m1 y rs0 W5 hd0 XG;obtain⟨hy,vY,hn0,_⟩:=OQ W5;obtain⟨V2,Qm⟩:=TS hy;obtain⟨cv,XB,v8⟩:=BO V2 Qm (AO hs p.2);refine⟨cv,X7 v8 XB.one,?_⟩;have Fx:InR w g'.own n m te.ty [p.1] y cv:=by
    refine lA H W5 XB (M:=M) (λjq hj=>Yz (by rw[rq];exact QJ) ?_) XG (λj hj=>Sc (by rw[rq];exact Un MS j hj)) hd0
     (λb j r h _=>by rw[Tw b j r h,pT hd0]) YD λ_ _=>rfl
    exact List.mem_flatMap.2 ⟨(p.1,σ.B5 p.2),List.mem_map.2 ⟨p,hpm,rfl⟩,hj⟩
   cases m with
   |Ai=>exact Fx
   |sh ks=>exact Fx)
  have S8:=Be.len (λi x c h=>RR.len h) Abq;rw[hxl]at S8;have hpc:¬len*te.ty.size=0:=by
   have:0<len*te.ty.size:=Nat.mul_pos (Nat.pos_of_ne_zero h0) BF;omega
  have AwR:(Array.range (len*ie.size)).map (z.cells[·%z.cells.size]!)=((List.replicate len (Value.agg z.cells)).flatMap λv=>v.cells.toList).toArray:=by
   have h1:=Zy z.cells (s:=te.ty.size) (l:=len) (c:=len) (by rw[<-Array.length_toList,ib,QI]) BF (AG1 _);rw[AG5 (by rw[Array.length_toList,size_madeCells];exact AG1 _)]at h1;rw[<-h1,Ks];simp only[madeCells,Array.toArray_toList]
  have hr:(execOp a.eval o).run P w=.ok (.value (.slice (some ⟨w.heap.size,0,none⟩) len len)) (w.alloc (.cells fv.toArray ti.elem)):=by
   have:=run_buildSlice (P:=P) w t ti.elem len (FC.map λ(i,x)=>(i,a.eval x)) fv.toArray ie z hu hi hz (by rw[Ks];omega) (by rw[Ks];exact hpc) (by
    rw[AwR,Ks];simpa using nY)
   simp[execOp,ho,this]
  unfold Oper.wp;rw[hr];obtain⟨w',fJ,st⟩:=key fv.toArray;subst fJ;have M9:g'.AU n=i:=by simp[g',G.Tb]
  refine hn _ _ g' (H.XW st (LV H.BN st.size (λq h=>by injection h with h;subst h;show w.heap.size<(w.heap.push _).size;simp)) (by simp[A3,Ay]) λj x hj=>?_) ?_ st
  ·rw[AHl]at hj;split at hj
   ·rcases J6 hj with h |⟨gV,h⟩
    ·exact .inl h
    ·obtain⟨y',aL,rfl⟩:=C4 h;exact .inr (.inl ⟨gV,y',aL,rfl⟩)
   ·rename_i hlen;rw[A3,Ay]at hj hlen;have gU:j-σ.Am.length=0:=by
     rcases AHj (j-σ.Am.length)with h |h
     ·exact h
     ·rw[AHz (by simp;omega)]at hj;cases hj
    rw[gU]at hj;obtain rfl:j=n:=by simp only[n];omega
    simp only[List.getElem?_cons_zero,AGX]at hj;subst hj;refine .inr (.inr ⟨λj hj=>?_,by rw[M9,hxl],by rw[M9],BF,.inr ⟨w.heap.size,fv.toArray,_,by rw[M9],by simp[g',G.Tb],⟨_,.inr rfl,heap_alloc_new w _⟩,by rw[M9,hxl];exact AG1 _,?_,by rw[M9,List.size_toArray,S8],rfl,?_⟩⟩)
    ·have:=ZF H (AO hs) hp (by rw[SI];intro j hj;cases hj) j hj;simp[A3,Ay];omega
    ·rw[M9];have:len<=len*te.ty.size:=Nat.le_mul_of_pos_right _ BF;simp only[maxLen,i];omega
    ·rw[Dm,List.toList_toArray,AG5 (by rw[S8,hxl];exact AG1 _)];refine Abq.mono λi' x c h=>h.on ?_;have hap:∀b,g.own b≠.no\/g'.own b≠.no/\b≠w.heap.size->(w.alloc (.cells fv.toArray ti.elem)).heap[b]?=w.heap[b]?:=λb hb=>by
      refine heap_alloc_old w _ b ?_;rcases hb with hb |⟨hb,I8⟩
      ·exact Rv H hb
      ·rcases AG6 b w.heap.size with h' |h'
       ·exact h'
       ·refine(hb ?_).elim;have:=H.BN b h';simp[g',G.Tb,this,Ne.symm I8]
     cases m with
     |Ai =>
      intro b q hb;refine⟨hb,hap b (.inr ⟨by rw[hb];simp,λe=>?_⟩)⟩;subst e;simp[g',G.Tb]at hb
     |sh ks =>
      intro b hb;refine⟨hb,hap b (.inr ⟨?_,λe=>?_⟩)⟩
      ·rcases hb with hb |⟨j,_,p,hb⟩<;>rw[hb]<;>simp
      ·subst e;rcases hb with hb |⟨j,hj,p,hb⟩
       ·simp[g',G.Tb]at hb
       ·simp[g',G.Tb]at hb;have:=ZF H (AO hs) hp (by rw[SI];intro j hj;cases hj) j hj;omega
  ·refine Bn (cs:=[_]) rfl ⟨by simp[A3,Ay],rfl⟩ ?_;have:g'.AU σ.Am.length=i:=M9;simp[Bv,AV.isAgg,this,i]
end
section
variable {P:Program} {w:World} {g:G} {bs:List Blk}
theorem AcF(w:World)(t tx ty e:TypeId)(i:TypeInfo)(ht:P.underlying t=some (.slice e))(hi:P.info? e=some i)
    (b XP sf:Nat) (Bs:Array Value) {e0:TypeId} (hg:w.heap[b]?=some (.cells Bs e0 (0,0))) (x:Value) (n:Nat) (FU:List Value) (hs:Src P i.size tx x n FU w) (VZ:XP+n<=sf) (OV:XP*i.size+FU.length<=Bs.size) :
    (Builtin.append_ #[t,tx] ty #[.slice (some ⟨b,0,none⟩) XP sf,x]).run P w =
     .ok (.slice (some ⟨b,0,none⟩) (XP+n) sf) (w.setRow b (Bs.toList.take (XP*i.size)++FU++Bs.toList.drop (XP*i.size+FU.length)).toArray):=by
 have BH:=run_storeCells_at P b (XP*i.size) e0 FU 0 Bs w hg (by simpa using OV) hs.one;simp only[Nat.add_zero]at BH;rcases hs.kind with ⟨e',hk⟩|hk<;>simp[Builtin.append_,run_underlying ht,run_underlying hk,sizeOf,typeInfo,hi,hs.len,VZ,hs.cells,Addr.add_lit,BH]
theorem oR(w:World)(t tx ty e:TypeId)(i:TypeInfo)(ht:P.underlying t=some (.slice e))(hi:P.info? e=some i)(ad:Option Addr)(x:Value)(FU:List Value)(hs:Src P i.size tx x 0 FU w) :
    (Builtin.append_ #[t,tx] ty #[.slice ad 0 0,x]).run P w=.ok (.slice ad 0 0) w:=by
 have hn:FU=[]:=by
  have:=hs.newsLen;simpa using this
 subst hn;cases ad<;>rcases hs.kind with ⟨e',hk⟩|hk<;>simp[Builtin.append_,run_underlying ht,run_underlying hk,sizeOf,typeInfo,hi,hs.len,hs.cells,storeCells]
theorem qT(w:World)(t tx ty e:TypeId)(i:TypeInfo)(z:Value)(ht:P.underlying t=some (.slice e))(hi:P.info? e=some i)(hz:i.zero=some z)(hzs:z.cells.size=i.size)(BF:0<i.size)
    {Pw:Nat->Prop} {Ek:Prop} {ad:Option Addr} {len cap:Nat} {ds:List Value} (Ug:(len=0/\cap=0/\ds=[])\/∃b Bs e0,ad=some ⟨b,0,none⟩/\Pw b/\(w.heap[b]?=some (.cells Bs e0 (0,0))/\(Ek\/e0=e))/\len<=cap/\cap<=maxLen/\Bs.size=cap*i.size/\Bs.toList.take (len*i.size)=ds)
    {x:Value} {n:Nat} {FU:List Value} (hs:Src P i.size tx x n FU w) (lU:i.bytes≠0) (OV:(len+n)*i.bytes<=140737488355328) :
    ∃mj Q0 w',(Builtin.append_ #[t,tx] ty #[.slice ad len cap,x]).run P w=.ok (.slice mj (len+n) Q0) w'/\w'.os=w.os/\w'.tape=w.tape/\w'.output=w.output/\w.heap.size<=w'.heap.size /\
     ((len+n=0/\Q0=0/\w'=w)\/∃b' OR e1,mj=some ⟨b',0,none⟩/\(w'.heap[b']?=some (.cells OR e1 (0,0))/\(Ek\/e1=e))/\len+n<=Q0/\Q0<=maxLen/\OR.size=Q0*i.size/\OR.toList.take ((len+n)*i.size)=ds++FU /\
      ((∃Bs e0,ad=some ⟨b',0,none⟩/\Pw b'/\w.heap[b']?=some (.cells Bs e0 (0,0))/\w'=w.setRow b' OR)\/(b'=w.heap.size/\b'<w'.heap.size/\∀q,q<w.heap.size->w'.heap[q]?=w.heap[q]?))):=by
 have Al7:len+n<=140737488355328:=AHp (Nat.le_mul_of_pos_right _ (Nat.pos_of_ne_zero lU)) OV;have h63:((len+n:Nat):Int)<=9223372036854775807:=by omega
 have vU:len+n<=maxLen:=by simp only[maxLen];omega
 have bj:ds.length=len*i.size:=by
  rcases Ug with ⟨h1,h2,h3⟩|⟨b,Bs,e0,h1,_,h2,h3,h4,h5,h6⟩
  ·subst h1;subst h3;simp
  ·rw[<-h6,AHg,Array.length_toList,h5];exact Nat.min_eq_left (Nat.mul_le_mul_right _ h3)
 by_cases VZ:len+n<=cap
 ·rcases Ug with ⟨rfl,rfl,rfl⟩|⟨b,Bs,e0,rfl,hpw,⟨hb,hek⟩,h3,h4,h5,h6⟩
  ·obtain rfl:n=0:=by omega
   exact⟨ad,0,w,oR w t tx ty e i ht hi ad x FU hs,rfl,rfl,rfl,AG1 _,.inl ⟨rfl,rfl,rfl⟩⟩
  ·have RX:len*i.size+FU.length<=Bs.size:=by
     rw[hs.newsLen,h5,<-Nat.add_mul];exact Nat.mul_le_mul_right _ VZ
   refine⟨_,cap,_,AcF w t tx ty e i ht hi b len cap Bs hb x n FU hs VZ RX,rfl,rfl,rfl,by simp,.inr ⟨b,_,e0,rfl,⟨setRow_heap w b Bs _ e0 (0,0) hb,hek⟩,VZ,h4,?_,?_,.inl ⟨Bs,e0,rfl,hpw,hb,rfl⟩⟩⟩
   ·simp only[List.size_toArray,AGZ,AHg,AHv,Array.length_toList];omega
   ·rw[List.toList_toArray,h6];have:(len+n)*i.size=(ds++FU).length:=by rw[AGZ,bj,hs.newsLen,Nat.add_mul]
    rw[this,List.take_left]
 ·have xA:cap<len+n:=by omega
  have holds:(Builtin.firstCells i.size len (.slice ad len cap)).run P w.drew=.ok ds.toArray w.drew:=by
   rcases Ug with ⟨rfl,rfl,rfl⟩|⟨b,Bs,e0,rfl,hpw,⟨hb,hek⟩,h3,h4,h5,h6⟩
   ·cases ad with
    |none=>exact run_firstCells_none w.drew i.size 0 0 0
    |some a=>exact run_firstCells_some w.drew i.size 0 a 0 0 [] (by simp) (by simp)
   ·refine run_firstCells_some w.drew i.size len _ len cap ds bj λj u hu=>?_;rw[WV,AHr];show w.cell? ⟨b,j,none⟩=some u;rw[OZ hb,<-AG9];rw[<-h6,List.getElem?_take]at hu;split at hu
    ·exact hu
    ·cases hu
  have hr:=run_append_grow_src (P:=P) w t tx ty e i z ht hi hz ad len cap ds holds x n FU hs xA h63 (growslice_fits xA OV);refine⟨_,_,_,hr,rfl,rfl,rfl,by simp,.inr ⟨w.heap.size,_,e,rfl,⟨heap_alloc_new w.drew _,.inr rfl⟩,grownCap_ge w _ cap e,grownCap_le_maxLen w _ cap e vU,?_,?_,.inr ⟨rfl,by simp,λq hq=>heap_alloc_old w.drew _ q hq⟩⟩⟩
  ·have YW:=grownCap_ge w (len+n) cap e;simp only[Array.size_append,List.size_toArray,AGZ,size_zeroCells,hzs,bj,hs.newsLen,<-Nat.add_mul];congr 1;omega
  ·have:(len+n)*i.size=(ds++FU).length:=by rw[AGZ,bj,hs.newsLen,Nat.add_mul]
   rw[this,Array.toList_append,List.toList_toArray,List.take_left]
end
def WZ(w:World)(g:G)(t:Ty)(m:RM)(rs:List Nat)(i:Nat)(x:t.V)(c:List Value):Prop :=
 (t.BD=true/\c=J4 t x)\/(∃ks,m=.sh ks/\G1 w (Al g.own ks) t x c)\/∃j,rs=[j]/\RR w g.own j m t i x c
theorem WZ.len{w:World}{g:G}{t:Ty}{m:RM}{rs:List Nat}{i:Nat}{x:t.V}{c:List Value}(h:WZ w g t m rs i x c):c.length=t.size:=by
 rcases h with ⟨hf,rfl⟩|⟨ks,_,h⟩|⟨j,_,h⟩
 ·exact G1.len (w:=default) (A:=λ_=>True) ((G1.BD hf).2 rfl)
 ·exact h.len
 ·exact h.len
theorem WZ.one{w:World}{g:G}{t:Ty}{m:RM}{rs:List Nat}{i:Nat}{x:t.V}{c:List Value}(h:WZ w g t m rs i x c):∀v∈c,v.oneCell'=true:=by
 rcases h with ⟨hf,rfl⟩|⟨ks,_,h⟩|⟨j,_,h⟩
 ·exact G1.one (w:=default) (A:=λ_=>True) ((G1.BD hf).2 rfl)
 ·exact h.one
 ·cases m with
  |Ai=>exact I7.one h
  |sh ks=>exact G1.one h
theorem RR.BD{w:World}{own:Nat->Sf}{k:Nat}{m:RM}{t:Ty}{i:Nat}{x:t.V}{c:List Value}(hf:t.BD=true):RR w own k m t i x c↔c=J4 t x:=by
 cases m with
 |Ai=>exact I7.BD hf
 |sh ks=>exact G1.BD hf
section
variable {P:Program} {w:World} {g:G} {bs:List Blk}
theorem AaF{ds:List Value}{b:Nat}{Bs:Array Value}{el:TypeId}{fr:Nat×Nat}{n:Nat}(hh:w.heap[b]?=some (.cells Bs el fr))(h4:Bs.toList.take n=ds):∀j u,ds[j]?=some u->w.cell? ((⟨b,0,none⟩:Addr).add j)=some u:=by
 intro j u hu;rw[WV,AHr,OZ hh,<-AG9];subst h4;rw[List.getElem?_take]at hu;split at hu
 ·exact hu
 ·cases hu
theorem Adj(H:Bc w g bs){t:Ty}{y:AV}{ys:List t.V}{m:RM}{rs:List Nat}(h:lr bs t y=some (ys,m,rs)){v:Value}(hv:BR w g bs.length y v){tx:TypeId}{ZP:TI}(qg:EA P tx ZP)(hk:(ZP.D4||ZP.ty==.str)=true) :
    ∃FU,Src P t.size tx v ys.length FU w/\Be (WZ w g t m rs) 0 ys FU/\(∀j∈m.Cf,j<bs.length)/\(∀j∈rs,j<bs.length)/\(rs=[]\/∃j,rs=[j]):=by
 have Abn:(∃e',P.underlying tx=some (.slice e'))\/P.underlying tx=some .string:=by
  rw[Bool.or_eq_true]at hk;rcases hk with hk |hk
  ·exact .inl ⟨_,BB qg hk⟩
  ·exact .inr (QH qg (by simpa using hk))
 have Amx:∀(ad:Option Addr) (c:Nat),Src P t.size tx (.slice ad 0 c) 0 [] w:=λad c =>
  ⟨Abn,λ_=>rfl,by
   cases ad with
   |none=>exact run_firstCells_none w t.size 0 0 c
   |some a=>exact run_firstCells_some w t.size 0 a 0 c [] (by simp) (by simp),by
   cases ad with
   |none=>exact run_firstCells_none w.drew t.size 0 0 c
   |some a=>exact run_firstCells_some w.drew t.size 0 a 0 c [] (by simp) (by simp),by simp,λ_ h=>by cases h⟩
 have AcO:∀(a:Addr) (n c:Nat) (FU:List Value),FU.length=n*t.size->(∀j u,FU[j]?=some u->w.cell? (a.add j)=some u)->(∀u∈FU,u.oneCell'=true)->Src P t.size tx (.slice (some a) n c) n FU w:=λa n c FU hl hn h1 =>
  ⟨Abn,λ_=>rfl,run_firstCells_some w t.size n a n c FU hl hn,run_firstCells_some w.drew t.size n a n c FU hl (by simpa using hn),hl,h1⟩
 unfold lr at h;split at h
 ·simp only[AGX,AG8]at h;obtain⟨rfl,rfl,rfl⟩:=h;obtain⟨ad,rfl⟩:=VG hv;exact⟨[],Amx ad 0,rfl,λj hj=>by(cases hj),λj hj=>by(cases hj),.inl rfl⟩
 ·rename_i ks u xs;split at h
  ·rename_i l hl;obtain⟨e',he⟩:=BA hl;injection e' with e';subst e';simp only at he;subst he;simp only[AGX,AG8]at h;obtain⟨rfl,rfl,rfl⟩:=h;obtain⟨hks,ad,cap,ds,rfl,Zp,hr,hm⟩:=Xm hv;have xx:Be (WZ w g u (if u.BD=true then RM.Ai else RM.sh ks) []) 0 xs ds:=by
    refine hr.toI λi x c h=>?_;cases hf:u.BD with
    |true=>exact .inl ⟨hf,(G1.BD hf).1 h⟩
    |false=>exact .inr (.inl ⟨ks,by simp,h⟩)
   refine⟨ds,?_,xx,λj hj=>?_,λj hj=>by(cases hj),.inl rfl⟩
   ·rcases hm with rfl |⟨b,off,rfl,_,hc⟩
    ·cases hr;exact Amx ad cap
    ·exact AcO _ _ _ _ (Cr.len (λx c h=>G1.len h) hr) (λj u hu=>by rw[WV];exact hc j u hu) (Cr.all (λx c h=>G1.one h) hr)
   ·cases hf:u.BD with
    |true=>rw[hf]at hj;cases hj
    |false=>rw[hf]at hj;exact hks j hj
  ·cases h
 ·rename_i ks s;split at h
  ·rename_i l hl;obtain⟨e',he⟩:=BA hl;injection e' with e';subst e';simp only at he;subst he;simp only[AGX,AG8]at h;obtain⟨rfl,rfl,rfl⟩:=h;obtain rfl:=Uy hv;refine⟨byteCells s,?_,?_,λj hj=>by(cases hj),λj hj=>by(cases hj),.inl rfl⟩
   ·have e1:(s.data.toList.map λb=>(b.toNat:Int)).length=s.size:=by rw[AG7,Array.length_toList];rfl
    rw[e1];exact⟨Abn,λ_=>rfl,firstCells_string s w,firstCells_string s w.drew,by rw[byteCells_length];exact(Nat.mul_one _).symm,λu hu=>by
     obtain⟨_,_,rfl⟩:=List.mem_map.1 hu;rfl⟩
   ·have:∀(l:List UInt8) (i:Nat),Be (WZ w g (.int .u8) .Ai []) i (l.map λb=>(b.toNat:Int)) (l.map λb=>Value.int .u8 b.toNat):=by
      intro l;induction l with
      |nil=>exact λ_=>rfl
      |cons b l ih=>exact λi=>⟨[_],_,rfl,.inl ⟨rfl,rfl⟩,ih (i+1)⟩
    exact this _ 0
  ·cases h
 ·rename_i j;split at h
  ·rename_i el m1 u xs hb;split at h
   ·rename_i l hl;obtain⟨e',he⟩:=BA hl;injection e' with e';subst e';simp only at he;subst he;simp only[AGX,AG8]at h;obtain⟨rfl,rfl,rfl⟩:=h;obtain⟨hj,rfl⟩:=FJ hv;obtain⟨PZ,hlen,OU,BF,hr⟩:=H.Lf j _ hb;rw[hlen];have P1:∀j'∈(if u.BD=true then RM.Ai else m1).Cf,j'<bs.length:=λj' Qj=>by
     split at Qj
     ·cases Qj
     ·exact PZ j' Qj
    have hrs:∀j'∈(if u.BD=true then[]else[j]),j'<bs.length:=λj' Qj=>by
     split at Qj
     ·cases Qj
     ·simp at Qj;subst Qj;exact hj
    have hsh:(if u.BD=true then[]else[j])=[]\/∃j',(if u.BD=true then[]else[j])=[j']:=by
     cases u.BD with
     |true=>exact .inl rfl
     |false=>exact .inr ⟨j,rfl⟩
    rcases hr with ⟨rfl,GR⟩|⟨b,Bs,ds,ha,Ce,⟨elq,_,hh⟩,h1,h2,h3,h4,OT⟩
    ·rw[GR];exact⟨[],Amx _ 0,rfl,P1,hrs,hsh⟩
    ·rw[ha];have xx:Be (WZ w g u (if u.BD=true then RM.Ai else m1) (if u.BD=true then[]else[j])) 0 xs ds:=by
      refine(Dm.1 OT).mono λi x c h=>?_;cases hf:u.BD with
      |true=>exact .inl ⟨hf,(RR.BD hf).1 h⟩
      |false=>exact .inr (.inr ⟨j,by simp,by simpa using h⟩)
     exact⟨ds,AcO _ _ _ _ (Be.len (λi x c h=>h.len) xx) (AaF hh h4) (Be.all (λi x c h=>h.one) xx),xx,P1,hrs,hsh⟩
   ·cases h
  ·cases h
 ·cases h
def kY(off:Nat):List Nat->List Nat
 |[]=>[]
 |[i]=>[off+i]
 |a::b::r=>a::kY off (b::r)
theorem ak(off i:Nat):∀(q:List Nat),kY off (q++[i])=q++[off+i]
 |[]=>rfl
 |[a]=>rfl
 |a::b::q=>by
  have:=ak off i (b::q);simp only[List.cons_append]at this⊢;simp only[kY,this]
def qS(kk:Option Nat)(n off:Nat)(m:RM)(rs:List Nat)(j:Nat)(r:List Nat):Sf :=
 if kk=some j then .BG n r else if j∈rs then(match m with |.Ai=>.BG n (kY off r)|.sh _=>.H8)else .BG j r
theorem dt{m m2 m':RM}(h:ux m m2=some m'):(∀j,j∈m'.Cf↔j∈m.Cf\/j∈m2.Cf)/\(m=.Ai↔m'=.Ai)/\(m'=.Ai->m2=.Ai):=by
 cases m<;>cases m2<;>simp only[ux,AGX,reduceCtorEq]at h<;>subst h<;>simp[RM.Cf]
end
section
variable {P:Program} {σ:St} {o:Oper} {en:Bd} {e:G2}
theorem X9{w:World}{g:G}{bs:List Blk}(H:Bc w g bs){t tx ty:TypeId}{ti te ZP:TI}(ht:EA P t ti)(D1:EA P ti.elem te)(Iz:ti.D4=true)(qg:EA P tx ZP)(hkx:(ZP.D4||ZP.ty==.str)=true)(Od:te.ty.row=true)(lU:te.bytes≠0)
    {er:Nat} (her:er=0\/er=ti.elem) {kk:Option Nat} {m m2 m':RM} {xs ys:List te.ty.V} {rs:List Nat} {y:AV} (dm:lr bs te.ty y=some (ys,m2,rs)) {ad:Option Addr} {cap:Nat}
    (Ug:(xs=[]/\cap=0)\/∃k b Bs ds,kk=some k/\ad=some ⟨b,0,none⟩/\g.own b=.BG k []/\Tf w b er Bs/\xs.length<=cap/\cap<=maxLen/\Bs.size=cap*te.ty.size/\Bs.toList.take (xs.length*te.ty.size)=ds/\mb w g.own k m te.ty xs ds)
    (TW:∀k,kk=some k->k∉rs/\k∉m'.Cf/\k<bs.length) (P1:∀j∈m.Cf,j∈m'.Cf/\j<bs.length) (aE:xs≠[]->(m=.Ai↔m'=.Ai)) (hj:(∀j∈m2.Cf,j∈m'.Cf)/\(m'=.Ai->m2=.Ai)) (AAm:∀j∈m'.Cf,j<bs.length) (MS:∀j∈m'.Cf,j∉rs)
    (OV:(xs.length+ys.length)*te.bytes<=140737488355328) {v:Value} (hv:BR w g bs.length y v) {P6:List Blk} (AlN:P6.length=bs.length) (Td:∀(j:Nat) (x:Blk),P6[j]?=some x->x=.AH\/(j∉kk.toList++rs/\∃y,bs[j]?=some y/\x=y.drop λi=>(kk.toList++rs).contains i)) :
    ∃r w' g',(Builtin.append_ #[t,tx] ty #[.slice ad xs.length cap,v]).run P w=.ok r w'/\Bc w' g' (P6++[.row er m' te.ty (xs++ys)])/\BR w' g' (bs.length+1) (.Ak bs.length) r/\Step (kk.toList++rs) bs.length w g w' g':=by
 obtain⟨dc,BF⟩:=dX Od;obtain⟨i,z,hi,Ks,hbi,hz,ib,_⟩:=D1.info;obtain⟨FU,hs,R8,Q4,AAH,AFP⟩:=Adj H dm hv qg hkx;have hu:=BB ht Iz;have hzs:z.cells.size=i.size:=by rw[<-Array.length_toList,ib,QI,Ks]
 let n:=bs.length
 let f:=qS kk n xs.length m' rs
 obtain ⟨ds,AbB,AbC⟩:∃ds,((xs.length=0/\cap=0/\ds=[])\/∃b Bs e0,ad=some ⟨b,0,none⟩/\(∃k,kk=some k/\g.own b=.BG k [])/\(w.heap[b]?=some (.cells Bs e0 (0,0))/\(er=0\/e0=ti.elem))/\xs.length<=cap/\cap<=maxLen/\Bs.size=cap*i.size/\Bs.toList.take (xs.length*i.size)=ds) /\
     ((xs=[]/\ds=[])\/∃k,kk=some k/\mb w g.own k m te.ty xs ds):=by
  rcases Ug with ⟨rfl,rfl⟩|⟨k,b,Bs,ds,h1,h2,h3,⟨e0,he0,h4⟩,h5,h6,h7,h8,h9⟩
  ·exact⟨[],.inl ⟨rfl,rfl,rfl⟩,.inl ⟨rfl,rfl⟩⟩
  ·exact⟨ds,.inr ⟨b,Bs,e0,h2,⟨k,h1,h3⟩,⟨h4,by rcases he0 with h |h;exact .inl h;exact her.imp id λh'=>h.trans h'⟩,h5,h6,by rw[Ks];exact h7,by rw[Ks];exact h8⟩,.inr ⟨k,h1,h9⟩⟩
 obtain⟨mj,Q0,w',DR,hos,hta,hou,Oz,VY⟩:=qT (P:=P) w t tx ty ti.elem i z hu hi hz hzs (by rw[Ks];exact BF) AbB (by rw[Ks];exact hs) (by rw[hbi];exact lU) (by rw[hbi];exact OV)
 let i':BI:=⟨mj,xs.length+ys.length,Q0,te.ty.size⟩
 have lt:∀b,g.own b≠.no->b<w.heap.size:=λb h=>Rv H h;obtain ⟨ob,rF,Tm,hh,P9⟩:∃ob:Option Nat,(∀q,ob=some q->w.heap.size<=q/\q<w'.heap.size) /\
     (∀q,q<w.heap.size->(∀k p,g.own q=.BG k p->k∉kk.toList++rs)->w'.heap[q]?=w.heap[q]?) /\
     (∀b,(g.own b=.H8\/∃j r,g.own b=.BG j r/\(kk≠some j\/r≠[]))->w'.heap[b]?=w.heap[b]?) /\
     ((xs++ys=[]/\Q0=0)\/∃b' OR,mj=some ⟨b',0,none⟩/\Tf w' b' er OR/\xs.length+ys.length<=Q0/\Q0<=maxLen/\OR.size=Q0*te.ty.size/\OR.toList.take ((xs.length+ys.length)*te.ty.size)=ds++FU/\(g.Tb f ob n i').own b'=.BG n []):=by
  rcases VY with ⟨h0,GR,rfl⟩|⟨b',OR,e1,h1,⟨h2,he1⟩,h3,h4,h5,h6,h7⟩
  ·refine⟨none,λq h=>by(cases h),λq _ _=>rfl,λb _=>rfl,.inl ⟨?_,GR⟩⟩;apply List.eq_nil_of_length_eq_zero;rw[AGZ];omega
  ·rw[Ks]at h5 h6;have h2:Tf w' b' er OR:=⟨e1,by rcases her with h |h;exact .inl h;exact he1.imp id λh'=>h'.trans h.symm,h2⟩;rcases h7 with ⟨Bs,e0,_,⟨k,hk,Ce⟩,hb,rfl⟩|⟨rfl,Bj,hkp⟩
   ·have I8:∀b,(g.own b=.H8\/∃j r,g.own b=.BG j r/\(kk≠some j\/r≠[]))->b≠b':=λb hq e=>by
      subst e;rcases hq with hq |⟨j,r,hq,hj⟩
      ·rw[Ce]at hq;cases hq
      ·rw[Ce]at hq;injection hq with e1 e2;subst e1;subst e2;rcases hj with hj |hj
       ·exact hj hk
       ·exact hj rfl
    refine⟨none,λq h=>by(cases h),du Ce (by simp[hk]),λb hb=>setRow_other w b' b OR (I8 b hb),.inr ⟨b',OR,h1,h2,h3,h4,h5,h6,?_⟩⟩;rw[HR (by simp) Ce];simp[f,qS,hk]
   ·refine⟨some w.heap.size,λq h=>by injection h with h;subst h;exact⟨AG1 _,Bj⟩,λq hq _=>hkp q hq,λb hb=>hkp b (lt b ?_),.inr ⟨_,OR,h1,h2,h3,h4,h5,h6,by simp[G.Tb]⟩⟩;rcases hb with hb |⟨j,r,hb,_⟩<;>rw[hb]<;>simp
 let g':=g.Tb f ob n i'
 have Tw:∀b j r,g.own b=.BG j r->g'.own b=f j r:=λb j r h=>HR (λe=>by
  have h1:=(rF b e).1;have h2:=lt b (by rw[h];simp);omega) h
 have YD:∀b,g.own b=.H8->g'.own b=.H8:=λb h=>TE (λe=>by
  have h1:=(rF b e).1;have h2:=lt b (by rw[h];simp);omega) h
 have st:Step (kk.toList++rs) n w g w' g':=Step.Tb H.BN hos hta hou Oz Tm (λq h=>(rF q h).1) (AG1 _) λj r _ hm=>by
  have h1:kk≠some j:=λe=>hm (by simp[e]);have h2:j∉rs:=λe=>hm (by simp[e]);simp[f,qS,h1,h2]
 have Aa0:∀j r,j∈m'.Cf->f j r=.BG j r:=λj r hj=>by
  have h1:kk≠some j:=λe=>(TW j e).2.1 hj;simp[f,qS,h1,MS j hj]
 have AbA:∀(k i:Nat) (x:te.ty.V) (c:List Value),kk=some k->xs≠[]->RR w g.own k m te.ty i x c->RR w' g'.own n m' te.ty i x c:=by
  intro k i x c hk I8 R8;refine R8.on ?_;have hd:=aE I8;cases m with
  |Ai =>
   have:m'=.Ai:=hd.1 rfl;subst this;intro b q hb;exact⟨by rw[Tw b k _ hb];simp[f,qS,hk],hh b (.inr ⟨k,_,hb,.inr (by simp)⟩)⟩
  |sh ks =>
   cases m' with
   |Ai=>have:=hd.2 rfl;cases this
   |sh Ta =>
    intro b hb;rcases hb with hb |⟨j,hj,r,hb⟩
    ·exact⟨.inl (YD b hb),hh b (.inl hb)⟩
    ·have nZ:j∈Ta:=(P1 j hj).1;exact⟨.inr ⟨j,nZ,r,by rw[Tw b j r hb];exact Aa0 j r nZ⟩,hh b (.inr ⟨j,r,hb,.inl λe=>(TW j e).2.1 nZ⟩)⟩
 have AwW:∀(i:Nat) (x:te.ty.V) (c:List Value),WZ w g te.ty m2 rs i x c->RR w' g'.own n m' te.ty (xs.length+i) x c:=by
  intro i x c R8;rcases R8 with ⟨hf,rfl⟩|⟨ks,rfl,hr⟩|⟨j,hrj,hr⟩
  ·exact(RR.BD hf).2 rfl
  ·cases m' with
   |Ai=>have:=hj.2 rfl;cases this
   |sh Ta =>
    refine G1.mono (λb hb=>?_) hr;rcases hb with hb |⟨j,Zr,r,hb⟩
    ·exact⟨.inl (YD b hb),hh b (.inl hb)⟩
    ·have nZ:j∈Ta:=hj.1 j Zr;exact⟨.inr ⟨j,nZ,r,by rw[Tw b j r hb];exact Aa0 j r nZ⟩,hh b (.inr ⟨j,r,hb,.inl λe=>(TW j e).2.1 nZ⟩)⟩
  ·have Zr:kk≠some j:=λe=>(TW j e).1 (by simp[hrj]);have gV:j∈rs:=by simp[hrj]
   refine hr.on ?_;cases m2 with
   |Ai =>
    cases m' with
    |Ai =>
     intro b q hb;refine⟨?_,hh b (.inr ⟨j,_,hb,.inl Zr⟩)⟩;rw[Tw b j _ hb];simp only[f,qS,AHe Zr,AHd gV,ak]
    |sh Ta =>
     intro b q hb;exact⟨.inl (by rw[Tw b j _ hb];simp only[f,qS,AHe Zr,AHd gV]),hh b (.inr ⟨j,_,hb,.inl Zr⟩)⟩
   |sh ks =>
    cases m' with
    |Ai=>have:=hj.2 rfl;cases this
    |sh Ta =>
     intro b hb;rcases hb with hb |⟨j',AAh,r,hb⟩
     ·exact⟨.inl (YD b hb),hh b (.inl hb)⟩
     ·have nZ:j'∈Ta:=hj.1 j' AAh;exact⟨.inr ⟨j',nZ,r,by rw[Tw b j' r hb];exact Aa0 j' r nZ⟩,hh b (.inr ⟨j',r,hb,.inl λe=>(TW j' e).2.1 nZ⟩)⟩
 have M9:g'.AU n=i':=by simp[g',G.Tb]
 refine⟨_,w',g',DR,H.XW st (LV H.BN Oz λq h=>(rF q h).2) (by simp[AlN]) λj x Qj=>?_,?_,st⟩
 ·rw[AHl]at Qj;split at Qj
  ·rcases Td j x Qj with h |h
   ·exact .inl h
   ·exact .inr (.inl h)
  ·rename_i hlen;rw[AlN]at Qj hlen;have gU:j-bs.length=0:=by
    rcases AHj (j-bs.length)with h |h
    ·exact h
    ·rw[AHz (by simp;omega)]at Qj;cases Qj
   rw[gU]at Qj;obtain rfl:j=n:=by simp only[n];omega
   simp only[List.getElem?_cons_zero,AGX]at Qj;subst Qj;refine .inr (.inr ⟨λj hj=>by have:=AAm j hj;simp[AlN];omega,by rw[M9,AGZ],by rw[M9],BF,?_⟩);rw[M9,AGZ];refine P9.imp id λ⟨b',OR,h1,h2,h3,h4,h5,h6,h7⟩=>⟨b',OR,_,h1,h7,h2,h3,h4,h5,h6,?_⟩;rw[Dm];refine Be.append ?_ ?_
   ·rcases AbC with ⟨rfl,rfl⟩|⟨k,hk,OT⟩
    ·rfl
    ·rcases Classical.em (xs=[])with hx |hx
     ·subst hx;have:ds=[]:=by cases m<;>exact OT
      subst this;rfl
     ·exact(Dm.1 OT).mono λi x c h=>AbA k i x c hk hx h
   ·rw[AHr];have shift:∀(ys:List te.ty.V) (cs:List Value) (a b:Nat),Be (WZ w g te.ty m2 rs) a ys cs->Be (RR w' g'.own n m' te.ty) (xs.length+a) ys cs:=by
     intro ys;induction ys with
     |nil=>exact λcs a _ h=>h
     |cons y ys ih =>
      intro cs a b ⟨c,d,e,h1,h2⟩;exact⟨c,d,e,AwW a y c h1,ih d (a+1) b h2⟩
    exact shift ys FU 0 0 R8
 ·refine Bn (cs:=[_]) rfl ⟨AHB _,rfl⟩ ?_;have:g'.AU bs.length=i':=M9;simp[Bv,AV.isAgg,this,i']
end
section
variable {P:Program} {σ:St} {o:Oper} {en:Bd} {e:G2} {fi:FI}
theorem tc{c:Call}{x y:AV}(h:Oj σ c.args=[x,y]):∃a b,c.args=#[a,b]/\σ.B5 a=x/\σ.B5 b=y:=by
 unfold Oj at h;cases hc:c.args with
 |mk l =>
  rw[hc]at h
  match l,h with
  |[a,b],h =>
   simp only[List.map_cons,List.map_nil,List.cons.injEq,and_true]at h;exact⟨a,b,rfl,h.1,h.2⟩
  |[],h=>simp at h
  |[_],h=>simp at h
  |_::_::_::_,h=>simp at h
theorem yR{c:Call}{x:AV}(h:Oj σ c.args=[x]):∃a,c.args=#[a]/\σ.B5 a=x:=by
 unfold Oj at h;cases hc:c.args with
 |mk l =>
  rw[hc]at h
  match l,h with
  |[a],h =>
   simp only[List.map_cons,List.map_nil,List.cons.injEq,and_true]at h;exact⟨a,rfl,h⟩
  |[],h=>simp at h
  |_::_::_,h=>simp at h
theorem sK{ts:Array TypeId}{t u:TypeId}(h:ts.toList=[t,u]):ts=#[t,u]:=by apply Array.toList_inj.1;rw[h]
theorem Jc{c:Call}(ho:o.op=.call c){b:Builtin}(hc:c.callee=.builtin b)(ρ:Operand->Value) :
    execOp ρ o=builtin b c.argTypes o.type (c.args.map λ|.const _=>true |_=>false) (c.args.map ρ):=by
 simp only[execOp,ho,resolve,hc];rfl
theorem Af3{c:Call}(ho:o.op=.call c)(hc:c.callee=.builtin .len){x:AV}(hx:Oj σ c.args=[x]){t:TypeId}{r:List TypeId}(V1:c.argTypes.toList=t::r){ti:TI}(ht:EA P t ti){z:AV}(h:kF σ.Am ti x some=some z):MP P σ o ⟨z,σ.Am,[]⟩:=by
 obtain⟨a0,ha,rfl⟩:=yR hx;refine .H9 <| KP (s:=λρ=>Builtin.len_ c.argTypes o.type #[ρ a0]) (λρ=>?_) λa w g hs=>?_
 ·rw[Jc ho hc,ha];simp[builtin]
 ·obtain⟨z',e,hG⟩:=AfJ (n:=σ.Am.length) hs.heap ht h (AO hs a0) o.type c.argTypes (by rw[<-AG9,V1];rfl);injection e with e;subst e;exact hG
theorem Ac2{c:Call}(ho:o.op=.call c){mx:Bool}(hc:c.callee=.builtin (if mx then .max else .min)){x y:AV}(hx:Oj σ c.args=[x,y]){z:AV}(h:xG mx x y some=some z):MP P σ o ⟨z,σ.Am,[]⟩:=by
 obtain⟨a0,a1,ha,rfl,rfl⟩:=tc hx;refine .H9 <| KP (s:=λρ=>if mx then Builtin.max_ c.argTypes o.type #[ρ a0,ρ a1]else Builtin.min_ c.argTypes o.type #[ρ a0,ρ a1]) (λρ=>?_) λa w g hs=>?_
 ·rw[Jc ho hc,ha];cases mx<;>simp[builtin]
 ·obtain⟨z',e,hG⟩:=Amv (n:=σ.Am.length) h (AO hs a0) (AO hs a1) o.type c.argTypes;injection e with e;subst e;exact hG
theorem Adi{w:World}{g:G}{bs:List Blk}(H:Bc w g bs){t:Ty}{y:AV}{ys:List t.V}{m:RM}{rs:List Nat}(h:lr bs t y=some (ys,m,rs)){v:Value}(hv:BR w g bs.length y v):(∀j∈m.Cf,j<bs.length):=by
 unfold lr at h;split at h
 ·simp only[AGX,AG8]at h;obtain⟨rfl,rfl,rfl⟩:=h;intro j hj;cases hj
 ·rename_i ks u xs;split at h
  ·simp only[AGX,AG8]at h;obtain⟨rfl,rfl,rfl⟩:=h;intro j hj;split at hj
   ·cases hj
   ·exact(Xm hv).1 j hj
  ·cases h
 ·split at h
  ·simp only[AGX,AG8]at h;obtain⟨rfl,rfl,rfl⟩:=h;intro j hj;cases hj
  ·cases h
 ·rename_i k;split at h
  ·rename_i el m1 u xs hb;split at h
   ·simp only[AGX,AG8]at h;obtain⟨rfl,rfl,rfl⟩:=h;intro j hj;split at hj
    ·cases hj
    ·exact(H.Lf k _ hb).1 j hj
   ·cases h
  ·cases h
 ·cases h
theorem sq{c:Call}(ho:o.op=.call c)(hc:c.callee=.builtin .append){x y:AV}(hx:Oj σ c.args=[x,y]){t tx:TypeId}(V1:c.argTypes.toList=[t,tx]){ti te ZP:TI}(ht:EA P t ti)(D1:EA P ti.elem te)(Iz:ti.D4=true)(qg:EA P tx ZP)(hkx:(ZP.D4||ZP.ty==.str)=true)
    (h:Wn fi σ.Am ti.elem te x y some=some e):MP P σ o e:=by
 obtain⟨a0,a1,ha,rfl,rfl⟩:=tc hx;have DR:∀(a:Act) (w:World) (r:Value) (w':World),(Builtin.append_ #[t,tx] o.type #[a.eval a0,a.eval a1]).run P w=.ok r w'->(execOp a.eval o).run P w=.ok (.value r) w':=by
  intro a w r w' hr;rw[Jc ho hc,ha,sK V1];simp[builtin,hr]
 have TH:∀(Gt:List Blk) (Bw:List Nat),σ.Am.length+1=Gt.length->(Bw=[]->∃l,Gt=σ.Am++l) ->
     (∀(a:Act) (w:World) (g:G),JZ w g σ a->∃r w' g',(Builtin.append_ #[t,tx] o.type #[a.eval a0,a.eval a1]).run P w=.ok r w'/\Bc w' g' Gt/\BR w' g' (σ.Am.length+1) (.Ak σ.Am.length) r/\Step Bw σ.Am.length w g w' g')->MP P σ o ⟨.Ak σ.Am.length,Gt,Bw⟩:=by
  intro Gt Bw hl hm hh;refine⟨by show σ.Am.length<=Gt.length;omega,hm,λa w g hs next Q hn=>?_⟩
  obtain⟨r,w',g',hr,hH,hv,BH⟩:=hh a w g hs;unfold Oper.wp;rw[DR a w r w' hr];exact hn r w' g' hH (by show BR w' g' Gt.length _ _;rw[<-hl];exact hv) BH
 have hlen:∀(Bw l:List Nat),(Blk.Gg (A8 Bw σ.Am) l).length=σ.Am.length:=λBw l=>by rw[A3,Ay]
 unfold Wn at h;split at h
 ·rename_i hzs;split at h
  ·cases h
  ·rename_i vY;have Z3:(te.ty.row&&te.bytes !=0)=true:=by simpa using vY
   rw[AG2]at Z3;have lU:te.bytes≠0:=by simpa using Z3.2
   split at h
   ·rename_i ys m2 rs dm;split at h
    ·rename_i m' hj;split at h
     ·rename_i MS;split at h
      ·rename_i OV;injection h with h;subst h;refine TH _ _ (by rw[AGZ,hlen];rfl) (λh=>⟨[.row ti.elem m' te.ty ys],by have h:rs=[]:=h;rw[h];rfl⟩) λa w g hs=>?_;have xD:=AO hs a0;rw[hzs]at xD;obtain⟨ad,xD⟩:=VG xD;rw[xD];have Vj:(∀j∈m'.Cf,j∈m2.Cf)/\(∀j∈m2.Cf,j∈m'.Cf)/\(m'=.Ai->m2=.Ai):=by
        obtain⟨h1,h2,h3⟩:=dt hj;refine⟨λj hj=>?_,λj hj=>(h1 j).2 (.inr hj),h3⟩;rcases(h1 j).1 hj with h |h
        ·cases m2 with
         |Ai=>rw[SI]at h;cases h
         |sh ks=>exact h
        ·exact h
       have:=X9 (er:=ti.elem) (her:=.inr rfl) (kk:=none) (m:=.Ai) (xs:=([]:List te.ty.V)) (cap:=0) (ad:=ad) (m':=m') (P6:=Blk.Gg (A8 rs σ.Am) rs) (ty:=o.type) hs.heap ht D1 Iz qg hkx Z3.1 lU dm (.inl ⟨rfl,rfl⟩) (λk hk=>by cases hk) (λj hj=>by cases hj) (λh=>(h rfl).elim) Vj.2
        (λj hj=>Adi hs.heap dm (AO hs a1) j (Vj.1 j hj)) (Un MS) (by simpa using OV) (AO hs a1) (hlen rs rs) (λj x hx=>by
         rcases J6 hx with h |⟨gV,h⟩
         ·exact .inl h
         ·obtain⟨y',aL,rfl⟩:=C4 h;exact .inr ⟨by simpa using gV,y',aL,rfl⟩)
       simpa using this
      ·cases h
     ·cases h
    ·cases h
   ·cases h
 ·rename_i k hk;split at h
  ·cases h
  ·rename_i vY;have Z3:(te.ty.row&&te.bytes !=0)=true:=by simpa using vY
   rw[AG2]at Z3;have lU:te.bytes≠0:=by simpa using Z3.2
   split at h
   ·rename_i e' m t' xs0 ys m2 rs hb dm;split at h
    ·rename_i xs m' nV hj;split at h
     ·rename_i nX;split at h
      ·rename_i OV;injection h with h;subst h;obtain⟨he,hrk,MS⟩:=nX;obtain⟨ec,hec⟩:=BA nV;injection ec with ec;subst ec;simp only at hec;subst hec;have rC:k∉rs:=by simpa using hrk
       have Vh:=Un MS;refine TH _ _ (by rw[AGZ,hlen];rfl) (λh=>by cases h) λa w g hs=>?_;have xD:=AO hs a0;rw[hk]at xD;obtain⟨dh,xD⟩:=FJ xD;obtain⟨PZ,hl,OU,BF,hrr⟩:=hs.heap.Lf k _ hb;rw[xD,hl];obtain⟨h1,h2,h3⟩:=dt hj;have Q4:=Adi hs.heap dm (AO hs a1);have:=X9 (er:=e') (her:=he.symm.imp id λh=>h.1.symm) (kk:=some k) (m:=m) (xs:=xs0) (ad:=(g.AU k).a) (cap:=(g.AU k).cap) (m':=m') (P6:=Blk.Gg (A8 (k::rs) σ.Am) (k::rs)) (ty:=o.type) hs.heap ht D1 Iz qg hkx Z3.1 lU dm
        (hrr.imp id λ⟨b,Bs,ds,p1,p2,p3,p4,p5,p6,p7,p8⟩=>⟨k,b,Bs,ds,rfl,p1,p2,p3,p4,p5,p6,p7,p8⟩)
        (λk' TV=>by injection TV with TV;subst TV;exact⟨rC,λh=>Vh k h (by simp),dh⟩) (λj hj=>⟨(h1 j).2 (.inl hj),PZ j hj⟩) (λ_=>h2) ⟨λj hj=>(h1 j).2 (.inr hj),h3⟩
        (λj hj=>by rcases(h1 j).1 hj with h |h;exact PZ j h;exact Q4 j h) (λj hj h=>Vh j hj (AHn _ h)) OV (AO hs a1) (hlen (k::rs) (k::rs)) (λj x hx=>by
         rcases J6 hx with h |⟨gV,h⟩
         ·exact .inl h
         ·obtain⟨y',aL,rfl⟩:=C4 h;exact .inr ⟨by simpa using gV,y',aL,rfl⟩)
       simpa using this
      ·cases h
     ·cases h
    ·cases h
   ·cases h
 ·cases h
theorem Af0{t:TypeId}{x:Operand}{hi:Option Operand}(ho:o.op=.slice t x none hi none){ti:TI}(ht:EA P t ti)(Iz:ti.D4=true){te:TI}(D1:EA P ti.elem te)
    (h:vz te.ty σ.Am (σ.B5 x) (hi.map σ.B5) some=some e):MP P σ o e:=by
 unfold vz at h;split at h
 ·rename_i k ks kk hv hx hh;split at h
  ·rename_i el m tr xs hb;split at h
   ·rename_i MS;obtain⟨MS,v7⟩:=MS;subst v7;split at h
    ·rename_i hc;injection h with h;subst h;obtain⟨h0,h1⟩:=hc;refine⟨by simp[A3,Ay],λh=>by(cases h),λa w g hs next Q hn=>?_⟩
     have H:=hs.heap;have uv:=AO hs x;rw[hx]at uv;obtain⟨hk,oz⟩:=FJ uv;obtain⟨PZ,hlen,OU,BF,hr⟩:=H.Lf k _ hb;have ug:=WI hs hi;rw[hh]at ug;obtain⟨lX,hve⟩:∃v,hi.map a.eval=some v/\v=.int kk hv:=by
      cases hq:hi.map a.eval with
      |none=>rw[hq]at ug;exact ug.elim
      |some v=>rw[hq]at ug;exact⟨v,rfl,Dc ug⟩
     obtain⟨AAZ,Axh⟩:=hve;subst Axh;have Zp:(g.AU k).len<=(g.AU k).cap:=by
      rw[hlen];rcases hr with ⟨rfl,GR⟩|⟨b,Bs,ds,_,_,_,h1,_⟩
      ·simp
      ·exact h1
     have ru:(if(g.AU k).cap=0 then(g.AU k).a else(g.AU k).a.map (·.add (0*te.ty.size)))=(g.AU k).a:=by
      split
      ·rfl
      ·rename_i GR;rcases hr with ⟨_,OS⟩|⟨b,Bs,ds,ha,_⟩
       ·exact(GR OS).elim
       ·rw[ha];simp[WV]
     have DR:(execOp a.eval o).run P w=.ok (.value (.slice (g.AU k).a hv.toNat (g.AU k).cap)) w:=by
      have fC:=Qg (P:=P) (w:=w) (isS:=true) (len:=(g.AU k).len) (cap:=(g.AU k).cap) (lo:=none) (hi:=some (.int kk hv)) (l:=0) (h:=hv) (.inl ⟨rfl,rfl⟩) (.inr ⟨kk,rfl⟩) (Int.le_refl _) h0 (by rw[hlen];exact h1) Zp;have:(Instr.sliceAt t (.slice (g.AU k).a (g.AU k).len (g.AU k).cap) none (some (.int kk hv)) none).run P w=.ok (.slice (g.AU k).a hv.toNat (g.AU k).cap) w:=by
       rw[Km ht Iz];simp[Instr.slice,underlying,BB ht Iz,fC,Dn D1];simpa using ru
      simp[execOp,ho,oz,AAZ,this]
     unfold Oper.wp;rw[DR]
     let n:=σ.Am.length
     let i':BI:=⟨(g.AU k).a,hv.toNat,(g.AU k).cap,te.ty.size⟩
     let f:Nat->List Nat->Sf:=λj r=>if j=k then .BG n r else .BG j r
     let g':=g.Tb f none n i'
     have st:Step [k] n w g w g':=Step.Tb H.BN rfl rfl rfl (AG1 _) (λ_ _ _=>rfl) (λq h=>by cases h) (AG1 _) λj r _ hm=>by
      simp only[AHm]at hm;simp[f,hm]
     have M9:g'.AU n=i':=by simp[g',G.Tb]
     have hvl:hv.toNat<=xs.length:=by have h1':(hv:Int)<=(xs.length:Int):=h1;exact Int.toNat_le.2 h1'
     have Vh:=Un MS;refine hn _ w g' (H.XW st (LV H.BN (AG1 _) λq h=>by cases h) (by simp[A3,Ay]) λj y hj=>?_) ?_ st
     ·rw[AHl]at hj;split at hj
      ·rcases J6 hj with h |⟨gV,h⟩
       ·exact .inl h
       ·obtain⟨y',aL,rfl⟩:=C4 h;exact .inr (.inl ⟨gV,y',aL,rfl⟩)
      ·rename_i Bj;rw[A3,Ay]at hj Bj;have gU:j-σ.Am.length=0:=by
        rcases AHj (j-σ.Am.length)with h |h
        ·exact h
        ·rw[AHz (by simp;omega)]at hj;cases hj
       rw[gU]at hj;obtain rfl:j=n:=by simp only[n];omega
       simp only[List.getElem?_cons_zero,AGX]at hj;subst hj;refine .inr (.inr ⟨λj hj=>by have:=PZ j hj;simp[A3,Ay];omega,by rw[M9,AHg];simp only[i'];omega,by rw[M9],BF,?_⟩);rw[M9];rcases hr with ⟨rfl,GR⟩|⟨b,Bs,ds,ha,Ce,Abe,p1,p2,p3,p4,OT⟩
       ·exact .inl ⟨by simp,GR⟩
       ·refine .inr ⟨b,Bs,ds.take (hv.toNat*te.ty.size),ha,by rw[HR (by simp) Ce];simp[f],Abe,by rw[AHg];simp only[i'];omega,p2,p3,?_,?_⟩
        ·rw[AHg,Nat.min_eq_left hvl,<-p4,List.take_take,Nat.min_eq_left (Nat.mul_le_mul_right _ hvl)]
        ·rw[Dm];refine(Be.takeN (λi x c h=>RR.len h) hv.toNat (Dm.1 OT)).mono λi x c R8=>R8.on ?_;cases m with
         |Ai=>exact λb q hb=>⟨by rw[HR (by simp) hb];simp[f],rfl⟩
         |sh ks =>
          intro b hb;rcases hb with hb |⟨j,hj,r,hb⟩
          ·exact⟨.inl (TE (by simp) hb),rfl⟩
          ·refine⟨.inr ⟨j,hj,r,?_⟩,rfl⟩;have:j≠k:=λe=>Vh j hj (by simp[e]);rw[HR (by simp) hb];simp[f,this]
     ·refine Bn (cs:=[_]) rfl ⟨by simp[A3,Ay],rfl⟩ ?_;have:g'.AU σ.Am.length=i':=M9;simp[Bv,AV.isAgg,this,i']
    ·cases h
   ·cases h
  ·cases h
 ·cases h
theorem xu(w:World)(t tx ty e:TypeId)(i:TypeInfo)(z:Value)(ht:P.underlying t=some (.slice e)){k':IntKind}(hk:P.underlying tx=some (.int k'))(hi:P.info? e=some i)(hz:i.zero=some z)(ad:Option Addr)(k:IntKind)(l:Int)(h0:0<=l)(OV:l*(i.bytes:Int)<=140737488355328)(hb:i.bytes≠0)(hs:i.size≠0) :
    (l=0/\(Builtin.append_ #[t,tx] ty #[.slice ad 0 0,.int k l]).run P w=.ok (.slice ad 0 0) w)\/(0<l /\
     (Builtin.append_ #[t,tx] ty #[.slice ad 0 0,.int k l]).run P w=.ok (.slice (some ⟨w.heap.size,0,none⟩) l.toNat (grownCap w l.toNat 0 e)) (w.drew.alloc (.cells (Builtin.zeroCells z.cells l.toNat++Builtin.zeroCells z.cells (grownCap w l.toNat 0 e-l.toNat)) e))):=by
 have RX:l<=140737488355328:=by
  have h1:(1:Int)<=(i.bytes:Int):=by omega
  have:=Int.mul_le_mul_of_nonneg_left h1 h0;omega
 have hw:IntKind.i64.wrap l=l:=by rw[IntKind.wrap_i64];omega
 have n1:¬l<0:=by omega
 have n2:¬(281474976710656<l*(i.bytes:Int)):=by omega
 rcases Int.le_iff_lt_or_eq.1 h0 with hp |hp
 ·refine .inr ⟨hp,?_⟩;have hn:¬(l.toNat=0):=by omega
  have hn':¬(l<=0):=by omega
  have hns:¬(l.toNat*i.size=0):=λh=>by rcases Nat.mul_eq_zero.1 h with h |h;exact hn h;exact hs h
  have h48:¬(281474976710656<Builtin.nextslicecap l.toNat 0*i.bytes):=by
   unfold Builtin.nextslicecap;rw[AHd (by omega)];have:((l.toNat*i.bytes:Nat):Int)=l*(i.bytes:Int):=by rw[Int.natCast_mul,Int.toNat_of_nonneg h0]
   omega
  have h63:¬(9223372036854775807<max l 0):=by omega
  have hf:(Builtin.firstCells i.size 0 (.slice ad 0 0)).run P w.drew=.ok #[] w.drew:=by
   cases ad with
   |none=>exact run_firstCells_none w.drew i.size 0 0 0
   |some a=>exact run_firstCells_some w.drew i.size 0 a 0 0 [] (by simp) (by simp)
  simp[Builtin.append_,run_underlying ht,run_underlying hk,sizeOf,typeInfo,zeroValue,asInt,asIntOf,hi,hz,hw,n1,n2,hn',h63,h48,hns,Question.forced,hf,newRow,grownCap]
 ·subst hp;refine .inl ⟨rfl,?_⟩;cases ad<;>simp[Builtin.append_,run_underlying ht,run_underlying hk,sizeOf,typeInfo,asInt,asIntOf,hi,IntKind.wrap_i64,storeCells]
theorem xt(l:Int)(b:Nat)(h0:0<=l)(h:l*(b:Int)<=140737488355328)(hb:b≠0):l.toNat<=maxLen:=by
 have h1:(1:Int)<=(b:Int):=by omega
 have:=Int.mul_le_mul_of_nonneg_left h1 h0;simp only[maxLen];omega
theorem jf(z:Array Value)(n:Nat):Builtin.zeroCells z n=madeCells z (n*z.size):=rfl
theorem pj{c:Call}(ho:o.op=.call c)(hc:c.callee=.builtin .append){x y:AV}(hx:Oj σ c.args=[x,y]){t tx:TypeId}(V1:c.argTypes.toList=[t,tx]){ti te ZP:TI}(ht:EA P t ti)(D1:EA P ti.elem te)(Iz:ti.D4=true)(qg:EA P tx ZP)(hkx:ZP.ty.isInt=true)
    (h:Wo fi σ.Am ti.elem te x y some=some e):MP P σ o e:=by
 obtain⟨a0,a1,ha,Vk,aK⟩:=tc hx;obtain⟨k',TV⟩:∃k',ZP.ty=.int k':=by
  cases hq:ZP.ty with
  |int k=>exact⟨k,rfl⟩
  |_=>rw[hq]at hkx;cases hkx
 unfold Wo at h;split at h
 ·rename_i ks k l;split at h
  ·rename_i Od;split at h
   ·rename_i hl;injection h with h;subst h;obtain⟨dc,BF⟩:=dX Od.1;obtain⟨i,z,hi,Ks,hbs,hz,ib,_⟩:=D1.info;refine⟨by simp,λ_=>⟨_,rfl⟩,λa w g hs next Q hn=>?_⟩
    have e1:=AO hs a0;rw[Vk]at e1;obtain⟨ad,e1⟩:=VG e1;have e2:=AO hs a1;rw[aK]at e2;have e2:=Dc e2;have hzz:z.cells.size=i.size:=by rw[Ks,<-Array.length_toList,ib,QI]
    have W2:∀(r:Value) (w':World),(Builtin.append_ #[t,tx] o.type #[.slice ad 0 0,.int k l]).run P w=.ok r w'->(execOp a.eval o).run P w=.ok (.value r) w':=λr w' hr=>by
     rw[Jc ho hc,ha,sK V1];simp[builtin,e1,e2,hr]
    unfold Oper.wp;rcases xu (P:=P) w t tx o.type ti.elem i z (BB ht Iz) (Sb qg TV) hi hz ad k l hl.1 (by rw[hbs];exact hl.2) (by rw[hbs];exact Od.2) (by omega)with ⟨h0,hr⟩|⟨hp,hr⟩
    ·subst h0;rw[W2 _ _ hr]
     let g':G:=⟨g.own,λk=>if k=σ.Am.length then⟨ad,0,0,te.ty.size⟩else g.AU k⟩
     have st:Step [] σ.Am.length w g w g':=⟨rfl,rfl,rfl,AG1 _,λ_ _ h=>⟨h,rfl⟩,λ_ h=>⟨h,rfl⟩,λ_ _ _ h _ _=>⟨h,rfl⟩,λk hk=>by simp only[g'];rw[AHe (by omega)]⟩;have ha0:g'.AU σ.Am.length=⟨ad,0,0,te.ty.size⟩:=by simp[g']
     refine hn _ w g' (hs.heap.push st hs.heap.BN ?_) ?_ st
     ·refine⟨(by rw[SI];intro j hj;cases hj),by rw[ha0];rfl,by rw[ha0],BF,.inl ⟨rfl,by rw[ha0]⟩⟩
     ·refine Bn (cs:=[_]) rfl ⟨by simp,rfl⟩ ?_;simp[Bv,AV.isAgg,ha0]
    ·rw[W2 _ _ hr];have vU:l.toNat<=maxLen:=xt l te.bytes hl.1 hl.2 Od.2;have YW:=grownCap_ge w l.toNat 0 ti.elem;have RX:=grownCap_le_maxLen w l.toNat 0 ti.elem vU;have st:=(Step.drew [] σ.Am.length w g).trans (Step.add hs.heap.drew (.cells (Builtin.zeroCells z.cells l.toNat++Builtin.zeroCells z.cells (grownCap w l.toNat 0 ti.elem-l.toNat)) ti.elem) ⟨some ⟨w.heap.size,0,none⟩,l.toNat,grownCap w l.toNat 0 ti.elem,te.ty.size⟩) (AG1 _);refine hn _ _ _ (hs.heap.drew.new ?_) ?_ st
     ·refine⟨(by rw[SI];intro j hj;cases hj),by simp[G.add],by simp[G.add],BF,.inr ⟨w.heap.size,_,_,by simp[G.add],by simp[G.add],⟨_,.inr rfl,heap_alloc_new w.drew _⟩,by simpa [G.add]using YW,by simpa [G.add]using RX,?_,rfl,?_⟩⟩
      ·simp only[G.add,if_true,Array.size_append,jf,size_madeCells,hzz,Ks,<-Nat.add_mul];congr 1;omega
      ·rw[AHs,Array.toList_append,jf,hzz,Ks];have hk:(madeCells z.cells (l.toNat*te.ty.size)).toList.length=l.toNat*te.ty.size:=by rw[Array.length_toList,size_madeCells]
       rw[List.take_append_of_le_length (by rw[hk];exact AG1 _),Zy z.cells (by rw[hzz,Ks]) BF (AG1 _)];exact jg dc (by show z.cells.toList=_;exact ib) _ fi
     ·refine Bn (cs:=[_]) rfl ⟨by simp,rfl⟩ ?_;simp[Bv,AV.isAgg,G.add]
   ·cases h
  ·cases h
 ·cases h
end
section
variable {P:Program} {σ:St} {o:Oper}
theorem AcU{t:TypeId}{x lo:Operand}(ho:o.op=.slice t x (some lo) none none){ti te:TI}(ht:EA P t ti)(Iz:ti.D4=true)(D1:EA P ti.elem te){k:Nat}{ks:List Nat}{kk:IntKind}{l:Int}(hx:σ.B5 x=.Ak k)(xB:σ.B5 lo=.AA ks (.int kk) l)
    {el:Nat} {xs:List te.ty.V} (hb:σ.Am[k]?=some (.tail el te.ty xs)) (h0:0<=l) (h1:l<=(xs.length:Int)) :
    MP P σ o ⟨.Ak σ.Am.length,Blk.Gg (A8 [k] σ.Am) [k]++[.tail el te.ty (xs.drop l.toNat)],[k]⟩:=by
 refine⟨by simp[A3,Ay],λh=>by(cases h),λa w g hs next Q hn=>?_⟩
 have H:=hs.heap;have uv:=AO hs x;rw[hx]at uv;obtain⟨hk,oz⟩:=FJ uv;obtain⟨hf,hlen,OU,BF,hr⟩:=H.Lf k _ hb;have vS:=AO hs lo;rw[xB]at vS;have vS:a.eval lo=.int kk l:=Dc vS;have Zp:(g.AU k).len<=(g.AU k).cap:=by
  rw[hlen];rcases hr with ⟨rfl,GR⟩|⟨b,o',Bs,ds,_,_,_,h1,_⟩
  ·simp
  ·exact h1
 have hvl:l.toNat<=xs.length:=Int.toNat_le.2 h1;obtain⟨ad,ru⟩:∃ad,ad=(if(g.AU k).cap=l.toNat then(g.AU k).a else(g.AU k).a.map (·.add (l.toNat*te.ty.size))):=⟨_,rfl⟩;have DR:(execOp a.eval o).run P w=.ok (.value (.slice ad ((g.AU k).len-l.toNat) ((g.AU k).cap-l.toNat))) w:=by
  have fC:=Qg (P:=P) (w:=w) (isS:=true) (len:=(g.AU k).len) (cap:=(g.AU k).cap) (lo:=some (.int kk l)) (hi:=none) (l:=l) (h:=((g.AU k).len:Int)) (.inr ⟨kk,rfl⟩) (.inl ⟨rfl,rfl⟩) h0 (by rw[hlen];exact h1) (Int.le_refl _) Zp;have:(Instr.sliceAt t (.slice (g.AU k).a (g.AU k).len (g.AU k).cap) (some (.int kk l)) none none).run P w=.ok (.slice ad ((g.AU k).len-l.toNat) ((g.AU k).cap-l.toNat)) w:=by
   rw[Km ht Iz];simp[Instr.slice,underlying,BB ht Iz,fC,Dn D1,ru]
  simp[execOp,ho,oz,vS,this]
 unfold Oper.wp;rw[DR]
 let n:=σ.Am.length
 let i':BI:=⟨ad,(g.AU k).len-l.toNat,(g.AU k).cap-l.toNat,te.ty.size⟩
 let f:Nat->List Nat->Sf:=λj r=>if j=k then .BG n r else .BG j r
 let g':=g.Tb f none n i'
 have st:Step [k] n w g w g':=Step.Tb H.BN rfl rfl rfl (AG1 _) (λ_ _ _=>rfl) (λq h=>by cases h) (AG1 _) λj r _ hm=>by
  simp only[AHm]at hm;simp[f,hm]
 have M9:g'.AU n=i':=by simp[g',G.Tb]
 refine hn _ w g' (H.XW st (LV H.BN (AG1 _) λq h=>by cases h) (by simp[A3,Ay]) λj y hj=>?_) ?_ st
 ·rw[AHl]at hj;split at hj
  ·rcases J6 hj with h |⟨gV,h⟩
   ·exact .inl h
   ·obtain⟨y',aL,rfl⟩:=C4 h;exact .inr (.inl ⟨gV,y',aL,rfl⟩)
  ·rename_i Bj;rw[A3,Ay]at hj Bj;have gU:j-σ.Am.length=0:=by
    rcases AHj (j-σ.Am.length)with h |h
    ·exact h
    ·rw[AHz (by simp;omega)]at hj;cases hj
   rw[gU]at hj;obtain rfl:j=n:=by simp only[n];omega
   simp only[List.getElem?_cons_zero,AGX]at hj;subst hj;refine .inr (.inr ⟨hf,by rw[M9,AHv];simp only[i'];omega,by rw[M9],BF,?_⟩);rw[M9];rcases hr with ⟨rfl,GR⟩|⟨b,off,Bs,ds,ha,Ce,Abe,p1,p2,p3,p4,OT⟩
   ·exact .inl ⟨by simp,by simp only[i'];omega⟩
   ·rcases AHj ((g.AU k).cap-l.toNat)with hz |hz
    ·exact .inl ⟨by apply List.eq_nil_of_length_eq_zero;rw[AHv];omega,hz⟩
    ·have S8:=congrArg List.length p4;refine .inr ⟨b,off+l.toNat*te.ty.size,Bs,ds.drop (l.toNat*te.ty.size),?_,by rw[HR (by simp) Ce];simp[f],Abe,by rw[AHv];simp only[i'];omega,by simp only[i'];omega,?_,?_,?_⟩
     ·show ad=_;rw[ru,AHe (by omega),ha];simp[WV]
     ·simp only[i'];rw[p3,Nat.add_assoc,<-Nat.add_mul];congr 2;omega
     ·rw[AHv,<-p4,<-List.drop_drop,List.drop_take,<-Nat.sub_mul]
     ·rw[Dm];have ia:=HB (j:=0).2 ((Dm.1 OT).mono λi x c h=>(RR.BD hf).1 h);exact(HB (j:=0).1 (ia.AaM (s:=te.ty.size) (λx c h=>RR.len (w:=w) (own:=g.own) (k:=k) (m:=.Ai) (i:=0) ((RR.BD hf).2 h)) l.toNat)).mono λi x c h=>(RR.BD hf).2 h
 ·refine Bn (cs:=[_]) rfl ⟨by simp[A3,Ay],rfl⟩ ?_;have:g'.AU σ.Am.length=i':=M9;simp[Bv,AV.isAgg,this,i']
theorem AcX{t:TypeId}{x y:Operand}(ho:o.op=.indexAddr t x y){ti te:TI}(ht:EA P t ti)(Iz:ti.D4=true)(D1:EA P ti.elem te){k:Nat}{ks:List Nat}{kk:IntKind}{i:Int}(hx:σ.B5 x=.Ak k)(hy:σ.B5 y=.AA ks (.int kk) i)
    {el:Nat} {xs:List te.ty.V} (hb:σ.Am[k]?=some (.tail el te.ty xs)) (h0:0<=i) (h1:i<(xs.length:Int)) :
    MP P σ o ⟨.Eh [k] te.ty (xs.getD i.toNat te.ty.zero),σ.Am,[]⟩ :=
 .H9 <| KP (s:=λρ=>Instr.indexAt t (ρ x) (ρ y)) (λρ=>by simp[execOp,ho]) λa w g BH=>by
  have H:=BH.heap;have uv:=AO BH x;rw[hx]at uv;obtain⟨hk,oz⟩:=FJ uv;obtain⟨hf,hlen,OU,BF,hr⟩:=H.Lf k _ hb;have hyv:=AO BH y;rw[hy]at hyv;have hyv:a.eval y=.int kk i:=Dc hyv;have Bj:i.toNat<xs.length:=Us ⟨h0,h1⟩;have hu:=BB ht Iz;rcases hr with ⟨Vk,_⟩|⟨b,off,Bs,ds,ha,Ce,⟨el',R8,hh⟩,p1,p2,p3,p4,OT⟩
  ·subst Vk;simp at Bj
  ·have ia:=HB (j:=0).2 ((Dm.1 OT).mono λi x c h=>(RR.BD hf).1 h);obtain⟨c0,c,d,e1,bl,Z3,_,_⟩:=Cr.AU (s:=te.ty.size) (λx c h=>RR.len (w:=w) (own:=g.own) (k:=k) (m:=.Ai) (i:=0) ((RR.BD hf).2 h)) ia Bj;refine⟨.pointer (some ⟨b,off+i.toNat*te.ty.size,none⟩),?_,?_⟩
   ·rw[oz,hyv];simp[Instr.indexAt,asIntOf,underlying,hu,h0,h1,Dn D1,ha,hlen,WV]
   ·rw[AG _ _ _ Bj];refine ZB (ks:=[k]) (by simpa using hk) (.inr ⟨k,by simp,[],Ce⟩) ((G1.BD hf).2 Z3) λj q hq=>?_;have fG:ds[i.toNat*te.ty.size+j]?=some q:=by
     rw[e1,AG3,AHh (by omega),show i.toNat*te.ty.size+j-c0.length=j by omega,AHi (AP hq)];exact hq
    rw[<-p4,List.getElem?_take]at fG;split at fG
    ·rw[List.getElem?_drop]at fG;rw[Nat.add_assoc,OZ hh,<-AG9];exact fG
    ·cases fG
theorem AcY{c:Call}(ho:o.op=.call c)(hc:c.callee=.builtin .len){k:Nat}(hx:Oj σ c.args=[.Ak k]){t:TypeId}(V1:c.argTypes.toList=[t]){ti:TI}(ht:EA P t ti)(Iz:ti.D4=true)
    {el:Nat} {u:Ty} {xs:List u.V} (hb:σ.Am[k]?=some (.tail el u xs)):MP P σ o ⟨.int .i64 (xs.length:Int),σ.Am,[]⟩:=by
 obtain⟨a0,ha,hz⟩:=yR hx;refine .H9 <| KP (s:=λρ=>Builtin.len_ c.argTypes o.type #[ρ a0]) (λρ=>?_) λa w g hs=>?_
 ·rw[Jc ho hc,ha];simp[builtin]
 ·have uv:=AO hs a0;rw[hz]at uv;obtain⟨hk,he⟩:=FJ uv;have hl:=(hs.heap.Lf k _ hb).2.1;have AAR:c.argTypes[0]?=some t:=by rw[<-AG9,V1];rfl
  rw[he];exact B3 (by simp[Builtin.len_,AAR,underlying,BB ht Iz,goInt,hl])
theorem wQ(w:World)(t tx ty e:TypeId)(i:TypeInfo)(ht:P.underlying t=some (.slice e))(hi:P.info? e=some i)
    (b off XP sf:Nat) (Bs:Array Value) {e0:TypeId} (hg:w.heap[b]?=some (.cells Bs e0 (0,0))) (x:Value) (n:Nat) (FU:List Value) (hs:Src P i.size tx x n FU w) (VZ:XP+n<=sf) (OV:off+XP*i.size+FU.length<=Bs.size) :
    (Builtin.append_ #[t,tx] ty #[.slice (some ⟨b,off,none⟩) XP sf,x]).run P w =
     .ok (.slice (some ⟨b,off,none⟩) (XP+n) sf) (w.setRow b (Bs.toList.take (off+XP*i.size)++FU++Bs.toList.drop (off+XP*i.size+FU.length)).toArray):=by
 have BH:=run_storeCells_at P b (off+XP*i.size) e0 FU 0 Bs w hg (by simpa using OV) hs.one;simp only[Nat.add_zero]at BH;rcases hs.kind with ⟨e',hk⟩|hk<;>simp[Builtin.append_,run_underlying ht,run_underlying hk,sizeOf,typeInfo,hi,hs.len,VZ,hs.cells,WV,BH]
theorem mq(w:World)(t tx ty e:TypeId)(i:TypeInfo)(z:Value)(ht:P.underlying t=some (.slice e))(hi:P.info? e=some i)(hz:i.zero=some z)(hzs:z.cells.size=i.size)(BF:0<i.size)
    {Pw:Nat->Prop} {Ek:Prop} {ad:Option Addr} {len cap:Nat} {ds:List Value} (Ug:(len=0/\cap=0/\ds=[])\/∃b off Bs e0,ad=some ⟨b,off,none⟩/\Pw b/\(w.heap[b]?=some (.cells Bs e0 (0,0))/\(Ek\/e0=e))/\len<=cap/\cap<=maxLen/\Bs.size=off+cap*i.size/\(Bs.toList.drop off).take (len*i.size)=ds)
    {x:Value} {n:Nat} {FU:List Value} (hs:Src P i.size tx x n FU w) (lU:i.bytes≠0) (OV:(len+n)*i.bytes<=140737488355328) :
    ∃mj Q0 w',(Builtin.append_ #[t,tx] ty #[.slice ad len cap,x]).run P w=.ok (.slice mj (len+n) Q0) w'/\w'.os=w.os/\w'.tape=w.tape/\w'.output=w.output/\w.heap.size<=w'.heap.size /\
     ((len+n=0/\Q0=0/\w'=w)\/∃b' off OR e1,mj=some ⟨b',off,none⟩/\(w'.heap[b']?=some (.cells OR e1 (0,0))/\(Ek\/e1=e))/\len+n<=Q0/\Q0<=maxLen/\OR.size=off+Q0*i.size/\(OR.toList.drop off).take ((len+n)*i.size)=ds++FU /\
      ((Pw b'/\w'=w.setRow b' OR)\/(b'=w.heap.size/\b'<w'.heap.size/\∀q,q<w.heap.size->w'.heap[q]?=w.heap[q]?))):=by
 have Al7:len+n<=140737488355328:=AHp (Nat.le_mul_of_pos_right _ (Nat.pos_of_ne_zero lU)) OV;have h63:((len+n:Nat):Int)<=9223372036854775807:=by omega
 have vU:len+n<=maxLen:=by simp only[maxLen];omega
 have bj:ds.length=len*i.size:=by
  rcases Ug with ⟨h1,h2,h3⟩|⟨b,off,Bs,e0,h1,_,h2,h3,h4,h5,h6⟩
  ·subst h1;subst h3;simp
  ·rw[<-h6,AHg,AHv,Array.length_toList,h5,Nat.add_sub_cancel_left];exact Nat.min_eq_left (Nat.mul_le_mul_right _ h3)
 by_cases VZ:len+n<=cap
 ·rcases Ug with ⟨rfl,rfl,rfl⟩|⟨b,off,Bs,e0,rfl,hpw,⟨hb,hek⟩,h3,h4,h5,h6⟩
  ·obtain rfl:n=0:=by omega
   exact⟨ad,0,w,oR w t tx ty e i ht hi ad x FU hs,rfl,rfl,rfl,AG1 _,.inl ⟨rfl,rfl,rfl⟩⟩
  ·have RX:off+len*i.size+FU.length<=Bs.size:=by
     rw[hs.newsLen,h5,Nat.add_assoc,<-Nat.add_mul];exact Nat.add_le_add_left (Nat.mul_le_mul_right _ VZ) _
   refine⟨_,cap,_,wQ w t tx ty e i ht hi b off len cap Bs hb x n FU hs VZ RX,rfl,rfl,rfl,by simp,.inr ⟨b,off,_,e0,rfl,⟨setRow_heap w b Bs _ e0 (0,0) hb,hek⟩,VZ,h4,?_,?_,.inl ⟨hpw,rfl⟩⟩⟩
   ·simp only[List.size_toArray,AGZ,AHg,AHv,Array.length_toList];omega
   ·rw[List.toList_toArray];have e1:Bs.toList.take (off+len*i.size)=Bs.toList.take off++ds:=by rw[<-h6,List.take_add]
    have:(len+n)*i.size=(ds++FU).length:=by rw[AGZ,bj,hs.newsLen,Nat.add_mul]
    rw[e1,AG3,AG3,List.drop_left' (by rw[AHg,Array.length_toList];omega),<-AG3,this,List.take_left]
 ·have xA:cap<len+n:=by omega
  have holds:(Builtin.firstCells i.size len (.slice ad len cap)).run P w.drew=.ok ds.toArray w.drew:=by
   rcases Ug with ⟨rfl,rfl,rfl⟩|⟨b,off,Bs,e0,rfl,hpw,⟨hb,hek⟩,h3,h4,h5,h6⟩
   ·cases ad with
    |none=>exact run_firstCells_none w.drew i.size 0 0 0
    |some a=>exact run_firstCells_some w.drew i.size 0 a 0 0 [] (by simp) (by simp)
   ·refine run_firstCells_some w.drew i.size len _ len cap ds bj λj u hu=>?_;rw[WV];show w.cell? ⟨b,off+j,none⟩=some u;rw[OZ hb,<-AG9];rw[<-h6,List.getElem?_take]at hu;split at hu
    ·rw[List.getElem?_drop]at hu;exact hu
    ·cases hu
  have hr:=run_append_grow_src (P:=P) w t tx ty e i z ht hi hz ad len cap ds holds x n FU hs xA h63 (growslice_fits xA OV);refine⟨_,_,_,hr,rfl,rfl,rfl,by simp,.inr ⟨w.heap.size,0,_,e,rfl,⟨heap_alloc_new w.drew _,.inr rfl⟩,grownCap_ge w _ cap e,grownCap_le_maxLen w _ cap e vU,?_,?_,.inr ⟨rfl,by simp,λq hq=>heap_alloc_old w.drew _ q hq⟩⟩⟩
  ·have YW:=grownCap_ge w (len+n) cap e;simp only[Array.size_append,List.size_toArray,AGZ,size_zeroCells,hzs,bj,hs.newsLen,<-Nat.add_mul,AHr];congr 1;omega
  ·have:(len+n)*i.size=(ds++FU).length:=by rw[AGZ,bj,hs.newsLen,Nat.add_mul]
   rw[this,List.drop_zero,Array.toList_append,List.toList_toArray,List.take_left]
theorem AcS{c:Call}(ho:o.op=.call c)(hc:c.callee=.builtin .append){k:Nat}{y:AV}(hx:Oj σ c.args=[.Ak k,y]){t tx:TypeId}(V1:c.argTypes.toList=[t,tx]){ti te ZP:TI}(ht:EA P t ti)(D1:EA P ti.elem te)(Iz:ti.D4=true)(qg:EA P tx ZP)(hkx:ZP.D4=true)
    (lU:te.bytes≠0) {el:Nat} {xs ys:List te.ty.V} (hb:σ.Am[k]?=some (.tail el te.ty xs)) (R8:el=ti.elem\/el=0) {m2:RM} {rs:List Nat} (dm:lr σ.Am te.ty y=some (ys,m2,rs)) (OV:(xs.length+ys.length)*te.bytes<=140737488355328) :
    MP P σ o ⟨.Ak σ.Am.length,Blk.Gg (A8 (k::rs) σ.Am) (k::rs)++[.tail el te.ty (xs++ys)],k::rs⟩:=by
 obtain⟨a0,a1,ha,hz0,rfl⟩:=tc hx;refine⟨by simp[A3,Ay],λh=>by(cases h),λa w g hs next Q hn=>?_⟩
 have H:=hs.heap;have uv:=AO hs a0;rw[hz0]at uv;obtain⟨hk,oz⟩:=FJ uv;obtain⟨hf,hlen,OU,BF,hr⟩:=H.Lf k _ hb;obtain⟨i,z,hi,Ks,hbi,hz,ib,_⟩:=D1.info;obtain⟨FU,hS,xx,_,AAH,_⟩:=Adj H dm (AO hs a1) qg (by rw[hkx];rfl);have hu:=BB ht Iz;have hzs:z.cells.size=i.size:=by rw[<-Array.length_toList,ib,QI,Ks]
 have AzR:Be (λ_ x c=>c=J4 te.ty x) 0 ys FU:=xx.mono λi x c h=>by
  rcases h with ⟨_,h⟩|⟨ks,_,h⟩|⟨j,_,h⟩
  ·exact h
  ·exact(G1.BD hf).1 h
  ·exact(RR.BD hf).1 h
 obtain ⟨ds,AbB,AbC⟩:∃ds,((xs.length=0/\(g.AU k).cap=0/\ds=[])\/∃b off Bs e0,(g.AU k).a=some ⟨b,off,none⟩/\g.own b=.BG k []/\(w.heap[b]?=some (.cells Bs e0 (0,0))/\(el=0\/e0=ti.elem))/\xs.length<=(g.AU k).cap/\(g.AU k).cap<=maxLen/\Bs.size=off+(g.AU k).cap*i.size/\(Bs.toList.drop off).take (xs.length*i.size)=ds) /\
     Be (λ_ x c=>c=J4 te.ty x) 0 xs ds:=by
  rcases hr with ⟨rfl,h2⟩|⟨b,off,Bs,ds,h2,h3,⟨e0,he0,h4⟩,h5,h6,h7,h8,h9⟩
  ·exact⟨[],.inl ⟨rfl,h2,rfl⟩,rfl⟩
  ·exact⟨ds,.inr ⟨b,off,Bs,e0,h2,h3,⟨h4,by rcases he0 with h |h;exact .inl h;rcases R8 with h' |h';exact .inr (h.trans h');exact .inl h'⟩,h5,h6,by rw[Ks];exact h7,by rw[Ks];exact h8⟩,(Dm.1 h9).mono λi x c h=>(RR.BD hf).1 h⟩
 obtain⟨mj,Q0,w',DR,hos,hta,hou,Oz,VY⟩:=mq (P:=P) w t tx o.type ti.elem i z hu hi hz hzs (by rw[Ks];exact BF) (Pw:=λb=>g.own b=.BG k []) (Ek:=el=0) AbB (by rw[Ks];exact hS) (by rw[hbi];exact lU) (by rw[hbi];exact OV);have W2:(execOp a.eval o).run P w=.ok (.value (.slice mj (xs.length+ys.length) Q0)) w':=by
  rw[Jc ho hc,ha,sK V1];simp[builtin,oz,hlen,DR]
 unfold Oper.wp;rw[W2]
 let n:=σ.Am.length
 let i':BI:=⟨mj,xs.length+ys.length,Q0,te.ty.size⟩
 let f:Nat->List Nat->Sf:=λj r=>if j=k then .BG n r else .BG j r
 have lt:∀b,g.own b≠.no->b<w.heap.size:=λb h=>Rv H h;obtain ⟨ob,rF,Tm,P9⟩:∃ob:Option Nat,(∀q,ob=some q->w.heap.size<=q/\q<w'.heap.size) /\
     (∀q,q<w.heap.size->(∀k' p,g.own q=.BG k' p->k'∉k::rs)->w'.heap[q]?=w.heap[q]?) /\
     ((xs++ys=[]/\Q0=0)\/∃b' off OR,mj=some ⟨b',off,none⟩/\Tf w' b' el OR/\xs.length+ys.length<=Q0/\Q0<=maxLen/\OR.size=off+Q0*te.ty.size/\(OR.toList.drop off).take ((xs.length+ys.length)*te.ty.size)=ds++FU/\(g.Tb f ob n i').own b'=.BG n []):=by
  rcases VY with ⟨h0,GR,rfl⟩|⟨b',off,OR,e1,h1,⟨h2,he1⟩,h3,h4,h5,h6,h7⟩
  ·refine⟨none,λq h=>by(cases h),λq _ _=>rfl,.inl ⟨?_,GR⟩⟩;apply List.eq_nil_of_length_eq_zero;rw[AGZ];omega
  ·rw[Ks]at h5 h6;have h2:Tf w' b' el OR:=⟨e1,by rcases R8 with h |h;exact he1.imp id λh'=>h'.trans h.symm;exact .inl h,h2⟩;rcases h7 with ⟨Ce,rfl⟩|⟨rfl,Bj,hkp⟩
   ·refine⟨none,λq h=>by(cases h),du Ce (by simp),.inr ⟨b',off,OR,h1,h2,h3,h4,h5,h6,?_⟩⟩;rw[HR (by simp) Ce];simp[f]
   ·exact⟨some w.heap.size,λq h=>by injection h with h;subst h;exact⟨AG1 _,Bj⟩,λq hq _=>hkp q hq,.inr ⟨_,off,OR,h1,h2,h3,h4,h5,h6,by simp[G.Tb]⟩⟩
 let g':=g.Tb f ob n i'
 have st:Step (k::rs) n w g w' g':=Step.Tb H.BN hos hta hou Oz Tm (λq h=>(rF q h).1) (AG1 _) λj r _ hm=>by
  have h1:j≠k:=λe=>hm (by simp[e]);simp[f,h1]
 have M9:g'.AU n=i':=by simp[g',G.Tb]
 refine hn _ w' g' (H.XW st (LV H.BN Oz λq h=>(rF q h).2) (by simp[A3,Ay]) λj x Qj=>?_) ?_ st
 ·rw[AHl]at Qj;split at Qj
  ·rcases J6 Qj with h |⟨gV,h⟩
   ·exact .inl h
   ·obtain⟨y',aL,rfl⟩:=C4 h;exact .inr (.inl ⟨gV,y',aL,rfl⟩)
  ·rename_i Bj;rw[A3,Ay]at Qj Bj;have gU:j-σ.Am.length=0:=by
    rcases AHj (j-σ.Am.length)with h |h
    ·exact h
    ·rw[AHz (by simp;omega)]at Qj;cases Qj
   rw[gU]at Qj;obtain rfl:j=n:=by simp only[n];omega
   simp only[List.getElem?_cons_zero,AGX]at Qj;subst Qj;refine .inr (.inr ⟨hf,by rw[M9,AGZ],by rw[M9],BF,?_⟩);rw[M9,AGZ];refine P9.imp id λ⟨b',off,OR,h1,h2,h3,h4,h5,h6,h7⟩=>⟨b',off,OR,_,h1,h7,h2,h3,h4,h5,h6,?_⟩;rw[Dm];exact(Be.append AbC (HB.1 (HB (j:=0).2 AzR))).mono λi x c h=>(RR.BD hf).2 h
 ·refine Bn (cs:=[_]) rfl ⟨by simp[A3,Ay],rfl⟩ ?_;have:g'.AU σ.Am.length=i':=M9;simp[Bv,AV.isAgg,this,i']
end
theorem o7(φ:Nat->Nat)(a:AV):(a.M3 φ).MX=a.MX:=by cases a<;>rfl
theorem iX(φ:Nat->Nat)(a:AV):(a.M3 φ).isAgg=a.isAgg:=by cases a<;>rfl
theorem wO(φ:Nat->Nat)(a:AV):(a.M3 φ).CZ=a.CZ:=by cases a<;>rfl
theorem nt(Kr:List Nat)(a:AV):(a.TG Kr).MX=a.MX:=by cases a<;>rfl
theorem gH(Kr:List Nat)(a:AV):(a.TG Kr).isAgg=a.isAgg:=by cases a<;>rfl
theorem vB(Kr:List Nat)(a:AV):(a.TG Kr).CZ=a.CZ:=by cases a<;>rfl
structure Ren (φ:Nat->Nat) (g g':G) (n' k:Nat):Prop where
 lt:φ k<n'
 AU:g'.AU (φ k)=g.AU k
 own:∀b r,g.own b=.BG k r->g'.own b=.BG (φ k) r
theorem Al.AcD{φ:Nat->Nat}{g g':G}(hi:∀b,g.own b=.H8->g'.own b=.H8){ks:List Nat}(hk:∀k∈ks,∀b r,g.own b=.BG k r->g'.own b=.BG (φ k) r){b:Nat}(h:Al g.own ks b):Al g'.own (ks.map φ) b:=by
 rcases h with h |⟨k,hks,r,h⟩
 ·exact .inl (hi b h)
 ·exact .inr ⟨φ k,List.mem_map.2 ⟨k,hks,rfl⟩,r,hk k hks b r h⟩
theorem M8:∀(a:AV) {k:Nat},k∈a.Q3->k∈a.Cf
 |.AA _ _ _,_,h=>h
 |.Eh _ _ _,_,h=>h
 |.R1 _ _ _ _ _,_,h=>h
 |.TR _ _ _ _ _ _,_,h=>h
 |.pr a b,_,h=>(List.mem_append.1 h).elim (λh=>AHt _ (M8 a h)) λh=>AHu _ (M8 b h)
 |.cons a b,_,h=>(List.mem_append.1 h).elim (λh=>AHt _ (M8 a h)) λh=>AHu _ (M8 b h)
 |.fn _ c,_,h=>M8 c h
 |.zs,_,h=>by cases h
 |.Ak _,_,h=>by cases h
 |.ptr _ _ _ _,_,h=>by cases h
 |.Lw,_,h=>by cases h
 |.nil,_,h=>by cases h
 |.mp _,_,h=>by cases h
 |.un _,_,h=>by cases h
theorem Za:∀(b:Blk) {k:Nat},k∈b.Q3->k∈b.Cf
 |.box a,_,h=>M8 a h
 |.row _ _ _ _,_,h=>h
 |.map _ _ _ _ _,_,h=>h
 |.Qk _ _ _ _ _,_,h=>h
 |.tail _ _ _,_,h=>h
 |.AH,_,h=>h
section
variable {w:World} {g g':G} {n n':Nat} {φ:Nat->Nat}
def vd(φ:Nat->Nat)(g g':G)(n' k:Nat):Prop:=φ k<n'/\g'.AU (φ k)=g.AU k
def Aix(φ:Nat->Nat)(g g':G)(k:Nat):Prop:=∀b r,g.own b=.BG k r->g'.own b=.BG (φ k) r
theorem uA{ks:List Nat}(hk:∀k∈ks,vd φ g g' n' k):∀k∈ks.map φ,k<n':=λk h=>by
 obtain⟨j,hj,rfl⟩:=List.mem_map.1 h;exact(hk j hj).1
theorem Cq.XN(hi:∀b,g.own b=.H8->g'.own b=.H8):∀(a:AV) (m:Bool) {cs:List Value},Cq w g n m a cs->(∀k∈a.Cf,vd φ g g' n' k)->(∀k∈a.Q3,Aix φ g g' k)->Cq w g' n' m (a.M3 φ) cs
 |.AA ks t x,false,cs,⟨hk,r⟩,h,ho=>⟨uA h,r.mono λb a=>⟨a.AcD hi ho,rfl⟩⟩
 |.zs,false,_,h,_,_=>h
 |.Ak k,false,_,⟨hk,e⟩,h,_=>by
  have:=h k (by simp[AV.Cf]);exact⟨this.1,by rw[this.2];exact e⟩
 |.ptr k i p o,false,_,⟨hk,h0,h1,b,hb,e⟩,h,_=>by
  have:=h k (by simp[AV.Cf]);exact⟨this.1,h0,by rw[this.2];exact h1,b,by rw[this.2];exact hb,by rw[this.2];exact e⟩
 |.Eh ks t x,false,cs,⟨hk,b,off,ds,e,ha,r,hc⟩,h,ho=>⟨uA h,b,off,ds,e,ha.AcD hi ho,r.mono λb a=>⟨a.AcD hi ho,rfl⟩,hc⟩
 |.Lw,false,_,h,_,_=>h
 |.pr a b,false,_,⟨c,d,e,h1,h2⟩,h,ho=>⟨c,d,e,Cq.XN hi a false h1 (λk hk=>h k (by simp[AV.Cf,hk])) λk hk=>ho k (by simp[AV.Q3,hk]),Cq.XN hi b false h2 (λk hk=>h k (by simp[AV.Cf,hk])) λk hk=>ho k (by simp[AV.Q3,hk])⟩
 |.fn f c,false,_,⟨vs,e,hx⟩,h,ho=>⟨vs,e,Cq.XN hi c true hx (λk hk=>h k (by simpa [AV.Cf]using hk)) λk hk=>ho k (by simpa [AV.Q3]using hk)⟩
 |.un k,false,_,h,_,_=>h
 |.cons a b,true,_,⟨v,r,e,h1,h2⟩,h,ho=>by
  refine⟨v,r,e,?_,Cq.XN hi b true h2 (λk hk=>h k (by simp[AV.Cf,hk])) λk hk=>ho k (by simp[AV.Q3,hk])⟩;rw[o7,iX];exact h1.imp id λ⟨cs,hx,hv⟩=>⟨cs,Cq.XN hi a false hx (λk hk=>h k (by simp[AV.Cf,hk])) (λk hk=>ho k (by simp[AV.Q3,hk])),hv⟩
 |.nil,true,_,h,_,_=>h
 |.cons _ _,false,_,h,_,_=>h.elim
 |.nil,false,_,h,_,_=>h.elim
 |.mp k,false,_,⟨hk,b,hb,e⟩,h,_=>by
  have:=h k (by simp[AV.Cf]);exact⟨this.1,b,by rw[this.2];exact hb,e⟩
 |.R1 k i p o e,false,_,⟨hk,h0,h1,b,v,ha,ho,e1,e2,hc⟩,h,hO=>by
  have:=h k (by simp[AV.Cf]);exact⟨this.1,h0,by rw[this.2];exact h1,b,v,by rw[this.2];exact ha,hO k (by simp[AV.Q3]) b [] ho,e1,e2,by rw[this.2];exact hc⟩
 |.TR k i p o j u,false,_,⟨hk,h0,h1,b,b',l,c,ha,ho,e1,e2,hc⟩,h,hO=>by
  have:=h k (by simp[AV.Cf]);exact⟨this.1,h0,by rw[this.2];exact h1,b,b',l,c,by rw[this.2];exact ha,hO k (by simp[AV.Q3]) b [] ho,e1,e2,by rw[this.2];exact hc⟩
 |.TR _ _ _ _ _ _,true,_,h,_,_=>h.elim
 |.R1 _ _ _ _ _,true,_,h,_,_=>h.elim
 |.AA _ _ _,true,_,h,_,_=>h.elim
 |.zs,true,_,h,_,_=>h.elim
 |.Ak _,true,_,h,_,_=>h.elim
 |.mp _,true,_,h,_,_=>h.elim
 |.ptr _ _ _ _,true,_,h,_,_=>h.elim
 |.Eh _ _ _,true,_,h,_,_=>h.elim
 |.Lw,true,_,h,_,_=>h.elim
 |.pr _ _,true,_,h,_,_=>h.elim
 |.fn _ _,true,_,h,_,_=>h.elim
 |.un _,true,_,h,_,_=>h.elim
theorem Ren.r0{k:Nat}(h:Ren φ g g' n' k):vd φ g g' n' k:=⟨h.lt,h.AU⟩
theorem Cq.M3(hi:∀b,g.own b=.H8->g'.own b=.H8)(a:AV)(m:Bool){cs:List Value}(h:Cq w g n m a cs)(hk:∀k∈a.Cf,Ren φ g g' n' k):Cq w g' n' m (a.M3 φ) cs :=
 h.XN hi a m (λk h=>(hk k h).r0) λk h=>(hk k (M8 a h)).own
theorem Cq.RO:∀(a:AV) (m:Bool) {cs:List Value},Cq w g n m a cs->∀k∈a.Cf,k<n
 |.AA ks t x,false,cs,h,k,hk=>h.1 k hk
 |.zs,false,_,_,_,hk=>by cases hk
 |.Ak j,false,_,h,k,hk=>by
  have:k=j:=by simpa [AV.Cf]using hk
  rw[this];exact h.1
 |.ptr j i p o,false,_,h,k,hk=>by
  have:k=j:=by simpa [AV.Cf]using hk
  rw[this];exact h.1
 |.Eh ks t x,false,cs,h,k,hk=>h.1 k hk
 |.Lw,false,_,_,_,hk=>by cases hk
 |.pr a b,false,_,⟨c,d,e,h1,h2⟩,k,hk=>by
  rcases List.mem_append.1 hk with hk |hk
  ·exact Cq.RO a false h1 k hk
  ·exact Cq.RO b false h2 k hk
 |.fn f c,false,_,⟨vs,e,hx⟩,k,hk=>Cq.RO c true hx k hk
 |.un _,false,_,_,_,hk=>by cases hk
 |.cons a b,true,_,⟨v,r,e,h1,h2⟩,k,hk=>by
  rcases List.mem_append.1 hk with hk |hk
  ·rcases h1 with h1 |⟨cs,h1,_⟩
   ·cases a<;>simp[AV.MX]at h1;cases hk
   ·exact Cq.RO a false h1 k hk
  ·exact Cq.RO b true h2 k hk
 |.nil,true,_,_,_,hk=>by cases hk
 |.cons _ _,false,_,h,_,_=>h.elim
 |.nil,false,_,h,_,_=>h.elim
 |.mp j,false,_,h,k,hk=>by
  have:k=j:=by simpa [AV.Cf]using hk
  rw[this];exact h.1
 |.R1 j i p o e,false,_,h,k,hk=>by
  have:k=j:=by simpa [AV.Cf]using hk
  rw[this];exact h.1
 |.TR j i p o q u,false,_,h,k,hk=>by
  have:k=j:=by simpa [AV.Cf]using hk
  rw[this];exact h.1
 |.TR _ _ _ _ _ _,true,_,h,_,_=>h.elim
 |.R1 _ _ _ _ _,true,_,h,_,_=>h.elim
 |.AA _ _ _,true,_,h,_,_=>h.elim
 |.zs,true,_,h,_,_=>h.elim
 |.Ak _,true,_,h,_,_=>h.elim
 |.mp _,true,_,h,_,_=>h.elim
 |.ptr _ _ _ _,true,_,h,_,_=>h.elim
 |.Eh _ _ _,true,_,h,_,_=>h.elim
 |.Lw,true,_,h,_,_=>h.elim
 |.pr _ _,true,_,h,_,_=>h.elim
 |.fn _ _,true,_,h,_,_=>h.elim
 |.un _,true,_,h,_,_=>h.elim
theorem BR.RO{a:AV}{v:Value}(h:BR w g n a v):∀k∈a.Cf,k<n:=by
 cases ht:a.CZ with
 |false =>
  rcases(BR.iff ht).1 h with h |⟨cs,h,_⟩
  ·intro k hk;cases a<;>simp[AV.MX]at h;cases hk
  ·exact Cq.RO a false h
 |true =>
  cases a with
  |cons a b=>obtain⟨vs,e,h⟩:=h;exact Cq.RO _ true h
  |nil=>intro k hk;cases hk
  |_=>cases ht
theorem BR.XN(hi:∀b,g.own b=.H8->g'.own b=.H8){a:AV}{v:Value}(h:BR w g n a v)(hk:∀k∈a.Cf,vd φ g g' n' k)(ho:∀k∈a.Q3,Aix φ g g' k):BR w g' n' (a.M3 φ) v:=by
 cases ht:a.CZ with
 |false =>
  rw[BR.iff ht]at h;rw[BR.iff (by rw[wO];exact ht),o7,iX];exact h.imp id λ⟨cs,h,hv⟩=>⟨cs,Cq.XN hi a false h hk ho,hv⟩
 |true =>
  cases a with
  |cons a b=>obtain⟨vs,e,h⟩:=h;exact⟨vs,e,Cq.XN hi (.cons a b) true h hk ho⟩
  |nil=>exact h
  |_=>cases ht
theorem BR.M3(hi:∀b,g.own b=.H8->g'.own b=.H8){a:AV}{v:Value}(h:BR w g n a v)(hk:∀k∈a.Cf,Ren φ g g' n' k):BR w g' n' (a.M3 φ) v :=
 h.XN hi (λk h=>(hk k h).r0) λk h=>(hk k (M8 a h)).own
theorem LP.XN(hi:∀b,g.own b=.H8->g'.own b=.H8){k:Nat}{b:Blk}(h:LP w g n k b)(hk:Ren φ g g' n' k)(P1:∀j∈b.Cf,vd φ g g' n' j)(hO:∀j∈b.Q3,Aix φ g g' j):LP w g' n' (φ k) (b.M3 φ):=by
 cases b with
 |AH=>trivial
 |map m kt vt es st =>
  obtain⟨PZ,b,Gs,De,ha,ho,hh,QJ,hm⟩:=h;have vV:(m.M3 φ).Cf=m.Cf.map φ:=by cases m<;>rfl
  refine⟨by rw[vV];exact uA P1,b,Gs,De,by rw[hk.AU];exact ha,hk.own b [] ho,hh,QJ,hm.on λi x c r=>?_⟩;cases m with
  |Ai=>exact I7.mono (λb q hb=>⟨hk.own b _ hb,rfl⟩) r
  |sh ks=>exact G1.mono (λb a=>⟨a.AcD hi hO,rfl⟩) r
 |Qk e t xs i p =>
  obtain⟨h1,h2,h3,h4,h5,u,o,x0,b,Bs,ds,q1,q2,q3,ha,ho,hh,c1,c2,c3,c4,hc⟩:=h;refine⟨by rw[hk.AU];exact h1,by rw[hk.AU];exact h2,h3,h4,h5,u,o,x0,b,Bs,ds,q1,q2,q3,?_⟩;rw[hk.AU];exact⟨ha,hk.own b [] ho,hh,c1,c2,c3,c4,hc.mono λi x c r=>r.mono λb q hb=>⟨hk.own b _ hb,rfl⟩⟩
 |tail e t xs =>
  obtain⟨hf,hlen,OU,BF,hr⟩:=h;refine⟨hf,by rw[hk.AU];exact hlen,by rw[hk.AU];exact OU,BF,?_⟩;rw[hk.AU];exact hr.imp id λ⟨b,o,Bs,ds,ha,ho,hh,h1,h2,h3,h4,hc⟩=>⟨b,o,Bs,ds,ha,hk.own b [] ho,hh,h1,h2,h3,h4,hc.mono λi x c r=>r.mono λb q hb=>⟨hk.own b _ hb,rfl⟩⟩
 |box a =>
  obtain⟨h1,b,cs,e,ha,ho,hh,hx⟩:=h;exact⟨by rw[hk.AU];exact h1,b,cs,e,by rw[hk.AU];exact ha,hk.own b [] ho,hh,Cq.XN hi a false hx P1 hO⟩
 |row e m t xs =>
  obtain⟨PZ,hlen,OU,BF,hr⟩:=h;have hm:(m.M3 φ).Cf=m.Cf.map φ:=by cases m<;>rfl
  refine⟨by rw[hm];exact uA P1,by rw[hk.AU];exact hlen,by rw[hk.AU];exact OU,BF,?_⟩;rw[hk.AU];refine hr.imp id λ⟨b,Bs,ds,ha,ho,hh,h1,h2,h3,h4,hc⟩=>⟨b,Bs,ds,ha,hk.own b [] ho,hh,h1,h2,h3,h4,?_⟩;cases m with
  |Ai=>exact hc.mono λi x c r=>r.mono λb q hb=>⟨hk.own b _ hb,rfl⟩
  |sh ks=>exact hc.mono λx c r=>r.mono λb a=>⟨a.AcD hi hO,rfl⟩
theorem LP.M3(hi:∀b,g.own b=.H8->g'.own b=.H8){k:Nat}{b:Blk}(h:LP w g n k b)(hk:Ren φ g g' n' k)(P1:∀j∈b.Cf,Ren φ g g' n' j):LP w g' n' (φ k) (b.M3 φ) :=
 h.XN hi hk (λk h=>(P1 k h).r0) λk h=>(P1 k (Za b h)).own
structure Dep (Kr:List Nat) (g g':G) (n:Nat):Prop where
 H8:∀b,g.own b=.H8->Al g'.own Kr b
 BG:∀b k r,g.own b=.BG k r->k<n->g'.own b=.BG k r
 AU:∀k,k<n->g'.AU k=g.AU k
 lt:∀k∈Kr,k<n
theorem Al.TG{Kr:List Nat}(d:Dep Kr g g' n){ks:List Nat}(hk:∀k∈ks,k<n){b:Nat}(h:Al g.own ks b):Al g'.own (ks++Kr) b:=by
 rcases h with h |⟨k,hks,r,h⟩
 ·exact(d.H8 b h).mono λk hk=>AHu _ hk
 ·exact .inr ⟨k,AHt _ hks,r,d.BG b k r h (hk k hks)⟩
theorem ta{Kr ks:List Nat}(d:Dep Kr g g' n)(hk:∀k∈ks,k<n):∀k∈ks++Kr,k<n:=λk h=>by
 rcases List.mem_append.1 h with h |h
 ·exact hk k h
 ·exact d.lt k h
theorem Cq.TG{Kr:List Nat}(d:Dep Kr g g' n):∀(a:AV) (m:Bool) {cs:List Value},Cq w g n m a cs->Cq w g' n m (a.TG Kr) cs
 |.AA ks t x,false,cs,⟨hk,r⟩=>by
  simp only[AV.TG];cases hf:t.BD with
  |true=>exact⟨by simpa using hk,(G1.BD hf).2 ((G1.BD hf).1 r)⟩
  |false=>exact⟨by simpa using ta d hk,by simpa using r.mono λb a=>⟨a.TG d hk,rfl⟩⟩
 |.zs,false,_,h=>h
 |.Ak k,false,_,⟨hk,e⟩=>⟨hk,by rw[d.AU k hk];exact e⟩
 |.mp k,false,_,⟨hk,b,hb,e⟩=>⟨hk,b,by rw[d.AU k hk];exact hb,e⟩
 |.ptr k i p o,false,_,⟨hk,h0,h1,b,hb,e⟩=>⟨hk,h0,by rw[d.AU k hk];exact h1,b,by rw[d.AU k hk];exact hb,by rw[d.AU k hk];exact e⟩
 |.Eh ks t x,false,cs,⟨hk,b,off,ds,e,ha,r,hc⟩=>⟨ta d hk,b,off,ds,e,ha.TG d hk,r.mono λb a=>⟨a.TG d hk,rfl⟩,hc⟩
 |.Lw,false,_,h=>h
 |.pr a b,false,_,⟨c,e,he,h1,h2⟩=>⟨c,e,he,Cq.TG d a false h1,Cq.TG d b false h2⟩
 |.fn f c,false,_,⟨vs,e,hx⟩=>⟨vs,e,Cq.TG d c true hx⟩
 |.un k,false,_,h=>h
 |.cons a b,true,_,⟨v,r,e,h1,h2⟩=>by
  refine⟨v,r,e,?_,Cq.TG d b true h2⟩;rw[nt,gH];exact h1.imp id λ⟨cs,hx,hv⟩=>⟨cs,Cq.TG d a false hx,hv⟩
 |.nil,true,_,h=>h
 |.cons _ _,false,_,h=>h.elim
 |.nil,false,_,h=>h.elim
 |.R1 k i p o e,false,_,⟨hk,h0,h1,b,v,ha,ho,e1,e2,hc⟩=>⟨hk,h0,by rw[d.AU k hk];exact h1,b,v,by rw[d.AU k hk];exact ha,d.BG b k [] ho hk,e1,e2,by rw[d.AU k hk];exact hc⟩
 |.TR k i p o j u,false,_,⟨hk,h0,h1,b,b',l,c,ha,ho,e1,e2,hc⟩=>⟨hk,h0,by rw[d.AU k hk];exact h1,b,b',l,c,by rw[d.AU k hk];exact ha,d.BG b k [] ho hk,e1,e2,by rw[d.AU k hk];exact hc⟩
 |.TR _ _ _ _ _ _,true,_,h=>h.elim
 |.R1 _ _ _ _ _,true,_,h=>h.elim
 |.AA _ _ _,true,_,h=>h.elim
 |.zs,true,_,h=>h.elim
 |.Ak _,true,_,h=>h.elim
 |.mp _,true,_,h=>h.elim
 |.ptr _ _ _ _,true,_,h=>h.elim
 |.Eh _ _ _,true,_,h=>h.elim
 |.Lw,true,_,h=>h.elim
 |.pr _ _,true,_,h=>h.elim
 |.fn _ _,true,_,h=>h.elim
 |.un _,true,_,h=>h.elim
theorem BR.TG{Kr:List Nat}(d:Dep Kr g g' n){a:AV}{v:Value}(h:BR w g n a v):BR w g' n (a.TG Kr) v:=by
 cases ht:a.CZ with
 |false =>
  rw[BR.iff ht]at h;rw[BR.iff (by rw[vB];exact ht),nt,gH];exact h.imp id λ⟨cs,h,hv⟩=>⟨cs,Cq.TG d a false h,hv⟩
 |true =>
  cases a with
  |cons a b=>obtain⟨vs,e,h⟩:=h;exact⟨vs,e,Cq.TG d (.cons a b) true h⟩
  |nil=>exact h
  |_=>cases ht
theorem LP.TG{Kr:List Nat}(d:Dep Kr g g' n){k:Nat}(hk:k<n){b:Blk}(h:LP w g n k b):LP w g' n k (b.TG Kr):=by
 cases b with
 |AH=>trivial
 |map m kt vt es st =>
  obtain⟨PZ,b,Gs,De,ha,ho,hh,QJ,hm⟩:=h;refine⟨?_,b,Gs,De,by rw[d.AU k hk];exact ha,d.BG b k [] ho hk,hh,QJ,hm.on λi x c r=>?_⟩
  ·cases m with
   |Ai=>exact PZ
   |sh ks=>exact ta d PZ
  ·cases m with
   |Ai=>exact I7.mono (λb q hb=>⟨d.BG b k _ hb hk,rfl⟩) r
   |sh ks=>exact G1.mono (λb a=>⟨a.TG d PZ,rfl⟩) r
 |Qk e t xs i p =>
  obtain⟨h1,h2,h3,h4,h5,u,o,x0,b,Bs,ds,q1,q2,q3,ha,ho,hh,c1,c2,c3,c4,hc⟩:=h;refine⟨by rw[d.AU k hk];exact h1,by rw[d.AU k hk];exact h2,h3,h4,h5,u,o,x0,b,Bs,ds,q1,q2,q3,?_⟩;rw[d.AU k hk];exact⟨ha,d.BG b k [] ho hk,hh,c1,c2,c3,c4,hc.mono λi x c r=>r.mono λb q hb=>⟨d.BG b k _ hb hk,rfl⟩⟩
 |tail e t xs =>
  obtain⟨hf,hlen,OU,BF,hr⟩:=h;refine⟨hf,by rw[d.AU k hk];exact hlen,by rw[d.AU k hk];exact OU,BF,?_⟩;rw[d.AU k hk];exact hr.imp id λ⟨b,o,Bs,ds,ha,ho,hh,h1,h2,h3,h4,hc⟩=>⟨b,o,Bs,ds,ha,d.BG b k [] ho hk,hh,h1,h2,h3,h4,hc.mono λi x c r=>r.mono λb q hb=>⟨d.BG b k _ hb hk,rfl⟩⟩
 |box a =>
  obtain⟨h1,b,cs,e,ha,ho,hh,hx⟩:=h;exact⟨by rw[d.AU k hk];exact h1,b,cs,e,by rw[d.AU k hk];exact ha,d.BG b k [] ho hk,hh,Cq.TG d a false hx⟩
 |row e m t xs =>
  obtain⟨PZ,hlen,OU,BF,hr⟩:=h;refine⟨?_,by rw[d.AU k hk];exact hlen,by rw[d.AU k hk];exact OU,BF,?_⟩
  ·cases m with
   |Ai=>exact PZ
   |sh ks=>exact ta d PZ
  ·rw[d.AU k hk];refine hr.imp id λ⟨b,Bs,ds,ha,ho,hh,h1,h2,h3,h4,hc⟩=>⟨b,Bs,ds,ha,d.BG b k [] ho hk,hh,h1,h2,h3,h4,?_⟩;cases m with
   |Ai=>exact hc.mono λi x c r=>r.mono λb q hb=>⟨d.BG b k _ hb hk,rfl⟩
   |sh ks=>exact hc.mono λx c r=>r.mono λb a=>⟨a.TG d PZ,rfl⟩
end
def Dd(w:World)(g:G)(n:Nat):List AV->List Value->Prop
 |[],[]=>True
 |a::fq,v::vs=>BR w g n a v/\Dd w g n fq vs
 |_,_=>False
structure As (P:Program) (f:FuncId) (c:Callee):Prop where
 W9:bH c
 snd:∀(args:List AV) (E:List Blk) (av:AV) (E':List Blk),c.run (AV×List Blk) args E (λv b=>some (v,b))=some (av,E')->E.length<=E'.length /\
  ∀(w:World) (g:G) (vs:List Value),Bc w g E->Dd w g E.length args vs->∀(o:Oper) (a:Act) (next:Act->World->Prop) (Q:Exit->Act->World->Prop),
   (∀v w' g',Bc w' g' E'->BR w' g' E'.length av v->Step (List.range E.length) E.length w g w' g'->next (a.put o.dst v) w')->o.upon P a next Q ((callFunc f vs.toArray).run P w)
theorem kr:∀{π:List Nat} {k:Nat},k∈π->idxOf π k<π.length
 |x::r,k,h=>by
  simp only[idxOf];split
  ·simp
  ·rename_i I8;have:k∈r:=by
    rcases List.mem_cons.1 h with h |h
    ·subst h;simp at I8
    ·exact h
   have:=kr this;simp;omega
theorem kq:∀{π:List Nat} {k:Nat},k∈π->π[idxOf π k]?=some k
 |x::r,k,h=>by
  simp only[idxOf];split
  ·rename_i he;simp at he;simp[he]
  ·rename_i I8;have:k∈r:=by
    rcases List.mem_cons.1 h with h |h
    ·subst h;simp at I8
    ·exact h
   simpa using kq this
theorem Zt:∀{π:List Nat} {j k:Nat},nodup π=true->π[j]?=some k->idxOf π k=j
 |x::r,0,k,_,h=>by simp at h;subst h;simp[idxOf]
 |x::r,j+1,k,hn,h=>by
  simp only[nodup,AG2,Bool.not_eq_true']at hn;have hr:r[j]?=some k:=by simpa using h
  have:x≠k:=λe=>by
   subst e;have hm:x∈r:=List.mem_of_getElem? hr;have:=hn.1;simp[hm]at this
  simp only[idxOf];rw[AHe (by simpa using this),Zt hn.2 hr]
theorem dZ:∀{π:List Nat} {L bs:List Blk} {k:Nat} {x:Blk},L.length=π.length->(Pn bs π L)[k]?=some x->(k∉π/\bs[k]?=some x)\/∃j:Nat,π[j]?=some k/\L[j]?=some x
 |[],[],bs,k,x,_,h=>.inl ⟨by simp,h⟩
 |p::π,b::L,bs,k,x,hl,h=>by
  rcases dZ (π:=π) (L:=L) (by simpa using hl) h with ⟨h1,h2⟩|⟨j,h1,h2⟩
  ·rw[AHk]at h2;split at h2
   ·rename_i he;subst he;split at h2
    ·injection h2 with h2;exact .inr ⟨0,rfl,by rw[<-h2];rfl⟩
    ·cases h2
   ·rename_i I8;exact .inl ⟨by simp only[List.mem_cons,not_or];exact⟨λe=>I8 e.symm,h1⟩,h2⟩
  ·exact .inr ⟨j+1,by simpa using h1,by simpa using h2⟩
 |[],_::_,_,_,_,hl,_=>by simp at hl
 |_::_,[],_,_,_,hl,_=>by simp at hl
theorem XQ:∀(π:List Nat) (L bs:List Blk),(Pn bs π L).length=bs.length
 |[],_,_=>by simp[Pn]
 |_::_,[],_=>by simp[Pn]
 |p::π,b::L,bs=>by rw[Pn,XQ π L,AG4]
def G.call(g:G)(π π1 Kr:List Nat):G:=⟨λb=>match g.own b with |.H8=>.H8 |.BG k r=>if k∈π1 then .BG (idxOf π k) r else if k∈Kr then .H8 else .no |.no=>.no,λj=>g.AU (π.getD j 0)⟩
def G.ret(g gc:G)(n:Nat)(π π1:List Nat):G :=
 ⟨λb=>match gc.own b with |.BG j r=>.BG (VH n π j) r |t=>match g.own b with |.BG k r=>if k∈π1 then t else .BG k r |_=>t,λk=>if k<n then g.AU k else gc.AU (k-n+π.length)⟩
def G.back(g gc:G)(n:Nat)(π:List Nat):G:=⟨λb=>match gc.own b with |.BG j r=>.BG (VH n π j) r |t=>t,λk=>if k<n then g.AU k else gc.AU (k-n+π.length)⟩
section
variable {w:World} {g:G} {bs:List Blk} {π π1 Kr:List Nat}
theorem Zd{k:Nat}(hk:k∈π):vd (idxOf π) g (g.call π π1 Kr) π.length k:=by
 refine⟨kr hk,?_⟩;have:=kq hk;simp[G.call,List.getD,this]
theorem cu{k:Nat}(hk:k∈π)(h1:k∈π1):Ren (idxOf π) g (g.call π π1 Kr) π.length k where
 lt:=kr hk
 AU:=(Zd hk).2
 own b r h:=by simp[G.call,h,h1]
theorem cr{b:Nat}(h:g.own b=.H8):(g.call π π1 Kr).own b=.H8:=by simp[G.call,h]
theorem T5(hb:∀k∈Kr,k∉π1){ks:List Nat}(hk:∀k∈ks,k∈Kr){b:Nat}(h:Al g.own ks b):Al (g.call π π1 Kr).own [] b:=by
 rcases h with h |⟨k,hks,r,h⟩
 ·exact .inl (cr h)
 ·have h1:=hk k hks;exact .inl (by simp[G.call,h,hb k h1,h1])
theorem vr(H:Bc w g bs){W4:List Nat}(hn:nodup π=true)(h1:∀k∈π,k∉W4->k∈π1)(S8:∀k∈π,∃b,bs[k]?=some b/\(∀j∈b.Cf,j∈π)/\(k∈W4\/∀j∈b.Q3,j∉W4)):Bc w (g.call π π1 Kr) (π.map λk=>bif W4.contains k then .AH else((bs[k]?).getD .AH).M3 (idxOf π)):=by
 refine⟨λb hb=>by simp[G.call,H.BN b hb],λj x hx=>?_⟩;rw[AHo]at hx;cases hj:π[j]? with
 |none=>rw[hj]at hx;cases hx
 |some k =>
  rw[hj]at hx;injection hx with hx;subst hx;have hk:k∈π:=List.mem_of_getElem? hj;obtain⟨b,hb,P1,hh⟩:=S8 k hk;cases hc:W4.contains k with
  |true=>simp only[hc,AHb];trivial
  |false =>
   have hkh:k∉W4:=by simpa using hc
   have AwE:=hh.resolve_left hkh;have:=(H.Lf k b hb).XN (φ:=idxOf π) (g':=g.call π π1 Kr) (n':=π.length) (λb h=>cr h) (cu hk (h1 k hk hkh)) (λj hj=>Zd (P1 j hj)) λj hj=>(cu (P1 j (Za b hj)) (h1 j (P1 j (Za b hj)) (AwE j hj))).own;rw[Zt hn hj]at this;simp only[hc,hb,Option.getD_some,AG7,AHa];exact this
theorem XM{t:Ty}{v:AV}{y:t.V}(h:rd bs t v=some y):v.isAgg=t.isAgg:=by
 have plain:∀(t:Ty) (ks:List Nat) (u:Ty) (z:u.V) (y:t.V),Iw u t z=some y->(AV.AA ks u z).isAgg=t.isAgg:=λt ks u z y h=>by
  obtain⟨e,_⟩:=BA h;subst e;rfl
 cases t with
 |Au a b=>cases v<;>simp only[rd,reduceCtorEq]at h<;>first |exact plain _ _ _ _ _ h |rfl
 |sl t=>cases v<;>simp only[rd,reduceCtorEq]at h<;>first |exact plain _ _ _ _ _ h |rfl
 |int k=>cases v<;>simp only[rd,reduceCtorEq]at h<;>exact plain _ _ _ _ _ h
 |bool=>cases v<;>simp only[rd,reduceCtorEq]at h<;>exact plain _ _ _ _ _ h
 |str=>cases v<;>simp only[rd,reduceCtorEq]at h<;>exact plain _ _ _ _ _ h
 |unit=>cases v<;>simp only[rd,reduceCtorEq]at h<;>exact plain _ _ _ _ _ h
 |P3 z=>cases v<;>simp only[rd,reduceCtorEq]at h<;>exact plain _ _ _ _ _ h
theorem Ael(H:Bc w g bs){k:Nat}{i:Int}{a:AV}(h:atB bs k i=some a)(hi:i.toNat<(g.AU k).len){b:Nat}(hb:(g.AU k).a=some ⟨b,0,none⟩):g.own b=.BG k []:=by
 unfold atB at h;split at h
 ·rename_i a' hx;obtain⟨h1,b',cs,e,ha,ho,hh,hr⟩:=H.Lf k _ hx;rw[hb]at ha;injection ha with ha;injection ha with ha;subst ha;exact ho
 ·rename_i e m t xs hx;obtain⟨PZ,hlen,OU,BF,hr⟩:=H.Lf k _ hx;rcases hr with ⟨Vk,_⟩|⟨b',Bs,ds,ha,ho,_⟩
  ·rw[hlen,Vk]at hi;simp at hi
  ·rw[hb]at ha;injection ha with ha;injection ha with ha;subst ha;exact ho
 ·cases h
theorem Alj(H:Bc w g bs)(hb:∀k∈Kr,k∉π1){m:PM}{v a:AV}{l:List Nat}(h:qU bs m v=some (a,l))(hl:∀k∈l,k∈Kr)(hr:∀k∈yQ m v,k∈π)(hh:∀k∈a.Q3,k∈π->k∈π1){x:Value}(hx:BR w g bs.length v x):BR w (g.call π π1 Kr) π.length (a.M3 (idxOf π)) x:=by
 cases m with
 |d t =>
  simp only[qU]at h;split at h
  ·rename_i y hy;simp only[AGX,AG8]at h;obtain⟨rfl,rfl⟩:=h;obtain⟨V2,Qm⟩:=TS hy;obtain⟨cs,RN,hv⟩:=BO V2 Qm hx;refine Bn rfl (cs:=cs) ⟨λk hk=>by(cases hk),(Pm H t v y cs hy RN).1.mono λb hA=>⟨T5 hb hl hA,rfl⟩⟩ ?_;rw[XM hy]at hv;exact hv
  ·cases h
 |p t =>
  cases v with
  |Eh ks u y =>
   simp only[qU]at h;split at h
   ·rename_i z hz;simp only[AGX,AG8]at h;obtain⟨rfl,rfl⟩:=h;obtain⟨e,he⟩:=BA hz;subst e;simp only at he;subst he;obtain⟨hk,b,off,ds,rfl,ha,aF,hc⟩:=Wq hx;exact ZB (λk hk=>by cases hk) (T5 hb hl ha) (aF.mono λb hA=>⟨T5 hb hl hA,rfl⟩) hc
   ·cases h
  |ptr k i p o =>
   simp only[qU]at h;split at h
   ·rename_i c hc;split at h
    ·rename_i y hy;simp only[AGX,AG8]at h;obtain⟨rfl,rfl⟩:=h;obtain⟨hk,h0,h1,b,MR,rfl⟩:=KA hx;obtain⟨cs,RN,CY⟩:=T2 H hc h1 MR;have Ce:g.own b=.BG k []:=by
      unfold atP at hc;split at hc
      ·rename_i d hd;exact Ael H hd h1 MR
      ·cases hc
     exact ZB (λk hk=>by cases hk) (T5 hb hl (.mem (AHq) Ce)) ((Pm H t c y cs hy RN).1.mono λb hA=>⟨T5 hb hl (hA.mono λk hk=>AHn _ hk),rfl⟩) CY
    ·cases h
   ·cases h
  |_=>simp[qU]at h
 |Vu =>
  simp only[qU,AGX,AG8]at h;obtain⟨rfl,rfl⟩:=h;exact hx.XN (λb h=>cr h) (λk hk=>Zd (hr k hk)) λk hk=>(cu (hr k (M8 _ hk)) (hh k hk (hr k (M8 _ hk)))).own
theorem tf(H:Bc w g bs)(hb:∀k∈Kr,k∉π1):∀{ms:List PM} {vs fq:List AV} {l Xc:List Nat} {xs:List Value},bX bs ms vs=some (fq,l,Xc)->(∀k∈l,k∈Kr)->(∀k∈Xc,k∈π)->(∀a∈fq,∀k∈a.Q3,k∈π->k∈π1)->Dd w g bs.length vs xs ->
    Dd w (g.call π π1 Kr) π.length (fq.map (·.M3 (idxOf π))) xs
 |[],[],fq,l,Xc,[],h,_,_,_,_=>by
  simp only[bX,AGX,AG8]at h;obtain⟨rfl,_,_⟩:=h;trivial
 |m::ms,v::vs,fq,l,Xc,x::xs,h,hl,hr,hh,hx=>by
  simp only[bX]at h;split at h
  ·rename_i a l1 AEF ls rs h1 h2;simp only[AGX,AG8]at h;obtain⟨rfl,rfl,rfl⟩:=h;exact⟨Alj H hb h1 (λk hk=>hl k (AHt _ hk)) (λk hk=>hr k (AHt _ hk)) (hh a (by simp)) hx.1,
    tf H hb h2 (λk hk=>hl k (AHu _ hk)) (λk hk=>hr k (AHu _ hk)) (λa ha=>hh a (by simp[ha])) hx.2⟩
  ·cases h
 |[],[],_,_,_,_::_,_,_,_,_,hx=>hx.elim
 |[],_::_,_,_,_,_,h,_,_,_,_=>by simp[bX]at h
 |_::_,[],_,_,_,_,h,_,_,_,_=>by simp[bX]at h
 |_::_,_::_,_,_,_,[],_,_,_,_,hx=>hx.elim
end
theorem jD{n:Nat}{π:List Nat}{j k:Nat}(h:π[j]?=some k):VH n π j=k:=by simp[VH,h]
theorem jC{n:Nat}{π:List Nat}{j:Nat}(h:π.length<=j):VH n π j=n+(j-π.length):=by
 have:π[j]?=none:=AHz h;simp[VH,this]
theorem vC(bs:List Blk):A8 [] bs=bs:=rfl
theorem gD{P:Program}{f:FuncId}{c:Callee}(hc:As P f c){bs:List Blk}{args:List AV}{e:G2}(h:VK c bs args some=some e) :
    bs.length<=e.Am.length/\(e.Bw=[]->∃l,e.Am=bs++l)/\∀(w:World) (g:G) (vs:List Value),Bc w g bs->Dd w g bs.length args vs->∀(o:Oper) (a:Act) (next:Act->World->Prop) (Q:Exit->Act->World->Prop),
     (∀v w' g',Bc w' g' e.Am->BR w' g' e.Am.length e.val v->Step e.Bw bs.length w g w' g'->next (a.put o.dst v) w')->o.upon P a next Q ((callFunc f vs.toArray).run P w):=by
 unfold VK at h;split at h
 ·cases h
 ·rename_i fq Kr Xc ua
  dsimp only at h
  split at h
  ·rename_i hck;simp only[AG2]at hck;obtain⟨⟨⟨⟨⟨Az2,QJ⟩,Ami⟩,S8⟩,hhd⟩,Awz⟩:=hck;generalize hπ:iV bs bs.length (aM [] Xc)=π at *;generalize AFq:(π.filter λk=>c.wj.contains (idxOf π k))=W4 at *;generalize hπ1:(π.filter λk=>!W4.contains k)=π1 at *;rw[hc.W9]at h;cases DR:c.run (AV×List Blk) (fq.map (·.M3 (idxOf π))) (π.map λk=>bif W4.contains k then .AH else((bs[k]?).getD .AH).M3 (idxOf π)) λv b=>some (v,b)with
   |none=>rw[DR]at h;cases h
   |some p =>
    obtain⟨av,E'⟩:=p;rw[DR]at h;simp only[AGV]at h;split at h
    ·rename_i RX;injection h with h;subst h;obtain⟨Oz,O4⟩:=hc.snd _ _ _ _ DR;rw[AG7]at Oz O4;have Ab8:∀k,k∈π1↔k∈π/\k∉W4:=λk=>by rw[<-hπ1];simp
     have Awo:∀k∈Kr,k∉π/\k<bs.length:=λk hk=>by
      have:=List.all_eq_true.1 Az2 k hk;simpa using this
     have hbp:∀k∈Kr,k∉π1/\k<bs.length:=λk hk=>⟨λh=>(Awo k hk).1 ((Ab8 k).1 h).1,(Awo k hk).2⟩;have Abd:∀k∈π,∃b,bs[k]?=some b/\(∀j∈b.Cf,j∈π)/\(k∈W4\/∀j∈b.Q3,j∉W4):=λk hk=>by
      have:=List.all_eq_true.1 S8 k hk;split at this
      ·rename_i b hb;simp only[AG2,Bool.or_eq_true]at this;exact⟨b,hb,λj hj=>by have:=List.all_eq_true.1 this.1 j hj;simpa using this,this.2.imp (λh=>by simpa using h) λh j hj=>by have:=List.all_eq_true.1 h j hj;simpa using this⟩
      ·cases this
     have hr':∀k∈Xc,k∈π:=λk hk=>by have:=List.all_eq_true.1 Ami k hk;simpa using this
     have hh':∀a∈fq,∀k∈a.Q3,k∈π->k∈π1:=λa ha k hk hp=>(Ab8 k).2 ⟨hp,by have:=List.all_eq_true.1 (List.all_eq_true.1 hhd a ha) k hk;simpa using this⟩;have AA6:∀k∈π,k<bs.length:=λk hk=>by obtain⟨b,hb,_⟩:=Abd k hk;exact AP hb
     let n:=bs.length
     let φ:=VH n π
     let E1:=List.zipWith (λk b=>bif W4.contains k then((A8 π1 bs)[k]?).getD .AH else(b.M3 φ).TG Kr) π E'
     let E2:=(E'.drop π.length).map λb=>(b.M3 φ).TG Kr
     have hE1:E1.length=π.length:=by simp only[E1,List.length_zipWith];omega
     have hlen:(Pn (A8 π1 bs) π E1++E2).length=n+(E'.length-π.length):=by
      rw[AGZ,XQ,Ay];simp[E2,n]
     refine⟨by show n<=(Pn (A8 π1 bs) π E1++E2).length;rw[hlen];omega,λh0=>?_,λw g vs H hx o a next Q hn=>?_⟩
     ·have h0:π1=[]:=h0;have h0':π=[]:=by rw[h0]at Awz;simpa using Awz
      refine⟨E2,?_⟩;show Pn (A8 π1 bs) π E1++E2=_;rw[h0,h0'];simp[Pn,vC]
     ·have Hc:=vr (Kr:=Kr) H QJ (λk h1 h2=>(Ab8 k).2 ⟨h1,h2⟩) Abd;have Ac:=tf (Kr:=Kr) H (λk hk=>(hbp k hk).1) ua (λk hk=>hk) hr' hh' hx;refine O4 w (g.call π π1 Kr) vs Hc Ac o a next Q λv w' gc H' hv st=>?_
      let g1:=g.back gc n π
      let g':=g.ret gc n π π1
      have Bj:∀b,g.own b≠.no->b<w.heap.size:=λb h=>Rv H h;have Tm:∀b k r,g.own b=.BG k r->k∉π1->(gc.own b=.H8/\k∈Kr\/gc.own b=.no)/\w'.heap[b]?=w.heap[b]?:=λb k r hb hk=>by
       by_cases hkb:k∈Kr
       ·have:=st.H8 b (by simp[G.call,hb,hk,hkb]);exact⟨.inl ⟨this.1,hkb⟩,this.2⟩
       ·have:=st.no b (Bj b (by rw[hb];simp)) (by simp[G.call,hb,hk,hkb]);exact⟨.inr this.1,this.2⟩
      have BH:Step π1 n w g w' g':=by
       refine⟨st.os,st.tape,st.output,st.size,λb hb h=>?_,λb h=>?_,λb k r h hk hm=>?_,λk hk=>?_⟩
       ·have:=st.no b hb (by simp[G.call,h]);exact⟨by simp[g',G.ret,this.1,h],this.2⟩
       ·have:=st.H8 b (by simp[G.call,h]);exact⟨by simp[g',G.ret,this.1,h],this.2⟩
       ·obtain⟨h1,h2⟩:=Tm b k r h hm;refine⟨?_,h2⟩;rcases h1 with ⟨h1,_⟩|h1<;>simp[g',G.ret,h1,h,hm]
       ·have TV:k<bs.length:=hk;simp[g',G.ret,n,TV]
      have Afq:∀j,j<E'.length->Ren φ gc g1 (n+(E'.length-π.length)) j:=λj hj=>by
       rcases AG6 j π.length with VU |VU
       ·obtain⟨k,hk⟩:∃k,π[j]?=some k:=⟨_,List.getElem?_eq_getElem VU⟩;have hkm:k∈π:=List.mem_of_getElem? hk;have dh:k<bs.length:=AA6 k hkm;refine⟨by rw[show φ j=k from jD hk];omega,?_,λb r hb=>by simp[g1,G.back,hb,φ]⟩;rw[show φ j=k from jD hk];have h1:gc.AU j=(g.call π π1 Kr).AU j:=st.AU j VU;rw[h1];simp[g1,G.back,n,dh,G.call,List.getD,hk]
       ·refine⟨by rw[show φ j=n+(j-π.length)from jC VU];omega,?_,λb r hb=>by simp[g1,G.back,hb,φ]⟩;rw[show φ j=n+(j-π.length)from jC VU];have:¬n+(j-π.length)<n:=by omega
        simp only[g1,G.back,AHe this];congr 1;omega
      have de:∀b,gc.own b=.H8->g1.own b=.H8:=λb hb=>by simp[g1,G.back,hb]
      have Awu:Dep Kr g1 g' (n+(E'.length-π.length)):=by
       refine⟨λb hb=>?_,λb k r hb hk=>?_,λk hk=>rfl,λk hk=>by have:=(hbp k hk).2;omega⟩
       ·have hgc:gc.own b=.H8:=by
          simp only[g1,G.back]at hb;split at hb
          ·cases hb
          ·exact hb
        cases hg:g.own b with
        |no=>exact .inl (by simp[g',G.ret,hgc,hg])
        |H8=>exact .inl (by simp[g',G.ret,hgc,hg])
        |BG k r =>
         by_cases hk:k∈π1
         ·exact .inl (by simp[g',G.ret,hgc,hg,hk])
         ·obtain⟨h1,_⟩:=Tm b k r hg hk;rcases h1 with ⟨_,hkb⟩|h1
          ·exact .inr ⟨k,hkb,r,by simp[g',G.ret,hgc,hg,hk]⟩
          ·rw[hgc]at h1;cases h1
       ·simp only[g1,G.back]at hb;split at hb
        ·rename_i j r' hj;simp only[g',G.ret,hj];exact hb
        ·rename_i h1;exact(h1 k r hb).elim
      refine hn v w' g' ⟨λb hb=>?_,λk x hx=>?_⟩ ?_ BH
      ·have h1:=H'.BN b hb;have h2:=H.BN b (AHp st.size hb);simp[g',G.ret,h1,h2]
      ·have hx:(Pn (A8 π1 bs) π E1++E2)[k]?=some x:=hx;show LP w' g' (Pn (A8 π1 bs) π E1++E2).length k x;rw[hlen];have one:∀(j:Nat) (b:Blk),E'[j]?=some b->LP w' g' (n+(E'.length-π.length)) (φ j) ((b.M3 φ).TG Kr):=λj b hj=>by
        have VU:=AP hj;have hb:=H'.Lf j b hj;have hbr:=hb.M3 de (Afq j VU) λi hi=>Afq i (by
         cases b with
         |AH=>cases hi
         |map m kt vt es st=>exact hb.1 i hi
         |Qk e t xs i' p=>cases hi
         |tail e t xs=>cases hi
         |box a=>obtain⟨_,_,_,_,_,_,_,hx⟩:=hb;exact Cq.RO a false hx i hi
         |row e m t xs=>exact hb.1 i hi)
        exact hbr.TG Awu (Afq j VU).lt
       rw[AHl]at hx;split at hx
       ·have fW:∀y,(A8 π1 bs)[k]?=some y->k∉π1->LP w' g' (n+(E'.length-π.length)) k y:=λy hy hk=>by
          obtain⟨z,hz,rfl⟩:=C4 hy;exact(H.Lf k z hz).step BH (by omega) (AP hz) hk
        rcases dZ hE1 hx with ⟨hk,h⟩|⟨j,hj,h⟩
        ·exact fW x h λh1=>hk ((Ab8 k).1 h1).1
        ·simp only[E1,List.getElem?_zipWith,hj]at h;cases hq:E'[j]? with
         |none=>rw[hq]at h;cases h
         |some b =>
          rw[hq]at h;injection h with h;cases hc:W4.contains k with
          |true =>
           rw[hc,AHb]at h;have hkh:k∈W4:=by simpa using hc
           cases hd:(A8 π1 bs)[k]? with
           |none=>rw[hd]at h;subst h;trivial
           |some y=>rw[hd]at h;subst h;exact fW _ hd λh1=>((Ab8 k).1 h1).2 hkh
          |false =>
           rw[hc,AHa]at h;subst h;have:=one j b hq;rwa [show φ j=k from jD hj]at this
       ·rename_i hk;rw[XQ,Ay]at hx hk;simp only[E2,AHo,List.getElem?_drop]at hx;cases hq:E'[π.length+(k-bs.length)]? with
        |none=>rw[hq]at hx;cases hx
        |some b =>
         rw[hq]at hx;injection hx with hx;subst hx;have:=one _ b hq;rwa [show φ (π.length+(k-bs.length))=k from by
          rw[show φ (π.length+(k-bs.length))=n+(π.length+(k-bs.length)-π.length)from jC (by omega)];simp only[n];omega]at this
      ·show BR w' g' (Pn (A8 π1 bs) π E1++E2).length ((av.M3 φ).TG Kr) v;rw[hlen];exact(hv.M3 de λk hk=>Afq k (hv.RO k hk)).TG Awu
    ·cases h
  ·cases h
def Ag0(l:List Nat)(c:Callee):Callee:={c with wj:=l}
theorem AbU{P:Program}{f:FuncId}{c:Callee}(l:List Nat)(h:As P f c):As P f (Ag0 l c):=⟨h.W9,h.snd⟩
theorem kX{r q L:List Nat}{a b:Nat}(h:(r++a::L) <:+ (q++b::L)):a=b:=by
 obtain⟨s,hs⟩:=h;have:(s++r)++(a::L)=q++(b::L):=by simpa using hs
 have:=List.append_inj_right' this rfl;injection this
theorem dA:∀(f:Nat) (L:List Nat),∃r,fR f L=r++L
 |0,L=>⟨[0],rfl⟩
 |f+1,L=>by
  obtain⟨r,h⟩:=dA f (1::L);exact⟨r++[1],by rw[fR,h];simp⟩
theorem Yy:∀(p L:List Nat),∃r,Sw p L=r++L
 |[],L=>⟨[],rfl⟩
 |f::p,L=>by
  obtain⟨r,hr⟩:=Yy p (fR f L);obtain⟨s,hs⟩:=dA f L;exact⟨r++s,by rw[Sw,hr,hs,AG3]⟩
def Fr(w:World)(own:Nat->Sf)(w':World)(MZ:Nat->Sf)(k:Nat)(P:List Nat):Prop:=∀b q,own b=.BG k q->¬P <:+ q->MZ b=.BG k q/\w'.heap[b]?=w.heap[b]?
def Aec(w:World)(own:Nat->Sf)(k:Nat)(u:Ty)(zs:List u.V)(P:List Nat)(t:Ty)(L:List Nat)(x':t.V)(ys:List u.V)(cs:List Value)(o:Nat):Prop :=
 ∃c0 c1 c2,cs=c0++c1++c2/\c0.length=o/\I7 w own k (.sl u) P ys c1/\∀w' MZ Rl,Fr w own w' MZ k P->I7 w' MZ k (.sl u) P zs Rl->I7 w' MZ k t L x' (c0++Rl++c2)
section
variable {w:World} {own:Nat->Sf} {k:Nat} {u:Ty} {zs:List u.V}
theorem sib{w':World}{MZ:Nat->Sf}{P:List Nat}{t:Ty}{L:List Nat}{x:t.V}{cs:List Value}(bk:Fr w own w' MZ k P)(hP:∀q,¬P <:+ (q++L))(h:I7 w own k t L x cs):I7 w' MZ k t L x cs :=
 h.mono λb q hb=>bk b _ hb (hP q)
theorem oh(p:List Nat)(ih:∀(t:Ty) (L:List Nat) (x x':t.V) (cs:List Value) (o:Nat) (ys:List u.V),Re (.sl u) zs p t x=some x'->cX (.sl u) p t x=some ys->KO t p=some o->I7 w own k t L x cs->Aec w own k u zs (Sw p L) t L x' ys cs o) :
    ∀(f:Nat) (t:Ty) (L:List Nat) (x x':t.V) (cs:List Value) (t1:Ty) (o1 o2:Nat) (ys:List u.V),Qx t x f (λt' y=>Re (.sl u) zs p t' y)=some x'->AlH t x f (λt' y=>cX (.sl u) p t' y)=some ys ->
     eN t f=some t1->R3 t f=some o1->KO t1 p=some o2->I7 w own k t L x cs->Aec w own k u zs (Sw p (fR f L)) t L x' ys cs (o1+o2)
 |0,.Au a b,L,x,x',cs,t1,o1,o2,ys,hs,hg,ht,ho,fF,h=>by
  obtain⟨c,d,e,h1,h2⟩:=h;simp only[eN,AGX]at ht;subst ht;simp only[R3,AGX]at ho;subst ho;simp only[Qx]at hs;split at hs
  ·rename_i y hy;injection hs with hs;subst hs;obtain⟨c0,c1,c2,e2,hl,hr,hk⟩:=ih a (0::L) x.1 y c o2 ys hy hg fF h1;refine⟨c0,c1,c2++d,by rw[e,e2];simp only[AG3],by omega,hr,λw' MZ Rl bk hz=>⟨c0++Rl++c2,d,by simp only[AG3],hk w' MZ Rl bk hz,sib bk (λq hq=>?_) h2⟩⟩;obtain⟨r,hr⟩:=Yy p (fR 0 L);rw[hr]at hq;have:=kX (r:=r) (q:=q) (L:=L) (a:=0) (b:=1) hq;cases this
  ·cases hs
 |f+1,.Au a b,L,x,x',cs,t1,o1,o2,ys,hs,hg,ht,ho,fF,h=>by
  obtain⟨c,d,e,h1,h2⟩:=h;simp only[eN]at ht;simp only[R3]at ho;split at ho
  ·rename_i o3 ho3;injection ho with ho;subst ho;simp only[Qx]at hs;split at hs
   ·rename_i y hy;injection hs with hs;subst hs;obtain⟨c0,c1,c2,e2,hl,hr,hk⟩:=oh p ih f b (1::L) x.2 y d t1 o3 o2 ys hy hg ht ho3 fF h2;refine⟨c++c0,c1,c2,by rw[e,e2];simp only[AG3],by rw[AGZ,h1.len];omega,hr,λw' MZ Rl bk hz=>⟨c,c0++Rl++c2,by simp only[AG3],sib bk (λq hq=>?_) h1,hk w' MZ Rl bk hz⟩⟩;obtain⟨r,hr⟩:=Yy p (fR (f+1) L);obtain⟨s,hs⟩:=dA f (1::L);rw[hr,fR,hs,<-AG3]at hq;have:=kX (r:=r++s) (q:=q) (L:=L) (a:=1) (b:=0) hq;cases this
   ·cases hs
  ·cases ho
 |f,.int _,_,_,_,_,_,_,_,_,hs,_,_,_,_,_=>by simp[Qx]at hs
 |f,.bool,_,_,_,_,_,_,_,_,hs,_,_,_,_,_=>by simp[Qx]at hs
 |f,.str,_,_,_,_,_,_,_,_,hs,_,_,_,_,_=>by simp[Qx]at hs
 |f,.unit,_,_,_,_,_,_,_,_,hs,_,_,_,_,_=>by simp[Qx]at hs
 |f,.sl _,_,_,_,_,_,_,_,_,hs,_,_,_,_,_=>by simp[Qx]at hs
 |f,.P3 _,_,_,_,_,_,_,_,_,hs,_,_,_,_,_=>by simp[Qx]at hs
theorem dN:∀(p:List Nat) (t:Ty) (L:List Nat) (x x':t.V) (cs:List Value) (o:Nat) (ys:List u.V),Re (.sl u) zs p t x=some x'->cX (.sl u) p t x=some ys->KO t p=some o->I7 w own k t L x cs->Aec w own k u zs (Sw p L) t L x' ys cs o
 |[],t,L,x,x',cs,o,ys,hs,hg,ho,h=>by
  simp only[KO,AGX]at ho;subst ho;obtain⟨e,he⟩:=BA hs;obtain⟨e',he'⟩:=BA hg;subst e;simp only at he he';subst he;subst he';exact⟨[],cs,[],by simp,rfl,h,λw' MZ Rl _ hz=>by simpa [Sw]using hz⟩
 |f::p,t,L,x,x',cs,o,ys,hs,hg,ho,h=>by
  simp only[KO]at ho;split at ho
  ·rename_i t1 o1 h1 h2;split at ho
   ·rename_i o2 h3;injection ho with ho;subst ho;exact oh p (dN p) f t L x x' cs t1 o1 o2 ys hs hg h1 h2 h3 h
   ·cases ho
  ·cases ho
end
def G.cG(g:G)(n k:Nat)(P:List Nat)(i:BI):G:=⟨λb=>match g.own b with |.BG j q=>if j=k/\P <:+ q then .BG n (q.take (q.length-P.length))else .BG j q |t=>t,λj=>if j=n then i else g.AU j⟩
def G.ZT(g:G)(n k:Nat)(P:List Nat):G:=⟨λb=>match g.own b with |.BG j q=>if j=n then .BG k (q++P)else .BG j q |t=>t,g.AU⟩
section
variable {w:World} {g:G} {bs:List Blk}
theorem Ww{n k:Nat}{P:List Nat}{i:BI}{b:Nat}{q:List Nat}(h:g.own b=.BG k (q++P)):(g.cG n k P i).own b=.BG n q:=by
 have:P <:+ (q++P):=⟨q,rfl⟩;simp[G.cG,h,this]
theorem UA{n k:Nat}{P:List Nat}{i:BI}{b j:Nat}{q:List Nat}(h:g.own b=.BG j q)(hn:¬(j=k/\P <:+ q)):(g.cG n k P i).own b=.BG j q:=by
 simp only[G.cG,h,AHe hn]
theorem tj{n k:Nat}{P:List Nat}{b:Nat}{q:List Nat}(h:g.own b=.BG n q):(g.ZT n k P).own b=.BG k (q++P):=by simp[G.ZT,h]
theorem aS{n k:Nat}{P:List Nat}{b j:Nat}{q:List Nat}(h:g.own b=.BG j q)(hn:j≠n):(g.ZT n k P).own b=.BG j q:=by simp only[G.ZT,h,AHe hn]
theorem eE{k:Nat}{P:List Nat}{i:BI}:Step [k] bs.length w g w (g.cG bs.length k P i) where
 os:=rfl
 tape:=rfl
 output:=rfl
 size:=AG1 _
 no b _ h:=⟨by simp[G.cG,h],rfl⟩
 H8 b h:=⟨by simp[G.cG,h],rfl⟩
 BG b j q h hj hm:=⟨UA h λhc=>hm (by simp[hc.1]),rfl⟩
 AU j hj:=by simp[G.cG,Nat.ne_of_lt hj]
theorem pI{n k N:Nat}{P:List Nat}:Step [n,k] N w g w (g.ZT n k P) where
 os:=rfl
 tape:=rfl
 output:=rfl
 size:=AG1 _
 no b _ h:=⟨by simp[G.ZT,h],rfl⟩
 H8 b h:=⟨by simp[G.ZT,h],rfl⟩
 BG b j q h hj hm:=⟨aS h λhc=>hm (by simp[hc]),rfl⟩
 AU j hj:=rfl
theorem QS{A:Type}{l:List A}{k j:Nat}{x y:A}(h:(l.set k x)[j]?=some y):(j=k/\y=x)\/(j≠k/\l[j]?=some y):=by
 rw[AHk]at h;split at h
 ·rename_i e;subst e;split at h
  ·injection h with h;exact .inl ⟨rfl,h.symm⟩
  ·cases h
 ·rename_i e;exact .inr ⟨λh=>e h.symm,h⟩
theorem Be.dJ{A:Type}{I J:Nat->A->List Value->Prop}:∀{lo:Nat} {xs:List A} {cs:List Value},(∀j x c,lo<=j->j<lo+xs.length->I j x c->J j x c)->Be I lo xs cs->Be J lo xs cs
 |_,[],_,_,h=>h
 |lo,_::xs,_,h,⟨c,d,e,r,l⟩=>⟨c,d,e,h _ _ _ (AG1 _) (by simp) r,Be.dJ (λj x c h1 h2=>h j x c (by omega) (by simp only[List.length_cons];omega)) l⟩
theorem Wx(H:Bc w g bs){k ek:Nat}{t u:Ty}{xs:List t.V}(hb:bs[k]?=some (.row ek .Ai t xs)){i:Int}{p:List Nat}{o:Nat}(hi:i.toNat<(g.AU k).len){ys:List u.V}
    (hg:cX (.sl u) p t (xs.getD i.toNat t.zero)=some ys) (ho:KO t p=some o) (hu:u.size≠0) {b:Nat} (MR:(g.AU k).a=some ⟨b,0,none⟩) {v:Value} (hv:w.cell? ⟨b,i.toNat*(g.AU k).gP+o,none⟩=some v)
    {zs:List u.V} {x':t.V} (hs:Re (.sl u) zs p t (xs.getD i.toNat t.zero)=some x') :
    ∃g1,Bc w g1 ((A8 [k] bs).set k .AH++[.row 0 .Ai u ys])/\Step [k] bs.length w g w g1/\BR w g1 (bs.length+1) (.Ak bs.length) v /\
     (∀(w':World) (g2:G) (N:Nat) (e0:Nat),(∀b q,g1.own b=.BG k q->g2.own b=.BG k q/\w'.heap[b]?=w.heap[b]?)->(∀j,j<=bs.length->g2.AU j=g1.AU j) ->
      LP w' g2 N bs.length (.row e0 .Ai u zs)->LP w' (g2.ZT bs.length k (Sw p [i.toNat])) N k (.row ek .Ai t (xs.set i.toNat x'))) /\
     (zs=[]->tyP t p=some (.sl u)->0<=i->∀N,LP w g1 N k (.Qk ek t xs i p)):=by
 have fE:=AP hb;obtain⟨PZ,hlen,OU,BF,hr⟩:=H.Lf k _ hb;have Bj:i.toNat<xs.length:=by rw[<-hlen];exact hi
 rcases hr with ⟨Vk,_⟩|⟨b',Bs,ds,ha,Ce,⟨el,R8,hh⟩,OS,qa,hc3,hc4,OT⟩
 ·rw[Vk]at Bj;simp at Bj
 rw[MR]at ha;injection ha with ha;injection ha with ha;subst ha;have OT:Be (λi=>I7 w g.own k t [i]) 0 xs ds:=OT;obtain⟨c0,c,d,e1,bl,uo,vY,aF⟩:=Be.AU (λi x c h=>I7.len h) OT Bj;rw[AHr]at uo aF;have hgd:xs.getD i.toNat t.zero=xs[i.toNat]:=by simp[List.getD,Bj]
 let P:=Sw p [i.toNat]
 obtain⟨r0,hP⟩:=Yy p [i.toNat];obtain⟨a0,a1,a2,e2,YX,hys,XE⟩:Aec w g.own k u zs P t [i.toNat] x' ys c o:=dN p t [i.toNat] (xs.getD i.toNat t.zero) x' c o ys hs hg ho (by rw[hgd];exact uo);have AA2:=hys;obtain⟨ad,cap,e3,Od⟩:=AA2;have hvh:v=.slice ad ys.length cap:=by
  rw[OZ hh,<-AG9,OU]at hv;have hq:ds[i.toNat*t.size+o]?=some (.slice ad ys.length cap):=by
   rw[e1,e2,e3,AG3,AHh (by omega),bl];rw[show i.toNat*t.size+o-i.toNat*t.size=a0.length by omega];simp
  subst hc4;rw[List.getElem?_take]at hq;split at hq
  ·rw[hv]at hq;injection hq
  ·cases hq
 let i1:BI:=⟨ad,ys.length,cap,u.size⟩
 let n:=bs.length
 let g1:=g.cG n k P i1
 have st:Step [k] n w g w g1:=eE;have Rn:g1.AU n=i1:=by simp[g1,G.cG]
 have dh:k≠n:=by simp only[n];omega
 have gX:((A8 [k] bs).set k Blk.AH++[Blk.row 0 .Ai u ys]).length=n+1:=by simp[Ay,n]
 refine⟨g1,?_,st,?_,?_,?_⟩
 ·refine H.XW st (λb hb=>by simp[g1,G.cG,H.BN b hb]) (by rw[gX];omega) λj x hj=>?_;rw[AHl]at hj;split at hj
  ·rcases QS hj with ⟨rfl,rfl⟩|⟨I8,hj⟩
   ·exact .inl rfl
   ·obtain⟨y,hy,rfl⟩:=C4 hj;exact .inr (.inl ⟨by simpa using I8,y,hy,rfl⟩)
  ·rename_i YW;simp only[AG4,Ay]at hj YW;have gU:j-bs.length=0:=by
    rcases AHj (j-bs.length)with h |h
    ·exact h
    ·rw[AHz (by simp;omega)]at hj;cases hj
   rw[gU]at hj;obtain rfl:j=n:=by simp only[n];omega
   simp only[List.getElem?_cons_zero,AGX]at hj;subst hj;refine .inr (.inr ⟨λj hj=>(by cases hj),by rw[Rn],by rw[Rn],Nat.pos_of_ne_zero hu,?_⟩);rw[Rn];refine Od.imp id λ⟨b,el,Bs,ds,q1,q2,q3,q4,q5,q6,q7,q8⟩=>⟨b,Bs,ds,q1,Ww (q:=[]) (by simpa using q2),⟨el,.inl rfl,q3⟩,q4,q5,q6,q7,?_⟩;exact q8.mono λi x c r=>r.mono λb q hb=>⟨Ww (by simpa using hb),rfl⟩
 ·rw[hvh];exact Bn (cs:=[_]) rfl ⟨AHB _,by rw[Rn]⟩ rfl
 ·intro w' g2 N e0 Tm Awi hB;obtain⟨_,uj,_,_,vZ⟩:=hB;have AzX:g2.AU n=i1:=by rw[Awi n (AG1 _),Rn]
  rw[AzX]at uj vZ;have hzl:zs.length=ys.length:=uj.symm;have hz:I7 w' (g2.ZT n k P).own k (.sl u) P zs a1:=by
   refine⟨ad,cap,by rw[e3,hzl],vZ.imp id λ⟨b,Bs,ds,q1,q2,⟨el,_,q3⟩,q4,q5,q6,q7,q8⟩=>⟨b,el,Bs,ds,q1,by simpa using tj (P:=P) (k:=k) q2,q3,q4,q5,q6,q7,?_⟩⟩;have q8:Be (λi=>I7 w' g2.own n u [i]) 0 zs ds:=q8;exact q8.mono λi x c r=>r.mono λb q hb=>⟨by simpa using tj (P:=P) (k:=k) hb,rfl⟩
  have bk:Fr w g.own w' (g2.ZT n k P).own k P:=λb q hb hn=>by
   have h1:=Tm b q (UA hb λhc=>hn hc.2);exact⟨aS h1.1 dh,h1.2⟩
  have uf:=XE w' _ _ bk hz;rw[<-e2]at uf;have kl:∀j,j≠i.toNat->∀{x:t.V} {c:List Value},I7 w g.own k t [j] x c->I7 w' (g2.ZT n k P).own k t [j] x c:=λj hj x c h=>sib bk (λq hq=>by
   rw[show P=r0++i.toNat::[]from hP]at hq;exact hj (kX (L:=[]) hq).symm) h
  have oa:=Be.join Bj (Be.dJ (λj x c _ h2 h=>kl j (by rw[AHg]at h2;omega) h) vY) (by rw[AHr];exact uf) (Be.dJ (λj x c h1 _ h=>kl j (by omega) h) (by rw[AHr];exact aF));have P9:=bk b [] Ce (by
   rw[show P=r0++[i.toNat]from hP]
   rintro⟨s,hs⟩
   simp at hs)
  have Qi:(g2.ZT n k P).AU k=g.AU k:=by
   show g2.AU k=_;rw[Awi k (by omega)];simp[g1,G.cG,dh]
  refine⟨λj hj=>(by cases hj),by rw[Qi,AG4];exact hlen,by rw[Qi];exact OU,BF,.inr ⟨b,Bs,ds,by rw[Qi];exact MR,P9.1,⟨el,R8,P9.2.trans hh⟩,by rw[Qi,AG4];exact OS,by rw[Qi];exact qa,by rw[Qi];exact hc3,by rw[AG4];exact hc4,?_⟩⟩;show Be _ 0 _ ds;rw[e1];exact oa
 ·intro hz0 aI h0 N;subst hz0;have bk:Fr w g.own w g1.own k P:=λb q hb hn=>⟨UA hb λhc=>hn hc.2,rfl⟩;have uf:=XE w g1.own [.slice none 0 0] bk ⟨none,0,rfl,.inl ⟨rfl,rfl⟩⟩;have kl:∀j,j≠i.toNat->∀{x:t.V} {c:List Value},I7 w g.own k t [j] x c->I7 w g1.own k t [j] x c:=λj hj x c h=>sib bk (λq hq=>by
   rw[show P=r0++i.toNat::[]from hP]at hq;exact hj (kX (L:=[]) hq).symm) h
  have oa:=Be.join Bj (Be.dJ (λj x c _ h2 h=>kl j (by rw[AHg]at h2;omega) h) vY) (by rw[AHr];exact uf) (Be.dJ (λj x c h1 _ h=>kl j (by omega) h) (by rw[AHr];exact aF));have P9:=bk b [] Ce (by
   rw[show P=r0++[i.toNat]from hP]
   rintro⟨s,hs⟩
   simp at hs)
  have Qi:g1.AU k=g.AU k:=by simp[g1,G.cG,dh]
  refine⟨by rw[Qi];exact hlen,by rw[Qi];exact OU,BF,h0,Bj,u,o,x',b,Bs,_,ho,aI,hs,by rw[Qi];exact MR,P9.1,⟨el,R8,hh⟩,by rw[Qi];exact OS,by rw[Qi];exact qa,by rw[Qi];exact hc3,rfl,?_⟩;rw[Array.toList_setIfInBounds,List.take_set,hc4,e1,e2,e3];have:(c0++(a0++[Value.slice ad ys.length cap]++a2)++d).set (i.toNat*t.size+o) (.slice none 0 0)=c0++(a0++[.slice none 0 0]++a2)++d:=by
   rw[<-bl,<-YX,AG3,AG3,AG3,List.set_append_right _ _ (by omega),List.set_append_right _ _ (by omega),show c0.length+a0.length-c0.length-a0.length=0 by omega];simp
  rw[this];exact oa
theorem wF(H:Bc w g bs){k ek:Nat}{t u:Ty}{xs:List t.V}(hb:bs[k]?=some (.row ek .Ai t xs)){i:Int}{p:List Nat}{o:Nat}(hi:i.toNat<(g.AU k).len){ys zs:List u.V}{x':t.V}
    (hg:cX (.sl u) p t (xs.getD i.toNat t.zero)=some ys) (hs:Re (.sl u) zs p t (xs.getD i.toNat t.zero)=some x') (ho:KO t p=some o) {b:Nat} (MR:(g.AU k).a=some ⟨b,0,none⟩) :
    ∃ad c,w.cell? ⟨b,i.toNat*(g.AU k).gP+o,none⟩=some (.slice ad ys.length c):=by
 obtain⟨PZ,hlen,OU,BF,hr⟩:=H.Lf k _ hb;have Bj:i.toNat<xs.length:=by rw[<-hlen];exact hi
 rcases hr with ⟨Vk,_⟩|⟨b',Bs,ds,ha,Ce,⟨el,R8,hh⟩,OS,qa,hc3,hc4,OT⟩
 ·rw[Vk]at Bj;simp at Bj
 rw[MR]at ha;injection ha with ha;injection ha with ha;subst ha;have OT:Be (λi=>I7 w g.own k t [i]) 0 xs ds:=OT;obtain⟨c0,c,d,e1,bl,uo,vY,aF⟩:=Be.AU (λi x c h=>I7.len h) OT Bj;rw[AHr]at uo;have hgd:xs.getD i.toNat t.zero=xs[i.toNat]:=by simp[List.getD,Bj]
 obtain⟨a0,a1,a2,e2,YX,⟨ad,cap,e3,_⟩,_⟩:=dN p t [i.toNat] (xs.getD i.toNat t.zero) x' c o ys hs hg ho (by rw[hgd];exact uo);refine⟨ad,cap,?_⟩;rw[OZ hh,<-AG9,OU];have hq:ds[i.toNat*t.size+o]?=some (.slice ad ys.length cap):=by
  rw[e1,e2,e3,AG3,AHh (by omega),bl];rw[show i.toNat*t.size+o-i.toNat*t.size=a0.length by omega];simp
 subst hc4;rw[List.getElem?_take]at hq;split at hq
 ·exact hq
 ·cases hq
end
theorem dM:∀{l:List AV} {j0 j k:Nat} {a:AV} {i:Int} {p:List Nat} {o:Nat},oU j0 l=some (j,a,k,i,p,o)->j0<=j/\l[j-j0]?=some a/\a.Oi=some (k,i,p,o)
 |[],_,_,_,_,_,_,_,h=>by simp[oU]at h
 |b::r,j0,j,k,a,i,p,o,h=>by
  simp only[oU]at h;split at h
  ·rename_i k' i' p' o' hg;simp only[AGX,AG8]at h;obtain⟨rfl,rfl,rfl,rfl,rfl,rfl⟩:=h;exact⟨AG1 _,by simp,hg⟩
  ·obtain⟨h1,h2,h3⟩:=dM h;refine⟨by omega,?_,h3⟩;rw[show j-j0=(j-(j0+1))+1 by omega,List.getElem?_cons_succ];exact h2
theorem ZE{w:World}{g:G}{n:Nat}:∀{a:AV} {cs:List Value} {k:Nat} {i:Int} {p:List Nat} {o:Nat},Cq w g n false a cs->a.Oi=some (k,i,p,o) ->
    k<n/\0<=i/\i.toNat<(g.AU k).len/\∃b v,(g.AU k).a=some ⟨b,0,none⟩/\g.own b=.BG k []/\w.cell? ⟨b,i.toNat*(g.AU k).gP+o,none⟩=some v
 |.R1 k i p o e,cs,_,_,_,_,⟨hk,h0,h1,b,v,ha,ho,e1,e2,hc⟩,h=>by
  simp only[AV.Oi,AGX,AG8]at h;obtain⟨rfl,rfl,rfl,rfl⟩:=h;exact⟨hk,h0,h1,b,v,ha,ho,hc⟩
 |.pr a b,cs,k,i,p,o,⟨c,d,e,h1,h2⟩,h=>by
  simp only[AV.Oi]at h;split at h
  ·rename_i z hz;injection h with h;subst h;exact ZE h1 hz
  ·exact ZE h2 h
 |.AA _ _ _,_,_,_,_,_,_,h=>by simp[AV.Oi]at h
 |.zs,_,_,_,_,_,_,h=>by simp[AV.Oi]at h
 |.Ak _,_,_,_,_,_,_,h=>by simp[AV.Oi]at h
 |.mp _,_,_,_,_,_,_,h=>by simp[AV.Oi]at h
 |.ptr _ _ _ _,_,_,_,_,_,_,h=>by simp[AV.Oi]at h
 |.Eh _ _ _,_,_,_,_,_,_,h=>by simp[AV.Oi]at h
 |.Lw,_,_,_,_,_,_,h=>by simp[AV.Oi]at h
 |.fn _ _,_,_,_,_,_,_,h=>by simp[AV.Oi]at h
 |.un _,_,_,_,_,_,_,h=>by simp[AV.Oi]at h
 |.cons _ _,_,_,_,_,_,h,_=>h.elim
 |.nil,_,_,_,_,_,h,_=>h.elim
theorem rS{a:AV}{z:Nat×Int×List Nat×Nat}(h:a.Oi=some z)(N:Nat):a.CZ=false/\a.MX=false/\(a.XL N).CZ=false/\(a.XL N).isAgg=a.isAgg:=by
 cases a with
 |R1 k i p o e=>exact⟨rfl,rfl,rfl,rfl⟩
 |pr a b =>
  refine⟨rfl,rfl,?_,?_⟩
  ·simp only[AV.XL];split<;>rfl
  ·simp only[AV.XL];split<;>rfl
 |_=>simp[AV.Oi]at h
theorem kR{w:World}{g g1:G}{n N k:Nat}(st:Step [k] n w g w g1){i:Int}{p:List Nat}{o:Nat}{v b:_}(MR:(g.AU k).a=some ⟨b,0,none⟩)(hc:w.cell? ⟨b,i.toNat*(g.AU k).gP+o,none⟩=some v)(hr:Cq w g1 (n+1) false (.Ak N) [v]) :
    ∀{a:AV} {cs:List Value},Cq w g n false a cs->a.Oi=some (k,i,p,o)->(∀q∈(a.XL N).Cf,[k].contains q=false)->Cq w g1 (n+1) false (a.XL N) cs
 |.R1 _ _ _ _ _,cs,⟨_,_,_,b',v',ha,_,e1,_,hc'⟩,h,_=>by
  simp only[AV.Oi,AGX,AG8]at h;obtain⟨rfl,rfl,rfl,rfl⟩:=h;rw[MR]at ha;injection ha with ha;injection ha with ha;subst ha;rw[hc]at hc';injection hc' with hc';subst hc';rw[e1];exact hr
 |.pr a b,cs,⟨c,d,e,h1,h2⟩,h,hq=>by
  simp only[AV.Oi]at h;simp only[AV.XL]at hq⊢;split at h
  ·rename_i z hz;injection h with h;subst h;rw[hz]at hq;refine⟨c,d,e,kR st MR hc hr h1 hz λq fG=>hq q (by simp[AV.Cf,fG]),?_⟩;have:=Cq.step st (AHw n) b false h2;rwa [M7 λq fG=>hq q (by simp[AV.Cf,fG])]at this
  ·rename_i hz;rw[hz]at hq;refine⟨c,d,e,?_,kR st MR hc hr h2 h λq fG=>hq q (by simp[AV.Cf,fG])⟩;have:=Cq.step st (AHw n) a false h1;rwa [M7 λq fG=>hq q (by simp[AV.Cf,fG])]at this
 |.AA _ _ _,_,_,h,_=>by simp[AV.Oi]at h
 |.zs,_,_,h,_=>by simp[AV.Oi]at h
 |.Ak _,_,_,h,_=>by simp[AV.Oi]at h
 |.mp _,_,_,h,_=>by simp[AV.Oi]at h
 |.ptr _ _ _ _,_,_,h,_=>by simp[AV.Oi]at h
 |.Eh _ _ _,_,_,h,_=>by simp[AV.Oi]at h
 |.Lw,_,_,h,_=>by simp[AV.Oi]at h
 |.fn _ _,_,_,h,_=>by simp[AV.Oi]at h
 |.un _,_,_,h,_=>by simp[AV.Oi]at h
 |.cons _ _,_,h,_,_=>h.elim
 |.nil,_,h,_,_=>h.elim
theorem mr{w:World}{g:G}{n:Nat}:∀{l:List AV} {vs:List Value} {j:Nat} {a:AV},Dd w g n l vs->l[j]?=some a->∃v,vs[j]?=some v/\BR w g n a v
 |_::_,v::_,0,_,h,hx=>by simp at hx;subst hx;exact⟨v,rfl,h.1⟩
 |_::_,_::_,j+1,_,h,hx=>by
  obtain⟨v,hv,hr⟩:=mr (j:=j) h.2 (by simpa using hx);exact⟨v,by simpa using hv,hr⟩
 |[],[],_,_,_,hx=>by simp at hx
 |[],_::_,_,_,h,_=>h.elim
 |_::_,[],_,_,h,_=>h.elim
theorem gA{w:World}{g g1:G}{n n1:Nat}{a1:AV}:∀{l:List AV} {vs:List Value} {j:Nat} {v:Value},Dd w g n l vs->vs[j]?=some v->BR w g1 n1 a1 v->(∀a∈l.set j (.un 1),∀v,BR w g n a v->BR w g1 n1 a v)->Dd w g1 n1 (l.set j a1) vs
 |a::l,v0::vs,0,v,h,hv,hx,ht=>by
  simp at hv;subst hv;refine⟨hx,?_⟩;have key:∀{l:List AV} {vs:List Value},(∀a∈l,∀v,BR w g n a v->BR w g1 n1 a v)->Dd w g n l vs->Dd w g1 n1 l vs:=by
   intro l;induction l with
   |nil=>intro vs _ h;cases vs with
    |nil=>trivial
    |cons _ _=>exact h.elim
   |cons a l ih=>intro vs ht h;cases vs with
    |nil=>exact h.elim
    |cons v vs=>exact⟨ht a (by simp) v h.1,ih (λa ha=>ht a (by simp[ha])) h.2⟩
  exact key (λa ha=>ht a (by simp[ha])) h.2
 |a::l,v0::vs,j+1,v,h,hv,hx,ht=>⟨ht a (by simp) v0 h.1,gA h.2 (by simpa using hv) hx λa ha=>ht a (by simp[ha])⟩
 |[],[],_,_,_,hv,_,_=>by simp at hv
 |[],_::_,_,_,h,_,_,_=>h.elim
 |_::_,[],_,_,h,_,_,_=>h.elim
theorem vq{P:Program}{f:FuncId}{c:Callee}(hc:As P f c){bs:List Blk}{args:List AV}{e:G2}(h:cq c bs args some=some e) :
    bs.length<=e.Am.length/\(e.Bw=[]->∃l,e.Am=bs++l)/\∀(w:World) (g:G) (vs:List Value),Bc w g bs->Dd w g bs.length args vs->∀(o:Oper) (a:Act) (next:Act->World->Prop) (Q:Exit->Act->World->Prop),
     (∀v w' g',Bc w' g' e.Am->BR w' g' e.Am.length e.val v->Step e.Bw bs.length w g w' g'->next (a.put o.dst v) w')->o.upon P a next Q ((callFunc f vs.toArray).run P w):=by
 unfold cq at h;split at h
 ·exact gD hc h
 ·rename_i j a0 k i p of hix;split at h
  ·rename_i ek t xs hb;split at h
   ·rename_i u aI;split at h
    ·rename_i ys hg;split at h
     ·rename_i nX;obtain⟨gZ,hu,kj⟩:=nX;rw[Wt c hc.W9]at h;cases hx:VK c ((A8 [k] bs).set k Blk.AH++[Blk.row 0 .Ai u ys]) (args.set j (a0.XL bs.length)) some with
      |none=>rw[hx]at h;cases h
      |some e0 =>
       rw[hx]at h;simp only[AGV]at h;split at h
       ·cases h
       ·rename_i gY;split at h
        ·rename_i e1 u' zs' hn0;split at h
         ·rename_i zs nV;split at h
          ·rename_i x' F8;injection h with h;subst h;obtain⟨ec,hec⟩:=BA nV;injection ec with ec;have ec:=ec.symm;subst ec;simp only at hec;subst hec;obtain⟨hlen,_,Awp⟩:=gD hc hx;have fE:=AP hb;have lV:((A8 [k] bs).set k Blk.AH++[Blk.row 0 .Ai u ys]).length=bs.length+1:=by simp[Ay]
           rw[lV]at hlen;have Al8:k∉e0.Bw:=by simpa using gY
           refine⟨by simp only[AG4,Ay];omega,λhm=>by simp at hm,λw g vs H ua o a next Q hn=>?_⟩
           obtain⟨_,Ame,hG⟩:=dM hix;rw[Nat.sub_zero]at Ame;obtain⟨v,hvj,ub⟩:=mr ua Ame;obtain⟨pl1,pl2,pl3,pl4⟩:=rS hG bs.length;obtain⟨cs,RN,hval⟩:=BO pl1 pl2 ub;obtain⟨_,h0,hi,b,v',MR,Ce,CY⟩:=ZE RN hG;obtain⟨g1,H1,Qc,rz,XE,_⟩:=Wx H hb hi hg gZ hu MR CY F8;have AwY:∀a∈args.set j (a0.XL bs.length),∀q∈a.Cf,[k].contains q=false:=λa ha q hq=>by
            have:=List.all_eq_true.1 kj a ha;simp only[Bool.not_eq_true',List.contains_eq_mem,decide_eq_false_iff_not]at this;simp only[List.contains_eq_mem,AHm,decide_eq_false_iff_not];intro e;subst e;exact this hq
           have VU:=AP Ame;have Aw4:BR w g1 (bs.length+1) (a0.XL bs.length) v:=by
            obtain⟨cs1,AlQ,aJ⟩:=BO rfl rfl rz;have e1:cs1=[v']:=aJ;subst e1;exact Bn pl3 (kR Qc MR CY AlQ RN hG (AwY _ (List.mem_of_getElem? (i:=j) (by rw[List.getElem?_set_self VU])))) (by rw[pl4];exact hval)
           have AlL:Dd w g1 (bs.length+1) (args.set j (a0.XL bs.length)) vs:=gA ua hvj Aw4 λa ha v h=>by
            obtain⟨q,hq⟩:=List.getElem?_of_mem ha;rcases QS hq with ⟨rfl,rfl⟩|⟨I8,fG⟩
            ·exact PX
            ·have:=h.step Qc (AHw _);rwa [M7 (AwY a (List.mem_of_getElem? (i:=q) (by rw[List.getElem?_set_ne (Ne.symm I8)];exact fG)))]at this
           refine Awp w g1 vs H1 (by rw[lV];exact AlL) o a next Q λv2 w2 g2 H2 hv2 Oa=>?_
           rw[lV]at Oa;have dh:k≠bs.length:=by omega
           let N:=e0.Am.length
           have gW:(((A8 [k,bs.length] e0.Am).set bs.length Blk.AH).set k (.row ek .Ai t (xs.set i.toNat x'))).length=N:=by simp[Ay,N]
           have stA:Step [bs.length,k] N w2 g2 w2 (g2.ZT bs.length k (Sw p [i.toNat])):=pI;have Af4:Step [k,bs.length] N w2 g2 w2 (g2.ZT bs.length k (Sw p [i.toNat])):=stA.weaken (λq hq=>by simp at hq⊢;exact hq.symm) (AG1 _);have AbG:LP w2 (g2.ZT bs.length k (Sw p [i.toNat])) N k (.row ek .Ai t (xs.set i.toNat x')):=by
            refine XE w2 g2 N e1 (λb q hb=>Oa.BG b k q hb (by omega) Al8) (λj hj=>Oa.AU j (by omega)) (H2.Lf bs.length _ hn0)
           refine hn v2 w2 (g2.ZT bs.length k (Sw p [i.toNat])) ?_ ?_ ?_
           ·refine H2.XW Af4 (λb hb=>by simp[G.ZT,H2.BN b hb]) (by rw[gW];exact AG1 _) λj' y Qj=>?_;rw[gW];rcases QS Qj with ⟨rfl,rfl⟩|⟨I8,Qj⟩
            ·exact .inr (.inr AbG)
            ·rcases QS Qj with ⟨rfl,rfl⟩|⟨Amc,Qj⟩
             ·exact .inl rfl
             ·obtain⟨y',aL,rfl⟩:=C4 Qj;exact .inr (.inl ⟨by simp only[List.mem_cons,List.not_mem_nil,or_false,not_or];exact⟨I8,Amc⟩,y',aL,rfl⟩)
           ·rw[gW];exact hv2.step Af4 (AG1 _)
           ·refine⟨Oa.os.trans Qc.os,Oa.tape.trans Qc.tape,Oa.output.trans Qc.output,Oa.size,λb hb h=>?_,λb h=>?_,λb j' q h Qj hm=>?_,λj' Qj=>?_⟩
            ·have h1:=Qc.no b hb h;have h2:=Oa.no b hb h1.1;exact⟨by simp[G.ZT,h2.1],h2.2⟩
            ·have h1:=Qc.H8 b h;have h2:=Oa.H8 b h1.1;exact⟨by simp[G.ZT,h2.1],h2.2⟩
            ·simp only[List.mem_append,AHm,not_or]at hm;have h1:=Qc.BG b j' q h Qj (by simpa using hm.2);have h2:=Oa.BG b j' q h1.1 (by omega) hm.1;exact⟨aS h2.1 (by omega),h2.2⟩
            ·show g2.AU j'=_;rw[Oa.AU j' (by omega),Qc.AU j' Qj]
          ·cases h
         ·cases h
        ·cases h
     ·cases h
    ·cases h
   ·cases h
  ·cases h
end Go.Va
